/- Part of the proof that the law CertifySpec returns true and leaves its arguments as they were, for all arguments of bulk at most 1048576 (the Upto form). -/
import Derived.Test.YtnhhdmkikgdfkaaGreatA07
set_option linter.all false
section
namespace Go.Sx
open Go.Proofs
set_option maxRecDepth 100000
set_option linter.unusedSimpArgs false
def cmp_isNaN_int (x : Int) : Bool := (x != x)
def C_cmp_isNaN_int : List SV → Option Con := (pI fun x => pE (.det True (.v (.bool (cmp_isNaN_int x)))))
theorem ok_cmp_isNaN_int : FnOk Tryz.prog 67 C_cmp_isNaN_int := by
  have hG : ConsOk Tryz.prog (mkG [] []) := mkG_ok cg0 cg0
  refine fn_okN [.o] mixed ts_ok hG (fn := Tryz.f67) (c := bodyOf Tryz.f67) (by kernel_rfl) (by kernel_rfl) (by kernel_rfl) (by kernel_rfl) fun l con h hp => ?_
  unfold C_cmp_isNaN_int at h
  obtain ⟨x, l0, rfl, h0⟩ := pI_inv h
  obtain ⟨rfl, rfl⟩ := pE_inv h0
  clear h h0
  dsimp only [conPre] at hp
  refine ⟨Nat.le_of_ble_eq_true rfl, (fun id st => none), ?_, ?_⟩
  · unfold bodyOf Tryz.f67
    simp only [loopsOk, and_self, true_and, and_true]
  · unfold bodyOf Tryz.f67
    try unfold cmp_isNaN_int
    simp only [go_sem, Nat.reduceBEq, Nat.reduceLeDiff, Nat.reduceAdd, Nat.reduceSub, Nat.reduceMul, Int.reduceLE, Int.reduceLT, Int.reduceToNat, Int.reduceNeg, reduceCtorEq]
    all_goals exact cl
def cmp_Compare_int (x : Int) (y : Int) : Int := (bif (cmp_isNaN_int x) then (bif (cmp_isNaN_int y) then 0 else (-1)) else (bif (cmp_isNaN_int y) then 1 else (bif (decide (x < y)) then (-1) else (bif (decide (x > y)) then 1 else 0))))
def C_cmp_Compare_int : List SV → Option Con := (pI fun x => (pI fun y => pE (.det True (.v (.int .i64 (cmp_Compare_int x y))))))
theorem ok_cmp_Compare_int : FnOk Tryz.prog 52 C_cmp_Compare_int := by
  have hG : ConsOk Tryz.prog (mkG [(67, C_cmp_isNaN_int)] []) := mkG_ok (cgc ok_cmp_isNaN_int cg0) cg0
  refine fn_okN [.o] mixed ts_ok hG (fn := Tryz.f52) (c := bodyOf Tryz.f52) (by kernel_rfl) (by kernel_rfl) (by kernel_rfl) (by kernel_rfl) fun l con h hp => ?_
  unfold C_cmp_Compare_int at h
  obtain ⟨x, l0, rfl, h0⟩ := pI_inv h
  obtain ⟨y, l1, rfl, h1⟩ := pI_inv h0
  obtain ⟨rfl, rfl⟩ := pE_inv h1
  clear h h0 h1
  dsimp only [conPre] at hp
  refine ⟨Nat.le_of_ble_eq_true rfl, (fun id st => none), ?_, ?_⟩
  · unfold bodyOf Tryz.f52
    simp only [loopsOk, and_self, true_and, and_true]
  · unfold bodyOf Tryz.f52
    try unfold cmp_Compare_int
    simp only [go_sem, Nat.reduceBEq, Nat.reduceLeDiff, Nat.reduceAdd, Nat.reduceSub, Nat.reduceMul, Int.reduceLE, Int.reduceLT, Int.reduceToNat, Int.reduceNeg, reduceCtorEq, C_cmp_isNaN_int]
    all_goals exact cl
def ratio_magnitude (n : Int) : Int := (bif (decide (n < 0)) then (IntKind.u64.wrap (0 - (IntKind.u64.wrap n))) else (IntKind.u64.wrap n))
def C_ratio_magnitude : List SV → Option Con := (pI fun n => pE (.det True (.v (.int .u64 (ratio_magnitude n)))))
theorem ok_ratio_magnitude : FnOk Tryz.prog 97 C_ratio_magnitude := by
  have hG : ConsOk Tryz.prog (mkG [] []) := mkG_ok cg0 cg0
  refine fn_okN [.o] mixed ts_ok hG (fn := Tryz.f97) (c := bodyOf Tryz.f97) (by kernel_rfl) (by kernel_rfl) (by kernel_rfl) (by kernel_rfl) fun l con h hp => ?_
  unfold C_ratio_magnitude at h
  obtain ⟨n, l0, rfl, h0⟩ := pI_inv h
  obtain ⟨rfl, rfl⟩ := pE_inv h0
  clear h h0
  dsimp only [conPre] at hp
  refine ⟨Nat.le_of_ble_eq_true rfl, (fun id st => none), ?_, ?_⟩
  · unfold bodyOf Tryz.f97
    simp only [loopsOk, and_self, true_and, and_true]
  · unfold bodyOf Tryz.f97
    try unfold ratio_magnitude
    simp only [go_sem, Nat.reduceBEq, Nat.reduceLeDiff, Nat.reduceAdd, Nat.reduceSub, Nat.reduceMul, Int.reduceLE, Int.reduceLT, Int.reduceToNat, Int.reduceNeg, reduceCtorEq]
    all_goals exact cl
def ratio_Check (a : Ratio) : Int := (bif (((((decide (a.d < 1)) || (decide (a.d > 1073741824))) || (decide (a.n < (-1073741824)))) || (decide (a.n > 1073741824))) || (((divI (Int.toNat (ratio_magnitude a.n)) (Int.toNat (IntKind.u64.wrap a.d)) : Nat) : Int) != 1)) then 120 else 0)
def ratio_Check_p (a : Ratio) : Prop := (((((decide (a.d < 1)) || (decide (a.d > 1073741824))) || (decide (a.n < (-1073741824)))) || (decide (a.n > 1073741824))) = false → (0 ≤ (ratio_magnitude a.n) ∧ 0 ≤ (IntKind.u64.wrap a.d)))
theorem u64_nonneg (n : Int) : 0 ≤ IntKind.u64.wrap n := by
  simp [IntKind.wrap, IntKind.bits, IntKind.signed]; omega
theorem magnitude_nonneg (n : Int) : 0 ≤ ratio_magnitude n := by
  unfold ratio_magnitude
  cases decide (n < 0) <;> exact u64_nonneg _
theorem ratio_Check_pt (a : Ratio) : ratio_Check_p a := fun _ => ⟨magnitude_nonneg _, u64_nonneg _⟩
def C_ratio_Check : List SV → Option Con := (pD .ratio fun a => pE (.det True (.v (.int .i64 (ratio_Check a)))))
theorem ok_ratio_Check : FnOk Tryz.prog 90 C_ratio_Check := by
  have hG : ConsOk Tryz.prog (mkG [(96, C83), (97, C_ratio_magnitude)] []) := mkG_ok (cgc f83_ok (cgc ok_ratio_magnitude cg0)) cg0
  refine fn_okN [.o] mixed ts_ok hG (fn := Tryz.f90) (c := bodyOf Tryz.f90) (by kernel_rfl) (by kernel_rfl) (by kernel_rfl) (by kernel_rfl) fun l con h hp => ?_
  unfold C_ratio_Check at h
  obtain ⟨a, l0, rfl, h0⟩ := pD_inv h
  obtain ⟨rfl, rfl⟩ := pE_inv h0
  clear h h0
  dsimp only [conPre] at hp
  have hp := ratio_Check_pt a
  unfold ratio_Check_p at hp
  refine ⟨Nat.le_of_ble_eq_true rfl, (fun id st => none), ?_, ?_⟩
  · unfold bodyOf Tryz.f90
    simp only [loopsOk, and_self, true_and, and_true]
  · unfold bodyOf Tryz.f90
    try unfold ratio_Check
    simp only [go_sem, Nat.reduceBEq, Nat.reduceLeDiff, Nat.reduceAdd, Nat.reduceSub, Nat.reduceMul, Int.reduceLE, Int.reduceLT, Int.reduceToNat, Int.reduceNeg, reduceCtorEq, C83, C_ratio_magnitude]
    all_goals exact cl
def ratio_Cmp (a : Ratio) (b : Ratio) : Int × Int := (bif (((ratio_Check a) != 0) || ((ratio_Check b) != 0)) then (0, 120) else ((cmp_Compare_int (IntKind.i64.wrap (a.n * b.d)) (IntKind.i64.wrap (b.n * a.d))), 0))
def C_ratio_Cmp : List SV → Option Con := (pD .ratio fun a => (pD .ratio fun b => pE (.det True (.tup [.v (.int .i64 ((ratio_Cmp a b).1)), .v (.int .i64 ((ratio_Cmp a b).2))]))))
theorem ok_ratio_Cmp : FnOk Tryz.prog 88 C_ratio_Cmp := by
  have hG : ConsOk Tryz.prog (mkG [(52, C_cmp_Compare_int), (90, C_ratio_Check)] []) := mkG_ok (cgc ok_cmp_Compare_int (cgc ok_ratio_Check cg0)) cg0
  refine fn_okN [.o, .o] mixed ts_ok hG (fn := Tryz.f88) (c := bodyOf Tryz.f88) (by kernel_rfl) (by kernel_rfl) (by kernel_rfl) (by kernel_rfl) fun l con h hp => ?_
  unfold C_ratio_Cmp at h
  obtain ⟨a, l0, rfl, h0⟩ := pD_inv h
  obtain ⟨b, l1, rfl, h1⟩ := pD_inv h0
  obtain ⟨rfl, rfl⟩ := pE_inv h1
  clear h h0 h1
  dsimp only [conPre] at hp
  refine ⟨Nat.le_of_ble_eq_true rfl, (fun id st => none), ?_, ?_⟩
  · unfold bodyOf Tryz.f88
    simp only [loopsOk, and_self, true_and, and_true]
  · unfold bodyOf Tryz.f88
    try unfold ratio_Cmp
    simp only [go_sem, Nat.reduceBEq, Nat.reduceLeDiff, Nat.reduceAdd, Nat.reduceSub, Nat.reduceMul, Int.reduceLE, Int.reduceLT, Int.reduceToNat, Int.reduceNeg, reduceCtorEq, C_cmp_Compare_int, C_ratio_Check]
    all_goals exact cl
def expand_demand (ok : Bool) (e : Int) : Unit := (bif (!ok) then default else ())
def expand_demand_ok (ok : Bool) (e : Int) : Bool := (bif (!ok) then false else true)
def C_expand_demand : List SV → Option Con := (pB fun ok => (pI fun e => pE (.may (expand_demand_ok ok e) (.tup []) (.iface 108 (.int .i64 e)))))
theorem ok_expand_demand : FnOk Tryz.prog 48 C_expand_demand := by
  have hG : ConsOk Tryz.prog (mkG [] []) := mkG_ok cg0 cg0
  refine fn_okN [] mixed ts_ok hG (fn := Tryz.f48) (c := bodyOf Tryz.f48) (by kernel_rfl) (by kernel_rfl) (by kernel_rfl) (by kernel_rfl) fun l con h hp => ?_
  unfold C_expand_demand at h
  obtain ⟨ok, l0, rfl, h0⟩ := pB_inv h
  obtain ⟨e, l1, rfl, h1⟩ := pI_inv h0
  obtain ⟨rfl, rfl⟩ := pE_inv h1
  clear h h0 h1
  dsimp only [conPre] at hp
  refine ⟨Nat.le_of_ble_eq_true rfl, (fun id st => none), ?_, ?_⟩
  · unfold bodyOf Tryz.f48
    simp only [loopsOk, and_self, true_and, and_true]
  · unfold bodyOf Tryz.f48
    try unfold expand_demand
    try unfold expand_demand_ok
    simp only [go_sem, Nat.reduceBEq, Nat.reduceLeDiff, Nat.reduceAdd, Nat.reduceSub, Nat.reduceMul, Int.reduceLE, Int.reduceLT, Int.reduceToNat, Int.reduceNeg, reduceCtorEq]
    all_goals exact cl
def expand_rising_l0 (l_ : List Int) : Nat → Unit → Unit ⊕ Unit := fun k_0 s_0 => (bif (decide ((l_.getD (Int.toNat ((k_0 : Int) + 1)) (0 : Int)) < (l_.getD (Int.toNat (IntKind.i64.wrap (((k_0 : Int) + 1) - 1))) (0 : Int)))) then .inl () else .inr ())
def expand_rising_l0_p (l_ : List Int) : Nat → Unit → Prop := fun k_0 s_0 => (l_.length ≤ maxL → ((0 ≤ ((k_0 : Int) + 1) ∧ ((k_0 : Int) + 1) < (l_.length : Int)) ∧ (0 ≤ (IntKind.i64.wrap (((k_0 : Int) + 1) - 1)) ∧ (IntKind.i64.wrap (((k_0 : Int) + 1) - 1)) < (l_.length : Int))))
def expand_rising (l_ : List Int) : Bool := (match runI (expand_rising_l0 l_) (l_.length - 1) 0 () with | .inl x_0_0 => false | .inr s_0 => true)
def expand_rising_p (l_ : List Int) : Prop := okI (expand_rising_l0 l_) (expand_rising_l0_p l_) (l_.length - 1) 0 ()
theorem expand_rising_pt (l_ : List Int) : expand_rising_p l_ := okI_all _ _ _ fun j s h1 h2 hm => by
  unfold maxL at hm
  rw [wrapI (by omega) (by omega)]
  omega
def C_expand_rising : List SV → Option Con := (pR .int fun l_ => pE (.det True (.v (.bool (expand_rising l_)))))
set_option maxHeartbeats 4000000 in
theorem ok_expand_rising : FnOk Tryz.prog 61 C_expand_rising := by
  have hG : ConsOk Tryz.prog (mkG [] []) := mkG_ok cg0 cg0
  refine fn_okN [.o] mixed ts_ok hG (fn := Tryz.f61) (c := bodyOf Tryz.f61) (by kernel_rfl) (by kernel_rfl) (by kernel_rfl) (by kernel_rfl) fun l con h hp => ?_
  unfold C_expand_rising at h
  obtain ⟨l_, l0, rfl, h0⟩ := pR_inv h
  obtain ⟨rfl, rfl⟩ := pE_inv h0
  clear h h0
  dsimp only [conPre] at hp
  have hp := expand_rising_pt l_
  unfold expand_rising_p at hp
  refine ⟨Nat.le_of_ble_eq_true rfl, (fun id st => bif Nat.beq id 0 then some (LC (ρ := Unit) (σ := Unit) (lk 0 st.t = .rs .int l_ ∧ lk 3 st.t = .v (.int .i64 1) ∧ st.h = [] ∧ okI (expand_rising_l0 l_) (expand_rising_l0_p l_) (l_.length - 1) 0 ()) (runI (expand_rising_l0 l_) (l_.length - 1) 0 ()) (fun _ => .ret) (fun x_0_0 => ⟨[(2, .v (.bool false))], []⟩) (fun s_0 => ⟨[], []⟩)) else none), ?_, ?_⟩
  · unfold bodyOf Tryz.f61
    simp only [loopsOk, true_and, and_true]
    · refine count_okP mixed ts_ok hG (by kernel_rfl) fun st lc hC hp => ?_
      simp only [go_sem, Nat.reduceBEq, Option.some.injEq] at hC
      subst hC
      obtain ⟨t, h⟩ := st
      dsimp only [LC] at hp
      obtain ⟨e0_0, e0_1, rfl, hok0⟩ := hp
      refine ⟨_, _, _, (expand_rising_l0 l_), (expand_rising_l0_p l_), (l_.length - 1), (), _, _, _, (fun k_0 s_0 => ⟨[(0, .rs .int l_), (3, .v (.int .i64 ((k_0 : Int) + 1)))], []⟩), [], rfl, hok0, Nat.le_refl _, ?_, fun k_0 s_0 hk0 hp0 => ?_⟩
      · simp only [go_sem, Nat.reduceBEq, Nat.reduceLeDiff, Nat.reduceAdd, Nat.reduceSub, Nat.reduceMul, Int.reduceLE, Int.reduceLT, Int.reduceToNat, Int.reduceNeg, reduceCtorEq, e0_0, e0_1]
        all_goals (first | done | decide | (repeat' (first | refine And.intro ?_ ?_ | rfl | decide)))
      refine ⟨(fun id st => none), ?_, ?_⟩
      · simp only [loopsOk, and_self, true_and, and_true]
      · by_cases hb0 : l_.length ≤ maxL
        rotate_left
        · simp only [go_sem, Nat.reduceBEq, Nat.reduceLeDiff, Nat.reduceAdd, Nat.reduceSub, Nat.reduceMul, Int.reduceLE, Int.reduceLT, Int.reduceToNat, Int.reduceNeg, reduceCtorEq, hb0]
        · by_cases hlt0 : k_0 < (l_.length - 1)
          · have hw0 : IntKind.i64.wrap (((k_0 : Nat) : Int) + 1 + 1) = ((k_0 + 1 : Nat) : Int) + 1 := by (have hbb := hb0; have hll := hlt0; try unfold maxL at hbb); rw [wrapI (by omega) (by omega)]; omega
            have hq0 := hp0 hlt0
            unfold expand_rising_l0_p at hq0
            replace hq0 := hq0 hb0
            try simp only [hw0, Int.toNat_natCast] at hq0
            have hc0 : decide (((k_0 : Int) + 1) < (l_.length : Int)) = true := by simp only [decide_eq_true_eq]; omega
            simp only [go_sem, Nat.reduceBEq, Nat.reduceLeDiff, Nat.reduceAdd, Nat.reduceSub, Nat.reduceMul, Int.reduceLE, Int.reduceLT, Int.reduceToNat, Int.reduceNeg, reduceCtorEq, expand_rising_l0, hc0, hw0]
            all_goals exact cl
          · have hc0 : decide (((k_0 : Int) + 1) < (l_.length : Int)) = false := by simp only [decide_eq_false_iff_not]; omega
            simp only [go_sem, Nat.reduceBEq, Nat.reduceLeDiff, Nat.reduceAdd, Nat.reduceSub, Nat.reduceMul, Int.reduceLE, Int.reduceLT, Int.reduceToNat, Int.reduceNeg, reduceCtorEq, hc0]
            all_goals exact cl2
  · unfold bodyOf Tryz.f61
    try unfold expand_rising
    simp only [go_sem, Nat.reduceBEq, Nat.reduceLeDiff, Nat.reduceAdd, Nat.reduceSub, Nat.reduceMul, Int.reduceLE, Int.reduceLT, Int.reduceToNat, Int.reduceNeg, reduceCtorEq]
    all_goals exact cl
def expand_index (i : Int) (n : Int) : Bool := ((decide (i ≥ 0)) && (decide (i < n)))
def C_expand_index : List SV → Option Con := (pI fun i => (pI fun n => pE (.det True (.v (.bool (expand_index i n))))))
theorem ok_expand_index : FnOk Tryz.prog 63 C_expand_index := by
  have hG : ConsOk Tryz.prog (mkG [] []) := mkG_ok cg0 cg0
  refine fn_okN [.o] mixed ts_ok hG (fn := Tryz.f63) (c := bodyOf Tryz.f63) (by kernel_rfl) (by kernel_rfl) (by kernel_rfl) (by kernel_rfl) fun l con h hp => ?_
  unfold C_expand_index at h
  obtain ⟨i, l0, rfl, h0⟩ := pI_inv h
  obtain ⟨n, l1, rfl, h1⟩ := pI_inv h0
  obtain ⟨rfl, rfl⟩ := pE_inv h1
  clear h h0 h1
  dsimp only [conPre] at hp
  refine ⟨Nat.le_of_ble_eq_true rfl, (fun id st => none), ?_, ?_⟩
  · unfold bodyOf Tryz.f63
    simp only [loopsOk, and_self, true_and, and_true]
  · unfold bodyOf Tryz.f63
    try unfold expand_index
    simp only [go_sem, Nat.reduceBEq, Nat.reduceLeDiff, Nat.reduceAdd, Nat.reduceSub, Nat.reduceMul, Int.reduceLE, Int.reduceLT, Int.reduceToNat, Int.reduceNeg, reduceCtorEq]
    all_goals exact cl
def expand_share (x : Ratio × Ratio) : Bool := (((((ratio_Cmp x.1 x.2).2 == 0) && (decide (x.1.n ≥ 0))) && (decide ((ratio_Cmp x.1 x.2).1 ≤ 0))) && (decide (x.2.n ≤ x.2.d)))
def C_expand_share : List SV → Option Con := (pD .ratio2 fun x => pE (.det True (.v (.bool (expand_share x)))))
theorem ok_expand_share : FnOk Tryz.prog 76 C_expand_share := by
  have hG : ConsOk Tryz.prog (mkG [(88, C_ratio_Cmp)] []) := mkG_ok (cgc ok_ratio_Cmp cg0) cg0
  refine fn_okN [.o] mixed ts_ok hG (fn := Tryz.f76) (c := bodyOf Tryz.f76) (by kernel_rfl) (by kernel_rfl) (by kernel_rfl) (by kernel_rfl) fun l con h hp => ?_
  unfold C_expand_share at h
  obtain ⟨x, l0, rfl, h0⟩ := pD_inv h
  obtain ⟨rfl, rfl⟩ := pE_inv h0
  clear h h0
  dsimp only [conPre] at hp
  refine ⟨Nat.le_of_ble_eq_true rfl, (fun id st => none), ?_, ?_⟩
  · unfold bodyOf Tryz.f76
    simp only [loopsOk, and_self, true_and, and_true]
  · unfold bodyOf Tryz.f76
    try unfold expand_share
    simp only [go_sem, Nat.reduceBEq, Nat.reduceLeDiff, Nat.reduceAdd, Nat.reduceSub, Nat.reduceMul, Int.reduceLE, Int.reduceLT, Int.reduceToNat, Int.reduceNeg, reduceCtorEq, C_ratio_Cmp]
    all_goals exact cl
def expand_reach (i : Int) (x : Reach) : Bool := (bif (decide (i > 0)) then ((((((expand_index x.up i) && (expand_rising ([1, x.delay, 16]))) && (expand_rising ([0, x.siphon, x.cap, 1073741824]))) && (expand_rising ([0, x.siphon, x.bank, 1099511627776]))) && (expand_rising ([0, x.evap.lo, x.evap.hi, 1073741824]))) && (expand_share x.seep)) else ((((((x.up == (-1)) && (expand_rising ([1, x.delay, 16]))) && (expand_rising ([0, x.siphon, x.cap, 1073741824]))) && (expand_rising ([0, x.siphon, x.bank, 1099511627776]))) && (expand_rising ([0, x.evap.lo, x.evap.hi, 1073741824]))) && (expand_share x.seep)))
def C_expand_reach : List SV → Option Con := (pI fun i => (pD .reach fun x => pE (.det True (.v (.bool (expand_reach i x))))))
theorem ok_expand_reach : FnOk Tryz.prog 62 C_expand_reach := by
  have hG : ConsOk Tryz.prog (mkG [(61, fun l => C_expand_rising (nrmA [.sl .int] l)), (63, C_expand_index), (76, C_expand_share)] []) := mkG_ok (cgc (ok_expand_rising.norm [.sl .int]) (cgc ok_expand_index (cgc ok_expand_share cg0))) cg0
  refine fn_okN [.o] mixed ts_ok hG (fn := Tryz.f62) (c := bodyOf Tryz.f62) (by kernel_rfl) (by kernel_rfl) (by kernel_rfl) (by kernel_rfl) fun l con h hp => ?_
  unfold C_expand_reach at h
  obtain ⟨i, l0, rfl, h0⟩ := pI_inv h
  obtain ⟨x, l1, rfl, h1⟩ := pD_inv h0
  obtain ⟨rfl, rfl⟩ := pE_inv h1
  clear h h0 h1
  dsimp only [conPre] at hp
  refine ⟨Nat.le_of_ble_eq_true rfl, (fun id st => none), ?_, ?_⟩
  · unfold bodyOf Tryz.f62
    simp only [loopsOk, and_self, true_and, and_true]
  · unfold bodyOf Tryz.f62
    try unfold expand_reach
    simp only [go_sem, Nat.reduceBEq, Nat.reduceLeDiff, Nat.reduceAdd, Nat.reduceSub, Nat.reduceMul, Int.reduceLE, Int.reduceLT, Int.reduceToNat, Int.reduceNeg, reduceCtorEq, C_expand_rising, C_expand_index, C_expand_share]
    all_goals exact cl
def expand_right (a0 : District) (a1 : Right) : Bool := (bif (((!(expand_index a1.farm (a0.farms.length : Int))) || (!(expand_index a1.reach (a0.reaches.length : Int)))) || (!(expand_rising ([0, a1.since, a1.to, (IntKind.i64.wrap (a0.hours - 1))])))) then false else (bif (a1.kind == 1) then ((((a1.reach == 0) && (expand_rising ([0, a1.rank, 1048576]))) && (expand_rising ([1, a1.litres, 1073741824]))) && (expand_rising ([1, a1.length, a1.every, a0.hours]))) else (bif (a1.kind == 2) then ((a1.name == a1.name) && ((a1.kind == a1.kind) && ((a1.farm == a1.farm) && ((a1.reach == a1.reach) && ((a1.rank == 0) && ((a1.litres == 0) && ((a1.since == 0) && ((a1.to == (IntKind.i64.wrap (a0.hours - 1))) && ((a1.every == 0) && (a1.length == 0)))))))))) else (bif (a1.kind == 3) then ((a1.name == a1.name) && ((a1.kind == a1.kind) && ((a1.farm == a1.farm) && ((a1.reach == a1.reach) && ((a1.rank == 0) && ((a1.litres == 0) && ((a1.since == a1.since) && ((a1.to == a1.to) && ((a1.every == 0) && (a1.length == 0)))))))))) else false))))
def C_expand_right : List SV → Option Con := (pD .district fun a0 => (pD .right fun a1 => pE (.det True (.v (.bool (expand_right a0 a1))))))
theorem ok_expand_right : FnOk Tryz.prog 64 C_expand_right := by
  have hG : ConsOk Tryz.prog (mkG [(61, fun l => C_expand_rising (nrmA [.sl .int] l)), (63, C_expand_index)] []) := mkG_ok (cgc (ok_expand_rising.norm [.sl .int]) (cgc ok_expand_index cg0)) cg0
  refine fn_okN [.o] mixed ts_ok hG (fn := Tryz.f64) (c := bodyOf Tryz.f64) (by kernel_rfl) (by kernel_rfl) (by kernel_rfl) (by kernel_rfl) fun l con h hp => ?_
  unfold C_expand_right at h
  obtain ⟨a0, l0, rfl, h0⟩ := pD_inv h
  obtain ⟨a1, l1, rfl, h1⟩ := pD_inv h0
  obtain ⟨rfl, rfl⟩ := pE_inv h1
  clear h h0 h1
  dsimp only [conPre] at hp
  refine ⟨Nat.le_of_ble_eq_true rfl, (fun id st => none), ?_, ?_⟩
  · unfold bodyOf Tryz.f64
    simp only [loopsOk, and_self, true_and, and_true]
  · unfold bodyOf Tryz.f64
    try unfold expand_right
    simp only [go_sem, Nat.reduceBEq, Nat.reduceLeDiff, Nat.reduceAdd, Nat.reduceSub, Nat.reduceMul, Int.reduceLE, Int.reduceLT, Int.reduceToNat, Int.reduceNeg, reduceCtorEq, C_expand_rising, C_expand_index]
    all_goals exact cl
def expand_examine_l0 (a0 : District) (a1 : Int) : Nat → Unit → Unit ⊕ Unit := fun k_0 s_0 => (bif (expand_demand_ok (expand_reach (k_0 : Int) (a0.reaches.getD k_0 (default : Reach))) a1) then .inr () else .inl ())
def expand_examine_l0_p (a0 : District) (a1 : Int) : Nat → Unit → Prop := fun k_0 s_0 => True
def expand_examine_l1 (a0 : District) (a1 : Int) : Nat → Unit → Unit ⊕ Unit := fun k_1 s_1 => (bif (expand_demand_ok (expand_rising ([0, (a0.crops.getD k_1 (default : Crop)).need, 1048576])) a1) then .inr () else .inl ())
def expand_examine_l1_p (a0 : District) (a1 : Int) : Nat → Unit → Prop := fun k_1 s_1 => True
def expand_examine_l2 (a0 : District) (a1 : Int) : Nat → Unit → Unit ⊕ Unit := fun k_2 s_2 => (bif (decide ((a0.farms.getD k_2 (default : Farm)).area > 0)) then (bif (expand_demand_ok (((expand_index ((a0.farms.getD k_2 (default : Farm)).crop) (a0.crops.length : Int)) && (expand_index ((a0.farms.getD k_2 (default : Farm)).reach) (a0.reaches.length : Int))) && (expand_rising ([0, (a0.farms.getD k_2 (default : Farm)).area, 1048576]))) a1) then .inr () else .inl ()) else (bif (expand_demand_ok ((((a0.farms.getD k_2 (default : Farm)).crop == (-1)) && (expand_index ((a0.farms.getD k_2 (default : Farm)).reach) (a0.reaches.length : Int))) && (expand_rising ([0, (a0.farms.getD k_2 (default : Farm)).area, 1048576]))) a1) then .inr () else .inl ()))
def expand_examine_l2_p (a0 : District) (a1 : Int) : Nat → Unit → Prop := fun k_2 s_2 => True
def expand_examine_l3 (a0 : District) (a1 : Int) : Nat → Unit → Unit ⊕ Unit := fun k_3 s_3 => (bif (expand_demand_ok (expand_right a0 (a0.rights.getD k_3 (default : Right))) a1) then .inr () else .inl ())
def expand_examine_l3_p (a0 : District) (a1 : Int) : Nat → Unit → Prop := fun k_3 s_3 => True
def expand_examine_l4 (a0 : District) (a1 : Int) : Nat → Unit → Unit ⊕ Unit := fun k_4 s_4 => (bif (expand_demand_ok (((expand_index ((a0.duties.getD k_4 (default : Duty)).farm) (a0.farms.length : Int)) && (expand_index ((a0.duties.getD k_4 (default : Duty)).reach) (a0.reaches.length : Int))) && (expand_rising ([0, (a0.duties.getD k_4 (default : Duty)).due, a0.hours]))) a1) then .inr () else .inl ())
def expand_examine_l4_p (a0 : District) (a1 : Int) : Nat → Unit → Prop := fun k_4 s_4 => True
def expand_examine (a0 : District) (a1 : Int) : Unit := (bif (expand_demand_ok (((expand_rising ([1, a0.hours, 4096])) && (expand_rising ([0, a0.tank.start, a0.tank.cap, 1099511627776]))) && (decide ((a0.reaches.length : Int) > 0))) a1) then (match runI (expand_examine_l0 a0 a1) a0.reaches.length 0 () with | .inl x_0_0 => default | .inr s_0 => (match runI (expand_examine_l1 a0 a1) a0.crops.length 0 () with | .inl x_1_0 => default | .inr s_1 => (match runI (expand_examine_l2 a0 a1) a0.farms.length 0 () with | .inl x_2_0 => default | .inr s_2 => (match runI (expand_examine_l3 a0 a1) a0.rights.length 0 () with | .inl x_3_0 => default | .inr s_3 => (match runI (expand_examine_l4 a0 a1) a0.duties.length 0 () with | .inl x_4_0 => default | .inr s_4 => ()))))) else default)
def expand_examine_ok (a0 : District) (a1 : Int) : Bool := (bif (expand_demand_ok (((expand_rising ([1, a0.hours, 4096])) && (expand_rising ([0, a0.tank.start, a0.tank.cap, 1099511627776]))) && (decide ((a0.reaches.length : Int) > 0))) a1) then (match runI (expand_examine_l0 a0 a1) a0.reaches.length 0 () with | .inl x_0_0 => false | .inr s_0 => (match runI (expand_examine_l1 a0 a1) a0.crops.length 0 () with | .inl x_1_0 => false | .inr s_1 => (match runI (expand_examine_l2 a0 a1) a0.farms.length 0 () with | .inl x_2_0 => false | .inr s_2 => (match runI (expand_examine_l3 a0 a1) a0.rights.length 0 () with | .inl x_3_0 => false | .inr s_3 => (match runI (expand_examine_l4 a0 a1) a0.duties.length 0 () with | .inl x_4_0 => false | .inr s_4 => true))))) else false)
def C_expand_examine : List SV → Option Con := (pD .district fun a0 => (pI fun a1 => pE (.may (expand_examine_ok a0 a1) (.tup []) (.iface 108 (.int .i64 a1)))))
set_option maxHeartbeats 4000000 in
theorem ok_expand_examine : FnOk Tryz.prog 49 C_expand_examine := by
  have hG : ConsOk Tryz.prog (mkG [(48, C_expand_demand), (61, fun l => C_expand_rising (nrmA [.sl .int] l)), (62, C_expand_reach), (63, C_expand_index), (64, fun l => C_expand_right (nrmA [.st .district, .st .right] l))] []) := mkG_ok (cgc ok_expand_demand (cgc (ok_expand_rising.norm [.sl .int]) (cgc ok_expand_reach (cgc ok_expand_index (cgc (ok_expand_right.norm [.st .district, .st .right]) cg0))))) cg0
  refine fn_okN [] mixed ts_ok hG (fn := Tryz.f49) (c := bodyOf Tryz.f49) (by kernel_rfl) (by kernel_rfl) (by kernel_rfl) (by kernel_rfl) fun l con h hp => ?_
  unfold C_expand_examine at h
  obtain ⟨a0, l0, rfl, h0⟩ := pD_inv h
  obtain ⟨a1, l1, rfl, h1⟩ := pI_inv h0
  obtain ⟨rfl, rfl⟩ := pE_inv h1
  clear h h0 h1
  dsimp only [conPre] at hp
  refine ⟨Nat.le_of_ble_eq_true rfl, (fun id st => bif Nat.beq id 0 then some (LC (ρ := Unit) (σ := Unit) (lk 1 st.t = .v (.int .i64 a1) ∧ lk 2 st.t = .ptr 0 0 ∧ lk 38 st.t = .rs .reach a0.reaches ∧ lk 39 st.t = .v (.int .i64 (a0.reaches.length : Int)) ∧ lk 40 st.t = .v (.int .i64 0) ∧ st.h = [.cells [.v (.string a0.name), .v (.int .i64 a0.hours), .v (.int .i64 a0.tank.cap), .v (.int .i64 a0.tank.start), .rs .reach a0.reaches, .rs .farm a0.farms, .rs .crop a0.crops, .rs .right a0.rights, .rs .duty a0.duties, .rs .well a0.wells]] ∧ a0.reaches.length ≤ maxL) (runI (expand_examine_l0 a0 a1) a0.reaches.length 0 ()) (fun _ => .pan (.iface 108 (.int .i64 a1))) (fun x_0_0 => ⟨[], [.dead]⟩) (fun s_0 => ⟨[(1, .v (.int .i64 a1)), (2, .ptr 0 0)], [.cells [.v (.string a0.name), .v (.int .i64 a0.hours), .v (.int .i64 a0.tank.cap), .v (.int .i64 a0.tank.start), .rs .reach a0.reaches, .rs .farm a0.farms, .rs .crop a0.crops, .rs .right a0.rights, .rs .duty a0.duties, .rs .well a0.wells]]⟩)) else bif Nat.beq id 2 then some (LC (ρ := Unit) (σ := Unit) (lk 1 st.t = .v (.int .i64 a1) ∧ lk 2 st.t = .ptr 0 0 ∧ lk 52 st.t = .rs .crop a0.crops ∧ lk 53 st.t = .v (.int .i64 (a0.crops.length : Int)) ∧ lk 54 st.t = .v (.int .i64 0) ∧ st.h = [.cells [.v (.string a0.name), .v (.int .i64 a0.hours), .v (.int .i64 a0.tank.cap), .v (.int .i64 a0.tank.start), .rs .reach a0.reaches, .rs .farm a0.farms, .rs .crop a0.crops, .rs .right a0.rights, .rs .duty a0.duties, .rs .well a0.wells]] ∧ a0.crops.length ≤ maxL) (runI (expand_examine_l1 a0 a1) a0.crops.length 0 ()) (fun _ => .pan (.iface 108 (.int .i64 a1))) (fun x_1_0 => ⟨[], [.dead]⟩) (fun s_1 => ⟨[(1, .v (.int .i64 a1)), (2, .ptr 0 0)], [.cells [.v (.string a0.name), .v (.int .i64 a0.hours), .v (.int .i64 a0.tank.cap), .v (.int .i64 a0.tank.start), .rs .reach a0.reaches, .rs .farm a0.farms, .rs .crop a0.crops, .rs .right a0.rights, .rs .duty a0.duties, .rs .well a0.wells]]⟩)) else bif Nat.beq id 4 then some (LC (ρ := Unit) (σ := Unit) (lk 1 st.t = .v (.int .i64 a1) ∧ lk 2 st.t = .ptr 0 0 ∧ lk 66 st.t = .rs .farm a0.farms ∧ lk 67 st.t = .v (.int .i64 (a0.farms.length : Int)) ∧ lk 68 st.t = .v (.int .i64 0) ∧ st.h = [.cells [.v (.string a0.name), .v (.int .i64 a0.hours), .v (.int .i64 a0.tank.cap), .v (.int .i64 a0.tank.start), .rs .reach a0.reaches, .rs .farm a0.farms, .rs .crop a0.crops, .rs .right a0.rights, .rs .duty a0.duties, .rs .well a0.wells]] ∧ a0.farms.length ≤ maxL) (runI (expand_examine_l2 a0 a1) a0.farms.length 0 ()) (fun _ => .pan (.iface 108 (.int .i64 a1))) (fun x_2_0 => ⟨[], [.dead]⟩) (fun s_2 => ⟨[(1, .v (.int .i64 a1)), (2, .ptr 0 0)], [.cells [.v (.string a0.name), .v (.int .i64 a0.hours), .v (.int .i64 a0.tank.cap), .v (.int .i64 a0.tank.start), .rs .reach a0.reaches, .rs .farm a0.farms, .rs .crop a0.crops, .rs .right a0.rights, .rs .duty a0.duties, .rs .well a0.wells]]⟩)) else bif Nat.beq id 6 then some (LC (ρ := Unit) (σ := Unit) (lk 1 st.t = .v (.int .i64 a1) ∧ lk 2 st.t = .ptr 0 0 ∧ lk 103 st.t = .rs .right a0.rights ∧ lk 104 st.t = .v (.int .i64 (a0.rights.length : Int)) ∧ lk 105 st.t = .v (.int .i64 0) ∧ st.h = [.cells [.v (.string a0.name), .v (.int .i64 a0.hours), .v (.int .i64 a0.tank.cap), .v (.int .i64 a0.tank.start), .rs .reach a0.reaches, .rs .farm a0.farms, .rs .crop a0.crops, .rs .right a0.rights, .rs .duty a0.duties, .rs .well a0.wells]] ∧ a0.rights.length ≤ maxL) (runI (expand_examine_l3 a0 a1) a0.rights.length 0 ()) (fun _ => .pan (.iface 108 (.int .i64 a1))) (fun x_3_0 => ⟨[], [.dead]⟩) (fun s_3 => ⟨[(1, .v (.int .i64 a1)), (2, .ptr 0 0)], [.cells [.v (.string a0.name), .v (.int .i64 a0.hours), .v (.int .i64 a0.tank.cap), .v (.int .i64 a0.tank.start), .rs .reach a0.reaches, .rs .farm a0.farms, .rs .crop a0.crops, .rs .right a0.rights, .rs .duty a0.duties, .rs .well a0.wells]]⟩)) else bif Nat.beq id 8 then some (LC (ρ := Unit) (σ := Unit) (lk 1 st.t = .v (.int .i64 a1) ∧ lk 2 st.t = .ptr 0 0 ∧ lk 116 st.t = .rs .duty a0.duties ∧ lk 117 st.t = .v (.int .i64 (a0.duties.length : Int)) ∧ lk 118 st.t = .v (.int .i64 0) ∧ st.h = [.cells [.v (.string a0.name), .v (.int .i64 a0.hours), .v (.int .i64 a0.tank.cap), .v (.int .i64 a0.tank.start), .rs .reach a0.reaches, .rs .farm a0.farms, .rs .crop a0.crops, .rs .right a0.rights, .rs .duty a0.duties, .rs .well a0.wells]] ∧ a0.duties.length ≤ maxL) (runI (expand_examine_l4 a0 a1) a0.duties.length 0 ()) (fun _ => .pan (.iface 108 (.int .i64 a1))) (fun x_4_0 => ⟨[], [.dead]⟩) (fun s_4 => ⟨[], [.dead]⟩)) else none), ?_, ?_⟩
  · unfold bodyOf Tryz.f49
    simp only [loopsOk, true_and, and_true]
    refine ⟨?_, ?_, ?_, ?_, ?_⟩
    · refine count_okP mixed ts_ok hG (by kernel_rfl) fun st lc hC hp => ?_
      simp only [go_sem, Nat.reduceBEq, Option.some.injEq] at hC
      subst hC
      obtain ⟨t, h⟩ := st
      dsimp only [LC] at hp
      obtain ⟨e0_0, e0_1, e0_2, e0_3, e0_4, rfl, hb0⟩ := hp
      refine ⟨_, _, _, (expand_examine_l0 a0 a1), (expand_examine_l0_p a0 a1), a0.reaches.length, (), _, _, _, (fun k_0 s_0 => ⟨[(1, .v (.int .i64 a1)), (2, .ptr 0 0), (38, .rs .reach a0.reaches), (39, .v (.int .i64 (a0.reaches.length : Int))), (40, .v (.int .i64 (k_0 : Int)))], [.cells [.v (.string a0.name), .v (.int .i64 a0.hours), .v (.int .i64 a0.tank.cap), .v (.int .i64 a0.tank.start), .rs .reach a0.reaches, .rs .farm a0.farms, .rs .crop a0.crops, .rs .right a0.rights, .rs .duty a0.duties, .rs .well a0.wells]]⟩), [0], rfl, okI_all _ _ _ fun _ _ _ _ => trivial, Nat.le_refl _, ?_, fun k_0 s_0 hk0 hp0 => ?_⟩
      · simp only [go_sem, Nat.reduceBEq, Nat.reduceLeDiff, Nat.reduceAdd, Nat.reduceSub, Nat.reduceMul, Int.reduceLE, Int.reduceLT, Int.reduceToNat, Int.reduceNeg, reduceCtorEq, e0_0, e0_1, e0_2, e0_3, e0_4]
        all_goals (first | done | decide | (repeat' (first | refine And.intro ?_ ?_ | rfl | decide)))
      refine ⟨(fun id st => none), ?_, ?_⟩
      · simp only [loopsOk, and_self, true_and, and_true]
      · by_cases hlt0 : k_0 < a0.reaches.length
        · have hw0 := wrapS hlt0 hb0
          have hq0 := hp0 hlt0
          unfold expand_examine_l0_p at hq0
          try simp only [hw0, Int.toNat_natCast] at hq0
          have hc0 : decide ((k_0 : Int) < (a0.reaches.length : Int)) = true := by simp only [decide_eq_true_eq]; omega
          simp only [go_sem, Nat.reduceBEq, Nat.reduceLeDiff, Nat.reduceAdd, Nat.reduceSub, Nat.reduceMul, Int.reduceLE, Int.reduceLT, Int.reduceToNat, Int.reduceNeg, reduceCtorEq, C_expand_demand, C_expand_rising, C_expand_reach, C_expand_index, C_expand_right, expand_examine_l0, hc0, hw0]
          all_goals exact cl
        · have hc0 : decide ((k_0 : Int) < (a0.reaches.length : Int)) = false := by simp only [decide_eq_false_iff_not]; omega
          simp only [go_sem, Nat.reduceBEq, Nat.reduceLeDiff, Nat.reduceAdd, Nat.reduceSub, Nat.reduceMul, Int.reduceLE, Int.reduceLT, Int.reduceToNat, Int.reduceNeg, reduceCtorEq, C_expand_demand, C_expand_rising, C_expand_reach, C_expand_index, C_expand_right, hc0]
          all_goals exact cl2
    · refine count_okP mixed ts_ok hG (by kernel_rfl) fun st lc hC hp => ?_
      simp only [go_sem, Nat.reduceBEq, Option.some.injEq] at hC
      subst hC
      obtain ⟨t, h⟩ := st
      dsimp only [LC] at hp
      obtain ⟨e1_0, e1_1, e1_2, e1_3, e1_4, rfl, hb1⟩ := hp
      refine ⟨_, _, _, (expand_examine_l1 a0 a1), (expand_examine_l1_p a0 a1), a0.crops.length, (), _, _, _, (fun k_1 s_1 => ⟨[(1, .v (.int .i64 a1)), (2, .ptr 0 0), (52, .rs .crop a0.crops), (53, .v (.int .i64 (a0.crops.length : Int))), (54, .v (.int .i64 (k_1 : Int)))], [.cells [.v (.string a0.name), .v (.int .i64 a0.hours), .v (.int .i64 a0.tank.cap), .v (.int .i64 a0.tank.start), .rs .reach a0.reaches, .rs .farm a0.farms, .rs .crop a0.crops, .rs .right a0.rights, .rs .duty a0.duties, .rs .well a0.wells]]⟩), [0], rfl, okI_all _ _ _ fun _ _ _ _ => trivial, Nat.le_refl _, ?_, fun k_1 s_1 hk1 hp1 => ?_⟩
      · simp only [go_sem, Nat.reduceBEq, Nat.reduceLeDiff, Nat.reduceAdd, Nat.reduceSub, Nat.reduceMul, Int.reduceLE, Int.reduceLT, Int.reduceToNat, Int.reduceNeg, reduceCtorEq, e1_0, e1_1, e1_2, e1_3, e1_4]
        all_goals (first | done | decide | (repeat' (first | refine And.intro ?_ ?_ | rfl | decide)))
      refine ⟨(fun id st => none), ?_, ?_⟩
      · simp only [loopsOk, and_self, true_and, and_true]
      · by_cases hlt1 : k_1 < a0.crops.length
        · have hw1 := wrapS hlt1 hb1
          have hq1 := hp1 hlt1
          unfold expand_examine_l1_p at hq1
          try simp only [hw1, Int.toNat_natCast] at hq1
          have hc1 : decide ((k_1 : Int) < (a0.crops.length : Int)) = true := by simp only [decide_eq_true_eq]; omega
          simp only [go_sem, Nat.reduceBEq, Nat.reduceLeDiff, Nat.reduceAdd, Nat.reduceSub, Nat.reduceMul, Int.reduceLE, Int.reduceLT, Int.reduceToNat, Int.reduceNeg, reduceCtorEq, C_expand_demand, C_expand_rising, C_expand_reach, C_expand_index, C_expand_right, expand_examine_l1, hc1, hw1]
          all_goals exact cl
        · have hc1 : decide ((k_1 : Int) < (a0.crops.length : Int)) = false := by simp only [decide_eq_false_iff_not]; omega
          simp only [go_sem, Nat.reduceBEq, Nat.reduceLeDiff, Nat.reduceAdd, Nat.reduceSub, Nat.reduceMul, Int.reduceLE, Int.reduceLT, Int.reduceToNat, Int.reduceNeg, reduceCtorEq, C_expand_demand, C_expand_rising, C_expand_reach, C_expand_index, C_expand_right, hc1]
          all_goals exact cl2
    · refine count_okP mixed ts_ok hG (by kernel_rfl) fun st lc hC hp => ?_
      simp only [go_sem, Nat.reduceBEq, Option.some.injEq] at hC
      subst hC
      obtain ⟨t, h⟩ := st
      dsimp only [LC] at hp
      obtain ⟨e2_0, e2_1, e2_2, e2_3, e2_4, rfl, hb2⟩ := hp
      refine ⟨_, _, _, (expand_examine_l2 a0 a1), (expand_examine_l2_p a0 a1), a0.farms.length, (), _, _, _, (fun k_2 s_2 => ⟨[(1, .v (.int .i64 a1)), (2, .ptr 0 0), (66, .rs .farm a0.farms), (67, .v (.int .i64 (a0.farms.length : Int))), (68, .v (.int .i64 (k_2 : Int)))], [.cells [.v (.string a0.name), .v (.int .i64 a0.hours), .v (.int .i64 a0.tank.cap), .v (.int .i64 a0.tank.start), .rs .reach a0.reaches, .rs .farm a0.farms, .rs .crop a0.crops, .rs .right a0.rights, .rs .duty a0.duties, .rs .well a0.wells]]⟩), [0], rfl, okI_all _ _ _ fun _ _ _ _ => trivial, Nat.le_refl _, ?_, fun k_2 s_2 hk2 hp2 => ?_⟩
      · simp only [go_sem, Nat.reduceBEq, Nat.reduceLeDiff, Nat.reduceAdd, Nat.reduceSub, Nat.reduceMul, Int.reduceLE, Int.reduceLT, Int.reduceToNat, Int.reduceNeg, reduceCtorEq, e2_0, e2_1, e2_2, e2_3, e2_4]
        all_goals (first | done | decide | (repeat' (first | refine And.intro ?_ ?_ | rfl | decide)))
      refine ⟨(fun id st => none), ?_, ?_⟩
      · simp only [loopsOk, and_self, true_and, and_true]
      · by_cases hlt2 : k_2 < a0.farms.length
        · have hw2 := wrapS hlt2 hb2
          have hq2 := hp2 hlt2
          unfold expand_examine_l2_p at hq2
          try simp only [hw2, Int.toNat_natCast] at hq2
          have hc2 : decide ((k_2 : Int) < (a0.farms.length : Int)) = true := by simp only [decide_eq_true_eq]; omega
          simp only [go_sem, Nat.reduceBEq, Nat.reduceLeDiff, Nat.reduceAdd, Nat.reduceSub, Nat.reduceMul, Int.reduceLE, Int.reduceLT, Int.reduceToNat, Int.reduceNeg, reduceCtorEq, C_expand_demand, C_expand_rising, C_expand_reach, C_expand_index, C_expand_right, expand_examine_l2, hc2, hw2]
          all_goals exact cl
        · have hc2 : decide ((k_2 : Int) < (a0.farms.length : Int)) = false := by simp only [decide_eq_false_iff_not]; omega
          simp only [go_sem, Nat.reduceBEq, Nat.reduceLeDiff, Nat.reduceAdd, Nat.reduceSub, Nat.reduceMul, Int.reduceLE, Int.reduceLT, Int.reduceToNat, Int.reduceNeg, reduceCtorEq, C_expand_demand, C_expand_rising, C_expand_reach, C_expand_index, C_expand_right, hc2]
          all_goals exact cl2
    · refine count_okP mixed ts_ok hG (by kernel_rfl) fun st lc hC hp => ?_
      simp only [go_sem, Nat.reduceBEq, Option.some.injEq] at hC
      subst hC
      obtain ⟨t, h⟩ := st
      dsimp only [LC] at hp
      obtain ⟨e3_0, e3_1, e3_2, e3_3, e3_4, rfl, hb3⟩ := hp
      refine ⟨_, _, _, (expand_examine_l3 a0 a1), (expand_examine_l3_p a0 a1), a0.rights.length, (), _, _, _, (fun k_3 s_3 => ⟨[(1, .v (.int .i64 a1)), (2, .ptr 0 0), (103, .rs .right a0.rights), (104, .v (.int .i64 (a0.rights.length : Int))), (105, .v (.int .i64 (k_3 : Int)))], [.cells [.v (.string a0.name), .v (.int .i64 a0.hours), .v (.int .i64 a0.tank.cap), .v (.int .i64 a0.tank.start), .rs .reach a0.reaches, .rs .farm a0.farms, .rs .crop a0.crops, .rs .right a0.rights, .rs .duty a0.duties, .rs .well a0.wells]]⟩), [0], rfl, okI_all _ _ _ fun _ _ _ _ => trivial, Nat.le_refl _, ?_, fun k_3 s_3 hk3 hp3 => ?_⟩
      · simp only [go_sem, Nat.reduceBEq, Nat.reduceLeDiff, Nat.reduceAdd, Nat.reduceSub, Nat.reduceMul, Int.reduceLE, Int.reduceLT, Int.reduceToNat, Int.reduceNeg, reduceCtorEq, e3_0, e3_1, e3_2, e3_3, e3_4]
        all_goals (first | done | decide | (repeat' (first | refine And.intro ?_ ?_ | rfl | decide)))
      refine ⟨(fun id st => none), ?_, ?_⟩
      · simp only [loopsOk, and_self, true_and, and_true]
      · by_cases hlt3 : k_3 < a0.rights.length
        · have hw3 := wrapS hlt3 hb3
          have hq3 := hp3 hlt3
          unfold expand_examine_l3_p at hq3
          try simp only [hw3, Int.toNat_natCast] at hq3
          have hc3 : decide ((k_3 : Int) < (a0.rights.length : Int)) = true := by simp only [decide_eq_true_eq]; omega
          simp only [go_sem, Nat.reduceBEq, Nat.reduceLeDiff, Nat.reduceAdd, Nat.reduceSub, Nat.reduceMul, Int.reduceLE, Int.reduceLT, Int.reduceToNat, Int.reduceNeg, reduceCtorEq, C_expand_demand, C_expand_rising, C_expand_reach, C_expand_index, C_expand_right, expand_examine_l3, hc3, hw3]
          all_goals exact cl
        · have hc3 : decide ((k_3 : Int) < (a0.rights.length : Int)) = false := by simp only [decide_eq_false_iff_not]; omega
          simp only [go_sem, Nat.reduceBEq, Nat.reduceLeDiff, Nat.reduceAdd, Nat.reduceSub, Nat.reduceMul, Int.reduceLE, Int.reduceLT, Int.reduceToNat, Int.reduceNeg, reduceCtorEq, C_expand_demand, C_expand_rising, C_expand_reach, C_expand_index, C_expand_right, hc3]
          all_goals exact cl2
    · refine count_okP mixed ts_ok hG (by kernel_rfl) fun st lc hC hp => ?_
      simp only [go_sem, Nat.reduceBEq, Option.some.injEq] at hC
      subst hC
      obtain ⟨t, h⟩ := st
      dsimp only [LC] at hp
      obtain ⟨e4_0, e4_1, e4_2, e4_3, e4_4, rfl, hb4⟩ := hp
      refine ⟨_, _, _, (expand_examine_l4 a0 a1), (expand_examine_l4_p a0 a1), a0.duties.length, (), _, _, _, (fun k_4 s_4 => ⟨[(1, .v (.int .i64 a1)), (2, .ptr 0 0), (116, .rs .duty a0.duties), (117, .v (.int .i64 (a0.duties.length : Int))), (118, .v (.int .i64 (k_4 : Int)))], [.cells [.v (.string a0.name), .v (.int .i64 a0.hours), .v (.int .i64 a0.tank.cap), .v (.int .i64 a0.tank.start), .rs .reach a0.reaches, .rs .farm a0.farms, .rs .crop a0.crops, .rs .right a0.rights, .rs .duty a0.duties, .rs .well a0.wells]]⟩), [0], rfl, okI_all _ _ _ fun _ _ _ _ => trivial, Nat.le_refl _, ?_, fun k_4 s_4 hk4 hp4 => ?_⟩
      · simp only [go_sem, Nat.reduceBEq, Nat.reduceLeDiff, Nat.reduceAdd, Nat.reduceSub, Nat.reduceMul, Int.reduceLE, Int.reduceLT, Int.reduceToNat, Int.reduceNeg, reduceCtorEq, e4_0, e4_1, e4_2, e4_3, e4_4]
        all_goals (first | done | decide | (repeat' (first | refine And.intro ?_ ?_ | rfl | decide)))
      refine ⟨(fun id st => none), ?_, ?_⟩
      · simp only [loopsOk, and_self, true_and, and_true]
      · by_cases hlt4 : k_4 < a0.duties.length
        · have hw4 := wrapS hlt4 hb4
          have hq4 := hp4 hlt4
          unfold expand_examine_l4_p at hq4
          try simp only [hw4, Int.toNat_natCast] at hq4
          have hc4 : decide ((k_4 : Int) < (a0.duties.length : Int)) = true := by simp only [decide_eq_true_eq]; omega
          simp only [go_sem, Nat.reduceBEq, Nat.reduceLeDiff, Nat.reduceAdd, Nat.reduceSub, Nat.reduceMul, Int.reduceLE, Int.reduceLT, Int.reduceToNat, Int.reduceNeg, reduceCtorEq, C_expand_demand, C_expand_rising, C_expand_reach, C_expand_index, C_expand_right, expand_examine_l4, hc4, hw4]
          all_goals exact cl
        · have hc4 : decide ((k_4 : Int) < (a0.duties.length : Int)) = false := by simp only [decide_eq_false_iff_not]; omega
          simp only [go_sem, Nat.reduceBEq, Nat.reduceLeDiff, Nat.reduceAdd, Nat.reduceSub, Nat.reduceMul, Int.reduceLE, Int.reduceLT, Int.reduceToNat, Int.reduceNeg, reduceCtorEq, C_expand_demand, C_expand_rising, C_expand_reach, C_expand_index, C_expand_right, hc4]
          all_goals exact cl2
  · unfold bodyOf Tryz.f49
    try unfold expand_examine
    try unfold expand_examine_ok
    simp only [go_sem, Nat.reduceBEq, Nat.reduceLeDiff, Nat.reduceAdd, Nat.reduceSub, Nat.reduceMul, Int.reduceLE, Int.reduceLT, Int.reduceToNat, Int.reduceNeg, reduceCtorEq, C_expand_demand, C_expand_rising, C_expand_reach, C_expand_index, C_expand_right]
    all_goals exact cl
def expand_Check (d : District) : Int := (bif (expand_demand_ok (((((decide ((d.reaches.length : Int) ≤ 64)) && (decide ((d.farms.length : Int) ≤ 600))) && (decide ((d.crops.length : Int) ≤ 32))) && (decide ((d.rights.length : Int) ≤ 256))) && (decide ((d.duties.length : Int) ≤ 256))) 2) then (bif (expand_examine_ok d 191) then 0 else 191) else 2)
def C_expand_Check : List SV → Option Con := (pD .district fun d => pE (.det True (.v (.int .i64 (expand_Check d)))))
theorem ok_expand_Check : FnOk Tryz.prog 31 C_expand_Check := by
  have hG : ConsOk Tryz.prog (mkG [(48, C_expand_demand), (49, fun l => C_expand_examine (nrmA [.st .district, .o] l))] []) := mkG_ok (cgc ok_expand_demand (cgc (ok_expand_examine.norm [.st .district, .o]) cg0)) cg0
  refine fn_rec rec36_ok [.o] mixed ts_ok hG (fn := Tryz.f31) (c0 := seqL (bodyOf Tryz.f31)) (c1 := seqR (seqR (bodyOf Tryz.f31))) (i1 := regI (seqL (seqR (bodyOf Tryz.f31)))) (o1 := regO 0 (seqL (seqR (bodyOf Tryz.f31)))) (o2 := regO 1 (seqL (seqR (bodyOf Tryz.f31)))) (t3 := 3) (q := 2) (tys := #[]) (by kernel_rfl) (by kernel_rfl) (by kernel_rfl) (by refine ⟨?_, ?_, ?_⟩ <;> kernel_rfl) (by refine ⟨?_, ?_, ?_⟩ <;> kernel_rfl) (Nat.le_of_ble_eq_true rfl) (by kernel_rfl) (by kernel_rfl) fun l con h hp => ?_
  unfold C_expand_Check at h
  obtain ⟨d, l0, rfl, h0⟩ := pD_inv h
  obtain ⟨rfl, rfl⟩ := pE_inv h0
  clear h h0
  dsimp only [conPre] at hp
  refine ⟨Nat.le_of_ble_eq_true rfl, L0, (fun id st => none), 1, ?_, ?_, ?_⟩
  · unfold bodyOf Tryz.f31
    simp only [seqL, loopsOk, and_self, true_and, and_true]
  · unfold bodyOf Tryz.f31
    simp only [seqR]
    simp only [loopsOk, and_self, true_and, and_true]
  · unfold bodyOf Tryz.f31
    try unfold expand_Check
    simp only [go_sem, Nat.reduceBEq, Nat.reduceLeDiff, Nat.reduceAdd, Nat.reduceSub, Nat.reduceMul, Int.reduceLE, Int.reduceLT, Int.reduceToNat, Int.reduceNeg, reduceCtorEq, C_expand_demand, C_expand_examine, seqL, seqR, RC36]
    all_goals exact cl
def routing_compare_1 (x : Order) : Int := x.hour
def C_routing_compare_1 : List SV → Option Con := (pD .order fun x => pE (.det True (.v (.int .i64 (routing_compare_1 x)))))
theorem ok_routing_compare_1 : FnOk Tryz.prog 69 C_routing_compare_1 := by
  have hG : ConsOk Tryz.prog (mkG [] []) := mkG_ok cg0 cg0
  refine fn_okN [.o] mixed ts_ok hG (fn := Tryz.f69) (c := bodyOf Tryz.f69) (by kernel_rfl) (by kernel_rfl) (by kernel_rfl) (by kernel_rfl) fun l con h hp => ?_
  unfold C_routing_compare_1 at h
  obtain ⟨x, l0, rfl, h0⟩ := pD_inv h
  obtain ⟨rfl, rfl⟩ := pE_inv h0
  clear h h0
  dsimp only [conPre] at hp
  refine ⟨Nat.le_of_ble_eq_true rfl, (fun id st => none), ?_, ?_⟩
  · unfold bodyOf Tryz.f69
    simp only [loopsOk, and_self, true_and, and_true]
  · unfold bodyOf Tryz.f69
    try unfold routing_compare_1
    simp only [go_sem, Nat.reduceBEq, Nat.reduceLeDiff, Nat.reduceAdd, Nat.reduceSub, Nat.reduceMul, Int.reduceLE, Int.reduceLT, Int.reduceToNat, Int.reduceNeg, reduceCtorEq]
    all_goals exact cl
def routing_outlet (x : Order) : Int := (bif x.outlet then 1 else 0)
def C_routing_outlet : List SV → Option Con := (pD .order fun x => pE (.det True (.v (.int .i64 (routing_outlet x)))))
theorem ok_routing_outlet : FnOk Tryz.prog 70 C_routing_outlet := by
  have hG : ConsOk Tryz.prog (mkG [] []) := mkG_ok cg0 cg0
  refine fn_okN [.o] mixed ts_ok hG (fn := Tryz.f70) (c := bodyOf Tryz.f70) (by kernel_rfl) (by kernel_rfl) (by kernel_rfl) (by kernel_rfl) fun l con h hp => ?_
  unfold C_routing_outlet at h
  obtain ⟨x, l0, rfl, h0⟩ := pD_inv h
  obtain ⟨rfl, rfl⟩ := pE_inv h0
  clear h h0
  dsimp only [conPre] at hp
  refine ⟨Nat.le_of_ble_eq_true rfl, (fun id st => none), ?_, ?_⟩
  · unfold bodyOf Tryz.f70
    simp only [loopsOk, and_self, true_and, and_true]
  · unfold bodyOf Tryz.f70
    try unfold routing_outlet
    simp only [go_sem, Nat.reduceBEq, Nat.reduceLeDiff, Nat.reduceAdd, Nat.reduceSub, Nat.reduceMul, Int.reduceLE, Int.reduceLT, Int.reduceToNat, Int.reduceNeg, reduceCtorEq]
    all_goals exact cl
def routing_compare_2 (x : Order) : Int := x.index
def C_routing_compare_2 : List SV → Option Con := (pD .order fun x => pE (.det True (.v (.int .i64 (routing_compare_2 x)))))
theorem ok_routing_compare_2 : FnOk Tryz.prog 71 C_routing_compare_2 := by
  have hG : ConsOk Tryz.prog (mkG [] []) := mkG_ok cg0 cg0
  refine fn_okN [.o] mixed ts_ok hG (fn := Tryz.f71) (c := bodyOf Tryz.f71) (by kernel_rfl) (by kernel_rfl) (by kernel_rfl) (by kernel_rfl) fun l con h hp => ?_
  unfold C_routing_compare_2 at h
  obtain ⟨x, l0, rfl, h0⟩ := pD_inv h
  obtain ⟨rfl, rfl⟩ := pE_inv h0
  clear h h0
  dsimp only [conPre] at hp
  refine ⟨Nat.le_of_ble_eq_true rfl, (fun id st => none), ?_, ?_⟩
  · unfold bodyOf Tryz.f71
    simp only [loopsOk, and_self, true_and, and_true]
  · unfold bodyOf Tryz.f71
    try unfold routing_compare_2
    simp only [go_sem, Nat.reduceBEq, Nat.reduceLeDiff, Nat.reduceAdd, Nat.reduceSub, Nat.reduceMul, Int.reduceLE, Int.reduceLT, Int.reduceToNat, Int.reduceNeg, reduceCtorEq]
    all_goals exact cl
end Go.Sx
end
section
namespace Go.Sx
open Go.Proofs
set_option maxRecDepth 100000
set_option linter.unusedSimpArgs false
abbrev keyFns : SV := .ls [.fn 69 [] [], .fn 70 [] [], .fn 71 [] []]
open Classical in
noncomputable def C_routing_by : List SV → Option Con := fun l => if l = [keyFns] then some (.det True (.fn 81 [] [.ep [keyFns] 0])) else none
theorem ok_routing_by : FnOk Tryz.prog 68 C_routing_by := by
  have hG : ConsOk Tryz.prog (mkG [] []) := mkG_ok (by simp) (by simp)
  refine fn_okN [.o] mixed ts_ok hG (fn := Tryz.f68) (c := bodyOf Tryz.f68) (by kernel_rfl) (by kernel_rfl) (by kernel_rfl) (by kernel_rfl) fun l con h hp => ?_
  unfold C_routing_by at h
  split at h
  · rename_i hl
    subst hl
    cases h
    refine ⟨Nat.le_of_ble_eq_true rfl, L0, by unfold bodyOf Tryz.f68; simp only [loopsOk, and_self], ?_⟩
    unfold bodyOf Tryz.f68
    simp only [go_sem, keyFns, true_imp_iff, Nat.reduceBEq, Nat.reduceLeDiff, Nat.reduceAdd, Nat.reduceSub, Nat.reduceMul, true_and, and_true, implies_true, List.map_cons, List.map_nil]
    rfl
  · cases h
def C_routing_compare : List SV → Option Con := pE (.det True (.fn 81 [] [.ep [keyFns] 0]))
theorem ok_routing_compare : FnOk Tryz.prog 53 C_routing_compare := by
  have hG : ConsOk Tryz.prog (mkG [(68, C_routing_by)] []) := mkG_ok (by
    intro x hx
    simp only [List.mem_cons, List.not_mem_nil, or_false] at hx
    rcases hx with rfl
    exact ok_routing_by) (by simp)
  refine fn_okN [.o] mixed ts_ok hG (fn := Tryz.f53) (c := bodyOf Tryz.f53) (by kernel_rfl) (by kernel_rfl) (by kernel_rfl) (by kernel_rfl) fun l con h hp => ?_
  unfold C_routing_compare at h
  obtain ⟨rfl, rfl⟩ := pE_inv h
  refine ⟨Nat.le_of_ble_eq_true rfl, L0, by unfold bodyOf Tryz.f53; simp only [loopsOk, and_self], ?_⟩
  unfold bodyOf Tryz.f53
  simp only [go_sem, C_routing_by, keyFns, true_imp_iff, Nat.reduceBEq, Nat.reduceLeDiff, Nat.reduceAdd, Nat.reduceSub, Nat.reduceMul, true_and, and_true, implies_true, List.map_cons, List.map_nil, if_true]
  rfl
def ordKey (k : Nat) (x : Order) : Int := match k with | 0 => routing_compare_1 x | 1 => routing_outlet x | _ => routing_compare_2 x
def ordStep (a b : Order) : Nat → Unit → Int ⊕ Unit := fun k _ => bif (cmp_Compare_int (ordKey k a) (ordKey k b) != 0) then .inl (cmp_Compare_int (ordKey k a) (ordKey k b)) else .inr ()
def routing_by_1 (a b : Order) : Int := match runI (ordStep a b) 3 0 () with | .inl x => x | .inr _ => 0
open Classical in
noncomputable def C_routing_by_1 : List SV → Option Con := pD .order fun a => pD .order fun b => fun l => if l = [.ep [keyFns] 0] then some (.det True (.i (routing_by_1 a b))) else none
set_option maxHeartbeats 1000000 in
theorem ok_routing_by_1 : FnOk Tryz.prog 81 C_routing_by_1 := by
  have hG : ConsOk Tryz.prog (mkG [(52, C_cmp_Compare_int), (69, C_routing_compare_1), (70, C_routing_outlet), (71, C_routing_compare_2)] []) := mkG_ok (by
    intro x hx
    simp only [List.mem_cons, List.not_mem_nil, or_false] at hx
    rcases hx with rfl | rfl | rfl | rfl
    · exact ok_cmp_Compare_int
    · exact ok_routing_compare_1
    · exact ok_routing_outlet
    · exact ok_routing_compare_2) (by simp)
  refine fn_okN [.o] mixed ts_ok hG (fn := Tryz.f81) (c := bodyOf Tryz.f81) (by kernel_rfl) (by kernel_rfl) (by kernel_rfl) (by kernel_rfl) fun l con h hp => ?_
  unfold C_routing_by_1 at h
  obtain ⟨a, l0, rfl, h0⟩ := pD_inv h
  obtain ⟨b, l1, rfl, h1⟩ := pD_inv h0
  split at h1
  rotate_left
  · cases h1
  rename_i hl
  subst hl
  cases h1
  clear h h0
  obtain ⟨ah, ai, al, ao⟩ := a
  obtain ⟨bh, bi, bl, bo⟩ := b
  refine ⟨Nat.le_of_ble_eq_true rfl, (fun id st => bif Nat.beq id 0 then some (LC (ρ := Int) (σ := Unit) (lk 3 st.t = .ptr 0 0 ∧ lk 4 st.t = .ptr 1 0 ∧ lk 9 st.t = keyFns ∧ lk 10 st.t = .i 3 ∧ lk 11 st.t = .i 0 ∧ st.h = [.cells (cellsOf .order ⟨ah, ai, al, ao⟩), .cells (cellsOf .order ⟨bh, bi, bl, bo⟩)]) (runI (ordStep ⟨ah, ai, al, ao⟩ ⟨bh, bi, bl, bo⟩) 3 0 ()) (fun _ => .ret) (fun x => ⟨[(5, .i x)], [.dead, .dead]⟩) (fun _ => ⟨[], [.dead, .dead]⟩)) else none), ?_, ?_⟩
  · unfold bodyOf Tryz.f81
    simp only [loopsOk, true_and, and_true]
    refine count_okP mixed ts_ok hG (by kernel_rfl) fun st lc hC hp => ?_
    simp only [go_sem, Nat.reduceBEq, Option.some.injEq] at hC
    subst hC
    obtain ⟨t, h⟩ := st
    dsimp only [LC] at hp
    obtain ⟨e1, e2, e3, e4, e5, rfl⟩ := hp
    refine ⟨_, _, _, ordStep ⟨ah, ai, al, ao⟩ ⟨bh, bi, bl, bo⟩, fun _ _ => True, 3, (), _, _, _, (fun k _ => ⟨[(3, .ptr 0 0), (4, .ptr 1 0), (9, keyFns), (10, .i 3), (11, .i (k : Int))], [.cells (cellsOf .order ⟨ah, ai, al, ao⟩), .cells (cellsOf .order ⟨bh, bi, bl, bo⟩)]⟩), [0, 1], rfl, okI_all _ _ _ fun _ _ _ _ => trivial, Nat.le_refl _, ?_, fun k s hk hpk => ⟨L0, ?_, ?_⟩⟩
    · simp only [go_sem, e1, e2, e3, e4, e5, keyFns, Nat.reduceBEq, Nat.reduceLeDiff, Nat.reduceAdd, true_and, and_true]
      all_goals (first | done | decide | (repeat' (first | refine And.intro ?_ ?_ | rfl | decide)))
    · simp only [loopsOk, and_self, true_and, and_true]
    · have hk4 : k = 0 ∨ k = 1 ∨ k = 2 ∨ k = 3 := by omega
      have hw0 : IntKind.i64.wrap ((0 : Int) + 1) = ((0 + 1 : Nat) : Int) := by decide
      have hw1 : IntKind.i64.wrap ((1 : Int) + 1) = ((1 + 1 : Nat) : Int) := by decide
      have hw2 : IntKind.i64.wrap ((2 : Int) + 1) = ((2 + 1 : Nat) : Int) := by decide
      rcases hk4 with rfl | rfl | rfl | rfl
      all_goals
        simp only [go_sem, C_cmp_Compare_int, C_routing_compare_1, C_routing_outlet, C_routing_compare_2, keyFns, ordStep, ordKey, true_imp_iff, false_imp_iff, Bool.false_eq_true, Int.toNat_natCast, Int.toNat_zero, Nat.reduceBEq, Nat.reduceLeDiff, Nat.reduceAdd, Nat.reduceSub, Nat.reduceMul, Nat.reduceLT, Int.reduceLE, Int.reduceLT, Int.reduceToNat, Int.reduceNeg, true_and, and_true, and_self, implies_true, forall_const, reduceCtorEq, Int.cast_ofNat_Int]
      all_goals (first | done | (repeat' (first | with_reducible refine And.intro ?_ ?_ | ((with_reducible show _ ≠ _); first | assumption | omega | (simp_all; done) | grind) | with_reducible intro _)) <;> (first | done | assumption | rfl | omega | decide | (simp only [*, cond_true, cond_false, go_sem, true_imp_iff, false_imp_iff, Bool.false_eq_true, Int.toNat_natCast, Int.toNat_zero, Nat.reduceBEq, Nat.reduceLeDiff, Nat.reduceAdd, Nat.reduceSub, Nat.reduceMul, Int.reduceLE, Int.reduceLT, Int.reduceToNat, Int.reduceNeg, true_and, and_true, and_self, implies_true, forall_const, reduceCtorEq]; done) | (simp only [*, cond_true, cond_false, go_sem, true_imp_iff, false_imp_iff, Bool.false_eq_true, Int.toNat_natCast, Int.toNat_zero, Nat.reduceBEq, Nat.reduceLeDiff, Nat.reduceAdd, Nat.reduceSub, Nat.reduceMul, Int.reduceLE, Int.reduceLT, Int.reduceToNat, Int.reduceNeg, true_and, and_true, and_self, implies_true, forall_const, reduceCtorEq]; (repeat' (first | with_reducible refine And.intro ?_ ?_ | ((with_reducible show _ ≠ _); first | assumption | omega | (simp_all; done) | grind) | with_reducible intro _)) <;> (first | done | assumption | rfl | omega | decide))))
      all_goals trace_state
  · unfold bodyOf Tryz.f81
    unfold routing_by_1
    simp only [go_sem, keyFns, true_imp_iff, false_imp_iff, Bool.false_eq_true, Nat.reduceBEq, Nat.reduceLeDiff, Nat.reduceAdd, Nat.reduceSub, Nat.reduceMul, true_and, and_true, implies_true, sz, List.map_cons, List.map_nil]
    all_goals (first | done | (repeat' (first | with_reducible refine And.intro ?_ ?_ | ((with_reducible show _ ≠ _); first | assumption | omega | (simp_all; done) | grind) | with_reducible intro _)) <;> (first | done | assumption | rfl | omega | (simp only [*, cond_true, cond_false, Bool.not_true, Bool.not_false, go_sem, true_imp_iff, false_imp_iff, Bool.false_eq_true, Int.toNat_natCast, Int.toNat_zero, Nat.reduceBEq, Nat.reduceLeDiff, Nat.reduceAdd, Nat.reduceSub, Nat.reduceMul, Int.reduceLE, Int.reduceLT, Int.reduceToNat, Int.reduceNeg, true_and, and_true, and_self, implies_true, forall_const, reduceCtorEq]; done) | (simp only [*, cond_true, cond_false, Bool.not_true, Bool.not_false, go_sem, true_imp_iff, false_imp_iff, Bool.false_eq_true, Int.toNat_natCast, Int.toNat_zero, Nat.reduceBEq, Nat.reduceLeDiff, Nat.reduceAdd, Nat.reduceSub, Nat.reduceMul, Int.reduceLE, Int.reduceLT, Int.reduceToNat, Int.reduceNeg, true_and, and_true, and_self, implies_true, forall_const, reduceCtorEq]; (repeat' (first | with_reducible refine And.intro ?_ ?_ | ((with_reducible show _ ≠ _); first | assumption | omega | (simp_all; done) | grind) | with_reducible intro _)) <;> (first | done | assumption | rfl | omega | (simp_all; done))) | (simp_all [okI]; done) | grind))
end Go.Sx
end
section
namespace Go.Sx
open Go.Proofs
set_option maxRecDepth 100000
set_option linter.unusedSimpArgs false
def routing_Check_l0 (a0 : District) (a1 : List Order) : Nat → Unit → Unit ⊕ Unit := fun k_0 s_0 => (bif (a1.getD k_0 (default : Order)).outlet then (bif (((((((decide ((a1.getD k_0 (default : Order)).hour < 0)) || (decide ((a1.getD k_0 (default : Order)).hour ≥ a0.hours))) || (decide ((a1.getD k_0 (default : Order)).index < 0))) || (decide ((a1.getD k_0 (default : Order)).index ≥ (a0.farms.length : Int)))) || (decide ((a1.getD k_0 (default : Order)).litres < 1))) || (decide ((a1.getD k_0 (default : Order)).litres > 1073741824))) || ((decide ((k_0 : Int) > 0)) && (decide ((routing_by_1 (a1.getD (Int.toNat (IntKind.i64.wrap ((k_0 : Int) - 1))) (default : Order)) (a1.getD k_0 (default : Order))) ≥ 0)))) then .inl () else .inr ()) else (bif (((((((decide ((a1.getD k_0 (default : Order)).hour < 0)) || (decide ((a1.getD k_0 (default : Order)).hour ≥ a0.hours))) || (decide ((a1.getD k_0 (default : Order)).index < 0))) || (decide ((a1.getD k_0 (default : Order)).index ≥ (a0.reaches.length : Int)))) || (decide ((a1.getD k_0 (default : Order)).litres < 1))) || (decide ((a1.getD k_0 (default : Order)).litres > 1073741824))) || ((decide ((k_0 : Int) > 0)) && (decide ((routing_by_1 (a1.getD (Int.toNat (IntKind.i64.wrap ((k_0 : Int) - 1))) (default : Order)) (a1.getD k_0 (default : Order))) ≥ 0)))) then .inl () else .inr ()))
def routing_Check_l0_p (a0 : District) (a1 : List Order) : Nat → Unit → Prop := fun k_0 s_0 => (a0.reaches.length ≤ maxL → (((a1.getD k_0 (default : Order)).outlet = true → (a0.farms.length ≤ maxL → (((((((decide ((a1.getD k_0 (default : Order)).hour < 0)) || (decide ((a1.getD k_0 (default : Order)).hour ≥ a0.hours))) || (decide ((a1.getD k_0 (default : Order)).index < 0))) || (decide ((a1.getD k_0 (default : Order)).index ≥ (a0.farms.length : Int)))) || (decide ((a1.getD k_0 (default : Order)).litres < 1))) || (decide ((a1.getD k_0 (default : Order)).litres > 1073741824))) = false → ((decide ((k_0 : Int) > 0)) = true → (0 ≤ (IntKind.i64.wrap ((k_0 : Int) - 1)) ∧ (IntKind.i64.wrap ((k_0 : Int) - 1)) < (a1.length : Int)))))) ∧ ((a1.getD k_0 (default : Order)).outlet = false → (((((((decide ((a1.getD k_0 (default : Order)).hour < 0)) || (decide ((a1.getD k_0 (default : Order)).hour ≥ a0.hours))) || (decide ((a1.getD k_0 (default : Order)).index < 0))) || (decide ((a1.getD k_0 (default : Order)).index ≥ (a0.reaches.length : Int)))) || (decide ((a1.getD k_0 (default : Order)).litres < 1))) || (decide ((a1.getD k_0 (default : Order)).litres > 1073741824))) = false → ((decide ((k_0 : Int) > 0)) = true → (0 ≤ (IntKind.i64.wrap ((k_0 : Int) - 1)) ∧ (IntKind.i64.wrap ((k_0 : Int) - 1)) < (a1.length : Int)))))))
def routing_Check (a0 : District) (a1 : List Order) : Int := (bif ((expand_Check a0) != 0) then (expand_Check a0) else (bif (decide ((a1.length : Int) > 4096)) then 2 else (match runI (routing_Check_l0 a0 a1) a1.length 0 () with | .inl x_0_0 => 220 | .inr s_0 => 0)))
def routing_Check_p (a0 : District) (a1 : List Order) : Prop := (((expand_Check a0) != 0) = false → (a1.length ≤ maxL → ((decide ((a1.length : Int) > 4096)) = false → (a1.length ≤ maxL → okI (routing_Check_l0 a0 a1) (routing_Check_l0_p a0 a1) a1.length 0 ()))))
def C_routing_Check : List SV → Option Con := (pD .district fun a0 => (pR .order fun a1 => pE (.det (routing_Check_p a0 a1) (.v (.int .i64 (routing_Check a0 a1))))))
set_option maxHeartbeats 4000000 in
theorem ok_routing_Check : FnOk Tryz.prog 35 C_routing_Check := by
  have hG : ConsOk Tryz.prog (mkG [(31, fun l => C_expand_Check (nrmA [.st .district] l)), (53, C_routing_compare), (81, C_routing_by_1)] []) := mkG_ok (cgc (ok_expand_Check.norm [.st .district]) (cgc ok_routing_compare (cgc ok_routing_by_1 cg0))) cg0
  refine fn_okN [.o] mixed ts_ok hG (fn := Tryz.f35) (c := bodyOf Tryz.f35) (by kernel_rfl) (by kernel_rfl) (by kernel_rfl) (by kernel_rfl) fun l con h hp => ?_
  unfold C_routing_Check at h
  obtain ⟨a0, l0, rfl, h0⟩ := pD_inv h
  obtain ⟨a1, l1, rfl, h1⟩ := pR_inv h0
  obtain ⟨rfl, rfl⟩ := pE_inv h1
  clear h h0 h1
  dsimp only [conPre] at hp
  unfold routing_Check_p at hp
  refine ⟨Nat.le_of_ble_eq_true rfl, (fun id st => bif Nat.beq id 0 then some (LC (ρ := Unit) (σ := Unit) (lk 1 st.t = .rs .order a1 ∧ lk 2 st.t = .ptr 0 0 ∧ lk 5 st.t = .fn 81 [] [.ep [.ls [.fn 69 [] [], .fn 70 [] [], .fn 71 [] []]] 0] ∧ lk 18 st.t = .rs .order a1 ∧ lk 19 st.t = .v (.int .i64 (a1.length : Int)) ∧ lk 20 st.t = .v (.int .i64 0) ∧ st.h = [.cells [.v (.string a0.name), .v (.int .i64 a0.hours), .v (.int .i64 a0.tank.cap), .v (.int .i64 a0.tank.start), .rs .reach a0.reaches, .rs .farm a0.farms, .rs .crop a0.crops, .rs .right a0.rights, .rs .duty a0.duties, .rs .well a0.wells]] ∧ a1.length ≤ maxL ∧ okI (routing_Check_l0 a0 a1) (routing_Check_l0_p a0 a1) a1.length 0 ()) (runI (routing_Check_l0 a0 a1) a1.length 0 ()) (fun _ => .ret) (fun x_0_0 => ⟨[(4, .v (.int .i64 220))], [.dead]⟩) (fun s_0 => ⟨[], [.dead]⟩)) else none), ?_, ?_⟩
  · unfold bodyOf Tryz.f35
    simp only [loopsOk, true_and, and_true]
    · refine count_okP mixed ts_ok hG (by kernel_rfl) fun st lc hC hp => ?_
      simp only [go_sem, Nat.reduceBEq, Option.some.injEq] at hC
      subst hC
      obtain ⟨t, h⟩ := st
      dsimp only [LC] at hp
      obtain ⟨e0_0, e0_1, e0_2, e0_3, e0_4, e0_5, rfl, hb0, hok0⟩ := hp
      refine ⟨_, _, _, (routing_Check_l0 a0 a1), (routing_Check_l0_p a0 a1), a1.length, (), _, _, _, (fun k_0 s_0 => ⟨[(1, .rs .order a1), (2, .ptr 0 0), (5, .fn 81 [] [.ep [.ls [.fn 69 [] [], .fn 70 [] [], .fn 71 [] []]] 0]), (18, .rs .order a1), (19, .v (.int .i64 (a1.length : Int))), (20, .v (.int .i64 (k_0 : Int)))], [.cells [.v (.string a0.name), .v (.int .i64 a0.hours), .v (.int .i64 a0.tank.cap), .v (.int .i64 a0.tank.start), .rs .reach a0.reaches, .rs .farm a0.farms, .rs .crop a0.crops, .rs .right a0.rights, .rs .duty a0.duties, .rs .well a0.wells]]⟩), [0], rfl, hok0, Nat.le_refl _, ?_, fun k_0 s_0 hk0 hp0 => ?_⟩
      · simp only [go_sem, Nat.reduceBEq, Nat.reduceLeDiff, Nat.reduceAdd, Nat.reduceSub, Nat.reduceMul, Int.reduceLE, Int.reduceLT, Int.reduceToNat, Int.reduceNeg, reduceCtorEq, e0_0, e0_1, e0_2, e0_3, e0_4, e0_5]
        all_goals (first | done | decide | (repeat' (first | refine And.intro ?_ ?_ | rfl | decide)))
      refine ⟨(fun id st => none), ?_, ?_⟩
      · simp only [loopsOk, and_self, true_and, and_true]
      · by_cases hlt0 : k_0 < a1.length
        · have hw0 := wrapS hlt0 hb0
          have hq0 := hp0 hlt0
          unfold routing_Check_l0_p at hq0
          try simp only [hw0, Int.toNat_natCast] at hq0
          have hc0 : decide ((k_0 : Int) < (a1.length : Int)) = true := by simp only [decide_eq_true_eq]; omega
          simp only [go_sem, Nat.reduceBEq, Nat.reduceLeDiff, Nat.reduceAdd, Nat.reduceSub, Nat.reduceMul, Int.reduceLE, Int.reduceLT, Int.reduceToNat, Int.reduceNeg, reduceCtorEq, C_expand_Check, C_routing_compare, C_routing_by_1, if_true, routing_Check_l0, hc0, hw0]
          all_goals exact cl
        · have hc0 : decide ((k_0 : Int) < (a1.length : Int)) = false := by simp only [decide_eq_false_iff_not]; omega
          simp only [go_sem, Nat.reduceBEq, Nat.reduceLeDiff, Nat.reduceAdd, Nat.reduceSub, Nat.reduceMul, Int.reduceLE, Int.reduceLT, Int.reduceToNat, Int.reduceNeg, reduceCtorEq, C_expand_Check, C_routing_compare, C_routing_by_1, if_true, hc0]
          all_goals exact cl2
  · unfold bodyOf Tryz.f35
    try unfold routing_Check
    simp only [go_sem, Nat.reduceBEq, Nat.reduceLeDiff, Nat.reduceAdd, Nat.reduceSub, Nat.reduceMul, Int.reduceLE, Int.reduceLT, Int.reduceToNat, Int.reduceNeg, reduceCtorEq, C_expand_Check, C_routing_compare, C_routing_by_1, if_true]
    all_goals exact cl
def claims_first_l0 (l_ : List Int) : Nat → Unit → Int ⊕ Unit := fun k_0 s_0 => (bif ((l_.getD k_0 (0 : Int)) != 0) then .inl (l_.getD k_0 (0 : Int)) else .inr ())
def claims_first_l0_p (l_ : List Int) : Nat → Unit → Prop := fun k_0 s_0 => True
def claims_first (l_ : List Int) : Int := (match runI (claims_first_l0 l_) l_.length 0 () with | .inl x_0_0 => x_0_0 | .inr s_0 => 0)
def C_claims_first : List SV → Option Con := (pR .int fun l_ => pE (.det True (.v (.int .i64 (claims_first l_)))))
set_option maxHeartbeats 4000000 in
theorem ok_claims_first : FnOk Tryz.prog 51 C_claims_first := by
  have hG : ConsOk Tryz.prog (mkG [] []) := mkG_ok cg0 cg0
  refine fn_okN [.o] mixed ts_ok hG (fn := Tryz.f51) (c := bodyOf Tryz.f51) (by kernel_rfl) (by kernel_rfl) (by kernel_rfl) (by kernel_rfl) fun l con h hp => ?_
  unfold C_claims_first at h
  obtain ⟨l_, l0, rfl, h0⟩ := pR_inv h
  obtain ⟨rfl, rfl⟩ := pE_inv h0
  clear h h0
  dsimp only [conPre] at hp
  refine ⟨Nat.le_of_ble_eq_true rfl, (fun id st => bif Nat.beq id 0 then some (LC (ρ := Int) (σ := Unit) (lk 5 st.t = .rs .int l_ ∧ lk 6 st.t = .v (.int .i64 (l_.length : Int)) ∧ lk 7 st.t = .v (.int .i64 0) ∧ st.h = [] ∧ l_.length ≤ maxL) (runI (claims_first_l0 l_) l_.length 0 ()) (fun _ => .ret) (fun x_0_0 => ⟨[(2, .v (.int .i64 x_0_0))], []⟩) (fun s_0 => ⟨[], []⟩)) else none), ?_, ?_⟩
  · unfold bodyOf Tryz.f51
    simp only [loopsOk, true_and, and_true]
    · refine count_okP mixed ts_ok hG (by kernel_rfl) fun st lc hC hp => ?_
      simp only [go_sem, Nat.reduceBEq, Option.some.injEq] at hC
      subst hC
      obtain ⟨t, h⟩ := st
      dsimp only [LC] at hp
      obtain ⟨e0_0, e0_1, e0_2, rfl, hb0⟩ := hp
      refine ⟨_, _, _, (claims_first_l0 l_), (claims_first_l0_p l_), l_.length, (), _, _, _, (fun k_0 s_0 => ⟨[(5, .rs .int l_), (6, .v (.int .i64 (l_.length : Int))), (7, .v (.int .i64 (k_0 : Int)))], []⟩), [], rfl, okI_all _ _ _ fun _ _ _ _ => trivial, Nat.le_refl _, ?_, fun k_0 s_0 hk0 hp0 => ?_⟩
      · simp only [go_sem, Nat.reduceBEq, Nat.reduceLeDiff, Nat.reduceAdd, Nat.reduceSub, Nat.reduceMul, Int.reduceLE, Int.reduceLT, Int.reduceToNat, Int.reduceNeg, reduceCtorEq, e0_0, e0_1, e0_2]
        all_goals (first | done | decide | (repeat' (first | refine And.intro ?_ ?_ | rfl | decide)))
      refine ⟨(fun id st => none), ?_, ?_⟩
      · simp only [loopsOk, and_self, true_and, and_true]
      · by_cases hlt0 : k_0 < l_.length
        · have hw0 := wrapS hlt0 hb0
          have hq0 := hp0 hlt0
          unfold claims_first_l0_p at hq0
          try simp only [hw0, Int.toNat_natCast] at hq0
          have hc0 : decide ((k_0 : Int) < (l_.length : Int)) = true := by simp only [decide_eq_true_eq]; omega
          simp only [go_sem, Nat.reduceBEq, Nat.reduceLeDiff, Nat.reduceAdd, Nat.reduceSub, Nat.reduceMul, Int.reduceLE, Int.reduceLT, Int.reduceToNat, Int.reduceNeg, reduceCtorEq, claims_first_l0, hc0, hw0]
          all_goals exact cl
        · have hc0 : decide ((k_0 : Int) < (l_.length : Int)) = false := by simp only [decide_eq_false_iff_not]; omega
          simp only [go_sem, Nat.reduceBEq, Nat.reduceLeDiff, Nat.reduceAdd, Nat.reduceSub, Nat.reduceMul, Int.reduceLE, Int.reduceLT, Int.reduceToNat, Int.reduceNeg, reduceCtorEq, hc0]
          all_goals exact cl2
  · unfold bodyOf Tryz.f51
    try unfold claims_first
    simp only [go_sem, Nat.reduceBEq, Nat.reduceLeDiff, Nat.reduceAdd, Nat.reduceSub, Nat.reduceMul, Int.reduceLE, Int.reduceLT, Int.reduceToNat, Int.reduceNeg, reduceCtorEq]
    all_goals exact cl
def claims_order (a : Claim) (b : Claim) : Int := (claims_first ([(cmp_Compare_int a.hour b.hour), (cmp_Compare_int a.rank b.rank), (cmp_Compare_int a.right b.right), (cmp_Compare_int a.farm b.farm)]))
def C_claims_order : List SV → Option Con := (pD .claim fun a => (pD .claim fun b => pE (.det True (.v (.int .i64 (claims_order a b))))))
theorem ok_claims_order : FnOk Tryz.prog 34 C_claims_order := by
  have hG : ConsOk Tryz.prog (mkG [(51, fun l => C_claims_first (nrmA [.sl .int] l)), (52, C_cmp_Compare_int)] []) := mkG_ok (cgc (ok_claims_first.norm [.sl .int]) (cgc ok_cmp_Compare_int cg0)) cg0
  refine fn_okN [.o] mixed ts_ok hG (fn := Tryz.f34) (c := bodyOf Tryz.f34) (by kernel_rfl) (by kernel_rfl) (by kernel_rfl) (by kernel_rfl) fun l con h hp => ?_
  unfold C_claims_order at h
  obtain ⟨a, l0, rfl, h0⟩ := pD_inv h
  obtain ⟨b, l1, rfl, h1⟩ := pD_inv h0
  obtain ⟨rfl, rfl⟩ := pE_inv h1
  clear h h0 h1
  dsimp only [conPre] at hp
  refine ⟨Nat.le_of_ble_eq_true rfl, (fun id st => none), ?_, ?_⟩
  · unfold bodyOf Tryz.f34
    simp only [loopsOk, and_self, true_and, and_true]
  · unfold bodyOf Tryz.f34
    try unfold claims_order
    simp only [go_sem, Nat.reduceBEq, Nat.reduceLeDiff, Nat.reduceAdd, Nat.reduceSub, Nat.reduceMul, Int.reduceLE, Int.reduceLT, Int.reduceToNat, Int.reduceNeg, reduceCtorEq, C_claims_first, C_cmp_Compare_int]
    all_goals exact cl
def claims_Check_l0 (a0 : District) (a1 : List Claim) : Nat → Unit → Unit ⊕ Unit := fun k_0 s_0 => (bif ((((!((((((((decide ((a1.getD k_0 (default : Claim)).right ≥ 0)) && (decide ((a1.getD k_0 (default : Claim)).right < (a0.rights.length : Int)))) && (decide ((a1.getD k_0 (default : Claim)).farm ≥ 0))) && (decide ((a1.getD k_0 (default : Claim)).farm < (a0.farms.length : Int)))) && (decide ((a1.getD k_0 (default : Claim)).hour ≥ 0))) && (decide ((a1.getD k_0 (default : Claim)).hour < a0.hours))) && (decide ((a1.getD k_0 (default : Claim)).litres ≥ 1))) && (decide ((a1.getD k_0 (default : Claim)).litres ≤ 1073741824)))) || ((a0.rights.getD (Int.toNat ((a1.getD k_0 (default : Claim)).right)) (default : Right)).kind != 1)) || ((a0.rights.getD (Int.toNat ((a1.getD k_0 (default : Claim)).right)) (default : Right)).rank != (a1.getD k_0 (default : Claim)).rank)) || ((decide ((k_0 : Int) > 0)) && (decide ((claims_order (a1.getD (Int.toNat (IntKind.i64.wrap ((k_0 : Int) - 1))) (default : Claim)) (a1.getD k_0 (default : Claim))) ≥ 0)))) then .inl () else .inr ())
def claims_Check_l0_p (a0 : District) (a1 : List Claim) : Nat → Unit → Prop := fun k_0 s_0 => (((!((((((((decide ((a1.getD k_0 (default : Claim)).right ≥ 0)) && (decide ((a1.getD k_0 (default : Claim)).right < (a0.rights.length : Int)))) && (decide ((a1.getD k_0 (default : Claim)).farm ≥ 0))) && (decide ((a1.getD k_0 (default : Claim)).farm < (a0.farms.length : Int)))) && (decide ((a1.getD k_0 (default : Claim)).hour ≥ 0))) && (decide ((a1.getD k_0 (default : Claim)).hour < a0.hours))) && (decide ((a1.getD k_0 (default : Claim)).litres ≥ 1))) && (decide ((a1.getD k_0 (default : Claim)).litres ≤ 1073741824)))) = false → (0 ≤ (a1.getD k_0 (default : Claim)).right ∧ (a1.getD k_0 (default : Claim)).right < (a0.rights.length : Int))) ∧ ((((!((((((((decide ((a1.getD k_0 (default : Claim)).right ≥ 0)) && (decide ((a1.getD k_0 (default : Claim)).right < (a0.rights.length : Int)))) && (decide ((a1.getD k_0 (default : Claim)).farm ≥ 0))) && (decide ((a1.getD k_0 (default : Claim)).farm < (a0.farms.length : Int)))) && (decide ((a1.getD k_0 (default : Claim)).hour ≥ 0))) && (decide ((a1.getD k_0 (default : Claim)).hour < a0.hours))) && (decide ((a1.getD k_0 (default : Claim)).litres ≥ 1))) && (decide ((a1.getD k_0 (default : Claim)).litres ≤ 1073741824)))) || ((a0.rights.getD (Int.toNat ((a1.getD k_0 (default : Claim)).right)) (default : Right)).kind != 1)) = false → (0 ≤ (a1.getD k_0 (default : Claim)).right ∧ (a1.getD k_0 (default : Claim)).right < (a0.rights.length : Int))) ∧ ((((!((((((((decide ((a1.getD k_0 (default : Claim)).right ≥ 0)) && (decide ((a1.getD k_0 (default : Claim)).right < (a0.rights.length : Int)))) && (decide ((a1.getD k_0 (default : Claim)).farm ≥ 0))) && (decide ((a1.getD k_0 (default : Claim)).farm < (a0.farms.length : Int)))) && (decide ((a1.getD k_0 (default : Claim)).hour ≥ 0))) && (decide ((a1.getD k_0 (default : Claim)).hour < a0.hours))) && (decide ((a1.getD k_0 (default : Claim)).litres ≥ 1))) && (decide ((a1.getD k_0 (default : Claim)).litres ≤ 1073741824)))) || ((a0.rights.getD (Int.toNat ((a1.getD k_0 (default : Claim)).right)) (default : Right)).kind != 1)) || ((a0.rights.getD (Int.toNat ((a1.getD k_0 (default : Claim)).right)) (default : Right)).rank != (a1.getD k_0 (default : Claim)).rank)) = false → ((decide ((k_0 : Int) > 0)) = true → (0 ≤ (IntKind.i64.wrap ((k_0 : Int) - 1)) ∧ (IntKind.i64.wrap ((k_0 : Int) - 1)) < (a1.length : Int))))))
def claims_Check (a0 : District) (a1 : List Claim) : Int := (bif ((expand_Check a0) != 0) then (expand_Check a0) else (bif (decide ((a1.length : Int) > 4096)) then 2 else (match runI (claims_Check_l0 a0 a1) a1.length 0 () with | .inl x_0_0 => 260 | .inr s_0 => 0)))
def claims_Check_p (a0 : District) (a1 : List Claim) : Prop := (((expand_Check a0) != 0) = false → (a1.length ≤ maxL → ((decide ((a1.length : Int) > 4096)) = false → (a1.length ≤ maxL → okI (claims_Check_l0 a0 a1) (claims_Check_l0_p a0 a1) a1.length 0 ()))))
def C_claims_Check : List SV → Option Con := (pD .district fun a0 => (pR .claim fun a1 => pE (.det (claims_Check_p a0 a1) (.v (.int .i64 (claims_Check a0 a1))))))
set_option maxHeartbeats 4000000 in
theorem ok_claims_Check : FnOk Tryz.prog 17 C_claims_Check := by
  have hG : ConsOk Tryz.prog (mkG [(31, fun l => C_expand_Check (nrmA [.st .district] l)), (34, C_claims_order)] []) := mkG_ok (cgc (ok_expand_Check.norm [.st .district]) (cgc ok_claims_order cg0)) cg0
  refine fn_okN [.o] mixed ts_ok hG (fn := Tryz.f17) (c := bodyOf Tryz.f17) (by kernel_rfl) (by kernel_rfl) (by kernel_rfl) (by kernel_rfl) fun l con h hp => ?_
  unfold C_claims_Check at h
  obtain ⟨a0, l0, rfl, h0⟩ := pD_inv h
  obtain ⟨a1, l1, rfl, h1⟩ := pR_inv h0
  obtain ⟨rfl, rfl⟩ := pE_inv h1
  clear h h0 h1
  dsimp only [conPre] at hp
  unfold claims_Check_p at hp
  refine ⟨Nat.le_of_ble_eq_true rfl, (fun id st => bif Nat.beq id 0 then some (LC (ρ := Unit) (σ := Unit) (lk 1 st.t = .rs .claim a1 ∧ lk 2 st.t = .ptr 0 0 ∧ lk 16 st.t = .rs .claim a1 ∧ lk 17 st.t = .v (.int .i64 (a1.length : Int)) ∧ lk 18 st.t = .v (.int .i64 0) ∧ st.h = [.cells [.v (.string a0.name), .v (.int .i64 a0.hours), .v (.int .i64 a0.tank.cap), .v (.int .i64 a0.tank.start), .rs .reach a0.reaches, .rs .farm a0.farms, .rs .crop a0.crops, .rs .right a0.rights, .rs .duty a0.duties, .rs .well a0.wells]] ∧ a1.length ≤ maxL ∧ okI (claims_Check_l0 a0 a1) (claims_Check_l0_p a0 a1) a1.length 0 ()) (runI (claims_Check_l0 a0 a1) a1.length 0 ()) (fun _ => .ret) (fun x_0_0 => ⟨[(4, .v (.int .i64 260))], [.dead]⟩) (fun s_0 => ⟨[], [.dead]⟩)) else none), ?_, ?_⟩
  · unfold bodyOf Tryz.f17
    simp only [loopsOk, true_and, and_true]
    · refine count_okP mixed ts_ok hG (by kernel_rfl) fun st lc hC hp => ?_
      simp only [go_sem, Nat.reduceBEq, Option.some.injEq] at hC
      subst hC
      obtain ⟨t, h⟩ := st
      dsimp only [LC] at hp
      obtain ⟨e0_0, e0_1, e0_2, e0_3, e0_4, rfl, hb0, hok0⟩ := hp
      refine ⟨_, _, _, (claims_Check_l0 a0 a1), (claims_Check_l0_p a0 a1), a1.length, (), _, _, _, (fun k_0 s_0 => ⟨[(1, .rs .claim a1), (2, .ptr 0 0), (16, .rs .claim a1), (17, .v (.int .i64 (a1.length : Int))), (18, .v (.int .i64 (k_0 : Int)))], [.cells [.v (.string a0.name), .v (.int .i64 a0.hours), .v (.int .i64 a0.tank.cap), .v (.int .i64 a0.tank.start), .rs .reach a0.reaches, .rs .farm a0.farms, .rs .crop a0.crops, .rs .right a0.rights, .rs .duty a0.duties, .rs .well a0.wells]]⟩), [0], rfl, hok0, Nat.le_refl _, ?_, fun k_0 s_0 hk0 hp0 => ?_⟩
      · simp only [go_sem, Nat.reduceBEq, Nat.reduceLeDiff, Nat.reduceAdd, Nat.reduceSub, Nat.reduceMul, Int.reduceLE, Int.reduceLT, Int.reduceToNat, Int.reduceNeg, reduceCtorEq, e0_0, e0_1, e0_2, e0_3, e0_4]
        all_goals (first | done | decide | (repeat' (first | refine And.intro ?_ ?_ | rfl | decide)))
      refine ⟨(fun id st => none), ?_, ?_⟩
      · simp only [loopsOk, and_self, true_and, and_true]
      · by_cases hlt0 : k_0 < a1.length
        · have hw0 := wrapS hlt0 hb0
          have hq0 := hp0 hlt0
          unfold claims_Check_l0_p at hq0
          try simp only [hw0, Int.toNat_natCast] at hq0
          have hc0 : decide ((k_0 : Int) < (a1.length : Int)) = true := by simp only [decide_eq_true_eq]; omega
          simp only [go_sem, Nat.reduceBEq, Nat.reduceLeDiff, Nat.reduceAdd, Nat.reduceSub, Nat.reduceMul, Int.reduceLE, Int.reduceLT, Int.reduceToNat, Int.reduceNeg, reduceCtorEq, C_expand_Check, C_claims_order, claims_Check_l0, hc0, hw0]
          all_goals exact cl
        · have hc0 : decide ((k_0 : Int) < (a1.length : Int)) = false := by simp only [decide_eq_false_iff_not]; omega
          simp only [go_sem, Nat.reduceBEq, Nat.reduceLeDiff, Nat.reduceAdd, Nat.reduceSub, Nat.reduceMul, Int.reduceLE, Int.reduceLT, Int.reduceToNat, Int.reduceNeg, reduceCtorEq, C_expand_Check, C_claims_order, hc0]
          all_goals exact cl2
  · unfold bodyOf Tryz.f17
    try unfold claims_Check
    simp only [go_sem, Nat.reduceBEq, Nat.reduceLeDiff, Nat.reduceAdd, Nat.reduceSub, Nat.reduceMul, Int.reduceLE, Int.reduceLT, Int.reduceToNat, Int.reduceNeg, reduceCtorEq, C_expand_Check, C_claims_order]
    all_goals exact cl
def losses_in (n : Int) (lo : Int) (hi : Int) : Bool := ((decide (n ≥ lo)) && (decide (n ≤ hi)))
def C_losses_in : List SV → Option Con := (pI fun n => (pI fun lo => (pI fun hi => pE (.det True (.v (.bool (losses_in n lo hi)))))))
theorem ok_losses_in : FnOk Tryz.prog 79 C_losses_in := by
  have hG : ConsOk Tryz.prog (mkG [] []) := mkG_ok cg0 cg0
  refine fn_okN [.o] mixed ts_ok hG (fn := Tryz.f79) (c := bodyOf Tryz.f79) (by kernel_rfl) (by kernel_rfl) (by kernel_rfl) (by kernel_rfl) fun l con h hp => ?_
  unfold C_losses_in at h
  obtain ⟨n, l0, rfl, h0⟩ := pI_inv h
  obtain ⟨lo, l1, rfl, h1⟩ := pI_inv h0
  obtain ⟨hi, l2, rfl, h2⟩ := pI_inv h1
  obtain ⟨rfl, rfl⟩ := pE_inv h2
  clear h h0 h1 h2
  dsimp only [conPre] at hp
  refine ⟨Nat.le_of_ble_eq_true rfl, (fun id st => none), ?_, ?_⟩
  · unfold bodyOf Tryz.f79
    simp only [loopsOk, and_self, true_and, and_true]
  · unfold bodyOf Tryz.f79
    try unfold losses_in
    simp only [go_sem, Nat.reduceBEq, Nat.reduceLeDiff, Nat.reduceAdd, Nat.reduceSub, Nat.reduceMul, Int.reduceLE, Int.reduceLT, Int.reduceToNat, Int.reduceNeg, reduceCtorEq]
    all_goals exact cl
def losses_share (a : Ratio) : Bool := (((ratio_Check a) == 0) && (losses_in a.n 0 a.d))
def C_losses_share : List SV → Option Con := (pD .ratio fun a => pE (.det True (.v (.bool (losses_share a)))))
theorem ok_losses_share : FnOk Tryz.prog 89 C_losses_share := by
  have hG : ConsOk Tryz.prog (mkG [(79, C_losses_in), (90, C_ratio_Check)] []) := mkG_ok (cgc ok_losses_in (cgc ok_ratio_Check cg0)) cg0
  refine fn_okN [.o] mixed ts_ok hG (fn := Tryz.f89) (c := bodyOf Tryz.f89) (by kernel_rfl) (by kernel_rfl) (by kernel_rfl) (by kernel_rfl) fun l con h hp => ?_
  unfold C_losses_share at h
  obtain ⟨a, l0, rfl, h0⟩ := pD_inv h
  obtain ⟨rfl, rfl⟩ := pE_inv h0
  clear h h0
  dsimp only [conPre] at hp
  refine ⟨Nat.le_of_ble_eq_true rfl, (fun id st => none), ?_, ?_⟩
  · unfold bodyOf Tryz.f89
    simp only [loopsOk, and_self, true_and, and_true]
  · unfold bodyOf Tryz.f89
    try unfold losses_share
    simp only [go_sem, Nat.reduceBEq, Nat.reduceLeDiff, Nat.reduceAdd, Nat.reduceSub, Nat.reduceMul, Int.reduceLE, Int.reduceLT, Int.reduceToNat, Int.reduceNeg, reduceCtorEq, C_losses_in, C_ratio_Check]
    all_goals exact cl
def losses_shares (a : Ratio × Ratio) : Bool := (bif ((!(losses_share a.1)) || (!(losses_share a.2))) then false else (((ratio_Cmp a.1 a.2).2 == 0) && (decide ((ratio_Cmp a.1 a.2).1 ≤ 0))))
def C_losses_shares : List SV → Option Con := (pD .ratio2 fun a => pE (.det True (.v (.bool (losses_shares a)))))
theorem ok_losses_shares : FnOk Tryz.prog 78 C_losses_shares := by
  have hG : ConsOk Tryz.prog (mkG [(88, C_ratio_Cmp), (89, C_losses_share)] []) := mkG_ok (cgc ok_ratio_Cmp (cgc ok_losses_share cg0)) cg0
  refine fn_okN [.o] mixed ts_ok hG (fn := Tryz.f78) (c := bodyOf Tryz.f78) (by kernel_rfl) (by kernel_rfl) (by kernel_rfl) (by kernel_rfl) fun l con h hp => ?_
  unfold C_losses_shares at h
  obtain ⟨a, l0, rfl, h0⟩ := pD_inv h
  obtain ⟨rfl, rfl⟩ := pE_inv h0
  clear h h0
  dsimp only [conPre] at hp
  refine ⟨Nat.le_of_ble_eq_true rfl, (fun id st => none), ?_, ?_⟩
  · unfold bodyOf Tryz.f78
    simp only [loopsOk, and_self, true_and, and_true]
  · unfold bodyOf Tryz.f78
    try unfold losses_shares
    simp only [go_sem, Nat.reduceBEq, Nat.reduceLeDiff, Nat.reduceAdd, Nat.reduceSub, Nat.reduceMul, Int.reduceLE, Int.reduceLT, Int.reduceToNat, Int.reduceNeg, reduceCtorEq, C_ratio_Cmp, C_losses_share]
    all_goals exact cl
def losses_ordered (x : Range) (most : Int) : Bool := (((decide (x.lo ≥ 0)) && (decide (x.lo ≤ x.hi))) && (decide (x.hi ≤ most)))
def C_losses_ordered : List SV → Option Con := (pD .range fun x => (pI fun most => pE (.det True (.v (.bool (losses_ordered x most))))))
theorem ok_losses_ordered : FnOk Tryz.prog 77 C_losses_ordered := by
  have hG : ConsOk Tryz.prog (mkG [] []) := mkG_ok cg0 cg0
  refine fn_okN [.o] mixed ts_ok hG (fn := Tryz.f77) (c := bodyOf Tryz.f77) (by kernel_rfl) (by kernel_rfl) (by kernel_rfl) (by kernel_rfl) fun l con h hp => ?_
  unfold C_losses_ordered at h
  obtain ⟨x, l0, rfl, h0⟩ := pD_inv h
  obtain ⟨most, l1, rfl, h1⟩ := pI_inv h0
  obtain ⟨rfl, rfl⟩ := pE_inv h1
  clear h h0 h1
  dsimp only [conPre] at hp
  refine ⟨Nat.le_of_ble_eq_true rfl, (fun id st => none), ?_, ?_⟩
  · unfold bodyOf Tryz.f77
    simp only [loopsOk, and_self, true_and, and_true]
  · unfold bodyOf Tryz.f77
    try unfold losses_ordered
    simp only [go_sem, Nat.reduceBEq, Nat.reduceLeDiff, Nat.reduceAdd, Nat.reduceSub, Nat.reduceMul, Int.reduceLE, Int.reduceLT, Int.reduceToNat, Int.reduceNeg, reduceCtorEq]
    all_goals exact cl
def losses_valid (r : Reach) (n : Int) : Int := (bif ((!(losses_ordered r.evap 1073741824)) || (!(losses_shares r.seep))) then 210 else (bif (!(losses_in n 0 1073741824)) then 1 else 0))
def C_losses_valid : List SV → Option Con := (pD .reach fun r => (pI fun n => pE (.det True (.v (.int .i64 (losses_valid r n))))))
theorem ok_losses_valid : FnOk Tryz.prog 65 C_losses_valid := by
  have hG : ConsOk Tryz.prog (mkG [(77, C_losses_ordered), (78, C_losses_shares), (79, C_losses_in)] []) := mkG_ok (cgc ok_losses_ordered (cgc ok_losses_shares (cgc ok_losses_in cg0))) cg0
  refine fn_okN [.o] mixed ts_ok hG (fn := Tryz.f65) (c := bodyOf Tryz.f65) (by kernel_rfl) (by kernel_rfl) (by kernel_rfl) (by kernel_rfl) fun l con h hp => ?_
  unfold C_losses_valid at h
  obtain ⟨r, l0, rfl, h0⟩ := pD_inv h
  obtain ⟨n, l1, rfl, h1⟩ := pI_inv h0
  obtain ⟨rfl, rfl⟩ := pE_inv h1
  clear h h0 h1
  dsimp only [conPre] at hp
  refine ⟨Nat.le_of_ble_eq_true rfl, (fun id st => none), ?_, ?_⟩
  · unfold bodyOf Tryz.f65
    simp only [loopsOk, and_self, true_and, and_true]
  · unfold bodyOf Tryz.f65
    try unfold losses_valid
    simp only [go_sem, Nat.reduceBEq, Nat.reduceLeDiff, Nat.reduceAdd, Nat.reduceSub, Nat.reduceMul, Int.reduceLE, Int.reduceLT, Int.reduceToNat, Int.reduceNeg, reduceCtorEq, C_losses_ordered, C_losses_shares, C_losses_in]
    all_goals exact cl
def ratio_down (n : Int) (d : Int) : Int := (IntKind.i64.wrap (Int.tdiv (IntKind.i64.wrap (n - (Int.tmod (IntKind.i64.wrap ((Int.tmod n d) + d)) d))) d))
def ratio_down_p (n : Int) (d : Int) : Prop := (d ≠ 0 ∧ (d ≠ 0 ∧ d ≠ 0))
def C_ratio_down : List SV → Option Con := (pI fun n => (pI fun d => pE (.det (ratio_down_p n d) (.v (.int .i64 (ratio_down n d))))))
theorem ok_ratio_down : FnOk Tryz.prog 91 C_ratio_down := by
  have hG : ConsOk Tryz.prog (mkG [] []) := mkG_ok cg0 cg0
  refine fn_okN [.o] mixed ts_ok hG (fn := Tryz.f91) (c := bodyOf Tryz.f91) (by kernel_rfl) (by kernel_rfl) (by kernel_rfl) (by kernel_rfl) fun l con h hp => ?_
  unfold C_ratio_down at h
  obtain ⟨n, l0, rfl, h0⟩ := pI_inv h
  obtain ⟨d, l1, rfl, h1⟩ := pI_inv h0
  obtain ⟨rfl, rfl⟩ := pE_inv h1
  clear h h0 h1
  dsimp only [conPre] at hp
  unfold ratio_down_p at hp
  refine ⟨Nat.le_of_ble_eq_true rfl, (fun id st => none), ?_, ?_⟩
  · unfold bodyOf Tryz.f91
    simp only [loopsOk, and_self, true_and, and_true]
  · unfold bodyOf Tryz.f91
    try unfold ratio_down
    simp only [go_sem, Nat.reduceBEq, Nat.reduceLeDiff, Nat.reduceAdd, Nat.reduceSub, Nat.reduceMul, Int.reduceLE, Int.reduceLT, Int.reduceToNat, Int.reduceNeg, reduceCtorEq]
    all_goals exact cl
def ratio_Times (a : Ratio) (n : Int) : Int × Int × Int := (bif ((ratio_Check a) != 0) then (0, 0, (ratio_Check a)) else (bif ((decide (n < (-1073741824))) || (decide (n > 1073741824))) then (0, 0, 1) else ((ratio_down (IntKind.i64.wrap (a.n * n)) a.d), (IntKind.i64.wrap (0 - (ratio_down (IntKind.i64.wrap ((IntKind.i64.wrap (0 - a.n)) * n)) a.d))), 0)))
def ratio_Times_p (a : Ratio) (n : Int) : Prop := (((ratio_Check a) != 0) = false → (((decide (n < (-1073741824))) || (decide (n > 1073741824))) = false → ((ratio_down_p (IntKind.i64.wrap (a.n * n)) a.d) ∧ (ratio_down_p (IntKind.i64.wrap ((IntKind.i64.wrap (0 - a.n)) * n)) a.d))))
theorem ratio_Check_d {a : Ratio} (h : (ratio_Check a != 0) = false) : 1 ≤ a.d := by
  unfold ratio_Check at h
  by_cases hd : a.d < 1
  · simp [hd] at h
  · omega
theorem ratio_Times_pt (a : Ratio) (n : Int) : ratio_Times_p a n := fun h _ => by
  have := ratio_Check_d h
  exact ⟨⟨by omega, by omega, by omega⟩, ⟨by omega, by omega, by omega⟩⟩
def C_ratio_Times : List SV → Option Con := (pD .ratio fun a => (pI fun n => pE (.det True (.tup [.v (.int .i64 ((ratio_Times a n).1)), .v (.int .i64 ((ratio_Times a n).2.1)), .v (.int .i64 ((ratio_Times a n).2.2))]))))
theorem ok_ratio_Times : FnOk Tryz.prog 80 C_ratio_Times := by
  have hG : ConsOk Tryz.prog (mkG [(90, C_ratio_Check), (91, C_ratio_down)] []) := mkG_ok (cgc ok_ratio_Check (cgc ok_ratio_down cg0)) cg0
  refine fn_okN [.o, .o, .o] mixed ts_ok hG (fn := Tryz.f80) (c := bodyOf Tryz.f80) (by kernel_rfl) (by kernel_rfl) (by kernel_rfl) (by kernel_rfl) fun l con h hp => ?_
  unfold C_ratio_Times at h
  obtain ⟨a, l0, rfl, h0⟩ := pD_inv h
  obtain ⟨n, l1, rfl, h1⟩ := pI_inv h0
  obtain ⟨rfl, rfl⟩ := pE_inv h1
  clear h h0 h1
  dsimp only [conPre] at hp
  have hp := ratio_Times_pt a n
  unfold ratio_Times_p at hp
  refine ⟨Nat.le_of_ble_eq_true rfl, (fun id st => none), ?_, ?_⟩
  · unfold bodyOf Tryz.f80
    simp only [loopsOk, and_self, true_and, and_true]
  · unfold bodyOf Tryz.f80
    try unfold ratio_Times
    simp only [go_sem, Nat.reduceBEq, Nat.reduceLeDiff, Nat.reduceAdd, Nat.reduceSub, Nat.reduceMul, Int.reduceLE, Int.reduceLT, Int.reduceToNat, Int.reduceNeg, reduceCtorEq, C_ratio_Check, C_ratio_down]
    all_goals exact cl
def losses_lost (r : Reach) (v : Int) : Range := (bif (v == 0) then ({ lo := 0, hi := 0 } : Range) else ({ lo := (if (IntKind.i64.wrap (r.evap.lo + (ratio_Times r.seep.1 v).1)) < v then (IntKind.i64.wrap (r.evap.lo + (ratio_Times r.seep.1 v).1)) else v), hi := (if (IntKind.i64.wrap (r.evap.hi + (ratio_Times r.seep.2 v).2.1)) < v then (IntKind.i64.wrap (r.evap.hi + (ratio_Times r.seep.2 v).2.1)) else v) } : Range))
def C_losses_lost : List SV → Option Con := (pD .reach fun r => (pI fun v => pE (.det True (.agg (cellsOf .range (losses_lost r v))))))
theorem ok_losses_lost : FnOk Tryz.prog 66 C_losses_lost := by
  have hG : ConsOk Tryz.prog (mkG [(80, C_ratio_Times)] []) := mkG_ok (cgc ok_ratio_Times cg0) cg0
  refine fn_okN [.st .range] mixed ts_ok hG (fn := Tryz.f66) (c := bodyOf Tryz.f66) (by kernel_rfl) (by kernel_rfl) (by kernel_rfl) (by kernel_rfl) fun l con h hp => ?_
  unfold C_losses_lost at h
  obtain ⟨r, l0, rfl, h0⟩ := pD_inv h
  obtain ⟨v, l1, rfl, h1⟩ := pI_inv h0
  obtain ⟨rfl, rfl⟩ := pE_inv h1
  clear h h0 h1
  dsimp only [conPre] at hp
  refine ⟨Nat.le_of_ble_eq_true rfl, (fun id st => none), ?_, ?_⟩
  · unfold bodyOf Tryz.f66
    simp only [loopsOk, and_self, true_and, and_true]
  · unfold bodyOf Tryz.f66
    try unfold losses_lost
    simp only [go_sem, Nat.reduceBEq, Nat.reduceLeDiff, Nat.reduceAdd, Nat.reduceSub, Nat.reduceMul, Int.reduceLE, Int.reduceLT, Int.reduceToNat, Int.reduceNeg, reduceCtorEq, C_ratio_Times]
    all_goals exact cl
def losses_Worst (r : Reach) (v : Int) : Int × Int := (bif ((losses_valid r v) != 0) then (0, (losses_valid r v)) else ((IntKind.i64.wrap (v - (losses_lost r v).hi)), 0))
def C_losses_Worst : List SV → Option Con := (pD .reach fun r => (pI fun v => pE (.det True (.tup [.v (.int .i64 ((losses_Worst r v).1)), .v (.int .i64 ((losses_Worst r v).2))]))))
theorem ok_losses_Worst : FnOk Tryz.prog 50 C_losses_Worst := by
  have hG : ConsOk Tryz.prog (mkG [(65, C_losses_valid), (66, C_losses_lost)] []) := mkG_ok (cgc ok_losses_valid (cgc ok_losses_lost cg0)) cg0
  refine fn_okN [.o, .o] mixed ts_ok hG (fn := Tryz.f50) (c := bodyOf Tryz.f50) (by kernel_rfl) (by kernel_rfl) (by kernel_rfl) (by kernel_rfl) fun l con h hp => ?_
  unfold C_losses_Worst at h
  obtain ⟨r, l0, rfl, h0⟩ := pD_inv h
  obtain ⟨v, l1, rfl, h1⟩ := pI_inv h0
  obtain ⟨rfl, rfl⟩ := pE_inv h1
  clear h h0 h1
  dsimp only [conPre] at hp
  refine ⟨Nat.le_of_ble_eq_true rfl, (fun id st => none), ?_, ?_⟩
  · unfold bodyOf Tryz.f50
    simp only [loopsOk, and_self, true_and, and_true]
  · unfold bodyOf Tryz.f50
    try unfold losses_Worst
    simp only [go_sem, Nat.reduceBEq, Nat.reduceLeDiff, Nat.reduceAdd, Nat.reduceSub, Nat.reduceMul, Int.reduceLE, Int.reduceLT, Int.reduceToNat, Int.reduceNeg, reduceCtorEq, C_losses_valid, C_losses_lost]
    all_goals exact cl
def certify_table_arrives (t : CertifyTable) (reach : Int) (hour : Int) : Int := (losses_Worst (t.d.reaches.getD (Int.toNat reach) (default : Reach)) (mgetT .certifyPlace .int t.litres ({ hour := (IntKind.i64.wrap (hour - (t.d.reaches.getD (Int.toNat reach) (default : Reach)).delay)), index := reach, outlet := false } : CertifyPlace))).1
def certify_table_arrives_p (t : CertifyTable) (reach : Int) (hour : Int) : Prop := ((0 ≤ reach ∧ reach < (t.d.reaches.length : Int)) ∧ (0 ≤ reach ∧ reach < (t.d.reaches.length : Int)))
def C_certify_table_arrives : List SV → Option Con := (pD .certifyTable fun t => (pI fun reach => (pI fun hour => pE (.det (certify_table_arrives_p t reach hour) (.v (.int .i64 (certify_table_arrives t reach hour)))))))
theorem ok_certify_table_arrives : FnOk Tryz.prog 32 C_certify_table_arrives := by
  have hG : ConsOk Tryz.prog (mkG [(50, C_losses_Worst)] []) := mkG_ok (cgc ok_losses_Worst cg0) cg0
  refine fn_okN [.o] mixed ts_ok hG (fn := Tryz.f32) (c := bodyOf Tryz.f32) (by kernel_rfl) (by kernel_rfl) (by kernel_rfl) (by kernel_rfl) fun l con h hp => ?_
  unfold C_certify_table_arrives at h
  obtain ⟨t, l0, rfl, h0⟩ := pD_inv h
  obtain ⟨reach, l1, rfl, h1⟩ := pI_inv h0
  obtain ⟨hour, l2, rfl, h2⟩ := pI_inv h1
  obtain ⟨rfl, rfl⟩ := pE_inv h2
  clear h h0 h1 h2
  dsimp only [conPre] at hp
  unfold certify_table_arrives_p at hp
  refine ⟨Nat.le_of_ble_eq_true rfl, (fun id st => none), ?_, ?_⟩
  · unfold bodyOf Tryz.f32
    simp only [loopsOk, and_self, true_and, and_true]
  · unfold bodyOf Tryz.f32
    try unfold certify_table_arrives
    simp only [go_sem, Nat.reduceBEq, Nat.reduceLeDiff, Nat.reduceAdd, Nat.reduceSub, Nat.reduceMul, Int.reduceLE, Int.reduceLT, Int.reduceToNat, Int.reduceNeg, reduceCtorEq, C_losses_Worst]
    all_goals exact cl
end Go.Sx
end
