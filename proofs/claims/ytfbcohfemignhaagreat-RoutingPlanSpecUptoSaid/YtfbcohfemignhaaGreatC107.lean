/- Part of the proof that the law RoutingPlanSpec returns true and leaves its arguments as they were, for all arguments of bulk at most 1048576 (the Upto form). -/
import Derived.Test.YtfbcohfemignhaaGreatC106
import Derived.Test.YtfbcohfemignhaaGreatProg
set_option linter.all false
set_option maxHeartbeats 4000000
section
namespace Go.Sx
open Go.Proofs
def ti3 : TI := ⟨1, 8, false, [(.v (.int .i64 0))], [], 0, 0, false, false, (some .int), (some .i64), false, [], none, none, 1⟩
def ti4 : TI := ⟨1, 1, false, [(.v (.bool false))], [], 0, 0, false, false, (some .bool), none, false, [], none, none, 3⟩
def ti9 : TI := ⟨1, 16, false, [(.v (.string (ByteArray.mk #[])))], [], 0, 0, false, false, (some .str), none, false, [], none, none, 2⟩
def ti23 : TI := ⟨2, 16, true, [(.v (.int .i64 0)), (.v (.int .i64 0))], [(0, (1, false)), (1, (1, false))], 0, 0, false, false, (some .tank), none, false, [1, 1], none, none, 0⟩
def ti24 : TI := ⟨1, 24, false, [(.v (.slice none 0 0))], [], 55, 0, true, false, none, none, false, [], none, none, 0⟩
def ti25 : TI := ⟨1, 24, false, [(.v (.slice none 0 0))], [], 61, 0, true, false, none, none, false, [], none, none, 0⟩
def ti26 : TI := ⟨1, 24, false, [(.v (.slice none 0 0))], [], 81, 0, true, false, none, none, false, [], none, none, 0⟩
def ti27 : TI := ⟨1, 24, false, [(.v (.slice none 0 0))], [], 122, 0, true, false, none, none, false, [], none, none, 0⟩
def ti28 : TI := ⟨1, 24, false, [(.v (.slice none 0 0))], [], 125, 0, true, false, none, none, false, [], none, none, 0⟩
def ti29 : TI := ⟨1, 24, false, [(.v (.slice none 0 0))], [], 178, 0, true, false, none, none, false, [], none, none, 0⟩
def ti31 : TI := ⟨10, 184, true, [(.v (.string (ByteArray.mk #[]))), (.v (.int .i64 0)), (.v (.int .i64 0)), (.v (.int .i64 0)), (.v (.slice none 0 0)), (.v (.slice none 0 0)), (.v (.slice none 0 0)), (.v (.slice none 0 0)), (.v (.slice none 0 0)), (.v (.slice none 0 0))], [(0, (1, false)), (1, (1, false)), (2, (2, true)), (4, (1, false)), (5, (1, false)), (6, (1, false)), (7, (1, false)), (8, (1, false)), (9, (1, false))], 0, 0, false, false, (some .district), none, false, [], none, none, 0⟩
def ti32 : TI := ⟨1, 24, false, [(.v (.slice none 0 0))], [], 46, 0, true, false, none, none, false, [], none, none, 0⟩
def ti46 : TI := ⟨4, 32, true, [(.v (.int .i64 0)), (.v (.int .i64 0)), (.v (.int .i64 0)), (.v (.bool false))], [(0, (1, false)), (1, (1, false)), (2, (1, false)), (3, (1, false))], 0, 0, false, false, (some .order), none, false, [1, 1, 1, 3], none, none, 0⟩
def ti50 : TI := ⟨2, 16, true, [(.v (.int .i64 0)), (.v (.int .i64 0))], [(0, (1, false)), (1, (1, false))], 0, 0, false, false, (some .range), none, false, [1, 1], none, none, 0⟩
def ti52 : TI := ⟨2, 16, true, [(.v (.int .i64 0)), (.v (.int .i64 0))], [(0, (1, false)), (1, (1, false))], 0, 0, false, false, (some .ratio), none, false, [1, 1], none, none, 0⟩
def ti53 : TI := ⟨4, 32, true, [(.v (.int .i64 0)), (.v (.int .i64 0)), (.v (.int .i64 0)), (.v (.int .i64 0))], [], 52, 2, false, true, (some .ratio2), none, false, [], none, none, 0⟩
def ti55 : TI := ⟨12, 104, true, [(.v (.string (ByteArray.mk #[]))), (.v (.int .i64 0)), (.v (.int .i64 0)), (.v (.int .i64 0)), (.v (.int .i64 0)), (.v (.int .i64 0)), (.v (.int .i64 0)), (.v (.int .i64 0)), (.v (.int .i64 0)), (.v (.int .i64 0)), (.v (.int .i64 0)), (.v (.int .i64 0))], [(0, (1, false)), (1, (1, false)), (2, (1, false)), (3, (1, false)), (4, (1, false)), (5, (1, false)), (6, (2, true)), (8, (4, true))], 0, 0, false, false, (some .reach), none, false, [], none, none, 0⟩
def ti59 : TI := ⟨1, 8, false, [(.v (.map none))], [], 3, 0, false, false, none, none, false, [], (some .int2), (some .int), 0⟩
def ti61 : TI := ⟨4, 40, true, [(.v (.string (ByteArray.mk #[]))), (.v (.int .i64 0)), (.v (.int .i64 0)), (.v (.int .i64 0))], [(0, (1, false)), (1, (1, false)), (2, (1, false)), (3, (1, false))], 0, 0, false, false, (some .farm), none, false, [2, 1, 1, 1], none, none, 0⟩
def ti62 : TI := ⟨2, 16, true, [(.v (.int .i64 0)), (.v (.int .i64 0))], [], 3, 2, false, true, (some .int2), none, false, [1, 1], none, none, 0⟩
def ti72 : TI := ⟨1, 24, false, [(.v (.slice none 0 0))], [], 75, 0, true, false, none, none, false, [], none, none, 0⟩
def ti75 : TI := ⟨1, 24, false, [(.v (.slice none 0 0))], [], 3, 0, true, false, (some .ints), none, false, [], none, none, 0⟩
def ti81 : TI := ⟨2, 24, true, [(.v (.string (ByteArray.mk #[]))), (.v (.int .i64 0))], [(0, (1, false)), (1, (1, false))], 0, 0, false, false, (some .crop), none, false, [2, 1], none, none, 0⟩
def ti92 : TI := ⟨1, 8, false, [(.v (.int .u64 0))], [], 0, 0, false, false, none, (some .u64), false, [], none, none, 1⟩
def ti94 : TI := ⟨1, 8, false, [(.v .nilFunc)], [], 0, 0, false, false, none, none, false, [], none, none, 0⟩
def ti115 : TI := ⟨1, 24, false, [(.v (.slice none 0 0))], [], 94, 0, true, false, none, none, false, [], none, none, 0⟩
def ti122 : TI := ⟨10, 88, true, [(.v (.string (ByteArray.mk #[]))), (.v (.int .i64 0)), (.v (.int .i64 0)), (.v (.int .i64 0)), (.v (.int .i64 0)), (.v (.int .i64 0)), (.v (.int .i64 0)), (.v (.int .i64 0)), (.v (.int .i64 0)), (.v (.int .i64 0))], [(0, (1, false)), (1, (1, false)), (2, (1, false)), (3, (1, false)), (4, (1, false)), (5, (1, false)), (6, (1, false)), (7, (1, false)), (8, (1, false)), (9, (1, false))], 0, 0, false, false, (some .right), none, false, [2, 1, 1, 1, 1, 1, 1, 1, 1, 1], none, none, 0⟩
def ti125 : TI := ⟨4, 40, true, [(.v (.string (ByteArray.mk #[]))), (.v (.int .i64 0)), (.v (.int .i64 0)), (.v (.int .i64 0))], [(0, (1, false)), (1, (1, false)), (2, (1, false)), (3, (1, false))], 0, 0, false, false, (some .duty), none, false, [2, 1, 1, 1], none, none, 0⟩
def ts : Tis := fun t => (bif Nat.ble t 50 then (bif Nat.ble t 26 then (bif Nat.ble t 9 then (bif Nat.ble t 3 then (bif Nat.beq t 3 then some ti3 else none) else (bif Nat.ble t 4 then (bif Nat.beq t 4 then some ti4 else none) else (bif Nat.beq t 9 then some ti9 else none))) else (bif Nat.ble t 24 then (bif Nat.ble t 23 then (bif Nat.beq t 23 then some ti23 else none) else (bif Nat.beq t 24 then some ti24 else none)) else (bif Nat.ble t 25 then (bif Nat.beq t 25 then some ti25 else none) else (bif Nat.beq t 26 then some ti26 else none)))) else (bif Nat.ble t 31 then (bif Nat.ble t 28 then (bif Nat.ble t 27 then (bif Nat.beq t 27 then some ti27 else none) else (bif Nat.beq t 28 then some ti28 else none)) else (bif Nat.ble t 29 then (bif Nat.beq t 29 then some ti29 else none) else (bif Nat.beq t 31 then some ti31 else none))) else (bif Nat.ble t 35 then (bif Nat.ble t 32 then (bif Nat.beq t 32 then some ti32 else none) else (bif Nat.beq t 35 then some ti3 else none)) else (bif Nat.ble t 46 then (bif Nat.beq t 46 then some ti46 else none) else (bif Nat.beq t 50 then some ti50 else none))))) else (bif Nat.ble t 75 then (bif Nat.ble t 59 then (bif Nat.ble t 53 then (bif Nat.ble t 52 then (bif Nat.beq t 52 then some ti52 else none) else (bif Nat.beq t 53 then some ti53 else none)) else (bif Nat.ble t 55 then (bif Nat.beq t 55 then some ti55 else none) else (bif Nat.beq t 59 then some ti59 else none))) else (bif Nat.ble t 62 then (bif Nat.ble t 61 then (bif Nat.beq t 61 then some ti61 else none) else (bif Nat.beq t 62 then some ti62 else none)) else (bif Nat.ble t 72 then (bif Nat.beq t 72 then some ti72 else none) else (bif Nat.beq t 75 then some ti75 else none)))) else (bif Nat.ble t 103 then (bif Nat.ble t 92 then (bif Nat.ble t 81 then (bif Nat.beq t 81 then some ti81 else none) else (bif Nat.beq t 92 then some ti92 else none)) else (bif Nat.ble t 94 then (bif Nat.beq t 94 then some ti94 else none) else (bif Nat.beq t 103 then some ti94 else none))) else (bif Nat.ble t 117 then (bif Nat.ble t 115 then (bif Nat.beq t 115 then some ti115 else none) else (bif Nat.beq t 117 then some ti3 else none)) else (bif Nat.ble t 122 then (bif Nat.beq t 122 then some ti122 else none) else (bif Nat.beq t 125 then some ti125 else none))))))
theorem ti3_ok : tiOf Tryz.prog 3 = some ti3 := by kernel_rfl
theorem ti4_ok : tiOf Tryz.prog 4 = some ti4 := by kernel_rfl
theorem ti9_ok : tiOf Tryz.prog 9 = some ti9 := by kernel_rfl
theorem ti23_ok : tiOf Tryz.prog 23 = some ti23 := by kernel_rfl
theorem ti24_ok : tiOf Tryz.prog 24 = some ti24 := by kernel_rfl
theorem ti25_ok : tiOf Tryz.prog 25 = some ti25 := by kernel_rfl
theorem ti26_ok : tiOf Tryz.prog 26 = some ti26 := by kernel_rfl
theorem ti27_ok : tiOf Tryz.prog 27 = some ti27 := by kernel_rfl
theorem ti28_ok : tiOf Tryz.prog 28 = some ti28 := by kernel_rfl
theorem ti29_ok : tiOf Tryz.prog 29 = some ti29 := by kernel_rfl
theorem ti31_ok : tiOf Tryz.prog 31 = some ti31 := by kernel_rfl
theorem ti32_ok : tiOf Tryz.prog 32 = some ti32 := by kernel_rfl
theorem ti35_ok : tiOf Tryz.prog 35 = some ti3 := by kernel_rfl
theorem ti46_ok : tiOf Tryz.prog 46 = some ti46 := by kernel_rfl
theorem ti50_ok : tiOf Tryz.prog 50 = some ti50 := by kernel_rfl
theorem ti52_ok : tiOf Tryz.prog 52 = some ti52 := by kernel_rfl
theorem ti53_ok : tiOf Tryz.prog 53 = some ti53 := by kernel_rfl
theorem ti55_ok : tiOf Tryz.prog 55 = some ti55 := by kernel_rfl
theorem ti59_ok : tiOf Tryz.prog 59 = some ti59 := by kernel_rfl
theorem ti61_ok : tiOf Tryz.prog 61 = some ti61 := by kernel_rfl
theorem ti62_ok : tiOf Tryz.prog 62 = some ti62 := by kernel_rfl
theorem ti72_ok : tiOf Tryz.prog 72 = some ti72 := by kernel_rfl
theorem ti75_ok : tiOf Tryz.prog 75 = some ti75 := by kernel_rfl
theorem ti81_ok : tiOf Tryz.prog 81 = some ti81 := by kernel_rfl
theorem ti92_ok : tiOf Tryz.prog 92 = some ti92 := by kernel_rfl
theorem ti94_ok : tiOf Tryz.prog 94 = some ti94 := by kernel_rfl
theorem ti103_ok : tiOf Tryz.prog 103 = some ti94 := by kernel_rfl
theorem ti115_ok : tiOf Tryz.prog 115 = some ti115 := by kernel_rfl
theorem ti117_ok : tiOf Tryz.prog 117 = some ti3 := by kernel_rfl
theorem ti122_ok : tiOf Tryz.prog 122 = some ti122 := by kernel_rfl
theorem ti125_ok : tiOf Tryz.prog 125 = some ti125 := by kernel_rfl
theorem ts_ok : Tis.ok ts Tryz.prog := (Tis.ok_node (Tis.ok_node (Tis.ok_node (Tis.ok_node (Tis.ok_leaf ti3_ok) (Tis.ok_node (Tis.ok_leaf ti4_ok) (Tis.ok_leaf ti9_ok))) (Tis.ok_node (Tis.ok_node (Tis.ok_leaf ti23_ok) (Tis.ok_leaf ti24_ok)) (Tis.ok_node (Tis.ok_leaf ti25_ok) (Tis.ok_leaf ti26_ok)))) (Tis.ok_node (Tis.ok_node (Tis.ok_node (Tis.ok_leaf ti27_ok) (Tis.ok_leaf ti28_ok)) (Tis.ok_node (Tis.ok_leaf ti29_ok) (Tis.ok_leaf ti31_ok))) (Tis.ok_node (Tis.ok_node (Tis.ok_leaf ti32_ok) (Tis.ok_leaf ti35_ok)) (Tis.ok_node (Tis.ok_leaf ti46_ok) (Tis.ok_leaf ti50_ok))))) (Tis.ok_node (Tis.ok_node (Tis.ok_node (Tis.ok_node (Tis.ok_leaf ti52_ok) (Tis.ok_leaf ti53_ok)) (Tis.ok_node (Tis.ok_leaf ti55_ok) (Tis.ok_leaf ti59_ok))) (Tis.ok_node (Tis.ok_node (Tis.ok_leaf ti61_ok) (Tis.ok_leaf ti62_ok)) (Tis.ok_node (Tis.ok_leaf ti72_ok) (Tis.ok_leaf ti75_ok)))) (Tis.ok_node (Tis.ok_node (Tis.ok_node (Tis.ok_leaf ti81_ok) (Tis.ok_leaf ti92_ok)) (Tis.ok_node (Tis.ok_leaf ti94_ok) (Tis.ok_leaf ti103_ok))) (Tis.ok_node (Tis.ok_node (Tis.ok_leaf ti115_ok) (Tis.ok_leaf ti117_ok)) (Tis.ok_node (Tis.ok_leaf ti122_ok) (Tis.ok_leaf ti125_ok))))))
@[go_sem] theorem ts_3 : ts 3 = some ti3 := (rfl)
@[go_sem] theorem ts_4 : ts 4 = some ti4 := (rfl)
@[go_sem] theorem ts_9 : ts 9 = some ti9 := (rfl)
@[go_sem] theorem ts_23 : ts 23 = some ti23 := (rfl)
@[go_sem] theorem ts_24 : ts 24 = some ti24 := (rfl)
@[go_sem] theorem ts_25 : ts 25 = some ti25 := (rfl)
@[go_sem] theorem ts_26 : ts 26 = some ti26 := (rfl)
@[go_sem] theorem ts_27 : ts 27 = some ti27 := (rfl)
@[go_sem] theorem ts_28 : ts 28 = some ti28 := (rfl)
@[go_sem] theorem ts_29 : ts 29 = some ti29 := (rfl)
@[go_sem] theorem ts_31 : ts 31 = some ti31 := (rfl)
@[go_sem] theorem ts_32 : ts 32 = some ti32 := (rfl)
@[go_sem] theorem ts_35 : ts 35 = some ti3 := (rfl)
@[go_sem] theorem ts_46 : ts 46 = some ti46 := (rfl)
@[go_sem] theorem ts_50 : ts 50 = some ti50 := (rfl)
@[go_sem] theorem ts_52 : ts 52 = some ti52 := (rfl)
@[go_sem] theorem ts_53 : ts 53 = some ti53 := (rfl)
@[go_sem] theorem ts_55 : ts 55 = some ti55 := (rfl)
@[go_sem] theorem ts_59 : ts 59 = some ti59 := (rfl)
@[go_sem] theorem ts_61 : ts 61 = some ti61 := (rfl)
@[go_sem] theorem ts_62 : ts 62 = some ti62 := (rfl)
@[go_sem] theorem ts_72 : ts 72 = some ti72 := (rfl)
@[go_sem] theorem ts_75 : ts 75 = some ti75 := (rfl)
@[go_sem] theorem ts_81 : ts 81 = some ti81 := (rfl)
@[go_sem] theorem ts_92 : ts 92 = some ti92 := (rfl)
@[go_sem] theorem ts_94 : ts 94 = some ti94 := (rfl)
@[go_sem] theorem ts_103 : ts 103 = some ti94 := (rfl)
@[go_sem] theorem ts_115 : ts 115 = some ti115 := (rfl)
@[go_sem] theorem ts_117 : ts 117 = some ti3 := (rfl)
@[go_sem] theorem ts_122 : ts 122 = some ti122 := (rfl)
@[go_sem] theorem ts_125 : ts 125 = some ti125 := (rfl)
attribute [go_sem] ti3 ti4 ti9 ti23 ti24 ti25 ti26 ti27 ti28 ti29 ti31 ti32 ti46 ti50 ti52 ti53 ti55 ti59 ti61 ti62 ti72 ti75 ti81 ti92 ti94 ti115 ti122 ti125
end Go.Sx
end
section
namespace Go.Sx
open Go.Proofs
theorem mixed : Tryz.prog.follows .mixedOrders = true := by kernel_rfl
end Go.Sx
end
section
namespace Go.Sx
open Go.Proofs
set_option maxRecDepth 100000
def C_expand_caught : List SV → Option Con
  | [.v (.iface t (.int .i64 e))] => bif Nat.beq t 117 then some (.det True (.i e)) else none
  | _ => none
theorem ok_expand_caught : FnOk Tryz.prog 46 C_expand_caught := by
  have hG : ConsOk Tryz.prog (mkG [] []) := mkG_ok (by simp) (by simp)
  refine fn_okN [.o] mixed ts_ok hG (fn := Tryz.f46) (c := bodyOf Tryz.f46) (by kernel_rfl) (by kernel_rfl) (by kernel_rfl) (by kernel_rfl) fun l con h hp => ?_
  unfold C_expand_caught at h
  split at h
  · rename_i t e
    cases ht : Nat.beq t 117 with
    | false => rw [ht] at h; cases h
    | true =>
      rw [ht] at h
      cases h
      have ht' := Nat.eq_of_beq_eq_true ht
      subst ht'
      refine ⟨Nat.le_of_ble_eq_true rfl, L0, by unfold bodyOf Tryz.f46; simp only [loopsOk, and_self], ?_⟩
      unfold bodyOf Tryz.f46
      simp only [go_sem, true_imp_iff, false_imp_iff, Nat.reduceBEq, Nat.reduceLeDiff, Nat.reduceAdd, Nat.reduceSub, Nat.reduceMul, true_and, and_true, implies_true, reduceCtorEq]
  · cases h
def RC36 : Value → Option SV
  | .iface t (.int .i64 e) => bif Nat.beq t 117 then some (.i e) else none
  | _ => none
theorem rec36_ok : RecOk Tryz.prog 45 RC36 := by
  obtain ⟨fn, hfn, hbody, hn, hres⟩ : ∃ fn, Tryz.prog.funcs[45]? = some fn ∧ fn.body = some (bodyOf Tryz.f45) ∧ fn.ntmps = 7 ∧ fn.results = #[] := ⟨Tryz.f45, by kernel_rfl, by kernel_rfl, by kernel_rfl, by kernel_rfl⟩
  have hG : ConsOk Tryz.prog (mkG [(46, C_expand_caught)] []) := mkG_ok (by
    intro x hx
    simp only [List.mem_cons, List.not_mem_nil, or_false] at hx
    rcases hx with rfl
    exact ok_expand_caught) (by simp)
  refine ⟨fun args w => by kernel_rfl, fun p w => ?_, ?_⟩
  · refine callsDIn_of_wpSIn hfn hbody trivial fun c₀ cs hu => ?_
    unfold bodyOf Tryz.f45
    refine wpSIn_seq (wpSIn_region ?_)
    simp [wpOpsSIn, go_sem, recoverD, hu, hn, Exit.thenS, Oper.about, Region.wanted]
    refine wpSIn_seq (wpSIn_region ?_)
    simp [wpOpsSIn, go_sem, recoverD, hu, Exit.thenS, Oper.about, Region.wanted]
    refine wpSIn_cond (t := false) (by simp [Act.eval]) ?_
    simp only [Bool.false_eq_true, if_false]
    refine wpSIn_of_wpIn rfl (wpIn_skip ?_)
    cases c₀
    simp_all [bodyPostS, results]
  · intro x s hx F own w h id hd b y hfw hp hob ho hpb
    unfold RC36 at hx
    split at hx
    · rename_i t e
      cases ht : Nat.beq t 117 with
      | false => rw [ht] at hx; cases hx
      | true =>
        rw [ht] at hx
        cases hx
        have ht' := Nat.eq_of_beq_eq_true ht
        subst ht'
        refine callsDIn_of_wpSIn hfn hbody trivial fun c₀ cs hu => ?_
        unfold bodyOf Tryz.f45
        refine wpSIn_seq (wpSIn_region ?_)
        simp [wpOpsSIn, go_sem, recoverD, hu, hn, Exit.thenS, Oper.about, Region.wanted]
        refine wpSIn_seq (wpSIn_region ?_)
        simp [wpOpsSIn, go_sem, recoverD, hu, Exit.thenS, Oper.about, Region.wanted]
        refine wpSIn_cond (t := true) (by simp [Act.eval]) ?_
        simp only [if_true]
        refine wpSIn_of_wpIn rfl ?_
        have hr : StRel F { w := w, own := own } 7 own ⟨[(0, .ptr id 0), (1, .v (.iface 117 (.int .i64 e)))], h⟩ { tmps := #[.pointer (some ⟨b, 0, none⟩), .iface 117 (.int .i64 e), .iface 117 (.int .i64 e), .iface 117 (.int .i64 e), .bool true, undef, undef], defers := [] } w := by
          refine ⟨rfl, Dfr.nil, hp, Fr.refl { w := w, own := own }, fun t => ?_⟩
          rw [lk_put]
          by_cases h0 : 0 = t
          · subst h0; rw [if_pos rfl]; exact .ptr ho hpb
          · rw [if_neg h0, lk_put]
            by_cases h1 : 1 = t
            · subst h1; rw [if_pos rfl]; exact .v _
            · rw [if_neg h1]; exact .any _
        refine wpIn_mono (region_okF (ts := ts) (L := L0) (Q := fun st => st.h = obSet h id (.cells [.i e])) mixed ts_ok hG (by kernel_rfl) ?_ hr) ?_
        · simp only [go_sem, hob, anyFwd_set (h := h) (i := id) (o := .cells [.v (.int .i64 e)]) rfl hfw, C_expand_caught, Nat.reduceBEq, Nat.reduceLeDiff, Nat.reduceAdd, true_and, and_true, true_imp_iff]
        · rintro ex a' w' ⟨rfl, own1, st1, hst1, hh⟩
          have hd0 : a'.defers = [] := by
            obtain ⟨ms, Ds, q0, q1, q2, q3⟩ := hst1.defers
            cases Ds with
            | nil => rw [q0]; simp at q1; simp [q1]
            | cons D r =>
              obtain ⟨m1, m2, _⟩ := q3 D (by simp)
              have := hp.foreign D m2
              simp only at m1
              omega
          refine ⟨hd0, .panicking [{ v := .iface 117 (.int .i64 e), recovered := true }], ?_, _, by simp [results, hres]; rfl, ⟨_, rfl⟩, rfl, own1, hh ▸ hst1.hp, hst1.fr⟩
          cases c₀
          simp_all
    · cases hx
attribute [go_sem] C_expand_caught
end Go.Sx
end
section
namespace Go.Sx
open Go.Proofs
set_option maxRecDepth 100000
set_option linter.unusedSimpArgs false
abbrev SV.u (n : Nat) : SV := .v (.int .u64 (n : Int))
def mkGY (ps : List (Nat × (List SV → Option Con))) (os : List (Nat × (List SV → List Ob → Option HCon))) (Y : List SV → Res → Option YCon) : Cons := ⟨mkP ps, mkO os, Y⟩
@[go_sem] theorem mkGY_p {ps : List (Nat × (List SV → Option Con))} {os : List (Nat × (List SV → List Ob → Option HCon))} {Y : List SV → Res → Option YCon} : (mkGY ps os Y).p = mkP ps := (rfl)
@[go_sem] theorem mkGY_o {ps : List (Nat × (List SV → Option Con))} {os : List (Nat × (List SV → List Ob → Option HCon))} {Y : List SV → Res → Option YCon} : (mkGY ps os Y).o = mkO os := (rfl)
@[go_sem] theorem mkGY_y {ps : List (Nat × (List SV → Option Con))} {os : List (Nat × (List SV → List Ob → Option HCon))} {Y : List SV → Res → Option YCon} : (mkGY ps os Y).y = Y := (rfl)
theorem mkGY_ok {P : Program} {ps : List (Nat × (List SV → Option Con))} {os : List (Nat × (List SV → List Ob → Option HCon))} {Y : List SV → Res → Option YCon} (h1 : ∀ x ∈ ps, FnOk P x.1 x.2) (h2 : ∀ x ∈ os, FnOkO P x.1 x.2) (h3 : YOk P Y) : ConsOk P (mkGY ps os Y) := ⟨mkP_ok ps h1, mkO_ok os h2, h3⟩
def C90 : List SV → List Ob → Option HCon := fun l h => noH h ((pU fun n => pU fun d => pE { α := Unit, pre := True, post := fun _ => True, res := fun _ => .ret (.fn 119 [] [.ptr 0 0, .ptr 1 0]) [.cells [.v (.int .u64 n)], .cells [.v (.int .u64 d)]] }) l)
theorem f90_ok : FnOkO Tryz.prog 113 C90 := by
  have hG : ConsOk Tryz.prog (mkG [] []) := mkG_ok (by simp) (by simp)
  refine fn_ok_oE mixed ts_ok hG (fn := Tryz.f113) (c := bodyOf Tryz.f113) (by kernel_rfl) (by kernel_rfl) (by kernel_rfl) (by kernel_rfl) fun l o con h hp => ?_
  unfold C90 at h
  obtain ⟨rfl, h⟩ := noH_inv h
  obtain ⟨n, l0, rfl, h0⟩ := pU_inv h
  obtain ⟨d, l1, rfl, h1⟩ := pU_inv h0
  obtain ⟨rfl, rfl⟩ := pE_inv h1
  refine ⟨Nat.le_of_ble_eq_true rfl, L0, by unfold bodyOf Tryz.f113; simp only [loopsOk, and_self], ?_⟩
  unfold bodyOf Tryz.f113
  simp only [go_sem, true_imp_iff, decide_eq_true_eq, Nat.reduceBEq, Nat.reduceLeDiff, Nat.reduceAdd, Nat.reduceSub, Nat.reduceMul, true_and, and_true, implies_true]
  refine ⟨(), _, _, [0, 1], rfl, ?_⟩
  simp only [go_sem, Nat.reduceBEq, Nat.reduceLeDiff, Nat.reduceAdd, true_and, and_true]
  exact ⟨rfl, rfl⟩
def rems : Nat → Nat → Nat → List Nat
  | 0, n, d => if n = 0 then [] else [n, d]
  | f + 1, n, d => if n = 0 then [] else n :: (if n % max d 1 = 0 then [d] else rems f d (n % max d 1))
def remI (f n d : Nat) : List (List SV) := (rems f n d).map fun x => [SV.u x]
theorem rem_zero (f d : Nat) : remI f 0 d = [] := by cases f <;> rfl
theorem rem_step {f n d : Nat} (hn : n ≠ 0) (hf : d ≤ f) : ∃ T, remI f n d = [SV.u n] :: T ∧ (n % max d 1 = 0 → T = [[SV.u d]]) ∧ (n % max d 1 ≠ 0 → ∃ f', T = remI f' d (n % max d 1) ∧ n % max d 1 ≤ f' ∧ n % max d 1 < d) := by
  cases f with
  | zero =>
    have hd : d = 0 := by omega
    subst hd
    refine ⟨[[SV.u 0]], by simp [remI, rems, hn], fun _ => rfl, fun h => ?_⟩
    exfalso; apply h; simp [Nat.mod_one]
  | succ f =>
    by_cases h0 : n % max d 1 = 0
    · exact ⟨[[SV.u d]], by simp [remI, rems, hn, h0], fun _ => rfl, fun h => absurd h0 h⟩
    · refine ⟨remI f d (n % max d 1), by simp [remI, rems, hn, h0], fun h => absurd h h0, fun _ => ⟨f, rfl, ?_⟩⟩
      have hlt : n % max d 1 < max d 1 := Nat.mod_lt _ (by omega)
      have hd : 1 ≤ d := by
        rcases Nat.eq_zero_or_pos d with h | h
        · subst h; exfalso; apply h0; simp [Nat.mod_one]
        · exact h
      omega
theorem tmod_max (n d : Nat) : ((n : Int).tmod (if (d : Int) < 1 then 1 else (d : Int))) = ((n % max d 1 : Nat) : Int) := by
  have e : (if (d : Int) < 1 then (1 : Int) else (d : Int)) = ((max d 1 : Nat) : Int) := by split <;> omega
  rw [e, Int.tmod_eq_emod_of_nonneg (by omega)]; rfl
open Classical in
theorem f95_ok (n0 d0 : Nat) : ItOk Tryz.prog 119 (fun y => [y, .ptr 1 0, .ptr 2 0]) [.cells [SV.u n0], .cells [SV.u d0]] (remI d0 n0 d0) := by
  refine it_ok (fun r hr hy => ?_) (fun args w => by kernel_rfl)
  have hG : ConsOk Tryz.prog (mkGY [] [] (itY (remI d0 n0 d0) r)) := mkGY_ok (by simp) (by simp) hy
  refine ⟨fun l h => if l = [.os 0, .ptr 1 0, .ptr 2 0] ∧ h = [.ab (r 1), .cells [SV.u n0], .cells [SV.u d0]] then some { α := Nat, pre := True, post := fun j => j = 0 ∨ j = (remI d0 n0 d0).length + 1, res := fun j => .ret (.tup []) [.ab (r j), .dead, .dead] } else none,
    ?_, _, if_pos ⟨rfl, rfl⟩, trivial, fun j hj => ⟨_, j, _, rfl, hj⟩⟩
  refine fn_ok_oE mixed ts_ok hG (fn := Tryz.f119) (c := bodyOf Tryz.f119) (by kernel_rfl) (by kernel_rfl) (by kernel_rfl) (by kernel_rfl) fun l o con h hp => ?_
  split at h
  · rename_i hlo
    obtain ⟨rfl, rfl⟩ := hlo
    cases h
    refine ⟨Nat.le_of_ble_eq_true rfl, fun id st => bif Nat.beq id 0 then some { α := Nat × Bool, pre := lk 0 st.t = .os 0 ∧ lk 1 st.t = .ptr 1 0 ∧ lk 2 st.t = .ptr 2 0 ∧ st.h = [.ab (r 1), .cells [SV.u n0], .cells [SV.u d0]], post := fun j => j.1 = 0 ∨ j.1 = (remI d0 n0 d0).length + 1, ex := fun j => bif j.2 then .ret else .normal, out := fun j => ⟨[], [.ab (r j.1), .dead, .dead]⟩ : LCon } else none, ?_, ?_⟩
    · unfold bodyOf Tryz.f119
      simp only [loopsOk, true_and, and_true]
      refine loop_okE mixed ts_ok hG (by kernel_rfl) fun st lc hC hp => ?_
      simp only [go_sem, Nat.reduceBEq, Option.some.injEq] at hC
      subst hC
      obtain ⟨t, h⟩ := st
      dsimp only at hp
      obtain ⟨h0, h1, h2, rfl⟩ := hp
      refine ⟨Nat × Nat × Nat × Nat, fun x => ⟨[(0, .os 0), (1, .ptr 1 0), (2, .ptr 2 0)], [.ab (r (x.1 + 1)), .cells [SV.u x.2.2.1], .cells [SV.u x.2.2.2]]⟩, fun x => x.2.2.2 ≤ x.2.1 ∧ (remI d0 n0 d0).drop x.1 = remI x.2.1 x.2.2.1 x.2.2.2 ∧ x.1 ≤ (remI d0 n0 d0).length, fun x => x.2.2.2, (0, d0, n0, d0), [0, 1, 2], ⟨Nat.le_refl _, rfl, Nat.zero_le _⟩, Nat.le_refl _, ?_, ?_⟩
      · simp only [go_sem, h0, h1, h2, Nat.reduceBEq, Nat.reduceLeDiff, Nat.reduceAdd, true_and, and_true]
        decide
      · rintro ⟨k, f, n, d⟩ ⟨hf, hdrop, hk⟩
        simp only at hf hdrop hk
        refine ⟨L0, _, by simp only [loopsOk, and_self], fun _ _ q => q, ?_⟩
        simp only [go_sem, itY_at hr, true_imp_iff, decide_eq_true_eq, tmod_max, Bool.false_eq_true, false_imp_iff, Nat.reduceBEq, Nat.reduceLeDiff, Nat.reduceAdd, Nat.reduceSub, Nat.reduceMul, true_and, and_true, implies_true]
        have hget : ∀ (l : List (List SV)) (j : Nat), l = (remI d0 n0 d0).drop k → (remI d0 n0 d0)[k + j]? = l[j]? := fun l j e => by rw [e, List.getElem?_drop]
        have hlen : (remI f n d).length = (remI d0 n0 d0).length - k := by rw [← hdrop, List.length_drop]
        refine ⟨fun hn => ?_, fun hn => ?_⟩
        · have hn' : n ≠ 0 := by simpa using hn
          obtain ⟨T, e1, e2, e3⟩ := rem_step hn' hf
          have hT : (remI d0 n0 d0).drop (k + 1) = T := by rw [← List.drop_drop, hdrop, e1]; rfl
          have h0' := hget _ 0 hdrop.symm
          rw [e1] at h0'
          have hk1 : k + 1 ≤ (remI d0 n0 d0).length := by
            have := (List.getElem?_eq_some_iff.1 h0').1; omega
          refine ⟨h0', ⟨fun _ => ⟨by split <;> omega, rfl, fun h2 => ?_, fun h2 => ?_⟩, fun h2 => ?_⟩, ?_⟩
          · have h3 : n % max d 1 = 0 := by
              have := eq_of_beq h2
              generalize n % max d 1 = q at this ⊢
              omega
            have hT2 := e2 h3
            have hl2 : (remI d0 n0 d0).length = k + 2 := by
              have := congrArg List.length hT
              rw [hT2, List.length_drop] at this
              simp at this; omega
            refine ⟨?_, ⟨(k + 1 + 2, true), [0, 1, 2], .inr (by rw [hl2]), rfl, ⟨rfl, rfl, rfl⟩, by simp [subH, subO, obAt, isDead, renO, obIds]⟩, ⟨(0, true), [0, 1, 2], .inl rfl, rfl, ⟨rfl, rfl, rfl⟩, by simp [subH, subO, obAt, isDead, renO, obIds]⟩⟩
            have : (remI d0 n0 d0)[k + 1]? = T[0]? := by rw [← hT, List.getElem?_drop]
            rw [this, hT2]; rfl
          · have h3 : n % max d 1 ≠ 0 := fun e => by rw [e] at h2; simp at h2
            obtain ⟨f', m1, m2, m3⟩ := e3 h3
            exact ⟨(k + 1, f', d, n % max d 1), [0, 1, 2], ⟨m2, by rw [hT, m1], hk1⟩, m3, ⟨rfl, rfl, rfl⟩, by simp [subH, subO, obAt, isDead, renO, obIds, nth, idsLt, ren]⟩
          · exact absurd hn (by rw [h2]; simp)
          · exact ⟨(0, false), [0, 1, 2], .inl rfl, rfl, ⟨rfl, rfl, rfl⟩, by simp [subH, subO, obAt, isDead, renO, obIds]⟩
        · have hn' : n = 0 := by simpa using hn
          subst hn'
          rw [rem_zero] at hlen
          simp at hlen
          exact ⟨by simpa using hn, (k + 1, false), [0, 1, 2], .inr (by show k + 1 = _; omega), rfl, ⟨rfl, rfl, rfl⟩, by simp [subH, subO, obAt, isDead, renO, obIds]⟩
    · unfold bodyOf Tryz.f119
      simp only [go_sem, true_imp_iff, decide_eq_true_eq, Nat.reduceBEq, Nat.reduceLeDiff, Nat.reduceAdd, Nat.reduceSub, Nat.reduceMul, true_and, and_true, implies_true]
      rintro ⟨j, b⟩ hj
      cases b
      · simp only [go_sem]
        exact ⟨j, _, _, [0, 1, 2], hj, rfl, Nat.le_refl 3, by simp only [go_sem, Nat.reduceBEq, Nat.reduceLeDiff, Nat.reduceAdd, true_and, and_true]; decide⟩
      · simp only [go_sem]
        exact ⟨j, _, _, [0, 1, 2], hj, rfl, Nat.le_refl 3, by simp only [go_sem, Nat.reduceBEq, Nat.reduceLeDiff, Nat.reduceAdd, true_and, and_true]; decide⟩
  · cases h
end Go.Sx
end
section
namespace Go.Sx
open Go.Proofs
set_option maxRecDepth 100000
set_option linter.unusedSimpArgs false
def divI (n d : Nat) : Nat := if d = 0 then n else (rems d n d).getLastD d
def C83 : List SV → Option Con := pU fun n => pU fun d => pE (.det (0 ≤ n ∧ 0 ≤ d) (SV.u (divI n.toNat d.toNat)))
theorem f83_ok : FnOk Tryz.prog 106 C83 := by
  have hG : ConsOk Tryz.prog (mkG [] [(113, C90)]) := mkG_ok (by simp) (by
    intro x hx
    simp only [List.mem_cons, List.not_mem_nil, or_false] at hx
    rcases hx with rfl
    exact f90_ok)
  refine fn_okE false mixed ts_ok hG (fn := Tryz.f106) (c := bodyOf Tryz.f106) (by kernel_rfl) (by kernel_rfl) (by kernel_rfl) (by kernel_rfl) fun l con h hp => ?_
  unfold C83 at h
  obtain ⟨n', l0, rfl, h0⟩ := pU_inv h
  obtain ⟨d', l1, rfl, h1⟩ := pU_inv h0
  obtain ⟨rfl, rfl⟩ := pE_inv h1
  clear h h0 h1
  obtain ⟨hn, hd⟩ := hp
  obtain ⟨n, rfl⟩ := Int.eq_ofNat_of_zero_le hn
  obtain ⟨d, rfl⟩ := Int.eq_ofNat_of_zero_le hd
  refine ⟨Nat.le_of_ble_eq_true rfl, fun id st => bif Nat.beq id 0 then some { α := Unit, pre := st.h = [.cells [SV.u d], .cells [SV.u n], .cells [SV.u d]] ∧ lk 12 st.t = .fn 119 [] [.ptr 1 0, .ptr 2 0] ∧ lk 4 st.t = .ptr 0 0, post := fun _ => True, ex := fun _ => .normal, out := fun _ => ⟨[(4, .ptr 0 0)], [.cells [SV.u ((rems d n d).getLastD d)], .dead, .dead]⟩ : LCon } else none, ?_, ?_⟩
  · unfold bodyOf Tryz.f106
    simp only [loopsOk, true_and, and_true]
    refine range_ok mixed ts_ok hG (by decide) (by decide) (by kernel_rfl) (by kernel_rfl) fun st lc hC hp => ?_
    simp only [go_sem, Nat.reduceBEq, Option.some.injEq] at hC
    subst hC
    obtain ⟨t, h⟩ := st
    dsimp only at hp
    obtain ⟨rfl, h12, h4⟩ := hp
    refine ⟨119, [.ptr 1 0, .ptr 2 0], remI d n d, Nat, [(4, .ptr 0 0)], fun v => [.cells [SV.u v], .dead, .dead], fun k v => v = ((rems d n d).take k).getLastD d, fun _ _ => False, d, [0, 1, 2], h12, rfl, Nat.le_refl _, ?_, f95_ok n d, ?_, ?_, fun _ h => h.elim, fun _ _ h => h.elim⟩
    · show Sub [0, 1, 2] 3 ⟨t, [.cells [SV.u d], .dead, .dead]⟩ ⟨[(4, .ptr 0 0)], [.cells [SV.u d], .dead, .dead]⟩
      simp only [go_sem, h4, Nat.reduceBEq, Nat.reduceLeDiff, Nat.reduceAdd, true_and, and_true]
      decide
    · intro k y args hk hI
      unfold remI at hk
      rw [List.getElem?_map, Option.map_eq_some_iff] at hk
      obtain ⟨x, hx, rfl⟩ := hk
      refine ⟨rfl, L0, _, fun l => by simp only [loopsOk], fun l => by simp only [loopsOk], fun _ _ q => q, ?_⟩
      show exec ts _ L0 _ ⟨[(13, SV.u x), (4, SV.ptr 0 0)], [.cells [SV.u y], .dead, .dead]⟩ _
      simp only [go_sem, true_imp_iff, Nat.reduceBEq, Nat.reduceLeDiff, Nat.reduceAdd, true_and, and_true]
      refine ⟨x, [0, 1, 2], ?_, Nat.le_refl 3, ?_⟩
      · have hlt := (List.getElem?_eq_some_iff.1 hx).1
        have hx2 := (List.getElem?_eq_some_iff.1 hx).2
        show x = ((rems d n d).take (k + 1)).getLastD d
        rw [List.take_succ_eq_append_getElem hlt, hx2]
        simp [List.getLastD_concat]
      · simp only [go_sem, Nat.reduceBEq, Nat.reduceLeDiff, Nat.reduceAdd, true_and, and_true]
        decide
    · intro y hI
      refine ⟨(), [0, 1, 2], trivial, rfl, Nat.le_refl _, ?_⟩
      have hy : y = (rems d n d).getLastD d := by rw [hI, List.take_of_length_le (by simp [remI])]
      subst hy
      show Sub [0, 1, 2] 3 ⟨[(4, .ptr 0 0)], [.cells [SV.u _], .dead, .dead]⟩ ⟨[(4, .ptr 0 0)], [.cells [SV.u _], .dead, .dead]⟩
      simp only [go_sem, Nat.reduceBEq, Nat.reduceLeDiff, Nat.reduceAdd, true_and, and_true]
      decide
  · unfold bodyOf Tryz.f106
    simp only [go_sem, C90, true_imp_iff, decide_eq_true_eq, Bool.false_eq_true, false_imp_iff, Nat.reduceBEq, Nat.reduceLeDiff, Nat.reduceAdd, Nat.reduceSub, Nat.reduceMul, true_and, and_true, implies_true]
    refine ⟨fun h => ?_, fun h _ _ => ?_⟩
    · have h' : d = 0 := by simpa using h
      simp [divI, h']
    · have h' : d ≠ 0 := by simpa using h
      simp [divI, h']
attribute [go_sem] C83
end Go.Sx
end
section
namespace Go.Sx
open Go.RowKit
inductive NilS : St → St → Prop where
  | refl (st : St) : NilS st st
  | cell {st : St} {t : List (Nat × SV)} {h : List Ob} {i j : Nat} {l : List SV} (o : Ob) : NilS st ⟨t, h⟩ → obAt h i = .cells l → l[j]? = some (.v (.slice none 0 0)) → ((∃ k, o = .row k []) ∨ ∃ k, o = .grid k []) → NilS st ⟨t, obSet h i (.cells (l.set j (.os h.length))) ++ [o]⟩
  | slot {st : St} {t : List (Nat × SV)} {h : List Ob} {i : Nat} (o : Ob) : NilS st ⟨t, h⟩ → lk i t = .v (.slice none 0 0) → ((∃ k, o = .row k []) ∨ ∃ k, o = .grid k []) → NilS st ⟨(i, .os h.length) :: t, h ++ [o]⟩
section
variable {P : Program} {F : Nat → Prop} {w0 : Bs} {N : Nat}
theorem obAt_last (h : List Ob) (o : Ob) : obAt (h ++ [o]) h.length = o := by rw [obAt_app, if_neg (by omega)]; simp [obAt]
theorem nil_own {own : Own} {h : List Ob} {a : Act} {w : World} {t : List (Nat × SV)} (hr : StRel F w0 N own ⟨t, h⟩ a w) (o : Ob) (ho : (∃ k, o = .row k []) ∨ ∃ k, o = .grid k []) :
    ∃ own', StRel F w0 N own' ⟨t, h ++ [o]⟩ a w ∧ (∀ id hd, own id = some hd → own' id = some hd) ∧ own' h.length = some { v := .slice none 0 0 } := by
  let own' : Own := fun id => if id = h.length then some { v := .slice none 0 0 } else own id
  have hsub : ∀ id hd, own id = some hd → own' id = some hd := fun id hd e => by
    have : id ≠ h.length := by have := hr.hp.dom id hd e; simp only at this; omega
    simp only [own', if_neg this]; exact e
  have hinv : ∀ id hd b, own' id = some hd → b ∈ hd.bs → own id = some hd := fun id hd b e hb => by
    by_cases hi : id = h.length
    · simp only [own', if_pos hi, Option.some.injEq] at e; subst e; cases hb
    · simpa only [own', if_neg hi] using e
  have hc : Carries F own w F own' w := ⟨fun id hd e => ⟨hd, hsub id hd e, .refl _⟩, fun b _ hn => ⟨by
    rintro (hf | ⟨id, hd, e, hb⟩)
    · exact hn (.inl hf)
    · exact hn (.inr ⟨id, hd, hinv id hd b e hb, hb⟩), rfl⟩⟩
  refine ⟨own', ⟨hr.size, hr.defers, ⟨fun id hd e => ?_, hr.hp.foreign, fun id hd b e hb => hr.hp.apart id hd b (hinv id hd b e hb) hb, fun i j hi hj b e1 e2 b1 b2 => hr.hp.inj i j hi hj b (hinv i hi b e1 b1) (hinv j hj b e2 b2) b1 b2, fun id hd b e hb => hr.hp.lt id hd b (hinv id hd b e hb) hb, fun id hd => ?_⟩,
    ⟨fun id hd e => ?_, fun id hd b e hb => hr.fr.base id hd b (hinv id hd b e hb) hb, hr.fr.os, hr.fr.tape, hr.fr.output, hr.fr.size, hr.fr.block⟩, fun t => (hr.slots t).carry hc⟩, hsub, by simp [own']⟩
  · simp only [List.length_append, List.length_cons, List.length_nil]
    by_cases hi : id = h.length
    · omega
    · simp only [own', if_neg hi] at e; have := hr.hp.dom id hd e; simp only at this; omega
  · simp only at hd ⊢
    by_cases hi : id < h.length
    · rw [obAt_app, if_pos hi] at hd ⊢
      obtain ⟨hd', e1, e2⟩ := hr.hp.obs id hd
      exact ⟨hd', hsub id hd' e1, e2.carry hc (Nat.le_refl _) fun _ _ => rfl⟩
    · by_cases hi2 : id = h.length
      · subst hi2
        rw [obAt_last]
        refine ⟨_, by simp [own']; rfl, ?_⟩
        rcases ho with ⟨k, rfl⟩ | ⟨k, rfl⟩
        · exact .inl ⟨none, rfl, rfl, rfl⟩
        · exact .inl ⟨rfl, rfl, rfl, rfl⟩
      · rw [obAt_out (by simp; omega)] at hd; cases hd
  · obtain ⟨hd', e1, e2⟩ := hr.fr.ids id hd e
    exact ⟨hd', hsub id hd' e1, e2⟩
theorem NilS.rel {st st' : St} (hn : NilS st st') {own : Own} {a : Act} {w : World} (hr : StRel F w0 N own st a w) : ∃ own', StRel F w0 N own' st' a w := by
  induction hn with
  | refl => exact ⟨own, hr⟩
  | @slot t h i o _ hl ho ih =>
    obtain ⟨own1, h1⟩ := ih
    obtain ⟨own2, h2, h3, h4⟩ := nil_own h1 o ho
    refine ⟨own2, h2.size, h2.defers, h2.hp, h2.fr, fun u => ?_⟩
    rw [lk_put]
    split
    · rename_i e
      subst e
      have := h1.slots i
      rw [hl] at this
      rw [rel_v this]
      exact .os (hd := { v := .slice none 0 0 }) h4 rfl
    · exact h2.slots u
  | @cell t h i j l o _ hc hl ho ih =>
    obtain ⟨own1, h1⟩ := ih
    obtain ⟨own2, h2, h3, h4⟩ := nil_own h1 o ho
    have hlt : i < h.length := by
      rcases Nat.lt_or_ge i h.length with h' | h'
      · exact h'
      · rw [obAt_out h'] at hc; cases hc
    have hlen : (obSet h i (.cells (l.set j (.os h.length)))).length = h.length := by rw [obSet_length, if_pos hlt]
    refine ⟨own2, h2.size, h2.defers, ⟨fun id hd e => ?_, h2.hp.foreign, h2.hp.apart, h2.hp.inj, h2.hp.lt, fun id hd => ?_⟩, h2.fr, h2.slots⟩
    · have := h2.hp.dom id hd e; simp only [List.length_append] at this ⊢; rw [hlen]; exact this
    · simp only at hd ⊢
      have hob := h2.hp.obs id
      simp only at hob
      by_cases hi : id < h.length
      · rw [obAt_app, if_pos (by rw [hlen]; exact hi)] at hd ⊢
        rw [obAt_app, if_pos hi] at hob
        rw [obAt_set] at hd ⊢
        by_cases hii : i = id
        · subst hii
          rw [if_pos rfl] at hd ⊢
          rw [hc] at hob
          obtain ⟨hd', e1, b, cs, ty, m1, m2, m3, m4, m5⟩ := hob rfl
          refine ⟨hd', e1, b, cs, ty, m1, m2, m3, by simpa using m4, fun j' s hs => ?_⟩
          rw [List.getElem?_set] at hs
          by_cases hj : j = j'
          · subst hj
            rw [if_pos rfl] at hs
            split at hs
            · cases hs
              have := m5 j _ hl
              rw [rel_v this]
              exact .os (hd := { v := .slice none 0 0 }) h4 rfl
            · cases hs
          · rw [if_neg hj] at hs
            exact m5 j' s hs
        · rw [if_neg hii] at hd ⊢
          exact hob hd
      · rw [obAt_app, if_neg (by rw [hlen]; exact hi), hlen] at hd ⊢
        rw [obAt_app, if_neg hi] at hob
        exact hob hd
end
section
variable {P : Program} {F : Nat → Prop} {w0 : Bs} {ro : Option Nat} {nd : Nat} {ts : Tis} {G : Cons} {L : Loops} {N : Nat}
theorem loop_okN {ts : Tis} {G : Cons} {ro : Option Nat} {N : Nat} (hm : P.follows .mixedOrders = true) (hts : ts.ok P) (hG : ConsOk P G) {id : Nat} {c : Code} (hc : okCode N c = true) {C : St → Option LCon}
    (h : ∀ st lc, C st = some lc → lc.pre → ∃ (σ : Type) (D : σ → St) (I : σ → Prop) (m : σ → Nat) (x0 : σ) (stN : St) (js : List Nat), I x0 ∧ NilS st stN ∧ st.h.length ≤ (D x0).h.length ∧ Sub js st.h.length stN (D x0) ∧
      ∀ x, I x → ∃ L Qx, loopsOk P ro N L c ∧ (∀ e st', Qx e st' → roundQ D I m st.h.length x id (fun e st' => ∃ r js, lc.post r ∧ lc.ex r = e ∧ st.h.length ≤ (lc.out r).h.length ∧ Sub js st.h.length st' (lc.out r)) e st') ∧ exec ts G L c (D x) Qx) : LoopOk P ro N id (.loop c) C := by
  intro nd F w0 st lc hC hpre own a w hr
  obtain ⟨σ, D, I, m, x0, stN, js, h1, hN, h2, h3, h4⟩ := h st lc hC hpre
  obtain ⟨ownN, hrN⟩ := hN.rel hr
  refine wpIn_mono (loop_rule hm hts hG hc D I m st.h.length hr.base_lt _ h4 x0 h1 _ a w (hrN.sub h3 hr.base_lt h2)) ?_
  intro e a' w' hq
  have key : ∀ ex F1 own' st', StRel F1 w0 N own' st' a' w' → (∃ r js, lc.post r ∧ lc.ex r = ex ∧ st.h.length ≤ (lc.out r).h.length ∧ Sub js st.h.length st' (lc.out r)) → ∃ own2 st2, StRel F1 w0 N own2 st2 a' w' ∧ ∃ r, lc.post r ∧ ex = lc.ex r ∧ st2 = lc.out r := by
    rintro ex F1 own' st' hst ⟨r, js, q1, q2, q3, q4⟩
    exact ⟨_, _, hst.sub q4 hr.base_lt q3, r, q1, q2.symm, rfl⟩
  cases e with
  | normal => obtain ⟨F1, own', st', h0, k1, k2⟩ := hq; obtain ⟨own2, st2, q1, q2⟩ := key _ F1 own' st' k1 k2; exact ⟨F1, own2, st2, h0, q1, q2⟩
  | exit j => obtain ⟨F1, own', st', h0, k1, k2⟩ := hq; obtain ⟨own2, st2, q1, q2⟩ := key _ F1 own' st' k1 k2; exact ⟨F1, own2, st2, h0, q1, q2⟩
  | ret => obtain ⟨F1, own', st', h0, k1, k2⟩ := hq; obtain ⟨own2, st2, q1, q2⟩ := key _ F1 own' st' k1 k2; exact ⟨F1, own2, st2, h0, q1, q2⟩
  | panic ch =>
    obtain ⟨x, F1, own', st', h0, k1, k2, k3⟩ := hq
    obtain ⟨own2, st2, q1, q2⟩ := key _ F1 own' st' k1 k2
    exact ⟨x, F1, own2, st2, h0, q1, q2, k3⟩
  | _ => exact hq.elim
end
section
variable {P : Program} {ρ σ : Type}
def fitE (st2 : St) (n0 : Nat) (st : St) : Prop := ∃ js, n0 ≤ st2.h.length ∧ Sub js n0 st st2
theorem fitE_mk {st2 st : St} {n0 : Nat} (js : List Nat) (h1 : n0 ≤ st2.h.length) (h2 : Sub js n0 st st2) : fitE st2 n0 st := ⟨js, h1, h2⟩
def nextE (D : Nat → σ → St) (n0 k : Nat) (st : St) : ρ ⊕ σ → Prop
  | .inl _ => False
  | .inr s' => fitE (D (k + 1) s') n0 st
def exE' (exE : ρ → Ex) (outE : ρ → St) (n0 : Nat) (e : Ex) (st : St) : ρ ⊕ σ → Prop
  | .inl x => exE x = e ∧ fitE (outE x) n0 st
  | .inr _ => False
def cE (step : Nat → σ → ρ ⊕ σ) (n : Nat) (exE : ρ → Ex) (outE : ρ → St) (outN : σ → St) (D : Nat → σ → St) (n0 id k : Nat) (s : σ) : Ex → St → Prop
  | .normal, st => k < n ∧ nextE D n0 k st (step k s)
  | .exit j, st => bif Nat.beq j id then (n ≤ k → fitE (outN s) n0 st) ∧ (k < n → exE' exE outE n0 .normal st (step k s)) else k < n ∧ exE' exE outE n0 (.exit j) st (step k s)
  | .ret, st => k < n ∧ exE' exE outE n0 .ret st (step k s)
  | .pan x, st => k < n ∧ exE' exE outE n0 (.pan x) st (step k s)
variable {step : Nat → σ → ρ ⊕ σ} {n n0 id k j : Nat} {exE : ρ → Ex} {outE : ρ → St} {outN : σ → St} {D : Nat → σ → St} {s s' : σ} {st : St} {x : Value} {e : Ex} {y : ρ}
@[go_sem] theorem nextE_inr : nextE (ρ := ρ) D n0 k st (.inr s') = fitE (D (k + 1) s') n0 st := (rfl)
@[go_sem] theorem exE'_inl : exE' (σ := σ) exE outE n0 e st (.inl y) = (exE y = e ∧ fitE (outE y) n0 st) := (rfl)
@[go_sem] theorem cE_normal : cE step n exE outE outN D n0 id k s .normal st = (k < n ∧ nextE D n0 k st (step k s)) := (rfl)
@[go_sem] theorem cE_exit : cE step n exE outE outN D n0 id k s (.exit j) st = bif Nat.beq j id then (n ≤ k → fitE (outN s) n0 st) ∧ (k < n → exE' exE outE n0 .normal st (step k s)) else k < n ∧ exE' exE outE n0 (.exit j) st (step k s) := (rfl)
@[go_sem] theorem cE_ret : cE step n exE outE outN D n0 id k s .ret st = (k < n ∧ exE' exE outE n0 .ret st (step k s)) := (rfl)
@[go_sem] theorem cE_pan : cE step n exE outE outN D n0 id k s (.pan x) st = (k < n ∧ exE' exE outE n0 (.pan x) st (step k s)) := (rfl)
@[congr] theorem nextE_congr {r r' : ρ ⊕ σ} (h : r = r') : nextE D n0 k st r = nextE D n0 k st r' := by rw [h]
end
def retC (p : Prop) (S : SV) (H : List Ob) : HCon := { α := Unit, pre := p, post := fun _ => True, res := fun _ => .ret S H }
def fitD (n0 : Nat) (S : SV) (H : List Ob) (h : List Ob) : Option SV → Prop
  | some s => fitE ⟨[(0, S)], H⟩ n0 ⟨[(0, s)], h⟩
  | none => False
def doneE (n0 : Nat) (rs : List ResultVar) (ts : Tis) (S : SV) (H : List Ob) : Ex → St → Prop
  | .exit _, _ => False
  | .normal, st => fitD n0 S H st.h (tupO (retL ts st rs))
  | .ret, st => fitD n0 S H st.h (tupO (retL ts st rs))
  | .pan _, _ => False
section
variable {P : Program} {ts : Tis} {G : Cons} {n0 : Nat} {S s : SV} {H h : List Ob} {rs : List ResultVar} {st : St} {x : Value} {j : Nat}
@[go_sem] theorem fitD_some : fitD n0 S H h (some s) = fitE ⟨[(0, S)], H⟩ n0 ⟨[(0, s)], h⟩ := (rfl)
@[go_sem] theorem doneE_normal : doneE n0 rs ts S H .normal st = fitD n0 S H st.h (tupO (retL ts st rs)) := (rfl)
@[go_sem] theorem doneE_ret : doneE n0 rs ts S H .ret st = fitD n0 S H st.h (tupO (retL ts st rs)) := (rfl)
@[go_sem high] theorem callH_retC {p : Prop} {ids : List Nat} {d : Option Nat} {K : St → Prop} {Z : Value → St → Prop} : callH ids d st K Z (some (retC p S H)) = (p ∧ resN ids d st K Z (.ret S H)) := by
  show (p ∧ ∀ r : Unit, True → resN ids d st K Z (.ret S H)) = _
  simp
@[go_sem] theorem drOf_bad {nx : Nat} : drOf G h nx .bad = none := (rfl)
open Classical in
noncomputable def pQ {α : Type 1} (X : SV) (k : List SV → Option α) : List SV → Option α
  | s :: r => if s = X then k r else none
  | [] => none
@[go_sem] theorem pQ_mk {α : Type 1} {X : SV} {k : List SV → Option α} {r : List SV} : pQ X k (X :: r) = k r := by simp [pQ]
theorem pQ_inv {α : Type 1} {X : SV} {k : List SV → Option α} {l : List SV} {c : α} (h : pQ X k l = some c) : ∃ r, l = X :: r ∧ k r = some c := by
  unfold pQ at h; split at h
  · split at h
    · rename_i e; subst e; exact ⟨_, rfl, h⟩
    · cases h
  · cases h
theorem fn_ok_oR (hm : P.follows .mixedOrders = true) (hts : ts.ok P) (hG : ConsOk P G) {f : FuncId} {fn : Func} {c : Code} (hf : P.funcs[f]? = some fn) (hb : fn.body = some c) (hname : (fn.name == "runtime.NumGoroutine") = false)
    (hc : okCode fn.ntmps c = true) {C : List SV → List Ob → Option HCon}
    (h : ∀ l o con, C l o = some con → ∃ p S H, con = retC p S H ∧ (p → l.length ≤ fn.ntmps ∧ ∃ L, loopsOk P none fn.ntmps L c ∧ exec ts G L c ⟨initT 0 l, o⟩ (doneE o.length fn.results.toList ts S H))) : FnOkO P f C := by
  refine fn_ok_oQ hm hts hG hf hb hname hc fun l o con hC hp => ?_
  obtain ⟨p, S, H, rfl, h2⟩ := h l o con hC
  obtain ⟨h3, L, h4, h5⟩ := h2 hp
  refine ⟨h3, L, _, h4, fun e st hq => ?_, h5⟩
  cases e with
  | normal =>
    change fitD _ _ _ _ _ at hq
    show doneR _ _ _ _
    cases hs : tupO (retL ts st fn.results.toList) with
    | none => rw [hs] at hq; exact hq.elim
    | some s => rw [hs] at hq; obtain ⟨js, q1, q2⟩ := hq; exact ⟨(), S, H, js, trivial, rfl, q1, q2⟩
  | ret =>
    change fitD _ _ _ _ _ at hq
    show doneR _ _ _ _
    cases hs : tupO (retL ts st fn.results.toList) with
    | none => rw [hs] at hq; exact hq.elim
    | some s => rw [hs] at hq; obtain ⟨js, q1, q2⟩ := hq; exact ⟨(), S, H, js, trivial, rfl, q1, q2⟩
  | exit j => exact hq.elim
  | pan x => exact hq.elim
end
end Go.Sx
end
section
namespace Go.Sx
attribute [go_sem] true_imp_iff false_imp_iff Bool.false_eq_true Int.toNat_natCast Int.toNat_zero true_and and_true and_self implies_true forall_const
theorem cl {p : Prop} (h : p := by (first | done | (repeat' (first | with_reducible refine And.intro ?_ ?_ | ((with_reducible show _ ≠ _); first | assumption | omega | (simp_all [outR, outL]; done) | grind) | with_reducible intro _)) <;> (first | done | exact Empty.elim ‹Empty› | assumption | rfl | omega | (simp only [*, cond_true, cond_false, Bool.not_true, Bool.not_false, go_sem, Nat.reduceBEq, Nat.reduceLeDiff, Nat.reduceAdd, Nat.reduceSub, Nat.reduceMul, Int.reduceLE, Int.reduceLT, Int.reduceToNat, Int.reduceNeg, reduceCtorEq]; done) | (simp only [*, cond_true, cond_false, Bool.not_true, Bool.not_false, go_sem, Nat.reduceBEq, Nat.reduceLeDiff, Nat.reduceAdd, Nat.reduceSub, Nat.reduceMul, Int.reduceLE, Int.reduceLT, Int.reduceToNat, Int.reduceNeg, reduceCtorEq]; (repeat' (first | with_reducible refine And.intro ?_ ?_ | ((with_reducible show _ ≠ _); first | assumption | omega | (simp_all [outR, outL]; done) | grind) | with_reducible intro _)) <;> (first | done | assumption | rfl | omega | (simp_all [outR, outL]; done))) | (simp_all [okI, outR, outL]; done) | grind))) : p := h
theorem cl2 {p : Prop} (h : p := by (first | done | (repeat' (first | with_reducible refine And.intro ?_ ?_ | ((with_reducible show _ ≠ _); first | assumption | omega | (simp_all [outR, outL]; done) | grind) | with_reducible intro _)) <;> (first | done | exact Empty.elim ‹Empty› | assumption | rfl | omega | (simp only [*, go_sem, Nat.reduceBEq, Nat.reduceLeDiff, Nat.reduceAdd, Nat.reduceSub, Nat.reduceMul, Int.reduceLE, Int.reduceLT, Int.reduceToNat, Int.reduceNeg, reduceCtorEq]; done) | (simp_all [outR, outL]; done)))) : p := h
theorem fk {st2 st : St} {n0 : Nat} (js : List Nat) (h1 : n0 ≤ st2.h.length := by (first | (show _ ≤ _; decide) | (simp only [*, go_sem, Nat.reduceBEq, Nat.reduceLeDiff, Nat.reduceAdd, Nat.reduceSub, Nat.reduceMul, Int.reduceLE, Int.reduceLT, Int.reduceToNat, Int.reduceNeg, reduceCtorEq]; done) | (simp only [*, go_sem, Nat.reduceBEq, Nat.reduceLeDiff, Nat.reduceAdd, Nat.reduceSub, Nat.reduceMul, Int.reduceLE, Int.reduceLT, Int.reduceToNat, Int.reduceNeg, reduceCtorEq]; (repeat' (first | with_reducible refine And.intro ?_ ?_ | ((with_reducible show _ ≠ _); first | assumption | omega | (simp_all [outR, outL]; done) | grind) | with_reducible intro _)) <;> (first | rfl | decide | assumption | omega | (simp_all [outR, outL]; done))))) (h2 : Sub js n0 st st2 := by (first | (show _ ≤ _; decide) | (simp only [*, go_sem, Nat.reduceBEq, Nat.reduceLeDiff, Nat.reduceAdd, Nat.reduceSub, Nat.reduceMul, Int.reduceLE, Int.reduceLT, Int.reduceToNat, Int.reduceNeg, reduceCtorEq]; done) | (simp only [*, go_sem, Nat.reduceBEq, Nat.reduceLeDiff, Nat.reduceAdd, Nat.reduceSub, Nat.reduceMul, Int.reduceLE, Int.reduceLT, Int.reduceToNat, Int.reduceNeg, reduceCtorEq]; (repeat' (first | with_reducible refine And.intro ?_ ?_ | ((with_reducible show _ ≠ _); first | assumption | omega | (simp_all [outR, outL]; done) | grind) | with_reducible intro _)) <;> (first | rfl | decide | assumption | omega | (simp_all [outR, outL]; done))))) : fitE st2 n0 st := fitE_mk js h1 h2
theorem fk2 {st2 st : St} {n0 : Nat} (js : List Nat) (h1 : n0 ≤ st2.h.length := by (first | (show _ ≤ _; decide) | (simp only [go_sem, Nat.reduceBEq, Nat.reduceLeDiff, Nat.reduceAdd, Nat.reduceSub, Nat.reduceMul, Int.reduceLE, Int.reduceLT, Int.reduceToNat, Int.reduceNeg, reduceCtorEq]; (repeat' (first | with_reducible refine And.intro ?_ ?_ | ((with_reducible show _ ≠ _); first | assumption | omega | (simp_all [outR, outL]; done) | grind) | with_reducible intro _)) <;> (first | rfl | decide | assumption | omega | (simp_all [outR, outL]; done))))) (h2 : Sub js n0 st st2 := by (first | (show _ ≤ _; decide) | (simp only [go_sem, Nat.reduceBEq, Nat.reduceLeDiff, Nat.reduceAdd, Nat.reduceSub, Nat.reduceMul, Int.reduceLE, Int.reduceLT, Int.reduceToNat, Int.reduceNeg, reduceCtorEq]; (repeat' (first | with_reducible refine And.intro ?_ ?_ | ((with_reducible show _ ≠ _); first | assumption | omega | (simp_all [outR, outL]; done) | grind) | with_reducible intro _)) <;> (first | rfl | decide | assumption | omega | (simp_all [outR, outL]; done))))) : fitE st2 n0 st := fitE_mk js h1 h2
theorem cg0 {α : Type _} {p : α → Prop} : ∀ x ∈ ([] : List α), p x := fun _ h => by cases h
theorem cgc {α : Type _} {p : α → Prop} {a : α} {l : List α} (h : p a) (t : ∀ x ∈ l, p x) : ∀ x ∈ a :: l, p x := fun x hx => by
  rcases List.mem_cons.1 hx with rfl | hx
  · exact h
  · exact t x hx
attribute [go_sem] if_true
end Go.Sx
end
section
namespace Go.Sx
open Go.RowKit
section
variable {P : Program}
end
end Go.Sx
end
section
namespace Go.Sx
open Go.RowKit
def okL {ρ σ τ : Type} (step : τ → σ → ρ ⊕ σ) (p : τ → σ → Prop) : List τ → σ → Prop
  | [], _ => True
  | x :: l, s => p x s ∧ ∀ s', step x s = .inr s' → okL step p l s'
theorem okL_all {ρ σ τ : Type} {step : τ → σ → ρ ⊕ σ} {p : τ → σ → Prop} : ∀ (l : List τ) (s : σ), (∀ x ∈ l, ∀ s, p x s) → okL step p l s
  | [], _, _ => trivial
  | x :: l, s, h => ⟨h x (by simp) s, fun s' _ => okL_all l s' fun y hy => h y (by simp [hy])⟩
section
variable {ρ σ τ : Type}
def rgN (T : List (Nat × SV)) (H : σ → List Ob) (n0 : Nat) (st : St) : ρ ⊕ σ → Prop
  | .inl _ => False
  | .inr s' => fitE ⟨T, H s'⟩ n0 ⟨T, st.h⟩
def rgX (exE : ρ → Ex) (T : List (Nat × SV)) (Hy : ρ → List Ob) (n0 : Nat) (e : Ex) (st : St) : ρ ⊕ σ → Prop
  | .inl y => exE y = e ∧ fitE ⟨T, Hy y⟩ n0 ⟨T, st.h⟩
  | .inr _ => False
def rgQ (step : τ → σ → ρ ⊕ σ) (exE : ρ → Ex) (T : List (Nat × SV)) (H : σ → List Ob) (Hy : ρ → List Ob) (n0 id : Nat) (x : τ) (s : σ) : Ex → St → Prop
  | .normal, st => rgN T H n0 st (step x s)
  | .exit j, st => rgX exE T Hy n0 (bif Nat.beq j id then .normal else .exit j) st (step x s)
  | .ret, st => rgX exE T Hy n0 .ret st (step x s)
  | .pan _, _ => False
variable {step : τ → σ → ρ ⊕ σ} {exE : ρ → Ex} {T : List (Nat × SV)} {H : σ → List Ob} {Hy : ρ → List Ob} {n0 id j : Nat} {x : τ} {s s' : σ} {y : ρ} {st : St} {e : Ex}
@[go_sem] theorem rgN_inr : rgN (ρ := ρ) T H n0 st (.inr s') = fitE ⟨T, H s'⟩ n0 ⟨T, st.h⟩ := (rfl)
@[go_sem] theorem rgX_inl : rgX (σ := σ) exE T Hy n0 e st (.inl y) = (exE y = e ∧ fitE ⟨T, Hy y⟩ n0 ⟨T, st.h⟩) := (rfl)
@[go_sem] theorem rgQ_normal : rgQ step exE T H Hy n0 id x s .normal st = rgN T H n0 st (step x s) := (rfl)
@[go_sem] theorem rgQ_ret : rgQ step exE T H Hy n0 id x s .ret st = rgX exE T Hy n0 .ret st (step x s) := (rfl)
@[go_sem] theorem rgQ_exit : rgQ step exE T H Hy n0 id x s (.exit j) st = rgX exE T Hy n0 (bif Nat.beq j id then .normal else .exit j) st (step x s) := (rfl)
@[congr] theorem rgN_congr {r r' : ρ ⊕ σ} (h : r = r') : rgN T H n0 st r = rgN T H n0 st r' := by rw [h]
@[congr] theorem rgX_congr {r r' : ρ ⊕ σ} {e e' : Ex} (h : r = r') (he : e = e') : rgX exE T Hy n0 e st r = rgX exE T Hy n0 e' st r' := by rw [h, he]
end
section
variable {P : Program} {ts : Tis} {G : Cons} {N : Nat}
theorem rangeL_ok (hm : P.follows .mixedOrders = true) (hts : ts.ok P) (hG : ConsOk P G) {id : Nat} {g : Operand} {ps : Array Tmp} {assign body : Code} {C : St → Option LCon}
    (hpn : ps.toList.Nodup) (hpN : ∀ p ∈ ps.toList, p < N) (hca : okCode N assign = true) (hcb : okCode N body = true)
    (h : ∀ st lc, C st = some lc → lc.pre → ∃ (f : FuncId) (caps : List SV) (τ ρ σ : Type) (l : List τ) (mk : τ → List SV) (step : τ → σ → ρ ⊕ σ) (p : τ → σ → Prop) (pre : Prop) (s0 : σ) (exE : ρ → Ex) (outE : ρ → St) (outN : σ → St) (T : List (Nat × SV)) (H : σ → List Ob) (Hy : ρ → List Ob) (js : List Nat),
      raw st.t g = .fn f [] caps ∧ lc = LC pre (runL step l s0) exE outE outN ∧ okL step p l s0 ∧ st.h.length ≤ (H s0).length ∧ Sub js st.h.length ⟨st.t, killL (capIds st caps) st.h⟩ ⟨T, H s0⟩ ∧
      ItOk P f (fun y => y :: caps.map (ren (givN (capIds st caps)) 3)) (givH (capIds st caps) st.h) (l.map mk) ∧
      (∀ x s, p x s → (mk x).length = ps.size ∧ ∃ L, (∀ l, loopsOk P (some l) N L assign) ∧ (∀ l, loopsOk P (some l) N L body) ∧ exec ts G L assign ⟨psT ps.toList (mk x) ++ T, H s⟩ (fun e st1 => e = .normal ∧ exec ts G L body st1 (rgQ step exE T H Hy st.h.length id x s))) ∧
      (∀ s, fitE (outN s) st.h.length ⟨T, H s⟩) ∧ ∀ y, fitE (outE y) st.h.length ⟨T, Hy y⟩) : LoopOk P none N id (.rangeFunc g ps assign body) C := by
  refine range_ok hm hts hG hpn hpN hca hcb fun st lc hC hp => ?_
  obtain ⟨f, caps, τ, ρ, σ, l, mk, step, p, pre, s0, exE, outE, outN, T, H, Hy, js, h1, rfl, h2, h3, h4, h5, h6, h7, h8⟩ := h st lc hC hp
  refine ⟨f, caps, l.map mk, σ ⊕ ρ, T, fun z => match z with | .inl s => H s | .inr y => Hy y, fun k z => match z with | .inl s => runL step (l.drop k) s = runL step l s0 ∧ okL step p (l.drop k) s | .inr _ => False,
    fun e z => match z with | .inl _ => False | .inr y => runL step l s0 = .inl y ∧ (match e with | .ret => exE y = .ret | .exit j => exE y = (bif Nat.beq j id then .normal else .exit j) | _ => False), .inl s0, js, h1, ⟨rfl, h2⟩, h3, h4, h5, ?_, ?_, ?_, ?_⟩
  · rintro k z args hk hI
    cases z with
    | inr y => exact hI.elim
    | inl s =>
      obtain ⟨hrun, hok⟩ := hI
      rw [List.getElem?_map, Option.map_eq_some_iff] at hk
      obtain ⟨x, hx, rfl⟩ := hk
      have hlt := (List.getElem?_eq_some_iff.1 hx).1
      have hd : l.drop k = x :: l.drop (k + 1) := by
        rw [List.drop_eq_getElem_cons hlt]; congr 1; exact (List.getElem?_eq_some_iff.1 hx).2
      rw [hd] at hrun hok
      obtain ⟨hl, L, hla, hlb, hex⟩ := h6 x s hok.1
      refine ⟨hl, L, _, hla, hlb, ?_, hex⟩
      intro e st' hq
      have fin : ∀ e', rgX exE T Hy st.h.length e' st' (step x s) → ∃ y js, exE y = e' ∧ runL step l s0 = .inl y ∧ st.h.length ≤ (Hy y).length ∧ Sub js st.h.length ⟨T, st'.h⟩ ⟨T, Hy y⟩ := by
        intro e' q
        cases hs : step x s with
        | inr s' => rw [hs] at q; exact q.elim
        | inl y =>
          rw [hs] at q
          obtain ⟨q1, js, q2, q3⟩ := q
          simp only [runL, hs] at hrun
          exact ⟨y, js, q1, hrun.symm, q2, q3⟩
      cases e with
      | normal =>
        change rgN T H st.h.length st' (step x s) at hq
        cases hs : step x s with
        | inl y => rw [hs] at hq; exact hq.elim
        | inr s' =>
          rw [hs] at hq
          obtain ⟨js, q1, q2⟩ := hq
          simp only [runL, hs] at hrun
          exact ⟨.inl s', js, ⟨hrun, hok.2 s' hs⟩, q1, q2⟩
      | exit j =>
        obtain ⟨y, js, q1, q2, q3, q4⟩ := fin _ hq
        exact ⟨.inr y, js, ⟨q2, q1⟩, q3, q4⟩
      | ret =>
        obtain ⟨y, js, q1, q2, q3, q4⟩ := fin _ hq
        exact ⟨.inr y, js, ⟨q2, q1⟩, q3, q4⟩
      | pan x => exact hq.elim
  · intro z hI
    cases z with
    | inr y => exact hI.elim
    | inl s =>
      obtain ⟨js, q1, q2⟩ := h7 s
      have := hI.1
      rw [List.length_map, List.drop_length] at this
      exact ⟨.inr s, js, this, rfl, q1, q2⟩
  · intro z hS
    cases z with
    | inl s => exact hS.elim
    | inr y =>
      obtain ⟨js, q1, q2⟩ := h8 y
      exact ⟨.inl y, js, hS.1.symm, hS.2, q1, q2⟩
  · intro j z hS
    cases z with
    | inl s => exact hS.elim
    | inr y =>
      obtain ⟨js, q1, q2⟩ := h8 y
      refine ⟨.inl y, js, hS.1.symm, ?_, q1, q2⟩
      have := hS.2
      show exE y = _
      rw [this]
      by_cases hj : j = id
      · rw [if_pos hj]
        have hb : Nat.beq j id = true := by rw [hj]; exact Nat.beq_refl id
        rw [hb]; rfl
      · rw [if_neg hj]
        cases hb : Nat.beq j id with
        | true => exact absurd (Nat.eq_of_beq_eq_true hb) hj
        | false => rfl
end
end Go.Sx
end
section
namespace Go.Sx
open Go.RowKit
section
variable {P : Program} {ρ σ τ : Type}
def curO : Ob → Option Nat
  | .mi _ _ _ c => c
  | _ => none
def nxC (step : τ → σ → ρ ⊕ σ) (l : List τ) (d : τ) (D : List Nat → Option Nat → σ → St) (n0 : Nat) (left : List Nat) (s : σ) (st : St) : Option Nat → Prop
  | some j => j ∈ left ∧ nextE (fun _ s' => D (left.erase j) (some j) s') n0 0 st (step (l.getD j d) s)
  | none => False
def exC (step : τ → σ → ρ ⊕ σ) (l : List τ) (d : τ) (exE : ρ → Ex) (outE : ρ → St) (n0 : Nat) (left : List Nat) (s : σ) (e : Ex) (st : St) : Option Nat → Prop
  | some j => j ∈ left ∧ exE' exE outE n0 e st (step (l.getD j d) s)
  | none => False
def cM (step : τ → σ → ρ ⊕ σ) (l : List τ) (d : τ) (exE : ρ → Ex) (outE : ρ → St) (outN : σ → St) (D : List Nat → Option Nat → σ → St) (n0 id it : Nat) (left : List Nat) (s : σ) : Ex → St → Prop
  | .normal, st => nxC step l d D n0 left s st (curO (obAt st.h it))
  | .exit j, st => bif Nat.beq j id then (left = [] → fitE (outN s) n0 st) ∧ (left ≠ [] → exC step l d exE outE n0 left s .normal st (curO (obAt st.h it))) else exC step l d exE outE n0 left s (.exit j) st (curO (obAt st.h it))
  | .ret, st => exC step l d exE outE n0 left s .ret st (curO (obAt st.h it))
  | .pan x, st => exC step l d exE outE n0 left s (.pan x) st (curO (obAt st.h it))
variable {step : τ → σ → ρ ⊕ σ} {l : List τ} {d : τ} {n0 id it j : Nat} {exE : ρ → Ex} {outE : ρ → St} {outN : σ → St} {D : List Nat → Option Nat → σ → St} {left : List Nat} {s s' : σ} {st : St} {x : Value} {e : Ex} {y : ρ} {t : List (Nat × SV)} {h : List Ob}
@[go_sem] theorem curO_mi {m : Option Nat} {n : Nat} {left : List Nat} {c : Option Nat} : curO (.mi m n left c) = c := (rfl)
@[go_sem] theorem nxC_some : nxC step l d D n0 left s st (some j) = (j ∈ left ∧ nextE (fun _ s' => D (left.erase j) (some j) s') n0 0 st (step (l.getD j d) s)) := (rfl)
@[go_sem] theorem exC_some : exC step l d exE outE n0 left s e st (some j) = (j ∈ left ∧ exE' exE outE n0 e st (step (l.getD j d) s)) := (rfl)
@[go_sem] theorem cM_normal : cM step l d exE outE outN D n0 id it left s .normal ⟨t, h⟩ = nxC step l d D n0 left s ⟨t, h⟩ (curO (obAt h it)) := (rfl)
@[go_sem] theorem cM_exit : cM step l d exE outE outN D n0 id it left s (.exit j) ⟨t, h⟩ = bif Nat.beq j id then (left = [] → fitE (outN s) n0 ⟨t, h⟩) ∧ (left ≠ [] → exC step l d exE outE n0 left s .normal ⟨t, h⟩ (curO (obAt h it))) else exC step l d exE outE n0 left s (.exit j) ⟨t, h⟩ (curO (obAt h it)) := (rfl)
@[go_sem] theorem cM_ret : cM step l d exE outE outN D n0 id it left s .ret ⟨t, h⟩ = exC step l d exE outE n0 left s .ret ⟨t, h⟩ (curO (obAt h it)) := (rfl)
@[go_sem] theorem cM_pan : cM step l d exE outE outN D n0 id it left s (.pan x) ⟨t, h⟩ = exC step l d exE outE n0 left s (.pan x) ⟨t, h⟩ (curO (obAt h it)) := (rfl)
attribute [go_sem] nxtM
@[go_sem] theorem put_some {t : List (Nat × SV)} {h : List Ob} {d : Nat} {s : SV} : St.put ⟨t, h⟩ (some d) s = ⟨(d, s) :: t, h⟩ := (rfl)
@[go_sem] theorem put_none {t : List (Nat × SV)} {h : List Ob} {s : SV} : St.put ⟨t, h⟩ none s = ⟨t, h⟩ := (rfl)
end
end Go.Sx
end
section
namespace Go.Sx
open Go.RowKit
inductive NLoc where
  | slot (i : Nat) (o : Ob)
  | cell (i j : Nat) (o : Ob)
def setO (j n : Nat) : Ob → Ob
  | .cells l => .cells (l.set j (.os n))
  | o => o
def nilO (j : Nat) : Ob → Prop
  | .cells l => nth l j = some (.v (.slice none 0 0))
  | _ => False
def bareO : Ob → Prop
  | .row _ l => l = []
  | .grid _ l => l = []
  | _ => False
def mkN : List NLoc → St → St
  | [], st => st
  | .slot i o :: r, ⟨t, h⟩ => mkN r ⟨(i, .os h.length) :: t, h ++ [o]⟩
  | .cell i j o :: r, ⟨t, h⟩ => mkN r ⟨t, obSet h i (setO j h.length (obAt h i)) ++ [o]⟩
def okN : List NLoc → St → Prop
  | [], _ => True
  | .slot i o :: r, ⟨t, h⟩ => lk i t = .v (.slice none 0 0) ∧ bareO o ∧ okN r ⟨(i, .os h.length) :: t, h ++ [o]⟩
  | .cell i j o :: r, ⟨t, h⟩ => nilO j (obAt h i) ∧ bareO o ∧ okN r ⟨t, obSet h i (setO j h.length (obAt h i)) ++ [o]⟩
section
variable {i j m n : Nat} {o : Ob} {r : List NLoc} {t t2 : List (Nat × SV)} {h h2 : List Ob} {l : List SV} {ns : List NLoc} {js : List Nat} {st : St}
@[go_sem] theorem mkN_nil : mkN [] st = st := (rfl)
@[go_sem] theorem mkN_slot : mkN (.slot i o :: r) ⟨t, h⟩ = mkN r ⟨(i, .os h.length) :: t, h ++ [o]⟩ := (rfl)
@[go_sem] theorem mkN_cell : mkN (.cell i j o :: r) ⟨t, h⟩ = mkN r ⟨t, obSet h i (setO j h.length (obAt h i)) ++ [o]⟩ := (rfl)
@[go_sem] theorem okN_nil : okN [] st = True := (rfl)
@[go_sem] theorem okN_slot : okN (.slot i o :: r) ⟨t, h⟩ = (lk i t = .v (.slice none 0 0) ∧ bareO o ∧ okN r ⟨(i, .os h.length) :: t, h ++ [o]⟩) := (rfl)
@[go_sem] theorem okN_cell : okN (.cell i j o :: r) ⟨t, h⟩ = (nilO j (obAt h i) ∧ bareO o ∧ okN r ⟨t, obSet h i (setO j h.length (obAt h i)) ++ [o]⟩) := (rfl)
@[go_sem] theorem setO_cells : setO j n (.cells l) = .cells (l.set j (.os n)) := (rfl)
@[go_sem] theorem nilO_cells : nilO j (.cells l) = (nth l j = some (.v (.slice none 0 0))) := (rfl)
theorem bare_of (h : bareO o) : (∃ k, o = .row k []) ∨ ∃ k, o = .grid k [] := by
  cases o <;> simp only [bareO] at h
  · subst h; exact .inl ⟨_, rfl⟩
  · subst h; exact .inr ⟨_, rfl⟩
theorem mkN_ok : ∀ (ns : List NLoc) (st0 st : St), NilS st0 st → okN ns st → NilS st0 (mkN ns st)
  | [], _, _, hn, _ => hn
  | .slot i o :: r, st0, ⟨t, h⟩, hn, hk => mkN_ok r st0 _ (.slot o hn hk.1 (bare_of hk.2.1)) hk.2.2
  | .cell i j o :: r, st0, ⟨t, h⟩, hn, hk => by
    refine mkN_ok r st0 _ ?_ hk.2.2
    have h1 := hk.1
    cases ho : obAt h i with
    | cells l =>
      rw [ho] at h1
      simp only [nilO, nth_eq] at h1
      exact .cell o hn ho h1 (bare_of hk.2.1)
    | _ => rw [ho] at h1; exact h1.elim
def entryS (m : Nat) (ns : List NLoc) (js : List Nat) (st d : St) : Prop := st.h.length = m ∧ okN ns st ∧ m ≤ d.h.length ∧ Sub js m (mkN ns st) d
@[go_sem] theorem entryS_mk : entryS m ns js ⟨t, h⟩ ⟨t2, h2⟩ = (h.length = m ∧ okN ns ⟨t, h⟩ ∧ m ≤ h2.length ∧ Sub js m (mkN ns ⟨t, h⟩) ⟨t2, h2⟩) := (rfl)
end
theorem loopsOk0 {P : Program} {ro : Option Nat} {N : Nat} (c : Code) : loopsOk P ro N L0 c := by
  induction c with
  | seq a b ha hb => exact ⟨ha, hb⟩
  | cond _ a b ha hb => exact ⟨ha, hb⟩
  | block id c hc =>
    cases c with
    | loop c => exact fun _ _ _ _ _ h => by cases h
    | rangeFunc f ps a b => exact fun _ _ _ _ _ h => by cases h
    | _ => exact hc
  | _ => trivial
section
variable {ρ σ τ : Type}
def pT : Nat → σ → Prop := fun _ _ => True
@[go_sem] theorem okI_pT {step : Nat → σ → ρ ⊕ σ} {n i : Nat} {s : σ} : okI step pT n i s = True := eq_true (okI_all _ _ _ fun _ _ _ _ => trivial)
def LCR (m : Nat) (ns : List NLoc) (js : List Nat) (D : Nat → σ → St) (step : Nat → σ → ρ ⊕ σ) (p : Nat → σ → Prop) (n : Nat) (s0 : σ) (B : Prop) (exE : ρ → Ex) (outE : ρ → St) (st : St) : LCon :=
  LC (entryS m ns js st (D 0 s0) ∧ B ∧ okI step p n 0 s0) (runI step n 0 s0) exE outE (D n)
def LCV (m : Nat) (ns : List NLoc) (js : List Nat) (D : Nat → σ → St) (step : Nat → σ → ρ ⊕ σ) (p : Nat → σ → Prop) (n : Nat) (s0 : σ) (exE : ρ → Ex) (outE : ρ → St) (st : St) : LCon :=
  LC (entryS m ns js st (D 0 s0) ∧ okI step p n 0 s0 ∧ ∀ s, runI step n 0 s0 ≠ .inr s) (runI step n 0 s0) exE outE (D n)
variable {m : Nat} {ns : List NLoc} {js : List Nat} {step : Nat → σ → ρ ⊕ σ} {p : Nat → σ → Prop} {n : Nat} {s0 : σ} {B : Prop} {exE : ρ → Ex} {outE : ρ → St} {outN : σ → St} {st : St} {Q : Ex → St → Prop}
@[go_sem] theorem loopS_LCR {D : Nat → σ → St} : loopS Q (some (LCR m ns js D step p n s0 B exE outE st)) = ((entryS m ns js st (D 0 s0) ∧ B ∧ okI step p n 0 s0) ∧ (∀ x, runI step n 0 s0 = .inl x → Q (exE x) (outE x)) ∧ ∀ s, runI step n 0 s0 = .inr s → Q .normal (D n s)) := loopS_LC
@[go_sem] theorem loopS_LCV {D : Nat → σ → St} : loopS Q (some (LCV m ns js D step p n s0 exE outE st)) = ((entryS m ns js st (D 0 s0) ∧ okI step p n 0 s0 ∧ ∀ s, runI step n 0 s0 ≠ .inr s) ∧ ∀ x, runI step n 0 s0 = .inl x → Q (exE x) (outE x)) := by
  refine loopS_LC.trans ?_
  apply propext
  constructor
  · rintro ⟨h1, h2, _⟩; exact ⟨h1, h2⟩
  · rintro ⟨h1, h2⟩; exact ⟨h1, h2, fun s hs => absurd hs (h1.2.2 s)⟩
def cR (step : Nat → σ → ρ ⊕ σ) (exE : ρ → Ex) (outE : ρ → St) (D : Nat → σ → St) (m id k : Nat) (s : σ) : Ex → St → Prop
  | .normal, st => nextE D m k st (step k s)
  | .exit j, st => exE' exE outE m (bif Nat.beq j id then .normal else .exit j) st (step k s)
  | .ret, st => exE' exE outE m .ret st (step k s)
  | .pan x, st => exE' exE outE m (.pan x) st (step k s)
def cZ (d : St) (m id : Nat) : Ex → St → Prop
  | .exit j, st => bif Nat.beq j id then fitE d m st else False
  | _, _ => False
variable {D : Nat → σ → St} {id k j : Nat} {s : σ} {x : Value} {d : St} {e e' : Ex}
@[go_sem] theorem cR_normal : cR step exE outE D m id k s .normal st = nextE D m k st (step k s) := (rfl)
@[go_sem] theorem cR_exit : cR step exE outE D m id k s (.exit j) st = exE' exE outE m (bif Nat.beq j id then .normal else .exit j) st (step k s) := (rfl)
@[go_sem] theorem cR_ret : cR step exE outE D m id k s .ret st = exE' exE outE m .ret st (step k s) := (rfl)
@[go_sem] theorem cR_pan : cR step exE outE D m id k s (.pan x) st = exE' exE outE m (.pan x) st (step k s) := (rfl)
@[go_sem] theorem cZ_exit : cZ d m id (.exit j) st = bif Nat.beq j id then fitE d m st else False := (rfl)
@[congr] theorem cR_congr {st' : St} (h : st = st') (he : e = e') : cR step exE outE D m id k s e st = cR step exE outE D m id k s e' st' := by rw [h, he]
@[congr] theorem cZ_congr {st' : St} (h : st = st') (he : e = e') : cZ d m id e st = cZ d m id e' st' := by rw [h, he]
@[congr] theorem exE'_congr2 {r r' : ρ ⊕ σ} (h : r = r') (he : e = e') : exE' exE outE m e st r = exE' exE outE m e' st r' := by rw [h, he]
end
section
variable {P : Program} {ρ σ τ : Type} {ts : Tis} {G : Cons} {ro : Option Nat} {N : Nat} {id : Nat} {c : Code} {C : St → Option LCon} {m : Nat} {ns : List NLoc} {js : List Nat} {step : Nat → σ → ρ ⊕ σ} {p : Nat → σ → Prop} {n : Nat} {s0 : σ} {exE : ρ → Ex} {outE : ρ → St} {D : Nat → σ → St}
theorem roundR {n0 : Nat} (hn0 : n0 = m) {s : σ} {k : Nat} (hlt : k < n) {I : Nat × σ → Prop} {μ : Nat × σ → Nat} {outN : σ → St} {pre : Prop} {run : ρ ⊕ σ}
    (hI : ∀ s', step k s = .inr s' → I (k + 1, s') ∧ μ (k + 1, s') < μ (k, s)) (hx : ∀ x, step k s = .inl x → run = .inl x) :
    ∀ e st', cR step exE outE D m id k s e st' → roundQ (fun x : Nat × σ => D x.1 x.2) I μ n0 (k, s) id (fun e st' => ∃ r js, (LC pre run exE outE outN).post r ∧ (LC pre run exE outE outN).ex r = e ∧ n0 ≤ ((LC pre run exE outE outN).out r).h.length ∧ Sub js n0 st' ((LC pre run exE outE outN).out r)) e st' := by
  subst hn0
  have hfin : ∀ e st', exE' exE outE n0 e st' (step k s) → ∃ r js, (LC pre run exE outE outN).post r ∧ (LC pre run exE outE outN).ex r = e ∧ n0 ≤ ((LC pre run exE outE outN).out r).h.length ∧ Sub js n0 st' ((LC pre run exE outE outN).out r) := by
    intro e st' q
    cases hs : step k s with
    | inr s' => rw [hs] at q; exact q.elim
    | inl x =>
      rw [hs] at q
      obtain ⟨q2, js, q3, q4⟩ := q
      exact ⟨.inl x, js, (hx x hs).symm, q2, q3, q4⟩
  intro e st' hq
  cases e with
  | normal =>
    change nextE D n0 k st' (step k s) at hq
    cases hs : step k s with
    | inl x => rw [hs] at hq; exact hq.elim
    | inr s' =>
      rw [hs] at hq
      obtain ⟨js, q3, q4⟩ := hq
      obtain ⟨i1, i2⟩ := hI s' hs
      exact ⟨(k + 1, s'), js, i1, i2, q3, q4⟩
  | exit j =>
    change exE' exE outE n0 (bif Nat.beq j id then .normal else .exit j) st' (step k s) at hq
    show bif Nat.beq j id then _ else _
    cases hb : Nat.beq j id with
    | true => rw [hb] at hq; exact hfin _ _ hq
    | false => rw [hb] at hq; exact hfin _ _ hq
  | ret => exact hfin _ _ hq
  | pan x => exact hfin _ _ hq
theorem loopR_all {B : Prop} (hm : P.follows .mixedOrders = true) (hts : ts.ok P) (hG : ConsOk P G) (hc : okCode N c = true) (hC : ∀ st, C st = some (LCR m ns js D step p n s0 B exE outE st))
    (h : B → ∀ k s, k < n → p k s → ∃ L Q, loopsOk P ro N L c ∧ (∀ e st', Q e st' → cR step exE outE D m id k s e st') ∧ exec ts G L c (D k s) Q)
    (h2 : B → ∀ s, ∃ Q, (∀ e st', Q e st' → cZ (D n s) m id e st') ∧ exec ts G L0 c (D n s) Q) : LoopOk P ro N id (.loop c) C := by
  refine loop_okN hm hts hG hc fun st lc hC' hp => ?_
  rw [hC st] at hC'
  cases hC'
  obtain ⟨⟨hlen, hok, hle, hsub⟩, hB, h1⟩ := hp
  refine ⟨Nat × σ, fun x => D x.1 x.2, fun x => x.1 ≤ n ∧ okI step p (n - x.1) x.1 x.2 ∧ runI step (n - x.1) x.1 x.2 = runI step n 0 s0, fun x => n - x.1, (0, s0), mkN ns st, js, ⟨Nat.zero_le _, by simpa using h1, by simp⟩, mkN_ok ns st st (.refl _) hok, by rw [hlen]; exact hle, by rw [hlen]; exact hsub, ?_⟩
  rintro ⟨k, s⟩ ⟨hk, hJ, hrun⟩
  simp only at hk hJ hrun
  rcases Nat.lt_or_ge k n with hlt | hge
  · rw [show n - k = (n - k - 1) + 1 by omega] at hrun hJ
    obtain ⟨L, Q, hl, hQ, hex⟩ := h hB k s hlt hJ.1
    have hI : ∀ s', step k s = .inr s' → okI step p (n - (k + 1)) (k + 1) s' ∧ runI step (n - (k + 1)) (k + 1) s' = runI step n 0 s0 := fun s' hs => by
      have := hJ.2 s' hs
      rw [show n - k - 1 = n - (k + 1) by omega] at this hrun
      simp only [runI, hs] at hrun
      exact ⟨this, hrun⟩
    have hx : ∀ x, step k s = .inl x → runI step n 0 s0 = .inl x := fun x hs => by
      simp only [runI, hs] at hrun
      exact hrun.symm
    exact ⟨L, Q, hl, fun e st' q => roundR hlen hlt (fun s' hs => ⟨⟨hlt, hI s' hs⟩, by simp only; omega⟩) hx e st' (hQ e st' q), hex⟩
  · have hkn : k = n := by omega
    subst hkn
    obtain ⟨Q, hQ, hex⟩ := h2 hB s
    refine ⟨L0, Q, loopsOk0 c, fun e st' q => ?_, hex⟩
    have hq := hQ e st' q
    simp only [Nat.sub_self, runI] at hrun
    cases e with
    | exit j =>
      change bif Nat.beq j id then fitE (D k s) m st' else False at hq
      show bif Nat.beq j id then _ else _
      cases hb : Nat.beq j id with
      | true =>
        rw [hb] at hq
        obtain ⟨js, q3, q4⟩ := hq
        exact ⟨.inr s, js, hrun, rfl, by rw [hlen]; exact q3, by rw [hlen]; exact q4⟩
      | false => rw [hb] at hq; exact hq.elim
    | _ => exact hq.elim
theorem loopR_ok {B : Prop} (hm : P.follows .mixedOrders = true) (hts : ts.ok P) (hG : ConsOk P G) (hc : okCode N c = true) (hC : ∀ st, C st = some (LCR m ns js D step p n s0 B exE outE st)) (M : Int) (hn : n = M.toNat) (hB : B → M < 9223372036854775808)
    (h : B → ∀ k s, k < n → p k s → IntKind.i64.wrap ((k : Int) + 1) = ((k + 1 : Nat) : Int) → decide ((k : Int) < M) = true → ∃ L, loopsOk P ro N L c ∧ exec ts G L c (D k s) (cR step exE outE D m id k s))
    (h2 : B → ∀ s, decide ((n : Int) < M) = false → exec ts G L0 c (D n s) (cZ (D n s) m id)) : LoopOk P ro N id (.loop c) C := by
  refine loopR_all hm hts hG hc hC (fun b k s hlt hp => ?_) fun b s => ⟨_, fun _ _ q => q, h2 b s ?_⟩
  · obtain ⟨L, h1, h3⟩ := h b k s hlt hp (wrapT (hn ▸ hlt) (hB b)) (decide_eq_true (by omega))
    exact ⟨L, _, h1, fun _ _ q => q, h3⟩
  · rw [decide_eq_false_iff_not]; omega
theorem loopI_ok (E : Prop) (hm : P.follows .mixedOrders = true) (hts : ts.ok P) (hG : ConsOk P G) (hc : okCode N c = true) (hC : ∀ st, C st = some (LCR m ns js D step p n s0 True exE outE st)) (M : Int) (hn : n = M.toNat) (hE : E → M < 9223372036854775808)
    (h : E → ∀ k s, k < n → p k s → IntKind.i64.wrap ((k : Int) + 1) = ((k + 1 : Nat) : Int) → decide ((k : Int) < M) = true → ∃ L, loopsOk P ro N L c ∧ exec ts G L c (D k s) (cR step exE outE D m id k s))
    (h2 : E → ∀ s, decide ((n : Int) < M) = false → exec ts G L0 c (D n s) (cZ (D n s) m id)) (h3 : ¬ E → ∀ k s, exec ts G L0 c (D k s) fun _ _ => False) : LoopOk P ro N id (.loop c) C := by
  by_cases hb : E
  · refine loopR_all hm hts hG hc hC (fun b k s hlt hp => ?_) fun b s => ⟨_, fun _ _ q => q, h2 hb s ?_⟩
    · obtain ⟨L, h1, h4⟩ := h hb k s hlt hp (wrapT (hn ▸ hlt) (hE hb)) (decide_eq_true (by omega))
      exact ⟨L, _, h1, fun _ _ q => q, h4⟩
    · rw [decide_eq_false_iff_not]; omega
  · exact loopR_all hm hts hG hc hC (fun _ k s _ _ => ⟨L0, _, loopsOk0 c, fun _ _ q => q.elim, h3 hb k s⟩) fun _ s => ⟨_, fun _ _ q => q.elim, h3 hb n s⟩
theorem loopV_ok (hm : P.follows .mixedOrders = true) (hts : ts.ok P) (hG : ConsOk P G) (hc : okCode N c = true) (hC : ∀ st, C st = some (LCV m ns js D step p n s0 exE outE st))
    (h : ∀ k s, p k s → ∃ L, loopsOk P ro N L c ∧ exec ts G L c (D k s) (cR step exE outE D m id k s)) : LoopOk P ro N id (.loop c) C := by
  refine loop_okN hm hts hG hc fun st lc hC' hp => ?_
  rw [hC st] at hC'
  cases hC'
  obtain ⟨⟨hlen, hok, hle, hsub⟩, h1, hno⟩ := hp
  refine ⟨Nat × σ, fun x => D x.1 x.2, fun x => x.1 ≤ n ∧ okI step p (n - x.1) x.1 x.2 ∧ runI step (n - x.1) x.1 x.2 = runI step n 0 s0, fun x => n - x.1, (0, s0), mkN ns st, js, ⟨Nat.zero_le _, by simpa using h1, by simp⟩, mkN_ok ns st st (.refl _) hok, by rw [hlen]; exact hle, by rw [hlen]; exact hsub, ?_⟩
  rintro ⟨k, s⟩ ⟨hk, hJ, hrun⟩
  simp only at hk hJ hrun
  have hlt : k < n := by
    rcases Nat.lt_or_ge k n with h | h
    · exact h
    · have hkn : k = n := by omega
      subst hkn
      simp only [Nat.sub_self, runI] at hrun
      exact absurd hrun.symm (hno s)
  rw [show n - k = (n - k - 1) + 1 by omega] at hrun hJ
  obtain ⟨L, hl, hex⟩ := h k s hJ.1
  have hI : ∀ s', step k s = .inr s' → okI step p (n - (k + 1)) (k + 1) s' ∧ runI step (n - (k + 1)) (k + 1) s' = runI step n 0 s0 := fun s' hs => by
    have := hJ.2 s' hs
    rw [show n - k - 1 = n - (k + 1) by omega] at this hrun
    simp only [runI, hs] at hrun
    exact ⟨this, hrun⟩
  have hx : ∀ x, step k s = .inl x → runI step n 0 s0 = .inl x := fun x hs => by
    simp only [runI, hs] at hrun
    exact hrun.symm
  exact ⟨L, _, hl, fun e st' q => roundR hlen hlt (fun s' hs => ⟨⟨hlt, hI s' hs⟩, by simp only; omega⟩) hx e st' q, hex⟩
theorem lenB {α : Type} {l : List α} (h : l.length ≤ maxL) : (l.length : Int) < 9223372036854775808 := by unfold maxL at h; omega
end
section
universe u
variable {α : Type u} {G : List SV → α → Prop} {r : List SV}
theorem pI_all {k : Int → List SV → Option α} (h : ∀ n l c, k n l = some c → G (.v (.int .i64 n) :: l) c) : ∀ l c, pI k l = some c → G l c := fun l c hc => by
  obtain ⟨n, r, rfl, h1⟩ := pI_inv hc; exact h n r c h1
theorem pB_all {k : Bool → List SV → Option α} (h : ∀ n l c, k n l = some c → G (.v (.bool n) :: l) c) : ∀ l c, pB k l = some c → G l c := fun l c hc => by
  obtain ⟨n, r, rfl, h1⟩ := pB_inv hc; exact h n r c h1
theorem pR_all {t : Tag} {k : List t.T → List SV → Option α} (h : ∀ n l c, k n l = some c → G (.rs t n :: l) c) : ∀ l c, pR t k l = some c → G l c := fun l c hc => by
  obtain ⟨n, r, rfl, h1⟩ := pR_inv hc; exact h n r c h1
theorem pD_all {t : Tag} {k : t.T → List SV → Option α} (h : ∀ n l c, k n l = some c → G (.agg (cellsOf t n) :: l) c) : ∀ l c, pD t k l = some c → G l c := fun l c hc => by
  obtain ⟨n, r, rfl, h1⟩ := pD_inv hc; exact h n r c h1
theorem pX_all {t : Tag} {k : t.T → List SV → Option α} (h : ∀ n l c, k n l = some c → G (.ep (cellsOf t n) 0 :: l) c) : ∀ l c, pX t k l = some c → G l c := fun l c hc => by
  obtain ⟨n, r, rfl, h1⟩ := pX_inv hc; exact h n r c h1
theorem pE_all {c0 : α} (h : G [] c0) : ∀ l c, pE c0 l = some c → G l c := fun l c hc => by
  obtain ⟨rfl, rfl⟩ := pE_inv hc; exact h
end
end Go.Sx
end
section
namespace Go.Sx
open Go.RowKit
section
universe u
variable {α : Type u} {G : List SV → α → Prop}
def apO : Option (List SV → Option α) → List SV → Option α
  | some q, r => q r
  | none, _ => none
@[go_sem] theorem apO_some {q : List SV → Option α} {r : List SV} : apO (some q) r = q r := (rfl)
@[go_sem] theorem apO_none {r : List SV} : apO (α := α) none r = none := (rfl)
def pFn (f : Nat) (k : List SV → Option (List SV → Option α)) : List SV → Option α
  | .fn g [] caps :: r => bif Nat.beq g f then apO (k caps) r else none
  | _ => none
def pXF (f : Nat) (k : List SV → Option (List SV → Option α)) : List SV → Option α
  | .ep [.fn g [] caps] 0 :: r => bif Nat.beq g f then apO (k caps) r else none
  | _ => none
@[go_sem] theorem pFn_mk {f g : Nat} {k : List SV → Option (List SV → Option α)} {caps r : List SV} : pFn f k (.fn g [] caps :: r) = bif Nat.beq g f then apO (k caps) r else none := (rfl)
@[go_sem] theorem pXF_mk {f g : Nat} {k : List SV → Option (List SV → Option α)} {caps r : List SV} : pXF f k (.ep [.fn g [] caps] 0 :: r) = bif Nat.beq g f then apO (k caps) r else none := (rfl)
theorem apO_inv {o : Option (List SV → Option α)} {r : List SV} {c : α} (h : apO o r = some c) : ∃ q, o = some q ∧ q r = some c := by
  cases o with
  | none => cases h
  | some q => exact ⟨q, rfl, h⟩
theorem pFn_all {f : Nat} {k : List SV → Option (List SV → Option α)} (h : ∀ caps q, k caps = some q → ∀ l c, q l = some c → G (.fn f [] caps :: l) c) : ∀ l c, pFn f k l = some c → G l c := fun l c hc => by
  unfold pFn at hc
  split at hc
  · rename_i g caps r
    cases hb : Nat.beq g f with
    | false => rw [hb] at hc; cases hc
    | true =>
      rw [hb] at hc
      obtain ⟨q, h1, h2⟩ := apO_inv hc
      have := Nat.eq_of_beq_eq_true hb
      subst this
      exact h caps q h1 r c h2
  · cases hc
theorem pXF_all {f : Nat} {k : List SV → Option (List SV → Option α)} (h : ∀ caps q, k caps = some q → ∀ l c, q l = some c → G (.ep [.fn f [] caps] 0 :: l) c) : ∀ l c, pXF f k l = some c → G l c := fun l c hc => by
  unfold pXF at hc
  split at hc
  · rename_i g caps r
    cases hb : Nat.beq g f with
    | false => rw [hb] at hc; cases hc
    | true =>
      rw [hb] at hc
      obtain ⟨q, h1, h2⟩ := apO_inv hc
      have := Nat.eq_of_beq_eq_true hb
      subst this
      exact h caps q h1 r c h2
  · cases hc
end
theorem cl3 {p : Prop} (h : p := by ((repeat' (first | with_reducible refine And.intro ?_ ?_ | ((with_reducible show _ ≠ _); first | assumption | omega | (simp_all [outR, outL]; done) | grind) | with_reducible intro _)) <;> (first | done | assumption | rfl | omega | exact cl | (simp_all only [outR_inr, outL_inl, Sum.inr.injEq, Sum.inl.injEq, forall_eq', forall_const, true_imp_iff, cond_true, cond_false, and_self]; done)))) : p := h
def rowC (k : Tag) (K : List k.T → Option HCon) : List Ob → Option HCon
  | [.row k' l] => if h : k' = k then K (h ▸ l) else none
  | _ => none
@[go_sem] theorem rowC_mk {k : Tag} {K : List k.T → Option HCon} {l : List k.T} : rowC k K [.row k l] = K l := by simp [rowC]
theorem rowC_inv {k : Tag} {K : List k.T → Option HCon} {h : List Ob} {c : HCon} (hh : rowC k K h = some c) : ∃ l, h = [.row k l] ∧ K l = some c := by
  unfold rowC at hh; split at hh
  · split at hh
    · rename_i e; subst e; exact ⟨_, rfl, hh⟩
    · cases hh
  · cases hh
end Go.Sx
end
section
namespace Go.Sx
open Go.Proofs
set_option maxRecDepth 100000
set_option linter.unusedSimpArgs false
theorem czl {p : Prop} (h : p := by first | (simp only [*, cond_true, cond_false, Bool.not_true, Bool.not_false, go_sem, Nat.reduceBEq, Nat.reduceLeDiff, Nat.reduceLT, decide_true, Nat.reduceAdd, Nat.reduceSub, Nat.reduceMul, Int.reduceLE, Int.reduceLT, Int.reduceToNat, Int.reduceNeg, reduceCtorEq]; done) | fail) : p := h
theorem crSxR1_0 {p : Prop} (h : p := by (first | done | (repeat' (first | with_reducible refine And.intro ?_ ?_ | ((with_reducible show _ ≠ _); first | assumption | omega | (simp_all [outR, outL]; done) | grind) | with_reducible intro _)) <;> (first | done | exact Empty.elim ‹Empty› | assumption | rfl | omega | decide | exact fk [0] | exact czl | (simp only [*, cond_true, cond_false, Bool.not_true, Bool.not_false, go_sem, Nat.reduceBEq, Nat.reduceLeDiff, Nat.reduceLT, decide_true, Nat.reduceAdd, Nat.reduceSub, Nat.reduceMul, Int.reduceLE, Int.reduceLT, Int.reduceToNat, Int.reduceNeg, reduceCtorEq]; (repeat' (first | with_reducible refine And.intro ?_ ?_ | ((with_reducible show _ ≠ _); first | assumption | omega | (simp_all [outR, outL]; done) | grind) | with_reducible intro _)) <;> (first | done | assumption | rfl | omega | decide | exact fk [0] | (simp_all [outR, outL]; done))) | (simp_all [okI, outR, outL]; done) | (simp_all [outR, outL]; (first | done | exact fk2 [0])) | exact fk2 [0]))) : p := h
theorem exSxR1_0 {p : Prop} (h : p := by simp only [go_sem, Nat.reduceBEq, Nat.reduceLeDiff, Nat.reduceLT, decide_true, Nat.reduceAdd, Nat.reduceSub, Nat.reduceMul, Int.reduceLE, Int.reduceLT, Int.reduceToNat, Int.reduceNeg, reduceCtorEq, hc, hw]; all_goals exact crSxR1_0) : p := h
theorem ezSxR1_0 {p : Prop} (h : p := by simp only [go_sem, Nat.reduceBEq, Nat.reduceLeDiff, Nat.reduceLT, decide_true, Nat.reduceAdd, Nat.reduceSub, Nat.reduceMul, Int.reduceLE, Int.reduceLT, Int.reduceToNat, Int.reduceNeg, reduceCtorEq, hc]; all_goals exact crSxR1_0) : p := h
def cmp_isNaN_int (x : Int) : Bool := (x != x)
@[go_sem] def C_cmp_isNaN_int : List SV → Option Con := (pI fun x => (pE (.det True (.v (.bool (cmp_isNaN_int x))))))
theorem ok_cmp_isNaN_int : FnOk Tryz.prog 92 C_cmp_isNaN_int := by
  have hG : ConsOk Tryz.prog (mkG [] []) := mkG_ok cg0 cg0
  refine fn_okN [.o] mixed ts_ok hG (fn := Tryz.f92) (c := bodyOf Tryz.f92) (by kernel_rfl) (by kernel_rfl) (by kernel_rfl) (by kernel_rfl) (pI_all fun x => (pE_all (fun hp => ?_)))
  dsimp only [conPre] at hp
  refine ⟨Nat.le_of_ble_eq_true rfl, L0, loopsOk0 _, ?_⟩
  · unfold bodyOf Tryz.f92
    try unfold cmp_isNaN_int
    simp only [go_sem, Nat.reduceBEq, Nat.reduceLeDiff, Nat.reduceLT, decide_true, Nat.reduceAdd, Nat.reduceSub, Nat.reduceMul, Int.reduceLE, Int.reduceLT, Int.reduceToNat, Int.reduceNeg, reduceCtorEq]
    all_goals exact cl
def cmp_Compare_int (x : Int) (y : Int) : Int := (bif (cmp_isNaN_int x) then (bif (cmp_isNaN_int y) then 0 else (-1)) else (bif (cmp_isNaN_int y) then 1 else (bif (decide (x < y)) then (-1) else (bif (decide (x > y)) then 1 else 0))))
@[go_sem] def C_cmp_Compare_int : List SV → Option Con := (pI fun x => (pI fun y => (pE (.det True (.v (.int .i64 (cmp_Compare_int x y)))))))
theorem ok_cmp_Compare_int : FnOk Tryz.prog 67 C_cmp_Compare_int := by
  have hG : ConsOk Tryz.prog (mkG [(92, C_cmp_isNaN_int)] []) := mkG_ok (cgc ok_cmp_isNaN_int cg0) cg0
  refine fn_okN [.o] mixed ts_ok hG (fn := Tryz.f67) (c := bodyOf Tryz.f67) (by kernel_rfl) (by kernel_rfl) (by kernel_rfl) (by kernel_rfl) (pI_all fun x => (pI_all fun y => (pE_all (fun hp => ?_))))
  dsimp only [conPre] at hp
  refine ⟨Nat.le_of_ble_eq_true rfl, L0, loopsOk0 _, ?_⟩
  · unfold bodyOf Tryz.f67
    try unfold cmp_Compare_int
    simp only [go_sem, Nat.reduceBEq, Nat.reduceLeDiff, Nat.reduceLT, decide_true, Nat.reduceAdd, Nat.reduceSub, Nat.reduceMul, Int.reduceLE, Int.reduceLT, Int.reduceToNat, Int.reduceNeg, reduceCtorEq]
    all_goals exact cl
def ratio_magnitude (n : Int) : Int := (bif (decide (n < 0)) then (IntKind.u64.wrap (0 - (IntKind.u64.wrap n))) else (IntKind.u64.wrap n))
@[go_sem] def C_ratio_magnitude : List SV → Option Con := (pI fun n => (pE (.det True (.v (.int .u64 (ratio_magnitude n))))))
theorem ok_ratio_magnitude : FnOk Tryz.prog 107 C_ratio_magnitude := by
  have hG : ConsOk Tryz.prog (mkG [] []) := mkG_ok cg0 cg0
  refine fn_okN [.o] mixed ts_ok hG (fn := Tryz.f107) (c := bodyOf Tryz.f107) (by kernel_rfl) (by kernel_rfl) (by kernel_rfl) (by kernel_rfl) (pI_all fun n => (pE_all (fun hp => ?_)))
  dsimp only [conPre] at hp
  refine ⟨Nat.le_of_ble_eq_true rfl, L0, loopsOk0 _, ?_⟩
  · unfold bodyOf Tryz.f107
    try unfold ratio_magnitude
    simp only [go_sem, Nat.reduceBEq, Nat.reduceLeDiff, Nat.reduceLT, decide_true, Nat.reduceAdd, Nat.reduceSub, Nat.reduceMul, Int.reduceLE, Int.reduceLT, Int.reduceToNat, Int.reduceNeg, reduceCtorEq]
    all_goals exact cl
def ratio_Check (a : Ratio) : Int := (bif (((((decide (a.d < 1)) || (decide (a.d > 1073741824))) || (decide (a.n < (-1073741824)))) || (decide (a.n > 1073741824))) || (((divI (Int.toNat (ratio_magnitude a.n)) (Int.toNat (IntKind.u64.wrap a.d)) : Nat) : Int) != 1)) then 120 else 0)
def ratio_Check_p (a : Ratio) : Prop := (((((decide (a.d < 1)) || (decide (a.d > 1073741824))) || (decide (a.n < (-1073741824)))) || (decide (a.n > 1073741824))) = false → (0 ≤ (ratio_magnitude a.n) ∧ 0 ≤ (IntKind.u64.wrap a.d)))
theorem u64_nonneg (n : Int) : 0 ≤ IntKind.u64.wrap n := by
  simp [IntKind.wrap, IntKind.bits, IntKind.signed]; omega
theorem magnitude_nonneg (n : Int) : 0 ≤ ratio_magnitude n := by
  unfold ratio_magnitude
  cases decide (n < 0) <;> exact u64_nonneg _
theorem ratio_Check_pt (a : Ratio) : ratio_Check_p a := fun _ => ⟨magnitude_nonneg _, u64_nonneg _⟩
@[go_sem] def C_ratio_Check : List SV → Option Con := (pD .ratio fun a => (pE (.det True (.v (.int .i64 (ratio_Check a))))))
theorem ok_ratio_Check : FnOk Tryz.prog 100 C_ratio_Check := by
  have hG : ConsOk Tryz.prog (mkG [(106, C83), (107, C_ratio_magnitude)] []) := mkG_ok (cgc f83_ok (cgc ok_ratio_magnitude cg0)) cg0
  refine fn_okN [.o] mixed ts_ok hG (fn := Tryz.f100) (c := bodyOf Tryz.f100) (by kernel_rfl) (by kernel_rfl) (by kernel_rfl) (by kernel_rfl) (pD_all fun a => (pE_all (fun hp => ?_)))
  dsimp only [conPre] at hp
  have hp := ratio_Check_pt a
  unfold ratio_Check_p at hp
  refine ⟨Nat.le_of_ble_eq_true rfl, L0, loopsOk0 _, ?_⟩
  · unfold bodyOf Tryz.f100
    try unfold ratio_Check
    simp only [go_sem, Nat.reduceBEq, Nat.reduceLeDiff, Nat.reduceLT, decide_true, Nat.reduceAdd, Nat.reduceSub, Nat.reduceMul, Int.reduceLE, Int.reduceLT, Int.reduceToNat, Int.reduceNeg, reduceCtorEq, C83]
    all_goals exact cl
def ratio_Cmp (a : Ratio) (b : Ratio) : Int × Int := (bif (((ratio_Check a) != 0) || ((ratio_Check b) != 0)) then (0, 120) else ((cmp_Compare_int (IntKind.i64.wrap (a.n * b.d)) (IntKind.i64.wrap (b.n * a.d))), 0))
@[go_sem] def C_ratio_Cmp : List SV → Option Con := (pD .ratio fun a => (pD .ratio fun b => (pE (.det True (.tup [.v (.int .i64 ((ratio_Cmp a b).1)), .v (.int .i64 ((ratio_Cmp a b).2))])))))
theorem ok_ratio_Cmp : FnOk Tryz.prog 99 C_ratio_Cmp := by
  have hG : ConsOk Tryz.prog (mkG [(67, C_cmp_Compare_int), (100, C_ratio_Check)] []) := mkG_ok (cgc ok_cmp_Compare_int (cgc ok_ratio_Check cg0)) cg0
  refine fn_okN [.o, .o] mixed ts_ok hG (fn := Tryz.f99) (c := bodyOf Tryz.f99) (by kernel_rfl) (by kernel_rfl) (by kernel_rfl) (by kernel_rfl) (pD_all fun a => (pD_all fun b => (pE_all (fun hp => ?_))))
  dsimp only [conPre] at hp
  refine ⟨Nat.le_of_ble_eq_true rfl, L0, loopsOk0 _, ?_⟩
  · unfold bodyOf Tryz.f99
    try unfold ratio_Cmp
    simp only [go_sem, Nat.reduceBEq, Nat.reduceLeDiff, Nat.reduceLT, decide_true, Nat.reduceAdd, Nat.reduceSub, Nat.reduceMul, Int.reduceLE, Int.reduceLT, Int.reduceToNat, Int.reduceNeg, reduceCtorEq]
    all_goals exact cl
def expand_demand (ok : Bool) (e : Int) : Unit := (bif (!ok) then default else ())
def expand_demand_ok (ok : Bool) (e : Int) : Bool := (bif (!ok) then false else true)
@[go_sem] def C_expand_demand : List SV → Option Con := (pB fun ok => (pI fun e => (pE (.may (expand_demand_ok ok e) (.tup []) (.iface 117 (.int .i64 e))))))
theorem ok_expand_demand : FnOk Tryz.prog 47 C_expand_demand := by
  have hG : ConsOk Tryz.prog (mkG [] []) := mkG_ok cg0 cg0
  refine fn_okN [] mixed ts_ok hG (fn := Tryz.f47) (c := bodyOf Tryz.f47) (by kernel_rfl) (by kernel_rfl) (by kernel_rfl) (by kernel_rfl) (pB_all fun ok => (pI_all fun e => (pE_all (fun hp => ?_))))
  dsimp only [conPre] at hp
  refine ⟨Nat.le_of_ble_eq_true rfl, L0, loopsOk0 _, ?_⟩
  · unfold bodyOf Tryz.f47
    try unfold expand_demand
    try unfold expand_demand_ok
    simp only [go_sem, Nat.reduceBEq, Nat.reduceLeDiff, Nat.reduceLT, decide_true, Nat.reduceAdd, Nat.reduceSub, Nat.reduceMul, Int.reduceLE, Int.reduceLT, Int.reduceToNat, Int.reduceNeg, reduceCtorEq]
    all_goals exact cl
@[go_sem] def expand_rising_l0 (l_ : List Int) (k_0 : Nat) (s_0 : Unit) : Unit ⊕ Unit := (bif (decide ((l_.getD (Int.toNat ((k_0 : Int) + 1)) (0 : Int)) < (l_.getD (Int.toNat (IntKind.i64.wrap (((k_0 : Int) + 1) - 1))) (0 : Int)))) then .inl () else .inr ())
def expand_rising_l0_p (l_ : List Int) (k_0 : Nat) (s_0 : Unit) : Prop := (l_.length ≤ maxL → ((0 ≤ ((k_0 : Int) + 1) ∧ ((k_0 : Int) + 1) < (l_.length : Int)) ∧ (0 ≤ (IntKind.i64.wrap (((k_0 : Int) + 1) - 1)) ∧ (IntKind.i64.wrap (((k_0 : Int) + 1) - 1)) < (l_.length : Int))))
def expand_rising (l_ : List Int) : Bool := (match runI (expand_rising_l0 l_) (l_.length - 1) 0 () with | .inl x_0_0 => false | .inr s_0 => true)
def expand_rising_p (l_ : List Int) : Prop := okI (expand_rising_l0 l_) (expand_rising_l0_p l_) (l_.length - 1) 0 ()
theorem expand_rising_pt (l_ : List Int) : expand_rising_p l_ := okI_all _ _ _ fun j s h1 h2 hm => by
  unfold maxL at hm
  rw [wrapI (by omega) (by omega)]
  omega
@[go_sem] def C_expand_rising : List SV → Option Con := (pR .int fun l_ => (pE (.det True (.v (.bool (expand_rising l_))))))
theorem ok_expand_rising : FnOk Tryz.prog 69 C_expand_rising := by
  have hG : ConsOk Tryz.prog (mkG [] []) := mkG_ok cg0 cg0
  refine fn_okN [.o] mixed ts_ok hG (fn := Tryz.f69) (c := bodyOf Tryz.f69) (by kernel_rfl) (by kernel_rfl) (by kernel_rfl) (by kernel_rfl) (pR_all fun l_ => (pE_all (fun hp => ?_)))
  dsimp only [conPre] at hp
  have hp := expand_rising_pt l_
  unfold expand_rising_p at hp
  refine ⟨Nat.le_of_ble_eq_true rfl, (fun id st => bif Nat.beq id 0 then some (LC (ρ := Unit) (σ := Unit) (lk 0 st.t = .rs .int l_ ∧ lk 3 st.t = .v (.int .i64 1) ∧ st.h = [] ∧ okI (expand_rising_l0 l_) (expand_rising_l0_p l_) (l_.length - 1) 0 ()) (runI (expand_rising_l0 l_) (l_.length - 1) 0 ()) (fun _ => .ret) (fun x_0_0 => ⟨[(2, .v (.bool false))], []⟩) (fun s_0 => ⟨[], []⟩)) else none), ?_, ?_⟩
  · unfold bodyOf Tryz.f69
    simp only [loopsOk, true_and, and_true]
    · refine count_okP mixed ts_ok hG (by kernel_rfl) fun st lc hC hp => ?_
      simp only [go_sem, Nat.reduceBEq, Option.some.injEq] at hC
      subst hC
      obtain ⟨t, h⟩ := st
      dsimp only [LC] at hp
      obtain ⟨e0_0, e0_1, rfl, hok0⟩ := hp
      refine ⟨_, _, _, (expand_rising_l0 l_), (expand_rising_l0_p l_), (l_.length - 1), (), _, _, _, (fun k_0 s_0 => ⟨[(0, .rs .int l_), (3, .v (.int .i64 ((k_0 : Int) + 1)))], []⟩), [], rfl, hok0, Nat.le_refl _, ?_, fun k_0 s_0 hk0 hp0 => ?_⟩
      · simp only [go_sem, Nat.reduceBEq, Nat.reduceLeDiff, Nat.reduceLT, decide_true, Nat.reduceAdd, Nat.reduceSub, Nat.reduceMul, Int.reduceLE, Int.reduceLT, Int.reduceToNat, Int.reduceNeg, reduceCtorEq, e0_0, e0_1]
        all_goals (first | done | decide | (repeat' (first | refine And.intro ?_ ?_ | rfl | decide)))
      refine ⟨L0, ?_, ?_⟩
      · simp only [loopsOk, and_self, true_and, and_true]
      · by_cases hb0 : l_.length ≤ maxL
        rotate_left
        · simp only [go_sem, Nat.reduceBEq, Nat.reduceLeDiff, Nat.reduceLT, decide_true, Nat.reduceAdd, Nat.reduceSub, Nat.reduceMul, Int.reduceLE, Int.reduceLT, Int.reduceToNat, Int.reduceNeg, reduceCtorEq, hb0]
        · by_cases hlt0 : k_0 < (l_.length - 1)
          · have hw0 : IntKind.i64.wrap (((k_0 : Nat) : Int) + 1 + 1) = ((k_0 + 1 : Nat) : Int) + 1 := by (have hbb := hb0; have hll := hlt0; try unfold maxL at hbb); rw [wrapI (by omega) (by omega)]; omega
            have hq0 := hp0 hlt0
            unfold expand_rising_l0_p at hq0
            replace hq0 := hq0 hb0
            try simp only [hw0, Int.toNat_natCast] at hq0
            have hc0 : decide (((k_0 : Int) + 1) < (l_.length : Int)) = true := by simp only [decide_eq_true_eq]; omega
            simp only [go_sem, Nat.reduceBEq, Nat.reduceLeDiff, Nat.reduceLT, decide_true, Nat.reduceAdd, Nat.reduceSub, Nat.reduceMul, Int.reduceLE, Int.reduceLT, Int.reduceToNat, Int.reduceNeg, reduceCtorEq, expand_rising_l0, hc0, hw0]
            all_goals exact cl
          · have hc0 : decide (((k_0 : Int) + 1) < (l_.length : Int)) = false := by simp only [decide_eq_false_iff_not]; omega
            simp only [go_sem, Nat.reduceBEq, Nat.reduceLeDiff, Nat.reduceLT, decide_true, Nat.reduceAdd, Nat.reduceSub, Nat.reduceMul, Int.reduceLE, Int.reduceLT, Int.reduceToNat, Int.reduceNeg, reduceCtorEq, hc0]
            all_goals exact cl2
  · unfold bodyOf Tryz.f69
    try unfold expand_rising
    simp only [go_sem, Nat.reduceBEq, Nat.reduceLeDiff, Nat.reduceLT, decide_true, Nat.reduceAdd, Nat.reduceSub, Nat.reduceMul, Int.reduceLE, Int.reduceLT, Int.reduceToNat, Int.reduceNeg, reduceCtorEq]
    all_goals exact cl
def expand_index (i : Int) (n : Int) : Bool := ((decide (i ≥ 0)) && (decide (i < n)))
@[go_sem] def C_expand_index : List SV → Option Con := (pI fun i => (pI fun n => (pE (.det True (.v (.bool (expand_index i n)))))))
theorem ok_expand_index : FnOk Tryz.prog 71 C_expand_index := by
  have hG : ConsOk Tryz.prog (mkG [] []) := mkG_ok cg0 cg0
  refine fn_okN [.o] mixed ts_ok hG (fn := Tryz.f71) (c := bodyOf Tryz.f71) (by kernel_rfl) (by kernel_rfl) (by kernel_rfl) (by kernel_rfl) (pI_all fun i => (pI_all fun n => (pE_all (fun hp => ?_))))
  dsimp only [conPre] at hp
  refine ⟨Nat.le_of_ble_eq_true rfl, L0, loopsOk0 _, ?_⟩
  · unfold bodyOf Tryz.f71
    try unfold expand_index
    simp only [go_sem, Nat.reduceBEq, Nat.reduceLeDiff, Nat.reduceLT, decide_true, Nat.reduceAdd, Nat.reduceSub, Nat.reduceMul, Int.reduceLE, Int.reduceLT, Int.reduceToNat, Int.reduceNeg, reduceCtorEq]
    all_goals exact cl
def expand_share (x : Ratio × Ratio) : Bool := (((((ratio_Cmp x.1 x.2).2 == 0) && (decide (x.1.n ≥ 0))) && (decide ((ratio_Cmp x.1 x.2).1 ≤ 0))) && (decide (x.2.n ≤ x.2.d)))
@[go_sem] def C_expand_share : List SV → Option Con := (pD .ratio2 fun x => (pE (.det True (.v (.bool (expand_share x))))))
theorem ok_expand_share : FnOk Tryz.prog 94 C_expand_share := by
  have hG : ConsOk Tryz.prog (mkG [(99, C_ratio_Cmp)] []) := mkG_ok (cgc ok_ratio_Cmp cg0) cg0
  refine fn_okN [.o] mixed ts_ok hG (fn := Tryz.f94) (c := bodyOf Tryz.f94) (by kernel_rfl) (by kernel_rfl) (by kernel_rfl) (by kernel_rfl) (pD_all fun x => (pE_all (fun hp => ?_)))
  dsimp only [conPre] at hp
  refine ⟨Nat.le_of_ble_eq_true rfl, L0, loopsOk0 _, ?_⟩
  · unfold bodyOf Tryz.f94
    try unfold expand_share
    simp only [go_sem, Nat.reduceBEq, Nat.reduceLeDiff, Nat.reduceLT, decide_true, Nat.reduceAdd, Nat.reduceSub, Nat.reduceMul, Int.reduceLE, Int.reduceLT, Int.reduceToNat, Int.reduceNeg, reduceCtorEq]
    all_goals exact cl
def expand_reach (i : Int) (x : Reach) : Bool := (bif (decide (i > 0)) then ((((((expand_index x.up i) && (expand_rising ([1, x.delay, 16]))) && (expand_rising ([0, x.siphon, x.cap, 1073741824]))) && (expand_rising ([0, x.siphon, x.bank, 1099511627776]))) && (expand_rising ([0, x.evap.lo, x.evap.hi, 1073741824]))) && (expand_share x.seep)) else ((((((x.up == (-1)) && (expand_rising ([1, x.delay, 16]))) && (expand_rising ([0, x.siphon, x.cap, 1073741824]))) && (expand_rising ([0, x.siphon, x.bank, 1099511627776]))) && (expand_rising ([0, x.evap.lo, x.evap.hi, 1073741824]))) && (expand_share x.seep)))
@[go_sem] def C_expand_reach : List SV → Option Con := (pI fun i => (pD .reach fun x => (pE (.det True (.v (.bool (expand_reach i x)))))))
theorem ok_expand_reach : FnOk Tryz.prog 70 C_expand_reach := by
  have hG : ConsOk Tryz.prog (mkG [(69, fun l => C_expand_rising (nrmA [.sl .int] l)), (71, C_expand_index), (94, C_expand_share)] []) := mkG_ok (cgc (ok_expand_rising.norm [.sl .int]) (cgc ok_expand_index (cgc ok_expand_share cg0))) cg0
  refine fn_okN [.o] mixed ts_ok hG (fn := Tryz.f70) (c := bodyOf Tryz.f70) (by kernel_rfl) (by kernel_rfl) (by kernel_rfl) (by kernel_rfl) (pI_all fun i => (pD_all fun x => (pE_all (fun hp => ?_))))
  dsimp only [conPre] at hp
  refine ⟨Nat.le_of_ble_eq_true rfl, L0, loopsOk0 _, ?_⟩
  · unfold bodyOf Tryz.f70
    try unfold expand_reach
    simp only [go_sem, Nat.reduceBEq, Nat.reduceLeDiff, Nat.reduceLT, decide_true, Nat.reduceAdd, Nat.reduceSub, Nat.reduceMul, Int.reduceLE, Int.reduceLT, Int.reduceToNat, Int.reduceNeg, reduceCtorEq]
    all_goals exact cl
def expand_right (a0 : District) (a1 : Right) : Bool := (bif (((!(expand_index a1.farm (a0.farms.length : Int))) || (!(expand_index a1.reach (a0.reaches.length : Int)))) || (!(expand_rising ([0, a1.since, a1.to, (IntKind.i64.wrap (a0.hours - 1))])))) then false else (bif (a1.kind == 1) then ((((a1.reach == 0) && (expand_rising ([0, a1.rank, 1048576]))) && (expand_rising ([1, a1.litres, 1073741824]))) && (expand_rising ([1, a1.length, a1.every, a0.hours]))) else (bif (a1.kind == 2) then ((a1.name == a1.name) && ((a1.kind == a1.kind) && ((a1.farm == a1.farm) && ((a1.reach == a1.reach) && ((a1.rank == 0) && ((a1.litres == 0) && ((a1.since == 0) && ((a1.to == (IntKind.i64.wrap (a0.hours - 1))) && ((a1.every == 0) && (a1.length == 0)))))))))) else (bif (a1.kind == 3) then ((a1.name == a1.name) && ((a1.kind == a1.kind) && ((a1.farm == a1.farm) && ((a1.reach == a1.reach) && ((a1.rank == 0) && ((a1.litres == 0) && ((a1.since == a1.since) && ((a1.to == a1.to) && ((a1.every == 0) && (a1.length == 0)))))))))) else false))))
@[go_sem] def C_expand_right : List SV → Option Con := (pD .district fun a0 => (pD .right fun a1 => (pE (.det True (.v (.bool (expand_right a0 a1)))))))
theorem ok_expand_right : FnOk Tryz.prog 72 C_expand_right := by
  have hG : ConsOk Tryz.prog (mkG [(69, fun l => C_expand_rising (nrmA [.sl .int] l)), (71, C_expand_index)] []) := mkG_ok (cgc (ok_expand_rising.norm [.sl .int]) (cgc ok_expand_index cg0)) cg0
  refine fn_okN [.o] mixed ts_ok hG (fn := Tryz.f72) (c := bodyOf Tryz.f72) (by kernel_rfl) (by kernel_rfl) (by kernel_rfl) (by kernel_rfl) (pD_all fun a0 => (pD_all fun a1 => (pE_all (fun hp => ?_))))
  dsimp only [conPre] at hp
  refine ⟨Nat.le_of_ble_eq_true rfl, L0, loopsOk0 _, ?_⟩
  · unfold bodyOf Tryz.f72
    try unfold expand_right
    simp only [go_sem, Nat.reduceBEq, Nat.reduceLeDiff, Nat.reduceLT, decide_true, Nat.reduceAdd, Nat.reduceSub, Nat.reduceMul, Int.reduceLE, Int.reduceLT, Int.reduceToNat, Int.reduceNeg, reduceCtorEq]
    all_goals exact cl
@[go_sem] def expand_examine_l0 (a0 : District) (a1 : Int) (k_0 : Nat) (s_0 : Unit) : Unit ⊕ Unit := (bif (expand_demand_ok (expand_reach (k_0 : Int) (a0.reaches.getD k_0 (default : Reach))) a1) then .inr () else .inl ())
@[go_sem] def expand_examine_l1 (a0 : District) (a1 : Int) (k_1 : Nat) (s_1 : Unit) : Unit ⊕ Unit := (bif (expand_demand_ok (expand_rising ([0, (a0.crops.getD k_1 (default : Crop)).need, 1048576])) a1) then .inr () else .inl ())
@[go_sem] def expand_examine_l2 (a0 : District) (a1 : Int) (k_2 : Nat) (s_2 : Unit) : Unit ⊕ Unit := (bif (decide ((a0.farms.getD k_2 (default : Farm)).area > 0)) then (bif (expand_demand_ok (((expand_index ((a0.farms.getD k_2 (default : Farm)).crop) (a0.crops.length : Int)) && (expand_index ((a0.farms.getD k_2 (default : Farm)).reach) (a0.reaches.length : Int))) && (expand_rising ([0, (a0.farms.getD k_2 (default : Farm)).area, 1048576]))) a1) then .inr () else .inl ()) else (bif (expand_demand_ok ((((a0.farms.getD k_2 (default : Farm)).crop == (-1)) && (expand_index ((a0.farms.getD k_2 (default : Farm)).reach) (a0.reaches.length : Int))) && (expand_rising ([0, (a0.farms.getD k_2 (default : Farm)).area, 1048576]))) a1) then .inr () else .inl ()))
@[go_sem] def expand_examine_l3 (a0 : District) (a1 : Int) (k_3 : Nat) (s_3 : Unit) : Unit ⊕ Unit := (bif (expand_demand_ok (expand_right a0 (a0.rights.getD k_3 (default : Right))) a1) then .inr () else .inl ())
@[go_sem] def expand_examine_l4 (a0 : District) (a1 : Int) (k_4 : Nat) (s_4 : Unit) : Unit ⊕ Unit := (bif (expand_demand_ok (((expand_index ((a0.duties.getD k_4 (default : Duty)).farm) (a0.farms.length : Int)) && (expand_index ((a0.duties.getD k_4 (default : Duty)).reach) (a0.reaches.length : Int))) && (expand_rising ([0, (a0.duties.getD k_4 (default : Duty)).due, a0.hours]))) a1) then .inr () else .inl ())
def expand_examine (a0 : District) (a1 : Int) : Unit := (bif (expand_demand_ok (((expand_rising ([1, a0.hours, 4096])) && (expand_rising ([0, a0.tank.start, a0.tank.cap, 1099511627776]))) && (decide ((a0.reaches.length : Int) > 0))) a1) then (match runI (expand_examine_l0 a0 a1) a0.reaches.length 0 () with | .inl x_0_0 => default | .inr s_0 => (match runI (expand_examine_l1 a0 a1) a0.crops.length 0 () with | .inl x_1_0 => default | .inr s_1 => (match runI (expand_examine_l2 a0 a1) a0.farms.length 0 () with | .inl x_2_0 => default | .inr s_2 => (match runI (expand_examine_l3 a0 a1) a0.rights.length 0 () with | .inl x_3_0 => default | .inr s_3 => (match runI (expand_examine_l4 a0 a1) a0.duties.length 0 () with | .inl x_4_0 => default | .inr s_4 => ()))))) else default)
def expand_examine_ok (a0 : District) (a1 : Int) : Bool := (bif (expand_demand_ok (((expand_rising ([1, a0.hours, 4096])) && (expand_rising ([0, a0.tank.start, a0.tank.cap, 1099511627776]))) && (decide ((a0.reaches.length : Int) > 0))) a1) then (match runI (expand_examine_l0 a0 a1) a0.reaches.length 0 () with | .inl x_0_0 => false | .inr s_0 => (match runI (expand_examine_l1 a0 a1) a0.crops.length 0 () with | .inl x_1_0 => false | .inr s_1 => (match runI (expand_examine_l2 a0 a1) a0.farms.length 0 () with | .inl x_2_0 => false | .inr s_2 => (match runI (expand_examine_l3 a0 a1) a0.rights.length 0 () with | .inl x_3_0 => false | .inr s_3 => (match runI (expand_examine_l4 a0 a1) a0.duties.length 0 () with | .inl x_4_0 => false | .inr s_4 => true))))) else false)
@[go_sem] def C_expand_examine : List SV → Option Con := (pD .district fun a0 => (pI fun a1 => (pE (.may (expand_examine_ok a0 a1) (.tup []) (.iface 117 (.int .i64 a1))))))
theorem ok_expand_examine : FnOk Tryz.prog 48 C_expand_examine := by
  have hG : ConsOk Tryz.prog (mkG [(47, C_expand_demand), (69, fun l => C_expand_rising (nrmA [.sl .int] l)), (70, C_expand_reach), (71, C_expand_index), (72, fun l => C_expand_right (nrmA [.st .district, .st .right] l))] []) := mkG_ok (cgc ok_expand_demand (cgc (ok_expand_rising.norm [.sl .int]) (cgc ok_expand_reach (cgc ok_expand_index (cgc (ok_expand_right.norm [.st .district, .st .right]) cg0))))) cg0
  refine fn_okN [] mixed ts_ok hG (fn := Tryz.f48) (c := bodyOf Tryz.f48) (by kernel_rfl) (by kernel_rfl) (by kernel_rfl) (by kernel_rfl) (pD_all fun a0 => (pI_all fun a1 => (pE_all (fun hp => ?_))))
  dsimp only [conPre] at hp
  refine ⟨Nat.le_of_ble_eq_true rfl, (fun id st => bif Nat.beq id 0 then some (LCR (ρ := Unit) (σ := Unit) 1 [] [0] (fun k_0 s_0 => ⟨[(1, .v (.int .i64 a1)), (2, .ptr 0 0), (38, .rs .reach a0.reaches), (39, .v (.int .i64 (a0.reaches.length : Int))), (40, .v (.int .i64 (k_0 : Int)))], [.cells (cellsOf .district a0)]⟩) (expand_examine_l0 a0 a1) pT a0.reaches.length () (a0.reaches.length ≤ maxL) (fun _ => .pan (.iface 117 (.int .i64 a1))) (fun x_0_0 => ⟨[], [.dead]⟩) st) else bif Nat.beq id 2 then some (LCR (ρ := Unit) (σ := Unit) 1 [] [0] (fun k_1 s_1 => ⟨[(1, .v (.int .i64 a1)), (2, .ptr 0 0), (52, .rs .crop a0.crops), (53, .v (.int .i64 (a0.crops.length : Int))), (54, .v (.int .i64 (k_1 : Int)))], [.cells (cellsOf .district a0)]⟩) (expand_examine_l1 a0 a1) pT a0.crops.length () (a0.crops.length ≤ maxL) (fun _ => .pan (.iface 117 (.int .i64 a1))) (fun x_1_0 => ⟨[], [.dead]⟩) st) else bif Nat.beq id 4 then some (LCR (ρ := Unit) (σ := Unit) 1 [] [0] (fun k_2 s_2 => ⟨[(1, .v (.int .i64 a1)), (2, .ptr 0 0), (66, .rs .farm a0.farms), (67, .v (.int .i64 (a0.farms.length : Int))), (68, .v (.int .i64 (k_2 : Int)))], [.cells (cellsOf .district a0)]⟩) (expand_examine_l2 a0 a1) pT a0.farms.length () (a0.farms.length ≤ maxL) (fun _ => .pan (.iface 117 (.int .i64 a1))) (fun x_2_0 => ⟨[], [.dead]⟩) st) else bif Nat.beq id 6 then some (LCR (ρ := Unit) (σ := Unit) 1 [] [0] (fun k_3 s_3 => ⟨[(1, .v (.int .i64 a1)), (2, .ptr 0 0), (103, .rs .right a0.rights), (104, .v (.int .i64 (a0.rights.length : Int))), (105, .v (.int .i64 (k_3 : Int)))], [.cells (cellsOf .district a0)]⟩) (expand_examine_l3 a0 a1) pT a0.rights.length () (a0.rights.length ≤ maxL) (fun _ => .pan (.iface 117 (.int .i64 a1))) (fun x_3_0 => ⟨[], [.dead]⟩) st) else bif Nat.beq id 8 then some (LCR (ρ := Unit) (σ := Unit) 1 [] [0] (fun k_4 s_4 => ⟨[(1, .v (.int .i64 a1)), (2, .ptr 0 0), (116, .rs .duty a0.duties), (117, .v (.int .i64 (a0.duties.length : Int))), (118, .v (.int .i64 (k_4 : Int)))], [.cells (cellsOf .district a0)]⟩) (expand_examine_l4 a0 a1) pT a0.duties.length () (a0.duties.length ≤ maxL) (fun _ => .pan (.iface 117 (.int .i64 a1))) (fun x_4_0 => ⟨[], [.dead]⟩) st) else none), ?_, ?_⟩
  · unfold bodyOf Tryz.f48
    simp only [loopsOk, true_and, and_true]
    refine ⟨?_, ?_, ?_, ?_, ?_⟩
    · refine loopR_ok mixed ts_ok hG (by kernel_rfl) (fun _ => rfl) (a0.reaches.length : Int) rfl lenB (fun hb0 k_0 s_0 hlt0 _ hw hc => ⟨L0, loopsOk0 _, ?_⟩) (fun hb0 s_0 hc => ?_)
      · exact exSxR1_0
      · exact ezSxR1_0
    · refine loopR_ok mixed ts_ok hG (by kernel_rfl) (fun _ => rfl) (a0.crops.length : Int) rfl lenB (fun hb1 k_1 s_1 hlt1 _ hw hc => ⟨L0, loopsOk0 _, ?_⟩) (fun hb1 s_1 hc => ?_)
      · exact exSxR1_0
      · exact ezSxR1_0
    · refine loopR_ok mixed ts_ok hG (by kernel_rfl) (fun _ => rfl) (a0.farms.length : Int) rfl lenB (fun hb2 k_2 s_2 hlt2 _ hw hc => ⟨L0, loopsOk0 _, ?_⟩) (fun hb2 s_2 hc => ?_)
      · exact exSxR1_0
      · exact ezSxR1_0
    · refine loopR_ok mixed ts_ok hG (by kernel_rfl) (fun _ => rfl) (a0.rights.length : Int) rfl lenB (fun hb3 k_3 s_3 hlt3 _ hw hc => ⟨L0, loopsOk0 _, ?_⟩) (fun hb3 s_3 hc => ?_)
      · exact exSxR1_0
      · exact ezSxR1_0
    · refine loopR_ok mixed ts_ok hG (by kernel_rfl) (fun _ => rfl) (a0.duties.length : Int) rfl lenB (fun hb4 k_4 s_4 hlt4 _ hw hc => ⟨L0, loopsOk0 _, ?_⟩) (fun hb4 s_4 hc => ?_)
      · exact exSxR1_0
      · exact ezSxR1_0
  · unfold bodyOf Tryz.f48
    try unfold expand_examine
    try unfold expand_examine_ok
    simp only [go_sem, Nat.reduceBEq, Nat.reduceLeDiff, Nat.reduceLT, decide_true, Nat.reduceAdd, Nat.reduceSub, Nat.reduceMul, Int.reduceLE, Int.reduceLT, Int.reduceToNat, Int.reduceNeg, reduceCtorEq]
    all_goals exact cl
def expand_Check (d : District) : Int := (bif (expand_demand_ok (((((decide ((d.reaches.length : Int) ≤ 64)) && (decide ((d.farms.length : Int) ≤ 600))) && (decide ((d.crops.length : Int) ≤ 32))) && (decide ((d.rights.length : Int) ≤ 256))) && (decide ((d.duties.length : Int) ≤ 256))) 2) then (bif (expand_examine_ok d 191) then 0 else 191) else 2)
@[go_sem] def C_expand_Check : List SV → Option Con := (pD .district fun d => (pE (.det True (.v (.int .i64 (expand_Check d))))))
theorem ok_expand_Check : FnOk Tryz.prog 27 C_expand_Check := by
  have hG : ConsOk Tryz.prog (mkG [(47, C_expand_demand), (48, fun l => C_expand_examine (nrmA [.st .district, .o] l))] []) := mkG_ok (cgc ok_expand_demand (cgc (ok_expand_examine.norm [.st .district, .o]) cg0)) cg0
  refine fn_rec rec36_ok [.o] mixed ts_ok hG (fn := Tryz.f27) (c0 := seqL (bodyOf Tryz.f27)) (c1 := seqR (seqR (bodyOf Tryz.f27))) (i1 := regI (seqL (seqR (bodyOf Tryz.f27)))) (o1 := regO 0 (seqL (seqR (bodyOf Tryz.f27)))) (o2 := regO 1 (seqL (seqR (bodyOf Tryz.f27)))) (t3 := 3) (q := 2) (tys := #[]) (by kernel_rfl) (by kernel_rfl) (by kernel_rfl) (by refine ⟨?_, ?_, ?_⟩ <;> kernel_rfl) (by refine ⟨?_, ?_, ?_⟩ <;> kernel_rfl) (Nat.le_of_ble_eq_true rfl) (by kernel_rfl) (by kernel_rfl) (pD_all fun d => (pE_all (fun hp => ?_)))
  dsimp only [conPre] at hp
  refine ⟨Nat.le_of_ble_eq_true rfl, L0, L0, 1, ?_, ?_, ?_⟩
  · unfold bodyOf Tryz.f27
    simp only [seqL, loopsOk, and_self, true_and, and_true]
  · unfold bodyOf Tryz.f27
    simp only [seqR]
    simp only [loopsOk, and_self, true_and, and_true]
  · unfold bodyOf Tryz.f27
    try unfold expand_Check
    simp only [go_sem, Nat.reduceBEq, Nat.reduceLeDiff, Nat.reduceLT, decide_true, Nat.reduceAdd, Nat.reduceSub, Nat.reduceMul, Int.reduceLE, Int.reduceLT, Int.reduceToNat, Int.reduceNeg, reduceCtorEq, seqL, seqR, RC36]
    all_goals exact cl
def routing_compare_1 (x : Order) : Int := x.hour
@[go_sem] def C_routing_compare_1 : List SV → Option Con := (pD .order fun x => (pE (.det True (.v (.int .i64 (routing_compare_1 x))))))
theorem ok_routing_compare_1 : FnOk Tryz.prog 40 C_routing_compare_1 := by
  have hG : ConsOk Tryz.prog (mkG [] []) := mkG_ok cg0 cg0
  refine fn_okN [.o] mixed ts_ok hG (fn := Tryz.f40) (c := bodyOf Tryz.f40) (by kernel_rfl) (by kernel_rfl) (by kernel_rfl) (by kernel_rfl) (pD_all fun x => (pE_all (fun hp => ?_)))
  dsimp only [conPre] at hp
  refine ⟨Nat.le_of_ble_eq_true rfl, L0, loopsOk0 _, ?_⟩
  · unfold bodyOf Tryz.f40
    try unfold routing_compare_1
    simp only [go_sem, Nat.reduceBEq, Nat.reduceLeDiff, Nat.reduceLT, decide_true, Nat.reduceAdd, Nat.reduceSub, Nat.reduceMul, Int.reduceLE, Int.reduceLT, Int.reduceToNat, Int.reduceNeg, reduceCtorEq]
    all_goals exact cl
def routing_outlet (x : Order) : Int := (bif x.outlet then 1 else 0)
@[go_sem] def C_routing_outlet : List SV → Option Con := (pD .order fun x => (pE (.det True (.v (.int .i64 (routing_outlet x))))))
theorem ok_routing_outlet : FnOk Tryz.prog 41 C_routing_outlet := by
  have hG : ConsOk Tryz.prog (mkG [] []) := mkG_ok cg0 cg0
  refine fn_okN [.o] mixed ts_ok hG (fn := Tryz.f41) (c := bodyOf Tryz.f41) (by kernel_rfl) (by kernel_rfl) (by kernel_rfl) (by kernel_rfl) (pD_all fun x => (pE_all (fun hp => ?_)))
  dsimp only [conPre] at hp
  refine ⟨Nat.le_of_ble_eq_true rfl, L0, loopsOk0 _, ?_⟩
  · unfold bodyOf Tryz.f41
    try unfold routing_outlet
    simp only [go_sem, Nat.reduceBEq, Nat.reduceLeDiff, Nat.reduceLT, decide_true, Nat.reduceAdd, Nat.reduceSub, Nat.reduceMul, Int.reduceLE, Int.reduceLT, Int.reduceToNat, Int.reduceNeg, reduceCtorEq]
    all_goals exact cl
def routing_compare_2 (x : Order) : Int := x.index
@[go_sem] def C_routing_compare_2 : List SV → Option Con := (pD .order fun x => (pE (.det True (.v (.int .i64 (routing_compare_2 x))))))
theorem ok_routing_compare_2 : FnOk Tryz.prog 42 C_routing_compare_2 := by
  have hG : ConsOk Tryz.prog (mkG [] []) := mkG_ok cg0 cg0
  refine fn_okN [.o] mixed ts_ok hG (fn := Tryz.f42) (c := bodyOf Tryz.f42) (by kernel_rfl) (by kernel_rfl) (by kernel_rfl) (by kernel_rfl) (pD_all fun x => (pE_all (fun hp => ?_)))
  dsimp only [conPre] at hp
  refine ⟨Nat.le_of_ble_eq_true rfl, L0, loopsOk0 _, ?_⟩
  · unfold bodyOf Tryz.f42
    try unfold routing_compare_2
    simp only [go_sem, Nat.reduceBEq, Nat.reduceLeDiff, Nat.reduceLT, decide_true, Nat.reduceAdd, Nat.reduceSub, Nat.reduceMul, Int.reduceLE, Int.reduceLT, Int.reduceToNat, Int.reduceNeg, reduceCtorEq]
    all_goals exact cl
end Go.Sx
end
section
namespace Go.Sx
open Go.Proofs
set_option maxRecDepth 100000
set_option linter.unusedSimpArgs false
theorem crSxR2_0 {p : Prop} (h : p := by (first | done | (repeat' (first | with_reducible refine And.intro ?_ ?_ | ((with_reducible show _ ≠ _); first | assumption | omega | (simp_all [outR, outL]; done) | grind) | with_reducible intro _)) <;> (first | done | exact Empty.elim ‹Empty› | assumption | rfl | omega | decide | exact fk [] | exact czl | (simp only [*, cond_true, cond_false, Bool.not_true, Bool.not_false, go_sem, Nat.reduceBEq, Nat.reduceLeDiff, Nat.reduceLT, decide_true, Nat.reduceAdd, Nat.reduceSub, Nat.reduceMul, Int.reduceLE, Int.reduceLT, Int.reduceToNat, Int.reduceNeg, reduceCtorEq]; (repeat' (first | with_reducible refine And.intro ?_ ?_ | ((with_reducible show _ ≠ _); first | assumption | omega | (simp_all [outR, outL]; done) | grind) | with_reducible intro _)) <;> (first | done | assumption | rfl | omega | decide | exact fk [] | (simp_all [outR, outL]; done))) | (simp_all [okI, outR, outL]; done) | (simp_all [outR, outL]; (first | done | exact fk2 [])) | exact fk2 []))) : p := h
theorem evSxR2_0 {p : Prop} (h : p := by simp only [go_sem, Nat.reduceBEq, Nat.reduceLeDiff, Nat.reduceLT, decide_true, Nat.reduceAdd, Nat.reduceSub, Nat.reduceMul, Int.reduceLE, Int.reduceLT, Int.reduceToNat, Int.reduceNeg, reduceCtorEq]; all_goals exact crSxR2_0) : p := h
def losses_ordered (x : Range) (most : Int) : Bool := (((decide (x.lo ≥ 0)) && (decide (x.lo ≤ x.hi))) && (decide (x.hi ≤ most)))
@[go_sem] def C_losses_ordered : List SV → Option Con := (pD .range fun x => (pI fun most => (pE (.det True (.v (.bool (losses_ordered x most)))))))
theorem ok_losses_ordered : FnOk Tryz.prog 81 C_losses_ordered := by
  have hG : ConsOk Tryz.prog (mkG [] []) := mkG_ok cg0 cg0
  refine fn_okN [.o] mixed ts_ok hG (fn := Tryz.f81) (c := bodyOf Tryz.f81) (by kernel_rfl) (by kernel_rfl) (by kernel_rfl) (by kernel_rfl) (pD_all fun x => (pI_all fun most => (pE_all (fun hp => ?_))))
  dsimp only [conPre] at hp
  refine ⟨Nat.le_of_ble_eq_true rfl, L0, loopsOk0 _, ?_⟩
  · unfold bodyOf Tryz.f81
    try unfold losses_ordered
    simp only [go_sem, Nat.reduceBEq, Nat.reduceLeDiff, Nat.reduceLT, decide_true, Nat.reduceAdd, Nat.reduceSub, Nat.reduceMul, Int.reduceLE, Int.reduceLT, Int.reduceToNat, Int.reduceNeg, reduceCtorEq]
    all_goals exact cl
def losses_in (n : Int) (lo : Int) (hi : Int) : Bool := ((decide (n ≥ lo)) && (decide (n ≤ hi)))
@[go_sem] def C_losses_in : List SV → Option Con := (pI fun n => (pI fun lo => (pI fun hi => (pE (.det True (.v (.bool (losses_in n lo hi))))))))
theorem ok_losses_in : FnOk Tryz.prog 83 C_losses_in := by
  have hG : ConsOk Tryz.prog (mkG [] []) := mkG_ok cg0 cg0
  refine fn_okN [.o] mixed ts_ok hG (fn := Tryz.f83) (c := bodyOf Tryz.f83) (by kernel_rfl) (by kernel_rfl) (by kernel_rfl) (by kernel_rfl) (pI_all fun n => (pI_all fun lo => (pI_all fun hi => (pE_all (fun hp => ?_)))))
  dsimp only [conPre] at hp
  refine ⟨Nat.le_of_ble_eq_true rfl, L0, loopsOk0 _, ?_⟩
  · unfold bodyOf Tryz.f83
    try unfold losses_in
    simp only [go_sem, Nat.reduceBEq, Nat.reduceLeDiff, Nat.reduceLT, decide_true, Nat.reduceAdd, Nat.reduceSub, Nat.reduceMul, Int.reduceLE, Int.reduceLT, Int.reduceToNat, Int.reduceNeg, reduceCtorEq]
    all_goals exact cl
def losses_share (a : Ratio) : Bool := (((ratio_Check a) == 0) && (losses_in a.n 0 a.d))
@[go_sem] def C_losses_share : List SV → Option Con := (pD .ratio fun a => (pE (.det True (.v (.bool (losses_share a))))))
theorem ok_losses_share : FnOk Tryz.prog 98 C_losses_share := by
  have hG : ConsOk Tryz.prog (mkG [(83, C_losses_in), (100, C_ratio_Check)] []) := mkG_ok (cgc ok_losses_in (cgc ok_ratio_Check cg0)) cg0
  refine fn_okN [.o] mixed ts_ok hG (fn := Tryz.f98) (c := bodyOf Tryz.f98) (by kernel_rfl) (by kernel_rfl) (by kernel_rfl) (by kernel_rfl) (pD_all fun a => (pE_all (fun hp => ?_)))
  dsimp only [conPre] at hp
  refine ⟨Nat.le_of_ble_eq_true rfl, L0, loopsOk0 _, ?_⟩
  · unfold bodyOf Tryz.f98
    try unfold losses_share
    simp only [go_sem, Nat.reduceBEq, Nat.reduceLeDiff, Nat.reduceLT, decide_true, Nat.reduceAdd, Nat.reduceSub, Nat.reduceMul, Int.reduceLE, Int.reduceLT, Int.reduceToNat, Int.reduceNeg, reduceCtorEq]
    all_goals exact cl
def losses_shares (a : Ratio × Ratio) : Bool := (bif ((!(losses_share a.1)) || (!(losses_share a.2))) then false else (((ratio_Cmp a.1 a.2).2 == 0) && (decide ((ratio_Cmp a.1 a.2).1 ≤ 0))))
@[go_sem] def C_losses_shares : List SV → Option Con := (pD .ratio2 fun a => (pE (.det True (.v (.bool (losses_shares a))))))
theorem ok_losses_shares : FnOk Tryz.prog 82 C_losses_shares := by
  have hG : ConsOk Tryz.prog (mkG [(98, C_losses_share), (99, C_ratio_Cmp)] []) := mkG_ok (cgc ok_losses_share (cgc ok_ratio_Cmp cg0)) cg0
  refine fn_okN [.o] mixed ts_ok hG (fn := Tryz.f82) (c := bodyOf Tryz.f82) (by kernel_rfl) (by kernel_rfl) (by kernel_rfl) (by kernel_rfl) (pD_all fun a => (pE_all (fun hp => ?_)))
  dsimp only [conPre] at hp
  refine ⟨Nat.le_of_ble_eq_true rfl, L0, loopsOk0 _, ?_⟩
  · unfold bodyOf Tryz.f82
    try unfold losses_shares
    simp only [go_sem, Nat.reduceBEq, Nat.reduceLeDiff, Nat.reduceLT, decide_true, Nat.reduceAdd, Nat.reduceSub, Nat.reduceMul, Int.reduceLE, Int.reduceLT, Int.reduceToNat, Int.reduceNeg, reduceCtorEq]
    all_goals exact cl
def losses_valid (r : Reach) (n : Int) : Int := (bif ((!(losses_ordered r.evap 1073741824)) || (!(losses_shares r.seep))) then 210 else (bif (!(losses_in n 0 1073741824)) then 1 else 0))
@[go_sem] def C_losses_valid : List SV → Option Con := (pD .reach fun r => (pI fun n => (pE (.det True (.v (.int .i64 (losses_valid r n)))))))
theorem ok_losses_valid : FnOk Tryz.prog 52 C_losses_valid := by
  have hG : ConsOk Tryz.prog (mkG [(81, C_losses_ordered), (82, C_losses_shares), (83, C_losses_in)] []) := mkG_ok (cgc ok_losses_ordered (cgc ok_losses_shares (cgc ok_losses_in cg0))) cg0
  refine fn_okN [.o] mixed ts_ok hG (fn := Tryz.f52) (c := bodyOf Tryz.f52) (by kernel_rfl) (by kernel_rfl) (by kernel_rfl) (by kernel_rfl) (pD_all fun r => (pI_all fun n => (pE_all (fun hp => ?_))))
  dsimp only [conPre] at hp
  refine ⟨Nat.le_of_ble_eq_true rfl, L0, loopsOk0 _, ?_⟩
  · unfold bodyOf Tryz.f52
    try unfold losses_valid
    simp only [go_sem, Nat.reduceBEq, Nat.reduceLeDiff, Nat.reduceLT, decide_true, Nat.reduceAdd, Nat.reduceSub, Nat.reduceMul, Int.reduceLE, Int.reduceLT, Int.reduceToNat, Int.reduceNeg, reduceCtorEq]
    all_goals exact cl
def ratio_down (n : Int) (d : Int) : Int := (IntKind.i64.wrap (Int.tdiv (IntKind.i64.wrap (n - (Int.tmod (IntKind.i64.wrap ((Int.tmod n d) + d)) d))) d))
def ratio_down_p (n : Int) (d : Int) : Prop := (d ≠ 0 ∧ (d ≠ 0 ∧ d ≠ 0))
@[go_sem] def C_ratio_down : List SV → Option Con := (pI fun n => (pI fun d => (pE (.det (ratio_down_p n d) (.v (.int .i64 (ratio_down n d)))))))
theorem ok_ratio_down : FnOk Tryz.prog 101 C_ratio_down := by
  have hG : ConsOk Tryz.prog (mkG [] []) := mkG_ok cg0 cg0
  refine fn_okN [.o] mixed ts_ok hG (fn := Tryz.f101) (c := bodyOf Tryz.f101) (by kernel_rfl) (by kernel_rfl) (by kernel_rfl) (by kernel_rfl) (pI_all fun n => (pI_all fun d => (pE_all (fun hp => ?_))))
  dsimp only [conPre] at hp
  unfold ratio_down_p at hp
  refine ⟨Nat.le_of_ble_eq_true rfl, L0, loopsOk0 _, ?_⟩
  · unfold bodyOf Tryz.f101
    try unfold ratio_down
    simp only [go_sem, Nat.reduceBEq, Nat.reduceLeDiff, Nat.reduceLT, decide_true, Nat.reduceAdd, Nat.reduceSub, Nat.reduceMul, Int.reduceLE, Int.reduceLT, Int.reduceToNat, Int.reduceNeg, reduceCtorEq]
    all_goals exact cl
def ratio_Times (a : Ratio) (n : Int) : Int × Int × Int := (bif ((ratio_Check a) != 0) then (0, 0, (ratio_Check a)) else (bif ((decide (n < (-1073741824))) || (decide (n > 1073741824))) then (0, 0, 1) else ((ratio_down (IntKind.i64.wrap (a.n * n)) a.d), (IntKind.i64.wrap (0 - (ratio_down (IntKind.i64.wrap ((IntKind.i64.wrap (0 - a.n)) * n)) a.d))), 0)))
def ratio_Times_p (a : Ratio) (n : Int) : Prop := (((ratio_Check a) != 0) = false → (((decide (n < (-1073741824))) || (decide (n > 1073741824))) = false → ((ratio_down_p (IntKind.i64.wrap (a.n * n)) a.d) ∧ (ratio_down_p (IntKind.i64.wrap ((IntKind.i64.wrap (0 - a.n)) * n)) a.d))))
theorem ratio_Check_d {a : Ratio} (h : (ratio_Check a != 0) = false) : 1 ≤ a.d := by
  unfold ratio_Check at h
  by_cases hd : a.d < 1
  · simp [hd] at h
  · omega
theorem ratio_Times_pt (a : Ratio) (n : Int) : ratio_Times_p a n := fun h _ => by
  have := ratio_Check_d h
  exact ⟨⟨by omega, by omega, by omega⟩, ⟨by omega, by omega, by omega⟩⟩
@[go_sem] def C_ratio_Times : List SV → Option Con := (pD .ratio fun a => (pI fun n => (pE (.det True (.tup [.v (.int .i64 ((ratio_Times a n).1)), .v (.int .i64 ((ratio_Times a n).2.1)), .v (.int .i64 ((ratio_Times a n).2.2))])))))
theorem ok_ratio_Times : FnOk Tryz.prog 84 C_ratio_Times := by
  have hG : ConsOk Tryz.prog (mkG [(100, C_ratio_Check), (101, C_ratio_down)] []) := mkG_ok (cgc ok_ratio_Check (cgc ok_ratio_down cg0)) cg0
  refine fn_okN [.o, .o, .o] mixed ts_ok hG (fn := Tryz.f84) (c := bodyOf Tryz.f84) (by kernel_rfl) (by kernel_rfl) (by kernel_rfl) (by kernel_rfl) (pD_all fun a => (pI_all fun n => (pE_all (fun hp => ?_))))
  dsimp only [conPre] at hp
  have hp := ratio_Times_pt a n
  unfold ratio_Times_p at hp
  refine ⟨Nat.le_of_ble_eq_true rfl, L0, loopsOk0 _, ?_⟩
  · unfold bodyOf Tryz.f84
    try unfold ratio_Times
    simp only [go_sem, Nat.reduceBEq, Nat.reduceLeDiff, Nat.reduceLT, decide_true, Nat.reduceAdd, Nat.reduceSub, Nat.reduceMul, Int.reduceLE, Int.reduceLT, Int.reduceToNat, Int.reduceNeg, reduceCtorEq]
    all_goals exact cl
def losses_lost (r : Reach) (v : Int) : Range := (bif (v == 0) then ({ lo := 0, hi := 0 } : Range) else ({ lo := (if (IntKind.i64.wrap (r.evap.lo + (ratio_Times r.seep.1 v).1)) < v then (IntKind.i64.wrap (r.evap.lo + (ratio_Times r.seep.1 v).1)) else v), hi := (if (IntKind.i64.wrap (r.evap.hi + (ratio_Times r.seep.2 v).2.1)) < v then (IntKind.i64.wrap (r.evap.hi + (ratio_Times r.seep.2 v).2.1)) else v) } : Range))
@[go_sem] def C_losses_lost : List SV → Option Con := (pD .reach fun r => (pI fun v => (pE (.det True (.agg (cellsOf .range (losses_lost r v)))))))
theorem ok_losses_lost : FnOk Tryz.prog 53 C_losses_lost := by
  have hG : ConsOk Tryz.prog (mkG [(84, C_ratio_Times)] []) := mkG_ok (cgc ok_ratio_Times cg0) cg0
  refine fn_okN [.st .range] mixed ts_ok hG (fn := Tryz.f53) (c := bodyOf Tryz.f53) (by kernel_rfl) (by kernel_rfl) (by kernel_rfl) (by kernel_rfl) (pD_all fun r => (pI_all fun v => (pE_all (fun hp => ?_))))
  dsimp only [conPre] at hp
  refine ⟨Nat.le_of_ble_eq_true rfl, L0, loopsOk0 _, ?_⟩
  · unfold bodyOf Tryz.f53
    try unfold losses_lost
    simp only [go_sem, Nat.reduceBEq, Nat.reduceLeDiff, Nat.reduceLT, decide_true, Nat.reduceAdd, Nat.reduceSub, Nat.reduceMul, Int.reduceLE, Int.reduceLT, Int.reduceToNat, Int.reduceNeg, reduceCtorEq]
    all_goals exact cl
def losses_Worst (r : Reach) (v : Int) : Int × Int := (bif ((losses_valid r v) != 0) then (0, (losses_valid r v)) else ((IntKind.i64.wrap (v - (losses_lost r v).hi)), 0))
@[go_sem] def C_losses_Worst : List SV → Option Con := (pD .reach fun r => (pI fun v => (pE (.det True (.tup [.v (.int .i64 ((losses_Worst r v).1)), .v (.int .i64 ((losses_Worst r v).2))])))))
theorem ok_losses_Worst : FnOk Tryz.prog 33 C_losses_Worst := by
  have hG : ConsOk Tryz.prog (mkG [(52, C_losses_valid), (53, C_losses_lost)] []) := mkG_ok (cgc ok_losses_valid (cgc ok_losses_lost cg0)) cg0
  refine fn_okN [.o, .o] mixed ts_ok hG (fn := Tryz.f33) (c := bodyOf Tryz.f33) (by kernel_rfl) (by kernel_rfl) (by kernel_rfl) (by kernel_rfl) (pD_all fun r => (pI_all fun v => (pE_all (fun hp => ?_))))
  dsimp only [conPre] at hp
  refine ⟨Nat.le_of_ble_eq_true rfl, L0, loopsOk0 _, ?_⟩
  · unfold bodyOf Tryz.f33
    try unfold losses_Worst
    simp only [go_sem, Nat.reduceBEq, Nat.reduceLeDiff, Nat.reduceLT, decide_true, Nat.reduceAdd, Nat.reduceSub, Nat.reduceMul, Int.reduceLE, Int.reduceLT, Int.reduceToNat, Int.reduceNeg, reduceCtorEq]
    all_goals exact cl
def losses_Need_1 (v : Int) (r : Reach) : Int := (IntKind.i64.wrap (v - (losses_lost r v).hi))
@[go_sem] def C_losses_Need_1 : List SV → Option Con := (pI fun v => (pX .reach fun r => (pE (.det True (.v (.int .i64 (losses_Need_1 v r)))))))
theorem ok_losses_Need_1 : FnOk Tryz.prog 55 C_losses_Need_1 := by
  have hG : ConsOk Tryz.prog (mkG [(53, C_losses_lost)] []) := mkG_ok (cgc ok_losses_lost cg0) cg0
  refine fn_okN [.o] mixed ts_ok hG (fn := Tryz.f55) (c := bodyOf Tryz.f55) (by kernel_rfl) (by kernel_rfl) (by kernel_rfl) (by kernel_rfl) (pI_all fun v => (pX_all fun r => (pE_all (fun hp => ?_))))
  dsimp only [conPre] at hp
  refine ⟨Nat.le_of_ble_eq_true rfl, L0, loopsOk0 _, ?_⟩
  · unfold bodyOf Tryz.f55
    try unfold losses_Need_1
    simp only [go_sem, Nat.reduceBEq, Nat.reduceLeDiff, Nat.reduceLT, decide_true, Nat.reduceAdd, Nat.reduceSub, Nat.reduceMul, Int.reduceLE, Int.reduceLT, Int.reduceToNat, Int.reduceNeg, reduceCtorEq]
    all_goals exact cl
def losses_least_1 (v : Int) (r : Reach) (w : Int) : Bool := (decide ((losses_Need_1 v r) > w))
@[go_sem] def C_losses_least_1 : List SV → Option Con := (pI fun v => (pXF 55 (pX .reach fun r => (pE ((pX .int fun w => (pE (.det True (.v (.bool (losses_least_1 v r w)))))))))))
theorem ok_losses_least_1 : FnOk Tryz.prog 86 C_losses_least_1 := by
  have hG : ConsOk Tryz.prog (mkG [(55, C_losses_Need_1)] []) := mkG_ok (cgc ok_losses_Need_1 cg0) cg0
  refine fn_okN [.o] mixed ts_ok hG (fn := Tryz.f86) (c := bodyOf Tryz.f86) (by kernel_rfl) (by kernel_rfl) (by kernel_rfl) (by kernel_rfl) (pI_all fun v => (pXF_all (pX_all fun r => (pE_all ((pX_all fun w => (pE_all (fun hp => ?_))))))))
  dsimp only [conPre] at hp
  refine ⟨Nat.le_of_ble_eq_true rfl, L0, loopsOk0 _, ?_⟩
  · unfold bodyOf Tryz.f86
    try unfold losses_least_1
    simp only [go_sem, Nat.reduceBEq, Nat.reduceLeDiff, Nat.reduceLT, decide_true, Nat.reduceAdd, Nat.reduceSub, Nat.reduceMul, Int.reduceLE, Int.reduceLT, Int.reduceToNat, Int.reduceNeg, reduceCtorEq]
    all_goals exact cl
@[go_sem] def sort_Search_l0 (r : Reach) (w : Int) (k_0 : Nat) (s_0 : Int × Int) : Int ⊕ (Int × Int) := (bif (decide (s_0.1 < s_0.2)) then (bif (!(losses_least_1 (IntKind.i64.wrap (shrI .u64 (IntKind.u64.wrap (IntKind.i64.wrap (s_0.1 + s_0.2))) 1)) r w)) then .inr ((IntKind.i64.wrap ((IntKind.i64.wrap (shrI .u64 (IntKind.u64.wrap (IntKind.i64.wrap (s_0.1 + s_0.2))) 1)) + 1)), s_0.2) else .inr (s_0.1, (IntKind.i64.wrap (shrI .u64 (IntKind.u64.wrap (IntKind.i64.wrap (s_0.1 + s_0.2))) 1)))) else .inl s_0.1)
def sort_Search (n : Int) (r : Reach) (w : Int) : Int := (match runI (sort_Search_l0 r w) 64 0 (0, n) with | .inl x_0_0 => x_0_0 | .inr s_0 => default)
def sort_Search_p (n : Int) (r : Reach) (w : Int) : Prop := (∀ z_, runI (sort_Search_l0 r w) 64 0 (0, n) ≠ .inr z_)
@[go_sem] def C_sort_Search : List SV → Option Con := (pI fun n => (pFn 86 (pXF 55 (pX .reach fun r => (pE ((pX .int fun w => (pE ((pE (.det (sort_Search_p n r w) (.v (.int .i64 (sort_Search n r w))))))))))))))
theorem ok_sort_Search : FnOk Tryz.prog 85 C_sort_Search := by
  have hG : ConsOk Tryz.prog (mkG [(86, C_losses_least_1)] []) := mkG_ok (cgc ok_losses_least_1 cg0) cg0
  refine fn_okN [.o] mixed ts_ok hG (fn := Tryz.f85) (c := bodyOf Tryz.f85) (by kernel_rfl) (by kernel_rfl) (by kernel_rfl) (by kernel_rfl) (pI_all fun n => (pFn_all (pXF_all (pX_all fun r => (pE_all ((pX_all fun w => (pE_all ((pE_all (fun hp => ?_)))))))))))
  dsimp only [conPre] at hp
  unfold sort_Search_p at hp
  refine ⟨Nat.le_of_ble_eq_true rfl, (fun id st => bif Nat.beq id 0 then some (LCV (ρ := Int) (σ := (Int × Int)) 0 [] [] (fun k_0 s_0 => ⟨[(1, .fn 86 [] [.ep [.fn 55 [] [.ep (cellsOf .reach r) 0]] 0, .ep [.v (.int .i64 w)] 0]), (5, .v (.int .i64 s_0.1)), (6, .v (.int .i64 s_0.2))], []⟩) (sort_Search_l0 r w) pT 64 (0, n) (fun _ => .normal) (fun x_0_0 => ⟨[(5, .v (.int .i64 x_0_0))], []⟩) st) else none), ?_, ?_⟩
  · unfold bodyOf Tryz.f85
    simp only [loopsOk, true_and, and_true]
    · refine loopV_ok mixed ts_ok hG (by kernel_rfl) (fun _ => rfl) fun k_0 s_0 _ => ⟨L0, loopsOk0 _, ?_⟩
      · exact evSxR2_0
  · unfold bodyOf Tryz.f85
    try unfold sort_Search
    simp only [go_sem, Nat.reduceBEq, Nat.reduceLeDiff, Nat.reduceLT, decide_true, Nat.reduceAdd, Nat.reduceSub, Nat.reduceMul, Int.reduceLE, Int.reduceLT, Int.reduceToNat, Int.reduceNeg, reduceCtorEq]
    all_goals exact cl
def losses_least (w : Int) (r : Reach) : Int := (sort_Search 1073741825 r w)
def losses_least_p (w : Int) (r : Reach) : Prop := (sort_Search_p 1073741825 r w)
@[go_sem] def C_losses_least : List SV → Option Con := (pI fun w => (pFn 55 (pX .reach fun r => (pE ((pE (.det (losses_least_p w r) (.v (.int .i64 (losses_least w r))))))))))
theorem ok_losses_least : FnOk Tryz.prog 54 C_losses_least := by
  have hG : ConsOk Tryz.prog (mkG [(85, C_sort_Search)] []) := mkG_ok (cgc ok_sort_Search cg0) cg0
  refine fn_okN [.o] mixed ts_ok hG (fn := Tryz.f54) (c := bodyOf Tryz.f54) (by kernel_rfl) (by kernel_rfl) (by kernel_rfl) (by kernel_rfl) (pI_all fun w => (pFn_all (pX_all fun r => (pE_all ((pE_all (fun hp => ?_)))))))
  dsimp only [conPre] at hp
  unfold losses_least_p at hp
  refine ⟨Nat.le_of_ble_eq_true rfl, L0, loopsOk0 _, ?_⟩
  · unfold bodyOf Tryz.f54
    try unfold losses_least
    simp only [go_sem, Nat.reduceBEq, Nat.reduceLeDiff, Nat.reduceLT, decide_true, Nat.reduceAdd, Nat.reduceSub, Nat.reduceMul, Int.reduceLE, Int.reduceLT, Int.reduceToNat, Int.reduceNeg, reduceCtorEq]
    all_goals exact cl
def losses_Need (r : Reach) (w : Int) : Int × Bool × Int := (bif ((losses_valid r w) != 0) then (0, false, (losses_valid r w)) else (bif (decide ((losses_least (IntKind.i64.wrap (w - 1)) r) > 1073741824)) then (0, false, 0) else ((losses_least (IntKind.i64.wrap (w - 1)) r), true, 0)))
def losses_Need_p (r : Reach) (w : Int) : Prop := (((losses_valid r w) != 0) = false → (losses_least_p (IntKind.i64.wrap (w - 1)) r))
@[go_sem] def C_losses_Need : List SV → Option Con := (pD .reach fun r => (pI fun w => (pE (.det (losses_Need_p r w) (.tup [.v (.int .i64 ((losses_Need r w).1)), .v (.bool ((losses_Need r w).2.1)), .v (.int .i64 ((losses_Need r w).2.2))])))))
theorem ok_losses_Need : FnOk Tryz.prog 36 C_losses_Need := by
  have hG : ConsOk Tryz.prog (mkG [(52, C_losses_valid), (54, C_losses_least)] []) := mkG_ok (cgc ok_losses_valid (cgc ok_losses_least cg0)) cg0
  refine fn_okN [.o, .o, .o] mixed ts_ok hG (fn := Tryz.f36) (c := bodyOf Tryz.f36) (by kernel_rfl) (by kernel_rfl) (by kernel_rfl) (by kernel_rfl) (pD_all fun r => (pI_all fun w => (pE_all (fun hp => ?_))))
  dsimp only [conPre] at hp
  unfold losses_Need_p at hp
  refine ⟨Nat.le_of_ble_eq_true rfl, L0, loopsOk0 _, ?_⟩
  · unfold bodyOf Tryz.f36
    try unfold losses_Need
    simp only [go_sem, Nat.reduceBEq, Nat.reduceLeDiff, Nat.reduceLT, decide_true, Nat.reduceAdd, Nat.reduceSub, Nat.reduceMul, Int.reduceLE, Int.reduceLT, Int.reduceToNat, Int.reduceNeg, reduceCtorEq]
    all_goals exact cl
def routing_intake (x : Reach) (w : Int) : Int × Bool := (bif ((w == 0) || (decide (w > 1073741824))) then (0, (w == 0)) else (bif (!(losses_Need x w).2.1) then (0, false) else ((if (losses_Need x w).1 < x.siphon then x.siphon else (losses_Need x w).1), true)))
def routing_intake_p (x : Reach) (w : Int) : Prop := (((w == 0) || (decide (w > 1073741824))) = false → (losses_Need_p x w))
@[go_sem] def C_routing_intake : List SV → Option Con := (pD .reach fun x => (pI fun w => (pE (.det (routing_intake_p x w) (.tup [.v (.int .i64 ((routing_intake x w).1)), .v (.bool ((routing_intake x w).2))])))))
theorem ok_routing_intake : FnOk Tryz.prog 21 C_routing_intake := by
  have hG : ConsOk Tryz.prog (mkG [(36, C_losses_Need)] []) := mkG_ok (cgc ok_losses_Need cg0) cg0
  refine fn_okN [.o, .o] mixed ts_ok hG (fn := Tryz.f21) (c := bodyOf Tryz.f21) (by kernel_rfl) (by kernel_rfl) (by kernel_rfl) (by kernel_rfl) (pD_all fun x => (pI_all fun w => (pE_all (fun hp => ?_))))
  dsimp only [conPre] at hp
  unfold routing_intake_p at hp
  refine ⟨Nat.le_of_ble_eq_true rfl, L0, loopsOk0 _, ?_⟩
  · unfold bodyOf Tryz.f21
    try unfold routing_intake
    simp only [go_sem, Nat.reduceBEq, Nat.reduceLeDiff, Nat.reduceLT, decide_true, Nat.reduceAdd, Nat.reduceSub, Nat.reduceMul, Int.reduceLE, Int.reduceLT, Int.reduceToNat, Int.reduceNeg, reduceCtorEq]
    all_goals exact cl
end Go.Sx
end
section
namespace Go.Sx
open Go.Proofs
set_option maxRecDepth 100000
set_option linter.unusedSimpArgs false
theorem evSxR3_0 {p : Prop} (h : p := by simp only [go_sem, Nat.reduceBEq, Nat.reduceLeDiff, Nat.reduceLT, decide_true, Nat.reduceAdd, Nat.reduceSub, Nat.reduceMul, Int.reduceLE, Int.reduceLT, Int.reduceToNat, Int.reduceNeg, reduceCtorEq]; all_goals exact crSxR1_0) : p := h
@[go_sem] def slices_Reverse_int_int_l0 (l_ : List Int) (k_0 : Nat) (s_0 : List Int × Int × Int) : (List Int) ⊕ (List Int × Int × Int) := (bif (decide (s_0.2.1 < s_0.2.2)) then .inr (((s_0.1.set (Int.toNat s_0.2.1) (s_0.1.getD (Int.toNat s_0.2.2) (0 : Int))).set (Int.toNat s_0.2.2) (s_0.1.getD (Int.toNat s_0.2.1) (0 : Int))), (IntKind.i64.wrap (s_0.2.1 + 1)), (IntKind.i64.wrap (s_0.2.2 - 1))) else .inl s_0.1)
def slices_Reverse_int_int_l0_p (l_ : List Int) (k_0 : Nat) (s_0 : List Int × Int × Int) : Prop := ((decide (s_0.2.1 < s_0.2.2)) = true → ((0 ≤ s_0.2.2 ∧ s_0.2.2 < (s_0.1.length : Int)) ∧ ((0 ≤ s_0.2.1 ∧ s_0.2.1 < (s_0.1.length : Int)) ∧ ((0 ≤ s_0.2.1 ∧ s_0.2.1 < (s_0.1.length : Int)) ∧ (0 ≤ s_0.2.2 ∧ s_0.2.2 < ((s_0.1.set (Int.toNat s_0.2.1) (s_0.1.getD (Int.toNat s_0.2.2) (0 : Int))).length : Int))))))
def slices_Reverse_int_int (l_ : List Int) : List Int := (match runI (slices_Reverse_int_int_l0 l_) (l_.length + 1) 0 (l_, 0, (IntKind.i64.wrap ((l_.length : Int) - 1))) with | .inl x_0_0 => x_0_0 | .inr s_0 => default)
def slices_Reverse_int_int_p (l_ : List Int) : Prop := (l_.length ≤ maxL → (okI (slices_Reverse_int_int_l0 l_) (slices_Reverse_int_int_l0_p l_) (l_.length + 1) 0 (l_, 0, (IntKind.i64.wrap ((l_.length : Int) - 1))) ∧ (∀ z_, runI (slices_Reverse_int_int_l0 l_) (l_.length + 1) 0 (l_, 0, (IntKind.i64.wrap ((l_.length : Int) - 1))) ≠ .inr z_)))
@[go_sem] noncomputable def C_slices_Reverse_int_int : List SV → List Ob → Option HCon := fun l h => rowC .int (fun l_ => (pQ (.os 0) (pE (retC (slices_Reverse_int_int_p l_) (.tup []) [.row .int (slices_Reverse_int_int l_)]))) l) h
theorem ok_slices_Reverse_int_int : FnOkO Tryz.prog 80 C_slices_Reverse_int_int := by
  have hG : ConsOk Tryz.prog (mkG [] []) := mkG_ok cg0 cg0
  refine fn_ok_oR mixed ts_ok hG (fn := Tryz.f80) (c := bodyOf Tryz.f80) (by kernel_rfl) (by kernel_rfl) (by kernel_rfl) (by kernel_rfl) fun l o con h => ?_
  unfold C_slices_Reverse_int_int at h
  obtain ⟨l_, rfl, h⟩ := rowC_inv h
  obtain ⟨r0, rfl, h0⟩ := pQ_inv h
  obtain ⟨rfl, rfl⟩ := pE_inv h0
  clear h h0
  refine ⟨_, _, _, rfl, fun hp => ?_⟩
  unfold slices_Reverse_int_int_p at hp
  refine ⟨Nat.le_of_ble_eq_true rfl, (fun id st => bif Nat.beq id 0 then some (LCV (ρ := (List Int)) (σ := (List Int × Int × Int)) 1 [] [0] (fun k_0 s_0 => ⟨[(0, .os 0), (2, .v (.int .i64 s_0.2.1)), (3, .v (.int .i64 s_0.2.2))], [.row .int s_0.1]⟩) (slices_Reverse_int_int_l0 l_) (slices_Reverse_int_int_l0_p l_) (l_.length + 1) (l_, 0, (IntKind.i64.wrap ((l_.length : Int) - 1))) (fun _ => .normal) (fun x_0_0 => ⟨[], [.row .int x_0_0]⟩) st) else none), ?_, ?_⟩
  · unfold bodyOf Tryz.f80
    simp only [loopsOk, true_and, and_true]
    · refine loopV_ok mixed ts_ok hG (by kernel_rfl) (fun _ => rfl) fun k_0 s_0 hq0 => ⟨L0, loopsOk0 _, ?_⟩
      · unfold slices_Reverse_int_int_l0_p at hq0
        exact evSxR3_0
  · unfold bodyOf Tryz.f80
    try unfold slices_Reverse_int_int
    simp only [go_sem, Nat.reduceBEq, Nat.reduceLeDiff, Nat.reduceLT, decide_true, Nat.reduceAdd, Nat.reduceSub, Nat.reduceMul, Int.reduceLE, Int.reduceLT, Int.reduceToNat, Int.reduceNeg, reduceCtorEq]
    all_goals exact crSxR1_0
end Go.Sx
end
section
namespace Go.Sx
open Go.Proofs
set_option maxRecDepth 100000
set_option linter.unusedSimpArgs false
abbrev keyFns : SV := .ls [.fn 40 [] [], .fn 41 [] [], .fn 42 [] []]
open Classical in
noncomputable def C_routing_by : List SV → Option Con := fun l => if l = [keyFns] then some (.det True (.fn 66 [] [.ep [keyFns] 0])) else none
theorem ok_routing_by : FnOk Tryz.prog 39 C_routing_by := by
  have hG : ConsOk Tryz.prog (mkG [] []) := mkG_ok (by simp) (by simp)
  refine fn_okN [.o] mixed ts_ok hG (fn := Tryz.f39) (c := bodyOf Tryz.f39) (by kernel_rfl) (by kernel_rfl) (by kernel_rfl) (by kernel_rfl) fun l con h hp => ?_
  unfold C_routing_by at h
  split at h
  · rename_i hl
    subst hl
    cases h
    refine ⟨Nat.le_of_ble_eq_true rfl, L0, by unfold bodyOf Tryz.f39; simp only [loopsOk, and_self], ?_⟩
    unfold bodyOf Tryz.f39
    simp only [go_sem, keyFns, true_imp_iff, Nat.reduceBEq, Nat.reduceLeDiff, Nat.reduceAdd, Nat.reduceSub, Nat.reduceMul, true_and, and_true, implies_true, List.map_cons, List.map_nil]
    rfl
  · cases h
def C_routing_compare : List SV → Option Con := pE (.det True (.fn 66 [] [.ep [keyFns] 0]))
theorem ok_routing_compare : FnOk Tryz.prog 23 C_routing_compare := by
  have hG : ConsOk Tryz.prog (mkG [(39, C_routing_by)] []) := mkG_ok (by
    intro x hx
    simp only [List.mem_cons, List.not_mem_nil, or_false] at hx
    rcases hx with rfl
    exact ok_routing_by) (by simp)
  refine fn_okN [.o] mixed ts_ok hG (fn := Tryz.f23) (c := bodyOf Tryz.f23) (by kernel_rfl) (by kernel_rfl) (by kernel_rfl) (by kernel_rfl) fun l con h hp => ?_
  unfold C_routing_compare at h
  obtain ⟨rfl, rfl⟩ := pE_inv h
  refine ⟨Nat.le_of_ble_eq_true rfl, L0, by unfold bodyOf Tryz.f23; simp only [loopsOk, and_self], ?_⟩
  unfold bodyOf Tryz.f23
  simp only [go_sem, C_routing_by, keyFns, true_imp_iff, Nat.reduceBEq, Nat.reduceLeDiff, Nat.reduceAdd, Nat.reduceSub, Nat.reduceMul, true_and, and_true, implies_true, List.map_cons, List.map_nil, if_true]
  rfl
def ordKey (k : Nat) (x : Order) : Int := match k with | 0 => routing_compare_1 x | 1 => routing_outlet x | _ => routing_compare_2 x
def ordStep (a b : Order) : Nat → Unit → Int ⊕ Unit := fun k _ => bif (cmp_Compare_int (ordKey k a) (ordKey k b) != 0) then .inl (cmp_Compare_int (ordKey k a) (ordKey k b)) else .inr ()
def routing_by_1 (a b : Order) : Int := match runI (ordStep a b) 3 0 () with | .inl x => x | .inr _ => 0
open Classical in
noncomputable def C_routing_by_1 : List SV → Option Con := pD .order fun a => pD .order fun b => fun l => if l = [.ep [keyFns] 0] then some (.det True (.i (routing_by_1 a b))) else none
theorem ok_routing_by_1 : FnOk Tryz.prog 66 C_routing_by_1 := by
  have hG : ConsOk Tryz.prog (mkG [(67, C_cmp_Compare_int), (40, C_routing_compare_1), (41, C_routing_outlet), (42, C_routing_compare_2)] []) := mkG_ok (by
    intro x hx
    simp only [List.mem_cons, List.not_mem_nil, or_false] at hx
    rcases hx with rfl | rfl | rfl | rfl
    · exact ok_cmp_Compare_int
    · exact ok_routing_compare_1
    · exact ok_routing_outlet
    · exact ok_routing_compare_2) (by simp)
  refine fn_okN [.o] mixed ts_ok hG (fn := Tryz.f66) (c := bodyOf Tryz.f66) (by kernel_rfl) (by kernel_rfl) (by kernel_rfl) (by kernel_rfl) fun l con h hp => ?_
  unfold C_routing_by_1 at h
  obtain ⟨a, l0, rfl, h0⟩ := pD_inv h
  obtain ⟨b, l1, rfl, h1⟩ := pD_inv h0
  split at h1
  rotate_left
  · cases h1
  rename_i hl
  subst hl
  cases h1
  clear h h0
  obtain ⟨ah, ai, al, ao⟩ := a
  obtain ⟨bh, bi, bl, bo⟩ := b
  refine ⟨Nat.le_of_ble_eq_true rfl, (fun id st => bif Nat.beq id 0 then some (LC (ρ := Int) (σ := Unit) (lk 3 st.t = .ptr 0 0 ∧ lk 4 st.t = .ptr 1 0 ∧ lk 9 st.t = keyFns ∧ lk 10 st.t = .i 3 ∧ lk 11 st.t = .i 0 ∧ st.h = [.cells (cellsOf .order ⟨ah, ai, al, ao⟩), .cells (cellsOf .order ⟨bh, bi, bl, bo⟩)]) (runI (ordStep ⟨ah, ai, al, ao⟩ ⟨bh, bi, bl, bo⟩) 3 0 ()) (fun _ => .ret) (fun x => ⟨[(5, .i x)], [.dead, .dead]⟩) (fun _ => ⟨[], [.dead, .dead]⟩)) else none), ?_, ?_⟩
  · unfold bodyOf Tryz.f66
    simp only [loopsOk, true_and, and_true]
    refine count_okP mixed ts_ok hG (by kernel_rfl) fun st lc hC hp => ?_
    simp only [go_sem, Nat.reduceBEq, Option.some.injEq] at hC
    subst hC
    obtain ⟨t, h⟩ := st
    dsimp only [LC] at hp
    obtain ⟨e1, e2, e3, e4, e5, rfl⟩ := hp
    refine ⟨_, _, _, ordStep ⟨ah, ai, al, ao⟩ ⟨bh, bi, bl, bo⟩, fun _ _ => True, 3, (), _, _, _, (fun k _ => ⟨[(3, .ptr 0 0), (4, .ptr 1 0), (9, keyFns), (10, .i 3), (11, .i (k : Int))], [.cells (cellsOf .order ⟨ah, ai, al, ao⟩), .cells (cellsOf .order ⟨bh, bi, bl, bo⟩)]⟩), [0, 1], rfl, okI_all _ _ _ fun _ _ _ _ => trivial, Nat.le_refl _, ?_, fun k s hk hpk => ⟨L0, ?_, ?_⟩⟩
    · simp only [go_sem, e1, e2, e3, e4, e5, keyFns, Nat.reduceBEq, Nat.reduceLeDiff, Nat.reduceAdd, true_and, and_true]
      all_goals (first | done | decide | (repeat' (first | refine And.intro ?_ ?_ | rfl | decide)))
    · simp only [loopsOk, and_self, true_and, and_true]
    · have hk4 : k = 0 ∨ k = 1 ∨ k = 2 ∨ k = 3 := by omega
      have hw0 : IntKind.i64.wrap ((0 : Int) + 1) = ((0 + 1 : Nat) : Int) := by decide
      have hw1 : IntKind.i64.wrap ((1 : Int) + 1) = ((1 + 1 : Nat) : Int) := by decide
      have hw2 : IntKind.i64.wrap ((2 : Int) + 1) = ((2 + 1 : Nat) : Int) := by decide
      rcases hk4 with rfl | rfl | rfl | rfl
      all_goals
        simp only [go_sem, C_cmp_Compare_int, C_routing_compare_1, C_routing_outlet, C_routing_compare_2, keyFns, ordStep, ordKey, true_imp_iff, false_imp_iff, Bool.false_eq_true, Int.toNat_natCast, Int.toNat_zero, Nat.reduceBEq, Nat.reduceLeDiff, Nat.reduceAdd, Nat.reduceSub, Nat.reduceMul, Nat.reduceLT, Int.reduceLE, Int.reduceLT, Int.reduceToNat, Int.reduceNeg, true_and, and_true, and_self, implies_true, forall_const, reduceCtorEq, Int.cast_ofNat_Int]
      all_goals (first | done | (repeat' (first | with_reducible refine And.intro ?_ ?_ | ((with_reducible show _ ≠ _); first | assumption | omega | (simp_all; done) | grind) | with_reducible intro _)) <;> (first | done | assumption | rfl | omega | decide | (simp only [*, cond_true, cond_false, go_sem, true_imp_iff, false_imp_iff, Bool.false_eq_true, Int.toNat_natCast, Int.toNat_zero, Nat.reduceBEq, Nat.reduceLeDiff, Nat.reduceAdd, Nat.reduceSub, Nat.reduceMul, Int.reduceLE, Int.reduceLT, Int.reduceToNat, Int.reduceNeg, true_and, and_true, and_self, implies_true, forall_const, reduceCtorEq]; done) | (simp only [*, cond_true, cond_false, go_sem, true_imp_iff, false_imp_iff, Bool.false_eq_true, Int.toNat_natCast, Int.toNat_zero, Nat.reduceBEq, Nat.reduceLeDiff, Nat.reduceAdd, Nat.reduceSub, Nat.reduceMul, Int.reduceLE, Int.reduceLT, Int.reduceToNat, Int.reduceNeg, true_and, and_true, and_self, implies_true, forall_const, reduceCtorEq]; (repeat' (first | with_reducible refine And.intro ?_ ?_ | ((with_reducible show _ ≠ _); first | assumption | omega | (simp_all; done) | grind) | with_reducible intro _)) <;> (first | done | assumption | rfl | omega | decide))))
      all_goals trace_state
  · unfold bodyOf Tryz.f66
    unfold routing_by_1
    simp only [go_sem, keyFns, true_imp_iff, false_imp_iff, Bool.false_eq_true, Nat.reduceBEq, Nat.reduceLeDiff, Nat.reduceAdd, Nat.reduceSub, Nat.reduceMul, true_and, and_true, implies_true, sz, List.map_cons, List.map_nil]
    all_goals (first | done | (repeat' (first | with_reducible refine And.intro ?_ ?_ | ((with_reducible show _ ≠ _); first | assumption | omega | (simp_all; done) | grind) | with_reducible intro _)) <;> (first | done | assumption | rfl | omega | (simp only [*, cond_true, cond_false, Bool.not_true, Bool.not_false, go_sem, true_imp_iff, false_imp_iff, Bool.false_eq_true, Int.toNat_natCast, Int.toNat_zero, Nat.reduceBEq, Nat.reduceLeDiff, Nat.reduceAdd, Nat.reduceSub, Nat.reduceMul, Int.reduceLE, Int.reduceLT, Int.reduceToNat, Int.reduceNeg, true_and, and_true, and_self, implies_true, forall_const, reduceCtorEq]; done) | (simp only [*, cond_true, cond_false, Bool.not_true, Bool.not_false, go_sem, true_imp_iff, false_imp_iff, Bool.false_eq_true, Int.toNat_natCast, Int.toNat_zero, Nat.reduceBEq, Nat.reduceLeDiff, Nat.reduceAdd, Nat.reduceSub, Nat.reduceMul, Int.reduceLE, Int.reduceLT, Int.reduceToNat, Int.reduceNeg, true_and, and_true, and_self, implies_true, forall_const, reduceCtorEq]; (repeat' (first | with_reducible refine And.intro ?_ ?_ | ((with_reducible show _ ≠ _); first | assumption | omega | (simp_all; done) | grind) | with_reducible intro _)) <;> (first | done | assumption | rfl | omega | (simp_all; done))) | (simp_all [okI]; done) | grind))
attribute [go_sem] C_routing_compare C_routing_by_1
end Go.Sx
end
