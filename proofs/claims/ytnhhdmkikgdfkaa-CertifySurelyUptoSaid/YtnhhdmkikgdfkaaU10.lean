/- Part of the proof that the law CertifySurely returns true and leaves its arguments as they were, for all arguments of bulk at most 1048576 (the Upto form). -/
import Derived.Test.YtnhhdmkikgdfkaaU09
import Derived.Test.YtnhhdmkikgdfkaaU08
import Derived.Test.YtnhhdmkikgdfkaaU07
set_option linter.all false
section
namespace Go.Sx
open Go.Proofs
set_option maxRecDepth 100000
set_option linter.unusedSimpArgs false
theorem crSxR7_0 {p : Prop} (h : p := by (first | done | (repeat' (first | with_reducible refine And.intro ?_ ?_ | ((with_reducible show _ ≠ _); first | assumption | omega | (simp_all [outR, outL]; done) | grind) | with_reducible intro _)) <;> (first | done | exact Empty.elim ‹Empty› | assumption | rfl | omega | decide | exact fk [0, 1, 2, 3, 6] | exact fk [0, 1, 2, 3, 4] | (simp only [*, cond_true, cond_false, Bool.not_true, Bool.not_false, go_sem, Nat.reduceBEq, Nat.reduceLeDiff, Nat.reduceAdd, Nat.reduceSub, Nat.reduceMul, Int.reduceLE, Int.reduceLT, Int.reduceToNat, Int.reduceNeg, reduceCtorEq]; done) | (simp only [*, cond_true, cond_false, Bool.not_true, Bool.not_false, go_sem, Nat.reduceBEq, Nat.reduceLeDiff, Nat.reduceAdd, Nat.reduceSub, Nat.reduceMul, Int.reduceLE, Int.reduceLT, Int.reduceToNat, Int.reduceNeg, reduceCtorEq]; (repeat' (first | with_reducible refine And.intro ?_ ?_ | ((with_reducible show _ ≠ _); first | assumption | omega | (simp_all [outR, outL]; done) | grind) | with_reducible intro _)) <;> (first | done | assumption | rfl | omega | decide | exact fk [0, 1, 2, 3, 6] | exact fk [0, 1, 2, 3, 4] | (simp_all [outR, outL]; done))) | (simp_all [okI, outR, outL]; done) | (simp_all [outR, outL]; (first | done | exact fk2 [0, 1, 2, 3, 6] | exact fk2 [0, 1, 2, 3, 4])) | exact fk2 [0, 1, 2, 3, 6] | exact fk2 [0, 1, 2, 3, 4]))) : p := h
theorem crSxR7_1 {p : Prop} (h : p := by (first | done | (repeat' (first | with_reducible refine And.intro ?_ ?_ | ((with_reducible show _ ≠ _); first | assumption | omega | (simp_all [outR, outL]; done) | grind) | with_reducible intro _)) <;> (first | done | exact Empty.elim ‹Empty› | assumption | rfl | omega | decide | exact fk [0, 1, 4] | (simp only [*, cond_true, cond_false, Bool.not_true, Bool.not_false, go_sem, Nat.reduceBEq, Nat.reduceLeDiff, Nat.reduceAdd, Nat.reduceSub, Nat.reduceMul, Int.reduceLE, Int.reduceLT, Int.reduceToNat, Int.reduceNeg, reduceCtorEq]; done) | (simp only [*, cond_true, cond_false, Bool.not_true, Bool.not_false, go_sem, Nat.reduceBEq, Nat.reduceLeDiff, Nat.reduceAdd, Nat.reduceSub, Nat.reduceMul, Int.reduceLE, Int.reduceLT, Int.reduceToNat, Int.reduceNeg, reduceCtorEq]; (repeat' (first | with_reducible refine And.intro ?_ ?_ | ((with_reducible show _ ≠ _); first | assumption | omega | (simp_all [outR, outL]; done) | grind) | with_reducible intro _)) <;> (first | done | assumption | rfl | omega | decide | exact fk [0, 1, 4] | (simp_all [outR, outL]; done))) | (simp_all [okI, outR, outL]; done) | (simp_all [outR, outL]; (first | done | exact fk2 [0, 1, 4])) | exact fk2 [0, 1, 4]))) : p := h
theorem crSxR7_2 {p : Prop} (h : p := by (first | done | (repeat' (first | with_reducible refine And.intro ?_ ?_ | ((with_reducible show _ ≠ _); first | assumption | omega | (simp_all [outR, outL]; done) | grind) | with_reducible intro _)) <;> (first | done | exact Empty.elim ‹Empty› | assumption | rfl | omega | decide | exact fk [0, 1, 2, 3, 5] | exact fk [0, 1, 2, 3, 4] | (simp only [*, cond_true, cond_false, Bool.not_true, Bool.not_false, go_sem, Nat.reduceBEq, Nat.reduceLeDiff, Nat.reduceAdd, Nat.reduceSub, Nat.reduceMul, Int.reduceLE, Int.reduceLT, Int.reduceToNat, Int.reduceNeg, reduceCtorEq]; done) | (simp only [*, cond_true, cond_false, Bool.not_true, Bool.not_false, go_sem, Nat.reduceBEq, Nat.reduceLeDiff, Nat.reduceAdd, Nat.reduceSub, Nat.reduceMul, Int.reduceLE, Int.reduceLT, Int.reduceToNat, Int.reduceNeg, reduceCtorEq]; (repeat' (first | with_reducible refine And.intro ?_ ?_ | ((with_reducible show _ ≠ _); first | assumption | omega | (simp_all [outR, outL]; done) | grind) | with_reducible intro _)) <;> (first | done | assumption | rfl | omega | decide | exact fk [0, 1, 2, 3, 5] | exact fk [0, 1, 2, 3, 4] | (simp_all [outR, outL]; done))) | (simp_all [okI, outR, outL]; done) | (simp_all [outR, outL]; (first | done | exact fk2 [0, 1, 2, 3, 5] | exact fk2 [0, 1, 2, 3, 4])) | exact fk2 [0, 1, 2, 3, 5] | exact fk2 [0, 1, 2, 3, 4]))) : p := h
def certify_table_banks_l0 (t_ : CertifyTable) : (Int × Int) → (List Fault) → Empty ⊕ (List Fault) := fun z_0 s_0 => (bif (decide ((IntKind.i64.wrap (((t_.sums.getD (Int.toNat z_0.2) (default : List Int)).getD (Int.toNat (IntKind.i64.wrap (z_0.1 + 1))) (0 : Int)) - ((t_.sums.getD (Int.toNat z_0.2) (default : List Int)).getD (Int.toNat (if 0 < (IntKind.i64.wrap ((IntKind.i64.wrap (z_0.1 + 1)) - (t_.d.reaches.getD (Int.toNat z_0.2) (default : Reach)).delay)) then (IntKind.i64.wrap ((IntKind.i64.wrap (z_0.1 + 1)) - (t_.d.reaches.getD (Int.toNat z_0.2) (default : Reach)).delay)) else 0)) (0 : Int)))) > (t_.d.reaches.getD (Int.toNat z_0.2) (default : Reach)).bank)) then .inr (certify_Faults_1 ({ kind := 3, hour := z_0.1, index := z_0.2, litres := (IntKind.i64.wrap (((t_.sums.getD (Int.toNat z_0.2) (default : List Int)).getD (Int.toNat (IntKind.i64.wrap (z_0.1 + 1))) (0 : Int)) - ((t_.sums.getD (Int.toNat z_0.2) (default : List Int)).getD (Int.toNat (if 0 < (IntKind.i64.wrap ((IntKind.i64.wrap (z_0.1 + 1)) - (t_.d.reaches.getD (Int.toNat z_0.2) (default : Reach)).delay)) then (IntKind.i64.wrap ((IntKind.i64.wrap (z_0.1 + 1)) - (t_.d.reaches.getD (Int.toNat z_0.2) (default : Reach)).delay)) else 0)) (0 : Int)))), limit := (t_.d.reaches.getD (Int.toNat z_0.2) (default : Reach)).bank } : Fault) s_0) else .inr s_0)
def certify_table_banks_l0_p (t_ : CertifyTable) : (Int × Int) → (List Fault) → Prop := fun z_0 s_0 => ((0 ≤ z_0.2 ∧ z_0.2 < (t_.d.reaches.length : Int)) ∧ ((0 ≤ z_0.2 ∧ z_0.2 < (t_.sums.length : Int)) ∧ ((0 ≤ (IntKind.i64.wrap (z_0.1 + 1)) ∧ (IntKind.i64.wrap (z_0.1 + 1)) < ((t_.sums.getD (Int.toNat z_0.2) (default : List Int)).length : Int)) ∧ ((0 ≤ z_0.2 ∧ z_0.2 < (t_.sums.length : Int)) ∧ ((0 ≤ (if 0 < (IntKind.i64.wrap ((IntKind.i64.wrap (z_0.1 + 1)) - (t_.d.reaches.getD (Int.toNat z_0.2) (default : Reach)).delay)) then (IntKind.i64.wrap ((IntKind.i64.wrap (z_0.1 + 1)) - (t_.d.reaches.getD (Int.toNat z_0.2) (default : Reach)).delay)) else 0) ∧ (if 0 < (IntKind.i64.wrap ((IntKind.i64.wrap (z_0.1 + 1)) - (t_.d.reaches.getD (Int.toNat z_0.2) (default : Reach)).delay)) then (IntKind.i64.wrap ((IntKind.i64.wrap (z_0.1 + 1)) - (t_.d.reaches.getD (Int.toNat z_0.2) (default : Reach)).delay)) else 0) < ((t_.sums.getD (Int.toNat z_0.2) (default : List Int)).length : Int)) ∧ (((decide ((IntKind.i64.wrap (((t_.sums.getD (Int.toNat z_0.2) (default : List Int)).getD (Int.toNat (IntKind.i64.wrap (z_0.1 + 1))) (0 : Int)) - ((t_.sums.getD (Int.toNat z_0.2) (default : List Int)).getD (Int.toNat (if 0 < (IntKind.i64.wrap ((IntKind.i64.wrap (z_0.1 + 1)) - (t_.d.reaches.getD (Int.toNat z_0.2) (default : Reach)).delay)) then (IntKind.i64.wrap ((IntKind.i64.wrap (z_0.1 + 1)) - (t_.d.reaches.getD (Int.toNat z_0.2) (default : Reach)).delay)) else 0)) (0 : Int)))) > (t_.d.reaches.getD (Int.toNat z_0.2) (default : Reach)).bank)) = true → (certify_Faults_1_p ({ kind := 3, hour := z_0.1, index := z_0.2, litres := (IntKind.i64.wrap (((t_.sums.getD (Int.toNat z_0.2) (default : List Int)).getD (Int.toNat (IntKind.i64.wrap (z_0.1 + 1))) (0 : Int)) - ((t_.sums.getD (Int.toNat z_0.2) (default : List Int)).getD (Int.toNat (if 0 < (IntKind.i64.wrap ((IntKind.i64.wrap (z_0.1 + 1)) - (t_.d.reaches.getD (Int.toNat z_0.2) (default : Reach)).delay)) then (IntKind.i64.wrap ((IntKind.i64.wrap (z_0.1 + 1)) - (t_.d.reaches.getD (Int.toNat z_0.2) (default : Reach)).delay)) else 0)) (0 : Int)))), limit := (t_.d.reaches.getD (Int.toNat z_0.2) (default : Reach)).bank } : Fault) s_0)) ∧ ((decide ((IntKind.i64.wrap (((t_.sums.getD (Int.toNat z_0.2) (default : List Int)).getD (Int.toNat (IntKind.i64.wrap (z_0.1 + 1))) (0 : Int)) - ((t_.sums.getD (Int.toNat z_0.2) (default : List Int)).getD (Int.toNat (if 0 < (IntKind.i64.wrap ((IntKind.i64.wrap (z_0.1 + 1)) - (t_.d.reaches.getD (Int.toNat z_0.2) (default : Reach)).delay)) then (IntKind.i64.wrap ((IntKind.i64.wrap (z_0.1 + 1)) - (t_.d.reaches.getD (Int.toNat z_0.2) (default : Reach)).delay)) else 0)) (0 : Int)))) > (t_.d.reaches.getD (Int.toNat z_0.2) (default : Reach)).bank)) = false → ((decide ((IntKind.i64.wrap (((t_.sums.getD (Int.toNat z_0.2) (default : List Int)).getD (Int.toNat (IntKind.i64.wrap (z_0.1 + 1))) (0 : Int)) - ((t_.sums.getD (Int.toNat z_0.2) (default : List Int)).getD (Int.toNat (if 0 < (IntKind.i64.wrap ((IntKind.i64.wrap (z_0.1 + 1)) - (t_.d.reaches.getD (Int.toNat z_0.2) (default : Reach)).delay)) then (IntKind.i64.wrap ((IntKind.i64.wrap (z_0.1 + 1)) - (t_.d.reaches.getD (Int.toNat z_0.2) (default : Reach)).delay)) else 0)) (0 : Int)))) > (t_.d.reaches.getD (Int.toNat z_0.2) (default : Reach)).bank)) = false))))))))
def certify_table_banks (t_ : CertifyTable) (l_ : List Fault) : List Fault := (match runL (certify_table_banks_l0 t_) (certify_cells t_) l_ with | .inl x => x.elim | .inr s_0 => s_0)
def certify_table_banks_p (t_ : CertifyTable) (l_ : List Fault) : Prop := ((t_.d.hours < 9223372036854775808) ∧ okL (certify_table_banks_l0 t_) (certify_table_banks_l0_p t_) (certify_cells t_) l_)
noncomputable def C_certify_table_banks : List SV → List Ob → Option HCon := fun l h => hCR .fault (fun l_ => (pD .certifyTable fun t_ => ((pQ (.fn 27 [] [.ptr 0 0]) (pE (retC (certify_table_banks_p t_ l_) (.tup []) [.cells [.os 2], .dead, .row .fault (certify_table_banks t_ l_)]))))) l) h
set_option maxHeartbeats 4000000 in
theorem ok_certify_table_banks : FnOkO Try.prog 29 C_certify_table_banks := by
  have hG : ConsOk Try.prog (mkG [(49, C_certify_table_cells)] [(27, C_certify_Faults_1)]) := mkG_ok (cgc ok_certify_table_cells cg0) (cgc ok_certify_Faults_1 cg0)
  refine fn_ok_oR mixed ts_ok hG (fn := Try.f29) (c := bodyOf Try.f29) (by kernel_rfl) (by kernel_rfl) (by kernel_rfl) (by kernel_rfl) fun l o con h => ?_
  unfold C_certify_table_banks at h
  obtain ⟨l_, rfl, h⟩ := hCR_inv h
  obtain ⟨t_, r0, rfl, h0⟩ := pD_inv h
  obtain ⟨r1, rfl, h1⟩ := pQ_inv h0
  obtain ⟨rfl, rfl⟩ := pE_inv h1
  clear h h0 h1
  refine ⟨_, _, _, rfl, fun hp => ?_⟩
  unfold certify_table_banks_p at hp
  refine ⟨Nat.le_of_ble_eq_true rfl, (fun id st => bif Nat.beq id 0 then some (LC (ρ := Empty) (σ := List Fault) (lk 2 st.t = .ptr 2 0 ∧ lk 3 st.t = .ptr 3 0 ∧ lk 9 st.t = .fn 69 [] [.ep [.v (.string t_.d.name), .v (.int .i64 t_.d.hours), .v (.int .i64 t_.d.tank.cap), .v (.int .i64 t_.d.tank.start), .rs .reach t_.d.reaches, .rs .farm t_.d.farms, .rs .crop t_.d.crops, .rs .right t_.d.rights, .rs .duty t_.d.duties, .rs .well t_.d.wells, .rs .order t_.l, .rm .certifyPlace .int t_.litres, .rs .ints t_.sums, .rs .ints t_.drawn] 0] ∧ st.h = [.cells [.os 1], .row .fault l_, .cells [.v (.string t_.d.name), .v (.int .i64 t_.d.hours), .v (.int .i64 t_.d.tank.cap), .v (.int .i64 t_.d.tank.start), .rs .reach t_.d.reaches, .rs .farm t_.d.farms, .rs .crop t_.d.crops, .rs .right t_.d.rights, .rs .duty t_.d.duties, .rs .well t_.d.wells, .rs .order t_.l, .rm .certifyPlace .int t_.litres, .rs .ints t_.sums, .rs .ints t_.drawn], .cells [.fn 27 [] [.ptr 0 0]]] ∧ t_.d.hours < 9223372036854775808 ∧ okL (certify_table_banks_l0 t_) (certify_table_banks_l0_p t_) (certify_cells t_) l_) (runL (certify_table_banks_l0 t_) (certify_cells t_) l_) (fun x => x.elim) (fun x => x.elim) (fun s_0 => ⟨[(2, .ptr 2 0), (3, .ptr 3 0)], [.cells [.os 4], .dead, .cells [.v (.string t_.d.name), .v (.int .i64 t_.d.hours), .v (.int .i64 t_.d.tank.cap), .v (.int .i64 t_.d.tank.start), .rs .reach t_.d.reaches, .rs .farm t_.d.farms, .rs .crop t_.d.crops, .rs .right t_.d.rights, .rs .duty t_.d.duties, .rs .well t_.d.wells, .rs .order t_.l, .rm .certifyPlace .int t_.litres, .rs .ints t_.sums, .rs .ints t_.drawn], .cells [.fn 27 [] [.ptr 0 0]], .row .fault s_0]⟩)) else none), ?_, ?_⟩
  · unfold bodyOf Try.f29
    simp only [loopsOk, true_and, and_true]
    · refine rangeL_ok mixed ts_ok hG (by decide) (by decide) (by kernel_rfl) (by kernel_rfl) fun st lc hC hp => ?_
      simp only [go_sem, Nat.reduceBEq, Option.some.injEq] at hC
      subst hC
      obtain ⟨t, h⟩ := st
      dsimp only [LC] at hp
      obtain ⟨e0_0, e0_1, e0_2, rfl, hb0, hok0⟩ := hp
      refine ⟨69, [.ep [.v (.string t_.d.name), .v (.int .i64 t_.d.hours), .v (.int .i64 t_.d.tank.cap), .v (.int .i64 t_.d.tank.start), .rs .reach t_.d.reaches, .rs .farm t_.d.farms, .rs .crop t_.d.crops, .rs .right t_.d.rights, .rs .duty t_.d.duties, .rs .well t_.d.wells, .rs .order t_.l, .rm .certifyPlace .int t_.litres, .rs .ints t_.sums, .rs .ints t_.drawn] 0], Int × Int, _, _, (certify_cells t_), cellI, (certify_table_banks_l0 t_), (certify_table_banks_l0_p t_), _, l_, _, _, _, [(2, .ptr 2 0), (3, .ptr 3 0)], (fun s_0 => [.cells [.os 4], .dead, .cells [.v (.string t_.d.name), .v (.int .i64 t_.d.hours), .v (.int .i64 t_.d.tank.cap), .v (.int .i64 t_.d.tank.start), .rs .reach t_.d.reaches, .rs .farm t_.d.farms, .rs .crop t_.d.crops, .rs .right t_.d.rights, .rs .duty t_.d.duties, .rs .well t_.d.wells, .rs .order t_.l, .rm .certifyPlace .int t_.litres, .rs .ints t_.sums, .rs .ints t_.drawn], .cells [.fn 27 [] [.ptr 0 0]], .row .fault s_0]), (fun x => x.elim), [0, 1, 2, 3, 1], ?_, rfl, hok0, Nat.le_of_ble_eq_true rfl, ?_, ok_cells_it t_ hb0, fun z_0 s_0 hq0 => ⟨rfl, (fun id st => none), fun l => ?_, fun l => ?_, ?_⟩, fun s_0 => ?_, fun y => ?_⟩
      · simp only [go_sem, e0_0, e0_1, e0_2]
      · simp only [go_sem, Nat.reduceBEq, Nat.reduceLeDiff, Nat.reduceAdd, Nat.reduceSub, Nat.reduceMul, Int.reduceLE, Int.reduceLT, Int.reduceToNat, Int.reduceNeg, reduceCtorEq, killL, capIds, List.flatMap_cons, List.flatMap_nil, List.nil_append, List.append_nil, List.map_nil, e0_0, e0_1, e0_2]
        all_goals (first | done | decide | (repeat' (first | refine And.intro ?_ ?_ | rfl | decide)))
      · simp only [loopsOk, and_self, true_and, and_true]
      · simp only [loopsOk, and_self, true_and, and_true]
      · unfold certify_table_banks_l0_p at hq0
        simp only [go_sem, Nat.reduceBEq, Nat.reduceLeDiff, Nat.reduceAdd, Nat.reduceSub, Nat.reduceMul, Int.reduceLE, Int.reduceLT, Int.reduceToNat, Int.reduceNeg, reduceCtorEq, C_certify_Faults_1, C_certify_table_cells, certify_table_banks_l0, psT, cellI, List.cons_append, List.nil_append]
        all_goals exact crSxR7_0
      · simp only [go_sem, Nat.reduceBEq, Nat.reduceLeDiff, Nat.reduceAdd, Nat.reduceSub, Nat.reduceMul, Int.reduceLE, Int.reduceLT, Int.reduceToNat, Int.reduceNeg, reduceCtorEq, C_certify_Faults_1, C_certify_table_cells]
        all_goals exact crSxR7_0
      · simp only [go_sem, Nat.reduceBEq, Nat.reduceLeDiff, Nat.reduceAdd, Nat.reduceSub, Nat.reduceMul, Int.reduceLE, Int.reduceLT, Int.reduceToNat, Int.reduceNeg, reduceCtorEq, C_certify_Faults_1, C_certify_table_cells]
        all_goals exact crSxR7_0
  · unfold bodyOf Try.f29
    try unfold certify_table_banks
    simp only [go_sem, Nat.reduceBEq, Nat.reduceLeDiff, Nat.reduceAdd, Nat.reduceSub, Nat.reduceMul, Int.reduceLE, Int.reduceLT, Int.reduceToNat, Int.reduceNeg, reduceCtorEq, C_certify_Faults_1, C_certify_table_cells]
    all_goals exact crSxR7_1
def certify_table_water_l0 (t_ : CertifyTable) : (Int × Int) → (List Fault) → Empty ⊕ (List Fault) := fun z_0 s_0 => (bif (decide (((t_.drawn.getD (Int.toNat z_0.2) (default : List Int)).getD (Int.toNat z_0.1) (0 : Int)) > (certify_table_arrives t_ z_0.2 z_0.1))) then .inr (certify_Faults_1 ({ kind := 5, hour := z_0.1, index := z_0.2, litres := ((t_.drawn.getD (Int.toNat z_0.2) (default : List Int)).getD (Int.toNat z_0.1) (0 : Int)), limit := (certify_table_arrives t_ z_0.2 z_0.1) } : Fault) s_0) else .inr s_0)
def certify_table_water_l0_p (t_ : CertifyTable) : (Int × Int) → (List Fault) → Prop := fun z_0 s_0 => ((0 ≤ z_0.2 ∧ z_0.2 < (t_.drawn.length : Int)) ∧ ((0 ≤ z_0.1 ∧ z_0.1 < ((t_.drawn.getD (Int.toNat z_0.2) (default : List Int)).length : Int)) ∧ ((certify_table_arrives_p t_ z_0.2 z_0.1) ∧ (((decide (((t_.drawn.getD (Int.toNat z_0.2) (default : List Int)).getD (Int.toNat z_0.1) (0 : Int)) > (certify_table_arrives t_ z_0.2 z_0.1))) = true → (certify_Faults_1_p ({ kind := 5, hour := z_0.1, index := z_0.2, litres := ((t_.drawn.getD (Int.toNat z_0.2) (default : List Int)).getD (Int.toNat z_0.1) (0 : Int)), limit := (certify_table_arrives t_ z_0.2 z_0.1) } : Fault) s_0)) ∧ ((decide (((t_.drawn.getD (Int.toNat z_0.2) (default : List Int)).getD (Int.toNat z_0.1) (0 : Int)) > (certify_table_arrives t_ z_0.2 z_0.1))) = false → ((decide (((t_.drawn.getD (Int.toNat z_0.2) (default : List Int)).getD (Int.toNat z_0.1) (0 : Int)) > (certify_table_arrives t_ z_0.2 z_0.1))) = false))))))
def certify_table_water (t_ : CertifyTable) (l_ : List Fault) : List Fault := (match runL (certify_table_water_l0 t_) (certify_cells t_) l_ with | .inl x => x.elim | .inr s_0 => s_0)
def certify_table_water_p (t_ : CertifyTable) (l_ : List Fault) : Prop := ((t_.d.hours < 9223372036854775808) ∧ okL (certify_table_water_l0 t_) (certify_table_water_l0_p t_) (certify_cells t_) l_)
noncomputable def C_certify_table_water : List SV → List Ob → Option HCon := fun l h => hCR .fault (fun l_ => (pD .certifyTable fun t_ => ((pQ (.fn 27 [] [.ptr 0 0]) (pE (retC (certify_table_water_p t_ l_) (.tup []) [.cells [.os 2], .dead, .row .fault (certify_table_water t_ l_)]))))) l) h
set_option maxHeartbeats 4000000 in
theorem ok_certify_table_water : FnOkO Try.prog 31 C_certify_table_water := by
  have hG : ConsOk Try.prog (mkG [(22, fun l => C_certify_table_arrives (nrmA [.st .certifyTable, .o, .o] l)), (49, C_certify_table_cells)] [(27, C_certify_Faults_1)]) := mkG_ok (cgc (ok_certify_table_arrives.norm [.st .certifyTable, .o, .o]) (cgc ok_certify_table_cells cg0)) (cgc ok_certify_Faults_1 cg0)
  refine fn_ok_oR mixed ts_ok hG (fn := Try.f31) (c := bodyOf Try.f31) (by kernel_rfl) (by kernel_rfl) (by kernel_rfl) (by kernel_rfl) fun l o con h => ?_
  unfold C_certify_table_water at h
  obtain ⟨l_, rfl, h⟩ := hCR_inv h
  obtain ⟨t_, r0, rfl, h0⟩ := pD_inv h
  obtain ⟨r1, rfl, h1⟩ := pQ_inv h0
  obtain ⟨rfl, rfl⟩ := pE_inv h1
  clear h h0 h1
  refine ⟨_, _, _, rfl, fun hp => ?_⟩
  unfold certify_table_water_p at hp
  refine ⟨Nat.le_of_ble_eq_true rfl, (fun id st => bif Nat.beq id 0 then some (LC (ρ := Empty) (σ := List Fault) (lk 2 st.t = .ptr 2 0 ∧ lk 3 st.t = .ptr 3 0 ∧ lk 9 st.t = .fn 69 [] [.ep [.v (.string t_.d.name), .v (.int .i64 t_.d.hours), .v (.int .i64 t_.d.tank.cap), .v (.int .i64 t_.d.tank.start), .rs .reach t_.d.reaches, .rs .farm t_.d.farms, .rs .crop t_.d.crops, .rs .right t_.d.rights, .rs .duty t_.d.duties, .rs .well t_.d.wells, .rs .order t_.l, .rm .certifyPlace .int t_.litres, .rs .ints t_.sums, .rs .ints t_.drawn] 0] ∧ st.h = [.cells [.os 1], .row .fault l_, .cells [.v (.string t_.d.name), .v (.int .i64 t_.d.hours), .v (.int .i64 t_.d.tank.cap), .v (.int .i64 t_.d.tank.start), .rs .reach t_.d.reaches, .rs .farm t_.d.farms, .rs .crop t_.d.crops, .rs .right t_.d.rights, .rs .duty t_.d.duties, .rs .well t_.d.wells, .rs .order t_.l, .rm .certifyPlace .int t_.litres, .rs .ints t_.sums, .rs .ints t_.drawn], .cells [.fn 27 [] [.ptr 0 0]]] ∧ t_.d.hours < 9223372036854775808 ∧ okL (certify_table_water_l0 t_) (certify_table_water_l0_p t_) (certify_cells t_) l_) (runL (certify_table_water_l0 t_) (certify_cells t_) l_) (fun x => x.elim) (fun x => x.elim) (fun s_0 => ⟨[(2, .ptr 2 0), (3, .ptr 3 0)], [.cells [.os 4], .dead, .cells [.v (.string t_.d.name), .v (.int .i64 t_.d.hours), .v (.int .i64 t_.d.tank.cap), .v (.int .i64 t_.d.tank.start), .rs .reach t_.d.reaches, .rs .farm t_.d.farms, .rs .crop t_.d.crops, .rs .right t_.d.rights, .rs .duty t_.d.duties, .rs .well t_.d.wells, .rs .order t_.l, .rm .certifyPlace .int t_.litres, .rs .ints t_.sums, .rs .ints t_.drawn], .cells [.fn 27 [] [.ptr 0 0]], .row .fault s_0]⟩)) else none), ?_, ?_⟩
  · unfold bodyOf Try.f31
    simp only [loopsOk, true_and, and_true]
    · refine rangeL_ok mixed ts_ok hG (by decide) (by decide) (by kernel_rfl) (by kernel_rfl) fun st lc hC hp => ?_
      simp only [go_sem, Nat.reduceBEq, Option.some.injEq] at hC
      subst hC
      obtain ⟨t, h⟩ := st
      dsimp only [LC] at hp
      obtain ⟨e0_0, e0_1, e0_2, rfl, hb0, hok0⟩ := hp
      refine ⟨69, [.ep [.v (.string t_.d.name), .v (.int .i64 t_.d.hours), .v (.int .i64 t_.d.tank.cap), .v (.int .i64 t_.d.tank.start), .rs .reach t_.d.reaches, .rs .farm t_.d.farms, .rs .crop t_.d.crops, .rs .right t_.d.rights, .rs .duty t_.d.duties, .rs .well t_.d.wells, .rs .order t_.l, .rm .certifyPlace .int t_.litres, .rs .ints t_.sums, .rs .ints t_.drawn] 0], Int × Int, _, _, (certify_cells t_), cellI, (certify_table_water_l0 t_), (certify_table_water_l0_p t_), _, l_, _, _, _, [(2, .ptr 2 0), (3, .ptr 3 0)], (fun s_0 => [.cells [.os 4], .dead, .cells [.v (.string t_.d.name), .v (.int .i64 t_.d.hours), .v (.int .i64 t_.d.tank.cap), .v (.int .i64 t_.d.tank.start), .rs .reach t_.d.reaches, .rs .farm t_.d.farms, .rs .crop t_.d.crops, .rs .right t_.d.rights, .rs .duty t_.d.duties, .rs .well t_.d.wells, .rs .order t_.l, .rm .certifyPlace .int t_.litres, .rs .ints t_.sums, .rs .ints t_.drawn], .cells [.fn 27 [] [.ptr 0 0]], .row .fault s_0]), (fun x => x.elim), [0, 1, 2, 3, 1], ?_, rfl, hok0, Nat.le_of_ble_eq_true rfl, ?_, ok_cells_it t_ hb0, fun z_0 s_0 hq0 => ⟨rfl, (fun id st => none), fun l => ?_, fun l => ?_, ?_⟩, fun s_0 => ?_, fun y => ?_⟩
      · simp only [go_sem, e0_0, e0_1, e0_2]
      · simp only [go_sem, Nat.reduceBEq, Nat.reduceLeDiff, Nat.reduceAdd, Nat.reduceSub, Nat.reduceMul, Int.reduceLE, Int.reduceLT, Int.reduceToNat, Int.reduceNeg, reduceCtorEq, killL, capIds, List.flatMap_cons, List.flatMap_nil, List.nil_append, List.append_nil, List.map_nil, e0_0, e0_1, e0_2]
        all_goals (first | done | decide | (repeat' (first | refine And.intro ?_ ?_ | rfl | decide)))
      · simp only [loopsOk, and_self, true_and, and_true]
      · simp only [loopsOk, and_self, true_and, and_true]
      · unfold certify_table_water_l0_p at hq0
        simp only [go_sem, Nat.reduceBEq, Nat.reduceLeDiff, Nat.reduceAdd, Nat.reduceSub, Nat.reduceMul, Int.reduceLE, Int.reduceLT, Int.reduceToNat, Int.reduceNeg, reduceCtorEq, C_certify_table_arrives, C_certify_Faults_1, C_certify_table_cells, certify_table_water_l0, psT, cellI, List.cons_append, List.nil_append]
        all_goals exact crSxR7_2
      · simp only [go_sem, Nat.reduceBEq, Nat.reduceLeDiff, Nat.reduceAdd, Nat.reduceSub, Nat.reduceMul, Int.reduceLE, Int.reduceLT, Int.reduceToNat, Int.reduceNeg, reduceCtorEq, C_certify_table_arrives, C_certify_Faults_1, C_certify_table_cells]
        all_goals exact crSxR7_2
      · simp only [go_sem, Nat.reduceBEq, Nat.reduceLeDiff, Nat.reduceAdd, Nat.reduceSub, Nat.reduceMul, Int.reduceLE, Int.reduceLT, Int.reduceToNat, Int.reduceNeg, reduceCtorEq, C_certify_table_arrives, C_certify_Faults_1, C_certify_table_cells]
        all_goals exact crSxR7_2
  · unfold bodyOf Try.f31
    try unfold certify_table_water
    simp only [go_sem, Nat.reduceBEq, Nat.reduceLeDiff, Nat.reduceAdd, Nat.reduceSub, Nat.reduceMul, Int.reduceLE, Int.reduceLT, Int.reduceToNat, Int.reduceNeg, reduceCtorEq, C_certify_table_arrives, C_certify_Faults_1, C_certify_table_cells]
    all_goals exact crSxR7_1
end Go.Sx
end
section
namespace Go.Sx
open Go.RowKit
def nil1 (k : Tag) (i : Nat) (t : List (Nat × SV)) (h : List Ob) : SV → St
  | .v (.slice none 0 0) => ⟨(i, .os h.length) :: t, h ++ [.row k []]⟩
  | _ => ⟨t, h⟩
def nil2 (k : Tag) (id off : Nat) (t : List (Nat × SV)) (h : List Ob) (l : List SV) : Option SV → St
  | some (.v (.slice none 0 0)) => ⟨t, obSet h id (.cells (l.set off (.os h.length))) ++ [.row k []]⟩
  | _ => ⟨t, h⟩
def nil3 (k : Tag) (id off : Nat) (t : List (Nat × SV)) (h : List Ob) : Ob → St
  | .cells l => nil2 k id off t h l (nth l off)
  | _ => ⟨t, h⟩
def nil4 (k : Tag) (t : List (Nat × SV)) (h : List Ob) : SV → St
  | .ptr id off => nil3 k id off t h (obAt h id)
  | _ => ⟨t, h⟩
def nilR1 (k : Tag) : ResultVar → List (Nat × SV) → List Ob → St
  | .tmp i, t, h => nil1 k i t h (lk i t)
  | .cell i _, t, h => nil4 k t h (lk i t)
def nilR : List (ResultVar × Tag) → St → St
  | [], st => st
  | x :: r, st => nilR r (nilR1 x.2 x.1 st.t st.h)
theorem nilR1_s (k : Tag) (r : ResultVar) (st : St) : NilS st (nilR1 k r st.t st.h) := by
  obtain ⟨t, h⟩ := st
  cases r with
  | tmp i =>
    show NilS _ (nil1 k i t h (lk i t))
    unfold nil1
    split
    · rename_i e
      exact .slot _ (.refl _) e (.inl ⟨_, rfl⟩)
    · exact .refl _
  | cell i _ =>
    show NilS _ (nil4 k t h (lk i t))
    unfold nil4
    split
    · unfold nil3
      split
      · rename_i e
        unfold nil2
        split
        · rename_i e2
          exact .cell _ (.refl _) e (by rw [← nth_eq]; exact e2) (.inl ⟨_, rfl⟩)
        · exact .refl _
      · exact .refl _
    · exact .refl _
theorem NilS.trans {a b c : St} (h1 : NilS a b) (h2 : NilS b c) : NilS a c := by
  induction h2 with
  | refl => exact h1
  | cell o _ e1 e2 ho ih => exact .cell o ih e1 e2 ho
  | slot o _ e1 ho ih => exact .slot o ih e1 ho
theorem nilR_s (l : List (ResultVar × Tag)) : ∀ st, NilS st (nilR l st) := by
  induction l with
  | nil => exact fun st => .refl _
  | cons x r ih => exact fun st => (nilR1_s x.2 x.1 st).trans (ih _)
def doneW (l : List (ResultVar × Tag)) (rs : List ResultVar) (ts : Tis) (post : SV → Prop) (pp : Value → Prop) : Ex → St → Prop
  | .exit _, _ => False
  | .normal, st => donePost post (retM true rs ts (nilR l st))
  | .ret, st => donePost post (retM true rs ts (nilR l st))
  | .pan x, _ => pp x
section
variable {l : List (ResultVar × Tag)} {rs : List ResultVar} {ts : Tis} {post : SV → Prop} {pp : Value → Prop} {st : St} {k : Tag} {i id off : Nat} {t : List (Nat × SV)} {h : List Ob} {m : List SV}
@[go_sem] theorem doneW_ret : doneW l rs ts post pp .ret st = donePost post (retM true rs ts (nilR l st)) := (rfl)
@[go_sem] theorem doneW_normal : doneW l rs ts post pp .normal st = donePost post (retM true rs ts (nilR l st)) := (rfl)
@[go_sem] theorem doneW_pan {x : Value} : doneW l rs ts post pp (.pan x) st = pp x := (rfl)
@[go_sem] theorem nilR_nil : nilR [] st = st := (rfl)
@[go_sem] theorem nilR_cons {r : ResultVar} : nilR ((r, k) :: l) ⟨t, h⟩ = nilR l (nilR1 k r t h) := (rfl)
@[go_sem] theorem nilR1_tmp : nilR1 k (.tmp i) t h = nil1 k i t h (lk i t) := (rfl)
@[go_sem] theorem nilR1_cell {ty : TypeId} : nilR1 k (.cell i ty) t h = nil4 k t h (lk i t) := (rfl)
@[go_sem] theorem nil1_nil : nil1 k i t h (.v (.slice none 0 0)) = ⟨(i, .os h.length) :: t, h ++ [.row k []]⟩ := (rfl)
@[go_sem] theorem nil1_os : nil1 k i t h (.os id) = ⟨t, h⟩ := (rfl)
@[go_sem] theorem nil4_ptr : nil4 k t h (.ptr id off) = nil3 k id off t h (obAt h id) := (rfl)
@[go_sem] theorem nil3_cells : nil3 k id off t h (.cells m) = nil2 k id off t h m (nth m off) := (rfl)
@[go_sem] theorem nil2_nil : nil2 k id off t h m (some (.v (.slice none 0 0))) = ⟨t, obSet h id (.cells (m.set off (.os h.length))) ++ [.row k []]⟩ := (rfl)
@[go_sem] theorem nil2_os : nil2 k id off t h m (some (.os i)) = ⟨t, h⟩ := (rfl)
attribute [go_sem] List.set_cons_zero
end
section
variable {P : Program} {ts : Tis} {G : Cons}
theorem fn_okW (l : List (ResultVar × Tag)) (hm : P.follows .mixedOrders = true) (hts : ts.ok P) (hG : ConsOk P G) {f : FuncId} {fn : Func} {c : Code} (hf : P.funcs[f]? = some fn) (hb : fn.body = some c) (hname : (fn.name == "runtime.NumGoroutine") = false)
    (hc : okCode fn.ntmps c = true) {C : List SV → Option Con}
    (h : ∀ l0 con, C l0 = some con → conPre con → l0.length ≤ fn.ntmps ∧ ∃ L, loopsOk P none fn.ntmps L c ∧ exec ts G L c ⟨initT 0 l0, []⟩ (doneW l fn.results.toList ts (conPost con) (conPan con))) : FnOk P f C := by
  refine ⟨fun l con _ args w => ?_, fun l0 con hcon hpre F w vs hF hvs => ?_⟩
  · have hn : ¬ fn.name = "runtime.NumGoroutine" := by simpa using hname
    simp [callFunc, hf, hn, hb]
  · obtain ⟨hlen, L, hl, hx⟩ := h l0 con hcon hpre
    refine calls_wide (n := 0) (callsIn_of_wp_marks hf hb trivial ?_)
    have hr : StRel F { w := w, own := own0 } fn.ntmps own0 ⟨initT 0 l0, []⟩ { tmps := vs ++ Array.replicate (fn.ntmps - vs.size) undef, defers := [] } w :=
      ⟨by have := hvs.1; simp; omega, Dfr.nil, hp_none hF, Fr.refl _, fun t => start_slots hvs _ t⟩
    refine wpIn_mono (exec_ok hm hts hG c hc hl F _ _ hx own0 _ w hr) ?_
    intro e a' w' hq
    have key : ∀ F1 own st, (∀ b, F b → F1 b) → StRel F1 { w := w, own := own0 } fn.ntmps own st a' w' → donePost (conPost con) (retM true fn.results.toList ts (nilR l st)) → LeavesInM (rd none) 0 P fn a'.tmps
        (fun e w' => (∃ s u own', conPost con s ∧ e = .returned u ∧ Handed F w own' w' s u ∧ Below w.heap.size w w') ∨ (∃ x, conPan con x ∧ e = .panicked [{ v := x, recovered := false }] ∧ Below w.heap.size w w')) a'.defers .returning w' := by
      intro F1 own0' st0 hF1 hst0 hdone
      obtain ⟨own, hst⟩ := (nilR_s l st0).rel hst0
      generalize nilR l st0 = st at hst hdone
      refine leave_ok hst (by simp) fun w2 hst2 => ?_
      have hst3 := hst2.less hF1 rfl
      unfold retM at hdone
      cases hs : tupO (retL ts st fn.results.toList) with
      | none =>
        simp only [cond_true, retG] at hdone; rw [hs] at hdone; exact hdone.elim
      | some s =>
        obtain ⟨u, e1, e2⟩ := retT_ok (P := P) hts hst3 hs
        refine ⟨u, e1, .inl ?_⟩
        simp only [cond_true, retG] at hdone
        rw [hs] at hdone
        change donePost (conPost con) (giveB st.h s) at hdone
        cases hg : giveB st.h s with
        | none => rw [hg] at hdone; exact hdone.elim
        | some s2 =>
          rw [hg] at hdone
          obtain ⟨own', hh⟩ := give_ok hst3 e2 hg
          exact ⟨_, u, own', hdone, rfl, hh, below_fr hst3.fr⟩
    cases e with
    | normal => obtain ⟨F1, own, st, h0, h1, h2⟩ := hq; exact key F1 own st h0 h1 h2
    | ret => obtain ⟨F1, own, st, h0, h1, h2⟩ := hq; exact key F1 own st h0 h1 h2
    | exit id => obtain ⟨F1, own, st, h0, h1, h2⟩ := hq; exact h2.elim
    | panic ch =>
      obtain ⟨x, F1, own, st, h0, h1, h2, rfl⟩ := hq
      exact leave_ok h1 (by simp) fun w2 hst2 => .inr ⟨x, h2, rfl, below_fr hst2.fr⟩
    | _ => exact hq.elim
end
end Go.Sx
end
section
namespace Go.Sx
open Go.Proofs
set_option maxRecDepth 100000
set_option linter.unusedSimpArgs false
theorem crSxR8_0 {p : Prop} (h : p := by (first | done | (repeat' (first | with_reducible refine And.intro ?_ ?_ | ((with_reducible show _ ≠ _); first | assumption | omega | (simp_all [outR, outL]; done) | grind) | with_reducible intro _)) <;> (first | done | exact Empty.elim ‹Empty› | assumption | rfl | omega | decide | exact fk [0, 1, 2, 4] | exact fk [0, 1, 2, 3] | (simp only [*, cond_true, cond_false, Bool.not_true, Bool.not_false, go_sem, Nat.reduceBEq, Nat.reduceLeDiff, Nat.reduceAdd, Nat.reduceSub, Nat.reduceMul, Int.reduceLE, Int.reduceLT, Int.reduceToNat, Int.reduceNeg, reduceCtorEq]; done) | (simp only [*, cond_true, cond_false, Bool.not_true, Bool.not_false, go_sem, Nat.reduceBEq, Nat.reduceLeDiff, Nat.reduceAdd, Nat.reduceSub, Nat.reduceMul, Int.reduceLE, Int.reduceLT, Int.reduceToNat, Int.reduceNeg, reduceCtorEq]; (repeat' (first | with_reducible refine And.intro ?_ ?_ | ((with_reducible show _ ≠ _); first | assumption | omega | (simp_all [outR, outL]; done) | grind) | with_reducible intro _)) <;> (first | done | assumption | rfl | omega | decide | exact fk [0, 1, 2, 4] | exact fk [0, 1, 2, 3] | (simp_all [outR, outL]; done))) | (simp_all [okI, outR, outL]; done) | (simp_all [outR, outL]; (first | done | exact fk2 [0, 1, 2, 4] | exact fk2 [0, 1, 2, 3])) | exact fk2 [0, 1, 2, 4] | exact fk2 [0, 1, 2, 3]))) : p := h
def certify_Faults_l0 (d : District) (c : List Claim) (l_ : List Order) : Nat → (List Fault) → Empty ⊕ (List Fault) := fun k_0 s_0 => (bif (Nat.beq k_0 0) then .inr (certify_table_gates_1 ((certify_read d l_).1) 1 s_0) else (bif (Nat.beq k_0 1) then .inr (certify_table_gates_1 ((certify_read d l_).1) 2 s_0) else (bif (Nat.beq k_0 2) then .inr (certify_table_banks ((certify_read d l_).1) s_0) else (bif (Nat.beq k_0 3) then .inr (certify_table_tank ((certify_read d l_).1) s_0) else (bif (Nat.beq k_0 4) then .inr (certify_table_water ((certify_read d l_).1) s_0) else .inr (certify_table_unmet_1 c ((certify_read d l_).1) s_0))))))
def certify_Faults_l0_p (d : District) (c : List Claim) (l_ : List Order) : Nat → (List Fault) → Prop := fun k_0 s_0 => (((Nat.beq k_0 0) = true → (certify_table_gates_1_p ((certify_read d l_).1) 1 s_0)) ∧ ((Nat.beq k_0 0) = false → (((Nat.beq k_0 1) = true → (certify_table_gates_1_p ((certify_read d l_).1) 2 s_0)) ∧ ((Nat.beq k_0 1) = false → (((Nat.beq k_0 2) = true → (certify_table_banks_p ((certify_read d l_).1) s_0)) ∧ ((Nat.beq k_0 2) = false → (((Nat.beq k_0 3) = true → (certify_table_tank_p ((certify_read d l_).1) s_0)) ∧ ((Nat.beq k_0 3) = false → (((Nat.beq k_0 4) = true → (certify_table_water_p ((certify_read d l_).1) s_0)) ∧ ((Nat.beq k_0 4) = false → (certify_table_unmet_1_p c ((certify_read d l_).1) s_0)))))))))))
def certify_Faults (d : District) (c : List Claim) (l_ : List Order) : List Fault × Int := (bif ((claims_Check d c) != 0) then ([], (claims_Check d c)) else (bif ((certify_read d l_).2 != 0) then ([], (certify_read d l_).2) else (match runI (certify_Faults_l0 d c l_) 6 0 ([]) with | .inl x => x.elim | .inr s_0 => (s_0, 0))))
def certify_Faults_p (d : District) (c : List Claim) (l_ : List Order) : Prop := ((claims_Check_p d c) ∧ (((claims_Check d c) != 0) = false → ((certify_read_p d l_) ∧ (((certify_read d l_).2 != 0) = false → okI (certify_Faults_l0 d c l_) (certify_Faults_l0_p d c l_) 6 0 ([])))))
def C_certify_Faults : List SV → Option Con := (pD .district fun d => (pR .claim fun c => (pR .order fun l_ => pE (.det (certify_Faults_p d c l_) (.tup [.nw .fault ((certify_Faults d c l_).1), .v (.int .i64 ((certify_Faults d c l_).2))])))))
set_option maxHeartbeats 4000000 in
theorem ok_certify_Faults : FnOk Try.prog 12 C_certify_Faults := by
  have hG : ConsOk Try.prog (mkG [(21, fun l => C_certify_read (nrmA [.st .district, .sl .order] l)), (26, fun l => C_claims_Check (nrmA [.st .district, .sl .claim] l)), (28, fun l => C_certify_table_gates (nrmA [.st .certifyTable, .o] l)), (32, fun l => C_certify_table_unmet (nrmA [.st .certifyTable, .sl .claim] l))] [(29, C_certify_table_banks), (30, C_certify_table_tank), (31, C_certify_table_water), (48, C_certify_table_gates_1), (50, C_certify_table_unmet_1)]) := mkG_ok (cgc (ok_certify_read.norm [.st .district, .sl .order]) (cgc (ok_claims_Check.norm [.st .district, .sl .claim]) (cgc (ok_certify_table_gates.norm [.st .certifyTable, .o]) (cgc (ok_certify_table_unmet.norm [.st .certifyTable, .sl .claim]) cg0)))) (cgc ok_certify_table_banks (cgc ok_certify_table_tank (cgc ok_certify_table_water (cgc ok_certify_table_gates_1 (cgc ok_certify_table_unmet_1 cg0)))))
  refine fn_okW [(.cell 6 53, .fault)] mixed ts_ok hG (fn := Try.f12) (c := bodyOf Try.f12) (by kernel_rfl) (by kernel_rfl) (by kernel_rfl) (by kernel_rfl) fun l con h hp => ?_
  unfold C_certify_Faults at h
  obtain ⟨d, l0, rfl, h0⟩ := pD_inv h
  obtain ⟨c, l1, rfl, h1⟩ := pR_inv h0
  obtain ⟨l_, l2, rfl, h2⟩ := pR_inv h1
  obtain ⟨rfl, rfl⟩ := pE_inv h2
  clear h h0 h1 h2
  dsimp only [conPre] at hp
  unfold certify_Faults_p at hp
  refine ⟨Nat.le_of_ble_eq_true rfl, (fun id st => bif Nat.beq id 0 then some (LC (ρ := Empty) (σ := List Fault) (lk 6 st.t = .ptr 1 0 ∧ lk 9 st.t = .fn 27 [] [.ptr 1 0] ∧ lk 41 st.t = .ls [.fn 48 [] [.ep [.v (.string (((certify_read d l_).1).d.name)), .v (.int .i64 (((certify_read d l_).1).d.hours)), .v (.int .i64 (((certify_read d l_).1).d.tank.cap)), .v (.int .i64 (((certify_read d l_).1).d.tank.start)), .rs .reach (((certify_read d l_).1).d.reaches), .rs .farm (((certify_read d l_).1).d.farms), .rs .crop (((certify_read d l_).1).d.crops), .rs .right (((certify_read d l_).1).d.rights), .rs .duty (((certify_read d l_).1).d.duties), .rs .well (((certify_read d l_).1).d.wells), .rs .order (((certify_read d l_).1).l), .rm .certifyPlace .int (((certify_read d l_).1).litres), .rs .ints (((certify_read d l_).1).sums), .rs .ints (((certify_read d l_).1).drawn)] 0, .ep [.v (.int .i64 1)] 0], .fn 48 [] [.ep [.v (.string (((certify_read d l_).1).d.name)), .v (.int .i64 (((certify_read d l_).1).d.hours)), .v (.int .i64 (((certify_read d l_).1).d.tank.cap)), .v (.int .i64 (((certify_read d l_).1).d.tank.start)), .rs .reach (((certify_read d l_).1).d.reaches), .rs .farm (((certify_read d l_).1).d.farms), .rs .crop (((certify_read d l_).1).d.crops), .rs .right (((certify_read d l_).1).d.rights), .rs .duty (((certify_read d l_).1).d.duties), .rs .well (((certify_read d l_).1).d.wells), .rs .order (((certify_read d l_).1).l), .rm .certifyPlace .int (((certify_read d l_).1).litres), .rs .ints (((certify_read d l_).1).sums), .rs .ints (((certify_read d l_).1).drawn)] 0, .ep [.v (.int .i64 2)] 0], .fn 29 [.agg [.v (.string (((certify_read d l_).1).d.name)), .v (.int .i64 (((certify_read d l_).1).d.hours)), .v (.int .i64 (((certify_read d l_).1).d.tank.cap)), .v (.int .i64 (((certify_read d l_).1).d.tank.start)), .rs .reach (((certify_read d l_).1).d.reaches), .rs .farm (((certify_read d l_).1).d.farms), .rs .crop (((certify_read d l_).1).d.crops), .rs .right (((certify_read d l_).1).d.rights), .rs .duty (((certify_read d l_).1).d.duties), .rs .well (((certify_read d l_).1).d.wells), .rs .order (((certify_read d l_).1).l), .rm .certifyPlace .int (((certify_read d l_).1).litres), .rs .ints (((certify_read d l_).1).sums), .rs .ints (((certify_read d l_).1).drawn)]] [], .fn 30 [.agg [.v (.string (((certify_read d l_).1).d.name)), .v (.int .i64 (((certify_read d l_).1).d.hours)), .v (.int .i64 (((certify_read d l_).1).d.tank.cap)), .v (.int .i64 (((certify_read d l_).1).d.tank.start)), .rs .reach (((certify_read d l_).1).d.reaches), .rs .farm (((certify_read d l_).1).d.farms), .rs .crop (((certify_read d l_).1).d.crops), .rs .right (((certify_read d l_).1).d.rights), .rs .duty (((certify_read d l_).1).d.duties), .rs .well (((certify_read d l_).1).d.wells), .rs .order (((certify_read d l_).1).l), .rm .certifyPlace .int (((certify_read d l_).1).litres), .rs .ints (((certify_read d l_).1).sums), .rs .ints (((certify_read d l_).1).drawn)]] [], .fn 31 [.agg [.v (.string (((certify_read d l_).1).d.name)), .v (.int .i64 (((certify_read d l_).1).d.hours)), .v (.int .i64 (((certify_read d l_).1).d.tank.cap)), .v (.int .i64 (((certify_read d l_).1).d.tank.start)), .rs .reach (((certify_read d l_).1).d.reaches), .rs .farm (((certify_read d l_).1).d.farms), .rs .crop (((certify_read d l_).1).d.crops), .rs .right (((certify_read d l_).1).d.rights), .rs .duty (((certify_read d l_).1).d.duties), .rs .well (((certify_read d l_).1).d.wells), .rs .order (((certify_read d l_).1).l), .rm .certifyPlace .int (((certify_read d l_).1).litres), .rs .ints (((certify_read d l_).1).sums), .rs .ints (((certify_read d l_).1).drawn)]] [], .fn 50 [] [.ep [.rs .claim c] 0, .ep [.v (.string (((certify_read d l_).1).d.name)), .v (.int .i64 (((certify_read d l_).1).d.hours)), .v (.int .i64 (((certify_read d l_).1).d.tank.cap)), .v (.int .i64 (((certify_read d l_).1).d.tank.start)), .rs .reach (((certify_read d l_).1).d.reaches), .rs .farm (((certify_read d l_).1).d.farms), .rs .crop (((certify_read d l_).1).d.crops), .rs .right (((certify_read d l_).1).d.rights), .rs .duty (((certify_read d l_).1).d.duties), .rs .well (((certify_read d l_).1).d.wells), .rs .order (((certify_read d l_).1).l), .rm .certifyPlace .int (((certify_read d l_).1).litres), .rs .ints (((certify_read d l_).1).sums), .rs .ints (((certify_read d l_).1).drawn)] 0]] ∧ lk 42 st.t = .v (.int .i64 6) ∧ lk 43 st.t = .v (.int .i64 0) ∧ st.h = [.cells [.v (.string d.name), .v (.int .i64 d.hours), .v (.int .i64 d.tank.cap), .v (.int .i64 d.tank.start), .rs .reach d.reaches, .rs .farm d.farms, .rs .crop d.crops, .rs .right d.rights, .rs .duty d.duties, .rs .well d.wells], .cells [.v (.slice none 0 0)], .cells [.v (.string (((certify_read d l_).1).d.name)), .v (.int .i64 (((certify_read d l_).1).d.hours)), .v (.int .i64 (((certify_read d l_).1).d.tank.cap)), .v (.int .i64 (((certify_read d l_).1).d.tank.start)), .rs .reach (((certify_read d l_).1).d.reaches), .rs .farm (((certify_read d l_).1).d.farms), .rs .crop (((certify_read d l_).1).d.crops), .rs .right (((certify_read d l_).1).d.rights), .rs .duty (((certify_read d l_).1).d.duties), .rs .well (((certify_read d l_).1).d.wells), .rs .order (((certify_read d l_).1).l), .rm .certifyPlace .int (((certify_read d l_).1).litres), .rs .ints (((certify_read d l_).1).sums), .rs .ints (((certify_read d l_).1).drawn)]] ∧ okI (certify_Faults_l0 d c l_) (certify_Faults_l0_p d c l_) 6 0 ([])) (runI (certify_Faults_l0 d c l_) 6 0 ([])) (fun x => x.elim) (fun x => x.elim) (fun s_0 => ⟨[(6, .ptr 1 0)], [.dead, .cells [.os 3], .dead, .row .fault s_0]⟩)) else none), ?_, ?_⟩
  · unfold bodyOf Try.f12
    simp only [loopsOk, true_and, and_true]
    · refine count_okR mixed ts_ok hG (by kernel_rfl) fun st lc hC hp => ?_
      simp only [go_sem, Nat.reduceBEq, Option.some.injEq] at hC
      subst hC
      obtain ⟨t, h⟩ := st
      dsimp only [LC] at hp
      obtain ⟨e0_0, e0_1, e0_2, e0_3, e0_4, rfl, hok0⟩ := hp
      refine ⟨_, _, _, (certify_Faults_l0 d c l_), (certify_Faults_l0_p d c l_), 6, [], _, _, _, (fun k_0 s_0 => ⟨[(6, .ptr 1 0), (9, .fn 27 [] [.ptr 1 0]), (41, .ls [.fn 48 [] [.ep [.v (.string (((certify_read d l_).1).d.name)), .v (.int .i64 (((certify_read d l_).1).d.hours)), .v (.int .i64 (((certify_read d l_).1).d.tank.cap)), .v (.int .i64 (((certify_read d l_).1).d.tank.start)), .rs .reach (((certify_read d l_).1).d.reaches), .rs .farm (((certify_read d l_).1).d.farms), .rs .crop (((certify_read d l_).1).d.crops), .rs .right (((certify_read d l_).1).d.rights), .rs .duty (((certify_read d l_).1).d.duties), .rs .well (((certify_read d l_).1).d.wells), .rs .order (((certify_read d l_).1).l), .rm .certifyPlace .int (((certify_read d l_).1).litres), .rs .ints (((certify_read d l_).1).sums), .rs .ints (((certify_read d l_).1).drawn)] 0, .ep [.v (.int .i64 1)] 0], .fn 48 [] [.ep [.v (.string (((certify_read d l_).1).d.name)), .v (.int .i64 (((certify_read d l_).1).d.hours)), .v (.int .i64 (((certify_read d l_).1).d.tank.cap)), .v (.int .i64 (((certify_read d l_).1).d.tank.start)), .rs .reach (((certify_read d l_).1).d.reaches), .rs .farm (((certify_read d l_).1).d.farms), .rs .crop (((certify_read d l_).1).d.crops), .rs .right (((certify_read d l_).1).d.rights), .rs .duty (((certify_read d l_).1).d.duties), .rs .well (((certify_read d l_).1).d.wells), .rs .order (((certify_read d l_).1).l), .rm .certifyPlace .int (((certify_read d l_).1).litres), .rs .ints (((certify_read d l_).1).sums), .rs .ints (((certify_read d l_).1).drawn)] 0, .ep [.v (.int .i64 2)] 0], .fn 29 [.agg [.v (.string (((certify_read d l_).1).d.name)), .v (.int .i64 (((certify_read d l_).1).d.hours)), .v (.int .i64 (((certify_read d l_).1).d.tank.cap)), .v (.int .i64 (((certify_read d l_).1).d.tank.start)), .rs .reach (((certify_read d l_).1).d.reaches), .rs .farm (((certify_read d l_).1).d.farms), .rs .crop (((certify_read d l_).1).d.crops), .rs .right (((certify_read d l_).1).d.rights), .rs .duty (((certify_read d l_).1).d.duties), .rs .well (((certify_read d l_).1).d.wells), .rs .order (((certify_read d l_).1).l), .rm .certifyPlace .int (((certify_read d l_).1).litres), .rs .ints (((certify_read d l_).1).sums), .rs .ints (((certify_read d l_).1).drawn)]] [], .fn 30 [.agg [.v (.string (((certify_read d l_).1).d.name)), .v (.int .i64 (((certify_read d l_).1).d.hours)), .v (.int .i64 (((certify_read d l_).1).d.tank.cap)), .v (.int .i64 (((certify_read d l_).1).d.tank.start)), .rs .reach (((certify_read d l_).1).d.reaches), .rs .farm (((certify_read d l_).1).d.farms), .rs .crop (((certify_read d l_).1).d.crops), .rs .right (((certify_read d l_).1).d.rights), .rs .duty (((certify_read d l_).1).d.duties), .rs .well (((certify_read d l_).1).d.wells), .rs .order (((certify_read d l_).1).l), .rm .certifyPlace .int (((certify_read d l_).1).litres), .rs .ints (((certify_read d l_).1).sums), .rs .ints (((certify_read d l_).1).drawn)]] [], .fn 31 [.agg [.v (.string (((certify_read d l_).1).d.name)), .v (.int .i64 (((certify_read d l_).1).d.hours)), .v (.int .i64 (((certify_read d l_).1).d.tank.cap)), .v (.int .i64 (((certify_read d l_).1).d.tank.start)), .rs .reach (((certify_read d l_).1).d.reaches), .rs .farm (((certify_read d l_).1).d.farms), .rs .crop (((certify_read d l_).1).d.crops), .rs .right (((certify_read d l_).1).d.rights), .rs .duty (((certify_read d l_).1).d.duties), .rs .well (((certify_read d l_).1).d.wells), .rs .order (((certify_read d l_).1).l), .rm .certifyPlace .int (((certify_read d l_).1).litres), .rs .ints (((certify_read d l_).1).sums), .rs .ints (((certify_read d l_).1).drawn)]] [], .fn 50 [] [.ep [.rs .claim c] 0, .ep [.v (.string (((certify_read d l_).1).d.name)), .v (.int .i64 (((certify_read d l_).1).d.hours)), .v (.int .i64 (((certify_read d l_).1).d.tank.cap)), .v (.int .i64 (((certify_read d l_).1).d.tank.start)), .rs .reach (((certify_read d l_).1).d.reaches), .rs .farm (((certify_read d l_).1).d.farms), .rs .crop (((certify_read d l_).1).d.crops), .rs .right (((certify_read d l_).1).d.rights), .rs .duty (((certify_read d l_).1).d.duties), .rs .well (((certify_read d l_).1).d.wells), .rs .order (((certify_read d l_).1).l), .rm .certifyPlace .int (((certify_read d l_).1).litres), .rs .ints (((certify_read d l_).1).sums), .rs .ints (((certify_read d l_).1).drawn)] 0]]), (42, .v (.int .i64 6)), (43, .v (.int .i64 (k_0 : Int)))], [.dead, .cells [.os 3], .dead, .row .fault s_0]⟩), ⟨t, [.cells [.v (.string d.name), .v (.int .i64 d.hours), .v (.int .i64 d.tank.cap), .v (.int .i64 d.tank.start), .rs .reach d.reaches, .rs .farm d.farms, .rs .crop d.crops, .rs .right d.rights, .rs .duty d.duties, .rs .well d.wells], .cells [.os 3], .cells [.v (.string (((certify_read d l_).1).d.name)), .v (.int .i64 (((certify_read d l_).1).d.hours)), .v (.int .i64 (((certify_read d l_).1).d.tank.cap)), .v (.int .i64 (((certify_read d l_).1).d.tank.start)), .rs .reach (((certify_read d l_).1).d.reaches), .rs .farm (((certify_read d l_).1).d.farms), .rs .crop (((certify_read d l_).1).d.crops), .rs .right (((certify_read d l_).1).d.rights), .rs .duty (((certify_read d l_).1).d.duties), .rs .well (((certify_read d l_).1).d.wells), .rs .order (((certify_read d l_).1).l), .rm .certifyPlace .int (((certify_read d l_).1).litres), .rs .ints (((certify_read d l_).1).sums), .rs .ints (((certify_read d l_).1).drawn)], .row .fault ([])]⟩, [0, 1, 2, 3], rfl, hok0, NilS.cell (h := [.cells [.v (.string d.name), .v (.int .i64 d.hours), .v (.int .i64 d.tank.cap), .v (.int .i64 d.tank.start), .rs .reach d.reaches, .rs .farm d.farms, .rs .crop d.crops, .rs .right d.rights, .rs .duty d.duties, .rs .well d.wells], .cells [.v (.slice none 0 0)], .cells [.v (.string (((certify_read d l_).1).d.name)), .v (.int .i64 (((certify_read d l_).1).d.hours)), .v (.int .i64 (((certify_read d l_).1).d.tank.cap)), .v (.int .i64 (((certify_read d l_).1).d.tank.start)), .rs .reach (((certify_read d l_).1).d.reaches), .rs .farm (((certify_read d l_).1).d.farms), .rs .crop (((certify_read d l_).1).d.crops), .rs .right (((certify_read d l_).1).d.rights), .rs .duty (((certify_read d l_).1).d.duties), .rs .well (((certify_read d l_).1).d.wells), .rs .order (((certify_read d l_).1).l), .rm .certifyPlace .int (((certify_read d l_).1).litres), .rs .ints (((certify_read d l_).1).sums), .rs .ints (((certify_read d l_).1).drawn)]]) (i := 1) (j := 0) (.row .fault ([])) (NilS.refl _) rfl rfl (.inl ⟨_, rfl⟩), Nat.le_of_ble_eq_true rfl, ?_, fun k_0 s_0 hk0 hp0 => ?_⟩
      · simp only [go_sem, Nat.reduceBEq, Nat.reduceLeDiff, Nat.reduceAdd, Nat.reduceSub, Nat.reduceMul, Int.reduceLE, Int.reduceLT, Int.reduceToNat, Int.reduceNeg, reduceCtorEq, e0_0, e0_1, e0_2, e0_3, e0_4]
        all_goals (first | done | decide | (repeat' (first | refine And.intro ?_ ?_ | rfl | decide)))
      refine ⟨(fun id st => none), ?_, ?_⟩
      · simp only [loopsOk, and_self, true_and, and_true]
      · have hkk : k_0 = 0 ∨ k_0 = 1 ∨ k_0 = 2 ∨ k_0 = 3 ∨ k_0 = 4 ∨ k_0 = 5 ∨ k_0 = 6 := by omega
        have hw0_0 : IntKind.i64.wrap ((0 : Int) + 1) = ((0 + 1 : Nat) : Int) := by decide
        have hw0_1 : IntKind.i64.wrap ((1 : Int) + 1) = ((1 + 1 : Nat) : Int) := by decide
        have hw0_2 : IntKind.i64.wrap ((2 : Int) + 1) = ((2 + 1 : Nat) : Int) := by decide
        have hw0_3 : IntKind.i64.wrap ((3 : Int) + 1) = ((3 + 1 : Nat) : Int) := by decide
        have hw0_4 : IntKind.i64.wrap ((4 : Int) + 1) = ((4 + 1 : Nat) : Int) := by decide
        have hw0_5 : IntKind.i64.wrap ((5 : Int) + 1) = ((5 + 1 : Nat) : Int) := by decide
        rcases hkk with rfl | rfl | rfl | rfl | rfl | rfl | rfl
        all_goals try (have hq0 := hp0 (by decide))
        all_goals try unfold certify_Faults_l0_p at hq0
        all_goals try simp only [go_sem, Nat.reduceBEq, Nat.reduceEqDiff, cond_true, cond_false, true_imp_iff, false_imp_iff, Bool.false_eq_true, true_and, and_true, reduceCtorEq] at hq0
        all_goals simp only [go_sem, Nat.reduceBEq, Nat.reduceLeDiff, Nat.reduceAdd, Nat.reduceSub, Nat.reduceMul, Int.reduceLE, Int.reduceLT, Int.reduceToNat, Int.reduceNeg, reduceCtorEq, C_certify_read, C_claims_Check, C_certify_table_gates, C_certify_table_banks, C_certify_table_tank, C_certify_table_water, C_certify_table_unmet, C_certify_table_gates_1, C_certify_table_unmet_1, certify_Faults_l0, Int.cast_ofNat_Int, Nat.reduceLT, Nat.reduceEqDiff]
        all_goals exact crSxR8_0
  · unfold bodyOf Try.f12
    try unfold certify_Faults
    simp only [go_sem, Nat.reduceBEq, Nat.reduceLeDiff, Nat.reduceAdd, Nat.reduceSub, Nat.reduceMul, Int.reduceLE, Int.reduceLT, Int.reduceToNat, Int.reduceNeg, reduceCtorEq, C_certify_read, C_claims_Check, C_certify_table_gates, C_certify_table_banks, C_certify_table_tank, C_certify_table_water, C_certify_table_unmet, C_certify_table_gates_1, C_certify_table_unmet_1]
    all_goals exact cl
end Go.Sx
end
section
namespace Go.Sx
open Go.Proofs
set_option maxRecDepth 100000
set_option linter.unusedSimpArgs false
def ref19_Few (d : District) : Bool := ((((((decide ((d.reaches.length : Int) ≤ 100)) && (decide ((d.farms.length : Int) ≤ 700))) && (decide ((d.crops.length : Int) ≤ 100))) && (decide ((d.rights.length : Int) ≤ 300))) && (decide ((d.duties.length : Int) ≤ 300))) && (decide ((d.wells.length : Int) ≤ 100)))
def C_ref19_Few : List SV → Option Con := (pD .district fun d => pE (.det True (.v (.bool (ref19_Few d)))))
theorem ok_ref19_Few : FnOk Try.prog 35 C_ref19_Few := by
  have hG : ConsOk Try.prog (mkG [] []) := mkG_ok cg0 cg0
  refine fn_okN [.o] mixed ts_ok hG (fn := Try.f35) (c := bodyOf Try.f35) (by kernel_rfl) (by kernel_rfl) (by kernel_rfl) (by kernel_rfl) fun l con h hp => ?_
  unfold C_ref19_Few at h
  obtain ⟨d, l0, rfl, h0⟩ := pD_inv h
  obtain ⟨rfl, rfl⟩ := pE_inv h0
  clear h h0
  dsimp only [conPre] at hp
  refine ⟨Nat.le_of_ble_eq_true rfl, (fun id st => none), ?_, ?_⟩
  · unfold bodyOf Try.f35
    simp only [loopsOk, and_self, true_and, and_true]
  · unfold bodyOf Try.f35
    try unfold ref19_Few
    simp only [go_sem, Nat.reduceBEq, Nat.reduceLeDiff, Nat.reduceAdd, Nat.reduceSub, Nat.reduceMul, Int.reduceLE, Int.reduceLT, Int.reduceToNat, Int.reduceNeg, reduceCtorEq]
    all_goals exact cl
def ref22_Few (d : District) (l_ : List Order) : Bool := (bif ((!(ref19_Few d)) || ((decide ((l_.length : Int) > 150)) && ((decide ((l_.length : Int) ≤ 4096)) || (decide ((l_.length : Int) > 5000))))) then false else (bif (((decide (d.hours < 1)) || (decide (d.hours > 4096))) || (decide ((d.reaches.length : Int) > 64))) then true else ((decide ((IntKind.i64.wrap ((d.reaches.length : Int) * d.hours)) ≤ 200)) || (decide ((IntKind.i64.wrap ((d.reaches.length : Int) * d.hours)) > 1024)))))
def C_ref22_Few : List SV → Option Con := (pD .district fun d => (pR .order fun l_ => pE (.det True (.v (.bool (ref22_Few d l_))))))
theorem ok_ref22_Few : FnOk Try.prog 18 C_ref22_Few := by
  have hG : ConsOk Try.prog (mkG [(35, fun l => C_ref19_Few (nrmA [.st .district] l))] []) := mkG_ok (cgc (ok_ref19_Few.norm [.st .district]) cg0) cg0
  refine fn_okN [.o] mixed ts_ok hG (fn := Try.f18) (c := bodyOf Try.f18) (by kernel_rfl) (by kernel_rfl) (by kernel_rfl) (by kernel_rfl) fun l con h hp => ?_
  unfold C_ref22_Few at h
  obtain ⟨d, l0, rfl, h0⟩ := pD_inv h
  obtain ⟨l_, l1, rfl, h1⟩ := pR_inv h0
  obtain ⟨rfl, rfl⟩ := pE_inv h1
  clear h h0 h1
  dsimp only [conPre] at hp
  refine ⟨Nat.le_of_ble_eq_true rfl, (fun id st => none), ?_, ?_⟩
  · unfold bodyOf Try.f18
    simp only [loopsOk, and_self, true_and, and_true]
  · unfold bodyOf Try.f18
    try unfold ref22_Few
    simp only [go_sem, Nat.reduceBEq, Nat.reduceLeDiff, Nat.reduceAdd, Nat.reduceSub, Nat.reduceMul, Int.reduceLE, Int.reduceLT, Int.reduceToNat, Int.reduceNeg, reduceCtorEq, C_ref19_Few]
    all_goals exact cl
def ref26_FewClaims (d : District) (c : List Claim) : Bool := ((ref19_Few d) && ((decide ((c.length : Int) ≤ 300)) || ((decide ((c.length : Int) > 4096)) && (decide ((c.length : Int) ≤ 5000)))))
def C_ref26_FewClaims : List SV → Option Con := (pD .district fun d => (pR .claim fun c => pE (.det True (.v (.bool (ref26_FewClaims d c))))))
theorem ok_ref26_FewClaims : FnOk Try.prog 19 C_ref26_FewClaims := by
  have hG : ConsOk Try.prog (mkG [(35, fun l => C_ref19_Few (nrmA [.st .district] l))] []) := mkG_ok (cgc (ok_ref19_Few.norm [.st .district]) cg0) cg0
  refine fn_okN [.o] mixed ts_ok hG (fn := Try.f19) (c := bodyOf Try.f19) (by kernel_rfl) (by kernel_rfl) (by kernel_rfl) (by kernel_rfl) fun l con h hp => ?_
  unfold C_ref26_FewClaims at h
  obtain ⟨d, l0, rfl, h0⟩ := pD_inv h
  obtain ⟨c, l1, rfl, h1⟩ := pR_inv h0
  obtain ⟨rfl, rfl⟩ := pE_inv h1
  clear h h0 h1
  dsimp only [conPre] at hp
  refine ⟨Nat.le_of_ble_eq_true rfl, (fun id st => none), ?_, ?_⟩
  · unfold bodyOf Try.f19
    simp only [loopsOk, and_self, true_and, and_true]
  · unfold bodyOf Try.f19
    try unfold ref26_FewClaims
    simp only [go_sem, Nat.reduceBEq, Nat.reduceLeDiff, Nat.reduceAdd, Nat.reduceSub, Nat.reduceMul, Int.reduceLE, Int.reduceLT, Int.reduceToNat, Int.reduceNeg, reduceCtorEq, C_ref19_Few]
    all_goals exact cl
def ref28_Few (d : District) (c : List Claim) (l_ : List Order) : Bool := (((ref22_Few d l_) && (ref26_FewClaims d c)) && ((decide ((d.farms.length : Int) ≤ 20)) || (decide ((d.farms.length : Int) > 600))))
def C_ref28_Few : List SV → Option Con := (pD .district fun d => (pR .claim fun c => (pR .order fun l_ => pE (.det True (.v (.bool (ref28_Few d c l_)))))))
theorem ok_ref28_Few : FnOk Try.prog 8 C_ref28_Few := by
  have hG : ConsOk Try.prog (mkG [(18, fun l => C_ref22_Few (nrmA [.st .district, .sl .order] l)), (19, fun l => C_ref26_FewClaims (nrmA [.st .district, .sl .claim] l))] []) := mkG_ok (cgc (ok_ref22_Few.norm [.st .district, .sl .order]) (cgc (ok_ref26_FewClaims.norm [.st .district, .sl .claim]) cg0)) cg0
  refine fn_okN [.o] mixed ts_ok hG (fn := Try.f8) (c := bodyOf Try.f8) (by kernel_rfl) (by kernel_rfl) (by kernel_rfl) (by kernel_rfl) fun l con h hp => ?_
  unfold C_ref28_Few at h
  obtain ⟨d, l0, rfl, h0⟩ := pD_inv h
  obtain ⟨c, l1, rfl, h1⟩ := pR_inv h0
  obtain ⟨l_, l2, rfl, h2⟩ := pR_inv h1
  obtain ⟨rfl, rfl⟩ := pE_inv h2
  clear h h0 h1 h2
  dsimp only [conPre] at hp
  refine ⟨Nat.le_of_ble_eq_true rfl, (fun id st => none), ?_, ?_⟩
  · unfold bodyOf Try.f8
    simp only [loopsOk, and_self, true_and, and_true]
  · unfold bodyOf Try.f8
    try unfold ref28_Few
    simp only [go_sem, Nat.reduceBEq, Nat.reduceLeDiff, Nat.reduceAdd, Nat.reduceSub, Nat.reduceMul, Int.reduceLE, Int.reduceLT, Int.reduceToNat, Int.reduceNeg, reduceCtorEq, C_ref22_Few, C_ref26_FewClaims]
    all_goals exact cl
def ref28_Same_l0 (a : List Fault) (b : List Fault) : Nat → Unit → Unit ⊕ Unit := fun k_0 s_0 => (bif (!(((a.getD k_0 (default : Fault)).kind == (b.getD k_0 (default : Fault)).kind) && (((a.getD k_0 (default : Fault)).hour == (b.getD k_0 (default : Fault)).hour) && (((a.getD k_0 (default : Fault)).index == (b.getD k_0 (default : Fault)).index) && (((a.getD k_0 (default : Fault)).litres == (b.getD k_0 (default : Fault)).litres) && ((a.getD k_0 (default : Fault)).limit == (b.getD k_0 (default : Fault)).limit)))))) then .inl () else .inr ())
def ref28_Same_l0_p (a : List Fault) (b : List Fault) : Nat → Unit → Prop := fun k_0 s_0 => (a.length ≤ maxL → (0 ≤ (k_0 : Int) ∧ (k_0 : Int) < (b.length : Int)))
def ref28_Same (a : List Fault) (b : List Fault) : Bool := (bif ((a.length : Int) != (b.length : Int)) then false else (match runI (ref28_Same_l0 a b) a.length 0 () with | .inl x_0_0 => false | .inr s_0 => true))
def ref28_Same_p (a : List Fault) (b : List Fault) : Prop := (a.length ≤ maxL → (b.length ≤ maxL → (((a.length : Int) != (b.length : Int)) = false → okI (ref28_Same_l0 a b) (ref28_Same_l0_p a b) a.length 0 ())))
theorem ref28_Same_pt (a b : List Fault) : ref28_Same_p a b := fun ha hb hne => okI_all _ _ _ fun j s h1 h2 => by
  simp at hne
  unfold ref28_Same_l0_p
  intros
  first | omega | (constructor <;> omega)
def C_ref28_Same : List SV → Option Con := (pR .fault fun a => (pR .fault fun b => pE (.det True (.v (.bool (ref28_Same a b))))))
set_option maxHeartbeats 4000000 in
theorem ok_ref28_Same : FnOk Try.prog 17 C_ref28_Same := by
  have hG : ConsOk Try.prog (mkG [] []) := mkG_ok cg0 cg0
  refine fn_okN [.o] mixed ts_ok hG (fn := Try.f17) (c := bodyOf Try.f17) (by kernel_rfl) (by kernel_rfl) (by kernel_rfl) (by kernel_rfl) fun l con h hp => ?_
  unfold C_ref28_Same at h
  obtain ⟨a, l0, rfl, h0⟩ := pR_inv h
  obtain ⟨b, l1, rfl, h1⟩ := pR_inv h0
  obtain ⟨rfl, rfl⟩ := pE_inv h1
  clear h h0 h1
  dsimp only [conPre] at hp
  have hp := ref28_Same_pt a b
  unfold ref28_Same_p at hp
  refine ⟨Nat.le_of_ble_eq_true rfl, (fun id st => bif Nat.beq id 0 then some (LC (ρ := Unit) (σ := Unit) (lk 0 st.t = .rs .fault a ∧ lk 1 st.t = .rs .fault b ∧ lk 5 st.t = .v (.int .i64 0) ∧ st.h = [] ∧ okI (ref28_Same_l0 a b) (ref28_Same_l0_p a b) a.length 0 ()) (runI (ref28_Same_l0 a b) a.length 0 ()) (fun _ => .ret) (fun x_0_0 => ⟨[(4, .v (.bool false))], []⟩) (fun s_0 => ⟨[], []⟩)) else none), ?_, ?_⟩
  · unfold bodyOf Try.f17
    simp only [loopsOk, true_and, and_true]
    · refine count_okP mixed ts_ok hG (by kernel_rfl) fun st lc hC hp => ?_
      simp only [go_sem, Nat.reduceBEq, Option.some.injEq] at hC
      subst hC
      obtain ⟨t, h⟩ := st
      dsimp only [LC] at hp
      obtain ⟨e0_0, e0_1, e0_2, rfl, hok0⟩ := hp
      refine ⟨_, _, _, (ref28_Same_l0 a b), (ref28_Same_l0_p a b), a.length, (), _, _, _, (fun k_0 s_0 => ⟨[(0, .rs .fault a), (1, .rs .fault b), (5, .v (.int .i64 (k_0 : Int)))], []⟩), [], rfl, hok0, Nat.le_refl _, ?_, fun k_0 s_0 hk0 hp0 => ?_⟩
      · simp only [go_sem, Nat.reduceBEq, Nat.reduceLeDiff, Nat.reduceAdd, Nat.reduceSub, Nat.reduceMul, Int.reduceLE, Int.reduceLT, Int.reduceToNat, Int.reduceNeg, reduceCtorEq, e0_0, e0_1, e0_2]
        all_goals (first | done | decide | (repeat' (first | refine And.intro ?_ ?_ | rfl | decide)))
      refine ⟨(fun id st => none), ?_, ?_⟩
      · simp only [loopsOk, and_self, true_and, and_true]
      · by_cases hb0 : a.length ≤ maxL
        rotate_left
        · simp only [go_sem, Nat.reduceBEq, Nat.reduceLeDiff, Nat.reduceAdd, Nat.reduceSub, Nat.reduceMul, Int.reduceLE, Int.reduceLT, Int.reduceToNat, Int.reduceNeg, reduceCtorEq, hb0]
        · by_cases hlt0 : k_0 < a.length
          · have hw0 := wrapS hlt0 hb0
            have hq0 := hp0 hlt0
            unfold ref28_Same_l0_p at hq0
            replace hq0 := hq0 hb0
            try simp only [hw0, Int.toNat_natCast] at hq0
            have hc0 : decide ((k_0 : Int) < (a.length : Int)) = true := by simp only [decide_eq_true_eq]; omega
            simp only [go_sem, Nat.reduceBEq, Nat.reduceLeDiff, Nat.reduceAdd, Nat.reduceSub, Nat.reduceMul, Int.reduceLE, Int.reduceLT, Int.reduceToNat, Int.reduceNeg, reduceCtorEq, ref28_Same_l0, hc0, hw0]
            all_goals exact cl
          · have hc0 : decide ((k_0 : Int) < (a.length : Int)) = false := by simp only [decide_eq_false_iff_not]; omega
            simp only [go_sem, Nat.reduceBEq, Nat.reduceLeDiff, Nat.reduceAdd, Nat.reduceSub, Nat.reduceMul, Int.reduceLE, Int.reduceLT, Int.reduceToNat, Int.reduceNeg, reduceCtorEq, hc0]
            all_goals exact cl2
  · unfold bodyOf Try.f17
    try unfold ref28_Same
    simp only [go_sem, Nat.reduceBEq, Nat.reduceLeDiff, Nat.reduceAdd, Nat.reduceSub, Nat.reduceMul, Int.reduceLE, Int.reduceLT, Int.reduceToNat, Int.reduceNeg, reduceCtorEq]
    all_goals exact cl
def law28_district : District := ({ name := (ByteArray.mk #[]), hours := 9, tank := ({ cap := 50, start := 50 } : Tank), reaches := [({ name := (ByteArray.mk #[]), up := (-1), delay := 1, cap := 20, bank := 30, siphon := 0, evap := ({ lo := 0, hi := 1 } : Range), seep := (({ n := 0, d := 1 } : Ratio), ({ n := 0, d := 1 } : Ratio)) } : Reach), ({ name := (ByteArray.mk #[]), up := 0, delay := 2, cap := 10, bank := 12, siphon := 4, evap := ({ lo := 0, hi := 2 } : Range), seep := (({ n := 0, d := 1 } : Ratio), ({ n := 0, d := 1 } : Ratio)) } : Reach)], farms := [({ name := (ByteArray.mk #[]), reach := 0, area := 0, crop := (-1) } : Farm), ({ name := (ByteArray.mk #[]), reach := 1, area := 0, crop := (-1) } : Farm)], crops := [], rights := [({ name := (ByteArray.mk #[]), kind := 1, farm := 0, reach := 0, rank := 0, litres := 3, since := 0, to := 8, every := 1, length := 1 } : Right), ({ name := (ByteArray.mk #[]), kind := 1, farm := 1, reach := 0, rank := 0, litres := 5, since := 0, to := 8, every := 1, length := 1 } : Right)], duties := [], wells := [] } : District)
def C_law28_district : List SV → Option Con := pE (.det True (.agg [.v (.string ((law28_district).name)), .v (.int .i64 ((law28_district).hours)), .v (.int .i64 ((law28_district).tank.cap)), .v (.int .i64 ((law28_district).tank.start)), .nw .reach ((law28_district).reaches), .nw .farm ((law28_district).farms), .v (.slice none 0 0), .nw .right ((law28_district).rights), .v (.slice none 0 0), .v (.slice none 0 0)]))
theorem ok_law28_district : FnOk Try.prog 14 C_law28_district := by
  have hG : ConsOk Try.prog (mkG [] []) := mkG_ok cg0 cg0
  refine fn_okE true mixed ts_ok hG (fn := Try.f14) (c := bodyOf Try.f14) (by kernel_rfl) (by kernel_rfl) (by kernel_rfl) (by kernel_rfl) fun l con h hp => ?_
  unfold C_law28_district at h
  obtain ⟨rfl, rfl⟩ := pE_inv h
  clear h
  dsimp only [conPre] at hp
  refine ⟨Nat.le_of_ble_eq_true rfl, (fun id st => none), ?_, ?_⟩
  · unfold bodyOf Try.f14
    simp only [loopsOk, and_self, true_and, and_true]
  · unfold bodyOf Try.f14
    try unfold law28_district
    simp only [go_sem, Nat.reduceBEq, Nat.reduceLeDiff, Nat.reduceAdd, Nat.reduceSub, Nat.reduceMul, Int.reduceLE, Int.reduceLT, Int.reduceToNat, Int.reduceNeg, reduceCtorEq]
    all_goals exact cl
def law28_gate (hour : Int) (reach : Int) (n : Int) : Order := ({ hour := hour, index := reach, litres := n, outlet := false } : Order)
def C_law28_gate : List SV → Option Con := (pI fun hour => (pI fun reach => (pI fun n => pE (.det True (.agg (cellsOf .order (law28_gate hour reach n)))))))
theorem ok_law28_gate : FnOk Try.prog 15 C_law28_gate := by
  have hG : ConsOk Try.prog (mkG [] []) := mkG_ok cg0 cg0
  refine fn_okN [.st .order] mixed ts_ok hG (fn := Try.f15) (c := bodyOf Try.f15) (by kernel_rfl) (by kernel_rfl) (by kernel_rfl) (by kernel_rfl) fun l con h hp => ?_
  unfold C_law28_gate at h
  obtain ⟨hour, l0, rfl, h0⟩ := pI_inv h
  obtain ⟨reach, l1, rfl, h1⟩ := pI_inv h0
  obtain ⟨n, l2, rfl, h2⟩ := pI_inv h1
  obtain ⟨rfl, rfl⟩ := pE_inv h2
  clear h h0 h1 h2
  dsimp only [conPre] at hp
  refine ⟨Nat.le_of_ble_eq_true rfl, (fun id st => none), ?_, ?_⟩
  · unfold bodyOf Try.f15
    simp only [loopsOk, and_self, true_and, and_true]
  · unfold bodyOf Try.f15
    try unfold law28_gate
    simp only [go_sem, Nat.reduceBEq, Nat.reduceLeDiff, Nat.reduceAdd, Nat.reduceSub, Nat.reduceMul, Int.reduceLE, Int.reduceLT, Int.reduceToNat, Int.reduceNeg, reduceCtorEq]
    all_goals exact cl
def law28_outlet (hour : Int) (farm : Int) (n : Int) : Order := ({ hour := hour, index := farm, litres := n, outlet := true } : Order)
def C_law28_outlet : List SV → Option Con := (pI fun hour => (pI fun farm => (pI fun n => pE (.det True (.agg (cellsOf .order (law28_outlet hour farm n)))))))
theorem ok_law28_outlet : FnOk Try.prog 16 C_law28_outlet := by
  have hG : ConsOk Try.prog (mkG [] []) := mkG_ok cg0 cg0
  refine fn_okN [.st .order] mixed ts_ok hG (fn := Try.f16) (c := bodyOf Try.f16) (by kernel_rfl) (by kernel_rfl) (by kernel_rfl) (by kernel_rfl) fun l con h hp => ?_
  unfold C_law28_outlet at h
  obtain ⟨hour, l0, rfl, h0⟩ := pI_inv h
  obtain ⟨farm, l1, rfl, h1⟩ := pI_inv h0
  obtain ⟨n, l2, rfl, h2⟩ := pI_inv h1
  obtain ⟨rfl, rfl⟩ := pE_inv h2
  clear h h0 h1 h2
  dsimp only [conPre] at hp
  refine ⟨Nat.le_of_ble_eq_true rfl, (fun id st => none), ?_, ?_⟩
  · unfold bodyOf Try.f16
    simp only [loopsOk, and_self, true_and, and_true]
  · unfold bodyOf Try.f16
    try unfold law28_outlet
    simp only [go_sem, Nat.reduceBEq, Nat.reduceLeDiff, Nat.reduceAdd, Nat.reduceSub, Nat.reduceMul, Int.reduceLE, Int.reduceLT, Int.reduceToNat, Int.reduceNeg, reduceCtorEq]
    all_goals exact cl
end Go.Sx
end
section
namespace Go.Sx
open Go.Proofs
set_option maxRecDepth 100000
set_option linter.unusedSimpArgs false
def certify_Accepts (d : District) (c : List Claim) (l_ : List Order) : Bool × Int := ((((certify_Faults d c l_).2 == 0) && ((((certify_Faults d c l_).1).length : Int) == 0)), (certify_Faults d c l_).2)
def certify_Accepts_p (d : District) (c : List Claim) (l_ : List Order) : Prop := (certify_Faults_p d c l_)
def C_certify_Accepts : List SV → Option Con := (pD .district fun d => (pR .claim fun c => (pR .order fun l_ => pE (.det (certify_Accepts_p d c l_) (.tup [.v (.bool ((certify_Accepts d c l_).1)), .v (.int .i64 ((certify_Accepts d c l_).2))])))))
theorem ok_certify_Accepts : FnOk Try.prog 11 C_certify_Accepts := by
  have hG : ConsOk Try.prog (mkG [(12, fun l => C_certify_Faults (nrmA [.st .district, .sl .claim, .sl .order] l))] []) := mkG_ok (cgc (ok_certify_Faults.norm [.st .district, .sl .claim, .sl .order]) cg0) cg0
  refine fn_okN [.o, .o] mixed ts_ok hG (fn := Try.f11) (c := bodyOf Try.f11) (by kernel_rfl) (by kernel_rfl) (by kernel_rfl) (by kernel_rfl) fun l con h hp => ?_
  unfold C_certify_Accepts at h
  obtain ⟨d, l0, rfl, h0⟩ := pD_inv h
  obtain ⟨c, l1, rfl, h1⟩ := pR_inv h0
  obtain ⟨l_, l2, rfl, h2⟩ := pR_inv h1
  obtain ⟨rfl, rfl⟩ := pE_inv h2
  clear h h0 h1 h2
  dsimp only [conPre] at hp
  unfold certify_Accepts_p at hp
  refine ⟨Nat.le_of_ble_eq_true rfl, (fun id st => none), ?_, ?_⟩
  · unfold bodyOf Try.f11
    simp only [loopsOk, and_self, true_and, and_true]
  · unfold bodyOf Try.f11
    try unfold certify_Accepts
    simp only [go_sem, Nat.reduceBEq, Nat.reduceLeDiff, Nat.reduceAdd, Nat.reduceSub, Nat.reduceMul, Int.reduceLE, Int.reduceLT, Int.reduceToNat, Int.reduceNeg, reduceCtorEq, C_certify_Faults]
    all_goals exact cl
def certify_Arrive (d : District) (l_ : List Order) (reach : Int) (hour : Int) : Int × Int := (bif ((expand_Check d) != 0) then (0, (expand_Check d)) else (bif ((certify_read d l_).2 != 0) then (0, (certify_read d l_).2) else (bif ((((decide (reach < 0)) || (decide (reach ≥ (d.reaches.length : Int)))) || (decide (hour < 0))) || (decide (hour ≥ d.hours))) then (0, 1) else ((certify_table_arrives ((certify_read d l_).1) reach hour), 0))))
def certify_Arrive_p (d : District) (l_ : List Order) (reach : Int) (hour : Int) : Prop := (((expand_Check d) != 0) = false → ((certify_read_p d l_) ∧ (((certify_read d l_).2 != 0) = false → (((((decide (reach < 0)) || (decide (reach ≥ (d.reaches.length : Int)))) || (decide (hour < 0))) || (decide (hour ≥ d.hours))) = false → (certify_table_arrives_p ((certify_read d l_).1) reach hour)))))
def C_certify_Arrive : List SV → Option Con := (pD .district fun d => (pR .order fun l_ => (pI fun reach => (pI fun hour => pE (.det (certify_Arrive_p d l_ reach hour) (.tup [.v (.int .i64 ((certify_Arrive d l_ reach hour).1)), .v (.int .i64 ((certify_Arrive d l_ reach hour).2))]))))))
theorem ok_certify_Arrive : FnOk Try.prog 9 C_certify_Arrive := by
  have hG : ConsOk Try.prog (mkG [(20, fun l => C_expand_Check (nrmA [.st .district] l)), (21, fun l => C_certify_read (nrmA [.st .district, .sl .order] l)), (22, fun l => C_certify_table_arrives (nrmA [.st .certifyTable, .o, .o] l))] []) := mkG_ok (cgc (ok_expand_Check.norm [.st .district]) (cgc (ok_certify_read.norm [.st .district, .sl .order]) (cgc (ok_certify_table_arrives.norm [.st .certifyTable, .o, .o]) cg0))) cg0
  refine fn_okN [.o, .o] mixed ts_ok hG (fn := Try.f9) (c := bodyOf Try.f9) (by kernel_rfl) (by kernel_rfl) (by kernel_rfl) (by kernel_rfl) fun l con h hp => ?_
  unfold C_certify_Arrive at h
  obtain ⟨d, l0, rfl, h0⟩ := pD_inv h
  obtain ⟨l_, l1, rfl, h1⟩ := pR_inv h0
  obtain ⟨reach, l2, rfl, h2⟩ := pI_inv h1
  obtain ⟨hour, l3, rfl, h3⟩ := pI_inv h2
  obtain ⟨rfl, rfl⟩ := pE_inv h3
  clear h h0 h1 h2 h3
  dsimp only [conPre] at hp
  unfold certify_Arrive_p at hp
  refine ⟨Nat.le_of_ble_eq_true rfl, (fun id st => none), ?_, ?_⟩
  · unfold bodyOf Try.f9
    simp only [loopsOk, and_self, true_and, and_true]
  · unfold bodyOf Try.f9
    try unfold certify_Arrive
    simp only [go_sem, Nat.reduceBEq, Nat.reduceLeDiff, Nat.reduceAdd, Nat.reduceSub, Nat.reduceMul, Int.reduceLE, Int.reduceLT, Int.reduceToNat, Int.reduceNeg, reduceCtorEq, C_expand_Check, C_certify_read, C_certify_table_arrives]
    all_goals exact cl
def law28_sane_c19 := ([(law28_gate 2 0 11), (law28_gate 3 1 7), (law28_outlet 3 0 3), (law28_outlet 5 1 5)])
def law28_sane_c18 := (([]) ++ law28_sane_c19)
def law28_sane_c17 := (law28_sane_c18.getD 0 (default : Order))
def law28_sane_c16 := ([({ right := 0, farm := 0, hour := 3, litres := 3, rank := 0 } : Claim), ({ right := 1, farm := 1, hour := 5, litres := 5, rank := 0 } : Claim)])
def law28_sane_c15 := ({ name := (ByteArray.mk #[]), hours := 0, tank := ({ cap := 0, start := 0 } : Tank), reaches := [], farms := [], crops := [], rights := [], duties := [], wells := [] } : District)
def law28_sane_c14 := ({ name := law28_district.name, hours := law28_district.hours, tank := law28_district.tank, reaches := law28_district.reaches, farms := law28_district.farms, crops := [], rights := law28_district.rights, duties := [], wells := [] } : District)
def law28_sane_c13 := (certify_Arrive law28_sane_c14 law28_sane_c19 1 5)
def law28_sane_c12 := (certify_Faults law28_sane_c14 law28_sane_c16 law28_sane_c19)
def law28_sane_c11 := (certify_Accepts law28_sane_c14 law28_sane_c16 law28_sane_c19)
def law28_sane_c10 := (law28_district.reaches.set 0 ({ name := (law28_district.reaches.getD 0 (default : Reach)).name, up := (law28_district.reaches.getD 0 (default : Reach)).up, delay := (law28_district.reaches.getD 0 (default : Reach)).delay, cap := 9, bank := (law28_district.reaches.getD 0 (default : Reach)).bank, siphon := (law28_district.reaches.getD 0 (default : Reach)).siphon, evap := (law28_district.reaches.getD 0 (default : Reach)).evap, seep := (law28_district.reaches.getD 0 (default : Reach)).seep } : Reach))
def law28_sane_c9 := (law28_sane_c10.getD 1 (default : Reach))
def law28_sane_c8 := (law28_sane_c18.set 0 ({ hour := law28_sane_c17.hour, index := law28_sane_c17.index, litres := 10, outlet := law28_sane_c17.outlet } : Order))
def law28_sane_c7 := (law28_sane_c8.getD 1 (default : Order))
def law28_sane_c6 := (law28_sane_c8.set 1 ({ hour := law28_sane_c7.hour, index := law28_sane_c7.index, litres := 3, outlet := law28_sane_c7.outlet } : Order))
def law28_sane_c5 := (law28_sane_c6.getD 3 (default : Order))
def law28_sane_c4 := ({ name := law28_district.name, hours := law28_district.hours, tank := ({ cap := law28_district.tank.cap, start := 10 } : Tank), reaches := (law28_sane_c10.set 1 ({ name := law28_sane_c9.name, up := law28_sane_c9.up, delay := law28_sane_c9.delay, cap := law28_sane_c9.cap, bank := 6, siphon := law28_sane_c9.siphon, evap := law28_sane_c9.evap, seep := law28_sane_c9.seep } : Reach)), farms := law28_district.farms, crops := [], rights := law28_district.rights, duties := [], wells := [] } : District)
def law28_sane_c3 := (certify_Accepts law28_sane_c4 ([]) ([]))
def law28_sane_c2 := (certify_Faults law28_sane_c4 ([]) law28_sane_c19)
def law28_sane_c1 := (law28_sane_c6.set 3 ({ hour := law28_sane_c5.hour, index := law28_sane_c5.index, litres := 4, outlet := law28_sane_c5.outlet } : Order))
def law28_sane_c0 := (certify_Faults law28_sane_c14 law28_sane_c16 law28_sane_c1)
def law28_sane : Bool := (bif (((((((((law28_sane_c11.2 != 0) || (law28_sane_c12.2 != 0)) || (law28_sane_c13.2 != 0)) || (law28_sane_c0.2 != 0)) || (law28_sane_c2.2 != 0)) || (law28_sane_c3.2 != 0)) || ((certify_Accepts law28_sane_c15 ([]) ([])).2 != 191)) || ((certify_Arrive law28_sane_c4 ([]) (-1) 0).2 != 1)) || ((certify_Faults law28_sane_c4 ([]) ([({ hour := 0, index := 0, litres := 0, outlet := false } : Order)])).2 != 280)) then false else (((((law28_sane_c11.1 && (((law28_sane_c12.1).length : Int) == 0)) && (law28_sane_c13.1 == 5)) && (ref28_Same (law28_sane_c0.1) ([({ kind := 2, hour := 3, index := 1, litres := 3, limit := 4 } : Fault), ({ kind := 5, hour := 5, index := 1, litres := 4, limit := 1 } : Fault), ({ kind := 6, hour := 5, index := 1, litres := 4, limit := 5 } : Fault)]))) && (ref28_Same (law28_sane_c2.1) ([({ kind := 1, hour := 2, index := 0, litres := 11, limit := 9 } : Fault), ({ kind := 3, hour := 3, index := 1, litres := 7, limit := 6 } : Fault), ({ kind := 3, hour := 4, index := 1, litres := 7, limit := 6 } : Fault), ({ kind := 4, hour := 2, index := 0, litres := 11, limit := 10 } : Fault)]))) && law28_sane_c3.1))
def law28_sane_p : Prop := ((certify_Accepts_p law28_sane_c14 law28_sane_c16 law28_sane_c19) ∧ ((certify_Faults_p law28_sane_c14 law28_sane_c16 law28_sane_c19) ∧ ((certify_Arrive_p law28_sane_c14 law28_sane_c19 1 5) ∧ ((law28_sane_c18.length * 32 ≤ maxB) ∧ (law28_sane_c18.length ≤ maxL → ((0 ≤ 0 ∧ 0 < (law28_sane_c18.length : Int)) ∧ ((0 ≤ 1 ∧ 1 < (law28_sane_c8.length : Int)) ∧ ((0 ≤ 3 ∧ 3 < (law28_sane_c6.length : Int)) ∧ ((certify_Faults_p law28_sane_c14 law28_sane_c16 law28_sane_c1) ∧ ((0 ≤ 0 ∧ 0 < (law28_district.reaches.length : Int)) ∧ ((0 ≤ 1 ∧ 1 < (law28_sane_c10.length : Int)) ∧ ((certify_Faults_p law28_sane_c4 ([]) law28_sane_c19) ∧ ((certify_Accepts_p law28_sane_c4 ([]) ([])) ∧ ((certify_Accepts_p law28_sane_c15 ([]) ([])) ∧ ((certify_Arrive_p law28_sane_c4 ([]) (-1) 0) ∧ (certify_Faults_p law28_sane_c4 ([]) ([({ hour := 0, index := 0, litres := 0, outlet := false } : Order)])))))))))))))))))
def C_law28_sane : List SV → Option Con := pE (.det (law28_sane_p) (.v (.bool (law28_sane))))
set_option maxHeartbeats 4000000 in
theorem ok_law28_sane : FnOk Try.prog 7 C_law28_sane := by
  have hG : ConsOk Try.prog (mkG [(9, fun l => C_certify_Arrive (nrmA [.st .district, .sl .order, .o, .o] l)), (11, fun l => C_certify_Accepts (nrmA [.st .district, .sl .claim, .sl .order] l)), (12, fun l => C_certify_Faults (nrmA [.st .district, .sl .claim, .sl .order] l)), (14, C_law28_district), (15, C_law28_gate), (16, C_law28_outlet), (17, fun l => C_ref28_Same (nrmA [.sl .fault, .sl .fault] l))] []) := mkG_ok (cgc (ok_certify_Arrive.norm [.st .district, .sl .order, .o, .o]) (cgc (ok_certify_Accepts.norm [.st .district, .sl .claim, .sl .order]) (cgc (ok_certify_Faults.norm [.st .district, .sl .claim, .sl .order]) (cgc ok_law28_district (cgc ok_law28_gate (cgc ok_law28_outlet (cgc (ok_ref28_Same.norm [.sl .fault, .sl .fault]) cg0))))))) cg0
  refine fn_okN [.o] mixed ts_ok hG (fn := Try.f7) (c := bodyOf Try.f7) (by kernel_rfl) (by kernel_rfl) (by kernel_rfl) (by kernel_rfl) fun l con h hp => ?_
  unfold C_law28_sane at h
  obtain ⟨rfl, rfl⟩ := pE_inv h
  clear h
  dsimp only [conPre] at hp
  unfold law28_sane_p at hp
  try simp only [law28_sane_c19, law28_sane_c18, law28_sane_c17, law28_sane_c16, law28_sane_c15, law28_sane_c14, law28_sane_c13, law28_sane_c12, law28_sane_c11, law28_sane_c10, law28_sane_c9, law28_sane_c8, law28_sane_c7, law28_sane_c6, law28_sane_c5, law28_sane_c4, law28_sane_c3, law28_sane_c2, law28_sane_c1, law28_sane_c0] at hp
  refine ⟨Nat.le_of_ble_eq_true rfl, (fun id st => none), ?_, ?_⟩
  · unfold bodyOf Try.f7
    simp only [loopsOk, and_self, true_and, and_true]
  · unfold bodyOf Try.f7
    try unfold law28_sane
    simp only [go_sem, Nat.reduceBEq, Nat.reduceLeDiff, Nat.reduceAdd, Nat.reduceSub, Nat.reduceMul, Int.reduceLE, Int.reduceLT, Int.reduceToNat, Int.reduceNeg, reduceCtorEq, C_certify_Arrive, C_certify_Accepts, C_certify_Faults, C_law28_district, C_law28_gate, C_law28_outlet, C_ref28_Same, law28_sane_c19, law28_sane_c18, law28_sane_c17, law28_sane_c16, law28_sane_c15, law28_sane_c14, law28_sane_c13, law28_sane_c12, law28_sane_c11, law28_sane_c10, law28_sane_c9, law28_sane_c8, law28_sane_c7, law28_sane_c6, law28_sane_c5, law28_sane_c4, law28_sane_c3, law28_sane_c2, law28_sane_c1, law28_sane_c0]
    all_goals exact cl
end Go.Sx
end
section
namespace Go.Sx
open Go.Proofs
theorem runI_unit {n i : Nat} {step : Nat → Unit → Unit ⊕ Unit} {s : Unit} (h : runI step n i s = .inr s) : ∀ j, i ≤ j → j < i + n → step j () = .inr () := by
  induction n generalizing i with
  | zero => intro j h1 h2; omega
  | succ n ih =>
    simp only [runI] at h
    cases hs : step i s with
    | inl r => rw [hs] at h; cases h
    | inr s' =>
      rw [hs] at h
      intro j h1 h2
      by_cases e : j = i
      · subst e; cases s; exact hs
      · exact ih h j (by omega) (by omega)
theorem demand_t {b : Bool} {e : Int} : expand_demand_ok b e = b := by
  cases b <;> rfl
theorem rising3 {a b c : Int} (h : expand_rising [a, b, c] = true) : a ≤ b ∧ b ≤ c := by
  unfold expand_rising at h
  simp only [List.length_cons, List.length_nil, Nat.zero_add, Nat.reduceAdd, Nat.reduceSub] at h
  split at h
  · cases h
  · rename_i s hs
    have h0 := runI_unit hs 0 (by omega) (by omega)
    have h1 := runI_unit hs 1 (by omega) (by omega)
    simp [expand_rising_l0, IntKind.wrap, IntKind.bits, IntKind.signed] at h0 h1
    constructor
    · cases hd : decide (b < a) <;> simp_all <;> omega
    · cases hd : decide (c < b) <;> simp_all <;> omega
theorem rising4 {a b c d : Int} (h : expand_rising [a, b, c, d] = true) : a ≤ b ∧ b ≤ c ∧ c ≤ d := by
  unfold expand_rising at h
  simp only [List.length_cons, List.length_nil, Nat.zero_add, Nat.reduceAdd, Nat.reduceSub] at h
  split at h
  · cases h
  · rename_i s hs
    have h0 := runI_unit hs 0 (by omega) (by omega)
    have h1 := runI_unit hs 1 (by omega) (by omega)
    have h2 := runI_unit hs 2 (by omega) (by omega)
    simp [expand_rising_l0, IntKind.wrap, IntKind.bits, IntKind.signed] at h0 h1 h2
    refine ⟨?_, ?_, ?_⟩
    · cases hd : decide (b < a) <;> simp_all <;> omega
    · cases hd : decide (c < b) <;> simp_all <;> omega
    · cases hd : decide (d < c) <;> simp_all <;> omega
structure Right1 (d : District) : Prop where
  reaches : d.reaches.length ≤ 64
  one : 0 < d.reaches.length
  farms : d.farms.length ≤ 600
  rights : d.rights.length ≤ 256
  hours1 : 1 ≤ d.hours
  hours : d.hours ≤ 4096
  start0 : 0 ≤ d.tank.start
  start : d.tank.start ≤ d.tank.cap
  cap : d.tank.cap ≤ 1099511627776
  reach : ∀ k, k < d.reaches.length → expand_reach (k : Int) (d.reaches.getD k default) = true
  farm : ∀ k, k < d.farms.length → 0 ≤ (d.farms.getD k default).reach ∧ (d.farms.getD k default).reach < (d.reaches.length : Int)
theorem check_right {d : District} (h : (expand_Check d != 0) = false) : Right1 d := by
  have h : expand_Check d = 0 := by simpa using h
  unfold expand_Check at h
  simp only [demand_t] at h
  cases h1 : (decide ((d.reaches.length : Int) ≤ 64) && decide ((d.farms.length : Int) ≤ 600) && decide ((d.crops.length : Int) ≤ 32) && decide ((d.rights.length : Int) ≤ 256) && decide ((d.duties.length : Int) ≤ 256)) with
  | false => rw [h1] at h; simp at h
  | true =>
    rw [h1] at h
    simp only [cond_true] at h
    cases h2 : expand_examine_ok d 191 with
    | false => rw [h2] at h; simp at h
    | true =>
      unfold expand_examine_ok at h2
      simp only [demand_t] at h2
      cases h3 : (expand_rising [1, d.hours, 4096] && expand_rising [0, d.tank.start, d.tank.cap, 1099511627776] && decide ((d.reaches.length : Int) > 0)) with
      | false => rw [h3] at h2; simp at h2
      | true =>
        rw [h3] at h2
        simp only [cond_true] at h2
        simp only [Bool.and_eq_true, decide_eq_true_eq] at h1 h3
        obtain ⟨r1, r2⟩ := rising3 h3.1.1
        obtain ⟨r3, r4, r5⟩ := rising4 h3.1.2
        split at h2
        · cases h2
        rename_i s0 hs0
        split at h2
        · cases h2
        rename_i s1 hs1
        split at h2
        · cases h2
        rename_i s2 hs2
        refine ⟨by omega, by omega, by omega, by omega, r1, r2, r3, r4, r5, fun k hk => ?_, fun k hk => ?_⟩
        · have := runI_unit hs0 k (by omega) (by omega)
          simp only [expand_examine_l0, demand_t] at this
          cases he : expand_reach (k : Int) (d.reaches.getD k default) with
          | false => rw [he] at this; simp at this
          | true => rfl
        · have := runI_unit hs2 k (by omega) (by omega)
          simp only [expand_examine_l2, demand_t] at this
          have hx : expand_index (d.farms.getD k default).reach (d.reaches.length : Int) = true := by
            cases he : expand_index (d.farms.getD k default).reach (d.reaches.length : Int) with
            | false => rw [he] at this; cases hd : decide ((d.farms.getD k default).area > 0) <;> rw [hd] at this <;> simp at this
            | true => rfl
          simpa [expand_index] using hx
end Go.Sx
end
section
namespace Go.Sx
open Go.Proofs
structure Order1 (d : District) (x : Order) : Prop where
  hour0 : 0 ≤ x.hour
  hour : x.hour < d.hours
  index0 : 0 ≤ x.index
  farm : x.outlet = true → x.index < (d.farms.length : Int)
  reach : x.outlet = false → x.index < (d.reaches.length : Int)
  litres1 : 1 ≤ x.litres
  litres : x.litres ≤ 1073741824
theorem wrap_pred {k : Nat} (h : k < 9223372036854775807) (h1 : 0 < k) : IntKind.i64.wrap ((k : Int) - 1) = ((k - 1 : Nat) : Int) := by
  rw [wrapI (by omega) (by omega)]; omega
theorem routing_pt (d : District) (l : List Order) : routing_Check_p d l := fun _ h1 _ _ => okI_all _ _ _ fun j s h2 h3 => by
  unfold maxL at h1
  unfold routing_Check_l0_p
  have e : decide ((j : Int) > 0) = true → (0 ≤ IntKind.i64.wrap ((j : Int) - 1) ∧ IntKind.i64.wrap ((j : Int) - 1) < (l.length : Int)) := fun h => by
    simp only [decide_eq_true_eq] at h
    rw [wrap_pred (by omega) (by omega)]; omega
  exact fun _ => ⟨fun _ _ _ => e, fun _ _ => e⟩
structure Orders1 (d : District) (l : List Order) : Prop where
  right : Right1 d
  len : l.length ≤ 4096
  one : ∀ k, k < l.length → Order1 d (l.getD k default)
  asc : ∀ k, k + 1 < l.length → routing_by_1 (l.getD k default) (l.getD (k + 1) default) < 0
theorem routing_orders {d : District} {l : List Order} (h : (routing_Check d l != 0) = false) : Orders1 d l := by
  have h : routing_Check d l = 0 := by simpa using h
  unfold routing_Check at h
  cases h1 : expand_Check d != 0 with
  | true => rw [h1] at h; simp at h h1; exact absurd h h1
  | false =>
    rw [h1] at h
    simp only [cond_false] at h
    cases h2 : decide ((l.length : Int) > 4096) with
    | true => rw [h2] at h; simp at h
    | false =>
      rw [h2] at h
      simp only [cond_false] at h
      have hl : l.length ≤ 4096 := by simp only [decide_eq_false_iff_not] at h2; omega
      split at h
      · cases h
      rename_i s hs
      have key : ∀ k, k < l.length → Order1 d (l.getD k default) ∧ (0 < k → routing_by_1 (l.getD (k - 1) default) (l.getD k default) < 0) := by
        intro k hk
        have := runI_unit hs k (by omega) (by omega)
        have hp : ((k : Int) > 0) → (IntKind.i64.wrap ((k : Int) - 1)).toNat = k - 1 := fun h => by
          rw [wrap_pred (by omega) (by omega)]; omega
        unfold routing_Check_l0 at this
        generalize hx : l.getD k default = x at this ⊢
        cases ho : x.outlet with
        | true =>
          rw [ho] at this
          simp only [cond_true] at this
          rw [Bool.cond_eq_ite] at this
          split at this
          · cases this
          · rename_i hc
            simp only [Bool.not_eq_true, Bool.or_eq_false_iff, Bool.and_eq_false_iff, decide_eq_false_iff_not] at hc
            refine ⟨⟨by omega, by omega, by omega, fun _ => by omega, fun h => by (rw [ho] at h; cases h), by omega, by omega⟩, fun hk0 => ?_⟩
            rcases hc.2 with h | h
            · omega
            · rw [hp (by omega)] at h; omega
        | false =>
          rw [ho] at this
          simp only [cond_false] at this
          rw [Bool.cond_eq_ite] at this
          split at this
          · cases this
          · rename_i hc
            simp only [Bool.not_eq_true, Bool.or_eq_false_iff, Bool.and_eq_false_iff, decide_eq_false_iff_not] at hc
            refine ⟨⟨by omega, by omega, by omega, fun h => by (rw [ho] at h; cases h), fun _ => by omega, by omega, by omega⟩, fun hk0 => ?_⟩
            rcases hc.2 with h | h
            · omega
            · rw [hp (by omega)] at h; omega
      exact ⟨check_right h1, hl, fun k hk => (key k hk).1, fun k hk => (key (k + 1) hk).2 (by omega)⟩
end Go.Sx
end
section
namespace Go.Sx
open Go.Proofs
def Grid (g : List (List Int)) (n m : Nat) : Prop := g.length = n ∧ ∀ i, i < n → (g.getD i []).length = m
theorem Grid.app {g : List (List Int)} {n m : Nat} {r : List Int} (h : Grid g n m) (hr : r.length = m) : Grid (g ++ [r]) (n + 1) m := by
  refine ⟨by simp [h.1], fun i hi => ?_⟩
  by_cases e : i < n
  · have := h.2 i e
    simp only [List.getD_eq_getElem?_getD] at this ⊢
    rw [List.getElem?_append_left (by rw [h.1]; exact e)]
    exact this
  · have : i = g.length := by have := h.1; omega
    subst this
    simp [hr]
theorem Grid.set {g : List (List Int)} {n m i : Nat} {r : List Int} (h : Grid g n m) (hr : i < n → r.length = m) : Grid (g.set i r) n m := by
  refine ⟨by simp [h.1], fun j hj => ?_⟩
  have h0 := h.2 j hj
  simp only [List.getD_eq_getElem?_getD] at h0 ⊢
  rw [List.getElem?_set]
  split
  · rename_i e
    subst e
    split
    · simpa using hr hj
    · rename_i hn; exact absurd (by rw [h.1]; exact hj) hn
  · exact h0
theorem Grid.set2 {g : List (List Int)} {n m i j : Nat} {v : Int} (h : Grid g n m) : Grid (g.set i ((g.getD i []).set j v)) n m :=
  h.set fun hi => by simpa using h.2 i hi
theorem Grid.row {g : List (List Int)} {n m i : Nat} (h : Grid g n m) (hi : i < n) : (g.getD i []).length = m := h.2 i hi
structure Reach1 (i : Int) (x : Reach) : Prop where
  up : x.up < i
  delay1 : 1 ≤ x.delay
  delay : x.delay ≤ 16
  siphon0 : 0 ≤ x.siphon
  siphon : x.siphon ≤ x.cap
  cap : x.cap ≤ 1073741824
  bank : x.siphon ≤ x.bank
  bank1 : x.bank ≤ 1099511627776
theorem reach_one {i : Int} {x : Reach} (hi : 0 ≤ i) (h : expand_reach i x = true) : Reach1 i x := by
  unfold expand_reach at h
  cases hd : decide (i > 0) with
  | true =>
    rw [hd] at h
    simp only [cond_true, Bool.and_eq_true, expand_index, decide_eq_true_eq] at h hd
    obtain ⟨⟨⟨⟨⟨h0, h1⟩, h2⟩, h3⟩, h4⟩, h5⟩ := h
    have := rising3 h1
    have := rising4 h2
    have := rising4 h3
    constructor <;> omega
  | false =>
    rw [hd] at h
    simp only [cond_false, Bool.and_eq_true, beq_iff_eq, decide_eq_false_iff_not] at h hd
    obtain ⟨⟨⟨⟨⟨h0, h1⟩, h2⟩, h3⟩, h4⟩, h5⟩ := h
    have := rising3 h1
    have := rising4 h2
    have := rising4 h3
    constructor <;> omega
theorem Right1.reach1 {d : District} (h : Right1 d) {k : Nat} (hk : k < d.reaches.length) : Reach1 k (d.reaches.getD k default) := reach_one (by omega) (h.reach k hk)
theorem Right1.reachI {d : District} (h : Right1 d) {i : Int} (h0 : 0 ≤ i) (hi : i < (d.reaches.length : Int)) : Reach1 i (d.reaches.getD i.toNat default) := by
  have := h.reach1 (k := i.toNat) (by omega)
  rwa [Int.toNat_of_nonneg h0] at this
theorem read1_step {d : District} {l : List Order} (ho : Orders1 d l) (k : Nat) (hk : k < l.length) (s : List (CertifyPlace × Int) × List (List Int) × List (List Int))
    (h1 : Grid s.2.1 d.reaches.length d.hours.toNat) (h2 : Grid s.2.2 d.reaches.length (d.hours + 1).toNat) :
    certify_read_l1_p d l k s ∧ ∀ s', certify_read_l1 d l k s = .inr s' → Grid s'.2.1 d.reaches.length d.hours.toNat ∧ Grid s'.2.2 d.reaches.length (d.hours + 1).toNat := by
  have hx := ho.one k hk
  have hr := ho.right
  have a1 := hr.hours1
  have a2 := hr.hours
  constructor
  · unfold certify_read_l1_p
    generalize l.getD k default = x at hx ⊢
    have b1 := hx.hour0
    have b2 := hx.hour
    have b3 := hx.index0
    have hw : IntKind.i64.wrap (x.hour + 1) = x.hour + 1 := wrapI (by omega) (by omega)
    refine ⟨fun e => ?_, fun e => ?_⟩
    · have b4 := hx.farm e
      have hf := hr.farm x.index.toNat (by omega)
      have hg := h1.row (i := (d.farms.getD x.index.toNat default).reach.toNat) (by omega)
      rw [hg, h1.1]
      exact ⟨⟨b3, b4⟩, fun _ => ⟨hf, ⟨b1, by omega⟩, b1, by omega⟩⟩
    · have b4 := hx.reach e
      have hf := hr.reachI b3 b4
      have hu := hf.up
      have hg := h2.row (i := x.index.toNat) (by omega)
      rw [hg, h1.1, h2.1, hw]
      refine ⟨⟨b3, b4⟩, ⟨b3, b4⟩, ⟨by omega, by omega⟩, fun hd => ?_⟩
      have hd := of_decide_eq_true hd
      have hg1 := h1.row (i := (d.reaches.getD x.index.toNat default).up.toNat) (by omega)
      rw [hg1]
      exact ⟨⟨hd, by omega⟩, ⟨b1, by omega⟩, b1, by omega⟩
  · intro s' hs
    unfold certify_read_l1 at hs
    simp only [Bool.cond_eq_ite] at hs
    repeat' split at hs
    all_goals (simp only [Sum.inr.injEq] at hs; subst hs; exact ⟨by first | exact h1 | exact h1.set2, by first | exact h2 | exact h2.set2⟩)
theorem read3_step {d : District} (hr : Right1 d) (k : Nat) (hk : k < d.reaches.length) (j : Nat) (hj : j < d.hours.toNat) (s : List (List Int)) (h : Grid s d.reaches.length (d.hours + 1).toNat) :
    certify_read_l3_p d k j s ∧ ∀ s', certify_read_l3 d k j s = .inr s' → Grid s' d.reaches.length (d.hours + 1).toNat := by
  have a1 := hr.hours1
  have a2 := hr.hours
  have hw : IntKind.i64.wrap ((j : Int) + 1) = (j : Int) + 1 := wrapI (by omega) (by omega)
  have hg := h.row hk
  constructor
  · unfold certify_read_l3_p
    rw [hw, hg]
    omega
  · intro s' hs
    simp only [certify_read_l3, Sum.inr.injEq] at hs
    subst hs
    exact h.set2
theorem read2_step {d : District} (hr : Right1 d) (t : List (CertifyPlace × Int) × List (List Int) × List (List Int)) (k : Nat) (hk : k < d.reaches.length) (s : List (List Int)) (h : Grid s d.reaches.length (d.hours + 1).toNat) :
    certify_read_l2_p d t k s ∧ ∀ s', certify_read_l2 d t k s = .inr s' → Grid s' d.reaches.length (d.hours + 1).toNat := by
  have a1 := hr.hours1
  have a2 := hr.hours
  constructor
  · unfold certify_read_l2_p
    refine ⟨⟨by omega, by rw [h.1]; omega⟩, by omega, okI_inv (fun _ s => Grid s d.reaches.length (d.hours + 1).toNat) _ _ _ h fun j s _ hj hg => read3_step hr k hk j (by omega) s hg⟩
  · intro s' hs
    unfold certify_read_l2 at hs
    split at hs
    · rename_i x _; exact x.elim
    · rename_i s3 h3
      simp only [Sum.inr.injEq] at hs
      subst hs
      exact runI_inv (fun _ s => Grid s d.reaches.length (d.hours + 1).toNat) _ _ _ h (fun j s _ hj hg s' hs' => (read3_step hr k hk j (by omega) s hg).2 s' hs') _ h3
theorem read_p (d : District) (l : List Order) : certify_read_p d l := by
  intro h1 h2
  refine ⟨routing_pt d l, fun h3 _ => ?_⟩
  have ho := routing_orders h3
  have hr := ho.right
  have a1 := hr.hours1
  have a2 := hr.hours
  have a3 := hr.reaches
  have hw : IntKind.i64.wrap (d.hours + 1) = d.hours + 1 := wrapI (by omega) (by omega)
  have J0 : ∀ j (s : List (List Int) × List (List Int)), (Grid s.1 j (d.hours + 1).toNat ∧ Grid s.2 j d.hours.toNat) → j < d.reaches.length → certify_read_l0_p d j s ∧ ∀ s', certify_read_l0 d j s = .inr s' → (Grid s'.1 (j + 1) (d.hours + 1).toNat ∧ Grid s'.2 (j + 1) d.hours.toNat) := by
    intro j s hg hj
    constructor
    · unfold certify_read_l0_p
      have e1 := hg.1.1
      have e2 := hg.2.1
      simp only [hw, List.length_append, List.length_cons, List.length_nil, true_and, maxB, maxL]
      refine ⟨⟨by omega, by omega⟩, fun _ => ⟨by omega, fun _ => ⟨⟨by omega, by omega⟩, fun _ => ?_⟩⟩⟩
      omega
    · intro s' hs
      simp only [certify_read_l0, Sum.inr.injEq] at hs
      subst hs
      simp only [hw]
      exact ⟨hg.1.app (by simp), hg.2.app (by simp)⟩
  refine ⟨okI_inv (fun j s => Grid s.1 j (d.hours + 1).toNat ∧ Grid s.2 j d.hours.toNat) _ _ _ ⟨⟨rfl, fun i hi => absurd hi (by omega)⟩, ⟨rfl, fun i hi => absurd hi (by omega)⟩⟩ fun j s _ hj hg => J0 j s hg (by omega), fun s0 hs0 _ => ?_⟩
  have hg0 := runI_inv (fun j s => Grid s.1 j (d.hours + 1).toNat ∧ Grid s.2 j d.hours.toNat) _ _ _ ⟨⟨rfl, fun i hi => absurd hi (by omega)⟩, ⟨rfl, fun i hi => absurd hi (by omega)⟩⟩ (fun j s _ hj hg s' hs' => (J0 j s hg (by omega)).2 s' hs') s0 hs0
  simp only [Nat.zero_add] at hg0
  refine ⟨okI_inv (fun _ s => Grid s.2.1 d.reaches.length d.hours.toNat ∧ Grid s.2.2 d.reaches.length (d.hours + 1).toNat) _ _ _ ⟨hg0.2, hg0.1⟩ fun j s _ hj hg => read1_step ho j (by omega) s hg.1 hg.2, fun s1 hs1 _ => ?_⟩
  have hg1 := runI_inv (fun _ s => Grid s.2.1 d.reaches.length d.hours.toNat ∧ Grid s.2.2 d.reaches.length (d.hours + 1).toNat) _ _ _ ⟨hg0.2, hg0.1⟩ (fun j s _ hj hg s' hs' => (read1_step ho j (by omega) s hg.1 hg.2).2 s' hs') _ hs1
  exact okI_inv (fun _ s => Grid s d.reaches.length (d.hours + 1).toNat) _ _ _ hg1.2 fun j s _ hj hg => read2_step hr s1 j (by rw [hg1.2.1] at hj; omega) s hg
end Go.Sx
end
section
namespace Go.Sx
open Go.Proofs
structure Table1 (d : District) (l : List Order) (t : CertifyTable) : Prop where
  td : t.d = d
  tl : t.l = l
  sums : Grid t.sums d.reaches.length (d.hours + 1).toNat
  drawn : Grid t.drawn d.reaches.length d.hours.toNat
  ords : Orders1 d l
theorem read_table {d : District} {l : List Order} (h : ((certify_read d l).2 != 0) = false) : Table1 d l (certify_read d l).1 := by
  have h : (certify_read d l).2 = 0 := by simpa using h
  unfold certify_read at h ⊢
  cases h1 : (decide (IntKind.i64.wrap ((d.reaches.length : Int) * d.hours) > 1024) || decide ((l.length : Int) > 4096)) with
  | true => rw [h1] at h; simp at h
  | false =>
    rw [h1] at h
    simp only [cond_false] at h ⊢
    cases h2 : (routing_Check d l != 0) with
    | true => rw [h2] at h; simp at h
    | false =>
      rw [h2] at h
      simp only [cond_false] at h ⊢
      have ho := routing_orders h2
      have hr := ho.right
      have a1 := hr.hours1
      have a2 := hr.hours
      have hw : IntKind.i64.wrap (d.hours + 1) = d.hours + 1 := wrapI (by omega) (by omega)
      cases hs0 : runI (certify_read_l0 d) d.reaches.length 0 ([], []) with
      | inl x => exact x.elim
      | inr s0 =>
        have hg0 := runI_inv (fun j s => Grid s.1 j (d.hours + 1).toNat ∧ Grid s.2 j d.hours.toNat) _ _ _ ⟨⟨rfl, fun i hi => absurd hi (by omega)⟩, ⟨rfl, fun i hi => absurd hi (by omega)⟩⟩ (fun j s _ hj hg s' hs => by
          simp only [certify_read_l0, Sum.inr.injEq] at hs
          subst hs
          simp only [hw]
          exact ⟨hg.1.app (by simp), hg.2.app (by simp)⟩) s0 hs0
        simp only [Nat.zero_add] at hg0
        dsimp only
        cases hs1 : runI (certify_read_l1 d l) l.length 0 ([], s0.2, s0.1) with
        | inl x => exact x.elim
        | inr s1 =>
          have hg1 := runI_inv (fun _ s => Grid s.2.1 d.reaches.length d.hours.toNat ∧ Grid s.2.2 d.reaches.length (d.hours + 1).toNat) _ _ _ ⟨hg0.2, hg0.1⟩ (fun j s _ hj hg s' hs' => (read1_step ho j (by omega) s hg.1 hg.2).2 s' hs') _ hs1
          dsimp only
          cases hs2 : runI (certify_read_l2 d s1) s1.2.2.length 0 s1.2.2 with
          | inl x => exact x.elim
          | inr s2 =>
            have hg2 := runI_inv (fun _ s => Grid s d.reaches.length (d.hours + 1).toNat) _ _ _ hg1.2 (fun j s _ hj hg s' hs' => (read2_step hr s1 j (by rw [hg1.2.1] at hj; omega) s hg).2 s' hs') _ hs2
            exact ⟨rfl, rfl, hg2, hg1.1, ho⟩
theorem runI_app {f : Nat → List Fault} {step : Nat → List Fault → Empty ⊕ List Fault} (h : ∀ j s, step j s = .inr (s ++ f j)) : ∀ n i s, runI step n i s = .inr (s ++ (List.range' i n).flatMap f)
  | 0, i, s => by simp [runI]
  | n + 1, i, s => by
    simp only [runI, h]
    rw [runI_app h n (i + 1) (s ++ f i)]
    simp [List.range'_succ]
theorem okI_app {f : Nat → List Fault} {step : Nat → List Fault → Empty ⊕ List Fault} (h : ∀ j s, step j s = .inr (s ++ f j)) (B : Nat) (hB : ∀ j, (f j).length ≤ B) {p : Nat → List Fault → Prop} {n : Nat} {s0 : List Fault}
    (hp : ∀ j s, j < n → s.length ≤ s0.length + j * B → p j s) : okI step p n 0 s0 :=
  okI_inv (fun j s => s.length ≤ s0.length + j * B) _ _ _ (by omega) fun j s _ hj hs => ⟨hp j s (by omega) hs, fun s' e => by
    rw [h] at e
    simp only [Sum.inr.injEq] at e
    subst e
    have := hB j
    rw [Nat.succ_mul, List.length_append]
    omega⟩
theorem runL_app {τ : Type} {f : τ → List Fault} {step : τ → List Fault → Empty ⊕ List Fault} (h : ∀ x s, step x s = .inr (s ++ f x)) : ∀ l s, runL step l s = .inr (s ++ l.flatMap f)
  | [], s => by simp [runL]
  | x :: l, s => by
    simp only [runL, h]
    rw [runL_app h l (s ++ f x)]
    simp
theorem okL_app {τ : Type} {f : τ → List Fault} {step : τ → List Fault → Empty ⊕ List Fault} (h : ∀ x s, step x s = .inr (s ++ f x)) (B : Nat) (hB : ∀ x, (f x).length ≤ B) {p : τ → List Fault → Prop} : ∀ (l : List τ) (s : List Fault),
    (∀ x ∈ l, ∀ s', s'.length ≤ s.length + l.length * B → p x s') → okL step p l s
  | [], _, _ => trivial
  | x :: l, s, hp => by
    refine ⟨hp x (by simp) s (by omega), fun s' e => ?_⟩
    rw [h] at e
    simp only [Sum.inr.injEq] at e
    subst e
    refine okL_app h B hB l _ fun y hy s' hs' => hp y (by simp [hy]) s' ?_
    have := hB x
    rw [List.length_append] at hs'
    rw [List.length_cons, Nat.succ_mul]
    omega
def gF (t : CertifyTable) (kind : Int) (k : Nat) : List Fault :=
  bif (t.l.getD k default).outlet then [] else
  bif kind == 2 then
    bif decide ((t.l.getD k default).litres < (t.d.reaches.getD (t.l.getD k default).index.toNat default).siphon) then
      [{ kind := kind, hour := (t.l.getD k default).hour, index := (t.l.getD k default).index, litres := (t.l.getD k default).litres, limit := (t.d.reaches.getD (t.l.getD k default).index.toNat default).siphon }] else []
  else
    bif decide ((t.l.getD k default).litres > (t.d.reaches.getD (t.l.getD k default).index.toNat default).cap) then
      [{ kind := kind, hour := (t.l.getD k default).hour, index := (t.l.getD k default).index, litres := (t.l.getD k default).litres, limit := (t.d.reaches.getD (t.l.getD k default).index.toNat default).cap }] else []
theorem gates_step (t : CertifyTable) (kind : Int) (j : Nat) (s : List Fault) : certify_table_gates_1_l0 t kind j s = .inr (s ++ gF t kind j) := by
  unfold certify_table_gates_1_l0 gF certify_Faults_1
  simp only [Bool.cond_eq_ite]
  repeat' split
  all_goals simp_all
theorem gates_run (t : CertifyTable) (kind : Int) (s : List Fault) : certify_table_gates_1 t kind s = s ++ (List.range' 0 t.l.length).flatMap (gF t kind) := by
  unfold certify_table_gates_1
  rw [runI_app (gates_step t kind)]
theorem gF_len (t : CertifyTable) (kind : Int) (k : Nat) : (gF t kind k).length ≤ 1 := by
  unfold gF
  simp only [Bool.cond_eq_ite]
  repeat' split
  all_goals simp
theorem one_p {x : Fault} {s : List Fault} (h : s.length ≤ 1000000000) : certify_Faults_1_p x s := by
  unfold certify_Faults_1_p maxB
  rw [List.length_append, List.length_singleton]
  omega
theorem gates_p {d : District} {l : List Order} {t : CertifyTable} (h : Table1 d l t) (kind : Int) {s : List Fault} (hs : s.length ≤ 100000000) : certify_table_gates_1_p t kind s := fun _ => by
  refine okI_app (gates_step t kind) 1 (gF_len t kind) fun j s' hj hs' => ?_
  have hl := h.ords.len
  rw [h.tl] at hj
  have hx := h.ords.one j hj
  unfold certify_table_gates_1_l0_p
  rw [h.tl, h.td]
  generalize l.getD j default = x at hx ⊢
  have h1 : ∀ x, certify_Faults_1_p x s' := fun x => one_p (by omega)
  exact fun e => ⟨⟨hx.index0, hx.reach e⟩, fun _ => ⟨⟨hx.index0, hx.reach e⟩, fun _ => h1 _, fun e => e⟩, fun _ => ⟨fun _ => h1 _, fun e => e⟩⟩
theorem cells_mem {t : CertifyTable} {z : Int × Int} (h : z ∈ certify_cells t) : 0 ≤ z.1 ∧ z.1 < (t.d.hours.toNat : Int) ∧ 0 ≤ z.2 ∧ z.2 < (t.d.reaches.length : Int) := by
  unfold certify_cells at h
  simp only [List.mem_flatMap, List.mem_range, List.mem_map] at h
  obtain ⟨a, ha, b, hb, rfl⟩ := h
  dsimp only
  omega
theorem cells_len (t : CertifyTable) : (certify_cells t).length = t.d.hours.toNat * t.d.reaches.length := by
  unfold certify_cells
  simp [List.length_flatMap, List.map_const', Nat.mul_comm]
def waterW (t : CertifyTable) (z : Int × Int) : Int :=
  IntKind.i64.wrap ((t.sums.getD z.2.toNat default).getD (IntKind.i64.wrap (z.1 + 1)).toNat 0 - (t.sums.getD z.2.toNat default).getD (if 0 < IntKind.i64.wrap (IntKind.i64.wrap (z.1 + 1) - (t.d.reaches.getD z.2.toNat default).delay) then IntKind.i64.wrap (IntKind.i64.wrap (z.1 + 1) - (t.d.reaches.getD z.2.toNat default).delay) else 0).toNat 0)
def bF (t : CertifyTable) (z : Int × Int) : List Fault :=
  bif decide (waterW t z > (t.d.reaches.getD z.2.toNat default).bank) then [{ kind := 3, hour := z.1, index := z.2, litres := waterW t z, limit := (t.d.reaches.getD z.2.toNat default).bank }] else []
theorem banks_step (t : CertifyTable) (z : Int × Int) (s : List Fault) : certify_table_banks_l0 t z s = .inr (s ++ bF t z) := by
  unfold certify_table_banks_l0 bF certify_Faults_1 waterW
  simp only [Bool.cond_eq_ite]
  generalize IntKind.i64.wrap ((t.sums.getD z.2.toNat default).getD (IntKind.i64.wrap (z.1 + 1)).toNat 0 - (t.sums.getD z.2.toNat default).getD (if 0 < IntKind.i64.wrap (IntKind.i64.wrap (z.1 + 1) - (t.d.reaches.getD z.2.toNat default).delay) then IntKind.i64.wrap (IntKind.i64.wrap (z.1 + 1) - (t.d.reaches.getD z.2.toNat default).delay) else 0).toNat 0) = w
  split <;> simp
theorem banks_run (t : CertifyTable) (s : List Fault) : certify_table_banks t s = s ++ (certify_cells t).flatMap (bF t) := by
  unfold certify_table_banks
  rw [runL_app (banks_step t)]
theorem bF_len (t : CertifyTable) (z : Int × Int) : (bF t z).length ≤ 1 := by
  unfold bF; simp only [Bool.cond_eq_ite]; split <;> simp
def wF (t : CertifyTable) (z : Int × Int) : List Fault :=
  bif decide ((t.drawn.getD z.2.toNat default).getD z.1.toNat 0 > certify_table_arrives t z.2 z.1) then [{ kind := 5, hour := z.1, index := z.2, litres := (t.drawn.getD z.2.toNat default).getD z.1.toNat 0, limit := certify_table_arrives t z.2 z.1 }] else []
theorem water_step (t : CertifyTable) (z : Int × Int) (s : List Fault) : certify_table_water_l0 t z s = .inr (s ++ wF t z) := by
  unfold certify_table_water_l0 wF certify_Faults_1
  simp only [Bool.cond_eq_ite]
  split <;> simp
theorem water_run (t : CertifyTable) (s : List Fault) : certify_table_water t s = s ++ (certify_cells t).flatMap (wF t) := by
  unfold certify_table_water
  rw [runL_app (water_step t)]
theorem wF_len (t : CertifyTable) (z : Int × Int) : (wF t z).length ≤ 1 := by
  unfold wF; simp only [Bool.cond_eq_ite]; split <;> simp
def uF (t : CertifyTable) (m : List (CertifyPlace × Int)) (h f : Nat) : List Fault :=
  bif decide (mgetT Tag.certifyPlace Tag.int t.litres { hour := (h : Int), index := (f : Int), outlet := true } < mgetT Tag.certifyPlace Tag.int m { hour := (h : Int), index := (f : Int), outlet := true }) then
    [{ kind := 6, hour := (h : Int), index := (f : Int), litres := mgetT Tag.certifyPlace Tag.int t.litres { hour := (h : Int), index := (f : Int), outlet := true }, limit := mgetT Tag.certifyPlace Tag.int m { hour := (h : Int), index := (f : Int), outlet := true } }] else []
theorem unmet2_step (t : CertifyTable) (m : List (CertifyPlace × Int)) (h f : Nat) (s : List Fault) : certify_table_unmet_1_l2 t m h f s = .inr (s ++ uF t m h f) := by
  unfold certify_table_unmet_1_l2 uF certify_Faults_1
  simp only [Bool.cond_eq_ite]
  split <;> simp
theorem unmet1_step (t : CertifyTable) (m : List (CertifyPlace × Int)) (h : Nat) (s : List Fault) : certify_table_unmet_1_l1 t m h s = .inr (s ++ (List.range' 0 t.d.farms.length).flatMap (uF t m h)) := by
  unfold certify_table_unmet_1_l1
  rw [runI_app (unmet2_step t m h)]
theorem uF_len (t : CertifyTable) (m : List (CertifyPlace × Int)) (h f : Nat) : (uF t m h f).length ≤ 1 := by
  unfold uF; simp only [Bool.cond_eq_ite]; split <;> simp
end Go.Sx
end
section
namespace Go.Sx
open Go.Proofs
theorem cells_small {d : District} {t : CertifyTable} (hr : Right1 d) (ht : t.d = d) : (certify_cells t).length ≤ 262144 := by
  rw [cells_len, ht]
  have h1 : d.hours.toNat ≤ 4096 := by have := hr.hours; omega
  exact Nat.mul_le_mul h1 hr.reaches
theorem banks_p {d : District} {l : List Order} {t : CertifyTable} (h : Table1 d l t) {s : List Fault} (hs : s.length ≤ 100000000) : certify_table_banks_p t s := by
  have hr := h.ords.right
  have a1 := hr.hours1
  have a2 := hr.hours
  have hc := cells_small hr h.td
  refine ⟨by rw [h.td]; omega, okL_app (banks_step t) 1 (bF_len t) _ _ fun z hz s' hs' => ?_⟩
  have hz := cells_mem hz
  rw [h.td] at hz
  have h1 : ∀ x, certify_Faults_1_p x s' := fun x => one_p (by omega)
  have hx := hr.reachI hz.2.2.1 hz.2.2.2
  have b1 := hx.delay1
  have b2 := hx.delay
  have hw : IntKind.i64.wrap (z.1 + 1) = z.1 + 1 := wrapI (by omega) (by omega)
  have hw2 : IntKind.i64.wrap (z.1 + 1 - (d.reaches.getD z.2.toNat default).delay) = z.1 + 1 - (d.reaches.getD z.2.toNat default).delay := wrapI (by omega) (by omega)
  have hg : (t.sums.getD z.2.toNat default).length = (d.hours + 1).toNat := h.sums.row (by omega)
  unfold certify_table_banks_l0_p
  rw [h.td, hw, hw2, hg, h.sums.1]
  refine ⟨⟨by omega, by omega⟩, ⟨by omega, by omega⟩, ⟨by omega, by omega⟩, ⟨by omega, by omega⟩, ⟨?_, ?_⟩, fun _ => h1 _, fun e => e⟩
  · split <;> omega
  · split <;> omega
theorem water_p {d : District} {l : List Order} {t : CertifyTable} (h : Table1 d l t) {s : List Fault} (hs : s.length ≤ 100000000) : certify_table_water_p t s := by
  have hr := h.ords.right
  have a1 := hr.hours1
  have a2 := hr.hours
  have hc := cells_small hr h.td
  refine ⟨by rw [h.td]; omega, okL_app (water_step t) 1 (wF_len t) _ _ fun z hz s' hs' => ?_⟩
  have hz := cells_mem hz
  rw [h.td] at hz
  have h1 : ∀ x, certify_Faults_1_p x s' := fun x => one_p (by omega)
  have hg : (t.drawn.getD z.2.toNat default).length = d.hours.toNat := h.drawn.row (by omega)
  unfold certify_table_water_l0_p certify_table_arrives_p
  rw [hg, h.drawn.1, h.td]
  exact ⟨⟨by omega, by omega⟩, ⟨by omega, by omega⟩, ⟨⟨by omega, by omega⟩, by omega, by omega⟩, fun _ => h1 _, fun e => e⟩
theorem tank_p {d : District} {l : List Order} {t : CertifyTable} (h : Table1 d l t) {s : List Fault} (hs : s.length ≤ 100000000) : certify_table_tank_p t s := by
  have hr := h.ords.right
  have a1 := hr.hours1
  have a2 := hr.hours
  have a3 := hr.one
  refine ⟨by rw [h.td]; omega, okI_all _ _ _ fun j _ _ hj => ?_⟩
  rw [h.td] at hj
  have hw : IntKind.i64.wrap ((j : Int) + 1) = (j : Int) + 1 := wrapI (by omega) (by omega)
  have hg : (t.sums.getD 0 default).length = (d.hours + 1).toNat := h.sums.row a3
  unfold certify_table_tank_l0_p
  rw [hw, hg, h.sums.1]
  exact ⟨⟨by omega, by omega⟩, ⟨by omega, by omega⟩, fun _ => one_p (by omega)⟩
theorem flat_len {α : Type} (f : α → List Fault) (h : ∀ x, (f x).length ≤ 1) : ∀ l : List α, (l.flatMap f).length ≤ l.length
  | [] => by simp
  | x :: l => by
    have := flat_len f h l
    have := h x
    simp only [List.flatMap_cons, List.length_append, List.length_cons]
    omega
theorem unmet_p {d : District} {l : List Order} {t : CertifyTable} (h : Table1 d l t) (c : List Claim) {s : List Fault} (hs : s.length ≤ 100000000) : certify_table_unmet_1_p c t s := fun _ m _ => by
  have hr := h.ords.right
  have a1 := hr.hours1
  have a2 := hr.hours
  have a3 := hr.farms
  have hB : ∀ j, ((List.range' 0 t.d.farms.length).flatMap (uF t m j)).length ≤ 600 := fun j => by
    have := flat_len (uF t m j) (uF_len t m j) (List.range' 0 t.d.farms.length)
    rw [List.length_range'] at this
    rw [h.td] at *
    omega
  refine ⟨by rw [h.td]; omega, okI_app (unmet1_step t m) 600 hB fun j s' hj hs' => fun _ => ?_⟩
  rw [h.td] at hj
  have : j * 600 ≤ 4096 * 600 := Nat.mul_le_mul_right _ (by omega)
  refine okI_app (unmet2_step t m j) 1 (uF_len t m j) fun i s2 hi hs2 => ?_
  rw [h.td] at hi
  have h1 : ∀ x, certify_Faults_1_p x s2 := fun x => one_p (by omega)
  unfold certify_table_unmet_1_l2_p
  exact ⟨fun _ => h1 _, fun e => e⟩
end Go.Sx
end
section
namespace Go.Sx
open Go.Proofs
theorem claims_pt (d : District) (c : List Claim) : claims_Check_p d c := fun _ h1 _ _ => okI_all _ _ _ fun j s h2 h3 => by
  unfold maxL at h1
  unfold claims_Check_l0_p
  refine ⟨fun h => ?_, fun h => ?_, fun _ h => ?_⟩
  · simp only [Bool.not_eq_false', Bool.and_eq_true, decide_eq_true_eq] at h
    omega
  · simp only [Bool.or_eq_false_iff, Bool.not_eq_false', Bool.and_eq_true, decide_eq_true_eq] at h
    omega
  · simp only [decide_eq_true_eq] at h
    rw [wrap_pred (by omega) (by omega)]; omega
theorem runI_inl {ρ : Type} {step : Nat → Unit → ρ ⊕ Unit} : ∀ {n i : Nat} {s : Unit} {y : ρ}, runI step n i s = .inl y → ∃ j, i ≤ j ∧ j < i + n ∧ step j () = .inl y
  | n + 1, i, s, y, h => by
    simp only [runI] at h
    cases hs : step i s with
    | inl r => rw [hs] at h; cases h; exact ⟨i, by omega, by omega, hs⟩
    | inr s' =>
      rw [hs] at h
      obtain ⟨j, h1, h2, h3⟩ := runI_inl h
      exact ⟨j, by omega, by omega, h3⟩
theorem tank_run (t : CertifyTable) (s : List Fault) : ∃ T : List Fault, certify_table_tank t s = s ++ T ∧ (T = [] ∨ ∃ x, T = [x] ∧ x.kind = 4 ∧ x.litres > x.limit) := by
  unfold certify_table_tank
  split
  · rename_i y hy
    obtain ⟨j, _, _, h⟩ := runI_inl hy
    unfold certify_table_tank_l0 certify_Faults_1 at h
    rw [Bool.cond_eq_ite] at h
    split at h
    · rename_i hd
      simp only [decide_eq_true_eq] at hd
      cases h
      exact ⟨_, rfl, .inr ⟨_, rfl, rfl, hd⟩⟩
    · cases h
  · exact ⟨[], by simp, .inl rfl⟩
theorem flat_lenB {α : Type} (f : α → List Fault) (B : Nat) (h : ∀ x, (f x).length ≤ B) : ∀ l : List α, (l.flatMap f).length ≤ l.length * B
  | [] => by simp
  | x :: l => by
    have := flat_lenB f B h l
    have := h x
    simp only [List.flatMap_cons, List.length_append, List.length_cons, Nat.succ_mul]
    omega
theorem unmet_run (c : List Claim) (t : CertifyTable) : ∃ m, ∀ s, certify_table_unmet_1 c t s = s ++ (List.range' 0 t.d.hours.toNat).flatMap fun h => (List.range' 0 t.d.farms.length).flatMap (uF t m h) := by
  unfold certify_table_unmet_1
  cases hs : runI (certify_table_unmet_1_l0 c) c.length 0 [] with
  | inl x => exact x.elim
  | inr m =>
    refine ⟨m, fun s => ?_⟩
    dsimp only
    rw [runI_app (unmet1_step t m)]
theorem stage_p {d : District} {l : List Order} (h : Table1 d l (certify_read d l).1) (c : List Claim) (j : Nat) (s : List Fault) (hs : s.length ≤ 100000000) : certify_Faults_l0_p d c l j s :=
  ⟨fun _ => gates_p h 1 hs, fun _ => ⟨fun _ => gates_p h 2 hs, fun _ => ⟨fun _ => banks_p h hs, fun _ => ⟨fun _ => tank_p h hs, fun _ => ⟨fun _ => water_p h hs, fun _ => unmet_p h c hs⟩⟩⟩⟩⟩
theorem stage_len {d : District} {l : List Order} (h : Table1 d l (certify_read d l).1) (c : List Claim) (j : Nat) (s s' : List Fault) (hs : certify_Faults_l0 d c l j s = .inr s') : s'.length ≤ s.length + 3000000 := by
  have hr := h.ords.right
  have hc := cells_small hr h.td
  have hl := h.ords.len
  unfold certify_Faults_l0 at hs
  generalize (certify_read d l).1 = t at h hc hs
  have g : ∀ k, (certify_table_gates_1 t k s).length ≤ s.length + 3000000 := fun k => by
    have := flat_len _ (gF_len t k) (List.range' 0 t.l.length)
    rw [List.length_range', h.tl] at this
    rw [gates_run, List.length_append, h.tl]; omega
  simp only [Bool.cond_eq_ite] at hs
  repeat' split at hs
  all_goals (simp only [Sum.inr.injEq] at hs; subst hs)
  · exact g 1
  · exact g 2
  · have := flat_len _ (bF_len t) (certify_cells t)
    rw [banks_run, List.length_append]; omega
  · obtain ⟨T, e, hT⟩ := tank_run t s
    rw [e, List.length_append]
    rcases hT with rfl | ⟨x, rfl, _⟩ <;> simp
  · have := flat_len _ (wF_len t) (certify_cells t)
    rw [water_run, List.length_append]; omega
  · obtain ⟨m, hm⟩ := unmet_run c t
    have h1 := flat_lenB (fun h => (List.range' 0 t.d.farms.length).flatMap (uF t m h)) 600 (fun x => by
      have := flat_len _ (uF_len t m x) (List.range' 0 t.d.farms.length)
      have := hr.farms
      rw [List.length_range'] at *
      rw [h.td] at *
      omega) (List.range' 0 t.d.hours.toNat)
    have h2 := hr.hours
    rw [List.length_range', h.td] at h1
    rw [hm, List.length_append, h.td]
    have : d.hours.toNat * 600 ≤ 4096 * 600 := Nat.mul_le_mul_right _ (by omega)
    omega
theorem faults_pt (d : District) (c : List Claim) (l : List Order) : certify_Faults_p d c l := by
  refine ⟨claims_pt d c, fun _ => ⟨read_p d l, fun h2 => ?_⟩⟩
  have h := read_table h2
  exact okI_inv (fun k s => s.length ≤ k * 3000000) _ _ _ (by simp) fun j s _ hj hs => ⟨stage_p h c j s (by omega), fun s' e => by
    have := stage_len h c j s s' e
    omega⟩
theorem accepts_pt (d : District) (c : List Claim) (l : List Order) : certify_Accepts_p d c l := faults_pt d c l
theorem arrive_pt (d : District) (l : List Order) (r h : Int) : certify_Arrive_p d l r h := fun _ => ⟨read_p d l, fun h2 h3 => by
  have ht := read_table h2
  simp only [Bool.or_eq_false_iff, decide_eq_false_iff_not] at h3
  unfold certify_table_arrives_p
  rw [ht.td]
  omega⟩
end Go.Sx
end
section
namespace Go.Sx
open Go.Proofs
set_option maxRecDepth 100000
theorem sane_t : law28_sane = true := by kernel_rfl
theorem acc_T (d : District) (c : List Claim) (l : List Order) : certify_Accepts_p d c l = True := eq_true (accepts_pt d c l)
theorem fau_T (d : District) (c : List Claim) (l : List Order) : certify_Faults_p d c l = True := eq_true (faults_pt d c l)
theorem arr_T (d : District) (l : List Order) (r h : Int) : certify_Arrive_p d l r h = True := eq_true (arrive_pt d l r h)
theorem sane_p : law28_sane_p := by
  unfold law28_sane_p
  simp [acc_T, fau_T, arr_T, maxB, law28_district, law28_sane_c0, law28_sane_c1, law28_sane_c2, law28_sane_c3, law28_sane_c4, law28_sane_c5, law28_sane_c6, law28_sane_c7, law28_sane_c8, law28_sane_c9, law28_sane_c10, law28_sane_c11, law28_sane_c12, law28_sane_c13, law28_sane_c14, law28_sane_c15, law28_sane_c16, law28_sane_c17, law28_sane_c18, law28_sane_c19]
end Go.Sx
end
section
namespace Go.Sx
open Go.Proofs
theorem faults_eq {d : District} {c : List Claim} {l : List Order} (h : ((certify_Faults d c l).2 != 0) = false) :
    ((certify_read d l).2 != 0) = false ∧ (expand_Check d != 0) = false ∧ (certify_Faults d c l).1 = certify_table_unmet_1 c (certify_read d l).1 (certify_table_water (certify_read d l).1 (certify_table_tank (certify_read d l).1 (certify_table_banks (certify_read d l).1 (certify_table_gates_1 (certify_read d l).1 2 (certify_table_gates_1 (certify_read d l).1 1 []))))) := by
  have h : (certify_Faults d c l).2 = 0 := by simpa using h
  unfold certify_Faults at h ⊢
  cases h1 : (claims_Check d c != 0) with
  | true => rw [h1] at h; simp at h h1; exact absurd h h1
  | false =>
    rw [h1] at h
    simp only [cond_false] at h ⊢
    cases h2 : ((certify_read d l).2 != 0) with
    | true => rw [h2] at h; simp at h h2; exact absurd h h2
    | false =>
      refine ⟨rfl, ?_, ?_⟩
      · have h1 : claims_Check d c = 0 := by simpa using h1
        unfold claims_Check at h1
        cases h3 : (expand_Check d != 0) with
        | true => rw [h3] at h1; simp at h1 h3; exact absurd h1 h3
        | false => rfl
      · simp only [cond_false]
        rfl
end Go.Sx
end
section
namespace Go.Sx
open Go.Proofs
def oval (a : Order) : Int := bif a.outlet then 1 else 0
def olt (a b : Order) : Prop := a.hour < b.hour ∨ a.hour = b.hour ∧ (oval a < oval b ∨ oval a = oval b ∧ a.index < b.index)
theorem compare_neg (x y : Int) : cmp_Compare_int x y = if x < y then -1 else if x > y then 1 else 0 := by
  unfold cmp_Compare_int cmp_isNaN_int
  simp [Bool.cond_eq_ite]
theorem order_lt {a b : Order} (h : routing_by_1 a b < 0) : olt a b := by
  unfold routing_by_1 at h
  unfold olt
  have k0 : ∀ x, ordKey 0 x = x.hour := fun _ => rfl
  have k1 : ∀ x, ordKey 1 x = oval x := fun _ => rfl
  have k2 : ∀ x, ordKey 2 x = x.index := fun _ => rfl
  simp only [runI, ordStep, Nat.zero_add, Nat.reduceAdd, k0, k1, k2, compare_neg] at h
  generalize oval a = p at h ⊢
  generalize oval b = q at h ⊢
  rcases Int.lt_trichotomy a.hour b.hour with e | e | e
  · exact .inl e
  · refine .inr ⟨e, ?_⟩
    rcases Int.lt_trichotomy p q with e1 | e1 | e1
    · exact .inl e1
    · refine .inr ⟨e1, ?_⟩
      rcases Int.lt_trichotomy a.index b.index with e2 | e2 | e2
      · exact e2
      · simp [e, e1, e2] at h
      · have h1 : ¬ a.index < b.index := by omega
        simp [e, e1, e2, h1] at h
    · have h1 : ¬ p < q := by omega
      simp [e, e1, h1] at h
  · have h1 : ¬ a.hour < b.hour := by omega
    simp [e, h1] at h
theorem olt_trans {a b c : Order} (h1 : olt a b) (h2 : olt b c) : olt a c := by
  unfold olt at *; omega
theorem Orders1.lt {d : District} {l : List Order} (h : Orders1 d l) : ∀ (k j : Nat), j < k → k < l.length → olt (l.getD j default) (l.getD k default)
  | k + 1, j, h1, h2 => by
    have h3 := order_lt (h.asc k (by omega))
    by_cases e : j = k
    · subst e; exact h3
    · exact olt_trans (h.lt k j (by omega) (by omega)) h3
end Go.Sx
end
section
namespace Go.Sx
open Go.Proofs
set_option maxRecDepth 100000
set_option linter.unusedSimpArgs false
end Go.Sx
end
section
namespace Go.Sx
open Go.Proofs
theorem runI_none {step : Nat → Unit → Unit ⊕ Unit} : ∀ {n i : Nat}, (∀ j, i ≤ j → j < i + n → step j () = .inr ()) → runI step n i () = .inr ()
  | 0, _, _ => rfl
  | n + 1, i, h => by
    simp only [runI]
    rw [h i (by omega) (by omega)]
    exact runI_none fun j h1 h2 => h j (by omega) (by omega)
end Go.Sx
end
section
namespace Go.Sx
open Go.Proofs
theorem unit_iff {step : Nat → Unit → Unit ⊕ Unit} {n : Nat} : runI step n 0 () = .inr () ↔ ∀ j, j < n → step j () = .inr () :=
  ⟨fun h j hj => runI_unit h j (by omega) (by omega), fun h => runI_none fun j _ h2 => h j (by omega)⟩
theorem rising_mk3 {a b c : Int} (h1 : a ≤ b) (h2 : b ≤ c) : expand_rising [a, b, c] = true := by
  have e : runI (expand_rising_l0 [a, b, c]) 2 0 () = .inr () := unit_iff.2 fun j hj => by
    rcases (by omega : j = 0 ∨ j = 1) with rfl | rfl
    · simp [expand_rising_l0, IntKind.wrap, IntKind.bits, IntKind.signed, Bool.cond_eq_ite]; omega
    · simp [expand_rising_l0, IntKind.wrap, IntKind.bits, IntKind.signed, Bool.cond_eq_ite]; omega
  unfold expand_rising
  simp only [List.length_cons, List.length_nil, Nat.zero_add, Nat.reduceAdd, Nat.reduceSub, e]
theorem rising_mk4 {a b c d : Int} (h1 : a ≤ b) (h2 : b ≤ c) (h3 : c ≤ d) : expand_rising [a, b, c, d] = true := by
  have e : runI (expand_rising_l0 [a, b, c, d]) 3 0 () = .inr () := unit_iff.2 fun j hj => by
    rcases (by omega : j = 0 ∨ j = 1 ∨ j = 2) with rfl | rfl | rfl
    · simp [expand_rising_l0, IntKind.wrap, IntKind.bits, IntKind.signed, Bool.cond_eq_ite]; omega
    · simp [expand_rising_l0, IntKind.wrap, IntKind.bits, IntKind.signed, Bool.cond_eq_ite]; omega
    · simp [expand_rising_l0, IntKind.wrap, IntKind.bits, IntKind.signed, Bool.cond_eq_ite]; omega
  unfold expand_rising
  simp only [List.length_cons, List.length_nil, Nat.zero_add, Nat.reduceAdd, Nat.reduceSub, e]
structure Wider (d x : District) : Prop where
  hours : x.hours = d.hours
  farms : x.farms = d.farms
  crops : x.crops = d.crops
  rights : x.rights = d.rights
  duties : x.duties = d.duties
  len : x.reaches.length = d.reaches.length
  up : ∀ k, (x.reaches.getD k default).up = (d.reaches.getD k default).up
  delay : ∀ k, (x.reaches.getD k default).delay = (d.reaches.getD k default).delay
  siphon : ∀ k, (x.reaches.getD k default).siphon = (d.reaches.getD k default).siphon
  evap : ∀ k, (x.reaches.getD k default).evap = (d.reaches.getD k default).evap
  seep : ∀ k, (x.reaches.getD k default).seep = (d.reaches.getD k default).seep
  cap0 : ∀ k, (d.reaches.getD k default).cap ≤ (x.reaches.getD k default).cap
  cap1 : ∀ k, k < d.reaches.length → (x.reaches.getD k default).cap ≤ 1073741824
  bank0 : ∀ k, (d.reaches.getD k default).bank ≤ (x.reaches.getD k default).bank
  bank1 : ∀ k, k < d.reaches.length → (x.reaches.getD k default).bank ≤ 1099511627776
  start : d.tank.start ≤ x.tank.start
  start2 : x.tank.start ≤ x.tank.cap
  tcap : x.tank.cap ≤ 1099511627776
end Go.Sx
end
section
namespace Go.Sx
open Go.Proofs
theorem runI_unitG {ρ : Type} {n i : Nat} {step : Nat → Unit → ρ ⊕ Unit} {s : Unit} (h : runI step n i s = .inr s) : ∀ j, i ≤ j → j < i + n → step j () = .inr () := by
  induction n generalizing i with
  | zero => intro j h1 h2; omega
  | succ n ih =>
    simp only [runI] at h
    cases hs : step i s with
    | inl r => rw [hs] at h; cases h
    | inr s' =>
      rw [hs] at h
      intro j h1 h2
      by_cases e : j = i
      · subst e; cases s; exact hs
      · exact ih h j (by omega) (by omega)
theorem claims_split (d : District) (c : List Claim) : claims_Check d c = 0 ↔ expand_Check d = 0 ∧ c.length ≤ 4096 ∧ ∀ k, k < c.length → claims_Check_l0 d c k () = .inr () := by
  unfold claims_Check
  cases h1 : (expand_Check d != 0) with
  | true => simp at h1; simp [h1]
  | false =>
    simp at h1
    simp only [cond_false, h1, true_and]
    cases h2 : decide ((c.length : Int) > 4096) with
    | true => simp at h2; simp; omega
    | false =>
      simp at h2
      rw [← unit_iff]
      cases h3 : runI (claims_Check_l0 d c) c.length 0 () with
      | inl y => simp
      | inr y => simp; omega
def claimedM (c : List Claim) : List (CertifyPlace × Int) := match runI (certify_table_unmet_1_l0 c) c.length 0 [] with | .inl x => x.elim | .inr m => m
theorem unmet_runM (c : List Claim) (t : CertifyTable) (s : List Fault) : certify_table_unmet_1 c t s = s ++ (List.range' 0 t.d.hours.toNat).flatMap fun h => (List.range' 0 t.d.farms.length).flatMap (uF t (claimedM c) h) := by
  unfold certify_table_unmet_1 claimedM
  cases hs : runI (certify_table_unmet_1_l0 c) c.length 0 [] with
  | inl x => exact x.elim
  | inr m =>
    dsimp only
    rw [runI_app (unmet1_step t m)]
structure Quiet (t : CertifyTable) (c : List Claim) : Prop where
  gate : ∀ k, k < t.l.length → gF t 1 k = []
  siph : ∀ k, k < t.l.length → gF t 2 k = []
  bank : ∀ z ∈ certify_cells t, bF t z = []
  tank : ∀ j, j < t.d.hours.toNat → ¬ ((t.sums.getD 0 (default : List Int)).getD (IntKind.i64.wrap ((j : Int) + 1)).toNat 0 > t.d.tank.start)
  water : ∀ z ∈ certify_cells t, wF t z = []
  unmet : ∀ h, h < t.d.hours.toNat → ∀ f, f < t.d.farms.length → uF t (claimedM c) h f = []
theorem tank_empty (t : CertifyTable) (s : List Fault) : (certify_table_tank t s = s) ↔ ∀ j, j < t.d.hours.toNat → ¬ ((t.sums.getD 0 (default : List Int)).getD (IntKind.i64.wrap ((j : Int) + 1)).toNat 0 > t.d.tank.start) := by
  unfold certify_table_tank
  cases hs : runI (certify_table_tank_l0 t s) t.d.hours.toNat 0 () with
  | inl y =>
    obtain ⟨j, _, hj, hy⟩ := runI_inl hs
    simp only [certify_table_tank_l0, Bool.cond_eq_ite, decide_eq_true_eq] at hy
    split at hy
    · rename_i hd
      refine ⟨fun e => ?_, fun h => absurd hd (h j (by rw [Nat.zero_add] at hj; exact hj))⟩
      cases hy
      unfold certify_Faults_1 at e
      have := congrArg List.length e
      simp at this
    · cases hy
  | inr y =>
    refine ⟨fun _ j hj => ?_, fun _ => rfl⟩
    have hs2 : runI (certify_table_tank_l0 t s) t.d.hours.toNat 0 () = .inr () := hs
    have := runI_unitG hs2 j (by omega) (by omega)
    simp only [certify_table_tank_l0, Bool.cond_eq_ite, decide_eq_true_eq] at this
    split at this
    · cases this
    · assumption
theorem faults_quiet {d : District} {c : List Claim} {l : List Order} (h : ((certify_Faults d c l).2 != 0) = false) : (certify_Faults d c l).1 = [] ↔ Quiet (certify_read d l).1 c := by
  obtain ⟨_, _, e⟩ := faults_eq h
  rw [e]
  generalize (certify_read d l).1 = t
  obtain ⟨T, hT, hT'⟩ := tank_run t (certify_table_banks t (certify_table_gates_1 t 2 (certify_table_gates_1 t 1 [])))
  have hq := tank_empty t (certify_table_banks t (certify_table_gates_1 t 2 (certify_table_gates_1 t 1 [])))
  rw [unmet_runM, water_run]
  rw [hT] at hq ⊢
  rw [banks_run, gates_run, gates_run, List.nil_append] at *
  rw [List.append_right_eq_self] at hq
  simp only [List.append_eq_nil_iff, hq, List.flatMap_eq_nil_iff, List.mem_range'_1]
  constructor
  · rintro ⟨⟨⟨⟨⟨g1, g2⟩, g3⟩, g4⟩, g5⟩, g6⟩
    exact ⟨fun k hk => g1 k (by omega), fun k hk => g2 k (by omega), g3, g4, g5, fun a ha b hb => g6 a (by omega) b (by omega)⟩
  · intro q
    exact ⟨⟨⟨⟨⟨fun k hk => q.gate k (by omega), fun k hk => q.siph k (by omega)⟩, q.bank⟩, q.tank⟩, q.water⟩, fun a ha b hb => q.unmet a (by omega) b (by omega)⟩
theorem accepts_iff (d : District) (c : List Claim) (l : List Order) : certify_Accepts d c l = (true, 0) ↔ claims_Check d c = 0 ∧ (certify_read d l).2 = 0 ∧ Quiet (certify_read d l).1 c := by
  unfold certify_Accepts
  have hf : (certify_Faults d c l).2 = 0 ↔ claims_Check d c = 0 ∧ (certify_read d l).2 = 0 := by
    unfold certify_Faults
    cases h1 : (claims_Check d c != 0) with
    | true => simp at h1; simp [h1]
    | false =>
      simp at h1
      simp only [cond_false, h1, true_and]
      cases h2 : ((certify_read d l).2 != 0) with
      | true => simp at h2; simp [h2]
      | false =>
        simp at h2
        simp only [cond_false, h2, iff_true]
        split
        · rename_i y _; exact y.elim
        · rfl
  by_cases h : (certify_Faults d c l).2 = 0
  · rw [← faults_quiet (by simp [h])]
    have := hf.1 h
    simp [h, this.1, this.2]
  · simp only [h, Prod.mk.injEq, and_false, false_iff]
    intro ⟨h1, h2, _⟩
    exact h (hf.2 ⟨h1, h2⟩)
theorem gF1_nil {t : CertifyTable} {k : Nat} : gF t 1 k = [] ↔ ((t.l.getD k default).outlet = true ∨ (t.l.getD k default).litres ≤ (t.d.reaches.getD (t.l.getD k default).index.toNat default).cap) := by
  unfold gF
  generalize t.l.getD k default = a
  generalize t.d.reaches.getD a.index.toNat default = b
  cases a.outlet <;> cases hd : decide (a.litres > b.cap) <;> simp at hd ⊢ <;> omega
end Go.Sx
end
section
namespace Go.Sx
open Go.RowKit
section
variable {P : Program}
end
end Go.Sx
end
section
namespace Go.Sx
open Go.Proofs
set_option maxRecDepth 100000
set_option linter.unusedSimpArgs false
def ref12_divisor_l0 (b : Int) : Nat → (Int × Int) → Int ⊕ (Int × Int) := fun k_0 s_0 => (bif (decide (s_0.2 > 0)) then .inr (s_0.2, (Int.tmod s_0.1 s_0.2)) else .inl s_0.1)
def ref12_divisor (a : Int) (b : Int) : Int := (match runI (ref12_divisor_l0 b) (Int.toNat b + 1) 0 (a, b) with | .inl x_0_0 => x_0_0 | .inr s_0 => default)
def ref12_size (n : Int) : Int := (bif (decide (n < 0)) then (IntKind.i64.wrap (0 - n)) else n)
def ref12_Valid (a : Ratio) : Bool := (((((decide (a.d ≥ 1)) && (decide (a.d ≤ 1073741824))) && (decide (a.n ≥ (-1073741824)))) && (decide (a.n ≤ 1073741824))) && ((ref12_divisor (ref12_size a.n) a.d) == 1))
def ref12_Check (a : Ratio) : Int := (bif (!(ref12_Valid a)) then 120 else 0)
def ref12_Less (a : Ratio) (b : Ratio) : Bool := (decide ((IntKind.i64.wrap (a.n * b.d)) < (IntKind.i64.wrap (b.n * a.d))))
def ref12_Both (a : Ratio) (b : Ratio) : Bool := ((ref12_Valid a) && (ref12_Valid b))
def ref12_Cmp (a : Ratio) (b : Ratio) : Int × Int := (bif (!(ref12_Both a b)) then (0, 120) else (bif (ref12_Less a b) then ((-1), 0) else (bif (ref12_Less b a) then (1, 0) else (0, 0))))
def ref19_shares (x : Ratio × Ratio) : Bool := (bif (((ref12_Check x.1) != 0) || ((ref12_Check x.2) != 0)) then false else (((decide (x.1.n ≥ 0)) && (decide ((ref12_Cmp x.1 x.2).1 ≤ 0))) && (decide (x.2.n ≤ x.2.d))))
end Go.Sx
end
