/- Part of the proof that the law CertifyArriveSpec returns true and leaves its arguments as they were, for all arguments of bulk at most 1048576 (the Upto form). -/
import Derived.Test.YtnhhdmkikgdfkaaH09
import Derived.Test.YtnhhdmkikgdfkaaH10
import Derived.Test.YtnhhdmkikgdfkaaH07
set_option linter.all false
section
namespace Go.Sx
open Go.Proofs
set_option maxRecDepth 100000
set_option linter.unusedSimpArgs false
theorem crSxR8_0 {p : Prop} (h : p := by (first | done | (repeat' (first | with_reducible refine And.intro ?_ ?_ | ((with_reducible show _ ≠ _); first | assumption | omega | (simp_all [outR, outL]; done) | grind) | with_reducible intro _)) <;> (first | done | exact Empty.elim ‹Empty› | assumption | rfl | omega | decide | (refine fitE_mk [0, 1, 2, 4] ?_ ?_ <;> (first | (show _ ≤ _; decide) | (simp only [*, go_sem, Nat.reduceBEq, Nat.reduceLeDiff, Nat.reduceAdd, Nat.reduceSub, Nat.reduceMul, Int.reduceLE, Int.reduceLT, Int.reduceToNat, Int.reduceNeg, reduceCtorEq]; done) | (simp only [*, go_sem, Nat.reduceBEq, Nat.reduceLeDiff, Nat.reduceAdd, Nat.reduceSub, Nat.reduceMul, Int.reduceLE, Int.reduceLT, Int.reduceToNat, Int.reduceNeg, reduceCtorEq]; (repeat' (first | with_reducible refine And.intro ?_ ?_ | ((with_reducible show _ ≠ _); first | assumption | omega | (simp_all [outR, outL]; done) | grind) | with_reducible intro _)) <;> (first | rfl | decide | assumption | omega | (simp_all [outR, outL]; done))))) | (refine fitE_mk [0, 1, 2, 3] ?_ ?_ <;> (first | (show _ ≤ _; decide) | (simp only [*, go_sem, Nat.reduceBEq, Nat.reduceLeDiff, Nat.reduceAdd, Nat.reduceSub, Nat.reduceMul, Int.reduceLE, Int.reduceLT, Int.reduceToNat, Int.reduceNeg, reduceCtorEq]; done) | (simp only [*, go_sem, Nat.reduceBEq, Nat.reduceLeDiff, Nat.reduceAdd, Nat.reduceSub, Nat.reduceMul, Int.reduceLE, Int.reduceLT, Int.reduceToNat, Int.reduceNeg, reduceCtorEq]; (repeat' (first | with_reducible refine And.intro ?_ ?_ | ((with_reducible show _ ≠ _); first | assumption | omega | (simp_all [outR, outL]; done) | grind) | with_reducible intro _)) <;> (first | rfl | decide | assumption | omega | (simp_all [outR, outL]; done))))) | (simp only [*, cond_true, cond_false, Bool.not_true, Bool.not_false, go_sem, Nat.reduceBEq, Nat.reduceLeDiff, Nat.reduceAdd, Nat.reduceSub, Nat.reduceMul, Int.reduceLE, Int.reduceLT, Int.reduceToNat, Int.reduceNeg, reduceCtorEq]; done) | (simp only [*, cond_true, cond_false, Bool.not_true, Bool.not_false, go_sem, Nat.reduceBEq, Nat.reduceLeDiff, Nat.reduceAdd, Nat.reduceSub, Nat.reduceMul, Int.reduceLE, Int.reduceLT, Int.reduceToNat, Int.reduceNeg, reduceCtorEq]; (repeat' (first | with_reducible refine And.intro ?_ ?_ | ((with_reducible show _ ≠ _); first | assumption | omega | (simp_all [outR, outL]; done) | grind) | with_reducible intro _)) <;> (first | done | assumption | rfl | omega | decide | (refine fitE_mk [0, 1, 2, 4] ?_ ?_ <;> (first | (show _ ≤ _; decide) | (simp only [*, go_sem, Nat.reduceBEq, Nat.reduceLeDiff, Nat.reduceAdd, Nat.reduceSub, Nat.reduceMul, Int.reduceLE, Int.reduceLT, Int.reduceToNat, Int.reduceNeg, reduceCtorEq]; done) | (simp only [*, go_sem, Nat.reduceBEq, Nat.reduceLeDiff, Nat.reduceAdd, Nat.reduceSub, Nat.reduceMul, Int.reduceLE, Int.reduceLT, Int.reduceToNat, Int.reduceNeg, reduceCtorEq]; (repeat' (first | with_reducible refine And.intro ?_ ?_ | ((with_reducible show _ ≠ _); first | assumption | omega | (simp_all [outR, outL]; done) | grind) | with_reducible intro _)) <;> (first | rfl | decide | assumption | omega | (simp_all [outR, outL]; done))))) | (refine fitE_mk [0, 1, 2, 3] ?_ ?_ <;> (first | (show _ ≤ _; decide) | (simp only [*, go_sem, Nat.reduceBEq, Nat.reduceLeDiff, Nat.reduceAdd, Nat.reduceSub, Nat.reduceMul, Int.reduceLE, Int.reduceLT, Int.reduceToNat, Int.reduceNeg, reduceCtorEq]; done) | (simp only [*, go_sem, Nat.reduceBEq, Nat.reduceLeDiff, Nat.reduceAdd, Nat.reduceSub, Nat.reduceMul, Int.reduceLE, Int.reduceLT, Int.reduceToNat, Int.reduceNeg, reduceCtorEq]; (repeat' (first | with_reducible refine And.intro ?_ ?_ | ((with_reducible show _ ≠ _); first | assumption | omega | (simp_all [outR, outL]; done) | grind) | with_reducible intro _)) <;> (first | rfl | decide | assumption | omega | (simp_all [outR, outL]; done))))) | (simp_all [outR, outL]; done))) | (simp_all [okI, outR, outL]; done) | (simp_all [outR, outL]; (first | done | (refine fitE_mk [0, 1, 2, 4] ?_ ?_ <;> (first | (show _ ≤ _; decide) | (simp only [go_sem, Nat.reduceBEq, Nat.reduceLeDiff, Nat.reduceAdd, Nat.reduceSub, Nat.reduceMul, Int.reduceLE, Int.reduceLT, Int.reduceToNat, Int.reduceNeg, reduceCtorEq]; (repeat' (first | with_reducible refine And.intro ?_ ?_ | ((with_reducible show _ ≠ _); first | assumption | omega | (simp_all [outR, outL]; done) | grind) | with_reducible intro _)) <;> (first | rfl | decide | assumption | omega | (simp_all [outR, outL]; done))))) | (refine fitE_mk [0, 1, 2, 3] ?_ ?_ <;> (first | (show _ ≤ _; decide) | (simp only [go_sem, Nat.reduceBEq, Nat.reduceLeDiff, Nat.reduceAdd, Nat.reduceSub, Nat.reduceMul, Int.reduceLE, Int.reduceLT, Int.reduceToNat, Int.reduceNeg, reduceCtorEq]; (repeat' (first | with_reducible refine And.intro ?_ ?_ | ((with_reducible show _ ≠ _); first | assumption | omega | (simp_all [outR, outL]; done) | grind) | with_reducible intro _)) <;> (first | rfl | decide | assumption | omega | (simp_all [outR, outL]; done))))))) | (refine fitE_mk [0, 1, 2, 4] ?_ ?_ <;> (first | (show _ ≤ _; decide) | (simp only [go_sem, Nat.reduceBEq, Nat.reduceLeDiff, Nat.reduceAdd, Nat.reduceSub, Nat.reduceMul, Int.reduceLE, Int.reduceLT, Int.reduceToNat, Int.reduceNeg, reduceCtorEq]; (repeat' (first | with_reducible refine And.intro ?_ ?_ | ((with_reducible show _ ≠ _); first | assumption | omega | (simp_all [outR, outL]; done) | grind) | with_reducible intro _)) <;> (first | rfl | decide | assumption | omega | (simp_all [outR, outL]; done))))) | (refine fitE_mk [0, 1, 2, 3] ?_ ?_ <;> (first | (show _ ≤ _; decide) | (simp only [go_sem, Nat.reduceBEq, Nat.reduceLeDiff, Nat.reduceAdd, Nat.reduceSub, Nat.reduceMul, Int.reduceLE, Int.reduceLT, Int.reduceToNat, Int.reduceNeg, reduceCtorEq]; (repeat' (first | with_reducible refine And.intro ?_ ?_ | ((with_reducible show _ ≠ _); first | assumption | omega | (simp_all [outR, outL]; done) | grind) | with_reducible intro _)) <;> (first | rfl | decide | assumption | omega | (simp_all [outR, outL]; done)))))))) : p := h
def certify_Faults_l0 (d : District) (c : List Claim) (l_ : List Order) : Nat → (List Fault) → Empty ⊕ (List Fault) := fun k_0 s_0 => (bif (Nat.beq k_0 0) then .inr (certify_table_gates_1 ((certify_read d l_).1) 1 s_0) else (bif (Nat.beq k_0 1) then .inr (certify_table_gates_1 ((certify_read d l_).1) 2 s_0) else (bif (Nat.beq k_0 2) then .inr (certify_table_banks ((certify_read d l_).1) s_0) else (bif (Nat.beq k_0 3) then .inr (certify_table_tank ((certify_read d l_).1) s_0) else (bif (Nat.beq k_0 4) then .inr (certify_table_water ((certify_read d l_).1) s_0) else .inr (certify_table_unmet_1 c ((certify_read d l_).1) s_0))))))
def certify_Faults_l0_p (d : District) (c : List Claim) (l_ : List Order) : Nat → (List Fault) → Prop := fun k_0 s_0 => (((Nat.beq k_0 0) = true → (certify_table_gates_1_p ((certify_read d l_).1) 1 s_0)) ∧ ((Nat.beq k_0 0) = false → (((Nat.beq k_0 1) = true → (certify_table_gates_1_p ((certify_read d l_).1) 2 s_0)) ∧ ((Nat.beq k_0 1) = false → (((Nat.beq k_0 2) = true → (certify_table_banks_p ((certify_read d l_).1) s_0)) ∧ ((Nat.beq k_0 2) = false → (((Nat.beq k_0 3) = true → (certify_table_tank_p ((certify_read d l_).1) s_0)) ∧ ((Nat.beq k_0 3) = false → (((Nat.beq k_0 4) = true → (certify_table_water_p ((certify_read d l_).1) s_0)) ∧ ((Nat.beq k_0 4) = false → (certify_table_unmet_1_p c ((certify_read d l_).1) s_0)))))))))))
def certify_Faults (d : District) (c : List Claim) (l_ : List Order) : List Fault × Int := (bif ((claims_Check d c) != 0) then ([], (claims_Check d c)) else (bif ((certify_read d l_).2 != 0) then ([], (certify_read d l_).2) else (match runI (certify_Faults_l0 d c l_) 6 0 ([]) with | .inl x => x.elim | .inr s_0 => (s_0, 0))))
def certify_Faults_p (d : District) (c : List Claim) (l_ : List Order) : Prop := ((claims_Check_p d c) ∧ (((claims_Check d c) != 0) = false → ((certify_read_p d l_) ∧ (((certify_read d l_).2 != 0) = false → okI (certify_Faults_l0 d c l_) (certify_Faults_l0_p d c l_) 6 0 ([])))))
def C_certify_Faults : List SV → Option Con := (pD .district fun d => (pR .claim fun c => (pR .order fun l_ => pE (.det (certify_Faults_p d c l_) (.tup [.nw .fault ((certify_Faults d c l_).1), .v (.int .i64 ((certify_Faults d c l_).2))])))))
set_option maxHeartbeats 4000000 in
theorem ok_certify_Faults : FnOk Try.prog 12 C_certify_Faults := by
  have hG : ConsOk Try.prog (mkG [(21, fun l => C_certify_read (nrmA [.st .district, .sl .order] l)), (26, fun l => C_claims_Check (nrmA [.st .district, .sl .claim] l)), (28, fun l => C_certify_table_gates (nrmA [.st .certifyTable, .o] l)), (32, fun l => C_certify_table_unmet (nrmA [.st .certifyTable, .sl .claim] l))] [(29, C_certify_table_banks), (30, C_certify_table_tank), (31, C_certify_table_water), (48, C_certify_table_gates_1), (50, C_certify_table_unmet_1)]) := mkG_ok (by
    intro x hx
    simp only [List.mem_cons, List.not_mem_nil, or_false] at hx
    rcases hx with rfl | rfl | rfl | rfl
    · exact ok_certify_read.norm [.st .district, .sl .order]
    · exact ok_claims_Check.norm [.st .district, .sl .claim]
    · exact ok_certify_table_gates.norm [.st .certifyTable, .o]
    · exact ok_certify_table_unmet.norm [.st .certifyTable, .sl .claim]) (by
    intro x hx
    simp only [List.mem_cons, List.not_mem_nil, or_false] at hx
    rcases hx with rfl | rfl | rfl | rfl | rfl
    · exact ok_certify_table_banks
    · exact ok_certify_table_tank
    · exact ok_certify_table_water
    · exact ok_certify_table_gates_1
    · exact ok_certify_table_unmet_1)
  refine fn_okW [(.cell 6 53, .fault)] mixed ts_ok hG (fn := Try.f12) (c := bodyOf Try.f12) (by kernel_rfl) (by kernel_rfl) (by kernel_rfl) (by kernel_rfl) fun l con h hp => ?_
  unfold C_certify_Faults at h
  obtain ⟨d, l0, rfl, h0⟩ := pD_inv h
  obtain ⟨c, l1, rfl, h1⟩ := pR_inv h0
  obtain ⟨l_, l2, rfl, h2⟩ := pR_inv h1
  obtain ⟨rfl, rfl⟩ := pE_inv h2
  clear h h0 h1 h2
  dsimp only [conPre] at hp
  unfold certify_Faults_p at hp
  refine ⟨Nat.le_of_ble_eq_true rfl, (fun id st => bif Nat.beq id 0 then some (LC (ρ := Empty) (σ := List Fault) (lk 6 st.t = .ptr 1 0 ∧ lk 9 st.t = .fn 27 [] [.ptr 1 0] ∧ lk 41 st.t = .ls [.fn 48 [] [.ep [.v (.string (((certify_read d l_).1).d.name)), .v (.int .i64 (((certify_read d l_).1).d.hours)), .v (.int .i64 (((certify_read d l_).1).d.tank.cap)), .v (.int .i64 (((certify_read d l_).1).d.tank.start)), .rs .reach (((certify_read d l_).1).d.reaches), .rs .farm (((certify_read d l_).1).d.farms), .rs .crop (((certify_read d l_).1).d.crops), .rs .right (((certify_read d l_).1).d.rights), .rs .duty (((certify_read d l_).1).d.duties), .rs .well (((certify_read d l_).1).d.wells), .rs .order (((certify_read d l_).1).l), .rm .certifyPlace .int (((certify_read d l_).1).litres), .rs .ints (((certify_read d l_).1).sums), .rs .ints (((certify_read d l_).1).drawn)] 0, .ep [.v (.int .i64 1)] 0], .fn 48 [] [.ep [.v (.string (((certify_read d l_).1).d.name)), .v (.int .i64 (((certify_read d l_).1).d.hours)), .v (.int .i64 (((certify_read d l_).1).d.tank.cap)), .v (.int .i64 (((certify_read d l_).1).d.tank.start)), .rs .reach (((certify_read d l_).1).d.reaches), .rs .farm (((certify_read d l_).1).d.farms), .rs .crop (((certify_read d l_).1).d.crops), .rs .right (((certify_read d l_).1).d.rights), .rs .duty (((certify_read d l_).1).d.duties), .rs .well (((certify_read d l_).1).d.wells), .rs .order (((certify_read d l_).1).l), .rm .certifyPlace .int (((certify_read d l_).1).litres), .rs .ints (((certify_read d l_).1).sums), .rs .ints (((certify_read d l_).1).drawn)] 0, .ep [.v (.int .i64 2)] 0], .fn 29 [.agg [.v (.string (((certify_read d l_).1).d.name)), .v (.int .i64 (((certify_read d l_).1).d.hours)), .v (.int .i64 (((certify_read d l_).1).d.tank.cap)), .v (.int .i64 (((certify_read d l_).1).d.tank.start)), .rs .reach (((certify_read d l_).1).d.reaches), .rs .farm (((certify_read d l_).1).d.farms), .rs .crop (((certify_read d l_).1).d.crops), .rs .right (((certify_read d l_).1).d.rights), .rs .duty (((certify_read d l_).1).d.duties), .rs .well (((certify_read d l_).1).d.wells), .rs .order (((certify_read d l_).1).l), .rm .certifyPlace .int (((certify_read d l_).1).litres), .rs .ints (((certify_read d l_).1).sums), .rs .ints (((certify_read d l_).1).drawn)]] [], .fn 30 [.agg [.v (.string (((certify_read d l_).1).d.name)), .v (.int .i64 (((certify_read d l_).1).d.hours)), .v (.int .i64 (((certify_read d l_).1).d.tank.cap)), .v (.int .i64 (((certify_read d l_).1).d.tank.start)), .rs .reach (((certify_read d l_).1).d.reaches), .rs .farm (((certify_read d l_).1).d.farms), .rs .crop (((certify_read d l_).1).d.crops), .rs .right (((certify_read d l_).1).d.rights), .rs .duty (((certify_read d l_).1).d.duties), .rs .well (((certify_read d l_).1).d.wells), .rs .order (((certify_read d l_).1).l), .rm .certifyPlace .int (((certify_read d l_).1).litres), .rs .ints (((certify_read d l_).1).sums), .rs .ints (((certify_read d l_).1).drawn)]] [], .fn 31 [.agg [.v (.string (((certify_read d l_).1).d.name)), .v (.int .i64 (((certify_read d l_).1).d.hours)), .v (.int .i64 (((certify_read d l_).1).d.tank.cap)), .v (.int .i64 (((certify_read d l_).1).d.tank.start)), .rs .reach (((certify_read d l_).1).d.reaches), .rs .farm (((certify_read d l_).1).d.farms), .rs .crop (((certify_read d l_).1).d.crops), .rs .right (((certify_read d l_).1).d.rights), .rs .duty (((certify_read d l_).1).d.duties), .rs .well (((certify_read d l_).1).d.wells), .rs .order (((certify_read d l_).1).l), .rm .certifyPlace .int (((certify_read d l_).1).litres), .rs .ints (((certify_read d l_).1).sums), .rs .ints (((certify_read d l_).1).drawn)]] [], .fn 50 [] [.ep [.rs .claim c] 0, .ep [.v (.string (((certify_read d l_).1).d.name)), .v (.int .i64 (((certify_read d l_).1).d.hours)), .v (.int .i64 (((certify_read d l_).1).d.tank.cap)), .v (.int .i64 (((certify_read d l_).1).d.tank.start)), .rs .reach (((certify_read d l_).1).d.reaches), .rs .farm (((certify_read d l_).1).d.farms), .rs .crop (((certify_read d l_).1).d.crops), .rs .right (((certify_read d l_).1).d.rights), .rs .duty (((certify_read d l_).1).d.duties), .rs .well (((certify_read d l_).1).d.wells), .rs .order (((certify_read d l_).1).l), .rm .certifyPlace .int (((certify_read d l_).1).litres), .rs .ints (((certify_read d l_).1).sums), .rs .ints (((certify_read d l_).1).drawn)] 0]] ∧ lk 42 st.t = .v (.int .i64 6) ∧ lk 43 st.t = .v (.int .i64 0) ∧ st.h = [.cells [.v (.string d.name), .v (.int .i64 d.hours), .v (.int .i64 d.tank.cap), .v (.int .i64 d.tank.start), .rs .reach d.reaches, .rs .farm d.farms, .rs .crop d.crops, .rs .right d.rights, .rs .duty d.duties, .rs .well d.wells], .cells [.v (.slice none 0 0)], .cells [.v (.string (((certify_read d l_).1).d.name)), .v (.int .i64 (((certify_read d l_).1).d.hours)), .v (.int .i64 (((certify_read d l_).1).d.tank.cap)), .v (.int .i64 (((certify_read d l_).1).d.tank.start)), .rs .reach (((certify_read d l_).1).d.reaches), .rs .farm (((certify_read d l_).1).d.farms), .rs .crop (((certify_read d l_).1).d.crops), .rs .right (((certify_read d l_).1).d.rights), .rs .duty (((certify_read d l_).1).d.duties), .rs .well (((certify_read d l_).1).d.wells), .rs .order (((certify_read d l_).1).l), .rm .certifyPlace .int (((certify_read d l_).1).litres), .rs .ints (((certify_read d l_).1).sums), .rs .ints (((certify_read d l_).1).drawn)]] ∧ okI (certify_Faults_l0 d c l_) (certify_Faults_l0_p d c l_) 6 0 ([])) (runI (certify_Faults_l0 d c l_) 6 0 ([])) (fun x => x.elim) (fun x => x.elim) (fun s_0 => ⟨[(6, .ptr 1 0)], [.dead, .cells [.os 3], .dead, .row .fault s_0]⟩)) else none), ?_, ?_⟩
  · unfold bodyOf Try.f12
    simp only [loopsOk, true_and, and_true]
    · refine count_okR mixed ts_ok hG (by kernel_rfl) fun st lc hC hp => ?_
      simp only [go_sem, Nat.reduceBEq, Option.some.injEq] at hC
      subst hC
      obtain ⟨t, h⟩ := st
      dsimp only [LC] at hp
      obtain ⟨e0_0, e0_1, e0_2, e0_3, e0_4, rfl, hok0⟩ := hp
      refine ⟨_, _, _, (certify_Faults_l0 d c l_), (certify_Faults_l0_p d c l_), 6, [], _, _, _, (fun k_0 s_0 => ⟨[(6, .ptr 1 0), (9, .fn 27 [] [.ptr 1 0]), (41, .ls [.fn 48 [] [.ep [.v (.string (((certify_read d l_).1).d.name)), .v (.int .i64 (((certify_read d l_).1).d.hours)), .v (.int .i64 (((certify_read d l_).1).d.tank.cap)), .v (.int .i64 (((certify_read d l_).1).d.tank.start)), .rs .reach (((certify_read d l_).1).d.reaches), .rs .farm (((certify_read d l_).1).d.farms), .rs .crop (((certify_read d l_).1).d.crops), .rs .right (((certify_read d l_).1).d.rights), .rs .duty (((certify_read d l_).1).d.duties), .rs .well (((certify_read d l_).1).d.wells), .rs .order (((certify_read d l_).1).l), .rm .certifyPlace .int (((certify_read d l_).1).litres), .rs .ints (((certify_read d l_).1).sums), .rs .ints (((certify_read d l_).1).drawn)] 0, .ep [.v (.int .i64 1)] 0], .fn 48 [] [.ep [.v (.string (((certify_read d l_).1).d.name)), .v (.int .i64 (((certify_read d l_).1).d.hours)), .v (.int .i64 (((certify_read d l_).1).d.tank.cap)), .v (.int .i64 (((certify_read d l_).1).d.tank.start)), .rs .reach (((certify_read d l_).1).d.reaches), .rs .farm (((certify_read d l_).1).d.farms), .rs .crop (((certify_read d l_).1).d.crops), .rs .right (((certify_read d l_).1).d.rights), .rs .duty (((certify_read d l_).1).d.duties), .rs .well (((certify_read d l_).1).d.wells), .rs .order (((certify_read d l_).1).l), .rm .certifyPlace .int (((certify_read d l_).1).litres), .rs .ints (((certify_read d l_).1).sums), .rs .ints (((certify_read d l_).1).drawn)] 0, .ep [.v (.int .i64 2)] 0], .fn 29 [.agg [.v (.string (((certify_read d l_).1).d.name)), .v (.int .i64 (((certify_read d l_).1).d.hours)), .v (.int .i64 (((certify_read d l_).1).d.tank.cap)), .v (.int .i64 (((certify_read d l_).1).d.tank.start)), .rs .reach (((certify_read d l_).1).d.reaches), .rs .farm (((certify_read d l_).1).d.farms), .rs .crop (((certify_read d l_).1).d.crops), .rs .right (((certify_read d l_).1).d.rights), .rs .duty (((certify_read d l_).1).d.duties), .rs .well (((certify_read d l_).1).d.wells), .rs .order (((certify_read d l_).1).l), .rm .certifyPlace .int (((certify_read d l_).1).litres), .rs .ints (((certify_read d l_).1).sums), .rs .ints (((certify_read d l_).1).drawn)]] [], .fn 30 [.agg [.v (.string (((certify_read d l_).1).d.name)), .v (.int .i64 (((certify_read d l_).1).d.hours)), .v (.int .i64 (((certify_read d l_).1).d.tank.cap)), .v (.int .i64 (((certify_read d l_).1).d.tank.start)), .rs .reach (((certify_read d l_).1).d.reaches), .rs .farm (((certify_read d l_).1).d.farms), .rs .crop (((certify_read d l_).1).d.crops), .rs .right (((certify_read d l_).1).d.rights), .rs .duty (((certify_read d l_).1).d.duties), .rs .well (((certify_read d l_).1).d.wells), .rs .order (((certify_read d l_).1).l), .rm .certifyPlace .int (((certify_read d l_).1).litres), .rs .ints (((certify_read d l_).1).sums), .rs .ints (((certify_read d l_).1).drawn)]] [], .fn 31 [.agg [.v (.string (((certify_read d l_).1).d.name)), .v (.int .i64 (((certify_read d l_).1).d.hours)), .v (.int .i64 (((certify_read d l_).1).d.tank.cap)), .v (.int .i64 (((certify_read d l_).1).d.tank.start)), .rs .reach (((certify_read d l_).1).d.reaches), .rs .farm (((certify_read d l_).1).d.farms), .rs .crop (((certify_read d l_).1).d.crops), .rs .right (((certify_read d l_).1).d.rights), .rs .duty (((certify_read d l_).1).d.duties), .rs .well (((certify_read d l_).1).d.wells), .rs .order (((certify_read d l_).1).l), .rm .certifyPlace .int (((certify_read d l_).1).litres), .rs .ints (((certify_read d l_).1).sums), .rs .ints (((certify_read d l_).1).drawn)]] [], .fn 50 [] [.ep [.rs .claim c] 0, .ep [.v (.string (((certify_read d l_).1).d.name)), .v (.int .i64 (((certify_read d l_).1).d.hours)), .v (.int .i64 (((certify_read d l_).1).d.tank.cap)), .v (.int .i64 (((certify_read d l_).1).d.tank.start)), .rs .reach (((certify_read d l_).1).d.reaches), .rs .farm (((certify_read d l_).1).d.farms), .rs .crop (((certify_read d l_).1).d.crops), .rs .right (((certify_read d l_).1).d.rights), .rs .duty (((certify_read d l_).1).d.duties), .rs .well (((certify_read d l_).1).d.wells), .rs .order (((certify_read d l_).1).l), .rm .certifyPlace .int (((certify_read d l_).1).litres), .rs .ints (((certify_read d l_).1).sums), .rs .ints (((certify_read d l_).1).drawn)] 0]]), (42, .v (.int .i64 6)), (43, .v (.int .i64 (k_0 : Int)))], [.dead, .cells [.os 3], .dead, .row .fault s_0]⟩), ⟨t, [.cells [.v (.string d.name), .v (.int .i64 d.hours), .v (.int .i64 d.tank.cap), .v (.int .i64 d.tank.start), .rs .reach d.reaches, .rs .farm d.farms, .rs .crop d.crops, .rs .right d.rights, .rs .duty d.duties, .rs .well d.wells], .cells [.os 3], .cells [.v (.string (((certify_read d l_).1).d.name)), .v (.int .i64 (((certify_read d l_).1).d.hours)), .v (.int .i64 (((certify_read d l_).1).d.tank.cap)), .v (.int .i64 (((certify_read d l_).1).d.tank.start)), .rs .reach (((certify_read d l_).1).d.reaches), .rs .farm (((certify_read d l_).1).d.farms), .rs .crop (((certify_read d l_).1).d.crops), .rs .right (((certify_read d l_).1).d.rights), .rs .duty (((certify_read d l_).1).d.duties), .rs .well (((certify_read d l_).1).d.wells), .rs .order (((certify_read d l_).1).l), .rm .certifyPlace .int (((certify_read d l_).1).litres), .rs .ints (((certify_read d l_).1).sums), .rs .ints (((certify_read d l_).1).drawn)], .row .fault ([])]⟩, [0, 1, 2, 3], rfl, hok0, NilS.cell (h := [.cells [.v (.string d.name), .v (.int .i64 d.hours), .v (.int .i64 d.tank.cap), .v (.int .i64 d.tank.start), .rs .reach d.reaches, .rs .farm d.farms, .rs .crop d.crops, .rs .right d.rights, .rs .duty d.duties, .rs .well d.wells], .cells [.v (.slice none 0 0)], .cells [.v (.string (((certify_read d l_).1).d.name)), .v (.int .i64 (((certify_read d l_).1).d.hours)), .v (.int .i64 (((certify_read d l_).1).d.tank.cap)), .v (.int .i64 (((certify_read d l_).1).d.tank.start)), .rs .reach (((certify_read d l_).1).d.reaches), .rs .farm (((certify_read d l_).1).d.farms), .rs .crop (((certify_read d l_).1).d.crops), .rs .right (((certify_read d l_).1).d.rights), .rs .duty (((certify_read d l_).1).d.duties), .rs .well (((certify_read d l_).1).d.wells), .rs .order (((certify_read d l_).1).l), .rm .certifyPlace .int (((certify_read d l_).1).litres), .rs .ints (((certify_read d l_).1).sums), .rs .ints (((certify_read d l_).1).drawn)]]) (i := 1) (j := 0) (.row .fault ([])) (NilS.refl _) rfl rfl (.inl ⟨_, rfl⟩), Nat.le_of_ble_eq_true rfl, ?_, fun k_0 s_0 hk0 hp0 => ?_⟩
      · simp only [go_sem, Nat.reduceBEq, Nat.reduceLeDiff, Nat.reduceAdd, Nat.reduceSub, Nat.reduceMul, Int.reduceLE, Int.reduceLT, Int.reduceToNat, Int.reduceNeg, reduceCtorEq, e0_0, e0_1, e0_2, e0_3, e0_4]
        all_goals (first | done | decide | (repeat' (first | refine And.intro ?_ ?_ | rfl | decide)))
      refine ⟨(fun id st => none), ?_, ?_⟩
      · simp only [loopsOk, and_self, true_and, and_true]
      · have hkk : k_0 = 0 ∨ k_0 = 1 ∨ k_0 = 2 ∨ k_0 = 3 ∨ k_0 = 4 ∨ k_0 = 5 ∨ k_0 = 6 := by omega
        have hw0_0 : IntKind.i64.wrap ((0 : Int) + 1) = ((0 + 1 : Nat) : Int) := by decide
        have hw0_1 : IntKind.i64.wrap ((1 : Int) + 1) = ((1 + 1 : Nat) : Int) := by decide
        have hw0_2 : IntKind.i64.wrap ((2 : Int) + 1) = ((2 + 1 : Nat) : Int) := by decide
        have hw0_3 : IntKind.i64.wrap ((3 : Int) + 1) = ((3 + 1 : Nat) : Int) := by decide
        have hw0_4 : IntKind.i64.wrap ((4 : Int) + 1) = ((4 + 1 : Nat) : Int) := by decide
        have hw0_5 : IntKind.i64.wrap ((5 : Int) + 1) = ((5 + 1 : Nat) : Int) := by decide
        rcases hkk with rfl | rfl | rfl | rfl | rfl | rfl | rfl
        all_goals try (have hq0 := hp0 (by decide))
        all_goals try unfold certify_Faults_l0_p at hq0
        all_goals try simp only [go_sem, Nat.reduceBEq, Nat.reduceEqDiff, cond_true, cond_false, true_imp_iff, false_imp_iff, Bool.false_eq_true, true_and, and_true, reduceCtorEq] at hq0
        all_goals simp only [go_sem, Nat.reduceBEq, Nat.reduceLeDiff, Nat.reduceAdd, Nat.reduceSub, Nat.reduceMul, Int.reduceLE, Int.reduceLT, Int.reduceToNat, Int.reduceNeg, reduceCtorEq, C_certify_read, C_claims_Check, C_certify_table_gates, C_certify_table_banks, C_certify_table_tank, C_certify_table_water, C_certify_table_unmet, C_certify_table_gates_1, C_certify_table_unmet_1, certify_Faults_l0, Int.cast_ofNat_Int, Nat.reduceLT, Nat.reduceEqDiff]
        all_goals exact crSxR8_0
  · unfold bodyOf Try.f12
    try unfold certify_Faults
    simp only [go_sem, Nat.reduceBEq, Nat.reduceLeDiff, Nat.reduceAdd, Nat.reduceSub, Nat.reduceMul, Int.reduceLE, Int.reduceLT, Int.reduceToNat, Int.reduceNeg, reduceCtorEq, C_certify_read, C_claims_Check, C_certify_table_gates, C_certify_table_banks, C_certify_table_tank, C_certify_table_water, C_certify_table_unmet, C_certify_table_gates_1, C_certify_table_unmet_1]
    all_goals exact cl
end Go.Sx
end
section
namespace Go.Sx
open Go.Proofs
set_option maxRecDepth 100000
set_option linter.unusedSimpArgs false
def ref19_Few (d : District) : Bool := ((((((decide ((d.reaches.length : Int) ≤ 100)) && (decide ((d.farms.length : Int) ≤ 700))) && (decide ((d.crops.length : Int) ≤ 100))) && (decide ((d.rights.length : Int) ≤ 300))) && (decide ((d.duties.length : Int) ≤ 300))) && (decide ((d.wells.length : Int) ≤ 100)))
def C_ref19_Few : List SV → Option Con := (pD .district fun d => pE (.det True (.v (.bool (ref19_Few d)))))
theorem ok_ref19_Few : FnOk Try.prog 35 C_ref19_Few := by
  have hG : ConsOk Try.prog (mkG [] []) := mkG_ok (by simp) (by simp)
  refine fn_okN [.o] mixed ts_ok hG (fn := Try.f35) (c := bodyOf Try.f35) (by kernel_rfl) (by kernel_rfl) (by kernel_rfl) (by kernel_rfl) fun l con h hp => ?_
  unfold C_ref19_Few at h
  obtain ⟨d, l0, rfl, h0⟩ := pD_inv h
  obtain ⟨rfl, rfl⟩ := pE_inv h0
  clear h h0
  dsimp only [conPre] at hp
  refine ⟨Nat.le_of_ble_eq_true rfl, (fun id st => none), ?_, ?_⟩
  · unfold bodyOf Try.f35
    simp only [loopsOk, and_self, true_and, and_true]
  · unfold bodyOf Try.f35
    try unfold ref19_Few
    simp only [go_sem, Nat.reduceBEq, Nat.reduceLeDiff, Nat.reduceAdd, Nat.reduceSub, Nat.reduceMul, Int.reduceLE, Int.reduceLT, Int.reduceToNat, Int.reduceNeg, reduceCtorEq]
    all_goals exact cl
def ref22_Few (d : District) (l_ : List Order) : Bool := (bif ((!(ref19_Few d)) || ((decide ((l_.length : Int) > 150)) && ((decide ((l_.length : Int) ≤ 4096)) || (decide ((l_.length : Int) > 5000))))) then false else (bif (((decide (d.hours < 1)) || (decide (d.hours > 4096))) || (decide ((d.reaches.length : Int) > 64))) then true else ((decide ((IntKind.i64.wrap ((d.reaches.length : Int) * d.hours)) ≤ 200)) || (decide ((IntKind.i64.wrap ((d.reaches.length : Int) * d.hours)) > 1024)))))
def C_ref22_Few : List SV → Option Con := (pD .district fun d => (pR .order fun l_ => pE (.det True (.v (.bool (ref22_Few d l_))))))
theorem ok_ref22_Few : FnOk Try.prog 18 C_ref22_Few := by
  have hG : ConsOk Try.prog (mkG [(35, fun l => C_ref19_Few (nrmA [.st .district] l))] []) := mkG_ok (by
    intro x hx
    simp only [List.mem_cons, List.not_mem_nil, or_false] at hx
    rcases hx with rfl
    · exact ok_ref19_Few.norm [.st .district]) (by simp)
  refine fn_okN [.o] mixed ts_ok hG (fn := Try.f18) (c := bodyOf Try.f18) (by kernel_rfl) (by kernel_rfl) (by kernel_rfl) (by kernel_rfl) fun l con h hp => ?_
  unfold C_ref22_Few at h
  obtain ⟨d, l0, rfl, h0⟩ := pD_inv h
  obtain ⟨l_, l1, rfl, h1⟩ := pR_inv h0
  obtain ⟨rfl, rfl⟩ := pE_inv h1
  clear h h0 h1
  dsimp only [conPre] at hp
  refine ⟨Nat.le_of_ble_eq_true rfl, (fun id st => none), ?_, ?_⟩
  · unfold bodyOf Try.f18
    simp only [loopsOk, and_self, true_and, and_true]
  · unfold bodyOf Try.f18
    try unfold ref22_Few
    simp only [go_sem, Nat.reduceBEq, Nat.reduceLeDiff, Nat.reduceAdd, Nat.reduceSub, Nat.reduceMul, Int.reduceLE, Int.reduceLT, Int.reduceToNat, Int.reduceNeg, reduceCtorEq, C_ref19_Few]
    all_goals exact cl
def ref26_FewClaims (d : District) (c : List Claim) : Bool := ((ref19_Few d) && ((decide ((c.length : Int) ≤ 300)) || ((decide ((c.length : Int) > 4096)) && (decide ((c.length : Int) ≤ 5000)))))
def C_ref26_FewClaims : List SV → Option Con := (pD .district fun d => (pR .claim fun c => pE (.det True (.v (.bool (ref26_FewClaims d c))))))
theorem ok_ref26_FewClaims : FnOk Try.prog 19 C_ref26_FewClaims := by
  have hG : ConsOk Try.prog (mkG [(35, fun l => C_ref19_Few (nrmA [.st .district] l))] []) := mkG_ok (by
    intro x hx
    simp only [List.mem_cons, List.not_mem_nil, or_false] at hx
    rcases hx with rfl
    · exact ok_ref19_Few.norm [.st .district]) (by simp)
  refine fn_okN [.o] mixed ts_ok hG (fn := Try.f19) (c := bodyOf Try.f19) (by kernel_rfl) (by kernel_rfl) (by kernel_rfl) (by kernel_rfl) fun l con h hp => ?_
  unfold C_ref26_FewClaims at h
  obtain ⟨d, l0, rfl, h0⟩ := pD_inv h
  obtain ⟨c, l1, rfl, h1⟩ := pR_inv h0
  obtain ⟨rfl, rfl⟩ := pE_inv h1
  clear h h0 h1
  dsimp only [conPre] at hp
  refine ⟨Nat.le_of_ble_eq_true rfl, (fun id st => none), ?_, ?_⟩
  · unfold bodyOf Try.f19
    simp only [loopsOk, and_self, true_and, and_true]
  · unfold bodyOf Try.f19
    try unfold ref26_FewClaims
    simp only [go_sem, Nat.reduceBEq, Nat.reduceLeDiff, Nat.reduceAdd, Nat.reduceSub, Nat.reduceMul, Int.reduceLE, Int.reduceLT, Int.reduceToNat, Int.reduceNeg, reduceCtorEq, C_ref19_Few]
    all_goals exact cl
def ref28_Few (d : District) (c : List Claim) (l_ : List Order) : Bool := (((ref22_Few d l_) && (ref26_FewClaims d c)) && ((decide ((d.farms.length : Int) ≤ 20)) || (decide ((d.farms.length : Int) > 600))))
def C_ref28_Few : List SV → Option Con := (pD .district fun d => (pR .claim fun c => (pR .order fun l_ => pE (.det True (.v (.bool (ref28_Few d c l_)))))))
theorem ok_ref28_Few : FnOk Try.prog 8 C_ref28_Few := by
  have hG : ConsOk Try.prog (mkG [(18, fun l => C_ref22_Few (nrmA [.st .district, .sl .order] l)), (19, fun l => C_ref26_FewClaims (nrmA [.st .district, .sl .claim] l))] []) := mkG_ok (by
    intro x hx
    simp only [List.mem_cons, List.not_mem_nil, or_false] at hx
    rcases hx with rfl | rfl
    · exact ok_ref22_Few.norm [.st .district, .sl .order]
    · exact ok_ref26_FewClaims.norm [.st .district, .sl .claim]) (by simp)
  refine fn_okN [.o] mixed ts_ok hG (fn := Try.f8) (c := bodyOf Try.f8) (by kernel_rfl) (by kernel_rfl) (by kernel_rfl) (by kernel_rfl) fun l con h hp => ?_
  unfold C_ref28_Few at h
  obtain ⟨d, l0, rfl, h0⟩ := pD_inv h
  obtain ⟨c, l1, rfl, h1⟩ := pR_inv h0
  obtain ⟨l_, l2, rfl, h2⟩ := pR_inv h1
  obtain ⟨rfl, rfl⟩ := pE_inv h2
  clear h h0 h1 h2
  dsimp only [conPre] at hp
  refine ⟨Nat.le_of_ble_eq_true rfl, (fun id st => none), ?_, ?_⟩
  · unfold bodyOf Try.f8
    simp only [loopsOk, and_self, true_and, and_true]
  · unfold bodyOf Try.f8
    try unfold ref28_Few
    simp only [go_sem, Nat.reduceBEq, Nat.reduceLeDiff, Nat.reduceAdd, Nat.reduceSub, Nat.reduceMul, Int.reduceLE, Int.reduceLT, Int.reduceToNat, Int.reduceNeg, reduceCtorEq, C_ref22_Few, C_ref26_FewClaims]
    all_goals exact cl
def ref28_Same_l0 (a : List Fault) (b : List Fault) : Nat → Unit → Unit ⊕ Unit := fun k_0 s_0 => (bif (!(((a.getD k_0 (default : Fault)).kind == (b.getD k_0 (default : Fault)).kind) && (((a.getD k_0 (default : Fault)).hour == (b.getD k_0 (default : Fault)).hour) && (((a.getD k_0 (default : Fault)).index == (b.getD k_0 (default : Fault)).index) && (((a.getD k_0 (default : Fault)).litres == (b.getD k_0 (default : Fault)).litres) && ((a.getD k_0 (default : Fault)).limit == (b.getD k_0 (default : Fault)).limit)))))) then .inl () else .inr ())
def ref28_Same_l0_p (a : List Fault) (b : List Fault) : Nat → Unit → Prop := fun k_0 s_0 => (a.length ≤ maxL → (0 ≤ (k_0 : Int) ∧ (k_0 : Int) < (b.length : Int)))
def ref28_Same (a : List Fault) (b : List Fault) : Bool := (bif ((a.length : Int) != (b.length : Int)) then false else (match runI (ref28_Same_l0 a b) a.length 0 () with | .inl x_0_0 => false | .inr s_0 => true))
def ref28_Same_p (a : List Fault) (b : List Fault) : Prop := (a.length ≤ maxL → (b.length ≤ maxL → (((a.length : Int) != (b.length : Int)) = false → okI (ref28_Same_l0 a b) (ref28_Same_l0_p a b) a.length 0 ())))
theorem ref28_Same_pt (a b : List Fault) : ref28_Same_p a b := fun ha hb hne => okI_all _ _ _ fun j s h1 h2 => by
  simp at hne
  unfold ref28_Same_l0_p
  intros
  first | omega | (constructor <;> omega)
def C_ref28_Same : List SV → Option Con := (pR .fault fun a => (pR .fault fun b => pE (.det True (.v (.bool (ref28_Same a b))))))
set_option maxHeartbeats 4000000 in
theorem ok_ref28_Same : FnOk Try.prog 17 C_ref28_Same := by
  have hG : ConsOk Try.prog (mkG [] []) := mkG_ok (by simp) (by simp)
  refine fn_okN [.o] mixed ts_ok hG (fn := Try.f17) (c := bodyOf Try.f17) (by kernel_rfl) (by kernel_rfl) (by kernel_rfl) (by kernel_rfl) fun l con h hp => ?_
  unfold C_ref28_Same at h
  obtain ⟨a, l0, rfl, h0⟩ := pR_inv h
  obtain ⟨b, l1, rfl, h1⟩ := pR_inv h0
  obtain ⟨rfl, rfl⟩ := pE_inv h1
  clear h h0 h1
  dsimp only [conPre] at hp
  have hp := ref28_Same_pt a b
  unfold ref28_Same_p at hp
  refine ⟨Nat.le_of_ble_eq_true rfl, (fun id st => bif Nat.beq id 0 then some (LC (ρ := Unit) (σ := Unit) (lk 0 st.t = .rs .fault a ∧ lk 1 st.t = .rs .fault b ∧ lk 5 st.t = .v (.int .i64 0) ∧ st.h = [] ∧ okI (ref28_Same_l0 a b) (ref28_Same_l0_p a b) a.length 0 ()) (runI (ref28_Same_l0 a b) a.length 0 ()) (fun _ => .ret) (fun x_0_0 => ⟨[(4, .v (.bool false))], []⟩) (fun s_0 => ⟨[], []⟩)) else none), ?_, ?_⟩
  · unfold bodyOf Try.f17
    simp only [loopsOk, true_and, and_true]
    · refine count_okP mixed ts_ok hG (by kernel_rfl) fun st lc hC hp => ?_
      simp only [go_sem, Nat.reduceBEq, Option.some.injEq] at hC
      subst hC
      obtain ⟨t, h⟩ := st
      dsimp only [LC] at hp
      obtain ⟨e0_0, e0_1, e0_2, rfl, hok0⟩ := hp
      refine ⟨_, _, _, (ref28_Same_l0 a b), (ref28_Same_l0_p a b), a.length, (), _, _, _, (fun k_0 s_0 => ⟨[(0, .rs .fault a), (1, .rs .fault b), (5, .v (.int .i64 (k_0 : Int)))], []⟩), [], rfl, hok0, Nat.le_refl _, ?_, fun k_0 s_0 hk0 hp0 => ?_⟩
      · simp only [go_sem, Nat.reduceBEq, Nat.reduceLeDiff, Nat.reduceAdd, Nat.reduceSub, Nat.reduceMul, Int.reduceLE, Int.reduceLT, Int.reduceToNat, Int.reduceNeg, reduceCtorEq, e0_0, e0_1, e0_2]
        all_goals (first | done | decide | (repeat' (first | refine And.intro ?_ ?_ | rfl | decide)))
      refine ⟨(fun id st => none), ?_, ?_⟩
      · simp only [loopsOk, and_self, true_and, and_true]
      · by_cases hb0 : a.length ≤ maxL
        rotate_left
        · simp only [go_sem, Nat.reduceBEq, Nat.reduceLeDiff, Nat.reduceAdd, Nat.reduceSub, Nat.reduceMul, Int.reduceLE, Int.reduceLT, Int.reduceToNat, Int.reduceNeg, reduceCtorEq, hb0]
        · by_cases hlt0 : k_0 < a.length
          · have hw0 := wrapS hlt0 hb0
            have hq0 := hp0 hlt0
            unfold ref28_Same_l0_p at hq0
            replace hq0 := hq0 hb0
            try simp only [hw0, Int.toNat_natCast] at hq0
            have hc0 : decide ((k_0 : Int) < (a.length : Int)) = true := by simp only [decide_eq_true_eq]; omega
            simp only [go_sem, Nat.reduceBEq, Nat.reduceLeDiff, Nat.reduceAdd, Nat.reduceSub, Nat.reduceMul, Int.reduceLE, Int.reduceLT, Int.reduceToNat, Int.reduceNeg, reduceCtorEq, ref28_Same_l0, hc0, hw0]
            all_goals exact cl
          · have hc0 : decide ((k_0 : Int) < (a.length : Int)) = false := by simp only [decide_eq_false_iff_not]; omega
            simp only [go_sem, Nat.reduceBEq, Nat.reduceLeDiff, Nat.reduceAdd, Nat.reduceSub, Nat.reduceMul, Int.reduceLE, Int.reduceLT, Int.reduceToNat, Int.reduceNeg, reduceCtorEq, hc0]
            all_goals exact cl2
  · unfold bodyOf Try.f17
    try unfold ref28_Same
    simp only [go_sem, Nat.reduceBEq, Nat.reduceLeDiff, Nat.reduceAdd, Nat.reduceSub, Nat.reduceMul, Int.reduceLE, Int.reduceLT, Int.reduceToNat, Int.reduceNeg, reduceCtorEq]
    all_goals exact cl
def law28_district : District := ({ name := (ByteArray.mk #[]), hours := 9, tank := ({ cap := 50, start := 50 } : Tank), reaches := [({ name := (ByteArray.mk #[]), up := (-1), delay := 1, cap := 20, bank := 30, siphon := 0, evap := ({ lo := 0, hi := 1 } : Range), seep := (({ n := 0, d := 1 } : Ratio), ({ n := 0, d := 1 } : Ratio)) } : Reach), ({ name := (ByteArray.mk #[]), up := 0, delay := 2, cap := 10, bank := 12, siphon := 4, evap := ({ lo := 0, hi := 2 } : Range), seep := (({ n := 0, d := 1 } : Ratio), ({ n := 0, d := 1 } : Ratio)) } : Reach)], farms := [({ name := (ByteArray.mk #[]), reach := 0, area := 0, crop := (-1) } : Farm), ({ name := (ByteArray.mk #[]), reach := 1, area := 0, crop := (-1) } : Farm)], crops := [], rights := [({ name := (ByteArray.mk #[]), kind := 1, farm := 0, reach := 0, rank := 0, litres := 3, since := 0, to := 8, every := 1, length := 1 } : Right), ({ name := (ByteArray.mk #[]), kind := 1, farm := 1, reach := 0, rank := 0, litres := 5, since := 0, to := 8, every := 1, length := 1 } : Right)], duties := [], wells := [] } : District)
def C_law28_district : List SV → Option Con := pE (.det True (.agg [.v (.string ((law28_district).name)), .v (.int .i64 ((law28_district).hours)), .v (.int .i64 ((law28_district).tank.cap)), .v (.int .i64 ((law28_district).tank.start)), .nw .reach ((law28_district).reaches), .nw .farm ((law28_district).farms), .v (.slice none 0 0), .nw .right ((law28_district).rights), .v (.slice none 0 0), .v (.slice none 0 0)]))
theorem ok_law28_district : FnOk Try.prog 14 C_law28_district := by
  have hG : ConsOk Try.prog (mkG [] []) := mkG_ok (by simp) (by simp)
  refine fn_okE true mixed ts_ok hG (fn := Try.f14) (c := bodyOf Try.f14) (by kernel_rfl) (by kernel_rfl) (by kernel_rfl) (by kernel_rfl) fun l con h hp => ?_
  unfold C_law28_district at h
  obtain ⟨rfl, rfl⟩ := pE_inv h
  clear h
  dsimp only [conPre] at hp
  refine ⟨Nat.le_of_ble_eq_true rfl, (fun id st => none), ?_, ?_⟩
  · unfold bodyOf Try.f14
    simp only [loopsOk, and_self, true_and, and_true]
  · unfold bodyOf Try.f14
    try unfold law28_district
    simp only [go_sem, Nat.reduceBEq, Nat.reduceLeDiff, Nat.reduceAdd, Nat.reduceSub, Nat.reduceMul, Int.reduceLE, Int.reduceLT, Int.reduceToNat, Int.reduceNeg, reduceCtorEq]
    all_goals exact cl
def law28_gate (hour : Int) (reach : Int) (n : Int) : Order := ({ hour := hour, index := reach, litres := n, outlet := false } : Order)
def C_law28_gate : List SV → Option Con := (pI fun hour => (pI fun reach => (pI fun n => pE (.det True (.agg (cellsOf .order (law28_gate hour reach n)))))))
theorem ok_law28_gate : FnOk Try.prog 15 C_law28_gate := by
  have hG : ConsOk Try.prog (mkG [] []) := mkG_ok (by simp) (by simp)
  refine fn_okN [.st .order] mixed ts_ok hG (fn := Try.f15) (c := bodyOf Try.f15) (by kernel_rfl) (by kernel_rfl) (by kernel_rfl) (by kernel_rfl) fun l con h hp => ?_
  unfold C_law28_gate at h
  obtain ⟨hour, l0, rfl, h0⟩ := pI_inv h
  obtain ⟨reach, l1, rfl, h1⟩ := pI_inv h0
  obtain ⟨n, l2, rfl, h2⟩ := pI_inv h1
  obtain ⟨rfl, rfl⟩ := pE_inv h2
  clear h h0 h1 h2
  dsimp only [conPre] at hp
  refine ⟨Nat.le_of_ble_eq_true rfl, (fun id st => none), ?_, ?_⟩
  · unfold bodyOf Try.f15
    simp only [loopsOk, and_self, true_and, and_true]
  · unfold bodyOf Try.f15
    try unfold law28_gate
    simp only [go_sem, Nat.reduceBEq, Nat.reduceLeDiff, Nat.reduceAdd, Nat.reduceSub, Nat.reduceMul, Int.reduceLE, Int.reduceLT, Int.reduceToNat, Int.reduceNeg, reduceCtorEq]
    all_goals exact cl
def law28_outlet (hour : Int) (farm : Int) (n : Int) : Order := ({ hour := hour, index := farm, litres := n, outlet := true } : Order)
def C_law28_outlet : List SV → Option Con := (pI fun hour => (pI fun farm => (pI fun n => pE (.det True (.agg (cellsOf .order (law28_outlet hour farm n)))))))
theorem ok_law28_outlet : FnOk Try.prog 16 C_law28_outlet := by
  have hG : ConsOk Try.prog (mkG [] []) := mkG_ok (by simp) (by simp)
  refine fn_okN [.st .order] mixed ts_ok hG (fn := Try.f16) (c := bodyOf Try.f16) (by kernel_rfl) (by kernel_rfl) (by kernel_rfl) (by kernel_rfl) fun l con h hp => ?_
  unfold C_law28_outlet at h
  obtain ⟨hour, l0, rfl, h0⟩ := pI_inv h
  obtain ⟨farm, l1, rfl, h1⟩ := pI_inv h0
  obtain ⟨n, l2, rfl, h2⟩ := pI_inv h1
  obtain ⟨rfl, rfl⟩ := pE_inv h2
  clear h h0 h1 h2
  dsimp only [conPre] at hp
  refine ⟨Nat.le_of_ble_eq_true rfl, (fun id st => none), ?_, ?_⟩
  · unfold bodyOf Try.f16
    simp only [loopsOk, and_self, true_and, and_true]
  · unfold bodyOf Try.f16
    try unfold law28_outlet
    simp only [go_sem, Nat.reduceBEq, Nat.reduceLeDiff, Nat.reduceAdd, Nat.reduceSub, Nat.reduceMul, Int.reduceLE, Int.reduceLT, Int.reduceToNat, Int.reduceNeg, reduceCtorEq]
    all_goals exact cl
end Go.Sx
end
