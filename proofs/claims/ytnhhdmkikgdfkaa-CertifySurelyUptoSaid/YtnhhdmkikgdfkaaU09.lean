/- Part of the proof that the law CertifySurely returns true and leaves its arguments as they were, for all arguments of bulk at most 1048576 (the Upto form). -/
import Derived.Test.YtnhhdmkikgdfkaaU08
import Derived.Test.YtnhhdmkikgdfkaaU07
set_option linter.all false
section
namespace Go.Sx
open Go.Proofs
set_option maxRecDepth 100000
set_option linter.unusedSimpArgs false
theorem crSxR3_0 {p : Prop} (h : p := by (first | done | (repeat' (first | with_reducible refine And.intro ?_ ?_ | ((with_reducible show _ ≠ _); first | assumption | omega | (simp_all [outR, outL]; done) | grind) | with_reducible intro _)) <;> (first | done | exact Empty.elim ‹Empty› | assumption | rfl | omega | decide | exact fk [0, 1, 2, 6, 8] | exact fk [0, 1, 2, 3, 4] | (simp only [*, cond_true, cond_false, Bool.not_true, Bool.not_false, go_sem, Nat.reduceBEq, Nat.reduceLeDiff, Nat.reduceAdd, Nat.reduceSub, Nat.reduceMul, Int.reduceLE, Int.reduceLT, Int.reduceToNat, Int.reduceNeg, reduceCtorEq]; done) | (simp only [*, cond_true, cond_false, Bool.not_true, Bool.not_false, go_sem, Nat.reduceBEq, Nat.reduceLeDiff, Nat.reduceAdd, Nat.reduceSub, Nat.reduceMul, Int.reduceLE, Int.reduceLT, Int.reduceToNat, Int.reduceNeg, reduceCtorEq]; (repeat' (first | with_reducible refine And.intro ?_ ?_ | ((with_reducible show _ ≠ _); first | assumption | omega | (simp_all [outR, outL]; done) | grind) | with_reducible intro _)) <;> (first | done | assumption | rfl | omega | decide | exact fk [0, 1, 2, 6, 8] | exact fk [0, 1, 2, 3, 4] | (simp_all [outR, outL]; done))) | (simp_all [okI, outR, outL]; done) | (simp_all [outR, outL]; (first | done | exact fk2 [0, 1, 2, 6, 8] | exact fk2 [0, 1, 2, 3, 4])) | exact fk2 [0, 1, 2, 6, 8] | exact fk2 [0, 1, 2, 3, 4]))) : p := h
theorem crSxR3_1 {p : Prop} (h : p := by (first | done | (repeat' (first | with_reducible refine And.intro ?_ ?_ | ((with_reducible show _ ≠ _); first | assumption | omega | (simp_all [outR, outL]; done) | grind) | with_reducible intro _)) <;> (first | done | exact Empty.elim ‹Empty› | assumption | rfl | omega | decide | exact fk [0, 1, 2, 3, 4] | (simp only [*, cond_true, cond_false, Bool.not_true, Bool.not_false, go_sem, Nat.reduceBEq, Nat.reduceLeDiff, Nat.reduceAdd, Nat.reduceSub, Nat.reduceMul, Int.reduceLE, Int.reduceLT, Int.reduceToNat, Int.reduceNeg, reduceCtorEq]; done) | (simp only [*, cond_true, cond_false, Bool.not_true, Bool.not_false, go_sem, Nat.reduceBEq, Nat.reduceLeDiff, Nat.reduceAdd, Nat.reduceSub, Nat.reduceMul, Int.reduceLE, Int.reduceLT, Int.reduceToNat, Int.reduceNeg, reduceCtorEq]; (repeat' (first | with_reducible refine And.intro ?_ ?_ | ((with_reducible show _ ≠ _); first | assumption | omega | (simp_all [outR, outL]; done) | grind) | with_reducible intro _)) <;> (first | done | assumption | rfl | omega | decide | exact fk [0, 1, 2, 3, 4] | (simp_all [outR, outL]; done))) | (simp_all [okI, outR, outL]; done) | (simp_all [outR, outL]; (first | done | exact fk2 [0, 1, 2, 3, 4])) | exact fk2 [0, 1, 2, 3, 4]))) : p := h
def certify_read_l0 (a0 : District) : Nat → (List (List Int) × List (List Int)) → Empty ⊕ (List (List Int) × List (List Int)) := fun k_0 s_0 => .inr ((s_0.1 ++ [(List.replicate (Int.toNat (IntKind.i64.wrap (a0.hours + 1))) (0 : Int))]), (s_0.2 ++ [(List.replicate (Int.toNat a0.hours) (0 : Int))]))
def certify_read_l0_p (a0 : District) : Nat → (List (List Int) × List (List Int)) → Prop := fun k_0 s_0 => (((IntKind.i64.wrap (a0.hours + 1)) = (IntKind.i64.wrap (a0.hours + 1)) ∧ 0 ≤ (IntKind.i64.wrap (a0.hours + 1)) ∧ (IntKind.i64.wrap (a0.hours + 1)) * ((8 : Nat) : Int) ≤ ((maxB : Nat) : Int)) ∧ ((IntKind.i64.wrap (a0.hours + 1)) ≤ ((maxL : Nat) : Int) → (((s_0.1 ++ [(List.replicate (Int.toNat (IntKind.i64.wrap (a0.hours + 1))) (0 : Int))]).length * 24 ≤ maxB) ∧ ((s_0.1 ++ [(List.replicate (Int.toNat (IntKind.i64.wrap (a0.hours + 1))) (0 : Int))]).length ≤ maxL → ((a0.hours = a0.hours ∧ 0 ≤ a0.hours ∧ a0.hours * ((8 : Nat) : Int) ≤ ((maxB : Nat) : Int)) ∧ (a0.hours ≤ ((maxL : Nat) : Int) → ((s_0.2 ++ [(List.replicate (Int.toNat a0.hours) (0 : Int))]).length * 24 ≤ maxB)))))))
def certify_read_l1 (a0 : District) (a1 : List Order) : Nat → (List (CertifyPlace × Int) × List (List Int) × List (List Int)) → Empty ⊕ (List (CertifyPlace × Int) × List (List Int) × List (List Int)) := fun k_1 s_1 => (bif (a1.getD k_1 (default : Order)).outlet then (bif (decide ((a0.farms.getD (Int.toNat ((a1.getD k_1 (default : Order)).index)) (default : Farm)).reach ≥ 0)) then .inr ((mupdT .certifyPlace .int s_1.1 ({ hour := (a1.getD k_1 (default : Order)).hour, index := (a1.getD k_1 (default : Order)).index, outlet := (a1.getD k_1 (default : Order)).outlet } : CertifyPlace) ((a1.getD k_1 (default : Order)).litres)), (s_1.2.1.set (Int.toNat ((a0.farms.getD (Int.toNat ((a1.getD k_1 (default : Order)).index)) (default : Farm)).reach)) ((s_1.2.1.getD (Int.toNat ((a0.farms.getD (Int.toNat ((a1.getD k_1 (default : Order)).index)) (default : Farm)).reach)) []).set (Int.toNat ((a1.getD k_1 (default : Order)).hour)) (IntKind.i64.wrap (((s_1.2.1.getD (Int.toNat ((a0.farms.getD (Int.toNat ((a1.getD k_1 (default : Order)).index)) (default : Farm)).reach)) []).getD (Int.toNat ((a1.getD k_1 (default : Order)).hour)) (0 : Int)) + (a1.getD k_1 (default : Order)).litres)))), s_1.2.2) else .inr ((mupdT .certifyPlace .int s_1.1 ({ hour := (a1.getD k_1 (default : Order)).hour, index := (a1.getD k_1 (default : Order)).index, outlet := (a1.getD k_1 (default : Order)).outlet } : CertifyPlace) ((a1.getD k_1 (default : Order)).litres)), s_1.2.1, s_1.2.2)) else (bif (decide ((a0.reaches.getD (Int.toNat ((a1.getD k_1 (default : Order)).index)) (default : Reach)).up ≥ 0)) then .inr ((mupdT .certifyPlace .int s_1.1 ({ hour := (a1.getD k_1 (default : Order)).hour, index := (a1.getD k_1 (default : Order)).index, outlet := (a1.getD k_1 (default : Order)).outlet } : CertifyPlace) ((a1.getD k_1 (default : Order)).litres)), (s_1.2.1.set (Int.toNat ((a0.reaches.getD (Int.toNat ((a1.getD k_1 (default : Order)).index)) (default : Reach)).up)) ((s_1.2.1.getD (Int.toNat ((a0.reaches.getD (Int.toNat ((a1.getD k_1 (default : Order)).index)) (default : Reach)).up)) []).set (Int.toNat ((a1.getD k_1 (default : Order)).hour)) (IntKind.i64.wrap (((s_1.2.1.getD (Int.toNat ((a0.reaches.getD (Int.toNat ((a1.getD k_1 (default : Order)).index)) (default : Reach)).up)) []).getD (Int.toNat ((a1.getD k_1 (default : Order)).hour)) (0 : Int)) + (a1.getD k_1 (default : Order)).litres)))), (s_1.2.2.set (Int.toNat ((a1.getD k_1 (default : Order)).index)) ((s_1.2.2.getD (Int.toNat ((a1.getD k_1 (default : Order)).index)) []).set (Int.toNat (IntKind.i64.wrap ((a1.getD k_1 (default : Order)).hour + 1))) (a1.getD k_1 (default : Order)).litres))) else .inr ((mupdT .certifyPlace .int s_1.1 ({ hour := (a1.getD k_1 (default : Order)).hour, index := (a1.getD k_1 (default : Order)).index, outlet := (a1.getD k_1 (default : Order)).outlet } : CertifyPlace) ((a1.getD k_1 (default : Order)).litres)), s_1.2.1, (s_1.2.2.set (Int.toNat ((a1.getD k_1 (default : Order)).index)) ((s_1.2.2.getD (Int.toNat ((a1.getD k_1 (default : Order)).index)) []).set (Int.toNat (IntKind.i64.wrap ((a1.getD k_1 (default : Order)).hour + 1))) (a1.getD k_1 (default : Order)).litres)))))
def certify_read_l1_p (a0 : District) (a1 : List Order) : Nat → (List (CertifyPlace × Int) × List (List Int) × List (List Int)) → Prop := fun k_1 s_1 => (((a1.getD k_1 (default : Order)).outlet = true → ((0 ≤ (a1.getD k_1 (default : Order)).index ∧ (a1.getD k_1 (default : Order)).index < (a0.farms.length : Int)) ∧ ((decide ((a0.farms.getD (Int.toNat ((a1.getD k_1 (default : Order)).index)) (default : Farm)).reach ≥ 0)) = true → ((0 ≤ (a0.farms.getD (Int.toNat ((a1.getD k_1 (default : Order)).index)) (default : Farm)).reach ∧ (a0.farms.getD (Int.toNat ((a1.getD k_1 (default : Order)).index)) (default : Farm)).reach < (s_1.2.1.length : Int)) ∧ ((0 ≤ (a1.getD k_1 (default : Order)).hour ∧ (a1.getD k_1 (default : Order)).hour < ((s_1.2.1.getD (Int.toNat ((a0.farms.getD (Int.toNat ((a1.getD k_1 (default : Order)).index)) (default : Farm)).reach)) []).length : Int)) ∧ (0 ≤ (a1.getD k_1 (default : Order)).hour ∧ (a1.getD k_1 (default : Order)).hour < ((s_1.2.1.getD (Int.toNat ((a0.farms.getD (Int.toNat ((a1.getD k_1 (default : Order)).index)) (default : Farm)).reach)) []).length : Int))))))) ∧ ((a1.getD k_1 (default : Order)).outlet = false → ((0 ≤ (a1.getD k_1 (default : Order)).index ∧ (a1.getD k_1 (default : Order)).index < (a0.reaches.length : Int)) ∧ ((0 ≤ (a1.getD k_1 (default : Order)).index ∧ (a1.getD k_1 (default : Order)).index < (s_1.2.2.length : Int)) ∧ ((0 ≤ (IntKind.i64.wrap ((a1.getD k_1 (default : Order)).hour + 1)) ∧ (IntKind.i64.wrap ((a1.getD k_1 (default : Order)).hour + 1)) < ((s_1.2.2.getD (Int.toNat ((a1.getD k_1 (default : Order)).index)) []).length : Int)) ∧ ((decide ((a0.reaches.getD (Int.toNat ((a1.getD k_1 (default : Order)).index)) (default : Reach)).up ≥ 0)) = true → ((0 ≤ (a0.reaches.getD (Int.toNat ((a1.getD k_1 (default : Order)).index)) (default : Reach)).up ∧ (a0.reaches.getD (Int.toNat ((a1.getD k_1 (default : Order)).index)) (default : Reach)).up < (s_1.2.1.length : Int)) ∧ ((0 ≤ (a1.getD k_1 (default : Order)).hour ∧ (a1.getD k_1 (default : Order)).hour < ((s_1.2.1.getD (Int.toNat ((a0.reaches.getD (Int.toNat ((a1.getD k_1 (default : Order)).index)) (default : Reach)).up)) []).length : Int)) ∧ (0 ≤ (a1.getD k_1 (default : Order)).hour ∧ (a1.getD k_1 (default : Order)).hour < ((s_1.2.1.getD (Int.toNat ((a0.reaches.getD (Int.toNat ((a1.getD k_1 (default : Order)).index)) (default : Reach)).up)) []).length : Int))))))))))
def certify_read_l3 (a0 : District) (k_2 : Nat) : Nat → (List (List Int)) → Empty ⊕ (List (List Int)) := fun k_3 s_3 => .inr (s_3.set k_2 ((s_3.getD k_2 []).set (Int.toNat (IntKind.i64.wrap ((k_3 : Int) + 1))) (IntKind.i64.wrap (((s_3.getD k_2 []).getD (Int.toNat (IntKind.i64.wrap ((k_3 : Int) + 1))) (0 : Int)) + ((s_3.getD k_2 []).getD k_3 (0 : Int))))))
def certify_read_l3_p (a0 : District) (k_2 : Nat) : Nat → (List (List Int)) → Prop := fun k_3 s_3 => ((0 ≤ (IntKind.i64.wrap ((k_3 : Int) + 1)) ∧ (IntKind.i64.wrap ((k_3 : Int) + 1)) < ((s_3.getD k_2 []).length : Int)) ∧ ((0 ≤ (k_3 : Int) ∧ (k_3 : Int) < ((s_3.getD k_2 []).length : Int)) ∧ (0 ≤ (IntKind.i64.wrap ((k_3 : Int) + 1)) ∧ (IntKind.i64.wrap ((k_3 : Int) + 1)) < ((s_3.getD k_2 []).length : Int))))
def certify_read_l2 (a0 : District) (s_1 : List (CertifyPlace × Int) × List (List Int) × List (List Int)) : Nat → (List (List Int)) → Empty ⊕ (List (List Int)) := fun k_2 s_2 => (match runI (certify_read_l3 a0 k_2) (Int.toNat a0.hours) 0 s_2 with | .inl x => x.elim | .inr s_3 => .inr s_3)
def certify_read_l2_p (a0 : District) (s_1 : List (CertifyPlace × Int) × List (List Int) × List (List Int)) : Nat → (List (List Int)) → Prop := fun k_2 s_2 => ((0 ≤ (k_2 : Int) ∧ (k_2 : Int) < (s_2.length : Int)) ∧ ((a0.hours < 9223372036854775808) ∧ okI (certify_read_l3 a0 k_2) (certify_read_l3_p a0 k_2) (Int.toNat a0.hours) 0 s_2))
def certify_read (a0 : District) (a1 : List Order) : CertifyTable × Int := (bif ((decide ((IntKind.i64.wrap ((a0.reaches.length : Int) * a0.hours)) > 1024)) || (decide ((a1.length : Int) > 4096))) then (({ d := ({ name := (ByteArray.mk #[]), hours := 0, tank := ({ cap := 0, start := 0 } : Tank), reaches := [], farms := [], crops := [], rights := [], duties := [], wells := [] } : District), l := [], litres := [], sums := [], drawn := [] } : CertifyTable), 2) else (bif ((routing_Check a0 a1) != 0) then (({ d := ({ name := (ByteArray.mk #[]), hours := 0, tank := ({ cap := 0, start := 0 } : Tank), reaches := [], farms := [], crops := [], rights := [], duties := [], wells := [] } : District), l := [], litres := [], sums := [], drawn := [] } : CertifyTable), 280) else (match runI (certify_read_l0 a0) a0.reaches.length 0 ([], []) with | .inl x => x.elim | .inr s_0 => (match runI (certify_read_l1 a0 a1) a1.length 0 ([], s_0.2, s_0.1) with | .inl x => x.elim | .inr s_1 => (match runI (certify_read_l2 a0 s_1) s_1.2.2.length 0 s_1.2.2 with | .inl x => x.elim | .inr s_2 => (({ d := a0, l := a1, litres := s_1.1, sums := s_2, drawn := s_1.2.1 } : CertifyTable), 0))))))
def certify_read_p (a0 : District) (a1 : List Order) : Prop := (a0.reaches.length ≤ maxL → (((decide ((IntKind.i64.wrap ((a0.reaches.length : Int) * a0.hours)) > 1024)) || (decide ((a1.length : Int) > 4096))) = false → ((routing_Check_p a0 a1) ∧ (((routing_Check a0 a1) != 0) = false → (a0.reaches.length ≤ maxL → (okI (certify_read_l0 a0) (certify_read_l0_p a0) a0.reaches.length 0 ([], []) ∧ (∀ s_0, runI (certify_read_l0 a0) a0.reaches.length 0 ([], []) = .inr s_0 → (a1.length ≤ maxL → (okI (certify_read_l1 a0 a1) (certify_read_l1_p a0 a1) a1.length 0 ([], s_0.2, s_0.1) ∧ (∀ s_1, runI (certify_read_l1 a0 a1) a1.length 0 ([], s_0.2, s_0.1) = .inr s_1 → (s_1.2.2.length ≤ maxL → okI (certify_read_l2 a0 s_1) (certify_read_l2_p a0 s_1) s_1.2.2.length 0 s_1.2.2)))))))))))
def C_certify_read : List SV → Option Con := (pD .district fun a0 => (pR .order fun a1 => pE (.det (certify_read_p a0 a1) (.tup [.agg (cellsOf .certifyTable ((certify_read a0 a1).1)), .v (.int .i64 ((certify_read a0 a1).2))]))))
set_option maxHeartbeats 4000000 in
theorem ok_certify_read : FnOk Try.prog 21 C_certify_read := by
  have hG : ConsOk Try.prog (mkG [(40, fun l => C_routing_Check (nrmA [.st .district, .sl .order] l))] []) := mkG_ok (cgc (ok_routing_Check.norm [.st .district, .sl .order]) cg0) cg0
  refine fn_okN [.st .certifyTable, .o] mixed ts_ok hG (fn := Try.f21) (c := bodyOf Try.f21) (by kernel_rfl) (by kernel_rfl) (by kernel_rfl) (by kernel_rfl) fun l con h hp => ?_
  unfold C_certify_read at h
  obtain ⟨a0, l0, rfl, h0⟩ := pD_inv h
  obtain ⟨a1, l1, rfl, h1⟩ := pR_inv h0
  obtain ⟨rfl, rfl⟩ := pE_inv h1
  clear h h0 h1
  dsimp only [conPre] at hp
  unfold certify_read_p at hp
  refine ⟨Nat.le_of_ble_eq_true rfl, (fun id st => bif Nat.beq id 0 then some (LC (ρ := Empty) (σ := List (List Int) × List (List Int)) (lk 1 st.t = .rs .order a1 ∧ lk 2 st.t = .ptr 0 0 ∧ lk 4 st.t = .ptr 1 0 ∧ lk 36 st.t = .v (.int .i64 (a0.reaches.length : Int)) ∧ lk 37 st.t = .v (.int .i64 0) ∧ st.h = [.cells [.v (.string a0.name), .v (.int .i64 a0.hours), .v (.int .i64 a0.tank.cap), .v (.int .i64 a0.tank.start), .rs .reach a0.reaches, .rs .farm a0.farms, .rs .crop a0.crops, .rs .right a0.rights, .rs .duty a0.duties, .rs .well a0.wells], .cells [.v (.string a0.name), .v (.int .i64 a0.hours), .v (.int .i64 a0.tank.cap), .v (.int .i64 a0.tank.start), .rs .reach a0.reaches, .rs .farm a0.farms, .rs .crop a0.crops, .rs .right a0.rights, .rs .duty a0.duties, .rs .well a0.wells, .rs .order a1, .os 2, .v (.slice none 0 0), .v (.slice none 0 0)], .mp .certifyPlace .int ([]) none] ∧ a0.reaches.length ≤ maxL ∧ okI (certify_read_l0 a0) (certify_read_l0_p a0) a0.reaches.length 0 ([], [])) (runI (certify_read_l0 a0) a0.reaches.length 0 ([], [])) (fun x => x.elim) (fun x => x.elim) (fun s_0 => ⟨[(1, .rs .order a1), (2, .ptr 0 0), (4, .ptr 1 0)], [.cells [.v (.string a0.name), .v (.int .i64 a0.hours), .v (.int .i64 a0.tank.cap), .v (.int .i64 a0.tank.start), .rs .reach a0.reaches, .rs .farm a0.farms, .rs .crop a0.crops, .rs .right a0.rights, .rs .duty a0.duties, .rs .well a0.wells], .cells [.v (.string a0.name), .v (.int .i64 a0.hours), .v (.int .i64 a0.tank.cap), .v (.int .i64 a0.tank.start), .rs .reach a0.reaches, .rs .farm a0.farms, .rs .crop a0.crops, .rs .right a0.rights, .rs .duty a0.duties, .rs .well a0.wells, .rs .order a1, .os 2, .os 3, .os 4], .mp .certifyPlace .int ([]) none, .grid .int s_0.1, .grid .int s_0.2]⟩)) else bif Nat.beq id 2 then some (LC (ρ := Empty) (σ := List (CertifyPlace × Int) × List (List Int) × List (List Int)) (lk 2 st.t = .ptr 0 0 ∧ lk 4 st.t = .ptr 1 0 ∧ lk 57 st.t = .rs .order a1 ∧ lk 58 st.t = .v (.int .i64 (a1.length : Int)) ∧ lk 59 st.t = .v (.int .i64 0) ∧ st.h = [.cells [.v (.string a0.name), .v (.int .i64 a0.hours), .v (.int .i64 a0.tank.cap), .v (.int .i64 a0.tank.start), .rs .reach a0.reaches, .rs .farm a0.farms, .rs .crop a0.crops, .rs .right a0.rights, .rs .duty a0.duties, .rs .well a0.wells], .cells [.v (.string a0.name), .v (.int .i64 a0.hours), .v (.int .i64 a0.tank.cap), .v (.int .i64 a0.tank.start), .rs .reach a0.reaches, .rs .farm a0.farms, .rs .crop a0.crops, .rs .right a0.rights, .rs .duty a0.duties, .rs .well a0.wells, .rs .order a1, .os 2, .os 3, .os 4], .mp .certifyPlace .int ([]) none, .grid .int (outR (runI (certify_read_l0 a0) a0.reaches.length 0 ([], []))).1, .grid .int (outR (runI (certify_read_l0 a0) a0.reaches.length 0 ([], []))).2] ∧ a1.length ≤ maxL ∧ okI (certify_read_l1 a0 a1) (certify_read_l1_p a0 a1) a1.length 0 ([], (outR (runI (certify_read_l0 a0) a0.reaches.length 0 ([], []))).2, (outR (runI (certify_read_l0 a0) a0.reaches.length 0 ([], []))).1)) (runI (certify_read_l1 a0 a1) a1.length 0 ([], (outR (runI (certify_read_l0 a0) a0.reaches.length 0 ([], []))).2, (outR (runI (certify_read_l0 a0) a0.reaches.length 0 ([], []))).1)) (fun x => x.elim) (fun x => x.elim) (fun s_1 => ⟨[(2, .ptr 0 0), (4, .ptr 1 0)], [.cells [.v (.string a0.name), .v (.int .i64 a0.hours), .v (.int .i64 a0.tank.cap), .v (.int .i64 a0.tank.start), .rs .reach a0.reaches, .rs .farm a0.farms, .rs .crop a0.crops, .rs .right a0.rights, .rs .duty a0.duties, .rs .well a0.wells], .cells [.v (.string a0.name), .v (.int .i64 a0.hours), .v (.int .i64 a0.tank.cap), .v (.int .i64 a0.tank.start), .rs .reach a0.reaches, .rs .farm a0.farms, .rs .crop a0.crops, .rs .right a0.rights, .rs .duty a0.duties, .rs .well a0.wells, .rs .order a1, .os 2, .os 3, .os 4], .mp .certifyPlace .int s_1.1 none, .grid .int s_1.2.2, .grid .int s_1.2.1]⟩)) else bif Nat.beq id 4 then some (LC (ρ := Empty) (σ := List (List Int)) (lk 2 st.t = .ptr 0 0 ∧ lk 4 st.t = .ptr 1 0 ∧ lk 119 st.t = .os 3 ∧ lk 120 st.t = .v (.int .i64 ((outR (runI (certify_read_l1 a0 a1) a1.length 0 ([], (outR (runI (certify_read_l0 a0) a0.reaches.length 0 ([], []))).2, (outR (runI (certify_read_l0 a0) a0.reaches.length 0 ([], []))).1))).2.2.length : Int)) ∧ lk 121 st.t = .v (.int .i64 0) ∧ st.h = [.cells [.v (.string a0.name), .v (.int .i64 a0.hours), .v (.int .i64 a0.tank.cap), .v (.int .i64 a0.tank.start), .rs .reach a0.reaches, .rs .farm a0.farms, .rs .crop a0.crops, .rs .right a0.rights, .rs .duty a0.duties, .rs .well a0.wells], .cells [.v (.string a0.name), .v (.int .i64 a0.hours), .v (.int .i64 a0.tank.cap), .v (.int .i64 a0.tank.start), .rs .reach a0.reaches, .rs .farm a0.farms, .rs .crop a0.crops, .rs .right a0.rights, .rs .duty a0.duties, .rs .well a0.wells, .rs .order a1, .os 2, .os 3, .os 4], .mp .certifyPlace .int (outR (runI (certify_read_l1 a0 a1) a1.length 0 ([], (outR (runI (certify_read_l0 a0) a0.reaches.length 0 ([], []))).2, (outR (runI (certify_read_l0 a0) a0.reaches.length 0 ([], []))).1))).1 none, .grid .int (outR (runI (certify_read_l1 a0 a1) a1.length 0 ([], (outR (runI (certify_read_l0 a0) a0.reaches.length 0 ([], []))).2, (outR (runI (certify_read_l0 a0) a0.reaches.length 0 ([], []))).1))).2.2, .grid .int (outR (runI (certify_read_l1 a0 a1) a1.length 0 ([], (outR (runI (certify_read_l0 a0) a0.reaches.length 0 ([], []))).2, (outR (runI (certify_read_l0 a0) a0.reaches.length 0 ([], []))).1))).2.1] ∧ (outR (runI (certify_read_l1 a0 a1) a1.length 0 ([], (outR (runI (certify_read_l0 a0) a0.reaches.length 0 ([], []))).2, (outR (runI (certify_read_l0 a0) a0.reaches.length 0 ([], []))).1))).2.2.length ≤ maxL ∧ okI (certify_read_l2 a0 (outR (runI (certify_read_l1 a0 a1) a1.length 0 ([], (outR (runI (certify_read_l0 a0) a0.reaches.length 0 ([], []))).2, (outR (runI (certify_read_l0 a0) a0.reaches.length 0 ([], []))).1)))) (certify_read_l2_p a0 (outR (runI (certify_read_l1 a0 a1) a1.length 0 ([], (outR (runI (certify_read_l0 a0) a0.reaches.length 0 ([], []))).2, (outR (runI (certify_read_l0 a0) a0.reaches.length 0 ([], []))).1)))) (outR (runI (certify_read_l1 a0 a1) a1.length 0 ([], (outR (runI (certify_read_l0 a0) a0.reaches.length 0 ([], []))).2, (outR (runI (certify_read_l0 a0) a0.reaches.length 0 ([], []))).1))).2.2.length 0 (outR (runI (certify_read_l1 a0 a1) a1.length 0 ([], (outR (runI (certify_read_l0 a0) a0.reaches.length 0 ([], []))).2, (outR (runI (certify_read_l0 a0) a0.reaches.length 0 ([], []))).1))).2.2) (runI (certify_read_l2 a0 (outR (runI (certify_read_l1 a0 a1) a1.length 0 ([], (outR (runI (certify_read_l0 a0) a0.reaches.length 0 ([], []))).2, (outR (runI (certify_read_l0 a0) a0.reaches.length 0 ([], []))).1)))) (outR (runI (certify_read_l1 a0 a1) a1.length 0 ([], (outR (runI (certify_read_l0 a0) a0.reaches.length 0 ([], []))).2, (outR (runI (certify_read_l0 a0) a0.reaches.length 0 ([], []))).1))).2.2.length 0 (outR (runI (certify_read_l1 a0 a1) a1.length 0 ([], (outR (runI (certify_read_l0 a0) a0.reaches.length 0 ([], []))).2, (outR (runI (certify_read_l0 a0) a0.reaches.length 0 ([], []))).1))).2.2) (fun x => x.elim) (fun x => x.elim) (fun s_2 => ⟨[(4, .ptr 1 0)], [.dead, .cells [.v (.string a0.name), .v (.int .i64 a0.hours), .v (.int .i64 a0.tank.cap), .v (.int .i64 a0.tank.start), .rs .reach a0.reaches, .rs .farm a0.farms, .rs .crop a0.crops, .rs .right a0.rights, .rs .duty a0.duties, .rs .well a0.wells, .rs .order a1, .os 2, .os 3, .os 4], .mp .certifyPlace .int (outR (runI (certify_read_l1 a0 a1) a1.length 0 ([], (outR (runI (certify_read_l0 a0) a0.reaches.length 0 ([], []))).2, (outR (runI (certify_read_l0 a0) a0.reaches.length 0 ([], []))).1))).1 none, .grid .int s_2, .grid .int (outR (runI (certify_read_l1 a0 a1) a1.length 0 ([], (outR (runI (certify_read_l0 a0) a0.reaches.length 0 ([], []))).2, (outR (runI (certify_read_l0 a0) a0.reaches.length 0 ([], []))).1))).2.1]⟩)) else none), ?_, ?_⟩
  · unfold bodyOf Try.f21
    simp only [loopsOk, true_and, and_true]
    refine ⟨?_, ?_, ?_⟩
    · refine count_okR mixed ts_ok hG (by kernel_rfl) fun st lc hC hp => ?_
      simp only [go_sem, Nat.reduceBEq, Option.some.injEq] at hC
      subst hC
      obtain ⟨t, h⟩ := st
      dsimp only [LC] at hp
      obtain ⟨e0_0, e0_1, e0_2, e0_3, e0_4, rfl, hb0, hok0⟩ := hp
      refine ⟨_, _, _, (certify_read_l0 a0), (certify_read_l0_p a0), a0.reaches.length, ([], []), _, _, _, (fun k_0 s_0 => ⟨[(1, .rs .order a1), (2, .ptr 0 0), (4, .ptr 1 0), (36, .v (.int .i64 (a0.reaches.length : Int))), (37, .v (.int .i64 (k_0 : Int)))], [.cells [.v (.string a0.name), .v (.int .i64 a0.hours), .v (.int .i64 a0.tank.cap), .v (.int .i64 a0.tank.start), .rs .reach a0.reaches, .rs .farm a0.farms, .rs .crop a0.crops, .rs .right a0.rights, .rs .duty a0.duties, .rs .well a0.wells], .cells [.v (.string a0.name), .v (.int .i64 a0.hours), .v (.int .i64 a0.tank.cap), .v (.int .i64 a0.tank.start), .rs .reach a0.reaches, .rs .farm a0.farms, .rs .crop a0.crops, .rs .right a0.rights, .rs .duty a0.duties, .rs .well a0.wells, .rs .order a1, .os 2, .os 3, .os 4], .mp .certifyPlace .int ([]) none, .grid .int s_0.1, .grid .int s_0.2]⟩), ⟨t, [.cells [.v (.string a0.name), .v (.int .i64 a0.hours), .v (.int .i64 a0.tank.cap), .v (.int .i64 a0.tank.start), .rs .reach a0.reaches, .rs .farm a0.farms, .rs .crop a0.crops, .rs .right a0.rights, .rs .duty a0.duties, .rs .well a0.wells], .cells [.v (.string a0.name), .v (.int .i64 a0.hours), .v (.int .i64 a0.tank.cap), .v (.int .i64 a0.tank.start), .rs .reach a0.reaches, .rs .farm a0.farms, .rs .crop a0.crops, .rs .right a0.rights, .rs .duty a0.duties, .rs .well a0.wells, .rs .order a1, .os 2, .os 3, .os 4], .mp .certifyPlace .int ([]) none, .grid .int ([]), .grid .int ([])]⟩, [0, 1, 2, 3, 4], rfl, hok0, NilS.cell (h := [.cells [.v (.string a0.name), .v (.int .i64 a0.hours), .v (.int .i64 a0.tank.cap), .v (.int .i64 a0.tank.start), .rs .reach a0.reaches, .rs .farm a0.farms, .rs .crop a0.crops, .rs .right a0.rights, .rs .duty a0.duties, .rs .well a0.wells], .cells [.v (.string a0.name), .v (.int .i64 a0.hours), .v (.int .i64 a0.tank.cap), .v (.int .i64 a0.tank.start), .rs .reach a0.reaches, .rs .farm a0.farms, .rs .crop a0.crops, .rs .right a0.rights, .rs .duty a0.duties, .rs .well a0.wells, .rs .order a1, .os 2, .os 3, .v (.slice none 0 0)], .mp .certifyPlace .int ([]) none, .grid .int ([])]) (i := 1) (j := 13) (.grid .int ([])) (NilS.cell (h := [.cells [.v (.string a0.name), .v (.int .i64 a0.hours), .v (.int .i64 a0.tank.cap), .v (.int .i64 a0.tank.start), .rs .reach a0.reaches, .rs .farm a0.farms, .rs .crop a0.crops, .rs .right a0.rights, .rs .duty a0.duties, .rs .well a0.wells], .cells [.v (.string a0.name), .v (.int .i64 a0.hours), .v (.int .i64 a0.tank.cap), .v (.int .i64 a0.tank.start), .rs .reach a0.reaches, .rs .farm a0.farms, .rs .crop a0.crops, .rs .right a0.rights, .rs .duty a0.duties, .rs .well a0.wells, .rs .order a1, .os 2, .v (.slice none 0 0), .v (.slice none 0 0)], .mp .certifyPlace .int ([]) none]) (i := 1) (j := 12) (.grid .int ([])) (NilS.refl _) rfl rfl (.inr ⟨_, rfl⟩)) rfl rfl (.inr ⟨_, rfl⟩), Nat.le_of_ble_eq_true rfl, ?_, fun k_0 s_0 hk0 hp0 => ?_⟩
      · simp only [go_sem, Nat.reduceBEq, Nat.reduceLeDiff, Nat.reduceAdd, Nat.reduceSub, Nat.reduceMul, Int.reduceLE, Int.reduceLT, Int.reduceToNat, Int.reduceNeg, reduceCtorEq, e0_0, e0_1, e0_2, e0_3, e0_4]
        all_goals (first | done | decide | (repeat' (first | refine And.intro ?_ ?_ | rfl | decide)))
      refine ⟨(fun id st => none), ?_, ?_⟩
      · simp only [loopsOk, and_self, true_and, and_true]
      · by_cases hlt0 : k_0 < a0.reaches.length
        · have hw0 := wrapS hlt0 hb0
          have hq0 := hp0 hlt0
          unfold certify_read_l0_p at hq0
          try simp only [hw0, Int.toNat_natCast] at hq0
          have hc0 : decide ((k_0 : Int) < (a0.reaches.length : Int)) = true := by simp only [decide_eq_true_eq]; omega
          simp only [go_sem, Nat.reduceBEq, Nat.reduceLeDiff, Nat.reduceAdd, Nat.reduceSub, Nat.reduceMul, Int.reduceLE, Int.reduceLT, Int.reduceToNat, Int.reduceNeg, reduceCtorEq, C_routing_Check, certify_read_l0, hc0, hw0]
          all_goals exact crSxR3_0
        · have hc0 : decide ((k_0 : Int) < (a0.reaches.length : Int)) = false := by simp only [decide_eq_false_iff_not]; omega
          simp only [go_sem, Nat.reduceBEq, Nat.reduceLeDiff, Nat.reduceAdd, Nat.reduceSub, Nat.reduceMul, Int.reduceLE, Int.reduceLT, Int.reduceToNat, Int.reduceNeg, reduceCtorEq, C_routing_Check, hc0]
          all_goals exact crSxR3_0
    · refine count_okR mixed ts_ok hG (by kernel_rfl) fun st lc hC hp => ?_
      simp only [go_sem, Nat.reduceBEq, Option.some.injEq] at hC
      subst hC
      obtain ⟨t, h⟩ := st
      dsimp only [LC] at hp
      obtain ⟨e1_0, e1_1, e1_2, e1_3, e1_4, rfl, hb1, hok1⟩ := hp
      refine ⟨_, _, _, (certify_read_l1 a0 a1), (certify_read_l1_p a0 a1), a1.length, ([], (outR (runI (certify_read_l0 a0) a0.reaches.length 0 ([], []))).2, (outR (runI (certify_read_l0 a0) a0.reaches.length 0 ([], []))).1), _, _, _, (fun k_1 s_1 => ⟨[(2, .ptr 0 0), (4, .ptr 1 0), (57, .rs .order a1), (58, .v (.int .i64 (a1.length : Int))), (59, .v (.int .i64 (k_1 : Int)))], [.cells [.v (.string a0.name), .v (.int .i64 a0.hours), .v (.int .i64 a0.tank.cap), .v (.int .i64 a0.tank.start), .rs .reach a0.reaches, .rs .farm a0.farms, .rs .crop a0.crops, .rs .right a0.rights, .rs .duty a0.duties, .rs .well a0.wells], .cells [.v (.string a0.name), .v (.int .i64 a0.hours), .v (.int .i64 a0.tank.cap), .v (.int .i64 a0.tank.start), .rs .reach a0.reaches, .rs .farm a0.farms, .rs .crop a0.crops, .rs .right a0.rights, .rs .duty a0.duties, .rs .well a0.wells, .rs .order a1, .os 2, .os 3, .os 4], .mp .certifyPlace .int s_1.1 none, .grid .int s_1.2.2, .grid .int s_1.2.1]⟩), ⟨t, [.cells [.v (.string a0.name), .v (.int .i64 a0.hours), .v (.int .i64 a0.tank.cap), .v (.int .i64 a0.tank.start), .rs .reach a0.reaches, .rs .farm a0.farms, .rs .crop a0.crops, .rs .right a0.rights, .rs .duty a0.duties, .rs .well a0.wells], .cells [.v (.string a0.name), .v (.int .i64 a0.hours), .v (.int .i64 a0.tank.cap), .v (.int .i64 a0.tank.start), .rs .reach a0.reaches, .rs .farm a0.farms, .rs .crop a0.crops, .rs .right a0.rights, .rs .duty a0.duties, .rs .well a0.wells, .rs .order a1, .os 2, .os 3, .os 4], .mp .certifyPlace .int ([]) none, .grid .int (outR (runI (certify_read_l0 a0) a0.reaches.length 0 ([], []))).1, .grid .int (outR (runI (certify_read_l0 a0) a0.reaches.length 0 ([], []))).2]⟩, [0, 1, 2, 3, 4], rfl, hok1, NilS.refl _, Nat.le_of_ble_eq_true rfl, ?_, fun k_1 s_1 hk1 hp1 => ?_⟩
      · simp only [go_sem, Nat.reduceBEq, Nat.reduceLeDiff, Nat.reduceAdd, Nat.reduceSub, Nat.reduceMul, Int.reduceLE, Int.reduceLT, Int.reduceToNat, Int.reduceNeg, reduceCtorEq, e1_0, e1_1, e1_2, e1_3, e1_4]
        all_goals (first | done | decide | (repeat' (first | refine And.intro ?_ ?_ | rfl | decide)))
      refine ⟨(fun id st => none), ?_, ?_⟩
      · simp only [loopsOk, and_self, true_and, and_true]
      · by_cases hlt1 : k_1 < a1.length
        · have hw1 := wrapS hlt1 hb1
          have hq1 := hp1 hlt1
          unfold certify_read_l1_p at hq1
          try simp only [hw1, Int.toNat_natCast] at hq1
          have hc1 : decide ((k_1 : Int) < (a1.length : Int)) = true := by simp only [decide_eq_true_eq]; omega
          simp only [go_sem, Nat.reduceBEq, Nat.reduceLeDiff, Nat.reduceAdd, Nat.reduceSub, Nat.reduceMul, Int.reduceLE, Int.reduceLT, Int.reduceToNat, Int.reduceNeg, reduceCtorEq, C_routing_Check, certify_read_l1, hc1, hw1]
          all_goals exact crSxR3_1
        · have hc1 : decide ((k_1 : Int) < (a1.length : Int)) = false := by simp only [decide_eq_false_iff_not]; omega
          simp only [go_sem, Nat.reduceBEq, Nat.reduceLeDiff, Nat.reduceAdd, Nat.reduceSub, Nat.reduceMul, Int.reduceLE, Int.reduceLT, Int.reduceToNat, Int.reduceNeg, reduceCtorEq, C_routing_Check, hc1]
          all_goals exact crSxR3_1
    · refine count_okR mixed ts_ok hG (by kernel_rfl) fun st lc hC hp => ?_
      simp only [go_sem, Nat.reduceBEq, Option.some.injEq] at hC
      subst hC
      obtain ⟨t, h⟩ := st
      dsimp only [LC] at hp
      obtain ⟨e2_0, e2_1, e2_2, e2_3, e2_4, rfl, hb2, hok2⟩ := hp
      refine ⟨_, _, _, (certify_read_l2 a0 (outR (runI (certify_read_l1 a0 a1) a1.length 0 ([], (outR (runI (certify_read_l0 a0) a0.reaches.length 0 ([], []))).2, (outR (runI (certify_read_l0 a0) a0.reaches.length 0 ([], []))).1)))), (certify_read_l2_p a0 (outR (runI (certify_read_l1 a0 a1) a1.length 0 ([], (outR (runI (certify_read_l0 a0) a0.reaches.length 0 ([], []))).2, (outR (runI (certify_read_l0 a0) a0.reaches.length 0 ([], []))).1)))), (outR (runI (certify_read_l1 a0 a1) a1.length 0 ([], (outR (runI (certify_read_l0 a0) a0.reaches.length 0 ([], []))).2, (outR (runI (certify_read_l0 a0) a0.reaches.length 0 ([], []))).1))).2.2.length, (outR (runI (certify_read_l1 a0 a1) a1.length 0 ([], (outR (runI (certify_read_l0 a0) a0.reaches.length 0 ([], []))).2, (outR (runI (certify_read_l0 a0) a0.reaches.length 0 ([], []))).1))).2.2, _, _, _, (fun k_2 s_2 => ⟨[(2, .ptr 0 0), (4, .ptr 1 0), (119, .os 3), (120, .v (.int .i64 ((outR (runI (certify_read_l1 a0 a1) a1.length 0 ([], (outR (runI (certify_read_l0 a0) a0.reaches.length 0 ([], []))).2, (outR (runI (certify_read_l0 a0) a0.reaches.length 0 ([], []))).1))).2.2.length : Int))), (121, .v (.int .i64 (k_2 : Int)))], [.cells [.v (.string a0.name), .v (.int .i64 a0.hours), .v (.int .i64 a0.tank.cap), .v (.int .i64 a0.tank.start), .rs .reach a0.reaches, .rs .farm a0.farms, .rs .crop a0.crops, .rs .right a0.rights, .rs .duty a0.duties, .rs .well a0.wells], .cells [.v (.string a0.name), .v (.int .i64 a0.hours), .v (.int .i64 a0.tank.cap), .v (.int .i64 a0.tank.start), .rs .reach a0.reaches, .rs .farm a0.farms, .rs .crop a0.crops, .rs .right a0.rights, .rs .duty a0.duties, .rs .well a0.wells, .rs .order a1, .os 2, .os 3, .os 4], .mp .certifyPlace .int (outR (runI (certify_read_l1 a0 a1) a1.length 0 ([], (outR (runI (certify_read_l0 a0) a0.reaches.length 0 ([], []))).2, (outR (runI (certify_read_l0 a0) a0.reaches.length 0 ([], []))).1))).1 none, .grid .int s_2, .grid .int (outR (runI (certify_read_l1 a0 a1) a1.length 0 ([], (outR (runI (certify_read_l0 a0) a0.reaches.length 0 ([], []))).2, (outR (runI (certify_read_l0 a0) a0.reaches.length 0 ([], []))).1))).2.1]⟩), ⟨t, [.cells [.v (.string a0.name), .v (.int .i64 a0.hours), .v (.int .i64 a0.tank.cap), .v (.int .i64 a0.tank.start), .rs .reach a0.reaches, .rs .farm a0.farms, .rs .crop a0.crops, .rs .right a0.rights, .rs .duty a0.duties, .rs .well a0.wells], .cells [.v (.string a0.name), .v (.int .i64 a0.hours), .v (.int .i64 a0.tank.cap), .v (.int .i64 a0.tank.start), .rs .reach a0.reaches, .rs .farm a0.farms, .rs .crop a0.crops, .rs .right a0.rights, .rs .duty a0.duties, .rs .well a0.wells, .rs .order a1, .os 2, .os 3, .os 4], .mp .certifyPlace .int (outR (runI (certify_read_l1 a0 a1) a1.length 0 ([], (outR (runI (certify_read_l0 a0) a0.reaches.length 0 ([], []))).2, (outR (runI (certify_read_l0 a0) a0.reaches.length 0 ([], []))).1))).1 none, .grid .int (outR (runI (certify_read_l1 a0 a1) a1.length 0 ([], (outR (runI (certify_read_l0 a0) a0.reaches.length 0 ([], []))).2, (outR (runI (certify_read_l0 a0) a0.reaches.length 0 ([], []))).1))).2.2, .grid .int (outR (runI (certify_read_l1 a0 a1) a1.length 0 ([], (outR (runI (certify_read_l0 a0) a0.reaches.length 0 ([], []))).2, (outR (runI (certify_read_l0 a0) a0.reaches.length 0 ([], []))).1))).2.1]⟩, [0, 1, 2, 3, 4], rfl, hok2, NilS.refl _, Nat.le_of_ble_eq_true rfl, ?_, fun k_2 s_2 hk2 hp2 => ?_⟩
      · simp only [go_sem, Nat.reduceBEq, Nat.reduceLeDiff, Nat.reduceAdd, Nat.reduceSub, Nat.reduceMul, Int.reduceLE, Int.reduceLT, Int.reduceToNat, Int.reduceNeg, reduceCtorEq, e2_0, e2_1, e2_2, e2_3, e2_4]
        all_goals (first | done | decide | (repeat' (first | refine And.intro ?_ ?_ | rfl | decide)))
      refine ⟨(fun id st => bif Nat.beq id 6 then some (LC (ρ := Empty) (σ := List (List Int)) (lk 2 st.t = .ptr 0 0 ∧ lk 4 st.t = .ptr 1 0 ∧ lk 10 st.t = .gr 3 (k_2 : Int) ∧ lk 119 st.t = .os 3 ∧ lk 120 st.t = .v (.int .i64 ((outR (runI (certify_read_l1 a0 a1) a1.length 0 ([], (outR (runI (certify_read_l0 a0) a0.reaches.length 0 ([], []))).2, (outR (runI (certify_read_l0 a0) a0.reaches.length 0 ([], []))).1))).2.2.length : Int)) ∧ lk 121 st.t = .v (.int .i64 (k_2 : Int)) ∧ lk 126 st.t = .v (.int .i64 a0.hours) ∧ lk 127 st.t = .v (.int .i64 0) ∧ st.h = [.cells [.v (.string a0.name), .v (.int .i64 a0.hours), .v (.int .i64 a0.tank.cap), .v (.int .i64 a0.tank.start), .rs .reach a0.reaches, .rs .farm a0.farms, .rs .crop a0.crops, .rs .right a0.rights, .rs .duty a0.duties, .rs .well a0.wells], .cells [.v (.string a0.name), .v (.int .i64 a0.hours), .v (.int .i64 a0.tank.cap), .v (.int .i64 a0.tank.start), .rs .reach a0.reaches, .rs .farm a0.farms, .rs .crop a0.crops, .rs .right a0.rights, .rs .duty a0.duties, .rs .well a0.wells, .rs .order a1, .os 2, .os 3, .os 4], .mp .certifyPlace .int (outR (runI (certify_read_l1 a0 a1) a1.length 0 ([], (outR (runI (certify_read_l0 a0) a0.reaches.length 0 ([], []))).2, (outR (runI (certify_read_l0 a0) a0.reaches.length 0 ([], []))).1))).1 none, .grid .int s_2, .grid .int (outR (runI (certify_read_l1 a0 a1) a1.length 0 ([], (outR (runI (certify_read_l0 a0) a0.reaches.length 0 ([], []))).2, (outR (runI (certify_read_l0 a0) a0.reaches.length 0 ([], []))).1))).2.1] ∧ a0.hours < 9223372036854775808 ∧ okI (certify_read_l3 a0 k_2) (certify_read_l3_p a0 k_2) (Int.toNat a0.hours) 0 s_2) (runI (certify_read_l3 a0 k_2) (Int.toNat a0.hours) 0 s_2) (fun x => x.elim) (fun x => x.elim) (fun s_3 => ⟨[(2, .ptr 0 0), (4, .ptr 1 0), (119, .os 3), (120, .v (.int .i64 ((outR (runI (certify_read_l1 a0 a1) a1.length 0 ([], (outR (runI (certify_read_l0 a0) a0.reaches.length 0 ([], []))).2, (outR (runI (certify_read_l0 a0) a0.reaches.length 0 ([], []))).1))).2.2.length : Int))), (121, .v (.int .i64 (k_2 : Int)))], [.cells [.v (.string a0.name), .v (.int .i64 a0.hours), .v (.int .i64 a0.tank.cap), .v (.int .i64 a0.tank.start), .rs .reach a0.reaches, .rs .farm a0.farms, .rs .crop a0.crops, .rs .right a0.rights, .rs .duty a0.duties, .rs .well a0.wells], .cells [.v (.string a0.name), .v (.int .i64 a0.hours), .v (.int .i64 a0.tank.cap), .v (.int .i64 a0.tank.start), .rs .reach a0.reaches, .rs .farm a0.farms, .rs .crop a0.crops, .rs .right a0.rights, .rs .duty a0.duties, .rs .well a0.wells, .rs .order a1, .os 2, .os 3, .os 4], .mp .certifyPlace .int (outR (runI (certify_read_l1 a0 a1) a1.length 0 ([], (outR (runI (certify_read_l0 a0) a0.reaches.length 0 ([], []))).2, (outR (runI (certify_read_l0 a0) a0.reaches.length 0 ([], []))).1))).1 none, .grid .int s_3, .grid .int (outR (runI (certify_read_l1 a0 a1) a1.length 0 ([], (outR (runI (certify_read_l0 a0) a0.reaches.length 0 ([], []))).2, (outR (runI (certify_read_l0 a0) a0.reaches.length 0 ([], []))).1))).2.1]⟩)) else none), ?_, ?_⟩
      · simp only [loopsOk, true_and, and_true]
        · refine count_okR mixed ts_ok hG (by kernel_rfl) fun st lc hC hp => ?_
          simp only [go_sem, Nat.reduceBEq, Option.some.injEq] at hC
          subst hC
          obtain ⟨t, h⟩ := st
          dsimp only [LC] at hp
          obtain ⟨e3_0, e3_1, e3_2, e3_3, e3_4, e3_5, e3_6, e3_7, rfl, hb3, hok3⟩ := hp
          refine ⟨_, _, _, (certify_read_l3 a0 k_2), (certify_read_l3_p a0 k_2), (Int.toNat a0.hours), s_2, _, _, _, (fun k_3 s_3 => ⟨[(2, .ptr 0 0), (4, .ptr 1 0), (10, .gr 3 (k_2 : Int)), (119, .os 3), (120, .v (.int .i64 ((outR (runI (certify_read_l1 a0 a1) a1.length 0 ([], (outR (runI (certify_read_l0 a0) a0.reaches.length 0 ([], []))).2, (outR (runI (certify_read_l0 a0) a0.reaches.length 0 ([], []))).1))).2.2.length : Int))), (121, .v (.int .i64 (k_2 : Int))), (126, .v (.int .i64 a0.hours)), (127, .v (.int .i64 (k_3 : Int)))], [.cells [.v (.string a0.name), .v (.int .i64 a0.hours), .v (.int .i64 a0.tank.cap), .v (.int .i64 a0.tank.start), .rs .reach a0.reaches, .rs .farm a0.farms, .rs .crop a0.crops, .rs .right a0.rights, .rs .duty a0.duties, .rs .well a0.wells], .cells [.v (.string a0.name), .v (.int .i64 a0.hours), .v (.int .i64 a0.tank.cap), .v (.int .i64 a0.tank.start), .rs .reach a0.reaches, .rs .farm a0.farms, .rs .crop a0.crops, .rs .right a0.rights, .rs .duty a0.duties, .rs .well a0.wells, .rs .order a1, .os 2, .os 3, .os 4], .mp .certifyPlace .int (outR (runI (certify_read_l1 a0 a1) a1.length 0 ([], (outR (runI (certify_read_l0 a0) a0.reaches.length 0 ([], []))).2, (outR (runI (certify_read_l0 a0) a0.reaches.length 0 ([], []))).1))).1 none, .grid .int s_3, .grid .int (outR (runI (certify_read_l1 a0 a1) a1.length 0 ([], (outR (runI (certify_read_l0 a0) a0.reaches.length 0 ([], []))).2, (outR (runI (certify_read_l0 a0) a0.reaches.length 0 ([], []))).1))).2.1]⟩), ⟨t, [.cells [.v (.string a0.name), .v (.int .i64 a0.hours), .v (.int .i64 a0.tank.cap), .v (.int .i64 a0.tank.start), .rs .reach a0.reaches, .rs .farm a0.farms, .rs .crop a0.crops, .rs .right a0.rights, .rs .duty a0.duties, .rs .well a0.wells], .cells [.v (.string a0.name), .v (.int .i64 a0.hours), .v (.int .i64 a0.tank.cap), .v (.int .i64 a0.tank.start), .rs .reach a0.reaches, .rs .farm a0.farms, .rs .crop a0.crops, .rs .right a0.rights, .rs .duty a0.duties, .rs .well a0.wells, .rs .order a1, .os 2, .os 3, .os 4], .mp .certifyPlace .int (outR (runI (certify_read_l1 a0 a1) a1.length 0 ([], (outR (runI (certify_read_l0 a0) a0.reaches.length 0 ([], []))).2, (outR (runI (certify_read_l0 a0) a0.reaches.length 0 ([], []))).1))).1 none, .grid .int s_2, .grid .int (outR (runI (certify_read_l1 a0 a1) a1.length 0 ([], (outR (runI (certify_read_l0 a0) a0.reaches.length 0 ([], []))).2, (outR (runI (certify_read_l0 a0) a0.reaches.length 0 ([], []))).1))).2.1]⟩, [0, 1, 2, 3, 4], rfl, hok3, NilS.refl _, Nat.le_of_ble_eq_true rfl, ?_, fun k_3 s_3 hk3 hp3 => ?_⟩
          · simp only [go_sem, Nat.reduceBEq, Nat.reduceLeDiff, Nat.reduceAdd, Nat.reduceSub, Nat.reduceMul, Int.reduceLE, Int.reduceLT, Int.reduceToNat, Int.reduceNeg, reduceCtorEq, e3_0, e3_1, e3_2, e3_3, e3_4, e3_5, e3_6, e3_7]
            all_goals (first | done | decide | (repeat' (first | refine And.intro ?_ ?_ | rfl | decide)))
          refine ⟨(fun id st => none), ?_, ?_⟩
          · simp only [loopsOk, and_self, true_and, and_true]
          · by_cases hlt3 : k_3 < (Int.toNat a0.hours)
            · have hw3 := wrapT hlt3 hb3
              have hq3 := hp3 hlt3
              unfold certify_read_l3_p at hq3
              try simp only [hw3, Int.toNat_natCast] at hq3
              have hc3 : decide ((k_3 : Int) < a0.hours) = true := by simp only [decide_eq_true_eq]; omega
              simp only [go_sem, Nat.reduceBEq, Nat.reduceLeDiff, Nat.reduceAdd, Nat.reduceSub, Nat.reduceMul, Int.reduceLE, Int.reduceLT, Int.reduceToNat, Int.reduceNeg, reduceCtorEq, C_routing_Check, certify_read_l3, hc3, hw3]
              all_goals exact crSxR3_1
            · have hc3 : decide ((k_3 : Int) < a0.hours) = false := by simp only [decide_eq_false_iff_not]; omega
              simp only [go_sem, Nat.reduceBEq, Nat.reduceLeDiff, Nat.reduceAdd, Nat.reduceSub, Nat.reduceMul, Int.reduceLE, Int.reduceLT, Int.reduceToNat, Int.reduceNeg, reduceCtorEq, C_routing_Check, hc3]
              all_goals exact crSxR3_1
      · by_cases hlt2 : k_2 < ((outR (runI (certify_read_l1 a0 a1) a1.length 0 ([], (outR (runI (certify_read_l0 a0) a0.reaches.length 0 ([], []))).2, (outR (runI (certify_read_l0 a0) a0.reaches.length 0 ([], []))).1))).2.2.length)
        · have hw2 := wrapS hlt2 hb2
          have hq2 := hp2 hlt2
          unfold certify_read_l2_p at hq2
          try simp only [hw2, Int.toNat_natCast] at hq2
          have hc2 : decide ((k_2 : Int) < ((outR (runI (certify_read_l1 a0 a1) a1.length 0 ([], (outR (runI (certify_read_l0 a0) a0.reaches.length 0 ([], []))).2, (outR (runI (certify_read_l0 a0) a0.reaches.length 0 ([], []))).1))).2.2.length : Int)) = true := by simp only [decide_eq_true_eq]; omega
          simp only [go_sem, Nat.reduceBEq, Nat.reduceLeDiff, Nat.reduceAdd, Nat.reduceSub, Nat.reduceMul, Int.reduceLE, Int.reduceLT, Int.reduceToNat, Int.reduceNeg, reduceCtorEq, C_routing_Check, certify_read_l2, hc2, hw2]
          all_goals exact crSxR3_1
        · have hc2 : decide ((k_2 : Int) < ((outR (runI (certify_read_l1 a0 a1) a1.length 0 ([], (outR (runI (certify_read_l0 a0) a0.reaches.length 0 ([], []))).2, (outR (runI (certify_read_l0 a0) a0.reaches.length 0 ([], []))).1))).2.2.length : Int)) = false := by simp only [decide_eq_false_iff_not]; omega
          simp only [go_sem, Nat.reduceBEq, Nat.reduceLeDiff, Nat.reduceAdd, Nat.reduceSub, Nat.reduceMul, Int.reduceLE, Int.reduceLT, Int.reduceToNat, Int.reduceNeg, reduceCtorEq, C_routing_Check, hc2]
          all_goals exact crSxR3_1
  · unfold bodyOf Try.f21
    try unfold certify_read
    simp only [go_sem, Nat.reduceBEq, Nat.reduceLeDiff, Nat.reduceAdd, Nat.reduceSub, Nat.reduceMul, Int.reduceLE, Int.reduceLT, Int.reduceToNat, Int.reduceNeg, reduceCtorEq, C_routing_Check]
    all_goals exact cl
end Go.Sx
end
section
namespace Go.Sx
open Go.RowKit
def okL {ρ σ τ : Type} (step : τ → σ → ρ ⊕ σ) (p : τ → σ → Prop) : List τ → σ → Prop
  | [], _ => True
  | x :: l, s => p x s ∧ ∀ s', step x s = .inr s' → okL step p l s'
theorem okL_all {ρ σ τ : Type} {step : τ → σ → ρ ⊕ σ} {p : τ → σ → Prop} : ∀ (l : List τ) (s : σ), (∀ x ∈ l, ∀ s, p x s) → okL step p l s
  | [], _, _ => trivial
  | x :: l, s, h => ⟨h x (by simp) s, fun s' _ => okL_all l s' fun y hy => h y (by simp [hy])⟩
section
variable {ρ σ τ : Type}
def rgN (T : List (Nat × SV)) (H : σ → List Ob) (n0 : Nat) (st : St) : ρ ⊕ σ → Prop
  | .inl _ => False
  | .inr s' => fitE ⟨T, H s'⟩ n0 ⟨T, st.h⟩
def rgX (exE : ρ → Ex) (T : List (Nat × SV)) (Hy : ρ → List Ob) (n0 : Nat) (e : Ex) (st : St) : ρ ⊕ σ → Prop
  | .inl y => exE y = e ∧ fitE ⟨T, Hy y⟩ n0 ⟨T, st.h⟩
  | .inr _ => False
def rgQ (step : τ → σ → ρ ⊕ σ) (exE : ρ → Ex) (T : List (Nat × SV)) (H : σ → List Ob) (Hy : ρ → List Ob) (n0 id : Nat) (x : τ) (s : σ) : Ex → St → Prop
  | .normal, st => rgN T H n0 st (step x s)
  | .exit j, st => rgX exE T Hy n0 (bif Nat.beq j id then .normal else .exit j) st (step x s)
  | .ret, st => rgX exE T Hy n0 .ret st (step x s)
  | .pan _, _ => False
variable {step : τ → σ → ρ ⊕ σ} {exE : ρ → Ex} {T : List (Nat × SV)} {H : σ → List Ob} {Hy : ρ → List Ob} {n0 id j : Nat} {x : τ} {s s' : σ} {y : ρ} {st : St} {e : Ex}
@[go_sem] theorem rgN_inr : rgN (ρ := ρ) T H n0 st (.inr s') = fitE ⟨T, H s'⟩ n0 ⟨T, st.h⟩ := (rfl)
@[go_sem] theorem rgX_inl : rgX (σ := σ) exE T Hy n0 e st (.inl y) = (exE y = e ∧ fitE ⟨T, Hy y⟩ n0 ⟨T, st.h⟩) := (rfl)
@[go_sem] theorem rgQ_normal : rgQ step exE T H Hy n0 id x s .normal st = rgN T H n0 st (step x s) := (rfl)
@[go_sem] theorem rgQ_ret : rgQ step exE T H Hy n0 id x s .ret st = rgX exE T Hy n0 .ret st (step x s) := (rfl)
@[go_sem] theorem rgQ_exit : rgQ step exE T H Hy n0 id x s (.exit j) st = rgX exE T Hy n0 (bif Nat.beq j id then .normal else .exit j) st (step x s) := (rfl)
@[congr] theorem rgN_congr {r r' : ρ ⊕ σ} (h : r = r') : rgN T H n0 st r = rgN T H n0 st r' := by rw [h]
end
section
variable {P : Program} {ts : Tis} {G : Cons} {N : Nat}
theorem rangeL_ok (hm : P.follows .mixedOrders = true) (hts : ts.ok P) (hG : ConsOk P G) {id : Nat} {g : Operand} {ps : Array Tmp} {assign body : Code} {C : St → Option LCon}
    (hpn : ps.toList.Nodup) (hpN : ∀ p ∈ ps.toList, p < N) (hca : okCode N assign = true) (hcb : okCode N body = true)
    (h : ∀ st lc, C st = some lc → lc.pre → ∃ (f : FuncId) (caps : List SV) (τ ρ σ : Type) (l : List τ) (mk : τ → List SV) (step : τ → σ → ρ ⊕ σ) (p : τ → σ → Prop) (pre : Prop) (s0 : σ) (exE : ρ → Ex) (outE : ρ → St) (outN : σ → St) (T : List (Nat × SV)) (H : σ → List Ob) (Hy : ρ → List Ob) (js : List Nat),
      raw st.t g = .fn f [] caps ∧ lc = LC pre (runL step l s0) exE outE outN ∧ okL step p l s0 ∧ st.h.length ≤ (H s0).length ∧ Sub js st.h.length ⟨st.t, killL (capIds st caps) st.h⟩ ⟨T, H s0⟩ ∧
      ItOk P f (fun y => y :: caps.map (ren (givN (capIds st caps)) 3)) (givH (capIds st caps) st.h) (l.map mk) ∧
      (∀ x s, p x s → (mk x).length = ps.size ∧ ∃ L, (∀ l, loopsOk P (some l) N L assign) ∧ (∀ l, loopsOk P (some l) N L body) ∧ exec ts G L assign ⟨psT ps.toList (mk x) ++ T, H s⟩ (fun e st1 => e = .normal ∧ exec ts G L body st1 (rgQ step exE T H Hy st.h.length id x s))) ∧
      (∀ s, fitE (outN s) st.h.length ⟨T, H s⟩) ∧ ∀ y, fitE (outE y) st.h.length ⟨T, Hy y⟩) : LoopOk P none N id (.rangeFunc g ps assign body) C := by
  refine range_ok hm hts hG hpn hpN hca hcb fun st lc hC hp => ?_
  obtain ⟨f, caps, τ, ρ, σ, l, mk, step, p, pre, s0, exE, outE, outN, T, H, Hy, js, h1, rfl, h2, h3, h4, h5, h6, h7, h8⟩ := h st lc hC hp
  refine ⟨f, caps, l.map mk, σ ⊕ ρ, T, fun z => match z with | .inl s => H s | .inr y => Hy y, fun k z => match z with | .inl s => runL step (l.drop k) s = runL step l s0 ∧ okL step p (l.drop k) s | .inr _ => False,
    fun e z => match z with | .inl _ => False | .inr y => runL step l s0 = .inl y ∧ (match e with | .ret => exE y = .ret | .exit j => exE y = (bif Nat.beq j id then .normal else .exit j) | _ => False), .inl s0, js, h1, ⟨rfl, h2⟩, h3, h4, h5, ?_, ?_, ?_, ?_⟩
  · rintro k z args hk hI
    cases z with
    | inr y => exact hI.elim
    | inl s =>
      obtain ⟨hrun, hok⟩ := hI
      rw [List.getElem?_map, Option.map_eq_some_iff] at hk
      obtain ⟨x, hx, rfl⟩ := hk
      have hlt := (List.getElem?_eq_some_iff.1 hx).1
      have hd : l.drop k = x :: l.drop (k + 1) := by
        rw [List.drop_eq_getElem_cons hlt]; congr 1; exact (List.getElem?_eq_some_iff.1 hx).2
      rw [hd] at hrun hok
      obtain ⟨hl, L, hla, hlb, hex⟩ := h6 x s hok.1
      refine ⟨hl, L, _, hla, hlb, ?_, hex⟩
      intro e st' hq
      have fin : ∀ e', rgX exE T Hy st.h.length e' st' (step x s) → ∃ y js, exE y = e' ∧ runL step l s0 = .inl y ∧ st.h.length ≤ (Hy y).length ∧ Sub js st.h.length ⟨T, st'.h⟩ ⟨T, Hy y⟩ := by
        intro e' q
        cases hs : step x s with
        | inr s' => rw [hs] at q; exact q.elim
        | inl y =>
          rw [hs] at q
          obtain ⟨q1, js, q2, q3⟩ := q
          simp only [runL, hs] at hrun
          exact ⟨y, js, q1, hrun.symm, q2, q3⟩
      cases e with
      | normal =>
        change rgN T H st.h.length st' (step x s) at hq
        cases hs : step x s with
        | inl y => rw [hs] at hq; exact hq.elim
        | inr s' =>
          rw [hs] at hq
          obtain ⟨js, q1, q2⟩ := hq
          simp only [runL, hs] at hrun
          exact ⟨.inl s', js, ⟨hrun, hok.2 s' hs⟩, q1, q2⟩
      | exit j =>
        obtain ⟨y, js, q1, q2, q3, q4⟩ := fin _ hq
        exact ⟨.inr y, js, ⟨q2, q1⟩, q3, q4⟩
      | ret =>
        obtain ⟨y, js, q1, q2, q3, q4⟩ := fin _ hq
        exact ⟨.inr y, js, ⟨q2, q1⟩, q3, q4⟩
      | pan x => exact hq.elim
  · intro z hI
    cases z with
    | inr y => exact hI.elim
    | inl s =>
      obtain ⟨js, q1, q2⟩ := h7 s
      have := hI.1
      rw [List.length_map, List.drop_length] at this
      exact ⟨.inr s, js, this, rfl, q1, q2⟩
  · intro z hS
    cases z with
    | inl s => exact hS.elim
    | inr y =>
      obtain ⟨js, q1, q2⟩ := h8 y
      exact ⟨.inl y, js, hS.1.symm, hS.2, q1, q2⟩
  · intro j z hS
    cases z with
    | inl s => exact hS.elim
    | inr y =>
      obtain ⟨js, q1, q2⟩ := h8 y
      refine ⟨.inl y, js, hS.1.symm, ?_, q1, q2⟩
      have := hS.2
      show exE y = _
      rw [this]
      by_cases hj : j = id
      · rw [if_pos hj]
        have hb : Nat.beq j id = true := by rw [hj]; exact Nat.beq_refl id
        rw [hb]; rfl
      · rw [if_neg hj]
        cases hb : Nat.beq j id with
        | true => exact absurd (Nat.eq_of_beq_eq_true hb) hj
        | false => rfl
end
end Go.Sx
end
section
namespace Go.Sx
open Go.Proofs
set_option maxRecDepth 100000
set_option linter.unusedSimpArgs false
def certify_cells (t : CertifyTable) : List (Int × Int) := (List.range t.d.hours.toNat).flatMap fun (h : Nat) => (List.range t.d.reaches.length).map fun (r : Nat) => ((h : Int), (r : Int))
def cellI (x : Int × Int) : List SV := [.i x.1, .i x.2]
theorem grid_len (R : Nat) (f : Nat → Nat → List SV) : ∀ (H : Nat), ((List.range H).flatMap fun h => (List.range R).map fun r => f h r).length = H * R
  | 0 => by simp
  | H + 1 => by
    rw [List.range_succ, List.flatMap_append, List.length_append, grid_len R f H]
    simp [Nat.succ_mul]
theorem grid_get (R : Nat) (f : Nat → Nat → List SV) : ∀ (H h r : Nat), h < H → r < R → ((List.range H).flatMap fun h => (List.range R).map fun r => f h r)[h * R + r]? = some (f h r)
  | 0, _, _, h1, _ => by omega
  | H + 1, h, r, h1, h2 => by
    rw [List.range_succ, List.flatMap_append]
    by_cases hh : h < H
    · rw [List.getElem?_append_left]
      · exact grid_get R f H h r hh h2
      · rw [grid_len]
        calc h * R + r < h * R + R := by omega
          _ = (h + 1) * R := by rw [Nat.succ_mul]
          _ ≤ H * R := Nat.mul_le_mul_right R hh
    · have : h = H := by omega
      subst this
      rw [List.getElem?_append_right (by rw [grid_len]; omega), grid_len]
      simp [h2]
theorem cellItems_eq (t : CertifyTable) : (certify_cells t).map cellI = (List.range t.d.hours.toNat).flatMap fun (h : Nat) => (List.range t.d.reaches.length).map fun (r : Nat) => [SV.i (h : Int), SV.i (r : Int)] := by
  unfold certify_cells
  rw [List.map_flatMap]
  congr 1
  funext h
  rw [List.map_map]
  rfl
open Classical in
set_option maxHeartbeats 2000000 in
theorem ok_cells_it (tb : CertifyTable) (hH : tb.d.hours < 9223372036854775808) : ItOk Try.prog 69 (fun y => [y, .ep (cellsOf .certifyTable tb) 0]) [] ((certify_cells tb).map cellI) := by
  rw [cellItems_eq]
  generalize hIt : ((List.range tb.d.hours.toNat).flatMap fun (h : Nat) => (List.range tb.d.reaches.length).map fun (r : Nat) => [SV.i (h : Int), SV.i (r : Int)]) = items
  have hlen : items.length = tb.d.hours.toNat * tb.d.reaches.length := by rw [← hIt]; exact grid_len _ (fun h r => [SV.i (h : Int), SV.i (r : Int)]) _
  have hget : ∀ h r, h < tb.d.hours.toNat → r < tb.d.reaches.length → items[h * tb.d.reaches.length + r]? = some [.i (h : Int), .i (r : Int)] := fun h r h1 h2 => by rw [← hIt]; exact grid_get _ (fun h r => [SV.i (h : Int), SV.i (r : Int)]) _ h r h1 h2
  clear hIt
  generalize hRe : tb.d.reaches.length = R at hlen hget
  refine it_ok (fun r hr hy => ?_) (fun args w => by kernel_rfl)
  have hG : ConsOk Try.prog (mkGY [] [] (itY items r)) := mkGY_ok (by simp) (by simp) hy
  refine ⟨fun l h => if l = [.os 0, .ep (cellsOf .certifyTable tb) 0] ∧ h = [.ab (r 1)] then some { α := Nat, pre := True, post := fun j => j = 0 ∨ j = items.length + 1, res := fun j => .ret (.tup []) [.ab (r j)] } else none,
    ?_, _, if_pos ⟨rfl, rfl⟩, trivial, fun j hj => ⟨_, j, _, rfl, hj⟩⟩
  refine fn_ok_oE mixed ts_ok hG (fn := Try.f69) (c := bodyOf Try.f69) (by kernel_rfl) (by kernel_rfl) (by kernel_rfl) (by kernel_rfl) fun l o con h hp => ?_
  split at h
  rotate_left
  · cases h
  rename_i hlo
  obtain ⟨rfl, rfl⟩ := hlo
  cases h
  have hcl : cellsOf .certifyTable tb = cellsOf .certifyTable tb := rfl
  refine ⟨Nat.le_of_ble_eq_true rfl, fun id st => bif Nat.beq id 0 then some { α := Bool, pre := lk 0 st.t = .os 0 ∧ lk 1 st.t = .ep (cellsOf .certifyTable tb) 0 ∧ lk 7 st.t = .i tb.d.hours ∧ lk 8 st.t = .i 0 ∧ st.h = [.ab (r 1)], post := fun _ => True, ex := fun b => bif b then .normal else .ret, out := fun b => ⟨[], [.ab (r (bif b then items.length + 1 else 0))]⟩ : LCon } else none, ?_, ?_⟩
  · unfold bodyOf Try.f69
    simp only [loopsOk, true_and, and_true]
    refine loop_okE mixed ts_ok hG (by kernel_rfl) fun st lc hC hp => ?_
    simp only [go_sem, Nat.reduceBEq, Option.some.injEq] at hC
    subst hC
    obtain ⟨t, h⟩ := st
    dsimp only at hp
    obtain ⟨h0, h1, h7, h8, rfl⟩ := hp
    refine ⟨Nat, fun k => ⟨[(0, .os 0), (1, .ep (cellsOf .certifyTable tb) 0), (7, .i tb.d.hours), (8, .i (k : Int))], [.ab (r (k * R + 1))]⟩, fun k => k ≤ tb.d.hours.toNat, fun k => tb.d.hours.toNat - k, 0, [0], Nat.zero_le _, Nat.le_refl _, ?_, ?_⟩
    · simp only [go_sem, h0, h1, h7, h8, Nat.zero_mul, Nat.zero_add, Nat.reduceBEq, Nat.reduceLeDiff, Nat.reduceAdd, true_and, and_true]
      all_goals (first | done | (repeat' (first | refine And.intro ?_ ?_ | rfl | decide)))
    · intro k hk
      refine ⟨fun id st => bif Nat.beq id 2 then some { α := Bool, pre := lk 0 st.t = .os 0 ∧ lk 1 st.t = .ep (cellsOf .certifyTable tb) 0 ∧ lk 3 st.t = .i (k : Int) ∧ lk 7 st.t = .i tb.d.hours ∧ lk 8 st.t = .i (k : Int) ∧ lk 14 st.t = .i (R : Int) ∧ lk 15 st.t = .i 0 ∧ st.h = [.ab (r (k * R + 1))] ∧ k < tb.d.hours.toNat ∧ R ≤ maxL, post := fun _ => True, ex := fun b => bif b then .normal else .ret, out := fun b => ⟨[(0, .os 0), (1, .ep (cellsOf .certifyTable tb) 0), (7, .i tb.d.hours), (8, .i (k : Int))], [.ab (r (bif b then k * R + R + 1 else 0))]⟩ : LCon } else none, _, ?_, fun _ _ q => q, ?_⟩
      · simp only [loopsOk, true_and, and_true]
        refine loop_okE mixed ts_ok hG (by kernel_rfl) fun st lc hC hp => ?_
        simp only [go_sem, Nat.reduceBEq, Option.some.injEq] at hC
        subst hC
        obtain ⟨t, h⟩ := st
        dsimp only at hp
        obtain ⟨i0, i1, i3, i7, i8, i14, i15, rfl, hkH, hRL⟩ := hp
        refine ⟨Nat, fun j => ⟨[(0, .os 0), (1, .ep (cellsOf .certifyTable tb) 0), (3, .i (k : Int)), (7, .i tb.d.hours), (8, .i (k : Int)), (14, .i (R : Int)), (15, .i (j : Int))], [.ab (r (k * R + j + 1))]⟩, fun j => j ≤ R, fun j => R - j, 0, [0], Nat.zero_le _, Nat.le_refl _, ?_, ?_⟩
        · simp only [go_sem, i0, i1, i3, i7, i8, i14, i15, Nat.add_zero, Nat.reduceBEq, Nat.reduceLeDiff, Nat.reduceAdd, true_and, and_true]
          all_goals (first | done | (repeat' (first | refine And.intro ?_ ?_ | rfl | decide)))
        · intro j hj
          refine ⟨L0, _, by simp only [loopsOk, and_self, true_and, and_true], fun _ _ q => q, ?_⟩
          simp only [go_sem, itY_at hr, true_imp_iff, Bool.false_eq_true, false_imp_iff, Nat.reduceBEq, Nat.reduceLeDiff, Nat.reduceAdd, Nat.reduceSub, Nat.reduceMul, true_and, and_true, implies_true, reduceCtorEq]
          refine ⟨fun hlt => ?_, fun hge => ?_⟩
          · have hlt' : j < R := by have := of_decide_eq_true hlt; omega
            have hw : IntKind.i64.wrap ((j : Int) + 1) = ((j + 1 : Nat) : Int) := wrapS hlt' hRL
            refine ⟨hget k j hkH hlt', ⟨j + 1, [0], ?_⟩, ⟨false, [0], ?_⟩⟩
            all_goals simp only [go_sem, hw, Nat.reduceBEq, Nat.reduceLeDiff, Nat.reduceAdd, true_and, and_true]
            all_goals (first | done | decide | (repeat' (first | refine And.intro ?_ ?_ | rfl | omega | decide)))
          · have hge' : j = R := by have := of_decide_eq_false hge; omega
            subst hge'
            refine ⟨true, [0], ?_⟩
            all_goals simp only [go_sem, Nat.reduceBEq, Nat.reduceLeDiff, Nat.reduceAdd, true_and, and_true]
            all_goals (first | done | decide | (repeat' (first | refine And.intro ?_ ?_ | rfl | omega | decide)))
      · simp only [go_sem, hRe, true_imp_iff, Bool.false_eq_true, false_imp_iff, Nat.reduceBEq, Nat.reduceLeDiff, Nat.reduceAdd, Nat.reduceSub, Nat.reduceMul, true_and, and_true, implies_true, reduceCtorEq]
        refine ⟨fun hlt hRL => ?_, fun hge => ?_⟩
        · have hlt' : k < tb.d.hours.toNat := by have := of_decide_eq_true hlt; omega
          have hw : IntKind.i64.wrap ((k : Int) + 1) = ((k + 1 : Nat) : Int) := wrapT hlt' hH
          refine ⟨⟨hlt', hRL⟩, fun b => ?_⟩
          cases b with
          | true =>
            simp only [go_sem, hw, Nat.reduceBEq, Nat.reduceLeDiff, Nat.reduceAdd, true_and, and_true]
            have e : (k + 1) * R + 1 = k * R + R + 1 := by rw [Nat.succ_mul]
            refine ⟨k + 1, [0], ?_⟩
            all_goals simp only [go_sem, e, Nat.reduceBEq, Nat.reduceLeDiff, Nat.reduceAdd, true_and, and_true]
            all_goals (first | done | decide | (repeat' (first | refine And.intro ?_ ?_ | rfl | omega | decide)))
          | false =>
            simp only [go_sem, Nat.reduceBEq, Nat.reduceLeDiff, Nat.reduceAdd, true_and, and_true]
            refine ⟨false, [0], ?_⟩
            all_goals simp only [go_sem, Nat.reduceBEq, Nat.reduceLeDiff, Nat.reduceAdd, true_and, and_true]
            all_goals (first | done | decide | (repeat' (first | refine And.intro ?_ ?_ | rfl | omega | decide)))
        · have hge' : k = tb.d.hours.toNat := by have := of_decide_eq_false hge; omega
          have e : items.length + 1 = k * R + 1 := by rw [hlen, hge']
          refine ⟨true, [0], ?_⟩
          all_goals simp only [go_sem, e, Nat.reduceBEq, Nat.reduceLeDiff, Nat.reduceAdd, true_and, and_true]
          all_goals (first | done | decide | (repeat' (first | refine And.intro ?_ ?_ | rfl | omega | decide)))
  · unfold bodyOf Try.f69
    simp only [go_sem, true_imp_iff, Bool.false_eq_true, false_imp_iff, Nat.reduceBEq, Nat.reduceLeDiff, Nat.reduceAdd, Nat.reduceSub, Nat.reduceMul, true_and, and_true, implies_true, reduceCtorEq]
    intro b
    cases b with
    | true =>
      simp only [go_sem]
      exact ⟨items.length + 1, _, _, [0], .inr rfl, rfl, Nat.le_refl 1, by simp only [go_sem, Nat.reduceBEq, Nat.reduceLeDiff, Nat.reduceAdd, true_and, and_true]; first | done | decide⟩
    | false =>
      simp only [go_sem]
      exact ⟨0, _, _, [0], .inl rfl, rfl, Nat.le_refl 1, by simp only [go_sem, Nat.reduceBEq, Nat.reduceLeDiff, Nat.reduceAdd, true_and, and_true]; first | done | decide⟩
end Go.Sx
end
section
namespace Go.Sx
open Go.Proofs
set_option maxRecDepth 100000
set_option linter.unusedSimpArgs false
def C_certify_table_cells : List SV → Option Con := pD .certifyTable fun t => pE (.det True (.fn 69 [] [.ep (cellsOf .certifyTable t) 0]))
def C_certify_table_gates : List SV → Option Con := pD .certifyTable fun t => pI fun k => pE (.det True (.fn 48 [] [.ep (cellsOf .certifyTable t) 0, .ep [.i k] 0]))
def C_certify_table_unmet : List SV → Option Con := pD .certifyTable fun t => pR .claim fun c => pE (.det True (.fn 50 [] [.ep [.rs .claim c] 0, .ep (cellsOf .certifyTable t) 0]))
theorem nrmR_fn {p : Pk} {f : FuncId} {a b : List SV} : nrmR [p] (.fn f a b) = nrmP p (.fn f a b) := (rfl)
theorem nrmP_fn {f : FuncId} {a b : List SV} : nrmP .o (.fn f a b) = .fn f a b := (rfl)
theorem ok_certify_table_cells : FnOk Try.prog 49 C_certify_table_cells := by
  have hG : ConsOk Try.prog (mkG [] []) := mkG_ok (by simp) (by simp)
  refine fn_okN [.o] mixed ts_ok hG (fn := Try.f49) (c := bodyOf Try.f49) (by kernel_rfl) (by kernel_rfl) (by kernel_rfl) (by kernel_rfl) fun l con h hp => ?_
  unfold C_certify_table_cells at h
  obtain ⟨t, l0, rfl, h0⟩ := pD_inv h
  obtain ⟨rfl, rfl⟩ := pE_inv h0
  refine ⟨Nat.le_of_ble_eq_true rfl, L0, by unfold bodyOf Try.f49; simp only [loopsOk, and_self], ?_⟩
  unfold bodyOf Try.f49
  simp only [go_sem, nrmR_fn, nrmP_fn, true_imp_iff, Nat.reduceBEq, Nat.reduceLeDiff, Nat.reduceAdd, Nat.reduceSub, Nat.reduceMul, true_and, and_true, implies_true, List.map_cons, List.map_nil]
theorem ok_certify_table_gates : FnOk Try.prog 28 C_certify_table_gates := by
  have hG : ConsOk Try.prog (mkG [] []) := mkG_ok (by simp) (by simp)
  refine fn_okN [.o] mixed ts_ok hG (fn := Try.f28) (c := bodyOf Try.f28) (by kernel_rfl) (by kernel_rfl) (by kernel_rfl) (by kernel_rfl) fun l con h hp => ?_
  unfold C_certify_table_gates at h
  obtain ⟨t, l0, rfl, h0⟩ := pD_inv h
  obtain ⟨k, l1, rfl, h1⟩ := pI_inv h0
  obtain ⟨rfl, rfl⟩ := pE_inv h1
  refine ⟨Nat.le_of_ble_eq_true rfl, L0, by unfold bodyOf Try.f28; simp only [loopsOk, and_self], ?_⟩
  unfold bodyOf Try.f28
  simp only [go_sem, nrmR_fn, nrmP_fn, true_imp_iff, Nat.reduceBEq, Nat.reduceLeDiff, Nat.reduceAdd, Nat.reduceSub, Nat.reduceMul, true_and, and_true, implies_true, List.map_cons, List.map_nil]
theorem ok_certify_table_unmet : FnOk Try.prog 32 C_certify_table_unmet := by
  have hG : ConsOk Try.prog (mkG [] []) := mkG_ok (by simp) (by simp)
  refine fn_okN [.o] mixed ts_ok hG (fn := Try.f32) (c := bodyOf Try.f32) (by kernel_rfl) (by kernel_rfl) (by kernel_rfl) (by kernel_rfl) fun l con h hp => ?_
  unfold C_certify_table_unmet at h
  obtain ⟨t, l0, rfl, h0⟩ := pD_inv h
  obtain ⟨k, l1, rfl, h1⟩ := pR_inv h0
  obtain ⟨rfl, rfl⟩ := pE_inv h1
  refine ⟨Nat.le_of_ble_eq_true rfl, L0, by unfold bodyOf Try.f32; simp only [loopsOk, and_self], ?_⟩
  unfold bodyOf Try.f32
  simp only [go_sem, nrmR_fn, nrmP_fn, true_imp_iff, Nat.reduceBEq, Nat.reduceLeDiff, Nat.reduceAdd, Nat.reduceSub, Nat.reduceMul, true_and, and_true, implies_true, List.map_cons, List.map_nil]
end Go.Sx
end
section
namespace Go.Sx
open Go.Proofs
set_option maxRecDepth 100000
set_option linter.unusedSimpArgs false
theorem crSxR6_0 {p : Prop} (h : p := by (first | done | (repeat' (first | with_reducible refine And.intro ?_ ?_ | ((with_reducible show _ ≠ _); first | assumption | omega | (simp_all [outR, outL]; done) | grind) | with_reducible intro _)) <;> (first | done | exact Empty.elim ‹Empty› | assumption | rfl | omega | decide | exact fk [0, 1, 4] | (simp only [*, cond_true, cond_false, Bool.not_true, Bool.not_false, go_sem, Nat.reduceBEq, Nat.reduceLeDiff, Nat.reduceAdd, Nat.reduceSub, Nat.reduceMul, Int.reduceLE, Int.reduceLT, Int.reduceToNat, Int.reduceNeg, reduceCtorEq]; done) | (simp only [*, cond_true, cond_false, Bool.not_true, Bool.not_false, go_sem, Nat.reduceBEq, Nat.reduceLeDiff, Nat.reduceAdd, Nat.reduceSub, Nat.reduceMul, Int.reduceLE, Int.reduceLT, Int.reduceToNat, Int.reduceNeg, reduceCtorEq]; (repeat' (first | with_reducible refine And.intro ?_ ?_ | ((with_reducible show _ ≠ _); first | assumption | omega | (simp_all [outR, outL]; done) | grind) | with_reducible intro _)) <;> (first | done | assumption | rfl | omega | decide | exact fk [0, 1, 4] | (simp_all [outR, outL]; done))) | (simp_all [okI, outR, outL]; done) | (simp_all [outR, outL]; (first | done | exact fk2 [0, 1, 4])) | exact fk2 [0, 1, 4]))) : p := h
theorem crSxR6_1 {p : Prop} (h : p := by (first | done | (repeat' (first | with_reducible refine And.intro ?_ ?_ | ((with_reducible show _ ≠ _); first | assumption | omega | (simp_all [outR, outL]; done) | grind) | with_reducible intro _)) <;> (first | done | exact Empty.elim ‹Empty› | assumption | rfl | omega | decide | exact fk [0, 1, 2, 3] | exact fk [0, 1, 2, 4] | (simp only [*, cond_true, cond_false, Bool.not_true, Bool.not_false, go_sem, Nat.reduceBEq, Nat.reduceLeDiff, Nat.reduceAdd, Nat.reduceSub, Nat.reduceMul, Int.reduceLE, Int.reduceLT, Int.reduceToNat, Int.reduceNeg, reduceCtorEq]; done) | (simp only [*, cond_true, cond_false, Bool.not_true, Bool.not_false, go_sem, Nat.reduceBEq, Nat.reduceLeDiff, Nat.reduceAdd, Nat.reduceSub, Nat.reduceMul, Int.reduceLE, Int.reduceLT, Int.reduceToNat, Int.reduceNeg, reduceCtorEq]; (repeat' (first | with_reducible refine And.intro ?_ ?_ | ((with_reducible show _ ≠ _); first | assumption | omega | (simp_all [outR, outL]; done) | grind) | with_reducible intro _)) <;> (first | done | assumption | rfl | omega | decide | exact fk [0, 1, 2, 3] | exact fk [0, 1, 2, 4] | (simp_all [outR, outL]; done))) | (simp_all [okI, outR, outL]; done) | (simp_all [outR, outL]; (first | done | exact fk2 [0, 1, 2, 3] | exact fk2 [0, 1, 2, 4])) | exact fk2 [0, 1, 2, 3] | exact fk2 [0, 1, 2, 4]))) : p := h
theorem crSxR6_2 {p : Prop} (h : p := by (first | done | (repeat' (first | with_reducible refine And.intro ?_ ?_ | ((with_reducible show _ ≠ _); first | assumption | omega | (simp_all [outR, outL]; done) | grind) | with_reducible intro _)) <;> (first | done | exact Empty.elim ‹Empty› | assumption | rfl | omega | decide | exact fk [0, 1, 3] | (simp only [*, cond_true, cond_false, Bool.not_true, Bool.not_false, go_sem, Nat.reduceBEq, Nat.reduceLeDiff, Nat.reduceAdd, Nat.reduceSub, Nat.reduceMul, Int.reduceLE, Int.reduceLT, Int.reduceToNat, Int.reduceNeg, reduceCtorEq]; done) | (simp only [*, cond_true, cond_false, Bool.not_true, Bool.not_false, go_sem, Nat.reduceBEq, Nat.reduceLeDiff, Nat.reduceAdd, Nat.reduceSub, Nat.reduceMul, Int.reduceLE, Int.reduceLT, Int.reduceToNat, Int.reduceNeg, reduceCtorEq]; (repeat' (first | with_reducible refine And.intro ?_ ?_ | ((with_reducible show _ ≠ _); first | assumption | omega | (simp_all [outR, outL]; done) | grind) | with_reducible intro _)) <;> (first | done | assumption | rfl | omega | decide | exact fk [0, 1, 3] | (simp_all [outR, outL]; done))) | (simp_all [okI, outR, outL]; done) | (simp_all [outR, outL]; (first | done | exact fk2 [0, 1, 3])) | exact fk2 [0, 1, 3]))) : p := h
theorem crSxR6_3 {p : Prop} (h : p := by (first | done | (repeat' (first | with_reducible refine And.intro ?_ ?_ | ((with_reducible show _ ≠ _); first | assumption | omega | (simp_all [outR, outL]; done) | grind) | with_reducible intro _)) <;> (first | done | exact Empty.elim ‹Empty› | assumption | rfl | omega | decide | exact fk [0, 1, 2] | exact fk [0, 1, 5] | (simp only [*, cond_true, cond_false, Bool.not_true, Bool.not_false, go_sem, Nat.reduceBEq, Nat.reduceLeDiff, Nat.reduceAdd, Nat.reduceSub, Nat.reduceMul, Int.reduceLE, Int.reduceLT, Int.reduceToNat, Int.reduceNeg, reduceCtorEq]; done) | (simp only [*, cond_true, cond_false, Bool.not_true, Bool.not_false, go_sem, Nat.reduceBEq, Nat.reduceLeDiff, Nat.reduceAdd, Nat.reduceSub, Nat.reduceMul, Int.reduceLE, Int.reduceLT, Int.reduceToNat, Int.reduceNeg, reduceCtorEq]; (repeat' (first | with_reducible refine And.intro ?_ ?_ | ((with_reducible show _ ≠ _); first | assumption | omega | (simp_all [outR, outL]; done) | grind) | with_reducible intro _)) <;> (first | done | assumption | rfl | omega | decide | exact fk [0, 1, 2] | exact fk [0, 1, 5] | (simp_all [outR, outL]; done))) | (simp_all [okI, outR, outL]; done) | (simp_all [outR, outL]; (first | done | exact fk2 [0, 1, 2] | exact fk2 [0, 1, 5])) | exact fk2 [0, 1, 2] | exact fk2 [0, 1, 5]))) : p := h
theorem crSxR6_4 {p : Prop} (h : p := by (first | done | (repeat' (first | with_reducible refine And.intro ?_ ?_ | ((with_reducible show _ ≠ _); first | assumption | omega | (simp_all [outR, outL]; done) | grind) | with_reducible intro _)) <;> (first | done | exact Empty.elim ‹Empty› | assumption | rfl | omega | decide | exact fk [0, 1, 2] | (simp only [*, cond_true, cond_false, Bool.not_true, Bool.not_false, go_sem, Nat.reduceBEq, Nat.reduceLeDiff, Nat.reduceAdd, Nat.reduceSub, Nat.reduceMul, Int.reduceLE, Int.reduceLT, Int.reduceToNat, Int.reduceNeg, reduceCtorEq]; done) | (simp only [*, cond_true, cond_false, Bool.not_true, Bool.not_false, go_sem, Nat.reduceBEq, Nat.reduceLeDiff, Nat.reduceAdd, Nat.reduceSub, Nat.reduceMul, Int.reduceLE, Int.reduceLT, Int.reduceToNat, Int.reduceNeg, reduceCtorEq]; (repeat' (first | with_reducible refine And.intro ?_ ?_ | ((with_reducible show _ ≠ _); first | assumption | omega | (simp_all [outR, outL]; done) | grind) | with_reducible intro _)) <;> (first | done | assumption | rfl | omega | decide | exact fk [0, 1, 2] | (simp_all [outR, outL]; done))) | (simp_all [okI, outR, outL]; done) | (simp_all [outR, outL]; (first | done | exact fk2 [0, 1, 2])) | exact fk2 [0, 1, 2]))) : p := h
theorem crSxR6_5 {p : Prop} (h : p := by (first | done | (repeat' (first | with_reducible refine And.intro ?_ ?_ | ((with_reducible show _ ≠ _); first | assumption | omega | (simp_all [outR, outL]; done) | grind) | with_reducible intro _)) <;> (first | done | exact Empty.elim ‹Empty› | assumption | rfl | omega | decide | exact fk [0, 1, 2, 3, 6] | exact fk [0, 1, 2, 3, 4] | (simp only [*, cond_true, cond_false, Bool.not_true, Bool.not_false, go_sem, Nat.reduceBEq, Nat.reduceLeDiff, Nat.reduceAdd, Nat.reduceSub, Nat.reduceMul, Int.reduceLE, Int.reduceLT, Int.reduceToNat, Int.reduceNeg, reduceCtorEq]; done) | (simp only [*, cond_true, cond_false, Bool.not_true, Bool.not_false, go_sem, Nat.reduceBEq, Nat.reduceLeDiff, Nat.reduceAdd, Nat.reduceSub, Nat.reduceMul, Int.reduceLE, Int.reduceLT, Int.reduceToNat, Int.reduceNeg, reduceCtorEq]; (repeat' (first | with_reducible refine And.intro ?_ ?_ | ((with_reducible show _ ≠ _); first | assumption | omega | (simp_all [outR, outL]; done) | grind) | with_reducible intro _)) <;> (first | done | assumption | rfl | omega | decide | exact fk [0, 1, 2, 3, 6] | exact fk [0, 1, 2, 3, 4] | (simp_all [outR, outL]; done))) | (simp_all [okI, outR, outL]; done) | (simp_all [outR, outL]; (first | done | exact fk2 [0, 1, 2, 3, 6] | exact fk2 [0, 1, 2, 3, 4])) | exact fk2 [0, 1, 2, 3, 6] | exact fk2 [0, 1, 2, 3, 4]))) : p := h
theorem crSxR6_6 {p : Prop} (h : p := by (first | done | (repeat' (first | with_reducible refine And.intro ?_ ?_ | ((with_reducible show _ ≠ _); first | assumption | omega | (simp_all [outR, outL]; done) | grind) | with_reducible intro _)) <;> (first | done | exact Empty.elim ‹Empty› | assumption | rfl | omega | decide | exact fk [0, 1, 2, 4] | exact fk [0, 1, 2, 3] | (simp only [*, cond_true, cond_false, Bool.not_true, Bool.not_false, go_sem, Nat.reduceBEq, Nat.reduceLeDiff, Nat.reduceAdd, Nat.reduceSub, Nat.reduceMul, Int.reduceLE, Int.reduceLT, Int.reduceToNat, Int.reduceNeg, reduceCtorEq]; done) | (simp only [*, cond_true, cond_false, Bool.not_true, Bool.not_false, go_sem, Nat.reduceBEq, Nat.reduceLeDiff, Nat.reduceAdd, Nat.reduceSub, Nat.reduceMul, Int.reduceLE, Int.reduceLT, Int.reduceToNat, Int.reduceNeg, reduceCtorEq]; (repeat' (first | with_reducible refine And.intro ?_ ?_ | ((with_reducible show _ ≠ _); first | assumption | omega | (simp_all [outR, outL]; done) | grind) | with_reducible intro _)) <;> (first | done | assumption | rfl | omega | decide | exact fk [0, 1, 2, 4] | exact fk [0, 1, 2, 3] | (simp_all [outR, outL]; done))) | (simp_all [okI, outR, outL]; done) | (simp_all [outR, outL]; (first | done | exact fk2 [0, 1, 2, 4] | exact fk2 [0, 1, 2, 3])) | exact fk2 [0, 1, 2, 4] | exact fk2 [0, 1, 2, 3]))) : p := h
def certify_Faults_1 (x : Fault) (l_ : List Fault) : List Fault := (l_ ++ ([x]))
def certify_Faults_1_p (x : Fault) (l_ : List Fault) : Prop := ((l_ ++ ([x])).length * 40 ≤ maxB)
noncomputable def C_certify_Faults_1 : List SV → List Ob → Option HCon := fun l h => hCR .fault (fun l_ => (pD .fault fun x => ((pQ (.ptr 0 0) (pE (retC (certify_Faults_1_p x l_) (.v (.bool true)) [.cells [.os 2], .dead, .row .fault (certify_Faults_1 x l_)]))))) l) h
set_option maxHeartbeats 4000000 in
theorem ok_certify_Faults_1 : FnOkO Try.prog 27 C_certify_Faults_1 := by
  have hG : ConsOk Try.prog (mkG [] []) := mkG_ok cg0 cg0
  refine fn_ok_oR mixed ts_ok hG (fn := Try.f27) (c := bodyOf Try.f27) (by kernel_rfl) (by kernel_rfl) (by kernel_rfl) (by kernel_rfl) fun l o con h => ?_
  unfold C_certify_Faults_1 at h
  obtain ⟨l_, rfl, h⟩ := hCR_inv h
  obtain ⟨x, r0, rfl, h0⟩ := pD_inv h
  obtain ⟨r1, rfl, h1⟩ := pQ_inv h0
  obtain ⟨rfl, rfl⟩ := pE_inv h1
  clear h h0 h1
  refine ⟨_, _, _, rfl, fun hp => ?_⟩
  unfold certify_Faults_1_p at hp
  refine ⟨Nat.le_of_ble_eq_true rfl, (fun id st => none), ?_, ?_⟩
  · unfold bodyOf Try.f27
    simp only [loopsOk, and_self, true_and, and_true]
  · unfold bodyOf Try.f27
    try unfold certify_Faults_1
    simp only [go_sem, Nat.reduceBEq, Nat.reduceLeDiff, Nat.reduceAdd, Nat.reduceSub, Nat.reduceMul, Int.reduceLE, Int.reduceLT, Int.reduceToNat, Int.reduceNeg, reduceCtorEq]
    all_goals exact crSxR6_0
def certify_table_tank_l0 (t_ : CertifyTable) (l_ : List Fault) : Nat → Unit → (List Fault) ⊕ Unit := fun k_0 s_0 => (bif (decide (((t_.sums.getD 0 (default : List Int)).getD (Int.toNat (IntKind.i64.wrap ((k_0 : Int) + 1))) (0 : Int)) > t_.d.tank.start)) then .inl (certify_Faults_1 ({ kind := 4, hour := (k_0 : Int), index := 0, litres := ((t_.sums.getD 0 (default : List Int)).getD (Int.toNat (IntKind.i64.wrap ((k_0 : Int) + 1))) (0 : Int)), limit := t_.d.tank.start } : Fault) l_) else .inr ())
def certify_table_tank_l0_p (t_ : CertifyTable) (l_ : List Fault) : Nat → Unit → Prop := fun k_0 s_0 => ((0 ≤ 0 ∧ 0 < (t_.sums.length : Int)) ∧ ((0 ≤ (IntKind.i64.wrap ((k_0 : Int) + 1)) ∧ (IntKind.i64.wrap ((k_0 : Int) + 1)) < ((t_.sums.getD 0 (default : List Int)).length : Int)) ∧ ((decide (((t_.sums.getD 0 (default : List Int)).getD (Int.toNat (IntKind.i64.wrap ((k_0 : Int) + 1))) (0 : Int)) > t_.d.tank.start)) = true → (certify_Faults_1_p ({ kind := 4, hour := (k_0 : Int), index := 0, litres := ((t_.sums.getD 0 (default : List Int)).getD (Int.toNat (IntKind.i64.wrap ((k_0 : Int) + 1))) (0 : Int)), limit := t_.d.tank.start } : Fault) l_))))
def certify_table_tank (t_ : CertifyTable) (l_ : List Fault) : List Fault := (match runI (certify_table_tank_l0 t_ l_) (Int.toNat t_.d.hours) 0 () with | .inl x_0_0 => x_0_0 | .inr s_0 => l_)
def certify_table_tank_p (t_ : CertifyTable) (l_ : List Fault) : Prop := ((t_.d.hours < 9223372036854775808) ∧ okI (certify_table_tank_l0 t_ l_) (certify_table_tank_l0_p t_ l_) (Int.toNat t_.d.hours) 0 ())
noncomputable def C_certify_table_tank : List SV → List Ob → Option HCon := fun l h => hCR .fault (fun l_ => (pD .certifyTable fun t_ => ((pQ (.fn 27 [] [.ptr 0 0]) (pE (retC (certify_table_tank_p t_ l_) (.tup []) [.cells [.os 2], .dead, .row .fault (certify_table_tank t_ l_)]))))) l) h
set_option maxHeartbeats 4000000 in
theorem ok_certify_table_tank : FnOkO Try.prog 30 C_certify_table_tank := by
  have hG : ConsOk Try.prog (mkG [] [(27, C_certify_Faults_1)]) := mkG_ok cg0 (cgc ok_certify_Faults_1 cg0)
  refine fn_ok_oR mixed ts_ok hG (fn := Try.f30) (c := bodyOf Try.f30) (by kernel_rfl) (by kernel_rfl) (by kernel_rfl) (by kernel_rfl) fun l o con h => ?_
  unfold C_certify_table_tank at h
  obtain ⟨l_, rfl, h⟩ := hCR_inv h
  obtain ⟨t_, r0, rfl, h0⟩ := pD_inv h
  obtain ⟨r1, rfl, h1⟩ := pQ_inv h0
  obtain ⟨rfl, rfl⟩ := pE_inv h1
  clear h h0 h1
  refine ⟨_, _, _, rfl, fun hp => ?_⟩
  unfold certify_table_tank_p at hp
  refine ⟨Nat.le_of_ble_eq_true rfl, (fun id st => bif Nat.beq id 0 then some (LC (ρ := List Fault) (σ := Unit) (lk 1 st.t = .fn 27 [] [.ptr 0 0] ∧ lk 2 st.t = .ptr 2 0 ∧ lk 8 st.t = .v (.int .i64 t_.d.hours) ∧ lk 9 st.t = .v (.int .i64 0) ∧ st.h = [.cells [.os 1], .row .fault l_, .cells [.v (.string t_.d.name), .v (.int .i64 t_.d.hours), .v (.int .i64 t_.d.tank.cap), .v (.int .i64 t_.d.tank.start), .rs .reach t_.d.reaches, .rs .farm t_.d.farms, .rs .crop t_.d.crops, .rs .right t_.d.rights, .rs .duty t_.d.duties, .rs .well t_.d.wells, .rs .order t_.l, .rm .certifyPlace .int t_.litres, .rs .ints t_.sums, .rs .ints t_.drawn]] ∧ t_.d.hours < 9223372036854775808 ∧ okI (certify_table_tank_l0 t_ l_) (certify_table_tank_l0_p t_ l_) (Int.toNat t_.d.hours) 0 ()) (runI (certify_table_tank_l0 t_ l_) (Int.toNat t_.d.hours) 0 ()) (fun _ => .ret) (fun x_0_0 => ⟨[], [.cells [.os 3], .dead, .dead, .row .fault x_0_0]⟩) (fun s_0 => ⟨[], [.cells [.os 3], .dead, .dead, .row .fault l_]⟩)) else none), ?_, ?_⟩
  · unfold bodyOf Try.f30
    simp only [loopsOk, true_and, and_true]
    · refine count_okR mixed ts_ok hG (by kernel_rfl) fun st lc hC hp => ?_
      simp only [go_sem, Nat.reduceBEq, Option.some.injEq] at hC
      subst hC
      obtain ⟨t, h⟩ := st
      dsimp only [LC] at hp
      obtain ⟨e0_0, e0_1, e0_2, e0_3, rfl, hb0, hok0⟩ := hp
      refine ⟨_, _, _, (certify_table_tank_l0 t_ l_), (certify_table_tank_l0_p t_ l_), (Int.toNat t_.d.hours), (), _, _, _, (fun k_0 s_0 => ⟨[(1, .fn 27 [] [.ptr 0 0]), (2, .ptr 2 0), (8, .v (.int .i64 t_.d.hours)), (9, .v (.int .i64 (k_0 : Int)))], [.cells [.os 3], .dead, .cells [.v (.string t_.d.name), .v (.int .i64 t_.d.hours), .v (.int .i64 t_.d.tank.cap), .v (.int .i64 t_.d.tank.start), .rs .reach t_.d.reaches, .rs .farm t_.d.farms, .rs .crop t_.d.crops, .rs .right t_.d.rights, .rs .duty t_.d.duties, .rs .well t_.d.wells, .rs .order t_.l, .rm .certifyPlace .int t_.litres, .rs .ints t_.sums, .rs .ints t_.drawn], .row .fault l_]⟩), ⟨t, [.cells [.os 1], .row .fault l_, .cells [.v (.string t_.d.name), .v (.int .i64 t_.d.hours), .v (.int .i64 t_.d.tank.cap), .v (.int .i64 t_.d.tank.start), .rs .reach t_.d.reaches, .rs .farm t_.d.farms, .rs .crop t_.d.crops, .rs .right t_.d.rights, .rs .duty t_.d.duties, .rs .well t_.d.wells, .rs .order t_.l, .rm .certifyPlace .int t_.litres, .rs .ints t_.sums, .rs .ints t_.drawn]]⟩, [0, 1, 2, 1], rfl, hok0, NilS.refl _, Nat.le_of_ble_eq_true rfl, ?_, fun k_0 s_0 hk0 hp0 => ?_⟩
      · simp only [go_sem, Nat.reduceBEq, Nat.reduceLeDiff, Nat.reduceAdd, Nat.reduceSub, Nat.reduceMul, Int.reduceLE, Int.reduceLT, Int.reduceToNat, Int.reduceNeg, reduceCtorEq, e0_0, e0_1, e0_2, e0_3]
        all_goals (first | done | decide | (repeat' (first | refine And.intro ?_ ?_ | rfl | decide)))
      refine ⟨(fun id st => none), ?_, ?_⟩
      · simp only [loopsOk, and_self, true_and, and_true]
      · by_cases hlt0 : k_0 < (Int.toNat t_.d.hours)
        · have hw0 := wrapT hlt0 hb0
          have hq0 := hp0 hlt0
          unfold certify_table_tank_l0_p at hq0
          try simp only [hw0, Int.toNat_natCast] at hq0
          have hc0 : decide ((k_0 : Int) < t_.d.hours) = true := by simp only [decide_eq_true_eq]; omega
          simp only [go_sem, Nat.reduceBEq, Nat.reduceLeDiff, Nat.reduceAdd, Nat.reduceSub, Nat.reduceMul, Int.reduceLE, Int.reduceLT, Int.reduceToNat, Int.reduceNeg, reduceCtorEq, C_certify_Faults_1, certify_table_tank_l0, hc0, hw0]
          all_goals exact crSxR6_1
        · have hc0 : decide ((k_0 : Int) < t_.d.hours) = false := by simp only [decide_eq_false_iff_not]; omega
          simp only [go_sem, Nat.reduceBEq, Nat.reduceLeDiff, Nat.reduceAdd, Nat.reduceSub, Nat.reduceMul, Int.reduceLE, Int.reduceLT, Int.reduceToNat, Int.reduceNeg, reduceCtorEq, C_certify_Faults_1, hc0]
          all_goals exact crSxR6_1
  · unfold bodyOf Try.f30
    try unfold certify_table_tank
    simp only [go_sem, Nat.reduceBEq, Nat.reduceLeDiff, Nat.reduceAdd, Nat.reduceSub, Nat.reduceMul, Int.reduceLE, Int.reduceLT, Int.reduceToNat, Int.reduceNeg, reduceCtorEq, C_certify_Faults_1]
    all_goals exact crSxR6_2
def certify_table_gates_1_l0 (t_ : CertifyTable) (kind : Int) : Nat → (List Fault) → Empty ⊕ (List Fault) := fun k_0 s_0 => (bif (t_.l.getD k_0 (default : Order)).outlet then .inr s_0 else (bif (kind == 2) then (bif (decide ((t_.l.getD k_0 (default : Order)).litres < (t_.d.reaches.getD (Int.toNat ((t_.l.getD k_0 (default : Order)).index)) (default : Reach)).siphon)) then .inr (certify_Faults_1 ({ kind := kind, hour := (t_.l.getD k_0 (default : Order)).hour, index := (t_.l.getD k_0 (default : Order)).index, litres := (t_.l.getD k_0 (default : Order)).litres, limit := (t_.d.reaches.getD (Int.toNat ((t_.l.getD k_0 (default : Order)).index)) (default : Reach)).siphon } : Fault) s_0) else .inr s_0) else (bif (decide ((t_.l.getD k_0 (default : Order)).litres > (t_.d.reaches.getD (Int.toNat ((t_.l.getD k_0 (default : Order)).index)) (default : Reach)).cap)) then .inr (certify_Faults_1 ({ kind := kind, hour := (t_.l.getD k_0 (default : Order)).hour, index := (t_.l.getD k_0 (default : Order)).index, litres := (t_.l.getD k_0 (default : Order)).litres, limit := (t_.d.reaches.getD (Int.toNat ((t_.l.getD k_0 (default : Order)).index)) (default : Reach)).cap } : Fault) s_0) else .inr s_0)))
def certify_table_gates_1_l0_p (t_ : CertifyTable) (kind : Int) : Nat → (List Fault) → Prop := fun k_0 s_0 => ((t_.l.getD k_0 (default : Order)).outlet = false → ((0 ≤ (t_.l.getD k_0 (default : Order)).index ∧ (t_.l.getD k_0 (default : Order)).index < (t_.d.reaches.length : Int)) ∧ (((kind == 2) = true → ((0 ≤ (t_.l.getD k_0 (default : Order)).index ∧ (t_.l.getD k_0 (default : Order)).index < (t_.d.reaches.length : Int)) ∧ (((decide ((t_.l.getD k_0 (default : Order)).litres < (t_.d.reaches.getD (Int.toNat ((t_.l.getD k_0 (default : Order)).index)) (default : Reach)).siphon)) = true → (certify_Faults_1_p ({ kind := kind, hour := (t_.l.getD k_0 (default : Order)).hour, index := (t_.l.getD k_0 (default : Order)).index, litres := (t_.l.getD k_0 (default : Order)).litres, limit := (t_.d.reaches.getD (Int.toNat ((t_.l.getD k_0 (default : Order)).index)) (default : Reach)).siphon } : Fault) s_0)) ∧ ((decide ((t_.l.getD k_0 (default : Order)).litres < (t_.d.reaches.getD (Int.toNat ((t_.l.getD k_0 (default : Order)).index)) (default : Reach)).siphon)) = false → ((decide ((t_.l.getD k_0 (default : Order)).litres < (t_.d.reaches.getD (Int.toNat ((t_.l.getD k_0 (default : Order)).index)) (default : Reach)).siphon)) = false))))) ∧ ((kind == 2) = false → (((decide ((t_.l.getD k_0 (default : Order)).litres > (t_.d.reaches.getD (Int.toNat ((t_.l.getD k_0 (default : Order)).index)) (default : Reach)).cap)) = true → (certify_Faults_1_p ({ kind := kind, hour := (t_.l.getD k_0 (default : Order)).hour, index := (t_.l.getD k_0 (default : Order)).index, litres := (t_.l.getD k_0 (default : Order)).litres, limit := (t_.d.reaches.getD (Int.toNat ((t_.l.getD k_0 (default : Order)).index)) (default : Reach)).cap } : Fault) s_0)) ∧ ((decide ((t_.l.getD k_0 (default : Order)).litres > (t_.d.reaches.getD (Int.toNat ((t_.l.getD k_0 (default : Order)).index)) (default : Reach)).cap)) = false → ((decide ((t_.l.getD k_0 (default : Order)).litres > (t_.d.reaches.getD (Int.toNat ((t_.l.getD k_0 (default : Order)).index)) (default : Reach)).cap)) = false)))))))
def certify_table_gates_1 (t_ : CertifyTable) (kind : Int) (l_ : List Fault) : List Fault := (match runI (certify_table_gates_1_l0 t_ kind) t_.l.length 0 l_ with | .inl x => x.elim | .inr s_0 => s_0)
def certify_table_gates_1_p (t_ : CertifyTable) (kind : Int) (l_ : List Fault) : Prop := (t_.l.length ≤ maxL → okI (certify_table_gates_1_l0 t_ kind) (certify_table_gates_1_l0_p t_ kind) t_.l.length 0 l_)
noncomputable def C_certify_table_gates_1 : List SV → List Ob → Option HCon := fun l h => hCR .fault (fun l_ => (pQ (.fn 27 [] [.ptr 0 0]) ((pX .certifyTable fun t_ => ((pX .int fun kind => (pE (retC (certify_table_gates_1_p t_ kind l_) (.tup []) [.cells [.os 2], .dead, .row .fault (certify_table_gates_1 t_ kind l_)]))))))) l) h
set_option maxHeartbeats 4000000 in
theorem ok_certify_table_gates_1 : FnOkO Try.prog 48 C_certify_table_gates_1 := by
  have hG : ConsOk Try.prog (mkG [] [(27, C_certify_Faults_1)]) := mkG_ok cg0 (cgc ok_certify_Faults_1 cg0)
  refine fn_ok_oR mixed ts_ok hG (fn := Try.f48) (c := bodyOf Try.f48) (by kernel_rfl) (by kernel_rfl) (by kernel_rfl) (by kernel_rfl) fun l o con h => ?_
  unfold C_certify_table_gates_1 at h
  obtain ⟨l_, rfl, h⟩ := hCR_inv h
  obtain ⟨r0, rfl, h0⟩ := pQ_inv h
  obtain ⟨t_, r1, rfl, h1⟩ := pX_inv h0
  obtain ⟨kind, r2, rfl, h2⟩ := pX_inv h1
  obtain ⟨rfl, rfl⟩ := pE_inv h2
  clear h h0 h1 h2
  refine ⟨_, _, _, rfl, fun hp => ?_⟩
  unfold certify_table_gates_1_p at hp
  refine ⟨Nat.le_of_ble_eq_true rfl, (fun id st => bif Nat.beq id 0 then some (LC (ρ := Empty) (σ := List Fault) (lk 0 st.t = .fn 27 [] [.ptr 0 0] ∧ lk 1 st.t = .ep [.v (.string t_.d.name), .v (.int .i64 t_.d.hours), .v (.int .i64 t_.d.tank.cap), .v (.int .i64 t_.d.tank.start), .rs .reach t_.d.reaches, .rs .farm t_.d.farms, .rs .crop t_.d.crops, .rs .right t_.d.rights, .rs .duty t_.d.duties, .rs .well t_.d.wells, .rs .order t_.l, .rm .certifyPlace .int t_.litres, .rs .ints t_.sums, .rs .ints t_.drawn] 0 ∧ lk 2 st.t = .ep [.v (.int .i64 kind)] 0 ∧ lk 9 st.t = .rs .order t_.l ∧ lk 10 st.t = .v (.int .i64 (t_.l.length : Int)) ∧ lk 11 st.t = .v (.int .i64 0) ∧ st.h = [.cells [.os 1], .row .fault l_] ∧ t_.l.length ≤ maxL ∧ okI (certify_table_gates_1_l0 t_ kind) (certify_table_gates_1_l0_p t_ kind) t_.l.length 0 l_) (runI (certify_table_gates_1_l0 t_ kind) t_.l.length 0 l_) (fun x => x.elim) (fun x => x.elim) (fun s_0 => ⟨[], [.cells [.os 2], .dead, .row .fault s_0]⟩)) else none), ?_, ?_⟩
  · unfold bodyOf Try.f48
    simp only [loopsOk, true_and, and_true]
    · refine count_okR mixed ts_ok hG (by kernel_rfl) fun st lc hC hp => ?_
      simp only [go_sem, Nat.reduceBEq, Option.some.injEq] at hC
      subst hC
      obtain ⟨t, h⟩ := st
      dsimp only [LC] at hp
      obtain ⟨e0_0, e0_1, e0_2, e0_3, e0_4, e0_5, rfl, hb0, hok0⟩ := hp
      refine ⟨_, _, _, (certify_table_gates_1_l0 t_ kind), (certify_table_gates_1_l0_p t_ kind), t_.l.length, l_, _, _, _, (fun k_0 s_0 => ⟨[(0, .fn 27 [] [.ptr 0 0]), (1, .ep [.v (.string t_.d.name), .v (.int .i64 t_.d.hours), .v (.int .i64 t_.d.tank.cap), .v (.int .i64 t_.d.tank.start), .rs .reach t_.d.reaches, .rs .farm t_.d.farms, .rs .crop t_.d.crops, .rs .right t_.d.rights, .rs .duty t_.d.duties, .rs .well t_.d.wells, .rs .order t_.l, .rm .certifyPlace .int t_.litres, .rs .ints t_.sums, .rs .ints t_.drawn] 0), (2, .ep [.v (.int .i64 kind)] 0), (9, .rs .order t_.l), (10, .v (.int .i64 (t_.l.length : Int))), (11, .v (.int .i64 (k_0 : Int)))], [.cells [.os 2], .dead, .row .fault s_0]⟩), ⟨t, [.cells [.os 1], .row .fault l_]⟩, [0, 1, 1], rfl, hok0, NilS.refl _, Nat.le_of_ble_eq_true rfl, ?_, fun k_0 s_0 hk0 hp0 => ?_⟩
      · simp only [go_sem, Nat.reduceBEq, Nat.reduceLeDiff, Nat.reduceAdd, Nat.reduceSub, Nat.reduceMul, Int.reduceLE, Int.reduceLT, Int.reduceToNat, Int.reduceNeg, reduceCtorEq, e0_0, e0_1, e0_2, e0_3, e0_4, e0_5]
        all_goals (first | done | decide | (repeat' (first | refine And.intro ?_ ?_ | rfl | decide)))
      refine ⟨(fun id st => none), ?_, ?_⟩
      · simp only [loopsOk, and_self, true_and, and_true]
      · by_cases hlt0 : k_0 < t_.l.length
        · have hw0 := wrapS hlt0 hb0
          have hq0 := hp0 hlt0
          unfold certify_table_gates_1_l0_p at hq0
          try simp only [hw0, Int.toNat_natCast] at hq0
          have hc0 : decide ((k_0 : Int) < (t_.l.length : Int)) = true := by simp only [decide_eq_true_eq]; omega
          simp only [go_sem, Nat.reduceBEq, Nat.reduceLeDiff, Nat.reduceAdd, Nat.reduceSub, Nat.reduceMul, Int.reduceLE, Int.reduceLT, Int.reduceToNat, Int.reduceNeg, reduceCtorEq, C_certify_Faults_1, certify_table_gates_1_l0, hc0, hw0]
          all_goals exact crSxR6_3
        · have hc0 : decide ((k_0 : Int) < (t_.l.length : Int)) = false := by simp only [decide_eq_false_iff_not]; omega
          simp only [go_sem, Nat.reduceBEq, Nat.reduceLeDiff, Nat.reduceAdd, Nat.reduceSub, Nat.reduceMul, Int.reduceLE, Int.reduceLT, Int.reduceToNat, Int.reduceNeg, reduceCtorEq, C_certify_Faults_1, hc0]
          all_goals exact crSxR6_3
  · unfold bodyOf Try.f48
    try unfold certify_table_gates_1
    simp only [go_sem, Nat.reduceBEq, Nat.reduceLeDiff, Nat.reduceAdd, Nat.reduceSub, Nat.reduceMul, Int.reduceLE, Int.reduceLT, Int.reduceToNat, Int.reduceNeg, reduceCtorEq, C_certify_Faults_1]
    all_goals exact crSxR6_4
def certify_table_unmet_1_l0 (c_ : List Claim) : Nat → (List (CertifyPlace × Int)) → Empty ⊕ (List (CertifyPlace × Int)) := fun k_0 s_0 => .inr (mupdT .certifyPlace .int s_0 ({ hour := (c_.getD k_0 (default : Claim)).hour, index := (c_.getD k_0 (default : Claim)).farm, outlet := true } : CertifyPlace) (IntKind.i64.wrap ((mgetT .certifyPlace .int s_0 ({ hour := (c_.getD k_0 (default : Claim)).hour, index := (c_.getD k_0 (default : Claim)).farm, outlet := true } : CertifyPlace)) + (c_.getD k_0 (default : Claim)).litres)))
def certify_table_unmet_1_l0_p (c_ : List Claim) : Nat → (List (CertifyPlace × Int)) → Prop := fun k_0 s_0 => True
def certify_table_unmet_1_l2 (t_ : CertifyTable) (s_0 : List (CertifyPlace × Int)) (k_1 : Nat) : Nat → (List Fault) → Empty ⊕ (List Fault) := fun k_2 s_2 => (bif (decide ((mgetT .certifyPlace .int t_.litres ({ hour := (k_1 : Int), index := (k_2 : Int), outlet := true } : CertifyPlace)) < (mgetT .certifyPlace .int s_0 ({ hour := (k_1 : Int), index := (k_2 : Int), outlet := true } : CertifyPlace)))) then .inr (certify_Faults_1 ({ kind := 6, hour := (k_1 : Int), index := (k_2 : Int), litres := (mgetT .certifyPlace .int t_.litres ({ hour := (k_1 : Int), index := (k_2 : Int), outlet := true } : CertifyPlace)), limit := (mgetT .certifyPlace .int s_0 ({ hour := (k_1 : Int), index := (k_2 : Int), outlet := true } : CertifyPlace)) } : Fault) s_2) else .inr s_2)
def certify_table_unmet_1_l2_p (t_ : CertifyTable) (s_0 : List (CertifyPlace × Int)) (k_1 : Nat) : Nat → (List Fault) → Prop := fun k_2 s_2 => (((decide ((mgetT .certifyPlace .int t_.litres ({ hour := (k_1 : Int), index := (k_2 : Int), outlet := true } : CertifyPlace)) < (mgetT .certifyPlace .int s_0 ({ hour := (k_1 : Int), index := (k_2 : Int), outlet := true } : CertifyPlace)))) = true → (certify_Faults_1_p ({ kind := 6, hour := (k_1 : Int), index := (k_2 : Int), litres := (mgetT .certifyPlace .int t_.litres ({ hour := (k_1 : Int), index := (k_2 : Int), outlet := true } : CertifyPlace)), limit := (mgetT .certifyPlace .int s_0 ({ hour := (k_1 : Int), index := (k_2 : Int), outlet := true } : CertifyPlace)) } : Fault) s_2)) ∧ ((decide ((mgetT .certifyPlace .int t_.litres ({ hour := (k_1 : Int), index := (k_2 : Int), outlet := true } : CertifyPlace)) < (mgetT .certifyPlace .int s_0 ({ hour := (k_1 : Int), index := (k_2 : Int), outlet := true } : CertifyPlace)))) = false → ((decide ((mgetT .certifyPlace .int t_.litres ({ hour := (k_1 : Int), index := (k_2 : Int), outlet := true } : CertifyPlace)) < (mgetT .certifyPlace .int s_0 ({ hour := (k_1 : Int), index := (k_2 : Int), outlet := true } : CertifyPlace)))) = false)))
def certify_table_unmet_1_l1 (t_ : CertifyTable) (s_0 : List (CertifyPlace × Int)) : Nat → (List Fault) → Empty ⊕ (List Fault) := fun k_1 s_1 => (match runI (certify_table_unmet_1_l2 t_ s_0 k_1) t_.d.farms.length 0 s_1 with | .inl x => x.elim | .inr s_2 => .inr s_2)
def certify_table_unmet_1_l1_p (t_ : CertifyTable) (s_0 : List (CertifyPlace × Int)) : Nat → (List Fault) → Prop := fun k_1 s_1 => (t_.d.farms.length ≤ maxL → okI (certify_table_unmet_1_l2 t_ s_0 k_1) (certify_table_unmet_1_l2_p t_ s_0 k_1) t_.d.farms.length 0 s_1)
def certify_table_unmet_1 (c_ : List Claim) (t_ : CertifyTable) (l_ : List Fault) : List Fault := (match runI (certify_table_unmet_1_l0 c_) c_.length 0 ([]) with | .inl x => x.elim | .inr s_0 => (match runI (certify_table_unmet_1_l1 t_ s_0) (Int.toNat t_.d.hours) 0 l_ with | .inl x => x.elim | .inr s_1 => s_1))
def certify_table_unmet_1_p (c_ : List Claim) (t_ : CertifyTable) (l_ : List Fault) : Prop := (c_.length ≤ maxL → (∀ s_0, runI (certify_table_unmet_1_l0 c_) c_.length 0 ([]) = .inr s_0 → ((t_.d.hours < 9223372036854775808) ∧ okI (certify_table_unmet_1_l1 t_ s_0) (certify_table_unmet_1_l1_p t_ s_0) (Int.toNat t_.d.hours) 0 l_)))
noncomputable def C_certify_table_unmet_1 : List SV → List Ob → Option HCon := fun l h => hCR .fault (fun l_ => (pQ (.fn 27 [] [.ptr 0 0]) ((pXR .claim fun c_ => ((pX .certifyTable fun t_ => (pE (retC (certify_table_unmet_1_p c_ t_ l_) (.tup []) [.cells [.os 2], .dead, .row .fault (certify_table_unmet_1 c_ t_ l_)]))))))) l) h
set_option maxHeartbeats 4000000 in
theorem ok_certify_table_unmet_1 : FnOkO Try.prog 50 C_certify_table_unmet_1 := by
  have hG : ConsOk Try.prog (mkG [] [(27, C_certify_Faults_1)]) := mkG_ok cg0 (cgc ok_certify_Faults_1 cg0)
  refine fn_ok_oR mixed ts_ok hG (fn := Try.f50) (c := bodyOf Try.f50) (by kernel_rfl) (by kernel_rfl) (by kernel_rfl) (by kernel_rfl) fun l o con h => ?_
  unfold C_certify_table_unmet_1 at h
  obtain ⟨l_, rfl, h⟩ := hCR_inv h
  obtain ⟨r0, rfl, h0⟩ := pQ_inv h
  obtain ⟨c_, r1, rfl, h1⟩ := pXR_inv h0
  obtain ⟨t_, r2, rfl, h2⟩ := pX_inv h1
  obtain ⟨rfl, rfl⟩ := pE_inv h2
  clear h h0 h1 h2
  refine ⟨_, _, _, rfl, fun hp => ?_⟩
  unfold certify_table_unmet_1_p at hp
  refine ⟨Nat.le_of_ble_eq_true rfl, (fun id st => bif Nat.beq id 0 then some (LC (ρ := Empty) (σ := List (CertifyPlace × Int)) (lk 0 st.t = .fn 27 [] [.ptr 0 0] ∧ lk 2 st.t = .ep [.v (.string t_.d.name), .v (.int .i64 t_.d.hours), .v (.int .i64 t_.d.tank.cap), .v (.int .i64 t_.d.tank.start), .rs .reach t_.d.reaches, .rs .farm t_.d.farms, .rs .crop t_.d.crops, .rs .right t_.d.rights, .rs .duty t_.d.duties, .rs .well t_.d.wells, .rs .order t_.l, .rm .certifyPlace .int t_.litres, .rs .ints t_.sums, .rs .ints t_.drawn] 0 ∧ lk 4 st.t = .os 2 ∧ lk 11 st.t = .rs .claim c_ ∧ lk 12 st.t = .v (.int .i64 (c_.length : Int)) ∧ lk 13 st.t = .v (.int .i64 0) ∧ st.h = [.cells [.os 1], .row .fault l_, .mp .certifyPlace .int ([]) none] ∧ c_.length ≤ maxL) (runI (certify_table_unmet_1_l0 c_) c_.length 0 ([])) (fun x => x.elim) (fun x => x.elim) (fun s_0 => ⟨[(0, .fn 27 [] [.ptr 0 0]), (2, .ep [.v (.string t_.d.name), .v (.int .i64 t_.d.hours), .v (.int .i64 t_.d.tank.cap), .v (.int .i64 t_.d.tank.start), .rs .reach t_.d.reaches, .rs .farm t_.d.farms, .rs .crop t_.d.crops, .rs .right t_.d.rights, .rs .duty t_.d.duties, .rs .well t_.d.wells, .rs .order t_.l, .rm .certifyPlace .int t_.litres, .rs .ints t_.sums, .rs .ints t_.drawn] 0), (4, .os 2)], [.cells [.os 1], .row .fault l_, .mp .certifyPlace .int s_0 none]⟩)) else bif Nat.beq id 2 then some (LC (ρ := Empty) (σ := List Fault) (lk 0 st.t = .fn 27 [] [.ptr 0 0] ∧ lk 2 st.t = .ep [.v (.string t_.d.name), .v (.int .i64 t_.d.hours), .v (.int .i64 t_.d.tank.cap), .v (.int .i64 t_.d.tank.start), .rs .reach t_.d.reaches, .rs .farm t_.d.farms, .rs .crop t_.d.crops, .rs .right t_.d.rights, .rs .duty t_.d.duties, .rs .well t_.d.wells, .rs .order t_.l, .rm .certifyPlace .int t_.litres, .rs .ints t_.sums, .rs .ints t_.drawn] 0 ∧ lk 4 st.t = .os 2 ∧ lk 32 st.t = .v (.int .i64 t_.d.hours) ∧ lk 33 st.t = .v (.int .i64 0) ∧ st.h = [.cells [.os 1], .row .fault l_, .mp .certifyPlace .int (outR (runI (certify_table_unmet_1_l0 c_) c_.length 0 ([]))) none] ∧ t_.d.hours < 9223372036854775808 ∧ okI (certify_table_unmet_1_l1 t_ (outR (runI (certify_table_unmet_1_l0 c_) c_.length 0 ([])))) (certify_table_unmet_1_l1_p t_ (outR (runI (certify_table_unmet_1_l0 c_) c_.length 0 ([])))) (Int.toNat t_.d.hours) 0 l_) (runI (certify_table_unmet_1_l1 t_ (outR (runI (certify_table_unmet_1_l0 c_) c_.length 0 ([])))) (Int.toNat t_.d.hours) 0 l_) (fun x => x.elim) (fun x => x.elim) (fun s_1 => ⟨[], [.cells [.os 3], .dead, .dead, .row .fault s_1]⟩)) else none), ?_, ?_⟩
  · unfold bodyOf Try.f50
    simp only [loopsOk, true_and, and_true]
    refine ⟨?_, ?_⟩
    · refine count_okR mixed ts_ok hG (by kernel_rfl) fun st lc hC hp => ?_
      simp only [go_sem, Nat.reduceBEq, Option.some.injEq] at hC
      subst hC
      obtain ⟨t, h⟩ := st
      dsimp only [LC] at hp
      obtain ⟨e0_0, e0_1, e0_2, e0_3, e0_4, e0_5, rfl, hb0⟩ := hp
      refine ⟨_, _, _, (certify_table_unmet_1_l0 c_), (certify_table_unmet_1_l0_p c_), c_.length, [], _, _, _, (fun k_0 s_0 => ⟨[(0, .fn 27 [] [.ptr 0 0]), (2, .ep [.v (.string t_.d.name), .v (.int .i64 t_.d.hours), .v (.int .i64 t_.d.tank.cap), .v (.int .i64 t_.d.tank.start), .rs .reach t_.d.reaches, .rs .farm t_.d.farms, .rs .crop t_.d.crops, .rs .right t_.d.rights, .rs .duty t_.d.duties, .rs .well t_.d.wells, .rs .order t_.l, .rm .certifyPlace .int t_.litres, .rs .ints t_.sums, .rs .ints t_.drawn] 0), (4, .os 2), (11, .rs .claim c_), (12, .v (.int .i64 (c_.length : Int))), (13, .v (.int .i64 (k_0 : Int)))], [.cells [.os 1], .row .fault l_, .mp .certifyPlace .int s_0 none]⟩), ⟨t, [.cells [.os 1], .row .fault l_, .mp .certifyPlace .int ([]) none]⟩, [0, 1, 2], rfl, okI_all _ _ _ fun _ _ _ _ => trivial, NilS.refl _, Nat.le_of_ble_eq_true rfl, ?_, fun k_0 s_0 hk0 hp0 => ?_⟩
      · simp only [go_sem, Nat.reduceBEq, Nat.reduceLeDiff, Nat.reduceAdd, Nat.reduceSub, Nat.reduceMul, Int.reduceLE, Int.reduceLT, Int.reduceToNat, Int.reduceNeg, reduceCtorEq, e0_0, e0_1, e0_2, e0_3, e0_4, e0_5]
        all_goals (first | done | decide | (repeat' (first | refine And.intro ?_ ?_ | rfl | decide)))
      refine ⟨(fun id st => none), ?_, ?_⟩
      · simp only [loopsOk, and_self, true_and, and_true]
      · by_cases hlt0 : k_0 < c_.length
        · have hw0 := wrapS hlt0 hb0
          have hq0 := hp0 hlt0
          unfold certify_table_unmet_1_l0_p at hq0
          try simp only [hw0, Int.toNat_natCast] at hq0
          have hc0 : decide ((k_0 : Int) < (c_.length : Int)) = true := by simp only [decide_eq_true_eq]; omega
          simp only [go_sem, Nat.reduceBEq, Nat.reduceLeDiff, Nat.reduceAdd, Nat.reduceSub, Nat.reduceMul, Int.reduceLE, Int.reduceLT, Int.reduceToNat, Int.reduceNeg, reduceCtorEq, C_certify_Faults_1, certify_table_unmet_1_l0, hc0, hw0]
          all_goals exact crSxR6_4
        · have hc0 : decide ((k_0 : Int) < (c_.length : Int)) = false := by simp only [decide_eq_false_iff_not]; omega
          simp only [go_sem, Nat.reduceBEq, Nat.reduceLeDiff, Nat.reduceAdd, Nat.reduceSub, Nat.reduceMul, Int.reduceLE, Int.reduceLT, Int.reduceToNat, Int.reduceNeg, reduceCtorEq, C_certify_Faults_1, hc0]
          all_goals exact crSxR6_4
    · refine count_okR mixed ts_ok hG (by kernel_rfl) fun st lc hC hp => ?_
      simp only [go_sem, Nat.reduceBEq, Option.some.injEq] at hC
      subst hC
      obtain ⟨t, h⟩ := st
      dsimp only [LC] at hp
      obtain ⟨e1_0, e1_1, e1_2, e1_3, e1_4, rfl, hb1, hok1⟩ := hp
      refine ⟨_, _, _, (certify_table_unmet_1_l1 t_ (outR (runI (certify_table_unmet_1_l0 c_) c_.length 0 ([])))), (certify_table_unmet_1_l1_p t_ (outR (runI (certify_table_unmet_1_l0 c_) c_.length 0 ([])))), (Int.toNat t_.d.hours), l_, _, _, _, (fun k_1 s_1 => ⟨[(0, .fn 27 [] [.ptr 0 0]), (2, .ep [.v (.string t_.d.name), .v (.int .i64 t_.d.hours), .v (.int .i64 t_.d.tank.cap), .v (.int .i64 t_.d.tank.start), .rs .reach t_.d.reaches, .rs .farm t_.d.farms, .rs .crop t_.d.crops, .rs .right t_.d.rights, .rs .duty t_.d.duties, .rs .well t_.d.wells, .rs .order t_.l, .rm .certifyPlace .int t_.litres, .rs .ints t_.sums, .rs .ints t_.drawn] 0), (4, .os 2), (32, .v (.int .i64 t_.d.hours)), (33, .v (.int .i64 (k_1 : Int)))], [.cells [.os 3], .dead, .mp .certifyPlace .int (outR (runI (certify_table_unmet_1_l0 c_) c_.length 0 ([]))) none, .row .fault s_1]⟩), ⟨t, [.cells [.os 1], .row .fault l_, .mp .certifyPlace .int (outR (runI (certify_table_unmet_1_l0 c_) c_.length 0 ([]))) none]⟩, [0, 1, 2, 1], rfl, hok1, NilS.refl _, Nat.le_of_ble_eq_true rfl, ?_, fun k_1 s_1 hk1 hp1 => ?_⟩
      · simp only [go_sem, Nat.reduceBEq, Nat.reduceLeDiff, Nat.reduceAdd, Nat.reduceSub, Nat.reduceMul, Int.reduceLE, Int.reduceLT, Int.reduceToNat, Int.reduceNeg, reduceCtorEq, e1_0, e1_1, e1_2, e1_3, e1_4]
        all_goals (first | done | decide | (repeat' (first | refine And.intro ?_ ?_ | rfl | decide)))
      refine ⟨(fun id st => bif Nat.beq id 4 then some (LC (ρ := Empty) (σ := List Fault) (lk 0 st.t = .fn 27 [] [.ptr 0 0] ∧ lk 2 st.t = .ep [.v (.string t_.d.name), .v (.int .i64 t_.d.hours), .v (.int .i64 t_.d.tank.cap), .v (.int .i64 t_.d.tank.start), .rs .reach t_.d.reaches, .rs .farm t_.d.farms, .rs .crop t_.d.crops, .rs .right t_.d.rights, .rs .duty t_.d.duties, .rs .well t_.d.wells, .rs .order t_.l, .rm .certifyPlace .int t_.litres, .rs .ints t_.sums, .rs .ints t_.drawn] 0 ∧ lk 4 st.t = .os 2 ∧ lk 7 st.t = .v (.int .i64 (k_1 : Int)) ∧ lk 32 st.t = .v (.int .i64 t_.d.hours) ∧ lk 33 st.t = .v (.int .i64 (k_1 : Int)) ∧ lk 39 st.t = .v (.int .i64 (t_.d.farms.length : Int)) ∧ lk 40 st.t = .v (.int .i64 0) ∧ st.h = [.cells [.os 3], .dead, .mp .certifyPlace .int (outR (runI (certify_table_unmet_1_l0 c_) c_.length 0 ([]))) none, .row .fault s_1] ∧ t_.d.farms.length ≤ maxL ∧ okI (certify_table_unmet_1_l2 t_ (outR (runI (certify_table_unmet_1_l0 c_) c_.length 0 ([]))) k_1) (certify_table_unmet_1_l2_p t_ (outR (runI (certify_table_unmet_1_l0 c_) c_.length 0 ([]))) k_1) t_.d.farms.length 0 s_1) (runI (certify_table_unmet_1_l2 t_ (outR (runI (certify_table_unmet_1_l0 c_) c_.length 0 ([]))) k_1) t_.d.farms.length 0 s_1) (fun x => x.elim) (fun x => x.elim) (fun s_2 => ⟨[(0, .fn 27 [] [.ptr 0 0]), (2, .ep [.v (.string t_.d.name), .v (.int .i64 t_.d.hours), .v (.int .i64 t_.d.tank.cap), .v (.int .i64 t_.d.tank.start), .rs .reach t_.d.reaches, .rs .farm t_.d.farms, .rs .crop t_.d.crops, .rs .right t_.d.rights, .rs .duty t_.d.duties, .rs .well t_.d.wells, .rs .order t_.l, .rm .certifyPlace .int t_.litres, .rs .ints t_.sums, .rs .ints t_.drawn] 0), (4, .os 2), (32, .v (.int .i64 t_.d.hours)), (33, .v (.int .i64 (k_1 : Int)))], [.cells [.os 4], .dead, .mp .certifyPlace .int (outR (runI (certify_table_unmet_1_l0 c_) c_.length 0 ([]))) none, .dead, .row .fault s_2]⟩)) else none), ?_, ?_⟩
      · simp only [loopsOk, true_and, and_true]
        · refine count_okR mixed ts_ok hG (by kernel_rfl) fun st lc hC hp => ?_
          simp only [go_sem, Nat.reduceBEq, Option.some.injEq] at hC
          subst hC
          obtain ⟨t, h⟩ := st
          dsimp only [LC] at hp
          obtain ⟨e2_0, e2_1, e2_2, e2_3, e2_4, e2_5, e2_6, e2_7, rfl, hb2, hok2⟩ := hp
          refine ⟨_, _, _, (certify_table_unmet_1_l2 t_ (outR (runI (certify_table_unmet_1_l0 c_) c_.length 0 ([]))) k_1), (certify_table_unmet_1_l2_p t_ (outR (runI (certify_table_unmet_1_l0 c_) c_.length 0 ([]))) k_1), t_.d.farms.length, s_1, _, _, _, (fun k_2 s_2 => ⟨[(0, .fn 27 [] [.ptr 0 0]), (2, .ep [.v (.string t_.d.name), .v (.int .i64 t_.d.hours), .v (.int .i64 t_.d.tank.cap), .v (.int .i64 t_.d.tank.start), .rs .reach t_.d.reaches, .rs .farm t_.d.farms, .rs .crop t_.d.crops, .rs .right t_.d.rights, .rs .duty t_.d.duties, .rs .well t_.d.wells, .rs .order t_.l, .rm .certifyPlace .int t_.litres, .rs .ints t_.sums, .rs .ints t_.drawn] 0), (4, .os 2), (7, .v (.int .i64 (k_1 : Int))), (32, .v (.int .i64 t_.d.hours)), (33, .v (.int .i64 (k_1 : Int))), (39, .v (.int .i64 (t_.d.farms.length : Int))), (40, .v (.int .i64 (k_2 : Int)))], [.cells [.os 4], .dead, .mp .certifyPlace .int (outR (runI (certify_table_unmet_1_l0 c_) c_.length 0 ([]))) none, .dead, .row .fault s_2]⟩), ⟨t, [.cells [.os 3], .dead, .mp .certifyPlace .int (outR (runI (certify_table_unmet_1_l0 c_) c_.length 0 ([]))) none, .row .fault s_1]⟩, [0, 1, 2, 3, 3], rfl, hok2, NilS.refl _, Nat.le_of_ble_eq_true rfl, ?_, fun k_2 s_2 hk2 hp2 => ?_⟩
          · simp only [go_sem, Nat.reduceBEq, Nat.reduceLeDiff, Nat.reduceAdd, Nat.reduceSub, Nat.reduceMul, Int.reduceLE, Int.reduceLT, Int.reduceToNat, Int.reduceNeg, reduceCtorEq, e2_0, e2_1, e2_2, e2_3, e2_4, e2_5, e2_6, e2_7]
            all_goals (first | done | decide | (repeat' (first | refine And.intro ?_ ?_ | rfl | decide)))
          refine ⟨(fun id st => none), ?_, ?_⟩
          · simp only [loopsOk, and_self, true_and, and_true]
          · by_cases hlt2 : k_2 < t_.d.farms.length
            · have hw2 := wrapS hlt2 hb2
              have hq2 := hp2 hlt2
              unfold certify_table_unmet_1_l2_p at hq2
              try simp only [hw2, Int.toNat_natCast] at hq2
              have hc2 : decide ((k_2 : Int) < (t_.d.farms.length : Int)) = true := by simp only [decide_eq_true_eq]; omega
              simp only [go_sem, Nat.reduceBEq, Nat.reduceLeDiff, Nat.reduceAdd, Nat.reduceSub, Nat.reduceMul, Int.reduceLE, Int.reduceLT, Int.reduceToNat, Int.reduceNeg, reduceCtorEq, C_certify_Faults_1, certify_table_unmet_1_l2, hc2, hw2]
              all_goals exact crSxR6_5
            · have hc2 : decide ((k_2 : Int) < (t_.d.farms.length : Int)) = false := by simp only [decide_eq_false_iff_not]; omega
              simp only [go_sem, Nat.reduceBEq, Nat.reduceLeDiff, Nat.reduceAdd, Nat.reduceSub, Nat.reduceMul, Int.reduceLE, Int.reduceLT, Int.reduceToNat, Int.reduceNeg, reduceCtorEq, C_certify_Faults_1, hc2]
              all_goals exact crSxR6_5
      · by_cases hlt1 : k_1 < (Int.toNat t_.d.hours)
        · have hw1 := wrapT hlt1 hb1
          have hq1 := hp1 hlt1
          unfold certify_table_unmet_1_l1_p at hq1
          try simp only [hw1, Int.toNat_natCast] at hq1
          have hc1 : decide ((k_1 : Int) < t_.d.hours) = true := by simp only [decide_eq_true_eq]; omega
          simp only [go_sem, Nat.reduceBEq, Nat.reduceLeDiff, Nat.reduceAdd, Nat.reduceSub, Nat.reduceMul, Int.reduceLE, Int.reduceLT, Int.reduceToNat, Int.reduceNeg, reduceCtorEq, C_certify_Faults_1, certify_table_unmet_1_l1, hc1, hw1]
          all_goals exact crSxR6_6
        · have hc1 : decide ((k_1 : Int) < t_.d.hours) = false := by simp only [decide_eq_false_iff_not]; omega
          simp only [go_sem, Nat.reduceBEq, Nat.reduceLeDiff, Nat.reduceAdd, Nat.reduceSub, Nat.reduceMul, Int.reduceLE, Int.reduceLT, Int.reduceToNat, Int.reduceNeg, reduceCtorEq, C_certify_Faults_1, hc1]
          all_goals exact crSxR6_6
  · unfold bodyOf Try.f50
    try unfold certify_table_unmet_1
    simp only [go_sem, Nat.reduceBEq, Nat.reduceLeDiff, Nat.reduceAdd, Nat.reduceSub, Nat.reduceMul, Int.reduceLE, Int.reduceLT, Int.reduceToNat, Int.reduceNeg, reduceCtorEq, C_certify_Faults_1]
    all_goals exact crSxR6_2
end Go.Sx
end
