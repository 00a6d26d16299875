/- Part of the proof that the law CertifyArriveSpec returns true and leaves its arguments as they were, for all arguments of bulk at most 1048576 (the Upto form). -/
import Derived.Test.YtnhhdmkikgdfkaaH11
import Derived.Test.YtnhhdmkikgdfkaaH07
set_option linter.all false
section
namespace Go.Sx
open Go.Proofs
set_option maxRecDepth 100000
set_option linter.unusedSimpArgs false
def certify_Accepts (d : District) (c : List Claim) (l_ : List Order) : Bool × Int := ((((certify_Faults d c l_).2 == 0) && ((((certify_Faults d c l_).1).length : Int) == 0)), (certify_Faults d c l_).2)
def certify_Accepts_p (d : District) (c : List Claim) (l_ : List Order) : Prop := (certify_Faults_p d c l_)
def C_certify_Accepts : List SV → Option Con := (pD .district fun d => (pR .claim fun c => (pR .order fun l_ => pE (.det (certify_Accepts_p d c l_) (.tup [.v (.bool ((certify_Accepts d c l_).1)), .v (.int .i64 ((certify_Accepts d c l_).2))])))))
theorem ok_certify_Accepts : FnOk Try.prog 11 C_certify_Accepts := by
  have hG : ConsOk Try.prog (mkG [(12, fun l => C_certify_Faults (nrmA [.st .district, .sl .claim, .sl .order] l))] []) := mkG_ok (by
    intro x hx
    simp only [List.mem_cons, List.not_mem_nil, or_false] at hx
    rcases hx with rfl
    · exact ok_certify_Faults.norm [.st .district, .sl .claim, .sl .order]) (by simp)
  refine fn_okN [.o, .o] mixed ts_ok hG (fn := Try.f11) (c := bodyOf Try.f11) (by kernel_rfl) (by kernel_rfl) (by kernel_rfl) (by kernel_rfl) fun l con h hp => ?_
  unfold C_certify_Accepts at h
  obtain ⟨d, l0, rfl, h0⟩ := pD_inv h
  obtain ⟨c, l1, rfl, h1⟩ := pR_inv h0
  obtain ⟨l_, l2, rfl, h2⟩ := pR_inv h1
  obtain ⟨rfl, rfl⟩ := pE_inv h2
  clear h h0 h1 h2
  dsimp only [conPre] at hp
  unfold certify_Accepts_p at hp
  refine ⟨Nat.le_of_ble_eq_true rfl, (fun id st => none), ?_, ?_⟩
  · unfold bodyOf Try.f11
    simp only [loopsOk, and_self, true_and, and_true]
  · unfold bodyOf Try.f11
    try unfold certify_Accepts
    simp only [go_sem, Nat.reduceBEq, Nat.reduceLeDiff, Nat.reduceAdd, Nat.reduceSub, Nat.reduceMul, Int.reduceLE, Int.reduceLT, Int.reduceToNat, Int.reduceNeg, reduceCtorEq, C_certify_Faults]
    all_goals exact cl
def certify_Arrive (d : District) (l_ : List Order) (reach : Int) (hour : Int) : Int × Int := (bif ((expand_Check d) != 0) then (0, (expand_Check d)) else (bif ((certify_read d l_).2 != 0) then (0, (certify_read d l_).2) else (bif ((((decide (reach < 0)) || (decide (reach ≥ (d.reaches.length : Int)))) || (decide (hour < 0))) || (decide (hour ≥ d.hours))) then (0, 1) else ((certify_table_arrives ((certify_read d l_).1) reach hour), 0))))
def certify_Arrive_p (d : District) (l_ : List Order) (reach : Int) (hour : Int) : Prop := (((expand_Check d) != 0) = false → ((certify_read_p d l_) ∧ (((certify_read d l_).2 != 0) = false → (((((decide (reach < 0)) || (decide (reach ≥ (d.reaches.length : Int)))) || (decide (hour < 0))) || (decide (hour ≥ d.hours))) = false → (certify_table_arrives_p ((certify_read d l_).1) reach hour)))))
def C_certify_Arrive : List SV → Option Con := (pD .district fun d => (pR .order fun l_ => (pI fun reach => (pI fun hour => pE (.det (certify_Arrive_p d l_ reach hour) (.tup [.v (.int .i64 ((certify_Arrive d l_ reach hour).1)), .v (.int .i64 ((certify_Arrive d l_ reach hour).2))]))))))
theorem ok_certify_Arrive : FnOk Try.prog 9 C_certify_Arrive := by
  have hG : ConsOk Try.prog (mkG [(20, fun l => C_expand_Check (nrmA [.st .district] l)), (21, fun l => C_certify_read (nrmA [.st .district, .sl .order] l)), (22, fun l => C_certify_table_arrives (nrmA [.st .certifyTable, .o, .o] l))] []) := mkG_ok (by
    intro x hx
    simp only [List.mem_cons, List.not_mem_nil, or_false] at hx
    rcases hx with rfl | rfl | rfl
    · exact ok_expand_Check.norm [.st .district]
    · exact ok_certify_read.norm [.st .district, .sl .order]
    · exact ok_certify_table_arrives.norm [.st .certifyTable, .o, .o]) (by simp)
  refine fn_okN [.o, .o] mixed ts_ok hG (fn := Try.f9) (c := bodyOf Try.f9) (by kernel_rfl) (by kernel_rfl) (by kernel_rfl) (by kernel_rfl) fun l con h hp => ?_
  unfold C_certify_Arrive at h
  obtain ⟨d, l0, rfl, h0⟩ := pD_inv h
  obtain ⟨l_, l1, rfl, h1⟩ := pR_inv h0
  obtain ⟨reach, l2, rfl, h2⟩ := pI_inv h1
  obtain ⟨hour, l3, rfl, h3⟩ := pI_inv h2
  obtain ⟨rfl, rfl⟩ := pE_inv h3
  clear h h0 h1 h2 h3
  dsimp only [conPre] at hp
  unfold certify_Arrive_p at hp
  refine ⟨Nat.le_of_ble_eq_true rfl, (fun id st => none), ?_, ?_⟩
  · unfold bodyOf Try.f9
    simp only [loopsOk, and_self, true_and, and_true]
  · unfold bodyOf Try.f9
    try unfold certify_Arrive
    simp only [go_sem, Nat.reduceBEq, Nat.reduceLeDiff, Nat.reduceAdd, Nat.reduceSub, Nat.reduceMul, Int.reduceLE, Int.reduceLT, Int.reduceToNat, Int.reduceNeg, reduceCtorEq, C_expand_Check, C_certify_read, C_certify_table_arrives]
    all_goals exact cl
def law28_sane : Bool := (bif ((((((((((certify_Accepts ({ name := law28_district.name, hours := law28_district.hours, tank := law28_district.tank, reaches := law28_district.reaches, farms := law28_district.farms, crops := [], rights := law28_district.rights, duties := [], wells := [] } : District) ([({ right := 0, farm := 0, hour := 3, litres := 3, rank := 0 } : Claim), ({ right := 1, farm := 1, hour := 5, litres := 5, rank := 0 } : Claim)]) ([(law28_gate 2 0 11), (law28_gate 3 1 7), (law28_outlet 3 0 3), (law28_outlet 5 1 5)])).2 != 0) || ((certify_Faults ({ name := law28_district.name, hours := law28_district.hours, tank := law28_district.tank, reaches := law28_district.reaches, farms := law28_district.farms, crops := [], rights := law28_district.rights, duties := [], wells := [] } : District) ([({ right := 0, farm := 0, hour := 3, litres := 3, rank := 0 } : Claim), ({ right := 1, farm := 1, hour := 5, litres := 5, rank := 0 } : Claim)]) ([(law28_gate 2 0 11), (law28_gate 3 1 7), (law28_outlet 3 0 3), (law28_outlet 5 1 5)])).2 != 0)) || ((certify_Arrive ({ name := law28_district.name, hours := law28_district.hours, tank := law28_district.tank, reaches := law28_district.reaches, farms := law28_district.farms, crops := [], rights := law28_district.rights, duties := [], wells := [] } : District) ([(law28_gate 2 0 11), (law28_gate 3 1 7), (law28_outlet 3 0 3), (law28_outlet 5 1 5)]) 1 5).2 != 0)) || ((certify_Faults ({ name := law28_district.name, hours := law28_district.hours, tank := law28_district.tank, reaches := law28_district.reaches, farms := law28_district.farms, crops := [], rights := law28_district.rights, duties := [], wells := [] } : District) ([({ right := 0, farm := 0, hour := 3, litres := 3, rank := 0 } : Claim), ({ right := 1, farm := 1, hour := 5, litres := 5, rank := 0 } : Claim)]) ((((([]) ++ ([(law28_gate 2 0 11), (law28_gate 3 1 7), (law28_outlet 3 0 3), (law28_outlet 5 1 5)])).set 0 ({ hour := ((([]) ++ ([(law28_gate 2 0 11), (law28_gate 3 1 7), (law28_outlet 3 0 3), (law28_outlet 5 1 5)])).getD 0 (default : Order)).hour, index := ((([]) ++ ([(law28_gate 2 0 11), (law28_gate 3 1 7), (law28_outlet 3 0 3), (law28_outlet 5 1 5)])).getD 0 (default : Order)).index, litres := 10, outlet := ((([]) ++ ([(law28_gate 2 0 11), (law28_gate 3 1 7), (law28_outlet 3 0 3), (law28_outlet 5 1 5)])).getD 0 (default : Order)).outlet } : Order)).set 1 ({ hour := (((([]) ++ ([(law28_gate 2 0 11), (law28_gate 3 1 7), (law28_outlet 3 0 3), (law28_outlet 5 1 5)])).set 0 ({ hour := ((([]) ++ ([(law28_gate 2 0 11), (law28_gate 3 1 7), (law28_outlet 3 0 3), (law28_outlet 5 1 5)])).getD 0 (default : Order)).hour, index := ((([]) ++ ([(law28_gate 2 0 11), (law28_gate 3 1 7), (law28_outlet 3 0 3), (law28_outlet 5 1 5)])).getD 0 (default : Order)).index, litres := 10, outlet := ((([]) ++ ([(law28_gate 2 0 11), (law28_gate 3 1 7), (law28_outlet 3 0 3), (law28_outlet 5 1 5)])).getD 0 (default : Order)).outlet } : Order)).getD 1 (default : Order)).hour, index := (((([]) ++ ([(law28_gate 2 0 11), (law28_gate 3 1 7), (law28_outlet 3 0 3), (law28_outlet 5 1 5)])).set 0 ({ hour := ((([]) ++ ([(law28_gate 2 0 11), (law28_gate 3 1 7), (law28_outlet 3 0 3), (law28_outlet 5 1 5)])).getD 0 (default : Order)).hour, index := ((([]) ++ ([(law28_gate 2 0 11), (law28_gate 3 1 7), (law28_outlet 3 0 3), (law28_outlet 5 1 5)])).getD 0 (default : Order)).index, litres := 10, outlet := ((([]) ++ ([(law28_gate 2 0 11), (law28_gate 3 1 7), (law28_outlet 3 0 3), (law28_outlet 5 1 5)])).getD 0 (default : Order)).outlet } : Order)).getD 1 (default : Order)).index, litres := 3, outlet := (((([]) ++ ([(law28_gate 2 0 11), (law28_gate 3 1 7), (law28_outlet 3 0 3), (law28_outlet 5 1 5)])).set 0 ({ hour := ((([]) ++ ([(law28_gate 2 0 11), (law28_gate 3 1 7), (law28_outlet 3 0 3), (law28_outlet 5 1 5)])).getD 0 (default : Order)).hour, index := ((([]) ++ ([(law28_gate 2 0 11), (law28_gate 3 1 7), (law28_outlet 3 0 3), (law28_outlet 5 1 5)])).getD 0 (default : Order)).index, litres := 10, outlet := ((([]) ++ ([(law28_gate 2 0 11), (law28_gate 3 1 7), (law28_outlet 3 0 3), (law28_outlet 5 1 5)])).getD 0 (default : Order)).outlet } : Order)).getD 1 (default : Order)).outlet } : Order)).set 3 ({ hour := ((((([]) ++ ([(law28_gate 2 0 11), (law28_gate 3 1 7), (law28_outlet 3 0 3), (law28_outlet 5 1 5)])).set 0 ({ hour := ((([]) ++ ([(law28_gate 2 0 11), (law28_gate 3 1 7), (law28_outlet 3 0 3), (law28_outlet 5 1 5)])).getD 0 (default : Order)).hour, index := ((([]) ++ ([(law28_gate 2 0 11), (law28_gate 3 1 7), (law28_outlet 3 0 3), (law28_outlet 5 1 5)])).getD 0 (default : Order)).index, litres := 10, outlet := ((([]) ++ ([(law28_gate 2 0 11), (law28_gate 3 1 7), (law28_outlet 3 0 3), (law28_outlet 5 1 5)])).getD 0 (default : Order)).outlet } : Order)).set 1 ({ hour := (((([]) ++ ([(law28_gate 2 0 11), (law28_gate 3 1 7), (law28_outlet 3 0 3), (law28_outlet 5 1 5)])).set 0 ({ hour := ((([]) ++ ([(law28_gate 2 0 11), (law28_gate 3 1 7), (law28_outlet 3 0 3), (law28_outlet 5 1 5)])).getD 0 (default : Order)).hour, index := ((([]) ++ ([(law28_gate 2 0 11), (law28_gate 3 1 7), (law28_outlet 3 0 3), (law28_outlet 5 1 5)])).getD 0 (default : Order)).index, litres := 10, outlet := ((([]) ++ ([(law28_gate 2 0 11), (law28_gate 3 1 7), (law28_outlet 3 0 3), (law28_outlet 5 1 5)])).getD 0 (default : Order)).outlet } : Order)).getD 1 (default : Order)).hour, index := (((([]) ++ ([(law28_gate 2 0 11), (law28_gate 3 1 7), (law28_outlet 3 0 3), (law28_outlet 5 1 5)])).set 0 ({ hour := ((([]) ++ ([(law28_gate 2 0 11), (law28_gate 3 1 7), (law28_outlet 3 0 3), (law28_outlet 5 1 5)])).getD 0 (default : Order)).hour, index := ((([]) ++ ([(law28_gate 2 0 11), (law28_gate 3 1 7), (law28_outlet 3 0 3), (law28_outlet 5 1 5)])).getD 0 (default : Order)).index, litres := 10, outlet := ((([]) ++ ([(law28_gate 2 0 11), (law28_gate 3 1 7), (law28_outlet 3 0 3), (law28_outlet 5 1 5)])).getD 0 (default : Order)).outlet } : Order)).getD 1 (default : Order)).index, litres := 3, outlet := (((([]) ++ ([(law28_gate 2 0 11), (law28_gate 3 1 7), (law28_outlet 3 0 3), (law28_outlet 5 1 5)])).set 0 ({ hour := ((([]) ++ ([(law28_gate 2 0 11), (law28_gate 3 1 7), (law28_outlet 3 0 3), (law28_outlet 5 1 5)])).getD 0 (default : Order)).hour, index := ((([]) ++ ([(law28_gate 2 0 11), (law28_gate 3 1 7), (law28_outlet 3 0 3), (law28_outlet 5 1 5)])).getD 0 (default : Order)).index, litres := 10, outlet := ((([]) ++ ([(law28_gate 2 0 11), (law28_gate 3 1 7), (law28_outlet 3 0 3), (law28_outlet 5 1 5)])).getD 0 (default : Order)).outlet } : Order)).getD 1 (default : Order)).outlet } : Order)).getD 3 (default : Order)).hour, index := ((((([]) ++ ([(law28_gate 2 0 11), (law28_gate 3 1 7), (law28_outlet 3 0 3), (law28_outlet 5 1 5)])).set 0 ({ hour := ((([]) ++ ([(law28_gate 2 0 11), (law28_gate 3 1 7), (law28_outlet 3 0 3), (law28_outlet 5 1 5)])).getD 0 (default : Order)).hour, index := ((([]) ++ ([(law28_gate 2 0 11), (law28_gate 3 1 7), (law28_outlet 3 0 3), (law28_outlet 5 1 5)])).getD 0 (default : Order)).index, litres := 10, outlet := ((([]) ++ ([(law28_gate 2 0 11), (law28_gate 3 1 7), (law28_outlet 3 0 3), (law28_outlet 5 1 5)])).getD 0 (default : Order)).outlet } : Order)).set 1 ({ hour := (((([]) ++ ([(law28_gate 2 0 11), (law28_gate 3 1 7), (law28_outlet 3 0 3), (law28_outlet 5 1 5)])).set 0 ({ hour := ((([]) ++ ([(law28_gate 2 0 11), (law28_gate 3 1 7), (law28_outlet 3 0 3), (law28_outlet 5 1 5)])).getD 0 (default : Order)).hour, index := ((([]) ++ ([(law28_gate 2 0 11), (law28_gate 3 1 7), (law28_outlet 3 0 3), (law28_outlet 5 1 5)])).getD 0 (default : Order)).index, litres := 10, outlet := ((([]) ++ ([(law28_gate 2 0 11), (law28_gate 3 1 7), (law28_outlet 3 0 3), (law28_outlet 5 1 5)])).getD 0 (default : Order)).outlet } : Order)).getD 1 (default : Order)).hour, index := (((([]) ++ ([(law28_gate 2 0 11), (law28_gate 3 1 7), (law28_outlet 3 0 3), (law28_outlet 5 1 5)])).set 0 ({ hour := ((([]) ++ ([(law28_gate 2 0 11), (law28_gate 3 1 7), (law28_outlet 3 0 3), (law28_outlet 5 1 5)])).getD 0 (default : Order)).hour, index := ((([]) ++ ([(law28_gate 2 0 11), (law28_gate 3 1 7), (law28_outlet 3 0 3), (law28_outlet 5 1 5)])).getD 0 (default : Order)).index, litres := 10, outlet := ((([]) ++ ([(law28_gate 2 0 11), (law28_gate 3 1 7), (law28_outlet 3 0 3), (law28_outlet 5 1 5)])).getD 0 (default : Order)).outlet } : Order)).getD 1 (default : Order)).index, litres := 3, outlet := (((([]) ++ ([(law28_gate 2 0 11), (law28_gate 3 1 7), (law28_outlet 3 0 3), (law28_outlet 5 1 5)])).set 0 ({ hour := ((([]) ++ ([(law28_gate 2 0 11), (law28_gate 3 1 7), (law28_outlet 3 0 3), (law28_outlet 5 1 5)])).getD 0 (default : Order)).hour, index := ((([]) ++ ([(law28_gate 2 0 11), (law28_gate 3 1 7), (law28_outlet 3 0 3), (law28_outlet 5 1 5)])).getD 0 (default : Order)).index, litres := 10, outlet := ((([]) ++ ([(law28_gate 2 0 11), (law28_gate 3 1 7), (law28_outlet 3 0 3), (law28_outlet 5 1 5)])).getD 0 (default : Order)).outlet } : Order)).getD 1 (default : Order)).outlet } : Order)).getD 3 (default : Order)).index, litres := 4, outlet := ((((([]) ++ ([(law28_gate 2 0 11), (law28_gate 3 1 7), (law28_outlet 3 0 3), (law28_outlet 5 1 5)])).set 0 ({ hour := ((([]) ++ ([(law28_gate 2 0 11), (law28_gate 3 1 7), (law28_outlet 3 0 3), (law28_outlet 5 1 5)])).getD 0 (default : Order)).hour, index := ((([]) ++ ([(law28_gate 2 0 11), (law28_gate 3 1 7), (law28_outlet 3 0 3), (law28_outlet 5 1 5)])).getD 0 (default : Order)).index, litres := 10, outlet := ((([]) ++ ([(law28_gate 2 0 11), (law28_gate 3 1 7), (law28_outlet 3 0 3), (law28_outlet 5 1 5)])).getD 0 (default : Order)).outlet } : Order)).set 1 ({ hour := (((([]) ++ ([(law28_gate 2 0 11), (law28_gate 3 1 7), (law28_outlet 3 0 3), (law28_outlet 5 1 5)])).set 0 ({ hour := ((([]) ++ ([(law28_gate 2 0 11), (law28_gate 3 1 7), (law28_outlet 3 0 3), (law28_outlet 5 1 5)])).getD 0 (default : Order)).hour, index := ((([]) ++ ([(law28_gate 2 0 11), (law28_gate 3 1 7), (law28_outlet 3 0 3), (law28_outlet 5 1 5)])).getD 0 (default : Order)).index, litres := 10, outlet := ((([]) ++ ([(law28_gate 2 0 11), (law28_gate 3 1 7), (law28_outlet 3 0 3), (law28_outlet 5 1 5)])).getD 0 (default : Order)).outlet } : Order)).getD 1 (default : Order)).hour, index := (((([]) ++ ([(law28_gate 2 0 11), (law28_gate 3 1 7), (law28_outlet 3 0 3), (law28_outlet 5 1 5)])).set 0 ({ hour := ((([]) ++ ([(law28_gate 2 0 11), (law28_gate 3 1 7), (law28_outlet 3 0 3), (law28_outlet 5 1 5)])).getD 0 (default : Order)).hour, index := ((([]) ++ ([(law28_gate 2 0 11), (law28_gate 3 1 7), (law28_outlet 3 0 3), (law28_outlet 5 1 5)])).getD 0 (default : Order)).index, litres := 10, outlet := ((([]) ++ ([(law28_gate 2 0 11), (law28_gate 3 1 7), (law28_outlet 3 0 3), (law28_outlet 5 1 5)])).getD 0 (default : Order)).outlet } : Order)).getD 1 (default : Order)).index, litres := 3, outlet := (((([]) ++ ([(law28_gate 2 0 11), (law28_gate 3 1 7), (law28_outlet 3 0 3), (law28_outlet 5 1 5)])).set 0 ({ hour := ((([]) ++ ([(law28_gate 2 0 11), (law28_gate 3 1 7), (law28_outlet 3 0 3), (law28_outlet 5 1 5)])).getD 0 (default : Order)).hour, index := ((([]) ++ ([(law28_gate 2 0 11), (law28_gate 3 1 7), (law28_outlet 3 0 3), (law28_outlet 5 1 5)])).getD 0 (default : Order)).index, litres := 10, outlet := ((([]) ++ ([(law28_gate 2 0 11), (law28_gate 3 1 7), (law28_outlet 3 0 3), (law28_outlet 5 1 5)])).getD 0 (default : Order)).outlet } : Order)).getD 1 (default : Order)).outlet } : Order)).getD 3 (default : Order)).outlet } : Order))).2 != 0)) || ((certify_Faults ({ name := law28_district.name, hours := law28_district.hours, tank := ({ cap := law28_district.tank.cap, start := 10 } : Tank), reaches := ((law28_district.reaches.set 0 ({ name := (law28_district.reaches.getD 0 (default : Reach)).name, up := (law28_district.reaches.getD 0 (default : Reach)).up, delay := (law28_district.reaches.getD 0 (default : Reach)).delay, cap := 9, bank := (law28_district.reaches.getD 0 (default : Reach)).bank, siphon := (law28_district.reaches.getD 0 (default : Reach)).siphon, evap := (law28_district.reaches.getD 0 (default : Reach)).evap, seep := (law28_district.reaches.getD 0 (default : Reach)).seep } : Reach)).set 1 ({ name := ((law28_district.reaches.set 0 ({ name := (law28_district.reaches.getD 0 (default : Reach)).name, up := (law28_district.reaches.getD 0 (default : Reach)).up, delay := (law28_district.reaches.getD 0 (default : Reach)).delay, cap := 9, bank := (law28_district.reaches.getD 0 (default : Reach)).bank, siphon := (law28_district.reaches.getD 0 (default : Reach)).siphon, evap := (law28_district.reaches.getD 0 (default : Reach)).evap, seep := (law28_district.reaches.getD 0 (default : Reach)).seep } : Reach)).getD 1 (default : Reach)).name, up := ((law28_district.reaches.set 0 ({ name := (law28_district.reaches.getD 0 (default : Reach)).name, up := (law28_district.reaches.getD 0 (default : Reach)).up, delay := (law28_district.reaches.getD 0 (default : Reach)).delay, cap := 9, bank := (law28_district.reaches.getD 0 (default : Reach)).bank, siphon := (law28_district.reaches.getD 0 (default : Reach)).siphon, evap := (law28_district.reaches.getD 0 (default : Reach)).evap, seep := (law28_district.reaches.getD 0 (default : Reach)).seep } : Reach)).getD 1 (default : Reach)).up, delay := ((law28_district.reaches.set 0 ({ name := (law28_district.reaches.getD 0 (default : Reach)).name, up := (law28_district.reaches.getD 0 (default : Reach)).up, delay := (law28_district.reaches.getD 0 (default : Reach)).delay, cap := 9, bank := (law28_district.reaches.getD 0 (default : Reach)).bank, siphon := (law28_district.reaches.getD 0 (default : Reach)).siphon, evap := (law28_district.reaches.getD 0 (default : Reach)).evap, seep := (law28_district.reaches.getD 0 (default : Reach)).seep } : Reach)).getD 1 (default : Reach)).delay, cap := ((law28_district.reaches.set 0 ({ name := (law28_district.reaches.getD 0 (default : Reach)).name, up := (law28_district.reaches.getD 0 (default : Reach)).up, delay := (law28_district.reaches.getD 0 (default : Reach)).delay, cap := 9, bank := (law28_district.reaches.getD 0 (default : Reach)).bank, siphon := (law28_district.reaches.getD 0 (default : Reach)).siphon, evap := (law28_district.reaches.getD 0 (default : Reach)).evap, seep := (law28_district.reaches.getD 0 (default : Reach)).seep } : Reach)).getD 1 (default : Reach)).cap, bank := 6, siphon := ((law28_district.reaches.set 0 ({ name := (law28_district.reaches.getD 0 (default : Reach)).name, up := (law28_district.reaches.getD 0 (default : Reach)).up, delay := (law28_district.reaches.getD 0 (default : Reach)).delay, cap := 9, bank := (law28_district.reaches.getD 0 (default : Reach)).bank, siphon := (law28_district.reaches.getD 0 (default : Reach)).siphon, evap := (law28_district.reaches.getD 0 (default : Reach)).evap, seep := (law28_district.reaches.getD 0 (default : Reach)).seep } : Reach)).getD 1 (default : Reach)).siphon, evap := ((law28_district.reaches.set 0 ({ name := (law28_district.reaches.getD 0 (default : Reach)).name, up := (law28_district.reaches.getD 0 (default : Reach)).up, delay := (law28_district.reaches.getD 0 (default : Reach)).delay, cap := 9, bank := (law28_district.reaches.getD 0 (default : Reach)).bank, siphon := (law28_district.reaches.getD 0 (default : Reach)).siphon, evap := (law28_district.reaches.getD 0 (default : Reach)).evap, seep := (law28_district.reaches.getD 0 (default : Reach)).seep } : Reach)).getD 1 (default : Reach)).evap, seep := ((law28_district.reaches.set 0 ({ name := (law28_district.reaches.getD 0 (default : Reach)).name, up := (law28_district.reaches.getD 0 (default : Reach)).up, delay := (law28_district.reaches.getD 0 (default : Reach)).delay, cap := 9, bank := (law28_district.reaches.getD 0 (default : Reach)).bank, siphon := (law28_district.reaches.getD 0 (default : Reach)).siphon, evap := (law28_district.reaches.getD 0 (default : Reach)).evap, seep := (law28_district.reaches.getD 0 (default : Reach)).seep } : Reach)).getD 1 (default : Reach)).seep } : Reach)), farms := law28_district.farms, crops := [], rights := law28_district.rights, duties := [], wells := [] } : District) ([]) ([(law28_gate 2 0 11), (law28_gate 3 1 7), (law28_outlet 3 0 3), (law28_outlet 5 1 5)])).2 != 0)) || ((certify_Accepts ({ name := law28_district.name, hours := law28_district.hours, tank := ({ cap := law28_district.tank.cap, start := 10 } : Tank), reaches := ((law28_district.reaches.set 0 ({ name := (law28_district.reaches.getD 0 (default : Reach)).name, up := (law28_district.reaches.getD 0 (default : Reach)).up, delay := (law28_district.reaches.getD 0 (default : Reach)).delay, cap := 9, bank := (law28_district.reaches.getD 0 (default : Reach)).bank, siphon := (law28_district.reaches.getD 0 (default : Reach)).siphon, evap := (law28_district.reaches.getD 0 (default : Reach)).evap, seep := (law28_district.reaches.getD 0 (default : Reach)).seep } : Reach)).set 1 ({ name := ((law28_district.reaches.set 0 ({ name := (law28_district.reaches.getD 0 (default : Reach)).name, up := (law28_district.reaches.getD 0 (default : Reach)).up, delay := (law28_district.reaches.getD 0 (default : Reach)).delay, cap := 9, bank := (law28_district.reaches.getD 0 (default : Reach)).bank, siphon := (law28_district.reaches.getD 0 (default : Reach)).siphon, evap := (law28_district.reaches.getD 0 (default : Reach)).evap, seep := (law28_district.reaches.getD 0 (default : Reach)).seep } : Reach)).getD 1 (default : Reach)).name, up := ((law28_district.reaches.set 0 ({ name := (law28_district.reaches.getD 0 (default : Reach)).name, up := (law28_district.reaches.getD 0 (default : Reach)).up, delay := (law28_district.reaches.getD 0 (default : Reach)).delay, cap := 9, bank := (law28_district.reaches.getD 0 (default : Reach)).bank, siphon := (law28_district.reaches.getD 0 (default : Reach)).siphon, evap := (law28_district.reaches.getD 0 (default : Reach)).evap, seep := (law28_district.reaches.getD 0 (default : Reach)).seep } : Reach)).getD 1 (default : Reach)).up, delay := ((law28_district.reaches.set 0 ({ name := (law28_district.reaches.getD 0 (default : Reach)).name, up := (law28_district.reaches.getD 0 (default : Reach)).up, delay := (law28_district.reaches.getD 0 (default : Reach)).delay, cap := 9, bank := (law28_district.reaches.getD 0 (default : Reach)).bank, siphon := (law28_district.reaches.getD 0 (default : Reach)).siphon, evap := (law28_district.reaches.getD 0 (default : Reach)).evap, seep := (law28_district.reaches.getD 0 (default : Reach)).seep } : Reach)).getD 1 (default : Reach)).delay, cap := ((law28_district.reaches.set 0 ({ name := (law28_district.reaches.getD 0 (default : Reach)).name, up := (law28_district.reaches.getD 0 (default : Reach)).up, delay := (law28_district.reaches.getD 0 (default : Reach)).delay, cap := 9, bank := (law28_district.reaches.getD 0 (default : Reach)).bank, siphon := (law28_district.reaches.getD 0 (default : Reach)).siphon, evap := (law28_district.reaches.getD 0 (default : Reach)).evap, seep := (law28_district.reaches.getD 0 (default : Reach)).seep } : Reach)).getD 1 (default : Reach)).cap, bank := 6, siphon := ((law28_district.reaches.set 0 ({ name := (law28_district.reaches.getD 0 (default : Reach)).name, up := (law28_district.reaches.getD 0 (default : Reach)).up, delay := (law28_district.reaches.getD 0 (default : Reach)).delay, cap := 9, bank := (law28_district.reaches.getD 0 (default : Reach)).bank, siphon := (law28_district.reaches.getD 0 (default : Reach)).siphon, evap := (law28_district.reaches.getD 0 (default : Reach)).evap, seep := (law28_district.reaches.getD 0 (default : Reach)).seep } : Reach)).getD 1 (default : Reach)).siphon, evap := ((law28_district.reaches.set 0 ({ name := (law28_district.reaches.getD 0 (default : Reach)).name, up := (law28_district.reaches.getD 0 (default : Reach)).up, delay := (law28_district.reaches.getD 0 (default : Reach)).delay, cap := 9, bank := (law28_district.reaches.getD 0 (default : Reach)).bank, siphon := (law28_district.reaches.getD 0 (default : Reach)).siphon, evap := (law28_district.reaches.getD 0 (default : Reach)).evap, seep := (law28_district.reaches.getD 0 (default : Reach)).seep } : Reach)).getD 1 (default : Reach)).evap, seep := ((law28_district.reaches.set 0 ({ name := (law28_district.reaches.getD 0 (default : Reach)).name, up := (law28_district.reaches.getD 0 (default : Reach)).up, delay := (law28_district.reaches.getD 0 (default : Reach)).delay, cap := 9, bank := (law28_district.reaches.getD 0 (default : Reach)).bank, siphon := (law28_district.reaches.getD 0 (default : Reach)).siphon, evap := (law28_district.reaches.getD 0 (default : Reach)).evap, seep := (law28_district.reaches.getD 0 (default : Reach)).seep } : Reach)).getD 1 (default : Reach)).seep } : Reach)), farms := law28_district.farms, crops := [], rights := law28_district.rights, duties := [], wells := [] } : District) ([]) ([])).2 != 0)) || ((certify_Accepts ({ name := (ByteArray.mk #[]), hours := 0, tank := ({ cap := 0, start := 0 } : Tank), reaches := [], farms := [], crops := [], rights := [], duties := [], wells := [] } : District) ([]) ([])).2 != 191)) || ((certify_Arrive ({ name := law28_district.name, hours := law28_district.hours, tank := ({ cap := law28_district.tank.cap, start := 10 } : Tank), reaches := ((law28_district.reaches.set 0 ({ name := (law28_district.reaches.getD 0 (default : Reach)).name, up := (law28_district.reaches.getD 0 (default : Reach)).up, delay := (law28_district.reaches.getD 0 (default : Reach)).delay, cap := 9, bank := (law28_district.reaches.getD 0 (default : Reach)).bank, siphon := (law28_district.reaches.getD 0 (default : Reach)).siphon, evap := (law28_district.reaches.getD 0 (default : Reach)).evap, seep := (law28_district.reaches.getD 0 (default : Reach)).seep } : Reach)).set 1 ({ name := ((law28_district.reaches.set 0 ({ name := (law28_district.reaches.getD 0 (default : Reach)).name, up := (law28_district.reaches.getD 0 (default : Reach)).up, delay := (law28_district.reaches.getD 0 (default : Reach)).delay, cap := 9, bank := (law28_district.reaches.getD 0 (default : Reach)).bank, siphon := (law28_district.reaches.getD 0 (default : Reach)).siphon, evap := (law28_district.reaches.getD 0 (default : Reach)).evap, seep := (law28_district.reaches.getD 0 (default : Reach)).seep } : Reach)).getD 1 (default : Reach)).name, up := ((law28_district.reaches.set 0 ({ name := (law28_district.reaches.getD 0 (default : Reach)).name, up := (law28_district.reaches.getD 0 (default : Reach)).up, delay := (law28_district.reaches.getD 0 (default : Reach)).delay, cap := 9, bank := (law28_district.reaches.getD 0 (default : Reach)).bank, siphon := (law28_district.reaches.getD 0 (default : Reach)).siphon, evap := (law28_district.reaches.getD 0 (default : Reach)).evap, seep := (law28_district.reaches.getD 0 (default : Reach)).seep } : Reach)).getD 1 (default : Reach)).up, delay := ((law28_district.reaches.set 0 ({ name := (law28_district.reaches.getD 0 (default : Reach)).name, up := (law28_district.reaches.getD 0 (default : Reach)).up, delay := (law28_district.reaches.getD 0 (default : Reach)).delay, cap := 9, bank := (law28_district.reaches.getD 0 (default : Reach)).bank, siphon := (law28_district.reaches.getD 0 (default : Reach)).siphon, evap := (law28_district.reaches.getD 0 (default : Reach)).evap, seep := (law28_district.reaches.getD 0 (default : Reach)).seep } : Reach)).getD 1 (default : Reach)).delay, cap := ((law28_district.reaches.set 0 ({ name := (law28_district.reaches.getD 0 (default : Reach)).name, up := (law28_district.reaches.getD 0 (default : Reach)).up, delay := (law28_district.reaches.getD 0 (default : Reach)).delay, cap := 9, bank := (law28_district.reaches.getD 0 (default : Reach)).bank, siphon := (law28_district.reaches.getD 0 (default : Reach)).siphon, evap := (law28_district.reaches.getD 0 (default : Reach)).evap, seep := (law28_district.reaches.getD 0 (default : Reach)).seep } : Reach)).getD 1 (default : Reach)).cap, bank := 6, siphon := ((law28_district.reaches.set 0 ({ name := (law28_district.reaches.getD 0 (default : Reach)).name, up := (law28_district.reaches.getD 0 (default : Reach)).up, delay := (law28_district.reaches.getD 0 (default : Reach)).delay, cap := 9, bank := (law28_district.reaches.getD 0 (default : Reach)).bank, siphon := (law28_district.reaches.getD 0 (default : Reach)).siphon, evap := (law28_district.reaches.getD 0 (default : Reach)).evap, seep := (law28_district.reaches.getD 0 (default : Reach)).seep } : Reach)).getD 1 (default : Reach)).siphon, evap := ((law28_district.reaches.set 0 ({ name := (law28_district.reaches.getD 0 (default : Reach)).name, up := (law28_district.reaches.getD 0 (default : Reach)).up, delay := (law28_district.reaches.getD 0 (default : Reach)).delay, cap := 9, bank := (law28_district.reaches.getD 0 (default : Reach)).bank, siphon := (law28_district.reaches.getD 0 (default : Reach)).siphon, evap := (law28_district.reaches.getD 0 (default : Reach)).evap, seep := (law28_district.reaches.getD 0 (default : Reach)).seep } : Reach)).getD 1 (default : Reach)).evap, seep := ((law28_district.reaches.set 0 ({ name := (law28_district.reaches.getD 0 (default : Reach)).name, up := (law28_district.reaches.getD 0 (default : Reach)).up, delay := (law28_district.reaches.getD 0 (default : Reach)).delay, cap := 9, bank := (law28_district.reaches.getD 0 (default : Reach)).bank, siphon := (law28_district.reaches.getD 0 (default : Reach)).siphon, evap := (law28_district.reaches.getD 0 (default : Reach)).evap, seep := (law28_district.reaches.getD 0 (default : Reach)).seep } : Reach)).getD 1 (default : Reach)).seep } : Reach)), farms := law28_district.farms, crops := [], rights := law28_district.rights, duties := [], wells := [] } : District) ([]) (-1) 0).2 != 1)) || ((certify_Faults ({ name := law28_district.name, hours := law28_district.hours, tank := ({ cap := law28_district.tank.cap, start := 10 } : Tank), reaches := ((law28_district.reaches.set 0 ({ name := (law28_district.reaches.getD 0 (default : Reach)).name, up := (law28_district.reaches.getD 0 (default : Reach)).up, delay := (law28_district.reaches.getD 0 (default : Reach)).delay, cap := 9, bank := (law28_district.reaches.getD 0 (default : Reach)).bank, siphon := (law28_district.reaches.getD 0 (default : Reach)).siphon, evap := (law28_district.reaches.getD 0 (default : Reach)).evap, seep := (law28_district.reaches.getD 0 (default : Reach)).seep } : Reach)).set 1 ({ name := ((law28_district.reaches.set 0 ({ name := (law28_district.reaches.getD 0 (default : Reach)).name, up := (law28_district.reaches.getD 0 (default : Reach)).up, delay := (law28_district.reaches.getD 0 (default : Reach)).delay, cap := 9, bank := (law28_district.reaches.getD 0 (default : Reach)).bank, siphon := (law28_district.reaches.getD 0 (default : Reach)).siphon, evap := (law28_district.reaches.getD 0 (default : Reach)).evap, seep := (law28_district.reaches.getD 0 (default : Reach)).seep } : Reach)).getD 1 (default : Reach)).name, up := ((law28_district.reaches.set 0 ({ name := (law28_district.reaches.getD 0 (default : Reach)).name, up := (law28_district.reaches.getD 0 (default : Reach)).up, delay := (law28_district.reaches.getD 0 (default : Reach)).delay, cap := 9, bank := (law28_district.reaches.getD 0 (default : Reach)).bank, siphon := (law28_district.reaches.getD 0 (default : Reach)).siphon, evap := (law28_district.reaches.getD 0 (default : Reach)).evap, seep := (law28_district.reaches.getD 0 (default : Reach)).seep } : Reach)).getD 1 (default : Reach)).up, delay := ((law28_district.reaches.set 0 ({ name := (law28_district.reaches.getD 0 (default : Reach)).name, up := (law28_district.reaches.getD 0 (default : Reach)).up, delay := (law28_district.reaches.getD 0 (default : Reach)).delay, cap := 9, bank := (law28_district.reaches.getD 0 (default : Reach)).bank, siphon := (law28_district.reaches.getD 0 (default : Reach)).siphon, evap := (law28_district.reaches.getD 0 (default : Reach)).evap, seep := (law28_district.reaches.getD 0 (default : Reach)).seep } : Reach)).getD 1 (default : Reach)).delay, cap := ((law28_district.reaches.set 0 ({ name := (law28_district.reaches.getD 0 (default : Reach)).name, up := (law28_district.reaches.getD 0 (default : Reach)).up, delay := (law28_district.reaches.getD 0 (default : Reach)).delay, cap := 9, bank := (law28_district.reaches.getD 0 (default : Reach)).bank, siphon := (law28_district.reaches.getD 0 (default : Reach)).siphon, evap := (law28_district.reaches.getD 0 (default : Reach)).evap, seep := (law28_district.reaches.getD 0 (default : Reach)).seep } : Reach)).getD 1 (default : Reach)).cap, bank := 6, siphon := ((law28_district.reaches.set 0 ({ name := (law28_district.reaches.getD 0 (default : Reach)).name, up := (law28_district.reaches.getD 0 (default : Reach)).up, delay := (law28_district.reaches.getD 0 (default : Reach)).delay, cap := 9, bank := (law28_district.reaches.getD 0 (default : Reach)).bank, siphon := (law28_district.reaches.getD 0 (default : Reach)).siphon, evap := (law28_district.reaches.getD 0 (default : Reach)).evap, seep := (law28_district.reaches.getD 0 (default : Reach)).seep } : Reach)).getD 1 (default : Reach)).siphon, evap := ((law28_district.reaches.set 0 ({ name := (law28_district.reaches.getD 0 (default : Reach)).name, up := (law28_district.reaches.getD 0 (default : Reach)).up, delay := (law28_district.reaches.getD 0 (default : Reach)).delay, cap := 9, bank := (law28_district.reaches.getD 0 (default : Reach)).bank, siphon := (law28_district.reaches.getD 0 (default : Reach)).siphon, evap := (law28_district.reaches.getD 0 (default : Reach)).evap, seep := (law28_district.reaches.getD 0 (default : Reach)).seep } : Reach)).getD 1 (default : Reach)).evap, seep := ((law28_district.reaches.set 0 ({ name := (law28_district.reaches.getD 0 (default : Reach)).name, up := (law28_district.reaches.getD 0 (default : Reach)).up, delay := (law28_district.reaches.getD 0 (default : Reach)).delay, cap := 9, bank := (law28_district.reaches.getD 0 (default : Reach)).bank, siphon := (law28_district.reaches.getD 0 (default : Reach)).siphon, evap := (law28_district.reaches.getD 0 (default : Reach)).evap, seep := (law28_district.reaches.getD 0 (default : Reach)).seep } : Reach)).getD 1 (default : Reach)).seep } : Reach)), farms := law28_district.farms, crops := [], rights := law28_district.rights, duties := [], wells := [] } : District) ([]) ([({ hour := 0, index := 0, litres := 0, outlet := false } : Order)])).2 != 280)) then false else ((((((certify_Accepts ({ name := law28_district.name, hours := law28_district.hours, tank := law28_district.tank, reaches := law28_district.reaches, farms := law28_district.farms, crops := [], rights := law28_district.rights, duties := [], wells := [] } : District) ([({ right := 0, farm := 0, hour := 3, litres := 3, rank := 0 } : Claim), ({ right := 1, farm := 1, hour := 5, litres := 5, rank := 0 } : Claim)]) ([(law28_gate 2 0 11), (law28_gate 3 1 7), (law28_outlet 3 0 3), (law28_outlet 5 1 5)])).1 && ((((certify_Faults ({ name := law28_district.name, hours := law28_district.hours, tank := law28_district.tank, reaches := law28_district.reaches, farms := law28_district.farms, crops := [], rights := law28_district.rights, duties := [], wells := [] } : District) ([({ right := 0, farm := 0, hour := 3, litres := 3, rank := 0 } : Claim), ({ right := 1, farm := 1, hour := 5, litres := 5, rank := 0 } : Claim)]) ([(law28_gate 2 0 11), (law28_gate 3 1 7), (law28_outlet 3 0 3), (law28_outlet 5 1 5)])).1).length : Int) == 0)) && ((certify_Arrive ({ name := law28_district.name, hours := law28_district.hours, tank := law28_district.tank, reaches := law28_district.reaches, farms := law28_district.farms, crops := [], rights := law28_district.rights, duties := [], wells := [] } : District) ([(law28_gate 2 0 11), (law28_gate 3 1 7), (law28_outlet 3 0 3), (law28_outlet 5 1 5)]) 1 5).1 == 5)) && (ref28_Same ((certify_Faults ({ name := law28_district.name, hours := law28_district.hours, tank := law28_district.tank, reaches := law28_district.reaches, farms := law28_district.farms, crops := [], rights := law28_district.rights, duties := [], wells := [] } : District) ([({ right := 0, farm := 0, hour := 3, litres := 3, rank := 0 } : Claim), ({ right := 1, farm := 1, hour := 5, litres := 5, rank := 0 } : Claim)]) ((((([]) ++ ([(law28_gate 2 0 11), (law28_gate 3 1 7), (law28_outlet 3 0 3), (law28_outlet 5 1 5)])).set 0 ({ hour := ((([]) ++ ([(law28_gate 2 0 11), (law28_gate 3 1 7), (law28_outlet 3 0 3), (law28_outlet 5 1 5)])).getD 0 (default : Order)).hour, index := ((([]) ++ ([(law28_gate 2 0 11), (law28_gate 3 1 7), (law28_outlet 3 0 3), (law28_outlet 5 1 5)])).getD 0 (default : Order)).index, litres := 10, outlet := ((([]) ++ ([(law28_gate 2 0 11), (law28_gate 3 1 7), (law28_outlet 3 0 3), (law28_outlet 5 1 5)])).getD 0 (default : Order)).outlet } : Order)).set 1 ({ hour := (((([]) ++ ([(law28_gate 2 0 11), (law28_gate 3 1 7), (law28_outlet 3 0 3), (law28_outlet 5 1 5)])).set 0 ({ hour := ((([]) ++ ([(law28_gate 2 0 11), (law28_gate 3 1 7), (law28_outlet 3 0 3), (law28_outlet 5 1 5)])).getD 0 (default : Order)).hour, index := ((([]) ++ ([(law28_gate 2 0 11), (law28_gate 3 1 7), (law28_outlet 3 0 3), (law28_outlet 5 1 5)])).getD 0 (default : Order)).index, litres := 10, outlet := ((([]) ++ ([(law28_gate 2 0 11), (law28_gate 3 1 7), (law28_outlet 3 0 3), (law28_outlet 5 1 5)])).getD 0 (default : Order)).outlet } : Order)).getD 1 (default : Order)).hour, index := (((([]) ++ ([(law28_gate 2 0 11), (law28_gate 3 1 7), (law28_outlet 3 0 3), (law28_outlet 5 1 5)])).set 0 ({ hour := ((([]) ++ ([(law28_gate 2 0 11), (law28_gate 3 1 7), (law28_outlet 3 0 3), (law28_outlet 5 1 5)])).getD 0 (default : Order)).hour, index := ((([]) ++ ([(law28_gate 2 0 11), (law28_gate 3 1 7), (law28_outlet 3 0 3), (law28_outlet 5 1 5)])).getD 0 (default : Order)).index, litres := 10, outlet := ((([]) ++ ([(law28_gate 2 0 11), (law28_gate 3 1 7), (law28_outlet 3 0 3), (law28_outlet 5 1 5)])).getD 0 (default : Order)).outlet } : Order)).getD 1 (default : Order)).index, litres := 3, outlet := (((([]) ++ ([(law28_gate 2 0 11), (law28_gate 3 1 7), (law28_outlet 3 0 3), (law28_outlet 5 1 5)])).set 0 ({ hour := ((([]) ++ ([(law28_gate 2 0 11), (law28_gate 3 1 7), (law28_outlet 3 0 3), (law28_outlet 5 1 5)])).getD 0 (default : Order)).hour, index := ((([]) ++ ([(law28_gate 2 0 11), (law28_gate 3 1 7), (law28_outlet 3 0 3), (law28_outlet 5 1 5)])).getD 0 (default : Order)).index, litres := 10, outlet := ((([]) ++ ([(law28_gate 2 0 11), (law28_gate 3 1 7), (law28_outlet 3 0 3), (law28_outlet 5 1 5)])).getD 0 (default : Order)).outlet } : Order)).getD 1 (default : Order)).outlet } : Order)).set 3 ({ hour := ((((([]) ++ ([(law28_gate 2 0 11), (law28_gate 3 1 7), (law28_outlet 3 0 3), (law28_outlet 5 1 5)])).set 0 ({ hour := ((([]) ++ ([(law28_gate 2 0 11), (law28_gate 3 1 7), (law28_outlet 3 0 3), (law28_outlet 5 1 5)])).getD 0 (default : Order)).hour, index := ((([]) ++ ([(law28_gate 2 0 11), (law28_gate 3 1 7), (law28_outlet 3 0 3), (law28_outlet 5 1 5)])).getD 0 (default : Order)).index, litres := 10, outlet := ((([]) ++ ([(law28_gate 2 0 11), (law28_gate 3 1 7), (law28_outlet 3 0 3), (law28_outlet 5 1 5)])).getD 0 (default : Order)).outlet } : Order)).set 1 ({ hour := (((([]) ++ ([(law28_gate 2 0 11), (law28_gate 3 1 7), (law28_outlet 3 0 3), (law28_outlet 5 1 5)])).set 0 ({ hour := ((([]) ++ ([(law28_gate 2 0 11), (law28_gate 3 1 7), (law28_outlet 3 0 3), (law28_outlet 5 1 5)])).getD 0 (default : Order)).hour, index := ((([]) ++ ([(law28_gate 2 0 11), (law28_gate 3 1 7), (law28_outlet 3 0 3), (law28_outlet 5 1 5)])).getD 0 (default : Order)).index, litres := 10, outlet := ((([]) ++ ([(law28_gate 2 0 11), (law28_gate 3 1 7), (law28_outlet 3 0 3), (law28_outlet 5 1 5)])).getD 0 (default : Order)).outlet } : Order)).getD 1 (default : Order)).hour, index := (((([]) ++ ([(law28_gate 2 0 11), (law28_gate 3 1 7), (law28_outlet 3 0 3), (law28_outlet 5 1 5)])).set 0 ({ hour := ((([]) ++ ([(law28_gate 2 0 11), (law28_gate 3 1 7), (law28_outlet 3 0 3), (law28_outlet 5 1 5)])).getD 0 (default : Order)).hour, index := ((([]) ++ ([(law28_gate 2 0 11), (law28_gate 3 1 7), (law28_outlet 3 0 3), (law28_outlet 5 1 5)])).getD 0 (default : Order)).index, litres := 10, outlet := ((([]) ++ ([(law28_gate 2 0 11), (law28_gate 3 1 7), (law28_outlet 3 0 3), (law28_outlet 5 1 5)])).getD 0 (default : Order)).outlet } : Order)).getD 1 (default : Order)).index, litres := 3, outlet := (((([]) ++ ([(law28_gate 2 0 11), (law28_gate 3 1 7), (law28_outlet 3 0 3), (law28_outlet 5 1 5)])).set 0 ({ hour := ((([]) ++ ([(law28_gate 2 0 11), (law28_gate 3 1 7), (law28_outlet 3 0 3), (law28_outlet 5 1 5)])).getD 0 (default : Order)).hour, index := ((([]) ++ ([(law28_gate 2 0 11), (law28_gate 3 1 7), (law28_outlet 3 0 3), (law28_outlet 5 1 5)])).getD 0 (default : Order)).index, litres := 10, outlet := ((([]) ++ ([(law28_gate 2 0 11), (law28_gate 3 1 7), (law28_outlet 3 0 3), (law28_outlet 5 1 5)])).getD 0 (default : Order)).outlet } : Order)).getD 1 (default : Order)).outlet } : Order)).getD 3 (default : Order)).hour, index := ((((([]) ++ ([(law28_gate 2 0 11), (law28_gate 3 1 7), (law28_outlet 3 0 3), (law28_outlet 5 1 5)])).set 0 ({ hour := ((([]) ++ ([(law28_gate 2 0 11), (law28_gate 3 1 7), (law28_outlet 3 0 3), (law28_outlet 5 1 5)])).getD 0 (default : Order)).hour, index := ((([]) ++ ([(law28_gate 2 0 11), (law28_gate 3 1 7), (law28_outlet 3 0 3), (law28_outlet 5 1 5)])).getD 0 (default : Order)).index, litres := 10, outlet := ((([]) ++ ([(law28_gate 2 0 11), (law28_gate 3 1 7), (law28_outlet 3 0 3), (law28_outlet 5 1 5)])).getD 0 (default : Order)).outlet } : Order)).set 1 ({ hour := (((([]) ++ ([(law28_gate 2 0 11), (law28_gate 3 1 7), (law28_outlet 3 0 3), (law28_outlet 5 1 5)])).set 0 ({ hour := ((([]) ++ ([(law28_gate 2 0 11), (law28_gate 3 1 7), (law28_outlet 3 0 3), (law28_outlet 5 1 5)])).getD 0 (default : Order)).hour, index := ((([]) ++ ([(law28_gate 2 0 11), (law28_gate 3 1 7), (law28_outlet 3 0 3), (law28_outlet 5 1 5)])).getD 0 (default : Order)).index, litres := 10, outlet := ((([]) ++ ([(law28_gate 2 0 11), (law28_gate 3 1 7), (law28_outlet 3 0 3), (law28_outlet 5 1 5)])).getD 0 (default : Order)).outlet } : Order)).getD 1 (default : Order)).hour, index := (((([]) ++ ([(law28_gate 2 0 11), (law28_gate 3 1 7), (law28_outlet 3 0 3), (law28_outlet 5 1 5)])).set 0 ({ hour := ((([]) ++ ([(law28_gate 2 0 11), (law28_gate 3 1 7), (law28_outlet 3 0 3), (law28_outlet 5 1 5)])).getD 0 (default : Order)).hour, index := ((([]) ++ ([(law28_gate 2 0 11), (law28_gate 3 1 7), (law28_outlet 3 0 3), (law28_outlet 5 1 5)])).getD 0 (default : Order)).index, litres := 10, outlet := ((([]) ++ ([(law28_gate 2 0 11), (law28_gate 3 1 7), (law28_outlet 3 0 3), (law28_outlet 5 1 5)])).getD 0 (default : Order)).outlet } : Order)).getD 1 (default : Order)).index, litres := 3, outlet := (((([]) ++ ([(law28_gate 2 0 11), (law28_gate 3 1 7), (law28_outlet 3 0 3), (law28_outlet 5 1 5)])).set 0 ({ hour := ((([]) ++ ([(law28_gate 2 0 11), (law28_gate 3 1 7), (law28_outlet 3 0 3), (law28_outlet 5 1 5)])).getD 0 (default : Order)).hour, index := ((([]) ++ ([(law28_gate 2 0 11), (law28_gate 3 1 7), (law28_outlet 3 0 3), (law28_outlet 5 1 5)])).getD 0 (default : Order)).index, litres := 10, outlet := ((([]) ++ ([(law28_gate 2 0 11), (law28_gate 3 1 7), (law28_outlet 3 0 3), (law28_outlet 5 1 5)])).getD 0 (default : Order)).outlet } : Order)).getD 1 (default : Order)).outlet } : Order)).getD 3 (default : Order)).index, litres := 4, outlet := ((((([]) ++ ([(law28_gate 2 0 11), (law28_gate 3 1 7), (law28_outlet 3 0 3), (law28_outlet 5 1 5)])).set 0 ({ hour := ((([]) ++ ([(law28_gate 2 0 11), (law28_gate 3 1 7), (law28_outlet 3 0 3), (law28_outlet 5 1 5)])).getD 0 (default : Order)).hour, index := ((([]) ++ ([(law28_gate 2 0 11), (law28_gate 3 1 7), (law28_outlet 3 0 3), (law28_outlet 5 1 5)])).getD 0 (default : Order)).index, litres := 10, outlet := ((([]) ++ ([(law28_gate 2 0 11), (law28_gate 3 1 7), (law28_outlet 3 0 3), (law28_outlet 5 1 5)])).getD 0 (default : Order)).outlet } : Order)).set 1 ({ hour := (((([]) ++ ([(law28_gate 2 0 11), (law28_gate 3 1 7), (law28_outlet 3 0 3), (law28_outlet 5 1 5)])).set 0 ({ hour := ((([]) ++ ([(law28_gate 2 0 11), (law28_gate 3 1 7), (law28_outlet 3 0 3), (law28_outlet 5 1 5)])).getD 0 (default : Order)).hour, index := ((([]) ++ ([(law28_gate 2 0 11), (law28_gate 3 1 7), (law28_outlet 3 0 3), (law28_outlet 5 1 5)])).getD 0 (default : Order)).index, litres := 10, outlet := ((([]) ++ ([(law28_gate 2 0 11), (law28_gate 3 1 7), (law28_outlet 3 0 3), (law28_outlet 5 1 5)])).getD 0 (default : Order)).outlet } : Order)).getD 1 (default : Order)).hour, index := (((([]) ++ ([(law28_gate 2 0 11), (law28_gate 3 1 7), (law28_outlet 3 0 3), (law28_outlet 5 1 5)])).set 0 ({ hour := ((([]) ++ ([(law28_gate 2 0 11), (law28_gate 3 1 7), (law28_outlet 3 0 3), (law28_outlet 5 1 5)])).getD 0 (default : Order)).hour, index := ((([]) ++ ([(law28_gate 2 0 11), (law28_gate 3 1 7), (law28_outlet 3 0 3), (law28_outlet 5 1 5)])).getD 0 (default : Order)).index, litres := 10, outlet := ((([]) ++ ([(law28_gate 2 0 11), (law28_gate 3 1 7), (law28_outlet 3 0 3), (law28_outlet 5 1 5)])).getD 0 (default : Order)).outlet } : Order)).getD 1 (default : Order)).index, litres := 3, outlet := (((([]) ++ ([(law28_gate 2 0 11), (law28_gate 3 1 7), (law28_outlet 3 0 3), (law28_outlet 5 1 5)])).set 0 ({ hour := ((([]) ++ ([(law28_gate 2 0 11), (law28_gate 3 1 7), (law28_outlet 3 0 3), (law28_outlet 5 1 5)])).getD 0 (default : Order)).hour, index := ((([]) ++ ([(law28_gate 2 0 11), (law28_gate 3 1 7), (law28_outlet 3 0 3), (law28_outlet 5 1 5)])).getD 0 (default : Order)).index, litres := 10, outlet := ((([]) ++ ([(law28_gate 2 0 11), (law28_gate 3 1 7), (law28_outlet 3 0 3), (law28_outlet 5 1 5)])).getD 0 (default : Order)).outlet } : Order)).getD 1 (default : Order)).outlet } : Order)).getD 3 (default : Order)).outlet } : Order))).1) ([({ kind := 2, hour := 3, index := 1, litres := 3, limit := 4 } : Fault), ({ kind := 5, hour := 5, index := 1, litres := 4, limit := 1 } : Fault), ({ kind := 6, hour := 5, index := 1, litres := 4, limit := 5 } : Fault)]))) && (ref28_Same ((certify_Faults ({ name := law28_district.name, hours := law28_district.hours, tank := ({ cap := law28_district.tank.cap, start := 10 } : Tank), reaches := ((law28_district.reaches.set 0 ({ name := (law28_district.reaches.getD 0 (default : Reach)).name, up := (law28_district.reaches.getD 0 (default : Reach)).up, delay := (law28_district.reaches.getD 0 (default : Reach)).delay, cap := 9, bank := (law28_district.reaches.getD 0 (default : Reach)).bank, siphon := (law28_district.reaches.getD 0 (default : Reach)).siphon, evap := (law28_district.reaches.getD 0 (default : Reach)).evap, seep := (law28_district.reaches.getD 0 (default : Reach)).seep } : Reach)).set 1 ({ name := ((law28_district.reaches.set 0 ({ name := (law28_district.reaches.getD 0 (default : Reach)).name, up := (law28_district.reaches.getD 0 (default : Reach)).up, delay := (law28_district.reaches.getD 0 (default : Reach)).delay, cap := 9, bank := (law28_district.reaches.getD 0 (default : Reach)).bank, siphon := (law28_district.reaches.getD 0 (default : Reach)).siphon, evap := (law28_district.reaches.getD 0 (default : Reach)).evap, seep := (law28_district.reaches.getD 0 (default : Reach)).seep } : Reach)).getD 1 (default : Reach)).name, up := ((law28_district.reaches.set 0 ({ name := (law28_district.reaches.getD 0 (default : Reach)).name, up := (law28_district.reaches.getD 0 (default : Reach)).up, delay := (law28_district.reaches.getD 0 (default : Reach)).delay, cap := 9, bank := (law28_district.reaches.getD 0 (default : Reach)).bank, siphon := (law28_district.reaches.getD 0 (default : Reach)).siphon, evap := (law28_district.reaches.getD 0 (default : Reach)).evap, seep := (law28_district.reaches.getD 0 (default : Reach)).seep } : Reach)).getD 1 (default : Reach)).up, delay := ((law28_district.reaches.set 0 ({ name := (law28_district.reaches.getD 0 (default : Reach)).name, up := (law28_district.reaches.getD 0 (default : Reach)).up, delay := (law28_district.reaches.getD 0 (default : Reach)).delay, cap := 9, bank := (law28_district.reaches.getD 0 (default : Reach)).bank, siphon := (law28_district.reaches.getD 0 (default : Reach)).siphon, evap := (law28_district.reaches.getD 0 (default : Reach)).evap, seep := (law28_district.reaches.getD 0 (default : Reach)).seep } : Reach)).getD 1 (default : Reach)).delay, cap := ((law28_district.reaches.set 0 ({ name := (law28_district.reaches.getD 0 (default : Reach)).name, up := (law28_district.reaches.getD 0 (default : Reach)).up, delay := (law28_district.reaches.getD 0 (default : Reach)).delay, cap := 9, bank := (law28_district.reaches.getD 0 (default : Reach)).bank, siphon := (law28_district.reaches.getD 0 (default : Reach)).siphon, evap := (law28_district.reaches.getD 0 (default : Reach)).evap, seep := (law28_district.reaches.getD 0 (default : Reach)).seep } : Reach)).getD 1 (default : Reach)).cap, bank := 6, siphon := ((law28_district.reaches.set 0 ({ name := (law28_district.reaches.getD 0 (default : Reach)).name, up := (law28_district.reaches.getD 0 (default : Reach)).up, delay := (law28_district.reaches.getD 0 (default : Reach)).delay, cap := 9, bank := (law28_district.reaches.getD 0 (default : Reach)).bank, siphon := (law28_district.reaches.getD 0 (default : Reach)).siphon, evap := (law28_district.reaches.getD 0 (default : Reach)).evap, seep := (law28_district.reaches.getD 0 (default : Reach)).seep } : Reach)).getD 1 (default : Reach)).siphon, evap := ((law28_district.reaches.set 0 ({ name := (law28_district.reaches.getD 0 (default : Reach)).name, up := (law28_district.reaches.getD 0 (default : Reach)).up, delay := (law28_district.reaches.getD 0 (default : Reach)).delay, cap := 9, bank := (law28_district.reaches.getD 0 (default : Reach)).bank, siphon := (law28_district.reaches.getD 0 (default : Reach)).siphon, evap := (law28_district.reaches.getD 0 (default : Reach)).evap, seep := (law28_district.reaches.getD 0 (default : Reach)).seep } : Reach)).getD 1 (default : Reach)).evap, seep := ((law28_district.reaches.set 0 ({ name := (law28_district.reaches.getD 0 (default : Reach)).name, up := (law28_district.reaches.getD 0 (default : Reach)).up, delay := (law28_district.reaches.getD 0 (default : Reach)).delay, cap := 9, bank := (law28_district.reaches.getD 0 (default : Reach)).bank, siphon := (law28_district.reaches.getD 0 (default : Reach)).siphon, evap := (law28_district.reaches.getD 0 (default : Reach)).evap, seep := (law28_district.reaches.getD 0 (default : Reach)).seep } : Reach)).getD 1 (default : Reach)).seep } : Reach)), farms := law28_district.farms, crops := [], rights := law28_district.rights, duties := [], wells := [] } : District) ([]) ([(law28_gate 2 0 11), (law28_gate 3 1 7), (law28_outlet 3 0 3), (law28_outlet 5 1 5)])).1) ([({ kind := 1, hour := 2, index := 0, litres := 11, limit := 9 } : Fault), ({ kind := 3, hour := 3, index := 1, litres := 7, limit := 6 } : Fault), ({ kind := 3, hour := 4, index := 1, litres := 7, limit := 6 } : Fault), ({ kind := 4, hour := 2, index := 0, litres := 11, limit := 10 } : Fault)]))) && (certify_Accepts ({ name := law28_district.name, hours := law28_district.hours, tank := ({ cap := law28_district.tank.cap, start := 10 } : Tank), reaches := ((law28_district.reaches.set 0 ({ name := (law28_district.reaches.getD 0 (default : Reach)).name, up := (law28_district.reaches.getD 0 (default : Reach)).up, delay := (law28_district.reaches.getD 0 (default : Reach)).delay, cap := 9, bank := (law28_district.reaches.getD 0 (default : Reach)).bank, siphon := (law28_district.reaches.getD 0 (default : Reach)).siphon, evap := (law28_district.reaches.getD 0 (default : Reach)).evap, seep := (law28_district.reaches.getD 0 (default : Reach)).seep } : Reach)).set 1 ({ name := ((law28_district.reaches.set 0 ({ name := (law28_district.reaches.getD 0 (default : Reach)).name, up := (law28_district.reaches.getD 0 (default : Reach)).up, delay := (law28_district.reaches.getD 0 (default : Reach)).delay, cap := 9, bank := (law28_district.reaches.getD 0 (default : Reach)).bank, siphon := (law28_district.reaches.getD 0 (default : Reach)).siphon, evap := (law28_district.reaches.getD 0 (default : Reach)).evap, seep := (law28_district.reaches.getD 0 (default : Reach)).seep } : Reach)).getD 1 (default : Reach)).name, up := ((law28_district.reaches.set 0 ({ name := (law28_district.reaches.getD 0 (default : Reach)).name, up := (law28_district.reaches.getD 0 (default : Reach)).up, delay := (law28_district.reaches.getD 0 (default : Reach)).delay, cap := 9, bank := (law28_district.reaches.getD 0 (default : Reach)).bank, siphon := (law28_district.reaches.getD 0 (default : Reach)).siphon, evap := (law28_district.reaches.getD 0 (default : Reach)).evap, seep := (law28_district.reaches.getD 0 (default : Reach)).seep } : Reach)).getD 1 (default : Reach)).up, delay := ((law28_district.reaches.set 0 ({ name := (law28_district.reaches.getD 0 (default : Reach)).name, up := (law28_district.reaches.getD 0 (default : Reach)).up, delay := (law28_district.reaches.getD 0 (default : Reach)).delay, cap := 9, bank := (law28_district.reaches.getD 0 (default : Reach)).bank, siphon := (law28_district.reaches.getD 0 (default : Reach)).siphon, evap := (law28_district.reaches.getD 0 (default : Reach)).evap, seep := (law28_district.reaches.getD 0 (default : Reach)).seep } : Reach)).getD 1 (default : Reach)).delay, cap := ((law28_district.reaches.set 0 ({ name := (law28_district.reaches.getD 0 (default : Reach)).name, up := (law28_district.reaches.getD 0 (default : Reach)).up, delay := (law28_district.reaches.getD 0 (default : Reach)).delay, cap := 9, bank := (law28_district.reaches.getD 0 (default : Reach)).bank, siphon := (law28_district.reaches.getD 0 (default : Reach)).siphon, evap := (law28_district.reaches.getD 0 (default : Reach)).evap, seep := (law28_district.reaches.getD 0 (default : Reach)).seep } : Reach)).getD 1 (default : Reach)).cap, bank := 6, siphon := ((law28_district.reaches.set 0 ({ name := (law28_district.reaches.getD 0 (default : Reach)).name, up := (law28_district.reaches.getD 0 (default : Reach)).up, delay := (law28_district.reaches.getD 0 (default : Reach)).delay, cap := 9, bank := (law28_district.reaches.getD 0 (default : Reach)).bank, siphon := (law28_district.reaches.getD 0 (default : Reach)).siphon, evap := (law28_district.reaches.getD 0 (default : Reach)).evap, seep := (law28_district.reaches.getD 0 (default : Reach)).seep } : Reach)).getD 1 (default : Reach)).siphon, evap := ((law28_district.reaches.set 0 ({ name := (law28_district.reaches.getD 0 (default : Reach)).name, up := (law28_district.reaches.getD 0 (default : Reach)).up, delay := (law28_district.reaches.getD 0 (default : Reach)).delay, cap := 9, bank := (law28_district.reaches.getD 0 (default : Reach)).bank, siphon := (law28_district.reaches.getD 0 (default : Reach)).siphon, evap := (law28_district.reaches.getD 0 (default : Reach)).evap, seep := (law28_district.reaches.getD 0 (default : Reach)).seep } : Reach)).getD 1 (default : Reach)).evap, seep := ((law28_district.reaches.set 0 ({ name := (law28_district.reaches.getD 0 (default : Reach)).name, up := (law28_district.reaches.getD 0 (default : Reach)).up, delay := (law28_district.reaches.getD 0 (default : Reach)).delay, cap := 9, bank := (law28_district.reaches.getD 0 (default : Reach)).bank, siphon := (law28_district.reaches.getD 0 (default : Reach)).siphon, evap := (law28_district.reaches.getD 0 (default : Reach)).evap, seep := (law28_district.reaches.getD 0 (default : Reach)).seep } : Reach)).getD 1 (default : Reach)).seep } : Reach)), farms := law28_district.farms, crops := [], rights := law28_district.rights, duties := [], wells := [] } : District) ([]) ([])).1))
def law28_sane_p : Prop := ((certify_Accepts_p ({ name := law28_district.name, hours := law28_district.hours, tank := law28_district.tank, reaches := law28_district.reaches, farms := law28_district.farms, crops := [], rights := law28_district.rights, duties := [], wells := [] } : District) ([({ right := 0, farm := 0, hour := 3, litres := 3, rank := 0 } : Claim), ({ right := 1, farm := 1, hour := 5, litres := 5, rank := 0 } : Claim)]) ([(law28_gate 2 0 11), (law28_gate 3 1 7), (law28_outlet 3 0 3), (law28_outlet 5 1 5)])) ∧ ((certify_Faults_p ({ name := law28_district.name, hours := law28_district.hours, tank := law28_district.tank, reaches := law28_district.reaches, farms := law28_district.farms, crops := [], rights := law28_district.rights, duties := [], wells := [] } : District) ([({ right := 0, farm := 0, hour := 3, litres := 3, rank := 0 } : Claim), ({ right := 1, farm := 1, hour := 5, litres := 5, rank := 0 } : Claim)]) ([(law28_gate 2 0 11), (law28_gate 3 1 7), (law28_outlet 3 0 3), (law28_outlet 5 1 5)])) ∧ ((certify_Arrive_p ({ name := law28_district.name, hours := law28_district.hours, tank := law28_district.tank, reaches := law28_district.reaches, farms := law28_district.farms, crops := [], rights := law28_district.rights, duties := [], wells := [] } : District) ([(law28_gate 2 0 11), (law28_gate 3 1 7), (law28_outlet 3 0 3), (law28_outlet 5 1 5)]) 1 5) ∧ (((([]) ++ ([(law28_gate 2 0 11), (law28_gate 3 1 7), (law28_outlet 3 0 3), (law28_outlet 5 1 5)])).length * 32 ≤ maxB) ∧ ((([]) ++ ([(law28_gate 2 0 11), (law28_gate 3 1 7), (law28_outlet 3 0 3), (law28_outlet 5 1 5)])).length ≤ maxL → ((0 ≤ 0 ∧ 0 < ((([]) ++ ([(law28_gate 2 0 11), (law28_gate 3 1 7), (law28_outlet 3 0 3), (law28_outlet 5 1 5)])).length : Int)) ∧ ((0 ≤ 1 ∧ 1 < (((([]) ++ ([(law28_gate 2 0 11), (law28_gate 3 1 7), (law28_outlet 3 0 3), (law28_outlet 5 1 5)])).set 0 ({ hour := ((([]) ++ ([(law28_gate 2 0 11), (law28_gate 3 1 7), (law28_outlet 3 0 3), (law28_outlet 5 1 5)])).getD 0 (default : Order)).hour, index := ((([]) ++ ([(law28_gate 2 0 11), (law28_gate 3 1 7), (law28_outlet 3 0 3), (law28_outlet 5 1 5)])).getD 0 (default : Order)).index, litres := 10, outlet := ((([]) ++ ([(law28_gate 2 0 11), (law28_gate 3 1 7), (law28_outlet 3 0 3), (law28_outlet 5 1 5)])).getD 0 (default : Order)).outlet } : Order)).length : Int)) ∧ ((0 ≤ 3 ∧ 3 < ((((([]) ++ ([(law28_gate 2 0 11), (law28_gate 3 1 7), (law28_outlet 3 0 3), (law28_outlet 5 1 5)])).set 0 ({ hour := ((([]) ++ ([(law28_gate 2 0 11), (law28_gate 3 1 7), (law28_outlet 3 0 3), (law28_outlet 5 1 5)])).getD 0 (default : Order)).hour, index := ((([]) ++ ([(law28_gate 2 0 11), (law28_gate 3 1 7), (law28_outlet 3 0 3), (law28_outlet 5 1 5)])).getD 0 (default : Order)).index, litres := 10, outlet := ((([]) ++ ([(law28_gate 2 0 11), (law28_gate 3 1 7), (law28_outlet 3 0 3), (law28_outlet 5 1 5)])).getD 0 (default : Order)).outlet } : Order)).set 1 ({ hour := (((([]) ++ ([(law28_gate 2 0 11), (law28_gate 3 1 7), (law28_outlet 3 0 3), (law28_outlet 5 1 5)])).set 0 ({ hour := ((([]) ++ ([(law28_gate 2 0 11), (law28_gate 3 1 7), (law28_outlet 3 0 3), (law28_outlet 5 1 5)])).getD 0 (default : Order)).hour, index := ((([]) ++ ([(law28_gate 2 0 11), (law28_gate 3 1 7), (law28_outlet 3 0 3), (law28_outlet 5 1 5)])).getD 0 (default : Order)).index, litres := 10, outlet := ((([]) ++ ([(law28_gate 2 0 11), (law28_gate 3 1 7), (law28_outlet 3 0 3), (law28_outlet 5 1 5)])).getD 0 (default : Order)).outlet } : Order)).getD 1 (default : Order)).hour, index := (((([]) ++ ([(law28_gate 2 0 11), (law28_gate 3 1 7), (law28_outlet 3 0 3), (law28_outlet 5 1 5)])).set 0 ({ hour := ((([]) ++ ([(law28_gate 2 0 11), (law28_gate 3 1 7), (law28_outlet 3 0 3), (law28_outlet 5 1 5)])).getD 0 (default : Order)).hour, index := ((([]) ++ ([(law28_gate 2 0 11), (law28_gate 3 1 7), (law28_outlet 3 0 3), (law28_outlet 5 1 5)])).getD 0 (default : Order)).index, litres := 10, outlet := ((([]) ++ ([(law28_gate 2 0 11), (law28_gate 3 1 7), (law28_outlet 3 0 3), (law28_outlet 5 1 5)])).getD 0 (default : Order)).outlet } : Order)).getD 1 (default : Order)).index, litres := 3, outlet := (((([]) ++ ([(law28_gate 2 0 11), (law28_gate 3 1 7), (law28_outlet 3 0 3), (law28_outlet 5 1 5)])).set 0 ({ hour := ((([]) ++ ([(law28_gate 2 0 11), (law28_gate 3 1 7), (law28_outlet 3 0 3), (law28_outlet 5 1 5)])).getD 0 (default : Order)).hour, index := ((([]) ++ ([(law28_gate 2 0 11), (law28_gate 3 1 7), (law28_outlet 3 0 3), (law28_outlet 5 1 5)])).getD 0 (default : Order)).index, litres := 10, outlet := ((([]) ++ ([(law28_gate 2 0 11), (law28_gate 3 1 7), (law28_outlet 3 0 3), (law28_outlet 5 1 5)])).getD 0 (default : Order)).outlet } : Order)).getD 1 (default : Order)).outlet } : Order)).length : Int)) ∧ ((certify_Faults_p ({ name := law28_district.name, hours := law28_district.hours, tank := law28_district.tank, reaches := law28_district.reaches, farms := law28_district.farms, crops := [], rights := law28_district.rights, duties := [], wells := [] } : District) ([({ right := 0, farm := 0, hour := 3, litres := 3, rank := 0 } : Claim), ({ right := 1, farm := 1, hour := 5, litres := 5, rank := 0 } : Claim)]) ((((([]) ++ ([(law28_gate 2 0 11), (law28_gate 3 1 7), (law28_outlet 3 0 3), (law28_outlet 5 1 5)])).set 0 ({ hour := ((([]) ++ ([(law28_gate 2 0 11), (law28_gate 3 1 7), (law28_outlet 3 0 3), (law28_outlet 5 1 5)])).getD 0 (default : Order)).hour, index := ((([]) ++ ([(law28_gate 2 0 11), (law28_gate 3 1 7), (law28_outlet 3 0 3), (law28_outlet 5 1 5)])).getD 0 (default : Order)).index, litres := 10, outlet := ((([]) ++ ([(law28_gate 2 0 11), (law28_gate 3 1 7), (law28_outlet 3 0 3), (law28_outlet 5 1 5)])).getD 0 (default : Order)).outlet } : Order)).set 1 ({ hour := (((([]) ++ ([(law28_gate 2 0 11), (law28_gate 3 1 7), (law28_outlet 3 0 3), (law28_outlet 5 1 5)])).set 0 ({ hour := ((([]) ++ ([(law28_gate 2 0 11), (law28_gate 3 1 7), (law28_outlet 3 0 3), (law28_outlet 5 1 5)])).getD 0 (default : Order)).hour, index := ((([]) ++ ([(law28_gate 2 0 11), (law28_gate 3 1 7), (law28_outlet 3 0 3), (law28_outlet 5 1 5)])).getD 0 (default : Order)).index, litres := 10, outlet := ((([]) ++ ([(law28_gate 2 0 11), (law28_gate 3 1 7), (law28_outlet 3 0 3), (law28_outlet 5 1 5)])).getD 0 (default : Order)).outlet } : Order)).getD 1 (default : Order)).hour, index := (((([]) ++ ([(law28_gate 2 0 11), (law28_gate 3 1 7), (law28_outlet 3 0 3), (law28_outlet 5 1 5)])).set 0 ({ hour := ((([]) ++ ([(law28_gate 2 0 11), (law28_gate 3 1 7), (law28_outlet 3 0 3), (law28_outlet 5 1 5)])).getD 0 (default : Order)).hour, index := ((([]) ++ ([(law28_gate 2 0 11), (law28_gate 3 1 7), (law28_outlet 3 0 3), (law28_outlet 5 1 5)])).getD 0 (default : Order)).index, litres := 10, outlet := ((([]) ++ ([(law28_gate 2 0 11), (law28_gate 3 1 7), (law28_outlet 3 0 3), (law28_outlet 5 1 5)])).getD 0 (default : Order)).outlet } : Order)).getD 1 (default : Order)).index, litres := 3, outlet := (((([]) ++ ([(law28_gate 2 0 11), (law28_gate 3 1 7), (law28_outlet 3 0 3), (law28_outlet 5 1 5)])).set 0 ({ hour := ((([]) ++ ([(law28_gate 2 0 11), (law28_gate 3 1 7), (law28_outlet 3 0 3), (law28_outlet 5 1 5)])).getD 0 (default : Order)).hour, index := ((([]) ++ ([(law28_gate 2 0 11), (law28_gate 3 1 7), (law28_outlet 3 0 3), (law28_outlet 5 1 5)])).getD 0 (default : Order)).index, litres := 10, outlet := ((([]) ++ ([(law28_gate 2 0 11), (law28_gate 3 1 7), (law28_outlet 3 0 3), (law28_outlet 5 1 5)])).getD 0 (default : Order)).outlet } : Order)).getD 1 (default : Order)).outlet } : Order)).set 3 ({ hour := ((((([]) ++ ([(law28_gate 2 0 11), (law28_gate 3 1 7), (law28_outlet 3 0 3), (law28_outlet 5 1 5)])).set 0 ({ hour := ((([]) ++ ([(law28_gate 2 0 11), (law28_gate 3 1 7), (law28_outlet 3 0 3), (law28_outlet 5 1 5)])).getD 0 (default : Order)).hour, index := ((([]) ++ ([(law28_gate 2 0 11), (law28_gate 3 1 7), (law28_outlet 3 0 3), (law28_outlet 5 1 5)])).getD 0 (default : Order)).index, litres := 10, outlet := ((([]) ++ ([(law28_gate 2 0 11), (law28_gate 3 1 7), (law28_outlet 3 0 3), (law28_outlet 5 1 5)])).getD 0 (default : Order)).outlet } : Order)).set 1 ({ hour := (((([]) ++ ([(law28_gate 2 0 11), (law28_gate 3 1 7), (law28_outlet 3 0 3), (law28_outlet 5 1 5)])).set 0 ({ hour := ((([]) ++ ([(law28_gate 2 0 11), (law28_gate 3 1 7), (law28_outlet 3 0 3), (law28_outlet 5 1 5)])).getD 0 (default : Order)).hour, index := ((([]) ++ ([(law28_gate 2 0 11), (law28_gate 3 1 7), (law28_outlet 3 0 3), (law28_outlet 5 1 5)])).getD 0 (default : Order)).index, litres := 10, outlet := ((([]) ++ ([(law28_gate 2 0 11), (law28_gate 3 1 7), (law28_outlet 3 0 3), (law28_outlet 5 1 5)])).getD 0 (default : Order)).outlet } : Order)).getD 1 (default : Order)).hour, index := (((([]) ++ ([(law28_gate 2 0 11), (law28_gate 3 1 7), (law28_outlet 3 0 3), (law28_outlet 5 1 5)])).set 0 ({ hour := ((([]) ++ ([(law28_gate 2 0 11), (law28_gate 3 1 7), (law28_outlet 3 0 3), (law28_outlet 5 1 5)])).getD 0 (default : Order)).hour, index := ((([]) ++ ([(law28_gate 2 0 11), (law28_gate 3 1 7), (law28_outlet 3 0 3), (law28_outlet 5 1 5)])).getD 0 (default : Order)).index, litres := 10, outlet := ((([]) ++ ([(law28_gate 2 0 11), (law28_gate 3 1 7), (law28_outlet 3 0 3), (law28_outlet 5 1 5)])).getD 0 (default : Order)).outlet } : Order)).getD 1 (default : Order)).index, litres := 3, outlet := (((([]) ++ ([(law28_gate 2 0 11), (law28_gate 3 1 7), (law28_outlet 3 0 3), (law28_outlet 5 1 5)])).set 0 ({ hour := ((([]) ++ ([(law28_gate 2 0 11), (law28_gate 3 1 7), (law28_outlet 3 0 3), (law28_outlet 5 1 5)])).getD 0 (default : Order)).hour, index := ((([]) ++ ([(law28_gate 2 0 11), (law28_gate 3 1 7), (law28_outlet 3 0 3), (law28_outlet 5 1 5)])).getD 0 (default : Order)).index, litres := 10, outlet := ((([]) ++ ([(law28_gate 2 0 11), (law28_gate 3 1 7), (law28_outlet 3 0 3), (law28_outlet 5 1 5)])).getD 0 (default : Order)).outlet } : Order)).getD 1 (default : Order)).outlet } : Order)).getD 3 (default : Order)).hour, index := ((((([]) ++ ([(law28_gate 2 0 11), (law28_gate 3 1 7), (law28_outlet 3 0 3), (law28_outlet 5 1 5)])).set 0 ({ hour := ((([]) ++ ([(law28_gate 2 0 11), (law28_gate 3 1 7), (law28_outlet 3 0 3), (law28_outlet 5 1 5)])).getD 0 (default : Order)).hour, index := ((([]) ++ ([(law28_gate 2 0 11), (law28_gate 3 1 7), (law28_outlet 3 0 3), (law28_outlet 5 1 5)])).getD 0 (default : Order)).index, litres := 10, outlet := ((([]) ++ ([(law28_gate 2 0 11), (law28_gate 3 1 7), (law28_outlet 3 0 3), (law28_outlet 5 1 5)])).getD 0 (default : Order)).outlet } : Order)).set 1 ({ hour := (((([]) ++ ([(law28_gate 2 0 11), (law28_gate 3 1 7), (law28_outlet 3 0 3), (law28_outlet 5 1 5)])).set 0 ({ hour := ((([]) ++ ([(law28_gate 2 0 11), (law28_gate 3 1 7), (law28_outlet 3 0 3), (law28_outlet 5 1 5)])).getD 0 (default : Order)).hour, index := ((([]) ++ ([(law28_gate 2 0 11), (law28_gate 3 1 7), (law28_outlet 3 0 3), (law28_outlet 5 1 5)])).getD 0 (default : Order)).index, litres := 10, outlet := ((([]) ++ ([(law28_gate 2 0 11), (law28_gate 3 1 7), (law28_outlet 3 0 3), (law28_outlet 5 1 5)])).getD 0 (default : Order)).outlet } : Order)).getD 1 (default : Order)).hour, index := (((([]) ++ ([(law28_gate 2 0 11), (law28_gate 3 1 7), (law28_outlet 3 0 3), (law28_outlet 5 1 5)])).set 0 ({ hour := ((([]) ++ ([(law28_gate 2 0 11), (law28_gate 3 1 7), (law28_outlet 3 0 3), (law28_outlet 5 1 5)])).getD 0 (default : Order)).hour, index := ((([]) ++ ([(law28_gate 2 0 11), (law28_gate 3 1 7), (law28_outlet 3 0 3), (law28_outlet 5 1 5)])).getD 0 (default : Order)).index, litres := 10, outlet := ((([]) ++ ([(law28_gate 2 0 11), (law28_gate 3 1 7), (law28_outlet 3 0 3), (law28_outlet 5 1 5)])).getD 0 (default : Order)).outlet } : Order)).getD 1 (default : Order)).index, litres := 3, outlet := (((([]) ++ ([(law28_gate 2 0 11), (law28_gate 3 1 7), (law28_outlet 3 0 3), (law28_outlet 5 1 5)])).set 0 ({ hour := ((([]) ++ ([(law28_gate 2 0 11), (law28_gate 3 1 7), (law28_outlet 3 0 3), (law28_outlet 5 1 5)])).getD 0 (default : Order)).hour, index := ((([]) ++ ([(law28_gate 2 0 11), (law28_gate 3 1 7), (law28_outlet 3 0 3), (law28_outlet 5 1 5)])).getD 0 (default : Order)).index, litres := 10, outlet := ((([]) ++ ([(law28_gate 2 0 11), (law28_gate 3 1 7), (law28_outlet 3 0 3), (law28_outlet 5 1 5)])).getD 0 (default : Order)).outlet } : Order)).getD 1 (default : Order)).outlet } : Order)).getD 3 (default : Order)).index, litres := 4, outlet := ((((([]) ++ ([(law28_gate 2 0 11), (law28_gate 3 1 7), (law28_outlet 3 0 3), (law28_outlet 5 1 5)])).set 0 ({ hour := ((([]) ++ ([(law28_gate 2 0 11), (law28_gate 3 1 7), (law28_outlet 3 0 3), (law28_outlet 5 1 5)])).getD 0 (default : Order)).hour, index := ((([]) ++ ([(law28_gate 2 0 11), (law28_gate 3 1 7), (law28_outlet 3 0 3), (law28_outlet 5 1 5)])).getD 0 (default : Order)).index, litres := 10, outlet := ((([]) ++ ([(law28_gate 2 0 11), (law28_gate 3 1 7), (law28_outlet 3 0 3), (law28_outlet 5 1 5)])).getD 0 (default : Order)).outlet } : Order)).set 1 ({ hour := (((([]) ++ ([(law28_gate 2 0 11), (law28_gate 3 1 7), (law28_outlet 3 0 3), (law28_outlet 5 1 5)])).set 0 ({ hour := ((([]) ++ ([(law28_gate 2 0 11), (law28_gate 3 1 7), (law28_outlet 3 0 3), (law28_outlet 5 1 5)])).getD 0 (default : Order)).hour, index := ((([]) ++ ([(law28_gate 2 0 11), (law28_gate 3 1 7), (law28_outlet 3 0 3), (law28_outlet 5 1 5)])).getD 0 (default : Order)).index, litres := 10, outlet := ((([]) ++ ([(law28_gate 2 0 11), (law28_gate 3 1 7), (law28_outlet 3 0 3), (law28_outlet 5 1 5)])).getD 0 (default : Order)).outlet } : Order)).getD 1 (default : Order)).hour, index := (((([]) ++ ([(law28_gate 2 0 11), (law28_gate 3 1 7), (law28_outlet 3 0 3), (law28_outlet 5 1 5)])).set 0 ({ hour := ((([]) ++ ([(law28_gate 2 0 11), (law28_gate 3 1 7), (law28_outlet 3 0 3), (law28_outlet 5 1 5)])).getD 0 (default : Order)).hour, index := ((([]) ++ ([(law28_gate 2 0 11), (law28_gate 3 1 7), (law28_outlet 3 0 3), (law28_outlet 5 1 5)])).getD 0 (default : Order)).index, litres := 10, outlet := ((([]) ++ ([(law28_gate 2 0 11), (law28_gate 3 1 7), (law28_outlet 3 0 3), (law28_outlet 5 1 5)])).getD 0 (default : Order)).outlet } : Order)).getD 1 (default : Order)).index, litres := 3, outlet := (((([]) ++ ([(law28_gate 2 0 11), (law28_gate 3 1 7), (law28_outlet 3 0 3), (law28_outlet 5 1 5)])).set 0 ({ hour := ((([]) ++ ([(law28_gate 2 0 11), (law28_gate 3 1 7), (law28_outlet 3 0 3), (law28_outlet 5 1 5)])).getD 0 (default : Order)).hour, index := ((([]) ++ ([(law28_gate 2 0 11), (law28_gate 3 1 7), (law28_outlet 3 0 3), (law28_outlet 5 1 5)])).getD 0 (default : Order)).index, litres := 10, outlet := ((([]) ++ ([(law28_gate 2 0 11), (law28_gate 3 1 7), (law28_outlet 3 0 3), (law28_outlet 5 1 5)])).getD 0 (default : Order)).outlet } : Order)).getD 1 (default : Order)).outlet } : Order)).getD 3 (default : Order)).outlet } : Order))) ∧ ((0 ≤ 0 ∧ 0 < (law28_district.reaches.length : Int)) ∧ ((0 ≤ 1 ∧ 1 < ((law28_district.reaches.set 0 ({ name := (law28_district.reaches.getD 0 (default : Reach)).name, up := (law28_district.reaches.getD 0 (default : Reach)).up, delay := (law28_district.reaches.getD 0 (default : Reach)).delay, cap := 9, bank := (law28_district.reaches.getD 0 (default : Reach)).bank, siphon := (law28_district.reaches.getD 0 (default : Reach)).siphon, evap := (law28_district.reaches.getD 0 (default : Reach)).evap, seep := (law28_district.reaches.getD 0 (default : Reach)).seep } : Reach)).length : Int)) ∧ ((certify_Faults_p ({ name := law28_district.name, hours := law28_district.hours, tank := ({ cap := law28_district.tank.cap, start := 10 } : Tank), reaches := ((law28_district.reaches.set 0 ({ name := (law28_district.reaches.getD 0 (default : Reach)).name, up := (law28_district.reaches.getD 0 (default : Reach)).up, delay := (law28_district.reaches.getD 0 (default : Reach)).delay, cap := 9, bank := (law28_district.reaches.getD 0 (default : Reach)).bank, siphon := (law28_district.reaches.getD 0 (default : Reach)).siphon, evap := (law28_district.reaches.getD 0 (default : Reach)).evap, seep := (law28_district.reaches.getD 0 (default : Reach)).seep } : Reach)).set 1 ({ name := ((law28_district.reaches.set 0 ({ name := (law28_district.reaches.getD 0 (default : Reach)).name, up := (law28_district.reaches.getD 0 (default : Reach)).up, delay := (law28_district.reaches.getD 0 (default : Reach)).delay, cap := 9, bank := (law28_district.reaches.getD 0 (default : Reach)).bank, siphon := (law28_district.reaches.getD 0 (default : Reach)).siphon, evap := (law28_district.reaches.getD 0 (default : Reach)).evap, seep := (law28_district.reaches.getD 0 (default : Reach)).seep } : Reach)).getD 1 (default : Reach)).name, up := ((law28_district.reaches.set 0 ({ name := (law28_district.reaches.getD 0 (default : Reach)).name, up := (law28_district.reaches.getD 0 (default : Reach)).up, delay := (law28_district.reaches.getD 0 (default : Reach)).delay, cap := 9, bank := (law28_district.reaches.getD 0 (default : Reach)).bank, siphon := (law28_district.reaches.getD 0 (default : Reach)).siphon, evap := (law28_district.reaches.getD 0 (default : Reach)).evap, seep := (law28_district.reaches.getD 0 (default : Reach)).seep } : Reach)).getD 1 (default : Reach)).up, delay := ((law28_district.reaches.set 0 ({ name := (law28_district.reaches.getD 0 (default : Reach)).name, up := (law28_district.reaches.getD 0 (default : Reach)).up, delay := (law28_district.reaches.getD 0 (default : Reach)).delay, cap := 9, bank := (law28_district.reaches.getD 0 (default : Reach)).bank, siphon := (law28_district.reaches.getD 0 (default : Reach)).siphon, evap := (law28_district.reaches.getD 0 (default : Reach)).evap, seep := (law28_district.reaches.getD 0 (default : Reach)).seep } : Reach)).getD 1 (default : Reach)).delay, cap := ((law28_district.reaches.set 0 ({ name := (law28_district.reaches.getD 0 (default : Reach)).name, up := (law28_district.reaches.getD 0 (default : Reach)).up, delay := (law28_district.reaches.getD 0 (default : Reach)).delay, cap := 9, bank := (law28_district.reaches.getD 0 (default : Reach)).bank, siphon := (law28_district.reaches.getD 0 (default : Reach)).siphon, evap := (law28_district.reaches.getD 0 (default : Reach)).evap, seep := (law28_district.reaches.getD 0 (default : Reach)).seep } : Reach)).getD 1 (default : Reach)).cap, bank := 6, siphon := ((law28_district.reaches.set 0 ({ name := (law28_district.reaches.getD 0 (default : Reach)).name, up := (law28_district.reaches.getD 0 (default : Reach)).up, delay := (law28_district.reaches.getD 0 (default : Reach)).delay, cap := 9, bank := (law28_district.reaches.getD 0 (default : Reach)).bank, siphon := (law28_district.reaches.getD 0 (default : Reach)).siphon, evap := (law28_district.reaches.getD 0 (default : Reach)).evap, seep := (law28_district.reaches.getD 0 (default : Reach)).seep } : Reach)).getD 1 (default : Reach)).siphon, evap := ((law28_district.reaches.set 0 ({ name := (law28_district.reaches.getD 0 (default : Reach)).name, up := (law28_district.reaches.getD 0 (default : Reach)).up, delay := (law28_district.reaches.getD 0 (default : Reach)).delay, cap := 9, bank := (law28_district.reaches.getD 0 (default : Reach)).bank, siphon := (law28_district.reaches.getD 0 (default : Reach)).siphon, evap := (law28_district.reaches.getD 0 (default : Reach)).evap, seep := (law28_district.reaches.getD 0 (default : Reach)).seep } : Reach)).getD 1 (default : Reach)).evap, seep := ((law28_district.reaches.set 0 ({ name := (law28_district.reaches.getD 0 (default : Reach)).name, up := (law28_district.reaches.getD 0 (default : Reach)).up, delay := (law28_district.reaches.getD 0 (default : Reach)).delay, cap := 9, bank := (law28_district.reaches.getD 0 (default : Reach)).bank, siphon := (law28_district.reaches.getD 0 (default : Reach)).siphon, evap := (law28_district.reaches.getD 0 (default : Reach)).evap, seep := (law28_district.reaches.getD 0 (default : Reach)).seep } : Reach)).getD 1 (default : Reach)).seep } : Reach)), farms := law28_district.farms, crops := [], rights := law28_district.rights, duties := [], wells := [] } : District) ([]) ([(law28_gate 2 0 11), (law28_gate 3 1 7), (law28_outlet 3 0 3), (law28_outlet 5 1 5)])) ∧ ((certify_Accepts_p ({ name := law28_district.name, hours := law28_district.hours, tank := ({ cap := law28_district.tank.cap, start := 10 } : Tank), reaches := ((law28_district.reaches.set 0 ({ name := (law28_district.reaches.getD 0 (default : Reach)).name, up := (law28_district.reaches.getD 0 (default : Reach)).up, delay := (law28_district.reaches.getD 0 (default : Reach)).delay, cap := 9, bank := (law28_district.reaches.getD 0 (default : Reach)).bank, siphon := (law28_district.reaches.getD 0 (default : Reach)).siphon, evap := (law28_district.reaches.getD 0 (default : Reach)).evap, seep := (law28_district.reaches.getD 0 (default : Reach)).seep } : Reach)).set 1 ({ name := ((law28_district.reaches.set 0 ({ name := (law28_district.reaches.getD 0 (default : Reach)).name, up := (law28_district.reaches.getD 0 (default : Reach)).up, delay := (law28_district.reaches.getD 0 (default : Reach)).delay, cap := 9, bank := (law28_district.reaches.getD 0 (default : Reach)).bank, siphon := (law28_district.reaches.getD 0 (default : Reach)).siphon, evap := (law28_district.reaches.getD 0 (default : Reach)).evap, seep := (law28_district.reaches.getD 0 (default : Reach)).seep } : Reach)).getD 1 (default : Reach)).name, up := ((law28_district.reaches.set 0 ({ name := (law28_district.reaches.getD 0 (default : Reach)).name, up := (law28_district.reaches.getD 0 (default : Reach)).up, delay := (law28_district.reaches.getD 0 (default : Reach)).delay, cap := 9, bank := (law28_district.reaches.getD 0 (default : Reach)).bank, siphon := (law28_district.reaches.getD 0 (default : Reach)).siphon, evap := (law28_district.reaches.getD 0 (default : Reach)).evap, seep := (law28_district.reaches.getD 0 (default : Reach)).seep } : Reach)).getD 1 (default : Reach)).up, delay := ((law28_district.reaches.set 0 ({ name := (law28_district.reaches.getD 0 (default : Reach)).name, up := (law28_district.reaches.getD 0 (default : Reach)).up, delay := (law28_district.reaches.getD 0 (default : Reach)).delay, cap := 9, bank := (law28_district.reaches.getD 0 (default : Reach)).bank, siphon := (law28_district.reaches.getD 0 (default : Reach)).siphon, evap := (law28_district.reaches.getD 0 (default : Reach)).evap, seep := (law28_district.reaches.getD 0 (default : Reach)).seep } : Reach)).getD 1 (default : Reach)).delay, cap := ((law28_district.reaches.set 0 ({ name := (law28_district.reaches.getD 0 (default : Reach)).name, up := (law28_district.reaches.getD 0 (default : Reach)).up, delay := (law28_district.reaches.getD 0 (default : Reach)).delay, cap := 9, bank := (law28_district.reaches.getD 0 (default : Reach)).bank, siphon := (law28_district.reaches.getD 0 (default : Reach)).siphon, evap := (law28_district.reaches.getD 0 (default : Reach)).evap, seep := (law28_district.reaches.getD 0 (default : Reach)).seep } : Reach)).getD 1 (default : Reach)).cap, bank := 6, siphon := ((law28_district.reaches.set 0 ({ name := (law28_district.reaches.getD 0 (default : Reach)).name, up := (law28_district.reaches.getD 0 (default : Reach)).up, delay := (law28_district.reaches.getD 0 (default : Reach)).delay, cap := 9, bank := (law28_district.reaches.getD 0 (default : Reach)).bank, siphon := (law28_district.reaches.getD 0 (default : Reach)).siphon, evap := (law28_district.reaches.getD 0 (default : Reach)).evap, seep := (law28_district.reaches.getD 0 (default : Reach)).seep } : Reach)).getD 1 (default : Reach)).siphon, evap := ((law28_district.reaches.set 0 ({ name := (law28_district.reaches.getD 0 (default : Reach)).name, up := (law28_district.reaches.getD 0 (default : Reach)).up, delay := (law28_district.reaches.getD 0 (default : Reach)).delay, cap := 9, bank := (law28_district.reaches.getD 0 (default : Reach)).bank, siphon := (law28_district.reaches.getD 0 (default : Reach)).siphon, evap := (law28_district.reaches.getD 0 (default : Reach)).evap, seep := (law28_district.reaches.getD 0 (default : Reach)).seep } : Reach)).getD 1 (default : Reach)).evap, seep := ((law28_district.reaches.set 0 ({ name := (law28_district.reaches.getD 0 (default : Reach)).name, up := (law28_district.reaches.getD 0 (default : Reach)).up, delay := (law28_district.reaches.getD 0 (default : Reach)).delay, cap := 9, bank := (law28_district.reaches.getD 0 (default : Reach)).bank, siphon := (law28_district.reaches.getD 0 (default : Reach)).siphon, evap := (law28_district.reaches.getD 0 (default : Reach)).evap, seep := (law28_district.reaches.getD 0 (default : Reach)).seep } : Reach)).getD 1 (default : Reach)).seep } : Reach)), farms := law28_district.farms, crops := [], rights := law28_district.rights, duties := [], wells := [] } : District) ([]) ([])) ∧ ((certify_Accepts_p ({ name := (ByteArray.mk #[]), hours := 0, tank := ({ cap := 0, start := 0 } : Tank), reaches := [], farms := [], crops := [], rights := [], duties := [], wells := [] } : District) ([]) ([])) ∧ ((certify_Arrive_p ({ name := law28_district.name, hours := law28_district.hours, tank := ({ cap := law28_district.tank.cap, start := 10 } : Tank), reaches := ((law28_district.reaches.set 0 ({ name := (law28_district.reaches.getD 0 (default : Reach)).name, up := (law28_district.reaches.getD 0 (default : Reach)).up, delay := (law28_district.reaches.getD 0 (default : Reach)).delay, cap := 9, bank := (law28_district.reaches.getD 0 (default : Reach)).bank, siphon := (law28_district.reaches.getD 0 (default : Reach)).siphon, evap := (law28_district.reaches.getD 0 (default : Reach)).evap, seep := (law28_district.reaches.getD 0 (default : Reach)).seep } : Reach)).set 1 ({ name := ((law28_district.reaches.set 0 ({ name := (law28_district.reaches.getD 0 (default : Reach)).name, up := (law28_district.reaches.getD 0 (default : Reach)).up, delay := (law28_district.reaches.getD 0 (default : Reach)).delay, cap := 9, bank := (law28_district.reaches.getD 0 (default : Reach)).bank, siphon := (law28_district.reaches.getD 0 (default : Reach)).siphon, evap := (law28_district.reaches.getD 0 (default : Reach)).evap, seep := (law28_district.reaches.getD 0 (default : Reach)).seep } : Reach)).getD 1 (default : Reach)).name, up := ((law28_district.reaches.set 0 ({ name := (law28_district.reaches.getD 0 (default : Reach)).name, up := (law28_district.reaches.getD 0 (default : Reach)).up, delay := (law28_district.reaches.getD 0 (default : Reach)).delay, cap := 9, bank := (law28_district.reaches.getD 0 (default : Reach)).bank, siphon := (law28_district.reaches.getD 0 (default : Reach)).siphon, evap := (law28_district.reaches.getD 0 (default : Reach)).evap, seep := (law28_district.reaches.getD 0 (default : Reach)).seep } : Reach)).getD 1 (default : Reach)).up, delay := ((law28_district.reaches.set 0 ({ name := (law28_district.reaches.getD 0 (default : Reach)).name, up := (law28_district.reaches.getD 0 (default : Reach)).up, delay := (law28_district.reaches.getD 0 (default : Reach)).delay, cap := 9, bank := (law28_district.reaches.getD 0 (default : Reach)).bank, siphon := (law28_district.reaches.getD 0 (default : Reach)).siphon, evap := (law28_district.reaches.getD 0 (default : Reach)).evap, seep := (law28_district.reaches.getD 0 (default : Reach)).seep } : Reach)).getD 1 (default : Reach)).delay, cap := ((law28_district.reaches.set 0 ({ name := (law28_district.reaches.getD 0 (default : Reach)).name, up := (law28_district.reaches.getD 0 (default : Reach)).up, delay := (law28_district.reaches.getD 0 (default : Reach)).delay, cap := 9, bank := (law28_district.reaches.getD 0 (default : Reach)).bank, siphon := (law28_district.reaches.getD 0 (default : Reach)).siphon, evap := (law28_district.reaches.getD 0 (default : Reach)).evap, seep := (law28_district.reaches.getD 0 (default : Reach)).seep } : Reach)).getD 1 (default : Reach)).cap, bank := 6, siphon := ((law28_district.reaches.set 0 ({ name := (law28_district.reaches.getD 0 (default : Reach)).name, up := (law28_district.reaches.getD 0 (default : Reach)).up, delay := (law28_district.reaches.getD 0 (default : Reach)).delay, cap := 9, bank := (law28_district.reaches.getD 0 (default : Reach)).bank, siphon := (law28_district.reaches.getD 0 (default : Reach)).siphon, evap := (law28_district.reaches.getD 0 (default : Reach)).evap, seep := (law28_district.reaches.getD 0 (default : Reach)).seep } : Reach)).getD 1 (default : Reach)).siphon, evap := ((law28_district.reaches.set 0 ({ name := (law28_district.reaches.getD 0 (default : Reach)).name, up := (law28_district.reaches.getD 0 (default : Reach)).up, delay := (law28_district.reaches.getD 0 (default : Reach)).delay, cap := 9, bank := (law28_district.reaches.getD 0 (default : Reach)).bank, siphon := (law28_district.reaches.getD 0 (default : Reach)).siphon, evap := (law28_district.reaches.getD 0 (default : Reach)).evap, seep := (law28_district.reaches.getD 0 (default : Reach)).seep } : Reach)).getD 1 (default : Reach)).evap, seep := ((law28_district.reaches.set 0 ({ name := (law28_district.reaches.getD 0 (default : Reach)).name, up := (law28_district.reaches.getD 0 (default : Reach)).up, delay := (law28_district.reaches.getD 0 (default : Reach)).delay, cap := 9, bank := (law28_district.reaches.getD 0 (default : Reach)).bank, siphon := (law28_district.reaches.getD 0 (default : Reach)).siphon, evap := (law28_district.reaches.getD 0 (default : Reach)).evap, seep := (law28_district.reaches.getD 0 (default : Reach)).seep } : Reach)).getD 1 (default : Reach)).seep } : Reach)), farms := law28_district.farms, crops := [], rights := law28_district.rights, duties := [], wells := [] } : District) ([]) (-1) 0) ∧ (certify_Faults_p ({ name := law28_district.name, hours := law28_district.hours, tank := ({ cap := law28_district.tank.cap, start := 10 } : Tank), reaches := ((law28_district.reaches.set 0 ({ name := (law28_district.reaches.getD 0 (default : Reach)).name, up := (law28_district.reaches.getD 0 (default : Reach)).up, delay := (law28_district.reaches.getD 0 (default : Reach)).delay, cap := 9, bank := (law28_district.reaches.getD 0 (default : Reach)).bank, siphon := (law28_district.reaches.getD 0 (default : Reach)).siphon, evap := (law28_district.reaches.getD 0 (default : Reach)).evap, seep := (law28_district.reaches.getD 0 (default : Reach)).seep } : Reach)).set 1 ({ name := ((law28_district.reaches.set 0 ({ name := (law28_district.reaches.getD 0 (default : Reach)).name, up := (law28_district.reaches.getD 0 (default : Reach)).up, delay := (law28_district.reaches.getD 0 (default : Reach)).delay, cap := 9, bank := (law28_district.reaches.getD 0 (default : Reach)).bank, siphon := (law28_district.reaches.getD 0 (default : Reach)).siphon, evap := (law28_district.reaches.getD 0 (default : Reach)).evap, seep := (law28_district.reaches.getD 0 (default : Reach)).seep } : Reach)).getD 1 (default : Reach)).name, up := ((law28_district.reaches.set 0 ({ name := (law28_district.reaches.getD 0 (default : Reach)).name, up := (law28_district.reaches.getD 0 (default : Reach)).up, delay := (law28_district.reaches.getD 0 (default : Reach)).delay, cap := 9, bank := (law28_district.reaches.getD 0 (default : Reach)).bank, siphon := (law28_district.reaches.getD 0 (default : Reach)).siphon, evap := (law28_district.reaches.getD 0 (default : Reach)).evap, seep := (law28_district.reaches.getD 0 (default : Reach)).seep } : Reach)).getD 1 (default : Reach)).up, delay := ((law28_district.reaches.set 0 ({ name := (law28_district.reaches.getD 0 (default : Reach)).name, up := (law28_district.reaches.getD 0 (default : Reach)).up, delay := (law28_district.reaches.getD 0 (default : Reach)).delay, cap := 9, bank := (law28_district.reaches.getD 0 (default : Reach)).bank, siphon := (law28_district.reaches.getD 0 (default : Reach)).siphon, evap := (law28_district.reaches.getD 0 (default : Reach)).evap, seep := (law28_district.reaches.getD 0 (default : Reach)).seep } : Reach)).getD 1 (default : Reach)).delay, cap := ((law28_district.reaches.set 0 ({ name := (law28_district.reaches.getD 0 (default : Reach)).name, up := (law28_district.reaches.getD 0 (default : Reach)).up, delay := (law28_district.reaches.getD 0 (default : Reach)).delay, cap := 9, bank := (law28_district.reaches.getD 0 (default : Reach)).bank, siphon := (law28_district.reaches.getD 0 (default : Reach)).siphon, evap := (law28_district.reaches.getD 0 (default : Reach)).evap, seep := (law28_district.reaches.getD 0 (default : Reach)).seep } : Reach)).getD 1 (default : Reach)).cap, bank := 6, siphon := ((law28_district.reaches.set 0 ({ name := (law28_district.reaches.getD 0 (default : Reach)).name, up := (law28_district.reaches.getD 0 (default : Reach)).up, delay := (law28_district.reaches.getD 0 (default : Reach)).delay, cap := 9, bank := (law28_district.reaches.getD 0 (default : Reach)).bank, siphon := (law28_district.reaches.getD 0 (default : Reach)).siphon, evap := (law28_district.reaches.getD 0 (default : Reach)).evap, seep := (law28_district.reaches.getD 0 (default : Reach)).seep } : Reach)).getD 1 (default : Reach)).siphon, evap := ((law28_district.reaches.set 0 ({ name := (law28_district.reaches.getD 0 (default : Reach)).name, up := (law28_district.reaches.getD 0 (default : Reach)).up, delay := (law28_district.reaches.getD 0 (default : Reach)).delay, cap := 9, bank := (law28_district.reaches.getD 0 (default : Reach)).bank, siphon := (law28_district.reaches.getD 0 (default : Reach)).siphon, evap := (law28_district.reaches.getD 0 (default : Reach)).evap, seep := (law28_district.reaches.getD 0 (default : Reach)).seep } : Reach)).getD 1 (default : Reach)).evap, seep := ((law28_district.reaches.set 0 ({ name := (law28_district.reaches.getD 0 (default : Reach)).name, up := (law28_district.reaches.getD 0 (default : Reach)).up, delay := (law28_district.reaches.getD 0 (default : Reach)).delay, cap := 9, bank := (law28_district.reaches.getD 0 (default : Reach)).bank, siphon := (law28_district.reaches.getD 0 (default : Reach)).siphon, evap := (law28_district.reaches.getD 0 (default : Reach)).evap, seep := (law28_district.reaches.getD 0 (default : Reach)).seep } : Reach)).getD 1 (default : Reach)).seep } : Reach)), farms := law28_district.farms, crops := [], rights := law28_district.rights, duties := [], wells := [] } : District) ([]) ([({ hour := 0, index := 0, litres := 0, outlet := false } : Order)])))))))))))))))))
def C_law28_sane : List SV → Option Con := pE (.det (law28_sane_p) (.v (.bool (law28_sane))))
set_option maxHeartbeats 4000000 in
theorem ok_law28_sane : FnOk Try.prog 7 C_law28_sane := by
  have hG : ConsOk Try.prog (mkG [(9, fun l => C_certify_Arrive (nrmA [.st .district, .sl .order, .o, .o] l)), (11, fun l => C_certify_Accepts (nrmA [.st .district, .sl .claim, .sl .order] l)), (12, fun l => C_certify_Faults (nrmA [.st .district, .sl .claim, .sl .order] l)), (14, C_law28_district), (15, C_law28_gate), (16, C_law28_outlet), (17, fun l => C_ref28_Same (nrmA [.sl .fault, .sl .fault] l))] []) := mkG_ok (by
    intro x hx
    simp only [List.mem_cons, List.not_mem_nil, or_false] at hx
    rcases hx with rfl | rfl | rfl | rfl | rfl | rfl | rfl
    · exact ok_certify_Arrive.norm [.st .district, .sl .order, .o, .o]
    · exact ok_certify_Accepts.norm [.st .district, .sl .claim, .sl .order]
    · exact ok_certify_Faults.norm [.st .district, .sl .claim, .sl .order]
    · exact ok_law28_district
    · exact ok_law28_gate
    · exact ok_law28_outlet
    · exact ok_ref28_Same.norm [.sl .fault, .sl .fault]) (by simp)
  refine fn_okN [.o] mixed ts_ok hG (fn := Try.f7) (c := bodyOf Try.f7) (by kernel_rfl) (by kernel_rfl) (by kernel_rfl) (by kernel_rfl) fun l con h hp => ?_
  unfold C_law28_sane at h
  obtain ⟨rfl, rfl⟩ := pE_inv h
  clear h
  dsimp only [conPre] at hp
  unfold law28_sane_p at hp
  refine ⟨Nat.le_of_ble_eq_true rfl, (fun id st => none), ?_, ?_⟩
  · unfold bodyOf Try.f7
    simp only [loopsOk, and_self, true_and, and_true]
  · unfold bodyOf Try.f7
    try unfold law28_sane
    simp only [go_sem, Nat.reduceBEq, Nat.reduceLeDiff, Nat.reduceAdd, Nat.reduceSub, Nat.reduceMul, Int.reduceLE, Int.reduceLT, Int.reduceToNat, Int.reduceNeg, reduceCtorEq, C_certify_Arrive, C_certify_Accepts, C_certify_Faults, C_law28_district, C_law28_gate, C_law28_outlet, C_ref28_Same]
    all_goals exact cl
end Go.Sx
end
section
namespace Go.Sx
open Go.Proofs
theorem runI_unit {n i : Nat} {step : Nat → Unit → Unit ⊕ Unit} {s : Unit} (h : runI step n i s = .inr s) : ∀ j, i ≤ j → j < i + n → step j () = .inr () := by
  induction n generalizing i with
  | zero => intro j h1 h2; omega
  | succ n ih =>
    simp only [runI] at h
    cases hs : step i s with
    | inl r => rw [hs] at h; cases h
    | inr s' =>
      rw [hs] at h
      intro j h1 h2
      by_cases e : j = i
      · subst e; cases s; exact hs
      · exact ih h j (by omega) (by omega)
theorem demand_t {b : Bool} {e : Int} : expand_demand_ok b e = b := by
  cases b <;> rfl
theorem rising3 {a b c : Int} (h : expand_rising [a, b, c] = true) : a ≤ b ∧ b ≤ c := by
  unfold expand_rising at h
  simp only [List.length_cons, List.length_nil, Nat.zero_add, Nat.reduceAdd, Nat.reduceSub] at h
  split at h
  · cases h
  · rename_i s hs
    have h0 := runI_unit hs 0 (by omega) (by omega)
    have h1 := runI_unit hs 1 (by omega) (by omega)
    simp [expand_rising_l0, IntKind.wrap, IntKind.bits, IntKind.signed] at h0 h1
    constructor
    · cases hd : decide (b < a) <;> simp_all <;> omega
    · cases hd : decide (c < b) <;> simp_all <;> omega
theorem rising4 {a b c d : Int} (h : expand_rising [a, b, c, d] = true) : a ≤ b ∧ b ≤ c ∧ c ≤ d := by
  unfold expand_rising at h
  simp only [List.length_cons, List.length_nil, Nat.zero_add, Nat.reduceAdd, Nat.reduceSub] at h
  split at h
  · cases h
  · rename_i s hs
    have h0 := runI_unit hs 0 (by omega) (by omega)
    have h1 := runI_unit hs 1 (by omega) (by omega)
    have h2 := runI_unit hs 2 (by omega) (by omega)
    simp [expand_rising_l0, IntKind.wrap, IntKind.bits, IntKind.signed] at h0 h1 h2
    refine ⟨?_, ?_, ?_⟩
    · cases hd : decide (b < a) <;> simp_all <;> omega
    · cases hd : decide (c < b) <;> simp_all <;> omega
    · cases hd : decide (d < c) <;> simp_all <;> omega
structure Right1 (d : District) : Prop where
  reaches : d.reaches.length ≤ 64
  one : 0 < d.reaches.length
  farms : d.farms.length ≤ 600
  rights : d.rights.length ≤ 256
  hours1 : 1 ≤ d.hours
  hours : d.hours ≤ 4096
  start0 : 0 ≤ d.tank.start
  start : d.tank.start ≤ d.tank.cap
  cap : d.tank.cap ≤ 1099511627776
  reach : ∀ k, k < d.reaches.length → expand_reach (k : Int) (d.reaches.getD k default) = true
  farm : ∀ k, k < d.farms.length → 0 ≤ (d.farms.getD k default).reach ∧ (d.farms.getD k default).reach < (d.reaches.length : Int)
theorem check_right {d : District} (h : (expand_Check d != 0) = false) : Right1 d := by
  have h : expand_Check d = 0 := by simpa using h
  unfold expand_Check at h
  simp only [demand_t] at h
  cases h1 : (decide ((d.reaches.length : Int) ≤ 64) && decide ((d.farms.length : Int) ≤ 600) && decide ((d.crops.length : Int) ≤ 32) && decide ((d.rights.length : Int) ≤ 256) && decide ((d.duties.length : Int) ≤ 256)) with
  | false => rw [h1] at h; simp at h
  | true =>
    rw [h1] at h
    simp only [cond_true] at h
    cases h2 : expand_examine_ok d 191 with
    | false => rw [h2] at h; simp at h
    | true =>
      unfold expand_examine_ok at h2
      simp only [demand_t] at h2
      cases h3 : (expand_rising [1, d.hours, 4096] && expand_rising [0, d.tank.start, d.tank.cap, 1099511627776] && decide ((d.reaches.length : Int) > 0)) with
      | false => rw [h3] at h2; simp at h2
      | true =>
        rw [h3] at h2
        simp only [cond_true] at h2
        simp only [Bool.and_eq_true, decide_eq_true_eq] at h1 h3
        obtain ⟨r1, r2⟩ := rising3 h3.1.1
        obtain ⟨r3, r4, r5⟩ := rising4 h3.1.2
        split at h2
        · cases h2
        rename_i s0 hs0
        split at h2
        · cases h2
        rename_i s1 hs1
        split at h2
        · cases h2
        rename_i s2 hs2
        refine ⟨by omega, by omega, by omega, by omega, r1, r2, r3, r4, r5, fun k hk => ?_, fun k hk => ?_⟩
        · have := runI_unit hs0 k (by omega) (by omega)
          simp only [expand_examine_l0, demand_t] at this
          cases he : expand_reach (k : Int) (d.reaches.getD k default) with
          | false => rw [he] at this; simp at this
          | true => rfl
        · have := runI_unit hs2 k (by omega) (by omega)
          simp only [expand_examine_l2, demand_t] at this
          have hx : expand_index (d.farms.getD k default).reach (d.reaches.length : Int) = true := by
            cases he : expand_index (d.farms.getD k default).reach (d.reaches.length : Int) with
            | false => rw [he] at this; cases hd : decide ((d.farms.getD k default).area > 0) <;> rw [hd] at this <;> simp at this
            | true => rfl
          simpa [expand_index] using hx
end Go.Sx
end
section
namespace Go.Sx
open Go.Proofs
structure Order1 (d : District) (x : Order) : Prop where
  hour0 : 0 ≤ x.hour
  hour : x.hour < d.hours
  index0 : 0 ≤ x.index
  farm : x.outlet = true → x.index < (d.farms.length : Int)
  reach : x.outlet = false → x.index < (d.reaches.length : Int)
  litres1 : 1 ≤ x.litres
  litres : x.litres ≤ 1073741824
theorem wrap_pred {k : Nat} (h : k < 9223372036854775807) (h1 : 0 < k) : IntKind.i64.wrap ((k : Int) - 1) = ((k - 1 : Nat) : Int) := by
  rw [wrapI (by omega) (by omega)]; omega
theorem routing_pt (d : District) (l : List Order) : routing_Check_p d l := fun _ h1 _ _ => okI_all _ _ _ fun j s h2 h3 => by
  unfold maxL at h1
  unfold routing_Check_l0_p
  have e : decide ((j : Int) > 0) = true → (0 ≤ IntKind.i64.wrap ((j : Int) - 1) ∧ IntKind.i64.wrap ((j : Int) - 1) < (l.length : Int)) := fun h => by
    simp only [decide_eq_true_eq] at h
    rw [wrap_pred (by omega) (by omega)]; omega
  exact fun _ => ⟨fun _ _ _ => e, fun _ _ => e⟩
structure Orders1 (d : District) (l : List Order) : Prop where
  right : Right1 d
  len : l.length ≤ 4096
  one : ∀ k, k < l.length → Order1 d (l.getD k default)
  asc : ∀ k, k + 1 < l.length → routing_by_1 (l.getD k default) (l.getD (k + 1) default) < 0
theorem routing_orders {d : District} {l : List Order} (h : (routing_Check d l != 0) = false) : Orders1 d l := by
  have h : routing_Check d l = 0 := by simpa using h
  unfold routing_Check at h
  cases h1 : expand_Check d != 0 with
  | true => rw [h1] at h; simp at h h1; exact absurd h h1
  | false =>
    rw [h1] at h
    simp only [cond_false] at h
    cases h2 : decide ((l.length : Int) > 4096) with
    | true => rw [h2] at h; simp at h
    | false =>
      rw [h2] at h
      simp only [cond_false] at h
      have hl : l.length ≤ 4096 := by simp only [decide_eq_false_iff_not] at h2; omega
      split at h
      · cases h
      rename_i s hs
      have key : ∀ k, k < l.length → Order1 d (l.getD k default) ∧ (0 < k → routing_by_1 (l.getD (k - 1) default) (l.getD k default) < 0) := by
        intro k hk
        have := runI_unit hs k (by omega) (by omega)
        have hp : ((k : Int) > 0) → (IntKind.i64.wrap ((k : Int) - 1)).toNat = k - 1 := fun h => by
          rw [wrap_pred (by omega) (by omega)]; omega
        unfold routing_Check_l0 at this
        generalize hx : l.getD k default = x at this ⊢
        cases ho : x.outlet with
        | true =>
          rw [ho] at this
          simp only [cond_true] at this
          rw [Bool.cond_eq_ite] at this
          split at this
          · cases this
          · rename_i hc
            simp only [Bool.not_eq_true, Bool.or_eq_false_iff, Bool.and_eq_false_iff, decide_eq_false_iff_not] at hc
            refine ⟨⟨by omega, by omega, by omega, fun _ => by omega, fun h => by (rw [ho] at h; cases h), by omega, by omega⟩, fun hk0 => ?_⟩
            rcases hc.2 with h | h
            · omega
            · rw [hp (by omega)] at h; omega
        | false =>
          rw [ho] at this
          simp only [cond_false] at this
          rw [Bool.cond_eq_ite] at this
          split at this
          · cases this
          · rename_i hc
            simp only [Bool.not_eq_true, Bool.or_eq_false_iff, Bool.and_eq_false_iff, decide_eq_false_iff_not] at hc
            refine ⟨⟨by omega, by omega, by omega, fun h => by (rw [ho] at h; cases h), fun _ => by omega, by omega, by omega⟩, fun hk0 => ?_⟩
            rcases hc.2 with h | h
            · omega
            · rw [hp (by omega)] at h; omega
      exact ⟨check_right h1, hl, fun k hk => (key k hk).1, fun k hk => (key (k + 1) hk).2 (by omega)⟩
end Go.Sx
end
section
namespace Go.Sx
open Go.Proofs
def Grid (g : List (List Int)) (n m : Nat) : Prop := g.length = n ∧ ∀ i, i < n → (g.getD i []).length = m
theorem Grid.app {g : List (List Int)} {n m : Nat} {r : List Int} (h : Grid g n m) (hr : r.length = m) : Grid (g ++ [r]) (n + 1) m := by
  refine ⟨by simp [h.1], fun i hi => ?_⟩
  by_cases e : i < n
  · have := h.2 i e
    simp only [List.getD_eq_getElem?_getD] at this ⊢
    rw [List.getElem?_append_left (by rw [h.1]; exact e)]
    exact this
  · have : i = g.length := by have := h.1; omega
    subst this
    simp [hr]
theorem Grid.set {g : List (List Int)} {n m i : Nat} {r : List Int} (h : Grid g n m) (hr : i < n → r.length = m) : Grid (g.set i r) n m := by
  refine ⟨by simp [h.1], fun j hj => ?_⟩
  have h0 := h.2 j hj
  simp only [List.getD_eq_getElem?_getD] at h0 ⊢
  rw [List.getElem?_set]
  split
  · rename_i e
    subst e
    split
    · simpa using hr hj
    · rename_i hn; exact absurd (by rw [h.1]; exact hj) hn
  · exact h0
theorem Grid.set2 {g : List (List Int)} {n m i j : Nat} {v : Int} (h : Grid g n m) : Grid (g.set i ((g.getD i []).set j v)) n m :=
  h.set fun hi => by simpa using h.2 i hi
theorem Grid.row {g : List (List Int)} {n m i : Nat} (h : Grid g n m) (hi : i < n) : (g.getD i []).length = m := h.2 i hi
structure Reach1 (i : Int) (x : Reach) : Prop where
  up : x.up < i
  delay1 : 1 ≤ x.delay
  delay : x.delay ≤ 16
  siphon0 : 0 ≤ x.siphon
  siphon : x.siphon ≤ x.cap
  cap : x.cap ≤ 1073741824
  bank : x.siphon ≤ x.bank
  bank1 : x.bank ≤ 1099511627776
theorem reach_one {i : Int} {x : Reach} (hi : 0 ≤ i) (h : expand_reach i x = true) : Reach1 i x := by
  unfold expand_reach at h
  cases hd : decide (i > 0) with
  | true =>
    rw [hd] at h
    simp only [cond_true, Bool.and_eq_true, expand_index, decide_eq_true_eq] at h hd
    obtain ⟨⟨⟨⟨⟨h0, h1⟩, h2⟩, h3⟩, h4⟩, h5⟩ := h
    have := rising3 h1
    have := rising4 h2
    have := rising4 h3
    constructor <;> omega
  | false =>
    rw [hd] at h
    simp only [cond_false, Bool.and_eq_true, beq_iff_eq, decide_eq_false_iff_not] at h hd
    obtain ⟨⟨⟨⟨⟨h0, h1⟩, h2⟩, h3⟩, h4⟩, h5⟩ := h
    have := rising3 h1
    have := rising4 h2
    have := rising4 h3
    constructor <;> omega
theorem Right1.reach1 {d : District} (h : Right1 d) {k : Nat} (hk : k < d.reaches.length) : Reach1 k (d.reaches.getD k default) := reach_one (by omega) (h.reach k hk)
theorem Right1.reachI {d : District} (h : Right1 d) {i : Int} (h0 : 0 ≤ i) (hi : i < (d.reaches.length : Int)) : Reach1 i (d.reaches.getD i.toNat default) := by
  have := h.reach1 (k := i.toNat) (by omega)
  rwa [Int.toNat_of_nonneg h0] at this
theorem read1_step {d : District} {l : List Order} (ho : Orders1 d l) (k : Nat) (hk : k < l.length) (s : List (CertifyPlace × Int) × List (List Int) × List (List Int))
    (h1 : Grid s.2.1 d.reaches.length d.hours.toNat) (h2 : Grid s.2.2 d.reaches.length (d.hours + 1).toNat) :
    certify_read_l1_p d l k s ∧ ∀ s', certify_read_l1 d l k s = .inr s' → Grid s'.2.1 d.reaches.length d.hours.toNat ∧ Grid s'.2.2 d.reaches.length (d.hours + 1).toNat := by
  have hx := ho.one k hk
  have hr := ho.right
  have a1 := hr.hours1
  have a2 := hr.hours
  constructor
  · unfold certify_read_l1_p
    generalize l.getD k default = x at hx ⊢
    have b1 := hx.hour0
    have b2 := hx.hour
    have b3 := hx.index0
    have hw : IntKind.i64.wrap (x.hour + 1) = x.hour + 1 := wrapI (by omega) (by omega)
    refine ⟨fun e => ?_, fun e => ?_⟩
    · have b4 := hx.farm e
      have hf := hr.farm x.index.toNat (by omega)
      have hg := h1.row (i := (d.farms.getD x.index.toNat default).reach.toNat) (by omega)
      rw [hg, h1.1]
      exact ⟨⟨b3, b4⟩, fun _ => ⟨hf, ⟨b1, by omega⟩, b1, by omega⟩⟩
    · have b4 := hx.reach e
      have hf := hr.reachI b3 b4
      have hu := hf.up
      have hg := h2.row (i := x.index.toNat) (by omega)
      rw [hg, h1.1, h2.1, hw]
      refine ⟨⟨b3, b4⟩, ⟨b3, b4⟩, ⟨by omega, by omega⟩, fun hd => ?_⟩
      have hd := of_decide_eq_true hd
      have hg1 := h1.row (i := (d.reaches.getD x.index.toNat default).up.toNat) (by omega)
      rw [hg1]
      exact ⟨⟨hd, by omega⟩, ⟨b1, by omega⟩, b1, by omega⟩
  · intro s' hs
    unfold certify_read_l1 at hs
    simp only [Bool.cond_eq_ite] at hs
    repeat' split at hs
    all_goals (simp only [Sum.inr.injEq] at hs; subst hs; exact ⟨by first | exact h1 | exact h1.set2, by first | exact h2 | exact h2.set2⟩)
theorem read3_step {d : District} (hr : Right1 d) (k : Nat) (hk : k < d.reaches.length) (j : Nat) (hj : j < d.hours.toNat) (s : List (List Int)) (h : Grid s d.reaches.length (d.hours + 1).toNat) :
    certify_read_l3_p d k j s ∧ ∀ s', certify_read_l3 d k j s = .inr s' → Grid s' d.reaches.length (d.hours + 1).toNat := by
  have a1 := hr.hours1
  have a2 := hr.hours
  have hw : IntKind.i64.wrap ((j : Int) + 1) = (j : Int) + 1 := wrapI (by omega) (by omega)
  have hg := h.row hk
  constructor
  · unfold certify_read_l3_p
    rw [hw, hg]
    omega
  · intro s' hs
    simp only [certify_read_l3, Sum.inr.injEq] at hs
    subst hs
    exact h.set2
theorem read2_step {d : District} (hr : Right1 d) (t : List (CertifyPlace × Int) × List (List Int) × List (List Int)) (k : Nat) (hk : k < d.reaches.length) (s : List (List Int)) (h : Grid s d.reaches.length (d.hours + 1).toNat) :
    certify_read_l2_p d t k s ∧ ∀ s', certify_read_l2 d t k s = .inr s' → Grid s' d.reaches.length (d.hours + 1).toNat := by
  have a1 := hr.hours1
  have a2 := hr.hours
  constructor
  · unfold certify_read_l2_p
    refine ⟨⟨by omega, by rw [h.1]; omega⟩, by omega, okI_inv (fun _ s => Grid s d.reaches.length (d.hours + 1).toNat) _ _ _ h fun j s _ hj hg => read3_step hr k hk j (by omega) s hg⟩
  · intro s' hs
    unfold certify_read_l2 at hs
    split at hs
    · rename_i x _; exact x.elim
    · rename_i s3 h3
      simp only [Sum.inr.injEq] at hs
      subst hs
      exact runI_inv (fun _ s => Grid s d.reaches.length (d.hours + 1).toNat) _ _ _ h (fun j s _ hj hg s' hs' => (read3_step hr k hk j (by omega) s hg).2 s' hs') _ h3
theorem read_p (d : District) (l : List Order) : certify_read_p d l := by
  intro h1 h2
  refine ⟨routing_pt d l, fun h3 _ => ?_⟩
  have ho := routing_orders h3
  have hr := ho.right
  have a1 := hr.hours1
  have a2 := hr.hours
  have a3 := hr.reaches
  have hw : IntKind.i64.wrap (d.hours + 1) = d.hours + 1 := wrapI (by omega) (by omega)
  have J0 : ∀ j (s : List (List Int) × List (List Int)), (Grid s.1 j (d.hours + 1).toNat ∧ Grid s.2 j d.hours.toNat) → j < d.reaches.length → certify_read_l0_p d j s ∧ ∀ s', certify_read_l0 d j s = .inr s' → (Grid s'.1 (j + 1) (d.hours + 1).toNat ∧ Grid s'.2 (j + 1) d.hours.toNat) := by
    intro j s hg hj
    constructor
    · unfold certify_read_l0_p
      have e1 := hg.1.1
      have e2 := hg.2.1
      simp only [hw, List.length_append, List.length_cons, List.length_nil, true_and, maxB, maxL]
      refine ⟨⟨by omega, by omega⟩, fun _ => ⟨by omega, fun _ => ⟨⟨by omega, by omega⟩, fun _ => ?_⟩⟩⟩
      omega
    · intro s' hs
      simp only [certify_read_l0, Sum.inr.injEq] at hs
      subst hs
      simp only [hw]
      exact ⟨hg.1.app (by simp), hg.2.app (by simp)⟩
  refine ⟨okI_inv (fun j s => Grid s.1 j (d.hours + 1).toNat ∧ Grid s.2 j d.hours.toNat) _ _ _ ⟨⟨rfl, fun i hi => absurd hi (by omega)⟩, ⟨rfl, fun i hi => absurd hi (by omega)⟩⟩ fun j s _ hj hg => J0 j s hg (by omega), fun s0 hs0 _ => ?_⟩
  have hg0 := runI_inv (fun j s => Grid s.1 j (d.hours + 1).toNat ∧ Grid s.2 j d.hours.toNat) _ _ _ ⟨⟨rfl, fun i hi => absurd hi (by omega)⟩, ⟨rfl, fun i hi => absurd hi (by omega)⟩⟩ (fun j s _ hj hg s' hs' => (J0 j s hg (by omega)).2 s' hs') s0 hs0
  simp only [Nat.zero_add] at hg0
  refine ⟨okI_inv (fun _ s => Grid s.2.1 d.reaches.length d.hours.toNat ∧ Grid s.2.2 d.reaches.length (d.hours + 1).toNat) _ _ _ ⟨hg0.2, hg0.1⟩ fun j s _ hj hg => read1_step ho j (by omega) s hg.1 hg.2, fun s1 hs1 _ => ?_⟩
  have hg1 := runI_inv (fun _ s => Grid s.2.1 d.reaches.length d.hours.toNat ∧ Grid s.2.2 d.reaches.length (d.hours + 1).toNat) _ _ _ ⟨hg0.2, hg0.1⟩ (fun j s _ hj hg s' hs' => (read1_step ho j (by omega) s hg.1 hg.2).2 s' hs') _ hs1
  exact okI_inv (fun _ s => Grid s d.reaches.length (d.hours + 1).toNat) _ _ _ hg1.2 fun j s _ hj hg => read2_step hr s1 j (by rw [hg1.2.1] at hj; omega) s hg
end Go.Sx
end
section
namespace Go.Sx
open Go.Proofs
structure Table1 (d : District) (l : List Order) (t : CertifyTable) : Prop where
  td : t.d = d
  tl : t.l = l
  sums : Grid t.sums d.reaches.length (d.hours + 1).toNat
  drawn : Grid t.drawn d.reaches.length d.hours.toNat
  ords : Orders1 d l
theorem read_table {d : District} {l : List Order} (h : ((certify_read d l).2 != 0) = false) : Table1 d l (certify_read d l).1 := by
  have h : (certify_read d l).2 = 0 := by simpa using h
  unfold certify_read at h ⊢
  cases h1 : (decide (IntKind.i64.wrap ((d.reaches.length : Int) * d.hours) > 1024) || decide ((l.length : Int) > 4096)) with
  | true => rw [h1] at h; simp at h
  | false =>
    rw [h1] at h
    simp only [cond_false] at h ⊢
    cases h2 : (routing_Check d l != 0) with
    | true => rw [h2] at h; simp at h
    | false =>
      rw [h2] at h
      simp only [cond_false] at h ⊢
      have ho := routing_orders h2
      have hr := ho.right
      have a1 := hr.hours1
      have a2 := hr.hours
      have hw : IntKind.i64.wrap (d.hours + 1) = d.hours + 1 := wrapI (by omega) (by omega)
      cases hs0 : runI (certify_read_l0 d) d.reaches.length 0 ([], []) with
      | inl x => exact x.elim
      | inr s0 =>
        have hg0 := runI_inv (fun j s => Grid s.1 j (d.hours + 1).toNat ∧ Grid s.2 j d.hours.toNat) _ _ _ ⟨⟨rfl, fun i hi => absurd hi (by omega)⟩, ⟨rfl, fun i hi => absurd hi (by omega)⟩⟩ (fun j s _ hj hg s' hs => by
          simp only [certify_read_l0, Sum.inr.injEq] at hs
          subst hs
          simp only [hw]
          exact ⟨hg.1.app (by simp), hg.2.app (by simp)⟩) s0 hs0
        simp only [Nat.zero_add] at hg0
        dsimp only
        cases hs1 : runI (certify_read_l1 d l) l.length 0 ([], s0.2, s0.1) with
        | inl x => exact x.elim
        | inr s1 =>
          have hg1 := runI_inv (fun _ s => Grid s.2.1 d.reaches.length d.hours.toNat ∧ Grid s.2.2 d.reaches.length (d.hours + 1).toNat) _ _ _ ⟨hg0.2, hg0.1⟩ (fun j s _ hj hg s' hs' => (read1_step ho j (by omega) s hg.1 hg.2).2 s' hs') _ hs1
          dsimp only
          cases hs2 : runI (certify_read_l2 d s1) s1.2.2.length 0 s1.2.2 with
          | inl x => exact x.elim
          | inr s2 =>
            have hg2 := runI_inv (fun _ s => Grid s d.reaches.length (d.hours + 1).toNat) _ _ _ hg1.2 (fun j s _ hj hg s' hs' => (read2_step hr s1 j (by rw [hg1.2.1] at hj; omega) s hg).2 s' hs') _ hs2
            exact ⟨rfl, rfl, hg2, hg1.1, ho⟩
theorem runI_app {f : Nat → List Fault} {step : Nat → List Fault → Empty ⊕ List Fault} (h : ∀ j s, step j s = .inr (s ++ f j)) : ∀ n i s, runI step n i s = .inr (s ++ (List.range' i n).flatMap f)
  | 0, i, s => by simp [runI]
  | n + 1, i, s => by
    simp only [runI, h]
    rw [runI_app h n (i + 1) (s ++ f i)]
    simp [List.range'_succ]
theorem okI_app {f : Nat → List Fault} {step : Nat → List Fault → Empty ⊕ List Fault} (h : ∀ j s, step j s = .inr (s ++ f j)) (B : Nat) (hB : ∀ j, (f j).length ≤ B) {p : Nat → List Fault → Prop} {n : Nat} {s0 : List Fault}
    (hp : ∀ j s, j < n → s.length ≤ s0.length + j * B → p j s) : okI step p n 0 s0 :=
  okI_inv (fun j s => s.length ≤ s0.length + j * B) _ _ _ (by omega) fun j s _ hj hs => ⟨hp j s (by omega) hs, fun s' e => by
    rw [h] at e
    simp only [Sum.inr.injEq] at e
    subst e
    have := hB j
    rw [Nat.succ_mul, List.length_append]
    omega⟩
theorem runL_app {τ : Type} {f : τ → List Fault} {step : τ → List Fault → Empty ⊕ List Fault} (h : ∀ x s, step x s = .inr (s ++ f x)) : ∀ l s, runL step l s = .inr (s ++ l.flatMap f)
  | [], s => by simp [runL]
  | x :: l, s => by
    simp only [runL, h]
    rw [runL_app h l (s ++ f x)]
    simp
theorem okL_app {τ : Type} {f : τ → List Fault} {step : τ → List Fault → Empty ⊕ List Fault} (h : ∀ x s, step x s = .inr (s ++ f x)) (B : Nat) (hB : ∀ x, (f x).length ≤ B) {p : τ → List Fault → Prop} : ∀ (l : List τ) (s : List Fault),
    (∀ x ∈ l, ∀ s', s'.length ≤ s.length + l.length * B → p x s') → okL step p l s
  | [], _, _ => trivial
  | x :: l, s, hp => by
    refine ⟨hp x (by simp) s (by omega), fun s' e => ?_⟩
    rw [h] at e
    simp only [Sum.inr.injEq] at e
    subst e
    refine okL_app h B hB l _ fun y hy s' hs' => hp y (by simp [hy]) s' ?_
    have := hB x
    rw [List.length_append] at hs'
    rw [List.length_cons, Nat.succ_mul]
    omega
def gF (t : CertifyTable) (kind : Int) (k : Nat) : List Fault :=
  bif (t.l.getD k default).outlet then [] else
  bif kind == 2 then
    bif decide ((t.l.getD k default).litres < (t.d.reaches.getD (t.l.getD k default).index.toNat default).siphon) then
      [{ kind := kind, hour := (t.l.getD k default).hour, index := (t.l.getD k default).index, litres := (t.l.getD k default).litres, limit := (t.d.reaches.getD (t.l.getD k default).index.toNat default).siphon }] else []
  else
    bif decide ((t.l.getD k default).litres > (t.d.reaches.getD (t.l.getD k default).index.toNat default).cap) then
      [{ kind := kind, hour := (t.l.getD k default).hour, index := (t.l.getD k default).index, litres := (t.l.getD k default).litres, limit := (t.d.reaches.getD (t.l.getD k default).index.toNat default).cap }] else []
theorem gates_step (t : CertifyTable) (kind : Int) (j : Nat) (s : List Fault) : certify_table_gates_1_l0 t kind j s = .inr (s ++ gF t kind j) := by
  unfold certify_table_gates_1_l0 gF certify_Faults_1
  simp only [Bool.cond_eq_ite]
  repeat' split
  all_goals simp_all
theorem gates_run (t : CertifyTable) (kind : Int) (s : List Fault) : certify_table_gates_1 t kind s = s ++ (List.range' 0 t.l.length).flatMap (gF t kind) := by
  unfold certify_table_gates_1
  rw [runI_app (gates_step t kind)]
theorem gF_len (t : CertifyTable) (kind : Int) (k : Nat) : (gF t kind k).length ≤ 1 := by
  unfold gF
  simp only [Bool.cond_eq_ite]
  repeat' split
  all_goals simp
theorem one_p {x : Fault} {s : List Fault} (h : s.length ≤ 1000000000) : certify_Faults_1_p x s := by
  unfold certify_Faults_1_p maxB
  rw [List.length_append, List.length_singleton]
  omega
theorem gates_p {d : District} {l : List Order} {t : CertifyTable} (h : Table1 d l t) (kind : Int) {s : List Fault} (hs : s.length ≤ 100000000) : certify_table_gates_1_p t kind s := fun _ => by
  refine okI_app (gates_step t kind) 1 (gF_len t kind) fun j s' hj hs' => ?_
  have hl := h.ords.len
  rw [h.tl] at hj
  have hx := h.ords.one j hj
  unfold certify_table_gates_1_l0_p
  rw [h.tl, h.td]
  generalize l.getD j default = x at hx ⊢
  have h1 : ∀ x, certify_Faults_1_p x s' := fun x => one_p (by omega)
  exact fun e => ⟨⟨hx.index0, hx.reach e⟩, fun _ => ⟨⟨hx.index0, hx.reach e⟩, fun _ => h1 _, fun e => e⟩, fun _ => ⟨fun _ => h1 _, fun e => e⟩⟩
theorem cells_mem {t : CertifyTable} {z : Int × Int} (h : z ∈ certify_cells t) : 0 ≤ z.1 ∧ z.1 < (t.d.hours.toNat : Int) ∧ 0 ≤ z.2 ∧ z.2 < (t.d.reaches.length : Int) := by
  unfold certify_cells at h
  simp only [List.mem_flatMap, List.mem_range, List.mem_map] at h
  obtain ⟨a, ha, b, hb, rfl⟩ := h
  dsimp only
  omega
theorem cells_len (t : CertifyTable) : (certify_cells t).length = t.d.hours.toNat * t.d.reaches.length := by
  unfold certify_cells
  simp [List.length_flatMap, List.map_const', Nat.mul_comm]
def waterW (t : CertifyTable) (z : Int × Int) : Int :=
  IntKind.i64.wrap ((t.sums.getD z.2.toNat default).getD (IntKind.i64.wrap (z.1 + 1)).toNat 0 - (t.sums.getD z.2.toNat default).getD (if 0 < IntKind.i64.wrap (IntKind.i64.wrap (z.1 + 1) - (t.d.reaches.getD z.2.toNat default).delay) then IntKind.i64.wrap (IntKind.i64.wrap (z.1 + 1) - (t.d.reaches.getD z.2.toNat default).delay) else 0).toNat 0)
def bF (t : CertifyTable) (z : Int × Int) : List Fault :=
  bif decide (waterW t z > (t.d.reaches.getD z.2.toNat default).bank) then [{ kind := 3, hour := z.1, index := z.2, litres := waterW t z, limit := (t.d.reaches.getD z.2.toNat default).bank }] else []
theorem banks_step (t : CertifyTable) (z : Int × Int) (s : List Fault) : certify_table_banks_l0 t z s = .inr (s ++ bF t z) := by
  unfold certify_table_banks_l0 bF certify_Faults_1 waterW
  simp only [Bool.cond_eq_ite]
  generalize IntKind.i64.wrap ((t.sums.getD z.2.toNat default).getD (IntKind.i64.wrap (z.1 + 1)).toNat 0 - (t.sums.getD z.2.toNat default).getD (if 0 < IntKind.i64.wrap (IntKind.i64.wrap (z.1 + 1) - (t.d.reaches.getD z.2.toNat default).delay) then IntKind.i64.wrap (IntKind.i64.wrap (z.1 + 1) - (t.d.reaches.getD z.2.toNat default).delay) else 0).toNat 0) = w
  split <;> simp
theorem banks_run (t : CertifyTable) (s : List Fault) : certify_table_banks t s = s ++ (certify_cells t).flatMap (bF t) := by
  unfold certify_table_banks
  rw [runL_app (banks_step t)]
theorem bF_len (t : CertifyTable) (z : Int × Int) : (bF t z).length ≤ 1 := by
  unfold bF; simp only [Bool.cond_eq_ite]; split <;> simp
def wF (t : CertifyTable) (z : Int × Int) : List Fault :=
  bif decide ((t.drawn.getD z.2.toNat default).getD z.1.toNat 0 > certify_table_arrives t z.2 z.1) then [{ kind := 5, hour := z.1, index := z.2, litres := (t.drawn.getD z.2.toNat default).getD z.1.toNat 0, limit := certify_table_arrives t z.2 z.1 }] else []
theorem water_step (t : CertifyTable) (z : Int × Int) (s : List Fault) : certify_table_water_l0 t z s = .inr (s ++ wF t z) := by
  unfold certify_table_water_l0 wF certify_Faults_1
  simp only [Bool.cond_eq_ite]
  split <;> simp
theorem water_run (t : CertifyTable) (s : List Fault) : certify_table_water t s = s ++ (certify_cells t).flatMap (wF t) := by
  unfold certify_table_water
  rw [runL_app (water_step t)]
theorem wF_len (t : CertifyTable) (z : Int × Int) : (wF t z).length ≤ 1 := by
  unfold wF; simp only [Bool.cond_eq_ite]; split <;> simp
def uF (t : CertifyTable) (m : List (CertifyPlace × Int)) (h f : Nat) : List Fault :=
  bif decide (mgetT Tag.certifyPlace Tag.int t.litres { hour := (h : Int), index := (f : Int), outlet := true } < mgetT Tag.certifyPlace Tag.int m { hour := (h : Int), index := (f : Int), outlet := true }) then
    [{ kind := 6, hour := (h : Int), index := (f : Int), litres := mgetT Tag.certifyPlace Tag.int t.litres { hour := (h : Int), index := (f : Int), outlet := true }, limit := mgetT Tag.certifyPlace Tag.int m { hour := (h : Int), index := (f : Int), outlet := true } }] else []
theorem unmet2_step (t : CertifyTable) (m : List (CertifyPlace × Int)) (h f : Nat) (s : List Fault) : certify_table_unmet_1_l2 t m h f s = .inr (s ++ uF t m h f) := by
  unfold certify_table_unmet_1_l2 uF certify_Faults_1
  simp only [Bool.cond_eq_ite]
  split <;> simp
theorem unmet1_step (t : CertifyTable) (m : List (CertifyPlace × Int)) (h : Nat) (s : List Fault) : certify_table_unmet_1_l1 t m h s = .inr (s ++ (List.range' 0 t.d.farms.length).flatMap (uF t m h)) := by
  unfold certify_table_unmet_1_l1
  rw [runI_app (unmet2_step t m h)]
theorem uF_len (t : CertifyTable) (m : List (CertifyPlace × Int)) (h f : Nat) : (uF t m h f).length ≤ 1 := by
  unfold uF; simp only [Bool.cond_eq_ite]; split <;> simp
end Go.Sx
end
section
namespace Go.Sx
open Go.Proofs
theorem cells_small {d : District} {t : CertifyTable} (hr : Right1 d) (ht : t.d = d) : (certify_cells t).length ≤ 262144 := by
  rw [cells_len, ht]
  have h1 : d.hours.toNat ≤ 4096 := by have := hr.hours; omega
  exact Nat.mul_le_mul h1 hr.reaches
theorem banks_p {d : District} {l : List Order} {t : CertifyTable} (h : Table1 d l t) {s : List Fault} (hs : s.length ≤ 100000000) : certify_table_banks_p t s := by
  have hr := h.ords.right
  have a1 := hr.hours1
  have a2 := hr.hours
  have hc := cells_small hr h.td
  refine ⟨by rw [h.td]; omega, okL_app (banks_step t) 1 (bF_len t) _ _ fun z hz s' hs' => ?_⟩
  have hz := cells_mem hz
  rw [h.td] at hz
  have h1 : ∀ x, certify_Faults_1_p x s' := fun x => one_p (by omega)
  have hx := hr.reachI hz.2.2.1 hz.2.2.2
  have b1 := hx.delay1
  have b2 := hx.delay
  have hw : IntKind.i64.wrap (z.1 + 1) = z.1 + 1 := wrapI (by omega) (by omega)
  have hw2 : IntKind.i64.wrap (z.1 + 1 - (d.reaches.getD z.2.toNat default).delay) = z.1 + 1 - (d.reaches.getD z.2.toNat default).delay := wrapI (by omega) (by omega)
  have hg : (t.sums.getD z.2.toNat default).length = (d.hours + 1).toNat := h.sums.row (by omega)
  unfold certify_table_banks_l0_p
  rw [h.td, hw, hw2, hg, h.sums.1]
  refine ⟨⟨by omega, by omega⟩, ⟨by omega, by omega⟩, ⟨by omega, by omega⟩, ⟨by omega, by omega⟩, ⟨?_, ?_⟩, fun _ => h1 _, fun e => e⟩
  · split <;> omega
  · split <;> omega
theorem water_p {d : District} {l : List Order} {t : CertifyTable} (h : Table1 d l t) {s : List Fault} (hs : s.length ≤ 100000000) : certify_table_water_p t s := by
  have hr := h.ords.right
  have a1 := hr.hours1
  have a2 := hr.hours
  have hc := cells_small hr h.td
  refine ⟨by rw [h.td]; omega, okL_app (water_step t) 1 (wF_len t) _ _ fun z hz s' hs' => ?_⟩
  have hz := cells_mem hz
  rw [h.td] at hz
  have h1 : ∀ x, certify_Faults_1_p x s' := fun x => one_p (by omega)
  have hg : (t.drawn.getD z.2.toNat default).length = d.hours.toNat := h.drawn.row (by omega)
  unfold certify_table_water_l0_p certify_table_arrives_p
  rw [hg, h.drawn.1, h.td]
  exact ⟨⟨by omega, by omega⟩, ⟨by omega, by omega⟩, ⟨⟨by omega, by omega⟩, by omega, by omega⟩, fun _ => h1 _, fun e => e⟩
theorem tank_p {d : District} {l : List Order} {t : CertifyTable} (h : Table1 d l t) {s : List Fault} (hs : s.length ≤ 100000000) : certify_table_tank_p t s := by
  have hr := h.ords.right
  have a1 := hr.hours1
  have a2 := hr.hours
  have a3 := hr.one
  refine ⟨by rw [h.td]; omega, okI_all _ _ _ fun j _ _ hj => ?_⟩
  rw [h.td] at hj
  have hw : IntKind.i64.wrap ((j : Int) + 1) = (j : Int) + 1 := wrapI (by omega) (by omega)
  have hg : (t.sums.getD 0 default).length = (d.hours + 1).toNat := h.sums.row a3
  unfold certify_table_tank_l0_p
  rw [hw, hg, h.sums.1]
  exact ⟨⟨by omega, by omega⟩, ⟨by omega, by omega⟩, fun _ => one_p (by omega)⟩
theorem flat_len {α : Type} (f : α → List Fault) (h : ∀ x, (f x).length ≤ 1) : ∀ l : List α, (l.flatMap f).length ≤ l.length
  | [] => by simp
  | x :: l => by
    have := flat_len f h l
    have := h x
    simp only [List.flatMap_cons, List.length_append, List.length_cons]
    omega
theorem unmet_p {d : District} {l : List Order} {t : CertifyTable} (h : Table1 d l t) (c : List Claim) {s : List Fault} (hs : s.length ≤ 100000000) : certify_table_unmet_1_p c t s := fun _ m _ => by
  have hr := h.ords.right
  have a1 := hr.hours1
  have a2 := hr.hours
  have a3 := hr.farms
  have hB : ∀ j, ((List.range' 0 t.d.farms.length).flatMap (uF t m j)).length ≤ 600 := fun j => by
    have := flat_len (uF t m j) (uF_len t m j) (List.range' 0 t.d.farms.length)
    rw [List.length_range'] at this
    rw [h.td] at *
    omega
  refine ⟨by rw [h.td]; omega, okI_app (unmet1_step t m) 600 hB fun j s' hj hs' => fun _ => ?_⟩
  rw [h.td] at hj
  have : j * 600 ≤ 4096 * 600 := Nat.mul_le_mul_right _ (by omega)
  refine okI_app (unmet2_step t m j) 1 (uF_len t m j) fun i s2 hi hs2 => ?_
  rw [h.td] at hi
  have h1 : ∀ x, certify_Faults_1_p x s2 := fun x => one_p (by omega)
  unfold certify_table_unmet_1_l2_p
  exact ⟨fun _ => h1 _, fun e => e⟩
end Go.Sx
end
