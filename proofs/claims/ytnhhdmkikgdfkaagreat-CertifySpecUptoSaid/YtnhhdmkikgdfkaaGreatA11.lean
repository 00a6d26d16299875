/- Part of the proof that the law CertifySpec returns true and leaves its arguments as they were, for all arguments of bulk at most 1048576 (the Upto form). -/
import Derived.Test.YtnhhdmkikgdfkaaGreatA07
import Derived.Test.YtnhhdmkikgdfkaaGreatA10
set_option linter.all false
section
namespace Go.Sx
open Go.RowKit
section
variable {P : Program}
theorem count_okW {ts : Tis} {G : Cons} {ro : Option Nat} {N : Nat} (hm : P.follows .mixedOrders = true) (hts : ts.ok P) (hG : ConsOk P G) {id : Nat} {c : Code} (hc : okCode N c = true) {C : St → Option LCon}
    (h : ∀ st lc, C st = some lc → lc.pre → ∃ (ρ σ : Type) (pre : Prop) (step : Nat → σ → ρ ⊕ σ) (p : Nat → σ → Prop) (n : Nat) (s0 : σ) (exE : ρ → Ex) (outE : ρ → St) (outN : σ → St) (D : Nat → σ → St) (stN : St) (js : List Nat),
      lc = LC pre (runI step n 0 s0) exE outE outN ∧ okI step p n 0 s0 ∧ (∀ s, runI step n 0 s0 ≠ .inr s) ∧ NilS st stN ∧ st.h.length ≤ (D 0 s0).h.length ∧ Sub js st.h.length stN (D 0 s0) ∧
      ∀ k s, k < n → p k s → ∃ L, loopsOk P ro N L c ∧ exec ts G L c (D k s) (cE step n exE outE outN D st.h.length id k s)) : LoopOk P ro N id (.loop c) C := by
  refine loop_okN hm hts hG hc fun st lc hC hp => ?_
  obtain ⟨ρ, σ, pre, step, p, n, s0, exE, outE, outN, D, stN, js, rfl, h1, hno, hN, h2, h3, h4⟩ := h st lc hC hp
  refine ⟨Nat × σ, fun x => D x.1 x.2, fun x => x.1 ≤ n ∧ okI step p (n - x.1) x.1 x.2 ∧ runI step (n - x.1) x.1 x.2 = runI step n 0 s0, fun x => n - x.1, (0, s0), stN, js, ⟨Nat.zero_le _, by simpa using h1, by simp⟩, hN, h2, h3, ?_⟩
  rintro ⟨k, s⟩ ⟨hk, hJ, hrun⟩
  simp only at hk hJ hrun
  have hlt0 : k < n := by
    rcases Nat.lt_or_ge k n with h | h
    · exact h
    · have hkn : k = n := by omega
      subst hkn
      simp only [Nat.sub_self, runI] at hrun
      exact absurd hrun.symm (hno s)
  obtain ⟨L, hl, hex⟩ := h4 k s hlt0 (by
    rw [show n - k = (n - k - 1) + 1 by omega] at hJ
    exact hJ.1)
  refine ⟨L, _, hl, ?_, hex⟩
  have hfin : ∀ e st', k < n → exE' exE outE st.h.length e st' (step k s) → ∃ r js, (LC pre (runI step n 0 s0) exE outE outN).post r ∧ (LC pre (runI step n 0 s0) exE outE outN).ex r = e ∧ st.h.length ≤ ((LC pre (runI step n 0 s0) exE outE outN).out r).h.length ∧ Sub js st.h.length st' ((LC pre (runI step n 0 s0) exE outE outN).out r) := by
    intro e st' hlt q
    cases hs : step k s with
    | inr s' => rw [hs] at q; exact q.elim
    | inl x =>
      rw [hs] at q
      obtain ⟨q2, js, q3, q4⟩ := q
      rw [show n - k = (n - k - 1) + 1 by omega] at hrun
      simp only [runI, hs] at hrun
      exact ⟨.inl x, js, hrun, q2, q3, q4⟩
  intro e st' hq
  cases e with
  | normal =>
    obtain ⟨q1, q2⟩ := hq
    cases hs : step k s with
    | inl x => rw [hs] at q2; exact q2.elim
    | inr s' =>
      rw [hs] at q2
      obtain ⟨js, q3, q4⟩ := q2
      rw [show n - k = (n - (k + 1)) + 1 by omega] at hrun hJ
      simp only [runI, hs] at hrun
      exact ⟨(k + 1, s'), js, ⟨q1, hJ.2 s' hs, hrun⟩, by simp only; omega, q3, q4⟩
  | exit j =>
    have hq' : (bif Nat.beq j id then (n ≤ k → fitE (outN s) st.h.length st') ∧ (k < n → exE' exE outE st.h.length .normal st' (step k s)) else k < n ∧ exE' exE outE st.h.length (.exit j) st' (step k s)) := hq
    show bif Nat.beq j id then _ else _
    cases hb : Nat.beq j id with
    | true =>
      rw [hb] at hq'
      simp only [cond_true] at hq' ⊢
      by_cases hlt : k < n
      · exact hfin _ _ hlt (hq'.2 hlt)
      · obtain ⟨js, q3, q4⟩ := hq'.1 (by omega)
        have hkn : k = n := by omega
        subst hkn
        simp only [Nat.sub_self, runI] at hrun
        exact ⟨.inr s, js, hrun, rfl, q3, q4⟩
    | false => rw [hb] at hq'; exact hfin _ _ hq'.1 hq'.2
  | ret => exact hfin _ _ hq.1 hq.2
  | pan x => exact hfin _ _ hq.1 hq.2
end
end Go.Sx
end
section
namespace Go.Sx
open Go.Proofs
set_option maxRecDepth 100000
set_option linter.unusedSimpArgs false
theorem crSxR12_0 {p : Prop} (h : p := by (first | done | (repeat' (first | with_reducible refine And.intro ?_ ?_ | ((with_reducible show _ ≠ _); first | assumption | omega | (simp_all [outR, outL]; done) | grind) | with_reducible intro _)) <;> (first | done | exact Empty.elim ‹Empty› | assumption | rfl | omega | decide | exact fk [] | (simp only [*, cond_true, cond_false, Bool.not_true, Bool.not_false, go_sem, Nat.reduceBEq, Nat.reduceLeDiff, Nat.reduceAdd, Nat.reduceSub, Nat.reduceMul, Int.reduceLE, Int.reduceLT, Int.reduceToNat, Int.reduceNeg, reduceCtorEq]; done) | (simp only [*, cond_true, cond_false, Bool.not_true, Bool.not_false, go_sem, Nat.reduceBEq, Nat.reduceLeDiff, Nat.reduceAdd, Nat.reduceSub, Nat.reduceMul, Int.reduceLE, Int.reduceLT, Int.reduceToNat, Int.reduceNeg, reduceCtorEq]; (repeat' (first | with_reducible refine And.intro ?_ ?_ | ((with_reducible show _ ≠ _); first | assumption | omega | (simp_all [outR, outL]; done) | grind) | with_reducible intro _)) <;> (first | done | assumption | rfl | omega | decide | exact fk [] | (simp_all [outR, outL]; done))) | (simp_all [okI, outR, outL]; done) | (simp_all [outR, outL]; (first | done | exact fk2 [])) | exact fk2 []))) : p := h
def ref19_within (n : Int) (lo : Int) (hi : Int) : Bool := ((decide (n ≥ lo)) && (decide (n ≤ hi)))
def C_ref19_within : List SV → Option Con := (pI fun n => (pI fun lo => (pI fun hi => pE (.det True (.v (.bool (ref19_within n lo hi)))))))
theorem ok_ref19_within : FnOk Tryz.prog 82 C_ref19_within := by
  have hG : ConsOk Tryz.prog (mkG [] []) := mkG_ok cg0 cg0
  refine fn_okN [.o] mixed ts_ok hG (fn := Tryz.f82) (c := bodyOf Tryz.f82) (by kernel_rfl) (by kernel_rfl) (by kernel_rfl) (by kernel_rfl) fun l con h hp => ?_
  unfold C_ref19_within at h
  obtain ⟨n, l0, rfl, h0⟩ := pI_inv h
  obtain ⟨lo, l1, rfl, h1⟩ := pI_inv h0
  obtain ⟨hi, l2, rfl, h2⟩ := pI_inv h1
  obtain ⟨rfl, rfl⟩ := pE_inv h2
  clear h h0 h1 h2
  dsimp only [conPre] at hp
  refine ⟨Nat.le_of_ble_eq_true rfl, (fun id st => none), ?_, ?_⟩
  · unfold bodyOf Tryz.f82
    simp only [loopsOk, and_self, true_and, and_true]
  · unfold bodyOf Tryz.f82
    try unfold ref19_within
    simp only [go_sem, Nat.reduceBEq, Nat.reduceLeDiff, Nat.reduceAdd, Nat.reduceSub, Nat.reduceMul, Int.reduceLE, Int.reduceLT, Int.reduceToNat, Int.reduceNeg, reduceCtorEq]
    all_goals exact cl
def ref12_divisor_l0 (b : Int) : Nat → (Int × Int) → Int ⊕ (Int × Int) := fun k_0 s_0 => (bif (decide (s_0.2 > 0)) then .inr (s_0.2, (Int.tmod s_0.1 s_0.2)) else .inl s_0.1)
def ref12_divisor_l0_p (b : Int) : Nat → (Int × Int) → Prop := fun k_0 s_0 => ((decide (s_0.2 > 0)) = true → s_0.2 ≠ 0)
def ref12_divisor (a : Int) (b : Int) : Int := (match runI (ref12_divisor_l0 b) (Int.toNat b + 1) 0 (a, b) with | .inl x_0_0 => x_0_0 | .inr s_0 => default)
def ref12_divisor_p (a : Int) (b : Int) : Prop := (okI (ref12_divisor_l0 b) (ref12_divisor_l0_p b) (Int.toNat b + 1) 0 (a, b) ∧ (∀ z_, runI (ref12_divisor_l0 b) (Int.toNat b + 1) 0 (a, b) ≠ .inr z_))
def C_ref12_divisor : List SV → Option Con := (pI fun a => (pI fun b => pE (.det (ref12_divisor_p a b) (.v (.int .i64 (ref12_divisor a b))))))
set_option maxHeartbeats 4000000 in
theorem ok_ref12_divisor : FnOk Tryz.prog 107 C_ref12_divisor := by
  have hG : ConsOk Tryz.prog (mkG [] []) := mkG_ok cg0 cg0
  refine fn_okN [.o] mixed ts_ok hG (fn := Tryz.f107) (c := bodyOf Tryz.f107) (by kernel_rfl) (by kernel_rfl) (by kernel_rfl) (by kernel_rfl) fun l con h hp => ?_
  unfold C_ref12_divisor at h
  obtain ⟨a, l0, rfl, h0⟩ := pI_inv h
  obtain ⟨b, l1, rfl, h1⟩ := pI_inv h0
  obtain ⟨rfl, rfl⟩ := pE_inv h1
  clear h h0 h1
  dsimp only [conPre] at hp
  unfold ref12_divisor_p at hp
  refine ⟨Nat.le_of_ble_eq_true rfl, (fun id st => bif Nat.beq id 0 then some (LC (ρ := Int) (σ := Int × Int) (lk 0 st.t = .v (.int .i64 a) ∧ lk 1 st.t = .v (.int .i64 b) ∧ st.h = [] ∧ okI (ref12_divisor_l0 b) (ref12_divisor_l0_p b) (Int.toNat b + 1) 0 (a, b) ∧ (∀ z_, runI (ref12_divisor_l0 b) (Int.toNat b + 1) 0 (a, b) ≠ .inr z_)) (runI (ref12_divisor_l0 b) (Int.toNat b + 1) 0 (a, b)) (fun _ => .normal) (fun x_0_0 => ⟨[(0, .v (.int .i64 x_0_0))], []⟩) (fun s_0 => ⟨[(0, .v (.int .i64 s_0.1))], []⟩)) else none), ?_, ?_⟩
  · unfold bodyOf Tryz.f107
    simp only [loopsOk, true_and, and_true]
    · refine count_okW mixed ts_ok hG (by kernel_rfl) fun st lc hC hp => ?_
      simp only [go_sem, Nat.reduceBEq, Option.some.injEq] at hC
      subst hC
      obtain ⟨t, h⟩ := st
      dsimp only [LC] at hp
      obtain ⟨e0_0, e0_1, rfl, hok0, hno0⟩ := hp
      refine ⟨_, _, _, (ref12_divisor_l0 b), (ref12_divisor_l0_p b), (Int.toNat b + 1), (a, b), _, _, _, (fun k_0 s_0 => ⟨[(0, .v (.int .i64 s_0.1)), (1, .v (.int .i64 s_0.2))], []⟩), ⟨t, []⟩, [], rfl, hok0, hno0, NilS.refl _, Nat.le_of_ble_eq_true rfl, ?_, fun k_0 s_0 hk0 hp0 => ?_⟩
      · simp only [go_sem, Nat.reduceBEq, Nat.reduceLeDiff, Nat.reduceAdd, Nat.reduceSub, Nat.reduceMul, Int.reduceLE, Int.reduceLT, Int.reduceToNat, Int.reduceNeg, reduceCtorEq, e0_0, e0_1]
        all_goals (first | done | decide | (repeat' (first | refine And.intro ?_ ?_ | rfl | decide)))
      refine ⟨(fun id st => none), ?_, ?_⟩
      · simp only [loopsOk, and_self, true_and, and_true]
      · have hq0 := hp0
        unfold ref12_divisor_l0_p at hq0
        simp only [go_sem, Nat.reduceBEq, Nat.reduceLeDiff, Nat.reduceAdd, Nat.reduceSub, Nat.reduceMul, Int.reduceLE, Int.reduceLT, Int.reduceToNat, Int.reduceNeg, reduceCtorEq, ref12_divisor_l0]
        all_goals exact crSxR12_0
  · unfold bodyOf Tryz.f107
    try unfold ref12_divisor
    simp only [go_sem, Nat.reduceBEq, Nat.reduceLeDiff, Nat.reduceAdd, Nat.reduceSub, Nat.reduceMul, Int.reduceLE, Int.reduceLT, Int.reduceToNat, Int.reduceNeg, reduceCtorEq]
    all_goals exact cl
def ref12_size (n : Int) : Int := (bif (decide (n < 0)) then (IntKind.i64.wrap (0 - n)) else n)
def C_ref12_size : List SV → Option Con := (pI fun n => pE (.det True (.v (.int .i64 (ref12_size n)))))
theorem ok_ref12_size : FnOk Tryz.prog 108 C_ref12_size := by
  have hG : ConsOk Tryz.prog (mkG [] []) := mkG_ok cg0 cg0
  refine fn_okN [.o] mixed ts_ok hG (fn := Tryz.f108) (c := bodyOf Tryz.f108) (by kernel_rfl) (by kernel_rfl) (by kernel_rfl) (by kernel_rfl) fun l con h hp => ?_
  unfold C_ref12_size at h
  obtain ⟨n, l0, rfl, h0⟩ := pI_inv h
  obtain ⟨rfl, rfl⟩ := pE_inv h0
  clear h h0
  dsimp only [conPre] at hp
  refine ⟨Nat.le_of_ble_eq_true rfl, (fun id st => none), ?_, ?_⟩
  · unfold bodyOf Tryz.f108
    simp only [loopsOk, and_self, true_and, and_true]
  · unfold bodyOf Tryz.f108
    try unfold ref12_size
    simp only [go_sem, Nat.reduceBEq, Nat.reduceLeDiff, Nat.reduceAdd, Nat.reduceSub, Nat.reduceMul, Int.reduceLE, Int.reduceLT, Int.reduceToNat, Int.reduceNeg, reduceCtorEq]
    all_goals exact cl
def ref12_Valid (a : Ratio) : Bool := (((((decide (a.d ≥ 1)) && (decide (a.d ≤ 1073741824))) && (decide (a.n ≥ (-1073741824)))) && (decide (a.n ≤ 1073741824))) && ((ref12_divisor (ref12_size a.n) a.d) == 1))
def ref12_Valid_p (a : Ratio) : Prop := (((((decide (a.d ≥ 1)) && (decide (a.d ≤ 1073741824))) && (decide (a.n ≥ (-1073741824)))) && (decide (a.n ≤ 1073741824))) = true → (ref12_divisor_p (ref12_size a.n) a.d))
def C_ref12_Valid : List SV → Option Con := (pD .ratio fun a => pE (.det (ref12_Valid_p a) (.v (.bool (ref12_Valid a)))))
theorem ok_ref12_Valid : FnOk Tryz.prog 104 C_ref12_Valid := by
  have hG : ConsOk Tryz.prog (mkG [(107, C_ref12_divisor), (108, C_ref12_size)] []) := mkG_ok (cgc ok_ref12_divisor (cgc ok_ref12_size cg0)) cg0
  refine fn_okN [.o] mixed ts_ok hG (fn := Tryz.f104) (c := bodyOf Tryz.f104) (by kernel_rfl) (by kernel_rfl) (by kernel_rfl) (by kernel_rfl) fun l con h hp => ?_
  unfold C_ref12_Valid at h
  obtain ⟨a, l0, rfl, h0⟩ := pD_inv h
  obtain ⟨rfl, rfl⟩ := pE_inv h0
  clear h h0
  dsimp only [conPre] at hp
  unfold ref12_Valid_p at hp
  refine ⟨Nat.le_of_ble_eq_true rfl, (fun id st => none), ?_, ?_⟩
  · unfold bodyOf Tryz.f104
    simp only [loopsOk, and_self, true_and, and_true]
  · unfold bodyOf Tryz.f104
    try unfold ref12_Valid
    simp only [go_sem, Nat.reduceBEq, Nat.reduceLeDiff, Nat.reduceAdd, Nat.reduceSub, Nat.reduceMul, Int.reduceLE, Int.reduceLT, Int.reduceToNat, Int.reduceNeg, reduceCtorEq, C_ref12_divisor, C_ref12_size]
    all_goals exact cl
def ref12_Check (a : Ratio) : Int := (bif (!(ref12_Valid a)) then 120 else 0)
def ref12_Check_p (a : Ratio) : Prop := (ref12_Valid_p a)
def C_ref12_Check : List SV → Option Con := (pD .ratio fun a => pE (.det (ref12_Check_p a) (.v (.int .i64 (ref12_Check a)))))
theorem ok_ref12_Check : FnOk Tryz.prog 102 C_ref12_Check := by
  have hG : ConsOk Tryz.prog (mkG [(104, C_ref12_Valid)] []) := mkG_ok (cgc ok_ref12_Valid cg0) cg0
  refine fn_okN [.o] mixed ts_ok hG (fn := Tryz.f102) (c := bodyOf Tryz.f102) (by kernel_rfl) (by kernel_rfl) (by kernel_rfl) (by kernel_rfl) fun l con h hp => ?_
  unfold C_ref12_Check at h
  obtain ⟨a, l0, rfl, h0⟩ := pD_inv h
  obtain ⟨rfl, rfl⟩ := pE_inv h0
  clear h h0
  dsimp only [conPre] at hp
  unfold ref12_Check_p at hp
  refine ⟨Nat.le_of_ble_eq_true rfl, (fun id st => none), ?_, ?_⟩
  · unfold bodyOf Tryz.f102
    simp only [loopsOk, and_self, true_and, and_true]
  · unfold bodyOf Tryz.f102
    try unfold ref12_Check
    simp only [go_sem, Nat.reduceBEq, Nat.reduceLeDiff, Nat.reduceAdd, Nat.reduceSub, Nat.reduceMul, Int.reduceLE, Int.reduceLT, Int.reduceToNat, Int.reduceNeg, reduceCtorEq, C_ref12_Valid]
    all_goals exact cl
def ref12_Less (a : Ratio) (b : Ratio) : Bool := (decide ((IntKind.i64.wrap (a.n * b.d)) < (IntKind.i64.wrap (b.n * a.d))))
def C_ref12_Less : List SV → Option Con := (pD .ratio fun a => (pD .ratio fun b => pE (.det True (.v (.bool (ref12_Less a b))))))
theorem ok_ref12_Less : FnOk Tryz.prog 100 C_ref12_Less := by
  have hG : ConsOk Tryz.prog (mkG [] []) := mkG_ok cg0 cg0
  refine fn_okN [.o] mixed ts_ok hG (fn := Tryz.f100) (c := bodyOf Tryz.f100) (by kernel_rfl) (by kernel_rfl) (by kernel_rfl) (by kernel_rfl) fun l con h hp => ?_
  unfold C_ref12_Less at h
  obtain ⟨a, l0, rfl, h0⟩ := pD_inv h
  obtain ⟨b, l1, rfl, h1⟩ := pD_inv h0
  obtain ⟨rfl, rfl⟩ := pE_inv h1
  clear h h0 h1
  dsimp only [conPre] at hp
  refine ⟨Nat.le_of_ble_eq_true rfl, (fun id st => none), ?_, ?_⟩
  · unfold bodyOf Tryz.f100
    simp only [loopsOk, and_self, true_and, and_true]
  · unfold bodyOf Tryz.f100
    try unfold ref12_Less
    simp only [go_sem, Nat.reduceBEq, Nat.reduceLeDiff, Nat.reduceAdd, Nat.reduceSub, Nat.reduceMul, Int.reduceLE, Int.reduceLT, Int.reduceToNat, Int.reduceNeg, reduceCtorEq]
    all_goals exact cl
def ref12_Both (a : Ratio) (b : Ratio) : Bool := ((ref12_Valid a) && (ref12_Valid b))
def ref12_Both_p (a : Ratio) (b : Ratio) : Prop := ((ref12_Valid_p a) ∧ ((ref12_Valid a) = true → (ref12_Valid_p b)))
def C_ref12_Both : List SV → Option Con := (pD .ratio fun a => (pD .ratio fun b => pE (.det (ref12_Both_p a b) (.v (.bool (ref12_Both a b))))))
theorem ok_ref12_Both : FnOk Tryz.prog 106 C_ref12_Both := by
  have hG : ConsOk Tryz.prog (mkG [(104, C_ref12_Valid)] []) := mkG_ok (cgc ok_ref12_Valid cg0) cg0
  refine fn_okN [.o] mixed ts_ok hG (fn := Tryz.f106) (c := bodyOf Tryz.f106) (by kernel_rfl) (by kernel_rfl) (by kernel_rfl) (by kernel_rfl) fun l con h hp => ?_
  unfold C_ref12_Both at h
  obtain ⟨a, l0, rfl, h0⟩ := pD_inv h
  obtain ⟨b, l1, rfl, h1⟩ := pD_inv h0
  obtain ⟨rfl, rfl⟩ := pE_inv h1
  clear h h0 h1
  dsimp only [conPre] at hp
  unfold ref12_Both_p at hp
  refine ⟨Nat.le_of_ble_eq_true rfl, (fun id st => none), ?_, ?_⟩
  · unfold bodyOf Tryz.f106
    simp only [loopsOk, and_self, true_and, and_true]
  · unfold bodyOf Tryz.f106
    try unfold ref12_Both
    simp only [go_sem, Nat.reduceBEq, Nat.reduceLeDiff, Nat.reduceAdd, Nat.reduceSub, Nat.reduceMul, Int.reduceLE, Int.reduceLT, Int.reduceToNat, Int.reduceNeg, reduceCtorEq, C_ref12_Valid]
    all_goals exact cl
def ref12_Cmp (a : Ratio) (b : Ratio) : Int × Int := (bif (!(ref12_Both a b)) then (0, 120) else (bif (ref12_Less a b) then ((-1), 0) else (bif (ref12_Less b a) then (1, 0) else (0, 0))))
def ref12_Cmp_p (a : Ratio) (b : Ratio) : Prop := (ref12_Both_p a b)
def C_ref12_Cmp : List SV → Option Con := (pD .ratio fun a => (pD .ratio fun b => pE (.det (ref12_Cmp_p a b) (.tup [.v (.int .i64 ((ref12_Cmp a b).1)), .v (.int .i64 ((ref12_Cmp a b).2))]))))
theorem ok_ref12_Cmp : FnOk Tryz.prog 103 C_ref12_Cmp := by
  have hG : ConsOk Tryz.prog (mkG [(100, C_ref12_Less), (106, C_ref12_Both)] []) := mkG_ok (cgc ok_ref12_Less (cgc ok_ref12_Both cg0)) cg0
  refine fn_okN [.o, .o] mixed ts_ok hG (fn := Tryz.f103) (c := bodyOf Tryz.f103) (by kernel_rfl) (by kernel_rfl) (by kernel_rfl) (by kernel_rfl) fun l con h hp => ?_
  unfold C_ref12_Cmp at h
  obtain ⟨a, l0, rfl, h0⟩ := pD_inv h
  obtain ⟨b, l1, rfl, h1⟩ := pD_inv h0
  obtain ⟨rfl, rfl⟩ := pE_inv h1
  clear h h0 h1
  dsimp only [conPre] at hp
  unfold ref12_Cmp_p at hp
  refine ⟨Nat.le_of_ble_eq_true rfl, (fun id st => none), ?_, ?_⟩
  · unfold bodyOf Tryz.f103
    simp only [loopsOk, and_self, true_and, and_true]
  · unfold bodyOf Tryz.f103
    try unfold ref12_Cmp
    simp only [go_sem, Nat.reduceBEq, Nat.reduceLeDiff, Nat.reduceAdd, Nat.reduceSub, Nat.reduceMul, Int.reduceLE, Int.reduceLT, Int.reduceToNat, Int.reduceNeg, reduceCtorEq, C_ref12_Less, C_ref12_Both]
    all_goals exact cl
def ref19_shares (x : Ratio × Ratio) : Bool := (bif (((ref12_Check x.1) != 0) || ((ref12_Check x.2) != 0)) then false else (((decide (x.1.n ≥ 0)) && (decide ((ref12_Cmp x.1 x.2).1 ≤ 0))) && (decide (x.2.n ≤ x.2.d))))
def ref19_shares_p (x : Ratio × Ratio) : Prop := ((ref12_Check_p x.1) ∧ ((((ref12_Check x.1) != 0) = false → (ref12_Check_p x.2)) ∧ ((((ref12_Check x.1) != 0) || ((ref12_Check x.2) != 0)) = false → (ref12_Cmp_p x.1 x.2))))
def C_ref19_shares : List SV → Option Con := (pD .ratio2 fun x => pE (.det (ref19_shares_p x) (.v (.bool (ref19_shares x)))))
theorem ok_ref19_shares : FnOk Tryz.prog 98 C_ref19_shares := by
  have hG : ConsOk Tryz.prog (mkG [(102, C_ref12_Check), (103, C_ref12_Cmp)] []) := mkG_ok (cgc ok_ref12_Check (cgc ok_ref12_Cmp cg0)) cg0
  refine fn_okN [.o] mixed ts_ok hG (fn := Tryz.f98) (c := bodyOf Tryz.f98) (by kernel_rfl) (by kernel_rfl) (by kernel_rfl) (by kernel_rfl) fun l con h hp => ?_
  unfold C_ref19_shares at h
  obtain ⟨x, l0, rfl, h0⟩ := pD_inv h
  obtain ⟨rfl, rfl⟩ := pE_inv h0
  clear h h0
  dsimp only [conPre] at hp
  unfold ref19_shares_p at hp
  refine ⟨Nat.le_of_ble_eq_true rfl, (fun id st => none), ?_, ?_⟩
  · unfold bodyOf Tryz.f98
    simp only [loopsOk, and_self, true_and, and_true]
  · unfold bodyOf Tryz.f98
    try unfold ref19_shares
    simp only [go_sem, Nat.reduceBEq, Nat.reduceLeDiff, Nat.reduceAdd, Nat.reduceSub, Nat.reduceMul, Int.reduceLE, Int.reduceLT, Int.reduceToNat, Int.reduceNeg, reduceCtorEq, C_ref12_Check, C_ref12_Cmp]
    all_goals exact cl
def ref19_Reach (x : Reach) : Bool := (bif (((!(ref19_within x.delay 1 16)) || (!(ref19_within x.cap 0 1073741824))) || (!(ref19_within x.bank 0 1099511627776))) then false else (bif (((!(ref19_within x.siphon 0 (if x.bank < x.cap then x.bank else x.cap))) || (!(ref19_within x.evap.lo 0 x.evap.hi))) || (decide (x.evap.hi > 1073741824))) then false else (ref19_shares x.seep)))
def ref19_Reach_p (x : Reach) : Prop := ((((!(ref19_within x.delay 1 16)) || (!(ref19_within x.cap 0 1073741824))) || (!(ref19_within x.bank 0 1099511627776))) = false → ((((!(ref19_within x.siphon 0 (if x.bank < x.cap then x.bank else x.cap))) || (!(ref19_within x.evap.lo 0 x.evap.hi))) || (decide (x.evap.hi > 1073741824))) = false → (ref19_shares_p x.seep)))
def C_ref19_Reach : List SV → Option Con := (pD .reach fun x => pE (.det (ref19_Reach_p x) (.v (.bool (ref19_Reach x)))))
theorem ok_ref19_Reach : FnOk Tryz.prog 92 C_ref19_Reach := by
  have hG : ConsOk Tryz.prog (mkG [(82, C_ref19_within), (98, C_ref19_shares)] []) := mkG_ok (cgc ok_ref19_within (cgc ok_ref19_shares cg0)) cg0
  refine fn_okN [.o] mixed ts_ok hG (fn := Tryz.f92) (c := bodyOf Tryz.f92) (by kernel_rfl) (by kernel_rfl) (by kernel_rfl) (by kernel_rfl) fun l con h hp => ?_
  unfold C_ref19_Reach at h
  obtain ⟨x, l0, rfl, h0⟩ := pD_inv h
  obtain ⟨rfl, rfl⟩ := pE_inv h0
  clear h h0
  dsimp only [conPre] at hp
  unfold ref19_Reach_p at hp
  refine ⟨Nat.le_of_ble_eq_true rfl, (fun id st => none), ?_, ?_⟩
  · unfold bodyOf Tryz.f92
    simp only [loopsOk, and_self, true_and, and_true]
  · unfold bodyOf Tryz.f92
    try unfold ref19_Reach
    simp only [go_sem, Nat.reduceBEq, Nat.reduceLeDiff, Nat.reduceAdd, Nat.reduceSub, Nat.reduceMul, Int.reduceLE, Int.reduceLT, Int.reduceToNat, Int.reduceNeg, reduceCtorEq, C_ref19_within, C_ref19_shares]
    all_goals exact cl
def ref19_reaches_l0 (l_ : List Reach) : Nat → Unit → Unit ⊕ Unit := fun k_0 s_0 => (bif ((((k_0 : Int) == 0) && ((l_.getD k_0 (default : Reach)).up != (-1))) || ((decide ((k_0 : Int) > 0)) && (!(ref19_within ((l_.getD k_0 (default : Reach)).up) 0 (IntKind.i64.wrap ((k_0 : Int) - 1)))))) then .inl () else (bif (!(ref19_Reach (l_.getD k_0 (default : Reach)))) then .inl () else .inr ()))
def ref19_reaches_l0_p (l_ : List Reach) : Nat → Unit → Prop := fun k_0 s_0 => (l_.length ≤ maxL → (((((k_0 : Int) == 0) && ((l_.getD k_0 (default : Reach)).up != (-1))) || ((decide ((k_0 : Int) > 0)) && (!(ref19_within ((l_.getD k_0 (default : Reach)).up) 0 (IntKind.i64.wrap ((k_0 : Int) - 1)))))) = false → (ref19_Reach_p (l_.getD k_0 (default : Reach)))))
def ref19_reaches (l_ : List Reach) : Bool := (match runI (ref19_reaches_l0 l_) l_.length 0 () with | .inl x_0_0 => false | .inr s_0 => (decide ((l_.length : Int) > 0)))
def ref19_reaches_p (l_ : List Reach) : Prop := okI (ref19_reaches_l0 l_) (ref19_reaches_l0_p l_) l_.length 0 ()
def C_ref19_reaches : List SV → Option Con := (pR .reach fun l_ => pE (.det (ref19_reaches_p l_) (.v (.bool (ref19_reaches l_)))))
set_option maxHeartbeats 4000000 in
theorem ok_ref19_reaches : FnOk Tryz.prog 83 C_ref19_reaches := by
  have hG : ConsOk Tryz.prog (mkG [(82, C_ref19_within), (92, C_ref19_Reach)] []) := mkG_ok (cgc ok_ref19_within (cgc ok_ref19_Reach cg0)) cg0
  refine fn_okN [.o] mixed ts_ok hG (fn := Tryz.f83) (c := bodyOf Tryz.f83) (by kernel_rfl) (by kernel_rfl) (by kernel_rfl) (by kernel_rfl) fun l con h hp => ?_
  unfold C_ref19_reaches at h
  obtain ⟨l_, l0, rfl, h0⟩ := pR_inv h
  obtain ⟨rfl, rfl⟩ := pE_inv h0
  clear h h0
  dsimp only [conPre] at hp
  unfold ref19_reaches_p at hp
  refine ⟨Nat.le_of_ble_eq_true rfl, (fun id st => bif Nat.beq id 0 then some (LC (ρ := Unit) (σ := Unit) (lk 0 st.t = .rs .reach l_ ∧ lk 3 st.t = .v (.int .i64 0) ∧ st.h = [] ∧ okI (ref19_reaches_l0 l_) (ref19_reaches_l0_p l_) l_.length 0 ()) (runI (ref19_reaches_l0 l_) l_.length 0 ()) (fun _ => .ret) (fun x_0_0 => ⟨[(2, .v (.bool false))], []⟩) (fun s_0 => ⟨[(0, .rs .reach l_)], []⟩)) else none), ?_, ?_⟩
  · unfold bodyOf Tryz.f83
    simp only [loopsOk, true_and, and_true]
    · refine count_okP mixed ts_ok hG (by kernel_rfl) fun st lc hC hp => ?_
      simp only [go_sem, Nat.reduceBEq, Option.some.injEq] at hC
      subst hC
      obtain ⟨t, h⟩ := st
      dsimp only [LC] at hp
      obtain ⟨e0_0, e0_1, rfl, hok0⟩ := hp
      refine ⟨_, _, _, (ref19_reaches_l0 l_), (ref19_reaches_l0_p l_), l_.length, (), _, _, _, (fun k_0 s_0 => ⟨[(0, .rs .reach l_), (3, .v (.int .i64 (k_0 : Int)))], []⟩), [], rfl, hok0, Nat.le_refl _, ?_, fun k_0 s_0 hk0 hp0 => ?_⟩
      · simp only [go_sem, Nat.reduceBEq, Nat.reduceLeDiff, Nat.reduceAdd, Nat.reduceSub, Nat.reduceMul, Int.reduceLE, Int.reduceLT, Int.reduceToNat, Int.reduceNeg, reduceCtorEq, e0_0, e0_1]
        all_goals (first | done | decide | (repeat' (first | refine And.intro ?_ ?_ | rfl | decide)))
      refine ⟨(fun id st => none), ?_, ?_⟩
      · simp only [loopsOk, and_self, true_and, and_true]
      · by_cases hb0 : l_.length ≤ maxL
        rotate_left
        · simp only [go_sem, Nat.reduceBEq, Nat.reduceLeDiff, Nat.reduceAdd, Nat.reduceSub, Nat.reduceMul, Int.reduceLE, Int.reduceLT, Int.reduceToNat, Int.reduceNeg, reduceCtorEq, C_ref19_within, C_ref19_Reach, hb0]
        · by_cases hlt0 : k_0 < l_.length
          · have hw0 := wrapS hlt0 hb0
            have hq0 := hp0 hlt0
            unfold ref19_reaches_l0_p at hq0
            replace hq0 := hq0 hb0
            try simp only [hw0, Int.toNat_natCast] at hq0
            have hc0 : decide ((k_0 : Int) < (l_.length : Int)) = true := by simp only [decide_eq_true_eq]; omega
            simp only [go_sem, Nat.reduceBEq, Nat.reduceLeDiff, Nat.reduceAdd, Nat.reduceSub, Nat.reduceMul, Int.reduceLE, Int.reduceLT, Int.reduceToNat, Int.reduceNeg, reduceCtorEq, C_ref19_within, C_ref19_Reach, ref19_reaches_l0, hc0, hw0]
            all_goals exact cl
          · have hc0 : decide ((k_0 : Int) < (l_.length : Int)) = false := by simp only [decide_eq_false_iff_not]; omega
            simp only [go_sem, Nat.reduceBEq, Nat.reduceLeDiff, Nat.reduceAdd, Nat.reduceSub, Nat.reduceMul, Int.reduceLE, Int.reduceLT, Int.reduceToNat, Int.reduceNeg, reduceCtorEq, C_ref19_within, C_ref19_Reach, hc0]
            all_goals exact cl2
  · unfold bodyOf Tryz.f83
    try unfold ref19_reaches
    simp only [go_sem, Nat.reduceBEq, Nat.reduceLeDiff, Nat.reduceAdd, Nat.reduceSub, Nat.reduceMul, Int.reduceLE, Int.reduceLT, Int.reduceToNat, Int.reduceNeg, reduceCtorEq, C_ref19_within, C_ref19_Reach]
    all_goals exact cl
def ref19_farms_l0 (a0 : District) : Nat → Unit → Unit ⊕ Unit := fun k_0 s_0 => (bif (!(ref19_within ((a0.crops.getD k_0 (default : Crop)).need) 0 1048576)) then .inl () else .inr ())
def ref19_farms_l0_p (a0 : District) : Nat → Unit → Prop := fun k_0 s_0 => True
def ref19_farms_l1 (a0 : District) : Nat → Unit → Unit ⊕ Unit := fun k_1 s_1 => (bif ((!(ref19_within ((a0.farms.getD k_1 (default : Farm)).reach) 0 (IntKind.i64.wrap ((a0.reaches.length : Int) - 1)))) || (!(ref19_within ((a0.farms.getD k_1 (default : Farm)).area) 0 1048576))) then .inl () else (bif ((((a0.farms.getD k_1 (default : Farm)).area == 0) && ((a0.farms.getD k_1 (default : Farm)).crop != (-1))) || ((decide ((a0.farms.getD k_1 (default : Farm)).area > 0)) && (!(ref19_within ((a0.farms.getD k_1 (default : Farm)).crop) 0 (IntKind.i64.wrap ((a0.crops.length : Int) - 1)))))) then .inl () else .inr ()))
def ref19_farms_l1_p (a0 : District) : Nat → Unit → Prop := fun k_1 s_1 => True
def ref19_farms (a0 : District) : Bool := (match runI (ref19_farms_l0 a0) a0.crops.length 0 () with | .inl x_0_0 => false | .inr s_0 => (match runI (ref19_farms_l1 a0) a0.farms.length 0 () with | .inl x_1_0 => false | .inr s_1 => true))
def C_ref19_farms : List SV → Option Con := (pD .district fun a0 => pE (.det True (.v (.bool (ref19_farms a0)))))
set_option maxHeartbeats 4000000 in
theorem ok_ref19_farms : FnOk Tryz.prog 84 C_ref19_farms := by
  have hG : ConsOk Tryz.prog (mkG [(82, C_ref19_within)] []) := mkG_ok (cgc ok_ref19_within cg0) cg0
  refine fn_okN [.o] mixed ts_ok hG (fn := Tryz.f84) (c := bodyOf Tryz.f84) (by kernel_rfl) (by kernel_rfl) (by kernel_rfl) (by kernel_rfl) fun l con h hp => ?_
  unfold C_ref19_farms at h
  obtain ⟨a0, l0, rfl, h0⟩ := pD_inv h
  obtain ⟨rfl, rfl⟩ := pE_inv h0
  clear h h0
  dsimp only [conPre] at hp
  refine ⟨Nat.le_of_ble_eq_true rfl, (fun id st => bif Nat.beq id 0 then some (LC (ρ := Unit) (σ := Unit) (lk 1 st.t = .ptr 0 0 ∧ lk 3 st.t = .v (.int .i64 0) ∧ st.h = [.cells [.v (.string a0.name), .v (.int .i64 a0.hours), .v (.int .i64 a0.tank.cap), .v (.int .i64 a0.tank.start), .rs .reach a0.reaches, .rs .farm a0.farms, .rs .crop a0.crops, .rs .right a0.rights, .rs .duty a0.duties, .rs .well a0.wells]]) (runI (ref19_farms_l0 a0) a0.crops.length 0 ()) (fun _ => .ret) (fun x_0_0 => ⟨[(2, .v (.bool false))], [.dead]⟩) (fun s_0 => ⟨[(1, .ptr 0 0)], [.cells [.v (.string a0.name), .v (.int .i64 a0.hours), .v (.int .i64 a0.tank.cap), .v (.int .i64 a0.tank.start), .rs .reach a0.reaches, .rs .farm a0.farms, .rs .crop a0.crops, .rs .right a0.rights, .rs .duty a0.duties, .rs .well a0.wells]]⟩)) else bif Nat.beq id 2 then some (LC (ρ := Unit) (σ := Unit) (lk 1 st.t = .ptr 0 0 ∧ lk 4 st.t = .v (.int .i64 0) ∧ st.h = [.cells [.v (.string a0.name), .v (.int .i64 a0.hours), .v (.int .i64 a0.tank.cap), .v (.int .i64 a0.tank.start), .rs .reach a0.reaches, .rs .farm a0.farms, .rs .crop a0.crops, .rs .right a0.rights, .rs .duty a0.duties, .rs .well a0.wells]]) (runI (ref19_farms_l1 a0) a0.farms.length 0 ()) (fun _ => .ret) (fun x_1_0 => ⟨[(2, .v (.bool false))], [.dead]⟩) (fun s_1 => ⟨[], [.dead]⟩)) else none), ?_, ?_⟩
  · unfold bodyOf Tryz.f84
    simp only [loopsOk, true_and, and_true]
    refine ⟨?_, ?_⟩
    · refine count_okP mixed ts_ok hG (by kernel_rfl) fun st lc hC hp => ?_
      simp only [go_sem, Nat.reduceBEq, Option.some.injEq] at hC
      subst hC
      obtain ⟨t, h⟩ := st
      dsimp only [LC] at hp
      obtain ⟨e0_0, e0_1, rfl⟩ := hp
      refine ⟨_, _, _, (ref19_farms_l0 a0), (ref19_farms_l0_p a0), a0.crops.length, (), _, _, _, (fun k_0 s_0 => ⟨[(1, .ptr 0 0), (3, .v (.int .i64 (k_0 : Int)))], [.cells [.v (.string a0.name), .v (.int .i64 a0.hours), .v (.int .i64 a0.tank.cap), .v (.int .i64 a0.tank.start), .rs .reach a0.reaches, .rs .farm a0.farms, .rs .crop a0.crops, .rs .right a0.rights, .rs .duty a0.duties, .rs .well a0.wells]]⟩), [0], rfl, okI_all _ _ _ fun _ _ _ _ => trivial, Nat.le_refl _, ?_, fun k_0 s_0 hk0 hp0 => ?_⟩
      · simp only [go_sem, Nat.reduceBEq, Nat.reduceLeDiff, Nat.reduceAdd, Nat.reduceSub, Nat.reduceMul, Int.reduceLE, Int.reduceLT, Int.reduceToNat, Int.reduceNeg, reduceCtorEq, e0_0, e0_1]
        all_goals (first | done | decide | (repeat' (first | refine And.intro ?_ ?_ | rfl | decide)))
      refine ⟨(fun id st => none), ?_, ?_⟩
      · simp only [loopsOk, and_self, true_and, and_true]
      · by_cases hb0 : a0.crops.length ≤ maxL
        rotate_left
        · simp only [go_sem, Nat.reduceBEq, Nat.reduceLeDiff, Nat.reduceAdd, Nat.reduceSub, Nat.reduceMul, Int.reduceLE, Int.reduceLT, Int.reduceToNat, Int.reduceNeg, reduceCtorEq, C_ref19_within, hb0]
        · by_cases hlt0 : k_0 < a0.crops.length
          · have hw0 := wrapS hlt0 hb0
            have hq0 := hp0 hlt0
            unfold ref19_farms_l0_p at hq0
            try simp only [hw0, Int.toNat_natCast] at hq0
            have hc0 : decide ((k_0 : Int) < (a0.crops.length : Int)) = true := by simp only [decide_eq_true_eq]; omega
            simp only [go_sem, Nat.reduceBEq, Nat.reduceLeDiff, Nat.reduceAdd, Nat.reduceSub, Nat.reduceMul, Int.reduceLE, Int.reduceLT, Int.reduceToNat, Int.reduceNeg, reduceCtorEq, C_ref19_within, ref19_farms_l0, hc0, hw0]
            all_goals exact cl
          · have hc0 : decide ((k_0 : Int) < (a0.crops.length : Int)) = false := by simp only [decide_eq_false_iff_not]; omega
            simp only [go_sem, Nat.reduceBEq, Nat.reduceLeDiff, Nat.reduceAdd, Nat.reduceSub, Nat.reduceMul, Int.reduceLE, Int.reduceLT, Int.reduceToNat, Int.reduceNeg, reduceCtorEq, C_ref19_within, hc0]
            all_goals exact cl2
    · refine count_okP mixed ts_ok hG (by kernel_rfl) fun st lc hC hp => ?_
      simp only [go_sem, Nat.reduceBEq, Option.some.injEq] at hC
      subst hC
      obtain ⟨t, h⟩ := st
      dsimp only [LC] at hp
      obtain ⟨e1_0, e1_1, rfl⟩ := hp
      refine ⟨_, _, _, (ref19_farms_l1 a0), (ref19_farms_l1_p a0), a0.farms.length, (), _, _, _, (fun k_1 s_1 => ⟨[(1, .ptr 0 0), (4, .v (.int .i64 (k_1 : Int)))], [.cells [.v (.string a0.name), .v (.int .i64 a0.hours), .v (.int .i64 a0.tank.cap), .v (.int .i64 a0.tank.start), .rs .reach a0.reaches, .rs .farm a0.farms, .rs .crop a0.crops, .rs .right a0.rights, .rs .duty a0.duties, .rs .well a0.wells]]⟩), [0], rfl, okI_all _ _ _ fun _ _ _ _ => trivial, Nat.le_refl _, ?_, fun k_1 s_1 hk1 hp1 => ?_⟩
      · simp only [go_sem, Nat.reduceBEq, Nat.reduceLeDiff, Nat.reduceAdd, Nat.reduceSub, Nat.reduceMul, Int.reduceLE, Int.reduceLT, Int.reduceToNat, Int.reduceNeg, reduceCtorEq, e1_0, e1_1]
        all_goals (first | done | decide | (repeat' (first | refine And.intro ?_ ?_ | rfl | decide)))
      refine ⟨(fun id st => none), ?_, ?_⟩
      · simp only [loopsOk, and_self, true_and, and_true]
      · by_cases hb1 : a0.farms.length ≤ maxL
        rotate_left
        · simp only [go_sem, Nat.reduceBEq, Nat.reduceLeDiff, Nat.reduceAdd, Nat.reduceSub, Nat.reduceMul, Int.reduceLE, Int.reduceLT, Int.reduceToNat, Int.reduceNeg, reduceCtorEq, C_ref19_within, hb1]
        · by_cases hlt1 : k_1 < a0.farms.length
          · have hw1 := wrapS hlt1 hb1
            have hq1 := hp1 hlt1
            unfold ref19_farms_l1_p at hq1
            try simp only [hw1, Int.toNat_natCast] at hq1
            have hc1 : decide ((k_1 : Int) < (a0.farms.length : Int)) = true := by simp only [decide_eq_true_eq]; omega
            simp only [go_sem, Nat.reduceBEq, Nat.reduceLeDiff, Nat.reduceAdd, Nat.reduceSub, Nat.reduceMul, Int.reduceLE, Int.reduceLT, Int.reduceToNat, Int.reduceNeg, reduceCtorEq, C_ref19_within, ref19_farms_l1, hc1, hw1]
            all_goals exact cl
          · have hc1 : decide ((k_1 : Int) < (a0.farms.length : Int)) = false := by simp only [decide_eq_false_iff_not]; omega
            simp only [go_sem, Nat.reduceBEq, Nat.reduceLeDiff, Nat.reduceAdd, Nat.reduceSub, Nat.reduceMul, Int.reduceLE, Int.reduceLT, Int.reduceToNat, Int.reduceNeg, reduceCtorEq, C_ref19_within, hc1]
            all_goals exact cl2
  · unfold bodyOf Tryz.f84
    try unfold ref19_farms
    simp only [go_sem, Nat.reduceBEq, Nat.reduceLeDiff, Nat.reduceAdd, Nat.reduceSub, Nat.reduceMul, Int.reduceLE, Int.reduceLT, Int.reduceToNat, Int.reduceNeg, reduceCtorEq, C_ref19_within]
    all_goals exact cl
def ref19_right (a0 : District) (a1 : Right) : Bool := (bif ((((!(ref19_within a1.farm 0 (IntKind.i64.wrap ((a0.farms.length : Int) - 1)))) || (!(ref19_within a1.reach 0 (IntKind.i64.wrap ((a0.reaches.length : Int) - 1))))) || (!(ref19_within a1.since 0 a1.to))) || (decide (a1.to ≥ a0.hours))) then false else (bif (a1.kind == 1) then (((((a1.reach == 0) && (ref19_within a1.rank 0 1048576)) && (ref19_within a1.litres 1 1073741824)) && (ref19_within a1.length 1 a1.every)) && (decide (a1.every ≤ a0.hours))) else (bif (a1.kind == 2) then ((((((a1.rank == 0) && (a1.litres == 0)) && (a1.every == 0)) && (a1.length == 0)) && (a1.since == 0)) && (a1.to == (IntKind.i64.wrap (a0.hours - 1)))) else (bif (a1.kind == 3) then ((((a1.rank == 0) && (a1.litres == 0)) && (a1.every == 0)) && (a1.length == 0)) else false))))
def C_ref19_right : List SV → Option Con := (pD .district fun a0 => (pD .right fun a1 => pE (.det True (.v (.bool (ref19_right a0 a1))))))
set_option maxHeartbeats 4000000 in
theorem ok_ref19_right : FnOk Tryz.prog 85 C_ref19_right := by
  have hG : ConsOk Tryz.prog (mkG [(82, C_ref19_within)] []) := mkG_ok (cgc ok_ref19_within cg0) cg0
  refine fn_okN [.o] mixed ts_ok hG (fn := Tryz.f85) (c := bodyOf Tryz.f85) (by kernel_rfl) (by kernel_rfl) (by kernel_rfl) (by kernel_rfl) fun l con h hp => ?_
  unfold C_ref19_right at h
  obtain ⟨a0, l0, rfl, h0⟩ := pD_inv h
  obtain ⟨a1, l1, rfl, h1⟩ := pD_inv h0
  obtain ⟨rfl, rfl⟩ := pE_inv h1
  clear h h0 h1
  dsimp only [conPre] at hp
  refine ⟨Nat.le_of_ble_eq_true rfl, (fun id st => none), ?_, ?_⟩
  · unfold bodyOf Tryz.f85
    simp only [loopsOk, and_self, true_and, and_true]
  · unfold bodyOf Tryz.f85
    try unfold ref19_right
    simp only [go_sem, Nat.reduceBEq, Nat.reduceLeDiff, Nat.reduceAdd, Nat.reduceSub, Nat.reduceMul, Int.reduceLE, Int.reduceLT, Int.reduceToNat, Int.reduceNeg, reduceCtorEq, C_ref19_within]
    all_goals exact cl
def ref19_valid_l0 (a0 : District) : Nat → Unit → Unit ⊕ Unit := fun k_0 s_0 => (bif (!(ref19_right a0 (a0.rights.getD k_0 (default : Right)))) then .inl () else .inr ())
def ref19_valid_l0_p (a0 : District) : Nat → Unit → Prop := fun k_0 s_0 => True
def ref19_valid_l1 (a0 : District) : Nat → Unit → Unit ⊕ Unit := fun k_1 s_1 => (bif (((!(ref19_within ((a0.duties.getD k_1 (default : Duty)).farm) 0 (IntKind.i64.wrap ((a0.farms.length : Int) - 1)))) || (!(ref19_within ((a0.duties.getD k_1 (default : Duty)).reach) 0 (IntKind.i64.wrap ((a0.reaches.length : Int) - 1))))) || (!(ref19_within ((a0.duties.getD k_1 (default : Duty)).due) 0 a0.hours))) then .inl () else .inr ())
def ref19_valid_l1_p (a0 : District) : Nat → Unit → Prop := fun k_1 s_1 => True
def ref19_valid (a0 : District) : Bool := (bif (((!(ref19_within a0.hours 1 4096)) || (!(ref19_within a0.tank.start 0 a0.tank.cap))) || (decide (a0.tank.cap > 1099511627776))) then false else (bif ((!(ref19_reaches a0.reaches)) || (!(ref19_farms a0))) then false else (match runI (ref19_valid_l0 a0) a0.rights.length 0 () with | .inl x_0_0 => false | .inr s_0 => (match runI (ref19_valid_l1 a0) a0.duties.length 0 () with | .inl x_1_0 => false | .inr s_1 => true))))
def ref19_valid_p (a0 : District) : Prop := ((((!(ref19_within a0.hours 1 4096)) || (!(ref19_within a0.tank.start 0 a0.tank.cap))) || (decide (a0.tank.cap > 1099511627776))) = false → (ref19_reaches_p a0.reaches))
def C_ref19_valid : List SV → Option Con := (pD .district fun a0 => pE (.det (ref19_valid_p a0) (.v (.bool (ref19_valid a0)))))
set_option maxHeartbeats 4000000 in
theorem ok_ref19_valid : FnOk Tryz.prog 72 C_ref19_valid := by
  have hG : ConsOk Tryz.prog (mkG [(82, C_ref19_within), (83, fun l => C_ref19_reaches (nrmA [.sl .reach] l)), (84, fun l => C_ref19_farms (nrmA [.st .district] l)), (85, fun l => C_ref19_right (nrmA [.st .district, .st .right] l))] []) := mkG_ok (cgc ok_ref19_within (cgc (ok_ref19_reaches.norm [.sl .reach]) (cgc (ok_ref19_farms.norm [.st .district]) (cgc (ok_ref19_right.norm [.st .district, .st .right]) cg0)))) cg0
  refine fn_okN [.o] mixed ts_ok hG (fn := Tryz.f72) (c := bodyOf Tryz.f72) (by kernel_rfl) (by kernel_rfl) (by kernel_rfl) (by kernel_rfl) fun l con h hp => ?_
  unfold C_ref19_valid at h
  obtain ⟨a0, l0, rfl, h0⟩ := pD_inv h
  obtain ⟨rfl, rfl⟩ := pE_inv h0
  clear h h0
  dsimp only [conPre] at hp
  unfold ref19_valid_p at hp
  refine ⟨Nat.le_of_ble_eq_true rfl, (fun id st => bif Nat.beq id 0 then some (LC (ρ := Unit) (σ := Unit) (lk 1 st.t = .ptr 0 0 ∧ lk 3 st.t = .v (.int .i64 0) ∧ st.h = [.cells [.v (.string a0.name), .v (.int .i64 a0.hours), .v (.int .i64 a0.tank.cap), .v (.int .i64 a0.tank.start), .rs .reach a0.reaches, .rs .farm a0.farms, .rs .crop a0.crops, .rs .right a0.rights, .rs .duty a0.duties, .rs .well a0.wells]]) (runI (ref19_valid_l0 a0) a0.rights.length 0 ()) (fun _ => .ret) (fun x_0_0 => ⟨[(2, .v (.bool false))], [.dead]⟩) (fun s_0 => ⟨[(1, .ptr 0 0)], [.cells [.v (.string a0.name), .v (.int .i64 a0.hours), .v (.int .i64 a0.tank.cap), .v (.int .i64 a0.tank.start), .rs .reach a0.reaches, .rs .farm a0.farms, .rs .crop a0.crops, .rs .right a0.rights, .rs .duty a0.duties, .rs .well a0.wells]]⟩)) else bif Nat.beq id 2 then some (LC (ρ := Unit) (σ := Unit) (lk 1 st.t = .ptr 0 0 ∧ lk 4 st.t = .v (.int .i64 0) ∧ st.h = [.cells [.v (.string a0.name), .v (.int .i64 a0.hours), .v (.int .i64 a0.tank.cap), .v (.int .i64 a0.tank.start), .rs .reach a0.reaches, .rs .farm a0.farms, .rs .crop a0.crops, .rs .right a0.rights, .rs .duty a0.duties, .rs .well a0.wells]]) (runI (ref19_valid_l1 a0) a0.duties.length 0 ()) (fun _ => .ret) (fun x_1_0 => ⟨[(2, .v (.bool false))], [.dead]⟩) (fun s_1 => ⟨[], [.dead]⟩)) else none), ?_, ?_⟩
  · unfold bodyOf Tryz.f72
    simp only [loopsOk, true_and, and_true]
    refine ⟨?_, ?_⟩
    · refine count_okP mixed ts_ok hG (by kernel_rfl) fun st lc hC hp => ?_
      simp only [go_sem, Nat.reduceBEq, Option.some.injEq] at hC
      subst hC
      obtain ⟨t, h⟩ := st
      dsimp only [LC] at hp
      obtain ⟨e0_0, e0_1, rfl⟩ := hp
      refine ⟨_, _, _, (ref19_valid_l0 a0), (ref19_valid_l0_p a0), a0.rights.length, (), _, _, _, (fun k_0 s_0 => ⟨[(1, .ptr 0 0), (3, .v (.int .i64 (k_0 : Int)))], [.cells [.v (.string a0.name), .v (.int .i64 a0.hours), .v (.int .i64 a0.tank.cap), .v (.int .i64 a0.tank.start), .rs .reach a0.reaches, .rs .farm a0.farms, .rs .crop a0.crops, .rs .right a0.rights, .rs .duty a0.duties, .rs .well a0.wells]]⟩), [0], rfl, okI_all _ _ _ fun _ _ _ _ => trivial, Nat.le_refl _, ?_, fun k_0 s_0 hk0 hp0 => ?_⟩
      · simp only [go_sem, Nat.reduceBEq, Nat.reduceLeDiff, Nat.reduceAdd, Nat.reduceSub, Nat.reduceMul, Int.reduceLE, Int.reduceLT, Int.reduceToNat, Int.reduceNeg, reduceCtorEq, e0_0, e0_1]
        all_goals (first | done | decide | (repeat' (first | refine And.intro ?_ ?_ | rfl | decide)))
      refine ⟨(fun id st => none), ?_, ?_⟩
      · simp only [loopsOk, and_self, true_and, and_true]
      · by_cases hb0 : a0.rights.length ≤ maxL
        rotate_left
        · simp only [go_sem, Nat.reduceBEq, Nat.reduceLeDiff, Nat.reduceAdd, Nat.reduceSub, Nat.reduceMul, Int.reduceLE, Int.reduceLT, Int.reduceToNat, Int.reduceNeg, reduceCtorEq, C_ref19_within, C_ref19_reaches, C_ref19_farms, C_ref19_right, hb0]
        · by_cases hlt0 : k_0 < a0.rights.length
          · have hw0 := wrapS hlt0 hb0
            have hq0 := hp0 hlt0
            unfold ref19_valid_l0_p at hq0
            try simp only [hw0, Int.toNat_natCast] at hq0
            have hc0 : decide ((k_0 : Int) < (a0.rights.length : Int)) = true := by simp only [decide_eq_true_eq]; omega
            simp only [go_sem, Nat.reduceBEq, Nat.reduceLeDiff, Nat.reduceAdd, Nat.reduceSub, Nat.reduceMul, Int.reduceLE, Int.reduceLT, Int.reduceToNat, Int.reduceNeg, reduceCtorEq, C_ref19_within, C_ref19_reaches, C_ref19_farms, C_ref19_right, ref19_valid_l0, hc0, hw0]
            all_goals exact cl
          · have hc0 : decide ((k_0 : Int) < (a0.rights.length : Int)) = false := by simp only [decide_eq_false_iff_not]; omega
            simp only [go_sem, Nat.reduceBEq, Nat.reduceLeDiff, Nat.reduceAdd, Nat.reduceSub, Nat.reduceMul, Int.reduceLE, Int.reduceLT, Int.reduceToNat, Int.reduceNeg, reduceCtorEq, C_ref19_within, C_ref19_reaches, C_ref19_farms, C_ref19_right, hc0]
            all_goals exact cl2
    · refine count_okP mixed ts_ok hG (by kernel_rfl) fun st lc hC hp => ?_
      simp only [go_sem, Nat.reduceBEq, Option.some.injEq] at hC
      subst hC
      obtain ⟨t, h⟩ := st
      dsimp only [LC] at hp
      obtain ⟨e1_0, e1_1, rfl⟩ := hp
      refine ⟨_, _, _, (ref19_valid_l1 a0), (ref19_valid_l1_p a0), a0.duties.length, (), _, _, _, (fun k_1 s_1 => ⟨[(1, .ptr 0 0), (4, .v (.int .i64 (k_1 : Int)))], [.cells [.v (.string a0.name), .v (.int .i64 a0.hours), .v (.int .i64 a0.tank.cap), .v (.int .i64 a0.tank.start), .rs .reach a0.reaches, .rs .farm a0.farms, .rs .crop a0.crops, .rs .right a0.rights, .rs .duty a0.duties, .rs .well a0.wells]]⟩), [0], rfl, okI_all _ _ _ fun _ _ _ _ => trivial, Nat.le_refl _, ?_, fun k_1 s_1 hk1 hp1 => ?_⟩
      · simp only [go_sem, Nat.reduceBEq, Nat.reduceLeDiff, Nat.reduceAdd, Nat.reduceSub, Nat.reduceMul, Int.reduceLE, Int.reduceLT, Int.reduceToNat, Int.reduceNeg, reduceCtorEq, e1_0, e1_1]
        all_goals (first | done | decide | (repeat' (first | refine And.intro ?_ ?_ | rfl | decide)))
      refine ⟨(fun id st => none), ?_, ?_⟩
      · simp only [loopsOk, and_self, true_and, and_true]
      · by_cases hb1 : a0.duties.length ≤ maxL
        rotate_left
        · simp only [go_sem, Nat.reduceBEq, Nat.reduceLeDiff, Nat.reduceAdd, Nat.reduceSub, Nat.reduceMul, Int.reduceLE, Int.reduceLT, Int.reduceToNat, Int.reduceNeg, reduceCtorEq, C_ref19_within, C_ref19_reaches, C_ref19_farms, C_ref19_right, hb1]
        · by_cases hlt1 : k_1 < a0.duties.length
          · have hw1 := wrapS hlt1 hb1
            have hq1 := hp1 hlt1
            unfold ref19_valid_l1_p at hq1
            try simp only [hw1, Int.toNat_natCast] at hq1
            have hc1 : decide ((k_1 : Int) < (a0.duties.length : Int)) = true := by simp only [decide_eq_true_eq]; omega
            simp only [go_sem, Nat.reduceBEq, Nat.reduceLeDiff, Nat.reduceAdd, Nat.reduceSub, Nat.reduceMul, Int.reduceLE, Int.reduceLT, Int.reduceToNat, Int.reduceNeg, reduceCtorEq, C_ref19_within, C_ref19_reaches, C_ref19_farms, C_ref19_right, ref19_valid_l1, hc1, hw1]
            all_goals exact cl
          · have hc1 : decide ((k_1 : Int) < (a0.duties.length : Int)) = false := by simp only [decide_eq_false_iff_not]; omega
            simp only [go_sem, Nat.reduceBEq, Nat.reduceLeDiff, Nat.reduceAdd, Nat.reduceSub, Nat.reduceMul, Int.reduceLE, Int.reduceLT, Int.reduceToNat, Int.reduceNeg, reduceCtorEq, C_ref19_within, C_ref19_reaches, C_ref19_farms, C_ref19_right, hc1]
            all_goals exact cl2
  · unfold bodyOf Tryz.f72
    try unfold ref19_valid
    simp only [go_sem, Nat.reduceBEq, Nat.reduceLeDiff, Nat.reduceAdd, Nat.reduceSub, Nat.reduceMul, Int.reduceLE, Int.reduceLT, Int.reduceToNat, Int.reduceNeg, reduceCtorEq, C_ref19_within, C_ref19_reaches, C_ref19_farms, C_ref19_right]
    all_goals exact cl
def ref19_Check (d : District) : Int := (bif (((((decide ((d.reaches.length : Int) > 64)) || (decide ((d.farms.length : Int) > 600))) || (decide ((d.crops.length : Int) > 32))) || (decide ((d.rights.length : Int) > 256))) || (decide ((d.duties.length : Int) > 256))) then 2 else (bif (!(ref19_valid d)) then 191 else 0))
def ref19_Check_p (d : District) : Prop := (d.reaches.length ≤ maxL → ((((((decide ((d.reaches.length : Int) > 64)) || (decide ((d.farms.length : Int) > 600))) || (decide ((d.crops.length : Int) > 32))) || (decide ((d.rights.length : Int) > 256))) || (decide ((d.duties.length : Int) > 256))) = false → (ref19_valid_p d)))
def C_ref19_Check : List SV → Option Con := (pD .district fun d => pE (.det (ref19_Check_p d) (.v (.int .i64 (ref19_Check d)))))
theorem ok_ref19_Check : FnOk Tryz.prog 55 C_ref19_Check := by
  have hG : ConsOk Tryz.prog (mkG [(72, fun l => C_ref19_valid (nrmA [.st .district] l))] []) := mkG_ok (cgc (ok_ref19_valid.norm [.st .district]) cg0) cg0
  refine fn_okN [.o] mixed ts_ok hG (fn := Tryz.f55) (c := bodyOf Tryz.f55) (by kernel_rfl) (by kernel_rfl) (by kernel_rfl) (by kernel_rfl) fun l con h hp => ?_
  unfold C_ref19_Check at h
  obtain ⟨d, l0, rfl, h0⟩ := pD_inv h
  obtain ⟨rfl, rfl⟩ := pE_inv h0
  clear h h0
  dsimp only [conPre] at hp
  unfold ref19_Check_p at hp
  refine ⟨Nat.le_of_ble_eq_true rfl, (fun id st => none), ?_, ?_⟩
  · unfold bodyOf Tryz.f55
    simp only [loopsOk, and_self, true_and, and_true]
  · unfold bodyOf Tryz.f55
    try unfold ref19_Check
    simp only [go_sem, Nat.reduceBEq, Nat.reduceLeDiff, Nat.reduceAdd, Nat.reduceSub, Nat.reduceMul, Int.reduceLE, Int.reduceLT, Int.reduceToNat, Int.reduceNeg, reduceCtorEq, C_ref19_valid]
    all_goals exact cl
def ref22_Wide (d : District) : Bool := (decide ((IntKind.i64.wrap ((d.reaches.length : Int) * d.hours)) > 1024))
def C_ref22_Wide : List SV → Option Con := (pD .district fun d => pE (.det True (.v (.bool (ref22_Wide d)))))
theorem ok_ref22_Wide : FnOk Tryz.prog 58 C_ref22_Wide := by
  have hG : ConsOk Tryz.prog (mkG [] []) := mkG_ok cg0 cg0
  refine fn_okN [.o] mixed ts_ok hG (fn := Tryz.f58) (c := bodyOf Tryz.f58) (by kernel_rfl) (by kernel_rfl) (by kernel_rfl) (by kernel_rfl) fun l con h hp => ?_
  unfold C_ref22_Wide at h
  obtain ⟨d, l0, rfl, h0⟩ := pD_inv h
  obtain ⟨rfl, rfl⟩ := pE_inv h0
  clear h h0
  dsimp only [conPre] at hp
  refine ⟨Nat.le_of_ble_eq_true rfl, (fun id st => none), ?_, ?_⟩
  · unfold bodyOf Tryz.f58
    simp only [loopsOk, and_self, true_and, and_true]
  · unfold bodyOf Tryz.f58
    try unfold ref22_Wide
    simp only [go_sem, Nat.reduceBEq, Nat.reduceLeDiff, Nat.reduceAdd, Nat.reduceSub, Nat.reduceMul, Int.reduceLE, Int.reduceLT, Int.reduceToNat, Int.reduceNeg, reduceCtorEq]
    all_goals exact cl
def ref22_valid (d : District) (x : Order) : Bool := (bif (((((decide (x.hour < 0)) || (decide (x.hour ≥ d.hours))) || (decide (x.litres < 1))) || (decide (x.litres > 1073741824))) || (decide (x.index < 0))) then false else (bif x.outlet then (decide (x.index < (d.farms.length : Int))) else (decide (x.index < (d.reaches.length : Int)))))
def C_ref22_valid : List SV → Option Con := (pD .district fun d => (pD .order fun x => pE (.det True (.v (.bool (ref22_valid d x))))))
theorem ok_ref22_valid : FnOk Tryz.prog 73 C_ref22_valid := by
  have hG : ConsOk Tryz.prog (mkG [] []) := mkG_ok cg0 cg0
  refine fn_okN [.o] mixed ts_ok hG (fn := Tryz.f73) (c := bodyOf Tryz.f73) (by kernel_rfl) (by kernel_rfl) (by kernel_rfl) (by kernel_rfl) fun l con h hp => ?_
  unfold C_ref22_valid at h
  obtain ⟨d, l0, rfl, h0⟩ := pD_inv h
  obtain ⟨x, l1, rfl, h1⟩ := pD_inv h0
  obtain ⟨rfl, rfl⟩ := pE_inv h1
  clear h h0 h1
  dsimp only [conPre] at hp
  refine ⟨Nat.le_of_ble_eq_true rfl, (fun id st => none), ?_, ?_⟩
  · unfold bodyOf Tryz.f73
    simp only [loopsOk, and_self, true_and, and_true]
  · unfold bodyOf Tryz.f73
    try unfold ref22_valid
    simp only [go_sem, Nat.reduceBEq, Nat.reduceLeDiff, Nat.reduceAdd, Nat.reduceSub, Nat.reduceMul, Int.reduceLE, Int.reduceLT, Int.reduceToNat, Int.reduceNeg, reduceCtorEq]
    all_goals exact cl
def ref22_Before (a : Order) (b : Order) : Bool := (bif (a.hour != b.hour) then (decide (a.hour < b.hour)) else (bif (a.outlet != b.outlet) then b.outlet else (decide (a.index < b.index))))
def C_ref22_Before : List SV → Option Con := (pD .order fun a => (pD .order fun b => pE (.det True (.v (.bool (ref22_Before a b))))))
theorem ok_ref22_Before : FnOk Tryz.prog 74 C_ref22_Before := by
  have hG : ConsOk Tryz.prog (mkG [] []) := mkG_ok cg0 cg0
  refine fn_okN [.o] mixed ts_ok hG (fn := Tryz.f74) (c := bodyOf Tryz.f74) (by kernel_rfl) (by kernel_rfl) (by kernel_rfl) (by kernel_rfl) fun l con h hp => ?_
  unfold C_ref22_Before at h
  obtain ⟨a, l0, rfl, h0⟩ := pD_inv h
  obtain ⟨b, l1, rfl, h1⟩ := pD_inv h0
  obtain ⟨rfl, rfl⟩ := pE_inv h1
  clear h h0 h1
  dsimp only [conPre] at hp
  refine ⟨Nat.le_of_ble_eq_true rfl, (fun id st => none), ?_, ?_⟩
  · unfold bodyOf Tryz.f74
    simp only [loopsOk, and_self, true_and, and_true]
  · unfold bodyOf Tryz.f74
    try unfold ref22_Before
    simp only [go_sem, Nat.reduceBEq, Nat.reduceLeDiff, Nat.reduceAdd, Nat.reduceSub, Nat.reduceMul, Int.reduceLE, Int.reduceLT, Int.reduceToNat, Int.reduceNeg, reduceCtorEq]
    all_goals exact cl
def ref22_Check_l0 (d : District) (l_ : List Order) : Nat → Unit → Unit ⊕ Unit := fun k_0 s_0 => (bif ((!(ref22_valid d (l_.getD k_0 (default : Order)))) || ((decide ((k_0 : Int) > 0)) && (!(ref22_Before (l_.getD (Int.toNat (IntKind.i64.wrap ((k_0 : Int) - 1))) (default : Order)) (l_.getD k_0 (default : Order)))))) then .inl () else .inr ())
def ref22_Check_l0_p (d : District) (l_ : List Order) : Nat → Unit → Prop := fun k_0 s_0 => (l_.length ≤ maxL → ((!(ref22_valid d (l_.getD k_0 (default : Order)))) = false → ((decide ((k_0 : Int) > 0)) = true → (0 ≤ (IntKind.i64.wrap ((k_0 : Int) - 1)) ∧ (IntKind.i64.wrap ((k_0 : Int) - 1)) < (l_.length : Int)))))
def ref22_Check (d : District) (l_ : List Order) : Int := (bif ((ref19_Check d) != 0) then (ref19_Check d) else (bif (decide ((l_.length : Int) > 4096)) then 2 else (match runI (ref22_Check_l0 d l_) l_.length 0 () with | .inl x_0_0 => 220 | .inr s_0 => 0)))
def ref22_Check_p (d : District) (l_ : List Order) : Prop := ((ref19_Check_p d) ∧ (((ref19_Check d) != 0) = false → (l_.length ≤ maxL → ((decide ((l_.length : Int) > 4096)) = false → okI (ref22_Check_l0 d l_) (ref22_Check_l0_p d l_) l_.length 0 ()))))
def C_ref22_Check : List SV → Option Con := (pD .district fun d => (pR .order fun l_ => pE (.det (ref22_Check_p d l_) (.v (.int .i64 (ref22_Check d l_))))))
set_option maxHeartbeats 4000000 in
theorem ok_ref22_Check : FnOk Tryz.prog 59 C_ref22_Check := by
  have hG : ConsOk Tryz.prog (mkG [(55, fun l => C_ref19_Check (nrmA [.st .district] l)), (73, fun l => C_ref22_valid (nrmA [.st .district, .st .order] l)), (74, C_ref22_Before)] []) := mkG_ok (cgc (ok_ref19_Check.norm [.st .district]) (cgc (ok_ref22_valid.norm [.st .district, .st .order]) (cgc ok_ref22_Before cg0))) cg0
  refine fn_okN [.o] mixed ts_ok hG (fn := Tryz.f59) (c := bodyOf Tryz.f59) (by kernel_rfl) (by kernel_rfl) (by kernel_rfl) (by kernel_rfl) fun l con h hp => ?_
  unfold C_ref22_Check at h
  obtain ⟨d, l0, rfl, h0⟩ := pD_inv h
  obtain ⟨l_, l1, rfl, h1⟩ := pR_inv h0
  obtain ⟨rfl, rfl⟩ := pE_inv h1
  clear h h0 h1
  dsimp only [conPre] at hp
  unfold ref22_Check_p at hp
  refine ⟨Nat.le_of_ble_eq_true rfl, (fun id st => bif Nat.beq id 0 then some (LC (ρ := Unit) (σ := Unit) (lk 1 st.t = .rs .order l_ ∧ lk 2 st.t = .ptr 0 0 ∧ lk 6 st.t = .v (.int .i64 0) ∧ st.h = [.cells [.v (.string d.name), .v (.int .i64 d.hours), .v (.int .i64 d.tank.cap), .v (.int .i64 d.tank.start), .rs .reach d.reaches, .rs .farm d.farms, .rs .crop d.crops, .rs .right d.rights, .rs .duty d.duties, .rs .well d.wells]] ∧ okI (ref22_Check_l0 d l_) (ref22_Check_l0_p d l_) l_.length 0 ()) (runI (ref22_Check_l0 d l_) l_.length 0 ()) (fun _ => .ret) (fun x_0_0 => ⟨[(4, .v (.int .i64 220))], [.dead]⟩) (fun s_0 => ⟨[], [.dead]⟩)) else none), ?_, ?_⟩
  · unfold bodyOf Tryz.f59
    simp only [loopsOk, true_and, and_true]
    · refine count_okP mixed ts_ok hG (by kernel_rfl) fun st lc hC hp => ?_
      simp only [go_sem, Nat.reduceBEq, Option.some.injEq] at hC
      subst hC
      obtain ⟨t, h⟩ := st
      dsimp only [LC] at hp
      obtain ⟨e0_0, e0_1, e0_2, rfl, hok0⟩ := hp
      refine ⟨_, _, _, (ref22_Check_l0 d l_), (ref22_Check_l0_p d l_), l_.length, (), _, _, _, (fun k_0 s_0 => ⟨[(1, .rs .order l_), (2, .ptr 0 0), (6, .v (.int .i64 (k_0 : Int)))], [.cells [.v (.string d.name), .v (.int .i64 d.hours), .v (.int .i64 d.tank.cap), .v (.int .i64 d.tank.start), .rs .reach d.reaches, .rs .farm d.farms, .rs .crop d.crops, .rs .right d.rights, .rs .duty d.duties, .rs .well d.wells]]⟩), [0], rfl, hok0, Nat.le_refl _, ?_, fun k_0 s_0 hk0 hp0 => ?_⟩
      · simp only [go_sem, Nat.reduceBEq, Nat.reduceLeDiff, Nat.reduceAdd, Nat.reduceSub, Nat.reduceMul, Int.reduceLE, Int.reduceLT, Int.reduceToNat, Int.reduceNeg, reduceCtorEq, e0_0, e0_1, e0_2]
        all_goals (first | done | decide | (repeat' (first | refine And.intro ?_ ?_ | rfl | decide)))
      refine ⟨(fun id st => none), ?_, ?_⟩
      · simp only [loopsOk, and_self, true_and, and_true]
      · by_cases hb0 : l_.length ≤ maxL
        rotate_left
        · simp only [go_sem, Nat.reduceBEq, Nat.reduceLeDiff, Nat.reduceAdd, Nat.reduceSub, Nat.reduceMul, Int.reduceLE, Int.reduceLT, Int.reduceToNat, Int.reduceNeg, reduceCtorEq, C_ref19_Check, C_ref22_valid, C_ref22_Before, hb0]
        · by_cases hlt0 : k_0 < l_.length
          · have hw0 := wrapS hlt0 hb0
            have hq0 := hp0 hlt0
            unfold ref22_Check_l0_p at hq0
            replace hq0 := hq0 hb0
            try simp only [hw0, Int.toNat_natCast] at hq0
            have hc0 : decide ((k_0 : Int) < (l_.length : Int)) = true := by simp only [decide_eq_true_eq]; omega
            simp only [go_sem, Nat.reduceBEq, Nat.reduceLeDiff, Nat.reduceAdd, Nat.reduceSub, Nat.reduceMul, Int.reduceLE, Int.reduceLT, Int.reduceToNat, Int.reduceNeg, reduceCtorEq, C_ref19_Check, C_ref22_valid, C_ref22_Before, ref22_Check_l0, hc0, hw0]
            all_goals exact cl
          · have hc0 : decide ((k_0 : Int) < (l_.length : Int)) = false := by simp only [decide_eq_false_iff_not]; omega
            simp only [go_sem, Nat.reduceBEq, Nat.reduceLeDiff, Nat.reduceAdd, Nat.reduceSub, Nat.reduceMul, Int.reduceLE, Int.reduceLT, Int.reduceToNat, Int.reduceNeg, reduceCtorEq, C_ref19_Check, C_ref22_valid, C_ref22_Before, hc0]
            all_goals exact cl2
  · unfold bodyOf Tryz.f59
    try unfold ref22_Check
    simp only [go_sem, Nat.reduceBEq, Nat.reduceLeDiff, Nat.reduceAdd, Nat.reduceSub, Nat.reduceMul, Int.reduceLE, Int.reduceLT, Int.reduceToNat, Int.reduceNeg, reduceCtorEq, C_ref19_Check, C_ref22_valid, C_ref22_Before]
    all_goals exact cl
def ref28_orders (d : District) (l_ : List Order) : Int := (bif ((ref22_Wide d) || (decide ((l_.length : Int) > 4096))) then 2 else (bif ((ref22_Check d l_) != 0) then 280 else 0))
def ref28_orders_p (d : District) (l_ : List Order) : Prop := (((ref22_Wide d) || (decide ((l_.length : Int) > 4096))) = false → (ref22_Check_p d l_))
def C_ref28_orders : List SV → Option Con := (pD .district fun d => (pR .order fun l_ => pE (.det (ref28_orders_p d l_) (.v (.int .i64 (ref28_orders d l_))))))
theorem ok_ref28_orders : FnOk Tryz.prog 40 C_ref28_orders := by
  have hG : ConsOk Tryz.prog (mkG [(58, fun l => C_ref22_Wide (nrmA [.st .district] l)), (59, fun l => C_ref22_Check (nrmA [.st .district, .sl .order] l))] []) := mkG_ok (cgc (ok_ref22_Wide.norm [.st .district]) (cgc (ok_ref22_Check.norm [.st .district, .sl .order]) cg0)) cg0
  refine fn_okN [.o] mixed ts_ok hG (fn := Tryz.f40) (c := bodyOf Tryz.f40) (by kernel_rfl) (by kernel_rfl) (by kernel_rfl) (by kernel_rfl) fun l con h hp => ?_
  unfold C_ref28_orders at h
  obtain ⟨d, l0, rfl, h0⟩ := pD_inv h
  obtain ⟨l_, l1, rfl, h1⟩ := pR_inv h0
  obtain ⟨rfl, rfl⟩ := pE_inv h1
  clear h h0 h1
  dsimp only [conPre] at hp
  unfold ref28_orders_p at hp
  refine ⟨Nat.le_of_ble_eq_true rfl, (fun id st => none), ?_, ?_⟩
  · unfold bodyOf Tryz.f40
    simp only [loopsOk, and_self, true_and, and_true]
  · unfold bodyOf Tryz.f40
    try unfold ref28_orders
    simp only [go_sem, Nat.reduceBEq, Nat.reduceLeDiff, Nat.reduceAdd, Nat.reduceSub, Nat.reduceMul, Int.reduceLE, Int.reduceLT, Int.reduceToNat, Int.reduceNeg, reduceCtorEq, C_ref22_Wide, C_ref22_Check]
    all_goals exact cl
def ref21_within (x : Range) (most : Int) : Bool := (((decide (x.lo ≥ 0)) && (decide (x.lo ≤ x.hi))) && (decide (x.hi ≤ most)))
def C_ref21_within : List SV → Option Con := (pD .range fun x => (pI fun most => pE (.det True (.v (.bool (ref21_within x most))))))
theorem ok_ref21_within : FnOk Tryz.prog 93 C_ref21_within := by
  have hG : ConsOk Tryz.prog (mkG [] []) := mkG_ok cg0 cg0
  refine fn_okN [.o] mixed ts_ok hG (fn := Tryz.f93) (c := bodyOf Tryz.f93) (by kernel_rfl) (by kernel_rfl) (by kernel_rfl) (by kernel_rfl) fun l con h hp => ?_
  unfold C_ref21_within at h
  obtain ⟨x, l0, rfl, h0⟩ := pD_inv h
  obtain ⟨most, l1, rfl, h1⟩ := pI_inv h0
  obtain ⟨rfl, rfl⟩ := pE_inv h1
  clear h h0 h1
  dsimp only [conPre] at hp
  refine ⟨Nat.le_of_ble_eq_true rfl, (fun id st => none), ?_, ?_⟩
  · unfold bodyOf Tryz.f93
    simp only [loopsOk, and_self, true_and, and_true]
  · unfold bodyOf Tryz.f93
    try unfold ref21_within
    simp only [go_sem, Nat.reduceBEq, Nat.reduceLeDiff, Nat.reduceAdd, Nat.reduceSub, Nat.reduceMul, Int.reduceLE, Int.reduceLT, Int.reduceToNat, Int.reduceNeg, reduceCtorEq]
    all_goals exact cl
def ref21_share (a : Ratio) : Bool := (((ref12_Valid a) && (decide (a.n ≥ 0))) && (decide (a.n ≤ a.d)))
def ref21_share_p (a : Ratio) : Prop := (ref12_Valid_p a)
def C_ref21_share : List SV → Option Con := (pD .ratio fun a => pE (.det (ref21_share_p a) (.v (.bool (ref21_share a)))))
theorem ok_ref21_share : FnOk Tryz.prog 99 C_ref21_share := by
  have hG : ConsOk Tryz.prog (mkG [(104, C_ref12_Valid)] []) := mkG_ok (cgc ok_ref12_Valid cg0) cg0
  refine fn_okN [.o] mixed ts_ok hG (fn := Tryz.f99) (c := bodyOf Tryz.f99) (by kernel_rfl) (by kernel_rfl) (by kernel_rfl) (by kernel_rfl) fun l con h hp => ?_
  unfold C_ref21_share at h
  obtain ⟨a, l0, rfl, h0⟩ := pD_inv h
  obtain ⟨rfl, rfl⟩ := pE_inv h0
  clear h h0
  dsimp only [conPre] at hp
  unfold ref21_share_p at hp
  refine ⟨Nat.le_of_ble_eq_true rfl, (fun id st => none), ?_, ?_⟩
  · unfold bodyOf Tryz.f99
    simp only [loopsOk, and_self, true_and, and_true]
  · unfold bodyOf Tryz.f99
    try unfold ref21_share
    simp only [go_sem, Nat.reduceBEq, Nat.reduceLeDiff, Nat.reduceAdd, Nat.reduceSub, Nat.reduceMul, Int.reduceLE, Int.reduceLT, Int.reduceToNat, Int.reduceNeg, reduceCtorEq, C_ref12_Valid]
    all_goals exact cl
def ref21_shares (a : Ratio × Ratio) : Bool := (((ref21_share a.1) && (ref21_share a.2)) && (!(ref12_Less a.2 a.1)))
def ref21_shares_p (a : Ratio × Ratio) : Prop := ((ref21_share_p a.1) ∧ ((ref21_share a.1) = true → (ref21_share_p a.2)))
def C_ref21_shares : List SV → Option Con := (pD .ratio2 fun a => pE (.det (ref21_shares_p a) (.v (.bool (ref21_shares a)))))
theorem ok_ref21_shares : FnOk Tryz.prog 94 C_ref21_shares := by
  have hG : ConsOk Tryz.prog (mkG [(99, C_ref21_share), (100, C_ref12_Less)] []) := mkG_ok (cgc ok_ref21_share (cgc ok_ref12_Less cg0)) cg0
  refine fn_okN [.o] mixed ts_ok hG (fn := Tryz.f94) (c := bodyOf Tryz.f94) (by kernel_rfl) (by kernel_rfl) (by kernel_rfl) (by kernel_rfl) fun l con h hp => ?_
  unfold C_ref21_shares at h
  obtain ⟨a, l0, rfl, h0⟩ := pD_inv h
  obtain ⟨rfl, rfl⟩ := pE_inv h0
  clear h h0
  dsimp only [conPre] at hp
  unfold ref21_shares_p at hp
  refine ⟨Nat.le_of_ble_eq_true rfl, (fun id st => none), ?_, ?_⟩
  · unfold bodyOf Tryz.f94
    simp only [loopsOk, and_self, true_and, and_true]
  · unfold bodyOf Tryz.f94
    try unfold ref21_shares
    simp only [go_sem, Nat.reduceBEq, Nat.reduceLeDiff, Nat.reduceAdd, Nat.reduceSub, Nat.reduceMul, Int.reduceLE, Int.reduceLT, Int.reduceToNat, Int.reduceNeg, reduceCtorEq, C_ref21_share, C_ref12_Less]
    all_goals exact cl
def ref21_Right (r : Reach) : Bool := ((ref21_within r.evap 1073741824) && (ref21_shares r.seep))
def ref21_Right_p (r : Reach) : Prop := ((ref21_within r.evap 1073741824) = true → (ref21_shares_p r.seep))
def C_ref21_Right : List SV → Option Con := (pD .reach fun r => pE (.det (ref21_Right_p r) (.v (.bool (ref21_Right r)))))
theorem ok_ref21_Right : FnOk Tryz.prog 86 C_ref21_Right := by
  have hG : ConsOk Tryz.prog (mkG [(93, C_ref21_within), (94, C_ref21_shares)] []) := mkG_ok (cgc ok_ref21_within (cgc ok_ref21_shares cg0)) cg0
  refine fn_okN [.o] mixed ts_ok hG (fn := Tryz.f86) (c := bodyOf Tryz.f86) (by kernel_rfl) (by kernel_rfl) (by kernel_rfl) (by kernel_rfl) fun l con h hp => ?_
  unfold C_ref21_Right at h
  obtain ⟨r, l0, rfl, h0⟩ := pD_inv h
  obtain ⟨rfl, rfl⟩ := pE_inv h0
  clear h h0
  dsimp only [conPre] at hp
  unfold ref21_Right_p at hp
  refine ⟨Nat.le_of_ble_eq_true rfl, (fun id st => none), ?_, ?_⟩
  · unfold bodyOf Tryz.f86
    simp only [loopsOk, and_self, true_and, and_true]
  · unfold bodyOf Tryz.f86
    try unfold ref21_Right
    simp only [go_sem, Nat.reduceBEq, Nat.reduceLeDiff, Nat.reduceAdd, Nat.reduceSub, Nat.reduceMul, Int.reduceLE, Int.reduceLT, Int.reduceToNat, Int.reduceNeg, reduceCtorEq, C_ref21_within, C_ref21_shares]
    all_goals exact cl
def ref21_up (a : Int) (b : Int) : Int := (IntKind.i64.wrap (Int.tdiv (IntKind.i64.wrap ((IntKind.i64.wrap (a + b)) - 1)) b))
def ref21_up_p (a : Int) (b : Int) : Prop := b ≠ 0
def C_ref21_up : List SV → Option Con := (pI fun a => (pI fun b => pE (.det (ref21_up_p a b) (.v (.int .i64 (ref21_up a b))))))
theorem ok_ref21_up : FnOk Tryz.prog 95 C_ref21_up := by
  have hG : ConsOk Tryz.prog (mkG [] []) := mkG_ok cg0 cg0
  refine fn_okN [.o] mixed ts_ok hG (fn := Tryz.f95) (c := bodyOf Tryz.f95) (by kernel_rfl) (by kernel_rfl) (by kernel_rfl) (by kernel_rfl) fun l con h hp => ?_
  unfold C_ref21_up at h
  obtain ⟨a, l0, rfl, h0⟩ := pI_inv h
  obtain ⟨b, l1, rfl, h1⟩ := pI_inv h0
  obtain ⟨rfl, rfl⟩ := pE_inv h1
  clear h h0 h1
  dsimp only [conPre] at hp
  unfold ref21_up_p at hp
  refine ⟨Nat.le_of_ble_eq_true rfl, (fun id st => none), ?_, ?_⟩
  · unfold bodyOf Tryz.f95
    simp only [loopsOk, and_self, true_and, and_true]
  · unfold bodyOf Tryz.f95
    try unfold ref21_up
    simp only [go_sem, Nat.reduceBEq, Nat.reduceLeDiff, Nat.reduceAdd, Nat.reduceSub, Nat.reduceMul, Int.reduceLE, Int.reduceLT, Int.reduceToNat, Int.reduceNeg, reduceCtorEq]
    all_goals exact cl
def ref21_lost (r : Reach) (v : Int) : Range := (bif (v == 0) then ({ lo := 0, hi := 0 } : Range) else ({ lo := (if (IntKind.i64.wrap (r.evap.lo + (IntKind.i64.wrap (Int.tdiv (IntKind.i64.wrap (v * r.seep.1.n)) r.seep.1.d)))) < v then (IntKind.i64.wrap (r.evap.lo + (IntKind.i64.wrap (Int.tdiv (IntKind.i64.wrap (v * r.seep.1.n)) r.seep.1.d)))) else v), hi := (if (IntKind.i64.wrap (r.evap.hi + (ref21_up (IntKind.i64.wrap (v * r.seep.2.n)) r.seep.2.d))) < v then (IntKind.i64.wrap (r.evap.hi + (ref21_up (IntKind.i64.wrap (v * r.seep.2.n)) r.seep.2.d))) else v) } : Range))
def ref21_lost_p (r : Reach) (v : Int) : Prop := ((v == 0) = false → (r.seep.1.d ≠ 0 ∧ (ref21_up_p (IntKind.i64.wrap (v * r.seep.2.n)) r.seep.2.d)))
def C_ref21_lost : List SV → Option Con := (pD .reach fun r => (pI fun v => pE (.det (ref21_lost_p r v) (.agg (cellsOf .range (ref21_lost r v))))))
theorem ok_ref21_lost : FnOk Tryz.prog 87 C_ref21_lost := by
  have hG : ConsOk Tryz.prog (mkG [(95, C_ref21_up)] []) := mkG_ok (cgc ok_ref21_up cg0) cg0
  refine fn_okN [.st .range] mixed ts_ok hG (fn := Tryz.f87) (c := bodyOf Tryz.f87) (by kernel_rfl) (by kernel_rfl) (by kernel_rfl) (by kernel_rfl) fun l con h hp => ?_
  unfold C_ref21_lost at h
  obtain ⟨r, l0, rfl, h0⟩ := pD_inv h
  obtain ⟨v, l1, rfl, h1⟩ := pI_inv h0
  obtain ⟨rfl, rfl⟩ := pE_inv h1
  clear h h0 h1
  dsimp only [conPre] at hp
  unfold ref21_lost_p at hp
  refine ⟨Nat.le_of_ble_eq_true rfl, (fun id st => none), ?_, ?_⟩
  · unfold bodyOf Tryz.f87
    simp only [loopsOk, and_self, true_and, and_true]
  · unfold bodyOf Tryz.f87
    try unfold ref21_lost
    simp only [go_sem, Nat.reduceBEq, Nat.reduceLeDiff, Nat.reduceAdd, Nat.reduceSub, Nat.reduceMul, Int.reduceLE, Int.reduceLT, Int.reduceToNat, Int.reduceNeg, reduceCtorEq, C_ref21_up]
    all_goals exact cl
def ref21_Lost (r : Reach) (v : Int) : Range × Int := (bif (!(ref21_Right r)) then (({ lo := 0, hi := 0 } : Range), 210) else (bif ((decide (v < 0)) || (decide (v > 1073741824))) then (({ lo := 0, hi := 0 } : Range), 1) else ((ref21_lost r v), 0)))
def ref21_Lost_p (r : Reach) (v : Int) : Prop := ((ref21_Right_p r) ∧ ((!(ref21_Right r)) = false → (((decide (v < 0)) || (decide (v > 1073741824))) = false → (ref21_lost_p r v))))
def C_ref21_Lost : List SV → Option Con := (pD .reach fun r => (pI fun v => pE (.det (ref21_Lost_p r v) (.tup [.agg (cellsOf .range ((ref21_Lost r v).1)), .v (.int .i64 ((ref21_Lost r v).2))]))))
theorem ok_ref21_Lost : FnOk Tryz.prog 75 C_ref21_Lost := by
  have hG : ConsOk Tryz.prog (mkG [(86, C_ref21_Right), (87, C_ref21_lost)] []) := mkG_ok (cgc ok_ref21_Right (cgc ok_ref21_lost cg0)) cg0
  refine fn_okN [.st .range, .o] mixed ts_ok hG (fn := Tryz.f75) (c := bodyOf Tryz.f75) (by kernel_rfl) (by kernel_rfl) (by kernel_rfl) (by kernel_rfl) fun l con h hp => ?_
  unfold C_ref21_Lost at h
  obtain ⟨r, l0, rfl, h0⟩ := pD_inv h
  obtain ⟨v, l1, rfl, h1⟩ := pI_inv h0
  obtain ⟨rfl, rfl⟩ := pE_inv h1
  clear h h0 h1
  dsimp only [conPre] at hp
  unfold ref21_Lost_p at hp
  refine ⟨Nat.le_of_ble_eq_true rfl, (fun id st => none), ?_, ?_⟩
  · unfold bodyOf Tryz.f75
    simp only [loopsOk, and_self, true_and, and_true]
  · unfold bodyOf Tryz.f75
    try unfold ref21_Lost
    simp only [go_sem, Nat.reduceBEq, Nat.reduceLeDiff, Nat.reduceAdd, Nat.reduceSub, Nat.reduceMul, Int.reduceLE, Int.reduceLT, Int.reduceToNat, Int.reduceNeg, reduceCtorEq, C_ref21_Right, C_ref21_lost]
    all_goals exact cl
def ref21_Worst (r : Reach) (v : Int) : Int × Int := (bif ((ref21_Lost r v).2 != 0) then (0, (ref21_Lost r v).2) else ((IntKind.i64.wrap (v - ((ref21_Lost r v).1).hi)), 0))
def ref21_Worst_p (r : Reach) (v : Int) : Prop := (ref21_Lost_p r v)
def C_ref21_Worst : List SV → Option Con := (pD .reach fun r => (pI fun v => pE (.det (ref21_Worst_p r v) (.tup [.v (.int .i64 ((ref21_Worst r v).1)), .v (.int .i64 ((ref21_Worst r v).2))]))))
theorem ok_ref21_Worst : FnOk Tryz.prog 60 C_ref21_Worst := by
  have hG : ConsOk Tryz.prog (mkG [(75, C_ref21_Lost)] []) := mkG_ok (cgc ok_ref21_Lost cg0) cg0
  refine fn_okN [.o, .o] mixed ts_ok hG (fn := Tryz.f60) (c := bodyOf Tryz.f60) (by kernel_rfl) (by kernel_rfl) (by kernel_rfl) (by kernel_rfl) fun l con h hp => ?_
  unfold C_ref21_Worst at h
  obtain ⟨r, l0, rfl, h0⟩ := pD_inv h
  obtain ⟨v, l1, rfl, h1⟩ := pI_inv h0
  obtain ⟨rfl, rfl⟩ := pE_inv h1
  clear h h0 h1
  dsimp only [conPre] at hp
  unfold ref21_Worst_p at hp
  refine ⟨Nat.le_of_ble_eq_true rfl, (fun id st => none), ?_, ?_⟩
  · unfold bodyOf Tryz.f60
    simp only [loopsOk, and_self, true_and, and_true]
  · unfold bodyOf Tryz.f60
    try unfold ref21_Worst
    simp only [go_sem, Nat.reduceBEq, Nat.reduceLeDiff, Nat.reduceAdd, Nat.reduceSub, Nat.reduceMul, Int.reduceLE, Int.reduceLT, Int.reduceToNat, Int.reduceNeg, reduceCtorEq, C_ref21_Lost]
    all_goals exact cl
def ref28_Sum_l0 (l_ : List Order) (reach : Int) (fr : Int) (to : Int) : Nat → Int → Empty ⊕ Int := fun k_0 s_0 => (bif ((((!(l_.getD k_0 (default : Order)).outlet) && ((l_.getD k_0 (default : Order)).index == reach)) && (decide ((l_.getD k_0 (default : Order)).hour ≥ fr))) && (decide ((l_.getD k_0 (default : Order)).hour ≤ to))) then .inr (IntKind.i64.wrap (s_0 + (l_.getD k_0 (default : Order)).litres)) else .inr s_0)
def ref28_Sum_l0_p (l_ : List Order) (reach : Int) (fr : Int) (to : Int) : Nat → Int → Prop := fun k_0 s_0 => True
def ref28_Sum (l_ : List Order) (reach : Int) (fr : Int) (to : Int) : Int := (match runI (ref28_Sum_l0 l_ reach fr to) l_.length 0 0 with | .inl x => x.elim | .inr s_0 => s_0)
def C_ref28_Sum : List SV → Option Con := (pR .order fun l_ => (pI fun reach => (pI fun fr => (pI fun to => pE (.det True (.v (.int .i64 (ref28_Sum l_ reach fr to))))))))
set_option maxHeartbeats 4000000 in
theorem ok_ref28_Sum : FnOk Tryz.prog 41 C_ref28_Sum := by
  have hG : ConsOk Tryz.prog (mkG [] []) := mkG_ok cg0 cg0
  refine fn_okN [.o] mixed ts_ok hG (fn := Tryz.f41) (c := bodyOf Tryz.f41) (by kernel_rfl) (by kernel_rfl) (by kernel_rfl) (by kernel_rfl) fun l con h hp => ?_
  unfold C_ref28_Sum at h
  obtain ⟨l_, l0, rfl, h0⟩ := pR_inv h
  obtain ⟨reach, l1, rfl, h1⟩ := pI_inv h0
  obtain ⟨fr, l2, rfl, h2⟩ := pI_inv h1
  obtain ⟨to, l3, rfl, h3⟩ := pI_inv h2
  obtain ⟨rfl, rfl⟩ := pE_inv h3
  clear h h0 h1 h2 h3
  dsimp only [conPre] at hp
  refine ⟨Nat.le_of_ble_eq_true rfl, (fun id st => bif Nat.beq id 0 then some (LC (ρ := Empty) (σ := Int) (lk 0 st.t = .rs .order l_ ∧ lk 1 st.t = .v (.int .i64 reach) ∧ lk 2 st.t = .v (.int .i64 fr) ∧ lk 3 st.t = .v (.int .i64 to) ∧ lk 9 st.t = .v (.int .i64 0) ∧ lk 10 st.t = .v (.int .i64 0) ∧ st.h = []) (runI (ref28_Sum_l0 l_ reach fr to) l_.length 0 0) (fun x => x.elim) (fun x => x.elim) (fun s_0 => ⟨[(9, .v (.int .i64 s_0))], []⟩)) else none), ?_, ?_⟩
  · unfold bodyOf Tryz.f41
    simp only [loopsOk, true_and, and_true]
    · refine count_okP mixed ts_ok hG (by kernel_rfl) fun st lc hC hp => ?_
      simp only [go_sem, Nat.reduceBEq, Option.some.injEq] at hC
      subst hC
      obtain ⟨t, h⟩ := st
      dsimp only [LC] at hp
      obtain ⟨e0_0, e0_1, e0_2, e0_3, e0_4, e0_5, rfl⟩ := hp
      refine ⟨_, _, _, (ref28_Sum_l0 l_ reach fr to), (ref28_Sum_l0_p l_ reach fr to), l_.length, 0, _, _, _, (fun k_0 s_0 => ⟨[(0, .rs .order l_), (1, .v (.int .i64 reach)), (2, .v (.int .i64 fr)), (3, .v (.int .i64 to)), (9, .v (.int .i64 s_0)), (10, .v (.int .i64 (k_0 : Int)))], []⟩), [], rfl, okI_all _ _ _ fun _ _ _ _ => trivial, Nat.le_refl _, ?_, fun k_0 s_0 hk0 hp0 => ?_⟩
      · simp only [go_sem, Nat.reduceBEq, Nat.reduceLeDiff, Nat.reduceAdd, Nat.reduceSub, Nat.reduceMul, Int.reduceLE, Int.reduceLT, Int.reduceToNat, Int.reduceNeg, reduceCtorEq, e0_0, e0_1, e0_2, e0_3, e0_4, e0_5]
        all_goals (first | done | decide | (repeat' (first | refine And.intro ?_ ?_ | rfl | decide)))
      refine ⟨(fun id st => none), ?_, ?_⟩
      · simp only [loopsOk, and_self, true_and, and_true]
      · by_cases hb0 : l_.length ≤ maxL
        rotate_left
        · simp only [go_sem, Nat.reduceBEq, Nat.reduceLeDiff, Nat.reduceAdd, Nat.reduceSub, Nat.reduceMul, Int.reduceLE, Int.reduceLT, Int.reduceToNat, Int.reduceNeg, reduceCtorEq, hb0]
        · by_cases hlt0 : k_0 < l_.length
          · have hw0 := wrapS hlt0 hb0
            have hq0 := hp0 hlt0
            unfold ref28_Sum_l0_p at hq0
            try simp only [hw0, Int.toNat_natCast] at hq0
            have hc0 : decide ((k_0 : Int) < (l_.length : Int)) = true := by simp only [decide_eq_true_eq]; omega
            simp only [go_sem, Nat.reduceBEq, Nat.reduceLeDiff, Nat.reduceAdd, Nat.reduceSub, Nat.reduceMul, Int.reduceLE, Int.reduceLT, Int.reduceToNat, Int.reduceNeg, reduceCtorEq, ref28_Sum_l0, hc0, hw0]
            all_goals exact cl
          · have hc0 : decide ((k_0 : Int) < (l_.length : Int)) = false := by simp only [decide_eq_false_iff_not]; omega
            simp only [go_sem, Nat.reduceBEq, Nat.reduceLeDiff, Nat.reduceAdd, Nat.reduceSub, Nat.reduceMul, Int.reduceLE, Int.reduceLT, Int.reduceToNat, Int.reduceNeg, reduceCtorEq, hc0]
            all_goals exact cl2
  · unfold bodyOf Tryz.f41
    try unfold ref28_Sum
    simp only [go_sem, Nat.reduceBEq, Nat.reduceLeDiff, Nat.reduceAdd, Nat.reduceSub, Nat.reduceMul, Int.reduceLE, Int.reduceLT, Int.reduceToNat, Int.reduceNeg, reduceCtorEq]
    all_goals exact cl
def ref28_arrives (d : District) (l_ : List Order) (reach : Int) (hour : Int) : Int := (ref21_Worst (d.reaches.getD (Int.toNat reach) (default : Reach)) (ref28_Sum l_ reach (IntKind.i64.wrap (hour - (d.reaches.getD (Int.toNat reach) (default : Reach)).delay)) (IntKind.i64.wrap (hour - (d.reaches.getD (Int.toNat reach) (default : Reach)).delay)))).1
def ref28_arrives_p (d : District) (l_ : List Order) (reach : Int) (hour : Int) : Prop := ((0 ≤ reach ∧ reach < (d.reaches.length : Int)) ∧ ((0 ≤ reach ∧ reach < (d.reaches.length : Int)) ∧ (ref21_Worst_p (d.reaches.getD (Int.toNat reach) (default : Reach)) (ref28_Sum l_ reach (IntKind.i64.wrap (hour - (d.reaches.getD (Int.toNat reach) (default : Reach)).delay)) (IntKind.i64.wrap (hour - (d.reaches.getD (Int.toNat reach) (default : Reach)).delay))))))
def C_ref28_arrives : List SV → Option Con := (pD .district fun d => (pR .order fun l_ => (pI fun reach => (pI fun hour => pE (.det (ref28_arrives_p d l_ reach hour) (.v (.int .i64 (ref28_arrives d l_ reach hour))))))))
theorem ok_ref28_arrives : FnOk Tryz.prog 43 C_ref28_arrives := by
  have hG : ConsOk Tryz.prog (mkG [(41, fun l => C_ref28_Sum (nrmA [.sl .order, .o, .o, .o] l)), (60, C_ref21_Worst)] []) := mkG_ok (cgc (ok_ref28_Sum.norm [.sl .order, .o, .o, .o]) (cgc ok_ref21_Worst cg0)) cg0
  refine fn_okN [.o] mixed ts_ok hG (fn := Tryz.f43) (c := bodyOf Tryz.f43) (by kernel_rfl) (by kernel_rfl) (by kernel_rfl) (by kernel_rfl) fun l con h hp => ?_
  unfold C_ref28_arrives at h
  obtain ⟨d, l0, rfl, h0⟩ := pD_inv h
  obtain ⟨l_, l1, rfl, h1⟩ := pR_inv h0
  obtain ⟨reach, l2, rfl, h2⟩ := pI_inv h1
  obtain ⟨hour, l3, rfl, h3⟩ := pI_inv h2
  obtain ⟨rfl, rfl⟩ := pE_inv h3
  clear h h0 h1 h2 h3
  dsimp only [conPre] at hp
  unfold ref28_arrives_p at hp
  refine ⟨Nat.le_of_ble_eq_true rfl, (fun id st => none), ?_, ?_⟩
  · unfold bodyOf Tryz.f43
    simp only [loopsOk, and_self, true_and, and_true]
  · unfold bodyOf Tryz.f43
    try unfold ref28_arrives
    simp only [go_sem, Nat.reduceBEq, Nat.reduceLeDiff, Nat.reduceAdd, Nat.reduceSub, Nat.reduceMul, Int.reduceLE, Int.reduceLT, Int.reduceToNat, Int.reduceNeg, reduceCtorEq, C_ref28_Sum, C_ref21_Worst]
    all_goals exact cl
end Go.Sx
end
section
namespace Go.Sx
open Go.Proofs
theorem rems_gcd : ∀ (f n d : Nat), 1 ≤ d → d ≤ f → 1 ≤ n → ∀ x, (rems f n d).getLastD x = Nat.gcd n d
  | 0, n, d, h1, h2, _, x => by omega
  | f + 1, n, d, h1, h2, h3, x => by
    unfold rems
    have hm : max d 1 = d := by omega
    rw [if_neg (by omega), hm]
    by_cases h0 : n % d = 0
    · rw [if_pos h0]
      have : d ∣ n := Nat.dvd_of_mod_eq_zero h0
      rw [Nat.gcd_eq_right this]
      rfl
    · rw [if_neg h0]
      have hlt : n % d < d := Nat.mod_lt _ (by omega)
      have ih := rems_gcd f d (n % d) (by omega) (by omega) (by omega) n
      have e : Nat.gcd n d = Nat.gcd d (n % d) := by rw [Nat.gcd_comm n d, Nat.gcd_rec d n, Nat.gcd_comm]
      rw [e, ← ih, List.getLastD_cons]
theorem divI_gcd {n d : Nat} (h : 1 ≤ d) : divI n d = Nat.gcd n d := by
  unfold divI
  rw [if_neg (by omega)]
  by_cases h0 : n = 0
  · subst h0
    cases d with
    | zero => omega
    | succ d => simp [rems]
  · exact rems_gcd d n d h (Nat.le_refl _) (by omega) d
theorem div_run (b0 : Int) : ∀ (n i : Nat) (a b : Int), 0 ≤ a → 0 ≤ b → b.toNat < n → runI (ref12_divisor_l0 b0) n i (a, b) = .inl ((Nat.gcd a.toNat b.toNat : Nat) : Int)
  | 0, _, _, _, _, _, h => by omega
  | n + 1, i, a, b, ha, hb, h => by
    simp only [runI, ref12_divisor_l0]
    by_cases h0 : b > 0
    · rw [decide_eq_true h0]
      simp only [cond_true]
      have e1 := Int.tmod_eq_emod_of_nonneg (b := b) ha
      have e2 := Int.emod_nonneg a (by omega : b ≠ 0)
      have e3 := Int.emod_lt_of_pos a h0
      rw [e1, div_run b0 n (i + 1) b (a % b) hb e2 (by omega)]
      have e4 : (a % b).toNat = a.toNat % b.toNat := by
        obtain ⟨x, rfl⟩ := Int.eq_ofNat_of_zero_le ha
        obtain ⟨y, rfl⟩ := Int.eq_ofNat_of_zero_le hb
        simp only [← Int.natCast_emod, Int.toNat_natCast]
      rw [e4, Nat.gcd_comm a.toNat b.toNat, Nat.gcd_rec b.toNat a.toNat, Nat.gcd_comm]
    · rw [decide_eq_false h0]
      have : b = 0 := by omega
      subst this
      simp only [cond_false, Int.toNat_zero, Nat.gcd_zero_right]
      rw [Int.toNat_of_nonneg ha]
theorem divisor_gcd {a b : Int} (ha : 0 ≤ a) (hb : 0 ≤ b) : ref12_divisor a b = ((Nat.gcd a.toNat b.toNat : Nat) : Int) := by
  unfold ref12_divisor
  rw [div_run b _ 0 a b ha hb (by omega)]
theorem divisor_p {a b : Int} (ha : 0 ≤ a) (hb : 0 ≤ b) : ref12_divisor_p a b := by
  refine ⟨okI_all _ _ _ fun j s _ _ h => ?_, fun z h => ?_⟩
  · simp only [decide_eq_true_eq] at h; omega
  · rw [div_run b _ 0 a b ha hb (by omega)] at h; cases h
theorem wrapU {n : Int} (h0 : 0 ≤ n) (h1 : n < 18446744073709551616) : IntKind.u64.wrap n = n := by
  simp only [IntKind.wrap, IntKind.bits, IntKind.signed]; simp; omega
theorem magnitude_abs {n : Int} (h0 : -1073741824 ≤ n) (h1 : n ≤ 1073741824) : ratio_magnitude n = (n.natAbs : Int) := by
  unfold ratio_magnitude
  by_cases h : n < 0
  · rw [decide_eq_true h]
    simp only [cond_true, IntKind.wrap, IntKind.bits, IntKind.signed]
    simp
    omega
  · rw [decide_eq_false h]
    simp only [cond_false]
    rw [wrapU (by omega) (by omega)]; omega
theorem size_abs {n : Int} (h0 : -1073741824 ≤ n) (h1 : n ≤ 1073741824) : ref12_size n = (n.natAbs : Int) := by
  unfold ref12_size
  by_cases h : n < 0
  · rw [decide_eq_true h]
    simp only [cond_true]
    rw [wrapI (by omega) (by omega)]; omega
  · rw [decide_eq_false h]
    simp only [cond_false]
    omega
structure RatioOk (a : Ratio) : Prop where
  d1 : 1 ≤ a.d
  d : a.d ≤ 1073741824
  n0 : -1073741824 ≤ a.n
  n : a.n ≤ 1073741824
  gcd : Nat.gcd a.n.natAbs a.d.toNat = 1
theorem ratio_iff (a : Ratio) : ratio_Check a = 0 ↔ RatioOk a := by
  unfold ratio_Check
  cases h : ((((decide (a.d < 1)) || (decide (a.d > 1073741824))) || (decide (a.n < (-1073741824)))) || (decide (a.n > 1073741824))) with
  | true =>
    simp only [Bool.true_or, cond_true]
    simp only [Bool.or_eq_true, decide_eq_true_eq] at h
    refine ⟨fun e => (by cases e), fun r => ?_⟩
    have := r.d1; have := r.d; have := r.n0; have := r.n
    omega
  | false =>
    simp only [Bool.or_eq_false_iff, decide_eq_false_iff_not] at h
    rw [magnitude_abs (by omega) (by omega), wrapU (by omega) (by omega), Int.toNat_natCast, divI_gcd (by omega)]
    simp only [Bool.false_or]
    by_cases hg : Nat.gcd a.n.natAbs a.d.toNat = 1
    · rw [hg]
      exact ⟨fun _ => ⟨by omega, by omega, by omega, by omega, hg⟩, fun _ => rfl⟩
    · have : ((Nat.gcd a.n.natAbs a.d.toNat : Nat) : Int) ≠ 1 := by omega
      rw [bne_iff_ne.2 this]
      exact ⟨fun e => (by cases e), fun r => absurd r.gcd hg⟩
theorem valid_iff (a : Ratio) : ref12_Valid a = true ↔ RatioOk a := by
  unfold ref12_Valid
  constructor
  · intro h
    simp only [Bool.and_eq_true, decide_eq_true_eq, beq_iff_eq] at h
    obtain ⟨⟨⟨⟨h1, h2⟩, h3⟩, h4⟩, h5⟩ := h
    rw [size_abs (by omega) (by omega), divisor_gcd (by omega) (by omega), Int.toNat_natCast] at h5
    exact ⟨h1, h2, h3, h4, by omega⟩
  · intro r
    have := r.d1; have := r.d; have := r.n0; have := r.n
    simp only [Bool.and_eq_true, decide_eq_true_eq, beq_iff_eq]
    rw [size_abs (by omega) (by omega), divisor_gcd (by omega) (by omega), Int.toNat_natCast, r.gcd]
    exact ⟨⟨⟨⟨by omega, by omega⟩, by omega⟩, by omega⟩, rfl⟩
theorem ratio_01 (a : Ratio) : ratio_Check a = 0 ∨ ratio_Check a = 120 := by
  unfold ratio_Check; rw [Bool.cond_eq_ite]; split <;> simp
theorem ratio_eq (a : Ratio) : ratio_Check a = ref12_Check a := by
  unfold ref12_Check
  cases h : ref12_Valid a with
  | true => exact (ratio_iff a).2 ((valid_iff a).1 h)
  | false =>
    have : ratio_Check a ≠ 0 := fun e => by
      have := (valid_iff a).2 ((ratio_iff a).1 e)
      rw [h] at this; cases this
    have := ratio_01 a
    simp only [Bool.not_false, cond_true]
    omega
theorem valid_eq (a : Ratio) : ref12_Valid a = (ratio_Check a == 0) := by
  cases h : ref12_Valid a with
  | true => rw [(ratio_iff a).2 ((valid_iff a).1 h)]; rfl
  | false =>
    have : ratio_Check a ≠ 0 := fun e => by
      have := (valid_iff a).2 ((ratio_iff a).1 e)
      rw [h] at this; cases this
    simp [this]
theorem cmp_eq (a b : Ratio) : ratio_Cmp a b = ref12_Cmp a b := by
  unfold ratio_Cmp ref12_Cmp ref12_Both ref12_Less
  rw [valid_eq, valid_eq, compare_neg]
  generalize IntKind.i64.wrap (a.n * b.d) = x
  generalize IntKind.i64.wrap (b.n * a.d) = y
  cases h1 : (ratio_Check a == 0) <;> cases h2 : (ratio_Check b == 0) <;> simp [bne, h1, h2, Bool.cond_eq_ite]
  split
  · rfl
  · split <;> rfl
theorem valid_p (a : Ratio) : ref12_Valid_p a := fun h => by
  simp only [Bool.and_eq_true, decide_eq_true_eq] at h
  rw [size_abs (by omega) (by omega)]
  exact divisor_p (by omega) (by omega)
theorem both_p (a b : Ratio) : ref12_Both_p a b := ⟨valid_p a, fun _ => valid_p b⟩
end Go.Sx
end
section
namespace Go.Sx
open Go.Proofs
theorem rising3_b (a b c : Int) : expand_rising [a, b, c] = (decide (a ≤ b) && decide (b ≤ c)) := by
  cases h : expand_rising [a, b, c] with
  | true => have := rising3 h; simp [this.1, this.2]
  | false =>
    by_cases h1 : a ≤ b
    · by_cases h2 : b ≤ c
      · rw [rising_mk3 h1 h2] at h; cases h
      · simp [h2]
    · simp [h1]
theorem rising4_b (a b c d : Int) : expand_rising [a, b, c, d] = (decide (a ≤ b) && decide (b ≤ c) && decide (c ≤ d)) := by
  cases h : expand_rising [a, b, c, d] with
  | true => have := rising4 h; simp [this.1, this.2.1, this.2.2]
  | false =>
    by_cases h1 : a ≤ b
    · by_cases h2 : b ≤ c
      · by_cases h3 : c ≤ d
        · rw [rising_mk4 h1 h2 h3] at h; cases h
        · simp [h3]
      · simp [h2]
    · simp [h1]
theorem b_iff {a b : Bool} (h : a = true ↔ b = true) : a = b := by cases a <;> cases b <;> simp_all
theorem share_eq (x : Ratio × Ratio) : expand_share x = ref19_shares x := by
  unfold expand_share ref19_shares
  rw [cmp_eq, ← ratio_eq, ← ratio_eq]
  unfold ref12_Cmp ref12_Both
  rw [valid_eq, valid_eq]
  cases h1 : (ratio_Check x.1 == 0) <;> cases h2 : (ratio_Check x.2 == 0) <;> simp [bne, h1, h2, Bool.cond_eq_ite]
  repeat' split
  all_goals simp
theorem reachX (i : Int) (x : Reach) : expand_reach i x = true ↔ ((i > 0 ∧ 0 ≤ x.up ∧ x.up < i) ∨ (¬ i > 0 ∧ x.up = -1)) ∧ (1 ≤ x.delay ∧ x.delay ≤ 16) ∧ (0 ≤ x.siphon ∧ x.siphon ≤ x.cap ∧ x.cap ≤ 1073741824) ∧ (x.siphon ≤ x.bank ∧ x.bank ≤ 1099511627776) ∧ (0 ≤ x.evap.lo ∧ x.evap.lo ≤ x.evap.hi ∧ x.evap.hi ≤ 1073741824) ∧ ref19_shares x.seep = true := by
  unfold expand_reach expand_index
  rw [share_eq, rising3_b, rising4_b, rising4_b, rising4_b]
  generalize ref19_shares x.seep = q
  by_cases h : i > 0
  · rw [decide_eq_true h]
    simp only [cond_true, Bool.and_eq_true, decide_eq_true_eq]
    cases q <;> simp only [Bool.false_eq_true, and_false, and_true] <;> omega
  · rw [decide_eq_false h]
    simp only [cond_false, Bool.and_eq_true, decide_eq_true_eq, beq_iff_eq]
    cases q <;> simp only [Bool.false_eq_true, and_false, and_true] <;> omega
theorem ReachR (x : Reach) : ref19_Reach x = true ↔ (1 ≤ x.delay ∧ x.delay ≤ 16) ∧ (0 ≤ x.siphon ∧ x.siphon ≤ x.cap ∧ x.cap ≤ 1073741824) ∧ (x.siphon ≤ x.bank ∧ x.bank ≤ 1099511627776) ∧ (0 ≤ x.evap.lo ∧ x.evap.lo ≤ x.evap.hi ∧ x.evap.hi ≤ 1073741824) ∧ ref19_shares x.seep = true := by
  unfold ref19_Reach ref19_within
  generalize ref19_shares x.seep = q
  have hb : ∀ (A B : Bool) (q : Bool), (bif A then false else bif B then false else q) = true ↔ A = false ∧ B = false ∧ q = true := fun A B q => by cases A <;> cases B <;> simp
  rw [hb]
  simp only [Bool.or_eq_false_iff, Bool.not_eq_false', Bool.and_eq_true, decide_eq_true_eq, decide_eq_false_iff_not]
  by_cases h : x.bank < x.cap
  · rw [if_pos h]; cases q <;> simp only [Bool.false_eq_true, and_false, and_true] <;> omega
  · rw [if_neg h]; cases q <;> simp only [Bool.false_eq_true, and_false, and_true] <;> omega
theorem reach_step (l : List Reach) (k : Nat) (hk : k < 4096) : ref19_reaches_l0 l k () = .inr () ↔ expand_reach (k : Int) (l.getD k default) = true := by
  unfold ref19_reaches_l0 ref19_within
  rw [reachX]
  have hb : ∀ A B : Bool, ((bif A then Sum.inl () else bif B then Sum.inl () else Sum.inr ()) : Unit ⊕ Unit) = .inr () ↔ A = false ∧ B = false := fun A B => by cases A <;> cases B <;> simp
  rw [hb, Bool.not_eq_false', ReachR]
  generalize l.getD k default = x
  generalize ref19_shares x.seep = q
  by_cases h : 0 < k
  · rw [wrap_pred (by omega) h]
    simp only [Bool.or_eq_false_iff, Bool.and_eq_false_iff, Bool.not_eq_false', Bool.and_eq_true, decide_eq_true_eq, decide_eq_false_iff_not, beq_eq_false_iff_ne, bne_eq_false_iff_eq]
    cases q <;> simp only [Bool.false_eq_true, and_false, and_true] <;> omega
  · have : k = 0 := by omega
    subst this
    simp only [Bool.or_eq_false_iff, Bool.and_eq_false_iff, Bool.not_eq_false', Bool.and_eq_true, decide_eq_true_eq, decide_eq_false_iff_not, beq_eq_false_iff_ne, bne_eq_false_iff_eq]
    cases q <;> simp only [Bool.false_eq_true, and_false, and_true] <;> omega
theorem wlen {n : Nat} (h : n ≤ 4096) : IntKind.i64.wrap ((n : Int) - 1) = (n : Int) - 1 := wrapI (by omega) (by omega)
theorem ba_refl (x : ByteArray) : (x == x) = true := by
  cases x with
  | mk d =>
    show (d == d) = true
    simp
theorem right_eq (d : District) (x : Right) (h1 : d.farms.length ≤ 600) (h2 : d.reaches.length ≤ 64) (h3 : 1 ≤ d.hours) (h4 : d.hours ≤ 4096) : expand_right d x = ref19_right d x := by
  unfold expand_right ref19_right expand_index ref19_within
  rw [rising4_b, rising3_b, rising3_b, rising4_b, wlen (by omega), wlen (by omega), wrapI (by omega : -9223372036854775808 ≤ d.hours - 1) (by omega)]
  rw [ba_refl]
  refine b_iff ?_
  have hb : ∀ (A q : Bool), (bif A then false else q) = true ↔ A = false ∧ q = true := fun A q => by cases A <;> simp
  rw [hb, hb]
  have hc : ∀ (k1 k2 k3 a b c : Bool), (bif k1 then a else bif k2 then b else bif k3 then c else false) = true ↔ (k1 = true ∧ a = true) ∨ (k1 = false ∧ k2 = true ∧ b = true) ∨ (k1 = false ∧ k2 = false ∧ k3 = true ∧ c = true) := fun k1 k2 k3 a b c => by cases k1 <;> cases k2 <;> cases k3 <;> simp
  rw [hc, hc]
  simp only [Bool.or_eq_false_iff, Bool.and_eq_true, Bool.not_eq_false', decide_eq_true_eq, decide_eq_false_iff_not, beq_iff_eq, beq_eq_false_iff_ne, and_true, true_and]
  omega
end Go.Sx
end
section
namespace Go.Sx
open Go.Proofs
theorem ux (A : Bool) : ((bif A then Sum.inr () else Sum.inl ()) : Unit ⊕ Unit) = .inr () ↔ A = true := by cases A <;> simp
theorem uy (A : Bool) : ((bif A then Sum.inl () else Sum.inr ()) : Unit ⊕ Unit) = .inr () ↔ A = false := by cases A <;> simp
theorem crop_step (d : District) (k : Nat) : ref19_farms_l0 d k () = .inr () ↔ expand_examine_l1 d 191 k () = .inr () := by
  unfold ref19_farms_l0 expand_examine_l1 ref19_within
  rw [demand_t, uy, ux, rising3_b]
  simp only [Bool.not_eq_false', Bool.and_eq_true, decide_eq_true_eq, ge_iff_le]
theorem farm_step (d : District) (k : Nat) (h1 : d.reaches.length ≤ 64) (h2 : d.crops.length ≤ 32) : ref19_farms_l1 d k () = .inr () ↔ expand_examine_l2 d 191 k () = .inr () := by
  unfold ref19_farms_l1 expand_examine_l2 ref19_within expand_index
  simp only [demand_t]
  rw [rising3_b, wlen (by omega), wlen (by omega)]
  generalize d.farms.getD k default = x
  have hb : ∀ A B : Bool, ((bif A then Sum.inl () else bif B then Sum.inl () else Sum.inr ()) : Unit ⊕ Unit) = .inr () ↔ A = false ∧ B = false := fun A B => by cases A <;> cases B <;> simp
  rw [hb]
  by_cases h : x.area > 0
  · rw [decide_eq_true h]
    simp only [Bool.true_and, Bool.false_and, Bool.or_false, cond_true, ux, Bool.or_eq_false_iff, Bool.and_eq_false_iff, Bool.not_eq_false', Bool.and_eq_true, decide_eq_true_eq, decide_eq_false_iff_not, beq_eq_false_iff_ne, bne_eq_false_iff_eq]
    omega
  · rw [decide_eq_false h]
    simp only [Bool.true_and, Bool.false_and, Bool.or_false, cond_false, ux, Bool.or_eq_false_iff, Bool.and_eq_false_iff, Bool.not_eq_false', Bool.and_eq_true, decide_eq_true_eq, decide_eq_false_iff_not, beq_eq_false_iff_ne, bne_eq_false_iff_eq, beq_iff_eq]
    omega
theorem duty_step (d : District) (k : Nat) (h1 : d.reaches.length ≤ 64) (h2 : d.farms.length ≤ 600) : ref19_valid_l1 d k () = .inr () ↔ expand_examine_l4 d 191 k () = .inr () := by
  unfold ref19_valid_l1 expand_examine_l4 ref19_within expand_index
  simp only [demand_t]
  rw [rising3_b, wlen (by omega), wlen (by omega), ux, uy]
  simp only [Bool.or_eq_false_iff, Bool.not_eq_false', Bool.and_eq_true, decide_eq_true_eq]
  omega
theorem rights_step (d : District) (k : Nat) (h1 : d.farms.length ≤ 600) (h2 : d.reaches.length ≤ 64) (h3 : 1 ≤ d.hours) (h4 : d.hours ≤ 4096) : ref19_valid_l0 d k () = .inr () ↔ expand_examine_l3 d 191 k () = .inr () := by
  unfold ref19_valid_l0 expand_examine_l3
  rw [demand_t, right_eq d _ h1 h2 h3 h4, ux, uy, Bool.not_eq_false']
theorem m1 {r : Unit ⊕ Unit} {a b : Bool} : (match r with | .inl _ => a | .inr _ => b) = true ↔ (r = .inr () ∧ b = true) ∨ ((∃ y, r = .inl y) ∧ a = true) := by
  cases r with
  | inl y => simp
  | inr y => simp
theorem valid_iff19 (d : District) (h1 : d.reaches.length ≤ 64) (h2 : d.farms.length ≤ 600) (h3 : d.crops.length ≤ 32) : ref19_valid d = true ↔ (1 ≤ d.hours ∧ d.hours ≤ 4096) ∧ (0 ≤ d.tank.start ∧ d.tank.start ≤ d.tank.cap ∧ d.tank.cap ≤ 1099511627776) ∧ 0 < d.reaches.length ∧
    (∀ k, k < d.reaches.length → expand_examine_l0 d 191 k () = .inr ()) ∧ (∀ k, k < d.crops.length → expand_examine_l1 d 191 k () = .inr ()) ∧ (∀ k, k < d.farms.length → expand_examine_l2 d 191 k () = .inr ()) ∧ (∀ k, k < d.rights.length → expand_examine_l3 d 191 k () = .inr ()) ∧ (∀ k, k < d.duties.length → expand_examine_l4 d 191 k () = .inr ()) := by
  have hR : ref19_reaches d.reaches = true ↔ (∀ k, k < d.reaches.length → expand_examine_l0 d 191 k () = .inr ()) ∧ 0 < d.reaches.length := by
    unfold ref19_reaches
    refine Iff.trans (m1 (r := runI (ref19_reaches_l0 d.reaches) d.reaches.length 0 ()) (a := false) (b := decide ((d.reaches.length : Int) > 0))) ?_
    simp only [Bool.false_eq_true, and_false, or_false, decide_eq_true_eq]
    rw [unit_iff]
    refine and_congr ⟨fun h k hk => ?_, fun h k hk => ?_⟩ (by omega)
    · unfold expand_examine_l0
      rw [demand_t, ux]
      exact (reach_step _ k (by omega)).1 (h k hk)
    · have := h k hk
      unfold expand_examine_l0 at this
      rw [demand_t, ux] at this
      exact (reach_step _ k (by omega)).2 this
  have hF : ref19_farms d = true ↔ (∀ k, k < d.crops.length → expand_examine_l1 d 191 k () = .inr ()) ∧ (∀ k, k < d.farms.length → expand_examine_l2 d 191 k () = .inr ()) := by
    unfold ref19_farms
    refine Iff.trans (m1 (r := runI (ref19_farms_l0 d) d.crops.length 0 ()) (a := false) (b := match runI (ref19_farms_l1 d) d.farms.length 0 () with | .inl _ => false | .inr _ => true)) ?_
    simp only [Bool.false_eq_true, and_false, or_false]
    rw [unit_iff]
    refine Iff.trans (and_congr_right fun _ => m1) ?_
    simp only [Bool.false_eq_true, and_false, or_false, and_true]
    rw [unit_iff]
    exact and_congr ⟨fun h k hk => (crop_step d k).1 (h k hk), fun h k hk => (crop_step d k).2 (h k hk)⟩ ⟨fun h k hk => (farm_step d k h1 h3).1 (h k hk), fun h k hk => (farm_step d k h1 h3).2 (h k hk)⟩
  unfold ref19_valid
  have hb : ∀ A B q : Bool, (bif A then false else bif B then false else q) = true ↔ A = false ∧ B = false ∧ q = true := fun A B q => by cases A <;> cases B <;> simp
  rw [hb]
  refine Iff.trans (and_congr_right fun _ => and_congr_right fun _ => Iff.trans (m1 (r := runI (ref19_valid_l0 d) d.rights.length 0 ()) (a := false) (b := match runI (ref19_valid_l1 d) d.duties.length 0 () with | .inl _ => false | .inr _ => true)) (or_congr_left (and_congr_right fun _ => m1))) ?_
  simp only [Bool.false_eq_true, and_false, or_false, and_true]
  rw [unit_iff, unit_iff]
  simp only [Bool.or_eq_false_iff, Bool.not_eq_false', hR, hF, ref19_within, Bool.and_eq_true, decide_eq_true_eq, decide_eq_false_iff_not]
  constructor
  · rintro ⟨⟨⟨a1, a2⟩, a3⟩, ⟨⟨b1, b2⟩, b3, b4⟩, b5, b6⟩
    refine ⟨by omega, by omega, b2, b1, b3, b4, fun k hk => (rights_step d k h2 h1 (by omega) (by omega)).1 (b5 k hk), fun k hk => (duty_step d k h1 h2).1 (b6 k hk)⟩
  · rintro ⟨a1, a2, a3, b1, b2, b3, b4, b5⟩
    refine ⟨⟨⟨by omega, by omega⟩, by omega⟩, ⟨⟨b1, a3⟩, b2, b3⟩, fun k hk => (rights_step d k h2 h1 (by omega) (by omega)).2 (b4 k hk), fun k hk => (duty_step d k h1 h2).2 (b5 k hk)⟩
theorem check_eq (d : District) : expand_Check d = ref19_Check d := by
  have hs := check_split d
  unfold ref19_Check
  by_cases hl : d.reaches.length ≤ 64 ∧ d.farms.length ≤ 600 ∧ d.crops.length ≤ 32 ∧ d.rights.length ≤ 256 ∧ d.duties.length ≤ 256
  · have e1 : (((((decide ((d.reaches.length : Int) > 64)) || (decide ((d.farms.length : Int) > 600))) || (decide ((d.crops.length : Int) > 32))) || (decide ((d.rights.length : Int) > 256))) || (decide ((d.duties.length : Int) > 256))) = false := by
      simp only [Bool.or_eq_false_iff, decide_eq_false_iff_not]; omega
    rw [e1]
    simp only [cond_false]
    have hv := valid_iff19 d hl.1 hl.2.1 hl.2.2.1
    cases h : ref19_valid d with
    | true => exact hs.2 ⟨hl, hv.1 h⟩
    | false =>
      have h0 : expand_Check d ≠ 0 := fun e => by
        have := hv.2 (hs.1 e).2
        rw [h] at this; cases this
      unfold expand_Check at h0 ⊢
      simp only [demand_t] at h0 ⊢
      have e2 : (((((decide ((d.reaches.length : Int) ≤ 64)) && (decide ((d.farms.length : Int) ≤ 600))) && (decide ((d.crops.length : Int) ≤ 32))) && (decide ((d.rights.length : Int) ≤ 256))) && (decide ((d.duties.length : Int) ≤ 256))) = true := by
        simp only [Bool.and_eq_true, decide_eq_true_eq]; omega
      rw [e2] at h0 ⊢
      simp only [cond_true] at h0 ⊢
      cases hx : expand_examine_ok d 191 with
      | true => rw [hx] at h0; simp at h0
      | false => rfl
  · have e1 : (((((decide ((d.reaches.length : Int) > 64)) || (decide ((d.farms.length : Int) > 600))) || (decide ((d.crops.length : Int) > 32))) || (decide ((d.rights.length : Int) > 256))) || (decide ((d.duties.length : Int) > 256))) = true := by
      simp only [Bool.or_eq_true, decide_eq_true_eq]; omega
    rw [e1]
    unfold expand_Check
    simp only [demand_t]
    have e2 : (((((decide ((d.reaches.length : Int) ≤ 64)) && (decide ((d.farms.length : Int) ≤ 600))) && (decide ((d.crops.length : Int) ≤ 32))) && (decide ((d.rights.length : Int) ≤ 256))) && (decide ((d.duties.length : Int) ≤ 256))) = false := by
      simp only [Bool.and_eq_false_iff, decide_eq_false_iff_not]; omega
    rw [e2]
    rfl
theorem shares_p (x : Ratio × Ratio) : ref19_shares_p x := ⟨valid_p _, fun _ => valid_p _, fun _ => both_p _ _⟩
theorem Reach_p (x : Reach) : ref19_Reach_p x := fun _ _ => shares_p _
theorem valid19_p (d : District) : ref19_valid_p d := fun _ => okI_all _ _ _ fun _ _ _ _ _ _ => Reach_p _
theorem check19_p (d : District) : ref19_Check_p d := fun _ _ => valid19_p d
end Go.Sx
end
section
namespace Go.Sx
open Go.Proofs
def clt (a b : Claim) : Prop := a.hour < b.hour ∨ a.hour = b.hour ∧ (a.rank < b.rank ∨ a.rank = b.rank ∧ (a.right < b.right ∨ a.right = b.right ∧ a.farm < b.farm))
theorem getD_el {α : Type} (l : List α) (d : α) {n : Nat} (h : n < l.length) : l.getD n d = l[n] := by
  rw [List.getD_eq_getElem?_getD, List.getElem?_eq_getElem h]; rfl
theorem clt_trans {a b c : Claim} (h1 : clt a b) (h2 : clt b c) : clt a c := by
  unfold clt at *; omega
theorem first4 (a b c d : Int) : claims_first [a, b, c, d] = if a ≠ 0 then a else if b ≠ 0 then b else if c ≠ 0 then c else d := by
  unfold claims_first
  simp only [List.length_cons, List.length_nil, Nat.zero_add, Nat.reduceAdd, runI, claims_first_l0, List.getD_cons_zero, List.getD_cons_succ]
  by_cases h1 : a = 0 <;> by_cases h2 : b = 0 <;> by_cases h3 : c = 0 <;> by_cases h4 : d = 0 <;> simp [h1, h2, h3, h4, Bool.cond_eq_ite]
theorem claims_lt (a b : Claim) : claims_order a b < 0 ↔ clt a b := by
  unfold claims_order clt
  rw [first4]
  simp only [compare_neg]
  repeat' split
  all_goals (first | omega | skip)
def okC (d : District) (a : Claim) : Bool := (((((((((decide (a.right ≥ 0)) && (decide (a.right < (d.rights.length : Int)))) && (decide (a.farm ≥ 0))) && (decide (a.farm < (d.farms.length : Int)))) && (decide (a.hour ≥ 0))) && (decide (a.hour < d.hours))) && (decide (a.litres ≥ 1))) && (decide (a.litres ≤ 1073741824)))) && ((d.rights.getD a.right.toNat default).kind == 1) && ((d.rights.getD a.right.toNat default).rank == a.rank)
theorem claims_step {d : District} {c : List Claim} {k : Nat} (hk : k < 4096) : claims_Check_l0 d c k () = .inr () ↔ okC d (c.getD k default) = true ∧ (0 < k → clt (c.getD (k - 1) default) (c.getD k default)) := by
  have hw : k > 0 → (IntKind.i64.wrap ((k : Int) - 1)).toNat = k - 1 := fun h => by rw [wrap_pred (by omega) h]; simp
  have hb : ∀ X : Bool, ((bif X then Sum.inl () else Sum.inr ()) : Unit ⊕ Unit) = .inr () ↔ X = false := fun X => by cases X <;> simp
  unfold claims_Check_l0 okC
  rw [hb]
  generalize hq : ((((((((decide ((c.getD k default).right ≥ 0)) && (decide ((c.getD k default).right < (d.rights.length : Int)))) && (decide ((c.getD k default).farm ≥ 0))) && (decide ((c.getD k default).farm < (d.farms.length : Int)))) && (decide ((c.getD k default).hour ≥ 0))) && (decide ((c.getD k default).hour < d.hours))) && (decide ((c.getD k default).litres ≥ 1))) && (decide ((c.getD k default).litres ≤ 1073741824))) = q
  clear hq
  by_cases h0 : 0 < k
  · rw [hw h0, ← claims_lt]
    have hp : decide ((k : Int) > 0) = true := by simp; omega
    rw [hp]
    simp only [Bool.or_eq_false_iff, Bool.and_eq_true, Bool.not_eq_false', Bool.true_and, bne_eq_false_iff_eq, beq_iff_eq, decide_eq_false_iff_not, h0, true_imp_iff]
    generalize claims_order (c.getD (k - 1) default) (c.getD k default) = z
    constructor
    · rintro ⟨⟨⟨h1, h2⟩, h3⟩, h4⟩; exact ⟨⟨⟨h1, h2⟩, h3⟩, by omega⟩
    · rintro ⟨⟨⟨h1, h2⟩, h3⟩, h4⟩; exact ⟨⟨⟨h1, h2⟩, h3⟩, by omega⟩
  · have hp : decide ((k : Int) > 0) = false := by simp; omega
    rw [hp]
    simp only [Bool.or_eq_false_iff, Bool.and_eq_true, Bool.not_eq_false', Bool.false_and, bne_eq_false_iff_eq, beq_iff_eq, h0, false_imp_iff, and_true]
theorem claims_iff (d : District) (c : List Claim) : claims_Check d c = 0 ↔ expand_Check d = 0 ∧ c.length ≤ 4096 ∧ (∀ a ∈ c, okC d a = true) ∧ c.Pairwise clt := by
  rw [claims_split]
  refine and_congr_right fun _ => and_congr_right fun hl => ?_
  constructor
  · intro h
    have hs := fun k hk => (claims_step (by omega)).1 (h k hk)
    refine ⟨fun a ha => ?_, ?_⟩
    · obtain ⟨k, hk, rfl⟩ := List.getElem_of_mem ha
      have := (hs k hk).1
      rwa [getD_el _ _ hk] at this
    · have key : ∀ (k j : Nat), j < k → k < c.length → clt (c.getD j default) (c.getD k default) := by
        intro k
        induction k with
        | zero => intro j h1; omega
        | succ k ih =>
          intro j h1 h2
          have h3 := (hs (k + 1) h2).2 (by omega)
          rw [Nat.add_sub_cancel] at h3
          by_cases e : j = k
          · subst e; exact h3
          · exact clt_trans (ih j (by omega) (by omega)) h3
      rw [List.pairwise_iff_getElem]
      intro i j hi hj hij
      have := key j i hij hj
      rwa [getD_el _ _ hi, getD_el _ _ hj] at this
  · rintro ⟨h1, h2⟩ k hk
    refine (claims_step (by omega)).2 ⟨?_, fun h0 => ?_⟩
    · rw [getD_el _ _ hk]; exact h1 _ (List.getElem_mem _)
    · rw [getD_el _ _ hk, getD_el _ _ (by omega : k - 1 < c.length)]
      exact List.pairwise_iff_getElem.1 h2 _ _ _ _ (by omega)
theorem mget_mupd {κ υ : Type} [DecidableEq κ] (l : List (κ × υ)) (x z : κ) (y : υ) : mget (mupd l x y) z = if z = x then some y else mget l z := by
  induction l with
  | nil => simp [mupd, mget]
  | cons a r ih =>
    obtain ⟨a, b⟩ := a
    unfold mupd
    by_cases h : x = a
    · subst h
      simp only [if_pos]
      unfold mget
      by_cases hz : z = x <;> simp [hz]
    · rw [if_neg h]
      unfold mget
      by_cases hz : z = a
      · subst hz
        rw [if_pos rfl, if_neg (fun e => h e.symm), if_pos rfl]
      · rw [if_neg hz, ih, if_neg hz]
theorem mgetT_mupdT {k : Tag} (l : List (k.T × Int)) (x z : k.T) (y : Int) : mgetT k .int (mupdT k .int l x y) z = if z = x then y else mgetT k .int l z := by
  unfold mgetT mupdT
  rw [mget_mupd]
  by_cases h : z = x <;> simp [h]
def placeC (a : Claim) : CertifyPlace := { hour := a.hour, index := a.farm, outlet := true }
def claimed (p : CertifyPlace) : List Claim → Int
  | [] => 0
  | a :: r => (if p = placeC a then a.litres else 0) + claimed p r
theorem claimed_app (p : CertifyPlace) (a b : List Claim) : claimed p (a ++ b) = claimed p a + claimed p b := by
  induction a with
  | nil => simp [claimed]
  | cons x r ih => simp only [List.cons_append, claimed, ih]; omega
theorem claimed_bound (p : CertifyPlace) (c : List Claim) (h : ∀ a ∈ c, 1 ≤ a.litres ∧ a.litres ≤ 1073741824) : 0 ≤ claimed p c ∧ claimed p c ≤ c.length * 1073741824 := by
  induction c with
  | nil => simp [claimed]
  | cons x r ih =>
    have h1 := ih fun a ha => h a (List.mem_cons_of_mem _ ha)
    have h2 := h x List.mem_cons_self
    simp only [claimed, List.length_cons]
    split <;> omega
theorem claimedM_get {c : List Claim} (hl : c.length ≤ 4096) (h : ∀ a ∈ c, 1 ≤ a.litres ∧ a.litres ≤ 1073741824) (p : CertifyPlace) : mgetT .certifyPlace .int (claimedM c) p = claimed p c := by
  unfold claimedM
  cases hs : runI (certify_table_unmet_1_l0 c) c.length 0 [] with
  | inl x => exact x.elim
  | inr m =>
    have := runI_inv (fun j s => ∀ p, mgetT .certifyPlace .int s p = claimed p (c.take j)) _ _ _ (fun p => by simp [claimed, mgetT, mget, dflt]) (fun j s _ hj hg s' hs' p => by
      have hj : j < c.length := by omega
      unfold certify_table_unmet_1_l0 at hs'
      simp only [Sum.inr.injEq] at hs'
      subst hs'
      rw [getD_el _ _ hj]
      have e : ∀ q, claimed q (c.take (j + 1)) = claimed q (c.take j) + (if q = placeC c[j] then c[j].litres else 0) := fun q => by
        rw [List.take_succ_eq_append_getElem hj, claimed_app]
        simp [claimed]
      have hb := claimed_bound (placeC c[j]) (c.take j) fun a ha => h a (List.mem_of_mem_take ha)
      have hb2 := h c[j] (List.getElem_mem _)
      have hb3 : (c.take j).length ≤ 4096 := by rw [List.length_take]; omega
      rw [mgetT_mupdT, e p]
      have hg2 := hg (placeC c[j])
      unfold placeC at hg2 hb ⊢
      rw [hg2]
      split
      · rename_i e; rw [e, wrapI (by omega) (by omega)]
      · rw [hg]; exact (Int.add_zero _).symm) m hs
    have := this p
    rw [Nat.zero_add, List.take_length] at this
    exact this
theorem okC_litres {d : District} {a : Claim} (h : okC d a = true) : 1 ≤ a.litres ∧ a.litres ≤ 1073741824 := by
  unfold okC at h
  simp only [Bool.and_eq_true, decide_eq_true_eq] at h
  omega
end Go.Sx
end
section
namespace Go.Sx
open Go.Proofs
theorem by_lt (a b : Order) : routing_by_1 a b < 0 ↔ olt a b := by
  refine ⟨order_lt, fun h => ?_⟩
  unfold routing_by_1
  have k0 : ∀ x, ordKey 0 x = x.hour := fun _ => rfl
  have k1 : ∀ x, ordKey 1 x = oval x := fun _ => rfl
  have k2 : ∀ x, ordKey 2 x = x.index := fun _ => rfl
  simp only [runI, ordStep, Nat.zero_add, Nat.reduceAdd, k0, k1, k2, compare_neg]
  unfold olt at h
  generalize oval a = p at h ⊢
  generalize oval b = q at h ⊢
  rcases h with h | ⟨e, h | ⟨e2, h⟩⟩
  · simp [h]
  · simp [e, h]
  · simp [e, e2, h]
theorem before_iff (a b : Order) : ref22_Before a b = true ↔ olt a b := by
  unfold ref22_Before olt oval
  have hb : ∀ (A B x y z : Bool), (bif A then x else bif B then y else z) = true ↔ (A = true ∧ x = true) ∨ (A = false ∧ B = true ∧ y = true) ∨ (A = false ∧ B = false ∧ z = true) := fun A B x y z => by cases A <;> cases B <;> simp
  rw [hb]
  cases a.outlet <;> cases b.outlet <;> simp only [bne_iff_ne, bne_eq_false_iff_eq, decide_eq_true_eq, cond_true, cond_false, ne_eq, bne_self_eq_false, Bool.false_eq_true, Bool.true_eq_false, and_false, false_and, or_false, false_or, and_true, true_and, Bool.bne_true, Bool.bne_false, Bool.not_true, Bool.not_false] <;> omega
theorem order_step (d : District) (l : List Order) (k : Nat) (hk : k < 4096) : routing_Check_l0 d l k () = .inr () ↔ ref22_Check_l0 d l k () = .inr () := by
  unfold routing_Check_l0 ref22_Check_l0 ref22_valid
  rw [uy]
  have hb : ∀ c A B : Bool, ((bif c then (bif A then Sum.inl () else Sum.inr ()) else (bif B then Sum.inl () else Sum.inr ())) : Unit ⊕ Unit) = .inr () ↔ (c = true ∧ A = false) ∨ (c = false ∧ B = false) := fun c A B => by cases c <;> cases A <;> cases B <;> simp
  have hc : ∀ A q Z : Bool, ((!(bif A then false else q)) || Z) = false ↔ A = false ∧ q = true ∧ Z = false := fun A q Z => by cases A <;> cases q <;> simp
  have hd : ∀ c x y : Bool, (bif c then x else y) = true ↔ (c = true ∧ x = true) ∨ (c = false ∧ y = true) := fun c x y => by cases c <;> simp
  rw [hb, hc, hd]
  have hw : (decide ((k : Int) > 0) && decide (routing_by_1 (l.getD (IntKind.i64.wrap ((k : Int) - 1)).toNat default) (l.getD k default) ≥ 0)) = false ↔ (decide ((k : Int) > 0) && !ref22_Before (l.getD (IntKind.i64.wrap ((k : Int) - 1)).toNat default) (l.getD k default)) = false := by
    have h1 := by_lt (l.getD (IntKind.i64.wrap ((k : Int) - 1)).toNat default) (l.getD k default)
    have h2 := before_iff (l.getD (IntKind.i64.wrap ((k : Int) - 1)).toNat default) (l.getD k default)
    rw [Bool.and_eq_false_iff, Bool.and_eq_false_iff, Bool.not_eq_false', h2, ← h1, decide_eq_false_iff_not, decide_eq_false_iff_not]
    omega
  simp only [Bool.or_eq_false_iff (y := (decide ((k : Int) > 0) && _)), hw]
  generalize (decide ((k : Int) > 0) && !ref22_Before (l.getD (IntKind.i64.wrap ((k : Int) - 1)).toNat default) (l.getD k default)) = q
  generalize l.getD k default = x
  simp only [Bool.or_eq_false_iff, decide_eq_false_iff_not, decide_eq_true_eq]
  cases q <;> cases x.outlet <;> simp only [Bool.false_eq_true, Bool.true_eq_false, and_false, false_and, or_false, false_or, and_true, true_and] <;> omega
theorem order_eq (d : District) (l : List Order) : routing_Check d l = 0 ↔ ref22_Check d l = 0 := by
  rw [routing_split, check_eq]
  unfold ref22_Check
  cases h1 : (ref19_Check d != 0) with
  | true => simp at h1; simp [h1]
  | false =>
    simp at h1
    simp only [cond_false, h1, true_and]
    cases h2 : decide ((l.length : Int) > 4096) with
    | true => simp at h2; simp; omega
    | false =>
      simp at h2
      have e : (∀ k, k < l.length → routing_Check_l0 d l k () = .inr ()) ↔ ∀ k, k < l.length → ref22_Check_l0 d l k () = .inr () :=
        ⟨fun h k hk => (order_step d l k (by omega)).1 (h k hk), fun h k hk => (order_step d l k (by omega)).2 (h k hk)⟩
      rw [e, ← unit_iff]
      cases h3 : runI (ref22_Check_l0 d l) l.length 0 () with
      | inl y => simp
      | inr y => simp; omega
theorem order22_p (d : District) (l : List Order) : ref22_Check_p d l := ⟨check19_p d, fun _ _ h2 => okI_all _ _ _ fun j s h3 h4 => fun _ _ h5 => by
  simp only [decide_eq_true_eq, decide_eq_false_iff_not] at h2 h5
  rw [wrapI (by omega) (by omega)]; omega⟩
theorem orders28_p (d : District) (l : List Order) : ref28_orders_p d l := fun _ => order22_p d l
theorem ediv_uniq {a d p : Int} (hd : 0 < d) (h1 : d * p ≤ a) (h2 : a < d * p + d) : a / d = p := by
  have h3 := Int.mul_ediv_add_emod a d
  have h4 := Int.emod_nonneg a (by omega : d ≠ 0)
  have h5 := Int.emod_lt_of_pos a hd
  rcases Int.lt_trichotomy (a / d) p with h | h | h
  · have := Int.mul_le_mul_of_nonneg_left (by omega : a / d + 1 ≤ p) (by omega : 0 ≤ d)
    rw [Int.mul_add, Int.mul_one] at this
    omega
  · exact h
  · have := Int.mul_le_mul_of_nonneg_left (by omega : p + 1 ≤ a / d) (by omega : 0 ≤ d)
    rw [Int.mul_add, Int.mul_one] at this
    omega
theorem down_eq {n d : Int} (hd : 1 ≤ d) (hd2 : d ≤ 1073741824) (h1 : -1152921504606846976 ≤ n) (h2 : n ≤ 1152921504606846976) : ratio_down n d = n / d := by
  unfold ratio_down
  have e1 : Int.tmod (Int.tmod n d + d) d = n % d := by
    have a1 : -d < Int.tmod n d := Int.lt_tmod_of_pos n (by omega)
    rw [Int.tmod_eq_emod_of_nonneg (by omega), Int.add_emod_right]
    rw [Int.tmod_eq_emod]
    split
    · show (n % d - 0) % d = n % d
      rw [Int.sub_zero, Int.emod_emod]
    · have : n % d - (d.natAbs : Int) = n % d + d * (-1) := by omega
      rw [this, Int.add_mul_emod_self_left, Int.emod_emod]
  have a1 : -d < Int.tmod n d := Int.lt_tmod_of_pos n (by omega)
  have a2 : Int.tmod n d < d := Int.tmod_lt_of_pos n (by omega)
  rw [wrapI (by omega : -9223372036854775808 ≤ Int.tmod n d + d) (by omega), e1]
  have b1 := Int.emod_nonneg n (by omega : d ≠ 0)
  have b2 := Int.emod_lt_of_pos n (by omega : 0 < d)
  rw [wrapI (by omega : -9223372036854775808 ≤ n - n % d) (by omega)]
  have e2 : n - n % d = d * (n / d) := by have := Int.mul_ediv_add_emod n d; omega
  rw [e2, Int.mul_tdiv_cancel_left _ (by omega)]
  have c1 : n / d ≤ 1152921504606846976 := by
    have := Int.ediv_le_ediv (by omega : 0 < d) h2
    have := Int.ediv_le_self (b := d) (by omega : (0 : Int) ≤ 1152921504606846976)
    omega
  have c2 : -1152921504606846976 ≤ n / d := by
    rw [Int.le_ediv_iff_mul_le (by omega)]
    have := Int.mul_le_mul_of_nonneg_left (by omega : 1 ≤ d) (by omega : (0 : Int) ≤ 1152921504606846976)
    omega
  exact wrapI (by omega) (by omega)
theorem up_eq {a b : Int} (hb : 1 ≤ b) (hb2 : b ≤ 1073741824) (h1 : 0 ≤ a) (h2 : a ≤ 1152921504606846976) : ref21_up a b = -((-a) / b) := by
  unfold ref21_up
  rw [wrapI (by omega : -9223372036854775808 ≤ a + b) (by omega), wrapI (by omega : -9223372036854775808 ≤ a + b - 1) (by omega), Int.tdiv_eq_ediv_of_nonneg (by omega)]
  have h3 := Int.mul_ediv_add_emod (-a) b
  have h4 := Int.emod_nonneg (-a) (by omega : b ≠ 0)
  have h5 := Int.emod_lt_of_pos (-a) (by omega : 0 < b)
  have e : (a + b - 1) / b = -((-a) / b) := ediv_uniq (by omega) (by rw [Int.mul_neg]; omega) (by rw [Int.mul_neg]; omega)
  rw [e]
  have c1 : -((-a) / b) ≤ 1152921504606846976 := by
    have : -1152921504606846976 ≤ (-a) / b := by
      rw [Int.le_ediv_iff_mul_le (by omega)]
      have := Int.mul_le_mul_of_nonneg_left (by omega : 1 ≤ b) (by omega : (0 : Int) ≤ 1152921504606846976)
      omega
    omega
  have c2 : (-a) / b ≤ 0 := by
    have := Int.ediv_le_ediv (by omega : 0 < b) (by omega : -a ≤ 0)
    simpa using this
  exact wrapI (by omega) (by omega)
end Go.Sx
end
section
namespace Go.Sx
open Go.Proofs
theorem lshares_eq (x : Ratio × Ratio) : losses_shares x = ref21_shares x := by
  unfold losses_shares ref21_shares ref21_share losses_share losses_in
  rw [cmp_eq]
  unfold ref12_Cmp ref12_Both
  rw [valid_eq, valid_eq]
  cases h1 : (ratio_Check x.1 == 0) <;> cases h2 : (ratio_Check x.2 == 0) <;> simp [h1, h2]
  cases h3 : ref12_Less x.1 x.2 <;> cases h4 : ref12_Less x.2 x.1 <;> simp
  all_goals (try (by_cases q1 : 0 ≤ x.1.n <;> by_cases q2 : x.1.n ≤ x.1.d <;> by_cases q3 : 0 ≤ x.2.n <;> by_cases q4 : x.2.n ≤ x.2.d <;> simp [q1, q2, q3, q4]))
  all_goals (unfold ref12_Less at h3 h4; simp only [decide_eq_true_eq] at h3 h4; omega)
structure Share (a : Ratio) : Prop where
  ok : RatioOk a
  n0 : 0 ≤ a.n
  nd : a.n ≤ a.d
theorem share_iff (a : Ratio) : ref21_share a = true ↔ Share a := by
  unfold ref21_share
  simp only [Bool.and_eq_true, decide_eq_true_eq, valid_iff]
  exact ⟨fun h => ⟨h.1.1, h.1.2, h.2⟩, fun h => ⟨⟨h.ok, h.n0⟩, h.nd⟩⟩
theorem mul_bound {a b : Int} (h0 : 0 ≤ a) (h1 : a ≤ 1073741824) (h2 : 0 ≤ b) (h3 : b ≤ 1073741824) : 0 ≤ a * b ∧ a * b ≤ 1152921504606846976 := by
  refine ⟨Int.mul_nonneg h0 h2, ?_⟩
  have := Int.mul_le_mul h1 h3 h2 (by omega : (0 : Int) ≤ 1073741824)
  omega
theorem times_hi {a : Ratio} (h : Share a) {v : Int} (h0 : 0 ≤ v) (h1 : v ≤ 1073741824) : (ratio_Times a v).2.1 = ref21_up (IntKind.i64.wrap (v * a.n)) a.d := by
  have r := h.ok
  have hr := (ratio_iff a).2 r
  have := r.d1; have := r.d; have := r.n; have := h.n0; have := h.nd
  have hm := mul_bound h.n0 r.n h0 h1
  unfold ratio_Times
  have e1 : (decide (v < (-1073741824)) || decide (v > 1073741824)) = false := by simp only [Bool.or_eq_false_iff, decide_eq_false_iff_not]; omega
  rw [hr, e1]
  simp only [bne_self_eq_false, cond_false]
  rw [wrapI (by omega : -9223372036854775808 ≤ 0 - a.n) (by omega)]
  have e2 : (0 - a.n) * v = -(a.n * v) := by rw [Int.sub_mul]; omega
  rw [e2, wrapI (by omega : -9223372036854775808 ≤ -(a.n * v)) (by omega), Int.mul_comm v a.n, wrapI (by omega : -9223372036854775808 ≤ a.n * v) (by omega)]
  rw [down_eq r.d1 r.d (by omega) (by omega), up_eq r.d1 r.d hm.1 hm.2]
  have c1 : -1152921504606846976 ≤ -(a.n * v) / a.d := by
    rw [Int.le_ediv_iff_mul_le (by omega)]
    have := Int.mul_le_mul_of_nonneg_left (by omega : 1 ≤ a.d) (by omega : (0 : Int) ≤ 1152921504606846976)
    omega
  have c2 : -(a.n * v) / a.d ≤ 0 := by
    have := Int.ediv_le_ediv (by omega : 0 < a.d) (by omega : -(a.n * v) ≤ 0)
    simpa using this
  rw [wrapI (by omega) (by omega)]; omega
theorem worst_eq (r : Reach) (v : Int) : losses_Worst r v = ref21_Worst r v := by
  unfold losses_Worst ref21_Worst ref21_Lost losses_valid ref21_Right
  have hw : losses_ordered r.evap 1073741824 = ref21_within r.evap 1073741824 := rfl
  rw [hw, lshares_eq]
  cases h1 : ref21_within r.evap 1073741824 with
  | false => rfl
  | true =>
    cases h2 : ref21_shares r.seep with
    | false => rfl
    | true =>
      simp only [Bool.not_true, Bool.or_self, Bool.and_self, cond_false]
      unfold losses_in
      by_cases h3 : 0 ≤ v ∧ v ≤ 1073741824
      · have e1 : (decide (v ≥ 0) && decide (v ≤ 1073741824)) = true := by simp only [Bool.and_eq_true, decide_eq_true_eq]; omega
        have e2 : (decide (v < 0) || decide (v > 1073741824)) = false := by simp only [Bool.or_eq_false_iff, decide_eq_false_iff_not]; omega
        rw [e1, e2]
        simp only [Bool.not_true, cond_false, bne_self_eq_false]
        unfold losses_lost ref21_lost
        cases h4 : (v == 0) with
        | true => rfl
        | false =>
          simp only [cond_false]
          unfold ref21_shares at h2
          simp only [Bool.and_eq_true] at h2
          rw [times_hi ((share_iff _).1 h2.1.2) h3.1 h3.2]
      · have e1 : (decide (v ≥ 0) && decide (v ≤ 1073741824)) = false := by simp only [Bool.and_eq_false_iff, decide_eq_false_iff_not]; omega
        have e2 : (decide (v < 0) || decide (v > 1073741824)) = true := by simp only [Bool.or_eq_true, decide_eq_true_eq]; omega
        rw [e1, e2]
        rfl
theorem worst_p (r : Reach) (v : Int) : ref21_Worst_p r v := by
  refine ⟨fun _ => ⟨valid_p _, fun _ => valid_p _⟩, fun h1 _ _ => ?_⟩
  unfold ref21_Right ref21_shares at h1
  simp only [Bool.not_eq_false', Bool.and_eq_true] at h1
  have a := ((share_iff _).1 h1.2.1.1).ok.d1
  have b := ((share_iff _).1 h1.2.1.2).ok.d1
  exact ⟨by omega, by unfold ref21_up_p; omega⟩
def gateAt (reach hour : Int) : List Order → Int
  | [] => 0
  | x :: r => (if x.outlet = false ∧ x.index = reach ∧ x.hour = hour then x.litres else 0) + gateAt reach hour r
theorem gateAt_app (reach hour : Int) (a b : List Order) : gateAt reach hour (a ++ b) = gateAt reach hour a + gateAt reach hour b := by
  induction a with
  | nil => simp [gateAt]
  | cons x r ih => simp only [List.cons_append, gateAt, ih]; omega
theorem gateAt_none {reach hour : Int} {l : List Order} (h : ∀ x ∈ l, ¬ (x.outlet = false ∧ x.index = reach ∧ x.hour = hour)) : gateAt reach hour l = 0 := by
  induction l with
  | nil => rfl
  | cons x r ih =>
    simp only [gateAt]
    rw [if_neg (h x List.mem_cons_self), ih fun y hy => h y (List.mem_cons_of_mem _ hy)]
    rfl
theorem gateAt_bound {reach hour : Int} {l : List Order} (h : ∀ x ∈ l, 1 ≤ x.litres ∧ x.litres ≤ 1073741824) : 0 ≤ gateAt reach hour l ∧ gateAt reach hour l ≤ l.length * 1073741824 := by
  induction l with
  | nil => simp [gateAt]
  | cons x r ih =>
    have h1 := ih fun a ha => h a (List.mem_cons_of_mem _ ha)
    have h2 := h x List.mem_cons_self
    simp only [gateAt, List.length_cons]
    split <;> omega
theorem sum_at {l : List Order} (hl : l.length ≤ 4096) (h : ∀ x ∈ l, 1 ≤ x.litres ∧ x.litres ≤ 1073741824) (reach hour : Int) : ref28_Sum l reach hour hour = gateAt reach hour l := by
  unfold ref28_Sum
  cases hs : runI (ref28_Sum_l0 l reach hour hour) l.length 0 0 with
  | inl x => exact x.elim
  | inr m =>
    have := runI_inv (fun j s => s = gateAt reach hour (l.take j)) _ _ _ (by simp [gateAt]) (fun j s _ hj hg s' hs' => by
      have hj : j < l.length := by omega
      unfold ref28_Sum_l0 at hs'
      rw [getD_el _ _ hj] at hs'
      rw [List.take_succ_eq_append_getElem hj, gateAt_app, ← hg]
      have hb := gateAt_bound (reach := reach) (hour := hour) fun a ha => h a (List.mem_of_mem_take (i := j) ha)
      have hb2 := h l[j] (List.getElem_mem _)
      have hb3 : (l.take j).length ≤ 4096 := by rw [List.length_take]; omega
      simp only [gateAt]
      generalize l[j] = x at hs' hb2 ⊢
      have hc : ((((!x.outlet) && (x.index == reach)) && decide (x.hour ≥ hour)) && decide (x.hour ≤ hour)) = true ↔ (x.outlet = false ∧ x.index = reach ∧ x.hour = hour) := by
        simp only [Bool.and_eq_true, Bool.not_eq_true', beq_iff_eq, decide_eq_true_eq]
        exact ⟨fun h => ⟨h.1.1.1, h.1.1.2, by omega⟩, fun h => ⟨⟨⟨h.1, h.2.1⟩, by omega⟩, by omega⟩⟩
      cases hd : ((((!x.outlet) && (x.index == reach)) && decide (x.hour ≥ hour)) && decide (x.hour ≤ hour)) with
      | true =>
        rw [hd] at hs'
        simp only [cond_true, Sum.inr.injEq] at hs'
        rw [if_pos (hc.1 hd), ← hs', wrapI (by omega) (by omega)]; omega
      | false =>
        rw [hd] at hs'
        simp only [cond_false, Sum.inr.injEq] at hs'
        rw [if_neg (fun e => by rw [hc.2 e] at hd; cases hd), ← hs']; omega) m hs
    rw [Nat.zero_add, List.take_length] at this
    exact this
end Go.Sx
end
section
namespace Go.Sx
open Go.Proofs
theorem litres_get {d : District} {l : List Order} (ho : Orders1 d l) (hl : l.length ≤ 4096) {s0 : List (List Int) × List (List Int)} {s1 : List (CertifyPlace × Int) × List (List Int) × List (List Int)} (hs : runI (certify_read_l1 d l) l.length 0 ([], s0.2, s0.1) = .inr s1) (reach hour : Int) :
    mgetT .certifyPlace .int s1.1 { hour := hour, index := reach, outlet := false } = gateAt reach hour l := by
  have := runI_inv (fun j s => mgetT .certifyPlace .int s.1 { hour := hour, index := reach, outlet := false } = gateAt reach hour (l.take j)) _ _ _ (by simp [gateAt, mgetT, mget, dflt]) (fun j s _ hj hg s' hs' => by
    have hj : j < l.length := by omega
    have hm : s'.1 = mupdT .certifyPlace .int s.1 { hour := (l.getD j default).hour, index := (l.getD j default).index, outlet := (l.getD j default).outlet } (l.getD j default).litres := by
      unfold certify_read_l1 at hs'
      simp only [Bool.cond_eq_ite] at hs'
      repeat' split at hs'
      all_goals (simp only [Sum.inr.injEq] at hs'; subst hs'; rfl)
    rw [hm, mgetT_mupdT, List.take_succ_eq_append_getElem hj, gateAt_app, ← hg, getD_el _ _ hj]
    simp only [gateAt]
    by_cases hp : ({ hour := hour, index := reach, outlet := false } : CertifyPlace) = { hour := l[j].hour, index := l[j].index, outlet := l[j].outlet }
    · rw [if_pos hp]
      simp only [CertifyPlace.mk.injEq] at hp
      rw [if_pos ⟨hp.2.2.symm, hp.2.1.symm, hp.1.symm⟩, hg, gateAt_none fun x hx => ?_]
      · show l[j].litres = (0 : Int) + (l[j].litres + 0)
        omega
      · obtain ⟨i, hi, rfl⟩ := List.getElem_of_mem hx
        rw [List.length_take] at hi
        rw [List.getElem_take]
        have hlt := ho.lt j i (by omega) hj
        rw [getD_el _ _ hj, getD_el _ _ (by omega : i < l.length)] at hlt
        rintro ⟨e1, e2, e3⟩
        unfold olt oval at hlt
        rw [e1, ← hp.2.2, e2, e3, ← hp.1, ← hp.2.1] at hlt
        omega
    · rw [if_neg hp, if_neg fun e => hp (by rw [e.1, e.2.1, e.2.2])]
      exact (Int.add_zero _).symm) s1 hs
  rw [Nat.zero_add, List.take_length] at this
  exact this
theorem read_litres {d : District} {l : List Order} (h : (certify_read d l).2 = 0) (reach hour : Int) : mgetT .certifyPlace .int (certify_read d l).1.litres { hour := hour, index := reach, outlet := false } = gateAt reach hour l := by
  have ht := read_table (d := d) (l := l) (by simp [h])
  have ho := ht.ords
  unfold certify_read at h ⊢
  cases h1 : (decide (IntKind.i64.wrap ((d.reaches.length : Int) * d.hours) > 1024) || decide ((l.length : Int) > 4096)) with
  | true => rw [h1] at h; simp at h
  | false =>
    rw [h1] at h
    simp only [cond_false] at h ⊢
    cases h2 : (routing_Check d l != 0) with
    | true => rw [h2] at h; simp at h
    | false =>
      simp only [cond_false]
      split
      · rename_i y _; exact y.elim
      · split
        · rename_i y _; exact y.elim
        · rename_i s1 hs
          split
          · rename_i y _; exact y.elim
          · have := litres_get ho ho.len hs reach hour
            exact this
theorem arrives_eq {d : District} {l : List Order} (h : (certify_read d l).2 = 0) (r hr : Int) : certify_table_arrives (certify_read d l).1 r hr = ref28_arrives d l r hr := by
  have ht := read_table (d := d) (l := l) (by simp [h])
  unfold certify_table_arrives ref28_arrives
  rw [read_litres h, ht.td, worst_eq, sum_at ht.ords.len fun x hx => ?_]
  obtain ⟨k, hk, rfl⟩ := List.getElem_of_mem hx
  have := ht.ords.one k hk
  rw [getD_el _ _ hk] at this
  exact ⟨this.litres1, this.litres⟩
theorem read_err (d : District) (l : List Order) : (certify_read d l).2 = ref28_orders d l := by
  unfold certify_read ref28_orders ref22_Wide
  cases h1 : (decide (IntKind.i64.wrap ((d.reaches.length : Int) * d.hours) > 1024) || decide ((l.length : Int) > 4096)) with
  | true => rfl
  | false =>
    simp only [cond_false]
    have ho := order_eq d l
    cases h2 : (routing_Check d l != 0) with
    | true =>
      have : (ref22_Check d l != 0) = true := by simp at h2 ⊢; rw [← ho]; exact h2
      rw [this]; rfl
    | false =>
      have : (ref22_Check d l != 0) = false := by simp at h2 ⊢; exact ho.1 h2
      rw [this]
      simp only [cond_false]
      split
      · rename_i y _; exact y.elim
      · split
        · rename_i y _; exact y.elim
        · split
          · rename_i y _; exact y.elim
          · rfl
end Go.Sx
end
