/- Part of the proof that the law CertifySurely returns true and leaves its arguments as they were, for all arguments of bulk at most 1048576 (the Upto form). -/
import Derived.Test.YtnhhdmkikgdfkaaU10
import Derived.Test.YtnhhdmkikgdfkaaU07
import Derived.Test.YtnhhdmkikgdfkaaU09
import Derived.Test.YtnhhdmkikgdfkaaU08
set_option linter.all false
section
namespace Go.Sx
open Go.Proofs
theorem rems_gcd : ∀ (f n d : Nat), 1 ≤ d → d ≤ f → 1 ≤ n → ∀ x, (rems f n d).getLastD x = Nat.gcd n d
  | 0, n, d, h1, h2, _, x => by omega
  | f + 1, n, d, h1, h2, h3, x => by
    unfold rems
    have hm : max d 1 = d := by omega
    rw [if_neg (by omega), hm]
    by_cases h0 : n % d = 0
    · rw [if_pos h0]
      have : d ∣ n := Nat.dvd_of_mod_eq_zero h0
      rw [Nat.gcd_eq_right this]
      rfl
    · rw [if_neg h0]
      have hlt : n % d < d := Nat.mod_lt _ (by omega)
      have ih := rems_gcd f d (n % d) (by omega) (by omega) (by omega) n
      have e : Nat.gcd n d = Nat.gcd d (n % d) := by rw [Nat.gcd_comm n d, Nat.gcd_rec d n, Nat.gcd_comm]
      rw [e, ← ih, List.getLastD_cons]
theorem divI_gcd {n d : Nat} (h : 1 ≤ d) : divI n d = Nat.gcd n d := by
  unfold divI
  rw [if_neg (by omega)]
  by_cases h0 : n = 0
  · subst h0
    cases d with
    | zero => omega
    | succ d => simp [rems]
  · exact rems_gcd d n d h (Nat.le_refl _) (by omega) d
theorem div_run (b0 : Int) : ∀ (n i : Nat) (a b : Int), 0 ≤ a → 0 ≤ b → b.toNat < n → runI (ref12_divisor_l0 b0) n i (a, b) = .inl ((Nat.gcd a.toNat b.toNat : Nat) : Int)
  | 0, _, _, _, _, _, h => by omega
  | n + 1, i, a, b, ha, hb, h => by
    simp only [runI, ref12_divisor_l0]
    by_cases h0 : b > 0
    · rw [decide_eq_true h0]
      simp only [cond_true]
      have e1 := Int.tmod_eq_emod_of_nonneg (b := b) ha
      have e2 := Int.emod_nonneg a (by omega : b ≠ 0)
      have e3 := Int.emod_lt_of_pos a h0
      rw [e1, div_run b0 n (i + 1) b (a % b) hb e2 (by omega)]
      have e4 : (a % b).toNat = a.toNat % b.toNat := by
        obtain ⟨x, rfl⟩ := Int.eq_ofNat_of_zero_le ha
        obtain ⟨y, rfl⟩ := Int.eq_ofNat_of_zero_le hb
        simp only [← Int.natCast_emod, Int.toNat_natCast]
      rw [e4, Nat.gcd_comm a.toNat b.toNat, Nat.gcd_rec b.toNat a.toNat, Nat.gcd_comm]
    · rw [decide_eq_false h0]
      have : b = 0 := by omega
      subst this
      simp only [cond_false, Int.toNat_zero, Nat.gcd_zero_right]
      rw [Int.toNat_of_nonneg ha]
theorem divisor_gcd {a b : Int} (ha : 0 ≤ a) (hb : 0 ≤ b) : ref12_divisor a b = ((Nat.gcd a.toNat b.toNat : Nat) : Int) := by
  unfold ref12_divisor
  rw [div_run b _ 0 a b ha hb (by omega)]
theorem wrapU {n : Int} (h0 : 0 ≤ n) (h1 : n < 18446744073709551616) : IntKind.u64.wrap n = n := by
  simp only [IntKind.wrap, IntKind.bits, IntKind.signed]; simp; omega
theorem magnitude_abs {n : Int} (h0 : -1073741824 ≤ n) (h1 : n ≤ 1073741824) : ratio_magnitude n = (n.natAbs : Int) := by
  unfold ratio_magnitude
  by_cases h : n < 0
  · rw [decide_eq_true h]
    simp only [cond_true, IntKind.wrap, IntKind.bits, IntKind.signed]
    simp
    omega
  · rw [decide_eq_false h]
    simp only [cond_false]
    rw [wrapU (by omega) (by omega)]; omega
theorem size_abs {n : Int} (h0 : -1073741824 ≤ n) (h1 : n ≤ 1073741824) : ref12_size n = (n.natAbs : Int) := by
  unfold ref12_size
  by_cases h : n < 0
  · rw [decide_eq_true h]
    simp only [cond_true]
    rw [wrapI (by omega) (by omega)]; omega
  · rw [decide_eq_false h]
    simp only [cond_false]
    omega
structure RatioOk (a : Ratio) : Prop where
  d1 : 1 ≤ a.d
  d : a.d ≤ 1073741824
  n0 : -1073741824 ≤ a.n
  n : a.n ≤ 1073741824
  gcd : Nat.gcd a.n.natAbs a.d.toNat = 1
theorem ratio_iff (a : Ratio) : ratio_Check a = 0 ↔ RatioOk a := by
  unfold ratio_Check
  cases h : ((((decide (a.d < 1)) || (decide (a.d > 1073741824))) || (decide (a.n < (-1073741824)))) || (decide (a.n > 1073741824))) with
  | true =>
    simp only [Bool.true_or, cond_true]
    simp only [Bool.or_eq_true, decide_eq_true_eq] at h
    refine ⟨fun e => (by cases e), fun r => ?_⟩
    have := r.d1; have := r.d; have := r.n0; have := r.n
    omega
  | false =>
    simp only [Bool.or_eq_false_iff, decide_eq_false_iff_not] at h
    rw [magnitude_abs (by omega) (by omega), wrapU (by omega) (by omega), Int.toNat_natCast, divI_gcd (by omega)]
    simp only [Bool.false_or]
    by_cases hg : Nat.gcd a.n.natAbs a.d.toNat = 1
    · rw [hg]
      exact ⟨fun _ => ⟨by omega, by omega, by omega, by omega, hg⟩, fun _ => rfl⟩
    · have : ((Nat.gcd a.n.natAbs a.d.toNat : Nat) : Int) ≠ 1 := by omega
      rw [bne_iff_ne.2 this]
      exact ⟨fun e => (by cases e), fun r => absurd r.gcd hg⟩
theorem valid_iff (a : Ratio) : ref12_Valid a = true ↔ RatioOk a := by
  unfold ref12_Valid
  constructor
  · intro h
    simp only [Bool.and_eq_true, decide_eq_true_eq, beq_iff_eq] at h
    obtain ⟨⟨⟨⟨h1, h2⟩, h3⟩, h4⟩, h5⟩ := h
    rw [size_abs (by omega) (by omega), divisor_gcd (by omega) (by omega), Int.toNat_natCast] at h5
    exact ⟨h1, h2, h3, h4, by omega⟩
  · intro r
    have := r.d1; have := r.d; have := r.n0; have := r.n
    simp only [Bool.and_eq_true, decide_eq_true_eq, beq_iff_eq]
    rw [size_abs (by omega) (by omega), divisor_gcd (by omega) (by omega), Int.toNat_natCast, r.gcd]
    exact ⟨⟨⟨⟨by omega, by omega⟩, by omega⟩, by omega⟩, rfl⟩
theorem ratio_01 (a : Ratio) : ratio_Check a = 0 ∨ ratio_Check a = 120 := by
  unfold ratio_Check; rw [Bool.cond_eq_ite]; split <;> simp
theorem ratio_eq (a : Ratio) : ratio_Check a = ref12_Check a := by
  unfold ref12_Check
  cases h : ref12_Valid a with
  | true => exact (ratio_iff a).2 ((valid_iff a).1 h)
  | false =>
    have : ratio_Check a ≠ 0 := fun e => by
      have := (valid_iff a).2 ((ratio_iff a).1 e)
      rw [h] at this; cases this
    have := ratio_01 a
    simp only [Bool.not_false, cond_true]
    omega
theorem valid_eq (a : Ratio) : ref12_Valid a = (ratio_Check a == 0) := by
  cases h : ref12_Valid a with
  | true => rw [(ratio_iff a).2 ((valid_iff a).1 h)]; rfl
  | false =>
    have : ratio_Check a ≠ 0 := fun e => by
      have := (valid_iff a).2 ((ratio_iff a).1 e)
      rw [h] at this; cases this
    simp [this]
theorem cmp_eq (a b : Ratio) : ratio_Cmp a b = ref12_Cmp a b := by
  unfold ratio_Cmp ref12_Cmp ref12_Both ref12_Less
  rw [valid_eq, valid_eq, compare_neg]
  generalize IntKind.i64.wrap (a.n * b.d) = x
  generalize IntKind.i64.wrap (b.n * a.d) = y
  cases h1 : (ratio_Check a == 0) <;> cases h2 : (ratio_Check b == 0) <;> simp [bne, h1, h2, Bool.cond_eq_ite]
  split
  · rfl
  · split <;> rfl
end Go.Sx
end
section
namespace Go.Sx
open Go.Proofs
theorem rising3_b (a b c : Int) : expand_rising [a, b, c] = (decide (a ≤ b) && decide (b ≤ c)) := by
  cases h : expand_rising [a, b, c] with
  | true => have := rising3 h; simp [this.1, this.2]
  | false =>
    by_cases h1 : a ≤ b
    · by_cases h2 : b ≤ c
      · rw [rising_mk3 h1 h2] at h; cases h
      · simp [h2]
    · simp [h1]
theorem rising4_b (a b c d : Int) : expand_rising [a, b, c, d] = (decide (a ≤ b) && decide (b ≤ c) && decide (c ≤ d)) := by
  cases h : expand_rising [a, b, c, d] with
  | true => have := rising4 h; simp [this.1, this.2.1, this.2.2]
  | false =>
    by_cases h1 : a ≤ b
    · by_cases h2 : b ≤ c
      · by_cases h3 : c ≤ d
        · rw [rising_mk4 h1 h2 h3] at h; cases h
        · simp [h3]
      · simp [h2]
    · simp [h1]
theorem b_iff {a b : Bool} (h : a = true ↔ b = true) : a = b := by cases a <;> cases b <;> simp_all
theorem share_eq (x : Ratio × Ratio) : expand_share x = ref19_shares x := by
  unfold expand_share ref19_shares
  rw [cmp_eq, ← ratio_eq, ← ratio_eq]
  unfold ref12_Cmp ref12_Both
  rw [valid_eq, valid_eq]
  cases h1 : (ratio_Check x.1 == 0) <;> cases h2 : (ratio_Check x.2 == 0) <;> simp [bne, h1, h2, Bool.cond_eq_ite]
  repeat' split
  all_goals simp
theorem reachX (i : Int) (x : Reach) : expand_reach i x = true ↔ ((i > 0 ∧ 0 ≤ x.up ∧ x.up < i) ∨ (¬ i > 0 ∧ x.up = -1)) ∧ (1 ≤ x.delay ∧ x.delay ≤ 16) ∧ (0 ≤ x.siphon ∧ x.siphon ≤ x.cap ∧ x.cap ≤ 1073741824) ∧ (x.siphon ≤ x.bank ∧ x.bank ≤ 1099511627776) ∧ (0 ≤ x.evap.lo ∧ x.evap.lo ≤ x.evap.hi ∧ x.evap.hi ≤ 1073741824) ∧ ref19_shares x.seep = true := by
  unfold expand_reach expand_index
  rw [share_eq, rising3_b, rising4_b, rising4_b, rising4_b]
  generalize ref19_shares x.seep = q
  by_cases h : i > 0
  · rw [decide_eq_true h]
    simp only [cond_true, Bool.and_eq_true, decide_eq_true_eq]
    cases q <;> simp only [Bool.false_eq_true, and_false, and_true] <;> omega
  · rw [decide_eq_false h]
    simp only [cond_false, Bool.and_eq_true, decide_eq_true_eq, beq_iff_eq]
    cases q <;> simp only [Bool.false_eq_true, and_false, and_true] <;> omega
end Go.Sx
end
section
namespace Go.Sx
open Go.Proofs
theorem m1 {r : Unit ⊕ Unit} {a b : Bool} : (match r with | .inl _ => a | .inr _ => b) = true ↔ (r = .inr () ∧ b = true) ∨ ((∃ y, r = .inl y) ∧ a = true) := by
  cases r with
  | inl y => simp
  | inr y => simp
end Go.Sx
end
section
namespace Go.Sx
open Go.Proofs
def clt (a b : Claim) : Prop := a.hour < b.hour ∨ a.hour = b.hour ∧ (a.rank < b.rank ∨ a.rank = b.rank ∧ (a.right < b.right ∨ a.right = b.right ∧ a.farm < b.farm))
theorem getD_el {α : Type} (l : List α) (d : α) {n : Nat} (h : n < l.length) : l.getD n d = l[n] := by
  rw [List.getD_eq_getElem?_getD, List.getElem?_eq_getElem h]; rfl
theorem clt_trans {a b c : Claim} (h1 : clt a b) (h2 : clt b c) : clt a c := by
  unfold clt at *; omega
theorem first4 (a b c d : Int) : claims_first [a, b, c, d] = if a ≠ 0 then a else if b ≠ 0 then b else if c ≠ 0 then c else d := by
  unfold claims_first
  simp only [List.length_cons, List.length_nil, Nat.zero_add, Nat.reduceAdd, runI, claims_first_l0, List.getD_cons_zero, List.getD_cons_succ]
  by_cases h1 : a = 0 <;> by_cases h2 : b = 0 <;> by_cases h3 : c = 0 <;> by_cases h4 : d = 0 <;> simp [h1, h2, h3, h4, Bool.cond_eq_ite]
theorem claims_lt (a b : Claim) : claims_order a b < 0 ↔ clt a b := by
  unfold claims_order clt
  rw [first4]
  simp only [compare_neg]
  repeat' split
  all_goals (first | omega | skip)
def okC (d : District) (a : Claim) : Bool := (((((((((decide (a.right ≥ 0)) && (decide (a.right < (d.rights.length : Int)))) && (decide (a.farm ≥ 0))) && (decide (a.farm < (d.farms.length : Int)))) && (decide (a.hour ≥ 0))) && (decide (a.hour < d.hours))) && (decide (a.litres ≥ 1))) && (decide (a.litres ≤ 1073741824)))) && ((d.rights.getD a.right.toNat default).kind == 1) && ((d.rights.getD a.right.toNat default).rank == a.rank)
theorem claims_step {d : District} {c : List Claim} {k : Nat} (hk : k < 4096) : claims_Check_l0 d c k () = .inr () ↔ okC d (c.getD k default) = true ∧ (0 < k → clt (c.getD (k - 1) default) (c.getD k default)) := by
  have hw : k > 0 → (IntKind.i64.wrap ((k : Int) - 1)).toNat = k - 1 := fun h => by rw [wrap_pred (by omega) h]; simp
  have hb : ∀ X : Bool, ((bif X then Sum.inl () else Sum.inr ()) : Unit ⊕ Unit) = .inr () ↔ X = false := fun X => by cases X <;> simp
  unfold claims_Check_l0 okC
  rw [hb]
  generalize hq : ((((((((decide ((c.getD k default).right ≥ 0)) && (decide ((c.getD k default).right < (d.rights.length : Int)))) && (decide ((c.getD k default).farm ≥ 0))) && (decide ((c.getD k default).farm < (d.farms.length : Int)))) && (decide ((c.getD k default).hour ≥ 0))) && (decide ((c.getD k default).hour < d.hours))) && (decide ((c.getD k default).litres ≥ 1))) && (decide ((c.getD k default).litres ≤ 1073741824))) = q
  clear hq
  by_cases h0 : 0 < k
  · rw [hw h0, ← claims_lt]
    have hp : decide ((k : Int) > 0) = true := by simp; omega
    rw [hp]
    simp only [Bool.or_eq_false_iff, Bool.and_eq_true, Bool.not_eq_false', Bool.true_and, bne_eq_false_iff_eq, beq_iff_eq, decide_eq_false_iff_not, h0, true_imp_iff]
    generalize claims_order (c.getD (k - 1) default) (c.getD k default) = z
    constructor
    · rintro ⟨⟨⟨h1, h2⟩, h3⟩, h4⟩; exact ⟨⟨⟨h1, h2⟩, h3⟩, by omega⟩
    · rintro ⟨⟨⟨h1, h2⟩, h3⟩, h4⟩; exact ⟨⟨⟨h1, h2⟩, h3⟩, by omega⟩
  · have hp : decide ((k : Int) > 0) = false := by simp; omega
    rw [hp]
    simp only [Bool.or_eq_false_iff, Bool.and_eq_true, Bool.not_eq_false', Bool.false_and, bne_eq_false_iff_eq, beq_iff_eq, h0, false_imp_iff, and_true]
theorem claims_iff (d : District) (c : List Claim) : claims_Check d c = 0 ↔ expand_Check d = 0 ∧ c.length ≤ 4096 ∧ (∀ a ∈ c, okC d a = true) ∧ c.Pairwise clt := by
  rw [claims_split]
  refine and_congr_right fun _ => and_congr_right fun hl => ?_
  constructor
  · intro h
    have hs := fun k hk => (claims_step (by omega)).1 (h k hk)
    refine ⟨fun a ha => ?_, ?_⟩
    · obtain ⟨k, hk, rfl⟩ := List.getElem_of_mem ha
      have := (hs k hk).1
      rwa [getD_el _ _ hk] at this
    · have key : ∀ (k j : Nat), j < k → k < c.length → clt (c.getD j default) (c.getD k default) := by
        intro k
        induction k with
        | zero => intro j h1; omega
        | succ k ih =>
          intro j h1 h2
          have h3 := (hs (k + 1) h2).2 (by omega)
          rw [Nat.add_sub_cancel] at h3
          by_cases e : j = k
          · subst e; exact h3
          · exact clt_trans (ih j (by omega) (by omega)) h3
      rw [List.pairwise_iff_getElem]
      intro i j hi hj hij
      have := key j i hij hj
      rwa [getD_el _ _ hi, getD_el _ _ hj] at this
  · rintro ⟨h1, h2⟩ k hk
    refine (claims_step (by omega)).2 ⟨?_, fun h0 => ?_⟩
    · rw [getD_el _ _ hk]; exact h1 _ (List.getElem_mem _)
    · rw [getD_el _ _ hk, getD_el _ _ (by omega : k - 1 < c.length)]
      exact List.pairwise_iff_getElem.1 h2 _ _ _ _ (by omega)
theorem mget_mupd {κ υ : Type} [DecidableEq κ] (l : List (κ × υ)) (x z : κ) (y : υ) : mget (mupd l x y) z = if z = x then some y else mget l z := by
  induction l with
  | nil => simp [mupd, mget]
  | cons a r ih =>
    obtain ⟨a, b⟩ := a
    unfold mupd
    by_cases h : x = a
    · subst h
      simp only [if_pos]
      unfold mget
      by_cases hz : z = x <;> simp [hz]
    · rw [if_neg h]
      unfold mget
      by_cases hz : z = a
      · subst hz
        rw [if_pos rfl, if_neg (fun e => h e.symm), if_pos rfl]
      · rw [if_neg hz, ih, if_neg hz]
theorem mgetT_mupdT {k : Tag} (l : List (k.T × Int)) (x z : k.T) (y : Int) : mgetT k .int (mupdT k .int l x y) z = if z = x then y else mgetT k .int l z := by
  unfold mgetT mupdT
  rw [mget_mupd]
  by_cases h : z = x <;> simp [h]
def placeC (a : Claim) : CertifyPlace := { hour := a.hour, index := a.farm, outlet := true }
def claimed (p : CertifyPlace) : List Claim → Int
  | [] => 0
  | a :: r => (if p = placeC a then a.litres else 0) + claimed p r
theorem claimed_app (p : CertifyPlace) (a b : List Claim) : claimed p (a ++ b) = claimed p a + claimed p b := by
  induction a with
  | nil => simp [claimed]
  | cons x r ih => simp only [List.cons_append, claimed, ih]; omega
theorem claimed_bound (p : CertifyPlace) (c : List Claim) (h : ∀ a ∈ c, 1 ≤ a.litres ∧ a.litres ≤ 1073741824) : 0 ≤ claimed p c ∧ claimed p c ≤ c.length * 1073741824 := by
  induction c with
  | nil => simp [claimed]
  | cons x r ih =>
    have h1 := ih fun a ha => h a (List.mem_cons_of_mem _ ha)
    have h2 := h x List.mem_cons_self
    simp only [claimed, List.length_cons]
    split <;> omega
theorem claimedM_get {c : List Claim} (hl : c.length ≤ 4096) (h : ∀ a ∈ c, 1 ≤ a.litres ∧ a.litres ≤ 1073741824) (p : CertifyPlace) : mgetT .certifyPlace .int (claimedM c) p = claimed p c := by
  unfold claimedM
  cases hs : runI (certify_table_unmet_1_l0 c) c.length 0 [] with
  | inl x => exact x.elim
  | inr m =>
    have := runI_inv (fun j s => ∀ p, mgetT .certifyPlace .int s p = claimed p (c.take j)) _ _ _ (fun p => by simp [claimed, mgetT, mget, dflt]) (fun j s _ hj hg s' hs' p => by
      have hj : j < c.length := by omega
      unfold certify_table_unmet_1_l0 at hs'
      simp only [Sum.inr.injEq] at hs'
      subst hs'
      rw [getD_el _ _ hj]
      have e : ∀ q, claimed q (c.take (j + 1)) = claimed q (c.take j) + (if q = placeC c[j] then c[j].litres else 0) := fun q => by
        rw [List.take_succ_eq_append_getElem hj, claimed_app]
        simp [claimed]
      have hb := claimed_bound (placeC c[j]) (c.take j) fun a ha => h a (List.mem_of_mem_take ha)
      have hb2 := h c[j] (List.getElem_mem _)
      have hb3 : (c.take j).length ≤ 4096 := by rw [List.length_take]; omega
      rw [mgetT_mupdT, e p]
      have hg2 := hg (placeC c[j])
      unfold placeC at hg2 hb ⊢
      rw [hg2]
      split
      · rename_i e; rw [e, wrapI (by omega) (by omega)]
      · rw [hg]; exact (Int.add_zero _).symm) m hs
    have := this p
    rw [Nat.zero_add, List.take_length] at this
    exact this
theorem okC_litres {d : District} {a : Claim} (h : okC d a = true) : 1 ≤ a.litres ∧ a.litres ≤ 1073741824 := by
  unfold okC at h
  simp only [Bool.and_eq_true, decide_eq_true_eq] at h
  omega
theorem uF_nil {t : CertifyTable} {m : List (CertifyPlace × Int)} {h f : Nat} : uF t m h f = [] ↔ ¬ (mgetT .certifyPlace .int t.litres { hour := (h : Int), index := (f : Int), outlet := true } < mgetT .certifyPlace .int m { hour := (h : Int), index := (f : Int), outlet := true }) := by
  unfold uF
  rw [Bool.cond_eq_ite]
  split <;> simp_all
end Go.Sx
end
section
namespace Go.Sx
open Go.Proofs
theorem down_eq {n d : Int} (hd : 1 ≤ d) (hd2 : d ≤ 1073741824) (h1 : -1152921504606846976 ≤ n) (h2 : n ≤ 1152921504606846976) : ratio_down n d = n / d := by
  unfold ratio_down
  have e1 : Int.tmod (Int.tmod n d + d) d = n % d := by
    have a1 : -d < Int.tmod n d := Int.lt_tmod_of_pos n (by omega)
    rw [Int.tmod_eq_emod_of_nonneg (by omega), Int.add_emod_right]
    rw [Int.tmod_eq_emod]
    split
    · show (n % d - 0) % d = n % d
      rw [Int.sub_zero, Int.emod_emod]
    · have : n % d - (d.natAbs : Int) = n % d + d * (-1) := by omega
      rw [this, Int.add_mul_emod_self_left, Int.emod_emod]
  have a1 : -d < Int.tmod n d := Int.lt_tmod_of_pos n (by omega)
  have a2 : Int.tmod n d < d := Int.tmod_lt_of_pos n (by omega)
  rw [wrapI (by omega : -9223372036854775808 ≤ Int.tmod n d + d) (by omega), e1]
  have b1 := Int.emod_nonneg n (by omega : d ≠ 0)
  have b2 := Int.emod_lt_of_pos n (by omega : 0 < d)
  rw [wrapI (by omega : -9223372036854775808 ≤ n - n % d) (by omega)]
  have e2 : n - n % d = d * (n / d) := by have := Int.mul_ediv_add_emod n d; omega
  rw [e2, Int.mul_tdiv_cancel_left _ (by omega)]
  have c1 : n / d ≤ 1152921504606846976 := by
    have := Int.ediv_le_ediv (by omega : 0 < d) h2
    have := Int.ediv_le_self (b := d) (by omega : (0 : Int) ≤ 1152921504606846976)
    omega
  have c2 : -1152921504606846976 ≤ n / d := by
    rw [Int.le_ediv_iff_mul_le (by omega)]
    have := Int.mul_le_mul_of_nonneg_left (by omega : 1 ≤ d) (by omega : (0 : Int) ≤ 1152921504606846976)
    omega
  exact wrapI (by omega) (by omega)
end Go.Sx
end
section
namespace Go.Sx
open Go.Proofs
structure Share (a : Ratio) : Prop where
  ok : RatioOk a
  n0 : 0 ≤ a.n
  nd : a.n ≤ a.d
end Go.Sx
end
section
namespace Go.Sx
open Go.Proofs
end Go.Sx
end
section
namespace Go.Sx
open Go.Proofs
def osum (p : Order → Bool) : List Order → Int
  | [] => 0
  | x :: r => (bif p x then x.litres else 0) + osum p r
theorem osum_app (p : Order → Bool) (a b : List Order) : osum p (a ++ b) = osum p a + osum p b := by
  induction a with
  | nil => simp [osum]
  | cons x r ih => simp only [List.cons_append, osum, ih]; omega
theorem osum_bound {p : Order → Bool} {l : List Order} (h : ∀ x ∈ l, 1 ≤ x.litres ∧ x.litres ≤ 1073741824) : 0 ≤ osum p l ∧ osum p l ≤ l.length * 1073741824 := by
  induction l with
  | nil => simp [osum]
  | cons x r ih =>
    have h1 := ih fun a ha => h a (List.mem_cons_of_mem _ ha)
    have h2 := h x List.mem_cons_self
    simp only [osum, List.length_cons]
    cases p x <;> simp only [cond_true, cond_false] <;> omega
theorem osum_none {p : Order → Bool} {l : List Order} (h : ∀ x ∈ l, p x = false) : osum p l = 0 := by
  induction l with
  | nil => rfl
  | cons x r ih =>
    simp only [osum]
    rw [h x List.mem_cons_self, ih fun y hy => h y (List.mem_cons_of_mem _ hy)]
    rfl
theorem osum_congr {p q : Order → Bool} {l : List Order} (h : ∀ x ∈ l, p x = q x) : osum p l = osum q l := by
  induction l with
  | nil => rfl
  | cons x r ih =>
    simp only [osum]
    rw [h x List.mem_cons_self, ih fun y hy => h y (List.mem_cons_of_mem _ hy)]
theorem osum_add {p q r : Order → Bool} {l : List Order} (h : ∀ x ∈ l, (r x = (p x || q x)) ∧ (p x && q x) = false) : osum p l + osum q l = osum r l := by
  induction l with
  | nil => rfl
  | cons x t ih =>
    simp only [osum]
    have h1 := h x List.mem_cons_self
    have h2 := ih fun y hy => h y (List.mem_cons_of_mem _ hy)
    rw [h1.1]
    cases hp : p x <;> cases hq : q x <;> simp only [hp, hq, Bool.or_true, Bool.or_false, Bool.and_self, cond_true, cond_false] at h1 ⊢
    all_goals (first | omega | (simp at h1))
theorem osum_one {p : Order → Bool} {l : List Order} {j : Nat} (hj : j < l.length) (h : p l[j] = true) (hn : ∀ i (hi : i < l.length), i ≠ j → p l[i] = false) : osum p l = l[j].litres := by
  have e : l = l.take j ++ l[j] :: l.drop (j + 1) := by rw [← List.drop_eq_getElem_cons hj, List.take_append_drop]
  conv => lhs; rw [e, osum_app]
  rw [osum_none fun x hx => ?_]
  · simp only [osum, h, cond_true]
    rw [osum_none fun x hx => ?_]
    · omega
    · obtain ⟨i, hi, rfl⟩ := List.getElem_of_mem hx
      rw [List.length_drop] at hi
      rw [List.getElem_drop]
      exact hn _ _ (by omega)
  · obtain ⟨i, hi, rfl⟩ := List.getElem_of_mem hx
    rw [List.length_take] at hi
    rw [List.getElem_take]
    exact hn _ _ (by omega)
def gateP (reach a b : Int) (x : Order) : Bool := (!x.outlet && x.index == reach) && decide (x.hour ≥ a) && decide (x.hour ≤ b)
def drawP (d : District) (reach hour : Int) (x : Order) : Bool := (x.hour == hour) && ((x.outlet && (d.farms.getD x.index.toNat default).reach == reach) || (!x.outlet && (d.reaches.getD x.index.toNat default).up == reach))
def outP (farm hour : Int) (x : Order) : Bool := (x.outlet && x.index == farm) && x.hour == hour
theorem Orders1.lit {d : District} {l : List Order} (h : Orders1 d l) : ∀ x ∈ l, 1 ≤ x.litres ∧ x.litres ≤ 1073741824 := fun x hx => by
  obtain ⟨k, hk, rfl⟩ := List.getElem_of_mem hx
  have := h.one k hk
  rw [getD_el _ _ hk] at this
  exact ⟨this.litres1, this.litres⟩
theorem Orders1.uniq {d : District} {l : List Order} (h : Orders1 d l) {i j : Nat} (hi : i < l.length) (hj : j < l.length) (e1 : l[i].hour = l[j].hour) (e2 : l[i].index = l[j].index) (e3 : l[i].outlet = l[j].outlet) : i = j := by
  have key : ∀ a b (ha : a < l.length) (hb : b < l.length), a < b → l[a].hour = l[b].hour → l[a].index = l[b].index → l[a].outlet = l[b].outlet → False := fun a b ha hb hab e1 e2 e3 => by
    have := h.lt b a hab hb
    rw [getD_el _ _ ha, getD_el _ _ hb] at this
    unfold olt oval at this
    rw [e1, e2, e3] at this
    omega
  rcases Nat.lt_trichotomy i j with h1 | h1 | h1
  · exact (key i j hi hj h1 e1 e2 e3).elim
  · exact h1
  · exact (key j i hj hi h1 e1.symm e2.symm e3.symm).elim
theorem getDset {α : Type} (l : List α) (d r : α) (i k : Nat) (hi : i < l.length) : (l.set i r).getD k d = if k = i then r else l.getD k d := by
  rw [List.getD_eq_getElem?_getD, List.getElem?_set, List.getD_eq_getElem?_getD]
  by_cases h : k = i
  · subst h; simp [hi]
  · rw [if_neg (fun e => h e.symm), if_neg h]
def cell (g : List (List Int)) (i j : Nat) : Int := (g.getD i []).getD j 0
theorem cell_set2 {g : List (List Int)} {n m : Nat} (hg : Grid g n m) {i j : Nat} (hi : i < n) (hj : j < m) (v : Int) (a b : Nat) : cell (g.set i ((g.getD i []).set j v)) a b = if a = i ∧ b = j then v else cell g a b := by
  unfold cell
  have h1 : i < g.length := by rw [hg.1]; exact hi
  rw [getDset _ _ _ _ _ h1]
  by_cases ha : a = i
  · subst ha
    rw [if_pos rfl, getDset _ _ _ _ _ (by rw [hg.row hi]; exact hj)]
    by_cases hb : b = j <;> simp [hb]
  · rw [if_neg ha, if_neg (fun e => ha e.1)]
end Go.Sx
end
section
namespace Go.Sx
open Go.Proofs
def placeP (h i : Int) (o : Bool) (x : Order) : Bool := (x.hour == h && x.index == i) && x.outlet == o
structure T1 (d : District) (pre : List Order) (s : List (CertifyPlace × Int) × List (List Int) × List (List Int)) : Prop where
  lit : ∀ h i o, mgetT .certifyPlace .int s.1 { hour := h, index := i, outlet := o } = osum (placeP h i o) pre
  gd : Grid s.2.1 d.reaches.length d.hours.toNat
  gs : Grid s.2.2 d.reaches.length (d.hours + 1).toNat
  drawn : ∀ r h, r < d.reaches.length → h < d.hours.toNat → cell s.2.1 r h = osum (drawP d r h) pre
  sums : ∀ r t, r < d.reaches.length → t < (d.hours + 1).toNat → cell s.2.2 r t = osum (gateP r ((t : Int) - 1) ((t : Int) - 1)) pre
theorem osum_take {p : Order → Bool} {l : List Order} {j : Nat} (hj : j < l.length) : osum p (l.take (j + 1)) = osum p (l.take j) + (bif p l[j] then l[j].litres else 0) := by
  rw [List.take_succ_eq_append_getElem hj, osum_app]
  simp [osum]
theorem take_none {d : District} {l : List Order} (ho : Orders1 d l) {j : Nat} (hj : j < l.length) {p : Order → Bool} (hp : ∀ x, p x = true → x.hour = l[j].hour ∧ x.index = l[j].index ∧ x.outlet = l[j].outlet) : osum p (l.take j) = 0 :=
  osum_none fun x hx => by
    obtain ⟨i, hi, rfl⟩ := List.getElem_of_mem hx
    rw [List.length_take] at hi
    rw [List.getElem_take]
    cases h : p l[i] with
    | false => rfl
    | true =>
      obtain ⟨e1, e2, e3⟩ := hp _ h
      have := ho.uniq (by omega) hj e1 e2 e3
      omega
theorem take_le {d : District} {l : List Order} (ho : Orders1 d l) (p : Order → Bool) (j : Nat) : 0 ≤ osum p (l.take j) ∧ osum p (l.take j) ≤ 4398046511104 := by
  have hb := osum_bound (p := p) fun a ha => ho.lit a (List.mem_of_mem_take (i := j) ha)
  have hl := ho.len
  have hb3 : (l.take j).length ≤ 4096 := by rw [List.length_take]; omega
  omega
theorem nat_beq {a : Nat} {b : Int} (hb : 0 ≤ b) : ((b == (a : Int)) = true) ↔ a = b.toNat := by
  rw [beq_iff_eq]; omega
theorem T1_step {d : District} {l : List Order} (ho : Orders1 d l) {j : Nat} (hj : j < l.length) {s s' : List (CertifyPlace × Int) × List (List Int) × List (List Int)} (h : T1 d (l.take j) s) (hs : certify_read_l1 d l j s = .inr s') : T1 d (l.take (j + 1)) s' := by
  have hR := ho.right
  have a1 := hR.hours1
  have a2 := hR.hours
  have hx := ho.one j hj
  rw [getD_el _ _ hj] at hx
  have hgd := (read1_step ho j hj s h.gd h.gs).2 s' hs
  have x0 := hx.hour0
  have x1 := hx.hour
  have x2 := hx.index0
  have x3 := hx.litres1
  have x4 := hx.litres
  have hlit : s'.1 = mupdT .certifyPlace .int s.1 { hour := l[j].hour, index := l[j].index, outlet := l[j].outlet } l[j].litres := by
    unfold certify_read_l1 at hs
    rw [getD_el _ _ hj] at hs
    simp only [Bool.cond_eq_ite] at hs
    repeat' split at hs
    all_goals (simp only [Sum.inr.injEq] at hs; subst hs; rfl)
  refine ⟨fun hh i o => ?_, hgd.1, hgd.2, fun r t hr ht => ?_, fun r t hr ht => ?_⟩
  · rw [hlit, mgetT_mupdT, osum_take hj, h.lit]
    by_cases hp : ({ hour := hh, index := i, outlet := o } : CertifyPlace) = { hour := l[j].hour, index := l[j].index, outlet := l[j].outlet }
    · rw [if_pos hp]
      simp only [CertifyPlace.mk.injEq] at hp
      obtain ⟨e1, e2, e3⟩ := hp
      have hpp : placeP hh i o l[j] = true := by unfold placeP; rw [e1, e2, e3]; simp
      rw [hpp, take_none ho hj fun x hx => ?_]
      · exact (Int.zero_add _).symm
      · unfold placeP at hx
        simp only [Bool.and_eq_true, beq_iff_eq] at hx
        exact ⟨hx.1.1.trans e1, hx.1.2.trans e2, hx.2.trans e3⟩
    · rw [if_neg hp]
      have hpp : placeP hh i o l[j] = false := by
        cases hq : placeP hh i o l[j] with
        | false => rfl
        | true =>
          unfold placeP at hq
          simp only [Bool.and_eq_true, beq_iff_eq] at hq
          exact absurd (by rw [hq.1.1, hq.1.2, hq.2]) hp
      rw [hpp]
      exact (Int.add_zero _).symm
  · have hb := take_le ho (drawP d r t) j
    have hold := h.drawn r t hr ht
    rw [osum_take hj]
    have hd : drawP d r t l[j] = ((l[j].hour == (t : Int)) && ((l[j].outlet && (d.farms.getD l[j].index.toNat default).reach == (r : Int)) || (!l[j].outlet && (d.reaches.getD l[j].index.toNat default).up == (r : Int)))) := rfl
    unfold certify_read_l1 at hs
    rw [getD_el _ _ hj] at hs
    have key : ∀ (at_ : Int), 0 ≤ at_ → at_ < (d.reaches.length : Int) → (drawP d r t l[j] = ((l[j].hour == (t : Int)) && (at_ == (r : Int)))) →
        cell (s.2.1.set at_.toNat ((s.2.1.getD at_.toNat []).set l[j].hour.toNat (IntKind.i64.wrap (((s.2.1.getD at_.toNat []).getD l[j].hour.toNat 0) + l[j].litres)))) r t = osum (drawP d r t) (l.take j) + (bif drawP d r t l[j] then l[j].litres else 0) := fun at_ q0 q1 q2 => by
      rw [cell_set2 h.gd (by omega) (by omega)]
      by_cases hc : r = at_.toNat ∧ t = l[j].hour.toNat
      · obtain ⟨rfl, rfl⟩ := hc
        have : drawP d at_.toNat l[j].hour.toNat l[j] = true := by rw [q2, Bool.and_eq_true, nat_beq x0, nat_beq q0]; exact ⟨rfl, rfl⟩
        rw [if_pos ⟨rfl, rfl⟩, this]
        have hold : (s.2.1.getD at_.toNat []).getD l[j].hour.toNat 0 = _ := hold
        rw [hold, wrapI (by omega) (by omega)]
        rfl
      · rw [if_neg hc, hold]
        have : drawP d r t l[j] = false := by
          cases hq : drawP d r t l[j] with
          | false => rfl
          | true =>
            rw [hq] at q2
            have := q2.symm
            rw [Bool.and_eq_true, nat_beq x0, nat_beq q0] at this
            exact absurd ⟨this.2, this.1⟩ hc
        rw [this]
        exact (Int.add_zero _).symm
    cases ho1 : l[j].outlet with
    | true =>
      have hf := hR.farm l[j].index.toNat (by have := hx.farm ho1; omega)
      rw [ho1, decide_eq_true hf.1] at hs
      simp only [cond_true, Sum.inr.injEq] at hs
      subst hs
      exact key _ hf.1 hf.2 (by rw [hd, ho1]; simp)
    | false =>
      have hf := hR.reachI hx.index0 (hx.reach ho1)
      rw [ho1] at hs
      simp only [cond_false] at hs
      by_cases hu : (d.reaches.getD l[j].index.toNat default).up ≥ 0
      · rw [decide_eq_true hu] at hs
        simp only [cond_true, Sum.inr.injEq] at hs
        subst hs
        have := hf.up
        have := hx.reach ho1
        exact key _ hu (by omega) (by rw [hd, ho1]; simp)
      · rw [decide_eq_false hu] at hs
        simp only [cond_false, Sum.inr.injEq] at hs
        subst hs
        have : drawP d r t l[j] = false := by
          rw [hd, ho1]
          have : ((d.reaches.getD l[j].index.toNat default).up == (r : Int)) = false := by rw [beq_eq_false_iff_ne]; omega
          rw [this]; simp
        rw [this]
        show cell s.2.1 r t = _
        rw [hold]
        exact (Int.add_zero _).symm
  · have hold := h.sums r t hr ht
    rw [osum_take hj]
    unfold certify_read_l1 at hs
    rw [getD_el _ _ hj] at hs
    cases ho1 : l[j].outlet with
    | true =>
      have e : s'.2.2 = s.2.2 := by
        rw [ho1] at hs
        simp only [cond_true] at hs
        simp only [Bool.cond_eq_ite] at hs
        split at hs <;> (simp only [Sum.inr.injEq] at hs; subst hs; rfl)
      have : gateP r ((t : Int) - 1) ((t : Int) - 1) l[j] = false := by unfold gateP; rw [ho1]; rfl
      rw [e, this, hold]
      exact (Int.add_zero _).symm
    | false =>
      have hxr := hx.reach ho1
      have hw : IntKind.i64.wrap (l[j].hour + 1) = l[j].hour + 1 := wrapI (by omega) (by omega)
      have e : s'.2.2 = s.2.2.set l[j].index.toNat ((s.2.2.getD l[j].index.toNat []).set (l[j].hour + 1).toNat l[j].litres) := by
        rw [ho1, hw] at hs
        simp only [cond_false] at hs
        simp only [Bool.cond_eq_ite] at hs
        split at hs <;> (simp only [Sum.inr.injEq] at hs; subst hs; rfl)
      rw [e, cell_set2 h.gs (by omega) (by omega)]
      by_cases hc : r = l[j].index.toNat ∧ t = (l[j].hour + 1).toNat
      · obtain ⟨rfl, rfl⟩ := hc
        rw [if_pos ⟨rfl, rfl⟩]
        have e2 : (((l[j].hour + 1).toNat : Int) - 1) = l[j].hour := by omega
        have e3 : ((l[j].index.toNat : Nat) : Int) = l[j].index := by omega
        rw [e2, e3]
        have : gateP l[j].index l[j].hour l[j].hour l[j] = true := by unfold gateP; rw [ho1]; simp
        rw [this, take_none ho hj fun x hx => ?_]
        · exact (Int.zero_add _).symm
        · unfold gateP at hx
          simp only [Bool.and_eq_true, beq_iff_eq, decide_eq_true_eq, Bool.not_eq_true'] at hx
          exact ⟨by omega, hx.1.1.2, by rw [hx.1.1.1, ho1]⟩
      · rw [if_neg hc, hold]
        have : gateP r ((t : Int) - 1) ((t : Int) - 1) l[j] = false := by
          cases hq : gateP r ((t : Int) - 1) ((t : Int) - 1) l[j] with
          | false => rfl
          | true =>
            unfold gateP at hq
            simp only [Bool.and_eq_true, beq_iff_eq, decide_eq_true_eq, Bool.not_eq_true'] at hq
            exact absurd ⟨by omega, by omega⟩ hc
        rw [this]
        exact (Int.add_zero _).symm
end Go.Sx
end
section
namespace Go.Sx
open Go.Proofs
theorem gate_split {d : District} {l : List Order} (ho : Orders1 d l) (r : Int) (t : Nat) : osum (gateP r 0 ((t : Int) - 1)) l + osum (gateP r t t) l = osum (gateP r 0 t) l :=
  osum_add fun x hx => by
    unfold gateP
    obtain ⟨k, hk, rfl⟩ := List.getElem_of_mem hx
    have h0 := (ho.one k hk).hour0
    rw [getD_el _ _ hk] at h0
    cases (!l[k].outlet && l[k].index == r)
    · simp
    · simp only [Bool.true_and]
      constructor
      · refine b_iff ?_
        simp only [Bool.or_eq_true, Bool.and_eq_true, decide_eq_true_eq]; omega
      · rw [Bool.eq_false_iff]
        simp only [ne_eq, Bool.and_eq_true, decide_eq_true_eq]; omega
theorem all_le {d : District} {l : List Order} (ho : Orders1 d l) (p : Order → Bool) : 0 ≤ osum p l ∧ osum p l ≤ 4398046511104 := by
  have := take_le ho p l.length
  rwa [List.take_length] at this
theorem sums_row {d : District} {l : List Order} (ho : Orders1 d l) {k : Nat} (hk : k < d.reaches.length) {g g' : List (List Int)} (hg : Grid g d.reaches.length (d.hours + 1).toNat)
    (hrow : ∀ t, t < (d.hours + 1).toNat → cell g k t = osum (gateP k ((t : Int) - 1) ((t : Int) - 1)) l) (hr : runI (certify_read_l3 d k) d.hours.toNat 0 g = .inr g') :
    Grid g' d.reaches.length (d.hours + 1).toNat ∧ (∀ t, t < (d.hours + 1).toNat → cell g' k t = osum (gateP k 0 ((t : Int) - 1)) l) ∧ ∀ a t, a ≠ k → cell g' a t = cell g a t := by
  have hR := ho.right
  have a1 := hR.hours1
  have a2 := hR.hours
  have := runI_inv (fun j s => Grid s d.reaches.length (d.hours + 1).toNat ∧ (∀ t, t < (d.hours + 1).toNat → cell s k t = if t ≤ j then osum (gateP k 0 ((t : Int) - 1)) l else osum (gateP k ((t : Int) - 1) ((t : Int) - 1)) l) ∧ ∀ a t, a ≠ k → cell s a t = cell g a t) _ _ _
    ⟨hg, fun t ht => by
      rw [hrow t ht]
      by_cases h : t ≤ 0
      · have : t = 0 := by omega
        subst this
        rw [if_pos h]
        rw [osum_none fun x hx => ?_, osum_none fun x hx => ?_]
        · unfold gateP
          rw [Bool.eq_false_iff]
          simp only [ne_eq, Bool.and_eq_true, decide_eq_true_eq]; omega
        · obtain ⟨i, hi, rfl⟩ := List.getElem_of_mem hx
          have h0 := (ho.one i hi).hour0
          rw [getD_el _ _ hi] at h0
          unfold gateP
          rw [Bool.eq_false_iff]
          simp only [ne_eq, Bool.and_eq_true, decide_eq_true_eq]; omega
      · rw [if_neg h], fun _ _ _ => rfl⟩
    (fun j s _ hj ⟨i1, i2, i3⟩ s' hs' => by
      simp only [certify_read_l3, Sum.inr.injEq] at hs'
      have hw : IntKind.i64.wrap ((j : Int) + 1) = (j : Int) + 1 := wrapI (by omega) (by omega)
      rw [hw] at hs'
      have e1 : ((j : Int) + 1).toNat = j + 1 := by omega
      rw [e1] at hs'
      have c1 := i2 (j + 1) (by omega)
      have c2 := i2 j (by omega)
      rw [if_neg (by omega)] at c1
      rw [if_pos (by omega)] at c2
      have e2 : (((j + 1 : Nat) : Int) - 1) = (j : Int) := by omega
      rw [e2] at c1
      have b1 := all_le ho (gateP k j j)
      have b2 := all_le ho (gateP k 0 ((j : Int) - 1))
      have hc1 : (s.getD k []).getD (j + 1) 0 = osum (gateP k j j) l := c1
      have hc2 : (s.getD k []).getD j 0 = osum (gateP k 0 ((j : Int) - 1)) l := c2
      rw [hc1, hc2, wrapI (by omega) (by omega)] at hs'
      have hsp := gate_split ho k j
      subst hs'
      refine ⟨i1.set2, fun t ht => ?_, fun a t ha => ?_⟩
      · rw [cell_set2 i1 hk (by omega)]
        by_cases h : k = k ∧ t = j + 1
        · rw [if_pos h, if_pos (by omega), h.2, e2]; omega
        · rw [if_neg h, i2 t ht]
          have : t ≠ j + 1 := fun e => h ⟨rfl, e⟩
          by_cases h2 : t ≤ j
          · rw [if_pos h2, if_pos (by omega)]
          · rw [if_neg h2, if_neg (by omega)]
      · rw [cell_set2 i1 hk (by omega), if_neg (fun e => ha e.1)]
        exact i3 a t ha) g' hr
  rw [Nat.zero_add] at this
  refine ⟨this.1, fun t ht => ?_, this.2.2⟩
  rw [this.2.1 t ht, if_pos (by omega)]
structure Table2 (d : District) (l : List Order) (t : CertifyTable) : Prop where
  lit : ∀ h i o, mgetT .certifyPlace .int t.litres { hour := h, index := i, outlet := o } = osum (placeP h i o) l
  drawn : ∀ r h, r < d.reaches.length → h < d.hours.toNat → cell t.drawn r h = osum (drawP d r h) l
  sums : ∀ r j, r < d.reaches.length → j < (d.hours + 1).toNat → cell t.sums r j = osum (gateP r 0 ((j : Int) - 1)) l
theorem zero_grid (n m : Nat) (i j : Nat) (hi : i < n) : ∀ (g : List (List Int)), (∀ k, k < n → g.getD k [] = List.replicate m 0) → cell g i j = 0 := fun g h => by
  unfold cell
  rw [h i hi, List.getD_eq_getElem?_getD, List.getElem?_replicate]
  split <;> rfl
theorem table2 {d : District} {l : List Order} (h : (certify_read d l).2 = 0) : Table2 d l (certify_read d l).1 := by
  have ht := read_table (d := d) (l := l) (by simp [h])
  have ho := ht.ords
  have hR := ho.right
  have a1 := hR.hours1
  have a2 := hR.hours
  unfold certify_read at h ⊢
  cases h1 : (decide (IntKind.i64.wrap ((d.reaches.length : Int) * d.hours) > 1024) || decide ((l.length : Int) > 4096)) with
  | true => rw [h1] at h; simp at h
  | false =>
    rw [h1] at h
    simp only [cond_false] at h ⊢
    cases h2 : (routing_Check d l != 0) with
    | true => rw [h2] at h; simp at h
    | false =>
      simp only [cond_false]
      have hw : IntKind.i64.wrap (d.hours + 1) = d.hours + 1 := wrapI (by omega) (by omega)
      cases hs0 : runI (certify_read_l0 d) d.reaches.length 0 ([], []) with
      | inl x => exact x.elim
      | inr s0 =>
        have hg0 := runI_inv (fun j s => (s.1.length = j ∧ ∀ k, k < j → s.1.getD k [] = List.replicate (d.hours + 1).toNat 0) ∧ (s.2.length = j ∧ ∀ k, k < j → s.2.getD k [] = List.replicate d.hours.toNat 0)) _ _ _ ⟨⟨rfl, fun k hk => by omega⟩, ⟨rfl, fun k hk => by omega⟩⟩ (fun j s _ hj hg s' hs => by
          simp only [certify_read_l0, Sum.inr.injEq] at hs
          subst hs
          simp only [hw]
          refine ⟨⟨by simp [hg.1.1], fun k hk => ?_⟩, ⟨by simp [hg.2.1], fun k hk => ?_⟩⟩
          · rw [List.getD_eq_getElem?_getD, List.getElem?_append]
            by_cases hkj : k < j
            · rw [if_pos (by omega), ← List.getD_eq_getElem?_getD]; exact hg.1.2 k hkj
            · rw [if_neg (by omega)]
              have : k - s.1.length = 0 := by omega
              rw [this]; rfl
          · rw [List.getD_eq_getElem?_getD, List.getElem?_append]
            by_cases hkj : k < j
            · rw [if_pos (by omega), ← List.getD_eq_getElem?_getD]; exact hg.2.2 k hkj
            · rw [if_neg (by omega)]
              have : k - s.2.length = 0 := by omega
              rw [this]; rfl) s0 hs0
        simp only [Nat.zero_add] at hg0
        dsimp only
        cases hs1 : runI (certify_read_l1 d l) l.length 0 ([], s0.2, s0.1) with
        | inl x => exact x.elim
        | inr s1 =>
          have hT0 : T1 d (l.take 0) ([], s0.2, s0.1) := by
            refine ⟨fun _ _ _ => by simp [osum, mgetT, mget, dflt], ⟨hg0.2.1, fun i hi => by rw [hg0.2.2 i hi]; simp⟩, ⟨hg0.1.1, fun i hi => by rw [hg0.1.2 i hi]; simp⟩, fun r h hr _ => ?_, fun r t hr _ => ?_⟩
            · simp only [List.take_zero, osum]; exact zero_grid _ _ r h hr _ hg0.2.2
            · simp only [List.take_zero, osum]; exact zero_grid _ _ r t hr _ hg0.1.2
          have hT := runI_inv (fun j s => T1 d (l.take j) s) _ _ _ hT0 (fun j s _ hj hg s' hs' => T1_step ho (by omega) hg hs') s1 hs1
          rw [Nat.zero_add, List.take_length] at hT
          dsimp only
          cases hs2 : runI (certify_read_l2 d s1) s1.2.2.length 0 s1.2.2 with
          | inl x => exact x.elim
          | inr s2 =>
            have hlen := hT.gs.1
            have h3 := runI_inv (fun j s => Grid s d.reaches.length (d.hours + 1).toNat ∧ (∀ a t, a < j → a < d.reaches.length → t < (d.hours + 1).toNat → cell s a t = osum (gateP a 0 ((t : Int) - 1)) l) ∧ ∀ a t, j ≤ a → cell s a t = cell s1.2.2 a t) _ _ _
              ⟨hT.gs, fun a t ha => by omega, fun _ _ _ => rfl⟩ (fun j s _ hj ⟨i1, i2, i3⟩ s' hs' => by
                unfold certify_read_l2 at hs'
                split at hs'
                · rename_i x _; exact x.elim
                · rename_i s3 h3
                  simp only [Sum.inr.injEq] at hs'
                  subst hs'
                  obtain ⟨q1, q2, q3⟩ := sums_row ho (by omega) i1 (fun t ht => by rw [i3 j t (Nat.le_refl _)]; exact hT.sums j t (by omega) ht) h3
                  refine ⟨q1, fun a t ha ha2 ht => ?_, fun a t ha => ?_⟩
                  · by_cases e : a = j
                    · subst e; exact q2 t ht
                    · rw [q3 a t e]; exact i2 a t (by omega) ha2 ht
                  · rw [q3 a t (by omega)]; exact i3 a t (by omega)) s2 hs2
            rw [Nat.zero_add] at h3
            exact ⟨hT.lit, hT.drawn, fun r j hr hj => h3.2.1 r j (by omega) hr hj⟩
end Go.Sx
end
section
namespace Go.Sx
open Go.Proofs
structure Rat (a : Ratio) : Prop where
  d1 : 1 ≤ a.d
  d : a.d ≤ 1073741824
  n0 : -1073741824 ≤ a.n
  n : a.n ≤ 1073741824
theorem rat_ok {a : Ratio} (h : ratio_Check a = 0) : Rat a := by
  unfold ratio_Check at h
  rw [Bool.cond_eq_ite] at h
  split at h
  · cases h
  · rename_i h1
    simp only [Bool.or_eq_true, decide_eq_true_eq, not_or] at h1
    constructor <;> omega
theorem reach_seep {i : Int} {x : Reach} (h : expand_reach i x = true) : expand_share x.seep = true ∧ 0 ≤ x.evap.lo ∧ x.evap.lo ≤ x.evap.hi ∧ x.evap.hi ≤ 1073741824 := by
  unfold expand_reach at h
  cases hd : decide (i > 0) <;> rw [hd] at h <;> simp only [cond_true, cond_false, Bool.and_eq_true] at h
  all_goals
    have r1 := rising4 h.1.2
    exact ⟨h.2, r1.1, r1.2.1, r1.2.2⟩
theorem mulB {a b : Int} (h0 : -1073741824 ≤ a) (h1 : a ≤ 1073741824) (h2 : 0 ≤ b) (h3 : b ≤ 1073741824) : -1152921504606846976 ≤ a * b ∧ a * b ≤ 1152921504606846976 := by
  have h4 := Int.mul_le_mul_of_nonneg_right h0 h2
  have h5 := Int.mul_le_mul_of_nonneg_right h1 h2
  have h6 : -1073741824 * b = -(1073741824 * b) := by omega
  omega
structure Seep (x : Ratio × Ratio) : Prop where
  r1 : Rat x.1
  r2 : Rat x.2
  c1 : ratio_Check x.1 = 0
  c2 : ratio_Check x.2 = 0
  cmp : ratio_Cmp x.1 x.2 = ((ratio_Cmp x.1 x.2).1, 0) ∧ (ratio_Cmp x.1 x.2).1 ≤ 0
  le : x.1.n * x.2.d ≤ x.2.n * x.1.d
  n1 : 0 ≤ x.1.n
  n2 : x.2.n ≤ x.2.d
  m1 : x.1.n ≤ x.1.d
  m2 : 0 ≤ x.2.n
theorem seep_ok {x : Ratio × Ratio} (h : expand_share x = true) : Seep x := by
  unfold expand_share at h
  simp only [Bool.and_eq_true, beq_iff_eq, decide_eq_true_eq] at h
  obtain ⟨⟨⟨h1, h2⟩, h3⟩, h4⟩ := h
  have hc : ratio_Check x.1 = 0 ∧ ratio_Check x.2 = 0 := by
    unfold ratio_Cmp at h1
    rw [Bool.cond_eq_ite] at h1
    split at h1
    · cases h1
    · rename_i hq
      simp only [Bool.or_eq_true, bne_iff_ne, ne_eq, not_or, Decidable.not_not] at hq
      exact hq
  have r1 := rat_ok hc.1
  have r2 := rat_ok hc.2
  have b1 := mulB r1.n0 r1.n (by have := r2.d1; omega) r2.d
  have b2 := mulB r2.n0 r2.n (by have := r1.d1; omega) r1.d
  have hle : x.1.n * x.2.d ≤ x.2.n * x.1.d := by
    unfold ratio_Cmp at h3
    rw [hc.1, hc.2] at h3
    simp only [bne_self_eq_false, Bool.or_self, cond_false] at h3
    rw [wrapI (by omega) (by omega), wrapI (by omega) (by omega), compare_neg] at h3
    split at h3
    · omega
    · split at h3
      · omega
      · omega
  have e1 := r1.d1
  have e2 := r2.d1
  have m1 : x.1.n ≤ x.1.d := by
    have := Int.mul_le_mul_of_nonneg_right h4 (by omega : 0 ≤ x.1.d)
    have hh : x.1.n * x.2.d ≤ x.1.d * x.2.d := by rw [Int.mul_comm x.1.d]; omega
    exact Int.le_of_mul_le_mul_right hh (by omega)
  have m2 : 0 ≤ x.2.n := by
    have := Int.mul_nonneg h2 (by omega : 0 ≤ x.2.d)
    have hh : 0 * x.1.d ≤ x.2.n * x.1.d := by rw [Int.zero_mul]; omega
    exact Int.le_of_mul_le_mul_right hh (by omega)
  exact ⟨r1, r2, hc.1, hc.2, ⟨by rw [← h1], h3⟩, hle, h2, h4, m1, m2⟩
theorem shares_ok {x : Ratio × Ratio} (h : Seep x) : losses_shares x = true := by
  unfold losses_shares losses_share losses_in
  have := h.n1; have := h.n2; have := h.m1; have := h.m2
  rw [h.c1, h.c2, decide_eq_true (by omega : x.1.n ≥ 0), decide_eq_true (by omega : x.1.n ≤ x.1.d), decide_eq_true (by omega : x.2.n ≥ 0), decide_eq_true (by omega : x.2.n ≤ x.2.d)]
  have h2 := congrArg Prod.snd h.cmp.1
  dsimp only at h2
  rw [h2, decide_eq_true h.cmp.2]
  rfl
theorem times_ok {a : Ratio} (h : Rat a) (hc : ratio_Check a = 0) (h0 : 0 ≤ a.n) {v : Int} (v0 : 0 ≤ v) (v1 : v ≤ 1073741824) : (ratio_Times a v).1 = a.n * v / a.d ∧ (ratio_Times a v).2.1 = -(-(a.n * v) / a.d) ∧ -(-(a.n * v) / a.d) ≤ 1152921504606846976 ∧ 0 ≤ -(-(a.n * v) / a.d) := by
  have := h.d1; have := h.d; have := h.n
  have hm := mulB (by omega) h.n v0 v1
  have hm0 := Int.mul_nonneg h0 v0
  unfold ratio_Times
  have e1 : (decide (v < (-1073741824)) || decide (v > 1073741824)) = false := by simp only [Bool.or_eq_false_iff, decide_eq_false_iff_not]; omega
  rw [hc, e1]
  simp only [bne_self_eq_false, cond_false]
  rw [wrapI (by omega : -9223372036854775808 ≤ 0 - a.n) (by omega)]
  have e2 : (0 - a.n) * v = -(a.n * v) := by rw [Int.sub_mul]; omega
  rw [e2, wrapI (by omega : -9223372036854775808 ≤ -(a.n * v)) (by omega), wrapI (by omega : -9223372036854775808 ≤ a.n * v) (by omega)]
  rw [down_eq h.d1 h.d (by omega) (by omega), down_eq h.d1 h.d (by omega) (by omega)]
  have c1 : -1152921504606846976 ≤ -(a.n * v) / a.d := by
    rw [Int.le_ediv_iff_mul_le (by omega)]
    have := Int.mul_le_mul_of_nonneg_left (by omega : 1 ≤ a.d) (by omega : (0 : Int) ≤ 1152921504606846976)
    omega
  have c2 : -(a.n * v) / a.d ≤ 0 := by
    have := Int.ediv_le_ediv (by omega : 0 < a.d) (by omega : -(a.n * v) ≤ 0)
    simpa using this
  rw [wrapI (by omega) (by omega)]
  exact ⟨rfl, by omega, by omega, by omega⟩
theorem lost_ok {i : Int} {x : Reach} (h : expand_reach i x = true) {v : Int} (v0 : 0 ≤ v) (v1 : v ≤ 1073741824) : losses_valid x v = 0 ∧ 0 ≤ (losses_lost x v).lo ∧ (losses_lost x v).lo ≤ (losses_lost x v).hi ∧ (losses_lost x v).hi ≤ v := by
  obtain ⟨h1, h2, h3, h4⟩ := reach_seep h
  have hs := seep_ok h1
  refine ⟨?_, ?_⟩
  · unfold losses_valid losses_ordered losses_in
    rw [shares_ok hs, decide_eq_true (by omega : x.evap.lo ≥ 0), decide_eq_true h3, decide_eq_true h4, decide_eq_true (by omega : v ≥ 0), decide_eq_true v1]
    rfl
  · unfold losses_lost
    cases hv : (v == 0) with
    | true =>
      simp only [beq_iff_eq] at hv
      simp only [cond_true]; omega
    | false =>
      simp only [beq_eq_false_iff_ne, ne_eq] at hv
      simp only [cond_false]
      obtain ⟨a1, _, _, _⟩ := times_ok hs.r1 hs.c1 hs.n1 v0 v1
      obtain ⟨_, b1, b2, b3⟩ := times_ok hs.r2 hs.c2 hs.m2 v0 v1
      rw [a1, b1]
      have d1 := hs.r1.d1
      have d2 := hs.r2.d1
      have P0 : 0 ≤ x.seep.1.n * v / x.seep.1.d := Int.ediv_nonneg (Int.mul_nonneg hs.n1 v0) (by omega)
      have P1 : x.seep.1.n * v / x.seep.1.d * x.seep.1.d ≤ x.seep.1.n * v := Int.ediv_mul_le _ (by omega)
      have Q1 : -(x.seep.2.n * v) / x.seep.2.d * x.seep.2.d ≤ -(x.seep.2.n * v) := Int.ediv_mul_le _ (by omega)
      generalize x.seep.1.n * v / x.seep.1.d = P at P0 P1
      generalize -(x.seep.2.n * v) / x.seep.2.d = Q at b2 b3 Q1
      have PV : P ≤ v := by
        have := Int.mul_le_mul_of_nonneg_right hs.m1 v0
        have hh : P * x.seep.1.d ≤ v * x.seep.1.d := by rw [Int.mul_comm v]; omega
        exact Int.le_of_mul_le_mul_right hh (by omega)
      have PQ : P ≤ -Q := by
        have e1 := Int.mul_le_mul_of_nonneg_right P1 (by omega : 0 ≤ x.seep.2.d)
        have e2 := Int.mul_le_mul_of_nonneg_right hs.le v0
        have e3 := Int.mul_le_mul_of_nonneg_right Q1 (by omega : 0 ≤ x.seep.1.d)
        have hh : P * (x.seep.1.d * x.seep.2.d) ≤ -Q * (x.seep.1.d * x.seep.2.d) := by
          have i1 : P * x.seep.1.d * x.seep.2.d = P * (x.seep.1.d * x.seep.2.d) := Int.mul_assoc _ _ _
          have i2 : x.seep.1.n * v * x.seep.2.d = x.seep.1.n * x.seep.2.d * v := by rw [Int.mul_assoc, Int.mul_comm v, ← Int.mul_assoc]
          have i3 : x.seep.2.n * x.seep.1.d * v = x.seep.2.n * v * x.seep.1.d := by rw [Int.mul_assoc, Int.mul_comm x.seep.1.d, ← Int.mul_assoc]
          have i4 : Q * x.seep.2.d * x.seep.1.d = Q * (x.seep.1.d * x.seep.2.d) := by rw [Int.mul_assoc, Int.mul_comm x.seep.2.d]
          have i5 : -(x.seep.2.n * v) * x.seep.1.d = -(x.seep.2.n * v * x.seep.1.d) := Int.neg_mul _ _
          have i6 : -Q * (x.seep.1.d * x.seep.2.d) = -(Q * (x.seep.1.d * x.seep.2.d)) := Int.neg_mul _ _
          omega
        have hp : 0 < x.seep.1.d * x.seep.2.d := Int.mul_pos (by omega) (by omega)
        exact Int.le_of_mul_le_mul_right hh hp
      rw [wrapI (by omega) (by omega), wrapI (by omega) (by omega)]
      split <;> split <;> omega
end Go.Sx
end
section
namespace Go.Sx
universe u
section
variable {α : Type u}
def pV (k : Int → List SV → Option α) : List SV → Option α
  | .v (.int .u8 n) :: r => k n r
  | _ => none
@[go_sem] theorem pV_cons {k : Int → List SV → Option α} {n : Int} {r : List SV} : pV k (.v (.int .u8 n) :: r) = k n r := (rfl)
end
end Go.Sx
end
section
namespace Go.Sx
open Go.RowKit
section
variable {P : Program} {ρ σ τ : Type}
def curO : Ob → Option Nat
  | .mi _ _ _ c => c
  | _ => none
def nxC (step : τ → σ → ρ ⊕ σ) (l : List τ) (d : τ) (D : List Nat → Option Nat → σ → St) (n0 : Nat) (left : List Nat) (s : σ) (st : St) : Option Nat → Prop
  | some j => j ∈ left ∧ nextE (fun _ s' => D (left.erase j) (some j) s') n0 0 st (step (l.getD j d) s)
  | none => False
def exC (step : τ → σ → ρ ⊕ σ) (l : List τ) (d : τ) (exE : ρ → Ex) (outE : ρ → St) (n0 : Nat) (left : List Nat) (s : σ) (e : Ex) (st : St) : Option Nat → Prop
  | some j => j ∈ left ∧ exE' exE outE n0 e st (step (l.getD j d) s)
  | none => False
def cM (step : τ → σ → ρ ⊕ σ) (l : List τ) (d : τ) (exE : ρ → Ex) (outE : ρ → St) (outN : σ → St) (D : List Nat → Option Nat → σ → St) (n0 id it : Nat) (left : List Nat) (s : σ) : Ex → St → Prop
  | .normal, st => nxC step l d D n0 left s st (curO (obAt st.h it))
  | .exit j, st => bif Nat.beq j id then (left = [] → fitE (outN s) n0 st) ∧ (left ≠ [] → exC step l d exE outE n0 left s .normal st (curO (obAt st.h it))) else exC step l d exE outE n0 left s (.exit j) st (curO (obAt st.h it))
  | .ret, st => exC step l d exE outE n0 left s .ret st (curO (obAt st.h it))
  | .pan x, st => exC step l d exE outE n0 left s (.pan x) st (curO (obAt st.h it))
variable {step : τ → σ → ρ ⊕ σ} {l : List τ} {d : τ} {n0 id it j : Nat} {exE : ρ → Ex} {outE : ρ → St} {outN : σ → St} {D : List Nat → Option Nat → σ → St} {left : List Nat} {s s' : σ} {st : St} {x : Value} {e : Ex} {y : ρ} {t : List (Nat × SV)} {h : List Ob}
@[go_sem] theorem curO_mi {m : Option Nat} {n : Nat} {left : List Nat} {c : Option Nat} : curO (.mi m n left c) = c := (rfl)
@[go_sem] theorem nxC_some : nxC step l d D n0 left s st (some j) = (j ∈ left ∧ nextE (fun _ s' => D (left.erase j) (some j) s') n0 0 st (step (l.getD j d) s)) := (rfl)
@[go_sem] theorem exC_some : exC step l d exE outE n0 left s e st (some j) = (j ∈ left ∧ exE' exE outE n0 e st (step (l.getD j d) s)) := (rfl)
@[go_sem] theorem cM_normal : cM step l d exE outE outN D n0 id it left s .normal ⟨t, h⟩ = nxC step l d D n0 left s ⟨t, h⟩ (curO (obAt h it)) := (rfl)
@[go_sem] theorem cM_exit : cM step l d exE outE outN D n0 id it left s (.exit j) ⟨t, h⟩ = bif Nat.beq j id then (left = [] → fitE (outN s) n0 ⟨t, h⟩) ∧ (left ≠ [] → exC step l d exE outE n0 left s .normal ⟨t, h⟩ (curO (obAt h it))) else exC step l d exE outE n0 left s (.exit j) ⟨t, h⟩ (curO (obAt h it)) := (rfl)
@[go_sem] theorem cM_ret : cM step l d exE outE outN D n0 id it left s .ret ⟨t, h⟩ = exC step l d exE outE n0 left s .ret ⟨t, h⟩ (curO (obAt h it)) := (rfl)
@[go_sem] theorem cM_pan : cM step l d exE outE outN D n0 id it left s (.pan x) ⟨t, h⟩ = exC step l d exE outE n0 left s (.pan x) ⟨t, h⟩ (curO (obAt h it)) := (rfl)
attribute [go_sem] nxtM
@[go_sem] theorem put_some {t : List (Nat × SV)} {h : List Ob} {d : Nat} {s : SV} : St.put ⟨t, h⟩ (some d) s = ⟨(d, s) :: t, h⟩ := (rfl)
@[go_sem] theorem put_none {t : List (Nat × SV)} {h : List Ob} {s : SV} : St.put ⟨t, h⟩ none s = ⟨t, h⟩ := (rfl)
def okM (step : τ → σ → ρ ⊕ σ) (p : τ → σ → Prop) (l : List τ) (s : σ) : Prop := ∀ L, L.Perm l → runL step L s = runL step l s ∧ okL step p L s
theorem map_range_getD (l : List τ) (d : τ) : (List.range l.length).map (fun j => l.getD j d) = l := by
  apply List.ext_getElem
  · simp
  · intro i h1 h2
    simp only [List.length_map, List.length_range] at h1
    simp [List.getD_eq_getElem?_getD, List.getElem?_eq_getElem h1]
theorem count_okM {ts : Tis} {G : Cons} {ro : Option Nat} {N : Nat} (hm : P.follows .mixedOrders = true) (hts : ts.ok P) (hG : ConsOk P G) {id : Nat} {c : Code} (hc : okCode N c = true) {C : St → Option LCon}
    (h : ∀ st lc, C st = some lc → lc.pre → ∃ (τ ρ σ : Type) (pre : Prop) (step : τ → σ → ρ ⊕ σ) (p : τ → σ → Prop) (l : List τ) (d : τ) (s0 : σ) (exE : ρ → Ex) (outE : ρ → St) (outN : σ → St) (D : List Nat → Option Nat → σ → St) (it : Nat) (stN : St) (js : List Nat),
      lc = LC pre (runL step l s0) exE outE outN ∧ okM step p l s0 ∧ NilS st stN ∧ st.h.length ≤ (D (List.range l.length) none s0).h.length ∧ Sub js st.h.length stN (D (List.range l.length) none s0) ∧
      ∀ left cur s, (∀ j, j ∈ left → j < l.length ∧ p (l.getD j d) s) → ∃ L, loopsOk P ro N L c ∧ exec ts G L c (D left cur s) (cM step l d exE outE outN D st.h.length id it left s)) : LoopOk P ro N id (.loop c) C := by
  refine loop_okN hm hts hG hc fun st lc hC hp => ?_
  obtain ⟨τ, ρ, σ, pre, step, p, l, d, s0, exE, outE, outN, D, it, stN, js, rfl, h1, hN, h2, h3, h4⟩ := h st lc hC hp
  refine ⟨List Nat × Option Nat × σ, fun x => D x.1 x.2.1 x.2.2, fun x => (∀ j, j ∈ x.1 → j < l.length) ∧ ∀ Q : List Nat, Q.Perm x.1 → runL step (Q.map fun j => l.getD j d) x.2.2 = runL step l s0 ∧ okL step p (Q.map fun j => l.getD j d) x.2.2, fun x => x.1.length, (List.range l.length, none, s0), stN, js, ⟨fun j hj => List.mem_range.1 hj, ?_⟩, hN, h2, h3, ?_⟩
  · intro Q hQ
    have := hQ.map (fun j => l.getD j d)
    rw [map_range_getD] at this
    exact h1 _ this
  rintro ⟨left, cur, s⟩ ⟨hlt0, hI⟩
  simp only at hI hlt0
  have hI' : ∀ j, j ∈ left → ∀ Q : List Nat, Q.Perm (left.erase j) → runL step (l.getD j d :: Q.map fun j => l.getD j d) s = runL step l s0 ∧ okL step p (l.getD j d :: Q.map fun j => l.getD j d) s := by
    intro j hj Q hQ
    have := hI (j :: Q) (((List.perm_cons_erase hj).trans (hQ.symm.cons j)).symm)
    simpa only [List.map_cons] using this
  obtain ⟨L, hl, hex⟩ := h4 left cur s (fun j hj => ⟨hlt0 j hj, (hI' j hj _ (.refl _)).2.1⟩)
  refine ⟨L, _, hl, ?_, hex⟩
  have hfin : ∀ e st' o, exC step l d exE outE st.h.length left s e st' o → ∃ r js, (LC pre (runL step l s0) exE outE outN).post r ∧ (LC pre (runL step l s0) exE outE outN).ex r = e ∧ st.h.length ≤ ((LC pre (runL step l s0) exE outE outN).out r).h.length ∧ Sub js st.h.length st' ((LC pre (runL step l s0) exE outE outN).out r) := by
    intro e st' o q
    cases o with
    | none => exact q.elim
    | some j =>
      obtain ⟨hj, q⟩ := q
      have hrun := (hI' j hj _ (.refl _)).1
      cases hs : step (l.getD j d) s with
      | inr s' => rw [hs] at q; exact q.elim
      | inl x =>
        rw [hs] at q
        obtain ⟨q2, js, q3, q4⟩ := q
        simp only [runL, hs] at hrun
        exact ⟨.inl x, js, hrun, q2, q3, q4⟩
  intro e st' hq
  cases e with
  | normal =>
    change nxC step l d D st.h.length left s st' (curO (obAt st'.h it)) at hq
    cases ho : curO (obAt st'.h it) with
    | none => rw [ho] at hq; exact hq.elim
    | some j =>
      rw [ho] at hq
      obtain ⟨hj, hq⟩ := hq
      cases hs : step (l.getD j d) s with
      | inl x => rw [hs] at hq; exact hq.elim
      | inr s' =>
        rw [hs] at hq
        obtain ⟨js, q3, q4⟩ := hq
        refine ⟨(left.erase j, some j, s'), js, ⟨fun i hi => hlt0 i (List.mem_of_mem_erase hi), ?_⟩, ?_, q3, q4⟩
        · intro Q hQ
          have := hI' j hj Q hQ
          simp only [runL, hs, okL] at this
          exact ⟨this.1, this.2.2 s' rfl⟩
        · have := List.length_pos_of_mem hj
          simp only [List.length_erase_of_mem hj]; omega
  | exit j =>
    have hq' : (bif Nat.beq j id then (left = [] → fitE (outN s) st.h.length st') ∧ (left ≠ [] → exC step l d exE outE st.h.length left s .normal st' (curO (obAt st'.h it))) else exC step l d exE outE st.h.length left s (.exit j) st' (curO (obAt st'.h it))) := hq
    show bif Nat.beq j id then _ else _
    cases hb : Nat.beq j id with
    | true =>
      rw [hb] at hq'
      simp only [cond_true] at hq' ⊢
      by_cases hlt : left = []
      · obtain ⟨js, q3, q4⟩ := hq'.1 hlt
        have hrun := (hI [] (by rw [hlt])).1
        simp only [List.map_nil, runL] at hrun
        exact ⟨.inr s, js, hrun, rfl, q3, q4⟩
      · exact hfin _ _ _ (hq'.2 hlt)
    | false => rw [hb] at hq'; exact hfin _ _ _ hq'
  | ret => exact hfin _ _ _ hq
  | pan x => exact hfin _ _ _ hq
end
end Go.Sx
end
section
namespace Go.Sx
open Go.Proofs
set_option maxRecDepth 100000
set_option linter.unusedSimpArgs false
theorem crSxR14_0 {p : Prop} (h : p := by (first | done | (repeat' (first | with_reducible refine And.intro ?_ ?_ | ((with_reducible show _ ≠ _); first | assumption | omega | (simp_all [outR, outL]; done) | grind) | with_reducible intro _)) <;> (first | done | exact Empty.elim ‹Empty› | assumption | rfl | omega | decide | exact fk [0, 1, 2, 3, 4] | (simp only [*, cond_true, cond_false, Bool.not_true, Bool.not_false, go_sem, Nat.reduceBEq, Nat.reduceLeDiff, Nat.reduceAdd, Nat.reduceSub, Nat.reduceMul, Int.reduceLE, Int.reduceLT, Int.reduceToNat, Int.reduceNeg, reduceCtorEq]; done) | (simp only [*, cond_true, cond_false, Bool.not_true, Bool.not_false, go_sem, Nat.reduceBEq, Nat.reduceLeDiff, Nat.reduceAdd, Nat.reduceSub, Nat.reduceMul, Int.reduceLE, Int.reduceLT, Int.reduceToNat, Int.reduceNeg, reduceCtorEq]; (repeat' (first | with_reducible refine And.intro ?_ ?_ | ((with_reducible show _ ≠ _); first | assumption | omega | (simp_all [outR, outL]; done) | grind) | with_reducible intro _)) <;> (first | done | assumption | rfl | omega | decide | exact fk [0, 1, 2, 3, 4] | (simp_all [outR, outL]; done))) | (simp_all [okI, outR, outL]; done) | (simp_all [outR, outL]; (first | done | exact fk2 [0, 1, 2, 3, 4])) | exact fk2 [0, 1, 2, 3, 4]))) : p := h
theorem crSxR14_1 {p : Prop} (h : p := by (first | done | (repeat' (first | with_reducible refine And.intro ?_ ?_ | ((with_reducible show _ ≠ _); first | assumption | omega | (simp_all [outR, outL]; done) | grind) | with_reducible intro _)) <;> (first | done | exact Empty.elim ‹Empty› | assumption | rfl | omega | decide | exact fk [0, 1, 2, 3, 4, 5] | (simp only [*, cond_true, cond_false, Bool.not_true, Bool.not_false, go_sem, Nat.reduceBEq, Nat.reduceLeDiff, Nat.reduceAdd, Nat.reduceSub, Nat.reduceMul, Int.reduceLE, Int.reduceLT, Int.reduceToNat, Int.reduceNeg, reduceCtorEq]; done) | (simp only [*, cond_true, cond_false, Bool.not_true, Bool.not_false, go_sem, Nat.reduceBEq, Nat.reduceLeDiff, Nat.reduceAdd, Nat.reduceSub, Nat.reduceMul, Int.reduceLE, Int.reduceLT, Int.reduceToNat, Int.reduceNeg, reduceCtorEq]; (repeat' (first | with_reducible refine And.intro ?_ ?_ | ((with_reducible show _ ≠ _); first | assumption | omega | (simp_all [outR, outL]; done) | grind) | with_reducible intro _)) <;> (first | done | assumption | rfl | omega | decide | exact fk [0, 1, 2, 3, 4, 5] | (simp_all [outR, outL]; done))) | (simp_all [okI, outR, outL]; done) | (simp_all [outR, outL]; (first | done | exact fk2 [0, 1, 2, 3, 4, 5])) | exact fk2 [0, 1, 2, 3, 4, 5]))) : p := h
def law28_CertifySurely_l0 (a0 : District) (a2 : List Order) : Nat → (List (Acequialaw28Cell × Int) × List (Acequialaw28Cell × Int) × List (Acequialaw28Cell × Int)) → Empty ⊕ (List (Acequialaw28Cell × Int) × List (Acequialaw28Cell × Int) × List (Acequialaw28Cell × Int)) := fun k_0 s_0 => (bif (a2.getD k_0 (default : Order)).outlet then .inr ((mupdT .acequialaw28Cell .int s_0.1 ({ at_ := (a2.getD k_0 (default : Order)).index, hour := (a2.getD k_0 (default : Order)).hour } : Acequialaw28Cell) ((a2.getD k_0 (default : Order)).litres)), (mupdT .acequialaw28Cell .int s_0.2.1 ({ at_ := (a0.farms.getD (Int.toNat ((a2.getD k_0 (default : Order)).index)) (default : Farm)).reach, hour := (a2.getD k_0 (default : Order)).hour } : Acequialaw28Cell) (IntKind.i64.wrap ((mgetT .acequialaw28Cell .int s_0.2.1 ({ at_ := (a0.farms.getD (Int.toNat ((a2.getD k_0 (default : Order)).index)) (default : Farm)).reach, hour := (a2.getD k_0 (default : Order)).hour } : Acequialaw28Cell)) + (a2.getD k_0 (default : Order)).litres))), s_0.2.2) else (bif (decide ((a2.getD k_0 (default : Order)).index > 0)) then .inr (s_0.1, (mupdT .acequialaw28Cell .int s_0.2.1 ({ at_ := (a0.reaches.getD (Int.toNat ((a2.getD k_0 (default : Order)).index)) (default : Reach)).up, hour := (a2.getD k_0 (default : Order)).hour } : Acequialaw28Cell) (IntKind.i64.wrap ((mgetT .acequialaw28Cell .int s_0.2.1 ({ at_ := (a0.reaches.getD (Int.toNat ((a2.getD k_0 (default : Order)).index)) (default : Reach)).up, hour := (a2.getD k_0 (default : Order)).hour } : Acequialaw28Cell)) + (a2.getD k_0 (default : Order)).litres))), (mupdT .acequialaw28Cell .int s_0.2.2 ({ at_ := (a2.getD k_0 (default : Order)).index, hour := (a2.getD k_0 (default : Order)).hour } : Acequialaw28Cell) ((a2.getD k_0 (default : Order)).litres))) else .inr (s_0.1, s_0.2.1, (mupdT .acequialaw28Cell .int s_0.2.2 ({ at_ := (a2.getD k_0 (default : Order)).index, hour := (a2.getD k_0 (default : Order)).hour } : Acequialaw28Cell) ((a2.getD k_0 (default : Order)).litres)))))
def law28_CertifySurely_l0_p (a0 : District) (a2 : List Order) : Nat → (List (Acequialaw28Cell × Int) × List (Acequialaw28Cell × Int) × List (Acequialaw28Cell × Int)) → Prop := fun k_0 s_0 => (((a2.getD k_0 (default : Order)).outlet = true → (0 ≤ (a2.getD k_0 (default : Order)).index ∧ (a2.getD k_0 (default : Order)).index < (a0.farms.length : Int))) ∧ ((a2.getD k_0 (default : Order)).outlet = false → ((decide ((a2.getD k_0 (default : Order)).index > 0)) = true → (0 ≤ (a2.getD k_0 (default : Order)).index ∧ (a2.getD k_0 (default : Order)).index < (a0.reaches.length : Int)))))
def law28_CertifySurely_l1 (a1 : List Claim) : Nat → (List (Acequialaw28Cell × Int)) → Empty ⊕ (List (Acequialaw28Cell × Int)) := fun k_1 s_1 => .inr (mupdT .acequialaw28Cell .int s_1 ({ at_ := (a1.getD k_1 (default : Claim)).farm, hour := (a1.getD k_1 (default : Claim)).hour } : Acequialaw28Cell) (IntKind.i64.wrap ((mgetT .acequialaw28Cell .int s_1 ({ at_ := (a1.getD k_1 (default : Claim)).farm, hour := (a1.getD k_1 (default : Claim)).hour } : Acequialaw28Cell)) + (a1.getD k_1 (default : Claim)).litres)))
def law28_CertifySurely_l1_p (a1 : List Claim) : Nat → (List (Acequialaw28Cell × Int)) → Prop := fun k_1 s_1 => True
def law28_CertifySurely_l2 (s_0 : List (Acequialaw28Cell × Int) × List (Acequialaw28Cell × Int) × List (Acequialaw28Cell × Int)) (s_1 : List (Acequialaw28Cell × Int)) : (Acequialaw28Cell × Int) → Unit → Unit ⊕ Unit := fun k_2 s_2 => (bif (decide ((mgetT .acequialaw28Cell .int s_0.1 k_2.1) < k_2.2)) then .inl () else .inr ())
def law28_CertifySurely_l2_p (s_0 : List (Acequialaw28Cell × Int) × List (Acequialaw28Cell × Int) × List (Acequialaw28Cell × Int)) (s_1 : List (Acequialaw28Cell × Int)) : (Acequialaw28Cell × Int) → Unit → Prop := fun k_2 s_2 => True
def law28_CertifySurely_l5 (a0 : District) (s_0 : List (Acequialaw28Cell × Int) × List (Acequialaw28Cell × Int) × List (Acequialaw28Cell × Int)) (k_3 : Nat) (k_4 : Nat) : Nat → Int → Empty ⊕ Int := fun k_5 s_5 => .inr (IntKind.i64.wrap (s_5 + (mgetT .acequialaw28Cell .int s_0.2.2 ({ at_ := (k_4 : Int), hour := (IntKind.i64.wrap ((k_3 : Int) - (k_5 : Int))) } : Acequialaw28Cell))))
def law28_CertifySurely_l5_p (a0 : District) (s_0 : List (Acequialaw28Cell × Int) × List (Acequialaw28Cell × Int) × List (Acequialaw28Cell × Int)) (k_3 : Nat) (k_4 : Nat) : Nat → Int → Prop := fun k_5 s_5 => True
def law28_CertifySurely_l4 (a0 : District) (a3 : List Int) (s_0 : List (Acequialaw28Cell × Int) × List (Acequialaw28Cell × Int) × List (Acequialaw28Cell × Int)) (k_3 : Nat) : Nat → Int → Unit ⊕ Int := fun k_4 s_4 => (match runI (law28_CertifySurely_l5 a0 s_0 k_3 k_4) (Int.toNat ((a0.reaches.getD k_4 (default : Reach)).delay)) 0 0 with | .inl x => x.elim | .inr s_5 => (bif (((((losses_Lost (a0.reaches.getD k_4 (default : Reach)) (mgetT .acequialaw28Cell .int s_0.2.2 ({ at_ := (k_4 : Int), hour := (IntKind.i64.wrap ((k_3 : Int) - (a0.reaches.getD k_4 (default : Reach)).delay)) } : Acequialaw28Cell))).2 != 0) || (decide (((losses_Lost (a0.reaches.getD k_4 (default : Reach)) (mgetT .acequialaw28Cell .int s_0.2.2 ({ at_ := (k_4 : Int), hour := (IntKind.i64.wrap ((k_3 : Int) - (a0.reaches.getD k_4 (default : Reach)).delay)) } : Acequialaw28Cell))).1).lo > ((losses_Lost (a0.reaches.getD k_4 (default : Reach)) (mgetT .acequialaw28Cell .int s_0.2.2 ({ at_ := (k_4 : Int), hour := (IntKind.i64.wrap ((k_3 : Int) - (a0.reaches.getD k_4 (default : Reach)).delay)) } : Acequialaw28Cell))).1).hi))) || (decide (s_5 > (a0.reaches.getD k_4 (default : Reach)).bank))) || (decide ((mgetT .acequialaw28Cell .int s_0.2.2 ({ at_ := (k_4 : Int), hour := (k_3 : Int) } : Acequialaw28Cell)) > (a0.reaches.getD k_4 (default : Reach)).cap))) then .inl () else (bif (decide (s_4 < (a3.length : Int))) then (bif (decide ((IntKind.i64.wrap ((IntKind.i64.wrap ((mgetT .acequialaw28Cell .int s_0.2.2 ({ at_ := (k_4 : Int), hour := (IntKind.i64.wrap ((k_3 : Int) - (a0.reaches.getD k_4 (default : Reach)).delay)) } : Acequialaw28Cell)) - ((losses_Lost (a0.reaches.getD k_4 (default : Reach)) (mgetT .acequialaw28Cell .int s_0.2.2 ({ at_ := (k_4 : Int), hour := (IntKind.i64.wrap ((k_3 : Int) - (a0.reaches.getD k_4 (default : Reach)).delay)) } : Acequialaw28Cell))).1).lo)) - (IntKind.i64.wrap (Int.tdiv (IntKind.i64.wrap ((IntKind.i64.wrap (((losses_Lost (a0.reaches.getD k_4 (default : Reach)) (mgetT .acequialaw28Cell .int s_0.2.2 ({ at_ := (k_4 : Int), hour := (IntKind.i64.wrap ((k_3 : Int) - (a0.reaches.getD k_4 (default : Reach)).delay)) } : Acequialaw28Cell))).1).hi - ((losses_Lost (a0.reaches.getD k_4 (default : Reach)) (mgetT .acequialaw28Cell .int s_0.2.2 ({ at_ := (k_4 : Int), hour := (IntKind.i64.wrap ((k_3 : Int) - (a0.reaches.getD k_4 (default : Reach)).delay)) } : Acequialaw28Cell))).1).lo)) * (IntKind.i64.wrap (a3.getD (Int.toNat s_4) (0 : Int))))) 255)))) < (mgetT .acequialaw28Cell .int s_0.2.1 ({ at_ := (k_4 : Int), hour := (k_3 : Int) } : Acequialaw28Cell)))) then .inl () else .inr (IntKind.i64.wrap (s_4 + 1))) else (bif (decide ((IntKind.i64.wrap ((IntKind.i64.wrap ((mgetT .acequialaw28Cell .int s_0.2.2 ({ at_ := (k_4 : Int), hour := (IntKind.i64.wrap ((k_3 : Int) - (a0.reaches.getD k_4 (default : Reach)).delay)) } : Acequialaw28Cell)) - ((losses_Lost (a0.reaches.getD k_4 (default : Reach)) (mgetT .acequialaw28Cell .int s_0.2.2 ({ at_ := (k_4 : Int), hour := (IntKind.i64.wrap ((k_3 : Int) - (a0.reaches.getD k_4 (default : Reach)).delay)) } : Acequialaw28Cell))).1).lo)) - (IntKind.i64.wrap (Int.tdiv (IntKind.i64.wrap ((IntKind.i64.wrap (((losses_Lost (a0.reaches.getD k_4 (default : Reach)) (mgetT .acequialaw28Cell .int s_0.2.2 ({ at_ := (k_4 : Int), hour := (IntKind.i64.wrap ((k_3 : Int) - (a0.reaches.getD k_4 (default : Reach)).delay)) } : Acequialaw28Cell))).1).hi - ((losses_Lost (a0.reaches.getD k_4 (default : Reach)) (mgetT .acequialaw28Cell .int s_0.2.2 ({ at_ := (k_4 : Int), hour := (IntKind.i64.wrap ((k_3 : Int) - (a0.reaches.getD k_4 (default : Reach)).delay)) } : Acequialaw28Cell))).1).lo)) * 0)) 255)))) < (mgetT .acequialaw28Cell .int s_0.2.1 ({ at_ := (k_4 : Int), hour := (k_3 : Int) } : Acequialaw28Cell)))) then .inl () else .inr (IntKind.i64.wrap (s_4 + 1))))))
def law28_CertifySurely_l4_p (a0 : District) (a3 : List Int) (s_0 : List (Acequialaw28Cell × Int) × List (Acequialaw28Cell × Int) × List (Acequialaw28Cell × Int)) (k_3 : Nat) : Nat → Int → Prop := fun k_4 s_4 => (((a0.reaches.getD k_4 (default : Reach)).delay < 9223372036854775808) ∧ (∀ s_5, runI (law28_CertifySurely_l5 a0 s_0 k_3 k_4) (Int.toNat ((a0.reaches.getD k_4 (default : Reach)).delay)) 0 0 = .inr s_5 → ((((((losses_Lost (a0.reaches.getD k_4 (default : Reach)) (mgetT .acequialaw28Cell .int s_0.2.2 ({ at_ := (k_4 : Int), hour := (IntKind.i64.wrap ((k_3 : Int) - (a0.reaches.getD k_4 (default : Reach)).delay)) } : Acequialaw28Cell))).2 != 0) || (decide (((losses_Lost (a0.reaches.getD k_4 (default : Reach)) (mgetT .acequialaw28Cell .int s_0.2.2 ({ at_ := (k_4 : Int), hour := (IntKind.i64.wrap ((k_3 : Int) - (a0.reaches.getD k_4 (default : Reach)).delay)) } : Acequialaw28Cell))).1).lo > ((losses_Lost (a0.reaches.getD k_4 (default : Reach)) (mgetT .acequialaw28Cell .int s_0.2.2 ({ at_ := (k_4 : Int), hour := (IntKind.i64.wrap ((k_3 : Int) - (a0.reaches.getD k_4 (default : Reach)).delay)) } : Acequialaw28Cell))).1).hi))) || (decide (s_5 > (a0.reaches.getD k_4 (default : Reach)).bank))) || (decide ((mgetT .acequialaw28Cell .int s_0.2.2 ({ at_ := (k_4 : Int), hour := (k_3 : Int) } : Acequialaw28Cell)) > (a0.reaches.getD k_4 (default : Reach)).cap))) = false → (a3.length ≤ maxL → ((decide (s_4 < (a3.length : Int))) = true → (0 ≤ s_4 ∧ s_4 < (a3.length : Int)))))))
def law28_CertifySurely_l3 (a0 : District) (a3 : List Int) (s_0 : List (Acequialaw28Cell × Int) × List (Acequialaw28Cell × Int) × List (Acequialaw28Cell × Int)) : Nat → (Int × Int) → Unit ⊕ (Int × Int) := fun k_3 s_3 => (bif (decide ((IntKind.i64.wrap (s_3.1 - (mgetT .acequialaw28Cell .int s_0.2.2 ({ at_ := 0, hour := (k_3 : Int) } : Acequialaw28Cell)))) < 0)) then .inl () else (match runI (law28_CertifySurely_l4 a0 a3 s_0 k_3) a0.reaches.length 0 s_3.2 with | .inl x_4_0 => .inl () | .inr s_4 => .inr ((IntKind.i64.wrap (s_3.1 - (mgetT .acequialaw28Cell .int s_0.2.2 ({ at_ := 0, hour := (k_3 : Int) } : Acequialaw28Cell)))), s_4)))
def law28_CertifySurely_l3_p (a0 : District) (a3 : List Int) (s_0 : List (Acequialaw28Cell × Int) × List (Acequialaw28Cell × Int) × List (Acequialaw28Cell × Int)) : Nat → (Int × Int) → Prop := fun k_3 s_3 => ((decide ((IntKind.i64.wrap (s_3.1 - (mgetT .acequialaw28Cell .int s_0.2.2 ({ at_ := 0, hour := (k_3 : Int) } : Acequialaw28Cell)))) < 0)) = false → (a0.reaches.length ≤ maxL → okI (law28_CertifySurely_l4 a0 a3 s_0 k_3) (law28_CertifySurely_l4_p a0 a3 s_0 k_3) a0.reaches.length 0 s_3.2))
def law28_CertifySurely (a0 : District) (a1 : List Claim) (a2 : List Order) (a3 : List Int) : Bool := (bif (!law28_sane) then false else (bif (!(ref28_Few a0 a1 a2)) then true else (bif (((certify_Accepts a0 a1 a2).2 != 0) || (!(certify_Accepts a0 a1 a2).1)) then true else (match runI (law28_CertifySurely_l0 a0 a2) a2.length 0 ([], [], []) with | .inl x => x.elim | .inr s_0 => (match runI (law28_CertifySurely_l1 a1) a1.length 0 ([]) with | .inl x => x.elim | .inr s_1 => (match runL (law28_CertifySurely_l2 s_0 s_1) s_1 () with | .inl x_2_0 => false | .inr s_2 => (match runI (law28_CertifySurely_l3 a0 a3 s_0) (Int.toNat a0.hours) 0 (a0.tank.start, 0) with | .inl x_3_0 => false | .inr s_3 => true)))))))
def law28_CertifySurely_p (a0 : District) (a1 : List Claim) (a2 : List Order) (a3 : List Int) : Prop := ((law28_sane_p) ∧ ((!law28_sane) = false → ((!(ref28_Few a0 a1 a2)) = false → ((certify_Accepts_p a0 a1 a2) ∧ ((((certify_Accepts a0 a1 a2).2 != 0) || (!(certify_Accepts a0 a1 a2).1)) = false → (a2.length ≤ maxL → (okI (law28_CertifySurely_l0 a0 a2) (law28_CertifySurely_l0_p a0 a2) a2.length 0 ([], [], []) ∧ (∀ s_0, runI (law28_CertifySurely_l0 a0 a2) a2.length 0 ([], [], []) = .inr s_0 → (a1.length ≤ maxL → (∀ s_1, runI (law28_CertifySurely_l1 a1) a1.length 0 ([]) = .inr s_1 → (okM (law28_CertifySurely_l2 s_0 s_1) (law28_CertifySurely_l2_p s_0 s_1) s_1 () ∧ (∀ s_2, runL (law28_CertifySurely_l2 s_0 s_1) s_1 () = .inr s_2 → ((a0.hours < 9223372036854775808) ∧ okI (law28_CertifySurely_l3 a0 a3 s_0) (law28_CertifySurely_l3_p a0 a3 s_0) (Int.toNat a0.hours) 0 (a0.tank.start, 0))))))))))))))
def C_law28_CertifySurely : List SV → Option Con := (pD .district fun a0 => (pR .claim fun a1 => (pR .order fun a2 => (pR .u8 fun a3 => pE (.det (law28_CertifySurely_p a0 a1 a2 a3) (.v (.bool (law28_CertifySurely a0 a1 a2 a3))))))))
set_option maxHeartbeats 4000000 in
theorem ok_law28_CertifySurely : FnOk Try.prog 6 C_law28_CertifySurely := by
  have hG : ConsOk Try.prog (mkG [(7, C_law28_sane), (8, fun l => C_ref28_Few (nrmA [.st .district, .sl .claim, .sl .order] l)), (11, fun l => C_certify_Accepts (nrmA [.st .district, .sl .claim, .sl .order] l)), (13, C_losses_Lost)] []) := mkG_ok (cgc ok_law28_sane (cgc (ok_ref28_Few.norm [.st .district, .sl .claim, .sl .order]) (cgc (ok_certify_Accepts.norm [.st .district, .sl .claim, .sl .order]) (cgc ok_losses_Lost cg0)))) cg0
  refine fn_okN [.o] mixed ts_ok hG (fn := Try.f6) (c := bodyOf Try.f6) (by kernel_rfl) (by kernel_rfl) (by kernel_rfl) (by kernel_rfl) fun l con h hp => ?_
  unfold C_law28_CertifySurely at h
  obtain ⟨a0, l0, rfl, h0⟩ := pD_inv h
  obtain ⟨a1, l1, rfl, h1⟩ := pR_inv h0
  obtain ⟨a2, l2, rfl, h2⟩ := pR_inv h1
  obtain ⟨a3, l3, rfl, h3⟩ := pR_inv h2
  obtain ⟨rfl, rfl⟩ := pE_inv h3
  clear h h0 h1 h2 h3
  dsimp only [conPre] at hp
  unfold law28_CertifySurely_p at hp
  refine ⟨Nat.le_of_ble_eq_true rfl, (fun id st => bif Nat.beq id 0 then some (LC (ρ := Empty) (σ := List (Acequialaw28Cell × Int) × List (Acequialaw28Cell × Int) × List (Acequialaw28Cell × Int)) (lk 1 st.t = .rs .claim a1 ∧ lk 3 st.t = .rs .u8 a3 ∧ lk 4 st.t = .ptr 0 0 ∧ lk 11 st.t = .os 1 ∧ lk 12 st.t = .os 2 ∧ lk 13 st.t = .os 3 ∧ lk 14 st.t = .os 4 ∧ lk 57 st.t = .rs .order a2 ∧ lk 58 st.t = .v (.int .i64 (a2.length : Int)) ∧ lk 59 st.t = .v (.int .i64 0) ∧ st.h = [.cells [.v (.string a0.name), .v (.int .i64 a0.hours), .v (.int .i64 a0.tank.cap), .v (.int .i64 a0.tank.start), .rs .reach a0.reaches, .rs .farm a0.farms, .rs .crop a0.crops, .rs .right a0.rights, .rs .duty a0.duties, .rs .well a0.wells], .mp .acequialaw28Cell .int ([]) none, .mp .acequialaw28Cell .int ([]) none, .mp .acequialaw28Cell .int ([]) none, .mp .acequialaw28Cell .int ([]) none] ∧ a2.length ≤ maxL ∧ okI (law28_CertifySurely_l0 a0 a2) (law28_CertifySurely_l0_p a0 a2) a2.length 0 ([], [], [])) (runI (law28_CertifySurely_l0 a0 a2) a2.length 0 ([], [], [])) (fun x => x.elim) (fun x => x.elim) (fun s_0 => ⟨[(1, .rs .claim a1), (3, .rs .u8 a3), (4, .ptr 0 0), (11, .os 1), (12, .os 2), (13, .os 3), (14, .os 4)], [.cells [.v (.string a0.name), .v (.int .i64 a0.hours), .v (.int .i64 a0.tank.cap), .v (.int .i64 a0.tank.start), .rs .reach a0.reaches, .rs .farm a0.farms, .rs .crop a0.crops, .rs .right a0.rights, .rs .duty a0.duties, .rs .well a0.wells], .mp .acequialaw28Cell .int s_0.2.2 none, .mp .acequialaw28Cell .int s_0.1 none, .mp .acequialaw28Cell .int ([]) none, .mp .acequialaw28Cell .int s_0.2.1 none]⟩)) else bif Nat.beq id 2 then some (LC (ρ := Empty) (σ := List (Acequialaw28Cell × Int)) (lk 3 st.t = .rs .u8 a3 ∧ lk 4 st.t = .ptr 0 0 ∧ lk 11 st.t = .os 1 ∧ lk 12 st.t = .os 2 ∧ lk 13 st.t = .os 3 ∧ lk 14 st.t = .os 4 ∧ lk 116 st.t = .rs .claim a1 ∧ lk 117 st.t = .v (.int .i64 (a1.length : Int)) ∧ lk 118 st.t = .v (.int .i64 0) ∧ st.h = [.cells [.v (.string a0.name), .v (.int .i64 a0.hours), .v (.int .i64 a0.tank.cap), .v (.int .i64 a0.tank.start), .rs .reach a0.reaches, .rs .farm a0.farms, .rs .crop a0.crops, .rs .right a0.rights, .rs .duty a0.duties, .rs .well a0.wells], .mp .acequialaw28Cell .int (outR (runI (law28_CertifySurely_l0 a0 a2) a2.length 0 ([], [], []))).2.2 none, .mp .acequialaw28Cell .int (outR (runI (law28_CertifySurely_l0 a0 a2) a2.length 0 ([], [], []))).1 none, .mp .acequialaw28Cell .int ([]) none, .mp .acequialaw28Cell .int (outR (runI (law28_CertifySurely_l0 a0 a2) a2.length 0 ([], [], []))).2.1 none] ∧ a1.length ≤ maxL) (runI (law28_CertifySurely_l1 a1) a1.length 0 ([])) (fun x => x.elim) (fun x => x.elim) (fun s_1 => ⟨[(3, .rs .u8 a3), (4, .ptr 0 0), (11, .os 1), (12, .os 2), (13, .os 3), (14, .os 4)], [.cells [.v (.string a0.name), .v (.int .i64 a0.hours), .v (.int .i64 a0.tank.cap), .v (.int .i64 a0.tank.start), .rs .reach a0.reaches, .rs .farm a0.farms, .rs .crop a0.crops, .rs .right a0.rights, .rs .duty a0.duties, .rs .well a0.wells], .mp .acequialaw28Cell .int (outR (runI (law28_CertifySurely_l0 a0 a2) a2.length 0 ([], [], []))).2.2 none, .mp .acequialaw28Cell .int (outR (runI (law28_CertifySurely_l0 a0 a2) a2.length 0 ([], [], []))).1 none, .mp .acequialaw28Cell .int s_1 none, .mp .acequialaw28Cell .int (outR (runI (law28_CertifySurely_l0 a0 a2) a2.length 0 ([], [], []))).2.1 none]⟩)) else bif Nat.beq id 4 then some (LC (ρ := Unit) (σ := Unit) (lk 3 st.t = .rs .u8 a3 ∧ lk 4 st.t = .ptr 0 0 ∧ lk 11 st.t = .os 1 ∧ lk 12 st.t = .os 2 ∧ lk 14 st.t = .os 4 ∧ lk 136 st.t = .ptr 5 0 ∧ st.h = [.cells [.v (.string a0.name), .v (.int .i64 a0.hours), .v (.int .i64 a0.tank.cap), .v (.int .i64 a0.tank.start), .rs .reach a0.reaches, .rs .farm a0.farms, .rs .crop a0.crops, .rs .right a0.rights, .rs .duty a0.duties, .rs .well a0.wells], .mp .acequialaw28Cell .int (outR (runI (law28_CertifySurely_l0 a0 a2) a2.length 0 ([], [], []))).2.2 none, .mp .acequialaw28Cell .int (outR (runI (law28_CertifySurely_l0 a0 a2) a2.length 0 ([], [], []))).1 none, .mp .acequialaw28Cell .int (outR (runI (law28_CertifySurely_l1 a1) a1.length 0 ([]))) none, .mp .acequialaw28Cell .int (outR (runI (law28_CertifySurely_l0 a0 a2) a2.length 0 ([], [], []))).2.1 none, .mi (some 3) (outR (runI (law28_CertifySurely_l1 a1) a1.length 0 ([]))).length (List.range (outR (runI (law28_CertifySurely_l1 a1) a1.length 0 ([]))).length) none] ∧ okM (law28_CertifySurely_l2 (outR (runI (law28_CertifySurely_l0 a0 a2) a2.length 0 ([], [], []))) (outR (runI (law28_CertifySurely_l1 a1) a1.length 0 ([])))) (law28_CertifySurely_l2_p (outR (runI (law28_CertifySurely_l0 a0 a2) a2.length 0 ([], [], []))) (outR (runI (law28_CertifySurely_l1 a1) a1.length 0 ([])))) (outR (runI (law28_CertifySurely_l1 a1) a1.length 0 ([]))) ()) (runL (law28_CertifySurely_l2 (outR (runI (law28_CertifySurely_l0 a0 a2) a2.length 0 ([], [], []))) (outR (runI (law28_CertifySurely_l1 a1) a1.length 0 ([])))) (outR (runI (law28_CertifySurely_l1 a1) a1.length 0 ([]))) ()) (fun _ => .ret) (fun x_2_0 => ⟨[(8, .v (.bool false))], [.dead, .dead, .dead, .dead, .dead, .dead]⟩) (fun s_2 => ⟨[(3, .rs .u8 a3), (4, .ptr 0 0), (11, .os 1), (14, .os 4)], [.cells [.v (.string a0.name), .v (.int .i64 a0.hours), .v (.int .i64 a0.tank.cap), .v (.int .i64 a0.tank.start), .rs .reach a0.reaches, .rs .farm a0.farms, .rs .crop a0.crops, .rs .right a0.rights, .rs .duty a0.duties, .rs .well a0.wells], .mp .acequialaw28Cell .int (outR (runI (law28_CertifySurely_l0 a0 a2) a2.length 0 ([], [], []))).2.2 none, .dead, .dead, .mp .acequialaw28Cell .int (outR (runI (law28_CertifySurely_l0 a0 a2) a2.length 0 ([], [], []))).2.1 none, .dead]⟩)) else bif Nat.beq id 6 then some (LC (ρ := Unit) (σ := Int × Int) (lk 3 st.t = .rs .u8 a3 ∧ lk 4 st.t = .ptr 0 0 ∧ lk 11 st.t = .os 1 ∧ lk 14 st.t = .os 4 ∧ lk 22 st.t = .v (.int .i64 a0.tank.start) ∧ lk 23 st.t = .v (.int .i64 0) ∧ lk 151 st.t = .v (.int .i64 a0.hours) ∧ lk 152 st.t = .v (.int .i64 0) ∧ st.h = [.cells [.v (.string a0.name), .v (.int .i64 a0.hours), .v (.int .i64 a0.tank.cap), .v (.int .i64 a0.tank.start), .rs .reach a0.reaches, .rs .farm a0.farms, .rs .crop a0.crops, .rs .right a0.rights, .rs .duty a0.duties, .rs .well a0.wells], .mp .acequialaw28Cell .int (outR (runI (law28_CertifySurely_l0 a0 a2) a2.length 0 ([], [], []))).2.2 none, .dead, .dead, .mp .acequialaw28Cell .int (outR (runI (law28_CertifySurely_l0 a0 a2) a2.length 0 ([], [], []))).2.1 none, .dead] ∧ a0.hours < 9223372036854775808 ∧ okI (law28_CertifySurely_l3 a0 a3 (outR (runI (law28_CertifySurely_l0 a0 a2) a2.length 0 ([], [], [])))) (law28_CertifySurely_l3_p a0 a3 (outR (runI (law28_CertifySurely_l0 a0 a2) a2.length 0 ([], [], [])))) (Int.toNat a0.hours) 0 (a0.tank.start, 0)) (runI (law28_CertifySurely_l3 a0 a3 (outR (runI (law28_CertifySurely_l0 a0 a2) a2.length 0 ([], [], [])))) (Int.toNat a0.hours) 0 (a0.tank.start, 0)) (fun _ => .ret) (fun x_3_0 => ⟨[(8, .v (.bool false))], [.dead, .dead, .dead, .dead, .dead, .dead]⟩) (fun s_3 => ⟨[], [.dead, .dead, .dead, .dead, .dead, .dead]⟩)) else none), ?_, ?_⟩
  · unfold bodyOf Try.f6
    simp only [loopsOk, true_and, and_true]
    refine ⟨?_, ?_, ?_, ?_⟩
    · refine count_okR mixed ts_ok hG (by kernel_rfl) fun st lc hC hp => ?_
      simp only [go_sem, Nat.reduceBEq, Option.some.injEq] at hC
      subst hC
      obtain ⟨t, h⟩ := st
      dsimp only [LC] at hp
      obtain ⟨e0_0, e0_1, e0_2, e0_3, e0_4, e0_5, e0_6, e0_7, e0_8, e0_9, rfl, hb0, hok0⟩ := hp
      refine ⟨_, _, _, (law28_CertifySurely_l0 a0 a2), (law28_CertifySurely_l0_p a0 a2), a2.length, ([], [], []), _, _, _, (fun k_0 s_0 => ⟨[(1, .rs .claim a1), (3, .rs .u8 a3), (4, .ptr 0 0), (11, .os 1), (12, .os 2), (13, .os 3), (14, .os 4), (57, .rs .order a2), (58, .v (.int .i64 (a2.length : Int))), (59, .v (.int .i64 (k_0 : Int)))], [.cells [.v (.string a0.name), .v (.int .i64 a0.hours), .v (.int .i64 a0.tank.cap), .v (.int .i64 a0.tank.start), .rs .reach a0.reaches, .rs .farm a0.farms, .rs .crop a0.crops, .rs .right a0.rights, .rs .duty a0.duties, .rs .well a0.wells], .mp .acequialaw28Cell .int s_0.2.2 none, .mp .acequialaw28Cell .int s_0.1 none, .mp .acequialaw28Cell .int ([]) none, .mp .acequialaw28Cell .int s_0.2.1 none]⟩), ⟨t, [.cells [.v (.string a0.name), .v (.int .i64 a0.hours), .v (.int .i64 a0.tank.cap), .v (.int .i64 a0.tank.start), .rs .reach a0.reaches, .rs .farm a0.farms, .rs .crop a0.crops, .rs .right a0.rights, .rs .duty a0.duties, .rs .well a0.wells], .mp .acequialaw28Cell .int ([]) none, .mp .acequialaw28Cell .int ([]) none, .mp .acequialaw28Cell .int ([]) none, .mp .acequialaw28Cell .int ([]) none]⟩, [0, 1, 2, 3, 4], rfl, hok0, NilS.refl _, Nat.le_of_ble_eq_true rfl, ?_, fun k_0 s_0 hk0 hp0 => ?_⟩
      · simp only [go_sem, Nat.reduceBEq, Nat.reduceLeDiff, Nat.reduceAdd, Nat.reduceSub, Nat.reduceMul, Int.reduceLE, Int.reduceLT, Int.reduceToNat, Int.reduceNeg, reduceCtorEq, e0_0, e0_1, e0_2, e0_3, e0_4, e0_5, e0_6, e0_7, e0_8, e0_9]
        all_goals (first | done | decide | (repeat' (first | refine And.intro ?_ ?_ | rfl | decide)))
      refine ⟨(fun id st => none), ?_, ?_⟩
      · simp only [loopsOk, and_self, true_and, and_true]
      · by_cases hlt0 : k_0 < a2.length
        · have hw0 := wrapS hlt0 hb0
          have hq0 := hp0 hlt0
          unfold law28_CertifySurely_l0_p at hq0
          try simp only [hw0, Int.toNat_natCast] at hq0
          have hc0 : decide ((k_0 : Int) < (a2.length : Int)) = true := by simp only [decide_eq_true_eq]; omega
          simp only [go_sem, Nat.reduceBEq, Nat.reduceLeDiff, Nat.reduceAdd, Nat.reduceSub, Nat.reduceMul, Int.reduceLE, Int.reduceLT, Int.reduceToNat, Int.reduceNeg, reduceCtorEq, C_law28_sane, C_ref28_Few, C_certify_Accepts, C_losses_Lost, law28_CertifySurely_l0, hc0, hw0]
          all_goals exact crSxR14_0
        · have hc0 : decide ((k_0 : Int) < (a2.length : Int)) = false := by simp only [decide_eq_false_iff_not]; omega
          simp only [go_sem, Nat.reduceBEq, Nat.reduceLeDiff, Nat.reduceAdd, Nat.reduceSub, Nat.reduceMul, Int.reduceLE, Int.reduceLT, Int.reduceToNat, Int.reduceNeg, reduceCtorEq, C_law28_sane, C_ref28_Few, C_certify_Accepts, C_losses_Lost, hc0]
          all_goals exact crSxR14_0
    · refine count_okR mixed ts_ok hG (by kernel_rfl) fun st lc hC hp => ?_
      simp only [go_sem, Nat.reduceBEq, Option.some.injEq] at hC
      subst hC
      obtain ⟨t, h⟩ := st
      dsimp only [LC] at hp
      obtain ⟨e1_0, e1_1, e1_2, e1_3, e1_4, e1_5, e1_6, e1_7, e1_8, rfl, hb1⟩ := hp
      refine ⟨_, _, _, (law28_CertifySurely_l1 a1), (law28_CertifySurely_l1_p a1), a1.length, [], _, _, _, (fun k_1 s_1 => ⟨[(3, .rs .u8 a3), (4, .ptr 0 0), (11, .os 1), (12, .os 2), (13, .os 3), (14, .os 4), (116, .rs .claim a1), (117, .v (.int .i64 (a1.length : Int))), (118, .v (.int .i64 (k_1 : Int)))], [.cells [.v (.string a0.name), .v (.int .i64 a0.hours), .v (.int .i64 a0.tank.cap), .v (.int .i64 a0.tank.start), .rs .reach a0.reaches, .rs .farm a0.farms, .rs .crop a0.crops, .rs .right a0.rights, .rs .duty a0.duties, .rs .well a0.wells], .mp .acequialaw28Cell .int (outR (runI (law28_CertifySurely_l0 a0 a2) a2.length 0 ([], [], []))).2.2 none, .mp .acequialaw28Cell .int (outR (runI (law28_CertifySurely_l0 a0 a2) a2.length 0 ([], [], []))).1 none, .mp .acequialaw28Cell .int s_1 none, .mp .acequialaw28Cell .int (outR (runI (law28_CertifySurely_l0 a0 a2) a2.length 0 ([], [], []))).2.1 none]⟩), ⟨t, [.cells [.v (.string a0.name), .v (.int .i64 a0.hours), .v (.int .i64 a0.tank.cap), .v (.int .i64 a0.tank.start), .rs .reach a0.reaches, .rs .farm a0.farms, .rs .crop a0.crops, .rs .right a0.rights, .rs .duty a0.duties, .rs .well a0.wells], .mp .acequialaw28Cell .int (outR (runI (law28_CertifySurely_l0 a0 a2) a2.length 0 ([], [], []))).2.2 none, .mp .acequialaw28Cell .int (outR (runI (law28_CertifySurely_l0 a0 a2) a2.length 0 ([], [], []))).1 none, .mp .acequialaw28Cell .int ([]) none, .mp .acequialaw28Cell .int (outR (runI (law28_CertifySurely_l0 a0 a2) a2.length 0 ([], [], []))).2.1 none]⟩, [0, 1, 2, 3, 4], rfl, okI_all _ _ _ fun _ _ _ _ => trivial, NilS.refl _, Nat.le_of_ble_eq_true rfl, ?_, fun k_1 s_1 hk1 hp1 => ?_⟩
      · simp only [go_sem, Nat.reduceBEq, Nat.reduceLeDiff, Nat.reduceAdd, Nat.reduceSub, Nat.reduceMul, Int.reduceLE, Int.reduceLT, Int.reduceToNat, Int.reduceNeg, reduceCtorEq, e1_0, e1_1, e1_2, e1_3, e1_4, e1_5, e1_6, e1_7, e1_8]
        all_goals (first | done | decide | (repeat' (first | refine And.intro ?_ ?_ | rfl | decide)))
      refine ⟨(fun id st => none), ?_, ?_⟩
      · simp only [loopsOk, and_self, true_and, and_true]
      · by_cases hlt1 : k_1 < a1.length
        · have hw1 := wrapS hlt1 hb1
          have hq1 := hp1 hlt1
          unfold law28_CertifySurely_l1_p at hq1
          try simp only [hw1, Int.toNat_natCast] at hq1
          have hc1 : decide ((k_1 : Int) < (a1.length : Int)) = true := by simp only [decide_eq_true_eq]; omega
          simp only [go_sem, Nat.reduceBEq, Nat.reduceLeDiff, Nat.reduceAdd, Nat.reduceSub, Nat.reduceMul, Int.reduceLE, Int.reduceLT, Int.reduceToNat, Int.reduceNeg, reduceCtorEq, C_law28_sane, C_ref28_Few, C_certify_Accepts, C_losses_Lost, law28_CertifySurely_l1, hc1, hw1]
          all_goals exact crSxR14_0
        · have hc1 : decide ((k_1 : Int) < (a1.length : Int)) = false := by simp only [decide_eq_false_iff_not]; omega
          simp only [go_sem, Nat.reduceBEq, Nat.reduceLeDiff, Nat.reduceAdd, Nat.reduceSub, Nat.reduceMul, Int.reduceLE, Int.reduceLT, Int.reduceToNat, Int.reduceNeg, reduceCtorEq, C_law28_sane, C_ref28_Few, C_certify_Accepts, C_losses_Lost, hc1]
          all_goals exact crSxR14_0
    · refine count_okM mixed ts_ok hG (by kernel_rfl) fun st lc hC hp => ?_
      simp only [go_sem, Nat.reduceBEq, Option.some.injEq] at hC
      subst hC
      obtain ⟨t, h⟩ := st
      dsimp only [LC] at hp
      obtain ⟨e2_0, e2_1, e2_2, e2_3, e2_4, e2_5, rfl, hok2⟩ := hp
      refine ⟨_, _, _, _, (law28_CertifySurely_l2 (outR (runI (law28_CertifySurely_l0 a0 a2) a2.length 0 ([], [], []))) (outR (runI (law28_CertifySurely_l1 a1) a1.length 0 ([])))), (law28_CertifySurely_l2_p (outR (runI (law28_CertifySurely_l0 a0 a2) a2.length 0 ([], [], []))) (outR (runI (law28_CertifySurely_l1 a1) a1.length 0 ([])))), (outR (runI (law28_CertifySurely_l1 a1) a1.length 0 ([]))), (dflt .acequialaw28Cell, dflt .int), (), _, _, _, (fun left_2 cur_2 s_2 => ⟨[(3, .rs .u8 a3), (4, .ptr 0 0), (11, .os 1), (12, .os 2), (14, .os 4), (136, .ptr 5 0)], [.cells [.v (.string a0.name), .v (.int .i64 a0.hours), .v (.int .i64 a0.tank.cap), .v (.int .i64 a0.tank.start), .rs .reach a0.reaches, .rs .farm a0.farms, .rs .crop a0.crops, .rs .right a0.rights, .rs .duty a0.duties, .rs .well a0.wells], .mp .acequialaw28Cell .int (outR (runI (law28_CertifySurely_l0 a0 a2) a2.length 0 ([], [], []))).2.2 none, .mp .acequialaw28Cell .int (outR (runI (law28_CertifySurely_l0 a0 a2) a2.length 0 ([], [], []))).1 none, .mp .acequialaw28Cell .int (outR (runI (law28_CertifySurely_l1 a1) a1.length 0 ([]))) none, .mp .acequialaw28Cell .int (outR (runI (law28_CertifySurely_l0 a0 a2) a2.length 0 ([], [], []))).2.1 none, .mi (some 3) (outR (runI (law28_CertifySurely_l1 a1) a1.length 0 ([]))).length left_2 cur_2]⟩), 5, ⟨t, [.cells [.v (.string a0.name), .v (.int .i64 a0.hours), .v (.int .i64 a0.tank.cap), .v (.int .i64 a0.tank.start), .rs .reach a0.reaches, .rs .farm a0.farms, .rs .crop a0.crops, .rs .right a0.rights, .rs .duty a0.duties, .rs .well a0.wells], .mp .acequialaw28Cell .int (outR (runI (law28_CertifySurely_l0 a0 a2) a2.length 0 ([], [], []))).2.2 none, .mp .acequialaw28Cell .int (outR (runI (law28_CertifySurely_l0 a0 a2) a2.length 0 ([], [], []))).1 none, .mp .acequialaw28Cell .int (outR (runI (law28_CertifySurely_l1 a1) a1.length 0 ([]))) none, .mp .acequialaw28Cell .int (outR (runI (law28_CertifySurely_l0 a0 a2) a2.length 0 ([], [], []))).2.1 none, .mi (some 3) (outR (runI (law28_CertifySurely_l1 a1) a1.length 0 ([]))).length (List.range (outR (runI (law28_CertifySurely_l1 a1) a1.length 0 ([]))).length) none]⟩, [0, 1, 2, 3, 4, 5], rfl, hok2, NilS.refl _, Nat.le_of_ble_eq_true rfl, ?_, fun left_2 cur_2 s_2 hp2 => ?_⟩
      · simp only [go_sem, Nat.reduceBEq, Nat.reduceLeDiff, Nat.reduceAdd, Nat.reduceSub, Nat.reduceMul, Int.reduceLE, Int.reduceLT, Int.reduceToNat, Int.reduceNeg, reduceCtorEq, e2_0, e2_1, e2_2, e2_3, e2_4, e2_5]
        all_goals (first | done | decide | (repeat' (first | refine And.intro ?_ ?_ | rfl | decide)))
      refine ⟨(fun id st => none), ?_, ?_⟩
      · simp only [loopsOk, and_self, true_and, and_true]
      · by_cases hl2 : left_2 = []
        · subst hl2
          simp only [go_sem, Nat.reduceBEq, Nat.reduceLeDiff, Nat.reduceAdd, Nat.reduceSub, Nat.reduceMul, Int.reduceLE, Int.reduceLT, Int.reduceToNat, Int.reduceNeg, reduceCtorEq, C_law28_sane, C_ref28_Few, C_certify_Accepts, C_losses_Lost, List.not_mem_nil]
          all_goals exact crSxR14_1
        · simp only [go_sem, Nat.reduceBEq, Nat.reduceLeDiff, Nat.reduceAdd, Nat.reduceSub, Nat.reduceMul, Int.reduceLE, Int.reduceLT, Int.reduceToNat, Int.reduceNeg, reduceCtorEq, C_law28_sane, C_ref28_Few, C_certify_Accepts, C_losses_Lost, law28_CertifySurely_l2, hl2]
          intro j hj2
          obtain ⟨hlt2, hq2⟩ := hp2 j hj2
          unfold law28_CertifySurely_l2_p at hq2
          all_goals exact crSxR14_1
    · refine count_okP mixed ts_ok hG (by kernel_rfl) fun st lc hC hp => ?_
      simp only [go_sem, Nat.reduceBEq, Option.some.injEq] at hC
      subst hC
      obtain ⟨t, h⟩ := st
      dsimp only [LC] at hp
      obtain ⟨e3_0, e3_1, e3_2, e3_3, e3_4, e3_5, e3_6, e3_7, rfl, hb3, hok3⟩ := hp
      refine ⟨_, _, _, (law28_CertifySurely_l3 a0 a3 (outR (runI (law28_CertifySurely_l0 a0 a2) a2.length 0 ([], [], [])))), (law28_CertifySurely_l3_p a0 a3 (outR (runI (law28_CertifySurely_l0 a0 a2) a2.length 0 ([], [], [])))), (Int.toNat a0.hours), (a0.tank.start, 0), _, _, _, (fun k_3 s_3 => ⟨[(3, .rs .u8 a3), (4, .ptr 0 0), (11, .os 1), (14, .os 4), (22, .v (.int .i64 s_3.1)), (23, .v (.int .i64 s_3.2)), (151, .v (.int .i64 a0.hours)), (152, .v (.int .i64 (k_3 : Int)))], [.cells [.v (.string a0.name), .v (.int .i64 a0.hours), .v (.int .i64 a0.tank.cap), .v (.int .i64 a0.tank.start), .rs .reach a0.reaches, .rs .farm a0.farms, .rs .crop a0.crops, .rs .right a0.rights, .rs .duty a0.duties, .rs .well a0.wells], .mp .acequialaw28Cell .int (outR (runI (law28_CertifySurely_l0 a0 a2) a2.length 0 ([], [], []))).2.2 none, .dead, .dead, .mp .acequialaw28Cell .int (outR (runI (law28_CertifySurely_l0 a0 a2) a2.length 0 ([], [], []))).2.1 none, .dead]⟩), [0, 1, 2, 3, 4, 5], rfl, hok3, Nat.le_refl _, ?_, fun k_3 s_3 hk3 hp3 => ?_⟩
      · simp only [go_sem, Nat.reduceBEq, Nat.reduceLeDiff, Nat.reduceAdd, Nat.reduceSub, Nat.reduceMul, Int.reduceLE, Int.reduceLT, Int.reduceToNat, Int.reduceNeg, reduceCtorEq, e3_0, e3_1, e3_2, e3_3, e3_4, e3_5, e3_6, e3_7]
        all_goals (first | done | decide | (repeat' (first | refine And.intro ?_ ?_ | rfl | decide)))
      refine ⟨(fun id st => bif Nat.beq id 8 then some (LC (ρ := Unit) (σ := Int) (lk 3 st.t = .rs .u8 a3 ∧ lk 4 st.t = .ptr 0 0 ∧ lk 11 st.t = .os 1 ∧ lk 14 st.t = .os 4 ∧ lk 22 st.t = .v (.int .i64 (IntKind.i64.wrap (s_3.1 - (mgetT .acequialaw28Cell .int (outR (runI (law28_CertifySurely_l0 a0 a2) a2.length 0 ([], [], []))).2.2 ({ at_ := 0, hour := (k_3 : Int) } : Acequialaw28Cell))))) ∧ lk 23 st.t = .v (.int .i64 s_3.2) ∧ lk 24 st.t = .v (.int .i64 (k_3 : Int)) ∧ lk 151 st.t = .v (.int .i64 a0.hours) ∧ lk 152 st.t = .v (.int .i64 (k_3 : Int)) ∧ lk 164 st.t = .rs .reach a0.reaches ∧ lk 165 st.t = .v (.int .i64 (a0.reaches.length : Int)) ∧ lk 166 st.t = .v (.int .i64 0) ∧ st.h = [.cells [.v (.string a0.name), .v (.int .i64 a0.hours), .v (.int .i64 a0.tank.cap), .v (.int .i64 a0.tank.start), .rs .reach a0.reaches, .rs .farm a0.farms, .rs .crop a0.crops, .rs .right a0.rights, .rs .duty a0.duties, .rs .well a0.wells], .mp .acequialaw28Cell .int (outR (runI (law28_CertifySurely_l0 a0 a2) a2.length 0 ([], [], []))).2.2 none, .dead, .dead, .mp .acequialaw28Cell .int (outR (runI (law28_CertifySurely_l0 a0 a2) a2.length 0 ([], [], []))).2.1 none, .dead] ∧ a0.reaches.length ≤ maxL ∧ okI (law28_CertifySurely_l4 a0 a3 (outR (runI (law28_CertifySurely_l0 a0 a2) a2.length 0 ([], [], []))) k_3) (law28_CertifySurely_l4_p a0 a3 (outR (runI (law28_CertifySurely_l0 a0 a2) a2.length 0 ([], [], []))) k_3) a0.reaches.length 0 s_3.2) (runI (law28_CertifySurely_l4 a0 a3 (outR (runI (law28_CertifySurely_l0 a0 a2) a2.length 0 ([], [], []))) k_3) a0.reaches.length 0 s_3.2) (fun _ => .ret) (fun x_4_0 => ⟨[(8, .v (.bool false))], [.dead, .dead, .dead, .dead, .dead, .dead]⟩) (fun s_4 => ⟨[(3, .rs .u8 a3), (4, .ptr 0 0), (11, .os 1), (14, .os 4), (22, .v (.int .i64 (IntKind.i64.wrap (s_3.1 - (mgetT .acequialaw28Cell .int (outR (runI (law28_CertifySurely_l0 a0 a2) a2.length 0 ([], [], []))).2.2 ({ at_ := 0, hour := (k_3 : Int) } : Acequialaw28Cell)))))), (23, .v (.int .i64 s_4)), (151, .v (.int .i64 a0.hours)), (152, .v (.int .i64 (k_3 : Int)))], [.cells [.v (.string a0.name), .v (.int .i64 a0.hours), .v (.int .i64 a0.tank.cap), .v (.int .i64 a0.tank.start), .rs .reach a0.reaches, .rs .farm a0.farms, .rs .crop a0.crops, .rs .right a0.rights, .rs .duty a0.duties, .rs .well a0.wells], .mp .acequialaw28Cell .int (outR (runI (law28_CertifySurely_l0 a0 a2) a2.length 0 ([], [], []))).2.2 none, .dead, .dead, .mp .acequialaw28Cell .int (outR (runI (law28_CertifySurely_l0 a0 a2) a2.length 0 ([], [], []))).2.1 none, .dead]⟩)) else none), ?_, ?_⟩
      · simp only [loopsOk, true_and, and_true]
        · refine count_okP mixed ts_ok hG (by kernel_rfl) fun st lc hC hp => ?_
          simp only [go_sem, Nat.reduceBEq, Option.some.injEq] at hC
          subst hC
          obtain ⟨t, h⟩ := st
          dsimp only [LC] at hp
          obtain ⟨e4_0, e4_1, e4_2, e4_3, e4_4, e4_5, e4_6, e4_7, e4_8, e4_9, e4_10, e4_11, rfl, hb4, hok4⟩ := hp
          refine ⟨_, _, _, (law28_CertifySurely_l4 a0 a3 (outR (runI (law28_CertifySurely_l0 a0 a2) a2.length 0 ([], [], []))) k_3), (law28_CertifySurely_l4_p a0 a3 (outR (runI (law28_CertifySurely_l0 a0 a2) a2.length 0 ([], [], []))) k_3), a0.reaches.length, s_3.2, _, _, _, (fun k_4 s_4 => ⟨[(3, .rs .u8 a3), (4, .ptr 0 0), (11, .os 1), (14, .os 4), (22, .v (.int .i64 (IntKind.i64.wrap (s_3.1 - (mgetT .acequialaw28Cell .int (outR (runI (law28_CertifySurely_l0 a0 a2) a2.length 0 ([], [], []))).2.2 ({ at_ := 0, hour := (k_3 : Int) } : Acequialaw28Cell)))))), (23, .v (.int .i64 s_4)), (24, .v (.int .i64 (k_3 : Int))), (151, .v (.int .i64 a0.hours)), (152, .v (.int .i64 (k_3 : Int))), (164, .rs .reach a0.reaches), (165, .v (.int .i64 (a0.reaches.length : Int))), (166, .v (.int .i64 (k_4 : Int)))], [.cells [.v (.string a0.name), .v (.int .i64 a0.hours), .v (.int .i64 a0.tank.cap), .v (.int .i64 a0.tank.start), .rs .reach a0.reaches, .rs .farm a0.farms, .rs .crop a0.crops, .rs .right a0.rights, .rs .duty a0.duties, .rs .well a0.wells], .mp .acequialaw28Cell .int (outR (runI (law28_CertifySurely_l0 a0 a2) a2.length 0 ([], [], []))).2.2 none, .dead, .dead, .mp .acequialaw28Cell .int (outR (runI (law28_CertifySurely_l0 a0 a2) a2.length 0 ([], [], []))).2.1 none, .dead]⟩), [0, 1, 2, 3, 4, 5], rfl, hok4, Nat.le_refl _, ?_, fun k_4 s_4 hk4 hp4 => ?_⟩
          · simp only [go_sem, Nat.reduceBEq, Nat.reduceLeDiff, Nat.reduceAdd, Nat.reduceSub, Nat.reduceMul, Int.reduceLE, Int.reduceLT, Int.reduceToNat, Int.reduceNeg, reduceCtorEq, e4_0, e4_1, e4_2, e4_3, e4_4, e4_5, e4_6, e4_7, e4_8, e4_9, e4_10, e4_11]
            all_goals (first | done | decide | (repeat' (first | refine And.intro ?_ ?_ | rfl | decide)))
          refine ⟨(fun id st => bif Nat.beq id 10 then some (LC (ρ := Empty) (σ := Int) (lk 3 st.t = .rs .u8 a3 ∧ lk 4 st.t = .ptr 0 0 ∧ lk 11 st.t = .os 1 ∧ lk 14 st.t = .os 4 ∧ lk 22 st.t = .v (.int .i64 (IntKind.i64.wrap (s_3.1 - (mgetT .acequialaw28Cell .int (outR (runI (law28_CertifySurely_l0 a0 a2) a2.length 0 ([], [], []))).2.2 ({ at_ := 0, hour := (k_3 : Int) } : Acequialaw28Cell))))) ∧ lk 23 st.t = .v (.int .i64 s_4) ∧ lk 24 st.t = .v (.int .i64 (k_3 : Int)) ∧ lk 25 st.t = .v (.int .i64 (k_4 : Int)) ∧ lk 26 st.t = .ptr 6 0 ∧ lk 27 st.t = .v (.int .i64 0) ∧ lk 151 st.t = .v (.int .i64 a0.hours) ∧ lk 152 st.t = .v (.int .i64 (k_3 : Int)) ∧ lk 164 st.t = .rs .reach a0.reaches ∧ lk 165 st.t = .v (.int .i64 (a0.reaches.length : Int)) ∧ lk 166 st.t = .v (.int .i64 (k_4 : Int)) ∧ lk 172 st.t = .v (.int .i64 ((a0.reaches.getD k_4 (default : Reach)).delay)) ∧ lk 173 st.t = .v (.int .i64 0) ∧ st.h = [.cells [.v (.string a0.name), .v (.int .i64 a0.hours), .v (.int .i64 a0.tank.cap), .v (.int .i64 a0.tank.start), .rs .reach a0.reaches, .rs .farm a0.farms, .rs .crop a0.crops, .rs .right a0.rights, .rs .duty a0.duties, .rs .well a0.wells], .mp .acequialaw28Cell .int (outR (runI (law28_CertifySurely_l0 a0 a2) a2.length 0 ([], [], []))).2.2 none, .dead, .dead, .mp .acequialaw28Cell .int (outR (runI (law28_CertifySurely_l0 a0 a2) a2.length 0 ([], [], []))).2.1 none, .dead, .cells [.v (.string ((a0.reaches.getD k_4 (default : Reach)).name)), .v (.int .i64 ((a0.reaches.getD k_4 (default : Reach)).up)), .v (.int .i64 ((a0.reaches.getD k_4 (default : Reach)).delay)), .v (.int .i64 ((a0.reaches.getD k_4 (default : Reach)).cap)), .v (.int .i64 ((a0.reaches.getD k_4 (default : Reach)).bank)), .v (.int .i64 ((a0.reaches.getD k_4 (default : Reach)).siphon)), .v (.int .i64 ((a0.reaches.getD k_4 (default : Reach)).evap.lo)), .v (.int .i64 ((a0.reaches.getD k_4 (default : Reach)).evap.hi)), .v (.int .i64 ((a0.reaches.getD k_4 (default : Reach)).seep.1.n)), .v (.int .i64 ((a0.reaches.getD k_4 (default : Reach)).seep.1.d)), .v (.int .i64 ((a0.reaches.getD k_4 (default : Reach)).seep.2.n)), .v (.int .i64 ((a0.reaches.getD k_4 (default : Reach)).seep.2.d))]] ∧ (a0.reaches.getD k_4 (default : Reach)).delay < 9223372036854775808) (runI (law28_CertifySurely_l5 a0 (outR (runI (law28_CertifySurely_l0 a0 a2) a2.length 0 ([], [], []))) k_3 k_4) (Int.toNat ((a0.reaches.getD k_4 (default : Reach)).delay)) 0 0) (fun x => x.elim) (fun x => x.elim) (fun s_5 => ⟨[(3, .rs .u8 a3), (4, .ptr 0 0), (11, .os 1), (14, .os 4), (22, .v (.int .i64 (IntKind.i64.wrap (s_3.1 - (mgetT .acequialaw28Cell .int (outR (runI (law28_CertifySurely_l0 a0 a2) a2.length 0 ([], [], []))).2.2 ({ at_ := 0, hour := (k_3 : Int) } : Acequialaw28Cell)))))), (23, .v (.int .i64 s_4)), (24, .v (.int .i64 (k_3 : Int))), (25, .v (.int .i64 (k_4 : Int))), (26, .ptr 6 0), (27, .v (.int .i64 s_5)), (151, .v (.int .i64 a0.hours)), (152, .v (.int .i64 (k_3 : Int))), (164, .rs .reach a0.reaches), (165, .v (.int .i64 (a0.reaches.length : Int))), (166, .v (.int .i64 (k_4 : Int)))], [.cells [.v (.string a0.name), .v (.int .i64 a0.hours), .v (.int .i64 a0.tank.cap), .v (.int .i64 a0.tank.start), .rs .reach a0.reaches, .rs .farm a0.farms, .rs .crop a0.crops, .rs .right a0.rights, .rs .duty a0.duties, .rs .well a0.wells], .mp .acequialaw28Cell .int (outR (runI (law28_CertifySurely_l0 a0 a2) a2.length 0 ([], [], []))).2.2 none, .dead, .dead, .mp .acequialaw28Cell .int (outR (runI (law28_CertifySurely_l0 a0 a2) a2.length 0 ([], [], []))).2.1 none, .dead, .cells [.v (.string ((a0.reaches.getD k_4 (default : Reach)).name)), .v (.int .i64 ((a0.reaches.getD k_4 (default : Reach)).up)), .v (.int .i64 ((a0.reaches.getD k_4 (default : Reach)).delay)), .v (.int .i64 ((a0.reaches.getD k_4 (default : Reach)).cap)), .v (.int .i64 ((a0.reaches.getD k_4 (default : Reach)).bank)), .v (.int .i64 ((a0.reaches.getD k_4 (default : Reach)).siphon)), .v (.int .i64 ((a0.reaches.getD k_4 (default : Reach)).evap.lo)), .v (.int .i64 ((a0.reaches.getD k_4 (default : Reach)).evap.hi)), .v (.int .i64 ((a0.reaches.getD k_4 (default : Reach)).seep.1.n)), .v (.int .i64 ((a0.reaches.getD k_4 (default : Reach)).seep.1.d)), .v (.int .i64 ((a0.reaches.getD k_4 (default : Reach)).seep.2.n)), .v (.int .i64 ((a0.reaches.getD k_4 (default : Reach)).seep.2.d))]]⟩)) else none), ?_, ?_⟩
          · simp only [loopsOk, true_and, and_true]
            · refine count_okP mixed ts_ok hG (by kernel_rfl) fun st lc hC hp => ?_
              simp only [go_sem, Nat.reduceBEq, Option.some.injEq] at hC
              subst hC
              obtain ⟨t, h⟩ := st
              dsimp only [LC] at hp
              obtain ⟨e5_0, e5_1, e5_2, e5_3, e5_4, e5_5, e5_6, e5_7, e5_8, e5_9, e5_10, e5_11, e5_12, e5_13, e5_14, e5_15, e5_16, rfl, hb5⟩ := hp
              refine ⟨_, _, _, (law28_CertifySurely_l5 a0 (outR (runI (law28_CertifySurely_l0 a0 a2) a2.length 0 ([], [], []))) k_3 k_4), (law28_CertifySurely_l5_p a0 (outR (runI (law28_CertifySurely_l0 a0 a2) a2.length 0 ([], [], []))) k_3 k_4), (Int.toNat ((a0.reaches.getD k_4 (default : Reach)).delay)), 0, _, _, _, (fun k_5 s_5 => ⟨[(3, .rs .u8 a3), (4, .ptr 0 0), (11, .os 1), (14, .os 4), (22, .v (.int .i64 (IntKind.i64.wrap (s_3.1 - (mgetT .acequialaw28Cell .int (outR (runI (law28_CertifySurely_l0 a0 a2) a2.length 0 ([], [], []))).2.2 ({ at_ := 0, hour := (k_3 : Int) } : Acequialaw28Cell)))))), (23, .v (.int .i64 s_4)), (24, .v (.int .i64 (k_3 : Int))), (25, .v (.int .i64 (k_4 : Int))), (26, .ptr 6 0), (27, .v (.int .i64 s_5)), (151, .v (.int .i64 a0.hours)), (152, .v (.int .i64 (k_3 : Int))), (164, .rs .reach a0.reaches), (165, .v (.int .i64 (a0.reaches.length : Int))), (166, .v (.int .i64 (k_4 : Int))), (172, .v (.int .i64 ((a0.reaches.getD k_4 (default : Reach)).delay))), (173, .v (.int .i64 (k_5 : Int)))], [.cells [.v (.string a0.name), .v (.int .i64 a0.hours), .v (.int .i64 a0.tank.cap), .v (.int .i64 a0.tank.start), .rs .reach a0.reaches, .rs .farm a0.farms, .rs .crop a0.crops, .rs .right a0.rights, .rs .duty a0.duties, .rs .well a0.wells], .mp .acequialaw28Cell .int (outR (runI (law28_CertifySurely_l0 a0 a2) a2.length 0 ([], [], []))).2.2 none, .dead, .dead, .mp .acequialaw28Cell .int (outR (runI (law28_CertifySurely_l0 a0 a2) a2.length 0 ([], [], []))).2.1 none, .dead, .cells [.v (.string ((a0.reaches.getD k_4 (default : Reach)).name)), .v (.int .i64 ((a0.reaches.getD k_4 (default : Reach)).up)), .v (.int .i64 ((a0.reaches.getD k_4 (default : Reach)).delay)), .v (.int .i64 ((a0.reaches.getD k_4 (default : Reach)).cap)), .v (.int .i64 ((a0.reaches.getD k_4 (default : Reach)).bank)), .v (.int .i64 ((a0.reaches.getD k_4 (default : Reach)).siphon)), .v (.int .i64 ((a0.reaches.getD k_4 (default : Reach)).evap.lo)), .v (.int .i64 ((a0.reaches.getD k_4 (default : Reach)).evap.hi)), .v (.int .i64 ((a0.reaches.getD k_4 (default : Reach)).seep.1.n)), .v (.int .i64 ((a0.reaches.getD k_4 (default : Reach)).seep.1.d)), .v (.int .i64 ((a0.reaches.getD k_4 (default : Reach)).seep.2.n)), .v (.int .i64 ((a0.reaches.getD k_4 (default : Reach)).seep.2.d))]]⟩), [0, 1, 2, 3, 4, 5, 6], rfl, okI_all _ _ _ fun _ _ _ _ => trivial, Nat.le_refl _, ?_, fun k_5 s_5 hk5 hp5 => ?_⟩
              · simp only [go_sem, Nat.reduceBEq, Nat.reduceLeDiff, Nat.reduceAdd, Nat.reduceSub, Nat.reduceMul, Int.reduceLE, Int.reduceLT, Int.reduceToNat, Int.reduceNeg, reduceCtorEq, e5_0, e5_1, e5_2, e5_3, e5_4, e5_5, e5_6, e5_7, e5_8, e5_9, e5_10, e5_11, e5_12, e5_13, e5_14, e5_15, e5_16]
                all_goals (first | done | decide | (repeat' (first | refine And.intro ?_ ?_ | rfl | decide)))
              refine ⟨(fun id st => none), ?_, ?_⟩
              · simp only [loopsOk, and_self, true_and, and_true]
              · by_cases hlt5 : k_5 < (Int.toNat ((a0.reaches.getD k_4 (default : Reach)).delay))
                · have hw5 := wrapT hlt5 hb5
                  have hq5 := hp5 hlt5
                  unfold law28_CertifySurely_l5_p at hq5
                  try simp only [hw5, Int.toNat_natCast] at hq5
                  have hc5 : decide ((k_5 : Int) < (a0.reaches.getD k_4 (default : Reach)).delay) = true := by simp only [decide_eq_true_eq]; omega
                  simp only [go_sem, Nat.reduceBEq, Nat.reduceLeDiff, Nat.reduceAdd, Nat.reduceSub, Nat.reduceMul, Int.reduceLE, Int.reduceLT, Int.reduceToNat, Int.reduceNeg, reduceCtorEq, C_law28_sane, C_ref28_Few, C_certify_Accepts, C_losses_Lost, law28_CertifySurely_l5, hc5, hw5]
                  all_goals exact cl
                · have hc5 : decide ((k_5 : Int) < (a0.reaches.getD k_4 (default : Reach)).delay) = false := by simp only [decide_eq_false_iff_not]; omega
                  simp only [go_sem, Nat.reduceBEq, Nat.reduceLeDiff, Nat.reduceAdd, Nat.reduceSub, Nat.reduceMul, Int.reduceLE, Int.reduceLT, Int.reduceToNat, Int.reduceNeg, reduceCtorEq, C_law28_sane, C_ref28_Few, C_certify_Accepts, C_losses_Lost, hc5]
                  all_goals exact cl2
          · by_cases hlt4 : k_4 < a0.reaches.length
            · have hw4 := wrapS hlt4 hb4
              have hq4 := hp4 hlt4
              unfold law28_CertifySurely_l4_p at hq4
              try simp only [hw4, Int.toNat_natCast] at hq4
              have hc4 : decide ((k_4 : Int) < (a0.reaches.length : Int)) = true := by simp only [decide_eq_true_eq]; omega
              simp only [go_sem, Nat.reduceBEq, Nat.reduceLeDiff, Nat.reduceAdd, Nat.reduceSub, Nat.reduceMul, Int.reduceLE, Int.reduceLT, Int.reduceToNat, Int.reduceNeg, reduceCtorEq, C_law28_sane, C_ref28_Few, C_certify_Accepts, C_losses_Lost, law28_CertifySurely_l4, hc4, hw4]
              all_goals exact cl
            · have hc4 : decide ((k_4 : Int) < (a0.reaches.length : Int)) = false := by simp only [decide_eq_false_iff_not]; omega
              simp only [go_sem, Nat.reduceBEq, Nat.reduceLeDiff, Nat.reduceAdd, Nat.reduceSub, Nat.reduceMul, Int.reduceLE, Int.reduceLT, Int.reduceToNat, Int.reduceNeg, reduceCtorEq, C_law28_sane, C_ref28_Few, C_certify_Accepts, C_losses_Lost, hc4]
              all_goals exact cl2
      · by_cases hlt3 : k_3 < (Int.toNat a0.hours)
        · have hw3 := wrapT hlt3 hb3
          have hq3 := hp3 hlt3
          unfold law28_CertifySurely_l3_p at hq3
          try simp only [hw3, Int.toNat_natCast] at hq3
          have hc3 : decide ((k_3 : Int) < a0.hours) = true := by simp only [decide_eq_true_eq]; omega
          simp only [go_sem, Nat.reduceBEq, Nat.reduceLeDiff, Nat.reduceAdd, Nat.reduceSub, Nat.reduceMul, Int.reduceLE, Int.reduceLT, Int.reduceToNat, Int.reduceNeg, reduceCtorEq, C_law28_sane, C_ref28_Few, C_certify_Accepts, C_losses_Lost, law28_CertifySurely_l3, hc3, hw3]
          all_goals exact cl
        · have hc3 : decide ((k_3 : Int) < a0.hours) = false := by simp only [decide_eq_false_iff_not]; omega
          simp only [go_sem, Nat.reduceBEq, Nat.reduceLeDiff, Nat.reduceAdd, Nat.reduceSub, Nat.reduceMul, Int.reduceLE, Int.reduceLT, Int.reduceToNat, Int.reduceNeg, reduceCtorEq, C_law28_sane, C_ref28_Few, C_certify_Accepts, C_losses_Lost, hc3]
          all_goals exact cl2
  · unfold bodyOf Try.f6
    try unfold law28_CertifySurely
    simp only [go_sem, Nat.reduceBEq, Nat.reduceLeDiff, Nat.reduceAdd, Nat.reduceSub, Nat.reduceMul, Int.reduceLE, Int.reduceLT, Int.reduceToNat, Int.reduceNeg, reduceCtorEq, C_law28_sane, C_ref28_Few, C_certify_Accepts, C_losses_Lost]
    all_goals exact cl
end Go.Sx
end
section
namespace Go.Sx
open Go.Proofs
structure Sure (d : District) (c : List Claim) (l : List Order) : Prop where
  ho : Orders1 d l
  clen : c.length ≤ 4096
  okc : ∀ a ∈ c, okC d a = true
  cap : ∀ r h : Nat, r < d.reaches.length → osum (gateP r h h) l ≤ (d.reaches.getD r default).cap
  bank : ∀ r h : Nat, r < d.reaches.length → h < d.hours.toNat → osum (gateP r ((h : Int) - (d.reaches.getD r default).delay + 1) h) l ≤ (d.reaches.getD r default).bank
  tank : ∀ h : Nat, h < d.hours.toNat → osum (gateP (0 : Nat) 0 h) l ≤ d.tank.start
  water : ∀ r h : Nat, r < d.reaches.length → h < d.hours.toNat → osum (drawP d r h) l ≤ (losses_Worst (d.reaches.getD r default) (osum (gateP r ((h : Int) - (d.reaches.getD r default).delay) ((h : Int) - (d.reaches.getD r default).delay)) l)).1
  unmet : ∀ h f : Nat, h < d.hours.toNat → f < d.farms.length → claimed { hour := (h : Int), index := (f : Int), outlet := true } c ≤ osum (outP f h) l
theorem gate_one {d : District} {l : List Order} (ho : Orders1 d l) (r h : Int) : osum (gateP r h h) l = 0 ∨ ∃ (j : Nat) (hj : j < l.length), l[j].outlet = false ∧ l[j].index = r ∧ l[j].hour = h ∧ osum (gateP r h h) l = l[j].litres := by
  by_cases hx : ∃ (j : Nat) (hj : j < l.length), gateP r h h l[j] = true
  · obtain ⟨j, hj, hp⟩ := hx
    have hp' := hp
    unfold gateP at hp'
    simp only [Bool.and_eq_true, beq_iff_eq, decide_eq_true_eq, Bool.not_eq_true'] at hp'
    refine .inr ⟨j, hj, hp'.1.1.1, hp'.1.1.2, by omega, osum_one hj hp fun i hi hne => ?_⟩
    cases hq : gateP r h h l[i] with
    | false => rfl
    | true =>
      unfold gateP at hq
      simp only [Bool.and_eq_true, beq_iff_eq, decide_eq_true_eq, Bool.not_eq_true'] at hq
      exact absurd (ho.uniq hi hj (by omega) (hq.1.1.2.trans hp'.1.1.2.symm) (hq.1.1.1.trans hp'.1.1.1.symm)) hne
  · refine .inl (osum_none fun x hxm => ?_)
    obtain ⟨j, hj, rfl⟩ := List.getElem_of_mem hxm
    cases hq : gateP r h h l[j] with
    | false => rfl
    | true => exact absurd ⟨j, hj, hq⟩ hx
theorem gate_range {d : District} {l : List Order} (ho : Orders1 d l) (r h : Int) : 0 ≤ osum (gateP r h h) l ∧ osum (gateP r h h) l ≤ 1073741824 := by
  rcases gate_one ho r h with h1 | ⟨j, hj, _, _, _, h1⟩
  · omega
  · have := ho.lit l[j] (List.getElem_mem _); omega
theorem place_gate (r h : Int) (x : Order) : placeP h r false x = gateP r h h x := by
  unfold placeP gateP
  refine b_iff ?_
  simp only [Bool.and_eq_true, beq_iff_eq, decide_eq_true_eq, Bool.not_eq_true']
  constructor
  · rintro ⟨⟨h1, h2⟩, h3⟩; exact ⟨⟨⟨h3, h2⟩, by omega⟩, by omega⟩
  · rintro ⟨⟨⟨h3, h2⟩, h1⟩, h4⟩; exact ⟨⟨by omega, h2⟩, h3⟩
theorem place_out (f h : Int) (x : Order) : placeP h f true x = outP f h x := by
  unfold placeP outP
  cases x.outlet <;> cases (x.index == f) <;> cases (x.hour == h) <;> rfl
theorem gate_add {d : District} {l : List Order} (ho : Orders1 d l) (r : Int) {a m b : Int} (h1 : a ≤ m) (h2 : m ≤ b + 1) : osum (gateP r a (m - 1)) l + osum (gateP r m b) l = osum (gateP r a b) l := osum_add fun x _ => by
  unfold gateP
  cases (!x.outlet && x.index == r)
  · simp
  · simp only [Bool.true_and]
    constructor
    · refine b_iff ?_
      simp only [Bool.or_eq_true, Bool.and_eq_true, decide_eq_true_eq]; omega
    · rw [Bool.eq_false_iff]
      simp only [ne_eq, Bool.and_eq_true, decide_eq_true_eq]; omega
theorem gate_low {d : District} {l : List Order} (ho : Orders1 d l) (r : Int) {a b : Int} (h : a ≤ 0) : osum (gateP r a b) l = osum (gateP r 0 b) l := osum_congr fun x hx => by
  obtain ⟨k, hk, rfl⟩ := List.getElem_of_mem hx
  have h0 := (ho.one k hk).hour0
  rw [getD_el _ _ hk] at h0
  unfold gateP
  rw [decide_eq_true (by omega : l[k].hour ≥ a), decide_eq_true (by omega : l[k].hour ≥ 0)]
theorem bank_sum {d : District} {l : List Order} {t : CertifyTable} (ho : Orders1 d l) (ht : t.d = d) (h2 : Table2 d l t) {h r : Nat} (hh : h < d.hours.toNat) (hr : r < d.reaches.length) :
    waterW t ((h : Int), (r : Int)) = osum (gateP r ((h : Int) - (d.reaches.getD r default).delay + 1) h) l := by
  have hR := ho.right
  have a1 := hR.hours1
  have a2 := hR.hours
  have hx := hR.reach1 hr
  have d1 := hx.delay1
  have d2 := hx.delay
  unfold waterW
  rw [ht]
  simp only [Int.toNat_natCast]
  generalize hdl : (d.reaches.getD r default).delay = dl at d1 d2
  have w1 : IntKind.i64.wrap ((h : Int) + 1) = (h : Int) + 1 := wrapI (by omega) (by omega)
  have w2 : IntKind.i64.wrap ((h : Int) + 1 - dl) = (h : Int) + 1 - dl := wrapI (by omega) (by omega)
  rw [w1, w2]
  generalize hm : (if 0 < (h : Int) + 1 - dl then (h : Int) + 1 - dl else 0) = m
  have m0 : 0 ≤ m ∧ m ≤ h ∧ (m = (h : Int) + 1 - dl ∨ m = 0 ∧ (h : Int) + 1 - dl ≤ 0) := by
    subst hm; split <;> omega
  have c1 := h2.sums r (h + 1) hr (by omega)
  have c2 := h2.sums r m.toNat hr (by omega)
  have e1 : ((h : Int) + 1).toNat = h + 1 := by omega
  rw [e1]
  show IntKind.i64.wrap (cell t.sums r (h + 1) - cell t.sums r m.toNat) = _
  rw [c1, c2]
  have e2 : (((h + 1 : Nat) : Int) - 1) = (h : Int) := by omega
  have e3 : ((m.toNat : Nat) : Int) = m := by omega
  rw [e2, e3]
  have b1 := all_le ho (gateP r 0 h)
  have b2 := all_le ho (gateP r 0 (m - 1))
  have hadd := gate_add ho r (a := 0) (m := m) (b := h) m0.1 (by omega)
  have hz : osum (gateP r ((h : Int) - dl + 1) h) l = osum (gateP r m h) l := by
    rcases m0.2.2 with e | ⟨e, e'⟩
    · rw [e, show (h : Int) - dl + 1 = (h : Int) + 1 - dl by omega]
    · rw [e]; exact gate_low ho r (by omega)
  rw [wrapI (by omega) (by omega), hz]
  omega
theorem cell_mem {t : CertifyTable} {h r : Nat} (hh : h < t.d.hours.toNat) (hr : r < t.d.reaches.length) : ((h : Int), (r : Int)) ∈ certify_cells t := by
  unfold certify_cells
  simp only [List.mem_flatMap, List.mem_range, List.mem_map]
  exact ⟨h, hh, r, hr, rfl⟩
theorem sure {d : District} {c : List Claim} {l : List Order} (h : certify_Accepts d c l = (true, 0)) : Sure d c l := by
  obtain ⟨h1, h2, q⟩ := (accepts_iff d c l).1 h
  have hc := (claims_iff d c).1 h1
  have ht := read_table (d := d) (l := l) (by simp [h2])
  have ho := ht.ords
  have hT := table2 h2
  have htd := ht.td
  have htl := ht.tl
  have hR := ho.right
  have a1 := hR.hours1
  have a2 := hR.hours
  generalize (certify_read d l).1 = t at q hT htd htl
  refine ⟨ho, hc.2.1, hc.2.2.1, fun r h hr => ?_, fun r h hr hh => ?_, fun h hh => ?_, fun r h hr hh => ?_, fun h f hh hf => ?_⟩
  · have hx := hR.reach1 hr
    have := hx.siphon0
    have := hx.siphon
    rcases gate_one ho (r : Int) (h : Int) with e | ⟨j, hj, e1, e2, e3, e⟩
    · omega
    · have := gF1_nil.1 (q.gate j (by rw [htl]; exact hj))
      rw [htl, htd, getD_el _ _ hj, e1, e2] at this
      simp only [Bool.false_eq_true, false_or, Int.toNat_natCast] at this
      omega
  · have := q.bank _ (cell_mem (t := t) (h := h) (r := r) (by rw [htd]; exact hh) (by rw [htd]; exact hr))
    unfold bF at this
    rw [Bool.cond_eq_ite, bank_sum ho htd hT hh hr, htd] at this
    simp only [Int.toNat_natCast, decide_eq_true_eq] at this
    split at this
    · cases this
    · omega
  · have := q.tank h (by rw [htd]; exact hh)
    have w1 : IntKind.i64.wrap ((h : Int) + 1) = (h : Int) + 1 := wrapI (by omega) (by omega)
    have c1 := hT.sums 0 (h + 1) hR.one (by omega)
    have e1 : ((h : Int) + 1).toNat = h + 1 := by omega
    have e2 : (((h + 1 : Nat) : Int) - 1) = (h : Int) := by omega
    rw [e2] at c1
    have c1 : (t.sums.getD 0 default).getD (h + 1) 0 = osum (gateP (0 : Nat) 0 h) l := c1
    rw [w1, e1, c1, htd] at this
    omega
  · have := q.water _ (cell_mem (t := t) (h := h) (r := r) (by rw [htd]; exact hh) (by rw [htd]; exact hr))
    unfold wF at this
    rw [Bool.cond_eq_ite] at this
    simp only [Int.toNat_natCast, decide_eq_true_eq] at this
    split at this
    · cases this
    · rename_i hw
      have hx := hR.reach1 hr
      have d1 := hx.delay1
      have d2 := hx.delay
      have c1 : (t.drawn.getD r default).getD h 0 = osum (drawP d r h) l := hT.drawn r h hr hh
      unfold certify_table_arrives at hw
      rw [c1, htd] at hw
      simp only [Int.toNat_natCast] at hw
      have eg : ∀ r h : Int, osum (placeP h r false) l = osum (gateP r h h) l := fun r h => osum_congr fun x _ => place_gate r h x
      rw [wrapI (by omega) (by omega), hT.lit, eg] at hw
      omega
  · have := uF_nil.1 (q.unmet h (by rw [htd]; exact hh) f (by rw [htd]; exact hf))
    have eo : osum (placeP (h : Int) (f : Int) true) l = osum (outP f h) l := osum_congr fun x _ => place_out _ _ x
    rw [hT.lit, claimedM_get hc.2.1 (fun a ha => okC_litres (hc.2.2.1 a ha)), eo] at this
    exact Int.not_lt.1 this
abbrev CM := List (Acequialaw28Cell × Int)
structure M3 (d : District) (pre : List Order) (s : CM × CM × CM) : Prop where
  out : ∀ f h : Int, mgetT .acequialaw28Cell .int s.1 { at_ := f, hour := h } = osum (outP f h) pre
  draw : ∀ r h : Int, 0 ≤ r → mgetT .acequialaw28Cell .int s.2.1 { at_ := r, hour := h } = osum (drawP d r h) pre
  inn : ∀ r h : Int, mgetT .acequialaw28Cell .int s.2.2 { at_ := r, hour := h } = osum (gateP r h h) pre
theorem put_new {m : CM} {pre : List Order} {x : Order} {q : Int → Int → Order → Bool} {a b v : Int} (hm : ∀ f h : Int, mgetT .acequialaw28Cell .int m { at_ := f, hour := h } = osum (q f h) pre)
    (hq : ∀ f h, q f h x = true ↔ f = a ∧ h = b) (hv : v = osum (q a b) pre + x.litres) (f h : Int) :
    mgetT .acequialaw28Cell .int (mupdT .acequialaw28Cell .int m { at_ := a, hour := b } v) { at_ := f, hour := h } = osum (q f h) pre + (bif q f h x then x.litres else 0) := by
  rw [mgetT_mupdT]
  by_cases e : f = a ∧ h = b
  · obtain ⟨rfl, rfl⟩ := e
    rw [if_pos rfl, (hq f h).2 ⟨rfl, rfl⟩, hv]
    rfl
  · rw [if_neg (fun e' => by simp only [Acequialaw28Cell.mk.injEq] at e'; exact e e'), hm]
    cases hc : q f h x with
    | true => exact absurd ((hq f h).1 hc) e
    | false => exact (Int.add_zero _).symm
theorem M3_step {d : District} {l : List Order} (ho : Orders1 d l) {j : Nat} (hj : j < l.length) {s s' : CM × CM × CM} (h : M3 d (l.take j) s) (hs : law28_CertifySurely_l0 d l j s = .inr s') : M3 d (l.take (j + 1)) s' := by
  have hR := ho.right
  have hx := ho.one j hj
  have hlit := ho.lit l[j] (List.getElem_mem _)
  rw [getD_el _ _ hj] at hx
  unfold law28_CertifySurely_l0 at hs
  rw [getD_el _ _ hj] at hs
  have nout : ∀ q : Order → Bool, q l[j] = false → osum q (l.take (j + 1)) = osum q (l.take j) := fun q hq => by
    rw [osum_take hj, hq]; exact Int.add_zero _
  cases ho1 : l[j].outlet with
  | true =>
    rw [ho1] at hs
    simp only [cond_true, Sum.inr.injEq] at hs
    subst hs
    have hf := hR.farm l[j].index.toNat (by have := hx.farm ho1; have := hx.index0; omega)
    refine ⟨fun f hh => ?_, fun r hh hr => ?_, fun r hh => ?_⟩
    · rw [osum_take hj]
      refine put_new h.out (fun f hh => ?_) ?_ f hh
      · unfold outP
        rw [ho1]
        simp only [Bool.true_and, Bool.and_eq_true, beq_iff_eq]
        exact ⟨fun h => ⟨h.1.symm, h.2.symm⟩, fun h => ⟨h.1.symm, h.2.symm⟩⟩
      · rw [take_none ho hj fun x hx => ?_]
        · exact (Int.zero_add _).symm
        · unfold outP at hx
          simp only [Bool.and_eq_true, beq_iff_eq] at hx
          exact ⟨hx.2, hx.1.2, by rw [hx.1.1, ho1]⟩
    · rw [osum_take hj, mgetT_mupdT]
      have hb := take_le ho (drawP d (d.farms.getD l[j].index.toNat default).reach l[j].hour) j
      by_cases e : r = (d.farms.getD l[j].index.toNat default).reach ∧ hh = l[j].hour
      · obtain ⟨rfl, rfl⟩ := e
        have : drawP d (d.farms.getD l[j].index.toNat default).reach l[j].hour l[j] = true := by unfold drawP; rw [ho1]; simp
        rw [if_pos rfl, this, h.draw _ _ hr, wrapI (by omega) (by omega)]
        rfl
      · rw [if_neg (fun e' => by simp only [Acequialaw28Cell.mk.injEq] at e'; exact e e'), h.draw _ _ hr]
        have : drawP d r hh l[j] = false := by
          cases hq : drawP d r hh l[j] with
          | false => rfl
          | true =>
            unfold drawP at hq
            rw [ho1] at hq
            simp only [Bool.true_and, Bool.not_true, Bool.false_and, Bool.or_false, Bool.and_eq_true, beq_iff_eq] at hq
            exact absurd ⟨hq.2.symm, hq.1.symm⟩ e
        rw [this]
        exact (Int.add_zero _).symm
    · rw [nout _ (by unfold gateP; rw [ho1]; rfl)]
      exact h.inn r hh
  | false =>
    have hf := hR.reachI hx.index0 (hx.reach ho1)
    have hin : ∀ r hh : Int, mgetT .acequialaw28Cell .int (mupdT .acequialaw28Cell .int s.2.2 { at_ := l[j].index, hour := l[j].hour } l[j].litres) { at_ := r, hour := hh } = osum (gateP r hh hh) (l.take (j + 1)) := fun r hh => by
      rw [osum_take hj]
      refine put_new h.inn (fun f hh => ?_) ?_ r hh
      · unfold gateP
        rw [ho1]
        simp only [Bool.not_false, Bool.true_and, Bool.and_eq_true, beq_iff_eq, decide_eq_true_eq]
        omega
      · rw [take_none ho hj fun x hx => ?_]
        · exact (Int.zero_add _).symm
        · unfold gateP at hx
          simp only [Bool.and_eq_true, beq_iff_eq, decide_eq_true_eq, Bool.not_eq_true'] at hx
          exact ⟨by omega, hx.1.1.2, by rw [hx.1.1.1, ho1]⟩
    have hout : ∀ f hh : Int, mgetT .acequialaw28Cell .int s.1 { at_ := f, hour := hh } = osum (outP f hh) (l.take (j + 1)) := fun f hh => by
      rw [nout _ (by unfold outP; rw [ho1]; rfl)]
      exact h.out f hh
    rw [ho1] at hs
    simp only [cond_false] at hs
    have hup : d.reaches.getD l[j].index.toNat default = d.reaches.getD l[j].index.toNat default := rfl
    by_cases hi : l[j].index > 0
    · rw [decide_eq_true hi] at hs
      simp only [cond_true, Sum.inr.injEq] at hs
      subst hs
      have hu : 0 ≤ (d.reaches.getD l[j].index.toNat default).up := by
        have := hR.reach l[j].index.toNat (by have := hx.reach ho1; omega)
        rw [reachX] at this
        have := hx.index0
        omega
      refine ⟨hout, fun r hh hr => ?_, hin⟩
      rw [osum_take hj, mgetT_mupdT]
      have hb := take_le ho (drawP d (d.reaches.getD l[j].index.toNat default).up l[j].hour) j
      by_cases e : r = (d.reaches.getD l[j].index.toNat default).up ∧ hh = l[j].hour
      · obtain ⟨rfl, rfl⟩ := e
        have : drawP d (d.reaches.getD l[j].index.toNat default).up l[j].hour l[j] = true := by unfold drawP; rw [ho1]; simp
        rw [if_pos rfl, this, h.draw _ _ hr, wrapI (by omega) (by omega)]
        rfl
      · rw [if_neg (fun e' => by simp only [Acequialaw28Cell.mk.injEq] at e'; exact e e'), h.draw _ _ hr]
        have : drawP d r hh l[j] = false := by
          cases hq : drawP d r hh l[j] with
          | false => rfl
          | true =>
            unfold drawP at hq
            rw [ho1] at hq
            simp only [Bool.false_and, Bool.not_false, Bool.true_and, Bool.false_or, Bool.and_eq_true, beq_iff_eq] at hq
            exact absurd ⟨hq.2.symm, hq.1.symm⟩ e
        rw [this]
        exact (Int.add_zero _).symm
    · rw [decide_eq_false hi] at hs
      simp only [cond_false, Sum.inr.injEq] at hs
      subst hs
      have hu : (d.reaches.getD l[j].index.toNat default).up < 0 := by
        have := hf.up
        have := hx.index0
        omega
      refine ⟨hout, fun r hh hr => ?_, hin⟩
      rw [nout _ ?_]
      · exact h.draw r hh hr
      · cases hq : drawP d r hh l[j] with
        | false => rfl
        | true =>
          unfold drawP at hq
          rw [ho1] at hq
          simp only [Bool.false_and, Bool.not_false, Bool.true_and, Bool.false_or, Bool.and_eq_true, beq_iff_eq] at hq
          omega
theorem M3_run {d : District} {l : List Order} (ho : Orders1 d l) {s : CM × CM × CM} (hs : runI (law28_CertifySurely_l0 d l) l.length 0 ([], [], []) = .inr s) : M3 d l s := by
  have := runI_inv (fun j s => M3 d (l.take j) s) _ _ _ ⟨fun f h => by simp [osum, mgetT, mget, dflt], fun f h _ => by simp [osum, mgetT, mget, dflt], fun f h => by simp [osum, mgetT, mget, dflt]⟩ (fun j s _ hj hg s' hs' => M3_step ho (by omega) hg hs') s hs
  rwa [Nat.zero_add, List.take_length] at this
theorem keys_mupd {κ υ : Type} [DecidableEq κ] : ∀ (l : List (κ × υ)) (x : κ) (y : υ), (mupd l x y).map Prod.fst = if x ∈ l.map Prod.fst then l.map Prod.fst else l.map Prod.fst ++ [x]
  | [], x, y => by simp [mupd]
  | (a, b) :: r, x, y => by
    unfold mupd
    by_cases h : x = a
    · subst h; simp
    · rw [if_neg h, List.map_cons, keys_mupd r x y]
      simp only [List.map_cons, List.mem_cons, h, false_or]
      split <;> simp
theorem mem_mget {κ υ : Type} [DecidableEq κ] : ∀ (l : List (κ × υ)) (e : κ × υ), (l.map Prod.fst).Nodup → e ∈ l → mget l e.1 = some e.2
  | (a, b) :: r, e, hn, he => by
    simp only [List.map_cons, List.nodup_cons] at hn
    unfold mget
    rcases List.mem_cons.1 he with rfl | he
    · simp
    · have : e.1 ≠ a := fun h => hn.1 (h ▸ List.mem_map_of_mem he)
      rw [if_neg this]
      exact mem_mget r e hn.2 he
structure CMok (c : List Claim) (s : CM) : Prop where
  get : ∀ f h : Int, mgetT .acequialaw28Cell .int s { at_ := f, hour := h } = claimed { hour := h, index := f, outlet := true } c
  nd : (s.map Prod.fst).Nodup
  mem : ∀ e ∈ s.map Prod.fst, ∃ a ∈ c, e = { at_ := a.farm, hour := a.hour }
theorem CM_run {c : List Claim} (hl : c.length ≤ 4096) (h : ∀ a ∈ c, 1 ≤ a.litres ∧ a.litres ≤ 1073741824) {s : CM} (hs : runI (law28_CertifySurely_l1 c) c.length 0 [] = .inr s) : CMok c s := by
  have := runI_inv (fun j s => CMok (c.take j) s) _ _ _ ⟨fun f h => by simp [claimed, mgetT, mget, dflt], by simp, by simp⟩ (fun j s _ hj hg s' hs' => by
    have hj : j < c.length := by omega
    unfold law28_CertifySurely_l1 at hs'
    simp only [Sum.inr.injEq] at hs'
    subst hs'
    rw [getD_el _ _ hj]
    have et : c.take (j + 1) = c.take j ++ [c[j]] := List.take_succ_eq_append_getElem hj
    have hb := claimed_bound (placeC c[j]) (c.take j) fun a ha => h a (List.mem_of_mem_take ha)
    have hb2 := h c[j] (List.getElem_mem _)
    have hb3 : (c.take j).length ≤ 4096 := by rw [List.length_take]; omega
    refine ⟨fun f hh => ?_, ?_, ?_⟩
    · rw [mgetT_mupdT, et, claimed_app, hg.get, hg.get]
      unfold placeC at hb
      simp only [claimed, placeC, CertifyPlace.mk.injEq, and_true, Acequialaw28Cell.mk.injEq]
      by_cases e : f = c[j].farm ∧ hh = c[j].hour
      · rw [if_pos e, if_pos ⟨e.2, e.1⟩, e.1, e.2, wrapI (by omega) (by omega)]; exact congrArg _ (Int.add_zero _).symm
      · rw [if_neg e, if_neg (fun e' => e ⟨e'.2, e'.1⟩)]; exact (Int.add_zero _).symm
    · unfold mupdT
      rw [keys_mupd]
      split
      · exact hg.nd
      · rename_i hn
        rw [List.nodup_append]
        exact ⟨hg.nd, by simp, fun a ha b hb e => by
          rw [List.mem_singleton] at hb
          subst hb; subst e
          exact hn ha⟩
    · intro e he
      unfold mupdT at he
      rw [keys_mupd] at he
      have : e ∈ s.map Prod.fst ∨ e = { at_ := c[j].farm, hour := c[j].hour } := by
        split at he
        · exact .inl he
        · rw [List.mem_append, List.mem_singleton] at he; exact he
      rw [et]
      rcases this with h1 | h1
      · obtain ⟨a, ha, h2⟩ := hg.mem e h1
        exact ⟨a, List.mem_append_left _ ha, h2⟩
      · exact ⟨c[j], List.mem_append_right _ (List.mem_singleton.2 rfl), h1⟩) s hs
  rwa [Nat.zero_add, List.take_length] at this
end Go.Sx
end
