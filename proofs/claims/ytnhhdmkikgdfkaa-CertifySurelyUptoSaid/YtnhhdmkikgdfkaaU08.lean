/- Part of the proof that the law CertifySurely returns true and leaves its arguments as they were, for all arguments of bulk at most 1048576 (the Upto form). -/
import Derived.Test.YtnhhdmkikgdfkaaU07
import Derived.Test.YtnhhdmkikgdfkaaU06
set_option linter.all false
section
namespace Go.Sx
open Go.Proofs
set_option maxRecDepth 100000
set_option linter.unusedSimpArgs false
def divI (n d : Nat) : Nat := if d = 0 then n else (rems d n d).getLastD d
def C83 : List SV → Option Con := pU fun n => pU fun d => pE (.det (0 ≤ n ∧ 0 ≤ d) (SV.u (divI n.toNat d.toNat)))
theorem f83_ok : FnOk Try.prog 83 C83 := by
  have hG : ConsOk Try.prog (mkG [] [(90, C90)]) := mkG_ok (by simp) (by
    intro x hx
    simp only [List.mem_cons, List.not_mem_nil, or_false] at hx
    rcases hx with rfl
    exact f90_ok)
  refine fn_okE false mixed ts_ok hG (fn := Try.f83) (c := bodyOf Try.f83) (by kernel_rfl) (by kernel_rfl) (by kernel_rfl) (by kernel_rfl) fun l con h hp => ?_
  unfold C83 at h
  obtain ⟨n', l0, rfl, h0⟩ := pU_inv h
  obtain ⟨d', l1, rfl, h1⟩ := pU_inv h0
  obtain ⟨rfl, rfl⟩ := pE_inv h1
  clear h h0 h1
  obtain ⟨hn, hd⟩ := hp
  obtain ⟨n, rfl⟩ := Int.eq_ofNat_of_zero_le hn
  obtain ⟨d, rfl⟩ := Int.eq_ofNat_of_zero_le hd
  refine ⟨Nat.le_of_ble_eq_true rfl, fun id st => bif Nat.beq id 0 then some { α := Unit, pre := st.h = [.cells [SV.u d], .cells [SV.u n], .cells [SV.u d]] ∧ lk 12 st.t = .fn 95 [] [.ptr 1 0, .ptr 2 0] ∧ lk 4 st.t = .ptr 0 0, post := fun _ => True, ex := fun _ => .normal, out := fun _ => ⟨[(4, .ptr 0 0)], [.cells [SV.u ((rems d n d).getLastD d)], .dead, .dead]⟩ : LCon } else none, ?_, ?_⟩
  · unfold bodyOf Try.f83
    simp only [loopsOk, true_and, and_true]
    refine range_ok mixed ts_ok hG (by decide) (by decide) (by kernel_rfl) (by kernel_rfl) fun st lc hC hp => ?_
    simp only [go_sem, Nat.reduceBEq, Option.some.injEq] at hC
    subst hC
    obtain ⟨t, h⟩ := st
    dsimp only at hp
    obtain ⟨rfl, h12, h4⟩ := hp
    refine ⟨95, [.ptr 1 0, .ptr 2 0], remI d n d, Nat, [(4, .ptr 0 0)], fun v => [.cells [SV.u v], .dead, .dead], fun k v => v = ((rems d n d).take k).getLastD d, fun _ _ => False, d, [0, 1, 2], h12, rfl, Nat.le_refl _, ?_, f95_ok n d, ?_, ?_, fun _ h => h.elim, fun _ _ h => h.elim⟩
    · show Sub [0, 1, 2] 3 ⟨t, [.cells [SV.u d], .dead, .dead]⟩ ⟨[(4, .ptr 0 0)], [.cells [SV.u d], .dead, .dead]⟩
      simp only [go_sem, h4, Nat.reduceBEq, Nat.reduceLeDiff, Nat.reduceAdd, true_and, and_true]
      decide
    · intro k y args hk hI
      unfold remI at hk
      rw [List.getElem?_map, Option.map_eq_some_iff] at hk
      obtain ⟨x, hx, rfl⟩ := hk
      refine ⟨rfl, L0, _, fun l => by simp only [loopsOk], fun l => by simp only [loopsOk], fun _ _ q => q, ?_⟩
      show exec ts _ L0 _ ⟨[(13, SV.u x), (4, SV.ptr 0 0)], [.cells [SV.u y], .dead, .dead]⟩ _
      simp only [go_sem, true_imp_iff, Nat.reduceBEq, Nat.reduceLeDiff, Nat.reduceAdd, true_and, and_true]
      refine ⟨x, [0, 1, 2], ?_, Nat.le_refl 3, ?_⟩
      · have hlt := (List.getElem?_eq_some_iff.1 hx).1
        have hx2 := (List.getElem?_eq_some_iff.1 hx).2
        show x = ((rems d n d).take (k + 1)).getLastD d
        rw [List.take_succ_eq_append_getElem hlt, hx2]
        simp [List.getLastD_concat]
      · simp only [go_sem, Nat.reduceBEq, Nat.reduceLeDiff, Nat.reduceAdd, true_and, and_true]
        decide
    · intro y hI
      refine ⟨(), [0, 1, 2], trivial, rfl, Nat.le_refl _, ?_⟩
      have hy : y = (rems d n d).getLastD d := by rw [hI, List.take_of_length_le (by simp [remI])]
      subst hy
      show Sub [0, 1, 2] 3 ⟨[(4, .ptr 0 0)], [.cells [SV.u _], .dead, .dead]⟩ ⟨[(4, .ptr 0 0)], [.cells [SV.u _], .dead, .dead]⟩
      simp only [go_sem, Nat.reduceBEq, Nat.reduceLeDiff, Nat.reduceAdd, true_and, and_true]
      decide
  · unfold bodyOf Try.f83
    simp only [go_sem, C90, true_imp_iff, decide_eq_true_eq, Bool.false_eq_true, false_imp_iff, Nat.reduceBEq, Nat.reduceLeDiff, Nat.reduceAdd, Nat.reduceSub, Nat.reduceMul, true_and, and_true, implies_true]
    refine ⟨fun h => ?_, fun h _ _ => ?_⟩
    · have h' : d = 0 := by simpa using h
      simp [divI, h']
    · have h' : d ≠ 0 := by simpa using h
      simp [divI, h']
end Go.Sx
end
section
namespace Go.Sx
open Go.RowKit
inductive NilS : St → St → Prop where
  | refl (st : St) : NilS st st
  | cell {st : St} {t : List (Nat × SV)} {h : List Ob} {i j : Nat} {l : List SV} (o : Ob) : NilS st ⟨t, h⟩ → obAt h i = .cells l → l[j]? = some (.v (.slice none 0 0)) → ((∃ k, o = .row k []) ∨ ∃ k, o = .grid k []) → NilS st ⟨t, obSet h i (.cells (l.set j (.os h.length))) ++ [o]⟩
  | slot {st : St} {t : List (Nat × SV)} {h : List Ob} {i : Nat} (o : Ob) : NilS st ⟨t, h⟩ → lk i t = .v (.slice none 0 0) → ((∃ k, o = .row k []) ∨ ∃ k, o = .grid k []) → NilS st ⟨(i, .os h.length) :: t, h ++ [o]⟩
section
variable {P : Program} {F : Nat → Prop} {w0 : Bs} {N : Nat}
theorem obAt_last (h : List Ob) (o : Ob) : obAt (h ++ [o]) h.length = o := by rw [obAt_app, if_neg (by omega)]; simp [obAt]
theorem nil_own {own : Own} {h : List Ob} {a : Act} {w : World} {t : List (Nat × SV)} (hr : StRel F w0 N own ⟨t, h⟩ a w) (o : Ob) (ho : (∃ k, o = .row k []) ∨ ∃ k, o = .grid k []) :
    ∃ own', StRel F w0 N own' ⟨t, h ++ [o]⟩ a w ∧ (∀ id hd, own id = some hd → own' id = some hd) ∧ own' h.length = some { v := .slice none 0 0 } := by
  let own' : Own := fun id => if id = h.length then some { v := .slice none 0 0 } else own id
  have hsub : ∀ id hd, own id = some hd → own' id = some hd := fun id hd e => by
    have : id ≠ h.length := by have := hr.hp.dom id hd e; simp only at this; omega
    simp only [own', if_neg this]; exact e
  have hinv : ∀ id hd b, own' id = some hd → b ∈ hd.bs → own id = some hd := fun id hd b e hb => by
    by_cases hi : id = h.length
    · simp only [own', if_pos hi, Option.some.injEq] at e; subst e; cases hb
    · simpa only [own', if_neg hi] using e
  have hc : Carries F own w F own' w := ⟨fun id hd e => ⟨hd, hsub id hd e, .refl _⟩, fun b _ hn => ⟨by
    rintro (hf | ⟨id, hd, e, hb⟩)
    · exact hn (.inl hf)
    · exact hn (.inr ⟨id, hd, hinv id hd b e hb, hb⟩), rfl⟩⟩
  refine ⟨own', ⟨hr.size, hr.defers, ⟨fun id hd e => ?_, hr.hp.foreign, fun id hd b e hb => hr.hp.apart id hd b (hinv id hd b e hb) hb, fun i j hi hj b e1 e2 b1 b2 => hr.hp.inj i j hi hj b (hinv i hi b e1 b1) (hinv j hj b e2 b2) b1 b2, fun id hd b e hb => hr.hp.lt id hd b (hinv id hd b e hb) hb, fun id hd => ?_⟩,
    ⟨fun id hd e => ?_, fun id hd b e hb => hr.fr.base id hd b (hinv id hd b e hb) hb, hr.fr.os, hr.fr.tape, hr.fr.output, hr.fr.size, hr.fr.block⟩, fun t => (hr.slots t).carry hc⟩, hsub, by simp [own']⟩
  · simp only [List.length_append, List.length_cons, List.length_nil]
    by_cases hi : id = h.length
    · omega
    · simp only [own', if_neg hi] at e; have := hr.hp.dom id hd e; simp only at this; omega
  · simp only at hd ⊢
    by_cases hi : id < h.length
    · rw [obAt_app, if_pos hi] at hd ⊢
      obtain ⟨hd', e1, e2⟩ := hr.hp.obs id hd
      exact ⟨hd', hsub id hd' e1, e2.carry hc (Nat.le_refl _) fun _ _ => rfl⟩
    · by_cases hi2 : id = h.length
      · subst hi2
        rw [obAt_last]
        refine ⟨_, by simp [own']; rfl, ?_⟩
        rcases ho with ⟨k, rfl⟩ | ⟨k, rfl⟩
        · exact .inl ⟨none, rfl, rfl, rfl⟩
        · exact .inl ⟨rfl, rfl, rfl, rfl⟩
      · rw [obAt_out (by simp; omega)] at hd; cases hd
  · obtain ⟨hd', e1, e2⟩ := hr.fr.ids id hd e
    exact ⟨hd', hsub id hd' e1, e2⟩
theorem NilS.rel {st st' : St} (hn : NilS st st') {own : Own} {a : Act} {w : World} (hr : StRel F w0 N own st a w) : ∃ own', StRel F w0 N own' st' a w := by
  induction hn with
  | refl => exact ⟨own, hr⟩
  | @slot t h i o _ hl ho ih =>
    obtain ⟨own1, h1⟩ := ih
    obtain ⟨own2, h2, h3, h4⟩ := nil_own h1 o ho
    refine ⟨own2, h2.size, h2.defers, h2.hp, h2.fr, fun u => ?_⟩
    rw [lk_put]
    split
    · rename_i e
      subst e
      have := h1.slots i
      rw [hl] at this
      rw [rel_v this]
      exact .os (hd := { v := .slice none 0 0 }) h4 rfl
    · exact h2.slots u
  | @cell t h i j l o _ hc hl ho ih =>
    obtain ⟨own1, h1⟩ := ih
    obtain ⟨own2, h2, h3, h4⟩ := nil_own h1 o ho
    have hlt : i < h.length := by
      rcases Nat.lt_or_ge i h.length with h' | h'
      · exact h'
      · rw [obAt_out h'] at hc; cases hc
    have hlen : (obSet h i (.cells (l.set j (.os h.length)))).length = h.length := by rw [obSet_length, if_pos hlt]
    refine ⟨own2, h2.size, h2.defers, ⟨fun id hd e => ?_, h2.hp.foreign, h2.hp.apart, h2.hp.inj, h2.hp.lt, fun id hd => ?_⟩, h2.fr, h2.slots⟩
    · have := h2.hp.dom id hd e; simp only [List.length_append] at this ⊢; rw [hlen]; exact this
    · simp only at hd ⊢
      have hob := h2.hp.obs id
      simp only at hob
      by_cases hi : id < h.length
      · rw [obAt_app, if_pos (by rw [hlen]; exact hi)] at hd ⊢
        rw [obAt_app, if_pos hi] at hob
        rw [obAt_set] at hd ⊢
        by_cases hii : i = id
        · subst hii
          rw [if_pos rfl] at hd ⊢
          rw [hc] at hob
          obtain ⟨hd', e1, b, cs, ty, m1, m2, m3, m4, m5⟩ := hob rfl
          refine ⟨hd', e1, b, cs, ty, m1, m2, m3, by simpa using m4, fun j' s hs => ?_⟩
          rw [List.getElem?_set] at hs
          by_cases hj : j = j'
          · subst hj
            rw [if_pos rfl] at hs
            split at hs
            · cases hs
              have := m5 j _ hl
              rw [rel_v this]
              exact .os (hd := { v := .slice none 0 0 }) h4 rfl
            · cases hs
          · rw [if_neg hj] at hs
            exact m5 j' s hs
        · rw [if_neg hii] at hd ⊢
          exact hob hd
      · rw [obAt_app, if_neg (by rw [hlen]; exact hi), hlen] at hd ⊢
        rw [obAt_app, if_neg hi] at hob
        exact hob hd
end
section
variable {P : Program} {F : Nat → Prop} {w0 : Bs} {ro : Option Nat} {nd : Nat} {ts : Tis} {G : Cons} {L : Loops} {N : Nat}
theorem loop_okN {ts : Tis} {G : Cons} {ro : Option Nat} {N : Nat} (hm : P.follows .mixedOrders = true) (hts : ts.ok P) (hG : ConsOk P G) {id : Nat} {c : Code} (hc : okCode N c = true) {C : St → Option LCon}
    (h : ∀ st lc, C st = some lc → lc.pre → ∃ (σ : Type) (D : σ → St) (I : σ → Prop) (m : σ → Nat) (x0 : σ) (stN : St) (js : List Nat), I x0 ∧ NilS st stN ∧ st.h.length ≤ (D x0).h.length ∧ Sub js st.h.length stN (D x0) ∧
      ∀ x, I x → ∃ L Qx, loopsOk P ro N L c ∧ (∀ e st', Qx e st' → roundQ D I m st.h.length x id (fun e st' => ∃ r js, lc.post r ∧ lc.ex r = e ∧ st.h.length ≤ (lc.out r).h.length ∧ Sub js st.h.length st' (lc.out r)) e st') ∧ exec ts G L c (D x) Qx) : LoopOk P ro N id (.loop c) C := by
  intro nd F w0 st lc hC hpre own a w hr
  obtain ⟨σ, D, I, m, x0, stN, js, h1, hN, h2, h3, h4⟩ := h st lc hC hpre
  obtain ⟨ownN, hrN⟩ := hN.rel hr
  refine wpIn_mono (loop_rule hm hts hG hc D I m st.h.length hr.base_lt _ h4 x0 h1 _ a w (hrN.sub h3 hr.base_lt h2)) ?_
  intro e a' w' hq
  have key : ∀ ex F1 own' st', StRel F1 w0 N own' st' a' w' → (∃ r js, lc.post r ∧ lc.ex r = ex ∧ st.h.length ≤ (lc.out r).h.length ∧ Sub js st.h.length st' (lc.out r)) → ∃ own2 st2, StRel F1 w0 N own2 st2 a' w' ∧ ∃ r, lc.post r ∧ ex = lc.ex r ∧ st2 = lc.out r := by
    rintro ex F1 own' st' hst ⟨r, js, q1, q2, q3, q4⟩
    exact ⟨_, _, hst.sub q4 hr.base_lt q3, r, q1, q2.symm, rfl⟩
  cases e with
  | normal => obtain ⟨F1, own', st', h0, k1, k2⟩ := hq; obtain ⟨own2, st2, q1, q2⟩ := key _ F1 own' st' k1 k2; exact ⟨F1, own2, st2, h0, q1, q2⟩
  | exit j => obtain ⟨F1, own', st', h0, k1, k2⟩ := hq; obtain ⟨own2, st2, q1, q2⟩ := key _ F1 own' st' k1 k2; exact ⟨F1, own2, st2, h0, q1, q2⟩
  | ret => obtain ⟨F1, own', st', h0, k1, k2⟩ := hq; obtain ⟨own2, st2, q1, q2⟩ := key _ F1 own' st' k1 k2; exact ⟨F1, own2, st2, h0, q1, q2⟩
  | panic ch =>
    obtain ⟨x, F1, own', st', h0, k1, k2, k3⟩ := hq
    obtain ⟨own2, st2, q1, q2⟩ := key _ F1 own' st' k1 k2
    exact ⟨x, F1, own2, st2, h0, q1, q2, k3⟩
  | _ => exact hq.elim
end
section
variable {P : Program} {ρ σ : Type}
def fitE (st2 : St) (n0 : Nat) (st : St) : Prop := ∃ js, n0 ≤ st2.h.length ∧ Sub js n0 st st2
theorem fitE_mk {st2 st : St} {n0 : Nat} (js : List Nat) (h1 : n0 ≤ st2.h.length) (h2 : Sub js n0 st st2) : fitE st2 n0 st := ⟨js, h1, h2⟩
def nextE (D : Nat → σ → St) (n0 k : Nat) (st : St) : ρ ⊕ σ → Prop
  | .inl _ => False
  | .inr s' => fitE (D (k + 1) s') n0 st
def exE' (exE : ρ → Ex) (outE : ρ → St) (n0 : Nat) (e : Ex) (st : St) : ρ ⊕ σ → Prop
  | .inl x => exE x = e ∧ fitE (outE x) n0 st
  | .inr _ => False
def cE (step : Nat → σ → ρ ⊕ σ) (n : Nat) (exE : ρ → Ex) (outE : ρ → St) (outN : σ → St) (D : Nat → σ → St) (n0 id k : Nat) (s : σ) : Ex → St → Prop
  | .normal, st => k < n ∧ nextE D n0 k st (step k s)
  | .exit j, st => bif Nat.beq j id then (n ≤ k → fitE (outN s) n0 st) ∧ (k < n → exE' exE outE n0 .normal st (step k s)) else k < n ∧ exE' exE outE n0 (.exit j) st (step k s)
  | .ret, st => k < n ∧ exE' exE outE n0 .ret st (step k s)
  | .pan x, st => k < n ∧ exE' exE outE n0 (.pan x) st (step k s)
variable {step : Nat → σ → ρ ⊕ σ} {n n0 id k j : Nat} {exE : ρ → Ex} {outE : ρ → St} {outN : σ → St} {D : Nat → σ → St} {s s' : σ} {st : St} {x : Value} {e : Ex} {y : ρ}
@[go_sem] theorem nextE_inr : nextE (ρ := ρ) D n0 k st (.inr s') = fitE (D (k + 1) s') n0 st := (rfl)
@[go_sem] theorem exE'_inl : exE' (σ := σ) exE outE n0 e st (.inl y) = (exE y = e ∧ fitE (outE y) n0 st) := (rfl)
@[go_sem] theorem cE_normal : cE step n exE outE outN D n0 id k s .normal st = (k < n ∧ nextE D n0 k st (step k s)) := (rfl)
@[go_sem] theorem cE_exit : cE step n exE outE outN D n0 id k s (.exit j) st = bif Nat.beq j id then (n ≤ k → fitE (outN s) n0 st) ∧ (k < n → exE' exE outE n0 .normal st (step k s)) else k < n ∧ exE' exE outE n0 (.exit j) st (step k s) := (rfl)
@[go_sem] theorem cE_ret : cE step n exE outE outN D n0 id k s .ret st = (k < n ∧ exE' exE outE n0 .ret st (step k s)) := (rfl)
@[go_sem] theorem cE_pan : cE step n exE outE outN D n0 id k s (.pan x) st = (k < n ∧ exE' exE outE n0 (.pan x) st (step k s)) := (rfl)
@[congr] theorem nextE_congr {r r' : ρ ⊕ σ} (h : r = r') : nextE D n0 k st r = nextE D n0 k st r' := by rw [h]
@[congr] theorem exE'_congr {r r' : ρ ⊕ σ} (h : r = r') : exE' exE outE n0 e st r = exE' exE outE n0 e st r' := by rw [h]
@[congr] theorem cE_congr {st st' : St} {e e' : Ex} (h : st = st') (he : e = e') : cE step n exE outE outN D n0 id k s e st = cE step n exE outE outN D n0 id k s e' st' := by rw [h, he]
theorem count_okR {ts : Tis} {G : Cons} {ro : Option Nat} {N : Nat} (hm : P.follows .mixedOrders = true) (hts : ts.ok P) (hG : ConsOk P G) {id : Nat} {c : Code} (hc : okCode N c = true) {C : St → Option LCon}
    (h : ∀ st lc, C st = some lc → lc.pre → ∃ (ρ σ : Type) (pre : Prop) (step : Nat → σ → ρ ⊕ σ) (p : Nat → σ → Prop) (n : Nat) (s0 : σ) (exE : ρ → Ex) (outE : ρ → St) (outN : σ → St) (D : Nat → σ → St) (stN : St) (js : List Nat),
      lc = LC pre (runI step n 0 s0) exE outE outN ∧ okI step p n 0 s0 ∧ NilS st stN ∧ st.h.length ≤ (D 0 s0).h.length ∧ Sub js st.h.length stN (D 0 s0) ∧
      ∀ k s, k ≤ n → (k < n → p k s) → ∃ L, loopsOk P ro N L c ∧ exec ts G L c (D k s) (cE step n exE outE outN D st.h.length id k s)) : LoopOk P ro N id (.loop c) C := by
  refine loop_okN hm hts hG hc fun st lc hC hp => ?_
  obtain ⟨ρ, σ, pre, step, p, n, s0, exE, outE, outN, D, stN, js, rfl, h1, hN, h2, h3, h4⟩ := h st lc hC hp
  refine ⟨Nat × σ, fun x => D x.1 x.2, fun x => x.1 ≤ n ∧ okI step p (n - x.1) x.1 x.2 ∧ runI step (n - x.1) x.1 x.2 = runI step n 0 s0, fun x => n - x.1, (0, s0), stN, js, ⟨Nat.zero_le _, by simpa using h1, by simp⟩, hN, h2, h3, ?_⟩
  rintro ⟨k, s⟩ ⟨hk, hJ, hrun⟩
  simp only at hk hJ hrun
  obtain ⟨L, hl, hex⟩ := h4 k s hk (fun hlt => by
    rw [show n - k = (n - k - 1) + 1 by omega] at hJ
    exact hJ.1)
  refine ⟨L, _, hl, ?_, hex⟩
  have hfin : ∀ e st', k < n → exE' exE outE st.h.length e st' (step k s) → ∃ r js, (LC pre (runI step n 0 s0) exE outE outN).post r ∧ (LC pre (runI step n 0 s0) exE outE outN).ex r = e ∧ st.h.length ≤ ((LC pre (runI step n 0 s0) exE outE outN).out r).h.length ∧ Sub js st.h.length st' ((LC pre (runI step n 0 s0) exE outE outN).out r) := by
    intro e st' hlt q
    cases hs : step k s with
    | inr s' => rw [hs] at q; exact q.elim
    | inl x =>
      rw [hs] at q
      obtain ⟨q2, js, q3, q4⟩ := q
      rw [show n - k = (n - k - 1) + 1 by omega] at hrun
      simp only [runI, hs] at hrun
      exact ⟨.inl x, js, hrun, q2, q3, q4⟩
  intro e st' hq
  cases e with
  | normal =>
    obtain ⟨q1, q2⟩ := hq
    cases hs : step k s with
    | inl x => rw [hs] at q2; exact q2.elim
    | inr s' =>
      rw [hs] at q2
      obtain ⟨js, q3, q4⟩ := q2
      rw [show n - k = (n - (k + 1)) + 1 by omega] at hrun hJ
      simp only [runI, hs] at hrun
      exact ⟨(k + 1, s'), js, ⟨q1, hJ.2 s' hs, hrun⟩, by simp only; omega, q3, q4⟩
  | exit j =>
    have hq' : (bif Nat.beq j id then (n ≤ k → fitE (outN s) st.h.length st') ∧ (k < n → exE' exE outE st.h.length .normal st' (step k s)) else k < n ∧ exE' exE outE st.h.length (.exit j) st' (step k s)) := hq
    show bif Nat.beq j id then _ else _
    cases hb : Nat.beq j id with
    | true =>
      rw [hb] at hq'
      simp only [cond_true] at hq' ⊢
      by_cases hlt : k < n
      · exact hfin _ _ hlt (hq'.2 hlt)
      · obtain ⟨js, q3, q4⟩ := hq'.1 (by omega)
        have hkn : k = n := by omega
        subst hkn
        simp only [Nat.sub_self, runI] at hrun
        exact ⟨.inr s, js, hrun, rfl, q3, q4⟩
    | false => rw [hb] at hq'; exact hfin _ _ hq'.1 hq'.2
  | ret => exact hfin _ _ hq.1 hq.2
  | pan x => exact hfin _ _ hq.1 hq.2
end
def retC (p : Prop) (S : SV) (H : List Ob) : HCon := { α := Unit, pre := p, post := fun _ => True, res := fun _ => .ret S H }
def fitD (n0 : Nat) (S : SV) (H : List Ob) (h : List Ob) : Option SV → Prop
  | some s => fitE ⟨[(0, S)], H⟩ n0 ⟨[(0, s)], h⟩
  | none => False
def doneE (n0 : Nat) (rs : List ResultVar) (ts : Tis) (S : SV) (H : List Ob) : Ex → St → Prop
  | .exit _, _ => False
  | .normal, st => fitD n0 S H st.h (tupO (retL ts st rs))
  | .ret, st => fitD n0 S H st.h (tupO (retL ts st rs))
  | .pan _, _ => False
section
variable {P : Program} {ts : Tis} {G : Cons} {n0 : Nat} {S s : SV} {H h : List Ob} {rs : List ResultVar} {st : St} {x : Value} {j : Nat}
@[go_sem] theorem fitD_some : fitD n0 S H h (some s) = fitE ⟨[(0, S)], H⟩ n0 ⟨[(0, s)], h⟩ := (rfl)
@[go_sem] theorem doneE_normal : doneE n0 rs ts S H .normal st = fitD n0 S H st.h (tupO (retL ts st rs)) := (rfl)
@[go_sem] theorem doneE_ret : doneE n0 rs ts S H .ret st = fitD n0 S H st.h (tupO (retL ts st rs)) := (rfl)
@[go_sem high] theorem callH_retC {p : Prop} {ids : List Nat} {d : Option Nat} {K : St → Prop} {Z : Value → St → Prop} : callH ids d st K Z (some (retC p S H)) = (p ∧ resN ids d st K Z (.ret S H)) := by
  show (p ∧ ∀ r : Unit, True → resN ids d st K Z (.ret S H)) = _
  simp
@[go_sem high] theorem callHG_retC {p : Prop} {ids : List Nat} {ops : List Oper} {g : Nat × Bool} {d : Nat} {t : List (Nat × SV)} {h' : List Ob} {K : St → Prop} {Z : Value → St → Prop} : callHG ids ops g (some d) ⟨t, h'⟩ K Z (some (retC p S H)) = ((guardP ops t ops.length g → p ∧ resG ids g (some d) ⟨t, h'⟩ K Z (.ret S H)) ∧ (guardN ops t ops.length g → K ⟨(d, .gd g.1 g.2 .any) :: t, h'⟩)) := by
  show ((guardP ops t ops.length g → p ∧ ∀ r : Unit, True → resG ids g (some d) ⟨t, h'⟩ K Z (.ret S H)) ∧ _) = _
  simp only [true_imp_iff, forall_const]
  rfl
@[go_sem] theorem drOf_bad {nx : Nat} : drOf G h nx .bad = none := (rfl)
def hCR (t : Tag) (k : List t.T → Option HCon) : List Ob → Option HCon
  | [.cells [.os 1], .row k' l] => if h : k' = t then k (h ▸ l) else none
  | _ => none
@[go_sem] theorem hCR_mk {t : Tag} {k : List t.T → Option HCon} {l : List t.T} : hCR t k [.cells [.os 1], .row t l] = k l := by simp [hCR]
theorem hCR_inv {t : Tag} {k : List t.T → Option HCon} {h : List Ob} {c : HCon} (hh : hCR t k h = some c) : ∃ l, h = [.cells [.os 1], .row t l] ∧ k l = some c := by
  unfold hCR at hh; split at hh
  · split at hh
    · rename_i e; subst e; exact ⟨_, rfl, hh⟩
    · cases hh
  · cases hh
open Classical in
noncomputable def pQ {α : Type 1} (X : SV) (k : List SV → Option α) : List SV → Option α
  | s :: r => if s = X then k r else none
  | [] => none
@[go_sem] theorem pQ_mk {α : Type 1} {X : SV} {k : List SV → Option α} {r : List SV} : pQ X k (X :: r) = k r := by simp [pQ]
theorem pQ_inv {α : Type 1} {X : SV} {k : List SV → Option α} {l : List SV} {c : α} (h : pQ X k l = some c) : ∃ r, l = X :: r ∧ k r = some c := by
  unfold pQ at h; split at h
  · split at h
    · rename_i e; subst e; exact ⟨_, rfl, h⟩
    · cases h
  · cases h
def pXR {α : Type 1} (t : Tag) (k : List t.T → List SV → Option α) : List SV → Option α
  | .ep [.rs k' l] 0 :: r => castR t k r k' l
  | _ => none
@[go_sem] theorem pXR_mk {α : Type 1} {t : Tag} {k : List t.T → List SV → Option α} {l : List t.T} {r : List SV} : pXR t k (.ep [.rs t l] 0 :: r) = k l r := by simp [pXR, castR]
theorem pXR_inv {α : Type 1} {t : Tag} {k : List t.T → List SV → Option α} {l : List SV} {c : α} (h : pXR t k l = some c) : ∃ x r, l = .ep [.rs t x] 0 :: r ∧ k x r = some c := by
  unfold pXR at h; split at h
  · rename_i k' l' r
    unfold castR at h
    split at h
    · rename_i e; subst e; exact ⟨_, _, rfl, h⟩
    · cases h
  · cases h
theorem fn_ok_oR (hm : P.follows .mixedOrders = true) (hts : ts.ok P) (hG : ConsOk P G) {f : FuncId} {fn : Func} {c : Code} (hf : P.funcs[f]? = some fn) (hb : fn.body = some c) (hname : (fn.name == "runtime.NumGoroutine") = false)
    (hc : okCode fn.ntmps c = true) {C : List SV → List Ob → Option HCon}
    (h : ∀ l o con, C l o = some con → ∃ p S H, con = retC p S H ∧ (p → l.length ≤ fn.ntmps ∧ ∃ L, loopsOk P none fn.ntmps L c ∧ exec ts G L c ⟨initT 0 l, o⟩ (doneE o.length fn.results.toList ts S H))) : FnOkO P f C := by
  refine fn_ok_oQ hm hts hG hf hb hname hc fun l o con hC hp => ?_
  obtain ⟨p, S, H, rfl, h2⟩ := h l o con hC
  obtain ⟨h3, L, h4, h5⟩ := h2 hp
  refine ⟨h3, L, _, h4, fun e st hq => ?_, h5⟩
  cases e with
  | normal =>
    change fitD _ _ _ _ _ at hq
    show doneR _ _ _ _
    cases hs : tupO (retL ts st fn.results.toList) with
    | none => rw [hs] at hq; exact hq.elim
    | some s => rw [hs] at hq; obtain ⟨js, q1, q2⟩ := hq; exact ⟨(), S, H, js, trivial, rfl, q1, q2⟩
  | ret =>
    change fitD _ _ _ _ _ at hq
    show doneR _ _ _ _
    cases hs : tupO (retL ts st fn.results.toList) with
    | none => rw [hs] at hq; exact hq.elim
    | some s => rw [hs] at hq; obtain ⟨js, q1, q2⟩ := hq; exact ⟨(), S, H, js, trivial, rfl, q1, q2⟩
  | exit j => exact hq.elim
  | pan x => exact hq.elim
end
end Go.Sx
end
section
namespace Go.Sx
attribute [go_sem] true_imp_iff false_imp_iff Bool.false_eq_true Int.toNat_natCast Int.toNat_zero true_and and_true and_self implies_true forall_const
theorem cl {p : Prop} (h : p := by (first | done | (repeat' (first | with_reducible refine And.intro ?_ ?_ | ((with_reducible show _ ≠ _); first | assumption | omega | (simp_all [outR, outL]; done) | grind) | with_reducible intro _)) <;> (first | done | exact Empty.elim ‹Empty› | assumption | rfl | omega | (simp only [*, cond_true, cond_false, Bool.not_true, Bool.not_false, go_sem, Nat.reduceBEq, Nat.reduceLeDiff, Nat.reduceAdd, Nat.reduceSub, Nat.reduceMul, Int.reduceLE, Int.reduceLT, Int.reduceToNat, Int.reduceNeg, reduceCtorEq]; done) | (simp only [*, cond_true, cond_false, Bool.not_true, Bool.not_false, go_sem, Nat.reduceBEq, Nat.reduceLeDiff, Nat.reduceAdd, Nat.reduceSub, Nat.reduceMul, Int.reduceLE, Int.reduceLT, Int.reduceToNat, Int.reduceNeg, reduceCtorEq]; (repeat' (first | with_reducible refine And.intro ?_ ?_ | ((with_reducible show _ ≠ _); first | assumption | omega | (simp_all [outR, outL]; done) | grind) | with_reducible intro _)) <;> (first | done | assumption | rfl | omega | (simp_all [outR, outL]; done))) | (simp_all [okI, outR, outL]; done) | grind))) : p := h
theorem cl2 {p : Prop} (h : p := by (first | done | (repeat' (first | with_reducible refine And.intro ?_ ?_ | ((with_reducible show _ ≠ _); first | assumption | omega | (simp_all [outR, outL]; done) | grind) | with_reducible intro _)) <;> (first | done | exact Empty.elim ‹Empty› | assumption | rfl | omega | (simp only [*, go_sem, Nat.reduceBEq, Nat.reduceLeDiff, Nat.reduceAdd, Nat.reduceSub, Nat.reduceMul, Int.reduceLE, Int.reduceLT, Int.reduceToNat, Int.reduceNeg, reduceCtorEq]; done) | (simp_all [outR, outL]; done)))) : p := h
theorem fk {st2 st : St} {n0 : Nat} (js : List Nat) (h1 : n0 ≤ st2.h.length := by (first | (show _ ≤ _; decide) | (simp only [*, go_sem, Nat.reduceBEq, Nat.reduceLeDiff, Nat.reduceAdd, Nat.reduceSub, Nat.reduceMul, Int.reduceLE, Int.reduceLT, Int.reduceToNat, Int.reduceNeg, reduceCtorEq]; done) | (simp only [*, go_sem, Nat.reduceBEq, Nat.reduceLeDiff, Nat.reduceAdd, Nat.reduceSub, Nat.reduceMul, Int.reduceLE, Int.reduceLT, Int.reduceToNat, Int.reduceNeg, reduceCtorEq]; (repeat' (first | with_reducible refine And.intro ?_ ?_ | ((with_reducible show _ ≠ _); first | assumption | omega | (simp_all [outR, outL]; done) | grind) | with_reducible intro _)) <;> (first | rfl | decide | assumption | omega | (simp_all [outR, outL]; done))))) (h2 : Sub js n0 st st2 := by (first | (show _ ≤ _; decide) | (simp only [*, go_sem, Nat.reduceBEq, Nat.reduceLeDiff, Nat.reduceAdd, Nat.reduceSub, Nat.reduceMul, Int.reduceLE, Int.reduceLT, Int.reduceToNat, Int.reduceNeg, reduceCtorEq]; done) | (simp only [*, go_sem, Nat.reduceBEq, Nat.reduceLeDiff, Nat.reduceAdd, Nat.reduceSub, Nat.reduceMul, Int.reduceLE, Int.reduceLT, Int.reduceToNat, Int.reduceNeg, reduceCtorEq]; (repeat' (first | with_reducible refine And.intro ?_ ?_ | ((with_reducible show _ ≠ _); first | assumption | omega | (simp_all [outR, outL]; done) | grind) | with_reducible intro _)) <;> (first | rfl | decide | assumption | omega | (simp_all [outR, outL]; done))))) : fitE st2 n0 st := fitE_mk js h1 h2
theorem fk2 {st2 st : St} {n0 : Nat} (js : List Nat) (h1 : n0 ≤ st2.h.length := by (first | (show _ ≤ _; decide) | (simp only [go_sem, Nat.reduceBEq, Nat.reduceLeDiff, Nat.reduceAdd, Nat.reduceSub, Nat.reduceMul, Int.reduceLE, Int.reduceLT, Int.reduceToNat, Int.reduceNeg, reduceCtorEq]; (repeat' (first | with_reducible refine And.intro ?_ ?_ | ((with_reducible show _ ≠ _); first | assumption | omega | (simp_all [outR, outL]; done) | grind) | with_reducible intro _)) <;> (first | rfl | decide | assumption | omega | (simp_all [outR, outL]; done))))) (h2 : Sub js n0 st st2 := by (first | (show _ ≤ _; decide) | (simp only [go_sem, Nat.reduceBEq, Nat.reduceLeDiff, Nat.reduceAdd, Nat.reduceSub, Nat.reduceMul, Int.reduceLE, Int.reduceLT, Int.reduceToNat, Int.reduceNeg, reduceCtorEq]; (repeat' (first | with_reducible refine And.intro ?_ ?_ | ((with_reducible show _ ≠ _); first | assumption | omega | (simp_all [outR, outL]; done) | grind) | with_reducible intro _)) <;> (first | rfl | decide | assumption | omega | (simp_all [outR, outL]; done))))) : fitE st2 n0 st := fitE_mk js h1 h2
theorem cg0 {α : Type _} {p : α → Prop} : ∀ x ∈ ([] : List α), p x := fun _ h => by cases h
theorem cgc {α : Type _} {p : α → Prop} {a : α} {l : List α} (h : p a) (t : ∀ x ∈ l, p x) : ∀ x ∈ a :: l, p x := fun x hx => by
  rcases List.mem_cons.1 hx with rfl | hx
  · exact h
  · exact t x hx
end Go.Sx
end
section
namespace Go.Sx
open Go.Proofs
set_option maxRecDepth 100000
set_option linter.unusedSimpArgs false
def cmp_isNaN_int (x : Int) : Bool := (x != x)
def C_cmp_isNaN_int : List SV → Option Con := (pI fun x => pE (.det True (.v (.bool (cmp_isNaN_int x)))))
theorem ok_cmp_isNaN_int : FnOk Try.prog 82 C_cmp_isNaN_int := by
  have hG : ConsOk Try.prog (mkG [] []) := mkG_ok cg0 cg0
  refine fn_okN [.o] mixed ts_ok hG (fn := Try.f82) (c := bodyOf Try.f82) (by kernel_rfl) (by kernel_rfl) (by kernel_rfl) (by kernel_rfl) fun l con h hp => ?_
  unfold C_cmp_isNaN_int at h
  obtain ⟨x, l0, rfl, h0⟩ := pI_inv h
  obtain ⟨rfl, rfl⟩ := pE_inv h0
  clear h h0
  dsimp only [conPre] at hp
  refine ⟨Nat.le_of_ble_eq_true rfl, (fun id st => none), ?_, ?_⟩
  · unfold bodyOf Try.f82
    simp only [loopsOk, and_self, true_and, and_true]
  · unfold bodyOf Try.f82
    try unfold cmp_isNaN_int
    simp only [go_sem, Nat.reduceBEq, Nat.reduceLeDiff, Nat.reduceAdd, Nat.reduceSub, Nat.reduceMul, Int.reduceLE, Int.reduceLT, Int.reduceToNat, Int.reduceNeg, reduceCtorEq]
    all_goals exact cl
def cmp_Compare_int (x : Int) (y : Int) : Int := (bif (cmp_isNaN_int x) then (bif (cmp_isNaN_int y) then 0 else (-1)) else (bif (cmp_isNaN_int y) then 1 else (bif (decide (x < y)) then (-1) else (bif (decide (x > y)) then 1 else 0))))
def C_cmp_Compare_int : List SV → Option Con := (pI fun x => (pI fun y => pE (.det True (.v (.int .i64 (cmp_Compare_int x y))))))
theorem ok_cmp_Compare_int : FnOk Try.prog 68 C_cmp_Compare_int := by
  have hG : ConsOk Try.prog (mkG [(82, C_cmp_isNaN_int)] []) := mkG_ok (cgc ok_cmp_isNaN_int cg0) cg0
  refine fn_okN [.o] mixed ts_ok hG (fn := Try.f68) (c := bodyOf Try.f68) (by kernel_rfl) (by kernel_rfl) (by kernel_rfl) (by kernel_rfl) fun l con h hp => ?_
  unfold C_cmp_Compare_int at h
  obtain ⟨x, l0, rfl, h0⟩ := pI_inv h
  obtain ⟨y, l1, rfl, h1⟩ := pI_inv h0
  obtain ⟨rfl, rfl⟩ := pE_inv h1
  clear h h0 h1
  dsimp only [conPre] at hp
  refine ⟨Nat.le_of_ble_eq_true rfl, (fun id st => none), ?_, ?_⟩
  · unfold bodyOf Try.f68
    simp only [loopsOk, and_self, true_and, and_true]
  · unfold bodyOf Try.f68
    try unfold cmp_Compare_int
    simp only [go_sem, Nat.reduceBEq, Nat.reduceLeDiff, Nat.reduceAdd, Nat.reduceSub, Nat.reduceMul, Int.reduceLE, Int.reduceLT, Int.reduceToNat, Int.reduceNeg, reduceCtorEq, C_cmp_isNaN_int]
    all_goals exact cl
def ratio_magnitude (n : Int) : Int := (bif (decide (n < 0)) then (IntKind.u64.wrap (0 - (IntKind.u64.wrap n))) else (IntKind.u64.wrap n))
def C_ratio_magnitude : List SV → Option Con := (pI fun n => pE (.det True (.v (.int .u64 (ratio_magnitude n)))))
theorem ok_ratio_magnitude : FnOk Try.prog 84 C_ratio_magnitude := by
  have hG : ConsOk Try.prog (mkG [] []) := mkG_ok cg0 cg0
  refine fn_okN [.o] mixed ts_ok hG (fn := Try.f84) (c := bodyOf Try.f84) (by kernel_rfl) (by kernel_rfl) (by kernel_rfl) (by kernel_rfl) fun l con h hp => ?_
  unfold C_ratio_magnitude at h
  obtain ⟨n, l0, rfl, h0⟩ := pI_inv h
  obtain ⟨rfl, rfl⟩ := pE_inv h0
  clear h h0
  dsimp only [conPre] at hp
  refine ⟨Nat.le_of_ble_eq_true rfl, (fun id st => none), ?_, ?_⟩
  · unfold bodyOf Try.f84
    simp only [loopsOk, and_self, true_and, and_true]
  · unfold bodyOf Try.f84
    try unfold ratio_magnitude
    simp only [go_sem, Nat.reduceBEq, Nat.reduceLeDiff, Nat.reduceAdd, Nat.reduceSub, Nat.reduceMul, Int.reduceLE, Int.reduceLT, Int.reduceToNat, Int.reduceNeg, reduceCtorEq]
    all_goals exact cl
def ratio_Check (a : Ratio) : Int := (bif (((((decide (a.d < 1)) || (decide (a.d > 1073741824))) || (decide (a.n < (-1073741824)))) || (decide (a.n > 1073741824))) || (((divI (Int.toNat (ratio_magnitude a.n)) (Int.toNat (IntKind.u64.wrap a.d)) : Nat) : Int) != 1)) then 120 else 0)
def ratio_Check_p (a : Ratio) : Prop := (((((decide (a.d < 1)) || (decide (a.d > 1073741824))) || (decide (a.n < (-1073741824)))) || (decide (a.n > 1073741824))) = false → (0 ≤ (ratio_magnitude a.n) ∧ 0 ≤ (IntKind.u64.wrap a.d)))
theorem u64_nonneg (n : Int) : 0 ≤ IntKind.u64.wrap n := by
  simp [IntKind.wrap, IntKind.bits, IntKind.signed]; omega
theorem magnitude_nonneg (n : Int) : 0 ≤ ratio_magnitude n := by
  unfold ratio_magnitude
  cases decide (n < 0) <;> exact u64_nonneg _
theorem ratio_Check_pt (a : Ratio) : ratio_Check_p a := fun _ => ⟨magnitude_nonneg _, u64_nonneg _⟩
def C_ratio_Check : List SV → Option Con := (pD .ratio fun a => pE (.det True (.v (.int .i64 (ratio_Check a)))))
theorem ok_ratio_Check : FnOk Try.prog 72 C_ratio_Check := by
  have hG : ConsOk Try.prog (mkG [(83, C83), (84, C_ratio_magnitude)] []) := mkG_ok (cgc f83_ok (cgc ok_ratio_magnitude cg0)) cg0
  refine fn_okN [.o] mixed ts_ok hG (fn := Try.f72) (c := bodyOf Try.f72) (by kernel_rfl) (by kernel_rfl) (by kernel_rfl) (by kernel_rfl) fun l con h hp => ?_
  unfold C_ratio_Check at h
  obtain ⟨a, l0, rfl, h0⟩ := pD_inv h
  obtain ⟨rfl, rfl⟩ := pE_inv h0
  clear h h0
  dsimp only [conPre] at hp
  have hp := ratio_Check_pt a
  unfold ratio_Check_p at hp
  refine ⟨Nat.le_of_ble_eq_true rfl, (fun id st => none), ?_, ?_⟩
  · unfold bodyOf Try.f72
    simp only [loopsOk, and_self, true_and, and_true]
  · unfold bodyOf Try.f72
    try unfold ratio_Check
    simp only [go_sem, Nat.reduceBEq, Nat.reduceLeDiff, Nat.reduceAdd, Nat.reduceSub, Nat.reduceMul, Int.reduceLE, Int.reduceLT, Int.reduceToNat, Int.reduceNeg, reduceCtorEq, C83, C_ratio_magnitude]
    all_goals exact cl
def ratio_Cmp (a : Ratio) (b : Ratio) : Int × Int := (bif (((ratio_Check a) != 0) || ((ratio_Check b) != 0)) then (0, 120) else ((cmp_Compare_int (IntKind.i64.wrap (a.n * b.d)) (IntKind.i64.wrap (b.n * a.d))), 0))
def C_ratio_Cmp : List SV → Option Con := (pD .ratio fun a => (pD .ratio fun b => pE (.det True (.tup [.v (.int .i64 ((ratio_Cmp a b).1)), .v (.int .i64 ((ratio_Cmp a b).2))]))))
theorem ok_ratio_Cmp : FnOk Try.prog 71 C_ratio_Cmp := by
  have hG : ConsOk Try.prog (mkG [(68, C_cmp_Compare_int), (72, C_ratio_Check)] []) := mkG_ok (cgc ok_cmp_Compare_int (cgc ok_ratio_Check cg0)) cg0
  refine fn_okN [.o, .o] mixed ts_ok hG (fn := Try.f71) (c := bodyOf Try.f71) (by kernel_rfl) (by kernel_rfl) (by kernel_rfl) (by kernel_rfl) fun l con h hp => ?_
  unfold C_ratio_Cmp at h
  obtain ⟨a, l0, rfl, h0⟩ := pD_inv h
  obtain ⟨b, l1, rfl, h1⟩ := pD_inv h0
  obtain ⟨rfl, rfl⟩ := pE_inv h1
  clear h h0 h1
  dsimp only [conPre] at hp
  refine ⟨Nat.le_of_ble_eq_true rfl, (fun id st => none), ?_, ?_⟩
  · unfold bodyOf Try.f71
    simp only [loopsOk, and_self, true_and, and_true]
  · unfold bodyOf Try.f71
    try unfold ratio_Cmp
    simp only [go_sem, Nat.reduceBEq, Nat.reduceLeDiff, Nat.reduceAdd, Nat.reduceSub, Nat.reduceMul, Int.reduceLE, Int.reduceLT, Int.reduceToNat, Int.reduceNeg, reduceCtorEq, C_cmp_Compare_int, C_ratio_Check]
    all_goals exact cl
def expand_demand (ok : Bool) (e : Int) : Unit := (bif (!ok) then default else ())
def expand_demand_ok (ok : Bool) (e : Int) : Bool := (bif (!ok) then false else true)
def C_expand_demand : List SV → Option Con := (pB fun ok => (pI fun e => pE (.may (expand_demand_ok ok e) (.tup []) (.iface 113 (.int .i64 e)))))
theorem ok_expand_demand : FnOk Try.prog 38 C_expand_demand := by
  have hG : ConsOk Try.prog (mkG [] []) := mkG_ok cg0 cg0
  refine fn_okN [] mixed ts_ok hG (fn := Try.f38) (c := bodyOf Try.f38) (by kernel_rfl) (by kernel_rfl) (by kernel_rfl) (by kernel_rfl) fun l con h hp => ?_
  unfold C_expand_demand at h
  obtain ⟨ok, l0, rfl, h0⟩ := pB_inv h
  obtain ⟨e, l1, rfl, h1⟩ := pI_inv h0
  obtain ⟨rfl, rfl⟩ := pE_inv h1
  clear h h0 h1
  dsimp only [conPre] at hp
  refine ⟨Nat.le_of_ble_eq_true rfl, (fun id st => none), ?_, ?_⟩
  · unfold bodyOf Try.f38
    simp only [loopsOk, and_self, true_and, and_true]
  · unfold bodyOf Try.f38
    try unfold expand_demand
    try unfold expand_demand_ok
    simp only [go_sem, Nat.reduceBEq, Nat.reduceLeDiff, Nat.reduceAdd, Nat.reduceSub, Nat.reduceMul, Int.reduceLE, Int.reduceLT, Int.reduceToNat, Int.reduceNeg, reduceCtorEq]
    all_goals exact cl
def expand_rising_l0 (l_ : List Int) : Nat → Unit → Unit ⊕ Unit := fun k_0 s_0 => (bif (decide ((l_.getD (Int.toNat ((k_0 : Int) + 1)) (0 : Int)) < (l_.getD (Int.toNat (IntKind.i64.wrap (((k_0 : Int) + 1) - 1))) (0 : Int)))) then .inl () else .inr ())
def expand_rising_l0_p (l_ : List Int) : Nat → Unit → Prop := fun k_0 s_0 => (l_.length ≤ maxL → ((0 ≤ ((k_0 : Int) + 1) ∧ ((k_0 : Int) + 1) < (l_.length : Int)) ∧ (0 ≤ (IntKind.i64.wrap (((k_0 : Int) + 1) - 1)) ∧ (IntKind.i64.wrap (((k_0 : Int) + 1) - 1)) < (l_.length : Int))))
def expand_rising (l_ : List Int) : Bool := (match runI (expand_rising_l0 l_) (l_.length - 1) 0 () with | .inl x_0_0 => false | .inr s_0 => true)
def expand_rising_p (l_ : List Int) : Prop := okI (expand_rising_l0 l_) (expand_rising_l0_p l_) (l_.length - 1) 0 ()
theorem expand_rising_pt (l_ : List Int) : expand_rising_p l_ := okI_all _ _ _ fun j s h1 h2 hm => by
  unfold maxL at hm
  rw [wrapI (by omega) (by omega)]
  omega
def C_expand_rising : List SV → Option Con := (pR .int fun l_ => pE (.det True (.v (.bool (expand_rising l_)))))
set_option maxHeartbeats 4000000 in
theorem ok_expand_rising : FnOk Try.prog 55 C_expand_rising := by
  have hG : ConsOk Try.prog (mkG [] []) := mkG_ok cg0 cg0
  refine fn_okN [.o] mixed ts_ok hG (fn := Try.f55) (c := bodyOf Try.f55) (by kernel_rfl) (by kernel_rfl) (by kernel_rfl) (by kernel_rfl) fun l con h hp => ?_
  unfold C_expand_rising at h
  obtain ⟨l_, l0, rfl, h0⟩ := pR_inv h
  obtain ⟨rfl, rfl⟩ := pE_inv h0
  clear h h0
  dsimp only [conPre] at hp
  have hp := expand_rising_pt l_
  unfold expand_rising_p at hp
  refine ⟨Nat.le_of_ble_eq_true rfl, (fun id st => bif Nat.beq id 0 then some (LC (ρ := Unit) (σ := Unit) (lk 0 st.t = .rs .int l_ ∧ lk 3 st.t = .v (.int .i64 1) ∧ st.h = [] ∧ okI (expand_rising_l0 l_) (expand_rising_l0_p l_) (l_.length - 1) 0 ()) (runI (expand_rising_l0 l_) (l_.length - 1) 0 ()) (fun _ => .ret) (fun x_0_0 => ⟨[(2, .v (.bool false))], []⟩) (fun s_0 => ⟨[], []⟩)) else none), ?_, ?_⟩
  · unfold bodyOf Try.f55
    simp only [loopsOk, true_and, and_true]
    · refine count_okP mixed ts_ok hG (by kernel_rfl) fun st lc hC hp => ?_
      simp only [go_sem, Nat.reduceBEq, Option.some.injEq] at hC
      subst hC
      obtain ⟨t, h⟩ := st
      dsimp only [LC] at hp
      obtain ⟨e0_0, e0_1, rfl, hok0⟩ := hp
      refine ⟨_, _, _, (expand_rising_l0 l_), (expand_rising_l0_p l_), (l_.length - 1), (), _, _, _, (fun k_0 s_0 => ⟨[(0, .rs .int l_), (3, .v (.int .i64 ((k_0 : Int) + 1)))], []⟩), [], rfl, hok0, Nat.le_refl _, ?_, fun k_0 s_0 hk0 hp0 => ?_⟩
      · simp only [go_sem, Nat.reduceBEq, Nat.reduceLeDiff, Nat.reduceAdd, Nat.reduceSub, Nat.reduceMul, Int.reduceLE, Int.reduceLT, Int.reduceToNat, Int.reduceNeg, reduceCtorEq, e0_0, e0_1]
        all_goals (first | done | decide | (repeat' (first | refine And.intro ?_ ?_ | rfl | decide)))
      refine ⟨(fun id st => none), ?_, ?_⟩
      · simp only [loopsOk, and_self, true_and, and_true]
      · by_cases hb0 : l_.length ≤ maxL
        rotate_left
        · simp only [go_sem, Nat.reduceBEq, Nat.reduceLeDiff, Nat.reduceAdd, Nat.reduceSub, Nat.reduceMul, Int.reduceLE, Int.reduceLT, Int.reduceToNat, Int.reduceNeg, reduceCtorEq, hb0]
        · by_cases hlt0 : k_0 < (l_.length - 1)
          · have hw0 : IntKind.i64.wrap (((k_0 : Nat) : Int) + 1 + 1) = ((k_0 + 1 : Nat) : Int) + 1 := by (have hbb := hb0; have hll := hlt0; try unfold maxL at hbb); rw [wrapI (by omega) (by omega)]; omega
            have hq0 := hp0 hlt0
            unfold expand_rising_l0_p at hq0
            replace hq0 := hq0 hb0
            try simp only [hw0, Int.toNat_natCast] at hq0
            have hc0 : decide (((k_0 : Int) + 1) < (l_.length : Int)) = true := by simp only [decide_eq_true_eq]; omega
            simp only [go_sem, Nat.reduceBEq, Nat.reduceLeDiff, Nat.reduceAdd, Nat.reduceSub, Nat.reduceMul, Int.reduceLE, Int.reduceLT, Int.reduceToNat, Int.reduceNeg, reduceCtorEq, expand_rising_l0, hc0, hw0]
            all_goals exact cl
          · have hc0 : decide (((k_0 : Int) + 1) < (l_.length : Int)) = false := by simp only [decide_eq_false_iff_not]; omega
            simp only [go_sem, Nat.reduceBEq, Nat.reduceLeDiff, Nat.reduceAdd, Nat.reduceSub, Nat.reduceMul, Int.reduceLE, Int.reduceLT, Int.reduceToNat, Int.reduceNeg, reduceCtorEq, hc0]
            all_goals exact cl2
  · unfold bodyOf Try.f55
    try unfold expand_rising
    simp only [go_sem, Nat.reduceBEq, Nat.reduceLeDiff, Nat.reduceAdd, Nat.reduceSub, Nat.reduceMul, Int.reduceLE, Int.reduceLT, Int.reduceToNat, Int.reduceNeg, reduceCtorEq]
    all_goals exact cl
def expand_index (i : Int) (n : Int) : Bool := ((decide (i ≥ 0)) && (decide (i < n)))
def C_expand_index : List SV → Option Con := (pI fun i => (pI fun n => pE (.det True (.v (.bool (expand_index i n))))))
theorem ok_expand_index : FnOk Try.prog 57 C_expand_index := by
  have hG : ConsOk Try.prog (mkG [] []) := mkG_ok cg0 cg0
  refine fn_okN [.o] mixed ts_ok hG (fn := Try.f57) (c := bodyOf Try.f57) (by kernel_rfl) (by kernel_rfl) (by kernel_rfl) (by kernel_rfl) fun l con h hp => ?_
  unfold C_expand_index at h
  obtain ⟨i, l0, rfl, h0⟩ := pI_inv h
  obtain ⟨n, l1, rfl, h1⟩ := pI_inv h0
  obtain ⟨rfl, rfl⟩ := pE_inv h1
  clear h h0 h1
  dsimp only [conPre] at hp
  refine ⟨Nat.le_of_ble_eq_true rfl, (fun id st => none), ?_, ?_⟩
  · unfold bodyOf Try.f57
    simp only [loopsOk, and_self, true_and, and_true]
  · unfold bodyOf Try.f57
    try unfold expand_index
    simp only [go_sem, Nat.reduceBEq, Nat.reduceLeDiff, Nat.reduceAdd, Nat.reduceSub, Nat.reduceMul, Int.reduceLE, Int.reduceLT, Int.reduceToNat, Int.reduceNeg, reduceCtorEq]
    all_goals exact cl
def expand_share (x : Ratio × Ratio) : Bool := (((((ratio_Cmp x.1 x.2).2 == 0) && (decide (x.1.n ≥ 0))) && (decide ((ratio_Cmp x.1 x.2).1 ≤ 0))) && (decide (x.2.n ≤ x.2.d)))
def C_expand_share : List SV → Option Con := (pD .ratio2 fun x => pE (.det True (.v (.bool (expand_share x)))))
theorem ok_expand_share : FnOk Try.prog 74 C_expand_share := by
  have hG : ConsOk Try.prog (mkG [(71, C_ratio_Cmp)] []) := mkG_ok (cgc ok_ratio_Cmp cg0) cg0
  refine fn_okN [.o] mixed ts_ok hG (fn := Try.f74) (c := bodyOf Try.f74) (by kernel_rfl) (by kernel_rfl) (by kernel_rfl) (by kernel_rfl) fun l con h hp => ?_
  unfold C_expand_share at h
  obtain ⟨x, l0, rfl, h0⟩ := pD_inv h
  obtain ⟨rfl, rfl⟩ := pE_inv h0
  clear h h0
  dsimp only [conPre] at hp
  refine ⟨Nat.le_of_ble_eq_true rfl, (fun id st => none), ?_, ?_⟩
  · unfold bodyOf Try.f74
    simp only [loopsOk, and_self, true_and, and_true]
  · unfold bodyOf Try.f74
    try unfold expand_share
    simp only [go_sem, Nat.reduceBEq, Nat.reduceLeDiff, Nat.reduceAdd, Nat.reduceSub, Nat.reduceMul, Int.reduceLE, Int.reduceLT, Int.reduceToNat, Int.reduceNeg, reduceCtorEq, C_ratio_Cmp]
    all_goals exact cl
def expand_reach (i : Int) (x : Reach) : Bool := (bif (decide (i > 0)) then ((((((expand_index x.up i) && (expand_rising ([1, x.delay, 16]))) && (expand_rising ([0, x.siphon, x.cap, 1073741824]))) && (expand_rising ([0, x.siphon, x.bank, 1099511627776]))) && (expand_rising ([0, x.evap.lo, x.evap.hi, 1073741824]))) && (expand_share x.seep)) else ((((((x.up == (-1)) && (expand_rising ([1, x.delay, 16]))) && (expand_rising ([0, x.siphon, x.cap, 1073741824]))) && (expand_rising ([0, x.siphon, x.bank, 1099511627776]))) && (expand_rising ([0, x.evap.lo, x.evap.hi, 1073741824]))) && (expand_share x.seep)))
def C_expand_reach : List SV → Option Con := (pI fun i => (pD .reach fun x => pE (.det True (.v (.bool (expand_reach i x))))))
theorem ok_expand_reach : FnOk Try.prog 56 C_expand_reach := by
  have hG : ConsOk Try.prog (mkG [(55, fun l => C_expand_rising (nrmA [.sl .int] l)), (57, C_expand_index), (74, C_expand_share)] []) := mkG_ok (cgc (ok_expand_rising.norm [.sl .int]) (cgc ok_expand_index (cgc ok_expand_share cg0))) cg0
  refine fn_okN [.o] mixed ts_ok hG (fn := Try.f56) (c := bodyOf Try.f56) (by kernel_rfl) (by kernel_rfl) (by kernel_rfl) (by kernel_rfl) fun l con h hp => ?_
  unfold C_expand_reach at h
  obtain ⟨i, l0, rfl, h0⟩ := pI_inv h
  obtain ⟨x, l1, rfl, h1⟩ := pD_inv h0
  obtain ⟨rfl, rfl⟩ := pE_inv h1
  clear h h0 h1
  dsimp only [conPre] at hp
  refine ⟨Nat.le_of_ble_eq_true rfl, (fun id st => none), ?_, ?_⟩
  · unfold bodyOf Try.f56
    simp only [loopsOk, and_self, true_and, and_true]
  · unfold bodyOf Try.f56
    try unfold expand_reach
    simp only [go_sem, Nat.reduceBEq, Nat.reduceLeDiff, Nat.reduceAdd, Nat.reduceSub, Nat.reduceMul, Int.reduceLE, Int.reduceLT, Int.reduceToNat, Int.reduceNeg, reduceCtorEq, C_expand_rising, C_expand_index, C_expand_share]
    all_goals exact cl
def expand_right (a0 : District) (a1 : Right) : Bool := (bif (((!(expand_index a1.farm (a0.farms.length : Int))) || (!(expand_index a1.reach (a0.reaches.length : Int)))) || (!(expand_rising ([0, a1.since, a1.to, (IntKind.i64.wrap (a0.hours - 1))])))) then false else (bif (a1.kind == 1) then ((((a1.reach == 0) && (expand_rising ([0, a1.rank, 1048576]))) && (expand_rising ([1, a1.litres, 1073741824]))) && (expand_rising ([1, a1.length, a1.every, a0.hours]))) else (bif (a1.kind == 2) then ((a1.name == a1.name) && ((a1.kind == a1.kind) && ((a1.farm == a1.farm) && ((a1.reach == a1.reach) && ((a1.rank == 0) && ((a1.litres == 0) && ((a1.since == 0) && ((a1.to == (IntKind.i64.wrap (a0.hours - 1))) && ((a1.every == 0) && (a1.length == 0)))))))))) else (bif (a1.kind == 3) then ((a1.name == a1.name) && ((a1.kind == a1.kind) && ((a1.farm == a1.farm) && ((a1.reach == a1.reach) && ((a1.rank == 0) && ((a1.litres == 0) && ((a1.since == a1.since) && ((a1.to == a1.to) && ((a1.every == 0) && (a1.length == 0)))))))))) else false))))
def C_expand_right : List SV → Option Con := (pD .district fun a0 => (pD .right fun a1 => pE (.det True (.v (.bool (expand_right a0 a1))))))
theorem ok_expand_right : FnOk Try.prog 58 C_expand_right := by
  have hG : ConsOk Try.prog (mkG [(55, fun l => C_expand_rising (nrmA [.sl .int] l)), (57, C_expand_index)] []) := mkG_ok (cgc (ok_expand_rising.norm [.sl .int]) (cgc ok_expand_index cg0)) cg0
  refine fn_okN [.o] mixed ts_ok hG (fn := Try.f58) (c := bodyOf Try.f58) (by kernel_rfl) (by kernel_rfl) (by kernel_rfl) (by kernel_rfl) fun l con h hp => ?_
  unfold C_expand_right at h
  obtain ⟨a0, l0, rfl, h0⟩ := pD_inv h
  obtain ⟨a1, l1, rfl, h1⟩ := pD_inv h0
  obtain ⟨rfl, rfl⟩ := pE_inv h1
  clear h h0 h1
  dsimp only [conPre] at hp
  refine ⟨Nat.le_of_ble_eq_true rfl, (fun id st => none), ?_, ?_⟩
  · unfold bodyOf Try.f58
    simp only [loopsOk, and_self, true_and, and_true]
  · unfold bodyOf Try.f58
    try unfold expand_right
    simp only [go_sem, Nat.reduceBEq, Nat.reduceLeDiff, Nat.reduceAdd, Nat.reduceSub, Nat.reduceMul, Int.reduceLE, Int.reduceLT, Int.reduceToNat, Int.reduceNeg, reduceCtorEq, C_expand_rising, C_expand_index]
    all_goals exact cl
def expand_examine_l0 (a0 : District) (a1 : Int) : Nat → Unit → Unit ⊕ Unit := fun k_0 s_0 => (bif (expand_demand_ok (expand_reach (k_0 : Int) (a0.reaches.getD k_0 (default : Reach))) a1) then .inr () else .inl ())
def expand_examine_l0_p (a0 : District) (a1 : Int) : Nat → Unit → Prop := fun k_0 s_0 => True
def expand_examine_l1 (a0 : District) (a1 : Int) : Nat → Unit → Unit ⊕ Unit := fun k_1 s_1 => (bif (expand_demand_ok (expand_rising ([0, (a0.crops.getD k_1 (default : Crop)).need, 1048576])) a1) then .inr () else .inl ())
def expand_examine_l1_p (a0 : District) (a1 : Int) : Nat → Unit → Prop := fun k_1 s_1 => True
def expand_examine_l2 (a0 : District) (a1 : Int) : Nat → Unit → Unit ⊕ Unit := fun k_2 s_2 => (bif (decide ((a0.farms.getD k_2 (default : Farm)).area > 0)) then (bif (expand_demand_ok (((expand_index ((a0.farms.getD k_2 (default : Farm)).crop) (a0.crops.length : Int)) && (expand_index ((a0.farms.getD k_2 (default : Farm)).reach) (a0.reaches.length : Int))) && (expand_rising ([0, (a0.farms.getD k_2 (default : Farm)).area, 1048576]))) a1) then .inr () else .inl ()) else (bif (expand_demand_ok ((((a0.farms.getD k_2 (default : Farm)).crop == (-1)) && (expand_index ((a0.farms.getD k_2 (default : Farm)).reach) (a0.reaches.length : Int))) && (expand_rising ([0, (a0.farms.getD k_2 (default : Farm)).area, 1048576]))) a1) then .inr () else .inl ()))
def expand_examine_l2_p (a0 : District) (a1 : Int) : Nat → Unit → Prop := fun k_2 s_2 => True
def expand_examine_l3 (a0 : District) (a1 : Int) : Nat → Unit → Unit ⊕ Unit := fun k_3 s_3 => (bif (expand_demand_ok (expand_right a0 (a0.rights.getD k_3 (default : Right))) a1) then .inr () else .inl ())
def expand_examine_l3_p (a0 : District) (a1 : Int) : Nat → Unit → Prop := fun k_3 s_3 => True
def expand_examine_l4 (a0 : District) (a1 : Int) : Nat → Unit → Unit ⊕ Unit := fun k_4 s_4 => (bif (expand_demand_ok (((expand_index ((a0.duties.getD k_4 (default : Duty)).farm) (a0.farms.length : Int)) && (expand_index ((a0.duties.getD k_4 (default : Duty)).reach) (a0.reaches.length : Int))) && (expand_rising ([0, (a0.duties.getD k_4 (default : Duty)).due, a0.hours]))) a1) then .inr () else .inl ())
def expand_examine_l4_p (a0 : District) (a1 : Int) : Nat → Unit → Prop := fun k_4 s_4 => True
def expand_examine (a0 : District) (a1 : Int) : Unit := (bif (expand_demand_ok (((expand_rising ([1, a0.hours, 4096])) && (expand_rising ([0, a0.tank.start, a0.tank.cap, 1099511627776]))) && (decide ((a0.reaches.length : Int) > 0))) a1) then (match runI (expand_examine_l0 a0 a1) a0.reaches.length 0 () with | .inl x_0_0 => default | .inr s_0 => (match runI (expand_examine_l1 a0 a1) a0.crops.length 0 () with | .inl x_1_0 => default | .inr s_1 => (match runI (expand_examine_l2 a0 a1) a0.farms.length 0 () with | .inl x_2_0 => default | .inr s_2 => (match runI (expand_examine_l3 a0 a1) a0.rights.length 0 () with | .inl x_3_0 => default | .inr s_3 => (match runI (expand_examine_l4 a0 a1) a0.duties.length 0 () with | .inl x_4_0 => default | .inr s_4 => ()))))) else default)
def expand_examine_ok (a0 : District) (a1 : Int) : Bool := (bif (expand_demand_ok (((expand_rising ([1, a0.hours, 4096])) && (expand_rising ([0, a0.tank.start, a0.tank.cap, 1099511627776]))) && (decide ((a0.reaches.length : Int) > 0))) a1) then (match runI (expand_examine_l0 a0 a1) a0.reaches.length 0 () with | .inl x_0_0 => false | .inr s_0 => (match runI (expand_examine_l1 a0 a1) a0.crops.length 0 () with | .inl x_1_0 => false | .inr s_1 => (match runI (expand_examine_l2 a0 a1) a0.farms.length 0 () with | .inl x_2_0 => false | .inr s_2 => (match runI (expand_examine_l3 a0 a1) a0.rights.length 0 () with | .inl x_3_0 => false | .inr s_3 => (match runI (expand_examine_l4 a0 a1) a0.duties.length 0 () with | .inl x_4_0 => false | .inr s_4 => true))))) else false)
def C_expand_examine : List SV → Option Con := (pD .district fun a0 => (pI fun a1 => pE (.may (expand_examine_ok a0 a1) (.tup []) (.iface 113 (.int .i64 a1)))))
set_option maxHeartbeats 4000000 in
theorem ok_expand_examine : FnOk Try.prog 39 C_expand_examine := by
  have hG : ConsOk Try.prog (mkG [(38, C_expand_demand), (55, fun l => C_expand_rising (nrmA [.sl .int] l)), (56, C_expand_reach), (57, C_expand_index), (58, fun l => C_expand_right (nrmA [.st .district, .st .right] l))] []) := mkG_ok (cgc ok_expand_demand (cgc (ok_expand_rising.norm [.sl .int]) (cgc ok_expand_reach (cgc ok_expand_index (cgc (ok_expand_right.norm [.st .district, .st .right]) cg0))))) cg0
  refine fn_okN [] mixed ts_ok hG (fn := Try.f39) (c := bodyOf Try.f39) (by kernel_rfl) (by kernel_rfl) (by kernel_rfl) (by kernel_rfl) fun l con h hp => ?_
  unfold C_expand_examine at h
  obtain ⟨a0, l0, rfl, h0⟩ := pD_inv h
  obtain ⟨a1, l1, rfl, h1⟩ := pI_inv h0
  obtain ⟨rfl, rfl⟩ := pE_inv h1
  clear h h0 h1
  dsimp only [conPre] at hp
  refine ⟨Nat.le_of_ble_eq_true rfl, (fun id st => bif Nat.beq id 0 then some (LC (ρ := Unit) (σ := Unit) (lk 1 st.t = .v (.int .i64 a1) ∧ lk 2 st.t = .ptr 0 0 ∧ lk 38 st.t = .rs .reach a0.reaches ∧ lk 39 st.t = .v (.int .i64 (a0.reaches.length : Int)) ∧ lk 40 st.t = .v (.int .i64 0) ∧ st.h = [.cells [.v (.string a0.name), .v (.int .i64 a0.hours), .v (.int .i64 a0.tank.cap), .v (.int .i64 a0.tank.start), .rs .reach a0.reaches, .rs .farm a0.farms, .rs .crop a0.crops, .rs .right a0.rights, .rs .duty a0.duties, .rs .well a0.wells]] ∧ a0.reaches.length ≤ maxL) (runI (expand_examine_l0 a0 a1) a0.reaches.length 0 ()) (fun _ => .pan (.iface 113 (.int .i64 a1))) (fun x_0_0 => ⟨[], [.dead]⟩) (fun s_0 => ⟨[(1, .v (.int .i64 a1)), (2, .ptr 0 0)], [.cells [.v (.string a0.name), .v (.int .i64 a0.hours), .v (.int .i64 a0.tank.cap), .v (.int .i64 a0.tank.start), .rs .reach a0.reaches, .rs .farm a0.farms, .rs .crop a0.crops, .rs .right a0.rights, .rs .duty a0.duties, .rs .well a0.wells]]⟩)) else bif Nat.beq id 2 then some (LC (ρ := Unit) (σ := Unit) (lk 1 st.t = .v (.int .i64 a1) ∧ lk 2 st.t = .ptr 0 0 ∧ lk 52 st.t = .rs .crop a0.crops ∧ lk 53 st.t = .v (.int .i64 (a0.crops.length : Int)) ∧ lk 54 st.t = .v (.int .i64 0) ∧ st.h = [.cells [.v (.string a0.name), .v (.int .i64 a0.hours), .v (.int .i64 a0.tank.cap), .v (.int .i64 a0.tank.start), .rs .reach a0.reaches, .rs .farm a0.farms, .rs .crop a0.crops, .rs .right a0.rights, .rs .duty a0.duties, .rs .well a0.wells]] ∧ a0.crops.length ≤ maxL) (runI (expand_examine_l1 a0 a1) a0.crops.length 0 ()) (fun _ => .pan (.iface 113 (.int .i64 a1))) (fun x_1_0 => ⟨[], [.dead]⟩) (fun s_1 => ⟨[(1, .v (.int .i64 a1)), (2, .ptr 0 0)], [.cells [.v (.string a0.name), .v (.int .i64 a0.hours), .v (.int .i64 a0.tank.cap), .v (.int .i64 a0.tank.start), .rs .reach a0.reaches, .rs .farm a0.farms, .rs .crop a0.crops, .rs .right a0.rights, .rs .duty a0.duties, .rs .well a0.wells]]⟩)) else bif Nat.beq id 4 then some (LC (ρ := Unit) (σ := Unit) (lk 1 st.t = .v (.int .i64 a1) ∧ lk 2 st.t = .ptr 0 0 ∧ lk 66 st.t = .rs .farm a0.farms ∧ lk 67 st.t = .v (.int .i64 (a0.farms.length : Int)) ∧ lk 68 st.t = .v (.int .i64 0) ∧ st.h = [.cells [.v (.string a0.name), .v (.int .i64 a0.hours), .v (.int .i64 a0.tank.cap), .v (.int .i64 a0.tank.start), .rs .reach a0.reaches, .rs .farm a0.farms, .rs .crop a0.crops, .rs .right a0.rights, .rs .duty a0.duties, .rs .well a0.wells]] ∧ a0.farms.length ≤ maxL) (runI (expand_examine_l2 a0 a1) a0.farms.length 0 ()) (fun _ => .pan (.iface 113 (.int .i64 a1))) (fun x_2_0 => ⟨[], [.dead]⟩) (fun s_2 => ⟨[(1, .v (.int .i64 a1)), (2, .ptr 0 0)], [.cells [.v (.string a0.name), .v (.int .i64 a0.hours), .v (.int .i64 a0.tank.cap), .v (.int .i64 a0.tank.start), .rs .reach a0.reaches, .rs .farm a0.farms, .rs .crop a0.crops, .rs .right a0.rights, .rs .duty a0.duties, .rs .well a0.wells]]⟩)) else bif Nat.beq id 6 then some (LC (ρ := Unit) (σ := Unit) (lk 1 st.t = .v (.int .i64 a1) ∧ lk 2 st.t = .ptr 0 0 ∧ lk 103 st.t = .rs .right a0.rights ∧ lk 104 st.t = .v (.int .i64 (a0.rights.length : Int)) ∧ lk 105 st.t = .v (.int .i64 0) ∧ st.h = [.cells [.v (.string a0.name), .v (.int .i64 a0.hours), .v (.int .i64 a0.tank.cap), .v (.int .i64 a0.tank.start), .rs .reach a0.reaches, .rs .farm a0.farms, .rs .crop a0.crops, .rs .right a0.rights, .rs .duty a0.duties, .rs .well a0.wells]] ∧ a0.rights.length ≤ maxL) (runI (expand_examine_l3 a0 a1) a0.rights.length 0 ()) (fun _ => .pan (.iface 113 (.int .i64 a1))) (fun x_3_0 => ⟨[], [.dead]⟩) (fun s_3 => ⟨[(1, .v (.int .i64 a1)), (2, .ptr 0 0)], [.cells [.v (.string a0.name), .v (.int .i64 a0.hours), .v (.int .i64 a0.tank.cap), .v (.int .i64 a0.tank.start), .rs .reach a0.reaches, .rs .farm a0.farms, .rs .crop a0.crops, .rs .right a0.rights, .rs .duty a0.duties, .rs .well a0.wells]]⟩)) else bif Nat.beq id 8 then some (LC (ρ := Unit) (σ := Unit) (lk 1 st.t = .v (.int .i64 a1) ∧ lk 2 st.t = .ptr 0 0 ∧ lk 116 st.t = .rs .duty a0.duties ∧ lk 117 st.t = .v (.int .i64 (a0.duties.length : Int)) ∧ lk 118 st.t = .v (.int .i64 0) ∧ st.h = [.cells [.v (.string a0.name), .v (.int .i64 a0.hours), .v (.int .i64 a0.tank.cap), .v (.int .i64 a0.tank.start), .rs .reach a0.reaches, .rs .farm a0.farms, .rs .crop a0.crops, .rs .right a0.rights, .rs .duty a0.duties, .rs .well a0.wells]] ∧ a0.duties.length ≤ maxL) (runI (expand_examine_l4 a0 a1) a0.duties.length 0 ()) (fun _ => .pan (.iface 113 (.int .i64 a1))) (fun x_4_0 => ⟨[], [.dead]⟩) (fun s_4 => ⟨[], [.dead]⟩)) else none), ?_, ?_⟩
  · unfold bodyOf Try.f39
    simp only [loopsOk, true_and, and_true]
    refine ⟨?_, ?_, ?_, ?_, ?_⟩
    · refine count_okP mixed ts_ok hG (by kernel_rfl) fun st lc hC hp => ?_
      simp only [go_sem, Nat.reduceBEq, Option.some.injEq] at hC
      subst hC
      obtain ⟨t, h⟩ := st
      dsimp only [LC] at hp
      obtain ⟨e0_0, e0_1, e0_2, e0_3, e0_4, rfl, hb0⟩ := hp
      refine ⟨_, _, _, (expand_examine_l0 a0 a1), (expand_examine_l0_p a0 a1), a0.reaches.length, (), _, _, _, (fun k_0 s_0 => ⟨[(1, .v (.int .i64 a1)), (2, .ptr 0 0), (38, .rs .reach a0.reaches), (39, .v (.int .i64 (a0.reaches.length : Int))), (40, .v (.int .i64 (k_0 : Int)))], [.cells [.v (.string a0.name), .v (.int .i64 a0.hours), .v (.int .i64 a0.tank.cap), .v (.int .i64 a0.tank.start), .rs .reach a0.reaches, .rs .farm a0.farms, .rs .crop a0.crops, .rs .right a0.rights, .rs .duty a0.duties, .rs .well a0.wells]]⟩), [0], rfl, okI_all _ _ _ fun _ _ _ _ => trivial, Nat.le_refl _, ?_, fun k_0 s_0 hk0 hp0 => ?_⟩
      · simp only [go_sem, Nat.reduceBEq, Nat.reduceLeDiff, Nat.reduceAdd, Nat.reduceSub, Nat.reduceMul, Int.reduceLE, Int.reduceLT, Int.reduceToNat, Int.reduceNeg, reduceCtorEq, e0_0, e0_1, e0_2, e0_3, e0_4]
        all_goals (first | done | decide | (repeat' (first | refine And.intro ?_ ?_ | rfl | decide)))
      refine ⟨(fun id st => none), ?_, ?_⟩
      · simp only [loopsOk, and_self, true_and, and_true]
      · by_cases hlt0 : k_0 < a0.reaches.length
        · have hw0 := wrapS hlt0 hb0
          have hq0 := hp0 hlt0
          unfold expand_examine_l0_p at hq0
          try simp only [hw0, Int.toNat_natCast] at hq0
          have hc0 : decide ((k_0 : Int) < (a0.reaches.length : Int)) = true := by simp only [decide_eq_true_eq]; omega
          simp only [go_sem, Nat.reduceBEq, Nat.reduceLeDiff, Nat.reduceAdd, Nat.reduceSub, Nat.reduceMul, Int.reduceLE, Int.reduceLT, Int.reduceToNat, Int.reduceNeg, reduceCtorEq, C_expand_demand, C_expand_rising, C_expand_reach, C_expand_index, C_expand_right, expand_examine_l0, hc0, hw0]
          all_goals exact cl
        · have hc0 : decide ((k_0 : Int) < (a0.reaches.length : Int)) = false := by simp only [decide_eq_false_iff_not]; omega
          simp only [go_sem, Nat.reduceBEq, Nat.reduceLeDiff, Nat.reduceAdd, Nat.reduceSub, Nat.reduceMul, Int.reduceLE, Int.reduceLT, Int.reduceToNat, Int.reduceNeg, reduceCtorEq, C_expand_demand, C_expand_rising, C_expand_reach, C_expand_index, C_expand_right, hc0]
          all_goals exact cl2
    · refine count_okP mixed ts_ok hG (by kernel_rfl) fun st lc hC hp => ?_
      simp only [go_sem, Nat.reduceBEq, Option.some.injEq] at hC
      subst hC
      obtain ⟨t, h⟩ := st
      dsimp only [LC] at hp
      obtain ⟨e1_0, e1_1, e1_2, e1_3, e1_4, rfl, hb1⟩ := hp
      refine ⟨_, _, _, (expand_examine_l1 a0 a1), (expand_examine_l1_p a0 a1), a0.crops.length, (), _, _, _, (fun k_1 s_1 => ⟨[(1, .v (.int .i64 a1)), (2, .ptr 0 0), (52, .rs .crop a0.crops), (53, .v (.int .i64 (a0.crops.length : Int))), (54, .v (.int .i64 (k_1 : Int)))], [.cells [.v (.string a0.name), .v (.int .i64 a0.hours), .v (.int .i64 a0.tank.cap), .v (.int .i64 a0.tank.start), .rs .reach a0.reaches, .rs .farm a0.farms, .rs .crop a0.crops, .rs .right a0.rights, .rs .duty a0.duties, .rs .well a0.wells]]⟩), [0], rfl, okI_all _ _ _ fun _ _ _ _ => trivial, Nat.le_refl _, ?_, fun k_1 s_1 hk1 hp1 => ?_⟩
      · simp only [go_sem, Nat.reduceBEq, Nat.reduceLeDiff, Nat.reduceAdd, Nat.reduceSub, Nat.reduceMul, Int.reduceLE, Int.reduceLT, Int.reduceToNat, Int.reduceNeg, reduceCtorEq, e1_0, e1_1, e1_2, e1_3, e1_4]
        all_goals (first | done | decide | (repeat' (first | refine And.intro ?_ ?_ | rfl | decide)))
      refine ⟨(fun id st => none), ?_, ?_⟩
      · simp only [loopsOk, and_self, true_and, and_true]
      · by_cases hlt1 : k_1 < a0.crops.length
        · have hw1 := wrapS hlt1 hb1
          have hq1 := hp1 hlt1
          unfold expand_examine_l1_p at hq1
          try simp only [hw1, Int.toNat_natCast] at hq1
          have hc1 : decide ((k_1 : Int) < (a0.crops.length : Int)) = true := by simp only [decide_eq_true_eq]; omega
          simp only [go_sem, Nat.reduceBEq, Nat.reduceLeDiff, Nat.reduceAdd, Nat.reduceSub, Nat.reduceMul, Int.reduceLE, Int.reduceLT, Int.reduceToNat, Int.reduceNeg, reduceCtorEq, C_expand_demand, C_expand_rising, C_expand_reach, C_expand_index, C_expand_right, expand_examine_l1, hc1, hw1]
          all_goals exact cl
        · have hc1 : decide ((k_1 : Int) < (a0.crops.length : Int)) = false := by simp only [decide_eq_false_iff_not]; omega
          simp only [go_sem, Nat.reduceBEq, Nat.reduceLeDiff, Nat.reduceAdd, Nat.reduceSub, Nat.reduceMul, Int.reduceLE, Int.reduceLT, Int.reduceToNat, Int.reduceNeg, reduceCtorEq, C_expand_demand, C_expand_rising, C_expand_reach, C_expand_index, C_expand_right, hc1]
          all_goals exact cl2
    · refine count_okP mixed ts_ok hG (by kernel_rfl) fun st lc hC hp => ?_
      simp only [go_sem, Nat.reduceBEq, Option.some.injEq] at hC
      subst hC
      obtain ⟨t, h⟩ := st
      dsimp only [LC] at hp
      obtain ⟨e2_0, e2_1, e2_2, e2_3, e2_4, rfl, hb2⟩ := hp
      refine ⟨_, _, _, (expand_examine_l2 a0 a1), (expand_examine_l2_p a0 a1), a0.farms.length, (), _, _, _, (fun k_2 s_2 => ⟨[(1, .v (.int .i64 a1)), (2, .ptr 0 0), (66, .rs .farm a0.farms), (67, .v (.int .i64 (a0.farms.length : Int))), (68, .v (.int .i64 (k_2 : Int)))], [.cells [.v (.string a0.name), .v (.int .i64 a0.hours), .v (.int .i64 a0.tank.cap), .v (.int .i64 a0.tank.start), .rs .reach a0.reaches, .rs .farm a0.farms, .rs .crop a0.crops, .rs .right a0.rights, .rs .duty a0.duties, .rs .well a0.wells]]⟩), [0], rfl, okI_all _ _ _ fun _ _ _ _ => trivial, Nat.le_refl _, ?_, fun k_2 s_2 hk2 hp2 => ?_⟩
      · simp only [go_sem, Nat.reduceBEq, Nat.reduceLeDiff, Nat.reduceAdd, Nat.reduceSub, Nat.reduceMul, Int.reduceLE, Int.reduceLT, Int.reduceToNat, Int.reduceNeg, reduceCtorEq, e2_0, e2_1, e2_2, e2_3, e2_4]
        all_goals (first | done | decide | (repeat' (first | refine And.intro ?_ ?_ | rfl | decide)))
      refine ⟨(fun id st => none), ?_, ?_⟩
      · simp only [loopsOk, and_self, true_and, and_true]
      · by_cases hlt2 : k_2 < a0.farms.length
        · have hw2 := wrapS hlt2 hb2
          have hq2 := hp2 hlt2
          unfold expand_examine_l2_p at hq2
          try simp only [hw2, Int.toNat_natCast] at hq2
          have hc2 : decide ((k_2 : Int) < (a0.farms.length : Int)) = true := by simp only [decide_eq_true_eq]; omega
          simp only [go_sem, Nat.reduceBEq, Nat.reduceLeDiff, Nat.reduceAdd, Nat.reduceSub, Nat.reduceMul, Int.reduceLE, Int.reduceLT, Int.reduceToNat, Int.reduceNeg, reduceCtorEq, C_expand_demand, C_expand_rising, C_expand_reach, C_expand_index, C_expand_right, expand_examine_l2, hc2, hw2]
          all_goals exact cl
        · have hc2 : decide ((k_2 : Int) < (a0.farms.length : Int)) = false := by simp only [decide_eq_false_iff_not]; omega
          simp only [go_sem, Nat.reduceBEq, Nat.reduceLeDiff, Nat.reduceAdd, Nat.reduceSub, Nat.reduceMul, Int.reduceLE, Int.reduceLT, Int.reduceToNat, Int.reduceNeg, reduceCtorEq, C_expand_demand, C_expand_rising, C_expand_reach, C_expand_index, C_expand_right, hc2]
          all_goals exact cl2
    · refine count_okP mixed ts_ok hG (by kernel_rfl) fun st lc hC hp => ?_
      simp only [go_sem, Nat.reduceBEq, Option.some.injEq] at hC
      subst hC
      obtain ⟨t, h⟩ := st
      dsimp only [LC] at hp
      obtain ⟨e3_0, e3_1, e3_2, e3_3, e3_4, rfl, hb3⟩ := hp
      refine ⟨_, _, _, (expand_examine_l3 a0 a1), (expand_examine_l3_p a0 a1), a0.rights.length, (), _, _, _, (fun k_3 s_3 => ⟨[(1, .v (.int .i64 a1)), (2, .ptr 0 0), (103, .rs .right a0.rights), (104, .v (.int .i64 (a0.rights.length : Int))), (105, .v (.int .i64 (k_3 : Int)))], [.cells [.v (.string a0.name), .v (.int .i64 a0.hours), .v (.int .i64 a0.tank.cap), .v (.int .i64 a0.tank.start), .rs .reach a0.reaches, .rs .farm a0.farms, .rs .crop a0.crops, .rs .right a0.rights, .rs .duty a0.duties, .rs .well a0.wells]]⟩), [0], rfl, okI_all _ _ _ fun _ _ _ _ => trivial, Nat.le_refl _, ?_, fun k_3 s_3 hk3 hp3 => ?_⟩
      · simp only [go_sem, Nat.reduceBEq, Nat.reduceLeDiff, Nat.reduceAdd, Nat.reduceSub, Nat.reduceMul, Int.reduceLE, Int.reduceLT, Int.reduceToNat, Int.reduceNeg, reduceCtorEq, e3_0, e3_1, e3_2, e3_3, e3_4]
        all_goals (first | done | decide | (repeat' (first | refine And.intro ?_ ?_ | rfl | decide)))
      refine ⟨(fun id st => none), ?_, ?_⟩
      · simp only [loopsOk, and_self, true_and, and_true]
      · by_cases hlt3 : k_3 < a0.rights.length
        · have hw3 := wrapS hlt3 hb3
          have hq3 := hp3 hlt3
          unfold expand_examine_l3_p at hq3
          try simp only [hw3, Int.toNat_natCast] at hq3
          have hc3 : decide ((k_3 : Int) < (a0.rights.length : Int)) = true := by simp only [decide_eq_true_eq]; omega
          simp only [go_sem, Nat.reduceBEq, Nat.reduceLeDiff, Nat.reduceAdd, Nat.reduceSub, Nat.reduceMul, Int.reduceLE, Int.reduceLT, Int.reduceToNat, Int.reduceNeg, reduceCtorEq, C_expand_demand, C_expand_rising, C_expand_reach, C_expand_index, C_expand_right, expand_examine_l3, hc3, hw3]
          all_goals exact cl
        · have hc3 : decide ((k_3 : Int) < (a0.rights.length : Int)) = false := by simp only [decide_eq_false_iff_not]; omega
          simp only [go_sem, Nat.reduceBEq, Nat.reduceLeDiff, Nat.reduceAdd, Nat.reduceSub, Nat.reduceMul, Int.reduceLE, Int.reduceLT, Int.reduceToNat, Int.reduceNeg, reduceCtorEq, C_expand_demand, C_expand_rising, C_expand_reach, C_expand_index, C_expand_right, hc3]
          all_goals exact cl2
    · refine count_okP mixed ts_ok hG (by kernel_rfl) fun st lc hC hp => ?_
      simp only [go_sem, Nat.reduceBEq, Option.some.injEq] at hC
      subst hC
      obtain ⟨t, h⟩ := st
      dsimp only [LC] at hp
      obtain ⟨e4_0, e4_1, e4_2, e4_3, e4_4, rfl, hb4⟩ := hp
      refine ⟨_, _, _, (expand_examine_l4 a0 a1), (expand_examine_l4_p a0 a1), a0.duties.length, (), _, _, _, (fun k_4 s_4 => ⟨[(1, .v (.int .i64 a1)), (2, .ptr 0 0), (116, .rs .duty a0.duties), (117, .v (.int .i64 (a0.duties.length : Int))), (118, .v (.int .i64 (k_4 : Int)))], [.cells [.v (.string a0.name), .v (.int .i64 a0.hours), .v (.int .i64 a0.tank.cap), .v (.int .i64 a0.tank.start), .rs .reach a0.reaches, .rs .farm a0.farms, .rs .crop a0.crops, .rs .right a0.rights, .rs .duty a0.duties, .rs .well a0.wells]]⟩), [0], rfl, okI_all _ _ _ fun _ _ _ _ => trivial, Nat.le_refl _, ?_, fun k_4 s_4 hk4 hp4 => ?_⟩
      · simp only [go_sem, Nat.reduceBEq, Nat.reduceLeDiff, Nat.reduceAdd, Nat.reduceSub, Nat.reduceMul, Int.reduceLE, Int.reduceLT, Int.reduceToNat, Int.reduceNeg, reduceCtorEq, e4_0, e4_1, e4_2, e4_3, e4_4]
        all_goals (first | done | decide | (repeat' (first | refine And.intro ?_ ?_ | rfl | decide)))
      refine ⟨(fun id st => none), ?_, ?_⟩
      · simp only [loopsOk, and_self, true_and, and_true]
      · by_cases hlt4 : k_4 < a0.duties.length
        · have hw4 := wrapS hlt4 hb4
          have hq4 := hp4 hlt4
          unfold expand_examine_l4_p at hq4
          try simp only [hw4, Int.toNat_natCast] at hq4
          have hc4 : decide ((k_4 : Int) < (a0.duties.length : Int)) = true := by simp only [decide_eq_true_eq]; omega
          simp only [go_sem, Nat.reduceBEq, Nat.reduceLeDiff, Nat.reduceAdd, Nat.reduceSub, Nat.reduceMul, Int.reduceLE, Int.reduceLT, Int.reduceToNat, Int.reduceNeg, reduceCtorEq, C_expand_demand, C_expand_rising, C_expand_reach, C_expand_index, C_expand_right, expand_examine_l4, hc4, hw4]
          all_goals exact cl
        · have hc4 : decide ((k_4 : Int) < (a0.duties.length : Int)) = false := by simp only [decide_eq_false_iff_not]; omega
          simp only [go_sem, Nat.reduceBEq, Nat.reduceLeDiff, Nat.reduceAdd, Nat.reduceSub, Nat.reduceMul, Int.reduceLE, Int.reduceLT, Int.reduceToNat, Int.reduceNeg, reduceCtorEq, C_expand_demand, C_expand_rising, C_expand_reach, C_expand_index, C_expand_right, hc4]
          all_goals exact cl2
  · unfold bodyOf Try.f39
    try unfold expand_examine
    try unfold expand_examine_ok
    simp only [go_sem, Nat.reduceBEq, Nat.reduceLeDiff, Nat.reduceAdd, Nat.reduceSub, Nat.reduceMul, Int.reduceLE, Int.reduceLT, Int.reduceToNat, Int.reduceNeg, reduceCtorEq, C_expand_demand, C_expand_rising, C_expand_reach, C_expand_index, C_expand_right]
    all_goals exact cl
def expand_Check (d : District) : Int := (bif (expand_demand_ok (((((decide ((d.reaches.length : Int) ≤ 64)) && (decide ((d.farms.length : Int) ≤ 600))) && (decide ((d.crops.length : Int) ≤ 32))) && (decide ((d.rights.length : Int) ≤ 256))) && (decide ((d.duties.length : Int) ≤ 256))) 2) then (bif (expand_examine_ok d 191) then 0 else 191) else 2)
def C_expand_Check : List SV → Option Con := (pD .district fun d => pE (.det True (.v (.int .i64 (expand_Check d)))))
theorem ok_expand_Check : FnOk Try.prog 20 C_expand_Check := by
  have hG : ConsOk Try.prog (mkG [(38, C_expand_demand), (39, fun l => C_expand_examine (nrmA [.st .district, .o] l))] []) := mkG_ok (cgc ok_expand_demand (cgc (ok_expand_examine.norm [.st .district, .o]) cg0)) cg0
  refine fn_rec rec36_ok [.o] mixed ts_ok hG (fn := Try.f20) (c0 := seqL (bodyOf Try.f20)) (c1 := seqR (seqR (bodyOf Try.f20))) (i1 := regI (seqL (seqR (bodyOf Try.f20)))) (o1 := regO 0 (seqL (seqR (bodyOf Try.f20)))) (o2 := regO 1 (seqL (seqR (bodyOf Try.f20)))) (t3 := 3) (q := 2) (tys := #[]) (by kernel_rfl) (by kernel_rfl) (by kernel_rfl) (by refine ⟨?_, ?_, ?_⟩ <;> kernel_rfl) (by refine ⟨?_, ?_, ?_⟩ <;> kernel_rfl) (Nat.le_of_ble_eq_true rfl) (by kernel_rfl) (by kernel_rfl) fun l con h hp => ?_
  unfold C_expand_Check at h
  obtain ⟨d, l0, rfl, h0⟩ := pD_inv h
  obtain ⟨rfl, rfl⟩ := pE_inv h0
  clear h h0
  dsimp only [conPre] at hp
  refine ⟨Nat.le_of_ble_eq_true rfl, L0, (fun id st => none), 1, ?_, ?_, ?_⟩
  · unfold bodyOf Try.f20
    simp only [seqL, loopsOk, and_self, true_and, and_true]
  · unfold bodyOf Try.f20
    simp only [seqR]
    simp only [loopsOk, and_self, true_and, and_true]
  · unfold bodyOf Try.f20
    try unfold expand_Check
    simp only [go_sem, Nat.reduceBEq, Nat.reduceLeDiff, Nat.reduceAdd, Nat.reduceSub, Nat.reduceMul, Int.reduceLE, Int.reduceLT, Int.reduceToNat, Int.reduceNeg, reduceCtorEq, C_expand_demand, C_expand_examine, seqL, seqR, RC36]
    all_goals exact cl
def routing_compare_1 (x : Order) : Int := x.hour
def C_routing_compare_1 : List SV → Option Con := (pD .order fun x => pE (.det True (.v (.int .i64 (routing_compare_1 x)))))
theorem ok_routing_compare_1 : FnOk Try.prog 76 C_routing_compare_1 := by
  have hG : ConsOk Try.prog (mkG [] []) := mkG_ok cg0 cg0
  refine fn_okN [.o] mixed ts_ok hG (fn := Try.f76) (c := bodyOf Try.f76) (by kernel_rfl) (by kernel_rfl) (by kernel_rfl) (by kernel_rfl) fun l con h hp => ?_
  unfold C_routing_compare_1 at h
  obtain ⟨x, l0, rfl, h0⟩ := pD_inv h
  obtain ⟨rfl, rfl⟩ := pE_inv h0
  clear h h0
  dsimp only [conPre] at hp
  refine ⟨Nat.le_of_ble_eq_true rfl, (fun id st => none), ?_, ?_⟩
  · unfold bodyOf Try.f76
    simp only [loopsOk, and_self, true_and, and_true]
  · unfold bodyOf Try.f76
    try unfold routing_compare_1
    simp only [go_sem, Nat.reduceBEq, Nat.reduceLeDiff, Nat.reduceAdd, Nat.reduceSub, Nat.reduceMul, Int.reduceLE, Int.reduceLT, Int.reduceToNat, Int.reduceNeg, reduceCtorEq]
    all_goals exact cl
def routing_outlet (x : Order) : Int := (bif x.outlet then 1 else 0)
def C_routing_outlet : List SV → Option Con := (pD .order fun x => pE (.det True (.v (.int .i64 (routing_outlet x)))))
theorem ok_routing_outlet : FnOk Try.prog 77 C_routing_outlet := by
  have hG : ConsOk Try.prog (mkG [] []) := mkG_ok cg0 cg0
  refine fn_okN [.o] mixed ts_ok hG (fn := Try.f77) (c := bodyOf Try.f77) (by kernel_rfl) (by kernel_rfl) (by kernel_rfl) (by kernel_rfl) fun l con h hp => ?_
  unfold C_routing_outlet at h
  obtain ⟨x, l0, rfl, h0⟩ := pD_inv h
  obtain ⟨rfl, rfl⟩ := pE_inv h0
  clear h h0
  dsimp only [conPre] at hp
  refine ⟨Nat.le_of_ble_eq_true rfl, (fun id st => none), ?_, ?_⟩
  · unfold bodyOf Try.f77
    simp only [loopsOk, and_self, true_and, and_true]
  · unfold bodyOf Try.f77
    try unfold routing_outlet
    simp only [go_sem, Nat.reduceBEq, Nat.reduceLeDiff, Nat.reduceAdd, Nat.reduceSub, Nat.reduceMul, Int.reduceLE, Int.reduceLT, Int.reduceToNat, Int.reduceNeg, reduceCtorEq]
    all_goals exact cl
def routing_compare_2 (x : Order) : Int := x.index
def C_routing_compare_2 : List SV → Option Con := (pD .order fun x => pE (.det True (.v (.int .i64 (routing_compare_2 x)))))
theorem ok_routing_compare_2 : FnOk Try.prog 78 C_routing_compare_2 := by
  have hG : ConsOk Try.prog (mkG [] []) := mkG_ok cg0 cg0
  refine fn_okN [.o] mixed ts_ok hG (fn := Try.f78) (c := bodyOf Try.f78) (by kernel_rfl) (by kernel_rfl) (by kernel_rfl) (by kernel_rfl) fun l con h hp => ?_
  unfold C_routing_compare_2 at h
  obtain ⟨x, l0, rfl, h0⟩ := pD_inv h
  obtain ⟨rfl, rfl⟩ := pE_inv h0
  clear h h0
  dsimp only [conPre] at hp
  refine ⟨Nat.le_of_ble_eq_true rfl, (fun id st => none), ?_, ?_⟩
  · unfold bodyOf Try.f78
    simp only [loopsOk, and_self, true_and, and_true]
  · unfold bodyOf Try.f78
    try unfold routing_compare_2
    simp only [go_sem, Nat.reduceBEq, Nat.reduceLeDiff, Nat.reduceAdd, Nat.reduceSub, Nat.reduceMul, Int.reduceLE, Int.reduceLT, Int.reduceToNat, Int.reduceNeg, reduceCtorEq]
    all_goals exact cl
end Go.Sx
end
section
namespace Go.Sx
open Go.Proofs
set_option maxRecDepth 100000
set_option linter.unusedSimpArgs false
abbrev keyFns : SV := .ls [.fn 76 [] [], .fn 77 [] [], .fn 78 [] []]
open Classical in
noncomputable def C_routing_by : List SV → Option Con := fun l => if l = [keyFns] then some (.det True (.fn 85 [] [.ep [keyFns] 0])) else none
theorem ok_routing_by : FnOk Try.prog 75 C_routing_by := by
  have hG : ConsOk Try.prog (mkG [] []) := mkG_ok (by simp) (by simp)
  refine fn_okN [.o] mixed ts_ok hG (fn := Try.f75) (c := bodyOf Try.f75) (by kernel_rfl) (by kernel_rfl) (by kernel_rfl) (by kernel_rfl) fun l con h hp => ?_
  unfold C_routing_by at h
  split at h
  · rename_i hl
    subst hl
    cases h
    refine ⟨Nat.le_of_ble_eq_true rfl, L0, by unfold bodyOf Try.f75; simp only [loopsOk, and_self], ?_⟩
    unfold bodyOf Try.f75
    simp only [go_sem, keyFns, true_imp_iff, Nat.reduceBEq, Nat.reduceLeDiff, Nat.reduceAdd, Nat.reduceSub, Nat.reduceMul, true_and, and_true, implies_true, List.map_cons, List.map_nil]
    rfl
  · cases h
def C_routing_compare : List SV → Option Con := pE (.det True (.fn 85 [] [.ep [keyFns] 0]))
theorem ok_routing_compare : FnOk Try.prog 59 C_routing_compare := by
  have hG : ConsOk Try.prog (mkG [(75, C_routing_by)] []) := mkG_ok (by
    intro x hx
    simp only [List.mem_cons, List.not_mem_nil, or_false] at hx
    rcases hx with rfl
    exact ok_routing_by) (by simp)
  refine fn_okN [.o] mixed ts_ok hG (fn := Try.f59) (c := bodyOf Try.f59) (by kernel_rfl) (by kernel_rfl) (by kernel_rfl) (by kernel_rfl) fun l con h hp => ?_
  unfold C_routing_compare at h
  obtain ⟨rfl, rfl⟩ := pE_inv h
  refine ⟨Nat.le_of_ble_eq_true rfl, L0, by unfold bodyOf Try.f59; simp only [loopsOk, and_self], ?_⟩
  unfold bodyOf Try.f59
  simp only [go_sem, C_routing_by, keyFns, true_imp_iff, Nat.reduceBEq, Nat.reduceLeDiff, Nat.reduceAdd, Nat.reduceSub, Nat.reduceMul, true_and, and_true, implies_true, List.map_cons, List.map_nil, if_true]
  rfl
def ordKey (k : Nat) (x : Order) : Int := match k with | 0 => routing_compare_1 x | 1 => routing_outlet x | _ => routing_compare_2 x
def ordStep (a b : Order) : Nat → Unit → Int ⊕ Unit := fun k _ => bif (cmp_Compare_int (ordKey k a) (ordKey k b) != 0) then .inl (cmp_Compare_int (ordKey k a) (ordKey k b)) else .inr ()
def routing_by_1 (a b : Order) : Int := match runI (ordStep a b) 3 0 () with | .inl x => x | .inr _ => 0
open Classical in
noncomputable def C_routing_by_1 : List SV → Option Con := pD .order fun a => pD .order fun b => fun l => if l = [.ep [keyFns] 0] then some (.det True (.i (routing_by_1 a b))) else none
set_option maxHeartbeats 1000000 in
theorem ok_routing_by_1 : FnOk Try.prog 85 C_routing_by_1 := by
  have hG : ConsOk Try.prog (mkG [(68, C_cmp_Compare_int), (76, C_routing_compare_1), (77, C_routing_outlet), (78, C_routing_compare_2)] []) := mkG_ok (by
    intro x hx
    simp only [List.mem_cons, List.not_mem_nil, or_false] at hx
    rcases hx with rfl | rfl | rfl | rfl
    · exact ok_cmp_Compare_int
    · exact ok_routing_compare_1
    · exact ok_routing_outlet
    · exact ok_routing_compare_2) (by simp)
  refine fn_okN [.o] mixed ts_ok hG (fn := Try.f85) (c := bodyOf Try.f85) (by kernel_rfl) (by kernel_rfl) (by kernel_rfl) (by kernel_rfl) fun l con h hp => ?_
  unfold C_routing_by_1 at h
  obtain ⟨a, l0, rfl, h0⟩ := pD_inv h
  obtain ⟨b, l1, rfl, h1⟩ := pD_inv h0
  split at h1
  rotate_left
  · cases h1
  rename_i hl
  subst hl
  cases h1
  clear h h0
  obtain ⟨ah, ai, al, ao⟩ := a
  obtain ⟨bh, bi, bl, bo⟩ := b
  refine ⟨Nat.le_of_ble_eq_true rfl, (fun id st => bif Nat.beq id 0 then some (LC (ρ := Int) (σ := Unit) (lk 3 st.t = .ptr 0 0 ∧ lk 4 st.t = .ptr 1 0 ∧ lk 9 st.t = keyFns ∧ lk 10 st.t = .i 3 ∧ lk 11 st.t = .i 0 ∧ st.h = [.cells (cellsOf .order ⟨ah, ai, al, ao⟩), .cells (cellsOf .order ⟨bh, bi, bl, bo⟩)]) (runI (ordStep ⟨ah, ai, al, ao⟩ ⟨bh, bi, bl, bo⟩) 3 0 ()) (fun _ => .ret) (fun x => ⟨[(5, .i x)], [.dead, .dead]⟩) (fun _ => ⟨[], [.dead, .dead]⟩)) else none), ?_, ?_⟩
  · unfold bodyOf Try.f85
    simp only [loopsOk, true_and, and_true]
    refine count_okP mixed ts_ok hG (by kernel_rfl) fun st lc hC hp => ?_
    simp only [go_sem, Nat.reduceBEq, Option.some.injEq] at hC
    subst hC
    obtain ⟨t, h⟩ := st
    dsimp only [LC] at hp
    obtain ⟨e1, e2, e3, e4, e5, rfl⟩ := hp
    refine ⟨_, _, _, ordStep ⟨ah, ai, al, ao⟩ ⟨bh, bi, bl, bo⟩, fun _ _ => True, 3, (), _, _, _, (fun k _ => ⟨[(3, .ptr 0 0), (4, .ptr 1 0), (9, keyFns), (10, .i 3), (11, .i (k : Int))], [.cells (cellsOf .order ⟨ah, ai, al, ao⟩), .cells (cellsOf .order ⟨bh, bi, bl, bo⟩)]⟩), [0, 1], rfl, okI_all _ _ _ fun _ _ _ _ => trivial, Nat.le_refl _, ?_, fun k s hk hpk => ⟨L0, ?_, ?_⟩⟩
    · simp only [go_sem, e1, e2, e3, e4, e5, keyFns, Nat.reduceBEq, Nat.reduceLeDiff, Nat.reduceAdd, true_and, and_true]
      all_goals (first | done | decide | (repeat' (first | refine And.intro ?_ ?_ | rfl | decide)))
    · simp only [loopsOk, and_self, true_and, and_true]
    · have hk4 : k = 0 ∨ k = 1 ∨ k = 2 ∨ k = 3 := by omega
      have hw0 : IntKind.i64.wrap ((0 : Int) + 1) = ((0 + 1 : Nat) : Int) := by decide
      have hw1 : IntKind.i64.wrap ((1 : Int) + 1) = ((1 + 1 : Nat) : Int) := by decide
      have hw2 : IntKind.i64.wrap ((2 : Int) + 1) = ((2 + 1 : Nat) : Int) := by decide
      rcases hk4 with rfl | rfl | rfl | rfl
      all_goals
        simp only [go_sem, C_cmp_Compare_int, C_routing_compare_1, C_routing_outlet, C_routing_compare_2, keyFns, ordStep, ordKey, true_imp_iff, false_imp_iff, Bool.false_eq_true, Int.toNat_natCast, Int.toNat_zero, Nat.reduceBEq, Nat.reduceLeDiff, Nat.reduceAdd, Nat.reduceSub, Nat.reduceMul, Nat.reduceLT, Int.reduceLE, Int.reduceLT, Int.reduceToNat, Int.reduceNeg, true_and, and_true, and_self, implies_true, forall_const, reduceCtorEq, Int.cast_ofNat_Int]
      all_goals (first | done | (repeat' (first | with_reducible refine And.intro ?_ ?_ | ((with_reducible show _ ≠ _); first | assumption | omega | (simp_all; done) | grind) | with_reducible intro _)) <;> (first | done | assumption | rfl | omega | decide | (simp only [*, cond_true, cond_false, go_sem, true_imp_iff, false_imp_iff, Bool.false_eq_true, Int.toNat_natCast, Int.toNat_zero, Nat.reduceBEq, Nat.reduceLeDiff, Nat.reduceAdd, Nat.reduceSub, Nat.reduceMul, Int.reduceLE, Int.reduceLT, Int.reduceToNat, Int.reduceNeg, true_and, and_true, and_self, implies_true, forall_const, reduceCtorEq]; done) | (simp only [*, cond_true, cond_false, go_sem, true_imp_iff, false_imp_iff, Bool.false_eq_true, Int.toNat_natCast, Int.toNat_zero, Nat.reduceBEq, Nat.reduceLeDiff, Nat.reduceAdd, Nat.reduceSub, Nat.reduceMul, Int.reduceLE, Int.reduceLT, Int.reduceToNat, Int.reduceNeg, true_and, and_true, and_self, implies_true, forall_const, reduceCtorEq]; (repeat' (first | with_reducible refine And.intro ?_ ?_ | ((with_reducible show _ ≠ _); first | assumption | omega | (simp_all; done) | grind) | with_reducible intro _)) <;> (first | done | assumption | rfl | omega | decide))))
      all_goals trace_state
  · unfold bodyOf Try.f85
    unfold routing_by_1
    simp only [go_sem, keyFns, true_imp_iff, false_imp_iff, Bool.false_eq_true, Nat.reduceBEq, Nat.reduceLeDiff, Nat.reduceAdd, Nat.reduceSub, Nat.reduceMul, true_and, and_true, implies_true, sz, List.map_cons, List.map_nil]
    all_goals (first | done | (repeat' (first | with_reducible refine And.intro ?_ ?_ | ((with_reducible show _ ≠ _); first | assumption | omega | (simp_all; done) | grind) | with_reducible intro _)) <;> (first | done | assumption | rfl | omega | (simp only [*, cond_true, cond_false, Bool.not_true, Bool.not_false, go_sem, true_imp_iff, false_imp_iff, Bool.false_eq_true, Int.toNat_natCast, Int.toNat_zero, Nat.reduceBEq, Nat.reduceLeDiff, Nat.reduceAdd, Nat.reduceSub, Nat.reduceMul, Int.reduceLE, Int.reduceLT, Int.reduceToNat, Int.reduceNeg, true_and, and_true, and_self, implies_true, forall_const, reduceCtorEq]; done) | (simp only [*, cond_true, cond_false, Bool.not_true, Bool.not_false, go_sem, true_imp_iff, false_imp_iff, Bool.false_eq_true, Int.toNat_natCast, Int.toNat_zero, Nat.reduceBEq, Nat.reduceLeDiff, Nat.reduceAdd, Nat.reduceSub, Nat.reduceMul, Int.reduceLE, Int.reduceLT, Int.reduceToNat, Int.reduceNeg, true_and, and_true, and_self, implies_true, forall_const, reduceCtorEq]; (repeat' (first | with_reducible refine And.intro ?_ ?_ | ((with_reducible show _ ≠ _); first | assumption | omega | (simp_all; done) | grind) | with_reducible intro _)) <;> (first | done | assumption | rfl | omega | (simp_all; done))) | (simp_all [okI]; done) | grind))
end Go.Sx
end
section
namespace Go.Sx
open Go.Proofs
set_option maxRecDepth 100000
set_option linter.unusedSimpArgs false
def routing_Check_l0 (a0 : District) (a1 : List Order) : Nat → Unit → Unit ⊕ Unit := fun k_0 s_0 => (bif (a1.getD k_0 (default : Order)).outlet then (bif (((((((decide ((a1.getD k_0 (default : Order)).hour < 0)) || (decide ((a1.getD k_0 (default : Order)).hour ≥ a0.hours))) || (decide ((a1.getD k_0 (default : Order)).index < 0))) || (decide ((a1.getD k_0 (default : Order)).index ≥ (a0.farms.length : Int)))) || (decide ((a1.getD k_0 (default : Order)).litres < 1))) || (decide ((a1.getD k_0 (default : Order)).litres > 1073741824))) || ((decide ((k_0 : Int) > 0)) && (decide ((routing_by_1 (a1.getD (Int.toNat (IntKind.i64.wrap ((k_0 : Int) - 1))) (default : Order)) (a1.getD k_0 (default : Order))) ≥ 0)))) then .inl () else .inr ()) else (bif (((((((decide ((a1.getD k_0 (default : Order)).hour < 0)) || (decide ((a1.getD k_0 (default : Order)).hour ≥ a0.hours))) || (decide ((a1.getD k_0 (default : Order)).index < 0))) || (decide ((a1.getD k_0 (default : Order)).index ≥ (a0.reaches.length : Int)))) || (decide ((a1.getD k_0 (default : Order)).litres < 1))) || (decide ((a1.getD k_0 (default : Order)).litres > 1073741824))) || ((decide ((k_0 : Int) > 0)) && (decide ((routing_by_1 (a1.getD (Int.toNat (IntKind.i64.wrap ((k_0 : Int) - 1))) (default : Order)) (a1.getD k_0 (default : Order))) ≥ 0)))) then .inl () else .inr ()))
def routing_Check_l0_p (a0 : District) (a1 : List Order) : Nat → Unit → Prop := fun k_0 s_0 => (a0.reaches.length ≤ maxL → (((a1.getD k_0 (default : Order)).outlet = true → (a0.farms.length ≤ maxL → (((((((decide ((a1.getD k_0 (default : Order)).hour < 0)) || (decide ((a1.getD k_0 (default : Order)).hour ≥ a0.hours))) || (decide ((a1.getD k_0 (default : Order)).index < 0))) || (decide ((a1.getD k_0 (default : Order)).index ≥ (a0.farms.length : Int)))) || (decide ((a1.getD k_0 (default : Order)).litres < 1))) || (decide ((a1.getD k_0 (default : Order)).litres > 1073741824))) = false → ((decide ((k_0 : Int) > 0)) = true → (0 ≤ (IntKind.i64.wrap ((k_0 : Int) - 1)) ∧ (IntKind.i64.wrap ((k_0 : Int) - 1)) < (a1.length : Int)))))) ∧ ((a1.getD k_0 (default : Order)).outlet = false → (((((((decide ((a1.getD k_0 (default : Order)).hour < 0)) || (decide ((a1.getD k_0 (default : Order)).hour ≥ a0.hours))) || (decide ((a1.getD k_0 (default : Order)).index < 0))) || (decide ((a1.getD k_0 (default : Order)).index ≥ (a0.reaches.length : Int)))) || (decide ((a1.getD k_0 (default : Order)).litres < 1))) || (decide ((a1.getD k_0 (default : Order)).litres > 1073741824))) = false → ((decide ((k_0 : Int) > 0)) = true → (0 ≤ (IntKind.i64.wrap ((k_0 : Int) - 1)) ∧ (IntKind.i64.wrap ((k_0 : Int) - 1)) < (a1.length : Int)))))))
def routing_Check (a0 : District) (a1 : List Order) : Int := (bif ((expand_Check a0) != 0) then (expand_Check a0) else (bif (decide ((a1.length : Int) > 4096)) then 2 else (match runI (routing_Check_l0 a0 a1) a1.length 0 () with | .inl x_0_0 => 220 | .inr s_0 => 0)))
def routing_Check_p (a0 : District) (a1 : List Order) : Prop := (((expand_Check a0) != 0) = false → (a1.length ≤ maxL → ((decide ((a1.length : Int) > 4096)) = false → (a1.length ≤ maxL → okI (routing_Check_l0 a0 a1) (routing_Check_l0_p a0 a1) a1.length 0 ()))))
def C_routing_Check : List SV → Option Con := (pD .district fun a0 => (pR .order fun a1 => pE (.det (routing_Check_p a0 a1) (.v (.int .i64 (routing_Check a0 a1))))))
set_option maxHeartbeats 4000000 in
theorem ok_routing_Check : FnOk Try.prog 40 C_routing_Check := by
  have hG : ConsOk Try.prog (mkG [(20, fun l => C_expand_Check (nrmA [.st .district] l)), (59, C_routing_compare), (85, C_routing_by_1)] []) := mkG_ok (cgc (ok_expand_Check.norm [.st .district]) (cgc ok_routing_compare (cgc ok_routing_by_1 cg0))) cg0
  refine fn_okN [.o] mixed ts_ok hG (fn := Try.f40) (c := bodyOf Try.f40) (by kernel_rfl) (by kernel_rfl) (by kernel_rfl) (by kernel_rfl) fun l con h hp => ?_
  unfold C_routing_Check at h
  obtain ⟨a0, l0, rfl, h0⟩ := pD_inv h
  obtain ⟨a1, l1, rfl, h1⟩ := pR_inv h0
  obtain ⟨rfl, rfl⟩ := pE_inv h1
  clear h h0 h1
  dsimp only [conPre] at hp
  unfold routing_Check_p at hp
  refine ⟨Nat.le_of_ble_eq_true rfl, (fun id st => bif Nat.beq id 0 then some (LC (ρ := Unit) (σ := Unit) (lk 1 st.t = .rs .order a1 ∧ lk 2 st.t = .ptr 0 0 ∧ lk 5 st.t = .fn 85 [] [.ep [.ls [.fn 76 [] [], .fn 77 [] [], .fn 78 [] []]] 0] ∧ lk 18 st.t = .rs .order a1 ∧ lk 19 st.t = .v (.int .i64 (a1.length : Int)) ∧ lk 20 st.t = .v (.int .i64 0) ∧ st.h = [.cells [.v (.string a0.name), .v (.int .i64 a0.hours), .v (.int .i64 a0.tank.cap), .v (.int .i64 a0.tank.start), .rs .reach a0.reaches, .rs .farm a0.farms, .rs .crop a0.crops, .rs .right a0.rights, .rs .duty a0.duties, .rs .well a0.wells]] ∧ a1.length ≤ maxL ∧ okI (routing_Check_l0 a0 a1) (routing_Check_l0_p a0 a1) a1.length 0 ()) (runI (routing_Check_l0 a0 a1) a1.length 0 ()) (fun _ => .ret) (fun x_0_0 => ⟨[(4, .v (.int .i64 220))], [.dead]⟩) (fun s_0 => ⟨[], [.dead]⟩)) else none), ?_, ?_⟩
  · unfold bodyOf Try.f40
    simp only [loopsOk, true_and, and_true]
    · refine count_okP mixed ts_ok hG (by kernel_rfl) fun st lc hC hp => ?_
      simp only [go_sem, Nat.reduceBEq, Option.some.injEq] at hC
      subst hC
      obtain ⟨t, h⟩ := st
      dsimp only [LC] at hp
      obtain ⟨e0_0, e0_1, e0_2, e0_3, e0_4, e0_5, rfl, hb0, hok0⟩ := hp
      refine ⟨_, _, _, (routing_Check_l0 a0 a1), (routing_Check_l0_p a0 a1), a1.length, (), _, _, _, (fun k_0 s_0 => ⟨[(1, .rs .order a1), (2, .ptr 0 0), (5, .fn 85 [] [.ep [.ls [.fn 76 [] [], .fn 77 [] [], .fn 78 [] []]] 0]), (18, .rs .order a1), (19, .v (.int .i64 (a1.length : Int))), (20, .v (.int .i64 (k_0 : Int)))], [.cells [.v (.string a0.name), .v (.int .i64 a0.hours), .v (.int .i64 a0.tank.cap), .v (.int .i64 a0.tank.start), .rs .reach a0.reaches, .rs .farm a0.farms, .rs .crop a0.crops, .rs .right a0.rights, .rs .duty a0.duties, .rs .well a0.wells]]⟩), [0], rfl, hok0, Nat.le_refl _, ?_, fun k_0 s_0 hk0 hp0 => ?_⟩
      · simp only [go_sem, Nat.reduceBEq, Nat.reduceLeDiff, Nat.reduceAdd, Nat.reduceSub, Nat.reduceMul, Int.reduceLE, Int.reduceLT, Int.reduceToNat, Int.reduceNeg, reduceCtorEq, e0_0, e0_1, e0_2, e0_3, e0_4, e0_5]
        all_goals (first | done | decide | (repeat' (first | refine And.intro ?_ ?_ | rfl | decide)))
      refine ⟨(fun id st => none), ?_, ?_⟩
      · simp only [loopsOk, and_self, true_and, and_true]
      · by_cases hlt0 : k_0 < a1.length
        · have hw0 := wrapS hlt0 hb0
          have hq0 := hp0 hlt0
          unfold routing_Check_l0_p at hq0
          try simp only [hw0, Int.toNat_natCast] at hq0
          have hc0 : decide ((k_0 : Int) < (a1.length : Int)) = true := by simp only [decide_eq_true_eq]; omega
          simp only [go_sem, Nat.reduceBEq, Nat.reduceLeDiff, Nat.reduceAdd, Nat.reduceSub, Nat.reduceMul, Int.reduceLE, Int.reduceLT, Int.reduceToNat, Int.reduceNeg, reduceCtorEq, C_expand_Check, C_routing_compare, C_routing_by_1, if_true, routing_Check_l0, hc0, hw0]
          all_goals exact cl
        · have hc0 : decide ((k_0 : Int) < (a1.length : Int)) = false := by simp only [decide_eq_false_iff_not]; omega
          simp only [go_sem, Nat.reduceBEq, Nat.reduceLeDiff, Nat.reduceAdd, Nat.reduceSub, Nat.reduceMul, Int.reduceLE, Int.reduceLT, Int.reduceToNat, Int.reduceNeg, reduceCtorEq, C_expand_Check, C_routing_compare, C_routing_by_1, if_true, hc0]
          all_goals exact cl2
  · unfold bodyOf Try.f40
    try unfold routing_Check
    simp only [go_sem, Nat.reduceBEq, Nat.reduceLeDiff, Nat.reduceAdd, Nat.reduceSub, Nat.reduceMul, Int.reduceLE, Int.reduceLT, Int.reduceToNat, Int.reduceNeg, reduceCtorEq, C_expand_Check, C_routing_compare, C_routing_by_1, if_true]
    all_goals exact cl
def claims_first_l0 (l_ : List Int) : Nat → Unit → Int ⊕ Unit := fun k_0 s_0 => (bif ((l_.getD k_0 (0 : Int)) != 0) then .inl (l_.getD k_0 (0 : Int)) else .inr ())
def claims_first_l0_p (l_ : List Int) : Nat → Unit → Prop := fun k_0 s_0 => True
def claims_first (l_ : List Int) : Int := (match runI (claims_first_l0 l_) l_.length 0 () with | .inl x_0_0 => x_0_0 | .inr s_0 => 0)
def C_claims_first : List SV → Option Con := (pR .int fun l_ => pE (.det True (.v (.int .i64 (claims_first l_)))))
set_option maxHeartbeats 4000000 in
theorem ok_claims_first : FnOk Try.prog 67 C_claims_first := by
  have hG : ConsOk Try.prog (mkG [] []) := mkG_ok cg0 cg0
  refine fn_okN [.o] mixed ts_ok hG (fn := Try.f67) (c := bodyOf Try.f67) (by kernel_rfl) (by kernel_rfl) (by kernel_rfl) (by kernel_rfl) fun l con h hp => ?_
  unfold C_claims_first at h
  obtain ⟨l_, l0, rfl, h0⟩ := pR_inv h
  obtain ⟨rfl, rfl⟩ := pE_inv h0
  clear h h0
  dsimp only [conPre] at hp
  refine ⟨Nat.le_of_ble_eq_true rfl, (fun id st => bif Nat.beq id 0 then some (LC (ρ := Int) (σ := Unit) (lk 5 st.t = .rs .int l_ ∧ lk 6 st.t = .v (.int .i64 (l_.length : Int)) ∧ lk 7 st.t = .v (.int .i64 0) ∧ st.h = [] ∧ l_.length ≤ maxL) (runI (claims_first_l0 l_) l_.length 0 ()) (fun _ => .ret) (fun x_0_0 => ⟨[(2, .v (.int .i64 x_0_0))], []⟩) (fun s_0 => ⟨[], []⟩)) else none), ?_, ?_⟩
  · unfold bodyOf Try.f67
    simp only [loopsOk, true_and, and_true]
    · refine count_okP mixed ts_ok hG (by kernel_rfl) fun st lc hC hp => ?_
      simp only [go_sem, Nat.reduceBEq, Option.some.injEq] at hC
      subst hC
      obtain ⟨t, h⟩ := st
      dsimp only [LC] at hp
      obtain ⟨e0_0, e0_1, e0_2, rfl, hb0⟩ := hp
      refine ⟨_, _, _, (claims_first_l0 l_), (claims_first_l0_p l_), l_.length, (), _, _, _, (fun k_0 s_0 => ⟨[(5, .rs .int l_), (6, .v (.int .i64 (l_.length : Int))), (7, .v (.int .i64 (k_0 : Int)))], []⟩), [], rfl, okI_all _ _ _ fun _ _ _ _ => trivial, Nat.le_refl _, ?_, fun k_0 s_0 hk0 hp0 => ?_⟩
      · simp only [go_sem, Nat.reduceBEq, Nat.reduceLeDiff, Nat.reduceAdd, Nat.reduceSub, Nat.reduceMul, Int.reduceLE, Int.reduceLT, Int.reduceToNat, Int.reduceNeg, reduceCtorEq, e0_0, e0_1, e0_2]
        all_goals (first | done | decide | (repeat' (first | refine And.intro ?_ ?_ | rfl | decide)))
      refine ⟨(fun id st => none), ?_, ?_⟩
      · simp only [loopsOk, and_self, true_and, and_true]
      · by_cases hlt0 : k_0 < l_.length
        · have hw0 := wrapS hlt0 hb0
          have hq0 := hp0 hlt0
          unfold claims_first_l0_p at hq0
          try simp only [hw0, Int.toNat_natCast] at hq0
          have hc0 : decide ((k_0 : Int) < (l_.length : Int)) = true := by simp only [decide_eq_true_eq]; omega
          simp only [go_sem, Nat.reduceBEq, Nat.reduceLeDiff, Nat.reduceAdd, Nat.reduceSub, Nat.reduceMul, Int.reduceLE, Int.reduceLT, Int.reduceToNat, Int.reduceNeg, reduceCtorEq, claims_first_l0, hc0, hw0]
          all_goals exact cl
        · have hc0 : decide ((k_0 : Int) < (l_.length : Int)) = false := by simp only [decide_eq_false_iff_not]; omega
          simp only [go_sem, Nat.reduceBEq, Nat.reduceLeDiff, Nat.reduceAdd, Nat.reduceSub, Nat.reduceMul, Int.reduceLE, Int.reduceLT, Int.reduceToNat, Int.reduceNeg, reduceCtorEq, hc0]
          all_goals exact cl2
  · unfold bodyOf Try.f67
    try unfold claims_first
    simp only [go_sem, Nat.reduceBEq, Nat.reduceLeDiff, Nat.reduceAdd, Nat.reduceSub, Nat.reduceMul, Int.reduceLE, Int.reduceLT, Int.reduceToNat, Int.reduceNeg, reduceCtorEq]
    all_goals exact cl
def claims_order (a : Claim) (b : Claim) : Int := (claims_first ([(cmp_Compare_int a.hour b.hour), (cmp_Compare_int a.rank b.rank), (cmp_Compare_int a.right b.right), (cmp_Compare_int a.farm b.farm)]))
def C_claims_order : List SV → Option Con := (pD .claim fun a => (pD .claim fun b => pE (.det True (.v (.int .i64 (claims_order a b))))))
theorem ok_claims_order : FnOk Try.prog 47 C_claims_order := by
  have hG : ConsOk Try.prog (mkG [(67, fun l => C_claims_first (nrmA [.sl .int] l)), (68, C_cmp_Compare_int)] []) := mkG_ok (cgc (ok_claims_first.norm [.sl .int]) (cgc ok_cmp_Compare_int cg0)) cg0
  refine fn_okN [.o] mixed ts_ok hG (fn := Try.f47) (c := bodyOf Try.f47) (by kernel_rfl) (by kernel_rfl) (by kernel_rfl) (by kernel_rfl) fun l con h hp => ?_
  unfold C_claims_order at h
  obtain ⟨a, l0, rfl, h0⟩ := pD_inv h
  obtain ⟨b, l1, rfl, h1⟩ := pD_inv h0
  obtain ⟨rfl, rfl⟩ := pE_inv h1
  clear h h0 h1
  dsimp only [conPre] at hp
  refine ⟨Nat.le_of_ble_eq_true rfl, (fun id st => none), ?_, ?_⟩
  · unfold bodyOf Try.f47
    simp only [loopsOk, and_self, true_and, and_true]
  · unfold bodyOf Try.f47
    try unfold claims_order
    simp only [go_sem, Nat.reduceBEq, Nat.reduceLeDiff, Nat.reduceAdd, Nat.reduceSub, Nat.reduceMul, Int.reduceLE, Int.reduceLT, Int.reduceToNat, Int.reduceNeg, reduceCtorEq, C_claims_first, C_cmp_Compare_int]
    all_goals exact cl
def claims_Check_l0 (a0 : District) (a1 : List Claim) : Nat → Unit → Unit ⊕ Unit := fun k_0 s_0 => (bif ((((!((((((((decide ((a1.getD k_0 (default : Claim)).right ≥ 0)) && (decide ((a1.getD k_0 (default : Claim)).right < (a0.rights.length : Int)))) && (decide ((a1.getD k_0 (default : Claim)).farm ≥ 0))) && (decide ((a1.getD k_0 (default : Claim)).farm < (a0.farms.length : Int)))) && (decide ((a1.getD k_0 (default : Claim)).hour ≥ 0))) && (decide ((a1.getD k_0 (default : Claim)).hour < a0.hours))) && (decide ((a1.getD k_0 (default : Claim)).litres ≥ 1))) && (decide ((a1.getD k_0 (default : Claim)).litres ≤ 1073741824)))) || ((a0.rights.getD (Int.toNat ((a1.getD k_0 (default : Claim)).right)) (default : Right)).kind != 1)) || ((a0.rights.getD (Int.toNat ((a1.getD k_0 (default : Claim)).right)) (default : Right)).rank != (a1.getD k_0 (default : Claim)).rank)) || ((decide ((k_0 : Int) > 0)) && (decide ((claims_order (a1.getD (Int.toNat (IntKind.i64.wrap ((k_0 : Int) - 1))) (default : Claim)) (a1.getD k_0 (default : Claim))) ≥ 0)))) then .inl () else .inr ())
def claims_Check_l0_p (a0 : District) (a1 : List Claim) : Nat → Unit → Prop := fun k_0 s_0 => (((!((((((((decide ((a1.getD k_0 (default : Claim)).right ≥ 0)) && (decide ((a1.getD k_0 (default : Claim)).right < (a0.rights.length : Int)))) && (decide ((a1.getD k_0 (default : Claim)).farm ≥ 0))) && (decide ((a1.getD k_0 (default : Claim)).farm < (a0.farms.length : Int)))) && (decide ((a1.getD k_0 (default : Claim)).hour ≥ 0))) && (decide ((a1.getD k_0 (default : Claim)).hour < a0.hours))) && (decide ((a1.getD k_0 (default : Claim)).litres ≥ 1))) && (decide ((a1.getD k_0 (default : Claim)).litres ≤ 1073741824)))) = false → (0 ≤ (a1.getD k_0 (default : Claim)).right ∧ (a1.getD k_0 (default : Claim)).right < (a0.rights.length : Int))) ∧ ((((!((((((((decide ((a1.getD k_0 (default : Claim)).right ≥ 0)) && (decide ((a1.getD k_0 (default : Claim)).right < (a0.rights.length : Int)))) && (decide ((a1.getD k_0 (default : Claim)).farm ≥ 0))) && (decide ((a1.getD k_0 (default : Claim)).farm < (a0.farms.length : Int)))) && (decide ((a1.getD k_0 (default : Claim)).hour ≥ 0))) && (decide ((a1.getD k_0 (default : Claim)).hour < a0.hours))) && (decide ((a1.getD k_0 (default : Claim)).litres ≥ 1))) && (decide ((a1.getD k_0 (default : Claim)).litres ≤ 1073741824)))) || ((a0.rights.getD (Int.toNat ((a1.getD k_0 (default : Claim)).right)) (default : Right)).kind != 1)) = false → (0 ≤ (a1.getD k_0 (default : Claim)).right ∧ (a1.getD k_0 (default : Claim)).right < (a0.rights.length : Int))) ∧ ((((!((((((((decide ((a1.getD k_0 (default : Claim)).right ≥ 0)) && (decide ((a1.getD k_0 (default : Claim)).right < (a0.rights.length : Int)))) && (decide ((a1.getD k_0 (default : Claim)).farm ≥ 0))) && (decide ((a1.getD k_0 (default : Claim)).farm < (a0.farms.length : Int)))) && (decide ((a1.getD k_0 (default : Claim)).hour ≥ 0))) && (decide ((a1.getD k_0 (default : Claim)).hour < a0.hours))) && (decide ((a1.getD k_0 (default : Claim)).litres ≥ 1))) && (decide ((a1.getD k_0 (default : Claim)).litres ≤ 1073741824)))) || ((a0.rights.getD (Int.toNat ((a1.getD k_0 (default : Claim)).right)) (default : Right)).kind != 1)) || ((a0.rights.getD (Int.toNat ((a1.getD k_0 (default : Claim)).right)) (default : Right)).rank != (a1.getD k_0 (default : Claim)).rank)) = false → ((decide ((k_0 : Int) > 0)) = true → (0 ≤ (IntKind.i64.wrap ((k_0 : Int) - 1)) ∧ (IntKind.i64.wrap ((k_0 : Int) - 1)) < (a1.length : Int))))))
def claims_Check (a0 : District) (a1 : List Claim) : Int := (bif ((expand_Check a0) != 0) then (expand_Check a0) else (bif (decide ((a1.length : Int) > 4096)) then 2 else (match runI (claims_Check_l0 a0 a1) a1.length 0 () with | .inl x_0_0 => 260 | .inr s_0 => 0)))
def claims_Check_p (a0 : District) (a1 : List Claim) : Prop := (((expand_Check a0) != 0) = false → (a1.length ≤ maxL → ((decide ((a1.length : Int) > 4096)) = false → (a1.length ≤ maxL → okI (claims_Check_l0 a0 a1) (claims_Check_l0_p a0 a1) a1.length 0 ()))))
def C_claims_Check : List SV → Option Con := (pD .district fun a0 => (pR .claim fun a1 => pE (.det (claims_Check_p a0 a1) (.v (.int .i64 (claims_Check a0 a1))))))
set_option maxHeartbeats 4000000 in
theorem ok_claims_Check : FnOk Try.prog 26 C_claims_Check := by
  have hG : ConsOk Try.prog (mkG [(20, fun l => C_expand_Check (nrmA [.st .district] l)), (47, C_claims_order)] []) := mkG_ok (cgc (ok_expand_Check.norm [.st .district]) (cgc ok_claims_order cg0)) cg0
  refine fn_okN [.o] mixed ts_ok hG (fn := Try.f26) (c := bodyOf Try.f26) (by kernel_rfl) (by kernel_rfl) (by kernel_rfl) (by kernel_rfl) fun l con h hp => ?_
  unfold C_claims_Check at h
  obtain ⟨a0, l0, rfl, h0⟩ := pD_inv h
  obtain ⟨a1, l1, rfl, h1⟩ := pR_inv h0
  obtain ⟨rfl, rfl⟩ := pE_inv h1
  clear h h0 h1
  dsimp only [conPre] at hp
  unfold claims_Check_p at hp
  refine ⟨Nat.le_of_ble_eq_true rfl, (fun id st => bif Nat.beq id 0 then some (LC (ρ := Unit) (σ := Unit) (lk 1 st.t = .rs .claim a1 ∧ lk 2 st.t = .ptr 0 0 ∧ lk 16 st.t = .rs .claim a1 ∧ lk 17 st.t = .v (.int .i64 (a1.length : Int)) ∧ lk 18 st.t = .v (.int .i64 0) ∧ st.h = [.cells [.v (.string a0.name), .v (.int .i64 a0.hours), .v (.int .i64 a0.tank.cap), .v (.int .i64 a0.tank.start), .rs .reach a0.reaches, .rs .farm a0.farms, .rs .crop a0.crops, .rs .right a0.rights, .rs .duty a0.duties, .rs .well a0.wells]] ∧ a1.length ≤ maxL ∧ okI (claims_Check_l0 a0 a1) (claims_Check_l0_p a0 a1) a1.length 0 ()) (runI (claims_Check_l0 a0 a1) a1.length 0 ()) (fun _ => .ret) (fun x_0_0 => ⟨[(4, .v (.int .i64 260))], [.dead]⟩) (fun s_0 => ⟨[], [.dead]⟩)) else none), ?_, ?_⟩
  · unfold bodyOf Try.f26
    simp only [loopsOk, true_and, and_true]
    · refine count_okP mixed ts_ok hG (by kernel_rfl) fun st lc hC hp => ?_
      simp only [go_sem, Nat.reduceBEq, Option.some.injEq] at hC
      subst hC
      obtain ⟨t, h⟩ := st
      dsimp only [LC] at hp
      obtain ⟨e0_0, e0_1, e0_2, e0_3, e0_4, rfl, hb0, hok0⟩ := hp
      refine ⟨_, _, _, (claims_Check_l0 a0 a1), (claims_Check_l0_p a0 a1), a1.length, (), _, _, _, (fun k_0 s_0 => ⟨[(1, .rs .claim a1), (2, .ptr 0 0), (16, .rs .claim a1), (17, .v (.int .i64 (a1.length : Int))), (18, .v (.int .i64 (k_0 : Int)))], [.cells [.v (.string a0.name), .v (.int .i64 a0.hours), .v (.int .i64 a0.tank.cap), .v (.int .i64 a0.tank.start), .rs .reach a0.reaches, .rs .farm a0.farms, .rs .crop a0.crops, .rs .right a0.rights, .rs .duty a0.duties, .rs .well a0.wells]]⟩), [0], rfl, hok0, Nat.le_refl _, ?_, fun k_0 s_0 hk0 hp0 => ?_⟩
      · simp only [go_sem, Nat.reduceBEq, Nat.reduceLeDiff, Nat.reduceAdd, Nat.reduceSub, Nat.reduceMul, Int.reduceLE, Int.reduceLT, Int.reduceToNat, Int.reduceNeg, reduceCtorEq, e0_0, e0_1, e0_2, e0_3, e0_4]
        all_goals (first | done | decide | (repeat' (first | refine And.intro ?_ ?_ | rfl | decide)))
      refine ⟨(fun id st => none), ?_, ?_⟩
      · simp only [loopsOk, and_self, true_and, and_true]
      · by_cases hlt0 : k_0 < a1.length
        · have hw0 := wrapS hlt0 hb0
          have hq0 := hp0 hlt0
          unfold claims_Check_l0_p at hq0
          try simp only [hw0, Int.toNat_natCast] at hq0
          have hc0 : decide ((k_0 : Int) < (a1.length : Int)) = true := by simp only [decide_eq_true_eq]; omega
          simp only [go_sem, Nat.reduceBEq, Nat.reduceLeDiff, Nat.reduceAdd, Nat.reduceSub, Nat.reduceMul, Int.reduceLE, Int.reduceLT, Int.reduceToNat, Int.reduceNeg, reduceCtorEq, C_expand_Check, C_claims_order, claims_Check_l0, hc0, hw0]
          all_goals exact cl
        · have hc0 : decide ((k_0 : Int) < (a1.length : Int)) = false := by simp only [decide_eq_false_iff_not]; omega
          simp only [go_sem, Nat.reduceBEq, Nat.reduceLeDiff, Nat.reduceAdd, Nat.reduceSub, Nat.reduceMul, Int.reduceLE, Int.reduceLT, Int.reduceToNat, Int.reduceNeg, reduceCtorEq, C_expand_Check, C_claims_order, hc0]
          all_goals exact cl2
  · unfold bodyOf Try.f26
    try unfold claims_Check
    simp only [go_sem, Nat.reduceBEq, Nat.reduceLeDiff, Nat.reduceAdd, Nat.reduceSub, Nat.reduceMul, Int.reduceLE, Int.reduceLT, Int.reduceToNat, Int.reduceNeg, reduceCtorEq, C_expand_Check, C_claims_order]
    all_goals exact cl
def losses_in (n : Int) (lo : Int) (hi : Int) : Bool := ((decide (n ≥ lo)) && (decide (n ≤ hi)))
def C_losses_in : List SV → Option Con := (pI fun n => (pI fun lo => (pI fun hi => pE (.det True (.v (.bool (losses_in n lo hi)))))))
theorem ok_losses_in : FnOk Try.prog 53 C_losses_in := by
  have hG : ConsOk Try.prog (mkG [] []) := mkG_ok cg0 cg0
  refine fn_okN [.o] mixed ts_ok hG (fn := Try.f53) (c := bodyOf Try.f53) (by kernel_rfl) (by kernel_rfl) (by kernel_rfl) (by kernel_rfl) fun l con h hp => ?_
  unfold C_losses_in at h
  obtain ⟨n, l0, rfl, h0⟩ := pI_inv h
  obtain ⟨lo, l1, rfl, h1⟩ := pI_inv h0
  obtain ⟨hi, l2, rfl, h2⟩ := pI_inv h1
  obtain ⟨rfl, rfl⟩ := pE_inv h2
  clear h h0 h1 h2
  dsimp only [conPre] at hp
  refine ⟨Nat.le_of_ble_eq_true rfl, (fun id st => none), ?_, ?_⟩
  · unfold bodyOf Try.f53
    simp only [loopsOk, and_self, true_and, and_true]
  · unfold bodyOf Try.f53
    try unfold losses_in
    simp only [go_sem, Nat.reduceBEq, Nat.reduceLeDiff, Nat.reduceAdd, Nat.reduceSub, Nat.reduceMul, Int.reduceLE, Int.reduceLT, Int.reduceToNat, Int.reduceNeg, reduceCtorEq]
    all_goals exact cl
def losses_share (a : Ratio) : Bool := (((ratio_Check a) == 0) && (losses_in a.n 0 a.d))
def C_losses_share : List SV → Option Con := (pD .ratio fun a => pE (.det True (.v (.bool (losses_share a)))))
theorem ok_losses_share : FnOk Try.prog 70 C_losses_share := by
  have hG : ConsOk Try.prog (mkG [(53, C_losses_in), (72, C_ratio_Check)] []) := mkG_ok (cgc ok_losses_in (cgc ok_ratio_Check cg0)) cg0
  refine fn_okN [.o] mixed ts_ok hG (fn := Try.f70) (c := bodyOf Try.f70) (by kernel_rfl) (by kernel_rfl) (by kernel_rfl) (by kernel_rfl) fun l con h hp => ?_
  unfold C_losses_share at h
  obtain ⟨a, l0, rfl, h0⟩ := pD_inv h
  obtain ⟨rfl, rfl⟩ := pE_inv h0
  clear h h0
  dsimp only [conPre] at hp
  refine ⟨Nat.le_of_ble_eq_true rfl, (fun id st => none), ?_, ?_⟩
  · unfold bodyOf Try.f70
    simp only [loopsOk, and_self, true_and, and_true]
  · unfold bodyOf Try.f70
    try unfold losses_share
    simp only [go_sem, Nat.reduceBEq, Nat.reduceLeDiff, Nat.reduceAdd, Nat.reduceSub, Nat.reduceMul, Int.reduceLE, Int.reduceLT, Int.reduceToNat, Int.reduceNeg, reduceCtorEq, C_losses_in, C_ratio_Check]
    all_goals exact cl
def losses_shares (a : Ratio × Ratio) : Bool := (bif ((!(losses_share a.1)) || (!(losses_share a.2))) then false else (((ratio_Cmp a.1 a.2).2 == 0) && (decide ((ratio_Cmp a.1 a.2).1 ≤ 0))))
def C_losses_shares : List SV → Option Con := (pD .ratio2 fun a => pE (.det True (.v (.bool (losses_shares a)))))
theorem ok_losses_shares : FnOk Try.prog 52 C_losses_shares := by
  have hG : ConsOk Try.prog (mkG [(70, C_losses_share), (71, C_ratio_Cmp)] []) := mkG_ok (cgc ok_losses_share (cgc ok_ratio_Cmp cg0)) cg0
  refine fn_okN [.o] mixed ts_ok hG (fn := Try.f52) (c := bodyOf Try.f52) (by kernel_rfl) (by kernel_rfl) (by kernel_rfl) (by kernel_rfl) fun l con h hp => ?_
  unfold C_losses_shares at h
  obtain ⟨a, l0, rfl, h0⟩ := pD_inv h
  obtain ⟨rfl, rfl⟩ := pE_inv h0
  clear h h0
  dsimp only [conPre] at hp
  refine ⟨Nat.le_of_ble_eq_true rfl, (fun id st => none), ?_, ?_⟩
  · unfold bodyOf Try.f52
    simp only [loopsOk, and_self, true_and, and_true]
  · unfold bodyOf Try.f52
    try unfold losses_shares
    simp only [go_sem, Nat.reduceBEq, Nat.reduceLeDiff, Nat.reduceAdd, Nat.reduceSub, Nat.reduceMul, Int.reduceLE, Int.reduceLT, Int.reduceToNat, Int.reduceNeg, reduceCtorEq, C_losses_share, C_ratio_Cmp]
    all_goals exact cl
def losses_ordered (x : Range) (most : Int) : Bool := (((decide (x.lo ≥ 0)) && (decide (x.lo ≤ x.hi))) && (decide (x.hi ≤ most)))
def C_losses_ordered : List SV → Option Con := (pD .range fun x => (pI fun most => pE (.det True (.v (.bool (losses_ordered x most))))))
theorem ok_losses_ordered : FnOk Try.prog 51 C_losses_ordered := by
  have hG : ConsOk Try.prog (mkG [] []) := mkG_ok cg0 cg0
  refine fn_okN [.o] mixed ts_ok hG (fn := Try.f51) (c := bodyOf Try.f51) (by kernel_rfl) (by kernel_rfl) (by kernel_rfl) (by kernel_rfl) fun l con h hp => ?_
  unfold C_losses_ordered at h
  obtain ⟨x, l0, rfl, h0⟩ := pD_inv h
  obtain ⟨most, l1, rfl, h1⟩ := pI_inv h0
  obtain ⟨rfl, rfl⟩ := pE_inv h1
  clear h h0 h1
  dsimp only [conPre] at hp
  refine ⟨Nat.le_of_ble_eq_true rfl, (fun id st => none), ?_, ?_⟩
  · unfold bodyOf Try.f51
    simp only [loopsOk, and_self, true_and, and_true]
  · unfold bodyOf Try.f51
    try unfold losses_ordered
    simp only [go_sem, Nat.reduceBEq, Nat.reduceLeDiff, Nat.reduceAdd, Nat.reduceSub, Nat.reduceMul, Int.reduceLE, Int.reduceLT, Int.reduceToNat, Int.reduceNeg, reduceCtorEq]
    all_goals exact cl
def losses_valid (r : Reach) (n : Int) : Int := (bif ((!(losses_ordered r.evap 1073741824)) || (!(losses_shares r.seep))) then 210 else (bif (!(losses_in n 0 1073741824)) then 1 else 0))
def C_losses_valid : List SV → Option Con := (pD .reach fun r => (pI fun n => pE (.det True (.v (.int .i64 (losses_valid r n))))))
theorem ok_losses_valid : FnOk Try.prog 33 C_losses_valid := by
  have hG : ConsOk Try.prog (mkG [(51, C_losses_ordered), (52, C_losses_shares), (53, C_losses_in)] []) := mkG_ok (cgc ok_losses_ordered (cgc ok_losses_shares (cgc ok_losses_in cg0))) cg0
  refine fn_okN [.o] mixed ts_ok hG (fn := Try.f33) (c := bodyOf Try.f33) (by kernel_rfl) (by kernel_rfl) (by kernel_rfl) (by kernel_rfl) fun l con h hp => ?_
  unfold C_losses_valid at h
  obtain ⟨r, l0, rfl, h0⟩ := pD_inv h
  obtain ⟨n, l1, rfl, h1⟩ := pI_inv h0
  obtain ⟨rfl, rfl⟩ := pE_inv h1
  clear h h0 h1
  dsimp only [conPre] at hp
  refine ⟨Nat.le_of_ble_eq_true rfl, (fun id st => none), ?_, ?_⟩
  · unfold bodyOf Try.f33
    simp only [loopsOk, and_self, true_and, and_true]
  · unfold bodyOf Try.f33
    try unfold losses_valid
    simp only [go_sem, Nat.reduceBEq, Nat.reduceLeDiff, Nat.reduceAdd, Nat.reduceSub, Nat.reduceMul, Int.reduceLE, Int.reduceLT, Int.reduceToNat, Int.reduceNeg, reduceCtorEq, C_losses_ordered, C_losses_shares, C_losses_in]
    all_goals exact cl
def ratio_down (n : Int) (d : Int) : Int := (IntKind.i64.wrap (Int.tdiv (IntKind.i64.wrap (n - (Int.tmod (IntKind.i64.wrap ((Int.tmod n d) + d)) d))) d))
def ratio_down_p (n : Int) (d : Int) : Prop := (d ≠ 0 ∧ (d ≠ 0 ∧ d ≠ 0))
def C_ratio_down : List SV → Option Con := (pI fun n => (pI fun d => pE (.det (ratio_down_p n d) (.v (.int .i64 (ratio_down n d))))))
theorem ok_ratio_down : FnOk Try.prog 73 C_ratio_down := by
  have hG : ConsOk Try.prog (mkG [] []) := mkG_ok cg0 cg0
  refine fn_okN [.o] mixed ts_ok hG (fn := Try.f73) (c := bodyOf Try.f73) (by kernel_rfl) (by kernel_rfl) (by kernel_rfl) (by kernel_rfl) fun l con h hp => ?_
  unfold C_ratio_down at h
  obtain ⟨n, l0, rfl, h0⟩ := pI_inv h
  obtain ⟨d, l1, rfl, h1⟩ := pI_inv h0
  obtain ⟨rfl, rfl⟩ := pE_inv h1
  clear h h0 h1
  dsimp only [conPre] at hp
  unfold ratio_down_p at hp
  refine ⟨Nat.le_of_ble_eq_true rfl, (fun id st => none), ?_, ?_⟩
  · unfold bodyOf Try.f73
    simp only [loopsOk, and_self, true_and, and_true]
  · unfold bodyOf Try.f73
    try unfold ratio_down
    simp only [go_sem, Nat.reduceBEq, Nat.reduceLeDiff, Nat.reduceAdd, Nat.reduceSub, Nat.reduceMul, Int.reduceLE, Int.reduceLT, Int.reduceToNat, Int.reduceNeg, reduceCtorEq]
    all_goals exact cl
def ratio_Times (a : Ratio) (n : Int) : Int × Int × Int := (bif ((ratio_Check a) != 0) then (0, 0, (ratio_Check a)) else (bif ((decide (n < (-1073741824))) || (decide (n > 1073741824))) then (0, 0, 1) else ((ratio_down (IntKind.i64.wrap (a.n * n)) a.d), (IntKind.i64.wrap (0 - (ratio_down (IntKind.i64.wrap ((IntKind.i64.wrap (0 - a.n)) * n)) a.d))), 0)))
def ratio_Times_p (a : Ratio) (n : Int) : Prop := (((ratio_Check a) != 0) = false → (((decide (n < (-1073741824))) || (decide (n > 1073741824))) = false → ((ratio_down_p (IntKind.i64.wrap (a.n * n)) a.d) ∧ (ratio_down_p (IntKind.i64.wrap ((IntKind.i64.wrap (0 - a.n)) * n)) a.d))))
theorem ratio_Check_d {a : Ratio} (h : (ratio_Check a != 0) = false) : 1 ≤ a.d := by
  unfold ratio_Check at h
  by_cases hd : a.d < 1
  · simp [hd] at h
  · omega
theorem ratio_Times_pt (a : Ratio) (n : Int) : ratio_Times_p a n := fun h _ => by
  have := ratio_Check_d h
  exact ⟨⟨by omega, by omega, by omega⟩, ⟨by omega, by omega, by omega⟩⟩
def C_ratio_Times : List SV → Option Con := (pD .ratio fun a => (pI fun n => pE (.det True (.tup [.v (.int .i64 ((ratio_Times a n).1)), .v (.int .i64 ((ratio_Times a n).2.1)), .v (.int .i64 ((ratio_Times a n).2.2))]))))
theorem ok_ratio_Times : FnOk Try.prog 54 C_ratio_Times := by
  have hG : ConsOk Try.prog (mkG [(72, C_ratio_Check), (73, C_ratio_down)] []) := mkG_ok (cgc ok_ratio_Check (cgc ok_ratio_down cg0)) cg0
  refine fn_okN [.o, .o, .o] mixed ts_ok hG (fn := Try.f54) (c := bodyOf Try.f54) (by kernel_rfl) (by kernel_rfl) (by kernel_rfl) (by kernel_rfl) fun l con h hp => ?_
  unfold C_ratio_Times at h
  obtain ⟨a, l0, rfl, h0⟩ := pD_inv h
  obtain ⟨n, l1, rfl, h1⟩ := pI_inv h0
  obtain ⟨rfl, rfl⟩ := pE_inv h1
  clear h h0 h1
  dsimp only [conPre] at hp
  have hp := ratio_Times_pt a n
  unfold ratio_Times_p at hp
  refine ⟨Nat.le_of_ble_eq_true rfl, (fun id st => none), ?_, ?_⟩
  · unfold bodyOf Try.f54
    simp only [loopsOk, and_self, true_and, and_true]
  · unfold bodyOf Try.f54
    try unfold ratio_Times
    simp only [go_sem, Nat.reduceBEq, Nat.reduceLeDiff, Nat.reduceAdd, Nat.reduceSub, Nat.reduceMul, Int.reduceLE, Int.reduceLT, Int.reduceToNat, Int.reduceNeg, reduceCtorEq, C_ratio_Check, C_ratio_down]
    all_goals exact cl
def losses_lost (r : Reach) (v : Int) : Range := (bif (v == 0) then ({ lo := 0, hi := 0 } : Range) else ({ lo := (if (IntKind.i64.wrap (r.evap.lo + (ratio_Times r.seep.1 v).1)) < v then (IntKind.i64.wrap (r.evap.lo + (ratio_Times r.seep.1 v).1)) else v), hi := (if (IntKind.i64.wrap (r.evap.hi + (ratio_Times r.seep.2 v).2.1)) < v then (IntKind.i64.wrap (r.evap.hi + (ratio_Times r.seep.2 v).2.1)) else v) } : Range))
def C_losses_lost : List SV → Option Con := (pD .reach fun r => (pI fun v => pE (.det True (.agg (cellsOf .range (losses_lost r v))))))
theorem ok_losses_lost : FnOk Try.prog 34 C_losses_lost := by
  have hG : ConsOk Try.prog (mkG [(54, C_ratio_Times)] []) := mkG_ok (cgc ok_ratio_Times cg0) cg0
  refine fn_okN [.st .range] mixed ts_ok hG (fn := Try.f34) (c := bodyOf Try.f34) (by kernel_rfl) (by kernel_rfl) (by kernel_rfl) (by kernel_rfl) fun l con h hp => ?_
  unfold C_losses_lost at h
  obtain ⟨r, l0, rfl, h0⟩ := pD_inv h
  obtain ⟨v, l1, rfl, h1⟩ := pI_inv h0
  obtain ⟨rfl, rfl⟩ := pE_inv h1
  clear h h0 h1
  dsimp only [conPre] at hp
  refine ⟨Nat.le_of_ble_eq_true rfl, (fun id st => none), ?_, ?_⟩
  · unfold bodyOf Try.f34
    simp only [loopsOk, and_self, true_and, and_true]
  · unfold bodyOf Try.f34
    try unfold losses_lost
    simp only [go_sem, Nat.reduceBEq, Nat.reduceLeDiff, Nat.reduceAdd, Nat.reduceSub, Nat.reduceMul, Int.reduceLE, Int.reduceLT, Int.reduceToNat, Int.reduceNeg, reduceCtorEq, C_ratio_Times]
    all_goals exact cl
def losses_Worst (r : Reach) (v : Int) : Int × Int := (bif ((losses_valid r v) != 0) then (0, (losses_valid r v)) else ((IntKind.i64.wrap (v - (losses_lost r v).hi)), 0))
def C_losses_Worst : List SV → Option Con := (pD .reach fun r => (pI fun v => pE (.det True (.tup [.v (.int .i64 ((losses_Worst r v).1)), .v (.int .i64 ((losses_Worst r v).2))]))))
theorem ok_losses_Worst : FnOk Try.prog 41 C_losses_Worst := by
  have hG : ConsOk Try.prog (mkG [(33, C_losses_valid), (34, C_losses_lost)] []) := mkG_ok (cgc ok_losses_valid (cgc ok_losses_lost cg0)) cg0
  refine fn_okN [.o, .o] mixed ts_ok hG (fn := Try.f41) (c := bodyOf Try.f41) (by kernel_rfl) (by kernel_rfl) (by kernel_rfl) (by kernel_rfl) fun l con h hp => ?_
  unfold C_losses_Worst at h
  obtain ⟨r, l0, rfl, h0⟩ := pD_inv h
  obtain ⟨v, l1, rfl, h1⟩ := pI_inv h0
  obtain ⟨rfl, rfl⟩ := pE_inv h1
  clear h h0 h1
  dsimp only [conPre] at hp
  refine ⟨Nat.le_of_ble_eq_true rfl, (fun id st => none), ?_, ?_⟩
  · unfold bodyOf Try.f41
    simp only [loopsOk, and_self, true_and, and_true]
  · unfold bodyOf Try.f41
    try unfold losses_Worst
    simp only [go_sem, Nat.reduceBEq, Nat.reduceLeDiff, Nat.reduceAdd, Nat.reduceSub, Nat.reduceMul, Int.reduceLE, Int.reduceLT, Int.reduceToNat, Int.reduceNeg, reduceCtorEq, C_losses_valid, C_losses_lost]
    all_goals exact cl
def losses_Lost (r : Reach) (v : Int) : Range × Int := (bif ((losses_valid r v) != 0) then (({ lo := 0, hi := 0 } : Range), (losses_valid r v)) else ((losses_lost r v), 0))
def C_losses_Lost : List SV → Option Con := (pD .reach fun r => (pI fun v => pE (.det True (.tup [.agg (cellsOf .range ((losses_Lost r v).1)), .v (.int .i64 ((losses_Lost r v).2))]))))
theorem ok_losses_Lost : FnOk Try.prog 13 C_losses_Lost := by
  have hG : ConsOk Try.prog (mkG [(33, C_losses_valid), (34, C_losses_lost)] []) := mkG_ok (cgc ok_losses_valid (cgc ok_losses_lost cg0)) cg0
  refine fn_okN [.st .range, .o] mixed ts_ok hG (fn := Try.f13) (c := bodyOf Try.f13) (by kernel_rfl) (by kernel_rfl) (by kernel_rfl) (by kernel_rfl) fun l con h hp => ?_
  unfold C_losses_Lost at h
  obtain ⟨r, l0, rfl, h0⟩ := pD_inv h
  obtain ⟨v, l1, rfl, h1⟩ := pI_inv h0
  obtain ⟨rfl, rfl⟩ := pE_inv h1
  clear h h0 h1
  dsimp only [conPre] at hp
  refine ⟨Nat.le_of_ble_eq_true rfl, (fun id st => none), ?_, ?_⟩
  · unfold bodyOf Try.f13
    simp only [loopsOk, and_self, true_and, and_true]
  · unfold bodyOf Try.f13
    try unfold losses_Lost
    simp only [go_sem, Nat.reduceBEq, Nat.reduceLeDiff, Nat.reduceAdd, Nat.reduceSub, Nat.reduceMul, Int.reduceLE, Int.reduceLT, Int.reduceToNat, Int.reduceNeg, reduceCtorEq, C_losses_valid, C_losses_lost]
    all_goals exact cl
def certify_table_arrives (t : CertifyTable) (reach : Int) (hour : Int) : Int := (losses_Worst (t.d.reaches.getD (Int.toNat reach) (default : Reach)) (mgetT .certifyPlace .int t.litres ({ hour := (IntKind.i64.wrap (hour - (t.d.reaches.getD (Int.toNat reach) (default : Reach)).delay)), index := reach, outlet := false } : CertifyPlace))).1
def certify_table_arrives_p (t : CertifyTable) (reach : Int) (hour : Int) : Prop := ((0 ≤ reach ∧ reach < (t.d.reaches.length : Int)) ∧ (0 ≤ reach ∧ reach < (t.d.reaches.length : Int)))
def C_certify_table_arrives : List SV → Option Con := (pD .certifyTable fun t => (pI fun reach => (pI fun hour => pE (.det (certify_table_arrives_p t reach hour) (.v (.int .i64 (certify_table_arrives t reach hour)))))))
theorem ok_certify_table_arrives : FnOk Try.prog 22 C_certify_table_arrives := by
  have hG : ConsOk Try.prog (mkG [(41, C_losses_Worst)] []) := mkG_ok (cgc ok_losses_Worst cg0) cg0
  refine fn_okN [.o] mixed ts_ok hG (fn := Try.f22) (c := bodyOf Try.f22) (by kernel_rfl) (by kernel_rfl) (by kernel_rfl) (by kernel_rfl) fun l con h hp => ?_
  unfold C_certify_table_arrives at h
  obtain ⟨t, l0, rfl, h0⟩ := pD_inv h
  obtain ⟨reach, l1, rfl, h1⟩ := pI_inv h0
  obtain ⟨hour, l2, rfl, h2⟩ := pI_inv h1
  obtain ⟨rfl, rfl⟩ := pE_inv h2
  clear h h0 h1 h2
  dsimp only [conPre] at hp
  unfold certify_table_arrives_p at hp
  refine ⟨Nat.le_of_ble_eq_true rfl, (fun id st => none), ?_, ?_⟩
  · unfold bodyOf Try.f22
    simp only [loopsOk, and_self, true_and, and_true]
  · unfold bodyOf Try.f22
    try unfold certify_table_arrives
    simp only [go_sem, Nat.reduceBEq, Nat.reduceLeDiff, Nat.reduceAdd, Nat.reduceSub, Nat.reduceMul, Int.reduceLE, Int.reduceLT, Int.reduceToNat, Int.reduceNeg, reduceCtorEq, C_losses_Worst]
    all_goals exact cl
end Go.Sx
end
