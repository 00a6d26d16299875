/- Part of the proof that the law RoutingPlanSpec returns true and leaves its arguments as they were, for all arguments of bulk at most 1048576 (the Upto form). -/
import Derived.Test.YtfbcohfemignhaaGreatC106
import Derived.Test.YtfbcohfemignhaaGreatC107
import Derived.Sort.Statements
import Derived.Shelf.SlSortCmp.Insertion
import Derived.Calls
import Derived.Shelf.SlSortCmp.NoneTotal
import Derived.Ground.SlsfProg
import Derived.Test.YtfbcohfemignhaaGreatProg
set_option linter.all false
set_option maxHeartbeats 4000000
section
namespace Go.Sx
open Go.RowKit
def nil1 (k : Tag) (i : Nat) (t : List (Nat × SV)) (h : List Ob) : SV → St
  | .v (.slice none 0 0) => ⟨(i, .os h.length) :: t, h ++ [.row k []]⟩
  | _ => ⟨t, h⟩
def nil2 (k : Tag) (id off : Nat) (t : List (Nat × SV)) (h : List Ob) (l : List SV) : Option SV → St
  | some (.v (.slice none 0 0)) => ⟨t, obSet h id (.cells (l.set off (.os h.length))) ++ [.row k []]⟩
  | _ => ⟨t, h⟩
def nil3 (k : Tag) (id off : Nat) (t : List (Nat × SV)) (h : List Ob) : Ob → St
  | .cells l => nil2 k id off t h l (nth l off)
  | _ => ⟨t, h⟩
def nil4 (k : Tag) (t : List (Nat × SV)) (h : List Ob) : SV → St
  | .ptr id off => nil3 k id off t h (obAt h id)
  | _ => ⟨t, h⟩
def nilR1 (k : Tag) : ResultVar → List (Nat × SV) → List Ob → St
  | .tmp i, t, h => nil1 k i t h (lk i t)
  | .cell i _, t, h => nil4 k t h (lk i t)
def nilR : List (ResultVar × Tag) → St → St
  | [], st => st
  | x :: r, st => nilR r (nilR1 x.2 x.1 st.t st.h)
theorem nilR1_s (k : Tag) (r : ResultVar) (st : St) : NilS st (nilR1 k r st.t st.h) := by
  obtain ⟨t, h⟩ := st
  cases r with
  | tmp i =>
    show NilS _ (nil1 k i t h (lk i t))
    unfold nil1
    split
    · rename_i e
      exact .slot _ (.refl _) e (.inl ⟨_, rfl⟩)
    · exact .refl _
  | cell i _ =>
    show NilS _ (nil4 k t h (lk i t))
    unfold nil4
    split
    · unfold nil3
      split
      · rename_i e
        unfold nil2
        split
        · rename_i e2
          exact .cell _ (.refl _) e (by rw [← nth_eq]; exact e2) (.inl ⟨_, rfl⟩)
        · exact .refl _
      · exact .refl _
    · exact .refl _
theorem NilS.trans {a b c : St} (h1 : NilS a b) (h2 : NilS b c) : NilS a c := by
  induction h2 with
  | refl => exact h1
  | cell o _ e1 e2 ho ih => exact .cell o ih e1 e2 ho
  | slot o _ e1 ho ih => exact .slot o ih e1 ho
theorem nilR_s (l : List (ResultVar × Tag)) : ∀ st, NilS st (nilR l st) := by
  induction l with
  | nil => exact fun st => .refl _
  | cons x r ih => exact fun st => (nilR1_s x.2 x.1 st).trans (ih _)
def doneW (l : List (ResultVar × Tag)) (rs : List ResultVar) (ts : Tis) (post : SV → Prop) (pp : Value → Prop) : Ex → St → Prop
  | .exit _, _ => False
  | .normal, st => donePost post (retM true rs ts (nilR l st))
  | .ret, st => donePost post (retM true rs ts (nilR l st))
  | .pan x, _ => pp x
section
variable {l : List (ResultVar × Tag)} {rs : List ResultVar} {ts : Tis} {post : SV → Prop} {pp : Value → Prop} {st : St} {k : Tag} {i id off : Nat} {t : List (Nat × SV)} {h : List Ob} {m : List SV}
@[go_sem] theorem doneW_ret : doneW l rs ts post pp .ret st = donePost post (retM true rs ts (nilR l st)) := (rfl)
@[go_sem] theorem doneW_normal : doneW l rs ts post pp .normal st = donePost post (retM true rs ts (nilR l st)) := (rfl)
@[go_sem] theorem doneW_pan {x : Value} : doneW l rs ts post pp (.pan x) st = pp x := (rfl)
@[go_sem] theorem nilR_nil : nilR [] st = st := (rfl)
@[go_sem] theorem nilR_cons {r : ResultVar} : nilR ((r, k) :: l) ⟨t, h⟩ = nilR l (nilR1 k r t h) := (rfl)
@[go_sem] theorem nilR1_tmp : nilR1 k (.tmp i) t h = nil1 k i t h (lk i t) := (rfl)
@[go_sem] theorem nilR1_cell {ty : TypeId} : nilR1 k (.cell i ty) t h = nil4 k t h (lk i t) := (rfl)
@[go_sem] theorem nil1_nil : nil1 k i t h (.v (.slice none 0 0)) = ⟨(i, .os h.length) :: t, h ++ [.row k []]⟩ := (rfl)
@[go_sem] theorem nil1_os : nil1 k i t h (.os id) = ⟨t, h⟩ := (rfl)
@[go_sem] theorem nil4_ptr : nil4 k t h (.ptr id off) = nil3 k id off t h (obAt h id) := (rfl)
@[go_sem] theorem nil3_cells : nil3 k id off t h (.cells m) = nil2 k id off t h m (nth m off) := (rfl)
@[go_sem] theorem nil2_nil : nil2 k id off t h m (some (.v (.slice none 0 0))) = ⟨t, obSet h id (.cells (m.set off (.os h.length))) ++ [.row k []]⟩ := (rfl)
@[go_sem] theorem nil2_os : nil2 k id off t h m (some (.os i)) = ⟨t, h⟩ := (rfl)
attribute [go_sem] List.set_cons_zero
end
section
variable {P : Program} {ts : Tis} {G : Cons}
theorem fn_okW (l : List (ResultVar × Tag)) (hm : P.follows .mixedOrders = true) (hts : ts.ok P) (hG : ConsOk P G) {f : FuncId} {fn : Func} {c : Code} (hf : P.funcs[f]? = some fn) (hb : fn.body = some c) (hname : (fn.name == "runtime.NumGoroutine") = false)
    (hc : okCode fn.ntmps c = true) {C : List SV → Option Con}
    (h : ∀ l0 con, C l0 = some con → conPre con → l0.length ≤ fn.ntmps ∧ ∃ L, loopsOk P none fn.ntmps L c ∧ exec ts G L c ⟨initT 0 l0, []⟩ (doneW l fn.results.toList ts (conPost con) (conPan con))) : FnOk P f C := by
  refine ⟨fun l con _ args w => ?_, fun l0 con hcon hpre F w vs hF hvs => ?_⟩
  · have hn : ¬ fn.name = "runtime.NumGoroutine" := by simpa using hname
    simp [callFunc, hf, hn, hb]
  · obtain ⟨hlen, L, hl, hx⟩ := h l0 con hcon hpre
    refine calls_wide (n := 0) (callsIn_of_wp_marks hf hb trivial ?_)
    have hr : StRel F { w := w, own := own0 } fn.ntmps own0 ⟨initT 0 l0, []⟩ { tmps := vs ++ Array.replicate (fn.ntmps - vs.size) undef, defers := [] } w :=
      ⟨by have := hvs.1; simp; omega, Dfr.nil, hp_none hF, Fr.refl _, fun t => start_slots hvs _ t⟩
    refine wpIn_mono (exec_ok hm hts hG c hc hl F _ _ hx own0 _ w hr) ?_
    intro e a' w' hq
    have key : ∀ F1 own st, (∀ b, F b → F1 b) → StRel F1 { w := w, own := own0 } fn.ntmps own st a' w' → donePost (conPost con) (retM true fn.results.toList ts (nilR l st)) → LeavesInM (rd none) 0 P fn a'.tmps
        (fun e w' => (∃ s u own', conPost con s ∧ e = .returned u ∧ Handed F w own' w' s u ∧ Below w.heap.size w w') ∨ (∃ x, conPan con x ∧ e = .panicked [{ v := x, recovered := false }] ∧ Below w.heap.size w w')) a'.defers .returning w' := by
      intro F1 own0' st0 hF1 hst0 hdone
      obtain ⟨own, hst⟩ := (nilR_s l st0).rel hst0
      generalize nilR l st0 = st at hst hdone
      refine leave_ok hst (by simp) fun w2 hst2 => ?_
      have hst3 := hst2.less hF1 rfl
      unfold retM at hdone
      cases hs : tupO (retL ts st fn.results.toList) with
      | none =>
        simp only [cond_true, retG] at hdone; rw [hs] at hdone; exact hdone.elim
      | some s =>
        obtain ⟨u, e1, e2⟩ := retT_ok (P := P) hts hst3 hs
        refine ⟨u, e1, .inl ?_⟩
        simp only [cond_true, retG] at hdone
        rw [hs] at hdone
        change donePost (conPost con) (giveB st.h s) at hdone
        cases hg : giveB st.h s with
        | none => rw [hg] at hdone; exact hdone.elim
        | some s2 =>
          rw [hg] at hdone
          obtain ⟨own', hh⟩ := give_ok hst3 e2 hg
          exact ⟨_, u, own', hdone, rfl, hh, below_fr hst3.fr⟩
    cases e with
    | normal => obtain ⟨F1, own, st, h0, h1, h2⟩ := hq; exact key F1 own st h0 h1 h2
    | ret => obtain ⟨F1, own, st, h0, h1, h2⟩ := hq; exact key F1 own st h0 h1 h2
    | exit id => obtain ⟨F1, own, st, h0, h1, h2⟩ := hq; exact h2.elim
    | panic ch =>
      obtain ⟨x, F1, own, st, h0, h1, h2, rfl⟩ := hq
      exact leave_ok h1 (by simp) fun w2 hst2 => .inr ⟨x, h2, rfl, below_fr hst2.fr⟩
    | _ => exact hq.elim
end
end Go.Sx
end
section
namespace Go.Sx
open Go.Proofs
set_option maxRecDepth 100000
set_option linter.unusedSimpArgs false
def upL (d : District) : Nat → Int → List Int
  | 0, _ => []
  | f + 1, n => if 0 ≤ n then n :: upL d f (d.reaches.getD n.toNat (dflt .reach)).up else []
def upOk (d : District) : Nat → Int → Prop
  | 0, n => n < 0
  | f + 1, n => 0 ≤ n → n < d.reaches.length ∧ upOk d f (d.reaches.getD n.toNat (dflt .reach)).up
def canals_up (d : District) (n : Int) : List Int := upL d (n.toNat + 1) n
def canals_up_p (d : District) (n : Int) : Prop := upOk d (n.toNat + 1) n
theorem upL_step {d : District} {f : Nat} {n : Int} (h : upOk d f n) (hn : 0 ≤ n) : ∃ f', f = f' + 1 ∧ n < d.reaches.length ∧ upOk d f' (d.reaches.getD n.toNat (dflt .reach)).up ∧ upL d f n = n :: upL d f' (d.reaches.getD n.toNat (dflt .reach)).up := by
  cases f with
  | zero => exact absurd h (by unfold upOk; omega)
  | succ f' =>
    obtain ⟨h1, h2⟩ := h hn
    exact ⟨f', rfl, h1, h2, by rw [upL, if_pos hn]⟩
theorem upL_end {d : District} {f : Nat} {n : Int} (hn : ¬ 0 ≤ n) : upL d f n = [] := by
  cases f with
  | zero => rfl
  | succ f' => rw [upL, if_neg hn]
def intI (x : Int) : List SV := [.v (.int .i64 x)]
@[go_sem] def C_canals_up : List SV → List Ob → Option HCon := fun l h => noH h ((pD .district fun d => pI fun n => pE (retC True (.fn 97 [] [.ptr 0 0, .ptr 1 0]) [.cells [.v (.int .i64 n)], .cells (cellsOf .district d)])) l)
theorem ok_canals_up : FnOkO Tryz.prog 79 C_canals_up := by
  have hG : ConsOk Tryz.prog (mkG [] []) := mkG_ok cg0 cg0
  refine fn_ok_oE mixed ts_ok hG (fn := Tryz.f79) (c := bodyOf Tryz.f79) (by kernel_rfl) (by kernel_rfl) (by kernel_rfl) (by kernel_rfl) fun l o con h hp => ?_
  unfold C_canals_up at h
  obtain ⟨rfl, h⟩ := noH_inv h
  obtain ⟨n, l0, rfl, h0⟩ := pD_inv h
  obtain ⟨d, l1, rfl, h1⟩ := pI_inv h0
  obtain ⟨rfl, rfl⟩ := pE_inv h1
  refine ⟨Nat.le_of_ble_eq_true rfl, L0, loopsOk0 _, ?_⟩
  unfold bodyOf Tryz.f79
  simp only [go_sem, Nat.reduceBEq, Nat.reduceLeDiff, Nat.reduceAdd, Nat.reduceSub, Nat.reduceMul]
  refine ⟨(), _, _, [1, 0], trivial, rfl, ?_⟩
  simp only [go_sem, Nat.reduceBEq, Nat.reduceLeDiff, Nat.reduceAdd, true_and, and_true]
  all_goals (first | done | decide | (repeat' (first | refine And.intro ?_ ?_ | rfl | decide)))
open Classical in
theorem up_it (d : District) (n0 : Int) (hp0 : canals_up_p d n0) : ItOk Tryz.prog 97 (fun y => [y, .ptr 1 0, .ptr 2 0]) [.cells [.v (.int .i64 n0)], .cells (cellsOf .district d)] ((canals_up d n0).map intI) := by
  unfold canals_up_p at hp0
  unfold canals_up
  generalize hI : (upL d (n0.toNat + 1) n0).map intI = items
  refine it_ok (fun r hr hy => ?_) (fun args w => by kernel_rfl)
  have hG : ConsOk Tryz.prog (mkGY [] [] (itY items r)) := mkGY_ok (by simp) (by simp) hy
  refine ⟨fun l h => if l = [.os 0, .ptr 1 0, .ptr 2 0] ∧ h = [.ab (r 1), .cells [.v (.int .i64 n0)], .cells (cellsOf .district d)] then some { α := Nat, pre := True, post := fun j => j = 0 ∨ j = items.length + 1, res := fun j => .ret (.tup []) [.ab (r j), .dead, .dead] } else none,
    ?_, _, if_pos ⟨rfl, rfl⟩, trivial, fun j hj => ⟨_, j, _, rfl, hj⟩⟩
  refine fn_ok_oE mixed ts_ok hG (fn := Tryz.f97) (c := bodyOf Tryz.f97) (by kernel_rfl) (by kernel_rfl) (by kernel_rfl) (by kernel_rfl) fun l o con h hp => ?_
  split at h
  rotate_left
  · cases h
  rename_i hlo
  obtain ⟨rfl, rfl⟩ := hlo
  cases h
  refine ⟨Nat.le_of_ble_eq_true rfl, fun id st => bif Nat.beq id 0 then some { α := Nat × Bool, pre := lk 0 st.t = .os 0 ∧ lk 1 st.t = .ptr 1 0 ∧ lk 2 st.t = .ptr 2 0 ∧ st.h = [.ab (r 1), .cells [.v (.int .i64 n0)], .cells (cellsOf .district d)], post := fun j => j.1 = 0 ∨ j.1 = items.length + 1, ex := fun j => bif j.2 then .ret else .normal, out := fun j => ⟨[], [.ab (r j.1), .dead, .dead]⟩ : LCon } else none, ?_, ?_⟩
  · unfold bodyOf Tryz.f97
    simp only [loopsOk, true_and, and_true]
    refine loop_okE mixed ts_ok hG (by kernel_rfl) fun st lc hC hp => ?_
    simp only [go_sem, Nat.reduceBEq, Option.some.injEq] at hC
    subst hC
    obtain ⟨t, h⟩ := st
    dsimp only at hp
    obtain ⟨h0, h1, h2, rfl⟩ := hp
    refine ⟨Nat × Nat × Int, fun x => ⟨[(0, .os 0), (1, .ptr 1 0), (2, .ptr 2 0)], [.ab (r (x.1 + 1)), .cells [.v (.int .i64 x.2.2)], .cells (cellsOf .district d)]⟩, fun x => upOk d x.2.1 x.2.2 ∧ items.drop x.1 = (upL d x.2.1 x.2.2).map intI ∧ x.1 ≤ items.length, fun x => x.2.1, (0, n0.toNat + 1, n0), [0, 1, 2], ⟨hp0, hI.symm, Nat.zero_le _⟩, Nat.le_refl _, ?_, ?_⟩
    · simp only [go_sem, h0, h1, h2, Nat.reduceBEq, Nat.reduceLeDiff, Nat.reduceAdd, true_and, and_true]
      decide
    · rintro ⟨k, f, n⟩ ⟨hf, hdrop, hk⟩
      simp only at hf hdrop hk
      refine ⟨L0, _, loopsOk0 _, fun _ _ q => q, ?_⟩
      simp only [go_sem, itY_at hr, true_imp_iff, decide_eq_true_eq, Bool.false_eq_true, false_imp_iff, Nat.reduceBEq, Nat.reduceLeDiff, Nat.reduceAdd, Nat.reduceSub, Nat.reduceMul, true_and, and_true, implies_true]
      have hlen : (upL d f n).length = items.length - k := by rw [← List.length_drop, hdrop, List.length_map]
      refine ⟨fun hn => ?_, fun hn => ?_⟩
      · obtain ⟨f', rfl, e1, e2, e3⟩ := upL_step hf hn
        have hget : items[k]? = some (intI n) := by
          have : (items.drop k)[0]? = items[k]? := by rw [List.getElem?_drop]; rfl
          rw [← this, hdrop, e3]; rfl
        rw [e3] at hdrop hlen
        have hk1 : k + 1 ≤ items.length := by simp at hlen; omega
        have hd' : items.drop (k + 1) = (upL d f' (d.reaches.getD n.toNat (dflt .reach)).up).map intI := by rw [← List.drop_drop, hdrop]; rfl
        refine ⟨hget, ⟨⟨hn, e1⟩, (k + 1, f', (d.reaches.getD n.toNat (dflt .reach)).up), [0, 1, 2], ⟨e2, hd', hk1⟩, Nat.lt_succ_self _, ?_⟩, ⟨(0, true), [0, 1, 2], .inl rfl, rfl, ?_⟩, fun h => nomatch h⟩
        all_goals simp only [go_sem, Nat.reduceBEq, Nat.reduceLeDiff, Nat.reduceAdd, true_and, and_true]
        all_goals (first | done | decide | (repeat' (first | refine And.intro ?_ ?_ | rfl | decide)))
      · have hn' : ¬ 0 ≤ n := by simpa using hn
        rw [upL_end hn'] at hlen
        simp at hlen
        refine ⟨(k + 1, false), [0, 1, 2], .inr (by show k + 1 = _; omega), rfl, ?_⟩
        simp only [go_sem, Nat.reduceBEq, Nat.reduceLeDiff, Nat.reduceAdd, true_and, and_true]
        decide
  · unfold bodyOf Tryz.f97
    simp only [go_sem, true_imp_iff, decide_eq_true_eq, Nat.reduceBEq, Nat.reduceLeDiff, Nat.reduceAdd, Nat.reduceSub, Nat.reduceMul, true_and, and_true, implies_true]
    rintro ⟨j, b⟩ hj
    cases b
    · simp only [go_sem]
      exact ⟨j, _, _, [0, 1, 2], hj, rfl, Nat.le_refl 3, by simp only [go_sem, Nat.reduceBEq, Nat.reduceLeDiff, Nat.reduceAdd, true_and, and_true]; decide⟩
    · simp only [go_sem]
      exact ⟨j, _, _, [0, 1, 2], hj, rfl, Nat.le_refl 3, by simp only [go_sem, Nat.reduceBEq, Nat.reduceLeDiff, Nat.reduceAdd, true_and, and_true]; decide⟩
end Go.Sx
end
section
namespace Go.Sx
open Go.Proofs
set_option maxRecDepth 100000
set_option linter.unusedSimpArgs false
def hUp (K : Int → District → Option HCon) : List Ob → Option HCon
  | [.cells [.v (.int .i64 n)], .cells c] => pDo (fun d _ => K n d) [] (elemO .district c)
  | _ => none
@[go_sem] theorem hUp_mk {K : Int → District → Option HCon} {n : Int} {c : List SV} : hUp K [.cells [.v (.int .i64 n)], .cells c] = pDo (fun d _ => K n d) [] (elemO .district c) := (rfl)
theorem hUp_inv {K : Int → District → Option HCon} {h : List Ob} {c : HCon} (hh : hUp K h = some c) : ∃ n d, h = [.cells [.v (.int .i64 n)], .cells (cellsOf .district d)] ∧ K n d = some c := by
  unfold hUp at hh
  split at hh
  · rename_i n cs
    obtain ⟨x, r, e1, e2⟩ := pX_inv (t := .district) (kd := fun d _ => K n d) (l := [.ep cs 0]) hh
    simp at e1
    obtain ⟨rfl, rfl⟩ := e1
    exact ⟨n, x, rfl, e2⟩
  · cases hh
abbrev fnUp : SV := .fn 97 [] [.ptr 0 0, .ptr 1 0]
noncomputable def C_slices_AppendSeq : List SV → List Ob → Option HCon := fun l h => hUp (fun n d => pQ (.v (.slice none 0 0)) (pQ fnUp (pE (retC (0 ≤ n ∧ canals_up_p d n ∧ (canals_up d n).length * 8 ≤ maxB) (.os 2) [.dead, .dead, .row .int (canals_up d n)]))) l) h
noncomputable def C_slices_Collect : List SV → List Ob → Option HCon := fun l h => hUp (fun n d => pQ fnUp (pE (retC (0 ≤ n ∧ canals_up_p d n ∧ (canals_up d n).length * 8 ≤ maxB) (.os 2) [.dead, .dead, .row .int (canals_up d n)])) l) h
def aseqH : List Int → List Ob
  | [] => [.dead, .dead, .cells [.v (.slice none 0 0)]]
  | x :: l => [.dead, .dead, .cells [.os 3], .row .int (x :: l)]
def aseqS (x : Int) (l : List Int) : Empty ⊕ List Int := .inr (l ++ [x])
theorem runL_aseq : ∀ (l m : List Int), runL aseqS l m = .inr (m ++ l)
  | [], m => by simp [runL]
  | x :: l, m => by simp only [runL, aseqS]; rw [runL_aseq l]; simp
theorem okL_aseq {B : Nat} : ∀ (l m : List Int), m.length + l.length ≤ B → okL aseqS (fun _ s => s.length + 1 ≤ B) l m
  | [], _, _ => trivial
  | x :: l, m, h => ⟨by simp at h; omega, fun s' hs => by
    simp only [aseqS, Sum.inr.injEq] at hs
    subst hs
    exact okL_aseq l _ (by simp at h ⊢; omega)⟩
theorem upL_ne {d : District} {n : Int} (hn : 0 ≤ n) : ∃ x l, canals_up d n = x :: l := ⟨_, _, by unfold canals_up; rw [upL, if_pos hn]⟩
theorem ok_slices_AppendSeq : FnOkO Tryz.prog 96 C_slices_AppendSeq := by
  have hG : ConsOk Tryz.prog (mkG [] []) := mkG_ok cg0 cg0
  refine fn_ok_oE mixed ts_ok hG (fn := Tryz.f96) (c := bodyOf Tryz.f96) (by kernel_rfl) (by kernel_rfl) (by kernel_rfl) (by kernel_rfl) fun l o con h hp => ?_
  unfold C_slices_AppendSeq at h
  obtain ⟨n, d, rfl, h0⟩ := hUp_inv h
  obtain ⟨l0, rfl, h1⟩ := pQ_inv h0
  obtain ⟨l1, rfl, h2⟩ := pQ_inv h1
  obtain ⟨rfl, rfl⟩ := pE_inv h2
  obtain ⟨hn, hup, hB⟩ := hp
  refine ⟨Nat.le_of_ble_eq_true rfl, fun id st => bif Nat.beq id 0 then some (LC (ρ := Empty) (σ := List Int) (lk 2 st.t = .ptr 2 0 ∧ lk 6 st.t = fnUp ∧ st.h = [.cells [.v (.int .i64 n)], .cells (cellsOf .district d), .cells [.v (.slice none 0 0)]]) (runL aseqS (canals_up d n) []) (·.elim) (·.elim) (fun s => ⟨[(2, .ptr 2 0)], aseqH s⟩)) else none, ?_, ?_⟩
  · unfold bodyOf Tryz.f96
    simp only [loopsOk, true_and, and_true]
    refine rangeL_ok mixed ts_ok hG (by decide) (by decide) (by kernel_rfl) (by kernel_rfl) fun st lc hC hp => ?_
    simp only [go_sem, Nat.reduceBEq, Option.some.injEq] at hC
    subst hC
    obtain ⟨t, h⟩ := st
    dsimp only [LC] at hp
    obtain ⟨e2, e6, rfl⟩ := hp
    refine ⟨97, [.ptr 0 0, .ptr 1 0], Int, _, _, canals_up d n, intI, aseqS, fun _ s => s.length + 1 ≤ (canals_up d n).length, _, [], _, _, _, [(2, .ptr 2 0)], aseqH, (·.elim), [0, 1, 2], ?_, rfl, okL_aseq _ _ (by simp), Nat.le_of_ble_eq_true rfl, ?_, ?_, fun x s hq => ⟨rfl, L0, fun l => loopsOk0 _, fun l => loopsOk0 _, ?_⟩, fun s => ?_, fun y => y.elim⟩
    · simp only [go_sem, e6]
    · simp only [go_sem, killL, capIds, List.flatMap_cons, List.flatMap_nil, List.nil_append, List.append_nil, List.map_nil, aseqH, e2, Nat.reduceBEq, Nat.reduceLeDiff, Nat.reduceAdd]
      all_goals (first | done | decide | (repeat' (first | refine And.intro ?_ ?_ | rfl | decide)))
    · exact up_it d n hup
    · have hb : (s ++ [x]).length * 8 ≤ maxB := by simp; omega
      cases s with
      | nil =>
        simp only [go_sem, psT, intI, aseqH, aseqS, List.cons_append, List.nil_append, Nat.reduceBEq, Nat.reduceLeDiff, Nat.reduceAdd, Nat.reduceSub, Nat.reduceMul]
        exact ⟨by simpa using hb, fun _ => fk [0, 1, 2, 4]⟩
      | cons a m =>
        simp only [go_sem, psT, intI, aseqH, aseqS, List.cons_append, List.nil_append, Nat.reduceBEq, Nat.reduceLeDiff, Nat.reduceAdd, Nat.reduceSub, Nat.reduceMul]
        exact ⟨by simpa using hb, fun _ => fk [0, 1, 2, 5]⟩
    · cases s with
      | nil => simp only [aseqH]; exact fk [0, 1, 2]
      | cons a m => simp only [aseqH]; exact fk [0, 1, 2, 3]
  · unfold bodyOf Tryz.f96
    obtain ⟨x, l, hx⟩ := upL_ne (d := d) hn
    simp only [go_sem, Nat.reduceBEq, Nat.reduceLeDiff, Nat.reduceAdd, Nat.reduceSub, Nat.reduceMul, runL_aseq, hx, aseqH, List.nil_append]
    refine ⟨fun y => y.elim, fun s hs => ?_⟩
    cases hs
    simp only [go_sem, Nat.reduceBEq, Nat.reduceLeDiff, Nat.reduceAdd, Nat.reduceSub, Nat.reduceMul]
    refine ⟨(), _, _, [0, 1, 3], trivial, rfl, ?_⟩
    simp only [go_sem, hx, Nat.reduceBEq, Nat.reduceLeDiff, Nat.reduceAdd, true_and, and_true]
    all_goals (first | done | decide | (repeat' (first | refine And.intro ?_ ?_ | rfl | decide)))
theorem ok_slices_Collect : FnOkO Tryz.prog 78 C_slices_Collect := by
  have hG : ConsOk Tryz.prog (mkG [] [(96, C_slices_AppendSeq)]) := mkG_ok cg0 (cgc ok_slices_AppendSeq cg0)
  refine fn_ok_oE mixed ts_ok hG (fn := Tryz.f78) (c := bodyOf Tryz.f78) (by kernel_rfl) (by kernel_rfl) (by kernel_rfl) (by kernel_rfl) fun l o con h hp => ?_
  unfold C_slices_Collect at h
  obtain ⟨n, d, rfl, h0⟩ := hUp_inv h
  obtain ⟨l1, rfl, h2⟩ := pQ_inv h0
  obtain ⟨rfl, rfl⟩ := pE_inv h2
  refine ⟨Nat.le_of_ble_eq_true rfl, L0, loopsOk0 _, ?_⟩
  unfold bodyOf Tryz.f78
  simp only [go_sem, C_slices_AppendSeq, fnUp, Nat.reduceBEq, Nat.reduceLeDiff, Nat.reduceAdd, Nat.reduceSub, Nat.reduceMul]
  refine ⟨hp, (), _, _, [0, 1, 2], trivial, rfl, ?_⟩
  simp only [go_sem, Nat.reduceBEq, Nat.reduceLeDiff, Nat.reduceAdd, true_and, and_true]
  all_goals (first | done | decide | (repeat' (first | refine And.intro ?_ ?_ | rfl | decide)))
attribute [go_sem] C_slices_AppendSeq C_slices_Collect
end Go.Sx
end
section
namespace Go.Sx
open Go.Proofs
set_option maxRecDepth 100000
set_option linter.unusedSimpArgs false
def pairI (x : Int × Int) : List SV := [.v (.int .i64 x.1), .v (.int .i64 x.2)]
def backL (l : List Int) : Nat → List (Int × Int)
  | 0 => []
  | k + 1 => ((k : Int), l.getD k 0) :: backL l k
def slices_Backward (l : List Int) : List (Int × Int) := backL l l.length
def upwL (H : Nat) : Nat → List (Int × Int)
  | 0 => []
  | r + 1 => ((List.range H).map fun h : Nat => ((r : Int), (h : Int))) ++ upwL H r
def routing_upward (d : District) : List (Int × Int) := upwL d.hours.toNat d.reaches.length
theorem wrapD {j : Nat} (hj : j ≤ maxL) : IntKind.i64.wrap ((j : Int) - 1) = (j : Int) - 1 := by unfold maxL at hj; exact wrapI (by omega) (by omega)
open Classical in
theorem backward_it (l0 : List Int) : ItOk Tryz.prog 51 (fun y => [y, .ptr 1 0]) [.cells [.os 2], .row .int l0] ((slices_Backward l0).map pairI) := by
  unfold slices_Backward
  generalize hI : (backL l0 l0.length).map pairI = items
  refine it_ok (fun r hr hy => ?_) (fun args w => by kernel_rfl)
  have hG : ConsOk Tryz.prog (mkGY [] [] (itY items r)) := mkGY_ok (by simp) (by simp) hy
  refine ⟨fun l h => if l = [.os 0, .ptr 1 0] ∧ h = [.ab (r 1), .cells [.os 2], .row .int l0] then some { α := Nat, pre := True, post := fun j => j = 0 ∨ j = items.length + 1, res := fun j => .ret (.tup []) [.ab (r j), .dead, .dead] } else none,
    ?_, _, if_pos ⟨rfl, rfl⟩, trivial, fun j hj => ⟨_, j, _, rfl, hj⟩⟩
  refine fn_ok_oE mixed ts_ok hG (fn := Tryz.f51) (c := bodyOf Tryz.f51) (by kernel_rfl) (by kernel_rfl) (by kernel_rfl) (by kernel_rfl) fun l o con h hp => ?_
  split at h
  rotate_left
  · cases h
  rename_i hlo
  obtain ⟨rfl, rfl⟩ := hlo
  cases h
  refine ⟨Nat.le_of_ble_eq_true rfl, fun id st => bif Nat.beq id 0 then some { α := Bool, pre := lk 0 st.t = .os 0 ∧ lk 1 st.t = .ptr 1 0 ∧ lk 3 st.t = .v (.int .i64 ((l0.length : Int) - 1)) ∧ st.h = [.ab (r 1), .cells [.os 2], .row .int l0] ∧ l0.length ≤ maxL, post := fun _ => True, ex := fun b => bif b then .normal else .ret, out := fun b => ⟨[], [.ab (r (bif b then items.length + 1 else 0)), .dead, .dead]⟩ : LCon } else none, ?_, ?_⟩
  · unfold bodyOf Tryz.f51
    simp only [loopsOk, true_and, and_true]
    refine loop_okE mixed ts_ok hG (by kernel_rfl) fun st lc hC hp => ?_
    simp only [go_sem, Nat.reduceBEq, Option.some.injEq] at hC
    subst hC
    obtain ⟨t, h⟩ := st
    dsimp only at hp
    obtain ⟨h0, h1, h2, rfl, hm⟩ := hp
    refine ⟨Nat × Nat, fun x => ⟨[(0, .os 0), (1, .ptr 1 0), (3, .v (.int .i64 ((x.2 : Int) - 1)))], [.ab (r (x.1 + 1)), .cells [.os 2], .row .int l0]⟩, fun x => x.2 ≤ l0.length ∧ items.drop x.1 = (backL l0 x.2).map pairI ∧ x.1 ≤ items.length, fun x => x.2, (0, l0.length), [0, 1, 2], ⟨Nat.le_refl _, hI.symm, Nat.zero_le _⟩, Nat.le_refl _, ?_, ?_⟩
    · simp only [go_sem, h0, h1, h2, Nat.reduceBEq, Nat.reduceLeDiff, Nat.reduceAdd, true_and, and_true]
      all_goals (first | done | decide | (repeat' (first | refine And.intro ?_ ?_ | rfl | decide)))
    · rintro ⟨k, j⟩ ⟨hj, hdrop, hk⟩
      simp only at hj hdrop hk
      refine ⟨L0, _, loopsOk0 _, fun _ _ q => q, ?_⟩
      simp only [go_sem, itY_at hr, true_imp_iff, decide_eq_true_eq, Bool.false_eq_true, false_imp_iff, Nat.reduceBEq, Nat.reduceLeDiff, Nat.reduceAdd, Nat.reduceSub, Nat.reduceMul, true_and, and_true, implies_true]
      have hlen : (backL l0 j).length = items.length - k := by rw [← List.length_drop, hdrop, List.length_map]
      cases j with
      | zero =>
        refine ⟨fun hn => absurd hn (by decide), fun hn => ?_⟩
        have : (backL l0 0).length = 0 := rfl
        refine ⟨true, [0, 1, 2], ?_⟩
        have e : items.length + 1 = k + 1 := by omega
        simp only [go_sem, e, Nat.reduceBEq, Nat.reduceLeDiff, Nat.reduceAdd, true_and, and_true]
        all_goals (first | done | decide | (repeat' (first | refine And.intro ?_ ?_ | rfl | decide)))
      | succ j =>
        have ej : ((j + 1 : Nat) : Int) - 1 = (j : Int) := by omega
        have hw : IntKind.i64.wrap ((j : Int) - 1) = (j : Int) - 1 := wrapD (by omega)
        have hget : items[k]? = some (pairI ((j : Int), l0.getD j 0)) := by
          have : (items.drop k)[0]? = items[k]? := by rw [List.getElem?_drop]; rfl
          rw [← this, hdrop]; rfl
        have hk1 : k + 1 ≤ items.length := by simp [backL] at hlen; omega
        have hd' : items.drop (k + 1) = (backL l0 j).map pairI := by rw [← List.drop_drop, hdrop]; rfl
        simp only [ej, Int.toNat_natCast]
        refine ⟨fun _ => ⟨⟨Int.natCast_nonneg _, by omega⟩, hget, ⟨(k + 1, j), [0, 1, 2], ⟨by simp only; omega, hd', hk1⟩, Nat.lt_succ_self _, ?_⟩, ⟨false, [0, 1, 2], rfl, ?_⟩, fun h => nomatch h⟩, fun hn => absurd (Int.natCast_nonneg j) (by simpa using hn)⟩
        all_goals simp only [go_sem, hw, Nat.reduceBEq, Nat.reduceLeDiff, Nat.reduceAdd, true_and, and_true]
        all_goals (first | done | decide | (repeat' (first | refine And.intro ?_ ?_ | rfl | decide)))
  · unfold bodyOf Tryz.f51
    simp only [go_sem, true_imp_iff, decide_eq_true_eq, Nat.reduceBEq, Nat.reduceLeDiff, Nat.reduceAdd, Nat.reduceSub, Nat.reduceMul, true_and, and_true, implies_true]
    intro hm
    rw [wrapD hm]
    refine ⟨⟨rfl, hm⟩, fun b => ?_⟩
    cases b
    · simp only [go_sem]
      exact ⟨0, _, _, [0, 1, 2], .inl rfl, rfl, Nat.le_refl 3, by simp only [go_sem, Nat.reduceBEq, Nat.reduceLeDiff, Nat.reduceAdd, true_and, and_true]; first | done | decide⟩
    · simp only [go_sem]
      exact ⟨items.length + 1, _, _, [0, 1, 2], .inr rfl, rfl, Nat.le_refl 3, by simp only [go_sem, Nat.reduceBEq, Nat.reduceLeDiff, Nat.reduceAdd, true_and, and_true]; first | done | decide⟩
theorem nrmR_fn' {p : Pk} {f : FuncId} {a b : List SV} : nrmR [p] (.fn f a b) = nrmP p (.fn f a b) := (rfl)
theorem nrmP_fn' {f : FuncId} {a b : List SV} : nrmP .o (.fn f a b) = .fn f a b := (rfl)
@[go_sem] noncomputable def C_slices_Backward : List SV → List Ob → Option HCon := fun l h => rowC .int (fun l_ => pQ (.os 0) (pE (retC True (.fn 51 [] [.ptr 1 0]) [.row .int l_, .cells [.os 0]])) l) h
theorem ok_slices_Backward : FnOkO Tryz.prog 32 C_slices_Backward := by
  have hG : ConsOk Tryz.prog (mkG [] []) := mkG_ok cg0 cg0
  refine fn_ok_oE mixed ts_ok hG (fn := Tryz.f32) (c := bodyOf Tryz.f32) (by kernel_rfl) (by kernel_rfl) (by kernel_rfl) (by kernel_rfl) fun l o con h hp => ?_
  unfold C_slices_Backward at h
  obtain ⟨l_, rfl, h⟩ := rowC_inv h
  obtain ⟨r0, rfl, h0⟩ := pQ_inv h
  obtain ⟨rfl, rfl⟩ := pE_inv h0
  refine ⟨Nat.le_of_ble_eq_true rfl, L0, loopsOk0 _, ?_⟩
  unfold bodyOf Tryz.f32
  simp only [go_sem, Nat.reduceBEq, Nat.reduceLeDiff, Nat.reduceAdd, Nat.reduceSub, Nat.reduceMul]
  refine ⟨(), _, _, [0, 1], trivial, rfl, ?_⟩
  simp only [go_sem, Nat.reduceBEq, Nat.reduceLeDiff, Nat.reduceAdd, true_and, and_true]
  all_goals (first | done | decide | (repeat' (first | refine And.intro ?_ ?_ | rfl | decide)))
@[go_sem] def C_routing_upward : List SV → Option Con := pD .district fun d => pE (.det True (.fn 35 [] [.ep (cellsOf .district d) 0]))
theorem ok_routing_upward : FnOk Tryz.prog 20 C_routing_upward := by
  have hG : ConsOk Tryz.prog (mkG [] []) := mkG_ok cg0 cg0
  refine fn_okN [.o] mixed ts_ok hG (fn := Tryz.f20) (c := bodyOf Tryz.f20) (by kernel_rfl) (by kernel_rfl) (by kernel_rfl) (by kernel_rfl) (pD_all fun l => pE_all fun hp => ?_)
  refine ⟨Nat.le_of_ble_eq_true rfl, L0, loopsOk0 _, ?_⟩
  unfold bodyOf Tryz.f20
  simp only [go_sem, nrmR_fn', nrmP_fn', Nat.reduceBEq, Nat.reduceLeDiff, Nat.reduceAdd, Nat.reduceSub, Nat.reduceMul]
theorem drop_hd {α : Type} {l m : List α} {x : α} {k : Nat} (h : l.drop k = x :: m) : l[k]? = some x ∧ k + 1 ≤ l.length ∧ l.drop (k + 1) = m := by
  have h0 : (l.drop k)[0]? = l[k]? := by rw [List.getElem?_drop]; rfl
  rw [h] at h0
  refine ⟨h0.symm, ?_, by rw [← List.drop_drop, h]; rfl⟩
  have := (List.getElem?_eq_some_iff.1 h0.symm).1
  omega
def rowH (r H h : Nat) : List (Int × Int) := ((List.range' h (H - h)).map fun h : Nat => ((r : Int), (h : Int)))
theorem rowH_step {r H h : Nat} (hh : h < H) : rowH r H h = ((r : Int), (h : Int)) :: rowH r H (h + 1) := by
  unfold rowH
  rw [show H - h = (H - (h + 1)) + 1 by omega, List.range'_succ]
  rfl
theorem rowH_end {r H : Nat} : rowH r H H = [] := by simp [rowH]
theorem upwL_row {H r : Nat} : upwL H (r + 1) = rowH r H 0 ++ upwL H r := by
  unfold rowH
  rw [upwL, List.range_eq_range']
  rfl
open Classical in
theorem upward_it (d : District) (hH : d.hours < 9223372036854775808) : ItOk Tryz.prog 35 (fun y => [y, .ep (cellsOf .district d) 0]) [] ((routing_upward d).map pairI) := by
  unfold routing_upward
  generalize hI : (upwL d.hours.toNat d.reaches.length).map pairI = items
  refine it_ok (fun r hr hy => ?_) (fun args w => by kernel_rfl)
  have hG : ConsOk Tryz.prog (mkGY [] [] (itY items r)) := mkGY_ok (by simp) (by simp) hy
  refine ⟨fun l h => if l = [.os 0, .ep (cellsOf .district d) 0] ∧ h = [.ab (r 1)] then some { α := Nat, pre := True, post := fun j => j = 0 ∨ j = items.length + 1, res := fun j => .ret (.tup []) [.ab (r j)] } else none,
    ?_, _, if_pos ⟨rfl, rfl⟩, trivial, fun j hj => ⟨_, j, _, rfl, hj⟩⟩
  refine fn_ok_oE mixed ts_ok hG (fn := Tryz.f35) (c := bodyOf Tryz.f35) (by kernel_rfl) (by kernel_rfl) (by kernel_rfl) (by kernel_rfl) fun l o con h hp => ?_
  split at h
  rotate_left
  · cases h
  rename_i hlo
  obtain ⟨rfl, rfl⟩ := hlo
  cases h
  refine ⟨Nat.le_of_ble_eq_true rfl, fun id st => bif Nat.beq id 0 then some { α := Bool, pre := lk 0 st.t = .os 0 ∧ lk 1 st.t = .ep (cellsOf .district d) 0 ∧ lk 3 st.t = .v (.int .i64 ((d.reaches.length : Int) - 1)) ∧ st.h = [.ab (r 1)] ∧ d.reaches.length ≤ maxL, post := fun _ => True, ex := fun b => bif b then .normal else .ret, out := fun b => ⟨[], [.ab (r (bif b then items.length + 1 else 0))]⟩ : LCon } else none, ?_, ?_⟩
  · unfold bodyOf Tryz.f35
    simp only [loopsOk, true_and, and_true]
    refine loop_okE mixed ts_ok hG (by kernel_rfl) fun st lc hC hp => ?_
    simp only [go_sem, Nat.reduceBEq, Option.some.injEq] at hC
    subst hC
    obtain ⟨t, h⟩ := st
    dsimp only at hp
    obtain ⟨h0, h1, h2, rfl, hm⟩ := hp
    refine ⟨Nat × Nat, fun x => ⟨[(0, .os 0), (1, .ep (cellsOf .district d) 0), (3, .v (.int .i64 ((x.2 : Int) - 1)))], [.ab (r (x.1 + 1))]⟩, fun x => x.2 ≤ d.reaches.length ∧ items.drop x.1 = (upwL d.hours.toNat x.2).map pairI ∧ x.1 ≤ items.length, fun x => x.2, (0, d.reaches.length), [0], ⟨Nat.le_refl _, hI.symm, Nat.zero_le _⟩, Nat.le_refl _, ?_, ?_⟩
    · simp only [go_sem, h0, h1, h2, Nat.reduceBEq, Nat.reduceLeDiff, Nat.reduceAdd, true_and, and_true]
      all_goals (first | done | decide | (repeat' (first | refine And.intro ?_ ?_ | rfl | decide)))
    · rintro ⟨k, j⟩ ⟨hj, hdrop, hk⟩
      simp only at hj hdrop hk
      cases j with
      | zero =>
        refine ⟨L0, _, loopsOk0 _, fun _ _ q => q, ?_⟩
        simp only [go_sem, itY_at hr, true_imp_iff, decide_eq_true_eq, Bool.false_eq_true, false_imp_iff, Nat.reduceBEq, Nat.reduceLeDiff, Nat.reduceAdd, Nat.reduceSub, Nat.reduceMul, true_and, and_true, implies_true]
        refine ⟨fun hn => absurd hn (by decide), fun hn => ?_⟩
        have hlen : (upwL d.hours.toNat 0).length = items.length - k := by rw [← List.length_drop, hdrop, List.length_map]
        have : (upwL d.hours.toNat 0).length = 0 := rfl
        refine ⟨true, [0], ?_⟩
        have e : items.length + 1 = k + 1 := by omega
        simp only [go_sem, e, Nat.reduceBEq, Nat.reduceLeDiff, Nat.reduceAdd, true_and, and_true]
        all_goals (first | done | decide | (repeat' (first | refine And.intro ?_ ?_ | rfl | decide)))
      | succ j =>
        have ej : ((j + 1 : Nat) : Int) - 1 = (j : Int) := by omega
        have hw : IntKind.i64.wrap ((j : Int) - 1) = (j : Int) - 1 := wrapD (by omega)
        simp only [ej]
        refine ⟨fun id st => bif Nat.beq id 2 then some { α := Nat × Bool, pre := lk 0 st.t = .os 0 ∧ lk 1 st.t = .ep (cellsOf .district d) 0 ∧ lk 3 st.t = .v (.int .i64 (j : Int)) ∧ lk 14 st.t = .v (.int .i64 d.hours) ∧ lk 15 st.t = .v (.int .i64 0) ∧ st.h = [.ab (r (k + 1))], post := fun x => x.2 = true → items.drop x.1 = (upwL d.hours.toNat j).map pairI ∧ x.1 ≤ items.length, ex := fun b => bif b.2 then .normal else .ret, out := fun b => ⟨[(0, .os 0), (1, .ep (cellsOf .district d) 0), (3, .v (.int .i64 (j : Int)))], [.ab (r (bif b.2 then b.1 + 1 else 0))]⟩ : LCon } else none, _, ?_, fun _ _ q => q, ?_⟩
        · simp only [loopsOk, true_and, and_true]
          refine loop_okE mixed ts_ok hG (by kernel_rfl) fun st lc hC hp => ?_
          simp only [go_sem, Nat.reduceBEq, Option.some.injEq] at hC
          subst hC
          obtain ⟨t, h⟩ := st
          dsimp only at hp
          obtain ⟨i0, i1, i3, i14, i15, rfl⟩ := hp
          refine ⟨Nat × Nat, fun x => ⟨[(0, .os 0), (1, .ep (cellsOf .district d) 0), (3, .v (.int .i64 (j : Int))), (14, .v (.int .i64 d.hours)), (15, .v (.int .i64 (x.2 : Int)))], [.ab (r (x.1 + 1))]⟩, fun x => x.2 ≤ d.hours.toNat ∧ items.drop x.1 = (rowH j d.hours.toNat x.2 ++ upwL d.hours.toNat j).map pairI ∧ x.1 ≤ items.length, fun x => d.hours.toNat - x.2, (k, 0), [0], ⟨Nat.zero_le _, by rw [hdrop, upwL_row], hk⟩, Nat.le_refl _, ?_, ?_⟩
          · simp only [go_sem, i0, i1, i3, i14, i15, Nat.reduceBEq, Nat.reduceLeDiff, Nat.reduceAdd, true_and, and_true]
            all_goals (first | done | decide | (repeat' (first | refine And.intro ?_ ?_ | rfl | decide)))
          · rintro ⟨k, g⟩ ⟨hg, hdr, hk⟩
            simp only at hg hdr hk
            refine ⟨L0, _, loopsOk0 _, fun _ _ q => q, ?_⟩
            simp only [go_sem, itY_at hr, true_imp_iff, decide_eq_true_eq, Bool.false_eq_true, false_imp_iff, Nat.reduceBEq, Nat.reduceLeDiff, Nat.reduceAdd, Nat.reduceSub, Nat.reduceMul, true_and, and_true, implies_true]
            refine ⟨fun hlt => ?_, fun hge => ?_⟩
            · have hlt' : g < d.hours.toNat := by omega
              rw [rowH_step hlt', List.cons_append, List.map_cons] at hdr
              obtain ⟨q1, q2, q3⟩ := drop_hd hdr
              have hw2 : IntKind.i64.wrap ((g : Int) + 1) = ((g + 1 : Nat) : Int) := wrapT hlt' hH
              refine ⟨q1, ⟨(k + 1, g + 1), [0], ⟨hlt', q3, q2⟩, by simp only; omega, ?_⟩, ⟨(0, false), [0], (fun h => nomatch h), rfl, ?_⟩, (fun h => nomatch h)⟩
              all_goals simp only [go_sem, hw2, Nat.reduceBEq, Nat.reduceLeDiff, Nat.reduceAdd, true_and, and_true]
              all_goals (first | done | decide | (repeat' (first | refine And.intro ?_ ?_ | rfl | decide)))
            · have hge' : g = d.hours.toNat := by
                have : ¬ (g : Int) < d.hours := by simpa using hge
                omega
              subst hge'
              rw [rowH_end, List.nil_append] at hdr
              refine ⟨(k, true), [0], fun _ => ⟨hdr, hk⟩, rfl, ?_⟩
              all_goals simp only [go_sem, Nat.reduceBEq, Nat.reduceLeDiff, Nat.reduceAdd, true_and, and_true]
              all_goals (first | done | decide | (repeat' (first | refine And.intro ?_ ?_ | rfl | decide)))
        · simp only [go_sem, true_imp_iff, decide_eq_true_eq, Bool.false_eq_true, false_imp_iff, Nat.reduceBEq, Nat.reduceLeDiff, Nat.reduceAdd, Nat.reduceSub, Nat.reduceMul, true_and, and_true, implies_true]
          refine ⟨fun _ b hb => ?_, fun hn => absurd (Int.natCast_nonneg j) (by simpa using hn)⟩
          obtain ⟨k', b⟩ := b
          cases b with
          | true =>
            obtain ⟨q1, q2⟩ := hb rfl
            simp only [go_sem, hw, Nat.reduceBEq, Nat.reduceLeDiff, Nat.reduceAdd, true_and, and_true]
            refine ⟨(k', j), [0], ⟨by simp only; omega, q1, q2⟩, Nat.lt_succ_self _, ?_⟩
            all_goals simp only [go_sem, hw, Nat.reduceBEq, Nat.reduceLeDiff, Nat.reduceAdd, true_and, and_true]
            all_goals (first | done | decide | (repeat' (first | refine And.intro ?_ ?_ | rfl | decide)))
          | false =>
            simp only [go_sem, Nat.reduceBEq, Nat.reduceLeDiff, Nat.reduceAdd, true_and, and_true]
            refine ⟨false, [0], rfl, ?_⟩
            all_goals simp only [go_sem, hw, Nat.reduceBEq, Nat.reduceLeDiff, Nat.reduceAdd, true_and, and_true]
            all_goals (first | done | decide | (repeat' (first | refine And.intro ?_ ?_ | rfl | decide)))
  · unfold bodyOf Tryz.f35
    simp only [go_sem, true_imp_iff, decide_eq_true_eq, Nat.reduceBEq, Nat.reduceLeDiff, Nat.reduceAdd, Nat.reduceSub, Nat.reduceMul, true_and, and_true, implies_true]
    intro hm
    rw [wrapD hm]
    refine ⟨⟨rfl, hm⟩, fun b => ?_⟩
    cases b
    · simp only [go_sem]
      exact ⟨0, _, _, [0], .inl rfl, rfl, Nat.le_refl 1, by simp only [go_sem, Nat.reduceBEq, Nat.reduceLeDiff, Nat.reduceAdd, true_and, and_true]; first | done | decide⟩
    · simp only [go_sem]
      exact ⟨items.length + 1, _, _, [0], .inr rfl, rfl, Nat.le_refl 1, by simp only [go_sem, Nat.reduceBEq, Nat.reduceLeDiff, Nat.reduceAdd, true_and, and_true]; first | done | decide⟩
end Go.Sx
end
section
namespace Go.Sx
open Go.Proofs
set_option maxRecDepth 100000
set_option linter.unusedSimpArgs false
theorem crSxR4_1 {p : Prop} (h : p := by (first | done | (repeat' (first | with_reducible refine And.intro ?_ ?_ | ((with_reducible show _ ≠ _); first | assumption | omega | (simp_all [outR, outL]; done) | grind) | with_reducible intro _)) <;> (first | done | exact Empty.elim ‹Empty› | assumption | rfl | omega | decide | exact fk [0, 1] | exact czl | (simp only [*, cond_true, cond_false, Bool.not_true, Bool.not_false, go_sem, Nat.reduceBEq, Nat.reduceLeDiff, Nat.reduceLT, decide_true, Nat.reduceAdd, Nat.reduceSub, Nat.reduceMul, Int.reduceLE, Int.reduceLT, Int.reduceToNat, Int.reduceNeg, reduceCtorEq]; (repeat' (first | with_reducible refine And.intro ?_ ?_ | ((with_reducible show _ ≠ _); first | assumption | omega | (simp_all [outR, outL]; done) | grind) | with_reducible intro _)) <;> (first | done | assumption | rfl | omega | decide | exact fk [0, 1] | (simp_all [outR, outL]; done))) | (simp_all [okI, outR, outL]; done) | (simp_all [outR, outL]; (first | done | exact fk2 [0, 1])) | exact fk2 [0, 1]))) : p := h
theorem crSxR4_2 {p : Prop} (h : p := by (first | done | (repeat' (first | with_reducible refine And.intro ?_ ?_ | ((with_reducible show _ ≠ _); first | assumption | omega | (simp_all [outR, outL]; done) | grind) | with_reducible intro _)) <;> (first | done | exact Empty.elim ‹Empty› | assumption | rfl | omega | decide | exact fk [0, 1, 2, 3, 4, 5, 6] | exact czl | (simp only [*, cond_true, cond_false, Bool.not_true, Bool.not_false, go_sem, Nat.reduceBEq, Nat.reduceLeDiff, Nat.reduceLT, decide_true, Nat.reduceAdd, Nat.reduceSub, Nat.reduceMul, Int.reduceLE, Int.reduceLT, Int.reduceToNat, Int.reduceNeg, reduceCtorEq]; (repeat' (first | with_reducible refine And.intro ?_ ?_ | ((with_reducible show _ ≠ _); first | assumption | omega | (simp_all [outR, outL]; done) | grind) | with_reducible intro _)) <;> (first | done | assumption | rfl | omega | decide | exact fk [0, 1, 2, 3, 4, 5, 6] | (simp_all [outR, outL]; done))) | (simp_all [okI, outR, outL]; done) | (simp_all [outR, outL]; (first | done | exact fk2 [0, 1, 2, 3, 4, 5, 6])) | exact fk2 [0, 1, 2, 3, 4, 5, 6]))) : p := h
theorem exSxR4_1 {p : Prop} (h : p := by simp only [go_sem, Nat.reduceBEq, Nat.reduceLeDiff, Nat.reduceLT, decide_true, Nat.reduceAdd, Nat.reduceSub, Nat.reduceMul, Int.reduceLE, Int.reduceLT, Int.reduceToNat, Int.reduceNeg, reduceCtorEq, hc, hw]; all_goals exact crSxR4_1) : p := h
theorem ezSxR4_1 {p : Prop} (h : p := by simp only [go_sem, Nat.reduceBEq, Nat.reduceLeDiff, Nat.reduceLT, decide_true, Nat.reduceAdd, Nat.reduceSub, Nat.reduceMul, Int.reduceLE, Int.reduceLT, Int.reduceToNat, Int.reduceNeg, reduceCtorEq, hc]; all_goals exact crSxR4_1) : p := h
theorem exSxR4_3 {p : Prop} (h : p := by simp only [go_sem, Nat.reduceBEq, Nat.reduceLeDiff, Nat.reduceLT, decide_true, Nat.reduceAdd, Nat.reduceSub, Nat.reduceMul, Int.reduceLE, Int.reduceLT, Int.reduceToNat, Int.reduceNeg, reduceCtorEq, hc, hw]; all_goals exact crSxR2_0) : p := h
theorem ezSxR4_3 {p : Prop} (h : p := by simp only [go_sem, Nat.reduceBEq, Nat.reduceLeDiff, Nat.reduceLT, decide_true, Nat.reduceAdd, Nat.reduceSub, Nat.reduceMul, Int.reduceLE, Int.reduceLT, Int.reduceToNat, Int.reduceNeg, reduceCtorEq, hc]; all_goals exact crSxR2_0) : p := h
@[go_sem] def routing_Check_l0 (a0 : District) (a1 : List Order) (k_0 : Nat) (s_0 : Unit) : Unit ⊕ Unit := (bif (a1.getD k_0 (default : Order)).outlet then (bif (((((((decide ((a1.getD k_0 (default : Order)).hour < 0)) || (decide ((a1.getD k_0 (default : Order)).hour ≥ a0.hours))) || (decide ((a1.getD k_0 (default : Order)).index < 0))) || (decide ((a1.getD k_0 (default : Order)).index ≥ (a0.farms.length : Int)))) || (decide ((a1.getD k_0 (default : Order)).litres < 1))) || (decide ((a1.getD k_0 (default : Order)).litres > 1073741824))) || ((decide ((k_0 : Int) > 0)) && (decide ((routing_by_1 (a1.getD (Int.toNat (IntKind.i64.wrap ((k_0 : Int) - 1))) (default : Order)) (a1.getD k_0 (default : Order))) ≥ 0)))) then .inl () else .inr ()) else (bif (((((((decide ((a1.getD k_0 (default : Order)).hour < 0)) || (decide ((a1.getD k_0 (default : Order)).hour ≥ a0.hours))) || (decide ((a1.getD k_0 (default : Order)).index < 0))) || (decide ((a1.getD k_0 (default : Order)).index ≥ (a0.reaches.length : Int)))) || (decide ((a1.getD k_0 (default : Order)).litres < 1))) || (decide ((a1.getD k_0 (default : Order)).litres > 1073741824))) || ((decide ((k_0 : Int) > 0)) && (decide ((routing_by_1 (a1.getD (Int.toNat (IntKind.i64.wrap ((k_0 : Int) - 1))) (default : Order)) (a1.getD k_0 (default : Order))) ≥ 0)))) then .inl () else .inr ()))
def routing_Check_l0_p (a0 : District) (a1 : List Order) (k_0 : Nat) (s_0 : Unit) : Prop := (a0.reaches.length ≤ maxL → (((a1.getD k_0 (default : Order)).outlet = true → (a0.farms.length ≤ maxL → (((((((decide ((a1.getD k_0 (default : Order)).hour < 0)) || (decide ((a1.getD k_0 (default : Order)).hour ≥ a0.hours))) || (decide ((a1.getD k_0 (default : Order)).index < 0))) || (decide ((a1.getD k_0 (default : Order)).index ≥ (a0.farms.length : Int)))) || (decide ((a1.getD k_0 (default : Order)).litres < 1))) || (decide ((a1.getD k_0 (default : Order)).litres > 1073741824))) = false → ((decide ((k_0 : Int) > 0)) = true → (0 ≤ (IntKind.i64.wrap ((k_0 : Int) - 1)) ∧ (IntKind.i64.wrap ((k_0 : Int) - 1)) < (a1.length : Int)))))) ∧ ((a1.getD k_0 (default : Order)).outlet = false → (((((((decide ((a1.getD k_0 (default : Order)).hour < 0)) || (decide ((a1.getD k_0 (default : Order)).hour ≥ a0.hours))) || (decide ((a1.getD k_0 (default : Order)).index < 0))) || (decide ((a1.getD k_0 (default : Order)).index ≥ (a0.reaches.length : Int)))) || (decide ((a1.getD k_0 (default : Order)).litres < 1))) || (decide ((a1.getD k_0 (default : Order)).litres > 1073741824))) = false → ((decide ((k_0 : Int) > 0)) = true → (0 ≤ (IntKind.i64.wrap ((k_0 : Int) - 1)) ∧ (IntKind.i64.wrap ((k_0 : Int) - 1)) < (a1.length : Int)))))))
def routing_Check (a0 : District) (a1 : List Order) : Int := (bif ((expand_Check a0) != 0) then (expand_Check a0) else (bif (decide ((a1.length : Int) > 4096)) then 2 else (match runI (routing_Check_l0 a0 a1) a1.length 0 () with | .inl x_0_0 => 220 | .inr s_0 => 0)))
def routing_Check_p (a0 : District) (a1 : List Order) : Prop := (((expand_Check a0) != 0) = false → (a1.length ≤ maxL → ((decide ((a1.length : Int) > 4096)) = false → (a1.length ≤ maxL → okI (routing_Check_l0 a0 a1) (routing_Check_l0_p a0 a1) a1.length 0 ()))))
@[go_sem] def C_routing_Check : List SV → Option Con := (pD .district fun a0 => (pR .order fun a1 => (pE (.det (routing_Check_p a0 a1) (.v (.int .i64 (routing_Check a0 a1)))))))
theorem ok_routing_Check : FnOk Tryz.prog 8 C_routing_Check := by
  have hG : ConsOk Tryz.prog (mkG [(23, C_routing_compare), (27, fun l => C_expand_Check (nrmA [.st .district] l)), (66, C_routing_by_1)] []) := mkG_ok (cgc ok_routing_compare (cgc (ok_expand_Check.norm [.st .district]) (cgc ok_routing_by_1 cg0))) cg0
  refine fn_okN [.o] mixed ts_ok hG (fn := Tryz.f8) (c := bodyOf Tryz.f8) (by kernel_rfl) (by kernel_rfl) (by kernel_rfl) (by kernel_rfl) (pD_all fun a0 => (pR_all fun a1 => (pE_all (fun hp => ?_))))
  dsimp only [conPre] at hp
  unfold routing_Check_p at hp
  refine ⟨Nat.le_of_ble_eq_true rfl, (fun id st => bif Nat.beq id 0 then some (LCR (ρ := Unit) (σ := Unit) 1 [] [0] (fun k_0 s_0 => ⟨[(1, .rs .order a1), (2, .ptr 0 0), (5, .fn 66 [] [.ep [.ls [.fn 40 [] [], .fn 41 [] [], .fn 42 [] []]] 0]), (18, .rs .order a1), (19, .v (.int .i64 (a1.length : Int))), (20, .v (.int .i64 (k_0 : Int)))], [.cells (cellsOf .district a0)]⟩) (routing_Check_l0 a0 a1) (routing_Check_l0_p a0 a1) a1.length () (a1.length ≤ maxL) (fun _ => .ret) (fun x_0_0 => ⟨[(4, .v (.int .i64 220))], [.dead]⟩) st) else none), ?_, ?_⟩
  · unfold bodyOf Tryz.f8
    simp only [loopsOk, true_and, and_true]
    · refine loopR_ok mixed ts_ok hG (by kernel_rfl) (fun _ => rfl) (a1.length : Int) rfl lenB (fun hb0 k_0 s_0 hlt0 hq0 hw hc => ⟨L0, loopsOk0 _, ?_⟩) (fun hb0 s_0 hc => ?_)
      · unfold routing_Check_l0_p at hq0
        try simp only [hw, Int.toNat_natCast] at hq0
        exact exSxR1_0
      · exact ezSxR1_0
  · unfold bodyOf Tryz.f8
    try unfold routing_Check
    simp only [go_sem, Nat.reduceBEq, Nat.reduceLeDiff, Nat.reduceLT, decide_true, Nat.reduceAdd, Nat.reduceSub, Nat.reduceMul, Int.reduceLE, Int.reduceLT, Int.reduceToNat, Int.reduceNeg, reduceCtorEq, C_routing_compare, C_routing_by_1, if_true]
    all_goals exact cl
def routing_narrow (d : District) (l_ : List Order) : Int := (bif (((routing_Check d l_) == 0) && (decide ((IntKind.i64.wrap ((d.reaches.length : Int) * d.hours)) > 1024))) then 2 else (routing_Check d l_))
def routing_narrow_p (d : District) (l_ : List Order) : Prop := (routing_Check_p d l_)
@[go_sem] def C_routing_narrow : List SV → Option Con := (pD .district fun d => (pR .order fun l_ => (pE (.det (routing_narrow_p d l_) (.v (.int .i64 (routing_narrow d l_)))))))
theorem ok_routing_narrow : FnOk Tryz.prog 18 C_routing_narrow := by
  have hG : ConsOk Tryz.prog (mkG [(8, fun l => C_routing_Check (nrmA [.st .district, .sl .order] l))] []) := mkG_ok (cgc (ok_routing_Check.norm [.st .district, .sl .order]) cg0) cg0
  refine fn_okN [.o] mixed ts_ok hG (fn := Tryz.f18) (c := bodyOf Tryz.f18) (by kernel_rfl) (by kernel_rfl) (by kernel_rfl) (by kernel_rfl) (pD_all fun d => (pR_all fun l_ => (pE_all (fun hp => ?_))))
  dsimp only [conPre] at hp
  unfold routing_narrow_p at hp
  refine ⟨Nat.le_of_ble_eq_true rfl, L0, loopsOk0 _, ?_⟩
  · unfold bodyOf Tryz.f18
    try unfold routing_narrow
    simp only [go_sem, Nat.reduceBEq, Nat.reduceLeDiff, Nat.reduceLT, decide_true, Nat.reduceAdd, Nat.reduceSub, Nat.reduceMul, Int.reduceLE, Int.reduceLT, Int.reduceToNat, Int.reduceNeg, reduceCtorEq]
    all_goals exact cl
@[go_sem] def canals_check_l0 (d : District) (l_ : List Int) (k_0 : Nat) (s_0 : Unit) : Unit ⊕ Unit := (bif ((decide ((l_.getD k_0 (0 : Int)) < 0)) || (decide ((l_.getD k_0 (0 : Int)) ≥ (d.reaches.length : Int)))) then .inl () else .inr ())
def canals_check (d : District) (l_ : List Int) : Int := (bif ((expand_Check d) != 0) then (expand_Check d) else (match runI (canals_check_l0 d l_) l_.length 0 () with | .inl x_0_0 => 1 | .inr s_0 => 0))
@[go_sem] def C_canals_check : List SV → Option Con := (pD .district fun d => (pR .int fun l_ => (pE (.det True (.v (.int .i64 (canals_check d l_)))))))
theorem ok_canals_check : FnOk Tryz.prog 77 C_canals_check := by
  have hG : ConsOk Tryz.prog (mkG [(27, fun l => C_expand_Check (nrmA [.st .district] l))] []) := mkG_ok (cgc (ok_expand_Check.norm [.st .district]) cg0) cg0
  refine fn_okN [.o] mixed ts_ok hG (fn := Tryz.f77) (c := bodyOf Tryz.f77) (by kernel_rfl) (by kernel_rfl) (by kernel_rfl) (by kernel_rfl) (pD_all fun d => (pR_all fun l_ => (pE_all (fun hp => ?_))))
  dsimp only [conPre] at hp
  refine ⟨Nat.le_of_ble_eq_true rfl, (fun id st => bif Nat.beq id 0 then some (LCR (ρ := Unit) (σ := Unit) 1 [] [0] (fun k_0 s_0 => ⟨[(2, .ptr 0 0), (13, .rs .int l_), (14, .v (.int .i64 (l_.length : Int))), (15, .v (.int .i64 (k_0 : Int)))], [.cells (cellsOf .district d)]⟩) (canals_check_l0 d l_) pT l_.length () (l_.length ≤ maxL) (fun _ => .ret) (fun x_0_0 => ⟨[(4, .v (.int .i64 1))], [.dead]⟩) st) else none), ?_, ?_⟩
  · unfold bodyOf Tryz.f77
    simp only [loopsOk, true_and, and_true]
    · refine loopR_ok mixed ts_ok hG (by kernel_rfl) (fun _ => rfl) (l_.length : Int) rfl lenB (fun hb0 k_0 s_0 hlt0 _ hw hc => ⟨L0, loopsOk0 _, ?_⟩) (fun hb0 s_0 hc => ?_)
      · exact exSxR1_0
      · exact ezSxR1_0
  · unfold bodyOf Tryz.f77
    try unfold canals_check
    simp only [go_sem, Nat.reduceBEq, Nat.reduceLeDiff, Nat.reduceLT, decide_true, Nat.reduceAdd, Nat.reduceSub, Nat.reduceMul, Int.reduceLE, Int.reduceLT, Int.reduceToNat, Int.reduceNeg, reduceCtorEq]
    all_goals exact cl
def canals_Path (d : District) (reach : Int) : List Int × Int := (bif ((canals_check d ([reach])) != 0) then ([], (canals_check d ([reach]))) else ((slices_Reverse_int_int (canals_up d reach)), 0))
def canals_Path_p (d : District) (reach : Int) : Prop := (((canals_check d ([reach])) != 0) = false → ((0 ≤ reach ∧ canals_up_p d reach ∧ (canals_up d reach).length * 8 ≤ maxB) ∧ (slices_Reverse_int_int_p (canals_up d reach))))
@[go_sem] def C_canals_Path : List SV → Option Con := (pD .district fun d => (pI fun reach => (pE (.det (canals_Path_p d reach) (.tup [.nw .int ((canals_Path d reach).1), .v (.int .i64 ((canals_Path d reach).2))])))))
theorem ok_canals_Path : FnOk Tryz.prog 50 C_canals_Path := by
  have hG : ConsOk Tryz.prog (mkG [(77, fun l => C_canals_check (nrmA [.st .district, .sl .int] l))] [(78, C_slices_Collect), (79, C_canals_up), (80, C_slices_Reverse_int_int)]) := mkG_ok (cgc (ok_canals_check.norm [.st .district, .sl .int]) cg0) (cgc ok_slices_Collect (cgc ok_canals_up (cgc ok_slices_Reverse_int_int cg0)))
  refine fn_okW [(.tmp 4, .int)] mixed ts_ok hG (fn := Tryz.f50) (c := bodyOf Tryz.f50) (by kernel_rfl) (by kernel_rfl) (by kernel_rfl) (by kernel_rfl) (pD_all fun d => (pI_all fun reach => (pE_all (fun hp => ?_))))
  dsimp only [conPre] at hp
  unfold canals_Path_p at hp
  refine ⟨Nat.le_of_ble_eq_true rfl, L0, loopsOk0 _, ?_⟩
  · unfold bodyOf Tryz.f50
    try unfold canals_Path
    simp only [go_sem, Nat.reduceBEq, Nat.reduceLeDiff, Nat.reduceLT, decide_true, Nat.reduceAdd, Nat.reduceSub, Nat.reduceMul, Int.reduceLE, Int.reduceLT, Int.reduceToNat, Int.reduceNeg, reduceCtorEq]
    all_goals exact cl
def routing_path (d : District) (reach : Int) (n : Int) : List Int × Int := (bif ((canals_Path d reach).2 != 0) then ([], (canals_Path d reach).2) else (bif ((decide (n < 0)) || (decide (n > 1073741824))) then ([], 1) else ((canals_Path d reach).1, 0)))
def routing_path_p (d : District) (reach : Int) (n : Int) : Prop := (canals_Path_p d reach)
@[go_sem] def C_routing_path : List SV → Option Con := (pD .district fun d => (pI fun reach => (pI fun n => (pE (.det (routing_path_p d reach n) (.tup [.nw .int ((routing_path d reach n).1), .v (.int .i64 ((routing_path d reach n).2))]))))))
theorem ok_routing_path : FnOk Tryz.prog 31 C_routing_path := by
  have hG : ConsOk Tryz.prog (mkG [(50, fun l => C_canals_Path (nrmA [.st .district, .o] l))] []) := mkG_ok (cgc (ok_canals_Path.norm [.st .district, .o]) cg0) cg0
  refine fn_okW [(.tmp 6, .int)] mixed ts_ok hG (fn := Tryz.f31) (c := bodyOf Tryz.f31) (by kernel_rfl) (by kernel_rfl) (by kernel_rfl) (by kernel_rfl) (pD_all fun d => (pI_all fun reach => (pI_all fun n => (pE_all (fun hp => ?_)))))
  dsimp only [conPre] at hp
  unfold routing_path_p at hp
  refine ⟨Nat.le_of_ble_eq_true rfl, L0, loopsOk0 _, ?_⟩
  · unfold bodyOf Tryz.f31
    try unfold routing_path
    simp only [go_sem, Nat.reduceBEq, Nat.reduceLeDiff, Nat.reduceLT, decide_true, Nat.reduceAdd, Nat.reduceSub, Nat.reduceMul, Int.reduceLE, Int.reduceLT, Int.reduceToNat, Int.reduceNeg, reduceCtorEq]
    all_goals exact cl
@[go_sem] def routing_Worst_l0 (d : District) (reach : Int) (v : Int) (k_0 : Nat) (s_0 : Int) : Empty ⊕ Int := (bif (decide (s_0 ≥ (d.reaches.getD (Int.toNat (((routing_path d reach v).1).getD k_0 (0 : Int))) (default : Reach)).siphon)) then .inr ((losses_Worst (d.reaches.getD (Int.toNat (((routing_path d reach v).1).getD k_0 (0 : Int))) (default : Reach)) s_0).1) else .inr 0)
def routing_Worst_l0_p (d : District) (reach : Int) (v : Int) (k_0 : Nat) (s_0 : Int) : Prop := (0 ≤ (((routing_path d reach v).1).getD k_0 (0 : Int)) ∧ (((routing_path d reach v).1).getD k_0 (0 : Int)) < (d.reaches.length : Int))
def routing_Worst (d : District) (reach : Int) (v : Int) : Int × Int := (bif ((routing_path d reach v).2 != 0) then (0, (routing_path d reach v).2) else (match runI (routing_Worst_l0 d reach v) (((routing_path d reach v).1).length) 0 v with | .inl x => x.elim | .inr s_0 => (s_0, 0)))
def routing_Worst_p (d : District) (reach : Int) (v : Int) : Prop := ((routing_path_p d reach v) ∧ (((routing_path d reach v).2 != 0) = false → (((routing_path d reach v).1).length ≤ maxL → okI (routing_Worst_l0 d reach v) (routing_Worst_l0_p d reach v) (((routing_path d reach v).1).length) 0 v)))
@[go_sem] def C_routing_Worst : List SV → Option Con := (pD .district fun d => (pI fun reach => (pI fun v => (pE (.det (routing_Worst_p d reach v) (.tup [.v (.int .i64 ((routing_Worst d reach v).1)), .v (.int .i64 ((routing_Worst d reach v).2))]))))))
theorem ok_routing_Worst : FnOk Tryz.prog 13 C_routing_Worst := by
  have hG : ConsOk Tryz.prog (mkG [(31, fun l => C_routing_path (nrmA [.st .district, .o, .o] l)), (33, C_losses_Worst)] []) := mkG_ok (cgc (ok_routing_path.norm [.st .district, .o, .o]) (cgc ok_losses_Worst cg0)) cg0
  refine fn_okN [.o, .o] mixed ts_ok hG (fn := Tryz.f13) (c := bodyOf Tryz.f13) (by kernel_rfl) (by kernel_rfl) (by kernel_rfl) (by kernel_rfl) (pD_all fun d => (pI_all fun reach => (pI_all fun v => (pE_all (fun hp => ?_)))))
  dsimp only [conPre] at hp
  unfold routing_Worst_p at hp
  refine ⟨Nat.le_of_ble_eq_true rfl, (fun id st => bif Nat.beq id 0 then some (LCR (ρ := Empty) (σ := Int) 2 [] [0, 1] (fun k_0 s_0 => ⟨[(2, .v (.int .i64 s_0)), (3, .ptr 0 0), (22, .os 1), (23, .v (.int .i64 (((routing_path d reach v).1).length : Int))), (24, .v (.int .i64 (k_0 : Int)))], [.cells (cellsOf .district d), .row .int ((routing_path d reach v).1)]⟩) (routing_Worst_l0 d reach v) (routing_Worst_l0_p d reach v) (((routing_path d reach v).1).length) v (((routing_path d reach v).1).length ≤ maxL) ((·.elim)) ((·.elim)) st) else none), ?_, ?_⟩
  · unfold bodyOf Tryz.f13
    simp only [loopsOk, true_and, and_true]
    · refine loopR_ok mixed ts_ok hG (by kernel_rfl) (fun _ => rfl) (((routing_path d reach v).1).length : Int) rfl lenB (fun hb0 k_0 s_0 hlt0 hq0 hw hc => ⟨L0, loopsOk0 _, ?_⟩) (fun hb0 s_0 hc => ?_)
      · unfold routing_Worst_l0_p at hq0
        try simp only [hw, Int.toNat_natCast] at hq0
        exact exSxR4_1
      · exact ezSxR4_1
  · unfold bodyOf Tryz.f13
    try unfold routing_Worst
    simp only [go_sem, Nat.reduceBEq, Nat.reduceLeDiff, Nat.reduceLT, decide_true, Nat.reduceAdd, Nat.reduceSub, Nat.reduceMul, Int.reduceLE, Int.reduceLT, Int.reduceToNat, Int.reduceNeg, reduceCtorEq]
    all_goals exact cl
@[go_sem] def routing_Need_l0 (d : District) (reach : Int) (w : Int) (z_0 : Int × Int) (s_0 : Int × Bool) : Int ⊕ (Int × Bool) := (bif (!(routing_intake (d.reaches.getD (Int.toNat z_0.2) (default : Reach)) s_0.1).2) then .inl ((routing_intake (d.reaches.getD (Int.toNat z_0.2) (default : Reach)) s_0.1).1) else .inr ((routing_intake (d.reaches.getD (Int.toNat z_0.2) (default : Reach)) s_0.1).1, (routing_intake (d.reaches.getD (Int.toNat z_0.2) (default : Reach)) s_0.1).2))
def routing_Need_l0_p (d : District) (reach : Int) (w : Int) (z_0 : Int × Int) (s_0 : Int × Bool) : Prop := ((0 ≤ z_0.2 ∧ z_0.2 < (d.reaches.length : Int)) ∧ (routing_intake_p (d.reaches.getD (Int.toNat z_0.2) (default : Reach)) s_0.1))
def routing_Need (d : District) (reach : Int) (w : Int) : Int × Bool × Int := (bif ((routing_path d reach w).2 != 0) then (0, false, (routing_path d reach w).2) else (match runL (routing_Need_l0 d reach w) (slices_Backward ((routing_path d reach w).1)) (w, false) with | .inl x_0_0 => (0, false, 0) | .inr s_0 => (s_0.1, true, 0)))
def routing_Need_p (d : District) (reach : Int) (w : Int) : Prop := ((routing_path_p d reach w) ∧ (((routing_path d reach w).2 != 0) = false → okL (routing_Need_l0 d reach w) (routing_Need_l0_p d reach w) (slices_Backward ((routing_path d reach w).1)) (w, false)))
@[go_sem] def C_routing_Need : List SV → Option Con := (pD .district fun d => (pI fun reach => (pI fun w => (pE (.det (routing_Need_p d reach w) (.tup [.v (.int .i64 ((routing_Need d reach w).1)), .v (.bool ((routing_Need d reach w).2.1)), .v (.int .i64 ((routing_Need d reach w).2.2))]))))))
theorem ok_routing_Need : FnOk Tryz.prog 12 C_routing_Need := by
  have hG : ConsOk Tryz.prog (mkG [(21, C_routing_intake), (31, fun l => C_routing_path (nrmA [.st .district, .o, .o] l))] [(32, C_slices_Backward)]) := mkG_ok (cgc ok_routing_intake (cgc (ok_routing_path.norm [.st .district, .o, .o]) cg0)) (cgc ok_slices_Backward cg0)
  refine fn_okN [.o, .o, .o] mixed ts_ok hG (fn := Tryz.f12) (c := bodyOf Tryz.f12) (by kernel_rfl) (by kernel_rfl) (by kernel_rfl) (by kernel_rfl) (pD_all fun d => (pI_all fun reach => (pI_all fun w => (pE_all (fun hp => ?_)))))
  dsimp only [conPre] at hp
  unfold routing_Need_p at hp
  refine ⟨Nat.le_of_ble_eq_true rfl, (fun id st => bif Nat.beq id 0 then some (LC (ρ := Int) (σ := Int × Bool) (lk 3 st.t = .ptr 0 0 ∧ lk 5 st.t = .ptr 1 0 ∧ lk 6 st.t = .ptr 2 0 ∧ lk 7 st.t = .ptr 3 0 ∧ lk 8 st.t = .ptr 4 0 ∧ lk 23 st.t = .fn 51 [] [.ptr 6 0] ∧ st.h = [.cells (cellsOf .district d), .cells [.v (.int .i64 w)], .cells [.v (.int .i64 0)], .cells [.v (.bool false)], .cells [.v (.int .i64 ((routing_path d reach w).2))], .row .int ((routing_path d reach w).1), .cells [.os 5]] ∧ okL (routing_Need_l0 d reach w) (routing_Need_l0_p d reach w) (slices_Backward ((routing_path d reach w).1)) (w, false)) (runL (routing_Need_l0 d reach w) (slices_Backward ((routing_path d reach w).1)) (w, false)) (fun _ => .ret) (fun x_0_0 => ⟨[(3, .ptr 0 0), (5, .ptr 1 0), (6, .ptr 2 0), (7, .ptr 3 0), (8, .ptr 4 0)], [.cells (cellsOf .district d), .cells [.v (.int .i64 x_0_0)], .cells [.v (.int .i64 0)], .cells [.v (.bool false)], .cells [.v (.int .i64 0)], .dead, .dead]⟩) (fun s_0 => ⟨[(3, .ptr 0 0), (5, .ptr 1 0), (6, .ptr 2 0), (7, .ptr 3 0), (8, .ptr 4 0)], [.cells (cellsOf .district d), .cells [.v (.int .i64 s_0.1)], .cells [.v (.int .i64 0)], .cells [.v (.bool s_0.2)], .cells [.v (.int .i64 ((routing_path d reach w).2))], .dead, .dead]⟩)) else none), ?_, ?_⟩
  · unfold bodyOf Tryz.f12
    simp only [loopsOk, true_and, and_true]
    · refine rangeL_ok mixed ts_ok hG (by decide) (by decide) (by kernel_rfl) (by kernel_rfl) fun st lc hC hp => ?_
      simp only [go_sem, Nat.reduceBEq, Option.some.injEq] at hC
      subst hC
      obtain ⟨t, h⟩ := st
      dsimp only [LC] at hp
      obtain ⟨e0_0, e0_1, e0_2, e0_3, e0_4, e0_5, rfl, hok0⟩ := hp
      refine ⟨51, [.ptr 6 0], Int × Int, _, _, (slices_Backward ((routing_path d reach w).1)), pairI, (routing_Need_l0 d reach w), (routing_Need_l0_p d reach w), _, (w, false), _, _, _, [(3, .ptr 0 0), (5, .ptr 1 0), (6, .ptr 2 0), (7, .ptr 3 0), (8, .ptr 4 0)], (fun s_0 => [.cells (cellsOf .district d), .cells [.v (.int .i64 s_0.1)], .cells [.v (.int .i64 0)], .cells [.v (.bool s_0.2)], .cells [.v (.int .i64 ((routing_path d reach w).2))], .dead, .dead]), (fun x_0_0 => [.cells (cellsOf .district d), .cells [.v (.int .i64 x_0_0)], .cells [.v (.int .i64 0)], .cells [.v (.bool false)], .cells [.v (.int .i64 0)], .dead, .dead]), [0, 1, 2, 3, 4, 5, 6], ?_, rfl, hok0, Nat.le_of_ble_eq_true rfl, ?_, backward_it ((routing_path d reach w).1), fun z_0 s_0 hq0 => ⟨rfl, L0, fun l => ?_, fun l => ?_, ?_⟩, fun s_0 => ?_, fun y => ?_⟩
      · simp only [go_sem, e0_0, e0_1, e0_2, e0_3, e0_4, e0_5]
      · simp only [go_sem, Nat.reduceBEq, Nat.reduceLeDiff, Nat.reduceLT, decide_true, Nat.reduceAdd, Nat.reduceSub, Nat.reduceMul, Int.reduceLE, Int.reduceLT, Int.reduceToNat, Int.reduceNeg, reduceCtorEq, killL, capIds, List.flatMap_cons, List.flatMap_nil, List.nil_append, List.append_nil, List.map_nil, e0_0, e0_1, e0_2, e0_3, e0_4, e0_5]
        all_goals (first | done | decide | (repeat' (first | refine And.intro ?_ ?_ | rfl | decide)))
      · simp only [loopsOk, and_self, true_and, and_true]
      · simp only [loopsOk, and_self, true_and, and_true]
      · unfold routing_Need_l0_p at hq0
        simp only [go_sem, Nat.reduceBEq, Nat.reduceLeDiff, Nat.reduceLT, decide_true, Nat.reduceAdd, Nat.reduceSub, Nat.reduceMul, Int.reduceLE, Int.reduceLT, Int.reduceToNat, Int.reduceNeg, reduceCtorEq, routing_Need_l0, psT, pairI, List.cons_append, List.nil_append]
        all_goals exact crSxR4_2
      · simp only [go_sem, Nat.reduceBEq, Nat.reduceLeDiff, Nat.reduceLT, decide_true, Nat.reduceAdd, Nat.reduceSub, Nat.reduceMul, Int.reduceLE, Int.reduceLT, Int.reduceToNat, Int.reduceNeg, reduceCtorEq]
        all_goals exact crSxR4_2
      · simp only [go_sem, Nat.reduceBEq, Nat.reduceLeDiff, Nat.reduceLT, decide_true, Nat.reduceAdd, Nat.reduceSub, Nat.reduceMul, Int.reduceLE, Int.reduceLT, Int.reduceToNat, Int.reduceNeg, reduceCtorEq]
        all_goals exact crSxR4_2
  · unfold bodyOf Tryz.f12
    try unfold routing_Need
    simp only [go_sem, Nat.reduceBEq, Nat.reduceLeDiff, Nat.reduceLT, decide_true, Nat.reduceAdd, Nat.reduceSub, Nat.reduceMul, Int.reduceLE, Int.reduceLT, Int.reduceToNat, Int.reduceNeg, reduceCtorEq]
    all_goals exact cl
@[go_sem] def ref22_Same_l0 (a : List Order) (b : List Order) (k_0 : Nat) (s_0 : Unit) : Unit ⊕ Unit := (bif (!(((a.getD k_0 (default : Order)).hour == (b.getD k_0 (default : Order)).hour) && (((a.getD k_0 (default : Order)).index == (b.getD k_0 (default : Order)).index) && (((a.getD k_0 (default : Order)).litres == (b.getD k_0 (default : Order)).litres) && ((a.getD k_0 (default : Order)).outlet == (b.getD k_0 (default : Order)).outlet))))) then .inl () else .inr ())
def ref22_Same_l0_p (a : List Order) (b : List Order) (k_0 : Nat) (s_0 : Unit) : Prop := (a.length ≤ maxL → (0 ≤ (k_0 : Int) ∧ (k_0 : Int) < (b.length : Int)))
def ref22_Same (a : List Order) (b : List Order) : Bool := (bif ((a.length : Int) != (b.length : Int)) then false else (match runI (ref22_Same_l0 a b) a.length 0 () with | .inl x_0_0 => false | .inr s_0 => true))
def ref22_Same_p (a : List Order) (b : List Order) : Prop := (a.length ≤ maxL → (b.length ≤ maxL → (((a.length : Int) != (b.length : Int)) = false → okI (ref22_Same_l0 a b) (ref22_Same_l0_p a b) a.length 0 ())))
@[go_sem] def C_ref22_Same : List SV → Option Con := (pR .order fun a => (pR .order fun b => (pE (.det (ref22_Same_p a b) (.v (.bool (ref22_Same a b)))))))
theorem ok_ref22_Same : FnOk Tryz.prog 10 C_ref22_Same := by
  have hG : ConsOk Tryz.prog (mkG [] []) := mkG_ok cg0 cg0
  refine fn_okN [.o] mixed ts_ok hG (fn := Tryz.f10) (c := bodyOf Tryz.f10) (by kernel_rfl) (by kernel_rfl) (by kernel_rfl) (by kernel_rfl) (pR_all fun a => (pR_all fun b => (pE_all (fun hp => ?_))))
  dsimp only [conPre] at hp
  unfold ref22_Same_p at hp
  refine ⟨Nat.le_of_ble_eq_true rfl, (fun id st => bif Nat.beq id 0 then some (LCR (ρ := Unit) (σ := Unit) 0 [] [] (fun k_0 s_0 => ⟨[(0, .rs .order a), (1, .rs .order b), (5, .v (.int .i64 (k_0 : Int)))], []⟩) (ref22_Same_l0 a b) (ref22_Same_l0_p a b) a.length () (True) (fun _ => .ret) (fun x_0_0 => ⟨[(4, .v (.bool false))], []⟩) st) else none), ?_, ?_⟩
  · unfold bodyOf Tryz.f10
    simp only [loopsOk, true_and, and_true]
    · refine loopI_ok (a.length ≤ maxL) mixed ts_ok hG (by kernel_rfl) (fun _ => rfl) (a.length : Int) rfl lenB (fun hb0 k_0 s_0 hlt0 hq0 hw hc => ⟨L0, loopsOk0 _, ?_⟩) (fun hb0 s_0 hc => ?_) fun hb0 k_0 s_0 => ?_
      · unfold ref22_Same_l0_p at hq0
        try simp only [hw, Int.toNat_natCast] at hq0
        exact exSxR4_3
      · exact ezSxR4_3
      · simp only [go_sem, Nat.reduceBEq, Nat.reduceLeDiff, Nat.reduceLT, decide_true, Nat.reduceAdd, Nat.reduceSub, Nat.reduceMul, Int.reduceLE, Int.reduceLT, Int.reduceToNat, Int.reduceNeg, reduceCtorEq, hb0]
  · unfold bodyOf Tryz.f10
    try unfold ref22_Same
    simp only [go_sem, Nat.reduceBEq, Nat.reduceLeDiff, Nat.reduceLT, decide_true, Nat.reduceAdd, Nat.reduceSub, Nat.reduceMul, Int.reduceLE, Int.reduceLT, Int.reduceToNat, Int.reduceNeg, reduceCtorEq]
    all_goals exact cl
end Go.Sx
end
section
namespace Go.Sx
open Go.Proofs
def oval (a : Order) : Int := bif a.outlet then 1 else 0
def olt (a b : Order) : Prop := a.hour < b.hour ∨ a.hour = b.hour ∧ (oval a < oval b ∨ oval a = oval b ∧ a.index < b.index)
theorem compare_neg (x y : Int) : cmp_Compare_int x y = if x < y then -1 else if x > y then 1 else 0 := by
  unfold cmp_Compare_int cmp_isNaN_int
  simp [Bool.cond_eq_ite]
theorem order_lt {a b : Order} (h : routing_by_1 a b < 0) : olt a b := by
  unfold routing_by_1 at h
  unfold olt
  have k0 : ∀ x, ordKey 0 x = x.hour := fun _ => rfl
  have k1 : ∀ x, ordKey 1 x = oval x := fun _ => rfl
  have k2 : ∀ x, ordKey 2 x = x.index := fun _ => rfl
  simp only [runI, ordStep, Nat.zero_add, Nat.reduceAdd, k0, k1, k2, compare_neg] at h
  generalize oval a = p at h ⊢
  generalize oval b = q at h ⊢
  rcases Int.lt_trichotomy a.hour b.hour with e | e | e
  · exact .inl e
  · refine .inr ⟨e, ?_⟩
    rcases Int.lt_trichotomy p q with e1 | e1 | e1
    · exact .inl e1
    · refine .inr ⟨e1, ?_⟩
      rcases Int.lt_trichotomy a.index b.index with e2 | e2 | e2
      · exact e2
      · simp [e, e1, e2] at h
      · have h1 : ¬ a.index < b.index := by omega
        simp [e, e1, e2, h1] at h
    · have h1 : ¬ p < q := by omega
      simp [e, e1, h1] at h
  · have h1 : ¬ a.hour < b.hour := by omega
    simp [e, h1] at h
theorem olt_trans {a b c : Order} (h1 : olt a b) (h2 : olt b c) : olt a c := by
  unfold olt at *; omega
theorem by_lt (a b : Order) : routing_by_1 a b < 0 ↔ olt a b := by
  refine ⟨order_lt, fun h => ?_⟩
  unfold routing_by_1
  have k0 : ∀ x, ordKey 0 x = x.hour := fun _ => rfl
  have k1 : ∀ x, ordKey 1 x = oval x := fun _ => rfl
  have k2 : ∀ x, ordKey 2 x = x.index := fun _ => rfl
  simp only [runI, ordStep, Nat.zero_add, Nat.reduceAdd, k0, k1, k2, compare_neg]
  unfold olt at h
  generalize oval a = p at h ⊢
  generalize oval b = q at h ⊢
  rcases h with h | ⟨e, h | ⟨e2, h⟩⟩
  · simp [h]
  · simp [e, h]
  · simp [e, e2, h]
open Go.Shelf Go.Sort in
theorem swo_by : SWO (ltOf routing_by_1) := by
  have e : ∀ x y, ltOf routing_by_1 x y = true ↔ olt x y := fun x y => by unfold ltOf; rw [decide_eq_true_eq, by_lt]
  have e' : ∀ x y, ltOf routing_by_1 x y = false ↔ ¬ olt x y := fun x y => by rw [← e]; simp
  refine ⟨fun x => (e' x x).2 (by unfold olt; omega), fun x y z h1 h2 => (e x z).2 (olt_trans ((e x y).1 h1) ((e y z).1 h2)), fun x y z h1 h2 => (e' x z).2 ?_⟩
  have h1 := (e' x y).1 h1
  have h2 := (e' y z).1 h2
  unfold olt at *
  omega
end Go.Sx
end
section
namespace Go.Sx
open Go.Proofs
theorem runI_unit {n i : Nat} {step : Nat → Unit → Unit ⊕ Unit} {s : Unit} (h : runI step n i s = .inr s) : ∀ j, i ≤ j → j < i + n → step j () = .inr () := by
  induction n generalizing i with
  | zero => intro j h1 h2; omega
  | succ n ih =>
    simp only [runI] at h
    cases hs : step i s with
    | inl r => rw [hs] at h; cases h
    | inr s' =>
      rw [hs] at h
      intro j h1 h2
      by_cases e : j = i
      · subst e; cases s; exact hs
      · exact ih h j (by omega) (by omega)
theorem demand_t {b : Bool} {e : Int} : expand_demand_ok b e = b := by
  cases b <;> rfl
theorem rising3 {a b c : Int} (h : expand_rising [a, b, c] = true) : a ≤ b ∧ b ≤ c := by
  unfold expand_rising at h
  simp only [List.length_cons, List.length_nil, Nat.zero_add, Nat.reduceAdd, Nat.reduceSub] at h
  split at h
  · cases h
  · rename_i s hs
    have h0 := runI_unit hs 0 (by omega) (by omega)
    have h1 := runI_unit hs 1 (by omega) (by omega)
    simp [expand_rising_l0, IntKind.wrap, IntKind.bits, IntKind.signed] at h0 h1
    constructor
    · cases hd : decide (b < a) <;> simp_all <;> omega
    · cases hd : decide (c < b) <;> simp_all <;> omega
theorem rising4 {a b c d : Int} (h : expand_rising [a, b, c, d] = true) : a ≤ b ∧ b ≤ c ∧ c ≤ d := by
  unfold expand_rising at h
  simp only [List.length_cons, List.length_nil, Nat.zero_add, Nat.reduceAdd, Nat.reduceSub] at h
  split at h
  · cases h
  · rename_i s hs
    have h0 := runI_unit hs 0 (by omega) (by omega)
    have h1 := runI_unit hs 1 (by omega) (by omega)
    have h2 := runI_unit hs 2 (by omega) (by omega)
    simp [expand_rising_l0, IntKind.wrap, IntKind.bits, IntKind.signed] at h0 h1 h2
    refine ⟨?_, ?_, ?_⟩
    · cases hd : decide (b < a) <;> simp_all <;> omega
    · cases hd : decide (c < b) <;> simp_all <;> omega
    · cases hd : decide (d < c) <;> simp_all <;> omega
structure Right1 (d : District) : Prop where
  reaches : d.reaches.length ≤ 64
  one : 0 < d.reaches.length
  farms : d.farms.length ≤ 600
  rights : d.rights.length ≤ 256
  hours1 : 1 ≤ d.hours
  hours : d.hours ≤ 4096
  start0 : 0 ≤ d.tank.start
  start : d.tank.start ≤ d.tank.cap
  cap : d.tank.cap ≤ 1099511627776
  reach : ∀ k, k < d.reaches.length → expand_reach (k : Int) (d.reaches.getD k default) = true
  farm : ∀ k, k < d.farms.length → 0 ≤ (d.farms.getD k default).reach ∧ (d.farms.getD k default).reach < (d.reaches.length : Int)
theorem check_right {d : District} (h : (expand_Check d != 0) = false) : Right1 d := by
  have h : expand_Check d = 0 := by simpa using h
  unfold expand_Check at h
  simp only [demand_t] at h
  cases h1 : (decide ((d.reaches.length : Int) ≤ 64) && decide ((d.farms.length : Int) ≤ 600) && decide ((d.crops.length : Int) ≤ 32) && decide ((d.rights.length : Int) ≤ 256) && decide ((d.duties.length : Int) ≤ 256)) with
  | false => rw [h1] at h; simp at h
  | true =>
    rw [h1] at h
    simp only [cond_true] at h
    cases h2 : expand_examine_ok d 191 with
    | false => rw [h2] at h; simp at h
    | true =>
      unfold expand_examine_ok at h2
      simp only [demand_t] at h2
      cases h3 : (expand_rising [1, d.hours, 4096] && expand_rising [0, d.tank.start, d.tank.cap, 1099511627776] && decide ((d.reaches.length : Int) > 0)) with
      | false => rw [h3] at h2; simp at h2
      | true =>
        rw [h3] at h2
        simp only [cond_true] at h2
        simp only [Bool.and_eq_true, decide_eq_true_eq] at h1 h3
        obtain ⟨r1, r2⟩ := rising3 h3.1.1
        obtain ⟨r3, r4, r5⟩ := rising4 h3.1.2
        split at h2
        · cases h2
        rename_i s0 hs0
        split at h2
        · cases h2
        rename_i s1 hs1
        split at h2
        · cases h2
        rename_i s2 hs2
        refine ⟨by omega, by omega, by omega, by omega, r1, r2, r3, r4, r5, fun k hk => ?_, fun k hk => ?_⟩
        · have := runI_unit hs0 k (by omega) (by omega)
          simp only [expand_examine_l0, demand_t] at this
          cases he : expand_reach (k : Int) (d.reaches.getD k default) with
          | false => rw [he] at this; simp at this
          | true => rfl
        · have := runI_unit hs2 k (by omega) (by omega)
          simp only [expand_examine_l2, demand_t] at this
          have hx : expand_index (d.farms.getD k default).reach (d.reaches.length : Int) = true := by
            cases he : expand_index (d.farms.getD k default).reach (d.reaches.length : Int) with
            | false => rw [he] at this; cases hd : decide ((d.farms.getD k default).area > 0) <;> rw [hd] at this <;> simp at this
            | true => rfl
          simpa [expand_index] using hx
structure Order1 (d : District) (x : Order) : Prop where
  hour0 : 0 ≤ x.hour
  hour : x.hour < d.hours
  index0 : 0 ≤ x.index
  farm : x.outlet = true → x.index < (d.farms.length : Int)
  reach : x.outlet = false → x.index < (d.reaches.length : Int)
  litres1 : 1 ≤ x.litres
  litres : x.litres ≤ 1073741824
theorem wrap_pred {k : Nat} (h : k < 9223372036854775807) (h1 : 0 < k) : IntKind.i64.wrap ((k : Int) - 1) = ((k - 1 : Nat) : Int) := by
  rw [wrapI (by omega) (by omega)]; omega
theorem routing_pt (d : District) (l : List Order) : routing_Check_p d l := fun _ h1 _ _ => okI_all _ _ _ fun j s h2 h3 => by
  unfold maxL at h1
  unfold routing_Check_l0_p
  have e : decide ((j : Int) > 0) = true → (0 ≤ IntKind.i64.wrap ((j : Int) - 1) ∧ IntKind.i64.wrap ((j : Int) - 1) < (l.length : Int)) := fun h => by
    simp only [decide_eq_true_eq] at h
    rw [wrap_pred (by omega) (by omega)]; omega
  exact fun _ => ⟨fun _ _ _ => e, fun _ _ => e⟩
structure Orders1 (d : District) (l : List Order) : Prop where
  right : Right1 d
  len : l.length ≤ 4096
  one : ∀ k, k < l.length → Order1 d (l.getD k default)
  asc : ∀ k, k + 1 < l.length → routing_by_1 (l.getD k default) (l.getD (k + 1) default) < 0
theorem routing_orders {d : District} {l : List Order} (h : (routing_Check d l != 0) = false) : Orders1 d l := by
  have h : routing_Check d l = 0 := by simpa using h
  unfold routing_Check at h
  cases h1 : expand_Check d != 0 with
  | true => rw [h1] at h; simp at h h1; exact absurd h h1
  | false =>
    rw [h1] at h
    simp only [cond_false] at h
    cases h2 : decide ((l.length : Int) > 4096) with
    | true => rw [h2] at h; simp at h
    | false =>
      rw [h2] at h
      simp only [cond_false] at h
      have hl : l.length ≤ 4096 := by simp only [decide_eq_false_iff_not] at h2; omega
      split at h
      · cases h
      rename_i s hs
      have key : ∀ k, k < l.length → Order1 d (l.getD k default) ∧ (0 < k → routing_by_1 (l.getD (k - 1) default) (l.getD k default) < 0) := by
        intro k hk
        have := runI_unit hs k (by omega) (by omega)
        have hp : ((k : Int) > 0) → (IntKind.i64.wrap ((k : Int) - 1)).toNat = k - 1 := fun h => by
          rw [wrap_pred (by omega) (by omega)]; omega
        unfold routing_Check_l0 at this
        generalize hx : l.getD k default = x at this ⊢
        cases ho : x.outlet with
        | true =>
          rw [ho] at this
          simp only [cond_true] at this
          rw [Bool.cond_eq_ite] at this
          split at this
          · cases this
          · rename_i hc
            simp only [Bool.not_eq_true, Bool.or_eq_false_iff, Bool.and_eq_false_iff, decide_eq_false_iff_not] at hc
            refine ⟨⟨by omega, by omega, by omega, fun _ => by omega, fun h => by (rw [ho] at h; cases h), by omega, by omega⟩, fun hk0 => ?_⟩
            rcases hc.2 with h | h
            · omega
            · rw [hp (by omega)] at h; omega
        | false =>
          rw [ho] at this
          simp only [cond_false] at this
          rw [Bool.cond_eq_ite] at this
          split at this
          · cases this
          · rename_i hc
            simp only [Bool.not_eq_true, Bool.or_eq_false_iff, Bool.and_eq_false_iff, decide_eq_false_iff_not] at hc
            refine ⟨⟨by omega, by omega, by omega, fun h => by (rw [ho] at h; cases h), fun _ => by omega, by omega, by omega⟩, fun hk0 => ?_⟩
            rcases hc.2 with h | h
            · omega
            · rw [hp (by omega)] at h; omega
      exact ⟨check_right h1, hl, fun k hk => (key k hk).1, fun k hk => (key (k + 1) hk).2 (by omega)⟩
structure Reach1 (i : Int) (x : Reach) : Prop where
  up : x.up < i
  delay1 : 1 ≤ x.delay
  delay : x.delay ≤ 16
  siphon0 : 0 ≤ x.siphon
  siphon : x.siphon ≤ x.cap
  cap : x.cap ≤ 1073741824
  bank : x.siphon ≤ x.bank
  bank1 : x.bank ≤ 1099511627776
theorem reach_one {i : Int} {x : Reach} (hi : 0 ≤ i) (h : expand_reach i x = true) : Reach1 i x := by
  unfold expand_reach at h
  cases hd : decide (i > 0) with
  | true =>
    rw [hd] at h
    simp only [cond_true, Bool.and_eq_true, expand_index, decide_eq_true_eq] at h hd
    obtain ⟨⟨⟨⟨⟨h0, h1⟩, h2⟩, h3⟩, h4⟩, h5⟩ := h
    have := rising3 h1
    have := rising4 h2
    have := rising4 h3
    constructor <;> omega
  | false =>
    rw [hd] at h
    simp only [cond_false, Bool.and_eq_true, beq_iff_eq, decide_eq_false_iff_not] at h hd
    obtain ⟨⟨⟨⟨⟨h0, h1⟩, h2⟩, h3⟩, h4⟩, h5⟩ := h
    have := rising3 h1
    have := rising4 h2
    have := rising4 h3
    constructor <;> omega
theorem Right1.reach1 {d : District} (h : Right1 d) {k : Nat} (hk : k < d.reaches.length) : Reach1 k (d.reaches.getD k default) := reach_one (by omega) (h.reach k hk)
theorem Right1.reachI {d : District} (h : Right1 d) {i : Int} (h0 : 0 ≤ i) (hi : i < (d.reaches.length : Int)) : Reach1 i (d.reaches.getD i.toNat default) := by
  have := h.reach1 (k := i.toNat) (by omega)
  rwa [Int.toNat_of_nonneg h0] at this
theorem runI_none {step : Nat → Unit → Unit ⊕ Unit} : ∀ {n i : Nat}, (∀ j, i ≤ j → j < i + n → step j () = .inr ()) → runI step n i () = .inr ()
  | 0, _, _ => rfl
  | n + 1, i, h => by
    simp only [runI]
    rw [h i (by omega) (by omega)]
    exact runI_none fun j h1 h2 => h j (by omega) (by omega)
theorem unit_iff {step : Nat → Unit → Unit ⊕ Unit} {n : Nat} : runI step n 0 () = .inr () ↔ ∀ j, j < n → step j () = .inr () :=
  ⟨fun h j hj => runI_unit h j (by omega) (by omega), fun h => runI_none fun j _ h2 => h j (by omega)⟩
theorem routing_split (d : District) (l : List Order) : routing_Check d l = 0 ↔ expand_Check d = 0 ∧ l.length ≤ 4096 ∧ ∀ k, k < l.length → routing_Check_l0 d l k () = .inr () := by
  unfold routing_Check
  cases h1 : (expand_Check d != 0) with
  | true => simp at h1; simp [h1]
  | false =>
    simp at h1
    simp only [cond_false, h1, true_and]
    cases h2 : decide ((l.length : Int) > 4096) with
    | true => simp at h2; simp; omega
    | false =>
      simp at h2
      rw [← unit_iff]
      cases h3 : runI (routing_Check_l0 d l) l.length 0 () with
      | inl y => simp
      | inr y => simp; omega
theorem getD_el {α : Type} (l : List α) (d : α) {n : Nat} (h : n < l.length) : l.getD n d = l[n] := by
  rw [List.getD_eq_getElem?_getD, List.getElem?_eq_getElem h]; rfl
theorem mget_mupd {κ υ : Type} [DecidableEq κ] (l : List (κ × υ)) (x z : κ) (y : υ) : mget (mupd l x y) z = if z = x then some y else mget l z := by
  induction l with
  | nil => simp [mupd, mget]
  | cons a r ih =>
    obtain ⟨a, b⟩ := a
    unfold mupd
    by_cases h : x = a
    · subst h
      simp only [if_pos]
      unfold mget
      by_cases hz : z = x <;> simp [hz]
    · rw [if_neg h]
      unfold mget
      by_cases hz : z = a
      · subst hz
        rw [if_pos rfl, if_neg (fun e => h e.symm), if_pos rfl]
      · rw [if_neg hz, ih, if_neg hz]
theorem mgetT_mupdT {k : Tag} (l : List (k.T × Int)) (x z : k.T) (y : Int) : mgetT k .int (mupdT k .int l x y) z = if z = x then y else mgetT k .int l z := by
  unfold mgetT mupdT
  rw [mget_mupd]
  by_cases h : z = x <;> simp [h]
theorem Orders1.lt {d : District} {l : List Order} (h : Orders1 d l) : ∀ (k j : Nat), j < k → k < l.length → olt (l.getD j default) (l.getD k default)
  | k + 1, j, h1, h2 => by
    have h3 := order_lt (h.asc k (by omega))
    by_cases e : j = k
    · subst e; exact h3
    · exact olt_trans (h.lt k j (by omega) (by omega)) h3
def osum (p : Order → Bool) : List Order → Int
  | [] => 0
  | x :: r => (bif p x then x.litres else 0) + osum p r
theorem osum_app (p : Order → Bool) (a b : List Order) : osum p (a ++ b) = osum p a + osum p b := by
  induction a with
  | nil => simp [osum]
  | cons x r ih => simp only [List.cons_append, osum, ih]; omega
theorem osum_bound {p : Order → Bool} {l : List Order} (h : ∀ x ∈ l, 1 ≤ x.litres ∧ x.litres ≤ 1073741824) : 0 ≤ osum p l ∧ osum p l ≤ l.length * 1073741824 := by
  induction l with
  | nil => simp [osum]
  | cons x r ih =>
    have h1 := ih fun a ha => h a (List.mem_cons_of_mem _ ha)
    have h2 := h x List.mem_cons_self
    simp only [osum, List.length_cons]
    cases p x <;> simp only [cond_true, cond_false] <;> omega
theorem osum_none {p : Order → Bool} {l : List Order} (h : ∀ x ∈ l, p x = false) : osum p l = 0 := by
  induction l with
  | nil => rfl
  | cons x r ih =>
    simp only [osum]
    rw [h x List.mem_cons_self, ih fun y hy => h y (List.mem_cons_of_mem _ hy)]
    rfl
theorem osum_congr {p q : Order → Bool} {l : List Order} (h : ∀ x ∈ l, p x = q x) : osum p l = osum q l := by
  induction l with
  | nil => rfl
  | cons x r ih =>
    simp only [osum]
    rw [h x List.mem_cons_self, ih fun y hy => h y (List.mem_cons_of_mem _ hy)]
theorem osum_add {p q r : Order → Bool} {l : List Order} (h : ∀ x ∈ l, (r x = (p x || q x)) ∧ (p x && q x) = false) : osum p l + osum q l = osum r l := by
  induction l with
  | nil => rfl
  | cons x t ih =>
    simp only [osum]
    have h1 := h x List.mem_cons_self
    have h2 := ih fun y hy => h y (List.mem_cons_of_mem _ hy)
    rw [h1.1]
    cases hp : p x <;> cases hq : q x <;> simp only [hp, hq, Bool.or_true, Bool.or_false, Bool.and_self, cond_true, cond_false] at h1 ⊢
    all_goals (first | omega | (simp at h1))
theorem osum_one {p : Order → Bool} {l : List Order} {j : Nat} (hj : j < l.length) (h : p l[j] = true) (hn : ∀ i (hi : i < l.length), i ≠ j → p l[i] = false) : osum p l = l[j].litres := by
  have e : l = l.take j ++ l[j] :: l.drop (j + 1) := by rw [← List.drop_eq_getElem_cons hj, List.take_append_drop]
  conv => lhs; rw [e, osum_app]
  rw [osum_none fun x hx => ?_]
  · simp only [osum, h, cond_true]
    rw [osum_none fun x hx => ?_]
    · omega
    · obtain ⟨i, hi, rfl⟩ := List.getElem_of_mem hx
      rw [List.length_drop] at hi
      rw [List.getElem_drop]
      exact hn _ _ (by omega)
  · obtain ⟨i, hi, rfl⟩ := List.getElem_of_mem hx
    rw [List.length_take] at hi
    rw [List.getElem_take]
    exact hn _ _ (by omega)
theorem Orders1.lit {d : District} {l : List Order} (h : Orders1 d l) : ∀ x ∈ l, 1 ≤ x.litres ∧ x.litres ≤ 1073741824 := fun x hx => by
  obtain ⟨k, hk, rfl⟩ := List.getElem_of_mem hx
  have := h.one k hk
  rw [getD_el _ _ hk] at this
  exact ⟨this.litres1, this.litres⟩
theorem Orders1.uniq {d : District} {l : List Order} (h : Orders1 d l) {i j : Nat} (hi : i < l.length) (hj : j < l.length) (e1 : l[i].hour = l[j].hour) (e2 : l[i].index = l[j].index) (e3 : l[i].outlet = l[j].outlet) : i = j := by
  have key : ∀ a b (ha : a < l.length) (hb : b < l.length), a < b → l[a].hour = l[b].hour → l[a].index = l[b].index → l[a].outlet = l[b].outlet → False := fun a b ha hb hab e1 e2 e3 => by
    have := h.lt b a hab hb
    rw [getD_el _ _ ha, getD_el _ _ hb] at this
    unfold olt oval at this
    rw [e1, e2, e3] at this
    omega
  rcases Nat.lt_trichotomy i j with h1 | h1 | h1
  · exact (key i j hi hj h1 e1 e2 e3).elim
  · exact h1
  · exact (key j i hj hi h1 e1.symm e2.symm e3.symm).elim
theorem osum_take {p : Order → Bool} {l : List Order} {j : Nat} (hj : j < l.length) : osum p (l.take (j + 1)) = osum p (l.take j) + (bif p l[j] then l[j].litres else 0) := by
  rw [List.take_succ_eq_append_getElem hj, osum_app]
  simp [osum]
theorem getD_mem' {α : Type} (l : List α) (d : α) {k : Nat} (h : k < l.length) : l.getD k d ∈ l := by
  rw [getD_el l d h]; exact List.getElem_mem _
theorem down_eq {n d : Int} (hd : 1 ≤ d) (hd2 : d ≤ 1073741824) (h1 : -1152921504606846976 ≤ n) (h2 : n ≤ 1152921504606846976) : ratio_down n d = n / d := by
  unfold ratio_down
  have e1 : Int.tmod (Int.tmod n d + d) d = n % d := by
    have a1 : -d < Int.tmod n d := Int.lt_tmod_of_pos n (by omega)
    rw [Int.tmod_eq_emod_of_nonneg (by omega), Int.add_emod_right]
    rw [Int.tmod_eq_emod]
    split
    · show (n % d - 0) % d = n % d
      rw [Int.sub_zero, Int.emod_emod]
    · have : n % d - (d.natAbs : Int) = n % d + d * (-1) := by omega
      rw [this, Int.add_mul_emod_self_left, Int.emod_emod]
  have a1 : -d < Int.tmod n d := Int.lt_tmod_of_pos n (by omega)
  have a2 : Int.tmod n d < d := Int.tmod_lt_of_pos n (by omega)
  rw [wrapI (by omega : -9223372036854775808 ≤ Int.tmod n d + d) (by omega), e1]
  have b1 := Int.emod_nonneg n (by omega : d ≠ 0)
  have b2 := Int.emod_lt_of_pos n (by omega : 0 < d)
  rw [wrapI (by omega : -9223372036854775808 ≤ n - n % d) (by omega)]
  have e2 : n - n % d = d * (n / d) := by have := Int.mul_ediv_add_emod n d; omega
  rw [e2, Int.mul_tdiv_cancel_left _ (by omega)]
  have c1 : n / d ≤ 1152921504606846976 := by
    have := Int.ediv_le_ediv (by omega : 0 < d) h2
    have := Int.ediv_le_self (b := d) (by omega : (0 : Int) ≤ 1152921504606846976)
    omega
  have c2 : -1152921504606846976 ≤ n / d := by
    rw [Int.le_ediv_iff_mul_le (by omega)]
    have := Int.mul_le_mul_of_nonneg_left (by omega : 1 ≤ d) (by omega : (0 : Int) ≤ 1152921504606846976)
    omega
  exact wrapI (by omega) (by omega)
structure Rat (a : Ratio) : Prop where
  d1 : 1 ≤ a.d
  d : a.d ≤ 1073741824
  n0 : -1073741824 ≤ a.n
  n : a.n ≤ 1073741824
theorem rat_ok {a : Ratio} (h : ratio_Check a = 0) : Rat a := by
  unfold ratio_Check at h
  rw [Bool.cond_eq_ite] at h
  split at h
  · cases h
  · rename_i h1
    simp only [Bool.or_eq_true, decide_eq_true_eq, not_or] at h1
    constructor <;> omega
theorem reach_seep {i : Int} {x : Reach} (h : expand_reach i x = true) : expand_share x.seep = true ∧ 0 ≤ x.evap.lo ∧ x.evap.lo ≤ x.evap.hi ∧ x.evap.hi ≤ 1073741824 := by
  unfold expand_reach at h
  cases hd : decide (i > 0) <;> rw [hd] at h <;> simp only [cond_true, cond_false, Bool.and_eq_true] at h
  all_goals
    have r1 := rising4 h.1.2
    exact ⟨h.2, r1.1, r1.2.1, r1.2.2⟩
theorem mulB {a b : Int} (h0 : -1073741824 ≤ a) (h1 : a ≤ 1073741824) (h2 : 0 ≤ b) (h3 : b ≤ 1073741824) : -1152921504606846976 ≤ a * b ∧ a * b ≤ 1152921504606846976 := by
  have h4 := Int.mul_le_mul_of_nonneg_right h0 h2
  have h5 := Int.mul_le_mul_of_nonneg_right h1 h2
  have h6 : -1073741824 * b = -(1073741824 * b) := by omega
  omega
structure Seep (x : Ratio × Ratio) : Prop where
  r1 : Rat x.1
  r2 : Rat x.2
  c1 : ratio_Check x.1 = 0
  c2 : ratio_Check x.2 = 0
  cmp : ratio_Cmp x.1 x.2 = ((ratio_Cmp x.1 x.2).1, 0) ∧ (ratio_Cmp x.1 x.2).1 ≤ 0
  le : x.1.n * x.2.d ≤ x.2.n * x.1.d
  n1 : 0 ≤ x.1.n
  n2 : x.2.n ≤ x.2.d
  m1 : x.1.n ≤ x.1.d
  m2 : 0 ≤ x.2.n
theorem seep_ok {x : Ratio × Ratio} (h : expand_share x = true) : Seep x := by
  unfold expand_share at h
  simp only [Bool.and_eq_true, beq_iff_eq, decide_eq_true_eq] at h
  obtain ⟨⟨⟨h1, h2⟩, h3⟩, h4⟩ := h
  have hc : ratio_Check x.1 = 0 ∧ ratio_Check x.2 = 0 := by
    unfold ratio_Cmp at h1
    rw [Bool.cond_eq_ite] at h1
    split at h1
    · cases h1
    · rename_i hq
      simp only [Bool.or_eq_true, bne_iff_ne, ne_eq, not_or, Decidable.not_not] at hq
      exact hq
  have r1 := rat_ok hc.1
  have r2 := rat_ok hc.2
  have b1 := mulB r1.n0 r1.n (by have := r2.d1; omega) r2.d
  have b2 := mulB r2.n0 r2.n (by have := r1.d1; omega) r1.d
  have hle : x.1.n * x.2.d ≤ x.2.n * x.1.d := by
    unfold ratio_Cmp at h3
    rw [hc.1, hc.2] at h3
    simp only [bne_self_eq_false, Bool.or_self, cond_false] at h3
    rw [wrapI (by omega) (by omega), wrapI (by omega) (by omega), compare_neg] at h3
    split at h3
    · omega
    · split at h3
      · omega
      · omega
  have e1 := r1.d1
  have e2 := r2.d1
  have m1 : x.1.n ≤ x.1.d := by
    have := Int.mul_le_mul_of_nonneg_right h4 (by omega : 0 ≤ x.1.d)
    have hh : x.1.n * x.2.d ≤ x.1.d * x.2.d := by rw [Int.mul_comm x.1.d]; omega
    exact Int.le_of_mul_le_mul_right hh (by omega)
  have m2 : 0 ≤ x.2.n := by
    have := Int.mul_nonneg h2 (by omega : 0 ≤ x.2.d)
    have hh : 0 * x.1.d ≤ x.2.n * x.1.d := by rw [Int.zero_mul]; omega
    exact Int.le_of_mul_le_mul_right hh (by omega)
  exact ⟨r1, r2, hc.1, hc.2, ⟨by rw [← h1], h3⟩, hle, h2, h4, m1, m2⟩
theorem shares_ok {x : Ratio × Ratio} (h : Seep x) : losses_shares x = true := by
  unfold losses_shares losses_share losses_in
  have := h.n1; have := h.n2; have := h.m1; have := h.m2
  rw [h.c1, h.c2, decide_eq_true (by omega : x.1.n ≥ 0), decide_eq_true (by omega : x.1.n ≤ x.1.d), decide_eq_true (by omega : x.2.n ≥ 0), decide_eq_true (by omega : x.2.n ≤ x.2.d)]
  have h2 := congrArg Prod.snd h.cmp.1
  dsimp only at h2
  rw [h2, decide_eq_true h.cmp.2]
  rfl
theorem times_ok {a : Ratio} (h : Rat a) (hc : ratio_Check a = 0) (h0 : 0 ≤ a.n) {v : Int} (v0 : 0 ≤ v) (v1 : v ≤ 1073741824) : (ratio_Times a v).1 = a.n * v / a.d ∧ (ratio_Times a v).2.1 = -(-(a.n * v) / a.d) ∧ -(-(a.n * v) / a.d) ≤ 1152921504606846976 ∧ 0 ≤ -(-(a.n * v) / a.d) := by
  have := h.d1; have := h.d; have := h.n
  have hm := mulB (by omega) h.n v0 v1
  have hm0 := Int.mul_nonneg h0 v0
  unfold ratio_Times
  have e1 : (decide (v < (-1073741824)) || decide (v > 1073741824)) = false := by simp only [Bool.or_eq_false_iff, decide_eq_false_iff_not]; omega
  rw [hc, e1]
  simp only [bne_self_eq_false, cond_false]
  rw [wrapI (by omega : -9223372036854775808 ≤ 0 - a.n) (by omega)]
  have e2 : (0 - a.n) * v = -(a.n * v) := by rw [Int.sub_mul]; omega
  rw [e2, wrapI (by omega : -9223372036854775808 ≤ -(a.n * v)) (by omega), wrapI (by omega : -9223372036854775808 ≤ a.n * v) (by omega)]
  rw [down_eq h.d1 h.d (by omega) (by omega), down_eq h.d1 h.d (by omega) (by omega)]
  have c1 : -1152921504606846976 ≤ -(a.n * v) / a.d := by
    rw [Int.le_ediv_iff_mul_le (by omega)]
    have := Int.mul_le_mul_of_nonneg_left (by omega : 1 ≤ a.d) (by omega : (0 : Int) ≤ 1152921504606846976)
    omega
  have c2 : -(a.n * v) / a.d ≤ 0 := by
    have := Int.ediv_le_ediv (by omega : 0 < a.d) (by omega : -(a.n * v) ≤ 0)
    simpa using this
  rw [wrapI (by omega) (by omega)]
  exact ⟨rfl, by omega, by omega, by omega⟩
theorem lost_ok {i : Int} {x : Reach} (h : expand_reach i x = true) {v : Int} (v0 : 0 ≤ v) (v1 : v ≤ 1073741824) : losses_valid x v = 0 ∧ 0 ≤ (losses_lost x v).lo ∧ (losses_lost x v).lo ≤ (losses_lost x v).hi ∧ (losses_lost x v).hi ≤ v := by
  obtain ⟨h1, h2, h3, h4⟩ := reach_seep h
  have hs := seep_ok h1
  refine ⟨?_, ?_⟩
  · unfold losses_valid losses_ordered losses_in
    rw [shares_ok hs, decide_eq_true (by omega : x.evap.lo ≥ 0), decide_eq_true h3, decide_eq_true h4, decide_eq_true (by omega : v ≥ 0), decide_eq_true v1]
    rfl
  · unfold losses_lost
    cases hv : (v == 0) with
    | true =>
      simp only [beq_iff_eq] at hv
      simp only [cond_true]; omega
    | false =>
      simp only [beq_eq_false_iff_ne, ne_eq] at hv
      simp only [cond_false]
      obtain ⟨a1, _, _, _⟩ := times_ok hs.r1 hs.c1 hs.n1 v0 v1
      obtain ⟨_, b1, b2, b3⟩ := times_ok hs.r2 hs.c2 hs.m2 v0 v1
      rw [a1, b1]
      have d1 := hs.r1.d1
      have d2 := hs.r2.d1
      have P0 : 0 ≤ x.seep.1.n * v / x.seep.1.d := Int.ediv_nonneg (Int.mul_nonneg hs.n1 v0) (by omega)
      have P1 : x.seep.1.n * v / x.seep.1.d * x.seep.1.d ≤ x.seep.1.n * v := Int.ediv_mul_le _ (by omega)
      have Q1 : -(x.seep.2.n * v) / x.seep.2.d * x.seep.2.d ≤ -(x.seep.2.n * v) := Int.ediv_mul_le _ (by omega)
      generalize x.seep.1.n * v / x.seep.1.d = P at P0 P1
      generalize -(x.seep.2.n * v) / x.seep.2.d = Q at b2 b3 Q1
      have PV : P ≤ v := by
        have := Int.mul_le_mul_of_nonneg_right hs.m1 v0
        have hh : P * x.seep.1.d ≤ v * x.seep.1.d := by rw [Int.mul_comm v]; omega
        exact Int.le_of_mul_le_mul_right hh (by omega)
      have PQ : P ≤ -Q := by
        have e1 := Int.mul_le_mul_of_nonneg_right P1 (by omega : 0 ≤ x.seep.2.d)
        have e2 := Int.mul_le_mul_of_nonneg_right hs.le v0
        have e3 := Int.mul_le_mul_of_nonneg_right Q1 (by omega : 0 ≤ x.seep.1.d)
        have hh : P * (x.seep.1.d * x.seep.2.d) ≤ -Q * (x.seep.1.d * x.seep.2.d) := by
          have i1 : P * x.seep.1.d * x.seep.2.d = P * (x.seep.1.d * x.seep.2.d) := Int.mul_assoc _ _ _
          have i2 : x.seep.1.n * v * x.seep.2.d = x.seep.1.n * x.seep.2.d * v := by rw [Int.mul_assoc, Int.mul_comm v, ← Int.mul_assoc]
          have i3 : x.seep.2.n * x.seep.1.d * v = x.seep.2.n * v * x.seep.1.d := by rw [Int.mul_assoc, Int.mul_comm x.seep.1.d, ← Int.mul_assoc]
          have i4 : Q * x.seep.2.d * x.seep.1.d = Q * (x.seep.1.d * x.seep.2.d) := by rw [Int.mul_assoc, Int.mul_comm x.seep.2.d]
          have i5 : -(x.seep.2.n * v) * x.seep.1.d = -(x.seep.2.n * v * x.seep.1.d) := Int.neg_mul _ _
          have i6 : -Q * (x.seep.1.d * x.seep.2.d) = -(Q * (x.seep.1.d * x.seep.2.d)) := Int.neg_mul _ _
          omega
        have hp : 0 < x.seep.1.d * x.seep.2.d := Int.mul_pos (by omega) (by omega)
        exact Int.le_of_mul_le_mul_right hh hp
      rw [wrapI (by omega) (by omega), wrapI (by omega) (by omega)]
      split <;> split <;> omega
end Go.Sx
end
section
namespace Go.Sx
open Go.Proofs
def wst (x : Reach) (v : Int) : Int := v - (losses_lost x v).hi
theorem wst_eq {i : Int} {x : Reach} (h : expand_reach i x = true) {v : Int} (v0 : 0 ≤ v) (v1 : v ≤ 1073741824) : wst x v = max 0 ((x.seep.2.d - x.seep.2.n) * v / x.seep.2.d - x.evap.hi) := by
  obtain ⟨g1, g2, g3, g4⟩ := reach_seep h
  have hs := seep_ok g1
  have d1 := hs.r2.d1
  have hk : (x.seep.2.d - x.seep.2.n) * v / x.seep.2.d = v + -(x.seep.2.n * v) / x.seep.2.d := by
    rw [Int.sub_mul, Int.sub_eq_add_neg, Int.add_comm, Int.add_mul_ediv_left _ _ (by omega)]; omega
  rw [hk]
  unfold wst losses_lost
  cases hv : (v == 0) with
  | true =>
    simp only [beq_iff_eq] at hv
    subst hv
    simp only [cond_true, Int.mul_zero, Int.neg_zero, Int.zero_ediv]
    show (0 : Int) - 0 = _
    omega
  | false =>
    simp only [cond_false]
    obtain ⟨_, b1, b2, b3⟩ := times_ok hs.r2 hs.c2 hs.m2 v0 v1
    rw [b1]
    generalize -(x.seep.2.n * v) / x.seep.2.d = Q at b2 b3 ⊢
    rw [wrapI (by omega) (by omega)]
    split <;> omega
theorem wf_mono {k d a b : Int} (hk : 0 ≤ k) (hd : 1 ≤ d) (h : a ≤ b) : k * a / d ≤ k * b / d := Int.ediv_le_ediv (by omega) (Int.mul_le_mul_of_nonneg_left h hk)
section
variable {i : Int} {x : Reach}
theorem wst_nn (h : expand_reach i x = true) {v : Int} (v0 : 0 ≤ v) (v1 : v ≤ 1073741824) : 0 ≤ wst x v ∧ wst x v ≤ v := by
  have := lost_ok h v0 v1
  unfold wst; omega
theorem wst_mono (h : expand_reach i x = true) {a b : Int} (a0 : 0 ≤ a) (hab : a ≤ b) (b1 : b ≤ 1073741824) : wst x a ≤ wst x b := by
  have hs := seep_ok (reach_seep h).1
  have := hs.r2.d1
  rw [wst_eq h a0 (by omega), wst_eq h (by omega) b1]
  have := wf_mono (k := x.seep.2.d - x.seep.2.n) (d := x.seep.2.d) (by have := hs.n2; omega) hs.r2.d1 hab
  omega
end
theorem half {i j : Int} (h0 : 0 ≤ i) (h1 : i ≤ j) (h2 : j ≤ 2305843009213693952) : IntKind.i64.wrap (shrI .u64 (IntKind.u64.wrap (IntKind.i64.wrap (i + j))) 1) = (i + j) / 2 := by
  have e0 : IntKind.i64.wrap (i + j) = i + j := wrapI (by omega) (by omega)
  have e : IntKind.u64.wrap (i + j) = i + j := by
    unfold IntKind.wrap
    simp [IntKind.bits, IntKind.signed]
    omega
  have e2 : shrI .u64 (i + j) 1 = (i + j) / 2 := by
    show Int.fdiv (i + j) ((2 : Int) ^ min (Int.toNat 1) IntKind.u64.bits) = _
    have : (2 : Int) ^ min (Int.toNat 1) IntKind.u64.bits = 2 := by decide
    rw [this, Int.fdiv_eq_ediv_of_nonneg _ (by omega)]
  rw [e0, e, e2, wrapI (by omega) (by omega)]
theorem search_run {f : Int → Bool} {N : Int} {step : Nat → Int × Int → Int ⊕ (Int × Int)} (hN : N ≤ 2305843009213693952)
    (hs : ∀ k i j, 0 ≤ i → i < j → j ≤ N → step k (i, j) = if f ((i + j) / 2) = true then .inr (i, (i + j) / 2) else .inr ((i + j) / 2 + 1, j)) (he : ∀ k i j, ¬ i < j → step k (i, j) = .inl i) :
    ∀ (fuel k : Nat) (i j : Int), 0 ≤ i → i ≤ j → j ≤ N → j - i < 2 ^ fuel → ∃ v, runI step (fuel + 1) k (i, j) = .inl v ∧ i ≤ v ∧ v ≤ j ∧
      ((∀ a b, 0 ≤ a → a ≤ b → b < N → f a = true → f b = true) → (∀ u, i ≤ u → u < v → f u = false) ∧ (v < j → f v = true)) := by
  intro fuel
  induction fuel with
  | zero =>
    intro k i j h0 h1 h2 h3
    have : j = i := by simp at h3; omega
    subst this
    exact ⟨j, by simp only [runI, he k j j (by omega)], Int.le_refl _, Int.le_refl _, fun _ => ⟨fun u h4 h5 => by omega, fun h => by omega⟩⟩
  | succ fuel ih =>
    intro k i j h0 h1 h2 h3
    by_cases hlt : i < j
    · have hp : (2 : Int) ^ (fuel + 1) = 2 ^ fuel + 2 ^ fuel := by rw [Int.pow_succ]; omega
      rw [show fuel + 1 + 1 = (fuel + 1) + 1 from rfl]
      simp only [runI, hs k i j h0 hlt h2]
      by_cases hf : f ((i + j) / 2) = true
      · rw [if_pos hf]
        obtain ⟨v, e1, e2, e3, e4⟩ := ih (k + 1) i ((i + j) / 2) h0 (by omega) (by omega) (by omega)
        refine ⟨v, e1, e2, by omega, fun hm => ⟨(e4 hm).1, fun _ => ?_⟩⟩
        by_cases hv : v < (i + j) / 2
        · exact (e4 hm).2 hv
        · have : v = (i + j) / 2 := by omega
          rw [this]; exact hf
      · rw [if_neg hf]
        obtain ⟨v, e1, e2, e3, e4⟩ := ih (k + 1) ((i + j) / 2 + 1) j (by omega) (by omega) h2 (by omega)
        refine ⟨v, e1, by omega, e3, fun hm => ⟨fun u h4 h5 => ?_, (e4 hm).2⟩⟩
        by_cases hu : (i + j) / 2 + 1 ≤ u
        · exact (e4 hm).1 u hu h5
        · cases hfu : f u with
          | false => rfl
          | true => exact absurd (hm u ((i + j) / 2) (by omega) (by omega) (by omega) hfu) hf
    · have : j = i := by omega
      subst this
      exact ⟨j, by simp only [runI, he k j j (by omega)], Int.le_refl _, Int.le_refl _, fun _ => ⟨fun u h4 h5 => by omega, fun h => by omega⟩⟩
theorem least_run (w : Int) (x : Reach) : ∃ v, runI (sort_Search_l0 x w) 64 0 (0, 1073741825) = .inl v ∧ 0 ≤ v ∧ v ≤ 1073741825 ∧
    ((∀ a b, 0 ≤ a → a ≤ b → b < 1073741825 → losses_least_1 a x w = true → losses_least_1 b x w = true) → (∀ u, 0 ≤ u → u < v → losses_least_1 u x w = false) ∧ (v < 1073741825 → losses_least_1 v x w = true)) := by
  refine search_run (f := fun v => losses_least_1 v x w) (N := 1073741825) (by omega) (fun k i j h0 h1 h2 => ?_) (fun k i j h => ?_) 63 0 0 1073741825 (by omega) (by omega) (by omega) (by decide)
  · unfold sort_Search_l0
    simp only
    rw [half h0 (by omega) (by omega), decide_eq_true h1, wrapI (by omega) (by omega)]
    cases losses_least_1 ((i + j) / 2) x w <;> simp
  · unfold sort_Search_l0
    simp only
    rw [decide_eq_false h]; rfl
theorem search_p (w : Int) (x : Reach) : sort_Search_p 1073741825 x w := fun z hz => by
  obtain ⟨v, h, _⟩ := least_run w x
  rw [h] at hz; cases hz
theorem needL_p (x : Reach) (w : Int) : losses_Need_p x w := fun _ => search_p _ x
theorem intake_p (x : Reach) (w : Int) : routing_intake_p x w := fun _ => needL_p x w
section
variable {i : Int} {x : Reach}
theorem least_ok (h : expand_reach i x = true) {w : Int} (hw : 1 ≤ w) (hw2 : w ≤ 1073741824) : 0 ≤ losses_least (w - 1) x ∧ losses_least (w - 1) x ≤ 1073741825 ∧ (∀ u, 0 ≤ u → u < losses_least (w - 1) x → wst x u < w) ∧ (losses_least (w - 1) x ≤ 1073741824 → w ≤ wst x (losses_least (w - 1) x)) := by
  obtain ⟨v, e1, e2, e3, e4⟩ := least_run (w - 1) x
  have ev : losses_least (w - 1) x = v := by unfold losses_least sort_Search; rw [e1]
  have hf : ∀ u, 0 ≤ u → u ≤ 1073741824 → (losses_least_1 u x (w - 1) = true ↔ w ≤ wst x u) := fun u u0 u1 => by
    have := lost_ok h u0 u1
    unfold losses_least_1 losses_Need_1 wst
    rw [wrapI (by omega) (by omega), decide_eq_true_eq]; omega
  obtain ⟨e5, e6⟩ := e4 fun a b a0 hab hb ha => (hf b (by omega) (by omega)).2 (by
    have := wst_mono h a0 hab (by omega)
    have := (hf a a0 (by omega)).1 ha; omega)
  rw [ev]
  refine ⟨e2, e3, fun u u0 u1 => ?_, fun hv => (hf v e2 hv).1 (e6 (by omega))⟩
  have := e5 u u0 u1
  by_cases hq : w ≤ wst x u
  · rw [(hf u u0 (by omega)).2 hq] at this; cases this
  · omega
theorem intake_ok (h0 : 0 ≤ i) (h : expand_reach i x = true) {w : Int} (hw : 1 ≤ w) : (∃ v, routing_intake x w = (v, true) ∧ 1 ≤ v ∧ v ≤ 1073741824 ∧ x.siphon ≤ v ∧ w ≤ wst x v ∧ ∀ u, 0 ≤ u → u ≤ 1073741824 → x.siphon ≤ u → w ≤ wst x u → v ≤ u) ∨
    ((routing_intake x w).2 = false ∧ ∀ u, 0 ≤ u → u ≤ 1073741824 → wst x u < w) := by
  have hr := reach_one h0 h
  unfold routing_intake
  have hw0 : (w == 0) = false := by rw [beq_eq_false_iff_ne]; omega
  by_cases hw2 : w ≤ 1073741824
  · have hc : (w == 0 || decide (w > 1073741824)) = false := by rw [hw0, decide_eq_false (by omega)]; rfl
    rw [hc, hw0]
    simp only [cond_false]
    obtain ⟨l1, l2, l3, l4⟩ := least_ok h hw hw2
    unfold losses_Need
    have hv : (losses_valid x w != 0) = false := by rw [(lost_ok h (by omega) hw2).1]; rfl
    rw [hv, wrapI (by omega) (by omega)]
    simp only [cond_false]
    by_cases hl : losses_least (w - 1) x ≤ 1073741824
    · rw [decide_eq_false (by omega)]
      simp only [cond_false, Bool.not_true]
      have l5 := l4 hl
      have l6 := wst_nn h l1 hl
      refine .inl ⟨_, rfl, ?_, ?_, ?_, ?_, fun u u0 u1 u2 u3 => ?_⟩
      · split <;> omega
      · have := hr.siphon; have := hr.cap; split <;> omega
      · split <;> omega
      · have := hr.siphon; have := hr.cap
        split
        · exact Int.le_trans l5 (wst_mono h l1 (by omega) (by omega))
        · exact l5
      · have : losses_least (w - 1) x ≤ u := by
          rcases Int.lt_or_le u (losses_least (w - 1) x) with q | q
          · have := l3 u u0 q; omega
          · exact q
        split <;> omega
    · rw [decide_eq_true (by omega)]
      simp only [cond_true, Bool.not_false]
      exact .inr ⟨trivial, fun u u0 u1 => l3 u u0 (by omega)⟩
  · have hc : (w == 0 || decide (w > 1073741824)) = true := by rw [decide_eq_true (by omega : w > 1073741824), Bool.or_true]
    rw [hc]
    refine .inr ⟨by simpa using hw0, fun u u0 u1 => ?_⟩
    have := wst_nn h u0 u1; omega
end
end Go.Sx
end
section
namespace Go.Sx
def resW {α : Type} : Result α → World
  | .ok _ w => w
  | .halt _ w => w
theorem ask_le {α : Type} : ∀ (a : Ask α) (w : World), w.drawn ≤ (w.ask a).2.drawn
  | .done a, w => Nat.le_refl _
  | .ask what range k, w => by
    unfold World.ask
    dsimp only
    split
    · exact ask_le _ w
    · exact Nat.le_trans (Nat.le_succ _) (ask_le _ { w with drawn := w.drawn + 1 })
theorem sys_le (w : World) (c : Sys) : w.drawn ≤ (w.sys c).2.drawn := by
  unfold World.sys
  have := ask_le (Kernel.perform c w.os) w
  split
  · exact Nat.le_refl _
  · rename_i h
    rw [h] at this
    exact this
theorem farStore_eq {p : Program} {w w' : World} {a : Addr} {v : Value} {b : Bool} {l : List Addr} (h : w.farStore p a v b = .ok (w', l)) : w'.drawn = w.drawn := by
  unfold World.farStore at h
  split at h
  · split at h
    · rename_i r hr
      cases h
      unfold World.viewStore at hr
      simp only [bind, Except.bind, pure, Except.pure] at hr
      repeat' split at hr
      all_goals (first | (cases hr; done) | skip)
      all_goals (cases hr; rfl)
    · cases h
  · cases h
theorem run_le {α : Type} (p : Program) : ∀ (s : Sem α) (w : World), w.drawn ≤ (resW (s.run p w)).drawn := by
  intro s
  induction s with
  | pure a => intro w; exact Nat.le_refl _
  | load m a k ih =>
    intro w
    unfold Sem.run
    split
    · exact ih _ w
    · split
      · exact ih _ w
      · exact Nat.le_refl _
  | store m a v k ih =>
    intro w
    cases v
    case agg => exact Nat.le_refl _
    case tuple => exact Nat.le_refl _
    all_goals
      simp only [Sem.run]
      split
      · split
        · exact Nat.le_refl _
        · exact ih (w.setCell a _)
      · split
        · rename_i h
          rw [← farStore_eq h]; exact ih _
        · exact Nat.le_refl _
  | new o k ih => intro w; exact ih w.heap.size { w with heap := w.heap.push o }
  | shape r k ih => intro w; exact ih _ _
  | freeze a n k ih =>
    intro w
    have : (w.freeze a n).drawn = w.drawn := by unfold World.freeze; split <;> rfl
    rw [← this]; exact ih _
  | frozen a k ih => intro w; exact ih _ _
  | getObj r k ih =>
    intro w
    unfold Sem.run
    split
    · exact Nat.le_refl _
    · exact ih _ _
    · exact Nat.le_refl _
  | setObj r o k ih =>
    intro w
    unfold Sem.run
    split
    · exact Nat.le_refl _
    · exact ih { w with heap := w.heap.setIfInBounds r o }
    · exact Nat.le_refl _
  | choose q k ih =>
    intro w
    unfold Sem.run
    split
    · exact ih _ _
    · exact Nat.le_trans (Nat.le_succ _) (ih _ { w with drawn := w.drawn + 1 })
  | sys c k ih => intro w; exact Nat.le_trans (sys_le w c) (ih _ _)
  | program k ih => intro w; exact ih _ _
  | mark m k ih => intro w; exact ih _
  | halt h => intro w; exact Nat.le_refl _
theorem runT_run {α : Type} (p : Program) : ∀ (s : Sem α) (w : World) (es : Array Event), (s.runT p w es).1 = s.run p w := by
  intro s
  induction s with
  | store m a v k ih =>
    intro w es
    cases v
    case agg => rfl
    case tuple => rfl
    all_goals
      simp only [Sem.runT, Sem.run]
      split
      · split
        · rfl
        · exact ih _ _
      · split
        · exact ih _ _
        · rfl
  | load m a k ih =>
    intro w es
    simp only [Sem.runT, Sem.run]
    split
    · exact ih _ _ _
    · split
      · exact ih _ _ _
      · rfl
  | getObj r k ih =>
    intro w es
    simp only [Sem.runT, Sem.run]
    split
    · rfl
    · exact ih _ _ _
    · rfl
  | setObj r o k ih =>
    intro w es
    simp only [Sem.runT, Sem.run]
    split
    · rfl
    · exact ih _ _
    · rfl
  | choose q k ih =>
    intro w es
    simp only [Sem.runT, Sem.run]
    split
    · exact ih _ _ _
    · exact ih _ _ _
  | pure a => intro w es; rfl
  | new o k ih => intro w es; exact ih _ _ _
  | shape r k ih => intro w es; exact ih _ _ _
  | freeze a n k ih => intro w es; exact ih _ _
  | frozen a k ih => intro w es; exact ih _ _ _
  | sys c k ih => intro w es; exact ih _ _ _
  | program k ih => intro w es; exact ih _ _ _
  | mark m k ih => intro w es; exact ih _ _
  | halt h => intro w es; rfl
theorem run_ok {α : Type} {p : Program} {s : Sem α} {w w' : World} {a : α} (h : s.run p w = .ok a w') : w.drawn ≤ w'.drawn := by have := run_le p s w; rw [h] at this; exact this
theorem run_halt {α : Type} {p : Program} {s : Sem α} {w w' : World} {a : Halt} (h : s.run p w = .halt a w') : w.drawn ≤ w'.drawn := by have := run_le p s w; rw [h] at this; exact this
theorem runT_le {α : Type} {p : Program} {s : Sem α} {w : World} {es es' : Array Event} {r : Result α} (h : s.runT p w es = (r, es')) : w.drawn ≤ (resW r).drawn := by
  have := runT_run p s w es
  rw [h] at this
  have h2 := run_le p s w
  rw [← this] at h2
  exact h2
def gLe (w : World) : GStep → Prop
  | .ended .. => True
  | .go _ w' _ | .comm _ _ _ _ w' _ | .spawn _ _ w' _ | .count _ w' _ | .timer _ _ w' _ | .alone _ _ w' _ | .newcoro _ _ _ w' _ | .coroswitch _ _ _ w' _ | .collect _ w' _ | .watch _ w' _ => w.drawn ≤ w'.drawn
theorem gLe.after {w : World} {es : Array Event} {s : GStep} (h : gLe w s) : gLe w (s.after es) := by cases s <;> exact h
theorem gLe.trans {w w' : World} {s : GStep} (h1 : w.drawn ≤ w'.drawn) (h : gLe w' s) : gLe w s := by cases s <;> first | trivial | exact Nat.le_trans h1 h
theorem gLe_ite {c : Prop} [Decidable c] {w : World} {a b : GStep} (h1 : gLe w a) (h2 : gLe w b) : gLe w (if c then a else b) := by split <;> assumption
theorem endThrow_le (fr : Frame) (m : String) (w : World) : gLe w (endThrow fr m w) := Nat.le_refl _
theorem endPrinting_le (p : Program) (fr : Frame) (v : Value) (w : World) : gLe w (endPrinting p fr v w) := by
  unfold endPrinting
  dsimp only
  split
  · exact endThrow_le _ _ _
  · trivial
theorem endFatal_le (p : Program) (fr : Frame) (callers : List Frame) (dying : Option Dying) (m : String) (w : World) : gLe w (endFatal p fr callers dying m w) := by
  unfold endFatal
  extract_lets
  split
  · rename_i h; exact run_ok h
  · trivial
  · trivial
theorem writeOn_le (p : Program) (fr : Frame) (d : Dying) (f : Fatal) (w : World) : gLe w (writeOn p fr d f w) := by
  unfold writeOn
  extract_lets
  split
  · trivial
  · extract_lets
    generalize h : Sem.runT _ _ _ _ = rr
    obtain ⟨r, es⟩ := rr
    have h := runT_le h
    split
    · rename_i e; cases e; exact h
    · rename_i e; cases e; exact h
    · trivial
    · trivial
theorem endWith_le (w w' : World) (fd : Nat) (t : ByteArray) (o : Outcome) : gLe w (endWith w' fd t o) := by
  unfold endWith
  extract_lets
  split
  · split <;> trivial
  · trivial
  · trivial
theorem die_le (p : Program) (fr : Frame) (d : Dying) (w : World) : gLe w (die p fr d w) := by
  unfold die
  split
  · exact writeOn_le _ _ _ _ _
  · split
    · split
      · exact Nat.le_refl _
      · exact endWith_le _ _ _ _ _
    · extract_lets
      split
      · exact Nat.le_refl _
      · split
        · rename_i h; exact run_ok h
        · trivial
      · split
        rename_i h
        have h := runT_le h
        refine gLe.after ?_
        split
        all_goals first | exact h | trivial | exact gLe.trans h (endPrinting_le _ _ _ _)
      · trivial
theorem doReturn_le (p : Program) (main : Bool) (fr : Frame) (callers : List Frame) (dying : Option Dying) (v : Value) (w : World) : gLe w (doReturn p main fr callers dying v w) := by
  unfold doReturn
  split
  · split
    all_goals exact Nat.le_refl _
  · split
    · exact Nat.le_refl _
    · trivial
    · split
      · exact Nat.le_refl _
      · split
        · exact Nat.le_refl _
        · trivial
theorem callDeferred_le (p : Program) (fr : Frame) (callers : List Frame) (dying : Option Dying) (d : Deferred) (w : World) : gLe w (callDeferred p fr callers dying d w) := by
  unfold callDeferred
  refine gLe_ite trivial ?_
  rcases h : (invoke d.target d.args).runT p w #[] with ⟨r, es⟩
  have h := runT_le h
  dsimp only
  refine gLe.after ?_
  split
  all_goals first | exact h | trivial | exact gLe.trans h (endFatal_le _ _ _ _ _ _) | exact gLe.trans h (endThrow_le _ _ _) | skip
  split <;> exact h
theorem unwind_le (p : Program) (main : Bool) (fr : Frame) (callers : List Frame) (dying : Option Dying) (w : World) : gLe w (unwind p main fr callers dying w) := by
  unfold unwind
  split
  · split
    rename_i h
    have h := runT_le h
    refine gLe.after ?_
    split
    · exact h
    · trivial
  · exact callDeferred_le _ _ _ _ _ _
  · split
    · trivial
    · split
      · trivial
      · split
        · exact Nat.le_refl _
        · split
          · split
            · exact Nat.le_refl _
            · split
              · rename_i h; exact run_ok h
              · trivial
              · trivial
          · split
            · exact endPrinting_le _ _ _ _
            · trivial
    · split
      · exact doReturn_le _ _ _ _ _ _ _
      · split
        rename_i h
        have h := runT_le h
        refine gLe.after ?_
        split
        · exact gLe.trans h (doReturn_le _ _ _ _ _ _ _)
        · trivial
        · trivial
theorem early_le (p : Program) (fr : Frame) (callers : List Frame) (dying : Option Dying) (g : Nat) (w : World) : gLe w (early p fr callers dying g w) := by
  unfold early
  extract_lets refuse notYet there
  have hn : ∀ w0 : World, w.drawn ≤ w0.drawn → gLe w (notYet w0) := fun w0 h0 => by
    show gLe w (match w0.heap[g]? with | some (.pending c elem) => _ | _ => _)
    split
    · exact h0
    · trivial
  split
  · exact hn w (Nat.le_refl _)
  · split
    · trivial
    · extract_lets there
      have ht : ∀ w0 : World, w.drawn ≤ w0.drawn → gLe w (there w0) := fun w0 h0 => h0
      split
      · exact hn w (Nat.le_refl _)
      · split
        · exact hn w (Nat.le_refl _)
        · split
          · trivial
          · exact ht w (Nat.le_refl _)
          · trivial
          · exact hn w (Nat.le_refl _)
          · split
            · exact ht w (Nat.le_refl _)
            · split
              · exact hn w (Nat.le_refl _)
              · split
                · rename_i h; exact hn _ (run_ok h)
                · rename_i h; exact ht _ (run_ok h)
                · trivial
end Go.Sx
end
section
namespace Go.Sx
theorem apply_le (p : Program) (listen : Bool) (fr : Frame) (callers : List Frame) (dying : Option Dying) (s : Sem Next) (w : World) : gLe w (Go.stepG.apply p listen fr callers dying s w) := by
  unfold Go.stepG.apply
  extract_lets go kind
  have hr : ∃ r es, (if listen = true then s.runT p w #[] else (s.run p w, #[])) = (r, es) ∧ w.drawn ≤ (resW r).drawn := by
    split
    · rcases h : s.runT p w #[] with ⟨r, es⟩
      exact ⟨r, es, rfl, runT_le h⟩
    · exact ⟨_, _, rfl, run_le p s w⟩
  obtain ⟨r, es, he, h⟩ := hr
  rw [he]
  dsimp only
  refine gLe.after ?_
  have hgo : ∀ fr w0, w.drawn ≤ w0.drawn → gLe w (go fr w0) := fun fr w0 h0 => h0
  split
  all_goals first | exact h | trivial | exact hgo _ _ h | exact gLe.trans h (endFatal_le _ _ _ _ _ _) | exact gLe.trans h (endThrow_le _ _ _) | exact gLe.trans h (early_le _ _ _ _ _ _) | skip
  all_goals first | (refine gLe_ite (gLe.trans h (endThrow_le _ _ _)) ?_; exact h) | (split <;> first | exact h | trivial | exact hgo _ _ h)
theorem oper_le (p : Program) (listen : Bool) (fr : Frame) (callers : List Frame) (dying : Option Dying) (w : World) : gLe w (Go.stepG.oper p listen fr callers dying w) := by
  unfold Go.stepG.oper
  split
  · trivial
  · split
    · exact apply_le _ _ _ _ _ _ _
    · exact apply_le _ _ _ _ _ _ _
theorem elim_le {α : Type} {w : World} {o : Option α} {a : GStep} {f : α → GStep} (h1 : gLe w a) (h2 : ∀ x, gLe w (f x)) : gLe w (o.elim a f) := by cases o; exact h1; exact h2 _
theorem exec_le (p : Program) (main listen : Bool) (fr : Frame) (callers : List Frame) (dying : Option Dying) (w : World) : gLe w (Go.stepG.exec p main listen fr callers dying w) := by
  unfold Go.stepG.exec
  extract_lets go to lost leave
  have hgo : ∀ fr w0, w.drawn ≤ w0.drawn → gLe w (go fr w0) := fun fr w0 h0 => h0
  have hto : ∀ k, gLe w (to k) := fun k => Nat.le_refl _
  have hlost : ∀ m, gLe w (lost m) := fun _ => trivial
  have hleave : ∀ j, gLe w (leave j) := fun j => by
    show gLe w (match fr.roundOf with | none => _ | some l => _)
    split
    · refine gLe_ite (hgo _ _ (Nat.le_refl _)) trivial
    · rcases h : (Instr.endRound _ j).runT p w #[] with ⟨r, es⟩
      have h := runT_le h
      dsimp only
      refine gLe.after ?_
      split
      · exact gLe.trans h (doReturn_le _ _ _ _ _ _ _)
      · trivial
  have hgo1 : ∀ fr, gLe w (go fr w) := fun fr => Nat.le_refl _
  clear_value to lost leave
  split
  all_goals first | exact hleave _ | exact hto _ | exact hlost _ | trivial | exact elim_le (hleave _) hto | exact apply_le _ _ _ _ _ _ _ | exact elim_le (hlost _) (fun _ => apply_le _ _ _ _ _ _ _) | skip
  · split
    · exact hto _
    · exact hlost _
  · rcases h : (Instr.enterLoop fr.fn fr.tmps _ _ _ fr.roundOf).runT p w #[] with ⟨r, es⟩
    have h := runT_le h
    dsimp only
    refine gLe.after ?_
    split
    · exact gLe.trans h (apply_le _ _ _ _ _ _ _)
    · trivial
  · rcases h : (Instr.endLoop _).runT p w #[] with ⟨r, es⟩
    have h := runT_le h
    dsimp only
    refine gLe.after ?_
    split
    · exact hgo _ _ h
    · exact hgo _ _ h
    · trivial
  · refine gLe_ite (hto _) ?_
    split
    · rename_i h; exact hgo _ _ (run_ok h)
    · trivial
  · exact gLe_ite (oper_le _ _ _ _ _ _) (hgo1 _)
theorem stepG_le (p : Program) (main : Bool) (g : Goroutine) (w : World) (listen : Bool) : gLe w (Go.stepG p main g w listen) := by
  unfold Go.stepG
  obtain ⟨fr, callers, st, dying, off⟩ := g
  dsimp only
  split
  · exact die_le _ _ _ _
  · exact exec_le _ _ _ _ _ _ _
  · exact unwind_le _ _ _ _ _ _
def sLe (w : World) : Stepped → Prop
  | .next m => w.drawn ≤ m.world.drawn
  | .ended .. => True
theorem sLe.trans {w w' : World} {s : Stepped} (h1 : w.drawn ≤ w'.drawn) (h : sLe w' s) : sLe w s := by cases s <;> first | trivial | exact Nat.le_trans h1 h
theorem sLe_ite {c : Prop} [Decidable c] {w : World} {a b : Stepped} (h1 : sLe w a) (h2 : sLe w b) : sLe w (if c then a else b) := by split <;> assumption
theorem look_le (p : Program) (gs : Array Goroutine) (rest : Rest) (w : World) : sLe w (look p gs rest w) := by
  unfold look
  split
  · extract_lets
    refine sLe_ite trivial ?_
    split
    · trivial
    · extract_lets
      split
      · rename_i h
        have h := run_ok h
        exact h
      · trivial
      · trivial
  · trivial
theorem waitingAt_le {rest : Rest} {cases : Array CommCase} {w w' : World} (h : waitingAt rest cases w = some w') : w.drawn ≤ w'.drawn := by
  unfold waitingAt at h
  split at h
  · split at h
    · cases h; exact Nat.le_refl _
    · cases h
  · cases h; exact Nat.le_refl _
theorem communicate_le (p : Program) (rest : Rest) (gs : Array Goroutine) (i : Nat) (g : Goroutine) (cases : Array CommCase) (bl : Bool) (shape : CommShape) (w : World) : sLe w (communicate p rest gs i g cases bl shape w).1 := by
  unfold communicate
  extract_lets put illMade me other
  have hput : ∀ g gs w0 ops, w.drawn ≤ w0.drawn → sLe w (put g gs w0 ops).1 := fun _ _ _ _ h => h
  split
  · trivial
  · split
    · split
      · split
        · rename_i h; exact waitingAt_le h
        · trivial
      · exact hput _ _ _ _ (Nat.le_refl _)
    · split
      · trivial
      · rename_i h
        have hw := run_ok h
        clear h
        extract_lets r
        split
        · split
          · rename_i h2; exact hput _ _ _ _ (Nat.le_trans hw (run_halt h2))
          · trivial
        · exact hput _ _ _ _ hw
        · exact hput _ _ _ _ hw
        · extract_lets
          split
          · exact hput _ _ _ _ hw
          · split
            · rename_i h2; have h3 := run_ok h2; exact hput _ _ _ _ (Nat.le_trans hw h3)
            · trivial
        · exact hput _ _ _ _ hw
        · exact hput _ _ _ _ hw
        · trivial
theorem retime_le (m : Machine) (k : Nat) (t : Timer) (a b : Nat) : m.world.drawn ≤ (retime m k t a b).2.world.drawn := by
  unfold retime drain
  dsimp only
  repeat' split
  all_goals first | exact Nat.le_refl _ | skip
  all_goals (simp_all; try omega)
theorem timerOp_le {m m' : Machine} {op : TimerOp} {v : Value} (h : timerOp m op = .ok (v, m')) : m.world.drawn ≤ m'.world.drawn := by
  have named : ∀ (D : Nat) (m0 : Machine) var f, (∀ k t, D ≤ (f k t).2.world.drawn) → timerOp.named m0 var f = .ok (v, m') → D ≤ m'.world.drawn := fun D m0 var f hf h => by
    unfold timerOp.named at h
    split at h
    · injection h with h
      exact Nat.le_trans (hf _ _) (Nat.le_of_eq (congrArg (fun x : Value × Machine => x.2.world.drawn) h))
    · cases h
  unfold timerOp at h
  split at h
  · split at h
    · cases h; exact Nat.le_refl _
    · split at h
      · split at h
        · cases h
        · cases h; exact Nat.le_refl _
      · cases h
  · exact named _ _ _ _ (fun k t => retime_le _ _ _ _ _) h
  · split at h
    · rename_i m1 ho
      have h1 : m.world.drawn ≤ m1.world.drawn := by
        unfold timerOp.opened at ho
        split at ho
        · split at ho
          · cases ho; exact Nat.le_refl _
          · cases ho
        · cases ho; exact Nat.le_refl _
      exact Nat.le_trans h1 (named m1.world.drawn _ _ _ (fun k t => retime_le _ _ _ _ _) h)
    · cases h
  · cases h; exact Nat.le_refl _
theorem runT1_le (p : Program) (m : Machine) (i : Nat) (listen : Bool) : sLe m.world (Go.runT p m i listen).1 := by
  unfold Go.runT
  extract_lets rest world
  split
  extract_lets wake fn pos s ops done
  have hs : gLe m.world s := stepG_le _ _ _ _ _
  have hd : ∀ r, (done r).1 = r := fun r => rfl
  clear_value s done
  split
  all_goals try rw [hd]
  · trivial
  · split
    rename_i h
    have := communicate_le p rest ‹_› i ‹_› ‹_› ‹_› ‹_› ‹_›
    rw [h] at this
    exact sLe.trans hs this
  · exact hs
  · exact hs
  · exact sLe_ite trivial hs
  · exact hs
  · exact sLe.trans hs (look_le _ _ _ _)
  · exact hs
  · exact hs
  · split
    · exact hs
    · split
      · rename_i h
        simp only [endThrow, dieOf] at h
        cases h
        exact hs
      · trivial
    · trivial
  · split
    · rename_i h; exact Nat.le_trans hs (timerOp_le h)
    · exact hs
    · trivial
    · trivial
theorem serve_le (p : Program) (m : Machine) (k : Nat) : sLe m.world (serve p m k) := by
  unfold serve
  split
  · trivial
  · exact Nat.le_refl _
  · extract_lets
    split
    · trivial
    · exact Nat.le_refl _
def mLe (w : World) : Move → Prop
  | .goroutine m _ => w.drawn ≤ m.world.drawn
  | .machine s _ => sLe w s
theorem mLe.trans {w w' : World} {s : Move} (h1 : w.drawn ≤ w'.drawn) (h : mLe w' s) : mLe w s := by
  cases s
  · exact Nat.le_trans h1 h
  · exact sLe.trans h1 h
theorem askOn_le (p : Program) (m : Machine) : mLe m.world (askOn p m) := by
  unfold askOn
  extract_lets mono rs ds pick
  have hpick : ∀ m0 : Machine, m.world.drawn ≤ m0.world.drawn → mLe m.world (pick m0) := fun m0 h0 => by
    show mLe m.world (match (choose (.sched rs.length)).run p m0.world with | .halt _ w => _ | .ok k world => _)
    split
    · trivial
    · rename_i h
      have h1 := run_ok h
      split
      · exact Nat.le_trans h0 h1
      · split
        · trivial
        · rename_i h2
          have h2 := run_ok h2
          exact Nat.le_trans h0 (Nat.le_trans h1 h2)
  clear_value pick rs ds
  split
  · trivial
  · rename_i h
    have hw := run_ok h
    clear h
    extract_lets m1
    split
    · exact sLe.trans hw (serve_le p _ _)
    · cases rs with
      | nil =>
        dsimp only
        split
        · exact hw
        · split
          · exact hw
          · split <;> trivial
      | cons r rs =>
        dsimp only
        split
        · exact hpick _ hw
        · split
          · trivial
          · rename_i h; have h2 := run_ok h; exact hpick _ (Nat.le_trans hw h2)
          · rename_i h; have h2 := run_ok h; exact Nat.le_trans hw h2
          · rename_i h; have h2 := run_ok h; exact hpick _ (Nat.le_trans hw h2)
theorem ask_m_le (p : Program) (m : Machine) : mLe m.world (ask p m) := by
  unfold ask
  split
  · split
    · trivial
    · rename_i h
      have hw := run_ok h
      have := look_le p m.gs m.rest ‹World›
      split
      · rename_i m2 h2
        rw [h2] at this
        exact mLe.trans (Nat.le_trans hw this) (askOn_le p _)
      · rename_i e h2
        exact sLe.trans hw this
    · rename_i h
      have hw := run_ok h
      exact mLe.trans hw (askOn_le p _)
  · exact askOn_le p m
theorem move_le (p : Program) (m : Machine) : mLe m.world (move p m) := by
  unfold move
  split
  · split
    · exact Nat.le_refl _
    · trivial
  · split
    · split
      · exact Nat.le_refl _
      · exact ask_m_le p _
    · exact ask_m_le p m
theorem step_le (p : Program) (m : Machine) : sLe m.world (step p m) := by
  unfold step stepT
  have := move_le p m
  split
  · rename_i h
    rw [h] at this
    exact sLe.trans this (runT1_le p _ _ _)
  · rename_i h
    rw [h] at this
    exact this
theorem steps_le {p : Program} {m m' : Machine} (h : Steps p m m') : m.world.drawn ≤ m'.world.drawn := by
  obtain ⟨n, hn⟩ := h
  induction n generalizing m with
  | zero => simp only [runN, Stepped.next.injEq] at hn; subst hn; exact Nat.le_refl _
  | succ n ih =>
    simp only [runN] at hn
    have := step_le p m
    cases hs : step p m with
    | next m1 =>
      rw [hs] at hn this
      exact Nat.le_trans this (ih hn)
    | ended o w => rw [hs] at hn; cases hn
theorem calls_drawn {P : Program} {f : FuncId} {args : Array Value} {w : World} {R : Ending → World → Prop} (h : Calls P f args w R) : Calls P f args w fun e w' => R e w' ∧ (e ≠ .outgrown → w.drawn ≤ w'.drawn) := by
  intro cs
  obtain ⟨e, w', fr, hr, hc, hf, hl⟩ := h cs
  refine ⟨e, w', fr, ⟨hr, fun hne => ?_⟩, hc, hf, hl⟩
  cases e with
  | returned v => exact steps_le (p := P) hc
  | panicked c => exact steps_le (p := P) hc
  | outgrown => exact absurd rfl hne
end Go.Sx
end
section
namespace Go.Sx
open Go.RowKit Go.Shelf Go.Lib Go.Sort Go.Proofs
def valOf : SV → Value
  | .v x => x
  | _ => undef
def encK (k : Tag) (x : k.T) : List Value := (cellsOf k x).map valOf
def plainK (k : Tag) : Prop := ∀ (x : k.T) (s : SV), s ∈ cellsOf k x → ∃ v, s = .v v ∧ v.oneCell' = true
def srt {α : Type} (cf : α → α → Int) (l : List α) : List α := l.mergeSort fun x y => !(ltOf cf y x)
def apart {α : Type} (cf : α → α → Int) (l : List α) : Prop := ∀ x ∈ l, ∀ y ∈ l, ltOf cf x y = false → ltOf cf y x = false → x = y
theorem srt_unique {α : Type} [Inhabited α] {cf : α → α → Int} (hO : SWO (ltOf cf)) {l : List α} (h : apart cf l) {d' : Array α} (hp : PermIn 0 l.toArray.size l.toArray d') (hs : SortedIn (ltOf cf) 0 l.toArray.size d') : d' = (srt cf l).toArray := by
  obtain ⟨hsz, _, hperm⟩ := hp
  have e1 : d'.extract 0 l.toArray.size = d' := by rw [← hsz]; exact Array.extract_size
  rw [e1, Array.extract_size] at hperm
  have hperm : d'.toList.Perm l := by simpa using hperm
  have : d'.toList = srt cf l := by
    refine List.Perm.eq_of_pairwise (le := fun x y => (!ltOf cf y x) = true) ?_ ?_ ?_ (hperm.trans (List.mergeSort_perm _ _).symm)
    · intro a b ha hb h1 h2
      simp only [Bool.not_eq_true'] at h1 h2
      exact h a (hperm.subset ha) b ((List.mergeSort_perm _ _).subset hb) h2 h1
    · rw [List.pairwise_iff_getElem]
      intro i j hi hj hij
      have := hs i j (Nat.zero_le _) hij (by simp only [List.size_toArray] at hsz ⊢; simp only [Array.length_toList] at hj; omega)
      simp only [Array.length_toList] at hi hj
      rw [getElem!_pos d' i hi, getElem!_pos d' j hj] at this
      simpa using this
    · refine List.pairwise_mergeSort (fun a b c h1 h2 => ?_) (fun a b => ?_) l
      · simp only [Bool.not_eq_true'] at h1 h2 ⊢
        exact hO.ntrans c b a h2 h1
      · simp only [Bool.or_eq_true, Bool.not_eq_true']
        cases h1 : ltOf cf b a with
        | false => exact .inl rfl
        | true =>
          right
          cases h2 : ltOf cf a b with
          | false => rfl
          | true =>
            have h3 := hO.trans a b a h2 h1
            rw [hO.irrefl] at h3; cases h3
  rw [← this]
section
variable {P : Program} {ρ : Ren} {F : Nat → Prop} {own : Own} {w : World} {k : Tag}
theorem rowAt_enc (hk : plainK k) {l : List k.T} {o : Nat} {cs : Array Value} (h : RowAt F own w k l o cs) {i j : Nat} (hi : i < l.length) (hj : j < sizeOfTag k) : cs[o + i * sizeOfTag k + j]? = (encK k l[i])[j]? := by
  have e1 := List.getElem?_eq_getElem hi
  have hlen : j < (cellsOf k l[i]).length := by rw [cellsOf_length]; exact hj
  have e2 := List.getElem?_eq_getElem hlen
  obtain ⟨u, h1, h2⟩ := h i _ e1 j _ e2
  obtain ⟨v, h3, _⟩ := hk l[i] _ (List.getElem_mem hlen)
  rw [h1]
  unfold encK
  rw [List.getElem?_map, e2]
  rw [h3] at h2 ⊢
  rw [rel_v h2]
  rfl
theorem enc_rowAt (hk : plainK k) {l : List k.T} {o : Nat} {cs : Array Value} (h : ∀ i j, (hi : i < l.length) → j < sizeOfTag k → cs[o + i * sizeOfTag k + j]? = (encK k l[i])[j]?) : RowAt F own w k l o cs := by
  intro i x hi j s hj
  obtain ⟨hl, rfl⟩ := List.getElem?_eq_some_iff.1 hi
  have hlen := (List.getElem?_eq_some_iff.1 hj).1
  rw [cellsOf_length] at hlen
  have := h i j hl hlen
  unfold encK at this
  rw [List.getElem?_map, hj] at this
  obtain ⟨v, h3, _⟩ := hk _ s (List.mem_of_getElem? hj)
  subst h3
  exact ⟨v, this, .v v⟩
theorem grow_of {w w' : World} (hb : Go.RowKit.Below w.heap.size w w') (hd : w.drawn ≤ w'.drawn) : ∃ q os, w' = grow (w.drewN q) os := by
  refine ⟨w'.drawn - w.drawn, w'.heap.extract w.heap.size w'.heap.size, ?_⟩
  obtain ⟨h1, h2, h3, h4, h5⟩ := hb
  obtain ⟨heap, tape, drawn, os, output⟩ := w
  obtain ⟨heap', tape', drawn', os', output'⟩ := w'
  simp only at h1 h2 h3 h4 h5 hd
  subst h1; subst h2; subst h3
  unfold grow World.drewN
  simp only [World.mk.injEq, true_and, and_true]
  refine ⟨?_, by omega⟩
  apply Array.ext
  · simp; omega
  · intro i hi1 hi2
    by_cases hi : i < heap.size
    · rw [Array.getElem_append_left hi]
      have := h5 i hi
      rw [Array.getElem?_eq_getElem hi1, Array.getElem?_eq_getElem hi] at this
      exact Option.some.inj this
    · rw [Array.getElem_append_right (by omega)]
      simp only [Array.getElem_extract]
      congr 1; omega
end
end Go.Sx
end
section
namespace Go.Sx
open Go.RowKit Go.Shelf Go.Lib Go.Sort Go.Proofs
open Classical in
noncomputable def C_sortFunc (k : Tag) (g : FuncId) (caps : List SV) (cf : k.T → k.T → Int) : List SV → List Ob → Option HCon := fun l h =>
  rowC k (fun l0 => if l = [.os 0, .fn g [] caps] then some (retC (apart cf l0) (.tup []) [.row k (srt cf l0)]) else none) h
@[go_sem] theorem C_sortFunc_mk {k : Tag} {g : FuncId} {caps : List SV} {cf : k.T → k.T → Int} {l0 : List k.T} : C_sortFunc k g caps cf [.os 0, .fn g [] caps] [.row k l0] = some (retC (apart cf l0) (.tup []) [.row k (srt cf l0)]) := by
  simp [C_sortFunc, rowC]
section
variable {P : Program} {ρ : Ren} {k : Tag}
theorem heap_put {w : World} {b : Nat} {cs : Array Value} {ty : TypeId} (hb : w.heap[b]? = some (.cells cs ty (0, 0))) (D : Array Value) (o : Nat) : (putRow id w b o D).heap[b]? = some (.cells (putCells id o D cs) ty (0, 0)) := by
  unfold putRow mapBlock
  simp only [Array.getElem?_modify, if_true, hb]
  rfl
theorem heap_put_ne {w : World} {b c : Nat} (hc : c ≠ b) (D : Array Value) (o : Nat) : (putRow id w b o D).heap[c]? = w.heap[c]? := by
  unfold putRow mapBlock
  simp only [Array.getElem?_modify]
  rw [if_neg (fun e => hc e.symm)]
theorem putCells_get {D cs : Array Value} {o t : Nat} (ht : t < D.size) (hs : o + t < cs.size) : (putCells id o D cs)[o + t]? = D[t]? := by
  unfold putCells
  rw [Array.getElem?_mapIdx, Array.getElem?_eq_getElem hs]
  simp only [Option.map_some]
  rw [if_pos (by omega), Array.getElem?_eq_getElem ht]
  have : o + t - o = t := by omega
  rw [this, getElem!_pos D t ht]
  rfl
theorem flat_get {α : Type} [Inhabited α] {enc : α → List Value} {n : Nat} (hn : ∀ x, (enc x).length = n) {d : Array α} {i j : Nat} (hi : i < d.size) (hj : j < n) : (flatK enc n d)[i * n + j]? = (enc d[i]!)[j]? := by
  have hlt : i * n + j < d.size * n := by
    have := Nat.mul_le_mul_right n (show i + 1 ≤ d.size from hi)
    rw [Nat.succ_mul] at this; omega
  have h1 : i * n + j < (flatK enc n d).size := by rw [size_flatK]; exact hlt
  rw [Array.getElem?_eq_getElem h1, ← getElem!_pos (flatK enc n d) _ h1, get_flatK enc n d _ hlt]
  have hd : (i * n + j) / n = i := by
    rw [Nat.mul_comm, Nat.mul_add_div (by omega), Nat.div_eq_of_lt hj]; omega
  have hm : (i * n + j) % n = j := by
    rw [Nat.mul_comm, Nat.mul_add_mod, Nat.mod_eq_of_lt hj]
  rw [hd, hm]
  have hj' : j < (enc d[i]!).length := by rw [hn]; exact hj
  rw [List.getElem?_eq_getElem hj', getElem!_pos (enc d[i]!) j hj']
theorem sw_b {α : Type} [Inhabited α] {enc : α → List Value} {n b o m : Nat} {w : World} {cs : Array Value} {ty : TypeId} (hb : w.heap[b]? = some (.cells cs ty (0, 0))) (d : Array α) (os : Array Obj) : (sortWorldK enc n w b o m d os).heap[b]? = some (.cells (putCells id o (flatK enc n d) cs) ty (0, 0)) := by
  have hlt : b < w.heap.size := (Array.getElem?_eq_some_iff.1 hb).1
  unfold sortWorldK grow
  simp only
  rw [Array.getElem?_append_left (by unfold putRowK putRow mapBlock Sort.ahead; simpa using hlt)]
  exact heap_put (w := Sort.ahead w m) hb _ _
theorem sw_ne {α : Type} [Inhabited α] {enc : α → List Value} {n b o m c : Nat} {w : World} (hc : c < w.heap.size) (hne : c ≠ b) (d : Array α) (os : Array Obj) : (sortWorldK enc n w b o m d os).heap[c]? = w.heap[c]? := by
  unfold sortWorldK grow
  simp only
  rw [Array.getElem?_append_left (by unfold putRowK putRow mapBlock Sort.ahead; simpa using hc)]
  exact heap_put_ne (w := Sort.ahead w m) hne _ _
theorem sw_size {α : Type} [Inhabited α] {enc : α → List Value} {n b o m : Nat} {w : World} (d : Array α) (os : Array Obj) : w.heap.size ≤ (sortWorldK enc n w b o m d os).heap.size := by
  unfold sortWorldK grow putRowK putRow mapBlock Sort.ahead
  simp
theorem sortFunc_ok (L : SlLaysF0.n6 P ρ) (aE : ∀ w, (isAgg (ρ.t 24)).run P w = .ok true w) (zE : ∀ w, (Go.sizeOf (ρ.t 24)).run P w = .ok (sizeOfTag k) w) (hk : plainK k) (h0 : 0 < sizeOfTag k) {g : FuncId} {caps : List SV} {C : List SV → Option Con} (hC : FnOk P g C) {cf : k.T → k.T → Int}
    (hcf : ∀ x y, C (.agg (cellsOf k x) :: .agg (cellsOf k y) :: caps) = some (.det True (.v (.int .i64 (cf x y))))) (hO : SWO (ltOf cf)) (hpf : ∀ s ∈ caps, PF s) (hcf0 : ∃ x y, C (.agg (cellsOf k x) :: .agg (cellsOf k y) :: caps) = some (.det True (.v (.int .i64 (cf x y))))) : FnOkO P (ρ.f 6) (C_sortFunc k g caps cf) := by
  haveI : Inhabited k.T := ⟨dflt k⟩
  refine ⟨fun l h c hc args w => L.f6.enters rfl args w, fun l h c hc hp F own w vs hHp hvs => ?_⟩
  unfold C_sortFunc at hc
  obtain ⟨l0, hh, hK⟩ := rowC_inv hc
  clear hc
  subst hh
  by_cases hl : l = [.os 0, .fn g [] caps]
  rotate_left
  · rw [if_neg hl] at hK; cases hK
  rw [if_pos hl] at hK
  subst hl
  cases hK
  have hp : apart cf l0 := hp
  obtain ⟨hsz, hrel⟩ := hvs
  have r0 := hrel 0 _ rfl
  have r1 := hrel 1 _ rfl
  have hvs2 : vs = #[vs.getD 0 undef, vs.getD 1 undef] := by
    apply Array.ext
    · simpa using hsz
    · intro i h1 h2
      simp only [List.length_cons, List.length_nil] at hsz
      match i, h1, h2 with
      | 0, h1, _ => simp [Array.getD, h1]
      | 1, h1, _ => simp [Array.getD, h1]
      | i + 2, h1, _ => omega
  generalize vs.getD 0 undef = v0 at r0 hvs2
  generalize vs.getD 1 undef = v1 at r1 hvs2
  subst hvs2
  obtain ⟨hd, o0, rfl, _⟩ := rel_os r0
  obtain ⟨hd', o0', hrow⟩ := hHp.at (id := 0) (o := .row k l0) rfl rfl
  rw [o0] at o0'
  cases o0'
  have hrow : RowRel F own w k l0 hd.v hd.bs := hrow
  cases r1 with
  | @fn _ _ _ us cs s1 s2 c1 c2 =>
  have hus : us = #[] := Array.eq_empty_of_size_eq_zero (by simpa using s1)
  subst hus
  rcases hrow with ⟨a, e1, rfl, e2⟩ | ⟨b, o, cap, cells, ty, e1, e2, e3, e4, e5, e6, e7⟩
  · rw [e1]
    refine (AnyF.slices_SortFunc_none L a 0 _ w).mono fun e w' he => ?_
    obtain ⟨rfl, rfl⟩ := he
    refine ⟨(), own, trivial, ⟨_, rfl, .tup rfl fun j s hj => by simp at hj⟩, ?_, Fr.refl _, Nat.le_refl _⟩
    have : srt cf ([] : List k.T) = [] := by simp [srt]
    rw [this]
    exact hHp
  · have hbown : b ∈ hd.bs := by rw [e2]; simp
    have hbw : b < w.heap.size := hHp.lt 0 hd b o0 hbown
    have hkl : ∀ x : k.T, (encK k x).length = sizeOfTag k := fun x => by unfold encK; rw [List.length_map, cellsOf_length]
    have hone : ∀ x : k.T, ∀ v ∈ encK k x, v.oneCell' = true := fun x v hv => by
      unfold encK at hv
      rw [List.mem_map] at hv
      obtain ⟨s, hs, rfl⟩ := hv
      obtain ⟨v, rfl, h1⟩ := hk x s hs
      exact h1
    have eg : ∀ args w, (callFunc g args).run P w = .ok (.enter g args) w := fun args w => by
      obtain ⟨x, y, hxy⟩ := hcf0
      exact hC.enter _ _ hxy args w
    have hown : ∀ id h2, own id = some h2 → id = 0 := fun id h2 e => by have := hHp.dom id h2 e; simpa using this
    have hH : HoldsK (encK k) (sizeOfTag k) w b o l0.toArray := by
      intro t ht
      rw [size_flatK] at ht
      simp only [List.size_toArray] at ht
      have hi : t / sizeOfTag k < l0.length := Nat.div_lt_of_lt_mul (by rw [Nat.mul_comm]; exact ht)
      have hj := Nat.mod_lt t h0
      have ht' : t = t / sizeOfTag k * sizeOfTag k + t % sizeOfTag k := (Nat.div_add_mod' t _).symm
      have q1 := rowAt_enc hk e7 hi hj
      have q2 := flat_get (enc := encK k) hkl (d := l0.toArray) (i := t / sizeOfTag k) (j := t % sizeOfTag k) (by simpa using hi) hj
      rw [← ht'] at q2
      rw [Nat.add_assoc, ← ht'] at q1
      have hl0 : l0.toArray[t / sizeOfTag k]! = l0[t / sizeOfTag k] := by rw [getElem!_pos l0.toArray _ (by simpa using hi)]; rfl
      rw [hl0] at q2
      have hlt : t < (flatK (encK k) (sizeOfTag k) l0.toArray).size := by rw [size_flatK]; simpa using ht
      constructor
      · unfold World.cell?
        rw [e3]
        dsimp only
        rw [q1, ← q2, Array.getElem?_eq_getElem hlt, getElem!_pos _ t hlt]
        rfl
      · unfold World.frozen?
        rw [e3]
        simp
    have hcmp : CmpLays P g cs (encK k) (sizeOfTag k) cf b o l0.toArray.size w := by
      intro m os dk hdk x y
      generalize hW : sortWorldK (encK k) (sizeOfTag k) w b o m dk os = W
      have hcar : Carries F own w F own W := ⟨fun _ h2 e => ⟨h2, e, .refl _⟩, fun c hc hn => ⟨hn, by
        rw [← hW]
        exact sw_ne hc (fun e => hn (.inr ⟨0, hd, o0, e ▸ hbown⟩)) _ _⟩⟩
      have henc : ∀ z : k.T, Rel (fun _ => False) own0 W (.agg (cellsOf k z)) (.agg (encK k z).toArray) := fun z => by
        refine .agg (by simp [encK]) fun j s hj => ?_
        obtain ⟨v, rfl, _⟩ := hk z s (List.mem_of_getElem? hj)
        have : (encK k z).toArray.getD j undef = v := by
          unfold encK
          rw [Array.getD_eq_getD_getElem?, List.getElem?_toArray, List.getElem?_map, hj]
          rfl
        rw [this]; exact .v v
      have hcall := calls_drawn (hC.calls _ _ (hcf x y) trivial (fun _ => False) W (#[.agg (encK k x).toArray, .agg (encK k y).toArray] ++ cs) (fun _ h => h.elim) ⟨by simp [c1]; omega, fun j s hj => by
        match j, hj with
        | 0, hj =>
          cases hj
          rw [Array.getD_eq_getD_getElem?, Array.getElem?_append_left (by simp)]
          exact henc x
        | 1, hj =>
          cases hj
          rw [Array.getD_eq_getD_getElem?, Array.getElem?_append_left (by simp)]
          exact henc y
        | j + 2, hj =>
          have hj : caps[j]? = some s := hj
          have := ((c2 j s hj).carry hcar).over (hpf s (List.mem_of_getElem? hj)) (F' := fun _ => False) (own' := own0) fun _ _ h => by
            rcases h with h | ⟨_, _, h, _⟩
            · exact h
            · cases h
          have e : (#[Value.agg (encK k x).toArray, .agg (encK k y).toArray] ++ cs).getD (j + 2) undef = cs.getD j undef := by
            rw [Array.getD_eq_getD_getElem?, Array.getD_eq_getD_getElem?, Array.getElem?_append_right (by simp)]
            simp
          rw [e]; exact this⟩)
      refine hcall.mono fun e w' hq => ?_
      obtain ⟨he, hdr⟩ := hq
      rcases he with ⟨s, u, own', hs, rfl, hh, hb⟩ | ⟨z, hz, _⟩
      · simp only [conPost] at hs
        subst hs
        have := hh.val
        simp only [HandV] at this
        rw [rel_v this]
        exact ⟨rfl, grow_of hb (hdr (by simp))⟩
      · exact hz.elim
    have hall := AnyQ.slices_SortFunc L (sizeOfTag k) aE zE (encK k) hkl hone cf hO g cs b o cap l0.toArray w eg hcmp hH hbw (by unfold maxL at e6; simp only [List.size_toArray]; omega)
    rw [e1]
    refine hall.mono fun e w' he => ?_
    obtain ⟨rfl, d', n, os, hpm, hst, rfl⟩ := he
    have hd' := srt_unique hO hp hpm hst
    subst hd'
    have hlS : (srt cf l0).length = l0.length := List.length_mergeSort _
    generalize srt cf l0 = lS at hlS
    have hsb := sw_b (enc := encK k) (n := sizeOfTag k) (o := o) (m := n) e3 lS.toArray os
    refine ⟨(), own, trivial, ⟨_, rfl, .tup rfl fun j s hj => by simp at hj⟩, ?_, ?_, Nat.le_refl _⟩
    · refine ⟨hHp.dom, fun c hc => Nat.lt_of_lt_of_le (hHp.foreign c hc) (sw_size _ _), hHp.apart, hHp.inj, fun i h2 c e hc => Nat.lt_of_lt_of_le (hHp.lt i h2 c e hc) (sw_size _ _), fun i hi => ?_⟩
      match i, hi with
      | 0, _ =>
        refine ⟨hd, o0, ?_⟩
        show RowRel F own _ k lS hd.v hd.bs
        refine .inr ⟨b, o, cap, _, ty, by rw [hlS]; exact e1, e2, hsb, ?_, by omega, by omega, enc_rowAt hk fun i j hi hj => ?_⟩
        · unfold putCells; simpa using e4
        · have hlt : i * sizeOfTag k + j < (flatK (encK k) (sizeOfTag k) lS.toArray).size := by
            rw [size_flatK]
            have := Nat.mul_le_mul_right (sizeOfTag k) (show i + 1 ≤ lS.length from hi)
            rw [Nat.succ_mul] at this
            simp only [List.size_toArray]; omega
          have hle : o + (i * sizeOfTag k + j) < cells.size := by
            rw [size_flatK] at hlt
            simp only [List.size_toArray] at hlt
            have := Nat.mul_le_mul_right (sizeOfTag k) (show lS.length ≤ cap by omega)
            omega
          rw [Nat.add_assoc, putCells_get hlt hle, flat_get hkl (by simpa using hi) hj]
          have : lS.toArray[i]! = lS[i] := by rw [getElem!_pos lS.toArray _ (by simpa using hi)]; rfl
          rw [this]
      | i + 1, hi => rw [obAt_out (by simp)] at hi; cases hi
    · refine ⟨fun _ h2 e => ⟨h2, e, .refl _⟩, (Fr.refl { w := w, own := own }).base, rfl, rfl, rfl, sw_size _ _, fun c hc => ?_⟩
      exact sw_ne hc.1 (fun e => hc.2 ⟨0, hd, o0, e ▸ hbown⟩) _ _
end
end Go.Sx
end
section
namespace Go.Proofs
open Go.Shelf
def Tryz.sortL_ren : Go.Shelf.Ren := ⟨fun | 6 => 22 | 15 => 38 | 14 => 37 | 28 => 64 | 29 => 65 | 20 => 56 | 21 => 57 | 22 => 58 | 23 => 59 | 24 => 60 | 25 => 61 | 26 => 62 | 27 => 63 | 46 => 87 | 47 => 88 | 48 => 89 | 49 => 90 | 50 => 91 | 57 => 102 | n => n, fun | 22 => 32 | 24 => 46 | 25 => 70 | 3 => 3 | 39 => 92 | 0 => 0 | 53 => 112 | 55 => 114 | 4 => 4 | 46 => 106 | 45 => 105 | 50 => 67 | 5 => 5 | 9 => 9 | 66 => 140 | 70 => 144 | 76 => 152 | 77 => 153 | n => n, fun | n => n⟩
theorem Tryz.sortL : Go.Proofs.SlLaysF0.n6 Tryz.prog Tryz.sortL_ren := {
  mixed := by kernel_rfl
  f6 := ⟨Tryz.f22.name, by decide, Tryz.func22.trans (congrArg some (by kernel_rfl))⟩
  f14 := ⟨Tryz.f37.name, by decide, Tryz.func37.trans (congrArg some (by kernel_rfl))⟩
  f15 := Tryz.func38.trans (congrArg some (by kernel_rfl))
  f20 := ⟨Tryz.f56.name, by decide, Tryz.func56.trans (congrArg some (by kernel_rfl))⟩
  f21 := ⟨Tryz.f57.name, by decide, Tryz.func57.trans (congrArg some (by kernel_rfl))⟩
  f22 := ⟨Tryz.f58.name, by decide, Tryz.func58.trans (congrArg some (by kernel_rfl))⟩
  f23 := ⟨Tryz.f59.name, by decide, Tryz.func59.trans (congrArg some (by kernel_rfl))⟩
  f24 := ⟨Tryz.f60.name, by decide, Tryz.func60.trans (congrArg some (by kernel_rfl))⟩
  f25 := ⟨Tryz.f61.name, by decide, Tryz.func61.trans (congrArg some (by kernel_rfl))⟩
  f26 := ⟨Tryz.f62.name, by decide, Tryz.func62.trans (congrArg some (by kernel_rfl))⟩
  f27 := ⟨Tryz.f63.name, by decide, Tryz.func63.trans (congrArg some (by kernel_rfl))⟩
  f28 := Tryz.func64.trans (congrArg some (by kernel_rfl))
  f29 := Tryz.func65.trans (congrArg some (by kernel_rfl))
  f46 := ⟨Tryz.f87.name, by decide, Tryz.func87.trans (congrArg some (by kernel_rfl))⟩
  f47 := Tryz.func88.trans (congrArg some (by kernel_rfl))
  f48 := Tryz.func89.trans (congrArg some (by kernel_rfl))
  f49 := ⟨Tryz.f90.name, by decide, Tryz.func90.trans (congrArg some (by kernel_rfl))⟩
  f50 := ⟨Tryz.f91.name, by decide, Tryz.func91.trans (congrArg some (by kernel_rfl))⟩
  f57 := ⟨Tryz.f102.name, by decide, Tryz.func102.trans (congrArg some (by kernel_rfl))⟩
  t0 := Tryz.underlying0
  a0 := Tryz.isAgg0
  z0 := Tryz.sizeOf0
  v0 := Tryz.zeroValue0
  t3 := Tryz.underlying3
  a3 := Tryz.isAgg3
  z3 := Tryz.sizeOf3
  v3 := Tryz.zeroValue3
  t4 := Tryz.underlying4
  a4 := Tryz.isAgg4
  z4 := Tryz.sizeOf4
  v4 := Tryz.zeroValue4
  t5 := Tryz.underlying5
  a5 := Tryz.isAgg5
  z5 := Tryz.sizeOf5
  v5 := Tryz.zeroValue5
  t9 := Tryz.underlying9
  a9 := Tryz.isAgg9
  z9 := Tryz.sizeOf9
  v9 := Tryz.zeroValue9
  t22 := Tryz.underlying32
  a22 := Tryz.isAgg32
  z22 := Tryz.sizeOf32
  v22 := Tryz.zeroValue32
  t25 := Tryz.underlying70
  a25 := Tryz.isAgg70
  z25 := Tryz.sizeOf70
  v25 := Tryz.zeroValue70
  t39 := Tryz.underlying92
  a39 := Tryz.isAgg92
  z39 := Tryz.sizeOf92
  v39 := Tryz.zeroValue92
  t45 := Tryz.underlying105
  a45 := Tryz.isAgg105
  z45 := Tryz.sizeOf105
  v45 := Tryz.zeroValue105
  t46 := Tryz.underlying106
  a46 := Tryz.isAgg106
  z46 := Tryz.sizeOf106
  v46 := Tryz.zeroValue106
  t50 := Tryz.underlying67
  a50 := Tryz.isAgg67
  z50 := Tryz.sizeOf67
  v50 := Tryz.zeroValue67
  t53 := Tryz.underlying112
  a53 := Tryz.isAgg112
  z53 := Tryz.sizeOf112
  v53 := Tryz.zeroValue112
  t55 := Tryz.underlying114
  a55 := Tryz.isAgg114
  z55 := Tryz.sizeOf114
  v55 := Tryz.zeroValue114
  t66 := Tryz.underlying140
  a66 := Tryz.isAgg140
  z66 := Tryz.sizeOf140
  v66 := Tryz.zeroValue140
  t70 := Tryz.underlying144
  a70 := Tryz.isAgg144
  z70 := Tryz.sizeOf144
  v70 := Tryz.zeroValue144
  t76 := Tryz.underlying152
  a76 := Tryz.isAgg152
  z76 := Tryz.sizeOf152
  v76 := Tryz.zeroValue152
  t77 := Tryz.underlying153
  a77 := Tryz.isAgg153
  z77 := Tryz.sizeOf153
  v77 := Tryz.zeroValue153 }
end Go.Proofs
end
section
namespace Go.Sx
open Go.RowKit Go.Shelf Go.Lib Go.Sort Go.Proofs
set_option maxRecDepth 100000
noncomputable def C_SortFunc : List SV → List Ob → Option HCon := C_sortFunc .order 66 [.ep [keyFns] 0] routing_by_1
@[go_sem] theorem C_SortFunc_mk {l0 : List Order} : C_SortFunc [.os 0, .fn 66 [] [.ep [keyFns] 0]] [.row .order l0] = some (retC (apart routing_by_1 l0) (.tup []) [.row .order (srt routing_by_1 l0)]) := C_sortFunc_mk
theorem plain_order : plainK .order := fun x s hs => by
  simp only [cellsOf, List.mem_cons, List.not_mem_nil, or_false] at hs
  rcases hs with rfl | rfl | rfl | rfl
  all_goals exact ⟨_, rfl, rfl⟩
theorem by_con (x y : Order) : C_routing_by_1 (.agg (cellsOf .order x) :: .agg (cellsOf .order y) :: [.ep [keyFns] 0]) = some (.det True (.v (.int .i64 (routing_by_1 x y)))) := by
  simp only [go_sem, Nat.reduceBEq]
theorem ok_SortFunc : FnOkO Tryz.prog 22 C_SortFunc := by
  refine sortFunc_ok (k := .order) Tryz.sortL (fun w => by kernel_rfl) (fun w => by kernel_rfl) plain_order (by decide) (g := 66) (caps := [.ep [keyFns] 0]) ok_routing_by_1 (cf := routing_by_1) by_con swo_by (fun s hs => ?_) ⟨default, default, by_con _ _⟩
  simp only [List.mem_cons, List.not_mem_nil, or_false] at hs
  subst hs
  exact pf_of_noPtr 5 _ rfl
end Go.Sx
end
section
namespace Go.Sx
open Go.Proofs
set_option maxRecDepth 100000
@[go_sem] def C_slices_Clone : List SV → Option Con := pR .order fun l => pE (.det (l.length * 32 ≤ maxB) (.nw .order l))
theorem ok_slices_Clone : FnOk Tryz.prog 19 C_slices_Clone := by
  have hG : ConsOk Tryz.prog (mkG [] []) := mkG_ok cg0 cg0
  refine fn_okW [(.tmp 2, .order)] mixed ts_ok hG (fn := Tryz.f19) (c := bodyOf Tryz.f19) (by kernel_rfl) (by kernel_rfl) (by kernel_rfl) (by kernel_rfl) (pR_all fun l => pE_all fun hp => ?_)
  dsimp only [conPre] at hp
  refine ⟨Nat.le_of_ble_eq_true rfl, L0, loopsOk0 _, ?_⟩
  unfold bodyOf Tryz.f19
  simp only [go_sem, Nat.reduceBEq, Nat.reduceLeDiff, Nat.reduceAdd, Nat.reduceSub, Nat.reduceMul, Int.reduceLE, Int.reduceLT, Int.reduceToNat, Int.reduceNeg, reduceCtorEq]
  intro b hb
  refine ⟨fun h => ?_, fun _ => ⟨hp, fun _ => rfl⟩⟩
  have hl := hb h
  subst hl
  rfl
end Go.Sx
end
