/- Part of the proof that the law RoutingPlanSpec returns true and leaves its arguments as they were, for all arguments of bulk at most 1048576 (the Upto form). -/
import Derived.Test.YtfbcohfemignhaaGreatC110
import Derived.Test.YtfbcohfemignhaaGreatC107
import Derived.ChangeSame
import Derived.WideKeyArgs
import Derived.OpenShut
import Derived.Below
import Derived.Test.YtfbcohfemignhaaGreatRows
import Derived.WalkKit
import Derived.ProofKit
import Derived.JoinedCond
import Derived.Carry
set_option linter.all false
set_option maxHeartbeats 4000000
section
namespace Go.Sx
open Go.Proofs
section
variable {F : Nat → Prop} {own : Own} {w : World}
theorem agg_rel {k : Tag} {cs : Array Value} (h : RC F own w (kindsOf k) cs.toList) : ∃ x : k.T, Rel F own w (.agg (cellsOf k x)) (.agg cs) := by
  obtain ⟨l, h3, h4, h5⟩ := h
  refine ⟨mkE k l, ?_⟩
  rw [elemO_cells (k := k) (l := l) (x := mkE k l) (by unfold elemO; rw [h3]; rfl)]
  refine .agg (by simpa using h4.symm) fun j s hj => ?_
  have hlt : j < cs.size := by
    have := (List.getElem?_eq_some_iff.1 hj).1
    simpa [h4] using this
  exact h5 j s _ hj (by simp [Array.getD, hlt])
theorem sl_rel {k : Tag} {v : Value} (h : RC F own w [.r k] [v]) : ∃ l : List k.T, Rel F own w (.rs k l) v := by
  obtain ⟨l, h3, h4, h5⟩ := h
  obtain ⟨x, r, rfl, h6, h7⟩ := fits_cons h3
  have h8 := h5 0 x v rfl rfl
  cases x with
  | rs k' l' =>
    have : k = k' := by
      simp only [fit] at h6
      exact tagN_inj h6
    subst this
    exact ⟨l', h8⟩
  | _ => simp [fit] at h6
end
end Go.Sx
end
section
namespace Go.Sx
open Go.RowKit Go.WideShapes Go.ChangeShapes
section
variable {H : Type} {enc : TypeId × Value → H} {P : Program}
def okTs (P : Program) : List TypeId → Bool
  | [] => true
  | t :: r => P.readableRec t && Nat.blt t P.types.size && okTs P r
theorem all_stays (hl : laidOutB P = true) {W W' : World} (hg : Below W.heap.size W W') : ∀ {ts : List TypeId} {vs : List Value} {ds : List (DataW H)} {ps : List MemPlace}, okTs P ts = true →
    DataW.TrodAll enc P W 0 (fun _ => true) true ts vs ds ps → (∀ x ∈ ps, x.block < W.heap.size) → DataW.TrodAll enc P W' 0 (fun b => decide (b < W.heap.size)) true ts vs ds ps
  | [], vs, ds, ps, _, h, _ => by
    obtain ⟨rfl, rfl, rfl⟩ := trodAll_nil h
    exact trodAll_mk0
  | t :: ts, vs, ds, ps, hk, h, hlt => by
    unfold okTs at hk
    rw [Bool.and_eq_true, Bool.and_eq_true] at hk
    obtain ⟨v, vs', d, ds', p, q, rfl, rfl, rfl, h1, h2⟩ := trodAll_cons h
    refine trodAll_cons_mk (WideElems.Trod_stays hl hk.1.1 (by simpa [Nat.blt_eq] using hk.1.2) h1 (fun x hx => hg.same (hlt x (List.mem_append_left _ hx))) (fun x hx => by simpa using hlt x (List.mem_append_left _ hx))) ?_
    exact all_stays hl hg hk.2 h2 fun x hx => hlt x (List.mem_append_right _ hx)
theorem law_post (hl : laidOutB P = true) {f : Func} {s : ChangeSpec} {W W' : World} {args : Array Value} {ds gs : List (DataW H)} {before : List MemPlace} {t : TypeId}
    (hk : okTs P f.params.toList = true) (hW : DataW.Whole enc P f.params.toList s.vars false W args.toList ds gs before)
    (hr : f.resultTypes = #[t]) (ht : P.underlying t = some .bool) (hv : s.vars = []) (h1 : (s.fn H (ds ++ gs)).results = [.lit (.bool true)]) (h2 : (s.fn H (ds ++ gs)).args = ds) (h3 : (s.fn H (ds ++ gs)).vars = [])
    (hg : Below W.heap.size W W') : s.post enc P f false true false false W args (.bool true) W' := by
  have hlt := hW.lt
  have hW0 := hW
  obtain ⟨p, q, hA, hV, rfl, _, _⟩ := hW
  rw [hv] at hV
  obtain ⟨rfl, rfl⟩ := trodVars_none hV
  refine ⟨ds, [], p ++ [], [], p, [], hW0, ?_, ?_, ?_, ?_, fun h => by cases h⟩
  · rw [h1, hr]
    exact trodAll_cons_mk (shut_bool ht _) trodAll_mk0
  · rw [h2]
    exact all_stays hl hg hk hA fun x hx => hlt x (by simpa using hx)
  · rw [h3, hv]
    rfl
  · exact World.keptBut_mono (fun x hx => ⟨hx, .inr (.inl (by simpa using hx))⟩) (hg.frame (· ∈ p ++ []))
end
end Go.Sx
end
section
namespace Go.Proofs.YtfbcohfemignhaaGreat.bulks
theorem one_le {H : Type} (d : DataW H) : 1 ≤ Rows.uptoBulk d := by
  cases d with
  | lit l => cases l <;> simp [Rows.uptoBulk]
  | nil => simp [Rows.uptoBulk]
  | ptr d => simp [Rows.uptoBulk]
  | slice elems spare => simp [Rows.uptoBulk]
  | agg parts => simp [Rows.uptoBulk]
  | iface t d => simp [Rows.uptoBulk]
  | map entries => simp [Rows.uptoBulk]
  | held h => simp [Rows.uptoBulk]
theorem part_le {H : Type} {d : DataW H} {l : List (DataW H)} (h : d ∈ l) : Rows.uptoBulk d ≤ Rows.uptoBulkAll l := by
  induction l with
  | nil => cases h
  | cons x r ih =>
    simp only [Rows.uptoBulkAll]
    cases List.mem_cons.1 h with
    | inl e => subst e; omega
    | inr e => have := ih e; omega
theorem append {H : Type} (l r : List (DataW H)) : Rows.uptoBulkAll (l ++ r) = Rows.uptoBulkAll l + Rows.uptoBulkAll r := by
  induction l with
  | nil => simp [Rows.uptoBulkAll]
  | cons x l ih => simp only [List.cons_append, Rows.uptoBulkAll, ih]; omega
theorem length_le {H : Type} (l : List (DataW H)) : l.length ≤ Rows.uptoBulkAll l := by
  induction l with
  | nil => simp [Rows.uptoBulkAll]
  | cons x r ih => have := one_le x; simp only [Rows.uptoBulkAll, List.length_cons]; omega
theorem slice_le {H : Type} (elems spare : List (DataW H)) : elems.length + spare.length + 1 ≤ Rows.uptoBulk (.slice elems spare) := by
  have h1 := length_le elems
  have h2 := length_le spare
  simp only [Rows.uptoBulk]
  omega
theorem slice_elems {H : Type} (elems spare : List (DataW H)) : Rows.uptoBulkAll elems + 1 ≤ Rows.uptoBulk (.slice elems spare) := by
  simp only [Rows.uptoBulk]
  omega
theorem bound {H : Type} {l : List (DataW H)} (hk : Rows.uptoSmall H l = true) : Rows.uptoBulkAll l ≤ 1048576 := by
  simpa [Rows.uptoSmall] using hk
theorem room {n b : Nat} (hn : n ≤ 2097152) (hb : b ≤ 4096) : (n + n / 4 + 192) * b ≤ 281474976710656 := by
  have h : (n + n / 4 + 192) * b ≤ 2621632 * 4096 := Nat.mul_le_mul (by omega) hb
  omega
end Go.Proofs.YtfbcohfemignhaaGreat.bulks
end
section
namespace Go.Proofs.YtfbcohfemignhaaGreat.routingPlanSpec
open Go.ChangeShapes Go.WideShapes Go.ChangeAt Go.RowKit Go.Sx
set_option linter.unusedVariables false
theorem con_eq (x0 : Tag.district.T) (x1 : List Tag.order.T) : C_law22_RoutingPlanSpec [.agg (cellsOf .district x0), .rs .order x1] = some (.det (law22_RoutingPlanSpec_p x0 x1) (.v (.bool (law22_RoutingPlanSpec x0 x1)))) := by
  unfold C_law22_RoutingPlanSpec
  simp only [go_sem, Nat.reduceBEq]
theorem call_true {W : World} {cs0 : Array Value} (h0 : RC (fun _ => False) own0 W (kindsOf .district) cs0.toList) {v1 : Value} (h1 : RC (fun _ => False) own0 W [.r .order] [v1]) :
    Calls Tryz.prog 3 #[.agg cs0, v1] W (fun e W' => e = .returned (.bool true) ∧ Below W.heap.size W W') := by
  obtain ⟨x0, r0⟩ := agg_rel h0
  obtain ⟨x1, r1⟩ := sl_rel h1
  refine (ok_law22_RoutingPlanSpec.calls _ _ (con_eq x0 x1) (pspec_p x0 x1 ) (fun _ => False) W _ (fun b h => h.elim) ⟨rfl, fun j s hj => ?_⟩).mono fun e W' he => ?_
  · match j, hj with
    | 0, hj => cases hj; exact r0
    | 1, hj => cases hj; exact r1
  · rcases he with ⟨s, u, own', hs, rfl, hh, hb⟩ | ⟨x, hx, _⟩
    · simp only [conPost] at hs
      subst hs
      rw [pspec_t x0 x1 ] at hh
      have := hh.val
      simp only [HandV] at this
      rw [rel_v this]
      exact ⟨rfl, hb⟩
    · exact hx.elim
theorem own : ownKnob Tryz.prog.godebug = none := by kernel_rfl
theorem small (H : Type) : Small (fun d : DataW H => Rows.uptoBulk d ≤ 1048576) where
  agg l h d hd := by
    have h1 := bulks.part_le hd
    simp only [Rows.uptoBulk] at h
    omega
  slice l m h := by
    have h1 := bulks.slice_le l m
    have h2 := bulks.slice_elems l m
    refine ⟨by unfold maxL; omega, fun d hd => ?_⟩
    have := bulks.part_le hd
    omega
theorem laid : laidOutB Tryz.prog = true := by kernel_rfl
set_option maxRecDepth 100000 in
theorem contract (H : Type) (enc : TypeId × Value → H) (W : World) (base : Nat) (args : Array Value) (ds gs : List (DataW H)) (before : List MemPlace)
    (hval : ∀ (j : Nat) t v, Tryz.f3.params[j]? = some t → args[j]? = some v → Value.okWide Tryz.prog W .any base t v)
    (hW : DataW.Whole enc Tryz.prog Tryz.f3.params.toList Rows.routingPlanSpecSpec.vars false W args.toList ds gs before) (hk : Rows.uptoSmall H (ds ++ gs) = true) :
    Calls Tryz.prog 3 args W fun e W' => ∃ v, e = .returned v ∧ Rows.routingPlanSpecSpec.post enc Tryz.prog Tryz.f3 false true false false W args v W' := by
  have hW' := hW
  obtain ⟨p, q, hA0, hV, rfl, hfz, hnd⟩ := hW
  have hA : DataW.TrodAll enc Tryz.prog W 0 (fun _ => true) true Tryz.f3.params.toList args.toList ds p := hA0
  rw [Tryz.params3] at hA hval
  obtain ⟨v0, vs0, d0, ds0, p0, q0, hargs, rfl, rfl, h0, r0⟩ := trodAll_cons hA
  obtain ⟨v1, vs1, d1, ds1, p1, q1, rfl, rfl, rfl, h1, r1⟩ := trodAll_cons r0
  obtain ⟨rfl, rfl, rfl⟩ := trodAll_nil r1
  obtain rfl : args = #[v0, v1] := by cases args; simp_all
  obtain ⟨rfl, rfl⟩ := trodVars_none hV
  have hb := bulks.bound hk
  simp only [Rows.uptoBulkAll, List.append_nil, List.cons_append, List.nil_append] at hb
  have ho : ∀ b, ¬ ownB (fun _ => False) own0 b := fun b h => by
    rcases h with h | ⟨_, _, h, _⟩
    · exact h
    · cases h
  have s0 : ∃ cs, v0 = .agg cs := by
    have := hval 0 31 v0 rfl rfl
    simp only [Value.okWide, Tryz.underlying31] at this
    exact ⟨_, this.choose_spec.1⟩
  obtain ⟨cs0, rfl⟩ := s0
  obtain ⟨a1, l1, c1, rfl⟩ := okWide_slice Tryz.underlying32 (hval 1 32 v1 rfl rfl)
  have R0 : RC (fun _ => False) own0 W (kindsOf .district) cs0.toList := by
    obtain ⟨f, hf⟩ := h0
    exact kinds_read (n := 6) (t := 31) (small H) ho _ (by kernel_rfl) f _ _ hf (by show Rows.uptoBulk d0 ≤ _; omega)
  have R1 : RC (fun _ => False) own0 W [.r .order] [.slice a1 l1 c1] := by
    obtain ⟨f, hf⟩ := h1
    exact kinds_read (n := 6) (t := 32) (small H) ho _ (by kernel_rfl) f _ _ hf (by show Rows.uptoBulk d1 ≤ _; omega)
  refine (call_true R0 R1).mono fun e W' ⟨he, hg⟩ => ?_
  subst he
  exact ⟨_, rfl, law_post laid (by kernel_rfl) hW' (by kernel_rfl) Tryz.underlying4 rfl rfl rfl rfl hg⟩
def zeroV : Kd → Value
  | .n k => .int k 0
  | .b => .bool false
  | .s => .string (ByteArray.mk #[])
  | .r _ => .slice none 0 0
  | .m _ _ => .map none
def wit : Array Value := #[.agg ((kindsOf .district).map zeroV).toArray, .slice none 0 0]
set_option maxRecDepth 100000 in
theorem lifted (os : Os) (started : os.Started) (H : Type) (enc : TypeId × Value → H) (F : Stop.Interp) :
    ReturnsInHanded {} Tryz.checked os 3 .any ((Rows.OpenSpec.upto Rows.routingPlanSpecSpec).pre6 enc Tryz.prog Tryz.f3 Rows.routingPlanSpecUptoRow.domain false) (((Rows.OpenSpec.upto Rows.routingPlanSpecSpec).at F).post enc Tryz.prog Tryz.f3 false true false false) := by
  refine returnsInHanded_of_cond (C := Tryz.checked) (s := Rows.OpenSpec.upto Rows.routingPlanSpecSpec) (k := Rows.uptoSmall) rfl own started (by kernel_rfl) Tryz.func3
    (OpenSpec.witness (enc := enc) (C := Tryz.checked) (s := Rows.OpenSpec.upto Rows.routingPlanSpecSpec) (k := Rows.uptoSmall) rfl false ⟨#[], wit, []⟩ 8 (by kernel_rfl) (by kernel_rfl) (by kernel_rfl)
      (x := (DataW.whole enc Tryz.prog (World.plainHolding Tryz.prog os ⟨#[], wit, []⟩).memory Tryz.f3.params.toList Rows.routingPlanSpecSpec.vars false wit.toList 8).getD ([], [], [])) (by kernel_rfl) rfl (by kernel_rfl)) ?_
  intro W base args ds gs before hval hW _ hk _
  exact contract H enc W base args ds gs before hval hW hk
theorem over : Rows.routingPlanSpecUptoRow.holds Tryz.pinned (Rows.OpenSpec.upto Rows.routingPlanSpecSpec) :=
  OpenClaim.holds_of_cond 3 Tryz.f3 rfl rfl rfl rfl rfl rfl rfl ⟨rfl, rfl, rfl, rfl, rfl⟩ rfl rfl rfl rfl rfl (by kernel_rfl) Tryz.func3 (by kernel_rfl)
    (of_decide_eq_true (by kernel_rfl)) (by unfold Func.isWrapper; first | (rw [if_pos (by decide +kernel)]; kernel_rfl) | (rw [if_neg (by decide +kernel)]; exact ⟨rfl, rfl⟩))
    (fun os started H enc _ F => lifted os started H enc F)
theorem proved : Rows.RoutingPlanSpecUptoSaid := over
end Go.Proofs.YtfbcohfemignhaaGreat.routingPlanSpec
end
