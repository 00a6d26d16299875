/- Part of the proof that the law RoutingTogether returns true and leaves its arguments as they were, for all arguments of bulk at most 1048576 (the Upto form). -/
import Derived.Test.YtkblpdepdncnmaaL2411
import Derived.Test.YtkblpdepdncnmaaRows
import Derived.WalkKit
import Derived.ProofKit
import Derived.OpenShut
import Derived.JoinedCond
import Derived.Below
import Derived.ChangeSame
import Derived.Carry
set_option linter.all false
section
namespace Go.Proofs.Ytkblpdepdncnmaa.routingTogether
open Go.ChangeShapes Go.WideShapes Go.ChangeAt Go.RowKit Go.Sx
set_option linter.unusedVariables false
theorem con_eq (x0 : Tag.district.T) (x1 : List Tag.order.T) (x2 : List Tag.u8.T) : C_law22_RoutingTogether [.agg (cellsOf .district x0), .rs .order x1, .rs .u8 x2] = some (.det (law22_RoutingTogether_p x0 x1 x2) (.v (.bool (law22_RoutingTogether x0 x1 x2)))) := by
  unfold C_law22_RoutingTogether
  simp only [go_sem, Nat.reduceBEq]
theorem call_true {W : World} {cs0 : Array Value} (h0 : RC (fun _ => False) own0 W (kindsOf .district) cs0.toList) {v1 : Value} (h1 : RC (fun _ => False) own0 W [.r .order] [v1]) {v2 : Value} (h2 : RC (fun _ => False) own0 W [.r .u8] [v2]) (u2 : ∀ l : List Tag.u8.T, Rel (fun _ => False) own0 W (.rs .u8 l) v2 → ∀ y ∈ l, (0 : Int) ≤ y ∧ y ≤ 255) :
    Calls Try.prog 5 #[.agg cs0, v1, v2] W (fun e W' => e = .returned (.bool true) ∧ Below W.heap.size W W') := by
  obtain ⟨x0, r0⟩ := agg_rel h0
  obtain ⟨x1, r1⟩ := sl_rel h1
  obtain ⟨x2, r2⟩ := sl_rel h2
  refine (ok_law22_RoutingTogether.calls _ _ (con_eq x0 x1 x2) (together_p x0 x1 x2 (u2 x2 r2)) (fun _ => False) W _ (fun b h => h.elim) ⟨rfl, fun j s hj => ?_⟩).mono fun e W' he => ?_
  · match j, hj with
    | 0, hj => cases hj; exact r0
    | 1, hj => cases hj; exact r1
    | 2, hj => cases hj; exact r2
  · rcases he with ⟨s, u, own', hs, rfl, hh, hb⟩ | ⟨x, hx, _⟩
    · simp only [conPost] at hs
      subst hs
      rw [together_t x0 x1 x2 (u2 x2 r2)] at hh
      have := hh.val
      simp only [HandV] at this
      rw [rel_v this]
      exact ⟨rfl, hb⟩
    · exact hx.elim
theorem own : ownKnob Try.prog.godebug = none := by kernel_rfl
theorem small (H : Type) : Small (fun d : DataW H => Rows.uptoBulk d ≤ 1048576) where
  agg l h d hd := by
    have h1 := bulks.part_le hd
    simp only [Rows.uptoBulk] at h
    omega
  slice l m h := by
    have h1 := bulks.slice_le l m
    have h2 := bulks.slice_elems l m
    refine ⟨by unfold maxL; omega, fun d hd => ?_⟩
    have := bulks.part_le hd
    omega
theorem laid : laidOutB Try.prog = true := by kernel_rfl
set_option maxRecDepth 100000 in
theorem contract (H : Type) (enc : TypeId × Value → H) (W : World) (base : Nat) (args : Array Value) (ds gs : List (DataW H)) (before : List MemPlace)
    (hval : ∀ (j : Nat) t v, Try.f5.params[j]? = some t → args[j]? = some v → Value.okWide Try.prog W .any base t v)
    (hW : DataW.Whole enc Try.prog Try.f5.params.toList Rows.routingTogetherSpec.vars false W args.toList ds gs before) (hk : Rows.uptoSmall H (ds ++ gs) = true) :
    Calls Try.prog 5 args W fun e W' => ∃ v, e = .returned v ∧ Rows.routingTogetherSpec.post enc Try.prog Try.f5 false true false false W args v W' := by
  have hW' := hW
  obtain ⟨p, q, hA0, hV, rfl, hfz, hnd⟩ := hW
  have hA : DataW.TrodAll enc Try.prog W 0 (fun _ => true) true Try.f5.params.toList args.toList ds p := hA0
  rw [Try.params5] at hA hval
  obtain ⟨v0, vs0, d0, ds0, p0, q0, hargs, rfl, rfl, h0, r0⟩ := trodAll_cons hA
  obtain ⟨v1, vs1, d1, ds1, p1, q1, rfl, rfl, rfl, h1, r1⟩ := trodAll_cons r0
  obtain ⟨v2, vs2, d2, ds2, p2, q2, rfl, rfl, rfl, h2, r2⟩ := trodAll_cons r1
  obtain ⟨rfl, rfl, rfl⟩ := trodAll_nil r2
  obtain rfl : args = #[v0, v1, v2] := by cases args; simp_all
  obtain ⟨rfl, rfl⟩ := trodVars_none hV
  have hb := bulks.bound hk
  simp only [Rows.uptoBulkAll, List.append_nil, List.cons_append, List.nil_append] at hb
  have ho : ∀ b, ¬ ownB (fun _ => False) own0 b := fun b h => by
    rcases h with h | ⟨_, _, h, _⟩
    · exact h
    · cases h
  have s0 : ∃ cs, v0 = .agg cs := by
    have := hval 0 31 v0 rfl rfl
    simp only [Value.okWide, Try.underlying31] at this
    exact ⟨_, this.choose_spec.1⟩
  obtain ⟨cs0, rfl⟩ := s0
  obtain ⟨a1, l1, c1, rfl⟩ := okWide_slice Try.underlying32 (hval 1 32 v1 rfl rfl)
  obtain ⟨a2, l2, c2, rfl⟩ := okWide_slice Try.underlying51 (hval 2 51 v2 rfl rfl)
  have R0 : RC (fun _ => False) own0 W (kindsOf .district) cs0.toList := by
    obtain ⟨f, hf⟩ := h0
    exact kinds_read (n := 6) (t := 31) (small H) ho _ (by kernel_rfl) f _ _ hf (by show Rows.uptoBulk d0 ≤ _; omega)
  have R1 : RC (fun _ => False) own0 W [.r .order] [.slice a1 l1 c1] := by
    obtain ⟨f, hf⟩ := h1
    exact kinds_read (n := 6) (t := 32) (small H) ho _ (by kernel_rfl) f _ _ hf (by show Rows.uptoBulk d1 ≤ _; omega)
  have U2 : ∀ l : List Tag.u8.T, Rel (fun _ => False) own0 W (.rs .u8 l) (.slice a2 l2 c2) → ∀ y ∈ l, (0 : Int) ≤ y ∧ y ≤ 255 := by
    obtain ⟨f, hf⟩ := h2
    exact u8_range Try.underlying51 Try.underlying5 (by kernel_rfl) hf
  have R2 : RC (fun _ => False) own0 W [.r .u8] [.slice a2 l2 c2] := by
    obtain ⟨f, hf⟩ := h2
    exact kinds_read (n := 6) (t := 51) (small H) ho _ (by kernel_rfl) f _ _ hf (by show Rows.uptoBulk d2 ≤ _; omega)
  refine (call_true R0 R1 R2 U2).mono fun e W' ⟨he, hg⟩ => ?_
  subst he
  exact ⟨_, rfl, law_post laid (by kernel_rfl) hW' (by kernel_rfl) Try.underlying4 rfl rfl rfl rfl hg⟩
def zeroV : Kd → Value
  | .n k => .int k 0
  | .b => .bool false
  | .s => .string (ByteArray.mk #[])
  | .r _ => .slice none 0 0
  | .m _ _ => .map none
def wit : Array Value := #[.agg ((kindsOf .district).map zeroV).toArray, .slice none 0 0, .slice none 0 0]
set_option maxRecDepth 100000 in
theorem lifted (os : Os) (started : os.Started) (H : Type) (enc : TypeId × Value → H) (F : Stop.Interp) :
    ReturnsInHanded {} Try.checked os 5 .any ((Rows.OpenSpec.upto Rows.routingTogetherSpec).pre6 enc Try.prog Try.f5 Rows.routingTogetherUptoRow.domain false) (((Rows.OpenSpec.upto Rows.routingTogetherSpec).at F).post enc Try.prog Try.f5 false true false false) := by
  refine returnsInHanded_of_cond (C := Try.checked) (s := Rows.OpenSpec.upto Rows.routingTogetherSpec) (k := Rows.uptoSmall) rfl own started (by kernel_rfl) Try.func5
    (OpenSpec.witness (enc := enc) (C := Try.checked) (s := Rows.OpenSpec.upto Rows.routingTogetherSpec) (k := Rows.uptoSmall) rfl false ⟨#[], wit, []⟩ 8 (by kernel_rfl) (by kernel_rfl) (by kernel_rfl)
      (x := (DataW.whole enc Try.prog (World.plainHolding Try.prog os ⟨#[], wit, []⟩).memory Try.f5.params.toList Rows.routingTogetherSpec.vars false wit.toList 8).getD ([], [], [])) (by kernel_rfl) rfl (by kernel_rfl)) ?_
  intro W base args ds gs before hval hW _ hk _
  exact contract H enc W base args ds gs before hval hW hk
theorem over : Rows.routingTogetherUptoRow.holds Try.pinned (Rows.OpenSpec.upto Rows.routingTogetherSpec) :=
  OpenClaim.holds_of_cond 5 Try.f5 rfl rfl rfl rfl rfl rfl rfl ⟨rfl, rfl, rfl, rfl, rfl⟩ rfl rfl rfl rfl rfl (by kernel_rfl) Try.func5 (by kernel_rfl)
    (of_decide_eq_true (by kernel_rfl)) (by unfold Func.isWrapper; first | (rw [if_pos (by decide +kernel)]; kernel_rfl) | (rw [if_neg (by decide +kernel)]; exact ⟨rfl, rfl⟩))
    (fun os started H enc _ F => lifted os started H enc F)
theorem proved : Rows.RoutingTogetherUptoSaid := over
end Go.Proofs.Ytkblpdepdncnmaa.routingTogether
end
