/-
  No cell of these rows narrows 'for every input' (looked for: loops, veiled, ifaces, maps, wideKeys, modest, calm, conditions, laid).
  DERIVED. THE GIVEN ROWS OF THIS SEAT. 7 by the template 'for every input the law returns true; each argument reads behind the call as it read before'; 0 by the template 'total and deterministic' (their statements: YtnanafpgfihjfaaGreatTotals.lean).
  GIVEN WITH THE SEED: the statements are not yours to turn. If you find one false, say at which input.
  Laid BY PROGRAM, IN A SANDBOX (cutbox-rows.mjs): the forced cells as the released guide's own fill.sh prints them over the translation c510dfa0318d7eea… (all of the seat's roots in one cut). By AI agents, Wed Nov 11 2026. No macro, syntax, notation, axiom, sorry.
-/
import Derived.Test.YtnanafpgfihjfaaGreatChecked
import GoSem.Claim
import GoSem.ClaimJoined
import GoSem.ClaimMapViews
import Derived.JoinedTies
import Derived.KernelRfl
namespace Go.Proofs.YtnanafpgfihjfaaGreat
/- THE CELL 'sum', in the pinned program and in every row, IS THE sha256 OF THE DUMP (.gsa) THAT YtnanafpgfihjfaaGreatProg.lean LOADS. Nothing in Lean hashes anything: it is a label: what it is worth is what the hold of that sum in a sandbox is worth. -/
noncomputable def Tryz.pinned : Pinned := { name := "ytnanafpgfihjfaagreat", sum := "c510dfa0318d7eeaf776cc4d5bd2eec75c38e7bb814e9153bb3705f51a9fac91", checked := Tryz.checked }
namespace Rows
def none {H : Type} : Left H := { results := [], args := [] }

/-- 'acequialaw53.JudgementSpec': WHATEVER THE INPUT: true; the input reads as it did. -/
def judgementSpecSpec : ChangeSpec := { name := "judgementSpec", fn := fun _ => fun
  | [d1, d2, d3, d4] => { results := [.lit (.bool true)], args := [d1, d2, d3, d4] }
  | _ => none }
def judgementSpecRow : OpenClaim := { program := "ytnanafpgfihjfaagreat", sum := "c510dfa0318d7eeaf776cc4d5bd2eec75c38e7bb814e9153bb3705f51a9fac91", func := "acequia/acequialaw53.JudgementSpec", spec := "judgementSpec", unfollowed := true, recurses := true, plainKeys := false, apart := false }
def JudgementSpecSaid : Prop := judgementSpecRow.holds Tryz.pinned (OpenSpec.ofChange judgementSpecSpec)

/-- ITS FALSE NEIGHBOUR: 'it returns false'. Refute it at one input. -/
def judgementSpecWrong : ChangeSpec := { name := "judgementSpec", fn := fun _ => fun
  | [d1, d2, d3, d4] => { results := [.lit (.bool false)], args := [d1, d2, d3, d4] }
  | _ => none }
def JudgementSpecWrongFalsely : Prop := judgementSpecRow.holds Tryz.pinned (OpenSpec.ofChange judgementSpecWrong)

/-- 'acequialaw53.JudgementSitSpec': WHATEVER THE INPUT: true; the input reads as it did. -/
def judgementSitSpecSpec : ChangeSpec := { name := "judgementSitSpec", fn := fun _ => fun
  | [d1, d2] => { results := [.lit (.bool true)], args := [d1, d2] }
  | _ => none }
def judgementSitSpecRow : OpenClaim := { program := "ytnanafpgfihjfaagreat", sum := "c510dfa0318d7eeaf776cc4d5bd2eec75c38e7bb814e9153bb3705f51a9fac91", func := "acequia/acequialaw53.JudgementSitSpec", spec := "judgementSitSpec", unfollowed := true, recurses := true, plainKeys := false, apart := false }
def JudgementSitSpecSaid : Prop := judgementSitSpecRow.holds Tryz.pinned (OpenSpec.ofChange judgementSitSpecSpec)

/-- ITS FALSE NEIGHBOUR: 'it returns false'. Refute it at one input. -/
def judgementSitSpecWrong : ChangeSpec := { name := "judgementSitSpec", fn := fun _ => fun
  | [d1, d2] => { results := [.lit (.bool false)], args := [d1, d2] }
  | _ => none }
def JudgementSitSpecWrongFalsely : Prop := judgementSitSpecRow.holds Tryz.pinned (OpenSpec.ofChange judgementSitSpecWrong)

/-- 'acequialaw53.JudgementDate': WHATEVER THE INPUT: true; the input reads as it did. -/
def judgementDateSpec : ChangeSpec := { name := "judgementDate", fn := fun _ => fun
  | [d1, d2, d3, d4] => { results := [.lit (.bool true)], args := [d1, d2, d3, d4] }
  | _ => none }
def judgementDateRow : OpenClaim := { program := "ytnanafpgfihjfaagreat", sum := "c510dfa0318d7eeaf776cc4d5bd2eec75c38e7bb814e9153bb3705f51a9fac91", func := "acequia/acequialaw53.JudgementDate", spec := "judgementDate", unfollowed := true, recurses := true, plainKeys := false, apart := false }
def JudgementDateSaid : Prop := judgementDateRow.holds Tryz.pinned (OpenSpec.ofChange judgementDateSpec)

/-- ITS FALSE NEIGHBOUR: 'it returns false'. Refute it at one input. -/
def judgementDateWrong : ChangeSpec := { name := "judgementDate", fn := fun _ => fun
  | [d1, d2, d3, d4] => { results := [.lit (.bool false)], args := [d1, d2, d3, d4] }
  | _ => none }
def JudgementDateWrongFalsely : Prop := judgementDateRow.holds Tryz.pinned (OpenSpec.ofChange judgementDateWrong)

/-- 'acequialaw53.JudgementEnded': WHATEVER THE INPUT: true; the input reads as it did. -/
def judgementEndedSpec : ChangeSpec := { name := "judgementEnded", fn := fun _ => fun
  | [d1, d2, d3, d4, d5] => { results := [.lit (.bool true)], args := [d1, d2, d3, d4, d5] }
  | _ => none }
def judgementEndedRow : OpenClaim := { program := "ytnanafpgfihjfaagreat", sum := "c510dfa0318d7eeaf776cc4d5bd2eec75c38e7bb814e9153bb3705f51a9fac91", func := "acequia/acequialaw53.JudgementEnded", spec := "judgementEnded", unfollowed := true, recurses := true, plainKeys := false, apart := false }
def JudgementEndedSaid : Prop := judgementEndedRow.holds Tryz.pinned (OpenSpec.ofChange judgementEndedSpec)

/-- ITS FALSE NEIGHBOUR: 'it returns false'. Refute it at one input. -/
def judgementEndedWrong : ChangeSpec := { name := "judgementEnded", fn := fun _ => fun
  | [d1, d2, d3, d4, d5] => { results := [.lit (.bool false)], args := [d1, d2, d3, d4, d5] }
  | _ => none }
def JudgementEndedWrongFalsely : Prop := judgementEndedRow.holds Tryz.pinned (OpenSpec.ofChange judgementEndedWrong)

/-- 'acequialaw53.JudgementRight': WHATEVER THE INPUT: true; the input reads as it did. -/
def judgementRightSpec : ChangeSpec := { name := "judgementRight", fn := fun _ => fun
  | [d1, d2, d3, d4] => { results := [.lit (.bool true)], args := [d1, d2, d3, d4] }
  | _ => none }
def judgementRightRow : OpenClaim := { program := "ytnanafpgfihjfaagreat", sum := "c510dfa0318d7eeaf776cc4d5bd2eec75c38e7bb814e9153bb3705f51a9fac91", func := "acequia/acequialaw53.JudgementRight", spec := "judgementRight", unfollowed := true, recurses := true, plainKeys := false, apart := false }
def JudgementRightSaid : Prop := judgementRightRow.holds Tryz.pinned (OpenSpec.ofChange judgementRightSpec)

/-- ITS FALSE NEIGHBOUR: 'it returns false'. Refute it at one input. -/
def judgementRightWrong : ChangeSpec := { name := "judgementRight", fn := fun _ => fun
  | [d1, d2, d3, d4] => { results := [.lit (.bool false)], args := [d1, d2, d3, d4] }
  | _ => none }
def JudgementRightWrongFalsely : Prop := judgementRightRow.holds Tryz.pinned (OpenSpec.ofChange judgementRightWrong)

/-- 'acequialaw53.JudgementClash': WHATEVER THE INPUT: true; the input reads as it did. -/
def judgementClashSpec : ChangeSpec := { name := "judgementClash", fn := fun _ => fun
  | [d1, d2] => { results := [.lit (.bool true)], args := [d1, d2] }
  | _ => none }
def judgementClashRow : OpenClaim := { program := "ytnanafpgfihjfaagreat", sum := "c510dfa0318d7eeaf776cc4d5bd2eec75c38e7bb814e9153bb3705f51a9fac91", func := "acequia/acequialaw53.JudgementClash", spec := "judgementClash", unfollowed := true, recurses := true, plainKeys := false, apart := false }
def JudgementClashSaid : Prop := judgementClashRow.holds Tryz.pinned (OpenSpec.ofChange judgementClashSpec)

/-- ITS FALSE NEIGHBOUR: 'it returns false'. Refute it at one input. -/
def judgementClashWrong : ChangeSpec := { name := "judgementClash", fn := fun _ => fun
  | [d1, d2] => { results := [.lit (.bool false)], args := [d1, d2] }
  | _ => none }
def JudgementClashWrongFalsely : Prop := judgementClashRow.holds Tryz.pinned (OpenSpec.ofChange judgementClashWrong)

/-- 'acequialaw53.JudgementServed': WHATEVER THE INPUT: true; the input reads as it did. -/
def judgementServedSpec : ChangeSpec := { name := "judgementServed", fn := fun _ => fun
  | [d1, d2, d3] => { results := [.lit (.bool true)], args := [d1, d2, d3] }
  | _ => none }
def judgementServedRow : OpenClaim := { program := "ytnanafpgfihjfaagreat", sum := "c510dfa0318d7eeaf776cc4d5bd2eec75c38e7bb814e9153bb3705f51a9fac91", func := "acequia/acequialaw53.JudgementServed", spec := "judgementServed", unfollowed := true, recurses := true, plainKeys := false, apart := false }
def JudgementServedSaid : Prop := judgementServedRow.holds Tryz.pinned (OpenSpec.ofChange judgementServedSpec)

/-- ITS FALSE NEIGHBOUR: 'it returns false'. Refute it at one input. -/
def judgementServedWrong : ChangeSpec := { name := "judgementServed", fn := fun _ => fun
  | [d1, d2, d3] => { results := [.lit (.bool false)], args := [d1, d2, d3] }
  | _ => none }
def JudgementServedWrongFalsely : Prop := judgementServedRow.holds Tryz.pinned (OpenSpec.ofChange judgementServedWrong)

/- THE SECOND FORM. 'bulk': how many values and letters a reading holds, each counted each time it is reached (what is shared counts as often as it is met; a slice's spare places count too). A statement '..UptoSaid' is the law's where the arguments, and the package variables that the reading takes, are together of bulk at most 1048576: NARROWER than '..Said'. Prove '..Said' where nothing that the law and all that it calls make is longer than what came in: it says more and counts as full. Else prove '..UptoSaid'. A law counts once. -/
mutual
def uptoBulk {H : Type} : DataW H → Nat
  | .lit (.string bytes) => bytes.length + 1
  | .lit _ => 1
  | .nil => 1
  | .ptr d => uptoBulk d + 1
  | .slice elems spare => uptoBulkAll elems + uptoBulkAll spare + 1
  | .agg parts => uptoBulkAll parts + 1
  | .iface _ d => uptoBulk d + 1
  | .map entries => uptoBulkEntries entries + 1
  | .held _ => 1
def uptoBulkAll {H : Type} : List (DataW H) → Nat
  | [] => 0
  | d :: r => uptoBulk d + uptoBulkAll r
def uptoBulkEntries {H : Type} : List (Lit × DataW H) → Nat
  | [] => 0
  | x :: r => uptoBulkEntry x + uptoBulkEntries r
def uptoBulkEntry {H : Type} : Lit × DataW H → Nat
  | (.string bytes, d) => bytes.length + uptoBulk d + 1
  | (_, d) => uptoBulk d + 1
 end
def uptoSmall : (H : Type) → List (DataW H) → Bool := fun _ ds => decide (uptoBulkAll ds ≤ 1048576)
def OpenSpec.upto (s : _root_.Go.ChangeSpec) : _root_.Go.OpenSpec := { _root_.Go.OpenSpec.ofChange s with cond := some uptoSmall }

/-- 'acequialaw53.JudgementSpec', WHERE WHAT IT READS IS OF BULK AT MOST 1048576: true; the input reads as it did. -/
def judgementSpecUptoRow : OpenClaim := { program := "ytnanafpgfihjfaagreat", sum := "c510dfa0318d7eeaf776cc4d5bd2eec75c38e7bb814e9153bb3705f51a9fac91", func := "acequia/acequialaw53.JudgementSpec", spec := "judgementSpec", unfollowed := true, recurses := true, plainKeys := false, apart := false, narrowed := true }
def JudgementSpecUptoSaid : Prop := judgementSpecUptoRow.holds Tryz.pinned (OpenSpec.upto judgementSpecSpec)

/-- 'acequialaw53.JudgementSitSpec', WHERE WHAT IT READS IS OF BULK AT MOST 1048576: true; the input reads as it did. -/
def judgementSitSpecUptoRow : OpenClaim := { program := "ytnanafpgfihjfaagreat", sum := "c510dfa0318d7eeaf776cc4d5bd2eec75c38e7bb814e9153bb3705f51a9fac91", func := "acequia/acequialaw53.JudgementSitSpec", spec := "judgementSitSpec", unfollowed := true, recurses := true, plainKeys := false, apart := false, narrowed := true }
def JudgementSitSpecUptoSaid : Prop := judgementSitSpecUptoRow.holds Tryz.pinned (OpenSpec.upto judgementSitSpecSpec)

/-- 'acequialaw53.JudgementDate', WHERE WHAT IT READS IS OF BULK AT MOST 1048576: true; the input reads as it did. -/
def judgementDateUptoRow : OpenClaim := { program := "ytnanafpgfihjfaagreat", sum := "c510dfa0318d7eeaf776cc4d5bd2eec75c38e7bb814e9153bb3705f51a9fac91", func := "acequia/acequialaw53.JudgementDate", spec := "judgementDate", unfollowed := true, recurses := true, plainKeys := false, apart := false, narrowed := true }
def JudgementDateUptoSaid : Prop := judgementDateUptoRow.holds Tryz.pinned (OpenSpec.upto judgementDateSpec)

/-- 'acequialaw53.JudgementEnded', WHERE WHAT IT READS IS OF BULK AT MOST 1048576: true; the input reads as it did. -/
def judgementEndedUptoRow : OpenClaim := { program := "ytnanafpgfihjfaagreat", sum := "c510dfa0318d7eeaf776cc4d5bd2eec75c38e7bb814e9153bb3705f51a9fac91", func := "acequia/acequialaw53.JudgementEnded", spec := "judgementEnded", unfollowed := true, recurses := true, plainKeys := false, apart := false, narrowed := true }
def JudgementEndedUptoSaid : Prop := judgementEndedUptoRow.holds Tryz.pinned (OpenSpec.upto judgementEndedSpec)

/-- 'acequialaw53.JudgementRight', WHERE WHAT IT READS IS OF BULK AT MOST 1048576: true; the input reads as it did. -/
def judgementRightUptoRow : OpenClaim := { program := "ytnanafpgfihjfaagreat", sum := "c510dfa0318d7eeaf776cc4d5bd2eec75c38e7bb814e9153bb3705f51a9fac91", func := "acequia/acequialaw53.JudgementRight", spec := "judgementRight", unfollowed := true, recurses := true, plainKeys := false, apart := false, narrowed := true }
def JudgementRightUptoSaid : Prop := judgementRightUptoRow.holds Tryz.pinned (OpenSpec.upto judgementRightSpec)

/-- 'acequialaw53.JudgementClash', WHERE WHAT IT READS IS OF BULK AT MOST 1048576: true; the input reads as it did. -/
def judgementClashUptoRow : OpenClaim := { program := "ytnanafpgfihjfaagreat", sum := "c510dfa0318d7eeaf776cc4d5bd2eec75c38e7bb814e9153bb3705f51a9fac91", func := "acequia/acequialaw53.JudgementClash", spec := "judgementClash", unfollowed := true, recurses := true, plainKeys := false, apart := false, narrowed := true }
def JudgementClashUptoSaid : Prop := judgementClashUptoRow.holds Tryz.pinned (OpenSpec.upto judgementClashSpec)

/-- 'acequialaw53.JudgementServed', WHERE WHAT IT READS IS OF BULK AT MOST 1048576: true; the input reads as it did. -/
def judgementServedUptoRow : OpenClaim := { program := "ytnanafpgfihjfaagreat", sum := "c510dfa0318d7eeaf776cc4d5bd2eec75c38e7bb814e9153bb3705f51a9fac91", func := "acequia/acequialaw53.JudgementServed", spec := "judgementServed", unfollowed := true, recurses := true, plainKeys := false, apart := false, narrowed := true }
def JudgementServedUptoSaid : Prop := judgementServedUptoRow.holds Tryz.pinned (OpenSpec.upto judgementServedSpec)

end Rows
end Go.Proofs.YtnanafpgfihjfaaGreat
