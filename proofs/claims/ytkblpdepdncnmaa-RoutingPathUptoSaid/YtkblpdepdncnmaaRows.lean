/-
  No cell of these rows narrows 'for every input' (looked for: loops, veiled, ifaces, maps, wideKeys, modest, calm, conditions, laid).
  DERIVED. THE GIVEN ROWS OF THIS SEAT. 4 by the template 'for every input the law returns true; each argument reads behind the call as it read before'; 0 by the template 'total and deterministic' (their statements: YtkblpdepdncnmaaTotals.lean).
  GIVEN WITH THE SEED: the statements are not yours to turn. If you find one false, say at which input.
  Laid BY PROGRAM, IN A SANDBOX (cutbox-rows.mjs): the forced cells as the released guide's own fill.sh prints them over the translation c23968e2a6576f9d… (all of the seat's roots in one cut). By AI agents, Wed Nov 11 2026. No macro, syntax, notation, axiom, sorry.
-/
import Derived.Test.YtkblpdepdncnmaaChecked
import GoSem.Claim
import GoSem.ClaimJoined
import GoSem.ClaimMapViews
import Derived.JoinedTies
import Derived.KernelRfl
namespace Go.Proofs.Ytkblpdepdncnmaa
/- THE CELL 'sum', in the pinned program and in every row, IS THE sha256 OF THE DUMP (.gsa) THAT YtkblpdepdncnmaaProg.lean LOADS. Nothing in Lean hashes anything: it is a label: what it is worth is what the hold of that sum in a sandbox is worth. -/
noncomputable def Try.pinned : Pinned := { name := "ytkblpdepdncnmaa", sum := "c23968e2a6576f9dcdcc2b582dbc5a5646b581850dc3cc854d61fbf9fc5b565d", checked := Try.checked }
namespace Rows
def none {H : Type} : Left H := { results := [], args := [] }

/-- 'acequialaw22.RoutingLeast': WHATEVER THE INPUT: true; the input reads as it did. -/
def routingLeastSpec : ChangeSpec := { name := "routingLeast", fn := fun _ => fun
  | [d1, d2, d3] => { results := [.lit (.bool true)], args := [d1, d2, d3] }
  | _ => none }
def routingLeastRow : OpenClaim := { program := "ytkblpdepdncnmaa", sum := "c23968e2a6576f9dcdcc2b582dbc5a5646b581850dc3cc854d61fbf9fc5b565d", func := "acequia/acequialaw22.RoutingLeast", spec := "routingLeast", unfollowed := true, recurses := true, plainKeys := false, apart := false }
def RoutingLeastSaid : Prop := routingLeastRow.holds Try.pinned (OpenSpec.ofChange routingLeastSpec)

/-- ITS FALSE NEIGHBOUR: 'it returns false'. Refute it at one input. -/
def routingLeastWrong : ChangeSpec := { name := "routingLeast", fn := fun _ => fun
  | [d1, d2, d3] => { results := [.lit (.bool false)], args := [d1, d2, d3] }
  | _ => none }
def RoutingLeastWrongFalsely : Prop := routingLeastRow.holds Try.pinned (OpenSpec.ofChange routingLeastWrong)

/-- 'acequialaw22.RoutingFewer': WHATEVER THE INPUT: true; the input reads as it did. -/
def routingFewerSpec : ChangeSpec := { name := "routingFewer", fn := fun _ => fun
  | [d1, d2, d3, d4] => { results := [.lit (.bool true)], args := [d1, d2, d3, d4] }
  | _ => none }
def routingFewerRow : OpenClaim := { program := "ytkblpdepdncnmaa", sum := "c23968e2a6576f9dcdcc2b582dbc5a5646b581850dc3cc854d61fbf9fc5b565d", func := "acequia/acequialaw22.RoutingFewer", spec := "routingFewer", unfollowed := true, recurses := true, plainKeys := false, apart := false }
def RoutingFewerSaid : Prop := routingFewerRow.holds Try.pinned (OpenSpec.ofChange routingFewerSpec)

/-- ITS FALSE NEIGHBOUR: 'it returns false'. Refute it at one input. -/
def routingFewerWrong : ChangeSpec := { name := "routingFewer", fn := fun _ => fun
  | [d1, d2, d3, d4] => { results := [.lit (.bool false)], args := [d1, d2, d3, d4] }
  | _ => none }
def RoutingFewerWrongFalsely : Prop := routingFewerRow.holds Try.pinned (OpenSpec.ofChange routingFewerWrong)

/-- 'acequialaw22.RoutingTogether': WHATEVER THE INPUT: true; the input reads as it did. -/
def routingTogetherSpec : ChangeSpec := { name := "routingTogether", fn := fun _ => fun
  | [d1, d2, d3] => { results := [.lit (.bool true)], args := [d1, d2, d3] }
  | _ => none }
def routingTogetherRow : OpenClaim := { program := "ytkblpdepdncnmaa", sum := "c23968e2a6576f9dcdcc2b582dbc5a5646b581850dc3cc854d61fbf9fc5b565d", func := "acequia/acequialaw22.RoutingTogether", spec := "routingTogether", unfollowed := true, recurses := true, plainKeys := false, apart := false }
def RoutingTogetherSaid : Prop := routingTogetherRow.holds Try.pinned (OpenSpec.ofChange routingTogetherSpec)

/-- ITS FALSE NEIGHBOUR: 'it returns false'. Refute it at one input. -/
def routingTogetherWrong : ChangeSpec := { name := "routingTogether", fn := fun _ => fun
  | [d1, d2, d3] => { results := [.lit (.bool false)], args := [d1, d2, d3] }
  | _ => none }
def RoutingTogetherWrongFalsely : Prop := routingTogetherRow.holds Try.pinned (OpenSpec.ofChange routingTogetherWrong)

/-- 'acequialaw22.RoutingPath': WHATEVER THE INPUT: true; the input reads as it did. -/
def routingPathSpec : ChangeSpec := { name := "routingPath", fn := fun _ => fun
  | [d1, d2, d3, d4, d5] => { results := [.lit (.bool true)], args := [d1, d2, d3, d4, d5] }
  | _ => none }
def routingPathRow : OpenClaim := { program := "ytkblpdepdncnmaa", sum := "c23968e2a6576f9dcdcc2b582dbc5a5646b581850dc3cc854d61fbf9fc5b565d", func := "acequia/acequialaw22.RoutingPath", spec := "routingPath", unfollowed := true, recurses := true, plainKeys := false, apart := false }
def RoutingPathSaid : Prop := routingPathRow.holds Try.pinned (OpenSpec.ofChange routingPathSpec)

/-- ITS FALSE NEIGHBOUR: 'it returns false'. Refute it at one input. -/
def routingPathWrong : ChangeSpec := { name := "routingPath", fn := fun _ => fun
  | [d1, d2, d3, d4, d5] => { results := [.lit (.bool false)], args := [d1, d2, d3, d4, d5] }
  | _ => none }
def RoutingPathWrongFalsely : Prop := routingPathRow.holds Try.pinned (OpenSpec.ofChange routingPathWrong)

/- THE SECOND FORM. 'bulk': how many values and letters a reading holds, each counted each time it is reached (what is shared counts as often as it is met; a slice's spare places count too). A statement '..UptoSaid' is the law's where the arguments, and the package variables that the reading takes, are together of bulk at most 1048576: NARROWER than '..Said'. Prove '..Said' where nothing that the law and all that it calls make is longer than what came in: it says more and counts as full. Else prove '..UptoSaid'. A law counts once. -/
mutual
def uptoBulk {H : Type} : DataW H → Nat
  | .lit (.string bytes) => bytes.length + 1
  | .lit _ => 1
  | .nil => 1
  | .ptr d => uptoBulk d + 1
  | .slice elems spare => uptoBulkAll elems + uptoBulkAll spare + 1
  | .agg parts => uptoBulkAll parts + 1
  | .iface _ d => uptoBulk d + 1
  | .map entries => uptoBulkEntries entries + 1
  | .held _ => 1
def uptoBulkAll {H : Type} : List (DataW H) → Nat
  | [] => 0
  | d :: r => uptoBulk d + uptoBulkAll r
def uptoBulkEntries {H : Type} : List (Lit × DataW H) → Nat
  | [] => 0
  | x :: r => uptoBulkEntry x + uptoBulkEntries r
def uptoBulkEntry {H : Type} : Lit × DataW H → Nat
  | (.string bytes, d) => bytes.length + uptoBulk d + 1
  | (_, d) => uptoBulk d + 1
 end
def uptoSmall : (H : Type) → List (DataW H) → Bool := fun _ ds => decide (uptoBulkAll ds ≤ 1048576)
def OpenSpec.upto (s : _root_.Go.ChangeSpec) : _root_.Go.OpenSpec := { _root_.Go.OpenSpec.ofChange s with cond := some uptoSmall }

/-- 'acequialaw22.RoutingLeast', WHERE WHAT IT READS IS OF BULK AT MOST 1048576: true; the input reads as it did. -/
def routingLeastUptoRow : OpenClaim := { program := "ytkblpdepdncnmaa", sum := "c23968e2a6576f9dcdcc2b582dbc5a5646b581850dc3cc854d61fbf9fc5b565d", func := "acequia/acequialaw22.RoutingLeast", spec := "routingLeast", unfollowed := true, recurses := true, plainKeys := false, apart := false, narrowed := true }
def RoutingLeastUptoSaid : Prop := routingLeastUptoRow.holds Try.pinned (OpenSpec.upto routingLeastSpec)

/-- 'acequialaw22.RoutingFewer', WHERE WHAT IT READS IS OF BULK AT MOST 1048576: true; the input reads as it did. -/
def routingFewerUptoRow : OpenClaim := { program := "ytkblpdepdncnmaa", sum := "c23968e2a6576f9dcdcc2b582dbc5a5646b581850dc3cc854d61fbf9fc5b565d", func := "acequia/acequialaw22.RoutingFewer", spec := "routingFewer", unfollowed := true, recurses := true, plainKeys := false, apart := false, narrowed := true }
def RoutingFewerUptoSaid : Prop := routingFewerUptoRow.holds Try.pinned (OpenSpec.upto routingFewerSpec)

/-- 'acequialaw22.RoutingTogether', WHERE WHAT IT READS IS OF BULK AT MOST 1048576: true; the input reads as it did. -/
def routingTogetherUptoRow : OpenClaim := { program := "ytkblpdepdncnmaa", sum := "c23968e2a6576f9dcdcc2b582dbc5a5646b581850dc3cc854d61fbf9fc5b565d", func := "acequia/acequialaw22.RoutingTogether", spec := "routingTogether", unfollowed := true, recurses := true, plainKeys := false, apart := false, narrowed := true }
def RoutingTogetherUptoSaid : Prop := routingTogetherUptoRow.holds Try.pinned (OpenSpec.upto routingTogetherSpec)

/-- 'acequialaw22.RoutingPath', WHERE WHAT IT READS IS OF BULK AT MOST 1048576: true; the input reads as it did. -/
def routingPathUptoRow : OpenClaim := { program := "ytkblpdepdncnmaa", sum := "c23968e2a6576f9dcdcc2b582dbc5a5646b581850dc3cc854d61fbf9fc5b565d", func := "acequia/acequialaw22.RoutingPath", spec := "routingPath", unfollowed := true, recurses := true, plainKeys := false, apart := false, narrowed := true }
def RoutingPathUptoSaid : Prop := routingPathUptoRow.holds Try.pinned (OpenSpec.upto routingPathSpec)

end Rows
end Go.Proofs.Ytkblpdepdncnmaa
