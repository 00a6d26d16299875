/-
  No cell of these rows narrows 'for every input' (looked for: loops, veiled, ifaces, maps, wideKeys, modest, calm, conditions, laid).
  DERIVED. THE GIVEN ROWS OF THIS SEAT. 6 by the template 'for every input the law returns true; each argument reads behind the call as it read before'; 0 by the template 'total and deterministic' (their statements: YtaikmgjfkejlkaaGreatTotals.lean).
  GIVEN WITH THE SEED: the statements are not yours to turn. If you find one false, say at which input.
  Laid BY PROGRAM, IN A SANDBOX (cutbox-rows.mjs): the forced cells as the released guide's own fill.sh prints them over the translation 88dba623e7e76a78… (all of the seat's roots in one cut). By AI agents, Wed Nov 11 2026. No macro, syntax, notation, axiom, sorry.
-/
import Derived.Test.YtaikmgjfkejlkaaGreatChecked
import GoSem.Claim
import GoSem.ClaimJoined
import GoSem.ClaimMapViews
import Derived.JoinedTies
import Derived.KernelRfl
namespace Go.Proofs.YtaikmgjfkejlkaaGreat
/- THE CELL 'sum', in the pinned program and in every row, IS THE sha256 OF THE DUMP (.gsa) THAT YtaikmgjfkejlkaaGreatProg.lean LOADS. Nothing in Lean hashes anything: it is a label: what it is worth is what the hold of that sum in a sandbox is worth. -/
noncomputable def Tryz.pinned : Pinned := { name := "ytaikmgjfkejlkaagreat", sum := "88dba623e7e76a783b63126b36d6ce5830ac2b01b14acfec852871ad55cf303d", checked := Tryz.checked }
namespace Rows
def none {H : Type} : Left H := { results := [], args := [] }

/-- 'acequialaw29.RefuseSpec': WHATEVER THE INPUT: true; the input reads as it did. -/
def refuseSpecSpec : ChangeSpec := { name := "refuseSpec", fn := fun _ => fun
  | [d1, d2, d3, d4, d5] => { results := [.lit (.bool true)], args := [d1, d2, d3, d4, d5] }
  | _ => none }
def refuseSpecRow : OpenClaim := { program := "ytaikmgjfkejlkaagreat", sum := "88dba623e7e76a783b63126b36d6ce5830ac2b01b14acfec852871ad55cf303d", func := "acequia/acequialaw29.RefuseSpec", spec := "refuseSpec", unfollowed := true, recurses := true, plainKeys := false, apart := false }
def RefuseSpecSaid : Prop := refuseSpecRow.holds Tryz.pinned (OpenSpec.ofChange refuseSpecSpec)

/-- ITS FALSE NEIGHBOUR: 'it returns false'. Refute it at one input. -/
def refuseSpecWrong : ChangeSpec := { name := "refuseSpec", fn := fun _ => fun
  | [d1, d2, d3, d4, d5] => { results := [.lit (.bool false)], args := [d1, d2, d3, d4, d5] }
  | _ => none }
def RefuseSpecWrongFalsely : Prop := refuseSpecRow.holds Tryz.pinned (OpenSpec.ofChange refuseSpecWrong)

/-- 'acequialaw29.RefuseHoldsSpec': WHATEVER THE INPUT: true; the input reads as it did. -/
def refuseHoldsSpecSpec : ChangeSpec := { name := "refuseHoldsSpec", fn := fun _ => fun
  | [d1, d2, d3, d4, d5, d6] => { results := [.lit (.bool true)], args := [d1, d2, d3, d4, d5, d6] }
  | _ => none }
def refuseHoldsSpecRow : OpenClaim := { program := "ytaikmgjfkejlkaagreat", sum := "88dba623e7e76a783b63126b36d6ce5830ac2b01b14acfec852871ad55cf303d", func := "acequia/acequialaw29.RefuseHoldsSpec", spec := "refuseHoldsSpec", unfollowed := true, recurses := true, plainKeys := false, apart := false }
def RefuseHoldsSpecSaid : Prop := refuseHoldsSpecRow.holds Tryz.pinned (OpenSpec.ofChange refuseHoldsSpecSpec)

/-- ITS FALSE NEIGHBOUR: 'it returns false'. Refute it at one input. -/
def refuseHoldsSpecWrong : ChangeSpec := { name := "refuseHoldsSpec", fn := fun _ => fun
  | [d1, d2, d3, d4, d5, d6] => { results := [.lit (.bool false)], args := [d1, d2, d3, d4, d5, d6] }
  | _ => none }
def RefuseHoldsSpecWrongFalsely : Prop := refuseHoldsSpecRow.holds Tryz.pinned (OpenSpec.ofChange refuseHoldsSpecWrong)

/-- 'acequialaw29.RefuseEither': WHATEVER THE INPUT: true; the input reads as it did. -/
def refuseEitherSpec : ChangeSpec := { name := "refuseEither", fn := fun _ => fun
  | [d1, d2, d3, d4, d5] => { results := [.lit (.bool true)], args := [d1, d2, d3, d4, d5] }
  | _ => none }
def refuseEitherRow : OpenClaim := { program := "ytaikmgjfkejlkaagreat", sum := "88dba623e7e76a783b63126b36d6ce5830ac2b01b14acfec852871ad55cf303d", func := "acequia/acequialaw29.RefuseEither", spec := "refuseEither", unfollowed := true, recurses := true, plainKeys := false, apart := false }
def RefuseEitherSaid : Prop := refuseEitherRow.holds Tryz.pinned (OpenSpec.ofChange refuseEitherSpec)

/-- ITS FALSE NEIGHBOUR: 'it returns false'. Refute it at one input. -/
def refuseEitherWrong : ChangeSpec := { name := "refuseEither", fn := fun _ => fun
  | [d1, d2, d3, d4, d5] => { results := [.lit (.bool false)], args := [d1, d2, d3, d4, d5] }
  | _ => none }
def RefuseEitherWrongFalsely : Prop := refuseEitherRow.holds Tryz.pinned (OpenSpec.ofChange refuseEitherWrong)

/-- 'acequialaw29.RefuseLeast': WHATEVER THE INPUT: true; the input reads as it did. -/
def refuseLeastSpec : ChangeSpec := { name := "refuseLeast", fn := fun _ => fun
  | [d1, d2, d3, d4, d5, d6, d7] => { results := [.lit (.bool true)], args := [d1, d2, d3, d4, d5, d6, d7] }
  | _ => none }
def refuseLeastRow : OpenClaim := { program := "ytaikmgjfkejlkaagreat", sum := "88dba623e7e76a783b63126b36d6ce5830ac2b01b14acfec852871ad55cf303d", func := "acequia/acequialaw29.RefuseLeast", spec := "refuseLeast", unfollowed := true, recurses := true, plainKeys := false, apart := false }
def RefuseLeastSaid : Prop := refuseLeastRow.holds Tryz.pinned (OpenSpec.ofChange refuseLeastSpec)

/-- ITS FALSE NEIGHBOUR: 'it returns false'. Refute it at one input. -/
def refuseLeastWrong : ChangeSpec := { name := "refuseLeast", fn := fun _ => fun
  | [d1, d2, d3, d4, d5, d6, d7] => { results := [.lit (.bool false)], args := [d1, d2, d3, d4, d5, d6, d7] }
  | _ => none }
def RefuseLeastWrongFalsely : Prop := refuseLeastRow.holds Tryz.pinned (OpenSpec.ofChange refuseLeastWrong)

/-- 'acequialaw29.RefuseLess': WHATEVER THE INPUT: true; the input reads as it did. -/
def refuseLessSpec : ChangeSpec := { name := "refuseLess", fn := fun _ => fun
  | [d1, d2, d3, d4, d5, d6, d7, d8] => { results := [.lit (.bool true)], args := [d1, d2, d3, d4, d5, d6, d7, d8] }
  | _ => none }
def refuseLessRow : OpenClaim := { program := "ytaikmgjfkejlkaagreat", sum := "88dba623e7e76a783b63126b36d6ce5830ac2b01b14acfec852871ad55cf303d", func := "acequia/acequialaw29.RefuseLess", spec := "refuseLess", unfollowed := true, recurses := true, plainKeys := false, apart := false }
def RefuseLessSaid : Prop := refuseLessRow.holds Tryz.pinned (OpenSpec.ofChange refuseLessSpec)

/-- ITS FALSE NEIGHBOUR: 'it returns false'. Refute it at one input. -/
def refuseLessWrong : ChangeSpec := { name := "refuseLess", fn := fun _ => fun
  | [d1, d2, d3, d4, d5, d6, d7, d8] => { results := [.lit (.bool false)], args := [d1, d2, d3, d4, d5, d6, d7, d8] }
  | _ => none }
def RefuseLessWrongFalsely : Prop := refuseLessRow.holds Tryz.pinned (OpenSpec.ofChange refuseLessWrong)

/-- 'acequialaw29.RefuseHolds': WHATEVER THE INPUT: true; the input reads as it did. -/
def refuseHoldsSpec : ChangeSpec := { name := "refuseHolds", fn := fun _ => fun
  | [d1, d2, d3, d4, d5, d6, d7] => { results := [.lit (.bool true)], args := [d1, d2, d3, d4, d5, d6, d7] }
  | _ => none }
def refuseHoldsRow : OpenClaim := { program := "ytaikmgjfkejlkaagreat", sum := "88dba623e7e76a783b63126b36d6ce5830ac2b01b14acfec852871ad55cf303d", func := "acequia/acequialaw29.RefuseHolds", spec := "refuseHolds", unfollowed := true, recurses := true, plainKeys := false, apart := false }
def RefuseHoldsSaid : Prop := refuseHoldsRow.holds Tryz.pinned (OpenSpec.ofChange refuseHoldsSpec)

/-- ITS FALSE NEIGHBOUR: 'it returns false'. Refute it at one input. -/
def refuseHoldsWrong : ChangeSpec := { name := "refuseHolds", fn := fun _ => fun
  | [d1, d2, d3, d4, d5, d6, d7] => { results := [.lit (.bool false)], args := [d1, d2, d3, d4, d5, d6, d7] }
  | _ => none }
def RefuseHoldsWrongFalsely : Prop := refuseHoldsRow.holds Tryz.pinned (OpenSpec.ofChange refuseHoldsWrong)

/- THE SECOND FORM. 'bulk': how many values and letters a reading holds, each counted each time it is reached (what is shared counts as often as it is met; a slice's spare places count too). A statement '..UptoSaid' is the law's where the arguments, and the package variables that the reading takes, are together of bulk at most 1048576: NARROWER than '..Said'. Prove '..Said' where nothing that the law and all that it calls make is longer than what came in: it says more and counts as full. Else prove '..UptoSaid'. A law counts once. -/
mutual
def uptoBulk {H : Type} : DataW H → Nat
  | .lit (.string bytes) => bytes.length + 1
  | .lit _ => 1
  | .nil => 1
  | .ptr d => uptoBulk d + 1
  | .slice elems spare => uptoBulkAll elems + uptoBulkAll spare + 1
  | .agg parts => uptoBulkAll parts + 1
  | .iface _ d => uptoBulk d + 1
  | .map entries => uptoBulkEntries entries + 1
  | .held _ => 1
def uptoBulkAll {H : Type} : List (DataW H) → Nat
  | [] => 0
  | d :: r => uptoBulk d + uptoBulkAll r
def uptoBulkEntries {H : Type} : List (Lit × DataW H) → Nat
  | [] => 0
  | x :: r => uptoBulkEntry x + uptoBulkEntries r
def uptoBulkEntry {H : Type} : Lit × DataW H → Nat
  | (.string bytes, d) => bytes.length + uptoBulk d + 1
  | (_, d) => uptoBulk d + 1
 end
def uptoSmall : (H : Type) → List (DataW H) → Bool := fun _ ds => decide (uptoBulkAll ds ≤ 1048576)
def OpenSpec.upto (s : _root_.Go.ChangeSpec) : _root_.Go.OpenSpec := { _root_.Go.OpenSpec.ofChange s with cond := some uptoSmall }

/-- 'acequialaw29.RefuseSpec', WHERE WHAT IT READS IS OF BULK AT MOST 1048576: true; the input reads as it did. -/
def refuseSpecUptoRow : OpenClaim := { program := "ytaikmgjfkejlkaagreat", sum := "88dba623e7e76a783b63126b36d6ce5830ac2b01b14acfec852871ad55cf303d", func := "acequia/acequialaw29.RefuseSpec", spec := "refuseSpec", unfollowed := true, recurses := true, plainKeys := false, apart := false, narrowed := true }
def RefuseSpecUptoSaid : Prop := refuseSpecUptoRow.holds Tryz.pinned (OpenSpec.upto refuseSpecSpec)

/-- 'acequialaw29.RefuseHoldsSpec', WHERE WHAT IT READS IS OF BULK AT MOST 1048576: true; the input reads as it did. -/
def refuseHoldsSpecUptoRow : OpenClaim := { program := "ytaikmgjfkejlkaagreat", sum := "88dba623e7e76a783b63126b36d6ce5830ac2b01b14acfec852871ad55cf303d", func := "acequia/acequialaw29.RefuseHoldsSpec", spec := "refuseHoldsSpec", unfollowed := true, recurses := true, plainKeys := false, apart := false, narrowed := true }
def RefuseHoldsSpecUptoSaid : Prop := refuseHoldsSpecUptoRow.holds Tryz.pinned (OpenSpec.upto refuseHoldsSpecSpec)

/-- 'acequialaw29.RefuseEither', WHERE WHAT IT READS IS OF BULK AT MOST 1048576: true; the input reads as it did. -/
def refuseEitherUptoRow : OpenClaim := { program := "ytaikmgjfkejlkaagreat", sum := "88dba623e7e76a783b63126b36d6ce5830ac2b01b14acfec852871ad55cf303d", func := "acequia/acequialaw29.RefuseEither", spec := "refuseEither", unfollowed := true, recurses := true, plainKeys := false, apart := false, narrowed := true }
def RefuseEitherUptoSaid : Prop := refuseEitherUptoRow.holds Tryz.pinned (OpenSpec.upto refuseEitherSpec)

/-- 'acequialaw29.RefuseLeast', WHERE WHAT IT READS IS OF BULK AT MOST 1048576: true; the input reads as it did. -/
def refuseLeastUptoRow : OpenClaim := { program := "ytaikmgjfkejlkaagreat", sum := "88dba623e7e76a783b63126b36d6ce5830ac2b01b14acfec852871ad55cf303d", func := "acequia/acequialaw29.RefuseLeast", spec := "refuseLeast", unfollowed := true, recurses := true, plainKeys := false, apart := false, narrowed := true }
def RefuseLeastUptoSaid : Prop := refuseLeastUptoRow.holds Tryz.pinned (OpenSpec.upto refuseLeastSpec)

/-- 'acequialaw29.RefuseLess', WHERE WHAT IT READS IS OF BULK AT MOST 1048576: true; the input reads as it did. -/
def refuseLessUptoRow : OpenClaim := { program := "ytaikmgjfkejlkaagreat", sum := "88dba623e7e76a783b63126b36d6ce5830ac2b01b14acfec852871ad55cf303d", func := "acequia/acequialaw29.RefuseLess", spec := "refuseLess", unfollowed := true, recurses := true, plainKeys := false, apart := false, narrowed := true }
def RefuseLessUptoSaid : Prop := refuseLessUptoRow.holds Tryz.pinned (OpenSpec.upto refuseLessSpec)

/-- 'acequialaw29.RefuseHolds', WHERE WHAT IT READS IS OF BULK AT MOST 1048576: true; the input reads as it did. -/
def refuseHoldsUptoRow : OpenClaim := { program := "ytaikmgjfkejlkaagreat", sum := "88dba623e7e76a783b63126b36d6ce5830ac2b01b14acfec852871ad55cf303d", func := "acequia/acequialaw29.RefuseHolds", spec := "refuseHolds", unfollowed := true, recurses := true, plainKeys := false, apart := false, narrowed := true }
def RefuseHoldsUptoSaid : Prop := refuseHoldsUptoRow.holds Tryz.pinned (OpenSpec.upto refuseHoldsSpec)

end Rows
end Go.Proofs.YtaikmgjfkejlkaaGreat
