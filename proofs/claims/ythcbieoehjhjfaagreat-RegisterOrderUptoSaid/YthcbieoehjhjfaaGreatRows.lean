/-
  No cell of these rows narrows 'for every input' (looked for: loops, veiled, ifaces, maps, wideKeys, modest, calm, conditions, laid).
  DERIVED. THE GIVEN ROWS OF THIS SEAT. 8 by the template 'for every input the law returns true; each argument reads behind the call as it read before'; 0 by the template 'total and deterministic' (their statements: YthcbieoehjhjfaaGreatTotals.lean).
  GIVEN WITH THE SEED: the statements are not yours to turn. If you find one false, say at which input.
  Laid BY PROGRAM, IN A SANDBOX (cutbox-rows.mjs): the forced cells as the released guide's own fill.sh prints them over the translation 91b4dea6350c0074… (all of the seat's roots in one cut). By AI agents, Wed Nov 11 2026. No macro, syntax, notation, axiom, sorry.
-/
import Derived.Test.YthcbieoehjhjfaaGreatChecked
import GoSem.Claim
import GoSem.ClaimJoined
import GoSem.ClaimMapViews
import Derived.JoinedTies
import Derived.KernelRfl
namespace Go.Proofs.YthcbieoehjhjfaaGreat
/- THE CELL 'sum', in the pinned program and in every row, IS THE sha256 OF THE DUMP (.gsa) THAT YthcbieoehjhjfaaGreatProg.lean LOADS. Nothing in Lean hashes anything: it is a label: what it is worth is what the hold of that sum in a sandbox is worth. -/
noncomputable def Tryz.pinned : Pinned := { name := "ythcbieoehjhjfaagreat", sum := "91b4dea6350c00740530aacc334238ad31ad3f4273683dab13fea7288fc18813", checked := Tryz.checked }
namespace Rows
def none {H : Type} : Left H := { results := [], args := [] }

/-- 'acequialaw25.RegisterSpec': WHATEVER THE INPUT: true; the input reads as it did. -/
def registerSpecSpec : ChangeSpec := { name := "registerSpec", fn := fun _ => fun
  | [d1, d2, d3] => { results := [.lit (.bool true)], args := [d1, d2, d3] }
  | _ => none }
def registerSpecRow : OpenClaim := { program := "ythcbieoehjhjfaagreat", sum := "91b4dea6350c00740530aacc334238ad31ad3f4273683dab13fea7288fc18813", func := "acequia/acequialaw25.RegisterSpec", spec := "registerSpec", inPlace := ["slices.overlaps[acequia/api.Deed]"], unfollowed := true, recurses := true, plainKeys := false, apart := false }
def RegisterSpecSaid : Prop := registerSpecRow.holds Tryz.pinned (OpenSpec.ofChange registerSpecSpec)

/-- ITS FALSE NEIGHBOUR: 'it returns false'. Refute it at one input. -/
def registerSpecWrong : ChangeSpec := { name := "registerSpec", fn := fun _ => fun
  | [d1, d2, d3] => { results := [.lit (.bool false)], args := [d1, d2, d3] }
  | _ => none }
def RegisterSpecWrongFalsely : Prop := registerSpecRow.holds Tryz.pinned (OpenSpec.ofChange registerSpecWrong)

/-- 'acequialaw25.RegisterAtSpec': WHATEVER THE INPUT: true; the input reads as it did. -/
def registerAtSpecSpec : ChangeSpec := { name := "registerAtSpec", fn := fun _ => fun
  | [d1, d2, d3, d4] => { results := [.lit (.bool true)], args := [d1, d2, d3, d4] }
  | _ => none }
def registerAtSpecRow : OpenClaim := { program := "ythcbieoehjhjfaagreat", sum := "91b4dea6350c00740530aacc334238ad31ad3f4273683dab13fea7288fc18813", func := "acequia/acequialaw25.RegisterAtSpec", spec := "registerAtSpec", inPlace := ["slices.overlaps[acequia/api.Deed]"], unfollowed := true, recurses := true, plainKeys := false, apart := false }
def RegisterAtSpecSaid : Prop := registerAtSpecRow.holds Tryz.pinned (OpenSpec.ofChange registerAtSpecSpec)

/-- ITS FALSE NEIGHBOUR: 'it returns false'. Refute it at one input. -/
def registerAtSpecWrong : ChangeSpec := { name := "registerAtSpec", fn := fun _ => fun
  | [d1, d2, d3, d4] => { results := [.lit (.bool false)], args := [d1, d2, d3, d4] }
  | _ => none }
def RegisterAtSpecWrongFalsely : Prop := registerAtSpecRow.holds Tryz.pinned (OpenSpec.ofChange registerAtSpecWrong)

/-- 'acequialaw25.RegisterKept': WHATEVER THE INPUT: true; the input reads as it did. -/
def registerKeptSpec : ChangeSpec := { name := "registerKept", fn := fun _ => fun
  | [d1, d2, d3, d4] => { results := [.lit (.bool true)], args := [d1, d2, d3, d4] }
  | _ => none }
def registerKeptRow : OpenClaim := { program := "ythcbieoehjhjfaagreat", sum := "91b4dea6350c00740530aacc334238ad31ad3f4273683dab13fea7288fc18813", func := "acequia/acequialaw25.RegisterKept", spec := "registerKept", inPlace := ["slices.overlaps[acequia/api.Deed]"], unfollowed := true, recurses := true, plainKeys := false, apart := false }
def RegisterKeptSaid : Prop := registerKeptRow.holds Tryz.pinned (OpenSpec.ofChange registerKeptSpec)

/-- ITS FALSE NEIGHBOUR: 'it returns false'. Refute it at one input. -/
def registerKeptWrong : ChangeSpec := { name := "registerKept", fn := fun _ => fun
  | [d1, d2, d3, d4] => { results := [.lit (.bool false)], args := [d1, d2, d3, d4] }
  | _ => none }
def RegisterKeptWrongFalsely : Prop := registerKeptRow.holds Tryz.pinned (OpenSpec.ofChange registerKeptWrong)

/-- 'acequialaw25.RegisterVoid': WHATEVER THE INPUT: true; the input reads as it did. -/
def registerVoidSpec : ChangeSpec := { name := "registerVoid", fn := fun _ => fun
  | [d1, d2, d3, d4, d5] => { results := [.lit (.bool true)], args := [d1, d2, d3, d4, d5] }
  | _ => none }
def registerVoidRow : OpenClaim := { program := "ythcbieoehjhjfaagreat", sum := "91b4dea6350c00740530aacc334238ad31ad3f4273683dab13fea7288fc18813", func := "acequia/acequialaw25.RegisterVoid", spec := "registerVoid", inPlace := ["slices.overlaps[acequia/api.Deed]"], unfollowed := true, recurses := true, plainKeys := false, apart := false }
def RegisterVoidSaid : Prop := registerVoidRow.holds Tryz.pinned (OpenSpec.ofChange registerVoidSpec)

/-- ITS FALSE NEIGHBOUR: 'it returns false'. Refute it at one input. -/
def registerVoidWrong : ChangeSpec := { name := "registerVoid", fn := fun _ => fun
  | [d1, d2, d3, d4, d5] => { results := [.lit (.bool false)], args := [d1, d2, d3, d4, d5] }
  | _ => none }
def RegisterVoidWrongFalsely : Prop := registerVoidRow.holds Tryz.pinned (OpenSpec.ofChange registerVoidWrong)

/-- 'acequialaw25.RegisterLater': WHATEVER THE INPUT: true; the input reads as it did. -/
def registerLaterSpec : ChangeSpec := { name := "registerLater", fn := fun _ => fun
  | [d1, d2, d3, d4] => { results := [.lit (.bool true)], args := [d1, d2, d3, d4] }
  | _ => none }
def registerLaterRow : OpenClaim := { program := "ythcbieoehjhjfaagreat", sum := "91b4dea6350c00740530aacc334238ad31ad3f4273683dab13fea7288fc18813", func := "acequia/acequialaw25.RegisterLater", spec := "registerLater", inPlace := ["slices.overlaps[acequia/api.Deed]"], unfollowed := true, recurses := true, plainKeys := false, apart := false }
def RegisterLaterSaid : Prop := registerLaterRow.holds Tryz.pinned (OpenSpec.ofChange registerLaterSpec)

/-- ITS FALSE NEIGHBOUR: 'it returns false'. Refute it at one input. -/
def registerLaterWrong : ChangeSpec := { name := "registerLater", fn := fun _ => fun
  | [d1, d2, d3, d4] => { results := [.lit (.bool false)], args := [d1, d2, d3, d4] }
  | _ => none }
def RegisterLaterWrongFalsely : Prop := registerLaterRow.holds Tryz.pinned (OpenSpec.ofChange registerLaterWrong)

/-- 'acequialaw25.RegisterOrder': WHATEVER THE INPUT: true; the input reads as it did. -/
def registerOrderSpec : ChangeSpec := { name := "registerOrder", fn := fun _ => fun
  | [d1, d2, d3, d4] => { results := [.lit (.bool true)], args := [d1, d2, d3, d4] }
  | _ => none }
def registerOrderRow : OpenClaim := { program := "ythcbieoehjhjfaagreat", sum := "91b4dea6350c00740530aacc334238ad31ad3f4273683dab13fea7288fc18813", func := "acequia/acequialaw25.RegisterOrder", spec := "registerOrder", inPlace := ["slices.overlaps[acequia/api.Deed]"], unfollowed := true, recurses := true, plainKeys := false, apart := false }
def RegisterOrderSaid : Prop := registerOrderRow.holds Tryz.pinned (OpenSpec.ofChange registerOrderSpec)

/-- ITS FALSE NEIGHBOUR: 'it returns false'. Refute it at one input. -/
def registerOrderWrong : ChangeSpec := { name := "registerOrder", fn := fun _ => fun
  | [d1, d2, d3, d4] => { results := [.lit (.bool false)], args := [d1, d2, d3, d4] }
  | _ => none }
def RegisterOrderWrongFalsely : Prop := registerOrderRow.holds Tryz.pinned (OpenSpec.ofChange registerOrderWrong)

/-- 'acequialaw25.RegisterEmpty': WHATEVER THE INPUT: true; the input reads as it did. -/
def registerEmptySpec : ChangeSpec := { name := "registerEmpty", fn := fun _ => fun
  | [d1, d2, d3, d4, d5] => { results := [.lit (.bool true)], args := [d1, d2, d3, d4, d5] }
  | _ => none }
def registerEmptyRow : OpenClaim := { program := "ythcbieoehjhjfaagreat", sum := "91b4dea6350c00740530aacc334238ad31ad3f4273683dab13fea7288fc18813", func := "acequia/acequialaw25.RegisterEmpty", spec := "registerEmpty", inPlace := ["slices.overlaps[acequia/api.Deed]"], unfollowed := true, recurses := true, plainKeys := false, apart := false }
def RegisterEmptySaid : Prop := registerEmptyRow.holds Tryz.pinned (OpenSpec.ofChange registerEmptySpec)

/-- ITS FALSE NEIGHBOUR: 'it returns false'. Refute it at one input. -/
def registerEmptyWrong : ChangeSpec := { name := "registerEmpty", fn := fun _ => fun
  | [d1, d2, d3, d4, d5] => { results := [.lit (.bool false)], args := [d1, d2, d3, d4, d5] }
  | _ => none }
def RegisterEmptyWrongFalsely : Prop := registerEmptyRow.holds Tryz.pinned (OpenSpec.ofChange registerEmptyWrong)

/-- 'acequialaw25.RegisterDivided': WHATEVER THE INPUT: true; the input reads as it did. -/
def registerDividedSpec : ChangeSpec := { name := "registerDivided", fn := fun _ => fun
  | [d1, d2, d3] => { results := [.lit (.bool true)], args := [d1, d2, d3] }
  | _ => none }
def registerDividedRow : OpenClaim := { program := "ythcbieoehjhjfaagreat", sum := "91b4dea6350c00740530aacc334238ad31ad3f4273683dab13fea7288fc18813", func := "acequia/acequialaw25.RegisterDivided", spec := "registerDivided", inPlace := ["slices.overlaps[acequia/api.Deed]"], unfollowed := true, recurses := true, plainKeys := false, apart := false }
def RegisterDividedSaid : Prop := registerDividedRow.holds Tryz.pinned (OpenSpec.ofChange registerDividedSpec)

/-- ITS FALSE NEIGHBOUR: 'it returns false'. Refute it at one input. -/
def registerDividedWrong : ChangeSpec := { name := "registerDivided", fn := fun _ => fun
  | [d1, d2, d3] => { results := [.lit (.bool false)], args := [d1, d2, d3] }
  | _ => none }
def RegisterDividedWrongFalsely : Prop := registerDividedRow.holds Tryz.pinned (OpenSpec.ofChange registerDividedWrong)

/- THE SECOND FORM. 'bulk': how many values and letters a reading holds, each counted each time it is reached (what is shared counts as often as it is met; a slice's spare places count too). A statement '..UptoSaid' is the law's where the arguments, and the package variables that the reading takes, are together of bulk at most 1048576: NARROWER than '..Said'. Prove '..Said' where nothing that the law and all that it calls make is longer than what came in: it says more and counts as full. Else prove '..UptoSaid'. A law counts once. -/
mutual
def uptoBulk {H : Type} : DataW H → Nat
  | .lit (.string bytes) => bytes.length + 1
  | .lit _ => 1
  | .nil => 1
  | .ptr d => uptoBulk d + 1
  | .slice elems spare => uptoBulkAll elems + uptoBulkAll spare + 1
  | .agg parts => uptoBulkAll parts + 1
  | .iface _ d => uptoBulk d + 1
  | .map entries => uptoBulkEntries entries + 1
  | .held _ => 1
def uptoBulkAll {H : Type} : List (DataW H) → Nat
  | [] => 0
  | d :: r => uptoBulk d + uptoBulkAll r
def uptoBulkEntries {H : Type} : List (Lit × DataW H) → Nat
  | [] => 0
  | x :: r => uptoBulkEntry x + uptoBulkEntries r
def uptoBulkEntry {H : Type} : Lit × DataW H → Nat
  | (.string bytes, d) => bytes.length + uptoBulk d + 1
  | (_, d) => uptoBulk d + 1
 end
def uptoSmall : (H : Type) → List (DataW H) → Bool := fun _ ds => decide (uptoBulkAll ds ≤ 1048576)
def OpenSpec.upto (s : _root_.Go.ChangeSpec) : _root_.Go.OpenSpec := { _root_.Go.OpenSpec.ofChange s with cond := some uptoSmall }

/-- 'acequialaw25.RegisterSpec', WHERE WHAT IT READS IS OF BULK AT MOST 1048576: true; the input reads as it did. -/
def registerSpecUptoRow : OpenClaim := { program := "ythcbieoehjhjfaagreat", sum := "91b4dea6350c00740530aacc334238ad31ad3f4273683dab13fea7288fc18813", func := "acequia/acequialaw25.RegisterSpec", spec := "registerSpec", inPlace := ["slices.overlaps[acequia/api.Deed]"], unfollowed := true, recurses := true, plainKeys := false, apart := false, narrowed := true }
def RegisterSpecUptoSaid : Prop := registerSpecUptoRow.holds Tryz.pinned (OpenSpec.upto registerSpecSpec)

/-- 'acequialaw25.RegisterAtSpec', WHERE WHAT IT READS IS OF BULK AT MOST 1048576: true; the input reads as it did. -/
def registerAtSpecUptoRow : OpenClaim := { program := "ythcbieoehjhjfaagreat", sum := "91b4dea6350c00740530aacc334238ad31ad3f4273683dab13fea7288fc18813", func := "acequia/acequialaw25.RegisterAtSpec", spec := "registerAtSpec", inPlace := ["slices.overlaps[acequia/api.Deed]"], unfollowed := true, recurses := true, plainKeys := false, apart := false, narrowed := true }
def RegisterAtSpecUptoSaid : Prop := registerAtSpecUptoRow.holds Tryz.pinned (OpenSpec.upto registerAtSpecSpec)

/-- 'acequialaw25.RegisterKept', WHERE WHAT IT READS IS OF BULK AT MOST 1048576: true; the input reads as it did. -/
def registerKeptUptoRow : OpenClaim := { program := "ythcbieoehjhjfaagreat", sum := "91b4dea6350c00740530aacc334238ad31ad3f4273683dab13fea7288fc18813", func := "acequia/acequialaw25.RegisterKept", spec := "registerKept", inPlace := ["slices.overlaps[acequia/api.Deed]"], unfollowed := true, recurses := true, plainKeys := false, apart := false, narrowed := true }
def RegisterKeptUptoSaid : Prop := registerKeptUptoRow.holds Tryz.pinned (OpenSpec.upto registerKeptSpec)

/-- 'acequialaw25.RegisterVoid', WHERE WHAT IT READS IS OF BULK AT MOST 1048576: true; the input reads as it did. -/
def registerVoidUptoRow : OpenClaim := { program := "ythcbieoehjhjfaagreat", sum := "91b4dea6350c00740530aacc334238ad31ad3f4273683dab13fea7288fc18813", func := "acequia/acequialaw25.RegisterVoid", spec := "registerVoid", inPlace := ["slices.overlaps[acequia/api.Deed]"], unfollowed := true, recurses := true, plainKeys := false, apart := false, narrowed := true }
def RegisterVoidUptoSaid : Prop := registerVoidUptoRow.holds Tryz.pinned (OpenSpec.upto registerVoidSpec)

/-- 'acequialaw25.RegisterLater', WHERE WHAT IT READS IS OF BULK AT MOST 1048576: true; the input reads as it did. -/
def registerLaterUptoRow : OpenClaim := { program := "ythcbieoehjhjfaagreat", sum := "91b4dea6350c00740530aacc334238ad31ad3f4273683dab13fea7288fc18813", func := "acequia/acequialaw25.RegisterLater", spec := "registerLater", inPlace := ["slices.overlaps[acequia/api.Deed]"], unfollowed := true, recurses := true, plainKeys := false, apart := false, narrowed := true }
def RegisterLaterUptoSaid : Prop := registerLaterUptoRow.holds Tryz.pinned (OpenSpec.upto registerLaterSpec)

/-- 'acequialaw25.RegisterOrder', WHERE WHAT IT READS IS OF BULK AT MOST 1048576: true; the input reads as it did. -/
def registerOrderUptoRow : OpenClaim := { program := "ythcbieoehjhjfaagreat", sum := "91b4dea6350c00740530aacc334238ad31ad3f4273683dab13fea7288fc18813", func := "acequia/acequialaw25.RegisterOrder", spec := "registerOrder", inPlace := ["slices.overlaps[acequia/api.Deed]"], unfollowed := true, recurses := true, plainKeys := false, apart := false, narrowed := true }
def RegisterOrderUptoSaid : Prop := registerOrderUptoRow.holds Tryz.pinned (OpenSpec.upto registerOrderSpec)

/-- 'acequialaw25.RegisterEmpty', WHERE WHAT IT READS IS OF BULK AT MOST 1048576: true; the input reads as it did. -/
def registerEmptyUptoRow : OpenClaim := { program := "ythcbieoehjhjfaagreat", sum := "91b4dea6350c00740530aacc334238ad31ad3f4273683dab13fea7288fc18813", func := "acequia/acequialaw25.RegisterEmpty", spec := "registerEmpty", inPlace := ["slices.overlaps[acequia/api.Deed]"], unfollowed := true, recurses := true, plainKeys := false, apart := false, narrowed := true }
def RegisterEmptyUptoSaid : Prop := registerEmptyUptoRow.holds Tryz.pinned (OpenSpec.upto registerEmptySpec)

/-- 'acequialaw25.RegisterDivided', WHERE WHAT IT READS IS OF BULK AT MOST 1048576: true; the input reads as it did. -/
def registerDividedUptoRow : OpenClaim := { program := "ythcbieoehjhjfaagreat", sum := "91b4dea6350c00740530aacc334238ad31ad3f4273683dab13fea7288fc18813", func := "acequia/acequialaw25.RegisterDivided", spec := "registerDivided", inPlace := ["slices.overlaps[acequia/api.Deed]"], unfollowed := true, recurses := true, plainKeys := false, apart := false, narrowed := true }
def RegisterDividedUptoSaid : Prop := registerDividedUptoRow.holds Tryz.pinned (OpenSpec.upto registerDividedSpec)

end Rows
end Go.Proofs.YthcbieoehjhjfaaGreat
