/-
  No cell of these rows narrows 'for every input' (looked for: loops, veiled, ifaces, maps, wideKeys, modest, calm, conditions, laid).
  DERIVED. THE GIVEN ROWS OF THIS SEAT. 7 by the template 'for every input the law returns true; each argument reads behind the call as it read before'; 0 by the template 'total and deterministic' (their statements: YtgdkdhdlfdcefaaGreatTotals.lean).
  GIVEN WITH THE SEED: the statements are not yours to turn. If you find one false, say at which input.
  Laid BY PROGRAM, IN A SANDBOX (cutbox-rows.mjs): the forced cells as the released guide's own fill.sh prints them over the translation b8764e2500e4eef1… (all of the seat's roots in one cut). By AI agents, Wed Nov 11 2026. No macro, syntax, notation, axiom, sorry.
-/
import Derived.Test.YtgdkdhdlfdcefaaGreatChecked
import GoSem.Claim
import GoSem.ClaimJoined
import GoSem.ClaimMapViews
import Derived.JoinedTies
import Derived.KernelRfl
namespace Go.Proofs.YtgdkdhdlfdcefaaGreat
/- THE CELL 'sum', in the pinned program and in every row, IS THE sha256 OF THE DUMP (.gsa) THAT YtgdkdhdlfdcefaaGreatProg.lean LOADS. Nothing in Lean hashes anything: it is a label: what it is worth is what the hold of that sum in a sandbox is worth. -/
noncomputable def Tryz.pinned : Pinned := { name := "ytgdkdhdlfdcefaagreat", sum := "b8764e2500e4eef13fa3851d87fb397865cbd39ba899d30fecf7e5894db04ce1", checked := Tryz.checked }
namespace Rows
def none {H : Type} : Left H := { results := [], args := [] }

/-- 'acequialaw26.ClaimsSpec': WHATEVER THE INPUT: true; the input reads as it did. -/
def claimsSpecSpec : ChangeSpec := { name := "claimsSpec", fn := fun _ => fun
  | [d1, d2, d3, d4, d5] => { results := [.lit (.bool true)], args := [d1, d2, d3, d4, d5] }
  | _ => none }
def claimsSpecRow : OpenClaim := { program := "ytgdkdhdlfdcefaagreat", sum := "b8764e2500e4eef13fa3851d87fb397865cbd39ba899d30fecf7e5894db04ce1", func := "acequia/acequialaw26.ClaimsSpec", spec := "claimsSpec", unfollowed := true, recurses := true, plainKeys := false, apart := false }
def ClaimsSpecSaid : Prop := claimsSpecRow.holds Tryz.pinned (OpenSpec.ofChange claimsSpecSpec)

/-- ITS FALSE NEIGHBOUR: 'it returns false'. Refute it at one input. -/
def claimsSpecWrong : ChangeSpec := { name := "claimsSpec", fn := fun _ => fun
  | [d1, d2, d3, d4, d5] => { results := [.lit (.bool false)], args := [d1, d2, d3, d4, d5] }
  | _ => none }
def ClaimsSpecWrongFalsely : Prop := claimsSpecRow.holds Tryz.pinned (OpenSpec.ofChange claimsSpecWrong)

/-- 'acequialaw26.ClaimsCheckSpec': WHATEVER THE INPUT: true; the input reads as it did. -/
def claimsCheckSpecSpec : ChangeSpec := { name := "claimsCheckSpec", fn := fun _ => fun
  | [d1, d2, d3, d4, d5, d6] => { results := [.lit (.bool true)], args := [d1, d2, d3, d4, d5, d6] }
  | _ => none }
def claimsCheckSpecRow : OpenClaim := { program := "ytgdkdhdlfdcefaagreat", sum := "b8764e2500e4eef13fa3851d87fb397865cbd39ba899d30fecf7e5894db04ce1", func := "acequia/acequialaw26.ClaimsCheckSpec", spec := "claimsCheckSpec", unfollowed := true, recurses := true, plainKeys := false, apart := false }
def ClaimsCheckSpecSaid : Prop := claimsCheckSpecRow.holds Tryz.pinned (OpenSpec.ofChange claimsCheckSpecSpec)

/-- ITS FALSE NEIGHBOUR: 'it returns false'. Refute it at one input. -/
def claimsCheckSpecWrong : ChangeSpec := { name := "claimsCheckSpec", fn := fun _ => fun
  | [d1, d2, d3, d4, d5, d6] => { results := [.lit (.bool false)], args := [d1, d2, d3, d4, d5, d6] }
  | _ => none }
def ClaimsCheckSpecWrongFalsely : Prop := claimsCheckSpecRow.holds Tryz.pinned (OpenSpec.ofChange claimsCheckSpecWrong)

/-- 'acequialaw26.ClaimsOnce': WHATEVER THE INPUT: true; the input reads as it did. -/
def claimsOnceSpec : ChangeSpec := { name := "claimsOnce", fn := fun _ => fun
  | [d1, d2, d3, d4, d5] => { results := [.lit (.bool true)], args := [d1, d2, d3, d4, d5] }
  | _ => none }
def claimsOnceRow : OpenClaim := { program := "ytgdkdhdlfdcefaagreat", sum := "b8764e2500e4eef13fa3851d87fb397865cbd39ba899d30fecf7e5894db04ce1", func := "acequia/acequialaw26.ClaimsOnce", spec := "claimsOnce", unfollowed := true, recurses := true, plainKeys := false, apart := false }
def ClaimsOnceSaid : Prop := claimsOnceRow.holds Tryz.pinned (OpenSpec.ofChange claimsOnceSpec)

/-- ITS FALSE NEIGHBOUR: 'it returns false'. Refute it at one input. -/
def claimsOnceWrong : ChangeSpec := { name := "claimsOnce", fn := fun _ => fun
  | [d1, d2, d3, d4, d5] => { results := [.lit (.bool false)], args := [d1, d2, d3, d4, d5] }
  | _ => none }
def ClaimsOnceWrongFalsely : Prop := claimsOnceRow.holds Tryz.pinned (OpenSpec.ofChange claimsOnceWrong)

/-- 'acequialaw26.ClaimsTrespass': WHATEVER THE INPUT: true; the input reads as it did. -/
def claimsTrespassSpec : ChangeSpec := { name := "claimsTrespass", fn := fun _ => fun
  | [d1, d2, d3, d4, d5] => { results := [.lit (.bool true)], args := [d1, d2, d3, d4, d5] }
  | _ => none }
def claimsTrespassRow : OpenClaim := { program := "ytgdkdhdlfdcefaagreat", sum := "b8764e2500e4eef13fa3851d87fb397865cbd39ba899d30fecf7e5894db04ce1", func := "acequia/acequialaw26.ClaimsTrespass", spec := "claimsTrespass", unfollowed := true, recurses := true, plainKeys := false, apart := false }
def ClaimsTrespassSaid : Prop := claimsTrespassRow.holds Tryz.pinned (OpenSpec.ofChange claimsTrespassSpec)

/-- ITS FALSE NEIGHBOUR: 'it returns false'. Refute it at one input. -/
def claimsTrespassWrong : ChangeSpec := { name := "claimsTrespass", fn := fun _ => fun
  | [d1, d2, d3, d4, d5] => { results := [.lit (.bool false)], args := [d1, d2, d3, d4, d5] }
  | _ => none }
def ClaimsTrespassWrongFalsely : Prop := claimsTrespassRow.holds Tryz.pinned (OpenSpec.ofChange claimsTrespassWrong)

/-- 'acequialaw26.ClaimsEasement': WHATEVER THE INPUT: true; the input reads as it did. -/
def claimsEasementSpec : ChangeSpec := { name := "claimsEasement", fn := fun _ => fun
  | [d1, d2, d3, d4, d5, d6, d7] => { results := [.lit (.bool true)], args := [d1, d2, d3, d4, d5, d6, d7] }
  | _ => none }
def claimsEasementRow : OpenClaim := { program := "ytgdkdhdlfdcefaagreat", sum := "b8764e2500e4eef13fa3851d87fb397865cbd39ba899d30fecf7e5894db04ce1", func := "acequia/acequialaw26.ClaimsEasement", spec := "claimsEasement", unfollowed := true, recurses := true, plainKeys := false, apart := false }
def ClaimsEasementSaid : Prop := claimsEasementRow.holds Tryz.pinned (OpenSpec.ofChange claimsEasementSpec)

/-- ITS FALSE NEIGHBOUR: 'it returns false'. Refute it at one input. -/
def claimsEasementWrong : ChangeSpec := { name := "claimsEasement", fn := fun _ => fun
  | [d1, d2, d3, d4, d5, d6, d7] => { results := [.lit (.bool false)], args := [d1, d2, d3, d4, d5, d6, d7] }
  | _ => none }
def ClaimsEasementWrongFalsely : Prop := claimsEasementRow.holds Tryz.pinned (OpenSpec.ofChange claimsEasementWrong)

/-- 'acequialaw26.ClaimsParts': WHATEVER THE INPUT: true; the input reads as it did. -/
def claimsPartsSpec : ChangeSpec := { name := "claimsParts", fn := fun _ => fun
  | [d1, d2, d3, d4, d5, d6] => { results := [.lit (.bool true)], args := [d1, d2, d3, d4, d5, d6] }
  | _ => none }
def claimsPartsRow : OpenClaim := { program := "ytgdkdhdlfdcefaagreat", sum := "b8764e2500e4eef13fa3851d87fb397865cbd39ba899d30fecf7e5894db04ce1", func := "acequia/acequialaw26.ClaimsParts", spec := "claimsParts", unfollowed := true, recurses := true, plainKeys := false, apart := false }
def ClaimsPartsSaid : Prop := claimsPartsRow.holds Tryz.pinned (OpenSpec.ofChange claimsPartsSpec)

/-- ITS FALSE NEIGHBOUR: 'it returns false'. Refute it at one input. -/
def claimsPartsWrong : ChangeSpec := { name := "claimsParts", fn := fun _ => fun
  | [d1, d2, d3, d4, d5, d6] => { results := [.lit (.bool false)], args := [d1, d2, d3, d4, d5, d6] }
  | _ => none }
def ClaimsPartsWrongFalsely : Prop := claimsPartsRow.holds Tryz.pinned (OpenSpec.ofChange claimsPartsWrong)

/-- 'acequialaw26.ClaimsKnown': WHATEVER THE INPUT: true; the input reads as it did. -/
def claimsKnownSpec : ChangeSpec := { name := "claimsKnown", fn := fun _ => fun
  | [d1, d2, d3, d4, d5] => { results := [.lit (.bool true)], args := [d1, d2, d3, d4, d5] }
  | _ => none }
def claimsKnownRow : OpenClaim := { program := "ytgdkdhdlfdcefaagreat", sum := "b8764e2500e4eef13fa3851d87fb397865cbd39ba899d30fecf7e5894db04ce1", func := "acequia/acequialaw26.ClaimsKnown", spec := "claimsKnown", unfollowed := true, recurses := true, plainKeys := false, apart := false }
def ClaimsKnownSaid : Prop := claimsKnownRow.holds Tryz.pinned (OpenSpec.ofChange claimsKnownSpec)

/-- ITS FALSE NEIGHBOUR: 'it returns false'. Refute it at one input. -/
def claimsKnownWrong : ChangeSpec := { name := "claimsKnown", fn := fun _ => fun
  | [d1, d2, d3, d4, d5] => { results := [.lit (.bool false)], args := [d1, d2, d3, d4, d5] }
  | _ => none }
def ClaimsKnownWrongFalsely : Prop := claimsKnownRow.holds Tryz.pinned (OpenSpec.ofChange claimsKnownWrong)

/- THE SECOND FORM. 'bulk': how many values and letters a reading holds, each counted each time it is reached (what is shared counts as often as it is met; a slice's spare places count too). A statement '..UptoSaid' is the law's where the arguments, and the package variables that the reading takes, are together of bulk at most 1048576: NARROWER than '..Said'. Prove '..Said' where nothing that the law and all that it calls make is longer than what came in: it says more and counts as full. Else prove '..UptoSaid'. A law counts once. -/
mutual
def uptoBulk {H : Type} : DataW H → Nat
  | .lit (.string bytes) => bytes.length + 1
  | .lit _ => 1
  | .nil => 1
  | .ptr d => uptoBulk d + 1
  | .slice elems spare => uptoBulkAll elems + uptoBulkAll spare + 1
  | .agg parts => uptoBulkAll parts + 1
  | .iface _ d => uptoBulk d + 1
  | .map entries => uptoBulkEntries entries + 1
  | .held _ => 1
def uptoBulkAll {H : Type} : List (DataW H) → Nat
  | [] => 0
  | d :: r => uptoBulk d + uptoBulkAll r
def uptoBulkEntries {H : Type} : List (Lit × DataW H) → Nat
  | [] => 0
  | x :: r => uptoBulkEntry x + uptoBulkEntries r
def uptoBulkEntry {H : Type} : Lit × DataW H → Nat
  | (.string bytes, d) => bytes.length + uptoBulk d + 1
  | (_, d) => uptoBulk d + 1
 end
def uptoSmall : (H : Type) → List (DataW H) → Bool := fun _ ds => decide (uptoBulkAll ds ≤ 1048576)
def OpenSpec.upto (s : _root_.Go.ChangeSpec) : _root_.Go.OpenSpec := { _root_.Go.OpenSpec.ofChange s with cond := some uptoSmall }

/-- 'acequialaw26.ClaimsSpec', WHERE WHAT IT READS IS OF BULK AT MOST 1048576: true; the input reads as it did. -/
def claimsSpecUptoRow : OpenClaim := { program := "ytgdkdhdlfdcefaagreat", sum := "b8764e2500e4eef13fa3851d87fb397865cbd39ba899d30fecf7e5894db04ce1", func := "acequia/acequialaw26.ClaimsSpec", spec := "claimsSpec", unfollowed := true, recurses := true, plainKeys := false, apart := false, narrowed := true }
def ClaimsSpecUptoSaid : Prop := claimsSpecUptoRow.holds Tryz.pinned (OpenSpec.upto claimsSpecSpec)

/-- 'acequialaw26.ClaimsCheckSpec', WHERE WHAT IT READS IS OF BULK AT MOST 1048576: true; the input reads as it did. -/
def claimsCheckSpecUptoRow : OpenClaim := { program := "ytgdkdhdlfdcefaagreat", sum := "b8764e2500e4eef13fa3851d87fb397865cbd39ba899d30fecf7e5894db04ce1", func := "acequia/acequialaw26.ClaimsCheckSpec", spec := "claimsCheckSpec", unfollowed := true, recurses := true, plainKeys := false, apart := false, narrowed := true }
def ClaimsCheckSpecUptoSaid : Prop := claimsCheckSpecUptoRow.holds Tryz.pinned (OpenSpec.upto claimsCheckSpecSpec)

/-- 'acequialaw26.ClaimsOnce', WHERE WHAT IT READS IS OF BULK AT MOST 1048576: true; the input reads as it did. -/
def claimsOnceUptoRow : OpenClaim := { program := "ytgdkdhdlfdcefaagreat", sum := "b8764e2500e4eef13fa3851d87fb397865cbd39ba899d30fecf7e5894db04ce1", func := "acequia/acequialaw26.ClaimsOnce", spec := "claimsOnce", unfollowed := true, recurses := true, plainKeys := false, apart := false, narrowed := true }
def ClaimsOnceUptoSaid : Prop := claimsOnceUptoRow.holds Tryz.pinned (OpenSpec.upto claimsOnceSpec)

/-- 'acequialaw26.ClaimsTrespass', WHERE WHAT IT READS IS OF BULK AT MOST 1048576: true; the input reads as it did. -/
def claimsTrespassUptoRow : OpenClaim := { program := "ytgdkdhdlfdcefaagreat", sum := "b8764e2500e4eef13fa3851d87fb397865cbd39ba899d30fecf7e5894db04ce1", func := "acequia/acequialaw26.ClaimsTrespass", spec := "claimsTrespass", unfollowed := true, recurses := true, plainKeys := false, apart := false, narrowed := true }
def ClaimsTrespassUptoSaid : Prop := claimsTrespassUptoRow.holds Tryz.pinned (OpenSpec.upto claimsTrespassSpec)

/-- 'acequialaw26.ClaimsEasement', WHERE WHAT IT READS IS OF BULK AT MOST 1048576: true; the input reads as it did. -/
def claimsEasementUptoRow : OpenClaim := { program := "ytgdkdhdlfdcefaagreat", sum := "b8764e2500e4eef13fa3851d87fb397865cbd39ba899d30fecf7e5894db04ce1", func := "acequia/acequialaw26.ClaimsEasement", spec := "claimsEasement", unfollowed := true, recurses := true, plainKeys := false, apart := false, narrowed := true }
def ClaimsEasementUptoSaid : Prop := claimsEasementUptoRow.holds Tryz.pinned (OpenSpec.upto claimsEasementSpec)

/-- 'acequialaw26.ClaimsParts', WHERE WHAT IT READS IS OF BULK AT MOST 1048576: true; the input reads as it did. -/
def claimsPartsUptoRow : OpenClaim := { program := "ytgdkdhdlfdcefaagreat", sum := "b8764e2500e4eef13fa3851d87fb397865cbd39ba899d30fecf7e5894db04ce1", func := "acequia/acequialaw26.ClaimsParts", spec := "claimsParts", unfollowed := true, recurses := true, plainKeys := false, apart := false, narrowed := true }
def ClaimsPartsUptoSaid : Prop := claimsPartsUptoRow.holds Tryz.pinned (OpenSpec.upto claimsPartsSpec)

/-- 'acequialaw26.ClaimsKnown', WHERE WHAT IT READS IS OF BULK AT MOST 1048576: true; the input reads as it did. -/
def claimsKnownUptoRow : OpenClaim := { program := "ytgdkdhdlfdcefaagreat", sum := "b8764e2500e4eef13fa3851d87fb397865cbd39ba899d30fecf7e5894db04ce1", func := "acequia/acequialaw26.ClaimsKnown", spec := "claimsKnown", unfollowed := true, recurses := true, plainKeys := false, apart := false, narrowed := true }
def ClaimsKnownUptoSaid : Prop := claimsKnownUptoRow.holds Tryz.pinned (OpenSpec.upto claimsKnownSpec)

end Rows
end Go.Proofs.YtgdkdhdlfdcefaaGreat
