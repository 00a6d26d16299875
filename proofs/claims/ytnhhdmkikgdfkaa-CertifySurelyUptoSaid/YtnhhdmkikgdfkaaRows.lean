/-
  No cell of these rows narrows 'for every input' (looked for: loops, veiled, ifaces, maps, wideKeys, modest, calm, conditions, laid).
  DERIVED. THE GIVEN ROWS OF THIS SEAT. 4 by the template 'for every input the law returns true; each argument reads behind the call as it read before'; 0 by the template 'total and deterministic' (their statements: YtnhhdmkikgdfkaaTotals.lean).
  GIVEN WITH THE SEED: the statements are not yours to turn. If you find one false, say at which input.
  Laid BY PROGRAM, IN A SANDBOX (cutbox-rows.mjs): the forced cells as the released guide's own fill.sh prints them over the translation 5056d65de8b6f2ff… (all of the seat's roots in one cut). By AI agents, Wed Nov 11 2026. No macro, syntax, notation, axiom, sorry.
-/
import Derived.Test.YtnhhdmkikgdfkaaChecked
import GoSem.Claim
import GoSem.ClaimJoined
import GoSem.ClaimMapViews
import Derived.JoinedTies
import Derived.KernelRfl
namespace Go.Proofs.Ytnhhdmkikgdfkaa
/- THE CELL 'sum', in the pinned program and in every row, IS THE sha256 OF THE DUMP (.gsa) THAT YtnhhdmkikgdfkaaProg.lean LOADS. Nothing in Lean hashes anything: it is a label: what it is worth is what the hold of that sum in a sandbox is worth. -/
noncomputable def Try.pinned : Pinned := { name := "ytnhhdmkikgdfkaa", sum := "5056d65de8b6f2ff49d229ffc1ed0cd769b204f1c7942987e6c11ed58e2e39a5", checked := Try.checked }
namespace Rows
def none {H : Type} : Left H := { results := [], args := [] }

/-- 'acequialaw28.CertifyArriveSpec': WHATEVER THE INPUT: true; the input reads as it did. -/
def certifyArriveSpecSpec : ChangeSpec := { name := "certifyArriveSpec", fn := fun _ => fun
  | [d1, d2, d3, d4] => { results := [.lit (.bool true)], args := [d1, d2, d3, d4] }
  | _ => none }
def certifyArriveSpecRow : OpenClaim := { program := "ytnhhdmkikgdfkaa", sum := "5056d65de8b6f2ff49d229ffc1ed0cd769b204f1c7942987e6c11ed58e2e39a5", func := "acequia/acequialaw28.CertifyArriveSpec", spec := "certifyArriveSpec", unfollowed := true, recurses := true, plainKeys := false, apart := false }
def CertifyArriveSpecSaid : Prop := certifyArriveSpecRow.holds Try.pinned (OpenSpec.ofChange certifyArriveSpecSpec)

/-- ITS FALSE NEIGHBOUR: 'it returns false'. Refute it at one input. -/
def certifyArriveSpecWrong : ChangeSpec := { name := "certifyArriveSpec", fn := fun _ => fun
  | [d1, d2, d3, d4] => { results := [.lit (.bool false)], args := [d1, d2, d3, d4] }
  | _ => none }
def CertifyArriveSpecWrongFalsely : Prop := certifyArriveSpecRow.holds Try.pinned (OpenSpec.ofChange certifyArriveSpecWrong)

/-- 'acequialaw28.CertifyLess': WHATEVER THE INPUT: true; the input reads as it did. -/
def certifyLessSpec : ChangeSpec := { name := "certifyLess", fn := fun _ => fun
  | [d1, d2, d3, d4, d5] => { results := [.lit (.bool true)], args := [d1, d2, d3, d4, d5] }
  | _ => none }
def certifyLessRow : OpenClaim := { program := "ytnhhdmkikgdfkaa", sum := "5056d65de8b6f2ff49d229ffc1ed0cd769b204f1c7942987e6c11ed58e2e39a5", func := "acequia/acequialaw28.CertifyLess", spec := "certifyLess", unfollowed := true, recurses := true, plainKeys := false, apart := false }
def CertifyLessSaid : Prop := certifyLessRow.holds Try.pinned (OpenSpec.ofChange certifyLessSpec)

/-- ITS FALSE NEIGHBOUR: 'it returns false'. Refute it at one input. -/
def certifyLessWrong : ChangeSpec := { name := "certifyLess", fn := fun _ => fun
  | [d1, d2, d3, d4, d5] => { results := [.lit (.bool false)], args := [d1, d2, d3, d4, d5] }
  | _ => none }
def CertifyLessWrongFalsely : Prop := certifyLessRow.holds Try.pinned (OpenSpec.ofChange certifyLessWrong)

/-- 'acequialaw28.CertifyFaults': WHATEVER THE INPUT: true; the input reads as it did. -/
def certifyFaultsSpec : ChangeSpec := { name := "certifyFaults", fn := fun _ => fun
  | [d1, d2, d3] => { results := [.lit (.bool true)], args := [d1, d2, d3] }
  | _ => none }
def certifyFaultsRow : OpenClaim := { program := "ytnhhdmkikgdfkaa", sum := "5056d65de8b6f2ff49d229ffc1ed0cd769b204f1c7942987e6c11ed58e2e39a5", func := "acequia/acequialaw28.CertifyFaults", spec := "certifyFaults", unfollowed := true, recurses := true, plainKeys := false, apart := false }
def CertifyFaultsSaid : Prop := certifyFaultsRow.holds Try.pinned (OpenSpec.ofChange certifyFaultsSpec)

/-- ITS FALSE NEIGHBOUR: 'it returns false'. Refute it at one input. -/
def certifyFaultsWrong : ChangeSpec := { name := "certifyFaults", fn := fun _ => fun
  | [d1, d2, d3] => { results := [.lit (.bool false)], args := [d1, d2, d3] }
  | _ => none }
def CertifyFaultsWrongFalsely : Prop := certifyFaultsRow.holds Try.pinned (OpenSpec.ofChange certifyFaultsWrong)

/-- 'acequialaw28.CertifySurely': WHATEVER THE INPUT: true; the input reads as it did. -/
def certifySurelySpec : ChangeSpec := { name := "certifySurely", fn := fun _ => fun
  | [d1, d2, d3, d4] => { results := [.lit (.bool true)], args := [d1, d2, d3, d4] }
  | _ => none }
def certifySurelyRow : OpenClaim := { program := "ytnhhdmkikgdfkaa", sum := "5056d65de8b6f2ff49d229ffc1ed0cd769b204f1c7942987e6c11ed58e2e39a5", func := "acequia/acequialaw28.CertifySurely", spec := "certifySurely", unfollowed := true, recurses := true, plainKeys := false, apart := false }
def CertifySurelySaid : Prop := certifySurelyRow.holds Try.pinned (OpenSpec.ofChange certifySurelySpec)

/-- ITS FALSE NEIGHBOUR: 'it returns false'. Refute it at one input. -/
def certifySurelyWrong : ChangeSpec := { name := "certifySurely", fn := fun _ => fun
  | [d1, d2, d3, d4] => { results := [.lit (.bool false)], args := [d1, d2, d3, d4] }
  | _ => none }
def CertifySurelyWrongFalsely : Prop := certifySurelyRow.holds Try.pinned (OpenSpec.ofChange certifySurelyWrong)

/- THE SECOND FORM. 'bulk': how many values and letters a reading holds, each counted each time it is reached (what is shared counts as often as it is met; a slice's spare places count too). A statement '..UptoSaid' is the law's where the arguments, and the package variables that the reading takes, are together of bulk at most 1048576: NARROWER than '..Said'. Prove '..Said' where nothing that the law and all that it calls make is longer than what came in: it says more and counts as full. Else prove '..UptoSaid'. A law counts once. -/
mutual
def uptoBulk {H : Type} : DataW H → Nat
  | .lit (.string bytes) => bytes.length + 1
  | .lit _ => 1
  | .nil => 1
  | .ptr d => uptoBulk d + 1
  | .slice elems spare => uptoBulkAll elems + uptoBulkAll spare + 1
  | .agg parts => uptoBulkAll parts + 1
  | .iface _ d => uptoBulk d + 1
  | .map entries => uptoBulkEntries entries + 1
  | .held _ => 1
def uptoBulkAll {H : Type} : List (DataW H) → Nat
  | [] => 0
  | d :: r => uptoBulk d + uptoBulkAll r
def uptoBulkEntries {H : Type} : List (Lit × DataW H) → Nat
  | [] => 0
  | x :: r => uptoBulkEntry x + uptoBulkEntries r
def uptoBulkEntry {H : Type} : Lit × DataW H → Nat
  | (.string bytes, d) => bytes.length + uptoBulk d + 1
  | (_, d) => uptoBulk d + 1
 end
def uptoSmall : (H : Type) → List (DataW H) → Bool := fun _ ds => decide (uptoBulkAll ds ≤ 1048576)
def OpenSpec.upto (s : _root_.Go.ChangeSpec) : _root_.Go.OpenSpec := { _root_.Go.OpenSpec.ofChange s with cond := some uptoSmall }

/-- 'acequialaw28.CertifyArriveSpec', WHERE WHAT IT READS IS OF BULK AT MOST 1048576: true; the input reads as it did. -/
def certifyArriveSpecUptoRow : OpenClaim := { program := "ytnhhdmkikgdfkaa", sum := "5056d65de8b6f2ff49d229ffc1ed0cd769b204f1c7942987e6c11ed58e2e39a5", func := "acequia/acequialaw28.CertifyArriveSpec", spec := "certifyArriveSpec", unfollowed := true, recurses := true, plainKeys := false, apart := false, narrowed := true }
def CertifyArriveSpecUptoSaid : Prop := certifyArriveSpecUptoRow.holds Try.pinned (OpenSpec.upto certifyArriveSpecSpec)

/-- 'acequialaw28.CertifyLess', WHERE WHAT IT READS IS OF BULK AT MOST 1048576: true; the input reads as it did. -/
def certifyLessUptoRow : OpenClaim := { program := "ytnhhdmkikgdfkaa", sum := "5056d65de8b6f2ff49d229ffc1ed0cd769b204f1c7942987e6c11ed58e2e39a5", func := "acequia/acequialaw28.CertifyLess", spec := "certifyLess", unfollowed := true, recurses := true, plainKeys := false, apart := false, narrowed := true }
def CertifyLessUptoSaid : Prop := certifyLessUptoRow.holds Try.pinned (OpenSpec.upto certifyLessSpec)

/-- 'acequialaw28.CertifyFaults', WHERE WHAT IT READS IS OF BULK AT MOST 1048576: true; the input reads as it did. -/
def certifyFaultsUptoRow : OpenClaim := { program := "ytnhhdmkikgdfkaa", sum := "5056d65de8b6f2ff49d229ffc1ed0cd769b204f1c7942987e6c11ed58e2e39a5", func := "acequia/acequialaw28.CertifyFaults", spec := "certifyFaults", unfollowed := true, recurses := true, plainKeys := false, apart := false, narrowed := true }
def CertifyFaultsUptoSaid : Prop := certifyFaultsUptoRow.holds Try.pinned (OpenSpec.upto certifyFaultsSpec)

/-- 'acequialaw28.CertifySurely', WHERE WHAT IT READS IS OF BULK AT MOST 1048576: true; the input reads as it did. -/
def certifySurelyUptoRow : OpenClaim := { program := "ytnhhdmkikgdfkaa", sum := "5056d65de8b6f2ff49d229ffc1ed0cd769b204f1c7942987e6c11ed58e2e39a5", func := "acequia/acequialaw28.CertifySurely", spec := "certifySurely", unfollowed := true, recurses := true, plainKeys := false, apart := false, narrowed := true }
def CertifySurelyUptoSaid : Prop := certifySurelyUptoRow.holds Try.pinned (OpenSpec.upto certifySurelySpec)

end Rows
end Go.Proofs.Ytnhhdmkikgdfkaa
