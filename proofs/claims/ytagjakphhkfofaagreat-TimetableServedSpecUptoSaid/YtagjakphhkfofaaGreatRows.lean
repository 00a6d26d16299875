/-
  No cell of these rows narrows 'for every input' (looked for: loops, veiled, ifaces, maps, wideKeys, modest, calm, conditions, laid).
  DERIVED. THE GIVEN ROWS OF THIS SEAT. 7 by the template 'for every input the law returns true; each argument reads behind the call as it read before'; 0 by the template 'total and deterministic' (their statements: YtagjakphhkfofaaGreatTotals.lean).
  GIVEN WITH THE SEED: the statements are not yours to turn. If you find one false, say at which input.
  Laid BY PROGRAM, IN A SANDBOX (cutbox-rows.mjs): the forced cells as the released guide's own fill.sh prints them over the translation 5c368e534c7cde3c… (all of the seat's roots in one cut). By AI agents, Wed Nov 11 2026. No macro, syntax, notation, axiom, sorry.
-/
import Derived.Test.YtagjakphhkfofaaGreatChecked
import GoSem.Claim
import GoSem.ClaimJoined
import GoSem.ClaimMapViews
import Derived.JoinedTies
import Derived.KernelRfl
namespace Go.Proofs.YtagjakphhkfofaaGreat
/- THE CELL 'sum', in the pinned program and in every row, IS THE sha256 OF THE DUMP (.gsa) THAT YtagjakphhkfofaaGreatProg.lean LOADS. Nothing in Lean hashes anything: it is a label: what it is worth is what the hold of that sum in a sandbox is worth. -/
noncomputable def Tryz.pinned : Pinned := { name := "ytagjakphhkfofaagreat", sum := "5c368e534c7cde3c38950b295983fe3da3448528afc2a7e41a69c874118e3d37", checked := Tryz.checked }
namespace Rows
def none {H : Type} : Left H := { results := [], args := [] }

/-- 'acequialaw27.TimetableSpec': WHATEVER THE INPUT: true; the input reads as it did. -/
def timetableSpecSpec : ChangeSpec := { name := "timetableSpec", fn := fun _ => fun
  | [d1, d2] => { results := [.lit (.bool true)], args := [d1, d2] }
  | _ => none }
def timetableSpecRow : OpenClaim := { program := "ytagjakphhkfofaagreat", sum := "5c368e534c7cde3c38950b295983fe3da3448528afc2a7e41a69c874118e3d37", func := "acequia/acequialaw27.TimetableSpec", spec := "timetableSpec", unfollowed := true, recurses := true, plainKeys := false, apart := false }
def TimetableSpecSaid : Prop := timetableSpecRow.holds Tryz.pinned (OpenSpec.ofChange timetableSpecSpec)

/-- ITS FALSE NEIGHBOUR: 'it returns false'. Refute it at one input. -/
def timetableSpecWrong : ChangeSpec := { name := "timetableSpec", fn := fun _ => fun
  | [d1, d2] => { results := [.lit (.bool false)], args := [d1, d2] }
  | _ => none }
def TimetableSpecWrongFalsely : Prop := timetableSpecRow.holds Tryz.pinned (OpenSpec.ofChange timetableSpecWrong)

/-- 'acequialaw27.TimetableServedSpec': WHATEVER THE INPUT: true; the input reads as it did. -/
def timetableServedSpecSpec : ChangeSpec := { name := "timetableServedSpec", fn := fun _ => fun
  | [d1, d2] => { results := [.lit (.bool true)], args := [d1, d2] }
  | _ => none }
def timetableServedSpecRow : OpenClaim := { program := "ytagjakphhkfofaagreat", sum := "5c368e534c7cde3c38950b295983fe3da3448528afc2a7e41a69c874118e3d37", func := "acequia/acequialaw27.TimetableServedSpec", spec := "timetableServedSpec", unfollowed := true, recurses := true, plainKeys := false, apart := false }
def TimetableServedSpecSaid : Prop := timetableServedSpecRow.holds Tryz.pinned (OpenSpec.ofChange timetableServedSpecSpec)

/-- ITS FALSE NEIGHBOUR: 'it returns false'. Refute it at one input. -/
def timetableServedSpecWrong : ChangeSpec := { name := "timetableServedSpec", fn := fun _ => fun
  | [d1, d2] => { results := [.lit (.bool false)], args := [d1, d2] }
  | _ => none }
def TimetableServedSpecWrongFalsely : Prop := timetableServedSpecRow.holds Tryz.pinned (OpenSpec.ofChange timetableServedSpecWrong)

/-- 'acequialaw27.TimetableFewer': WHATEVER THE INPUT: true; the input reads as it did. -/
def timetableFewerSpec : ChangeSpec := { name := "timetableFewer", fn := fun _ => fun
  | [d1, d2, d3, d4] => { results := [.lit (.bool true)], args := [d1, d2, d3, d4] }
  | _ => none }
def timetableFewerRow : OpenClaim := { program := "ytagjakphhkfofaagreat", sum := "5c368e534c7cde3c38950b295983fe3da3448528afc2a7e41a69c874118e3d37", func := "acequia/acequialaw27.TimetableFewer", spec := "timetableFewer", unfollowed := true, recurses := true, plainKeys := false, apart := false }
def TimetableFewerSaid : Prop := timetableFewerRow.holds Tryz.pinned (OpenSpec.ofChange timetableFewerSpec)

/-- ITS FALSE NEIGHBOUR: 'it returns false'. Refute it at one input. -/
def timetableFewerWrong : ChangeSpec := { name := "timetableFewer", fn := fun _ => fun
  | [d1, d2, d3, d4] => { results := [.lit (.bool false)], args := [d1, d2, d3, d4] }
  | _ => none }
def TimetableFewerWrongFalsely : Prop := timetableFewerRow.holds Tryz.pinned (OpenSpec.ofChange timetableFewerWrong)

/-- 'acequialaw27.TimetableSenior': WHATEVER THE INPUT: true; the input reads as it did. -/
def timetableSeniorSpec : ChangeSpec := { name := "timetableSenior", fn := fun _ => fun
  | [d1, d2] => { results := [.lit (.bool true)], args := [d1, d2] }
  | _ => none }
def timetableSeniorRow : OpenClaim := { program := "ytagjakphhkfofaagreat", sum := "5c368e534c7cde3c38950b295983fe3da3448528afc2a7e41a69c874118e3d37", func := "acequia/acequialaw27.TimetableSenior", spec := "timetableSenior", unfollowed := true, recurses := true, plainKeys := false, apart := false }
def TimetableSeniorSaid : Prop := timetableSeniorRow.holds Tryz.pinned (OpenSpec.ofChange timetableSeniorSpec)

/-- ITS FALSE NEIGHBOUR: 'it returns false'. Refute it at one input. -/
def timetableSeniorWrong : ChangeSpec := { name := "timetableSenior", fn := fun _ => fun
  | [d1, d2] => { results := [.lit (.bool false)], args := [d1, d2] }
  | _ => none }
def TimetableSeniorWrongFalsely : Prop := timetableSeniorRow.holds Tryz.pinned (OpenSpec.ofChange timetableSeniorWrong)

/-- 'acequialaw27.TimetableSure': WHATEVER THE INPUT: true; the input reads as it did. -/
def timetableSureSpec : ChangeSpec := { name := "timetableSure", fn := fun _ => fun
  | [d1, d2] => { results := [.lit (.bool true)], args := [d1, d2] }
  | _ => none }
def timetableSureRow : OpenClaim := { program := "ytagjakphhkfofaagreat", sum := "5c368e534c7cde3c38950b295983fe3da3448528afc2a7e41a69c874118e3d37", func := "acequia/acequialaw27.TimetableSure", spec := "timetableSure", unfollowed := true, recurses := true, plainKeys := false, apart := false }
def TimetableSureSaid : Prop := timetableSureRow.holds Tryz.pinned (OpenSpec.ofChange timetableSureSpec)

/-- ITS FALSE NEIGHBOUR: 'it returns false'. Refute it at one input. -/
def timetableSureWrong : ChangeSpec := { name := "timetableSure", fn := fun _ => fun
  | [d1, d2] => { results := [.lit (.bool false)], args := [d1, d2] }
  | _ => none }
def TimetableSureWrongFalsely : Prop := timetableSureRow.holds Tryz.pinned (OpenSpec.ofChange timetableSureWrong)

/-- 'acequialaw27.TimetableLeast': WHATEVER THE INPUT: true; the input reads as it did. -/
def timetableLeastSpec : ChangeSpec := { name := "timetableLeast", fn := fun _ => fun
  | [d1, d2, d3] => { results := [.lit (.bool true)], args := [d1, d2, d3] }
  | _ => none }
def timetableLeastRow : OpenClaim := { program := "ytagjakphhkfofaagreat", sum := "5c368e534c7cde3c38950b295983fe3da3448528afc2a7e41a69c874118e3d37", func := "acequia/acequialaw27.TimetableLeast", spec := "timetableLeast", unfollowed := true, recurses := true, plainKeys := false, apart := false }
def TimetableLeastSaid : Prop := timetableLeastRow.holds Tryz.pinned (OpenSpec.ofChange timetableLeastSpec)

/-- ITS FALSE NEIGHBOUR: 'it returns false'. Refute it at one input. -/
def timetableLeastWrong : ChangeSpec := { name := "timetableLeast", fn := fun _ => fun
  | [d1, d2, d3] => { results := [.lit (.bool false)], args := [d1, d2, d3] }
  | _ => none }
def TimetableLeastWrongFalsely : Prop := timetableLeastRow.holds Tryz.pinned (OpenSpec.ofChange timetableLeastWrong)

/-- 'acequialaw28.CertifyLeast': WHATEVER THE INPUT: true; the input reads as it did. -/
def certifyLeastSpec : ChangeSpec := { name := "certifyLeast", fn := fun _ => fun
  | [d1, d2, d3] => { results := [.lit (.bool true)], args := [d1, d2, d3] }
  | _ => none }
def certifyLeastRow : OpenClaim := { program := "ytagjakphhkfofaagreat", sum := "5c368e534c7cde3c38950b295983fe3da3448528afc2a7e41a69c874118e3d37", func := "acequia/acequialaw28.CertifyLeast", spec := "certifyLeast", unfollowed := true, recurses := true, plainKeys := false, apart := false }
def CertifyLeastSaid : Prop := certifyLeastRow.holds Tryz.pinned (OpenSpec.ofChange certifyLeastSpec)

/-- ITS FALSE NEIGHBOUR: 'it returns false'. Refute it at one input. -/
def certifyLeastWrong : ChangeSpec := { name := "certifyLeast", fn := fun _ => fun
  | [d1, d2, d3] => { results := [.lit (.bool false)], args := [d1, d2, d3] }
  | _ => none }
def CertifyLeastWrongFalsely : Prop := certifyLeastRow.holds Tryz.pinned (OpenSpec.ofChange certifyLeastWrong)

/- THE SECOND FORM. 'bulk': how many values and letters a reading holds, each counted each time it is reached (what is shared counts as often as it is met; a slice's spare places count too). A statement '..UptoSaid' is the law's where the arguments, and the package variables that the reading takes, are together of bulk at most 1048576: NARROWER than '..Said'. Prove '..Said' where nothing that the law and all that it calls make is longer than what came in: it says more and counts as full. Else prove '..UptoSaid'. A law counts once. -/
mutual
def uptoBulk {H : Type} : DataW H → Nat
  | .lit (.string bytes) => bytes.length + 1
  | .lit _ => 1
  | .nil => 1
  | .ptr d => uptoBulk d + 1
  | .slice elems spare => uptoBulkAll elems + uptoBulkAll spare + 1
  | .agg parts => uptoBulkAll parts + 1
  | .iface _ d => uptoBulk d + 1
  | .map entries => uptoBulkEntries entries + 1
  | .held _ => 1
def uptoBulkAll {H : Type} : List (DataW H) → Nat
  | [] => 0
  | d :: r => uptoBulk d + uptoBulkAll r
def uptoBulkEntries {H : Type} : List (Lit × DataW H) → Nat
  | [] => 0
  | x :: r => uptoBulkEntry x + uptoBulkEntries r
def uptoBulkEntry {H : Type} : Lit × DataW H → Nat
  | (.string bytes, d) => bytes.length + uptoBulk d + 1
  | (_, d) => uptoBulk d + 1
 end
def uptoSmall : (H : Type) → List (DataW H) → Bool := fun _ ds => decide (uptoBulkAll ds ≤ 1048576)
def OpenSpec.upto (s : _root_.Go.ChangeSpec) : _root_.Go.OpenSpec := { _root_.Go.OpenSpec.ofChange s with cond := some uptoSmall }

/-- 'acequialaw27.TimetableSpec', WHERE WHAT IT READS IS OF BULK AT MOST 1048576: true; the input reads as it did. -/
def timetableSpecUptoRow : OpenClaim := { program := "ytagjakphhkfofaagreat", sum := "5c368e534c7cde3c38950b295983fe3da3448528afc2a7e41a69c874118e3d37", func := "acequia/acequialaw27.TimetableSpec", spec := "timetableSpec", unfollowed := true, recurses := true, plainKeys := false, apart := false, narrowed := true }
def TimetableSpecUptoSaid : Prop := timetableSpecUptoRow.holds Tryz.pinned (OpenSpec.upto timetableSpecSpec)

/-- 'acequialaw27.TimetableServedSpec', WHERE WHAT IT READS IS OF BULK AT MOST 1048576: true; the input reads as it did. -/
def timetableServedSpecUptoRow : OpenClaim := { program := "ytagjakphhkfofaagreat", sum := "5c368e534c7cde3c38950b295983fe3da3448528afc2a7e41a69c874118e3d37", func := "acequia/acequialaw27.TimetableServedSpec", spec := "timetableServedSpec", unfollowed := true, recurses := true, plainKeys := false, apart := false, narrowed := true }
def TimetableServedSpecUptoSaid : Prop := timetableServedSpecUptoRow.holds Tryz.pinned (OpenSpec.upto timetableServedSpecSpec)

/-- 'acequialaw27.TimetableFewer', WHERE WHAT IT READS IS OF BULK AT MOST 1048576: true; the input reads as it did. -/
def timetableFewerUptoRow : OpenClaim := { program := "ytagjakphhkfofaagreat", sum := "5c368e534c7cde3c38950b295983fe3da3448528afc2a7e41a69c874118e3d37", func := "acequia/acequialaw27.TimetableFewer", spec := "timetableFewer", unfollowed := true, recurses := true, plainKeys := false, apart := false, narrowed := true }
def TimetableFewerUptoSaid : Prop := timetableFewerUptoRow.holds Tryz.pinned (OpenSpec.upto timetableFewerSpec)

/-- 'acequialaw27.TimetableSenior', WHERE WHAT IT READS IS OF BULK AT MOST 1048576: true; the input reads as it did. -/
def timetableSeniorUptoRow : OpenClaim := { program := "ytagjakphhkfofaagreat", sum := "5c368e534c7cde3c38950b295983fe3da3448528afc2a7e41a69c874118e3d37", func := "acequia/acequialaw27.TimetableSenior", spec := "timetableSenior", unfollowed := true, recurses := true, plainKeys := false, apart := false, narrowed := true }
def TimetableSeniorUptoSaid : Prop := timetableSeniorUptoRow.holds Tryz.pinned (OpenSpec.upto timetableSeniorSpec)

/-- 'acequialaw27.TimetableSure', WHERE WHAT IT READS IS OF BULK AT MOST 1048576: true; the input reads as it did. -/
def timetableSureUptoRow : OpenClaim := { program := "ytagjakphhkfofaagreat", sum := "5c368e534c7cde3c38950b295983fe3da3448528afc2a7e41a69c874118e3d37", func := "acequia/acequialaw27.TimetableSure", spec := "timetableSure", unfollowed := true, recurses := true, plainKeys := false, apart := false, narrowed := true }
def TimetableSureUptoSaid : Prop := timetableSureUptoRow.holds Tryz.pinned (OpenSpec.upto timetableSureSpec)

/-- 'acequialaw27.TimetableLeast', WHERE WHAT IT READS IS OF BULK AT MOST 1048576: true; the input reads as it did. -/
def timetableLeastUptoRow : OpenClaim := { program := "ytagjakphhkfofaagreat", sum := "5c368e534c7cde3c38950b295983fe3da3448528afc2a7e41a69c874118e3d37", func := "acequia/acequialaw27.TimetableLeast", spec := "timetableLeast", unfollowed := true, recurses := true, plainKeys := false, apart := false, narrowed := true }
def TimetableLeastUptoSaid : Prop := timetableLeastUptoRow.holds Tryz.pinned (OpenSpec.upto timetableLeastSpec)

/-- 'acequialaw28.CertifyLeast', WHERE WHAT IT READS IS OF BULK AT MOST 1048576: true; the input reads as it did. -/
def certifyLeastUptoRow : OpenClaim := { program := "ytagjakphhkfofaagreat", sum := "5c368e534c7cde3c38950b295983fe3da3448528afc2a7e41a69c874118e3d37", func := "acequia/acequialaw28.CertifyLeast", spec := "certifyLeast", unfollowed := true, recurses := true, plainKeys := false, apart := false, narrowed := true }
def CertifyLeastUptoSaid : Prop := certifyLeastUptoRow.holds Tryz.pinned (OpenSpec.upto certifyLeastSpec)

end Rows
end Go.Proofs.YtagjakphhkfofaaGreat
