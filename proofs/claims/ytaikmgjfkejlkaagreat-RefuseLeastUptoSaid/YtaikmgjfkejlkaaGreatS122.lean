/- Part of the proof that the law RefuseLeast returns true and leaves its arguments as they were, for all arguments of bulk at most 1048576 (the Upto form). -/
import Derived.Test.YtaikmgjfkejlkaaGreatS116
import Derived.Test.YtaikmgjfkejlkaaGreatS117
import Derived.Test.YtaikmgjfkejlkaaGreatS121
import Derived.Test.YtaikmgjfkejlkaaGreatRows
import Derived.WalkKit
import Derived.ProofKit
import Derived.OpenShut
import Derived.JoinedCond
import Derived.Below
import Derived.ChangeSame
import Derived.Carry
set_option linter.all false
set_option maxHeartbeats 4000000
set_option maxRecDepth 100000
section
namespace Go.Proofs.YtaikmgjfkejlkaaGreat.refuseLeast
open Go.ChangeShapes Go.WideShapes Go.ChangeAt Go.RowKit Go.Sx
set_option linter.unusedVariables false
theorem aph:Rows.refuseLeastUptoRow.holds Tryz.pinned (Rows.OpenSpec.upto Rows.refuseLeastSpec):=
 OpenClaim.holds_of_cond 6 Tryz.f6 rfl rfl rfl rfl rfl rfl rfl ⟨rfl,rfl,rfl,rfl,rfl⟩ rfl rfl rfl rfl rfl fa Tryz.func6 fb fc fd
  (λO E H enc _ F=>lifted O E H enc F)
theorem proved:Rows.RefuseLeastUptoSaid:=aph
end Go.Proofs.YtaikmgjfkejlkaaGreat.refuseLeast
end
