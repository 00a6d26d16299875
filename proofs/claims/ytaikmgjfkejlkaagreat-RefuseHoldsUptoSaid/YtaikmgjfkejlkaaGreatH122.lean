/- Part of the proof that the law RefuseHolds returns true and leaves its arguments as they were, for all arguments of bulk at most 1048576 (the Upto form). -/
import Derived.Test.YtaikmgjfkejlkaaGreatH116
import Derived.Test.YtaikmgjfkejlkaaGreatH117
import Derived.Test.YtaikmgjfkejlkaaGreatH121
import Derived.Test.YtaikmgjfkejlkaaGreatRows
import Derived.WalkKit
import Derived.ProofKit
import Derived.OpenShut
import Derived.JoinedCond
import Derived.Below
import Derived.ChangeSame
import Derived.Carry
set_option linter.all false
set_option maxHeartbeats 4000000
set_option maxRecDepth 100000
section
namespace Go.Proofs.YtaikmgjfkejlkaaGreat.refuseHolds
open Go.ChangeShapes Go.WideShapes Go.ChangeAt Go.RowKit Go.Sx
set_option linter.unusedVariables false
theorem arZ:Rows.refuseHoldsUptoRow.holds Tryz.pinned (Rows.OpenSpec.upto Rows.refuseHoldsSpec):=
 OpenClaim.holds_of_cond 8 Tryz.f8 rfl rfl rfl rfl rfl rfl rfl ⟨rfl,rfl,rfl,rfl,rfl⟩ rfl rfl rfl rfl rfl fa Tryz.func8 fb fc fd
  (λO E H enc _ F=>lifted O E H enc F)
theorem proved:Rows.RefuseHoldsUptoSaid:=arZ
end Go.Proofs.YtaikmgjfkejlkaaGreat.refuseHolds
end
