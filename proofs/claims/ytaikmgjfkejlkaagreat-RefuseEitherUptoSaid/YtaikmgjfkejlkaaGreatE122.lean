/- Part of the proof that the law RefuseEither returns true and leaves its arguments as they were, for all arguments of bulk at most 1048576 (the Upto form). -/
import Derived.Test.YtaikmgjfkejlkaaGreatE116
import Derived.Test.YtaikmgjfkejlkaaGreatE117
import Derived.Test.YtaikmgjfkejlkaaGreatE121
import Derived.Test.YtaikmgjfkejlkaaGreatRows
import Derived.WalkKit
import Derived.ProofKit
import Derived.OpenShut
import Derived.JoinedCond
import Derived.Below
import Derived.ChangeSame
import Derived.Carry
set_option linter.all false
set_option maxHeartbeats 4000000
set_option maxRecDepth 100000
section
namespace Go.Proofs.YtaikmgjfkejlkaaGreat.refuseEither
open Go.ChangeShapes Go.WideShapes Go.ChangeAt Go.RowKit Go.Sx
set_option linter.unusedVariables false
theorem aoQ:Rows.refuseEitherUptoRow.holds Tryz.pinned (Rows.OpenSpec.upto Rows.refuseEitherSpec):=
 OpenClaim.holds_of_cond 5 Tryz.f5 rfl rfl rfl rfl rfl rfl rfl ⟨rfl,rfl,rfl,rfl,rfl⟩ rfl rfl rfl rfl rfl fa Tryz.func5 fb fc fd
  (λO E H enc _ F=>lifted O E H enc F)
theorem proved:Rows.RefuseEitherUptoSaid:=aoQ
end Go.Proofs.YtaikmgjfkejlkaaGreat.refuseEither
end
