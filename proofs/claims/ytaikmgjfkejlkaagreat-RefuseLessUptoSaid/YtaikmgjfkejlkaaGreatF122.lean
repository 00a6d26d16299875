/- Part of the proof that the law RefuseLess returns true and leaves its arguments as they were, for all arguments of bulk at most 1048576 (the Upto form). -/
import Derived.Test.YtaikmgjfkejlkaaGreatF116
import Derived.Test.YtaikmgjfkejlkaaGreatF117
import Derived.Test.YtaikmgjfkejlkaaGreatF121
import Derived.Test.YtaikmgjfkejlkaaGreatRows
import Derived.WalkKit
import Derived.ProofKit
import Derived.OpenShut
import Derived.JoinedCond
import Derived.Below
import Derived.ChangeSame
import Derived.Carry
set_option linter.all false
set_option maxHeartbeats 4000000
set_option maxRecDepth 100000
section
namespace Go.Proofs.YtaikmgjfkejlkaaGreat.refuseLess
open Go.ChangeShapes Go.WideShapes Go.ChangeAt Go.RowKit Go.Sx
set_option linter.unusedVariables false
theorem ao_:Rows.refuseLessUptoRow.holds Tryz.pinned (Rows.OpenSpec.upto Rows.refuseLessSpec):=
 OpenClaim.holds_of_cond 7 Tryz.f7 rfl rfl rfl rfl rfl rfl rfl ⟨rfl,rfl,rfl,rfl,rfl⟩ rfl rfl rfl rfl rfl fa Tryz.func7 fb fc fd
  (λO E H enc _ F=>lifted O E H enc F)
theorem proved:Rows.RefuseLessUptoSaid:=ao_
end Go.Proofs.YtaikmgjfkejlkaaGreat.refuseLess
end
