/- Part of the proof that the law RefuseHoldsSpec returns true and leaves its arguments as they were, for all arguments of bulk at most 1048576 (the Upto form). -/
import Derived.Test.YtaikmgjfkejlkaaGreatT117
import Derived.Test.YtaikmgjfkejlkaaGreatT118
import Derived.Test.YtaikmgjfkejlkaaGreatT122
set_option linter.all false
set_option maxHeartbeats 4000000
set_option maxRecDepth 100000
section
namespace Go.Proofs.YtaikmgjfkejlkaaGreat.refuseHoldsSpec
open Go.ChangeShapes Go.WideShapes Go.ChangeAt Go.RowKit Go.Sx
set_option linter.unusedVariables false
theorem atF:Rows.refuseHoldsSpecUptoRow.holds Tryz.pinned (Rows.OpenSpec.upto Rows.refuseHoldsSpecSpec):=
 OpenClaim.holds_of_cond 4 Tryz.f4 rfl rfl rfl rfl rfl rfl rfl ⟨rfl,rfl,rfl,rfl,rfl⟩ rfl rfl rfl rfl rfl fa Tryz.func4 fb fc fd
  (λO E H enc _ F=>lifted O E H enc F)
theorem proved:Rows.RefuseHoldsSpecUptoSaid:=atF
end Go.Proofs.YtaikmgjfkejlkaaGreat.refuseHoldsSpec
end
