/- Part of the proof that the law RefuseHolds returns true and leaves its arguments as they were, for all arguments of bulk at most 1048576 (the Upto form). -/
import Derived.Test.YtaikmgjfkejlkaaGreatH118
import Derived.Test.YtaikmgjfkejlkaaGreatH119
import Derived.Test.YtaikmgjfkejlkaaGreatH120
import Derived.Test.YtaikmgjfkejlkaaGreatRows
import Derived.WalkKit
import Derived.ProofKit
import Derived.OpenShut
import Derived.JoinedCond
import Derived.Below
import Derived.ChangeSame
import Derived.Carry
set_option linter.all false
set_option maxHeartbeats 4000000
set_option maxRecDepth 100000
section
namespace Go.Proofs.YtaikmgjfkejlkaaGreat.refuseHolds
open Go.ChangeShapes Go.WideShapes Go.ChangeAt Go.RowKit
theorem fb:joinedFacts Tryz.pinned.checked.prog 8 Tryz.f8 (Rows.OpenSpec.upto Rows.refuseHoldsSpec).bare Rows.refuseHoldsUptoRow=true:=by
 unfold joinedFacts;rw[fb0,fb1,fc0,fc1,fd0,fd1,fd2,fd3,fd4];kernel_rfl
end Go.Proofs.YtaikmgjfkejlkaaGreat.refuseHolds
end
