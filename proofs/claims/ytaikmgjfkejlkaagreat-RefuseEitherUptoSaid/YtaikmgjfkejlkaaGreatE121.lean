/- Part of the proof that the law RefuseEither returns true and leaves its arguments as they were, for all arguments of bulk at most 1048576 (the Upto form). -/
import Derived.Test.YtaikmgjfkejlkaaGreatE118
import Derived.Test.YtaikmgjfkejlkaaGreatE119
import Derived.Test.YtaikmgjfkejlkaaGreatE120
import Derived.Test.YtaikmgjfkejlkaaGreatRows
import Derived.WalkKit
import Derived.ProofKit
import Derived.OpenShut
import Derived.JoinedCond
import Derived.Below
import Derived.ChangeSame
import Derived.Carry
set_option linter.all false
set_option maxHeartbeats 4000000
set_option maxRecDepth 100000
section
namespace Go.Proofs.YtaikmgjfkejlkaaGreat.refuseEither
open Go.ChangeShapes Go.WideShapes Go.ChangeAt Go.RowKit
theorem fb:joinedFacts Tryz.pinned.checked.prog 5 Tryz.f5 (Rows.OpenSpec.upto Rows.refuseEitherSpec).bare Rows.refuseEitherUptoRow=true:=by
 unfold joinedFacts;rw[fb0,fb1,fc0,fc1,fd0,fd1,fd2,fd3,fd4];kernel_rfl
end Go.Proofs.YtaikmgjfkejlkaaGreat.refuseEither
end
