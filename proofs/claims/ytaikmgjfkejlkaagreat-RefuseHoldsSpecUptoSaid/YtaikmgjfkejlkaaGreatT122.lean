/- Part of the proof of the law RefuseHoldsSpec (the Upto form). -/
import Derived.Test.YtaikmgjfkejlkaaGreatT119
import Derived.Test.YtaikmgjfkejlkaaGreatT120
import Derived.Test.YtaikmgjfkejlkaaGreatT121
set_option linter.all false
set_option maxHeartbeats 4000000
set_option maxRecDepth 100000
section
namespace Go.Proofs.YtaikmgjfkejlkaaGreat.refuseHoldsSpec
open Go.ChangeShapes Go.WideShapes Go.ChangeAt Go.RowKit
theorem fb:joinedFacts Tryz.pinned.checked.prog 4 Tryz.f4 (Rows.OpenSpec.upto Rows.refuseHoldsSpecSpec).bare Rows.refuseHoldsSpecUptoRow=true:=by
 unfold joinedFacts;rw[fb0,fb1,fc0,fc1,fd0,fd1,fd2,fd3,fd4];kernel_rfl
end Go.Proofs.YtaikmgjfkejlkaaGreat.refuseHoldsSpec
end
