/- Part of the proof of the law RefuseHoldsSpec (the Upto form). -/
import Derived.Test.YtaikmgjfkejlkaaGreatRows
import Derived.WalkKit
import Derived.ProofKit
import Derived.OpenShut
import Derived.JoinedCond
import Derived.Below
import Derived.ChangeSame
import Derived.Carry
set_option linter.all false
set_option maxHeartbeats 4000000
set_option maxRecDepth 100000
section
namespace Go.Proofs.YtaikmgjfkejlkaaGreat.refuseHoldsSpec
open Go.ChangeShapes Go.WideShapes Go.ChangeAt Go.RowKit
theorem fb0:(Rows.refuseHoldsSpecUptoRow.inPlace==Tryz.pinned.checked.prog.inPlace 4)=true:=by kernel_rfl
theorem fb1:(Rows.refuseHoldsSpecUptoRow.unfollowed==Tryz.pinned.checked.prog.unfollowed 4)=true:=by kernel_rfl
end Go.Proofs.YtaikmgjfkejlkaaGreat.refuseHoldsSpec
end
