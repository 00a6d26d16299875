/- Part of the proof of the law RefuseHoldsSpec (the Upto form). -/
import Derived.Test.YtaikmgjfkejlkaaGreatRows
import Derived.WalkKit
import Derived.ProofKit
import Derived.OpenShut
import Derived.JoinedCond
import Derived.Below
import Derived.ChangeSame
import Derived.Carry
set_option linter.all false
set_option maxHeartbeats 4000000
set_option maxRecDepth 100000
section
namespace Go.Proofs.YtaikmgjfkejlkaaGreat.refuseHoldsSpec
open Go.ChangeShapes Go.WideShapes Go.ChangeAt Go.RowKit
theorem fd0:Tryz.pinned.checked.prog.stopsHeard=true:=by kernel_rfl
theorem fd1:Tryz.pinned.checked.prog.mayEnter=true:=by kernel_rfl
theorem fd2:(Rows.refuseHoldsSpecUptoRow.lifted==Tryz.pinned.checked.prog.liftsFinal)=true:=by kernel_rfl
theorem fd3:laidOutB Tryz.pinned.checked.prog=true:=by kernel_rfl
theorem fd4:mapsRowed Tryz.pinned.checked.prog=true:=by kernel_rfl
end Go.Proofs.YtaikmgjfkejlkaaGreat.refuseHoldsSpec
end
