/- Part of the proof that the law RefuseHolds returns true and leaves its arguments as they were, for all arguments of bulk at most 1048576 (the Upto form). -/
import Derived.Test.YtaikmgjfkejlkaaGreatRows
import Derived.WalkKit
import Derived.ProofKit
import Derived.OpenShut
import Derived.JoinedCond
import Derived.Below
import Derived.ChangeSame
import Derived.Carry
set_option linter.all false
set_option maxHeartbeats 4000000
set_option maxRecDepth 100000
section
namespace Go.Proofs.YtaikmgjfkejlkaaGreat.refuseHolds
open Go.ChangeShapes Go.WideShapes Go.ChangeAt Go.RowKit
theorem fa:Tryz.pinned.checked.prog.funcNamed Rows.refuseHoldsUptoRow.func=some 8:=by kernel_rfl
theorem fc:Func.isInstance Tryz.pinned.checked.prog Tryz.f8 Rows.refuseHoldsUptoRow.origin Rows.refuseHoldsUptoRow.targs:=of_decide_eq_true (by kernel_rfl)
theorem fd:Func.isWrapper Tryz.pinned.checked.prog Tryz.f8 Rows.refuseHoldsUptoRow.wrapper Rows.refuseHoldsUptoRow.mainSum:=by unfold Func.isWrapper;first|(rw[if_pos (by decide+kernel)];kernel_rfl) |(rw[if_neg (by decide+kernel)];exact⟨rfl,rfl⟩)
end Go.Proofs.YtaikmgjfkejlkaaGreat.refuseHolds
end
