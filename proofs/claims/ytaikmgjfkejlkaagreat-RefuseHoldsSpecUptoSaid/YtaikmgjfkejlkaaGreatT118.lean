/- Part of the proof of the law RefuseHoldsSpec (the Upto form). -/
import Derived.Test.YtaikmgjfkejlkaaGreatRows
import Derived.WalkKit
import Derived.ProofKit
import Derived.OpenShut
import Derived.JoinedCond
import Derived.Below
import Derived.ChangeSame
import Derived.Carry
set_option linter.all false
set_option maxHeartbeats 4000000
set_option maxRecDepth 100000
section
namespace Go.Proofs.YtaikmgjfkejlkaaGreat.refuseHoldsSpec
open Go.ChangeShapes Go.WideShapes Go.ChangeAt Go.RowKit
theorem fa:Tryz.pinned.checked.prog.funcNamed Rows.refuseHoldsSpecUptoRow.func=some 4:=by kernel_rfl
theorem fc:Func.isInstance Tryz.pinned.checked.prog Tryz.f4 Rows.refuseHoldsSpecUptoRow.origin Rows.refuseHoldsSpecUptoRow.targs:=of_decide_eq_true (by kernel_rfl)
theorem fd:Func.isWrapper Tryz.pinned.checked.prog Tryz.f4 Rows.refuseHoldsSpecUptoRow.wrapper Rows.refuseHoldsSpecUptoRow.mainSum:=by unfold Func.isWrapper;first|(rw[if_pos (by decide+kernel)];kernel_rfl) |(rw[if_neg (by decide+kernel)];exact⟨rfl,rfl⟩)
end Go.Proofs.YtaikmgjfkejlkaaGreat.refuseHoldsSpec
end
