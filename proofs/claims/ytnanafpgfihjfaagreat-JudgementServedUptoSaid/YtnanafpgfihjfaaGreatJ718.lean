/- Part of the proof that the law JudgementServed returns true and leaves its arguments as they were, for all arguments of bulk at most 1048576 (the Upto form). -/
import Derived.Test.YtnanafpgfihjfaaGreatJ716
import Derived.Test.YtnanafpgfihjfaaGreatJ717
import Derived.Test.YtnanafpgfihjfaaGreatRows
import Derived.WalkKit
import Derived.ProofKit
import Derived.OpenShut
import Derived.JoinedCond
import Derived.Below
import Derived.ChangeSame
import Derived.Carry
set_option linter.all false
set_option maxHeartbeats 4000000
set_option maxRecDepth 100000
section
namespace Go.Proofs.YtnanafpgfihjfaaGreat.judgementServed
open Go.ChangeShapes Go.WideShapes Go.ChangeAt Go.RowKit Go.Sx
set_option linter.unusedVariables false
theorem over:Rows.judgementServedUptoRow.holds Tryz.pinned (Rows.OpenSpec.upto Rows.judgementServedSpec):=
 OpenClaim.holds_of_cond 9 Tryz.f9 rfl rfl rfl rfl rfl rfl rfl ⟨rfl,rfl,rfl,rfl,rfl⟩ rfl rfl rfl rfl rfl fa Tryz.func9 fb fc fd
  (fun os started H enc _ F=>lifted os started H enc F)
theorem proved:Rows.JudgementServedUptoSaid:=over
end Go.Proofs.YtnanafpgfihjfaaGreat.judgementServed
end
