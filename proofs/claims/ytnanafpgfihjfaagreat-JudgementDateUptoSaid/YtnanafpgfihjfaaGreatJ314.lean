/- Part of the proof that the law JudgementDate returns true and leaves its arguments as they were, for all arguments of bulk at most 1048576 (the Upto form). -/
import Derived.Test.YtnanafpgfihjfaaGreatJ313
set_option linter.all false
set_option maxHeartbeats 4000000
set_option maxRecDepth 100000
section
namespace Go.Sx
open Go.Proofs
theorem Ur:JR []:=fun y hy=>by cases hy
theorem OA {j:List Judgement}(h:(j.all fun y=>decide (-9223372036854775808≤y.of_)&&decide (y.of_<9223372036854775808))=true):JR j:=fun y hy=>by
 have:=List.all_eq_true.1 h y hy;simpa using this
theorem YW {d:District}{c:List Claim}{j:List Judgement}(hj:(j.all fun y=>decide (-9223372036854775808≤y.of_)&&decide (y.of_<9223372036854775808))=true)(h1:j.length≤20)(h2:c.length≤300){x:List Claim×Int}(h:sZ d c j=x):b9 d c j∧ax d c j=x:=by
 obtain⟨⟨a,_⟩,b,_⟩:=CL (d:=d) (OA hj) (fun _=>h1) (fun _=>h2);exact⟨a,b.trans h⟩
theorem j13:b9 cC ix gk∧ax cC ix gk=(mU,0):=YW kr (nbl rfl) (nbl rfl) kr
theorem j21:b9 cC ix km∧ax cC ix km=(mV,0):=YW kr (nbl rfl) (nbl rfl) kr
theorem j16:ft cC gk 4=([0,9,-9],0):=by kernel_rfl
theorem j9:ft cC [] 9=([],1):=by kernel_rfl
theorem j22:mW=530:=by kernel_rfl
theorem j17:iR=(({ sides:=[0,1],cases:=[{ no:=4,hour:=0,winner:=0,facts:=[0,1],reason:=[0]},{ no:=5,hour:=0,winner:=0,facts:=[0],reason:=[0]}]}:Cases),0):=by kernel_rfl
theorem YX:i5 [0,1] mY:=of_decide_eq_true kr
theorem Rc:qE:=fun _=>⟨nbl rfl,fun s e=>by
 cases e;exact⟨nbl rfl,fun s e=>by
  cases e;exact⟨nbl rfl,fun _ _=>trivial⟩⟩⟩
theorem Us:qw=true:=by
 unfold qw od oc mZ mX iT iQ dW jD lz na gl g7;rw[j13.2,j21.2,j16,j9,j22,uQ,uQ,j17];unfold eK jF lB lA fZ jE iS;rw[j17];rfl
theorem CN:pK:=by
 unfold pK;refine⟨Rc,j13.1,j21.1,(Kp _ _ _ (OA kr)).1,(Kp _ _ _ Ur).1,fun _=>CK _ _,fun _=>⟨CJ _ _,fun _=>⟨CJ _ _,fun _ _=>?_⟩⟩⟩;unfold dW gl g7 eK jF lA fZ jE iS;rw[j16,j17];exact⟨fun _=>by decide,fun _=>by decide,fun _=>by decide,fun _=>⟨YX,fun _=>by decide,fun _=>⟨by decide,fun _=>by decide,fun _=>by decide,fun _=>by decide,fun _=>by decide⟩⟩⟩
theorem Se {d:District}{c:List Claim}{j:List Judgement}(h:oQ d c j=true)(hj:JR j):(aT d j=0→j.length≤20)∧(bg d c=0→c.length≤300):=by
 unfold oQ oj at h;simp only[Bool.and_eq_true,Bool.or_eq_true,decide_eq_true_eq]at h;refine⟨fun h1=>?_,fun h1=>?_⟩
 ·rw[vn d j hj]at h1;have:=(xf h1).2.1;omega
 ·have:=(yk h1).2.1;omega
end Go.Sx
end
