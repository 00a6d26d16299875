/- Part of the proof that the law JudgementClash returns true and leaves its arguments as they were, for all arguments of bulk at most 1048576 (the Upto form). -/
import Derived.Test.YtnanafpgfihjfaaGreatJ514
set_option linter.all false
set_option maxHeartbeats 4000000
set_option maxRecDepth 100000
section
namespace Go.Sx
open Go.Proofs
theorem Vv:JR []:=fun y hy=>by cases hy
theorem PS {j:List Judgement}(h:(j.all fun y=>decide (-9223372036854775808<=y.of_)&&decide (y.of_<9223372036854775808))=true):JR j:=fun y hy=>by
 have:=List.all_eq_true.1 h y hy;simpa using this
theorem Z5 {d:District}{c:List Claim}{j:List Judgement}(hj:(j.all fun y=>decide (-9223372036854775808<=y.of_)&&decide (y.of_<9223372036854775808))=true)(h1:j.length<=20)(h2:c.length<=300){x:List Claim×Int}(h:PO d c j=x):eJ d c j/\dU d c j=x:=by
 obtain⟨⟨a,_⟩,b,_⟩:=PR (d:=d) (PS hj) (fun _=>h1) (fun _=>h2);exact⟨a,b.trans h⟩
theorem j13:eJ cW iS gU/\dU cW iS gU=(nB,0):=Z5 kr (nbl rfl) (nbl rfl) kr
theorem j21:eJ cW iS kO/\dU cW iS kO=(nC,0):=Z5 kr (nbl rfl) (nbl rfl) kr
theorem j16:fY cW gU 4=([0,9,-9],0):=by kernel_rfl
theorem j9:fY cW [] 9=([],1):=by kernel_rfl
theorem j22:nD=530:=by kernel_rfl
theorem j17:nI=(({ sides:=[0,1],cases:=[{ no:=4,hour:=0,winner:=0,facts:=[0,1],reason:=[0]},{ no:=5,hour:=0,winner:=0,facts:=[0],reason:=[0]}]}:Cases),0):=by kernel_rfl
theorem Z6:g8 ({ sides:=[0,1],cases:=[]}:Cases) nF:=of_decide_eq_true kr
theorem Sl:qQ:=fun _=>⟨nbl rfl,fun s e=>by
 cases e;exact⟨nbl rfl,fun s e=>by
  cases e;exact⟨nbl rfl,fun _ _=>trivial⟩⟩⟩
theorem Vw:qI=true:=by
 unfold qI jV oA oz nG nE jr jq eF jt kP nH gV iA;rw[j13.2,j21.2,j16,j9,j22,E5,E5,j17];unfold fq jY lU lT gM jX jW;rw[j17];rfl
theorem zV:p9:=by
 unfold p9 jV;refine⟨Sl,j13.1,j21.1,(Ly _ _ _ (PS kr)).1,(Ly _ _ _ Vv).1,fun _=>DD _ _,fun _=>⟨PN _ _,fun _=>⟨PN _ _,fun _ _=>?_⟩⟩⟩;unfold eF gV iA fq jY lT gM jX jW;rw[j16,j17];exact⟨fun _=>by decide,fun _=>by decide,fun _=>by decide,fun _=>⟨Z6,fun _=>by decide,fun _=>⟨by decide,fun _=>by decide,fun _=>by decide,fun _=>by decide,fun _=>by decide⟩⟩⟩
end Go.Sx
end
