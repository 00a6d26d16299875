/- Part of the proof that the law JudgementRight returns true and leaves its arguments as they were, for all arguments of bulk at most 1048576 (the Upto form). -/
import Derived.Test.YtnanafpgfihjfaaGreatJ213
set_option linter.all false
set_option maxHeartbeats 4000000
set_option maxRecDepth 100000
section
namespace Go.Sx
open Go.Proofs
theorem Tu:JR []:=fun y hy=>by cases hy
theorem NM {j:List Judgement}(h:(j.all fun y=>decide (-9223372036854775808≤y.of_)&&decide (y.of_<9223372036854775808))=true):JR j:=fun y hy=>by
 have:=List.all_eq_true.1 h y hy;simpa using this
theorem X0 {d:District}{c:List Claim}{j:List Judgement}(hj:(j.all fun y=>decide (-9223372036854775808≤y.of_)&&decide (y.of_<9223372036854775808))=true)(h1:j.length≤20)(h2:c.length≤300){x:List Claim×Int}(h:z6 d c j=x):du d c j∧aX d c j=x:=by
 obtain⟨⟨a,_⟩,b,_⟩:=GF (d:=d) (NM hj) (fun _=>h1) (fun _=>h2);exact⟨a,b.trans h⟩
theorem j13:du cI ik gh∧aX cI ik gh=(mw,0):=X0 kr (nbl rfl) (nbl rfl) kr
theorem j21:du cI ik jS∧aX cI ik jS=(my,0):=X0 kr (nbl rfl) (nbl rfl) kr
theorem j16:aD cI gh 4=([0,9,-9],0):=by kernel_rfl
theorem j9:aD cI [] 9=([],1):=by kernel_rfl
theorem j22:mz=530:=by kernel_rfl
theorem j17:iF=(({ sides:=[0,1],cases:=[{ no:=4,hour:=0,winner:=0,facts:=[0,1],reason:=[0]},{ no:=5,hour:=0,winner:=0,facts:=[0],reason:=[0]}]}:Cases),0):=by kernel_rfl
theorem X1:iM [0,1] mB:=of_decide_eq_true kr
theorem Ql:qd:=fun _=>⟨nbl rfl,fun s e=>by
 cases e;exact⟨nbl rfl,fun s e=>by
  cases e;exact⟨nbl rfl,fun _ _=>trivial⟩⟩⟩
theorem Tv:p7=true:=by
 unfold p7 nK nJ mC mA iH iE d7 jh kQ mD gi gR;rw[j13.2,j21.2,j16,j9,j22,Dn,Dn,j17];unfold eQ jk kS kR fY ji iG;rw[j17];rfl
theorem GG:pb:=by
 unfold pb;refine⟨Ql,j13.1,j21.1,(EE _ _ _ (NM kr)).1,(EE _ _ _ Tu).1,fun _=>BZ _ _,fun _=>⟨NL _ _,fun _=>⟨NL _ _,fun _ _=>?_⟩⟩⟩;unfold d7 gi gR eQ jk kR fY ji iG;rw[j16,j17];exact⟨fun _=>by decide,fun _=>by decide,fun _=>by decide,fun _=>⟨X1,fun _=>by decide,fun _=>⟨by decide,fun _=>by decide,fun _=>by decide,fun _=>by decide,fun _=>by decide⟩⟩⟩
theorem Rf {d:District}{c:List Claim}{j:List Judgement}(h:ou d c j=true)(hj:JR j):(aO d j=0→j.length≤20)∧(bf d c=0→c.length≤300):=by
 unfold ou nP at h;simp only[Bool.and_eq_true,Bool.or_eq_true,decide_eq_true_eq]at h;refine⟨fun h1=>?_,fun h1=>?_⟩
 ·rw[uK d j hj]at h1;have:=(wy h1).2.1;omega
 ·have:=(xD h1).2.1;omega
end Go.Sx
end
