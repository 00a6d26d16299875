/- Part of the proof that the law JudgementEnded returns true and leaves its arguments as they were, for all arguments of bulk at most 1048576 (the Upto form). -/
import Derived.Test.YtnanafpgfihjfaaGreatJ413
set_option linter.all false
set_option maxHeartbeats 4000000
set_option maxRecDepth 100000
section
namespace Go.Sx
open Go.Proofs
theorem Uo:JR []:=fun y hy=>by cases hy
theorem OA {j:List Judgement}(h:(j.all fun y=>decide (-9223372036854775808≤y.of_)&&decide (y.of_<9223372036854775808))=true):JR j:=fun y hy=>by
 have:=List.all_eq_true.1 h y hy;simpa using this
theorem YU {d:District}{c:List Claim}{j:List Judgement}(hj:(j.all fun y=>decide (-9223372036854775808≤y.of_)&&decide (y.of_<9223372036854775808))=true)(h1:j.length≤20)(h2:c.length≤300){x:List Claim×Int}(h:Hm d c j=x):cF d c j∧av d c j=x:=by
 obtain⟨⟨a,_⟩,b,_⟩:=CH (d:=d) (OA hj) (fun _=>h1) (fun _=>h2);exact⟨a,b.trans h⟩
theorem j13:cF cB iu gu∧av cB iu gu=(mN,0):=YU kr (nbl rfl) (nbl rfl) kr
theorem j21:cF cB iu j6∧av cB iu j6=(mO,0):=YU kr (nbl rfl) (nbl rfl) kr
theorem j16:ax cB gu 4=([0,9,-9],0):=by kernel_rfl
theorem j9:ax cB [] 9=([],1):=by kernel_rfl
theorem j22:mP=530:=by kernel_rfl
theorem j17:iN=(({ sides:=[0,1],cases:=[{ no:=4,hour:=0,winner:=0,facts:=[0,1],reason:=[0]},{ no:=5,hour:=0,winner:=0,facts:=[0],reason:=[0]}]}:Cases),0):=by kernel_rfl
theorem YV:iV [0,1] mR:=of_decide_eq_true kr
theorem Ra:qx:=fun _=>⟨nbl rfl,fun s e=>by
 cases e;exact⟨nbl rfl,fun s e=>by
  cases e;exact⟨nbl rfl,fun _ _=>trivial⟩⟩⟩
theorem Uq:qq=true:=by
 unfold qq nW nV mS mQ iP iM dY jv lm mT gw g6;rw[j13.2,j21.2,j16,j9,j22,zV,zV,j17];unfold eO jx lp ln f7 jw iO;rw[j17];rfl
theorem wQ:pz:=by
 unfold pz;refine⟨Ra,j13.1,j21.1,(A6 _ _ _ (OA kr)).1,(A6 _ _ _ Uo).1,fun _=>uJ _ _,fun _=>⟨IR _ _,fun _=>⟨IR _ _,fun _ _=>?_⟩⟩⟩;unfold dY gw g6 eO jx ln f7 jw iO;rw[j16,j17];exact⟨fun _=>by decide,fun _=>by decide,fun _=>by decide,fun _=>⟨YV,fun _=>by decide,fun _=>⟨by decide,fun _=>by decide,fun _=>by decide,fun _=>by decide,fun _=>by decide⟩⟩⟩
theorem YW {d:District}{c:List Claim}{j:List Judgement}(h:qe d c j=true)(hj:JR j):(aN d j=0→j.length≤20)∧(bL d c=0→c.length≤300):=by
 unfold qe n_ at h;simp only[Bool.and_eq_true,Bool.or_eq_true,decide_eq_true_eq]at h;refine⟨fun h1=>?_,fun h1=>?_⟩
 ·rw[tC d j hj]at h1;have:=(sb h1).2.1;omega
 ·have:=(Cv h1).2.1;omega
end Go.Sx
end
