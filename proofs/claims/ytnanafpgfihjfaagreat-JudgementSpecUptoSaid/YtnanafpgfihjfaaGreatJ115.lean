/- Part of the proof that the law JudgementSpec returns true and leaves its arguments as they were, for all arguments of bulk at most 1048576 (the Upto form). -/
import Derived.Test.YtnanafpgfihjfaaGreatJ114
set_option linter.all false
set_option maxHeartbeats 4000000
set_option maxRecDepth 100000
section
namespace Go.Sx
open Go.Proofs
theorem Ud:JR []:=fun y hy=>by cases hy
theorem Ou {j:List Judgement}(h:(j.all fun y=>decide (-9223372036854775808≤y.of_)&&decide (y.of_<9223372036854775808))=true):JR j:=fun y hy=>by
 have:=List.all_eq_true.1 h y hy;simpa using this
theorem YS {d:District}{c:List Claim}{j:List Judgement}(hj:(j.all fun y=>decide (-9223372036854775808≤y.of_)&&decide (y.of_<9223372036854775808))=true)(h1:j.length≤20)(h2:c.length≤300){x:List Claim×Int}(h:Oq d c j=x):dw d c j∧bw d c j=x:=by
 obtain⟨⟨a,_⟩,b,_⟩:=Hs (d:=d) (Ou hj) (fun _=>h1) (fun _=>h2);exact⟨a,b.trans h⟩
theorem j13:dw cK iu gf∧bw cK iu gf=(mU,0):=YS kr (nbl rfl) (nbl rfl) kr
theorem j21:dw cK iu ke∧bw cK iu ke=(mV,0):=YS kr (nbl rfl) (nbl rfl) kr
theorem j16:cB cK gf 4=([0,9,-9],0):=by kernel_rfl
theorem j9:cB cK [] 9=([],1):=by kernel_rfl
theorem j22:mW=530:=by kernel_rfl
theorem j17:iP=(({ sides:=[0,1],cases:=[{ no:=4,hour:=0,winner:=0,facts:=[0,1],reason:=[0]},{ no:=5,hour:=0,winner:=0,facts:=[0],reason:=[0]}]}:Cases),0):=by kernel_rfl
theorem YT:iW [0,1] mY:=of_decide_eq_true kr
theorem Q1:qK:=fun _=>⟨nbl rfl,fun s e=>by
 cases e;exact⟨nbl rfl,fun s e=>by
  cases e;exact⟨nbl rfl,fun _ _=>trivial⟩⟩⟩
theorem Ue:qA=true:=by
 unfold qA oj oi mZ mX iR iO d9 jx lr m_ gh gX;rw[j13.2,j21.2,j16,j9,j22,Ac,Ac,j17];unfold eU jz lv lu fY jy iQ;rw[j17];rfl
theorem Ht:pO:=by
 unfold pO;refine⟨Q1,j13.1,j21.1,(A8 _ _ _ (Ou kr)).1,(A8 _ _ _ Ud).1,fun _=>zm _ _,fun _=>⟨IU _ _,fun _=>⟨IU _ _,fun _ _=>?_⟩⟩⟩;unfold d9 gh gX eU jz lu fY jy iQ;rw[j16,j17];exact⟨fun _=>by decide,fun _=>by decide,fun _=>by decide,fun _=>⟨YT,fun _=>by decide,fun _=>⟨by decide,fun _=>by decide,fun _=>by decide,fun _=>by decide,fun _=>by decide⟩⟩⟩
theorem YU {d:District}{c:List Claim}{j:List Judgement}(h:qm d c j=true)(hj:JR j):(aS d j=0→j.length≤20)∧(co d c=0→c.length≤300):=by
 unfold qm ov at h;simp only[Bool.and_eq_true,Bool.or_eq_true,decide_eq_true_eq]at h;refine⟨fun h1=>?_,fun h1=>?_⟩
 ·rw[tO d j hj]at h1;have:=(zV h1).2.1;omega
 ·have:=(CL h1).2.1;omega
end Go.Sx
end
