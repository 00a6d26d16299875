/- Part of the proof that the law JudgementServed returns true and leaves its arguments as they were, for all arguments of bulk at most 1048576 (the Upto form). -/
import Derived.Test.YtnanafpgfihjfaaGreatJ712
set_option linter.all false
set_option maxHeartbeats 4000000
set_option maxRecDepth 100000
section
namespace Go.Sx
open Go.Proofs
theorem aaS:JR []:=fun y hy=>by cases hy
theorem UA {j:List Judgement}(h:(j.all fun y=>decide (-9223372036854775808<=y.of_)&&decide (y.of_<9223372036854775808))=true):JR j:=fun y hy=>by
 grind
theorem afw {d:District}{c:List Claim}{j:List Judgement}(hj:(j.all fun y=>decide (-9223372036854775808<=y.of_)&&decide (y.of_<9223372036854775808))=true)(h1:j.length<=20)(h2:c.length<=300){x:List Claim×Int}(h:zZ d c j=x):dS d c j/\c7 d c j=x:=by
 obtain⟨⟨a,_⟩,b,_⟩:=L2 (d:=d) (UA hj) (fun _=>h1) (fun _=>h2);grind
theorem j13:dS db jy ia/\c7 db jy ia=(oy,0):=afw kr (nbl rfl) (nbl rfl) kr
theorem j21:dS db jy lI/\c7 db jy lI=(oz,0):=afw kr (nbl rfl) (nbl rfl) kr
theorem j16:gi db ia 4=([0,9,-9],0):=by kernel_rfl
theorem j9:gi db [] 9=([],1):=by kernel_rfl
theorem j22:oA=530:=by kernel_rfl
theorem j17:oF=(({ sides:=[0,1],cases:=[{ no:=4,hour:=0,winner:=0,facts:=[0,1],reason:=[0]},{ no:=5,hour:=0,winner:=0,facts:=[0],reason:=[0]}]}:Cases),0):=by kernel_rfl
theorem afx:j4 ({ sides:=[0,1],cases:=[]}:Cases) oC:=of_decide_eq_true kr
theorem XF:sE:=fun _=>⟨nbl rfl,fun s e=>by
 cases e;exact⟨nbl rfl,fun s e=>by
  cases e;exact⟨nbl rfl,fun _ _=>trivial⟩⟩⟩
theorem aaT:sj=true:=by
 unfold sj kK pF pC oD oB jQ jP eN jR lJ oE ib iT;rw[j13.2,j21.2,j16,j9,j22,Ip,Ip,j17];unfold fI kO mN mM gX kM kL;rw[j17];rfl
theorem Gt:rt:=by
 unfold rt kK;refine⟨XF,j13.1,j21.1,(PA _ _ _ (UA kr)).1,(PA _ _ _ aaS).1,fun _=>Gs _ _,fun _=>⟨Uz _ _,fun _=>⟨Uz _ _,fun _ _=>?_⟩⟩⟩;unfold eN ib iT fI kO mM gX kM kL;rw[j16,j17];exact⟨fun _=>by decide,fun _=>by decide,fun _=>by decide,fun _=>⟨afx,fun _=>by decide,fun _=>⟨by decide,fun _=>by decide,fun _=>by decide,fun _=>by decide,fun _=>by decide⟩⟩⟩
theorem YQ {d:District}{c:List Claim}{j:List Judgement}(h:oO d c j=true)(hj:JR j):(bw d j=0->j.length<=20)/\(aK d c=0->c.length<=300):=by
 unfold oO pN at h;simp only[aim,aiV,decide_eq_true_eq]at h;refine⟨fun h1=>?_,fun h1=>?_⟩;rw[xQ d j hj]at h1;have:=(zN h1).2.1;omega;have:=(A6 h1).2.1;omega
end Go.Sx
end
