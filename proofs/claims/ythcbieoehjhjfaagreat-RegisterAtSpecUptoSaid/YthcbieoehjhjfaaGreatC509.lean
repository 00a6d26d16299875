/- Part of the proof that the law RegisterAtSpec returns true and leaves its arguments as they were, for all arguments of bulk at most 1048576 (the Upto form). -/
import Derived.Test.YthcbieoehjhjfaaGreatC508
import Derived.Test.YthcbieoehjhjfaaGreatC507
set_option linter.all false
set_option maxHeartbeats 4000000
section
namespace Go.Sx
open Go.Proofs
set_option maxRecDepth 100000
set_option linter.unusedSimpArgs false
@[go_sem] def aK (a:Int)(l_:List Deed)(k_1:Nat)(s_1:List Deed×Int):(List Deed)⊕(List Deed×Int):=(bif((decide (s_1.2 > a))&&(decide ((cC (s_1.1.getD (Int.toNat s_1.2) (default:Deed)) (s_1.1.getD (Int.toNat (IntKind.i64.wrap (s_1.2 - 1))) (default:Deed))) <0)))then .inr (((s_1.1.set (Int.toNat s_1.2) (s_1.1.getD (Int.toNat (IntKind.i64.wrap (s_1.2 - 1))) (default:Deed))).set (Int.toNat (IntKind.i64.wrap (s_1.2 - 1))) (s_1.1.getD (Int.toNat s_1.2) (default:Deed))),(IntKind.i64.wrap (s_1.2 - 1)))else .inl s_1.1)
def a_ (a:Int)(l_:List Deed)(k_1:Nat)(s_1:List Deed×Int):Prop:=(((decide (s_1.2 > a))=true→(0≤s_1.2∧s_1.2< (s_1.1.length:Int)))∧(((decide (s_1.2 > a))=true→(0≤(IntKind.i64.wrap (s_1.2 - 1))∧(IntKind.i64.wrap (s_1.2 - 1)) < (s_1.1.length:Int)))∧(((decide (s_1.2 > a))&&(decide ((cC (s_1.1.getD (Int.toNat s_1.2) (default:Deed)) (s_1.1.getD (Int.toNat (IntKind.i64.wrap (s_1.2 - 1))) (default:Deed))) <0)))=true→((0≤(IntKind.i64.wrap (s_1.2 - 1))∧(IntKind.i64.wrap (s_1.2 - 1)) < (s_1.1.length:Int))∧((0≤s_1.2∧s_1.2< (s_1.1.length:Int))∧((0≤s_1.2∧s_1.2< (s_1.1.length:Int))∧(0≤(IntKind.i64.wrap (s_1.2 - 1))∧(IntKind.i64.wrap (s_1.2 - 1)) < ((s_1.1.set (Int.toNat s_1.2) (s_1.1.getD (Int.toNat (IntKind.i64.wrap (s_1.2 - 1))) (default:Deed))).length:Int))))))))
@[go_sem] def aD (a:Int)(b:Int)(l_:List Deed)(k_0:Nat)(s_0:List Deed×Int):(List Deed)⊕(List Deed×Int):=(bif(decide (s_0.2<b))then(match ak (aK a l_) (l_.length+1) 0 (s_0.1,s_0.2)with| .inl x_1_0=>.inr (x_1_0,(IntKind.i64.wrap (s_0.2+1))) | .inr s_1=>.inr default)else .inl s_0.1)
def aP (a:Int)(b:Int)(l_:List Deed)(k_0:Nat)(s_0:List Deed×Int):Prop:=((decide (s_0.2<b))=true→(okI (aK a l_) (a_ a l_) (l_.length+1) 0 (s_0.1,s_0.2)∧(∀ z_,ak (aK a l_) (l_.length+1) 0 (s_0.1,s_0.2)≠ .inr z_)))
def ax (a:Int)(b:Int)(l_:List Deed):List Deed:=(match ak (aD a b l_) (l_.length+1) 0 (l_,(IntKind.i64.wrap (a+1)))with| .inl x_0_0=>x_0_0| .inr s_0=>default)
def aN (a:Int)(b:Int)(l_:List Deed):Prop:=(okI (aD a b l_) (aP a b l_) (l_.length+1) 0 (l_,(IntKind.i64.wrap (a+1)))∧(∀ z_,ak (aD a b l_) (l_.length+1) 0 (l_,(IntKind.i64.wrap (a+1)))≠ .inr z_))
noncomputable def da:List SV→List Ob→Option HCon:=gF (fun x_:Int×Int×(List Deed) =>[.os 0,.v (.int .i64 x_.1),.v (.int .i64 x_.2.1),.fn 78 [] []]) (fun x_=>[.row .deed x_.2.2]) (fun x_=>eM (aN x_.1 x_.2.1 x_.2.2) (.tup []) [.row .deed (ax x_.1 x_.2.1 x_.2.2)])
@[go_sem] theorem pC (a:Int)(b:Int)(l_:List Deed):da ([.os 0,.v (.int .i64 a),.v (.int .i64 b),.fn 78 [] []]) ([.row .deed l_])=some (eM (aN a b l_) (.tup []) [.row .deed (ax a b l_)]):=eB (A:=fun x_:Int×Int×(List Deed) =>[.os 0,.v (.int .i64 x_.1),.v (.int .i64 x_.2.1),.fn 78 [] []]) (H:=fun x_=>[.row .deed x_.2.2]) (K:=fun x_=>eM (aN x_.1 x_.2.1 x_.2.2) (.tup []) [.row .deed (ax x_.1 x_.2.1 x_.2.2)]) (x:=(a,b,l_))
theorem ig:FnOkO Tryz.prog 134 (da):=by
 have hG:ConsOk Tryz.prog (mkG [(78,fun l=>g7 (cT [.st .deed,.st .deed] l))] []):=ay (cgc (kx.norm [.st .deed,.st .deed]) cg0) cg0
 refine fR mixed am hG (fn:=Tryz.f134) (c:=ae Tryz.f134) (by kernel_rfl) (by kernel_rfl) (by kernel_rfl) (by kernel_rfl) fun l o con h=>?_
 obtain⟨⟨a,b,l_⟩,rfl,rfl,rfl⟩:=dy h
 clear h
 try dsimp only
 refine⟨_,_,_,rfl,fun hp=>?_⟩
 unfold aN at hp
 refine⟨Nat.le_of_ble_eq_true rfl,(fun id st=>bif Nat.beq id 0 then some (LCV (ρ:=(List Deed)) (σ:=(List Deed×Int)) 1 [] [0] (fun k_0 s_0=>⟨[(0,.os 0),(1,.v (.int .i64 a)),(2,.v (.int .i64 b)),(3,.fn 78 [] []),(8,.v (.int .i64 s_0.2))],[.row .deed s_0.1]⟩) (aD a b l_) (aP a b l_) (l_.length+1) (l_,(IntKind.i64.wrap (a+1))) (fun _=>.normal) (fun x_0_0=>⟨[],[.row .deed x_0_0]⟩) st)else none),?_,?_⟩
 ·unfold ae Tryz.f134
  simp only[al,true_and,and_true,and_assoc]
  ·refine eO mixed am hG (by kernel_rfl) (fun _=>rfl) fun k_0 s_0 hq0=>⟨(fun id st=>bif Nat.beq id 2 then some (LCV (ρ:=(List Deed)) (σ:=(List Deed×Int)) 1 [] [0] (fun k_1 s_1=>⟨[(0,.os 0),(1,.v (.int .i64 a)),(2,.v (.int .i64 b)),(3,.fn 78 [] []),(8,.v (.int .i64 s_0.2)),(9,.v (.int .i64 s_1.2))],[.row .deed s_1.1]⟩) (aK a l_) (a_ a l_) (l_.length+1) (s_0.1,s_0.2) (fun _=>.normal) (fun x_1_0=>⟨[(0,.os 0),(1,.v (.int .i64 a)),(2,.v (.int .i64 b)),(3,.fn 78 [] []),(8,.v (.int .i64 s_0.2))],[.row .deed x_1_0]⟩) st)else none),?_,?_⟩
   ·simp only[al,true_and,and_true]
    ·refine eO mixed am hG (by kernel_rfl) (fun _=>rfl) fun k_1 s_1 hq1=>⟨L0,ah _,?_⟩
     ·unfold a_ at hq1
      exact gO
   ·unfold aP at hq0
    exact gO
 ·unfold ae Tryz.f134
  try unfold ax
  simp only[go_sem,Nat.reduceBEq,Nat.reduceLeDiff,Nat.reduceLT,decide_true,Nat.reduceAdd,Nat.reduceSub,Nat.reduceMul,Int.reduceLE,Int.reduceLT,Int.reduceToNat,Int.reduceNeg,reduceCtorEq]
  all_goals exact gN
@[go_sem] def bD (a:Int)(b:Int)(n:Int)(k_0:Nat)(s_0:List Deed):Empty⊕(List Deed):=.inr ((s_0.set (Int.toNat (IntKind.i64.wrap (a+(k_0:Int)))) (s_0.getD (Int.toNat (IntKind.i64.wrap (b+(k_0:Int)))) (default:Deed))).set (Int.toNat (IntKind.i64.wrap (b+(k_0:Int)))) (s_0.getD (Int.toNat (IntKind.i64.wrap (a+(k_0:Int)))) (default:Deed)))
def bW (a:Int)(b:Int)(n:Int)(k_0:Nat)(s_0:List Deed):Prop:=((0≤(IntKind.i64.wrap (b+(k_0:Int)))∧(IntKind.i64.wrap (b+(k_0:Int))) < (s_0.length:Int))∧((0≤(IntKind.i64.wrap (a+(k_0:Int)))∧(IntKind.i64.wrap (a+(k_0:Int))) < (s_0.length:Int))∧((0≤(IntKind.i64.wrap (a+(k_0:Int)))∧(IntKind.i64.wrap (a+(k_0:Int))) < (s_0.length:Int))∧(0≤(IntKind.i64.wrap (b+(k_0:Int)))∧(IntKind.i64.wrap (b+(k_0:Int))) < ((s_0.set (Int.toNat (IntKind.i64.wrap (a+(k_0:Int)))) (s_0.getD (Int.toNat (IntKind.i64.wrap (b+(k_0:Int)))) (default:Deed))).length:Int)))))
def aR (a:Int)(b:Int)(n:Int)(l_:List Deed):List Deed:=(match ak (bD a b n) (Int.toNat n) 0 l_ with| .inl x=>x.elim| .inr s_0=>s_0)
def aO (a:Int)(b:Int)(n:Int)(l_:List Deed):Prop:=((n<9223372036854775808)∧okI (bD a b n) (bW a b n) (Int.toNat n) 0 l_)
noncomputable def dJ:List SV→List Ob→Option HCon:=gF (fun x_:Int×Int×Int×(List Deed) =>[.os 0,.v (.int .i64 x_.1),.v (.int .i64 x_.2.1),.v (.int .i64 x_.2.2.1),.fn 78 [] []]) (fun x_=>[.row .deed x_.2.2.2]) (fun x_=>eM (aO x_.1 x_.2.1 x_.2.2.1 x_.2.2.2) (.tup []) [.row .deed (aR x_.1 x_.2.1 x_.2.2.1 x_.2.2.2)])
@[go_sem] theorem qS (a:Int)(b:Int)(n:Int)(l_:List Deed):dJ ([.os 0,.v (.int .i64 a),.v (.int .i64 b),.v (.int .i64 n),.fn 78 [] []]) ([.row .deed l_])=some (eM (aO a b n l_) (.tup []) [.row .deed (aR a b n l_)]):=eB (A:=fun x_:Int×Int×Int×(List Deed) =>[.os 0,.v (.int .i64 x_.1),.v (.int .i64 x_.2.1),.v (.int .i64 x_.2.2.1),.fn 78 [] []]) (H:=fun x_=>[.row .deed x_.2.2.2]) (K:=fun x_=>eM (aO x_.1 x_.2.1 x_.2.2.1 x_.2.2.2) (.tup []) [.row .deed (aR x_.1 x_.2.1 x_.2.2.1 x_.2.2.2)]) (x:=(a,b,n,l_))
theorem jp:FnOkO Tryz.prog 153 (dJ):=by
 have hG:ConsOk Tryz.prog (mkG [] []):=ay cg0 cg0
 refine fR mixed am hG (fn:=Tryz.f153) (c:=ae Tryz.f153) (by kernel_rfl) (by kernel_rfl) (by kernel_rfl) (by kernel_rfl) fun l o con h=>?_
 obtain⟨⟨a,b,n,l_⟩,rfl,rfl,rfl⟩:=dy h
 clear h
 try dsimp only
 refine⟨_,_,_,rfl,fun hp=>?_⟩
 unfold aO at hp
 refine⟨Nat.le_of_ble_eq_true rfl,(fun id st=>bif Nat.beq id 0 then some (LCR (ρ:=Empty) (σ:=(List Deed)) 1 [] [0] (fun k_0 s_0=>⟨[(0,.os 0),(1,.v (.int .i64 a)),(2,.v (.int .i64 b)),(3,.v (.int .i64 n)),(10,.v (.int .i64 (k_0:Int)))],[.row .deed s_0]⟩) (bD a b n) (bW a b n) (Int.toNat n) l_ (n<9223372036854775808) ((·.elim)) ((·.elim)) st)else none),?_,?_⟩
 ·unfold ae Tryz.f153
  simp only[al,true_and,and_true,and_assoc]
  ·refine eh mixed am hG (by kernel_rfl) (fun _=>rfl) n rfl id (fun hb0 k_0 s_0 hlt0 hq0 hw hc=>⟨L0,ah _,?_⟩) (fun hb0 s_0 hc=>?_)
   ·unfold bW at hq0
    try simp only[hw,Int.toNat_natCast]at hq0
    exact fS
   ·exact fT
 ·unfold ae Tryz.f153
  try unfold aR
  simp only[go_sem,Nat.reduceBEq,Nat.reduceLeDiff,Nat.reduceLT,decide_true,Nat.reduceAdd,Nat.reduceSub,Nat.reduceMul,Int.reduceLE,Int.reduceLT,Int.reduceToNat,Int.reduceNeg,reduceCtorEq]
  all_goals exact gN
@[go_sem] def bf (a:Int)(m:Int)(b:Int)(k_0:Nat)(s_0:List Deed×Int×Int):(Int×List Deed)⊕(List Deed×Int×Int):=(bif(s_0.2.1 !=s_0.2.2)then(bif(decide (s_0.2.1 > s_0.2.2))then .inr ((aR (IntKind.i64.wrap (m - s_0.2.1)) m s_0.2.2 s_0.1),(IntKind.i64.wrap (s_0.2.1 - s_0.2.2)),s_0.2.2)else .inr ((aR (IntKind.i64.wrap (m - s_0.2.1)) (IntKind.i64.wrap ((IntKind.i64.wrap (m+s_0.2.2)) - s_0.2.1)) s_0.2.1 s_0.1),s_0.2.1,(IntKind.i64.wrap (s_0.2.2 - s_0.2.1))))else .inl (s_0.2.1,s_0.1))
def ci (a:Int)(m:Int)(b:Int)(k_0:Nat)(s_0:List Deed×Int×Int):Prop:=((s_0.2.1 !=s_0.2.2)=true→(((decide (s_0.2.1 > s_0.2.2))=true→(aO (IntKind.i64.wrap (m - s_0.2.1)) m s_0.2.2 s_0.1))∧((decide (s_0.2.1 > s_0.2.2))=false→(aO (IntKind.i64.wrap (m - s_0.2.1)) (IntKind.i64.wrap ((IntKind.i64.wrap (m+s_0.2.2)) - s_0.2.1)) s_0.2.1 s_0.1))))
def av (a:Int)(m:Int)(b:Int)(l_:List Deed):List Deed:=(match ak (bf a m b) (Int.toNat (b - a)+1) 0 (l_,(IntKind.i64.wrap (m - a)),(IntKind.i64.wrap (b - m)))with| .inl x_0_0=>(aR (IntKind.i64.wrap (m - x_0_0.1)) m x_0_0.1 x_0_0.2) | .inr s_0=>default)
def bp (a:Int)(m:Int)(b:Int)(l_:List Deed):Prop:=(okI (bf a m b) (ci a m b) (Int.toNat (b - a)+1) 0 (l_,(IntKind.i64.wrap (m - a)),(IntKind.i64.wrap (b - m)))∧(∀ z_,ak (bf a m b) (Int.toNat (b - a)+1) 0 (l_,(IntKind.i64.wrap (m - a)),(IntKind.i64.wrap (b - m)))≠ .inr z_)∧(∀ x_0_0,ak (bf a m b) (Int.toNat (b - a)+1) 0 (l_,(IntKind.i64.wrap (m - a)),(IntKind.i64.wrap (b - m)))=.inl x_0_0→(aO (IntKind.i64.wrap (m - x_0_0.1)) m x_0_0.1 x_0_0.2)))
noncomputable def d5:List SV→List Ob→Option HCon:=gF (fun x_:Int×Int×Int×(List Deed) =>[.os 0,.v (.int .i64 x_.1),.v (.int .i64 x_.2.1),.v (.int .i64 x_.2.2.1),.fn 78 [] []]) (fun x_=>[.row .deed x_.2.2.2]) (fun x_=>eM (bp x_.1 x_.2.1 x_.2.2.1 x_.2.2.2) (.tup []) [.row .deed (av x_.1 x_.2.1 x_.2.2.1 x_.2.2.2)])
@[go_sem] theorem sn (a:Int)(m:Int)(b:Int)(l_:List Deed):d5 ([.os 0,.v (.int .i64 a),.v (.int .i64 m),.v (.int .i64 b),.fn 78 [] []]) ([.row .deed l_])=some (eM (bp a m b l_) (.tup []) [.row .deed (av a m b l_)]):=eB (A:=fun x_:Int×Int×Int×(List Deed) =>[.os 0,.v (.int .i64 x_.1),.v (.int .i64 x_.2.1),.v (.int .i64 x_.2.2.1),.fn 78 [] []]) (H:=fun x_=>[.row .deed x_.2.2.2]) (K:=fun x_=>eM (bp x_.1 x_.2.1 x_.2.2.1 x_.2.2.2) (.tup []) [.row .deed (av x_.1 x_.2.1 x_.2.2.1 x_.2.2.2)]) (x:=(a,m,b,l_))
theorem ky:FnOkO Tryz.prog 148 (d5):=by
 have hG:ConsOk Tryz.prog (mkG [] [(153,dJ)]):=ay cg0 (cgc jp cg0)
 refine fR mixed am hG (fn:=Tryz.f148) (c:=ae Tryz.f148) (by kernel_rfl) (by kernel_rfl) (by kernel_rfl) (by kernel_rfl) fun l o con h=>?_
 obtain⟨⟨a,m,b,l_⟩,rfl,rfl,rfl⟩:=dy h
 clear h
 try dsimp only
 refine⟨_,_,_,rfl,fun hp=>?_⟩
 unfold bp at hp
 refine⟨Nat.le_of_ble_eq_true rfl,(fun id st=>bif Nat.beq id 0 then some (LCV (ρ:=(Int×List Deed)) (σ:=(List Deed×Int×Int)) 1 [] [0] (fun k_0 s_0=>⟨[(0,.os 0),(2,.v (.int .i64 m)),(4,.fn 78 [] []),(10,.v (.int .i64 s_0.2.1)),(11,.v (.int .i64 s_0.2.2))],[.row .deed s_0.1]⟩) (bf a m b) (ci a m b) (Int.toNat (b - a)+1) (l_,(IntKind.i64.wrap (m - a)),(IntKind.i64.wrap (b - m))) (fun _=>.normal) (fun x_0_0=>⟨[(0,.os 0),(2,.v (.int .i64 m)),(4,.fn 78 [] []),(10,.v (.int .i64 x_0_0.1))],[.row .deed x_0_0.2]⟩) st)else none),?_,?_⟩
 ·unfold ae Tryz.f148
  simp only[al,true_and,and_true,and_assoc]
  ·refine eO mixed am hG (by kernel_rfl) (fun _=>rfl) fun k_0 s_0 hq0=>⟨L0,ah _,?_⟩
   ·unfold ci at hq0
    exact gO
 ·unfold ae Tryz.f148
  try unfold av
  simp only[go_sem,Nat.reduceBEq,Nat.reduceLeDiff,Nat.reduceLT,decide_true,Nat.reduceAdd,Nat.reduceSub,Nat.reduceMul,Int.reduceLE,Int.reduceLT,Int.reduceToNat,Int.reduceNeg,reduceCtorEq]
  all_goals exact gN
end Go.Sx
end
section
namespace Go.Sx
open Go.Proofs
set_option maxRecDepth 100000
set_option linter.unusedSimpArgs false
noncomputable def An (rec_:Int→Int→Int→List Deed→List Deed)(recp_:Int→Int→Int→List Deed→Prop):List SV→List Ob→Option HCon:=gF (fun x_:Int×Int×Int×(List Deed) =>[.os 0,.v (.int .i64 x_.1),.v (.int .i64 x_.2.1),.v (.int .i64 x_.2.2.1),.fn 78 [] []]) (fun x_=>[.row .deed x_.2.2.2]) (fun x_=>eM (recp_ x_.1 x_.2.1 x_.2.2.1 x_.2.2.2) (.tup []) [.row .deed (rec_ x_.1 x_.2.1 x_.2.2.1 x_.2.2.2)])
@[go_sem] theorem y5 (rec_:Int→Int→Int→List Deed→List Deed)(recp_:Int→Int→Int→List Deed→Prop)(a:Int)(m:Int)(b:Int)(l_:List Deed):An rec_ recp_ ([.os 0,.v (.int .i64 a),.v (.int .i64 m),.v (.int .i64 b),.fn 78 [] []]) ([.row .deed l_])=some (eM (recp_ a m b l_) (.tup []) [.row .deed (rec_ a m b l_)]):=eB (A:=fun x_:Int×Int×Int×(List Deed) =>[.os 0,.v (.int .i64 x_.1),.v (.int .i64 x_.2.1),.v (.int .i64 x_.2.2.1),.fn 78 [] []]) (H:=fun x_=>[.row .deed x_.2.2.2]) (K:=fun x_=>eM (recp_ x_.1 x_.2.1 x_.2.2.1 x_.2.2.2) (.tup []) [.row .deed (rec_ x_.1 x_.2.1 x_.2.2.1 x_.2.2.2)]) (x:=(a,m,b,l_))
@[go_sem] def kz (a:Int)(l_:List Deed)(k_0:Nat)(s_0:Int×Int):Int⊕(Int×Int):=(bif(decide (s_0.1<s_0.2))then(bif(decide ((cC (l_.getD (Int.toNat (IntKind.i64.wrap (br .u64 (IntKind.u64.wrap (IntKind.i64.wrap (s_0.1+s_0.2))) 1))) (default:Deed)) (l_.getD (Int.toNat a) (default:Deed))) <0))then .inr ((IntKind.i64.wrap ((IntKind.i64.wrap (br .u64 (IntKind.u64.wrap (IntKind.i64.wrap (s_0.1+s_0.2))) 1))+1)),s_0.2)else .inr (s_0.1,(IntKind.i64.wrap (br .u64 (IntKind.u64.wrap (IntKind.i64.wrap (s_0.1+s_0.2))) 1))))else .inl s_0.1)
def mU (a:Int)(l_:List Deed)(k_0:Nat)(s_0:Int×Int):Prop:=((decide (s_0.1<s_0.2))=true→((0≤(IntKind.i64.wrap (br .u64 (IntKind.u64.wrap (IntKind.i64.wrap (s_0.1+s_0.2))) 1))∧(IntKind.i64.wrap (br .u64 (IntKind.u64.wrap (IntKind.i64.wrap (s_0.1+s_0.2))) 1)) < (l_.length:Int))∧(0≤a∧a< (l_.length:Int))))
@[go_sem] def pb (l_:List Deed)(x_0_0:Int)(k_1:Nat)(s_1:List Deed×Int):(List Deed)⊕(List Deed×Int):=(bif(decide (s_1.2< (IntKind.i64.wrap (x_0_0 - 1))))then .inr (((s_1.1.set (Int.toNat s_1.2) (s_1.1.getD (Int.toNat (IntKind.i64.wrap (s_1.2+1))) (default:Deed))).set (Int.toNat (IntKind.i64.wrap (s_1.2+1))) (s_1.1.getD (Int.toNat s_1.2) (default:Deed))),(IntKind.i64.wrap (s_1.2+1)))else .inl s_1.1)
def oI (l_:List Deed)(x_0_0:Int)(k_1:Nat)(s_1:List Deed×Int):Prop:=((decide (s_1.2< (IntKind.i64.wrap (x_0_0 - 1))))=true→((0≤(IntKind.i64.wrap (s_1.2+1))∧(IntKind.i64.wrap (s_1.2+1)) < (s_1.1.length:Int))∧((0≤s_1.2∧s_1.2< (s_1.1.length:Int))∧((0≤s_1.2∧s_1.2< (s_1.1.length:Int))∧(0≤(IntKind.i64.wrap (s_1.2+1))∧(IntKind.i64.wrap (s_1.2+1)) < ((s_1.1.set (Int.toNat s_1.2) (s_1.1.getD (Int.toNat (IntKind.i64.wrap (s_1.2+1))) (default:Deed))).length:Int))))))
@[go_sem] def kA (m:Int)(l_:List Deed)(k_2:Nat)(s_2:Int×Int):Int⊕(Int×Int):=(bif(decide (s_2.1<s_2.2))then(bif(!(decide ((cC (l_.getD (Int.toNat m) (default:Deed)) (l_.getD (Int.toNat (IntKind.i64.wrap (br .u64 (IntKind.u64.wrap (IntKind.i64.wrap (s_2.1+s_2.2))) 1))) (default:Deed))) <0)))then .inr ((IntKind.i64.wrap ((IntKind.i64.wrap (br .u64 (IntKind.u64.wrap (IntKind.i64.wrap (s_2.1+s_2.2))) 1))+1)),s_2.2)else .inr (s_2.1,(IntKind.i64.wrap (br .u64 (IntKind.u64.wrap (IntKind.i64.wrap (s_2.1+s_2.2))) 1))))else .inl s_2.1)
def mV (m:Int)(l_:List Deed)(k_2:Nat)(s_2:Int×Int):Prop:=((decide (s_2.1<s_2.2))=true→((0≤m∧m< (l_.length:Int))∧(0≤(IntKind.i64.wrap (br .u64 (IntKind.u64.wrap (IntKind.i64.wrap (s_2.1+s_2.2))) 1))∧(IntKind.i64.wrap (br .u64 (IntKind.u64.wrap (IntKind.i64.wrap (s_2.1+s_2.2))) 1)) < (l_.length:Int))))
@[go_sem] def pc (l_:List Deed)(x_2_0:Int)(k_3:Nat)(s_3:List Deed×Int):(List Deed)⊕(List Deed×Int):=(bif(decide (s_3.2 > x_2_0))then .inr (((s_3.1.set (Int.toNat s_3.2) (s_3.1.getD (Int.toNat (IntKind.i64.wrap (s_3.2 - 1))) (default:Deed))).set (Int.toNat (IntKind.i64.wrap (s_3.2 - 1))) (s_3.1.getD (Int.toNat s_3.2) (default:Deed))),(IntKind.i64.wrap (s_3.2 - 1)))else .inl s_3.1)
def oJ (l_:List Deed)(x_2_0:Int)(k_3:Nat)(s_3:List Deed×Int):Prop:=((decide (s_3.2 > x_2_0))=true→((0≤(IntKind.i64.wrap (s_3.2 - 1))∧(IntKind.i64.wrap (s_3.2 - 1)) < (s_3.1.length:Int))∧((0≤s_3.2∧s_3.2< (s_3.1.length:Int))∧((0≤s_3.2∧s_3.2< (s_3.1.length:Int))∧(0≤(IntKind.i64.wrap (s_3.2 - 1))∧(IntKind.i64.wrap (s_3.2 - 1)) < ((s_3.1.set (Int.toNat s_3.2) (s_3.1.getD (Int.toNat (IntKind.i64.wrap (s_3.2 - 1))) (default:Deed))).length:Int))))))
@[go_sem] def nW (a:Int)(m:Int)(b:Int)(l_:List Deed)(k_4:Nat)(s_4:Int×Int):Int⊕(Int×Int):=(bif(decide (s_4.1<s_4.2))then(bif(!(decide ((cC (l_.getD (Int.toNat (IntKind.i64.wrap ((IntKind.i64.wrap ((IntKind.i64.wrap ((IntKind.i64.wrap (br .u64 (IntKind.u64.wrap (IntKind.i64.wrap (a+b))) 1))+m)) - 1)) - (IntKind.i64.wrap (br .u64 (IntKind.u64.wrap (IntKind.i64.wrap (s_4.1+s_4.2))) 1))))) (default:Deed)) (l_.getD (Int.toNat (IntKind.i64.wrap (br .u64 (IntKind.u64.wrap (IntKind.i64.wrap (s_4.1+s_4.2))) 1))) (default:Deed))) <0)))then .inr ((IntKind.i64.wrap ((IntKind.i64.wrap (br .u64 (IntKind.u64.wrap (IntKind.i64.wrap (s_4.1+s_4.2))) 1))+1)),s_4.2)else .inr (s_4.1,(IntKind.i64.wrap (br .u64 (IntKind.u64.wrap (IntKind.i64.wrap (s_4.1+s_4.2))) 1))))else .inl s_4.1)
def mW (a:Int)(m:Int)(b:Int)(l_:List Deed)(k_4:Nat)(s_4:Int×Int):Prop:=((decide (s_4.1<s_4.2))=true→((0≤(IntKind.i64.wrap ((IntKind.i64.wrap ((IntKind.i64.wrap ((IntKind.i64.wrap (br .u64 (IntKind.u64.wrap (IntKind.i64.wrap (a+b))) 1))+m)) - 1)) - (IntKind.i64.wrap (br .u64 (IntKind.u64.wrap (IntKind.i64.wrap (s_4.1+s_4.2))) 1))))∧(IntKind.i64.wrap ((IntKind.i64.wrap ((IntKind.i64.wrap ((IntKind.i64.wrap (br .u64 (IntKind.u64.wrap (IntKind.i64.wrap (a+b))) 1))+m)) - 1)) - (IntKind.i64.wrap (br .u64 (IntKind.u64.wrap (IntKind.i64.wrap (s_4.1+s_4.2))) 1)))) < (l_.length:Int))∧(0≤(IntKind.i64.wrap (br .u64 (IntKind.u64.wrap (IntKind.i64.wrap (s_4.1+s_4.2))) 1))∧(IntKind.i64.wrap (br .u64 (IntKind.u64.wrap (IntKind.i64.wrap (s_4.1+s_4.2))) 1)) < (l_.length:Int))))
def Ao (rec_:Int→Int→Int→List Deed→List Deed)(recp_:Int→Int→Int→List Deed→Prop)(a:Int)(m:Int)(b:Int)(l_:List Deed):List Deed:=(bif((IntKind.i64.wrap (m - a)) ==1)then(match ak (kz a l_) (l_.length+1) 0 (m,b)with| .inl x_0_0=>(match ak (pb l_ x_0_0) (l_.length+1) 0 (l_,a)with| .inl x_1_0=>x_1_0| .inr s_1=>default) | .inr s_0=>default)else(bif((IntKind.i64.wrap (b - m)) ==1)then(match ak (kA m l_) (l_.length+1) 0 (a,m)with| .inl x_2_0=>(match ak (pc l_ x_2_0) (l_.length+1) 0 (l_,m)with| .inl x_3_0=>x_3_0| .inr s_3=>default) | .inr s_2=>default)else(match ak (nW a m b l_) (l_.length+1) 0 ((bif(decide (m > (IntKind.i64.wrap (br .u64 (IntKind.u64.wrap (IntKind.i64.wrap (a+b))) 1))))then(IntKind.i64.wrap ((IntKind.i64.wrap ((IntKind.i64.wrap (br .u64 (IntKind.u64.wrap (IntKind.i64.wrap (a+b))) 1))+m)) - b))else a),(bif(decide (m > (IntKind.i64.wrap (br .u64 (IntKind.u64.wrap (IntKind.i64.wrap (a+b))) 1))))then(IntKind.i64.wrap (br .u64 (IntKind.u64.wrap (IntKind.i64.wrap (a+b))) 1))else m))with| .inl x_4_0=>(bif((decide (x_4_0<m))&&(decide (m< (IntKind.i64.wrap ((IntKind.i64.wrap ((IntKind.i64.wrap (br .u64 (IntKind.u64.wrap (IntKind.i64.wrap (a+b))) 1))+m)) - x_4_0)))))then(bif((decide (a<x_4_0))&&(decide (x_4_0< (IntKind.i64.wrap (br .u64 (IntKind.u64.wrap (IntKind.i64.wrap (a+b))) 1)))))then(bif((decide ((IntKind.i64.wrap (br .u64 (IntKind.u64.wrap (IntKind.i64.wrap (a+b))) 1)) < (IntKind.i64.wrap ((IntKind.i64.wrap ((IntKind.i64.wrap (br .u64 (IntKind.u64.wrap (IntKind.i64.wrap (a+b))) 1))+m)) - x_4_0))))&&(decide ((IntKind.i64.wrap ((IntKind.i64.wrap ((IntKind.i64.wrap (br .u64 (IntKind.u64.wrap (IntKind.i64.wrap (a+b))) 1))+m)) - x_4_0)) <b)))then(rec_ (IntKind.i64.wrap (br .u64 (IntKind.u64.wrap (IntKind.i64.wrap (a+b))) 1)) (IntKind.i64.wrap ((IntKind.i64.wrap ((IntKind.i64.wrap (br .u64 (IntKind.u64.wrap (IntKind.i64.wrap (a+b))) 1))+m)) - x_4_0)) b (rec_ a x_4_0 (IntKind.i64.wrap (br .u64 (IntKind.u64.wrap (IntKind.i64.wrap (a+b))) 1)) (av x_4_0 m (IntKind.i64.wrap ((IntKind.i64.wrap ((IntKind.i64.wrap (br .u64 (IntKind.u64.wrap (IntKind.i64.wrap (a+b))) 1))+m)) - x_4_0)) l_)))else(rec_ a x_4_0 (IntKind.i64.wrap (br .u64 (IntKind.u64.wrap (IntKind.i64.wrap (a+b))) 1)) (av x_4_0 m (IntKind.i64.wrap ((IntKind.i64.wrap ((IntKind.i64.wrap (br .u64 (IntKind.u64.wrap (IntKind.i64.wrap (a+b))) 1))+m)) - x_4_0)) l_)))else(bif((decide ((IntKind.i64.wrap (br .u64 (IntKind.u64.wrap (IntKind.i64.wrap (a+b))) 1)) < (IntKind.i64.wrap ((IntKind.i64.wrap ((IntKind.i64.wrap (br .u64 (IntKind.u64.wrap (IntKind.i64.wrap (a+b))) 1))+m)) - x_4_0))))&&(decide ((IntKind.i64.wrap ((IntKind.i64.wrap ((IntKind.i64.wrap (br .u64 (IntKind.u64.wrap (IntKind.i64.wrap (a+b))) 1))+m)) - x_4_0)) <b)))then(rec_ (IntKind.i64.wrap (br .u64 (IntKind.u64.wrap (IntKind.i64.wrap (a+b))) 1)) (IntKind.i64.wrap ((IntKind.i64.wrap ((IntKind.i64.wrap (br .u64 (IntKind.u64.wrap (IntKind.i64.wrap (a+b))) 1))+m)) - x_4_0)) b (av x_4_0 m (IntKind.i64.wrap ((IntKind.i64.wrap ((IntKind.i64.wrap (br .u64 (IntKind.u64.wrap (IntKind.i64.wrap (a+b))) 1))+m)) - x_4_0)) l_))else(av x_4_0 m (IntKind.i64.wrap ((IntKind.i64.wrap ((IntKind.i64.wrap (br .u64 (IntKind.u64.wrap (IntKind.i64.wrap (a+b))) 1))+m)) - x_4_0)) l_)))else(bif((decide (a<x_4_0))&&(decide (x_4_0< (IntKind.i64.wrap (br .u64 (IntKind.u64.wrap (IntKind.i64.wrap (a+b))) 1)))))then(bif((decide ((IntKind.i64.wrap (br .u64 (IntKind.u64.wrap (IntKind.i64.wrap (a+b))) 1)) < (IntKind.i64.wrap ((IntKind.i64.wrap ((IntKind.i64.wrap (br .u64 (IntKind.u64.wrap (IntKind.i64.wrap (a+b))) 1))+m)) - x_4_0))))&&(decide ((IntKind.i64.wrap ((IntKind.i64.wrap ((IntKind.i64.wrap (br .u64 (IntKind.u64.wrap (IntKind.i64.wrap (a+b))) 1))+m)) - x_4_0)) <b)))then(rec_ (IntKind.i64.wrap (br .u64 (IntKind.u64.wrap (IntKind.i64.wrap (a+b))) 1)) (IntKind.i64.wrap ((IntKind.i64.wrap ((IntKind.i64.wrap (br .u64 (IntKind.u64.wrap (IntKind.i64.wrap (a+b))) 1))+m)) - x_4_0)) b (rec_ a x_4_0 (IntKind.i64.wrap (br .u64 (IntKind.u64.wrap (IntKind.i64.wrap (a+b))) 1)) l_))else(rec_ a x_4_0 (IntKind.i64.wrap (br .u64 (IntKind.u64.wrap (IntKind.i64.wrap (a+b))) 1)) l_))else(bif((decide ((IntKind.i64.wrap (br .u64 (IntKind.u64.wrap (IntKind.i64.wrap (a+b))) 1)) < (IntKind.i64.wrap ((IntKind.i64.wrap ((IntKind.i64.wrap (br .u64 (IntKind.u64.wrap (IntKind.i64.wrap (a+b))) 1))+m)) - x_4_0))))&&(decide ((IntKind.i64.wrap ((IntKind.i64.wrap ((IntKind.i64.wrap (br .u64 (IntKind.u64.wrap (IntKind.i64.wrap (a+b))) 1))+m)) - x_4_0)) <b)))then(rec_ (IntKind.i64.wrap (br .u64 (IntKind.u64.wrap (IntKind.i64.wrap (a+b))) 1)) (IntKind.i64.wrap ((IntKind.i64.wrap ((IntKind.i64.wrap (br .u64 (IntKind.u64.wrap (IntKind.i64.wrap (a+b))) 1))+m)) - x_4_0)) b l_)else l_))) | .inr s_4=>default)))
def pd (rec_:Int→Int→Int→List Deed→List Deed)(recp_:Int→Int→Int→List Deed→Prop)(a:Int)(m:Int)(b:Int)(l_:List Deed):Prop:=((((IntKind.i64.wrap (m - a)) ==1)=true→(okI (kz a l_) (mU a l_) (l_.length+1) 0 (m,b)∧(∀ z_,ak (kz a l_) (l_.length+1) 0 (m,b)≠ .inr z_)∧(∀ x_0_0,ak (kz a l_) (l_.length+1) 0 (m,b)=.inl x_0_0→(okI (pb l_ x_0_0) (oI l_ x_0_0) (l_.length+1) 0 (l_,a)∧(∀ z_,ak (pb l_ x_0_0) (l_.length+1) 0 (l_,a)≠ .inr z_)))))∧(((IntKind.i64.wrap (m - a)) ==1)=false→((((IntKind.i64.wrap (b - m)) ==1)=true→(okI (kA m l_) (mV m l_) (l_.length+1) 0 (a,m)∧(∀ z_,ak (kA m l_) (l_.length+1) 0 (a,m)≠ .inr z_)∧(∀ x_2_0,ak (kA m l_) (l_.length+1) 0 (a,m)=.inl x_2_0→(okI (pc l_ x_2_0) (oJ l_ x_2_0) (l_.length+1) 0 (l_,m)∧(∀ z_,ak (pc l_ x_2_0) (l_.length+1) 0 (l_,m)≠ .inr z_)))))∧(((IntKind.i64.wrap (b - m)) ==1)=false→(okI (nW a m b l_) (mW a m b l_) (l_.length+1) 0 ((bif(decide (m > (IntKind.i64.wrap (br .u64 (IntKind.u64.wrap (IntKind.i64.wrap (a+b))) 1))))then(IntKind.i64.wrap ((IntKind.i64.wrap ((IntKind.i64.wrap (br .u64 (IntKind.u64.wrap (IntKind.i64.wrap (a+b))) 1))+m)) - b))else a),(bif(decide (m > (IntKind.i64.wrap (br .u64 (IntKind.u64.wrap (IntKind.i64.wrap (a+b))) 1))))then(IntKind.i64.wrap (br .u64 (IntKind.u64.wrap (IntKind.i64.wrap (a+b))) 1))else m))∧(∀ z_,ak (nW a m b l_) (l_.length+1) 0 ((bif(decide (m > (IntKind.i64.wrap (br .u64 (IntKind.u64.wrap (IntKind.i64.wrap (a+b))) 1))))then(IntKind.i64.wrap ((IntKind.i64.wrap ((IntKind.i64.wrap (br .u64 (IntKind.u64.wrap (IntKind.i64.wrap (a+b))) 1))+m)) - b))else a),(bif(decide (m > (IntKind.i64.wrap (br .u64 (IntKind.u64.wrap (IntKind.i64.wrap (a+b))) 1))))then(IntKind.i64.wrap (br .u64 (IntKind.u64.wrap (IntKind.i64.wrap (a+b))) 1))else m))≠ .inr z_)∧(∀ x_4_0,ak (nW a m b l_) (l_.length+1) 0 ((bif(decide (m > (IntKind.i64.wrap (br .u64 (IntKind.u64.wrap (IntKind.i64.wrap (a+b))) 1))))then(IntKind.i64.wrap ((IntKind.i64.wrap ((IntKind.i64.wrap (br .u64 (IntKind.u64.wrap (IntKind.i64.wrap (a+b))) 1))+m)) - b))else a),(bif(decide (m > (IntKind.i64.wrap (br .u64 (IntKind.u64.wrap (IntKind.i64.wrap (a+b))) 1))))then(IntKind.i64.wrap (br .u64 (IntKind.u64.wrap (IntKind.i64.wrap (a+b))) 1))else m))=.inl x_4_0→((((decide (x_4_0<m))&&(decide (m< (IntKind.i64.wrap ((IntKind.i64.wrap ((IntKind.i64.wrap (br .u64 (IntKind.u64.wrap (IntKind.i64.wrap (a+b))) 1))+m)) - x_4_0)))))=true→((bp x_4_0 m (IntKind.i64.wrap ((IntKind.i64.wrap ((IntKind.i64.wrap (br .u64 (IntKind.u64.wrap (IntKind.i64.wrap (a+b))) 1))+m)) - x_4_0)) l_)∧((((decide (a<x_4_0))&&(decide (x_4_0< (IntKind.i64.wrap (br .u64 (IntKind.u64.wrap (IntKind.i64.wrap (a+b))) 1)))))=true→((recp_ a x_4_0 (IntKind.i64.wrap (br .u64 (IntKind.u64.wrap (IntKind.i64.wrap (a+b))) 1)) (av x_4_0 m (IntKind.i64.wrap ((IntKind.i64.wrap ((IntKind.i64.wrap (br .u64 (IntKind.u64.wrap (IntKind.i64.wrap (a+b))) 1))+m)) - x_4_0)) l_))∧(((decide ((IntKind.i64.wrap (br .u64 (IntKind.u64.wrap (IntKind.i64.wrap (a+b))) 1)) < (IntKind.i64.wrap ((IntKind.i64.wrap ((IntKind.i64.wrap (br .u64 (IntKind.u64.wrap (IntKind.i64.wrap (a+b))) 1))+m)) - x_4_0))))&&(decide ((IntKind.i64.wrap ((IntKind.i64.wrap ((IntKind.i64.wrap (br .u64 (IntKind.u64.wrap (IntKind.i64.wrap (a+b))) 1))+m)) - x_4_0)) <b)))=true→(recp_ (IntKind.i64.wrap (br .u64 (IntKind.u64.wrap (IntKind.i64.wrap (a+b))) 1)) (IntKind.i64.wrap ((IntKind.i64.wrap ((IntKind.i64.wrap (br .u64 (IntKind.u64.wrap (IntKind.i64.wrap (a+b))) 1))+m)) - x_4_0)) b (rec_ a x_4_0 (IntKind.i64.wrap (br .u64 (IntKind.u64.wrap (IntKind.i64.wrap (a+b))) 1)) (av x_4_0 m (IntKind.i64.wrap ((IntKind.i64.wrap ((IntKind.i64.wrap (br .u64 (IntKind.u64.wrap (IntKind.i64.wrap (a+b))) 1))+m)) - x_4_0)) l_))))))∧(((decide (a<x_4_0))&&(decide (x_4_0< (IntKind.i64.wrap (br .u64 (IntKind.u64.wrap (IntKind.i64.wrap (a+b))) 1)))))=false→(((decide ((IntKind.i64.wrap (br .u64 (IntKind.u64.wrap (IntKind.i64.wrap (a+b))) 1)) < (IntKind.i64.wrap ((IntKind.i64.wrap ((IntKind.i64.wrap (br .u64 (IntKind.u64.wrap (IntKind.i64.wrap (a+b))) 1))+m)) - x_4_0))))&&(decide ((IntKind.i64.wrap ((IntKind.i64.wrap ((IntKind.i64.wrap (br .u64 (IntKind.u64.wrap (IntKind.i64.wrap (a+b))) 1))+m)) - x_4_0)) <b)))=true→(recp_ (IntKind.i64.wrap (br .u64 (IntKind.u64.wrap (IntKind.i64.wrap (a+b))) 1)) (IntKind.i64.wrap ((IntKind.i64.wrap ((IntKind.i64.wrap (br .u64 (IntKind.u64.wrap (IntKind.i64.wrap (a+b))) 1))+m)) - x_4_0)) b (av x_4_0 m (IntKind.i64.wrap ((IntKind.i64.wrap ((IntKind.i64.wrap (br .u64 (IntKind.u64.wrap (IntKind.i64.wrap (a+b))) 1))+m)) - x_4_0)) l_)))))))∧(((decide (x_4_0<m))&&(decide (m< (IntKind.i64.wrap ((IntKind.i64.wrap ((IntKind.i64.wrap (br .u64 (IntKind.u64.wrap (IntKind.i64.wrap (a+b))) 1))+m)) - x_4_0)))))=false→((((decide (a<x_4_0))&&(decide (x_4_0< (IntKind.i64.wrap (br .u64 (IntKind.u64.wrap (IntKind.i64.wrap (a+b))) 1)))))=true→((recp_ a x_4_0 (IntKind.i64.wrap (br .u64 (IntKind.u64.wrap (IntKind.i64.wrap (a+b))) 1)) l_)∧(((decide ((IntKind.i64.wrap (br .u64 (IntKind.u64.wrap (IntKind.i64.wrap (a+b))) 1)) < (IntKind.i64.wrap ((IntKind.i64.wrap ((IntKind.i64.wrap (br .u64 (IntKind.u64.wrap (IntKind.i64.wrap (a+b))) 1))+m)) - x_4_0))))&&(decide ((IntKind.i64.wrap ((IntKind.i64.wrap ((IntKind.i64.wrap (br .u64 (IntKind.u64.wrap (IntKind.i64.wrap (a+b))) 1))+m)) - x_4_0)) <b)))=true→(recp_ (IntKind.i64.wrap (br .u64 (IntKind.u64.wrap (IntKind.i64.wrap (a+b))) 1)) (IntKind.i64.wrap ((IntKind.i64.wrap ((IntKind.i64.wrap (br .u64 (IntKind.u64.wrap (IntKind.i64.wrap (a+b))) 1))+m)) - x_4_0)) b (rec_ a x_4_0 (IntKind.i64.wrap (br .u64 (IntKind.u64.wrap (IntKind.i64.wrap (a+b))) 1)) l_)))))∧(((decide (a<x_4_0))&&(decide (x_4_0< (IntKind.i64.wrap (br .u64 (IntKind.u64.wrap (IntKind.i64.wrap (a+b))) 1)))))=false→(((decide ((IntKind.i64.wrap (br .u64 (IntKind.u64.wrap (IntKind.i64.wrap (a+b))) 1)) < (IntKind.i64.wrap ((IntKind.i64.wrap ((IntKind.i64.wrap (br .u64 (IntKind.u64.wrap (IntKind.i64.wrap (a+b))) 1))+m)) - x_4_0))))&&(decide ((IntKind.i64.wrap ((IntKind.i64.wrap ((IntKind.i64.wrap (br .u64 (IntKind.u64.wrap (IntKind.i64.wrap (a+b))) 1))+m)) - x_4_0)) <b)))=true→(recp_ (IntKind.i64.wrap (br .u64 (IntKind.u64.wrap (IntKind.i64.wrap (a+b))) 1)) (IntKind.i64.wrap ((IntKind.i64.wrap ((IntKind.i64.wrap (br .u64 (IntKind.u64.wrap (IntKind.i64.wrap (a+b))) 1))+m)) - x_4_0)) b l_))))))))))))
noncomputable def Og (rec_:Int→Int→Int→List Deed→List Deed)(recp_:Int→Int→Int→List Deed→Prop):List SV→List Ob→Option HCon:=gF (fun x_:Int×Int×Int×(List Deed) =>[.os 0,.v (.int .i64 x_.1),.v (.int .i64 x_.2.1),.v (.int .i64 x_.2.2.1),.fn 78 [] []]) (fun x_=>[.row .deed x_.2.2.2]) (fun x_=>eM (pd rec_ recp_ x_.1 x_.2.1 x_.2.2.1 x_.2.2.2) (.tup []) [.row .deed (Ao rec_ recp_ x_.1 x_.2.1 x_.2.2.1 x_.2.2.2)])
theorem Lf (rec_:Int→Int→Int→List Deed→List Deed)(recp_:Int→Int→Int→List Deed→Prop)(hr:FnOkO Tryz.prog 135 (An rec_ recp_)):FnOkO Tryz.prog 135 (Og rec_ recp_):=by
 have hG:ConsOk Tryz.prog (mkG [(78,fun l=>g7 (cT [.st .deed,.st .deed] l))] [(135,(An rec_ recp_)),(148,d5)]):=ay (cgc (kx.norm [.st .deed,.st .deed]) cg0) (cgc hr (cgc ky cg0))
 refine fR mixed am hG (fn:=Tryz.f135) (c:=ae Tryz.f135) (by kernel_rfl) (by kernel_rfl) (by kernel_rfl) (by kernel_rfl) fun l o con h=>?_
 obtain⟨⟨a,m,b,l_⟩,rfl,rfl,rfl⟩:=dy h
 clear h
 try dsimp only
 refine⟨_,_,_,rfl,fun hp=>?_⟩
 unfold pd at hp
 refine⟨Nat.le_of_ble_eq_true rfl,(fun id st=>bif Nat.beq id 0 then some (LCV (ρ:=Int) (σ:=(Int×Int)) 1 [] [0] (fun k_0 s_0=>⟨[(0,.os 0),(1,.v (.int .i64 a)),(4,.fn 78 [] []),(10,.v (.int .i64 s_0.1)),(11,.v (.int .i64 s_0.2))],[.row .deed l_]⟩) (kz a l_) (mU a l_) (l_.length+1) (m,b) (fun _=>.normal) (fun x_0_0=>⟨[(0,.os 0),(1,.v (.int .i64 a)),(10,.v (.int .i64 x_0_0))],[.row .deed l_]⟩) st)else bif Nat.beq id 2 then some (LCV (ρ:=(List Deed)) (σ:=(List Deed×Int)) 1 [] [0] (fun k_1 s_1=>⟨[(0,.os 0),(10,.v (.int .i64 (bu (ak (kz a l_) (l_.length+1) 0 (m,b))))),(13,.v (.int .i64 s_1.2))],[.row .deed s_1.1]⟩) (pb l_ (bu (ak (kz a l_) (l_.length+1) 0 (m,b)))) (oI l_ (bu (ak (kz a l_) (l_.length+1) 0 (m,b)))) (l_.length+1) (l_,a) (fun _=>.normal) (fun x_1_0=>⟨[],[.row .deed x_1_0]⟩) st)else bif Nat.beq id 4 then some (LCV (ρ:=Int) (σ:=(Int×Int)) 1 [] [0] (fun k_2 s_2=>⟨[(0,.os 0),(2,.v (.int .i64 m)),(4,.fn 78 [] []),(14,.v (.int .i64 s_2.1)),(15,.v (.int .i64 s_2.2))],[.row .deed l_]⟩) (kA m l_) (mV m l_) (l_.length+1) (a,m) (fun _=>.normal) (fun x_2_0=>⟨[(0,.os 0),(2,.v (.int .i64 m)),(14,.v (.int .i64 x_2_0))],[.row .deed l_]⟩) st)else bif Nat.beq id 6 then some (LCV (ρ:=(List Deed)) (σ:=(List Deed×Int)) 1 [] [0] (fun k_3 s_3=>⟨[(0,.os 0),(14,.v (.int .i64 (bu (ak (kA m l_) (l_.length+1) 0 (a,m))))),(17,.v (.int .i64 s_3.2))],[.row .deed s_3.1]⟩) (pc l_ (bu (ak (kA m l_) (l_.length+1) 0 (a,m)))) (oJ l_ (bu (ak (kA m l_) (l_.length+1) 0 (a,m)))) (l_.length+1) (l_,m) (fun _=>.normal) (fun x_3_0=>⟨[],[.row .deed x_3_0]⟩) st)else bif Nat.beq id 1000140 then some (JC (⟨[(0,.os 0),(1,.v (.int .i64 a)),(2,.v (.int .i64 m)),(3,.v (.int .i64 b)),(4,.fn 78 [] []),(18,.v (.int .i64 (IntKind.i64.wrap (br .u64 (IntKind.u64.wrap (IntKind.i64.wrap (a+b))) 1)))),(19,.v (.int .i64 (IntKind.i64.wrap ((IntKind.i64.wrap (br .u64 (IntKind.u64.wrap (IntKind.i64.wrap (a+b))) 1))+m)))),(20,.v (.int .i64 (bif(decide (m > (IntKind.i64.wrap (br .u64 (IntKind.u64.wrap (IntKind.i64.wrap (a+b))) 1))))then(IntKind.i64.wrap ((IntKind.i64.wrap ((IntKind.i64.wrap (br .u64 (IntKind.u64.wrap (IntKind.i64.wrap (a+b))) 1))+m)) - b))else a))),(21,.v (.int .i64 (bif(decide (m > (IntKind.i64.wrap (br .u64 (IntKind.u64.wrap (IntKind.i64.wrap (a+b))) 1))))then(IntKind.i64.wrap (br .u64 (IntKind.u64.wrap (IntKind.i64.wrap (a+b))) 1))else m)))],[.row .deed l_]⟩))else bif Nat.beq id 8 then some (LCV (ρ:=Int) (σ:=(Int×Int)) 1 [] [0] (fun k_4 s_4=>⟨[(0,.os 0),(1,.v (.int .i64 a)),(2,.v (.int .i64 m)),(3,.v (.int .i64 b)),(4,.fn 78 [] []),(18,.v (.int .i64 (IntKind.i64.wrap (br .u64 (IntKind.u64.wrap (IntKind.i64.wrap (a+b))) 1)))),(19,.v (.int .i64 (IntKind.i64.wrap ((IntKind.i64.wrap (br .u64 (IntKind.u64.wrap (IntKind.i64.wrap (a+b))) 1))+m)))),(20,.v (.int .i64 s_4.1)),(21,.v (.int .i64 s_4.2)),(22,.v (.int .i64 (IntKind.i64.wrap ((IntKind.i64.wrap ((IntKind.i64.wrap (br .u64 (IntKind.u64.wrap (IntKind.i64.wrap (a+b))) 1))+m)) - 1))))],[.row .deed l_]⟩) (nW a m b l_) (mW a m b l_) (l_.length+1) ((bif(decide (m > (IntKind.i64.wrap (br .u64 (IntKind.u64.wrap (IntKind.i64.wrap (a+b))) 1))))then(IntKind.i64.wrap ((IntKind.i64.wrap ((IntKind.i64.wrap (br .u64 (IntKind.u64.wrap (IntKind.i64.wrap (a+b))) 1))+m)) - b))else a),(bif(decide (m > (IntKind.i64.wrap (br .u64 (IntKind.u64.wrap (IntKind.i64.wrap (a+b))) 1))))then(IntKind.i64.wrap (br .u64 (IntKind.u64.wrap (IntKind.i64.wrap (a+b))) 1))else m)) (fun _=>.normal) (fun x_4_0=>⟨[(0,.os 0),(1,.v (.int .i64 a)),(2,.v (.int .i64 m)),(3,.v (.int .i64 b)),(4,.fn 78 [] []),(18,.v (.int .i64 (IntKind.i64.wrap (br .u64 (IntKind.u64.wrap (IntKind.i64.wrap (a+b))) 1)))),(19,.v (.int .i64 (IntKind.i64.wrap ((IntKind.i64.wrap (br .u64 (IntKind.u64.wrap (IntKind.i64.wrap (a+b))) 1))+m)))),(20,.v (.int .i64 x_4_0))],[.row .deed l_]⟩) st)else none),?_,?_⟩
 ·unfold ae Tryz.f135
  simp only[al,true_and,and_true,and_assoc]
  refine⟨?_,?_,?_,?_,?_⟩
  ·refine eO mixed am hG (by kernel_rfl) (fun _=>rfl) fun k_0 s_0 hq0=>⟨L0,ah _,?_⟩
   ·unfold mU at hq0
    exact gO
  ·refine eO mixed am hG (by kernel_rfl) (fun _=>rfl) fun k_1 s_1 hq1=>⟨L0,ah _,?_⟩
   ·unfold oI at hq1
    exact gO
  ·refine eO mixed am hG (by kernel_rfl) (fun _=>rfl) fun k_2 s_2 hq2=>⟨L0,ah _,?_⟩
   ·unfold mV at hq2
    exact gO
  ·refine eO mixed am hG (by kernel_rfl) (fun _=>rfl) fun k_3 s_3 hq3=>⟨L0,ah _,?_⟩
   ·unfold oJ at hq3
    exact gO
  ·refine eO mixed am hG (by kernel_rfl) (fun _=>rfl) fun k_4 s_4 hq4=>⟨L0,ah _,?_⟩
   ·unfold mW at hq4
    exact gO
 ·unfold ae Tryz.f135
  try unfold Ao
  simp only[go_sem,Nat.reduceBEq,Nat.reduceLeDiff,Nat.reduceLT,decide_true,Nat.reduceAdd,Nat.reduceSub,Nat.reduceMul,Int.reduceLE,Int.reduceLT,Int.reduceToNat,Int.reduceNeg,reduceCtorEq]
  all_goals exact gN
def lJ:Nat→(Int→Int→Int→List Deed→List Deed)×(Int→Int→Int→List Deed→Prop)
 |0=>(fun _ _ _ l=>l,fun _ _ _ _=>False)
 |n+1=>(Ao (lJ n).1 (lJ n).2,pd (lJ n).1 (lJ n).2)
theorem DJ:∀ n,FnOkO Tryz.prog 135 (An (lJ n).1 (lJ n).2)
 |0=>by
  have hG:ConsOk Tryz.prog (mkG [] []):=ay cg0 cg0
  refine fR mixed am hG (fn:=Tryz.f135) (c:=ae Tryz.f135) (by kernel_rfl) (by kernel_rfl) (by kernel_rfl) (by kernel_rfl) fun l o con h=>?_
  obtain⟨⟨a,m,b,l_⟩,rfl,rfl,rfl⟩:=dy h
  exact⟨_,_,_,rfl,fun hp=>hp.elim⟩
 |n+1=>Lf _ _ (DJ n)
def b7 (a:Int)(m:Int)(b:Int)(l_:List Deed):List Deed:=(lJ (l_.length+1)).1 a m b l_
def bQ (a:Int)(m:Int)(b:Int)(l_:List Deed):Prop:=(lJ (l_.length+1)).2 a m b l_
noncomputable def dS:List SV→List Ob→Option HCon:=gF (fun x_:Int×Int×Int×(List Deed) =>[.os 0,.v (.int .i64 x_.1),.v (.int .i64 x_.2.1),.v (.int .i64 x_.2.2.1),.fn 78 [] []]) (fun x_=>[.row .deed x_.2.2.2]) (fun x_=>eM (bQ x_.1 x_.2.1 x_.2.2.1 x_.2.2.2) (.tup []) [.row .deed (b7 x_.1 x_.2.1 x_.2.2.1 x_.2.2.2)])
@[go_sem] theorem rg (a:Int)(m:Int)(b:Int)(l_:List Deed):dS ([.os 0,.v (.int .i64 a),.v (.int .i64 m),.v (.int .i64 b),.fn 78 [] []]) ([.row .deed l_])=some (eM (bQ a m b l_) (.tup []) [.row .deed (b7 a m b l_)]):=eB (A:=fun x_:Int×Int×Int×(List Deed) =>[.os 0,.v (.int .i64 x_.1),.v (.int .i64 x_.2.1),.v (.int .i64 x_.2.2.1),.fn 78 [] []]) (H:=fun x_=>[.row .deed x_.2.2.2]) (K:=fun x_=>eM (bQ x_.1 x_.2.1 x_.2.2.1 x_.2.2.2) (.tup []) [.row .deed (b7 x_.1 x_.2.1 x_.2.2.1 x_.2.2.2)]) (x:=(a,m,b,l_))
theorem jP:FnOkO Tryz.prog 135 dS where
 enter:=fun l h c e=>by
  obtain⟨⟨a,m,b,l_⟩,rfl,rfl,rfl⟩:=dy e
  exact(DJ (l_.length+1)).enter _ _ _ (y5 _ _ a m b l_)
 calls:=fun l h c e hp=>by
  obtain⟨⟨a,m,b,l_⟩,rfl,rfl,rfl⟩:=dy e
  exact(DJ (l_.length+1)).calls _ _ _ (y5 _ _ a m b l_) hp
@[go_sem] def aL (n:Int)(k_0:Nat)(s_0:List Deed×Int×Int):(Int×List Deed)⊕(List Deed×Int×Int):=(bif(decide (s_0.2.2≤n))then .inr ((ax s_0.2.1 s_0.2.2 s_0.1),s_0.2.2,(IntKind.i64.wrap (s_0.2.2+20)))else .inl (s_0.2.1,s_0.1))
def cj (n:Int)(k_0:Nat)(s_0:List Deed×Int×Int):Prop:=((decide (s_0.2.2≤n))=true→(aN s_0.2.1 s_0.2.2 s_0.1))
@[go_sem] def bh (n:Int)(s_1:List Deed×Int)(k_2:Nat)(s_2:List Deed×Int×Int):(Int×List Deed)⊕(List Deed×Int×Int):=(bif(decide (s_2.2.2≤n))then .inr ((b7 s_2.2.1 (IntKind.i64.wrap (s_2.2.1+s_1.2)) s_2.2.2 s_2.1),s_2.2.2,(IntKind.i64.wrap (s_2.2.2+(IntKind.i64.wrap (2*s_1.2)))))else .inl (s_2.2.1,s_2.1))
def cm (n:Int)(s_1:List Deed×Int)(k_2:Nat)(s_2:List Deed×Int×Int):Prop:=((decide (s_2.2.2≤n))=true→(bQ s_2.2.1 (IntKind.i64.wrap (s_2.2.1+s_1.2)) s_2.2.2 s_2.1))
@[go_sem] def bi (n:Int)(k_1:Nat)(s_1:List Deed×Int):(List Deed)⊕(List Deed×Int):=(bif(decide (s_1.2<n))then(match ak (bh n s_1) (Int.toNat n+1) 0 (s_1.1,0,(IntKind.i64.wrap (2*s_1.2)))with| .inl x_2_0=>(bif(decide ((IntKind.i64.wrap (x_2_0.1+s_1.2)) <n))then .inr ((b7 x_2_0.1 (IntKind.i64.wrap (x_2_0.1+s_1.2)) n x_2_0.2),(IntKind.i64.wrap (s_1.2*2)))else .inr (x_2_0.2,(IntKind.i64.wrap (s_1.2*2)))) | .inr s_2=>.inr default)else .inl s_1.1)
def bM (n:Int)(k_1:Nat)(s_1:List Deed×Int):Prop:=((decide (s_1.2<n))=true→(okI (bh n s_1) (cm n s_1) (Int.toNat n+1) 0 (s_1.1,0,(IntKind.i64.wrap (2*s_1.2)))∧(∀ z_,ak (bh n s_1) (Int.toNat n+1) 0 (s_1.1,0,(IntKind.i64.wrap (2*s_1.2)))≠ .inr z_)∧(∀ x_2_0,ak (bh n s_1) (Int.toNat n+1) 0 (s_1.1,0,(IntKind.i64.wrap (2*s_1.2)))=.inl x_2_0→((decide ((IntKind.i64.wrap (x_2_0.1+s_1.2)) <n))=true→(bQ x_2_0.1 (IntKind.i64.wrap (x_2_0.1+s_1.2)) n x_2_0.2)))))
def bR (n:Int)(l_:List Deed):List Deed:=(match ak (aL n) (Int.toNat n+1) 0 (l_,0,20)with| .inl x_0_0=>(match ak (bi n) (Int.toNat n+1) 0 ((ax x_0_0.1 n x_0_0.2),20)with| .inl x_1_0=>x_1_0| .inr s_1=>default) | .inr s_0=>default)
def bC (n:Int)(l_:List Deed):Prop:=(okI (aL n) (cj n) (Int.toNat n+1) 0 (l_,0,20)∧(∀ z_,ak (aL n) (Int.toNat n+1) 0 (l_,0,20)≠ .inr z_)∧(∀ x_0_0,ak (aL n) (Int.toNat n+1) 0 (l_,0,20)=.inl x_0_0→((aN x_0_0.1 n x_0_0.2)∧(okI (bi n) (bM n) (Int.toNat n+1) 0 ((ax x_0_0.1 n x_0_0.2),20)∧(∀ z_,ak (bi n) (Int.toNat n+1) 0 ((ax x_0_0.1 n x_0_0.2),20)≠ .inr z_)))))
noncomputable def d6:List SV→List Ob→Option HCon:=gF (fun x_:Int×(List Deed) =>[.os 0,.v (.int .i64 x_.1),.fn 78 [] []]) (fun x_=>[.row .deed x_.2]) (fun x_=>eM (bC x_.1 x_.2) (.tup []) [.row .deed (bR x_.1 x_.2)])
@[go_sem] theorem so (n:Int)(l_:List Deed):d6 ([.os 0,.v (.int .i64 n),.fn 78 [] []]) ([.row .deed l_])=some (eM (bC n l_) (.tup []) [.row .deed (bR n l_)]):=eB (A:=fun x_:Int×(List Deed) =>[.os 0,.v (.int .i64 x_.1),.fn 78 [] []]) (H:=fun x_=>[.row .deed x_.2]) (K:=fun x_=>eM (bC x_.1 x_.2) (.tup []) [.row .deed (bR x_.1 x_.2)]) (x:=(n,l_))
theorem kB:FnOkO Tryz.prog 102 (d6):=by
 have hG:ConsOk Tryz.prog (mkG [] [(134,da),(135,dS)]):=ay cg0 (cgc ig (cgc jP cg0))
 refine fR mixed am hG (fn:=Tryz.f102) (c:=ae Tryz.f102) (by kernel_rfl) (by kernel_rfl) (by kernel_rfl) (by kernel_rfl) fun l o con h=>?_
 obtain⟨⟨n,l_⟩,rfl,rfl,rfl⟩:=dy h
 clear h
 try dsimp only
 refine⟨_,_,_,rfl,fun hp=>?_⟩
 unfold bC at hp
 refine⟨Nat.le_of_ble_eq_true rfl,(fun id st=>bif Nat.beq id 0 then some (LCV (ρ:=(Int×List Deed)) (σ:=(List Deed×Int×Int)) 1 [] [0] (fun k_0 s_0=>⟨[(0,.os 0),(1,.v (.int .i64 n)),(2,.fn 78 [] []),(6,.v (.int .i64 20)),(7,.v (.int .i64 s_0.2.1)),(8,.v (.int .i64 s_0.2.2))],[.row .deed s_0.1]⟩) (aL n) (cj n) (Int.toNat n+1) (l_,0,20) (fun _=>.normal) (fun x_0_0=>⟨[(0,.os 0),(1,.v (.int .i64 n)),(2,.fn 78 [] []),(6,.v (.int .i64 20)),(7,.v (.int .i64 x_0_0.1))],[.row .deed x_0_0.2]⟩) st)else bif Nat.beq id 2 then some (LCV (ρ:=(List Deed)) (σ:=(List Deed×Int)) 1 [] [0] (fun k_1 s_1=>⟨[(0,.os 0),(1,.v (.int .i64 n)),(2,.fn 78 [] []),(6,.v (.int .i64 s_1.2))],[.row .deed s_1.1]⟩) (bi n) (bM n) (Int.toNat n+1) ((ax (bu (ak (aL n) (Int.toNat n+1) 0 (l_,0,20))).1 n (bu (ak (aL n) (Int.toNat n+1) 0 (l_,0,20))).2),20) (fun _=>.normal) (fun x_1_0=>⟨[],[.row .deed x_1_0]⟩) st)else none),?_,?_⟩
 ·unfold ae Tryz.f102
  simp only[al,true_and,and_true,and_assoc]
  refine⟨?_,?_⟩
  ·refine eO mixed am hG (by kernel_rfl) (fun _=>rfl) fun k_0 s_0 hq0=>⟨L0,ah _,?_⟩
   ·unfold cj at hq0
    exact gO
  ·refine eO mixed am hG (by kernel_rfl) (fun _=>rfl) fun k_1 s_1 hq1=>⟨(fun id st=>bif Nat.beq id 4 then some (LCV (ρ:=(Int×List Deed)) (σ:=(List Deed×Int×Int)) 1 [] [0] (fun k_2 s_2=>⟨[(0,.os 0),(1,.v (.int .i64 n)),(2,.fn 78 [] []),(6,.v (.int .i64 s_1.2)),(7,.v (.int .i64 s_2.2.1)),(8,.v (.int .i64 s_2.2.2))],[.row .deed s_2.1]⟩) (bh n s_1) (cm n s_1) (Int.toNat n+1) (s_1.1,0,(IntKind.i64.wrap (2*s_1.2))) (fun _=>.normal) (fun x_2_0=>⟨[(0,.os 0),(1,.v (.int .i64 n)),(2,.fn 78 [] []),(6,.v (.int .i64 s_1.2)),(7,.v (.int .i64 x_2_0.1))],[.row .deed x_2_0.2]⟩) st)else none),?_,?_⟩
   ·simp only[al,true_and,and_true]
    ·refine eO mixed am hG (by kernel_rfl) (fun _=>rfl) fun k_2 s_2 hq2=>⟨L0,ah _,?_⟩
     ·unfold cm at hq2
      exact gO
   ·unfold bM at hq1
    exact gO
 ·unfold ae Tryz.f102
  try unfold bR
  simp only[go_sem,Nat.reduceBEq,Nat.reduceLeDiff,Nat.reduceLT,decide_true,Nat.reduceAdd,Nat.reduceSub,Nat.reduceMul,Int.reduceLE,Int.reduceLT,Int.reduceToNat,Int.reduceNeg,reduceCtorEq]
  all_goals exact gN
def bq (l_:List Deed):List Deed:=(bR (l_.length:Int) l_)
def ba (l_:List Deed):Prop:=(l_.length≤bv→(bC (l_.length:Int) l_))
noncomputable def cN:List SV→List Ob→Option HCon:=gF (fun x_:(List Deed) =>[.os 0,.fn 78 [] []]) (fun x_=>[.row .deed x_]) (fun x_=>eM (ba x_) (.tup []) [.row .deed (bq x_)])
@[go_sem] theorem oK (l_:List Deed):cN ([.os 0,.fn 78 [] []]) ([.row .deed l_])=some (eM (ba l_) (.tup []) [.row .deed (bq l_)]):=eB (A:=fun x_:(List Deed) =>[.os 0,.fn 78 [] []]) (H:=fun x_=>[.row .deed x_]) (K:=fun x_=>eM (ba x_) (.tup []) [.row .deed (bq x_)]) (x:=l_)
theorem gG:FnOkO Tryz.prog 77 (cN):=by
 have hG:ConsOk Tryz.prog (mkG [] [(102,d6)]):=ay cg0 (cgc kB cg0)
 refine fR mixed am hG (fn:=Tryz.f77) (c:=ae Tryz.f77) (by kernel_rfl) (by kernel_rfl) (by kernel_rfl) (by kernel_rfl) fun l o con h=>?_
 obtain⟨l_,rfl,rfl,rfl⟩:=dy h
 clear h
 try dsimp only
 refine⟨_,_,_,rfl,fun hp=>?_⟩
 unfold ba at hp
 refine⟨Nat.le_of_ble_eq_true rfl,L0,?_,?_⟩
 ·unfold ae Tryz.f77
  simp only[al,and_self,true_and,and_true]
 ·unfold ae Tryz.f77
  try unfold bq
  simp only[go_sem,Nat.reduceBEq,Nat.reduceLeDiff,Nat.reduceLT,decide_true,Nat.reduceAdd,Nat.reduceSub,Nat.reduceMul,Int.reduceLE,Int.reduceLT,Int.reduceToNat,Int.reduceNeg,reduceCtorEq]
  all_goals exact gN
end Go.Sx
end
section
namespace Go.Sx
theorem Im {p:Pk}{f:FuncId}{a b:List SV}:ra [p] (.fn f a b)=tS p (.fn f a b):=(rfl)
theorem In {f:FuncId}{a b:List SV}:tS .o (.fn f a b)=.fn f a b:=(rfl)
end Go.Sx
end
section
namespace Go.Sx
open Go.Proofs
set_option maxRecDepth 100000
set_option linter.unusedSimpArgs false
theorem BQ {p:Prop}(h:p:=by(first|done|(repeat' (first|with_reducible refine And.intro ?_ ?_|((with_reducible show _≠_);first|assumption|omega|(simp_all [aX,bu];done) |grind) |with_reducible intro _)) <;>(first|done|with_reducible exact Empty.elim ‹Empty› |with_reducible assumption|rfl|omega|assumption|decide|exact fk [0,1,2,3] |exact czl|(simp only[*,cond_true,cond_false,Bool.not_true,Bool.not_false,go_sem,Nat.reduceBEq,Nat.reduceLeDiff,Nat.reduceLT,decide_true,Nat.reduceAdd,Nat.reduceSub,Nat.reduceMul,Int.reduceLE,Int.reduceLT,Int.reduceToNat,Int.reduceNeg,reduceCtorEq];(repeat' (first|with_reducible refine And.intro ?_ ?_|((with_reducible show _≠_);first|assumption|omega|(simp_all [aX,bu];done) |grind) |with_reducible intro _)) <;>(first|done|assumption|rfl|omega|decide|exact fk [0,1,2,3] |(simp_all [aX,bu];done))) |(simp_all [okI,aX,bu];done) |(simp_all [aX,bu];(first|done|exact fk2 [0,1,2,3])) |exact fk2 [0,1,2,3]))):p:=h
theorem BR {p:Prop}(h:p:=by simp only[go_sem,Nat.reduceBEq,Nat.reduceLeDiff,Nat.reduceLT,decide_true,Nat.reduceAdd,Nat.reduceSub,Nat.reduceMul,Int.reduceLE,Int.reduceLT,Int.reduceToNat,Int.reduceNeg,reduceCtorEq,hc,hw];all_goals exact BQ):p:=h
theorem BS {p:Prop}(h:p:=by simp only[go_sem,Nat.reduceBEq,Nat.reduceLeDiff,Nat.reduceLT,decide_true,Nat.reduceAdd,Nat.reduceSub,Nat.reduceMul,Int.reduceLE,Int.reduceLT,Int.reduceToNat,Int.reduceNeg,reduceCtorEq,hc];all_goals exact BQ):p:=h
def kL (l_:List Deed):Unit:=()
noncomputable def dT:List SV→List Ob→Option HCon:=gF (fun x_:(List Deed) =>[.os 0]) (fun x_=>[.row .deed x_]) (fun x_=>eM True (.fn 103 [] [.ptr 1 0]) [.row .deed x_,.cells [.os 0]])
@[go_sem] theorem rh (l_:List Deed):dT ([.os 0]) ([.row .deed l_])=some (eM True (.fn 103 [] [.ptr 1 0]) [.row .deed l_,.cells [.os 0]]):=eB (A:=fun x_:(List Deed) =>[.os 0]) (H:=fun x_=>[.row .deed x_]) (K:=fun x_=>eM True (.fn 103 [] [.ptr 1 0]) [.row .deed x_,.cells [.os 0]]) (x:=l_)
theorem jQ:FnOkO Tryz.prog 79 (dT):=by
 have hG:ConsOk Tryz.prog (mkG [] []):=ay cg0 cg0
 refine fR mixed am hG (fn:=Tryz.f79) (c:=ae Tryz.f79) (by kernel_rfl) (by kernel_rfl) (by kernel_rfl) (by kernel_rfl) fun l o con h=>?_
 obtain⟨l_,rfl,rfl,rfl⟩:=dy h
 clear h
 try dsimp only
 refine⟨_,_,_,rfl,fun hp=>?_⟩
 refine⟨Nat.le_of_ble_eq_true rfl,L0,?_,?_⟩
 ·unfold ae Tryz.f79
  simp only[al,and_self,true_and,and_true]
 ·unfold ae Tryz.f79
  try unfold kL
  simp only[go_sem,Nat.reduceBEq,Nat.reduceLeDiff,Nat.reduceLT,decide_true,Nat.reduceAdd,Nat.reduceSub,Nat.reduceMul,Int.reduceLE,Int.reduceLT,Int.reduceToNat,Int.reduceNeg,reduceCtorEq]
  all_goals exact xm
@[go_sem] def dN (l_:List Deed)(known:Int)(k_0:Nat)(s_0:List (Int×Bool)):Empty⊕(List (Int×Bool)):=(bif(((l_.getD k_0 (default:Deed)).kind==4)&&(decide ((l_.getD k_0 (default:Deed)).known≤known)))then .inr (fL .int .bool s_0 ((l_.getD k_0 (default:Deed)).of_) true)else .inr s_0)
def ce (l_:List Deed)(hour:Int)(known:Int):List Deed:=(match ak (dN l_ known) l_.length 0 ([])with| .inl x=>x.elim| .inr s_0=>(bq (aS l_ known hour s_0)))
def dY (l_:List Deed)(hour:Int)(known:Int):Prop:=(l_.length≤bv→(∀ s_0,ak (dN l_ known) l_.length 0 ([])=.inr s_0→((l_.length*88≤gJ)∧((aZ l_ known hour s_0)∧(ba (aS l_ known hour s_0))))))
@[go_sem] def i6:List SV→Option Con:=(pR .deed fun l_=>(pI fun hour=>(pI fun known=>(pE (.det (dY l_ hour known) (.fn 103 [] [.ep [.rs .deed (ce l_ hour known)] 0]))))))
theorem ml:FnOk Tryz.prog 49 i6:=by
 have hG:ConsOk Tryz.prog (mkG [(40,fun l=>i0 (cT [.sl .deed] l))] [(75,dp),(77,cN),(79,dT)]):=ay (cgc (mh.norm [.sl .deed]) cg0) (cgc ix (cgc gG (cgc jQ cg0)))
 refine aU [.o] mixed am hG (fn:=Tryz.f49) (c:=ae Tryz.f49) (by kernel_rfl) (by kernel_rfl) (by kernel_rfl) (by kernel_rfl) (dw fun l_=>(co fun hour=>(co fun known=>(aI (fun hp=>?_)))))
 dsimp only[aG]at hp
 unfold dY at hp
 refine⟨Nat.le_of_ble_eq_true rfl,(fun id st=>bif Nat.beq id 0 then some (LCR (ρ:=Empty) (σ:=(List (Int×Bool))) 4 [] [0,1,2,3] (fun k_0 s_0=>⟨[(0,.rs .deed l_),(4,.ptr 0 0),(5,.ptr 1 0),(7,.ptr 3 0),(11,.rs .deed l_),(12,.v (.int .i64 (l_.length:Int))),(13,.v (.int .i64 (k_0:Int)))],[.cells [.v (.int .i64 hour)],.cells [.v (.int .i64 known)],.mp .int .bool s_0 none,.cells [.os 2]]⟩) (dN l_ known) pT l_.length ([]) (l_.length≤bv) ((·.elim)) ((·.elim)) st)else none),?_,?_⟩
 ·unfold ae Tryz.f49
  simp only[al,true_and,and_true]
  ·refine eh mixed am hG (by kernel_rfl) (fun _=>rfl) (l_.length:Int) rfl gM (fun hb0 k_0 s_0 hlt0 _ hw hc=>⟨L0,ah _,?_⟩) (fun hb0 s_0 hc=>?_)
   ·exact BR
   ·exact BS
 ·unfold ae Tryz.f49
  try unfold ce
  simp only[go_sem,Nat.reduceBEq,Nat.reduceLeDiff,Nat.reduceLT,decide_true,Nat.reduceAdd,Nat.reduceSub,Nat.reduceMul,Int.reduceLE,Int.reduceLT,Int.reduceToNat,Int.reduceNeg,reduceCtorEq,Im,In]
  all_goals exact cl
end Go.Sx
end
section
namespace Go.Sx
open Go.Proofs
set_option maxRecDepth 100000
set_option linter.unusedSimpArgs false
theorem xo {p:Prop}(h:p:=by(first|done|(repeat' (first|with_reducible refine And.intro ?_ ?_|((with_reducible show _≠_);first|assumption|omega|(simp_all [aX,bu];done) |grind) |with_reducible intro _)) <;>(first|done|with_reducible exact Empty.elim ‹Empty› |with_reducible assumption|rfl|omega|assumption|decide|exact fk [0] |(refine Or.inr ?_;exact fkY [0]) |(refine Or.inl ?_;exact fkY [0]) |(refine Or.inl ⟨rfl,?_⟩;exact fkY [0]) |exact czl|(simp only[*,cond_true,cond_false,Bool.not_true,Bool.not_false,go_sem,Nat.reduceBEq,Nat.reduceLeDiff,Nat.reduceLT,decide_true,Nat.reduceAdd,Nat.reduceSub,Nat.reduceMul,Int.reduceLE,Int.reduceLT,Int.reduceToNat,Int.reduceNeg,reduceCtorEq];(repeat' (first|with_reducible refine And.intro ?_ ?_|((with_reducible show _≠_);first|assumption|omega|(simp_all [aX,bu];done) |grind) |with_reducible intro _)) <;>(first|done|assumption|rfl|omega|decide|exact fk [0] |(refine Or.inr ?_;exact fkY [0]) |(refine Or.inl ?_;exact fkY [0]) |(refine Or.inl ⟨rfl,?_⟩;exact fkY [0]) |(simp_all [aX,bu];done))) |(exfalso;rename_i h1 h2;rw[h1]at h2;cases h2) |(exfalso;rename_i h1 h2;simp only[h1,Bool.not_false,Bool.not_true,Bool.true_or,Bool.or_true,Bool.false_or,Bool.or_false,reduceCtorEq]at h2;done) |(exfalso;clear hy hG;simp_all;done) |(simp only[*,Sum.inr.injEq,forall_eq',true_implies,forall_const,reduceCtorEq,false_implies,and_true,List.length_append,List.length_cons,List.length_nil,Nat.zero_add,go_sem,Nat.reduceBEq,Nat.reduceLeDiff,Nat.reduceLT,decide_true,Nat.reduceAdd,Nat.reduceSub,Nat.reduceMul,Int.reduceLE,Int.reduceLT,Int.reduceToNat,Int.reduceNeg,reduceCtorEq]at hq2;first|exact hq2.1|exact hq2.2.1|exact hq2|exact hq2.2|(simp only[hq2];done)) |(simp only[*,Sum.inr.injEq,forall_eq',true_implies,forall_const,reduceCtorEq,false_implies,and_true,List.length_append,List.length_cons,List.length_nil,Nat.zero_add,go_sem,Nat.reduceBEq,Nat.reduceLeDiff,Nat.reduceLT,decide_true,Nat.reduceAdd,Nat.reduceSub,Nat.reduceMul,Int.reduceLE,Int.reduceLT,Int.reduceToNat,Int.reduceNeg,reduceCtorEq]at hq1;first|exact hq1.1|exact hq1.2.1|exact hq1|exact hq1.2|(simp only[hq1];done)) |(clear hy hG;simp_all only[aX,bu,Sum.inr.injEq,forall_eq',true_implies,forall_const,reduceCtorEq,false_implies,and_true,List.length_append,List.length_cons,List.length_nil,Nat.zero_add,go_sem,Nat.reduceBEq,Nat.reduceLeDiff,Nat.reduceLT,decide_true,Nat.reduceAdd,Nat.reduceSub,Nat.reduceMul,Int.reduceLE,Int.reduceLT,Int.reduceToNat,Int.reduceNeg,reduceCtorEq];done) |(simp_all [okI,aX,bu];done) |(simp_all [aX,bu];(first|done|exact fk2 [0])) |exact fk2 [0]))):p:=h
theorem Io {p:Prop}(h:p:=by simp only[go_sem,Nat.reduceBEq,Nat.reduceLeDiff,Nat.reduceLT,decide_true,Nat.reduceAdd,Nat.reduceSub,Nat.reduceMul,Int.reduceLE,Int.reduceLT,Int.reduceToNat,Int.reduceNeg,reduceCtorEq,hc,hw];all_goals exact xo):p:=h
theorem Ip {p:Prop}(h:p:=by simp only[go_sem,Nat.reduceBEq,Nat.reduceLeDiff,Nat.reduceLT,decide_true,Nat.reduceAdd,Nat.reduceSub,Nat.reduceMul,Int.reduceLE,Int.reduceLT,Int.reduceToNat,Int.reduceNeg,reduceCtorEq,hc];all_goals exact xo):p:=h
@[go_sem] def tt (x:Deed):List SV:=[.agg (cellsOf .deed x)]
@[go_sem] def bB (l_:List Deed)(k_0:Nat)(s_0:List Deed):Empty⊕(List Deed):=.inr (s_0++[(l_.getD k_0 (default:Deed))])
def cB (l_:List Deed)(items_:List (List SV))(k_0:Nat)(s_0:List Deed):Prop:=(items_[s_0.length]? =some (tt (l_.getD k_0 (default:Deed))))
def aC (l_:List Deed):List Deed:=(match ak (bB l_) l_.length 0 ([]:List Deed)with| .inl x=>x.elim| .inr s_0=>s_0)
def cb (l_:List Deed)(items_:List (List SV)):Prop:=(l_.length≤bv→(okI (bB l_) (cB l_ items_) l_.length 0 ([]:List Deed)∧(∀ s_0,ak (bB l_) l_.length 0 ([]:List Deed)=.inr s_0→(items_.length=s_0.length))))
theorem i7 (l_:List Deed)(items_:List (List SV))(hp:cb l_ items_):DB Tryz.prog 103 (fun y=>[y,.ep [.rs .deed l_] 0]) [] items_:=by
 unfold cb at hp
 refine N_ mixed am (fn:=Tryz.f103) (c:=ae Tryz.f103) (by kernel_rfl) (by kernel_rfl) (by kernel_rfl) (by kernel_rfl) rfl (n:=0) rfl (G:=fun r_=>DG [] [] (La items_ r_)) (fun r_ hy=>?_) (fun args w=>by kernel_rfl)
 have hG:ConsOk Tryz.prog (DG [] [] (La items_ r_)):=EQ cg0 cg0 hy
 refine⟨hG,Nat.le_of_ble_eq_true rfl,(fun id st=>bif Nat.beq id 0 then some (LCY (ρ:=Empty) (σ:=(List Deed)) 1 [] [0] (fun k_0 s_0=>⟨[(0,.os 0),(5,.rs .deed l_),(6,.v (.int .i64 (l_.length:Int))),(7,.v (.int .i64 (k_0:Int)))],[.ab (r_.1 (s_0.length+1))]⟩) (bB l_) (cB l_ items_) l_.length ([]:List Deed) (l_.length≤bv) ((·.elim)) ((·.elim)) ⟨[],[.ab (r_.1 0)]⟩ st)else none),?_,?_⟩
 ·unfold ae Tryz.f103
  simp only[al,true_and,and_true]
  ·refine Ic mixed am hG (by kernel_rfl) (fun _=>rfl) (l_.length:Int) rfl gM (fun hb0 k_0 s_0 hlt0 hq0 hw hc=>⟨L0,ah _,?_⟩) (fun hb0 s_0 hc=>?_)
   ·unfold cB at hq0
    try simp only[hw,Int.toNat_natCast]at hq0
    exact Io
   ·exact Ip
 ·unfold ae Tryz.f103
  simp only[go_sem,Nat.reduceBEq,Nat.reduceLeDiff,Nat.reduceLT,decide_true,Nat.reduceAdd,Nat.reduceSub,Nat.reduceMul,Int.reduceLE,Int.reduceLT,Int.reduceToNat,Int.reduceNeg,reduceCtorEq]
  all_goals exact xo
@[go_sem] theorem Ug {f:FuncId}:tW (.fn f [] [])=some [.fn f [] []]:=(rfl)
theorem uA {κ υ:Type}[DecidableEq κ](l:List (κ×υ))(x z:κ)(y:υ):fc (sw l x y) z=if z=x then some y else fc l z:=by
 induction l with
 |nil=>simp[sw,fc]
 |cons a r ih=>
  obtain⟨a,b⟩:=a
  unfold sw
  by_cases h:x=a
  ·subst h
   simp only[if_pos]
   unfold fc
   by_cases hz:z=x <;>simp[hz]
  ·rw[if_neg h]
   unfold fc
   by_cases hz:z=a
   ·subst hz
    rw[if_pos rfl,if_neg (fun e=>h e.symm),if_pos rfl]
   ·rw[if_neg hz,ih,if_neg hz]
def dV:List (Int×(Option Nat)):=(fL .int .fnc (fL .int .fnc (fL .int .fnc ([]) 1 (some 98)) 2 (some 99)) 3 (some 100))
@[go_sem] def oL:List SV→Option Con:=(pE (.det True (.nm .int .fnc (dV))))
theorem tu:FnOk Tryz.prog 73 oL:=by
 have hG:ConsOk Tryz.prog (mkG [] []):=ay cg0 cg0
 refine n_ [] mixed am hG (fn:=Tryz.f73) (c:=ae Tryz.f73) (by kernel_rfl) (by kernel_rfl) (by kernel_rfl) (by kernel_rfl) (aI (fun hp=>?_))
 dsimp only[aG]at hp
 refine⟨Nat.le_of_ble_eq_true rfl,L0,ah _,?_⟩
 ·unfold ae Tryz.f73
  try unfold dV
  simp only[go_sem,Nat.reduceBEq,Nat.reduceLeDiff,Nat.reduceLT,decide_true,Nat.reduceAdd,Nat.reduceSub,Nat.reduceMul,Int.reduceLE,Int.reduceLT,Int.reduceToNat,Int.reduceNeg,reduceCtorEq]
  all_goals exact cl
theorem k_ (k:Int):dz .int .fnc dV k=bif k==1 then some 98 else bif k==2 then some 99 else bif k==3 then some 100 else none:=by
 by_cases h1:k=1
 ·subst h1;rfl
 by_cases h2:k=2
 ·subst h2;rfl
 by_cases h3:k=3
 ·subst h3;rfl
 have e1:(k==1)=false:=by simpa using h1
 have e2:(k==2)=false:=by simpa using h2
 have e3:(k==3)=false:=by simpa using h3
 rw[e1,e2,e3]
 simp only[dV,dz,fL,uA,if_neg h1,if_neg h2,if_neg h3]
 rfl
end Go.Sx
end
section
namespace Go.Sx
open Go.Proofs
theorem jX {n i:Nat}{step:Nat→Unit→Unit⊕Unit}{s:Unit}(h:ak step n i s=.inr s):∀ j,i≤j→j<i+n→step j ()=.inr ():=by
 induction n generalizing i with
 |zero=>intro j h1 h2;omega
 |succ n ih=>
  simp only[ak]at h
  cases hs:step i s with
  |inl r=>rw[hs]at h;cases h
  |inr s'=>
   rw[hs]at h
   intro j h1 h2
   by_cases e:j=i
   ·subst e;cases s;exact hs
   ·exact ih h j (by omega) (by omega)
theorem fh {b:Bool}{e:Int}:cy b e=b:=by
 cases b <;>rfl
theorem vK {a b c:Int}(h:ar [a,b,c]=true):a≤b∧b≤c:=by
 unfold ar at h
 simp only[List.length_cons,List.length_nil,Nat.zero_add,Nat.reduceAdd,Nat.reduceSub]at h
 split at h
 ·cases h
 ·rename_i s hs
  have h0:=jX hs 0 (by omega) (by omega)
  have h1:=jX hs 1 (by omega) (by omega)
  simp[bL,IntKind.wrap,IntKind.bits,IntKind.signed]at h0 h1
  constructor
  ·cases hd:decide (b<a) <;>simp_all <;>omega
  ·cases hd:decide (c<b) <;>simp_all <;>omega
theorem Ap {a b c d:Int}(h:ar [a,b,c,d]=true):a≤b∧b≤c∧c≤d:=by
 unfold ar at h
 simp only[List.length_cons,List.length_nil,Nat.zero_add,Nat.reduceAdd,Nat.reduceSub]at h
 split at h
 ·cases h
 ·rename_i s hs
  have h0:=jX hs 0 (by omega) (by omega)
  have h1:=jX hs 1 (by omega) (by omega)
  have h2:=jX hs 2 (by omega) (by omega)
  simp[bL,IntKind.wrap,IntKind.bits,IntKind.signed]at h0 h1 h2
  refine⟨?_,?_,?_⟩
  ·cases hd:decide (b<a) <;>simp_all <;>omega
  ·cases hd:decide (c<b) <;>simp_all <;>omega
  ·cases hd:decide (d<c) <;>simp_all <;>omega
structure Right1 (d:District):Prop where
 reaches:d.reaches.length≤64
 one:0<d.reaches.length
 farms:d.farms.length≤600
 rights:d.rights.length≤256
 hours1:1≤d.hours
 hours:d.hours≤4096
 start0:0≤d.tank.start
 start:d.tank.start≤d.tank.cap
 cap:d.tank.cap≤1099511627776
 reach:∀ k,k<d.reaches.length→fB (k:Int) (d.reaches.getD k default)=true
 farm:∀ k,k<d.farms.length→0≤(d.farms.getD k default).reach∧(d.farms.getD k default).reach< (d.reaches.length:Int)
theorem u0 {d:District}(h:(aV d !=0)=false):Right1 d:=by
 have h:aV d=0:=by simpa using h
 unfold aV at h
 simp only[fh]at h
 cases h1:(decide ((d.reaches.length:Int)≤64)&&decide ((d.farms.length:Int)≤600)&&decide ((d.crops.length:Int)≤32)&&decide ((d.rights.length:Int)≤256)&&decide ((d.duties.length:Int)≤256))with
 |false=>rw[h1]at h;simp at h
 |true=>
  rw[h1]at h
  simp only[cond_true]at h
  cases h2:c7 d 191 with
  |false=>rw[h2]at h;simp at h
  |true=>
   unfold c7 at h2
   simp only[fh]at h2
   cases h3:(ar [1,d.hours,4096]&&ar [0,d.tank.start,d.tank.cap,1099511627776]&&decide ((d.reaches.length:Int) > 0))with
   |false=>rw[h3]at h2;simp at h2
   |true=>
    rw[h3]at h2
    simp only[cond_true]at h2
    simp only[Bool.and_eq_true,decide_eq_true_eq]at h1 h3
    obtain⟨r1,r2⟩:=vK h3.1.1
    obtain⟨r3,r4,r5⟩:=Ap h3.1.2
    split at h2
    ·cases h2
    rename_i s0 hs0
    split at h2
    ·cases h2
    rename_i s1 hs1
    split at h2
    ·cases h2
    rename_i s2 hs2
    refine⟨by omega,by omega,by omega,by omega,r1,r2,r3,r4,r5,fun k hk=>?_,fun k hk=>?_⟩
    ·have:=jX hs0 k (by omega) (by omega)
     simp only[cF,fh]at this
     cases he:fB (k:Int) (d.reaches.getD k default)with
     |false=>rw[he]at this;simp at this
     |true=>rfl
    ·have:=jX hs2 k (by omega) (by omega)
     simp only[cG,fh]at this
     have hx:bU (d.farms.getD k default).reach (d.reaches.length:Int)=true:=by
      cases he:bU (d.farms.getD k default).reach (d.reaches.length:Int)with
      |false=>rw[he]at this;cases hd:decide ((d.farms.getD k default).area > 0) <;>rw[hd]at this <;>simp at this
      |true=>rfl
     simpa[bU]using hx
theorem uB {k:Nat}(h:k<9223372036854775807)(h1:0<k):IntKind.i64.wrap ((k:Int) - 1)=((k - 1:Nat):Int):=by
 rw[aT (by omega) (by omega)];omega
theorem y6 {step:Nat→Unit→Unit⊕Unit}:∀ {n i:Nat},(∀ j,i≤j→j<i+n→step j ()=.inr ())→ak step n i ()=.inr ()
 |0,_,_=>rfl
 |n+1,i,h=>by
  simp only[ak]
  rw[h i (by omega) (by omega)]
  exact y6 fun j h1 h2=>h j (by omega) (by omega)
theorem dF {step:Nat→Unit→Unit⊕Unit}{n:Nat}:ak step n 0 ()=.inr ()↔∀ j,j<n→step j ()=.inr ():=
 ⟨fun h j hj=>jX h j (by omega) (by omega),fun h=>y6 fun j _ h2=>h j (by omega)⟩
theorem eD {α:Type}(l:List α)(d:α){n:Nat}(h:n<l.length):l.getD n d=l[n]:=by
 rw[List.getD_eq_getElem?_getD,List.getElem?_eq_getElem h];rfl
theorem Oh {step:Nat→Unit→Unit⊕Unit}{n:Nat}{α:Type}{a b:α}:(match ak step n 0 ()with| .inl _=>a| .inr _=>b)=b∨∃ y,ak step n 0 ()=.inl y:=by
 cases h:ak step n 0 ()with
 |inl y=>exact .inr ⟨y,rfl⟩
 |inr y=>exact .inl rfl
theorem xp {a b c:Int}(h1:a≤b)(h2:b≤c):ar [a,b,c]=true:=by
 have e:ak (bL [a,b,c]) 2 0 ()=.inr ():=dF.2 fun j hj=>by
  rcases(by omega:j=0∨j=1)with rfl|rfl
  ·simp[bL,IntKind.wrap,IntKind.bits,IntKind.signed,Bool.cond_eq_ite];omega
  ·simp[bL,IntKind.wrap,IntKind.bits,IntKind.signed,Bool.cond_eq_ite];omega
 unfold ar
 simp only[List.length_cons,List.length_nil,Nat.zero_add,Nat.reduceAdd,Nat.reduceSub,e]
theorem xq {a b c d:Int}(h1:a≤b)(h2:b≤c)(h3:c≤d):ar [a,b,c,d]=true:=by
 have e:ak (bL [a,b,c,d]) 3 0 ()=.inr ():=dF.2 fun j hj=>by
  rcases(by omega:j=0∨j=1∨j=2)with rfl|rfl|rfl
  ·simp[bL,IntKind.wrap,IntKind.bits,IntKind.signed,Bool.cond_eq_ite];omega
  ·simp[bL,IntKind.wrap,IntKind.bits,IntKind.signed,Bool.cond_eq_ite];omega
  ·simp[bL,IntKind.wrap,IntKind.bits,IntKind.signed,Bool.cond_eq_ite];omega
 unfold ar
 simp only[List.length_cons,List.length_nil,Nat.zero_add,Nat.reduceAdd,Nat.reduceSub,e]
theorem u3 (d:District):aV d=0↔(d.reaches.length≤64∧d.farms.length≤600∧d.crops.length≤32∧d.rights.length≤256∧d.duties.length≤256)∧(1≤d.hours∧d.hours≤4096)∧(0≤d.tank.start∧d.tank.start≤d.tank.cap∧d.tank.cap≤1099511627776)∧0<d.reaches.length∧
  (∀ k,k<d.reaches.length→cF d 191 k ()=.inr ())∧(∀ k,k<d.crops.length→c5 d 191 k ()=.inr ())∧(∀ k,k<d.farms.length→cG d 191 k ()=.inr ())∧(∀ k,k<d.rights.length→c6 d 191 k ()=.inr ())∧(∀ k,k<d.duties.length→dA d 191 k ()=.inr ()):=by
 have hx:c7 d 191=true↔(1≤d.hours∧d.hours≤4096)∧(0≤d.tank.start∧d.tank.start≤d.tank.cap∧d.tank.cap≤1099511627776)∧0<d.reaches.length∧
  (∀ k,k<d.reaches.length→cF d 191 k ()=.inr ())∧(∀ k,k<d.crops.length→c5 d 191 k ()=.inr ())∧(∀ k,k<d.farms.length→cG d 191 k ()=.inr ())∧(∀ k,k<d.rights.length→c6 d 191 k ()=.inr ())∧(∀ k,k<d.duties.length→dA d 191 k ()=.inr ()):=by
  unfold c7
  simp only[fh]
  cases h3:(ar [1,d.hours,4096]&&ar [0,d.tank.start,d.tank.cap,1099511627776]&&decide ((d.reaches.length:Int) > 0))with
  |false=>
   simp only[cond_false,Bool.false_eq_true,false_iff]
   rintro⟨⟨a1,a2⟩,⟨a3,a4,a5⟩,a6,_⟩
   rw[xp a1 a2,xq a3 a4 a5,decide_eq_true (by omega:(d.reaches.length:Int) > 0)]at h3
   cases h3
  |true=>
   simp only[Bool.and_eq_true,decide_eq_true_eq]at h3
   have b1:=vK h3.1.1
   have b2:=Ap h3.1.2
   have b3:=h3.2
   simp only[cond_true]
   rw[←dF,←dF,←dF,←dF,←dF]
   repeat' split
   all_goals (rename_i e;first|simp_all;done|skip)
   all_goals simp_all
   all_goals omega
 unfold aV
 simp only[fh]
 rw[←hx]
 cases h1:(((((decide ((d.reaches.length:Int)≤64))&&(decide ((d.farms.length:Int)≤600)))&&(decide ((d.crops.length:Int)≤32)))&&(decide ((d.rights.length:Int)≤256)))&&(decide ((d.duties.length:Int)≤256)))with
 |false=>
  simp only[cond_false]
  simp only[Bool.and_eq_false_iff,decide_eq_false_iff_not]at h1
  omega
 |true=>
  simp only[Bool.and_eq_true,decide_eq_true_eq]at h1
  cases c7 d 191 <;>simp <;>omega
theorem BT:∀ (f n d:Nat),1≤d→d≤f→1≤n→∀ x,(uj f n d).getLastD x=Nat.gcd n d
 |0,n,d,h1,h2,_,x=>by omega
 |f+1,n,d,h1,h2,h3,x=>by
  unfold uj
  have hm:max d 1=d:=by omega
  rw[if_neg (by omega),hm]
  by_cases h0:n % d=0
  ·rw[if_pos h0]
   have:d ∣ n:=Nat.dvd_of_mod_eq_zero h0
   rw[Nat.gcd_eq_right this]
   rfl
  ·rw[if_neg h0]
   have hlt:n % d<d:=Nat.mod_lt _ (by omega)
   have ih:=BT f d (n % d) (by omega) (by omega) (by omega) n
   have e:Nat.gcd n d=Nat.gcd d (n % d):=by rw[Nat.gcd_comm n d,Nat.gcd_rec d n,Nat.gcd_comm]
   rw[e,←ih,List.getLastD_cons]
theorem xr {n d:Nat}(h:1≤d):rb n d=Nat.gcd n d:=by
 unfold rb
 rw[if_neg (by omega)]
 by_cases h0:n=0
 ·subst h0
  cases d with
  |zero=>omega
  |succ d=>simp[uj]
 ·exact BT d n d h (Nat.le_refl _) (by omega) d
theorem Aq (b0:Int):∀ (n i:Nat) (a b:Int),0≤a→0≤b→b.toNat<n→ak (eZ b0) n i (a,b)=.inl ((Nat.gcd a.toNat b.toNat:Nat):Int)
 |0,_,_,_,_,_,h=>by omega
 |n+1,i,a,b,ha,hb,h=>by
  simp only[ak,eZ]
  by_cases h0:b > 0
  ·rw[decide_eq_true h0]
   simp only[cond_true]
   have e1:=Int.tmod_eq_emod_of_nonneg (b:=b) ha
   have e2:=Int.emod_nonneg a (by omega:b≠0)
   have e3:=Int.emod_lt_of_pos a h0
   rw[e1,Aq b0 n (i+1) b (a % b) hb e2 (by omega)]
   have e4:(a % b).toNat=a.toNat % b.toNat:=by
    obtain⟨x,rfl⟩:=Int.eq_ofNat_of_zero_le ha
    obtain⟨y,rfl⟩:=Int.eq_ofNat_of_zero_le hb
    simp only[←Int.natCast_emod,Int.toNat_natCast]
   rw[e4,Nat.gcd_comm a.toNat b.toNat,Nat.gcd_rec b.toNat a.toNat,Nat.gcd_comm]
  ·rw[decide_eq_false h0]
   have:b=0:=by omega
   subst this
   simp only[cond_false,Int.toNat_zero,Nat.gcd_zero_right]
   rw[Int.toNat_of_nonneg ha]
theorem u4 {a b:Int}(ha:0≤a)(hb:0≤b):jk a b=((Nat.gcd a.toNat b.toNat:Nat):Int):=by
 unfold jk
 rw[Aq b _ 0 a b ha hb (by omega)]
theorem Gc {a b:Int}(ha:0≤a)(hb:0≤b):jB a b:=by
 refine⟨iL _ _ _ fun j s _ _ h=>?_,fun z h=>?_⟩
 ·simp only[decide_eq_true_eq]at h;omega
 ·rw[Aq b _ 0 a b ha hb (by omega)]at h;cases h
theorem BU {n:Int}(h0:0≤n)(h1:n<18446744073709551616):IntKind.u64.wrap n=n:=by
 simp only[IntKind.wrap,IntKind.bits,IntKind.signed];simp;omega
theorem ye {n:Int}(h0: -1073741824≤n)(h1:n≤1073741824):aj n=(n.natAbs:Int):=by
 unfold aj
 by_cases h:n<0
 ·rw[decide_eq_true h]
  simp only[cond_true,IntKind.wrap,IntKind.bits,IntKind.signed]
  simp
  omega
 ·rw[decide_eq_false h]
  simp only[cond_false]
  rw[BU (by omega) (by omega)];omega
theorem xu {n:Int}(h0: -1073741824≤n)(h1:n≤1073741824):kY n=(n.natAbs:Int):=by
 unfold kY
 by_cases h:n<0
 ·rw[decide_eq_true h]
  simp only[cond_true]
  rw[aT (by omega) (by omega)];omega
 ·rw[decide_eq_false h]
  simp only[cond_false]
  omega
structure RatioOk (a:Ratio):Prop where
 d1:1≤a.d
 d:a.d≤1073741824
 n0: -1073741824≤a.n
 n:a.n≤1073741824
 gcd:Nat.gcd a.n.natAbs a.d.toNat=1
theorem dZ (a:Ratio):aF a=0↔RatioOk a:=by
 unfold aF
 cases h:((((decide (a.d<1)) ||(decide (a.d > 1073741824))) ||(decide (a.n< (-1073741824)))) ||(decide (a.n > 1073741824)))with
 |true=>
  simp only[Bool.true_or,cond_true]
  simp only[Bool.or_eq_true,decide_eq_true_eq]at h
  refine⟨fun e=>(by cases e),fun r=>?_⟩
  have:=r.d1;have:=r.d;have:=r.n0;have:=r.n
  omega
 |false=>
  simp only[Bool.or_eq_false_iff,decide_eq_false_iff_not]at h
  rw[ye (by omega) (by omega),BU (by omega) (by omega),Int.toNat_natCast,xr (by omega)]
  simp only[Bool.false_or]
  by_cases hg:Nat.gcd a.n.natAbs a.d.toNat=1
  ·rw[hg]
   exact⟨fun _=>⟨by omega,by omega,by omega,by omega,hg⟩,fun _=>rfl⟩
  ·have:((Nat.gcd a.n.natAbs a.d.toNat:Nat):Int)≠1:=by omega
   rw[bne_iff_ne.2 this]
   exact⟨fun e=>(by cases e),fun r=>absurd r.gcd hg⟩
theorem la (a:Ratio):cJ a=true↔RatioOk a:=by
 unfold cJ
 constructor
 ·intro h
  simp only[Bool.and_eq_true,decide_eq_true_eq,beq_iff_eq]at h
  obtain⟨⟨⟨⟨h1,h2⟩,h3⟩,h4⟩,h5⟩:=h
  rw[xu (by omega) (by omega),u4 (by omega) (by omega),Int.toNat_natCast]at h5
  exact⟨h1,h2,h3,h4,by omega⟩
 ·intro r
  have:=r.d1;have:=r.d;have:=r.n0;have:=r.n
  simp only[Bool.and_eq_true,decide_eq_true_eq,beq_iff_eq]
  rw[xu (by omega) (by omega),u4 (by omega) (by omega),Int.toNat_natCast,r.gcd]
  exact⟨⟨⟨⟨by omega,by omega⟩,by omega⟩,by omega⟩,rfl⟩
theorem xv (a:Ratio):aF a=0∨aF a=120:=by
 unfold aF;rw[Bool.cond_eq_ite];split <;>simp
theorem BV (a:Ratio):aF a=fD a:=by
 unfold fD
 cases h:cJ a with
 |true=>exact(dZ a).2 ((la a).1 h)
 |false=>
  have:aF a≠0:=fun e=>by
   have:=(la a).2 ((dZ a).1 e)
   rw[h]at this;cases this
  have:=xv a
  simp only[Bool.not_false,cond_true]
  omega
theorem oM (a:Ratio):cJ a=(aF a==0):=by
 cases h:cJ a with
 |true=>rw[(dZ a).2 ((la a).1 h)];rfl
 |false=>
  have:aF a≠0:=fun e=>by
   have:=(la a).2 ((dZ a).1 e)
   rw[h]at this;cases this
  simp[this]
theorem Oi (a b:Ratio):kW a b=kZ a b:=by
 unfold kW kZ gD ny
 rw[oM,oM,mg]
 generalize IntKind.i64.wrap (a.n*b.d)=x
 generalize IntKind.i64.wrap (b.n*a.d)=y
 cases h1:(aF a==0) <;>cases h2:(aF b==0) <;>simp[bne,h1,h2,Bool.cond_eq_ite]
 split
 ·rfl
 ·split <;>rfl
theorem qT (a:Ratio):eT a:=fun h=>by
 simp only[Bool.and_eq_true,decide_eq_true_eq]at h
 rw[xu (by omega) (by omega)]
 exact Gc (by omega) (by omega)
theorem DK (a b:Ratio):kn a b:=⟨qT a,fun _=>qT b⟩
theorem mX (a b c:Int):ar [a,b,c]=(decide (a≤b)&&decide (b≤c)):=by
 cases h:ar [a,b,c]with
 |true=>have:=vK h;simp[this.1,this.2]
 |false=>
  by_cases h1:a≤b
  ·by_cases h2:b≤c
   ·rw[xp h1 h2]at h;cases h
   ·simp[h2]
  ·simp[h1]
theorem oN (a b c d:Int):ar [a,b,c,d]=(decide (a≤b)&&decide (b≤c)&&decide (c≤d)):=by
 cases h:ar [a,b,c,d]with
 |true=>have:=Ap h;simp[this.1,this.2.1,this.2.2]
 |false=>
  by_cases h1:a≤b
  ·by_cases h2:b≤c
   ·by_cases h3:c≤d
    ·rw[xq h1 h2 h3]at h;cases h
    ·simp[h3]
   ·simp[h2]
  ·simp[h1]
theorem SA {a b:Bool}(h:a=true↔b=true):a=b:=by cases a <;>cases b <;>simp_all
theorem Iq (x:Ratio×Ratio):iM x=eb x:=by
 unfold iM eb
 rw[Oi,←BV,←BV]
 unfold kZ gD
 rw[oM,oM]
 cases h1:(aF x.1==0) <;>cases h2:(aF x.2==0) <;>simp[bne,h1,h2,Bool.cond_eq_ite]
 repeat' split
 all_goals simp
theorem Oj (i:Int)(x:Reach):fB i x=true↔((i > 0∧0≤x.up∧x.up<i)∨(¬i > 0∧x.up= -1))∧(1≤x.delay∧x.delay≤16)∧(0≤x.siphon∧x.siphon≤x.cap∧x.cap≤1073741824)∧(x.siphon≤x.bank∧x.bank≤1099511627776)∧(0≤x.evap.lo∧x.evap.lo≤x.evap.hi∧x.evap.hi≤1073741824)∧eb x.seep=true:=by
 unfold fB bU
 rw[Iq,mX,oN,oN,oN]
 generalize eb x.seep=q
 by_cases h:i > 0
 ·rw[decide_eq_true h]
  simp only[cond_true,Bool.and_eq_true,decide_eq_true_eq]
  cases q <;>simp only[Bool.false_eq_true,and_false,and_true] <;>omega
 ·rw[decide_eq_false h]
  simp only[cond_false,Bool.and_eq_true,decide_eq_true_eq,beq_iff_eq]
  cases q <;>simp only[Bool.false_eq_true,and_false,and_true] <;>omega
theorem Ok (x:Reach):l9 x=true↔(1≤x.delay∧x.delay≤16)∧(0≤x.siphon∧x.siphon≤x.cap∧x.cap≤1073741824)∧(x.siphon≤x.bank∧x.bank≤1099511627776)∧(0≤x.evap.lo∧x.evap.lo≤x.evap.hi∧x.evap.hi≤1073741824)∧eb x.seep=true:=by
 unfold l9 az
 generalize eb x.seep=q
 have hb:∀ (A B:Bool) (q:Bool),(bif A then false else bif B then false else q)=true↔A=false∧B=false∧q=true:=fun A B q=>by cases A <;>cases B <;>simp
 rw[hb]
 simp only[Bool.or_eq_false_iff,Bool.not_eq_false',Bool.and_eq_true,decide_eq_true_eq,decide_eq_false_iff_not]
 by_cases h:x.bank<x.cap
 ·rw[if_pos h];cases q <;>simp only[Bool.false_eq_true,and_false,and_true] <;>omega
 ·rw[if_neg h];cases q <;>simp only[Bool.false_eq_true,and_false,and_true] <;>omega
theorem xw (l:List Reach)(k:Nat)(hk:k<4096):e_ l k ()=.inr ()↔fB (k:Int) (l.getD k default)=true:=by
 unfold e_ az
 rw[Oj]
 have hb:∀ A B:Bool,((bif A then Sum.inl ()else bif B then Sum.inl ()else Sum.inr ()):Unit⊕Unit)=.inr ()↔A=false∧B=false:=fun A B=>by cases A <;>cases B <;>simp
 rw[hb,Bool.not_eq_false',Ok]
 generalize l.getD k default=x
 generalize eb x.seep=q
 by_cases h:0<k
 ·rw[uB (by omega) h]
  simp only[Bool.or_eq_false_iff,Bool.and_eq_false_iff,Bool.not_eq_false',Bool.and_eq_true,decide_eq_true_eq,decide_eq_false_iff_not,beq_eq_false_iff_ne,bne_eq_false_iff_eq]
  cases q <;>simp only[Bool.false_eq_true,and_false,and_true] <;>omega
 ·have:k=0:=by omega
  subst this
  simp only[Bool.or_eq_false_iff,Bool.and_eq_false_iff,Bool.not_eq_false',Bool.and_eq_true,decide_eq_true_eq,decide_eq_false_iff_not,beq_eq_false_iff_ne,bne_eq_false_iff_eq]
  cases q <;>simp only[Bool.false_eq_true,and_false,and_true] <;>omega
theorem Gd {n:Nat}(h:n≤4096):IntKind.i64.wrap ((n:Int) - 1)=(n:Int) - 1:=aT (by omega) (by omega)
theorem Lg (x:ByteArray):(x==x)=true:=by
 cases x with
 |mk d=>
  show(d==d)=true
  simp
theorem Ir (d:District)(x:Right)(h1:d.farms.length≤600)(h2:d.reaches.length≤64)(h3:1≤d.hours)(h4:d.hours≤4096):fC d x=mb d x:=by
 unfold fC mb bU az
 rw[oN,mX,mX,oN,Gd (by omega),Gd (by omega),aT (by omega: -9223372036854775808≤d.hours - 1) (by omega)]
 rw[Lg]
 refine SA ?_
 have hb:∀ (A q:Bool),(bif A then false else q)=true↔A=false∧q=true:=fun A q=>by cases A <;>simp
 rw[hb,hb]
 have hc:∀ (k1 k2 k3 a b c:Bool),(bif k1 then a else bif k2 then b else bif k3 then c else false)=true↔(k1=true∧a=true)∨(k1=false∧k2=true∧b=true)∨(k1=false∧k2=false∧k3=true∧c=true):=fun k1 k2 k3 a b c=>by cases k1 <;>cases k2 <;>cases k3 <;>simp
 rw[hc,hc]
 simp only[Bool.or_eq_false_iff,Bool.and_eq_true,Bool.not_eq_false',decide_eq_true_eq,decide_eq_false_iff_not,beq_iff_eq,beq_eq_false_iff_ne,and_true,true_and]
 omega
theorem ux (A:Bool):((bif A then Sum.inr ()else Sum.inl ()):Unit⊕Unit)=.inr ()↔A=true:=by cases A <;>simp
theorem uy (A:Bool):((bif A then Sum.inl ()else Sum.inr ()):Unit⊕Unit)=.inr ()↔A=false:=by cases A <;>simp
theorem y7 (d:District)(k:Nat):im d k ()=.inr ()↔c5 d 191 k ()=.inr ():=by
 unfold im c5 az
 rw[fh,uy,ux,mX]
 simp only[Bool.not_eq_false',Bool.and_eq_true,decide_eq_true_eq,ge_iff_le]
theorem y8 (d:District)(k:Nat)(h1:d.reaches.length≤64)(h2:d.crops.length≤32):io d k ()=.inr ()↔cG d 191 k ()=.inr ():=by
 unfold io cG az bU
 simp only[fh]
 rw[mX,Gd (by omega),Gd (by omega)]
 generalize d.farms.getD k default=x
 have hb:∀ A B:Bool,((bif A then Sum.inl ()else bif B then Sum.inl ()else Sum.inr ()):Unit⊕Unit)=.inr ()↔A=false∧B=false:=fun A B=>by cases A <;>cases B <;>simp
 rw[hb]
 by_cases h:x.area > 0
 ·rw[decide_eq_true h]
  simp only[Bool.true_and,Bool.false_and,Bool.or_false,cond_true,ux,Bool.or_eq_false_iff,Bool.and_eq_false_iff,Bool.not_eq_false',Bool.and_eq_true,decide_eq_true_eq,decide_eq_false_iff_not,beq_eq_false_iff_ne,bne_eq_false_iff_eq]
  omega
 ·rw[decide_eq_false h]
  simp only[Bool.true_and,Bool.false_and,Bool.or_false,cond_false,ux,Bool.or_eq_false_iff,Bool.and_eq_false_iff,Bool.not_eq_false',Bool.and_eq_true,decide_eq_true_eq,decide_eq_false_iff_not,beq_eq_false_iff_ne,bne_eq_false_iff_eq,beq_iff_eq]
  omega
theorem y9 (d:District)(k:Nat)(h1:d.reaches.length≤64)(h2:d.farms.length≤600):iq d k ()=.inr ()↔dA d 191 k ()=.inr ():=by
 unfold iq dA az bU
 simp only[fh]
 rw[mX,Gd (by omega),Gd (by omega),ux,uy]
 simp only[Bool.or_eq_false_iff,Bool.not_eq_false',Bool.and_eq_true,decide_eq_true_eq]
 omega
theorem u5 (d:District)(k:Nat)(h1:d.farms.length≤600)(h2:d.reaches.length≤64)(h3:1≤d.hours)(h4:d.hours≤4096):ip d k ()=.inr ()↔c6 d 191 k ()=.inr ():=by
 unfold ip c6
 rw[fh,Ir d _ h1 h2 h3 h4,ux,uy,Bool.not_eq_false']
theorem m1 {r:Unit⊕Unit}{a b:Bool}:(match r with| .inl _=>a| .inr _=>b)=true↔(r=.inr ()∧b=true)∨((∃ y,r=.inl y)∧a=true):=by
 cases r with
 |inl y=>simp
 |inr y=>simp
theorem BW (d:District)(h1:d.reaches.length≤64)(h2:d.farms.length≤600)(h3:d.crops.length≤32):jW d=true↔(1≤d.hours∧d.hours≤4096)∧(0≤d.tank.start∧d.tank.start≤d.tank.cap∧d.tank.cap≤1099511627776)∧0<d.reaches.length∧
  (∀ k,k<d.reaches.length→cF d 191 k ()=.inr ())∧(∀ k,k<d.crops.length→c5 d 191 k ()=.inr ())∧(∀ k,k<d.farms.length→cG d 191 k ()=.inr ())∧(∀ k,k<d.rights.length→c6 d 191 k ()=.inr ())∧(∀ k,k<d.duties.length→dA d 191 k ()=.inr ()):=by
 have hR:jn d.reaches=true↔(∀ k,k<d.reaches.length→cF d 191 k ()=.inr ())∧0<d.reaches.length:=by
  unfold jn
  refine Iff.trans (m1 (r:=ak (e_ d.reaches) d.reaches.length 0 ()) (a:=false) (b:=decide ((d.reaches.length:Int) > 0))) ?_
  simp only[Bool.false_eq_true,and_false,or_false,decide_eq_true_eq]
  rw[dF]
  refine and_congr ⟨fun h k hk=>?_,fun h k hk=>?_⟩ (by omega)
  ·unfold cF
   rw[fh,ux]
   exact(xw _ k (by omega)).1 (h k hk)
  ·have:=h k hk
   unfold cF at this
   rw[fh,ux]at this
   exact(xw _ k (by omega)).2 this
 have hF:ma d=true↔(∀ k,k<d.crops.length→c5 d 191 k ()=.inr ())∧(∀ k,k<d.farms.length→cG d 191 k ()=.inr ()):=by
  unfold ma
  refine Iff.trans (m1 (r:=ak (im d) d.crops.length 0 ()) (a:=false) (b:=match ak (io d) d.farms.length 0 ()with| .inl _=>false| .inr _=>true)) ?_
  simp only[Bool.false_eq_true,and_false,or_false]
  rw[dF]
  refine Iff.trans (and_congr_right fun _=>m1) ?_
  simp only[Bool.false_eq_true,and_false,or_false,and_true]
  rw[dF]
  exact and_congr ⟨fun h k hk=>(y7 d k).1 (h k hk),fun h k hk=>(y7 d k).2 (h k hk)⟩ ⟨fun h k hk=>(y8 d k h1 h3).1 (h k hk),fun h k hk=>(y8 d k h1 h3).2 (h k hk)⟩
 unfold jW
 have hb:∀ A B q:Bool,(bif A then false else bif B then false else q)=true↔A=false∧B=false∧q=true:=fun A B q=>by cases A <;>cases B <;>simp
 rw[hb]
 refine Iff.trans (and_congr_right fun _=>and_congr_right fun _=>Iff.trans (m1 (r:=ak (ip d) d.rights.length 0 ()) (a:=false) (b:=match ak (iq d) d.duties.length 0 ()with| .inl _=>false| .inr _=>true)) (or_congr_left (and_congr_right fun _=>m1))) ?_
 simp only[Bool.false_eq_true,and_false,or_false,and_true]
 rw[dF,dF]
 simp only[Bool.or_eq_false_iff,Bool.not_eq_false',hR,hF,az,Bool.and_eq_true,decide_eq_true_eq,decide_eq_false_iff_not]
 constructor
 ·rintro⟨⟨⟨a1,a2⟩,a3⟩,⟨⟨b1,b2⟩,b3,b4⟩,b5,b6⟩
  refine⟨by omega,by omega,b2,b1,b3,b4,fun k hk=>(u5 d k h2 h1 (by omega) (by omega)).1 (b5 k hk),fun k hk=>(y9 d k h1 h2).1 (b6 k hk)⟩
 ·rintro⟨a1,a2,a3,b1,b2,b3,b4,b5⟩
  refine⟨⟨⟨by omega,by omega⟩,by omega⟩,⟨⟨b1,a3⟩,b2,b3⟩,fun k hk=>(u5 d k h2 h1 (by omega) (by omega)).2 (b4 k hk),fun k hk=>(y9 d k h1 h2).2 (b5 k hk)⟩
theorem Is (d:District):aV d=ir d:=by
 have hs:=u3 d
 unfold ir
 by_cases hl:d.reaches.length≤64∧d.farms.length≤600∧d.crops.length≤32∧d.rights.length≤256∧d.duties.length≤256
 ·have e1:(((((decide ((d.reaches.length:Int) > 64)) ||(decide ((d.farms.length:Int) > 600))) ||(decide ((d.crops.length:Int) > 32))) ||(decide ((d.rights.length:Int) > 256))) ||(decide ((d.duties.length:Int) > 256)))=false:=by
   simp only[Bool.or_eq_false_iff,decide_eq_false_iff_not];omega
  rw[e1]
  simp only[cond_false]
  have hv:=BW d hl.1 hl.2.1 hl.2.2.1
  cases h:jW d with
  |true=>exact hs.2 ⟨hl,hv.1 h⟩
  |false=>
   have h0:aV d≠0:=fun e=>by
    have:=hv.2 (hs.1 e).2
    rw[h]at this;cases this
   unfold aV at h0 ⊢
   simp only[fh]at h0 ⊢
   have e2:(((((decide ((d.reaches.length:Int)≤64))&&(decide ((d.farms.length:Int)≤600)))&&(decide ((d.crops.length:Int)≤32)))&&(decide ((d.rights.length:Int)≤256)))&&(decide ((d.duties.length:Int)≤256)))=true:=by
    simp only[Bool.and_eq_true,decide_eq_true_eq];omega
   rw[e2]at h0 ⊢
   simp only[cond_true]at h0 ⊢
   cases hx:c7 d 191 with
   |true=>rw[hx]at h0;simp at h0
   |false=>rfl
 ·have e1:(((((decide ((d.reaches.length:Int) > 64)) ||(decide ((d.farms.length:Int) > 600))) ||(decide ((d.crops.length:Int) > 32))) ||(decide ((d.rights.length:Int) > 256))) ||(decide ((d.duties.length:Int) > 256)))=true:=by
   simp only[Bool.or_eq_true,decide_eq_true_eq];omega
  rw[e1]
  unfold aV
  simp only[fh]
  have e2:(((((decide ((d.reaches.length:Int)≤64))&&(decide ((d.farms.length:Int)≤600)))&&(decide ((d.crops.length:Int)≤32)))&&(decide ((d.rights.length:Int)≤256)))&&(decide ((d.duties.length:Int)≤256)))=false:=by
   simp only[Bool.and_eq_false_iff,decide_eq_false_iff_not];omega
  rw[e2]
  rfl
theorem It (x:Ratio×Ratio):kp x:=⟨qT _,fun _=>qT _,fun _=>DK _ _⟩
theorem Lh (x:Reach):lG x:=fun _ _=>It _
theorem Ge (d:District):lH d:=fun _=>iL _ _ _ fun _ _ _ _ _ _=>Lh _
theorem Gf (d:District):lI d:=fun _ _=>Ge d
end Go.Sx
end
section
namespace Go.Sx
open Go.Proofs
theorem lK {n:Int}(h0: -4611686018427387904≤n)(h1:n≤4611686018427387904):aj n=(n.natAbs:Int):=by
 unfold aj
 by_cases h:n<0
 ·rw[decide_eq_true h]
  simp only[cond_true,IntKind.wrap,IntKind.bits,IntKind.signed]
  simp
  omega
 ·rw[decide_eq_false h]
  simp only[cond_false]
  rw[BU (by omega) (by omega)];omega
def mkR (n d:Int):Ratio×Int:=
 if d=0 then({ n:=0,d:=0},120)else
 if 1073741824<n.natAbs / Nat.gcd n.natAbs d.natAbs∨1073741824<d.natAbs / Nat.gcd n.natAbs d.natAbs then({ n:=0,d:=0},2)else
 ({ n:=if(decide (n<0)) !=(decide (d<0))then -((n.natAbs / Nat.gcd n.natAbs d.natAbs:Nat):Int)else((n.natAbs / Nat.gcd n.natAbs d.natAbs:Nat):Int),d:=((d.natAbs / Nat.gcd n.natAbs d.natAbs:Nat):Int)},0)
theorem Li {n d:Int}(h0: -4611686018427387904≤n)(h1:n≤4611686018427387904)(h2: -4611686018427387904≤d)(h3:d≤4611686018427387904):jN n d=mkR n d:=by
 unfold jN mkR
 by_cases hd:d=0
 ·subst hd;rfl
 ·have e:(d==0)=false:=by simpa using hd
  rw[e,cond_false,if_neg hd,lK h0 h1,lK h2 h3,Int.toNat_natCast,Int.toNat_natCast,xr (by omega)]
  have g0:0<Nat.gcd n.natAbs d.natAbs:=Nat.gcd_pos_of_pos_right _ (by omega)
  have t1:Int.tdiv (n.natAbs:Int) ((Nat.gcd n.natAbs d.natAbs:Nat):Int)=((n.natAbs / Nat.gcd n.natAbs d.natAbs:Nat):Int):=by rw[Int.tdiv_eq_ediv_of_nonneg (by omega)];rfl
  have t2:Int.tdiv (d.natAbs:Int) ((Nat.gcd n.natAbs d.natAbs:Nat):Int)=((d.natAbs / Nat.gcd n.natAbs d.natAbs:Nat):Int):=by rw[Int.tdiv_eq_ediv_of_nonneg (by omega)];rfl
  have l1:n.natAbs / Nat.gcd n.natAbs d.natAbs≤n.natAbs:=Nat.div_le_self _ _
  have l2:d.natAbs / Nat.gcd n.natAbs d.natAbs≤d.natAbs:=Nat.div_le_self _ _
  rw[t1,t2]
  generalize n.natAbs / Nat.gcd n.natAbs d.natAbs=x at *
  generalize d.natAbs / Nat.gcd n.natAbs d.natAbs=y at *
  rw[BU (n:=(x:Int)) (by omega) (by omega),BU (n:=(y:Int)) (by omega) (by omega),aT (n:=(x:Int)) (by omega) (by omega),aT (n:=(y:Int)) (by omega) (by omega),aT (n:=0 - (x:Int)) (by omega) (by omega)]
  by_cases hb:1073741824<x∨1073741824<y
  ·rw[if_pos hb]
   have:decide ((if(x:Int) < (y:Int)then(y:Int)else(x:Int)) > 1073741824)=true:=by
    rw[decide_eq_true_eq];split <;>omega
   rw[this,cond_true]
  ·rw[if_neg hb]
   have:decide ((if(x:Int) < (y:Int)then(y:Int)else(x:Int)) > 1073741824)=false:=by
    rw[decide_eq_false_iff_not];split <;>omega
   rw[this,cond_false]
   cases(decide (n<0)) !=(decide (d<0)) <;>simp
theorem Ol (n d:Int)(h0: -4611686018427387904≤n)(h1:n≤4611686018427387904)(h2: -4611686018427387904≤d)(h3:d≤4611686018427387904):mP n d:=fun hd=>by
 have hd:d≠0:=by simpa using hd
 rw[lK h0 h1,lK h2 h3,Int.toNat_natCast,Int.toNat_natCast,xr (by omega)]
 have g0:0<Nat.gcd n.natAbs d.natAbs:=Nat.gcd_pos_of_pos_right _ (by omega)
 exact⟨⟨by omega,by omega⟩,by omega,by omega⟩
def rv (a:Ratio):Rat:=(a.n:Rat) / (a.d:Rat)
theorem BX {a b:Nat}(hb:0<b):a / Nat.gcd a b*Nat.gcd a b=a∧b / Nat.gcd a b*Nat.gcd a b=b∧Nat.gcd (a / Nat.gcd a b) (b / Nat.gcd a b)=1:=
 ⟨Nat.div_mul_cancel (Nat.gcd_dvd_left _ _),Nat.div_mul_cancel (Nat.gcd_dvd_right _ _),Nat.gcd_div_gcd_div_gcd_of_pos_right hb⟩
theorem mm {d:Int}(h:d≠0):(d:Rat)≠0:=fun e=>h (by exact_mod_cast e)
theorem Om {n d:Int}(hd:1≤d){r:Ratio}(h:mkR n d=(r,0)):RatioOk r∧rv r*(d:Rat)=(n:Rat):=by
 unfold mkR at h
 rw[if_neg (by omega)]at h
 split at h
 ·simp at h
 ·rename_i hb
  obtain⟨rfl,-⟩:=Prod.mk.inj h
  obtain⟨g1,g2,g3⟩:=BX (a:=n.natAbs) (b:=d.natAbs) (by omega)
  have hdn:¬d<0:=by omega
  have hx:(if(decide (n<0)) !=(decide (d<0))then -((n.natAbs / Nat.gcd n.natAbs d.natAbs:Nat):Int)else((n.natAbs / Nat.gcd n.natAbs d.natAbs:Nat):Int))*((Nat.gcd n.natAbs d.natAbs:Nat):Int)=n:=by
   rw[decide_eq_false hdn]
   by_cases hn:n<0
   ·rw[decide_eq_true hn,if_pos (by rfl),Int.neg_mul,←Int.natCast_mul,g1];omega
   ·rw[decide_eq_false hn,if_neg (by simp),←Int.natCast_mul,g1];omega
  have hxa:(if(decide (n<0)) !=(decide (d<0))then -((n.natAbs / Nat.gcd n.natAbs d.natAbs:Nat):Int)else((n.natAbs / Nat.gcd n.natAbs d.natAbs:Nat):Int)).natAbs=n.natAbs / Nat.gcd n.natAbs d.natAbs:=by
   split
   ·rw[Int.natAbs_neg,Int.natAbs_natCast]
   ·rw[Int.natAbs_natCast]
  have hyd:((d.natAbs / Nat.gcd n.natAbs d.natAbs:Nat):Int)*((Nat.gcd n.natAbs d.natAbs:Nat):Int)=d:=by rw[←Int.natCast_mul,g2];omega
  generalize hX:(if(decide (n<0)) !=(decide (d<0))then -((n.natAbs / Nat.gcd n.natAbs d.natAbs:Nat):Int)else((n.natAbs / Nat.gcd n.natAbs d.natAbs:Nat):Int))=X at *
  have hy0:1≤d.natAbs / Nat.gcd n.natAbs d.natAbs:=by
   rcases Nat.eq_zero_or_pos (d.natAbs / Nat.gcd n.natAbs d.natAbs)with e|e
   ·rw[e]at g2;omega
   ·exact e
  refine⟨⟨by simp only;omega,by simp only;omega,by simp only;omega,by simp only;omega,by simp only;rw[hxa,Int.toNat_natCast];exact g3⟩,?_⟩
  unfold rv
  simp only
  have e1:(d:Rat)=(((d.natAbs / Nat.gcd n.natAbs d.natAbs:Nat):Int):Rat)*(((Nat.gcd n.natAbs d.natAbs:Nat):Int):Rat):=by exact_mod_cast hyd.symm
  have e2:(n:Rat)=(X:Rat)*(((Nat.gcd n.natAbs d.natAbs:Nat):Int):Rat):=by exact_mod_cast hx.symm
  rw[e1,e2]
  have h1:(((d.natAbs / Nat.gcd n.natAbs d.natAbs:Nat):Int):Rat)≠0:=mm (by omega)
  generalize (((d.natAbs / Nat.gcd n.natAbs d.natAbs:Nat):Int):Rat)=y at *
  rw[←Rat.mul_assoc,Rat.div_mul_cancel h1]
theorem vA {a b:Int}(h0: -1073741824≤a)(h1:a≤1073741824)(h2:1≤b)(h3:b≤1073741824): -1152921504606846976≤a*b∧a*b≤1152921504606846976:=by
 have:(a*b).natAbs≤1073741824*1073741824:=by rw[Int.natAbs_mul];exact Nat.mul_le_mul (by omega) (by omega)
 omega
theorem mul1 {a b:Int}(h0:1≤a)(h1:1≤b):1≤a*b:=Int.mul_pos (by omega) (by omega)
theorem EV {a b:Ratio}(ha:RatioOk a)(hb:RatioOk b):ej a b=(a.n*b.d+b.n*a.d,a.d*b.d):=by
 have m1:=vA ha.n0 ha.n hb.d1 hb.d
 have m2:=vA hb.n0 hb.n ha.d1 ha.d
 have h1:=ha.d1;have h2:=ha.d
 have m3:=vA (a:=a.d) (by omega) h2 hb.d1 hb.d
 unfold ej
 rw[aT (n:=a.n*b.d) (by omega) (by omega),aT (n:=b.n*a.d) (by omega) (by omega),aT (n:=a.d*b.d) (by omega) (by omega),aT (by omega) (by omega)]
theorem DL (a b:Ratio):dL a b=if aF a=0∧aF b=0 then mkR (a.n*b.d+b.n*a.d) (a.d*b.d)else({ n:=0,d:=0},120):=by
 unfold dL d8
 by_cases h:aF a=0∧aF b=0
 ·rw[if_pos h,h.1,h.2,EV ((dZ a).1 h.1) ((dZ b).1 h.2)]
  have ha:=(dZ a).1 h.1;have hb:=(dZ b).1 h.2
  have m1:=vA ha.n0 ha.n hb.d1 hb.d
  have m2:=vA hb.n0 hb.n ha.d1 ha.d
  have h1:=ha.d1;have h2:=ha.d
  have m3:=vA (a:=a.d) (by omega) h2 hb.d1 hb.d
  simp only[bne_self_eq_false,Bool.or_false,cond_false]
  rw[Li (by omega) (by omega) (by omega) (by omega)]
 ·rw[if_neg h]
  have:((aF a !=0) ||(aF b !=0))=true:=by
   rcases xv a with e|e <;>rcases xv b with f|f <;>simp_all
  rw[this];rfl
theorem SB (a b:Ratio):nV a b:=fun h=>by
 simp only[Bool.or_eq_false_iff,bne_eq_false_iff_eq]at h
 have ha:=(dZ a).1 h.1;have hb:=(dZ b).1 h.2
 rw[EV ha hb]
 have m1:=vA ha.n0 ha.n hb.d1 hb.d
 have m2:=vA hb.n0 hb.n ha.d1 ha.d
 have h1:=ha.d1;have h2:=ha.d
 have m3:=vA (a:=a.d) (by omega) h2 hb.d1 hb.d
 exact Ol _ _ (by simp only;omega) (by simp only;omega) (by simp only;omega) (by simp only;omega)
theorem Iu {a b:Ratio}(ha:RatioOk a)(hb:RatioOk b):(rv a+rv b)*((a.d*b.d:Int):Rat)=((a.n*b.d+b.n*a.d:Int):Rat):=by
 have h1:=ha.d1;have h2:=hb.d1
 have d1:(a.d:Rat)≠0:=mm (by omega)
 have d2:(b.d:Rat)≠0:=mm (by omega)
 unfold rv
 have e1:((a.d*b.d:Int):Rat)=(a.d:Rat)*(b.d:Rat):=by exact_mod_cast rfl
 have e2:((a.n*b.d+b.n*a.d:Int):Rat)=(a.n:Rat)*(b.d:Rat)+(b.n:Rat)*(a.d:Rat):=by exact_mod_cast rfl
 rw[e1,e2,Rat.add_mul,←Rat.mul_assoc,Rat.div_mul_cancel d1,Rat.mul_comm (a.d:Rat),←Rat.mul_assoc,Rat.div_mul_cancel d2]
theorem Iv {a b r:Ratio}(h:dL a b=(r,0)):RatioOk a∧RatioOk b∧RatioOk r∧rv r=rv a+rv b:=by
 rw[DL]at h
 split at h
 ·rename_i hc
  have ha:=(dZ a).1 hc.1;have hb:=(dZ b).1 hc.2
  have hd:=mul1 ha.d1 hb.d1
  obtain⟨h1,h2⟩:=Om hd h
  refine⟨ha,hb,h1,?_⟩
  rw[←Iu ha hb]at h2
  have hne:((a.d*b.d:Int):Rat)≠0:=mm (by omega)
  have:=congrArg (· / ((a.d*b.d:Int):Rat)) h2
  simp only[Rat.mul_div_cancel hne]at this
  exact this
 ·simp at h
end Go.Sx
end
section
namespace Go.Sx
open Go.Proofs
theorem oO {kk vk:Tag}(l:List (kk.T×vk.T))(x z:kk.T)(y:vk.T):dz kk vk (fL kk vk l x y) z=if z=x then y else dz kk vk l z:=by
 unfold dz fL
 rw[uA]
 by_cases h:z=x <;>simp[h]
theorem Gg {kk vk:Tag}(l:List (kk.T×vk.T))(x z:kk.T)(y:vk.T):pO kk vk (fL kk vk l x y) z=(decide (z=x) ||pO kk vk l z):=by
 unfold pO fL
 rw[uA]
 by_cases h:z=x <;>simp[h]
theorem bH {α:Type}(l:List α)(d:α){k:Nat}(h:k<l.length):l.take (k+1)=l.take k++[l.getD k d]:=by
 rw[List.take_succ_eq_append_getElem h,eD l d h]
theorem iO {ρ σ:Type}{step:Nat→σ→ρ⊕σ}(J:Nat→σ→Prop)(n i:Nat)(s:σ)(h0:J i s)(h:∀ j s,i≤j→j<i+n→J j s→∃ s',step j s=.inr s'∧J (j+1) s'):∃ r,ak step n i s=.inr r∧J (i+n) r:=by
 induction n generalizing i s with
 |zero=>exact⟨s,rfl,h0⟩
 |succ n ih=>
  obtain⟨s',e,hJ⟩:=h i s (Nat.le_refl _) (by omega) h0
  obtain⟨r,e2,h2⟩:=ih (i+1) s' hJ fun j s h1 h2=>h j s (by omega) (by omega)
  refine⟨r,?_,by rw[show i+(n+1)=i+1+n by omega];exact h2⟩
  simp only[ak,e];exact e2
theorem BY {ρ σ:Type}{step:Nat→σ→ρ⊕σ}(S:Nat→σ)(n:Nat)(C:Nat→Prop)(hc:∀ k,k<n→(∀ j,j<k→C j)→(C k→step k (S k)=.inr (S (k+1)))∧(¬C k→∃ r,step k (S k)=.inl r)):
  ∀ m i,i+m=n→(∀ j,j<i→C j)→((∀ k,i≤k→k<n→C k)→ak step m i (S i)=.inr (S n))∧(¬ (∀ k,i≤k→k<n→C k)→∃ r,ak step m i (S i)=.inl r)
 |0,i,h,hi=>⟨fun _=>by rw[show i=n by omega];rfl,fun hn=>absurd (fun k h1 h2=>by omega) hn⟩
 |m+1,i,h,hi=>by
  obtain⟨h1,h2⟩:=hc i (by omega) hi
  by_cases hC:C i
  ·have hi':∀ j,j<i+1→C j:=fun j hj=>by
    rcases Nat.lt_or_ge j i with h'|h'
    ·exact hi j h'
    ·rw[show j=i by omega];exact hC
   obtain⟨g1,g2⟩:=BY S n C hc m (i+1) (by omega) hi'
   simp only[ak,h1 hC]
   refine⟨fun ha=>g1 fun k hk1 hk2=>ha k (by omega) hk2,fun hn=>g2 fun ha=>hn fun k hk1 hk2=>?_⟩
   rcases Nat.lt_or_ge i k with h'|h'
   ·exact ha k h' hk2
   ·rw[show k=i by omega];exact hC
  ·obtain⟨r,hr⟩:=h2 hC
   simp only[ak,hr]
   exact⟨fun ha=>absurd (ha i (Nat.le_refl _) (by omega)) hC,fun _=>⟨r,rfl⟩⟩
theorem oa (n lo hi:Int):an n lo hi=true↔lo≤n∧n≤hi:=by
 unfold an;simp
theorem qs (n:Int){k:Nat}(h:k≤4096):an n 0 (IntKind.i64.wrap ((k:Int) - 1))=true↔0≤n∧n< (k:Int):=by
 rw[oa,aT (by omega) (by omega)];omega
def tw:List Part→Rat
 | [] =>0
 |x::r=>rv x.share+tw r
theorem Iw (a b:List Part):tw (a++b)=tw a+tw b:=by
 induction a with
 |nil=>simp[tw,Rat.zero_add]
 |cons x r ih=>simp only[List.cons_append,tw,ih,Rat.add_assoc]
structure PartOk (d:District)(x:Part):Prop where
 f0:0≤x.farm
 f1:x.farm< (d.farms.length:Int)
 share:RatioOk x.share
 pos:0<x.share.n
structure PartsOk (d:District)(l:List Part):Prop where
 len1:1≤l.length
 len:l.length≤16
 part:∀ x∈l,PartOk d x
 apart:(l.map fun x=>x.farm).Nodup
 sum:tw l=1
theorem Ix {d:District}{l:List Part}(hf:d.farms.length≤600)(h:fg d l=true):PartsOk d l:=by
 unfold fg at h
 cases hr:ak (dU d l) l.length 0 (0,1,[])with
 |inl x=>rw[hr]at h;cases h
 |inr s=>
  rw[hr]at h
  have hJ:=wY (fun k s=>rv { n:=s.1,d:=s.2.1} =tw (l.take k)∧(∀ x∈l.take k,PartOk d x)∧((l.take k).map fun x=>x.farm).Nodup∧∀ f:Int,dz .int .bool s.2.2 f=decide (f∈(l.take k).map fun x=>x.farm)) l.length 0 (0,1,([]:List (Int×Bool))) ⟨by show((0:Int):Rat) / ((1:Int):Rat)=0;first|rfl|grind,by simp,by simp,fun f=>by simp[dz,fc,dE]⟩ (fun j s _ hj ⟨j1,j2,j3,j4⟩ s' hs=>by
   rw[Nat.zero_add]at hj
   unfold dU at hs
   cases hc:(((!(an ((l.getD j (default:Part)).farm) 0 (IntKind.i64.wrap ((d.farms.length:Int) - 1)))) ||(dz .int .bool s.2.2 ((l.getD j (default:Part)).farm))) ||(decide ((l.getD j (default:Part)).share.n≤0)))with
   |true=>rw[hc]at hs;cases hs
   |false=>
    rw[hc]at hs
    simp only[Bool.or_eq_false_iff,Bool.not_eq_false',decide_eq_false_iff_not]at hc
    obtain⟨⟨c1,c2⟩,c3⟩:=hc
    rw[qs _ (by omega)]at c1
    cases he:((dL ({ n:=s.1,d:=s.2.1}:Ratio) ((l.getD j (default:Part)).share)).2 !=0)with
    |true=>rw[he]at hs;cases hs
    |false=>
     rw[he]at hs
     simp only[cond_false,Sum.inr.injEq]at hs
     subst hs
     have he:(dL ({ n:=s.1,d:=s.2.1}:Ratio) ((l.getD j (default:Part)).share)).2=0:=by simpa using he
     obtain⟨a1,a2,a3,a4⟩:=Iv (r:=(dL ({ n:=s.1,d:=s.2.1}:Ratio) ((l.getD j (default:Part)).share)).1) (by rw[←he])
     rw[bH l default hj]
     rw[j4,decide_eq_false_iff_not]at c2
     refine⟨?_,fun x hx=>?_,?_,fun f=>?_⟩
     ·rw[Iw,←j1]
      simp only[tw,Rat.add_zero]
      exact a4
     ·rcases List.mem_append.1 hx with hx|hx
      ·exact j2 x hx
      ·simp only[List.mem_singleton]at hx
       subst hx
       exact⟨c1.1,c1.2,a2,by omega⟩
     ·rw[List.map_append,List.nodup_append]
      refine⟨j3,by simp,fun a ha b hb=>?_⟩
      simp only[List.map_cons,List.map_nil,List.mem_singleton]at hb
      subst hb
      rintro rfl
      exact c2 ha
     ·rw[oO,List.map_append]
      by_cases hf:f=(l.getD j (default:Part)).farm
      ·subst hf;simp
      ·rw[if_neg hf,j4,decide_eq_decide]
       simp only[List.mem_append,List.map_cons,List.map_nil,List.mem_singleton]
       exact⟨.inl,fun h=>h.elim id fun e=>absurd e hf⟩) s hr
  rw[Nat.zero_add,List.take_length]at hJ
  obtain⟨j1,j2,j3,_⟩:=hJ
  simp only[Bool.and_eq_true,beq_iff_eq]at h
  obtain⟨h1,h2,h3⟩:=h
  rw[oa]at h1
  refine⟨by omega,by omega,j2,j3,?_⟩
  rw[←j1,h2,h3]
  show((1:Int):Rat) / ((1:Int):Rat)=1
  first|rfl|grind
theorem Lj (d:District)(l:List Part):iN d l:=fun _=>iL _ _ _ fun j s _ _ _ _=>SB _ _
theorem On (d:District)(m:List (Int×Deed))(x:Deed):jD d m x:=fun _ hf hr=>⟨fun h=>by
  rw[oa,aT (by omega) (by unfold bv at *;omega)]at h;omega,fun _ _ _=>Lj _ _⟩
theorem mn (d:District)(l:List Deed):dM d l:=fun _ _ _ hl=>iL _ _ _ fun j s _ hj=>⟨fun h=>by
  rw[decide_eq_true_eq]at h
  rw[aT (by omega) (by unfold bv at *;omega)];omega,fun _=>On _ _ _⟩
def oc (l:List Deed):List (Int×Deed):=l.foldl (fun m x=>fL .int .deed m x.no x) []
theorem qU (l:List Deed)(x:Deed):oc (l++[x])=fL .int .deed (oc l) x.no x:=by
 unfold oc;rw[List.foldl_append];rfl
def Asc (l:List Deed):Prop:=l.Pairwise fun x y=>x.no<y.no
def Chk (d:District):List Deed→List Deed→Prop
 |_,[] =>True
 |b,x::r=>(∀ y∈b,y.no<x.no)∧ca d (oc b) x=true∧Chk d (b++[x]) r
theorem Chk.asc {d:District}:∀ {r b:List Deed},Asc b→Chk d b r→Asc (b++r)
 | [],b,h,_=>by simpa using h
 |x::r,b,h,⟨h1,_,h3⟩ =>by
  have:Asc (b++[x]):=List.pairwise_append.2 ⟨h,List.pairwise_singleton _ _,fun y hy z hz=>by simp at hz;subst hz;exact h1 y hy⟩
  simpa using Chk.asc this h3
theorem lL (l:List Deed):aA l=false↔∀ x∈l,x.parts.length≤16:=by
 unfold aA cK
 have key:∀ l:List Deed,(match fN (ρ:=Unit) (fun(x:Deed) (_:Unit) =>bif cU x then .inl ()else .inr ()) l ()with| .inl _=>False| .inr _=>True)↔∀ x∈l,x.parts.length≤16:=fun l=>by
  induction l with
  |nil=>simp[fN]
  |cons x r ih=>
   simp only[fN]
   unfold cU at ih ⊢
   by_cases hx:(x.parts.length:Int) > 16
   ·rw[decide_eq_true hx]
    simp only[cond_true,false_iff]
    intro h;have:=h x (by simp);omega
   ·rw[decide_eq_false hx]
    simp only[cond_false,ih,List.mem_cons,forall_eq_or_imp]
    constructor
    ·exact fun h=>⟨by omega,h⟩
    ·exact fun h=>h.2
 have hI:∀ (n i:Nat),i+n=l.length→((∃ j,i≤j∧j<l.length∧cU (l.getD j default)=true)∧(∃ q:Nat,ak (bV l) n i ()=.inl (q:Int)))∨((∀ j,i≤j→j<l.length→cU (l.getD j default)=false)∧ak (bV l) n i ()=.inr ()):=fun n=>by
  induction n with
  |zero=>exact fun i h=>.inr ⟨fun j h1 h2=>by omega,rfl⟩
  |succ n ih=>
   intro i h
   simp only[ak,bV]
   cases hc:cU (l.getD i default)with
   |true=>exact .inl ⟨⟨i,Nat.le_refl _,by omega,hc⟩,i,rfl⟩
   |false=>
    simp only[cond_false]
    rcases ih (i+1) (by omega)with⟨⟨j,h1,h2,h3⟩,h4⟩ | ⟨h1,h2⟩
    ·exact .inl ⟨⟨j,by omega,h2,h3⟩,h4⟩
    ·refine .inr ⟨fun j h3 h4=>?_,h2⟩
     rcases Nat.lt_or_ge i j with h5|h5
     ·exact h1 j h5 h4
     ·rw[show j=i by omega];exact hc
 rcases hI l.length 0 (by omega)with⟨⟨j,_,h2,h3⟩,q,h4⟩ | ⟨h1,h2⟩
 ·rw[h4]
  simp only[decide_eq_false_iff_not]
  refine⟨fun h=>by omega,fun h=>?_⟩
  have:=h (l.getD j default) (by rw[eD l _ h2];exact List.getElem_mem _)
  unfold cU at h3
  rw[decide_eq_true_eq]at h3
  omega
 ·rw[h2]
  simp only
  refine⟨fun _ x hx=>?_,fun _=>by decide⟩
  obtain⟨j,hj,rfl⟩:=List.mem_iff_getElem.1 hx
  have:=h1 j (Nat.zero_le _) hj
  rw[eD l _ hj]at this
  unfold cU at this
  rw[decide_eq_false_iff_not]at this
  omega
theorem Gh (d:District)(l:List Deed)(hl:l.length≤4096):(∀ k,k<l.length→((0<k→(l.getD (k - 1) default).no< (l.getD k default).no)∧ca d (oc (l.take k)) (l.getD k default)=true))↔Chk d [] l:=by
 have key:∀ (r b:List Deed),l=b++r→Asc b→((∀ k,b.length≤k→k<l.length→((0<k→(l.getD (k - 1) default).no< (l.getD k default).no)∧ca d (oc (l.take k)) (l.getD k default)=true))↔Chk d b r):=fun r=>by
  induction r with
  |nil=>exact fun b h _=>⟨fun _=>trivial,fun _ k h1 h2=>by rw[h]at h2;simp at h2;omega⟩
  |cons x r ih=>
   intro b h hA
   have hk:b.length<l.length:=by rw[h];simp
   have g:l.getD b.length default=x:=by rw[h];simp[List.getD_eq_getElem?_getD]
   have t:l.take b.length=b:=by rw[h];simp
   have hlast:(∀ y∈b,y.no<x.no)↔(0<b.length→(l.getD (b.length - 1) default).no<x.no):=by
    rcases List.eq_nil_or_concat b with rfl| ⟨b',y,rfl⟩
    ·simp
    ·rw[List.concat_eq_append]at h hA hk g t ⊢
     have g2:l.getD ((b'++[y]).length - 1) default=y:=by rw[h];simp[List.getD_eq_getElem?_getD]
     rw[g2]
     refine⟨fun hh _=>hh y (by simp),fun hh z hz=>?_⟩
     have hy:=hh (by simp)
     rcases List.mem_append.1 hz with hz|hz
     ·exact Int.lt_trans ((List.pairwise_append.1 hA).2.2 z hz y (by simp)) hy
     ·simp at hz;subst hz;exact hy
   constructor
   ·intro hh
    have h1:=hh b.length (Nat.le_refl _) hk
    rw[g,t]at h1
    have h2:=hlast.2 h1.1
    have hA':Asc (b++[x]):=List.pairwise_append.2 ⟨hA,List.pairwise_singleton _ _,fun y hy z hz=>by simp at hz;subst hz;exact h2 y hy⟩
    exact⟨h2,h1.2,(ih (b++[x]) (by rw[h];simp) hA').1 fun k hk1 hk2=>hh k (by simp at hk1;omega) hk2⟩
   ·rintro⟨h2,h3,h4⟩ k hk1 hk2
    have hA':Asc (b++[x]):=List.pairwise_append.2 ⟨hA,List.pairwise_singleton _ _,fun y hy z hz=>by simp at hz;subst hz;exact h2 y hy⟩
    rcases Nat.eq_or_lt_of_le hk1 with rfl|hk1
    ·rw[g,t];exact⟨hlast.1 h2,h3⟩
    ·exact(ih (b++[x]) (by rw[h];simp) hA').2 h4 k (by simp;omega) hk2
 have:=key l [] rfl List.Pairwise.nil
 simpa using this
theorem oP (d:District)(l:List Deed):aq d l=0↔aV d=0∧l.length≤512∧(∀ x∈l,x.parts.length≤16)∧Chk d [] l:=by
 unfold aq
 cases h1:(aV d !=0)with
 |true=>
  have:aV d≠0:=by simpa using h1
  simp[this]
 |false=>
  have h1:aV d=0:=by simpa using h1
  simp only[cond_false,h1,true_and]
  by_cases hl:l.length≤512
  ·have:decide ((l.length:Int) > 512)=false:=by rw[decide_eq_false_iff_not];omega
   rw[this,Bool.false_or]
   cases h2:aA l with
   |true=>
    simp only[cond_true,hl,true_and]
    refine⟨(fun h=>by cases h),fun h=>?_⟩
    have:=(lL l).2 h.1
    rw[h2]at this;cases this
   |false=>
    have h3:=(lL l).1 h2
    simp only[cond_false,hl,true_and,and_iff_right h3]
    rw[←Gh d l (by omega)]
    obtain⟨g1,g2⟩:=BY (step:=c8 d l) (fun k=>oc (l.take k)) l.length (fun k=>(0<k→(l.getD (k - 1) default).no< (l.getD k default).no)∧ca d (oc (l.take k)) (l.getD k default)=true) (fun k hk _=>by
     unfold c8
     have e0:(decide ((k:Int) > 0)&&decide ((l.getD k (default:Deed)).no≤(l.getD (Int.toNat (IntKind.i64.wrap ((k:Int) - 1))) (default:Deed)).no))= !decide (0<k→(l.getD (k - 1) default).no< (l.getD k default).no):=by
      by_cases h0:0<k
      ·rw[uB (by omega) h0,Int.toNat_natCast]
       by_cases h4:(l.getD (k - 1) default).no< (l.getD k default).no
       ·rw[decide_eq_true (by omega:(k:Int) > 0),Bool.true_and,decide_eq_false (by omega),decide_eq_true (fun _=>h4)];rfl
       ·rw[decide_eq_true (by omega:(k:Int) > 0),Bool.true_and,decide_eq_true (by omega),decide_eq_false (fun h=>h4 (h h0))];rfl
      ·have:k=0:=by omega
       subst this;simp
     rw[e0]
     constructor
     ·rintro⟨a,b⟩
      rw[decide_eq_true a,b]
      simp only[Bool.not_true,Bool.or_false,cond_false]
      rw[bH l default hk,qU]
     ·intro hn
      refine⟨(),?_⟩
      have:(!decide (0<k→(l.getD (k - 1) default).no< (l.getD k default).no) || !ca d (oc (l.take k)) (l.getD k default))=true:=by
       cases hd:decide (0<k→(l.getD (k - 1) default).no< (l.getD k default).no)with
       |false=>rfl
       |true=>
        cases hf:ca d (oc (l.take k)) (l.getD k default)with
        |false=>rfl
        |true=>exact absurd ⟨of_decide_eq_true hd,hf⟩ hn
      rw[this];rfl) l.length 0 (by omega) (fun j hj=>by omega)
    by_cases hall:∀ k,0≤k→k<l.length→(0<k→(l.getD (k - 1) default).no< (l.getD k default).no)∧ca d (oc (l.take k)) (l.getD k default)=true
    ·have e:=g1 hall
     rw[List.take_zero]at e
     have e':ak (c8 d l) l.length 0 []=.inr (oc (l.take l.length)):=e
     rw[e']
     exact⟨fun _ k hk=>hall k (Nat.zero_le _) hk,fun _=>rfl⟩
    ·obtain⟨r,e⟩:=g2 hall
     rw[List.take_zero]at e
     have e':ak (c8 d l) l.length 0 []=.inl r:=e
     rw[e']
     exact⟨(fun h=>by cases h),fun h=>absurd (fun k _ hk=>h k hk) hall⟩
  ·have:decide ((l.length:Int) > 512)=true:=by rw[decide_eq_true_eq];omega
   rw[this,Bool.true_or]
   simp[hl]
end Go.Sx
end
section
namespace Go.Sx
open Go.Proofs
theorem vB {ρ σ:Type}{step:Nat→σ→ρ⊕σ}{p:Nat→σ→Prop}(m:σ→Nat)(J:σ→Prop)(Q:ρ→Prop)(h:∀ k s,J s→p k s∧((∃ r,step k s=.inl r∧Q r)∨∃ s',step k s=.inr s'∧m s'<m s∧J s')):∀ (n i:Nat) (s:σ),J s→m s<n→okI step p n i s∧∃ r,ak step n i s=.inl r∧Q r
 |0,_,_,_,hm=>absurd hm (Nat.not_lt_zero _)
 |n+1,i,s,hJ,hm=>by
  obtain⟨h1,h2⟩:=h i s hJ
  rcases h2 with⟨r,e,hq⟩ | ⟨s',e,hlt,hJ'⟩
  ·refine⟨⟨h1,fun s'' e'=>?_⟩,r,?_,hq⟩
   ·rw[e]at e';cases e'
   ·simp only[ak,e]
  ·obtain⟨q1,q2⟩:=vB m J Q h n (i+1) s' hJ' (by omega)
   refine⟨⟨h1,fun s'' e'=>?_⟩,?_⟩
   ·rw[e]at e';cases e';exact q1
   ·simp only[ak,e];exact q2
theorem u6 {ρ σ:Type}{x:ρ⊕σ}{Q:ρ→Prop}(h:∃ r,x=.inl r∧Q r):∀ z,x≠ .inr z:=fun z e=>by
 obtain⟨r,e1,_⟩:=h
 rw[e1]at e;cases e
theorem EW (a b:Deed):decide (cC a b<0)=decide (a.at_<b.at_):=by
 unfold cC
 rw[mg]
 by_cases h:a.at_<b.at_
 ·simp[h]
 ·by_cases h2:a.at_ > b.at_ <;>simp[h,h2]
theorem kC {α:Type}(A:List α)(x d:α)(T:List α){i:Nat}(h:i=A.length):(A++x::T).getD i d=x:=by
 subst h;simp[List.getD_eq_getElem?_getD]
theorem pe {α:Type}(A:List α)(x y:α)(T:List α){i:Nat}(h:i=A.length):(A++x::T).set i y=A++y::T:=by
 subst h;simp
def SameF (l l':List Deed):Prop:= ∀ t:Int,l.filter (fun x=>x.at_==t)=l'.filter fun x=>x.at_==t
theorem SameF.refl (l:List Deed):SameF l l:=fun _=>rfl
theorem SameF.trans {a b c:List Deed}(h1:SameF a b)(h2:SameF b c):SameF a c:=fun t=>(h1 t).trans (h2 t)
theorem SameF.app {a b c d:List Deed}(h1:SameF a b)(h2:SameF c d):SameF (a++c) (b++d):=fun t=>by rw[List.filter_append,List.filter_append,h1 t,h2 t]
theorem SameF.swap {a b:List Deed}(h:∀ x∈a,∀ y∈b,x.at_≠y.at_):SameF (a++b) (b++a):=fun t=>by
 rw[List.filter_append,List.filter_append]
 by_cases ha:a.filter (fun x=>x.at_==t)=[]
 ·rw[ha];simp
 ·have hb:b.filter (fun x=>x.at_==t)=[]:=by
   rw[List.filter_eq_nil_iff]
   intro y hy hyt
   obtain⟨x,hx⟩:=List.exists_mem_of_ne_nil _ ha
   rw[List.mem_filter]at hx
   have e1:x.at_=t:=by simpa using hx.2
   have e2:y.at_=t:=by simpa using hyt
   exact h x hx.1 y hy (by rw[e1,e2])
  rw[hb];simp
def Srt (l:List Deed):Prop:=l.Pairwise fun x y=>x.at_≤y.at_
theorem Gi (A S R:List Deed)(x:Deed)(l_:List Deed)(hl:(A++S++x::R).length<2 ^ 62)(hfuel:(A++S++x::R).length=l_.length):
  okI (aK A.length l_) (a_ A.length l_) (l_.length+1) 0 (A++S++x::R,((A.length+S.length:Nat):Int))∧
  ∃ r,ak (aK A.length l_) (l_.length+1) 0 (A++S++x::R,((A.length+S.length:Nat):Int))=.inl r∧
   ∃ S1 S2,S=S1++S2∧r=A++S1++x::(S2++R)∧(∀ y∈S2,x.at_<y.at_)∧∀ y,S1.getLast? =some y→y.at_≤x.at_:=by
 refine vB (fun s:List Deed×Int=>(s.2 - (A.length:Int)).toNat) (fun s:List Deed×Int=>∃ S1 S2,S=S1++S2∧s=(A++S1++x::(S2++R),((A.length+S1.length:Nat):Int))∧∀ y∈S2,x.at_<y.at_) (fun r=>∃ S1 S2,S=S1++S2∧r=A++S1++x::(S2++R)∧(∀ y∈S2,x.at_<y.at_)∧∀ y,S1.getLast? =some y→y.at_≤x.at_) ?_ _ _ _ ⟨S,[],by simp,by simp,by simp⟩ (by simp only[List.length_append,List.length_cons]at hl hfuel;omega)
 rintro k s ⟨S1,S2,hS,rfl,hlt⟩
 simp only[List.length_append,List.length_cons]at hl hfuel
 have hlen:S.length=S1.length+S2.length:=by rw[hS,List.length_append]
 rcases List.eq_nil_or_concat S1 with rfl| ⟨S1',y,rfl⟩
 ·unfold a_ aK
  have e:decide (((A.length+([]:List Deed).length:Nat):Int) > A.length)=false:=by simp
  refine⟨⟨fun h=>?_,fun h=>?_,fun h=>?_⟩,.inl ⟨_,?_,[],S2,hS,rfl,hlt,fun y hy=>by simp at hy⟩⟩
  ·rw[e]at h;cases h
  ·rw[e]at h;cases h
  ·rw[e]at h;cases h
  ·simp only[e,Bool.false_and,cond_false]
 ·simp only[List.concat_eq_append,List.length_append,List.length_cons,List.length_nil]at hlen ⊢
  have w:IntKind.i64.wrap (((A.length+(S1'.length+(0+1)):Nat):Int) - 1)=((A.length+S1'.length:Nat):Int):=by rw[aT (by omega) (by omega)];omega
  have e:decide (((A.length+(S1'.length+(0+1)):Nat):Int) > A.length)=true:=by rw[decide_eq_true_eq];omega
  have g1:(A++(S1'++[y])++x::(S2++R)).getD (A.length+(S1'.length+(0+1))) default=x:=kC _ _ _ _ (by simp)
  have hr:A++(S1'++[y])++x::(S2++R)=(A++S1')++y::x::(S2++R):=by simp
  have g2:(A++(S1'++[y])++x::(S2++R)).getD (A.length+S1'.length) default=y:=by rw[hr];exact kC _ _ _ _ (by simp)
  have hL:(A++(S1'++[y])++x::(S2++R)).length=A.length+(S1'.length+1)+(S2.length+R.length+1):=by simp;omega
  unfold a_ aK
  simp only[w,Int.toNat_natCast,g1,g2,EW,e,Bool.true_and,List.length_set,hL]
  refine⟨⟨fun _=>by omega,fun _=>by omega,fun _=>by omega⟩,?_⟩
  by_cases h:x.at_<y.at_
  ·right
   rw[decide_eq_true h,cond_true]
   refine⟨_,rfl,by simp only;omega,S1',y::S2,by rw[hS];simp,?_,fun z hz=>?_⟩
   ·rw[pe (A++(S1'++[y])) x y (S2++R) (by simp)]
    have:A++(S1'++[y])++y::(S2++R)=(A++S1')++y::y::(S2++R):=by simp
    rw[this,pe (A++S1') y x _ (by simp)]
    simp
   ·rcases List.mem_cons.1 hz with rfl|hz
    ·exact h
    ·exact hlt z hz
  ·left
   rw[decide_eq_false h,cond_false]
   exact⟨_,rfl,S1'++[y],S2,hS.trans (by simp),by simp,hlt,fun z hz=>by simp at hz;subst hz;omega⟩
end Go.Sx
end
section
namespace Go.Sx
open Go.Proofs
theorem Iy {l:List Deed}{c:Int}(h:Srt l)(hl:∀ y,l.getLast? =some y→y.at_≤c):∀ z∈l,z.at_≤c:=fun z hz=>by
 rcases List.eq_nil_or_concat l with rfl| ⟨l',y,rfl⟩
 ·cases hz
 ·rw[List.concat_eq_append]at h hz hl
  have hy:=hl y (by simp)
  unfold Srt at h
  rw[List.pairwise_append]at h
  rcases List.mem_append.1 hz with hz|hz
  ·exact Int.le_trans (h.2.2 z hz y (by simp)) hy
  ·simp at hz;subst hz;exact hy
theorem Lk {S1 S2:List Deed}{x:Deed}(h:Srt (S1++S2))(h2:∀ y∈S2,x.at_<y.at_)(h1:∀ z∈S1,z.at_≤x.at_):Srt (S1++x::S2):=by
 unfold Srt at h ⊢
 rw[List.pairwise_append]at h ⊢
 refine⟨h.1,List.pairwise_cons.2 ⟨fun y hy=>Int.le_of_lt (h2 y hy),h.2.1⟩,fun z hz y hy=>?_⟩
 rcases List.mem_cons.1 hy with rfl|hy
 ·exact h1 z hz
 ·exact h.2.2 z hz y hy
theorem y_ (A M R:List Deed)(hl:(A++M++R).length<2 ^ 62):
  aN A.length ((A.length+M.length:Nat):Int) (A++M++R)∧
  ∃ M',ax A.length ((A.length+M.length:Nat):Int) (A++M++R)=A++M'++R∧SameF M M'∧Srt M':=by
 have hlen:(A++M++R).length=A.length+M.length+R.length:=by simp[Nat.add_assoc]
 have w0:IntKind.i64.wrap ((A.length:Int)+1)=((A.length+1:Nat):Int):=by rw[aT (by omega) (by omega)];omega
 have key:okI (aD A.length ((A.length+M.length:Nat):Int) (A++M++R)) (aP A.length ((A.length+M.length:Nat):Int) (A++M++R)) ((A++M++R).length+1) 0 (A++M++R,((A.length+1:Nat):Int))∧
   ∃ r,ak (aD A.length ((A.length+M.length:Nat):Int) (A++M++R)) ((A++M++R).length+1) 0 (A++M++R,((A.length+1:Nat):Int))=.inl r∧∃ M',r=A++M'++R∧SameF M M'∧Srt M':=by
  refine vB (fun s:List Deed×Int=>(((A.length+M.length:Nat):Int) - s.2).toNat) (fun s:List Deed×Int=>(M=[]∧s=(A++M++R,((A.length+1:Nat):Int)))∨∃ S T,s=(A++S++(T++R),((A.length+S.length:Nat):Int))∧SameF M (S++T)∧Srt S∧M.length=S.length+T.length) (fun r=>∃ M',r=A++M'++R∧SameF M M'∧Srt M') ?_ _ _ _ ?_ (by simp only;omega)
  ·rintro k s (⟨rfl,rfl⟩ | ⟨S,T,rfl,hF,hS,hMl⟩)
   ·unfold aP aD
    have e:decide (((A.length+1:Nat):Int) < ((A.length+([]:List Deed).length:Nat):Int))=false:=by rw[decide_eq_false_iff_not];simp only[List.length_nil];omega
    refine⟨fun h=>?_,.inl ⟨_,?_,[],rfl,SameF.refl _,List.Pairwise.nil⟩⟩
    ·rw[e]at h;cases h
    ·simp only[e,cond_false]
   ·cases T with
    |nil=>
     unfold aP aD
     have e:decide (((A.length+S.length:Nat):Int) < ((A.length+M.length:Nat):Int))=false:=by rw[decide_eq_false_iff_not];simp only[List.length_nil]at hMl;omega
     refine⟨fun h=>?_,.inl ⟨A++S++([]++R),?_,S,by simp,by simpa using hF,hS⟩⟩
     ·rw[e]at h;cases h
     ·simp only[e,cond_false]
    |cons x T=>
     simp only[List.length_cons]at hMl
     have e:decide (((A.length+S.length:Nat):Int) < ((A.length+M.length:Nat):Int))=true:=by rw[decide_eq_true_eq];omega
     have hl2:(A++S++x::(T++R)).length=(A++M++R).length:=by simp;omega
     obtain⟨i1,r,i2,S1,S2,rfl,rfl,i3,i4⟩:=Gi A S (T++R) x (A++M++R) (by omega) hl2
     have hS1:Srt S1:=(List.pairwise_append.1 hS).1
     have w:IntKind.i64.wrap (((A.length+(S1++S2).length:Nat):Int)+1)=((A.length+(S1++x::S2).length:Nat):Int):=by
      rw[aT (by omega) (by simp only[List.length_append]at *;omega)];simp only[List.length_append,List.length_cons];omega
     unfold aP aD
     refine⟨fun _=>⟨i1,u6 (Q:=fun _=>True) ⟨_,i2,trivial⟩⟩,.inr ⟨_,?_,?_,.inr ⟨S1++x::S2,T,rfl,?_,Lk hS i3 (Iy hS1 i4),by simp only[List.length_append,List.length_cons]at *;omega⟩⟩⟩
     ·simp only[e,cond_true,List.cons_append]
      rw[i2]
      simp only[w]
      simp
     ·simp only[List.length_append,List.length_cons]at *;omega
     ·refine hF.trans ?_
      have h0:SameF (S2++[x]) ([x]++S2):=SameF.swap fun y hy z hz=>by simp at hz;subst hz;have:=i3 y hy;omega
      have:=((SameF.refl S1).app h0).app (SameF.refl T)
      simpa using this
  ·cases M with
   |nil=>exact .inl ⟨rfl,rfl⟩
   |cons x T=>exact .inr ⟨[x],T,by simp,by simpa using SameF.refl _,List.pairwise_singleton _ _,by simp;omega⟩
 obtain⟨k1,r,k2,M',rfl,k3,k4⟩:=key
 unfold aN ax
 rw[w0]
 refine⟨⟨k1,u6 (Q:=fun _=>True) ⟨_,k2,trivial⟩⟩,M',?_,k3,k4⟩
 rw[k2]
end Go.Sx
end
section
namespace Go.Sx
open Go.Proofs
theorem Ar (A X B Y C:List Deed)(hxy:X.length=Y.length)(hl:(A++X++B++Y++C).length<2 ^ 62):
  aO A.length ((A.length+X.length+B.length:Nat):Int) X.length (A++X++B++Y++C)∧
  aR A.length ((A.length+X.length+B.length:Nat):Int) X.length (A++X++B++Y++C)=A++Y++B++X++C:=by
 have hlen:(A++X++B++Y++C).length=A.length+X.length+B.length+Y.length+C.length:=by simp[Nat.add_assoc]
 have step:∀ j s,0≤j→j<0+Int.toNat (X.length:Int)→(∃ X1 X2 Y1 Y2,X=X1++X2∧Y=Y1++Y2∧X1.length=j∧Y1.length=j∧s=A++Y1++X2++B++X1++Y2++C)→
   bW A.length ((A.length+X.length+B.length:Nat):Int) X.length j s∧∀ s',bD A.length ((A.length+X.length+B.length:Nat):Int) X.length j s=.inr s'→∃ X1 X2 Y1 Y2,X=X1++X2∧Y=Y1++Y2∧X1.length=j+1∧Y1.length=j+1∧s'=A++Y1++X2++B++X1++Y2++C:=by
  rintro j s _ hj ⟨X1,X2,Y1,Y2,hX,hY,h1,h2,rfl⟩
  rw[Int.toNat_natCast,Nat.zero_add]at hj
  have l1:X.length=X1.length+X2.length:=by rw[hX,List.length_append]
  have l2:Y.length=Y1.length+Y2.length:=by rw[hY,List.length_append]
  match X2,Y2,l1,l2,hX,hY with
  | [],_,l1,_,_,_=>simp at l1;omega
  |_::_,[],_,l2,_,_=>simp at l2;omega
  |x::X2,y::Y2,l1,l2,hX,hY=>
   simp only[List.length_cons]at l1 l2
   have w1:IntKind.i64.wrap ((A.length:Int)+(j:Int))=((A.length+j:Nat):Int):=by rw[aT (by omega) (by omega)];omega
   have w2:IntKind.i64.wrap (((A.length+X.length+B.length:Nat):Int)+(j:Int))=((A.length+X.length+B.length+j:Nat):Int):=by rw[aT (by omega) (by omega)];omega
   have r1:A++Y1++x::X2++B++X1++y::Y2++C=(A++Y1)++x::(X2++B++X1++y::(Y2++C)):=by simp
   have r2:A++Y1++x::X2++B++X1++y::Y2++C=(A++Y1++x::X2++B++X1)++y::(Y2++C):=by simp
   have g1:(A++Y1++x::X2++B++X1++y::Y2++C).getD (A.length+j) default=x:=by rw[r1];exact kC _ _ _ _ (by simp;omega)
   have g2:(A++Y1++x::X2++B++X1++y::Y2++C).getD (A.length+X.length+B.length+j) default=y:=by rw[r2];exact kC _ _ _ _ (by simp;omega)
   have hL:(A++Y1++x::X2++B++X1++y::Y2++C).length=A.length+X.length+B.length+Y.length+C.length:=by simp;omega
   unfold bW bD
   simp only[w1,w2,Int.toNat_natCast,g1,g2,List.length_set,hL]
   refine⟨by omega,fun s' e=>?_⟩
   cases e
   refine⟨X1++[x],X2,Y1++[y],Y2,by rw[hX];simp,by rw[hY];simp,by simp[h1],by simp[h2],?_⟩
   rw[r1,pe (A++Y1) x y _ (by simp;omega)]
   have r3:A++Y1++y::(X2++B++X1++y::(Y2++C))=(A++Y1++y::X2++B++X1)++y::(Y2++C):=by simp
   rw[r3,pe _ y x _ (by simp;omega)]
   simp
 have h0:∃ X1 X2 Y1 Y2,X=X1++X2∧Y=Y1++Y2∧X1.length=0∧Y1.length=0∧A++X++B++Y++C=A++Y1++X2++B++X1++Y2++C:=⟨[],X,[],Y,rfl,rfl,rfl,rfl,by simp⟩
 have hJ:=wY (fun k s=>∃ X1 X2 Y1 Y2,X=X1++X2∧Y=Y1++Y2∧X1.length=k∧Y1.length=k∧s=A++Y1++X2++B++X1++Y2++C) (Int.toNat (X.length:Int)) 0 _ h0 (fun j s a b c=>(step j s a b c).2)
 unfold aO aR
 refine⟨⟨by omega,kf (fun k s=>∃ X1 X2 Y1 Y2,X=X1++X2∧Y=Y1++Y2∧X1.length=k∧Y1.length=k∧s=A++Y1++X2++B++X1++Y2++C) _ 0 _ h0 step⟩,?_⟩
 cases hr:ak (bD A.length ((A.length+X.length+B.length:Nat):Int) X.length) (Int.toNat (X.length:Int)) 0 (A++X++B++Y++C)with
 |inl x=>exact x.elim
 |inr r=>
  obtain⟨X1,X2,Y1,Y2,rfl,rfl,h1,h2,rfl⟩:=hJ r hr
  rw[Int.toNat_natCast,Nat.zero_add]at h1 h2
  have e1:X2=[]:=List.eq_nil_of_length_eq_zero (by rw[List.length_append]at h1;omega)
  have e2:Y2=[]:=List.eq_nil_of_length_eq_zero (by rw[hxy,List.length_append]at h2;omega)
  subst e1;subst e2
  simp
end Go.Sx
end
