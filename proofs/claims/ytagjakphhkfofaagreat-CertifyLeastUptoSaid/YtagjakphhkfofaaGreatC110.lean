/- Part of the proof that the law CertifyLeast returns true and leaves its arguments as they were, for all arguments of bulk at most 1048576 (the Upto form). -/
import Derived.Test.YtagjakphhkfofaaGreatC109
import Derived.Test.YtagjakphhkfofaaGreatC107
set_option linter.all false
section
namespace Go.Sx
open Go.Proofs
set_option maxRecDepth 100000
set_option linter.unusedSimpArgs false
theorem zH {p : Prop} (h : p:=by (first | done | (repeat' (first | with_reducible refine And.intro ?_ ?_ | ((with_reducible show _≠_);first | assumption | omega | (simp_all [am,aC];done) | grind) | with_reducible intro _)) <;> (first | done | exact Empty.elim ‹Empty› | assumption | rfl | omega | decide | exact fk [0,1,2,6,8] | exact fk [0,1,2,3,4] | (simp only [*,cond_true,cond_false,Bool.not_true,Bool.not_false,go_sem,Nat.reduceBEq,Nat.reduceLeDiff,Nat.reduceLT,decide_true,Nat.reduceAdd,Nat.reduceSub,Nat.reduceMul,Int.reduceLE,Int.reduceLT,Int.reduceToNat,Int.reduceNeg,reduceCtorEq];done) | (simp only [*,cond_true,cond_false,Bool.not_true,Bool.not_false,go_sem,Nat.reduceBEq,Nat.reduceLeDiff,Nat.reduceLT,decide_true,Nat.reduceAdd,Nat.reduceSub,Nat.reduceMul,Int.reduceLE,Int.reduceLT,Int.reduceToNat,Int.reduceNeg,reduceCtorEq];(repeat' (first | with_reducible refine And.intro ?_ ?_ | ((with_reducible show _≠_);first | assumption | omega | (simp_all [am,aC];done) | grind) | with_reducible intro _)) <;> (first | done | assumption | rfl | omega | decide | exact fk [0,1,2,6,8] | exact fk [0,1,2,3,4] | (simp_all [am,aC];done))) | (simp_all [okI,am,aC];done) | (simp_all [am,aC];(first | done | exact fk2 [0,1,2,6,8] | exact fk2 [0,1,2,3,4])) | exact fk2 [0,1,2,6,8] | exact fk2 [0,1,2,3,4] | (simp_all only [am,aC,cond_true,cond_false];(first | done | exact fk [0,1,2,6,8] | exact fk [0,1,2,3,4] | exact fk2 [0,1,2,6,8] | exact fk2 [0,1,2,3,4] | (simp only [go_sem,Nat.reduceBEq,Nat.reduceLeDiff,Nat.reduceLT,decide_true,Nat.reduceAdd,Nat.reduceSub,Nat.reduceMul,Int.reduceLE,Int.reduceLT,Int.reduceToNat,Int.reduceNeg,reduceCtorEq];((repeat' (first | with_reducible refine And.intro ?_ ?_ | ((with_reducible show _≠_);first | assumption | omega | (simp_all [am,aC];done) | grind) | with_reducible intro _)) <;> (first | done | rfl | exact fk [0,1,2,6,8] | exact fk [0,1,2,3,4] | exact fk2 [0,1,2,6,8] | exact fk2 [0,1,2,3,4])))))))) : p:=h
theorem zI {p : Prop} (h : p:=by (first | done | (repeat' (first | with_reducible refine And.intro ?_ ?_ | ((with_reducible show _≠_);first | assumption | omega | (simp_all [am,aC];done) | grind) | with_reducible intro _)) <;> (first | done | exact Empty.elim ‹Empty› | assumption | rfl | omega | decide | exact fk [0,1,2,3,4] | (simp only [*,cond_true,cond_false,Bool.not_true,Bool.not_false,go_sem,Nat.reduceBEq,Nat.reduceLeDiff,Nat.reduceLT,decide_true,Nat.reduceAdd,Nat.reduceSub,Nat.reduceMul,Int.reduceLE,Int.reduceLT,Int.reduceToNat,Int.reduceNeg,reduceCtorEq];done) | (simp only [*,cond_true,cond_false,Bool.not_true,Bool.not_false,go_sem,Nat.reduceBEq,Nat.reduceLeDiff,Nat.reduceLT,decide_true,Nat.reduceAdd,Nat.reduceSub,Nat.reduceMul,Int.reduceLE,Int.reduceLT,Int.reduceToNat,Int.reduceNeg,reduceCtorEq];(repeat' (first | with_reducible refine And.intro ?_ ?_ | ((with_reducible show _≠_);first | assumption | omega | (simp_all [am,aC];done) | grind) | with_reducible intro _)) <;> (first | done | assumption | rfl | omega | decide | exact fk [0,1,2,3,4] | (simp_all [am,aC];done))) | (simp_all [okI,am,aC];done) | (simp_all [am,aC];(first | done | exact fk2 [0,1,2,3,4])) | exact fk2 [0,1,2,3,4] | (simp_all only [am,aC,cond_true,cond_false];(first | done | exact fk [0,1,2,3,4] | exact fk2 [0,1,2,3,4] | (simp only [go_sem,Nat.reduceBEq,Nat.reduceLeDiff,Nat.reduceLT,decide_true,Nat.reduceAdd,Nat.reduceSub,Nat.reduceMul,Int.reduceLE,Int.reduceLT,Int.reduceToNat,Int.reduceNeg,reduceCtorEq];((repeat' (first | with_reducible refine And.intro ?_ ?_ | ((with_reducible show _≠_);first | assumption | omega | (simp_all [am,aC];done) | grind) | with_reducible intro _)) <;> (first | done | rfl | exact fk [0,1,2,3,4] | exact fk2 [0,1,2,3,4])))))))) : p:=h
theorem Iw {p : Prop} (h : p:=by simp only [go_sem,Nat.reduceBEq,Nat.reduceLeDiff,Nat.reduceLT,decide_true,Nat.reduceAdd,Nat.reduceSub,Nat.reduceMul,Int.reduceLE,Int.reduceLT,Int.reduceToNat,Int.reduceNeg,reduceCtorEq,hc,hw];all_goals exact zH) : p:=h
theorem Ix {p : Prop} (h : p:=by simp only [go_sem,Nat.reduceBEq,Nat.reduceLeDiff,Nat.reduceLT,decide_true,Nat.reduceAdd,Nat.reduceSub,Nat.reduceMul,Int.reduceLE,Int.reduceLT,Int.reduceToNat,Int.reduceNeg,reduceCtorEq,hc];all_goals exact zH) : p:=h
theorem uC {p : Prop} (h : p:=by simp only [go_sem,Nat.reduceBEq,Nat.reduceLeDiff,Nat.reduceLT,decide_true,Nat.reduceAdd,Nat.reduceSub,Nat.reduceMul,Int.reduceLE,Int.reduceLT,Int.reduceToNat,Int.reduceNeg,reduceCtorEq,hc,hw];all_goals exact zI) : p:=h
theorem uD {p : Prop} (h : p:=by simp only [go_sem,Nat.reduceBEq,Nat.reduceLeDiff,Nat.reduceLT,decide_true,Nat.reduceAdd,Nat.reduceSub,Nat.reduceMul,Int.reduceLE,Int.reduceLT,Int.reduceToNat,Int.reduceNeg,reduceCtorEq,hc];all_goals exact zI) : p:=h
@[go_sem] def ax (a0 : District) (k_0 : Nat) (s_0 : List (List Int)×List (List Int)) : Empty⊕(List (List Int)×List (List Int)) := .inr ((s_0.1 ++ [(List.replicate (Int.toNat (IntKind.i64.wrap (a0.hours + 1))) (0 : Int))]),(s_0.2 ++ [(List.replicate (Int.toNat a0.hours) (0 : Int))]))
def eF (a0 : District) (k_0 : Nat) (s_0 : List (List Int)×List (List Int)) : Prop:=(((IntKind.i64.wrap (a0.hours + 1))=(IntKind.i64.wrap (a0.hours + 1))∧0≤(IntKind.i64.wrap (a0.hours + 1))∧(IntKind.i64.wrap (a0.hours + 1)) * ((8 : Nat) : Int)≤((ja : Nat) : Int))∧((IntKind.i64.wrap (a0.hours + 1))≤((bC : Nat) : Int)→(((s_0.1 ++ [(List.replicate (Int.toNat (IntKind.i64.wrap (a0.hours + 1))) (0 : Int))]).length * 24≤ja)∧((s_0.1 ++ [(List.replicate (Int.toNat (IntKind.i64.wrap (a0.hours + 1))) (0 : Int))]).length≤bC→((a0.hours=a0.hours∧0≤a0.hours∧a0.hours * ((8 : Nat) : Int)≤((ja : Nat) : Int))∧(a0.hours≤((bC : Nat) : Int)→((s_0.2 ++ [(List.replicate (Int.toNat a0.hours) (0 : Int))]).length * 24≤ja)))))))
@[go_sem] def aP (a0 : District) (a1 : List Order) (k_1 : Nat) (s_1 : List (CertifyPlace×Int)×List (List Int)×List (List Int)) : Empty⊕(List (CertifyPlace×Int)×List (List Int)×List (List Int)) :=(bif (a1.getD k_1 (default : Order)).outlet then (bif (decide ((a0.farms.getD (Int.toNat ((a1.getD k_1 (default : Order)).index)) (default : Farm)).reach≥0)) then .inr ((c7 .certifyPlace .int s_1.1 ({ hour:=(a1.getD k_1 (default : Order)).hour,index:=(a1.getD k_1 (default : Order)).index,outlet:=(a1.getD k_1 (default : Order)).outlet} : CertifyPlace) ((a1.getD k_1 (default : Order)).litres)),(s_1.2.1.set (Int.toNat ((a0.farms.getD (Int.toNat ((a1.getD k_1 (default : Order)).index)) (default : Farm)).reach)) ((s_1.2.1.getD (Int.toNat ((a0.farms.getD (Int.toNat ((a1.getD k_1 (default : Order)).index)) (default : Farm)).reach)) []).set (Int.toNat ((a1.getD k_1 (default : Order)).hour)) (IntKind.i64.wrap (((s_1.2.1.getD (Int.toNat ((a0.farms.getD (Int.toNat ((a1.getD k_1 (default : Order)).index)) (default : Farm)).reach)) []).getD (Int.toNat ((a1.getD k_1 (default : Order)).hour)) (0 : Int)) + (a1.getD k_1 (default : Order)).litres)))),s_1.2.2) else .inr ((c7 .certifyPlace .int s_1.1 ({ hour:=(a1.getD k_1 (default : Order)).hour,index:=(a1.getD k_1 (default : Order)).index,outlet:=(a1.getD k_1 (default : Order)).outlet} : CertifyPlace) ((a1.getD k_1 (default : Order)).litres)),s_1.2.1,s_1.2.2)) else (bif (decide ((a0.reaches.getD (Int.toNat ((a1.getD k_1 (default : Order)).index)) (default : Reach)).up≥0)) then .inr ((c7 .certifyPlace .int s_1.1 ({ hour:=(a1.getD k_1 (default : Order)).hour,index:=(a1.getD k_1 (default : Order)).index,outlet:=(a1.getD k_1 (default : Order)).outlet} : CertifyPlace) ((a1.getD k_1 (default : Order)).litres)),(s_1.2.1.set (Int.toNat ((a0.reaches.getD (Int.toNat ((a1.getD k_1 (default : Order)).index)) (default : Reach)).up)) ((s_1.2.1.getD (Int.toNat ((a0.reaches.getD (Int.toNat ((a1.getD k_1 (default : Order)).index)) (default : Reach)).up)) []).set (Int.toNat ((a1.getD k_1 (default : Order)).hour)) (IntKind.i64.wrap (((s_1.2.1.getD (Int.toNat ((a0.reaches.getD (Int.toNat ((a1.getD k_1 (default : Order)).index)) (default : Reach)).up)) []).getD (Int.toNat ((a1.getD k_1 (default : Order)).hour)) (0 : Int)) + (a1.getD k_1 (default : Order)).litres)))),(s_1.2.2.set (Int.toNat ((a1.getD k_1 (default : Order)).index)) ((s_1.2.2.getD (Int.toNat ((a1.getD k_1 (default : Order)).index)) []).set (Int.toNat (IntKind.i64.wrap ((a1.getD k_1 (default : Order)).hour + 1))) (a1.getD k_1 (default : Order)).litres))) else .inr ((c7 .certifyPlace .int s_1.1 ({ hour:=(a1.getD k_1 (default : Order)).hour,index:=(a1.getD k_1 (default : Order)).index,outlet:=(a1.getD k_1 (default : Order)).outlet} : CertifyPlace) ((a1.getD k_1 (default : Order)).litres)),s_1.2.1,(s_1.2.2.set (Int.toNat ((a1.getD k_1 (default : Order)).index)) ((s_1.2.2.getD (Int.toNat ((a1.getD k_1 (default : Order)).index)) []).set (Int.toNat (IntKind.i64.wrap ((a1.getD k_1 (default : Order)).hour + 1))) (a1.getD k_1 (default : Order)).litres)))))
def eG (a0 : District) (a1 : List Order) (k_1 : Nat) (s_1 : List (CertifyPlace×Int)×List (List Int)×List (List Int)) : Prop:=(((a1.getD k_1 (default : Order)).outlet=true→((0≤(a1.getD k_1 (default : Order)).index∧(a1.getD k_1 (default : Order)).index < (a0.farms.length : Int))∧((decide ((a0.farms.getD (Int.toNat ((a1.getD k_1 (default : Order)).index)) (default : Farm)).reach≥0))=true→((0≤(a0.farms.getD (Int.toNat ((a1.getD k_1 (default : Order)).index)) (default : Farm)).reach∧(a0.farms.getD (Int.toNat ((a1.getD k_1 (default : Order)).index)) (default : Farm)).reach < (s_1.2.1.length : Int))∧((0≤(a1.getD k_1 (default : Order)).hour∧(a1.getD k_1 (default : Order)).hour < ((s_1.2.1.getD (Int.toNat ((a0.farms.getD (Int.toNat ((a1.getD k_1 (default : Order)).index)) (default : Farm)).reach)) []).length : Int))∧(0≤(a1.getD k_1 (default : Order)).hour∧(a1.getD k_1 (default : Order)).hour < ((s_1.2.1.getD (Int.toNat ((a0.farms.getD (Int.toNat ((a1.getD k_1 (default : Order)).index)) (default : Farm)).reach)) []).length : Int)))))))∧((a1.getD k_1 (default : Order)).outlet=false→((0≤(a1.getD k_1 (default : Order)).index∧(a1.getD k_1 (default : Order)).index < (a0.reaches.length : Int))∧((0≤(a1.getD k_1 (default : Order)).index∧(a1.getD k_1 (default : Order)).index < (s_1.2.2.length : Int))∧((0≤(IntKind.i64.wrap ((a1.getD k_1 (default : Order)).hour + 1))∧(IntKind.i64.wrap ((a1.getD k_1 (default : Order)).hour + 1)) < ((s_1.2.2.getD (Int.toNat ((a1.getD k_1 (default : Order)).index)) []).length : Int))∧((decide ((a0.reaches.getD (Int.toNat ((a1.getD k_1 (default : Order)).index)) (default : Reach)).up≥0))=true→((0≤(a0.reaches.getD (Int.toNat ((a1.getD k_1 (default : Order)).index)) (default : Reach)).up∧(a0.reaches.getD (Int.toNat ((a1.getD k_1 (default : Order)).index)) (default : Reach)).up < (s_1.2.1.length : Int))∧((0≤(a1.getD k_1 (default : Order)).hour∧(a1.getD k_1 (default : Order)).hour < ((s_1.2.1.getD (Int.toNat ((a0.reaches.getD (Int.toNat ((a1.getD k_1 (default : Order)).index)) (default : Reach)).up)) []).length : Int))∧(0≤(a1.getD k_1 (default : Order)).hour∧(a1.getD k_1 (default : Order)).hour < ((s_1.2.1.getD (Int.toNat ((a0.reaches.getD (Int.toNat ((a1.getD k_1 (default : Order)).index)) (default : Reach)).up)) []).length : Int))))))))))
@[go_sem] def dY (a0 : District) (k_2 : Nat) (k_3 : Nat) (s_3 : List (List Int)) : Empty⊕(List (List Int)) := .inr (s_3.set k_2 ((s_3.getD k_2 []).set (Int.toNat (IntKind.i64.wrap ((k_3 : Int) + 1))) (IntKind.i64.wrap (((s_3.getD k_2 []).getD (Int.toNat (IntKind.i64.wrap ((k_3 : Int) + 1))) (0 : Int)) + ((s_3.getD k_2 []).getD k_3 (0 : Int))))))
def eH (a0 : District) (k_2 : Nat) (k_3 : Nat) (s_3 : List (List Int)) : Prop:=((0≤(IntKind.i64.wrap ((k_3 : Int) + 1))∧(IntKind.i64.wrap ((k_3 : Int) + 1)) < ((s_3.getD k_2 []).length : Int))∧((0≤(k_3 : Int)∧(k_3 : Int) < ((s_3.getD k_2 []).length : Int))∧(0≤(IntKind.i64.wrap ((k_3 : Int) + 1))∧(IntKind.i64.wrap ((k_3 : Int) + 1)) < ((s_3.getD k_2 []).length : Int))))
@[go_sem] def dy (a0 : District) (s_1 : List (CertifyPlace×Int)×List (List Int)×List (List Int)) (k_2 : Nat) (s_2 : List (List Int)) : Empty⊕(List (List Int)) :=(match ak (dY a0 k_2) (Int.toNat a0.hours) 0 s_2 with | .inl x=> x.elim | .inr s_3=> .inr s_3)
def eI (a0 : District) (s_1 : List (CertifyPlace×Int)×List (List Int)×List (List Int)) (k_2 : Nat) (s_2 : List (List Int)) : Prop:=((0≤(k_2 : Int)∧(k_2 : Int) < (s_2.length : Int))∧((a0.hours < 9223372036854775808)∧okI (dY a0 k_2) (eH a0 k_2) (Int.toNat a0.hours) 0 s_2))
def aj (a0 : District) (a1 : List Order) : CertifyTable×Int:=(bif ((decide ((IntKind.i64.wrap ((a0.reaches.length : Int) * a0.hours)) > 1024)) || (decide ((a1.length : Int) > 4096))) then (({ d:=({ name:=(ByteArray.mk #[]),hours:=0,tank:=({ cap:=0,start:=0} : Tank),reaches:=[],farms:=[],crops:=[],rights:=[],duties:=[],wells:=[]} : District),l:=[],litres:=[],sums:=[],drawn:=[]} : CertifyTable),2) else (bif ((bt a0 a1) !=0) then (({ d:=({ name:=(ByteArray.mk #[]),hours:=0,tank:=({ cap:=0,start:=0} : Tank),reaches:=[],farms:=[],crops:=[],rights:=[],duties:=[],wells:=[]} : District),l:=[],litres:=[],sums:=[],drawn:=[]} : CertifyTable),280) else (match ak (ax a0) a0.reaches.length 0 ([],[]) with | .inl x=> x.elim | .inr s_0=> (match ak (aP a0 a1) a1.length 0 ([],s_0.2,s_0.1) with | .inl x=> x.elim | .inr s_1=> (match ak (dy a0 s_1) s_1.2.2.length 0 s_1.2.2 with | .inl x=> x.elim | .inr s_2=> (({ d:=a0,l:=a1,litres:=s_1.1,sums:=s_2,drawn:=s_1.2.1} : CertifyTable),0))))))
def fT (a0 : District) (a1 : List Order) : Prop:=(a0.reaches.length≤bC→(((decide ((IntKind.i64.wrap ((a0.reaches.length : Int) * a0.hours)) > 1024)) || (decide ((a1.length : Int) > 4096)))=false→((fm a0 a1)∧(((bt a0 a1) !=0)=false→(a0.reaches.length≤bC→(okI (ax a0) (eF a0) a0.reaches.length 0 ([],[])∧(∀ s_0,ak (ax a0) a0.reaches.length 0 ([],[])= .inr s_0→(a1.length≤bC→(okI (aP a0 a1) (eG a0 a1) a1.length 0 ([],s_0.2,s_0.1)∧(∀ s_1,ak (aP a0 a1) a1.length 0 ([],s_0.2,s_0.1)= .inr s_1→(s_1.2.2.length≤bC→okI (dy a0 s_1) (eI a0 s_1) s_1.2.2.length 0 s_1.2.2)))))))))))
@[go_sem] def kw : List SV→Option Con:=(pD .district fun a0=> (pR .order fun a1=> (pE (.det (fT a0 a1) (.tup [.agg (cellsOf .certifyTable ((aj a0 a1).1)),.v (.int .i64 ((aj a0 a1).2))])))))
set_option maxHeartbeats 4000000 in
theorem mL : FnOk Tryz.prog 84 kw:=by
 have hG : ConsOk Tryz.prog (mkG [(25,fun l=> jy (dw [.st .district,.sl .order] l))] []) :=aN (cgc (lO.norm [.st .district,.sl .order]) cg0) cg0
 refine a_ [.st .certifyTable,.o] mixed aD hG (fn:=Tryz.f84) (c:=ag Tryz.f84) (by kernel_rfl) (by kernel_rfl) (by kernel_rfl) (by kernel_rfl) (bL fun a0=> (df fun a1=> (aV (fun hp=> ?_))))
 dsimp only [aZ] at hp
 unfold fT at hp
 refine ⟨Nat.le_of_ble_eq_true rfl,(fun id st=> bif Nat.beq id 0 then some (LCR (ρ:=Empty) (σ:=(List (List Int)×List (List Int))) 3 [.cell 1 12 (.grid .int ([])),.cell 1 13 (.grid .int ([]))] [0,1,2,3,4] (fun k_0 s_0=> ⟨[(1,.rs .order a1),(2,.ptr 0 0),(4,.ptr 1 0),(36,.v (.int .i64 (a0.reaches.length : Int))),(37,.v (.int .i64 (k_0 : Int)))],[.cells (cellsOf .district a0),.cells [.v (.string a0.name),.v (.int .i64 a0.hours),.v (.int .i64 a0.tank.cap),.v (.int .i64 a0.tank.start),.rs .reach a0.reaches,.rs .farm a0.farms,.rs .crop a0.crops,.rs .right a0.rights,.rs .duty a0.duties,.rs .well a0.wells,.rs .order a1,.os 2,.os 3,.os 4],.mp .certifyPlace .int ([]) none,.grid .int s_0.1,.grid .int s_0.2]⟩) (ax a0) (eF a0) a0.reaches.length ([],[]) (a0.reaches.length≤bC) ((·.elim)) ((·.elim)) st) else bif Nat.beq id 2 then some (LCR (ρ:=Empty) (σ:=(List (CertifyPlace×Int)×List (List Int)×List (List Int))) 5 [] [0,1,2,3,4] (fun k_1 s_1=> ⟨[(2,.ptr 0 0),(4,.ptr 1 0),(57,.rs .order a1),(58,.v (.int .i64 (a1.length : Int))),(59,.v (.int .i64 (k_1 : Int)))],[.cells (cellsOf .district a0),.cells [.v (.string a0.name),.v (.int .i64 a0.hours),.v (.int .i64 a0.tank.cap),.v (.int .i64 a0.tank.start),.rs .reach a0.reaches,.rs .farm a0.farms,.rs .crop a0.crops,.rs .right a0.rights,.rs .duty a0.duties,.rs .well a0.wells,.rs .order a1,.os 2,.os 3,.os 4],.mp .certifyPlace .int s_1.1 none,.grid .int s_1.2.2,.grid .int s_1.2.1]⟩) (aP a0 a1) (eG a0 a1) a1.length ([],(am (ak (ax a0) a0.reaches.length 0 ([],[]))).2,(am (ak (ax a0) a0.reaches.length 0 ([],[]))).1) (a1.length≤bC) ((·.elim)) ((·.elim)) st) else bif Nat.beq id 4 then some (LCR (ρ:=Empty) (σ:=(List (List Int))) 5 [] [0,1,2,3,4] (fun k_2 s_2=> ⟨[(2,.ptr 0 0),(4,.ptr 1 0),(119,.os 3),(120,.v (.int .i64 ((am (ak (aP a0 a1) a1.length 0 ([],(am (ak (ax a0) a0.reaches.length 0 ([],[]))).2,(am (ak (ax a0) a0.reaches.length 0 ([],[]))).1))).2.2.length : Int))),(121,.v (.int .i64 (k_2 : Int)))],[.cells (cellsOf .district a0),.cells [.v (.string a0.name),.v (.int .i64 a0.hours),.v (.int .i64 a0.tank.cap),.v (.int .i64 a0.tank.start),.rs .reach a0.reaches,.rs .farm a0.farms,.rs .crop a0.crops,.rs .right a0.rights,.rs .duty a0.duties,.rs .well a0.wells,.rs .order a1,.os 2,.os 3,.os 4],.mp .certifyPlace .int (am (ak (aP a0 a1) a1.length 0 ([],(am (ak (ax a0) a0.reaches.length 0 ([],[]))).2,(am (ak (ax a0) a0.reaches.length 0 ([],[]))).1))).1 none,.grid .int s_2,.grid .int (am (ak (aP a0 a1) a1.length 0 ([],(am (ak (ax a0) a0.reaches.length 0 ([],[]))).2,(am (ak (ax a0) a0.reaches.length 0 ([],[]))).1))).2.1]⟩) (dy a0 (am (ak (aP a0 a1) a1.length 0 ([],(am (ak (ax a0) a0.reaches.length 0 ([],[]))).2,(am (ak (ax a0) a0.reaches.length 0 ([],[]))).1)))) (eI a0 (am (ak (aP a0 a1) a1.length 0 ([],(am (ak (ax a0) a0.reaches.length 0 ([],[]))).2,(am (ak (ax a0) a0.reaches.length 0 ([],[]))).1)))) ((am (ak (aP a0 a1) a1.length 0 ([],(am (ak (ax a0) a0.reaches.length 0 ([],[]))).2,(am (ak (ax a0) a0.reaches.length 0 ([],[]))).1))).2.2.length) ((am (ak (aP a0 a1) a1.length 0 ([],(am (ak (ax a0) a0.reaches.length 0 ([],[]))).2,(am (ak (ax a0) a0.reaches.length 0 ([],[]))).1))).2.2) ((am (ak (aP a0 a1) a1.length 0 ([],(am (ak (ax a0) a0.reaches.length 0 ([],[]))).2,(am (ak (ax a0) a0.reaches.length 0 ([],[]))).1))).2.2.length≤bC) ((·.elim)) ((·.elim)) st) else none),?_,?_⟩
 ·unfold ag Tryz.f84
  simp only [aw,true_and,and_true]
  refine ⟨?_,?_,?_⟩
  ·refine bY mixed aD hG (by kernel_rfl) (fun _=> rfl) (a0.reaches.length : Int) rfl jm (fun hb0 k_0 s_0 hlt0 hq0 hw hc=> ⟨L0,av _,?_⟩) (fun hb0 s_0 hc=> ?_)
   ·unfold eF at hq0
    try simp only [hw,Int.toNat_natCast] at hq0
    exact Iw
   ·exact Ix
  ·refine bY mixed aD hG (by kernel_rfl) (fun _=> rfl) (a1.length : Int) rfl jm (fun hb1 k_1 s_1 hlt1 hq1 hw hc=> ⟨L0,av _,?_⟩) (fun hb1 s_1 hc=> ?_)
   ·unfold eG at hq1
    try simp only [hw,Int.toNat_natCast] at hq1
    exact uC
   ·exact uD
  ·refine bY mixed aD hG (by kernel_rfl) (fun _=> rfl) ((am (ak (aP a0 a1) a1.length 0 ([],(am (ak (ax a0) a0.reaches.length 0 ([],[]))).2,(am (ak (ax a0) a0.reaches.length 0 ([],[]))).1))).2.2.length : Int) rfl jm (fun hb2 k_2 s_2 hlt2 hq2 hw hc=> ⟨(fun id st=> bif Nat.beq id 6 then some (LCR (ρ:=Empty) (σ:=(List (List Int))) 5 [] [0,1,2,3,4] (fun k_3 s_3=> ⟨[(2,.ptr 0 0),(4,.ptr 1 0),(10,.gr 3 (k_2 : Int)),(119,.os 3),(120,.v (.int .i64 ((am (ak (aP a0 a1) a1.length 0 ([],(am (ak (ax a0) a0.reaches.length 0 ([],[]))).2,(am (ak (ax a0) a0.reaches.length 0 ([],[]))).1))).2.2.length : Int))),(121,.v (.int .i64 (k_2 : Int))),(126,.v (.int .i64 a0.hours)),(127,.v (.int .i64 (k_3 : Int)))],[.cells (cellsOf .district a0),.cells [.v (.string a0.name),.v (.int .i64 a0.hours),.v (.int .i64 a0.tank.cap),.v (.int .i64 a0.tank.start),.rs .reach a0.reaches,.rs .farm a0.farms,.rs .crop a0.crops,.rs .right a0.rights,.rs .duty a0.duties,.rs .well a0.wells,.rs .order a1,.os 2,.os 3,.os 4],.mp .certifyPlace .int (am (ak (aP a0 a1) a1.length 0 ([],(am (ak (ax a0) a0.reaches.length 0 ([],[]))).2,(am (ak (ax a0) a0.reaches.length 0 ([],[]))).1))).1 none,.grid .int s_3,.grid .int (am (ak (aP a0 a1) a1.length 0 ([],(am (ak (ax a0) a0.reaches.length 0 ([],[]))).2,(am (ak (ax a0) a0.reaches.length 0 ([],[]))).1))).2.1]⟩) (dY a0 k_2) (eH a0 k_2) (Int.toNat a0.hours) s_2 (a0.hours < 9223372036854775808) ((·.elim)) ((·.elim)) st) else none),?_,?_⟩) (fun hb2 s_2 hc=> ?_)
   ·simp only [aw,true_and,and_true]
    ·refine bY mixed aD hG (by kernel_rfl) (fun _=> rfl) a0.hours rfl id (fun hb3 k_3 s_3 hlt3 hq3 hw hc=> ⟨L0,av _,?_⟩) (fun hb3 s_3 hc=> ?_)
     ·unfold eH at hq3
      try simp only [hw,Int.toNat_natCast] at hq3
      exact uC
     ·exact uD
   ·unfold eI at hq2
    try simp only [hw,Int.toNat_natCast] at hq2
    exact uC
   ·exact uD
 ·unfold ag Tryz.f84
  try unfold aj
  simp only [go_sem,Nat.reduceBEq,Nat.reduceLeDiff,Nat.reduceLT,decide_true,Nat.reduceAdd,Nat.reduceSub,Nat.reduceMul,Int.reduceLE,Int.reduceLT,Int.reduceToNat,Int.reduceNeg,reduceCtorEq]
  all_goals exact cl
end Go.Sx
end
section
namespace Go.Sx
open Go.Proofs
set_option maxRecDepth 100000
set_option linter.unusedSimpArgs false
def aS (t : CertifyTable) : List (Int×Int) :=(List.range t.d.hours.toNat).flatMap fun (h : Nat) => (List.range t.d.reaches.length).map fun (r : Nat) => ((h : Int),(r : Int))
def wv (x : Int×Int) : List SV:=[.i x.1,.i x.2]
theorem nX (R : Nat) (f : Nat→Nat→List SV) : ∀ (H : Nat),((List.range H).flatMap fun h=> (List.range R).map fun r=> f h r).length=H * R
 | 0=> by simp
 | H + 1=> by
  rw [List.range_succ,List.flatMap_append,List.length_append,nX R f H]
  simp [Nat.succ_mul]
theorem zJ (R : Nat) (f : Nat→Nat→List SV) : ∀ (H h r : Nat),h < H→r < R→((List.range H).flatMap fun h=> (List.range R).map fun r=> f h r)[h * R + r]? =some (f h r)
 | 0,_,_,h1,_=> by omega
 | H + 1,h,r,h1,h2=> by
  rw [List.range_succ,List.flatMap_append]
  by_cases hh : h < H
  ·rw [List.getElem?_append_left]
   ·exact zJ R f H h r hh h2
   ·rw [nX]
    calc h * R + r < h * R + R:=by omega
     _=(h + 1) * R:=by rw [Nat.succ_mul]
     _≤H * R:=Nat.mul_le_mul_right R hh
  ·have : h=H:=by omega
   subst this
   rw [List.getElem?_append_right (by rw [nX];omega),nX]
   simp [h2]
theorem xQ (t : CertifyTable) : (aS t).map wv=(List.range t.d.hours.toNat).flatMap fun (h : Nat) => (List.range t.d.reaches.length).map fun (r : Nat) => [SV.i (h : Int),SV.i (r : Int)] :=by
 unfold aS
 rw [List.map_flatMap]
 congr 1
 funext h
 rw [List.map_map]
 rfl
open Classical in
set_option maxHeartbeats 2000000 in
theorem sg (tb : CertifyTable) (hH : tb.d.hours < 9223372036854775808) : xx Tryz.prog 154 (fun y=> [y,.ep (cellsOf .certifyTable tb) 0]) [] ((aS tb).map wv) :=by
 rw [xQ]
 generalize hIt : ((List.range tb.d.hours.toNat).flatMap fun (h : Nat) => (List.range tb.d.reaches.length).map fun (r : Nat) => [SV.i (h : Int),SV.i (r : Int)])=items
 have hlen : items.length=tb.d.hours.toNat * tb.d.reaches.length:=by rw [←hIt];exact nX _ (fun h r=> [SV.i (h : Int),SV.i (r : Int)]) _
 have hget : ∀ h r,h < tb.d.hours.toNat→r < tb.d.reaches.length→items[h * tb.d.reaches.length + r]? =some [.i (h : Int),.i (r : Int)] :=fun h r h1 h2=> by rw [←hIt];exact zJ _ (fun h r=> [SV.i (h : Int),SV.i (r : Int)]) _ h r h1 h2
 clear hIt
 generalize hRe : tb.d.reaches.length=R at hlen hget
 refine B4 (fun r hr hy=> ?_) (fun args w=> by kernel_rfl)
 have hG : ConsOk Tryz.prog (ub [] [] (itY items r)) :=qk (by simp) (by simp) hy
 refine ⟨fun l h=> if l=[.os 0,.ep (cellsOf .certifyTable tb) 0]∧h=[.ab (r 1)] then some { α:=Nat,pre:=True,post:=fun j=> j=0∨j=items.length + 1,res:=fun j=> .ret (.tup []) [.ab (r j)]} else none,
  ?_,_,if_pos ⟨rfl,rfl⟩,trivial,fun j hj=> ⟨_,j,_,rfl,hj⟩⟩
 refine qj mixed aD hG (fn:=Tryz.f154) (c:=ag Tryz.f154) (by kernel_rfl) (by kernel_rfl) (by kernel_rfl) (by kernel_rfl) fun l o con h hp=> ?_
 split at h
 rotate_left
 ·cases h
 rename_i hlo
 obtain ⟨rfl,rfl⟩ :=hlo
 cases h
 have hcl : cellsOf .certifyTable tb=cellsOf .certifyTable tb:=rfl
 refine ⟨Nat.le_of_ble_eq_true rfl,fun id st=> bif Nat.beq id 0 then some { α:=Bool,pre:=lk 0 st.t= .os 0∧lk 1 st.t= .ep (cellsOf .certifyTable tb) 0∧lk 7 st.t= .i tb.d.hours∧lk 8 st.t= .i 0∧st.h=[.ab (r 1)],post:=fun _=> True,ex:=fun b=> bif b then .normal else .ret,out:=fun b=> ⟨[],[.ab (r (bif b then items.length + 1 else 0))]⟩ : LCon} else none,?_,?_⟩
 ·unfold ag Tryz.f154
  simp only [aw,true_and,and_true]
  refine lE mixed aD hG (by kernel_rfl) fun st lc hC hp=> ?_
  simp only [go_sem,Nat.reduceBEq,Option.some.injEq] at hC
  subst hC
  obtain ⟨t,h⟩ :=st
  dsimp only at hp
  obtain ⟨h0,h1,h7,h8,rfl⟩ :=hp
  refine ⟨Nat,fun k=> ⟨[(0,.os 0),(1,.ep (cellsOf .certifyTable tb) 0),(7,.i tb.d.hours),(8,.i (k : Int))],[.ab (r (k * R + 1))]⟩,fun k=> k≤tb.d.hours.toNat,fun k=> tb.d.hours.toNat - k,0,[0],Nat.zero_le _,Nat.le_refl _,?_,?_⟩
  ·simp only [go_sem,h0,h1,h7,h8,Nat.zero_mul,Nat.zero_add,Nat.reduceBEq,Nat.reduceLeDiff,Nat.reduceAdd,true_and,and_true]
   all_goals (first | done | (repeat' (first | refine And.intro ?_ ?_ | rfl | decide)))
  ·intro k hk
   refine ⟨fun id st=> bif Nat.beq id 2 then some { α:=Bool,pre:=lk 0 st.t= .os 0∧lk 1 st.t= .ep (cellsOf .certifyTable tb) 0∧lk 3 st.t= .i (k : Int)∧lk 7 st.t= .i tb.d.hours∧lk 8 st.t= .i (k : Int)∧lk 14 st.t= .i (R : Int)∧lk 15 st.t= .i 0∧st.h=[.ab (r (k * R + 1))]∧k < tb.d.hours.toNat∧R≤bC,post:=fun _=> True,ex:=fun b=> bif b then .normal else .ret,out:=fun b=> ⟨[(0,.os 0),(1,.ep (cellsOf .certifyTable tb) 0),(7,.i tb.d.hours),(8,.i (k : Int))],[.ab (r (bif b then k * R + R + 1 else 0))]⟩ : LCon} else none,_,?_,fun _ _ q=> q,?_⟩
   ·simp only [aw,true_and,and_true]
    refine lE mixed aD hG (by kernel_rfl) fun st lc hC hp=> ?_
    simp only [go_sem,Nat.reduceBEq,Option.some.injEq] at hC
    subst hC
    obtain ⟨t,h⟩ :=st
    dsimp only at hp
    obtain ⟨i0,i1,i3,i7,i8,i14,i15,rfl,hkH,hRL⟩ :=hp
    refine ⟨Nat,fun j=> ⟨[(0,.os 0),(1,.ep (cellsOf .certifyTable tb) 0),(3,.i (k : Int)),(7,.i tb.d.hours),(8,.i (k : Int)),(14,.i (R : Int)),(15,.i (j : Int))],[.ab (r (k * R + j + 1))]⟩,fun j=> j≤R,fun j=> R - j,0,[0],Nat.zero_le _,Nat.le_refl _,?_,?_⟩
    ·simp only [go_sem,i0,i1,i3,i7,i8,i14,i15,Nat.add_zero,Nat.reduceBEq,Nat.reduceLeDiff,Nat.reduceAdd,true_and,and_true]
     all_goals (first | done | (repeat' (first | refine And.intro ?_ ?_ | rfl | decide)))
    ·intro j hj
     refine ⟨L0,_,by simp only [aw,and_self,true_and,and_true],fun _ _ q=> q,?_⟩
     simp only [go_sem,t8 hr,true_imp_iff,Bool.false_eq_true,false_imp_iff,Nat.reduceBEq,Nat.reduceLeDiff,Nat.reduceAdd,Nat.reduceSub,Nat.reduceMul,true_and,and_true,implies_true,reduceCtorEq]
     refine ⟨fun hlt=> ?_,fun hge=> ?_⟩
     ·have hlt' : j < R:=by have:=of_decide_eq_true hlt;omega
      have hw : IntKind.i64.wrap ((j : Int) + 1)=((j + 1 : Nat) : Int) :=Tk hlt' hRL
      refine ⟨hget k j hkH hlt',⟨j + 1,[0],?_⟩,⟨false,[0],?_⟩⟩
      all_goals simp only [go_sem,hw,Nat.reduceBEq,Nat.reduceLeDiff,Nat.reduceAdd,true_and,and_true]
      all_goals (first | done | decide | (repeat' (first | refine And.intro ?_ ?_ | rfl | omega | decide)))
     ·have hge' : j=R:=by have:=of_decide_eq_false hge;omega
      subst hge'
      refine ⟨true,[0],?_⟩
      all_goals simp only [go_sem,Nat.reduceBEq,Nat.reduceLeDiff,Nat.reduceAdd,true_and,and_true]
      all_goals (first | done | decide | (repeat' (first | refine And.intro ?_ ?_ | rfl | omega | decide)))
   ·simp only [go_sem,hRe,true_imp_iff,Bool.false_eq_true,false_imp_iff,Nat.reduceBEq,Nat.reduceLeDiff,Nat.reduceAdd,Nat.reduceSub,Nat.reduceMul,true_and,and_true,implies_true,reduceCtorEq]
    refine ⟨fun hlt hRL=> ?_,fun hge=> ?_⟩
    ·have hlt' : k < tb.d.hours.toNat:=by have:=of_decide_eq_true hlt;omega
     have hw : IntKind.i64.wrap ((k : Int) + 1)=((k + 1 : Nat) : Int) :=y_ hlt' hH
     refine ⟨⟨hlt',hRL⟩,fun b=> ?_⟩
     cases b with
     | true=>
      simp only [go_sem,hw,Nat.reduceBEq,Nat.reduceLeDiff,Nat.reduceAdd,true_and,and_true]
      have e : (k + 1) * R + 1=k * R + R + 1:=by rw [Nat.succ_mul]
      refine ⟨k + 1,[0],?_⟩
      all_goals simp only [go_sem,e,Nat.reduceBEq,Nat.reduceLeDiff,Nat.reduceAdd,true_and,and_true]
      all_goals (first | done | decide | (repeat' (first | refine And.intro ?_ ?_ | rfl | omega | decide)))
     | false=>
      simp only [go_sem,Nat.reduceBEq,Nat.reduceLeDiff,Nat.reduceAdd,true_and,and_true]
      refine ⟨false,[0],?_⟩
      all_goals simp only [go_sem,Nat.reduceBEq,Nat.reduceLeDiff,Nat.reduceAdd,true_and,and_true]
      all_goals (first | done | decide | (repeat' (first | refine And.intro ?_ ?_ | rfl | omega | decide)))
    ·have hge' : k=tb.d.hours.toNat:=by have:=of_decide_eq_false hge;omega
     have e : items.length + 1=k * R + 1:=by rw [hlen,hge']
     refine ⟨true,[0],?_⟩
     all_goals simp only [go_sem,e,Nat.reduceBEq,Nat.reduceLeDiff,Nat.reduceAdd,true_and,and_true]
     all_goals (first | done | decide | (repeat' (first | refine And.intro ?_ ?_ | rfl | omega | decide)))
 ·unfold ag Tryz.f154
  simp only [go_sem,true_imp_iff,Bool.false_eq_true,false_imp_iff,Nat.reduceBEq,Nat.reduceLeDiff,Nat.reduceAdd,Nat.reduceSub,Nat.reduceMul,true_and,and_true,implies_true,reduceCtorEq]
  intro b
  cases b with
  | true=>
   simp only [go_sem]
   exact ⟨items.length + 1,_,_,[0],.inr rfl,rfl,Nat.le_refl 1,by simp only [go_sem,Nat.reduceBEq,Nat.reduceLeDiff,Nat.reduceAdd,true_and,and_true];first | done | decide⟩
  | false=>
   simp only [go_sem]
   exact ⟨0,_,_,[0],.inl rfl,rfl,Nat.le_refl 1,by simp only [go_sem,Nat.reduceBEq,Nat.reduceLeDiff,Nat.reduceAdd,true_and,and_true];first | done | decide⟩
end Go.Sx
end
section
namespace Go.Sx
open Go.Proofs
set_option maxRecDepth 100000
set_option linter.unusedSimpArgs false
def ba : List SV→Option Con:=pD .certifyTable fun t=> pE (.det True (.fn 154 [] [.ep (cellsOf .certifyTable t) 0]))
def cK : List SV→Option Con:=pD .certifyTable fun t=> pI fun k=> pE (.det True (.fn 126 [] [.ep (cellsOf .certifyTable t) 0,.ep [.i k] 0]))
def cL : List SV→Option Con:=pD .certifyTable fun t=> pR .claim fun c=> pE (.det True (.fn 128 [] [.ep [.rs .claim c] 0,.ep (cellsOf .certifyTable t) 0]))
theorem xR {p : Pk} {f : FuncId} {a b : List SV} : pi [p] (.fn f a b)=o7 p (.fn f a b) :=(rfl)
theorem xS {f : FuncId} {a b : List SV} : o7 .o (.fn f a b)= .fn f a b:=(rfl)
theorem iv : FnOk Tryz.prog 127 ba:=by
 have hG : ConsOk Tryz.prog (mkG [] []) :=aN (by simp) (by simp)
 refine a_ [.o] mixed aD hG (fn:=Tryz.f127) (c:=ag Tryz.f127) (by kernel_rfl) (by kernel_rfl) (by kernel_rfl) (by kernel_rfl) fun l con h hp=> ?_
 unfold ba at h
 obtain ⟨t,l0,rfl,h0⟩ :=k9 h
 obtain ⟨rfl,rfl⟩ :=iJ h0
 refine ⟨Nat.le_of_ble_eq_true rfl,L0,by unfold ag Tryz.f127;simp only [aw,and_self],?_⟩
 unfold ag Tryz.f127
 simp only [go_sem,xR,xS,true_imp_iff,Nat.reduceBEq,Nat.reduceLeDiff,Nat.reduceAdd,Nat.reduceSub,Nat.reduceMul,true_and,and_true,implies_true,List.map_cons,List.map_nil]
theorem mq : FnOk Tryz.prog 86 cK:=by
 have hG : ConsOk Tryz.prog (mkG [] []) :=aN (by simp) (by simp)
 refine a_ [.o] mixed aD hG (fn:=Tryz.f86) (c:=ag Tryz.f86) (by kernel_rfl) (by kernel_rfl) (by kernel_rfl) (by kernel_rfl) fun l con h hp=> ?_
 unfold cK at h
 obtain ⟨t,l0,rfl,h0⟩ :=k9 h
 obtain ⟨k,l1,rfl,h1⟩ :=F9 h0
 obtain ⟨rfl,rfl⟩ :=iJ h1
 refine ⟨Nat.le_of_ble_eq_true rfl,L0,by unfold ag Tryz.f86;simp only [aw,and_self],?_⟩
 unfold ag Tryz.f86
 simp only [go_sem,xR,xS,true_imp_iff,Nat.reduceBEq,Nat.reduceLeDiff,Nat.reduceAdd,Nat.reduceSub,Nat.reduceMul,true_and,and_true,implies_true,List.map_cons,List.map_nil]
theorem mr : FnOk Tryz.prog 90 cL:=by
 have hG : ConsOk Tryz.prog (mkG [] []) :=aN (by simp) (by simp)
 refine a_ [.o] mixed aD hG (fn:=Tryz.f90) (c:=ag Tryz.f90) (by kernel_rfl) (by kernel_rfl) (by kernel_rfl) (by kernel_rfl) fun l con h hp=> ?_
 unfold cL at h
 obtain ⟨t,l0,rfl,h0⟩ :=k9 h
 obtain ⟨k,l1,rfl,h1⟩ :=F_ h0
 obtain ⟨rfl,rfl⟩ :=iJ h1
 refine ⟨Nat.le_of_ble_eq_true rfl,L0,by unfold ag Tryz.f90;simp only [aw,and_self],?_⟩
 unfold ag Tryz.f90
 simp only [go_sem,xR,xS,true_imp_iff,Nat.reduceBEq,Nat.reduceLeDiff,Nat.reduceAdd,Nat.reduceSub,Nat.reduceMul,true_and,and_true,implies_true,List.map_cons,List.map_nil]
attribute [go_sem] ba cK cL
end Go.Sx
end
section
namespace Go.Sx
open Go.Proofs
set_option maxRecDepth 100000
set_option linter.unusedSimpArgs false
theorem Iy {p : Prop} (h : p:=by (first | done | (repeat' (first | with_reducible refine And.intro ?_ ?_ | ((with_reducible show _≠_);first | assumption | omega | (simp_all [am,aC];done) | grind) | with_reducible intro _)) <;> (first | done | exact Empty.elim ‹Empty› | assumption | rfl | omega | decide | exact fk [0,1,4] | (simp only [*,cond_true,cond_false,Bool.not_true,Bool.not_false,go_sem,Nat.reduceBEq,Nat.reduceLeDiff,Nat.reduceLT,decide_true,Nat.reduceAdd,Nat.reduceSub,Nat.reduceMul,Int.reduceLE,Int.reduceLT,Int.reduceToNat,Int.reduceNeg,reduceCtorEq];done) | (simp only [*,cond_true,cond_false,Bool.not_true,Bool.not_false,go_sem,Nat.reduceBEq,Nat.reduceLeDiff,Nat.reduceLT,decide_true,Nat.reduceAdd,Nat.reduceSub,Nat.reduceMul,Int.reduceLE,Int.reduceLT,Int.reduceToNat,Int.reduceNeg,reduceCtorEq];(repeat' (first | with_reducible refine And.intro ?_ ?_ | ((with_reducible show _≠_);first | assumption | omega | (simp_all [am,aC];done) | grind) | with_reducible intro _)) <;> (first | done | assumption | rfl | omega | decide | exact fk [0,1,4] | (simp_all [am,aC];done))) | (simp_all [okI,am,aC];done) | (simp_all [am,aC];(first | done | exact fk2 [0,1,4])) | exact fk2 [0,1,4] | (simp_all only [am,aC,cond_true,cond_false];(first | done | exact fk [0,1,4] | exact fk2 [0,1,4] | (simp only [go_sem,Nat.reduceBEq,Nat.reduceLeDiff,Nat.reduceLT,decide_true,Nat.reduceAdd,Nat.reduceSub,Nat.reduceMul,Int.reduceLE,Int.reduceLT,Int.reduceToNat,Int.reduceNeg,reduceCtorEq];((repeat' (first | with_reducible refine And.intro ?_ ?_ | ((with_reducible show _≠_);first | assumption | omega | (simp_all [am,aC];done) | grind) | with_reducible intro _)) <;> (first | done | rfl | exact fk [0,1,4] | exact fk2 [0,1,4])))))))) : p:=h
theorem zK {p : Prop} (h : p:=by (first | done | (repeat' (first | with_reducible refine And.intro ?_ ?_ | ((with_reducible show _≠_);first | assumption | omega | (simp_all [am,aC];done) | grind) | with_reducible intro _)) <;> (first | done | exact Empty.elim ‹Empty› | assumption | rfl | omega | decide | exact fk [0,1,2,3] | exact fk [0,1,2,4] | (simp only [*,cond_true,cond_false,Bool.not_true,Bool.not_false,go_sem,Nat.reduceBEq,Nat.reduceLeDiff,Nat.reduceLT,decide_true,Nat.reduceAdd,Nat.reduceSub,Nat.reduceMul,Int.reduceLE,Int.reduceLT,Int.reduceToNat,Int.reduceNeg,reduceCtorEq];done) | (simp only [*,cond_true,cond_false,Bool.not_true,Bool.not_false,go_sem,Nat.reduceBEq,Nat.reduceLeDiff,Nat.reduceLT,decide_true,Nat.reduceAdd,Nat.reduceSub,Nat.reduceMul,Int.reduceLE,Int.reduceLT,Int.reduceToNat,Int.reduceNeg,reduceCtorEq];(repeat' (first | with_reducible refine And.intro ?_ ?_ | ((with_reducible show _≠_);first | assumption | omega | (simp_all [am,aC];done) | grind) | with_reducible intro _)) <;> (first | done | assumption | rfl | omega | decide | exact fk [0,1,2,3] | exact fk [0,1,2,4] | (simp_all [am,aC];done))) | (simp_all [okI,am,aC];done) | (simp_all [am,aC];(first | done | exact fk2 [0,1,2,3] | exact fk2 [0,1,2,4])) | exact fk2 [0,1,2,3] | exact fk2 [0,1,2,4] | (simp_all only [am,aC,cond_true,cond_false];(first | done | exact fk [0,1,2,3] | exact fk [0,1,2,4] | exact fk2 [0,1,2,3] | exact fk2 [0,1,2,4] | (simp only [go_sem,Nat.reduceBEq,Nat.reduceLeDiff,Nat.reduceLT,decide_true,Nat.reduceAdd,Nat.reduceSub,Nat.reduceMul,Int.reduceLE,Int.reduceLT,Int.reduceToNat,Int.reduceNeg,reduceCtorEq];((repeat' (first | with_reducible refine And.intro ?_ ?_ | ((with_reducible show _≠_);first | assumption | omega | (simp_all [am,aC];done) | grind) | with_reducible intro _)) <;> (first | done | rfl | exact fk [0,1,2,3] | exact fk [0,1,2,4] | exact fk2 [0,1,2,3] | exact fk2 [0,1,2,4])))))))) : p:=h
theorem zL {p : Prop} (h : p:=by (first | done | (repeat' (first | with_reducible refine And.intro ?_ ?_ | ((with_reducible show _≠_);first | assumption | omega | (simp_all [am,aC];done) | grind) | with_reducible intro _)) <;> (first | done | exact Empty.elim ‹Empty› | assumption | rfl | omega | decide | exact fk [0,1,3] | (simp only [*,cond_true,cond_false,Bool.not_true,Bool.not_false,go_sem,Nat.reduceBEq,Nat.reduceLeDiff,Nat.reduceLT,decide_true,Nat.reduceAdd,Nat.reduceSub,Nat.reduceMul,Int.reduceLE,Int.reduceLT,Int.reduceToNat,Int.reduceNeg,reduceCtorEq];done) | (simp only [*,cond_true,cond_false,Bool.not_true,Bool.not_false,go_sem,Nat.reduceBEq,Nat.reduceLeDiff,Nat.reduceLT,decide_true,Nat.reduceAdd,Nat.reduceSub,Nat.reduceMul,Int.reduceLE,Int.reduceLT,Int.reduceToNat,Int.reduceNeg,reduceCtorEq];(repeat' (first | with_reducible refine And.intro ?_ ?_ | ((with_reducible show _≠_);first | assumption | omega | (simp_all [am,aC];done) | grind) | with_reducible intro _)) <;> (first | done | assumption | rfl | omega | decide | exact fk [0,1,3] | (simp_all [am,aC];done))) | (simp_all [okI,am,aC];done) | (simp_all [am,aC];(first | done | exact fk2 [0,1,3])) | exact fk2 [0,1,3] | (simp_all only [am,aC,cond_true,cond_false];(first | done | exact fk [0,1,3] | exact fk2 [0,1,3] | (simp only [go_sem,Nat.reduceBEq,Nat.reduceLeDiff,Nat.reduceLT,decide_true,Nat.reduceAdd,Nat.reduceSub,Nat.reduceMul,Int.reduceLE,Int.reduceLT,Int.reduceToNat,Int.reduceNeg,reduceCtorEq];((repeat' (first | with_reducible refine And.intro ?_ ?_ | ((with_reducible show _≠_);first | assumption | omega | (simp_all [am,aC];done) | grind) | with_reducible intro _)) <;> (first | done | rfl | exact fk [0,1,3] | exact fk2 [0,1,3])))))))) : p:=h
theorem zM {p : Prop} (h : p:=by (first | done | (repeat' (first | with_reducible refine And.intro ?_ ?_ | ((with_reducible show _≠_);first | assumption | omega | (simp_all [am,aC];done) | grind) | with_reducible intro _)) <;> (first | done | exact Empty.elim ‹Empty› | assumption | rfl | omega | decide | exact fk [0,1,2] | exact fk [0,1,5] | (simp only [*,cond_true,cond_false,Bool.not_true,Bool.not_false,go_sem,Nat.reduceBEq,Nat.reduceLeDiff,Nat.reduceLT,decide_true,Nat.reduceAdd,Nat.reduceSub,Nat.reduceMul,Int.reduceLE,Int.reduceLT,Int.reduceToNat,Int.reduceNeg,reduceCtorEq];done) | (simp only [*,cond_true,cond_false,Bool.not_true,Bool.not_false,go_sem,Nat.reduceBEq,Nat.reduceLeDiff,Nat.reduceLT,decide_true,Nat.reduceAdd,Nat.reduceSub,Nat.reduceMul,Int.reduceLE,Int.reduceLT,Int.reduceToNat,Int.reduceNeg,reduceCtorEq];(repeat' (first | with_reducible refine And.intro ?_ ?_ | ((with_reducible show _≠_);first | assumption | omega | (simp_all [am,aC];done) | grind) | with_reducible intro _)) <;> (first | done | assumption | rfl | omega | decide | exact fk [0,1,2] | exact fk [0,1,5] | (simp_all [am,aC];done))) | (simp_all [okI,am,aC];done) | (simp_all [am,aC];(first | done | exact fk2 [0,1,2] | exact fk2 [0,1,5])) | exact fk2 [0,1,2] | exact fk2 [0,1,5] | (simp_all only [am,aC,cond_true,cond_false];(first | done | exact fk [0,1,2] | exact fk [0,1,5] | exact fk2 [0,1,2] | exact fk2 [0,1,5] | (simp only [go_sem,Nat.reduceBEq,Nat.reduceLeDiff,Nat.reduceLT,decide_true,Nat.reduceAdd,Nat.reduceSub,Nat.reduceMul,Int.reduceLE,Int.reduceLT,Int.reduceToNat,Int.reduceNeg,reduceCtorEq];((repeat' (first | with_reducible refine And.intro ?_ ?_ | ((with_reducible show _≠_);first | assumption | omega | (simp_all [am,aC];done) | grind) | with_reducible intro _)) <;> (first | done | rfl | exact fk [0,1,2] | exact fk [0,1,5] | exact fk2 [0,1,2] | exact fk2 [0,1,5])))))))) : p:=h
theorem uE {p : Prop} (h : p:=by (first | done | (repeat' (first | with_reducible refine And.intro ?_ ?_ | ((with_reducible show _≠_);first | assumption | omega | (simp_all [am,aC];done) | grind) | with_reducible intro _)) <;> (first | done | exact Empty.elim ‹Empty› | assumption | rfl | omega | decide | exact fk [0,1,2] | (simp only [*,cond_true,cond_false,Bool.not_true,Bool.not_false,go_sem,Nat.reduceBEq,Nat.reduceLeDiff,Nat.reduceLT,decide_true,Nat.reduceAdd,Nat.reduceSub,Nat.reduceMul,Int.reduceLE,Int.reduceLT,Int.reduceToNat,Int.reduceNeg,reduceCtorEq];done) | (simp only [*,cond_true,cond_false,Bool.not_true,Bool.not_false,go_sem,Nat.reduceBEq,Nat.reduceLeDiff,Nat.reduceLT,decide_true,Nat.reduceAdd,Nat.reduceSub,Nat.reduceMul,Int.reduceLE,Int.reduceLT,Int.reduceToNat,Int.reduceNeg,reduceCtorEq];(repeat' (first | with_reducible refine And.intro ?_ ?_ | ((with_reducible show _≠_);first | assumption | omega | (simp_all [am,aC];done) | grind) | with_reducible intro _)) <;> (first | done | assumption | rfl | omega | decide | exact fk [0,1,2] | (simp_all [am,aC];done))) | (simp_all [okI,am,aC];done) | (simp_all [am,aC];(first | done | exact fk2 [0,1,2])) | exact fk2 [0,1,2] | (simp_all only [am,aC,cond_true,cond_false];(first | done | exact fk [0,1,2] | exact fk2 [0,1,2] | (simp only [go_sem,Nat.reduceBEq,Nat.reduceLeDiff,Nat.reduceLT,decide_true,Nat.reduceAdd,Nat.reduceSub,Nat.reduceMul,Int.reduceLE,Int.reduceLT,Int.reduceToNat,Int.reduceNeg,reduceCtorEq];((repeat' (first | with_reducible refine And.intro ?_ ?_ | ((with_reducible show _≠_);first | assumption | omega | (simp_all [am,aC];done) | grind) | with_reducible intro _)) <;> (first | done | rfl | exact fk [0,1,2] | exact fk2 [0,1,2])))))))) : p:=h
theorem zN {p : Prop} (h : p:=by (first | done | (repeat' (first | with_reducible refine And.intro ?_ ?_ | ((with_reducible show _≠_);first | assumption | omega | (simp_all [am,aC];done) | grind) | with_reducible intro _)) <;> (first | done | exact Empty.elim ‹Empty› | assumption | rfl | omega | decide | exact fk [0,1,2,4] | exact fk [0,1,2,3] | (simp only [*,cond_true,cond_false,Bool.not_true,Bool.not_false,go_sem,Nat.reduceBEq,Nat.reduceLeDiff,Nat.reduceLT,decide_true,Nat.reduceAdd,Nat.reduceSub,Nat.reduceMul,Int.reduceLE,Int.reduceLT,Int.reduceToNat,Int.reduceNeg,reduceCtorEq];done) | (simp only [*,cond_true,cond_false,Bool.not_true,Bool.not_false,go_sem,Nat.reduceBEq,Nat.reduceLeDiff,Nat.reduceLT,decide_true,Nat.reduceAdd,Nat.reduceSub,Nat.reduceMul,Int.reduceLE,Int.reduceLT,Int.reduceToNat,Int.reduceNeg,reduceCtorEq];(repeat' (first | with_reducible refine And.intro ?_ ?_ | ((with_reducible show _≠_);first | assumption | omega | (simp_all [am,aC];done) | grind) | with_reducible intro _)) <;> (first | done | assumption | rfl | omega | decide | exact fk [0,1,2,4] | exact fk [0,1,2,3] | (simp_all [am,aC];done))) | (simp_all [okI,am,aC];done) | (simp_all [am,aC];(first | done | exact fk2 [0,1,2,4] | exact fk2 [0,1,2,3])) | exact fk2 [0,1,2,4] | exact fk2 [0,1,2,3] | (simp_all only [am,aC,cond_true,cond_false];(first | done | exact fk [0,1,2,4] | exact fk [0,1,2,3] | exact fk2 [0,1,2,4] | exact fk2 [0,1,2,3] | (simp only [go_sem,Nat.reduceBEq,Nat.reduceLeDiff,Nat.reduceLT,decide_true,Nat.reduceAdd,Nat.reduceSub,Nat.reduceMul,Int.reduceLE,Int.reduceLT,Int.reduceToNat,Int.reduceNeg,reduceCtorEq];((repeat' (first | with_reducible refine And.intro ?_ ?_ | ((with_reducible show _≠_);first | assumption | omega | (simp_all [am,aC];done) | grind) | with_reducible intro _)) <;> (first | done | rfl | exact fk [0,1,2,4] | exact fk [0,1,2,3] | exact fk2 [0,1,2,4] | exact fk2 [0,1,2,3])))))))) : p:=h
theorem zO {p : Prop} (h : p:=by (first | done | (repeat' (first | with_reducible refine And.intro ?_ ?_ | ((with_reducible show _≠_);first | assumption | omega | (simp_all [am,aC];done) | grind) | with_reducible intro _)) <;> (first | done | exact Empty.elim ‹Empty› | assumption | rfl | omega | decide | exact fk [0,1,2,3,6] | exact fk [0,1,2,3,4] | (simp only [*,cond_true,cond_false,Bool.not_true,Bool.not_false,go_sem,Nat.reduceBEq,Nat.reduceLeDiff,Nat.reduceLT,decide_true,Nat.reduceAdd,Nat.reduceSub,Nat.reduceMul,Int.reduceLE,Int.reduceLT,Int.reduceToNat,Int.reduceNeg,reduceCtorEq];done) | (simp only [*,cond_true,cond_false,Bool.not_true,Bool.not_false,go_sem,Nat.reduceBEq,Nat.reduceLeDiff,Nat.reduceLT,decide_true,Nat.reduceAdd,Nat.reduceSub,Nat.reduceMul,Int.reduceLE,Int.reduceLT,Int.reduceToNat,Int.reduceNeg,reduceCtorEq];(repeat' (first | with_reducible refine And.intro ?_ ?_ | ((with_reducible show _≠_);first | assumption | omega | (simp_all [am,aC];done) | grind) | with_reducible intro _)) <;> (first | done | assumption | rfl | omega | decide | exact fk [0,1,2,3,6] | exact fk [0,1,2,3,4] | (simp_all [am,aC];done))) | (simp_all [okI,am,aC];done) | (simp_all [am,aC];(first | done | exact fk2 [0,1,2,3,6] | exact fk2 [0,1,2,3,4])) | exact fk2 [0,1,2,3,6] | exact fk2 [0,1,2,3,4] | (simp_all only [am,aC,cond_true,cond_false];(first | done | exact fk [0,1,2,3,6] | exact fk [0,1,2,3,4] | exact fk2 [0,1,2,3,6] | exact fk2 [0,1,2,3,4] | (simp only [go_sem,Nat.reduceBEq,Nat.reduceLeDiff,Nat.reduceLT,decide_true,Nat.reduceAdd,Nat.reduceSub,Nat.reduceMul,Int.reduceLE,Int.reduceLT,Int.reduceToNat,Int.reduceNeg,reduceCtorEq];((repeat' (first | with_reducible refine And.intro ?_ ?_ | ((with_reducible show _≠_);first | assumption | omega | (simp_all [am,aC];done) | grind) | with_reducible intro _)) <;> (first | done | rfl | exact fk [0,1,2,3,6] | exact fk [0,1,2,3,4] | exact fk2 [0,1,2,3,6] | exact fk2 [0,1,2,3,4])))))))) : p:=h
theorem Iz {p : Prop} (h : p:=by simp only [go_sem,Nat.reduceBEq,Nat.reduceLeDiff,Nat.reduceLT,decide_true,Nat.reduceAdd,Nat.reduceSub,Nat.reduceMul,Int.reduceLE,Int.reduceLT,Int.reduceToNat,Int.reduceNeg,reduceCtorEq,hc,hw];all_goals exact zK) : p:=h
theorem IA {p : Prop} (h : p:=by simp only [go_sem,Nat.reduceBEq,Nat.reduceLeDiff,Nat.reduceLT,decide_true,Nat.reduceAdd,Nat.reduceSub,Nat.reduceMul,Int.reduceLE,Int.reduceLT,Int.reduceToNat,Int.reduceNeg,reduceCtorEq,hc];all_goals exact zK) : p:=h
theorem IB {p : Prop} (h : p:=by simp only [go_sem,Nat.reduceBEq,Nat.reduceLeDiff,Nat.reduceLT,decide_true,Nat.reduceAdd,Nat.reduceSub,Nat.reduceMul,Int.reduceLE,Int.reduceLT,Int.reduceToNat,Int.reduceNeg,reduceCtorEq,hc,hw];all_goals exact zM) : p:=h
theorem IC {p : Prop} (h : p:=by simp only [go_sem,Nat.reduceBEq,Nat.reduceLeDiff,Nat.reduceLT,decide_true,Nat.reduceAdd,Nat.reduceSub,Nat.reduceMul,Int.reduceLE,Int.reduceLT,Int.reduceToNat,Int.reduceNeg,reduceCtorEq,hc];all_goals exact zM) : p:=h
theorem ID {p : Prop} (h : p:=by simp only [go_sem,Nat.reduceBEq,Nat.reduceLeDiff,Nat.reduceLT,decide_true,Nat.reduceAdd,Nat.reduceSub,Nat.reduceMul,Int.reduceLE,Int.reduceLT,Int.reduceToNat,Int.reduceNeg,reduceCtorEq,hc,hw];all_goals exact uE) : p:=h
theorem IE {p : Prop} (h : p:=by simp only [go_sem,Nat.reduceBEq,Nat.reduceLeDiff,Nat.reduceLT,decide_true,Nat.reduceAdd,Nat.reduceSub,Nat.reduceMul,Int.reduceLE,Int.reduceLT,Int.reduceToNat,Int.reduceNeg,reduceCtorEq,hc];all_goals exact uE) : p:=h
theorem IF {p : Prop} (h : p:=by simp only [go_sem,Nat.reduceBEq,Nat.reduceLeDiff,Nat.reduceLT,decide_true,Nat.reduceAdd,Nat.reduceSub,Nat.reduceMul,Int.reduceLE,Int.reduceLT,Int.reduceToNat,Int.reduceNeg,reduceCtorEq,hc,hw];all_goals exact zN) : p:=h
theorem IG {p : Prop} (h : p:=by simp only [go_sem,Nat.reduceBEq,Nat.reduceLeDiff,Nat.reduceLT,decide_true,Nat.reduceAdd,Nat.reduceSub,Nat.reduceMul,Int.reduceLE,Int.reduceLT,Int.reduceToNat,Int.reduceNeg,reduceCtorEq,hc];all_goals exact zN) : p:=h
theorem IH {p : Prop} (h : p:=by simp only [go_sem,Nat.reduceBEq,Nat.reduceLeDiff,Nat.reduceLT,decide_true,Nat.reduceAdd,Nat.reduceSub,Nat.reduceMul,Int.reduceLE,Int.reduceLT,Int.reduceToNat,Int.reduceNeg,reduceCtorEq,hc,hw];all_goals exact zO) : p:=h
theorem II {p : Prop} (h : p:=by simp only [go_sem,Nat.reduceBEq,Nat.reduceLeDiff,Nat.reduceLT,decide_true,Nat.reduceAdd,Nat.reduceSub,Nat.reduceMul,Int.reduceLE,Int.reduceLT,Int.reduceToNat,Int.reduceNeg,reduceCtorEq,hc];all_goals exact zO) : p:=h
def bA (x : Fault) (l_ : List Fault) : List Fault:=(l_ ++ ([x]))
def bp (x : Fault) (l_ : List Fault) : Prop:=((l_ ++ ([x])).length * 40≤ja)
@[go_sem] noncomputable def c6 : List SV→List Ob→Option HCon:=fun l h=> hCR .fault (fun l_=> (pD .fault fun x=> ((pQ (.ptr 0 0) (pE (rt (bp x l_) (.v (.bool true)) [.cells [.os 2],.dead,.row .fault (bA x l_)]))))) l) h
set_option maxHeartbeats 4000000 in
theorem d3 : FnOkO Tryz.prog 85 c6:=by
 have hG : ConsOk Tryz.prog (mkG [] []) :=aN cg0 cg0
 refine lH mixed aD hG (fn:=Tryz.f85) (c:=ag Tryz.f85) (by kernel_rfl) (by kernel_rfl) (by kernel_rfl) (by kernel_rfl) fun l o con h=> ?_
 unfold c6 at h
 obtain ⟨l_,rfl,h⟩ :=oy h
 obtain ⟨x,r0,rfl,h0⟩ :=k9 h
 obtain ⟨r1,rfl,h1⟩ :=ru h0
 obtain ⟨rfl,rfl⟩ :=iJ h1
 clear h h0 h1
 refine ⟨_,_,_,rfl,fun hp=> ?_⟩
 unfold bp at hp
 refine ⟨Nat.le_of_ble_eq_true rfl,L0,?_,?_⟩
 ·unfold ag Tryz.f85
  simp only [aw,and_self,true_and,and_true]
 ·unfold ag Tryz.f85
  try unfold bA
  simp only [go_sem,Nat.reduceBEq,Nat.reduceLeDiff,Nat.reduceLT,decide_true,Nat.reduceAdd,Nat.reduceSub,Nat.reduceMul,Int.reduceLE,Int.reduceLT,Int.reduceToNat,Int.reduceNeg,reduceCtorEq]
  all_goals exact Iy
@[go_sem] def bZ (t_ : CertifyTable) (l_ : List Fault) (k_0 : Nat) (s_0 : Unit) : (List Fault)⊕Unit:=(bif (decide (((t_.sums.getD 0 (default : List Int)).getD (Int.toNat (IntKind.i64.wrap ((k_0 : Int) + 1))) (0 : Int)) > t_.d.tank.start)) then .inl (bA ({ kind:=4,hour:=(k_0 : Int),index:=0,litres:=((t_.sums.getD 0 (default : List Int)).getD (Int.toNat (IntKind.i64.wrap ((k_0 : Int) + 1))) (0 : Int)),limit:=t_.d.tank.start} : Fault) l_) else .inr ())
def dS (t_ : CertifyTable) (l_ : List Fault) (k_0 : Nat) (s_0 : Unit) : Prop:=((0≤0∧0 < (t_.sums.length : Int))∧((0≤(IntKind.i64.wrap ((k_0 : Int) + 1))∧(IntKind.i64.wrap ((k_0 : Int) + 1)) < ((t_.sums.getD 0 (default : List Int)).length : Int))∧((decide (((t_.sums.getD 0 (default : List Int)).getD (Int.toNat (IntKind.i64.wrap ((k_0 : Int) + 1))) (0 : Int)) > t_.d.tank.start))=true→(bp ({ kind:=4,hour:=(k_0 : Int),index:=0,litres:=((t_.sums.getD 0 (default : List Int)).getD (Int.toNat (IntKind.i64.wrap ((k_0 : Int) + 1))) (0 : Int)),limit:=t_.d.tank.start} : Fault) l_))))
def cB (t_ : CertifyTable) (l_ : List Fault) : List Fault:=(match ak (bZ t_ l_) (Int.toNat t_.d.hours) 0 () with | .inl x_0_0=> x_0_0 | .inr s_0=> l_)
def eJ (t_ : CertifyTable) (l_ : List Fault) : Prop:=((t_.d.hours < 9223372036854775808)∧okI (bZ t_ l_) (dS t_ l_) (Int.toNat t_.d.hours) 0 ())
@[go_sem] noncomputable def fU : List SV→List Ob→Option HCon:=fun l h=> hCR .fault (fun l_=> (pD .certifyTable fun t_=> ((pQ (.fn 85 [] [.ptr 0 0]) (pE (rt (eJ t_ l_) (.tup []) [.cells [.os 2],.dead,.row .fault (cB t_ l_)]))))) l) h
set_option maxHeartbeats 4000000 in
theorem mP : FnOkO Tryz.prog 88 fU:=by
 have hG : ConsOk Tryz.prog (mkG [] [(85,c6)]) :=aN cg0 (cgc d3 cg0)
 refine lH mixed aD hG (fn:=Tryz.f88) (c:=ag Tryz.f88) (by kernel_rfl) (by kernel_rfl) (by kernel_rfl) (by kernel_rfl) fun l o con h=> ?_
 unfold fU at h
 obtain ⟨l_,rfl,h⟩ :=oy h
 obtain ⟨t_,r0,rfl,h0⟩ :=k9 h
 obtain ⟨r1,rfl,h1⟩ :=ru h0
 obtain ⟨rfl,rfl⟩ :=iJ h1
 clear h h0 h1
 refine ⟨_,_,_,rfl,fun hp=> ?_⟩
 unfold eJ at hp
 refine ⟨Nat.le_of_ble_eq_true rfl,(fun id st=> bif Nat.beq id 0 then some (LCR (ρ:=(List Fault)) (σ:=Unit) 3 [] [0,1,2,1] (fun k_0 s_0=> ⟨[(1,.fn 85 [] [.ptr 0 0]),(2,.ptr 2 0),(8,.v (.int .i64 t_.d.hours)),(9,.v (.int .i64 (k_0 : Int)))],[.cells [.os 3],.dead,.cells (cellsOf .certifyTable t_),.row .fault l_]⟩) (bZ t_ l_) (dS t_ l_) (Int.toNat t_.d.hours) () (t_.d.hours < 9223372036854775808) (fun _=> .ret) (fun x_0_0=> ⟨[],[.cells [.os 3],.dead,.dead,.row .fault x_0_0]⟩) st) else none),?_,?_⟩
 ·unfold ag Tryz.f88
  simp only [aw,true_and,and_true]
  ·refine bY mixed aD hG (by kernel_rfl) (fun _=> rfl) t_.d.hours rfl id (fun hb0 k_0 s_0 hlt0 hq0 hw hc=> ⟨L0,av _,?_⟩) (fun hb0 s_0 hc=> ?_)
   ·unfold dS at hq0
    try simp only [hw,Int.toNat_natCast] at hq0
    exact Iz
   ·exact IA
 ·unfold ag Tryz.f88
  try unfold cB
  simp only [go_sem,Nat.reduceBEq,Nat.reduceLeDiff,Nat.reduceLT,decide_true,Nat.reduceAdd,Nat.reduceSub,Nat.reduceMul,Int.reduceLE,Int.reduceLT,Int.reduceToNat,Int.reduceNeg,reduceCtorEq]
  all_goals exact zL
@[go_sem] def cS (t_ : CertifyTable) (kind : Int) (k_0 : Nat) (s_0 : List Fault) : Empty⊕(List Fault) :=(bif (t_.l.getD k_0 (default : Order)).outlet then .inr s_0 else (bif (kind==2) then (bif (decide ((t_.l.getD k_0 (default : Order)).litres < (t_.d.reaches.getD (Int.toNat ((t_.l.getD k_0 (default : Order)).index)) (default : Reach)).siphon)) then .inr (bA ({ kind:=kind,hour:=(t_.l.getD k_0 (default : Order)).hour,index:=(t_.l.getD k_0 (default : Order)).index,litres:=(t_.l.getD k_0 (default : Order)).litres,limit:=(t_.d.reaches.getD (Int.toNat ((t_.l.getD k_0 (default : Order)).index)) (default : Reach)).siphon} : Fault) s_0) else .inr s_0) else (bif (decide ((t_.l.getD k_0 (default : Order)).litres > (t_.d.reaches.getD (Int.toNat ((t_.l.getD k_0 (default : Order)).index)) (default : Reach)).cap)) then .inr (bA ({ kind:=kind,hour:=(t_.l.getD k_0 (default : Order)).hour,index:=(t_.l.getD k_0 (default : Order)).index,litres:=(t_.l.getD k_0 (default : Order)).litres,limit:=(t_.d.reaches.getD (Int.toNat ((t_.l.getD k_0 (default : Order)).index)) (default : Reach)).cap} : Fault) s_0) else .inr s_0)))
def dn (t_ : CertifyTable) (kind : Int) (k_0 : Nat) (s_0 : List Fault) : Prop:=((t_.l.getD k_0 (default : Order)).outlet=false→((0≤(t_.l.getD k_0 (default : Order)).index∧(t_.l.getD k_0 (default : Order)).index < (t_.d.reaches.length : Int))∧(((kind==2)=true→((0≤(t_.l.getD k_0 (default : Order)).index∧(t_.l.getD k_0 (default : Order)).index < (t_.d.reaches.length : Int))∧(((decide ((t_.l.getD k_0 (default : Order)).litres < (t_.d.reaches.getD (Int.toNat ((t_.l.getD k_0 (default : Order)).index)) (default : Reach)).siphon))=true→(bp ({ kind:=kind,hour:=(t_.l.getD k_0 (default : Order)).hour,index:=(t_.l.getD k_0 (default : Order)).index,litres:=(t_.l.getD k_0 (default : Order)).litres,limit:=(t_.d.reaches.getD (Int.toNat ((t_.l.getD k_0 (default : Order)).index)) (default : Reach)).siphon} : Fault) s_0))∧((decide ((t_.l.getD k_0 (default : Order)).litres < (t_.d.reaches.getD (Int.toNat ((t_.l.getD k_0 (default : Order)).index)) (default : Reach)).siphon))=false→((decide ((t_.l.getD k_0 (default : Order)).litres < (t_.d.reaches.getD (Int.toNat ((t_.l.getD k_0 (default : Order)).index)) (default : Reach)).siphon))=false)))))∧((kind==2)=false→(((decide ((t_.l.getD k_0 (default : Order)).litres > (t_.d.reaches.getD (Int.toNat ((t_.l.getD k_0 (default : Order)).index)) (default : Reach)).cap))=true→(bp ({ kind:=kind,hour:=(t_.l.getD k_0 (default : Order)).hour,index:=(t_.l.getD k_0 (default : Order)).index,litres:=(t_.l.getD k_0 (default : Order)).litres,limit:=(t_.d.reaches.getD (Int.toNat ((t_.l.getD k_0 (default : Order)).index)) (default : Reach)).cap} : Fault) s_0))∧((decide ((t_.l.getD k_0 (default : Order)).litres > (t_.d.reaches.getD (Int.toNat ((t_.l.getD k_0 (default : Order)).index)) (default : Reach)).cap))=false→((decide ((t_.l.getD k_0 (default : Order)).litres > (t_.d.reaches.getD (Int.toNat ((t_.l.getD k_0 (default : Order)).index)) (default : Reach)).cap))=false)))))))
def bb (t_ : CertifyTable) (kind : Int) (l_ : List Fault) : List Fault:=(match ak (cS t_ kind) t_.l.length 0 l_ with | .inl x=> x.elim | .inr s_0=> s_0)
def db (t_ : CertifyTable) (kind : Int) (l_ : List Fault) : Prop:=(t_.l.length≤bC→okI (cS t_ kind) (dn t_ kind) t_.l.length 0 l_)
@[go_sem] noncomputable def eT : List SV→List Ob→Option HCon:=fun l h=> hCR .fault (fun l_=> (pQ (.fn 85 [] [.ptr 0 0]) ((pX .certifyTable fun t_=> ((pX .int fun kind=> (pE (rt (db t_ kind l_) (.tup []) [.cells [.os 2],.dead,.row .fault (bb t_ kind l_)]))))))) l) h
set_option maxHeartbeats 4000000 in
theorem la : FnOkO Tryz.prog 126 eT:=by
 have hG : ConsOk Tryz.prog (mkG [] [(85,c6)]) :=aN cg0 (cgc d3 cg0)
 refine lH mixed aD hG (fn:=Tryz.f126) (c:=ag Tryz.f126) (by kernel_rfl) (by kernel_rfl) (by kernel_rfl) (by kernel_rfl) fun l o con h=> ?_
 unfold eT at h
 obtain ⟨l_,rfl,h⟩ :=oy h
 obtain ⟨r0,rfl,h0⟩ :=ru h
 obtain ⟨t_,r1,rfl,h1⟩ :=xu h0
 obtain ⟨kind,r2,rfl,h2⟩ :=xu h1
 obtain ⟨rfl,rfl⟩ :=iJ h2
 clear h h0 h1 h2
 refine ⟨_,_,_,rfl,fun hp=> ?_⟩
 unfold db at hp
 refine ⟨Nat.le_of_ble_eq_true rfl,(fun id st=> bif Nat.beq id 0 then some (LCR (ρ:=Empty) (σ:=(List Fault)) 2 [] [0,1,1] (fun k_0 s_0=> ⟨[(0,.fn 85 [] [.ptr 0 0]),(1,.ep (cellsOf .certifyTable t_) 0),(2,.ep [.v (.int .i64 kind)] 0),(9,.rs .order t_.l),(10,.v (.int .i64 (t_.l.length : Int))),(11,.v (.int .i64 (k_0 : Int)))],[.cells [.os 2],.dead,.row .fault s_0]⟩) (cS t_ kind) (dn t_ kind) t_.l.length l_ (t_.l.length≤bC) ((·.elim)) ((·.elim)) st) else none),?_,?_⟩
 ·unfold ag Tryz.f126
  simp only [aw,true_and,and_true]
  ·refine bY mixed aD hG (by kernel_rfl) (fun _=> rfl) (t_.l.length : Int) rfl jm (fun hb0 k_0 s_0 hlt0 hq0 hw hc=> ⟨L0,av _,?_⟩) (fun hb0 s_0 hc=> ?_)
   ·unfold dn at hq0
    try simp only [hw,Int.toNat_natCast] at hq0
    exact IB
   ·exact IC
 ·unfold ag Tryz.f126
  try unfold bb
  simp only [go_sem,Nat.reduceBEq,Nat.reduceLeDiff,Nat.reduceLT,decide_true,Nat.reduceAdd,Nat.reduceSub,Nat.reduceMul,Int.reduceLE,Int.reduceLT,Int.reduceToNat,Int.reduceNeg,reduceCtorEq]
  all_goals exact uE
@[go_sem] def aO (c_ : List Claim) (k_0 : Nat) (s_0 : List (CertifyPlace×Int)) : Empty⊕(List (CertifyPlace×Int)) := .inr (c7 .certifyPlace .int s_0 ({ hour:=(c_.getD k_0 (default : Claim)).hour,index:=(c_.getD k_0 (default : Claim)).farm,outlet:=true} : CertifyPlace) (IntKind.i64.wrap ((aB .certifyPlace .int s_0 ({ hour:=(c_.getD k_0 (default : Claim)).hour,index:=(c_.getD k_0 (default : Claim)).farm,outlet:=true} : CertifyPlace)) + (c_.getD k_0 (default : Claim)).litres)))
@[go_sem] def cT (t_ : CertifyTable) (s_0 : List (CertifyPlace×Int)) (k_1 : Nat) (k_2 : Nat) (s_2 : List Fault) : Empty⊕(List Fault) :=(bif (decide ((aB .certifyPlace .int t_.litres ({ hour:=(k_1 : Int),index:=(k_2 : Int),outlet:=true} : CertifyPlace)) < (aB .certifyPlace .int s_0 ({ hour:=(k_1 : Int),index:=(k_2 : Int),outlet:=true} : CertifyPlace)))) then .inr (bA ({ kind:=6,hour:=(k_1 : Int),index:=(k_2 : Int),litres:=(aB .certifyPlace .int t_.litres ({ hour:=(k_1 : Int),index:=(k_2 : Int),outlet:=true} : CertifyPlace)),limit:=(aB .certifyPlace .int s_0 ({ hour:=(k_1 : Int),index:=(k_2 : Int),outlet:=true} : CertifyPlace))} : Fault) s_2) else .inr s_2)
def dp (t_ : CertifyTable) (s_0 : List (CertifyPlace×Int)) (k_1 : Nat) (k_2 : Nat) (s_2 : List Fault) : Prop:=(((decide ((aB .certifyPlace .int t_.litres ({ hour:=(k_1 : Int),index:=(k_2 : Int),outlet:=true} : CertifyPlace)) < (aB .certifyPlace .int s_0 ({ hour:=(k_1 : Int),index:=(k_2 : Int),outlet:=true} : CertifyPlace))))=true→(bp ({ kind:=6,hour:=(k_1 : Int),index:=(k_2 : Int),litres:=(aB .certifyPlace .int t_.litres ({ hour:=(k_1 : Int),index:=(k_2 : Int),outlet:=true} : CertifyPlace)),limit:=(aB .certifyPlace .int s_0 ({ hour:=(k_1 : Int),index:=(k_2 : Int),outlet:=true} : CertifyPlace))} : Fault) s_2))∧((decide ((aB .certifyPlace .int t_.litres ({ hour:=(k_1 : Int),index:=(k_2 : Int),outlet:=true} : CertifyPlace)) < (aB .certifyPlace .int s_0 ({ hour:=(k_1 : Int),index:=(k_2 : Int),outlet:=true} : CertifyPlace))))=false→((decide ((aB .certifyPlace .int t_.litres ({ hour:=(k_1 : Int),index:=(k_2 : Int),outlet:=true} : CertifyPlace)) < (aB .certifyPlace .int s_0 ({ hour:=(k_1 : Int),index:=(k_2 : Int),outlet:=true} : CertifyPlace))))=false)))
@[go_sem] def cU (t_ : CertifyTable) (s_0 : List (CertifyPlace×Int)) (k_1 : Nat) (s_1 : List Fault) : Empty⊕(List Fault) :=(match ak (cT t_ s_0 k_1) t_.d.farms.length 0 s_1 with | .inl x=> x.elim | .inr s_2=> .inr s_2)
def d_ (t_ : CertifyTable) (s_0 : List (CertifyPlace×Int)) (k_1 : Nat) (s_1 : List Fault) : Prop:=(t_.d.farms.length≤bC→okI (cT t_ s_0 k_1) (dp t_ s_0 k_1) t_.d.farms.length 0 s_1)
def b5 (c_ : List Claim) (t_ : CertifyTable) (l_ : List Fault) : List Fault:=(match ak (aO c_) c_.length 0 ([]) with | .inl x=> x.elim | .inr s_0=> (match ak (cU t_ s_0) (Int.toNat t_.d.hours) 0 l_ with | .inl x=> x.elim | .inr s_1=> s_1))
def dT (c_ : List Claim) (t_ : CertifyTable) (l_ : List Fault) : Prop:=(c_.length≤bC→(∀ s_0,ak (aO c_) c_.length 0 ([])= .inr s_0→((t_.d.hours < 9223372036854775808)∧okI (cU t_ s_0) (d_ t_ s_0) (Int.toNat t_.d.hours) 0 l_)))
@[go_sem] noncomputable def eU : List SV→List Ob→Option HCon:=fun l h=> hCR .fault (fun l_=> (pQ (.fn 85 [] [.ptr 0 0]) ((pXR .claim fun c_=> ((pX .certifyTable fun t_=> (pE (rt (dT c_ t_ l_) (.tup []) [.cells [.os 2],.dead,.row .fault (b5 c_ t_ l_)]))))))) l) h
set_option maxHeartbeats 4000000 in
theorem ld : FnOkO Tryz.prog 128 eU:=by
 have hG : ConsOk Tryz.prog (mkG [] [(85,c6)]) :=aN cg0 (cgc d3 cg0)
 refine lH mixed aD hG (fn:=Tryz.f128) (c:=ag Tryz.f128) (by kernel_rfl) (by kernel_rfl) (by kernel_rfl) (by kernel_rfl) fun l o con h=> ?_
 unfold eU at h
 obtain ⟨l_,rfl,h⟩ :=oy h
 obtain ⟨r0,rfl,h0⟩ :=ru h
 obtain ⟨c_,r1,rfl,h1⟩ :=DB h0
 obtain ⟨t_,r2,rfl,h2⟩ :=xu h1
 obtain ⟨rfl,rfl⟩ :=iJ h2
 clear h h0 h1 h2
 refine ⟨_,_,_,rfl,fun hp=> ?_⟩
 unfold dT at hp
 refine ⟨Nat.le_of_ble_eq_true rfl,(fun id st=> bif Nat.beq id 0 then some (LCR (ρ:=Empty) (σ:=(List (CertifyPlace×Int))) 3 [] [0,1,2] (fun k_0 s_0=> ⟨[(0,.fn 85 [] [.ptr 0 0]),(2,.ep (cellsOf .certifyTable t_) 0),(4,.os 2),(11,.rs .claim c_),(12,.v (.int .i64 (c_.length : Int))),(13,.v (.int .i64 (k_0 : Int)))],[.cells [.os 1],.row .fault l_,.mp .certifyPlace .int s_0 none]⟩) (aO c_) pT c_.length ([]) (c_.length≤bC) ((·.elim)) ((·.elim)) st) else bif Nat.beq id 2 then some (LCR (ρ:=Empty) (σ:=(List Fault)) 3 [] [0,1,2,1] (fun k_1 s_1=> ⟨[(0,.fn 85 [] [.ptr 0 0]),(2,.ep (cellsOf .certifyTable t_) 0),(4,.os 2),(32,.v (.int .i64 t_.d.hours)),(33,.v (.int .i64 (k_1 : Int)))],[.cells [.os 3],.dead,.mp .certifyPlace .int (am (ak (aO c_) c_.length 0 ([]))) none,.row .fault s_1]⟩) (cU t_ (am (ak (aO c_) c_.length 0 ([])))) (d_ t_ (am (ak (aO c_) c_.length 0 ([])))) (Int.toNat t_.d.hours) l_ (t_.d.hours < 9223372036854775808) ((·.elim)) ((·.elim)) st) else none),?_,?_⟩
 ·unfold ag Tryz.f128
  simp only [aw,true_and,and_true]
  refine ⟨?_,?_⟩
  ·refine bY mixed aD hG (by kernel_rfl) (fun _=> rfl) (c_.length : Int) rfl jm (fun hb0 k_0 s_0 hlt0 _ hw hc=> ⟨L0,av _,?_⟩) (fun hb0 s_0 hc=> ?_)
   ·exact ID
   ·exact IE
  ·refine bY mixed aD hG (by kernel_rfl) (fun _=> rfl) t_.d.hours rfl id (fun hb1 k_1 s_1 hlt1 hq1 hw hc=> ⟨(fun id st=> bif Nat.beq id 4 then some (LCR (ρ:=Empty) (σ:=(List Fault)) 4 [] [0,1,2,3,3] (fun k_2 s_2=> ⟨[(0,.fn 85 [] [.ptr 0 0]),(2,.ep (cellsOf .certifyTable t_) 0),(4,.os 2),(7,.v (.int .i64 (k_1 : Int))),(32,.v (.int .i64 t_.d.hours)),(33,.v (.int .i64 (k_1 : Int))),(39,.v (.int .i64 (t_.d.farms.length : Int))),(40,.v (.int .i64 (k_2 : Int)))],[.cells [.os 4],.dead,.mp .certifyPlace .int (am (ak (aO c_) c_.length 0 ([]))) none,.dead,.row .fault s_2]⟩) (cT t_ (am (ak (aO c_) c_.length 0 ([]))) k_1) (dp t_ (am (ak (aO c_) c_.length 0 ([]))) k_1) t_.d.farms.length s_1 (t_.d.farms.length≤bC) ((·.elim)) ((·.elim)) st) else none),?_,?_⟩) (fun hb1 s_1 hc=> ?_)
   ·simp only [aw,true_and,and_true]
    ·refine bY mixed aD hG (by kernel_rfl) (fun _=> rfl) (t_.d.farms.length : Int) rfl jm (fun hb2 k_2 s_2 hlt2 hq2 hw hc=> ⟨L0,av _,?_⟩) (fun hb2 s_2 hc=> ?_)
     ·unfold dp at hq2
      try simp only [hw,Int.toNat_natCast] at hq2
      exact IH
     ·exact II
   ·unfold d_ at hq1
    try simp only [hw,Int.toNat_natCast] at hq1
    exact IF
   ·exact IG
 ·unfold ag Tryz.f128
  try unfold b5
  simp only [go_sem,Nat.reduceBEq,Nat.reduceLeDiff,Nat.reduceLT,decide_true,Nat.reduceAdd,Nat.reduceSub,Nat.reduceMul,Int.reduceLE,Int.reduceLT,Int.reduceToNat,Int.reduceNeg,reduceCtorEq]
  all_goals exact zL
end Go.Sx
end
section
namespace Go.Sx
open Go.Proofs
set_option maxRecDepth 100000
set_option linter.unusedSimpArgs false
theorem uG {p : Prop} (h : p:=by (first | done | (repeat' (first | with_reducible refine And.intro ?_ ?_ | ((with_reducible show _≠_);first | assumption | omega | (simp_all [am,aC];done) | grind) | with_reducible intro _)) <;> (first | done | exact Empty.elim ‹Empty› | assumption | rfl | omega | decide | exact fk [0,1,2,3,6] | exact fk [0,1,2,3,4] | (simp only [*,cond_true,cond_false,Bool.not_true,Bool.not_false,go_sem,Nat.reduceBEq,Nat.reduceLeDiff,Nat.reduceLT,decide_true,Nat.reduceAdd,Nat.reduceSub,Nat.reduceMul,Int.reduceLE,Int.reduceLT,Int.reduceToNat,Int.reduceNeg,reduceCtorEq];done) | (simp only [*,cond_true,cond_false,Bool.not_true,Bool.not_false,go_sem,Nat.reduceBEq,Nat.reduceLeDiff,Nat.reduceLT,decide_true,Nat.reduceAdd,Nat.reduceSub,Nat.reduceMul,Int.reduceLE,Int.reduceLT,Int.reduceToNat,Int.reduceNeg,reduceCtorEq];(repeat' (first | with_reducible refine And.intro ?_ ?_ | ((with_reducible show _≠_);first | assumption | omega | (simp_all [am,aC];done) | grind) | with_reducible intro _)) <;> (first | done | assumption | rfl | omega | decide | exact fk [0,1,2,3,6] | exact fk [0,1,2,3,4] | (simp_all [am,aC];done))) | (simp_all [okI,am,aC];done) | (simp_all [am,aC];(first | done | exact fk2 [0,1,2,3,6] | exact fk2 [0,1,2,3,4])) | exact fk2 [0,1,2,3,6] | exact fk2 [0,1,2,3,4] | (simp_all only [am,aC,cond_true,cond_false];(first | done | exact fk [0,1,2,3,6] | exact fk [0,1,2,3,4] | exact fk2 [0,1,2,3,6] | exact fk2 [0,1,2,3,4] | (simp only [go_sem,Nat.reduceBEq,Nat.reduceLeDiff,Nat.reduceLT,decide_true,Nat.reduceAdd,Nat.reduceSub,Nat.reduceMul,Int.reduceLE,Int.reduceLT,Int.reduceToNat,Int.reduceNeg,reduceCtorEq];((repeat' (first | with_reducible refine And.intro ?_ ?_ | ((with_reducible show _≠_);first | assumption | omega | (simp_all [am,aC];done) | grind) | with_reducible intro _)) <;> (first | done | rfl | exact fk [0,1,2,3,6] | exact fk [0,1,2,3,4] | exact fk2 [0,1,2,3,6] | exact fk2 [0,1,2,3,4])))))))) : p:=h
theorem zP {p : Prop} (h : p:=by (first | done | (repeat' (first | with_reducible refine And.intro ?_ ?_ | ((with_reducible show _≠_);first | assumption | omega | (simp_all [am,aC];done) | grind) | with_reducible intro _)) <;> (first | done | exact Empty.elim ‹Empty› | assumption | rfl | omega | decide | exact fk [0,1,4] | (simp only [*,cond_true,cond_false,Bool.not_true,Bool.not_false,go_sem,Nat.reduceBEq,Nat.reduceLeDiff,Nat.reduceLT,decide_true,Nat.reduceAdd,Nat.reduceSub,Nat.reduceMul,Int.reduceLE,Int.reduceLT,Int.reduceToNat,Int.reduceNeg,reduceCtorEq];done) | (simp only [*,cond_true,cond_false,Bool.not_true,Bool.not_false,go_sem,Nat.reduceBEq,Nat.reduceLeDiff,Nat.reduceLT,decide_true,Nat.reduceAdd,Nat.reduceSub,Nat.reduceMul,Int.reduceLE,Int.reduceLT,Int.reduceToNat,Int.reduceNeg,reduceCtorEq];(repeat' (first | with_reducible refine And.intro ?_ ?_ | ((with_reducible show _≠_);first | assumption | omega | (simp_all [am,aC];done) | grind) | with_reducible intro _)) <;> (first | done | assumption | rfl | omega | decide | exact fk [0,1,4] | (simp_all [am,aC];done))) | (simp_all [okI,am,aC];done) | (simp_all [am,aC];(first | done | exact fk2 [0,1,4])) | exact fk2 [0,1,4] | (simp_all only [am,aC,cond_true,cond_false];(first | done | exact fk [0,1,4] | exact fk2 [0,1,4] | (simp only [go_sem,Nat.reduceBEq,Nat.reduceLeDiff,Nat.reduceLT,decide_true,Nat.reduceAdd,Nat.reduceSub,Nat.reduceMul,Int.reduceLE,Int.reduceLT,Int.reduceToNat,Int.reduceNeg,reduceCtorEq];((repeat' (first | with_reducible refine And.intro ?_ ?_ | ((with_reducible show _≠_);first | assumption | omega | (simp_all [am,aC];done) | grind) | with_reducible intro _)) <;> (first | done | rfl | exact fk [0,1,4] | exact fk2 [0,1,4])))))))) : p:=h
theorem uH {p : Prop} (h : p:=by (first | done | (repeat' (first | with_reducible refine And.intro ?_ ?_ | ((with_reducible show _≠_);first | assumption | omega | (simp_all [am,aC];done) | grind) | with_reducible intro _)) <;> (first | done | exact Empty.elim ‹Empty› | assumption | rfl | omega | decide | exact fk [0,1,2,3,5] | exact fk [0,1,2,3,4] | (simp only [*,cond_true,cond_false,Bool.not_true,Bool.not_false,go_sem,Nat.reduceBEq,Nat.reduceLeDiff,Nat.reduceLT,decide_true,Nat.reduceAdd,Nat.reduceSub,Nat.reduceMul,Int.reduceLE,Int.reduceLT,Int.reduceToNat,Int.reduceNeg,reduceCtorEq];done) | (simp only [*,cond_true,cond_false,Bool.not_true,Bool.not_false,go_sem,Nat.reduceBEq,Nat.reduceLeDiff,Nat.reduceLT,decide_true,Nat.reduceAdd,Nat.reduceSub,Nat.reduceMul,Int.reduceLE,Int.reduceLT,Int.reduceToNat,Int.reduceNeg,reduceCtorEq];(repeat' (first | with_reducible refine And.intro ?_ ?_ | ((with_reducible show _≠_);first | assumption | omega | (simp_all [am,aC];done) | grind) | with_reducible intro _)) <;> (first | done | assumption | rfl | omega | decide | exact fk [0,1,2,3,5] | exact fk [0,1,2,3,4] | (simp_all [am,aC];done))) | (simp_all [okI,am,aC];done) | (simp_all [am,aC];(first | done | exact fk2 [0,1,2,3,5] | exact fk2 [0,1,2,3,4])) | exact fk2 [0,1,2,3,5] | exact fk2 [0,1,2,3,4] | (simp_all only [am,aC,cond_true,cond_false];(first | done | exact fk [0,1,2,3,5] | exact fk [0,1,2,3,4] | exact fk2 [0,1,2,3,5] | exact fk2 [0,1,2,3,4] | (simp only [go_sem,Nat.reduceBEq,Nat.reduceLeDiff,Nat.reduceLT,decide_true,Nat.reduceAdd,Nat.reduceSub,Nat.reduceMul,Int.reduceLE,Int.reduceLT,Int.reduceToNat,Int.reduceNeg,reduceCtorEq];((repeat' (first | with_reducible refine And.intro ?_ ?_ | ((with_reducible show _≠_);first | assumption | omega | (simp_all [am,aC];done) | grind) | with_reducible intro _)) <;> (first | done | rfl | exact fk [0,1,2,3,5] | exact fk [0,1,2,3,4] | exact fk2 [0,1,2,3,5] | exact fk2 [0,1,2,3,4])))))))) : p:=h
@[go_sem] def bT (t_ : CertifyTable) (z_0 : Int×Int) (s_0 : List Fault) : Empty⊕(List Fault) :=(bif (decide ((IntKind.i64.wrap (((t_.sums.getD (Int.toNat z_0.2) (default : List Int)).getD (Int.toNat (IntKind.i64.wrap (z_0.1 + 1))) (0 : Int)) - ((t_.sums.getD (Int.toNat z_0.2) (default : List Int)).getD (Int.toNat (if 0 < (IntKind.i64.wrap ((IntKind.i64.wrap (z_0.1 + 1)) - (t_.d.reaches.getD (Int.toNat z_0.2) (default : Reach)).delay)) then (IntKind.i64.wrap ((IntKind.i64.wrap (z_0.1 + 1)) - (t_.d.reaches.getD (Int.toNat z_0.2) (default : Reach)).delay)) else 0)) (0 : Int)))) > (t_.d.reaches.getD (Int.toNat z_0.2) (default : Reach)).bank)) then .inr (bA ({ kind:=3,hour:=z_0.1,index:=z_0.2,litres:=(IntKind.i64.wrap (((t_.sums.getD (Int.toNat z_0.2) (default : List Int)).getD (Int.toNat (IntKind.i64.wrap (z_0.1 + 1))) (0 : Int)) - ((t_.sums.getD (Int.toNat z_0.2) (default : List Int)).getD (Int.toNat (if 0 < (IntKind.i64.wrap ((IntKind.i64.wrap (z_0.1 + 1)) - (t_.d.reaches.getD (Int.toNat z_0.2) (default : Reach)).delay)) then (IntKind.i64.wrap ((IntKind.i64.wrap (z_0.1 + 1)) - (t_.d.reaches.getD (Int.toNat z_0.2) (default : Reach)).delay)) else 0)) (0 : Int)))),limit:=(t_.d.reaches.getD (Int.toNat z_0.2) (default : Reach)).bank} : Fault) s_0) else .inr s_0)
def cV (t_ : CertifyTable) (z_0 : Int×Int) (s_0 : List Fault) : Prop:=((0≤z_0.2∧z_0.2 < (t_.d.reaches.length : Int))∧((0≤z_0.2∧z_0.2 < (t_.sums.length : Int))∧((0≤(IntKind.i64.wrap (z_0.1 + 1))∧(IntKind.i64.wrap (z_0.1 + 1)) < ((t_.sums.getD (Int.toNat z_0.2) (default : List Int)).length : Int))∧((0≤z_0.2∧z_0.2 < (t_.sums.length : Int))∧((0≤(if 0 < (IntKind.i64.wrap ((IntKind.i64.wrap (z_0.1 + 1)) - (t_.d.reaches.getD (Int.toNat z_0.2) (default : Reach)).delay)) then (IntKind.i64.wrap ((IntKind.i64.wrap (z_0.1 + 1)) - (t_.d.reaches.getD (Int.toNat z_0.2) (default : Reach)).delay)) else 0)∧(if 0 < (IntKind.i64.wrap ((IntKind.i64.wrap (z_0.1 + 1)) - (t_.d.reaches.getD (Int.toNat z_0.2) (default : Reach)).delay)) then (IntKind.i64.wrap ((IntKind.i64.wrap (z_0.1 + 1)) - (t_.d.reaches.getD (Int.toNat z_0.2) (default : Reach)).delay)) else 0) < ((t_.sums.getD (Int.toNat z_0.2) (default : List Int)).length : Int))∧(((decide ((IntKind.i64.wrap (((t_.sums.getD (Int.toNat z_0.2) (default : List Int)).getD (Int.toNat (IntKind.i64.wrap (z_0.1 + 1))) (0 : Int)) - ((t_.sums.getD (Int.toNat z_0.2) (default : List Int)).getD (Int.toNat (if 0 < (IntKind.i64.wrap ((IntKind.i64.wrap (z_0.1 + 1)) - (t_.d.reaches.getD (Int.toNat z_0.2) (default : Reach)).delay)) then (IntKind.i64.wrap ((IntKind.i64.wrap (z_0.1 + 1)) - (t_.d.reaches.getD (Int.toNat z_0.2) (default : Reach)).delay)) else 0)) (0 : Int)))) > (t_.d.reaches.getD (Int.toNat z_0.2) (default : Reach)).bank))=true→(bp ({ kind:=3,hour:=z_0.1,index:=z_0.2,litres:=(IntKind.i64.wrap (((t_.sums.getD (Int.toNat z_0.2) (default : List Int)).getD (Int.toNat (IntKind.i64.wrap (z_0.1 + 1))) (0 : Int)) - ((t_.sums.getD (Int.toNat z_0.2) (default : List Int)).getD (Int.toNat (if 0 < (IntKind.i64.wrap ((IntKind.i64.wrap (z_0.1 + 1)) - (t_.d.reaches.getD (Int.toNat z_0.2) (default : Reach)).delay)) then (IntKind.i64.wrap ((IntKind.i64.wrap (z_0.1 + 1)) - (t_.d.reaches.getD (Int.toNat z_0.2) (default : Reach)).delay)) else 0)) (0 : Int)))),limit:=(t_.d.reaches.getD (Int.toNat z_0.2) (default : Reach)).bank} : Fault) s_0))∧((decide ((IntKind.i64.wrap (((t_.sums.getD (Int.toNat z_0.2) (default : List Int)).getD (Int.toNat (IntKind.i64.wrap (z_0.1 + 1))) (0 : Int)) - ((t_.sums.getD (Int.toNat z_0.2) (default : List Int)).getD (Int.toNat (if 0 < (IntKind.i64.wrap ((IntKind.i64.wrap (z_0.1 + 1)) - (t_.d.reaches.getD (Int.toNat z_0.2) (default : Reach)).delay)) then (IntKind.i64.wrap ((IntKind.i64.wrap (z_0.1 + 1)) - (t_.d.reaches.getD (Int.toNat z_0.2) (default : Reach)).delay)) else 0)) (0 : Int)))) > (t_.d.reaches.getD (Int.toNat z_0.2) (default : Reach)).bank))=false→((decide ((IntKind.i64.wrap (((t_.sums.getD (Int.toNat z_0.2) (default : List Int)).getD (Int.toNat (IntKind.i64.wrap (z_0.1 + 1))) (0 : Int)) - ((t_.sums.getD (Int.toNat z_0.2) (default : List Int)).getD (Int.toNat (if 0 < (IntKind.i64.wrap ((IntKind.i64.wrap (z_0.1 + 1)) - (t_.d.reaches.getD (Int.toNat z_0.2) (default : Reach)).delay)) then (IntKind.i64.wrap ((IntKind.i64.wrap (z_0.1 + 1)) - (t_.d.reaches.getD (Int.toNat z_0.2) (default : Reach)).delay)) else 0)) (0 : Int)))) > (t_.d.reaches.getD (Int.toNat z_0.2) (default : Reach)).bank))=false))))))))
def ci (t_ : CertifyTable) (l_ : List Fault) : List Fault:=(match cw (bT t_) (aS t_) l_ with | .inl x=> x.elim | .inr s_0=> s_0)
def ed (t_ : CertifyTable) (l_ : List Fault) : Prop:=((t_.d.hours < 9223372036854775808)∧okL (bT t_) (cV t_) (aS t_) l_)
@[go_sem] noncomputable def fA : List SV→List Ob→Option HCon:=fun l h=> hCR .fault (fun l_=> (pD .certifyTable fun t_=> ((pQ (.fn 85 [] [.ptr 0 0]) (pE (rt (ed t_ l_) (.tup []) [.cells [.os 2],.dead,.row .fault (ci t_ l_)]))))) l) h
set_option maxHeartbeats 4000000 in
theorem mt : FnOkO Tryz.prog 87 fA:=by
 have hG : ConsOk Tryz.prog (mkG [(127,ba)] [(85,c6)]) :=aN (cgc iv cg0) (cgc d3 cg0)
 refine lH mixed aD hG (fn:=Tryz.f87) (c:=ag Tryz.f87) (by kernel_rfl) (by kernel_rfl) (by kernel_rfl) (by kernel_rfl) fun l o con h=> ?_
 unfold fA at h
 obtain ⟨l_,rfl,h⟩ :=oy h
 obtain ⟨t_,r0,rfl,h0⟩ :=k9 h
 obtain ⟨r1,rfl,h1⟩ :=ru h0
 obtain ⟨rfl,rfl⟩ :=iJ h1
 clear h h0 h1
 refine ⟨_,_,_,rfl,fun hp=> ?_⟩
 unfold ed at hp
 refine ⟨Nat.le_of_ble_eq_true rfl,(fun id st=> bif Nat.beq id 0 then some (LC (ρ:=Empty) (σ:=List Fault) (lk 2 st.t= .ptr 2 0∧lk 3 st.t= .ptr 3 0∧lk 9 st.t= .fn 154 [] [.ep (cellsOf .certifyTable t_) 0]∧st.h=[.cells [.os 1],.row .fault l_,.cells (cellsOf .certifyTable t_),.cells [.fn 85 [] [.ptr 0 0]]]∧t_.d.hours < 9223372036854775808∧okL (bT t_) (cV t_) (aS t_) l_) (cw (bT t_) (aS t_) l_) (fun x=> x.elim) (fun x=> x.elim) (fun s_0=> ⟨[(2,.ptr 2 0),(3,.ptr 3 0)],[.cells [.os 4],.dead,.cells (cellsOf .certifyTable t_),.cells [.fn 85 [] [.ptr 0 0]],.row .fault s_0]⟩)) else none),?_,?_⟩
 ·unfold ag Tryz.f87
  simp only [aw,true_and,and_true]
  ·refine lI mixed aD hG (by decide) (by decide) (by kernel_rfl) (by kernel_rfl) fun st lc hC hp=> ?_
   simp only [go_sem,Nat.reduceBEq,Option.some.injEq] at hC
   subst hC
   obtain ⟨t,h⟩ :=st
   dsimp only [LC] at hp
   obtain ⟨e0_0,e0_1,e0_2,rfl,hb0,hok0⟩ :=hp
   refine ⟨154,[.ep (cellsOf .certifyTable t_) 0],Int×Int,_,_,(aS t_),wv,(bT t_),(cV t_),_,l_,_,_,_,[(2,.ptr 2 0),(3,.ptr 3 0)],(fun s_0=> [.cells [.os 4],.dead,.cells (cellsOf .certifyTable t_),.cells [.fn 85 [] [.ptr 0 0]],.row .fault s_0]),(fun x=> x.elim),[0,1,2,3,1],?_,rfl,hok0,Nat.le_of_ble_eq_true rfl,?_,sg t_ hb0,fun z_0 s_0 hq0=> ⟨rfl,L0,fun l=> ?_,fun l=> ?_,?_⟩,fun s_0=> ?_,fun y=> ?_⟩
   ·simp only [go_sem,e0_0,e0_1,e0_2]
   ·simp only [go_sem,Nat.reduceBEq,Nat.reduceLeDiff,Nat.reduceLT,decide_true,Nat.reduceAdd,Nat.reduceSub,Nat.reduceMul,Int.reduceLE,Int.reduceLT,Int.reduceToNat,Int.reduceNeg,reduceCtorEq,mD,ia,List.flatMap_cons,List.flatMap_nil,List.nil_append,List.append_nil,List.map_nil,e0_0,e0_1,e0_2]
    all_goals (first | done | decide | (repeat' (first | refine And.intro ?_ ?_ | rfl | decide)))
   ·simp only [aw,and_self,true_and,and_true]
   ·simp only [aw,and_self,true_and,and_true]
   ·unfold cV at hq0
    simp only [go_sem,Nat.reduceBEq,Nat.reduceLeDiff,Nat.reduceLT,decide_true,Nat.reduceAdd,Nat.reduceSub,Nat.reduceMul,Int.reduceLE,Int.reduceLT,Int.reduceToNat,Int.reduceNeg,reduceCtorEq,ba,bT,psT,wv,List.cons_append,List.nil_append]
    all_goals exact uG
   ·simp only [go_sem,Nat.reduceBEq,Nat.reduceLeDiff,Nat.reduceLT,decide_true,Nat.reduceAdd,Nat.reduceSub,Nat.reduceMul,Int.reduceLE,Int.reduceLT,Int.reduceToNat,Int.reduceNeg,reduceCtorEq,ba]
    all_goals exact uG
   ·simp only [go_sem,Nat.reduceBEq,Nat.reduceLeDiff,Nat.reduceLT,decide_true,Nat.reduceAdd,Nat.reduceSub,Nat.reduceMul,Int.reduceLE,Int.reduceLT,Int.reduceToNat,Int.reduceNeg,reduceCtorEq,ba]
    all_goals exact uG
 ·unfold ag Tryz.f87
  try unfold ci
  simp only [go_sem,Nat.reduceBEq,Nat.reduceLeDiff,Nat.reduceLT,decide_true,Nat.reduceAdd,Nat.reduceSub,Nat.reduceMul,Int.reduceLE,Int.reduceLT,Int.reduceToNat,Int.reduceNeg,reduceCtorEq,ba]
  all_goals exact zP
@[go_sem] def bU (t_ : CertifyTable) (z_0 : Int×Int) (s_0 : List Fault) : Empty⊕(List Fault) :=(bif (decide (((t_.drawn.getD (Int.toNat z_0.2) (default : List Int)).getD (Int.toNat z_0.1) (0 : Int)) > (a7 t_ z_0.2 z_0.1))) then .inr (bA ({ kind:=5,hour:=z_0.1,index:=z_0.2,litres:=((t_.drawn.getD (Int.toNat z_0.2) (default : List Int)).getD (Int.toNat z_0.1) (0 : Int)),limit:=(a7 t_ z_0.2 z_0.1)} : Fault) s_0) else .inr s_0)
def cW (t_ : CertifyTable) (z_0 : Int×Int) (s_0 : List Fault) : Prop:=((0≤z_0.2∧z_0.2 < (t_.drawn.length : Int))∧((0≤z_0.1∧z_0.1 < ((t_.drawn.getD (Int.toNat z_0.2) (default : List Int)).length : Int))∧((ct t_ z_0.2 z_0.1)∧(((decide (((t_.drawn.getD (Int.toNat z_0.2) (default : List Int)).getD (Int.toNat z_0.1) (0 : Int)) > (a7 t_ z_0.2 z_0.1)))=true→(bp ({ kind:=5,hour:=z_0.1,index:=z_0.2,litres:=((t_.drawn.getD (Int.toNat z_0.2) (default : List Int)).getD (Int.toNat z_0.1) (0 : Int)),limit:=(a7 t_ z_0.2 z_0.1)} : Fault) s_0))∧((decide (((t_.drawn.getD (Int.toNat z_0.2) (default : List Int)).getD (Int.toNat z_0.1) (0 : Int)) > (a7 t_ z_0.2 z_0.1)))=false→((decide (((t_.drawn.getD (Int.toNat z_0.2) (default : List Int)).getD (Int.toNat z_0.1) (0 : Int)) > (a7 t_ z_0.2 z_0.1)))=false))))))
def dv (t_ : CertifyTable) (l_ : List Fault) : List Fault:=(match cw (bU t_) (aS t_) l_ with | .inl x=> x.elim | .inr s_0=> s_0)
def ee (t_ : CertifyTable) (l_ : List Fault) : Prop:=((t_.d.hours < 9223372036854775808)∧okL (bU t_) (cW t_) (aS t_) l_)
@[go_sem] noncomputable def fB : List SV→List Ob→Option HCon:=fun l h=> hCR .fault (fun l_=> (pD .certifyTable fun t_=> ((pQ (.fn 85 [] [.ptr 0 0]) (pE (rt (ee t_ l_) (.tup []) [.cells [.os 2],.dead,.row .fault (dv t_ l_)]))))) l) h
set_option maxHeartbeats 4000000 in
theorem mu : FnOkO Tryz.prog 89 fB:=by
 have hG : ConsOk Tryz.prog (mkG [(91,fun l=> eS (dw [.st .certifyTable,.o,.o] l)),(127,ba)] [(85,c6)]) :=aN (cgc (gB.norm [.st .certifyTable,.o,.o]) (cgc iv cg0)) (cgc d3 cg0)
 refine lH mixed aD hG (fn:=Tryz.f89) (c:=ag Tryz.f89) (by kernel_rfl) (by kernel_rfl) (by kernel_rfl) (by kernel_rfl) fun l o con h=> ?_
 unfold fB at h
 obtain ⟨l_,rfl,h⟩ :=oy h
 obtain ⟨t_,r0,rfl,h0⟩ :=k9 h
 obtain ⟨r1,rfl,h1⟩ :=ru h0
 obtain ⟨rfl,rfl⟩ :=iJ h1
 clear h h0 h1
 refine ⟨_,_,_,rfl,fun hp=> ?_⟩
 unfold ee at hp
 refine ⟨Nat.le_of_ble_eq_true rfl,(fun id st=> bif Nat.beq id 0 then some (LC (ρ:=Empty) (σ:=List Fault) (lk 2 st.t= .ptr 2 0∧lk 3 st.t= .ptr 3 0∧lk 9 st.t= .fn 154 [] [.ep (cellsOf .certifyTable t_) 0]∧st.h=[.cells [.os 1],.row .fault l_,.cells (cellsOf .certifyTable t_),.cells [.fn 85 [] [.ptr 0 0]]]∧t_.d.hours < 9223372036854775808∧okL (bU t_) (cW t_) (aS t_) l_) (cw (bU t_) (aS t_) l_) (fun x=> x.elim) (fun x=> x.elim) (fun s_0=> ⟨[(2,.ptr 2 0),(3,.ptr 3 0)],[.cells [.os 4],.dead,.cells (cellsOf .certifyTable t_),.cells [.fn 85 [] [.ptr 0 0]],.row .fault s_0]⟩)) else none),?_,?_⟩
 ·unfold ag Tryz.f89
  simp only [aw,true_and,and_true]
  ·refine lI mixed aD hG (by decide) (by decide) (by kernel_rfl) (by kernel_rfl) fun st lc hC hp=> ?_
   simp only [go_sem,Nat.reduceBEq,Option.some.injEq] at hC
   subst hC
   obtain ⟨t,h⟩ :=st
   dsimp only [LC] at hp
   obtain ⟨e0_0,e0_1,e0_2,rfl,hb0,hok0⟩ :=hp
   refine ⟨154,[.ep (cellsOf .certifyTable t_) 0],Int×Int,_,_,(aS t_),wv,(bU t_),(cW t_),_,l_,_,_,_,[(2,.ptr 2 0),(3,.ptr 3 0)],(fun s_0=> [.cells [.os 4],.dead,.cells (cellsOf .certifyTable t_),.cells [.fn 85 [] [.ptr 0 0]],.row .fault s_0]),(fun x=> x.elim),[0,1,2,3,1],?_,rfl,hok0,Nat.le_of_ble_eq_true rfl,?_,sg t_ hb0,fun z_0 s_0 hq0=> ⟨rfl,L0,fun l=> ?_,fun l=> ?_,?_⟩,fun s_0=> ?_,fun y=> ?_⟩
   ·simp only [go_sem,e0_0,e0_1,e0_2]
   ·simp only [go_sem,Nat.reduceBEq,Nat.reduceLeDiff,Nat.reduceLT,decide_true,Nat.reduceAdd,Nat.reduceSub,Nat.reduceMul,Int.reduceLE,Int.reduceLT,Int.reduceToNat,Int.reduceNeg,reduceCtorEq,mD,ia,List.flatMap_cons,List.flatMap_nil,List.nil_append,List.append_nil,List.map_nil,e0_0,e0_1,e0_2]
    all_goals (first | done | decide | (repeat' (first | refine And.intro ?_ ?_ | rfl | decide)))
   ·simp only [aw,and_self,true_and,and_true]
   ·simp only [aw,and_self,true_and,and_true]
   ·unfold cW at hq0
    simp only [go_sem,Nat.reduceBEq,Nat.reduceLeDiff,Nat.reduceLT,decide_true,Nat.reduceAdd,Nat.reduceSub,Nat.reduceMul,Int.reduceLE,Int.reduceLT,Int.reduceToNat,Int.reduceNeg,reduceCtorEq,ba,bU,psT,wv,List.cons_append,List.nil_append]
    all_goals exact uH
   ·simp only [go_sem,Nat.reduceBEq,Nat.reduceLeDiff,Nat.reduceLT,decide_true,Nat.reduceAdd,Nat.reduceSub,Nat.reduceMul,Int.reduceLE,Int.reduceLT,Int.reduceToNat,Int.reduceNeg,reduceCtorEq,ba]
    all_goals exact uH
   ·simp only [go_sem,Nat.reduceBEq,Nat.reduceLeDiff,Nat.reduceLT,decide_true,Nat.reduceAdd,Nat.reduceSub,Nat.reduceMul,Int.reduceLE,Int.reduceLT,Int.reduceToNat,Int.reduceNeg,reduceCtorEq,ba]
    all_goals exact uH
 ·unfold ag Tryz.f89
  try unfold dv
  simp only [go_sem,Nat.reduceBEq,Nat.reduceLeDiff,Nat.reduceLT,decide_true,Nat.reduceAdd,Nat.reduceSub,Nat.reduceMul,Int.reduceLE,Int.reduceLT,Int.reduceToNat,Int.reduceNeg,reduceCtorEq,ba]
  all_goals exact zP
end Go.Sx
end
section
namespace Go.Sx
open Go.Proofs
set_option maxRecDepth 100000
set_option linter.unusedSimpArgs false
theorem IJ {p : Prop} (h : p:=by (first | done | (repeat' (first | with_reducible refine And.intro ?_ ?_ | ((with_reducible show _≠_);first | assumption | omega | (simp_all [am,aC];done) | grind) | with_reducible intro _)) <;> (first | done | exact Empty.elim ‹Empty› | assumption | rfl | omega | decide | exact fk [0,1,2,4] | exact fk [0,1,2,3] | (simp only [*,cond_true,cond_false,Bool.not_true,Bool.not_false,go_sem,Nat.reduceBEq,Nat.reduceLeDiff,Nat.reduceLT,decide_true,Nat.reduceAdd,Nat.reduceSub,Nat.reduceMul,Int.reduceLE,Int.reduceLT,Int.reduceToNat,Int.reduceNeg,reduceCtorEq];done) | (simp only [*,cond_true,cond_false,Bool.not_true,Bool.not_false,go_sem,Nat.reduceBEq,Nat.reduceLeDiff,Nat.reduceLT,decide_true,Nat.reduceAdd,Nat.reduceSub,Nat.reduceMul,Int.reduceLE,Int.reduceLT,Int.reduceToNat,Int.reduceNeg,reduceCtorEq];(repeat' (first | with_reducible refine And.intro ?_ ?_ | ((with_reducible show _≠_);first | assumption | omega | (simp_all [am,aC];done) | grind) | with_reducible intro _)) <;> (first | done | assumption | rfl | omega | decide | exact fk [0,1,2,4] | exact fk [0,1,2,3] | (simp_all [am,aC];done))) | (simp_all [okI,am,aC];done) | (simp_all [am,aC];(first | done | exact fk2 [0,1,2,4] | exact fk2 [0,1,2,3])) | exact fk2 [0,1,2,4] | exact fk2 [0,1,2,3] | (simp_all only [am,aC,cond_true,cond_false];(first | done | exact fk [0,1,2,4] | exact fk [0,1,2,3] | exact fk2 [0,1,2,4] | exact fk2 [0,1,2,3] | (simp only [go_sem,Nat.reduceBEq,Nat.reduceLeDiff,Nat.reduceLT,decide_true,Nat.reduceAdd,Nat.reduceSub,Nat.reduceMul,Int.reduceLE,Int.reduceLT,Int.reduceToNat,Int.reduceNeg,reduceCtorEq];((repeat' (first | with_reducible refine And.intro ?_ ?_ | ((with_reducible show _≠_);first | assumption | omega | (simp_all [am,aC];done) | grind) | with_reducible intro _)) <;> (first | done | rfl | exact fk [0,1,2,4] | exact fk [0,1,2,3] | exact fk2 [0,1,2,4] | exact fk2 [0,1,2,3])))))))) : p:=h
@[go_sem] def cI (d : District) (c : List Claim) (l_ : List Order) (k_0 : Nat) (s_0 : List Fault) : Empty⊕(List Fault) :=(bif (Nat.beq k_0 0) then .inr (bb ((aj d l_).1) 1 s_0) else (bif (Nat.beq k_0 1) then .inr (bb ((aj d l_).1) 2 s_0) else (bif (Nat.beq k_0 2) then .inr (ci ((aj d l_).1) s_0) else (bif (Nat.beq k_0 3) then .inr (cB ((aj d l_).1) s_0) else (bif (Nat.beq k_0 4) then .inr (dv ((aj d l_).1) s_0) else .inr (b5 c ((aj d l_).1) s_0))))))
def d4 (d : District) (c : List Claim) (l_ : List Order) (k_0 : Nat) (s_0 : List Fault) : Prop:=(((Nat.beq k_0 0)=true→(db ((aj d l_).1) 1 s_0))∧((Nat.beq k_0 0)=false→(((Nat.beq k_0 1)=true→(db ((aj d l_).1) 2 s_0))∧((Nat.beq k_0 1)=false→(((Nat.beq k_0 2)=true→(ed ((aj d l_).1) s_0))∧((Nat.beq k_0 2)=false→(((Nat.beq k_0 3)=true→(eJ ((aj d l_).1) s_0))∧((Nat.beq k_0 3)=false→(((Nat.beq k_0 4)=true→(ee ((aj d l_).1) s_0))∧((Nat.beq k_0 4)=false→(dT c ((aj d l_).1) s_0)))))))))))
def bq (d : District) (c : List Claim) (l_ : List Order) : List Fault×Int:=(bif ((aY d c) !=0) then ([],(aY d c)) else (bif ((aj d l_).2 !=0) then ([],(aj d l_).2) else (match ak (cI d c l_) 6 0 ([]) with | .inl x=> x.elim | .inr s_0=> (s_0,0))))
def cF (d : District) (c : List Claim) (l_ : List Order) : Prop:=((fQ d c)∧(((aY d c) !=0)=false→((fT d l_)∧(((aj d l_).2 !=0)=false→okI (cI d c l_) (d4 d c l_) 6 0 ([])))))
@[go_sem] def iO : List SV→Option Con:=(pD .district fun d=> (pR .claim fun c=> (pR .order fun l_=> (pE (.det (cF d c l_) (.tup [.nw .fault ((bq d c l_).1),.v (.int .i64 ((bq d c l_).2))]))))))
set_option maxHeartbeats 4000000 in
theorem kS : FnOk Tryz.prog 49 iO:=by
 have hG : ConsOk Tryz.prog (mkG [(24,fun l=> km (dw [.st .district,.sl .claim] l)),(84,fun l=> kw (dw [.st .district,.sl .order] l)),(86,fun l=> cK (dw [.st .certifyTable,.o] l)),(90,fun l=> cL (dw [.st .certifyTable,.sl .claim] l))] [(87,fA),(88,fU),(89,fB),(126,eT),(128,eU)]) :=aN (cgc (mK.norm [.st .district,.sl .claim]) (cgc (mL.norm [.st .district,.sl .order]) (cgc (mq.norm [.st .certifyTable,.o]) (cgc (mr.norm [.st .certifyTable,.sl .claim]) cg0)))) (cgc mt (cgc mP (cgc mu (cgc la (cgc ld cg0)))))
 refine Ik [(.cell 6 99,.fault)] mixed aD hG (fn:=Tryz.f49) (c:=ag Tryz.f49) (by kernel_rfl) (by kernel_rfl) (by kernel_rfl) (by kernel_rfl) (bL fun d=> (df fun c=> (df fun l_=> (aV (fun hp=> ?_)))))
 dsimp only [aZ] at hp
 unfold cF at hp
 refine ⟨Nat.le_of_ble_eq_true rfl,(fun id st=> bif Nat.beq id 0 then some (LC (ρ:=Empty) (σ:=List Fault) (lk 6 st.t= .ptr 1 0∧lk 9 st.t= .fn 85 [] [.ptr 1 0]∧lk 41 st.t= .ls [.fn 126 [] [.ep (cellsOf .certifyTable ((aj d l_).1)) 0,.ep [.v (.int .i64 1)] 0],.fn 126 [] [.ep (cellsOf .certifyTable ((aj d l_).1)) 0,.ep [.v (.int .i64 2)] 0],.fn 87 [.agg (cellsOf .certifyTable ((aj d l_).1))] [],.fn 88 [.agg (cellsOf .certifyTable ((aj d l_).1))] [],.fn 89 [.agg (cellsOf .certifyTable ((aj d l_).1))] [],.fn 128 [] [.ep [.rs .claim c] 0,.ep (cellsOf .certifyTable ((aj d l_).1)) 0]]∧lk 42 st.t= .v (.int .i64 6)∧lk 43 st.t= .v (.int .i64 0)∧st.h=[.cells (cellsOf .district d),.cells [.v (.slice none 0 0)],.cells (cellsOf .certifyTable ((aj d l_).1))]∧okI (cI d c l_) (d4 d c l_) 6 0 ([])) (ak (cI d c l_) 6 0 ([])) (fun x=> x.elim) (fun x=> x.elim) (fun s_0=> ⟨[(6,.ptr 1 0)],[.dead,.cells [.os 3],.dead,.row .fault s_0]⟩)) else none),?_,?_⟩
 ·unfold ag Tryz.f49
  simp only [aw,true_and,and_true]
  ·refine EG mixed aD hG (by kernel_rfl) fun st lc hC hp=> ?_
   simp only [go_sem,Nat.reduceBEq,Option.some.injEq] at hC
   subst hC
   obtain ⟨t,h⟩ :=st
   dsimp only [LC] at hp
   obtain ⟨e0_0,e0_1,e0_2,e0_3,e0_4,rfl,hok0⟩ :=hp
   refine ⟨_,_,_,(cI d c l_),(d4 d c l_),6,[],_,_,_,(fun k_0 s_0=> ⟨[(6,.ptr 1 0),(9,.fn 85 [] [.ptr 1 0]),(41,.ls [.fn 126 [] [.ep (cellsOf .certifyTable ((aj d l_).1)) 0,.ep [.v (.int .i64 1)] 0],.fn 126 [] [.ep (cellsOf .certifyTable ((aj d l_).1)) 0,.ep [.v (.int .i64 2)] 0],.fn 87 [.agg (cellsOf .certifyTable ((aj d l_).1))] [],.fn 88 [.agg (cellsOf .certifyTable ((aj d l_).1))] [],.fn 89 [.agg (cellsOf .certifyTable ((aj d l_).1))] [],.fn 128 [] [.ep [.rs .claim c] 0,.ep (cellsOf .certifyTable ((aj d l_).1)) 0]]),(42,.v (.int .i64 6)),(43,.v (.int .i64 (k_0 : Int)))],[.dead,.cells [.os 3],.dead,.row .fault s_0]⟩),⟨t,[.cells (cellsOf .district d),.cells [.os 3],.cells (cellsOf .certifyTable ((aj d l_).1)),.row .fault ([])]⟩,[0,1,2,3],rfl,hok0,NilS.cell (h:=[.cells (cellsOf .district d),.cells [.v (.slice none 0 0)],.cells (cellsOf .certifyTable ((aj d l_).1))]) (i:=1) (j:=0) (.row .fault ([])) (NilS.refl _) rfl rfl (.inl ⟨_,rfl⟩),Nat.le_of_ble_eq_true rfl,?_,fun k_0 s_0 hk0 hp0=> ?_⟩
   ·simp only [go_sem,Nat.reduceBEq,Nat.reduceLeDiff,Nat.reduceLT,decide_true,Nat.reduceAdd,Nat.reduceSub,Nat.reduceMul,Int.reduceLE,Int.reduceLT,Int.reduceToNat,Int.reduceNeg,reduceCtorEq,e0_0,e0_1,e0_2,e0_3,e0_4]
    all_goals (first | done | decide | (repeat' (first | refine And.intro ?_ ?_ | rfl | decide)))
   refine ⟨L0,?_,?_⟩
   ·simp only [aw,and_self,true_and,and_true]
   ·have hkk : k_0=0∨k_0=1∨k_0=2∨k_0=3∨k_0=4∨k_0=5∨k_0=6:=by omega
    have hw0_0 : IntKind.i64.wrap ((0 : Int) + 1)=((0 + 1 : Nat) : Int) :=by decide
    have hw0_1 : IntKind.i64.wrap ((1 : Int) + 1)=((1 + 1 : Nat) : Int) :=by decide
    have hw0_2 : IntKind.i64.wrap ((2 : Int) + 1)=((2 + 1 : Nat) : Int) :=by decide
    have hw0_3 : IntKind.i64.wrap ((3 : Int) + 1)=((3 + 1 : Nat) : Int) :=by decide
    have hw0_4 : IntKind.i64.wrap ((4 : Int) + 1)=((4 + 1 : Nat) : Int) :=by decide
    have hw0_5 : IntKind.i64.wrap ((5 : Int) + 1)=((5 + 1 : Nat) : Int) :=by decide
    rcases hkk with rfl | rfl | rfl | rfl | rfl | rfl | rfl
    all_goals try (have hq0:=hp0 (by decide))
    all_goals try unfold d4 at hq0
    all_goals try simp only [go_sem,Nat.reduceBEq,Nat.reduceEqDiff,cond_true,cond_false,true_imp_iff,false_imp_iff,Bool.false_eq_true,true_and,and_true,reduceCtorEq] at hq0
    all_goals simp only [go_sem,Nat.reduceBEq,Nat.reduceLeDiff,Nat.reduceLT,decide_true,Nat.reduceAdd,Nat.reduceSub,Nat.reduceMul,Int.reduceLE,Int.reduceLT,Int.reduceToNat,Int.reduceNeg,reduceCtorEq,cK,cL,cI,Int.cast_ofNat_Int,Nat.reduceLT,Nat.reduceEqDiff]
    all_goals exact IJ
 ·unfold ag Tryz.f49
  try unfold bq
  simp only [go_sem,Nat.reduceBEq,Nat.reduceLeDiff,Nat.reduceLT,decide_true,Nat.reduceAdd,Nat.reduceSub,Nat.reduceMul,Int.reduceLE,Int.reduceLT,Int.reduceToNat,Int.reduceNeg,reduceCtorEq,cK,cL]
  all_goals exact cl
end Go.Sx
end
section
namespace Go.Sx
open Go.Proofs
set_option maxRecDepth 100000
set_option linter.unusedSimpArgs false
theorem zQ {p : Prop} (h : p:=by (first | done | (repeat' (first | with_reducible refine And.intro ?_ ?_ | ((with_reducible show _≠_);first | assumption | omega | (simp_all [am,aC];done) | grind) | with_reducible intro _)) <;> (first | done | exact Empty.elim ‹Empty› | assumption | rfl | omega | decide | exact fk [] | (simp only [*,cond_true,cond_false,Bool.not_true,Bool.not_false,go_sem,Nat.reduceBEq,Nat.reduceLeDiff,Nat.reduceLT,decide_true,Nat.reduceAdd,Nat.reduceSub,Nat.reduceMul,Int.reduceLE,Int.reduceLT,Int.reduceToNat,Int.reduceNeg,reduceCtorEq];done) | (simp only [*,cond_true,cond_false,Bool.not_true,Bool.not_false,go_sem,Nat.reduceBEq,Nat.reduceLeDiff,Nat.reduceLT,decide_true,Nat.reduceAdd,Nat.reduceSub,Nat.reduceMul,Int.reduceLE,Int.reduceLT,Int.reduceToNat,Int.reduceNeg,reduceCtorEq];(repeat' (first | with_reducible refine And.intro ?_ ?_ | ((with_reducible show _≠_);first | assumption | omega | (simp_all [am,aC];done) | grind) | with_reducible intro _)) <;> (first | done | assumption | rfl | omega | decide | exact fk [] | (simp_all [am,aC];done))) | (simp_all [okI,am,aC];done) | (simp_all [am,aC];(first | done | exact fk2 [])) | exact fk2 [] | (simp_all only [am,aC,cond_true,cond_false];(first | done | exact fk [] | exact fk2 [] | (simp only [go_sem,Nat.reduceBEq,Nat.reduceLeDiff,Nat.reduceLT,decide_true,Nat.reduceAdd,Nat.reduceSub,Nat.reduceMul,Int.reduceLE,Int.reduceLT,Int.reduceToNat,Int.reduceNeg,reduceCtorEq];((repeat' (first | with_reducible refine And.intro ?_ ?_ | ((with_reducible show _≠_);first | assumption | omega | (simp_all [am,aC];done) | grind) | with_reducible intro _)) <;> (first | done | rfl | exact fk [] | exact fk2 [])))))))) : p:=h
theorem IK {p : Prop} (h : p:=by simp only [go_sem,Nat.reduceBEq,Nat.reduceLeDiff,Nat.reduceLT,decide_true,Nat.reduceAdd,Nat.reduceSub,Nat.reduceMul,Int.reduceLE,Int.reduceLT,Int.reduceToNat,Int.reduceNeg,reduceCtorEq,hc,hw];all_goals exact zQ) : p:=h
theorem IL {p : Prop} (h : p:=by simp only [go_sem,Nat.reduceBEq,Nat.reduceLeDiff,Nat.reduceLT,decide_true,Nat.reduceAdd,Nat.reduceSub,Nat.reduceMul,Int.reduceLE,Int.reduceLT,Int.reduceToNat,Int.reduceNeg,reduceCtorEq,hc];all_goals exact zQ) : p:=h
def oD (d : District) : Bool:=((((((decide ((d.reaches.length : Int)≤100)) && (decide ((d.farms.length : Int)≤700))) && (decide ((d.crops.length : Int)≤100))) && (decide ((d.rights.length : Int)≤300))) && (decide ((d.duties.length : Int)≤300))) && (decide ((d.wells.length : Int)≤100)))
@[go_sem] def nY : List SV→Option Con:=(pD .district fun d=> (pE (.det True (.v (.bool (oD d))))))
theorem qB : FnOk Tryz.prog 92 nY:=by
 have hG : ConsOk Tryz.prog (mkG [] []) :=aN cg0 cg0
 refine a_ [.o] mixed aD hG (fn:=Tryz.f92) (c:=ag Tryz.f92) (by kernel_rfl) (by kernel_rfl) (by kernel_rfl) (by kernel_rfl) (bL fun d=> (aV (fun hp=> ?_)))
 dsimp only [aZ] at hp
 refine ⟨Nat.le_of_ble_eq_true rfl,L0,av _,?_⟩
 ·unfold ag Tryz.f92
  try unfold oD
  simp only [go_sem,Nat.reduceBEq,Nat.reduceLeDiff,Nat.reduceLT,decide_true,Nat.reduceAdd,Nat.reduceSub,Nat.reduceMul,Int.reduceLE,Int.reduceLT,Int.reduceToNat,Int.reduceNeg,reduceCtorEq]
  all_goals exact cl
def rK (d : District) (l_ : List Order) : Bool:=(bif ((!(oD d)) || ((decide ((l_.length : Int) > 150)) && ((decide ((l_.length : Int)≤4096)) || (decide ((l_.length : Int) > 5000))))) then false else (bif (((decide (d.hours < 1)) || (decide (d.hours > 4096))) || (decide ((d.reaches.length : Int) > 64))) then true else ((decide ((IntKind.i64.wrap ((d.reaches.length : Int) * d.hours))≤200)) || (decide ((IntKind.i64.wrap ((d.reaches.length : Int) * d.hours)) > 1024)))))
@[go_sem] def sh : List SV→Option Con:=(pD .district fun d=> (pR .order fun l_=> (pE (.det True (.v (.bool (rK d l_)))))))
theorem xT : FnOk Tryz.prog 52 sh:=by
 have hG : ConsOk Tryz.prog (mkG [(92,fun l=> nY (dw [.st .district] l))] []) :=aN (cgc (qB.norm [.st .district]) cg0) cg0
 refine a_ [.o] mixed aD hG (fn:=Tryz.f52) (c:=ag Tryz.f52) (by kernel_rfl) (by kernel_rfl) (by kernel_rfl) (by kernel_rfl) (bL fun d=> (df fun l_=> (aV (fun hp=> ?_))))
 dsimp only [aZ] at hp
 refine ⟨Nat.le_of_ble_eq_true rfl,L0,av _,?_⟩
 ·unfold ag Tryz.f52
  try unfold rK
  simp only [go_sem,Nat.reduceBEq,Nat.reduceLeDiff,Nat.reduceLT,decide_true,Nat.reduceAdd,Nat.reduceSub,Nat.reduceMul,Int.reduceLE,Int.reduceLT,Int.reduceToNat,Int.reduceNeg,reduceCtorEq]
  all_goals exact cl
def jA (d : District) (c : List Claim) : Bool:=((oD d) && ((decide ((c.length : Int)≤300)) || ((decide ((c.length : Int) > 4096)) && (decide ((c.length : Int)≤5000)))))
@[go_sem] def kT : List SV→Option Con:=(pD .district fun d=> (pR .claim fun c=> (pE (.det True (.v (.bool (jA d c)))))))
theorem pt : FnOk Tryz.prog 53 kT:=by
 have hG : ConsOk Tryz.prog (mkG [(92,fun l=> nY (dw [.st .district] l))] []) :=aN (cgc (qB.norm [.st .district]) cg0) cg0
 refine a_ [.o] mixed aD hG (fn:=Tryz.f53) (c:=ag Tryz.f53) (by kernel_rfl) (by kernel_rfl) (by kernel_rfl) (by kernel_rfl) (bL fun d=> (df fun c=> (aV (fun hp=> ?_))))
 dsimp only [aZ] at hp
 refine ⟨Nat.le_of_ble_eq_true rfl,L0,av _,?_⟩
 ·unfold ag Tryz.f53
  try unfold jA
  simp only [go_sem,Nat.reduceBEq,Nat.reduceLeDiff,Nat.reduceLT,decide_true,Nat.reduceAdd,Nat.reduceSub,Nat.reduceMul,Int.reduceLE,Int.reduceLT,Int.reduceToNat,Int.reduceNeg,reduceCtorEq]
  all_goals exact cl
def lV (d : District) (c : List Claim) (l_ : List Order) : Bool:=(((rK d l_) && (jA d c)) && ((decide ((d.farms.length : Int)≤20)) || (decide ((d.farms.length : Int) > 600))))
@[go_sem] def sj : List SV→Option Con:=(pD .district fun d=> (pR .claim fun c=> (pR .order fun l_=> (pE (.det True (.v (.bool (lV d c l_))))))))
theorem xU : FnOk Tryz.prog 28 sj:=by
 have hG : ConsOk Tryz.prog (mkG [(52,fun l=> sh (dw [.st .district,.sl .order] l)),(53,fun l=> kT (dw [.st .district,.sl .claim] l))] []) :=aN (cgc (xT.norm [.st .district,.sl .order]) (cgc (pt.norm [.st .district,.sl .claim]) cg0)) cg0
 refine a_ [.o] mixed aD hG (fn:=Tryz.f28) (c:=ag Tryz.f28) (by kernel_rfl) (by kernel_rfl) (by kernel_rfl) (by kernel_rfl) (bL fun d=> (df fun c=> (df fun l_=> (aV (fun hp=> ?_)))))
 dsimp only [aZ] at hp
 refine ⟨Nat.le_of_ble_eq_true rfl,L0,av _,?_⟩
 ·unfold ag Tryz.f28
  try unfold lV
  simp only [go_sem,Nat.reduceBEq,Nat.reduceLeDiff,Nat.reduceLT,decide_true,Nat.reduceAdd,Nat.reduceSub,Nat.reduceMul,Int.reduceLE,Int.reduceLT,Int.reduceToNat,Int.reduceNeg,reduceCtorEq]
  all_goals exact cl
@[go_sem] def lf (a : List Fault) (b : List Fault) (k_0 : Nat) (s_0 : Unit) : Unit⊕Unit:=(bif (!(((a.getD k_0 (default : Fault)).kind==(b.getD k_0 (default : Fault)).kind) && (((a.getD k_0 (default : Fault)).hour==(b.getD k_0 (default : Fault)).hour) && (((a.getD k_0 (default : Fault)).index==(b.getD k_0 (default : Fault)).index) && (((a.getD k_0 (default : Fault)).litres==(b.getD k_0 (default : Fault)).litres) && ((a.getD k_0 (default : Fault)).limit==(b.getD k_0 (default : Fault)).limit)))))) then .inl () else .inr ())
def gJ (a : List Fault) (b : List Fault) (k_0 : Nat) (s_0 : Unit) : Prop:=(a.length≤bC→(0≤(k_0 : Int)∧(k_0 : Int) < (b.length : Int)))
def mv (a : List Fault) (b : List Fault) : Bool:=(bif ((a.length : Int) !=(b.length : Int)) then false else (match ak (lf a b) a.length 0 () with | .inl x_0_0=> false | .inr s_0=> true))
def qC (a : List Fault) (b : List Fault) : Prop:=(a.length≤bC→(b.length≤bC→(((a.length : Int) !=(b.length : Int))=false→okI (lf a b) (gJ a b) a.length 0 ())))
theorem vv (a b : List Fault) : qC a b:=fun ha hb hne=> kL _ _ _ fun j s h1 h2=> by
 simp at hne
 unfold gJ
 intros
 first | omega | (constructor <;> omega)
@[go_sem] def qD : List SV→Option Con:=(pR .fault fun a=> (pR .fault fun b=> (pE (.det True (.v (.bool (mv a b)))))))
set_option maxHeartbeats 4000000 in
theorem vw : FnOk Tryz.prog 51 qD:=by
 have hG : ConsOk Tryz.prog (mkG [] []) :=aN cg0 cg0
 refine a_ [.o] mixed aD hG (fn:=Tryz.f51) (c:=ag Tryz.f51) (by kernel_rfl) (by kernel_rfl) (by kernel_rfl) (by kernel_rfl) (df fun a=> (df fun b=> (aV (fun hp=> ?_))))
 dsimp only [aZ] at hp
 have hp:=vv a b
 unfold qC at hp
 refine ⟨Nat.le_of_ble_eq_true rfl,(fun id st=> bif Nat.beq id 0 then some (LCR (ρ:=Unit) (σ:=Unit) 0 [] [] (fun k_0 s_0=> ⟨[(0,.rs .fault a),(1,.rs .fault b),(5,.v (.int .i64 (k_0 : Int)))],[]⟩) (lf a b) (gJ a b) a.length () (True) (fun _=> .ret) (fun x_0_0=> ⟨[(4,.v (.bool false))],[]⟩) st) else none),?_,?_⟩
 ·unfold ag Tryz.f51
  simp only [aw,true_and,and_true]
  ·refine HU (a.length≤bC) mixed aD hG (by kernel_rfl) (fun _=> rfl) (a.length : Int) rfl jm (fun hb0 k_0 s_0 hlt0 hq0 hw hc=> ⟨L0,av _,?_⟩) (fun hb0 s_0 hc=> ?_) fun hb0 k_0 s_0=> ?_
   ·unfold gJ at hq0
    try simp only [hw,Int.toNat_natCast] at hq0
    exact IK
   ·exact IL
   ·simp only [go_sem,Nat.reduceBEq,Nat.reduceLeDiff,Nat.reduceLT,decide_true,Nat.reduceAdd,Nat.reduceSub,Nat.reduceMul,Int.reduceLE,Int.reduceLT,Int.reduceToNat,Int.reduceNeg,reduceCtorEq,hb0]
 ·unfold ag Tryz.f51
  try unfold mv
  simp only [go_sem,Nat.reduceBEq,Nat.reduceLeDiff,Nat.reduceLT,decide_true,Nat.reduceAdd,Nat.reduceSub,Nat.reduceMul,Int.reduceLE,Int.reduceLT,Int.reduceToNat,Int.reduceNeg,reduceCtorEq]
  all_goals exact cl
def aJ : District:=({ name:=(ByteArray.mk #[]),hours:=9,tank:=({ cap:=50,start:=50} : Tank),reaches:=[({ name:=(ByteArray.mk #[]),up:=(-1),delay:=1,cap:=20,bank:=30,siphon:=0,evap:=({ lo:=0,hi:=1} : Range),seep:=(({ n:=0,d:=1} : Ratio),({ n:=0,d:=1} : Ratio))} : Reach),({ name:=(ByteArray.mk #[]),up:=0,delay:=2,cap:=10,bank:=12,siphon:=4,evap:=({ lo:=0,hi:=2} : Range),seep:=(({ n:=0,d:=1} : Ratio),({ n:=0,d:=1} : Ratio))} : Reach)],farms:=[({ name:=(ByteArray.mk #[]),reach:=0,area:=0,crop:=(-1)} : Farm),({ name:=(ByteArray.mk #[]),reach:=1,area:=0,crop:=(-1)} : Farm)],crops:=[],rights:=[({ name:=(ByteArray.mk #[]),kind:=1,farm:=0,reach:=0,rank:=0,litres:=3,since:=0,to:=8,every:=1,length:=1} : Right),({ name:=(ByteArray.mk #[]),kind:=1,farm:=1,reach:=0,rank:=0,litres:=5,since:=0,to:=8,every:=1,length:=1} : Right)],duties:=[],wells:=[]} : District)
@[go_sem] def lW : List SV→Option Con:=(pE (.det True (.agg [.v (.string ((aJ).name)),.v (.int .i64 ((aJ).hours)),.v (.int .i64 ((aJ).tank.cap)),.v (.int .i64 ((aJ).tank.start)),.nw .reach ((aJ).reaches),.nw .farm ((aJ).farms),.v (.slice none 0 0),.nw .right ((aJ).rights),.v (.slice none 0 0),.v (.slice none 0 0)])))
theorem qE : FnOk Tryz.prog 46 lW:=by
 have hG : ConsOk Tryz.prog (mkG [] []) :=aN cg0 cg0
 refine A_ true mixed aD hG (fn:=Tryz.f46) (c:=ag Tryz.f46) (by kernel_rfl) (by kernel_rfl) (by kernel_rfl) (by kernel_rfl) (aV (fun hp=> ?_))
 dsimp only [aZ] at hp
 refine ⟨Nat.le_of_ble_eq_true rfl,L0,av _,?_⟩
 ·unfold ag Tryz.f46
  try unfold aJ
  simp only [go_sem,Nat.reduceBEq,Nat.reduceLeDiff,Nat.reduceLT,decide_true,Nat.reduceAdd,Nat.reduceSub,Nat.reduceMul,Int.reduceLE,Int.reduceLT,Int.reduceToNat,Int.reduceNeg,reduceCtorEq]
  all_goals exact cl
def mw (hour : Int) (reach : Int) (n : Int) : Order:=({ hour:=hour,index:=reach,litres:=n,outlet:=false} : Order)
@[go_sem] def qF : List SV→Option Con:=(pI fun hour=> (pI fun reach=> (pI fun n=> (pE (.det True (.agg (cellsOf .order (mw hour reach n))))))))
theorem vz : FnOk Tryz.prog 47 qF:=by
 have hG : ConsOk Tryz.prog (mkG [] []) :=aN cg0 cg0
 refine a_ [.st .order] mixed aD hG (fn:=Tryz.f47) (c:=ag Tryz.f47) (by kernel_rfl) (by kernel_rfl) (by kernel_rfl) (by kernel_rfl) (cy fun hour=> (cy fun reach=> (cy fun n=> (aV (fun hp=> ?_)))))
 dsimp only [aZ] at hp
 refine ⟨Nat.le_of_ble_eq_true rfl,L0,av _,?_⟩
 ·unfold ag Tryz.f47
  try unfold mw
  simp only [go_sem,Nat.reduceBEq,Nat.reduceLeDiff,Nat.reduceLT,decide_true,Nat.reduceAdd,Nat.reduceSub,Nat.reduceMul,Int.reduceLE,Int.reduceLT,Int.reduceToNat,Int.reduceNeg,reduceCtorEq]
  all_goals exact cl
def jU (hour : Int) (farm : Int) (n : Int) : Order:=({ hour:=hour,index:=farm,litres:=n,outlet:=true} : Order)
@[go_sem] def nZ : List SV→Option Con:=(pI fun hour=> (pI fun farm=> (pI fun n=> (pE (.det True (.agg (cellsOf .order (jU hour farm n))))))))
theorem sP : FnOk Tryz.prog 48 nZ:=by
 have hG : ConsOk Tryz.prog (mkG [] []) :=aN cg0 cg0
 refine a_ [.st .order] mixed aD hG (fn:=Tryz.f48) (c:=ag Tryz.f48) (by kernel_rfl) (by kernel_rfl) (by kernel_rfl) (by kernel_rfl) (cy fun hour=> (cy fun farm=> (cy fun n=> (aV (fun hp=> ?_)))))
 dsimp only [aZ] at hp
 refine ⟨Nat.le_of_ble_eq_true rfl,L0,av _,?_⟩
 ·unfold ag Tryz.f48
  try unfold jU
  simp only [go_sem,Nat.reduceBEq,Nat.reduceLeDiff,Nat.reduceLT,decide_true,Nat.reduceAdd,Nat.reduceSub,Nat.reduceMul,Int.reduceLE,Int.reduceLT,Int.reduceToNat,Int.reduceNeg,reduceCtorEq]
  all_goals exact cl
end Go.Sx
end
section
namespace Go.Sx
open Go.Proofs
set_option maxRecDepth 100000
set_option linter.unusedSimpArgs false
def aG (d : District) (c : List Claim) (l_ : List Order) : Bool×Int:=((((bq d c l_).2==0) && ((((bq d c l_).1).length : Int) ==0)),(bq d c l_).2)
def b_ (d : District) (c : List Claim) (l_ : List Order) : Prop:=(cF d c l_)
@[go_sem] def iw : List SV→Option Con:=(pD .district fun d=> (pR .claim fun c=> (pR .order fun l_=> (pE (.det (b_ d c l_) (.tup [.v (.bool ((aG d c l_).1)),.v (.int .i64 ((aG d c l_).2))]))))))
theorem kx : FnOk Tryz.prog 29 iw:=by
 have hG : ConsOk Tryz.prog (mkG [(49,fun l=> iO (dw [.st .district,.sl .claim,.sl .order] l))] []) :=aN (cgc (kS.norm [.st .district,.sl .claim,.sl .order]) cg0) cg0
 refine a_ [.o,.o] mixed aD hG (fn:=Tryz.f29) (c:=ag Tryz.f29) (by kernel_rfl) (by kernel_rfl) (by kernel_rfl) (by kernel_rfl) (bL fun d=> (df fun c=> (df fun l_=> (aV (fun hp=> ?_)))))
 dsimp only [aZ] at hp
 unfold b_ at hp
 refine ⟨Nat.le_of_ble_eq_true rfl,L0,av _,?_⟩
 ·unfold ag Tryz.f29
  try unfold aG
  simp only [go_sem,Nat.reduceBEq,Nat.reduceLeDiff,Nat.reduceLT,decide_true,Nat.reduceAdd,Nat.reduceSub,Nat.reduceMul,Int.reduceLE,Int.reduceLT,Int.reduceToNat,Int.reduceNeg,reduceCtorEq]
  all_goals exact cl
def fV (d : District) (l_ : List Order) (reach : Int) (hour : Int) : Int×Int:=(bif ((bn d) !=0) then (0,(bn d)) else (bif ((aj d l_).2 !=0) then (0,(aj d l_).2) else (bif ((((decide (reach < 0)) || (decide (reach≥(d.reaches.length : Int)))) || (decide (hour < 0))) || (decide (hour≥d.hours))) then (0,1) else ((a7 ((aj d l_).1) reach hour),0))))
def d7 (d : District) (l_ : List Order) (reach : Int) (hour : Int) : Prop:=(((bn d) !=0)=false→((fT d l_)∧(((aj d l_).2 !=0)=false→(((((decide (reach < 0)) || (decide (reach≥(d.reaches.length : Int)))) || (decide (hour < 0))) || (decide (hour≥d.hours)))=false→(ct ((aj d l_).1) reach hour)))))
@[go_sem] def lX : List SV→Option Con:=(pD .district fun d=> (pR .order fun l_=> (pI fun reach=> (pI fun hour=> (pE (.det (d7 d l_ reach hour) (.tup [.v (.int .i64 ((fV d l_ reach hour).1)),.v (.int .i64 ((fV d l_ reach hour).2))])))))))
theorem qG : FnOk Tryz.prog 50 lX:=by
 have hG : ConsOk Tryz.prog (mkG [(42,fun l=> ij (dw [.st .district] l)),(84,fun l=> kw (dw [.st .district,.sl .order] l)),(91,fun l=> eS (dw [.st .certifyTable,.o,.o] l))] []) :=aN (cgc (jx.norm [.st .district]) (cgc (mL.norm [.st .district,.sl .order]) (cgc (gB.norm [.st .certifyTable,.o,.o]) cg0))) cg0
 refine a_ [.o,.o] mixed aD hG (fn:=Tryz.f50) (c:=ag Tryz.f50) (by kernel_rfl) (by kernel_rfl) (by kernel_rfl) (by kernel_rfl) (bL fun d=> (df fun l_=> (cy fun reach=> (cy fun hour=> (aV (fun hp=> ?_))))))
 dsimp only [aZ] at hp
 unfold d7 at hp
 refine ⟨Nat.le_of_ble_eq_true rfl,L0,av _,?_⟩
 ·unfold ag Tryz.f50
  try unfold fV
  simp only [go_sem,Nat.reduceBEq,Nat.reduceLeDiff,Nat.reduceLT,decide_true,Nat.reduceAdd,Nat.reduceSub,Nat.reduceMul,Int.reduceLE,Int.reduceLT,Int.reduceToNat,Int.reduceNeg,reduceCtorEq]
  all_goals exact cl
def cg:=([(mw 2 0 11),(mw 3 1 7),(jU 3 0 3),(jU 5 1 5)])
def dM:=(([]) ++ cg)
def eV:=(dM.getD 0 (default : Order))
def dq:=([({ right:=0,farm:=0,hour:=3,litres:=3,rank:=0} : Claim),({ right:=1,farm:=1,hour:=5,litres:=5,rank:=0} : Claim)])
def fW:=({ name:=(ByteArray.mk #[]),hours:=0,tank:=({ cap:=0,start:=0} : Tank),reaches:=[],farms:=[],crops:=[],rights:=[],duties:=[],wells:=[]} : District)
def cC:=({ name:=aJ.name,hours:=aJ.hours,tank:=aJ.tank,reaches:=aJ.reaches,farms:=aJ.farms,crops:=[],rights:=aJ.rights,duties:=[],wells:=[]} : District)
def fX:=(fV cC cg 1 5)
def fY:=(bq cC dq cg)
def fZ:=(aG cC dq cg)
def eW:=(aJ.reaches.set 0 ({ name:=(aJ.reaches.getD 0 (default : Reach)).name,up:=(aJ.reaches.getD 0 (default : Reach)).up,delay:=(aJ.reaches.getD 0 (default : Reach)).delay,cap:=9,bank:=(aJ.reaches.getD 0 (default : Reach)).bank,siphon:=(aJ.reaches.getD 0 (default : Reach)).siphon,evap:=(aJ.reaches.getD 0 (default : Reach)).evap,seep:=(aJ.reaches.getD 0 (default : Reach)).seep} : Reach))
def dg:=(eW.getD 1 (default : Reach))
def ft:=(dM.set 0 ({ hour:=eV.hour,index:=eV.index,litres:=10,outlet:=eV.outlet} : Order))
def fu:=(ft.getD 1 (default : Order))
def fv:=(ft.set 1 ({ hour:=fu.hour,index:=fu.index,litres:=3,outlet:=fu.outlet} : Order))
def fw:=(fv.getD 3 (default : Order))
def cX:=({ name:=aJ.name,hours:=aJ.hours,tank:=({ cap:=aJ.tank.cap,start:=10} : Tank),reaches:=(eW.set 1 ({ name:=dg.name,up:=dg.up,delay:=dg.delay,cap:=dg.cap,bank:=6,siphon:=dg.siphon,evap:=dg.evap,seep:=dg.seep} : Reach)),farms:=aJ.farms,crops:=[],rights:=aJ.rights,duties:=[],wells:=[]} : District)
def gC:=(aG cX ([]) ([]))
def gD:=(bq cX ([]) cg)
def gE:=(fv.set 3 ({ hour:=fw.hour,index:=fw.index,litres:=4,outlet:=fw.outlet} : Order))
def gG:=(bq cC dq gE)
def ky : Bool:=(bif (((((((((fZ.2 !=0) || (fY.2 !=0)) || (fX.2 !=0)) || (gG.2 !=0)) || (gD.2 !=0)) || (gC.2 !=0)) || ((aG fW ([]) ([])).2 !=191)) || ((fV cX ([]) (-1) 0).2 !=1)) || ((bq cX ([]) ([({ hour:=0,index:=0,litres:=0,outlet:=false} : Order)])).2 !=280)) then false else (((((fZ.1 && (((fY.1).length : Int) ==0)) && (fX.1==5)) && (mv (gG.1) ([({ kind:=2,hour:=3,index:=1,litres:=3,limit:=4} : Fault),({ kind:=5,hour:=5,index:=1,litres:=4,limit:=1} : Fault),({ kind:=6,hour:=5,index:=1,litres:=4,limit:=5} : Fault)]))) && (mv (gD.1) ([({ kind:=1,hour:=2,index:=0,litres:=11,limit:=9} : Fault),({ kind:=3,hour:=3,index:=1,litres:=7,limit:=6} : Fault),({ kind:=3,hour:=4,index:=1,litres:=7,limit:=6} : Fault),({ kind:=4,hour:=2,index:=0,litres:=11,limit:=10} : Fault)]))) && gC.1))
def ix : Prop:=((b_ cC dq cg)∧((cF cC dq cg)∧((d7 cC cg 1 5)∧((dM.length * 32≤ja)∧(dM.length≤bC→((0≤0∧0 < (dM.length : Int))∧((0≤1∧1 < (ft.length : Int))∧((0≤3∧3 < (fv.length : Int))∧((cF cC dq gE)∧((0≤0∧0 < (aJ.reaches.length : Int))∧((0≤1∧1 < (eW.length : Int))∧((cF cX ([]) cg)∧((b_ cX ([]) ([]))∧((b_ fW ([]) ([]))∧((d7 cX ([]) (-1) 0)∧(cF cX ([]) ([({ hour:=0,index:=0,litres:=0,outlet:=false} : Order)])))))))))))))))))
@[go_sem] def qH : List SV→Option Con:=(pE (.det (ix) (.v (.bool (ky)))))
set_option maxHeartbeats 4000000 in
theorem vA : FnOk Tryz.prog 27 qH:=by
 have hG : ConsOk Tryz.prog (mkG [(29,fun l=> iw (dw [.st .district,.sl .claim,.sl .order] l)),(46,lW),(47,qF),(48,nZ),(49,fun l=> iO (dw [.st .district,.sl .claim,.sl .order] l)),(50,fun l=> lX (dw [.st .district,.sl .order,.o,.o] l)),(51,fun l=> qD (dw [.sl .fault,.sl .fault] l))] []) :=aN (cgc (kx.norm [.st .district,.sl .claim,.sl .order]) (cgc qE (cgc vz (cgc sP (cgc (kS.norm [.st .district,.sl .claim,.sl .order]) (cgc (qG.norm [.st .district,.sl .order,.o,.o]) (cgc (vw.norm [.sl .fault,.sl .fault]) cg0))))))) cg0
 refine a_ [.o] mixed aD hG (fn:=Tryz.f27) (c:=ag Tryz.f27) (by kernel_rfl) (by kernel_rfl) (by kernel_rfl) (by kernel_rfl) (aV (fun hp=> ?_))
 dsimp only [aZ] at hp
 unfold ix at hp
 try simp only [cg,dM,eV,dq,fW,cC,fX,fY,fZ,eW,dg,ft,fu,fv,fw,cX,gC,gD,gE,gG] at hp
 refine ⟨Nat.le_of_ble_eq_true rfl,L0,av _,?_⟩
 ·unfold ag Tryz.f27
  try unfold ky
  simp only [go_sem,Nat.reduceBEq,Nat.reduceLeDiff,Nat.reduceLT,decide_true,Nat.reduceAdd,Nat.reduceSub,Nat.reduceMul,Int.reduceLE,Int.reduceLT,Int.reduceToNat,Int.reduceNeg,reduceCtorEq,cg,dM,eV,dq,fW,cC,fX,fY,fZ,eW,dg,ft,fu,fv,fw,cX,gC,gD,gE,gG]
  all_goals exact cl
end Go.Sx
end
