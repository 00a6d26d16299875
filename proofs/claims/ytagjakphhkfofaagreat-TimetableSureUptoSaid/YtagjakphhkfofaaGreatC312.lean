/- Part of the proof that the law TimetableSure returns true and leaves its arguments as they were, for all arguments of bulk at most 1048576 (the Upto form). -/
import Derived.Test.YtagjakphhkfofaaGreatC311
import Derived.Test.YtagjakphhkfofaaGreatC307
import Derived.Test.YtagjakphhkfofaaGreatC306
import Derived.Deep.Slices
import Derived.OpenShut
import Derived.ChangeSame
import Derived.WideKeyArgs
import Derived.Below
import Derived.Test.YtagjakphhkfofaaGreatRows
import Derived.WalkKit
import Derived.ProofKit
import Derived.JoinedCond
import Derived.Carry
set_option linter.all false
section
namespace Go.Sx
open Go.Proofs
set_option maxRecDepth 100000
set_option linter.unusedSimpArgs false
theorem AX {p : Prop} (h : p:=by (first | done | (repeat' (first | with_reducible refine And.intro ?_ ?_ | ((with_reducible show _≠_);first | assumption | omega | (simp_all [aG,aK];done) | grind) | with_reducible intro _)) <;> (first | done | exact Empty.elim ‹Empty› | assumption | rfl | omega | decide | exact fk [0,1,2] | (simp only [*,cond_true,cond_false,Bool.not_true,Bool.not_false,go_sem,Nat.reduceBEq,Nat.reduceLeDiff,Nat.reduceLT,decide_true,Nat.reduceAdd,Nat.reduceSub,Nat.reduceMul,Int.reduceLE,Int.reduceLT,Int.reduceToNat,Int.reduceNeg,reduceCtorEq];done) | (simp only [*,cond_true,cond_false,Bool.not_true,Bool.not_false,go_sem,Nat.reduceBEq,Nat.reduceLeDiff,Nat.reduceLT,decide_true,Nat.reduceAdd,Nat.reduceSub,Nat.reduceMul,Int.reduceLE,Int.reduceLT,Int.reduceToNat,Int.reduceNeg,reduceCtorEq];(repeat' (first | with_reducible refine And.intro ?_ ?_ | ((with_reducible show _≠_);first | assumption | omega | (simp_all [aG,aK];done) | grind) | with_reducible intro _)) <;> (first | done | assumption | rfl | omega | decide | exact fk [0,1,2] | (simp_all [aG,aK];done))) | (simp_all [okI,aG,aK];done) | (simp_all [aG,aK];(first | done | exact fk2 [0,1,2])) | exact fk2 [0,1,2] | (simp_all only [aG,aK,cond_true,cond_false];(first | done | exact fk [0,1,2] | exact fk2 [0,1,2] | (simp only [go_sem,Nat.reduceBEq,Nat.reduceLeDiff,Nat.reduceLT,decide_true,Nat.reduceAdd,Nat.reduceSub,Nat.reduceMul,Int.reduceLE,Int.reduceLT,Int.reduceToNat,Int.reduceNeg,reduceCtorEq];((repeat' (first | with_reducible refine And.intro ?_ ?_ | ((with_reducible show _≠_);first | assumption | omega | (simp_all [aG,aK];done) | grind) | with_reducible intro _)) <;> (first | done | rfl | exact fk [0,1,2] | exact fk2 [0,1,2])))))))) : p:=h
theorem sb {p : Prop} (h : p:=by (first | done | (repeat' (first | with_reducible refine And.intro ?_ ?_ | ((with_reducible show _≠_);first | assumption | omega | (simp_all [aG,aK];done) | grind) | with_reducible intro _)) <;> (first | done | exact Empty.elim ‹Empty› | assumption | rfl | omega | decide | exact fk [0,1,2,3] | (simp only [*,cond_true,cond_false,Bool.not_true,Bool.not_false,go_sem,Nat.reduceBEq,Nat.reduceLeDiff,Nat.reduceLT,decide_true,Nat.reduceAdd,Nat.reduceSub,Nat.reduceMul,Int.reduceLE,Int.reduceLT,Int.reduceToNat,Int.reduceNeg,reduceCtorEq];done) | (simp only [*,cond_true,cond_false,Bool.not_true,Bool.not_false,go_sem,Nat.reduceBEq,Nat.reduceLeDiff,Nat.reduceLT,decide_true,Nat.reduceAdd,Nat.reduceSub,Nat.reduceMul,Int.reduceLE,Int.reduceLT,Int.reduceToNat,Int.reduceNeg,reduceCtorEq];(repeat' (first | with_reducible refine And.intro ?_ ?_ | ((with_reducible show _≠_);first | assumption | omega | (simp_all [aG,aK];done) | grind) | with_reducible intro _)) <;> (first | done | assumption | rfl | omega | decide | exact fk [0,1,2,3] | (simp_all [aG,aK];done))) | (simp_all [okI,aG,aK];done) | (simp_all [aG,aK];(first | done | exact fk2 [0,1,2,3])) | exact fk2 [0,1,2,3] | (simp_all only [aG,aK,cond_true,cond_false];(first | done | exact fk [0,1,2,3] | exact fk2 [0,1,2,3] | (simp only [go_sem,Nat.reduceBEq,Nat.reduceLeDiff,Nat.reduceLT,decide_true,Nat.reduceAdd,Nat.reduceSub,Nat.reduceMul,Int.reduceLE,Int.reduceLT,Int.reduceToNat,Int.reduceNeg,reduceCtorEq];((repeat' (first | with_reducible refine And.intro ?_ ?_ | ((with_reducible show _≠_);first | assumption | omega | (simp_all [aG,aK];done) | grind) | with_reducible intro _)) <;> (first | done | rfl | exact fk [0,1,2,3] | exact fk2 [0,1,2,3])))))))) : p:=h
theorem wh {p : Prop} (h : p:=by (first | done | (repeat' (first | with_reducible refine And.intro ?_ ?_ | ((with_reducible show _≠_);first | assumption | omega | (simp_all [aG,aK];done) | grind) | with_reducible intro _)) <;> (first | done | exact Empty.elim ‹Empty› | assumption | rfl | omega | decide | exact fk [0,1,2,3,4] | (simp only [*,cond_true,cond_false,Bool.not_true,Bool.not_false,go_sem,Nat.reduceBEq,Nat.reduceLeDiff,Nat.reduceLT,decide_true,Nat.reduceAdd,Nat.reduceSub,Nat.reduceMul,Int.reduceLE,Int.reduceLT,Int.reduceToNat,Int.reduceNeg,reduceCtorEq];done) | (simp only [*,cond_true,cond_false,Bool.not_true,Bool.not_false,go_sem,Nat.reduceBEq,Nat.reduceLeDiff,Nat.reduceLT,decide_true,Nat.reduceAdd,Nat.reduceSub,Nat.reduceMul,Int.reduceLE,Int.reduceLT,Int.reduceToNat,Int.reduceNeg,reduceCtorEq];(repeat' (first | with_reducible refine And.intro ?_ ?_ | ((with_reducible show _≠_);first | assumption | omega | (simp_all [aG,aK];done) | grind) | with_reducible intro _)) <;> (first | done | assumption | rfl | omega | decide | exact fk [0,1,2,3,4] | (simp_all [aG,aK];done))) | (simp_all [okI,aG,aK];done) | (simp_all [aG,aK];(first | done | exact fk2 [0,1,2,3,4])) | exact fk2 [0,1,2,3,4] | (simp_all only [aG,aK,cond_true,cond_false];(first | done | exact fk [0,1,2,3,4] | exact fk2 [0,1,2,3,4] | (simp only [go_sem,Nat.reduceBEq,Nat.reduceLeDiff,Nat.reduceLT,decide_true,Nat.reduceAdd,Nat.reduceSub,Nat.reduceMul,Int.reduceLE,Int.reduceLT,Int.reduceToNat,Int.reduceNeg,reduceCtorEq];((repeat' (first | with_reducible refine And.intro ?_ ?_ | ((with_reducible show _≠_);first | assumption | omega | (simp_all [aG,aK];done) | grind) | with_reducible intro _)) <;> (first | done | rfl | exact fk [0,1,2,3,4] | exact fk2 [0,1,2,3,4])))))))) : p:=h
theorem JY {p : Prop} (h : p:=by simp only [go_sem,Nat.reduceBEq,Nat.reduceLeDiff,Nat.reduceLT,decide_true,Nat.reduceAdd,Nat.reduceSub,Nat.reduceMul,Int.reduceLE,Int.reduceLT,Int.reduceToNat,Int.reduceNeg,reduceCtorEq,hc,hw];all_goals exact AX) : p:=h
theorem JZ {p : Prop} (h : p:=by simp only [go_sem,Nat.reduceBEq,Nat.reduceLeDiff,Nat.reduceLT,decide_true,Nat.reduceAdd,Nat.reduceSub,Nat.reduceMul,Int.reduceLE,Int.reduceLT,Int.reduceToNat,Int.reduceNeg,reduceCtorEq,hc];all_goals exact AX) : p:=h
theorem J0 {p : Prop} (h : p:=by simp only [go_sem,Nat.reduceBEq,Nat.reduceLeDiff,Nat.reduceLT,decide_true,Nat.reduceAdd,Nat.reduceSub,Nat.reduceMul,Int.reduceLE,Int.reduceLT,Int.reduceToNat,Int.reduceNeg,reduceCtorEq,hc,hw];all_goals exact sb) : p:=h
theorem J1 {p : Prop} (h : p:=by simp only [go_sem,Nat.reduceBEq,Nat.reduceLeDiff,Nat.reduceLT,decide_true,Nat.reduceAdd,Nat.reduceSub,Nat.reduceMul,Int.reduceLE,Int.reduceLT,Int.reduceToNat,Int.reduceNeg,reduceCtorEq,hc];all_goals exact sb) : p:=h
theorem wi {p : Prop} (h : p:=by simp only [go_sem,Nat.reduceBEq,Nat.reduceLeDiff,Nat.reduceLT,decide_true,Nat.reduceAdd,Nat.reduceSub,Nat.reduceMul,Int.reduceLE,Int.reduceLT,Int.reduceToNat,Int.reduceNeg,reduceCtorEq,hc,hw];all_goals exact wh) : p:=h
theorem wj {p : Prop} (h : p:=by simp only [go_sem,Nat.reduceBEq,Nat.reduceLeDiff,Nat.reduceLT,decide_true,Nat.reduceAdd,Nat.reduceSub,Nat.reduceMul,Int.reduceLE,Int.reduceLT,Int.reduceToNat,Int.reduceNeg,reduceCtorEq,hc];all_goals exact wh) : p:=h
theorem J2 {p : Prop} (h : p:=by simp only [go_sem,Nat.reduceBEq,Nat.reduceLeDiff,Nat.reduceLT,decide_true,Nat.reduceAdd,Nat.reduceSub,Nat.reduceMul,Int.reduceLE,Int.reduceLT,Int.reduceToNat,Int.reduceNeg,reduceCtorEq];all_goals exact wh) : p:=h
@[go_sem] def cK (a1 : List Claim) (k_0 : Nat) (s_0 : List (Acequialaw27Key×Int)) : Empty⊕(List (Acequialaw27Key×Int)) := .inr (cU .acequialaw27Key .int s_0 ({ outlet:=true,index:=(a1.getD k_0 (default : Claim)).farm,hour:=(a1.getD k_0 (default : Claim)).hour} : Acequialaw27Key) (IntKind.i64.wrap ((ay .acequialaw27Key .int s_0 ({ outlet:=true,index:=(a1.getD k_0 (default : Claim)).farm,hour:=(a1.getD k_0 (default : Claim)).hour} : Acequialaw27Key)) + (a1.getD k_0 (default : Claim)).litres)))
@[go_sem] def eb (a2 : List Order) (s_0 : List (Acequialaw27Key×Int)) (k_1 : Acequialaw27Key×Int) (s_1 : Unit) : Unit⊕Unit:=(bif (decide ((ay .acequialaw27Key .int (aP a2) k_1.1) < k_1.2)) then .inl () else .inr ())
def jp (a2 : List Order) (s_0 : List (Acequialaw27Key×Int)) (k_1 : Acequialaw27Key×Int) (s_1 : Unit) : Prop:=True
@[go_sem] def ed (a0 : District) (a2 : List Order) (k_2 : Nat) (k_3 : Nat) (k_4 : Nat) (s_4 : Int×Int) : Int⊕(Int×Int) :=(bif (decide (s_4.2≤(k_3 : Int))) then .inr ((IntKind.i64.wrap (s_4.1 + (ay .acequialaw27Key .int (aP a2) ({ outlet:=false,index:=(k_2 : Int),hour:=s_4.2} : Acequialaw27Key)))),(IntKind.i64.wrap (s_4.2 + 1))) else .inl s_4.1)
@[go_sem] def eV (a0 : District) (a2 : List Order) (k_2 : Nat) (k_3 : Nat) (k_5 : Nat) (s_5 : Int) : Empty⊕Int:=(bif ((a0.reaches.getD k_5 (default : Reach)).up==(k_2 : Int)) then .inr (IntKind.i64.wrap (s_5 + (ay .acequialaw27Key .int (aP a2) ({ outlet:=false,index:=(k_5 : Int),hour:=(k_3 : Int)} : Acequialaw27Key)))) else .inr s_5)
@[go_sem] def fZ (a0 : District) (a2 : List Order) (k_2 : Nat) (k_3 : Nat) (k_6 : Nat) (s_6 : Int) : Empty⊕Int:=(bif ((a0.farms.getD k_6 (default : Farm)).reach==(k_2 : Int)) then .inr (IntKind.i64.wrap (s_6 + (ay .acequialaw27Key .int (aP a2) ({ outlet:=true,index:=(k_6 : Int),hour:=(k_3 : Int)} : Acequialaw27Key)))) else .inr s_6)
@[go_sem] def dm (a0 : District) (a2 : List Order) (k_2 : Nat) (k_3 : Nat) (s_3 : Int) : Unit⊕Int:=(match az (ed a0 a2 k_2 k_3) (1 + Int.toNat (a0.reaches.getD k_2 (default : Reach)).delay) 0 (0,(IntKind.i64.wrap ((IntKind.i64.wrap ((k_3 : Int) - (a0.reaches.getD k_2 (default : Reach)).delay)) + 1))) with | .inl x_4_0=> (bif (((decide ((ay .acequialaw27Key .int (aP a2) ({ outlet:=false,index:=(k_2 : Int),hour:=(k_3 : Int)} : Acequialaw27Key)) > (a0.reaches.getD k_2 (default : Reach)).cap)) || ((decide ((ay .acequialaw27Key .int (aP a2) ({ outlet:=false,index:=(k_2 : Int),hour:=(k_3 : Int)} : Acequialaw27Key)) > 0)) && (decide ((ay .acequialaw27Key .int (aP a2) ({ outlet:=false,index:=(k_2 : Int),hour:=(k_3 : Int)} : Acequialaw27Key)) < (a0.reaches.getD k_2 (default : Reach)).siphon)))) || (decide (x_4_0 > (a0.reaches.getD k_2 (default : Reach)).bank))) then .inl () else (match az (eV a0 a2 k_2 k_3) a0.reaches.length 0 0 with | .inl x=> x.elim | .inr s_5=> (match az (fZ a0 a2 k_2 k_3) a0.farms.length 0 s_5 with | .inl x=> x.elim | .inr s_6=> (bif (((b4 (a0.reaches.getD k_2 (default : Reach)) (ay .acequialaw27Key .int (aP a2) ({ outlet:=false,index:=(k_2 : Int),hour:=(IntKind.i64.wrap ((k_3 : Int) - (a0.reaches.getD k_2 (default : Reach)).delay))} : Acequialaw27Key))).2 !=0) || (decide ((b4 (a0.reaches.getD k_2 (default : Reach)) (ay .acequialaw27Key .int (aP a2) ({ outlet:=false,index:=(k_2 : Int),hour:=(IntKind.i64.wrap ((k_3 : Int) - (a0.reaches.getD k_2 (default : Reach)).delay))} : Acequialaw27Key))).1 < s_6))) then .inl () else .inr (bif ((k_2 : Int) ==0) then (IntKind.i64.wrap (s_3 + (ay .acequialaw27Key .int (aP a2) ({ outlet:=false,index:=(k_2 : Int),hour:=(k_3 : Int)} : Acequialaw27Key)))) else s_3))))) | .inr s_4=> .inr default)
def jq (a0 : District) (a2 : List Order) (k_2 : Nat) (k_3 : Nat) (s_3 : Int) : Prop:=(∀ z_,az (ed a0 a2 k_2 k_3) (1 + Int.toNat (a0.reaches.getD k_2 (default : Reach)).delay) 0 (0,(IntKind.i64.wrap ((IntKind.i64.wrap ((k_3 : Int) - (a0.reaches.getD k_2 (default : Reach)).delay)) + 1)))≠ .inr z_)
@[go_sem] def ee (a0 : District) (a2 : List Order) (k_2 : Nat) (s_2 : Int) : Unit⊕Int:=(match az (dm a0 a2 k_2) (Int.toNat a0.hours) 0 s_2 with | .inl x_3_0=> .inl () | .inr s_3=> .inr s_3)
def jr (a0 : District) (a2 : List Order) (k_2 : Nat) (s_2 : Int) : Prop:=((a0.hours < 9223372036854775808)∧okI (dm a0 a2 k_2) (jq a0 a2 k_2) (Int.toNat a0.hours) 0 s_2)
def f0 (a0 : District) (a1 : List Claim) (a2 : List Order) : Bool:=(match az (cK a1) a1.length 0 ([]) with | .inl x=> x.elim | .inr s_0=> (match bJ (eb a2 s_0) s_0 () with | .inl x_1_0=> false | .inr s_1=> (match az (ee a0 a2) a0.reaches.length 0 0 with | .inl x_2_0=> false | .inr s_2=> (decide (s_2≤a0.tank.start)))))
def jF (a0 : District) (a1 : List Claim) (a2 : List Order) : Prop:=(a1.length≤bu→(∀ s_0,az (cK a1) a1.length 0 ([])= .inr s_0→(okM (eb a2 s_0) (jp a2 s_0) s_0 ()∧(∀ s_1,bJ (eb a2 s_0) s_0 ()= .inr s_1→(a0.reaches.length≤bu→okI (ee a0 a2) (jr a0 a2) a0.reaches.length 0 0)))))
@[go_sem] def qm : List SV→Option Con:=(pD .district fun a0=> (pR .claim fun a1=> (pR .order fun a2=> (pE (.det (jF a0 a1 a2) (.v (.bool (f0 a0 a1 a2))))))))
set_option maxHeartbeats 4000000 in
theorem wl : FnOk Tryz.prog 26 qm:=by
 have hG : ConsOk Tryz.prog (mkG [(20,fun l=> pf (cO [.sl .order] l)),(45,oQ)] []) :=aQ (cgc (tY.norm [.sl .order]) (cgc tR cg0)) cg0
 refine bb [.o] mixed aH hG (fn:=Tryz.f26) (c:=aj Tryz.f26) (by kernel_rfl) (by kernel_rfl) (by kernel_rfl) (by kernel_rfl) (bU fun a0=> (c8 fun a1=> (c8 fun a2=> (aM (fun hp=> ?_)))))
 dsimp only [aW] at hp
 unfold jF at hp
 refine ⟨Nat.le_of_ble_eq_true rfl,(fun id st=> bif Nat.beq id 0 then some (LCR (ρ:=Empty) (σ:=(List (Acequialaw27Key×Int))) 3 [] [0,1,2] (fun k_0 s_0=> ⟨[(3,.ptr 0 0),(7,.os 1),(8,.os 2),(30,.rs .claim a1),(31,.v (.int .i64 (a1.length : Int))),(32,.v (.int .i64 (k_0 : Int)))],[.cells (cellsOf .district a0),.mp .acequialaw27Key .int (aP a2) none,.mp .acequialaw27Key .int s_0 none]⟩) (cK a1) pT a1.length ([]) (a1.length≤bu) ((·.elim)) ((·.elim)) st) else bif Nat.beq id 2 then some (LCM (τ:=Acequialaw27Key×Int) (ρ:=Unit) (σ:=Unit) 4 [] [0,1,2,3] (fun left_1 cur_1 s_1=> ⟨[(3,.ptr 0 0),(7,.os 1),(50,.ptr 3 0)],[.cells (cellsOf .district a0),.mp .acequialaw27Key .int (aP a2) none,.mp .acequialaw27Key .int (aG (az (cK a1) a1.length 0 ([]))) none,.mi (some 2) (aG (az (cK a1) a1.length 0 ([]))).length left_1 cur_1]⟩) (eb a2 (aG (az (cK a1) a1.length 0 ([])))) (jp a2 (aG (az (cK a1) a1.length 0 ([])))) (aG (az (cK a1) a1.length 0 ([]))) () (fun _=> .ret) (fun x_1_0=> ⟨[(6,.v (.bool false))],[.dead,.dead,.dead,.dead]⟩) (fun s_1=> ⟨[(3,.ptr 0 0),(7,.os 1)],[.cells (cellsOf .district a0),.mp .acequialaw27Key .int (aP a2) none,.dead,.dead]⟩) st) else bif Nat.beq id 4 then some (LCR (ρ:=Unit) (σ:=Int) 4 [] [0,1,2,3] (fun k_2 s_2=> ⟨[(3,.ptr 0 0),(7,.os 1),(13,.v (.int .i64 s_2)),(62,.rs .reach a0.reaches),(63,.v (.int .i64 (a0.reaches.length : Int))),(64,.v (.int .i64 (k_2 : Int)))],[.cells (cellsOf .district a0),.mp .acequialaw27Key .int (aP a2) none,.dead,.dead]⟩) (ee a0 a2) (jr a0 a2) a0.reaches.length 0 (a0.reaches.length≤bu) (fun _=> .ret) (fun x_2_0=> ⟨[(6,.v (.bool false))],[.dead,.dead,.dead,.dead]⟩) st) else none),?_,?_⟩
 ·unfold aj Tryz.f26
  simp only [aB,true_and,and_true]
  refine ⟨?_,?_,?_⟩
  ·refine cp mixed aH hG (by kernel_rfl) (fun _=> rfl) (a1.length : Int) rfl jS (fun hb0 k_0 s_0 hlt0 _ hw hc=> ⟨L0,aw _,?_⟩) (fun hb0 s_0 hc=> ?_)
   ·exact JY
   ·exact JZ
  ·refine IV (c6 .acequialaw27Key,c6 .int) 3 mixed aH hG (by kernel_rfl) (fun _=> rfl) fun left_1 cur_1 s_1 hp1=> ⟨L0,aw _,?_⟩
   ·by_cases hl1 : left_1=[]
    ·subst hl1
     simp only [go_sem,Nat.reduceBEq,Nat.reduceLeDiff,Nat.reduceLT,decide_true,Nat.reduceAdd,Nat.reduceSub,Nat.reduceMul,Int.reduceLE,Int.reduceLT,Int.reduceToNat,Int.reduceNeg,reduceCtorEq,List.not_mem_nil]
     all_goals exact sb
    ·simp only [go_sem,Nat.reduceBEq,Nat.reduceLeDiff,Nat.reduceLT,decide_true,Nat.reduceAdd,Nat.reduceSub,Nat.reduceMul,Int.reduceLE,Int.reduceLT,Int.reduceToNat,Int.reduceNeg,reduceCtorEq,hl1]
     intro j hj1
     obtain ⟨hlt1,hq1⟩ :=hp1 j hj1
     unfold jp at hq1
     all_goals exact sb
  ·refine cp mixed aH hG (by kernel_rfl) (fun _=> rfl) (a0.reaches.length : Int) rfl jS (fun hb2 k_2 s_2 hlt2 hq2 hw hc=> ⟨(fun id st=> bif Nat.beq id 6 then some (LCR (ρ:=Unit) (σ:=Int) 5 [] [0,1,2,3,4] (fun k_3 s_3=> ⟨[(3,.ptr 0 0),(7,.os 1),(13,.v (.int .i64 s_3)),(14,.v (.int .i64 (k_2 : Int))),(15,.ptr 4 0),(62,.rs .reach a0.reaches),(63,.v (.int .i64 (a0.reaches.length : Int))),(64,.v (.int .i64 (k_2 : Int))),(70,.v (.int .i64 a0.hours)),(71,.v (.int .i64 (k_3 : Int)))],[.cells (cellsOf .district a0),.mp .acequialaw27Key .int (aP a2) none,.dead,.dead,.cells (cellsOf .reach (a0.reaches.getD k_2 (default : Reach)))]⟩) (dm a0 a2 k_2) (jq a0 a2 k_2) (Int.toNat a0.hours) s_2 (a0.hours < 9223372036854775808) (fun _=> .ret) (fun x_3_0=> ⟨[(6,.v (.bool false))],[.dead,.dead,.dead,.dead,.dead]⟩) st) else none),?_,?_⟩) (fun hb2 s_2 hc=> ?_)
   ·simp only [aB,true_and,and_true]
    ·refine cp mixed aH hG (by kernel_rfl) (fun _=> rfl) a0.hours rfl id (fun hb3 k_3 s_3 hlt3 hq3 hw hc=> ⟨(fun id st=> bif Nat.beq id 8 then some (LCV (ρ:=Int) (σ:=(Int×Int)) 5 [] [0,1,2,3,4] (fun k_4 s_4=> ⟨[(3,.ptr 0 0),(7,.os 1),(13,.v (.int .i64 s_3)),(14,.v (.int .i64 (k_2 : Int))),(15,.ptr 4 0),(16,.v (.int .i64 (k_3 : Int))),(17,.v (.int .i64 (ay .acequialaw27Key .int (aP a2) ({ outlet:=false,index:=(k_2 : Int),hour:=(k_3 : Int)} : Acequialaw27Key)))),(18,.v (.int .i64 s_4.1)),(19,.v (.int .i64 s_4.2)),(62,.rs .reach a0.reaches),(63,.v (.int .i64 (a0.reaches.length : Int))),(64,.v (.int .i64 (k_2 : Int))),(70,.v (.int .i64 a0.hours)),(71,.v (.int .i64 (k_3 : Int)))],[.cells (cellsOf .district a0),.mp .acequialaw27Key .int (aP a2) none,.dead,.dead,.cells (cellsOf .reach (a0.reaches.getD k_2 (default : Reach)))]⟩) (ed a0 a2 k_2 k_3) pT (1 + Int.toNat (a0.reaches.getD k_2 (default : Reach)).delay) (0,(IntKind.i64.wrap ((IntKind.i64.wrap ((k_3 : Int) - (a0.reaches.getD k_2 (default : Reach)).delay)) + 1))) (fun _=> .normal) (fun x_4_0=> ⟨[(3,.ptr 0 0),(7,.os 1),(13,.v (.int .i64 s_3)),(14,.v (.int .i64 (k_2 : Int))),(15,.ptr 4 0),(16,.v (.int .i64 (k_3 : Int))),(17,.v (.int .i64 (ay .acequialaw27Key .int (aP a2) ({ outlet:=false,index:=(k_2 : Int),hour:=(k_3 : Int)} : Acequialaw27Key)))),(18,.v (.int .i64 x_4_0)),(62,.rs .reach a0.reaches),(63,.v (.int .i64 (a0.reaches.length : Int))),(64,.v (.int .i64 (k_2 : Int))),(70,.v (.int .i64 a0.hours)),(71,.v (.int .i64 (k_3 : Int)))],[.cells (cellsOf .district a0),.mp .acequialaw27Key .int (aP a2) none,.dead,.dead,.cells (cellsOf .reach (a0.reaches.getD k_2 (default : Reach)))]⟩) st) else bif Nat.beq id 1000117 then some (JC (⟨[(3,.ptr 0 0),(7,.os 1),(13,.v (.int .i64 (bif ((k_2 : Int) ==0) then (IntKind.i64.wrap (s_3 + (ay .acequialaw27Key .int (aP a2) ({ outlet:=false,index:=(k_2 : Int),hour:=(k_3 : Int)} : Acequialaw27Key)))) else s_3))),(14,.v (.int .i64 (k_2 : Int))),(15,.ptr 4 0),(16,.v (.int .i64 (k_3 : Int))),(62,.rs .reach a0.reaches),(63,.v (.int .i64 (a0.reaches.length : Int))),(64,.v (.int .i64 (k_2 : Int))),(70,.v (.int .i64 a0.hours)),(71,.v (.int .i64 (k_3 : Int)))],[.cells (cellsOf .district a0),.mp .acequialaw27Key .int (aP a2) none,.dead,.dead,.cells (cellsOf .reach (a0.reaches.getD k_2 (default : Reach)))]⟩)) else bif Nat.beq id 10 then some (LCR (ρ:=Empty) (σ:=Int) 5 [] [0,1,2,3,4] (fun k_5 s_5=> ⟨[(3,.ptr 0 0),(7,.os 1),(13,.v (.int .i64 (bif ((k_2 : Int) ==0) then (IntKind.i64.wrap (s_3 + (ay .acequialaw27Key .int (aP a2) ({ outlet:=false,index:=(k_2 : Int),hour:=(k_3 : Int)} : Acequialaw27Key)))) else s_3))),(14,.v (.int .i64 (k_2 : Int))),(15,.ptr 4 0),(16,.v (.int .i64 (k_3 : Int))),(20,.v (.int .i64 s_5)),(62,.rs .reach a0.reaches),(63,.v (.int .i64 (a0.reaches.length : Int))),(64,.v (.int .i64 (k_2 : Int))),(70,.v (.int .i64 a0.hours)),(71,.v (.int .i64 (k_3 : Int))),(122,.rs .reach a0.reaches),(123,.v (.int .i64 (a0.reaches.length : Int))),(124,.v (.int .i64 (k_5 : Int)))],[.cells (cellsOf .district a0),.mp .acequialaw27Key .int (aP a2) none,.dead,.dead,.cells (cellsOf .reach (a0.reaches.getD k_2 (default : Reach)))]⟩) (eV a0 a2 k_2 k_3) pT a0.reaches.length 0 (a0.reaches.length≤bu) ((·.elim)) ((·.elim)) st) else bif Nat.beq id 12 then some (LCR (ρ:=Empty) (σ:=Int) 5 [] [0,1,2,3,4] (fun k_6 s_6=> ⟨[(3,.ptr 0 0),(7,.os 1),(13,.v (.int .i64 (bif ((k_2 : Int) ==0) then (IntKind.i64.wrap (s_3 + (ay .acequialaw27Key .int (aP a2) ({ outlet:=false,index:=(k_2 : Int),hour:=(k_3 : Int)} : Acequialaw27Key)))) else s_3))),(14,.v (.int .i64 (k_2 : Int))),(15,.ptr 4 0),(16,.v (.int .i64 (k_3 : Int))),(20,.v (.int .i64 s_6)),(62,.rs .reach a0.reaches),(63,.v (.int .i64 (a0.reaches.length : Int))),(64,.v (.int .i64 (k_2 : Int))),(70,.v (.int .i64 a0.hours)),(71,.v (.int .i64 (k_3 : Int))),(142,.rs .farm a0.farms),(143,.v (.int .i64 (a0.farms.length : Int))),(144,.v (.int .i64 (k_6 : Int)))],[.cells (cellsOf .district a0),.mp .acequialaw27Key .int (aP a2) none,.dead,.dead,.cells (cellsOf .reach (a0.reaches.getD k_2 (default : Reach)))]⟩) (fZ a0 a2 k_2 k_3) pT a0.farms.length (aG (az (eV a0 a2 k_2 k_3) a0.reaches.length 0 0)) (a0.farms.length≤bu) ((·.elim)) ((·.elim)) st) else none),?_,?_⟩) (fun hb3 s_3 hc=> ?_)
     ·simp only [aB,true_and,and_true]
      refine ⟨?_,?_,?_⟩
      ·refine zW mixed aH hG (by kernel_rfl) (fun _=> rfl) fun k_4 s_4 _=> ⟨L0,aw _,?_⟩
       ·exact J2
      ·refine cp mixed aH hG (by kernel_rfl) (fun _=> rfl) (a0.reaches.length : Int) rfl jS (fun hb5 k_5 s_5 hlt5 _ hw hc=> ⟨L0,aw _,?_⟩) (fun hb5 s_5 hc=> ?_)
       ·exact wi
       ·exact wj
      ·refine cp mixed aH hG (by kernel_rfl) (fun _=> rfl) (a0.farms.length : Int) rfl jS (fun hb6 k_6 s_6 hlt6 _ hw hc=> ⟨L0,aw _,?_⟩) (fun hb6 s_6 hc=> ?_)
       ·exact wi
       ·exact wj
     ·unfold jq at hq3
      try simp only [hw,Int.toNat_natCast] at hq3
      exact wi
     ·exact wj
   ·unfold jr at hq2
    try simp only [hw,Int.toNat_natCast] at hq2
    exact J0
   ·exact J1
 ·unfold aj Tryz.f26
  try unfold f0
  simp only [go_sem,Nat.reduceBEq,Nat.reduceLeDiff,Nat.reduceLT,decide_true,Nat.reduceAdd,Nat.reduceSub,Nat.reduceMul,Int.reduceLE,Int.reduceLT,Int.reduceToNat,Int.reduceNeg,reduceCtorEq]
  all_goals exact cl
end Go.Sx
end
section
namespace Go.Sx
open Go.Proofs
section
variable {d : District} {c : List Claim} {l : List Order}
def wN (o : Bool) (i h : Int) : Acequialaw27Key:= { outlet:=o,index:=i,hour:=h}
theorem AY {o o' : Bool} {i i' h h' : Int} : (wN o i h=wN o' i' h')=(o=o'∧i=i'∧h=h') :=by
 unfold wN
 simp only [Acequialaw27Key.mk.injEq]
theorem wm (ho : Orders1 d l) (o : Bool) (i h : Int) : ay .acequialaw27Key .int (aP l) (wN o i h)=aT (iH h i o) l:=by
 obtain ⟨m,e,hm⟩ :=nB (step:=kf l) (fun j m=> ∀ o i h,ay .acequialaw27Key .int m (wN o i h)=aT (iH h i o) (l.take j)) l.length 0 [] (fun _ _ _=> rfl) (fun j m _ hj hm=> by
  have hj : j < l.length:=by omega
  have hlit:=ho.lit _ (List.getElem_mem hj)
  refine ⟨_,rfl,fun o i h=> ?_⟩
  rw [c9 _ _ hj]
  show ay .acequialaw27Key .int (cU .acequialaw27Key .int m (wN l[j].outlet l[j].index l[j].hour) (IntKind.i64.wrap (ay .acequialaw27Key .int m (wN l[j].outlet l[j].index l[j].hour) + l[j].litres))) (wN o i h)=_
  have hb:=yO ho (iH l[j].hour l[j].index l[j].outlet) j
  rw [eZ,hm,hm,cd (by omega) (by omega),kO hj]
  by_cases q : wN o i h=wN l[j].outlet l[j].index l[j].hour
  ·rw [if_pos q]
   rw [AY] at q
   obtain ⟨rfl,rfl,rfl⟩ :=q
   have : iH l[j].hour l[j].index l[j].outlet l[j]=true:=by unfold iH;simp
   rw [this,cond_true]
  ·rw [if_neg q]
   have : iH h i o l[j]=false:=by
    cases hc : iH h i o l[j] with
    | false=> rfl
    | true=>
     unfold iH at hc
     simp only [Bool.and_eq_true,beq_iff_eq] at hc
     exact absurd (by rw [AY];exact ⟨hc.2.symm,hc.1.2.symm,hc.1.1.symm⟩) q
   rw [this,cond_false,Int.add_zero])
 rw [Nat.zero_add,List.take_length] at hm
 unfold aP
 simp only [e]
 exact hm o i h
theorem pg (ho : Orders1 d l) (i h : Int) : ay .acequialaw27Key .int (aP l) ({ outlet:=false,index:=i,hour:=h} : Acequialaw27Key)=aT (aY i h h) l:=
 (wm ho false i h).trans (nv fun x _=> Cj i h x)
theorem qK (ho : Orders1 d l) (i h : Int) : ay .acequialaw27Key .int (aP l) ({ outlet:=true,index:=i,hour:=h} : Acequialaw27Key)=aT (lw i h) l:=
 (wm ho true i h).trans (nv fun x _=> FX i h x)
theorem wn {c : List Claim} (h : okL1 c) : ∃ m,az (cK c) c.length 0 []= .inr m∧SM .acequialaw27Key (fun p=> if p.outlet=true then ke c p.index p.hour else 0) m:=by
 obtain ⟨m,e,hm⟩ :=nB (step:=cK c) (fun j m=> SM .acequialaw27Key (fun p=> if p.outlet=true then ke (c.take j) p.index p.hour else 0) m) c.length 0 [] (by
  refine SM.congr SM.nil fun p=> ?_
  simp only [List.take_zero,ke,eE,ite_self]) (fun j m _ hj hm=> by
  have hj : j < c.length:=by omega
  refine ⟨_,rfl,?_⟩
  rw [c9 _ _ hj]
  have h1:=EM (h.take j) c[j].farm c[j].hour
  have h2:=h.2 _ (List.getElem_mem hj)
  have h3:=hm.get ({ outlet:=true,index:=c[j].farm,hour:=c[j].hour} : Acequialaw27Key)
  simp only [if_true] at h3
  refine hm.put _ (v:=_) ?_ fun p=> ?_
  ·rw [h3,cd (by omega) (by omega)];omega
  ·rw [h3,cd (by omega) (by omega)]
   by_cases hp : p=({ outlet:=true,index:=c[j].farm,hour:=c[j].hour} : Acequialaw27Key)
   ·subst hp
    rw [if_pos rfl,if_pos rfl,sY hj,if_pos (by rfl)]
   ·rw [if_neg hp]
    by_cases ho : p.outlet=true
    ·rw [if_pos ho,if_pos ho,sY hj,if_neg (fun q=> hp (by
      unfold oP qI at q
      simp only [CertifyPlace.mk.injEq] at q
      obtain ⟨a,b,t⟩ :=p
      simp only [Acequialaw27Key.mk.injEq]
      exact ⟨ho,q.2.1,q.1⟩))]
     exact Int.add_zero _
    ·rw [if_neg ho,if_neg ho])
 rw [Nat.zero_add,List.take_length] at hm
 exact ⟨m,e,hm⟩
theorem wo (ho : Orders1 d l) {i h : Nat} (hh : h≤4096) {dl : Nat} (hd : dl≤16) : ∀ (m n j t : Nat),t + m=dl→m < n→
  az (ed d l i h) n j (aT (aY i ((h : Int) - dl + 1) ((h : Int) - dl + t)) l,(h : Int) - dl + 1 + t)= .inl (aT (aY i ((h : Int) - dl + 1) h) l)
 | 0,n + 1,j,t,e1,_=> by
  simp only [az]
  unfold ed
  simp only
  rw [decide_eq_false (by omega),cond_false,show (h : Int) - dl + t=h by omega]
 | m + 1,n + 1,j,t,e1,hn=> by
  simp only [az]
  have ih:=wo ho (i:=i) hh hd m n (j + 1) (t + 1) (by omega) (by omega)
  have a1:=mn ho (aY i ((h : Int) - dl + 1) ((h : Int) - dl + t))
  have a2:=nE ho (i : Int) ((h : Int) - dl + 1 + t)
  have a3:=vQ ho (i : Int) (a:=(h : Int) - dl + 1) (m:=(h : Int) - dl + 1 + t) (b:=(h : Int) - dl + 1 + t) (by omega) (by omega)
  rw [show (h : Int) - dl + 1 + t - 1=(h : Int) - dl + t by omega] at a3
  unfold ed
  simp only
  rw [decide_eq_true (by omega),cond_true,pg ho,cd (by omega) (by omega),cd (by omega) (by omega),a3]
  simp only
  rw [show (h : Int) - dl + ((t + 1 : Nat) : Int)=(h : Int) - dl + 1 + t by omega,show (h : Int) - dl + 1 + ((t + 1 : Nat) : Int)=(h : Int) - dl + 1 + t + 1 by omega] at ih
  exact ih
def dgP (d : District) (i h : Int) (k : Int) (x : Order) : Bool:=(x.hour==h) && (!x.outlet && (d.reaches.getD x.index.toNat default).up==i && decide (x.index < k))
def doP (d : District) (i h : Int) (k : Int) (x : Order) : Bool:=(x.hour==h) && (x.outlet && (d.farms.getD x.index.toNat default).reach==i && decide (x.index < k))
theorem Ot (hg : Good d l) (i h : Nat) : az (eV d l i h) d.reaches.length 0 0= .inr (aT (dgP d i h d.reaches.length) l) :=by
 have ho:=hg.orders
 obtain ⟨s,e,hs⟩ :=nB (step:=eV d l i h) (fun k s=> s=aT (dgP d i h k) l) d.reaches.length 0 0 (by
  refine (ew fun x hx=> ?_).symm
  have:=(hg.one x hx).index0
  unfold dgP
  rw [decide_eq_false (by omega),Bool.and_false,Bool.and_false]) (fun k s _ hk hs=> by
  have hk : k < d.reaches.length:=by omega
  have a1:=mn ho (dgP d i h k)
  have a2:=nE ho (k : Int) (h : Int)
  have key : ∀ x∈l,dgP d i h ((k + 1 : Nat) : Int) x=(dgP d i h k x || ((d.reaches.getD k (default : Reach)).up==(i : Int) && aY k h h x))∧(dgP d i h k x && ((d.reaches.getD k (default : Reach)).up==(i : Int) && aY k h h x))=false:=fun x hx=> by
   have h0:=(hg.one x hx).index0
   unfold dgP aY
   constructor
   ·refine xI ?_
    simp only [Bool.and_eq_true,Bool.or_eq_true,Bool.not_eq_true',beq_iff_eq,decide_eq_true_eq]
    constructor
    ·rintro ⟨h1,⟨h2,h3⟩,h4⟩
     by_cases q : x.index < k
     ·exact .inl ⟨h1,⟨h2,h3⟩,q⟩
     ·have : x.index.toNat=k:=by omega
      rw [this] at h3
      exact .inr ⟨h3,⟨⟨h2,by omega⟩,by omega⟩,by omega⟩
    ·rintro (⟨h1,⟨h2,h3⟩,h4⟩ | ⟨h3,⟨⟨h2,h5⟩,h6⟩,h7⟩)
     ·exact ⟨h1,⟨h2,h3⟩,by omega⟩
     ·have : x.index.toNat=k:=by omega
      rw [this]
      exact ⟨by omega,⟨h2,h3⟩,by omega⟩
   ·refine Bool.eq_false_iff.2 fun q=> ?_
    simp only [Bool.and_eq_true,Bool.not_eq_true',beq_iff_eq,decide_eq_true_eq] at q
    obtain ⟨⟨_,_,q1⟩,_,⟨⟨_,q2⟩,_⟩,_⟩ :=q
    omega
  have hsum:=rK key
  unfold eV
  cases hu : ((d.reaches.getD k (default : Reach)).up==(i : Int)) with
  | true=>
   rw [hu] at hsum
   simp only [Bool.true_and] at hsum
   have hsum : aT (dgP d i h k) l + aT (aY k h h) l=aT (dgP d i h ((k + 1 : Nat) : Int)) l:=hsum
   rw [cond_true,pg ho,hs,cd (by omega) (by omega),hsum]
   exact ⟨_,rfl,rfl⟩
  | false=>
   rw [hu] at hsum
   simp only [Bool.false_and] at hsum
   have h0 : aT (fun _=> false) l=0:=ew fun _ _=> rfl
   rw [h0,Int.add_zero] at hsum
   rw [cond_false,hs,hsum]
   exact ⟨_,rfl,rfl⟩)
 rw [Nat.zero_add] at hs
 rw [e,hs]
theorem Ou (hg : Good d l) (i h : Nat) {s0 : Int} (h0 : 0≤s0) (h1 : s0≤4398046511104) : az (fZ d l i h) d.farms.length 0 s0= .inr (s0 + aT (doP d i h d.farms.length) l) :=by
 have ho:=hg.orders
 obtain ⟨s,e,hs⟩ :=nB (step:=fZ d l i h) (fun k s=> s=s0 + aT (doP d i h k) l) d.farms.length 0 s0 (by
  have : aT (doP d i h ((0 : Nat) : Int)) l=0:=ew fun x hx=> by
   have:=(hg.one x hx).index0
   unfold doP
   rw [decide_eq_false (by omega),Bool.and_false,Bool.and_false]
  rw [this,Int.add_zero]) (fun k s _ hk hs=> by
  have hk : k < d.farms.length:=by omega
  have a1:=mn ho (doP d i h k)
  have a2:=mn ho (lw k h)
  have key : ∀ x∈l,doP d i h ((k + 1 : Nat) : Int) x=(doP d i h k x || ((d.farms.getD k (default : Farm)).reach==(i : Int) && lw k h x))∧(doP d i h k x && ((d.farms.getD k (default : Farm)).reach==(i : Int) && lw k h x))=false:=fun x hx=> by
   have h0:=(hg.one x hx).index0
   unfold doP lw
   constructor
   ·refine xI ?_
    simp only [Bool.and_eq_true,Bool.or_eq_true,beq_iff_eq,decide_eq_true_eq]
    constructor
    ·rintro ⟨h1,⟨h2,h3⟩,h4⟩
     by_cases q : x.index < k
     ·exact .inl ⟨h1,⟨h2,h3⟩,q⟩
     ·have : x.index.toNat=k:=by omega
      rw [this] at h3
      exact .inr ⟨h3,⟨h2,by omega⟩,h1⟩
    ·rintro (⟨h1,⟨h2,h3⟩,h4⟩ | ⟨h3,⟨h2,h5⟩,h6⟩)
     ·exact ⟨h1,⟨h2,h3⟩,by omega⟩
     ·have : x.index.toNat=k:=by omega
      rw [this]
      exact ⟨h6,⟨h2,h3⟩,by omega⟩
   ·refine Bool.eq_false_iff.2 fun q=> ?_
    simp only [Bool.and_eq_true,beq_iff_eq,decide_eq_true_eq] at q
    obtain ⟨⟨_,_,q1⟩,_,⟨_,q2⟩,_⟩ :=q
    omega
  have hsum:=rK key
  unfold fZ
  cases hu : ((d.farms.getD k (default : Farm)).reach==(i : Int)) with
  | true=>
   rw [hu] at hsum
   simp only [Bool.true_and] at hsum
   have hsum : aT (doP d i h k) l + aT (lw k h) l=aT (doP d i h ((k + 1 : Nat) : Int)) l:=hsum
   rw [cond_true,qK ho,hs,cd (by omega) (by omega)]
   exact ⟨_,rfl,by omega⟩
  | false=>
   rw [hu] at hsum
   simp only [Bool.false_and] at hsum
   have h0 : aT (fun _=> false) l=0:=ew fun _ _=> rfl
   rw [h0,Int.add_zero] at hsum
   rw [cond_false,hs,hsum]
   exact ⟨_,rfl,rfl⟩)
 rw [Nat.zero_add] at hs
 rw [e,hs]
theorem F_ (hg : Good d l) (i h : Nat) : aT (dgP d i h d.reaches.length) l + aT (doP d i h d.farms.length) l=drw d l i h:=rK fun x hx=> by
 have h1:=hg.one x hx
 have h3:=h1.farm
 have h4:=h1.reach
 unfold dgP doP rS
 cases ho : x.outlet with
 | true=>
  have:=h3 ho
  rw [decide_eq_true this]
  simp
 | false=>
  have:=h4 ho
  rw [decide_eq_true this]
  simp
end
end Go.Sx
end
section
namespace Go.Sx
open Go.Proofs
theorem yV {σ ρ : Type} {step : Nat→σ→ρ⊕σ} {bad : Nat→Bool} {f : Nat→σ→σ} {r : ρ} {J : Nat→σ→Prop} : ∀ (n i : Nat) (s : σ),(∀ j s,i≤j→j < i + n→J j s→step j s=(bif bad j then .inl r else .inr (f j s))∧(bad j=false→J (j + 1) (f j s)))→J i s→
  ((∀ j,i≤j→j < i + n→bad j=false)∧∃ s',az step n i s= .inr s'∧J (i + n) s')∨((∃ j,i≤j∧j < i + n∧bad j=true)∧az step n i s= .inl r)
 | 0,i,s,_,h=> .inl ⟨fun j h1 h2=> by omega,s,rfl,h⟩
 | n + 1,i,s,hs,h=> by
  obtain ⟨e,h1⟩ :=hs i s (Nat.le_refl _) (by omega) h
  simp only [az]
  rw [e]
  cases hb : bad i with
  | true=> exact .inr ⟨⟨i,Nat.le_refl _,by omega,hb⟩,rfl⟩
  | false=>
   rw [cond_false]
   simp only
   rcases yV n (i + 1) (f i s) (fun j s a b=> hs j s (by omega) (by omega)) (h1 hb) with ⟨q1,s',q2,q3⟩ | ⟨⟨j,q1,q2,q3⟩,q4⟩
   ·refine .inl ⟨fun j a b=> ?_,s',q2,?_⟩
    ·by_cases q : j=i
     ·rw [q];exact hb
     ·exact q1 j (by omega) (by omega)
    ·rw [show i + (n + 1)=i + 1 + n by omega];exact q3
   ·exact .inr ⟨⟨j,by omega,by omega,q3⟩,q4⟩
section
variable {d : District} {c : List Claim} {l : List Order}
def mY (d : District) (l : List Order) (i h : Nat) : Bool:=
 (((decide (aT (aY i h h) l > (d.reaches.getD i (default : Reach)).cap)) || ((decide (aT (aY i h h) l > 0)) && (decide (aT (aY i h h) l < (d.reaches.getD i (default : Reach)).siphon)))) || (decide (aT (aY i ((h : Int) - (d.reaches.getD i (default : Reach)).delay + 1) h) l > (d.reaches.getD i (default : Reach)).bank))) ||
 (((b4 (d.reaches.getD i (default : Reach)) (aT (aY i ((h : Int) - (d.reaches.getD i (default : Reach)).delay) ((h : Int) - (d.reaches.getD i (default : Reach)).delay)) l)).2 !=0) || (decide ((b4 (d.reaches.getD i (default : Reach)) (aT (aY i ((h : Int) - (d.reaches.getD i (default : Reach)).delay) ((h : Int) - (d.reaches.getD i (default : Reach)).delay)) l)).1 < drw d l i h)))
theorem Pm (hg : Good d l) {i h : Nat} (hi : i < d.reaches.length) (hh : h < d.hours.toNat) :
  az (ed d l i h) (1 + Int.toNat (d.reaches.getD i (default : Reach)).delay) 0 (0,(IntKind.i64.wrap ((IntKind.i64.wrap ((h : Int) - (d.reaches.getD i (default : Reach)).delay)) + 1)))= .inl (aT (aY i ((h : Int) - (d.reaches.getD i (default : Reach)).delay + 1) h) l) :=by
 have ho:=hg.orders
 have hR:=hg.right
 have hx:=hR.reach1 hi
 have d1:=hx.delay1
 have d2:=hx.delay
 have a1:=hR.hours
 generalize (d.reaches.getD i (default : Reach)).delay=dl at d1 d2 ⊢
 obtain ⟨dl,rfl⟩ :=Int.eq_ofNat_of_zero_le (a:=dl) (by omega)
 have:=wo ho (i:=i) (h:=h) (by omega) (dl:=dl) (by omega) dl (1 + dl) 0 0 (by omega) (by omega)
 rw [cd (n:=(h : Int) - (dl : Int)) (by omega) (by omega),cd (by omega) (by omega)]
 have e0 : aT (aY i ((h : Int) - dl + 1) ((h : Int) - dl + ((0 : Nat) : Int))) l=0:=ew fun x _=> by
  cases hc : aY i ((h : Int) - dl + 1) ((h : Int) - dl + ((0 : Nat) : Int)) x with
  | false=> rfl
  | true=>
   unfold aY at hc
   simp only [Bool.and_eq_true,decide_eq_true_eq] at hc
   omega
 rw [e0] at this
 rw [Int.toNat_natCast,show (h : Int) - dl + 1=(h : Int) - dl + 1 + ((0 : Nat) : Int) by omega]
 rw [show (h : Int) - dl + 1 + ((0 : Nat) : Int)=(h : Int) - dl + 1 + ((0 : Nat) : Int) from rfl] at this
 refine this.trans ?_
 rw [show (h : Int) - dl + 1 + ((0 : Nat) : Int)=(h : Int) - dl + 1 by omega]
theorem Ov (hg : Good d l) {i h : Nat} (hi : i < d.reaches.length) (hh : h < d.hours.toNat) {s : Int} (s0 : 0≤s) (s1 : s≤8796093022208) :
  dm d l i h s=(bif mY d l i h then .inl () else .inr (if i=0 then s + aT (aY i h h) l else s)) :=by
 have ho:=hg.orders
 have hR:=hg.right
 have hx:=hR.reach1 hi
 have d1:=hx.delay1
 have d2:=hx.delay
 have a1:=hR.hours
 have b1:=nE ho (i : Int) (h : Int)
 have b2:=mn ho (dgP d i h d.reaches.length)
 unfold dm mY
 simp only [Pm hg hi hh,pg ho,Ot hg,Ou hg i h b2.1 b2.2,F_ hg]
 rw [cd (n:=(h : Int) - (d.reaches.getD i (default : Reach)).delay) (by omega) (by omega),cd (n:=s + aT (aY i h h) l) (by omega) (by omega)]
 have e0 : ((i : Int) ==0)=decide (i=0) :=by
  by_cases q : i=0
  ·subst q;rfl
  ·rw [decide_eq_false q];simpa using q
 rw [e0]
 generalize (((decide (aT (aY i h h) l > (d.reaches.getD i (default : Reach)).cap)) || ((decide (aT (aY i h h) l > 0)) && (decide (aT (aY i h h) l < (d.reaches.getD i (default : Reach)).siphon)))) || (decide (aT (aY i ((h : Int) - (d.reaches.getD i (default : Reach)).delay + 1) h) l > (d.reaches.getD i (default : Reach)).bank)))=A
 generalize (((b4 (d.reaches.getD i (default : Reach)) (aT (aY i ((h : Int) - (d.reaches.getD i (default : Reach)).delay) ((h : Int) - (d.reaches.getD i (default : Reach)).delay)) l)).2 !=0) || (decide ((b4 (d.reaches.getD i (default : Reach)) (aT (aY i ((h : Int) - (d.reaches.getD i (default : Reach)).delay) ((h : Int) - (d.reaches.getD i (default : Reach)).delay)) l)).1 < drw d l i h)))=B
 cases A <;> cases B <;> simp
theorem U6 (hg : Good d l) {i : Nat} (hi : i < d.reaches.length) {s0 : Int} (h0 : 0≤s0) (h1 : s0≤4398046511104) :
  ((∀ h,h < d.hours.toNat→mY d l i h=false)∧az (dm d l i) d.hours.toNat 0 s0= .inr (if i=0 then s0 + aT g0P l else s0))∨
  ((∃ h,h < d.hours.toNat∧mY d l i h=true)∧az (dm d l i) d.hours.toNat 0 s0= .inl ()) :=by
 have ho:=hg.orders
 rcases yV (step:=dm d l i) (bad:=mY d l i) (f:=fun h s=> if i=0 then s + aT (aY i h h) l else s) (r:=()) (J:=fun h s=> s=if i=0 then s0 + aT (aY (0 : Nat) 0 ((h : Int) - 1)) l else s0) d.hours.toNat 0 s0 (fun j s _ hj hs=> by
   have a1:=mn ho (aY (0 : Nat) 0 ((j : Int) - 1))
   have hb : 0≤s∧s≤8796093022208:=by rw [hs];split <;> omega
   refine ⟨Ov hg hi (by omega) hb.1 hb.2,fun _=> ?_⟩
   by_cases q : i=0
   ·subst q
    rw [if_pos rfl] at hs
    rw [if_pos rfl,if_pos rfl]
    have:=vQ ho ((0 : Nat) : Int) (a:=0) (m:=(j : Int)) (b:=(j : Int)) (by omega) (by omega)
    rw [show ((j + 1 : Nat) : Int) - 1=(j : Int) by omega]
    omega
   ·rw [if_neg q] at hs
    rw [if_neg q,if_neg q];exact hs) (by
   by_cases q : i=0
   ·rw [if_pos q]
    have : aT (aY (0 : Nat) 0 (((0 : Nat) : Int) - 1)) l=0:=ew fun x _=> by
     cases hc : aY (0 : Nat) 0 (((0 : Nat) : Int) - 1) x with
     | false=> rfl
     | true=>
      unfold aY at hc
      simp only [Bool.and_eq_true,decide_eq_true_eq] at hc
      omega
    rw [this,Int.add_zero]
   ·rw [if_neg q]) with ⟨q1,s',q2,q3⟩ | ⟨⟨j,_,q2,q3⟩,q4⟩
 ·refine .inl ⟨fun h hh=> q1 h (Nat.zero_le _) (by omega),?_⟩
  rw [q2,q3]
  have hH:=hg.right.hours1
  have:=Rh hg
  rw [show (((0 + d.hours.toNat : Nat) : Int) - 1)=((d.hours.toNat - 1 : Nat) : Int) by omega,this]
 ·exact .inr ⟨⟨j,by omega,q3⟩,q4⟩
theorem Ri (hg : Good d l) :
  ((∀ i h,i < d.reaches.length→h < d.hours.toNat→mY d l i h=false)∧az (ee d l) d.reaches.length 0 0= .inr (aT g0P l))∨
  (¬ (∀ i h,i < d.reaches.length→h < d.hours.toNat→mY d l i h=false)∧az (ee d l) d.reaches.length 0 0= .inl ()) :=by
 have ho:=hg.orders
 have a1:=mn ho g0P
 have hst : ∀ i s,i < d.reaches.length→0≤s→s≤4398046511104→ee d l i s=match az (dm d l i) d.hours.toNat 0 s with | .inl _=> .inl () | .inr s'=> .inr s':=fun i s _ _ _=> rfl
 let bad : Nat→Bool:=fun i=> !decide (∀ h,h < d.hours.toNat→mY d l i h=false)
 have hbad : ∀ i,bad i=false↔∀ h,h < d.hours.toNat→mY d l i h=false:=fun i=> by
  show (!decide _)=false↔_
  rw [Bool.not_eq_false',decide_eq_true_eq]
 rcases yV (step:=ee d l) (bad:=bad) (f:=fun i s=> if i=0 then s + aT g0P l else s) (r:=()) (J:=fun i s=> s=if i=0 then 0 else aT g0P l) d.reaches.length 0 0 (fun i s _ hi hs=> by
   have hb : 0≤s∧s≤4398046511104:=by rw [hs];split <;> omega
   have hi : i < d.reaches.length:=by omega
   refine ⟨?_,fun _=> ?_⟩
   ·rw [hst i s hi hb.1 hb.2]
    rcases U6 hg hi hb.1 hb.2 with ⟨q1,q2⟩ | ⟨⟨h,q1,q3⟩,q2⟩
    ·rw [q2,(hbad i).2 q1];rfl
    ·have : bad i=true:=by
      cases hq : bad i with
      | true=> rfl
      | false=> rw [(hbad i).1 hq h q1] at q3;cases q3
     rw [q2,this];rfl
   ·show (if i=0 then s + aT g0P l else s)=if i + 1=0 then 0 else aT g0P l
    rw [(if_neg (Nat.succ_ne_zero i) : (if i + 1=0 then (0 : Int) else aT g0P l)=aT g0P l)]
    by_cases q : i=0
    ·rw [if_pos q] at hs ⊢;omega
    ·rw [if_neg q] at hs ⊢;exact hs) rfl with ⟨q1,s',q2,q3⟩ | ⟨⟨j,_,q2,q3⟩,q4⟩
 ·refine .inl ⟨fun i h hi hh=> (hbad i).1 (q1 i (Nat.zero_le _) (by omega)) h hh,?_⟩
  rw [q2,q3,if_neg (by have:=hg.right.one;omega)]
 ·refine .inr ⟨fun q=> ?_,q4⟩
  have:=(hbad j).2 fun h hh=> q j h (by omega) hh
  rw [this] at q3;cases q3
theorem Ga (hg : Good d l) (hc : okL1 c) : f0 d c l=true↔(∀ f h,ke c f h≤aT (lw f h) l)∧(∀ i h,i < d.reaches.length→h < d.hours.toNat→mY d l i h=false)∧aT g0P l≤d.tank.start:=by
 have ho:=hg.orders
 obtain ⟨m,e,hm⟩ :=wn hc
 have hw : bJ (eb l m) m ()= .inr ()↔∀ f h,ke c f h≤aT (lw f h) l:=by
  rw [gJ]
  have hst : ∀ x,eb l m x ()=bif decide (ay .acequialaw27Key .int (aP l) x.1 < x.2) then .inl () else .inr () :=fun _=> rfl
  constructor
  ·intro h f t
   by_cases h0 : ke c f t=0
   ·rw [h0];exact (mn ho _).1
   ·have h1:=h _ (hm.mem (p:= { outlet:=true,index:=f,hour:=t}) (by simp only [if_true];exact h0))
    rw [hst] at h1
    simp only [if_true] at h1
    rw [qK ho] at h1
    by_cases q : aT (lw f t) l < ke c f t
    ·rw [decide_eq_true q] at h1;cases h1
    ·omega
  ·intro h x hx
   have h1:=hm.entry hx
   rw [hst,h1.1]
   obtain ⟨⟨o,i,t⟩,n⟩ :=x
   simp only at h1 ⊢
   cases o with
   | false=> simp at h1
   | true=>
    simp only [if_true] at h1 ⊢
    rw [qK ho,decide_eq_false (p:=aT (lw i t) l < ke c i t) (by have:=h i t;omega)]
    rfl
 unfold f0
 simp only [e]
 cases hr : bJ (eb l m) m () with
 | inl x=> simp only [Bool.false_eq_true,false_iff];intro q;rw [hw.2 q.1] at hr;cases hr
 | inr s=>
  have h1:=hw.1 hr
  simp only
  rcases Ri hg with ⟨q1,q2⟩ | ⟨q1,q2⟩
  ·rw [q2]
   simp only [decide_eq_true_eq]
   exact ⟨fun q=> ⟨h1,q1,q⟩,fun q=> q.2.2⟩
  ·rw [q2]
   simp only [Bool.false_eq_true,false_iff]
   exact fun q=> q1 q.2.1
theorem J3 (hg : Good d l) (hc : okL1 c) : jF d c l:=by
 obtain ⟨m,e,hm⟩ :=wn hc
 intro _ s hs
 rw [e] at hs
 simp only [Sum.inr.injEq] at hs
 subst hs
 refine ⟨Jo fun x _=> trivial,fun _ _ _=> ?_⟩
 have hH:=hg.right.hours
 refine kE (fun _ _=> True) _ _ _ trivial fun i s _ hi _=> ⟨⟨by omega,kE (fun _ _=> True) _ _ _ trivial fun h s _ hh _=> ⟨fun z hz=> ?_,fun _ _=> trivial⟩⟩,fun _ _=> trivial⟩
 rw [Pm hg (by omega) (by omega)] at hz
 cases hz
theorem Gb {i h : Nat} : mY d l i h=false↔aT (aY i h h) l≤(rch d i).cap∧¬ (0 < aT (aY i h h) l∧aT (aY i h h) l < (rch d i).siphon)∧aT (aY i ((h : Int) - (rch d i).delay + 1) h) l≤(rch d i).bank∧
  (b4 (rch d i) (aT (aY i ((h : Int) - (rch d i).delay) ((h : Int) - (rch d i).delay)) l)).2=0∧drw d l i h≤(b4 (rch d i) (aT (aY i ((h : Int) - (rch d i).delay) ((h : Int) - (rch d i).delay)) l)).1:=by
 have e4 : d.reaches.getD i (default : Reach)=rch d (i : Int) :=by show _=d.reaches.getD (Int.toNat (i : Int)) default;rw [Int.toNat_natCast]
 unfold mY
 rw [e4]
 simp only [Bool.or_eq_false_iff,Bool.and_eq_false_iff,decide_eq_false_iff_not,bne_eq_false_iff_eq]
 omega
theorem yW (h : Srv d c l) : (∀ i h,i < d.reaches.length→h < d.hours.toNat→mY d l i h=false) :=by
 have hg:=h.kp.good
 have ho:=hg.orders
 intro i t hi ht
 have e4 : d.reaches.getD i (default : Reach)=rch d (i : Int) :=by show _=d.reaches.getD (Int.toNat (i : Int)) default;rw [Int.toNat_natCast]
 have hx:=hg.right.reach i hi
 rw [e4] at hx
 have hgr:=nE ho (i : Int) ((t : Int) - (rch d (i : Int)).delay)
 have hw:=rL hx hgr.1 hgr.2
 refine Gb.2 ⟨h.lim.cap t i ht hi,fun ⟨q1,q2⟩ => ?_,h.lim.bank t i ht hi,by rw [hw],?_⟩
 ·rw [←xP] at q1 q2
  obtain ⟨x,hx,e1,e2,e3,e5⟩ :=Oa hg.keys (r:=(i : Int)) (h:=(t : Int)) (l:=l) (by omega)
  have:=h.kp.sip x hx e1
  rw [e2] at this
  omega
 ·by_cases q : 1≤drw d l i t
  ·obtain ⟨w,e,hw2⟩ :=h.kp.kept i t (by omega) q
   rw [xP] at e
   rw [e];exact hw2
  ·rw [hw]
   have:=B4 hx hgr.1 hgr.2
   simp only
   omega
end
end Go.Sx
end
section
namespace Go.Sx
open Go.Proofs Go.Shelf Go.Sort Go.Lib
set_option maxRecDepth 100000
theorem gG {α : Type} {cf : α→α→Int} (hO : SWO (ltOf cf)) {l m : List α} (hp : m.Perm l) (hs : m.Pairwise fun x y=> ltOf cf x y=true) : srt cf l=m:=by
 have h1 : (srt cf l).Pairwise fun x y=> (!(ltOf cf y x))=true:=by
  refine List.pairwise_mergeSort (fun a b c h1 h2=> ?_) (fun a b=> ?_) l
  ·simp only [Bool.not_eq_true'] at h1 h2 ⊢
   exact hO.ntrans _ _ _ h2 h1
  ·cases q : ltOf cf b a with
   | false=> rfl
   | true=>
    cases q2 : ltOf cf a b with
    | false=> rfl
    | true=> have:=hO.trans _ _ _ q q2;rw [hO.irrefl] at this;cases this
 have h2 : m.Pairwise fun x y=> (!(ltOf cf y x))=true:=hs.imp fun {x y} q=> by
  cases q2 : ltOf cf y x with
  | false=> rfl
  | true=> have:=hO.trans _ _ _ q q2;rw [hO.irrefl] at this;cases this
 have hpm : (srt cf l).Perm l:=List.mergeSort_perm _ _
 refine List.Perm.eq_of_pairwise (fun a b ha hb q1 q2=> ?_) h1 h2 (hpm.trans hp.symm)
 have ha : a∈m:=hp.mem_iff.2 (hpm.mem_iff.1 ha)
 obtain ⟨i,hi,rfl⟩ :=List.getElem_of_mem ha
 obtain ⟨j,hj,rfl⟩ :=List.getElem_of_mem hb
 rw [List.pairwise_iff_getElem] at hs
 rcases Nat.lt_trichotomy i j with q | q | q
 ·have:=hs i j hi hj q;rw [this] at q2;cases q2
 ·subst q;rfl
 ·have:=hs j i hj hi q;rw [this] at q1;cases q1
theorem ph {d : District} {c : List Claim} {out l : List Order} {B : List Fault} (h1 : ba d c=0) (h2 : decide ((IntKind.i64.wrap ((d.reaches.length : Int) * d.hours)) > 1024)=false) (h3 : am c=out)
  (h4 : aI out=false) (h5 : ar d out=(l,true,0)) (h6 : br l d=B) :
  av d c=match B with | [] => (l,({ kind:=0,hour:=0,index:=0,litres:=0,limit:=0} : Fault),0) | f :: _=> ([],f,0) :=by
 have ha : ag d c=(out,0) :=by
  unfold ag
  rw [h1,h2,h3,h4];rfl
 unfold av
 simp only [ha,h5,h6,bne_self_eq_false,cond_false,Bool.not_true]
 cases B <;> rfl
theorem Cs {d : District} {c : List Claim} {out : List Order} {f : Fault} (h1 : ba d c=0) (h2 : decide ((IntKind.i64.wrap ((d.reaches.length : Int) * d.hours)) > 1024)=false) (h3 : am c=out)
  (h4 : aI out=false) (h5 : ar d out=([],false,0)) (h6 : dp out d=f) :
  av d c=([],f,0) :=by
 have ha : ag d c=(out,0) :=by
  unfold ag
  rw [h1,h2,h3,h4];rfl
 unfold av
 simp only [ha,h5,h6,bne_self_eq_false,cond_false,Bool.not_false,cond_true]
abbrev ca (h i n : Int) (o : Bool) : Order:= { hour:=h,index:=i,litres:=n,outlet:=o}
theorem ev_a : av aU cg=(eH,({ kind:=0,hour:=0,index:=0,litres:=0,limit:=0} : Fault),0) :=by
 have e1 : am cg=srt ap [ca 4 1 10 true,ca 4 0 7 true,ca 5 0 1 true] :=by kernel_rfl
 rw [gG (m:=[ca 4 0 7 true,ca 4 1 10 true,ca 5 0 1 true]) dH (by decide) (by decide)] at e1
 have e2 : ar aU [ca 4 0 7 true,ca 4 1 10 true,ca 5 0 1 true]=(srt ax [ca 4 0 7 true,ca 4 1 10 true,ca 5 0 1 true,ca 2 0 20 false,ca 3 0 5 false],true,0) :=by kernel_rfl
 rw [gG (m:=eH) nu (by decide) (by decide)] at e2
 exact ph (B:=[]) (by kernel_rfl) (by kernel_rfl) e1 (by kernel_rfl) e2 (by kernel_rfl)
theorem ev_b : av aU bf=([],({ kind:=1,hour:=2,index:=0,litres:=21,limit:=20} : Fault),0) :=by
 have e1 : am bf=srt ap [ca 4 1 10 true,ca 4 0 8 true,ca 5 0 1 true] :=by kernel_rfl
 rw [gG (m:=[ca 4 0 8 true,ca 4 1 10 true,ca 5 0 1 true]) dH (by decide) (by decide)] at e1
 have e2 : ar aU [ca 4 0 8 true,ca 4 1 10 true,ca 5 0 1 true]=(srt ax [ca 4 0 8 true,ca 4 1 10 true,ca 5 0 1 true,ca 2 0 21 false,ca 3 0 5 false],true,0) :=by kernel_rfl
 rw [gG (m:=[ca 2 0 21 false,ca 3 0 5 false,ca 4 0 8 true,ca 4 1 10 true,ca 5 0 1 true]) nu (by decide) (by decide)] at e2
 exact ph (B:=[{ kind:=1,hour:=2,index:=0,litres:=21,limit:=20}]) (by kernel_rfl) (by kernel_rfl) e1 (by kernel_rfl) e2 (by kernel_rfl)
theorem ev_c : av aU eT=([],({ kind:=7,hour:=1,index:=0,litres:=9,limit:=0} : Fault),0) :=by
 have e1 : am eT=srt ap [ca 1 1 9 true] :=by kernel_rfl
 rw [gG (m:=[ca 1 1 9 true]) dH (by decide) (by decide)] at e1
 exact Cs (by kernel_rfl) (by kernel_rfl) e1 (by kernel_rfl) (by kernel_rfl) (by kernel_rfl)
abbrev clA : Claim:= { right:=1,farm:=1,hour:=4,litres:=10,rank:=1}
abbrev clB : Claim:= { right:=0,farm:=0,hour:=4,litres:=8,rank:=2}
abbrev clC : Claim:= { right:=0,farm:=0,hour:=5,litres:=1,rank:=2}
theorem ev_d : av aU [clA]=([ca 2 0 13 false,ca 4 1 10 true],({ kind:=0,hour:=0,index:=0,litres:=0,limit:=0} : Fault),0) :=by
 have e1 : am [clA]=srt ap [ca 4 1 10 true] :=by kernel_rfl
 rw [gG (m:=[ca 4 1 10 true]) dH (by decide) (by decide)] at e1
 have e2 : ar aU [ca 4 1 10 true]=(srt ax [ca 4 1 10 true,ca 2 0 13 false],true,0) :=by kernel_rfl
 rw [gG (m:=[ca 2 0 13 false,ca 4 1 10 true]) nu (by decide) (by decide)] at e2
 exact ph (B:=[]) (by kernel_rfl) (by kernel_rfl) e1 (by kernel_rfl) e2 (by kernel_rfl)
theorem ev_e : av aU [clA,clB]=([],({ kind:=1,hour:=2,index:=0,litres:=21,limit:=20} : Fault),0) :=by
 have e1 : am [clA,clB]=srt ap [ca 4 1 10 true,ca 4 0 8 true] :=by kernel_rfl
 rw [gG (m:=[ca 4 0 8 true,ca 4 1 10 true]) dH (by decide) (by decide)] at e1
 have e2 : ar aU [ca 4 0 8 true,ca 4 1 10 true]=(srt ax [ca 4 0 8 true,ca 4 1 10 true,ca 2 0 21 false],true,0) :=by kernel_rfl
 rw [gG (m:=[ca 2 0 21 false,ca 4 0 8 true,ca 4 1 10 true]) nu (by decide) (by decide)] at e2
 exact ph (B:=[{ kind:=1,hour:=2,index:=0,litres:=21,limit:=20}]) (by kernel_rfl) (by kernel_rfl) e1 (by kernel_rfl) e2 (by kernel_rfl)
theorem ev_f : av aU [clA,clC]=([ca 2 0 13 false,ca 3 0 5 false,ca 4 1 10 true,ca 5 0 1 true],({ kind:=0,hour:=0,index:=0,litres:=0,limit:=0} : Fault),0) :=by
 have e1 : am [clA,clC]=srt ap [ca 4 1 10 true,ca 5 0 1 true] :=by kernel_rfl
 rw [gG (m:=[ca 4 1 10 true,ca 5 0 1 true]) dH (by decide) (by decide)] at e1
 have e2 : ar aU [ca 4 1 10 true,ca 5 0 1 true]=(srt ax [ca 4 1 10 true,ca 5 0 1 true,ca 2 0 13 false,ca 3 0 5 false],true,0) :=by kernel_rfl
 rw [gG (m:=[ca 2 0 13 false,ca 3 0 5 false,ca 4 1 10 true,ca 5 0 1 true]) nu (by decide) (by decide)] at e2
 exact ph (B:=[]) (by kernel_rfl) (by kernel_rfl) e1 (by kernel_rfl) e2 (by kernel_rfl)
theorem ES : an bf=[clA,clB,clC] :=by
 have : an bf=srt bq [clA,clB,clC] :=by kernel_rfl
 rw [this]
 exact gG vJ (by decide) (by decide)
theorem e_o1 : aO [clA]=[clA] :=gG lW (by decide) (by decide)
theorem e_o2 : aO [clA,clB]=[clA,clB] :=gG lW (by decide) (by decide)
theorem e_o3 : aO [clA,clC]=[clA,clC] :=gG lW (by decide) (by decide)
theorem ev_s : d8 aU bf=([clA,clC],0) :=by
 have h0 : (ag aU bf).2=0:=by
  have e1 : am bf=srt ap [ca 4 1 10 true,ca 4 0 8 true,ca 5 0 1 true] :=by kernel_rfl
  rw [gG (m:=[ca 4 0 8 true,ca 4 1 10 true,ca 5 0 1 true]) dH (by decide) (by decide)] at e1
  refine kR.2 ⟨by kernel_rfl,by unfold aU;simp,?_⟩
  rw [e1]
  decide
 have s1 : bQ aU bf 0 []= .inr [clA] :=by
  unfold bQ
  rw [ES]
  show (bif (((ae aU (aO [clA])).2.2==0) && (ae aU (aO [clA])).2.1) then .inr (aO [clA]) else .inr ([] : List Claim))=(.inr [clA] : Empty⊕List Claim)
  rw [e_o1]
  unfold ae
  rw [ev_d];rfl
 have s2 : bQ aU bf 1 [clA]= .inr [clA] :=by
  unfold bQ
  rw [ES]
  show (bif (((ae aU (aO [clA,clB])).2.2==0) && (ae aU (aO [clA,clB])).2.1) then .inr (aO [clA,clB]) else .inr ([clA] : List Claim))=(.inr [clA] : Empty⊕List Claim)
  rw [e_o2]
  unfold ae
  rw [ev_e];rfl
 have s3 : bQ aU bf 2 [clA]= .inr [clA,clC] :=by
  unfold bQ
  rw [ES]
  show (bif (((ae aU (aO [clA,clC])).2.2==0) && (ae aU (aO [clA,clC])).2.1) then .inr (aO [clA,clC]) else .inr ([clA] : List Claim))=(.inr [clA,clC] : Empty⊕List Claim)
  rw [e_o3]
  unfold ae
  rw [ev_f];rfl
 unfold d8
 rw [h0,ES]
 simp only [bne_self_eq_false,cond_false,List.length_cons,List.length_nil,Nat.zero_add,az,s1,s2,s3]
theorem m10 : cy=(eH,true,0) :=by unfold cy ae;rw [ev_a];rfl
theorem m4 : dB=(({ kind:=1,hour:=2,index:=0,litres:=21,limit:=20} : Fault),true,0) :=by unfold dB ak;rw [ev_b];rfl
theorem m16 : di=(({ kind:=7,hour:=1,index:=0,litres:=9,limit:=0} : Fault),true,0) :=by unfold di ak;rw [ev_c];rfl
theorem m13 : fY=([],false,191) :=by kernel_rfl
theorem J4 : jo=true:=by
 unfold jo gO gN a8 gQ aZ fA
 rw [m10,m4,ev_s,m16,m13]
 kernel_rfl
def CK (a b : Claim) : Prop:=a.hour=b.hour∧a.rank=b.rank∧a.right=b.right∧a.farm=b.farm
theorem Pn {c : List Claim} (h : c.Pairwise sX) {a b : Claim} (ha : a∈c) (hb : b∈c) (hk : CK a b) : a=b:=by
 obtain ⟨i,hi,rfl⟩ :=List.getElem_of_mem ha
 obtain ⟨j,hj,rfl⟩ :=List.getElem_of_mem hb
 obtain ⟨k1,k2,k3,k4⟩ :=hk
 rw [List.pairwise_iff_getElem] at h
 rcases Nat.lt_trichotomy i j with q | q | q
 ·have:=h i j hi hj q;unfold sX at this;omega
 ·subst q;rfl
 ·have:=h j i hj hi q;unfold sX at this;omega
theorem xR {c l : List Claim} (h : c.Pairwise sX) (hs : ∀ x∈l,x∈c) : apart bq l∧apart bj l:=by
 refine ⟨fun x hx y hy h1 h2=> Pn h (hs x hx) (hs y hy) ?_,fun x hx y hy h1 h2=> Pn h (hs x hx) (hs y hy) ?_⟩
 ·unfold ltOf at h1 h2
  rw [decide_eq_false_iff_not,sT] at h1 h2
  unfold slt at h1 h2
  simp only [mU,and_false,or_false] at h1 h2
  unfold CK;omega
 ·unfold ltOf at h1 h2
  rw [decide_eq_false_iff_not,vI] at h1 h2
  unfold clt at h1 h2
  simp only [mU,and_false,or_false] at h1 h2
  unfold CK;omega
theorem AZ (c : List Claim) : (an c).Perm c:=List.mergeSort_perm _ _
theorem A0 (c : List Claim) : (aO c).Perm c:=List.mergeSort_perm _ _
theorem Gc (d : District) (c : List Claim) : fh d c:=by
 refine ⟨AJ d c,fun h=> ?_⟩
 have hA : Askd d c:=kR.1 (by simpa using h)
 obtain ⟨_,h2,h3,h4⟩ :=(nD d c).1 hA.chk
 have hlen : (an c).length=c.length:=(AZ c).length_eq
 refine ⟨⟨by unfold b6 fN;omega,(xR h4 fun x hx=> hx).1⟩,fun _=> ?_⟩
 refine kE (fun j s=> (∀ x∈s,x∈c)∧s.length≤j) _ _ _ ⟨fun x hx=> (by cases hx),Nat.le_refl _⟩ fun j s _ hj ⟨hs,hl⟩ => ?_
 have hx : (an c).getD j (default : Claim)∈c:=(AZ c).mem_iff.1 (mT _ _ (by omega))
 have hs2 : ∀ x∈s ++ [(an c).getD j (default : Claim)],x∈c:=fun x hq=> by
  rcases List.mem_append.1 hq with q | q
  ·exact hs x q
  ·simp only [List.mem_cons,List.not_mem_nil,or_false] at q;rw [q];exact hx
 refine ⟨⟨by unfold fN;omega,by unfold fN;simp;omega,fun _=> ⟨⟨by unfold b6 fN;simp;omega,(xR h4 hs2).2⟩,uj _ _⟩⟩,fun s' e=> ?_⟩
 unfold bQ at e
 generalize (((ae d (aO (s ++ ([((an c).getD j (default : Claim))])))).2.2==0) && (ae d (aO (s ++ ([((an c).getD j (default : Claim))])))).2.1)=b at e
 cases b with
 | true=>
  simp only [cond_true,Sum.inr.injEq] at e
  subst e
  refine ⟨fun x hq=> hs2 x ((A0 _).mem_iff.1 hq),?_⟩
  rw [(A0 _).length_eq]
  simp;omega
 | false=>
  simp only [cond_false,Sum.inr.injEq] at e
  subst e
  exact ⟨hs,by omega⟩
theorem J5 (a b : List Order) : fj a b:=fun _ _ h=> by
 have h : (a.length : Int)=b.length:=by simpa using h
 refine kE (fun _ _=> True) _ _ _ trivial fun j s _ hj _=> ⟨fun _=> by omega,fun _ _=> trivial⟩
theorem J6 (a b : List Claim) : fl a b:=fun _ _ h=> by
 have h : (a.length : Int)=b.length:=by simpa using h
 refine kE (fun _ _=> True) _ _ _ trivial fun j s _ hj _=> ⟨fun _=> by omega,fun _ _=> trivial⟩
theorem J7 : kJ:=by
 refine ⟨uj _ _,fun _=> J5 _ _,fun _=> ⟨by unfold cg;simp,v8 _ _,Gc _ _,v8 _ _,uj _ _,fun _=> ⟨fun _=> ?_,fun _=> ?_,fun _=> J6 _ _⟩⟩⟩
 ·unfold fz bf cg;simp
 ·unfold fz bf cg;simp
end Go.Sx
end
section
namespace Go.Sx
open Go.Proofs
set_option maxRecDepth 100000
set_option linter.unusedSimpArgs false
theorem A1 {p : Prop} (h : p:=by (first | done | (repeat' (first | with_reducible refine And.intro ?_ ?_ | ((with_reducible show _≠_);first | assumption | omega | (simp_all [aG,aK];done) | grind) | with_reducible intro _)) <;> (first | done | exact Empty.elim ‹Empty› | assumption | rfl | omega | decide | exact fk [0,1,2] | (simp only [*,cond_true,cond_false,Bool.not_true,Bool.not_false,go_sem,Nat.reduceBEq,Nat.reduceLeDiff,Nat.reduceLT,decide_true,Nat.reduceAdd,Nat.reduceSub,Nat.reduceMul,Int.reduceLE,Int.reduceLT,Int.reduceToNat,Int.reduceNeg,reduceCtorEq];done) | (simp only [*,cond_true,cond_false,Bool.not_true,Bool.not_false,go_sem,Nat.reduceBEq,Nat.reduceLeDiff,Nat.reduceLT,decide_true,Nat.reduceAdd,Nat.reduceSub,Nat.reduceMul,Int.reduceLE,Int.reduceLT,Int.reduceToNat,Int.reduceNeg,reduceCtorEq];(repeat' (first | with_reducible refine And.intro ?_ ?_ | ((with_reducible show _≠_);first | assumption | omega | (simp_all [aG,aK];done) | grind) | with_reducible intro _)) <;> (first | done | assumption | rfl | omega | decide | exact fk [0,1,2] | (simp_all [aG,aK];done))) | (simp_all [okI,aG,aK];done) | (simp_all [aG,aK];(first | done | exact fk2 [0,1,2])) | exact fk2 [0,1,2] | (simp_all only [aG,aK,cond_true,cond_false];(first | done | exact fk [0,1,2] | exact fk2 [0,1,2] | (simp only [go_sem,Nat.reduceBEq,Nat.reduceLeDiff,Nat.reduceLT,decide_true,Nat.reduceAdd,Nat.reduceSub,Nat.reduceMul,Int.reduceLE,Int.reduceLT,Int.reduceToNat,Int.reduceNeg,reduceCtorEq];((repeat' (first | with_reducible refine And.intro ?_ ?_ | ((with_reducible show _≠_);first | assumption | omega | (simp_all [aG,aK];done) | grind) | with_reducible intro _)) <;> (first | done | rfl | exact fk [0,1,2] | exact fk2 [0,1,2])))))))) : p:=h
theorem A2 {p : Prop} (h : p:=by simp only [go_sem,Nat.reduceBEq,Nat.reduceLeDiff,Nat.reduceLT,decide_true,Nat.reduceAdd,Nat.reduceSub,Nat.reduceMul,Int.reduceLE,Int.reduceLT,Int.reduceToNat,Int.reduceNeg,reduceCtorEq,hc,hw];all_goals exact A1) : p:=h
theorem A3 {p : Prop} (h : p:=by simp only [go_sem,Nat.reduceBEq,Nat.reduceLeDiff,Nat.reduceLT,decide_true,Nat.reduceAdd,Nat.reduceSub,Nat.reduceMul,Int.reduceLE,Int.reduceLT,Int.reduceToNat,Int.reduceNeg,reduceCtorEq,hc];all_goals exact A1) : p:=h
@[go_sem] def cB (a1 : List Claim) (k_0 : Nat) (s_0 : List (Acequialaw27Key×Int)) : Empty⊕(List (Acequialaw27Key×Int)) := .inr (cU .acequialaw27Key .int s_0 ({ outlet:=true,index:=(a1.getD k_0 (default : Claim)).farm,hour:=(a1.getD k_0 (default : Claim)).hour} : Acequialaw27Key) (IntKind.i64.wrap ((ay .acequialaw27Key .int s_0 ({ outlet:=true,index:=(a1.getD k_0 (default : Claim)).farm,hour:=(a1.getD k_0 (default : Claim)).hour} : Acequialaw27Key)) + (a1.getD k_0 (default : Claim)).litres)))
@[go_sem] def cC (a0 : District) (a1 : List Claim) (s_0 : List (Acequialaw27Key×Int)) (k_1 : Nat) (s_1 : Int) : Unit⊕Int:=(bif (((ae a0 a1).1).getD k_1 (default : Order)).outlet then (bif ((ay .acequialaw27Key .int s_0 ({ outlet:=true,index:=(((ae a0 a1).1).getD k_1 (default : Order)).index,hour:=(((ae a0 a1).1).getD k_1 (default : Order)).hour} : Acequialaw27Key)) !=(((ae a0 a1).1).getD k_1 (default : Order)).litres) then .inl () else .inr (IntKind.i64.wrap (s_1 + 1))) else .inr s_1)
def dZ (a0 : District) (a1 : List Claim) : Bool:=(bif (!jo) then false else (bif (!(mX a0 a1)) then true else (bif (((ae a0 a1).2.2 !=0) || ((ak a0 a1).2.2 !=0)) then ((((((ae a0 a1).2.2==(ak a0 a1).2.2) && (!(ae a0 a1).2.1)) && (!(ak a0 a1).2.1)) && ((((ae a0 a1).1).length : Int) ==0)) && ((((ak a0 a1).1).kind==0) && ((((ak a0 a1).1).hour==0) && ((((ak a0 a1).1).index==0) && ((((ak a0 a1).1).litres==0) && (((ak a0 a1).1).limit==0)))))) else (bif ((((ae a0 a1).2.1==(ak a0 a1).2.1) || ((ae a0 a1).2.1 && (!((((ak a0 a1).1).kind==0) && ((((ak a0 a1).1).hour==0) && ((((ak a0 a1).1).index==0) && ((((ak a0 a1).1).litres==0) && (((ak a0 a1).1).limit==0)))))))) || ((!(ae a0 a1).2.1) && (decide ((((ae a0 a1).1).length : Int) > 0)))) then false else (bif (!(ae a0 a1).2.1) then (((((decide (((ak a0 a1).1).litres > ((ak a0 a1).1).limit)) && (decide (((ak a0 a1).1).hour≥0))) && (decide (((ak a0 a1).1).hour < a0.hours))) && (decide (((ak a0 a1).1).index≥0))) && (decide (((ak a0 a1).1).index < (a0.reaches.length : Int)))) else (bif ((((ba a0 a1) !=0) || ((bB a0 ((ae a0 a1).1)) !=0)) || (!(f0 a0 a1 ((ae a0 a1).1)))) then false else (match az (cB a1) a1.length 0 ([]) with | .inl x=> x.elim | .inr s_0=> (match az (cC a0 a1 s_0) (((ae a0 a1).1).length) 0 0 with | .inl x_1_0=> false | .inr s_1=> (s_1==(s_0.length : Int))))))))))
def eo (a0 : District) (a1 : List Claim) : Prop:=((kJ)∧((!jo)=false→((!(mX a0 a1))=false→((cA a0 a1)∧((dR a0 a1)∧((((ae a0 a1).2.2 !=0) || ((ak a0 a1).2.2 !=0))=false→(((((ae a0 a1).2.1==(ak a0 a1).2.1) || ((ae a0 a1).2.1 && (!((((ak a0 a1).1).kind==0) && ((((ak a0 a1).1).hour==0) && ((((ak a0 a1).1).index==0) && ((((ak a0 a1).1).litres==0) && (((ak a0 a1).1).limit==0)))))))) || ((!(ae a0 a1).2.1) && (decide ((((ae a0 a1).1).length : Int) > 0))))=false→((!(ae a0 a1).2.1)=false→((eP a0 a1)∧((((ba a0 a1) !=0)=false→(eu a0 ((ae a0 a1).1)))∧((((ba a0 a1) !=0) || ((bB a0 ((ae a0 a1).1)) !=0))=false→(jF a0 a1 ((ae a0 a1).1)))))))))))))
@[go_sem] def fH : List SV→Option Con:=(pD .district fun a0=> (pR .claim fun a1=> (pE (.det (eo a0 a1) (.v (.bool (dZ a0 a1)))))))
set_option maxHeartbeats 4000000 in
theorem nG : FnOk Tryz.prog 7 fH:=by
 have hG : ConsOk Tryz.prog (mkG [(10,r8),(11,fun l=> tE (cO [.st .district,.sl .claim] l)),(12,fun l=> jk (cO [.st .district,.sl .claim] l)),(14,fun l=> iM (cO [.st .district,.sl .claim] l)),(24,fun l=> iB (cO [.st .district,.sl .claim] l)),(25,fun l=> j8 (cO [.st .district,.sl .order] l)),(26,fun l=> qm (cO [.st .district,.sl .claim,.sl .order] l))] []) :=aQ (cgc wL (cgc (yT.norm [.st .district,.sl .claim]) (cgc (l7.norm [.st .district,.sl .claim]) (cgc (lC.norm [.st .district,.sl .claim]) (cgc (j_.norm [.st .district,.sl .claim]) (cgc (mP.norm [.st .district,.sl .order]) (cgc (wl.norm [.st .district,.sl .claim,.sl .order]) cg0))))))) cg0
 refine bb [.o] mixed aH hG (fn:=Tryz.f7) (c:=aj Tryz.f7) (by kernel_rfl) (by kernel_rfl) (by kernel_rfl) (by kernel_rfl) (bU fun a0=> (c8 fun a1=> (aM (fun hp=> ?_))))
 dsimp only [aW] at hp
 unfold eo at hp
 refine ⟨Nat.le_of_ble_eq_true rfl,(fun id st=> bif Nat.beq id 0 then some (LCR (ρ:=Empty) (σ:=(List (Acequialaw27Key×Int))) 3 [] [0,1,2] (fun k_0 s_0=> ⟨[(5,.rs .order ((ae a0 a1).1)),(11,.os 2),(134,.rs .claim a1),(135,.v (.int .i64 (a1.length : Int))),(136,.v (.int .i64 (k_0 : Int)))],[.dead,.dead,.mp .acequialaw27Key .int s_0 none]⟩) (cB a1) pT a1.length ([]) (a1.length≤bu) ((·.elim)) ((·.elim)) st) else bif Nat.beq id 2 then some (LCR (ρ:=Unit) (σ:=Int) 3 [] [0,1,2] (fun k_1 s_1=> ⟨[(11,.os 2),(14,.v (.int .i64 s_1)),(153,.rs .order ((ae a0 a1).1)),(154,.v (.int .i64 (((ae a0 a1).1).length : Int))),(155,.v (.int .i64 (k_1 : Int)))],[.dead,.dead,.mp .acequialaw27Key .int (aG (az (cB a1) a1.length 0 ([]))) none]⟩) (cC a0 a1 (aG (az (cB a1) a1.length 0 ([])))) pT (((ae a0 a1).1).length) 0 (((ae a0 a1).1).length≤bu) (fun _=> .ret) (fun x_1_0=> ⟨[(4,.v (.bool false))],[.dead,.dead,.dead]⟩) st) else none),?_,?_⟩
 ·unfold aj Tryz.f7
  simp only [aB,true_and,and_true]
  refine ⟨?_,?_⟩
  ·refine cp mixed aH hG (by kernel_rfl) (fun _=> rfl) (a1.length : Int) rfl jS (fun hb0 k_0 s_0 hlt0 _ hw hc=> ⟨L0,aw _,?_⟩) (fun hb0 s_0 hc=> ?_)
   ·exact A2
   ·exact A3
  ·refine cp mixed aH hG (by kernel_rfl) (fun _=> rfl) (((ae a0 a1).1).length : Int) rfl jS (fun hb1 k_1 s_1 hlt1 _ hw hc=> ⟨L0,aw _,?_⟩) (fun hb1 s_1 hc=> ?_)
   ·exact A2
   ·exact A3
 ·unfold aj Tryz.f7
  try unfold dZ
  simp only [go_sem,Nat.reduceBEq,Nat.reduceLeDiff,Nat.reduceLT,decide_true,Nat.reduceAdd,Nat.reduceSub,Nat.reduceMul,Int.reduceLE,Int.reduceLT,Int.reduceToNat,Int.reduceNeg,reduceCtorEq]
  all_goals exact cl
end Go.Sx
end
section
namespace Go.Sx
open Go.Proofs
section
variable {d : District} {c : List Claim} {l : List Order}
theorem xS (h : Made d c l) : Good d l:=by
 obtain ⟨_,⟨gs,hP,rfl⟩,_⟩ :=h
 exact hP.good
theorem J8 (d : District) (c : List Claim) : eo d c:=by
 refine ⟨J7,fun _ _=> ⟨uj d c,v8 d c,fun _ _ _=> ⟨xJ d c,fun _=> vA d _,fun h=> ?_⟩⟩⟩
 simp only [Bool.or_eq_false_iff,bne_eq_false_iff_eq] at h
 exact J3 (EJ h.2) (l8 h.1)
theorem s7 (h : Made d c l) {x : Order} : x∈l∧x.outlet=true↔x∈am c:=by
 obtain ⟨hA,⟨gs,hP,rfl⟩,_⟩ :=h
 rw [AO hA]
 constructor
 ·rintro ⟨hx | hx,ho⟩
  ·exact hx
  ·have:=(hP.fin.gate x hx).out
   rw [this] at ho;cases ho
 ·intro hx
  exact ⟨.inl hx,hA.outs.out x hx⟩
def A4 (x : Order) : Acequialaw27Key:= { outlet:=true,index:=x.index,hour:=x.hour}
theorem J9 (h : Made d c l) {m : List (Acequialaw27Key×Int)} (hm : SM .acequialaw27Key (fun p=> if p.outlet=true then ke c p.index p.hour else 0) m) : (l.countP (·.outlet))=m.length:=by
 have hg:=xS h
 have ho:=outs (l8 h.ask.chk)
 have e1 : l.countP (·.outlet)=((l.filter (·.outlet)).map A4).length:=by rw [List.length_map,List.countP_eq_length_filter]
 have e2 : m.length=(m.map Prod.fst).length:=(List.length_map _).symm
 rw [e1,e2]
 have hkeys : (l.filter (·.outlet)).Pairwise fun x y=> ¬ K x y:=hg.keys.sublist List.filter_sublist
 have hnd : ((l.filter (·.outlet)).map A4).Nodup:=by
  unfold List.Nodup
  rw [List.pairwise_map]
  rw [List.pairwise_iff_getElem] at hkeys ⊢
  intro i j hi hj hij q
  have a1:=List.mem_filter.1 (List.getElem_mem hi)
  have a2:=List.mem_filter.1 (List.getElem_mem hj)
  unfold A4 at q
  simp only [Acequialaw27Key.mk.injEq] at q
  exact hkeys i j hi hj hij ⟨q.2.2,q.2.1,by rw [a1.2,a2.2]⟩
 refine List.Perm.length_eq ((List.perm_ext_iff_of_nodup hnd hm.nd).2 fun p=> ?_)
 rw [List.mem_map,List.mem_map]
 constructor
 ·rintro ⟨x,hx,rfl⟩
  have hx:=List.mem_filter.1 hx
  have hx2:=(s7 h).1 ⟨hx.1,hx.2⟩
  have:=ho.lit x hx2
  exact ⟨_,hm.mem (p:=A4 x) (by unfold A4;simp only [if_true];omega),rfl⟩
 ·rintro ⟨e,he,rfl⟩
  have h1:=hm.entry he
  obtain ⟨⟨o,i,t⟩,n⟩ :=e
  simp only at h1
  cases o with
  | false=> simp at h1
  | true=>
   simp only [if_true] at h1
   obtain ⟨x,hx,rfl,rfl⟩ :=ho.all i t (by omega)
   have:=(s7 h).2 hx
   exact ⟨x,List.mem_filter.2 ⟨this.1,this.2⟩,rfl⟩
theorem Gd (h : Made d c (ae d c).1) {m : List (Acequialaw27Key×Int)} (hm : SM .acequialaw27Key (fun p=> if p.outlet=true then ke c p.index p.hour else 0) m) :
  az (cC d c m) (ae d c).1.length 0 0= .inr (m.length : Int) :=by
 have hlen:=(xS h).len
 have hw:=J9 h hm
 have ho:=outs (l8 h.ask.chk)
 have hmo:=fun x=> (s7 h (x:=x)).1
 have hst : ∀ k s,cC d c m k s=(bif ((ae d c).1.getD k (default : Order)).outlet then (bif ((ay .acequialaw27Key .int m (A4 ((ae d c).1.getD k (default : Order)))) !=((ae d c).1.getD k (default : Order)).litres) then .inl () else .inr (IntKind.i64.wrap (s + 1))) else .inr s) :=fun _ _=> rfl
 generalize (ae d c).1=l at hlen hw hmo hst ⊢
 obtain ⟨s,e,hs⟩ :=nB (step:=cC d c m) (fun j s=> s=((l.take j).countP (·.outlet) : Int)) l.length 0 0 (by simp) (fun j s _ hj hs=> by
  have hj : j < l.length:=by omega
  have hc : (l.take j).countP (·.outlet)≤4096:=Nat.le_trans List.countP_le_length (by rw [List.length_take];omega)
  rw [hst,c9 _ _ hj,List.take_succ_eq_append_getElem hj,List.countP_append]
  cases hout : l[j].outlet with
  | false=>
   refine ⟨s,rfl,?_⟩
   rw [hs]
   simp [hout]
  | true=>
   have hx:=hmo _ ⟨List.getElem_mem hj,hout⟩
   have e1 : ay .acequialaw27Key .int m (A4 l[j])=l[j].litres:=by
    rw [hm.get,(ho.lit _ hx).1]
    unfold A4
    simp only [if_true]
   rw [e1]
   refine ⟨_,by rw [cond_true,bne_self_eq_false,cond_false],?_⟩
   rw [hs,cd (by omega) (by omega)]
   simp [hout])
 rw [Nat.zero_add,List.take_length] at hs
 rw [e,hs,hw]
theorem J_ (d : District) (c : List Claim) : dZ d c=true:=by
 unfold dZ
 rw [J4]
 simp only [Bool.not_true,cond_false]
 cases mX d c with
 | false=> rfl
 | true=>
  simp only [Bool.not_true,cond_false]
  have herr : ∀ e : Int,e≠0→av d c=([],({ kind:=0,hour:=0,index:=0,litres:=0,limit:=0} : Fault),e)→
    ae d c=([],false,e)∧ak d c=(({ kind:=0,hour:=0,index:=0,litres:=0,limit:=0} : Fault),false,e) :=fun e he h=> by
   have : (e==0)=false:=by simpa using he
   unfold ae ak
   rw [h]
   simp only [this,Bool.false_and]
   refine ⟨?_,?_⟩ <;> first | trivial | rfl
  have hflt : ∀ f : Fault,f.kind≠0→av d c=([],f,0)→ae d c=([],false,0)∧ak d c=(f,true,0) :=fun f hf h=> by
   unfold ae ak
   rw [h]
   have:=U0 hf 0
   have hk : (f.kind==0)=false:=by simpa using hf
   simp only [hk,Bool.false_and,Bool.and_false,Bool.not_false]
   refine ⟨?_,?_⟩ <;> first | trivial | rfl
  have hend : ∀ f : Fault,f.limit < f.litres→0≤f.hour→f.hour < d.hours→0≤f.index→f.index < (d.reaches.length : Int)→f.kind≠0→ae d c=([],false,0)→ak d c=(f,true,0)→
    (bif (((ae d c).2.2 !=0) || ((ak d c).2.2 !=0)) then ((((((ae d c).2.2==(ak d c).2.2) && (!(ae d c).2.1)) && (!(ak d c).2.1)) && ((((ae d c).1).length : Int) ==0)) && ((((ak d c).1).kind==0) && ((((ak d c).1).hour==0) && ((((ak d c).1).index==0) && ((((ak d c).1).litres==0) && (((ak d c).1).limit==0)))))) else (bif ((((ae d c).2.1==(ak d c).2.1) || ((ae d c).2.1 && (!((((ak d c).1).kind==0) && ((((ak d c).1).hour==0) && ((((ak d c).1).index==0) && ((((ak d c).1).litres==0) && (((ak d c).1).limit==0)))))))) || ((!(ae d c).2.1) && (decide ((((ae d c).1).length : Int) > 0)))) then false else (bif (!(ae d c).2.1) then (((((decide (((ak d c).1).litres > ((ak d c).1).limit)) && (decide (((ak d c).1).hour≥0))) && (decide (((ak d c).1).hour < d.hours))) && (decide (((ak d c).1).index≥0))) && (decide (((ak d c).1).index < (d.reaches.length : Int)))) else (bif ((((ba d c) !=0) || ((bB d ((ae d c).1)) !=0)) || (!(f0 d c ((ae d c).1)))) then false else (match az (cB c) c.length 0 ([]) with | .inl x=> x.elim | .inr s_0=> (match az (cC d c s_0) (((ae d c).1).length) 0 0 with | .inl x_1_0=> false | .inr s_1=> (s_1==(s_0.length : Int))))))))=true:=fun f h1 h2 h3 h4 h5 _ e1 e2=> by
   rw [e1,e2]
   simp only [bne_self_eq_false,Bool.or_self,cond_false,Bool.false_and,Bool.or_false,Bool.not_false,cond_true,Bool.true_and,List.length_nil]
   rw [decide_eq_true (p:=f.litres > f.limit) h1,decide_eq_true (p:=f.hour≥0) h2,decide_eq_true h3,decide_eq_true (p:=f.index≥0) h4,decide_eq_true h5]
   rfl
  rcases Cp d c with ⟨_,h1,e⟩ | ⟨_,_,e⟩ | ⟨hA,_,hl,e⟩ | ⟨hA,gs,hP,_,f,hf,e⟩ | ⟨hA,gs,hP,hL,e⟩
  ·obtain ⟨e1,e2⟩ :=herr _ h1 e
   have : ((ag d c).2 !=0)=true:=by simpa using h1
   rw [e1,e2]
   simp only [this,Bool.or_self,cond_true,BEq.rfl]
   rfl
  ·obtain ⟨e1,e2⟩ :=herr 2 (by decide) e
   rw [e1,e2]
   rfl
  ·have hN:=hA.nar
   have hF:=Ok hN.good.right hN.good.orders hA.outs.out _ (FZ hl)
   have hk : (dp (am c) d).kind≠0:=by rw [hF.kind];decide
   obtain ⟨e1,e2⟩ :=hflt _ hk e
   exact hend _ hF.lim hF.h0 hF.h1 hF.i0 hF.i1 hk e1 e2
  ·have hk:=Co f hf
   have hR:=F4 hP.good.right f hf
   obtain ⟨e1,e2⟩ :=hflt f hk.1 e
   exact hend f hk.2 hR.1 hR.2.1 hR.2.2.1 hR.2.2.2 hk.1 e1 e2
  ·have e1 : ae d c=(srt ax (am c ++ gs),true,0) :=by unfold ae;rw [e];rfl
   have e2 : ak d c=(({ kind:=0,hour:=0,index:=0,litres:=0,limit:=0} : Fault),false,0) :=by unfold ak;rw [e];rfl
   have hM : Made d c (ae d c).1:=by rw [e1];exact ⟨hA,⟨gs,hP,rfl⟩,hL⟩
   have hS:=JK hM
   have hg:=hS.kp.good
   have hm : f0 d c (ae d c).1=true:=(Ga hg (l8 hA.chk)).2 ⟨hS.met,yW hS,hS.lim.tank⟩
   obtain ⟨m,em,hsm⟩ :=wn (l8 hA.chk)
   have hrun:=Gd hM hsm
   have em : az (cB c) c.length 0 ([])= .inr m:=em
   rw [hm,Au hg,hA.chk,e2]
   simp only [em,hrun]
   rw [e1]
   simp
end
end Go.Sx
end
section
namespace Go.Sx
open Go.RowKit Go.Deep
section
variable {F : Nat→Prop} {own : Own} {w : World}
def RC (F : Nat→Prop) (own : Own) (w : World) (ks : List Kd) (cs : List Value) : Prop:=
 ∃ l : List SV,mr ks l=true∧l.length=cs.length∧∀ (j : Nat) (s : SV) (v : Value),l[j]? =some s→cs[j]? =some v→Rel F own w s v
theorem A5 : ∀ {a b : List Kd} {l m : List SV},mr a l=true→mr b m=true→mr (a ++ b) (l ++ m)=true
 | [],b,l,m,h1,h2=> by rw [mC h1];exact h2
 | k :: a,b,l,m,h1,h2=> by
  obtain ⟨x,r,rfl,e1,e2⟩ :=i9 h1
  simp only [List.cons_append,mr,e1,A5 e2 h2,Bool.and_self]
theorem RC.nil : RC F own w [] [] :=⟨[],rfl,rfl,fun j s v h=> by cases h⟩
theorem RC.app {a b : List Kd} {c d : List Value} (h1 : RC F own w a c) (h2 : RC F own w b d) : RC F own w (a ++ b) (c ++ d) :=by
 obtain ⟨l,f1,n1,r1⟩ :=h1
 obtain ⟨m,f2,n2,r2⟩ :=h2
 refine ⟨l ++ m,A5 f1 f2,by simp [n1,n2],fun j s v hs hv=> ?_⟩
 by_cases hj : j < l.length
 ·rw [List.getElem?_append_left hj] at hs
  rw [List.getElem?_append_left (by omega)] at hv
  exact r1 j s v hs hv
 ·rw [List.getElem?_append_right (by omega)] at hs
  rw [List.getElem?_append_right (by omega),←n1] at hv
  exact r2 _ s v hs hv
theorem RC.one {k : Kd} {s : SV} {v : Value} (h1 : fit k s=true) (h2 : Rel F own w s v) : RC F own w [k] [v] :=
 ⟨[s],by simp [mr,h1],rfl,fun j s' v' hs hv=> by
  cases j with
  | zero=> simp only [List.getElem?_cons_zero,Option.some.injEq] at hs hv;subst hs;subst hv;exact h2
  | succ j=> simp at hs⟩
end
def Rj : Kd→Kd→Bool
 | .s,.s=> true
 | .b,.b=> true
 | .n a,.n b=> decide (a=b)
 | .r a,.r b=> decide (a=b)
 | .m a c,.m b d=> decide (a=b) && decide (c=d)
 | _,_=> false
theorem Ow : ∀ {a b : Kd},Rj a b=true→a=b:=by
 intro a b h
 cases a <;> cases b <;> simp_all [Rj]
def Ka : List Kd→List Kd→Bool
 | [],[] => true
 | a :: l,b :: m=> Rj a b && Ka l m
 | _,_=> false
theorem ET : ∀ {a b : List Kd},Ka a b=true→a=b
 | [],[],_=> rfl
 | a :: l,b :: m,h=> by
  simp only [Ka,Bool.and_eq_true] at h
  rw [Ow h.1,ET h.2]
def wp (P : Program) (g : TypeId→Option (List Kd)) : List Field→Nat→Nat→Option (List Kd)
 | [],off,tot=> bif Nat.beq off tot then some [] else none
 | f :: r,off,tot=> match g f.type with
  | some a=> bif Nat.beq f.offset off && Nat.beq a.length (P.cellsOf f.type) then (wp P g r (off + a.length) tot).map (a ++ ·) else none
  | none=> none
def Ct (a : List Kd) : Nat→List Kd
 | 0=> []
 | n + 1=> a ++ Ct a n
def wq (P : Program) : Nat→TypeId→Option (List Kd)
 | 0,_=> none
 | n + 1,t=> match P.underlying t with
  | some .bool=> some [.b]
  | some (.int k) => some [.n k]
  | some .string=> some [.s]
  | some (.slice e) => match y6 P e,wq P n e with
   | some k,some ks=> bif Ka ks (cn k) && Nat.beq (P.cellsOf e) (aa k) && Nat.ble 1 (aa k) then some [.r k] else none
   | _,_=> none
  | some (.struct fs) => wp P (wq P n) fs.toList 0 (P.cellsOf t)
  | some (.array m e) => match wq P n e with
   | some a=> bif Nat.beq a.length (P.cellsOf e) && Nat.beq (P.cellsOf t) (m * a.length) then some (Ct a m) else none
   | none=> none
  | _=> none
section
variable {H : Type} {enc : TypeId×Value→H} {P : Program} {F : Nat→Prop} {own : Own} {w : World} {base : Nat} {spare : Nat→Bool} {held : Bool} {S : DataW H→Prop}
theorem EU {g : TypeId→Option (List Kd)} (hg : ∀ t ks,g t=some ks→∀ (fuel : Nat) (cs : List Value) (x : DataW H×List MemPlace),DataW.trod enc P w base spare held fuel t cs=some x→S x.1→RC F own w ks cs)
  (fuel : Nat) (cs : List Value) : ∀ (fs : List Field) (off : Nat) (ks : List Kd),wp P g fs off cs.length=some ks→(∀ f∈fs,∃ x,DataW.trod enc P w base spare held fuel f.type ((cs.drop f.offset).take (P.cellsOf f.type))=some x∧S x.1)→RC F own w ks (cs.drop off)
 | [],off,ks,h,_=> by
  unfold wp at h
  cases hb : Nat.beq off cs.length with
  | false=> rw [hb] at h;cases h
  | true=>
   rw [hb] at h
   have : off=cs.length:=Nat.eq_of_beq_eq_true hb
   subst this
   cases h
   rw [List.drop_length]
   exact RC.nil
 | f :: r,off,ks,h,hx=> by
  unfold wp at h
  cases ha : g f.type with
  | none=> rw [ha] at h;cases h
  | some a=>
   rw [ha] at h
   dsimp only at h
   cases hb : Nat.beq f.offset off && Nat.beq a.length (P.cellsOf f.type) with
   | false=> rw [hb] at h;cases h
   | true=>
    rw [hb] at h
    simp only [cond_true,Option.map_eq_some_iff] at h
    obtain ⟨ks2,h2,rfl⟩ :=h
    rw [Bool.and_eq_true] at hb
    have e1 : f.offset=off:=Nat.eq_of_beq_eq_true hb.1
    have e2 : a.length=P.cellsOf f.type:=Nat.eq_of_beq_eq_true hb.2
    obtain ⟨x,hx1,hs1⟩ :=hx f (by simp)
    have h3:=hg _ _ ha _ _ _ hx1 hs1
    have h4:=EU hg fuel cs r (off + a.length) ks2 h2 fun f hf=> hx f (by simp [hf])
    have:=h3.app h4
    rw [e1,←e2] at this
    rwa [←List.drop_drop,List.take_append_drop] at this
theorem EV {e : TypeId} {a : List Kd} (ha : ∀ (fuel : Nat) (cs : List Value) (x : DataW H×List MemPlace),DataW.trod enc P w base spare held fuel e cs=some x→S x.1→RC F own w a cs)
  (fuel : Nat) : ∀ (m : Nat) (cs : List Value),cs.length=m * a.length→(∀ i,i < m→∃ x,DataW.trod enc P w base spare held fuel e ((cs.drop (i * a.length)).take a.length)=some x∧S x.1)→RC F own w (Ct a m) cs
 | 0,cs,h,_=> by
  have : cs=[] :=by simpa using h
  subst this
  exact RC.nil
 | m + 1,cs,h,hx=> by
  obtain ⟨x,hx1,hs1⟩ :=hx 0 (by omega)
  rw [Nat.zero_mul,List.drop_zero] at hx1
  have h3:=ha _ _ _ hx1 hs1
  have h4:=EV ha fuel m (cs.drop a.length) (by rw [List.length_drop,h,Nat.succ_mul];omega) fun i hi=> by
   obtain ⟨x,hx2,hs2⟩ :=hx (i + 1) (by omega)
   refine ⟨x,?_,hs2⟩
   rw [List.drop_drop]
   rwa [Nat.succ_mul,Nat.add_comm] at hx2
  have:=h3.app h4
  rwa [List.take_append_drop] at this
structure Small (S : DataW H→Prop) : Prop where
 agg : ∀ l,S (.agg l)→∀ d∈l,S d
 slice : ∀ l m,S (.slice l m)→l.length≤bu∧∀ d∈l,S d
theorem lG (hS : Small S) (hown : ∀ b,¬ bD F own b) : ∀ (n : Nat) (t : TypeId) (ks : List Kd),wq P n t=some ks→∀ (fuel : Nat) (cs : List Value) (x : DataW H×List MemPlace),DataW.trod enc P w base spare held fuel t cs=some x→S x.1→RC F own w ks cs
 | 0,_,_,h,_,_,_,_,_=> by cases h
 | n + 1,t,ks,h,fuel,cs,x,hx,hs=> by
  unfold wq at h
  split at h
  ·rename_i ht
   cases h
   obtain ⟨b,rfl,rfl⟩ :=DataW.trod_bool ht hx
   exact RC.one (s:= .v (.bool b)) rfl (.v _)
  ·rename_i k ht
   cases h
   obtain ⟨m,rfl,rfl,_⟩ :=DataW.trod_int ht hx
   exact RC.one (s:= .v (.int k m)) (by simp [fit]) (.v _)
  ·rename_i ht
   cases h
   obtain ⟨b,rfl,rfl,_⟩ :=DataW.trod_string ht hx
   exact RC.one (s:= .v (.string b)) rfl (.v _)
  ·rename_i e ht
   split at h
   ·rename_i k ks2 hk hks
    cases hb : Ka ks2 (cn k) && Nat.beq (P.cellsOf e) (aa k) && Nat.ble 1 (aa k) with
    | false=> rw [hb] at h;cases h
    | true=>
     rw [hb] at h
     cases h
     simp only [Bool.and_eq_true] at hb
     have e1:=ET hb.1.1
     have e2 : P.cellsOf e=aa k:=Nat.eq_of_beq_eq_true hb.1.2
     have e3 : 1≤aa k:=Nat.le_of_ble_eq_true hb.2
     subst e1
     rcases open_slice ht hx with ⟨rfl,rfl⟩ | ⟨a,len,cap,m,f2,D,Pl,rfl,hb1,hl,hm,hmm,rfl,hel⟩
     ·exact RC.one (s:= .rs k []) (by simp [fit]) .rs0
     ·have hlm : len≤m:=by subst hmm;split <;> omega
      obtain ⟨hs1,hs2⟩ :=hS.slice _ _ hs
      simp only [List.length_map,List.length_range] at hs1
      have helt : ∀ i,i < len→∃ cs',cs'.length=aa k∧(∀ j v,cs'[j]? =some v→w.cell? ((a.add (i * aa k)).add j)=some v)∧RC F own w (cn k) cs':=fun i hi=> by
       obtain ⟨cs',h1,h2⟩ :=hel i (by omega)
       have h3:=lG hS hown n e (cn k) hks f2 cs' _ h2 (hs2 _ (List.mem_map_of_mem (List.mem_range.2 hi)))
       unfold World.cells? at h1
       split at h1
       ·refine ⟨cs',by rw [mapM_some_length h1,List.length_range,e2],fun j v hj=> ?_,h3⟩
        have hlt : j < P.cellsOf e:=by
         have:=(List.getElem?_eq_some_iff.1 hj).1
         rwa [mapM_some_length h1,List.length_range] at this
        have:=mapM_some_get h1 j j (by simp [hlt])
        rw [e2] at this
        rw [this,hj]
       ·cases h1
      by_cases h0 : len=0
      ·subst h0
       exact RC.one (s:= .rs k []) (by simp [fit]) .rs0
      ·have hsp : a.spot=none:=by
        obtain ⟨cs',h1,h2,_⟩ :=helt 0 (by omega)
        have:=h2 0 (cs'[0]'(by omega)) (by rw [List.getElem?_eq_getElem])
        rw [Nat.zero_mul] at this
        simp only [Addr.add,if_true] at this
        unfold World.cell? at this
        split at this
        ·cases hsp : a.spot with
         | none=> rfl
         | some q=> rw [hsp] at this;simp at this
        ·cases this
       obtain ⟨ab,ao,asp⟩ :=a
       dsimp only at hsp
       subst hsp
       haveI : Inhabited k.T:=⟨c6 k⟩
       obtain ⟨X,hX⟩ :=choose_lt (p:=fun i (x : k.T) => ∀ (j : Nat) (s : SV),(cellsOf k x)[j]? =some s→∃ v,w.cell? ⟨ab,ao + i * aa k + j,none⟩=some v∧Rel F own w s v) (n:=len) fun i hi=> by
        obtain ⟨cs',h1,h2,l,h3,h4,h5⟩ :=helt i hi
        refine ⟨mkE k l,fun j s hj=> ?_⟩
        rw [jN (k:=k) (l:=l) (x:=mkE k l) (by unfold mt;rw [h3];rfl)] at hj
        have hlt : j < cs'.length:=by
         have:=(List.getElem?_eq_some_iff.1 hj).1
         omega
        refine ⟨cs'[j],?_,h5 j s _ hj (List.getElem?_eq_getElem hlt)⟩
        have:=h2 j cs'[j] (List.getElem?_eq_getElem hlt)
        have hadd : ∀ p q,((⟨ab,ao,none⟩ : Addr).add p).add q=⟨ab,ao + p + q,none⟩ :=fun p q=> by
         unfold Addr.add
         by_cases hp : p=0 <;> by_cases hq : q=0 <;> simp [hp,hq]
        rwa [hadd] at this
       have hL : ((List.range len).map X).length=len:=by simp
       refine RC.one (s:= .rs k ((List.range len).map X)) (by simp [fit]) ?_
       have hget : ∀ (i : Nat) (x : k.T),((List.range len).map X)[i]? =some x→i < len∧x=X i:=fun i x hi=> by
        obtain ⟨h1,h2⟩ :=List.getElem?_eq_some_iff.1 hi
        rw [hL] at h1
        simp only [List.getElem_map,List.getElem_range] at h2
        subst h2
        exact ⟨h1,rfl⟩
       have:=Rel.rs (F:=F) (own:=own) (w:=w) (k:=k) (l:=(List.range len).map X) (b:=ab) (o:=ao) (cap:=cap) (fun i j=> (w.cell? ⟨ab,ao + i * aa k + j,none⟩).getD undef) (by rw [hL];exact hl) (by rw [hL];exact hs1)
        (fun i x hi j s hj=> by
         obtain ⟨h1,rfl⟩ :=hget i x hi
         obtain ⟨v,h2,_⟩ :=hX i h1 j s hj
         exact ⟨hown _,by rw [h2];rfl⟩)
        (fun i x hi j s hj=> by
         obtain ⟨h1,rfl⟩ :=hget i x hi
         obtain ⟨v,h2,h3⟩ :=hX i h1 j s hj
         rw [h2];exact h3)
       rwa [hL] at this
   ·cases h
  ·rename_i fs ht
   obtain ⟨xs,m,rfl,rfl,hl,hlen,hf⟩ :=DataW.trod_struct ht hx
   rw [←hl] at h
   have:=EU (lG hS hown n) m cs fs.toList 0 ks h fun f hfm=> by
    obtain ⟨i,hi,rfl⟩ :=List.getElem_of_mem hfm
    have hi' : i < fs.size:=by simpa using hi
    have h1:=hf i fs[i] (by simp [hi'])
    rw [List.getElem?_eq_getElem (by omega)] at h1
    refine ⟨_,by simpa using h1,hS.agg _ hs _ (List.mem_map_of_mem (List.getElem_mem _))⟩
   simpa using this
  ·rename_i m e ht
   split at h
   ·rename_i a ha
    cases hb : Nat.beq a.length (P.cellsOf e) && Nat.beq (P.cellsOf t) (m * a.length) with
    | false=> rw [hb] at h;cases h
    | true=>
     rw [hb] at h
     cases h
     rw [Bool.and_eq_true] at hb
     have e1 : a.length=P.cellsOf e:=Nat.eq_of_beq_eq_true hb.1
     have e2 : P.cellsOf t=m * a.length:=Nat.eq_of_beq_eq_true hb.2
     obtain ⟨xs,f2,rfl,rfl,hl,hlen,hf⟩ :=DataW.trod_array ht hx
     refine EV (lG hS hown n e a ha) f2 m cs (by rw [hl,e2]) fun i hi=> ?_
     have h1:=hf i hi
     rw [List.getElem?_eq_getElem (by omega),←e1] at h1
     exact ⟨_,h1,hS.agg _ hs _ (List.mem_map_of_mem (List.getElem_mem _))⟩
   ·cases h
  ·cases h
end
end Go.Sx
end
section
namespace Go.Sx
open Go.Proofs
section
variable {F : Nat→Prop} {own : Own} {w : World}
theorem Ox {k : Tag} {cs : Array Value} (h : RC F own w (cn k) cs.toList) : ∃ x : k.T,Rel F own w (.agg (cellsOf k x)) (.agg cs) :=by
 obtain ⟨l,h3,h4,h5⟩ :=h
 refine ⟨mkE k l,?_⟩
 rw [jN (k:=k) (l:=l) (x:=mkE k l) (by unfold mt;rw [h3];rfl)]
 refine .agg (by simpa using h4.symm) fun j s hj=> ?_
 have hlt : j < cs.size:=by
  have:=(List.getElem?_eq_some_iff.1 hj).1
  simpa [h4] using this
 exact h5 j s _ hj (by simp [Array.getD,hlt])
theorem Rk {k : Tag} {v : Value} (h : RC F own w [.r k] [v]) : ∃ l : List k.T,Rel F own w (.rs k l) v:=by
 obtain ⟨l,h3,h4,h5⟩ :=h
 obtain ⟨x,r,rfl,h6,h7⟩ :=i9 h3
 have h8:=h5 0 x v rfl rfl
 cases x with
 | rs k' l'=>
  have : k=k':=by
   simp only [fit] at h6
   exact ol h6
  subst this
  exact ⟨l',h8⟩
 | _=> simp [fit] at h6
end
end Go.Sx
end
section
namespace Go.Sx
open Go.RowKit Go.WideShapes Go.ChangeShapes
section
variable {H : Type} {enc : TypeId×Value→H} {P : Program}
def Oy (P : Program) : List TypeId→Bool
 | [] => true
 | t :: r=> P.readableRec t && Nat.blt t P.types.size && Oy P r
theorem xT (hl : laidOutB P=true) {W W' : World} (hg : Below W.heap.size W W') : ∀ {ts : List TypeId} {vs : List Value} {ds : List (DataW H)} {ps : List MemPlace},Oy P ts=true→
  DataW.TrodAll enc P W 0 (fun _=> true) true ts vs ds ps→(∀ x∈ps,x.block < W.heap.size)→DataW.TrodAll enc P W' 0 (fun b=> decide (b < W.heap.size)) true ts vs ds ps
 | [],vs,ds,ps,_,h,_=> by
  obtain ⟨rfl,rfl,rfl⟩ :=trodAll_nil h
  exact trodAll_mk0
 | t :: ts,vs,ds,ps,hk,h,hlt=> by
  unfold Oy at hk
  rw [Bool.and_eq_true,Bool.and_eq_true] at hk
  obtain ⟨v,vs',d,ds',p,q,rfl,rfl,rfl,h1,h2⟩ :=trodAll_cons h
  refine trodAll_cons_mk (WideElems.Trod_stays hl hk.1.1 (by simpa [Nat.blt_eq] using hk.1.2) h1 (fun x hx=> hg.same (hlt x (List.mem_append_left _ hx))) (fun x hx=> by simpa using hlt x (List.mem_append_left _ hx))) ?_
  exact xT hl hg hk.2 h2 fun x hx=> hlt x (List.mem_append_right _ hx)
theorem Kb (hl : laidOutB P=true) {f : Func} {s : ChangeSpec} {W W' : World} {args : Array Value} {ds gs : List (DataW H)} {before : List MemPlace} {t : TypeId}
  (hk : Oy P f.params.toList=true) (hW : DataW.Whole enc P f.params.toList s.vars false W args.toList ds gs before)
  (hr : f.resultTypes= #[t]) (ht : P.underlying t=some .bool) (hv : s.vars=[]) (h1 : (s.fn H (ds ++ gs)).results=[.lit (.bool true)]) (h2 : (s.fn H (ds ++ gs)).args=ds) (h3 : (s.fn H (ds ++ gs)).vars=[])
  (hg : Below W.heap.size W W') : s.post enc P f false true false false W args (.bool true) W':=by
 have hlt:=hW.lt
 have hW0:=hW
 obtain ⟨p,q,hA,hV,rfl,_,_⟩ :=hW
 rw [hv] at hV
 obtain ⟨rfl,rfl⟩ :=trodVars_none hV
 refine ⟨ds,[],p ++ [],[],p,[],hW0,?_,?_,?_,?_,fun h=> by cases h⟩
 ·rw [h1,hr]
  exact trodAll_cons_mk (shut_bool ht _) trodAll_mk0
 ·rw [h2]
  exact xT hl hg hk hA fun x hx=> hlt x (by simpa using hx)
 ·rw [h3,hv]
  rfl
 ·exact World.keptBut_mono (fun x hx=> ⟨hx,.inr (.inl (by simpa using hx))⟩) (hg.frame (· ∈p ++ []))
end
end Go.Sx
end
section
namespace Go.Proofs.YtagjakphhkfofaaGreat.bulks
theorem one_le {H : Type} (d : DataW H) : 1≤Rows.uptoBulk d:=by
 cases d with
 | lit l=> cases l <;> simp [Rows.uptoBulk]
 | nil=> simp [Rows.uptoBulk]
 | ptr d=> simp [Rows.uptoBulk]
 | slice kh spare=> simp [Rows.uptoBulk]
 | agg parts=> simp [Rows.uptoBulk]
 | iface t d=> simp [Rows.uptoBulk]
 | map entries=> simp [Rows.uptoBulk]
 | held h=> simp [Rows.uptoBulk]
theorem part_le {H : Type} {d : DataW H} {l : List (DataW H)} (h : d∈l) : Rows.uptoBulk d≤Rows.uptoBulkAll l:=by
 induction l with
 | nil=> cases h
 | cons x r ih=>
  simp only [Rows.uptoBulkAll]
  cases List.mem_cons.1 h with
  | inl e=> subst e;omega
  | inr e=> have:=ih e;omega
theorem append {H : Type} (l r : List (DataW H)) : Rows.uptoBulkAll (l ++ r)=Rows.uptoBulkAll l + Rows.uptoBulkAll r:=by
 induction l with
 | nil=> simp [Rows.uptoBulkAll]
 | cons x l ih=> simp only [List.cons_append,Rows.uptoBulkAll,ih];omega
theorem length_le {H : Type} (l : List (DataW H)) : l.length≤Rows.uptoBulkAll l:=by
 induction l with
 | nil=> simp [Rows.uptoBulkAll]
 | cons x r ih=> have:=one_le x;simp only [Rows.uptoBulkAll,List.length_cons];omega
theorem slice_le {H : Type} (kh spare : List (DataW H)) : kh.length + spare.length + 1≤Rows.uptoBulk (.slice kh spare) :=by
 have h1:=length_le kh
 have h2:=length_le spare
 simp only [Rows.uptoBulk]
 omega
theorem slice_elems {H : Type} (kh spare : List (DataW H)) : Rows.uptoBulkAll kh + 1≤Rows.uptoBulk (.slice kh spare) :=by
 simp only [Rows.uptoBulk]
 omega
theorem bound {H : Type} {l : List (DataW H)} (hk : Rows.uptoSmall H l=true) : Rows.uptoBulkAll l≤1048576:=by
 simpa [Rows.uptoSmall] using hk
theorem room {n b : Nat} (hn : n≤2097152) (hb : b≤4096) : (n + n / 4 + 192) * b≤281474976710656:=by
 have h : (n + n / 4 + 192) * b≤2621632 * 4096:=Nat.mul_le_mul (by omega) hb
 omega
end Go.Proofs.YtagjakphhkfofaaGreat.bulks
end
section
namespace Go.Proofs.YtagjakphhkfofaaGreat.timetableSure
open Go.ChangeShapes Go.WideShapes Go.ChangeAt Go.RowKit Go.Sx
set_option linter.unusedVariables false
theorem con_eq (x0 : Tag.district.T) (x1 : List Tag.claim.T) : fH [.agg (cellsOf .district x0),.rs .claim x1]=some (.det (eo x0 x1) (.v (.bool (dZ x0 x1)))) :=by
 unfold fH
 simp only [go_sem,Nat.reduceBEq]
theorem call_true {W : World} {cs0 : Array Value} (h0 : RC (fun _=> False) bZ W (cn .district) cs0.toList) {v1 : Value} (h1 : RC (fun _=> False) bZ W [.r .claim] [v1]) :
  Calls Tryz.prog 7 #[.agg cs0,v1] W (fun e W'=> e= .returned (.bool true)∧Below W.heap.size W W') :=by
 obtain ⟨x0,r0⟩ :=Ox h0
 obtain ⟨x1,r1⟩ :=Rk h1
 refine (nG.calls _ _ (con_eq x0 x1) (J8 x0 x1) (fun _=> False) W _ (fun b h=> h.elim) ⟨rfl,fun j s hj=> ?_⟩).mono fun e W' he=> ?_
 ·match j,hj with
  | 0,hj=> cases hj;exact r0
  | 1,hj=> cases hj;exact r1
 ·rcases he with ⟨s,u,own',hs,rfl,hh,hb⟩ | ⟨x,hx,_⟩
  ·simp only [co] at hs
   subst hs
   rw [J_ x0 x1] at hh
   have:=hh.val
   simp only [ox] at this
   rw [bH this]
   exact ⟨rfl,hb⟩
  ·exact hx.elim
theorem own : ownKnob Tryz.prog.godebug=none:=by kernel_rfl
theorem small (H : Type) : Small (fun d : DataW H=> Rows.uptoBulk d≤1048576) where
 agg l h d hd:=by
  have h1:=bulks.part_le hd
  simp only [Rows.uptoBulk] at h
  omega
 slice l m h:=by
  have h1:=bulks.slice_le l m
  have h2:=bulks.slice_elems l m
  refine ⟨by unfold bu;omega,fun d hd=> ?_⟩
  have:=bulks.part_le hd
  omega
theorem laid : laidOutB Tryz.prog=true:=by kernel_rfl
set_option maxRecDepth 100000 in
theorem contract (H : Type) (enc : TypeId×Value→H) (W : World) (base : Nat) (args : Array Value) (ds gs : List (DataW H)) (before : List MemPlace)
  (hval : ∀ (j : Nat) t v,Tryz.f7.params[j]? =some t→args[j]? =some v→Value.okWide Tryz.prog W .any base t v)
  (hW : DataW.Whole enc Tryz.prog Tryz.f7.params.toList Rows.timetableSureSpec.vars false W args.toList ds gs before) (hk : Rows.uptoSmall H (ds ++ gs)=true) :
  Calls Tryz.prog 7 args W fun e W'=> ∃ v,e= .returned v∧Rows.timetableSureSpec.post enc Tryz.prog Tryz.f7 false true false false W args v W':=by
 have hW':=hW
 obtain ⟨p,q,hA0,hV,rfl,hfz,hnd⟩ :=hW
 have hA : DataW.TrodAll enc Tryz.prog W 0 (fun _=> true) true Tryz.f7.params.toList args.toList ds p:=hA0
 rw [Tryz.params7] at hA hval
 obtain ⟨v0,vs0,d0,ds0,p0,q0,hargs,rfl,rfl,h0,r0⟩ :=trodAll_cons hA
 obtain ⟨v1,vs1,d1,ds1,p1,q1,rfl,rfl,rfl,h1,r1⟩ :=trodAll_cons r0
 obtain ⟨rfl,rfl,rfl⟩ :=trodAll_nil r1
 obtain rfl : args= #[v0,v1] :=by cases args;simp_all
 obtain ⟨rfl,rfl⟩ :=trodVars_none hV
 have hb:=bulks.bound hk
 simp only [Rows.uptoBulkAll,List.append_nil,List.cons_append,List.nil_append] at hb
 have ho : ∀ b,¬ bD (fun _=> False) bZ b:=fun b h=> by
  rcases h with h | ⟨_,_,h,_⟩
  ·exact h
  ·cases h
 have s0 : ∃ cs,v0= .agg cs:=by
  have:=hval 0 31 v0 rfl rfl
  simp only [Value.okWide,Tryz.underlying31] at this
  exact ⟨_,this.choose_spec.1⟩
 obtain ⟨cs0,rfl⟩ :=s0
 obtain ⟨a1,l1,c1,rfl⟩ :=okWide_slice Tryz.underlying32 (hval 1 32 v1 rfl rfl)
 have R0 : RC (fun _=> False) bZ W (cn .district) cs0.toList:=by
  obtain ⟨f,hf⟩ :=h0
  exact lG (n:=6) (t:=31) (small H) ho _ (by kernel_rfl) f _ _ hf (by show Rows.uptoBulk d0≤_;omega)
 have R1 : RC (fun _=> False) bZ W [.r .claim] [.slice a1 l1 c1] :=by
  obtain ⟨f,hf⟩ :=h1
  exact lG (n:=6) (t:=32) (small H) ho _ (by kernel_rfl) f _ _ hf (by show Rows.uptoBulk d1≤_;omega)
 refine (call_true R0 R1).mono fun e W' ⟨he,hg⟩ => ?_
 subst he
 exact ⟨_,rfl,Kb laid (by kernel_rfl) hW' (by kernel_rfl) Tryz.underlying4 rfl rfl rfl rfl hg⟩
def zeroV : Kd→Value
 | .n k=> .int k 0
 | .b=> .bool false
 | .s=> .string (ByteArray.mk #[])
 | .r _=> .slice none 0 0
 | .m _ _=> .map none
def wit : Array Value:= #[.agg ((cn .district).map zeroV).toArray,.slice none 0 0]
set_option maxRecDepth 100000 in
theorem lifted (os : Os) (started : os.Started) (H : Type) (enc : TypeId×Value→H) (F : Stop.Interp) :
  ReturnsInHanded {} Tryz.checked os 7 .any ((Rows.OpenSpec.upto Rows.timetableSureSpec).pre6 enc Tryz.prog Tryz.f7 Rows.timetableSureUptoRow.domain false) (((Rows.OpenSpec.upto Rows.timetableSureSpec).at F).post enc Tryz.prog Tryz.f7 false true false false) :=by
 refine returnsInHanded_of_cond (C:=Tryz.checked) (s:=Rows.OpenSpec.upto Rows.timetableSureSpec) (k:=Rows.uptoSmall) rfl own started (by kernel_rfl) Tryz.func7
  (OpenSpec.witness (enc:=enc) (C:=Tryz.checked) (s:=Rows.OpenSpec.upto Rows.timetableSureSpec) (k:=Rows.uptoSmall) rfl false ⟨#[],wit,[]⟩ 8 (by kernel_rfl) (by kernel_rfl) (by kernel_rfl)
   (x:=(DataW.whole enc Tryz.prog (World.plainHolding Tryz.prog os ⟨#[],wit,[]⟩).memory Tryz.f7.params.toList Rows.timetableSureSpec.vars false wit.toList 8).getD ([],[],[])) (by kernel_rfl) rfl (by kernel_rfl)) ?_
 intro W base args ds gs before hval hW _ hk _
 exact contract H enc W base args ds gs before hval hW hk
theorem over : Rows.timetableSureUptoRow.holds Tryz.pinned (Rows.OpenSpec.upto Rows.timetableSureSpec) :=
 OpenClaim.holds_of_cond 7 Tryz.f7 rfl rfl rfl rfl rfl rfl rfl ⟨rfl,rfl,rfl,rfl,rfl⟩ rfl rfl rfl rfl rfl (by kernel_rfl) Tryz.func7 (by kernel_rfl)
  (of_decide_eq_true (by kernel_rfl)) (by unfold Func.isWrapper;first | (rw [if_pos (by decide +kernel)];kernel_rfl) | (rw [if_neg (by decide +kernel)];exact ⟨rfl,rfl⟩))
  (fun os started H enc _ F=> lifted os started H enc F)
theorem proved : Rows.TimetableSureUptoSaid:=over
end Go.Proofs.YtagjakphhkfofaaGreat.timetableSure
end
