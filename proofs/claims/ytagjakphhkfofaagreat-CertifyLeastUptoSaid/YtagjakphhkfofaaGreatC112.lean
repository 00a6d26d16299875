/- Part of the proof that the law CertifyLeast returns true and leaves its arguments as they were, for all arguments of bulk at most 1048576 (the Upto form). -/
import Derived.Test.YtagjakphhkfofaaGreatC111
import Derived.Test.YtagjakphhkfofaaGreatC109
import Derived.Test.YtagjakphhkfofaaGreatC107
import Derived.Test.YtagjakphhkfofaaGreatC110
import Derived.Test.YtagjakphhkfofaaGreatC106
import Derived.Deep.Slices
import Derived.OpenShut
import Derived.ChangeSame
import Derived.WideKeyArgs
import Derived.Below
import Derived.Test.YtagjakphhkfofaaGreatRows
import Derived.WalkKit
import Derived.ProofKit
import Derived.JoinedCond
import Derived.Carry
set_option linter.all false
section
namespace Go.Sx
open Go.Proofs
set_option maxRecDepth 100000
set_option linter.unusedSimpArgs false
theorem uX {p : Prop} (h : p:=by (first | done | (repeat' (first | with_reducible refine And.intro ?_ ?_ | ((with_reducible show _≠_);first | assumption | omega | (simp_all [am,aC];done) | grind) | with_reducible intro _)) <;> (first | done | exact Empty.elim ‹Empty› | assumption | rfl | omega | decide | exact fk [0] | (simp only [*,cond_true,cond_false,Bool.not_true,Bool.not_false,go_sem,Nat.reduceBEq,Nat.reduceLeDiff,Nat.reduceLT,decide_true,Nat.reduceAdd,Nat.reduceSub,Nat.reduceMul,Int.reduceLE,Int.reduceLT,Int.reduceToNat,Int.reduceNeg,reduceCtorEq];done) | (simp only [*,cond_true,cond_false,Bool.not_true,Bool.not_false,go_sem,Nat.reduceBEq,Nat.reduceLeDiff,Nat.reduceLT,decide_true,Nat.reduceAdd,Nat.reduceSub,Nat.reduceMul,Int.reduceLE,Int.reduceLT,Int.reduceToNat,Int.reduceNeg,reduceCtorEq];(repeat' (first | with_reducible refine And.intro ?_ ?_ | ((with_reducible show _≠_);first | assumption | omega | (simp_all [am,aC];done) | grind) | with_reducible intro _)) <;> (first | done | assumption | rfl | omega | decide | exact fk [0] | (simp_all [am,aC];done))) | (simp_all [okI,am,aC];done) | (simp_all [am,aC];(first | done | exact fk2 [0])) | exact fk2 [0]))) : p:=h
theorem uY {p : Prop} (h : p:=by (first | done | (repeat' (first | with_reducible refine And.intro ?_ ?_ | ((with_reducible show _≠_);first | assumption | omega | (simp_all [am,aC];done) | grind) | with_reducible intro _)) <;> (first | done | exact Empty.elim ‹Empty› | assumption | rfl | omega | decide | exact fk [0,1,2,3] | (simp only [*,cond_true,cond_false,Bool.not_true,Bool.not_false,go_sem,Nat.reduceBEq,Nat.reduceLeDiff,Nat.reduceLT,decide_true,Nat.reduceAdd,Nat.reduceSub,Nat.reduceMul,Int.reduceLE,Int.reduceLT,Int.reduceToNat,Int.reduceNeg,reduceCtorEq];done) | (simp only [*,cond_true,cond_false,Bool.not_true,Bool.not_false,go_sem,Nat.reduceBEq,Nat.reduceLeDiff,Nat.reduceLT,decide_true,Nat.reduceAdd,Nat.reduceSub,Nat.reduceMul,Int.reduceLE,Int.reduceLT,Int.reduceToNat,Int.reduceNeg,reduceCtorEq];(repeat' (first | with_reducible refine And.intro ?_ ?_ | ((with_reducible show _≠_);first | assumption | omega | (simp_all [am,aC];done) | grind) | with_reducible intro _)) <;> (first | done | assumption | rfl | omega | decide | exact fk [0,1,2,3] | (simp_all [am,aC];done))) | (simp_all [okI,am,aC];done) | (simp_all [am,aC];(first | done | exact fk2 [0,1,2,3])) | exact fk2 [0,1,2,3]))) : p:=h
@[go_sem] def bW (out : List Order) (d : District) (z_0 : Fault) (s_0 : Int×Int×Int×Int×Int) : Empty⊕(Int×Int×Int×Int×Int) :=(bif (((s_0.1==0) && ((s_0.2.1==0) && ((s_0.2.2.1==0) && ((s_0.2.2.2.1==0) && (s_0.2.2.2.2==0))))) || (decide ((bP ([(aR z_0.hour s_0.2.1),(aR s_0.2.2.1 z_0.index)])) < 0))) then .inr (z_0.kind,z_0.hour,z_0.index,z_0.litres,z_0.limit) else .inr (s_0.1,s_0.2.1,s_0.2.2.1,s_0.2.2.2.1,s_0.2.2.2.2))
def oe (out : List Order) (d : District) (z_0 : Fault) (s_0 : Int×Int×Int×Int×Int) : Prop:=True
def ew (out : List Order) (d : District) : Fault:=(match cw (bW out d) (br out d) (0,0,0,0,0) with | .inl x=> x.elim | .inr s_0=> ({ kind:=s_0.1,hour:=s_0.2.1,index:=s_0.2.2.1,litres:=s_0.2.2.2.1,limit:=s_0.2.2.2.2} : Fault))
def iy (out : List Order) (d : District) : Prop:=(eb out d ((br out d).map dZ))
@[go_sem] noncomputable def kW : List SV→Option Con:=(pFn 98 (pXR .order fun out=> (pX .district fun d=> (pE ((pE (.det (iy out d) (.agg (cellsOf .fault (ew out d))))))))))
set_option maxHeartbeats 4000000 in
theorem pz : FnOk Tryz.prog 55 kW:=by
 have hG : ConsOk Tryz.prog (mkG [(69,fun l=> iq (dw [.sl .int] l)),(70,di)] []) :=aN (cgc (kv.norm [.sl .int]) (cgc d9 cg0)) cg0
 refine a_ [.st .fault] mixed aD hG (fn:=Tryz.f55) (c:=ag Tryz.f55) (by kernel_rfl) (by kernel_rfl) (by kernel_rfl) (by kernel_rfl) (ql (M2 fun out=> (pm fun d=> (aV ((aV (fun hp=> ?_)))))))
 dsimp only [aZ] at hp
 unfold iy at hp
 refine ⟨Nat.le_of_ble_eq_true rfl,(fun id st=> bif Nat.beq id 0 then some (LC (ρ:=Empty) (σ:=Int×Int×Int×Int×Int) (lk 2 st.t= .ptr 0 0∧lk 4 st.t= .fn 98 [] [.ep [.rs .order out] 0,.ep (cellsOf .district d) 0]∧st.h=[.cells [.v (.int .i64 0),.v (.int .i64 0),.v (.int .i64 0),.v (.int .i64 0),.v (.int .i64 0)]]∧eb out d ((br out d).map dZ)) (cw (bW out d) (br out d) (0,0,0,0,0)) (fun x=> x.elim) (fun x=> x.elim) (fun s_0=> ⟨[(2,.ptr 0 0)],[.cells [.v (.int .i64 s_0.1),.v (.int .i64 s_0.2.1),.v (.int .i64 s_0.2.2.1),.v (.int .i64 s_0.2.2.2.1),.v (.int .i64 s_0.2.2.2.2)]]⟩)) else none),?_,?_⟩
 ·unfold ag Tryz.f55
  simp only [aw,true_and,and_true]
  ·refine lI mixed aD hG (by decide) (by decide) (by kernel_rfl) (by kernel_rfl) fun st lc hC hp=> ?_
   simp only [go_sem,Nat.reduceBEq,Option.some.injEq] at hC
   subst hC
   obtain ⟨t,h⟩ :=st
   dsimp only [LC] at hp
   obtain ⟨e0_0,e0_1,rfl,hb0⟩ :=hp
   refine ⟨98,[.ep [.rs .order out] 0,.ep (cellsOf .district d) 0],Fault,_,_,(br out d),dZ,(bW out d),(oe out d),_,(0,0,0,0,0),_,_,_,[(2,.ptr 0 0)],(fun s_0=> [.cells [.v (.int .i64 s_0.1),.v (.int .i64 s_0.2.1),.v (.int .i64 s_0.2.2.1),.v (.int .i64 s_0.2.2.2.1),.v (.int .i64 s_0.2.2.2.2)]]),(fun x=> x.elim),[0],?_,rfl,xA _ _ fun _ _ _=> trivial,Nat.le_of_ble_eq_true rfl,?_,oL out d _ hb0,fun z_0 s_0 hq0=> ⟨rfl,L0,fun l=> ?_,fun l=> ?_,?_⟩,fun s_0=> ?_,fun y=> ?_⟩
   ·simp only [go_sem,e0_0,e0_1]
   ·simp only [go_sem,Nat.reduceBEq,Nat.reduceLeDiff,Nat.reduceLT,decide_true,Nat.reduceAdd,Nat.reduceSub,Nat.reduceMul,Int.reduceLE,Int.reduceLT,Int.reduceToNat,Int.reduceNeg,reduceCtorEq,mD,ia,List.flatMap_cons,List.flatMap_nil,List.nil_append,List.append_nil,List.map_nil,e0_0,e0_1]
    all_goals (first | done | decide | (repeat' (first | refine And.intro ?_ ?_ | rfl | decide)))
   ·simp only [aw,and_self,true_and,and_true]
   ·simp only [aw,and_self,true_and,and_true]
   ·skip
    simp only [go_sem,Nat.reduceBEq,Nat.reduceLeDiff,Nat.reduceLT,decide_true,Nat.reduceAdd,Nat.reduceSub,Nat.reduceMul,Int.reduceLE,Int.reduceLT,Int.reduceToNat,Int.reduceNeg,reduceCtorEq,bW,psT,dZ,List.cons_append,List.nil_append]
    all_goals exact uX
   ·simp only [go_sem,Nat.reduceBEq,Nat.reduceLeDiff,Nat.reduceLT,decide_true,Nat.reduceAdd,Nat.reduceSub,Nat.reduceMul,Int.reduceLE,Int.reduceLT,Int.reduceToNat,Int.reduceNeg,reduceCtorEq]
    all_goals exact uX
   ·simp only [go_sem,Nat.reduceBEq,Nat.reduceLeDiff,Nat.reduceLT,decide_true,Nat.reduceAdd,Nat.reduceSub,Nat.reduceMul,Int.reduceLE,Int.reduceLT,Int.reduceToNat,Int.reduceNeg,reduceCtorEq]
    all_goals exact uX
 ·unfold ag Tryz.f55
  try unfold ew
  simp only [go_sem,Nat.reduceBEq,Nat.reduceLeDiff,Nat.reduceLT,decide_true,Nat.reduceAdd,Nat.reduceSub,Nat.reduceMul,Int.reduceLE,Int.reduceLT,Int.reduceToNat,Int.reduceNeg,reduceCtorEq]
  all_goals exact cl
@[go_sem] def fe (d : District) (c : List Claim) (z_0 : Fault) (s_0 : Unit) : (Int×Int×Int×Int×Int)⊕Unit:= .inl (z_0.kind,z_0.hour,z_0.index,z_0.litres,z_0.limit)
def og (d : District) (c : List Claim) (z_0 : Fault) (s_0 : Unit) : Prop:=True
def aL (d : District) (c : List Claim) : List Order×Fault×Int:=(bif ((ar d c).2 !=0) then ([],({ kind:=0,hour:=0,index:=0,litres:=0,limit:=0} : Fault),(ar d c).2) else (bif ((aI d ((ar d c).1)).2.2 !=0) then ([],({ kind:=0,hour:=0,index:=0,litres:=0,limit:=0} : Fault),(aI d ((ar d c).1)).2.2) else (bif (!(aI d ((ar d c).1)).2.1) then ([],(ew ((ar d c).1) d),0) else (match cw (fe d c) (ce ((aI d ((ar d c).1)).1) d) () with | .inl x_0_0=> ([],({ kind:=x_0_0.1,hour:=x_0_0.2.1,index:=x_0_0.2.2.1,litres:=x_0_0.2.2.2.1,limit:=x_0_0.2.2.2.2} : Fault),0) | .inr s_0=> ((aI d ((ar d c).1)).1,({ kind:=0,hour:=0,index:=0,litres:=0,limit:=0} : Fault),0)))))
def eK (d : District) (c : List Claim) : Prop:=((fG d c)∧(((ar d c).2 !=0)=false→((iu d ((ar d c).1))∧(((aI d ((ar d c).1)).2.2 !=0)=false→(((!(aI d ((ar d c).1)).2.1)=true→(iy ((ar d c).1) d))∧((!(aI d ((ar d c).1)).2.1)=false→(dO ((aI d ((ar d c).1)).1) d ((ce ((aI d ((ar d c).1)).1) d).map dZ))))))))
@[go_sem] def kX : List SV→Option Con:=(pD .district fun d=> (pR .claim fun c=> (pE (.det (eK d c) (.tup [.rs .order ((aL d c).1),.agg (cellsOf .fault ((aL d c).2.1)),.v (.int .i64 ((aL d c).2.2))])))))
set_option maxHeartbeats 4000000 in
theorem pA : FnOk Tryz.prog 31 kX:=by
 have hG : ConsOk Tryz.prog (mkG [(33,fun l=> kV (dw [.st .district,.sl .claim] l)),(54,fun l=> nT (dw [.st .district,.sl .order] l)),(55,kW),(56,fun l=> lZ (dw [.st .district,.sl .order] l)),(57,fun l=> kA (dw [.st .district,.sl .order] l))] []) :=aN (cgc (px.norm [.st .district,.sl .claim]) (cgc (sO.norm [.st .district,.sl .order]) (cgc pz (cgc (qK.norm [.st .district,.sl .order]) (cgc (oM.norm [.st .district,.sl .order]) cg0))))) cg0
 refine a_ [.sl .order,.st .fault,.o] mixed aD hG (fn:=Tryz.f31) (c:=ag Tryz.f31) (by kernel_rfl) (by kernel_rfl) (by kernel_rfl) (by kernel_rfl) (bL fun d=> (df fun c=> (aV (fun hp=> ?_))))
 dsimp only [aZ] at hp
 unfold eK at hp
 refine ⟨Nat.le_of_ble_eq_true rfl,(fun id st=> bif Nat.beq id 0 then some (LC (ρ:=Int×Int×Int×Int×Int) (σ:=Unit) (lk 4 st.t= .ptr 1 0∧lk 5 st.t= .ptr 2 0∧lk 6 st.t= .ptr 3 0∧lk 39 st.t= .fn 100 [] [.ep [.rs .order ((aI d ((ar d c).1)).1)] 0,.ep (cellsOf .district d) 0]∧st.h=[.cells (cellsOf .district d),.cells [.rs .order ((aI d ((ar d c).1)).1)],.cells [.v (.int .i64 0),.v (.int .i64 0),.v (.int .i64 0),.v (.int .i64 0),.v (.int .i64 0)],.cells [.v (.int .i64 ((aI d ((ar d c).1)).2.2))]]∧dO ((aI d ((ar d c).1)).1) d ((ce ((aI d ((ar d c).1)).1) d).map dZ)) (cw (fe d c) (ce ((aI d ((ar d c).1)).1) d) ()) (fun _=> .ret) (fun x_0_0=> ⟨[(4,.ptr 1 0),(5,.ptr 2 0),(6,.ptr 3 0)],[.dead,.cells [.v (.slice none 0 0)],.cells [.v (.int .i64 x_0_0.1),.v (.int .i64 x_0_0.2.1),.v (.int .i64 x_0_0.2.2.1),.v (.int .i64 x_0_0.2.2.2.1),.v (.int .i64 x_0_0.2.2.2.2)],.cells [.v (.int .i64 0)]]⟩) (fun s_0=> ⟨[(4,.ptr 1 0),(5,.ptr 2 0),(6,.ptr 3 0)],[.dead,.cells [.rs .order ((aI d ((ar d c).1)).1)],.cells [.v (.int .i64 0),.v (.int .i64 0),.v (.int .i64 0),.v (.int .i64 0),.v (.int .i64 0)],.cells [.v (.int .i64 ((aI d ((ar d c).1)).2.2))]]⟩)) else none),?_,?_⟩
 ·unfold ag Tryz.f31
  simp only [aw,true_and,and_true]
  ·refine lI mixed aD hG (by decide) (by decide) (by kernel_rfl) (by kernel_rfl) fun st lc hC hp=> ?_
   simp only [go_sem,Nat.reduceBEq,Option.some.injEq] at hC
   subst hC
   obtain ⟨t,h⟩ :=st
   dsimp only [LC] at hp
   obtain ⟨e0_0,e0_1,e0_2,e0_3,rfl,hb0⟩ :=hp
   refine ⟨100,[.ep [.rs .order ((aI d ((ar d c).1)).1)] 0,.ep (cellsOf .district d) 0],Fault,_,_,(ce ((aI d ((ar d c).1)).1) d),dZ,(fe d c),(og d c),_,(),_,_,_,[(4,.ptr 1 0),(5,.ptr 2 0),(6,.ptr 3 0)],(fun s_0=> [.dead,.cells [.rs .order ((aI d ((ar d c).1)).1)],.cells [.v (.int .i64 0),.v (.int .i64 0),.v (.int .i64 0),.v (.int .i64 0),.v (.int .i64 0)],.cells [.v (.int .i64 ((aI d ((ar d c).1)).2.2))]]),(fun x_0_0=> [.dead,.cells [.v (.slice none 0 0)],.cells [.v (.int .i64 x_0_0.1),.v (.int .i64 x_0_0.2.1),.v (.int .i64 x_0_0.2.2.1),.v (.int .i64 x_0_0.2.2.2.1),.v (.int .i64 x_0_0.2.2.2.2)],.cells [.v (.int .i64 0)]]),[0,1,2,3],?_,rfl,xA _ _ fun _ _ _=> trivial,Nat.le_of_ble_eq_true rfl,?_,mQ ((aI d ((ar d c).1)).1) d _ hb0,fun z_0 s_0 hq0=> ⟨rfl,L0,fun l=> ?_,fun l=> ?_,?_⟩,fun s_0=> ?_,fun y=> ?_⟩
   ·simp only [go_sem,e0_0,e0_1,e0_2,e0_3]
   ·simp only [go_sem,Nat.reduceBEq,Nat.reduceLeDiff,Nat.reduceLT,decide_true,Nat.reduceAdd,Nat.reduceSub,Nat.reduceMul,Int.reduceLE,Int.reduceLT,Int.reduceToNat,Int.reduceNeg,reduceCtorEq,mD,ia,List.flatMap_cons,List.flatMap_nil,List.nil_append,List.append_nil,List.map_nil,e0_0,e0_1,e0_2,e0_3]
    all_goals (first | done | decide | (repeat' (first | refine And.intro ?_ ?_ | rfl | decide)))
   ·simp only [aw,and_self,true_and,and_true]
   ·simp only [aw,and_self,true_and,and_true]
   ·skip
    simp only [go_sem,Nat.reduceBEq,Nat.reduceLeDiff,Nat.reduceLT,decide_true,Nat.reduceAdd,Nat.reduceSub,Nat.reduceMul,Int.reduceLE,Int.reduceLT,Int.reduceToNat,Int.reduceNeg,reduceCtorEq,fe,psT,dZ,List.cons_append,List.nil_append]
    all_goals exact uY
   ·simp only [go_sem,Nat.reduceBEq,Nat.reduceLeDiff,Nat.reduceLT,decide_true,Nat.reduceAdd,Nat.reduceSub,Nat.reduceMul,Int.reduceLE,Int.reduceLT,Int.reduceToNat,Int.reduceNeg,reduceCtorEq]
    all_goals exact uY
   ·simp only [go_sem,Nat.reduceBEq,Nat.reduceLeDiff,Nat.reduceLT,decide_true,Nat.reduceAdd,Nat.reduceSub,Nat.reduceMul,Int.reduceLE,Int.reduceLT,Int.reduceToNat,Int.reduceNeg,reduceCtorEq]
    all_goals exact uY
 ·unfold ag Tryz.f31
  try unfold aL
  simp only [go_sem,Nat.reduceBEq,Nat.reduceLeDiff,Nat.reduceLT,decide_true,Nat.reduceAdd,Nat.reduceSub,Nat.reduceMul,Int.reduceLE,Int.reduceLT,Int.reduceToNat,Int.reduceNeg,reduceCtorEq]
  all_goals exact cl
def ae (d : District) (c : List Claim) : List Order×Bool×Int:=((aL d c).1,(((aL d c).2.2==0) && ((((aL d c).2.1).kind==0) && ((((aL d c).2.1).hour==0) && ((((aL d c).2.1).index==0) && ((((aL d c).2.1).litres==0) && (((aL d c).2.1).limit==0)))))),(aL d c).2.2)
def gh (d : District) (c : List Claim) : Prop:=(eK d c)
@[go_sem] def l7 : List SV→Option Con:=(pD .district fun d=> (pR .claim fun c=> (pE (.det (gh d c) (.tup [.rs .order ((ae d c).1),.v (.bool ((ae d c).2.1)),.v (.int .i64 ((ae d c).2.2))])))))
theorem qL : FnOk Tryz.prog 12 l7:=by
 have hG : ConsOk Tryz.prog (mkG [(31,fun l=> kX (dw [.st .district,.sl .claim] l))] []) :=aN (cgc (pA.norm [.st .district,.sl .claim]) cg0) cg0
 refine a_ [.sl .order,.o,.o] mixed aD hG (fn:=Tryz.f12) (c:=ag Tryz.f12) (by kernel_rfl) (by kernel_rfl) (by kernel_rfl) (by kernel_rfl) (bL fun d=> (df fun c=> (aV (fun hp=> ?_))))
 dsimp only [aZ] at hp
 unfold gh at hp
 refine ⟨Nat.le_of_ble_eq_true rfl,L0,av _,?_⟩
 ·unfold ag Tryz.f12
  try unfold ae
  simp only [go_sem,Nat.reduceBEq,Nat.reduceLeDiff,Nat.reduceLT,decide_true,Nat.reduceAdd,Nat.reduceSub,Nat.reduceMul,Int.reduceLE,Int.reduceLT,Int.reduceToNat,Int.reduceNeg,reduceCtorEq]
  all_goals exact cl
def jB (d : District) (c : List Claim) : Fault×Bool×Int:=(((aL d c).2.1),(!((((aL d c).2.1).kind==0) && ((((aL d c).2.1).hour==0) && ((((aL d c).2.1).index==0) && ((((aL d c).2.1).litres==0) && (((aL d c).2.1).limit==0)))))),(aL d c).2.2)
def qM (d : District) (c : List Claim) : Prop:=(eK d c)
@[go_sem] def DV : List SV→Option Con:=(pD .district fun d=> (pR .claim fun c=> (pE (.det (qM d c) (.tup [.agg (cellsOf .fault ((jB d c).1)),.v (.bool ((jB d c).2.1)),.v (.int .i64 ((jB d c).2.2))])))))
end Go.Sx
end
section
namespace Go.Sx
open Go.Proofs
abbrev UM:=List (TimetableSlot×Bool)
abbrev WM:=List (TimetableSlot×Int)
def sl (a b : Int) : TimetableSlot:= { index:=a,hour:=b}
def ltF (k : Nat) (r n : Int) : Fault:= { kind:=7,hour:=(k : Int),index:=r,litres:=n,limit:=0}
section
variable {d : District} {s1 : List Fault×WM×UM×Int} {k : Nat} {u : UM} {F : List Fault} {w : WM}
theorem EZ (hu : aB .timetableSlot .bool u (sl s1.2.2.2 k)=true) : ∃ u',aH d s1 k (u,F,w)= .inr (u',F,w) :=by
 unfold aH
 unfold sl at hu
 simp only [hu,cond_true]
 exact ⟨_,rfl⟩
theorem wE (hu : aB .timetableSlot .bool u (sl s1.2.2.2 k)=false) (hn : aB .timetableSlot .int w (sl s1.2.2.2 k)=0) : aH d s1 k (u,F,w)= .inr (u,F,w) :=by
 unfold aH
 unfold sl at hu hn
 simp only [hu,hn,cond_false,BEq.rfl,cond_true]
theorem Af (hu : aB .timetableSlot .bool u (sl s1.2.2.2 k)=false) (hn : aB .timetableSlot .int w (sl s1.2.2.2 k)≠0)
  (hb : (az (rch d s1.2.2.2) (aB .timetableSlot .int w (sl s1.2.2.2 k))).2=false∨(k : Int) < (rch d s1.2.2.2).delay) :
  ∃ u',aH d s1 k (u,F,w)= .inr (u',F ++ [ltF k s1.2.2.2 (aB .timetableSlot .int w (sl s1.2.2.2 k))],w) :=by
 unfold aH ltF
 unfold sl at hu hn hb ⊢
 simp only [hu,cond_false]
 generalize hq : aB .timetableSlot .int w ({ index:=s1.2.2.2,hour:=(k : Int)} : TimetableSlot)=n at hn hb ⊢
 have h0 : (n==0)=false:=by simpa using hn
 rw [h0,cond_false]
 unfold az at hb
 by_cases hm : n≤1073741824
 ·rw [decide_eq_true hm,cond_true]
  have h1 : ((n==0) || decide (n > 1073741824))=false:=by rw [h0,Bool.false_or,decide_eq_false_iff_not];exact Int.not_lt.2 hm
  rw [h1,cond_false] at hb
  have h2 : ((!(bS (d.reaches.getD (Int.toNat s1.2.2.2) (default : Reach)) n).2.1) || (decide ((k : Int) < (d.reaches.getD (Int.toNat s1.2.2.2) (default : Reach)).delay)))=true:=by
   rcases hb with hb | hb
   ·cases hN : (bS (d.reaches.getD (Int.toNat s1.2.2.2) (default : Reach)) n).2.1 with
    | false=> rfl
    | true=> rw [hN] at hb;cases hb
   ·rw [decide_eq_true hb,Bool.or_true]
  rw [h2,cond_true]
  exact ⟨_,rfl⟩
 ·rw [decide_eq_false hm,cond_false]
  rw [Bool.not_false,Bool.true_or,cond_true]
  exact ⟨_,rfl⟩
theorem wG (hu : aB .timetableSlot .bool u (sl s1.2.2.2 k)=false) (hn : aB .timetableSlot .int w (sl s1.2.2.2 k)≠0)
  (hb : (az (rch d s1.2.2.2) (aB .timetableSlot .int w (sl s1.2.2.2 k))).2=true) (hk : ¬ (k : Int) < (rch d s1.2.2.2).delay) :
  aH d s1 k (u,F,w)= .inr (u,F,c7 .timetableSlot .int w (sl (rch d s1.2.2.2).up (IntKind.i64.wrap ((k : Int) - (rch d s1.2.2.2).delay))) (IntKind.i64.wrap (aB .timetableSlot .int w (sl (rch d s1.2.2.2).up (IntKind.i64.wrap ((k : Int) - (rch d s1.2.2.2).delay))) + (az (rch d s1.2.2.2) (aB .timetableSlot .int w (sl s1.2.2.2 k))).1))) :=by
 unfold aH
 unfold sl at hu hn hb ⊢
 simp only [hu,cond_false]
 generalize hq : aB .timetableSlot .int w ({ index:=s1.2.2.2,hour:=(k : Int)} : TimetableSlot)=n at hn hb ⊢
 have h0 : (n==0)=false:=by simpa using hn
 rw [h0,cond_false]
 unfold az at hb ⊢
 by_cases hm : n≤1073741824
 ·rw [decide_eq_true hm,cond_true]
  have h1 : ((n==0) || decide (n > 1073741824))=false:=by rw [h0,Bool.false_or,decide_eq_false_iff_not];exact Int.not_lt.2 hm
  rw [h1,cond_false] at hb ⊢
  have hN : (bS (rch d s1.2.2.2) n).2.1=true:=by
   cases hN : (bS (rch d s1.2.2.2) n).2.1 with
   | true=> rfl
   | false=> rw [hN] at hb;cases hb
  have h2 : ((!(bS (d.reaches.getD (Int.toNat s1.2.2.2) (default : Reach)) n).2.1) || (decide ((k : Int) < (d.reaches.getD (Int.toNat s1.2.2.2) (default : Reach)).delay)))=false:=by
   rw [decide_eq_false hk,Bool.or_false]
   show (!(bS (rch d s1.2.2.2) n).2.1)=false
   rw [hN];rfl
  rw [h2,cond_false,hN]
  rfl
 ·have h1 : ((n==0) || decide (n > 1073741824))=true:=by rw [h0,Bool.false_or,decide_eq_true_eq];exact Int.not_le.1 hm
  rw [h1,cond_true,h0] at hb
  cases hb
theorem I3 : ∃ u' T w',aH d s1 k (u,F,w)= .inr (u',F ++ T,w')∧∀ f∈T,f.kind=7:=by
 cases hu : aB .timetableSlot .bool u (sl s1.2.2.2 k) with
 | true=> obtain ⟨u',e⟩ :=EZ (F:=F) (w:=w) hu;exact ⟨u',[],w,by rw [e,List.append_nil],by simp⟩
 | false=>
  by_cases hn : aB .timetableSlot .int w (sl s1.2.2.2 k)=0
  ·exact ⟨u,[],w,by rw [wE hu hn,List.append_nil],by simp⟩
  ·by_cases hb : (az (rch d s1.2.2.2) (aB .timetableSlot .int w (sl s1.2.2.2 k))).2=false∨(k : Int) < (rch d s1.2.2.2).delay
   ·obtain ⟨u',e⟩ :=Af (F:=F) hu hn hb
    exact ⟨u',_,w,e,by simp [ltF]⟩
   ·have h1 : (az (rch d s1.2.2.2) (aB .timetableSlot .int w (sl s1.2.2.2 k))).2=true:=by
     cases q : (az (rch d s1.2.2.2) (aB .timetableSlot .int w (sl s1.2.2.2 k))).2 with
     | true=> rfl
     | false=> exact absurd (.inl q) hb
    exact ⟨u,[],_,by rw [wG hu hn h1 (fun q=> hb (.inr q)),List.append_nil],by simp⟩
end
section
variable {d : District} {s1 : List Fault×WM×UM×Int} {items : List (List SV)}
theorem qN : ∀ (n k : Nat) (u : UM) (F : List Fault) (w : WM),∃ u' T w',ak (aH d s1) n k (u,F,w)= .inr (u',F ++ T,w')∧∀ f∈T,f.kind=7
 | 0,k,u,F,w=> ⟨u,[],w,by rw [List.append_nil];rfl,by simp⟩
 | n + 1,k,u,F,w=> by
  obtain ⟨u1,T1,w1,e1,h1⟩ :=I3 (d:=d) (s1:=s1) (k:=k) (u:=u) (F:=F) (w:=w)
  obtain ⟨u2,T2,w2,e2,h2⟩ :=qN n (k + 1) u1 (F ++ T1) w1
  refine ⟨u2,T1 ++ T2,w2,?_,fun f hf=> (List.mem_append.1 hf).elim (h1 f) (h2 f)⟩
  simp only [ak,e1]
  rw [e2,List.append_assoc]
theorem s4 {F : List Fault} {f : Fault} (h : (F ++ [f]).map dZ <+: items) : items[F.length]? =some (dZ f) :=by
 obtain ⟨t,rfl⟩ :=h
 simp
theorem No {k : Nat} {u : UM} {F : List Fault} {w : WM} (h : ∀ f,(∃ u' w',aH d s1 k (u,F,w)= .inr (u',F ++ [f],w'))→items[F.length]? =some (dZ f)) : dC d items s1 k (u,F,w) :=by
 intro hu hn
 simp only at hu hn
 refine ⟨fun hm=> ⟨DG _ _,fun hb=> h _ ?_⟩,fun hm hb=> h _ ?_⟩
 ·unfold aH
  simp only at hm hb
  simp only [hu,hn,hm,hb,cond_false,cond_true]
  exact ⟨_,_,rfl⟩
 ·unfold aH
  simp only at hm hb
  simp only [hu,hn,hm,hb,cond_false,cond_true]
  exact ⟨_,_,rfl⟩
theorem I4 : ∀ (n k : Nat) (u : UM) (F : List Fault) (w : WM),(∀ u2 F2 w2,ak (aH d s1) n k (u,F,w)= .inr (u2,F2,w2)→F2.map dZ <+: items)→okI (aH d s1) (dC d items s1) n k (u,F,w)
 | 0,_,_,_,_,_=> trivial
 | n + 1,k,u,F,w,h=> by
  refine ⟨No fun f ⟨u',w',e⟩ => ?_,fun s' e=> ?_⟩
  ·obtain ⟨u2,T2,w2,e2,_⟩ :=qN (d:=d) (s1:=s1) n (k + 1) u' (F ++ [f]) w'
   have:=h u2 (F ++ [f] ++ T2) w2 (by simp only [ak,e];exact e2)
   refine s4 (List.IsPrefix.trans ?_ this)
   rw [List.map_append (l₂:=T2)]
   exact List.prefix_append _ _
  ·obtain ⟨u',F',w'⟩ :=s'
   exact I4 n (k + 1) u' F' w' fun u2 F2 w2 e2=> h u2 F2 w2 (by simp only [ak,e];exact e2)
end
section
variable {d : District} {items : List (List SV)}
theorem I5 {j : Nat} {F : List Fault} {w : WM} {u : UM} {i : Int} (h : i < 0) : bf d j (F,w,u,i)= .inl F:=by
 unfold bf
 simp only
 rw [decide_eq_false (by omega),cond_false]
theorem DW {j : Nat} {F F' : List Fault} {w w' : WM} {u u' : UM} {i : Int} (h0 : 0≤i) (h1 : i≤1000000) (e : ak (aH d (F,w,u,i)) (Int.toNat d.hours) 0 (u,F,w)= .inr (u',F',w')) :
  bf d j (F,w,u,i)= .inr (F',w',u',i - 1) :=by
 unfold bf
 simp only
 rw [decide_eq_true (by omega),cond_true,e]
 simp only
 rw [bN (by omega) (by omega)]
theorem s5 : ∀ (m n j : Nat) (F : List Fault) (w : WM) (u : UM),m < n→m≤1000000→∃ T,ak (bf d) n j (F,w,u,(m : Int) - 1)= .inl (F ++ T)∧∀ f∈T,f.kind=7
 | 0,n + 1,j,F,w,u,_,_=> ⟨[],by simp only [ak];rw [I5 (by omega),List.append_nil],by simp⟩
 | m + 1,n + 1,j,F,w,u,h,hm=> by
  obtain ⟨u1,T1,w1,e1,h1⟩ :=qN (d:=d) (s1:=(F,w,u,((m + 1 : Nat) : Int) - 1)) (Int.toNat d.hours) 0 u F w
  obtain ⟨T2,e2,h2⟩ :=s5 m n (j + 1) (F ++ T1) w1 u1 (by omega) (by omega)
  refine ⟨T1 ++ T2,?_,fun f hf=> (List.mem_append.1 hf).elim (h1 f) (h2 f)⟩
  simp only [ak]
  rw [DW (by omega) (by omega) e1]
  simp only
  rw [show ((m + 1 : Nat) : Int) - 1 - 1=(m : Int) - 1 by omega,e2,List.append_assoc]
theorem I6 (hh : d.hours≤4096) : ∀ (m n j : Nat) (F : List Fault) (w : WM) (u : UM),m < n→m≤1000000→m≤d.reaches.length→(∀ x,ak (bf d) n j (F,w,u,(m : Int) - 1)= .inl x→x.map dZ <+: items)→
  okI (bf d) (ei d items) n j (F,w,u,(m : Int) - 1)
 | 0,n + 1,j,F,w,u,_,_,_,h=> by
  refine ⟨fun q=> ?_,fun s' e=> ?_⟩
  ·simp only [decide_eq_true_eq] at q;omega
  ·rw [I5 (by omega)] at e;cases e
 | m + 1,n + 1,j,F,w,u,hmn,hm,hR,h=> by
  obtain ⟨u1,T1,w1,e1,h1⟩ :=qN (d:=d) (s1:=(F,w,u,((m + 1 : Nat) : Int) - 1)) (Int.toNat d.hours) 0 u F w
  have e3:=DW (j:=j) (d:=d) (by omega) (by omega) e1
  rw [show ((m + 1 : Nat) : Int) - 1 - 1=(m : Int) - 1 by omega] at e3
  refine ⟨fun q=> ⟨by simp only;omega,by omega,I4 _ _ _ _ _ fun u2 F2 w2 e2=> ?_⟩,fun s' e=> ?_⟩
  ·simp only at e2
   rw [e1] at e2
   simp only [Sum.inr.injEq,Prod.mk.injEq] at e2
   obtain ⟨rfl,rfl,rfl⟩ :=e2
   obtain ⟨T2,e4,_⟩ :=s5 (d:=d) m n (j + 1) (F ++ T1) w1 u1 (by omega) (by omega)
   have:=h _ (by simp only [ak];rw [e3];exact e4)
   refine List.IsPrefix.trans ?_ this
   rw [List.map_append (l₂:=T2)]
   exact List.prefix_append _ _
  ·rw [e3] at e
   simp only [Sum.inr.injEq] at e
   subst e
   exact I6 hh m n (j + 1) (F ++ T1) w1 u1 (by omega) (by omega) (by omega) fun x hx=> h x (by simp only [ak];rw [e3];exact hx)
end
end Go.Sx
end
section
namespace Go.Sx
open Go.Proofs
def Eqv (w : WM) (m : Mp) : Prop:= ∀ a b,aB .timetableSlot .int w (sl a b)=aB .int2 .int m (a,b)
theorem By {a b x y : Int} : (sl x y=sl a b)=((x,y)=(a,b)) :=by
 unfold sl
 simp only [TimetableSlot.mk.injEq,Prod.mk.injEq]
theorem Eqv.put {w : WM} {m : Mp} (h : Eqv w m) (a b v : Int) : Eqv (c7 .timetableSlot .int w (sl a b) v) (c7 .int2 .int m (a,b) v) :=fun x y=> by
 rw [eD,eD,h]
 by_cases q : (x,y)=(a,b)
 ·rw [if_pos (by rw [By];exact q),if_pos q]
 ·rw [if_neg (by rw [By];exact q),if_neg q]
theorem sp {ρ σ τ : Type} (step : τ→σ→ρ⊕σ) : ∀ (A B : List τ) (s : σ),cw step (A ++ B) s=match cw step A s with | .inl y=> .inl y | .inr s'=> cw step B s'
 | [],B,s=> rfl
 | x :: A,B,s=> by
  simp only [List.cons_append,cw]
  cases h : step x s with
  | inl y=> rfl
  | inr s'=> exact sp step A B s'
section
variable {d : District} {out : List Order}
theorem Oe : ∀ (n k : Nat) (w : WM) (m m' : Mp),Eqv w m→ak (a6 d out) n k m= .inr m'→∃ w',ak (cH out d) n k w= .inr w'∧Eqv w' m'
 | 0,k,w,m,m',h,e=> by
  simp only [ak,Sum.inr.injEq] at e
  subst e
  exact ⟨w,rfl,h⟩
 | n + 1,k,w,m,m',h,e=> by
  simp only [ak] at e ⊢
  cases hs : a6 d out k m with
  | inl x=> rw [hs] at e;cases e
  | inr m1=>
   rw [hs] at e
   simp only at e
   refine Oe n (k + 1) _ m1 m' ?_ e
   unfold a6 at hs
   cases ho : (out.getD k (default : Order)).outlet with
   | false=> rw [ho] at hs;cases hs
   | true=>
    rw [ho] at hs
    simp only [Bool.not_true,cond_false,Sum.inr.injEq] at hs
    subst hs
    have h1:=h (d.farms.getD (Int.toNat ((out.getD k (default : Order)).index)) (default : Farm)).reach (out.getD k (default : Order)).hour
    have:=h.put (d.farms.getD (Int.toNat ((out.getD k (default : Order)).index)) (default : Farm)).reach (out.getD k (default : Order)).hour (IntKind.i64.wrap ((aB .int2 .int m ((d.farms.getD (Int.toNat ((out.getD k (default : Order)).index)) (default : Farm)).reach,(out.getD k (default : Order)).hour)) + (out.getD k (default : Order)).litres))
    rw [←h1] at this ⊢
    exact this
theorem x8 (s : TimetableSlot) : aB .timetableSlot .bool [] s=false:=rfl
theorem uZ {s1 : List Fault×WM×UM×Int} {r : Nat} (hs : s1.2.2.2=(r : Int)) {H : Nat} : ∀ (n k : Nat) (l : List Order) (m : Mp) (w : WM),k + n=H→Eqv w m→
  (∃ l' m' w',cw (aF d) (sN r H k) (l,m)= .inr (l',m')∧ak (aH d s1) n k ([],[],w)= .inr ([],[],w')∧Eqv w' m')∨
  ((∃ y,cw (aF d) (sN r H k) (l,m)= .inl y)∧∃ u' F' w',ak (aH d s1) n k ([],[],w)= .inr (u',F',w')∧F'≠[])
 | 0,k,l,m,w,hk,h=> by
  have : k=H:=by omega
  subst this
  rw [qz]
  exact .inl ⟨l,m,w,rfl,rfl,h⟩
 | n + 1,k,l,m,w,hk,h=> by
  rw [jX (by omega : k < H)]
  have hg:=h (r : Int) (k : Int)
  rw [←hs] at hg
  simp only [cw,ak]
  by_cases h0 : aB .timetableSlot .int w (sl s1.2.2.2 k)=0
  ·have e1 : aF d ((r : Int),(k : Int)) (l,m)= .inr (l,m) :=by
    unfold aF
    rw [h0,hs] at hg
    simp only [←hg,BEq.rfl,cond_true]
   rw [e1,wE (x8 _) h0]
   exact uZ hs n (k + 1) l m w (by omega) h
  ·by_cases hb : (az (rch d s1.2.2.2) (aB .timetableSlot .int w (sl s1.2.2.2 k))).2=false∨(k : Int) < (rch d s1.2.2.2).delay
   ·refine .inr ⟨?_,?_⟩
    ·have e1 : aF d ((r : Int),(k : Int)) (l,m)= .inl m:=by
      unfold aF
      rw [hg,hs] at h0 hb
      have h1 : (aB .int2 .int m ((r : Int),(k : Int)) ==(0 : Int))=false:=beq_eq_false_iff_ne.2 h0
      simp only [h1,cond_false]
      have h2 : ((!(az (d.reaches.getD (Int.toNat (r : Int)) (default : Reach)) (aB .int2 .int m ((r : Int),(k : Int)))).2) || (decide ((k : Int) < (d.reaches.getD (Int.toNat (r : Int)) (default : Reach)).delay)))=true:=by
       rcases hb with hb | hb
       ·rw [hb];rfl
       ·rw [decide_eq_true hb,Bool.or_true]
      rw [h2,cond_true]
     rw [e1]
     exact ⟨_,rfl⟩
    ·obtain ⟨u',e⟩ :=Af (F:=[]) (x8 _) h0 hb
     rw [e]
     obtain ⟨u2,T2,w2,e2,_⟩ :=qN (d:=d) (s1:=s1) n (k + 1) u' ([] ++ [ltF k s1.2.2.2 (aB .timetableSlot .int w (sl s1.2.2.2 k))]) w
     exact ⟨u2,_,w2,e2,by simp⟩
   ·have hv : (az (rch d s1.2.2.2) (aB .timetableSlot .int w (sl s1.2.2.2 k))).2=true:=by
     cases q : (az (rch d s1.2.2.2) (aB .timetableSlot .int w (sl s1.2.2.2 k))).2 with
     | true=> rfl
     | false=> exact absurd (.inl q) hb
    have hk2 : ¬ (k : Int) < (rch d s1.2.2.2).delay:=fun q=> hb (.inr q)
    rw [wG (x8 _) h0 hv hk2]
    rw [hg] at h0 hv ⊢
    rw [hs] at h0 hv hk2 ⊢
    have e1 : aF d ((r : Int),(k : Int)) (l,m)= .inr (l ++ [({ hour:=(IntKind.i64.wrap ((k : Int) - (rch d (r : Int)).delay)),index:=(r : Int),litres:=(az (rch d (r : Int)) (aB .int2 .int m ((r : Int),(k : Int)))).1,outlet:=false} : Order)],c7 .int2 .int m ((rch d (r : Int)).up,IntKind.i64.wrap ((k : Int) - (rch d (r : Int)).delay)) (IntKind.i64.wrap ((aB .int2 .int m ((rch d (r : Int)).up,IntKind.i64.wrap ((k : Int) - (rch d (r : Int)).delay))) + (az (rch d (r : Int)) (aB .int2 .int m ((r : Int),(k : Int)))).1))) :=by
     unfold aF
     have h1 : (aB .int2 .int m ((r : Int),(k : Int)) ==(0 : Int))=false:=beq_eq_false_iff_ne.2 h0
     simp only [h1,cond_false]
     have h2 : ((!(az (d.reaches.getD (Int.toNat (r : Int)) (default : Reach)) (aB .int2 .int m ((r : Int),(k : Int)))).2) || (decide ((k : Int) < (d.reaches.getD (Int.toNat (r : Int)) (default : Reach)).delay)))=false:=by
      rw [decide_eq_false hk2,Bool.or_false]
      show (!(az (rch d (r : Int)) (aB .int2 .int m ((r : Int),(k : Int)))).2)=false
      rw [hv];rfl
     rw [h2,cond_false]
    rw [e1,h]
    exact uZ hs n (k + 1) _ _ _ (by omega) (h.put _ _ _)
theorem Ag : ∀ (m n j : Nat) (l : List Order) (md : Mp) (w : WM),m < n→m≤1000000→Eqv w md→(∃ y,cw (aF d) (oK d.hours.toNat m) (l,md)= .inl y)→
  ∃ T,ak (bf d) n j ([],w,[],(m : Int) - 1)= .inl T∧T≠[]
 | 0,n,j,l,md,w,_,_,_,⟨y,e⟩ => by simp [oK,cw] at e
 | m + 1,n + 1,j,l,md,w,hmn,hm,h,⟨y,e⟩ => by
  rw [nS] at e
  have hs : (([],w,[],((m + 1 : Nat) : Int) - 1) : List Fault×WM×UM×Int).2.2.2=(m : Int) :=by simp only;omega
  rcases uZ (d:=d) hs (H:=d.hours.toNat) d.hours.toNat 0 l md w (by omega) h with ⟨l',m',w',e1,e2,h'⟩ | ⟨_,u',F',w',e2,hF⟩
  ·rw [sp,e1] at e
   obtain ⟨T,e3,hT⟩ :=Ag m n (j + 1) l' m' w' (by omega) (by omega) h' ⟨y,e⟩
   refine ⟨T,?_,hT⟩
   simp only [ak]
   rw [DW (by omega) (by omega) e2,show ((m + 1 : Nat) : Int) - 1 - 1=(m : Int) - 1 by omega]
   exact e3
  ·obtain ⟨T,e3,_⟩ :=s5 (d:=d) m n (j + 1) F' w' u' (by omega) (by omega)
   refine ⟨F' ++ T,?_,by simp [hF]⟩
   simp only [ak]
   rw [DW (by omega) (by omega) e2,show ((m + 1 : Nat) : Int) - 1 - 1=(m : Int) - 1 by omega]
   exact e3
theorem pC (hr : Right1 d) (ho : Orders1 d out) (hall : ∀ x∈out,x.outlet=true) : ∃ w0,ak (cH out d) out.length 0 []= .inr w0∧(∃ m,ak (a6 d out) out.length 0 []= .inr m∧Eqv w0 m)∧
  ak (bf d) (d.reaches.length + 1) 0 ([],w0,[],IntKind.i64.wrap ((d.reaches.length : Int) - 1))= .inl (br out d)∧∀ f∈br out d,f.kind=7:=by
 obtain ⟨m,hm⟩ :=(rJ hr ho).2.2 hall
 obtain ⟨w0,e0,h0⟩ :=Oe out.length 0 [] [] m (fun _ _=> rfl) hm
 have hR:=hr.reaches
 obtain ⟨T,e1,h1⟩ :=s5 (d:=d) d.reaches.length (d.reaches.length + 1) 0 [] w0 [] (by omega) (by omega)
 have hw : IntKind.i64.wrap ((d.reaches.length : Int) - 1)=(d.reaches.length : Int) - 1:=bN (by omega) (by omega)
 have e2 : br out d=T:=by
  unfold br
  rw [hw]
  simp only [e0,e1,List.nil_append]
 rw [hw,e2]
 exact ⟨w0,e0,⟨m,hm,h0⟩,by rw [e1,List.nil_append],h1⟩
theorem P_ (hr : Right1 d) (ho : Orders1 d out) (hall : ∀ x∈out,x.outlet=true) : eb out d ((br out d).map dZ) :=by
 obtain ⟨w0,e0,_,e1,_⟩ :=pC hr ho hall
 intro _
 have hR:=hr.reaches
 have hh:=hr.hours
 refine ⟨?_,fun s_0 hs _=> ?_⟩
 ·have hst : ∀ j s,0≤j→j < 0 + out.length→ef out d j s:=fun j s _ hj=> by
   have h1:=ho.one j (by omega)
   have h2 : (out.getD j (default : Order)).outlet=true:=hall _ (lT _ _ (by omega))
   exact ⟨h1.index0,h1.farm h2⟩
  exact jP (fun _ _=> True) _ _ _ trivial fun j s h1 h2 _=> ⟨hst j s h1 h2,fun _ _=> trivial⟩
 ·rw [e0] at hs
  simp only [Sum.inr.injEq] at hs
  subst hs
  have hw : IntKind.i64.wrap ((d.reaches.length : Int) - 1)=(d.reaches.length : Int) - 1:=bN (by omega) (by omega)
  refine ⟨?_,fun z hz=> ?_,fun x hx=> ?_⟩
  ·rw [hw] at e1 ⊢
   exact I6 hh _ _ _ _ _ _ (by omega) (by omega) (Nat.le_refl _) fun x hx=> by
    rw [e1] at hx
    simp only [Sum.inl.injEq] at hx
    subst hx
    exact List.prefix_rfl
  ·rw [e1] at hz;cases hz
  ·rw [e1] at hx
   simp only [Sum.inl.injEq] at hx
   subst hx
   simp
theorem Np (hr : Right1 d) (ho : Orders1 d out) (hall : ∀ x∈out,x.outlet=true) (hP : (aI d out).2.1=false) (hP2 : (aI d out).2.2=0) : br out d≠[] :=by
 obtain ⟨w0,e0,⟨m,hm,h0⟩,e1,_⟩ :=pC hr ho hall
 have hR:=hr.reaches
 have hw : IntKind.i64.wrap ((d.reaches.length : Int) - 1)=(d.reaches.length : Int) - 1:=bN (by omega) (by omega)
 have hy : ∃ y,cw (aF d) (bu d) (out,m)= .inl y:=by
  cases q : cw (aF d) (bu d) (out,m) with
  | inl y=> exact ⟨y,rfl⟩
  | inr s=>
   exfalso
   unfold aI at hP hP2
   simp only [hm,q] at hP hP2
   cases hn : ((bB d out) !=0) with
   | true=>
    rw [hn] at hP2
    simp only [cond_true] at hP2
    rw [hP2] at hn;cases hn
   | false=>
    rw [hn] at hP hP2
    simp only [cond_false] at hP hP2
    cases hd : decide ((s.1.length : Int) > 4096) with
    | true=> rw [hd] at hP2;cases hP2
    | false=> rw [hd] at hP;cases hP
 obtain ⟨T,e3,hT⟩ :=Ag (d:=d) d.reaches.length (d.reaches.length + 1) 0 out m w0 (by omega) (by omega) h0 hy
 rw [hw,e3] at e1
 simp only [Sum.inl.injEq] at e1
 rw [←e1]
 exact hT
end
abbrev F5:=Int×Int×Int×Int×Int
def Bz (f : Fault) : F5:=(f.kind,f.hour,f.index,f.litres,f.limit)
theorem x9 (out : List Order) (d : District) : ∀ (L : List Fault) (s : F5),∃ s',cw (bW out d) L s= .inr s'∧(s'=s∨∃ f∈L,s'=Bz f)
 | [],s=> ⟨s,rfl,.inl rfl⟩
 | f :: L,s=> by
  have h1 : bW out d f s= .inr (Bz f)∨bW out d f s= .inr s:=by
   unfold bW Bz
   cases (((s.1==0) && ((s.2.1==0) && ((s.2.2.1==0) && ((s.2.2.2.1==0) && (s.2.2.2.2==0))))) || (decide ((bP ([(aR f.hour s.2.1),(aR s.2.2.1 f.index)])) < 0))) with
   | true=> exact .inl rfl
   | false=> exact .inr rfl
  simp only [cw]
  rcases h1 with h1 | h1
  ·rw [h1]
   obtain ⟨s',e,h⟩ :=x9 out d L (Bz f)
   refine ⟨s',e,.inr ?_⟩
   rcases h with rfl | ⟨g,hg,rfl⟩
   ·exact ⟨f,List.mem_cons_self,rfl⟩
   ·exact ⟨g,List.mem_cons_of_mem _ hg,rfl⟩
  ·rw [h1]
   obtain ⟨s',e,h⟩ :=x9 out d L s
   refine ⟨s',e,?_⟩
   rcases h with rfl | ⟨g,hg,rfl⟩
   ·exact .inl rfl
   ·exact .inr ⟨g,List.mem_cons_of_mem _ hg,rfl⟩
theorem E0 {out : List Order} {d : District} (h : br out d≠[]) : ew out d∈br out d:=by
 unfold ew
 cases hL : br out d with
 | nil=> exact absurd hL h
 | cons f L=>
  have h1 : bW out d f (0,0,0,0,0)= .inr (Bz f) :=by
   unfold bW Bz
   simp only [BEq.rfl,Bool.and_true,Bool.true_or,cond_true]
  obtain ⟨s',e,h⟩ :=x9 out d L (Bz f)
  simp only [cw,h1,e]
  rcases h with rfl | ⟨g,hg,rfl⟩
  ·exact List.mem_cons_self
  ·exact List.mem_cons_of_mem _ hg
end Go.Sx
end
section
namespace Go.Sx
open Go.Proofs
theorem rP {f : Nat→List Fault} {step : Nat→List Fault→Empty⊕List Fault} : ∀ (n i : Nat) (s : List Fault),(∀ j s,i≤j→j < i + n→step j s= .inr (s ++ f j))→ak step n i s= .inr (s ++ (List.range' i n).flatMap f)
 | 0,i,s,_=> by simp [ak]
 | n + 1,i,s,h=> by
  simp only [ak,h i s (Nat.le_refl _) (by omega)]
  rw [rP n (i + 1) (s ++ f i) fun j s h1 h2=> h j s (by omega) (by omega)]
  simp [List.range'_succ]
theorem u4 {f : Nat→List Fault} {step : Nat→List Fault→Empty⊕List Fault} {p : Nat→List Fault→Prop} {items : List (List SV)} : ∀ (n i : Nat) (s : List Fault),(∀ j s,i≤j→j < i + n→step j s= .inr (s ++ f j))→
  (∀ j s,i≤j→j < i + n→(s ++ f j).map dZ <+: items→p j s)→(s ++ (List.range' i n).flatMap f).map dZ <+: items→okI step p n i s
 | 0,_,_,_,_,_=> trivial
 | n + 1,i,s,h,hp,hi=> by
  rw [List.range'_succ,List.flatMap_cons,←List.append_assoc] at hi
  refine ⟨hp i s (Nat.le_refl _) (by omega) (List.IsPrefix.trans (by rw [List.map_append (l₂:=List.flatMap f _)];exact List.prefix_append _ _) hi),fun s' e=> ?_⟩
  rw [h i s (Nat.le_refl _) (by omega)] at e
  simp only [Sum.inr.injEq] at e
  subst e
  exact u4 n (i + 1) (s ++ f i) (fun j s h1 h2=> h j s (by omega) (by omega)) (fun j s h1 h2=> hp j s (by omega) (by omega)) hi
def g0P (x : Order) : Bool:= !x.outlet && x.index==0
section
variable {d : District} {l : List Order}
theorem BA (ho : Orders1 d l) : ∃ s0,ak (aM l) l.length 0 ([],0)= .inr s0∧(∀ r h,aB .timetableSlot .int s0.1 (sl r h)=a8 (aU r h h) l)∧s0.2=a8 g0P l:=by
 obtain ⟨s,e,h1,h2⟩ :=uB (step:=aM l) (fun j s=> (∀ r h,aB .timetableSlot .int s.1 (sl r h)=a8 (aU r h h) (l.take j))∧s.2=a8 g0P (l.take j)) l.length 0 ([],0) ⟨fun _ _=> rfl,rfl⟩ (fun j s _ hj ⟨h1,h2⟩ => by
  have hj : j < l.length:=by omega
  have hb:=x5 ho g0P j
  have hlit:=ho.lit _ (List.getElem_mem hj)
  unfold aM
  rw [b7 _ _ hj]
  cases hout : l[j].outlet with
  | true=>
   refine ⟨_,rfl,fun r h=> ?_,?_⟩
   ·rw [gW hj,h1]
    have : aU r h h l[j]=false:=by unfold aU;rw [hout];rfl
    rw [this];simp
   ·rw [gW hj,h2]
    have : g0P l[j]=false:=by unfold g0P;rw [hout];rfl
    rw [this];simp
  | false=>
   have hg : ∀ r h,aB .timetableSlot .int (c7 .timetableSlot .int s.1 (sl l[j].index l[j].hour) l[j].litres) (sl r h)=a8 (aU r h h) (l.take (j + 1)) :=fun r h=> by
    rw [eD,gW hj,h1]
    by_cases q : r=l[j].index∧h=l[j].hour
    ·obtain ⟨rfl,rfl⟩ :=q
     have hp : aU l[j].index l[j].hour l[j].hour l[j]=true:=by unfold aU;rw [hout];simp
     rw [if_pos rfl,hp,rN ho hj (fun x hx=> ?_)]
     ·simp
     ·unfold aU at hx
      simp only [Bool.and_eq_true,Bool.not_eq_true',beq_iff_eq,decide_eq_true_eq] at hx
      exact ⟨by omega,hx.1.1.2,by rw [hx.1.1.1,hout]⟩
    ·have hp : aU r h h l[j]=false:=by
      cases hc : aU r h h l[j] with
      | false=> rfl
      | true=>
       unfold aU at hc
       simp only [Bool.and_eq_true,Bool.not_eq_true',beq_iff_eq,decide_eq_true_eq] at hc
       exact absurd ⟨hc.1.1.2.symm,by omega⟩ q
     rw [if_neg (fun e=> q (by rw [By] at e;simp only [Prod.mk.injEq] at e;exact e)),hp]
     simp
   by_cases h0 : l[j].index=0
   ·have hb0 : (l[j].index==0)=true:=by rw [h0];rfl
    simp only [Bool.not_false,cond_true,hb0]
    refine ⟨_,rfl,hg,?_⟩
    have : g0P l[j]=true:=by unfold g0P;rw [hout,hb0];rfl
    rw [gW hj,this,h2,bN (by omega) (by omega),cond_true]
   ·have hb0 : (l[j].index==0)=false:=by simpa using h0
    simp only [Bool.not_false,cond_true,hb0,cond_false]
    refine ⟨_,rfl,hg,?_⟩
    have : g0P l[j]=false:=by unfold g0P;rw [hout,hb0];rfl
    rw [gW hj,this,h2]
    simp)
 rw [Nat.zero_add,List.take_length] at h1 h2
 exact ⟨s,e,h1,h2⟩
theorem I7 (ho : Orders1 d l) {s0 : WM×Int} (hg : ∀ r h,aB .timetableSlot .int s0.1 (sl r h)=a8 (aU r h h) l) (h i : Nat) (hh : h≤1000000) (n : Nat) (hn : n≤1000000) :
  ak (dD d s0 h i) n 0 0= .inr (a8 (aU i ((h : Int) - n + 1) h) l) :=by
 obtain ⟨s,e,h1⟩ :=uB (step:=dD d s0 h i) (fun j s=> s=a8 (aU i ((h : Int) - j + 1) h) l) n 0 0 (gV (fun x _=> by
   cases hc : aU i ((h : Int) - (0 : Nat) + 1) h x with
   | false=> rfl
   | true=>
    unfold aU at hc
    simp only [Bool.and_eq_true,decide_eq_true_eq] at hc
    omega)).symm (fun j s _ hj hs=> by
  refine ⟨_,rfl,?_⟩
  have e1:=hg (i : Int) ((h : Int) - (j : Int))
  unfold sl at e1
  have e2:=zV ho (i : Int) (a:=(h : Int) - j) (m:=(h : Int) - j + 1) (b:=(h : Int)) (by omega) (by omega)
  have e3:=rO ho (aU i ((h : Int) - j) ((h : Int) - j))
  have e4:=rO ho (aU i ((h : Int) - j + 1) h)
  rw [show (h : Int) - j + 1 - 1=(h : Int) - j by omega] at e2
  rw [bN (n:=(h : Int) - (j : Int)) (by omega) (by omega),e1,hs,bN (by omega) (by omega),show (h : Int) - ((j + 1 : Nat) : Int) + 1=(h : Int) - j by omega]
  omega)
 rw [e,h1,Nat.zero_add]
def bk (d : District) (l : List Order) (h i : Nat) : List Fault:=
 (if a8 (aU i h h) l > (rch d i).cap then [{ kind:=1,hour:=(h : Int),index:=(i : Int),litres:=a8 (aU i h h) l,limit:=(rch d i).cap}] else []) ++
 (if a8 (aU i ((h : Int) - (rch d i).delay + 1) h) l > (rch d i).bank then [{ kind:=3,hour:=(h : Int),index:=(i : Int),litres:=a8 (aU i ((h : Int) - (rch d i).delay + 1) h) l,limit:=(rch d i).bank}] else [])
theorem DX (ho : Orders1 d l) {s0 : WM×Int} (hg : ∀ r h,aB .timetableSlot .int s0.1 (sl r h)=a8 (aU r h h) l) {h i : Nat} (hh : h≤1000000) (hi : i < d.reaches.length) (s : List Fault) {items : List (List SV)} :
  cN d s0 h i s= .inr (s ++ bk d l h i)∧((s ++ bk d l h i).map dZ <+: items→dU d items s0 h i s) :=by
 have hx:=ho.right.reach1 hi
 have hd1:=hx.delay1
 have hd2:=hx.delay
 have e1:=I7 ho hg h i hh (Int.toNat (d.reaches.getD i (default : Reach)).delay) (by omega)
 have e2:=hg (i : Int) (h : Int)
 unfold sl at e2
 have e3 : ((Int.toNat (d.reaches.getD i (default : Reach)).delay : Nat) : Int)=(rch d (i : Int)).delay:=by
  show _=(d.reaches.getD (Int.toNat (i : Int)) (default : Reach)).delay
  rw [Int.toNat_natCast];omega
 rw [e3] at e1
 have e4 : d.reaches.getD i (default : Reach)=rch d (i : Int) :=by show _=d.reaches.getD (Int.toNat (i : Int)) default;rw [Int.toNat_natCast]
 have hdl : (d.reaches.getD i (default : Reach)).delay < 9223372036854775808:=by omega
 refine ⟨?_,fun hp=> ⟨hdl,fun s3 h3=> ?_⟩⟩
 ·unfold cN bk
  simp only [e1,e2]
  rw [e4]
  generalize a8 (aU i ((h : Int) - (rch d (i : Int)).delay + 1) h) l=B
  generalize a8 (aU i h h) l=A
  generalize rch d (i : Int)=x
  by_cases c1 : A > x.cap <;> by_cases c2 : B > x.bank <;> simp [c1,c2]
 ·rw [e1] at h3
  simp only [Sum.inr.injEq] at h3
  subst h3
  simp only [e2]
  rw [e4]
  unfold bk at hp
  generalize a8 (aU i ((h : Int) - (rch d (i : Int)).delay + 1) h) l=B at hp ⊢
  generalize a8 (aU i h h) l=A at hp ⊢
  generalize rch d (i : Int)=x at hp ⊢
  refine ⟨fun q1=> ⟨?_,fun q2=> ?_,fun q=> q⟩,fun q1=> ⟨q1,fun q2=> ?_,fun q=> q⟩⟩
  ·rw [if_pos (of_decide_eq_true q1),←List.append_assoc] at hp
   refine s4 (List.IsPrefix.trans ?_ hp)
   rw [List.map_append (l₁:=s ++ _)]
   exact List.prefix_append _ _
  ·rw [if_pos (of_decide_eq_true q1),if_pos (of_decide_eq_true q2),←List.append_assoc] at hp
   exact s4 hp
  ·rw [if_neg (of_decide_eq_false q1),if_pos (of_decide_eq_true q2),List.nil_append] at hp
   exact s4 hp
def bkH (d : District) (l : List Order) (h : Nat) : List Fault:=(List.range' 0 d.reaches.length).flatMap (bk d l h)
theorem DY (ho : Orders1 d l) {s0 : WM×Int} (hg : ∀ r h,aB .timetableSlot .int s0.1 (sl r h)=a8 (aU r h h) l) {h : Nat} (hh : h≤1000000) (s : List Fault) {items : List (List SV)} :
  cj d s0 h s= .inr (s ++ bkH d l h)∧((s ++ bkH d l h).map dZ <+: items→dV d items s0 h s) :=by
 have key : ∀ j s,0≤j→j < 0 + d.reaches.length→cN d s0 h j s= .inr (s ++ bk d l h j) :=fun j s _ hj=> (DX ho hg hh (by omega) s (items:=items)).1
 refine ⟨?_,fun hp _=> ?_⟩
 ·unfold cj
  rw [rP d.reaches.length 0 s key]
  rfl
 ·exact u4 d.reaches.length 0 s key (fun j s _ hj hq=> (DX ho hg hh (by omega) s).2 hq) hp
def oh (d : District) (l : List Order) : List Fault:=(List.range' 0 d.hours.toNat).flatMap (bkH d l) ++ (if a8 g0P l > d.tank.start then [{ kind:=4,hour:=0,index:=0,litres:=a8 g0P l,limit:=d.tank.start}] else [])
theorem wH (ho : Orders1 d l) : ce l d=oh d l∧dO l d ((ce l d).map dZ) :=by
 obtain ⟨s0,e0,hg,h0⟩ :=BA ho
 have hh:=ho.right.hours
 have key : ∀ j s,0≤j→j < 0 + d.hours.toNat→cj d s0 j s= .inr (s ++ bkH d l j) :=fun j s _ hj=> (DY ho hg (by omega) s (items:=[])).1
 have e1:=rP d.hours.toNat 0 [] key
 have e2 : ce l d=oh d l:=by
  unfold ce oh
  simp only [e0,e1,h0,List.nil_append]
  by_cases c : a8 g0P l > d.tank.start
  ·rw [decide_eq_true c,cond_true,if_pos c]
  ·rw [decide_eq_false c,cond_false,if_neg c,List.append_nil]
 refine ⟨e2,?_⟩
 rw [e2]
 intro _ s hs
 rw [e0] at hs
 simp only [Sum.inr.injEq] at hs
 subst hs
 refine ⟨by omega,?_,fun s1 hs1=> ?_⟩
 ·refine u4 d.hours.toNat 0 [] key (fun j s _ hj hq=> (DY ho hg (by omega) s).2 hq) ?_
  unfold oh
  rw [List.nil_append,List.map_append]
  exact List.prefix_append _ _
 ·rw [e1] at hs1
  simp only [List.nil_append,Sum.inr.injEq] at hs1
  subst hs1
  rw [h0]
  unfold oh
  by_cases c : a8 g0P l > d.tank.start
  ·rw [decide_eq_true c,if_pos c]
   simp
  ·rw [decide_eq_false c,if_neg c]
   simp
structure Lim (d : District) (l : List Order) : Prop where
 cap : ∀ h i : Nat,h < d.hours.toNat→i < d.reaches.length→a8 (aU i h h) l≤(rch d i).cap
 bank : ∀ h i : Nat,h < d.hours.toNat→i < d.reaches.length→a8 (aU i ((h : Int) - (rch d i).delay + 1) h) l≤(rch d i).bank
 tank : a8 g0P l≤d.tank.start
theorem Qa {h i : Nat} : bk d l h i=[]↔a8 (aU i h h) l≤(rch d i).cap∧a8 (aU i ((h : Int) - (rch d i).delay + 1) h) l≤(rch d i).bank:=by
 unfold bk
 by_cases c1 : a8 (aU i h h) l > (rch d i).cap <;> by_cases c2 : a8 (aU i ((h : Int) - (rch d i).delay + 1) h) l > (rch d i).bank <;> simp only [c1,c2,if_true,if_false,List.append_eq_nil_iff,List.cons_ne_nil,false_and,and_false,false_iff,true_and,true_iff] <;> omega
theorem wI : oh d l=[]↔Lim d l:=by
 unfold oh bkH
 simp only [List.append_eq_nil_iff,List.flatMap_eq_nil_iff,List.mem_range',Qa]
 constructor
 ·rintro ⟨h1,h2⟩
  refine ⟨fun h i hh hi=> (h1 h ⟨h,hh,by omega⟩ i ⟨i,hi,by omega⟩).1,fun h i hh hi=> (h1 h ⟨h,hh,by omega⟩ i ⟨i,hi,by omega⟩).2,?_⟩
  by_cases c : a8 g0P l > d.tank.start
  ·rw [if_pos c] at h2;cases h2
  ·omega
 ·intro h
  refine ⟨?_,if_neg (by have:=h.tank;omega)⟩
  rintro a ⟨h',hh,rfl⟩ b ⟨i,hi,rfl⟩
  exact ⟨h.cap _ _ (by omega) (by omega),h.bank _ _ (by omega) (by omega)⟩
theorem BB : ∀ f∈oh d l,f.kind≠0∧f.limit < f.litres:=by
 intro f hf
 unfold oh bkH bk at hf
 simp only [List.mem_append,List.mem_flatMap] at hf
 rcases hf with ⟨h,_,i,_,hf | hf⟩ | hf
 all_goals
  split at hf
  ·rename_i c
   simp only [List.mem_cons,List.not_mem_nil,or_false] at hf
   subst hf
   exact ⟨by simp,c⟩
  ·cases hf
end
end Go.Sx
end
section
namespace Go.Sx
open Go.Proofs
section
variable {d : District} {c : List Claim}
theorem o6 (s : List Order) : aX s=true↔∃ x∈s,x.litres > 1073741824:=by
 unfold aX b8
 have hst : ∀ j,aW s j ()=bif decide ((s.getD j default).litres > 1073741824) then .inl (j : Int) else .inr () :=fun j=> rfl
 have key : ∀ n i,(∀ j,i≤j→j < i + n→¬ (s.getD j default).litres > 1073741824)→ak (aW s) n i ()= .inr () :=by
  intro n
  induction n with
  | zero=> intro i _;rfl
  | succ n ih=>
   intro i h
   simp only [ak,hst]
   rw [decide_eq_false (h i (Nat.le_refl _) (by omega)),cond_false]
   exact ih (i + 1) fun j h1 h2=> h j (by omega) (by omega)
 have key2 : ∀ n i x,ak (aW s) n i ()= .inl x→0≤x∧∃ j,i≤j∧j < i + n∧(s.getD j default).litres > 1073741824:=by
  intro n
  induction n with
  | zero=> intro i x h;cases h
  | succ n ih=>
   intro i x h
   simp only [ak,hst] at h
   by_cases q : (s.getD i default).litres > 1073741824
   ·rw [decide_eq_true q,cond_true] at h
    simp only [Sum.inl.injEq] at h
    exact ⟨by omega,i,Nat.le_refl _,by omega,q⟩
   ·rw [decide_eq_false q,cond_false] at h
    obtain ⟨h1,j,h2,h3,h4⟩ :=ih (i + 1) x h
    exact ⟨h1,j,by omega,by omega,h4⟩
 constructor
 ·intro h
  cases hr : ak (aW s) s.length 0 () with
  | inl x=>
   obtain ⟨_,j,_,hj,hl⟩ :=key2 _ _ _ hr
   exact ⟨_,lT s default (by omega),hl⟩
  | inr u=> rw [hr] at h;simp at h
 ·rintro ⟨x,hx,hl⟩
  obtain ⟨j,hj,rfl⟩ :=List.getElem_of_mem hx
  cases hr : ak (aW s) s.length 0 () with
  | inl x=> have:=(key2 _ _ _ hr).1;simp only [decide_eq_true_eq];omega
  | inr u=>
   have h1:=ul hr j (Nat.zero_le _) (by omega)
   rw [hst,b7 _ _ hj,decide_eq_true hl] at h1
   cases h1
structure Askd (d : District) (c : List Claim) : Prop where
 chk : aY d c=0
 wide : (d.reaches.length : Int) * d.hours≤1024
 lit : ∀ x∈ap c,x.litres≤1073741824
theorem x_ (h : aY d c=0) : okL1 c:=by
 obtain ⟨_,h2,h3,_⟩ :=(iP d c).1 h
 exact ⟨h2,fun a ha=> pu (h3 a ha)⟩
theorem I8 (h : aY d c=0) : Right1 d:=nM (by rw [((iP d c).1 h).1];rfl)
theorem DZ (h : aY d c=0) : IntKind.i64.wrap ((d.reaches.length : Int) * d.hours)=(d.reaches.length : Int) * d.hours:=by
 have:=oC (I8 h)
 exact bN (by omega) (by omega)
theorem oF : (ar d c).2=0↔Askd d c:=by
 unfold ar
 by_cases h1 : aY d c=0
 ·rw [h1]
  simp only [bne_self_eq_false,cond_false]
  rw [DZ h1]
  by_cases h2 : (d.reaches.length : Int) * d.hours > 1024
  ·rw [decide_eq_true h2,cond_true]
   constructor
   ·intro h;cases h
   ·intro h;have:=h.wide;omega
  ·rw [decide_eq_false h2,cond_false]
   cases h3 : aX (ap c) with
   | true=>
    rw [cond_true]
    obtain ⟨x,hx,hl⟩ :=(o6 _).1 h3
    constructor
    ·intro h;cases h
    ·intro h;have:=h.lit x hx;omega
   | false=>
    rw [cond_false]
    refine ⟨fun _=> ⟨h1,by omega,fun x hx=> ?_⟩,fun _=> rfl⟩
    by_cases q : x.litres > 1073741824
    ·have:=(o6 _).2 ⟨x,hx,q⟩
     rw [h3] at this;cases this
    ·omega
 ·have : (aY d c !=0)=true:=by simpa using h1
  rw [this,cond_true]
  exact ⟨fun h=> absurd h h1,fun h=> absurd h.chk h1⟩
theorem wJ (h : Askd d c) : ar d c=(ap c,0) :=by
 have h2:=oF.2 h
 unfold ar at h2 ⊢
 rw [h.chk] at h2 ⊢
 simp only [bne_self_eq_false,cond_false] at h2 ⊢
 rw [DZ h.chk] at h2 ⊢
 rw [decide_eq_false (by have:=h.wide;omega),cond_false] at h2 ⊢
 cases h3 : aX (ap c) with
 | true=> rw [h3] at h2;cases h2
 | false=> rfl
theorem I9 (d : District) (c : List Claim) : fG d c:=by
 refine ⟨wy d c,fun h _ _=> EY (x_ (d:=d) ?_)⟩
 simpa using h
theorem Askd.outs (h : Askd d c) : Outs c (ap c) :=Sx.outs (x_ h.chk)
theorem Askd.nar (h : Askd d c) : Nar d (ap c) :=by
 obtain ⟨h1,h2,h3,_⟩ :=(iP d c).1 h.chk
 have ho:=h.outs
 refine ⟨⟨h1,Nat.le_trans ho.len h2,fun x hx=> ?_,ho.asc⟩,h.wide⟩
 obtain ⟨a,ha,e1,e2⟩ :=ho.src x hx
 have hk:=h3 a ha
 unfold okC at hk
 simp only [Bool.and_eq_true,decide_eq_true_eq] at hk
 have hout:=ho.out x hx
 have hl:=ho.lit x hx
 have hl2:=h.lit x hx
 exact ⟨by omega,by omega,by omega,fun _=> by omega,fun q=> (by rw [hout] at q;cases q),hl.2,hl2⟩
theorem u5 (d : District) (c : List Claim) :
  (¬ Askd d c∧(ar d c).2≠0∧aL d c=([],({ kind:=0,hour:=0,index:=0,litres:=0,limit:=0} : Fault),(ar d c).2))∨
  (Askd d c∧aL d c=([],({ kind:=0,hour:=0,index:=0,litres:=0,limit:=0} : Fault),2))∨
  (Askd d c∧(∃ gs r h,PX d (ap c) gs r h)∧br (ap c) d≠[]∧aL d c=([],ew (ap c) d,0))∨
  (Askd d c∧∃ gs,PL d (ap c) gs∧¬ Lim d (srt ay (ap c ++ gs))∧∃ f∈oh d (srt ay (ap c ++ gs)),aL d c=([],f,0))∨
  (Askd d c∧∃ gs,PL d (ap c) gs∧Lim d (srt ay (ap c ++ gs))∧aL d c=(srt ay (ap c ++ gs),({ kind:=0,hour:=0,index:=0,litres:=0,limit:=0} : Fault),0)) :=by
 by_cases hA : Askd d c
 ·refine .inr ?_
  have ha:=wJ hA
  have hN:=hA.nar
  have hall:=hA.outs.out
  unfold aL
  simp only [ha,bne_self_eq_false,cond_false]
  rcases uA d (ap c) with ⟨q,_⟩ | ⟨_,q,_⟩ | ⟨_,_,hx,e⟩ | ⟨_,_,gs,_,_,e⟩ | ⟨_,_,gs,hP,e⟩
  ·exact absurd ((pr _ _).2 hN) q
  ·exact absurd hall q
  ·refine .inr (.inl ⟨hA,hx,?_,?_⟩)
   ·exact Np hN.good.right hN.good.orders hall (by rw [e]) (by rw [e])
   ·rw [e];rfl
  ·refine .inl ⟨hA,?_⟩
   rw [e];rfl
  ·have hg:=hP.good
   have hb:=(wH hg.orders).1
   rw [e]
   simp only [bne_self_eq_false,cond_false,Bool.not_true]
   rw [hb]
   cases hB : oh d (srt ay (ap c ++ gs)) with
   | nil=> exact .inr (.inr (.inr ⟨hA,gs,hP,wI.1 hB,rfl⟩))
   | cons f r=>
    refine .inr (.inr (.inl ⟨hA,gs,hP,fun q=> ?_,f,?_,?_⟩))
    ·rw [wI.2 q] at hB;cases hB
    ·rw [hB];exact List.mem_cons_self
    ·rfl
 ·refine .inl ⟨hA,fun q=> hA (oF.1 q),?_⟩
  have : ((ar d c).2 !=0)=true:=by
   rw [bne_iff_ne];exact fun q=> hA (oF.1 q)
  unfold aL
  rw [this,cond_true]
theorem I_ (d : District) (c : List Claim) : eK d c:=by
 refine ⟨I9 d c,fun h=> ?_⟩
 have hA : Askd d c:=oF.1 (by simpa using h)
 have ha:=wJ hA
 rw [ha]
 have hN:=hA.nar
 have hall:=hA.outs.out
 refine ⟨P6 _ _,fun h2=> ⟨fun _=> ?_,fun h3=> ?_⟩⟩
 ·exact P_ hN.good.right hN.good.orders hall
 ·rcases uA d (ap c) with ⟨_,e⟩ | ⟨_,_,e⟩ | ⟨_,_,_,e⟩ | ⟨_,_,gs,_,_,e⟩ | ⟨_,_,gs,hP,e⟩
  ·rw [e] at h3;cases h3
  ·rw [e] at h3;cases h3
  ·rw [e] at h3;cases h3
  ·rw [e] at h3;cases h3
  ·rw [e]
   exact (wH hP.good.orders).2
theorem Nq (d : District) (c : List Claim) : gh d c:=I_ d c
theorem Of {f : Fault} (h : f.kind≠0) (e : Int) : ((e==0) && ((f.kind==0) && ((f.hour==0) && ((f.index==0) && ((f.litres==0) && (f.limit==0))))))=false:=by
 have : (f.kind==0)=false:=by simpa using h
 rw [this,Bool.false_and,Bool.and_false]
structure Made (d : District) (c : List Claim) (l : List Order) : Prop where
 ask : Askd d c
 plan : ∃ gs,PL d (ap c) gs∧l=srt ay (ap c ++ gs)
 lim : Lim d l
theorem Ja (d : District) (c : List Claim) (h : (ae d c).2.2=0) (h2 : (ae d c).2.1=true) : Made d c (ae d c).1:=by
 rcases u5 d c with ⟨_,h1,e⟩ | ⟨_,e⟩ | ⟨hA,_,hl,e⟩ | ⟨hA,gs,hP,_,f,hf,e⟩ | ⟨hA,gs,hP,hL,e⟩
 ·unfold ae at h;rw [e] at h;exact absurd h h1
 ·unfold ae at h;rw [e] at h;cases h
 ·unfold ae at h2
  rw [e] at h2
  have hN:=hA.nar
  have:=(pC hN.good.right hN.good.orders hA.outs.out).choose_spec.2.2.2 _ (E0 hl)
  rw [Of (by rw [this];decide)] at h2;cases h2
 ·unfold ae at h2
  rw [e] at h2
  rw [Of (BB f hf).1] at h2;cases h2
 ·have e1 : (ae d c).1=srt ay (ap c ++ gs) :=by unfold ae;rw [e]
  rw [e1]
  exact ⟨hA,⟨gs,hP,rfl⟩,hL⟩
end
end Go.Sx
end
section
namespace Go.Sx
open Go.Proofs
section
variable {d : District} {c : List Claim} {l : List Order}
structure Srv (d : District) (c : List Claim) (l : List Order) : Prop where
 kp : Keeps d l
 wide : (d.reaches.length : Int) * d.hours≤1024
 lim : Lim d l
 met : ∀ f h : Int,od c f h≤a8 (pw f h) l
theorem Ah {f h : Int} {x y : Order} (hx : pw f h x=true) (hy : pw f h y=true) : K x y:=by
 unfold pw at hx hy
 simp only [Bool.and_eq_true,beq_iff_eq] at hx hy
 exact ⟨by rw [hx.2,hy.2],by rw [hx.1.2,hy.1.2],by rw [hx.1.1,hy.1.1]⟩
theorem E1 {x : Order} (h : x.outlet=true) : pw x.index x.hour x=true:=by unfold pw;rw [h];simp
theorem Nr (hk : l.Pairwise fun x y=> ¬ K x y) {x : Order} (hx : x∈l) (h : x.outlet=true) : a8 (pw x.index x.hour) l=x.litres:=
 kR hk (fun _ _ h1 h2=> Ah h1 h2) hx (E1 h)
theorem Ai (hA : Askd d c) {gs : List Order} {x : Order} : x∈srt ay (ap c ++ gs)↔x∈ap c∨x∈gs:=by
 rw [(nV _).mem_iff,List.mem_append]
theorem Jb (h : Made d c l) : Srv d c l:=by
 obtain ⟨hA,⟨gs,hP,rfl⟩,hL⟩ :=h
 have hN:=hA.nar
 have ho:=hA.outs
 refine ⟨Br hN.good ho.out hP,hA.wide,hL,fun f t=> ?_⟩
 by_cases h0 : od c f t=0
 ·rw [h0];exact xP fun x hx=> by have:=(hP.good.one x hx).litres1;omega
 ·obtain ⟨x,hx,rfl,rfl⟩ :=ho.all f t h0
  rw [Nr hP.good.keys ((Ai hA).2 (.inl hx)) (ho.out x hx),(ho.lit x hx).1]
  exact Int.le_refl _
theorem Srv.dom (h : Srv d c l) (hc : aY d c=0) : ∀ x∈ap c,∃ z∈l,K z x∧x.litres≤z.litres:=fun x hx=> by
 have ho:=outs (x_ hc)
 have h1:=ho.lit x hx
 have h2:=h.met x.index x.hour
 obtain ⟨z,hz,hp⟩ :=xN (p:=pw x.index x.hour) (l:=l) (by omega)
 have e : a8 (pw x.index x.hour) l=z.litres:=kR h.kp.good.keys (fun _ _ h1 h2=> Ah h1 h2) hz hp
 refine ⟨z,hz,?_,by omega⟩
 unfold pw at hp
 simp only [Bool.and_eq_true,beq_iff_eq] at hp
 exact ⟨hp.2,hp.1.2,by rw [hp.1.1,ho.out x hx]⟩
theorem Srv.ask (h : Srv d c l) (hc : aY d c=0) : Askd d c:=by
 refine ⟨hc,h.wide,fun x hx=> ?_⟩
 obtain ⟨z,hz,_,hl⟩ :=h.dom hc x hx
 have:=(h.kp.good.one z hz).litres
 omega
theorem D0 (r a b : Int) (x y : Order) (hk : K x y) : aU r a b x=aU r a b y:=by
 unfold aU
 rw [hk.1,hk.2.1,hk.2.2]
theorem TR (x y : Order) (hk : K x y) : g0P x=g0P y:=by
 unfold g0P
 rw [hk.2.1,hk.2.2]
theorem Ns {m : List Order} (hm : Good d m) (hl : Good d l) (h : ∀ x∈m,∃ z∈l,K z x∧x.litres≤z.litres) (hL : Lim d l) : Lim d m:=by
 have key : ∀ P : Order→Bool,(∀ x y,K x y→P x=P y)→a8 P m≤a8 P l:=fun P hP=>
  nW hP m l hm.keys (fun x hx _=> h x hx) fun z hz=> by have:=(hl.one z hz).litres1;omega
 exact ⟨fun t i ht hi=> Int.le_trans (key _ (D0 _ _ _)) (hL.cap t i ht hi),fun t i ht hi=> Int.le_trans (key _ (D0 _ _ _)) (hL.bank t i ht hi),Int.le_trans (key _ TR) hL.tank⟩
theorem E2 (h : Srv d c l) (hc : aY d c=0) :
  ((ae d c).2.2=2∧(ae d c).2.1=false)∨
  ((ae d c).2.2=0∧(ae d c).2.1=true∧∀ x∈(ae d c).1,∃ z∈l,K z x∧x.litres≤z.litres) :=by
 have hA:=h.ask hc
 have hN:=hA.nar
 have ho:=hA.outs
 have hdom:=h.dom hc
 have hall : ∀ gs,PL d (ap c) gs→∀ x∈srt ay (ap c ++ gs),∃ z∈l,K z x∧x.litres≤z.litres:=fun gs hP x hx=> by
  rcases (Ai hA).1 hx with hx | hx
  ·exact hdom x hx
  ·exact wu hN.good.right (qA hN.good ho.out hP.fin) hP.fin.gate hdom h.kp d.reaches.length x hx (by have:=(hP.fin.gate x hx).i0;omega)
 rcases u5 d c with ⟨q,_⟩ | ⟨_,e⟩ | ⟨_,⟨gs,r,t,hx⟩,_⟩ | ⟨_,gs,hP,hL,_⟩ | ⟨_,gs,hP,hL,e⟩
 ·exact absurd hA q
 ·left
  unfold ae
  rw [e]
  exact ⟨rfl,rfl⟩
 ·exact (Ng hN.good ho.out hx hdom h.kp).elim
 ·exact absurd (Ns hP.good h.kp.good (hall gs hP) h.lim) hL
 ·right
  have e1 : ae d c=(srt ay (ap c ++ gs),true,0) :=by unfold ae;rw [e];rfl
  rw [e1]
  exact ⟨rfl,rfl,hall gs hP⟩
end
end Go.Sx
end
section
namespace Go.Sx
open Go.Proofs
section
variable {d : District} {c : List Claim} {l : List Order}
theorem wK : (aj d l).2=0↔bt d l=0∧l.length≤4096∧(d.reaches.length : Int) * d.hours≤1024:=by
 constructor
 ·intro h
  have hR:=(gQ (d:=d) (l:=l) (by rw [h];rfl)).ords.right
  have hm:=oC hR
  have hw : IntKind.i64.wrap ((d.reaches.length : Int) * d.hours)=(d.reaches.length : Int) * d.hours:=bN (by omega) (by omega)
  unfold aj at h
  rw [hw] at h
  cases h1 : (decide ((d.reaches.length : Int) * d.hours > 1024) || decide ((l.length : Int) > 4096)) with
  | true=> rw [h1] at h;simp at h
  | false=>
   rw [h1] at h
   simp only [Bool.or_eq_false_iff,decide_eq_false_iff_not] at h1
   simp only [cond_false] at h
   cases h2 : (bt d l !=0) with
   | true=> rw [h2] at h;simp at h
   | false=> exact ⟨by simpa using h2,by omega,by omega⟩
 ·rintro ⟨h1,h2,h3⟩
  have hR:=(xM h1).right
  have hm:=oC hR
  have hw : IntKind.i64.wrap ((d.reaches.length : Int) * d.hours)=(d.reaches.length : Int) * d.hours:=bN (by omega) (by omega)
  unfold aj
  rw [hw,h1,decide_eq_false (by omega),decide_eq_false (by omega)]
  simp only [Bool.or_false,cond_false,bne_self_eq_false]
  repeat' split
  all_goals first | rfl | exact Empty.elim ‹Empty›
theorem rQ (r h : Int) : zF l r h=a8 (aU r h h) l:=gN fun x _=> by
 unfold gP aU
 refine zR ?_
 simp only [Bool.and_eq_true,Bool.not_eq_true',beq_iff_eq,decide_eq_true_eq]
 constructor
 ·rintro ⟨⟨h1,h2⟩,h3⟩;exact ⟨⟨⟨h1,h2⟩,by omega⟩,by omega⟩
 ·rintro ⟨⟨⟨h1,h2⟩,h3⟩,h4⟩;exact ⟨⟨h1,h2⟩,by omega⟩
theorem Qb (hg : Good d l) : a8 (aU (0 : Nat) 0 ((d.hours.toNat - 1 : Nat) : Int)) l=a8 g0P l:=gN fun x hx=> by
 have h1:=hg.one x hx
 have h2:=h1.hour0
 have h3:=h1.hour
 unfold g0P aU
 refine zR ?_
 simp only [Bool.and_eq_true,Bool.not_eq_true',beq_iff_eq,decide_eq_true_eq]
 constructor
 ·rintro ⟨⟨⟨h1,h2⟩,h3⟩,h4⟩;exact ⟨h1,h2⟩
 ·rintro ⟨h1,h2⟩;exact ⟨⟨⟨h1,h2⟩,by omega⟩,by omega⟩
theorem Nt {p q : Order→Bool} (hl : ∀ x∈l,1≤x.litres) (h : ∀ x,p x=true→q x=true) : a8 p l≤a8 q l:=by
 induction l with
 | nil=> exact Int.le_refl _
 | cons x r ih=>
  have h1:=ih fun y hy=> hl y (List.mem_cons_of_mem _ hy)
  have h2:=hl x List.mem_cons_self
  simp only [a8]
  cases hp : p x with
  | true=> rw [h x hp];simp only [cond_true];omega
  | false=> cases q x <;> simp only [cond_true,cond_false] <;> omega
theorem Jc (hc : aY d c=0) {f h : Int} (hn : od c f h≠0) : 0≤f∧f < (d.farms.length : Int)∧0≤h∧h < d.hours:=by
 obtain ⟨a,ha,e⟩ :=py hn
 have hk:=((iP d c).1 hc).2.2.1 a ha
 unfold okC at hk
 simp only [Bool.and_eq_true,decide_eq_true_eq] at hk
 unfold oP kz at e
 simp only [CertifyPlace.mk.injEq] at e
 omega
theorem u6 (h : aG d c l=(true,0)) : Srv d c l:=by
 have hS:=sure h
 obtain ⟨h1,h2,q⟩ :=(kU d c l).1 h
 obtain ⟨r1,r2,r3⟩ :=wK.1 h2
 have hg:=xM r1
 have ho:=hg.orders
 have hR:=hg.right
 have a1:=hR.hours1
 have ht:=gQ (d:=d) (l:=l) (by rw [h2];rfl)
 have htl:=ht.tl
 have htd:=ht.td
 have hkept : TQ d l:=fun r t hr0 hd=> by
  obtain ⟨b1,b2,b3⟩ :=xO (r:=r) (h:=t) hg hr0 (by omega)
  obtain ⟨r,rfl⟩ :=Int.eq_ofNat_of_zero_le hr0
  obtain ⟨t,rfl⟩ :=Int.eq_ofNat_of_zero_le b2
  have hx:=hR.reach (k:=r) (by omega)
  have hgr:=uQ ho (r : Int) ((t : Int) - (rch d (r : Int)).delay)
  have e4 : d.reaches.getD r (default : Reach)=rch d (r : Int) :=by show _=d.reaches.getD (Int.toNat (r : Int)) default;rw [Int.toNat_natCast]
  rw [e4] at hx
  have hw:=ip hx hgr.1 hgr.2
  refine ⟨_,by rw [rQ];exact hw,?_⟩
  have:=hS.water r t (by omega) (by omega)
  rw [e4,hw] at this
  exact this
 refine ⟨⟨hg,fun x hx ho=> ?_,hkept⟩,r3,⟨fun t i ht hi=> ?_,fun t i ht hi=> ?_,?_⟩,fun f t=> ?_⟩
 ·obtain ⟨i,hi,rfl⟩ :=List.getElem_of_mem hx
  have:=DS.1 (q.siph i (by rw [htl];exact hi))
  rw [htl,htd,b7 _ _ hi,ho] at this
  simpa using this
 ·have:=hS.cap i t hi
  rwa [show d.reaches.getD i (default : Reach)=rch d (i : Int) by show _=d.reaches.getD (Int.toNat (i : Int)) default;rw [Int.toNat_natCast]] at this
 ·have:=hS.bank i t hi ht
  rwa [show d.reaches.getD i (default : Reach)=rch d (i : Int) by show _=d.reaches.getD (Int.toNat (i : Int)) default;rw [Int.toNat_natCast]] at this
 ·rw [←Qb hg]
  exact hS.tank _ (by omega)
 ·by_cases h0 : od c f t=0
  ·rw [h0];exact xP fun x hx=> by have:=(hg.one x hx).litres1;omega
  ·obtain ⟨b1,b2,b3,b4⟩ :=Jc h1 h0
   have:=hS.unmet t.toNat f.toNat (by omega) (by omega)
   rw [Int.toNat_of_nonneg b1,Int.toNat_of_nonneg b3] at this
   exact this
theorem u7 (hc : aY d c=0) (h : Srv d c l) : aG d c l=(true,0) :=by
 have hg:=h.kp.good
 have ho:=hg.orders
 have hR:=hg.right
 have a1:=hR.hours1
 have a2:=hR.hours
 have h2 : (aj d l).2=0:=wK.2 ⟨zB hg,hg.len,h.wide⟩
 have ht:=gQ (d:=d) (l:=l) (by rw [h2];rfl)
 have hT:=IT h2
 have htd:=ht.td
 have htl:=ht.tl
 have hcc:=(iP d c).1 hc
 refine (kU d c l).2 ⟨hc,h2,?_⟩
 generalize (aj d l).1=t at hT htd htl
 have e4 : ∀ r : Nat,d.reaches.getD r (default : Reach)=rch d (r : Int) :=fun r=> by show _=d.reaches.getD (Int.toNat (r : Int)) default;rw [Int.toNat_natCast]
 have eg : ∀ r h : Int,a8 (gw h r false) l=a8 (aU r h h) l:=fun r h=> gN fun x _=> uR r h x
 have cm : ∀ z∈aS t,∃ h r : Nat,h < d.hours.toNat∧r < d.reaches.length∧z=((h : Int),(r : Int)) :=fun z hz=> by
  have:=rM hz
  rw [htd] at this
  exact ⟨z.1.toNat,z.2.toNat,by omega,by omega,by rw [Int.toNat_of_nonneg this.1,Int.toNat_of_nonneg this.2.2.1]⟩
 refine ⟨fun k hk=> DR.2 ?_,fun k hk=> DS.2 ?_,fun z hz=> ?_,fun j hj=> ?_,fun z hz=> ?_,fun t' ht' f hf=> IR.2 ?_⟩
 ·rw [htl] at hk ⊢
  rw [htd,b7 _ _ hk]
  cases hout : l[k].outlet with
  | true=> exact .inl rfl
  | false=>
   right
   have h1:=hg.one _ (List.getElem_mem hk)
   have i0:=h1.index0
   have i1:=h1.reach hout
   have t0:=h1.hour0
   have t1:=h1.hour
   have:=h.lim.cap l[k].hour.toNat l[k].index.toNat (by omega) (by omega)
   rw [Int.toNat_of_nonneg i0,Int.toNat_of_nonneg t0,←rQ,zG hg.keys (List.getElem_mem hk) hout] at this
   exact this
 ·rw [htl] at hk ⊢
  rw [htd,b7 _ _ hk]
  cases hout : l[k].outlet with
  | true=> exact .inl rfl
  | false=> exact .inr (h.kp.sip _ (List.getElem_mem hk) hout)
 ·obtain ⟨hh,r,b1,b2,rfl⟩ :=cm z hz
  unfold bF
  rw [Bool.cond_eq_ite,zW ho htd hT b1 b2,htd]
  have:=h.lim.bank hh r b1 b2
  rw [←e4] at this
  simp only [Int.toNat_natCast]
  rw [if_neg (by rw [decide_eq_true_eq];omega)]
 ·rw [htd] at hj ⊢
  have w1 : IntKind.i64.wrap ((j : Int) + 1)=(j : Int) + 1:=bN (by omega) (by omega)
  have c1:=hT.sums 0 (j + 1) hR.one (by omega)
  have e1 : ((j : Int) + 1).toNat=j + 1:=by omega
  have e2 : (((j + 1 : Nat) : Int) - 1)=(j : Int) :=by omega
  rw [e2] at c1
  have c1 : (t.sums.getD 0 default).getD (j + 1) 0=a8 (aU (0 : Nat) 0 j) l:=c1
  rw [w1,e1,c1]
  have h3 : a8 (aU (0 : Nat) 0 j) l≤a8 g0P l:=Nt (fun x hx=> (hg.one x hx).litres1) fun x hx=> by
   unfold aU at hx
   unfold g0P
   simp only [Bool.and_eq_true] at hx ⊢
   exact hx.1.1
  have:=h.lim.tank
  omega
 ·obtain ⟨hh,r,b1,b2,rfl⟩ :=cm z hz
  have hx:=hR.reach1 b2
  have d1:=hx.delay1
  have d2:=hx.delay
  have c1 : (t.drawn.getD r default).getD hh 0=a8 (fF d r hh) l:=hT.drawn r hh b2 b1
  have key : ¬ a8 (fF d r hh) l > (dm (d.reaches.getD r default) (a8 (aU (r : Int) ((hh : Int) - (d.reaches.getD r default).delay) ((hh : Int) - (d.reaches.getD r default).delay)) l)).1:=by
   have hxr:=hR.reach (k:=r) b2
   have hgr:=uQ ho (r : Int) ((hh : Int) - (d.reaches.getD r default).delay)
   by_cases q : 1≤drw d l r hh
   ·obtain ⟨w,e,hw⟩ :=h.kp.kept r hh (by omega) q
    rw [rQ,←e4] at e
    rw [e]
    unfold drw at hw
    omega
   ·rw [ip hxr hgr.1 hgr.2]
    have:=xE hxr hgr.1 hgr.2
    unfold drw at q
    omega
  have key2 : ¬ (decide ((t.drawn.getD ((r : Int)).toNat default).getD ((hh : Int)).toNat 0 > a7 t (r : Int) (hh : Int))=true) :=by
   unfold a7
   simp only [Int.toNat_natCast]
   rw [decide_eq_true_eq,c1,htd,bN (by omega) (by omega),hT.lit,eg]
   exact key
  unfold wF
  rw [Bool.cond_eq_ite,if_neg key2]
 ·rw [htd] at ht' hf
  have eo : a8 (gw (t' : Int) (f : Int) true) l=a8 (pw f t') l:=gN fun x _=> wC _ _ x
  rw [hT.lit,qI hcc.2.1 (fun a ha=> pu (hcc.2.2.1 a ha)),eo]
  exact Int.not_lt.2 (h.met f t')
end
end Go.Sx
end
section
namespace Go.Sx
open Go.Proofs
set_option maxRecDepth 100000
set_option linter.unusedSimpArgs false
theorem Aj {p : Prop} (h : p:=by (first | done | (repeat' (first | with_reducible refine And.intro ?_ ?_ | ((with_reducible show _≠_);first | assumption | omega | (simp_all [am,aC];done) | grind) | with_reducible intro _)) <;> (first | done | exact Empty.elim ‹Empty› | assumption | rfl | omega | decide | exact fk [0,1] | (simp only [*,cond_true,cond_false,Bool.not_true,Bool.not_false,go_sem,Nat.reduceBEq,Nat.reduceLeDiff,Nat.reduceLT,decide_true,Nat.reduceAdd,Nat.reduceSub,Nat.reduceMul,Int.reduceLE,Int.reduceLT,Int.reduceToNat,Int.reduceNeg,reduceCtorEq];done) | (simp only [*,cond_true,cond_false,Bool.not_true,Bool.not_false,go_sem,Nat.reduceBEq,Nat.reduceLeDiff,Nat.reduceLT,decide_true,Nat.reduceAdd,Nat.reduceSub,Nat.reduceMul,Int.reduceLE,Int.reduceLT,Int.reduceToNat,Int.reduceNeg,reduceCtorEq];(repeat' (first | with_reducible refine And.intro ?_ ?_ | ((with_reducible show _≠_);first | assumption | omega | (simp_all [am,aC];done) | grind) | with_reducible intro _)) <;> (first | done | assumption | rfl | omega | decide | exact fk [0,1] | (simp_all [am,aC];done))) | (simp_all [okI,am,aC];done) | (simp_all [am,aC];(first | done | exact fk2 [0,1])) | exact fk2 [0,1] | (simp_all only [am,aC,cond_true,cond_false];(first | done | exact fk [0,1] | exact fk2 [0,1] | (simp only [go_sem,Nat.reduceBEq,Nat.reduceLeDiff,Nat.reduceLT,decide_true,Nat.reduceAdd,Nat.reduceSub,Nat.reduceMul,Int.reduceLE,Int.reduceLT,Int.reduceToNat,Int.reduceNeg,reduceCtorEq];((repeat' (first | with_reducible refine And.intro ?_ ?_ | ((with_reducible show _≠_);first | assumption | omega | (simp_all [am,aC];done) | grind) | with_reducible intro _)) <;> (first | done | rfl | exact fk [0,1] | exact fk2 [0,1])))))))) : p:=h
theorem qO {p : Prop} (h : p:=by simp only [go_sem,Nat.reduceBEq,Nat.reduceLeDiff,Nat.reduceLT,decide_true,Nat.reduceAdd,Nat.reduceSub,Nat.reduceMul,Int.reduceLE,Int.reduceLT,Int.reduceToNat,Int.reduceNeg,reduceCtorEq,hc,hw];all_goals exact Aj) : p:=h
theorem qP {p : Prop} (h : p:=by simp only [go_sem,Nat.reduceBEq,Nat.reduceLeDiff,Nat.reduceLT,decide_true,Nat.reduceAdd,Nat.reduceSub,Nat.reduceMul,Int.reduceLE,Int.reduceLT,Int.reduceToNat,Int.reduceNeg,reduceCtorEq,hc];all_goals exact Aj) : p:=h
@[go_sem] def b6 (a2 : List Order) (k_0 : Nat) (s_0 : List (Acequialaw28Place×Int)) : Empty⊕(List (Acequialaw28Place×Int)) := .inr (c7 .acequialaw28Place .int s_0 ({ hour:=(a2.getD k_0 (default : Order)).hour,index:=(a2.getD k_0 (default : Order)).index,outlet:=(a2.getD k_0 (default : Order)).outlet} : Acequialaw28Place) ((a2.getD k_0 (default : Order)).litres))
@[go_sem] def dE (a0 : District) (a1 : List Claim) (s_0 : List (Acequialaw28Place×Int)) (k_1 : Nat) (s_1 : Unit) : Unit⊕Unit:=(bif (decide ((((ae a0 a1).1).getD k_1 (default : Order)).litres > (aB .acequialaw28Place .int s_0 ({ hour:=(((ae a0 a1).1).getD k_1 (default : Order)).hour,index:=(((ae a0 a1).1).getD k_1 (default : Order)).index,outlet:=(((ae a0 a1).1).getD k_1 (default : Order)).outlet} : Acequialaw28Place)))) then .inl () else .inr ())
@[go_sem] def er (a2 : List Order) (k_2 : Nat) (s_2 : List (Acequialaw28Place×Int)) : Empty⊕(List (Acequialaw28Place×Int)) := .inr (c7 .acequialaw28Place .int s_2 ({ hour:=(a2.getD k_2 (default : Order)).hour,index:=(a2.getD k_2 (default : Order)).index,outlet:=(a2.getD k_2 (default : Order)).outlet} : Acequialaw28Place) ((a2.getD k_2 (default : Order)).litres))
@[go_sem] def iE (a0 : District) (a1 : List Claim) (s_2 : List (Acequialaw28Place×Int)) (k_3 : Nat) (s_3 : Unit) : Unit⊕Unit:=(bif (decide ((((ae a0 a1).1).getD k_3 (default : Order)).litres > (aB .acequialaw28Place .int s_2 ({ hour:=(((ae a0 a1).1).getD k_3 (default : Order)).hour,index:=(((ae a0 a1).1).getD k_3 (default : Order)).index,outlet:=(((ae a0 a1).1).getD k_3 (default : Order)).outlet} : Acequialaw28Place)))) then .inl () else .inr ())
def dG (a0 : District) (a1 : List Claim) (a2 : List Order) : Bool:=(bif (!ky) then false else (bif (!(lV a0 a1 a2)) then true else (bif (((ae a0 a1).2.2==0) && (ae a0 a1).2.1) then (bif (((aG a0 a1 ((ae a0 a1).1)).2 !=0) || (!(aG a0 a1 ((ae a0 a1).1)).1)) then false else (bif ((((aG a0 a1 a2).2 !=0) || (!(aG a0 a1 a2).1)) || ((ae a0 a1).2.2==2)) then true else (bif (((ae a0 a1).2.2 !=0) || (!(ae a0 a1).2.1)) then false else (match ak (b6 a2) a2.length 0 ([]) with | .inl x=> x.elim | .inr s_0=> (match ak (dE a0 a1 s_0) (((ae a0 a1).1).length) 0 () with | .inl x_1_0=> false | .inr s_1=> true))))) else (bif ((((aG a0 a1 a2).2 !=0) || (!(aG a0 a1 a2).1)) || ((ae a0 a1).2.2==2)) then true else (bif (((ae a0 a1).2.2 !=0) || (!(ae a0 a1).2.1)) then false else (match ak (er a2) a2.length 0 ([]) with | .inl x=> x.elim | .inr s_2=> (match ak (iE a0 a1 s_2) (((ae a0 a1).1).length) 0 () with | .inl x_3_0=> false | .inr s_3=> true)))))))
def eL (a0 : District) (a1 : List Claim) (a2 : List Order) : Prop:=((ix)∧((!ky)=false→((!(lV a0 a1 a2))=false→((gh a0 a1)∧(((((ae a0 a1).2.2==0) && (ae a0 a1).2.1)=true→((b_ a0 a1 ((ae a0 a1).1))∧((((aG a0 a1 ((ae a0 a1).1)).2 !=0) || (!(aG a0 a1 ((ae a0 a1).1)).1))=false→(b_ a0 a1 a2))))∧((((ae a0 a1).2.2==0) && (ae a0 a1).2.1)=false→(b_ a0 a1 a2)))))))
@[go_sem] def f0 : List SV→Option Con:=(pD .district fun a0=> (pR .claim fun a1=> (pR .order fun a2=> (pE (.det (eL a0 a1 a2) (.v (.bool (dG a0 a1 a2))))))))
set_option maxHeartbeats 4000000 in
theorem mR : FnOk Tryz.prog 9 f0:=by
 have hG : ConsOk Tryz.prog (mkG [(12,fun l=> l7 (dw [.st .district,.sl .claim] l)),(27,qH),(28,fun l=> sj (dw [.st .district,.sl .claim,.sl .order] l)),(29,fun l=> iw (dw [.st .district,.sl .claim,.sl .order] l))] []) :=aN (cgc (qL.norm [.st .district,.sl .claim]) (cgc vA (cgc (xU.norm [.st .district,.sl .claim,.sl .order]) (cgc (kx.norm [.st .district,.sl .claim,.sl .order]) cg0)))) cg0
 refine a_ [.o] mixed aD hG (fn:=Tryz.f9) (c:=ag Tryz.f9) (by kernel_rfl) (by kernel_rfl) (by kernel_rfl) (by kernel_rfl) (bL fun a0=> (df fun a1=> (df fun a2=> (aV (fun hp=> ?_)))))
 dsimp only [aZ] at hp
 unfold eL at hp
 rcases Bool.eq_false_or_eq_true (((ae a0 a1).2.2==0) && (ae a0 a1).2.1) with hs0 | hs0
 ·have hsp : True:=trivial
  refine ⟨Nat.le_of_ble_eq_true rfl,(fun id st=> bif Nat.beq id 0 then some (LCR (ρ:=Empty) (σ:=(List (Acequialaw28Place×Int))) 2 [] [0,1] (fun k_0 s_0=> ⟨[(7,.rs .order ((ae a0 a1).1)),(14,.os 1),(75,.rs .order a2),(76,.v (.int .i64 (a2.length : Int))),(77,.v (.int .i64 (k_0 : Int)))],[.dead,.mp .acequialaw28Place .int s_0 none]⟩) (b6 a2) pT a2.length ([]) (a2.length≤bC) ((·.elim)) ((·.elim)) st) else bif Nat.beq id 2 then some (LCR (ρ:=Unit) (σ:=Unit) 2 [] [0,1] (fun k_1 s_1=> ⟨[(14,.os 1),(92,.rs .order ((ae a0 a1).1)),(93,.v (.int .i64 (((ae a0 a1).1).length : Int))),(94,.v (.int .i64 (k_1 : Int)))],[.dead,.mp .acequialaw28Place .int (am (ak (b6 a2) a2.length 0 ([]))) none]⟩) (dE a0 a1 (am (ak (b6 a2) a2.length 0 ([])))) pT (((ae a0 a1).1).length) () (((ae a0 a1).1).length≤bC) (fun _=> .ret) (fun x_1_0=> ⟨[(6,.v (.bool false))],[.dead,.dead]⟩) st) else none),?_,?_⟩
  ·unfold ag Tryz.f9
   simp only [aw,true_and,and_true]
   refine ⟨?_,?_⟩
   ·refine bY mixed aD hG (by kernel_rfl) (fun _=> rfl) (a2.length : Int) rfl jm (fun hb0 k_0 s_0 hlt0 _ hw hc=> ⟨L0,av _,?_⟩) (fun hb0 s_0 hc=> ?_)
    ·exact qO
    ·exact qP
   ·refine bY mixed aD hG (by kernel_rfl) (fun _=> rfl) (((ae a0 a1).1).length : Int) rfl jm (fun hb1 k_1 s_1 hlt1 _ hw hc=> ⟨L0,av _,?_⟩) (fun hb1 s_1 hc=> ?_)
    ·exact qO
    ·exact qP
  ·unfold ag Tryz.f9
   try unfold dG
   simp only [go_sem,Nat.reduceBEq,Nat.reduceLeDiff,Nat.reduceLT,decide_true,Nat.reduceAdd,Nat.reduceSub,Nat.reduceMul,Int.reduceLE,Int.reduceLT,Int.reduceToNat,Int.reduceNeg,reduceCtorEq,hs0]
   all_goals exact cl
 ·have hsp : True:=trivial
  refine ⟨Nat.le_of_ble_eq_true rfl,(fun id st=> bif Nat.beq id 0 then some (LCR (ρ:=Empty) (σ:=(List (Acequialaw28Place×Int))) 2 [] [0,1] (fun k_2 s_2=> ⟨[(7,.rs .order ((ae a0 a1).1)),(14,.os 1),(75,.rs .order a2),(76,.v (.int .i64 (a2.length : Int))),(77,.v (.int .i64 (k_2 : Int)))],[.dead,.mp .acequialaw28Place .int s_2 none]⟩) (er a2) pT a2.length ([]) (a2.length≤bC) ((·.elim)) ((·.elim)) st) else bif Nat.beq id 2 then some (LCR (ρ:=Unit) (σ:=Unit) 2 [] [0,1] (fun k_3 s_3=> ⟨[(14,.os 1),(92,.rs .order ((ae a0 a1).1)),(93,.v (.int .i64 (((ae a0 a1).1).length : Int))),(94,.v (.int .i64 (k_3 : Int)))],[.dead,.mp .acequialaw28Place .int (am (ak (er a2) a2.length 0 ([]))) none]⟩) (iE a0 a1 (am (ak (er a2) a2.length 0 ([])))) pT (((ae a0 a1).1).length) () (((ae a0 a1).1).length≤bC) (fun _=> .ret) (fun x_3_0=> ⟨[(6,.v (.bool false))],[.dead,.dead]⟩) st) else none),?_,?_⟩
  ·unfold ag Tryz.f9
   simp only [aw,true_and,and_true]
   refine ⟨?_,?_⟩
   ·refine bY mixed aD hG (by kernel_rfl) (fun _=> rfl) (a2.length : Int) rfl jm (fun hb2 k_2 s_2 hlt2 _ hw hc=> ⟨L0,av _,?_⟩) (fun hb2 s_2 hc=> ?_)
    ·exact qO
    ·exact qP
   ·refine bY mixed aD hG (by kernel_rfl) (fun _=> rfl) (((ae a0 a1).1).length : Int) rfl jm (fun hb3 k_3 s_3 hlt3 _ hw hc=> ⟨L0,av _,?_⟩) (fun hb3 s_3 hc=> ?_)
    ·exact qO
    ·exact qP
  ·unfold ag Tryz.f9
   try unfold dG
   simp only [go_sem,Nat.reduceBEq,Nat.reduceLeDiff,Nat.reduceLT,decide_true,Nat.reduceAdd,Nat.reduceSub,Nat.reduceMul,Int.reduceLE,Int.reduceLT,Int.reduceToNat,Int.reduceNeg,reduceCtorEq,hs0]
   all_goals exact cl
end Go.Sx
end
section
namespace Go.Sx
open Go.Proofs
set_option maxRecDepth 100000
theorem Qc : ky=true:=by kernel_rfl
theorem E3 (d : District) (l : List Order) (r h : Int) : d7 d l r h:=fun _=> ⟨IM d l,fun h2 h3=> by
 have ht:=gQ h2
 simp only [Bool.or_eq_false_iff,decide_eq_false_iff_not] at h3
 unfold ct
 rw [ht.td]
 omega⟩
theorem TS (d : District) (c : List Claim) (l : List Order) : b_ d c l=True:=eq_true (mz d c l)
theorem TT (d : District) (c : List Claim) (l : List Order) : cF d c l=True:=eq_true (wA d c l)
theorem TU (d : District) (l : List Order) (r h : Int) : d7 d l r h=True:=eq_true (E3 d l r h)
theorem Qd : ix:=by
 unfold ix
 simp [TS,TT,TU,ja,aJ,gG,gE,gD,gC,cX,fw,fv,fu,ft,dg,eW,fZ,fY,fX,cC,fW,dq,eV,dM,cg]
section
variable {d : District} {c : List Claim} {l : List Order}
theorem Jd (d : District) (c : List Claim) (l : List Order) : eL d c l:=
 ⟨Qd,fun _ _=> ⟨Nq d c,fun _=> ⟨mz d c _,fun _=> mz d c l⟩,fun _=> mz d c l⟩⟩
def plK (x : Order) : Acequialaw28Place:= { hour:=x.hour,index:=x.index,outlet:=x.outlet}
theorem Qe {x y : Order} (h : ¬ K x y) : plK x≠plK y:=fun e=> by
 unfold plK at e
 simp only [Acequialaw28Place.mk.injEq] at e
 exact h ⟨e.1,e.2.1,e.2.2⟩
theorem lmap (hk : l.Pairwise fun x y=> ¬ K x y) : ∃ m,ak (b6 l) l.length 0 []= .inr m∧∀ z∈l,aB .acequialaw28Place .int m (plK z)=z.litres:=by
 obtain ⟨m,e,hm⟩ :=uB (step:=b6 l) (fun j m=> ∀ i (hi : i < l.length),i < j→aB .acequialaw28Place .int m (plK l[i])=l[i].litres) l.length 0 [] (fun i _ h=> absurd h (Nat.not_lt_zero _)) (fun j m _ hj hm=> by
  have hj : j < l.length:=by omega
  refine ⟨_,rfl,fun i hi hij=> ?_⟩
  rw [b7 _ _ hj]
  show aB .acequialaw28Place .int (c7 .acequialaw28Place .int m (plK l[j]) l[j].litres) (plK l[i])=_
  rw [eD]
  by_cases q : i=j
  ·subst q;rw [if_pos rfl]
  ·rw [if_neg (Qe ((List.pairwise_iff_getElem.1 hk) i j hi hj (by omega)))]
   exact hm i hi (by omega))
 refine ⟨m,e,fun z hz=> ?_⟩
 obtain ⟨i,hi,rfl⟩ :=List.getElem_of_mem hz
 exact hm i hi (by omega)
theorem Qf (h : (((aG d c l).2 !=0) || (!(aG d c l).1))=false) : aG d c l=(true,0) :=by
 cases e : aG d c l with
 | mk a b=>
  rw [e] at h
  simp only [Bool.or_eq_false_iff,bne_eq_false_iff_eq,Bool.not_eq_false'] at h
  rw [h.1,h.2]
theorem Nu (d : District) (c : List Claim) (l : List Order) : dG d c l=true:=by
 have h1 : ((ae d c).2.2==0 && (ae d c).2.1)=true→aG d c (ae d c).1=(true,0) :=fun h=> by
  simp only [Bool.and_eq_true,beq_iff_eq] at h
  have hm:=Ja d c h.1 h.2
  exact u7 hm.ask.chk (Jb hm)
 have h2 : (((aG d c l).2 !=0 || !(aG d c l).1) || (ae d c).2.2==2)=false→
   ((ae d c).2.2 !=0 || !(ae d c).2.1)=false∧∃ s,ak (b6 l) l.length 0 []= .inr s∧ak (dE d c s) (ae d c).1.length 0 ()= .inr () :=fun h=> by
  rw [Bool.or_eq_false_iff] at h
  have ha:=Qf h.1
  have hS:=u6 ha
  have hc:=((kU d c l).1 ha).1
  rcases E2 hS hc with ⟨e,_⟩ | ⟨e1,e2,hd⟩
  ·rw [e] at h;cases h.2
  ·refine ⟨by rw [e1,e2];rfl,?_⟩
   obtain ⟨m,em,hm⟩ :=lmap hS.kp.good.keys
   refine ⟨m,em,uk.2 fun j hj=> ?_⟩
   unfold dE
   have hx:=lT (ae d c).1 (default : Order) hj
   generalize (ae d c).1.getD j (default : Order)=x at hx ⊢
   obtain ⟨z,hz,hk,hle⟩ :=hd x hx
   have:=hm z hz
   unfold plK at this
   rw [hk.1,hk.2.1,hk.2.2] at this
   rw [this,decide_eq_false (by omega),cond_false]
 unfold dG
 rw [Qc]
 simp only [Bool.not_true,cond_false]
 cases lV d c l with
 | false=> rfl
 | true=>
  simp only [Bool.not_true,cond_false]
  have h3 : (bif (((aG d c l).2 !=0 || !(aG d c l).1) || (ae d c).2.2==2) then true else (bif ((ae d c).2.2 !=0 || !(ae d c).2.1) then false else (match ak (b6 l) l.length 0 ([]) with | .inl x=> x.elim | .inr s_0=> (match ak (dE d c s_0) (((ae d c).1).length) 0 () with | .inl x_1_0=> false | .inr s_1=> true))))=true:=by
   cases hb : (((aG d c l).2 !=0 || !(aG d c l).1) || (ae d c).2.2==2) with
   | true=> rfl
   | false=>
    obtain ⟨e1,s,e2,e3⟩ :=h2 hb
    rw [cond_false,e1,cond_false]
    simp only [e2,e3]
  cases ha : ((ae d c).2.2==0 && (ae d c).2.1) with
  | true=>
   rw [cond_true,h1 ha]
   exact h3
  | false=>
   rw [cond_false]
   exact h3
end
end Go.Sx
end
section
namespace Go.Sx
open Go.RowKit Go.Deep
section
variable {F : Nat→Prop} {own : Own} {w : World}
def RC (F : Nat→Prop) (own : Own) (w : World) (ks : List Kd) (cs : List Value) : Prop:=
 ∃ l : List SV,li ks l=true∧l.length=cs.length∧∀ (j : Nat) (s : SV) (v : Value),l[j]? =some s→cs[j]? =some v→Rel F own w s v
theorem Ak : ∀ {a b : List Kd} {l m : List SV},li a l=true→li b m=true→li (a ++ b) (l ++ m)=true
 | [],b,l,m,h1,h2=> by rw [lw h1];exact h2
 | k :: a,b,l,m,h1,h2=> by
  obtain ⟨x,r,rfl,e1,e2⟩ :=iG h1
  simp only [List.cons_append,li,e1,Ak e2 h2,Bool.and_self]
theorem RC.nil : RC F own w [] [] :=⟨[],rfl,rfl,fun j s v h=> by cases h⟩
theorem RC.app {a b : List Kd} {c d : List Value} (h1 : RC F own w a c) (h2 : RC F own w b d) : RC F own w (a ++ b) (c ++ d) :=by
 obtain ⟨l,f1,n1,r1⟩ :=h1
 obtain ⟨m,f2,n2,r2⟩ :=h2
 refine ⟨l ++ m,Ak f1 f2,by simp [n1,n2],fun j s v hs hv=> ?_⟩
 by_cases hj : j < l.length
 ·rw [List.getElem?_append_left hj] at hs
  rw [List.getElem?_append_left (by omega)] at hv
  exact r1 j s v hs hv
 ·rw [List.getElem?_append_right (by omega)] at hs
  rw [List.getElem?_append_right (by omega),←n1] at hv
  exact r2 _ s v hs hv
theorem RC.one {k : Kd} {s : SV} {v : Value} (h1 : fit k s=true) (h2 : Rel F own w s v) : RC F own w [k] [v] :=
 ⟨[s],by simp [li,h1],rfl,fun j s' v' hs hv=> by
  cases j with
  | zero=> simp only [List.getElem?_cons_zero,Option.some.injEq] at hs hv;subst hs;subst hv;exact h2
  | succ j=> simp at hs⟩
end
def Qg : Kd→Kd→Bool
 | .s,.s=> true
 | .b,.b=> true
 | .n a,.n b=> decide (a=b)
 | .r a,.r b=> decide (a=b)
 | .m a c,.m b d=> decide (a=b) && decide (c=d)
 | _,_=> false
theorem Nv : ∀ {a b : Kd},Qg a b=true→a=b:=by
 intro a b h
 cases a <;> cases b <;> simp_all [Qg]
def Je : List Kd→List Kd→Bool
 | [],[] => true
 | a :: l,b :: m=> Qg a b && Je l m
 | _,_=> false
theorem D1 : ∀ {a b : List Kd},Je a b=true→a=b
 | [],[],_=> rfl
 | a :: l,b :: m,h=> by
  simp only [Je,Bool.and_eq_true] at h
  rw [Nv h.1,D1 h.2]
def u9 (P : Program) (g : TypeId→Option (List Kd)) : List Field→Nat→Nat→Option (List Kd)
 | [],off,tot=> bif Nat.beq off tot then some [] else none
 | f :: r,off,tot=> match g f.type with
  | some a=> bif Nat.beq f.offset off && Nat.beq a.length (P.cellsOf f.type) then (u9 P g r (off + a.length) tot).map (a ++ ·) else none
  | none=> none
def BC (a : List Kd) : Nat→List Kd
 | 0=> []
 | n + 1=> a ++ BC a n
def u_ (P : Program) : Nat→TypeId→Option (List Kd)
 | 0,_=> none
 | n + 1,t=> match P.underlying t with
  | some .bool=> some [.b]
  | some (.int k) => some [.n k]
  | some .string=> some [.s]
  | some (.slice e) => match yg P e,u_ P n e with
   | some k,some ks=> bif Je ks (cn k) && Nat.beq (P.cellsOf e) (aa k) && Nat.ble 1 (aa k) then some [.r k] else none
   | _,_=> none
  | some (.struct fs) => u9 P (u_ P n) fs.toList 0 (P.cellsOf t)
  | some (.array m e) => match u_ P n e with
   | some a=> bif Nat.beq a.length (P.cellsOf e) && Nat.beq (P.cellsOf t) (m * a.length) then some (BC a m) else none
   | none=> none
  | _=> none
section
variable {H : Type} {enc : TypeId×Value→H} {P : Program} {F : Nat→Prop} {own : Own} {w : World} {base : Nat} {spare : Nat→Bool} {held : Bool} {S : DataW H→Prop}
theorem D2 {g : TypeId→Option (List Kd)} (hg : ∀ t ks,g t=some ks→∀ (fuel : Nat) (cs : List Value) (x : DataW H×List MemPlace),DataW.trod enc P w base spare held fuel t cs=some x→S x.1→RC F own w ks cs)
  (fuel : Nat) (cs : List Value) : ∀ (fs : List Field) (off : Nat) (ks : List Kd),u9 P g fs off cs.length=some ks→(∀ f∈fs,∃ x,DataW.trod enc P w base spare held fuel f.type ((cs.drop f.offset).take (P.cellsOf f.type))=some x∧S x.1)→RC F own w ks (cs.drop off)
 | [],off,ks,h,_=> by
  unfold u9 at h
  cases hb : Nat.beq off cs.length with
  | false=> rw [hb] at h;cases h
  | true=>
   rw [hb] at h
   have : off=cs.length:=Nat.eq_of_beq_eq_true hb
   subst this
   cases h
   rw [List.drop_length]
   exact RC.nil
 | f :: r,off,ks,h,hx=> by
  unfold u9 at h
  cases ha : g f.type with
  | none=> rw [ha] at h;cases h
  | some a=>
   rw [ha] at h
   dsimp only at h
   cases hb : Nat.beq f.offset off && Nat.beq a.length (P.cellsOf f.type) with
   | false=> rw [hb] at h;cases h
   | true=>
    rw [hb] at h
    simp only [cond_true,Option.map_eq_some_iff] at h
    obtain ⟨ks2,h2,rfl⟩ :=h
    rw [Bool.and_eq_true] at hb
    have e1 : f.offset=off:=Nat.eq_of_beq_eq_true hb.1
    have e2 : a.length=P.cellsOf f.type:=Nat.eq_of_beq_eq_true hb.2
    obtain ⟨x,hx1,hs1⟩ :=hx f (by simp)
    have h3:=hg _ _ ha _ _ _ hx1 hs1
    have h4:=D2 hg fuel cs r (off + a.length) ks2 h2 fun f hf=> hx f (by simp [hf])
    have:=h3.app h4
    rw [e1,←e2] at this
    rwa [←List.drop_drop,List.take_append_drop] at this
theorem D3 {e : TypeId} {a : List Kd} (ha : ∀ (fuel : Nat) (cs : List Value) (x : DataW H×List MemPlace),DataW.trod enc P w base spare held fuel e cs=some x→S x.1→RC F own w a cs)
  (fuel : Nat) : ∀ (m : Nat) (cs : List Value),cs.length=m * a.length→(∀ i,i < m→∃ x,DataW.trod enc P w base spare held fuel e ((cs.drop (i * a.length)).take a.length)=some x∧S x.1)→RC F own w (BC a m) cs
 | 0,cs,h,_=> by
  have : cs=[] :=by simpa using h
  subst this
  exact RC.nil
 | m + 1,cs,h,hx=> by
  obtain ⟨x,hx1,hs1⟩ :=hx 0 (by omega)
  rw [Nat.zero_mul,List.drop_zero] at hx1
  have h3:=ha _ _ _ hx1 hs1
  have h4:=D3 ha fuel m (cs.drop a.length) (by rw [List.length_drop,h,Nat.succ_mul];omega) fun i hi=> by
   obtain ⟨x,hx2,hs2⟩ :=hx (i + 1) (by omega)
   refine ⟨x,?_,hs2⟩
   rw [List.drop_drop]
   rwa [Nat.succ_mul,Nat.add_comm] at hx2
  have:=h3.app h4
  rwa [List.take_append_drop] at this
structure Small (S : DataW H→Prop) : Prop where
 agg : ∀ l,S (.agg l)→∀ d∈l,S d
 slice : ∀ l m,S (.slice l m)→l.length≤bC∧∀ d∈l,S d
theorem iQ (hS : Small S) (hown : ∀ b,¬ bH F own b) : ∀ (n : Nat) (t : TypeId) (ks : List Kd),u_ P n t=some ks→∀ (fuel : Nat) (cs : List Value) (x : DataW H×List MemPlace),DataW.trod enc P w base spare held fuel t cs=some x→S x.1→RC F own w ks cs
 | 0,_,_,h,_,_,_,_,_=> by cases h
 | n + 1,t,ks,h,fuel,cs,x,hx,hs=> by
  unfold u_ at h
  split at h
  ·rename_i ht
   cases h
   obtain ⟨b,rfl,rfl⟩ :=DataW.trod_bool ht hx
   exact RC.one (s:= .v (.bool b)) rfl (.v _)
  ·rename_i k ht
   cases h
   obtain ⟨m,rfl,rfl,_⟩ :=DataW.trod_int ht hx
   exact RC.one (s:= .v (.int k m)) (by simp [fit]) (.v _)
  ·rename_i ht
   cases h
   obtain ⟨b,rfl,rfl,_⟩ :=DataW.trod_string ht hx
   exact RC.one (s:= .v (.string b)) rfl (.v _)
  ·rename_i e ht
   split at h
   ·rename_i k ks2 hk hks
    cases hb : Je ks2 (cn k) && Nat.beq (P.cellsOf e) (aa k) && Nat.ble 1 (aa k) with
    | false=> rw [hb] at h;cases h
    | true=>
     rw [hb] at h
     cases h
     simp only [Bool.and_eq_true] at hb
     have e1:=D1 hb.1.1
     have e2 : P.cellsOf e=aa k:=Nat.eq_of_beq_eq_true hb.1.2
     have e3 : 1≤aa k:=Nat.le_of_ble_eq_true hb.2
     subst e1
     rcases open_slice ht hx with ⟨rfl,rfl⟩ | ⟨a,len,cap,m,f2,D,Pl,rfl,hb1,hl,hm,hmm,rfl,hel⟩
     ·exact RC.one (s:= .rs k []) (by simp [fit]) .rs0
     ·have hlm : len≤m:=by subst hmm;split <;> omega
      obtain ⟨hs1,hs2⟩ :=hS.slice _ _ hs
      simp only [List.length_map,List.length_range] at hs1
      have helt : ∀ i,i < len→∃ cs',cs'.length=aa k∧(∀ j v,cs'[j]? =some v→w.cell? ((a.add (i * aa k)).add j)=some v)∧RC F own w (cn k) cs':=fun i hi=> by
       obtain ⟨cs',h1,h2⟩ :=hel i (by omega)
       have h3:=iQ hS hown n e (cn k) hks f2 cs' _ h2 (hs2 _ (List.mem_map_of_mem (List.mem_range.2 hi)))
       unfold World.cells? at h1
       split at h1
       ·refine ⟨cs',by rw [mapM_some_length h1,List.length_range,e2],fun j v hj=> ?_,h3⟩
        have hlt : j < P.cellsOf e:=by
         have:=(List.getElem?_eq_some_iff.1 hj).1
         rwa [mapM_some_length h1,List.length_range] at this
        have:=mapM_some_get h1 j j (by simp [hlt])
        rw [e2] at this
        rw [this,hj]
       ·cases h1
      by_cases h0 : len=0
      ·subst h0
       exact RC.one (s:= .rs k []) (by simp [fit]) .rs0
      ·have hsp : a.spot=none:=by
        obtain ⟨cs',h1,h2,_⟩ :=helt 0 (by omega)
        have:=h2 0 (cs'[0]'(by omega)) (by rw [List.getElem?_eq_getElem])
        rw [Nat.zero_mul] at this
        simp only [Addr.add,if_true] at this
        unfold World.cell? at this
        split at this
        ·cases hsp : a.spot with
         | none=> rfl
         | some q=> rw [hsp] at this;simp at this
        ·cases this
       obtain ⟨ab,ao,asp⟩ :=a
       dsimp only at hsp
       subst hsp
       haveI : Inhabited k.T:=⟨dc k⟩
       obtain ⟨X,hX⟩ :=choose_lt (p:=fun i (x : k.T) => ∀ (j : Nat) (s : SV),(cellsOf k x)[j]? =some s→∃ v,w.cell? ⟨ab,ao + i * aa k + j,none⟩=some v∧Rel F own w s v) (n:=len) fun i hi=> by
        obtain ⟨cs',h1,h2,l,h3,h4,h5⟩ :=helt i hi
        refine ⟨mkE k l,fun j s hj=> ?_⟩
        rw [jf (k:=k) (l:=l) (x:=mkE k l) (by unfold lj;rw [h3];rfl)] at hj
        have hlt : j < cs'.length:=by
         have:=(List.getElem?_eq_some_iff.1 hj).1
         omega
        refine ⟨cs'[j],?_,h5 j s _ hj (List.getElem?_eq_getElem hlt)⟩
        have:=h2 j cs'[j] (List.getElem?_eq_getElem hlt)
        have hadd : ∀ p q,((⟨ab,ao,none⟩ : Addr).add p).add q=⟨ab,ao + p + q,none⟩ :=fun p q=> by
         unfold Addr.add
         by_cases hp : p=0 <;> by_cases hq : q=0 <;> simp [hp,hq]
        rwa [hadd] at this
       have hL : ((List.range len).map X).length=len:=by simp
       refine RC.one (s:= .rs k ((List.range len).map X)) (by simp [fit]) ?_
       have hget : ∀ (i : Nat) (x : k.T),((List.range len).map X)[i]? =some x→i < len∧x=X i:=fun i x hi=> by
        obtain ⟨h1,h2⟩ :=List.getElem?_eq_some_iff.1 hi
        rw [hL] at h1
        simp only [List.getElem_map,List.getElem_range] at h2
        subst h2
        exact ⟨h1,rfl⟩
       have:=Rel.rs (F:=F) (own:=own) (w:=w) (k:=k) (l:=(List.range len).map X) (b:=ab) (o:=ao) (cap:=cap) (fun i j=> (w.cell? ⟨ab,ao + i * aa k + j,none⟩).getD undef) (by rw [hL];exact hl) (by rw [hL];exact hs1)
        (fun i x hi j s hj=> by
         obtain ⟨h1,rfl⟩ :=hget i x hi
         obtain ⟨v,h2,_⟩ :=hX i h1 j s hj
         exact ⟨hown _,by rw [h2];rfl⟩)
        (fun i x hi j s hj=> by
         obtain ⟨h1,rfl⟩ :=hget i x hi
         obtain ⟨v,h2,h3⟩ :=hX i h1 j s hj
         rw [h2];exact h3)
       rwa [hL] at this
   ·cases h
  ·rename_i fs ht
   obtain ⟨xs,m,rfl,rfl,hl,hlen,hf⟩ :=DataW.trod_struct ht hx
   rw [←hl] at h
   have:=D2 (iQ hS hown n) m cs fs.toList 0 ks h fun f hfm=> by
    obtain ⟨i,hi,rfl⟩ :=List.getElem_of_mem hfm
    have hi' : i < fs.size:=by simpa using hi
    have h1:=hf i fs[i] (by simp [hi'])
    rw [List.getElem?_eq_getElem (by omega)] at h1
    refine ⟨_,by simpa using h1,hS.agg _ hs _ (List.mem_map_of_mem (List.getElem_mem _))⟩
   simpa using this
  ·rename_i m e ht
   split at h
   ·rename_i a ha
    cases hb : Nat.beq a.length (P.cellsOf e) && Nat.beq (P.cellsOf t) (m * a.length) with
    | false=> rw [hb] at h;cases h
    | true=>
     rw [hb] at h
     cases h
     rw [Bool.and_eq_true] at hb
     have e1 : a.length=P.cellsOf e:=Nat.eq_of_beq_eq_true hb.1
     have e2 : P.cellsOf t=m * a.length:=Nat.eq_of_beq_eq_true hb.2
     obtain ⟨xs,f2,rfl,rfl,hl,hlen,hf⟩ :=DataW.trod_array ht hx
     refine D3 (iQ hS hown n e a ha) f2 m cs (by rw [hl,e2]) fun i hi=> ?_
     have h1:=hf i hi
     rw [List.getElem?_eq_getElem (by omega),←e1] at h1
     exact ⟨_,h1,hS.agg _ hs _ (List.mem_map_of_mem (List.getElem_mem _))⟩
   ·cases h
  ·cases h
end
end Go.Sx
end
section
namespace Go.Sx
open Go.Proofs
section
variable {F : Nat→Prop} {own : Own} {w : World}
theorem Nw {k : Tag} {cs : Array Value} (h : RC F own w (cn k) cs.toList) : ∃ x : k.T,Rel F own w (.agg (cellsOf k x)) (.agg cs) :=by
 obtain ⟨l,h3,h4,h5⟩ :=h
 refine ⟨mkE k l,?_⟩
 rw [jf (k:=k) (l:=l) (x:=mkE k l) (by unfold lj;rw [h3];rfl)]
 refine .agg (by simpa using h4.symm) fun j s hj=> ?_
 have hlt : j < cs.size:=by
  have:=(List.getElem?_eq_some_iff.1 hj).1
  simpa [h4] using this
 exact h5 j s _ hj (by simp [Array.getD,hlt])
theorem Jf {k : Tag} {v : Value} (h : RC F own w [.r k] [v]) : ∃ l : List k.T,Rel F own w (.rs k l) v:=by
 obtain ⟨l,h3,h4,h5⟩ :=h
 obtain ⟨x,r,rfl,h6,h7⟩ :=iG h3
 have h8:=h5 0 x v rfl rfl
 cases x with
 | rs k' l'=>
  have : k=k':=by
   simp only [fit] at h6
   exact m_ h6
  subst this
  exact ⟨l',h8⟩
 | _=> simp [fit] at h6
end
end Go.Sx
end
section
namespace Go.Sx
open Go.RowKit Go.WideShapes Go.ChangeShapes
section
variable {H : Type} {enc : TypeId×Value→H} {P : Program}
def Nx (P : Program) : List TypeId→Bool
 | [] => true
 | t :: r=> P.readableRec t && Nat.blt t P.types.size && Nx P r
theorem wL (hl : laidOutB P=true) {W W' : World} (hg : Below W.heap.size W W') : ∀ {ts : List TypeId} {vs : List Value} {ds : List (DataW H)} {ps : List MemPlace},Nx P ts=true→
  DataW.TrodAll enc P W 0 (fun _=> true) true ts vs ds ps→(∀ x∈ps,x.block < W.heap.size)→DataW.TrodAll enc P W' 0 (fun b=> decide (b < W.heap.size)) true ts vs ds ps
 | [],vs,ds,ps,_,h,_=> by
  obtain ⟨rfl,rfl,rfl⟩ :=trodAll_nil h
  exact trodAll_mk0
 | t :: ts,vs,ds,ps,hk,h,hlt=> by
  unfold Nx at hk
  rw [Bool.and_eq_true,Bool.and_eq_true] at hk
  obtain ⟨v,vs',d,ds',p,q,rfl,rfl,rfl,h1,h2⟩ :=trodAll_cons h
  refine trodAll_cons_mk (WideElems.Trod_stays hl hk.1.1 (by simpa [Nat.blt_eq] using hk.1.2) h1 (fun x hx=> hg.same (hlt x (List.mem_append_left _ hx))) (fun x hx=> by simpa using hlt x (List.mem_append_left _ hx))) ?_
  exact wL hl hg hk.2 h2 fun x hx=> hlt x (List.mem_append_right _ hx)
theorem Jg (hl : laidOutB P=true) {f : Func} {s : ChangeSpec} {W W' : World} {args : Array Value} {ds gs : List (DataW H)} {before : List MemPlace} {t : TypeId}
  (hk : Nx P f.params.toList=true) (hW : DataW.Whole enc P f.params.toList s.vars false W args.toList ds gs before)
  (hr : f.resultTypes= #[t]) (ht : P.underlying t=some .bool) (hv : s.vars=[]) (h1 : (s.fn H (ds ++ gs)).results=[.lit (.bool true)]) (h2 : (s.fn H (ds ++ gs)).args=ds) (h3 : (s.fn H (ds ++ gs)).vars=[])
  (hg : Below W.heap.size W W') : s.post enc P f false true false false W args (.bool true) W':=by
 have hlt:=hW.lt
 have hW0:=hW
 obtain ⟨p,q,hA,hV,rfl,_,_⟩ :=hW
 rw [hv] at hV
 obtain ⟨rfl,rfl⟩ :=trodVars_none hV
 refine ⟨ds,[],p ++ [],[],p,[],hW0,?_,?_,?_,?_,fun h=> by cases h⟩
 ·rw [h1,hr]
  exact trodAll_cons_mk (shut_bool ht _) trodAll_mk0
 ·rw [h2]
  exact wL hl hg hk hA fun x hx=> hlt x (by simpa using hx)
 ·rw [h3,hv]
  rfl
 ·exact World.keptBut_mono (fun x hx=> ⟨hx,.inr (.inl (by simpa using hx))⟩) (hg.frame (· ∈p ++ []))
end
end Go.Sx
end
section
namespace Go.Proofs.YtagjakphhkfofaaGreat.bulks
theorem one_le {H : Type} (d : DataW H) : 1≤Rows.uptoBulk d:=by
 cases d with
 | lit l=> cases l <;> simp [Rows.uptoBulk]
 | nil=> simp [Rows.uptoBulk]
 | ptr d=> simp [Rows.uptoBulk]
 | slice jD spare=> simp [Rows.uptoBulk]
 | agg parts=> simp [Rows.uptoBulk]
 | iface t d=> simp [Rows.uptoBulk]
 | map entries=> simp [Rows.uptoBulk]
 | held h=> simp [Rows.uptoBulk]
theorem part_le {H : Type} {d : DataW H} {l : List (DataW H)} (h : d∈l) : Rows.uptoBulk d≤Rows.uptoBulkAll l:=by
 induction l with
 | nil=> cases h
 | cons x r ih=>
  simp only [Rows.uptoBulkAll]
  cases List.mem_cons.1 h with
  | inl e=> subst e;omega
  | inr e=> have:=ih e;omega
theorem append {H : Type} (l r : List (DataW H)) : Rows.uptoBulkAll (l ++ r)=Rows.uptoBulkAll l + Rows.uptoBulkAll r:=by
 induction l with
 | nil=> simp [Rows.uptoBulkAll]
 | cons x l ih=> simp only [List.cons_append,Rows.uptoBulkAll,ih];omega
theorem length_le {H : Type} (l : List (DataW H)) : l.length≤Rows.uptoBulkAll l:=by
 induction l with
 | nil=> simp [Rows.uptoBulkAll]
 | cons x r ih=> have:=one_le x;simp only [Rows.uptoBulkAll,List.length_cons];omega
theorem slice_le {H : Type} (jD spare : List (DataW H)) : jD.length + spare.length + 1≤Rows.uptoBulk (.slice jD spare) :=by
 have h1:=length_le jD
 have h2:=length_le spare
 simp only [Rows.uptoBulk]
 omega
theorem slice_elems {H : Type} (jD spare : List (DataW H)) : Rows.uptoBulkAll jD + 1≤Rows.uptoBulk (.slice jD spare) :=by
 simp only [Rows.uptoBulk]
 omega
theorem bound {H : Type} {l : List (DataW H)} (hk : Rows.uptoSmall H l=true) : Rows.uptoBulkAll l≤1048576:=by
 simpa [Rows.uptoSmall] using hk
theorem room {n b : Nat} (hn : n≤2097152) (hb : b≤4096) : (n + n / 4 + 192) * b≤281474976710656:=by
 have h : (n + n / 4 + 192) * b≤2621632 * 4096:=Nat.mul_le_mul (by omega) hb
 omega
end Go.Proofs.YtagjakphhkfofaaGreat.bulks
end
section
namespace Go.Proofs.YtagjakphhkfofaaGreat.certifyLeast
open Go.ChangeShapes Go.WideShapes Go.ChangeAt Go.RowKit Go.Sx
set_option linter.unusedVariables false
theorem con_eq (x0 : Tag.district.T) (x1 : List Tag.claim.T) (x2 : List Tag.order.T) : f0 [.agg (cellsOf .district x0),.rs .claim x1,.rs .order x2]=some (.det (eL x0 x1 x2) (.v (.bool (dG x0 x1 x2)))) :=by
 unfold f0
 simp only [go_sem,Nat.reduceBEq]
theorem call_true {W : World} {cs0 : Array Value} (h0 : RC (fun _=> False) bV W (cn .district) cs0.toList) {v1 : Value} (h1 : RC (fun _=> False) bV W [.r .claim] [v1]) {v2 : Value} (h2 : RC (fun _=> False) bV W [.r .order] [v2]) :
  Calls Tryz.prog 9 #[.agg cs0,v1,v2] W (fun e W'=> e= .returned (.bool true)∧Below W.heap.size W W') :=by
 obtain ⟨x0,r0⟩ :=Nw h0
 obtain ⟨x1,r1⟩ :=Jf h1
 obtain ⟨x2,r2⟩ :=Jf h2
 refine (mR.calls _ _ (con_eq x0 x1 x2) (Jd x0 x1 x2) (fun _=> False) W _ (fun b h=> h.elim) ⟨rfl,fun j s hj=> ?_⟩).mono fun e W' he=> ?_
 ·match j,hj with
  | 0,hj=> cases hj;exact r0
  | 1,hj=> cases hj;exact r1
  | 2,hj=> cases hj;exact r2
 ·rcases he with ⟨s,u,own',hs,rfl,hh,hb⟩ | ⟨x,hx,_⟩
  ·simp only [cp] at hs
   subst hs
   rw [Nu x0 x1 x2] at hh
   have:=hh.val
   simp only [nj] at this
   rw [bE this]
   exact ⟨rfl,hb⟩
  ·exact hx.elim
theorem own : ownKnob Tryz.prog.godebug=none:=by kernel_rfl
theorem small (H : Type) : Small (fun d : DataW H=> Rows.uptoBulk d≤1048576) where
 agg l h d hd:=by
  have h1:=bulks.part_le hd
  simp only [Rows.uptoBulk] at h
  omega
 slice l m h:=by
  have h1:=bulks.slice_le l m
  have h2:=bulks.slice_elems l m
  refine ⟨by unfold bC;omega,fun d hd=> ?_⟩
  have:=bulks.part_le hd
  omega
theorem laid : laidOutB Tryz.prog=true:=by kernel_rfl
set_option maxRecDepth 100000 in
theorem contract (H : Type) (enc : TypeId×Value→H) (W : World) (base : Nat) (args : Array Value) (ds gs : List (DataW H)) (before : List MemPlace)
  (hval : ∀ (j : Nat) t v,Tryz.f9.params[j]? =some t→args[j]? =some v→Value.okWide Tryz.prog W .any base t v)
  (hW : DataW.Whole enc Tryz.prog Tryz.f9.params.toList Rows.certifyLeastSpec.vars false W args.toList ds gs before) (hk : Rows.uptoSmall H (ds ++ gs)=true) :
  Calls Tryz.prog 9 args W fun e W'=> ∃ v,e= .returned v∧Rows.certifyLeastSpec.post enc Tryz.prog Tryz.f9 false true false false W args v W':=by
 have hW':=hW
 obtain ⟨p,q,hA0,hV,rfl,hfz,hnd⟩ :=hW
 have hA : DataW.TrodAll enc Tryz.prog W 0 (fun _=> true) true Tryz.f9.params.toList args.toList ds p:=hA0
 rw [Tryz.params9] at hA hval
 obtain ⟨v0,vs0,d0,ds0,p0,q0,hargs,rfl,rfl,h0,r0⟩ :=trodAll_cons hA
 obtain ⟨v1,vs1,d1,ds1,p1,q1,rfl,rfl,rfl,h1,r1⟩ :=trodAll_cons r0
 obtain ⟨v2,vs2,d2,ds2,p2,q2,rfl,rfl,rfl,h2,r2⟩ :=trodAll_cons r1
 obtain ⟨rfl,rfl,rfl⟩ :=trodAll_nil r2
 obtain rfl : args= #[v0,v1,v2] :=by cases args;simp_all
 obtain ⟨rfl,rfl⟩ :=trodVars_none hV
 have hb:=bulks.bound hk
 simp only [Rows.uptoBulkAll,List.append_nil,List.cons_append,List.nil_append] at hb
 have ho : ∀ b,¬ bH (fun _=> False) bV b:=fun b h=> by
  rcases h with h | ⟨_,_,h,_⟩
  ·exact h
  ·cases h
 have s0 : ∃ cs,v0= .agg cs:=by
  have:=hval 0 31 v0 rfl rfl
  simp only [Value.okWide,Tryz.underlying31] at this
  exact ⟨_,this.choose_spec.1⟩
 obtain ⟨cs0,rfl⟩ :=s0
 obtain ⟨a1,l1,c1,rfl⟩ :=okWide_slice Tryz.underlying32 (hval 1 32 v1 rfl rfl)
 obtain ⟨a2,l2,c2,rfl⟩ :=okWide_slice Tryz.underlying35 (hval 2 35 v2 rfl rfl)
 have R0 : RC (fun _=> False) bV W (cn .district) cs0.toList:=by
  obtain ⟨f,hf⟩ :=h0
  exact iQ (n:=6) (t:=31) (small H) ho _ (by kernel_rfl) f _ _ hf (by show Rows.uptoBulk d0≤_;omega)
 have R1 : RC (fun _=> False) bV W [.r .claim] [.slice a1 l1 c1] :=by
  obtain ⟨f,hf⟩ :=h1
  exact iQ (n:=6) (t:=32) (small H) ho _ (by kernel_rfl) f _ _ hf (by show Rows.uptoBulk d1≤_;omega)
 have R2 : RC (fun _=> False) bV W [.r .order] [.slice a2 l2 c2] :=by
  obtain ⟨f,hf⟩ :=h2
  exact iQ (n:=6) (t:=35) (small H) ho _ (by kernel_rfl) f _ _ hf (by show Rows.uptoBulk d2≤_;omega)
 refine (call_true R0 R1 R2).mono fun e W' ⟨he,hg⟩ => ?_
 subst he
 exact ⟨_,rfl,Jg laid (by kernel_rfl) hW' (by kernel_rfl) Tryz.underlying4 rfl rfl rfl rfl hg⟩
def zeroV : Kd→Value
 | .n k=> .int k 0
 | .b=> .bool false
 | .s=> .string (ByteArray.mk #[])
 | .r _=> .slice none 0 0
 | .m _ _=> .map none
def wit : Array Value:= #[.agg ((cn .district).map zeroV).toArray,.slice none 0 0,.slice none 0 0]
set_option maxRecDepth 100000 in
theorem lifted (os : Os) (started : os.Started) (H : Type) (enc : TypeId×Value→H) (F : Stop.Interp) :
  ReturnsInHanded {} Tryz.checked os 9 .any ((Rows.OpenSpec.upto Rows.certifyLeastSpec).pre6 enc Tryz.prog Tryz.f9 Rows.certifyLeastUptoRow.domain false) (((Rows.OpenSpec.upto Rows.certifyLeastSpec).at F).post enc Tryz.prog Tryz.f9 false true false false) :=by
 refine returnsInHanded_of_cond (C:=Tryz.checked) (s:=Rows.OpenSpec.upto Rows.certifyLeastSpec) (k:=Rows.uptoSmall) rfl own started (by kernel_rfl) Tryz.func9
  (OpenSpec.witness (enc:=enc) (C:=Tryz.checked) (s:=Rows.OpenSpec.upto Rows.certifyLeastSpec) (k:=Rows.uptoSmall) rfl false ⟨#[],wit,[]⟩ 8 (by kernel_rfl) (by kernel_rfl) (by kernel_rfl)
   (x:=(DataW.whole enc Tryz.prog (World.plainHolding Tryz.prog os ⟨#[],wit,[]⟩).memory Tryz.f9.params.toList Rows.certifyLeastSpec.vars false wit.toList 8).getD ([],[],[])) (by kernel_rfl) rfl (by kernel_rfl)) ?_
 intro W base args ds gs before hval hW _ hk _
 exact contract H enc W base args ds gs before hval hW hk
theorem over : Rows.certifyLeastUptoRow.holds Tryz.pinned (Rows.OpenSpec.upto Rows.certifyLeastSpec) :=
 OpenClaim.holds_of_cond 9 Tryz.f9 rfl rfl rfl rfl rfl rfl rfl ⟨rfl,rfl,rfl,rfl,rfl⟩ rfl rfl rfl rfl rfl (by kernel_rfl) Tryz.func9 (by kernel_rfl)
  (of_decide_eq_true (by kernel_rfl)) (by unfold Func.isWrapper;first | (rw [if_pos (by decide +kernel)];kernel_rfl) | (rw [if_neg (by decide +kernel)];exact ⟨rfl,rfl⟩))
  (fun os started H enc _ F=> lifted os started H enc F)
theorem proved : Rows.CertifyLeastUptoSaid:=over
end Go.Proofs.YtagjakphhkfofaaGreat.certifyLeast
end
