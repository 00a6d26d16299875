/- Part of the proof that the law TimetableSenior returns true and leaves its arguments as they were, for all arguments of bulk at most 1048576 (the Upto form). -/
import Derived.Test.YtagjakphhkfofaaGreatC507
import Derived.Sort.Statements
import Derived.Shelf.SlSortCmp.Insertion
import Derived.Calls
import Derived.Shelf.SlSortCmp.NoneTotal
set_option linter.all false
section
namespace Go.Sx
open Go.Proofs
set_option maxRecDepth 100000
set_option linter.unusedSimpArgs false
theorem AL {p : Prop} (h : p:=by (first | done | (repeat' (first | with_reducible refine And.intro ?_ ?_ | ((with_reducible show _≠_);first | assumption | omega | (simp_all [aG,aM];done) | grind) | with_reducible intro _)) <;> (first | done | exact Empty.elim ‹Empty› | assumption | rfl | omega | decide | exact fk [0] | (simp only [*,cond_true,cond_false,Bool.not_true,Bool.not_false,go_sem,Nat.reduceBEq,Nat.reduceLeDiff,Nat.reduceLT,decide_true,Nat.reduceAdd,Nat.reduceSub,Nat.reduceMul,Int.reduceLE,Int.reduceLT,Int.reduceToNat,Int.reduceNeg,reduceCtorEq];done) | (simp only [*,cond_true,cond_false,Bool.not_true,Bool.not_false,go_sem,Nat.reduceBEq,Nat.reduceLeDiff,Nat.reduceLT,decide_true,Nat.reduceAdd,Nat.reduceSub,Nat.reduceMul,Int.reduceLE,Int.reduceLT,Int.reduceToNat,Int.reduceNeg,reduceCtorEq];(repeat' (first | with_reducible refine And.intro ?_ ?_ | ((with_reducible show _≠_);first | assumption | omega | (simp_all [aG,aM];done) | grind) | with_reducible intro _)) <;> (first | done | assumption | rfl | omega | decide | exact fk [0] | (simp_all [aG,aM];done))) | (simp_all [okI,aG,aM];done) | (simp_all [aG,aM];(first | done | exact fk2 [0])) | exact fk2 [0]))) : p:=h
theorem oQ {p : Prop} (h : p:=by simp only [go_sem,Nat.reduceBEq,Nat.reduceLeDiff,Nat.reduceLT,decide_true,Nat.reduceAdd,Nat.reduceSub,Nat.reduceMul,Int.reduceLE,Int.reduceLT,Int.reduceToNat,Int.reduceNeg,reduceCtorEq,hc,hw];all_goals exact AL) : p:=h
theorem oR {p : Prop} (h : p:=by simp only [go_sem,Nat.reduceBEq,Nat.reduceLeDiff,Nat.reduceLT,decide_true,Nat.reduceAdd,Nat.reduceSub,Nat.reduceMul,Int.reduceLE,Int.reduceLT,Int.reduceToNat,Int.reduceNeg,reduceCtorEq,hc];all_goals exact AL) : p:=h
def fL (x : Int) : Bool:=(x !=x)
@[go_sem] def nV : List SV→Option Con:=(pI fun x=> (pE (.det True (.v (.bool (fL x))))))
theorem tq : FnOk Tryz.prog 113 nV:=by
 have hG : ConsOk Tryz.prog (mkG [] []) :=aQ cg0 cg0
 refine a8 [.o] mixed aH hG (fn:=Tryz.f113) (c:=an Tryz.f113) (by kernel_rfl) (by kernel_rfl) (by kernel_rfl) (by kernel_rfl) (eo fun x=> (aN (fun hp=> ?_)))
 dsimp only [aT] at hp
 refine ⟨Nat.le_of_ble_eq_true rfl,L0,ay _,?_⟩
 ·unfold an Tryz.f113
  try unfold fL
  simp only [go_sem,Nat.reduceBEq,Nat.reduceLeDiff,Nat.reduceLT,decide_true,Nat.reduceAdd,Nat.reduceSub,Nat.reduceMul,Int.reduceLE,Int.reduceLT,Int.reduceToNat,Int.reduceNeg,reduceCtorEq]
  all_goals exact cl
def aS (x : Int) (y : Int) : Int:=(bif (fL x) then (bif (fL y) then 0 else (-1)) else (bif (fL y) then 1 else (bif (decide (x < y)) then (-1) else (bif (decide (x > y)) then 1 else 0))))
@[go_sem] def cA : List SV→Option Con:=(pI fun x=> (pI fun y=> (pE (.det True (.v (.int .i64 (aS x y)))))))
theorem c7 : FnOk Tryz.prog 70 cA:=by
 have hG : ConsOk Tryz.prog (mkG [(113,nV)] []) :=aQ (cgc tq cg0) cg0
 refine a8 [.o] mixed aH hG (fn:=Tryz.f70) (c:=an Tryz.f70) (by kernel_rfl) (by kernel_rfl) (by kernel_rfl) (by kernel_rfl) (eo fun x=> (eo fun y=> (aN (fun hp=> ?_))))
 dsimp only [aT] at hp
 refine ⟨Nat.le_of_ble_eq_true rfl,L0,ay _,?_⟩
 ·unfold an Tryz.f70
  try unfold aS
  simp only [go_sem,Nat.reduceBEq,Nat.reduceLeDiff,Nat.reduceLT,decide_true,Nat.reduceAdd,Nat.reduceSub,Nat.reduceMul,Int.reduceLE,Int.reduceLT,Int.reduceToNat,Int.reduceNeg,reduceCtorEq]
  all_goals exact cl
def eL (n : Int) : Int:=(bif (decide (n < 0)) then (IntKind.u64.wrap (0 - (IntKind.u64.wrap n))) else (IntKind.u64.wrap n))
@[go_sem] def mc : List SV→Option Con:=(pI fun n=> (pE (.det True (.v (.int .u64 (eL n))))))
theorem ra : FnOk Tryz.prog 176 mc:=by
 have hG : ConsOk Tryz.prog (mkG [] []) :=aQ cg0 cg0
 refine a8 [.o] mixed aH hG (fn:=Tryz.f176) (c:=an Tryz.f176) (by kernel_rfl) (by kernel_rfl) (by kernel_rfl) (by kernel_rfl) (eo fun n=> (aN (fun hp=> ?_)))
 dsimp only [aT] at hp
 refine ⟨Nat.le_of_ble_eq_true rfl,L0,ay _,?_⟩
 ·unfold an Tryz.f176
  try unfold eL
  simp only [go_sem,Nat.reduceBEq,Nat.reduceLeDiff,Nat.reduceLT,decide_true,Nat.reduceAdd,Nat.reduceSub,Nat.reduceMul,Int.reduceLE,Int.reduceLT,Int.reduceToNat,Int.reduceNeg,reduceCtorEq]
  all_goals exact cl
def cd (a : Ratio) : Int:=(bif (((((decide (a.d < 1)) || (decide (a.d > 1073741824))) || (decide (a.n < (-1073741824)))) || (decide (a.n > 1073741824))) || (((OX (Int.toNat (eL a.n)) (Int.toNat (IntKind.u64.wrap a.d)) : Nat) : Int) !=1)) then 120 else 0)
def qx (a : Ratio) : Prop:=(((((decide (a.d < 1)) || (decide (a.d > 1073741824))) || (decide (a.n < (-1073741824)))) || (decide (a.n > 1073741824)))=false→(0≤(eL a.n)∧0≤(IntKind.u64.wrap a.d)))
theorem wa (n : Int) : 0≤IntKind.u64.wrap n:=by
 simp [IntKind.wrap,IntKind.bits,IntKind.signed];omega
theorem tt (n : Int) : 0≤eL n:=by
 unfold eL
 cases decide (n < 0) <;> exact wa _
theorem wb (a : Ratio) : qx a:=fun _=> ⟨tt _,wa _⟩
@[go_sem] def jL : List SV→Option Con:=(pD .ratio fun a=> (pE (.det True (.v (.int .i64 (cd a))))))
theorem lr : FnOk Tryz.prog 152 jL:=by
 have hG : ConsOk Tryz.prog (mkG [(175,C83),(176,mc)] []) :=aQ (cgc R5 (cgc ra cg0)) cg0
 refine a8 [.o] mixed aH hG (fn:=Tryz.f152) (c:=an Tryz.f152) (by kernel_rfl) (by kernel_rfl) (by kernel_rfl) (by kernel_rfl) (bI fun a=> (aN (fun hp=> ?_)))
 dsimp only [aT] at hp
 have hp:=wb a
 unfold qx at hp
 refine ⟨Nat.le_of_ble_eq_true rfl,L0,ay _,?_⟩
 ·unfold an Tryz.f152
  try unfold cd
  simp only [go_sem,Nat.reduceBEq,Nat.reduceLeDiff,Nat.reduceLT,decide_true,Nat.reduceAdd,Nat.reduceSub,Nat.reduceMul,Int.reduceLE,Int.reduceLT,Int.reduceToNat,Int.reduceNeg,reduceCtorEq,C83]
  all_goals exact cl
def eM (a : Ratio) (b : Ratio) : Int×Int:=(bif (((cd a) !=0) || ((cd b) !=0)) then (0,120) else ((aS (IntKind.i64.wrap (a.n * b.d)) (IntKind.i64.wrap (b.n * a.d))),0))
@[go_sem] def oS : List SV→Option Con:=(pD .ratio fun a=> (pD .ratio fun b=> (pE (.det True (.tup [.v (.int .i64 ((eM a b).1)),.v (.int .i64 ((eM a b).2))])))))
theorem sd : FnOk Tryz.prog 151 oS:=by
 have hG : ConsOk Tryz.prog (mkG [(70,cA),(152,jL)] []) :=aQ (cgc c7 (cgc lr cg0)) cg0
 refine a8 [.o,.o] mixed aH hG (fn:=Tryz.f151) (c:=an Tryz.f151) (by kernel_rfl) (by kernel_rfl) (by kernel_rfl) (by kernel_rfl) (bI fun a=> (bI fun b=> (aN (fun hp=> ?_))))
 dsimp only [aT] at hp
 refine ⟨Nat.le_of_ble_eq_true rfl,L0,ay _,?_⟩
 ·unfold an Tryz.f151
  try unfold eM
  simp only [go_sem,Nat.reduceBEq,Nat.reduceLeDiff,Nat.reduceLT,decide_true,Nat.reduceAdd,Nat.reduceSub,Nat.reduceMul,Int.reduceLE,Int.reduceLT,Int.reduceToNat,Int.reduceNeg,reduceCtorEq]
  all_goals exact cl
def xk (ok : Bool) (e : Int) : Unit:=(bif (!ok) then default else ())
def bX (ok : Bool) (e : Int) : Bool:=(bif (!ok) then false else true)
@[go_sem] def kl : List SV→Option Con:=(pB fun ok=> (pI fun e=> (pE (.may (bX ok e) (.tup []) (.iface 169 (.int .i64 e))))))
theorem mU : FnOk Tryz.prog 75 kl:=by
 have hG : ConsOk Tryz.prog (mkG [] []) :=aQ cg0 cg0
 refine a8 [] mixed aH hG (fn:=Tryz.f75) (c:=an Tryz.f75) (by kernel_rfl) (by kernel_rfl) (by kernel_rfl) (by kernel_rfl) (R_ fun ok=> (eo fun e=> (aN (fun hp=> ?_))))
 dsimp only [aT] at hp
 refine ⟨Nat.le_of_ble_eq_true rfl,L0,ay _,?_⟩
 ·unfold an Tryz.f75
  try unfold xk
  try unfold bX
  simp only [go_sem,Nat.reduceBEq,Nat.reduceLeDiff,Nat.reduceLT,decide_true,Nat.reduceAdd,Nat.reduceSub,Nat.reduceMul,Int.reduceLE,Int.reduceLT,Int.reduceToNat,Int.reduceNeg,reduceCtorEq]
  all_goals exact cl
@[go_sem] def dc (l_ : List Int) (k_0 : Nat) (s_0 : Unit) : Unit⊕Unit:=(bif (decide ((l_.getD (Int.toNat ((k_0 : Int) + 1)) (0 : Int)) < (l_.getD (Int.toNat (IntKind.i64.wrap (((k_0 : Int) + 1) - 1))) (0 : Int)))) then .inl () else .inr ())
def fz (l_ : List Int) (k_0 : Nat) (s_0 : Unit) : Prop:=(l_.length≤bg→((0≤((k_0 : Int) + 1)∧((k_0 : Int) + 1) < (l_.length : Int))∧(0≤(IntKind.i64.wrap (((k_0 : Int) + 1) - 1))∧(IntKind.i64.wrap (((k_0 : Int) + 1) - 1)) < (l_.length : Int))))
def aR (l_ : List Int) : Bool:=(match az (dc l_) (l_.length - 1) 0 () with | .inl x_0_0=> false | .inr s_0=> true)
def nW (l_ : List Int) : Prop:=okI (dc l_) (fz l_) (l_.length - 1) 0 ()
theorem tu (l_ : List Int) : nW l_:=qb _ _ _ fun j s h1 h2 hm=> by
 unfold bg at hm
 rw [da (by omega) (by omega)]
 omega
@[go_sem] def h_ : List SV→Option Con:=(pR .int fun l_=> (pE (.det True (.v (.bool (aR l_))))))
set_option maxHeartbeats 4000000 in
theorem jw : FnOk Tryz.prog 117 h_:=by
 have hG : ConsOk Tryz.prog (mkG [] []) :=aQ cg0 cg0
 refine a8 [.o] mixed aH hG (fn:=Tryz.f117) (c:=an Tryz.f117) (by kernel_rfl) (by kernel_rfl) (by kernel_rfl) (by kernel_rfl) (dl fun l_=> (aN (fun hp=> ?_)))
 dsimp only [aT] at hp
 have hp:=tu l_
 unfold nW at hp
 refine ⟨Nat.le_of_ble_eq_true rfl,(fun id st=> bif Nat.beq id 0 then some (LC (ρ:=Unit) (σ:=Unit) (lk 0 st.t= .rs .int l_∧lk 3 st.t= .v (.int .i64 1)∧st.h=[]∧okI (dc l_) (fz l_) (l_.length - 1) 0 ()) (az (dc l_) (l_.length - 1) 0 ()) (fun _=> .ret) (fun x_0_0=> ⟨[(2,.v (.bool false))],[]⟩) (fun s_0=> ⟨[],[]⟩)) else none),?_,?_⟩
 ·unfold an Tryz.f117
  simp only [aA,true_and,and_true]
  ·refine x9 mixed aH hG (by kernel_rfl) fun st lc hC hp=> ?_
   simp only [go_sem,Nat.reduceBEq,Option.some.injEq] at hC
   subst hC
   obtain ⟨t,h⟩ :=st
   dsimp only [LC] at hp
   obtain ⟨e0_0,e0_1,rfl,hok0⟩ :=hp
   refine ⟨_,_,_,(dc l_),(fz l_),(l_.length - 1),(),_,_,_,(fun k_0 s_0=> ⟨[(0,.rs .int l_),(3,.v (.int .i64 ((k_0 : Int) + 1)))],[]⟩),[],rfl,hok0,Nat.le_refl _,?_,fun k_0 s_0 hk0 hp0=> ?_⟩
   ·simp only [go_sem,Nat.reduceBEq,Nat.reduceLeDiff,Nat.reduceLT,decide_true,Nat.reduceAdd,Nat.reduceSub,Nat.reduceMul,Int.reduceLE,Int.reduceLT,Int.reduceToNat,Int.reduceNeg,reduceCtorEq,e0_0,e0_1]
    all_goals (first | done | decide | (repeat' (first | refine And.intro ?_ ?_ | rfl | decide)))
   refine ⟨L0,?_,?_⟩
   ·simp only [aA,and_self,true_and,and_true]
   ·by_cases hb0 : l_.length≤bg
    rotate_left
    ·simp only [go_sem,Nat.reduceBEq,Nat.reduceLeDiff,Nat.reduceLT,decide_true,Nat.reduceAdd,Nat.reduceSub,Nat.reduceMul,Int.reduceLE,Int.reduceLT,Int.reduceToNat,Int.reduceNeg,reduceCtorEq,hb0]
    ·by_cases hlt0 : k_0 < (l_.length - 1)
     ·have hw0 : IntKind.i64.wrap (((k_0 : Nat) : Int) + 1 + 1)=((k_0 + 1 : Nat) : Int) + 1:=by (have hbb:=hb0;have hll:=hlt0;try unfold bg at hbb);rw [da (by omega) (by omega)];omega
      have hq0:=hp0 hlt0
      unfold fz at hq0
      replace hq0:=hq0 hb0
      try simp only [hw0,Int.toNat_natCast] at hq0
      have hc0 : decide (((k_0 : Int) + 1) < (l_.length : Int))=true:=by simp only [decide_eq_true_eq];omega
      simp only [go_sem,Nat.reduceBEq,Nat.reduceLeDiff,Nat.reduceLT,decide_true,Nat.reduceAdd,Nat.reduceSub,Nat.reduceMul,Int.reduceLE,Int.reduceLT,Int.reduceToNat,Int.reduceNeg,reduceCtorEq,dc,hc0,hw0]
      all_goals exact cl
     ·have hc0 : decide (((k_0 : Int) + 1) < (l_.length : Int))=false:=by simp only [decide_eq_false_iff_not];omega
      simp only [go_sem,Nat.reduceBEq,Nat.reduceLeDiff,Nat.reduceLT,decide_true,Nat.reduceAdd,Nat.reduceSub,Nat.reduceMul,Int.reduceLE,Int.reduceLT,Int.reduceToNat,Int.reduceNeg,reduceCtorEq,hc0]
      all_goals exact cl2
 ·unfold an Tryz.f117
  try unfold aR
  simp only [go_sem,Nat.reduceBEq,Nat.reduceLeDiff,Nat.reduceLT,decide_true,Nat.reduceAdd,Nat.reduceSub,Nat.reduceMul,Int.reduceLE,Int.reduceLT,Int.reduceToNat,Int.reduceNeg,reduceCtorEq]
  all_goals exact cl
def cB (i : Int) (n : Int) : Bool:=((decide (i≥0)) && (decide (i < n)))
@[go_sem] def iL : List SV→Option Con:=(pI fun i=> (pI fun n=> (pE (.det True (.v (.bool (cB i n)))))))
theorem km : FnOk Tryz.prog 119 iL:=by
 have hG : ConsOk Tryz.prog (mkG [] []) :=aQ cg0 cg0
 refine a8 [.o] mixed aH hG (fn:=Tryz.f119) (c:=an Tryz.f119) (by kernel_rfl) (by kernel_rfl) (by kernel_rfl) (by kernel_rfl) (eo fun i=> (eo fun n=> (aN (fun hp=> ?_))))
 dsimp only [aT] at hp
 refine ⟨Nat.le_of_ble_eq_true rfl,L0,ay _,?_⟩
 ·unfold an Tryz.f119
  try unfold cB
  simp only [go_sem,Nat.reduceBEq,Nat.reduceLeDiff,Nat.reduceLT,decide_true,Nat.reduceAdd,Nat.reduceSub,Nat.reduceMul,Int.reduceLE,Int.reduceLT,Int.reduceToNat,Int.reduceNeg,reduceCtorEq]
  all_goals exact cl
def fA (x : Ratio×Ratio) : Bool:=(((((eM x.1 x.2).2==0) && (decide (x.1.n≥0))) && (decide ((eM x.1 x.2).1≤0))) && (decide (x.2.n≤x.2.d)))
@[go_sem] def oT : List SV→Option Con:=(pD .ratio2 fun x=> (pE (.det True (.v (.bool (fA x))))))
theorem uq : FnOk Tryz.prog 149 oT:=by
 have hG : ConsOk Tryz.prog (mkG [(151,oS)] []) :=aQ (cgc sd cg0) cg0
 refine a8 [.o] mixed aH hG (fn:=Tryz.f149) (c:=an Tryz.f149) (by kernel_rfl) (by kernel_rfl) (by kernel_rfl) (by kernel_rfl) (bI fun x=> (aN (fun hp=> ?_)))
 dsimp only [aT] at hp
 refine ⟨Nat.le_of_ble_eq_true rfl,L0,ay _,?_⟩
 ·unfold an Tryz.f149
  try unfold fA
  simp only [go_sem,Nat.reduceBEq,Nat.reduceLeDiff,Nat.reduceLT,decide_true,Nat.reduceAdd,Nat.reduceSub,Nat.reduceMul,Int.reduceLE,Int.reduceLT,Int.reduceToNat,Int.reduceNeg,reduceCtorEq]
  all_goals exact cl
def bB (i : Int) (x : Reach) : Bool:=(bif (decide (i > 0)) then ((((((cB x.up i) && (aR ([1,x.delay,16]))) && (aR ([0,x.siphon,x.cap,1073741824]))) && (aR ([0,x.siphon,x.bank,1099511627776]))) && (aR ([0,x.evap.lo,x.evap.hi,1073741824]))) && (fA x.seep)) else ((((((x.up==(-1)) && (aR ([1,x.delay,16]))) && (aR ([0,x.siphon,x.cap,1073741824]))) && (aR ([0,x.siphon,x.bank,1099511627776]))) && (aR ([0,x.evap.lo,x.evap.hi,1073741824]))) && (fA x.seep)))
@[go_sem] def oU : List SV→Option Con:=(pI fun i=> (pD .reach fun x=> (pE (.det True (.v (.bool (bB i x)))))))
theorem ur : FnOk Tryz.prog 118 oU:=by
 have hG : ConsOk Tryz.prog (mkG [(117,fun l=> h_ (c6 [.sl .int] l)),(119,iL),(149,oT)] []) :=aQ (cgc (jw.norm [.sl .int]) (cgc km (cgc uq cg0))) cg0
 refine a8 [.o] mixed aH hG (fn:=Tryz.f118) (c:=an Tryz.f118) (by kernel_rfl) (by kernel_rfl) (by kernel_rfl) (by kernel_rfl) (eo fun i=> (bI fun x=> (aN (fun hp=> ?_))))
 dsimp only [aT] at hp
 refine ⟨Nat.le_of_ble_eq_true rfl,L0,ay _,?_⟩
 ·unfold an Tryz.f118
  try unfold bB
  simp only [go_sem,Nat.reduceBEq,Nat.reduceLeDiff,Nat.reduceLT,decide_true,Nat.reduceAdd,Nat.reduceSub,Nat.reduceMul,Int.reduceLE,Int.reduceLT,Int.reduceToNat,Int.reduceNeg,reduceCtorEq]
  all_goals exact cl
def nH (a0 : District) (a1 : Right) : Bool:=(bif (((!(cB a1.farm (a0.farms.length : Int))) || (!(cB a1.reach (a0.reaches.length : Int)))) || (!(aR ([0,a1.since,a1.to,(IntKind.i64.wrap (a0.hours - 1))])))) then false else (bif (a1.kind==1) then ((((a1.reach==0) && (aR ([0,a1.rank,1048576]))) && (aR ([1,a1.litres,1073741824]))) && (aR ([1,a1.length,a1.every,a0.hours]))) else (bif (a1.kind==2) then ((a1.name==a1.name) && ((a1.kind==a1.kind) && ((a1.farm==a1.farm) && ((a1.reach==a1.reach) && ((a1.rank==0) && ((a1.litres==0) && ((a1.since==0) && ((a1.to==(IntKind.i64.wrap (a0.hours - 1))) && ((a1.every==0) && (a1.length==0)))))))))) else (bif (a1.kind==3) then ((a1.name==a1.name) && ((a1.kind==a1.kind) && ((a1.farm==a1.farm) && ((a1.reach==a1.reach) && ((a1.rank==0) && ((a1.litres==0) && ((a1.since==a1.since) && ((a1.to==a1.to) && ((a1.every==0) && (a1.length==0)))))))))) else false))))
@[go_sem] def oV : List SV→Option Con:=(pD .district fun a0=> (pD .right fun a1=> (pE (.det True (.v (.bool (nH a0 a1)))))))
theorem ut : FnOk Tryz.prog 120 oV:=by
 have hG : ConsOk Tryz.prog (mkG [(117,fun l=> h_ (c6 [.sl .int] l)),(119,iL)] []) :=aQ (cgc (jw.norm [.sl .int]) (cgc km cg0)) cg0
 refine a8 [.o] mixed aH hG (fn:=Tryz.f120) (c:=an Tryz.f120) (by kernel_rfl) (by kernel_rfl) (by kernel_rfl) (by kernel_rfl) (bI fun a0=> (bI fun a1=> (aN (fun hp=> ?_))))
 dsimp only [aT] at hp
 refine ⟨Nat.le_of_ble_eq_true rfl,L0,ay _,?_⟩
 ·unfold an Tryz.f120
  try unfold nH
  simp only [go_sem,Nat.reduceBEq,Nat.reduceLeDiff,Nat.reduceLT,decide_true,Nat.reduceAdd,Nat.reduceSub,Nat.reduceMul,Int.reduceLE,Int.reduceLT,Int.reduceToNat,Int.reduceNeg,reduceCtorEq]
  all_goals exact cl
@[go_sem] def fX (a0 : District) (a1 : Int) (k_0 : Nat) (s_0 : Unit) : Unit⊕Unit:=(bif (bX (bB (k_0 : Int) (a0.reaches.getD k_0 (default : Reach))) a1) then .inr () else .inl ())
@[go_sem] def iM (a0 : District) (a1 : Int) (k_1 : Nat) (s_1 : Unit) : Unit⊕Unit:=(bif (bX (aR ([0,(a0.crops.getD k_1 (default : Crop)).need,1048576])) a1) then .inr () else .inl ())
@[go_sem] def fY (a0 : District) (a1 : Int) (k_2 : Nat) (s_2 : Unit) : Unit⊕Unit:=(bif (decide ((a0.farms.getD k_2 (default : Farm)).area > 0)) then (bif (bX (((cB ((a0.farms.getD k_2 (default : Farm)).crop) (a0.crops.length : Int)) && (cB ((a0.farms.getD k_2 (default : Farm)).reach) (a0.reaches.length : Int))) && (aR ([0,(a0.farms.getD k_2 (default : Farm)).area,1048576]))) a1) then .inr () else .inl ()) else (bif (bX ((((a0.farms.getD k_2 (default : Farm)).crop==(-1)) && (cB ((a0.farms.getD k_2 (default : Farm)).reach) (a0.reaches.length : Int))) && (aR ([0,(a0.farms.getD k_2 (default : Farm)).area,1048576]))) a1) then .inr () else .inl ()))
@[go_sem] def iN (a0 : District) (a1 : Int) (k_3 : Nat) (s_3 : Unit) : Unit⊕Unit:=(bif (bX (nH a0 (a0.rights.getD k_3 (default : Right))) a1) then .inr () else .inl ())
@[go_sem] def iO (a0 : District) (a1 : Int) (k_4 : Nat) (s_4 : Unit) : Unit⊕Unit:=(bif (bX (((cB ((a0.duties.getD k_4 (default : Duty)).farm) (a0.farms.length : Int)) && (cB ((a0.duties.getD k_4 (default : Duty)).reach) (a0.reaches.length : Int))) && (aR ([0,(a0.duties.getD k_4 (default : Duty)).due,a0.hours]))) a1) then .inr () else .inl ())
def wc (a0 : District) (a1 : Int) : Unit:=(bif (bX (((aR ([1,a0.hours,4096])) && (aR ([0,a0.tank.start,a0.tank.cap,1099511627776]))) && (decide ((a0.reaches.length : Int) > 0))) a1) then (match az (fX a0 a1) a0.reaches.length 0 () with | .inl x_0_0=> default | .inr s_0=> (match az (iM a0 a1) a0.crops.length 0 () with | .inl x_1_0=> default | .inr s_1=> (match az (fY a0 a1) a0.farms.length 0 () with | .inl x_2_0=> default | .inr s_2=> (match az (iN a0 a1) a0.rights.length 0 () with | .inl x_3_0=> default | .inr s_3=> (match az (iO a0 a1) a0.duties.length 0 () with | .inl x_4_0=> default | .inr s_4=> ()))))) else default)
def eP (a0 : District) (a1 : Int) : Bool:=(bif (bX (((aR ([1,a0.hours,4096])) && (aR ([0,a0.tank.start,a0.tank.cap,1099511627776]))) && (decide ((a0.reaches.length : Int) > 0))) a1) then (match az (fX a0 a1) a0.reaches.length 0 () with | .inl x_0_0=> false | .inr s_0=> (match az (iM a0 a1) a0.crops.length 0 () with | .inl x_1_0=> false | .inr s_1=> (match az (fY a0 a1) a0.farms.length 0 () with | .inl x_2_0=> false | .inr s_2=> (match az (iN a0 a1) a0.rights.length 0 () with | .inl x_3_0=> false | .inr s_3=> (match az (iO a0 a1) a0.duties.length 0 () with | .inl x_4_0=> false | .inr s_4=> true))))) else false)
@[go_sem] def mV : List SV→Option Con:=(pD .district fun a0=> (pI fun a1=> (pE (.may (eP a0 a1) (.tup []) (.iface 169 (.int .i64 a1))))))
set_option maxHeartbeats 4000000 in
theorem se : FnOk Tryz.prog 76 mV:=by
 have hG : ConsOk Tryz.prog (mkG [(75,kl),(117,fun l=> h_ (c6 [.sl .int] l)),(118,oU),(119,iL),(120,fun l=> oV (c6 [.st .district,.st .right] l))] []) :=aQ (cgc mU (cgc (jw.norm [.sl .int]) (cgc ur (cgc km (cgc (ut.norm [.st .district,.st .right]) cg0))))) cg0
 refine a8 [] mixed aH hG (fn:=Tryz.f76) (c:=an Tryz.f76) (by kernel_rfl) (by kernel_rfl) (by kernel_rfl) (by kernel_rfl) (bI fun a0=> (eo fun a1=> (aN (fun hp=> ?_))))
 dsimp only [aT] at hp
 refine ⟨Nat.le_of_ble_eq_true rfl,(fun id st=> bif Nat.beq id 0 then some (LCR (ρ:=Unit) (σ:=Unit) 1 [] [0] (fun k_0 s_0=> ⟨[(1,.v (.int .i64 a1)),(2,.ptr 0 0),(38,.rs .reach a0.reaches),(39,.v (.int .i64 (a0.reaches.length : Int))),(40,.v (.int .i64 (k_0 : Int)))],[.cells (cellsOf .district a0)]⟩) (fX a0 a1) pT a0.reaches.length () (a0.reaches.length≤bg) (fun _=> .pan (.iface 169 (.int .i64 a1))) (fun x_0_0=> ⟨[],[.dead]⟩) st) else bif Nat.beq id 2 then some (LCR (ρ:=Unit) (σ:=Unit) 1 [] [0] (fun k_1 s_1=> ⟨[(1,.v (.int .i64 a1)),(2,.ptr 0 0),(52,.rs .crop a0.crops),(53,.v (.int .i64 (a0.crops.length : Int))),(54,.v (.int .i64 (k_1 : Int)))],[.cells (cellsOf .district a0)]⟩) (iM a0 a1) pT a0.crops.length () (a0.crops.length≤bg) (fun _=> .pan (.iface 169 (.int .i64 a1))) (fun x_1_0=> ⟨[],[.dead]⟩) st) else bif Nat.beq id 4 then some (LCR (ρ:=Unit) (σ:=Unit) 1 [] [0] (fun k_2 s_2=> ⟨[(1,.v (.int .i64 a1)),(2,.ptr 0 0),(66,.rs .farm a0.farms),(67,.v (.int .i64 (a0.farms.length : Int))),(68,.v (.int .i64 (k_2 : Int)))],[.cells (cellsOf .district a0)]⟩) (fY a0 a1) pT a0.farms.length () (a0.farms.length≤bg) (fun _=> .pan (.iface 169 (.int .i64 a1))) (fun x_2_0=> ⟨[],[.dead]⟩) st) else bif Nat.beq id 6 then some (LCR (ρ:=Unit) (σ:=Unit) 1 [] [0] (fun k_3 s_3=> ⟨[(1,.v (.int .i64 a1)),(2,.ptr 0 0),(103,.rs .right a0.rights),(104,.v (.int .i64 (a0.rights.length : Int))),(105,.v (.int .i64 (k_3 : Int)))],[.cells (cellsOf .district a0)]⟩) (iN a0 a1) pT a0.rights.length () (a0.rights.length≤bg) (fun _=> .pan (.iface 169 (.int .i64 a1))) (fun x_3_0=> ⟨[],[.dead]⟩) st) else bif Nat.beq id 8 then some (LCR (ρ:=Unit) (σ:=Unit) 1 [] [0] (fun k_4 s_4=> ⟨[(1,.v (.int .i64 a1)),(2,.ptr 0 0),(116,.rs .duty a0.duties),(117,.v (.int .i64 (a0.duties.length : Int))),(118,.v (.int .i64 (k_4 : Int)))],[.cells (cellsOf .district a0)]⟩) (iO a0 a1) pT a0.duties.length () (a0.duties.length≤bg) (fun _=> .pan (.iface 169 (.int .i64 a1))) (fun x_4_0=> ⟨[],[.dead]⟩) st) else none),?_,?_⟩
 ·unfold an Tryz.f76
  simp only [aA,true_and,and_true]
  refine ⟨?_,?_,?_,?_,?_⟩
  ·refine db mixed aH hG (by kernel_rfl) (fun _=> rfl) (a0.reaches.length : Int) rfl kQ (fun hb0 k_0 s_0 hlt0 _ hw hc=> ⟨L0,ay _,?_⟩) (fun hb0 s_0 hc=> ?_)
   ·exact oQ
   ·exact oR
  ·refine db mixed aH hG (by kernel_rfl) (fun _=> rfl) (a0.crops.length : Int) rfl kQ (fun hb1 k_1 s_1 hlt1 _ hw hc=> ⟨L0,ay _,?_⟩) (fun hb1 s_1 hc=> ?_)
   ·exact oQ
   ·exact oR
  ·refine db mixed aH hG (by kernel_rfl) (fun _=> rfl) (a0.farms.length : Int) rfl kQ (fun hb2 k_2 s_2 hlt2 _ hw hc=> ⟨L0,ay _,?_⟩) (fun hb2 s_2 hc=> ?_)
   ·exact oQ
   ·exact oR
  ·refine db mixed aH hG (by kernel_rfl) (fun _=> rfl) (a0.rights.length : Int) rfl kQ (fun hb3 k_3 s_3 hlt3 _ hw hc=> ⟨L0,ay _,?_⟩) (fun hb3 s_3 hc=> ?_)
   ·exact oQ
   ·exact oR
  ·refine db mixed aH hG (by kernel_rfl) (fun _=> rfl) (a0.duties.length : Int) rfl kQ (fun hb4 k_4 s_4 hlt4 _ hw hc=> ⟨L0,ay _,?_⟩) (fun hb4 s_4 hc=> ?_)
   ·exact oQ
   ·exact oR
 ·unfold an Tryz.f76
  try unfold wc
  try unfold eP
  simp only [go_sem,Nat.reduceBEq,Nat.reduceLeDiff,Nat.reduceLT,decide_true,Nat.reduceAdd,Nat.reduceSub,Nat.reduceMul,Int.reduceLE,Int.reduceLT,Int.reduceToNat,Int.reduceNeg,reduceCtorEq]
  all_goals exact cl
def bn (d : District) : Int:=(bif (bX (((((decide ((d.reaches.length : Int)≤64)) && (decide ((d.farms.length : Int)≤600))) && (decide ((d.crops.length : Int)≤32))) && (decide ((d.rights.length : Int)≤256))) && (decide ((d.duties.length : Int)≤256))) 2) then (bif (eP d 191) then 0 else 191) else 2)
@[go_sem] def lu : List SV→Option Con:=(pD .district fun d=> (pE (.det True (.v (.int .i64 (bn d))))))
theorem nX : FnOk Tryz.prog 42 lu:=by
 have hG : ConsOk Tryz.prog (mkG [(75,kl),(76,fun l=> mV (c6 [.st .district,.o] l))] []) :=aQ (cgc mU (cgc (se.norm [.st .district,.o]) cg0)) cg0
 refine RQ Js [.o] mixed aH hG (fn:=Tryz.f42) (c0:=Gr (an Tryz.f42)) (c1:=CJ (CJ (an Tryz.f42))) (i1:=regI (Gr (CJ (an Tryz.f42)))) (o1:=VM 0 (Gr (CJ (an Tryz.f42)))) (o2:=VM 1 (Gr (CJ (an Tryz.f42)))) (t3:=3) (q:=2) (tys:= #[]) (by kernel_rfl) (by kernel_rfl) (by kernel_rfl) (by refine ⟨?_,?_,?_⟩ <;> kernel_rfl) (by refine ⟨?_,?_,?_⟩ <;> kernel_rfl) (Nat.le_of_ble_eq_true rfl) (by kernel_rfl) (by kernel_rfl) (bI fun d=> (aN (fun hp=> ?_)))
 dsimp only [aT] at hp
 refine ⟨Nat.le_of_ble_eq_true rfl,L0,L0,1,?_,?_,?_⟩
 ·unfold an Tryz.f42
  simp only [Gr,aA,and_self,true_and,and_true]
 ·unfold an Tryz.f42
  simp only [CJ]
  simp only [aA,and_self,true_and,and_true]
 ·unfold an Tryz.f42
  try unfold bn
  simp only [go_sem,Nat.reduceBEq,Nat.reduceLeDiff,Nat.reduceLT,decide_true,Nat.reduceAdd,Nat.reduceSub,Nat.reduceMul,Int.reduceLE,Int.reduceLT,Int.reduceToNat,Int.reduceNeg,reduceCtorEq,Gr,CJ,R2]
  all_goals exact cl
def iP (x : Order) : Int:=x.hour
@[go_sem] def gO : List SV→Option Con:=(pD .order fun x=> (pE (.det True (.v (.int .i64 (iP x))))))
theorem oW : FnOk Tryz.prog 79 gO:=by
 have hG : ConsOk Tryz.prog (mkG [] []) :=aQ cg0 cg0
 refine a8 [.o] mixed aH hG (fn:=Tryz.f79) (c:=an Tryz.f79) (by kernel_rfl) (by kernel_rfl) (by kernel_rfl) (by kernel_rfl) (bI fun x=> (aN (fun hp=> ?_)))
 dsimp only [aT] at hp
 refine ⟨Nat.le_of_ble_eq_true rfl,L0,ay _,?_⟩
 ·unfold an Tryz.f79
  try unfold iP
  simp only [go_sem,Nat.reduceBEq,Nat.reduceLeDiff,Nat.reduceLT,decide_true,Nat.reduceAdd,Nat.reduceSub,Nat.reduceMul,Int.reduceLE,Int.reduceLT,Int.reduceToNat,Int.reduceNeg,reduceCtorEq]
  all_goals exact cl
def lv (x : Order) : Int:=(bif x.outlet then 1 else 0)
@[go_sem] def jx : List SV→Option Con:=(pD .order fun x=> (pE (.det True (.v (.int .i64 (lv x))))))
theorem sf : FnOk Tryz.prog 80 jx:=by
 have hG : ConsOk Tryz.prog (mkG [] []) :=aQ cg0 cg0
 refine a8 [.o] mixed aH hG (fn:=Tryz.f80) (c:=an Tryz.f80) (by kernel_rfl) (by kernel_rfl) (by kernel_rfl) (by kernel_rfl) (bI fun x=> (aN (fun hp=> ?_)))
 dsimp only [aT] at hp
 refine ⟨Nat.le_of_ble_eq_true rfl,L0,ay _,?_⟩
 ·unfold an Tryz.f80
  try unfold lv
  simp only [go_sem,Nat.reduceBEq,Nat.reduceLeDiff,Nat.reduceLT,decide_true,Nat.reduceAdd,Nat.reduceSub,Nat.reduceMul,Int.reduceLE,Int.reduceLT,Int.reduceToNat,Int.reduceNeg,reduceCtorEq]
  all_goals exact cl
def iQ (x : Order) : Int:=x.index
@[go_sem] def gQ : List SV→Option Con:=(pD .order fun x=> (pE (.det True (.v (.int .i64 (iQ x))))))
theorem oX : FnOk Tryz.prog 81 gQ:=by
 have hG : ConsOk Tryz.prog (mkG [] []) :=aQ cg0 cg0
 refine a8 [.o] mixed aH hG (fn:=Tryz.f81) (c:=an Tryz.f81) (by kernel_rfl) (by kernel_rfl) (by kernel_rfl) (by kernel_rfl) (bI fun x=> (aN (fun hp=> ?_)))
 dsimp only [aT] at hp
 refine ⟨Nat.le_of_ble_eq_true rfl,L0,ay _,?_⟩
 ·unfold an Tryz.f81
  try unfold iQ
  simp only [go_sem,Nat.reduceBEq,Nat.reduceLeDiff,Nat.reduceLT,decide_true,Nat.reduceAdd,Nat.reduceSub,Nat.reduceMul,Int.reduceLE,Int.reduceLT,Int.reduceToNat,Int.reduceNeg,reduceCtorEq]
  all_goals exact cl
end Go.Sx
end
section
namespace Go.Sx
open Go.Proofs
set_option maxRecDepth 100000
set_option linter.unusedSimpArgs false
theorem Jz {p : Prop} (h : p:=by (first | done | (repeat' (first | with_reducible refine And.intro ?_ ?_ | ((with_reducible show _≠_);first | assumption | omega | (simp_all [aG,aM];done) | grind) | with_reducible intro _)) <;> (first | done | exact Empty.elim ‹Empty› | assumption | rfl | omega | decide | exact fk [] | (simp only [*,cond_true,cond_false,Bool.not_true,Bool.not_false,go_sem,Nat.reduceBEq,Nat.reduceLeDiff,Nat.reduceLT,decide_true,Nat.reduceAdd,Nat.reduceSub,Nat.reduceMul,Int.reduceLE,Int.reduceLT,Int.reduceToNat,Int.reduceNeg,reduceCtorEq];done) | (simp only [*,cond_true,cond_false,Bool.not_true,Bool.not_false,go_sem,Nat.reduceBEq,Nat.reduceLeDiff,Nat.reduceLT,decide_true,Nat.reduceAdd,Nat.reduceSub,Nat.reduceMul,Int.reduceLE,Int.reduceLT,Int.reduceToNat,Int.reduceNeg,reduceCtorEq];(repeat' (first | with_reducible refine And.intro ?_ ?_ | ((with_reducible show _≠_);first | assumption | omega | (simp_all [aG,aM];done) | grind) | with_reducible intro _)) <;> (first | done | assumption | rfl | omega | decide | exact fk [] | (simp_all [aG,aM];done))) | (simp_all [okI,aG,aM];done) | (simp_all [aG,aM];(first | done | exact fk2 [])) | exact fk2 []))) : p:=h
theorem JA {p : Prop} (h : p:=by simp only [go_sem,Nat.reduceBEq,Nat.reduceLeDiff,Nat.reduceLT,decide_true,Nat.reduceAdd,Nat.reduceSub,Nat.reduceMul,Int.reduceLE,Int.reduceLT,Int.reduceToNat,Int.reduceNeg,reduceCtorEq];all_goals exact Jz) : p:=h
def gc (x : Range) (most : Int) : Bool:=(((decide (x.lo≥0)) && (decide (x.lo≤x.hi))) && (decide (x.hi≤most)))
@[go_sem] def mW : List SV→Option Con:=(pD .range fun x=> (pI fun most=> (pE (.det True (.v (.bool (gc x most)))))))
theorem sg : FnOk Tryz.prog 122 mW:=by
 have hG : ConsOk Tryz.prog (mkG [] []) :=aQ cg0 cg0
 refine a8 [.o] mixed aH hG (fn:=Tryz.f122) (c:=an Tryz.f122) (by kernel_rfl) (by kernel_rfl) (by kernel_rfl) (by kernel_rfl) (bI fun x=> (eo fun most=> (aN (fun hp=> ?_))))
 dsimp only [aT] at hp
 refine ⟨Nat.le_of_ble_eq_true rfl,L0,ay _,?_⟩
 ·unfold an Tryz.f122
  try unfold gc
  simp only [go_sem,Nat.reduceBEq,Nat.reduceLeDiff,Nat.reduceLT,decide_true,Nat.reduceAdd,Nat.reduceSub,Nat.reduceMul,Int.reduceLE,Int.reduceLT,Int.reduceToNat,Int.reduceNeg,reduceCtorEq]
  all_goals exact cl
def jy (n : Int) (lo : Int) (hi : Int) : Bool:=((decide (n≥lo)) && (decide (n≤hi)))
@[go_sem] def oY : List SV→Option Con:=(pI fun n=> (pI fun lo=> (pI fun hi=> (pE (.det True (.v (.bool (jy n lo hi))))))))
theorem sh : FnOk Tryz.prog 124 oY:=by
 have hG : ConsOk Tryz.prog (mkG [] []) :=aQ cg0 cg0
 refine a8 [.o] mixed aH hG (fn:=Tryz.f124) (c:=an Tryz.f124) (by kernel_rfl) (by kernel_rfl) (by kernel_rfl) (by kernel_rfl) (eo fun n=> (eo fun lo=> (eo fun hi=> (aN (fun hp=> ?_)))))
 dsimp only [aT] at hp
 refine ⟨Nat.le_of_ble_eq_true rfl,L0,ay _,?_⟩
 ·unfold an Tryz.f124
  try unfold jy
  simp only [go_sem,Nat.reduceBEq,Nat.reduceLeDiff,Nat.reduceLT,decide_true,Nat.reduceAdd,Nat.reduceSub,Nat.reduceMul,Int.reduceLE,Int.reduceLT,Int.reduceToNat,Int.reduceNeg,reduceCtorEq]
  all_goals exact cl
def iR (a : Ratio) : Bool:=(((cd a) ==0) && (jy a.n 0 a.d))
@[go_sem] def oZ : List SV→Option Con:=(pD .ratio fun a=> (pE (.det True (.v (.bool (iR a))))))
theorem uu : FnOk Tryz.prog 150 oZ:=by
 have hG : ConsOk Tryz.prog (mkG [(124,oY),(152,jL)] []) :=aQ (cgc sh (cgc lr cg0)) cg0
 refine a8 [.o] mixed aH hG (fn:=Tryz.f150) (c:=an Tryz.f150) (by kernel_rfl) (by kernel_rfl) (by kernel_rfl) (by kernel_rfl) (bI fun a=> (aN (fun hp=> ?_)))
 dsimp only [aT] at hp
 refine ⟨Nat.le_of_ble_eq_true rfl,L0,ay _,?_⟩
 ·unfold an Tryz.f150
  try unfold iR
  simp only [go_sem,Nat.reduceBEq,Nat.reduceLeDiff,Nat.reduceLT,decide_true,Nat.reduceAdd,Nat.reduceSub,Nat.reduceMul,Int.reduceLE,Int.reduceLT,Int.reduceToNat,Int.reduceNeg,reduceCtorEq]
  all_goals exact cl
def fM (a : Ratio×Ratio) : Bool:=(bif ((!(iR a.1)) || (!(iR a.2))) then false else (((eM a.1 a.2).2==0) && (decide ((eM a.1 a.2).1≤0))))
@[go_sem] def nY : List SV→Option Con:=(pD .ratio2 fun a=> (pE (.det True (.v (.bool (fM a))))))
theorem tv : FnOk Tryz.prog 123 nY:=by
 have hG : ConsOk Tryz.prog (mkG [(150,oZ),(151,oS)] []) :=aQ (cgc uu (cgc sd cg0)) cg0
 refine a8 [.o] mixed aH hG (fn:=Tryz.f123) (c:=an Tryz.f123) (by kernel_rfl) (by kernel_rfl) (by kernel_rfl) (by kernel_rfl) (bI fun a=> (aN (fun hp=> ?_)))
 dsimp only [aT] at hp
 refine ⟨Nat.le_of_ble_eq_true rfl,L0,ay _,?_⟩
 ·unfold an Tryz.f123
  try unfold fM
  simp only [go_sem,Nat.reduceBEq,Nat.reduceLeDiff,Nat.reduceLT,decide_true,Nat.reduceAdd,Nat.reduceSub,Nat.reduceMul,Int.reduceLE,Int.reduceLT,Int.reduceToNat,Int.reduceNeg,reduceCtorEq]
  all_goals exact cl
def cL (r : Reach) (n : Int) : Int:=(bif ((!(gc r.evap 1073741824)) || (!(fM r.seep))) then 210 else (bif (!(jy n 0 1073741824)) then 1 else 0))
@[go_sem] def o4 : List SV→Option Con:=(pD .reach fun r=> (pI fun n=> (pE (.det True (.v (.int .i64 (cL r n)))))))
theorem uv : FnOk Tryz.prog 82 o4:=by
 have hG : ConsOk Tryz.prog (mkG [(122,mW),(123,nY),(124,oY)] []) :=aQ (cgc sg (cgc tv (cgc sh cg0))) cg0
 refine a8 [.o] mixed aH hG (fn:=Tryz.f82) (c:=an Tryz.f82) (by kernel_rfl) (by kernel_rfl) (by kernel_rfl) (by kernel_rfl) (bI fun r=> (eo fun n=> (aN (fun hp=> ?_))))
 dsimp only [aT] at hp
 refine ⟨Nat.le_of_ble_eq_true rfl,L0,ay _,?_⟩
 ·unfold an Tryz.f82
  try unfold cL
  simp only [go_sem,Nat.reduceBEq,Nat.reduceLeDiff,Nat.reduceLT,decide_true,Nat.reduceAdd,Nat.reduceSub,Nat.reduceMul,Int.reduceLE,Int.reduceLT,Int.reduceToNat,Int.reduceNeg,reduceCtorEq]
  all_goals exact cl
def jz (n : Int) (d : Int) : Int:=(IntKind.i64.wrap (Int.tdiv (IntKind.i64.wrap (n - (Int.tmod (IntKind.i64.wrap ((Int.tmod n d) + d)) d))) d))
def kR (n : Int) (d : Int) : Prop:=(d≠0∧(d≠0∧d≠0))
@[go_sem] def sj : List SV→Option Con:=(pI fun n=> (pI fun d=> (pE (.det (kR n d) (.v (.int .i64 (jz n d)))))))
theorem xm : FnOk Tryz.prog 153 sj:=by
 have hG : ConsOk Tryz.prog (mkG [] []) :=aQ cg0 cg0
 refine a8 [.o] mixed aH hG (fn:=Tryz.f153) (c:=an Tryz.f153) (by kernel_rfl) (by kernel_rfl) (by kernel_rfl) (by kernel_rfl) (eo fun n=> (eo fun d=> (aN (fun hp=> ?_))))
 dsimp only [aT] at hp
 unfold kR at hp
 refine ⟨Nat.le_of_ble_eq_true rfl,L0,ay _,?_⟩
 ·unfold an Tryz.f153
  try unfold jz
  simp only [go_sem,Nat.reduceBEq,Nat.reduceLeDiff,Nat.reduceLT,decide_true,Nat.reduceAdd,Nat.reduceSub,Nat.reduceMul,Int.reduceLE,Int.reduceLT,Int.reduceToNat,Int.reduceNeg,reduceCtorEq]
  all_goals exact cl
def dR (a : Ratio) (n : Int) : Int×Int×Int:=(bif ((cd a) !=0) then (0,0,(cd a)) else (bif ((decide (n < (-1073741824))) || (decide (n > 1073741824))) then (0,0,1) else ((jz (IntKind.i64.wrap (a.n * n)) a.d),(IntKind.i64.wrap (0 - (jz (IntKind.i64.wrap ((IntKind.i64.wrap (0 - a.n)) * n)) a.d))),0)))
def qy (a : Ratio) (n : Int) : Prop:=(((cd a) !=0)=false→(((decide (n < (-1073741824))) || (decide (n > 1073741824)))=false→((kR (IntKind.i64.wrap (a.n * n)) a.d)∧(kR (IntKind.i64.wrap ((IntKind.i64.wrap (0 - a.n)) * n)) a.d))))
theorem xn {a : Ratio} (h : (cd a !=0)=false) : 1≤a.d:=by
 unfold cd at h
 by_cases hd : a.d < 1
 ·simp [hd] at h
 ·omega
theorem wd (a : Ratio) (n : Int) : qy a n:=fun h _=> by
 have:=xn h
 exact ⟨⟨by omega,by omega,by omega⟩,⟨by omega,by omega,by omega⟩⟩
@[go_sem] def qz : List SV→Option Con:=(pD .ratio fun a=> (pI fun n=> (pE (.det True (.tup [.v (.int .i64 ((dR a n).1)),.v (.int .i64 ((dR a n).2.1)),.v (.int .i64 ((dR a n).2.2))])))))
theorem we : FnOk Tryz.prog 125 qz:=by
 have hG : ConsOk Tryz.prog (mkG [(152,jL),(153,sj)] []) :=aQ (cgc lr (cgc xm cg0)) cg0
 refine a8 [.o,.o,.o] mixed aH hG (fn:=Tryz.f125) (c:=an Tryz.f125) (by kernel_rfl) (by kernel_rfl) (by kernel_rfl) (by kernel_rfl) (bI fun a=> (eo fun n=> (aN (fun hp=> ?_))))
 dsimp only [aT] at hp
 have hp:=wd a n
 unfold qy at hp
 refine ⟨Nat.le_of_ble_eq_true rfl,L0,ay _,?_⟩
 ·unfold an Tryz.f125
  try unfold dR
  simp only [go_sem,Nat.reduceBEq,Nat.reduceLeDiff,Nat.reduceLT,decide_true,Nat.reduceAdd,Nat.reduceSub,Nat.reduceMul,Int.reduceLE,Int.reduceLT,Int.reduceToNat,Int.reduceNeg,reduceCtorEq]
  all_goals exact cl
def dS (r : Reach) (v : Int) : Range:=(bif (v==0) then ({ lo:=0,hi:=0} : Range) else ({ lo:=(if (IntKind.i64.wrap (r.evap.lo + (dR r.seep.1 v).1)) < v then (IntKind.i64.wrap (r.evap.lo + (dR r.seep.1 v).1)) else v),hi:=(if (IntKind.i64.wrap (r.evap.hi + (dR r.seep.2 v).2.1)) < v then (IntKind.i64.wrap (r.evap.hi + (dR r.seep.2 v).2.1)) else v)} : Range))
@[go_sem] def qA : List SV→Option Con:=(pD .reach fun r=> (pI fun v=> (pE (.det True (.agg (cellsOf .range (dS r v)))))))
theorem wg : FnOk Tryz.prog 83 qA:=by
 have hG : ConsOk Tryz.prog (mkG [(125,qz)] []) :=aQ (cgc we cg0) cg0
 refine a8 [.st .range] mixed aH hG (fn:=Tryz.f83) (c:=an Tryz.f83) (by kernel_rfl) (by kernel_rfl) (by kernel_rfl) (by kernel_rfl) (bI fun r=> (eo fun v=> (aN (fun hp=> ?_))))
 dsimp only [aT] at hp
 refine ⟨Nat.le_of_ble_eq_true rfl,L0,ay _,?_⟩
 ·unfold an Tryz.f83
  try unfold dS
  simp only [go_sem,Nat.reduceBEq,Nat.reduceLeDiff,Nat.reduceLT,decide_true,Nat.reduceAdd,Nat.reduceSub,Nat.reduceMul,Int.reduceLE,Int.reduceLT,Int.reduceToNat,Int.reduceNeg,reduceCtorEq]
  all_goals exact cl
def dp (r : Reach) (v : Int) : Int×Int:=(bif ((cL r v) !=0) then (0,(cL r v)) else ((IntKind.i64.wrap (v - (dS r v).hi)),0))
@[go_sem] def JB : List SV→Option Con:=(pD .reach fun r=> (pI fun v=> (pE (.det True (.tup [.v (.int .i64 ((dp r v).1)),.v (.int .i64 ((dp r v).2))])))))
def jM (v : Int) (r : Reach) : Int:=(IntKind.i64.wrap (v - (dS r v).hi))
@[go_sem] def nZ : List SV→Option Con:=(pI fun v=> (pX .reach fun r=> (pE (.det True (.v (.int .i64 (jM v r)))))))
theorem tw : FnOk Tryz.prog 132 nZ:=by
 have hG : ConsOk Tryz.prog (mkG [(83,qA)] []) :=aQ (cgc wg cg0) cg0
 refine a8 [.o] mixed aH hG (fn:=Tryz.f132) (c:=an Tryz.f132) (by kernel_rfl) (by kernel_rfl) (by kernel_rfl) (by kernel_rfl) (eo fun v=> (q_ fun r=> (aN (fun hp=> ?_))))
 dsimp only [aT] at hp
 refine ⟨Nat.le_of_ble_eq_true rfl,L0,ay _,?_⟩
 ·unfold an Tryz.f132
  try unfold jM
  simp only [go_sem,Nat.reduceBEq,Nat.reduceLeDiff,Nat.reduceLT,decide_true,Nat.reduceAdd,Nat.reduceSub,Nat.reduceMul,Int.reduceLE,Int.reduceLT,Int.reduceToNat,Int.reduceNeg,reduceCtorEq]
  all_goals exact cl
def cH (v : Int) (r : Reach) (w : Int) : Bool:=(decide ((jM v r) > w))
@[go_sem] def mX : List SV→Option Con:=(pI fun v=> (pXF 132 (pX .reach fun r=> (pE ((pX .int fun w=> (pE (.det True (.v (.bool (cH v r w)))))))))))
theorem sm : FnOk Tryz.prog 164 mX:=by
 have hG : ConsOk Tryz.prog (mkG [(132,nZ)] []) :=aQ (cgc tw cg0) cg0
 refine a8 [.o] mixed aH hG (fn:=Tryz.f164) (c:=an Tryz.f164) (by kernel_rfl) (by kernel_rfl) (by kernel_rfl) (by kernel_rfl) (eo fun v=> (Fa (q_ fun r=> (aN ((q_ fun w=> (aN (fun hp=> ?_))))))))
 dsimp only [aT] at hp
 refine ⟨Nat.le_of_ble_eq_true rfl,L0,ay _,?_⟩
 ·unfold an Tryz.f164
  try unfold cH
  simp only [go_sem,Nat.reduceBEq,Nat.reduceLeDiff,Nat.reduceLT,decide_true,Nat.reduceAdd,Nat.reduceSub,Nat.reduceMul,Int.reduceLE,Int.reduceLT,Int.reduceToNat,Int.reduceNeg,reduceCtorEq]
  all_goals exact cl
@[go_sem] def fe (r : Reach) (w : Int) (k_0 : Nat) (s_0 : Int×Int) : Int⊕(Int×Int) :=(bif (decide (s_0.1 < s_0.2)) then (bif (!(cH (IntKind.i64.wrap (BO .u64 (IntKind.u64.wrap (IntKind.i64.wrap (s_0.1 + s_0.2))) 1)) r w)) then .inr ((IntKind.i64.wrap ((IntKind.i64.wrap (BO .u64 (IntKind.u64.wrap (IntKind.i64.wrap (s_0.1 + s_0.2))) 1)) + 1)),s_0.2) else .inr (s_0.1,(IntKind.i64.wrap (BO .u64 (IntKind.u64.wrap (IntKind.i64.wrap (s_0.1 + s_0.2))) 1)))) else .inl s_0.1)
def mf (n : Int) (r : Reach) (w : Int) : Int:=(match az (fe r w) 64 0 (0,n) with | .inl x_0_0=> x_0_0 | .inr s_0=> default)
def jN (n : Int) (r : Reach) (w : Int) : Prop:=(∀ z_,az (fe r w) 64 0 (0,n)≠ .inr z_)
@[go_sem] def qB : List SV→Option Con:=(pI fun n=> (pFn 164 (pXF 132 (pX .reach fun r=> (pE ((pX .int fun w=> (pE ((pE (.det (jN n r w) (.v (.int .i64 (mf n r w))))))))))))))
set_option maxHeartbeats 4000000 in
theorem wh : FnOk Tryz.prog 163 qB:=by
 have hG : ConsOk Tryz.prog (mkG [(164,mX)] []) :=aQ (cgc sm cg0) cg0
 refine a8 [.o] mixed aH hG (fn:=Tryz.f163) (c:=an Tryz.f163) (by kernel_rfl) (by kernel_rfl) (by kernel_rfl) (by kernel_rfl) (eo fun n=> (iK (Fa (q_ fun r=> (aN ((q_ fun w=> (aN ((aN (fun hp=> ?_)))))))))))
 dsimp only [aT] at hp
 unfold jN at hp
 refine ⟨Nat.le_of_ble_eq_true rfl,(fun id st=> bif Nat.beq id 0 then some (LCV (ρ:=Int) (σ:=(Int×Int)) 0 [] [] (fun k_0 s_0=> ⟨[(1,.fn 164 [] [.ep [.fn 132 [] [.ep (cellsOf .reach r) 0]] 0,.ep [.v (.int .i64 w)] 0]),(5,.v (.int .i64 s_0.1)),(6,.v (.int .i64 s_0.2))],[]⟩) (fe r w) pT 64 (0,n) (fun _=> .normal) (fun x_0_0=> ⟨[(5,.v (.int .i64 x_0_0))],[]⟩) st) else none),?_,?_⟩
 ·unfold an Tryz.f163
  simp only [aA,true_and,and_true]
  ·refine v8 mixed aH hG (by kernel_rfl) (fun _=> rfl) fun k_0 s_0 _=> ⟨L0,ay _,?_⟩
   ·exact JA
 ·unfold an Tryz.f163
  try unfold mf
  simp only [go_sem,Nat.reduceBEq,Nat.reduceLeDiff,Nat.reduceLT,decide_true,Nat.reduceAdd,Nat.reduceSub,Nat.reduceMul,Int.reduceLE,Int.reduceLT,Int.reduceToNat,Int.reduceNeg,reduceCtorEq]
  all_goals exact cl
def cC (w : Int) (r : Reach) : Int:=(mf 1073741825 r w)
def lw (w : Int) (r : Reach) : Prop:=(jN 1073741825 r w)
@[go_sem] def o5 : List SV→Option Con:=(pI fun w=> (pFn 132 (pX .reach fun r=> (pE ((pE (.det (lw w r) (.v (.int .i64 (cC w r))))))))))
theorem uw : FnOk Tryz.prog 131 o5:=by
 have hG : ConsOk Tryz.prog (mkG [(163,qB)] []) :=aQ (cgc wh cg0) cg0
 refine a8 [.o] mixed aH hG (fn:=Tryz.f131) (c:=an Tryz.f131) (by kernel_rfl) (by kernel_rfl) (by kernel_rfl) (by kernel_rfl) (eo fun w=> (iK (q_ fun r=> (aN ((aN (fun hp=> ?_)))))))
 dsimp only [aT] at hp
 unfold lw at hp
 refine ⟨Nat.le_of_ble_eq_true rfl,L0,ay _,?_⟩
 ·unfold an Tryz.f131
  try unfold cC
  simp only [go_sem,Nat.reduceBEq,Nat.reduceLeDiff,Nat.reduceLT,decide_true,Nat.reduceAdd,Nat.reduceSub,Nat.reduceMul,Int.reduceLE,Int.reduceLT,Int.reduceToNat,Int.reduceNeg,reduceCtorEq]
  all_goals exact cl
def b4 (r : Reach) (w : Int) : Int×Bool×Int:=(bif ((cL r w) !=0) then (0,false,(cL r w)) else (bif (decide ((cC (IntKind.i64.wrap (w - 1)) r) > 1073741824)) then (0,false,0) else ((cC (IntKind.i64.wrap (w - 1)) r),true,0)))
def g0 (r : Reach) (w : Int) : Prop:=(((cL r w) !=0)=false→(lw (IntKind.i64.wrap (w - 1)) r))
@[go_sem] def jO : List SV→Option Con:=(pD .reach fun r=> (pI fun w=> (pE (.det (g0 r w) (.tup [.v (.int .i64 ((b4 r w).1)),.v (.bool ((b4 r w).2.1)),.v (.int .i64 ((b4 r w).2.2))])))))
theorem o6 : FnOk Tryz.prog 99 jO:=by
 have hG : ConsOk Tryz.prog (mkG [(82,o4),(131,o5)] []) :=aQ (cgc uv (cgc uw cg0)) cg0
 refine a8 [.o,.o,.o] mixed aH hG (fn:=Tryz.f99) (c:=an Tryz.f99) (by kernel_rfl) (by kernel_rfl) (by kernel_rfl) (by kernel_rfl) (bI fun r=> (eo fun w=> (aN (fun hp=> ?_))))
 dsimp only [aT] at hp
 unfold g0 at hp
 refine ⟨Nat.le_of_ble_eq_true rfl,L0,ay _,?_⟩
 ·unfold an Tryz.f99
  try unfold b4
  simp only [go_sem,Nat.reduceBEq,Nat.reduceLeDiff,Nat.reduceLT,decide_true,Nat.reduceAdd,Nat.reduceSub,Nat.reduceMul,Int.reduceLE,Int.reduceLT,Int.reduceToNat,Int.reduceNeg,reduceCtorEq]
  all_goals exact cl
def aB (x : Reach) (w : Int) : Int×Bool:=(bif ((w==0) || (decide (w > 1073741824))) then (0,(w==0)) else (bif (!(b4 x w).2.1) then (0,false) else ((if (b4 x w).1 < x.siphon then x.siphon else (b4 x w).1),true)))
def gA (x : Reach) (w : Int) : Prop:=(((w==0) || (decide (w > 1073741824)))=false→(g0 x w))
@[go_sem] def mY : List SV→Option Con:=(pD .reach fun x=> (pI fun w=> (pE (.det (gA x w) (.tup [.v (.int .i64 ((aB x w).1)),.v (.bool ((aB x w).2))])))))
theorem sn : FnOk Tryz.prog 96 mY:=by
 have hG : ConsOk Tryz.prog (mkG [(99,jO)] []) :=aQ (cgc o6 cg0) cg0
 refine a8 [.o,.o] mixed aH hG (fn:=Tryz.f96) (c:=an Tryz.f96) (by kernel_rfl) (by kernel_rfl) (by kernel_rfl) (by kernel_rfl) (bI fun x=> (eo fun w=> (aN (fun hp=> ?_))))
 dsimp only [aT] at hp
 unfold gA at hp
 refine ⟨Nat.le_of_ble_eq_true rfl,L0,ay _,?_⟩
 ·unfold an Tryz.f96
  try unfold aB
  simp only [go_sem,Nat.reduceBEq,Nat.reduceLeDiff,Nat.reduceLT,decide_true,Nat.reduceAdd,Nat.reduceSub,Nat.reduceMul,Int.reduceLE,Int.reduceLT,Int.reduceToNat,Int.reduceNeg,reduceCtorEq]
  all_goals exact cl
end Go.Sx
end
section
namespace Go.Sx
open Go.Proofs
set_option maxRecDepth 100000
set_option linter.unusedSimpArgs false
abbrev gR : SV:= .ls [.fn 79 [] [],.fn 80 [] [],.fn 81 [] []]
open Classical in
noncomputable def kS : List SV→Option Con:=fun l=> if l=[gR] then some (.det True (.fn 121 [] [.ep [gR] 0])) else none
theorem xp : FnOk Tryz.prog 78 kS:=by
 have hG : ConsOk Tryz.prog (mkG [] []) :=aQ (by simp) (by simp)
 refine a8 [.o] mixed aH hG (fn:=Tryz.f78) (c:=an Tryz.f78) (by kernel_rfl) (by kernel_rfl) (by kernel_rfl) (by kernel_rfl) fun l con h hp=> ?_
 unfold kS at h
 split at h
 ·rename_i hl
  subst hl
  cases h
  refine ⟨Nat.le_of_ble_eq_true rfl,L0,by unfold an Tryz.f78;simp only [aA,and_self],?_⟩
  unfold an Tryz.f78
  simp only [go_sem,gR,true_imp_iff,Nat.reduceBEq,Nat.reduceLeDiff,Nat.reduceAdd,Nat.reduceSub,Nat.reduceMul,true_and,and_true,implies_true,List.map_cons,List.map_nil]
  rfl
 ·cases h
def cb : List SV→Option Con:=pE (.det True (.fn 121 [] [.ep [gR] 0]))
theorem lz : FnOk Tryz.prog 44 cb:=by
 have hG : ConsOk Tryz.prog (mkG [(78,kS)] []) :=aQ (by
  intro x hx
  simp only [List.mem_cons,List.not_mem_nil,or_false] at hx
  rcases hx with rfl
  exact xp) (by simp)
 refine a8 [.o] mixed aH hG (fn:=Tryz.f44) (c:=an Tryz.f44) (by kernel_rfl) (by kernel_rfl) (by kernel_rfl) (by kernel_rfl) fun l con h hp=> ?_
 unfold cb at h
 obtain ⟨rfl,rfl⟩ :=qX h
 refine ⟨Nat.le_of_ble_eq_true rfl,L0,by unfold an Tryz.f44;simp only [aA,and_self],?_⟩
 unfold an Tryz.f44
 simp only [go_sem,kS,gR,true_imp_iff,Nat.reduceBEq,Nat.reduceLeDiff,Nat.reduceAdd,Nat.reduceSub,Nat.reduceMul,true_and,and_true,implies_true,List.map_cons,List.map_nil,if_true]
 rfl
def lA (k : Nat) (x : Order) : Int:=match k with | 0=> iP x | 1=> lv x | _=> iQ x
def qc (a b : Order) : Nat→Unit→Int⊕Unit:=fun k _=> bif (aS (lA k a) (lA k b) !=0) then .inl (aS (lA k a) (lA k b)) else .inr ()
def ax (a b : Order) : Int:=match az (qc a b) 3 0 () with | .inl x=> x | .inr _=> 0
open Classical in
noncomputable def ff : List SV→Option Con:=pD .order fun a=> pD .order fun b=> fun l=> if l=[.ep [gR] 0] then some (.det True (.i (ax a b))) else none
set_option maxHeartbeats 1000000 in
theorem n8 : FnOk Tryz.prog 121 ff:=by
 have hG : ConsOk Tryz.prog (mkG [(70,cA),(79,gO),(80,jx),(81,gQ)] []) :=aQ (by
  intro x hx
  simp only [List.mem_cons,List.not_mem_nil,or_false] at hx
  rcases hx with rfl | rfl | rfl | rfl
  ·exact c7
  ·exact oW
  ·exact sf
  ·exact oX) (by simp)
 refine a8 [.o] mixed aH hG (fn:=Tryz.f121) (c:=an Tryz.f121) (by kernel_rfl) (by kernel_rfl) (by kernel_rfl) (by kernel_rfl) fun l con h hp=> ?_
 unfold ff at h
 obtain ⟨a,l0,rfl,h0⟩ :=tj h
 obtain ⟨b,l1,rfl,h1⟩ :=tj h0
 split at h1
 rotate_left
 ·cases h1
 rename_i hl
 subst hl
 cases h1
 clear h h0
 obtain ⟨ah,ai,al,ao⟩ :=a
 obtain ⟨bh,bi,bl,bo⟩ :=b
 refine ⟨Nat.le_of_ble_eq_true rfl,(fun id st=> bif Nat.beq id 0 then some (LC (ρ:=Int) (σ:=Unit) (lk 3 st.t= .ptr 0 0∧lk 4 st.t= .ptr 1 0∧lk 9 st.t=gR∧lk 10 st.t= .i 3∧lk 11 st.t= .i 0∧st.h=[.cells (cellsOf .order ⟨ah,ai,al,ao⟩),.cells (cellsOf .order ⟨bh,bi,bl,bo⟩)]) (az (qc ⟨ah,ai,al,ao⟩ ⟨bh,bi,bl,bo⟩) 3 0 ()) (fun _=> .ret) (fun x=> ⟨[(5,.i x)],[.dead,.dead]⟩) (fun _=> ⟨[],[.dead,.dead]⟩)) else none),?_,?_⟩
 ·unfold an Tryz.f121
  simp only [aA,true_and,and_true]
  refine x9 mixed aH hG (by kernel_rfl) fun st lc hC hp=> ?_
  simp only [go_sem,Nat.reduceBEq,Option.some.injEq] at hC
  subst hC
  obtain ⟨t,h⟩ :=st
  dsimp only [LC] at hp
  obtain ⟨e1,e2,e3,e4,e5,rfl⟩ :=hp
  refine ⟨_,_,_,qc ⟨ah,ai,al,ao⟩ ⟨bh,bi,bl,bo⟩,fun _ _=> True,3,(),_,_,_,(fun k _=> ⟨[(3,.ptr 0 0),(4,.ptr 1 0),(9,gR),(10,.i 3),(11,.i (k : Int))],[.cells (cellsOf .order ⟨ah,ai,al,ao⟩),.cells (cellsOf .order ⟨bh,bi,bl,bo⟩)]⟩),[0,1],rfl,qb _ _ _ fun _ _ _ _=> trivial,Nat.le_refl _,?_,fun k s hk hpk=> ⟨L0,?_,?_⟩⟩
  ·simp only [go_sem,e1,e2,e3,e4,e5,gR,Nat.reduceBEq,Nat.reduceLeDiff,Nat.reduceAdd,true_and,and_true]
   all_goals (first | done | decide | (repeat' (first | refine And.intro ?_ ?_ | rfl | decide)))
  ·simp only [aA,and_self,true_and,and_true]
  ·have hk4 : k=0∨k=1∨k=2∨k=3:=by omega
   have hw0 : IntKind.i64.wrap ((0 : Int) + 1)=((0 + 1 : Nat) : Int) :=by decide
   have hw1 : IntKind.i64.wrap ((1 : Int) + 1)=((1 + 1 : Nat) : Int) :=by decide
   have hw2 : IntKind.i64.wrap ((2 : Int) + 1)=((2 + 1 : Nat) : Int) :=by decide
   rcases hk4 with rfl | rfl | rfl | rfl
   all_goals
    simp only [go_sem,cA,gO,jx,gQ,gR,qc,lA,true_imp_iff,false_imp_iff,Bool.false_eq_true,Int.toNat_natCast,Int.toNat_zero,Nat.reduceBEq,Nat.reduceLeDiff,Nat.reduceAdd,Nat.reduceSub,Nat.reduceMul,Nat.reduceLT,Int.reduceLE,Int.reduceLT,Int.reduceToNat,Int.reduceNeg,true_and,and_true,and_self,implies_true,forall_const,reduceCtorEq,Int.cast_ofNat_Int]
   all_goals (first | done | (repeat' (first | with_reducible refine And.intro ?_ ?_ | ((with_reducible show _≠_);first | assumption | omega | (simp_all;done) | grind) | with_reducible intro _)) <;> (first | done | assumption | rfl | omega | decide | (simp only [*,cond_true,cond_false,go_sem,true_imp_iff,false_imp_iff,Bool.false_eq_true,Int.toNat_natCast,Int.toNat_zero,Nat.reduceBEq,Nat.reduceLeDiff,Nat.reduceAdd,Nat.reduceSub,Nat.reduceMul,Int.reduceLE,Int.reduceLT,Int.reduceToNat,Int.reduceNeg,true_and,and_true,and_self,implies_true,forall_const,reduceCtorEq];done) | (simp only [*,cond_true,cond_false,go_sem,true_imp_iff,false_imp_iff,Bool.false_eq_true,Int.toNat_natCast,Int.toNat_zero,Nat.reduceBEq,Nat.reduceLeDiff,Nat.reduceAdd,Nat.reduceSub,Nat.reduceMul,Int.reduceLE,Int.reduceLT,Int.reduceToNat,Int.reduceNeg,true_and,and_true,and_self,implies_true,forall_const,reduceCtorEq];(repeat' (first | with_reducible refine And.intro ?_ ?_ | ((with_reducible show _≠_);first | assumption | omega | (simp_all;done) | grind) | with_reducible intro _)) <;> (first | done | assumption | rfl | omega | decide))))
   all_goals trace_state
 ·unfold an Tryz.f121
  unfold ax
  simp only [go_sem,gR,true_imp_iff,false_imp_iff,Bool.false_eq_true,Nat.reduceBEq,Nat.reduceLeDiff,Nat.reduceAdd,Nat.reduceSub,Nat.reduceMul,true_and,and_true,implies_true,sz,List.map_cons,List.map_nil]
  all_goals (first | done | (repeat' (first | with_reducible refine And.intro ?_ ?_ | ((with_reducible show _≠_);first | assumption | omega | (simp_all;done) | grind) | with_reducible intro _)) <;> (first | done | assumption | rfl | omega | (simp only [*,cond_true,cond_false,Bool.not_true,Bool.not_false,go_sem,true_imp_iff,false_imp_iff,Bool.false_eq_true,Int.toNat_natCast,Int.toNat_zero,Nat.reduceBEq,Nat.reduceLeDiff,Nat.reduceAdd,Nat.reduceSub,Nat.reduceMul,Int.reduceLE,Int.reduceLT,Int.reduceToNat,Int.reduceNeg,true_and,and_true,and_self,implies_true,forall_const,reduceCtorEq];done) | (simp only [*,cond_true,cond_false,Bool.not_true,Bool.not_false,go_sem,true_imp_iff,false_imp_iff,Bool.false_eq_true,Int.toNat_natCast,Int.toNat_zero,Nat.reduceBEq,Nat.reduceLeDiff,Nat.reduceAdd,Nat.reduceSub,Nat.reduceMul,Int.reduceLE,Int.reduceLT,Int.reduceToNat,Int.reduceNeg,true_and,and_true,and_self,implies_true,forall_const,reduceCtorEq];(repeat' (first | with_reducible refine And.intro ?_ ?_ | ((with_reducible show _≠_);first | assumption | omega | (simp_all;done) | grind) | with_reducible intro _)) <;> (first | done | assumption | rfl | omega | (simp_all;done))) | (simp_all [okI];done) | grind))
attribute [go_sem] cb ff
end Go.Sx
end
section
namespace Go.Sx
open Go.Proofs
set_option maxRecDepth 100000
set_option linter.unusedSimpArgs false
theorem AM {p : Prop} (h : p:=by (first | done | (repeat' (first | with_reducible refine And.intro ?_ ?_ | ((with_reducible show _≠_);first | assumption | omega | (simp_all [aG,aM];done) | grind) | with_reducible intro _)) <;> (first | done | exact Empty.elim ‹Empty› | assumption | rfl | omega | decide | exact fk [0] | (simp only [*,cond_true,cond_false,Bool.not_true,Bool.not_false,go_sem,Nat.reduceBEq,Nat.reduceLeDiff,Nat.reduceLT,decide_true,Nat.reduceAdd,Nat.reduceSub,Nat.reduceMul,Int.reduceLE,Int.reduceLT,Int.reduceToNat,Int.reduceNeg,reduceCtorEq];done) | (simp only [*,cond_true,cond_false,Bool.not_true,Bool.not_false,go_sem,Nat.reduceBEq,Nat.reduceLeDiff,Nat.reduceLT,decide_true,Nat.reduceAdd,Nat.reduceSub,Nat.reduceMul,Int.reduceLE,Int.reduceLT,Int.reduceToNat,Int.reduceNeg,reduceCtorEq];(repeat' (first | with_reducible refine And.intro ?_ ?_ | ((with_reducible show _≠_);first | assumption | omega | (simp_all [aG,aM];done) | grind) | with_reducible intro _)) <;> (first | done | assumption | rfl | omega | decide | exact fk [0] | (simp_all [aG,aM];done))) | (simp_all [okI,aG,aM];done) | (simp_all [aG,aM];(first | done | exact fk2 [0])) | exact fk2 [0]))) : p:=h
theorem AN {p : Prop} (h : p:=by (first | done | (repeat' (first | with_reducible refine And.intro ?_ ?_ | ((with_reducible show _≠_);first | assumption | omega | (simp_all [aG,aM];done) | grind) | with_reducible intro _)) <;> (first | done | exact Empty.elim ‹Empty› | assumption | rfl | omega | decide | exact fk [] | (simp only [*,cond_true,cond_false,Bool.not_true,Bool.not_false,go_sem,Nat.reduceBEq,Nat.reduceLeDiff,Nat.reduceLT,decide_true,Nat.reduceAdd,Nat.reduceSub,Nat.reduceMul,Int.reduceLE,Int.reduceLT,Int.reduceToNat,Int.reduceNeg,reduceCtorEq];done) | (simp only [*,cond_true,cond_false,Bool.not_true,Bool.not_false,go_sem,Nat.reduceBEq,Nat.reduceLeDiff,Nat.reduceLT,decide_true,Nat.reduceAdd,Nat.reduceSub,Nat.reduceMul,Int.reduceLE,Int.reduceLT,Int.reduceToNat,Int.reduceNeg,reduceCtorEq];(repeat' (first | with_reducible refine And.intro ?_ ?_ | ((with_reducible show _≠_);first | assumption | omega | (simp_all [aG,aM];done) | grind) | with_reducible intro _)) <;> (first | done | assumption | rfl | omega | decide | exact fk [] | (simp_all [aG,aM];done))) | (simp_all [okI,aG,aM];done) | (simp_all [aG,aM];(first | done | exact fk2 [])) | exact fk2 []))) : p:=h
theorem AO {p : Prop} (h : p:=by simp only [go_sem,Nat.reduceBEq,Nat.reduceLeDiff,Nat.reduceLT,decide_true,Nat.reduceAdd,Nat.reduceSub,Nat.reduceMul,Int.reduceLE,Int.reduceLT,Int.reduceToNat,Int.reduceNeg,reduceCtorEq,hc,hw];all_goals exact AM) : p:=h
theorem AP {p : Prop} (h : p:=by simp only [go_sem,Nat.reduceBEq,Nat.reduceLeDiff,Nat.reduceLT,decide_true,Nat.reduceAdd,Nat.reduceSub,Nat.reduceMul,Int.reduceLE,Int.reduceLT,Int.reduceToNat,Int.reduceNeg,reduceCtorEq,hc];all_goals exact AM) : p:=h
theorem JC {p : Prop} (h : p:=by simp only [go_sem,Nat.reduceBEq,Nat.reduceLeDiff,Nat.reduceLT,decide_true,Nat.reduceAdd,Nat.reduceSub,Nat.reduceMul,Int.reduceLE,Int.reduceLT,Int.reduceToNat,Int.reduceNeg,reduceCtorEq,hc,hw];all_goals exact AN) : p:=h
theorem JD {p : Prop} (h : p:=by simp only [go_sem,Nat.reduceBEq,Nat.reduceLeDiff,Nat.reduceLT,decide_true,Nat.reduceAdd,Nat.reduceSub,Nat.reduceMul,Int.reduceLE,Int.reduceLT,Int.reduceToNat,Int.reduceNeg,reduceCtorEq,hc];all_goals exact AN) : p:=h
@[go_sem] def dI (a0 : District) (a1 : List Order) (k_0 : Nat) (s_0 : Unit) : Unit⊕Unit:=(bif (a1.getD k_0 (default : Order)).outlet then (bif (((((((decide ((a1.getD k_0 (default : Order)).hour < 0)) || (decide ((a1.getD k_0 (default : Order)).hour≥a0.hours))) || (decide ((a1.getD k_0 (default : Order)).index < 0))) || (decide ((a1.getD k_0 (default : Order)).index≥(a0.farms.length : Int)))) || (decide ((a1.getD k_0 (default : Order)).litres < 1))) || (decide ((a1.getD k_0 (default : Order)).litres > 1073741824))) || ((decide ((k_0 : Int) > 0)) && (decide ((ax (a1.getD (Int.toNat (IntKind.i64.wrap ((k_0 : Int) - 1))) (default : Order)) (a1.getD k_0 (default : Order)))≥0)))) then .inl () else .inr ()) else (bif (((((((decide ((a1.getD k_0 (default : Order)).hour < 0)) || (decide ((a1.getD k_0 (default : Order)).hour≥a0.hours))) || (decide ((a1.getD k_0 (default : Order)).index < 0))) || (decide ((a1.getD k_0 (default : Order)).index≥(a0.reaches.length : Int)))) || (decide ((a1.getD k_0 (default : Order)).litres < 1))) || (decide ((a1.getD k_0 (default : Order)).litres > 1073741824))) || ((decide ((k_0 : Int) > 0)) && (decide ((ax (a1.getD (Int.toNat (IntKind.i64.wrap ((k_0 : Int) - 1))) (default : Order)) (a1.getD k_0 (default : Order)))≥0)))) then .inl () else .inr ()))
def fB (a0 : District) (a1 : List Order) (k_0 : Nat) (s_0 : Unit) : Prop:=(a0.reaches.length≤bg→(((a1.getD k_0 (default : Order)).outlet=true→(a0.farms.length≤bg→(((((((decide ((a1.getD k_0 (default : Order)).hour < 0)) || (decide ((a1.getD k_0 (default : Order)).hour≥a0.hours))) || (decide ((a1.getD k_0 (default : Order)).index < 0))) || (decide ((a1.getD k_0 (default : Order)).index≥(a0.farms.length : Int)))) || (decide ((a1.getD k_0 (default : Order)).litres < 1))) || (decide ((a1.getD k_0 (default : Order)).litres > 1073741824)))=false→((decide ((k_0 : Int) > 0))=true→(0≤(IntKind.i64.wrap ((k_0 : Int) - 1))∧(IntKind.i64.wrap ((k_0 : Int) - 1)) < (a1.length : Int))))))∧((a1.getD k_0 (default : Order)).outlet=false→(((((((decide ((a1.getD k_0 (default : Order)).hour < 0)) || (decide ((a1.getD k_0 (default : Order)).hour≥a0.hours))) || (decide ((a1.getD k_0 (default : Order)).index < 0))) || (decide ((a1.getD k_0 (default : Order)).index≥(a0.reaches.length : Int)))) || (decide ((a1.getD k_0 (default : Order)).litres < 1))) || (decide ((a1.getD k_0 (default : Order)).litres > 1073741824)))=false→((decide ((k_0 : Int) > 0))=true→(0≤(IntKind.i64.wrap ((k_0 : Int) - 1))∧(IntKind.i64.wrap ((k_0 : Int) - 1)) < (a1.length : Int)))))))
def b5 (a0 : District) (a1 : List Order) : Int:=(bif ((bn a0) !=0) then (bn a0) else (bif (decide ((a1.length : Int) > 4096)) then 2 else (match az (dI a0 a1) a1.length 0 () with | .inl x_0_0=> 220 | .inr s_0=> 0)))
def fJ (a0 : District) (a1 : List Order) : Prop:=(((bn a0) !=0)=false→(a1.length≤bg→((decide ((a1.length : Int) > 4096))=false→(a1.length≤bg→okI (dI a0 a1) (fB a0 a1) a1.length 0 ()))))
@[go_sem] def n9 : List SV→Option Con:=(pD .district fun a0=> (pR .order fun a1=> (pE (.det (fJ a0 a1) (.v (.int .i64 (b5 a0 a1)))))))
set_option maxHeartbeats 4000000 in
theorem tx : FnOk Tryz.prog 25 n9:=by
 have hG : ConsOk Tryz.prog (mkG [(42,fun l=> lu (c6 [.st .district] l)),(44,cb),(121,ff)] []) :=aQ (cgc (nX.norm [.st .district]) (cgc lz (cgc n8 cg0))) cg0
 refine a8 [.o] mixed aH hG (fn:=Tryz.f25) (c:=an Tryz.f25) (by kernel_rfl) (by kernel_rfl) (by kernel_rfl) (by kernel_rfl) (bI fun a0=> (dl fun a1=> (aN (fun hp=> ?_))))
 dsimp only [aT] at hp
 unfold fJ at hp
 refine ⟨Nat.le_of_ble_eq_true rfl,(fun id st=> bif Nat.beq id 0 then some (LCR (ρ:=Unit) (σ:=Unit) 1 [] [0] (fun k_0 s_0=> ⟨[(1,.rs .order a1),(2,.ptr 0 0),(5,.fn 121 [] [.ep [.ls [.fn 79 [] [],.fn 80 [] [],.fn 81 [] []]] 0]),(18,.rs .order a1),(19,.v (.int .i64 (a1.length : Int))),(20,.v (.int .i64 (k_0 : Int)))],[.cells (cellsOf .district a0)]⟩) (dI a0 a1) (fB a0 a1) a1.length () (a1.length≤bg) (fun _=> .ret) (fun x_0_0=> ⟨[(4,.v (.int .i64 220))],[.dead]⟩) st) else none),?_,?_⟩
 ·unfold an Tryz.f25
  simp only [aA,true_and,and_true]
  ·refine db mixed aH hG (by kernel_rfl) (fun _=> rfl) (a1.length : Int) rfl kQ (fun hb0 k_0 s_0 hlt0 hq0 hw hc=> ⟨L0,ay _,?_⟩) (fun hb0 s_0 hc=> ?_)
   ·unfold fB at hq0
    try simp only [hw,Int.toNat_natCast] at hq0
    exact AO
   ·exact AP
 ·unfold an Tryz.f25
  try unfold b5
  simp only [go_sem,Nat.reduceBEq,Nat.reduceLeDiff,Nat.reduceLT,decide_true,Nat.reduceAdd,Nat.reduceSub,Nat.reduceMul,Int.reduceLE,Int.reduceLT,Int.reduceToNat,Int.reduceNeg,reduceCtorEq,cb,ff,if_true]
  all_goals exact cl
def bG (d : District) (l_ : List Order) : Int:=(bif (((b5 d l_) ==0) && (decide ((IntKind.i64.wrap ((d.reaches.length : Int) * d.hours)) > 1024))) then 2 else (b5 d l_))
def gB (d : District) (l_ : List Order) : Prop:=(fJ d l_)
@[go_sem] def mZ : List SV→Option Con:=(pD .district fun d=> (pR .order fun l_=> (pE (.det (gB d l_) (.v (.int .i64 (bG d l_)))))))
theorem so : FnOk Tryz.prog 93 mZ:=by
 have hG : ConsOk Tryz.prog (mkG [(25,fun l=> n9 (c6 [.st .district,.sl .order] l))] []) :=aQ (cgc (tx.norm [.st .district,.sl .order]) cg0) cg0
 refine a8 [.o] mixed aH hG (fn:=Tryz.f93) (c:=an Tryz.f93) (by kernel_rfl) (by kernel_rfl) (by kernel_rfl) (by kernel_rfl) (bI fun d=> (dl fun l_=> (aN (fun hp=> ?_))))
 dsimp only [aT] at hp
 unfold gB at hp
 refine ⟨Nat.le_of_ble_eq_true rfl,L0,ay _,?_⟩
 ·unfold an Tryz.f93
  try unfold bG
  simp only [go_sem,Nat.reduceBEq,Nat.reduceLeDiff,Nat.reduceLT,decide_true,Nat.reduceAdd,Nat.reduceSub,Nat.reduceMul,Int.reduceLE,Int.reduceLT,Int.reduceToNat,Int.reduceNeg,reduceCtorEq]
  all_goals exact cl
@[go_sem] def ko (l_ : List Int) (k_0 : Nat) (s_0 : Unit) : Int⊕Unit:=(bif ((l_.getD k_0 (0 : Int)) !=0) then .inl (l_.getD k_0 (0 : Int)) else .inr ())
def iS (l_ : List Int) : Int:=(match az (ko l_) l_.length 0 () with | .inl x_0_0=> x_0_0 | .inr s_0=> 0)
@[go_sem] def o7 : List SV→Option Con:=(pR .int fun l_=> (pE (.det True (.v (.int .i64 (iS l_))))))
set_option maxHeartbeats 4000000 in
theorem ux : FnOk Tryz.prog 77 o7:=by
 have hG : ConsOk Tryz.prog (mkG [] []) :=aQ cg0 cg0
 refine a8 [.o] mixed aH hG (fn:=Tryz.f77) (c:=an Tryz.f77) (by kernel_rfl) (by kernel_rfl) (by kernel_rfl) (by kernel_rfl) (dl fun l_=> (aN (fun hp=> ?_)))
 dsimp only [aT] at hp
 refine ⟨Nat.le_of_ble_eq_true rfl,(fun id st=> bif Nat.beq id 0 then some (LCR (ρ:=Int) (σ:=Unit) 0 [] [] (fun k_0 s_0=> ⟨[(5,.rs .int l_),(6,.v (.int .i64 (l_.length : Int))),(7,.v (.int .i64 (k_0 : Int)))],[]⟩) (ko l_) pT l_.length () (l_.length≤bg) (fun _=> .ret) (fun x_0_0=> ⟨[(2,.v (.int .i64 x_0_0))],[]⟩) st) else none),?_,?_⟩
 ·unfold an Tryz.f77
  simp only [aA,true_and,and_true]
  ·refine db mixed aH hG (by kernel_rfl) (fun _=> rfl) (l_.length : Int) rfl kQ (fun hb0 k_0 s_0 hlt0 _ hw hc=> ⟨L0,ay _,?_⟩) (fun hb0 s_0 hc=> ?_)
   ·exact JC
   ·exact JD
 ·unfold an Tryz.f77
  try unfold iS
  simp only [go_sem,Nat.reduceBEq,Nat.reduceLeDiff,Nat.reduceLT,decide_true,Nat.reduceAdd,Nat.reduceSub,Nat.reduceMul,Int.reduceLE,Int.reduceLT,Int.reduceToNat,Int.reduceNeg,reduceCtorEq]
  all_goals exact cl
def gC (a : Claim) (b : Claim) : Int:=(iS ([(aS a.hour b.hour),(aS a.rank b.rank),(aS a.right b.right),(aS a.farm b.farm)]))
@[go_sem] def o8 : List SV→Option Con:=(pD .claim fun a=> (pD .claim fun b=> (pE (.det True (.v (.int .i64 (gC a b)))))))
theorem uy : FnOk Tryz.prog 43 o8:=by
 have hG : ConsOk Tryz.prog (mkG [(70,cA),(77,fun l=> o7 (c6 [.sl .int] l))] []) :=aQ (cgc c7 (cgc (ux.norm [.sl .int]) cg0)) cg0
 refine a8 [.o] mixed aH hG (fn:=Tryz.f43) (c:=an Tryz.f43) (by kernel_rfl) (by kernel_rfl) (by kernel_rfl) (by kernel_rfl) (bI fun a=> (bI fun b=> (aN (fun hp=> ?_))))
 dsimp only [aT] at hp
 refine ⟨Nat.le_of_ble_eq_true rfl,L0,ay _,?_⟩
 ·unfold an Tryz.f43
  try unfold gC
  simp only [go_sem,Nat.reduceBEq,Nat.reduceLeDiff,Nat.reduceLT,decide_true,Nat.reduceAdd,Nat.reduceSub,Nat.reduceMul,Int.reduceLE,Int.reduceLT,Int.reduceToNat,Int.reduceNeg,reduceCtorEq]
  all_goals exact cl
@[go_sem] def eb (a0 : District) (a1 : List Claim) (k_0 : Nat) (s_0 : Unit) : Unit⊕Unit:=(bif ((((!((((((((decide ((a1.getD k_0 (default : Claim)).right≥0)) && (decide ((a1.getD k_0 (default : Claim)).right < (a0.rights.length : Int)))) && (decide ((a1.getD k_0 (default : Claim)).farm≥0))) && (decide ((a1.getD k_0 (default : Claim)).farm < (a0.farms.length : Int)))) && (decide ((a1.getD k_0 (default : Claim)).hour≥0))) && (decide ((a1.getD k_0 (default : Claim)).hour < a0.hours))) && (decide ((a1.getD k_0 (default : Claim)).litres≥1))) && (decide ((a1.getD k_0 (default : Claim)).litres≤1073741824)))) || ((a0.rights.getD (Int.toNat ((a1.getD k_0 (default : Claim)).right)) (default : Right)).kind !=1)) || ((a0.rights.getD (Int.toNat ((a1.getD k_0 (default : Claim)).right)) (default : Right)).rank !=(a1.getD k_0 (default : Claim)).rank)) || ((decide ((k_0 : Int) > 0)) && (decide ((gC (a1.getD (Int.toNat (IntKind.i64.wrap ((k_0 : Int) - 1))) (default : Claim)) (a1.getD k_0 (default : Claim)))≥0)))) then .inl () else .inr ())
def fZ (a0 : District) (a1 : List Claim) (k_0 : Nat) (s_0 : Unit) : Prop:=(((!((((((((decide ((a1.getD k_0 (default : Claim)).right≥0)) && (decide ((a1.getD k_0 (default : Claim)).right < (a0.rights.length : Int)))) && (decide ((a1.getD k_0 (default : Claim)).farm≥0))) && (decide ((a1.getD k_0 (default : Claim)).farm < (a0.farms.length : Int)))) && (decide ((a1.getD k_0 (default : Claim)).hour≥0))) && (decide ((a1.getD k_0 (default : Claim)).hour < a0.hours))) && (decide ((a1.getD k_0 (default : Claim)).litres≥1))) && (decide ((a1.getD k_0 (default : Claim)).litres≤1073741824))))=false→(0≤(a1.getD k_0 (default : Claim)).right∧(a1.getD k_0 (default : Claim)).right < (a0.rights.length : Int)))∧((((!((((((((decide ((a1.getD k_0 (default : Claim)).right≥0)) && (decide ((a1.getD k_0 (default : Claim)).right < (a0.rights.length : Int)))) && (decide ((a1.getD k_0 (default : Claim)).farm≥0))) && (decide ((a1.getD k_0 (default : Claim)).farm < (a0.farms.length : Int)))) && (decide ((a1.getD k_0 (default : Claim)).hour≥0))) && (decide ((a1.getD k_0 (default : Claim)).hour < a0.hours))) && (decide ((a1.getD k_0 (default : Claim)).litres≥1))) && (decide ((a1.getD k_0 (default : Claim)).litres≤1073741824)))) || ((a0.rights.getD (Int.toNat ((a1.getD k_0 (default : Claim)).right)) (default : Right)).kind !=1))=false→(0≤(a1.getD k_0 (default : Claim)).right∧(a1.getD k_0 (default : Claim)).right < (a0.rights.length : Int)))∧((((!((((((((decide ((a1.getD k_0 (default : Claim)).right≥0)) && (decide ((a1.getD k_0 (default : Claim)).right < (a0.rights.length : Int)))) && (decide ((a1.getD k_0 (default : Claim)).farm≥0))) && (decide ((a1.getD k_0 (default : Claim)).farm < (a0.farms.length : Int)))) && (decide ((a1.getD k_0 (default : Claim)).hour≥0))) && (decide ((a1.getD k_0 (default : Claim)).hour < a0.hours))) && (decide ((a1.getD k_0 (default : Claim)).litres≥1))) && (decide ((a1.getD k_0 (default : Claim)).litres≤1073741824)))) || ((a0.rights.getD (Int.toNat ((a1.getD k_0 (default : Claim)).right)) (default : Right)).kind !=1)) || ((a0.rights.getD (Int.toNat ((a1.getD k_0 (default : Claim)).right)) (default : Right)).rank !=(a1.getD k_0 (default : Claim)).rank))=false→((decide ((k_0 : Int) > 0))=true→(0≤(IntKind.i64.wrap ((k_0 : Int) - 1))∧(IntKind.i64.wrap ((k_0 : Int) - 1)) < (a1.length : Int))))))
def aZ (a0 : District) (a1 : List Claim) : Int:=(bif ((bn a0) !=0) then (bn a0) else (bif (decide ((a1.length : Int) > 4096)) then 2 else (match az (eb a0 a1) a1.length 0 () with | .inl x_0_0=> 260 | .inr s_0=> 0)))
def gf (a0 : District) (a1 : List Claim) : Prop:=(((bn a0) !=0)=false→(a1.length≤bg→((decide ((a1.length : Int) > 4096))=false→(a1.length≤bg→okI (eb a0 a1) (fZ a0 a1) a1.length 0 ()))))
@[go_sem] def lB : List SV→Option Con:=(pD .district fun a0=> (pR .claim fun a1=> (pE (.det (gf a0 a1) (.v (.int .i64 (aZ a0 a1)))))))
set_option maxHeartbeats 4000000 in
theorem n_ : FnOk Tryz.prog 24 lB:=by
 have hG : ConsOk Tryz.prog (mkG [(42,fun l=> lu (c6 [.st .district] l)),(43,o8)] []) :=aQ (cgc (nX.norm [.st .district]) (cgc uy cg0)) cg0
 refine a8 [.o] mixed aH hG (fn:=Tryz.f24) (c:=an Tryz.f24) (by kernel_rfl) (by kernel_rfl) (by kernel_rfl) (by kernel_rfl) (bI fun a0=> (dl fun a1=> (aN (fun hp=> ?_))))
 dsimp only [aT] at hp
 unfold gf at hp
 refine ⟨Nat.le_of_ble_eq_true rfl,(fun id st=> bif Nat.beq id 0 then some (LCR (ρ:=Unit) (σ:=Unit) 1 [] [0] (fun k_0 s_0=> ⟨[(1,.rs .claim a1),(2,.ptr 0 0),(16,.rs .claim a1),(17,.v (.int .i64 (a1.length : Int))),(18,.v (.int .i64 (k_0 : Int)))],[.cells (cellsOf .district a0)]⟩) (eb a0 a1) (fZ a0 a1) a1.length () (a1.length≤bg) (fun _=> .ret) (fun x_0_0=> ⟨[(4,.v (.int .i64 260))],[.dead]⟩) st) else none),?_,?_⟩
 ·unfold an Tryz.f24
  simp only [aA,true_and,and_true]
  ·refine db mixed aH hG (by kernel_rfl) (fun _=> rfl) (a1.length : Int) rfl kQ (fun hb0 k_0 s_0 hlt0 hq0 hw hc=> ⟨L0,ay _,?_⟩) (fun hb0 s_0 hc=> ?_)
   ·unfold fZ at hq0
    try simp only [hw,Int.toNat_natCast] at hq0
    exact AO
   ·exact AP
 ·unfold an Tryz.f24
  try unfold aZ
  simp only [go_sem,Nat.reduceBEq,Nat.reduceLeDiff,Nat.reduceLT,decide_true,Nat.reduceAdd,Nat.reduceSub,Nat.reduceMul,Int.reduceLE,Int.reduceLT,Int.reduceToNat,Int.reduceNeg,reduceCtorEq]
  all_goals exact cl
end Go.Sx
end
section
namespace Go.Sx
open Go.Proofs
def m_ (a : Order) : Int:=bif a.outlet then 1 else 0
def olt (a b : Order) : Prop:=a.hour < b.hour∨a.hour=b.hour∧(m_ a < m_ b∨m_ a=m_ b∧a.index < b.index)
theorem ix (x y : Int) : aS x y=if x < y then -1 else if x > y then 1 else 0:=by
 unfold aS fL
 simp [Bool.cond_eq_ite]
theorem AQ {a b : Order} (h : ax a b < 0) : olt a b:=by
 unfold ax at h
 unfold olt
 have k0 : ∀ x,lA 0 x=x.hour:=fun _=> rfl
 have k1 : ∀ x,lA 1 x=m_ x:=fun _=> rfl
 have k2 : ∀ x,lA 2 x=x.index:=fun _=> rfl
 simp only [az,qc,Nat.zero_add,Nat.reduceAdd,k0,k1,k2,ix] at h
 generalize m_ a=p at h ⊢
 generalize m_ b=q at h ⊢
 rcases Int.lt_trichotomy a.hour b.hour with e | e | e
 ·exact .inl e
 ·refine .inr ⟨e,?_⟩
  rcases Int.lt_trichotomy p q with e1 | e1 | e1
  ·exact .inl e1
  ·refine .inr ⟨e1,?_⟩
   rcases Int.lt_trichotomy a.index b.index with e2 | e2 | e2
   ·exact e2
   ·simp [e,e1,e2] at h
   ·have h1 : ¬ a.index < b.index:=by omega
    simp [e,e1,e2,h1] at h
  ·have h1 : ¬ p < q:=by omega
   simp [e,e1,h1] at h
 ·have h1 : ¬ a.hour < b.hour:=by omega
  simp [e,h1] at h
theorem ya {a b c : Order} (h1 : olt a b) (h2 : olt b c) : olt a c:=by
 unfold olt at *;omega
theorem AR (a b : Order) : ax a b < 0↔olt a b:=by
 refine ⟨AQ,fun h=> ?_⟩
 unfold ax
 have k0 : ∀ x,lA 0 x=x.hour:=fun _=> rfl
 have k1 : ∀ x,lA 1 x=m_ x:=fun _=> rfl
 have k2 : ∀ x,lA 2 x=x.index:=fun _=> rfl
 simp only [az,qc,Nat.zero_add,Nat.reduceAdd,k0,k1,k2,ix]
 unfold olt at h
 generalize m_ a=p at h ⊢
 generalize m_ b=q at h ⊢
 rcases h with h | ⟨e,h | ⟨e2,h⟩⟩
 ·simp [h]
 ·simp [e,h]
 ·simp [e,e2,h]
open Go.Shelf Go.Sort in
theorem nI : SWO (ltOf ax) :=by
 have e : ∀ x y,ltOf ax x y=true↔olt x y:=fun x y=> by unfold ltOf;rw [decide_eq_true_eq,AR]
 have e' : ∀ x y,ltOf ax x y=false↔¬ olt x y:=fun x y=> by rw [←e];simp
 refine ⟨fun x=> (e' x x).2 (by unfold olt;omega),fun x y z h1 h2=> (e x z).2 (ya ((e x y).1 h1) ((e y z).1 h2)),fun x y z h1 h2=> (e' x z).2 ?_⟩
 have h1:=(e' x y).1 h1
 have h2:=(e' y z).1 h2
 unfold olt at *
 omega
end Go.Sx
end
section
namespace Go.Sx
open Go.Proofs
theorem gD {n i : Nat} {step : Nat→Unit→Unit⊕Unit} {s : Unit} (h : az step n i s= .inr s) : ∀ j,i≤j→j < i + n→step j ()= .inr () :=by
 induction n generalizing i with
 | zero=> intro j h1 h2;omega
 | succ n ih=>
  simp only [az] at h
  cases hs : step i s with
  | inl r=> rw [hs] at h;cases h
  | inr s'=>
   rw [hs] at h
   intro j h1 h2
   by_cases e : j=i
   ·subst e;cases s;exact hs
   ·exact ih h j (by omega) (by omega)
theorem sp {b : Bool} {e : Int} : bX b e=b:=by
 cases b <;> rfl
theorem zj {a b c : Int} (h : aR [a,b,c]=true) : a≤b∧b≤c:=by
 unfold aR at h
 simp only [List.length_cons,List.length_nil,Nat.zero_add,Nat.reduceAdd,Nat.reduceSub] at h
 split at h
 ·cases h
 ·rename_i s hs
  have h0:=gD hs 0 (by omega) (by omega)
  have h1:=gD hs 1 (by omega) (by omega)
  simp [dc,IntKind.wrap,IntKind.bits,IntKind.signed] at h0 h1
  constructor
  ·cases hd : decide (b < a) <;> simp_all <;> omega
  ·cases hd : decide (c < b) <;> simp_all <;> omega
theorem qd {a b c d : Int} (h : aR [a,b,c,d]=true) : a≤b∧b≤c∧c≤d:=by
 unfold aR at h
 simp only [List.length_cons,List.length_nil,Nat.zero_add,Nat.reduceAdd,Nat.reduceSub] at h
 split at h
 ·cases h
 ·rename_i s hs
  have h0:=gD hs 0 (by omega) (by omega)
  have h1:=gD hs 1 (by omega) (by omega)
  have h2:=gD hs 2 (by omega) (by omega)
  simp [dc,IntKind.wrap,IntKind.bits,IntKind.signed] at h0 h1 h2
  refine ⟨?_,?_,?_⟩
  ·cases hd : decide (b < a) <;> simp_all <;> omega
  ·cases hd : decide (c < b) <;> simp_all <;> omega
  ·cases hd : decide (d < c) <;> simp_all <;> omega
structure Right1 (d : District) : Prop where
 reaches : d.reaches.length≤64
 one : 0 < d.reaches.length
 farms : d.farms.length≤600
 rights : d.rights.length≤256
 hours1 : 1≤d.hours
 hours : d.hours≤4096
 start0 : 0≤d.tank.start
 start : d.tank.start≤d.tank.cap
 cap : d.tank.cap≤1099511627776
 reach : ∀ k,k < d.reaches.length→bB (k : Int) (d.reaches.getD k default)=true
 farm : ∀ k,k < d.farms.length→0≤(d.farms.getD k default).reach∧(d.farms.getD k default).reach < (d.reaches.length : Int)
theorem o9 {d : District} (h : (bn d !=0)=false) : Right1 d:=by
 have h : bn d=0:=by simpa using h
 unfold bn at h
 simp only [sp] at h
 cases h1 : (decide ((d.reaches.length : Int)≤64) && decide ((d.farms.length : Int)≤600) && decide ((d.crops.length : Int)≤32) && decide ((d.rights.length : Int)≤256) && decide ((d.duties.length : Int)≤256)) with
 | false=> rw [h1] at h;simp at h
 | true=>
  rw [h1] at h
  simp only [cond_true] at h
  cases h2 : eP d 191 with
  | false=> rw [h2] at h;simp at h
  | true=>
   unfold eP at h2
   simp only [sp] at h2
   cases h3 : (aR [1,d.hours,4096] && aR [0,d.tank.start,d.tank.cap,1099511627776] && decide ((d.reaches.length : Int) > 0)) with
   | false=> rw [h3] at h2;simp at h2
   | true=>
    rw [h3] at h2
    simp only [cond_true] at h2
    simp only [Bool.and_eq_true,decide_eq_true_eq] at h1 h3
    obtain ⟨r1,r2⟩ :=zj h3.1.1
    obtain ⟨r3,r4,r5⟩ :=qd h3.1.2
    split at h2
    ·cases h2
    rename_i s0 hs0
    split at h2
    ·cases h2
    rename_i s1 hs1
    split at h2
    ·cases h2
    rename_i s2 hs2
    refine ⟨by omega,by omega,by omega,by omega,r1,r2,r3,r4,r5,fun k hk=> ?_,fun k hk=> ?_⟩
    ·have:=gD hs0 k (by omega) (by omega)
     simp only [fX,sp] at this
     cases he : bB (k : Int) (d.reaches.getD k default) with
     | false=> rw [he] at this;simp at this
     | true=> rfl
    ·have:=gD hs2 k (by omega) (by omega)
     simp only [fY,sp] at this
     have hx : cB (d.farms.getD k default).reach (d.reaches.length : Int)=true:=by
      cases he : cB (d.farms.getD k default).reach (d.reaches.length : Int) with
      | false=> rw [he] at this;cases hd : decide ((d.farms.getD k default).area > 0) <;> rw [hd] at this <;> simp at this
      | true=> rfl
     simpa [cB] using hx
structure Order1 (d : District) (x : Order) : Prop where
 hour0 : 0≤x.hour
 hour : x.hour < d.hours
 index0 : 0≤x.index
 farm : x.outlet=true→x.index < (d.farms.length : Int)
 reach : x.outlet=false→x.index < (d.reaches.length : Int)
 litres1 : 1≤x.litres
 litres : x.litres≤1073741824
theorem na {k : Nat} (h : k < 9223372036854775807) (h1 : 0 < k) : IntKind.i64.wrap ((k : Int) - 1)=((k - 1 : Nat) : Int) :=by
 rw [da (by omega) (by omega)];omega
theorem CL (d : District) (l : List Order) : fJ d l:=fun _ h1 _ _=> qb _ _ _ fun j s h2 h3=> by
 unfold bg at h1
 unfold fB
 have e : decide ((j : Int) > 0)=true→(0≤IntKind.i64.wrap ((j : Int) - 1)∧IntKind.i64.wrap ((j : Int) - 1) < (l.length : Int)) :=fun h=> by
  simp only [decide_eq_true_eq] at h
  rw [na (by omega) (by omega)];omega
 exact fun _=> ⟨fun _ _ _=> e,fun _ _=> e⟩
structure Orders1 (d : District) (l : List Order) : Prop where
 right : Right1 d
 len : l.length≤4096
 one : ∀ k,k < l.length→Order1 d (l.getD k default)
 asc : ∀ k,k + 1 < l.length→ax (l.getD k default) (l.getD (k + 1) default) < 0
theorem wi {d : District} {l : List Order} (h : (b5 d l !=0)=false) : Orders1 d l:=by
 have h : b5 d l=0:=by simpa using h
 unfold b5 at h
 cases h1 : bn d !=0 with
 | true=> rw [h1] at h;simp at h h1;exact absurd h h1
 | false=>
  rw [h1] at h
  simp only [cond_false] at h
  cases h2 : decide ((l.length : Int) > 4096) with
  | true=> rw [h2] at h;simp at h
  | false=>
   rw [h2] at h
   simp only [cond_false] at h
   have hl : l.length≤4096:=by simp only [decide_eq_false_iff_not] at h2;omega
   split at h
   ·cases h
   rename_i s hs
   have key : ∀ k,k < l.length→Order1 d (l.getD k default)∧(0 < k→ax (l.getD (k - 1) default) (l.getD k default) < 0) :=by
    intro k hk
    have:=gD hs k (by omega) (by omega)
    have hp : ((k : Int) > 0)→(IntKind.i64.wrap ((k : Int) - 1)).toNat=k - 1:=fun h=> by
     rw [na (by omega) (by omega)];omega
    unfold dI at this
    generalize hx : l.getD k default=x at this ⊢
    cases ho : x.outlet with
    | true=>
     rw [ho] at this
     simp only [cond_true] at this
     rw [Bool.cond_eq_ite] at this
     split at this
     ·cases this
     ·rename_i hc
      simp only [Bool.not_eq_true,Bool.or_eq_false_iff,Bool.and_eq_false_iff,decide_eq_false_iff_not] at hc
      refine ⟨⟨by omega,by omega,by omega,fun _=> by omega,fun h=> by (rw [ho] at h;cases h),by omega,by omega⟩,fun hk0=> ?_⟩
      rcases hc.2 with h | h
      ·omega
      ·rw [hp (by omega)] at h;omega
    | false=>
     rw [ho] at this
     simp only [cond_false] at this
     rw [Bool.cond_eq_ite] at this
     split at this
     ·cases this
     ·rename_i hc
      simp only [Bool.not_eq_true,Bool.or_eq_false_iff,Bool.and_eq_false_iff,decide_eq_false_iff_not] at hc
      refine ⟨⟨by omega,by omega,by omega,fun h=> by (rw [ho] at h;cases h),fun _=> by omega,by omega,by omega⟩,fun hk0=> ?_⟩
      rcases hc.2 with h | h
      ·omega
      ·rw [hp (by omega)] at h;omega
   exact ⟨o9 h1,hl,fun k hk=> (key k hk).1,fun k hk=> (key (k + 1) hk).2 (by omega)⟩
structure Reach1 (i : Int) (x : Reach) : Prop where
 up : x.up < i
 delay1 : 1≤x.delay
 delay : x.delay≤16
 siphon0 : 0≤x.siphon
 siphon : x.siphon≤x.cap
 cap : x.cap≤1073741824
 bank : x.siphon≤x.bank
 bank1 : x.bank≤1099511627776
theorem yb {i : Int} {x : Reach} (hi : 0≤i) (h : bB i x=true) : Reach1 i x:=by
 unfold bB at h
 cases hd : decide (i > 0) with
 | true=>
  rw [hd] at h
  simp only [cond_true,Bool.and_eq_true,cB,decide_eq_true_eq] at h hd
  obtain ⟨⟨⟨⟨⟨h0,h1⟩,h2⟩,h3⟩,h4⟩,h5⟩ :=h
  have:=zj h1
  have:=qd h2
  have:=qd h3
  constructor <;> omega
 | false=>
  rw [hd] at h
  simp only [cond_false,Bool.and_eq_true,beq_iff_eq,decide_eq_false_iff_not] at h hd
  obtain ⟨⟨⟨⟨⟨h0,h1⟩,h2⟩,h3⟩,h4⟩,h5⟩ :=h
  have:=zj h1
  have:=qd h2
  have:=qd h3
  constructor <;> omega
theorem Right1.reach1 {d : District} (h : Right1 d) {k : Nat} (hk : k < d.reaches.length) : Reach1 k (d.reaches.getD k default) :=yb (by omega) (h.reach k hk)
theorem yc {step : Nat→Unit→Unit⊕Unit} : ∀ {n i : Nat},(∀ j,i≤j→j < i + n→step j ()= .inr ())→az step n i ()= .inr ()
 | 0,_,_=> rfl
 | n + 1,i,h=> by
  simp only [az]
  rw [h i (by omega) (by omega)]
  exact yc fun j h1 h2=> h j (by omega) (by omega)
theorem sq {step : Nat→Unit→Unit⊕Unit} {n : Nat} : az step n 0 ()= .inr ()↔∀ j,j < n→step j ()= .inr () :=
 ⟨fun h j hj=> gD h j (by omega) (by omega),fun h=> yc fun j _ h2=> h j (by omega)⟩
theorem CN {ρ : Type} {n i : Nat} {step : Nat→Unit→ρ⊕Unit} {s : Unit} (h : az step n i s= .inr s) : ∀ j,i≤j→j < i + n→step j ()= .inr () :=by
 induction n generalizing i with
 | zero=> intro j h1 h2;omega
 | succ n ih=>
  simp only [az] at h
  cases hs : step i s with
  | inl r=> rw [hs] at h;cases h
  | inr s'=>
   rw [hs] at h
   intro j h1 h2
   by_cases e : j=i
   ·subst e;cases s;exact hs
   ·exact ih h j (by omega) (by omega)
theorem qC (d : District) (l : List Order) : b5 d l=0↔bn d=0∧l.length≤4096∧∀ k,k < l.length→dI d l k ()= .inr () :=by
 unfold b5
 cases h1 : (bn d !=0) with
 | true=> simp at h1;simp [h1]
 | false=>
  simp at h1
  simp only [cond_false,h1,true_and]
  cases h2 : decide ((l.length : Int) > 4096) with
  | true=> simp at h2;simp;omega
  | false=>
   simp at h2
   rw [←sq]
   cases h3 : az (dI d l) l.length 0 () with
   | inl y=> simp
   | inr y=> simp;omega
theorem cD {α : Type} (l : List α) (d : α) {n : Nat} (h : n < l.length) : l.getD n d=l[n] :=by
 rw [List.getD_eq_getElem?_getD,List.getElem?_eq_getElem h];rfl
theorem Gt {κ υ : Type} [DecidableEq κ] (l : List (κ×υ)) (x z : κ) (y : υ) : gJ (oh l x y) z=if z=x then some y else gJ l z:=by
 induction l with
 | nil=> simp [oh,gJ]
 | cons a r ih=>
  obtain ⟨a,b⟩ :=a
  unfold oh
  by_cases h : x=a
  ·subst h
   simp only [if_pos]
   unfold gJ
   by_cases hz : z=x <;> simp [hz]
  ·rw [if_neg h]
   unfold gJ
   by_cases hz : z=a
   ·subst hz
    rw [if_pos rfl,if_neg (fun e=> h e.symm),if_pos rfl]
   ·rw [if_neg hz,ih,if_neg hz]
theorem iy {k : Tag} (l : List (k.T×Int)) (x z : k.T) (y : Int) : aD k .int (dn k .int l x y) z=if z=x then y else aD k .int l z:=by
 unfold aD dn
 rw [Gt]
 by_cases h : z=x <;> simp [h]
theorem Orders1.lt {d : District} {l : List Order} (h : Orders1 d l) : ∀ (k j : Nat),j < k→k < l.length→olt (l.getD j default) (l.getD k default)
 | k + 1,j,h1,h2=> by
  have h3:=AQ (h.asc k (by omega))
  by_cases e : j=k
  ·subst e;exact h3
  ·exact ya (h.lt k j (by omega) (by omega)) h3
def bV (p : Order→Bool) : List Order→Int
 | [] => 0
 | x :: r=> (bif p x then x.litres else 0) + bV p r
theorem wj (p : Order→Bool) (a b : List Order) : bV p (a ++ b)=bV p a + bV p b:=by
 induction a with
 | nil=> simp [bV]
 | cons x r ih=> simp only [List.cons_append,bV,ih];omega
theorem wl {p : Order→Bool} {l : List Order} (h : ∀ x∈l,1≤x.litres∧x.litres≤1073741824) : 0≤bV p l∧bV p l≤l.length * 1073741824:=by
 induction l with
 | nil=> simp [bV]
 | cons x r ih=>
  have h1:=ih fun a ha=> h a (List.mem_cons_of_mem _ ha)
  have h2:=h x List.mem_cons_self
  simp only [bV,List.length_cons]
  cases p x <;> simp only [cond_true,cond_false] <;> omega
theorem nb {p : Order→Bool} {l : List Order} (h : ∀ x∈l,p x=false) : bV p l=0:=by
 induction l with
 | nil=> rfl
 | cons x r ih=>
  simp only [bV]
  rw [h x List.mem_cons_self,ih fun y hy=> h y (List.mem_cons_of_mem _ hy)]
  rfl
theorem JE {p q r : Order→Bool} {l : List Order} (h : ∀ x∈l,(r x=(p x || q x))∧(p x && q x)=false) : bV p l + bV q l=bV r l:=by
 induction l with
 | nil=> rfl
 | cons x t ih=>
  simp only [bV]
  have h1:=h x List.mem_cons_self
  have h2:=ih fun y hy=> h y (List.mem_cons_of_mem _ hy)
  rw [h1.1]
  cases hp : p x <;> cases hq : q x <;> simp only [hp,hq,Bool.or_true,Bool.or_false,Bool.and_self,cond_true,cond_false] at h1 ⊢
  all_goals (first | omega | (simp at h1))
theorem JF {p : Order→Bool} {l : List Order} {j : Nat} (hj : j < l.length) (h : p l[j]=true) (hn : ∀ i (hi : i < l.length),i≠j→p l[i]=false) : bV p l=l[j].litres:=by
 have e : l=l.take j ++ l[j] :: l.drop (j + 1) :=by rw [←List.drop_eq_getElem_cons hj,List.take_append_drop]
 conv=> lhs;rw [e,wj]
 rw [nb fun x hx=> ?_]
 ·simp only [bV,h,cond_true]
  rw [nb fun x hx=> ?_]
  ·omega
  ·obtain ⟨i,hi,rfl⟩ :=List.getElem_of_mem hx
   rw [List.length_drop] at hi
   rw [List.getElem_drop]
   exact hn _ _ (by omega)
 ·obtain ⟨i,hi,rfl⟩ :=List.getElem_of_mem hx
  rw [List.length_take] at hi
  rw [List.getElem_take]
  exact hn _ _ (by omega)
theorem Orders1.lit {d : District} {l : List Order} (h : Orders1 d l) : ∀ x∈l,1≤x.litres∧x.litres≤1073741824:=fun x hx=> by
 obtain ⟨k,hk,rfl⟩ :=List.getElem_of_mem hx
 have:=h.one k hk
 rw [cD _ _ hk] at this
 exact ⟨this.litres1,this.litres⟩
theorem Orders1.uniq {d : District} {l : List Order} (h : Orders1 d l) {i j : Nat} (hi : i < l.length) (hj : j < l.length) (e1 : l[i].hour=l[j].hour) (e2 : l[i].index=l[j].index) (e3 : l[i].outlet=l[j].outlet) : i=j:=by
 have key : ∀ a b (ha : a < l.length) (hb : b < l.length),a < b→l[a].hour=l[b].hour→l[a].index=l[b].index→l[a].outlet=l[b].outlet→False:=fun a b ha hb hab e1 e2 e3=> by
  have:=h.lt b a hab hb
  rw [cD _ _ ha,cD _ _ hb] at this
  unfold olt m_ at this
  rw [e1,e2,e3] at this
  omega
 rcases Nat.lt_trichotomy i j with h1 | h1 | h1
 ·exact (key i j hi hj h1 e1 e2 e3).elim
 ·exact h1
 ·exact (key j i hj hi h1 e1.symm e2.symm e3.symm).elim
theorem nc {p : Order→Bool} {l : List Order} {j : Nat} (hj : j < l.length) : bV p (l.take (j + 1))=bV p (l.take j) + (bif p l[j] then l[j].litres else 0) :=by
 rw [List.take_succ_eq_append_getElem hj,wj]
 simp [bV]
theorem tz {κ υ : Type} [DecidableEq κ] : ∀ (l : List (κ×υ)) (x : κ) (y : υ),(oh l x y).map Prod.fst=if x∈l.map Prod.fst then l.map Prod.fst else l.map Prod.fst ++ [x]
 | [],x,y=> by simp [oh]
 | (a,b) :: r,x,y=> by
  unfold oh
  by_cases h : x=a
  ·subst h;simp
  ·rw [if_neg h,List.map_cons,tz r x y]
   simp only [List.map_cons,List.mem_cons,h,false_or]
   split <;> simp
theorem AS {κ υ : Type} [DecidableEq κ] : ∀ (l : List (κ×υ)) (e : κ×υ),(l.map Prod.fst).Nodup→e∈l→gJ l e.1=some e.2
 | (a,b) :: r,e,hn,he=> by
  simp only [List.map_cons,List.nodup_cons] at hn
  unfold gJ
  rcases List.mem_cons.1 he with rfl | he
  ·simp
  ·have : e.1≠a:=fun h=> hn.1 (h▸List.mem_map_of_mem he)
   rw [if_neg this]
   exact AS r e hn.2 he
theorem nf {α : Type} (l : List α) (d : α) {k : Nat} (h : k < l.length) : l.getD k d∈l:=by
 rw [cD l d h];exact List.getElem_mem _
theorem Fb {n d : Int} (hd : 1≤d) (hd2 : d≤1073741824) (h1 : -1152921504606846976≤n) (h2 : n≤1152921504606846976) : jz n d=n / d:=by
 unfold jz
 have e1 : Int.tmod (Int.tmod n d + d) d=n % d:=by
  have a1 : -d < Int.tmod n d:=Int.lt_tmod_of_pos n (by omega)
  rw [Int.tmod_eq_emod_of_nonneg (by omega),Int.add_emod_right]
  rw [Int.tmod_eq_emod]
  split
  ·show (n % d - 0) % d=n % d
   rw [Int.sub_zero,Int.emod_emod]
  ·have : n % d - (d.natAbs : Int)=n % d + d * (-1) :=by omega
   rw [this,Int.add_mul_emod_self_left,Int.emod_emod]
 have a1 : -d < Int.tmod n d:=Int.lt_tmod_of_pos n (by omega)
 have a2 : Int.tmod n d < d:=Int.tmod_lt_of_pos n (by omega)
 rw [da (by omega : -9223372036854775808≤Int.tmod n d + d) (by omega),e1]
 have b1:=Int.emod_nonneg n (by omega : d≠0)
 have b2:=Int.emod_lt_of_pos n (by omega : 0 < d)
 rw [da (by omega : -9223372036854775808≤n - n % d) (by omega)]
 have e2 : n - n % d=d * (n / d) :=by have:=Int.mul_ediv_add_emod n d;omega
 rw [e2,Int.mul_tdiv_cancel_left _ (by omega)]
 have c1 : n / d≤1152921504606846976:=by
  have:=Int.ediv_le_ediv (by omega : 0 < d) h2
  have:=Int.ediv_le_self (b:=d) (by omega : (0 : Int)≤1152921504606846976)
  omega
 have c2 : -1152921504606846976≤n / d:=by
  rw [Int.le_ediv_iff_mul_le (by omega)]
  have:=Int.mul_le_mul_of_nonneg_left (by omega : 1≤d) (by omega : (0 : Int)≤1152921504606846976)
  omega
 exact da (by omega) (by omega)
structure Rat (a : Ratio) : Prop where
 d1 : 1≤a.d
 d : a.d≤1073741824
 n0 : -1073741824≤a.n
 n : a.n≤1073741824
theorem JG {a : Ratio} (h : cd a=0) : Rat a:=by
 unfold cd at h
 rw [Bool.cond_eq_ite] at h
 split at h
 ·cases h
 ·rename_i h1
  simp only [Bool.or_eq_true,decide_eq_true_eq,not_or] at h1
  constructor <;> omega
theorem rb {i : Int} {x : Reach} (h : bB i x=true) : fA x.seep=true∧0≤x.evap.lo∧x.evap.lo≤x.evap.hi∧x.evap.hi≤1073741824:=by
 unfold bB at h
 cases hd : decide (i > 0) <;> rw [hd] at h <;> simp only [cond_true,cond_false,Bool.and_eq_true] at h
 all_goals
  have r1:=qd h.1.2
  exact ⟨h.2,r1.1,r1.2.1,r1.2.2⟩
theorem Sa {a b : Int} (h0 : -1073741824≤a) (h1 : a≤1073741824) (h2 : 0≤b) (h3 : b≤1073741824) : -1152921504606846976≤a * b∧a * b≤1152921504606846976:=by
 have h4:=Int.mul_le_mul_of_nonneg_right h0 h2
 have h5:=Int.mul_le_mul_of_nonneg_right h1 h2
 have h6 : -1073741824 * b= -(1073741824 * b) :=by omega
 omega
structure Seep (x : Ratio×Ratio) : Prop where
 r1 : Rat x.1
 r2 : Rat x.2
 c1 : cd x.1=0
 c2 : cd x.2=0
 cmp : eM x.1 x.2=((eM x.1 x.2).1,0)∧(eM x.1 x.2).1≤0
 le : x.1.n * x.2.d≤x.2.n * x.1.d
 n1 : 0≤x.1.n
 n2 : x.2.n≤x.2.d
 m1 : x.1.n≤x.1.d
 m2 : 0≤x.2.n
theorem zk {x : Ratio×Ratio} (h : fA x=true) : Seep x:=by
 unfold fA at h
 simp only [Bool.and_eq_true,beq_iff_eq,decide_eq_true_eq] at h
 obtain ⟨⟨⟨h1,h2⟩,h3⟩,h4⟩ :=h
 have hc : cd x.1=0∧cd x.2=0:=by
  unfold eM at h1
  rw [Bool.cond_eq_ite] at h1
  split at h1
  ·cases h1
  ·rename_i hq
   simp only [Bool.or_eq_true,bne_iff_ne,ne_eq,not_or,Decidable.not_not] at hq
   exact hq
 have r1:=JG hc.1
 have r2:=JG hc.2
 have b1:=Sa r1.n0 r1.n (by have:=r2.d1;omega) r2.d
 have b2:=Sa r2.n0 r2.n (by have:=r1.d1;omega) r1.d
 have hle : x.1.n * x.2.d≤x.2.n * x.1.d:=by
  unfold eM at h3
  rw [hc.1,hc.2] at h3
  simp only [bne_self_eq_false,Bool.or_self,cond_false] at h3
  rw [da (by omega) (by omega),da (by omega) (by omega),ix] at h3
  split at h3
  ·omega
  ·split at h3
   ·omega
   ·omega
 have e1:=r1.d1
 have e2:=r2.d1
 have m1 : x.1.n≤x.1.d:=by
  have:=Int.mul_le_mul_of_nonneg_right h4 (by omega : 0≤x.1.d)
  have hh : x.1.n * x.2.d≤x.1.d * x.2.d:=by rw [Int.mul_comm x.1.d];omega
  exact Int.le_of_mul_le_mul_right hh (by omega)
 have m2 : 0≤x.2.n:=by
  have:=Int.mul_nonneg h2 (by omega : 0≤x.2.d)
  have hh : 0 * x.1.d≤x.2.n * x.1.d:=by rw [Int.zero_mul];omega
  exact Int.le_of_mul_le_mul_right hh (by omega)
 exact ⟨r1,r2,hc.1,hc.2,⟨by rw [←h1],h3⟩,hle,h2,h4,m1,m2⟩
theorem Gu {x : Ratio×Ratio} (h : Seep x) : fM x=true:=by
 unfold fM iR jy
 have:=h.n1;have:=h.n2;have:=h.m1;have:=h.m2
 rw [h.c1,h.c2,decide_eq_true (by omega : x.1.n≥0),decide_eq_true (by omega : x.1.n≤x.1.d),decide_eq_true (by omega : x.2.n≥0),decide_eq_true (by omega : x.2.n≤x.2.d)]
 have h2:=congrArg Prod.snd h.cmp.1
 dsimp only at h2
 rw [h2,decide_eq_true h.cmp.2]
 rfl
theorem wm {a : Ratio} (h : Rat a) (hc : cd a=0) (h0 : 0≤a.n) {v : Int} (v0 : 0≤v) (v1 : v≤1073741824) : (dR a v).1=a.n * v / a.d∧(dR a v).2.1= -(-(a.n * v) / a.d)∧ -(-(a.n * v) / a.d)≤1152921504606846976∧0≤ -(-(a.n * v) / a.d) :=by
 have:=h.d1;have:=h.d;have:=h.n
 have hm:=Sa (by omega) h.n v0 v1
 have hm0:=Int.mul_nonneg h0 v0
 unfold dR
 have e1 : (decide (v < (-1073741824)) || decide (v > 1073741824))=false:=by simp only [Bool.or_eq_false_iff,decide_eq_false_iff_not];omega
 rw [hc,e1]
 simp only [bne_self_eq_false,cond_false]
 rw [da (by omega : -9223372036854775808≤0 - a.n) (by omega)]
 have e2 : (0 - a.n) * v= -(a.n * v) :=by rw [Int.sub_mul];omega
 rw [e2,da (by omega : -9223372036854775808≤ -(a.n * v)) (by omega),da (by omega : -9223372036854775808≤a.n * v) (by omega)]
 rw [Fb h.d1 h.d (by omega) (by omega),Fb h.d1 h.d (by omega) (by omega)]
 have c1 : -1152921504606846976≤ -(a.n * v) / a.d:=by
  rw [Int.le_ediv_iff_mul_le (by omega)]
  have:=Int.mul_le_mul_of_nonneg_left (by omega : 1≤a.d) (by omega : (0 : Int)≤1152921504606846976)
  omega
 have c2 : -(a.n * v) / a.d≤0:=by
  have:=Int.ediv_le_ediv (by omega : 0 < a.d) (by omega : -(a.n * v)≤0)
  simpa using this
 rw [da (by omega) (by omega)]
 exact ⟨rfl,by omega,by omega,by omega⟩
theorem sr {i : Int} {x : Reach} (h : bB i x=true) {v : Int} (v0 : 0≤v) (v1 : v≤1073741824) : cL x v=0∧0≤(dS x v).lo∧(dS x v).lo≤(dS x v).hi∧(dS x v).hi≤v:=by
 obtain ⟨h1,h2,h3,h4⟩ :=rb h
 have hs:=zk h1
 refine ⟨?_,?_⟩
 ·unfold cL gc jy
  rw [Gu hs,decide_eq_true (by omega : x.evap.lo≥0),decide_eq_true h3,decide_eq_true h4,decide_eq_true (by omega : v≥0),decide_eq_true v1]
  rfl
 ·unfold dS
  cases hv : (v==0) with
  | true=>
   simp only [beq_iff_eq] at hv
   simp only [cond_true];omega
  | false=>
   simp only [beq_eq_false_iff_ne,ne_eq] at hv
   simp only [cond_false]
   obtain ⟨a1,_,_,_⟩ :=wm hs.r1 hs.c1 hs.n1 v0 v1
   obtain ⟨_,b1,b2,b3⟩ :=wm hs.r2 hs.c2 hs.m2 v0 v1
   rw [a1,b1]
   have d1:=hs.r1.d1
   have d2:=hs.r2.d1
   have P0 : 0≤x.seep.1.n * v / x.seep.1.d:=Int.ediv_nonneg (Int.mul_nonneg hs.n1 v0) (by omega)
   have P1 : x.seep.1.n * v / x.seep.1.d * x.seep.1.d≤x.seep.1.n * v:=Int.ediv_mul_le _ (by omega)
   have Q1 : -(x.seep.2.n * v) / x.seep.2.d * x.seep.2.d≤ -(x.seep.2.n * v) :=Int.ediv_mul_le _ (by omega)
   generalize x.seep.1.n * v / x.seep.1.d=P at P0 P1
   generalize -(x.seep.2.n * v) / x.seep.2.d=Q at b2 b3 Q1
   have PV : P≤v:=by
    have:=Int.mul_le_mul_of_nonneg_right hs.m1 v0
    have hh : P * x.seep.1.d≤v * x.seep.1.d:=by rw [Int.mul_comm v];omega
    exact Int.le_of_mul_le_mul_right hh (by omega)
   have PQ : P≤ -Q:=by
    have e1:=Int.mul_le_mul_of_nonneg_right P1 (by omega : 0≤x.seep.2.d)
    have e2:=Int.mul_le_mul_of_nonneg_right hs.le v0
    have e3:=Int.mul_le_mul_of_nonneg_right Q1 (by omega : 0≤x.seep.1.d)
    have hh : P * (x.seep.1.d * x.seep.2.d)≤ -Q * (x.seep.1.d * x.seep.2.d) :=by
     have i1 : P * x.seep.1.d * x.seep.2.d=P * (x.seep.1.d * x.seep.2.d) :=Int.mul_assoc _ _ _
     have i2 : x.seep.1.n * v * x.seep.2.d=x.seep.1.n * x.seep.2.d * v:=by rw [Int.mul_assoc,Int.mul_comm v,←Int.mul_assoc]
     have i3 : x.seep.2.n * x.seep.1.d * v=x.seep.2.n * v * x.seep.1.d:=by rw [Int.mul_assoc,Int.mul_comm x.seep.1.d,←Int.mul_assoc]
     have i4 : Q * x.seep.2.d * x.seep.1.d=Q * (x.seep.1.d * x.seep.2.d) :=by rw [Int.mul_assoc,Int.mul_comm x.seep.2.d]
     have i5 : -(x.seep.2.n * v) * x.seep.1.d= -(x.seep.2.n * v * x.seep.1.d) :=Int.neg_mul _ _
     have i6 : -Q * (x.seep.1.d * x.seep.2.d)= -(Q * (x.seep.1.d * x.seep.2.d)) :=Int.neg_mul _ _
     omega
    have hp : 0 < x.seep.1.d * x.seep.2.d:=Int.mul_pos (by omega) (by omega)
    exact Int.le_of_mul_le_mul_right hh hp
   rw [da (by omega) (by omega),da (by omega) (by omega)]
   split <;> split <;> omega
end Go.Sx
end
section
namespace Go.Sx
open Go.Proofs
def wst (x : Reach) (v : Int) : Int:=v - (dS x v).hi
theorem nJ {i : Int} {x : Reach} (h : bB i x=true) {v : Int} (v0 : 0≤v) (v1 : v≤1073741824) : dp x v=(wst x v,0) :=by
 obtain ⟨e,h1,h2,h3⟩ :=sr h v0 v1
 unfold dp wst
 rw [e,da (by omega) (by omega)]
 rfl
theorem Um {i : Int} {x : Reach} (h : bB i x=true) {v : Int} (hv : ¬ (0≤v∧v≤1073741824)) : (dp x v).2≠0:=by
 have e:=(sr h (Int.le_refl 0) (by omega)).1
 unfold dp
 have : cL x v≠0:=by
  unfold cL jy at e ⊢
  cases hq : (!(gc x.evap 1073741824) || !(fM x.seep)) with
  | true=> rw [hq] at e;simp at e
  | false=>
   simp only [cond_false]
   have : (decide (v≥0) && decide (v≤1073741824))=false:=by
    rw [Bool.and_eq_false_iff,decide_eq_false_iff_not,decide_eq_false_iff_not];omega
   rw [this];simp
 have h2 : (cL x v !=0)=true:=by simpa using this
 rw [h2];simpa using this
theorem JH {i : Int} {x : Reach} (h : bB i x=true) {v : Int} (v0 : 0≤v) (v1 : v≤1073741824) : wst x v=max 0 ((x.seep.2.d - x.seep.2.n) * v / x.seep.2.d - x.evap.hi) :=by
 obtain ⟨g1,g2,g3,g4⟩ :=rb h
 have hs:=zk g1
 have d1:=hs.r2.d1
 have hk : (x.seep.2.d - x.seep.2.n) * v / x.seep.2.d=v + -(x.seep.2.n * v) / x.seep.2.d:=by
  rw [Int.sub_mul,Int.sub_eq_add_neg,Int.add_comm,Int.add_mul_ediv_left _ _ (by omega)];omega
 rw [hk]
 unfold wst dS
 cases hv : (v==0) with
 | true=>
  simp only [beq_iff_eq] at hv
  subst hv
  simp only [cond_true,Int.mul_zero,Int.neg_zero,Int.zero_ediv]
  show (0 : Int) - 0=_
  omega
 | false=>
  simp only [cond_false]
  obtain ⟨_,b1,b2,b3⟩ :=wm hs.r2 hs.c2 hs.m2 v0 v1
  rw [b1]
  generalize -(x.seep.2.n * v) / x.seep.2.d=Q at b2 b3 ⊢
  rw [da (by omega) (by omega)]
  split <;> omega
theorem O1 {k d a b : Int} (hk : 0≤k) (hd : 1≤d) (h : a≤b) : k * a / d≤k * b / d:=Int.ediv_le_ediv (by omega) (Int.mul_le_mul_of_nonneg_left h hk)
section
variable {i : Int} {x : Reach}
theorem CO (h : bB i x=true) {v : Int} (v0 : 0≤v) (v1 : v≤1073741824) : 0≤wst x v∧wst x v≤v:=by
 have:=sr h v0 v1
 unfold wst;omega
theorem AT (h : bB i x=true) {a b : Int} (a0 : 0≤a) (hab : a≤b) (b1 : b≤1073741824) : wst x a≤wst x b:=by
 have hs:=zk (rb h).1
 have:=hs.r2.d1
 rw [JH h a0 (by omega),JH h (by omega) b1]
 have:=O1 (k:=x.seep.2.d - x.seep.2.n) (d:=x.seep.2.d) (by have:=hs.n2;omega) hs.r2.d1 hab
 omega
theorem JI (h : bB i x=true) : wst x 0=0:=by
 have:=CO h (Int.le_refl 0) (by omega);omega
end
theorem half {i j : Int} (h0 : 0≤i) (h1 : i≤j) (h2 : j≤2305843009213693952) : IntKind.i64.wrap (BO .u64 (IntKind.u64.wrap (IntKind.i64.wrap (i + j))) 1)=(i + j) / 2:=by
 have e0 : IntKind.i64.wrap (i + j)=i + j:=da (by omega) (by omega)
 have e : IntKind.u64.wrap (i + j)=i + j:=by
  unfold IntKind.wrap
  simp [IntKind.bits,IntKind.signed]
  omega
 have e2 : BO .u64 (i + j) 1=(i + j) / 2:=by
  show Int.fdiv (i + j) ((2 : Int) ^ min (Int.toNat 1) IntKind.u64.bits)=_
  have : (2 : Int) ^ min (Int.toNat 1) IntKind.u64.bits=2:=by decide
  rw [this,Int.fdiv_eq_ediv_of_nonneg _ (by omega)]
 rw [e0,e,e2,da (by omega) (by omega)]
theorem CP {f : Int→Bool} {N : Int} {step : Nat→Int×Int→Int⊕(Int×Int)} (hN : N≤2305843009213693952)
  (hs : ∀ k i j,0≤i→i < j→j≤N→step k (i,j)=if f ((i + j) / 2)=true then .inr (i,(i + j) / 2) else .inr ((i + j) / 2 + 1,j)) (he : ∀ k i j,¬ i < j→step k (i,j)= .inl i) :
  ∀ (fuel k : Nat) (i j : Int),0≤i→i≤j→j≤N→j - i < 2 ^ fuel→∃ v,az step (fuel + 1) k (i,j)= .inl v∧i≤v∧v≤j∧
   ((∀ a b,0≤a→a≤b→b < N→f a=true→f b=true)→(∀ u,i≤u→u < v→f u=false)∧(v < j→f v=true)) :=by
 intro fuel
 induction fuel with
 | zero=>
  intro k i j h0 h1 h2 h3
  have : j=i:=by simp at h3;omega
  subst this
  exact ⟨j,by simp only [az,he k j j (by omega)],Int.le_refl _,Int.le_refl _,fun _=> ⟨fun u h4 h5=> by omega,fun h=> by omega⟩⟩
 | succ fuel ih=>
  intro k i j h0 h1 h2 h3
  by_cases hlt : i < j
  ·have hp : (2 : Int) ^ (fuel + 1)=2 ^ fuel + 2 ^ fuel:=by rw [Int.pow_succ];omega
   rw [show fuel + 1 + 1=(fuel + 1) + 1 from rfl]
   simp only [az,hs k i j h0 hlt h2]
   by_cases hf : f ((i + j) / 2)=true
   ·rw [if_pos hf]
    obtain ⟨v,e1,e2,e3,e4⟩ :=ih (k + 1) i ((i + j) / 2) h0 (by omega) (by omega) (by omega)
    refine ⟨v,e1,e2,by omega,fun hm=> ⟨(e4 hm).1,fun _=> ?_⟩⟩
    by_cases hv : v < (i + j) / 2
    ·exact (e4 hm).2 hv
    ·have : v=(i + j) / 2:=by omega
     rw [this];exact hf
   ·rw [if_neg hf]
    obtain ⟨v,e1,e2,e3,e4⟩ :=ih (k + 1) ((i + j) / 2 + 1) j (by omega) (by omega) h2 (by omega)
    refine ⟨v,e1,by omega,e3,fun hm=> ⟨fun u h4 h5=> ?_,(e4 hm).2⟩⟩
    by_cases hu : (i + j) / 2 + 1≤u
    ·exact (e4 hm).1 u hu h5
    ·cases hfu : f u with
     | false=> rfl
     | true=> exact absurd (hm u ((i + j) / 2) (by omega) (by omega) (by omega) hfu) hf
  ·have : j=i:=by omega
   subst this
   exact ⟨j,by simp only [az,he k j j (by omega)],Int.le_refl _,Int.le_refl _,fun _=> ⟨fun u h4 h5=> by omega,fun h=> by omega⟩⟩
theorem yd (w : Int) (x : Reach) : ∃ v,az (fe x w) 64 0 (0,1073741825)= .inl v∧0≤v∧v≤1073741825∧
  ((∀ a b,0≤a→a≤b→b < 1073741825→cH a x w=true→cH b x w=true)→(∀ u,0≤u→u < v→cH u x w=false)∧(v < 1073741825→cH v x w=true)) :=by
 refine CP (f:=fun v=> cH v x w) (N:=1073741825) (by omega) (fun k i j h0 h1 h2=> ?_) (fun k i j h=> ?_) 63 0 0 1073741825 (by omega) (by omega) (by omega) (by decide)
 ·unfold fe
  simp only
  rw [half h0 (by omega) (by omega),decide_eq_true h1,da (by omega) (by omega)]
  cases cH ((i + j) / 2) x w <;> simp
 ·unfold fe
  simp only
  rw [decide_eq_false h];rfl
theorem JJ (w : Int) (x : Reach) : jN 1073741825 x w:=fun z hz=> by
 obtain ⟨v,h,_⟩ :=yd w x
 rw [h] at hz;cases hz
theorem Fc (x : Reach) (w : Int) : g0 x w:=fun _=> JJ _ x
theorem JK (x : Reach) (w : Int) : gA x w:=fun _=> Fc x w
section
variable {i : Int} {x : Reach}
theorem JL (h : bB i x=true) {w : Int} (hw : 1≤w) (hw2 : w≤1073741824) : 0≤cC (w - 1) x∧cC (w - 1) x≤1073741825∧(∀ u,0≤u→u < cC (w - 1) x→wst x u < w)∧(cC (w - 1) x≤1073741824→w≤wst x (cC (w - 1) x)) :=by
 obtain ⟨v,e1,e2,e3,e4⟩ :=yd (w - 1) x
 have ev : cC (w - 1) x=v:=by unfold cC mf;rw [e1]
 have hf : ∀ u,0≤u→u≤1073741824→(cH u x (w - 1)=true↔w≤wst x u) :=fun u u0 u1=> by
  have:=sr h u0 u1
  unfold cH jM wst
  rw [da (by omega) (by omega),decide_eq_true_eq];omega
 obtain ⟨e5,e6⟩ :=e4 fun a b a0 hab hb ha=> (hf b (by omega) (by omega)).2 (by
  have:=AT h a0 hab (by omega)
  have:=(hf a a0 (by omega)).1 ha;omega)
 rw [ev]
 refine ⟨e2,e3,fun u u0 u1=> ?_,fun hv=> (hf v e2 hv).1 (e6 (by omega))⟩
 have:=e5 u u0 u1
 by_cases hq : w≤wst x u
 ·rw [(hf u u0 (by omega)).2 hq] at this;cases this
 ·omega
theorem tA (h0 : 0≤i) (h : bB i x=true) {w : Int} (hw : 1≤w) : (∃ v,aB x w=(v,true)∧1≤v∧v≤1073741824∧x.siphon≤v∧w≤wst x v∧∀ u,0≤u→u≤1073741824→x.siphon≤u→w≤wst x u→v≤u)∨
  ((aB x w).2=false∧∀ u,0≤u→u≤1073741824→wst x u < w) :=by
 have hr:=yb h0 h
 unfold aB
 have hw0 : (w==0)=false:=by rw [beq_eq_false_iff_ne];omega
 by_cases hw2 : w≤1073741824
 ·have hc : (w==0 || decide (w > 1073741824))=false:=by rw [hw0,decide_eq_false (by omega)];rfl
  rw [hc,hw0]
  simp only [cond_false]
  obtain ⟨l1,l2,l3,l4⟩ :=JL h hw hw2
  unfold b4
  have hv : (cL x w !=0)=false:=by rw [(sr h (by omega) hw2).1];rfl
  rw [hv,da (by omega) (by omega)]
  simp only [cond_false]
  by_cases hl : cC (w - 1) x≤1073741824
  ·rw [decide_eq_false (by omega)]
   simp only [cond_false,Bool.not_true]
   have l5:=l4 hl
   have l6:=CO h l1 hl
   refine .inl ⟨_,rfl,?_,?_,?_,?_,fun u u0 u1 u2 u3=> ?_⟩
   ·split <;> omega
   ·have:=hr.siphon;have:=hr.cap;split <;> omega
   ·split <;> omega
   ·have:=hr.siphon;have:=hr.cap
    split
    ·exact Int.le_trans l5 (AT h l1 (by omega) (by omega))
    ·exact l5
   ·have : cC (w - 1) x≤u:=by
     rcases Int.lt_or_le u (cC (w - 1) x) with q | q
     ·have:=l3 u u0 q;omega
     ·exact q
    split <;> omega
  ·rw [decide_eq_true (by omega)]
   simp only [cond_true,Bool.not_false]
   exact .inr ⟨trivial,fun u u0 u1=> l3 u u0 (by omega)⟩
 ·have hc : (w==0 || decide (w > 1073741824))=true:=by rw [decide_eq_true (by omega : w > 1073741824),Bool.or_true]
  rw [hc]
  refine .inr ⟨by simpa using hw0,fun u u0 u1=> ?_⟩
  have:=CO h u0 u1;omega
end
end Go.Sx
end
section
namespace Go.Sx
def Sb {α : Type} : Result α→World
 | .ok _ w=> w
 | .halt _ w=> w
theorem CQ {α : Type} : ∀ (a : Ask α) (w : World),w.drawn≤(w.ask a).2.drawn
 | .done a,w=> Nat.le_refl _
 | .ask what range k,w=> by
  unfold World.ask
  dsimp only
  split
  ·exact CQ _ w
  ·exact Nat.le_trans (Nat.le_succ _) (CQ _ { w with drawn:=w.drawn + 1})
theorem Sc (w : World) (c : Sys) : w.drawn≤(w.sys c).2.drawn:=by
 unfold World.sys
 have:=CQ (Kernel.perform c w.os) w
 split
 ·exact Nat.le_refl _
 ·rename_i h
  rw [h] at this
  exact this
theorem AU {p : Program} {w w' : World} {a : Addr} {v : Value} {b : Bool} {l : List Addr} (h : w.farStore p a v b= .ok (w',l)) : w'.drawn=w.drawn:=by
 unfold World.farStore at h
 split at h
 ·split at h
  ·rename_i r hr
   cases h
   unfold World.viewStore at hr
   simp only [bind,Except.bind,pure,Except.pure] at hr
   repeat' split at hr
   all_goals (first | (cases hr;done) | skip)
   all_goals (cases hr;rfl)
  ·cases h
 ·cases h
theorem zl {α : Type} (p : Program) : ∀ (s : Sem α) (w : World),w.drawn≤(Sb (s.run p w)).drawn:=by
 intro s
 induction s with
 | pure a=> intro w;exact Nat.le_refl _
 | load m a k ih=>
  intro w
  unfold Sem.run
  split
  ·exact ih _ w
  ·split
   ·exact ih _ w
   ·exact Nat.le_refl _
 | store m a v k ih=>
  intro w
  cases v
  case agg=> exact Nat.le_refl _
  case tuple=> exact Nat.le_refl _
  all_goals
   simp only [Sem.run]
   split
   ·split
    ·exact Nat.le_refl _
    ·exact ih (w.setCell a _)
   ·split
    ·rename_i h
     rw [←AU h];exact ih _
    ·exact Nat.le_refl _
 | new o k ih=> intro w;exact ih w.heap.size { w with heap:=w.heap.push o}
 | shape r k ih=> intro w;exact ih _ _
 | freeze a n k ih=>
  intro w
  have : (w.freeze a n).drawn=w.drawn:=by unfold World.freeze;split <;> rfl
  rw [←this];exact ih _
 | frozen a k ih=> intro w;exact ih _ _
 | getObj r k ih=>
  intro w
  unfold Sem.run
  split
  ·exact Nat.le_refl _
  ·exact ih _ _
  ·exact Nat.le_refl _
 | setObj r o k ih=>
  intro w
  unfold Sem.run
  split
  ·exact Nat.le_refl _
  ·exact ih { w with heap:=w.heap.setIfInBounds r o}
  ·exact Nat.le_refl _
 | choose q k ih=>
  intro w
  unfold Sem.run
  split
  ·exact ih _ _
  ·exact Nat.le_trans (Nat.le_succ _) (ih _ { w with drawn:=w.drawn + 1})
 | sys c k ih=> intro w;exact Nat.le_trans (Sc w c) (ih _ _)
 | program k ih=> intro w;exact ih _ _
 | mark m k ih=> intro w;exact ih _
 | halt h=> intro w;exact Nat.le_refl _
theorem JM {α : Type} (p : Program) : ∀ (s : Sem α) (w : World) (es : Array Event),(s.runT p w es).1=s.run p w:=by
 intro s
 induction s with
 | store m a v k ih=>
  intro w es
  cases v
  case agg=> rfl
  case tuple=> rfl
  all_goals
   simp only [Sem.runT,Sem.run]
   split
   ·split
    ·rfl
    ·exact ih _ _
   ·split
    ·exact ih _ _
    ·rfl
 | load m a k ih=>
  intro w es
  simp only [Sem.runT,Sem.run]
  split
  ·exact ih _ _ _
  ·split
   ·exact ih _ _ _
   ·rfl
 | getObj r k ih=>
  intro w es
  simp only [Sem.runT,Sem.run]
  split
  ·rfl
  ·exact ih _ _ _
  ·rfl
 | setObj r o k ih=>
  intro w es
  simp only [Sem.runT,Sem.run]
  split
  ·rfl
  ·exact ih _ _
  ·rfl
 | choose q k ih=>
  intro w es
  simp only [Sem.runT,Sem.run]
  split
  ·exact ih _ _ _
  ·exact ih _ _ _
 | pure a=> intro w es;rfl
 | new o k ih=> intro w es;exact ih _ _ _
 | shape r k ih=> intro w es;exact ih _ _ _
 | freeze a n k ih=> intro w es;exact ih _ _
 | frozen a k ih=> intro w es;exact ih _ _ _
 | sys c k ih=> intro w es;exact ih _ _ _
 | program k ih=> intro w es;exact ih _ _ _
 | mark m k ih=> intro w es;exact ih _ _
 | halt h=> intro w es;rfl
theorem gh {α : Type} {p : Program} {s : Sem α} {w w' : World} {a : α} (h : s.run p w= .ok a w') : w.drawn≤w'.drawn:=by have:=zl p s w;rw [h] at this;exact this
theorem JN {α : Type} {p : Program} {s : Sem α} {w w' : World} {a : Halt} (h : s.run p w= .halt a w') : w.drawn≤w'.drawn:=by have:=zl p s w;rw [h] at this;exact this
theorem kT {α : Type} {p : Program} {s : Sem α} {w : World} {es es' : Array Event} {r : Result α} (h : s.runT p w es=(r,es')) : w.drawn≤(Sb r).drawn:=by
 have:=JM p s w es
 rw [h] at this
 have h2:=zl p s w
 rw [←this] at h2
 exact h2
def gLe (w : World) : GStep→Prop
 | .ended .. => True
 | .go _ w' _ | .comm _ _ _ _ w' _ | .spawn _ _ w' _ | .count _ w' _ | .timer _ _ w' _ | .alone _ _ w' _ | .newcoro _ _ _ w' _ | .coroswitch _ _ _ w' _ | .collect _ w' _ | .watch _ w' _=> w.drawn≤w'.drawn
theorem gLe.after {w : World} {es : Array Event} {s : GStep} (h : gLe w s) : gLe w (s.after es) :=by cases s <;> exact h
theorem gLe.trans {w w' : World} {s : GStep} (h1 : w.drawn≤w'.drawn) (h : gLe w' s) : gLe w s:=by cases s <;> first | trivial | exact Nat.le_trans h1 h
theorem su {c : Prop} [Decidable c] {w : World} {a b : GStep} (h1 : gLe w a) (h2 : gLe w b) : gLe w (if c then a else b) :=by split <;> assumption
theorem mg (fr : Frame) (m : String) (w : World) : gLe w (endThrow fr m w) :=Nat.le_refl _
theorem o_ (p : Program) (fr : Frame) (v : Value) (w : World) : gLe w (endPrinting p fr v w) :=by
 unfold endPrinting
 dsimp only
 split
 ·exact mg _ _ _
 ·trivial
theorem t7 (p : Program) (fr : Frame) (callers : List Frame) (dying : Option Dying) (m : String) (w : World) : gLe w (endFatal p fr callers dying m w) :=by
 unfold endFatal
 extract_lets
 split
 ·rename_i h;exact gh h
 ·trivial
 ·trivial
theorem CR (p : Program) (fr : Frame) (d : Dying) (f : Fatal) (w : World) : gLe w (writeOn p fr d f w) :=by
 unfold writeOn
 extract_lets
 split
 ·trivial
 ·extract_lets
  generalize h : Sem.runT _ _ _ _=rr
  obtain ⟨r,es⟩ :=rr
  have h:=kT h
  split
  ·rename_i e;cases e;exact h
  ·rename_i e;cases e;exact h
  ·trivial
  ·trivial
theorem CS (w w' : World) (fd : Nat) (t : ByteArray) (o : Outcome) : gLe w (endWith w' fd t o) :=by
 unfold endWith
 extract_lets
 split
 ·split <;> trivial
 ·trivial
 ·trivial
theorem Sd (p : Program) (fr : Frame) (d : Dying) (w : World) : gLe w (die p fr d w) :=by
 unfold die
 split
 ·exact CR _ _ _ _ _
 ·split
  ·split
   ·exact Nat.le_refl _
   ·exact CS _ _ _ _ _
  ·extract_lets
   split
   ·exact Nat.le_refl _
   ·split
    ·rename_i h;exact gh h
    ·trivial
   ·split
    rename_i h
    have h:=kT h
    refine gLe.after ?_
    split
    all_goals first | exact h | trivial | exact gLe.trans h (o_ _ _ _ _)
   ·trivial
theorem pa (p : Program) (main : Bool) (fr : Frame) (callers : List Frame) (dying : Option Dying) (v : Value) (w : World) : gLe w (doReturn p main fr callers dying v w) :=by
 unfold doReturn
 split
 ·split
  all_goals exact Nat.le_refl _
 ·split
  ·exact Nat.le_refl _
  ·trivial
  ·split
   ·exact Nat.le_refl _
   ·split
    ·exact Nat.le_refl _
    ·trivial
theorem uz (p : Program) (fr : Frame) (callers : List Frame) (dying : Option Dying) (d : Deferred) (w : World) : gLe w (callDeferred p fr callers dying d w) :=by
 unfold callDeferred
 refine su trivial ?_
 rcases h : (invoke d.target d.args).runT p w #[] with ⟨r,es⟩
 have h:=kT h
 dsimp only
 refine gLe.after ?_
 split
 all_goals first | exact h | trivial | exact gLe.trans h (t7 _ _ _ _ _ _) | exact gLe.trans h (mg _ _ _) | skip
 split <;> exact h
theorem Gv (p : Program) (main : Bool) (fr : Frame) (callers : List Frame) (dying : Option Dying) (w : World) : gLe w (unwind p main fr callers dying w) :=by
 unfold unwind
 split
 ·split
  rename_i h
  have h:=kT h
  refine gLe.after ?_
  split
  ·exact h
  ·trivial
 ·exact uz _ _ _ _ _ _
 ·split
  ·trivial
  ·split
   ·trivial
   ·split
    ·exact Nat.le_refl _
    ·split
     ·split
      ·exact Nat.le_refl _
      ·split
       ·rename_i h;exact gh h
       ·trivial
       ·trivial
     ·split
      ·exact o_ _ _ _ _
      ·trivial
  ·split
   ·exact pa _ _ _ _ _ _ _
   ·split
    rename_i h
    have h:=kT h
    refine gLe.after ?_
    split
    ·exact gLe.trans h (pa _ _ _ _ _ _ _)
    ·trivial
    ·trivial
theorem JO (p : Program) (fr : Frame) (callers : List Frame) (dying : Option Dying) (g : Nat) (w : World) : gLe w (early p fr callers dying g w) :=by
 unfold early
 extract_lets refuse notYet there
 have hn : ∀ w0 : World,w.drawn≤w0.drawn→gLe w (notYet w0) :=fun w0 h0=> by
  show gLe w (match w0.heap[g]? with | some (.pending c elem) => _ | _=> _)
  split
  ·exact h0
  ·trivial
 split
 ·exact hn w (Nat.le_refl _)
 ·split
  ·trivial
  ·extract_lets there
   have ht : ∀ w0 : World,w.drawn≤w0.drawn→gLe w (there w0) :=fun w0 h0=> h0
   split
   ·exact hn w (Nat.le_refl _)
   ·split
    ·exact hn w (Nat.le_refl _)
    ·split
     ·trivial
     ·exact ht w (Nat.le_refl _)
     ·trivial
     ·exact hn w (Nat.le_refl _)
     ·split
      ·exact ht w (Nat.le_refl _)
      ·split
       ·exact hn w (Nat.le_refl _)
       ·split
        ·rename_i h;exact hn _ (gh h)
        ·rename_i h;exact ht _ (gh h)
        ·trivial
end Go.Sx
end
section
namespace Go.Sx
theorem pb (p : Program) (listen : Bool) (fr : Frame) (callers : List Frame) (dying : Option Dying) (s : Sem Next) (w : World) : gLe w (Go.stepG.apply p listen fr callers dying s w) :=by
 unfold Go.stepG.apply
 extract_lets go kind
 have hr : ∃ r es,(if listen=true then s.runT p w #[] else (s.run p w,#[]))=(r,es)∧w.drawn≤(Sb r).drawn:=by
  split
  ·rcases h : s.runT p w #[] with ⟨r,es⟩
   exact ⟨r,es,rfl,kT h⟩
  ·exact ⟨_,_,rfl,zl p s w⟩
 obtain ⟨r,es,he,h⟩ :=hr
 rw [he]
 dsimp only
 refine gLe.after ?_
 have hgo : ∀ fr w0,w.drawn≤w0.drawn→gLe w (go fr w0) :=fun fr w0 h0=> h0
 split
 all_goals first | exact h | trivial | exact hgo _ _ h | exact gLe.trans h (t7 _ _ _ _ _ _) | exact gLe.trans h (mg _ _ _) | exact gLe.trans h (JO _ _ _ _ _ _) | skip
 all_goals first | (refine su (gLe.trans h (mg _ _ _)) ?_;exact h) | (split <;> first | exact h | trivial | exact hgo _ _ h)
theorem O2 (p : Program) (listen : Bool) (fr : Frame) (callers : List Frame) (dying : Option Dying) (w : World) : gLe w (Go.stepG.oper p listen fr callers dying w) :=by
 unfold Go.stepG.oper
 split
 ·trivial
 ·split
  ·exact pb _ _ _ _ _ _ _
  ·exact pb _ _ _ _ _ _ _
theorem Fd {α : Type} {w : World} {o : Option α} {a : GStep} {f : α→GStep} (h1 : gLe w a) (h2 : ∀ x,gLe w (f x)) : gLe w (o.elim a f) :=by cases o;exact h1;exact h2 _
theorem O3 (p : Program) (main listen : Bool) (fr : Frame) (callers : List Frame) (dying : Option Dying) (w : World) : gLe w (Go.stepG.exec p main listen fr callers dying w) :=by
 unfold Go.stepG.exec
 extract_lets go to lost leave
 have hgo : ∀ fr w0,w.drawn≤w0.drawn→gLe w (go fr w0) :=fun fr w0 h0=> h0
 have hto : ∀ k,gLe w (to k) :=fun k=> Nat.le_refl _
 have hlost : ∀ m,gLe w (lost m) :=fun _=> trivial
 have hleave : ∀ j,gLe w (leave j) :=fun j=> by
  show gLe w (match fr.roundOf with | none=> _ | some l=> _)
  split
  ·refine su (hgo _ _ (Nat.le_refl _)) trivial
  ·rcases h : (Instr.endRound _ j).runT p w #[] with ⟨r,es⟩
   have h:=kT h
   dsimp only
   refine gLe.after ?_
   split
   ·exact gLe.trans h (pa _ _ _ _ _ _ _)
   ·trivial
 have hgo1 : ∀ fr,gLe w (go fr w) :=fun fr=> Nat.le_refl _
 clear_value to lost leave
 split
 all_goals first | exact hleave _ | exact hto _ | exact hlost _ | trivial | exact Fd (hleave _) hto | exact pb _ _ _ _ _ _ _ | exact Fd (hlost _) (fun _=> pb _ _ _ _ _ _ _) | skip
 ·split
  ·exact hto _
  ·exact hlost _
 ·rcases h : (Instr.enterLoop fr.fn fr.tmps _ _ _ fr.roundOf).runT p w #[] with ⟨r,es⟩
  have h:=kT h
  dsimp only
  refine gLe.after ?_
  split
  ·exact gLe.trans h (pb _ _ _ _ _ _ _)
  ·trivial
 ·rcases h : (Instr.endLoop _).runT p w #[] with ⟨r,es⟩
  have h:=kT h
  dsimp only
  refine gLe.after ?_
  split
  ·exact hgo _ _ h
  ·exact hgo _ _ h
  ·trivial
 ·refine su (hto _) ?_
  split
  ·rename_i h;exact hgo _ _ (gh h)
  ·trivial
 ·exact su (O2 _ _ _ _ _ _) (hgo1 _)
theorem JP (p : Program) (main : Bool) (g : Goroutine) (w : World) (listen : Bool) : gLe w (Go.stepG p main g w listen) :=by
 unfold Go.stepG
 obtain ⟨fr,callers,st,dying,off⟩ :=g
 dsimp only
 split
 ·exact Sd _ _ _ _
 ·exact O3 _ _ _ _ _ _ _
 ·exact Gv _ _ _ _ _ _
def sLe (w : World) : Stepped→Prop
 | .next m=> w.drawn≤m.world.drawn
 | .ended .. => True
theorem sLe.trans {w w' : World} {s : Stepped} (h1 : w.drawn≤w'.drawn) (h : sLe w' s) : sLe w s:=by cases s <;> first | trivial | exact Nat.le_trans h1 h
theorem Fe {c : Prop} [Decidable c] {w : World} {a b : Stepped} (h1 : sLe w a) (h2 : sLe w b) : sLe w (if c then a else b) :=by split <;> assumption
theorem Fg (p : Program) (gs : Array Goroutine) (rest : Rest) (w : World) : sLe w (look p gs rest w) :=by
 unfold look
 split
 ·extract_lets
  refine Fe trivial ?_
  split
  ·trivial
  ·extract_lets
   split
   ·rename_i h
    have h:=gh h
    exact h
   ·trivial
   ·trivial
 ·trivial
theorem zm {rest : Rest} {cases : Array CommCase} {w w' : World} (h : waitingAt rest cases w=some w') : w.drawn≤w'.drawn:=by
 unfold waitingAt at h
 split at h
 ·split at h
  ·cases h;exact Nat.le_refl _
  ·cases h
 ·cases h;exact Nat.le_refl _
theorem wn (p : Program) (rest : Rest) (gs : Array Goroutine) (i : Nat) (g : Goroutine) (cases : Array CommCase) (bl : Bool) (shape : CommShape) (w : World) : sLe w (communicate p rest gs i g cases bl shape w).1:=by
 unfold communicate
 extract_lets put illMade me other
 have hput : ∀ g gs w0 ops,w.drawn≤w0.drawn→sLe w (put g gs w0 ops).1:=fun _ _ _ _ h=> h
 split
 ·trivial
 ·split
  ·split
   ·split
    ·rename_i h;exact zm h
    ·trivial
   ·exact hput _ _ _ _ (Nat.le_refl _)
  ·split
   ·trivial
   ·rename_i h
    have hw:=gh h
    clear h
    extract_lets r
    split
    ·split
     ·rename_i h2;exact hput _ _ _ _ (Nat.le_trans hw (JN h2))
     ·trivial
    ·exact hput _ _ _ _ hw
    ·exact hput _ _ _ _ hw
    ·extract_lets
     split
     ·exact hput _ _ _ _ hw
     ·split
      ·rename_i h2;have h3:=gh h2;exact hput _ _ _ _ (Nat.le_trans hw h3)
      ·trivial
    ·exact hput _ _ _ _ hw
    ·exact hput _ _ _ _ hw
    ·trivial
theorem ye (m : Machine) (k : Nat) (t : Timer) (a b : Nat) : m.world.drawn≤(retime m k t a b).2.world.drawn:=by
 unfold retime drain
 dsimp only
 repeat' split
 all_goals first | exact Nat.le_refl _ | skip
 all_goals (simp_all;try omega)
theorem CT {m m' : Machine} {op : TimerOp} {v : Value} (h : timerOp m op= .ok (v,m')) : m.world.drawn≤m'.world.drawn:=by
 have named : ∀ (D : Nat) (m0 : Machine) var f,(∀ k t,D≤(f k t).2.world.drawn)→timerOp.named m0 var f= .ok (v,m')→D≤m'.world.drawn:=fun D m0 var f hf h=> by
  unfold timerOp.named at h
  split at h
  ·injection h with h
   exact Nat.le_trans (hf _ _) (Nat.le_of_eq (congrArg (fun x : Value×Machine=> x.2.world.drawn) h))
  ·cases h
 unfold timerOp at h
 split at h
 ·split at h
  ·cases h;exact Nat.le_refl _
  ·split at h
   ·split at h
    ·cases h
    ·cases h;exact Nat.le_refl _
   ·cases h
 ·exact named _ _ _ _ (fun k t=> ye _ _ _ _ _) h
 ·split at h
  ·rename_i m1 ho
   have h1 : m.world.drawn≤m1.world.drawn:=by
    unfold timerOp.opened at ho
    split at ho
    ·split at ho
     ·cases ho;exact Nat.le_refl _
     ·cases ho
    ·cases ho;exact Nat.le_refl _
   exact Nat.le_trans h1 (named m1.world.drawn _ _ _ (fun k t=> ye _ _ _ _ _) h)
  ·cases h
 ·cases h;exact Nat.le_refl _
theorem JQ (p : Program) (m : Machine) (i : Nat) (listen : Bool) : sLe m.world (Go.runT p m i listen).1:=by
 unfold Go.runT
 extract_lets rest world
 split
 extract_lets wake fn pos s ops done
 have hs : gLe m.world s:=JP _ _ _ _ _
 have hd : ∀ r,(done r).1=r:=fun r=> rfl
 clear_value s done
 split
 all_goals try rw [hd]
 ·trivial
 ·split
  rename_i h
  have:=wn p rest ‹_› i ‹_› ‹_› ‹_› ‹_› ‹_›
  rw [h] at this
  exact sLe.trans hs this
 ·exact hs
 ·exact hs
 ·exact Fe trivial hs
 ·exact hs
 ·exact sLe.trans hs (Fg _ _ _ _)
 ·exact hs
 ·exact hs
 ·split
  ·exact hs
  ·split
   ·rename_i h
    simp only [endThrow,dieOf] at h
    cases h
    exact hs
   ·trivial
  ·trivial
 ·split
  ·rename_i h;exact Nat.le_trans hs (CT h)
  ·exact hs
  ·trivial
  ·trivial
theorem JR (p : Program) (m : Machine) (k : Nat) : sLe m.world (serve p m k) :=by
 unfold serve
 split
 ·trivial
 ·exact Nat.le_refl _
 ·extract_lets
  split
  ·trivial
  ·exact Nat.le_refl _
def mLe (w : World) : Move→Prop
 | .goroutine m _=> w.drawn≤m.world.drawn
 | .machine s _=> sLe w s
theorem mLe.trans {w w' : World} {s : Move} (h1 : w.drawn≤w'.drawn) (h : mLe w' s) : mLe w s:=by
 cases s
 ·exact Nat.le_trans h1 h
 ·exact sLe.trans h1 h
theorem wo (p : Program) (m : Machine) : mLe m.world (askOn p m) :=by
 unfold askOn
 extract_lets mono rs ds pick
 have hpick : ∀ m0 : Machine,m.world.drawn≤m0.world.drawn→mLe m.world (pick m0) :=fun m0 h0=> by
  show mLe m.world (match (choose (.sched rs.length)).run p m0.world with | .halt _ w=> _ | .ok k world=> _)
  split
  ·trivial
  ·rename_i h
   have h1:=gh h
   split
   ·exact Nat.le_trans h0 h1
   ·split
    ·trivial
    ·rename_i h2
     have h2:=gh h2
     exact Nat.le_trans h0 (Nat.le_trans h1 h2)
 clear_value pick rs ds
 split
 ·trivial
 ·rename_i h
  have hw:=gh h
  clear h
  extract_lets m1
  split
  ·exact sLe.trans hw (JR p _ _)
  ·cases rs with
   | nil=>
    dsimp only
    split
    ·exact hw
    ·split
     ·exact hw
     ·split <;> trivial
   | cons r rs=>
    dsimp only
    split
    ·exact hpick _ hw
    ·split
     ·trivial
     ·rename_i h;have h2:=gh h;exact hpick _ (Nat.le_trans hw h2)
     ·rename_i h;have h2:=gh h;exact Nat.le_trans hw h2
     ·rename_i h;have h2:=gh h;exact hpick _ (Nat.le_trans hw h2)
theorem AV (p : Program) (m : Machine) : mLe m.world (ask p m) :=by
 unfold ask
 split
 ·split
  ·trivial
  ·rename_i h
   have hw:=gh h
   have:=Fg p m.gs m.rest ‹World›
   split
   ·rename_i m2 h2
    rw [h2] at this
    exact mLe.trans (Nat.le_trans hw this) (wo p _)
   ·rename_i e h2
    exact sLe.trans hw this
  ·rename_i h
   have hw:=gh h
   exact mLe.trans hw (wo p _)
 ·exact wo p m
theorem O4 (p : Program) (m : Machine) : mLe m.world (move p m) :=by
 unfold move
 split
 ·split
  ·exact Nat.le_refl _
  ·trivial
 ·split
  ·split
   ·exact Nat.le_refl _
   ·exact AV p _
  ·exact AV p m
theorem O5 (p : Program) (m : Machine) : sLe m.world (step p m) :=by
 unfold step stepT
 have:=O4 p m
 split
 ·rename_i h
  rw [h] at this
  exact sLe.trans this (JQ p _ _ _)
 ·rename_i h
  rw [h] at this
  exact this
theorem AW {p : Program} {m m' : Machine} (h : Steps p m m') : m.world.drawn≤m'.world.drawn:=by
 obtain ⟨n,hn⟩ :=h
 induction n generalizing m with
 | zero=> simp only [runN,Stepped.next.injEq] at hn;subst hn;exact Nat.le_refl _
 | succ n ih=>
  simp only [runN] at hn
  have:=O5 p m
  cases hs : step p m with
  | next m1=>
   rw [hs] at hn this
   exact Nat.le_trans this (ih hn)
  | ended o w=> rw [hs] at hn;cases hn
theorem AX {P : Program} {f : FuncId} {args : Array Value} {w : World} {R : Ending→World→Prop} (h : Calls P f args w R) : Calls P f args w fun e w'=> R e w'∧(e≠ .outgrown→w.drawn≤w'.drawn) :=by
 intro cs
 obtain ⟨e,w',fr,hr,hc,hf,hl⟩ :=h cs
 refine ⟨e,w',fr,⟨hr,fun hne=> ?_⟩,hc,hf,hl⟩
 cases e with
 | returned v=> exact AW (p:=P) hc
 | panicked c=> exact AW (p:=P) hc
 | outgrown=> exact absurd rfl hne
end Go.Sx
end
section
namespace Go.Sx
open Go.RowKit Go.Shelf Go.Lib Go.Sort Go.Proofs
def V2 : SV→Value
 | .v x=> x
 | _=> undef
def kU (k : Tag) (x : k.T) : List Value:=(cellsOf k x).map V2
def wp (k : Tag) : Prop:= ∀ (x : k.T) (s : SV),s∈cellsOf k x→∃ v,s= .v v∧v.oneCell'=true
def srt {α : Type} (cf : α→α→Int) (l : List α) : List α:=l.mergeSort fun x y=> !(ltOf cf y x)
def apart {α : Type} (cf : α→α→Int) (l : List α) : Prop:= ∀ x∈l,∀ y∈l,ltOf cf x y=false→ltOf cf y x=false→x=y
theorem CU {α : Type} [Inhabited α] {cf : α→α→Int} (hO : SWO (ltOf cf)) {l : List α} (h : apart cf l) {d' : Array α} (hp : PermIn 0 l.toArray.size l.toArray d') (hs : SortedIn (ltOf cf) 0 l.toArray.size d') : d'=(srt cf l).toArray:=by
 obtain ⟨hsz,_,hperm⟩ :=hp
 have e1 : d'.extract 0 l.toArray.size=d':=by rw [←hsz];exact Array.extract_size
 rw [e1,Array.extract_size] at hperm
 have hperm : d'.toList.Perm l:=by simpa using hperm
 have : d'.toList=srt cf l:=by
  refine List.Perm.eq_of_pairwise (le:=fun x y=> (!ltOf cf y x)=true) ?_ ?_ ?_ (hperm.trans (List.mergeSort_perm _ _).symm)
  ·intro a b ha hb h1 h2
   simp only [Bool.not_eq_true'] at h1 h2
   exact h a (hperm.subset ha) b ((List.mergeSort_perm _ _).subset hb) h2 h1
  ·rw [List.pairwise_iff_getElem]
   intro i j hi hj hij
   have:=hs i j (Nat.zero_le _) hij (by simp only [List.size_toArray] at hsz ⊢;simp only [Array.length_toList] at hj;omega)
   simp only [Array.length_toList] at hi hj
   rw [getElem!_pos d' i hi,getElem!_pos d' j hj] at this
   simpa using this
  ·refine List.pairwise_mergeSort (fun a b c h1 h2=> ?_) (fun a b=> ?_) l
   ·simp only [Bool.not_eq_true'] at h1 h2 ⊢
    exact hO.ntrans c b a h2 h1
   ·simp only [Bool.or_eq_true,Bool.not_eq_true']
    cases h1 : ltOf cf b a with
    | false=> exact .inl rfl
    | true=>
     right
     cases h2 : ltOf cf a b with
     | false=> rfl
     | true=>
      have h3:=hO.trans a b a h2 h1
      rw [hO.irrefl] at h3;cases h3
 rw [←this]
section
variable {P : Program} {ρ : Ren} {F : Nat→Prop} {own : Own} {w : World} {k : Tag}
theorem Gw (hk : wp k) {l : List k.T} {o : Nat} {cs : Array Value} (h : RowAt F own w k l o cs) {i j : Nat} (hi : i < l.length) (hj : j < aa k) : cs[o + i * aa k + j]? =(kU k l[i])[j]? :=by
 have e1:=List.getElem?_eq_getElem hi
 have hlen : j < (cellsOf k l[i]).length:=by rw [bf];exact hj
 have e2:=List.getElem?_eq_getElem hlen
 obtain ⟨u,h1,h2⟩ :=h i _ e1 j _ e2
 obtain ⟨v,h3,_⟩ :=hk l[i] _ (List.getElem_mem hlen)
 rw [h1]
 unfold kU
 rw [List.getElem?_map,e2]
 rw [h3] at h2 ⊢
 rw [bJ h2]
 rfl
theorem Gx (hk : wp k) {l : List k.T} {o : Nat} {cs : Array Value} (h : ∀ i j,(hi : i < l.length)→j < aa k→cs[o + i * aa k + j]? =(kU k l[i])[j]?) : RowAt F own w k l o cs:=by
 intro i x hi j s hj
 obtain ⟨hl,rfl⟩ :=List.getElem?_eq_some_iff.1 hi
 have hlen:=(List.getElem?_eq_some_iff.1 hj).1
 rw [bf] at hlen
 have:=h i j hl hlen
 unfold kU at this
 rw [List.getElem?_map,hj] at this
 obtain ⟨v,h3,_⟩ :=hk _ s (List.mem_of_getElem? hj)
 subst h3
 exact ⟨v,this,.v v⟩
theorem O6 {w w' : World} (hb : Go.RowKit.Below w.heap.size w w') (hd : w.drawn≤w'.drawn) : ∃ q os,w'=grow (w.drewN q) os:=by
 refine ⟨w'.drawn - w.drawn,w'.heap.extract w.heap.size w'.heap.size,?_⟩
 obtain ⟨h1,h2,h3,h4,h5⟩ :=hb
 obtain ⟨heap,tape,drawn,os,output⟩ :=w
 obtain ⟨heap',tape',drawn',os',output'⟩ :=w'
 simp only at h1 h2 h3 h4 h5 hd
 subst h1;subst h2;subst h3
 unfold grow World.drewN
 simp only [World.mk.injEq,true_and,and_true]
 refine ⟨?_,by omega⟩
 apply Array.ext
 ·simp;omega
 ·intro i hi1 hi2
  by_cases hi : i < heap.size
  ·rw [Array.getElem_append_left hi]
   have:=h5 i hi
   rw [Array.getElem?_eq_getElem hi1,Array.getElem?_eq_getElem hi] at this
   exact Option.some.inj this
  ·rw [Array.getElem_append_right (by omega)]
   simp only [Array.getElem_extract]
   congr 1;omega
end
end Go.Sx
end
