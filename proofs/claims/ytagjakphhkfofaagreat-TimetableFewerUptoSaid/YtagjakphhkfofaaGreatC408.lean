/- Part of the proof that the law TimetableFewer returns true and leaves its arguments as they were, for all arguments of bulk at most 1048576 (the Upto form). -/
import Derived.Test.YtagjakphhkfofaaGreatC407
import Derived.Sort.Statements
import Derived.Shelf.SlSortCmp.Insertion
import Derived.Calls
import Derived.Shelf.SlSortCmp.NoneTotal
set_option linter.all false
section
namespace Go.Sx
open Go.Proofs
set_option maxRecDepth 100000
set_option linter.unusedSimpArgs false
theorem zS {p : Prop} (h : p:=by (first | done | (repeat' (first | with_reducible refine And.intro ?_ ?_ | ((with_reducible show _≠_);first | assumption | omega | (simp_all [aK,aU];done) | grind) | with_reducible intro _)) <;> (first | done | exact Empty.elim ‹Empty› | assumption | rfl | omega | decide | exact fk [0] | (simp only [*,cond_true,cond_false,Bool.not_true,Bool.not_false,go_sem,Nat.reduceBEq,Nat.reduceLeDiff,Nat.reduceLT,decide_true,Nat.reduceAdd,Nat.reduceSub,Nat.reduceMul,Int.reduceLE,Int.reduceLT,Int.reduceToNat,Int.reduceNeg,reduceCtorEq];done) | (simp only [*,cond_true,cond_false,Bool.not_true,Bool.not_false,go_sem,Nat.reduceBEq,Nat.reduceLeDiff,Nat.reduceLT,decide_true,Nat.reduceAdd,Nat.reduceSub,Nat.reduceMul,Int.reduceLE,Int.reduceLT,Int.reduceToNat,Int.reduceNeg,reduceCtorEq];(repeat' (first | with_reducible refine And.intro ?_ ?_ | ((with_reducible show _≠_);first | assumption | omega | (simp_all [aK,aU];done) | grind) | with_reducible intro _)) <;> (first | done | assumption | rfl | omega | decide | exact fk [0] | (simp_all [aK,aU];done))) | (simp_all [okI,aK,aU];done) | (simp_all [aK,aU];(first | done | exact fk2 [0])) | exact fk2 [0]))) : p:=h
theorem og {p : Prop} (h : p:=by simp only [go_sem,Nat.reduceBEq,Nat.reduceLeDiff,Nat.reduceLT,decide_true,Nat.reduceAdd,Nat.reduceSub,Nat.reduceMul,Int.reduceLE,Int.reduceLT,Int.reduceToNat,Int.reduceNeg,reduceCtorEq,hc,hw];all_goals exact zS) : p:=h
theorem oh {p : Prop} (h : p:=by simp only [go_sem,Nat.reduceBEq,Nat.reduceLeDiff,Nat.reduceLT,decide_true,Nat.reduceAdd,Nat.reduceSub,Nat.reduceMul,Int.reduceLE,Int.reduceLT,Int.reduceToNat,Int.reduceNeg,reduceCtorEq,hc];all_goals exact zS) : p:=h
def fu (x : Int) : Bool:=(x !=x)
@[go_sem] def nq : List SV→Option Con:=(pI fun x=> (pE (.det True (.v (.bool (fu x))))))
theorem sE : FnOk Tryz.prog 113 nq:=by
 have hG : ConsOk Tryz.prog (mkG [] []) :=aQ cg0 cg0
 refine ba [.o] mixed aH hG (fn:=Tryz.f113) (c:=aj Tryz.f113) (by kernel_rfl) (by kernel_rfl) (by kernel_rfl) (by kernel_rfl) (d5 fun x=> (aO (fun hp=> ?_)))
 dsimp only [aW] at hp
 refine ⟨Nat.le_of_ble_eq_true rfl,L0,aw _,?_⟩
 ·unfold aj Tryz.f113
  try unfold fu
  simp only [go_sem,Nat.reduceBEq,Nat.reduceLeDiff,Nat.reduceLT,decide_true,Nat.reduceAdd,Nat.reduceSub,Nat.reduceMul,Int.reduceLE,Int.reduceLT,Int.reduceToNat,Int.reduceNeg,reduceCtorEq]
  all_goals exact cl
def aR (x : Int) (y : Int) : Int:=(bif (fu x) then (bif (fu y) then 0 else (-1)) else (bif (fu y) then 1 else (bif (decide (x < y)) then (-1) else (bif (decide (x > y)) then 1 else 0))))
@[go_sem] def cp : List SV→Option Con:=(pI fun x=> (pI fun y=> (pE (.det True (.v (.int .i64 (aR x y)))))))
theorem cS : FnOk Tryz.prog 70 cp:=by
 have hG : ConsOk Tryz.prog (mkG [(113,nq)] []) :=aQ (cgc sE cg0) cg0
 refine ba [.o] mixed aH hG (fn:=Tryz.f70) (c:=aj Tryz.f70) (by kernel_rfl) (by kernel_rfl) (by kernel_rfl) (by kernel_rfl) (d5 fun x=> (d5 fun y=> (aO (fun hp=> ?_))))
 dsimp only [aW] at hp
 refine ⟨Nat.le_of_ble_eq_true rfl,L0,aw _,?_⟩
 ·unfold aj Tryz.f70
  try unfold aR
  simp only [go_sem,Nat.reduceBEq,Nat.reduceLeDiff,Nat.reduceLT,decide_true,Nat.reduceAdd,Nat.reduceSub,Nat.reduceMul,Int.reduceLE,Int.reduceLT,Int.reduceToNat,Int.reduceNeg,reduceCtorEq]
  all_goals exact cl
def er (n : Int) : Int:=(bif (decide (n < 0)) then (IntKind.u64.wrap (0 - (IntKind.u64.wrap n))) else (IntKind.u64.wrap n))
@[go_sem] def lF : List SV→Option Con:=(pI fun n=> (pE (.det True (.v (.int .u64 (er n))))))
theorem qw : FnOk Tryz.prog 176 lF:=by
 have hG : ConsOk Tryz.prog (mkG [] []) :=aQ cg0 cg0
 refine ba [.o] mixed aH hG (fn:=Tryz.f176) (c:=aj Tryz.f176) (by kernel_rfl) (by kernel_rfl) (by kernel_rfl) (by kernel_rfl) (d5 fun n=> (aO (fun hp=> ?_)))
 dsimp only [aW] at hp
 refine ⟨Nat.le_of_ble_eq_true rfl,L0,aw _,?_⟩
 ·unfold aj Tryz.f176
  try unfold er
  simp only [go_sem,Nat.reduceBEq,Nat.reduceLeDiff,Nat.reduceLT,decide_true,Nat.reduceAdd,Nat.reduceSub,Nat.reduceMul,Int.reduceLE,Int.reduceLT,Int.reduceToNat,Int.reduceNeg,reduceCtorEq]
  all_goals exact cl
def b9 (a : Ratio) : Int:=(bif (((((decide (a.d < 1)) || (decide (a.d > 1073741824))) || (decide (a.n < (-1073741824)))) || (decide (a.n > 1073741824))) || (((NT (Int.toNat (er a.n)) (Int.toNat (IntKind.u64.wrap a.d)) : Nat) : Int) !=1)) then 120 else 0)
def pY (a : Ratio) : Prop:=(((((decide (a.d < 1)) || (decide (a.d > 1073741824))) || (decide (a.n < (-1073741824)))) || (decide (a.n > 1073741824)))=false→(0≤(er a.n)∧0≤(IntKind.u64.wrap a.d)))
theorem vg (n : Int) : 0≤IntKind.u64.wrap n:=by
 simp [IntKind.wrap,IntKind.bits,IntKind.signed];omega
theorem sF (n : Int) : 0≤er n:=by
 unfold er
 cases decide (n < 0) <;> exact vg _
theorem vh (a : Ratio) : pY a:=fun _=> ⟨sF _,vg _⟩
@[go_sem] def jp : List SV→Option Con:=(pD .ratio fun a=> (pE (.det True (.v (.int .i64 (b9 a))))))
theorem kP : FnOk Tryz.prog 152 jp:=by
 have hG : ConsOk Tryz.prog (mkG [(175,C83),(176,lF)] []) :=aQ (cgc QZ (cgc qw cg0)) cg0
 refine ba [.o] mixed aH hG (fn:=Tryz.f152) (c:=aj Tryz.f152) (by kernel_rfl) (by kernel_rfl) (by kernel_rfl) (by kernel_rfl) (bW fun a=> (aO (fun hp=> ?_)))
 dsimp only [aW] at hp
 have hp:=vh a
 unfold pY at hp
 refine ⟨Nat.le_of_ble_eq_true rfl,L0,aw _,?_⟩
 ·unfold aj Tryz.f152
  try unfold b9
  simp only [go_sem,Nat.reduceBEq,Nat.reduceLeDiff,Nat.reduceLT,decide_true,Nat.reduceAdd,Nat.reduceSub,Nat.reduceMul,Int.reduceLE,Int.reduceLT,Int.reduceToNat,Int.reduceNeg,reduceCtorEq,C83]
  all_goals exact cl
def et (a : Ratio) (b : Ratio) : Int×Int:=(bif (((b9 a) !=0) || ((b9 b) !=0)) then (0,120) else ((aR (IntKind.i64.wrap (a.n * b.d)) (IntKind.i64.wrap (b.n * a.d))),0))
@[go_sem] def oi : List SV→Option Con:=(pD .ratio fun a=> (pD .ratio fun b=> (pE (.det True (.tup [.v (.int .i64 ((et a b).1)),.v (.int .i64 ((et a b).2))])))))
theorem ru : FnOk Tryz.prog 151 oi:=by
 have hG : ConsOk Tryz.prog (mkG [(70,cp),(152,jp)] []) :=aQ (cgc cS (cgc kP cg0)) cg0
 refine ba [.o,.o] mixed aH hG (fn:=Tryz.f151) (c:=aj Tryz.f151) (by kernel_rfl) (by kernel_rfl) (by kernel_rfl) (by kernel_rfl) (bW fun a=> (bW fun b=> (aO (fun hp=> ?_))))
 dsimp only [aW] at hp
 refine ⟨Nat.le_of_ble_eq_true rfl,L0,aw _,?_⟩
 ·unfold aj Tryz.f151
  try unfold et
  simp only [go_sem,Nat.reduceBEq,Nat.reduceLeDiff,Nat.reduceLT,decide_true,Nat.reduceAdd,Nat.reduceSub,Nat.reduceMul,Int.reduceLE,Int.reduceLT,Int.reduceToNat,Int.reduceNeg,reduceCtorEq]
  all_goals exact cl
def wu (ok : Bool) (e : Int) : Unit:=(bif (!ok) then default else ())
def bT (ok : Bool) (e : Int) : Bool:=(bif (!ok) then false else true)
@[go_sem] def jU : List SV→Option Con:=(pB fun ok=> (pI fun e=> (pE (.may (bT ok e) (.tup []) (.iface 169 (.int .i64 e))))))
theorem mu : FnOk Tryz.prog 75 jU:=by
 have hG : ConsOk Tryz.prog (mkG [] []) :=aQ cg0 cg0
 refine ba [] mixed aH hG (fn:=Tryz.f75) (c:=aj Tryz.f75) (by kernel_rfl) (by kernel_rfl) (by kernel_rfl) (by kernel_rfl) (Q5 fun ok=> (d5 fun e=> (aO (fun hp=> ?_))))
 dsimp only [aW] at hp
 refine ⟨Nat.le_of_ble_eq_true rfl,L0,aw _,?_⟩
 ·unfold aj Tryz.f75
  try unfold wu
  try unfold bT
  simp only [go_sem,Nat.reduceBEq,Nat.reduceLeDiff,Nat.reduceLT,decide_true,Nat.reduceAdd,Nat.reduceSub,Nat.reduceMul,Int.reduceLE,Int.reduceLT,Int.reduceToNat,Int.reduceNeg,reduceCtorEq]
  all_goals exact cl
@[go_sem] def cV (l_ : List Int) (k_0 : Nat) (s_0 : Unit) : Unit⊕Unit:=(bif (decide ((l_.getD (Int.toNat ((k_0 : Int) + 1)) (0 : Int)) < (l_.getD (Int.toNat (IntKind.i64.wrap (((k_0 : Int) + 1) - 1))) (0 : Int)))) then .inl () else .inr ())
def e_ (l_ : List Int) (k_0 : Nat) (s_0 : Unit) : Prop:=(l_.length≤bt→((0≤((k_0 : Int) + 1)∧((k_0 : Int) + 1) < (l_.length : Int))∧(0≤(IntKind.i64.wrap (((k_0 : Int) + 1) - 1))∧(IntKind.i64.wrap (((k_0 : Int) + 1) - 1)) < (l_.length : Int))))
def aP (l_ : List Int) : Bool:=(match ax (cV l_) (l_.length - 1) 0 () with | .inl x_0_0=> false | .inr s_0=> true)
def nr (l_ : List Int) : Prop:=okI (cV l_) (e_ l_) (l_.length - 1) 0 ()
theorem sG (l_ : List Int) : nr l_:=mU _ _ _ fun j s h1 h2 hm=> by
 unfold bt at hm
 rw [cH (by omega) (by omega)]
 omega
@[go_sem] def gU : List SV→Option Con:=(pR .int fun l_=> (pE (.det True (.v (.bool (aP l_))))))
set_option maxHeartbeats 4000000 in
theorem iZ : FnOk Tryz.prog 117 gU:=by
 have hG : ConsOk Tryz.prog (mkG [] []) :=aQ cg0 cg0
 refine ba [.o] mixed aH hG (fn:=Tryz.f117) (c:=aj Tryz.f117) (by kernel_rfl) (by kernel_rfl) (by kernel_rfl) (by kernel_rfl) (dq fun l_=> (aO (fun hp=> ?_)))
 dsimp only [aW] at hp
 have hp:=sG l_
 unfold nr at hp
 refine ⟨Nat.le_of_ble_eq_true rfl,(fun id st=> bif Nat.beq id 0 then some (LC (ρ:=Unit) (σ:=Unit) (lk 0 st.t= .rs .int l_∧lk 3 st.t= .v (.int .i64 1)∧st.h=[]∧okI (cV l_) (e_ l_) (l_.length - 1) 0 ()) (ax (cV l_) (l_.length - 1) 0 ()) (fun _=> .ret) (fun x_0_0=> ⟨[(2,.v (.bool false))],[]⟩) (fun s_0=> ⟨[],[]⟩)) else none),?_,?_⟩
 ·unfold aj Tryz.f117
  simp only [az,true_and,and_true]
  ·refine xg mixed aH hG (by kernel_rfl) fun st lc hC hp=> ?_
   simp only [go_sem,Nat.reduceBEq,Option.some.injEq] at hC
   subst hC
   obtain ⟨t,h⟩ :=st
   dsimp only [LC] at hp
   obtain ⟨e0_0,e0_1,rfl,hok0⟩ :=hp
   refine ⟨_,_,_,(cV l_),(e_ l_),(l_.length - 1),(),_,_,_,(fun k_0 s_0=> ⟨[(0,.rs .int l_),(3,.v (.int .i64 ((k_0 : Int) + 1)))],[]⟩),[],rfl,hok0,Nat.le_refl _,?_,fun k_0 s_0 hk0 hp0=> ?_⟩
   ·simp only [go_sem,Nat.reduceBEq,Nat.reduceLeDiff,Nat.reduceLT,decide_true,Nat.reduceAdd,Nat.reduceSub,Nat.reduceMul,Int.reduceLE,Int.reduceLT,Int.reduceToNat,Int.reduceNeg,reduceCtorEq,e0_0,e0_1]
    all_goals (first | done | decide | (repeat' (first | refine And.intro ?_ ?_ | rfl | decide)))
   refine ⟨L0,?_,?_⟩
   ·simp only [az,and_self,true_and,and_true]
   ·by_cases hb0 : l_.length≤bt
    rotate_left
    ·simp only [go_sem,Nat.reduceBEq,Nat.reduceLeDiff,Nat.reduceLT,decide_true,Nat.reduceAdd,Nat.reduceSub,Nat.reduceMul,Int.reduceLE,Int.reduceLT,Int.reduceToNat,Int.reduceNeg,reduceCtorEq,hb0]
    ·by_cases hlt0 : k_0 < (l_.length - 1)
     ·have hw0 : IntKind.i64.wrap (((k_0 : Nat) : Int) + 1 + 1)=((k_0 + 1 : Nat) : Int) + 1:=by (have hbb:=hb0;have hll:=hlt0;try unfold bt at hbb);rw [cH (by omega) (by omega)];omega
      have hq0:=hp0 hlt0
      unfold e_ at hq0
      replace hq0:=hq0 hb0
      try simp only [hw0,Int.toNat_natCast] at hq0
      have hc0 : decide (((k_0 : Int) + 1) < (l_.length : Int))=true:=by simp only [decide_eq_true_eq];omega
      simp only [go_sem,Nat.reduceBEq,Nat.reduceLeDiff,Nat.reduceLT,decide_true,Nat.reduceAdd,Nat.reduceSub,Nat.reduceMul,Int.reduceLE,Int.reduceLT,Int.reduceToNat,Int.reduceNeg,reduceCtorEq,cV,hc0,hw0]
      all_goals exact cl
     ·have hc0 : decide (((k_0 : Int) + 1) < (l_.length : Int))=false:=by simp only [decide_eq_false_iff_not];omega
      simp only [go_sem,Nat.reduceBEq,Nat.reduceLeDiff,Nat.reduceLT,decide_true,Nat.reduceAdd,Nat.reduceSub,Nat.reduceMul,Int.reduceLE,Int.reduceLT,Int.reduceToNat,Int.reduceNeg,reduceCtorEq,hc0]
      all_goals exact cl2
 ·unfold aj Tryz.f117
  try unfold aP
  simp only [go_sem,Nat.reduceBEq,Nat.reduceLeDiff,Nat.reduceLT,decide_true,Nat.reduceAdd,Nat.reduceSub,Nat.reduceMul,Int.reduceLE,Int.reduceLT,Int.reduceToNat,Int.reduceNeg,reduceCtorEq]
  all_goals exact cl
def cq (i : Int) (n : Int) : Bool:=((decide (i≥0)) && (decide (i < n)))
@[go_sem] def io : List SV→Option Con:=(pI fun i=> (pI fun n=> (pE (.det True (.v (.bool (cq i n)))))))
theorem jV : FnOk Tryz.prog 119 io:=by
 have hG : ConsOk Tryz.prog (mkG [] []) :=aQ cg0 cg0
 refine ba [.o] mixed aH hG (fn:=Tryz.f119) (c:=aj Tryz.f119) (by kernel_rfl) (by kernel_rfl) (by kernel_rfl) (by kernel_rfl) (d5 fun i=> (d5 fun n=> (aO (fun hp=> ?_))))
 dsimp only [aW] at hp
 refine ⟨Nat.le_of_ble_eq_true rfl,L0,aw _,?_⟩
 ·unfold aj Tryz.f119
  try unfold cq
  simp only [go_sem,Nat.reduceBEq,Nat.reduceLeDiff,Nat.reduceLT,decide_true,Nat.reduceAdd,Nat.reduceSub,Nat.reduceMul,Int.reduceLE,Int.reduceLT,Int.reduceToNat,Int.reduceNeg,reduceCtorEq]
  all_goals exact cl
def fa (x : Ratio×Ratio) : Bool:=(((((et x.1 x.2).2==0) && (decide (x.1.n≥0))) && (decide ((et x.1 x.2).1≤0))) && (decide (x.2.n≤x.2.d)))
@[go_sem] def oj : List SV→Option Con:=(pD .ratio2 fun x=> (pE (.det True (.v (.bool (fa x))))))
theorem tH : FnOk Tryz.prog 149 oj:=by
 have hG : ConsOk Tryz.prog (mkG [(151,oi)] []) :=aQ (cgc ru cg0) cg0
 refine ba [.o] mixed aH hG (fn:=Tryz.f149) (c:=aj Tryz.f149) (by kernel_rfl) (by kernel_rfl) (by kernel_rfl) (by kernel_rfl) (bW fun x=> (aO (fun hp=> ?_)))
 dsimp only [aW] at hp
 refine ⟨Nat.le_of_ble_eq_true rfl,L0,aw _,?_⟩
 ·unfold aj Tryz.f149
  try unfold fa
  simp only [go_sem,Nat.reduceBEq,Nat.reduceLeDiff,Nat.reduceLT,decide_true,Nat.reduceAdd,Nat.reduceSub,Nat.reduceMul,Int.reduceLE,Int.reduceLT,Int.reduceToNat,Int.reduceNeg,reduceCtorEq]
  all_goals exact cl
def bB (i : Int) (x : Reach) : Bool:=(bif (decide (i > 0)) then ((((((cq x.up i) && (aP ([1,x.delay,16]))) && (aP ([0,x.siphon,x.cap,1073741824]))) && (aP ([0,x.siphon,x.bank,1099511627776]))) && (aP ([0,x.evap.lo,x.evap.hi,1073741824]))) && (fa x.seep)) else ((((((x.up==(-1)) && (aP ([1,x.delay,16]))) && (aP ([0,x.siphon,x.cap,1073741824]))) && (aP ([0,x.siphon,x.bank,1099511627776]))) && (aP ([0,x.evap.lo,x.evap.hi,1073741824]))) && (fa x.seep)))
@[go_sem] def ol : List SV→Option Con:=(pI fun i=> (pD .reach fun x=> (pE (.det True (.v (.bool (bB i x)))))))
theorem tI : FnOk Tryz.prog 118 ol:=by
 have hG : ConsOk Tryz.prog (mkG [(117,fun l=> gU (c8 [.sl .int] l)),(119,io),(149,oj)] []) :=aQ (cgc (iZ.norm [.sl .int]) (cgc jV (cgc tH cg0))) cg0
 refine ba [.o] mixed aH hG (fn:=Tryz.f118) (c:=aj Tryz.f118) (by kernel_rfl) (by kernel_rfl) (by kernel_rfl) (by kernel_rfl) (d5 fun i=> (bW fun x=> (aO (fun hp=> ?_))))
 dsimp only [aW] at hp
 refine ⟨Nat.le_of_ble_eq_true rfl,L0,aw _,?_⟩
 ·unfold aj Tryz.f118
  try unfold bB
  simp only [go_sem,Nat.reduceBEq,Nat.reduceLeDiff,Nat.reduceLT,decide_true,Nat.reduceAdd,Nat.reduceSub,Nat.reduceMul,Int.reduceLE,Int.reduceLT,Int.reduceToNat,Int.reduceNeg,reduceCtorEq]
  all_goals exact cl
def mX (a0 : District) (a1 : Right) : Bool:=(bif (((!(cq a1.farm (a0.farms.length : Int))) || (!(cq a1.reach (a0.reaches.length : Int)))) || (!(aP ([0,a1.since,a1.to,(IntKind.i64.wrap (a0.hours - 1))])))) then false else (bif (a1.kind==1) then ((((a1.reach==0) && (aP ([0,a1.rank,1048576]))) && (aP ([1,a1.litres,1073741824]))) && (aP ([1,a1.length,a1.every,a0.hours]))) else (bif (a1.kind==2) then ((a1.name==a1.name) && ((a1.kind==a1.kind) && ((a1.farm==a1.farm) && ((a1.reach==a1.reach) && ((a1.rank==0) && ((a1.litres==0) && ((a1.since==0) && ((a1.to==(IntKind.i64.wrap (a0.hours - 1))) && ((a1.every==0) && (a1.length==0)))))))))) else (bif (a1.kind==3) then ((a1.name==a1.name) && ((a1.kind==a1.kind) && ((a1.farm==a1.farm) && ((a1.reach==a1.reach) && ((a1.rank==0) && ((a1.litres==0) && ((a1.since==a1.since) && ((a1.to==a1.to) && ((a1.every==0) && (a1.length==0)))))))))) else false))))
@[go_sem] def oo : List SV→Option Con:=(pD .district fun a0=> (pD .right fun a1=> (pE (.det True (.v (.bool (mX a0 a1)))))))
theorem tJ : FnOk Tryz.prog 120 oo:=by
 have hG : ConsOk Tryz.prog (mkG [(117,fun l=> gU (c8 [.sl .int] l)),(119,io)] []) :=aQ (cgc (iZ.norm [.sl .int]) (cgc jV cg0)) cg0
 refine ba [.o] mixed aH hG (fn:=Tryz.f120) (c:=aj Tryz.f120) (by kernel_rfl) (by kernel_rfl) (by kernel_rfl) (by kernel_rfl) (bW fun a0=> (bW fun a1=> (aO (fun hp=> ?_))))
 dsimp only [aW] at hp
 refine ⟨Nat.le_of_ble_eq_true rfl,L0,aw _,?_⟩
 ·unfold aj Tryz.f120
  try unfold mX
  simp only [go_sem,Nat.reduceBEq,Nat.reduceLeDiff,Nat.reduceLT,decide_true,Nat.reduceAdd,Nat.reduceSub,Nat.reduceMul,Int.reduceLE,Int.reduceLT,Int.reduceToNat,Int.reduceNeg,reduceCtorEq]
  all_goals exact cl
@[go_sem] def fG (a0 : District) (a1 : Int) (k_0 : Nat) (s_0 : Unit) : Unit⊕Unit:=(bif (bT (bB (k_0 : Int) (a0.reaches.getD k_0 (default : Reach))) a1) then .inr () else .inl ())
@[go_sem] def ip (a0 : District) (a1 : Int) (k_1 : Nat) (s_1 : Unit) : Unit⊕Unit:=(bif (bT (aP ([0,(a0.crops.getD k_1 (default : Crop)).need,1048576])) a1) then .inr () else .inl ())
@[go_sem] def fH (a0 : District) (a1 : Int) (k_2 : Nat) (s_2 : Unit) : Unit⊕Unit:=(bif (decide ((a0.farms.getD k_2 (default : Farm)).area > 0)) then (bif (bT (((cq ((a0.farms.getD k_2 (default : Farm)).crop) (a0.crops.length : Int)) && (cq ((a0.farms.getD k_2 (default : Farm)).reach) (a0.reaches.length : Int))) && (aP ([0,(a0.farms.getD k_2 (default : Farm)).area,1048576]))) a1) then .inr () else .inl ()) else (bif (bT ((((a0.farms.getD k_2 (default : Farm)).crop==(-1)) && (cq ((a0.farms.getD k_2 (default : Farm)).reach) (a0.reaches.length : Int))) && (aP ([0,(a0.farms.getD k_2 (default : Farm)).area,1048576]))) a1) then .inr () else .inl ()))
@[go_sem] def iq (a0 : District) (a1 : Int) (k_3 : Nat) (s_3 : Unit) : Unit⊕Unit:=(bif (bT (mX a0 (a0.rights.getD k_3 (default : Right))) a1) then .inr () else .inl ())
@[go_sem] def ir (a0 : District) (a1 : Int) (k_4 : Nat) (s_4 : Unit) : Unit⊕Unit:=(bif (bT (((cq ((a0.duties.getD k_4 (default : Duty)).farm) (a0.farms.length : Int)) && (cq ((a0.duties.getD k_4 (default : Duty)).reach) (a0.reaches.length : Int))) && (aP ([0,(a0.duties.getD k_4 (default : Duty)).due,a0.hours]))) a1) then .inr () else .inl ())
def vj (a0 : District) (a1 : Int) : Unit:=(bif (bT (((aP ([1,a0.hours,4096])) && (aP ([0,a0.tank.start,a0.tank.cap,1099511627776]))) && (decide ((a0.reaches.length : Int) > 0))) a1) then (match ax (fG a0 a1) a0.reaches.length 0 () with | .inl x_0_0=> default | .inr s_0=> (match ax (ip a0 a1) a0.crops.length 0 () with | .inl x_1_0=> default | .inr s_1=> (match ax (fH a0 a1) a0.farms.length 0 () with | .inl x_2_0=> default | .inr s_2=> (match ax (iq a0 a1) a0.rights.length 0 () with | .inl x_3_0=> default | .inr s_3=> (match ax (ir a0 a1) a0.duties.length 0 () with | .inl x_4_0=> default | .inr s_4=> ()))))) else default)
def ez (a0 : District) (a1 : Int) : Bool:=(bif (bT (((aP ([1,a0.hours,4096])) && (aP ([0,a0.tank.start,a0.tank.cap,1099511627776]))) && (decide ((a0.reaches.length : Int) > 0))) a1) then (match ax (fG a0 a1) a0.reaches.length 0 () with | .inl x_0_0=> false | .inr s_0=> (match ax (ip a0 a1) a0.crops.length 0 () with | .inl x_1_0=> false | .inr s_1=> (match ax (fH a0 a1) a0.farms.length 0 () with | .inl x_2_0=> false | .inr s_2=> (match ax (iq a0 a1) a0.rights.length 0 () with | .inl x_3_0=> false | .inr s_3=> (match ax (ir a0 a1) a0.duties.length 0 () with | .inl x_4_0=> false | .inr s_4=> true))))) else false)
@[go_sem] def mv : List SV→Option Con:=(pD .district fun a0=> (pI fun a1=> (pE (.may (ez a0 a1) (.tup []) (.iface 169 (.int .i64 a1))))))
set_option maxHeartbeats 4000000 in
theorem rv : FnOk Tryz.prog 76 mv:=by
 have hG : ConsOk Tryz.prog (mkG [(75,jU),(117,fun l=> gU (c8 [.sl .int] l)),(118,ol),(119,io),(120,fun l=> oo (c8 [.st .district,.st .right] l))] []) :=aQ (cgc mu (cgc (iZ.norm [.sl .int]) (cgc tI (cgc jV (cgc (tJ.norm [.st .district,.st .right]) cg0))))) cg0
 refine ba [] mixed aH hG (fn:=Tryz.f76) (c:=aj Tryz.f76) (by kernel_rfl) (by kernel_rfl) (by kernel_rfl) (by kernel_rfl) (bW fun a0=> (d5 fun a1=> (aO (fun hp=> ?_))))
 dsimp only [aW] at hp
 refine ⟨Nat.le_of_ble_eq_true rfl,(fun id st=> bif Nat.beq id 0 then some (LCR (ρ:=Unit) (σ:=Unit) 1 [] [0] (fun k_0 s_0=> ⟨[(1,.v (.int .i64 a1)),(2,.ptr 0 0),(38,.rs .reach a0.reaches),(39,.v (.int .i64 (a0.reaches.length : Int))),(40,.v (.int .i64 (k_0 : Int)))],[.cells (cellsOf .district a0)]⟩) (fG a0 a1) pT a0.reaches.length () (a0.reaches.length≤bt) (fun _=> .pan (.iface 169 (.int .i64 a1))) (fun x_0_0=> ⟨[],[.dead]⟩) st) else bif Nat.beq id 2 then some (LCR (ρ:=Unit) (σ:=Unit) 1 [] [0] (fun k_1 s_1=> ⟨[(1,.v (.int .i64 a1)),(2,.ptr 0 0),(52,.rs .crop a0.crops),(53,.v (.int .i64 (a0.crops.length : Int))),(54,.v (.int .i64 (k_1 : Int)))],[.cells (cellsOf .district a0)]⟩) (ip a0 a1) pT a0.crops.length () (a0.crops.length≤bt) (fun _=> .pan (.iface 169 (.int .i64 a1))) (fun x_1_0=> ⟨[],[.dead]⟩) st) else bif Nat.beq id 4 then some (LCR (ρ:=Unit) (σ:=Unit) 1 [] [0] (fun k_2 s_2=> ⟨[(1,.v (.int .i64 a1)),(2,.ptr 0 0),(66,.rs .farm a0.farms),(67,.v (.int .i64 (a0.farms.length : Int))),(68,.v (.int .i64 (k_2 : Int)))],[.cells (cellsOf .district a0)]⟩) (fH a0 a1) pT a0.farms.length () (a0.farms.length≤bt) (fun _=> .pan (.iface 169 (.int .i64 a1))) (fun x_2_0=> ⟨[],[.dead]⟩) st) else bif Nat.beq id 6 then some (LCR (ρ:=Unit) (σ:=Unit) 1 [] [0] (fun k_3 s_3=> ⟨[(1,.v (.int .i64 a1)),(2,.ptr 0 0),(103,.rs .right a0.rights),(104,.v (.int .i64 (a0.rights.length : Int))),(105,.v (.int .i64 (k_3 : Int)))],[.cells (cellsOf .district a0)]⟩) (iq a0 a1) pT a0.rights.length () (a0.rights.length≤bt) (fun _=> .pan (.iface 169 (.int .i64 a1))) (fun x_3_0=> ⟨[],[.dead]⟩) st) else bif Nat.beq id 8 then some (LCR (ρ:=Unit) (σ:=Unit) 1 [] [0] (fun k_4 s_4=> ⟨[(1,.v (.int .i64 a1)),(2,.ptr 0 0),(116,.rs .duty a0.duties),(117,.v (.int .i64 (a0.duties.length : Int))),(118,.v (.int .i64 (k_4 : Int)))],[.cells (cellsOf .district a0)]⟩) (ir a0 a1) pT a0.duties.length () (a0.duties.length≤bt) (fun _=> .pan (.iface 169 (.int .i64 a1))) (fun x_4_0=> ⟨[],[.dead]⟩) st) else none),?_,?_⟩
 ·unfold aj Tryz.f76
  simp only [az,true_and,and_true]
  refine ⟨?_,?_,?_,?_,?_⟩
  ·refine c9 mixed aH hG (by kernel_rfl) (fun _=> rfl) (a0.reaches.length : Int) rfl lr (fun hb0 k_0 s_0 hlt0 _ hw hc=> ⟨L0,aw _,?_⟩) (fun hb0 s_0 hc=> ?_)
   ·exact og
   ·exact oh
  ·refine c9 mixed aH hG (by kernel_rfl) (fun _=> rfl) (a0.crops.length : Int) rfl lr (fun hb1 k_1 s_1 hlt1 _ hw hc=> ⟨L0,aw _,?_⟩) (fun hb1 s_1 hc=> ?_)
   ·exact og
   ·exact oh
  ·refine c9 mixed aH hG (by kernel_rfl) (fun _=> rfl) (a0.farms.length : Int) rfl lr (fun hb2 k_2 s_2 hlt2 _ hw hc=> ⟨L0,aw _,?_⟩) (fun hb2 s_2 hc=> ?_)
   ·exact og
   ·exact oh
  ·refine c9 mixed aH hG (by kernel_rfl) (fun _=> rfl) (a0.rights.length : Int) rfl lr (fun hb3 k_3 s_3 hlt3 _ hw hc=> ⟨L0,aw _,?_⟩) (fun hb3 s_3 hc=> ?_)
   ·exact og
   ·exact oh
  ·refine c9 mixed aH hG (by kernel_rfl) (fun _=> rfl) (a0.duties.length : Int) rfl lr (fun hb4 k_4 s_4 hlt4 _ hw hc=> ⟨L0,aw _,?_⟩) (fun hb4 s_4 hc=> ?_)
   ·exact og
   ·exact oh
 ·unfold aj Tryz.f76
  try unfold vj
  try unfold ez
  simp only [go_sem,Nat.reduceBEq,Nat.reduceLeDiff,Nat.reduceLT,decide_true,Nat.reduceAdd,Nat.reduceSub,Nat.reduceMul,Int.reduceLE,Int.reduceLT,Int.reduceToNat,Int.reduceNeg,reduceCtorEq]
  all_goals exact cl
def bu (d : District) : Int:=(bif (bT (((((decide ((d.reaches.length : Int)≤64)) && (decide ((d.farms.length : Int)≤600))) && (decide ((d.crops.length : Int)≤32))) && (decide ((d.rights.length : Int)≤256))) && (decide ((d.duties.length : Int)≤256))) 2) then (bif (ez d 191) then 0 else 191) else 2)
@[go_sem] def kQ : List SV→Option Con:=(pD .district fun d=> (pE (.det True (.v (.int .i64 (bu d))))))
theorem nt : FnOk Tryz.prog 42 kQ:=by
 have hG : ConsOk Tryz.prog (mkG [(75,jU),(76,fun l=> mv (c8 [.st .district,.o] l))] []) :=aQ (cgc mu (cgc (rv.norm [.st .district,.o]) cg0)) cg0
 refine QM IG [.o] mixed aH hG (fn:=Tryz.f42) (c0:=Fu (aj Tryz.f42)) (c1:=BT (BT (aj Tryz.f42))) (i1:=regI (Fu (BT (aj Tryz.f42)))) (o1:=UQ 0 (Fu (BT (aj Tryz.f42)))) (o2:=UQ 1 (Fu (BT (aj Tryz.f42)))) (t3:=3) (q:=2) (tys:= #[]) (by kernel_rfl) (by kernel_rfl) (by kernel_rfl) (by refine ⟨?_,?_,?_⟩ <;> kernel_rfl) (by refine ⟨?_,?_,?_⟩ <;> kernel_rfl) (Nat.le_of_ble_eq_true rfl) (by kernel_rfl) (by kernel_rfl) (bW fun d=> (aO (fun hp=> ?_)))
 dsimp only [aW] at hp
 refine ⟨Nat.le_of_ble_eq_true rfl,L0,L0,1,?_,?_,?_⟩
 ·unfold aj Tryz.f42
  simp only [Fu,az,and_self,true_and,and_true]
 ·unfold aj Tryz.f42
  simp only [BT]
  simp only [az,and_self,true_and,and_true]
 ·unfold aj Tryz.f42
  try unfold bu
  simp only [go_sem,Nat.reduceBEq,Nat.reduceLeDiff,Nat.reduceLT,decide_true,Nat.reduceAdd,Nat.reduceSub,Nat.reduceMul,Int.reduceLE,Int.reduceLT,Int.reduceToNat,Int.reduceNeg,reduceCtorEq,Fu,BT,QW]
  all_goals exact cl
def iu (x : Order) : Int:=x.hour
@[go_sem] def gq : List SV→Option Con:=(pD .order fun x=> (pE (.det True (.v (.int .i64 (iu x))))))
theorem oq : FnOk Tryz.prog 79 gq:=by
 have hG : ConsOk Tryz.prog (mkG [] []) :=aQ cg0 cg0
 refine ba [.o] mixed aH hG (fn:=Tryz.f79) (c:=aj Tryz.f79) (by kernel_rfl) (by kernel_rfl) (by kernel_rfl) (by kernel_rfl) (bW fun x=> (aO (fun hp=> ?_)))
 dsimp only [aW] at hp
 refine ⟨Nat.le_of_ble_eq_true rfl,L0,aw _,?_⟩
 ·unfold aj Tryz.f79
  try unfold iu
  simp only [go_sem,Nat.reduceBEq,Nat.reduceLeDiff,Nat.reduceLT,decide_true,Nat.reduceAdd,Nat.reduceSub,Nat.reduceMul,Int.reduceLE,Int.reduceLT,Int.reduceToNat,Int.reduceNeg,reduceCtorEq]
  all_goals exact cl
def kR (x : Order) : Int:=(bif x.outlet then 1 else 0)
@[go_sem] def i7 : List SV→Option Con:=(pD .order fun x=> (pE (.det True (.v (.int .i64 (kR x))))))
theorem rz : FnOk Tryz.prog 80 i7:=by
 have hG : ConsOk Tryz.prog (mkG [] []) :=aQ cg0 cg0
 refine ba [.o] mixed aH hG (fn:=Tryz.f80) (c:=aj Tryz.f80) (by kernel_rfl) (by kernel_rfl) (by kernel_rfl) (by kernel_rfl) (bW fun x=> (aO (fun hp=> ?_)))
 dsimp only [aW] at hp
 refine ⟨Nat.le_of_ble_eq_true rfl,L0,aw _,?_⟩
 ·unfold aj Tryz.f80
  try unfold kR
  simp only [go_sem,Nat.reduceBEq,Nat.reduceLeDiff,Nat.reduceLT,decide_true,Nat.reduceAdd,Nat.reduceSub,Nat.reduceMul,Int.reduceLE,Int.reduceLT,Int.reduceToNat,Int.reduceNeg,reduceCtorEq]
  all_goals exact cl
def iv (x : Order) : Int:=x.index
@[go_sem] def gu : List SV→Option Con:=(pD .order fun x=> (pE (.det True (.v (.int .i64 (iv x))))))
theorem ot : FnOk Tryz.prog 81 gu:=by
 have hG : ConsOk Tryz.prog (mkG [] []) :=aQ cg0 cg0
 refine ba [.o] mixed aH hG (fn:=Tryz.f81) (c:=aj Tryz.f81) (by kernel_rfl) (by kernel_rfl) (by kernel_rfl) (by kernel_rfl) (bW fun x=> (aO (fun hp=> ?_)))
 dsimp only [aW] at hp
 refine ⟨Nat.le_of_ble_eq_true rfl,L0,aw _,?_⟩
 ·unfold aj Tryz.f81
  try unfold iv
  simp only [go_sem,Nat.reduceBEq,Nat.reduceLeDiff,Nat.reduceLT,decide_true,Nat.reduceAdd,Nat.reduceSub,Nat.reduceMul,Int.reduceLE,Int.reduceLT,Int.reduceToNat,Int.reduceNeg,reduceCtorEq]
  all_goals exact cl
end Go.Sx
end
section
namespace Go.Sx
open Go.Proofs
set_option maxRecDepth 100000
set_option linter.unusedSimpArgs false
theorem IP {p : Prop} (h : p:=by (first | done | (repeat' (first | with_reducible refine And.intro ?_ ?_ | ((with_reducible show _≠_);first | assumption | omega | (simp_all [aK,aU];done) | grind) | with_reducible intro _)) <;> (first | done | exact Empty.elim ‹Empty› | assumption | rfl | omega | decide | exact fk [] | (simp only [*,cond_true,cond_false,Bool.not_true,Bool.not_false,go_sem,Nat.reduceBEq,Nat.reduceLeDiff,Nat.reduceLT,decide_true,Nat.reduceAdd,Nat.reduceSub,Nat.reduceMul,Int.reduceLE,Int.reduceLT,Int.reduceToNat,Int.reduceNeg,reduceCtorEq];done) | (simp only [*,cond_true,cond_false,Bool.not_true,Bool.not_false,go_sem,Nat.reduceBEq,Nat.reduceLeDiff,Nat.reduceLT,decide_true,Nat.reduceAdd,Nat.reduceSub,Nat.reduceMul,Int.reduceLE,Int.reduceLT,Int.reduceToNat,Int.reduceNeg,reduceCtorEq];(repeat' (first | with_reducible refine And.intro ?_ ?_ | ((with_reducible show _≠_);first | assumption | omega | (simp_all [aK,aU];done) | grind) | with_reducible intro _)) <;> (first | done | assumption | rfl | omega | decide | exact fk [] | (simp_all [aK,aU];done))) | (simp_all [okI,aK,aU];done) | (simp_all [aK,aU];(first | done | exact fk2 [])) | exact fk2 []))) : p:=h
theorem IQ {p : Prop} (h : p:=by simp only [go_sem,Nat.reduceBEq,Nat.reduceLeDiff,Nat.reduceLT,decide_true,Nat.reduceAdd,Nat.reduceSub,Nat.reduceMul,Int.reduceLE,Int.reduceLT,Int.reduceToNat,Int.reduceNeg,reduceCtorEq];all_goals exact IP) : p:=h
def fS (x : Range) (most : Int) : Bool:=(((decide (x.lo≥0)) && (decide (x.lo≤x.hi))) && (decide (x.hi≤most)))
@[go_sem] def mw : List SV→Option Con:=(pD .range fun x=> (pI fun most=> (pE (.det True (.v (.bool (fS x most)))))))
theorem rA : FnOk Tryz.prog 122 mw:=by
 have hG : ConsOk Tryz.prog (mkG [] []) :=aQ cg0 cg0
 refine ba [.o] mixed aH hG (fn:=Tryz.f122) (c:=aj Tryz.f122) (by kernel_rfl) (by kernel_rfl) (by kernel_rfl) (by kernel_rfl) (bW fun x=> (d5 fun most=> (aO (fun hp=> ?_))))
 dsimp only [aW] at hp
 refine ⟨Nat.le_of_ble_eq_true rfl,L0,aw _,?_⟩
 ·unfold aj Tryz.f122
  try unfold fS
  simp only [go_sem,Nat.reduceBEq,Nat.reduceLeDiff,Nat.reduceLT,decide_true,Nat.reduceAdd,Nat.reduceSub,Nat.reduceMul,Int.reduceLE,Int.reduceLT,Int.reduceToNat,Int.reduceNeg,reduceCtorEq]
  all_goals exact cl
def i9 (n : Int) (lo : Int) (hi : Int) : Bool:=((decide (n≥lo)) && (decide (n≤hi)))
@[go_sem] def ou : List SV→Option Con:=(pI fun n=> (pI fun lo=> (pI fun hi=> (pE (.det True (.v (.bool (i9 n lo hi))))))))
theorem rB : FnOk Tryz.prog 124 ou:=by
 have hG : ConsOk Tryz.prog (mkG [] []) :=aQ cg0 cg0
 refine ba [.o] mixed aH hG (fn:=Tryz.f124) (c:=aj Tryz.f124) (by kernel_rfl) (by kernel_rfl) (by kernel_rfl) (by kernel_rfl) (d5 fun n=> (d5 fun lo=> (d5 fun hi=> (aO (fun hp=> ?_)))))
 dsimp only [aW] at hp
 refine ⟨Nat.le_of_ble_eq_true rfl,L0,aw _,?_⟩
 ·unfold aj Tryz.f124
  try unfold i9
  simp only [go_sem,Nat.reduceBEq,Nat.reduceLeDiff,Nat.reduceLT,decide_true,Nat.reduceAdd,Nat.reduceSub,Nat.reduceMul,Int.reduceLE,Int.reduceLT,Int.reduceToNat,Int.reduceNeg,reduceCtorEq]
  all_goals exact cl
def iw (a : Ratio) : Bool:=(((b9 a) ==0) && (i9 a.n 0 a.d))
@[go_sem] def ov : List SV→Option Con:=(pD .ratio fun a=> (pE (.det True (.v (.bool (iw a))))))
theorem tK : FnOk Tryz.prog 150 ov:=by
 have hG : ConsOk Tryz.prog (mkG [(124,ou),(152,jp)] []) :=aQ (cgc rB (cgc kP cg0)) cg0
 refine ba [.o] mixed aH hG (fn:=Tryz.f150) (c:=aj Tryz.f150) (by kernel_rfl) (by kernel_rfl) (by kernel_rfl) (by kernel_rfl) (bW fun a=> (aO (fun hp=> ?_)))
 dsimp only [aW] at hp
 refine ⟨Nat.le_of_ble_eq_true rfl,L0,aw _,?_⟩
 ·unfold aj Tryz.f150
  try unfold iw
  simp only [go_sem,Nat.reduceBEq,Nat.reduceLeDiff,Nat.reduceLT,decide_true,Nat.reduceAdd,Nat.reduceSub,Nat.reduceMul,Int.reduceLE,Int.reduceLT,Int.reduceToNat,Int.reduceNeg,reduceCtorEq]
  all_goals exact cl
def fv (a : Ratio×Ratio) : Bool:=(bif ((!(iw a.1)) || (!(iw a.2))) then false else (((et a.1 a.2).2==0) && (decide ((et a.1 a.2).1≤0))))
@[go_sem] def nu : List SV→Option Con:=(pD .ratio2 fun a=> (pE (.det True (.v (.bool (fv a))))))
theorem sH : FnOk Tryz.prog 123 nu:=by
 have hG : ConsOk Tryz.prog (mkG [(150,ov),(151,oi)] []) :=aQ (cgc tK (cgc ru cg0)) cg0
 refine ba [.o] mixed aH hG (fn:=Tryz.f123) (c:=aj Tryz.f123) (by kernel_rfl) (by kernel_rfl) (by kernel_rfl) (by kernel_rfl) (bW fun a=> (aO (fun hp=> ?_)))
 dsimp only [aW] at hp
 refine ⟨Nat.le_of_ble_eq_true rfl,L0,aw _,?_⟩
 ·unfold aj Tryz.f123
  try unfold fv
  simp only [go_sem,Nat.reduceBEq,Nat.reduceLeDiff,Nat.reduceLT,decide_true,Nat.reduceAdd,Nat.reduceSub,Nat.reduceMul,Int.reduceLE,Int.reduceLT,Int.reduceToNat,Int.reduceNeg,reduceCtorEq]
  all_goals exact cl
def cC (r : Reach) (n : Int) : Int:=(bif ((!(fS r.evap 1073741824)) || (!(fv r.seep))) then 210 else (bif (!(i9 n 0 1073741824)) then 1 else 0))
@[go_sem] def ow : List SV→Option Con:=(pD .reach fun r=> (pI fun n=> (pE (.det True (.v (.int .i64 (cC r n)))))))
theorem tL : FnOk Tryz.prog 82 ow:=by
 have hG : ConsOk Tryz.prog (mkG [(122,mw),(123,nu),(124,ou)] []) :=aQ (cgc rA (cgc sH (cgc rB cg0))) cg0
 refine ba [.o] mixed aH hG (fn:=Tryz.f82) (c:=aj Tryz.f82) (by kernel_rfl) (by kernel_rfl) (by kernel_rfl) (by kernel_rfl) (bW fun r=> (d5 fun n=> (aO (fun hp=> ?_))))
 dsimp only [aW] at hp
 refine ⟨Nat.le_of_ble_eq_true rfl,L0,aw _,?_⟩
 ·unfold aj Tryz.f82
  try unfold cC
  simp only [go_sem,Nat.reduceBEq,Nat.reduceLeDiff,Nat.reduceLT,decide_true,Nat.reduceAdd,Nat.reduceSub,Nat.reduceMul,Int.reduceLE,Int.reduceLT,Int.reduceToNat,Int.reduceNeg,reduceCtorEq]
  all_goals exact cl
def i_ (n : Int) (d : Int) : Int:=(IntKind.i64.wrap (Int.tdiv (IntKind.i64.wrap (n - (Int.tmod (IntKind.i64.wrap ((Int.tmod n d) + d)) d))) d))
def km (n : Int) (d : Int) : Prop:=(d≠0∧(d≠0∧d≠0))
@[go_sem] def rC : List SV→Option Con:=(pI fun n=> (pI fun d=> (pE (.det (km n d) (.v (.int .i64 (i_ n d)))))))
theorem wv : FnOk Tryz.prog 153 rC:=by
 have hG : ConsOk Tryz.prog (mkG [] []) :=aQ cg0 cg0
 refine ba [.o] mixed aH hG (fn:=Tryz.f153) (c:=aj Tryz.f153) (by kernel_rfl) (by kernel_rfl) (by kernel_rfl) (by kernel_rfl) (d5 fun n=> (d5 fun d=> (aO (fun hp=> ?_))))
 dsimp only [aW] at hp
 unfold km at hp
 refine ⟨Nat.le_of_ble_eq_true rfl,L0,aw _,?_⟩
 ·unfold aj Tryz.f153
  try unfold i_
  simp only [go_sem,Nat.reduceBEq,Nat.reduceLeDiff,Nat.reduceLT,decide_true,Nat.reduceAdd,Nat.reduceSub,Nat.reduceMul,Int.reduceLE,Int.reduceLT,Int.reduceToNat,Int.reduceNeg,reduceCtorEq]
  all_goals exact cl
def dE (a : Ratio) (n : Int) : Int×Int×Int:=(bif ((b9 a) !=0) then (0,0,(b9 a)) else (bif ((decide (n < (-1073741824))) || (decide (n > 1073741824))) then (0,0,1) else ((i_ (IntKind.i64.wrap (a.n * n)) a.d),(IntKind.i64.wrap (0 - (i_ (IntKind.i64.wrap ((IntKind.i64.wrap (0 - a.n)) * n)) a.d))),0)))
def pZ (a : Ratio) (n : Int) : Prop:=(((b9 a) !=0)=false→(((decide (n < (-1073741824))) || (decide (n > 1073741824)))=false→((km (IntKind.i64.wrap (a.n * n)) a.d)∧(km (IntKind.i64.wrap ((IntKind.i64.wrap (0 - a.n)) * n)) a.d))))
theorem ww {a : Ratio} (h : (b9 a !=0)=false) : 1≤a.d:=by
 unfold b9 at h
 by_cases hd : a.d < 1
 ·simp [hd] at h
 ·omega
theorem vm (a : Ratio) (n : Int) : pZ a n:=fun h _=> by
 have:=ww h
 exact ⟨⟨by omega,by omega,by omega⟩,⟨by omega,by omega,by omega⟩⟩
@[go_sem] def p5 : List SV→Option Con:=(pD .ratio fun a=> (pI fun n=> (pE (.det True (.tup [.v (.int .i64 ((dE a n).1)),.v (.int .i64 ((dE a n).2.1)),.v (.int .i64 ((dE a n).2.2))])))))
theorem vn : FnOk Tryz.prog 125 p5:=by
 have hG : ConsOk Tryz.prog (mkG [(152,jp),(153,rC)] []) :=aQ (cgc kP (cgc wv cg0)) cg0
 refine ba [.o,.o,.o] mixed aH hG (fn:=Tryz.f125) (c:=aj Tryz.f125) (by kernel_rfl) (by kernel_rfl) (by kernel_rfl) (by kernel_rfl) (bW fun a=> (d5 fun n=> (aO (fun hp=> ?_))))
 dsimp only [aW] at hp
 have hp:=vm a n
 unfold pZ at hp
 refine ⟨Nat.le_of_ble_eq_true rfl,L0,aw _,?_⟩
 ·unfold aj Tryz.f125
  try unfold dE
  simp only [go_sem,Nat.reduceBEq,Nat.reduceLeDiff,Nat.reduceLT,decide_true,Nat.reduceAdd,Nat.reduceSub,Nat.reduceMul,Int.reduceLE,Int.reduceLT,Int.reduceToNat,Int.reduceNeg,reduceCtorEq]
  all_goals exact cl
def dF (r : Reach) (v : Int) : Range:=(bif (v==0) then ({ lo:=0,hi:=0} : Range) else ({ lo:=(if (IntKind.i64.wrap (r.evap.lo + (dE r.seep.1 v).1)) < v then (IntKind.i64.wrap (r.evap.lo + (dE r.seep.1 v).1)) else v),hi:=(if (IntKind.i64.wrap (r.evap.hi + (dE r.seep.2 v).2.1)) < v then (IntKind.i64.wrap (r.evap.hi + (dE r.seep.2 v).2.1)) else v)} : Range))
@[go_sem] def p6 : List SV→Option Con:=(pD .reach fun r=> (pI fun v=> (pE (.det True (.agg (cellsOf .range (dF r v)))))))
theorem vo : FnOk Tryz.prog 83 p6:=by
 have hG : ConsOk Tryz.prog (mkG [(125,p5)] []) :=aQ (cgc vn cg0) cg0
 refine ba [.st .range] mixed aH hG (fn:=Tryz.f83) (c:=aj Tryz.f83) (by kernel_rfl) (by kernel_rfl) (by kernel_rfl) (by kernel_rfl) (bW fun r=> (d5 fun v=> (aO (fun hp=> ?_))))
 dsimp only [aW] at hp
 refine ⟨Nat.le_of_ble_eq_true rfl,L0,aw _,?_⟩
 ·unfold aj Tryz.f83
  try unfold dF
  simp only [go_sem,Nat.reduceBEq,Nat.reduceLeDiff,Nat.reduceLT,decide_true,Nat.reduceAdd,Nat.reduceSub,Nat.reduceMul,Int.reduceLE,Int.reduceLT,Int.reduceToNat,Int.reduceNeg,reduceCtorEq]
  all_goals exact cl
def da (r : Reach) (v : Int) : Int×Int:=(bif ((cC r v) !=0) then (0,(cC r v)) else ((IntKind.i64.wrap (v - (dF r v).hi)),0))
@[go_sem] def IR : List SV→Option Con:=(pD .reach fun r=> (pI fun v=> (pE (.det True (.tup [.v (.int .i64 ((da r v).1)),.v (.int .i64 ((da r v).2))])))))
def jq (v : Int) (r : Reach) : Int:=(IntKind.i64.wrap (v - (dF r v).hi))
@[go_sem] def nv : List SV→Option Con:=(pI fun v=> (pX .reach fun r=> (pE (.det True (.v (.int .i64 (jq v r)))))))
theorem sI : FnOk Tryz.prog 132 nv:=by
 have hG : ConsOk Tryz.prog (mkG [(83,p6)] []) :=aQ (cgc vo cg0) cg0
 refine ba [.o] mixed aH hG (fn:=Tryz.f132) (c:=aj Tryz.f132) (by kernel_rfl) (by kernel_rfl) (by kernel_rfl) (by kernel_rfl) (d5 fun v=> (qv fun r=> (aO (fun hp=> ?_))))
 dsimp only [aW] at hp
 refine ⟨Nat.le_of_ble_eq_true rfl,L0,aw _,?_⟩
 ·unfold aj Tryz.f132
  try unfold jq
  simp only [go_sem,Nat.reduceBEq,Nat.reduceLeDiff,Nat.reduceLT,decide_true,Nat.reduceAdd,Nat.reduceSub,Nat.reduceMul,Int.reduceLE,Int.reduceLT,Int.reduceToNat,Int.reduceNeg,reduceCtorEq]
  all_goals exact cl
def cw (v : Int) (r : Reach) (w : Int) : Bool:=(decide ((jq v r) > w))
@[go_sem] def my : List SV→Option Con:=(pI fun v=> (pXF 132 (pX .reach fun r=> (pE ((pX .int fun w=> (pE (.det True (.v (.bool (cw v r w)))))))))))
theorem rD : FnOk Tryz.prog 164 my:=by
 have hG : ConsOk Tryz.prog (mkG [(132,nv)] []) :=aQ (cgc sI cg0) cg0
 refine ba [.o] mixed aH hG (fn:=Tryz.f164) (c:=aj Tryz.f164) (by kernel_rfl) (by kernel_rfl) (by kernel_rfl) (by kernel_rfl) (d5 fun v=> (Ek (qv fun r=> (aO ((qv fun w=> (aO (fun hp=> ?_))))))))
 dsimp only [aW] at hp
 refine ⟨Nat.le_of_ble_eq_true rfl,L0,aw _,?_⟩
 ·unfold aj Tryz.f164
  try unfold cw
  simp only [go_sem,Nat.reduceBEq,Nat.reduceLeDiff,Nat.reduceLT,decide_true,Nat.reduceAdd,Nat.reduceSub,Nat.reduceMul,Int.reduceLE,Int.reduceLT,Int.reduceToNat,Int.reduceNeg,reduceCtorEq]
  all_goals exact cl
@[go_sem] def eO (r : Reach) (w : Int) (k_0 : Nat) (s_0 : Int×Int) : Int⊕(Int×Int) :=(bif (decide (s_0.1 < s_0.2)) then (bif (!(cw (IntKind.i64.wrap (AY .u64 (IntKind.u64.wrap (IntKind.i64.wrap (s_0.1 + s_0.2))) 1)) r w)) then .inr ((IntKind.i64.wrap ((IntKind.i64.wrap (AY .u64 (IntKind.u64.wrap (IntKind.i64.wrap (s_0.1 + s_0.2))) 1)) + 1)),s_0.2) else .inr (s_0.1,(IntKind.i64.wrap (AY .u64 (IntKind.u64.wrap (IntKind.i64.wrap (s_0.1 + s_0.2))) 1)))) else .inl s_0.1)
def lG (n : Int) (r : Reach) (w : Int) : Int:=(match ax (eO r w) 64 0 (0,n) with | .inl x_0_0=> x_0_0 | .inr s_0=> default)
def jr (n : Int) (r : Reach) (w : Int) : Prop:=(∀ z_,ax (eO r w) 64 0 (0,n)≠ .inr z_)
@[go_sem] def p7 : List SV→Option Con:=(pI fun n=> (pFn 164 (pXF 132 (pX .reach fun r=> (pE ((pX .int fun w=> (pE ((pE (.det (jr n r w) (.v (.int .i64 (lG n r w))))))))))))))
set_option maxHeartbeats 4000000 in
theorem vp : FnOk Tryz.prog 163 p7:=by
 have hG : ConsOk Tryz.prog (mkG [(164,my)] []) :=aQ (cgc rD cg0) cg0
 refine ba [.o] mixed aH hG (fn:=Tryz.f163) (c:=aj Tryz.f163) (by kernel_rfl) (by kernel_rfl) (by kernel_rfl) (by kernel_rfl) (d5 fun n=> (im (Ek (qv fun r=> (aO ((qv fun w=> (aO ((aO (fun hp=> ?_)))))))))))
 dsimp only [aW] at hp
 unfold jr at hp
 refine ⟨Nat.le_of_ble_eq_true rfl,(fun id st=> bif Nat.beq id 0 then some (LCV (ρ:=Int) (σ:=(Int×Int)) 0 [] [] (fun k_0 s_0=> ⟨[(1,.fn 164 [] [.ep [.fn 132 [] [.ep (cellsOf .reach r) 0]] 0,.ep [.v (.int .i64 w)] 0]),(5,.v (.int .i64 s_0.1)),(6,.v (.int .i64 s_0.2))],[]⟩) (eO r w) pT 64 (0,n) (fun _=> .normal) (fun x_0_0=> ⟨[(5,.v (.int .i64 x_0_0))],[]⟩) st) else none),?_,?_⟩
 ·unfold aj Tryz.f163
  simp only [az,true_and,and_true]
  ·refine IN mixed aH hG (by kernel_rfl) (fun _=> rfl) fun k_0 s_0 _=> ⟨L0,aw _,?_⟩
   ·exact IQ
 ·unfold aj Tryz.f163
  try unfold lG
  simp only [go_sem,Nat.reduceBEq,Nat.reduceLeDiff,Nat.reduceLT,decide_true,Nat.reduceAdd,Nat.reduceSub,Nat.reduceMul,Int.reduceLE,Int.reduceLT,Int.reduceToNat,Int.reduceNeg,reduceCtorEq]
  all_goals exact cl
def cr (w : Int) (r : Reach) : Int:=(lG 1073741825 r w)
def kS (w : Int) (r : Reach) : Prop:=(jr 1073741825 r w)
@[go_sem] def ox : List SV→Option Con:=(pI fun w=> (pFn 132 (pX .reach fun r=> (pE ((pE (.det (kS w r) (.v (.int .i64 (cr w r))))))))))
theorem tM : FnOk Tryz.prog 131 ox:=by
 have hG : ConsOk Tryz.prog (mkG [(163,p7)] []) :=aQ (cgc vp cg0) cg0
 refine ba [.o] mixed aH hG (fn:=Tryz.f131) (c:=aj Tryz.f131) (by kernel_rfl) (by kernel_rfl) (by kernel_rfl) (by kernel_rfl) (d5 fun w=> (im (qv fun r=> (aO ((aO (fun hp=> ?_)))))))
 dsimp only [aW] at hp
 unfold kS at hp
 refine ⟨Nat.le_of_ble_eq_true rfl,L0,aw _,?_⟩
 ·unfold aj Tryz.f131
  try unfold cr
  simp only [go_sem,Nat.reduceBEq,Nat.reduceLeDiff,Nat.reduceLT,decide_true,Nat.reduceAdd,Nat.reduceSub,Nat.reduceMul,Int.reduceLE,Int.reduceLT,Int.reduceToNat,Int.reduceNeg,reduceCtorEq]
  all_goals exact cl
def bV (r : Reach) (w : Int) : Int×Bool×Int:=(bif ((cC r w) !=0) then (0,false,(cC r w)) else (bif (decide ((cr (IntKind.i64.wrap (w - 1)) r) > 1073741824)) then (0,false,0) else ((cr (IntKind.i64.wrap (w - 1)) r),true,0)))
def gK (r : Reach) (w : Int) : Prop:=(((cC r w) !=0)=false→(kS (IntKind.i64.wrap (w - 1)) r))
@[go_sem] def jt : List SV→Option Con:=(pD .reach fun r=> (pI fun w=> (pE (.det (gK r w) (.tup [.v (.int .i64 ((bV r w).1)),.v (.bool ((bV r w).2.1)),.v (.int .i64 ((bV r w).2.2))])))))
theorem oy : FnOk Tryz.prog 99 jt:=by
 have hG : ConsOk Tryz.prog (mkG [(82,ow),(131,ox)] []) :=aQ (cgc tL (cgc tM cg0)) cg0
 refine ba [.o,.o,.o] mixed aH hG (fn:=Tryz.f99) (c:=aj Tryz.f99) (by kernel_rfl) (by kernel_rfl) (by kernel_rfl) (by kernel_rfl) (bW fun r=> (d5 fun w=> (aO (fun hp=> ?_))))
 dsimp only [aW] at hp
 unfold gK at hp
 refine ⟨Nat.le_of_ble_eq_true rfl,L0,aw _,?_⟩
 ·unfold aj Tryz.f99
  try unfold bV
  simp only [go_sem,Nat.reduceBEq,Nat.reduceLeDiff,Nat.reduceLT,decide_true,Nat.reduceAdd,Nat.reduceSub,Nat.reduceMul,Int.reduceLE,Int.reduceLT,Int.reduceToNat,Int.reduceNeg,reduceCtorEq]
  all_goals exact cl
def aA (x : Reach) (w : Int) : Int×Bool:=(bif ((w==0) || (decide (w > 1073741824))) then (0,(w==0)) else (bif (!(bV x w).2.1) then (0,false) else ((if (bV x w).1 < x.siphon then x.siphon else (bV x w).1),true)))
def f_ (x : Reach) (w : Int) : Prop:=(((w==0) || (decide (w > 1073741824)))=false→(gK x w))
@[go_sem] def mz : List SV→Option Con:=(pD .reach fun x=> (pI fun w=> (pE (.det (f_ x w) (.tup [.v (.int .i64 ((aA x w).1)),.v (.bool ((aA x w).2))])))))
theorem rE : FnOk Tryz.prog 96 mz:=by
 have hG : ConsOk Tryz.prog (mkG [(99,jt)] []) :=aQ (cgc oy cg0) cg0
 refine ba [.o,.o] mixed aH hG (fn:=Tryz.f96) (c:=aj Tryz.f96) (by kernel_rfl) (by kernel_rfl) (by kernel_rfl) (by kernel_rfl) (bW fun x=> (d5 fun w=> (aO (fun hp=> ?_))))
 dsimp only [aW] at hp
 unfold f_ at hp
 refine ⟨Nat.le_of_ble_eq_true rfl,L0,aw _,?_⟩
 ·unfold aj Tryz.f96
  try unfold aA
  simp only [go_sem,Nat.reduceBEq,Nat.reduceLeDiff,Nat.reduceLT,decide_true,Nat.reduceAdd,Nat.reduceSub,Nat.reduceMul,Int.reduceLE,Int.reduceLT,Int.reduceToNat,Int.reduceNeg,reduceCtorEq]
  all_goals exact cl
end Go.Sx
end
section
namespace Go.Sx
open Go.Proofs
set_option maxRecDepth 100000
set_option linter.unusedSimpArgs false
abbrev gw : SV:= .ls [.fn 79 [] [],.fn 80 [] [],.fn 81 [] []]
open Classical in
noncomputable def ko : List SV→Option Con:=fun l=> if l=[gw] then some (.det True (.fn 121 [] [.ep [gw] 0])) else none
theorem wx : FnOk Tryz.prog 78 ko:=by
 have hG : ConsOk Tryz.prog (mkG [] []) :=aQ (by simp) (by simp)
 refine ba [.o] mixed aH hG (fn:=Tryz.f78) (c:=aj Tryz.f78) (by kernel_rfl) (by kernel_rfl) (by kernel_rfl) (by kernel_rfl) fun l con h hp=> ?_
 unfold ko at h
 split at h
 ·rename_i hl
  subst hl
  cases h
  refine ⟨Nat.le_of_ble_eq_true rfl,L0,by unfold aj Tryz.f78;simp only [az,and_self],?_⟩
  unfold aj Tryz.f78
  simp only [go_sem,gw,true_imp_iff,Nat.reduceBEq,Nat.reduceLeDiff,Nat.reduceAdd,Nat.reduceSub,Nat.reduceMul,true_and,and_true,implies_true,List.map_cons,List.map_nil]
  rfl
 ·cases h
def b8 : List SV→Option Con:=pE (.det True (.fn 121 [] [.ep [gw] 0]))
theorem kT : FnOk Tryz.prog 44 b8:=by
 have hG : ConsOk Tryz.prog (mkG [(78,ko)] []) :=aQ (by
  intro x hx
  simp only [List.mem_cons,List.not_mem_nil,or_false] at hx
  rcases hx with rfl
  exact wx) (by simp)
 refine ba [.o] mixed aH hG (fn:=Tryz.f44) (c:=aj Tryz.f44) (by kernel_rfl) (by kernel_rfl) (by kernel_rfl) (by kernel_rfl) fun l con h hp=> ?_
 unfold b8 at h
 obtain ⟨rfl,rfl⟩ :=qs h
 refine ⟨Nat.le_of_ble_eq_true rfl,L0,by unfold aj Tryz.f44;simp only [az,and_self],?_⟩
 unfold aj Tryz.f44
 simp only [go_sem,ko,gw,true_imp_iff,Nat.reduceBEq,Nat.reduceLeDiff,Nat.reduceAdd,Nat.reduceSub,Nat.reduceMul,true_and,and_true,implies_true,List.map_cons,List.map_nil,if_true]
 rfl
def kU (k : Nat) (x : Order) : Int:=match k with | 0=> iu x | 1=> kR x | _=> iv x
def pm (a b : Order) : Nat→Unit→Int⊕Unit:=fun k _=> bif (aR (kU k a) (kU k b) !=0) then .inl (aR (kU k a) (kU k b)) else .inr ()
def av (a b : Order) : Int:=match ax (pm a b) 3 0 () with | .inl x=> x | .inr _=> 0
open Classical in
noncomputable def eP : List SV→Option Con:=pD .order fun a=> pD .order fun b=> fun l=> if l=[.ep [gw] 0] then some (.det True (.i (av a b))) else none
set_option maxHeartbeats 1000000 in
theorem ny : FnOk Tryz.prog 121 eP:=by
 have hG : ConsOk Tryz.prog (mkG [(70,cp),(79,gq),(80,i7),(81,gu)] []) :=aQ (by
  intro x hx
  simp only [List.mem_cons,List.not_mem_nil,or_false] at hx
  rcases hx with rfl | rfl | rfl | rfl
  ·exact cS
  ·exact oq
  ·exact rz
  ·exact ot) (by simp)
 refine ba [.o] mixed aH hG (fn:=Tryz.f121) (c:=aj Tryz.f121) (by kernel_rfl) (by kernel_rfl) (by kernel_rfl) (by kernel_rfl) fun l con h hp=> ?_
 unfold eP at h
 obtain ⟨a,l0,rfl,h0⟩ :=sB h
 obtain ⟨b,l1,rfl,h1⟩ :=sB h0
 split at h1
 rotate_left
 ·cases h1
 rename_i hl
 subst hl
 cases h1
 clear h h0
 obtain ⟨ah,ai,al,ao⟩ :=a
 obtain ⟨bh,bi,bl,bo⟩ :=b
 refine ⟨Nat.le_of_ble_eq_true rfl,(fun id st=> bif Nat.beq id 0 then some (LC (ρ:=Int) (σ:=Unit) (lk 3 st.t= .ptr 0 0∧lk 4 st.t= .ptr 1 0∧lk 9 st.t=gw∧lk 10 st.t= .i 3∧lk 11 st.t= .i 0∧st.h=[.cells (cellsOf .order ⟨ah,ai,al,ao⟩),.cells (cellsOf .order ⟨bh,bi,bl,bo⟩)]) (ax (pm ⟨ah,ai,al,ao⟩ ⟨bh,bi,bl,bo⟩) 3 0 ()) (fun _=> .ret) (fun x=> ⟨[(5,.i x)],[.dead,.dead]⟩) (fun _=> ⟨[],[.dead,.dead]⟩)) else none),?_,?_⟩
 ·unfold aj Tryz.f121
  simp only [az,true_and,and_true]
  refine xg mixed aH hG (by kernel_rfl) fun st lc hC hp=> ?_
  simp only [go_sem,Nat.reduceBEq,Option.some.injEq] at hC
  subst hC
  obtain ⟨t,h⟩ :=st
  dsimp only [LC] at hp
  obtain ⟨e1,e2,e3,e4,e5,rfl⟩ :=hp
  refine ⟨_,_,_,pm ⟨ah,ai,al,ao⟩ ⟨bh,bi,bl,bo⟩,fun _ _=> True,3,(),_,_,_,(fun k _=> ⟨[(3,.ptr 0 0),(4,.ptr 1 0),(9,gw),(10,.i 3),(11,.i (k : Int))],[.cells (cellsOf .order ⟨ah,ai,al,ao⟩),.cells (cellsOf .order ⟨bh,bi,bl,bo⟩)]⟩),[0,1],rfl,mU _ _ _ fun _ _ _ _=> trivial,Nat.le_refl _,?_,fun k s hk hpk=> ⟨L0,?_,?_⟩⟩
  ·simp only [go_sem,e1,e2,e3,e4,e5,gw,Nat.reduceBEq,Nat.reduceLeDiff,Nat.reduceAdd,true_and,and_true]
   all_goals (first | done | decide | (repeat' (first | refine And.intro ?_ ?_ | rfl | decide)))
  ·simp only [az,and_self,true_and,and_true]
  ·have hk4 : k=0∨k=1∨k=2∨k=3:=by omega
   have hw0 : IntKind.i64.wrap ((0 : Int) + 1)=((0 + 1 : Nat) : Int) :=by decide
   have hw1 : IntKind.i64.wrap ((1 : Int) + 1)=((1 + 1 : Nat) : Int) :=by decide
   have hw2 : IntKind.i64.wrap ((2 : Int) + 1)=((2 + 1 : Nat) : Int) :=by decide
   rcases hk4 with rfl | rfl | rfl | rfl
   all_goals
    simp only [go_sem,cp,gq,i7,gu,gw,pm,kU,true_imp_iff,false_imp_iff,Bool.false_eq_true,Int.toNat_natCast,Int.toNat_zero,Nat.reduceBEq,Nat.reduceLeDiff,Nat.reduceAdd,Nat.reduceSub,Nat.reduceMul,Nat.reduceLT,Int.reduceLE,Int.reduceLT,Int.reduceToNat,Int.reduceNeg,true_and,and_true,and_self,implies_true,forall_const,reduceCtorEq,Int.cast_ofNat_Int]
   all_goals (first | done | (repeat' (first | with_reducible refine And.intro ?_ ?_ | ((with_reducible show _≠_);first | assumption | omega | (simp_all;done) | grind) | with_reducible intro _)) <;> (first | done | assumption | rfl | omega | decide | (simp only [*,cond_true,cond_false,go_sem,true_imp_iff,false_imp_iff,Bool.false_eq_true,Int.toNat_natCast,Int.toNat_zero,Nat.reduceBEq,Nat.reduceLeDiff,Nat.reduceAdd,Nat.reduceSub,Nat.reduceMul,Int.reduceLE,Int.reduceLT,Int.reduceToNat,Int.reduceNeg,true_and,and_true,and_self,implies_true,forall_const,reduceCtorEq];done) | (simp only [*,cond_true,cond_false,go_sem,true_imp_iff,false_imp_iff,Bool.false_eq_true,Int.toNat_natCast,Int.toNat_zero,Nat.reduceBEq,Nat.reduceLeDiff,Nat.reduceAdd,Nat.reduceSub,Nat.reduceMul,Int.reduceLE,Int.reduceLT,Int.reduceToNat,Int.reduceNeg,true_and,and_true,and_self,implies_true,forall_const,reduceCtorEq];(repeat' (first | with_reducible refine And.intro ?_ ?_ | ((with_reducible show _≠_);first | assumption | omega | (simp_all;done) | grind) | with_reducible intro _)) <;> (first | done | assumption | rfl | omega | decide))))
   all_goals trace_state
 ·unfold aj Tryz.f121
  unfold av
  simp only [go_sem,gw,true_imp_iff,false_imp_iff,Bool.false_eq_true,Nat.reduceBEq,Nat.reduceLeDiff,Nat.reduceAdd,Nat.reduceSub,Nat.reduceMul,true_and,and_true,implies_true,sz,List.map_cons,List.map_nil]
  all_goals (first | done | (repeat' (first | with_reducible refine And.intro ?_ ?_ | ((with_reducible show _≠_);first | assumption | omega | (simp_all;done) | grind) | with_reducible intro _)) <;> (first | done | assumption | rfl | omega | (simp only [*,cond_true,cond_false,Bool.not_true,Bool.not_false,go_sem,true_imp_iff,false_imp_iff,Bool.false_eq_true,Int.toNat_natCast,Int.toNat_zero,Nat.reduceBEq,Nat.reduceLeDiff,Nat.reduceAdd,Nat.reduceSub,Nat.reduceMul,Int.reduceLE,Int.reduceLT,Int.reduceToNat,Int.reduceNeg,true_and,and_true,and_self,implies_true,forall_const,reduceCtorEq];done) | (simp only [*,cond_true,cond_false,Bool.not_true,Bool.not_false,go_sem,true_imp_iff,false_imp_iff,Bool.false_eq_true,Int.toNat_natCast,Int.toNat_zero,Nat.reduceBEq,Nat.reduceLeDiff,Nat.reduceAdd,Nat.reduceSub,Nat.reduceMul,Int.reduceLE,Int.reduceLT,Int.reduceToNat,Int.reduceNeg,true_and,and_true,and_self,implies_true,forall_const,reduceCtorEq];(repeat' (first | with_reducible refine And.intro ?_ ?_ | ((with_reducible show _≠_);first | assumption | omega | (simp_all;done) | grind) | with_reducible intro _)) <;> (first | done | assumption | rfl | omega | (simp_all;done))) | (simp_all [okI];done) | grind))
attribute [go_sem] b8 eP
end Go.Sx
end
section
namespace Go.Sx
open Go.Proofs
set_option maxRecDepth 100000
set_option linter.unusedSimpArgs false
theorem zT {p : Prop} (h : p:=by (first | done | (repeat' (first | with_reducible refine And.intro ?_ ?_ | ((with_reducible show _≠_);first | assumption | omega | (simp_all [aK,aU];done) | grind) | with_reducible intro _)) <;> (first | done | exact Empty.elim ‹Empty› | assumption | rfl | omega | decide | exact fk [0] | (simp only [*,cond_true,cond_false,Bool.not_true,Bool.not_false,go_sem,Nat.reduceBEq,Nat.reduceLeDiff,Nat.reduceLT,decide_true,Nat.reduceAdd,Nat.reduceSub,Nat.reduceMul,Int.reduceLE,Int.reduceLT,Int.reduceToNat,Int.reduceNeg,reduceCtorEq];done) | (simp only [*,cond_true,cond_false,Bool.not_true,Bool.not_false,go_sem,Nat.reduceBEq,Nat.reduceLeDiff,Nat.reduceLT,decide_true,Nat.reduceAdd,Nat.reduceSub,Nat.reduceMul,Int.reduceLE,Int.reduceLT,Int.reduceToNat,Int.reduceNeg,reduceCtorEq];(repeat' (first | with_reducible refine And.intro ?_ ?_ | ((with_reducible show _≠_);first | assumption | omega | (simp_all [aK,aU];done) | grind) | with_reducible intro _)) <;> (first | done | assumption | rfl | omega | decide | exact fk [0] | (simp_all [aK,aU];done))) | (simp_all [okI,aK,aU];done) | (simp_all [aK,aU];(first | done | exact fk2 [0])) | exact fk2 [0]))) : p:=h
theorem zU {p : Prop} (h : p:=by (first | done | (repeat' (first | with_reducible refine And.intro ?_ ?_ | ((with_reducible show _≠_);first | assumption | omega | (simp_all [aK,aU];done) | grind) | with_reducible intro _)) <;> (first | done | exact Empty.elim ‹Empty› | assumption | rfl | omega | decide | exact fk [] | (simp only [*,cond_true,cond_false,Bool.not_true,Bool.not_false,go_sem,Nat.reduceBEq,Nat.reduceLeDiff,Nat.reduceLT,decide_true,Nat.reduceAdd,Nat.reduceSub,Nat.reduceMul,Int.reduceLE,Int.reduceLT,Int.reduceToNat,Int.reduceNeg,reduceCtorEq];done) | (simp only [*,cond_true,cond_false,Bool.not_true,Bool.not_false,go_sem,Nat.reduceBEq,Nat.reduceLeDiff,Nat.reduceLT,decide_true,Nat.reduceAdd,Nat.reduceSub,Nat.reduceMul,Int.reduceLE,Int.reduceLT,Int.reduceToNat,Int.reduceNeg,reduceCtorEq];(repeat' (first | with_reducible refine And.intro ?_ ?_ | ((with_reducible show _≠_);first | assumption | omega | (simp_all [aK,aU];done) | grind) | with_reducible intro _)) <;> (first | done | assumption | rfl | omega | decide | exact fk [] | (simp_all [aK,aU];done))) | (simp_all [okI,aK,aU];done) | (simp_all [aK,aU];(first | done | exact fk2 [])) | exact fk2 []))) : p:=h
theorem zV {p : Prop} (h : p:=by simp only [go_sem,Nat.reduceBEq,Nat.reduceLeDiff,Nat.reduceLT,decide_true,Nat.reduceAdd,Nat.reduceSub,Nat.reduceMul,Int.reduceLE,Int.reduceLT,Int.reduceToNat,Int.reduceNeg,reduceCtorEq,hc,hw];all_goals exact zT) : p:=h
theorem zW {p : Prop} (h : p:=by simp only [go_sem,Nat.reduceBEq,Nat.reduceLeDiff,Nat.reduceLT,decide_true,Nat.reduceAdd,Nat.reduceSub,Nat.reduceMul,Int.reduceLE,Int.reduceLT,Int.reduceToNat,Int.reduceNeg,reduceCtorEq,hc];all_goals exact zT) : p:=h
theorem IS {p : Prop} (h : p:=by simp only [go_sem,Nat.reduceBEq,Nat.reduceLeDiff,Nat.reduceLT,decide_true,Nat.reduceAdd,Nat.reduceSub,Nat.reduceMul,Int.reduceLE,Int.reduceLT,Int.reduceToNat,Int.reduceNeg,reduceCtorEq,hc,hw];all_goals exact zU) : p:=h
theorem IT {p : Prop} (h : p:=by simp only [go_sem,Nat.reduceBEq,Nat.reduceLeDiff,Nat.reduceLT,decide_true,Nat.reduceAdd,Nat.reduceSub,Nat.reduceMul,Int.reduceLE,Int.reduceLT,Int.reduceToNat,Int.reduceNeg,reduceCtorEq,hc];all_goals exact zU) : p:=h
@[go_sem] def dy (a0 : District) (a1 : List Order) (k_0 : Nat) (s_0 : Unit) : Unit⊕Unit:=(bif (a1.getD k_0 (default : Order)).outlet then (bif (((((((decide ((a1.getD k_0 (default : Order)).hour < 0)) || (decide ((a1.getD k_0 (default : Order)).hour≥a0.hours))) || (decide ((a1.getD k_0 (default : Order)).index < 0))) || (decide ((a1.getD k_0 (default : Order)).index≥(a0.farms.length : Int)))) || (decide ((a1.getD k_0 (default : Order)).litres < 1))) || (decide ((a1.getD k_0 (default : Order)).litres > 1073741824))) || ((decide ((k_0 : Int) > 0)) && (decide ((av (a1.getD (Int.toNat (IntKind.i64.wrap ((k_0 : Int) - 1))) (default : Order)) (a1.getD k_0 (default : Order)))≥0)))) then .inl () else .inr ()) else (bif (((((((decide ((a1.getD k_0 (default : Order)).hour < 0)) || (decide ((a1.getD k_0 (default : Order)).hour≥a0.hours))) || (decide ((a1.getD k_0 (default : Order)).index < 0))) || (decide ((a1.getD k_0 (default : Order)).index≥(a0.reaches.length : Int)))) || (decide ((a1.getD k_0 (default : Order)).litres < 1))) || (decide ((a1.getD k_0 (default : Order)).litres > 1073741824))) || ((decide ((k_0 : Int) > 0)) && (decide ((av (a1.getD (Int.toNat (IntKind.i64.wrap ((k_0 : Int) - 1))) (default : Order)) (a1.getD k_0 (default : Order)))≥0)))) then .inl () else .inr ()))
def fb (a0 : District) (a1 : List Order) (k_0 : Nat) (s_0 : Unit) : Prop:=(a0.reaches.length≤bt→(((a1.getD k_0 (default : Order)).outlet=true→(a0.farms.length≤bt→(((((((decide ((a1.getD k_0 (default : Order)).hour < 0)) || (decide ((a1.getD k_0 (default : Order)).hour≥a0.hours))) || (decide ((a1.getD k_0 (default : Order)).index < 0))) || (decide ((a1.getD k_0 (default : Order)).index≥(a0.farms.length : Int)))) || (decide ((a1.getD k_0 (default : Order)).litres < 1))) || (decide ((a1.getD k_0 (default : Order)).litres > 1073741824)))=false→((decide ((k_0 : Int) > 0))=true→(0≤(IntKind.i64.wrap ((k_0 : Int) - 1))∧(IntKind.i64.wrap ((k_0 : Int) - 1)) < (a1.length : Int))))))∧((a1.getD k_0 (default : Order)).outlet=false→(((((((decide ((a1.getD k_0 (default : Order)).hour < 0)) || (decide ((a1.getD k_0 (default : Order)).hour≥a0.hours))) || (decide ((a1.getD k_0 (default : Order)).index < 0))) || (decide ((a1.getD k_0 (default : Order)).index≥(a0.reaches.length : Int)))) || (decide ((a1.getD k_0 (default : Order)).litres < 1))) || (decide ((a1.getD k_0 (default : Order)).litres > 1073741824)))=false→((decide ((k_0 : Int) > 0))=true→(0≤(IntKind.i64.wrap ((k_0 : Int) - 1))∧(IntKind.i64.wrap ((k_0 : Int) - 1)) < (a1.length : Int)))))))
def bX (a0 : District) (a1 : List Order) : Int:=(bif ((bu a0) !=0) then (bu a0) else (bif (decide ((a1.length : Int) > 4096)) then 2 else (match ax (dy a0 a1) a1.length 0 () with | .inl x_0_0=> 220 | .inr s_0=> 0)))
def fq (a0 : District) (a1 : List Order) : Prop:=(((bu a0) !=0)=false→(a1.length≤bt→((decide ((a1.length : Int) > 4096))=false→(a1.length≤bt→okI (dy a0 a1) (fb a0 a1) a1.length 0 ()))))
@[go_sem] def nz : List SV→Option Con:=(pD .district fun a0=> (pR .order fun a1=> (pE (.det (fq a0 a1) (.v (.int .i64 (bX a0 a1)))))))
set_option maxHeartbeats 4000000 in
theorem sJ : FnOk Tryz.prog 25 nz:=by
 have hG : ConsOk Tryz.prog (mkG [(42,fun l=> kQ (c8 [.st .district] l)),(44,b8),(121,eP)] []) :=aQ (cgc (nt.norm [.st .district]) (cgc kT (cgc ny cg0))) cg0
 refine ba [.o] mixed aH hG (fn:=Tryz.f25) (c:=aj Tryz.f25) (by kernel_rfl) (by kernel_rfl) (by kernel_rfl) (by kernel_rfl) (bW fun a0=> (dq fun a1=> (aO (fun hp=> ?_))))
 dsimp only [aW] at hp
 unfold fq at hp
 refine ⟨Nat.le_of_ble_eq_true rfl,(fun id st=> bif Nat.beq id 0 then some (LCR (ρ:=Unit) (σ:=Unit) 1 [] [0] (fun k_0 s_0=> ⟨[(1,.rs .order a1),(2,.ptr 0 0),(5,.fn 121 [] [.ep [.ls [.fn 79 [] [],.fn 80 [] [],.fn 81 [] []]] 0]),(18,.rs .order a1),(19,.v (.int .i64 (a1.length : Int))),(20,.v (.int .i64 (k_0 : Int)))],[.cells (cellsOf .district a0)]⟩) (dy a0 a1) (fb a0 a1) a1.length () (a1.length≤bt) (fun _=> .ret) (fun x_0_0=> ⟨[(4,.v (.int .i64 220))],[.dead]⟩) st) else none),?_,?_⟩
 ·unfold aj Tryz.f25
  simp only [az,true_and,and_true]
  ·refine c9 mixed aH hG (by kernel_rfl) (fun _=> rfl) (a1.length : Int) rfl lr (fun hb0 k_0 s_0 hlt0 hq0 hw hc=> ⟨L0,aw _,?_⟩) (fun hb0 s_0 hc=> ?_)
   ·unfold fb at hq0
    try simp only [hw,Int.toNat_natCast] at hq0
    exact zV
   ·exact zW
 ·unfold aj Tryz.f25
  try unfold bX
  simp only [go_sem,Nat.reduceBEq,Nat.reduceLeDiff,Nat.reduceLT,decide_true,Nat.reduceAdd,Nat.reduceSub,Nat.reduceMul,Int.reduceLE,Int.reduceLT,Int.reduceToNat,Int.reduceNeg,reduceCtorEq,b8,eP,if_true]
  all_goals exact cl
def bE (d : District) (l_ : List Order) : Int:=(bif (((bX d l_) ==0) && (decide ((IntKind.i64.wrap ((d.reaches.length : Int) * d.hours)) > 1024))) then 2 else (bX d l_))
def ga (d : District) (l_ : List Order) : Prop:=(fq d l_)
@[go_sem] def mA : List SV→Option Con:=(pD .district fun d=> (pR .order fun l_=> (pE (.det (ga d l_) (.v (.int .i64 (bE d l_)))))))
theorem rF : FnOk Tryz.prog 93 mA:=by
 have hG : ConsOk Tryz.prog (mkG [(25,fun l=> nz (c8 [.st .district,.sl .order] l))] []) :=aQ (cgc (sJ.norm [.st .district,.sl .order]) cg0) cg0
 refine ba [.o] mixed aH hG (fn:=Tryz.f93) (c:=aj Tryz.f93) (by kernel_rfl) (by kernel_rfl) (by kernel_rfl) (by kernel_rfl) (bW fun d=> (dq fun l_=> (aO (fun hp=> ?_))))
 dsimp only [aW] at hp
 unfold ga at hp
 refine ⟨Nat.le_of_ble_eq_true rfl,L0,aw _,?_⟩
 ·unfold aj Tryz.f93
  try unfold bE
  simp only [go_sem,Nat.reduceBEq,Nat.reduceLeDiff,Nat.reduceLT,decide_true,Nat.reduceAdd,Nat.reduceSub,Nat.reduceMul,Int.reduceLE,Int.reduceLT,Int.reduceToNat,Int.reduceNeg,reduceCtorEq]
  all_goals exact cl
@[go_sem] def jW (l_ : List Int) (k_0 : Nat) (s_0 : Unit) : Int⊕Unit:=(bif ((l_.getD k_0 (0 : Int)) !=0) then .inl (l_.getD k_0 (0 : Int)) else .inr ())
def ix (l_ : List Int) : Int:=(match ax (jW l_) l_.length 0 () with | .inl x_0_0=> x_0_0 | .inr s_0=> 0)
@[go_sem] def oz : List SV→Option Con:=(pR .int fun l_=> (pE (.det True (.v (.int .i64 (ix l_))))))
set_option maxHeartbeats 4000000 in
theorem tN : FnOk Tryz.prog 77 oz:=by
 have hG : ConsOk Tryz.prog (mkG [] []) :=aQ cg0 cg0
 refine ba [.o] mixed aH hG (fn:=Tryz.f77) (c:=aj Tryz.f77) (by kernel_rfl) (by kernel_rfl) (by kernel_rfl) (by kernel_rfl) (dq fun l_=> (aO (fun hp=> ?_)))
 dsimp only [aW] at hp
 refine ⟨Nat.le_of_ble_eq_true rfl,(fun id st=> bif Nat.beq id 0 then some (LCR (ρ:=Int) (σ:=Unit) 0 [] [] (fun k_0 s_0=> ⟨[(5,.rs .int l_),(6,.v (.int .i64 (l_.length : Int))),(7,.v (.int .i64 (k_0 : Int)))],[]⟩) (jW l_) pT l_.length () (l_.length≤bt) (fun _=> .ret) (fun x_0_0=> ⟨[(2,.v (.int .i64 x_0_0))],[]⟩) st) else none),?_,?_⟩
 ·unfold aj Tryz.f77
  simp only [az,true_and,and_true]
  ·refine c9 mixed aH hG (by kernel_rfl) (fun _=> rfl) (l_.length : Int) rfl lr (fun hb0 k_0 s_0 hlt0 _ hw hc=> ⟨L0,aw _,?_⟩) (fun hb0 s_0 hc=> ?_)
   ·exact IS
   ·exact IT
 ·unfold aj Tryz.f77
  try unfold ix
  simp only [go_sem,Nat.reduceBEq,Nat.reduceLeDiff,Nat.reduceLT,decide_true,Nat.reduceAdd,Nat.reduceSub,Nat.reduceMul,Int.reduceLE,Int.reduceLT,Int.reduceToNat,Int.reduceNeg,reduceCtorEq]
  all_goals exact cl
def gb (a : Claim) (b : Claim) : Int:=(ix ([(aR a.hour b.hour),(aR a.rank b.rank),(aR a.right b.right),(aR a.farm b.farm)]))
@[go_sem] def oA : List SV→Option Con:=(pD .claim fun a=> (pD .claim fun b=> (pE (.det True (.v (.int .i64 (gb a b)))))))
theorem tO : FnOk Tryz.prog 43 oA:=by
 have hG : ConsOk Tryz.prog (mkG [(70,cp),(77,fun l=> oz (c8 [.sl .int] l))] []) :=aQ (cgc cS (cgc (tN.norm [.sl .int]) cg0)) cg0
 refine ba [.o] mixed aH hG (fn:=Tryz.f43) (c:=aj Tryz.f43) (by kernel_rfl) (by kernel_rfl) (by kernel_rfl) (by kernel_rfl) (bW fun a=> (bW fun b=> (aO (fun hp=> ?_))))
 dsimp only [aW] at hp
 refine ⟨Nat.le_of_ble_eq_true rfl,L0,aw _,?_⟩
 ·unfold aj Tryz.f43
  try unfold gb
  simp only [go_sem,Nat.reduceBEq,Nat.reduceLeDiff,Nat.reduceLT,decide_true,Nat.reduceAdd,Nat.reduceSub,Nat.reduceMul,Int.reduceLE,Int.reduceLT,Int.reduceToNat,Int.reduceNeg,reduceCtorEq]
  all_goals exact cl
@[go_sem] def dW (a0 : District) (a1 : List Claim) (k_0 : Nat) (s_0 : Unit) : Unit⊕Unit:=(bif ((((!((((((((decide ((a1.getD k_0 (default : Claim)).right≥0)) && (decide ((a1.getD k_0 (default : Claim)).right < (a0.rights.length : Int)))) && (decide ((a1.getD k_0 (default : Claim)).farm≥0))) && (decide ((a1.getD k_0 (default : Claim)).farm < (a0.farms.length : Int)))) && (decide ((a1.getD k_0 (default : Claim)).hour≥0))) && (decide ((a1.getD k_0 (default : Claim)).hour < a0.hours))) && (decide ((a1.getD k_0 (default : Claim)).litres≥1))) && (decide ((a1.getD k_0 (default : Claim)).litres≤1073741824)))) || ((a0.rights.getD (Int.toNat ((a1.getD k_0 (default : Claim)).right)) (default : Right)).kind !=1)) || ((a0.rights.getD (Int.toNat ((a1.getD k_0 (default : Claim)).right)) (default : Right)).rank !=(a1.getD k_0 (default : Claim)).rank)) || ((decide ((k_0 : Int) > 0)) && (decide ((gb (a1.getD (Int.toNat (IntKind.i64.wrap ((k_0 : Int) - 1))) (default : Claim)) (a1.getD k_0 (default : Claim)))≥0)))) then .inl () else .inr ())
def fI (a0 : District) (a1 : List Claim) (k_0 : Nat) (s_0 : Unit) : Prop:=(((!((((((((decide ((a1.getD k_0 (default : Claim)).right≥0)) && (decide ((a1.getD k_0 (default : Claim)).right < (a0.rights.length : Int)))) && (decide ((a1.getD k_0 (default : Claim)).farm≥0))) && (decide ((a1.getD k_0 (default : Claim)).farm < (a0.farms.length : Int)))) && (decide ((a1.getD k_0 (default : Claim)).hour≥0))) && (decide ((a1.getD k_0 (default : Claim)).hour < a0.hours))) && (decide ((a1.getD k_0 (default : Claim)).litres≥1))) && (decide ((a1.getD k_0 (default : Claim)).litres≤1073741824))))=false→(0≤(a1.getD k_0 (default : Claim)).right∧(a1.getD k_0 (default : Claim)).right < (a0.rights.length : Int)))∧((((!((((((((decide ((a1.getD k_0 (default : Claim)).right≥0)) && (decide ((a1.getD k_0 (default : Claim)).right < (a0.rights.length : Int)))) && (decide ((a1.getD k_0 (default : Claim)).farm≥0))) && (decide ((a1.getD k_0 (default : Claim)).farm < (a0.farms.length : Int)))) && (decide ((a1.getD k_0 (default : Claim)).hour≥0))) && (decide ((a1.getD k_0 (default : Claim)).hour < a0.hours))) && (decide ((a1.getD k_0 (default : Claim)).litres≥1))) && (decide ((a1.getD k_0 (default : Claim)).litres≤1073741824)))) || ((a0.rights.getD (Int.toNat ((a1.getD k_0 (default : Claim)).right)) (default : Right)).kind !=1))=false→(0≤(a1.getD k_0 (default : Claim)).right∧(a1.getD k_0 (default : Claim)).right < (a0.rights.length : Int)))∧((((!((((((((decide ((a1.getD k_0 (default : Claim)).right≥0)) && (decide ((a1.getD k_0 (default : Claim)).right < (a0.rights.length : Int)))) && (decide ((a1.getD k_0 (default : Claim)).farm≥0))) && (decide ((a1.getD k_0 (default : Claim)).farm < (a0.farms.length : Int)))) && (decide ((a1.getD k_0 (default : Claim)).hour≥0))) && (decide ((a1.getD k_0 (default : Claim)).hour < a0.hours))) && (decide ((a1.getD k_0 (default : Claim)).litres≥1))) && (decide ((a1.getD k_0 (default : Claim)).litres≤1073741824)))) || ((a0.rights.getD (Int.toNat ((a1.getD k_0 (default : Claim)).right)) (default : Right)).kind !=1)) || ((a0.rights.getD (Int.toNat ((a1.getD k_0 (default : Claim)).right)) (default : Right)).rank !=(a1.getD k_0 (default : Claim)).rank))=false→((decide ((k_0 : Int) > 0))=true→(0≤(IntKind.i64.wrap ((k_0 : Int) - 1))∧(IntKind.i64.wrap ((k_0 : Int) - 1)) < (a1.length : Int))))))
def aZ (a0 : District) (a1 : List Claim) : Int:=(bif ((bu a0) !=0) then (bu a0) else (bif (decide ((a1.length : Int) > 4096)) then 2 else (match ax (dW a0 a1) a1.length 0 () with | .inl x_0_0=> 260 | .inr s_0=> 0)))
def fT (a0 : District) (a1 : List Claim) : Prop:=(((bu a0) !=0)=false→(a1.length≤bt→((decide ((a1.length : Int) > 4096))=false→(a1.length≤bt→okI (dW a0 a1) (fI a0 a1) a1.length 0 ()))))
@[go_sem] def kV : List SV→Option Con:=(pD .district fun a0=> (pR .claim fun a1=> (pE (.det (fT a0 a1) (.v (.int .i64 (aZ a0 a1)))))))
set_option maxHeartbeats 4000000 in
theorem nA : FnOk Tryz.prog 24 kV:=by
 have hG : ConsOk Tryz.prog (mkG [(42,fun l=> kQ (c8 [.st .district] l)),(43,oA)] []) :=aQ (cgc (nt.norm [.st .district]) (cgc tO cg0)) cg0
 refine ba [.o] mixed aH hG (fn:=Tryz.f24) (c:=aj Tryz.f24) (by kernel_rfl) (by kernel_rfl) (by kernel_rfl) (by kernel_rfl) (bW fun a0=> (dq fun a1=> (aO (fun hp=> ?_))))
 dsimp only [aW] at hp
 unfold fT at hp
 refine ⟨Nat.le_of_ble_eq_true rfl,(fun id st=> bif Nat.beq id 0 then some (LCR (ρ:=Unit) (σ:=Unit) 1 [] [0] (fun k_0 s_0=> ⟨[(1,.rs .claim a1),(2,.ptr 0 0),(16,.rs .claim a1),(17,.v (.int .i64 (a1.length : Int))),(18,.v (.int .i64 (k_0 : Int)))],[.cells (cellsOf .district a0)]⟩) (dW a0 a1) (fI a0 a1) a1.length () (a1.length≤bt) (fun _=> .ret) (fun x_0_0=> ⟨[(4,.v (.int .i64 260))],[.dead]⟩) st) else none),?_,?_⟩
 ·unfold aj Tryz.f24
  simp only [az,true_and,and_true]
  ·refine c9 mixed aH hG (by kernel_rfl) (fun _=> rfl) (a1.length : Int) rfl lr (fun hb0 k_0 s_0 hlt0 hq0 hw hc=> ⟨L0,aw _,?_⟩) (fun hb0 s_0 hc=> ?_)
   ·unfold fI at hq0
    try simp only [hw,Int.toNat_natCast] at hq0
    exact zV
   ·exact zW
 ·unfold aj Tryz.f24
  try unfold aZ
  simp only [go_sem,Nat.reduceBEq,Nat.reduceLeDiff,Nat.reduceLT,decide_true,Nat.reduceAdd,Nat.reduceSub,Nat.reduceMul,Int.reduceLE,Int.reduceLT,Int.reduceToNat,Int.reduceNeg,reduceCtorEq]
  all_goals exact cl
end Go.Sx
end
section
namespace Go.Sx
open Go.Proofs
def mB (a : Order) : Int:=bif a.outlet then 1 else 0
def olt (a b : Order) : Prop:=a.hour < b.hour∨a.hour=b.hour∧(mB a < mB b∨mB a=mB b∧a.index < b.index)
theorem hY (x y : Int) : aR x y=if x < y then -1 else if x > y then 1 else 0:=by
 unfold aR fu
 simp [Bool.cond_eq_ite]
theorem zX {a b : Order} (h : av a b < 0) : olt a b:=by
 unfold av at h
 unfold olt
 have k0 : ∀ x,kU 0 x=x.hour:=fun _=> rfl
 have k1 : ∀ x,kU 1 x=mB x:=fun _=> rfl
 have k2 : ∀ x,kU 2 x=x.index:=fun _=> rfl
 simp only [ax,pm,Nat.zero_add,Nat.reduceAdd,k0,k1,k2,hY] at h
 generalize mB a=p at h ⊢
 generalize mB b=q at h ⊢
 rcases Int.lt_trichotomy a.hour b.hour with e | e | e
 ·exact .inl e
 ·refine .inr ⟨e,?_⟩
  rcases Int.lt_trichotomy p q with e1 | e1 | e1
  ·exact .inl e1
  ·refine .inr ⟨e1,?_⟩
   rcases Int.lt_trichotomy a.index b.index with e2 | e2 | e2
   ·exact e2
   ·simp [e,e1,e2] at h
   ·have h1 : ¬ a.index < b.index:=by omega
    simp [e,e1,e2,h1] at h
  ·have h1 : ¬ p < q:=by omega
   simp [e,e1,h1] at h
 ·have h1 : ¬ a.hour < b.hour:=by omega
  simp [e,h1] at h
theorem xk {a b c : Order} (h1 : olt a b) (h2 : olt b c) : olt a c:=by
 unfold olt at *;omega
theorem zY (a b : Order) : av a b < 0↔olt a b:=by
 refine ⟨zX,fun h=> ?_⟩
 unfold av
 have k0 : ∀ x,kU 0 x=x.hour:=fun _=> rfl
 have k1 : ∀ x,kU 1 x=mB x:=fun _=> rfl
 have k2 : ∀ x,kU 2 x=x.index:=fun _=> rfl
 simp only [ax,pm,Nat.zero_add,Nat.reduceAdd,k0,k1,k2,hY]
 unfold olt at h
 generalize mB a=p at h ⊢
 generalize mB b=q at h ⊢
 rcases h with h | ⟨e,h | ⟨e2,h⟩⟩
 ·simp [h]
 ·simp [e,h]
 ·simp [e,e2,h]
open Go.Shelf Go.Sort in
theorem mY : SWO (ltOf av) :=by
 have e : ∀ x y,ltOf av x y=true↔olt x y:=fun x y=> by unfold ltOf;rw [decide_eq_true_eq,zY]
 have e' : ∀ x y,ltOf av x y=false↔¬ olt x y:=fun x y=> by rw [←e];simp
 refine ⟨fun x=> (e' x x).2 (by unfold olt;omega),fun x y z h1 h2=> (e x z).2 (xk ((e x y).1 h1) ((e y z).1 h2)),fun x y z h1 h2=> (e' x z).2 ?_⟩
 have h1:=(e' x y).1 h1
 have h2:=(e' y z).1 h2
 unfold olt at *
 omega
end Go.Sx
end
section
namespace Go.Sx
open Go.Proofs
theorem gc {n i : Nat} {step : Nat→Unit→Unit⊕Unit} {s : Unit} (h : ax step n i s= .inr s) : ∀ j,i≤j→j < i + n→step j ()= .inr () :=by
 induction n generalizing i with
 | zero=> intro j h1 h2;omega
 | succ n ih=>
  simp only [ax] at h
  cases hs : step i s with
  | inl r=> rw [hs] at h;cases h
  | inr s'=>
   rw [hs] at h
   intro j h1 h2
   by_cases e : j=i
   ·subst e;cases s;exact hs
   ·exact ih h j (by omega) (by omega)
theorem rG {b : Bool} {e : Int} : bT b e=b:=by
 cases b <;> rfl
theorem yy {a b c : Int} (h : aP [a,b,c]=true) : a≤b∧b≤c:=by
 unfold aP at h
 simp only [List.length_cons,List.length_nil,Nat.zero_add,Nat.reduceAdd,Nat.reduceSub] at h
 split at h
 ·cases h
 ·rename_i s hs
  have h0:=gc hs 0 (by omega) (by omega)
  have h1:=gc hs 1 (by omega) (by omega)
  simp [cV,IntKind.wrap,IntKind.bits,IntKind.signed] at h0 h1
  constructor
  ·cases hd : decide (b < a) <;> simp_all <;> omega
  ·cases hd : decide (c < b) <;> simp_all <;> omega
theorem pn {a b c d : Int} (h : aP [a,b,c,d]=true) : a≤b∧b≤c∧c≤d:=by
 unfold aP at h
 simp only [List.length_cons,List.length_nil,Nat.zero_add,Nat.reduceAdd,Nat.reduceSub] at h
 split at h
 ·cases h
 ·rename_i s hs
  have h0:=gc hs 0 (by omega) (by omega)
  have h1:=gc hs 1 (by omega) (by omega)
  have h2:=gc hs 2 (by omega) (by omega)
  simp [cV,IntKind.wrap,IntKind.bits,IntKind.signed] at h0 h1 h2
  refine ⟨?_,?_,?_⟩
  ·cases hd : decide (b < a) <;> simp_all <;> omega
  ·cases hd : decide (c < b) <;> simp_all <;> omega
  ·cases hd : decide (d < c) <;> simp_all <;> omega
structure Right1 (d : District) : Prop where
 reaches : d.reaches.length≤64
 one : 0 < d.reaches.length
 farms : d.farms.length≤600
 rights : d.rights.length≤256
 hours1 : 1≤d.hours
 hours : d.hours≤4096
 start0 : 0≤d.tank.start
 start : d.tank.start≤d.tank.cap
 cap : d.tank.cap≤1099511627776
 reach : ∀ k,k < d.reaches.length→bB (k : Int) (d.reaches.getD k default)=true
 farm : ∀ k,k < d.farms.length→0≤(d.farms.getD k default).reach∧(d.farms.getD k default).reach < (d.reaches.length : Int)
theorem oB {d : District} (h : (bu d !=0)=false) : Right1 d:=by
 have h : bu d=0:=by simpa using h
 unfold bu at h
 simp only [rG] at h
 cases h1 : (decide ((d.reaches.length : Int)≤64) && decide ((d.farms.length : Int)≤600) && decide ((d.crops.length : Int)≤32) && decide ((d.rights.length : Int)≤256) && decide ((d.duties.length : Int)≤256)) with
 | false=> rw [h1] at h;simp at h
 | true=>
  rw [h1] at h
  simp only [cond_true] at h
  cases h2 : ez d 191 with
  | false=> rw [h2] at h;simp at h
  | true=>
   unfold ez at h2
   simp only [rG] at h2
   cases h3 : (aP [1,d.hours,4096] && aP [0,d.tank.start,d.tank.cap,1099511627776] && decide ((d.reaches.length : Int) > 0)) with
   | false=> rw [h3] at h2;simp at h2
   | true=>
    rw [h3] at h2
    simp only [cond_true] at h2
    simp only [Bool.and_eq_true,decide_eq_true_eq] at h1 h3
    obtain ⟨r1,r2⟩ :=yy h3.1.1
    obtain ⟨r3,r4,r5⟩ :=pn h3.1.2
    split at h2
    ·cases h2
    rename_i s0 hs0
    split at h2
    ·cases h2
    rename_i s1 hs1
    split at h2
    ·cases h2
    rename_i s2 hs2
    refine ⟨by omega,by omega,by omega,by omega,r1,r2,r3,r4,r5,fun k hk=> ?_,fun k hk=> ?_⟩
    ·have:=gc hs0 k (by omega) (by omega)
     simp only [fG,rG] at this
     cases he : bB (k : Int) (d.reaches.getD k default) with
     | false=> rw [he] at this;simp at this
     | true=> rfl
    ·have:=gc hs2 k (by omega) (by omega)
     simp only [fH,rG] at this
     have hx : cq (d.farms.getD k default).reach (d.reaches.length : Int)=true:=by
      cases he : cq (d.farms.getD k default).reach (d.reaches.length : Int) with
      | false=> rw [he] at this;cases hd : decide ((d.farms.getD k default).area > 0) <;> rw [hd] at this <;> simp at this
      | true=> rfl
     simpa [cq] using hx
structure Order1 (d : District) (x : Order) : Prop where
 hour0 : 0≤x.hour
 hour : x.hour < d.hours
 index0 : 0≤x.index
 farm : x.outlet=true→x.index < (d.farms.length : Int)
 reach : x.outlet=false→x.index < (d.reaches.length : Int)
 litres1 : 1≤x.litres
 litres : x.litres≤1073741824
theorem mC {k : Nat} (h : k < 9223372036854775807) (h1 : 0 < k) : IntKind.i64.wrap ((k : Int) - 1)=((k - 1 : Nat) : Int) :=by
 rw [cH (by omega) (by omega)];omega
theorem BU (d : District) (l : List Order) : fq d l:=fun _ h1 _ _=> mU _ _ _ fun j s h2 h3=> by
 unfold bt at h1
 unfold fb
 have e : decide ((j : Int) > 0)=true→(0≤IntKind.i64.wrap ((j : Int) - 1)∧IntKind.i64.wrap ((j : Int) - 1) < (l.length : Int)) :=fun h=> by
  simp only [decide_eq_true_eq] at h
  rw [mC (by omega) (by omega)];omega
 exact fun _=> ⟨fun _ _ _=> e,fun _ _=> e⟩
structure Orders1 (d : District) (l : List Order) : Prop where
 right : Right1 d
 len : l.length≤4096
 one : ∀ k,k < l.length→Order1 d (l.getD k default)
 asc : ∀ k,k + 1 < l.length→av (l.getD k default) (l.getD (k + 1) default) < 0
theorem vr {d : District} {l : List Order} (h : (bX d l !=0)=false) : Orders1 d l:=by
 have h : bX d l=0:=by simpa using h
 unfold bX at h
 cases h1 : bu d !=0 with
 | true=> rw [h1] at h;simp at h h1;exact absurd h h1
 | false=>
  rw [h1] at h
  simp only [cond_false] at h
  cases h2 : decide ((l.length : Int) > 4096) with
  | true=> rw [h2] at h;simp at h
  | false=>
   rw [h2] at h
   simp only [cond_false] at h
   have hl : l.length≤4096:=by simp only [decide_eq_false_iff_not] at h2;omega
   split at h
   ·cases h
   rename_i s hs
   have key : ∀ k,k < l.length→Order1 d (l.getD k default)∧(0 < k→av (l.getD (k - 1) default) (l.getD k default) < 0) :=by
    intro k hk
    have:=gc hs k (by omega) (by omega)
    have hp : ((k : Int) > 0)→(IntKind.i64.wrap ((k : Int) - 1)).toNat=k - 1:=fun h=> by
     rw [mC (by omega) (by omega)];omega
    unfold dy at this
    generalize hx : l.getD k default=x at this ⊢
    cases ho : x.outlet with
    | true=>
     rw [ho] at this
     simp only [cond_true] at this
     rw [Bool.cond_eq_ite] at this
     split at this
     ·cases this
     ·rename_i hc
      simp only [Bool.not_eq_true,Bool.or_eq_false_iff,Bool.and_eq_false_iff,decide_eq_false_iff_not] at hc
      refine ⟨⟨by omega,by omega,by omega,fun _=> by omega,fun h=> by (rw [ho] at h;cases h),by omega,by omega⟩,fun hk0=> ?_⟩
      rcases hc.2 with h | h
      ·omega
      ·rw [hp (by omega)] at h;omega
    | false=>
     rw [ho] at this
     simp only [cond_false] at this
     rw [Bool.cond_eq_ite] at this
     split at this
     ·cases this
     ·rename_i hc
      simp only [Bool.not_eq_true,Bool.or_eq_false_iff,Bool.and_eq_false_iff,decide_eq_false_iff_not] at hc
      refine ⟨⟨by omega,by omega,by omega,fun h=> by (rw [ho] at h;cases h),fun _=> by omega,by omega,by omega⟩,fun hk0=> ?_⟩
      rcases hc.2 with h | h
      ·omega
      ·rw [hp (by omega)] at h;omega
   exact ⟨oB h1,hl,fun k hk=> (key k hk).1,fun k hk=> (key (k + 1) hk).2 (by omega)⟩
structure Reach1 (i : Int) (x : Reach) : Prop where
 up : x.up < i
 delay1 : 1≤x.delay
 delay : x.delay≤16
 siphon0 : 0≤x.siphon
 siphon : x.siphon≤x.cap
 cap : x.cap≤1073741824
 bank : x.siphon≤x.bank
 bank1 : x.bank≤1099511627776
theorem xm {i : Int} {x : Reach} (hi : 0≤i) (h : bB i x=true) : Reach1 i x:=by
 unfold bB at h
 cases hd : decide (i > 0) with
 | true=>
  rw [hd] at h
  simp only [cond_true,Bool.and_eq_true,cq,decide_eq_true_eq] at h hd
  obtain ⟨⟨⟨⟨⟨h0,h1⟩,h2⟩,h3⟩,h4⟩,h5⟩ :=h
  have:=yy h1
  have:=pn h2
  have:=pn h3
  constructor <;> omega
 | false=>
  rw [hd] at h
  simp only [cond_false,Bool.and_eq_true,beq_iff_eq,decide_eq_false_iff_not] at h hd
  obtain ⟨⟨⟨⟨⟨h0,h1⟩,h2⟩,h3⟩,h4⟩,h5⟩ :=h
  have:=yy h1
  have:=pn h2
  have:=pn h3
  constructor <;> omega
theorem Right1.reach1 {d : District} (h : Right1 d) {k : Nat} (hk : k < d.reaches.length) : Reach1 k (d.reaches.getD k default) :=xm (by omega) (h.reach k hk)
theorem xn {step : Nat→Unit→Unit⊕Unit} : ∀ {n i : Nat},(∀ j,i≤j→j < i + n→step j ()= .inr ())→ax step n i ()= .inr ()
 | 0,_,_=> rfl
 | n + 1,i,h=> by
  simp only [ax]
  rw [h i (by omega) (by omega)]
  exact xn fun j h1 h2=> h j (by omega) (by omega)
theorem vt {step : Nat→Unit→Unit⊕Unit} {n : Nat} : ax step n 0 ()= .inr ()↔∀ j,j < n→step j ()= .inr () :=
 ⟨fun h j hj=> gc h j (by omega) (by omega),fun h=> xn fun j _ h2=> h j (by omega)⟩
theorem BV {ρ : Type} {n i : Nat} {step : Nat→Unit→ρ⊕Unit} {s : Unit} (h : ax step n i s= .inr s) : ∀ j,i≤j→j < i + n→step j ()= .inr () :=by
 induction n generalizing i with
 | zero=> intro j h1 h2;omega
 | succ n ih=>
  simp only [ax] at h
  cases hs : step i s with
  | inl r=> rw [hs] at h;cases h
  | inr s'=>
   rw [hs] at h
   intro j h1 h2
   by_cases e : j=i
   ·subst e;cases s;exact hs
   ·exact ih h j (by omega) (by omega)
theorem p8 (d : District) (l : List Order) : bX d l=0↔bu d=0∧l.length≤4096∧∀ k,k < l.length→dy d l k ()= .inr () :=by
 unfold bX
 cases h1 : (bu d !=0) with
 | true=> simp at h1;simp [h1]
 | false=>
  simp at h1
  simp only [cond_false,h1,true_and]
  cases h2 : decide ((l.length : Int) > 4096) with
  | true=> simp at h2;simp;omega
  | false=>
   simp at h2
   rw [←vt]
   cases h3 : ax (dy d l) l.length 0 () with
   | inl y=> simp
   | inr y=> simp;omega
theorem cX {α : Type} (l : List α) (d : α) {n : Nat} (h : n < l.length) : l.getD n d=l[n] :=by
 rw [List.getD_eq_getElem?_getD,List.getElem?_eq_getElem h];rfl
theorem Fy {κ υ : Type} [DecidableEq κ] (l : List (κ×υ)) (x z : κ) (y : υ) : gj (nG l x y) z=if z=x then some y else gj l z:=by
 induction l with
 | nil=> simp [nG,gj]
 | cons a r ih=>
  obtain ⟨a,b⟩ :=a
  unfold nG
  by_cases h : x=a
  ·subst h
   simp only [if_pos]
   unfold gj
   by_cases hz : z=x <;> simp [hz]
  ·rw [if_neg h]
   unfold gj
   by_cases hz : z=a
   ·subst hz
    rw [if_pos rfl,if_neg (fun e=> h e.symm),if_pos rfl]
   ·rw [if_neg hz,ih,if_neg hz]
theorem fU {k : Tag} (l : List (k.T×Int)) (x z : k.T) (y : Int) : ay k .int (c6 k .int l x y) z=if z=x then y else ay k .int l z:=by
 unfold ay c6
 rw [Fy]
 by_cases h : z=x <;> simp [h]
theorem Orders1.lt {d : District} {l : List Order} (h : Orders1 d l) : ∀ (k j : Nat),j < k→k < l.length→olt (l.getD j default) (l.getD k default)
 | k + 1,j,h1,h2=> by
  have h3:=zX (h.asc k (by omega))
  by_cases e : j=k
  ·subst e;exact h3
  ·exact xk (h.lt k j (by omega) (by omega)) h3
def bM (p : Order→Bool) : List Order→Int
 | [] => 0
 | x :: r=> (bif p x then x.litres else 0) + bM p r
theorem vv (p : Order→Bool) (a b : List Order) : bM p (a ++ b)=bM p a + bM p b:=by
 induction a with
 | nil=> simp [bM]
 | cons x r ih=> simp only [List.cons_append,bM,ih];omega
theorem vz {p : Order→Bool} {l : List Order} (h : ∀ x∈l,1≤x.litres∧x.litres≤1073741824) : 0≤bM p l∧bM p l≤l.length * 1073741824:=by
 induction l with
 | nil=> simp [bM]
 | cons x r ih=>
  have h1:=ih fun a ha=> h a (List.mem_cons_of_mem _ ha)
  have h2:=h x List.mem_cons_self
  simp only [bM,List.length_cons]
  cases p x <;> simp only [cond_true,cond_false] <;> omega
theorem mD {p : Order→Bool} {l : List Order} (h : ∀ x∈l,p x=false) : bM p l=0:=by
 induction l with
 | nil=> rfl
 | cons x r ih=>
  simp only [bM]
  rw [h x List.mem_cons_self,ih fun y hy=> h y (List.mem_cons_of_mem _ hy)]
  rfl
theorem IU {p q r : Order→Bool} {l : List Order} (h : ∀ x∈l,(r x=(p x || q x))∧(p x && q x)=false) : bM p l + bM q l=bM r l:=by
 induction l with
 | nil=> rfl
 | cons x t ih=>
  simp only [bM]
  have h1:=h x List.mem_cons_self
  have h2:=ih fun y hy=> h y (List.mem_cons_of_mem _ hy)
  rw [h1.1]
  cases hp : p x <;> cases hq : q x <;> simp only [hp,hq,Bool.or_true,Bool.or_false,Bool.and_self,cond_true,cond_false] at h1 ⊢
  all_goals (first | omega | (simp at h1))
theorem IV {p : Order→Bool} {l : List Order} {j : Nat} (hj : j < l.length) (h : p l[j]=true) (hn : ∀ i (hi : i < l.length),i≠j→p l[i]=false) : bM p l=l[j].litres:=by
 have e : l=l.take j ++ l[j] :: l.drop (j + 1) :=by rw [←List.drop_eq_getElem_cons hj,List.take_append_drop]
 conv=> lhs;rw [e,vv]
 rw [mD fun x hx=> ?_]
 ·simp only [bM,h,cond_true]
  rw [mD fun x hx=> ?_]
  ·omega
  ·obtain ⟨i,hi,rfl⟩ :=List.getElem_of_mem hx
   rw [List.length_drop] at hi
   rw [List.getElem_drop]
   exact hn _ _ (by omega)
 ·obtain ⟨i,hi,rfl⟩ :=List.getElem_of_mem hx
  rw [List.length_take] at hi
  rw [List.getElem_take]
  exact hn _ _ (by omega)
theorem Orders1.lit {d : District} {l : List Order} (h : Orders1 d l) : ∀ x∈l,1≤x.litres∧x.litres≤1073741824:=fun x hx=> by
 obtain ⟨k,hk,rfl⟩ :=List.getElem_of_mem hx
 have:=h.one k hk
 rw [cX _ _ hk] at this
 exact ⟨this.litres1,this.litres⟩
theorem Orders1.uniq {d : District} {l : List Order} (h : Orders1 d l) {i j : Nat} (hi : i < l.length) (hj : j < l.length) (e1 : l[i].hour=l[j].hour) (e2 : l[i].index=l[j].index) (e3 : l[i].outlet=l[j].outlet) : i=j:=by
 have key : ∀ a b (ha : a < l.length) (hb : b < l.length),a < b→l[a].hour=l[b].hour→l[a].index=l[b].index→l[a].outlet=l[b].outlet→False:=fun a b ha hb hab e1 e2 e3=> by
  have:=h.lt b a hab hb
  rw [cX _ _ ha,cX _ _ hb] at this
  unfold olt mB at this
  rw [e1,e2,e3] at this
  omega
 rcases Nat.lt_trichotomy i j with h1 | h1 | h1
 ·exact (key i j hi hj h1 e1 e2 e3).elim
 ·exact h1
 ·exact (key j i hj hi h1 e1.symm e2.symm e3.symm).elim
theorem kz {p : Order→Bool} {l : List Order} {j : Nat} (hj : j < l.length) : bM p (l.take (j + 1))=bM p (l.take j) + (bif p l[j] then l[j].litres else 0) :=by
 rw [List.take_succ_eq_append_getElem hj,vv]
 simp [bM]
theorem sK {κ υ : Type} [DecidableEq κ] : ∀ (l : List (κ×υ)) (x : κ) (y : υ),(nG l x y).map Prod.fst=if x∈l.map Prod.fst then l.map Prod.fst else l.map Prod.fst ++ [x]
 | [],x,y=> by simp [nG]
 | (a,b) :: r,x,y=> by
  unfold nG
  by_cases h : x=a
  ·subst h;simp
  ·rw [if_neg h,List.map_cons,sK r x y]
   simp only [List.map_cons,List.mem_cons,h,false_or]
   split <;> simp
theorem zZ {κ υ : Type} [DecidableEq κ] : ∀ (l : List (κ×υ)) (e : κ×υ),(l.map Prod.fst).Nodup→e∈l→gj l e.1=some e.2
 | (a,b) :: r,e,hn,he=> by
  simp only [List.map_cons,List.nodup_cons] at hn
  unfold gj
  rcases List.mem_cons.1 he with rfl | he
  ·simp
  ·have : e.1≠a:=fun h=> hn.1 (h▸List.mem_map_of_mem he)
   rw [if_neg this]
   exact zZ r e hn.2 he
theorem mE {α : Type} (l : List α) (d : α) {k : Nat} (h : k < l.length) : l.getD k d∈l:=by
 rw [cX l d h];exact List.getElem_mem _
theorem El {n d : Int} (hd : 1≤d) (hd2 : d≤1073741824) (h1 : -1152921504606846976≤n) (h2 : n≤1152921504606846976) : i_ n d=n / d:=by
 unfold i_
 have e1 : Int.tmod (Int.tmod n d + d) d=n % d:=by
  have a1 : -d < Int.tmod n d:=Int.lt_tmod_of_pos n (by omega)
  rw [Int.tmod_eq_emod_of_nonneg (by omega),Int.add_emod_right]
  rw [Int.tmod_eq_emod]
  split
  ·show (n % d - 0) % d=n % d
   rw [Int.sub_zero,Int.emod_emod]
  ·have : n % d - (d.natAbs : Int)=n % d + d * (-1) :=by omega
   rw [this,Int.add_mul_emod_self_left,Int.emod_emod]
 have a1 : -d < Int.tmod n d:=Int.lt_tmod_of_pos n (by omega)
 have a2 : Int.tmod n d < d:=Int.tmod_lt_of_pos n (by omega)
 rw [cH (by omega : -9223372036854775808≤Int.tmod n d + d) (by omega),e1]
 have b1:=Int.emod_nonneg n (by omega : d≠0)
 have b2:=Int.emod_lt_of_pos n (by omega : 0 < d)
 rw [cH (by omega : -9223372036854775808≤n - n % d) (by omega)]
 have e2 : n - n % d=d * (n / d) :=by have:=Int.mul_ediv_add_emod n d;omega
 rw [e2,Int.mul_tdiv_cancel_left _ (by omega)]
 have c1 : n / d≤1152921504606846976:=by
  have:=Int.ediv_le_ediv (by omega : 0 < d) h2
  have:=Int.ediv_le_self (b:=d) (by omega : (0 : Int)≤1152921504606846976)
  omega
 have c2 : -1152921504606846976≤n / d:=by
  rw [Int.le_ediv_iff_mul_le (by omega)]
  have:=Int.mul_le_mul_of_nonneg_left (by omega : 1≤d) (by omega : (0 : Int)≤1152921504606846976)
  omega
 exact cH (by omega) (by omega)
structure Rat (a : Ratio) : Prop where
 d1 : 1≤a.d
 d : a.d≤1073741824
 n0 : -1073741824≤a.n
 n : a.n≤1073741824
theorem IW {a : Ratio} (h : b9 a=0) : Rat a:=by
 unfold b9 at h
 rw [Bool.cond_eq_ite] at h
 split at h
 ·cases h
 ·rename_i h1
  simp only [Bool.or_eq_true,decide_eq_true_eq,not_or] at h1
  constructor <;> omega
theorem qx {i : Int} {x : Reach} (h : bB i x=true) : fa x.seep=true∧0≤x.evap.lo∧x.evap.lo≤x.evap.hi∧x.evap.hi≤1073741824:=by
 unfold bB at h
 cases hd : decide (i > 0) <;> rw [hd] at h <;> simp only [cond_true,cond_false,Bool.and_eq_true] at h
 all_goals
  have r1:=pn h.1.2
  exact ⟨h.2,r1.1,r1.2.1,r1.2.2⟩
theorem Q6 {a b : Int} (h0 : -1073741824≤a) (h1 : a≤1073741824) (h2 : 0≤b) (h3 : b≤1073741824) : -1152921504606846976≤a * b∧a * b≤1152921504606846976:=by
 have h4:=Int.mul_le_mul_of_nonneg_right h0 h2
 have h5:=Int.mul_le_mul_of_nonneg_right h1 h2
 have h6 : -1073741824 * b= -(1073741824 * b) :=by omega
 omega
structure Seep (x : Ratio×Ratio) : Prop where
 r1 : Rat x.1
 r2 : Rat x.2
 c1 : b9 x.1=0
 c2 : b9 x.2=0
 cmp : et x.1 x.2=((et x.1 x.2).1,0)∧(et x.1 x.2).1≤0
 le : x.1.n * x.2.d≤x.2.n * x.1.d
 n1 : 0≤x.1.n
 n2 : x.2.n≤x.2.d
 m1 : x.1.n≤x.1.d
 m2 : 0≤x.2.n
theorem yz {x : Ratio×Ratio} (h : fa x=true) : Seep x:=by
 unfold fa at h
 simp only [Bool.and_eq_true,beq_iff_eq,decide_eq_true_eq] at h
 obtain ⟨⟨⟨h1,h2⟩,h3⟩,h4⟩ :=h
 have hc : b9 x.1=0∧b9 x.2=0:=by
  unfold et at h1
  rw [Bool.cond_eq_ite] at h1
  split at h1
  ·cases h1
  ·rename_i hq
   simp only [Bool.or_eq_true,bne_iff_ne,ne_eq,not_or,Decidable.not_not] at hq
   exact hq
 have r1:=IW hc.1
 have r2:=IW hc.2
 have b1:=Q6 r1.n0 r1.n (by have:=r2.d1;omega) r2.d
 have b2:=Q6 r2.n0 r2.n (by have:=r1.d1;omega) r1.d
 have hle : x.1.n * x.2.d≤x.2.n * x.1.d:=by
  unfold et at h3
  rw [hc.1,hc.2] at h3
  simp only [bne_self_eq_false,Bool.or_self,cond_false] at h3
  rw [cH (by omega) (by omega),cH (by omega) (by omega),hY] at h3
  split at h3
  ·omega
  ·split at h3
   ·omega
   ·omega
 have e1:=r1.d1
 have e2:=r2.d1
 have m1 : x.1.n≤x.1.d:=by
  have:=Int.mul_le_mul_of_nonneg_right h4 (by omega : 0≤x.1.d)
  have hh : x.1.n * x.2.d≤x.1.d * x.2.d:=by rw [Int.mul_comm x.1.d];omega
  exact Int.le_of_mul_le_mul_right hh (by omega)
 have m2 : 0≤x.2.n:=by
  have:=Int.mul_nonneg h2 (by omega : 0≤x.2.d)
  have hh : 0 * x.1.d≤x.2.n * x.1.d:=by rw [Int.zero_mul];omega
  exact Int.le_of_mul_le_mul_right hh (by omega)
 exact ⟨r1,r2,hc.1,hc.2,⟨by rw [←h1],h3⟩,hle,h2,h4,m1,m2⟩
theorem Fz {x : Ratio×Ratio} (h : Seep x) : fv x=true:=by
 unfold fv iw i9
 have:=h.n1;have:=h.n2;have:=h.m1;have:=h.m2
 rw [h.c1,h.c2,decide_eq_true (by omega : x.1.n≥0),decide_eq_true (by omega : x.1.n≤x.1.d),decide_eq_true (by omega : x.2.n≥0),decide_eq_true (by omega : x.2.n≤x.2.d)]
 have h2:=congrArg Prod.snd h.cmp.1
 dsimp only at h2
 rw [h2,decide_eq_true h.cmp.2]
 rfl
theorem vA {a : Ratio} (h : Rat a) (hc : b9 a=0) (h0 : 0≤a.n) {v : Int} (v0 : 0≤v) (v1 : v≤1073741824) : (dE a v).1=a.n * v / a.d∧(dE a v).2.1= -(-(a.n * v) / a.d)∧ -(-(a.n * v) / a.d)≤1152921504606846976∧0≤ -(-(a.n * v) / a.d) :=by
 have:=h.d1;have:=h.d;have:=h.n
 have hm:=Q6 (by omega) h.n v0 v1
 have hm0:=Int.mul_nonneg h0 v0
 unfold dE
 have e1 : (decide (v < (-1073741824)) || decide (v > 1073741824))=false:=by simp only [Bool.or_eq_false_iff,decide_eq_false_iff_not];omega
 rw [hc,e1]
 simp only [bne_self_eq_false,cond_false]
 rw [cH (by omega : -9223372036854775808≤0 - a.n) (by omega)]
 have e2 : (0 - a.n) * v= -(a.n * v) :=by rw [Int.sub_mul];omega
 rw [e2,cH (by omega : -9223372036854775808≤ -(a.n * v)) (by omega),cH (by omega : -9223372036854775808≤a.n * v) (by omega)]
 rw [El h.d1 h.d (by omega) (by omega),El h.d1 h.d (by omega) (by omega)]
 have c1 : -1152921504606846976≤ -(a.n * v) / a.d:=by
  rw [Int.le_ediv_iff_mul_le (by omega)]
  have:=Int.mul_le_mul_of_nonneg_left (by omega : 1≤a.d) (by omega : (0 : Int)≤1152921504606846976)
  omega
 have c2 : -(a.n * v) / a.d≤0:=by
  have:=Int.ediv_le_ediv (by omega : 0 < a.d) (by omega : -(a.n * v)≤0)
  simpa using this
 rw [cH (by omega) (by omega)]
 exact ⟨rfl,by omega,by omega,by omega⟩
theorem rH {i : Int} {x : Reach} (h : bB i x=true) {v : Int} (v0 : 0≤v) (v1 : v≤1073741824) : cC x v=0∧0≤(dF x v).lo∧(dF x v).lo≤(dF x v).hi∧(dF x v).hi≤v:=by
 obtain ⟨h1,h2,h3,h4⟩ :=qx h
 have hs:=yz h1
 refine ⟨?_,?_⟩
 ·unfold cC fS i9
  rw [Fz hs,decide_eq_true (by omega : x.evap.lo≥0),decide_eq_true h3,decide_eq_true h4,decide_eq_true (by omega : v≥0),decide_eq_true v1]
  rfl
 ·unfold dF
  cases hv : (v==0) with
  | true=>
   simp only [beq_iff_eq] at hv
   simp only [cond_true];omega
  | false=>
   simp only [beq_eq_false_iff_ne,ne_eq] at hv
   simp only [cond_false]
   obtain ⟨a1,_,_,_⟩ :=vA hs.r1 hs.c1 hs.n1 v0 v1
   obtain ⟨_,b1,b2,b3⟩ :=vA hs.r2 hs.c2 hs.m2 v0 v1
   rw [a1,b1]
   have d1:=hs.r1.d1
   have d2:=hs.r2.d1
   have P0 : 0≤x.seep.1.n * v / x.seep.1.d:=Int.ediv_nonneg (Int.mul_nonneg hs.n1 v0) (by omega)
   have P1 : x.seep.1.n * v / x.seep.1.d * x.seep.1.d≤x.seep.1.n * v:=Int.ediv_mul_le _ (by omega)
   have Q1 : -(x.seep.2.n * v) / x.seep.2.d * x.seep.2.d≤ -(x.seep.2.n * v) :=Int.ediv_mul_le _ (by omega)
   generalize x.seep.1.n * v / x.seep.1.d=P at P0 P1
   generalize -(x.seep.2.n * v) / x.seep.2.d=Q at b2 b3 Q1
   have PV : P≤v:=by
    have:=Int.mul_le_mul_of_nonneg_right hs.m1 v0
    have hh : P * x.seep.1.d≤v * x.seep.1.d:=by rw [Int.mul_comm v];omega
    exact Int.le_of_mul_le_mul_right hh (by omega)
   have PQ : P≤ -Q:=by
    have e1:=Int.mul_le_mul_of_nonneg_right P1 (by omega : 0≤x.seep.2.d)
    have e2:=Int.mul_le_mul_of_nonneg_right hs.le v0
    have e3:=Int.mul_le_mul_of_nonneg_right Q1 (by omega : 0≤x.seep.1.d)
    have hh : P * (x.seep.1.d * x.seep.2.d)≤ -Q * (x.seep.1.d * x.seep.2.d) :=by
     have i1 : P * x.seep.1.d * x.seep.2.d=P * (x.seep.1.d * x.seep.2.d) :=Int.mul_assoc _ _ _
     have i2 : x.seep.1.n * v * x.seep.2.d=x.seep.1.n * x.seep.2.d * v:=by rw [Int.mul_assoc,Int.mul_comm v,←Int.mul_assoc]
     have i3 : x.seep.2.n * x.seep.1.d * v=x.seep.2.n * v * x.seep.1.d:=by rw [Int.mul_assoc,Int.mul_comm x.seep.1.d,←Int.mul_assoc]
     have i4 : Q * x.seep.2.d * x.seep.1.d=Q * (x.seep.1.d * x.seep.2.d) :=by rw [Int.mul_assoc,Int.mul_comm x.seep.2.d]
     have i5 : -(x.seep.2.n * v) * x.seep.1.d= -(x.seep.2.n * v * x.seep.1.d) :=Int.neg_mul _ _
     have i6 : -Q * (x.seep.1.d * x.seep.2.d)= -(Q * (x.seep.1.d * x.seep.2.d)) :=Int.neg_mul _ _
     omega
    have hp : 0 < x.seep.1.d * x.seep.2.d:=Int.mul_pos (by omega) (by omega)
    exact Int.le_of_mul_le_mul_right hh hp
   rw [cH (by omega) (by omega),cH (by omega) (by omega)]
   split <;> split <;> omega
end Go.Sx
end
section
namespace Go.Sx
open Go.Proofs
def wst (x : Reach) (v : Int) : Int:=v - (dF x v).hi
theorem mZ {i : Int} {x : Reach} (h : bB i x=true) {v : Int} (v0 : 0≤v) (v1 : v≤1073741824) : da x v=(wst x v,0) :=by
 obtain ⟨e,h1,h2,h3⟩ :=rH h v0 v1
 unfold da wst
 rw [e,cH (by omega) (by omega)]
 rfl
theorem Tm {i : Int} {x : Reach} (h : bB i x=true) {v : Int} (hv : ¬ (0≤v∧v≤1073741824)) : (da x v).2≠0:=by
 have e:=(rH h (Int.le_refl 0) (by omega)).1
 unfold da
 have : cC x v≠0:=by
  unfold cC i9 at e ⊢
  cases hq : (!(fS x.evap 1073741824) || !(fv x.seep)) with
  | true=> rw [hq] at e;simp at e
  | false=>
   simp only [cond_false]
   have : (decide (v≥0) && decide (v≤1073741824))=false:=by
    rw [Bool.and_eq_false_iff,decide_eq_false_iff_not,decide_eq_false_iff_not];omega
   rw [this];simp
 have h2 : (cC x v !=0)=true:=by simpa using this
 rw [h2];simpa using this
theorem IX {i : Int} {x : Reach} (h : bB i x=true) {v : Int} (v0 : 0≤v) (v1 : v≤1073741824) : wst x v=max 0 ((x.seep.2.d - x.seep.2.n) * v / x.seep.2.d - x.evap.hi) :=by
 obtain ⟨g1,g2,g3,g4⟩ :=qx h
 have hs:=yz g1
 have d1:=hs.r2.d1
 have hk : (x.seep.2.d - x.seep.2.n) * v / x.seep.2.d=v + -(x.seep.2.n * v) / x.seep.2.d:=by
  rw [Int.sub_mul,Int.sub_eq_add_neg,Int.add_comm,Int.add_mul_ediv_left _ _ (by omega)];omega
 rw [hk]
 unfold wst dF
 cases hv : (v==0) with
 | true=>
  simp only [beq_iff_eq] at hv
  subst hv
  simp only [cond_true,Int.mul_zero,Int.neg_zero,Int.zero_ediv]
  show (0 : Int) - 0=_
  omega
 | false=>
  simp only [cond_false]
  obtain ⟨_,b1,b2,b3⟩ :=vA hs.r2 hs.c2 hs.m2 v0 v1
  rw [b1]
  generalize -(x.seep.2.n * v) / x.seep.2.d=Q at b2 b3 ⊢
  rw [cH (by omega) (by omega)]
  split <;> omega
theorem NX {k d a b : Int} (hk : 0≤k) (hd : 1≤d) (h : a≤b) : k * a / d≤k * b / d:=Int.ediv_le_ediv (by omega) (Int.mul_le_mul_of_nonneg_left h hk)
section
variable {i : Int} {x : Reach}
theorem BW (h : bB i x=true) {v : Int} (v0 : 0≤v) (v1 : v≤1073741824) : 0≤wst x v∧wst x v≤v:=by
 have:=rH h v0 v1
 unfold wst;omega
theorem z8 (h : bB i x=true) {a b : Int} (a0 : 0≤a) (hab : a≤b) (b1 : b≤1073741824) : wst x a≤wst x b:=by
 have hs:=yz (qx h).1
 have:=hs.r2.d1
 rw [IX h a0 (by omega),IX h (by omega) b1]
 have:=NX (k:=x.seep.2.d - x.seep.2.n) (d:=x.seep.2.d) (by have:=hs.n2;omega) hs.r2.d1 hab
 omega
theorem IY (h : bB i x=true) : wst x 0=0:=by
 have:=BW h (Int.le_refl 0) (by omega);omega
end
theorem half {i j : Int} (h0 : 0≤i) (h1 : i≤j) (h2 : j≤2305843009213693952) : IntKind.i64.wrap (AY .u64 (IntKind.u64.wrap (IntKind.i64.wrap (i + j))) 1)=(i + j) / 2:=by
 have e0 : IntKind.i64.wrap (i + j)=i + j:=cH (by omega) (by omega)
 have e : IntKind.u64.wrap (i + j)=i + j:=by
  unfold IntKind.wrap
  simp [IntKind.bits,IntKind.signed]
  omega
 have e2 : AY .u64 (i + j) 1=(i + j) / 2:=by
  show Int.fdiv (i + j) ((2 : Int) ^ min (Int.toNat 1) IntKind.u64.bits)=_
  have : (2 : Int) ^ min (Int.toNat 1) IntKind.u64.bits=2:=by decide
  rw [this,Int.fdiv_eq_ediv_of_nonneg _ (by omega)]
 rw [e0,e,e2,cH (by omega) (by omega)]
theorem BX {f : Int→Bool} {N : Int} {step : Nat→Int×Int→Int⊕(Int×Int)} (hN : N≤2305843009213693952)
  (hs : ∀ k i j,0≤i→i < j→j≤N→step k (i,j)=if f ((i + j) / 2)=true then .inr (i,(i + j) / 2) else .inr ((i + j) / 2 + 1,j)) (he : ∀ k i j,¬ i < j→step k (i,j)= .inl i) :
  ∀ (fuel k : Nat) (i j : Int),0≤i→i≤j→j≤N→j - i < 2 ^ fuel→∃ v,ax step (fuel + 1) k (i,j)= .inl v∧i≤v∧v≤j∧
   ((∀ a b,0≤a→a≤b→b < N→f a=true→f b=true)→(∀ u,i≤u→u < v→f u=false)∧(v < j→f v=true)) :=by
 intro fuel
 induction fuel with
 | zero=>
  intro k i j h0 h1 h2 h3
  have : j=i:=by simp at h3;omega
  subst this
  exact ⟨j,by simp only [ax,he k j j (by omega)],Int.le_refl _,Int.le_refl _,fun _=> ⟨fun u h4 h5=> by omega,fun h=> by omega⟩⟩
 | succ fuel ih=>
  intro k i j h0 h1 h2 h3
  by_cases hlt : i < j
  ·have hp : (2 : Int) ^ (fuel + 1)=2 ^ fuel + 2 ^ fuel:=by rw [Int.pow_succ];omega
   rw [show fuel + 1 + 1=(fuel + 1) + 1 from rfl]
   simp only [ax,hs k i j h0 hlt h2]
   by_cases hf : f ((i + j) / 2)=true
   ·rw [if_pos hf]
    obtain ⟨v,e1,e2,e3,e4⟩ :=ih (k + 1) i ((i + j) / 2) h0 (by omega) (by omega) (by omega)
    refine ⟨v,e1,e2,by omega,fun hm=> ⟨(e4 hm).1,fun _=> ?_⟩⟩
    by_cases hv : v < (i + j) / 2
    ·exact (e4 hm).2 hv
    ·have : v=(i + j) / 2:=by omega
     rw [this];exact hf
   ·rw [if_neg hf]
    obtain ⟨v,e1,e2,e3,e4⟩ :=ih (k + 1) ((i + j) / 2 + 1) j (by omega) (by omega) h2 (by omega)
    refine ⟨v,e1,by omega,e3,fun hm=> ⟨fun u h4 h5=> ?_,(e4 hm).2⟩⟩
    by_cases hu : (i + j) / 2 + 1≤u
    ·exact (e4 hm).1 u hu h5
    ·cases hfu : f u with
     | false=> rfl
     | true=> exact absurd (hm u ((i + j) / 2) (by omega) (by omega) (by omega) hfu) hf
  ·have : j=i:=by omega
   subst this
   exact ⟨j,by simp only [ax,he k j j (by omega)],Int.le_refl _,Int.le_refl _,fun _=> ⟨fun u h4 h5=> by omega,fun h=> by omega⟩⟩
theorem xp (w : Int) (x : Reach) : ∃ v,ax (eO x w) 64 0 (0,1073741825)= .inl v∧0≤v∧v≤1073741825∧
  ((∀ a b,0≤a→a≤b→b < 1073741825→cw a x w=true→cw b x w=true)→(∀ u,0≤u→u < v→cw u x w=false)∧(v < 1073741825→cw v x w=true)) :=by
 refine BX (f:=fun v=> cw v x w) (N:=1073741825) (by omega) (fun k i j h0 h1 h2=> ?_) (fun k i j h=> ?_) 63 0 0 1073741825 (by omega) (by omega) (by omega) (by decide)
 ·unfold eO
  simp only
  rw [half h0 (by omega) (by omega),decide_eq_true h1,cH (by omega) (by omega)]
  cases cw ((i + j) / 2) x w <;> simp
 ·unfold eO
  simp only
  rw [decide_eq_false h];rfl
theorem IZ (w : Int) (x : Reach) : jr 1073741825 x w:=fun z hz=> by
 obtain ⟨v,h,_⟩ :=xp w x
 rw [h] at hz;cases hz
theorem Em (x : Reach) (w : Int) : gK x w:=fun _=> IZ _ x
theorem I0 (x : Reach) (w : Int) : f_ x w:=fun _=> Em x w
section
variable {i : Int} {x : Reach}
theorem I1 (h : bB i x=true) {w : Int} (hw : 1≤w) (hw2 : w≤1073741824) : 0≤cr (w - 1) x∧cr (w - 1) x≤1073741825∧(∀ u,0≤u→u < cr (w - 1) x→wst x u < w)∧(cr (w - 1) x≤1073741824→w≤wst x (cr (w - 1) x)) :=by
 obtain ⟨v,e1,e2,e3,e4⟩ :=xp (w - 1) x
 have ev : cr (w - 1) x=v:=by unfold cr lG;rw [e1]
 have hf : ∀ u,0≤u→u≤1073741824→(cw u x (w - 1)=true↔w≤wst x u) :=fun u u0 u1=> by
  have:=rH h u0 u1
  unfold cw jq wst
  rw [cH (by omega) (by omega),decide_eq_true_eq];omega
 obtain ⟨e5,e6⟩ :=e4 fun a b a0 hab hb ha=> (hf b (by omega) (by omega)).2 (by
  have:=z8 h a0 hab (by omega)
  have:=(hf a a0 (by omega)).1 ha;omega)
 rw [ev]
 refine ⟨e2,e3,fun u u0 u1=> ?_,fun hv=> (hf v e2 hv).1 (e6 (by omega))⟩
 have:=e5 u u0 u1
 by_cases hq : w≤wst x u
 ·rw [(hf u u0 (by omega)).2 hq] at this;cases this
 ·omega
theorem sL (h0 : 0≤i) (h : bB i x=true) {w : Int} (hw : 1≤w) : (∃ v,aA x w=(v,true)∧1≤v∧v≤1073741824∧x.siphon≤v∧w≤wst x v∧∀ u,0≤u→u≤1073741824→x.siphon≤u→w≤wst x u→v≤u)∨
  ((aA x w).2=false∧∀ u,0≤u→u≤1073741824→wst x u < w) :=by
 have hr:=xm h0 h
 unfold aA
 have hw0 : (w==0)=false:=by rw [beq_eq_false_iff_ne];omega
 by_cases hw2 : w≤1073741824
 ·have hc : (w==0 || decide (w > 1073741824))=false:=by rw [hw0,decide_eq_false (by omega)];rfl
  rw [hc,hw0]
  simp only [cond_false]
  obtain ⟨l1,l2,l3,l4⟩ :=I1 h hw hw2
  unfold bV
  have hv : (cC x w !=0)=false:=by rw [(rH h (by omega) hw2).1];rfl
  rw [hv,cH (by omega) (by omega)]
  simp only [cond_false]
  by_cases hl : cr (w - 1) x≤1073741824
  ·rw [decide_eq_false (by omega)]
   simp only [cond_false,Bool.not_true]
   have l5:=l4 hl
   have l6:=BW h l1 hl
   refine .inl ⟨_,rfl,?_,?_,?_,?_,fun u u0 u1 u2 u3=> ?_⟩
   ·split <;> omega
   ·have:=hr.siphon;have:=hr.cap;split <;> omega
   ·split <;> omega
   ·have:=hr.siphon;have:=hr.cap
    split
    ·exact Int.le_trans l5 (z8 h l1 (by omega) (by omega))
    ·exact l5
   ·have : cr (w - 1) x≤u:=by
     rcases Int.lt_or_le u (cr (w - 1) x) with q | q
     ·have:=l3 u u0 q;omega
     ·exact q
    split <;> omega
  ·rw [decide_eq_true (by omega)]
   simp only [cond_true,Bool.not_false]
   exact .inr ⟨trivial,fun u u0 u1=> l3 u u0 (by omega)⟩
 ·have hc : (w==0 || decide (w > 1073741824))=true:=by rw [decide_eq_true (by omega : w > 1073741824),Bool.or_true]
  rw [hc]
  refine .inr ⟨by simpa using hw0,fun u u0 u1=> ?_⟩
  have:=BW h u0 u1;omega
end
end Go.Sx
end
section
namespace Go.Sx
def Q7 {α : Type} : Result α→World
 | .ok _ w=> w
 | .halt _ w=> w
theorem BY {α : Type} : ∀ (a : Ask α) (w : World),w.drawn≤(w.ask a).2.drawn
 | .done a,w=> Nat.le_refl _
 | .ask what range k,w=> by
  unfold World.ask
  dsimp only
  split
  ·exact BY _ w
  ·exact Nat.le_trans (Nat.le_succ _) (BY _ { w with drawn:=w.drawn + 1})
theorem Q8 (w : World) (c : Sys) : w.drawn≤(w.sys c).2.drawn:=by
 unfold World.sys
 have:=BY (Kernel.perform c w.os) w
 split
 ·exact Nat.le_refl _
 ·rename_i h
  rw [h] at this
  exact this
theorem Aa {p : Program} {w w' : World} {a : Addr} {v : Value} {b : Bool} {l : List Addr} (h : w.farStore p a v b= .ok (w',l)) : w'.drawn=w.drawn:=by
 unfold World.farStore at h
 split at h
 ·split at h
  ·rename_i r hr
   cases h
   unfold World.viewStore at hr
   simp only [bind,Except.bind,pure,Except.pure] at hr
   repeat' split at hr
   all_goals (first | (cases hr;done) | skip)
   all_goals (cases hr;rfl)
  ·cases h
 ·cases h
theorem yA {α : Type} (p : Program) : ∀ (s : Sem α) (w : World),w.drawn≤(Q7 (s.run p w)).drawn:=by
 intro s
 induction s with
 | pure a=> intro w;exact Nat.le_refl _
 | load m a k ih=>
  intro w
  unfold Sem.run
  split
  ·exact ih _ w
  ·split
   ·exact ih _ w
   ·exact Nat.le_refl _
 | store m a v k ih=>
  intro w
  cases v
  case agg=> exact Nat.le_refl _
  case tuple=> exact Nat.le_refl _
  all_goals
   simp only [Sem.run]
   split
   ·split
    ·exact Nat.le_refl _
    ·exact ih (w.setCell a _)
   ·split
    ·rename_i h
     rw [←Aa h];exact ih _
    ·exact Nat.le_refl _
 | new o k ih=> intro w;exact ih w.heap.size { w with heap:=w.heap.push o}
 | shape r k ih=> intro w;exact ih _ _
 | freeze a n k ih=>
  intro w
  have : (w.freeze a n).drawn=w.drawn:=by unfold World.freeze;split <;> rfl
  rw [←this];exact ih _
 | frozen a k ih=> intro w;exact ih _ _
 | getObj r k ih=>
  intro w
  unfold Sem.run
  split
  ·exact Nat.le_refl _
  ·exact ih _ _
  ·exact Nat.le_refl _
 | setObj r o k ih=>
  intro w
  unfold Sem.run
  split
  ·exact Nat.le_refl _
  ·exact ih { w with heap:=w.heap.setIfInBounds r o}
  ·exact Nat.le_refl _
 | choose q k ih=>
  intro w
  unfold Sem.run
  split
  ·exact ih _ _
  ·exact Nat.le_trans (Nat.le_succ _) (ih _ { w with drawn:=w.drawn + 1})
 | sys c k ih=> intro w;exact Nat.le_trans (Q8 w c) (ih _ _)
 | program k ih=> intro w;exact ih _ _
 | mark m k ih=> intro w;exact ih _
 | halt h=> intro w;exact Nat.le_refl _
theorem I2 {α : Type} (p : Program) : ∀ (s : Sem α) (w : World) (es : Array Event),(s.runT p w es).1=s.run p w:=by
 intro s
 induction s with
 | store m a v k ih=>
  intro w es
  cases v
  case agg=> rfl
  case tuple=> rfl
  all_goals
   simp only [Sem.runT,Sem.run]
   split
   ·split
    ·rfl
    ·exact ih _ _
   ·split
    ·exact ih _ _
    ·rfl
 | load m a k ih=>
  intro w es
  simp only [Sem.runT,Sem.run]
  split
  ·exact ih _ _ _
  ·split
   ·exact ih _ _ _
   ·rfl
 | getObj r k ih=>
  intro w es
  simp only [Sem.runT,Sem.run]
  split
  ·rfl
  ·exact ih _ _ _
  ·rfl
 | setObj r o k ih=>
  intro w es
  simp only [Sem.runT,Sem.run]
  split
  ·rfl
  ·exact ih _ _
  ·rfl
 | choose q k ih=>
  intro w es
  simp only [Sem.runT,Sem.run]
  split
  ·exact ih _ _ _
  ·exact ih _ _ _
 | pure a=> intro w es;rfl
 | new o k ih=> intro w es;exact ih _ _ _
 | shape r k ih=> intro w es;exact ih _ _ _
 | freeze a n k ih=> intro w es;exact ih _ _
 | frozen a k ih=> intro w es;exact ih _ _ _
 | sys c k ih=> intro w es;exact ih _ _ _
 | program k ih=> intro w es;exact ih _ _ _
 | mark m k ih=> intro w es;exact ih _ _
 | halt h=> intro w es;rfl
theorem fV {α : Type} {p : Program} {s : Sem α} {w w' : World} {a : α} (h : s.run p w= .ok a w') : w.drawn≤w'.drawn:=by have:=yA p s w;rw [h] at this;exact this
theorem I3 {α : Type} {p : Program} {s : Sem α} {w w' : World} {a : Halt} (h : s.run p w= .halt a w') : w.drawn≤w'.drawn:=by have:=yA p s w;rw [h] at this;exact this
theorem ku {α : Type} {p : Program} {s : Sem α} {w : World} {es es' : Array Event} {r : Result α} (h : s.runT p w es=(r,es')) : w.drawn≤(Q7 r).drawn:=by
 have:=I2 p s w es
 rw [h] at this
 have h2:=yA p s w
 rw [←this] at h2
 exact h2
def gLe (w : World) : GStep→Prop
 | .ended .. => True
 | .go _ w' _ | .comm _ _ _ _ w' _ | .spawn _ _ w' _ | .count _ w' _ | .timer _ _ w' _ | .alone _ _ w' _ | .newcoro _ _ _ w' _ | .coroswitch _ _ _ w' _ | .collect _ w' _ | .watch _ w' _=> w.drawn≤w'.drawn
theorem gLe.after {w : World} {es : Array Event} {s : GStep} (h : gLe w s) : gLe w (s.after es) :=by cases s <;> exact h
theorem gLe.trans {w w' : World} {s : GStep} (h1 : w.drawn≤w'.drawn) (h : gLe w' s) : gLe w s:=by cases s <;> first | trivial | exact Nat.le_trans h1 h
theorem rI {c : Prop} [Decidable c] {w : World} {a b : GStep} (h1 : gLe w a) (h2 : gLe w b) : gLe w (if c then a else b) :=by split <;> assumption
theorem lH (fr : Frame) (m : String) (w : World) : gLe w (endThrow fr m w) :=Nat.le_refl _
theorem oC (p : Program) (fr : Frame) (v : Value) (w : World) : gLe w (endPrinting p fr v w) :=by
 unfold endPrinting
 dsimp only
 split
 ·exact lH _ _ _
 ·trivial
theorem tn (p : Program) (fr : Frame) (callers : List Frame) (dying : Option Dying) (m : String) (w : World) : gLe w (endFatal p fr callers dying m w) :=by
 unfold endFatal
 extract_lets
 split
 ·rename_i h;exact fV h
 ·trivial
 ·trivial
theorem BZ (p : Program) (fr : Frame) (d : Dying) (f : Fatal) (w : World) : gLe w (writeOn p fr d f w) :=by
 unfold writeOn
 extract_lets
 split
 ·trivial
 ·extract_lets
  generalize h : Sem.runT _ _ _ _=rr
  obtain ⟨r,es⟩ :=rr
  have h:=ku h
  split
  ·rename_i e;cases e;exact h
  ·rename_i e;cases e;exact h
  ·trivial
  ·trivial
theorem B0 (w w' : World) (fd : Nat) (t : ByteArray) (o : Outcome) : gLe w (endWith w' fd t o) :=by
 unfold endWith
 extract_lets
 split
 ·split <;> trivial
 ·trivial
 ·trivial
theorem Q9 (p : Program) (fr : Frame) (d : Dying) (w : World) : gLe w (die p fr d w) :=by
 unfold die
 split
 ·exact BZ _ _ _ _ _
 ·split
  ·split
   ·exact Nat.le_refl _
   ·exact B0 _ _ _ _ _
  ·extract_lets
   split
   ·exact Nat.le_refl _
   ·split
    ·rename_i h;exact fV h
    ·trivial
   ·split
    rename_i h
    have h:=ku h
    refine gLe.after ?_
    split
    all_goals first | exact h | trivial | exact gLe.trans h (oC _ _ _ _)
   ·trivial
theorem oD (p : Program) (main : Bool) (fr : Frame) (callers : List Frame) (dying : Option Dying) (v : Value) (w : World) : gLe w (doReturn p main fr callers dying v w) :=by
 unfold doReturn
 split
 ·split
  all_goals exact Nat.le_refl _
 ·split
  ·exact Nat.le_refl _
  ·trivial
  ·split
   ·exact Nat.le_refl _
   ·split
    ·exact Nat.le_refl _
    ·trivial
theorem tP (p : Program) (fr : Frame) (callers : List Frame) (dying : Option Dying) (d : Deferred) (w : World) : gLe w (callDeferred p fr callers dying d w) :=by
 unfold callDeferred
 refine rI trivial ?_
 rcases h : (invoke d.target d.args).runT p w #[] with ⟨r,es⟩
 have h:=ku h
 dsimp only
 refine gLe.after ?_
 split
 all_goals first | exact h | trivial | exact gLe.trans h (tn _ _ _ _ _ _) | exact gLe.trans h (lH _ _ _) | skip
 split <;> exact h
theorem FA (p : Program) (main : Bool) (fr : Frame) (callers : List Frame) (dying : Option Dying) (w : World) : gLe w (unwind p main fr callers dying w) :=by
 unfold unwind
 split
 ·split
  rename_i h
  have h:=ku h
  refine gLe.after ?_
  split
  ·exact h
  ·trivial
 ·exact tP _ _ _ _ _ _
 ·split
  ·trivial
  ·split
   ·trivial
   ·split
    ·exact Nat.le_refl _
    ·split
     ·split
      ·exact Nat.le_refl _
      ·split
       ·rename_i h;exact fV h
       ·trivial
       ·trivial
     ·split
      ·exact oC _ _ _ _
      ·trivial
  ·split
   ·exact oD _ _ _ _ _ _ _
   ·split
    rename_i h
    have h:=ku h
    refine gLe.after ?_
    split
    ·exact gLe.trans h (oD _ _ _ _ _ _ _)
    ·trivial
    ·trivial
theorem I4 (p : Program) (fr : Frame) (callers : List Frame) (dying : Option Dying) (g : Nat) (w : World) : gLe w (early p fr callers dying g w) :=by
 unfold early
 extract_lets refuse notYet there
 have hn : ∀ w0 : World,w.drawn≤w0.drawn→gLe w (notYet w0) :=fun w0 h0=> by
  show gLe w (match w0.heap[g]? with | some (.pending c elem) => _ | _=> _)
  split
  ·exact h0
  ·trivial
 split
 ·exact hn w (Nat.le_refl _)
 ·split
  ·trivial
  ·extract_lets there
   have ht : ∀ w0 : World,w.drawn≤w0.drawn→gLe w (there w0) :=fun w0 h0=> h0
   split
   ·exact hn w (Nat.le_refl _)
   ·split
    ·exact hn w (Nat.le_refl _)
    ·split
     ·trivial
     ·exact ht w (Nat.le_refl _)
     ·trivial
     ·exact hn w (Nat.le_refl _)
     ·split
      ·exact ht w (Nat.le_refl _)
      ·split
       ·exact hn w (Nat.le_refl _)
       ·split
        ·rename_i h;exact hn _ (fV h)
        ·rename_i h;exact ht _ (fV h)
        ·trivial
end Go.Sx
end
section
namespace Go.Sx
theorem oE (p : Program) (listen : Bool) (fr : Frame) (callers : List Frame) (dying : Option Dying) (s : Sem Next) (w : World) : gLe w (Go.stepG.apply p listen fr callers dying s w) :=by
 unfold Go.stepG.apply
 extract_lets go kind
 have hr : ∃ r es,(if listen=true then s.runT p w #[] else (s.run p w,#[]))=(r,es)∧w.drawn≤(Q7 r).drawn:=by
  split
  ·rcases h : s.runT p w #[] with ⟨r,es⟩
   exact ⟨r,es,rfl,ku h⟩
  ·exact ⟨_,_,rfl,yA p s w⟩
 obtain ⟨r,es,he,h⟩ :=hr
 rw [he]
 dsimp only
 refine gLe.after ?_
 have hgo : ∀ fr w0,w.drawn≤w0.drawn→gLe w (go fr w0) :=fun fr w0 h0=> h0
 split
 all_goals first | exact h | trivial | exact hgo _ _ h | exact gLe.trans h (tn _ _ _ _ _ _) | exact gLe.trans h (lH _ _ _) | exact gLe.trans h (I4 _ _ _ _ _ _) | skip
 all_goals first | (refine rI (gLe.trans h (lH _ _ _)) ?_;exact h) | (split <;> first | exact h | trivial | exact hgo _ _ h)
theorem NY (p : Program) (listen : Bool) (fr : Frame) (callers : List Frame) (dying : Option Dying) (w : World) : gLe w (Go.stepG.oper p listen fr callers dying w) :=by
 unfold Go.stepG.oper
 split
 ·trivial
 ·split
  ·exact oE _ _ _ _ _ _ _
  ·exact oE _ _ _ _ _ _ _
theorem En {α : Type} {w : World} {o : Option α} {a : GStep} {f : α→GStep} (h1 : gLe w a) (h2 : ∀ x,gLe w (f x)) : gLe w (o.elim a f) :=by cases o;exact h1;exact h2 _
theorem NZ (p : Program) (main listen : Bool) (fr : Frame) (callers : List Frame) (dying : Option Dying) (w : World) : gLe w (Go.stepG.exec p main listen fr callers dying w) :=by
 unfold Go.stepG.exec
 extract_lets go to lost leave
 have hgo : ∀ fr w0,w.drawn≤w0.drawn→gLe w (go fr w0) :=fun fr w0 h0=> h0
 have hto : ∀ k,gLe w (to k) :=fun k=> Nat.le_refl _
 have hlost : ∀ m,gLe w (lost m) :=fun _=> trivial
 have hleave : ∀ j,gLe w (leave j) :=fun j=> by
  show gLe w (match fr.roundOf with | none=> _ | some l=> _)
  split
  ·refine rI (hgo _ _ (Nat.le_refl _)) trivial
  ·rcases h : (Instr.endRound _ j).runT p w #[] with ⟨r,es⟩
   have h:=ku h
   dsimp only
   refine gLe.after ?_
   split
   ·exact gLe.trans h (oD _ _ _ _ _ _ _)
   ·trivial
 have hgo1 : ∀ fr,gLe w (go fr w) :=fun fr=> Nat.le_refl _
 clear_value to lost leave
 split
 all_goals first | exact hleave _ | exact hto _ | exact hlost _ | trivial | exact En (hleave _) hto | exact oE _ _ _ _ _ _ _ | exact En (hlost _) (fun _=> oE _ _ _ _ _ _ _) | skip
 ·split
  ·exact hto _
  ·exact hlost _
 ·rcases h : (Instr.enterLoop fr.fn fr.tmps _ _ _ fr.roundOf).runT p w #[] with ⟨r,es⟩
  have h:=ku h
  dsimp only
  refine gLe.after ?_
  split
  ·exact gLe.trans h (oE _ _ _ _ _ _ _)
  ·trivial
 ·rcases h : (Instr.endLoop _).runT p w #[] with ⟨r,es⟩
  have h:=ku h
  dsimp only
  refine gLe.after ?_
  split
  ·exact hgo _ _ h
  ·exact hgo _ _ h
  ·trivial
 ·refine rI (hto _) ?_
  split
  ·rename_i h;exact hgo _ _ (fV h)
  ·trivial
 ·exact rI (NY _ _ _ _ _ _) (hgo1 _)
theorem I5 (p : Program) (main : Bool) (g : Goroutine) (w : World) (listen : Bool) : gLe w (Go.stepG p main g w listen) :=by
 unfold Go.stepG
 obtain ⟨fr,callers,st,dying,off⟩ :=g
 dsimp only
 split
 ·exact Q9 _ _ _ _
 ·exact NZ _ _ _ _ _ _ _
 ·exact FA _ _ _ _ _ _
def sLe (w : World) : Stepped→Prop
 | .next m=> w.drawn≤m.world.drawn
 | .ended .. => True
theorem sLe.trans {w w' : World} {s : Stepped} (h1 : w.drawn≤w'.drawn) (h : sLe w' s) : sLe w s:=by cases s <;> first | trivial | exact Nat.le_trans h1 h
theorem Eo {c : Prop} [Decidable c] {w : World} {a b : Stepped} (h1 : sLe w a) (h2 : sLe w b) : sLe w (if c then a else b) :=by split <;> assumption
theorem Ep (p : Program) (gs : Array Goroutine) (rest : Rest) (w : World) : sLe w (look p gs rest w) :=by
 unfold look
 split
 ·extract_lets
  refine Eo trivial ?_
  split
  ·trivial
  ·extract_lets
   split
   ·rename_i h
    have h:=fV h
    exact h
   ·trivial
   ·trivial
 ·trivial
theorem yB {rest : Rest} {cases : Array CommCase} {w w' : World} (h : waitingAt rest cases w=some w') : w.drawn≤w'.drawn:=by
 unfold waitingAt at h
 split at h
 ·split at h
  ·cases h;exact Nat.le_refl _
  ·cases h
 ·cases h;exact Nat.le_refl _
theorem vB (p : Program) (rest : Rest) (gs : Array Goroutine) (i : Nat) (g : Goroutine) (cases : Array CommCase) (bl : Bool) (shape : CommShape) (w : World) : sLe w (communicate p rest gs i g cases bl shape w).1:=by
 unfold communicate
 extract_lets put illMade me other
 have hput : ∀ g gs w0 ops,w.drawn≤w0.drawn→sLe w (put g gs w0 ops).1:=fun _ _ _ _ h=> h
 split
 ·trivial
 ·split
  ·split
   ·split
    ·rename_i h;exact yB h
    ·trivial
   ·exact hput _ _ _ _ (Nat.le_refl _)
  ·split
   ·trivial
   ·rename_i h
    have hw:=fV h
    clear h
    extract_lets r
    split
    ·split
     ·rename_i h2;exact hput _ _ _ _ (Nat.le_trans hw (I3 h2))
     ·trivial
    ·exact hput _ _ _ _ hw
    ·exact hput _ _ _ _ hw
    ·extract_lets
     split
     ·exact hput _ _ _ _ hw
     ·split
      ·rename_i h2;have h3:=fV h2;exact hput _ _ _ _ (Nat.le_trans hw h3)
      ·trivial
    ·exact hput _ _ _ _ hw
    ·exact hput _ _ _ _ hw
    ·trivial
theorem xq (m : Machine) (k : Nat) (t : Timer) (a b : Nat) : m.world.drawn≤(retime m k t a b).2.world.drawn:=by
 unfold retime drain
 dsimp only
 repeat' split
 all_goals first | exact Nat.le_refl _ | skip
 all_goals (simp_all;try omega)
theorem B1 {m m' : Machine} {op : TimerOp} {v : Value} (h : timerOp m op= .ok (v,m')) : m.world.drawn≤m'.world.drawn:=by
 have named : ∀ (D : Nat) (m0 : Machine) var f,(∀ k t,D≤(f k t).2.world.drawn)→timerOp.named m0 var f= .ok (v,m')→D≤m'.world.drawn:=fun D m0 var f hf h=> by
  unfold timerOp.named at h
  split at h
  ·injection h with h
   exact Nat.le_trans (hf _ _) (Nat.le_of_eq (congrArg (fun x : Value×Machine=> x.2.world.drawn) h))
  ·cases h
 unfold timerOp at h
 split at h
 ·split at h
  ·cases h;exact Nat.le_refl _
  ·split at h
   ·split at h
    ·cases h
    ·cases h;exact Nat.le_refl _
   ·cases h
 ·exact named _ _ _ _ (fun k t=> xq _ _ _ _ _) h
 ·split at h
  ·rename_i m1 ho
   have h1 : m.world.drawn≤m1.world.drawn:=by
    unfold timerOp.opened at ho
    split at ho
    ·split at ho
     ·cases ho;exact Nat.le_refl _
     ·cases ho
    ·cases ho;exact Nat.le_refl _
   exact Nat.le_trans h1 (named m1.world.drawn _ _ _ (fun k t=> xq _ _ _ _ _) h)
  ·cases h
 ·cases h;exact Nat.le_refl _
theorem I6 (p : Program) (m : Machine) (i : Nat) (listen : Bool) : sLe m.world (Go.runT p m i listen).1:=by
 unfold Go.runT
 extract_lets rest world
 split
 extract_lets wake fn pos s ops done
 have hs : gLe m.world s:=I5 _ _ _ _ _
 have hd : ∀ r,(done r).1=r:=fun r=> rfl
 clear_value s done
 split
 all_goals try rw [hd]
 ·trivial
 ·split
  rename_i h
  have:=vB p rest ‹_› i ‹_› ‹_› ‹_› ‹_› ‹_›
  rw [h] at this
  exact sLe.trans hs this
 ·exact hs
 ·exact hs
 ·exact Eo trivial hs
 ·exact hs
 ·exact sLe.trans hs (Ep _ _ _ _)
 ·exact hs
 ·exact hs
 ·split
  ·exact hs
  ·split
   ·rename_i h
    simp only [endThrow,dieOf] at h
    cases h
    exact hs
   ·trivial
  ·trivial
 ·split
  ·rename_i h;exact Nat.le_trans hs (B1 h)
  ·exact hs
  ·trivial
  ·trivial
theorem I7 (p : Program) (m : Machine) (k : Nat) : sLe m.world (serve p m k) :=by
 unfold serve
 split
 ·trivial
 ·exact Nat.le_refl _
 ·extract_lets
  split
  ·trivial
  ·exact Nat.le_refl _
def mLe (w : World) : Move→Prop
 | .goroutine m _=> w.drawn≤m.world.drawn
 | .machine s _=> sLe w s
theorem mLe.trans {w w' : World} {s : Move} (h1 : w.drawn≤w'.drawn) (h : mLe w' s) : mLe w s:=by
 cases s
 ·exact Nat.le_trans h1 h
 ·exact sLe.trans h1 h
theorem vC (p : Program) (m : Machine) : mLe m.world (askOn p m) :=by
 unfold askOn
 extract_lets mono rs ds pick
 have hpick : ∀ m0 : Machine,m.world.drawn≤m0.world.drawn→mLe m.world (pick m0) :=fun m0 h0=> by
  show mLe m.world (match (choose (.sched rs.length)).run p m0.world with | .halt _ w=> _ | .ok k world=> _)
  split
  ·trivial
  ·rename_i h
   have h1:=fV h
   split
   ·exact Nat.le_trans h0 h1
   ·split
    ·trivial
    ·rename_i h2
     have h2:=fV h2
     exact Nat.le_trans h0 (Nat.le_trans h1 h2)
 clear_value pick rs ds
 split
 ·trivial
 ·rename_i h
  have hw:=fV h
  clear h
  extract_lets m1
  split
  ·exact sLe.trans hw (I7 p _ _)
  ·cases rs with
   | nil=>
    dsimp only
    split
    ·exact hw
    ·split
     ·exact hw
     ·split <;> trivial
   | cons r rs=>
    dsimp only
    split
    ·exact hpick _ hw
    ·split
     ·trivial
     ·rename_i h;have h2:=fV h;exact hpick _ (Nat.le_trans hw h2)
     ·rename_i h;have h2:=fV h;exact Nat.le_trans hw h2
     ·rename_i h;have h2:=fV h;exact hpick _ (Nat.le_trans hw h2)
theorem Ab (p : Program) (m : Machine) : mLe m.world (ask p m) :=by
 unfold ask
 split
 ·split
  ·trivial
  ·rename_i h
   have hw:=fV h
   have:=Ep p m.gs m.rest ‹World›
   split
   ·rename_i m2 h2
    rw [h2] at this
    exact mLe.trans (Nat.le_trans hw this) (vC p _)
   ·rename_i e h2
    exact sLe.trans hw this
  ·rename_i h
   have hw:=fV h
   exact mLe.trans hw (vC p _)
 ·exact vC p m
theorem N0 (p : Program) (m : Machine) : mLe m.world (move p m) :=by
 unfold move
 split
 ·split
  ·exact Nat.le_refl _
  ·trivial
 ·split
  ·split
   ·exact Nat.le_refl _
   ·exact Ab p _
  ·exact Ab p m
theorem N1 (p : Program) (m : Machine) : sLe m.world (step p m) :=by
 unfold step stepT
 have:=N0 p m
 split
 ·rename_i h
  rw [h] at this
  exact sLe.trans this (I6 p _ _ _)
 ·rename_i h
  rw [h] at this
  exact this
theorem Ac {p : Program} {m m' : Machine} (h : Steps p m m') : m.world.drawn≤m'.world.drawn:=by
 obtain ⟨n,hn⟩ :=h
 induction n generalizing m with
 | zero=> simp only [runN,Stepped.next.injEq] at hn;subst hn;exact Nat.le_refl _
 | succ n ih=>
  simp only [runN] at hn
  have:=N1 p m
  cases hs : step p m with
  | next m1=>
   rw [hs] at hn this
   exact Nat.le_trans this (ih hn)
  | ended o w=> rw [hs] at hn;cases hn
theorem Ad {P : Program} {f : FuncId} {args : Array Value} {w : World} {R : Ending→World→Prop} (h : Calls P f args w R) : Calls P f args w fun e w'=> R e w'∧(e≠ .outgrown→w.drawn≤w'.drawn) :=by
 intro cs
 obtain ⟨e,w',fr,hr,hc,hf,hl⟩ :=h cs
 refine ⟨e,w',fr,⟨hr,fun hne=> ?_⟩,hc,hf,hl⟩
 cases e with
 | returned v=> exact Ac (p:=P) hc
 | panicked c=> exact Ac (p:=P) hc
 | outgrown=> exact absurd rfl hne
end Go.Sx
end
section
namespace Go.Sx
open Go.RowKit Go.Shelf Go.Lib Go.Sort Go.Proofs
def U7 : SV→Value
 | .v x=> x
 | _=> undef
def kv (k : Tag) (x : k.T) : List Value:=(cellsOf k x).map U7
def vD (k : Tag) : Prop:= ∀ (x : k.T) (s : SV),s∈cellsOf k x→∃ v,s= .v v∧v.oneCell'=true
def srt {α : Type} (cf : α→α→Int) (l : List α) : List α:=l.mergeSort fun x y=> !(ltOf cf y x)
def apart {α : Type} (cf : α→α→Int) (l : List α) : Prop:= ∀ x∈l,∀ y∈l,ltOf cf x y=false→ltOf cf y x=false→x=y
theorem B2 {α : Type} [Inhabited α] {cf : α→α→Int} (hO : SWO (ltOf cf)) {l : List α} (h : apart cf l) {d' : Array α} (hp : PermIn 0 l.toArray.size l.toArray d') (hs : SortedIn (ltOf cf) 0 l.toArray.size d') : d'=(srt cf l).toArray:=by
 obtain ⟨hsz,_,hperm⟩ :=hp
 have e1 : d'.extract 0 l.toArray.size=d':=by rw [←hsz];exact Array.extract_size
 rw [e1,Array.extract_size] at hperm
 have hperm : d'.toList.Perm l:=by simpa using hperm
 have : d'.toList=srt cf l:=by
  refine List.Perm.eq_of_pairwise (le:=fun x y=> (!ltOf cf y x)=true) ?_ ?_ ?_ (hperm.trans (List.mergeSort_perm _ _).symm)
  ·intro a b ha hb h1 h2
   simp only [Bool.not_eq_true'] at h1 h2
   exact h a (hperm.subset ha) b ((List.mergeSort_perm _ _).subset hb) h2 h1
  ·rw [List.pairwise_iff_getElem]
   intro i j hi hj hij
   have:=hs i j (Nat.zero_le _) hij (by simp only [List.size_toArray] at hsz ⊢;simp only [Array.length_toList] at hj;omega)
   simp only [Array.length_toList] at hi hj
   rw [getElem!_pos d' i hi,getElem!_pos d' j hj] at this
   simpa using this
  ·refine List.pairwise_mergeSort (fun a b c h1 h2=> ?_) (fun a b=> ?_) l
   ·simp only [Bool.not_eq_true'] at h1 h2 ⊢
    exact hO.ntrans c b a h2 h1
   ·simp only [Bool.or_eq_true,Bool.not_eq_true']
    cases h1 : ltOf cf b a with
    | false=> exact .inl rfl
    | true=>
     right
     cases h2 : ltOf cf a b with
     | false=> rfl
     | true=>
      have h3:=hO.trans a b a h2 h1
      rw [hO.irrefl] at h3;cases h3
 rw [←this]
section
variable {P : Program} {ρ : Ren} {F : Nat→Prop} {own : Own} {w : World} {k : Tag}
theorem FB (hk : vD k) {l : List k.T} {o : Nat} {cs : Array Value} (h : RowAt F own w k l o cs) {i j : Nat} (hi : i < l.length) (hj : j < aa k) : cs[o + i * aa k + j]? =(kv k l[i])[j]? :=by
 have e1:=List.getElem?_eq_getElem hi
 have hlen : j < (cellsOf k l[i]).length:=by rw [bf];exact hj
 have e2:=List.getElem?_eq_getElem hlen
 obtain ⟨u,h1,h2⟩ :=h i _ e1 j _ e2
 obtain ⟨v,h3,_⟩ :=hk l[i] _ (List.getElem_mem hlen)
 rw [h1]
 unfold kv
 rw [List.getElem?_map,e2]
 rw [h3] at h2 ⊢
 rw [bH h2]
 rfl
theorem FC (hk : vD k) {l : List k.T} {o : Nat} {cs : Array Value} (h : ∀ i j,(hi : i < l.length)→j < aa k→cs[o + i * aa k + j]? =(kv k l[i])[j]?) : RowAt F own w k l o cs:=by
 intro i x hi j s hj
 obtain ⟨hl,rfl⟩ :=List.getElem?_eq_some_iff.1 hi
 have hlen:=(List.getElem?_eq_some_iff.1 hj).1
 rw [bf] at hlen
 have:=h i j hl hlen
 unfold kv at this
 rw [List.getElem?_map,hj] at this
 obtain ⟨v,h3,_⟩ :=hk _ s (List.mem_of_getElem? hj)
 subst h3
 exact ⟨v,this,.v v⟩
theorem N2 {w w' : World} (hb : Go.RowKit.Below w.heap.size w w') (hd : w.drawn≤w'.drawn) : ∃ q os,w'=grow (w.drewN q) os:=by
 refine ⟨w'.drawn - w.drawn,w'.heap.extract w.heap.size w'.heap.size,?_⟩
 obtain ⟨h1,h2,h3,h4,h5⟩ :=hb
 obtain ⟨heap,tape,drawn,os,output⟩ :=w
 obtain ⟨heap',tape',drawn',os',output'⟩ :=w'
 simp only at h1 h2 h3 h4 h5 hd
 subst h1;subst h2;subst h3
 unfold grow World.drewN
 simp only [World.mk.injEq,true_and,and_true]
 refine ⟨?_,by omega⟩
 apply Array.ext
 ·simp;omega
 ·intro i hi1 hi2
  by_cases hi : i < heap.size
  ·rw [Array.getElem_append_left hi]
   have:=h5 i hi
   rw [Array.getElem?_eq_getElem hi1,Array.getElem?_eq_getElem hi] at this
   exact Option.some.inj this
  ·rw [Array.getElem_append_right (by omega)]
   simp only [Array.getElem_extract]
   congr 1;omega
end
end Go.Sx
end
