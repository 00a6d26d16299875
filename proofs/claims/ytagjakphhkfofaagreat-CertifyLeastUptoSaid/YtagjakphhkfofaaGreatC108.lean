/- Part of the proof that the law CertifyLeast returns true and leaves its arguments as they were, for all arguments of bulk at most 1048576 (the Upto form). -/
import Derived.Test.YtagjakphhkfofaaGreatC107
import Derived.Sort.Statements
import Derived.Shelf.SlSortCmp.Insertion
import Derived.Calls
import Derived.Shelf.SlSortCmp.NoneTotal
set_option linter.all false
section
namespace Go.Sx
open Go.Proofs
set_option maxRecDepth 100000
set_option linter.unusedSimpArgs false
theorem zb {p : Prop} (h : p:=by (first | done | (repeat' (first | with_reducible refine And.intro ?_ ?_ | ((with_reducible show _≠_);first | assumption | omega | (simp_all [am,aC];done) | grind) | with_reducible intro _)) <;> (first | done | exact Empty.elim ‹Empty› | assumption | rfl | omega | decide | exact fk [0] | (simp only [*,cond_true,cond_false,Bool.not_true,Bool.not_false,go_sem,Nat.reduceBEq,Nat.reduceLeDiff,Nat.reduceLT,decide_true,Nat.reduceAdd,Nat.reduceSub,Nat.reduceMul,Int.reduceLE,Int.reduceLT,Int.reduceToNat,Int.reduceNeg,reduceCtorEq];done) | (simp only [*,cond_true,cond_false,Bool.not_true,Bool.not_false,go_sem,Nat.reduceBEq,Nat.reduceLeDiff,Nat.reduceLT,decide_true,Nat.reduceAdd,Nat.reduceSub,Nat.reduceMul,Int.reduceLE,Int.reduceLT,Int.reduceToNat,Int.reduceNeg,reduceCtorEq];(repeat' (first | with_reducible refine And.intro ?_ ?_ | ((with_reducible show _≠_);first | assumption | omega | (simp_all [am,aC];done) | grind) | with_reducible intro _)) <;> (first | done | assumption | rfl | omega | decide | exact fk [0] | (simp_all [am,aC];done))) | (simp_all [okI,am,aC];done) | (simp_all [am,aC];(first | done | exact fk2 [0])) | exact fk2 [0]))) : p:=h
theorem nu {p : Prop} (h : p:=by simp only [go_sem,Nat.reduceBEq,Nat.reduceLeDiff,Nat.reduceLT,decide_true,Nat.reduceAdd,Nat.reduceSub,Nat.reduceMul,Int.reduceLE,Int.reduceLT,Int.reduceToNat,Int.reduceNeg,reduceCtorEq,hc,hw];all_goals exact zb) : p:=h
theorem nv {p : Prop} (h : p:=by simp only [go_sem,Nat.reduceBEq,Nat.reduceLeDiff,Nat.reduceLT,decide_true,Nat.reduceAdd,Nat.reduceSub,Nat.reduceMul,Int.reduceLE,Int.reduceLT,Int.reduceToNat,Int.reduceNeg,reduceCtorEq,hc];all_goals exact zb) : p:=h
def fo (x : Int) : Bool:=(x !=x)
@[go_sem] def mE : List SV→Option Con:=(pI fun x=> (pE (.det True (.v (.bool (fo x))))))
theorem rz : FnOk Tryz.prog 113 mE:=by
 have hG : ConsOk Tryz.prog (mkG [] []) :=aN cg0 cg0
 refine a_ [.o] mixed aD hG (fn:=Tryz.f113) (c:=ag Tryz.f113) (by kernel_rfl) (by kernel_rfl) (by kernel_rfl) (by kernel_rfl) (cy fun x=> (aV (fun hp=> ?_)))
 dsimp only [aZ] at hp
 refine ⟨Nat.le_of_ble_eq_true rfl,L0,av _,?_⟩
 ·unfold ag Tryz.f113
  try unfold fo
  simp only [go_sem,Nat.reduceBEq,Nat.reduceLeDiff,Nat.reduceLT,decide_true,Nat.reduceAdd,Nat.reduceSub,Nat.reduceMul,Int.reduceLE,Int.reduceLT,Int.reduceToNat,Int.reduceNeg,reduceCtorEq]
  all_goals exact cl
def aR (x : Int) (y : Int) : Int:=(bif (fo x) then (bif (fo y) then 0 else (-1)) else (bif (fo y) then 1 else (bif (decide (x < y)) then (-1) else (bif (decide (x > y)) then 1 else 0))))
@[go_sem] def di : List SV→Option Con:=(pI fun x=> (pI fun y=> (pE (.det True (.v (.int .i64 (aR x y)))))))
theorem d9 : FnOk Tryz.prog 70 di:=by
 have hG : ConsOk Tryz.prog (mkG [(113,mE)] []) :=aN (cgc rz cg0) cg0
 refine a_ [.o] mixed aD hG (fn:=Tryz.f70) (c:=ag Tryz.f70) (by kernel_rfl) (by kernel_rfl) (by kernel_rfl) (by kernel_rfl) (cy fun x=> (cy fun y=> (aV (fun hp=> ?_))))
 dsimp only [aZ] at hp
 refine ⟨Nat.le_of_ble_eq_true rfl,L0,av _,?_⟩
 ·unfold ag Tryz.f70
  try unfold aR
  simp only [go_sem,Nat.reduceBEq,Nat.reduceLeDiff,Nat.reduceLT,decide_true,Nat.reduceAdd,Nat.reduceSub,Nat.reduceMul,Int.reduceLE,Int.reduceLT,Int.reduceToNat,Int.reduceNeg,reduceCtorEq]
  all_goals exact cl
def et (n : Int) : Int:=(bif (decide (n < 0)) then (IntKind.u64.wrap (0 - (IntKind.u64.wrap n))) else (IntKind.u64.wrap n))
@[go_sem] def kM : List SV→Option Con:=(pI fun n=> (pE (.det True (.v (.int .u64 (et n))))))
theorem pn : FnOk Tryz.prog 176 kM:=by
 have hG : ConsOk Tryz.prog (mkG [] []) :=aN cg0 cg0
 refine a_ [.o] mixed aD hG (fn:=Tryz.f176) (c:=ag Tryz.f176) (by kernel_rfl) (by kernel_rfl) (by kernel_rfl) (by kernel_rfl) (cy fun n=> (aV (fun hp=> ?_)))
 dsimp only [aZ] at hp
 refine ⟨Nat.le_of_ble_eq_true rfl,L0,av _,?_⟩
 ·unfold ag Tryz.f176
  try unfold et
  simp only [go_sem,Nat.reduceBEq,Nat.reduceLeDiff,Nat.reduceLT,decide_true,Nat.reduceAdd,Nat.reduceSub,Nat.reduceMul,Int.reduceLE,Int.reduceLT,Int.reduceToNat,Int.reduceNeg,reduceCtorEq]
  all_goals exact cl
def ca (a : Ratio) : Int:=(bif (((((decide (a.d < 1)) || (decide (a.d > 1073741824))) || (decide (a.n < (-1073741824)))) || (decide (a.n > 1073741824))) || (((MZ (Int.toNat (et a.n)) (Int.toNat (IntKind.u64.wrap a.d)) : Nat) : Int) !=1)) then 120 else 0)
def oV (a : Ratio) : Prop:=(((((decide (a.d < 1)) || (decide (a.d > 1073741824))) || (decide (a.n < (-1073741824)))) || (decide (a.n > 1073741824)))=false→(0≤(et a.n)∧0≤(IntKind.u64.wrap a.d)))
theorem ud (n : Int) : 0≤IntKind.u64.wrap n:=by
 simp [IntKind.wrap,IntKind.bits,IntKind.signed];omega
theorem rA (n : Int) : 0≤et n:=by
 unfold et
 cases decide (n < 0) <;> exact ud _
theorem ue (a : Ratio) : oV a:=fun _=> ⟨rA _,ud _⟩
@[go_sem] def iU : List SV→Option Con:=(pD .ratio fun a=> (pE (.det True (.v (.int .i64 (ca a))))))
theorem kc : FnOk Tryz.prog 152 iU:=by
 have hG : ConsOk Tryz.prog (mkG [(175,C83),(176,kM)] []) :=aN (cgc PB (cgc pn cg0)) cg0
 refine a_ [.o] mixed aD hG (fn:=Tryz.f152) (c:=ag Tryz.f152) (by kernel_rfl) (by kernel_rfl) (by kernel_rfl) (by kernel_rfl) (bL fun a=> (aV (fun hp=> ?_)))
 dsimp only [aZ] at hp
 have hp:=ue a
 unfold oV at hp
 refine ⟨Nat.le_of_ble_eq_true rfl,L0,av _,?_⟩
 ·unfold ag Tryz.f152
  try unfold ca
  simp only [go_sem,Nat.reduceBEq,Nat.reduceLeDiff,Nat.reduceLT,decide_true,Nat.reduceAdd,Nat.reduceSub,Nat.reduceMul,Int.reduceLE,Int.reduceLT,Int.reduceToNat,Int.reduceNeg,reduceCtorEq,C83]
  all_goals exact cl
def eu (a : Ratio) (b : Ratio) : Int×Int:=(bif (((ca a) !=0) || ((ca b) !=0)) then (0,120) else ((aR (IntKind.i64.wrap (a.n * b.d)) (IntKind.i64.wrap (b.n * a.d))),0))
@[go_sem] def ny : List SV→Option Con:=(pD .ratio fun a=> (pD .ratio fun b=> (pE (.det True (.tup [.v (.int .i64 ((eu a b).1)),.v (.int .i64 ((eu a b).2))])))))
theorem qm : FnOk Tryz.prog 151 ny:=by
 have hG : ConsOk Tryz.prog (mkG [(70,di),(152,iU)] []) :=aN (cgc d9 (cgc kc cg0)) cg0
 refine a_ [.o,.o] mixed aD hG (fn:=Tryz.f151) (c:=ag Tryz.f151) (by kernel_rfl) (by kernel_rfl) (by kernel_rfl) (by kernel_rfl) (bL fun a=> (bL fun b=> (aV (fun hp=> ?_))))
 dsimp only [aZ] at hp
 refine ⟨Nat.le_of_ble_eq_true rfl,L0,av _,?_⟩
 ·unfold ag Tryz.f151
  try unfold eu
  simp only [go_sem,Nat.reduceBEq,Nat.reduceLeDiff,Nat.reduceLT,decide_true,Nat.reduceAdd,Nat.reduceSub,Nat.reduceMul,Int.reduceLE,Int.reduceLT,Int.reduceToNat,Int.reduceNeg,reduceCtorEq]
  all_goals exact cl
def vo (ok : Bool) (e : Int) : Unit:=(bif (!ok) then default else ())
def bO (ok : Bool) (e : Int) : Bool:=(bif (!ok) then false else true)
@[go_sem] def jv : List SV→Option Con:=(pB fun ok=> (pI fun e=> (pE (.may (bO ok e) (.tup []) (.iface 169 (.int .i64 e))))))
theorem lJ : FnOk Tryz.prog 75 jv:=by
 have hG : ConsOk Tryz.prog (mkG [] []) :=aN cg0 cg0
 refine a_ [] mixed aD hG (fn:=Tryz.f75) (c:=ag Tryz.f75) (by kernel_rfl) (by kernel_rfl) (by kernel_rfl) (by kernel_rfl) (PK fun ok=> (cy fun e=> (aV (fun hp=> ?_))))
 dsimp only [aZ] at hp
 refine ⟨Nat.le_of_ble_eq_true rfl,L0,av _,?_⟩
 ·unfold ag Tryz.f75
  try unfold vo
  try unfold bO
  simp only [go_sem,Nat.reduceBEq,Nat.reduceLeDiff,Nat.reduceLT,decide_true,Nat.reduceAdd,Nat.reduceSub,Nat.reduceMul,Int.reduceLE,Int.reduceLT,Int.reduceToNat,Int.reduceNeg,reduceCtorEq]
  all_goals exact cl
@[go_sem] def da (l_ : List Int) (k_0 : Nat) (s_0 : Unit) : Unit⊕Unit:=(bif (decide ((l_.getD (Int.toNat ((k_0 : Int) + 1)) (0 : Int)) < (l_.getD (Int.toNat (IntKind.i64.wrap (((k_0 : Int) + 1) - 1))) (0 : Int)))) then .inl () else .inr ())
def e_ (l_ : List Int) (k_0 : Nat) (s_0 : Unit) : Prop:=(l_.length≤bC→((0≤((k_0 : Int) + 1)∧((k_0 : Int) + 1) < (l_.length : Int))∧(0≤(IntKind.i64.wrap (((k_0 : Int) + 1) - 1))∧(IntKind.i64.wrap (((k_0 : Int) + 1) - 1)) < (l_.length : Int))))
def aQ (l_ : List Int) : Bool:=(match ak (da l_) (l_.length - 1) 0 () with | .inl x_0_0=> false | .inr s_0=> true)
def mF (l_ : List Int) : Prop:=okI (da l_) (e_ l_) (l_.length - 1) 0 ()
theorem rB (l_ : List Int) : mF l_:=kL _ _ _ fun j s h1 h2 hm=> by
 unfold bC at hm
 rw [bN (by omega) (by omega)]
 omega
@[go_sem] def gI : List SV→Option Con:=(pR .int fun l_=> (pE (.det True (.v (.bool (aQ l_))))))
set_option maxHeartbeats 4000000 in
theorem iK : FnOk Tryz.prog 117 gI:=by
 have hG : ConsOk Tryz.prog (mkG [] []) :=aN cg0 cg0
 refine a_ [.o] mixed aD hG (fn:=Tryz.f117) (c:=ag Tryz.f117) (by kernel_rfl) (by kernel_rfl) (by kernel_rfl) (by kernel_rfl) (df fun l_=> (aV (fun hp=> ?_)))
 dsimp only [aZ] at hp
 have hp:=rB l_
 unfold mF at hp
 refine ⟨Nat.le_of_ble_eq_true rfl,(fun id st=> bif Nat.beq id 0 then some (LC (ρ:=Unit) (σ:=Unit) (lk 0 st.t= .rs .int l_∧lk 3 st.t= .v (.int .i64 1)∧st.h=[]∧okI (da l_) (e_ l_) (l_.length - 1) 0 ()) (ak (da l_) (l_.length - 1) 0 ()) (fun _=> .ret) (fun x_0_0=> ⟨[(2,.v (.bool false))],[]⟩) (fun s_0=> ⟨[],[]⟩)) else none),?_,?_⟩
 ·unfold ag Tryz.f117
  simp only [aw,true_and,and_true]
  ·refine wd mixed aD hG (by kernel_rfl) fun st lc hC hp=> ?_
   simp only [go_sem,Nat.reduceBEq,Option.some.injEq] at hC
   subst hC
   obtain ⟨t,h⟩ :=st
   dsimp only [LC] at hp
   obtain ⟨e0_0,e0_1,rfl,hok0⟩ :=hp
   refine ⟨_,_,_,(da l_),(e_ l_),(l_.length - 1),(),_,_,_,(fun k_0 s_0=> ⟨[(0,.rs .int l_),(3,.v (.int .i64 ((k_0 : Int) + 1)))],[]⟩),[],rfl,hok0,Nat.le_refl _,?_,fun k_0 s_0 hk0 hp0=> ?_⟩
   ·simp only [go_sem,Nat.reduceBEq,Nat.reduceLeDiff,Nat.reduceLT,decide_true,Nat.reduceAdd,Nat.reduceSub,Nat.reduceMul,Int.reduceLE,Int.reduceLT,Int.reduceToNat,Int.reduceNeg,reduceCtorEq,e0_0,e0_1]
    all_goals (first | done | decide | (repeat' (first | refine And.intro ?_ ?_ | rfl | decide)))
   refine ⟨L0,?_,?_⟩
   ·simp only [aw,and_self,true_and,and_true]
   ·by_cases hb0 : l_.length≤bC
    rotate_left
    ·simp only [go_sem,Nat.reduceBEq,Nat.reduceLeDiff,Nat.reduceLT,decide_true,Nat.reduceAdd,Nat.reduceSub,Nat.reduceMul,Int.reduceLE,Int.reduceLT,Int.reduceToNat,Int.reduceNeg,reduceCtorEq,hb0]
    ·by_cases hlt0 : k_0 < (l_.length - 1)
     ·have hw0 : IntKind.i64.wrap (((k_0 : Nat) : Int) + 1 + 1)=((k_0 + 1 : Nat) : Int) + 1:=by (have hbb:=hb0;have hll:=hlt0;try unfold bC at hbb);rw [bN (by omega) (by omega)];omega
      have hq0:=hp0 hlt0
      unfold e_ at hq0
      replace hq0:=hq0 hb0
      try simp only [hw0,Int.toNat_natCast] at hq0
      have hc0 : decide (((k_0 : Int) + 1) < (l_.length : Int))=true:=by simp only [decide_eq_true_eq];omega
      simp only [go_sem,Nat.reduceBEq,Nat.reduceLeDiff,Nat.reduceLT,decide_true,Nat.reduceAdd,Nat.reduceSub,Nat.reduceMul,Int.reduceLE,Int.reduceLT,Int.reduceToNat,Int.reduceNeg,reduceCtorEq,da,hc0,hw0]
      all_goals exact cl
     ·have hc0 : decide (((k_0 : Int) + 1) < (l_.length : Int))=false:=by simp only [decide_eq_false_iff_not];omega
      simp only [go_sem,Nat.reduceBEq,Nat.reduceLeDiff,Nat.reduceLT,decide_true,Nat.reduceAdd,Nat.reduceSub,Nat.reduceMul,Int.reduceLE,Int.reduceLT,Int.reduceToNat,Int.reduceNeg,reduceCtorEq,hc0]
      all_goals exact cl2
 ·unfold ag Tryz.f117
  try unfold aQ
  simp only [go_sem,Nat.reduceBEq,Nat.reduceLeDiff,Nat.reduceLT,decide_true,Nat.reduceAdd,Nat.reduceSub,Nat.reduceMul,Int.reduceLE,Int.reduceLT,Int.reduceToNat,Int.reduceNeg,reduceCtorEq]
  all_goals exact cl
def cq (i : Int) (n : Int) : Bool:=((decide (i≥0)) && (decide (i < n)))
@[go_sem] def ib : List SV→Option Con:=(pI fun i=> (pI fun n=> (pE (.det True (.v (.bool (cq i n)))))))
theorem jw : FnOk Tryz.prog 119 ib:=by
 have hG : ConsOk Tryz.prog (mkG [] []) :=aN cg0 cg0
 refine a_ [.o] mixed aD hG (fn:=Tryz.f119) (c:=ag Tryz.f119) (by kernel_rfl) (by kernel_rfl) (by kernel_rfl) (by kernel_rfl) (cy fun i=> (cy fun n=> (aV (fun hp=> ?_))))
 dsimp only [aZ] at hp
 refine ⟨Nat.le_of_ble_eq_true rfl,L0,av _,?_⟩
 ·unfold ag Tryz.f119
  try unfold cq
  simp only [go_sem,Nat.reduceBEq,Nat.reduceLeDiff,Nat.reduceLT,decide_true,Nat.reduceAdd,Nat.reduceSub,Nat.reduceMul,Int.reduceLE,Int.reduceLT,Int.reduceToNat,Int.reduceNeg,reduceCtorEq]
  all_goals exact cl
def fa (x : Ratio×Ratio) : Bool:=(((((eu x.1 x.2).2==0) && (decide (x.1.n≥0))) && (decide ((eu x.1 x.2).1≤0))) && (decide (x.2.n≤x.2.d)))
@[go_sem] def nz : List SV→Option Con:=(pD .ratio2 fun x=> (pE (.det True (.v (.bool (fa x))))))
theorem sD : FnOk Tryz.prog 149 nz:=by
 have hG : ConsOk Tryz.prog (mkG [(151,ny)] []) :=aN (cgc qm cg0) cg0
 refine a_ [.o] mixed aD hG (fn:=Tryz.f149) (c:=ag Tryz.f149) (by kernel_rfl) (by kernel_rfl) (by kernel_rfl) (by kernel_rfl) (bL fun x=> (aV (fun hp=> ?_)))
 dsimp only [aZ] at hp
 refine ⟨Nat.le_of_ble_eq_true rfl,L0,av _,?_⟩
 ·unfold ag Tryz.f149
  try unfold fa
  simp only [go_sem,Nat.reduceBEq,Nat.reduceLeDiff,Nat.reduceLT,decide_true,Nat.reduceAdd,Nat.reduceSub,Nat.reduceMul,Int.reduceLE,Int.reduceLT,Int.reduceToNat,Int.reduceNeg,reduceCtorEq]
  all_goals exact cl
def bw (i : Int) (x : Reach) : Bool:=(bif (decide (i > 0)) then ((((((cq x.up i) && (aQ ([1,x.delay,16]))) && (aQ ([0,x.siphon,x.cap,1073741824]))) && (aQ ([0,x.siphon,x.bank,1099511627776]))) && (aQ ([0,x.evap.lo,x.evap.hi,1073741824]))) && (fa x.seep)) else ((((((x.up==(-1)) && (aQ ([1,x.delay,16]))) && (aQ ([0,x.siphon,x.cap,1073741824]))) && (aQ ([0,x.siphon,x.bank,1099511627776]))) && (aQ ([0,x.evap.lo,x.evap.hi,1073741824]))) && (fa x.seep)))
@[go_sem] def nA : List SV→Option Con:=(pI fun i=> (pD .reach fun x=> (pE (.det True (.v (.bool (bw i x)))))))
theorem sE : FnOk Tryz.prog 118 nA:=by
 have hG : ConsOk Tryz.prog (mkG [(117,fun l=> gI (dw [.sl .int] l)),(119,ib),(149,nz)] []) :=aN (cgc (iK.norm [.sl .int]) (cgc jw (cgc sD cg0))) cg0
 refine a_ [.o] mixed aD hG (fn:=Tryz.f118) (c:=ag Tryz.f118) (by kernel_rfl) (by kernel_rfl) (by kernel_rfl) (by kernel_rfl) (cy fun i=> (bL fun x=> (aV (fun hp=> ?_))))
 dsimp only [aZ] at hp
 refine ⟨Nat.le_of_ble_eq_true rfl,L0,av _,?_⟩
 ·unfold ag Tryz.f118
  try unfold bw
  simp only [go_sem,Nat.reduceBEq,Nat.reduceLeDiff,Nat.reduceLT,decide_true,Nat.reduceAdd,Nat.reduceSub,Nat.reduceMul,Int.reduceLE,Int.reduceLT,Int.reduceToNat,Int.reduceNeg,reduceCtorEq]
  all_goals exact cl
def mm (a0 : District) (a1 : Right) : Bool:=(bif (((!(cq a1.farm (a0.farms.length : Int))) || (!(cq a1.reach (a0.reaches.length : Int)))) || (!(aQ ([0,a1.since,a1.to,(IntKind.i64.wrap (a0.hours - 1))])))) then false else (bif (a1.kind==1) then ((((a1.reach==0) && (aQ ([0,a1.rank,1048576]))) && (aQ ([1,a1.litres,1073741824]))) && (aQ ([1,a1.length,a1.every,a0.hours]))) else (bif (a1.kind==2) then ((a1.name==a1.name) && ((a1.kind==a1.kind) && ((a1.farm==a1.farm) && ((a1.reach==a1.reach) && ((a1.rank==0) && ((a1.litres==0) && ((a1.since==0) && ((a1.to==(IntKind.i64.wrap (a0.hours - 1))) && ((a1.every==0) && (a1.length==0)))))))))) else (bif (a1.kind==3) then ((a1.name==a1.name) && ((a1.kind==a1.kind) && ((a1.farm==a1.farm) && ((a1.reach==a1.reach) && ((a1.rank==0) && ((a1.litres==0) && ((a1.since==a1.since) && ((a1.to==a1.to) && ((a1.every==0) && (a1.length==0)))))))))) else false))))
@[go_sem] def nB : List SV→Option Con:=(pD .district fun a0=> (pD .right fun a1=> (pE (.det True (.v (.bool (mm a0 a1)))))))
theorem sF : FnOk Tryz.prog 120 nB:=by
 have hG : ConsOk Tryz.prog (mkG [(117,fun l=> gI (dw [.sl .int] l)),(119,ib)] []) :=aN (cgc (iK.norm [.sl .int]) (cgc jw cg0)) cg0
 refine a_ [.o] mixed aD hG (fn:=Tryz.f120) (c:=ag Tryz.f120) (by kernel_rfl) (by kernel_rfl) (by kernel_rfl) (by kernel_rfl) (bL fun a0=> (bL fun a1=> (aV (fun hp=> ?_))))
 dsimp only [aZ] at hp
 refine ⟨Nat.le_of_ble_eq_true rfl,L0,av _,?_⟩
 ·unfold ag Tryz.f120
  try unfold mm
  simp only [go_sem,Nat.reduceBEq,Nat.reduceLeDiff,Nat.reduceLT,decide_true,Nat.reduceAdd,Nat.reduceSub,Nat.reduceMul,Int.reduceLE,Int.reduceLT,Int.reduceToNat,Int.reduceNeg,reduceCtorEq]
  all_goals exact cl
@[go_sem] def fC (a0 : District) (a1 : Int) (k_0 : Nat) (s_0 : Unit) : Unit⊕Unit:=(bif (bO (bw (k_0 : Int) (a0.reaches.getD k_0 (default : Reach))) a1) then .inr () else .inl ())
@[go_sem] def ic (a0 : District) (a1 : Int) (k_1 : Nat) (s_1 : Unit) : Unit⊕Unit:=(bif (bO (aQ ([0,(a0.crops.getD k_1 (default : Crop)).need,1048576])) a1) then .inr () else .inl ())
@[go_sem] def fD (a0 : District) (a1 : Int) (k_2 : Nat) (s_2 : Unit) : Unit⊕Unit:=(bif (decide ((a0.farms.getD k_2 (default : Farm)).area > 0)) then (bif (bO (((cq ((a0.farms.getD k_2 (default : Farm)).crop) (a0.crops.length : Int)) && (cq ((a0.farms.getD k_2 (default : Farm)).reach) (a0.reaches.length : Int))) && (aQ ([0,(a0.farms.getD k_2 (default : Farm)).area,1048576]))) a1) then .inr () else .inl ()) else (bif (bO ((((a0.farms.getD k_2 (default : Farm)).crop==(-1)) && (cq ((a0.farms.getD k_2 (default : Farm)).reach) (a0.reaches.length : Int))) && (aQ ([0,(a0.farms.getD k_2 (default : Farm)).area,1048576]))) a1) then .inr () else .inl ()))
@[go_sem] def ig (a0 : District) (a1 : Int) (k_3 : Nat) (s_3 : Unit) : Unit⊕Unit:=(bif (bO (mm a0 (a0.rights.getD k_3 (default : Right))) a1) then .inr () else .inl ())
@[go_sem] def ii (a0 : District) (a1 : Int) (k_4 : Nat) (s_4 : Unit) : Unit⊕Unit:=(bif (bO (((cq ((a0.duties.getD k_4 (default : Duty)).farm) (a0.farms.length : Int)) && (cq ((a0.duties.getD k_4 (default : Duty)).reach) (a0.reaches.length : Int))) && (aQ ([0,(a0.duties.getD k_4 (default : Duty)).due,a0.hours]))) a1) then .inr () else .inl ())
def uf (a0 : District) (a1 : Int) : Unit:=(bif (bO (((aQ ([1,a0.hours,4096])) && (aQ ([0,a0.tank.start,a0.tank.cap,1099511627776]))) && (decide ((a0.reaches.length : Int) > 0))) a1) then (match ak (fC a0 a1) a0.reaches.length 0 () with | .inl x_0_0=> default | .inr s_0=> (match ak (ic a0 a1) a0.crops.length 0 () with | .inl x_1_0=> default | .inr s_1=> (match ak (fD a0 a1) a0.farms.length 0 () with | .inl x_2_0=> default | .inr s_2=> (match ak (ig a0 a1) a0.rights.length 0 () with | .inl x_3_0=> default | .inr s_3=> (match ak (ii a0 a1) a0.duties.length 0 () with | .inl x_4_0=> default | .inr s_4=> ()))))) else default)
def eC (a0 : District) (a1 : Int) : Bool:=(bif (bO (((aQ ([1,a0.hours,4096])) && (aQ ([0,a0.tank.start,a0.tank.cap,1099511627776]))) && (decide ((a0.reaches.length : Int) > 0))) a1) then (match ak (fC a0 a1) a0.reaches.length 0 () with | .inl x_0_0=> false | .inr s_0=> (match ak (ic a0 a1) a0.crops.length 0 () with | .inl x_1_0=> false | .inr s_1=> (match ak (fD a0 a1) a0.farms.length 0 () with | .inl x_2_0=> false | .inr s_2=> (match ak (ig a0 a1) a0.rights.length 0 () with | .inl x_3_0=> false | .inr s_3=> (match ak (ii a0 a1) a0.duties.length 0 () with | .inl x_4_0=> false | .inr s_4=> true))))) else false)
@[go_sem] def lK : List SV→Option Con:=(pD .district fun a0=> (pI fun a1=> (pE (.may (eC a0 a1) (.tup []) (.iface 169 (.int .i64 a1))))))
set_option maxHeartbeats 4000000 in
theorem qn : FnOk Tryz.prog 76 lK:=by
 have hG : ConsOk Tryz.prog (mkG [(75,jv),(117,fun l=> gI (dw [.sl .int] l)),(118,nA),(119,ib),(120,fun l=> nB (dw [.st .district,.st .right] l))] []) :=aN (cgc lJ (cgc (iK.norm [.sl .int]) (cgc sE (cgc jw (cgc (sF.norm [.st .district,.st .right]) cg0))))) cg0
 refine a_ [] mixed aD hG (fn:=Tryz.f76) (c:=ag Tryz.f76) (by kernel_rfl) (by kernel_rfl) (by kernel_rfl) (by kernel_rfl) (bL fun a0=> (cy fun a1=> (aV (fun hp=> ?_))))
 dsimp only [aZ] at hp
 refine ⟨Nat.le_of_ble_eq_true rfl,(fun id st=> bif Nat.beq id 0 then some (LCR (ρ:=Unit) (σ:=Unit) 1 [] [0] (fun k_0 s_0=> ⟨[(1,.v (.int .i64 a1)),(2,.ptr 0 0),(38,.rs .reach a0.reaches),(39,.v (.int .i64 (a0.reaches.length : Int))),(40,.v (.int .i64 (k_0 : Int)))],[.cells (cellsOf .district a0)]⟩) (fC a0 a1) pT a0.reaches.length () (a0.reaches.length≤bC) (fun _=> .pan (.iface 169 (.int .i64 a1))) (fun x_0_0=> ⟨[],[.dead]⟩) st) else bif Nat.beq id 2 then some (LCR (ρ:=Unit) (σ:=Unit) 1 [] [0] (fun k_1 s_1=> ⟨[(1,.v (.int .i64 a1)),(2,.ptr 0 0),(52,.rs .crop a0.crops),(53,.v (.int .i64 (a0.crops.length : Int))),(54,.v (.int .i64 (k_1 : Int)))],[.cells (cellsOf .district a0)]⟩) (ic a0 a1) pT a0.crops.length () (a0.crops.length≤bC) (fun _=> .pan (.iface 169 (.int .i64 a1))) (fun x_1_0=> ⟨[],[.dead]⟩) st) else bif Nat.beq id 4 then some (LCR (ρ:=Unit) (σ:=Unit) 1 [] [0] (fun k_2 s_2=> ⟨[(1,.v (.int .i64 a1)),(2,.ptr 0 0),(66,.rs .farm a0.farms),(67,.v (.int .i64 (a0.farms.length : Int))),(68,.v (.int .i64 (k_2 : Int)))],[.cells (cellsOf .district a0)]⟩) (fD a0 a1) pT a0.farms.length () (a0.farms.length≤bC) (fun _=> .pan (.iface 169 (.int .i64 a1))) (fun x_2_0=> ⟨[],[.dead]⟩) st) else bif Nat.beq id 6 then some (LCR (ρ:=Unit) (σ:=Unit) 1 [] [0] (fun k_3 s_3=> ⟨[(1,.v (.int .i64 a1)),(2,.ptr 0 0),(103,.rs .right a0.rights),(104,.v (.int .i64 (a0.rights.length : Int))),(105,.v (.int .i64 (k_3 : Int)))],[.cells (cellsOf .district a0)]⟩) (ig a0 a1) pT a0.rights.length () (a0.rights.length≤bC) (fun _=> .pan (.iface 169 (.int .i64 a1))) (fun x_3_0=> ⟨[],[.dead]⟩) st) else bif Nat.beq id 8 then some (LCR (ρ:=Unit) (σ:=Unit) 1 [] [0] (fun k_4 s_4=> ⟨[(1,.v (.int .i64 a1)),(2,.ptr 0 0),(116,.rs .duty a0.duties),(117,.v (.int .i64 (a0.duties.length : Int))),(118,.v (.int .i64 (k_4 : Int)))],[.cells (cellsOf .district a0)]⟩) (ii a0 a1) pT a0.duties.length () (a0.duties.length≤bC) (fun _=> .pan (.iface 169 (.int .i64 a1))) (fun x_4_0=> ⟨[],[.dead]⟩) st) else none),?_,?_⟩
 ·unfold ag Tryz.f76
  simp only [aw,true_and,and_true]
  refine ⟨?_,?_,?_,?_,?_⟩
  ·refine bY mixed aD hG (by kernel_rfl) (fun _=> rfl) (a0.reaches.length : Int) rfl jm (fun hb0 k_0 s_0 hlt0 _ hw hc=> ⟨L0,av _,?_⟩) (fun hb0 s_0 hc=> ?_)
   ·exact nu
   ·exact nv
  ·refine bY mixed aD hG (by kernel_rfl) (fun _=> rfl) (a0.crops.length : Int) rfl jm (fun hb1 k_1 s_1 hlt1 _ hw hc=> ⟨L0,av _,?_⟩) (fun hb1 s_1 hc=> ?_)
   ·exact nu
   ·exact nv
  ·refine bY mixed aD hG (by kernel_rfl) (fun _=> rfl) (a0.farms.length : Int) rfl jm (fun hb2 k_2 s_2 hlt2 _ hw hc=> ⟨L0,av _,?_⟩) (fun hb2 s_2 hc=> ?_)
   ·exact nu
   ·exact nv
  ·refine bY mixed aD hG (by kernel_rfl) (fun _=> rfl) (a0.rights.length : Int) rfl jm (fun hb3 k_3 s_3 hlt3 _ hw hc=> ⟨L0,av _,?_⟩) (fun hb3 s_3 hc=> ?_)
   ·exact nu
   ·exact nv
  ·refine bY mixed aD hG (by kernel_rfl) (fun _=> rfl) (a0.duties.length : Int) rfl jm (fun hb4 k_4 s_4 hlt4 _ hw hc=> ⟨L0,av _,?_⟩) (fun hb4 s_4 hc=> ?_)
   ·exact nu
   ·exact nv
 ·unfold ag Tryz.f76
  try unfold uf
  try unfold eC
  simp only [go_sem,Nat.reduceBEq,Nat.reduceLeDiff,Nat.reduceLT,decide_true,Nat.reduceAdd,Nat.reduceSub,Nat.reduceMul,Int.reduceLE,Int.reduceLT,Int.reduceToNat,Int.reduceNeg,reduceCtorEq]
  all_goals exact cl
def bn (d : District) : Int:=(bif (bO (((((decide ((d.reaches.length : Int)≤64)) && (decide ((d.farms.length : Int)≤600))) && (decide ((d.crops.length : Int)≤32))) && (decide ((d.rights.length : Int)≤256))) && (decide ((d.duties.length : Int)≤256))) 2) then (bif (eC d 191) then 0 else 191) else 2)
@[go_sem] def ij : List SV→Option Con:=(pD .district fun d=> (pE (.det True (.v (.int .i64 (bn d))))))
theorem jx : FnOk Tryz.prog 42 ij:=by
 have hG : ConsOk Tryz.prog (mkG [(75,jv),(76,fun l=> lK (dw [.st .district,.o] l))] []) :=aN (cgc lJ (cgc (qn.norm [.st .district,.o]) cg0)) cg0
 refine Po HN [.o] mixed aD hG (fn:=Tryz.f42) (c0:=EE (ag Tryz.f42)) (c1:=Bg (Bg (ag Tryz.f42))) (i1:=regI (EE (Bg (ag Tryz.f42)))) (o1:=Tp 0 (EE (Bg (ag Tryz.f42)))) (o2:=Tp 1 (EE (Bg (ag Tryz.f42)))) (t3:=3) (q:=2) (tys:= #[]) (by kernel_rfl) (by kernel_rfl) (by kernel_rfl) (by refine ⟨?_,?_,?_⟩ <;> kernel_rfl) (by refine ⟨?_,?_,?_⟩ <;> kernel_rfl) (Nat.le_of_ble_eq_true rfl) (by kernel_rfl) (by kernel_rfl) (bL fun d=> (aV (fun hp=> ?_)))
 dsimp only [aZ] at hp
 refine ⟨Nat.le_of_ble_eq_true rfl,L0,L0,1,?_,?_,?_⟩
 ·unfold ag Tryz.f42
  simp only [EE,aw,and_self,true_and,and_true]
 ·unfold ag Tryz.f42
  simp only [Bg]
  simp only [aw,and_self,true_and,and_true]
 ·unfold ag Tryz.f42
  try unfold bn
  simp only [go_sem,Nat.reduceBEq,Nat.reduceLeDiff,Nat.reduceLT,decide_true,Nat.reduceAdd,Nat.reduceSub,Nat.reduceMul,Int.reduceLE,Int.reduceLT,Int.reduceToNat,Int.reduceNeg,reduceCtorEq,EE,Bg,Py]
  all_goals exact cl
def ik (x : Order) : Int:=x.hour
@[go_sem] def gn : List SV→Option Con:=(pD .order fun x=> (pE (.det True (.v (.int .i64 (ik x))))))
theorem nC : FnOk Tryz.prog 79 gn:=by
 have hG : ConsOk Tryz.prog (mkG [] []) :=aN cg0 cg0
 refine a_ [.o] mixed aD hG (fn:=Tryz.f79) (c:=ag Tryz.f79) (by kernel_rfl) (by kernel_rfl) (by kernel_rfl) (by kernel_rfl) (bL fun x=> (aV (fun hp=> ?_)))
 dsimp only [aZ] at hp
 refine ⟨Nat.le_of_ble_eq_true rfl,L0,av _,?_⟩
 ·unfold ag Tryz.f79
  try unfold ik
  simp only [go_sem,Nat.reduceBEq,Nat.reduceLeDiff,Nat.reduceLT,decide_true,Nat.reduceAdd,Nat.reduceSub,Nat.reduceMul,Int.reduceLE,Int.reduceLT,Int.reduceToNat,Int.reduceNeg,reduceCtorEq]
  all_goals exact cl
def ke (x : Order) : Int:=(bif x.outlet then 1 else 0)
@[go_sem] def iL : List SV→Option Con:=(pD .order fun x=> (pE (.det True (.v (.int .i64 (ke x))))))
theorem qo : FnOk Tryz.prog 80 iL:=by
 have hG : ConsOk Tryz.prog (mkG [] []) :=aN cg0 cg0
 refine a_ [.o] mixed aD hG (fn:=Tryz.f80) (c:=ag Tryz.f80) (by kernel_rfl) (by kernel_rfl) (by kernel_rfl) (by kernel_rfl) (bL fun x=> (aV (fun hp=> ?_)))
 dsimp only [aZ] at hp
 refine ⟨Nat.le_of_ble_eq_true rfl,L0,av _,?_⟩
 ·unfold ag Tryz.f80
  try unfold ke
  simp only [go_sem,Nat.reduceBEq,Nat.reduceLeDiff,Nat.reduceLT,decide_true,Nat.reduceAdd,Nat.reduceSub,Nat.reduceMul,Int.reduceLE,Int.reduceLT,Int.reduceToNat,Int.reduceNeg,reduceCtorEq]
  all_goals exact cl
def il (x : Order) : Int:=x.index
@[go_sem] def gq : List SV→Option Con:=(pD .order fun x=> (pE (.det True (.v (.int .i64 (il x))))))
theorem nD : FnOk Tryz.prog 81 gq:=by
 have hG : ConsOk Tryz.prog (mkG [] []) :=aN cg0 cg0
 refine a_ [.o] mixed aD hG (fn:=Tryz.f81) (c:=ag Tryz.f81) (by kernel_rfl) (by kernel_rfl) (by kernel_rfl) (by kernel_rfl) (bL fun x=> (aV (fun hp=> ?_)))
 dsimp only [aZ] at hp
 refine ⟨Nat.le_of_ble_eq_true rfl,L0,av _,?_⟩
 ·unfold ag Tryz.f81
  try unfold il
  simp only [go_sem,Nat.reduceBEq,Nat.reduceLeDiff,Nat.reduceLT,decide_true,Nat.reduceAdd,Nat.reduceSub,Nat.reduceMul,Int.reduceLE,Int.reduceLT,Int.reduceToNat,Int.reduceNeg,reduceCtorEq]
  all_goals exact cl
end Go.Sx
end
section
namespace Go.Sx
open Go.Proofs
set_option maxRecDepth 100000
set_option linter.unusedSimpArgs false
theorem HY {p : Prop} (h : p:=by (first | done | (repeat' (first | with_reducible refine And.intro ?_ ?_ | ((with_reducible show _≠_);first | assumption | omega | (simp_all [am,aC];done) | grind) | with_reducible intro _)) <;> (first | done | exact Empty.elim ‹Empty› | assumption | rfl | omega | decide | exact fk [] | (simp only [*,cond_true,cond_false,Bool.not_true,Bool.not_false,go_sem,Nat.reduceBEq,Nat.reduceLeDiff,Nat.reduceLT,decide_true,Nat.reduceAdd,Nat.reduceSub,Nat.reduceMul,Int.reduceLE,Int.reduceLT,Int.reduceToNat,Int.reduceNeg,reduceCtorEq];done) | (simp only [*,cond_true,cond_false,Bool.not_true,Bool.not_false,go_sem,Nat.reduceBEq,Nat.reduceLeDiff,Nat.reduceLT,decide_true,Nat.reduceAdd,Nat.reduceSub,Nat.reduceMul,Int.reduceLE,Int.reduceLT,Int.reduceToNat,Int.reduceNeg,reduceCtorEq];(repeat' (first | with_reducible refine And.intro ?_ ?_ | ((with_reducible show _≠_);first | assumption | omega | (simp_all [am,aC];done) | grind) | with_reducible intro _)) <;> (first | done | assumption | rfl | omega | decide | exact fk [] | (simp_all [am,aC];done))) | (simp_all [okI,am,aC];done) | (simp_all [am,aC];(first | done | exact fk2 [])) | exact fk2 []))) : p:=h
theorem HZ {p : Prop} (h : p:=by simp only [go_sem,Nat.reduceBEq,Nat.reduceLeDiff,Nat.reduceLT,decide_true,Nat.reduceAdd,Nat.reduceSub,Nat.reduceMul,Int.reduceLE,Int.reduceLT,Int.reduceToNat,Int.reduceNeg,reduceCtorEq];all_goals exact HY) : p:=h
def fP (x : Range) (most : Int) : Bool:=(((decide (x.lo≥0)) && (decide (x.lo≤x.hi))) && (decide (x.hi≤most)))
@[go_sem] def lL : List SV→Option Con:=(pD .range fun x=> (pI fun most=> (pE (.det True (.v (.bool (fP x most)))))))
theorem qp : FnOk Tryz.prog 122 lL:=by
 have hG : ConsOk Tryz.prog (mkG [] []) :=aN cg0 cg0
 refine a_ [.o] mixed aD hG (fn:=Tryz.f122) (c:=ag Tryz.f122) (by kernel_rfl) (by kernel_rfl) (by kernel_rfl) (by kernel_rfl) (bL fun x=> (cy fun most=> (aV (fun hp=> ?_))))
 dsimp only [aZ] at hp
 refine ⟨Nat.le_of_ble_eq_true rfl,L0,av _,?_⟩
 ·unfold ag Tryz.f122
  try unfold fP
  simp only [go_sem,Nat.reduceBEq,Nat.reduceLeDiff,Nat.reduceLT,decide_true,Nat.reduceAdd,Nat.reduceSub,Nat.reduceMul,Int.reduceLE,Int.reduceLT,Int.reduceToNat,Int.reduceNeg,reduceCtorEq]
  all_goals exact cl
def iM (n : Int) (lo : Int) (hi : Int) : Bool:=((decide (n≥lo)) && (decide (n≤hi)))
@[go_sem] def nE : List SV→Option Con:=(pI fun n=> (pI fun lo=> (pI fun hi=> (pE (.det True (.v (.bool (iM n lo hi))))))))
theorem qq : FnOk Tryz.prog 124 nE:=by
 have hG : ConsOk Tryz.prog (mkG [] []) :=aN cg0 cg0
 refine a_ [.o] mixed aD hG (fn:=Tryz.f124) (c:=ag Tryz.f124) (by kernel_rfl) (by kernel_rfl) (by kernel_rfl) (by kernel_rfl) (cy fun n=> (cy fun lo=> (cy fun hi=> (aV (fun hp=> ?_)))))
 dsimp only [aZ] at hp
 refine ⟨Nat.le_of_ble_eq_true rfl,L0,av _,?_⟩
 ·unfold ag Tryz.f124
  try unfold iM
  simp only [go_sem,Nat.reduceBEq,Nat.reduceLeDiff,Nat.reduceLT,decide_true,Nat.reduceAdd,Nat.reduceSub,Nat.reduceMul,Int.reduceLE,Int.reduceLT,Int.reduceToNat,Int.reduceNeg,reduceCtorEq]
  all_goals exact cl
def im (a : Ratio) : Bool:=(((ca a) ==0) && (iM a.n 0 a.d))
@[go_sem] def nF : List SV→Option Con:=(pD .ratio fun a=> (pE (.det True (.v (.bool (im a))))))
theorem sG : FnOk Tryz.prog 150 nF:=by
 have hG : ConsOk Tryz.prog (mkG [(124,nE),(152,iU)] []) :=aN (cgc qq (cgc kc cg0)) cg0
 refine a_ [.o] mixed aD hG (fn:=Tryz.f150) (c:=ag Tryz.f150) (by kernel_rfl) (by kernel_rfl) (by kernel_rfl) (by kernel_rfl) (bL fun a=> (aV (fun hp=> ?_)))
 dsimp only [aZ] at hp
 refine ⟨Nat.le_of_ble_eq_true rfl,L0,av _,?_⟩
 ·unfold ag Tryz.f150
  try unfold im
  simp only [go_sem,Nat.reduceBEq,Nat.reduceLeDiff,Nat.reduceLT,decide_true,Nat.reduceAdd,Nat.reduceSub,Nat.reduceMul,Int.reduceLE,Int.reduceLT,Int.reduceToNat,Int.reduceNeg,reduceCtorEq]
  all_goals exact cl
def fq (a : Ratio×Ratio) : Bool:=(bif ((!(im a.1)) || (!(im a.2))) then false else (((eu a.1 a.2).2==0) && (decide ((eu a.1 a.2).1≤0))))
@[go_sem] def mG : List SV→Option Con:=(pD .ratio2 fun a=> (pE (.det True (.v (.bool (fq a))))))
theorem rC : FnOk Tryz.prog 123 mG:=by
 have hG : ConsOk Tryz.prog (mkG [(150,nF),(151,ny)] []) :=aN (cgc sG (cgc qm cg0)) cg0
 refine a_ [.o] mixed aD hG (fn:=Tryz.f123) (c:=ag Tryz.f123) (by kernel_rfl) (by kernel_rfl) (by kernel_rfl) (by kernel_rfl) (bL fun a=> (aV (fun hp=> ?_)))
 dsimp only [aZ] at hp
 refine ⟨Nat.le_of_ble_eq_true rfl,L0,av _,?_⟩
 ·unfold ag Tryz.f123
  try unfold fq
  simp only [go_sem,Nat.reduceBEq,Nat.reduceLeDiff,Nat.reduceLT,decide_true,Nat.reduceAdd,Nat.reduceSub,Nat.reduceMul,Int.reduceLE,Int.reduceLT,Int.reduceToNat,Int.reduceNeg,reduceCtorEq]
  all_goals exact cl
def cD (r : Reach) (n : Int) : Int:=(bif ((!(fP r.evap 1073741824)) || (!(fq r.seep))) then 210 else (bif (!(iM n 0 1073741824)) then 1 else 0))
@[go_sem] def kf : List SV→Option Con:=(pD .reach fun r=> (pI fun n=> (pE (.det True (.v (.int .i64 (cD r n)))))))
theorem mH : FnOk Tryz.prog 82 kf:=by
 have hG : ConsOk Tryz.prog (mkG [(122,lL),(123,mG),(124,nE)] []) :=aN (cgc qp (cgc rC (cgc qq cg0))) cg0
 refine a_ [.o] mixed aD hG (fn:=Tryz.f82) (c:=ag Tryz.f82) (by kernel_rfl) (by kernel_rfl) (by kernel_rfl) (by kernel_rfl) (bL fun r=> (cy fun n=> (aV (fun hp=> ?_))))
 dsimp only [aZ] at hp
 refine ⟨Nat.le_of_ble_eq_true rfl,L0,av _,?_⟩
 ·unfold ag Tryz.f82
  try unfold cD
  simp only [go_sem,Nat.reduceBEq,Nat.reduceLeDiff,Nat.reduceLT,decide_true,Nat.reduceAdd,Nat.reduceSub,Nat.reduceMul,Int.reduceLE,Int.reduceLT,Int.reduceToNat,Int.reduceNeg,reduceCtorEq]
  all_goals exact cl
def iN (n : Int) (d : Int) : Int:=(IntKind.i64.wrap (Int.tdiv (IntKind.i64.wrap (n - (Int.tmod (IntKind.i64.wrap ((Int.tmod n d) + d)) d))) d))
def jQ (n : Int) (d : Int) : Prop:=(d≠0∧(d≠0∧d≠0))
@[go_sem] def qr : List SV→Option Con:=(pI fun n=> (pI fun d=> (pE (.det (jQ n d) (.v (.int .i64 (iN n d)))))))
theorem vp : FnOk Tryz.prog 153 qr:=by
 have hG : ConsOk Tryz.prog (mkG [] []) :=aN cg0 cg0
 refine a_ [.o] mixed aD hG (fn:=Tryz.f153) (c:=ag Tryz.f153) (by kernel_rfl) (by kernel_rfl) (by kernel_rfl) (by kernel_rfl) (cy fun n=> (cy fun d=> (aV (fun hp=> ?_))))
 dsimp only [aZ] at hp
 unfold jQ at hp
 refine ⟨Nat.le_of_ble_eq_true rfl,L0,av _,?_⟩
 ·unfold ag Tryz.f153
  try unfold iN
  simp only [go_sem,Nat.reduceBEq,Nat.reduceLeDiff,Nat.reduceLT,decide_true,Nat.reduceAdd,Nat.reduceSub,Nat.reduceMul,Int.reduceLE,Int.reduceLT,Int.reduceToNat,Int.reduceNeg,reduceCtorEq]
  all_goals exact cl
def dK (a : Ratio) (n : Int) : Int×Int×Int:=(bif ((ca a) !=0) then (0,0,(ca a)) else (bif ((decide (n < (-1073741824))) || (decide (n > 1073741824))) then (0,0,1) else ((iN (IntKind.i64.wrap (a.n * n)) a.d),(IntKind.i64.wrap (0 - (iN (IntKind.i64.wrap ((IntKind.i64.wrap (0 - a.n)) * n)) a.d))),0)))
def oW (a : Ratio) (n : Int) : Prop:=(((ca a) !=0)=false→(((decide (n < (-1073741824))) || (decide (n > 1073741824)))=false→((jQ (IntKind.i64.wrap (a.n * n)) a.d)∧(jQ (IntKind.i64.wrap ((IntKind.i64.wrap (0 - a.n)) * n)) a.d))))
theorem vr {a : Ratio} (h : (ca a !=0)=false) : 1≤a.d:=by
 unfold ca at h
 by_cases hd : a.d < 1
 ·simp [hd] at h
 ·omega
theorem ug (a : Ratio) (n : Int) : oW a n:=fun h _=> by
 have:=vr h
 exact ⟨⟨by omega,by omega,by omega⟩,⟨by omega,by omega,by omega⟩⟩
@[go_sem] def oX : List SV→Option Con:=(pD .ratio fun a=> (pI fun n=> (pE (.det True (.tup [.v (.int .i64 ((dK a n).1)),.v (.int .i64 ((dK a n).2.1)),.v (.int .i64 ((dK a n).2.2))])))))
theorem uh : FnOk Tryz.prog 125 oX:=by
 have hG : ConsOk Tryz.prog (mkG [(152,iU),(153,qr)] []) :=aN (cgc kc (cgc vp cg0)) cg0
 refine a_ [.o,.o,.o] mixed aD hG (fn:=Tryz.f125) (c:=ag Tryz.f125) (by kernel_rfl) (by kernel_rfl) (by kernel_rfl) (by kernel_rfl) (bL fun a=> (cy fun n=> (aV (fun hp=> ?_))))
 dsimp only [aZ] at hp
 have hp:=ug a n
 unfold oW at hp
 refine ⟨Nat.le_of_ble_eq_true rfl,L0,av _,?_⟩
 ·unfold ag Tryz.f125
  try unfold dK
  simp only [go_sem,Nat.reduceBEq,Nat.reduceLeDiff,Nat.reduceLT,decide_true,Nat.reduceAdd,Nat.reduceSub,Nat.reduceMul,Int.reduceLE,Int.reduceLT,Int.reduceToNat,Int.reduceNeg,reduceCtorEq]
  all_goals exact cl
def dL (r : Reach) (v : Int) : Range:=(bif (v==0) then ({ lo:=0,hi:=0} : Range) else ({ lo:=(if (IntKind.i64.wrap (r.evap.lo + (dK r.seep.1 v).1)) < v then (IntKind.i64.wrap (r.evap.lo + (dK r.seep.1 v).1)) else v),hi:=(if (IntKind.i64.wrap (r.evap.hi + (dK r.seep.2 v).2.1)) < v then (IntKind.i64.wrap (r.evap.hi + (dK r.seep.2 v).2.1)) else v)} : Range))
@[go_sem] def k_ : List SV→Option Con:=(pD .reach fun r=> (pI fun v=> (pE (.det True (.agg (cellsOf .range (dL r v)))))))
theorem nG : FnOk Tryz.prog 83 k_:=by
 have hG : ConsOk Tryz.prog (mkG [(125,oX)] []) :=aN (cgc uh cg0) cg0
 refine a_ [.st .range] mixed aD hG (fn:=Tryz.f83) (c:=ag Tryz.f83) (by kernel_rfl) (by kernel_rfl) (by kernel_rfl) (by kernel_rfl) (bL fun r=> (cy fun v=> (aV (fun hp=> ?_))))
 dsimp only [aZ] at hp
 refine ⟨Nat.le_of_ble_eq_true rfl,L0,av _,?_⟩
 ·unfold ag Tryz.f83
  try unfold dL
  simp only [go_sem,Nat.reduceBEq,Nat.reduceLeDiff,Nat.reduceLT,decide_true,Nat.reduceAdd,Nat.reduceSub,Nat.reduceMul,Int.reduceLE,Int.reduceLT,Int.reduceToNat,Int.reduceNeg,reduceCtorEq]
  all_goals exact cl
def dm (r : Reach) (v : Int) : Int×Int:=(bif ((cD r v) !=0) then (0,(cD r v)) else ((IntKind.i64.wrap (v - (dL r v).hi)),0))
@[go_sem] def nH : List SV→Option Con:=(pD .reach fun r=> (pI fun v=> (pE (.det True (.tup [.v (.int .i64 ((dm r v).1)),.v (.int .i64 ((dm r v).2))])))))
theorem sH : FnOk Tryz.prog 45 nH:=by
 have hG : ConsOk Tryz.prog (mkG [(82,kf),(83,k_)] []) :=aN (cgc mH (cgc nG cg0)) cg0
 refine a_ [.o,.o] mixed aD hG (fn:=Tryz.f45) (c:=ag Tryz.f45) (by kernel_rfl) (by kernel_rfl) (by kernel_rfl) (by kernel_rfl) (bL fun r=> (cy fun v=> (aV (fun hp=> ?_))))
 dsimp only [aZ] at hp
 refine ⟨Nat.le_of_ble_eq_true rfl,L0,av _,?_⟩
 ·unfold ag Tryz.f45
  try unfold dm
  simp only [go_sem,Nat.reduceBEq,Nat.reduceLeDiff,Nat.reduceLT,decide_true,Nat.reduceAdd,Nat.reduceSub,Nat.reduceMul,Int.reduceLE,Int.reduceLT,Int.reduceToNat,Int.reduceNeg,reduceCtorEq]
  all_goals exact cl
def iV (v : Int) (r : Reach) : Int:=(IntKind.i64.wrap (v - (dL r v).hi))
@[go_sem] def mI : List SV→Option Con:=(pI fun v=> (pX .reach fun r=> (pE (.det True (.v (.int .i64 (iV v r)))))))
theorem rD : FnOk Tryz.prog 132 mI:=by
 have hG : ConsOk Tryz.prog (mkG [(83,k_)] []) :=aN (cgc nG cg0) cg0
 refine a_ [.o] mixed aD hG (fn:=Tryz.f132) (c:=ag Tryz.f132) (by kernel_rfl) (by kernel_rfl) (by kernel_rfl) (by kernel_rfl) (cy fun v=> (pm fun r=> (aV (fun hp=> ?_))))
 dsimp only [aZ] at hp
 refine ⟨Nat.le_of_ble_eq_true rfl,L0,av _,?_⟩
 ·unfold ag Tryz.f132
  try unfold iV
  simp only [go_sem,Nat.reduceBEq,Nat.reduceLeDiff,Nat.reduceLT,decide_true,Nat.reduceAdd,Nat.reduceSub,Nat.reduceMul,Int.reduceLE,Int.reduceLT,Int.reduceToNat,Int.reduceNeg,reduceCtorEq]
  all_goals exact cl
def cA (v : Int) (r : Reach) (w : Int) : Bool:=(decide ((iV v r) > w))
@[go_sem] def lM : List SV→Option Con:=(pI fun v=> (pXF 132 (pX .reach fun r=> (pE ((pX .int fun w=> (pE (.det True (.v (.bool (cA v r w)))))))))))
theorem qs : FnOk Tryz.prog 164 lM:=by
 have hG : ConsOk Tryz.prog (mkG [(132,mI)] []) :=aN (cgc rD cg0) cg0
 refine a_ [.o] mixed aD hG (fn:=Tryz.f164) (c:=ag Tryz.f164) (by kernel_rfl) (by kernel_rfl) (by kernel_rfl) (by kernel_rfl) (cy fun v=> (DE (pm fun r=> (aV ((pm fun w=> (aV (fun hp=> ?_))))))))
 dsimp only [aZ] at hp
 refine ⟨Nat.le_of_ble_eq_true rfl,L0,av _,?_⟩
 ·unfold ag Tryz.f164
  try unfold cA
  simp only [go_sem,Nat.reduceBEq,Nat.reduceLeDiff,Nat.reduceLT,decide_true,Nat.reduceAdd,Nat.reduceSub,Nat.reduceMul,Int.reduceLE,Int.reduceLT,Int.reduceToNat,Int.reduceNeg,reduceCtorEq]
  all_goals exact cl
@[go_sem] def eQ (r : Reach) (w : Int) (k_0 : Nat) (s_0 : Int×Int) : Int⊕(Int×Int) :=(bif (decide (s_0.1 < s_0.2)) then (bif (!(cA (IntKind.i64.wrap (An .u64 (IntKind.u64.wrap (IntKind.i64.wrap (s_0.1 + s_0.2))) 1)) r w)) then .inr ((IntKind.i64.wrap ((IntKind.i64.wrap (An .u64 (IntKind.u64.wrap (IntKind.i64.wrap (s_0.1 + s_0.2))) 1)) + 1)),s_0.2) else .inr (s_0.1,(IntKind.i64.wrap (An .u64 (IntKind.u64.wrap (IntKind.i64.wrap (s_0.1 + s_0.2))) 1)))) else .inl s_0.1)
def kO (n : Int) (r : Reach) (w : Int) : Int:=(match ak (eQ r w) 64 0 (0,n) with | .inl x_0_0=> x_0_0 | .inr s_0=> default)
def iW (n : Int) (r : Reach) (w : Int) : Prop:=(∀ z_,ak (eQ r w) 64 0 (0,n)≠ .inr z_)
@[go_sem] def oY : List SV→Option Con:=(pI fun n=> (pFn 164 (pXF 132 (pX .reach fun r=> (pE ((pX .int fun w=> (pE ((pE (.det (iW n r w) (.v (.int .i64 (kO n r w))))))))))))))
set_option maxHeartbeats 4000000 in
theorem ui : FnOk Tryz.prog 163 oY:=by
 have hG : ConsOk Tryz.prog (mkG [(164,lM)] []) :=aN (cgc qs cg0) cg0
 refine a_ [.o] mixed aD hG (fn:=Tryz.f163) (c:=ag Tryz.f163) (by kernel_rfl) (by kernel_rfl) (by kernel_rfl) (by kernel_rfl) (cy fun n=> (ql (DE (pm fun r=> (aV ((pm fun w=> (aV ((aV (fun hp=> ?_)))))))))))
 dsimp only [aZ] at hp
 unfold iW at hp
 refine ⟨Nat.le_of_ble_eq_true rfl,(fun id st=> bif Nat.beq id 0 then some (LCV (ρ:=Int) (σ:=(Int×Int)) 0 [] [] (fun k_0 s_0=> ⟨[(1,.fn 164 [] [.ep [.fn 132 [] [.ep (cellsOf .reach r) 0]] 0,.ep [.v (.int .i64 w)] 0]),(5,.v (.int .i64 s_0.1)),(6,.v (.int .i64 s_0.2))],[]⟩) (eQ r w) pT 64 (0,n) (fun _=> .normal) (fun x_0_0=> ⟨[(5,.v (.int .i64 x_0_0))],[]⟩) st) else none),?_,?_⟩
 ·unfold ag Tryz.f163
  simp only [aw,true_and,and_true]
  ·refine HV mixed aD hG (by kernel_rfl) (fun _=> rfl) fun k_0 s_0 _=> ⟨L0,av _,?_⟩
   ·exact HZ
 ·unfold ag Tryz.f163
  try unfold kO
  simp only [go_sem,Nat.reduceBEq,Nat.reduceLeDiff,Nat.reduceLT,decide_true,Nat.reduceAdd,Nat.reduceSub,Nat.reduceMul,Int.reduceLE,Int.reduceLT,Int.reduceToNat,Int.reduceNeg,reduceCtorEq]
  all_goals exact cl
def cr (w : Int) (r : Reach) : Int:=(kO 1073741825 r w)
def kg (w : Int) (r : Reach) : Prop:=(iW 1073741825 r w)
@[go_sem] def nI : List SV→Option Con:=(pI fun w=> (pFn 132 (pX .reach fun r=> (pE ((pE (.det (kg w r) (.v (.int .i64 (cr w r))))))))))
theorem sI : FnOk Tryz.prog 131 nI:=by
 have hG : ConsOk Tryz.prog (mkG [(163,oY)] []) :=aN (cgc ui cg0) cg0
 refine a_ [.o] mixed aD hG (fn:=Tryz.f131) (c:=ag Tryz.f131) (by kernel_rfl) (by kernel_rfl) (by kernel_rfl) (by kernel_rfl) (cy fun w=> (ql (pm fun r=> (aV ((aV (fun hp=> ?_)))))))
 dsimp only [aZ] at hp
 unfold kg at hp
 refine ⟨Nat.le_of_ble_eq_true rfl,L0,av _,?_⟩
 ·unfold ag Tryz.f131
  try unfold cr
  simp only [go_sem,Nat.reduceBEq,Nat.reduceLeDiff,Nat.reduceLT,decide_true,Nat.reduceAdd,Nat.reduceSub,Nat.reduceMul,Int.reduceLE,Int.reduceLT,Int.reduceToNat,Int.reduceNeg,reduceCtorEq]
  all_goals exact cl
def bS (r : Reach) (w : Int) : Int×Bool×Int:=(bif ((cD r w) !=0) then (0,false,(cD r w)) else (bif (decide ((cr (IntKind.i64.wrap (w - 1)) r) > 1073741824)) then (0,false,0) else ((cr (IntKind.i64.wrap (w - 1)) r),true,0)))
def gA (r : Reach) (w : Int) : Prop:=(((cD r w) !=0)=false→(kg (IntKind.i64.wrap (w - 1)) r))
@[go_sem] def iX : List SV→Option Con:=(pD .reach fun r=> (pI fun w=> (pE (.det (gA r w) (.tup [.v (.int .i64 ((bS r w).1)),.v (.bool ((bS r w).2.1)),.v (.int .i64 ((bS r w).2.2))])))))
theorem nJ : FnOk Tryz.prog 99 iX:=by
 have hG : ConsOk Tryz.prog (mkG [(82,kf),(131,nI)] []) :=aN (cgc mH (cgc sI cg0)) cg0
 refine a_ [.o,.o,.o] mixed aD hG (fn:=Tryz.f99) (c:=ag Tryz.f99) (by kernel_rfl) (by kernel_rfl) (by kernel_rfl) (by kernel_rfl) (bL fun r=> (cy fun w=> (aV (fun hp=> ?_))))
 dsimp only [aZ] at hp
 unfold gA at hp
 refine ⟨Nat.le_of_ble_eq_true rfl,L0,av _,?_⟩
 ·unfold ag Tryz.f99
  try unfold bS
  simp only [go_sem,Nat.reduceBEq,Nat.reduceLeDiff,Nat.reduceLT,decide_true,Nat.reduceAdd,Nat.reduceSub,Nat.reduceMul,Int.reduceLE,Int.reduceLT,Int.reduceToNat,Int.reduceNeg,reduceCtorEq]
  all_goals exact cl
def az (x : Reach) (w : Int) : Int×Bool:=(bif ((w==0) || (decide (w > 1073741824))) then (0,(w==0)) else (bif (!(bS x w).2.1) then (0,false) else ((if (bS x w).1 < x.siphon then x.siphon else (bS x w).1),true)))
def ga (x : Reach) (w : Int) : Prop:=(((w==0) || (decide (w > 1073741824)))=false→(gA x w))
@[go_sem] def lN : List SV→Option Con:=(pD .reach fun x=> (pI fun w=> (pE (.det (ga x w) (.tup [.v (.int .i64 ((az x w).1)),.v (.bool ((az x w).2))])))))
theorem qt : FnOk Tryz.prog 96 lN:=by
 have hG : ConsOk Tryz.prog (mkG [(99,iX)] []) :=aN (cgc nJ cg0) cg0
 refine a_ [.o,.o] mixed aD hG (fn:=Tryz.f96) (c:=ag Tryz.f96) (by kernel_rfl) (by kernel_rfl) (by kernel_rfl) (by kernel_rfl) (bL fun x=> (cy fun w=> (aV (fun hp=> ?_))))
 dsimp only [aZ] at hp
 unfold ga at hp
 refine ⟨Nat.le_of_ble_eq_true rfl,L0,av _,?_⟩
 ·unfold ag Tryz.f96
  try unfold az
  simp only [go_sem,Nat.reduceBEq,Nat.reduceLeDiff,Nat.reduceLT,decide_true,Nat.reduceAdd,Nat.reduceSub,Nat.reduceMul,Int.reduceLE,Int.reduceLT,Int.reduceToNat,Int.reduceNeg,reduceCtorEq]
  all_goals exact cl
end Go.Sx
end
section
namespace Go.Sx
open Go.Proofs
set_option maxRecDepth 100000
set_option linter.unusedSimpArgs false
abbrev gu : SV:= .ls [.fn 79 [] [],.fn 80 [] [],.fn 81 [] []]
open Classical in
noncomputable def jR : List SV→Option Con:=fun l=> if l=[gu] then some (.det True (.fn 121 [] [.ep [gu] 0])) else none
theorem vt : FnOk Tryz.prog 78 jR:=by
 have hG : ConsOk Tryz.prog (mkG [] []) :=aN (by simp) (by simp)
 refine a_ [.o] mixed aD hG (fn:=Tryz.f78) (c:=ag Tryz.f78) (by kernel_rfl) (by kernel_rfl) (by kernel_rfl) (by kernel_rfl) fun l con h hp=> ?_
 unfold jR at h
 split at h
 ·rename_i hl
  subst hl
  cases h
  refine ⟨Nat.le_of_ble_eq_true rfl,L0,by unfold ag Tryz.f78;simp only [aw,and_self],?_⟩
  unfold ag Tryz.f78
  simp only [go_sem,gu,true_imp_iff,Nat.reduceBEq,Nat.reduceLeDiff,Nat.reduceAdd,Nat.reduceSub,Nat.reduceMul,true_and,and_true,implies_true,List.map_cons,List.map_nil]
  rfl
 ·cases h
def b9 : List SV→Option Con:=pE (.det True (.fn 121 [] [.ep [gu] 0]))
theorem kh : FnOk Tryz.prog 44 b9:=by
 have hG : ConsOk Tryz.prog (mkG [(78,jR)] []) :=aN (by
  intro x hx
  simp only [List.mem_cons,List.not_mem_nil,or_false] at hx
  rcases hx with rfl
  exact vt) (by simp)
 refine a_ [.o] mixed aD hG (fn:=Tryz.f44) (c:=ag Tryz.f44) (by kernel_rfl) (by kernel_rfl) (by kernel_rfl) (by kernel_rfl) fun l con h hp=> ?_
 unfold b9 at h
 obtain ⟨rfl,rfl⟩ :=iJ h
 refine ⟨Nat.le_of_ble_eq_true rfl,L0,by unfold ag Tryz.f44;simp only [aw,and_self],?_⟩
 unfold ag Tryz.f44
 simp only [go_sem,jR,gu,true_imp_iff,Nat.reduceBEq,Nat.reduceLeDiff,Nat.reduceAdd,Nat.reduceSub,Nat.reduceMul,true_and,and_true,implies_true,List.map_cons,List.map_nil,if_true]
 rfl
def kl (k : Nat) (x : Order) : Int:=match k with | 0=> ik x | 1=> ke x | _=> il x
def oz (a b : Order) : Nat→Unit→Int⊕Unit:=fun k _=> bif (aR (kl k a) (kl k b) !=0) then .inl (aR (kl k a) (kl k b)) else .inr ()
def ay (a b : Order) : Int:=match ak (oz a b) 3 0 () with | .inl x=> x | .inr _=> 0
open Classical in
noncomputable def eR : List SV→Option Con:=pD .order fun a=> pD .order fun b=> fun l=> if l=[.ep [gu] 0] then some (.det True (.i (ay a b))) else none
set_option maxHeartbeats 1000000 in
theorem mJ : FnOk Tryz.prog 121 eR:=by
 have hG : ConsOk Tryz.prog (mkG [(70,di),(79,gn),(80,iL),(81,gq)] []) :=aN (by
  intro x hx
  simp only [List.mem_cons,List.not_mem_nil,or_false] at hx
  rcases hx with rfl | rfl | rfl | rfl
  ·exact d9
  ·exact nC
  ·exact qo
  ·exact nD) (by simp)
 refine a_ [.o] mixed aD hG (fn:=Tryz.f121) (c:=ag Tryz.f121) (by kernel_rfl) (by kernel_rfl) (by kernel_rfl) (by kernel_rfl) fun l con h hp=> ?_
 unfold eR at h
 obtain ⟨a,l0,rfl,h0⟩ :=k9 h
 obtain ⟨b,l1,rfl,h1⟩ :=k9 h0
 split at h1
 rotate_left
 ·cases h1
 rename_i hl
 subst hl
 cases h1
 clear h h0
 obtain ⟨ah,ai,al,ao⟩ :=a
 obtain ⟨bh,bi,bl,bo⟩ :=b
 refine ⟨Nat.le_of_ble_eq_true rfl,(fun id st=> bif Nat.beq id 0 then some (LC (ρ:=Int) (σ:=Unit) (lk 3 st.t= .ptr 0 0∧lk 4 st.t= .ptr 1 0∧lk 9 st.t=gu∧lk 10 st.t= .i 3∧lk 11 st.t= .i 0∧st.h=[.cells (cellsOf .order ⟨ah,ai,al,ao⟩),.cells (cellsOf .order ⟨bh,bi,bl,bo⟩)]) (ak (oz ⟨ah,ai,al,ao⟩ ⟨bh,bi,bl,bo⟩) 3 0 ()) (fun _=> .ret) (fun x=> ⟨[(5,.i x)],[.dead,.dead]⟩) (fun _=> ⟨[],[.dead,.dead]⟩)) else none),?_,?_⟩
 ·unfold ag Tryz.f121
  simp only [aw,true_and,and_true]
  refine wd mixed aD hG (by kernel_rfl) fun st lc hC hp=> ?_
  simp only [go_sem,Nat.reduceBEq,Option.some.injEq] at hC
  subst hC
  obtain ⟨t,h⟩ :=st
  dsimp only [LC] at hp
  obtain ⟨e1,e2,e3,e4,e5,rfl⟩ :=hp
  refine ⟨_,_,_,oz ⟨ah,ai,al,ao⟩ ⟨bh,bi,bl,bo⟩,fun _ _=> True,3,(),_,_,_,(fun k _=> ⟨[(3,.ptr 0 0),(4,.ptr 1 0),(9,gu),(10,.i 3),(11,.i (k : Int))],[.cells (cellsOf .order ⟨ah,ai,al,ao⟩),.cells (cellsOf .order ⟨bh,bi,bl,bo⟩)]⟩),[0,1],rfl,kL _ _ _ fun _ _ _ _=> trivial,Nat.le_refl _,?_,fun k s hk hpk=> ⟨L0,?_,?_⟩⟩
  ·simp only [go_sem,e1,e2,e3,e4,e5,gu,Nat.reduceBEq,Nat.reduceLeDiff,Nat.reduceAdd,true_and,and_true]
   all_goals (first | done | decide | (repeat' (first | refine And.intro ?_ ?_ | rfl | decide)))
  ·simp only [aw,and_self,true_and,and_true]
  ·have hk4 : k=0∨k=1∨k=2∨k=3:=by omega
   have hw0 : IntKind.i64.wrap ((0 : Int) + 1)=((0 + 1 : Nat) : Int) :=by decide
   have hw1 : IntKind.i64.wrap ((1 : Int) + 1)=((1 + 1 : Nat) : Int) :=by decide
   have hw2 : IntKind.i64.wrap ((2 : Int) + 1)=((2 + 1 : Nat) : Int) :=by decide
   rcases hk4 with rfl | rfl | rfl | rfl
   all_goals
    simp only [go_sem,di,gn,iL,gq,gu,oz,kl,true_imp_iff,false_imp_iff,Bool.false_eq_true,Int.toNat_natCast,Int.toNat_zero,Nat.reduceBEq,Nat.reduceLeDiff,Nat.reduceAdd,Nat.reduceSub,Nat.reduceMul,Nat.reduceLT,Int.reduceLE,Int.reduceLT,Int.reduceToNat,Int.reduceNeg,true_and,and_true,and_self,implies_true,forall_const,reduceCtorEq,Int.cast_ofNat_Int]
   all_goals (first | done | (repeat' (first | with_reducible refine And.intro ?_ ?_ | ((with_reducible show _≠_);first | assumption | omega | (simp_all;done) | grind) | with_reducible intro _)) <;> (first | done | assumption | rfl | omega | decide | (simp only [*,cond_true,cond_false,go_sem,true_imp_iff,false_imp_iff,Bool.false_eq_true,Int.toNat_natCast,Int.toNat_zero,Nat.reduceBEq,Nat.reduceLeDiff,Nat.reduceAdd,Nat.reduceSub,Nat.reduceMul,Int.reduceLE,Int.reduceLT,Int.reduceToNat,Int.reduceNeg,true_and,and_true,and_self,implies_true,forall_const,reduceCtorEq];done) | (simp only [*,cond_true,cond_false,go_sem,true_imp_iff,false_imp_iff,Bool.false_eq_true,Int.toNat_natCast,Int.toNat_zero,Nat.reduceBEq,Nat.reduceLeDiff,Nat.reduceAdd,Nat.reduceSub,Nat.reduceMul,Int.reduceLE,Int.reduceLT,Int.reduceToNat,Int.reduceNeg,true_and,and_true,and_self,implies_true,forall_const,reduceCtorEq];(repeat' (first | with_reducible refine And.intro ?_ ?_ | ((with_reducible show _≠_);first | assumption | omega | (simp_all;done) | grind) | with_reducible intro _)) <;> (first | done | assumption | rfl | omega | decide))))
   all_goals trace_state
 ·unfold ag Tryz.f121
  unfold ay
  simp only [go_sem,gu,true_imp_iff,false_imp_iff,Bool.false_eq_true,Nat.reduceBEq,Nat.reduceLeDiff,Nat.reduceAdd,Nat.reduceSub,Nat.reduceMul,true_and,and_true,implies_true,sz,List.map_cons,List.map_nil]
  all_goals (first | done | (repeat' (first | with_reducible refine And.intro ?_ ?_ | ((with_reducible show _≠_);first | assumption | omega | (simp_all;done) | grind) | with_reducible intro _)) <;> (first | done | assumption | rfl | omega | (simp only [*,cond_true,cond_false,Bool.not_true,Bool.not_false,go_sem,true_imp_iff,false_imp_iff,Bool.false_eq_true,Int.toNat_natCast,Int.toNat_zero,Nat.reduceBEq,Nat.reduceLeDiff,Nat.reduceAdd,Nat.reduceSub,Nat.reduceMul,Int.reduceLE,Int.reduceLT,Int.reduceToNat,Int.reduceNeg,true_and,and_true,and_self,implies_true,forall_const,reduceCtorEq];done) | (simp only [*,cond_true,cond_false,Bool.not_true,Bool.not_false,go_sem,true_imp_iff,false_imp_iff,Bool.false_eq_true,Int.toNat_natCast,Int.toNat_zero,Nat.reduceBEq,Nat.reduceLeDiff,Nat.reduceAdd,Nat.reduceSub,Nat.reduceMul,Int.reduceLE,Int.reduceLT,Int.reduceToNat,Int.reduceNeg,true_and,and_true,and_self,implies_true,forall_const,reduceCtorEq];(repeat' (first | with_reducible refine And.intro ?_ ?_ | ((with_reducible show _≠_);first | assumption | omega | (simp_all;done) | grind) | with_reducible intro _)) <;> (first | done | assumption | rfl | omega | (simp_all;done))) | (simp_all [okI];done) | grind))
attribute [go_sem] b9 eR
end Go.Sx
end
section
namespace Go.Sx
open Go.Proofs
set_option maxRecDepth 100000
set_option linter.unusedSimpArgs false
theorem zc {p : Prop} (h : p:=by (first | done | (repeat' (first | with_reducible refine And.intro ?_ ?_ | ((with_reducible show _≠_);first | assumption | omega | (simp_all [am,aC];done) | grind) | with_reducible intro _)) <;> (first | done | exact Empty.elim ‹Empty› | assumption | rfl | omega | decide | exact fk [0] | (simp only [*,cond_true,cond_false,Bool.not_true,Bool.not_false,go_sem,Nat.reduceBEq,Nat.reduceLeDiff,Nat.reduceLT,decide_true,Nat.reduceAdd,Nat.reduceSub,Nat.reduceMul,Int.reduceLE,Int.reduceLT,Int.reduceToNat,Int.reduceNeg,reduceCtorEq];done) | (simp only [*,cond_true,cond_false,Bool.not_true,Bool.not_false,go_sem,Nat.reduceBEq,Nat.reduceLeDiff,Nat.reduceLT,decide_true,Nat.reduceAdd,Nat.reduceSub,Nat.reduceMul,Int.reduceLE,Int.reduceLT,Int.reduceToNat,Int.reduceNeg,reduceCtorEq];(repeat' (first | with_reducible refine And.intro ?_ ?_ | ((with_reducible show _≠_);first | assumption | omega | (simp_all [am,aC];done) | grind) | with_reducible intro _)) <;> (first | done | assumption | rfl | omega | decide | exact fk [0] | (simp_all [am,aC];done))) | (simp_all [okI,am,aC];done) | (simp_all [am,aC];(first | done | exact fk2 [0])) | exact fk2 [0]))) : p:=h
theorem zd {p : Prop} (h : p:=by (first | done | (repeat' (first | with_reducible refine And.intro ?_ ?_ | ((with_reducible show _≠_);first | assumption | omega | (simp_all [am,aC];done) | grind) | with_reducible intro _)) <;> (first | done | exact Empty.elim ‹Empty› | assumption | rfl | omega | decide | exact fk [] | (simp only [*,cond_true,cond_false,Bool.not_true,Bool.not_false,go_sem,Nat.reduceBEq,Nat.reduceLeDiff,Nat.reduceLT,decide_true,Nat.reduceAdd,Nat.reduceSub,Nat.reduceMul,Int.reduceLE,Int.reduceLT,Int.reduceToNat,Int.reduceNeg,reduceCtorEq];done) | (simp only [*,cond_true,cond_false,Bool.not_true,Bool.not_false,go_sem,Nat.reduceBEq,Nat.reduceLeDiff,Nat.reduceLT,decide_true,Nat.reduceAdd,Nat.reduceSub,Nat.reduceMul,Int.reduceLE,Int.reduceLT,Int.reduceToNat,Int.reduceNeg,reduceCtorEq];(repeat' (first | with_reducible refine And.intro ?_ ?_ | ((with_reducible show _≠_);first | assumption | omega | (simp_all [am,aC];done) | grind) | with_reducible intro _)) <;> (first | done | assumption | rfl | omega | decide | exact fk [] | (simp_all [am,aC];done))) | (simp_all [okI,am,aC];done) | (simp_all [am,aC];(first | done | exact fk2 [])) | exact fk2 []))) : p:=h
theorem zf {p : Prop} (h : p:=by simp only [go_sem,Nat.reduceBEq,Nat.reduceLeDiff,Nat.reduceLT,decide_true,Nat.reduceAdd,Nat.reduceSub,Nat.reduceMul,Int.reduceLE,Int.reduceLT,Int.reduceToNat,Int.reduceNeg,reduceCtorEq,hc,hw];all_goals exact zc) : p:=h
theorem zg {p : Prop} (h : p:=by simp only [go_sem,Nat.reduceBEq,Nat.reduceLeDiff,Nat.reduceLT,decide_true,Nat.reduceAdd,Nat.reduceSub,Nat.reduceMul,Int.reduceLE,Int.reduceLT,Int.reduceToNat,Int.reduceNeg,reduceCtorEq,hc];all_goals exact zc) : p:=h
theorem H0 {p : Prop} (h : p:=by simp only [go_sem,Nat.reduceBEq,Nat.reduceLeDiff,Nat.reduceLT,decide_true,Nat.reduceAdd,Nat.reduceSub,Nat.reduceMul,Int.reduceLE,Int.reduceLT,Int.reduceToNat,Int.reduceNeg,reduceCtorEq,hc,hw];all_goals exact zd) : p:=h
theorem H1 {p : Prop} (h : p:=by simp only [go_sem,Nat.reduceBEq,Nat.reduceLeDiff,Nat.reduceLT,decide_true,Nat.reduceAdd,Nat.reduceSub,Nat.reduceMul,Int.reduceLE,Int.reduceLT,Int.reduceToNat,Int.reduceNeg,reduceCtorEq,hc];all_goals exact zd) : p:=h
@[go_sem] def dF (a0 : District) (a1 : List Order) (k_0 : Nat) (s_0 : Unit) : Unit⊕Unit:=(bif (a1.getD k_0 (default : Order)).outlet then (bif (((((((decide ((a1.getD k_0 (default : Order)).hour < 0)) || (decide ((a1.getD k_0 (default : Order)).hour≥a0.hours))) || (decide ((a1.getD k_0 (default : Order)).index < 0))) || (decide ((a1.getD k_0 (default : Order)).index≥(a0.farms.length : Int)))) || (decide ((a1.getD k_0 (default : Order)).litres < 1))) || (decide ((a1.getD k_0 (default : Order)).litres > 1073741824))) || ((decide ((k_0 : Int) > 0)) && (decide ((ay (a1.getD (Int.toNat (IntKind.i64.wrap ((k_0 : Int) - 1))) (default : Order)) (a1.getD k_0 (default : Order)))≥0)))) then .inl () else .inr ()) else (bif (((((((decide ((a1.getD k_0 (default : Order)).hour < 0)) || (decide ((a1.getD k_0 (default : Order)).hour≥a0.hours))) || (decide ((a1.getD k_0 (default : Order)).index < 0))) || (decide ((a1.getD k_0 (default : Order)).index≥(a0.reaches.length : Int)))) || (decide ((a1.getD k_0 (default : Order)).litres < 1))) || (decide ((a1.getD k_0 (default : Order)).litres > 1073741824))) || ((decide ((k_0 : Int) > 0)) && (decide ((ay (a1.getD (Int.toNat (IntKind.i64.wrap ((k_0 : Int) - 1))) (default : Order)) (a1.getD k_0 (default : Order)))≥0)))) then .inl () else .inr ()))
def fb (a0 : District) (a1 : List Order) (k_0 : Nat) (s_0 : Unit) : Prop:=(a0.reaches.length≤bC→(((a1.getD k_0 (default : Order)).outlet=true→(a0.farms.length≤bC→(((((((decide ((a1.getD k_0 (default : Order)).hour < 0)) || (decide ((a1.getD k_0 (default : Order)).hour≥a0.hours))) || (decide ((a1.getD k_0 (default : Order)).index < 0))) || (decide ((a1.getD k_0 (default : Order)).index≥(a0.farms.length : Int)))) || (decide ((a1.getD k_0 (default : Order)).litres < 1))) || (decide ((a1.getD k_0 (default : Order)).litres > 1073741824)))=false→((decide ((k_0 : Int) > 0))=true→(0≤(IntKind.i64.wrap ((k_0 : Int) - 1))∧(IntKind.i64.wrap ((k_0 : Int) - 1)) < (a1.length : Int))))))∧((a1.getD k_0 (default : Order)).outlet=false→(((((((decide ((a1.getD k_0 (default : Order)).hour < 0)) || (decide ((a1.getD k_0 (default : Order)).hour≥a0.hours))) || (decide ((a1.getD k_0 (default : Order)).index < 0))) || (decide ((a1.getD k_0 (default : Order)).index≥(a0.reaches.length : Int)))) || (decide ((a1.getD k_0 (default : Order)).litres < 1))) || (decide ((a1.getD k_0 (default : Order)).litres > 1073741824)))=false→((decide ((k_0 : Int) > 0))=true→(0≤(IntKind.i64.wrap ((k_0 : Int) - 1))∧(IntKind.i64.wrap ((k_0 : Int) - 1)) < (a1.length : Int)))))))
def bt (a0 : District) (a1 : List Order) : Int:=(bif ((bn a0) !=0) then (bn a0) else (bif (decide ((a1.length : Int) > 4096)) then 2 else (match ak (dF a0 a1) a1.length 0 () with | .inl x_0_0=> 220 | .inr s_0=> 0)))
def fm (a0 : District) (a1 : List Order) : Prop:=(((bn a0) !=0)=false→(a1.length≤bC→((decide ((a1.length : Int) > 4096))=false→(a1.length≤bC→okI (dF a0 a1) (fb a0 a1) a1.length 0 ()))))
@[go_sem] def jy : List SV→Option Con:=(pD .district fun a0=> (pR .order fun a1=> (pE (.det (fm a0 a1) (.v (.int .i64 (bt a0 a1)))))))
set_option maxHeartbeats 4000000 in
theorem lO : FnOk Tryz.prog 25 jy:=by
 have hG : ConsOk Tryz.prog (mkG [(42,fun l=> ij (dw [.st .district] l)),(44,b9),(121,eR)] []) :=aN (cgc (jx.norm [.st .district]) (cgc kh (cgc mJ cg0))) cg0
 refine a_ [.o] mixed aD hG (fn:=Tryz.f25) (c:=ag Tryz.f25) (by kernel_rfl) (by kernel_rfl) (by kernel_rfl) (by kernel_rfl) (bL fun a0=> (df fun a1=> (aV (fun hp=> ?_))))
 dsimp only [aZ] at hp
 unfold fm at hp
 refine ⟨Nat.le_of_ble_eq_true rfl,(fun id st=> bif Nat.beq id 0 then some (LCR (ρ:=Unit) (σ:=Unit) 1 [] [0] (fun k_0 s_0=> ⟨[(1,.rs .order a1),(2,.ptr 0 0),(5,.fn 121 [] [.ep [.ls [.fn 79 [] [],.fn 80 [] [],.fn 81 [] []]] 0]),(18,.rs .order a1),(19,.v (.int .i64 (a1.length : Int))),(20,.v (.int .i64 (k_0 : Int)))],[.cells (cellsOf .district a0)]⟩) (dF a0 a1) (fb a0 a1) a1.length () (a1.length≤bC) (fun _=> .ret) (fun x_0_0=> ⟨[(4,.v (.int .i64 220))],[.dead]⟩) st) else none),?_,?_⟩
 ·unfold ag Tryz.f25
  simp only [aw,true_and,and_true]
  ·refine bY mixed aD hG (by kernel_rfl) (fun _=> rfl) (a1.length : Int) rfl jm (fun hb0 k_0 s_0 hlt0 hq0 hw hc=> ⟨L0,av _,?_⟩) (fun hb0 s_0 hc=> ?_)
   ·unfold fb at hq0
    try simp only [hw,Int.toNat_natCast] at hq0
    exact zf
   ·exact zg
 ·unfold ag Tryz.f25
  try unfold bt
  simp only [go_sem,Nat.reduceBEq,Nat.reduceLeDiff,Nat.reduceLT,decide_true,Nat.reduceAdd,Nat.reduceSub,Nat.reduceMul,Int.reduceLE,Int.reduceLT,Int.reduceToNat,Int.reduceNeg,reduceCtorEq,b9,eR,if_true]
  all_goals exact cl
def bB (d : District) (l_ : List Order) : Int:=(bif (((bt d l_) ==0) && (decide ((IntKind.i64.wrap ((d.reaches.length : Int) * d.hours)) > 1024))) then 2 else (bt d l_))
def gb (d : District) (l_ : List Order) : Prop:=(fm d l_)
@[go_sem] def lP : List SV→Option Con:=(pD .district fun d=> (pR .order fun l_=> (pE (.det (gb d l_) (.v (.int .i64 (bB d l_)))))))
theorem qu : FnOk Tryz.prog 93 lP:=by
 have hG : ConsOk Tryz.prog (mkG [(25,fun l=> jy (dw [.st .district,.sl .order] l))] []) :=aN (cgc (lO.norm [.st .district,.sl .order]) cg0) cg0
 refine a_ [.o] mixed aD hG (fn:=Tryz.f93) (c:=ag Tryz.f93) (by kernel_rfl) (by kernel_rfl) (by kernel_rfl) (by kernel_rfl) (bL fun d=> (df fun l_=> (aV (fun hp=> ?_))))
 dsimp only [aZ] at hp
 unfold gb at hp
 refine ⟨Nat.le_of_ble_eq_true rfl,L0,av _,?_⟩
 ·unfold ag Tryz.f93
  try unfold bB
  simp only [go_sem,Nat.reduceBEq,Nat.reduceLeDiff,Nat.reduceLT,decide_true,Nat.reduceAdd,Nat.reduceSub,Nat.reduceMul,Int.reduceLE,Int.reduceLT,Int.reduceToNat,Int.reduceNeg,reduceCtorEq]
  all_goals exact cl
@[go_sem] def jz (l_ : List Int) (k_0 : Nat) (s_0 : Unit) : Int⊕Unit:=(bif ((l_.getD k_0 (0 : Int)) !=0) then .inl (l_.getD k_0 (0 : Int)) else .inr ())
def io (l_ : List Int) : Int:=(match ak (jz l_) l_.length 0 () with | .inl x_0_0=> x_0_0 | .inr s_0=> 0)
@[go_sem] def nK : List SV→Option Con:=(pR .int fun l_=> (pE (.det True (.v (.int .i64 (io l_))))))
set_option maxHeartbeats 4000000 in
theorem sJ : FnOk Tryz.prog 77 nK:=by
 have hG : ConsOk Tryz.prog (mkG [] []) :=aN cg0 cg0
 refine a_ [.o] mixed aD hG (fn:=Tryz.f77) (c:=ag Tryz.f77) (by kernel_rfl) (by kernel_rfl) (by kernel_rfl) (by kernel_rfl) (df fun l_=> (aV (fun hp=> ?_)))
 dsimp only [aZ] at hp
 refine ⟨Nat.le_of_ble_eq_true rfl,(fun id st=> bif Nat.beq id 0 then some (LCR (ρ:=Int) (σ:=Unit) 0 [] [] (fun k_0 s_0=> ⟨[(5,.rs .int l_),(6,.v (.int .i64 (l_.length : Int))),(7,.v (.int .i64 (k_0 : Int)))],[]⟩) (jz l_) pT l_.length () (l_.length≤bC) (fun _=> .ret) (fun x_0_0=> ⟨[(2,.v (.int .i64 x_0_0))],[]⟩) st) else none),?_,?_⟩
 ·unfold ag Tryz.f77
  simp only [aw,true_and,and_true]
  ·refine bY mixed aD hG (by kernel_rfl) (fun _=> rfl) (l_.length : Int) rfl jm (fun hb0 k_0 s_0 hlt0 _ hw hc=> ⟨L0,av _,?_⟩) (fun hb0 s_0 hc=> ?_)
   ·exact H0
   ·exact H1
 ·unfold ag Tryz.f77
  try unfold io
  simp only [go_sem,Nat.reduceBEq,Nat.reduceLeDiff,Nat.reduceLT,decide_true,Nat.reduceAdd,Nat.reduceSub,Nat.reduceMul,Int.reduceLE,Int.reduceLT,Int.reduceToNat,Int.reduceNeg,reduceCtorEq]
  all_goals exact cl
def gc (a : Claim) (b : Claim) : Int:=(io ([(aR a.hour b.hour),(aR a.rank b.rank),(aR a.right b.right),(aR a.farm b.farm)]))
@[go_sem] def nL : List SV→Option Con:=(pD .claim fun a=> (pD .claim fun b=> (pE (.det True (.v (.int .i64 (gc a b)))))))
theorem sK : FnOk Tryz.prog 43 nL:=by
 have hG : ConsOk Tryz.prog (mkG [(70,di),(77,fun l=> nK (dw [.sl .int] l))] []) :=aN (cgc d9 (cgc (sJ.norm [.sl .int]) cg0)) cg0
 refine a_ [.o] mixed aD hG (fn:=Tryz.f43) (c:=ag Tryz.f43) (by kernel_rfl) (by kernel_rfl) (by kernel_rfl) (by kernel_rfl) (bL fun a=> (bL fun b=> (aV (fun hp=> ?_))))
 dsimp only [aZ] at hp
 refine ⟨Nat.le_of_ble_eq_true rfl,L0,av _,?_⟩
 ·unfold ag Tryz.f43
  try unfold gc
  simp only [go_sem,Nat.reduceBEq,Nat.reduceLeDiff,Nat.reduceLT,decide_true,Nat.reduceAdd,Nat.reduceSub,Nat.reduceMul,Int.reduceLE,Int.reduceLT,Int.reduceToNat,Int.reduceNeg,reduceCtorEq]
  all_goals exact cl
@[go_sem] def dX (a0 : District) (a1 : List Claim) (k_0 : Nat) (s_0 : Unit) : Unit⊕Unit:=(bif ((((!((((((((decide ((a1.getD k_0 (default : Claim)).right≥0)) && (decide ((a1.getD k_0 (default : Claim)).right < (a0.rights.length : Int)))) && (decide ((a1.getD k_0 (default : Claim)).farm≥0))) && (decide ((a1.getD k_0 (default : Claim)).farm < (a0.farms.length : Int)))) && (decide ((a1.getD k_0 (default : Claim)).hour≥0))) && (decide ((a1.getD k_0 (default : Claim)).hour < a0.hours))) && (decide ((a1.getD k_0 (default : Claim)).litres≥1))) && (decide ((a1.getD k_0 (default : Claim)).litres≤1073741824)))) || ((a0.rights.getD (Int.toNat ((a1.getD k_0 (default : Claim)).right)) (default : Right)).kind !=1)) || ((a0.rights.getD (Int.toNat ((a1.getD k_0 (default : Claim)).right)) (default : Right)).rank !=(a1.getD k_0 (default : Claim)).rank)) || ((decide ((k_0 : Int) > 0)) && (decide ((gc (a1.getD (Int.toNat (IntKind.i64.wrap ((k_0 : Int) - 1))) (default : Claim)) (a1.getD k_0 (default : Claim)))≥0)))) then .inl () else .inr ())
def fE (a0 : District) (a1 : List Claim) (k_0 : Nat) (s_0 : Unit) : Prop:=(((!((((((((decide ((a1.getD k_0 (default : Claim)).right≥0)) && (decide ((a1.getD k_0 (default : Claim)).right < (a0.rights.length : Int)))) && (decide ((a1.getD k_0 (default : Claim)).farm≥0))) && (decide ((a1.getD k_0 (default : Claim)).farm < (a0.farms.length : Int)))) && (decide ((a1.getD k_0 (default : Claim)).hour≥0))) && (decide ((a1.getD k_0 (default : Claim)).hour < a0.hours))) && (decide ((a1.getD k_0 (default : Claim)).litres≥1))) && (decide ((a1.getD k_0 (default : Claim)).litres≤1073741824))))=false→(0≤(a1.getD k_0 (default : Claim)).right∧(a1.getD k_0 (default : Claim)).right < (a0.rights.length : Int)))∧((((!((((((((decide ((a1.getD k_0 (default : Claim)).right≥0)) && (decide ((a1.getD k_0 (default : Claim)).right < (a0.rights.length : Int)))) && (decide ((a1.getD k_0 (default : Claim)).farm≥0))) && (decide ((a1.getD k_0 (default : Claim)).farm < (a0.farms.length : Int)))) && (decide ((a1.getD k_0 (default : Claim)).hour≥0))) && (decide ((a1.getD k_0 (default : Claim)).hour < a0.hours))) && (decide ((a1.getD k_0 (default : Claim)).litres≥1))) && (decide ((a1.getD k_0 (default : Claim)).litres≤1073741824)))) || ((a0.rights.getD (Int.toNat ((a1.getD k_0 (default : Claim)).right)) (default : Right)).kind !=1))=false→(0≤(a1.getD k_0 (default : Claim)).right∧(a1.getD k_0 (default : Claim)).right < (a0.rights.length : Int)))∧((((!((((((((decide ((a1.getD k_0 (default : Claim)).right≥0)) && (decide ((a1.getD k_0 (default : Claim)).right < (a0.rights.length : Int)))) && (decide ((a1.getD k_0 (default : Claim)).farm≥0))) && (decide ((a1.getD k_0 (default : Claim)).farm < (a0.farms.length : Int)))) && (decide ((a1.getD k_0 (default : Claim)).hour≥0))) && (decide ((a1.getD k_0 (default : Claim)).hour < a0.hours))) && (decide ((a1.getD k_0 (default : Claim)).litres≥1))) && (decide ((a1.getD k_0 (default : Claim)).litres≤1073741824)))) || ((a0.rights.getD (Int.toNat ((a1.getD k_0 (default : Claim)).right)) (default : Right)).kind !=1)) || ((a0.rights.getD (Int.toNat ((a1.getD k_0 (default : Claim)).right)) (default : Right)).rank !=(a1.getD k_0 (default : Claim)).rank))=false→((decide ((k_0 : Int) > 0))=true→(0≤(IntKind.i64.wrap ((k_0 : Int) - 1))∧(IntKind.i64.wrap ((k_0 : Int) - 1)) < (a1.length : Int))))))
def aY (a0 : District) (a1 : List Claim) : Int:=(bif ((bn a0) !=0) then (bn a0) else (bif (decide ((a1.length : Int) > 4096)) then 2 else (match ak (dX a0 a1) a1.length 0 () with | .inl x_0_0=> 260 | .inr s_0=> 0)))
def fQ (a0 : District) (a1 : List Claim) : Prop:=(((bn a0) !=0)=false→(a1.length≤bC→((decide ((a1.length : Int) > 4096))=false→(a1.length≤bC→okI (dX a0 a1) (fE a0 a1) a1.length 0 ()))))
@[go_sem] def km : List SV→Option Con:=(pD .district fun a0=> (pR .claim fun a1=> (pE (.det (fQ a0 a1) (.v (.int .i64 (aY a0 a1)))))))
set_option maxHeartbeats 4000000 in
theorem mK : FnOk Tryz.prog 24 km:=by
 have hG : ConsOk Tryz.prog (mkG [(42,fun l=> ij (dw [.st .district] l)),(43,nL)] []) :=aN (cgc (jx.norm [.st .district]) (cgc sK cg0)) cg0
 refine a_ [.o] mixed aD hG (fn:=Tryz.f24) (c:=ag Tryz.f24) (by kernel_rfl) (by kernel_rfl) (by kernel_rfl) (by kernel_rfl) (bL fun a0=> (df fun a1=> (aV (fun hp=> ?_))))
 dsimp only [aZ] at hp
 unfold fQ at hp
 refine ⟨Nat.le_of_ble_eq_true rfl,(fun id st=> bif Nat.beq id 0 then some (LCR (ρ:=Unit) (σ:=Unit) 1 [] [0] (fun k_0 s_0=> ⟨[(1,.rs .claim a1),(2,.ptr 0 0),(16,.rs .claim a1),(17,.v (.int .i64 (a1.length : Int))),(18,.v (.int .i64 (k_0 : Int)))],[.cells (cellsOf .district a0)]⟩) (dX a0 a1) (fE a0 a1) a1.length () (a1.length≤bC) (fun _=> .ret) (fun x_0_0=> ⟨[(4,.v (.int .i64 260))],[.dead]⟩) st) else none),?_,?_⟩
 ·unfold ag Tryz.f24
  simp only [aw,true_and,and_true]
  ·refine bY mixed aD hG (by kernel_rfl) (fun _=> rfl) (a1.length : Int) rfl jm (fun hb0 k_0 s_0 hlt0 hq0 hw hc=> ⟨L0,av _,?_⟩) (fun hb0 s_0 hc=> ?_)
   ·unfold fE at hq0
    try simp only [hw,Int.toNat_natCast] at hq0
    exact zf
   ·exact zg
 ·unfold ag Tryz.f24
  try unfold aY
  simp only [go_sem,Nat.reduceBEq,Nat.reduceLeDiff,Nat.reduceLT,decide_true,Nat.reduceAdd,Nat.reduceSub,Nat.reduceMul,Int.reduceLE,Int.reduceLT,Int.reduceToNat,Int.reduceNeg,reduceCtorEq]
  all_goals exact cl
end Go.Sx
end
section
namespace Go.Sx
open Go.Proofs
def lQ (a : Order) : Int:=bif a.outlet then 1 else 0
def olt (a b : Order) : Prop:=a.hour < b.hour∨a.hour=b.hour∧(lQ a < lQ b∨lQ a=lQ b∧a.index < b.index)
theorem jn (x y : Int) : aR x y=if x < y then -1 else if x > y then 1 else 0:=by
 unfold aR fo
 simp [Bool.cond_eq_ite]
theorem zh {a b : Order} (h : ay a b < 0) : olt a b:=by
 unfold ay at h
 unfold olt
 have k0 : ∀ x,kl 0 x=x.hour:=fun _=> rfl
 have k1 : ∀ x,kl 1 x=lQ x:=fun _=> rfl
 have k2 : ∀ x,kl 2 x=x.index:=fun _=> rfl
 simp only [ak,oz,Nat.zero_add,Nat.reduceAdd,k0,k1,k2,jn] at h
 generalize lQ a=p at h ⊢
 generalize lQ b=q at h ⊢
 rcases Int.lt_trichotomy a.hour b.hour with e | e | e
 ·exact .inl e
 ·refine .inr ⟨e,?_⟩
  rcases Int.lt_trichotomy p q with e1 | e1 | e1
  ·exact .inl e1
  ·refine .inr ⟨e1,?_⟩
   rcases Int.lt_trichotomy a.index b.index with e2 | e2 | e2
   ·exact e2
   ·simp [e,e1,e2] at h
   ·have h1 : ¬ a.index < b.index:=by omega
    simp [e,e1,e2,h1] at h
  ·have h1 : ¬ p < q:=by omega
   simp [e,e1,h1] at h
 ·have h1 : ¬ a.hour < b.hour:=by omega
  simp [e,h1] at h
theorem wg {a b c : Order} (h1 : olt a b) (h2 : olt b c) : olt a c:=by
 unfold olt at *;omega
theorem zi (a b : Order) : ay a b < 0↔olt a b:=by
 refine ⟨zh,fun h=> ?_⟩
 unfold ay
 have k0 : ∀ x,kl 0 x=x.hour:=fun _=> rfl
 have k1 : ∀ x,kl 1 x=lQ x:=fun _=> rfl
 have k2 : ∀ x,kl 2 x=x.index:=fun _=> rfl
 simp only [ak,oz,Nat.zero_add,Nat.reduceAdd,k0,k1,k2,jn]
 unfold olt at h
 generalize lQ a=p at h ⊢
 generalize lQ b=q at h ⊢
 rcases h with h | ⟨e,h | ⟨e2,h⟩⟩
 ·simp [h]
 ·simp [e,h]
 ·simp [e,e2,h]
open Go.Shelf Go.Sort in
theorem xB : SWO (ltOf ay) :=by
 have e : ∀ x y,ltOf ay x y=true↔olt x y:=fun x y=> by unfold ltOf;rw [decide_eq_true_eq,zi]
 have e' : ∀ x y,ltOf ay x y=false↔¬ olt x y:=fun x y=> by rw [←e];simp
 refine ⟨fun x=> (e' x x).2 (by unfold olt;omega),fun x y z h1 h2=> (e x z).2 (wg ((e x y).1 h1) ((e y z).1 h2)),fun x y z h1 h2=> (e' x z).2 ?_⟩
 have h1:=(e' x y).1 h1
 have h2:=(e' y z).1 h2
 unfold olt at *
 omega
end Go.Sx
end
section
namespace Go.Sx
open Go.Proofs
theorem gf {n i : Nat} {step : Nat→Unit→Unit⊕Unit} {s : Unit} (h : ak step n i s= .inr s) : ∀ j,i≤j→j < i + n→step j ()= .inr () :=by
 induction n generalizing i with
 | zero=> intro j h1 h2;omega
 | succ n ih=>
  simp only [ak] at h
  cases hs : step i s with
  | inl r=> rw [hs] at h;cases h
  | inr s'=>
   rw [hs] at h
   intro j h1 h2
   by_cases e : j=i
   ·subst e;cases s;exact hs
   ·exact ih h j (by omega) (by omega)
theorem qv {b : Bool} {e : Int} : bO b e=b:=by
 cases b <;> rfl
theorem xC {a b c : Int} (h : aQ [a,b,c]=true) : a≤b∧b≤c:=by
 unfold aQ at h
 simp only [List.length_cons,List.length_nil,Nat.zero_add,Nat.reduceAdd,Nat.reduceSub] at h
 split at h
 ·cases h
 ·rename_i s hs
  have h0:=gf hs 0 (by omega) (by omega)
  have h1:=gf hs 1 (by omega) (by omega)
  simp [da,IntKind.wrap,IntKind.bits,IntKind.signed] at h0 h1
  constructor
  ·cases hd : decide (b < a) <;> simp_all <;> omega
  ·cases hd : decide (c < b) <;> simp_all <;> omega
theorem oA {a b c d : Int} (h : aQ [a,b,c,d]=true) : a≤b∧b≤c∧c≤d:=by
 unfold aQ at h
 simp only [List.length_cons,List.length_nil,Nat.zero_add,Nat.reduceAdd,Nat.reduceSub] at h
 split at h
 ·cases h
 ·rename_i s hs
  have h0:=gf hs 0 (by omega) (by omega)
  have h1:=gf hs 1 (by omega) (by omega)
  have h2:=gf hs 2 (by omega) (by omega)
  simp [da,IntKind.wrap,IntKind.bits,IntKind.signed] at h0 h1 h2
  refine ⟨?_,?_,?_⟩
  ·cases hd : decide (b < a) <;> simp_all <;> omega
  ·cases hd : decide (c < b) <;> simp_all <;> omega
  ·cases hd : decide (d < c) <;> simp_all <;> omega
structure Right1 (d : District) : Prop where
 reaches : d.reaches.length≤64
 one : 0 < d.reaches.length
 farms : d.farms.length≤600
 rights : d.rights.length≤256
 hours1 : 1≤d.hours
 hours : d.hours≤4096
 start0 : 0≤d.tank.start
 start : d.tank.start≤d.tank.cap
 cap : d.tank.cap≤1099511627776
 reach : ∀ k,k < d.reaches.length→bw (k : Int) (d.reaches.getD k default)=true
 farm : ∀ k,k < d.farms.length→0≤(d.farms.getD k default).reach∧(d.farms.getD k default).reach < (d.reaches.length : Int)
theorem nM {d : District} (h : (bn d !=0)=false) : Right1 d:=by
 have h : bn d=0:=by simpa using h
 unfold bn at h
 simp only [qv] at h
 cases h1 : (decide ((d.reaches.length : Int)≤64) && decide ((d.farms.length : Int)≤600) && decide ((d.crops.length : Int)≤32) && decide ((d.rights.length : Int)≤256) && decide ((d.duties.length : Int)≤256)) with
 | false=> rw [h1] at h;simp at h
 | true=>
  rw [h1] at h
  simp only [cond_true] at h
  cases h2 : eC d 191 with
  | false=> rw [h2] at h;simp at h
  | true=>
   unfold eC at h2
   simp only [qv] at h2
   cases h3 : (aQ [1,d.hours,4096] && aQ [0,d.tank.start,d.tank.cap,1099511627776] && decide ((d.reaches.length : Int) > 0)) with
   | false=> rw [h3] at h2;simp at h2
   | true=>
    rw [h3] at h2
    simp only [cond_true] at h2
    simp only [Bool.and_eq_true,decide_eq_true_eq] at h1 h3
    obtain ⟨r1,r2⟩ :=xC h3.1.1
    obtain ⟨r3,r4,r5⟩ :=oA h3.1.2
    split at h2
    ·cases h2
    rename_i s0 hs0
    split at h2
    ·cases h2
    rename_i s1 hs1
    split at h2
    ·cases h2
    rename_i s2 hs2
    refine ⟨by omega,by omega,by omega,by omega,r1,r2,r3,r4,r5,fun k hk=> ?_,fun k hk=> ?_⟩
    ·have:=gf hs0 k (by omega) (by omega)
     simp only [fC,qv] at this
     cases he : bw (k : Int) (d.reaches.getD k default) with
     | false=> rw [he] at this;simp at this
     | true=> rfl
    ·have:=gf hs2 k (by omega) (by omega)
     simp only [fD,qv] at this
     have hx : cq (d.farms.getD k default).reach (d.reaches.length : Int)=true:=by
      cases he : cq (d.farms.getD k default).reach (d.reaches.length : Int) with
      | false=> rw [he] at this;cases hd : decide ((d.farms.getD k default).area > 0) <;> rw [hd] at this <;> simp at this
      | true=> rfl
     simpa [cq] using hx
structure Order1 (d : District) (x : Order) : Prop where
 hour0 : 0≤x.hour
 hour : x.hour < d.hours
 index0 : 0≤x.index
 farm : x.outlet=true→x.index < (d.farms.length : Int)
 reach : x.outlet=false→x.index < (d.reaches.length : Int)
 litres1 : 1≤x.litres
 litres : x.litres≤1073741824
theorem lR {k : Nat} (h : k < 9223372036854775807) (h1 : 0 < k) : IntKind.i64.wrap ((k : Int) - 1)=((k - 1 : Nat) : Int) :=by
 rw [bN (by omega) (by omega)];omega
theorem uj (d : District) (l : List Order) : fm d l:=fun _ h1 _ _=> kL _ _ _ fun j s h2 h3=> by
 unfold bC at h1
 unfold fb
 have e : decide ((j : Int) > 0)=true→(0≤IntKind.i64.wrap ((j : Int) - 1)∧IntKind.i64.wrap ((j : Int) - 1) < (l.length : Int)) :=fun h=> by
  simp only [decide_eq_true_eq] at h
  rw [lR (by omega) (by omega)];omega
 exact fun _=> ⟨fun _ _ _=> e,fun _ _=> e⟩
structure Orders1 (d : District) (l : List Order) : Prop where
 right : Right1 d
 len : l.length≤4096
 one : ∀ k,k < l.length→Order1 d (l.getD k default)
 asc : ∀ k,k + 1 < l.length→ay (l.getD k default) (l.getD (k + 1) default) < 0
theorem ko {d : District} {l : List Order} (h : (bt d l !=0)=false) : Orders1 d l:=by
 have h : bt d l=0:=by simpa using h
 unfold bt at h
 cases h1 : bn d !=0 with
 | true=> rw [h1] at h;simp at h h1;exact absurd h h1
 | false=>
  rw [h1] at h
  simp only [cond_false] at h
  cases h2 : decide ((l.length : Int) > 4096) with
  | true=> rw [h2] at h;simp at h
  | false=>
   rw [h2] at h
   simp only [cond_false] at h
   have hl : l.length≤4096:=by simp only [decide_eq_false_iff_not] at h2;omega
   split at h
   ·cases h
   rename_i s hs
   have key : ∀ k,k < l.length→Order1 d (l.getD k default)∧(0 < k→ay (l.getD (k - 1) default) (l.getD k default) < 0) :=by
    intro k hk
    have:=gf hs k (by omega) (by omega)
    have hp : ((k : Int) > 0)→(IntKind.i64.wrap ((k : Int) - 1)).toNat=k - 1:=fun h=> by
     rw [lR (by omega) (by omega)];omega
    unfold dF at this
    generalize hx : l.getD k default=x at this ⊢
    cases ho : x.outlet with
    | true=>
     rw [ho] at this
     simp only [cond_true] at this
     rw [Bool.cond_eq_ite] at this
     split at this
     ·cases this
     ·rename_i hc
      simp only [Bool.not_eq_true,Bool.or_eq_false_iff,Bool.and_eq_false_iff,decide_eq_false_iff_not] at hc
      refine ⟨⟨by omega,by omega,by omega,fun _=> by omega,fun h=> by (rw [ho] at h;cases h),by omega,by omega⟩,fun hk0=> ?_⟩
      rcases hc.2 with h | h
      ·omega
      ·rw [hp (by omega)] at h;omega
    | false=>
     rw [ho] at this
     simp only [cond_false] at this
     rw [Bool.cond_eq_ite] at this
     split at this
     ·cases this
     ·rename_i hc
      simp only [Bool.not_eq_true,Bool.or_eq_false_iff,Bool.and_eq_false_iff,decide_eq_false_iff_not] at hc
      refine ⟨⟨by omega,by omega,by omega,fun h=> by (rw [ho] at h;cases h),fun _=> by omega,by omega,by omega⟩,fun hk0=> ?_⟩
      rcases hc.2 with h | h
      ·omega
      ·rw [hp (by omega)] at h;omega
   exact ⟨nM h1,hl,fun k hk=> (key k hk).1,fun k hk=> (key (k + 1) hk).2 (by omega)⟩
structure Reach1 (i : Int) (x : Reach) : Prop where
 up : x.up < i
 delay1 : 1≤x.delay
 delay : x.delay≤16
 siphon0 : 0≤x.siphon
 siphon : x.siphon≤x.cap
 cap : x.cap≤1073741824
 bank : x.siphon≤x.bank
 bank1 : x.bank≤1099511627776
theorem wh {i : Int} {x : Reach} (hi : 0≤i) (h : bw i x=true) : Reach1 i x:=by
 unfold bw at h
 cases hd : decide (i > 0) with
 | true=>
  rw [hd] at h
  simp only [cond_true,Bool.and_eq_true,cq,decide_eq_true_eq] at h hd
  obtain ⟨⟨⟨⟨⟨h0,h1⟩,h2⟩,h3⟩,h4⟩,h5⟩ :=h
  have:=xC h1
  have:=oA h2
  have:=oA h3
  constructor <;> omega
 | false=>
  rw [hd] at h
  simp only [cond_false,Bool.and_eq_true,beq_iff_eq,decide_eq_false_iff_not] at h hd
  obtain ⟨⟨⟨⟨⟨h0,h1⟩,h2⟩,h3⟩,h4⟩,h5⟩ :=h
  have:=xC h1
  have:=oA h2
  have:=oA h3
  constructor <;> omega
theorem Right1.reach1 {d : District} (h : Right1 d) {k : Nat} (hk : k < d.reaches.length) : Reach1 k (d.reaches.getD k default) :=wh (by omega) (h.reach k hk)
theorem Right1.reachI {d : District} (h : Right1 d) {i : Int} (h0 : 0≤i) (hi : i < (d.reaches.length : Int)) : Reach1 i (d.reaches.getD i.toNat default) :=by
 have:=h.reach1 (k:=i.toNat) (by omega)
 rwa [Int.toNat_of_nonneg h0] at this
theorem wi {step : Nat→Unit→Unit⊕Unit} : ∀ {n i : Nat},(∀ j,i≤j→j < i + n→step j ()= .inr ())→ak step n i ()= .inr ()
 | 0,_,_=> rfl
 | n + 1,i,h=> by
  simp only [ak]
  rw [h i (by omega) (by omega)]
  exact wi fun j h1 h2=> h j (by omega) (by omega)
theorem uk {step : Nat→Unit→Unit⊕Unit} {n : Nat} : ak step n 0 ()= .inr ()↔∀ j,j < n→step j ()= .inr () :=
 ⟨fun h j hj=> gf h j (by omega) (by omega),fun h=> wi fun j _ h2=> h j (by omega)⟩
theorem ul {ρ : Type} {n i : Nat} {step : Nat→Unit→ρ⊕Unit} {s : Unit} (h : ak step n i s= .inr s) : ∀ j,i≤j→j < i + n→step j ()= .inr () :=by
 induction n generalizing i with
 | zero=> intro j h1 h2;omega
 | succ n ih=>
  simp only [ak] at h
  cases hs : step i s with
  | inl r=> rw [hs] at h;cases h
  | inr s'=>
   rw [hs] at h
   intro j h1 h2
   by_cases e : j=i
   ·subst e;cases s;exact hs
   ·exact ih h j (by omega) (by omega)
theorem oZ (d : District) (l : List Order) : bt d l=0↔bn d=0∧l.length≤4096∧∀ k,k < l.length→dF d l k ()= .inr () :=by
 unfold bt
 cases h1 : (bn d !=0) with
 | true=> simp at h1;simp [h1]
 | false=>
  simp at h1
  simp only [cond_false,h1,true_and]
  cases h2 : decide ((l.length : Int) > 4096) with
  | true=> simp at h2;simp;omega
  | false=>
   simp at h2
   rw [←uk]
   cases h3 : ak (dF d l) l.length 0 () with
   | inl y=> simp
   | inr y=> simp;omega
theorem b7 {α : Type} (l : List α) (d : α) {n : Nat} (h : n < l.length) : l.getD n d=l[n] :=by
 rw [List.getD_eq_getElem?_getD,List.getElem?_eq_getElem h];rfl
theorem EH {κ υ : Type} [DecidableEq κ] (l : List (κ×υ)) (x z : κ) (y : υ) : fJ (mM l x y) z=if z=x then some y else fJ l z:=by
 induction l with
 | nil=> simp [mM,fJ]
 | cons a r ih=>
  obtain ⟨a,b⟩ :=a
  unfold mM
  by_cases h : x=a
  ·subst h
   simp only [if_pos]
   unfold fJ
   by_cases hz : z=x <;> simp [hz]
  ·rw [if_neg h]
   unfold fJ
   by_cases hz : z=a
   ·subst hz
    rw [if_pos rfl,if_neg (fun e=> h e.symm),if_pos rfl]
   ·rw [if_neg hz,ih,if_neg hz]
theorem eD {k : Tag} (l : List (k.T×Int)) (x z : k.T) (y : Int) : aB k .int (c7 k .int l x y) z=if z=x then y else aB k .int l z:=by
 unfold aB c7
 rw [EH]
 by_cases h : z=x <;> simp [h]
theorem Orders1.lt {d : District} {l : List Order} (h : Orders1 d l) : ∀ (k j : Nat),j < k→k < l.length→olt (l.getD j default) (l.getD k default)
 | k + 1,j,h1,h2=> by
  have h3:=zh (h.asc k (by omega))
  by_cases e : j=k
  ·subst e;exact h3
  ·exact wg (h.lt k j (by omega) (by omega)) h3
def a8 (p : Order→Bool) : List Order→Int
 | [] => 0
 | x :: r=> (bif p x then x.litres else 0) + a8 p r
theorem um (p : Order→Bool) (a b : List Order) : a8 p (a ++ b)=a8 p a + a8 p b:=by
 induction a with
 | nil=> simp [a8]
 | cons x r ih=> simp only [List.cons_append,a8,ih];omega
theorem un {p : Order→Bool} {l : List Order} (h : ∀ x∈l,1≤x.litres∧x.litres≤1073741824) : 0≤a8 p l∧a8 p l≤l.length * 1073741824:=by
 induction l with
 | nil=> simp [a8]
 | cons x r ih=>
  have h1:=ih fun a ha=> h a (List.mem_cons_of_mem _ ha)
  have h2:=h x List.mem_cons_self
  simp only [a8,List.length_cons]
  cases p x <;> simp only [cond_true,cond_false] <;> omega
theorem gV {p : Order→Bool} {l : List Order} (h : ∀ x∈l,p x=false) : a8 p l=0:=by
 induction l with
 | nil=> rfl
 | cons x r ih=>
  simp only [a8]
  rw [h x List.mem_cons_self,ih fun y hy=> h y (List.mem_cons_of_mem _ hy)]
  rfl
theorem gN {p q : Order→Bool} {l : List Order} (h : ∀ x∈l,p x=q x) : a8 p l=a8 q l:=by
 induction l with
 | nil=> rfl
 | cons x r ih=>
  simp only [a8]
  rw [h x List.mem_cons_self,ih fun y hy=> h y (List.mem_cons_of_mem _ hy)]
theorem zj {p q r : Order→Bool} {l : List Order} (h : ∀ x∈l,(r x=(p x || q x))∧(p x && q x)=false) : a8 p l + a8 q l=a8 r l:=by
 induction l with
 | nil=> rfl
 | cons x t ih=>
  simp only [a8]
  have h1:=h x List.mem_cons_self
  have h2:=ih fun y hy=> h y (List.mem_cons_of_mem _ hy)
  rw [h1.1]
  cases hp : p x <;> cases hq : q x <;> simp only [hp,hq,Bool.or_true,Bool.or_false,Bool.and_self,cond_true,cond_false] at h1 ⊢
  all_goals (first | omega | (simp at h1))
theorem zk {p : Order→Bool} {l : List Order} {j : Nat} (hj : j < l.length) (h : p l[j]=true) (hn : ∀ i (hi : i < l.length),i≠j→p l[i]=false) : a8 p l=l[j].litres:=by
 have e : l=l.take j ++ l[j] :: l.drop (j + 1) :=by rw [←List.drop_eq_getElem_cons hj,List.take_append_drop]
 conv=> lhs;rw [e,um]
 rw [gV fun x hx=> ?_]
 ·simp only [a8,h,cond_true]
  rw [gV fun x hx=> ?_]
  ·omega
  ·obtain ⟨i,hi,rfl⟩ :=List.getElem_of_mem hx
   rw [List.length_drop] at hi
   rw [List.getElem_drop]
   exact hn _ _ (by omega)
 ·obtain ⟨i,hi,rfl⟩ :=List.getElem_of_mem hx
  rw [List.length_take] at hi
  rw [List.getElem_take]
  exact hn _ _ (by omega)
theorem Orders1.lit {d : District} {l : List Order} (h : Orders1 d l) : ∀ x∈l,1≤x.litres∧x.litres≤1073741824:=fun x hx=> by
 obtain ⟨k,hk,rfl⟩ :=List.getElem_of_mem hx
 have:=h.one k hk
 rw [b7 _ _ hk] at this
 exact ⟨this.litres1,this.litres⟩
theorem Orders1.uniq {d : District} {l : List Order} (h : Orders1 d l) {i j : Nat} (hi : i < l.length) (hj : j < l.length) (e1 : l[i].hour=l[j].hour) (e2 : l[i].index=l[j].index) (e3 : l[i].outlet=l[j].outlet) : i=j:=by
 have key : ∀ a b (ha : a < l.length) (hb : b < l.length),a < b→l[a].hour=l[b].hour→l[a].index=l[b].index→l[a].outlet=l[b].outlet→False:=fun a b ha hb hab e1 e2 e3=> by
  have:=h.lt b a hab hb
  rw [b7 _ _ ha,b7 _ _ hb] at this
  unfold olt lQ at this
  rw [e1,e2,e3] at this
  omega
 rcases Nat.lt_trichotomy i j with h1 | h1 | h1
 ·exact (key i j hi hj h1 e1 e2 e3).elim
 ·exact h1
 ·exact (key j i hj hi h1 e1.symm e2.symm e3.symm).elim
theorem gW {p : Order→Bool} {l : List Order} {j : Nat} (hj : j < l.length) : a8 p (l.take (j + 1))=a8 p (l.take j) + (bif p l[j] then l[j].litres else 0) :=by
 rw [List.take_succ_eq_append_getElem hj,um]
 simp [a8]
theorem rE {κ υ : Type} [DecidableEq κ] : ∀ (l : List (κ×υ)) (x : κ) (y : υ),(mM l x y).map Prod.fst=if x∈l.map Prod.fst then l.map Prod.fst else l.map Prod.fst ++ [x]
 | [],x,y=> by simp [mM]
 | (a,b) :: r,x,y=> by
  unfold mM
  by_cases h : x=a
  ·subst h;simp
  ·rw [if_neg h,List.map_cons,rE r x y]
   simp only [List.map_cons,List.mem_cons,h,false_or]
   split <;> simp
theorem zl {κ υ : Type} [DecidableEq κ] : ∀ (l : List (κ×υ)) (e : κ×υ),(l.map Prod.fst).Nodup→e∈l→fJ l e.1=some e.2
 | (a,b) :: r,e,hn,he=> by
  simp only [List.map_cons,List.nodup_cons] at hn
  unfold fJ
  rcases List.mem_cons.1 he with rfl | he
  ·simp
  ·have : e.1≠a:=fun h=> hn.1 (h▸List.mem_map_of_mem he)
   rw [if_neg this]
   exact zl r e hn.2 he
theorem lT {α : Type} (l : List α) (d : α) {k : Nat} (h : k < l.length) : l.getD k d∈l:=by
 rw [b7 l d h];exact List.getElem_mem _
theorem DF {n d : Int} (hd : 1≤d) (hd2 : d≤1073741824) (h1 : -1152921504606846976≤n) (h2 : n≤1152921504606846976) : iN n d=n / d:=by
 unfold iN
 have e1 : Int.tmod (Int.tmod n d + d) d=n % d:=by
  have a1 : -d < Int.tmod n d:=Int.lt_tmod_of_pos n (by omega)
  rw [Int.tmod_eq_emod_of_nonneg (by omega),Int.add_emod_right]
  rw [Int.tmod_eq_emod]
  split
  ·show (n % d - 0) % d=n % d
   rw [Int.sub_zero,Int.emod_emod]
  ·have : n % d - (d.natAbs : Int)=n % d + d * (-1) :=by omega
   rw [this,Int.add_mul_emod_self_left,Int.emod_emod]
 have a1 : -d < Int.tmod n d:=Int.lt_tmod_of_pos n (by omega)
 have a2 : Int.tmod n d < d:=Int.tmod_lt_of_pos n (by omega)
 rw [bN (by omega : -9223372036854775808≤Int.tmod n d + d) (by omega),e1]
 have b1:=Int.emod_nonneg n (by omega : d≠0)
 have b2:=Int.emod_lt_of_pos n (by omega : 0 < d)
 rw [bN (by omega : -9223372036854775808≤n - n % d) (by omega)]
 have e2 : n - n % d=d * (n / d) :=by have:=Int.mul_ediv_add_emod n d;omega
 rw [e2,Int.mul_tdiv_cancel_left _ (by omega)]
 have c1 : n / d≤1152921504606846976:=by
  have:=Int.ediv_le_ediv (by omega : 0 < d) h2
  have:=Int.ediv_le_self (b:=d) (by omega : (0 : Int)≤1152921504606846976)
  omega
 have c2 : -1152921504606846976≤n / d:=by
  rw [Int.le_ediv_iff_mul_le (by omega)]
  have:=Int.mul_le_mul_of_nonneg_left (by omega : 1≤d) (by omega : (0 : Int)≤1152921504606846976)
  omega
 exact bN (by omega) (by omega)
structure Rat (a : Ratio) : Prop where
 d1 : 1≤a.d
 d : a.d≤1073741824
 n0 : -1073741824≤a.n
 n : a.n≤1073741824
theorem H2 {a : Ratio} (h : ca a=0) : Rat a:=by
 unfold ca at h
 rw [Bool.cond_eq_ite] at h
 split at h
 ·cases h
 ·rename_i h1
  simp only [Bool.or_eq_true,decide_eq_true_eq,not_or] at h1
  constructor <;> omega
theorem pq {i : Int} {x : Reach} (h : bw i x=true) : fa x.seep=true∧0≤x.evap.lo∧x.evap.lo≤x.evap.hi∧x.evap.hi≤1073741824:=by
 unfold bw at h
 cases hd : decide (i > 0) <;> rw [hd] at h <;> simp only [cond_true,cond_false,Bool.and_eq_true] at h
 all_goals
  have r1:=oA h.1.2
  exact ⟨h.2,r1.1,r1.2.1,r1.2.2⟩
theorem PM {a b : Int} (h0 : -1073741824≤a) (h1 : a≤1073741824) (h2 : 0≤b) (h3 : b≤1073741824) : -1152921504606846976≤a * b∧a * b≤1152921504606846976:=by
 have h4:=Int.mul_le_mul_of_nonneg_right h0 h2
 have h5:=Int.mul_le_mul_of_nonneg_right h1 h2
 have h6 : -1073741824 * b= -(1073741824 * b) :=by omega
 omega
structure Seep (x : Ratio×Ratio) : Prop where
 r1 : Rat x.1
 r2 : Rat x.2
 c1 : ca x.1=0
 c2 : ca x.2=0
 cmp : eu x.1 x.2=((eu x.1 x.2).1,0)∧(eu x.1 x.2).1≤0
 le : x.1.n * x.2.d≤x.2.n * x.1.d
 n1 : 0≤x.1.n
 n2 : x.2.n≤x.2.d
 m1 : x.1.n≤x.1.d
 m2 : 0≤x.2.n
theorem xD {x : Ratio×Ratio} (h : fa x=true) : Seep x:=by
 unfold fa at h
 simp only [Bool.and_eq_true,beq_iff_eq,decide_eq_true_eq] at h
 obtain ⟨⟨⟨h1,h2⟩,h3⟩,h4⟩ :=h
 have hc : ca x.1=0∧ca x.2=0:=by
  unfold eu at h1
  rw [Bool.cond_eq_ite] at h1
  split at h1
  ·cases h1
  ·rename_i hq
   simp only [Bool.or_eq_true,bne_iff_ne,ne_eq,not_or,Decidable.not_not] at hq
   exact hq
 have r1:=H2 hc.1
 have r2:=H2 hc.2
 have b1:=PM r1.n0 r1.n (by have:=r2.d1;omega) r2.d
 have b2:=PM r2.n0 r2.n (by have:=r1.d1;omega) r1.d
 have hle : x.1.n * x.2.d≤x.2.n * x.1.d:=by
  unfold eu at h3
  rw [hc.1,hc.2] at h3
  simp only [bne_self_eq_false,Bool.or_self,cond_false] at h3
  rw [bN (by omega) (by omega),bN (by omega) (by omega),jn] at h3
  split at h3
  ·omega
  ·split at h3
   ·omega
   ·omega
 have e1:=r1.d1
 have e2:=r2.d1
 have m1 : x.1.n≤x.1.d:=by
  have:=Int.mul_le_mul_of_nonneg_right h4 (by omega : 0≤x.1.d)
  have hh : x.1.n * x.2.d≤x.1.d * x.2.d:=by rw [Int.mul_comm x.1.d];omega
  exact Int.le_of_mul_le_mul_right hh (by omega)
 have m2 : 0≤x.2.n:=by
  have:=Int.mul_nonneg h2 (by omega : 0≤x.2.d)
  have hh : 0 * x.1.d≤x.2.n * x.1.d:=by rw [Int.zero_mul];omega
  exact Int.le_of_mul_le_mul_right hh (by omega)
 exact ⟨r1,r2,hc.1,hc.2,⟨by rw [←h1],h3⟩,hle,h2,h4,m1,m2⟩
theorem EI {x : Ratio×Ratio} (h : Seep x) : fq x=true:=by
 unfold fq im iM
 have:=h.n1;have:=h.n2;have:=h.m1;have:=h.m2
 rw [h.c1,h.c2,decide_eq_true (by omega : x.1.n≥0),decide_eq_true (by omega : x.1.n≤x.1.d),decide_eq_true (by omega : x.2.n≥0),decide_eq_true (by omega : x.2.n≤x.2.d)]
 have h2:=congrArg Prod.snd h.cmp.1
 dsimp only at h2
 rw [h2,decide_eq_true h.cmp.2]
 rfl
theorem uo {a : Ratio} (h : Rat a) (hc : ca a=0) (h0 : 0≤a.n) {v : Int} (v0 : 0≤v) (v1 : v≤1073741824) : (dK a v).1=a.n * v / a.d∧(dK a v).2.1= -(-(a.n * v) / a.d)∧ -(-(a.n * v) / a.d)≤1152921504606846976∧0≤ -(-(a.n * v) / a.d) :=by
 have:=h.d1;have:=h.d;have:=h.n
 have hm:=PM (by omega) h.n v0 v1
 have hm0:=Int.mul_nonneg h0 v0
 unfold dK
 have e1 : (decide (v < (-1073741824)) || decide (v > 1073741824))=false:=by simp only [Bool.or_eq_false_iff,decide_eq_false_iff_not];omega
 rw [hc,e1]
 simp only [bne_self_eq_false,cond_false]
 rw [bN (by omega : -9223372036854775808≤0 - a.n) (by omega)]
 have e2 : (0 - a.n) * v= -(a.n * v) :=by rw [Int.sub_mul];omega
 rw [e2,bN (by omega : -9223372036854775808≤ -(a.n * v)) (by omega),bN (by omega : -9223372036854775808≤a.n * v) (by omega)]
 rw [DF h.d1 h.d (by omega) (by omega),DF h.d1 h.d (by omega) (by omega)]
 have c1 : -1152921504606846976≤ -(a.n * v) / a.d:=by
  rw [Int.le_ediv_iff_mul_le (by omega)]
  have:=Int.mul_le_mul_of_nonneg_left (by omega : 1≤a.d) (by omega : (0 : Int)≤1152921504606846976)
  omega
 have c2 : -(a.n * v) / a.d≤0:=by
  have:=Int.ediv_le_ediv (by omega : 0 < a.d) (by omega : -(a.n * v)≤0)
  simpa using this
 rw [bN (by omega) (by omega)]
 exact ⟨rfl,by omega,by omega,by omega⟩
theorem qw {i : Int} {x : Reach} (h : bw i x=true) {v : Int} (v0 : 0≤v) (v1 : v≤1073741824) : cD x v=0∧0≤(dL x v).lo∧(dL x v).lo≤(dL x v).hi∧(dL x v).hi≤v:=by
 obtain ⟨h1,h2,h3,h4⟩ :=pq h
 have hs:=xD h1
 refine ⟨?_,?_⟩
 ·unfold cD fP iM
  rw [EI hs,decide_eq_true (by omega : x.evap.lo≥0),decide_eq_true h3,decide_eq_true h4,decide_eq_true (by omega : v≥0),decide_eq_true v1]
  rfl
 ·unfold dL
  cases hv : (v==0) with
  | true=>
   simp only [beq_iff_eq] at hv
   simp only [cond_true];omega
  | false=>
   simp only [beq_eq_false_iff_ne,ne_eq] at hv
   simp only [cond_false]
   obtain ⟨a1,_,_,_⟩ :=uo hs.r1 hs.c1 hs.n1 v0 v1
   obtain ⟨_,b1,b2,b3⟩ :=uo hs.r2 hs.c2 hs.m2 v0 v1
   rw [a1,b1]
   have d1:=hs.r1.d1
   have d2:=hs.r2.d1
   have P0 : 0≤x.seep.1.n * v / x.seep.1.d:=Int.ediv_nonneg (Int.mul_nonneg hs.n1 v0) (by omega)
   have P1 : x.seep.1.n * v / x.seep.1.d * x.seep.1.d≤x.seep.1.n * v:=Int.ediv_mul_le _ (by omega)
   have Q1 : -(x.seep.2.n * v) / x.seep.2.d * x.seep.2.d≤ -(x.seep.2.n * v) :=Int.ediv_mul_le _ (by omega)
   generalize x.seep.1.n * v / x.seep.1.d=P at P0 P1
   generalize -(x.seep.2.n * v) / x.seep.2.d=Q at b2 b3 Q1
   have PV : P≤v:=by
    have:=Int.mul_le_mul_of_nonneg_right hs.m1 v0
    have hh : P * x.seep.1.d≤v * x.seep.1.d:=by rw [Int.mul_comm v];omega
    exact Int.le_of_mul_le_mul_right hh (by omega)
   have PQ : P≤ -Q:=by
    have e1:=Int.mul_le_mul_of_nonneg_right P1 (by omega : 0≤x.seep.2.d)
    have e2:=Int.mul_le_mul_of_nonneg_right hs.le v0
    have e3:=Int.mul_le_mul_of_nonneg_right Q1 (by omega : 0≤x.seep.1.d)
    have hh : P * (x.seep.1.d * x.seep.2.d)≤ -Q * (x.seep.1.d * x.seep.2.d) :=by
     have i1 : P * x.seep.1.d * x.seep.2.d=P * (x.seep.1.d * x.seep.2.d) :=Int.mul_assoc _ _ _
     have i2 : x.seep.1.n * v * x.seep.2.d=x.seep.1.n * x.seep.2.d * v:=by rw [Int.mul_assoc,Int.mul_comm v,←Int.mul_assoc]
     have i3 : x.seep.2.n * x.seep.1.d * v=x.seep.2.n * v * x.seep.1.d:=by rw [Int.mul_assoc,Int.mul_comm x.seep.1.d,←Int.mul_assoc]
     have i4 : Q * x.seep.2.d * x.seep.1.d=Q * (x.seep.1.d * x.seep.2.d) :=by rw [Int.mul_assoc,Int.mul_comm x.seep.2.d]
     have i5 : -(x.seep.2.n * v) * x.seep.1.d= -(x.seep.2.n * v * x.seep.1.d) :=Int.neg_mul _ _
     have i6 : -Q * (x.seep.1.d * x.seep.2.d)= -(Q * (x.seep.1.d * x.seep.2.d)) :=Int.neg_mul _ _
     omega
    have hp : 0 < x.seep.1.d * x.seep.2.d:=Int.mul_pos (by omega) (by omega)
    exact Int.le_of_mul_le_mul_right hh hp
   rw [bN (by omega) (by omega),bN (by omega) (by omega)]
   split <;> split <;> omega
end Go.Sx
end
section
namespace Go.Sx
open Go.Proofs
def wst (x : Reach) (v : Int) : Int:=v - (dL x v).hi
theorem ip {i : Int} {x : Reach} (h : bw i x=true) {v : Int} (v0 : 0≤v) (v1 : v≤1073741824) : dm x v=(wst x v,0) :=by
 obtain ⟨e,h1,h2,h3⟩ :=qw h v0 v1
 unfold dm wst
 rw [e,bN (by omega) (by omega)]
 rfl
theorem R5 {i : Int} {x : Reach} (h : bw i x=true) {v : Int} (hv : ¬ (0≤v∧v≤1073741824)) : (dm x v).2≠0:=by
 have e:=(qw h (Int.le_refl 0) (by omega)).1
 unfold dm
 have : cD x v≠0:=by
  unfold cD iM at e ⊢
  cases hq : (!(fP x.evap 1073741824) || !(fq x.seep)) with
  | true=> rw [hq] at e;simp at e
  | false=>
   simp only [cond_false]
   have : (decide (v≥0) && decide (v≤1073741824))=false:=by
    rw [Bool.and_eq_false_iff,decide_eq_false_iff_not,decide_eq_false_iff_not];omega
   rw [this];simp
 have h2 : (cD x v !=0)=true:=by simpa using this
 rw [h2];simpa using this
theorem H3 {i : Int} {x : Reach} (h : bw i x=true) {v : Int} (v0 : 0≤v) (v1 : v≤1073741824) : wst x v=max 0 ((x.seep.2.d - x.seep.2.n) * v / x.seep.2.d - x.evap.hi) :=by
 obtain ⟨g1,g2,g3,g4⟩ :=pq h
 have hs:=xD g1
 have d1:=hs.r2.d1
 have hk : (x.seep.2.d - x.seep.2.n) * v / x.seep.2.d=v + -(x.seep.2.n * v) / x.seep.2.d:=by
  rw [Int.sub_mul,Int.sub_eq_add_neg,Int.add_comm,Int.add_mul_ediv_left _ _ (by omega)];omega
 rw [hk]
 unfold wst dL
 cases hv : (v==0) with
 | true=>
  simp only [beq_iff_eq] at hv
  subst hv
  simp only [cond_true,Int.mul_zero,Int.neg_zero,Int.zero_ediv]
  show (0 : Int) - 0=_
  omega
 | false=>
  simp only [cond_false]
  obtain ⟨_,b1,b2,b3⟩ :=uo hs.r2 hs.c2 hs.m2 v0 v1
  rw [b1]
  generalize -(x.seep.2.n * v) / x.seep.2.d=Q at b2 b3 ⊢
  rw [bN (by omega) (by omega)]
  split <;> omega
theorem M3 {k d a b : Int} (hk : 0≤k) (hd : 1≤d) (h : a≤b) : k * a / d≤k * b / d:=Int.ediv_le_ediv (by omega) (Int.mul_le_mul_of_nonneg_left h hk)
section
variable {i : Int} {x : Reach}
theorem xE (h : bw i x=true) {v : Int} (v0 : 0≤v) (v1 : v≤1073741824) : 0≤wst x v∧wst x v≤v:=by
 have:=qw h v0 v1
 unfold wst;omega
theorem zm (h : bw i x=true) {a b : Int} (a0 : 0≤a) (hab : a≤b) (b1 : b≤1073741824) : wst x a≤wst x b:=by
 have hs:=xD (pq h).1
 have:=hs.r2.d1
 rw [H3 h a0 (by omega),H3 h (by omega) b1]
 have:=M3 (k:=x.seep.2.d - x.seep.2.n) (d:=x.seep.2.d) (by have:=hs.n2;omega) hs.r2.d1 hab
 omega
theorem H4 (h : bw i x=true) : wst x 0=0:=by
 have:=xE h (Int.le_refl 0) (by omega);omega
end
theorem half {i j : Int} (h0 : 0≤i) (h1 : i≤j) (h2 : j≤2305843009213693952) : IntKind.i64.wrap (An .u64 (IntKind.u64.wrap (IntKind.i64.wrap (i + j))) 1)=(i + j) / 2:=by
 have e0 : IntKind.i64.wrap (i + j)=i + j:=bN (by omega) (by omega)
 have e : IntKind.u64.wrap (i + j)=i + j:=by
  unfold IntKind.wrap
  simp [IntKind.bits,IntKind.signed]
  omega
 have e2 : An .u64 (i + j) 1=(i + j) / 2:=by
  show Int.fdiv (i + j) ((2 : Int) ^ min (Int.toNat 1) IntKind.u64.bits)=_
  have : (2 : Int) ^ min (Int.toNat 1) IntKind.u64.bits=2:=by decide
  rw [this,Int.fdiv_eq_ediv_of_nonneg _ (by omega)]
 rw [e0,e,e2,bN (by omega) (by omega)]
theorem Bi {f : Int→Bool} {N : Int} {step : Nat→Int×Int→Int⊕(Int×Int)} (hN : N≤2305843009213693952)
  (hs : ∀ k i j,0≤i→i < j→j≤N→step k (i,j)=if f ((i + j) / 2)=true then .inr (i,(i + j) / 2) else .inr ((i + j) / 2 + 1,j)) (he : ∀ k i j,¬ i < j→step k (i,j)= .inl i) :
  ∀ (fuel k : Nat) (i j : Int),0≤i→i≤j→j≤N→j - i < 2 ^ fuel→∃ v,ak step (fuel + 1) k (i,j)= .inl v∧i≤v∧v≤j∧
   ((∀ a b,0≤a→a≤b→b < N→f a=true→f b=true)→(∀ u,i≤u→u < v→f u=false)∧(v < j→f v=true)) :=by
 intro fuel
 induction fuel with
 | zero=>
  intro k i j h0 h1 h2 h3
  have : j=i:=by simp at h3;omega
  subst this
  exact ⟨j,by simp only [ak,he k j j (by omega)],Int.le_refl _,Int.le_refl _,fun _=> ⟨fun u h4 h5=> by omega,fun h=> by omega⟩⟩
 | succ fuel ih=>
  intro k i j h0 h1 h2 h3
  by_cases hlt : i < j
  ·have hp : (2 : Int) ^ (fuel + 1)=2 ^ fuel + 2 ^ fuel:=by rw [Int.pow_succ];omega
   rw [show fuel + 1 + 1=(fuel + 1) + 1 from rfl]
   simp only [ak,hs k i j h0 hlt h2]
   by_cases hf : f ((i + j) / 2)=true
   ·rw [if_pos hf]
    obtain ⟨v,e1,e2,e3,e4⟩ :=ih (k + 1) i ((i + j) / 2) h0 (by omega) (by omega) (by omega)
    refine ⟨v,e1,e2,by omega,fun hm=> ⟨(e4 hm).1,fun _=> ?_⟩⟩
    by_cases hv : v < (i + j) / 2
    ·exact (e4 hm).2 hv
    ·have : v=(i + j) / 2:=by omega
     rw [this];exact hf
   ·rw [if_neg hf]
    obtain ⟨v,e1,e2,e3,e4⟩ :=ih (k + 1) ((i + j) / 2 + 1) j (by omega) (by omega) h2 (by omega)
    refine ⟨v,e1,by omega,e3,fun hm=> ⟨fun u h4 h5=> ?_,(e4 hm).2⟩⟩
    by_cases hu : (i + j) / 2 + 1≤u
    ·exact (e4 hm).1 u hu h5
    ·cases hfu : f u with
     | false=> rfl
     | true=> exact absurd (hm u ((i + j) / 2) (by omega) (by omega) (by omega) hfu) hf
  ·have : j=i:=by omega
   subst this
   exact ⟨j,by simp only [ak,he k j j (by omega)],Int.le_refl _,Int.le_refl _,fun _=> ⟨fun u h4 h5=> by omega,fun h=> by omega⟩⟩
theorem wj (w : Int) (x : Reach) : ∃ v,ak (eQ x w) 64 0 (0,1073741825)= .inl v∧0≤v∧v≤1073741825∧
  ((∀ a b,0≤a→a≤b→b < 1073741825→cA a x w=true→cA b x w=true)→(∀ u,0≤u→u < v→cA u x w=false)∧(v < 1073741825→cA v x w=true)) :=by
 refine Bi (f:=fun v=> cA v x w) (N:=1073741825) (by omega) (fun k i j h0 h1 h2=> ?_) (fun k i j h=> ?_) 63 0 0 1073741825 (by omega) (by omega) (by omega) (by decide)
 ·unfold eQ
  simp only
  rw [half h0 (by omega) (by omega),decide_eq_true h1,bN (by omega) (by omega)]
  cases cA ((i + j) / 2) x w <;> simp
 ·unfold eQ
  simp only
  rw [decide_eq_false h];rfl
theorem H5 (w : Int) (x : Reach) : iW 1073741825 x w:=fun z hz=> by
 obtain ⟨v,h,_⟩ :=wj w x
 rw [h] at hz;cases hz
theorem DG (x : Reach) (w : Int) : gA x w:=fun _=> H5 _ x
theorem H6 (x : Reach) (w : Int) : ga x w:=fun _=> DG x w
section
variable {i : Int} {x : Reach}
theorem H7 (h : bw i x=true) {w : Int} (hw : 1≤w) (hw2 : w≤1073741824) : 0≤cr (w - 1) x∧cr (w - 1) x≤1073741825∧(∀ u,0≤u→u < cr (w - 1) x→wst x u < w)∧(cr (w - 1) x≤1073741824→w≤wst x (cr (w - 1) x)) :=by
 obtain ⟨v,e1,e2,e3,e4⟩ :=wj (w - 1) x
 have ev : cr (w - 1) x=v:=by unfold cr kO;rw [e1]
 have hf : ∀ u,0≤u→u≤1073741824→(cA u x (w - 1)=true↔w≤wst x u) :=fun u u0 u1=> by
  have:=qw h u0 u1
  unfold cA iV wst
  rw [bN (by omega) (by omega),decide_eq_true_eq];omega
 obtain ⟨e5,e6⟩ :=e4 fun a b a0 hab hb ha=> (hf b (by omega) (by omega)).2 (by
  have:=zm h a0 hab (by omega)
  have:=(hf a a0 (by omega)).1 ha;omega)
 rw [ev]
 refine ⟨e2,e3,fun u u0 u1=> ?_,fun hv=> (hf v e2 hv).1 (e6 (by omega))⟩
 have:=e5 u u0 u1
 by_cases hq : w≤wst x u
 ·rw [(hf u u0 (by omega)).2 hq] at this;cases this
 ·omega
theorem rF (h0 : 0≤i) (h : bw i x=true) {w : Int} (hw : 1≤w) : (∃ v,az x w=(v,true)∧1≤v∧v≤1073741824∧x.siphon≤v∧w≤wst x v∧∀ u,0≤u→u≤1073741824→x.siphon≤u→w≤wst x u→v≤u)∨
  ((az x w).2=false∧∀ u,0≤u→u≤1073741824→wst x u < w) :=by
 have hr:=wh h0 h
 unfold az
 have hw0 : (w==0)=false:=by rw [beq_eq_false_iff_ne];omega
 by_cases hw2 : w≤1073741824
 ·have hc : (w==0 || decide (w > 1073741824))=false:=by rw [hw0,decide_eq_false (by omega)];rfl
  rw [hc,hw0]
  simp only [cond_false]
  obtain ⟨l1,l2,l3,l4⟩ :=H7 h hw hw2
  unfold bS
  have hv : (cD x w !=0)=false:=by rw [(qw h (by omega) hw2).1];rfl
  rw [hv,bN (by omega) (by omega)]
  simp only [cond_false]
  by_cases hl : cr (w - 1) x≤1073741824
  ·rw [decide_eq_false (by omega)]
   simp only [cond_false,Bool.not_true]
   have l5:=l4 hl
   have l6:=xE h l1 hl
   refine .inl ⟨_,rfl,?_,?_,?_,?_,fun u u0 u1 u2 u3=> ?_⟩
   ·split <;> omega
   ·have:=hr.siphon;have:=hr.cap;split <;> omega
   ·split <;> omega
   ·have:=hr.siphon;have:=hr.cap
    split
    ·exact Int.le_trans l5 (zm h l1 (by omega) (by omega))
    ·exact l5
   ·have : cr (w - 1) x≤u:=by
     rcases Int.lt_or_le u (cr (w - 1) x) with q | q
     ·have:=l3 u u0 q;omega
     ·exact q
    split <;> omega
  ·rw [decide_eq_true (by omega)]
   simp only [cond_true,Bool.not_false]
   exact .inr ⟨trivial,fun u u0 u1=> l3 u u0 (by omega)⟩
 ·have hc : (w==0 || decide (w > 1073741824))=true:=by rw [decide_eq_true (by omega : w > 1073741824),Bool.or_true]
  rw [hc]
  refine .inr ⟨by simpa using hw0,fun u u0 u1=> ?_⟩
  have:=xE h u0 u1;omega
end
end Go.Sx
end
section
namespace Go.Sx
def PN {α : Type} : Result α→World
 | .ok _ w=> w
 | .halt _ w=> w
theorem Bj {α : Type} : ∀ (a : Ask α) (w : World),w.drawn≤(w.ask a).2.drawn
 | .done a,w=> Nat.le_refl _
 | .ask what range k,w=> by
  unfold World.ask
  dsimp only
  split
  ·exact Bj _ w
  ·exact Nat.le_trans (Nat.le_succ _) (Bj _ { w with drawn:=w.drawn + 1})
theorem PO (w : World) (c : Sys) : w.drawn≤(w.sys c).2.drawn:=by
 unfold World.sys
 have:=Bj (Kernel.perform c w.os) w
 split
 ·exact Nat.le_refl _
 ·rename_i h
  rw [h] at this
  exact this
theorem zn {p : Program} {w w' : World} {a : Addr} {v : Value} {b : Bool} {l : List Addr} (h : w.farStore p a v b= .ok (w',l)) : w'.drawn=w.drawn:=by
 unfold World.farStore at h
 split at h
 ·split at h
  ·rename_i r hr
   cases h
   unfold World.viewStore at hr
   simp only [bind,Except.bind,pure,Except.pure] at hr
   repeat' split at hr
   all_goals (first | (cases hr;done) | skip)
   all_goals (cases hr;rfl)
  ·cases h
 ·cases h
theorem xF {α : Type} (p : Program) : ∀ (s : Sem α) (w : World),w.drawn≤(PN (s.run p w)).drawn:=by
 intro s
 induction s with
 | pure a=> intro w;exact Nat.le_refl _
 | load m a k ih=>
  intro w
  unfold Sem.run
  split
  ·exact ih _ w
  ·split
   ·exact ih _ w
   ·exact Nat.le_refl _
 | store m a v k ih=>
  intro w
  cases v
  case agg=> exact Nat.le_refl _
  case tuple=> exact Nat.le_refl _
  all_goals
   simp only [Sem.run]
   split
   ·split
    ·exact Nat.le_refl _
    ·exact ih (w.setCell a _)
   ·split
    ·rename_i h
     rw [←zn h];exact ih _
    ·exact Nat.le_refl _
 | new o k ih=> intro w;exact ih w.heap.size { w with heap:=w.heap.push o}
 | shape r k ih=> intro w;exact ih _ _
 | freeze a n k ih=>
  intro w
  have : (w.freeze a n).drawn=w.drawn:=by unfold World.freeze;split <;> rfl
  rw [←this];exact ih _
 | frozen a k ih=> intro w;exact ih _ _
 | getObj r k ih=>
  intro w
  unfold Sem.run
  split
  ·exact Nat.le_refl _
  ·exact ih _ _
  ·exact Nat.le_refl _
 | setObj r o k ih=>
  intro w
  unfold Sem.run
  split
  ·exact Nat.le_refl _
  ·exact ih { w with heap:=w.heap.setIfInBounds r o}
  ·exact Nat.le_refl _
 | choose q k ih=>
  intro w
  unfold Sem.run
  split
  ·exact ih _ _
  ·exact Nat.le_trans (Nat.le_succ _) (ih _ { w with drawn:=w.drawn + 1})
 | sys c k ih=> intro w;exact Nat.le_trans (PO w c) (ih _ _)
 | program k ih=> intro w;exact ih _ _
 | mark m k ih=> intro w;exact ih _
 | halt h=> intro w;exact Nat.le_refl _
theorem H8 {α : Type} (p : Program) : ∀ (s : Sem α) (w : World) (es : Array Event),(s.runT p w es).1=s.run p w:=by
 intro s
 induction s with
 | store m a v k ih=>
  intro w es
  cases v
  case agg=> rfl
  case tuple=> rfl
  all_goals
   simp only [Sem.runT,Sem.run]
   split
   ·split
    ·rfl
    ·exact ih _ _
   ·split
    ·exact ih _ _
    ·rfl
 | load m a k ih=>
  intro w es
  simp only [Sem.runT,Sem.run]
  split
  ·exact ih _ _ _
  ·split
   ·exact ih _ _ _
   ·rfl
 | getObj r k ih=>
  intro w es
  simp only [Sem.runT,Sem.run]
  split
  ·rfl
  ·exact ih _ _ _
  ·rfl
 | setObj r o k ih=>
  intro w es
  simp only [Sem.runT,Sem.run]
  split
  ·rfl
  ·exact ih _ _
  ·rfl
 | choose q k ih=>
  intro w es
  simp only [Sem.runT,Sem.run]
  split
  ·exact ih _ _ _
  ·exact ih _ _ _
 | pure a=> intro w es;rfl
 | new o k ih=> intro w es;exact ih _ _ _
 | shape r k ih=> intro w es;exact ih _ _ _
 | freeze a n k ih=> intro w es;exact ih _ _
 | frozen a k ih=> intro w es;exact ih _ _ _
 | sys c k ih=> intro w es;exact ih _ _ _
 | program k ih=> intro w es;exact ih _ _ _
 | mark m k ih=> intro w es;exact ih _ _
 | halt h=> intro w es;rfl
theorem fR {α : Type} {p : Program} {s : Sem α} {w w' : World} {a : α} (h : s.run p w= .ok a w') : w.drawn≤w'.drawn:=by have:=xF p s w;rw [h] at this;exact this
theorem H9 {α : Type} {p : Program} {s : Sem α} {w w' : World} {a : Halt} (h : s.run p w= .halt a w') : w.drawn≤w'.drawn:=by have:=xF p s w;rw [h] at this;exact this
theorem jS {α : Type} {p : Program} {s : Sem α} {w : World} {es es' : Array Event} {r : Result α} (h : s.runT p w es=(r,es')) : w.drawn≤(PN r).drawn:=by
 have:=H8 p s w es
 rw [h] at this
 have h2:=xF p s w
 rw [←this] at h2
 exact h2
def gLe (w : World) : GStep→Prop
 | .ended .. => True
 | .go _ w' _ | .comm _ _ _ _ w' _ | .spawn _ _ w' _ | .count _ w' _ | .timer _ _ w' _ | .alone _ _ w' _ | .newcoro _ _ _ w' _ | .coroswitch _ _ _ w' _ | .collect _ w' _ | .watch _ w' _=> w.drawn≤w'.drawn
theorem gLe.after {w : World} {es : Array Event} {s : GStep} (h : gLe w s) : gLe w (s.after es) :=by cases s <;> exact h
theorem gLe.trans {w w' : World} {s : GStep} (h1 : w.drawn≤w'.drawn) (h : gLe w' s) : gLe w s:=by cases s <;> first | trivial | exact Nat.le_trans h1 h
theorem qx {c : Prop} [Decidable c] {w : World} {a b : GStep} (h1 : gLe w a) (h2 : gLe w b) : gLe w (if c then a else b) :=by split <;> assumption
theorem kP (fr : Frame) (m : String) (w : World) : gLe w (endThrow fr m w) :=Nat.le_refl _
theorem nN (p : Program) (fr : Frame) (v : Value) (w : World) : gLe w (endPrinting p fr v w) :=by
 unfold endPrinting
 dsimp only
 split
 ·exact kP _ _ _
 ·trivial
theorem sa (p : Program) (fr : Frame) (callers : List Frame) (dying : Option Dying) (m : String) (w : World) : gLe w (endFatal p fr callers dying m w) :=by
 unfold endFatal
 extract_lets
 split
 ·rename_i h;exact fR h
 ·trivial
 ·trivial
theorem Bk (p : Program) (fr : Frame) (d : Dying) (f : Fatal) (w : World) : gLe w (writeOn p fr d f w) :=by
 unfold writeOn
 extract_lets
 split
 ·trivial
 ·extract_lets
  generalize h : Sem.runT _ _ _ _=rr
  obtain ⟨r,es⟩ :=rr
  have h:=jS h
  split
  ·rename_i e;cases e;exact h
  ·rename_i e;cases e;exact h
  ·trivial
  ·trivial
theorem Bl (w w' : World) (fd : Nat) (t : ByteArray) (o : Outcome) : gLe w (endWith w' fd t o) :=by
 unfold endWith
 extract_lets
 split
 ·split <;> trivial
 ·trivial
 ·trivial
theorem PS (p : Program) (fr : Frame) (d : Dying) (w : World) : gLe w (die p fr d w) :=by
 unfold die
 split
 ·exact Bk _ _ _ _ _
 ·split
  ·split
   ·exact Nat.le_refl _
   ·exact Bl _ _ _ _ _
  ·extract_lets
   split
   ·exact Nat.le_refl _
   ·split
    ·rename_i h;exact fR h
    ·trivial
   ·split
    rename_i h
    have h:=jS h
    refine gLe.after ?_
    split
    all_goals first | exact h | trivial | exact gLe.trans h (nN _ _ _ _)
   ·trivial
theorem nO (p : Program) (main : Bool) (fr : Frame) (callers : List Frame) (dying : Option Dying) (v : Value) (w : World) : gLe w (doReturn p main fr callers dying v w) :=by
 unfold doReturn
 split
 ·split
  all_goals exact Nat.le_refl _
 ·split
  ·exact Nat.le_refl _
  ·trivial
  ·split
   ·exact Nat.le_refl _
   ·split
    ·exact Nat.le_refl _
    ·trivial
theorem sL (p : Program) (fr : Frame) (callers : List Frame) (dying : Option Dying) (d : Deferred) (w : World) : gLe w (callDeferred p fr callers dying d w) :=by
 unfold callDeferred
 refine qx trivial ?_
 rcases h : (invoke d.target d.args).runT p w #[] with ⟨r,es⟩
 have h:=jS h
 dsimp only
 refine gLe.after ?_
 split
 all_goals first | exact h | trivial | exact gLe.trans h (sa _ _ _ _ _ _) | exact gLe.trans h (kP _ _ _) | skip
 split <;> exact h
theorem EJ (p : Program) (main : Bool) (fr : Frame) (callers : List Frame) (dying : Option Dying) (w : World) : gLe w (unwind p main fr callers dying w) :=by
 unfold unwind
 split
 ·split
  rename_i h
  have h:=jS h
  refine gLe.after ?_
  split
  ·exact h
  ·trivial
 ·exact sL _ _ _ _ _ _
 ·split
  ·trivial
  ·split
   ·trivial
   ·split
    ·exact Nat.le_refl _
    ·split
     ·split
      ·exact Nat.le_refl _
      ·split
       ·rename_i h;exact fR h
       ·trivial
       ·trivial
     ·split
      ·exact nN _ _ _ _
      ·trivial
  ·split
   ·exact nO _ _ _ _ _ _ _
   ·split
    rename_i h
    have h:=jS h
    refine gLe.after ?_
    split
    ·exact gLe.trans h (nO _ _ _ _ _ _ _)
    ·trivial
    ·trivial
theorem H_ (p : Program) (fr : Frame) (callers : List Frame) (dying : Option Dying) (g : Nat) (w : World) : gLe w (early p fr callers dying g w) :=by
 unfold early
 extract_lets refuse notYet there
 have hn : ∀ w0 : World,w.drawn≤w0.drawn→gLe w (notYet w0) :=fun w0 h0=> by
  show gLe w (match w0.heap[g]? with | some (.pending c elem) => _ | _=> _)
  split
  ·exact h0
  ·trivial
 split
 ·exact hn w (Nat.le_refl _)
 ·split
  ·trivial
  ·extract_lets there
   have ht : ∀ w0 : World,w.drawn≤w0.drawn→gLe w (there w0) :=fun w0 h0=> h0
   split
   ·exact hn w (Nat.le_refl _)
   ·split
    ·exact hn w (Nat.le_refl _)
    ·split
     ·trivial
     ·exact ht w (Nat.le_refl _)
     ·trivial
     ·exact hn w (Nat.le_refl _)
     ·split
      ·exact ht w (Nat.le_refl _)
      ·split
       ·exact hn w (Nat.le_refl _)
       ·split
        ·rename_i h;exact hn _ (fR h)
        ·rename_i h;exact ht _ (fR h)
        ·trivial
end Go.Sx
end
section
namespace Go.Sx
theorem nP (p : Program) (listen : Bool) (fr : Frame) (callers : List Frame) (dying : Option Dying) (s : Sem Next) (w : World) : gLe w (Go.stepG.apply p listen fr callers dying s w) :=by
 unfold Go.stepG.apply
 extract_lets go kind
 have hr : ∃ r es,(if listen=true then s.runT p w #[] else (s.run p w,#[]))=(r,es)∧w.drawn≤(PN r).drawn:=by
  split
  ·rcases h : s.runT p w #[] with ⟨r,es⟩
   exact ⟨r,es,rfl,jS h⟩
  ·exact ⟨_,_,rfl,xF p s w⟩
 obtain ⟨r,es,he,h⟩ :=hr
 rw [he]
 dsimp only
 refine gLe.after ?_
 have hgo : ∀ fr w0,w.drawn≤w0.drawn→gLe w (go fr w0) :=fun fr w0 h0=> h0
 split
 all_goals first | exact h | trivial | exact hgo _ _ h | exact gLe.trans h (sa _ _ _ _ _ _) | exact gLe.trans h (kP _ _ _) | exact gLe.trans h (H_ _ _ _ _ _ _) | skip
 all_goals first | (refine qx (gLe.trans h (kP _ _ _)) ?_;exact h) | (split <;> first | exact h | trivial | exact hgo _ _ h)
theorem M4 (p : Program) (listen : Bool) (fr : Frame) (callers : List Frame) (dying : Option Dying) (w : World) : gLe w (Go.stepG.oper p listen fr callers dying w) :=by
 unfold Go.stepG.oper
 split
 ·trivial
 ·split
  ·exact nP _ _ _ _ _ _ _
  ·exact nP _ _ _ _ _ _ _
theorem DH {α : Type} {w : World} {o : Option α} {a : GStep} {f : α→GStep} (h1 : gLe w a) (h2 : ∀ x,gLe w (f x)) : gLe w (o.elim a f) :=by cases o;exact h1;exact h2 _
theorem M5 (p : Program) (main listen : Bool) (fr : Frame) (callers : List Frame) (dying : Option Dying) (w : World) : gLe w (Go.stepG.exec p main listen fr callers dying w) :=by
 unfold Go.stepG.exec
 extract_lets go to lost leave
 have hgo : ∀ fr w0,w.drawn≤w0.drawn→gLe w (go fr w0) :=fun fr w0 h0=> h0
 have hto : ∀ k,gLe w (to k) :=fun k=> Nat.le_refl _
 have hlost : ∀ m,gLe w (lost m) :=fun _=> trivial
 have hleave : ∀ j,gLe w (leave j) :=fun j=> by
  show gLe w (match fr.roundOf with | none=> _ | some l=> _)
  split
  ·refine qx (hgo _ _ (Nat.le_refl _)) trivial
  ·rcases h : (Instr.endRound _ j).runT p w #[] with ⟨r,es⟩
   have h:=jS h
   dsimp only
   refine gLe.after ?_
   split
   ·exact gLe.trans h (nO _ _ _ _ _ _ _)
   ·trivial
 have hgo1 : ∀ fr,gLe w (go fr w) :=fun fr=> Nat.le_refl _
 clear_value to lost leave
 split
 all_goals first | exact hleave _ | exact hto _ | exact hlost _ | trivial | exact DH (hleave _) hto | exact nP _ _ _ _ _ _ _ | exact DH (hlost _) (fun _=> nP _ _ _ _ _ _ _) | skip
 ·split
  ·exact hto _
  ·exact hlost _
 ·rcases h : (Instr.enterLoop fr.fn fr.tmps _ _ _ fr.roundOf).runT p w #[] with ⟨r,es⟩
  have h:=jS h
  dsimp only
  refine gLe.after ?_
  split
  ·exact gLe.trans h (nP _ _ _ _ _ _ _)
  ·trivial
 ·rcases h : (Instr.endLoop _).runT p w #[] with ⟨r,es⟩
  have h:=jS h
  dsimp only
  refine gLe.after ?_
  split
  ·exact hgo _ _ h
  ·exact hgo _ _ h
  ·trivial
 ·refine qx (hto _) ?_
  split
  ·rename_i h;exact hgo _ _ (fR h)
  ·trivial
 ·exact qx (M4 _ _ _ _ _ _) (hgo1 _)
theorem Ia (p : Program) (main : Bool) (g : Goroutine) (w : World) (listen : Bool) : gLe w (Go.stepG p main g w listen) :=by
 unfold Go.stepG
 obtain ⟨fr,callers,st,dying,off⟩ :=g
 dsimp only
 split
 ·exact PS _ _ _ _
 ·exact M5 _ _ _ _ _ _ _
 ·exact EJ _ _ _ _ _ _
def sLe (w : World) : Stepped→Prop
 | .next m=> w.drawn≤m.world.drawn
 | .ended .. => True
theorem sLe.trans {w w' : World} {s : Stepped} (h1 : w.drawn≤w'.drawn) (h : sLe w' s) : sLe w s:=by cases s <;> first | trivial | exact Nat.le_trans h1 h
theorem DI {c : Prop} [Decidable c] {w : World} {a b : Stepped} (h1 : sLe w a) (h2 : sLe w b) : sLe w (if c then a else b) :=by split <;> assumption
theorem DJ (p : Program) (gs : Array Goroutine) (rest : Rest) (w : World) : sLe w (look p gs rest w) :=by
 unfold look
 split
 ·extract_lets
  refine DI trivial ?_
  split
  ·trivial
  ·extract_lets
   split
   ·rename_i h
    have h:=fR h
    exact h
   ·trivial
   ·trivial
 ·trivial
theorem xG {rest : Rest} {cases : Array CommCase} {w w' : World} (h : waitingAt rest cases w=some w') : w.drawn≤w'.drawn:=by
 unfold waitingAt at h
 split at h
 ·split at h
  ·cases h;exact Nat.le_refl _
  ·cases h
 ·cases h;exact Nat.le_refl _
theorem uq (p : Program) (rest : Rest) (gs : Array Goroutine) (i : Nat) (g : Goroutine) (cases : Array CommCase) (bl : Bool) (shape : CommShape) (w : World) : sLe w (communicate p rest gs i g cases bl shape w).1:=by
 unfold communicate
 extract_lets put illMade me other
 have hput : ∀ g gs w0 ops,w.drawn≤w0.drawn→sLe w (put g gs w0 ops).1:=fun _ _ _ _ h=> h
 split
 ·trivial
 ·split
  ·split
   ·split
    ·rename_i h;exact xG h
    ·trivial
   ·exact hput _ _ _ _ (Nat.le_refl _)
  ·split
   ·trivial
   ·rename_i h
    have hw:=fR h
    clear h
    extract_lets r
    split
    ·split
     ·rename_i h2;exact hput _ _ _ _ (Nat.le_trans hw (H9 h2))
     ·trivial
    ·exact hput _ _ _ _ hw
    ·exact hput _ _ _ _ hw
    ·extract_lets
     split
     ·exact hput _ _ _ _ hw
     ·split
      ·rename_i h2;have h3:=fR h2;exact hput _ _ _ _ (Nat.le_trans hw h3)
      ·trivial
    ·exact hput _ _ _ _ hw
    ·exact hput _ _ _ _ hw
    ·trivial
theorem wl (m : Machine) (k : Nat) (t : Timer) (a b : Nat) : m.world.drawn≤(retime m k t a b).2.world.drawn:=by
 unfold retime drain
 dsimp only
 repeat' split
 all_goals first | exact Nat.le_refl _ | skip
 all_goals (simp_all;try omega)
theorem Bm {m m' : Machine} {op : TimerOp} {v : Value} (h : timerOp m op= .ok (v,m')) : m.world.drawn≤m'.world.drawn:=by
 have named : ∀ (D : Nat) (m0 : Machine) var f,(∀ k t,D≤(f k t).2.world.drawn)→timerOp.named m0 var f= .ok (v,m')→D≤m'.world.drawn:=fun D m0 var f hf h=> by
  unfold timerOp.named at h
  split at h
  ·injection h with h
   exact Nat.le_trans (hf _ _) (Nat.le_of_eq (congrArg (fun x : Value×Machine=> x.2.world.drawn) h))
  ·cases h
 unfold timerOp at h
 split at h
 ·split at h
  ·cases h;exact Nat.le_refl _
  ·split at h
   ·split at h
    ·cases h
    ·cases h;exact Nat.le_refl _
   ·cases h
 ·exact named _ _ _ _ (fun k t=> wl _ _ _ _ _) h
 ·split at h
  ·rename_i m1 ho
   have h1 : m.world.drawn≤m1.world.drawn:=by
    unfold timerOp.opened at ho
    split at ho
    ·split at ho
     ·cases ho;exact Nat.le_refl _
     ·cases ho
    ·cases ho;exact Nat.le_refl _
   exact Nat.le_trans h1 (named m1.world.drawn _ _ _ (fun k t=> wl _ _ _ _ _) h)
  ·cases h
 ·cases h;exact Nat.le_refl _
theorem Ib (p : Program) (m : Machine) (i : Nat) (listen : Bool) : sLe m.world (Go.runT p m i listen).1:=by
 unfold Go.runT
 extract_lets rest world
 split
 extract_lets wake fn pos s ops done
 have hs : gLe m.world s:=Ia _ _ _ _ _
 have hd : ∀ r,(done r).1=r:=fun r=> rfl
 clear_value s done
 split
 all_goals try rw [hd]
 ·trivial
 ·split
  rename_i h
  have:=uq p rest ‹_› i ‹_› ‹_› ‹_› ‹_› ‹_›
  rw [h] at this
  exact sLe.trans hs this
 ·exact hs
 ·exact hs
 ·exact DI trivial hs
 ·exact hs
 ·exact sLe.trans hs (DJ _ _ _ _)
 ·exact hs
 ·exact hs
 ·split
  ·exact hs
  ·split
   ·rename_i h
    simp only [endThrow,dieOf] at h
    cases h
    exact hs
   ·trivial
  ·trivial
 ·split
  ·rename_i h;exact Nat.le_trans hs (Bm h)
  ·exact hs
  ·trivial
  ·trivial
theorem Ic (p : Program) (m : Machine) (k : Nat) : sLe m.world (serve p m k) :=by
 unfold serve
 split
 ·trivial
 ·exact Nat.le_refl _
 ·extract_lets
  split
  ·trivial
  ·exact Nat.le_refl _
def mLe (w : World) : Move→Prop
 | .goroutine m _=> w.drawn≤m.world.drawn
 | .machine s _=> sLe w s
theorem mLe.trans {w w' : World} {s : Move} (h1 : w.drawn≤w'.drawn) (h : mLe w' s) : mLe w s:=by
 cases s
 ·exact Nat.le_trans h1 h
 ·exact sLe.trans h1 h
theorem ur (p : Program) (m : Machine) : mLe m.world (askOn p m) :=by
 unfold askOn
 extract_lets mono rs ds pick
 have hpick : ∀ m0 : Machine,m.world.drawn≤m0.world.drawn→mLe m.world (pick m0) :=fun m0 h0=> by
  show mLe m.world (match (choose (.sched rs.length)).run p m0.world with | .halt _ w=> _ | .ok k world=> _)
  split
  ·trivial
  ·rename_i h
   have h1:=fR h
   split
   ·exact Nat.le_trans h0 h1
   ·split
    ·trivial
    ·rename_i h2
     have h2:=fR h2
     exact Nat.le_trans h0 (Nat.le_trans h1 h2)
 clear_value pick rs ds
 split
 ·trivial
 ·rename_i h
  have hw:=fR h
  clear h
  extract_lets m1
  split
  ·exact sLe.trans hw (Ic p _ _)
  ·cases rs with
   | nil=>
    dsimp only
    split
    ·exact hw
    ·split
     ·exact hw
     ·split <;> trivial
   | cons r rs=>
    dsimp only
    split
    ·exact hpick _ hw
    ·split
     ·trivial
     ·rename_i h;have h2:=fR h;exact hpick _ (Nat.le_trans hw h2)
     ·rename_i h;have h2:=fR h;exact Nat.le_trans hw h2
     ·rename_i h;have h2:=fR h;exact hpick _ (Nat.le_trans hw h2)
theorem zo (p : Program) (m : Machine) : mLe m.world (ask p m) :=by
 unfold ask
 split
 ·split
  ·trivial
  ·rename_i h
   have hw:=fR h
   have:=DJ p m.gs m.rest ‹World›
   split
   ·rename_i m2 h2
    rw [h2] at this
    exact mLe.trans (Nat.le_trans hw this) (ur p _)
   ·rename_i e h2
    exact sLe.trans hw this
  ·rename_i h
   have hw:=fR h
   exact mLe.trans hw (ur p _)
 ·exact ur p m
theorem M6 (p : Program) (m : Machine) : mLe m.world (move p m) :=by
 unfold move
 split
 ·split
  ·exact Nat.le_refl _
  ·trivial
 ·split
  ·split
   ·exact Nat.le_refl _
   ·exact zo p _
  ·exact zo p m
theorem M7 (p : Program) (m : Machine) : sLe m.world (step p m) :=by
 unfold step stepT
 have:=M6 p m
 split
 ·rename_i h
  rw [h] at this
  exact sLe.trans this (Ib p _ _ _)
 ·rename_i h
  rw [h] at this
  exact this
theorem zp {p : Program} {m m' : Machine} (h : Steps p m m') : m.world.drawn≤m'.world.drawn:=by
 obtain ⟨n,hn⟩ :=h
 induction n generalizing m with
 | zero=> simp only [runN,Stepped.next.injEq] at hn;subst hn;exact Nat.le_refl _
 | succ n ih=>
  simp only [runN] at hn
  have:=M7 p m
  cases hs : step p m with
  | next m1=>
   rw [hs] at hn this
   exact Nat.le_trans this (ih hn)
  | ended o w=> rw [hs] at hn;cases hn
theorem zq {P : Program} {f : FuncId} {args : Array Value} {w : World} {R : Ending→World→Prop} (h : Calls P f args w R) : Calls P f args w fun e w'=> R e w'∧(e≠ .outgrown→w.drawn≤w'.drawn) :=by
 intro cs
 obtain ⟨e,w',fr,hr,hc,hf,hl⟩ :=h cs
 refine ⟨e,w',fr,⟨hr,fun hne=> ?_⟩,hc,hf,hl⟩
 cases e with
 | returned v=> exact zp (p:=P) hc
 | panicked c=> exact zp (p:=P) hc
 | outgrown=> exact absurd rfl hne
end Go.Sx
end
section
namespace Go.Sx
open Go.RowKit Go.Shelf Go.Lib Go.Sort Go.Proofs
def TH : SV→Value
 | .v x=> x
 | _=> undef
def jT (k : Tag) (x : k.T) : List Value:=(cellsOf k x).map TH
def xH (k : Tag) : Prop:= ∀ (x : k.T) (s : SV),s∈cellsOf k x→∃ v,s= .v v∧v.oneCell'=true
def srt {α : Type} (cf : α→α→Int) (l : List α) : List α:=l.mergeSort fun x y=> !(ltOf cf y x)
def apart {α : Type} (cf : α→α→Int) (l : List α) : Prop:= ∀ x∈l,∀ y∈l,ltOf cf x y=false→ltOf cf y x=false→x=y
theorem Bn {α : Type} [Inhabited α] {cf : α→α→Int} (hO : SWO (ltOf cf)) {l : List α} (h : apart cf l) {d' : Array α} (hp : PermIn 0 l.toArray.size l.toArray d') (hs : SortedIn (ltOf cf) 0 l.toArray.size d') : d'=(srt cf l).toArray:=by
 obtain ⟨hsz,_,hperm⟩ :=hp
 have e1 : d'.extract 0 l.toArray.size=d':=by rw [←hsz];exact Array.extract_size
 rw [e1,Array.extract_size] at hperm
 have hperm : d'.toList.Perm l:=by simpa using hperm
 have : d'.toList=srt cf l:=by
  refine List.Perm.eq_of_pairwise (le:=fun x y=> (!ltOf cf y x)=true) ?_ ?_ ?_ (hperm.trans (List.mergeSort_perm _ _).symm)
  ·intro a b ha hb h1 h2
   simp only [Bool.not_eq_true'] at h1 h2
   exact h a (hperm.subset ha) b ((List.mergeSort_perm _ _).subset hb) h2 h1
  ·rw [List.pairwise_iff_getElem]
   intro i j hi hj hij
   have:=hs i j (Nat.zero_le _) hij (by simp only [List.size_toArray] at hsz ⊢;simp only [Array.length_toList] at hj;omega)
   simp only [Array.length_toList] at hi hj
   rw [getElem!_pos d' i hi,getElem!_pos d' j hj] at this
   simpa using this
  ·refine List.pairwise_mergeSort (fun a b c h1 h2=> ?_) (fun a b=> ?_) l
   ·simp only [Bool.not_eq_true'] at h1 h2 ⊢
    exact hO.ntrans c b a h2 h1
   ·simp only [Bool.or_eq_true,Bool.not_eq_true']
    cases h1 : ltOf cf b a with
    | false=> exact .inl rfl
    | true=>
     right
     cases h2 : ltOf cf a b with
     | false=> rfl
     | true=>
      have h3:=hO.trans a b a h2 h1
      rw [hO.irrefl] at h3;cases h3
 rw [←this]
section
variable {P : Program} {ρ : Ren} {F : Nat→Prop} {own : Own} {w : World} {k : Tag}
theorem EK (hk : xH k) {l : List k.T} {o : Nat} {cs : Array Value} (h : RowAt F own w k l o cs) {i j : Nat} (hi : i < l.length) (hj : j < aa k) : cs[o + i * aa k + j]? =(jT k l[i])[j]? :=by
 have e1:=List.getElem?_eq_getElem hi
 have hlen : j < (cellsOf k l[i]).length:=by rw [bj];exact hj
 have e2:=List.getElem?_eq_getElem hlen
 obtain ⟨u,h1,h2⟩ :=h i _ e1 j _ e2
 obtain ⟨v,h3,_⟩ :=hk l[i] _ (List.getElem_mem hlen)
 rw [h1]
 unfold jT
 rw [List.getElem?_map,e2]
 rw [h3] at h2 ⊢
 rw [bE h2]
 rfl
theorem EL (hk : xH k) {l : List k.T} {o : Nat} {cs : Array Value} (h : ∀ i j,(hi : i < l.length)→j < aa k→cs[o + i * aa k + j]? =(jT k l[i])[j]?) : RowAt F own w k l o cs:=by
 intro i x hi j s hj
 obtain ⟨hl,rfl⟩ :=List.getElem?_eq_some_iff.1 hi
 have hlen:=(List.getElem?_eq_some_iff.1 hj).1
 rw [bj] at hlen
 have:=h i j hl hlen
 unfold jT at this
 rw [List.getElem?_map,hj] at this
 obtain ⟨v,h3,_⟩ :=hk _ s (List.mem_of_getElem? hj)
 subst h3
 exact ⟨v,this,.v v⟩
theorem M8 {w w' : World} (hb : Go.RowKit.Below w.heap.size w w') (hd : w.drawn≤w'.drawn) : ∃ q os,w'=grow (w.drewN q) os:=by
 refine ⟨w'.drawn - w.drawn,w'.heap.extract w.heap.size w'.heap.size,?_⟩
 obtain ⟨h1,h2,h3,h4,h5⟩ :=hb
 obtain ⟨heap,tape,drawn,os,output⟩ :=w
 obtain ⟨heap',tape',drawn',os',output'⟩ :=w'
 simp only at h1 h2 h3 h4 h5 hd
 subst h1;subst h2;subst h3
 unfold grow World.drewN
 simp only [World.mk.injEq,true_and,and_true]
 refine ⟨?_,by omega⟩
 apply Array.ext
 ·simp;omega
 ·intro i hi1 hi2
  by_cases hi : i < heap.size
  ·rw [Array.getElem_append_left hi]
   have:=h5 i hi
   rw [Array.getElem?_eq_getElem hi1,Array.getElem?_eq_getElem hi] at this
   exact Option.some.inj this
  ·rw [Array.getElem_append_right (by omega)]
   simp only [Array.getElem_extract]
   congr 1;omega
end
end Go.Sx
end
