/- Part of the proof that the law TimetableSure returns true and leaves its arguments as they were, for all arguments of bulk at most 1048576 (the Upto form). -/
import Derived.Test.YtagjakphhkfofaaGreatC307
import Derived.Sort.Statements
import Derived.Shelf.SlSortCmp.Insertion
import Derived.Calls
import Derived.Shelf.SlSortCmp.NoneTotal
set_option linter.all false
section
namespace Go.Sx
open Go.Proofs
set_option maxRecDepth 100000
set_option linter.unusedSimpArgs false
theorem zX {p : Prop} (h : p:=by (first | done | (repeat' (first | with_reducible refine And.intro ?_ ?_ | ((with_reducible show _≠_);first | assumption | omega | (simp_all [aG,aK];done) | grind) | with_reducible intro _)) <;> (first | done | exact Empty.elim ‹Empty› | assumption | rfl | omega | decide | exact fk [0] | (simp only [*,cond_true,cond_false,Bool.not_true,Bool.not_false,go_sem,Nat.reduceBEq,Nat.reduceLeDiff,Nat.reduceLT,decide_true,Nat.reduceAdd,Nat.reduceSub,Nat.reduceMul,Int.reduceLE,Int.reduceLT,Int.reduceToNat,Int.reduceNeg,reduceCtorEq];done) | (simp only [*,cond_true,cond_false,Bool.not_true,Bool.not_false,go_sem,Nat.reduceBEq,Nat.reduceLeDiff,Nat.reduceLT,decide_true,Nat.reduceAdd,Nat.reduceSub,Nat.reduceMul,Int.reduceLE,Int.reduceLT,Int.reduceToNat,Int.reduceNeg,reduceCtorEq];(repeat' (first | with_reducible refine And.intro ?_ ?_ | ((with_reducible show _≠_);first | assumption | omega | (simp_all [aG,aK];done) | grind) | with_reducible intro _)) <;> (first | done | assumption | rfl | omega | decide | exact fk [0] | (simp_all [aG,aK];done))) | (simp_all [okI,aG,aK];done) | (simp_all [aG,aK];(first | done | exact fk2 [0])) | exact fk2 [0]))) : p:=h
theorem oE {p : Prop} (h : p:=by simp only [go_sem,Nat.reduceBEq,Nat.reduceLeDiff,Nat.reduceLT,decide_true,Nat.reduceAdd,Nat.reduceSub,Nat.reduceMul,Int.reduceLE,Int.reduceLT,Int.reduceToNat,Int.reduceNeg,reduceCtorEq,hc,hw];all_goals exact zX) : p:=h
theorem oF {p : Prop} (h : p:=by simp only [go_sem,Nat.reduceBEq,Nat.reduceLeDiff,Nat.reduceLT,decide_true,Nat.reduceAdd,Nat.reduceSub,Nat.reduceMul,Int.reduceLE,Int.reduceLT,Int.reduceToNat,Int.reduceNeg,reduceCtorEq,hc];all_goals exact zX) : p:=h
def fv (x : Int) : Bool:=(x !=x)
@[go_sem] def nL : List SV→Option Con:=(pI fun x=> (pE (.det True (.v (.bool (fv x))))))
theorem sL : FnOk Tryz.prog 113 nL:=by
 have hG : ConsOk Tryz.prog (mkG [] []) :=aQ cg0 cg0
 refine bb [.o] mixed aH hG (fn:=Tryz.f113) (c:=aj Tryz.f113) (by kernel_rfl) (by kernel_rfl) (by kernel_rfl) (by kernel_rfl) (dV fun x=> (aM (fun hp=> ?_)))
 dsimp only [aW] at hp
 refine ⟨Nat.le_of_ble_eq_true rfl,L0,aw _,?_⟩
 ·unfold aj Tryz.f113
  try unfold fv
  simp only [go_sem,Nat.reduceBEq,Nat.reduceLeDiff,Nat.reduceLT,decide_true,Nat.reduceAdd,Nat.reduceSub,Nat.reduceMul,Int.reduceLE,Int.reduceLT,Int.reduceToNat,Int.reduceNeg,reduceCtorEq]
  all_goals exact cl
def aS (x : Int) (y : Int) : Int:=(bif (fv x) then (bif (fv y) then 0 else (-1)) else (bif (fv y) then 1 else (bif (decide (x < y)) then (-1) else (bif (decide (x > y)) then 1 else 0))))
@[go_sem] def cq : List SV→Option Con:=(pI fun x=> (pI fun y=> (pE (.det True (.v (.int .i64 (aS x y)))))))
theorem cP : FnOk Tryz.prog 70 cq:=by
 have hG : ConsOk Tryz.prog (mkG [(113,nL)] []) :=aQ (cgc sL cg0) cg0
 refine bb [.o] mixed aH hG (fn:=Tryz.f70) (c:=aj Tryz.f70) (by kernel_rfl) (by kernel_rfl) (by kernel_rfl) (by kernel_rfl) (dV fun x=> (dV fun y=> (aM (fun hp=> ?_))))
 dsimp only [aW] at hp
 refine ⟨Nat.le_of_ble_eq_true rfl,L0,aw _,?_⟩
 ·unfold aj Tryz.f70
  try unfold aS
  simp only [go_sem,Nat.reduceBEq,Nat.reduceLeDiff,Nat.reduceLT,decide_true,Nat.reduceAdd,Nat.reduceSub,Nat.reduceMul,Int.reduceLE,Int.reduceLT,Int.reduceToNat,Int.reduceNeg,reduceCtorEq]
  all_goals exact cl
def er (n : Int) : Int:=(bif (decide (n < 0)) then (IntKind.u64.wrap (0 - (IntKind.u64.wrap n))) else (IntKind.u64.wrap n))
@[go_sem] def lR : List SV→Option Con:=(pI fun n=> (pE (.det True (.v (.int .u64 (er n))))))
theorem qC : FnOk Tryz.prog 176 lR:=by
 have hG : ConsOk Tryz.prog (mkG [] []) :=aQ cg0 cg0
 refine bb [.o] mixed aH hG (fn:=Tryz.f176) (c:=aj Tryz.f176) (by kernel_rfl) (by kernel_rfl) (by kernel_rfl) (by kernel_rfl) (dV fun n=> (aM (fun hp=> ?_)))
 dsimp only [aW] at hp
 refine ⟨Nat.le_of_ble_eq_true rfl,L0,aw _,?_⟩
 ·unfold aj Tryz.f176
  try unfold er
  simp only [go_sem,Nat.reduceBEq,Nat.reduceLeDiff,Nat.reduceLT,decide_true,Nat.reduceAdd,Nat.reduceSub,Nat.reduceMul,Int.reduceLE,Int.reduceLT,Int.reduceToNat,Int.reduceNeg,reduceCtorEq]
  all_goals exact cl
def b9 (a : Ratio) : Int:=(bif (((((decide (a.d < 1)) || (decide (a.d > 1073741824))) || (decide (a.n < (-1073741824)))) || (decide (a.n > 1073741824))) || (((NV (Int.toNat (er a.n)) (Int.toNat (IntKind.u64.wrap a.d)) : Nat) : Int) !=1)) then 120 else 0)
def qa (a : Ratio) : Prop:=(((((decide (a.d < 1)) || (decide (a.d > 1073741824))) || (decide (a.n < (-1073741824)))) || (decide (a.n > 1073741824)))=false→(0≤(er a.n)∧0≤(IntKind.u64.wrap a.d)))
theorem vp (n : Int) : 0≤IntKind.u64.wrap n:=by
 simp [IntKind.wrap,IntKind.bits,IntKind.signed];omega
theorem sM (n : Int) : 0≤er n:=by
 unfold er
 cases decide (n < 0) <;> exact vp _
theorem vr (a : Ratio) : qa a:=fun _=> ⟨sM _,vp _⟩
@[go_sem] def jx : List SV→Option Con:=(pD .ratio fun a=> (pE (.det True (.v (.int .i64 (b9 a))))))
theorem k9 : FnOk Tryz.prog 152 jx:=by
 have hG : ConsOk Tryz.prog (mkG [(175,C83),(176,lR)] []) :=aQ (cgc QT (cgc qC cg0)) cg0
 refine bb [.o] mixed aH hG (fn:=Tryz.f152) (c:=aj Tryz.f152) (by kernel_rfl) (by kernel_rfl) (by kernel_rfl) (by kernel_rfl) (bU fun a=> (aM (fun hp=> ?_)))
 dsimp only [aW] at hp
 have hp:=vr a
 unfold qa at hp
 refine ⟨Nat.le_of_ble_eq_true rfl,L0,aw _,?_⟩
 ·unfold aj Tryz.f152
  try unfold b9
  simp only [go_sem,Nat.reduceBEq,Nat.reduceLeDiff,Nat.reduceLT,decide_true,Nat.reduceAdd,Nat.reduceSub,Nat.reduceMul,Int.reduceLE,Int.reduceLT,Int.reduceToNat,Int.reduceNeg,reduceCtorEq,C83]
  all_goals exact cl
def et (a : Ratio) (b : Ratio) : Int×Int:=(bif (((b9 a) !=0) || ((b9 b) !=0)) then (0,120) else ((aS (IntKind.i64.wrap (a.n * b.d)) (IntKind.i64.wrap (b.n * a.d))),0))
@[go_sem] def oG : List SV→Option Con:=(pD .ratio fun a=> (pD .ratio fun b=> (pE (.det True (.tup [.v (.int .i64 ((et a b).1)),.v (.int .i64 ((et a b).2))])))))
theorem rA : FnOk Tryz.prog 151 oG:=by
 have hG : ConsOk Tryz.prog (mkG [(70,cq),(152,jx)] []) :=aQ (cgc cP (cgc k9 cg0)) cg0
 refine bb [.o,.o] mixed aH hG (fn:=Tryz.f151) (c:=aj Tryz.f151) (by kernel_rfl) (by kernel_rfl) (by kernel_rfl) (by kernel_rfl) (bU fun a=> (bU fun b=> (aM (fun hp=> ?_))))
 dsimp only [aW] at hp
 refine ⟨Nat.le_of_ble_eq_true rfl,L0,aw _,?_⟩
 ·unfold aj Tryz.f151
  try unfold et
  simp only [go_sem,Nat.reduceBEq,Nat.reduceLeDiff,Nat.reduceLT,decide_true,Nat.reduceAdd,Nat.reduceSub,Nat.reduceMul,Int.reduceLE,Int.reduceLT,Int.reduceToNat,Int.reduceNeg,reduceCtorEq]
  all_goals exact cl
def wD (ok : Bool) (e : Int) : Unit:=(bif (!ok) then default else ())
def bV (ok : Bool) (e : Int) : Bool:=(bif (!ok) then false else true)
@[go_sem] def j6 : List SV→Option Con:=(pB fun ok=> (pI fun e=> (pE (.may (bV ok e) (.tup []) (.iface 169 (.int .i64 e))))))
theorem mK : FnOk Tryz.prog 75 j6:=by
 have hG : ConsOk Tryz.prog (mkG [] []) :=aQ cg0 cg0
 refine bb [] mixed aH hG (fn:=Tryz.f75) (c:=aj Tryz.f75) (by kernel_rfl) (by kernel_rfl) (by kernel_rfl) (by kernel_rfl) (QY fun ok=> (dV fun e=> (aM (fun hp=> ?_))))
 dsimp only [aW] at hp
 refine ⟨Nat.le_of_ble_eq_true rfl,L0,aw _,?_⟩
 ·unfold aj Tryz.f75
  try unfold wD
  try unfold bV
  simp only [go_sem,Nat.reduceBEq,Nat.reduceLeDiff,Nat.reduceLT,decide_true,Nat.reduceAdd,Nat.reduceSub,Nat.reduceMul,Int.reduceLE,Int.reduceLT,Int.reduceToNat,Int.reduceNeg,reduceCtorEq]
  all_goals exact cl
@[go_sem] def cX (l_ : List Int) (k_0 : Nat) (s_0 : Unit) : Unit⊕Unit:=(bif (decide ((l_.getD (Int.toNat ((k_0 : Int) + 1)) (0 : Int)) < (l_.getD (Int.toNat (IntKind.i64.wrap (((k_0 : Int) + 1) - 1))) (0 : Int)))) then .inl () else .inr ())
def fb (l_ : List Int) (k_0 : Nat) (s_0 : Unit) : Prop:=(l_.length≤bu→((0≤((k_0 : Int) + 1)∧((k_0 : Int) + 1) < (l_.length : Int))∧(0≤(IntKind.i64.wrap (((k_0 : Int) + 1) - 1))∧(IntKind.i64.wrap (((k_0 : Int) + 1) - 1)) < (l_.length : Int))))
def aR (l_ : List Int) : Bool:=(match az (cX l_) (l_.length - 1) 0 () with | .inl x_0_0=> false | .inr s_0=> true)
def nM (l_ : List Int) : Prop:=okI (cX l_) (fb l_) (l_.length - 1) 0 ()
theorem sN (l_ : List Int) : nM l_:=py _ _ _ fun j s h1 h2 hm=> by
 unfold bu at hm
 rw [cd (by omega) (by omega)]
 omega
@[go_sem] def gS : List SV→Option Con:=(pR .int fun l_=> (pE (.det True (.v (.bool (aR l_))))))
set_option maxHeartbeats 4000000 in
theorem je : FnOk Tryz.prog 117 gS:=by
 have hG : ConsOk Tryz.prog (mkG [] []) :=aQ cg0 cg0
 refine bb [.o] mixed aH hG (fn:=Tryz.f117) (c:=aj Tryz.f117) (by kernel_rfl) (by kernel_rfl) (by kernel_rfl) (by kernel_rfl) (c8 fun l_=> (aM (fun hp=> ?_)))
 dsimp only [aW] at hp
 have hp:=sN l_
 unfold nM at hp
 refine ⟨Nat.le_of_ble_eq_true rfl,(fun id st=> bif Nat.beq id 0 then some (LC (ρ:=Unit) (σ:=Unit) (lk 0 st.t= .rs .int l_∧lk 3 st.t= .v (.int .i64 1)∧st.h=[]∧okI (cX l_) (fb l_) (l_.length - 1) 0 ()) (az (cX l_) (l_.length - 1) 0 ()) (fun _=> .ret) (fun x_0_0=> ⟨[(2,.v (.bool false))],[]⟩) (fun s_0=> ⟨[],[]⟩)) else none),?_,?_⟩
 ·unfold aj Tryz.f117
  simp only [aB,true_and,and_true]
  ·refine xr mixed aH hG (by kernel_rfl) fun st lc hC hp=> ?_
   simp only [go_sem,Nat.reduceBEq,Option.some.injEq] at hC
   subst hC
   obtain ⟨t,h⟩ :=st
   dsimp only [LC] at hp
   obtain ⟨e0_0,e0_1,rfl,hok0⟩ :=hp
   refine ⟨_,_,_,(cX l_),(fb l_),(l_.length - 1),(),_,_,_,(fun k_0 s_0=> ⟨[(0,.rs .int l_),(3,.v (.int .i64 ((k_0 : Int) + 1)))],[]⟩),[],rfl,hok0,Nat.le_refl _,?_,fun k_0 s_0 hk0 hp0=> ?_⟩
   ·simp only [go_sem,Nat.reduceBEq,Nat.reduceLeDiff,Nat.reduceLT,decide_true,Nat.reduceAdd,Nat.reduceSub,Nat.reduceMul,Int.reduceLE,Int.reduceLT,Int.reduceToNat,Int.reduceNeg,reduceCtorEq,e0_0,e0_1]
    all_goals (first | done | decide | (repeat' (first | refine And.intro ?_ ?_ | rfl | decide)))
   refine ⟨L0,?_,?_⟩
   ·simp only [aB,and_self,true_and,and_true]
   ·by_cases hb0 : l_.length≤bu
    rotate_left
    ·simp only [go_sem,Nat.reduceBEq,Nat.reduceLeDiff,Nat.reduceLT,decide_true,Nat.reduceAdd,Nat.reduceSub,Nat.reduceMul,Int.reduceLE,Int.reduceLT,Int.reduceToNat,Int.reduceNeg,reduceCtorEq,hb0]
    ·by_cases hlt0 : k_0 < (l_.length - 1)
     ·have hw0 : IntKind.i64.wrap (((k_0 : Nat) : Int) + 1 + 1)=((k_0 + 1 : Nat) : Int) + 1:=by (have hbb:=hb0;have hll:=hlt0;try unfold bu at hbb);rw [cd (by omega) (by omega)];omega
      have hq0:=hp0 hlt0
      unfold fb at hq0
      replace hq0:=hq0 hb0
      try simp only [hw0,Int.toNat_natCast] at hq0
      have hc0 : decide (((k_0 : Int) + 1) < (l_.length : Int))=true:=by simp only [decide_eq_true_eq];omega
      simp only [go_sem,Nat.reduceBEq,Nat.reduceLeDiff,Nat.reduceLT,decide_true,Nat.reduceAdd,Nat.reduceSub,Nat.reduceMul,Int.reduceLE,Int.reduceLT,Int.reduceToNat,Int.reduceNeg,reduceCtorEq,cX,hc0,hw0]
      all_goals exact cl
     ·have hc0 : decide (((k_0 : Int) + 1) < (l_.length : Int))=false:=by simp only [decide_eq_false_iff_not];omega
      simp only [go_sem,Nat.reduceBEq,Nat.reduceLeDiff,Nat.reduceLT,decide_true,Nat.reduceAdd,Nat.reduceSub,Nat.reduceMul,Int.reduceLE,Int.reduceLT,Int.reduceToNat,Int.reduceNeg,reduceCtorEq,hc0]
      all_goals exact cl2
 ·unfold aj Tryz.f117
  try unfold aR
  simp only [go_sem,Nat.reduceBEq,Nat.reduceLeDiff,Nat.reduceLT,decide_true,Nat.reduceAdd,Nat.reduceSub,Nat.reduceMul,Int.reduceLE,Int.reduceLT,Int.reduceToNat,Int.reduceNeg,reduceCtorEq]
  all_goals exact cl
def cr (i : Int) (n : Int) : Bool:=((decide (i≥0)) && (decide (i < n)))
@[go_sem] def iq : List SV→Option Con:=(pI fun i=> (pI fun n=> (pE (.det True (.v (.bool (cr i n)))))))
theorem j7 : FnOk Tryz.prog 119 iq:=by
 have hG : ConsOk Tryz.prog (mkG [] []) :=aQ cg0 cg0
 refine bb [.o] mixed aH hG (fn:=Tryz.f119) (c:=aj Tryz.f119) (by kernel_rfl) (by kernel_rfl) (by kernel_rfl) (by kernel_rfl) (dV fun i=> (dV fun n=> (aM (fun hp=> ?_))))
 dsimp only [aW] at hp
 refine ⟨Nat.le_of_ble_eq_true rfl,L0,aw _,?_⟩
 ·unfold aj Tryz.f119
  try unfold cr
  simp only [go_sem,Nat.reduceBEq,Nat.reduceLeDiff,Nat.reduceLT,decide_true,Nat.reduceAdd,Nat.reduceSub,Nat.reduceMul,Int.reduceLE,Int.reduceLT,Int.reduceToNat,Int.reduceNeg,reduceCtorEq]
  all_goals exact cl
def fc (x : Ratio×Ratio) : Bool:=(((((et x.1 x.2).2==0) && (decide (x.1.n≥0))) && (decide ((et x.1 x.2).1≤0))) && (decide (x.2.n≤x.2.d)))
@[go_sem] def oH : List SV→Option Con:=(pD .ratio2 fun x=> (pE (.det True (.v (.bool (fc x))))))
theorem tN : FnOk Tryz.prog 149 oH:=by
 have hG : ConsOk Tryz.prog (mkG [(151,oG)] []) :=aQ (cgc rA cg0) cg0
 refine bb [.o] mixed aH hG (fn:=Tryz.f149) (c:=aj Tryz.f149) (by kernel_rfl) (by kernel_rfl) (by kernel_rfl) (by kernel_rfl) (bU fun x=> (aM (fun hp=> ?_)))
 dsimp only [aW] at hp
 refine ⟨Nat.le_of_ble_eq_true rfl,L0,aw _,?_⟩
 ·unfold aj Tryz.f149
  try unfold fc
  simp only [go_sem,Nat.reduceBEq,Nat.reduceLeDiff,Nat.reduceLT,decide_true,Nat.reduceAdd,Nat.reduceSub,Nat.reduceMul,Int.reduceLE,Int.reduceLT,Int.reduceToNat,Int.reduceNeg,reduceCtorEq]
  all_goals exact cl
def bN (i : Int) (x : Reach) : Bool:=(bif (decide (i > 0)) then ((((((cr x.up i) && (aR ([1,x.delay,16]))) && (aR ([0,x.siphon,x.cap,1073741824]))) && (aR ([0,x.siphon,x.bank,1099511627776]))) && (aR ([0,x.evap.lo,x.evap.hi,1073741824]))) && (fc x.seep)) else ((((((x.up==(-1)) && (aR ([1,x.delay,16]))) && (aR ([0,x.siphon,x.cap,1073741824]))) && (aR ([0,x.siphon,x.bank,1099511627776]))) && (aR ([0,x.evap.lo,x.evap.hi,1073741824]))) && (fc x.seep)))
@[go_sem] def oI : List SV→Option Con:=(pI fun i=> (pD .reach fun x=> (pE (.det True (.v (.bool (bN i x)))))))
theorem tO : FnOk Tryz.prog 118 oI:=by
 have hG : ConsOk Tryz.prog (mkG [(117,fun l=> gS (cO [.sl .int] l)),(119,iq),(149,oH)] []) :=aQ (cgc (je.norm [.sl .int]) (cgc j7 (cgc tN cg0))) cg0
 refine bb [.o] mixed aH hG (fn:=Tryz.f118) (c:=aj Tryz.f118) (by kernel_rfl) (by kernel_rfl) (by kernel_rfl) (by kernel_rfl) (dV fun i=> (bU fun x=> (aM (fun hp=> ?_))))
 dsimp only [aW] at hp
 refine ⟨Nat.le_of_ble_eq_true rfl,L0,aw _,?_⟩
 ·unfold aj Tryz.f118
  try unfold bN
  simp only [go_sem,Nat.reduceBEq,Nat.reduceLeDiff,Nat.reduceLT,decide_true,Nat.reduceAdd,Nat.reduceSub,Nat.reduceMul,Int.reduceLE,Int.reduceLT,Int.reduceToNat,Int.reduceNeg,reduceCtorEq]
  all_goals exact cl
def nt (a0 : District) (a1 : Right) : Bool:=(bif (((!(cr a1.farm (a0.farms.length : Int))) || (!(cr a1.reach (a0.reaches.length : Int)))) || (!(aR ([0,a1.since,a1.to,(IntKind.i64.wrap (a0.hours - 1))])))) then false else (bif (a1.kind==1) then ((((a1.reach==0) && (aR ([0,a1.rank,1048576]))) && (aR ([1,a1.litres,1073741824]))) && (aR ([1,a1.length,a1.every,a0.hours]))) else (bif (a1.kind==2) then ((a1.name==a1.name) && ((a1.kind==a1.kind) && ((a1.farm==a1.farm) && ((a1.reach==a1.reach) && ((a1.rank==0) && ((a1.litres==0) && ((a1.since==0) && ((a1.to==(IntKind.i64.wrap (a0.hours - 1))) && ((a1.every==0) && (a1.length==0)))))))))) else (bif (a1.kind==3) then ((a1.name==a1.name) && ((a1.kind==a1.kind) && ((a1.farm==a1.farm) && ((a1.reach==a1.reach) && ((a1.rank==0) && ((a1.litres==0) && ((a1.since==a1.since) && ((a1.to==a1.to) && ((a1.every==0) && (a1.length==0)))))))))) else false))))
@[go_sem] def oJ : List SV→Option Con:=(pD .district fun a0=> (pD .right fun a1=> (pE (.det True (.v (.bool (nt a0 a1)))))))
theorem tP : FnOk Tryz.prog 120 oJ:=by
 have hG : ConsOk Tryz.prog (mkG [(117,fun l=> gS (cO [.sl .int] l)),(119,iq)] []) :=aQ (cgc (je.norm [.sl .int]) (cgc j7 cg0)) cg0
 refine bb [.o] mixed aH hG (fn:=Tryz.f120) (c:=aj Tryz.f120) (by kernel_rfl) (by kernel_rfl) (by kernel_rfl) (by kernel_rfl) (bU fun a0=> (bU fun a1=> (aM (fun hp=> ?_))))
 dsimp only [aW] at hp
 refine ⟨Nat.le_of_ble_eq_true rfl,L0,aw _,?_⟩
 ·unfold aj Tryz.f120
  try unfold nt
  simp only [go_sem,Nat.reduceBEq,Nat.reduceLeDiff,Nat.reduceLT,decide_true,Nat.reduceAdd,Nat.reduceSub,Nat.reduceMul,Int.reduceLE,Int.reduceLT,Int.reduceToNat,Int.reduceNeg,reduceCtorEq]
  all_goals exact cl
@[go_sem] def fI (a0 : District) (a1 : Int) (k_0 : Nat) (s_0 : Unit) : Unit⊕Unit:=(bif (bV (bN (k_0 : Int) (a0.reaches.getD k_0 (default : Reach))) a1) then .inr () else .inl ())
@[go_sem] def ir (a0 : District) (a1 : Int) (k_1 : Nat) (s_1 : Unit) : Unit⊕Unit:=(bif (bV (aR ([0,(a0.crops.getD k_1 (default : Crop)).need,1048576])) a1) then .inr () else .inl ())
@[go_sem] def fJ (a0 : District) (a1 : Int) (k_2 : Nat) (s_2 : Unit) : Unit⊕Unit:=(bif (decide ((a0.farms.getD k_2 (default : Farm)).area > 0)) then (bif (bV (((cr ((a0.farms.getD k_2 (default : Farm)).crop) (a0.crops.length : Int)) && (cr ((a0.farms.getD k_2 (default : Farm)).reach) (a0.reaches.length : Int))) && (aR ([0,(a0.farms.getD k_2 (default : Farm)).area,1048576]))) a1) then .inr () else .inl ()) else (bif (bV ((((a0.farms.getD k_2 (default : Farm)).crop==(-1)) && (cr ((a0.farms.getD k_2 (default : Farm)).reach) (a0.reaches.length : Int))) && (aR ([0,(a0.farms.getD k_2 (default : Farm)).area,1048576]))) a1) then .inr () else .inl ()))
@[go_sem] def iu (a0 : District) (a1 : Int) (k_3 : Nat) (s_3 : Unit) : Unit⊕Unit:=(bif (bV (nt a0 (a0.rights.getD k_3 (default : Right))) a1) then .inr () else .inl ())
@[go_sem] def iv (a0 : District) (a1 : Int) (k_4 : Nat) (s_4 : Unit) : Unit⊕Unit:=(bif (bV (((cr ((a0.duties.getD k_4 (default : Duty)).farm) (a0.farms.length : Int)) && (cr ((a0.duties.getD k_4 (default : Duty)).reach) (a0.reaches.length : Int))) && (aR ([0,(a0.duties.getD k_4 (default : Duty)).due,a0.hours]))) a1) then .inr () else .inl ())
def vt (a0 : District) (a1 : Int) : Unit:=(bif (bV (((aR ([1,a0.hours,4096])) && (aR ([0,a0.tank.start,a0.tank.cap,1099511627776]))) && (decide ((a0.reaches.length : Int) > 0))) a1) then (match az (fI a0 a1) a0.reaches.length 0 () with | .inl x_0_0=> default | .inr s_0=> (match az (ir a0 a1) a0.crops.length 0 () with | .inl x_1_0=> default | .inr s_1=> (match az (fJ a0 a1) a0.farms.length 0 () with | .inl x_2_0=> default | .inr s_2=> (match az (iu a0 a1) a0.rights.length 0 () with | .inl x_3_0=> default | .inr s_3=> (match az (iv a0 a1) a0.duties.length 0 () with | .inl x_4_0=> default | .inr s_4=> ()))))) else default)
def eB (a0 : District) (a1 : Int) : Bool:=(bif (bV (((aR ([1,a0.hours,4096])) && (aR ([0,a0.tank.start,a0.tank.cap,1099511627776]))) && (decide ((a0.reaches.length : Int) > 0))) a1) then (match az (fI a0 a1) a0.reaches.length 0 () with | .inl x_0_0=> false | .inr s_0=> (match az (ir a0 a1) a0.crops.length 0 () with | .inl x_1_0=> false | .inr s_1=> (match az (fJ a0 a1) a0.farms.length 0 () with | .inl x_2_0=> false | .inr s_2=> (match az (iu a0 a1) a0.rights.length 0 () with | .inl x_3_0=> false | .inr s_3=> (match az (iv a0 a1) a0.duties.length 0 () with | .inl x_4_0=> false | .inr s_4=> true))))) else false)
@[go_sem] def mL : List SV→Option Con:=(pD .district fun a0=> (pI fun a1=> (pE (.may (eB a0 a1) (.tup []) (.iface 169 (.int .i64 a1))))))
set_option maxHeartbeats 4000000 in
theorem rB : FnOk Tryz.prog 76 mL:=by
 have hG : ConsOk Tryz.prog (mkG [(75,j6),(117,fun l=> gS (cO [.sl .int] l)),(118,oI),(119,iq),(120,fun l=> oJ (cO [.st .district,.st .right] l))] []) :=aQ (cgc mK (cgc (je.norm [.sl .int]) (cgc tO (cgc j7 (cgc (tP.norm [.st .district,.st .right]) cg0))))) cg0
 refine bb [] mixed aH hG (fn:=Tryz.f76) (c:=aj Tryz.f76) (by kernel_rfl) (by kernel_rfl) (by kernel_rfl) (by kernel_rfl) (bU fun a0=> (dV fun a1=> (aM (fun hp=> ?_))))
 dsimp only [aW] at hp
 refine ⟨Nat.le_of_ble_eq_true rfl,(fun id st=> bif Nat.beq id 0 then some (LCR (ρ:=Unit) (σ:=Unit) 1 [] [0] (fun k_0 s_0=> ⟨[(1,.v (.int .i64 a1)),(2,.ptr 0 0),(38,.rs .reach a0.reaches),(39,.v (.int .i64 (a0.reaches.length : Int))),(40,.v (.int .i64 (k_0 : Int)))],[.cells (cellsOf .district a0)]⟩) (fI a0 a1) pT a0.reaches.length () (a0.reaches.length≤bu) (fun _=> .pan (.iface 169 (.int .i64 a1))) (fun x_0_0=> ⟨[],[.dead]⟩) st) else bif Nat.beq id 2 then some (LCR (ρ:=Unit) (σ:=Unit) 1 [] [0] (fun k_1 s_1=> ⟨[(1,.v (.int .i64 a1)),(2,.ptr 0 0),(52,.rs .crop a0.crops),(53,.v (.int .i64 (a0.crops.length : Int))),(54,.v (.int .i64 (k_1 : Int)))],[.cells (cellsOf .district a0)]⟩) (ir a0 a1) pT a0.crops.length () (a0.crops.length≤bu) (fun _=> .pan (.iface 169 (.int .i64 a1))) (fun x_1_0=> ⟨[],[.dead]⟩) st) else bif Nat.beq id 4 then some (LCR (ρ:=Unit) (σ:=Unit) 1 [] [0] (fun k_2 s_2=> ⟨[(1,.v (.int .i64 a1)),(2,.ptr 0 0),(66,.rs .farm a0.farms),(67,.v (.int .i64 (a0.farms.length : Int))),(68,.v (.int .i64 (k_2 : Int)))],[.cells (cellsOf .district a0)]⟩) (fJ a0 a1) pT a0.farms.length () (a0.farms.length≤bu) (fun _=> .pan (.iface 169 (.int .i64 a1))) (fun x_2_0=> ⟨[],[.dead]⟩) st) else bif Nat.beq id 6 then some (LCR (ρ:=Unit) (σ:=Unit) 1 [] [0] (fun k_3 s_3=> ⟨[(1,.v (.int .i64 a1)),(2,.ptr 0 0),(103,.rs .right a0.rights),(104,.v (.int .i64 (a0.rights.length : Int))),(105,.v (.int .i64 (k_3 : Int)))],[.cells (cellsOf .district a0)]⟩) (iu a0 a1) pT a0.rights.length () (a0.rights.length≤bu) (fun _=> .pan (.iface 169 (.int .i64 a1))) (fun x_3_0=> ⟨[],[.dead]⟩) st) else bif Nat.beq id 8 then some (LCR (ρ:=Unit) (σ:=Unit) 1 [] [0] (fun k_4 s_4=> ⟨[(1,.v (.int .i64 a1)),(2,.ptr 0 0),(116,.rs .duty a0.duties),(117,.v (.int .i64 (a0.duties.length : Int))),(118,.v (.int .i64 (k_4 : Int)))],[.cells (cellsOf .district a0)]⟩) (iv a0 a1) pT a0.duties.length () (a0.duties.length≤bu) (fun _=> .pan (.iface 169 (.int .i64 a1))) (fun x_4_0=> ⟨[],[.dead]⟩) st) else none),?_,?_⟩
 ·unfold aj Tryz.f76
  simp only [aB,true_and,and_true]
  refine ⟨?_,?_,?_,?_,?_⟩
  ·refine cp mixed aH hG (by kernel_rfl) (fun _=> rfl) (a0.reaches.length : Int) rfl jS (fun hb0 k_0 s_0 hlt0 _ hw hc=> ⟨L0,aw _,?_⟩) (fun hb0 s_0 hc=> ?_)
   ·exact oE
   ·exact oF
  ·refine cp mixed aH hG (by kernel_rfl) (fun _=> rfl) (a0.crops.length : Int) rfl jS (fun hb1 k_1 s_1 hlt1 _ hw hc=> ⟨L0,aw _,?_⟩) (fun hb1 s_1 hc=> ?_)
   ·exact oE
   ·exact oF
  ·refine cp mixed aH hG (by kernel_rfl) (fun _=> rfl) (a0.farms.length : Int) rfl jS (fun hb2 k_2 s_2 hlt2 _ hw hc=> ⟨L0,aw _,?_⟩) (fun hb2 s_2 hc=> ?_)
   ·exact oE
   ·exact oF
  ·refine cp mixed aH hG (by kernel_rfl) (fun _=> rfl) (a0.rights.length : Int) rfl jS (fun hb3 k_3 s_3 hlt3 _ hw hc=> ⟨L0,aw _,?_⟩) (fun hb3 s_3 hc=> ?_)
   ·exact oE
   ·exact oF
  ·refine cp mixed aH hG (by kernel_rfl) (fun _=> rfl) (a0.duties.length : Int) rfl jS (fun hb4 k_4 s_4 hlt4 _ hw hc=> ⟨L0,aw _,?_⟩) (fun hb4 s_4 hc=> ?_)
   ·exact oE
   ·exact oF
 ·unfold aj Tryz.f76
  try unfold vt
  try unfold eB
  simp only [go_sem,Nat.reduceBEq,Nat.reduceLeDiff,Nat.reduceLT,decide_true,Nat.reduceAdd,Nat.reduceSub,Nat.reduceMul,Int.reduceLE,Int.reduceLT,Int.reduceToNat,Int.reduceNeg,reduceCtorEq]
  all_goals exact cl
def bt (d : District) : Int:=(bif (bV (((((decide ((d.reaches.length : Int)≤64)) && (decide ((d.farms.length : Int)≤600))) && (decide ((d.crops.length : Int)≤32))) && (decide ((d.rights.length : Int)≤256))) && (decide ((d.duties.length : Int)≤256))) 2) then (bif (eB d 191) then 0 else 191) else 2)
@[go_sem] def k_ : List SV→Option Con:=(pD .district fun d=> (pE (.det True (.v (.int .i64 (bt d))))))
theorem nN : FnOk Tryz.prog 42 k_:=by
 have hG : ConsOk Tryz.prog (mkG [(75,j6),(76,fun l=> mL (cO [.st .district,.o] l))] []) :=aQ (cgc mK (cgc (rB.norm [.st .district,.o]) cg0)) cg0
 refine QG IN [.o] mixed aH hG (fn:=Tryz.f42) (c0:=FC (aj Tryz.f42)) (c1:=B2 (B2 (aj Tryz.f42))) (i1:=regI (FC (B2 (aj Tryz.f42)))) (o1:=UA 0 (FC (B2 (aj Tryz.f42)))) (o2:=UA 1 (FC (B2 (aj Tryz.f42)))) (t3:=3) (q:=2) (tys:= #[]) (by kernel_rfl) (by kernel_rfl) (by kernel_rfl) (by refine ⟨?_,?_,?_⟩ <;> kernel_rfl) (by refine ⟨?_,?_,?_⟩ <;> kernel_rfl) (Nat.le_of_ble_eq_true rfl) (by kernel_rfl) (by kernel_rfl) (bU fun d=> (aM (fun hp=> ?_)))
 dsimp only [aW] at hp
 refine ⟨Nat.le_of_ble_eq_true rfl,L0,L0,1,?_,?_,?_⟩
 ·unfold aj Tryz.f42
  simp only [FC,aB,and_self,true_and,and_true]
 ·unfold aj Tryz.f42
  simp only [B2]
  simp only [aB,and_self,true_and,and_true]
 ·unfold aj Tryz.f42
  try unfold bt
  simp only [go_sem,Nat.reduceBEq,Nat.reduceLeDiff,Nat.reduceLT,decide_true,Nat.reduceAdd,Nat.reduceSub,Nat.reduceMul,Int.reduceLE,Int.reduceLT,Int.reduceToNat,Int.reduceNeg,reduceCtorEq,FC,B2,QQ]
  all_goals exact cl
def iw (x : Order) : Int:=x.hour
@[go_sem] def gu : List SV→Option Con:=(pD .order fun x=> (pE (.det True (.v (.int .i64 (iw x))))))
theorem oK : FnOk Tryz.prog 79 gu:=by
 have hG : ConsOk Tryz.prog (mkG [] []) :=aQ cg0 cg0
 refine bb [.o] mixed aH hG (fn:=Tryz.f79) (c:=aj Tryz.f79) (by kernel_rfl) (by kernel_rfl) (by kernel_rfl) (by kernel_rfl) (bU fun x=> (aM (fun hp=> ?_)))
 dsimp only [aW] at hp
 refine ⟨Nat.le_of_ble_eq_true rfl,L0,aw _,?_⟩
 ·unfold aj Tryz.f79
  try unfold iw
  simp only [go_sem,Nat.reduceBEq,Nat.reduceLeDiff,Nat.reduceLT,decide_true,Nat.reduceAdd,Nat.reduceSub,Nat.reduceMul,Int.reduceLE,Int.reduceLT,Int.reduceToNat,Int.reduceNeg,reduceCtorEq]
  all_goals exact cl
def la (x : Order) : Int:=(bif x.outlet then 1 else 0)
@[go_sem] def jf : List SV→Option Con:=(pD .order fun x=> (pE (.det True (.v (.int .i64 (la x))))))
theorem rC : FnOk Tryz.prog 80 jf:=by
 have hG : ConsOk Tryz.prog (mkG [] []) :=aQ cg0 cg0
 refine bb [.o] mixed aH hG (fn:=Tryz.f80) (c:=aj Tryz.f80) (by kernel_rfl) (by kernel_rfl) (by kernel_rfl) (by kernel_rfl) (bU fun x=> (aM (fun hp=> ?_)))
 dsimp only [aW] at hp
 refine ⟨Nat.le_of_ble_eq_true rfl,L0,aw _,?_⟩
 ·unfold aj Tryz.f80
  try unfold la
  simp only [go_sem,Nat.reduceBEq,Nat.reduceLeDiff,Nat.reduceLT,decide_true,Nat.reduceAdd,Nat.reduceSub,Nat.reduceMul,Int.reduceLE,Int.reduceLT,Int.reduceToNat,Int.reduceNeg,reduceCtorEq]
  all_goals exact cl
def ix (x : Order) : Int:=x.index
@[go_sem] def gw : List SV→Option Con:=(pD .order fun x=> (pE (.det True (.v (.int .i64 (ix x))))))
theorem oL : FnOk Tryz.prog 81 gw:=by
 have hG : ConsOk Tryz.prog (mkG [] []) :=aQ cg0 cg0
 refine bb [.o] mixed aH hG (fn:=Tryz.f81) (c:=aj Tryz.f81) (by kernel_rfl) (by kernel_rfl) (by kernel_rfl) (by kernel_rfl) (bU fun x=> (aM (fun hp=> ?_)))
 dsimp only [aW] at hp
 refine ⟨Nat.le_of_ble_eq_true rfl,L0,aw _,?_⟩
 ·unfold aj Tryz.f81
  try unfold ix
  simp only [go_sem,Nat.reduceBEq,Nat.reduceLeDiff,Nat.reduceLT,decide_true,Nat.reduceAdd,Nat.reduceSub,Nat.reduceMul,Int.reduceLE,Int.reduceLT,Int.reduceToNat,Int.reduceNeg,reduceCtorEq]
  all_goals exact cl
end Go.Sx
end
section
namespace Go.Sx
open Go.Proofs
set_option maxRecDepth 100000
set_option linter.unusedSimpArgs false
theorem IW {p : Prop} (h : p:=by (first | done | (repeat' (first | with_reducible refine And.intro ?_ ?_ | ((with_reducible show _≠_);first | assumption | omega | (simp_all [aG,aK];done) | grind) | with_reducible intro _)) <;> (first | done | exact Empty.elim ‹Empty› | assumption | rfl | omega | decide | exact fk [] | (simp only [*,cond_true,cond_false,Bool.not_true,Bool.not_false,go_sem,Nat.reduceBEq,Nat.reduceLeDiff,Nat.reduceLT,decide_true,Nat.reduceAdd,Nat.reduceSub,Nat.reduceMul,Int.reduceLE,Int.reduceLT,Int.reduceToNat,Int.reduceNeg,reduceCtorEq];done) | (simp only [*,cond_true,cond_false,Bool.not_true,Bool.not_false,go_sem,Nat.reduceBEq,Nat.reduceLeDiff,Nat.reduceLT,decide_true,Nat.reduceAdd,Nat.reduceSub,Nat.reduceMul,Int.reduceLE,Int.reduceLT,Int.reduceToNat,Int.reduceNeg,reduceCtorEq];(repeat' (first | with_reducible refine And.intro ?_ ?_ | ((with_reducible show _≠_);first | assumption | omega | (simp_all [aG,aK];done) | grind) | with_reducible intro _)) <;> (first | done | assumption | rfl | omega | decide | exact fk [] | (simp_all [aG,aK];done))) | (simp_all [okI,aG,aK];done) | (simp_all [aG,aK];(first | done | exact fk2 [])) | exact fk2 []))) : p:=h
theorem IX {p : Prop} (h : p:=by simp only [go_sem,Nat.reduceBEq,Nat.reduceLeDiff,Nat.reduceLT,decide_true,Nat.reduceAdd,Nat.reduceSub,Nat.reduceMul,Int.reduceLE,Int.reduceLT,Int.reduceToNat,Int.reduceNeg,reduceCtorEq];all_goals exact IW) : p:=h
def iy (x : Range) (most : Int) : Bool:=(((decide (x.lo≥0)) && (decide (x.lo≤x.hi))) && (decide (x.hi≤most)))
@[go_sem] def mM : List SV→Option Con:=(pD .range fun x=> (pI fun most=> (pE (.det True (.v (.bool (iy x most)))))))
theorem rD : FnOk Tryz.prog 122 mM:=by
 have hG : ConsOk Tryz.prog (mkG [] []) :=aQ cg0 cg0
 refine bb [.o] mixed aH hG (fn:=Tryz.f122) (c:=aj Tryz.f122) (by kernel_rfl) (by kernel_rfl) (by kernel_rfl) (by kernel_rfl) (bU fun x=> (dV fun most=> (aM (fun hp=> ?_))))
 dsimp only [aW] at hp
 refine ⟨Nat.le_of_ble_eq_true rfl,L0,aw _,?_⟩
 ·unfold aj Tryz.f122
  try unfold iy
  simp only [go_sem,Nat.reduceBEq,Nat.reduceLeDiff,Nat.reduceLT,decide_true,Nat.reduceAdd,Nat.reduceSub,Nat.reduceMul,Int.reduceLE,Int.reduceLT,Int.reduceToNat,Int.reduceNeg,reduceCtorEq]
  all_goals exact cl
def kM (n : Int) (lo : Int) (hi : Int) : Bool:=((decide (n≥lo)) && (decide (n≤hi)))
@[go_sem] def oM : List SV→Option Con:=(pI fun n=> (pI fun lo=> (pI fun hi=> (pE (.det True (.v (.bool (kM n lo hi))))))))
theorem rE : FnOk Tryz.prog 124 oM:=by
 have hG : ConsOk Tryz.prog (mkG [] []) :=aQ cg0 cg0
 refine bb [.o] mixed aH hG (fn:=Tryz.f124) (c:=aj Tryz.f124) (by kernel_rfl) (by kernel_rfl) (by kernel_rfl) (by kernel_rfl) (dV fun n=> (dV fun lo=> (dV fun hi=> (aM (fun hp=> ?_)))))
 dsimp only [aW] at hp
 refine ⟨Nat.le_of_ble_eq_true rfl,L0,aw _,?_⟩
 ·unfold aj Tryz.f124
  try unfold kM
  simp only [go_sem,Nat.reduceBEq,Nat.reduceLeDiff,Nat.reduceLT,decide_true,Nat.reduceAdd,Nat.reduceSub,Nat.reduceMul,Int.reduceLE,Int.reduceLT,Int.reduceToNat,Int.reduceNeg,reduceCtorEq]
  all_goals exact cl
def iz (a : Ratio) : Bool:=(((b9 a) ==0) && (kM a.n 0 a.d))
@[go_sem] def oN : List SV→Option Con:=(pD .ratio fun a=> (pE (.det True (.v (.bool (iz a))))))
theorem tQ : FnOk Tryz.prog 150 oN:=by
 have hG : ConsOk Tryz.prog (mkG [(124,oM),(152,jx)] []) :=aQ (cgc rE (cgc k9 cg0)) cg0
 refine bb [.o] mixed aH hG (fn:=Tryz.f150) (c:=aj Tryz.f150) (by kernel_rfl) (by kernel_rfl) (by kernel_rfl) (by kernel_rfl) (bU fun a=> (aM (fun hp=> ?_)))
 dsimp only [aW] at hp
 refine ⟨Nat.le_of_ble_eq_true rfl,L0,aw _,?_⟩
 ·unfold aj Tryz.f150
  try unfold iz
  simp only [go_sem,Nat.reduceBEq,Nat.reduceLeDiff,Nat.reduceLT,decide_true,Nat.reduceAdd,Nat.reduceSub,Nat.reduceMul,Int.reduceLE,Int.reduceLT,Int.reduceToNat,Int.reduceNeg,reduceCtorEq]
  all_goals exact cl
def gH (a : Ratio×Ratio) : Bool:=(bif ((!(iz a.1)) || (!(iz a.2))) then false else (((et a.1 a.2).2==0) && (decide ((et a.1 a.2).1≤0))))
@[go_sem] def nO : List SV→Option Con:=(pD .ratio2 fun a=> (pE (.det True (.v (.bool (gH a))))))
theorem sO : FnOk Tryz.prog 123 nO:=by
 have hG : ConsOk Tryz.prog (mkG [(150,oN),(151,oG)] []) :=aQ (cgc tQ (cgc rA cg0)) cg0
 refine bb [.o] mixed aH hG (fn:=Tryz.f123) (c:=aj Tryz.f123) (by kernel_rfl) (by kernel_rfl) (by kernel_rfl) (by kernel_rfl) (bU fun a=> (aM (fun hp=> ?_)))
 dsimp only [aW] at hp
 refine ⟨Nat.le_of_ble_eq_true rfl,L0,aw _,?_⟩
 ·unfold aj Tryz.f123
  try unfold gH
  simp only [go_sem,Nat.reduceBEq,Nat.reduceLeDiff,Nat.reduceLT,decide_true,Nat.reduceAdd,Nat.reduceSub,Nat.reduceMul,Int.reduceLE,Int.reduceLT,Int.reduceToNat,Int.reduceNeg,reduceCtorEq]
  all_goals exact cl
def dA (r : Reach) (n : Int) : Int:=(bif ((!(iy r.evap 1073741824)) || (!(gH r.seep))) then 210 else (bif (!(kM n 0 1073741824)) then 1 else 0))
@[go_sem] def ld : List SV→Option Con:=(pD .reach fun r=> (pI fun n=> (pE (.det True (.v (.int .i64 (dA r n)))))))
theorem nP : FnOk Tryz.prog 82 ld:=by
 have hG : ConsOk Tryz.prog (mkG [(122,mM),(123,nO),(124,oM)] []) :=aQ (cgc rD (cgc sO (cgc rE cg0))) cg0
 refine bb [.o] mixed aH hG (fn:=Tryz.f82) (c:=aj Tryz.f82) (by kernel_rfl) (by kernel_rfl) (by kernel_rfl) (by kernel_rfl) (bU fun r=> (dV fun n=> (aM (fun hp=> ?_))))
 dsimp only [aW] at hp
 refine ⟨Nat.le_of_ble_eq_true rfl,L0,aw _,?_⟩
 ·unfold aj Tryz.f82
  try unfold dA
  simp only [go_sem,Nat.reduceBEq,Nat.reduceLeDiff,Nat.reduceLT,decide_true,Nat.reduceAdd,Nat.reduceSub,Nat.reduceMul,Int.reduceLE,Int.reduceLT,Int.reduceToNat,Int.reduceNeg,reduceCtorEq]
  all_goals exact cl
def jg (n : Int) (d : Int) : Int:=(IntKind.i64.wrap (Int.tdiv (IntKind.i64.wrap (n - (Int.tmod (IntKind.i64.wrap ((Int.tmod n d) + d)) d))) d))
def kF (n : Int) (d : Int) : Prop:=(d≠0∧(d≠0∧d≠0))
@[go_sem] def rF : List SV→Option Con:=(pI fun n=> (pI fun d=> (pE (.det (kF n d) (.v (.int .i64 (jg n d)))))))
theorem wE : FnOk Tryz.prog 153 rF:=by
 have hG : ConsOk Tryz.prog (mkG [] []) :=aQ cg0 cg0
 refine bb [.o] mixed aH hG (fn:=Tryz.f153) (c:=aj Tryz.f153) (by kernel_rfl) (by kernel_rfl) (by kernel_rfl) (by kernel_rfl) (dV fun n=> (dV fun d=> (aM (fun hp=> ?_))))
 dsimp only [aW] at hp
 unfold kF at hp
 refine ⟨Nat.le_of_ble_eq_true rfl,L0,aw _,?_⟩
 ·unfold aj Tryz.f153
  try unfold jg
  simp only [go_sem,Nat.reduceBEq,Nat.reduceLeDiff,Nat.reduceLT,decide_true,Nat.reduceAdd,Nat.reduceSub,Nat.reduceMul,Int.reduceLE,Int.reduceLT,Int.reduceToNat,Int.reduceNeg,reduceCtorEq]
  all_goals exact cl
def dF (a : Ratio) (n : Int) : Int×Int×Int:=(bif ((b9 a) !=0) then (0,0,(b9 a)) else (bif ((decide (n < (-1073741824))) || (decide (n > 1073741824))) then (0,0,1) else ((jg (IntKind.i64.wrap (a.n * n)) a.d),(IntKind.i64.wrap (0 - (jg (IntKind.i64.wrap ((IntKind.i64.wrap (0 - a.n)) * n)) a.d))),0)))
def qb (a : Ratio) (n : Int) : Prop:=(((b9 a) !=0)=false→(((decide (n < (-1073741824))) || (decide (n > 1073741824)))=false→((kF (IntKind.i64.wrap (a.n * n)) a.d)∧(kF (IntKind.i64.wrap ((IntKind.i64.wrap (0 - a.n)) * n)) a.d))))
theorem wG {a : Ratio} (h : (b9 a !=0)=false) : 1≤a.d:=by
 unfold b9 at h
 by_cases hd : a.d < 1
 ·simp [hd] at h
 ·omega
theorem vv (a : Ratio) (n : Int) : qb a n:=fun h _=> by
 have:=wG h
 exact ⟨⟨by omega,by omega,by omega⟩,⟨by omega,by omega,by omega⟩⟩
@[go_sem] def qc : List SV→Option Con:=(pD .ratio fun a=> (pI fun n=> (pE (.det True (.tup [.v (.int .i64 ((dF a n).1)),.v (.int .i64 ((dF a n).2.1)),.v (.int .i64 ((dF a n).2.2))])))))
theorem vw : FnOk Tryz.prog 125 qc:=by
 have hG : ConsOk Tryz.prog (mkG [(152,jx),(153,rF)] []) :=aQ (cgc k9 (cgc wE cg0)) cg0
 refine bb [.o,.o,.o] mixed aH hG (fn:=Tryz.f125) (c:=aj Tryz.f125) (by kernel_rfl) (by kernel_rfl) (by kernel_rfl) (by kernel_rfl) (bU fun a=> (dV fun n=> (aM (fun hp=> ?_))))
 dsimp only [aW] at hp
 have hp:=vv a n
 unfold qb at hp
 refine ⟨Nat.le_of_ble_eq_true rfl,L0,aw _,?_⟩
 ·unfold aj Tryz.f125
  try unfold dF
  simp only [go_sem,Nat.reduceBEq,Nat.reduceLeDiff,Nat.reduceLT,decide_true,Nat.reduceAdd,Nat.reduceSub,Nat.reduceMul,Int.reduceLE,Int.reduceLT,Int.reduceToNat,Int.reduceNeg,reduceCtorEq]
  all_goals exact cl
def dG (r : Reach) (v : Int) : Range:=(bif (v==0) then ({ lo:=0,hi:=0} : Range) else ({ lo:=(if (IntKind.i64.wrap (r.evap.lo + (dF r.seep.1 v).1)) < v then (IntKind.i64.wrap (r.evap.lo + (dF r.seep.1 v).1)) else v),hi:=(if (IntKind.i64.wrap (r.evap.hi + (dF r.seep.2 v).2.1)) < v then (IntKind.i64.wrap (r.evap.hi + (dF r.seep.2 v).2.1)) else v)} : Range))
@[go_sem] def mc : List SV→Option Con:=(pD .reach fun r=> (pI fun v=> (pE (.det True (.agg (cellsOf .range (dG r v)))))))
theorem oO : FnOk Tryz.prog 83 mc:=by
 have hG : ConsOk Tryz.prog (mkG [(125,qc)] []) :=aQ (cgc vw cg0) cg0
 refine bb [.st .range] mixed aH hG (fn:=Tryz.f83) (c:=aj Tryz.f83) (by kernel_rfl) (by kernel_rfl) (by kernel_rfl) (by kernel_rfl) (bU fun r=> (dV fun v=> (aM (fun hp=> ?_))))
 dsimp only [aW] at hp
 refine ⟨Nat.le_of_ble_eq_true rfl,L0,aw _,?_⟩
 ·unfold aj Tryz.f83
  try unfold dG
  simp only [go_sem,Nat.reduceBEq,Nat.reduceLeDiff,Nat.reduceLT,decide_true,Nat.reduceAdd,Nat.reduceSub,Nat.reduceMul,Int.reduceLE,Int.reduceLT,Int.reduceToNat,Int.reduceNeg,reduceCtorEq]
  all_goals exact cl
def b4 (r : Reach) (v : Int) : Int×Int:=(bif ((dA r v) !=0) then (0,(dA r v)) else ((IntKind.i64.wrap (v - (dG r v).hi)),0))
@[go_sem] def oQ : List SV→Option Con:=(pD .reach fun r=> (pI fun v=> (pE (.det True (.tup [.v (.int .i64 ((b4 r v).1)),.v (.int .i64 ((b4 r v).2))])))))
theorem tR : FnOk Tryz.prog 45 oQ:=by
 have hG : ConsOk Tryz.prog (mkG [(82,ld),(83,mc)] []) :=aQ (cgc nP (cgc oO cg0)) cg0
 refine bb [.o,.o] mixed aH hG (fn:=Tryz.f45) (c:=aj Tryz.f45) (by kernel_rfl) (by kernel_rfl) (by kernel_rfl) (by kernel_rfl) (bU fun r=> (dV fun v=> (aM (fun hp=> ?_))))
 dsimp only [aW] at hp
 refine ⟨Nat.le_of_ble_eq_true rfl,L0,aw _,?_⟩
 ·unfold aj Tryz.f45
  try unfold b4
  simp only [go_sem,Nat.reduceBEq,Nat.reduceLeDiff,Nat.reduceLT,decide_true,Nat.reduceAdd,Nat.reduceSub,Nat.reduceMul,Int.reduceLE,Int.reduceLT,Int.reduceToNat,Int.reduceNeg,reduceCtorEq]
  all_goals exact cl
def jy (v : Int) (r : Reach) : Int:=(IntKind.i64.wrap (v - (dG r v).hi))
@[go_sem] def nQ : List SV→Option Con:=(pI fun v=> (pX .reach fun r=> (pE (.det True (.v (.int .i64 (jy v r)))))))
theorem sP : FnOk Tryz.prog 132 nQ:=by
 have hG : ConsOk Tryz.prog (mkG [(83,mc)] []) :=aQ (cgc oO cg0) cg0
 refine bb [.o] mixed aH hG (fn:=Tryz.f132) (c:=aj Tryz.f132) (by kernel_rfl) (by kernel_rfl) (by kernel_rfl) (by kernel_rfl) (dV fun v=> (qB fun r=> (aM (fun hp=> ?_))))
 dsimp only [aW] at hp
 refine ⟨Nat.le_of_ble_eq_true rfl,L0,aw _,?_⟩
 ·unfold aj Tryz.f132
  try unfold jy
  simp only [go_sem,Nat.reduceBEq,Nat.reduceLeDiff,Nat.reduceLT,decide_true,Nat.reduceAdd,Nat.reduceSub,Nat.reduceMul,Int.reduceLE,Int.reduceLT,Int.reduceToNat,Int.reduceNeg,reduceCtorEq]
  all_goals exact cl
def cw (v : Int) (r : Reach) (w : Int) : Bool:=(decide ((jy v r) > w))
@[go_sem] def mN : List SV→Option Con:=(pI fun v=> (pXF 132 (pX .reach fun r=> (pE ((pX .int fun w=> (pE (.det True (.v (.bool (cw v r w)))))))))))
theorem rG : FnOk Tryz.prog 164 mN:=by
 have hG : ConsOk Tryz.prog (mkG [(132,nQ)] []) :=aQ (cgc sP cg0) cg0
 refine bb [.o] mixed aH hG (fn:=Tryz.f164) (c:=aj Tryz.f164) (by kernel_rfl) (by kernel_rfl) (by kernel_rfl) (by kernel_rfl) (dV fun v=> (Ew (qB fun r=> (aM ((qB fun w=> (aM (fun hp=> ?_))))))))
 dsimp only [aW] at hp
 refine ⟨Nat.le_of_ble_eq_true rfl,L0,aw _,?_⟩
 ·unfold aj Tryz.f164
  try unfold cw
  simp only [go_sem,Nat.reduceBEq,Nat.reduceLeDiff,Nat.reduceLT,decide_true,Nat.reduceAdd,Nat.reduceSub,Nat.reduceMul,Int.reduceLE,Int.reduceLT,Int.reduceToNat,Int.reduceNeg,reduceCtorEq]
  all_goals exact cl
@[go_sem] def eN (r : Reach) (w : Int) (k_0 : Nat) (s_0 : Int×Int) : Int⊕(Int×Int) :=(bif (decide (s_0.1 < s_0.2)) then (bif (!(cw (IntKind.i64.wrap (A8 .u64 (IntKind.u64.wrap (IntKind.i64.wrap (s_0.1 + s_0.2))) 1)) r w)) then .inr ((IntKind.i64.wrap ((IntKind.i64.wrap (A8 .u64 (IntKind.u64.wrap (IntKind.i64.wrap (s_0.1 + s_0.2))) 1)) + 1)),s_0.2) else .inr (s_0.1,(IntKind.i64.wrap (A8 .u64 (IntKind.u64.wrap (IntKind.i64.wrap (s_0.1 + s_0.2))) 1)))) else .inl s_0.1)
def lT (n : Int) (r : Reach) (w : Int) : Int:=(match az (eN r w) 64 0 (0,n) with | .inl x_0_0=> x_0_0 | .inr s_0=> default)
def jz (n : Int) (r : Reach) (w : Int) : Prop:=(∀ z_,az (eN r w) 64 0 (0,n)≠ .inr z_)
@[go_sem] def qd : List SV→Option Con:=(pI fun n=> (pFn 164 (pXF 132 (pX .reach fun r=> (pE ((pX .int fun w=> (pE ((pE (.det (jz n r w) (.v (.int .i64 (lT n r w))))))))))))))
set_option maxHeartbeats 4000000 in
theorem vz : FnOk Tryz.prog 163 qd:=by
 have hG : ConsOk Tryz.prog (mkG [(164,mN)] []) :=aQ (cgc rG cg0) cg0
 refine bb [.o] mixed aH hG (fn:=Tryz.f163) (c:=aj Tryz.f163) (by kernel_rfl) (by kernel_rfl) (by kernel_rfl) (by kernel_rfl) (dV fun n=> (ip (Ew (qB fun r=> (aM ((qB fun w=> (aM ((aM (fun hp=> ?_)))))))))))
 dsimp only [aW] at hp
 unfold jz at hp
 refine ⟨Nat.le_of_ble_eq_true rfl,(fun id st=> bif Nat.beq id 0 then some (LCV (ρ:=Int) (σ:=(Int×Int)) 0 [] [] (fun k_0 s_0=> ⟨[(1,.fn 164 [] [.ep [.fn 132 [] [.ep (cellsOf .reach r) 0]] 0,.ep [.v (.int .i64 w)] 0]),(5,.v (.int .i64 s_0.1)),(6,.v (.int .i64 s_0.2))],[]⟩) (eN r w) pT 64 (0,n) (fun _=> .normal) (fun x_0_0=> ⟨[(5,.v (.int .i64 x_0_0))],[]⟩) st) else none),?_,?_⟩
 ·unfold aj Tryz.f163
  simp only [aB,true_and,and_true]
  ·refine zW mixed aH hG (by kernel_rfl) (fun _=> rfl) fun k_0 s_0 _=> ⟨L0,aw _,?_⟩
   ·exact IX
 ·unfold aj Tryz.f163
  try unfold lT
  simp only [go_sem,Nat.reduceBEq,Nat.reduceLeDiff,Nat.reduceLT,decide_true,Nat.reduceAdd,Nat.reduceSub,Nat.reduceMul,Int.reduceLE,Int.reduceLT,Int.reduceToNat,Int.reduceNeg,reduceCtorEq]
  all_goals exact cl
def ct (w : Int) (r : Reach) : Int:=(lT 1073741825 r w)
def lf (w : Int) (r : Reach) : Prop:=(jz 1073741825 r w)
@[go_sem] def oR : List SV→Option Con:=(pI fun w=> (pFn 132 (pX .reach fun r=> (pE ((pE (.det (lf w r) (.v (.int .i64 (ct w r))))))))))
theorem tS : FnOk Tryz.prog 131 oR:=by
 have hG : ConsOk Tryz.prog (mkG [(163,qd)] []) :=aQ (cgc vz cg0) cg0
 refine bb [.o] mixed aH hG (fn:=Tryz.f131) (c:=aj Tryz.f131) (by kernel_rfl) (by kernel_rfl) (by kernel_rfl) (by kernel_rfl) (dV fun w=> (ip (qB fun r=> (aM ((aM (fun hp=> ?_)))))))
 dsimp only [aW] at hp
 unfold lf at hp
 refine ⟨Nat.le_of_ble_eq_true rfl,L0,aw _,?_⟩
 ·unfold aj Tryz.f131
  try unfold ct
  simp only [go_sem,Nat.reduceBEq,Nat.reduceLeDiff,Nat.reduceLT,decide_true,Nat.reduceAdd,Nat.reduceSub,Nat.reduceMul,Int.reduceLE,Int.reduceLT,Int.reduceToNat,Int.reduceNeg,reduceCtorEq]
  all_goals exact cl
def bX (r : Reach) (w : Int) : Int×Bool×Int:=(bif ((dA r w) !=0) then (0,false,(dA r w)) else (bif (decide ((ct (IntKind.i64.wrap (w - 1)) r) > 1073741824)) then (0,false,0) else ((ct (IntKind.i64.wrap (w - 1)) r),true,0)))
def gI (r : Reach) (w : Int) : Prop:=(((dA r w) !=0)=false→(lf (IntKind.i64.wrap (w - 1)) r))
@[go_sem] def jA : List SV→Option Con:=(pD .reach fun r=> (pI fun w=> (pE (.det (gI r w) (.tup [.v (.int .i64 ((bX r w).1)),.v (.bool ((bX r w).2.1)),.v (.int .i64 ((bX r w).2.2))])))))
theorem oS : FnOk Tryz.prog 99 jA:=by
 have hG : ConsOk Tryz.prog (mkG [(82,ld),(131,oR)] []) :=aQ (cgc nP (cgc tS cg0)) cg0
 refine bb [.o,.o,.o] mixed aH hG (fn:=Tryz.f99) (c:=aj Tryz.f99) (by kernel_rfl) (by kernel_rfl) (by kernel_rfl) (by kernel_rfl) (bU fun r=> (dV fun w=> (aM (fun hp=> ?_))))
 dsimp only [aW] at hp
 unfold gI at hp
 refine ⟨Nat.le_of_ble_eq_true rfl,L0,aw _,?_⟩
 ·unfold aj Tryz.f99
  try unfold bX
  simp only [go_sem,Nat.reduceBEq,Nat.reduceLeDiff,Nat.reduceLT,decide_true,Nat.reduceAdd,Nat.reduceSub,Nat.reduceMul,Int.reduceLE,Int.reduceLT,Int.reduceToNat,Int.reduceNeg,reduceCtorEq]
  all_goals exact cl
def aA (x : Reach) (w : Int) : Int×Bool:=(bif ((w==0) || (decide (w > 1073741824))) then (0,(w==0)) else (bif (!(bX x w).2.1) then (0,false) else ((if (bX x w).1 < x.siphon then x.siphon else (bX x w).1),true)))
def ga (x : Reach) (w : Int) : Prop:=(((w==0) || (decide (w > 1073741824)))=false→(gI x w))
@[go_sem] def mO : List SV→Option Con:=(pD .reach fun x=> (pI fun w=> (pE (.det (ga x w) (.tup [.v (.int .i64 ((aA x w).1)),.v (.bool ((aA x w).2))])))))
theorem rH : FnOk Tryz.prog 96 mO:=by
 have hG : ConsOk Tryz.prog (mkG [(99,jA)] []) :=aQ (cgc oS cg0) cg0
 refine bb [.o,.o] mixed aH hG (fn:=Tryz.f96) (c:=aj Tryz.f96) (by kernel_rfl) (by kernel_rfl) (by kernel_rfl) (by kernel_rfl) (bU fun x=> (dV fun w=> (aM (fun hp=> ?_))))
 dsimp only [aW] at hp
 unfold ga at hp
 refine ⟨Nat.le_of_ble_eq_true rfl,L0,aw _,?_⟩
 ·unfold aj Tryz.f96
  try unfold aA
  simp only [go_sem,Nat.reduceBEq,Nat.reduceLeDiff,Nat.reduceLT,decide_true,Nat.reduceAdd,Nat.reduceSub,Nat.reduceMul,Int.reduceLE,Int.reduceLT,Int.reduceToNat,Int.reduceNeg,reduceCtorEq]
  all_goals exact cl
end Go.Sx
end
section
namespace Go.Sx
open Go.Proofs
set_option maxRecDepth 100000
set_option linter.unusedSimpArgs false
abbrev gx : SV:= .ls [.fn 79 [] [],.fn 80 [] [],.fn 81 [] []]
open Classical in
noncomputable def kG : List SV→Option Con:=fun l=> if l=[gx] then some (.det True (.fn 121 [] [.ep [gx] 0])) else none
theorem wH : FnOk Tryz.prog 78 kG:=by
 have hG : ConsOk Tryz.prog (mkG [] []) :=aQ (by simp) (by simp)
 refine bb [.o] mixed aH hG (fn:=Tryz.f78) (c:=aj Tryz.f78) (by kernel_rfl) (by kernel_rfl) (by kernel_rfl) (by kernel_rfl) fun l con h hp=> ?_
 unfold kG at h
 split at h
 ·rename_i hl
  subst hl
  cases h
  refine ⟨Nat.le_of_ble_eq_true rfl,L0,by unfold aj Tryz.f78;simp only [aB,and_self],?_⟩
  unfold aj Tryz.f78
  simp only [go_sem,gx,true_imp_iff,Nat.reduceBEq,Nat.reduceLeDiff,Nat.reduceAdd,Nat.reduceSub,Nat.reduceMul,true_and,and_true,implies_true,List.map_cons,List.map_nil]
  rfl
 ·cases h
def b8 : List SV→Option Con:=pE (.det True (.fn 121 [] [.ep [gx] 0]))
theorem lg : FnOk Tryz.prog 44 b8:=by
 have hG : ConsOk Tryz.prog (mkG [(78,kG)] []) :=aQ (by
  intro x hx
  simp only [List.mem_cons,List.not_mem_nil,or_false] at hx
  rcases hx with rfl
  exact wH) (by simp)
 refine bb [.o] mixed aH hG (fn:=Tryz.f44) (c:=aj Tryz.f44) (by kernel_rfl) (by kernel_rfl) (by kernel_rfl) (by kernel_rfl) fun l con h hp=> ?_
 unfold b8 at h
 obtain ⟨rfl,rfl⟩ :=qA h
 refine ⟨Nat.le_of_ble_eq_true rfl,L0,by unfold aj Tryz.f44;simp only [aB,and_self],?_⟩
 unfold aj Tryz.f44
 simp only [go_sem,kG,gx,true_imp_iff,Nat.reduceBEq,Nat.reduceLeDiff,Nat.reduceAdd,Nat.reduceSub,Nat.reduceMul,true_and,and_true,implies_true,List.map_cons,List.map_nil,if_true]
 rfl
def lh (k : Nat) (x : Order) : Int:=match k with | 0=> iw x | 1=> la x | _=> ix x
def pz (a b : Order) : Nat→Unit→Int⊕Unit:=fun k _=> bif (aS (lh k a) (lh k b) !=0) then .inl (aS (lh k a) (lh k b)) else .inr ()
def ax (a b : Order) : Int:=match az (pz a b) 3 0 () with | .inl x=> x | .inr _=> 0
open Classical in
noncomputable def eO : List SV→Option Con:=pD .order fun a=> pD .order fun b=> fun l=> if l=[.ep [gx] 0] then some (.det True (.i (ax a b))) else none
set_option maxHeartbeats 1000000 in
theorem nR : FnOk Tryz.prog 121 eO:=by
 have hG : ConsOk Tryz.prog (mkG [(70,cq),(79,gu),(80,jf),(81,gw)] []) :=aQ (by
  intro x hx
  simp only [List.mem_cons,List.not_mem_nil,or_false] at hx
  rcases hx with rfl | rfl | rfl | rfl
  ·exact cP
  ·exact oK
  ·exact rC
  ·exact oL) (by simp)
 refine bb [.o] mixed aH hG (fn:=Tryz.f121) (c:=aj Tryz.f121) (by kernel_rfl) (by kernel_rfl) (by kernel_rfl) (by kernel_rfl) fun l con h hp=> ?_
 unfold eO at h
 obtain ⟨a,l0,rfl,h0⟩ :=sI h
 obtain ⟨b,l1,rfl,h1⟩ :=sI h0
 split at h1
 rotate_left
 ·cases h1
 rename_i hl
 subst hl
 cases h1
 clear h h0
 obtain ⟨ah,ai,al,ao⟩ :=a
 obtain ⟨bh,bi,bl,bo⟩ :=b
 refine ⟨Nat.le_of_ble_eq_true rfl,(fun id st=> bif Nat.beq id 0 then some (LC (ρ:=Int) (σ:=Unit) (lk 3 st.t= .ptr 0 0∧lk 4 st.t= .ptr 1 0∧lk 9 st.t=gx∧lk 10 st.t= .i 3∧lk 11 st.t= .i 0∧st.h=[.cells (cellsOf .order ⟨ah,ai,al,ao⟩),.cells (cellsOf .order ⟨bh,bi,bl,bo⟩)]) (az (pz ⟨ah,ai,al,ao⟩ ⟨bh,bi,bl,bo⟩) 3 0 ()) (fun _=> .ret) (fun x=> ⟨[(5,.i x)],[.dead,.dead]⟩) (fun _=> ⟨[],[.dead,.dead]⟩)) else none),?_,?_⟩
 ·unfold aj Tryz.f121
  simp only [aB,true_and,and_true]
  refine xr mixed aH hG (by kernel_rfl) fun st lc hC hp=> ?_
  simp only [go_sem,Nat.reduceBEq,Option.some.injEq] at hC
  subst hC
  obtain ⟨t,h⟩ :=st
  dsimp only [LC] at hp
  obtain ⟨e1,e2,e3,e4,e5,rfl⟩ :=hp
  refine ⟨_,_,_,pz ⟨ah,ai,al,ao⟩ ⟨bh,bi,bl,bo⟩,fun _ _=> True,3,(),_,_,_,(fun k _=> ⟨[(3,.ptr 0 0),(4,.ptr 1 0),(9,gx),(10,.i 3),(11,.i (k : Int))],[.cells (cellsOf .order ⟨ah,ai,al,ao⟩),.cells (cellsOf .order ⟨bh,bi,bl,bo⟩)]⟩),[0,1],rfl,py _ _ _ fun _ _ _ _=> trivial,Nat.le_refl _,?_,fun k s hk hpk=> ⟨L0,?_,?_⟩⟩
  ·simp only [go_sem,e1,e2,e3,e4,e5,gx,Nat.reduceBEq,Nat.reduceLeDiff,Nat.reduceAdd,true_and,and_true]
   all_goals (first | done | decide | (repeat' (first | refine And.intro ?_ ?_ | rfl | decide)))
  ·simp only [aB,and_self,true_and,and_true]
  ·have hk4 : k=0∨k=1∨k=2∨k=3:=by omega
   have hw0 : IntKind.i64.wrap ((0 : Int) + 1)=((0 + 1 : Nat) : Int) :=by decide
   have hw1 : IntKind.i64.wrap ((1 : Int) + 1)=((1 + 1 : Nat) : Int) :=by decide
   have hw2 : IntKind.i64.wrap ((2 : Int) + 1)=((2 + 1 : Nat) : Int) :=by decide
   rcases hk4 with rfl | rfl | rfl | rfl
   all_goals
    simp only [go_sem,cq,gu,jf,gw,gx,pz,lh,true_imp_iff,false_imp_iff,Bool.false_eq_true,Int.toNat_natCast,Int.toNat_zero,Nat.reduceBEq,Nat.reduceLeDiff,Nat.reduceAdd,Nat.reduceSub,Nat.reduceMul,Nat.reduceLT,Int.reduceLE,Int.reduceLT,Int.reduceToNat,Int.reduceNeg,true_and,and_true,and_self,implies_true,forall_const,reduceCtorEq,Int.cast_ofNat_Int]
   all_goals (first | done | (repeat' (first | with_reducible refine And.intro ?_ ?_ | ((with_reducible show _≠_);first | assumption | omega | (simp_all;done) | grind) | with_reducible intro _)) <;> (first | done | assumption | rfl | omega | decide | (simp only [*,cond_true,cond_false,go_sem,true_imp_iff,false_imp_iff,Bool.false_eq_true,Int.toNat_natCast,Int.toNat_zero,Nat.reduceBEq,Nat.reduceLeDiff,Nat.reduceAdd,Nat.reduceSub,Nat.reduceMul,Int.reduceLE,Int.reduceLT,Int.reduceToNat,Int.reduceNeg,true_and,and_true,and_self,implies_true,forall_const,reduceCtorEq];done) | (simp only [*,cond_true,cond_false,go_sem,true_imp_iff,false_imp_iff,Bool.false_eq_true,Int.toNat_natCast,Int.toNat_zero,Nat.reduceBEq,Nat.reduceLeDiff,Nat.reduceAdd,Nat.reduceSub,Nat.reduceMul,Int.reduceLE,Int.reduceLT,Int.reduceToNat,Int.reduceNeg,true_and,and_true,and_self,implies_true,forall_const,reduceCtorEq];(repeat' (first | with_reducible refine And.intro ?_ ?_ | ((with_reducible show _≠_);first | assumption | omega | (simp_all;done) | grind) | with_reducible intro _)) <;> (first | done | assumption | rfl | omega | decide))))
   all_goals trace_state
 ·unfold aj Tryz.f121
  unfold ax
  simp only [go_sem,gx,true_imp_iff,false_imp_iff,Bool.false_eq_true,Nat.reduceBEq,Nat.reduceLeDiff,Nat.reduceAdd,Nat.reduceSub,Nat.reduceMul,true_and,and_true,implies_true,sz,List.map_cons,List.map_nil]
  all_goals (first | done | (repeat' (first | with_reducible refine And.intro ?_ ?_ | ((with_reducible show _≠_);first | assumption | omega | (simp_all;done) | grind) | with_reducible intro _)) <;> (first | done | assumption | rfl | omega | (simp only [*,cond_true,cond_false,Bool.not_true,Bool.not_false,go_sem,true_imp_iff,false_imp_iff,Bool.false_eq_true,Int.toNat_natCast,Int.toNat_zero,Nat.reduceBEq,Nat.reduceLeDiff,Nat.reduceAdd,Nat.reduceSub,Nat.reduceMul,Int.reduceLE,Int.reduceLT,Int.reduceToNat,Int.reduceNeg,true_and,and_true,and_self,implies_true,forall_const,reduceCtorEq];done) | (simp only [*,cond_true,cond_false,Bool.not_true,Bool.not_false,go_sem,true_imp_iff,false_imp_iff,Bool.false_eq_true,Int.toNat_natCast,Int.toNat_zero,Nat.reduceBEq,Nat.reduceLeDiff,Nat.reduceAdd,Nat.reduceSub,Nat.reduceMul,Int.reduceLE,Int.reduceLT,Int.reduceToNat,Int.reduceNeg,true_and,and_true,and_self,implies_true,forall_const,reduceCtorEq];(repeat' (first | with_reducible refine And.intro ?_ ?_ | ((with_reducible show _≠_);first | assumption | omega | (simp_all;done) | grind) | with_reducible intro _)) <;> (first | done | assumption | rfl | omega | (simp_all;done))) | (simp_all [okI];done) | grind))
attribute [go_sem] b8 eO
end Go.Sx
end
section
namespace Go.Sx
open Go.Proofs
set_option maxRecDepth 100000
set_option linter.unusedSimpArgs false
theorem zY {p : Prop} (h : p:=by (first | done | (repeat' (first | with_reducible refine And.intro ?_ ?_ | ((with_reducible show _≠_);first | assumption | omega | (simp_all [aG,aK];done) | grind) | with_reducible intro _)) <;> (first | done | exact Empty.elim ‹Empty› | assumption | rfl | omega | decide | exact fk [0] | (simp only [*,cond_true,cond_false,Bool.not_true,Bool.not_false,go_sem,Nat.reduceBEq,Nat.reduceLeDiff,Nat.reduceLT,decide_true,Nat.reduceAdd,Nat.reduceSub,Nat.reduceMul,Int.reduceLE,Int.reduceLT,Int.reduceToNat,Int.reduceNeg,reduceCtorEq];done) | (simp only [*,cond_true,cond_false,Bool.not_true,Bool.not_false,go_sem,Nat.reduceBEq,Nat.reduceLeDiff,Nat.reduceLT,decide_true,Nat.reduceAdd,Nat.reduceSub,Nat.reduceMul,Int.reduceLE,Int.reduceLT,Int.reduceToNat,Int.reduceNeg,reduceCtorEq];(repeat' (first | with_reducible refine And.intro ?_ ?_ | ((with_reducible show _≠_);first | assumption | omega | (simp_all [aG,aK];done) | grind) | with_reducible intro _)) <;> (first | done | assumption | rfl | omega | decide | exact fk [0] | (simp_all [aG,aK];done))) | (simp_all [okI,aG,aK];done) | (simp_all [aG,aK];(first | done | exact fk2 [0])) | exact fk2 [0]))) : p:=h
theorem zZ {p : Prop} (h : p:=by (first | done | (repeat' (first | with_reducible refine And.intro ?_ ?_ | ((with_reducible show _≠_);first | assumption | omega | (simp_all [aG,aK];done) | grind) | with_reducible intro _)) <;> (first | done | exact Empty.elim ‹Empty› | assumption | rfl | omega | decide | exact fk [] | (simp only [*,cond_true,cond_false,Bool.not_true,Bool.not_false,go_sem,Nat.reduceBEq,Nat.reduceLeDiff,Nat.reduceLT,decide_true,Nat.reduceAdd,Nat.reduceSub,Nat.reduceMul,Int.reduceLE,Int.reduceLT,Int.reduceToNat,Int.reduceNeg,reduceCtorEq];done) | (simp only [*,cond_true,cond_false,Bool.not_true,Bool.not_false,go_sem,Nat.reduceBEq,Nat.reduceLeDiff,Nat.reduceLT,decide_true,Nat.reduceAdd,Nat.reduceSub,Nat.reduceMul,Int.reduceLE,Int.reduceLT,Int.reduceToNat,Int.reduceNeg,reduceCtorEq];(repeat' (first | with_reducible refine And.intro ?_ ?_ | ((with_reducible show _≠_);first | assumption | omega | (simp_all [aG,aK];done) | grind) | with_reducible intro _)) <;> (first | done | assumption | rfl | omega | decide | exact fk [] | (simp_all [aG,aK];done))) | (simp_all [okI,aG,aK];done) | (simp_all [aG,aK];(first | done | exact fk2 [])) | exact fk2 []))) : p:=h
theorem z6 {p : Prop} (h : p:=by simp only [go_sem,Nat.reduceBEq,Nat.reduceLeDiff,Nat.reduceLT,decide_true,Nat.reduceAdd,Nat.reduceSub,Nat.reduceMul,Int.reduceLE,Int.reduceLT,Int.reduceToNat,Int.reduceNeg,reduceCtorEq,hc,hw];all_goals exact zY) : p:=h
theorem z7 {p : Prop} (h : p:=by simp only [go_sem,Nat.reduceBEq,Nat.reduceLeDiff,Nat.reduceLT,decide_true,Nat.reduceAdd,Nat.reduceSub,Nat.reduceMul,Int.reduceLE,Int.reduceLT,Int.reduceToNat,Int.reduceNeg,reduceCtorEq,hc];all_goals exact zY) : p:=h
theorem IY {p : Prop} (h : p:=by simp only [go_sem,Nat.reduceBEq,Nat.reduceLeDiff,Nat.reduceLT,decide_true,Nat.reduceAdd,Nat.reduceSub,Nat.reduceMul,Int.reduceLE,Int.reduceLT,Int.reduceToNat,Int.reduceNeg,reduceCtorEq,hc,hw];all_goals exact zZ) : p:=h
theorem IZ {p : Prop} (h : p:=by simp only [go_sem,Nat.reduceBEq,Nat.reduceLeDiff,Nat.reduceLT,decide_true,Nat.reduceAdd,Nat.reduceSub,Nat.reduceMul,Int.reduceLE,Int.reduceLT,Int.reduceToNat,Int.reduceNeg,reduceCtorEq,hc];all_goals exact zZ) : p:=h
@[go_sem] def dy (a0 : District) (a1 : List Order) (k_0 : Nat) (s_0 : Unit) : Unit⊕Unit:=(bif (a1.getD k_0 (default : Order)).outlet then (bif (((((((decide ((a1.getD k_0 (default : Order)).hour < 0)) || (decide ((a1.getD k_0 (default : Order)).hour≥a0.hours))) || (decide ((a1.getD k_0 (default : Order)).index < 0))) || (decide ((a1.getD k_0 (default : Order)).index≥(a0.farms.length : Int)))) || (decide ((a1.getD k_0 (default : Order)).litres < 1))) || (decide ((a1.getD k_0 (default : Order)).litres > 1073741824))) || ((decide ((k_0 : Int) > 0)) && (decide ((ax (a1.getD (Int.toNat (IntKind.i64.wrap ((k_0 : Int) - 1))) (default : Order)) (a1.getD k_0 (default : Order)))≥0)))) then .inl () else .inr ()) else (bif (((((((decide ((a1.getD k_0 (default : Order)).hour < 0)) || (decide ((a1.getD k_0 (default : Order)).hour≥a0.hours))) || (decide ((a1.getD k_0 (default : Order)).index < 0))) || (decide ((a1.getD k_0 (default : Order)).index≥(a0.reaches.length : Int)))) || (decide ((a1.getD k_0 (default : Order)).litres < 1))) || (decide ((a1.getD k_0 (default : Order)).litres > 1073741824))) || ((decide ((k_0 : Int) > 0)) && (decide ((ax (a1.getD (Int.toNat (IntKind.i64.wrap ((k_0 : Int) - 1))) (default : Order)) (a1.getD k_0 (default : Order)))≥0)))) then .inl () else .inr ()))
def fe (a0 : District) (a1 : List Order) (k_0 : Nat) (s_0 : Unit) : Prop:=(a0.reaches.length≤bu→(((a1.getD k_0 (default : Order)).outlet=true→(a0.farms.length≤bu→(((((((decide ((a1.getD k_0 (default : Order)).hour < 0)) || (decide ((a1.getD k_0 (default : Order)).hour≥a0.hours))) || (decide ((a1.getD k_0 (default : Order)).index < 0))) || (decide ((a1.getD k_0 (default : Order)).index≥(a0.farms.length : Int)))) || (decide ((a1.getD k_0 (default : Order)).litres < 1))) || (decide ((a1.getD k_0 (default : Order)).litres > 1073741824)))=false→((decide ((k_0 : Int) > 0))=true→(0≤(IntKind.i64.wrap ((k_0 : Int) - 1))∧(IntKind.i64.wrap ((k_0 : Int) - 1)) < (a1.length : Int))))))∧((a1.getD k_0 (default : Order)).outlet=false→(((((((decide ((a1.getD k_0 (default : Order)).hour < 0)) || (decide ((a1.getD k_0 (default : Order)).hour≥a0.hours))) || (decide ((a1.getD k_0 (default : Order)).index < 0))) || (decide ((a1.getD k_0 (default : Order)).index≥(a0.reaches.length : Int)))) || (decide ((a1.getD k_0 (default : Order)).litres < 1))) || (decide ((a1.getD k_0 (default : Order)).litres > 1073741824)))=false→((decide ((k_0 : Int) > 0))=true→(0≤(IntKind.i64.wrap ((k_0 : Int) - 1))∧(IntKind.i64.wrap ((k_0 : Int) - 1)) < (a1.length : Int)))))))
def bB (a0 : District) (a1 : List Order) : Int:=(bif ((bt a0) !=0) then (bt a0) else (bif (decide ((a1.length : Int) > 4096)) then 2 else (match az (dy a0 a1) a1.length 0 () with | .inl x_0_0=> 220 | .inr s_0=> 0)))
def eu (a0 : District) (a1 : List Order) : Prop:=(((bt a0) !=0)=false→(a1.length≤bu→((decide ((a1.length : Int) > 4096))=false→(a1.length≤bu→okI (dy a0 a1) (fe a0 a1) a1.length 0 ()))))
@[go_sem] def j8 : List SV→Option Con:=(pD .district fun a0=> (pR .order fun a1=> (pE (.det (eu a0 a1) (.v (.int .i64 (bB a0 a1)))))))
set_option maxHeartbeats 4000000 in
theorem mP : FnOk Tryz.prog 25 j8:=by
 have hG : ConsOk Tryz.prog (mkG [(42,fun l=> k_ (cO [.st .district] l)),(44,b8),(121,eO)] []) :=aQ (cgc (nN.norm [.st .district]) (cgc lg (cgc nR cg0))) cg0
 refine bb [.o] mixed aH hG (fn:=Tryz.f25) (c:=aj Tryz.f25) (by kernel_rfl) (by kernel_rfl) (by kernel_rfl) (by kernel_rfl) (bU fun a0=> (c8 fun a1=> (aM (fun hp=> ?_))))
 dsimp only [aW] at hp
 unfold eu at hp
 refine ⟨Nat.le_of_ble_eq_true rfl,(fun id st=> bif Nat.beq id 0 then some (LCR (ρ:=Unit) (σ:=Unit) 1 [] [0] (fun k_0 s_0=> ⟨[(1,.rs .order a1),(2,.ptr 0 0),(5,.fn 121 [] [.ep [.ls [.fn 79 [] [],.fn 80 [] [],.fn 81 [] []]] 0]),(18,.rs .order a1),(19,.v (.int .i64 (a1.length : Int))),(20,.v (.int .i64 (k_0 : Int)))],[.cells (cellsOf .district a0)]⟩) (dy a0 a1) (fe a0 a1) a1.length () (a1.length≤bu) (fun _=> .ret) (fun x_0_0=> ⟨[(4,.v (.int .i64 220))],[.dead]⟩) st) else none),?_,?_⟩
 ·unfold aj Tryz.f25
  simp only [aB,true_and,and_true]
  ·refine cp mixed aH hG (by kernel_rfl) (fun _=> rfl) (a1.length : Int) rfl jS (fun hb0 k_0 s_0 hlt0 hq0 hw hc=> ⟨L0,aw _,?_⟩) (fun hb0 s_0 hc=> ?_)
   ·unfold fe at hq0
    try simp only [hw,Int.toNat_natCast] at hq0
    exact z6
   ·exact z7
 ·unfold aj Tryz.f25
  try unfold bB
  simp only [go_sem,Nat.reduceBEq,Nat.reduceLeDiff,Nat.reduceLT,decide_true,Nat.reduceAdd,Nat.reduceSub,Nat.reduceMul,Int.reduceLE,Int.reduceLT,Int.reduceToNat,Int.reduceNeg,reduceCtorEq,b8,eO,if_true]
  all_goals exact cl
def bE (d : District) (l_ : List Order) : Int:=(bif (((bB d l_) ==0) && (decide ((IntKind.i64.wrap ((d.reaches.length : Int) * d.hours)) > 1024))) then 2 else (bB d l_))
def gb (d : District) (l_ : List Order) : Prop:=(eu d l_)
@[go_sem] def mQ : List SV→Option Con:=(pD .district fun d=> (pR .order fun l_=> (pE (.det (gb d l_) (.v (.int .i64 (bE d l_)))))))
theorem rI : FnOk Tryz.prog 93 mQ:=by
 have hG : ConsOk Tryz.prog (mkG [(25,fun l=> j8 (cO [.st .district,.sl .order] l))] []) :=aQ (cgc (mP.norm [.st .district,.sl .order]) cg0) cg0
 refine bb [.o] mixed aH hG (fn:=Tryz.f93) (c:=aj Tryz.f93) (by kernel_rfl) (by kernel_rfl) (by kernel_rfl) (by kernel_rfl) (bU fun d=> (c8 fun l_=> (aM (fun hp=> ?_))))
 dsimp only [aW] at hp
 unfold gb at hp
 refine ⟨Nat.le_of_ble_eq_true rfl,L0,aw _,?_⟩
 ·unfold aj Tryz.f93
  try unfold bE
  simp only [go_sem,Nat.reduceBEq,Nat.reduceLeDiff,Nat.reduceLT,decide_true,Nat.reduceAdd,Nat.reduceSub,Nat.reduceMul,Int.reduceLE,Int.reduceLT,Int.reduceToNat,Int.reduceNeg,reduceCtorEq]
  all_goals exact cl
@[go_sem] def j9 (l_ : List Int) (k_0 : Nat) (s_0 : Unit) : Int⊕Unit:=(bif ((l_.getD k_0 (0 : Int)) !=0) then .inl (l_.getD k_0 (0 : Int)) else .inr ())
def iA (l_ : List Int) : Int:=(match az (j9 l_) l_.length 0 () with | .inl x_0_0=> x_0_0 | .inr s_0=> 0)
@[go_sem] def oT : List SV→Option Con:=(pR .int fun l_=> (pE (.det True (.v (.int .i64 (iA l_))))))
set_option maxHeartbeats 4000000 in
theorem tT : FnOk Tryz.prog 77 oT:=by
 have hG : ConsOk Tryz.prog (mkG [] []) :=aQ cg0 cg0
 refine bb [.o] mixed aH hG (fn:=Tryz.f77) (c:=aj Tryz.f77) (by kernel_rfl) (by kernel_rfl) (by kernel_rfl) (by kernel_rfl) (c8 fun l_=> (aM (fun hp=> ?_)))
 dsimp only [aW] at hp
 refine ⟨Nat.le_of_ble_eq_true rfl,(fun id st=> bif Nat.beq id 0 then some (LCR (ρ:=Int) (σ:=Unit) 0 [] [] (fun k_0 s_0=> ⟨[(5,.rs .int l_),(6,.v (.int .i64 (l_.length : Int))),(7,.v (.int .i64 (k_0 : Int)))],[]⟩) (j9 l_) pT l_.length () (l_.length≤bu) (fun _=> .ret) (fun x_0_0=> ⟨[(2,.v (.int .i64 x_0_0))],[]⟩) st) else none),?_,?_⟩
 ·unfold aj Tryz.f77
  simp only [aB,true_and,and_true]
  ·refine cp mixed aH hG (by kernel_rfl) (fun _=> rfl) (l_.length : Int) rfl jS (fun hb0 k_0 s_0 hlt0 _ hw hc=> ⟨L0,aw _,?_⟩) (fun hb0 s_0 hc=> ?_)
   ·exact IY
   ·exact IZ
 ·unfold aj Tryz.f77
  try unfold iA
  simp only [go_sem,Nat.reduceBEq,Nat.reduceLeDiff,Nat.reduceLT,decide_true,Nat.reduceAdd,Nat.reduceSub,Nat.reduceMul,Int.reduceLE,Int.reduceLT,Int.reduceToNat,Int.reduceNeg,reduceCtorEq]
  all_goals exact cl
def gc (a : Claim) (b : Claim) : Int:=(iA ([(aS a.hour b.hour),(aS a.rank b.rank),(aS a.right b.right),(aS a.farm b.farm)]))
@[go_sem] def oU : List SV→Option Con:=(pD .claim fun a=> (pD .claim fun b=> (pE (.det True (.v (.int .i64 (gc a b)))))))
theorem tU : FnOk Tryz.prog 43 oU:=by
 have hG : ConsOk Tryz.prog (mkG [(70,cq),(77,fun l=> oT (cO [.sl .int] l))] []) :=aQ (cgc cP (cgc (tT.norm [.sl .int]) cg0)) cg0
 refine bb [.o] mixed aH hG (fn:=Tryz.f43) (c:=aj Tryz.f43) (by kernel_rfl) (by kernel_rfl) (by kernel_rfl) (by kernel_rfl) (bU fun a=> (bU fun b=> (aM (fun hp=> ?_))))
 dsimp only [aW] at hp
 refine ⟨Nat.le_of_ble_eq_true rfl,L0,aw _,?_⟩
 ·unfold aj Tryz.f43
  try unfold gc
  simp only [go_sem,Nat.reduceBEq,Nat.reduceLeDiff,Nat.reduceLT,decide_true,Nat.reduceAdd,Nat.reduceSub,Nat.reduceMul,Int.reduceLE,Int.reduceLT,Int.reduceToNat,Int.reduceNeg,reduceCtorEq]
  all_goals exact cl
@[go_sem] def dW (a0 : District) (a1 : List Claim) (k_0 : Nat) (s_0 : Unit) : Unit⊕Unit:=(bif ((((!((((((((decide ((a1.getD k_0 (default : Claim)).right≥0)) && (decide ((a1.getD k_0 (default : Claim)).right < (a0.rights.length : Int)))) && (decide ((a1.getD k_0 (default : Claim)).farm≥0))) && (decide ((a1.getD k_0 (default : Claim)).farm < (a0.farms.length : Int)))) && (decide ((a1.getD k_0 (default : Claim)).hour≥0))) && (decide ((a1.getD k_0 (default : Claim)).hour < a0.hours))) && (decide ((a1.getD k_0 (default : Claim)).litres≥1))) && (decide ((a1.getD k_0 (default : Claim)).litres≤1073741824)))) || ((a0.rights.getD (Int.toNat ((a1.getD k_0 (default : Claim)).right)) (default : Right)).kind !=1)) || ((a0.rights.getD (Int.toNat ((a1.getD k_0 (default : Claim)).right)) (default : Right)).rank !=(a1.getD k_0 (default : Claim)).rank)) || ((decide ((k_0 : Int) > 0)) && (decide ((gc (a1.getD (Int.toNat (IntKind.i64.wrap ((k_0 : Int) - 1))) (default : Claim)) (a1.getD k_0 (default : Claim)))≥0)))) then .inl () else .inr ())
def fK (a0 : District) (a1 : List Claim) (k_0 : Nat) (s_0 : Unit) : Prop:=(((!((((((((decide ((a1.getD k_0 (default : Claim)).right≥0)) && (decide ((a1.getD k_0 (default : Claim)).right < (a0.rights.length : Int)))) && (decide ((a1.getD k_0 (default : Claim)).farm≥0))) && (decide ((a1.getD k_0 (default : Claim)).farm < (a0.farms.length : Int)))) && (decide ((a1.getD k_0 (default : Claim)).hour≥0))) && (decide ((a1.getD k_0 (default : Claim)).hour < a0.hours))) && (decide ((a1.getD k_0 (default : Claim)).litres≥1))) && (decide ((a1.getD k_0 (default : Claim)).litres≤1073741824))))=false→(0≤(a1.getD k_0 (default : Claim)).right∧(a1.getD k_0 (default : Claim)).right < (a0.rights.length : Int)))∧((((!((((((((decide ((a1.getD k_0 (default : Claim)).right≥0)) && (decide ((a1.getD k_0 (default : Claim)).right < (a0.rights.length : Int)))) && (decide ((a1.getD k_0 (default : Claim)).farm≥0))) && (decide ((a1.getD k_0 (default : Claim)).farm < (a0.farms.length : Int)))) && (decide ((a1.getD k_0 (default : Claim)).hour≥0))) && (decide ((a1.getD k_0 (default : Claim)).hour < a0.hours))) && (decide ((a1.getD k_0 (default : Claim)).litres≥1))) && (decide ((a1.getD k_0 (default : Claim)).litres≤1073741824)))) || ((a0.rights.getD (Int.toNat ((a1.getD k_0 (default : Claim)).right)) (default : Right)).kind !=1))=false→(0≤(a1.getD k_0 (default : Claim)).right∧(a1.getD k_0 (default : Claim)).right < (a0.rights.length : Int)))∧((((!((((((((decide ((a1.getD k_0 (default : Claim)).right≥0)) && (decide ((a1.getD k_0 (default : Claim)).right < (a0.rights.length : Int)))) && (decide ((a1.getD k_0 (default : Claim)).farm≥0))) && (decide ((a1.getD k_0 (default : Claim)).farm < (a0.farms.length : Int)))) && (decide ((a1.getD k_0 (default : Claim)).hour≥0))) && (decide ((a1.getD k_0 (default : Claim)).hour < a0.hours))) && (decide ((a1.getD k_0 (default : Claim)).litres≥1))) && (decide ((a1.getD k_0 (default : Claim)).litres≤1073741824)))) || ((a0.rights.getD (Int.toNat ((a1.getD k_0 (default : Claim)).right)) (default : Right)).kind !=1)) || ((a0.rights.getD (Int.toNat ((a1.getD k_0 (default : Claim)).right)) (default : Right)).rank !=(a1.getD k_0 (default : Claim)).rank))=false→((decide ((k_0 : Int) > 0))=true→(0≤(IntKind.i64.wrap ((k_0 : Int) - 1))∧(IntKind.i64.wrap ((k_0 : Int) - 1)) < (a1.length : Int))))))
def ba (a0 : District) (a1 : List Claim) : Int:=(bif ((bt a0) !=0) then (bt a0) else (bif (decide ((a1.length : Int) > 4096)) then 2 else (match az (dW a0 a1) a1.length 0 () with | .inl x_0_0=> 260 | .inr s_0=> 0)))
def eP (a0 : District) (a1 : List Claim) : Prop:=(((bt a0) !=0)=false→(a1.length≤bu→((decide ((a1.length : Int) > 4096))=false→(a1.length≤bu→okI (dW a0 a1) (fK a0 a1) a1.length 0 ()))))
@[go_sem] def iB : List SV→Option Con:=(pD .district fun a0=> (pR .claim fun a1=> (pE (.det (eP a0 a1) (.v (.int .i64 (ba a0 a1)))))))
set_option maxHeartbeats 4000000 in
theorem j_ : FnOk Tryz.prog 24 iB:=by
 have hG : ConsOk Tryz.prog (mkG [(42,fun l=> k_ (cO [.st .district] l)),(43,oU)] []) :=aQ (cgc (nN.norm [.st .district]) (cgc tU cg0)) cg0
 refine bb [.o] mixed aH hG (fn:=Tryz.f24) (c:=aj Tryz.f24) (by kernel_rfl) (by kernel_rfl) (by kernel_rfl) (by kernel_rfl) (bU fun a0=> (c8 fun a1=> (aM (fun hp=> ?_))))
 dsimp only [aW] at hp
 unfold eP at hp
 refine ⟨Nat.le_of_ble_eq_true rfl,(fun id st=> bif Nat.beq id 0 then some (LCR (ρ:=Unit) (σ:=Unit) 1 [] [0] (fun k_0 s_0=> ⟨[(1,.rs .claim a1),(2,.ptr 0 0),(16,.rs .claim a1),(17,.v (.int .i64 (a1.length : Int))),(18,.v (.int .i64 (k_0 : Int)))],[.cells (cellsOf .district a0)]⟩) (dW a0 a1) (fK a0 a1) a1.length () (a1.length≤bu) (fun _=> .ret) (fun x_0_0=> ⟨[(4,.v (.int .i64 260))],[.dead]⟩) st) else none),?_,?_⟩
 ·unfold aj Tryz.f24
  simp only [aB,true_and,and_true]
  ·refine cp mixed aH hG (by kernel_rfl) (fun _=> rfl) (a1.length : Int) rfl jS (fun hb0 k_0 s_0 hlt0 hq0 hw hc=> ⟨L0,aw _,?_⟩) (fun hb0 s_0 hc=> ?_)
   ·unfold fK at hq0
    try simp only [hw,Int.toNat_natCast] at hq0
    exact z6
   ·exact z7
 ·unfold aj Tryz.f24
  try unfold ba
  simp only [go_sem,Nat.reduceBEq,Nat.reduceLeDiff,Nat.reduceLT,decide_true,Nat.reduceAdd,Nat.reduceSub,Nat.reduceMul,Int.reduceLE,Int.reduceLT,Int.reduceToNat,Int.reduceNeg,reduceCtorEq]
  all_goals exact cl
end Go.Sx
end
section
namespace Go.Sx
open Go.Proofs
def mR (a : Order) : Int:=bif a.outlet then 1 else 0
def olt (a b : Order) : Prop:=a.hour < b.hour∨a.hour=b.hour∧(mR a < mR b∨mR a=mR b∧a.index < b.index)
theorem g_ (x y : Int) : aS x y=if x < y then -1 else if x > y then 1 else 0:=by
 unfold aS fv
 simp [Bool.cond_eq_ite]
theorem z8 {a b : Order} (h : ax a b < 0) : olt a b:=by
 unfold ax at h
 unfold olt
 have k0 : ∀ x,lh 0 x=x.hour:=fun _=> rfl
 have k1 : ∀ x,lh 1 x=mR x:=fun _=> rfl
 have k2 : ∀ x,lh 2 x=x.index:=fun _=> rfl
 simp only [az,pz,Nat.zero_add,Nat.reduceAdd,k0,k1,k2,g_] at h
 generalize mR a=p at h ⊢
 generalize mR b=q at h ⊢
 rcases Int.lt_trichotomy a.hour b.hour with e | e | e
 ·exact .inl e
 ·refine .inr ⟨e,?_⟩
  rcases Int.lt_trichotomy p q with e1 | e1 | e1
  ·exact .inl e1
  ·refine .inr ⟨e1,?_⟩
   rcases Int.lt_trichotomy a.index b.index with e2 | e2 | e2
   ·exact e2
   ·simp [e,e1,e2] at h
   ·have h1 : ¬ a.index < b.index:=by omega
    simp [e,e1,e2,h1] at h
  ·have h1 : ¬ p < q:=by omega
   simp [e,e1,h1] at h
 ·have h1 : ¬ a.hour < b.hour:=by omega
  simp [e,h1] at h
theorem xv {a b c : Order} (h1 : olt a b) (h2 : olt b c) : olt a c:=by
 unfold olt at *;omega
theorem Aa (a b : Order) : ax a b < 0↔olt a b:=by
 refine ⟨z8,fun h=> ?_⟩
 unfold ax
 have k0 : ∀ x,lh 0 x=x.hour:=fun _=> rfl
 have k1 : ∀ x,lh 1 x=mR x:=fun _=> rfl
 have k2 : ∀ x,lh 2 x=x.index:=fun _=> rfl
 simp only [az,pz,Nat.zero_add,Nat.reduceAdd,k0,k1,k2,g_]
 unfold olt at h
 generalize mR a=p at h ⊢
 generalize mR b=q at h ⊢
 rcases h with h | ⟨e,h | ⟨e2,h⟩⟩
 ·simp [h]
 ·simp [e,h]
 ·simp [e,e2,h]
open Go.Shelf Go.Sort in
theorem nu : SWO (ltOf ax) :=by
 have e : ∀ x y,ltOf ax x y=true↔olt x y:=fun x y=> by unfold ltOf;rw [decide_eq_true_eq,Aa]
 have e' : ∀ x y,ltOf ax x y=false↔¬ olt x y:=fun x y=> by rw [←e];simp
 refine ⟨fun x=> (e' x x).2 (by unfold olt;omega),fun x y z h1 h2=> (e x z).2 (xv ((e x y).1 h1) ((e y z).1 h2)),fun x y z h1 h2=> (e' x z).2 ?_⟩
 have h1:=(e' x y).1 h1
 have h2:=(e' y z).1 h2
 unfold olt at *
 omega
end Go.Sx
end
section
namespace Go.Sx
open Go.Proofs
theorem gf {n i : Nat} {step : Nat→Unit→Unit⊕Unit} {s : Unit} (h : az step n i s= .inr s) : ∀ j,i≤j→j < i + n→step j ()= .inr () :=by
 induction n generalizing i with
 | zero=> intro j h1 h2;omega
 | succ n ih=>
  simp only [az] at h
  cases hs : step i s with
  | inl r=> rw [hs] at h;cases h
  | inr s'=>
   rw [hs] at h
   intro j h1 h2
   by_cases e : j=i
   ·subst e;cases s;exact hs
   ·exact ih h j (by omega) (by omega)
theorem rJ {b : Bool} {e : Int} : bV b e=b:=by
 cases b <;> rfl
theorem yD {a b c : Int} (h : aR [a,b,c]=true) : a≤b∧b≤c:=by
 unfold aR at h
 simp only [List.length_cons,List.length_nil,Nat.zero_add,Nat.reduceAdd,Nat.reduceSub] at h
 split at h
 ·cases h
 ·rename_i s hs
  have h0:=gf hs 0 (by omega) (by omega)
  have h1:=gf hs 1 (by omega) (by omega)
  simp [cX,IntKind.wrap,IntKind.bits,IntKind.signed] at h0 h1
  constructor
  ·cases hd : decide (b < a) <;> simp_all <;> omega
  ·cases hd : decide (c < b) <;> simp_all <;> omega
theorem pA {a b c d : Int} (h : aR [a,b,c,d]=true) : a≤b∧b≤c∧c≤d:=by
 unfold aR at h
 simp only [List.length_cons,List.length_nil,Nat.zero_add,Nat.reduceAdd,Nat.reduceSub] at h
 split at h
 ·cases h
 ·rename_i s hs
  have h0:=gf hs 0 (by omega) (by omega)
  have h1:=gf hs 1 (by omega) (by omega)
  have h2:=gf hs 2 (by omega) (by omega)
  simp [cX,IntKind.wrap,IntKind.bits,IntKind.signed] at h0 h1 h2
  refine ⟨?_,?_,?_⟩
  ·cases hd : decide (b < a) <;> simp_all <;> omega
  ·cases hd : decide (c < b) <;> simp_all <;> omega
  ·cases hd : decide (d < c) <;> simp_all <;> omega
structure Right1 (d : District) : Prop where
 reaches : d.reaches.length≤64
 one : 0 < d.reaches.length
 farms : d.farms.length≤600
 rights : d.rights.length≤256
 hours1 : 1≤d.hours
 hours : d.hours≤4096
 start0 : 0≤d.tank.start
 start : d.tank.start≤d.tank.cap
 cap : d.tank.cap≤1099511627776
 reach : ∀ k,k < d.reaches.length→bN (k : Int) (d.reaches.getD k default)=true
 farm : ∀ k,k < d.farms.length→0≤(d.farms.getD k default).reach∧(d.farms.getD k default).reach < (d.reaches.length : Int)
theorem oV {d : District} (h : (bt d !=0)=false) : Right1 d:=by
 have h : bt d=0:=by simpa using h
 unfold bt at h
 simp only [rJ] at h
 cases h1 : (decide ((d.reaches.length : Int)≤64) && decide ((d.farms.length : Int)≤600) && decide ((d.crops.length : Int)≤32) && decide ((d.rights.length : Int)≤256) && decide ((d.duties.length : Int)≤256)) with
 | false=> rw [h1] at h;simp at h
 | true=>
  rw [h1] at h
  simp only [cond_true] at h
  cases h2 : eB d 191 with
  | false=> rw [h2] at h;simp at h
  | true=>
   unfold eB at h2
   simp only [rJ] at h2
   cases h3 : (aR [1,d.hours,4096] && aR [0,d.tank.start,d.tank.cap,1099511627776] && decide ((d.reaches.length : Int) > 0)) with
   | false=> rw [h3] at h2;simp at h2
   | true=>
    rw [h3] at h2
    simp only [cond_true] at h2
    simp only [Bool.and_eq_true,decide_eq_true_eq] at h1 h3
    obtain ⟨r1,r2⟩ :=yD h3.1.1
    obtain ⟨r3,r4,r5⟩ :=pA h3.1.2
    split at h2
    ·cases h2
    rename_i s0 hs0
    split at h2
    ·cases h2
    rename_i s1 hs1
    split at h2
    ·cases h2
    rename_i s2 hs2
    refine ⟨by omega,by omega,by omega,by omega,r1,r2,r3,r4,r5,fun k hk=> ?_,fun k hk=> ?_⟩
    ·have:=gf hs0 k (by omega) (by omega)
     simp only [fI,rJ] at this
     cases he : bN (k : Int) (d.reaches.getD k default) with
     | false=> rw [he] at this;simp at this
     | true=> rfl
    ·have:=gf hs2 k (by omega) (by omega)
     simp only [fJ,rJ] at this
     have hx : cr (d.farms.getD k default).reach (d.reaches.length : Int)=true:=by
      cases he : cr (d.farms.getD k default).reach (d.reaches.length : Int) with
      | false=> rw [he] at this;cases hd : decide ((d.farms.getD k default).area > 0) <;> rw [hd] at this <;> simp at this
      | true=> rfl
     simpa [cr] using hx
structure Order1 (d : District) (x : Order) : Prop where
 hour0 : 0≤x.hour
 hour : x.hour < d.hours
 index0 : 0≤x.index
 farm : x.outlet=true→x.index < (d.farms.length : Int)
 reach : x.outlet=false→x.index < (d.reaches.length : Int)
 litres1 : 1≤x.litres
 litres : x.litres≤1073741824
theorem mS {k : Nat} (h : k < 9223372036854775807) (h1 : 0 < k) : IntKind.i64.wrap ((k : Int) - 1)=((k - 1 : Nat) : Int) :=by
 rw [cd (by omega) (by omega)];omega
theorem vA (d : District) (l : List Order) : eu d l:=fun _ h1 _ _=> py _ _ _ fun j s h2 h3=> by
 unfold bu at h1
 unfold fe
 have e : decide ((j : Int) > 0)=true→(0≤IntKind.i64.wrap ((j : Int) - 1)∧IntKind.i64.wrap ((j : Int) - 1) < (l.length : Int)) :=fun h=> by
  simp only [decide_eq_true_eq] at h
  rw [mS (by omega) (by omega)];omega
 exact fun _=> ⟨fun _ _ _=> e,fun _ _=> e⟩
structure Orders1 (d : District) (l : List Order) : Prop where
 right : Right1 d
 len : l.length≤4096
 one : ∀ k,k < l.length→Order1 d (l.getD k default)
 asc : ∀ k,k + 1 < l.length→ax (l.getD k default) (l.getD (k + 1) default) < 0
theorem vB {d : District} {l : List Order} (h : (bB d l !=0)=false) : Orders1 d l:=by
 have h : bB d l=0:=by simpa using h
 unfold bB at h
 cases h1 : bt d !=0 with
 | true=> rw [h1] at h;simp at h h1;exact absurd h h1
 | false=>
  rw [h1] at h
  simp only [cond_false] at h
  cases h2 : decide ((l.length : Int) > 4096) with
  | true=> rw [h2] at h;simp at h
  | false=>
   rw [h2] at h
   simp only [cond_false] at h
   have hl : l.length≤4096:=by simp only [decide_eq_false_iff_not] at h2;omega
   split at h
   ·cases h
   rename_i s hs
   have key : ∀ k,k < l.length→Order1 d (l.getD k default)∧(0 < k→ax (l.getD (k - 1) default) (l.getD k default) < 0) :=by
    intro k hk
    have:=gf hs k (by omega) (by omega)
    have hp : ((k : Int) > 0)→(IntKind.i64.wrap ((k : Int) - 1)).toNat=k - 1:=fun h=> by
     rw [mS (by omega) (by omega)];omega
    unfold dy at this
    generalize hx : l.getD k default=x at this ⊢
    cases ho : x.outlet with
    | true=>
     rw [ho] at this
     simp only [cond_true] at this
     rw [Bool.cond_eq_ite] at this
     split at this
     ·cases this
     ·rename_i hc
      simp only [Bool.not_eq_true,Bool.or_eq_false_iff,Bool.and_eq_false_iff,decide_eq_false_iff_not] at hc
      refine ⟨⟨by omega,by omega,by omega,fun _=> by omega,fun h=> by (rw [ho] at h;cases h),by omega,by omega⟩,fun hk0=> ?_⟩
      rcases hc.2 with h | h
      ·omega
      ·rw [hp (by omega)] at h;omega
    | false=>
     rw [ho] at this
     simp only [cond_false] at this
     rw [Bool.cond_eq_ite] at this
     split at this
     ·cases this
     ·rename_i hc
      simp only [Bool.not_eq_true,Bool.or_eq_false_iff,Bool.and_eq_false_iff,decide_eq_false_iff_not] at hc
      refine ⟨⟨by omega,by omega,by omega,fun h=> by (rw [ho] at h;cases h),fun _=> by omega,by omega,by omega⟩,fun hk0=> ?_⟩
      rcases hc.2 with h | h
      ·omega
      ·rw [hp (by omega)] at h;omega
   exact ⟨oV h1,hl,fun k hk=> (key k hk).1,fun k hk=> (key (k + 1) hk).2 (by omega)⟩
structure Reach1 (i : Int) (x : Reach) : Prop where
 up : x.up < i
 delay1 : 1≤x.delay
 delay : x.delay≤16
 siphon0 : 0≤x.siphon
 siphon : x.siphon≤x.cap
 cap : x.cap≤1073741824
 bank : x.siphon≤x.bank
 bank1 : x.bank≤1099511627776
theorem xw {i : Int} {x : Reach} (hi : 0≤i) (h : bN i x=true) : Reach1 i x:=by
 unfold bN at h
 cases hd : decide (i > 0) with
 | true=>
  rw [hd] at h
  simp only [cond_true,Bool.and_eq_true,cr,decide_eq_true_eq] at h hd
  obtain ⟨⟨⟨⟨⟨h0,h1⟩,h2⟩,h3⟩,h4⟩,h5⟩ :=h
  have:=yD h1
  have:=pA h2
  have:=pA h3
  constructor <;> omega
 | false=>
  rw [hd] at h
  simp only [cond_false,Bool.and_eq_true,beq_iff_eq,decide_eq_false_iff_not] at h hd
  obtain ⟨⟨⟨⟨⟨h0,h1⟩,h2⟩,h3⟩,h4⟩,h5⟩ :=h
  have:=yD h1
  have:=pA h2
  have:=pA h3
  constructor <;> omega
theorem Right1.reach1 {d : District} (h : Right1 d) {k : Nat} (hk : k < d.reaches.length) : Reach1 k (d.reaches.getD k default) :=xw (by omega) (h.reach k hk)
theorem xx {step : Nat→Unit→Unit⊕Unit} : ∀ {n i : Nat},(∀ j,i≤j→j < i + n→step j ()= .inr ())→az step n i ()= .inr ()
 | 0,_,_=> rfl
 | n + 1,i,h=> by
  simp only [az]
  rw [h i (by omega) (by omega)]
  exact xx fun j h1 h2=> h j (by omega) (by omega)
theorem Ab {step : Nat→Unit→Unit⊕Unit} {n : Nat} : az step n 0 ()= .inr ()↔∀ j,j < n→step j ()= .inr () :=
 ⟨fun h j hj=> gf h j (by omega) (by omega),fun h=> xx fun j _ h2=> h j (by omega)⟩
theorem B3 {ρ : Type} {n i : Nat} {step : Nat→Unit→ρ⊕Unit} {s : Unit} (h : az step n i s= .inr s) : ∀ j,i≤j→j < i + n→step j ()= .inr () :=by
 induction n generalizing i with
 | zero=> intro j h1 h2;omega
 | succ n ih=>
  simp only [az] at h
  cases hs : step i s with
  | inl r=> rw [hs] at h;cases h
  | inr s'=>
   rw [hs] at h
   intro j h1 h2
   by_cases e : j=i
   ·subst e;cases s;exact hs
   ·exact ih h j (by omega) (by omega)
theorem qe (d : District) (l : List Order) : bB d l=0↔bt d=0∧l.length≤4096∧∀ k,k < l.length→dy d l k ()= .inr () :=by
 unfold bB
 cases h1 : (bt d !=0) with
 | true=> simp at h1;simp [h1]
 | false=>
  simp at h1
  simp only [cond_false,h1,true_and]
  cases h2 : decide ((l.length : Int) > 4096) with
  | true=> simp at h2;simp;omega
  | false=>
   simp at h2
   rw [←Ab]
   cases h3 : az (dy d l) l.length 0 () with
   | inl y=> simp
   | inr y=> simp;omega
theorem c9 {α : Type} (l : List α) (d : α) {n : Nat} (h : n < l.length) : l.getD n d=l[n] :=by
 rw [List.getD_eq_getElem?_getD,List.getElem?_eq_getElem h];rfl
theorem FF {κ υ : Type} [DecidableEq κ] (l : List (κ×υ)) (x z : κ) (y : υ) : gk (nW l x y) z=if z=x then some y else gk l z:=by
 induction l with
 | nil=> simp [nW,gk]
 | cons a r ih=>
  obtain ⟨a,b⟩ :=a
  unfold nW
  by_cases h : x=a
  ·subst h
   simp only [if_pos]
   unfold gk
   by_cases hz : z=x <;> simp [hz]
  ·rw [if_neg h]
   unfold gk
   by_cases hz : z=a
   ·subst hz
    rw [if_pos rfl,if_neg (fun e=> h e.symm),if_pos rfl]
   ·rw [if_neg hz,ih,if_neg hz]
theorem eZ {k : Tag} (l : List (k.T×Int)) (x z : k.T) (y : Int) : ay k .int (cU k .int l x y) z=if z=x then y else ay k .int l z:=by
 unfold ay cU
 rw [FF]
 by_cases h : z=x <;> simp [h]
theorem Orders1.lt {d : District} {l : List Order} (h : Orders1 d l) : ∀ (k j : Nat),j < k→k < l.length→olt (l.getD j default) (l.getD k default)
 | k + 1,j,h1,h2=> by
  have h3:=z8 (h.asc k (by omega))
  by_cases e : j=k
  ·subst e;exact h3
  ·exact xv (h.lt k j (by omega) (by omega)) h3
def aT (p : Order→Bool) : List Order→Int
 | [] => 0
 | x :: r=> (bif p x then x.litres else 0) + aT p r
theorem vC (p : Order→Bool) (a b : List Order) : aT p (a ++ b)=aT p a + aT p b:=by
 induction a with
 | nil=> simp [aT]
 | cons x r ih=> simp only [List.cons_append,aT,ih];omega
theorem vD {p : Order→Bool} {l : List Order} (h : ∀ x∈l,1≤x.litres∧x.litres≤1073741824) : 0≤aT p l∧aT p l≤l.length * 1073741824:=by
 induction l with
 | nil=> simp [aT]
 | cons x r ih=>
  have h1:=ih fun a ha=> h a (List.mem_cons_of_mem _ ha)
  have h2:=h x List.mem_cons_self
  simp only [aT,List.length_cons]
  cases p x <;> simp only [cond_true,cond_false] <;> omega
theorem ew {p : Order→Bool} {l : List Order} (h : ∀ x∈l,p x=false) : aT p l=0:=by
 induction l with
 | nil=> rfl
 | cons x r ih=>
  simp only [aT]
  rw [h x List.mem_cons_self,ih fun y hy=> h y (List.mem_cons_of_mem _ hy)]
  rfl
theorem nv {p q : Order→Bool} {l : List Order} (h : ∀ x∈l,p x=q x) : aT p l=aT q l:=by
 induction l with
 | nil=> rfl
 | cons x r ih=>
  simp only [aT]
  rw [h x List.mem_cons_self,ih fun y hy=> h y (List.mem_cons_of_mem _ hy)]
theorem rK {p q r : Order→Bool} {l : List Order} (h : ∀ x∈l,(r x=(p x || q x))∧(p x && q x)=false) : aT p l + aT q l=aT r l:=by
 induction l with
 | nil=> rfl
 | cons x t ih=>
  simp only [aT]
  have h1:=h x List.mem_cons_self
  have h2:=ih fun y hy=> h y (List.mem_cons_of_mem _ hy)
  rw [h1.1]
  cases hp : p x <;> cases hq : q x <;> simp only [hp,hq,Bool.or_true,Bool.or_false,Bool.and_self,cond_true,cond_false] at h1 ⊢
  all_goals (first | omega | (simp at h1))
theorem Ac {p : Order→Bool} {l : List Order} {j : Nat} (hj : j < l.length) (h : p l[j]=true) (hn : ∀ i (hi : i < l.length),i≠j→p l[i]=false) : aT p l=l[j].litres:=by
 have e : l=l.take j ++ l[j] :: l.drop (j + 1) :=by rw [←List.drop_eq_getElem_cons hj,List.take_append_drop]
 conv=> lhs;rw [e,vC]
 rw [ew fun x hx=> ?_]
 ·simp only [aT,h,cond_true]
  rw [ew fun x hx=> ?_]
  ·omega
  ·obtain ⟨i,hi,rfl⟩ :=List.getElem_of_mem hx
   rw [List.length_drop] at hi
   rw [List.getElem_drop]
   exact hn _ _ (by omega)
 ·obtain ⟨i,hi,rfl⟩ :=List.getElem_of_mem hx
  rw [List.length_take] at hi
  rw [List.getElem_take]
  exact hn _ _ (by omega)
theorem Orders1.lit {d : District} {l : List Order} (h : Orders1 d l) : ∀ x∈l,1≤x.litres∧x.litres≤1073741824:=fun x hx=> by
 obtain ⟨k,hk,rfl⟩ :=List.getElem_of_mem hx
 have:=h.one k hk
 rw [c9 _ _ hk] at this
 exact ⟨this.litres1,this.litres⟩
theorem Orders1.uniq {d : District} {l : List Order} (h : Orders1 d l) {i j : Nat} (hi : i < l.length) (hj : j < l.length) (e1 : l[i].hour=l[j].hour) (e2 : l[i].index=l[j].index) (e3 : l[i].outlet=l[j].outlet) : i=j:=by
 have key : ∀ a b (ha : a < l.length) (hb : b < l.length),a < b→l[a].hour=l[b].hour→l[a].index=l[b].index→l[a].outlet=l[b].outlet→False:=fun a b ha hb hab e1 e2 e3=> by
  have:=h.lt b a hab hb
  rw [c9 _ _ ha,c9 _ _ hb] at this
  unfold olt mR at this
  rw [e1,e2,e3] at this
  omega
 rcases Nat.lt_trichotomy i j with h1 | h1 | h1
 ·exact (key i j hi hj h1 e1 e2 e3).elim
 ·exact h1
 ·exact (key j i hj hi h1 e1.symm e2.symm e3.symm).elim
theorem kO {p : Order→Bool} {l : List Order} {j : Nat} (hj : j < l.length) : aT p (l.take (j + 1))=aT p (l.take j) + (bif p l[j] then l[j].litres else 0) :=by
 rw [List.take_succ_eq_append_getElem hj,vC]
 simp [aT]
theorem sQ {κ υ : Type} [DecidableEq κ] : ∀ (l : List (κ×υ)) (x : κ) (y : υ),(nW l x y).map Prod.fst=if x∈l.map Prod.fst then l.map Prod.fst else l.map Prod.fst ++ [x]
 | [],x,y=> by simp [nW]
 | (a,b) :: r,x,y=> by
  unfold nW
  by_cases h : x=a
  ·subst h;simp
  ·rw [if_neg h,List.map_cons,sQ r x y]
   simp only [List.map_cons,List.mem_cons,h,false_or]
   split <;> simp
theorem Ad {κ υ : Type} [DecidableEq κ] : ∀ (l : List (κ×υ)) (e : κ×υ),(l.map Prod.fst).Nodup→e∈l→gk l e.1=some e.2
 | (a,b) :: r,e,hn,he=> by
  simp only [List.map_cons,List.nodup_cons] at hn
  unfold gk
  rcases List.mem_cons.1 he with rfl | he
  ·simp
  ·have : e.1≠a:=fun h=> hn.1 (h▸List.mem_map_of_mem he)
   rw [if_neg this]
   exact Ad r e hn.2 he
theorem mT {α : Type} (l : List α) (d : α) {k : Nat} (h : k < l.length) : l.getD k d∈l:=by
 rw [c9 l d h];exact List.getElem_mem _
theorem Ey {n d : Int} (hd : 1≤d) (hd2 : d≤1073741824) (h1 : -1152921504606846976≤n) (h2 : n≤1152921504606846976) : jg n d=n / d:=by
 unfold jg
 have e1 : Int.tmod (Int.tmod n d + d) d=n % d:=by
  have a1 : -d < Int.tmod n d:=Int.lt_tmod_of_pos n (by omega)
  rw [Int.tmod_eq_emod_of_nonneg (by omega),Int.add_emod_right]
  rw [Int.tmod_eq_emod]
  split
  ·show (n % d - 0) % d=n % d
   rw [Int.sub_zero,Int.emod_emod]
  ·have : n % d - (d.natAbs : Int)=n % d + d * (-1) :=by omega
   rw [this,Int.add_mul_emod_self_left,Int.emod_emod]
 have a1 : -d < Int.tmod n d:=Int.lt_tmod_of_pos n (by omega)
 have a2 : Int.tmod n d < d:=Int.tmod_lt_of_pos n (by omega)
 rw [cd (by omega : -9223372036854775808≤Int.tmod n d + d) (by omega),e1]
 have b1:=Int.emod_nonneg n (by omega : d≠0)
 have b2:=Int.emod_lt_of_pos n (by omega : 0 < d)
 rw [cd (by omega : -9223372036854775808≤n - n % d) (by omega)]
 have e2 : n - n % d=d * (n / d) :=by have:=Int.mul_ediv_add_emod n d;omega
 rw [e2,Int.mul_tdiv_cancel_left _ (by omega)]
 have c1 : n / d≤1152921504606846976:=by
  have:=Int.ediv_le_ediv (by omega : 0 < d) h2
  have:=Int.ediv_le_self (b:=d) (by omega : (0 : Int)≤1152921504606846976)
  omega
 have c2 : -1152921504606846976≤n / d:=by
  rw [Int.le_ediv_iff_mul_le (by omega)]
  have:=Int.mul_le_mul_of_nonneg_left (by omega : 1≤d) (by omega : (0 : Int)≤1152921504606846976)
  omega
 exact cd (by omega) (by omega)
structure Rat (a : Ratio) : Prop where
 d1 : 1≤a.d
 d : a.d≤1073741824
 n0 : -1073741824≤a.n
 n : a.n≤1073741824
theorem I0 {a : Ratio} (h : b9 a=0) : Rat a:=by
 unfold b9 at h
 rw [Bool.cond_eq_ite] at h
 split at h
 ·cases h
 ·rename_i h1
  simp only [Bool.or_eq_true,decide_eq_true_eq,not_or] at h1
  constructor <;> omega
theorem qD {i : Int} {x : Reach} (h : bN i x=true) : fc x.seep=true∧0≤x.evap.lo∧x.evap.lo≤x.evap.hi∧x.evap.hi≤1073741824:=by
 unfold bN at h
 cases hd : decide (i > 0) <;> rw [hd] at h <;> simp only [cond_true,cond_false,Bool.and_eq_true] at h
 all_goals
  have r1:=pA h.1.2
  exact ⟨h.2,r1.1,r1.2.1,r1.2.2⟩
theorem QZ {a b : Int} (h0 : -1073741824≤a) (h1 : a≤1073741824) (h2 : 0≤b) (h3 : b≤1073741824) : -1152921504606846976≤a * b∧a * b≤1152921504606846976:=by
 have h4:=Int.mul_le_mul_of_nonneg_right h0 h2
 have h5:=Int.mul_le_mul_of_nonneg_right h1 h2
 have h6 : -1073741824 * b= -(1073741824 * b) :=by omega
 omega
structure Seep (x : Ratio×Ratio) : Prop where
 r1 : Rat x.1
 r2 : Rat x.2
 c1 : b9 x.1=0
 c2 : b9 x.2=0
 cmp : et x.1 x.2=((et x.1 x.2).1,0)∧(et x.1 x.2).1≤0
 le : x.1.n * x.2.d≤x.2.n * x.1.d
 n1 : 0≤x.1.n
 n2 : x.2.n≤x.2.d
 m1 : x.1.n≤x.1.d
 m2 : 0≤x.2.n
theorem yE {x : Ratio×Ratio} (h : fc x=true) : Seep x:=by
 unfold fc at h
 simp only [Bool.and_eq_true,beq_iff_eq,decide_eq_true_eq] at h
 obtain ⟨⟨⟨h1,h2⟩,h3⟩,h4⟩ :=h
 have hc : b9 x.1=0∧b9 x.2=0:=by
  unfold et at h1
  rw [Bool.cond_eq_ite] at h1
  split at h1
  ·cases h1
  ·rename_i hq
   simp only [Bool.or_eq_true,bne_iff_ne,ne_eq,not_or,Decidable.not_not] at hq
   exact hq
 have r1:=I0 hc.1
 have r2:=I0 hc.2
 have b1:=QZ r1.n0 r1.n (by have:=r2.d1;omega) r2.d
 have b2:=QZ r2.n0 r2.n (by have:=r1.d1;omega) r1.d
 have hle : x.1.n * x.2.d≤x.2.n * x.1.d:=by
  unfold et at h3
  rw [hc.1,hc.2] at h3
  simp only [bne_self_eq_false,Bool.or_self,cond_false] at h3
  rw [cd (by omega) (by omega),cd (by omega) (by omega),g_] at h3
  split at h3
  ·omega
  ·split at h3
   ·omega
   ·omega
 have e1:=r1.d1
 have e2:=r2.d1
 have m1 : x.1.n≤x.1.d:=by
  have:=Int.mul_le_mul_of_nonneg_right h4 (by omega : 0≤x.1.d)
  have hh : x.1.n * x.2.d≤x.1.d * x.2.d:=by rw [Int.mul_comm x.1.d];omega
  exact Int.le_of_mul_le_mul_right hh (by omega)
 have m2 : 0≤x.2.n:=by
  have:=Int.mul_nonneg h2 (by omega : 0≤x.2.d)
  have hh : 0 * x.1.d≤x.2.n * x.1.d:=by rw [Int.zero_mul];omega
  exact Int.le_of_mul_le_mul_right hh (by omega)
 exact ⟨r1,r2,hc.1,hc.2,⟨by rw [←h1],h3⟩,hle,h2,h4,m1,m2⟩
theorem FG {x : Ratio×Ratio} (h : Seep x) : gH x=true:=by
 unfold gH iz kM
 have:=h.n1;have:=h.n2;have:=h.m1;have:=h.m2
 rw [h.c1,h.c2,decide_eq_true (by omega : x.1.n≥0),decide_eq_true (by omega : x.1.n≤x.1.d),decide_eq_true (by omega : x.2.n≥0),decide_eq_true (by omega : x.2.n≤x.2.d)]
 have h2:=congrArg Prod.snd h.cmp.1
 dsimp only at h2
 rw [h2,decide_eq_true h.cmp.2]
 rfl
theorem vE {a : Ratio} (h : Rat a) (hc : b9 a=0) (h0 : 0≤a.n) {v : Int} (v0 : 0≤v) (v1 : v≤1073741824) : (dF a v).1=a.n * v / a.d∧(dF a v).2.1= -(-(a.n * v) / a.d)∧ -(-(a.n * v) / a.d)≤1152921504606846976∧0≤ -(-(a.n * v) / a.d) :=by
 have:=h.d1;have:=h.d;have:=h.n
 have hm:=QZ (by omega) h.n v0 v1
 have hm0:=Int.mul_nonneg h0 v0
 unfold dF
 have e1 : (decide (v < (-1073741824)) || decide (v > 1073741824))=false:=by simp only [Bool.or_eq_false_iff,decide_eq_false_iff_not];omega
 rw [hc,e1]
 simp only [bne_self_eq_false,cond_false]
 rw [cd (by omega : -9223372036854775808≤0 - a.n) (by omega)]
 have e2 : (0 - a.n) * v= -(a.n * v) :=by rw [Int.sub_mul];omega
 rw [e2,cd (by omega : -9223372036854775808≤ -(a.n * v)) (by omega),cd (by omega : -9223372036854775808≤a.n * v) (by omega)]
 rw [Ey h.d1 h.d (by omega) (by omega),Ey h.d1 h.d (by omega) (by omega)]
 have c1 : -1152921504606846976≤ -(a.n * v) / a.d:=by
  rw [Int.le_ediv_iff_mul_le (by omega)]
  have:=Int.mul_le_mul_of_nonneg_left (by omega : 1≤a.d) (by omega : (0 : Int)≤1152921504606846976)
  omega
 have c2 : -(a.n * v) / a.d≤0:=by
  have:=Int.ediv_le_ediv (by omega : 0 < a.d) (by omega : -(a.n * v)≤0)
  simpa using this
 rw [cd (by omega) (by omega)]
 exact ⟨rfl,by omega,by omega,by omega⟩
theorem uf {i : Int} {x : Reach} (h : bN i x=true) {v : Int} (v0 : 0≤v) (v1 : v≤1073741824) : dA x v=0∧0≤(dG x v).lo∧(dG x v).lo≤(dG x v).hi∧(dG x v).hi≤v:=by
 obtain ⟨h1,h2,h3,h4⟩ :=qD h
 have hs:=yE h1
 refine ⟨?_,?_⟩
 ·unfold dA iy kM
  rw [FG hs,decide_eq_true (by omega : x.evap.lo≥0),decide_eq_true h3,decide_eq_true h4,decide_eq_true (by omega : v≥0),decide_eq_true v1]
  rfl
 ·unfold dG
  cases hv : (v==0) with
  | true=>
   simp only [beq_iff_eq] at hv
   simp only [cond_true];omega
  | false=>
   simp only [beq_eq_false_iff_ne,ne_eq] at hv
   simp only [cond_false]
   obtain ⟨a1,_,_,_⟩ :=vE hs.r1 hs.c1 hs.n1 v0 v1
   obtain ⟨_,b1,b2,b3⟩ :=vE hs.r2 hs.c2 hs.m2 v0 v1
   rw [a1,b1]
   have d1:=hs.r1.d1
   have d2:=hs.r2.d1
   have P0 : 0≤x.seep.1.n * v / x.seep.1.d:=Int.ediv_nonneg (Int.mul_nonneg hs.n1 v0) (by omega)
   have P1 : x.seep.1.n * v / x.seep.1.d * x.seep.1.d≤x.seep.1.n * v:=Int.ediv_mul_le _ (by omega)
   have Q1 : -(x.seep.2.n * v) / x.seep.2.d * x.seep.2.d≤ -(x.seep.2.n * v) :=Int.ediv_mul_le _ (by omega)
   generalize x.seep.1.n * v / x.seep.1.d=P at P0 P1
   generalize -(x.seep.2.n * v) / x.seep.2.d=Q at b2 b3 Q1
   have PV : P≤v:=by
    have:=Int.mul_le_mul_of_nonneg_right hs.m1 v0
    have hh : P * x.seep.1.d≤v * x.seep.1.d:=by rw [Int.mul_comm v];omega
    exact Int.le_of_mul_le_mul_right hh (by omega)
   have PQ : P≤ -Q:=by
    have e1:=Int.mul_le_mul_of_nonneg_right P1 (by omega : 0≤x.seep.2.d)
    have e2:=Int.mul_le_mul_of_nonneg_right hs.le v0
    have e3:=Int.mul_le_mul_of_nonneg_right Q1 (by omega : 0≤x.seep.1.d)
    have hh : P * (x.seep.1.d * x.seep.2.d)≤ -Q * (x.seep.1.d * x.seep.2.d) :=by
     have i1 : P * x.seep.1.d * x.seep.2.d=P * (x.seep.1.d * x.seep.2.d) :=Int.mul_assoc _ _ _
     have i2 : x.seep.1.n * v * x.seep.2.d=x.seep.1.n * x.seep.2.d * v:=by rw [Int.mul_assoc,Int.mul_comm v,←Int.mul_assoc]
     have i3 : x.seep.2.n * x.seep.1.d * v=x.seep.2.n * v * x.seep.1.d:=by rw [Int.mul_assoc,Int.mul_comm x.seep.1.d,←Int.mul_assoc]
     have i4 : Q * x.seep.2.d * x.seep.1.d=Q * (x.seep.1.d * x.seep.2.d) :=by rw [Int.mul_assoc,Int.mul_comm x.seep.2.d]
     have i5 : -(x.seep.2.n * v) * x.seep.1.d= -(x.seep.2.n * v * x.seep.1.d) :=Int.neg_mul _ _
     have i6 : -Q * (x.seep.1.d * x.seep.2.d)= -(Q * (x.seep.1.d * x.seep.2.d)) :=Int.neg_mul _ _
     omega
    have hp : 0 < x.seep.1.d * x.seep.2.d:=Int.mul_pos (by omega) (by omega)
    exact Int.le_of_mul_le_mul_right hh hp
   rw [cd (by omega) (by omega),cd (by omega) (by omega)]
   split <;> split <;> omega
end Go.Sx
end
section
namespace Go.Sx
open Go.Proofs
def wst (x : Reach) (v : Int) : Int:=v - (dG x v).hi
theorem rL {i : Int} {x : Reach} (h : bN i x=true) {v : Int} (v0 : 0≤v) (v1 : v≤1073741824) : b4 x v=(wst x v,0) :=by
 obtain ⟨e,h1,h2,h3⟩ :=uf h v0 v1
 unfold b4 wst
 rw [e,cd (by omega) (by omega)]
 rfl
theorem I1 {i : Int} {x : Reach} (h : bN i x=true) {v : Int} (v0 : 0≤v) (v1 : v≤1073741824) : wst x v=max 0 ((x.seep.2.d - x.seep.2.n) * v / x.seep.2.d - x.evap.hi) :=by
 obtain ⟨g1,g2,g3,g4⟩ :=qD h
 have hs:=yE g1
 have d1:=hs.r2.d1
 have hk : (x.seep.2.d - x.seep.2.n) * v / x.seep.2.d=v + -(x.seep.2.n * v) / x.seep.2.d:=by
  rw [Int.sub_mul,Int.sub_eq_add_neg,Int.add_comm,Int.add_mul_ediv_left _ _ (by omega)];omega
 rw [hk]
 unfold wst dG
 cases hv : (v==0) with
 | true=>
  simp only [beq_iff_eq] at hv
  subst hv
  simp only [cond_true,Int.mul_zero,Int.neg_zero,Int.zero_ediv]
  show (0 : Int) - 0=_
  omega
 | false=>
  simp only [cond_false]
  obtain ⟨_,b1,b2,b3⟩ :=vE hs.r2 hs.c2 hs.m2 v0 v1
  rw [b1]
  generalize -(x.seep.2.n * v) / x.seep.2.d=Q at b2 b3 ⊢
  rw [cd (by omega) (by omega)]
  split <;> omega
theorem NZ {k d a b : Int} (hk : 0≤k) (hd : 1≤d) (h : a≤b) : k * a / d≤k * b / d:=Int.ediv_le_ediv (by omega) (Int.mul_le_mul_of_nonneg_left h hk)
section
variable {i : Int} {x : Reach}
theorem B4 (h : bN i x=true) {v : Int} (v0 : 0≤v) (v1 : v≤1073741824) : 0≤wst x v∧wst x v≤v:=by
 have:=uf h v0 v1
 unfold wst;omega
theorem Ae (h : bN i x=true) {a b : Int} (a0 : 0≤a) (hab : a≤b) (b1 : b≤1073741824) : wst x a≤wst x b:=by
 have hs:=yE (qD h).1
 have:=hs.r2.d1
 rw [I1 h a0 (by omega),I1 h (by omega) b1]
 have:=NZ (k:=x.seep.2.d - x.seep.2.n) (d:=x.seep.2.d) (by have:=hs.n2;omega) hs.r2.d1 hab
 omega
end
theorem half {i j : Int} (h0 : 0≤i) (h1 : i≤j) (h2 : j≤2305843009213693952) : IntKind.i64.wrap (A8 .u64 (IntKind.u64.wrap (IntKind.i64.wrap (i + j))) 1)=(i + j) / 2:=by
 have e0 : IntKind.i64.wrap (i + j)=i + j:=cd (by omega) (by omega)
 have e : IntKind.u64.wrap (i + j)=i + j:=by
  unfold IntKind.wrap
  simp [IntKind.bits,IntKind.signed]
  omega
 have e2 : A8 .u64 (i + j) 1=(i + j) / 2:=by
  show Int.fdiv (i + j) ((2 : Int) ^ min (Int.toNat 1) IntKind.u64.bits)=_
  have : (2 : Int) ^ min (Int.toNat 1) IntKind.u64.bits=2:=by decide
  rw [this,Int.fdiv_eq_ediv_of_nonneg _ (by omega)]
 rw [e0,e,e2,cd (by omega) (by omega)]
theorem B5 {f : Int→Bool} {N : Int} {step : Nat→Int×Int→Int⊕(Int×Int)} (hN : N≤2305843009213693952)
  (hs : ∀ k i j,0≤i→i < j→j≤N→step k (i,j)=if f ((i + j) / 2)=true then .inr (i,(i + j) / 2) else .inr ((i + j) / 2 + 1,j)) (he : ∀ k i j,¬ i < j→step k (i,j)= .inl i) :
  ∀ (fuel k : Nat) (i j : Int),0≤i→i≤j→j≤N→j - i < 2 ^ fuel→∃ v,az step (fuel + 1) k (i,j)= .inl v∧i≤v∧v≤j∧
   ((∀ a b,0≤a→a≤b→b < N→f a=true→f b=true)→(∀ u,i≤u→u < v→f u=false)∧(v < j→f v=true)) :=by
 intro fuel
 induction fuel with
 | zero=>
  intro k i j h0 h1 h2 h3
  have : j=i:=by simp at h3;omega
  subst this
  exact ⟨j,by simp only [az,he k j j (by omega)],Int.le_refl _,Int.le_refl _,fun _=> ⟨fun u h4 h5=> by omega,fun h=> by omega⟩⟩
 | succ fuel ih=>
  intro k i j h0 h1 h2 h3
  by_cases hlt : i < j
  ·have hp : (2 : Int) ^ (fuel + 1)=2 ^ fuel + 2 ^ fuel:=by rw [Int.pow_succ];omega
   rw [show fuel + 1 + 1=(fuel + 1) + 1 from rfl]
   simp only [az,hs k i j h0 hlt h2]
   by_cases hf : f ((i + j) / 2)=true
   ·rw [if_pos hf]
    obtain ⟨v,e1,e2,e3,e4⟩ :=ih (k + 1) i ((i + j) / 2) h0 (by omega) (by omega) (by omega)
    refine ⟨v,e1,e2,by omega,fun hm=> ⟨(e4 hm).1,fun _=> ?_⟩⟩
    by_cases hv : v < (i + j) / 2
    ·exact (e4 hm).2 hv
    ·have : v=(i + j) / 2:=by omega
     rw [this];exact hf
   ·rw [if_neg hf]
    obtain ⟨v,e1,e2,e3,e4⟩ :=ih (k + 1) ((i + j) / 2 + 1) j (by omega) (by omega) h2 (by omega)
    refine ⟨v,e1,by omega,e3,fun hm=> ⟨fun u h4 h5=> ?_,(e4 hm).2⟩⟩
    by_cases hu : (i + j) / 2 + 1≤u
    ·exact (e4 hm).1 u hu h5
    ·cases hfu : f u with
     | false=> rfl
     | true=> exact absurd (hm u ((i + j) / 2) (by omega) (by omega) (by omega) hfu) hf
  ·have : j=i:=by omega
   subst this
   exact ⟨j,by simp only [az,he k j j (by omega)],Int.le_refl _,Int.le_refl _,fun _=> ⟨fun u h4 h5=> by omega,fun h=> by omega⟩⟩
theorem xy (w : Int) (x : Reach) : ∃ v,az (eN x w) 64 0 (0,1073741825)= .inl v∧0≤v∧v≤1073741825∧
  ((∀ a b,0≤a→a≤b→b < 1073741825→cw a x w=true→cw b x w=true)→(∀ u,0≤u→u < v→cw u x w=false)∧(v < 1073741825→cw v x w=true)) :=by
 refine B5 (f:=fun v=> cw v x w) (N:=1073741825) (by omega) (fun k i j h0 h1 h2=> ?_) (fun k i j h=> ?_) 63 0 0 1073741825 (by omega) (by omega) (by omega) (by decide)
 ·unfold eN
  simp only
  rw [half h0 (by omega) (by omega),decide_eq_true h1,cd (by omega) (by omega)]
  cases cw ((i + j) / 2) x w <;> simp
 ·unfold eN
  simp only
  rw [decide_eq_false h];rfl
theorem I2 (w : Int) (x : Reach) : jz 1073741825 x w:=fun z hz=> by
 obtain ⟨v,h,_⟩ :=xy w x
 rw [h] at hz;cases hz
theorem Ez (x : Reach) (w : Int) : gI x w:=fun _=> I2 _ x
theorem I3 (x : Reach) (w : Int) : ga x w:=fun _=> Ez x w
section
variable {i : Int} {x : Reach}
theorem I4 (h : bN i x=true) {w : Int} (hw : 1≤w) (hw2 : w≤1073741824) : 0≤ct (w - 1) x∧ct (w - 1) x≤1073741825∧(∀ u,0≤u→u < ct (w - 1) x→wst x u < w)∧(ct (w - 1) x≤1073741824→w≤wst x (ct (w - 1) x)) :=by
 obtain ⟨v,e1,e2,e3,e4⟩ :=xy (w - 1) x
 have ev : ct (w - 1) x=v:=by unfold ct lT;rw [e1]
 have hf : ∀ u,0≤u→u≤1073741824→(cw u x (w - 1)=true↔w≤wst x u) :=fun u u0 u1=> by
  have:=uf h u0 u1
  unfold cw jy wst
  rw [cd (by omega) (by omega),decide_eq_true_eq];omega
 obtain ⟨e5,e6⟩ :=e4 fun a b a0 hab hb ha=> (hf b (by omega) (by omega)).2 (by
  have:=Ae h a0 hab (by omega)
  have:=(hf a a0 (by omega)).1 ha;omega)
 rw [ev]
 refine ⟨e2,e3,fun u u0 u1=> ?_,fun hv=> (hf v e2 hv).1 (e6 (by omega))⟩
 have:=e5 u u0 u1
 by_cases hq : w≤wst x u
 ·rw [(hf u u0 (by omega)).2 hq] at this;cases this
 ·omega
theorem sR (h0 : 0≤i) (h : bN i x=true) {w : Int} (hw : 1≤w) : (∃ v,aA x w=(v,true)∧1≤v∧v≤1073741824∧x.siphon≤v∧w≤wst x v∧∀ u,0≤u→u≤1073741824→x.siphon≤u→w≤wst x u→v≤u)∨
  ((aA x w).2=false∧∀ u,0≤u→u≤1073741824→wst x u < w) :=by
 have hr:=xw h0 h
 unfold aA
 have hw0 : (w==0)=false:=by rw [beq_eq_false_iff_ne];omega
 by_cases hw2 : w≤1073741824
 ·have hc : (w==0 || decide (w > 1073741824))=false:=by rw [hw0,decide_eq_false (by omega)];rfl
  rw [hc,hw0]
  simp only [cond_false]
  obtain ⟨l1,l2,l3,l4⟩ :=I4 h hw hw2
  unfold bX
  have hv : (dA x w !=0)=false:=by rw [(uf h (by omega) hw2).1];rfl
  rw [hv,cd (by omega) (by omega)]
  simp only [cond_false]
  by_cases hl : ct (w - 1) x≤1073741824
  ·rw [decide_eq_false (by omega)]
   simp only [cond_false,Bool.not_true]
   have l5:=l4 hl
   have l6:=B4 h l1 hl
   refine .inl ⟨_,rfl,?_,?_,?_,?_,fun u u0 u1 u2 u3=> ?_⟩
   ·split <;> omega
   ·have:=hr.siphon;have:=hr.cap;split <;> omega
   ·split <;> omega
   ·have:=hr.siphon;have:=hr.cap
    split
    ·exact Int.le_trans l5 (Ae h l1 (by omega) (by omega))
    ·exact l5
   ·have : ct (w - 1) x≤u:=by
     rcases Int.lt_or_le u (ct (w - 1) x) with q | q
     ·have:=l3 u u0 q;omega
     ·exact q
    split <;> omega
  ·rw [decide_eq_true (by omega)]
   simp only [cond_true,Bool.not_false]
   exact .inr ⟨trivial,fun u u0 u1=> l3 u u0 (by omega)⟩
 ·have hc : (w==0 || decide (w > 1073741824))=true:=by rw [decide_eq_true (by omega : w > 1073741824),Bool.or_true]
  rw [hc]
  refine .inr ⟨by simpa using hw0,fun u u0 u1=> ?_⟩
  have:=B4 h u0 u1;omega
end
end Go.Sx
end
section
namespace Go.Sx
def Q0 {α : Type} : Result α→World
 | .ok _ w=> w
 | .halt _ w=> w
theorem B6 {α : Type} : ∀ (a : Ask α) (w : World),w.drawn≤(w.ask a).2.drawn
 | .done a,w=> Nat.le_refl _
 | .ask what range k,w=> by
  unfold World.ask
  dsimp only
  split
  ·exact B6 _ w
  ·exact Nat.le_trans (Nat.le_succ _) (B6 _ { w with drawn:=w.drawn + 1})
theorem Q2 (w : World) (c : Sys) : w.drawn≤(w.sys c).2.drawn:=by
 unfold World.sys
 have:=B6 (Kernel.perform c w.os) w
 split
 ·exact Nat.le_refl _
 ·rename_i h
  rw [h] at this
  exact this
theorem Af {p : Program} {w w' : World} {a : Addr} {v : Value} {b : Bool} {l : List Addr} (h : w.farStore p a v b= .ok (w',l)) : w'.drawn=w.drawn:=by
 unfold World.farStore at h
 split at h
 ·split at h
  ·rename_i r hr
   cases h
   unfold World.viewStore at hr
   simp only [bind,Except.bind,pure,Except.pure] at hr
   repeat' split at hr
   all_goals (first | (cases hr;done) | skip)
   all_goals (cases hr;rfl)
  ·cases h
 ·cases h
theorem yF {α : Type} (p : Program) : ∀ (s : Sem α) (w : World),w.drawn≤(Q0 (s.run p w)).drawn:=by
 intro s
 induction s with
 | pure a=> intro w;exact Nat.le_refl _
 | load m a k ih=>
  intro w
  unfold Sem.run
  split
  ·exact ih _ w
  ·split
   ·exact ih _ w
   ·exact Nat.le_refl _
 | store m a v k ih=>
  intro w
  cases v
  case agg=> exact Nat.le_refl _
  case tuple=> exact Nat.le_refl _
  all_goals
   simp only [Sem.run]
   split
   ·split
    ·exact Nat.le_refl _
    ·exact ih (w.setCell a _)
   ·split
    ·rename_i h
     rw [←Af h];exact ih _
    ·exact Nat.le_refl _
 | new o k ih=> intro w;exact ih w.heap.size { w with heap:=w.heap.push o}
 | shape r k ih=> intro w;exact ih _ _
 | freeze a n k ih=>
  intro w
  have : (w.freeze a n).drawn=w.drawn:=by unfold World.freeze;split <;> rfl
  rw [←this];exact ih _
 | frozen a k ih=> intro w;exact ih _ _
 | getObj r k ih=>
  intro w
  unfold Sem.run
  split
  ·exact Nat.le_refl _
  ·exact ih _ _
  ·exact Nat.le_refl _
 | setObj r o k ih=>
  intro w
  unfold Sem.run
  split
  ·exact Nat.le_refl _
  ·exact ih { w with heap:=w.heap.setIfInBounds r o}
  ·exact Nat.le_refl _
 | choose q k ih=>
  intro w
  unfold Sem.run
  split
  ·exact ih _ _
  ·exact Nat.le_trans (Nat.le_succ _) (ih _ { w with drawn:=w.drawn + 1})
 | sys c k ih=> intro w;exact Nat.le_trans (Q2 w c) (ih _ _)
 | program k ih=> intro w;exact ih _ _
 | mark m k ih=> intro w;exact ih _
 | halt h=> intro w;exact Nat.le_refl _
theorem I5 {α : Type} (p : Program) : ∀ (s : Sem α) (w : World) (es : Array Event),(s.runT p w es).1=s.run p w:=by
 intro s
 induction s with
 | store m a v k ih=>
  intro w es
  cases v
  case agg=> rfl
  case tuple=> rfl
  all_goals
   simp only [Sem.runT,Sem.run]
   split
   ·split
    ·rfl
    ·exact ih _ _
   ·split
    ·exact ih _ _
    ·rfl
 | load m a k ih=>
  intro w es
  simp only [Sem.runT,Sem.run]
  split
  ·exact ih _ _ _
  ·split
   ·exact ih _ _ _
   ·rfl
 | getObj r k ih=>
  intro w es
  simp only [Sem.runT,Sem.run]
  split
  ·rfl
  ·exact ih _ _ _
  ·rfl
 | setObj r o k ih=>
  intro w es
  simp only [Sem.runT,Sem.run]
  split
  ·rfl
  ·exact ih _ _
  ·rfl
 | choose q k ih=>
  intro w es
  simp only [Sem.runT,Sem.run]
  split
  ·exact ih _ _ _
  ·exact ih _ _ _
 | pure a=> intro w es;rfl
 | new o k ih=> intro w es;exact ih _ _ _
 | shape r k ih=> intro w es;exact ih _ _ _
 | freeze a n k ih=> intro w es;exact ih _ _
 | frozen a k ih=> intro w es;exact ih _ _ _
 | sys c k ih=> intro w es;exact ih _ _ _
 | program k ih=> intro w es;exact ih _ _ _
 | mark m k ih=> intro w es;exact ih _ _
 | halt h=> intro w es;rfl
theorem fU {α : Type} {p : Program} {s : Sem α} {w w' : World} {a : α} (h : s.run p w= .ok a w') : w.drawn≤w'.drawn:=by have:=yF p s w;rw [h] at this;exact this
theorem I6 {α : Type} {p : Program} {s : Sem α} {w w' : World} {a : Halt} (h : s.run p w= .halt a w') : w.drawn≤w'.drawn:=by have:=yF p s w;rw [h] at this;exact this
theorem kH {α : Type} {p : Program} {s : Sem α} {w : World} {es es' : Array Event} {r : Result α} (h : s.runT p w es=(r,es')) : w.drawn≤(Q0 r).drawn:=by
 have:=I5 p s w es
 rw [h] at this
 have h2:=yF p s w
 rw [←this] at h2
 exact h2
def gLe (w : World) : GStep→Prop
 | .ended .. => True
 | .go _ w' _ | .comm _ _ _ _ w' _ | .spawn _ _ w' _ | .count _ w' _ | .timer _ _ w' _ | .alone _ _ w' _ | .newcoro _ _ _ w' _ | .coroswitch _ _ _ w' _ | .collect _ w' _ | .watch _ w' _=> w.drawn≤w'.drawn
theorem gLe.after {w : World} {es : Array Event} {s : GStep} (h : gLe w s) : gLe w (s.after es) :=by cases s <;> exact h
theorem gLe.trans {w w' : World} {s : GStep} (h1 : w.drawn≤w'.drawn) (h : gLe w' s) : gLe w s:=by cases s <;> first | trivial | exact Nat.le_trans h1 h
theorem rM {c : Prop} [Decidable c] {w : World} {a b : GStep} (h1 : gLe w a) (h2 : gLe w b) : gLe w (if c then a else b) :=by split <;> assumption
theorem lU (fr : Frame) (m : String) (w : World) : gLe w (endThrow fr m w) :=Nat.le_refl _
theorem oW (p : Program) (fr : Frame) (v : Value) (w : World) : gLe w (endPrinting p fr v w) :=by
 unfold endPrinting
 dsimp only
 split
 ·exact lU _ _ _
 ·trivial
theorem tu (p : Program) (fr : Frame) (callers : List Frame) (dying : Option Dying) (m : String) (w : World) : gLe w (endFatal p fr callers dying m w) :=by
 unfold endFatal
 extract_lets
 split
 ·rename_i h;exact fU h
 ·trivial
 ·trivial
theorem B7 (p : Program) (fr : Frame) (d : Dying) (f : Fatal) (w : World) : gLe w (writeOn p fr d f w) :=by
 unfold writeOn
 extract_lets
 split
 ·trivial
 ·extract_lets
  generalize h : Sem.runT _ _ _ _=rr
  obtain ⟨r,es⟩ :=rr
  have h:=kH h
  split
  ·rename_i e;cases e;exact h
  ·rename_i e;cases e;exact h
  ·trivial
  ·trivial
theorem B8 (w w' : World) (fd : Nat) (t : ByteArray) (o : Outcome) : gLe w (endWith w' fd t o) :=by
 unfold endWith
 extract_lets
 split
 ·split <;> trivial
 ·trivial
 ·trivial
theorem Q3 (p : Program) (fr : Frame) (d : Dying) (w : World) : gLe w (die p fr d w) :=by
 unfold die
 split
 ·exact B7 _ _ _ _ _
 ·split
  ·split
   ·exact Nat.le_refl _
   ·exact B8 _ _ _ _ _
  ·extract_lets
   split
   ·exact Nat.le_refl _
   ·split
    ·rename_i h;exact fU h
    ·trivial
   ·split
    rename_i h
    have h:=kH h
    refine gLe.after ?_
    split
    all_goals first | exact h | trivial | exact gLe.trans h (oW _ _ _ _)
   ·trivial
theorem oX (p : Program) (main : Bool) (fr : Frame) (callers : List Frame) (dying : Option Dying) (v : Value) (w : World) : gLe w (doReturn p main fr callers dying v w) :=by
 unfold doReturn
 split
 ·split
  all_goals exact Nat.le_refl _
 ·split
  ·exact Nat.le_refl _
  ·trivial
  ·split
   ·exact Nat.le_refl _
   ·split
    ·exact Nat.le_refl _
    ·trivial
theorem tV (p : Program) (fr : Frame) (callers : List Frame) (dying : Option Dying) (d : Deferred) (w : World) : gLe w (callDeferred p fr callers dying d w) :=by
 unfold callDeferred
 refine rM trivial ?_
 rcases h : (invoke d.target d.args).runT p w #[] with ⟨r,es⟩
 have h:=kH h
 dsimp only
 refine gLe.after ?_
 split
 all_goals first | exact h | trivial | exact gLe.trans h (tu _ _ _ _ _ _) | exact gLe.trans h (lU _ _ _) | skip
 split <;> exact h
theorem FH (p : Program) (main : Bool) (fr : Frame) (callers : List Frame) (dying : Option Dying) (w : World) : gLe w (unwind p main fr callers dying w) :=by
 unfold unwind
 split
 ·split
  rename_i h
  have h:=kH h
  refine gLe.after ?_
  split
  ·exact h
  ·trivial
 ·exact tV _ _ _ _ _ _
 ·split
  ·trivial
  ·split
   ·trivial
   ·split
    ·exact Nat.le_refl _
    ·split
     ·split
      ·exact Nat.le_refl _
      ·split
       ·rename_i h;exact fU h
       ·trivial
       ·trivial
     ·split
      ·exact oW _ _ _ _
      ·trivial
  ·split
   ·exact oX _ _ _ _ _ _ _
   ·split
    rename_i h
    have h:=kH h
    refine gLe.after ?_
    split
    ·exact gLe.trans h (oX _ _ _ _ _ _ _)
    ·trivial
    ·trivial
theorem I7 (p : Program) (fr : Frame) (callers : List Frame) (dying : Option Dying) (g : Nat) (w : World) : gLe w (early p fr callers dying g w) :=by
 unfold early
 extract_lets refuse notYet there
 have hn : ∀ w0 : World,w.drawn≤w0.drawn→gLe w (notYet w0) :=fun w0 h0=> by
  show gLe w (match w0.heap[g]? with | some (.pending c elem) => _ | _=> _)
  split
  ·exact h0
  ·trivial
 split
 ·exact hn w (Nat.le_refl _)
 ·split
  ·trivial
  ·extract_lets there
   have ht : ∀ w0 : World,w.drawn≤w0.drawn→gLe w (there w0) :=fun w0 h0=> h0
   split
   ·exact hn w (Nat.le_refl _)
   ·split
    ·exact hn w (Nat.le_refl _)
    ·split
     ·trivial
     ·exact ht w (Nat.le_refl _)
     ·trivial
     ·exact hn w (Nat.le_refl _)
     ·split
      ·exact ht w (Nat.le_refl _)
      ·split
       ·exact hn w (Nat.le_refl _)
       ·split
        ·rename_i h;exact hn _ (fU h)
        ·rename_i h;exact ht _ (fU h)
        ·trivial
end Go.Sx
end
section
namespace Go.Sx
theorem oY (p : Program) (listen : Bool) (fr : Frame) (callers : List Frame) (dying : Option Dying) (s : Sem Next) (w : World) : gLe w (Go.stepG.apply p listen fr callers dying s w) :=by
 unfold Go.stepG.apply
 extract_lets go kind
 have hr : ∃ r es,(if listen=true then s.runT p w #[] else (s.run p w,#[]))=(r,es)∧w.drawn≤(Q0 r).drawn:=by
  split
  ·rcases h : s.runT p w #[] with ⟨r,es⟩
   exact ⟨r,es,rfl,kH h⟩
  ·exact ⟨_,_,rfl,yF p s w⟩
 obtain ⟨r,es,he,h⟩ :=hr
 rw [he]
 dsimp only
 refine gLe.after ?_
 have hgo : ∀ fr w0,w.drawn≤w0.drawn→gLe w (go fr w0) :=fun fr w0 h0=> h0
 split
 all_goals first | exact h | trivial | exact hgo _ _ h | exact gLe.trans h (tu _ _ _ _ _ _) | exact gLe.trans h (lU _ _ _) | exact gLe.trans h (I7 _ _ _ _ _ _) | skip
 all_goals first | (refine rM (gLe.trans h (lU _ _ _)) ?_;exact h) | (split <;> first | exact h | trivial | exact hgo _ _ h)
theorem N0 (p : Program) (listen : Bool) (fr : Frame) (callers : List Frame) (dying : Option Dying) (w : World) : gLe w (Go.stepG.oper p listen fr callers dying w) :=by
 unfold Go.stepG.oper
 split
 ·trivial
 ·split
  ·exact oY _ _ _ _ _ _ _
  ·exact oY _ _ _ _ _ _ _
theorem EA {α : Type} {w : World} {o : Option α} {a : GStep} {f : α→GStep} (h1 : gLe w a) (h2 : ∀ x,gLe w (f x)) : gLe w (o.elim a f) :=by cases o;exact h1;exact h2 _
theorem N1 (p : Program) (main listen : Bool) (fr : Frame) (callers : List Frame) (dying : Option Dying) (w : World) : gLe w (Go.stepG.exec p main listen fr callers dying w) :=by
 unfold Go.stepG.exec
 extract_lets go to lost leave
 have hgo : ∀ fr w0,w.drawn≤w0.drawn→gLe w (go fr w0) :=fun fr w0 h0=> h0
 have hto : ∀ k,gLe w (to k) :=fun k=> Nat.le_refl _
 have hlost : ∀ m,gLe w (lost m) :=fun _=> trivial
 have hleave : ∀ j,gLe w (leave j) :=fun j=> by
  show gLe w (match fr.roundOf with | none=> _ | some l=> _)
  split
  ·refine rM (hgo _ _ (Nat.le_refl _)) trivial
  ·rcases h : (Instr.endRound _ j).runT p w #[] with ⟨r,es⟩
   have h:=kH h
   dsimp only
   refine gLe.after ?_
   split
   ·exact gLe.trans h (oX _ _ _ _ _ _ _)
   ·trivial
 have hgo1 : ∀ fr,gLe w (go fr w) :=fun fr=> Nat.le_refl _
 clear_value to lost leave
 split
 all_goals first | exact hleave _ | exact hto _ | exact hlost _ | trivial | exact EA (hleave _) hto | exact oY _ _ _ _ _ _ _ | exact EA (hlost _) (fun _=> oY _ _ _ _ _ _ _) | skip
 ·split
  ·exact hto _
  ·exact hlost _
 ·rcases h : (Instr.enterLoop fr.fn fr.tmps _ _ _ fr.roundOf).runT p w #[] with ⟨r,es⟩
  have h:=kH h
  dsimp only
  refine gLe.after ?_
  split
  ·exact gLe.trans h (oY _ _ _ _ _ _ _)
  ·trivial
 ·rcases h : (Instr.endLoop _).runT p w #[] with ⟨r,es⟩
  have h:=kH h
  dsimp only
  refine gLe.after ?_
  split
  ·exact hgo _ _ h
  ·exact hgo _ _ h
  ·trivial
 ·refine rM (hto _) ?_
  split
  ·rename_i h;exact hgo _ _ (fU h)
  ·trivial
 ·exact rM (N0 _ _ _ _ _ _) (hgo1 _)
theorem I8 (p : Program) (main : Bool) (g : Goroutine) (w : World) (listen : Bool) : gLe w (Go.stepG p main g w listen) :=by
 unfold Go.stepG
 obtain ⟨fr,callers,st,dying,off⟩ :=g
 dsimp only
 split
 ·exact Q3 _ _ _ _
 ·exact N1 _ _ _ _ _ _ _
 ·exact FH _ _ _ _ _ _
def sLe (w : World) : Stepped→Prop
 | .next m=> w.drawn≤m.world.drawn
 | .ended .. => True
theorem sLe.trans {w w' : World} {s : Stepped} (h1 : w.drawn≤w'.drawn) (h : sLe w' s) : sLe w s:=by cases s <;> first | trivial | exact Nat.le_trans h1 h
theorem EB {c : Prop} [Decidable c] {w : World} {a b : Stepped} (h1 : sLe w a) (h2 : sLe w b) : sLe w (if c then a else b) :=by split <;> assumption
theorem EC (p : Program) (gs : Array Goroutine) (rest : Rest) (w : World) : sLe w (look p gs rest w) :=by
 unfold look
 split
 ·extract_lets
  refine EB trivial ?_
  split
  ·trivial
  ·extract_lets
   split
   ·rename_i h
    have h:=fU h
    exact h
   ·trivial
   ·trivial
 ·trivial
theorem yG {rest : Rest} {cases : Array CommCase} {w w' : World} (h : waitingAt rest cases w=some w') : w.drawn≤w'.drawn:=by
 unfold waitingAt at h
 split at h
 ·split at h
  ·cases h;exact Nat.le_refl _
  ·cases h
 ·cases h;exact Nat.le_refl _
theorem vF (p : Program) (rest : Rest) (gs : Array Goroutine) (i : Nat) (g : Goroutine) (cases : Array CommCase) (bl : Bool) (shape : CommShape) (w : World) : sLe w (communicate p rest gs i g cases bl shape w).1:=by
 unfold communicate
 extract_lets put illMade me other
 have hput : ∀ g gs w0 ops,w.drawn≤w0.drawn→sLe w (put g gs w0 ops).1:=fun _ _ _ _ h=> h
 split
 ·trivial
 ·split
  ·split
   ·split
    ·rename_i h;exact yG h
    ·trivial
   ·exact hput _ _ _ _ (Nat.le_refl _)
  ·split
   ·trivial
   ·rename_i h
    have hw:=fU h
    clear h
    extract_lets r
    split
    ·split
     ·rename_i h2;exact hput _ _ _ _ (Nat.le_trans hw (I6 h2))
     ·trivial
    ·exact hput _ _ _ _ hw
    ·exact hput _ _ _ _ hw
    ·extract_lets
     split
     ·exact hput _ _ _ _ hw
     ·split
      ·rename_i h2;have h3:=fU h2;exact hput _ _ _ _ (Nat.le_trans hw h3)
      ·trivial
    ·exact hput _ _ _ _ hw
    ·exact hput _ _ _ _ hw
    ·trivial
theorem xz (m : Machine) (k : Nat) (t : Timer) (a b : Nat) : m.world.drawn≤(retime m k t a b).2.world.drawn:=by
 unfold retime drain
 dsimp only
 repeat' split
 all_goals first | exact Nat.le_refl _ | skip
 all_goals (simp_all;try omega)
theorem B9 {m m' : Machine} {op : TimerOp} {v : Value} (h : timerOp m op= .ok (v,m')) : m.world.drawn≤m'.world.drawn:=by
 have named : ∀ (D : Nat) (m0 : Machine) var f,(∀ k t,D≤(f k t).2.world.drawn)→timerOp.named m0 var f= .ok (v,m')→D≤m'.world.drawn:=fun D m0 var f hf h=> by
  unfold timerOp.named at h
  split at h
  ·injection h with h
   exact Nat.le_trans (hf _ _) (Nat.le_of_eq (congrArg (fun x : Value×Machine=> x.2.world.drawn) h))
  ·cases h
 unfold timerOp at h
 split at h
 ·split at h
  ·cases h;exact Nat.le_refl _
  ·split at h
   ·split at h
    ·cases h
    ·cases h;exact Nat.le_refl _
   ·cases h
 ·exact named _ _ _ _ (fun k t=> xz _ _ _ _ _) h
 ·split at h
  ·rename_i m1 ho
   have h1 : m.world.drawn≤m1.world.drawn:=by
    unfold timerOp.opened at ho
    split at ho
    ·split at ho
     ·cases ho;exact Nat.le_refl _
     ·cases ho
    ·cases ho;exact Nat.le_refl _
   exact Nat.le_trans h1 (named m1.world.drawn _ _ _ (fun k t=> xz _ _ _ _ _) h)
  ·cases h
 ·cases h;exact Nat.le_refl _
theorem I9 (p : Program) (m : Machine) (i : Nat) (listen : Bool) : sLe m.world (Go.runT p m i listen).1:=by
 unfold Go.runT
 extract_lets rest world
 split
 extract_lets wake fn pos s ops done
 have hs : gLe m.world s:=I8 _ _ _ _ _
 have hd : ∀ r,(done r).1=r:=fun r=> rfl
 clear_value s done
 split
 all_goals try rw [hd]
 ·trivial
 ·split
  rename_i h
  have:=vF p rest ‹_› i ‹_› ‹_› ‹_› ‹_› ‹_›
  rw [h] at this
  exact sLe.trans hs this
 ·exact hs
 ·exact hs
 ·exact EB trivial hs
 ·exact hs
 ·exact sLe.trans hs (EC _ _ _ _)
 ·exact hs
 ·exact hs
 ·split
  ·exact hs
  ·split
   ·rename_i h
    simp only [endThrow,dieOf] at h
    cases h
    exact hs
   ·trivial
  ·trivial
 ·split
  ·rename_i h;exact Nat.le_trans hs (B9 h)
  ·exact hs
  ·trivial
  ·trivial
theorem I_ (p : Program) (m : Machine) (k : Nat) : sLe m.world (serve p m k) :=by
 unfold serve
 split
 ·trivial
 ·exact Nat.le_refl _
 ·extract_lets
  split
  ·trivial
  ·exact Nat.le_refl _
def mLe (w : World) : Move→Prop
 | .goroutine m _=> w.drawn≤m.world.drawn
 | .machine s _=> sLe w s
theorem mLe.trans {w w' : World} {s : Move} (h1 : w.drawn≤w'.drawn) (h : mLe w' s) : mLe w s:=by
 cases s
 ·exact Nat.le_trans h1 h
 ·exact sLe.trans h1 h
theorem vG (p : Program) (m : Machine) : mLe m.world (askOn p m) :=by
 unfold askOn
 extract_lets mono rs ds pick
 have hpick : ∀ m0 : Machine,m.world.drawn≤m0.world.drawn→mLe m.world (pick m0) :=fun m0 h0=> by
  show mLe m.world (match (choose (.sched rs.length)).run p m0.world with | .halt _ w=> _ | .ok k world=> _)
  split
  ·trivial
  ·rename_i h
   have h1:=fU h
   split
   ·exact Nat.le_trans h0 h1
   ·split
    ·trivial
    ·rename_i h2
     have h2:=fU h2
     exact Nat.le_trans h0 (Nat.le_trans h1 h2)
 clear_value pick rs ds
 split
 ·trivial
 ·rename_i h
  have hw:=fU h
  clear h
  extract_lets m1
  split
  ·exact sLe.trans hw (I_ p _ _)
  ·cases rs with
   | nil=>
    dsimp only
    split
    ·exact hw
    ·split
     ·exact hw
     ·split <;> trivial
   | cons r rs=>
    dsimp only
    split
    ·exact hpick _ hw
    ·split
     ·trivial
     ·rename_i h;have h2:=fU h;exact hpick _ (Nat.le_trans hw h2)
     ·rename_i h;have h2:=fU h;exact Nat.le_trans hw h2
     ·rename_i h;have h2:=fU h;exact hpick _ (Nat.le_trans hw h2)
theorem Ag (p : Program) (m : Machine) : mLe m.world (ask p m) :=by
 unfold ask
 split
 ·split
  ·trivial
  ·rename_i h
   have hw:=fU h
   have:=EC p m.gs m.rest ‹World›
   split
   ·rename_i m2 h2
    rw [h2] at this
    exact mLe.trans (Nat.le_trans hw this) (vG p _)
   ·rename_i e h2
    exact sLe.trans hw this
  ·rename_i h
   have hw:=fU h
   exact mLe.trans hw (vG p _)
 ·exact vG p m
theorem N2 (p : Program) (m : Machine) : mLe m.world (move p m) :=by
 unfold move
 split
 ·split
  ·exact Nat.le_refl _
  ·trivial
 ·split
  ·split
   ·exact Nat.le_refl _
   ·exact Ag p _
  ·exact Ag p m
theorem N3 (p : Program) (m : Machine) : sLe m.world (step p m) :=by
 unfold step stepT
 have:=N2 p m
 split
 ·rename_i h
  rw [h] at this
  exact sLe.trans this (I9 p _ _ _)
 ·rename_i h
  rw [h] at this
  exact this
theorem Ah {p : Program} {m m' : Machine} (h : Steps p m m') : m.world.drawn≤m'.world.drawn:=by
 obtain ⟨n,hn⟩ :=h
 induction n generalizing m with
 | zero=> simp only [runN,Stepped.next.injEq] at hn;subst hn;exact Nat.le_refl _
 | succ n ih=>
  simp only [runN] at hn
  have:=N3 p m
  cases hs : step p m with
  | next m1=>
   rw [hs] at hn this
   exact Nat.le_trans this (ih hn)
  | ended o w=> rw [hs] at hn;cases hn
theorem Ai {P : Program} {f : FuncId} {args : Array Value} {w : World} {R : Ending→World→Prop} (h : Calls P f args w R) : Calls P f args w fun e w'=> R e w'∧(e≠ .outgrown→w.drawn≤w'.drawn) :=by
 intro cs
 obtain ⟨e,w',fr,hr,hc,hf,hl⟩ :=h cs
 refine ⟨e,w',fr,⟨hr,fun hne=> ?_⟩,hc,hf,hl⟩
 cases e with
 | returned v=> exact Ah (p:=P) hc
 | panicked c=> exact Ah (p:=P) hc
 | outgrown=> exact absurd rfl hne
end Go.Sx
end
section
namespace Go.Sx
open Go.RowKit Go.Shelf Go.Lib Go.Sort Go.Proofs
def US : SV→Value
 | .v x=> x
 | _=> undef
def kI (k : Tag) (x : k.T) : List Value:=(cellsOf k x).map US
def vH (k : Tag) : Prop:= ∀ (x : k.T) (s : SV),s∈cellsOf k x→∃ v,s= .v v∧v.oneCell'=true
def srt {α : Type} (cf : α→α→Int) (l : List α) : List α:=l.mergeSort fun x y=> !(ltOf cf y x)
def apart {α : Type} (cf : α→α→Int) (l : List α) : Prop:= ∀ x∈l,∀ y∈l,ltOf cf x y=false→ltOf cf y x=false→x=y
theorem B_ {α : Type} [Inhabited α] {cf : α→α→Int} (hO : SWO (ltOf cf)) {l : List α} (h : apart cf l) {d' : Array α} (hp : PermIn 0 l.toArray.size l.toArray d') (hs : SortedIn (ltOf cf) 0 l.toArray.size d') : d'=(srt cf l).toArray:=by
 obtain ⟨hsz,_,hperm⟩ :=hp
 have e1 : d'.extract 0 l.toArray.size=d':=by rw [←hsz];exact Array.extract_size
 rw [e1,Array.extract_size] at hperm
 have hperm : d'.toList.Perm l:=by simpa using hperm
 have : d'.toList=srt cf l:=by
  refine List.Perm.eq_of_pairwise (le:=fun x y=> (!ltOf cf y x)=true) ?_ ?_ ?_ (hperm.trans (List.mergeSort_perm _ _).symm)
  ·intro a b ha hb h1 h2
   simp only [Bool.not_eq_true'] at h1 h2
   exact h a (hperm.subset ha) b ((List.mergeSort_perm _ _).subset hb) h2 h1
  ·rw [List.pairwise_iff_getElem]
   intro i j hi hj hij
   have:=hs i j (Nat.zero_le _) hij (by simp only [List.size_toArray] at hsz ⊢;simp only [Array.length_toList] at hj;omega)
   simp only [Array.length_toList] at hi hj
   rw [getElem!_pos d' i hi,getElem!_pos d' j hj] at this
   simpa using this
  ·refine List.pairwise_mergeSort (fun a b c h1 h2=> ?_) (fun a b=> ?_) l
   ·simp only [Bool.not_eq_true'] at h1 h2 ⊢
    exact hO.ntrans c b a h2 h1
   ·simp only [Bool.or_eq_true,Bool.not_eq_true']
    cases h1 : ltOf cf b a with
    | false=> exact .inl rfl
    | true=>
     right
     cases h2 : ltOf cf a b with
     | false=> rfl
     | true=>
      have h3:=hO.trans a b a h2 h1
      rw [hO.irrefl] at h3;cases h3
 rw [←this]
section
variable {P : Program} {ρ : Ren} {F : Nat→Prop} {own : Own} {w : World} {k : Tag}
theorem FI (hk : vH k) {l : List k.T} {o : Nat} {cs : Array Value} (h : RowAt F own w k l o cs) {i j : Nat} (hi : i < l.length) (hj : j < aa k) : cs[o + i * aa k + j]? =(kI k l[i])[j]? :=by
 have e1:=List.getElem?_eq_getElem hi
 have hlen : j < (cellsOf k l[i]).length:=by rw [bg];exact hj
 have e2:=List.getElem?_eq_getElem hlen
 obtain ⟨u,h1,h2⟩ :=h i _ e1 j _ e2
 obtain ⟨v,h3,_⟩ :=hk l[i] _ (List.getElem_mem hlen)
 rw [h1]
 unfold kI
 rw [List.getElem?_map,e2]
 rw [h3] at h2 ⊢
 rw [bH h2]
 rfl
theorem FJ (hk : vH k) {l : List k.T} {o : Nat} {cs : Array Value} (h : ∀ i j,(hi : i < l.length)→j < aa k→cs[o + i * aa k + j]? =(kI k l[i])[j]?) : RowAt F own w k l o cs:=by
 intro i x hi j s hj
 obtain ⟨hl,rfl⟩ :=List.getElem?_eq_some_iff.1 hi
 have hlen:=(List.getElem?_eq_some_iff.1 hj).1
 rw [bg] at hlen
 have:=h i j hl hlen
 unfold kI at this
 rw [List.getElem?_map,hj] at this
 obtain ⟨v,h3,_⟩ :=hk _ s (List.mem_of_getElem? hj)
 subst h3
 exact ⟨v,this,.v v⟩
theorem N4 {w w' : World} (hb : Go.RowKit.Below w.heap.size w w') (hd : w.drawn≤w'.drawn) : ∃ q os,w'=grow (w.drewN q) os:=by
 refine ⟨w'.drawn - w.drawn,w'.heap.extract w.heap.size w'.heap.size,?_⟩
 obtain ⟨h1,h2,h3,h4,h5⟩ :=hb
 obtain ⟨heap,tape,drawn,os,output⟩ :=w
 obtain ⟨heap',tape',drawn',os',output'⟩ :=w'
 simp only at h1 h2 h3 h4 h5 hd
 subst h1;subst h2;subst h3
 unfold grow World.drewN
 simp only [World.mk.injEq,true_and,and_true]
 refine ⟨?_,by omega⟩
 apply Array.ext
 ·simp;omega
 ·intro i hi1 hi2
  by_cases hi : i < heap.size
  ·rw [Array.getElem_append_left hi]
   have:=h5 i hi
   rw [Array.getElem?_eq_getElem hi1,Array.getElem?_eq_getElem hi] at this
   exact Option.some.inj this
  ·rw [Array.getElem_append_right (by omega)]
   simp only [Array.getElem_extract]
   congr 1;omega
end
end Go.Sx
end
