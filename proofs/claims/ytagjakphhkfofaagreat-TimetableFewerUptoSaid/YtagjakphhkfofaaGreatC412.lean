/- Part of the proof that the law TimetableFewer returns true and leaves its arguments as they were, for all arguments of bulk at most 1048576 (the Upto form). -/
import Derived.Test.YtagjakphhkfofaaGreatC411
import Derived.Test.YtagjakphhkfofaaGreatC406
import Derived.Test.YtagjakphhkfofaaGreatC407
import Derived.Deep.Slices
import Derived.OpenShut
import Derived.ChangeSame
import Derived.WideKeyArgs
import Derived.Below
import Derived.Test.YtagjakphhkfofaaGreatRows
import Derived.WalkKit
import Derived.ProofKit
import Derived.JoinedCond
import Derived.Carry
set_option linter.all false
section
namespace Go.Sx
open Go.Proofs Go.Shelf Go.Sort Go.Lib
set_option maxRecDepth 100000
theorem gH {α : Type} {cf : α→α→Int} (hO : SWO (ltOf cf)) {l m : List α} (hp : m.Perm l) (hs : m.Pairwise fun x y=> ltOf cf x y=true) : srt cf l=m:=by
 have h1 : (srt cf l).Pairwise fun x y=> (!(ltOf cf y x))=true:=by
  refine List.pairwise_mergeSort (fun a b c h1 h2=> ?_) (fun a b=> ?_) l
  ·simp only [Bool.not_eq_true'] at h1 h2 ⊢
   exact hO.ntrans _ _ _ h2 h1
  ·cases q : ltOf cf b a with
   | false=> rfl
   | true=>
    cases q2 : ltOf cf a b with
    | false=> rfl
    | true=> have:=hO.trans _ _ _ q q2;rw [hO.irrefl] at this;cases this
 have h2 : m.Pairwise fun x y=> (!(ltOf cf y x))=true:=hs.imp fun {x y} q=> by
  cases q2 : ltOf cf y x with
  | false=> rfl
  | true=> have:=hO.trans _ _ _ q q2;rw [hO.irrefl] at this;cases this
 have hpm : (srt cf l).Perm l:=List.mergeSort_perm _ _
 refine List.Perm.eq_of_pairwise (fun a b ha hb q1 q2=> ?_) h1 h2 (hpm.trans hp.symm)
 have ha : a∈m:=hp.mem_iff.2 (hpm.mem_iff.1 ha)
 obtain ⟨i,hi,rfl⟩ :=List.getElem_of_mem ha
 obtain ⟨j,hj,rfl⟩ :=List.getElem_of_mem hb
 rw [List.pairwise_iff_getElem] at hs
 rcases Nat.lt_trichotomy i j with q | q | q
 ·have:=hs i j hi hj q;rw [this] at q2;cases q2
 ·subst q;rfl
 ·have:=hs j i hj hi q;rw [this] at q1;cases q1
theorem o8 {d : District} {c : List Claim} {out l : List Order} {B : List Fault} (h1 : aZ d c=0) (h2 : decide ((IntKind.i64.wrap ((d.reaches.length : Int) * d.hours)) > 1024)=false) (h3 : ak c=out)
  (h4 : aI out=false) (h5 : aq d out=(l,true,0)) (h6 : br l d=B) :
  ar d c=match B with | [] => (l,({ kind:=0,hour:=0,index:=0,litres:=0,limit:=0} : Fault),0) | f :: _=> ([],f,0) :=by
 have ha : ag d c=(out,0) :=by
  unfold ag
  rw [h1,h2,h3,h4];rfl
 unfold ar
 simp only [ha,h5,h6,bne_self_eq_false,cond_false,Bool.not_true]
 cases B <;> rfl
theorem Ch {d : District} {c : List Claim} {out : List Order} {f : Fault} (h1 : aZ d c=0) (h2 : decide ((IntKind.i64.wrap ((d.reaches.length : Int) * d.hours)) > 1024)=false) (h3 : ak c=out)
  (h4 : aI out=false) (h5 : aq d out=([],false,0)) (h6 : dY out d=f) :
  ar d c=([],f,0) :=by
 have ha : ag d c=(out,0) :=by
  unfold ag
  rw [h1,h2,h3,h4];rfl
 unfold ar
 simp only [ha,h5,h6,bne_self_eq_false,cond_false,Bool.not_false,cond_true]
abbrev ca (h i n : Int) (o : Bool) : Order:= { hour:=h,index:=i,litres:=n,outlet:=o}
theorem ev_a : ar aS ce=(eG,({ kind:=0,hour:=0,index:=0,litres:=0,limit:=0} : Fault),0) :=by
 have e1 : ak ce=srt an [ca 4 1 10 true,ca 4 0 7 true,ca 5 0 1 true] :=by kernel_rfl
 rw [gH (m:=[ca 4 0 7 true,ca 4 1 10 true,ca 5 0 1 true]) dG (by decide) (by decide)] at e1
 have e2 : aq aS [ca 4 0 7 true,ca 4 1 10 true,ca 5 0 1 true]=(srt av [ca 4 0 7 true,ca 4 1 10 true,ca 5 0 1 true,ca 2 0 20 false,ca 3 0 5 false],true,0) :=by kernel_rfl
 rw [gH (m:=eG) mY (by decide) (by decide)] at e2
 exact o8 (B:=[]) (by kernel_rfl) (by kernel_rfl) e1 (by kernel_rfl) e2 (by kernel_rfl)
theorem ev_b : ar aS be=([],({ kind:=1,hour:=2,index:=0,litres:=21,limit:=20} : Fault),0) :=by
 have e1 : ak be=srt an [ca 4 1 10 true,ca 4 0 8 true,ca 5 0 1 true] :=by kernel_rfl
 rw [gH (m:=[ca 4 0 8 true,ca 4 1 10 true,ca 5 0 1 true]) dG (by decide) (by decide)] at e1
 have e2 : aq aS [ca 4 0 8 true,ca 4 1 10 true,ca 5 0 1 true]=(srt av [ca 4 0 8 true,ca 4 1 10 true,ca 5 0 1 true,ca 2 0 21 false,ca 3 0 5 false],true,0) :=by kernel_rfl
 rw [gH (m:=[ca 2 0 21 false,ca 3 0 5 false,ca 4 0 8 true,ca 4 1 10 true,ca 5 0 1 true]) mY (by decide) (by decide)] at e2
 exact o8 (B:=[{ kind:=1,hour:=2,index:=0,litres:=21,limit:=20}]) (by kernel_rfl) (by kernel_rfl) e1 (by kernel_rfl) e2 (by kernel_rfl)
theorem ev_c : ar aS eT=([],({ kind:=7,hour:=1,index:=0,litres:=9,limit:=0} : Fault),0) :=by
 have e1 : ak eT=srt an [ca 1 1 9 true] :=by kernel_rfl
 rw [gH (m:=[ca 1 1 9 true]) dG (by decide) (by decide)] at e1
 exact Ch (by kernel_rfl) (by kernel_rfl) e1 (by kernel_rfl) (by kernel_rfl) (by kernel_rfl)
abbrev clA : Claim:= { right:=1,farm:=1,hour:=4,litres:=10,rank:=1}
abbrev clB : Claim:= { right:=0,farm:=0,hour:=4,litres:=8,rank:=2}
abbrev clC : Claim:= { right:=0,farm:=0,hour:=5,litres:=1,rank:=2}
theorem ev_d : ar aS [clA]=([ca 2 0 13 false,ca 4 1 10 true],({ kind:=0,hour:=0,index:=0,litres:=0,limit:=0} : Fault),0) :=by
 have e1 : ak [clA]=srt an [ca 4 1 10 true] :=by kernel_rfl
 rw [gH (m:=[ca 4 1 10 true]) dG (by decide) (by decide)] at e1
 have e2 : aq aS [ca 4 1 10 true]=(srt av [ca 4 1 10 true,ca 2 0 13 false],true,0) :=by kernel_rfl
 rw [gH (m:=[ca 2 0 13 false,ca 4 1 10 true]) mY (by decide) (by decide)] at e2
 exact o8 (B:=[]) (by kernel_rfl) (by kernel_rfl) e1 (by kernel_rfl) e2 (by kernel_rfl)
theorem ev_e : ar aS [clA,clB]=([],({ kind:=1,hour:=2,index:=0,litres:=21,limit:=20} : Fault),0) :=by
 have e1 : ak [clA,clB]=srt an [ca 4 1 10 true,ca 4 0 8 true] :=by kernel_rfl
 rw [gH (m:=[ca 4 0 8 true,ca 4 1 10 true]) dG (by decide) (by decide)] at e1
 have e2 : aq aS [ca 4 0 8 true,ca 4 1 10 true]=(srt av [ca 4 0 8 true,ca 4 1 10 true,ca 2 0 21 false],true,0) :=by kernel_rfl
 rw [gH (m:=[ca 2 0 21 false,ca 4 0 8 true,ca 4 1 10 true]) mY (by decide) (by decide)] at e2
 exact o8 (B:=[{ kind:=1,hour:=2,index:=0,litres:=21,limit:=20}]) (by kernel_rfl) (by kernel_rfl) e1 (by kernel_rfl) e2 (by kernel_rfl)
theorem ev_f : ar aS [clA,clC]=([ca 2 0 13 false,ca 3 0 5 false,ca 4 1 10 true,ca 5 0 1 true],({ kind:=0,hour:=0,index:=0,litres:=0,limit:=0} : Fault),0) :=by
 have e1 : ak [clA,clC]=srt an [ca 4 1 10 true,ca 5 0 1 true] :=by kernel_rfl
 rw [gH (m:=[ca 4 1 10 true,ca 5 0 1 true]) dG (by decide) (by decide)] at e1
 have e2 : aq aS [ca 4 1 10 true,ca 5 0 1 true]=(srt av [ca 4 1 10 true,ca 5 0 1 true,ca 2 0 13 false,ca 3 0 5 false],true,0) :=by kernel_rfl
 rw [gH (m:=[ca 2 0 13 false,ca 3 0 5 false,ca 4 1 10 true,ca 5 0 1 true]) mY (by decide) (by decide)] at e2
 exact o8 (B:=[]) (by kernel_rfl) (by kernel_rfl) e1 (by kernel_rfl) e2 (by kernel_rfl)
theorem EJ : am be=[clA,clB,clC] :=by
 have : am be=srt bp [clA,clB,clC] :=by kernel_rfl
 rw [this]
 exact gH vF (by decide) (by decide)
theorem e_o1 : aN [clA]=[clA] :=gH lJ (by decide) (by decide)
theorem e_o2 : aN [clA,clB]=[clA,clB] :=gH lJ (by decide) (by decide)
theorem e_o3 : aN [clA,clC]=[clA,clC] :=gH lJ (by decide) (by decide)
theorem ev_s : eb aS be=([clA,clC],0) :=by
 have h0 : (ag aS be).2=0:=by
  have e1 : ak be=srt an [ca 4 1 10 true,ca 4 0 8 true,ca 5 0 1 true] :=by kernel_rfl
  rw [gH (m:=[ca 4 0 8 true,ca 4 1 10 true,ca 5 0 1 true]) dG (by decide) (by decide)] at e1
  refine kC.2 ⟨by kernel_rfl,by unfold aS;simp,?_⟩
  rw [e1]
  decide
 have s1 : bP aS be 0 []= .inr [clA] :=by
  unfold bP
  rw [EJ]
  show (bif (((ae aS (aN [clA])).2.2==0) && (ae aS (aN [clA])).2.1) then .inr (aN [clA]) else .inr ([] : List Claim))=(.inr [clA] : Empty⊕List Claim)
  rw [e_o1]
  unfold ae
  rw [ev_d];rfl
 have s2 : bP aS be 1 [clA]= .inr [clA] :=by
  unfold bP
  rw [EJ]
  show (bif (((ae aS (aN [clA,clB])).2.2==0) && (ae aS (aN [clA,clB])).2.1) then .inr (aN [clA,clB]) else .inr ([clA] : List Claim))=(.inr [clA] : Empty⊕List Claim)
  rw [e_o2]
  unfold ae
  rw [ev_e];rfl
 have s3 : bP aS be 2 [clA]= .inr [clA,clC] :=by
  unfold bP
  rw [EJ]
  show (bif (((ae aS (aN [clA,clC])).2.2==0) && (ae aS (aN [clA,clC])).2.1) then .inr (aN [clA,clC]) else .inr ([clA] : List Claim))=(.inr [clA,clC] : Empty⊕List Claim)
  rw [e_o3]
  unfold ae
  rw [ev_f];rfl
 unfold eb
 rw [h0,EJ]
 simp only [bne_self_eq_false,cond_false,List.length_cons,List.length_nil,Nat.zero_add,ax,s1,s2,s3]
theorem m10 : cA=(eG,true,0) :=by unfold cA ae;rw [ev_a];rfl
theorem m4 : dA=(({ kind:=1,hour:=2,index:=0,litres:=21,limit:=20} : Fault),true,0) :=by unfold dA dn;rw [ev_b];rfl
theorem m16 : dl=(({ kind:=7,hour:=1,index:=0,litres:=9,limit:=0} : Fault),true,0) :=by unfold dl dn;rw [ev_c];rfl
theorem m13 : fZ=([],false,191) :=by kernel_rfl
theorem J1 : ji=true:=by
 unfold ji gQ gO a6 gR aX fA
 rw [m10,m4,ev_s,m16,m13]
 kernel_rfl
def CK (a b : Claim) : Prop:=a.hour=b.hour∧a.rank=b.rank∧a.right=b.right∧a.farm=b.farm
theorem Pj {c : List Claim} (h : c.Pairwise pA) {a b : Claim} (ha : a∈c) (hb : b∈c) (hk : CK a b) : a=b:=by
 obtain ⟨i,hi,rfl⟩ :=List.getElem_of_mem ha
 obtain ⟨j,hj,rfl⟩ :=List.getElem_of_mem hb
 obtain ⟨k1,k2,k3,k4⟩ :=hk
 rw [List.pairwise_iff_getElem] at h
 rcases Nat.lt_trichotomy i j with q | q | q
 ·have:=h i j hi hj q;unfold pA at this;omega
 ·subst q;rfl
 ·have:=h j i hj hi q;unfold pA at this;omega
theorem xM {c l : List Claim} (h : c.Pairwise pA) (hs : ∀ x∈l,x∈c) : apart bp l∧apart bg l:=by
 refine ⟨fun x hx y hy h1 h2=> Pj h (hs x hx) (hs y hy) ?_,fun x hx y hy h1 h2=> Pj h (hs x hx) (hs y hy) ?_⟩
 ·unfold ltOf at h1 h2
  rw [decide_eq_false_iff_not,sN] at h1 h2
  unfold slt at h1 h2
  simp only [mF,and_false,or_false] at h1 h2
  unfold CK;omega
 ·unfold ltOf at h1 h2
  rw [decide_eq_false_iff_not,vE] at h1 h2
  unfold clt at h1 h2
  simp only [mF,and_false,or_false] at h1 h2
  unfold CK;omega
theorem AQ (c : List Claim) : (am c).Perm c:=List.mergeSort_perm _ _
theorem AR (c : List Claim) : (aN c).Perm c:=List.mergeSort_perm _ _
theorem FZ (d : District) (c : List Claim) : fe d c:=by
 refine ⟨AC d c,fun h=> ?_⟩
 have hA : Askd d c:=kC.1 (by simpa using h)
 obtain ⟨_,h2,h3,h4⟩ :=(eF d c).1 hA.chk
 have hlen : (am c).length=c.length:=(AQ c).length_eq
 refine ⟨⟨by unfold b6 eK;omega,(xM h4 fun x hx=> hx).1⟩,fun _=> ?_⟩
 refine mV (fun j s=> (∀ x∈s,x∈c)∧s.length≤j) _ _ _ ⟨fun x hx=> (by cases hx),Nat.le_refl _⟩ fun j s _ hj ⟨hs,hl⟩ => ?_
 have hx : (am c).getD j (default : Claim)∈c:=(AQ c).mem_iff.1 (mE _ _ (by omega))
 have hs2 : ∀ x∈s ++ [(am c).getD j (default : Claim)],x∈c:=fun x hq=> by
  rcases List.mem_append.1 hq with q | q
  ·exact hs x q
  ·simp only [List.mem_cons,List.not_mem_nil,or_false] at q;rw [q];exact hx
 refine ⟨⟨by unfold eK;omega,by unfold eK;simp;omega,fun _=> ⟨⟨by unfold b6 eK;simp;omega,(xM h4 hs2).2⟩,pr _ _⟩⟩,fun s' e=> ?_⟩
 unfold bP at e
 generalize (((ae d (aN (s ++ ([((am c).getD j (default : Claim))])))).2.2==0) && (ae d (aN (s ++ ([((am c).getD j (default : Claim))])))).2.1)=b at e
 cases b with
 | true=>
  simp only [cond_true,Sum.inr.injEq] at e
  subst e
  refine ⟨fun x hq=> hs2 x ((AR _).mem_iff.1 hq),?_⟩
  rw [(AR _).length_eq]
  simp;omega
 | false=>
  simp only [cond_false,Sum.inr.injEq] at e
  subst e
  exact ⟨hs,by omega⟩
theorem J2 (a b : List Order) : ff a b:=fun _ _ h=> by
 have h : (a.length : Int)=b.length:=by simpa using h
 refine mV (fun _ _=> True) _ _ _ trivial fun j s _ hj _=> ⟨fun _=> by omega,fun _ _=> trivial⟩
theorem J3 (a b : List Claim) : fg a b:=fun _ _ h=> by
 have h : (a.length : Int)=b.length:=by simpa using h
 refine mV (fun _ _=> True) _ _ _ trivial fun j s _ hj _=> ⟨fun _=> by omega,fun _ _=> trivial⟩
theorem J4 : kw:=by
 refine ⟨pr _ _,fun _=> J2 _ _,fun _=> ⟨by unfold ce;simp,AE _ _,FZ _ _,AE _ _,pr _ _,fun _=> ⟨fun _=> ?_,fun _=> ?_,fun _=> J3 _ _⟩⟩⟩
 ·unfold fz be ce;simp
 ·unfold fz be ce;simp
end Go.Sx
end
section
namespace Go.Sx
universe u
section
variable {α : Type u}
def pV (k : Int→List SV→Option α) : List SV→Option α
 | .v (.int .u8 n) :: r=> k n r
 | _=> none
@[go_sem] theorem WO {k : Int→List SV→Option α} {n : Int} {r : List SV} : pV k (.v (.int .u8 n) :: r)=k n r:=(rfl)
theorem Ro {k : Int→List SV→Option α} {l : List SV} {c : α} (h : pV k l=some c) : ∃ n r,l= .v (.int .u8 n) :: r∧k n r=some c:=by
 unfold pV at h
 split at h
 ·exact ⟨_,_,rfl,h⟩
 ·cases h
def pW (k : Int→List SV→Option α) : List SV→Option α
 | .v (.int .u16 n) :: r=> k n r
 | _=> none
@[go_sem] theorem WP {k : Int→List SV→Option α} {n : Int} {r : List SV} : pW k (.v (.int .u16 n) :: r)=k n r:=(rfl)
theorem Rp {k : Int→List SV→Option α} {l : List SV} {c : α} (h : pW k l=some c) : ∃ n r,l= .v (.int .u16 n) :: r∧k n r=some c:=by
 unfold pW at h
 split at h
 ·exact ⟨_,_,rfl,h⟩
 ·cases h
theorem Rq {G : List SV→α→Prop} {k : Int→List SV→Option α} (h : ∀ n l c,k n l=some c→G (.v (.int .u8 n) :: l) c) : ∀ l c,pV k l=some c→G l c:=fun l c hc=> by
 obtain ⟨n,r,rfl,h1⟩ :=Ro hc;exact h n r c h1
theorem Rr {G : List SV→α→Prop} {k : Int→List SV→Option α} (h : ∀ n l c,k n l=some c→G (.v (.int .u16 n) :: l) c) : ∀ l c,pW k l=some c→G l c:=fun l c hc=> by
 obtain ⟨n,r,rfl,h1⟩ :=Rp hc;exact h n r c h1
end
end Go.Sx
end
section
namespace Go.Sx
open Go.Proofs
set_option maxRecDepth 100000
set_option linter.unusedSimpArgs false
theorem o9 {p : Prop} (h : p:=by (first | done | (repeat' (first | with_reducible refine And.intro ?_ ?_ | ((with_reducible show _≠_);first | assumption | omega | (simp_all [aK,aU];done) | grind) | with_reducible intro _)) <;> (first | done | exact Empty.elim ‹Empty› | assumption | rfl | omega | decide | exact fk [0,1,2,3,4] | (simp only [*,cond_true,cond_false,Bool.not_true,Bool.not_false,go_sem,Nat.reduceBEq,Nat.reduceLeDiff,Nat.reduceLT,decide_true,Nat.reduceAdd,Nat.reduceSub,Nat.reduceMul,Int.reduceLE,Int.reduceLT,Int.reduceToNat,Int.reduceNeg,reduceCtorEq];done) | (simp only [*,cond_true,cond_false,Bool.not_true,Bool.not_false,go_sem,Nat.reduceBEq,Nat.reduceLeDiff,Nat.reduceLT,decide_true,Nat.reduceAdd,Nat.reduceSub,Nat.reduceMul,Int.reduceLE,Int.reduceLT,Int.reduceToNat,Int.reduceNeg,reduceCtorEq];(repeat' (first | with_reducible refine And.intro ?_ ?_ | ((with_reducible show _≠_);first | assumption | omega | (simp_all [aK,aU];done) | grind) | with_reducible intro _)) <;> (first | done | assumption | rfl | omega | decide | exact fk [0,1,2,3,4] | (simp_all [aK,aU];done))) | (simp_all [okI,aK,aU];done) | (simp_all [aK,aU];(first | done | exact fk2 [0,1,2,3,4])) | exact fk2 [0,1,2,3,4] | (simp_all only [aK,aU,cond_true,cond_false];(first | done | exact fk [0,1,2,3,4] | exact fk2 [0,1,2,3,4] | (simp only [go_sem,Nat.reduceBEq,Nat.reduceLeDiff,Nat.reduceLT,decide_true,Nat.reduceAdd,Nat.reduceSub,Nat.reduceMul,Int.reduceLE,Int.reduceLT,Int.reduceToNat,Int.reduceNeg,reduceCtorEq];((repeat' (first | with_reducible refine And.intro ?_ ?_ | ((with_reducible show _≠_);first | assumption | omega | (simp_all [aK,aU];done) | grind) | with_reducible intro _)) <;> (first | done | rfl | exact fk [0,1,2,3,4] | exact fk2 [0,1,2,3,4])))))))) : p:=h
theorem AS {p : Prop} (h : p:=by simp only [go_sem,Nat.reduceBEq,Nat.reduceLeDiff,Nat.reduceLT,decide_true,Nat.reduceAdd,Nat.reduceSub,Nat.reduceMul,Int.reduceLE,Int.reduceLT,Int.reduceToNat,Int.reduceNeg,reduceCtorEq,hc,hw];all_goals exact o9) : p:=h
theorem AT {p : Prop} (h : p:=by simp only [go_sem,Nat.reduceBEq,Nat.reduceLeDiff,Nat.reduceLT,decide_true,Nat.reduceAdd,Nat.reduceSub,Nat.reduceMul,Int.reduceLE,Int.reduceLT,Int.reduceToNat,Int.reduceNeg,reduceCtorEq,hc];all_goals exact o9) : p:=h
def aB (a1 : List Claim) (a2 : Int) (a3 : Int) :=((([]) ++ a1).set (Int.toNat (Int.tmod (IntKind.i64.wrap a2) (a1.length : Int))) ({ right:=((([]) ++ a1).getD (Int.toNat (Int.tmod (IntKind.i64.wrap a2) (a1.length : Int))) (default : Claim)).right,farm:=((([]) ++ a1).getD (Int.toNat (Int.tmod (IntKind.i64.wrap a2) (a1.length : Int))) (default : Claim)).farm,hour:=((([]) ++ a1).getD (Int.toNat (Int.tmod (IntKind.i64.wrap a2) (a1.length : Int))) (default : Claim)).hour,litres:=(IntKind.i64.wrap (1 + (Int.tmod (IntKind.i64.wrap a3) (if 1 < (a1.getD (Int.toNat (Int.tmod (IntKind.i64.wrap a2) (a1.length : Int))) (default : Claim)).litres then (a1.getD (Int.toNat (Int.tmod (IntKind.i64.wrap a2) (a1.length : Int))) (default : Claim)).litres else 1)))),rank:=((([]) ++ a1).getD (Int.toNat (Int.tmod (IntKind.i64.wrap a2) (a1.length : Int))) (default : Claim)).rank} : Claim))
def aD (a1 : List Claim) (a2 : Int) :=((([]) ++ ((a1.take (Int.toNat (Int.tmod (IntKind.i64.wrap a2) (a1.length : Int)))).drop 0)) ++ ((a1.take (Int.toNat (a1.length : Int))).drop (Int.toNat (IntKind.i64.wrap ((Int.tmod (IntKind.i64.wrap a2) (a1.length : Int)) + 1)))))
@[go_sem] def dS (a0 : District) (a1 : List Claim) (a2 : Int) (a3 : Int) (k_2 : Nat) (s_2 : Unit) : Unit⊕Unit:=(bif (decide ((ay .acequialaw27Key .int (bn ((ae a0 a1).1)) ({ outlet:=(((ae a0 (aB a1 a2 a3)).1).getD k_2 (default : Order)).outlet,index:=(((ae a0 (aB a1 a2 a3)).1).getD k_2 (default : Order)).index,hour:=(((ae a0 (aB a1 a2 a3)).1).getD k_2 (default : Order)).hour} : Acequialaw27Key)) < (((ae a0 (aB a1 a2 a3)).1).getD k_2 (default : Order)).litres)) then .inl () else .inr ())
@[go_sem] def dT (a0 : District) (a1 : List Claim) (a2 : Int) (k_1 : Nat) (s_1 : Unit) : Unit⊕Unit:=(bif (decide ((ay .acequialaw27Key .int (bn ((ae a0 a1).1)) ({ outlet:=(((ae a0 (aD a1 a2)).1).getD k_1 (default : Order)).outlet,index:=(((ae a0 (aD a1 a2)).1).getD k_1 (default : Order)).index,hour:=(((ae a0 (aD a1 a2)).1).getD k_1 (default : Order)).hour} : Acequialaw27Key)) < (((ae a0 (aD a1 a2)).1).getD k_1 (default : Order)).litres)) then .inl () else .inr ())
@[go_sem] def a_ (a0 : District) (a1 : List Claim) (a2 : Int) (a3 : Int) (k_0 : Nat) (s_0 : Unit) : Unit⊕Unit:=(bif (Nat.beq k_0 0) then (bif (((ae a0 (aB a1 a2 a3)).2.2 !=0) || (!(ae a0 (aB a1 a2 a3)).2.1)) then .inl () else (match ax (dS a0 a1 a2 a3) (((ae a0 (aB a1 a2 a3)).1).length) 0 () with | .inl x_2_0=> .inl () | .inr s_2=> .inr ())) else (bif (((ae a0 (aD a1 a2)).2.2 !=0) || (!(ae a0 (aD a1 a2)).2.1)) then .inl () else (match ax (dT a0 a1 a2) (((ae a0 (aD a1 a2)).1).length) 0 () with | .inl x_1_0=> .inl () | .inr s_1=> .inr ())))
def cF (a0 : District) (a1 : List Claim) (a2 : Int) (a3 : Int) (k_0 : Nat) (s_0 : Unit) : Prop:=(((Nat.beq k_0 0)=true→(b5 a0 (aB a1 a2 a3)))∧((Nat.beq k_0 0)=false→(b5 a0 (aD a1 a2))))
def dL (a0 : District) (a1 : List Claim) (a2 : Int) (a3 : Int) : Bool:=(bif (!ji) then false else (bif ((!(mI a0 a1)) || ((a1.length : Int) ==0)) then true else (bif (((ae a0 a1).2.2 !=0) || (!(ae a0 a1).2.1)) then true else (match ax (a_ a0 a1 a2 a3) 2 0 () with | .inl x_0_0=> false | .inr s_0=> true))))
def d6 (a0 : District) (a1 : List Claim) (a2 : Int) (a3 : Int) : Prop:=((kw)∧((!ji)=false→(((!(mI a0 a1)) || ((a1.length : Int) ==0))=false→((b5 a0 a1)∧((((ae a0 a1).2.2 !=0) || (!(ae a0 a1).2.1))=false→(a1.length≤bt→((a1.length : Int)≠0∧(((([]) ++ a1).length * 40≤eK)∧((([]) ++ a1).length≤bt→((0≤(Int.tmod (IntKind.i64.wrap a2) (a1.length : Int))∧(Int.tmod (IntKind.i64.wrap a2) (a1.length : Int)) < (a1.length : Int))∧((if 1 < (a1.getD (Int.toNat (Int.tmod (IntKind.i64.wrap a2) (a1.length : Int))) (default : Claim)).litres then (a1.getD (Int.toNat (Int.tmod (IntKind.i64.wrap a2) (a1.length : Int))) (default : Claim)).litres else 1)≠0∧((0≤(Int.tmod (IntKind.i64.wrap a2) (a1.length : Int))∧(Int.tmod (IntKind.i64.wrap a2) (a1.length : Int)) < ((([]) ++ a1).length : Int))∧((0≤0∧0≤(Int.tmod (IntKind.i64.wrap a2) (a1.length : Int))∧(Int.tmod (IntKind.i64.wrap a2) (a1.length : Int))≤(a1.length : Int))∧(((([]) ++ ((a1.take (Int.toNat (Int.tmod (IntKind.i64.wrap a2) (a1.length : Int)))).drop 0)).length * 40≤eK)∧((([]) ++ ((a1.take (Int.toNat (Int.tmod (IntKind.i64.wrap a2) (a1.length : Int)))).drop 0)).length≤bt→((0≤(IntKind.i64.wrap ((Int.tmod (IntKind.i64.wrap a2) (a1.length : Int)) + 1))∧(IntKind.i64.wrap ((Int.tmod (IntKind.i64.wrap a2) (a1.length : Int)) + 1))≤(a1.length : Int)∧(a1.length : Int)≤(a1.length : Int))∧((((([]) ++ ((a1.take (Int.toNat (Int.tmod (IntKind.i64.wrap a2) (a1.length : Int)))).drop 0)) ++ ((a1.take (Int.toNat (a1.length : Int))).drop (Int.toNat (IntKind.i64.wrap ((Int.tmod (IntKind.i64.wrap a2) (a1.length : Int)) + 1))))).length * 40≤eK)∧(((([]) ++ ((a1.take (Int.toNat (Int.tmod (IntKind.i64.wrap a2) (a1.length : Int)))).drop 0)) ++ ((a1.take (Int.toNat (a1.length : Int))).drop (Int.toNat (IntKind.i64.wrap ((Int.tmod (IntKind.i64.wrap a2) (a1.length : Int)) + 1))))).length≤bt→okI (a_ a0 a1 a2 a3) (cF a0 a1 a2 a3) 2 0 ()))))))))))))))))))
@[go_sem] def fh : List SV→Option Con:=(pD .district fun a0=> (pR .claim fun a1=> (pV fun a2=> (pW fun a3=> (pE (.det (d6 a0 a1 a2 a3) (.v (.bool (dL a0 a1 a2 a3)))))))))
theorem Vl (l : List Claim) (T : Int) (h : 0≤T) (h2 : T < (l.length : Int)) (hl : l.length≤bt) : (List.drop 0 (List.take T.toNat l) ++ List.drop (IntKind.i64.wrap (T + 1)).toNat (List.take l.length l)).length≤bt:=by
 rw [cH (by omega) (by unfold bt at hl;omega)]
 simp only [List.length_append,List.length_drop,List.length_take]
 omega
set_option maxHeartbeats 4000000 in
theorem mJ : FnOk Tryz.prog 5 fh:=by
 have hG : ConsOk Tryz.prog (mkG [(10,rW),(11,fun l=> tz (c8 [.st .district,.sl .claim] l)),(12,fun l=> je (c8 [.st .district,.sl .claim] l)),(20,fun l=> oZ (c8 [.sl .order] l))] [(12,ef)]) :=aQ (cgc wB (cgc (yP.norm [.st .district,.sl .claim]) (cgc (lM.norm [.st .district,.sl .claim]) (cgc (tS.norm [.sl .order]) cg0)))) (cgc gC cg0)
 refine ba [.o] mixed aH hG (fn:=Tryz.f5) (c:=aj Tryz.f5) (by kernel_rfl) (by kernel_rfl) (by kernel_rfl) (by kernel_rfl) (bW fun a0=> (dq fun a1=> (Rq fun a2=> (Rr fun a3=> (aO (fun hp=> ?_))))))
 dsimp only [aW] at hp
 unfold d6 at hp
 simp only [List.nil_append,Int.toNat_natCast] at hp
 refine ⟨Nat.le_of_ble_eq_true rfl,(fun id st=> bif Nat.beq id 2000010 then some (JC (⟨[(1,.rs .claim a1),(4,.ptr 0 0),(9,.rs .order ((ae a0 a1).1)),(12,.v (.int .i64 (Int.tmod (IntKind.i64.wrap a2) (a1.length : Int)))),(13,.os 1)],[.cells (cellsOf .district a0),.row .claim (aB a1 a2 a3)]⟩)) else bif Nat.beq id 2000011 then some (JC (⟨[(4,.ptr 0 0),(9,.rs .order ((ae a0 a1).1)),(13,.os 1),(14,.os 3)],[.cells (cellsOf .district a0),.row .claim (aB a1 a2 a3),.dead,.row .claim (aD a1 a2)]⟩)) else bif Nat.beq id 0 then some (LC (ρ:=Unit) (σ:=Unit) (lk 4 st.t= .ptr 0 0∧lk 15 st.t= .os 4∧lk 83 st.t= .ls [.os 1,.os 3]∧lk 84 st.t= .v (.int .i64 2)∧lk 85 st.t= .v (.int .i64 0)∧st.h=[.cells (cellsOf .district a0),.row .claim (aB a1 a2 a3),.dead,.row .claim (aD a1 a2),.mp .acequialaw27Key .int (bn ((ae a0 a1).1)) none]∧okI (a_ a0 a1 a2 a3) (cF a0 a1 a2 a3) 2 0 ()) (ax (a_ a0 a1 a2 a3) 2 0 ()) (fun _=> .ret) (fun x_0_0=> ⟨[(8,.v (.bool false))],[.dead,.dead,.dead,.dead,.dead]⟩) (fun s_0=> ⟨[],[.dead,.dead,.dead,.dead,.dead]⟩)) else none),?_,?_⟩
 ·unfold aj Tryz.f5
  simp only [az,true_and,and_true]
  ·refine Fx mixed aH hG (by kernel_rfl) fun st lc hC hp=> ?_
   simp only [go_sem,Nat.reduceBEq,Option.some.injEq] at hC
   subst hC
   obtain ⟨t,h⟩ :=st
   dsimp only [LC] at hp
   obtain ⟨e0_0,e0_1,e0_2,e0_3,e0_4,rfl,hok0⟩ :=hp
   refine ⟨_,_,_,(a_ a0 a1 a2 a3),(cF a0 a1 a2 a3),2,(),_,_,_,(fun k_0 s_0=> ⟨[(4,.ptr 0 0),(15,.os 4),(83,.ls [.os 1,.os 3]),(84,.v (.int .i64 2)),(85,.v (.int .i64 (k_0 : Int)))],[.cells (cellsOf .district a0),.row .claim (aB a1 a2 a3),.dead,.row .claim (aD a1 a2),.mp .acequialaw27Key .int (bn ((ae a0 a1).1)) none]⟩),⟨t,[.cells (cellsOf .district a0),.row .claim (aB a1 a2 a3),.dead,.row .claim (aD a1 a2),.mp .acequialaw27Key .int (bn ((ae a0 a1).1)) none]⟩,[0,1,2,3,4],rfl,hok0,NilS.refl _,Nat.le_of_ble_eq_true rfl,?_,fun k_0 s_0 hk0 hp0=> ?_⟩
   ·simp only [go_sem,Nat.reduceBEq,Nat.reduceLeDiff,Nat.reduceLT,decide_true,Nat.reduceAdd,Nat.reduceSub,Nat.reduceMul,Int.reduceLE,Int.reduceLT,Int.reduceToNat,Int.reduceNeg,reduceCtorEq,e0_0,e0_1,e0_2,e0_3,e0_4]
    all_goals (first | done | decide | (repeat' (first | refine And.intro ?_ ?_ | rfl | decide)))
   have hkk : k_0=0∨k_0=1∨k_0=2:=by omega
   rcases hkk with rfl | rfl | rfl
   ·refine ⟨(fun id st=> bif Nat.beq id 2 then some (LCR (ρ:=Unit) (σ:=Unit) 5 [] [0,1,2,3,4] (fun k_2 s_2=> ⟨[(4,.ptr 0 0),(15,.os 4),(83,.ls [.os 1,.os 3]),(84,.v (.int .i64 2)),(85,.v (.int .i64 0)),(102,.rs .order ((ae a0 (aB a1 a2 a3)).1)),(103,.v (.int .i64 (((ae a0 (aB a1 a2 a3)).1).length : Int))),(104,.v (.int .i64 (k_2 : Int)))],[.cells (cellsOf .district a0),.row .claim (aB a1 a2 a3),.dead,.row .claim (aD a1 a2),.mp .acequialaw27Key .int (bn ((ae a0 a1).1)) none]⟩) (dS a0 a1 a2 a3) pT (((ae a0 (aB a1 a2 a3)).1).length) () (((ae a0 (aB a1 a2 a3)).1).length≤bt) (fun _=> .ret) (fun x_2_0=> ⟨[(8,.v (.bool false))],[.dead,.dead,.dead,.dead,.dead]⟩) st) else none),?_,?_⟩
    ·simp only [az,true_and,and_true]
     ·refine c9 mixed aH hG (by kernel_rfl) (fun _=> rfl) (((ae a0 (aB a1 a2 a3)).1).length : Int) rfl lr (fun hb2 k_2 s_2 hlt2 _ hw hc=> ⟨L0,aw _,?_⟩) (fun hb2 s_2 hc=> ?_)
      ·exact AS
      ·exact AT
    ·have hw0_0 : IntKind.i64.wrap ((0 : Int) + 1)=((0 + 1 : Nat) : Int) :=by decide
     have hq0:=hp0 (by decide)
     unfold cF at hq0
     try simp only [go_sem,Nat.reduceBEq,Nat.reduceEqDiff,cond_true,cond_false,true_imp_iff,false_imp_iff,Bool.false_eq_true,true_and,and_true,reduceCtorEq] at hq0
     simp only [go_sem,Nat.reduceBEq,Nat.reduceLeDiff,Nat.reduceLT,decide_true,Nat.reduceAdd,Nat.reduceSub,Nat.reduceMul,Int.reduceLE,Int.reduceLT,Int.reduceToNat,Int.reduceNeg,reduceCtorEq,a_,Int.cast_ofNat_Int,Nat.reduceLT,Nat.reduceEqDiff]
     all_goals exact o9
   ·refine ⟨(fun id st=> bif Nat.beq id 2 then some (LCR (ρ:=Unit) (σ:=Unit) 5 [] [0,1,2,3,4] (fun k_1 s_1=> ⟨[(4,.ptr 0 0),(15,.os 4),(83,.ls [.os 1,.os 3]),(84,.v (.int .i64 2)),(85,.v (.int .i64 1)),(102,.rs .order ((ae a0 (aD a1 a2)).1)),(103,.v (.int .i64 (((ae a0 (aD a1 a2)).1).length : Int))),(104,.v (.int .i64 (k_1 : Int)))],[.cells (cellsOf .district a0),.row .claim (aB a1 a2 a3),.dead,.row .claim (aD a1 a2),.mp .acequialaw27Key .int (bn ((ae a0 a1).1)) none]⟩) (dT a0 a1 a2) pT (((ae a0 (aD a1 a2)).1).length) () (((ae a0 (aD a1 a2)).1).length≤bt) (fun _=> .ret) (fun x_1_0=> ⟨[(8,.v (.bool false))],[.dead,.dead,.dead,.dead,.dead]⟩) st) else none),?_,?_⟩
    ·simp only [az,true_and,and_true]
     ·refine c9 mixed aH hG (by kernel_rfl) (fun _=> rfl) (((ae a0 (aD a1 a2)).1).length : Int) rfl lr (fun hb1 k_1 s_1 hlt1 _ hw hc=> ⟨L0,aw _,?_⟩) (fun hb1 s_1 hc=> ?_)
      ·exact AS
      ·exact AT
    ·have hw0_1 : IntKind.i64.wrap ((1 : Int) + 1)=((1 + 1 : Nat) : Int) :=by decide
     have hq0:=hp0 (by decide)
     unfold cF at hq0
     try simp only [go_sem,Nat.reduceBEq,Nat.reduceEqDiff,cond_true,cond_false,true_imp_iff,false_imp_iff,Bool.false_eq_true,true_and,and_true,reduceCtorEq] at hq0
     simp only [go_sem,Nat.reduceBEq,Nat.reduceLeDiff,Nat.reduceLT,decide_true,Nat.reduceAdd,Nat.reduceSub,Nat.reduceMul,Int.reduceLE,Int.reduceLT,Int.reduceToNat,Int.reduceNeg,reduceCtorEq,a_,Int.cast_ofNat_Int,Nat.reduceLT,Nat.reduceEqDiff]
     all_goals exact o9
   ·refine ⟨L0,aw _,?_⟩
    ·simp only [go_sem,Nat.reduceBEq,Nat.reduceLeDiff,Nat.reduceLT,decide_true,Nat.reduceAdd,Nat.reduceSub,Nat.reduceMul,Int.reduceLE,Int.reduceLT,Int.reduceToNat,Int.reduceNeg,reduceCtorEq,Int.cast_ofNat_Int,Nat.reduceLT,Nat.reduceEqDiff]
     all_goals exact o9
 ·unfold aj Tryz.f5
  try unfold dL
  simp only [go_sem,Nat.reduceBEq,Nat.reduceLeDiff,Nat.reduceLT,decide_true,Nat.reduceAdd,Nat.reduceSub,Nat.reduceMul,Int.reduceLE,Int.reduceLT,Int.reduceToNat,Int.reduceNeg,reduceCtorEq]
  all_goals (repeat' (first | with_reducible refine And.intro ?_ ?_ | with_reducible intro _))
  all_goals first
   | exact cl
   | (obtain ⟨_,hp⟩ :=hp;have hp:=hp (by assumption) (by assumption);obtain ⟨_,hp⟩ :=hp;have hp:=hp (by assumption) (by assumption);obtain ⟨_,_,hp⟩ :=hp;have hp:=hp (by assumption);obtain ⟨⟨b1,b2⟩,_,_,_,_,hp⟩ :=hp;have hp:=hp (by simp only [List.length_drop,List.length_take];omega);obtain ⟨_,_,hp⟩ :=hp;exact hp (Vl a1 _ b1 b2 (by assumption)))
end Go.Sx
end
section
namespace Go.Sx
open Go.Proofs
theorem EK {a : Int} {n : Nat} (h : 0≤a) (hn : 0 < n) : 0≤Int.tmod a (n : Int)∧Int.tmod a (n : Int) < (n : Int)∧(Int.tmod a (n : Int)).toNat < n:=by
 rw [Int.tmod_eq_emod_of_nonneg h]
 have h1:=Int.emod_nonneg a (by omega : (n : Int)≠0)
 have h2:=Int.emod_lt_of_pos a (by omega : 0 < (n : Int))
 omega
theorem pt (c : List Claim) (k : Nat) : (c.take k ++ c.drop (k + 1)).Sublist c:=by
 rw [←List.eraseIdx_eq_take_drop_succ];exact List.eraseIdx_sublist c k
theorem F0 (c : List Claim) (k : Nat) : (c.take k ++ c.drop (k + 1)).length≤c.length:=(pt c k).length_le
theorem o_ {p : CertifyPlace} : ∀ {a c : List Claim},a.Sublist c→(∀ x∈c,1≤x.litres∧x.litres≤1073741824)→cI p a≤cI p c
 | _,_,.slnil,_=> Int.le_refl _
 | _,_,.cons x h,hl=> by
  have:=o_ (p:=p) h fun y hy=> hl y (List.mem_cons_of_mem _ hy)
  have:=hl x List.mem_cons_self
  show cI p _≤(if p=oQ x then x.litres else 0) + cI p _
  split <;> omega
 | _,_,.cons₂ x h,hl=> by
  have:=o_ (p:=p) h fun y hy=> hl y (List.mem_cons_of_mem _ hy)
  simp only [cI]
  omega
theorem wE {c : List Claim} (h : ∀ x∈c,1≤x.litres∧x.litres≤1073741824) (p : CertifyPlace) (k : Nat) : cI p (c.take k ++ c.drop (k + 1))≤cI p c:=o_ (pt c k) h
theorem rZ {α : Type} (l : List α) (d : α) {k : Nat} (h : k < l.length) : l.getD k d∈l:=by
 rw [cX l d h];exact List.getElem_mem _
theorem Oq {d : District} {c : List Claim} {k : Nat} {n : Int} (hk : k < c.length) (h : ∀ x∈c,okC d x=true) (h1 : 1≤n) (h2 : n≤(c.getD k default).litres) : ∀ x∈c.set k { right:=(c.getD k default).right,farm:=(c.getD k default).farm,hour:=(c.getD k default).hour,litres:=n,rank:=(c.getD k default).rank},okC d x=true:=by
 intro x hx
 rcases List.mem_or_eq_of_mem_set hx with hx | rfl
 ·exact h x hx
 ·have:=h _ (rZ c default hk)
  unfold okC at this ⊢
  simp only [Bool.and_eq_true,decide_eq_true_eq,beq_iff_eq] at this ⊢
  omega
theorem AU {c : List Claim} {k : Nat} {n : Int} (hk : k < c.length) (h : c.Pairwise pA) : (c.set k { right:=(c.getD k default).right,farm:=(c.getD k default).farm,hour:=(c.getD k default).hour,litres:=n,rank:=(c.getD k default).rank}).Pairwise pA:=by
 rw [List.pairwise_iff_getElem] at h ⊢
 intro i j hi hj hij
 rw [List.length_set] at hi hj
 have:=h i j hi hj hij
 have g : ∀ i (hi : i < c.length),∃ x,(c.set k { right:=(c.getD k default).right,farm:=(c.getD k default).farm,hour:=(c.getD k default).hour,litres:=n,rank:=(c.getD k default).rank})[i]'(by rw [List.length_set];exact hi)=x∧x.right=c[i].right∧x.farm=c[i].farm∧x.hour=c[i].hour∧x.rank=c[i].rank:=fun i hi=> by
  refine ⟨_,rfl,?_⟩
  rw [List.getElem_set]
  by_cases e : k=i
  ·subst e;rw [if_pos rfl,cX c default hk];exact ⟨rfl,rfl,rfl,rfl⟩
  ·rw [if_neg e];exact ⟨rfl,rfl,rfl,rfl⟩
 obtain ⟨x,h1,h2⟩ :=g i hi
 obtain ⟨y,h3,h4⟩ :=g j hj
 rw [h1,h3]
 unfold pA at this ⊢
 rw [h2.1,h2.2.1,h2.2.2.1,h2.2.2.2,h4.1,h4.2.1,h4.2.2.1,h4.2.2.2]
 exact this
theorem yR {c : List Claim} {k : Nat} {n : Int} (hk : k < c.length) (h : n≤(c.getD k default).litres) (p : CertifyPlace) : cI p (c.set k { right:=(c.getD k default).right,farm:=(c.getD k default).farm,hour:=(c.getD k default).hour,litres:=n,rank:=(c.getD k default).rank})≤cI p c:=by
 rw [cX c default hk] at h ⊢
 have e : c=c.take k ++ c[k] :: c.drop (k + 1) :=by rw [←List.drop_eq_getElem_cons hk,List.take_append_drop]
 rw [List.set_eq_take_append_cons_drop,if_pos hk,oR]
 conv=> rhs;rw [e,oR]
 simp only [cI,oQ]
 have : (if p= { hour:=c[k].hour,index:=c[k].farm,outlet:=true} then n else 0)≤(if p= { hour:=c[k].hour,index:=c[k].farm,outlet:=true} then c[k].litres else 0) :=by split <;> omega
 exact Int.add_le_add_left (Int.add_le_add_right this _) _
def xN (a1 : List Claim) (a2 a3 : Int) : List Claim:=((([]) ++ a1).set (Int.toNat (Int.tmod (IntKind.i64.wrap a2) (a1.length : Int))) ({ right:=((([]) ++ a1).getD (Int.toNat (Int.tmod (IntKind.i64.wrap a2) (a1.length : Int))) (default : Claim)).right,farm:=((([]) ++ a1).getD (Int.toNat (Int.tmod (IntKind.i64.wrap a2) (a1.length : Int))) (default : Claim)).farm,hour:=((([]) ++ a1).getD (Int.toNat (Int.tmod (IntKind.i64.wrap a2) (a1.length : Int))) (default : Claim)).hour,litres:=(IntKind.i64.wrap (1 + (Int.tmod (IntKind.i64.wrap a3) (if 1 < (a1.getD (Int.toNat (Int.tmod (IntKind.i64.wrap a2) (a1.length : Int))) (default : Claim)).litres then (a1.getD (Int.toNat (Int.tmod (IntKind.i64.wrap a2) (a1.length : Int))) (default : Claim)).litres else 1)))),rank:=((([]) ++ a1).getD (Int.toNat (Int.tmod (IntKind.i64.wrap a2) (a1.length : Int))) (default : Claim)).rank} : Claim))
def woC (a1 : List Claim) (a2 : Int) : List Claim:=((([]) ++ ((a1.take (Int.toNat (Int.tmod (IntKind.i64.wrap a2) (a1.length : Int)))).drop 0)) ++ ((a1.take (Int.toNat (a1.length : Int))).drop (Int.toNat (IntKind.i64.wrap ((Int.tmod (IntKind.i64.wrap a2) (a1.length : Int)) + 1)))))
section
variable {d : District} {c c' : List Claim} {l : List Order}
theorem wg (hS : Srv d c l) (hc : aZ d c'=0) (hm : ∀ f h,oS c' f h≤oS c f h) :
  (ae d c').2.2=0∧(ae d c').2.1=true∧∀ x∈(ae d c').1,∃ z∈l,K z x∧x.litres≤z.litres:=
 FV ⟨hS.kp,hS.wide,hS.lim,fun f h=> Int.le_trans (hm f h) (hS.met f h)⟩ hc
theorem J5 {a : Int} (h0 : 0≤a) (h1 : a≤65535) (hn : 0 < c.length) : ∃ k : Nat,Int.tmod (IntKind.i64.wrap a) (c.length : Int)=(k : Int)∧k < c.length:=by
 have h:=EK (n:=c.length) h0 hn
 rw [cH (by omega) (by omega)]
 exact ⟨(Int.tmod a (c.length : Int)).toNat,(Int.toNat_of_nonneg h.1).symm,h.2.2⟩
theorem Pm {L : Int} (h : 1≤L) : (if 1 < L then L else 1)=L:=by split <;> omega
theorem Vm {b L : Int} (h0 : 0≤b) (h1 : b≤65535) (hL : 1≤L) (hL2 : L≤1073741824) : 1≤IntKind.i64.wrap (1 + Int.tmod (IntKind.i64.wrap b) L)∧IntKind.i64.wrap (1 + Int.tmod (IntKind.i64.wrap b) L)≤L:=by
 obtain ⟨n,rfl⟩ :=Int.eq_ofNat_of_zero_le (a:=L) (by omega)
 have h:=EK (n:=n) h0 (by omega)
 rw [cH (n:=b) (by omega) (by omega),cH (by omega) (by omega)]
 omega
theorem EL {a b : Int} {k : Nat} (hk : Int.tmod (IntKind.i64.wrap a) (c.length : Int)=(k : Int)) (hL : 1≤(c.getD k default).litres) : xN c a b=c.set k { right:=(c.getD k default).right,farm:=(c.getD k default).farm,hour:=(c.getD k default).hour,litres:=IntKind.i64.wrap (1 + Int.tmod (IntKind.i64.wrap b) (c.getD k default).litres),rank:=(c.getD k default).rank} :=by
 unfold xN
 simp only [hk,Int.toNat_natCast,List.nil_append]
 rw [Pm hL]
theorem Pn {a : Int} {k : Nat} (hk : Int.tmod (IntKind.i64.wrap a) (c.length : Int)=(k : Int)) (hkl : k < 100000) : woC c a=c.take k ++ c.drop (k + 1) :=by
 unfold woC
 rw [hk,cH (by omega) (by omega)]
 simp only [Int.toNat_natCast,List.nil_append,List.drop_zero,List.take_length]
 rw [show ((k : Int) + 1).toNat=k + 1 by omega]
theorem F4 (h : aZ d c=0) (k : Nat) : aZ d (c.take k ++ c.drop (k + 1))=0:=by
 obtain ⟨h1,h2,h3,h4⟩ :=(eF d c).1 h
 exact (eF d _).2 ⟨h1,Nat.le_trans (F0 c k) h2,fun a ha=> h3 a ((pt c k).subset ha),h4.sublist (pt c k)⟩
theorem J6 (h : aZ d c=0) {k : Nat} (hk : k < c.length) {n : Int} (h1 : 1≤n) (h2 : n≤(c.getD k default).litres) : aZ d (c.set k { right:=(c.getD k default).right,farm:=(c.getD k default).farm,hour:=(c.getD k default).hour,litres:=n,rank:=(c.getD k default).rank})=0:=by
 obtain ⟨q1,q2,q3,q4⟩ :=(eF d c).1 h
 exact (eF d _).2 ⟨q1,by rw [List.length_set];exact q2,Oq hk q3 h1 h2,AU hk q4⟩
theorem J7 (h : (((ae d c).2.2 !=0) || (!(ae d c).2.1))=false) : Made d c (ae d c).1:=by
 simp only [Bool.or_eq_false_iff,bne_eq_false_iff_eq,Bool.not_eq_false'] at h
 exact JL d c h.1 h.2
theorem F6 (d : District) (c : List Claim) (a b : Int) (ha : 0≤a∧a≤255) (hb : 0≤b∧b≤65535) : d6 d c a b:=by
 refine ⟨J4,fun _ hf=> ⟨pr d c,fun hm _=> ?_⟩⟩
 have hM:=J7 hm
 obtain ⟨_,q2,q3,_⟩ :=(eF d c).1 hM.ask.chk
 have hn : 0 < c.length:=by
  simp only [Bool.or_eq_false_iff,beq_eq_false_iff_ne] at hf
  have:=hf.2
  omega
 obtain ⟨k,hk,hkl⟩ :=J5 (c:=c) ha.1 (by omega) hn
 have hL:=qC (q3 _ (rZ c default hkl))
 rw [hk]
 simp only [Int.toNat_natCast]
 rw [Pm hL.1,cH (n:=(k : Int) + 1) (by omega) (by omega)]
 refine ⟨by omega,by unfold eK;simp;omega,fun _=> ⟨⟨by omega,by omega⟩,by omega,⟨by omega,by simp;omega⟩,⟨by omega,by omega,by omega⟩,by unfold eK;simp;omega,fun _=> ⟨⟨by omega,by omega,by omega⟩,by unfold eK;simp;omega,fun _=> mU _ _ _ fun _ _ _ _=> ⟨fun _=> pr _ _,fun _=> pr _ _⟩⟩⟩⟩
theorem EM (hg : Good d l) {m : List Order} (hd : ∀ x∈m,∃ z∈l,K z x∧x.litres≤z.litres) {step : Nat→Unit→Unit⊕Unit}
  (hs : ∀ j,step j ()=bif decide ((ay .acequialaw27Key .int (bn l) (we (m.getD j (default : Order)).outlet (m.getD j (default : Order)).index (m.getD j (default : Order)).hour)) < (m.getD j (default : Order)).litres) then .inl () else .inr ()) : ax step m.length 0 ()= .inr () :=vt.2 fun j hj=> by
 rw [hs]
 have hx:=rZ m (default : Order) hj
 generalize m.getD j (default : Order)=x at hx ⊢
 obtain ⟨z,hz,hk,hle⟩ :=hd x hx
 have e3:=Cg hg.orders x.outlet x.index x.hour
 have e4 : bM (jb x.hour x.index x.outlet) l=z.litres:=jK hg.keys (fun a b h1 h2=> by
  unfold jb at h1 h2
  simp only [Bool.and_eq_true,beq_iff_eq] at h1 h2
  exact ⟨by rw [h1.1.1,h2.1.1],by rw [h1.1.2,h2.1.2],by rw [h1.2,h2.2]⟩) hz (by
  unfold jb
  rw [hk.1,hk.2.1,hk.2.2];simp)
 rw [e3,e4,decide_eq_false (p:=z.litres < x.litres) (by omega),cond_false]
theorem F7 (d : District) (c : List Claim) (a b : Int) (ha : 0≤a∧a≤255) (hb : 0≤b∧b≤65535) : dL d c a b=true:=by
 unfold dL
 rw [J1]
 simp only [Bool.not_true,cond_false]
 cases hf : ((!(mI d c)) || ((c.length : Int) ==0)) with
 | true=> rfl
 | false=>
  rw [cond_false]
  cases hm : (((ae d c).2.2 !=0) || (!(ae d c).2.1)) with
  | true=> rfl
  | false=>
   rw [cond_false]
   have hM:=J7 hm
   have hS:=JN hM
   have hg:=hS.kp.good
   obtain ⟨_,q2,q3,_⟩ :=(eF d c).1 hM.ask.chk
   have hlit : ∀ x∈c,1≤x.litres∧x.litres≤1073741824:=fun x hx=> qC (q3 x hx)
   have hn : 0 < c.length:=by
    simp only [Bool.or_eq_false_iff,beq_eq_false_iff_ne] at hf
    have:=hf.2
    omega
   obtain ⟨k,hk,hkl⟩ :=J5 (c:=c) ha.1 (by omega) hn
   have hL:=hlit _ (rZ c default hkl)
   have hn2:=Vm hb.1 hb.2 hL.1 hL.2
   obtain ⟨e1,e2,hd1⟩ :=wg (c':=xN c a b) hS (by rw [EL hk hL.1];exact J6 hM.ask.chk hkl hn2.1 hn2.2) (fun f h=> by
    rw [EL hk hL.1];exact yR hkl hn2.2 _)
   obtain ⟨e3,e4,hd2⟩ :=wg (c':=woC c a) hS (by rw [Pn hk (by omega)];exact F4 hM.ask.chk k) (fun f h=> by
    rw [Pn hk (by omega)];exact wE hlit _ k)
   have s0 : a_ d c a b 0 ()= .inr () :=by
    have : a_ d c a b 0 ()=(bif (((ae d (xN c a b)).2.2 !=0) || (!(ae d (xN c a b)).2.1)) then .inl () else (match ax (dS d c a b) ((ae d (xN c a b)).1.length) 0 () with | .inl x_2_0=> .inl () | .inr s_2=> .inr ())) :=rfl
    rw [this,e1,e2,EM hg hd1 (step:=dS d c a b) (fun j=> rfl)]
    rfl
   have s1 : a_ d c a b 1 ()= .inr () :=by
    have : a_ d c a b 1 ()=(bif (((ae d (woC c a)).2.2 !=0) || (!(ae d (woC c a)).2.1)) then .inl () else (match ax (dT d c a) ((ae d (woC c a)).1.length) 0 () with | .inl x_2_0=> .inl () | .inr s_2=> .inr ())) :=rfl
    rw [this,e3,e4,EM hg hd2 (step:=dT d c a) (fun j=> rfl)]
    rfl
   simp only [ax,s0,s1]
end
end Go.Sx
end
section
namespace Go.Sx
open Go.RowKit Go.Deep
section
variable {F : Nat→Prop} {own : Own} {w : World}
def RC (F : Nat→Prop) (own : Own) (w : World) (ks : List Kd) (cs : List Value) : Prop:=
 ∃ l : List SV,lZ ks l=true∧l.length=cs.length∧∀ (j : Nat) (s : SV) (v : Value),l[j]? =some s→cs[j]? =some v→Rel F own w s v
theorem AV : ∀ {a b : List Kd} {l m : List SV},lZ a l=true→lZ b m=true→lZ (a ++ b) (l ++ m)=true
 | [],b,l,m,h1,h2=> by rw [mj h1];exact h2
 | k :: a,b,l,m,h1,h2=> by
  obtain ⟨x,r,rfl,e1,e2⟩ :=iV h1
  simp only [List.cons_append,lZ,e1,AV e2 h2,Bool.and_self]
theorem RC.nil : RC F own w [] [] :=⟨[],rfl,rfl,fun j s v h=> by cases h⟩
theorem RC.app {a b : List Kd} {c d : List Value} (h1 : RC F own w a c) (h2 : RC F own w b d) : RC F own w (a ++ b) (c ++ d) :=by
 obtain ⟨l,f1,n1,r1⟩ :=h1
 obtain ⟨m,f2,n2,r2⟩ :=h2
 refine ⟨l ++ m,AV f1 f2,by simp [n1,n2],fun j s v hs hv=> ?_⟩
 by_cases hj : j < l.length
 ·rw [List.getElem?_append_left hj] at hs
  rw [List.getElem?_append_left (by omega)] at hv
  exact r1 j s v hs hv
 ·rw [List.getElem?_append_right (by omega)] at hs
  rw [List.getElem?_append_right (by omega),←n1] at hv
  exact r2 _ s v hs hv
theorem RC.one {k : Kd} {s : SV} {v : Value} (h1 : fit k s=true) (h2 : Rel F own w s v) : RC F own w [k] [v] :=
 ⟨[s],by simp [lZ,h1],rfl,fun j s' v' hs hv=> by
  cases j with
  | zero=> simp only [List.getElem?_cons_zero,Option.some.injEq] at hs hv;subst hs;subst hv;exact h2
  | succ j=> simp at hs⟩
end
def Rt : Kd→Kd→Bool
 | .s,.s=> true
 | .b,.b=> true
 | .n a,.n b=> decide (a=b)
 | .r a,.r b=> decide (a=b)
 | .m a c,.m b d=> decide (a=b) && decide (c=d)
 | _,_=> false
theorem Ot : ∀ {a b : Kd},Rt a b=true→a=b:=by
 intro a b h
 cases a <;> cases b <;> simp_all [Rt]
def J8 : List Kd→List Kd→Bool
 | [],[] => true
 | a :: l,b :: m=> Rt a b && J8 l m
 | _,_=> false
theorem EN : ∀ {a b : List Kd},J8 a b=true→a=b
 | [],[],_=> rfl
 | a :: l,b :: m,h=> by
  simp only [J8,Bool.and_eq_true] at h
  rw [Ot h.1,EN h.2]
def wh (P : Program) (g : TypeId→Option (List Kd)) : List Field→Nat→Nat→Option (List Kd)
 | [],off,tot=> bif Nat.beq off tot then some [] else none
 | f :: r,off,tot=> match g f.type with
  | some a=> bif Nat.beq f.offset off && Nat.beq a.length (P.cellsOf f.type) then (wh P g r (off + a.length) tot).map (a ++ ·) else none
  | none=> none
def Ci (a : List Kd) : Nat→List Kd
 | 0=> []
 | n + 1=> a ++ Ci a n
def wi (P : Program) : Nat→TypeId→Option (List Kd)
 | 0,_=> none
 | n + 1,t=> match P.underlying t with
  | some .bool=> some [.b]
  | some (.int k) => some [.n k]
  | some .string=> some [.s]
  | some (.slice e) => match yZ P e,wi P n e with
   | some k,some ks=> bif J8 ks (cn k) && Nat.beq (P.cellsOf e) (aa k) && Nat.ble 1 (aa k) then some [.r k] else none
   | _,_=> none
  | some (.struct fs) => wh P (wi P n) fs.toList 0 (P.cellsOf t)
  | some (.array m e) => match wi P n e with
   | some a=> bif Nat.beq a.length (P.cellsOf e) && Nat.beq (P.cellsOf t) (m * a.length) then some (Ci a m) else none
   | none=> none
  | _=> none
section
variable {H : Type} {enc : TypeId×Value→H} {P : Program} {F : Nat→Prop} {own : Own} {w : World} {base : Nat} {spare : Nat→Bool} {held : Bool} {S : DataW H→Prop}
theorem EO {g : TypeId→Option (List Kd)} (hg : ∀ t ks,g t=some ks→∀ (fuel : Nat) (cs : List Value) (x : DataW H×List MemPlace),DataW.trod enc P w base spare held fuel t cs=some x→S x.1→RC F own w ks cs)
  (fuel : Nat) (cs : List Value) : ∀ (fs : List Field) (off : Nat) (ks : List Kd),wh P g fs off cs.length=some ks→(∀ f∈fs,∃ x,DataW.trod enc P w base spare held fuel f.type ((cs.drop f.offset).take (P.cellsOf f.type))=some x∧S x.1)→RC F own w ks (cs.drop off)
 | [],off,ks,h,_=> by
  unfold wh at h
  cases hb : Nat.beq off cs.length with
  | false=> rw [hb] at h;cases h
  | true=>
   rw [hb] at h
   have : off=cs.length:=Nat.eq_of_beq_eq_true hb
   subst this
   cases h
   rw [List.drop_length]
   exact RC.nil
 | f :: r,off,ks,h,hx=> by
  unfold wh at h
  cases ha : g f.type with
  | none=> rw [ha] at h;cases h
  | some a=>
   rw [ha] at h
   dsimp only at h
   cases hb : Nat.beq f.offset off && Nat.beq a.length (P.cellsOf f.type) with
   | false=> rw [hb] at h;cases h
   | true=>
    rw [hb] at h
    simp only [cond_true,Option.map_eq_some_iff] at h
    obtain ⟨ks2,h2,rfl⟩ :=h
    rw [Bool.and_eq_true] at hb
    have e1 : f.offset=off:=Nat.eq_of_beq_eq_true hb.1
    have e2 : a.length=P.cellsOf f.type:=Nat.eq_of_beq_eq_true hb.2
    obtain ⟨x,hx1,hs1⟩ :=hx f (by simp)
    have h3:=hg _ _ ha _ _ _ hx1 hs1
    have h4:=EO hg fuel cs r (off + a.length) ks2 h2 fun f hf=> hx f (by simp [hf])
    have:=h3.app h4
    rw [e1,←e2] at this
    rwa [←List.drop_drop,List.take_append_drop] at this
theorem EP {e : TypeId} {a : List Kd} (ha : ∀ (fuel : Nat) (cs : List Value) (x : DataW H×List MemPlace),DataW.trod enc P w base spare held fuel e cs=some x→S x.1→RC F own w a cs)
  (fuel : Nat) : ∀ (m : Nat) (cs : List Value),cs.length=m * a.length→(∀ i,i < m→∃ x,DataW.trod enc P w base spare held fuel e ((cs.drop (i * a.length)).take a.length)=some x∧S x.1)→RC F own w (Ci a m) cs
 | 0,cs,h,_=> by
  have : cs=[] :=by simpa using h
  subst this
  exact RC.nil
 | m + 1,cs,h,hx=> by
  obtain ⟨x,hx1,hs1⟩ :=hx 0 (by omega)
  rw [Nat.zero_mul,List.drop_zero] at hx1
  have h3:=ha _ _ _ hx1 hs1
  have h4:=EP ha fuel m (cs.drop a.length) (by rw [List.length_drop,h,Nat.succ_mul];omega) fun i hi=> by
   obtain ⟨x,hx2,hs2⟩ :=hx (i + 1) (by omega)
   refine ⟨x,?_,hs2⟩
   rw [List.drop_drop]
   rwa [Nat.succ_mul,Nat.add_comm] at hx2
  have:=h3.app h4
  rwa [List.take_append_drop] at this
structure Small (S : DataW H→Prop) : Prop where
 agg : ∀ l,S (.agg l)→∀ d∈l,S d
 slice : ∀ l m,S (.slice l m)→l.length≤bt∧∀ d∈l,S d
theorem ln (hS : Small S) (hown : ∀ b,¬ bD F own b) : ∀ (n : Nat) (t : TypeId) (ks : List Kd),wi P n t=some ks→∀ (fuel : Nat) (cs : List Value) (x : DataW H×List MemPlace),DataW.trod enc P w base spare held fuel t cs=some x→S x.1→RC F own w ks cs
 | 0,_,_,h,_,_,_,_,_=> by cases h
 | n + 1,t,ks,h,fuel,cs,x,hx,hs=> by
  unfold wi at h
  split at h
  ·rename_i ht
   cases h
   obtain ⟨b,rfl,rfl⟩ :=DataW.trod_bool ht hx
   exact RC.one (s:= .v (.bool b)) rfl (.v _)
  ·rename_i k ht
   cases h
   obtain ⟨m,rfl,rfl,_⟩ :=DataW.trod_int ht hx
   exact RC.one (s:= .v (.int k m)) (by simp [fit]) (.v _)
  ·rename_i ht
   cases h
   obtain ⟨b,rfl,rfl,_⟩ :=DataW.trod_string ht hx
   exact RC.one (s:= .v (.string b)) rfl (.v _)
  ·rename_i e ht
   split at h
   ·rename_i k ks2 hk hks
    cases hb : J8 ks2 (cn k) && Nat.beq (P.cellsOf e) (aa k) && Nat.ble 1 (aa k) with
    | false=> rw [hb] at h;cases h
    | true=>
     rw [hb] at h
     cases h
     simp only [Bool.and_eq_true] at hb
     have e1:=EN hb.1.1
     have e2 : P.cellsOf e=aa k:=Nat.eq_of_beq_eq_true hb.1.2
     have e3 : 1≤aa k:=Nat.le_of_ble_eq_true hb.2
     subst e1
     rcases open_slice ht hx with ⟨rfl,rfl⟩ | ⟨a,len,cap,m,f2,D,Pl,rfl,hb1,hl,hm,hmm,rfl,hel⟩
     ·exact RC.one (s:= .rs k []) (by simp [fit]) .rs0
     ·have hlm : len≤m:=by subst hmm;split <;> omega
      obtain ⟨hs1,hs2⟩ :=hS.slice _ _ hs
      simp only [List.length_map,List.length_range] at hs1
      have helt : ∀ i,i < len→∃ cs',cs'.length=aa k∧(∀ j v,cs'[j]? =some v→w.cell? ((a.add (i * aa k)).add j)=some v)∧RC F own w (cn k) cs':=fun i hi=> by
       obtain ⟨cs',h1,h2⟩ :=hel i (by omega)
       have h3:=ln hS hown n e (cn k) hks f2 cs' _ h2 (hs2 _ (List.mem_map_of_mem (List.mem_range.2 hi)))
       unfold World.cells? at h1
       split at h1
       ·refine ⟨cs',by rw [mapM_some_length h1,List.length_range,e2],fun j v hj=> ?_,h3⟩
        have hlt : j < P.cellsOf e:=by
         have:=(List.getElem?_eq_some_iff.1 hj).1
         rwa [mapM_some_length h1,List.length_range] at this
        have:=mapM_some_get h1 j j (by simp [hlt])
        rw [e2] at this
        rw [this,hj]
       ·cases h1
      by_cases h0 : len=0
      ·subst h0
       exact RC.one (s:= .rs k []) (by simp [fit]) .rs0
      ·have hsp : a.spot=none:=by
        obtain ⟨cs',h1,h2,_⟩ :=helt 0 (by omega)
        have:=h2 0 (cs'[0]'(by omega)) (by rw [List.getElem?_eq_getElem])
        rw [Nat.zero_mul] at this
        simp only [Addr.add,if_true] at this
        unfold World.cell? at this
        split at this
        ·cases hsp : a.spot with
         | none=> rfl
         | some q=> rw [hsp] at this;simp at this
        ·cases this
       obtain ⟨ab,ao,asp⟩ :=a
       dsimp only at hsp
       subst hsp
       haveI : Inhabited k.T:=⟨c7 k⟩
       obtain ⟨X,hX⟩ :=choose_lt (p:=fun i (x : k.T) => ∀ (j : Nat) (s : SV),(cellsOf k x)[j]? =some s→∃ v,w.cell? ⟨ab,ao + i * aa k + j,none⟩=some v∧Rel F own w s v) (n:=len) fun i hi=> by
        obtain ⟨cs',h1,h2,l,h3,h4,h5⟩ :=helt i hi
        refine ⟨mkE k l,fun j s hj=> ?_⟩
        rw [jE (k:=k) (l:=l) (x:=mkE k l) (by unfold l7;rw [h3];rfl)] at hj
        have hlt : j < cs'.length:=by
         have:=(List.getElem?_eq_some_iff.1 hj).1
         omega
        refine ⟨cs'[j],?_,h5 j s _ hj (List.getElem?_eq_getElem hlt)⟩
        have:=h2 j cs'[j] (List.getElem?_eq_getElem hlt)
        have hadd : ∀ p q,((⟨ab,ao,none⟩ : Addr).add p).add q=⟨ab,ao + p + q,none⟩ :=fun p q=> by
         unfold Addr.add
         by_cases hp : p=0 <;> by_cases hq : q=0 <;> simp [hp,hq]
        rwa [hadd] at this
       have hL : ((List.range len).map X).length=len:=by simp
       refine RC.one (s:= .rs k ((List.range len).map X)) (by simp [fit]) ?_
       have hget : ∀ (i : Nat) (x : k.T),((List.range len).map X)[i]? =some x→i < len∧x=X i:=fun i x hi=> by
        obtain ⟨h1,h2⟩ :=List.getElem?_eq_some_iff.1 hi
        rw [hL] at h1
        simp only [List.getElem_map,List.getElem_range] at h2
        subst h2
        exact ⟨h1,rfl⟩
       have:=Rel.rs (F:=F) (own:=own) (w:=w) (k:=k) (l:=(List.range len).map X) (b:=ab) (o:=ao) (cap:=cap) (fun i j=> (w.cell? ⟨ab,ao + i * aa k + j,none⟩).getD undef) (by rw [hL];exact hl) (by rw [hL];exact hs1)
        (fun i x hi j s hj=> by
         obtain ⟨h1,rfl⟩ :=hget i x hi
         obtain ⟨v,h2,_⟩ :=hX i h1 j s hj
         exact ⟨hown _,by rw [h2];rfl⟩)
        (fun i x hi j s hj=> by
         obtain ⟨h1,rfl⟩ :=hget i x hi
         obtain ⟨v,h2,h3⟩ :=hX i h1 j s hj
         rw [h2];exact h3)
       rwa [hL] at this
   ·cases h
  ·rename_i fs ht
   obtain ⟨xs,m,rfl,rfl,hl,hlen,hf⟩ :=DataW.trod_struct ht hx
   rw [←hl] at h
   have:=EO (ln hS hown n) m cs fs.toList 0 ks h fun f hfm=> by
    obtain ⟨i,hi,rfl⟩ :=List.getElem_of_mem hfm
    have hi' : i < fs.size:=by simpa using hi
    have h1:=hf i fs[i] (by simp [hi'])
    rw [List.getElem?_eq_getElem (by omega)] at h1
    refine ⟨_,by simpa using h1,hS.agg _ hs _ (List.mem_map_of_mem (List.getElem_mem _))⟩
   simpa using this
  ·rename_i m e ht
   split at h
   ·rename_i a ha
    cases hb : Nat.beq a.length (P.cellsOf e) && Nat.beq (P.cellsOf t) (m * a.length) with
    | false=> rw [hb] at h;cases h
    | true=>
     rw [hb] at h
     cases h
     rw [Bool.and_eq_true] at hb
     have e1 : a.length=P.cellsOf e:=Nat.eq_of_beq_eq_true hb.1
     have e2 : P.cellsOf t=m * a.length:=Nat.eq_of_beq_eq_true hb.2
     obtain ⟨xs,f2,rfl,rfl,hl,hlen,hf⟩ :=DataW.trod_array ht hx
     refine EP (ln hS hown n e a ha) f2 m cs (by rw [hl,e2]) fun i hi=> ?_
     have h1:=hf i hi
     rw [List.getElem?_eq_getElem (by omega),←e1] at h1
     exact ⟨_,h1,hS.agg _ hs _ (List.mem_map_of_mem (List.getElem_mem _))⟩
   ·cases h
  ·cases h
end
end Go.Sx
end
section
namespace Go.Sx
open Go.Proofs
section
variable {F : Nat→Prop} {own : Own} {w : World}
theorem Ou {k : Tag} {cs : Array Value} (h : RC F own w (cn k) cs.toList) : ∃ x : k.T,Rel F own w (.agg (cellsOf k x)) (.agg cs) :=by
 obtain ⟨l,h3,h4,h5⟩ :=h
 refine ⟨mkE k l,?_⟩
 rw [jE (k:=k) (l:=l) (x:=mkE k l) (by unfold l7;rw [h3];rfl)]
 refine .agg (by simpa using h4.symm) fun j s hj=> ?_
 have hlt : j < cs.size:=by
  have:=(List.getElem?_eq_some_iff.1 hj).1
  simpa [h4] using this
 exact h5 j s _ hj (by simp [Array.getD,hlt])
theorem Ru {k : Tag} {v : Value} (h : RC F own w [.r k] [v]) : ∃ l : List k.T,Rel F own w (.rs k l) v:=by
 obtain ⟨l,h3,h4,h5⟩ :=h
 obtain ⟨x,r,rfl,h6,h7⟩ :=iV h3
 have h8:=h5 0 x v rfl rfl
 cases x with
 | rs k' l'=>
  have : k=k':=by
   simp only [fit] at h6
   exact nV h6
  subst this
  exact ⟨l',h8⟩
 | _=> simp [fit] at h6
end
end Go.Sx
end
section
namespace Go.Sx
open Go.RowKit Go.WideShapes Go.ChangeShapes
section
variable {H : Type} {enc : TypeId×Value→H} {P : Program}
def Ov (P : Program) : List TypeId→Bool
 | [] => true
 | t :: r=> P.readableRec t && Nat.blt t P.types.size && Ov P r
theorem xO (hl : laidOutB P=true) {W W' : World} (hg : Below W.heap.size W W') : ∀ {ts : List TypeId} {vs : List Value} {ds : List (DataW H)} {ps : List MemPlace},Ov P ts=true→
  DataW.TrodAll enc P W 0 (fun _=> true) true ts vs ds ps→(∀ x∈ps,x.block < W.heap.size)→DataW.TrodAll enc P W' 0 (fun b=> decide (b < W.heap.size)) true ts vs ds ps
 | [],vs,ds,ps,_,h,_=> by
  obtain ⟨rfl,rfl,rfl⟩ :=trodAll_nil h
  exact trodAll_mk0
 | t :: ts,vs,ds,ps,hk,h,hlt=> by
  unfold Ov at hk
  rw [Bool.and_eq_true,Bool.and_eq_true] at hk
  obtain ⟨v,vs',d,ds',p,q,rfl,rfl,rfl,h1,h2⟩ :=trodAll_cons h
  refine trodAll_cons_mk (WideElems.Trod_stays hl hk.1.1 (by simpa [Nat.blt_eq] using hk.1.2) h1 (fun x hx=> hg.same (hlt x (List.mem_append_left _ hx))) (fun x hx=> by simpa using hlt x (List.mem_append_left _ hx))) ?_
  exact xO hl hg hk.2 h2 fun x hx=> hlt x (List.mem_append_right _ hx)
theorem J9 (hl : laidOutB P=true) {f : Func} {s : ChangeSpec} {W W' : World} {args : Array Value} {ds gs : List (DataW H)} {before : List MemPlace} {t : TypeId}
  (hk : Ov P f.params.toList=true) (hW : DataW.Whole enc P f.params.toList s.vars false W args.toList ds gs before)
  (hr : f.resultTypes= #[t]) (ht : P.underlying t=some .bool) (hv : s.vars=[]) (h1 : (s.fn H (ds ++ gs)).results=[.lit (.bool true)]) (h2 : (s.fn H (ds ++ gs)).args=ds) (h3 : (s.fn H (ds ++ gs)).vars=[])
  (hg : Below W.heap.size W W') : s.post enc P f false true false false W args (.bool true) W':=by
 have hlt:=hW.lt
 have hW0:=hW
 obtain ⟨p,q,hA,hV,rfl,_,_⟩ :=hW
 rw [hv] at hV
 obtain ⟨rfl,rfl⟩ :=trodVars_none hV
 refine ⟨ds,[],p ++ [],[],p,[],hW0,?_,?_,?_,?_,fun h=> by cases h⟩
 ·rw [h1,hr]
  exact trodAll_cons_mk (shut_bool ht _) trodAll_mk0
 ·rw [h2]
  exact xO hl hg hk hA fun x hx=> hlt x (by simpa using hx)
 ·rw [h3,hv]
  rfl
 ·exact World.keptBut_mono (fun x hx=> ⟨hx,.inr (.inl (by simpa using hx))⟩) (hg.frame (· ∈p ++ []))
end
end Go.Sx
end
section
namespace Go.Proofs.YtagjakphhkfofaaGreat.bulks
theorem one_le {H : Type} (d : DataW H) : 1≤Rows.uptoBulk d:=by
 cases d with
 | lit l=> cases l <;> simp [Rows.uptoBulk]
 | nil=> simp [Rows.uptoBulk]
 | ptr d=> simp [Rows.uptoBulk]
 | slice j4 spare=> simp [Rows.uptoBulk]
 | agg parts=> simp [Rows.uptoBulk]
 | iface t d=> simp [Rows.uptoBulk]
 | map entries=> simp [Rows.uptoBulk]
 | held h=> simp [Rows.uptoBulk]
theorem part_le {H : Type} {d : DataW H} {l : List (DataW H)} (h : d∈l) : Rows.uptoBulk d≤Rows.uptoBulkAll l:=by
 induction l with
 | nil=> cases h
 | cons x r ih=>
  simp only [Rows.uptoBulkAll]
  cases List.mem_cons.1 h with
  | inl e=> subst e;omega
  | inr e=> have:=ih e;omega
theorem append {H : Type} (l r : List (DataW H)) : Rows.uptoBulkAll (l ++ r)=Rows.uptoBulkAll l + Rows.uptoBulkAll r:=by
 induction l with
 | nil=> simp [Rows.uptoBulkAll]
 | cons x l ih=> simp only [List.cons_append,Rows.uptoBulkAll,ih];omega
theorem length_le {H : Type} (l : List (DataW H)) : l.length≤Rows.uptoBulkAll l:=by
 induction l with
 | nil=> simp [Rows.uptoBulkAll]
 | cons x r ih=> have:=one_le x;simp only [Rows.uptoBulkAll,List.length_cons];omega
theorem slice_le {H : Type} (j4 spare : List (DataW H)) : j4.length + spare.length + 1≤Rows.uptoBulk (.slice j4 spare) :=by
 have h1:=length_le j4
 have h2:=length_le spare
 simp only [Rows.uptoBulk]
 omega
theorem slice_elems {H : Type} (j4 spare : List (DataW H)) : Rows.uptoBulkAll j4 + 1≤Rows.uptoBulk (.slice j4 spare) :=by
 simp only [Rows.uptoBulk]
 omega
theorem bound {H : Type} {l : List (DataW H)} (hk : Rows.uptoSmall H l=true) : Rows.uptoBulkAll l≤1048576:=by
 simpa [Rows.uptoSmall] using hk
theorem room {n b : Nat} (hn : n≤2097152) (hb : b≤4096) : (n + n / 4 + 192) * b≤281474976710656:=by
 have h : (n + n / 4 + 192) * b≤2621632 * 4096:=Nat.mul_le_mul (by omega) hb
 omega
end Go.Proofs.YtagjakphhkfofaaGreat.bulks
end
section
namespace Go.Proofs.YtagjakphhkfofaaGreat.timetableFewer
open Go.ChangeShapes Go.WideShapes Go.ChangeAt Go.RowKit Go.Sx
set_option linter.unusedVariables false
theorem con_eq (x0 : Tag.district.T) (x1 : List Tag.claim.T) (x2 : Int) (x3 : Int) : fh [.agg (cellsOf .district x0),.rs .claim x1,.v (.int .u8 x2),.v (.int .u16 x3)]=some (.det (d6 x0 x1 x2 x3) (.v (.bool (dL x0 x1 x2 x3)))) :=by
 unfold fh
 simp only [go_sem,Nat.reduceBEq]
theorem call_true {W : World} {cs0 : Array Value} (h0 : RC (fun _=> False) bZ W (cn .district) cs0.toList) {v1 : Value} (h1 : RC (fun _=> False) bZ W [.r .claim] [v1]) (x2 : Int) (h2 : 0≤x2∧x2≤255) (x3 : Int) (h3 : 0≤x3∧x3≤65535) :
  Calls Tryz.prog 5 #[.agg cs0,v1,.int .u8 x2,.int .u16 x3] W (fun e W'=> e= .returned (.bool true)∧Below W.heap.size W W') :=by
 obtain ⟨x0,r0⟩ :=Ou h0
 obtain ⟨x1,r1⟩ :=Ru h1
 refine (mJ.calls _ _ (con_eq x0 x1 x2 x3) (F6 x0 x1 x2 x3 h2 h3) (fun _=> False) W _ (fun b h=> h.elim) ⟨rfl,fun j s hj=> ?_⟩).mono fun e W' he=> ?_
 ·match j,hj with
  | 0,hj=> cases hj;exact r0
  | 1,hj=> cases hj;exact r1
  | 2,hj=> cases hj;exact .v _
  | 3,hj=> cases hj;exact .v _
 ·rcases he with ⟨s,u,own',hs,rfl,hh,hb⟩ | ⟨x,hx,_⟩
  ·simp only [co] at hs
   subst hs
   rw [F7 x0 x1 x2 x3 h2 h3] at hh
   have:=hh.val
   simp only [n_] at this
   rw [bH this]
   exact ⟨rfl,hb⟩
  ·exact hx.elim
theorem own : ownKnob Tryz.prog.godebug=none:=by kernel_rfl
theorem small (H : Type) : Small (fun d : DataW H=> Rows.uptoBulk d≤1048576) where
 agg l h d hd:=by
  have h1:=bulks.part_le hd
  simp only [Rows.uptoBulk] at h
  omega
 slice l m h:=by
  have h1:=bulks.slice_le l m
  have h2:=bulks.slice_elems l m
  refine ⟨by unfold bt;omega,fun d hd=> ?_⟩
  have:=bulks.part_le hd
  omega
theorem laid : laidOutB Tryz.prog=true:=by kernel_rfl
set_option maxRecDepth 100000 in
theorem contract (H : Type) (enc : TypeId×Value→H) (W : World) (base : Nat) (args : Array Value) (ds gs : List (DataW H)) (before : List MemPlace)
  (hval : ∀ (j : Nat) t v,Tryz.f5.params[j]? =some t→args[j]? =some v→Value.okWide Tryz.prog W .any base t v)
  (hW : DataW.Whole enc Tryz.prog Tryz.f5.params.toList Rows.timetableFewerSpec.vars false W args.toList ds gs before) (hk : Rows.uptoSmall H (ds ++ gs)=true) :
  Calls Tryz.prog 5 args W fun e W'=> ∃ v,e= .returned v∧Rows.timetableFewerSpec.post enc Tryz.prog Tryz.f5 false true false false W args v W':=by
 have hW':=hW
 obtain ⟨p,q,hA0,hV,rfl,hfz,hnd⟩ :=hW
 have hA : DataW.TrodAll enc Tryz.prog W 0 (fun _=> true) true Tryz.f5.params.toList args.toList ds p:=hA0
 rw [Tryz.params5] at hA hval
 obtain ⟨v0,vs0,d0,ds0,p0,q0,hargs,rfl,rfl,h0,r0⟩ :=trodAll_cons hA
 obtain ⟨v1,vs1,d1,ds1,p1,q1,rfl,rfl,rfl,h1,r1⟩ :=trodAll_cons r0
 obtain ⟨v2,vs2,d2,ds2,p2,q2,rfl,rfl,rfl,h2,r2⟩ :=trodAll_cons r1
 obtain ⟨v3,vs3,d3,ds3,p3,q3,rfl,rfl,rfl,h3,r3⟩ :=trodAll_cons r2
 obtain ⟨rfl,rfl,rfl⟩ :=trodAll_nil r3
 obtain rfl : args= #[v0,v1,v2,v3] :=by cases args;simp_all
 obtain ⟨rfl,rfl⟩ :=trodVars_none hV
 have hb:=bulks.bound hk
 simp only [Rows.uptoBulkAll,List.append_nil,List.cons_append,List.nil_append] at hb
 have ho : ∀ b,¬ bD (fun _=> False) bZ b:=fun b h=> by
  rcases h with h | ⟨_,_,h,_⟩
  ·exact h
  ·cases h
 have s0 : ∃ cs,v0= .agg cs:=by
  have:=hval 0 31 v0 rfl rfl
  simp only [Value.okWide,Tryz.underlying31] at this
  exact ⟨_,this.choose_spec.1⟩
 obtain ⟨cs0,rfl⟩ :=s0
 obtain ⟨a1,l1,c1,rfl⟩ :=okWide_slice Tryz.underlying32 (hval 1 32 v1 rfl rfl)
 obtain ⟨a2,rfl,rfl,rfl,w2⟩ :=open_int Tryz.underlying5 (hval 2 5 v2 rfl rfl) h2
 have R2 : 0≤a2∧a2≤255:=by simpa [Lit.wf,IntKind.min,IntKind.max,IntKind.signed,IntKind.bits] using w2
 obtain ⟨a3,rfl,rfl,rfl,w3⟩ :=open_int Tryz.underlying47 (hval 3 47 v3 rfl rfl) h3
 have R3 : 0≤a3∧a3≤65535:=by simpa [Lit.wf,IntKind.min,IntKind.max,IntKind.signed,IntKind.bits] using w3
 have R0 : RC (fun _=> False) bZ W (cn .district) cs0.toList:=by
  obtain ⟨f,hf⟩ :=h0
  exact ln (n:=6) (t:=31) (small H) ho _ (by kernel_rfl) f _ _ hf (by show Rows.uptoBulk d0≤_;omega)
 have R1 : RC (fun _=> False) bZ W [.r .claim] [.slice a1 l1 c1] :=by
  obtain ⟨f,hf⟩ :=h1
  exact ln (n:=6) (t:=32) (small H) ho _ (by kernel_rfl) f _ _ hf (by show Rows.uptoBulk d1≤_;omega)
 refine (call_true R0 R1 _ R2 _ R3).mono fun e W' ⟨he,hg⟩ => ?_
 subst he
 exact ⟨_,rfl,J9 laid (by kernel_rfl) hW' (by kernel_rfl) Tryz.underlying4 rfl rfl rfl rfl hg⟩
def zeroV : Kd→Value
 | .n k=> .int k 0
 | .b=> .bool false
 | .s=> .string (ByteArray.mk #[])
 | .r _=> .slice none 0 0
 | .m _ _=> .map none
def wit : Array Value:= #[.agg ((cn .district).map zeroV).toArray,.slice none 0 0,.int .u8 0,.int .u16 0]
set_option maxRecDepth 100000 in
theorem lifted (os : Os) (started : os.Started) (H : Type) (enc : TypeId×Value→H) (F : Stop.Interp) :
  ReturnsInHanded {} Tryz.checked os 5 .any ((Rows.OpenSpec.upto Rows.timetableFewerSpec).pre6 enc Tryz.prog Tryz.f5 Rows.timetableFewerUptoRow.domain false) (((Rows.OpenSpec.upto Rows.timetableFewerSpec).at F).post enc Tryz.prog Tryz.f5 false true false false) :=by
 refine returnsInHanded_of_cond (C:=Tryz.checked) (s:=Rows.OpenSpec.upto Rows.timetableFewerSpec) (k:=Rows.uptoSmall) rfl own started (by kernel_rfl) Tryz.func5
  (OpenSpec.witness (enc:=enc) (C:=Tryz.checked) (s:=Rows.OpenSpec.upto Rows.timetableFewerSpec) (k:=Rows.uptoSmall) rfl false ⟨#[],wit,[]⟩ 8 (by kernel_rfl) (by kernel_rfl) (by kernel_rfl)
   (x:=(DataW.whole enc Tryz.prog (World.plainHolding Tryz.prog os ⟨#[],wit,[]⟩).memory Tryz.f5.params.toList Rows.timetableFewerSpec.vars false wit.toList 8).getD ([],[],[])) (by kernel_rfl) rfl (by kernel_rfl)) ?_
 intro W base args ds gs before hval hW _ hk _
 exact contract H enc W base args ds gs before hval hW hk
theorem over : Rows.timetableFewerUptoRow.holds Tryz.pinned (Rows.OpenSpec.upto Rows.timetableFewerSpec) :=
 OpenClaim.holds_of_cond 5 Tryz.f5 rfl rfl rfl rfl rfl rfl rfl ⟨rfl,rfl,rfl,rfl,rfl⟩ rfl rfl rfl rfl rfl (by kernel_rfl) Tryz.func5 (by kernel_rfl)
  (of_decide_eq_true (by kernel_rfl)) (by unfold Func.isWrapper;first | (rw [if_pos (by decide +kernel)];kernel_rfl) | (rw [if_neg (by decide +kernel)];exact ⟨rfl,rfl⟩))
  (fun os started H enc _ F=> lifted os started H enc F)
theorem proved : Rows.TimetableFewerUptoSaid:=over
end Go.Proofs.YtagjakphhkfofaaGreat.timetableFewer
end
