/- Part of the proof that the law TimetableSenior returns true and leaves its arguments as they were, for all arguments of bulk at most 1048576 (the Upto form). -/
import Derived.Test.YtagjakphhkfofaaGreatC511
import Derived.Test.YtagjakphhkfofaaGreatC506
import Derived.Test.YtagjakphhkfofaaGreatC507
import Derived.Test.YtagjakphhkfofaaGreatC501
import Derived.Deep.Slices
import Derived.OpenShut
import Derived.ChangeSame
import Derived.WideKeyArgs
import Derived.Below
import Derived.Test.YtagjakphhkfofaaGreatRows
import Derived.WalkKit
import Derived.ProofKit
import Derived.JoinedCond
import Derived.Carry
set_option linter.all false
section
namespace Go.Sx
open Go.Proofs Go.Shelf Go.Sort Go.Lib
set_option maxRecDepth 100000
theorem fW {α : Type} {cf : α→α→Int} (hO : SWO (ltOf cf)) {l m : List α} (hp : m.Perm l) (hs : m.Pairwise fun x y=> ltOf cf x y=true) : srt cf l=m:=by
 have h1 : (srt cf l).Pairwise fun x y=> (!(ltOf cf y x))=true:=by
  refine List.pairwise_mergeSort (fun a b c h1 h2=> ?_) (fun a b=> ?_) l
  ·simp only [Bool.not_eq_true'] at h1 h2 ⊢
   exact hO.ntrans _ _ _ h2 h1
  ·cases q : ltOf cf b a with
   | false=> rfl
   | true=>
    cases q2 : ltOf cf a b with
    | false=> rfl
    | true=> have:=hO.trans _ _ _ q q2;rw [hO.irrefl] at this;cases this
 have h2 : m.Pairwise fun x y=> (!(ltOf cf y x))=true:=hs.imp fun {x y} q=> by
  cases q2 : ltOf cf y x with
  | false=> rfl
  | true=> have:=hO.trans _ _ _ q q2;rw [hO.irrefl] at this;cases this
 have hpm : (srt cf l).Perm l:=List.mergeSort_perm _ _
 refine List.Perm.eq_of_pairwise (fun a b ha hb q1 q2=> ?_) h1 h2 (hpm.trans hp.symm)
 have ha : a∈m:=hp.mem_iff.2 (hpm.mem_iff.1 ha)
 obtain ⟨i,hi,rfl⟩ :=List.getElem_of_mem ha
 obtain ⟨j,hj,rfl⟩ :=List.getElem_of_mem hb
 rw [List.pairwise_iff_getElem] at hs
 rcases Nat.lt_trichotomy i j with q | q | q
 ·have:=hs i j hi hj q;rw [this] at q2;cases q2
 ·subst q;rfl
 ·have:=hs j i hj hi q;rw [this] at q1;cases q1
theorem pG {d : District} {c : List Claim} {out l : List Order} {B : List Fault} (h1 : aZ d c=0) (h2 : decide ((IntKind.i64.wrap ((d.reaches.length : Int) * d.hours)) > 1024)=false) (h3 : ap c=out)
  (h4 : aK out=false) (h5 : av d out=(l,true,0)) (h6 : bt l d=B) :
  aw d c=match B with | [] => (l,({ kind:=0,hour:=0,index:=0,litres:=0,limit:=0} : Fault),0) | f :: _=> ([],f,0) :=by
 have ha : am d c=(out,0) :=by
  unfold am
  rw [h1,h2,h3,h4];rfl
 unfold aw
 simp only [ha,h5,h6,bne_self_eq_false,cond_false,Bool.not_true]
 cases B <;> rfl
theorem C6 {d : District} {c : List Claim} {out : List Order} {f : Fault} (h1 : aZ d c=0) (h2 : decide ((IntKind.i64.wrap ((d.reaches.length : Int) * d.hours)) > 1024)=false) (h3 : ap c=out)
  (h4 : aK out=false) (h5 : av d out=([],false,0)) (h6 : ee out d=f) :
  aw d c=([],f,0) :=by
 have ha : am d c=(out,0) :=by
  unfold am
  rw [h1,h2,h3,h4];rfl
 unfold aw
 simp only [ha,h5,h6,bne_self_eq_false,cond_false,Bool.not_false,cond_true]
abbrev cg (h i n : Int) (o : Bool) : Order:= { hour:=h,index:=i,litres:=n,outlet:=o}
theorem ev_a : aw aU cn=(eV,({ kind:=0,hour:=0,index:=0,litres:=0,limit:=0} : Fault),0) :=by
 have e1 : ap cn=srt aq [cg 4 1 10 true,cg 4 0 7 true,cg 5 0 1 true] :=by kernel_rfl
 rw [fW (m:=[cg 4 0 7 true,cg 4 1 10 true,cg 5 0 1 true]) dT (by decide) (by decide)] at e1
 have e2 : av aU [cg 4 0 7 true,cg 4 1 10 true,cg 5 0 1 true]=(srt ax [cg 4 0 7 true,cg 4 1 10 true,cg 5 0 1 true,cg 2 0 20 false,cg 3 0 5 false],true,0) :=by kernel_rfl
 rw [fW (m:=eV) nI (by decide) (by decide)] at e2
 exact pG (B:=[]) (by kernel_rfl) (by kernel_rfl) e1 (by kernel_rfl) e2 (by kernel_rfl)
theorem ev_b : aw aU be=([],({ kind:=1,hour:=2,index:=0,litres:=21,limit:=20} : Fault),0) :=by
 have e1 : ap be=srt aq [cg 4 1 10 true,cg 4 0 8 true,cg 5 0 1 true] :=by kernel_rfl
 rw [fW (m:=[cg 4 0 8 true,cg 4 1 10 true,cg 5 0 1 true]) dT (by decide) (by decide)] at e1
 have e2 : av aU [cg 4 0 8 true,cg 4 1 10 true,cg 5 0 1 true]=(srt ax [cg 4 0 8 true,cg 4 1 10 true,cg 5 0 1 true,cg 2 0 21 false,cg 3 0 5 false],true,0) :=by kernel_rfl
 rw [fW (m:=[cg 2 0 21 false,cg 3 0 5 false,cg 4 0 8 true,cg 4 1 10 true,cg 5 0 1 true]) nI (by decide) (by decide)] at e2
 exact pG (B:=[{ kind:=1,hour:=2,index:=0,litres:=21,limit:=20}]) (by kernel_rfl) (by kernel_rfl) e1 (by kernel_rfl) e2 (by kernel_rfl)
theorem ev_c : aw aU fl=([],({ kind:=7,hour:=1,index:=0,litres:=9,limit:=0} : Fault),0) :=by
 have e1 : ap fl=srt aq [cg 1 1 9 true] :=by kernel_rfl
 rw [fW (m:=[cg 1 1 9 true]) dT (by decide) (by decide)] at e1
 exact C6 (by kernel_rfl) (by kernel_rfl) e1 (by kernel_rfl) (by kernel_rfl) (by kernel_rfl)
abbrev clA : Claim:= { right:=1,farm:=1,hour:=4,litres:=10,rank:=1}
abbrev clB : Claim:= { right:=0,farm:=0,hour:=4,litres:=8,rank:=2}
abbrev clC : Claim:= { right:=0,farm:=0,hour:=5,litres:=1,rank:=2}
theorem ev_d : aw aU [clA]=([cg 2 0 13 false,cg 4 1 10 true],({ kind:=0,hour:=0,index:=0,litres:=0,limit:=0} : Fault),0) :=by
 have e1 : ap [clA]=srt aq [cg 4 1 10 true] :=by kernel_rfl
 rw [fW (m:=[cg 4 1 10 true]) dT (by decide) (by decide)] at e1
 have e2 : av aU [cg 4 1 10 true]=(srt ax [cg 4 1 10 true,cg 2 0 13 false],true,0) :=by kernel_rfl
 rw [fW (m:=[cg 2 0 13 false,cg 4 1 10 true]) nI (by decide) (by decide)] at e2
 exact pG (B:=[]) (by kernel_rfl) (by kernel_rfl) e1 (by kernel_rfl) e2 (by kernel_rfl)
theorem ev_e : aw aU [clA,clB]=([],({ kind:=1,hour:=2,index:=0,litres:=21,limit:=20} : Fault),0) :=by
 have e1 : ap [clA,clB]=srt aq [cg 4 1 10 true,cg 4 0 8 true] :=by kernel_rfl
 rw [fW (m:=[cg 4 0 8 true,cg 4 1 10 true]) dT (by decide) (by decide)] at e1
 have e2 : av aU [cg 4 0 8 true,cg 4 1 10 true]=(srt ax [cg 4 0 8 true,cg 4 1 10 true,cg 2 0 21 false],true,0) :=by kernel_rfl
 rw [fW (m:=[cg 2 0 21 false,cg 4 0 8 true,cg 4 1 10 true]) nI (by decide) (by decide)] at e2
 exact pG (B:=[{ kind:=1,hour:=2,index:=0,litres:=21,limit:=20}]) (by kernel_rfl) (by kernel_rfl) e1 (by kernel_rfl) e2 (by kernel_rfl)
theorem ev_f : aw aU [clA,clC]=([cg 2 0 13 false,cg 3 0 5 false,cg 4 1 10 true,cg 5 0 1 true],({ kind:=0,hour:=0,index:=0,litres:=0,limit:=0} : Fault),0) :=by
 have e1 : ap [clA,clC]=srt aq [cg 4 1 10 true,cg 5 0 1 true] :=by kernel_rfl
 rw [fW (m:=[cg 4 1 10 true,cg 5 0 1 true]) dT (by decide) (by decide)] at e1
 have e2 : av aU [cg 4 1 10 true,cg 5 0 1 true]=(srt ax [cg 4 1 10 true,cg 5 0 1 true,cg 2 0 13 false,cg 3 0 5 false],true,0) :=by kernel_rfl
 rw [fW (m:=[cg 2 0 13 false,cg 3 0 5 false,cg 4 1 10 true,cg 5 0 1 true]) nI (by decide) (by decide)] at e2
 exact pG (B:=[]) (by kernel_rfl) (by kernel_rfl) e1 (by kernel_rfl) e2 (by kernel_rfl)
theorem FF : ag be=[clA,clB,clC] :=by
 have : ag be=srt bq [clA,clB,clC] :=by kernel_rfl
 rw [this]
 exact fW rg (by decide) (by decide)
theorem e_o1 : aI [clA]=[clA] :=fW j6 (by decide) (by decide)
theorem e_o2 : aI [clA,clB]=[clA,clB] :=fW j6 (by decide) (by decide)
theorem e_o3 : aI [clA,clC]=[clA,clC] :=fW j6 (by decide) (by decide)
theorem ev_s : ak aU be=([clA,clC],0) :=by
 have h0 : (am aU be).2=0:=by
  have e1 : ap be=srt aq [cg 4 1 10 true,cg 4 0 8 true,cg 5 0 1 true] :=by kernel_rfl
  rw [fW (m:=[cg 4 0 8 true,cg 4 1 10 true,cg 5 0 1 true]) dT (by decide) (by decide)] at e1
  refine gE.2 ⟨by kernel_rfl,by unfold aU;simp,?_⟩
  rw [e1]
  decide
 have s1 : bu aU be 0 []= .inr [clA] :=by
  unfold bu
  rw [FF]
  show (bif (((aj aU (aI [clA])).2.2==0) && (aj aU (aI [clA])).2.1) then .inr (aI [clA]) else .inr ([] : List Claim))=(.inr [clA] : Empty⊕List Claim)
  rw [e_o1]
  unfold aj
  rw [ev_d];rfl
 have s2 : bu aU be 1 [clA]= .inr [clA] :=by
  unfold bu
  rw [FF]
  show (bif (((aj aU (aI [clA,clB])).2.2==0) && (aj aU (aI [clA,clB])).2.1) then .inr (aI [clA,clB]) else .inr ([clA] : List Claim))=(.inr [clA] : Empty⊕List Claim)
  rw [e_o2]
  unfold aj
  rw [ev_e];rfl
 have s3 : bu aU be 2 [clA]= .inr [clA,clC] :=by
  unfold bu
  rw [FF]
  show (bif (((aj aU (aI [clA,clC])).2.2==0) && (aj aU (aI [clA,clC])).2.1) then .inr (aI [clA,clC]) else .inr ([clA] : List Claim))=(.inr [clA,clC] : Empty⊕List Claim)
  rw [e_o3]
  unfold aj
  rw [ev_f];rfl
 unfold ak
 rw [h0,FF]
 simp only [bne_self_eq_false,cond_false,List.length_cons,List.length_nil,Nat.zero_add,az,s1,s2,s3]
theorem m10 : cJ=(eV,true,0) :=by unfold cJ aj;rw [ev_a];rfl
theorem m4 : dN=(({ kind:=1,hour:=2,index:=0,litres:=21,limit:=20} : Fault),true,0) :=by unfold dN dB;rw [ev_b];rfl
theorem m16 : dz=(({ kind:=7,hour:=1,index:=0,litres:=9,limit:=0} : Fault),true,0) :=by unfold dz dB;rw [ev_c];rfl
theorem m13 : gn=([],false,191) :=by kernel_rfl
theorem KM : gq=true:=by
 unfold gq g9 g8 a6 g_ aX fP
 rw [m10,m4,ev_s,m16,m13]
 kernel_rfl
theorem Wg {a b : Claim} : clt a b↔eK a b:=by
 unfold clt eK
 simp only [ku,and_false,or_false]
def CK (a b : Claim) : Prop:=a.hour=b.hour∧a.rank=b.rank∧a.right=b.right∧a.farm=b.farm
theorem QA {c : List Claim} (h : c.Pairwise eK) {a b : Claim} (ha : a∈c) (hb : b∈c) (hk : CK a b) : a=b:=by
 obtain ⟨i,hi,rfl⟩ :=List.getElem_of_mem ha
 obtain ⟨j,hj,rfl⟩ :=List.getElem_of_mem hb
 obtain ⟨k1,k2,k3,k4⟩ :=hk
 rw [List.pairwise_iff_getElem] at h
 rcases Nat.lt_trichotomy i j with q | q | q
 ·have:=h i j hi hj q;unfold eK at this;omega
 ·subst q;rfl
 ·have:=h j i hj hi q;unfold eK at this;omega
theorem yB {c l : List Claim} (h : c.Pairwise eK) (hs : ∀ x∈l,x∈c) : apart bq l∧apart bj l:=by
 refine ⟨fun x hx y hy h1 h2=> QA h (hs x hx) (hs y hy) ?_,fun x hx y hy h1 h2=> QA h (hs x hx) (hs y hy) ?_⟩
 ·unfold ltOf at h1 h2
  rw [decide_eq_false_iff_not,qe] at h1 h2
  unfold slt at h1 h2
  simp only [ku,and_false,or_false] at h1 h2
  unfold CK;omega
 ·unfold ltOf at h1 h2
  rw [decide_eq_false_iff_not,rf] at h1 h2
  unfold clt at h1 h2
  simp only [ku,and_false,or_false] at h1 h2
  unfold CK;omega
theorem pH (c : List Claim) : (ag c).Perm c:=List.mergeSort_perm _ _
theorem Bz (c : List Claim) : (aI c).Perm c:=List.mergeSort_perm _ _
theorem tM (d : District) (c : List Claim) : dK d c:=by
 refine ⟨Bm d c,fun h=> ?_⟩
 have hA : Askd d c:=gE.1 (by simpa using h)
 obtain ⟨_,h2,h3,h4⟩ :=(cr d c).1 hA.chk
 have hlen : (ag c).length=c.length:=(pH c).length_eq
 refine ⟨⟨by unfold b_ dY;omega,(yB h4 fun x hx=> hx).1⟩,fun _=> ?_⟩
 refine hY (fun j s=> (∀ x∈s,x∈c)∧s.length≤j) _ _ _ ⟨fun x hx=> (by cases hx),Nat.le_refl _⟩ fun j s _ hj ⟨hs,hl⟩ => ?_
 have hx : (ag c).getD j (default : Claim)∈c:=(pH c).mem_iff.1 (nf _ _ (by omega))
 have hs2 : ∀ x∈s ++ [(ag c).getD j (default : Claim)],x∈c:=fun x hq=> by
  rcases List.mem_append.1 hq with q | q
  ·exact hs x q
  ·simp only [List.mem_cons,List.not_mem_nil,or_false] at q;rw [q];exact hx
 refine ⟨⟨by unfold dY;omega,by unfold dY;simp;omega,fun _=> ⟨⟨by unfold b_ dY;simp;omega,(yB h4 hs2).2⟩,qg _ _⟩⟩,fun s' e=> ?_⟩
 unfold bu at e
 generalize (((aj d (aI (s ++ ([((ag c).getD j (default : Claim))])))).2.2==0) && (aj d (aI (s ++ ([((ag c).getD j (default : Claim))])))).2.1)=b at e
 cases b with
 | true=>
  simp only [cond_true,Sum.inr.injEq] at e
  subst e
  refine ⟨fun x hq=> hs2 x ((Bz _).mem_iff.1 hq),?_⟩
  rw [(Bz _).length_eq]
  simp;omega
 | false=>
  simp only [cond_false,Sum.inr.injEq] at e
  subst e
  exact ⟨hs,by omega⟩
theorem KN (a b : List Order) : fD a b:=fun _ _ h=> by
 have h : (a.length : Int)=b.length:=by simpa using h
 refine hY (fun _ _=> True) _ _ _ trivial fun j s _ hj _=> ⟨fun _=> by omega,fun _ _=> trivial⟩
theorem wX (a b : List Claim) : dL a b:=fun _ _ h=> by
 have h : (a.length : Int)=b.length:=by simpa using h
 refine hY (fun _ _=> True) _ _ _ trivial fun j s _ hj _=> ⟨fun _=> by omega,fun _ _=> trivial⟩
theorem KO : jb:=by
 refine ⟨qg _ _,fun _=> KN _ _,fun _=> ⟨by unfold cn;simp,Bo _ _,tM _ _,Bo _ _,qg _ _,fun _=> ⟨fun _=> ?_,fun _=> ?_,fun _=> wX _ _⟩⟩⟩
 ·unfold fO be cn;simp
 ·unfold fO be cn;simp
end Go.Sx
end
section
namespace Go.Sx
universe u
section
variable {α : Type u}
def pV (k : Int→List SV→Option α) : List SV→Option α
 | .v (.int .u8 n) :: r=> k n r
 | _=> none
@[go_sem] theorem XM {k : Int→List SV→Option α} {n : Int} {r : List SV} : pV k (.v (.int .u8 n) :: r)=k n r:=(rfl)
def pW (k : Int→List SV→Option α) : List SV→Option α
 | .v (.int .u16 n) :: r=> k n r
 | _=> none
@[go_sem] theorem XN {k : Int→List SV→Option α} {n : Int} {r : List SV} : pW k (.v (.int .u16 n) :: r)=k n r:=(rfl)
end
end Go.Sx
end
section
namespace Go.Sx
open Go.Proofs
set_option maxRecDepth 100000
set_option linter.unusedSimpArgs false
def bR (a1 : List Claim) (a2 : Int) (a3 : Int) :=((([]) ++ a1).set (Int.toNat (Int.tmod (IntKind.i64.wrap a2) (a1.length : Int))) ({ right:=((([]) ++ a1).getD (Int.toNat (Int.tmod (IntKind.i64.wrap a2) (a1.length : Int))) (default : Claim)).right,farm:=((([]) ++ a1).getD (Int.toNat (Int.tmod (IntKind.i64.wrap a2) (a1.length : Int))) (default : Claim)).farm,hour:=((([]) ++ a1).getD (Int.toNat (Int.tmod (IntKind.i64.wrap a2) (a1.length : Int))) (default : Claim)).hour,litres:=(IntKind.i64.wrap (1 + (Int.tmod (IntKind.i64.wrap a3) (if 1 < (a1.getD (Int.toNat (Int.tmod (IntKind.i64.wrap a2) (a1.length : Int))) (default : Claim)).litres then (a1.getD (Int.toNat (Int.tmod (IntKind.i64.wrap a2) (a1.length : Int))) (default : Claim)).litres else 1)))),rank:=((([]) ++ a1).getD (Int.toNat (Int.tmod (IntKind.i64.wrap a2) (a1.length : Int))) (default : Claim)).rank} : Claim))
def bS (a1 : List Claim) (a2 : Int) :=((([]) ++ ((a1.take (Int.toNat (Int.tmod (IntKind.i64.wrap a2) (a1.length : Int)))).drop 0)) ++ ((a1.take (Int.toNat (a1.length : Int))).drop (Int.toNat (IntKind.i64.wrap ((Int.tmod (IntKind.i64.wrap a2) (a1.length : Int)) + 1)))))
@[go_sem] def nk (a0 : District) (a1 : List Claim) (a2 : Int) (a3 : Int) (k_2 : Nat) (s_2 : Unit) : Unit⊕Unit:=(bif (decide ((aD .acequialaw27Key .int (cN ((aj a0 a1).1)) ({ outlet:=(((aj a0 (bR a1 a2 a3)).1).getD k_2 (default : Order)).outlet,index:=(((aj a0 (bR a1 a2 a3)).1).getD k_2 (default : Order)).index,hour:=(((aj a0 (bR a1 a2 a3)).1).getD k_2 (default : Order)).hour} : Acequialaw27Key)) < (((aj a0 (bR a1 a2 a3)).1).getD k_2 (default : Order)).litres)) then .inl () else .inr ())
@[go_sem] def nq (a0 : District) (a1 : List Claim) (a2 : Int) (k_1 : Nat) (s_1 : Unit) : Unit⊕Unit:=(bif (decide ((aD .acequialaw27Key .int (cN ((aj a0 a1).1)) ({ outlet:=(((aj a0 (bS a1 a2)).1).getD k_1 (default : Order)).outlet,index:=(((aj a0 (bS a1 a2)).1).getD k_1 (default : Order)).index,hour:=(((aj a0 (bS a1 a2)).1).getD k_1 (default : Order)).hour} : Acequialaw27Key)) < (((aj a0 (bS a1 a2)).1).getD k_1 (default : Order)).litres)) then .inl () else .inr ())
@[go_sem] def iA (a0 : District) (a1 : List Claim) (a2 : Int) (a3 : Int) (k_0 : Nat) (s_0 : Unit) : Unit⊕Unit:=(bif (Nat.beq k_0 0) then (bif (((aj a0 (bR a1 a2 a3)).2.2 !=0) || (!(aj a0 (bR a1 a2 a3)).2.1)) then .inl () else (match az (nk a0 a1 a2 a3) (((aj a0 (bR a1 a2 a3)).1).length) 0 () with | .inl x_2_0=> .inl () | .inr s_2=> .inr ())) else (bif (((aj a0 (bS a1 a2)).2.2 !=0) || (!(aj a0 (bS a1 a2)).2.1)) then .inl () else (match az (nq a0 a1 a2) (((aj a0 (bS a1 a2)).1).length) 0 () with | .inl x_1_0=> .inl () | .inr s_1=> .inr ())))
def lV (a0 : District) (a1 : List Claim) (a2 : Int) (a3 : Int) (k_0 : Nat) (s_0 : Unit) : Prop:=(((Nat.beq k_0 0)=true→(bC a0 (bR a1 a2 a3)))∧((Nat.beq k_0 0)=false→(bC a0 (bS a1 a2))))
def pJ (a0 : District) (a1 : List Claim) (a2 : Int) (a3 : Int) : Bool:=(bif (!gq) then false else (bif ((!(jE a0 a1)) || ((a1.length : Int) ==0)) then true else (bif (((aj a0 a1).2.2 !=0) || (!(aj a0 a1).2.1)) then true else (match az (iA a0 a1 a2 a3) 2 0 () with | .inl x_0_0=> false | .inr s_0=> true))))
def nP (a0 : District) (a1 : List Claim) (a2 : Int) (a3 : Int) : Prop:=((jb)∧((!gq)=false→(((!(jE a0 a1)) || ((a1.length : Int) ==0))=false→((bC a0 a1)∧((((aj a0 a1).2.2 !=0) || (!(aj a0 a1).2.1))=false→(a1.length≤bg→((a1.length : Int)≠0∧(((([]) ++ a1).length * 40≤dY)∧((([]) ++ a1).length≤bg→((0≤(Int.tmod (IntKind.i64.wrap a2) (a1.length : Int))∧(Int.tmod (IntKind.i64.wrap a2) (a1.length : Int)) < (a1.length : Int))∧((if 1 < (a1.getD (Int.toNat (Int.tmod (IntKind.i64.wrap a2) (a1.length : Int))) (default : Claim)).litres then (a1.getD (Int.toNat (Int.tmod (IntKind.i64.wrap a2) (a1.length : Int))) (default : Claim)).litres else 1)≠0∧((0≤(Int.tmod (IntKind.i64.wrap a2) (a1.length : Int))∧(Int.tmod (IntKind.i64.wrap a2) (a1.length : Int)) < ((([]) ++ a1).length : Int))∧((0≤0∧0≤(Int.tmod (IntKind.i64.wrap a2) (a1.length : Int))∧(Int.tmod (IntKind.i64.wrap a2) (a1.length : Int))≤(a1.length : Int))∧(((([]) ++ ((a1.take (Int.toNat (Int.tmod (IntKind.i64.wrap a2) (a1.length : Int)))).drop 0)).length * 40≤dY)∧((([]) ++ ((a1.take (Int.toNat (Int.tmod (IntKind.i64.wrap a2) (a1.length : Int)))).drop 0)).length≤bg→((0≤(IntKind.i64.wrap ((Int.tmod (IntKind.i64.wrap a2) (a1.length : Int)) + 1))∧(IntKind.i64.wrap ((Int.tmod (IntKind.i64.wrap a2) (a1.length : Int)) + 1))≤(a1.length : Int)∧(a1.length : Int)≤(a1.length : Int))∧((((([]) ++ ((a1.take (Int.toNat (Int.tmod (IntKind.i64.wrap a2) (a1.length : Int)))).drop 0)) ++ ((a1.take (Int.toNat (a1.length : Int))).drop (Int.toNat (IntKind.i64.wrap ((Int.tmod (IntKind.i64.wrap a2) (a1.length : Int)) + 1))))).length * 40≤dY)∧(((([]) ++ ((a1.take (Int.toNat (Int.tmod (IntKind.i64.wrap a2) (a1.length : Int)))).drop 0)) ++ ((a1.take (Int.toNat (a1.length : Int))).drop (Int.toNat (IntKind.i64.wrap ((Int.tmod (IntKind.i64.wrap a2) (a1.length : Int)) + 1))))).length≤bg→okI (iA a0 a1 a2 a3) (lV a0 a1 a2 a3) 2 0 ()))))))))))))))))))
@[go_sem] def zy : List SV→Option Con:=(pD .district fun a0=> (pR .claim fun a1=> (pV fun a2=> (pW fun a3=> (pE (.det (nP a0 a1 a2 a3) (.v (.bool (pJ a0 a1 a2 a3)))))))))
end Go.Sx
end
section
namespace Go.Sx
open Go.Proofs
theorem pK {p : CertifyPlace} : ∀ {a c : List Claim},a.Sublist c→(∀ x∈c,1≤x.litres∧x.litres≤1073741824)→dM p a≤dM p c
 | _,_,.slnil,_=> Int.le_refl _
 | _,_,.cons x h,hl=> by
  have:=pK (p:=p) h fun y hy=> hl y (List.mem_cons_of_mem _ hy)
  have:=hl x List.mem_cons_self
  show dM p _≤(if p=rl x then x.litres else 0) + dM p _
  split <;> omega
 | _,_,.cons₂ x h,hl=> by
  have:=pK (p:=p) h fun y hy=> hl y (List.mem_cons_of_mem _ hy)
  simp only [dM]
  omega
theorem KP {α : Type} (l : List α) (d : α) {k : Nat} (h : k < l.length) : l.getD k d∈l:=by
 rw [cD l d h];exact List.getElem_mem _
section
variable {d : District} {c c' : List Claim} {l : List Order}
end
end Go.Sx
end
section
namespace Go.Sx
@[go_sem] theorem Wh {ops : List Oper} {g : Option (Nat×Bool)} {a b : Nat} {c d : Int} : ba ops g (.vw a b c d)=(.vw a b c d) :=(rfl)
end Go.Sx
end
section
namespace Go.Sx
open Go.Proofs
set_option maxRecDepth 100000
set_option linter.unusedSimpArgs false
theorem BA {p : Prop} (h : p:=by (first | done | (repeat' (first | with_reducible refine And.intro ?_ ?_ | ((with_reducible show _≠_);first | assumption | omega | (simp_all [aG,aM];done) | grind) | with_reducible intro _)) <;> (first | done | exact Empty.elim ‹Empty› | assumption | rfl | omega | decide | exact fk [5] | exact fk [0] | (simp only [*,cond_true,cond_false,Bool.not_true,Bool.not_false,go_sem,Nat.reduceBEq,Nat.reduceLeDiff,Nat.reduceLT,decide_true,Nat.reduceAdd,Nat.reduceSub,Nat.reduceMul,Int.reduceLE,Int.reduceLT,Int.reduceToNat,Int.reduceNeg,reduceCtorEq];done) | (simp only [*,cond_true,cond_false,Bool.not_true,Bool.not_false,go_sem,Nat.reduceBEq,Nat.reduceLeDiff,Nat.reduceLT,decide_true,Nat.reduceAdd,Nat.reduceSub,Nat.reduceMul,Int.reduceLE,Int.reduceLT,Int.reduceToNat,Int.reduceNeg,reduceCtorEq];(repeat' (first | with_reducible refine And.intro ?_ ?_ | ((with_reducible show _≠_);first | assumption | omega | (simp_all [aG,aM];done) | grind) | with_reducible intro _)) <;> (first | done | assumption | rfl | omega | decide | exact fk [5] | exact fk [0] | (simp_all [aG,aM];done))) | (simp_all [okI,aG,aM];done) | (simp_all [aG,aM];(first | done | exact fk2 [5] | exact fk2 [0])) | exact fk2 [5] | exact fk2 [0]))) : p:=h
theorem KQ {p : Prop} (h : p:=by (first | done | (repeat' (first | with_reducible refine And.intro ?_ ?_ | ((with_reducible show _≠_);first | assumption | omega | (simp_all [aG,aM];done) | grind) | with_reducible intro _)) <;> (first | done | exact Empty.elim ‹Empty› | assumption | rfl | omega | decide | exact fk [0] | (simp only [*,cond_true,cond_false,Bool.not_true,Bool.not_false,go_sem,Nat.reduceBEq,Nat.reduceLeDiff,Nat.reduceLT,decide_true,Nat.reduceAdd,Nat.reduceSub,Nat.reduceMul,Int.reduceLE,Int.reduceLT,Int.reduceToNat,Int.reduceNeg,reduceCtorEq];done) | (simp only [*,cond_true,cond_false,Bool.not_true,Bool.not_false,go_sem,Nat.reduceBEq,Nat.reduceLeDiff,Nat.reduceLT,decide_true,Nat.reduceAdd,Nat.reduceSub,Nat.reduceMul,Int.reduceLE,Int.reduceLT,Int.reduceToNat,Int.reduceNeg,reduceCtorEq];(repeat' (first | with_reducible refine And.intro ?_ ?_ | ((with_reducible show _≠_);first | assumption | omega | (simp_all [aG,aM];done) | grind) | with_reducible intro _)) <;> (first | done | assumption | rfl | omega | decide | exact fk [0] | (simp_all [aG,aM];done))) | (simp_all [okI,aG,aM];done) | (simp_all [aG,aM];(first | done | exact fk2 [0])) | exact fk2 [0]))) : p:=h
theorem KR {p : Prop} (h : p:=by simp only [go_sem,Nat.reduceBEq,Nat.reduceLeDiff,Nat.reduceLT,decide_true,Nat.reduceAdd,Nat.reduceSub,Nat.reduceMul,Int.reduceLE,Int.reduceLT,Int.reduceToNat,Int.reduceNeg,reduceCtorEq,hc,hw];all_goals exact BA) : p:=h
theorem KS {p : Prop} (h : p:=by simp only [go_sem,Nat.reduceBEq,Nat.reduceLeDiff,Nat.reduceLT,decide_true,Nat.reduceAdd,Nat.reduceSub,Nat.reduceMul,Int.reduceLE,Int.reduceLT,Int.reduceToNat,Int.reduceNeg,reduceCtorEq,hc];all_goals exact BA) : p:=h
theorem KT {p : Prop} (h : p:=by simp only [go_sem,Nat.reduceBEq,Nat.reduceLeDiff,Nat.reduceLT,decide_true,Nat.reduceAdd,Nat.reduceSub,Nat.reduceMul,Int.reduceLE,Int.reduceLT,Int.reduceToNat,Int.reduceNeg,reduceCtorEq];all_goals exact KQ) : p:=h
@[go_sem] def ci (c : List Claim) (k_0 : Nat) (s_0 : List Claim) (k_1 : Nat) (s_1 : Int) : Int⊕Int:=(bif ((decide (s_1 < (s_0.length : Int))) && (cX (s_0.getD (Int.toNat s_1) (default : Claim)) (c.getD k_0 (default : Claim)))) then .inr (IntKind.i64.wrap (s_1 + 1)) else .inl s_1)
def er (c : List Claim) (k_0 : Nat) (s_0 : List Claim) (k_1 : Nat) (s_1 : Int) : Prop:=(s_0.length≤bg→((decide (s_1 < (s_0.length : Int)))=true→(0≤s_1∧s_1 < (s_0.length : Int))))
@[go_sem] def dh (c : List Claim) (k_0 : Nat) (s_0 : List Claim) : Empty⊕(List Claim) :=(match az (ci c k_0 s_0) (c.length + 1) 0 0 with | .inl x_1_0=> .inr ((((s_0.take (Int.toNat x_1_0)).drop 0) ++ ([(c.getD k_0 (default : Claim))])) ++ (([]) ++ ((s_0.take (Int.toNat (s_0.length : Int))).drop (Int.toNat x_1_0)))) | .inr s_1=> .inr default)
def fE (c : List Claim) (k_0 : Nat) (s_0 : List Claim) : Prop:=(c.length≤bg→(okI (ci c k_0 s_0) (er c k_0 s_0) (c.length + 1) 0 0∧(∀ z_,az (ci c k_0 s_0) (c.length + 1) 0 0≠ .inr z_)∧(∀ x_1_0,az (ci c k_0 s_0) (c.length + 1) 0 0= .inl x_1_0→((0≤x_1_0∧x_1_0≤(s_0.length : Int))∧(((([]) ++ ((s_0.take (Int.toNat (s_0.length : Int))).drop (Int.toNat x_1_0))).length * 40≤dY)∧((([]) ++ ((s_0.take (Int.toNat (s_0.length : Int))).drop (Int.toNat x_1_0))).length≤bg→((0≤0∧0≤x_1_0∧x_1_0≤(s_0.length : Int))∧(((((s_0.take (Int.toNat x_1_0)).drop 0) ++ ([(c.getD k_0 (default : Claim))])).length * 40≤dY)∧((((s_0.take (Int.toNat x_1_0)).drop 0) ++ ([(c.getD k_0 (default : Claim))])).length≤bg→(((((s_0.take (Int.toNat x_1_0)).drop 0) ++ ([(c.getD k_0 (default : Claim))])) ++ (([]) ++ ((s_0.take (Int.toNat (s_0.length : Int))).drop (Int.toNat x_1_0)))).length * 40≤dY))))))))))
def ae (c : List Claim) : List Claim:=(match az (dh c) c.length 0 ([]) with | .inl x=> x.elim | .inr s_0=> s_0)
def fa (c : List Claim) : Prop:=okI (dh c) (fE c) c.length 0 ([])
@[go_sem] def kK : List SV→Option Con:=(pR .claim fun c=> (pE (.det (fa c) (.nw .claim (ae c)))))
set_option maxHeartbeats 4000000 in
theorem pL : FnOk Tryz.prog 21 kK:=by
 have hG : ConsOk Tryz.prog (mkG [(40,lP)] []) :=aQ (cgc og cg0) cg0
 refine wr [(.tmp 2,.claim)] mixed aH hG (fn:=Tryz.f21) (c:=an Tryz.f21) (by kernel_rfl) (by kernel_rfl) (by kernel_rfl) (by kernel_rfl) (dl fun c=> (aN (fun hp=> ?_)))
 dsimp only [aT] at hp
 unfold fa at hp
 refine ⟨Nat.le_of_ble_eq_true rfl,(fun id st=> bif Nat.beq id 0 then some (LCR (ρ:=Empty) (σ:=(List Claim)) 0 [.slot 3 (.row .claim ([]))] [0] (fun k_0 s_0=> ⟨[(0,.rs .claim c),(3,.os 0),(4,.v (.int .i64 (k_0 : Int)))],[.row .claim s_0]⟩) (dh c) (fE c) c.length ([]) (True) ((·.elim)) ((·.elim)) st) else none),?_,?_⟩
 ·unfold an Tryz.f21
  simp only [aA,true_and,and_true]
  ·refine v7 (c.length≤bg) mixed aH hG (by kernel_rfl) (fun _=> rfl) (c.length : Int) rfl kQ (fun hb0 k_0 s_0 hlt0 hq0 hw hc=> ⟨(fun id st=> bif Nat.beq id 2 then some (LCV (ρ:=Int) (σ:=Int) 1 [] [0] (fun k_1 s_1=> ⟨[(0,.rs .claim c),(3,.os 0),(4,.v (.int .i64 (k_0 : Int))),(5,.v (.int .i64 s_1))],[.row .claim s_0]⟩) (ci c k_0 s_0) (er c k_0 s_0) (c.length + 1) 0 (fun _=> .normal) (fun x_1_0=> ⟨[(0,.rs .claim c),(3,.os 0),(4,.v (.int .i64 (k_0 : Int))),(5,.v (.int .i64 x_1_0))],[.row .claim s_0]⟩) st) else none),?_,?_⟩) (fun hb0 s_0 hc=> ?_) fun hb0 k_0 s_0=> ?_
   ·simp only [aA,true_and,and_true]
    ·refine v8 mixed aH hG (by kernel_rfl) (fun _=> rfl) fun k_1 s_1 hq1=> ⟨L0,ay _,?_⟩
     ·unfold er at hq1
      exact KT
   ·unfold fE at hq0
    try simp only [hw,Int.toNat_natCast] at hq0
    exact KR
   ·exact KS
   ·simp only [go_sem,Nat.reduceBEq,Nat.reduceLeDiff,Nat.reduceLT,decide_true,Nat.reduceAdd,Nat.reduceSub,Nat.reduceMul,Int.reduceLE,Int.reduceLT,Int.reduceToNat,Int.reduceNeg,reduceCtorEq,hb0]
 ·unfold an Tryz.f21
  try unfold ae
  simp only [go_sem,Nat.reduceBEq,Nat.reduceLeDiff,Nat.reduceLT,decide_true,Nat.reduceAdd,Nat.reduceSub,Nat.reduceMul,Int.reduceLE,Int.reduceLT,Int.reduceToNat,Int.reduceNeg,reduceCtorEq]
  all_goals exact cl
end Go.Sx
end
section
namespace Go.Sx
open Go.Proofs Go.Shelf Go.Sort Go.Lib
set_option maxRecDepth 100000
def ins (q : Claim→Bool) (x : Claim) : List Claim→List Claim
 | [] => [x]
 | a :: l=> bif q a then a :: ins q x l else x :: a :: l
theorem pM (q : Claim→Bool) (x : Claim) : ∀ l,(ins q x l).Perm (x :: l)
 | [] => .refl _
 | a :: l=> by
  unfold ins
  cases q a with
  | true=> exact ((pM q x l).cons a).trans (.swap x a l)
  | false=> exact .refl _
theorem FG (q : Claim→Bool) (x : Claim) (l : List Claim) : (ins q x l).length=l.length + 1:=(pM q x l).length_eq
theorem zz (q : Claim→Bool) (x : Claim) : ∀ l,ins q x l=l.take (l.takeWhile q).length ++ x :: l.drop (l.takeWhile q).length
 | [] => rfl
 | a :: l=> by
  unfold ins
  cases h : q a with
  | true=> simp only [cond_true,List.takeWhile_cons,h,if_true,List.length_cons,List.take_succ_cons,List.drop_succ_cons,List.cons_append];rw [zz q x l]
  | false=> simp [List.takeWhile_cons,h]
theorem wY {R : Claim→Claim→Prop} (tr : ∀ a b c,R a b→R b c→R a c) {q : Claim→Bool} {x : Claim} : ∀ {l : List Claim},(∀ y∈l,(q y=true→R y x)∧(q y=false→R x y))→l.Pairwise R→(ins q x l).Pairwise R
 | [],_,_=> List.pairwise_singleton _ _
 | a :: l,h,hp=> by
  unfold ins
  obtain ⟨h1,h2⟩ :=List.pairwise_cons.1 hp
  cases hq : q a with
  | true=>
   refine List.pairwise_cons.2 ⟨fun b hb=> ?_,wY tr (fun y hy=> h y (List.mem_cons_of_mem _ hy)) h2⟩
   rcases List.mem_cons.1 ((pM q x l).mem_iff.1 hb) with rfl | hb
   ·exact (h a List.mem_cons_self).1 hq
   ·exact h1 b hb
  | false=>
   have hx:=(h a List.mem_cons_self).2 hq
   refine List.pairwise_cons.2 ⟨fun b hb=> ?_,hp⟩
   rcases List.mem_cons.1 hb with rfl | hb
   ·exact hx
   ·exact tr _ _ _ hx (h1 b hb)
theorem wZ (q p : Claim→Bool) (x : Claim) (hx : p x=false) : ∀ {l : List Claim},(∀ y∈l,p y=true)→(ins q x l).filter p=l
 | [],_=> by simp [ins,hx]
 | a :: l,h=> by
  have ha:=h a List.mem_cons_self
  have hl : l.filter p=l:=List.filter_eq_self.2 fun y hy=> h y (List.mem_cons_of_mem _ hy)
  unfold ins
  cases q a with
  | true=> rw [cond_true,List.filter_cons,ha,if_pos rfl,wZ q p x hx fun y hy=> h y (List.mem_cons_of_mem _ hy)]
  | false=> rw [cond_false,List.filter_cons,hx,if_neg (by simp),List.filter_cons,ha,if_pos rfl,hl]
theorem tN {step : Nat→Int→Int⊕Int} {l : List Claim} {q : Claim→Bool} (hs : ∀ j s,step j s=bif ((decide (s < (l.length : Int))) && q (l.getD (Int.toNat s) (default : Claim))) then .inr (IntKind.i64.wrap (s + 1)) else .inl s) (hl : l.length≤100000) :
  ∀ (n i k : Nat),k≤l.length→l.length - k < n→az step n i (k : Int)= .inl ((k + ((l.drop k).takeWhile q).length : Nat) : Int)
 | 0,_,_,_,h=> absurd h (Nat.not_lt_zero _)
 | n + 1,i,k,hk,hn=> by
  rcases Nat.lt_or_eq_of_le hk with hk' | rfl
  ·have e : l.drop k=l[k] :: l.drop (k + 1) :=List.drop_eq_getElem_cons hk'
   have e2 : l.getD k (default : Claim)=l[k] :=cD l default hk'
   unfold az
   rw [hs,Int.toNat_natCast,e2,decide_eq_true (p:=(k : Int) < (l.length : Int)) (by omega),Bool.true_and]
   cases h : q l[k] with
   | true=>
    rw [cond_true]
    rw [da (by omega) (by omega),show (k : Int) + 1=((k + 1 : Nat) : Int) by omega]
    show az step n (i + 1) ((k + 1 : Nat) : Int)=_
    rw [tN hs hl n (i + 1) (k + 1) hk' (by omega),e,List.takeWhile_cons,h,if_pos rfl,List.length_cons]
    congr 2;omega
   | false=>
    rw [cond_false,e,List.takeWhile_cons,h];simp
  ·unfold az
   rw [hs,decide_eq_false (p:=(l.length : Int) < (l.length : Int)) (by omega),Bool.false_and,cond_false]
   simp
theorem BB {step : Nat→Int→Int⊕Int} {p : Nat→Int→Prop} {l : List Claim} {q : Claim→Bool} (hs : ∀ j s,step j s=bif ((decide (s < (l.length : Int))) && q (l.getD (Int.toNat s) (default : Claim))) then .inr (IntKind.i64.wrap (s + 1)) else .inl s) (hl : l.length≤100000)
  (hp : ∀ j s,p j s=(l.length≤bg→((decide (s < (l.length : Int)))=true→(0≤s∧s < (l.length : Int))))) (n : Nat) : okI step p n 0 0:=by
 refine hY (fun _ s=> 0≤s) n 0 0 (Int.le_refl _) fun j s _ _ h=> ⟨?_,fun s' e=> ?_⟩
 ·rw [hp];intro _ q;simp only [decide_eq_true_eq] at q;omega
 ·rw [hs] at e
  cases hq : ((decide (s < (l.length : Int))) && q (l.getD (Int.toNat s) (default : Claim))) with
  | true=>
   rw [hq] at e
   simp only [cond_true,Sum.inr.injEq] at e
   simp only [Bool.and_eq_true,decide_eq_true_eq] at hq
   rw [da (by omega) (by omega)] at e
   omega
  | false=> rw [hq] at e;cases e
theorem w5 (l : List Claim) (x : Claim) (hl : l.length≤100000) : az (ew l x) (l.length + 1) 0 0= .inl (((l.takeWhile fun y=> cF y x).length : Nat) : Int) :=by
 have:=tN (step:=ew l x) (q:=fun y=> cF y x) (fun j s=> rfl) hl (l.length + 1) 0 0 (Nat.zero_le _) (by omega)
 simpa using this
theorem zA (l : List Claim) (x : Claim) (hl : l.length≤100000) : bb l x=ins (fun y=> cF y x) x l:=by
 unfold bb
 rw [w5 l x hl,zz]
 simp
theorem QB (q : Claim→Bool) (l : List Claim) : (l.takeWhile q).length≤l.length:=(List.takeWhile_sublist q).length_le
theorem Ps (l : List Claim) (x : Claim) (hl : l.length≤100000) : kV l x:=by
 have ht:=QB (fun y=> cF y x) l
 refine ⟨BB (step:=ew l x) (p:=ia l x) (q:=fun y=> cF y x) (fun j s=> rfl) hl (fun j s=> rfl) _,fun z e=> ?_,fun z e=> ?_⟩
 ·rw [w5 l x hl] at e;cases e
 ·rw [w5 l x hl] at e;cases e
  generalize (l.takeWhile fun y=> cF y x).length=k at ht
  simp only [Int.toNat_natCast,List.nil_append,List.drop_zero,List.take_length]
  refine ⟨⟨by omega,by omega,by omega⟩,by unfold dY;simp;omega,fun _=> ⟨by unfold dY;simp;omega,fun _=> ⟨⟨by omega,by omega,by omega⟩,by unfold dY;simp;omega⟩⟩⟩
theorem zB (c s : List Claim) (k : Nat) (hl : s.length≤c.length) (hc : c.length≤100000) : az (ci c k s) (c.length + 1) 0 0= .inl (((s.takeWhile fun y=> cX y (c.getD k default)).length : Nat) : Int) :=by
 have:=tN (step:=ci c k s) (q:=fun y=> cX y (c.getD k default)) (fun j s=> rfl) (by omega) (c.length + 1) 0 0 (Nat.zero_le _) (by omega)
 simpa using this
theorem BC (c s : List Claim) (k : Nat) (hl : s.length≤c.length) (hc : c.length≤100000) : dh c k s= .inr (ins (fun y=> cX y (c.getD k default)) (c.getD k default) s) :=by
 unfold dh
 rw [zB c s k hl hc,zz]
 simp
theorem Ss (c : List Claim) (hc : c.length≤100000) : fa c:=by
 refine hY (fun j s=> s.length≤j) _ _ _ (Nat.le_refl _) fun j s _ hj hs=> ⟨fun _=> ?_,fun s' e=> ?_⟩
 ·have hl : s.length≤c.length:=by omega
  have ht:=QB (fun y=> cX y (c.getD j default)) s
  refine ⟨BB (step:=ci c j s) (p:=er c j s) (l:=s) (q:=fun y=> cX y (c.getD j default)) (fun j s=> rfl) (by omega) (fun j s=> rfl) _,fun z e=> ?_,fun z e=> ?_⟩
  ·rw [zB c s j hl hc] at e;cases e
  ·rw [zB c s j hl hc] at e;cases e
   generalize (s.takeWhile fun y=> cX y (c.getD j default)).length=k at ht
   simp only [Int.toNat_natCast,List.nil_append,List.drop_zero,List.take_length]
   refine ⟨⟨by omega,by omega⟩,by unfold dY;simp;omega,fun _=> ⟨⟨by omega,by omega,by omega⟩,by unfold dY;simp;omega,fun _=> by unfold dY;simp;omega⟩⟩
 ·rw [BC c s j (by omega) hc] at e
  cases e
  rw [FG];omega
end Go.Sx
end
section
namespace Go.Sx
open Go.Proofs Go.Shelf Go.Sort Go.Lib
set_option maxRecDepth 100000
theorem zC {σ : Type} {step : Nat→σ→Empty⊕σ} (J : Nat→σ→Prop) : ∀ (n i : Nat) (s : σ),J i s→(∀ j s,i≤j→j < i + n→J j s→∃ s',step j s= .inr s'∧J (j + 1) s')→∃ s',az step n i s= .inr s'∧J (i + n) s'
 | 0,i,s,h,_=> ⟨s,rfl,h⟩
 | n + 1,i,s,h,hs=> by
  obtain ⟨s',e,h'⟩ :=hs i s (Nat.le_refl _) (by omega) h
  obtain ⟨s2,e2,h2⟩ :=zC J n (i + 1) s' h' fun j s h1 h2=> hs j s (by omega) (by omega)
  exact ⟨s2,by unfold az;rw [e];exact e2,by rw [show i + (n + 1)=i + 1 + n by omega];exact h2⟩
theorem GV (a b c : Claim) (h1 : slt a b) (h2 : slt b c) : slt a c:=by
 simp only [slt,ku,and_false,or_false] at *;omega
theorem w6 (a b : Claim) : cX a b=true↔slt a b:=by
 unfold cX
 simp only [slt,ku,and_false,or_false]
 by_cases h1 : a.rank=b.rank
 ·by_cases h2 : a.right=b.right
  ·by_cases h3 : a.farm=b.farm
   ·simp [h1,h2,h3]
   ·simp [h1,h2,h3,bne_iff_ne]
  ·simp [h1,h2,bne_iff_ne]
 ·simp [h1,bne_iff_ne]
theorem BD (a b : Claim) : cF a b=true↔eK a b:=by
 have hs:=w6 a b
 unfold cF
 simp only [slt,ku,and_false,or_false] at hs
 unfold eK
 by_cases h1 : a.hour=b.hour
 ·rw [h1,bne_self_eq_false,cond_false,hs];omega
 ·rw [bne_iff_ne.2 h1,cond_true,decide_eq_true_iff];omega
theorem Wi {a b : Claim} (h : eK a b∨eK b a) : slt a b∨slt b a:=by
 unfold eK at h
 simp only [slt,ku,and_false,or_false]
 omega
theorem KU {c : List Claim} (h : c.Pairwise eK) {x y : Claim} (hx : x∈c) (hy : y∈c) (hne : x≠y) : eK x y∨eK y x:=by
 obtain ⟨i,hi,rfl⟩ :=List.getElem_of_mem hx
 obtain ⟨j,hj,rfl⟩ :=List.getElem_of_mem hy
 rw [List.pairwise_iff_getElem] at h
 rcases Nat.lt_trichotomy i j with q | q | q
 ·exact .inl (h i j hi hj q)
 ·subst q;exact absurd rfl hne
 ·exact .inr (h j i hj hi q)
theorem sP (a : Claim) : ¬ eK a a:=by unfold eK;omega
theorem qh {c : List Claim} (h : c.Pairwise eK) : c.Nodup:=h.imp fun {a b} q e=> by subst e;exact sP a q
theorem lR {l c : List Claim} (hp : l.Perm c) (h : c.Nodup) : l.Nodup:=hp.nodup_iff.2 h
theorem nr {l : List Claim} (h : l.Nodup) {k : Nat} (hk : k < l.length) : l[k] ∉ l.take k:=fun hm=> by
 obtain ⟨i,hi,e⟩ :=List.getElem_of_mem hm
 rw [List.length_take] at hi
 rw [List.getElem_take] at e
 have:=List.pairwise_iff_getElem.1 h i k (by omega) hk (by omega)
 exact this e
theorem BE {l c : List Claim} (hp : l.Perm c) (hs : l.Pairwise slt) : ag c=l:=
 fW rg hp (hs.imp fun {a b} q=> by unfold ltOf;rw [decide_eq_true_iff];exact (qe a b).2 q)
theorem KV {l c : List Claim} (hp : l.Perm c) (hs : l.Pairwise eK) : aI c=l:=
 fW j6 hp (hs.imp fun {a b} q=> by unfold ltOf;rw [decide_eq_true_iff];exact (rf a b).2 (Wg.2 q))
theorem pN {c : List Claim} (hc : c.Pairwise eK) (hl : c.length≤100000) : ae c=ag c∧(ag c).Pairwise slt:=by
 obtain ⟨s,e,h1,h2⟩ :=zC (step:=dh c) (fun j s=> s.Perm (c.take j)∧s.Pairwise slt) c.length 0 [] ⟨by simp,.nil⟩ fun j s _ hj ⟨h1,h2⟩ => by
  have hj : j < c.length:=by omega
  have hsl : s.length≤c.length:=by rw [h1.length_eq,List.length_take];omega
  refine ⟨_,BC c s j hsl hl,?_,?_⟩
  ·rw [cD c default hj,List.take_succ_eq_append_getElem hj]
   exact (pM _ _ _).trans ((h1.cons _).trans (List.perm_append_singleton _ _).symm)
  ·rw [cD c default hj]
   refine wY GV (fun y hy=> ?_) h2
   have hy2:=h1.mem_iff.1 hy
   have hne : y≠c[j] :=fun e=> nr (qh hc) hj (e▸hy2)
   have:=Wi (KU hc (List.mem_of_mem_take hy2) (List.getElem_mem hj) hne)
   refine ⟨fun q=> (w6 _ _).1 q,fun q=> this.resolve_left fun q2=> ?_⟩
   rw [(w6 _ _).2 q2] at q;cases q
 rw [Nat.zero_add,List.take_length] at h1
 have e1:=BE h1 h2
 refine ⟨?_,by rw [e1];exact h2⟩
 unfold ae
 rw [e,e1]
theorem BF {s : List Claim} {x : Claim} (hs : s.Pairwise eK) (hx : ∀ y∈s,eK y x∨eK x y) (hl : s.length≤100000) :
  aI (s ++ [x])=bb s x∧(bb s x).Pairwise eK∧(bb s x).Perm (x :: s) :=by
 rw [zA s x hl]
 have h1 : (ins (fun y=> cF y x) x s).Pairwise eK:=wY (R:=eK) (x:=x) (q:=fun y=> cF y x) (fun _ _ _=> rk) (fun y hy=> ⟨fun q=> (BD y x).1 q,fun q=> (hx y hy).resolve_left fun q2=> by rw [(BD y x).2 q2] at q;cases q⟩) hs
 have h2:=pM (fun y=> cF y x) x s
 exact ⟨KV (h2.trans (List.perm_append_singleton _ _).symm) h1,h1,h2⟩
def can (d : District) (m : List Claim) : Bool:=((aj d m).2.2==0) && (aj d m).2.1
def gst (d : District) (s : List Claim) (x : Claim) : List Claim:=bif can d (bb s x) then bb s x else s
def gk (d : District) (L : List Claim) (k : Nat) : List Claim:=(L.take k).foldl (gst d) []
section
variable {d : District} {c L : List Claim}
theorem kW {k : Nat} (hk : k < L.length) : gk d L (k + 1)=gst d (gk d L k) L[k] :=by
 unfold gk
 rw [List.take_succ_eq_append_getElem hk,List.foldl_append];rfl
theorem BG {s : List Claim} {x y : Claim} (h : (bb s x).Perm (x :: s)) (hy : y∈gst d s x) : y=x∨y∈s:=by
 unfold gst at hy
 cases hc : can d (bb s x) with
 | true=> rw [hc] at hy;exact List.mem_cons.1 (h.mem_iff.1 hy)
 | false=> rw [hc] at hy;exact .inr hy
theorem w7 (hc : c.Pairwise eK) (hl : c.length≤4096) (hp : L.Perm c) : ∀ k,k≤L.length→(gk d L k).Pairwise eK∧(∀ y∈gk d L k,y∈L.take k)∧(gk d L k).length≤k
 | 0,_=> ⟨by simp [gk],by simp [gk],by simp [gk]⟩
 | k + 1,hk=> by
  obtain ⟨h1,h2,h3⟩ :=w7 hc hl hp k (by omega)
  have hLl:=hp.length_eq
  have hx : ∀ y∈gk d L k,eK y L[k]∨eK L[k] y:=fun y hy=> KU hc (hp.mem_iff.1 (List.mem_of_mem_take (h2 y hy))) (hp.mem_iff.1 (List.getElem_mem _)) fun e=> nr (lR hp (qh hc)) hk (e▸h2 y hy)
  obtain ⟨_,q2,q3⟩ :=BF h1 hx (by omega)
  rw [kW hk]
  refine ⟨?_,fun y hy=> ?_,?_⟩
  ·unfold gst;cases can d _ <;> assumption
  ·rw [List.take_succ_eq_append_getElem hk]
   rcases BG q3 hy with rfl | hy
   ·exact List.mem_append_right _ List.mem_cons_self
   ·exact List.mem_append_left _ (h2 y hy)
  ·unfold gst
   cases can d _ with
   | true=> rw [cond_true,q3.length_eq,List.length_cons];omega
   | false=> rw [cond_false];omega
theorem qi (hc : c.Pairwise eK) (hl : c.length≤4096) (hp : L.Perm c) {k : Nat} (hk : k < L.length) : aI (gk d L k ++ [L[k]])=bb (gk d L k) L[k]∧(bb (gk d L k) L[k]).Pairwise eK∧(bb (gk d L k) L[k]).Perm (L[k] :: gk d L k) :=by
 obtain ⟨h1,h2,h3⟩ :=w7 (d:=d) hc hl hp k (by omega)
 have hLl:=hp.length_eq
 exact BF h1 (fun y hy=> KU hc (hp.mem_iff.1 (List.mem_of_mem_take (h2 y hy))) (hp.mem_iff.1 (List.getElem_mem _)) fun e=> nr (lR hp (qh hc)) hk (e▸h2 y hy)) (by omega)
theorem FH (hc : c.Pairwise eK) (hl : c.length≤4096) (hp : L.Perm c) {k : Nat} : ∀ m,k≤m→m≤L.length→∀ y∈gk d L k,y∈gk d L m
 | 0,h,_,y,hy=> by rw [show k=0 by omega] at hy;exact hy
 | m + 1,h,hm,y,hy=> by
  rcases Nat.lt_or_eq_of_le h with h | rfl
  ·have:=FH hc hl hp m (by omega) (by omega) y hy
   rw [kW hm]
   unfold gst
   cases can d _ with
   | true=> exact (qi hc hl hp hm).2.2.mem_iff.2 (List.mem_cons_of_mem _ this)
   | false=> exact this
  ·exact hy
theorem KW (hc : c.Pairwise eK) (hl : c.length≤4096) (hp : L.Perm c) {k : Nat} : ∀ m,k≤m→m≤L.length→∀ y∈gk d L m,y∈L.take k→y∈gk d L k
 | 0,h,_,y,hy,_=> by rw [show k=0 by omega];exact hy
 | m + 1,h,hm,y,hy,ht=> by
  rcases Nat.lt_or_eq_of_le h with h | rfl
  ·rw [kW hm] at hy
   rcases BG (qi hc hl hp hm).2.2 hy with rfl | hy
   ·refine absurd ?_ (nr (lR hp (qh hc)) hm)
    exact (List.take_sublist_take_left (by omega : k≤m)).subset ht
   ·exact KW hc hl hp m (by omega) (by omega) y hy ht
  ·exact hy
theorem Su (hc : c.Pairwise eK) (hl : c.length≤4096) (hp : L.Perm c) {k : Nat} (hk : k < L.length) : L[k]∈gk d L L.length↔can d (bb (gk d L k) L[k])=true:=by
 have hm : L[k]∈gk d L L.length↔L[k]∈gk d L (k + 1) :=⟨fun h=> KW hc hl hp _ hk (Nat.le_refl _) _ h (by rw [List.take_succ_eq_append_getElem hk];exact List.mem_append_right _ List.mem_cons_self),fun h=> FH hc hl hp _ hk (Nat.le_refl _) _ h⟩
 rw [hm,kW hk]
 unfold gst
 cases can d (bb (gk d L k) L[k]) with
 | true=> rw [cond_true];exact ⟨fun _=> rfl,fun _=> (qi hc hl hp hk).2.2.mem_iff.2 List.mem_cons_self⟩
 | false=>
  rw [cond_false]
  exact ⟨fun h=> absurd ((w7 (d:=d) hc hl hp k (by omega)).2.1 _ h) (nr (lR hp (qh hc)) hk),fun h=> by cases h⟩
theorem nt (hA : Askd d c) : ak d c=(gk d (ag c) (ag c).length,0) :=by
 obtain ⟨_,hl,_,hc⟩ :=(cr d c).1 hA.chk
 obtain ⟨s,e,h⟩ :=zC (step:=bu d c) (fun j s=> s=gk d (ag c) j) (ag c).length 0 [] (by simp [gk]) fun j s _ hj hs=> by
  have hj : j < (ag c).length:=by omega
  subst hs
  refine ⟨_,?_,rfl⟩
  unfold bu
  rw [cD _ default hj,(qi hc hl (pH c) hj).1,kW hj]
  unfold gst can
  generalize (((aj d (bb (gk d (ag c) j) (ag c)[j])).2.2==0) && (aj d (bb (gk d (ag c) j) (ag c)[j])).2.1)=b
  cases b <;> rfl
 unfold ak
 rw [gE.2 hA,bne_self_eq_false,cond_false,e]
 rw [Nat.zero_add] at h
 rw [h]
end
end Go.Sx
end
section
namespace Go.Sx
open Go.Proofs Go.Shelf Go.Sort Go.Lib
set_option maxRecDepth 100000
theorem nQ : ∀ {c m : List Claim},c.Pairwise eK→m.Pairwise eK→(∀ y∈m,y∈c)→m.Sublist c
 | [],m,_,_,h=> by
  cases m with
  | nil=> exact .slnil
  | cons a m=> exact absurd (h a List.mem_cons_self) (by simp)
 | a :: c,[],_,_,_=> List.nil_sublist _
 | a :: c,b :: m,hc,hm,h=> by
  obtain ⟨h1,h2⟩ :=List.pairwise_cons.1 hc
  obtain ⟨h3,h4⟩ :=List.pairwise_cons.1 hm
  by_cases hb : b=a
  ·subst hb
   refine .cons_cons _ (nQ h2 h4 fun y hy=> ?_)
   rcases List.mem_cons.1 (h y (List.mem_cons_of_mem _ hy)) with q | q
   ·exact absurd (h3 _ hy) (q▸sP _)
   ·exact q
  ·have hb : b∈c:=(List.mem_cons.1 (h b List.mem_cons_self)).resolve_left hb
   refine .cons _ (nQ h2 hm fun y hy=> ?_)
   rcases List.mem_cons.1 (h y hy) with q | q
   ·exfalso
    have r1:=h1 b hb
    subst q
    rcases List.mem_cons.1 hy with q | hy
    ·exact sP _ (q▸r1)
    ·exact sP _ (rk r1 (h3 _ hy))
   ·exact q
section
variable {d : District} {c m : List Claim}
theorem zD (h : aZ d c=0) (hs : m.Sublist c) : aZ d m=0:=by
 obtain ⟨h1,h2,h3,h4⟩ :=(cr d c).1 h
 exact (cr d m).2 ⟨h1,Nat.le_trans hs.length_le h2,fun a ha=> h3 a (hs.subset ha),h4.sublist hs⟩
theorem BH (h : aZ d c=0) (hs : m.Sublist c) (f g : Int) : pn m f g≤pn c f g:=by
 obtain ⟨h1,h2,h3,h4⟩ :=(cr d c).1 h
 exact pK hs fun x hx=> wz (h3 x hx)
theorem KX (hA : Askd d c) (hs : m.Sublist c) : Askd d m:=by
 have hk:=zD hA.chk hs
 refine ⟨hk,hA.wide,fun x hx=> ?_⟩
 obtain ⟨e,e1⟩ :=(outs (uR hk)).lit x hx
 have hle:=BH hA.chk hs x.index x.hour
 obtain ⟨z,hz,e2,e3⟩ :=hA.outs.all x.index x.hour (by omega)
 have h1:=(hA.outs.lit z hz).1
 have h2:=hA.lit z hz
 rw [e2,e3] at h1
 omega
theorem zF (h : aZ d m=0) : can d m=true↔∃ l,Srv d m l:=by
 refine ⟨fun hc=> ?_,fun ⟨l,hS⟩ => ?_⟩
 ·unfold can at hc
  simp only [Bool.and_eq_true,beq_iff_eq] at hc
  exact ⟨_,Ky (Kw d m hc.1 hc.2)⟩
 ·obtain ⟨e1,e2,_⟩ :=GQ hS h
  unfold can
  rw [e1,e2];rfl
theorem Pt (hA : Askd d c) (hs : m.Sublist c) (h : can d c=true) : can d m=true:=by
 obtain ⟨l,hS⟩ :=(zF hA.chk).1 h
 exact (zF (zD hA.chk hs)).2 ⟨l,hS.kp,hS.wide,hS.lim,fun f g=> Int.le_trans (BH hA.chk hs f g) (hS.met f g)⟩
theorem Pu (hA : Askd d c) : can d []=true:=by
 have hk:=zD hA.chk (List.nil_sublist c)
 have hx : bn d=0:=((cr d c).1 hA.chk).1
 have hg : Good d [] :=⟨hx,by simp,by simp,.nil⟩
 have hr:=hg.right
 refine (zF hk).2 ⟨[],⟨hg,by simp,fun r hh r0 h1=> ?_⟩,hA.wide,⟨fun t i _ hi=> ?_,fun t i _ hi=> ?_,hr.start0⟩,fun f h=> Int.le_refl _⟩
 ·obtain ⟨x,hx,_⟩ :=uO (show bV (nh d r hh) []≠0 from fun e=> by
   have : drw d [] r hh=0:=e
   omega)
  cases hx
 ·have q:=hr.reach1 hi
  have q1:=q.siphon0
  have q2:=q.siphon
  show (0 : Int)≤(d.reaches.getD (i : Int).toNat default).cap
  rw [Int.toNat_natCast];omega
 ·have q:=hr.reach1 hi
  have q1:=q.siphon0
  have q2:=q.bank
  show (0 : Int)≤(d.reaches.getD (i : Int).toNat default).bank
  rw [Int.toNat_natCast];omega
end
theorem k_ (a b : Claim) : ((a.right==b.right) && ((a.farm==b.farm) && ((a.hour==b.hour) && ((a.litres==b.litres) && (a.rank==b.rank)))))=decide (a=b) :=by
 cases a;cases b
 rw [Bool.eq_iff_iff]
 simp only [Bool.and_eq_true,beq_iff_eq,decide_eq_true_eq,Claim.mk.injEq]
theorem KY (s : List Claim) (x : Claim) : eE s x=true↔x∈s:=by
 unfold eE
 have key:=sq (step:=fQ s x) (n:=s.length)
 have hs : ∀ j,fQ s x j ()=bif decide (s.getD j default=x) then .inl () else .inr () :=fun j=> by
  unfold fQ;rw [k_]
 cases h : az (fQ s x) s.length 0 () with
 | inl u=>
  refine ⟨fun _=> ?_,fun _=> rfl⟩
  by_cases hx : x∈s
  ·exact hx
  ·rw [key.2 fun j hj=> by rw [hs,decide_eq_false (p:=s.getD j default=x) fun e=> hx (e▸KP s default hj)];rfl] at h
   cases h
 | inr u=>
  refine ⟨fun e=> (by cases e),fun hx=> ?_⟩
  obtain ⟨j,hj,e⟩ :=List.getElem_of_mem hx
  have:=key.1 h j hj
  rw [hs,cD s default hj,e,decide_eq_true (p:=x=x) rfl] at this
  cases this
theorem yC (s : List Claim) : dg s s=true:=by
 unfold dg
 rw [bne_self_eq_false,cond_false]
 rw [sq.2 fun j hj=> by unfold e_;rw [k_,decide_eq_true (p:=s.getD j default=s.getD j default) rfl];rfl]
theorem w8 {step : Nat→List Claim→Empty⊕List Claim} {l : List Claim} {p : Claim→Bool} (hs : ∀ j s,step j s=bif p (l.getD j default) then .inr (s ++ [l.getD j default]) else .inr s) : az step l.length 0 []= .inr (l.filter p) :=by
 obtain ⟨s,e,h⟩ :=zC (step:=step) (fun j s=> s=(l.take j).filter p) l.length 0 [] (by simp) fun j s _ hj h=> by
  have hj : j < l.length:=by omega
  refine ⟨_,?_,rfl⟩
  rw [hs,cD l default hj,List.take_succ_eq_append_getElem hj,List.filter_append,h,List.filter_cons]
  cases p l[j] <;> simp
 rw [e,h,Nat.zero_add,List.take_length]
end Go.Sx
end
section
namespace Go.Sx
open Go.Proofs
set_option maxRecDepth 100000
set_option linter.unusedSimpArgs false
theorem BI {p : Prop} (h : p:=by (first | done | (repeat' (first | with_reducible refine And.intro ?_ ?_ | ((with_reducible show _≠_);first | assumption | omega | (simp_all [aG,aM];done) | grind) | with_reducible intro _)) <;> (first | done | exact Empty.elim ‹Empty› | assumption | rfl | omega | decide | exact fk [0,1,2,5] | exact fk [0,1,2,3] | (simp only [*,cond_true,cond_false,Bool.not_true,Bool.not_false,go_sem,Nat.reduceBEq,Nat.reduceLeDiff,Nat.reduceLT,decide_true,Nat.reduceAdd,Nat.reduceSub,Nat.reduceMul,Int.reduceLE,Int.reduceLT,Int.reduceToNat,Int.reduceNeg,reduceCtorEq];done) | (simp only [*,cond_true,cond_false,Bool.not_true,Bool.not_false,go_sem,Nat.reduceBEq,Nat.reduceLeDiff,Nat.reduceLT,decide_true,Nat.reduceAdd,Nat.reduceSub,Nat.reduceMul,Int.reduceLE,Int.reduceLT,Int.reduceToNat,Int.reduceNeg,reduceCtorEq];(repeat' (first | with_reducible refine And.intro ?_ ?_ | ((with_reducible show _≠_);first | assumption | omega | (simp_all [aG,aM];done) | grind) | with_reducible intro _)) <;> (first | done | assumption | rfl | omega | decide | exact fk [0,1,2,5] | exact fk [0,1,2,3] | (simp_all [aG,aM];done))) | (simp_all [okI,aG,aM];done) | (simp_all [aG,aM];(first | done | exact fk2 [0,1,2,5] | exact fk2 [0,1,2,3])) | exact fk2 [0,1,2,5] | exact fk2 [0,1,2,3] | (simp_all only [aG,aM,cond_true,cond_false];(first | done | exact fk [0,1,2,5] | exact fk [0,1,2,3] | exact fk2 [0,1,2,5] | exact fk2 [0,1,2,3] | (simp only [go_sem,Nat.reduceBEq,Nat.reduceLeDiff,Nat.reduceLT,decide_true,Nat.reduceAdd,Nat.reduceSub,Nat.reduceMul,Int.reduceLE,Int.reduceLT,Int.reduceToNat,Int.reduceNeg,reduceCtorEq];((repeat' (first | with_reducible refine And.intro ?_ ?_ | ((with_reducible show _≠_);first | assumption | omega | (simp_all [aG,aM];done) | grind) | with_reducible intro _)) <;> (first | done | rfl | exact fk [0,1,2,5] | exact fk [0,1,2,3] | exact fk2 [0,1,2,5] | exact fk2 [0,1,2,3])))))))) : p:=h
theorem BJ {p : Prop} (h : p:=by (first | done | (repeat' (first | with_reducible refine And.intro ?_ ?_ | ((with_reducible show _≠_);first | assumption | omega | (simp_all [aG,aM];done) | grind) | with_reducible intro _)) <;> (first | done | exact Empty.elim ‹Empty› | assumption | rfl | omega | decide | exact fk [0,1,2,3,4,8] | exact fk [0,1,2,3,4,5] | (simp only [*,cond_true,cond_false,Bool.not_true,Bool.not_false,go_sem,Nat.reduceBEq,Nat.reduceLeDiff,Nat.reduceLT,decide_true,Nat.reduceAdd,Nat.reduceSub,Nat.reduceMul,Int.reduceLE,Int.reduceLT,Int.reduceToNat,Int.reduceNeg,reduceCtorEq];done) | (simp only [*,cond_true,cond_false,Bool.not_true,Bool.not_false,go_sem,Nat.reduceBEq,Nat.reduceLeDiff,Nat.reduceLT,decide_true,Nat.reduceAdd,Nat.reduceSub,Nat.reduceMul,Int.reduceLE,Int.reduceLT,Int.reduceToNat,Int.reduceNeg,reduceCtorEq];(repeat' (first | with_reducible refine And.intro ?_ ?_ | ((with_reducible show _≠_);first | assumption | omega | (simp_all [aG,aM];done) | grind) | with_reducible intro _)) <;> (first | done | assumption | rfl | omega | decide | exact fk [0,1,2,3,4,8] | exact fk [0,1,2,3,4,5] | (simp_all [aG,aM];done))) | (simp_all [okI,aG,aM];done) | (simp_all [aG,aM];(first | done | exact fk2 [0,1,2,3,4,8] | exact fk2 [0,1,2,3,4,5])) | exact fk2 [0,1,2,3,4,8] | exact fk2 [0,1,2,3,4,5] | (simp_all only [aG,aM,cond_true,cond_false];(first | done | exact fk [0,1,2,3,4,8] | exact fk [0,1,2,3,4,5] | exact fk2 [0,1,2,3,4,8] | exact fk2 [0,1,2,3,4,5] | (simp only [go_sem,Nat.reduceBEq,Nat.reduceLeDiff,Nat.reduceLT,decide_true,Nat.reduceAdd,Nat.reduceSub,Nat.reduceMul,Int.reduceLE,Int.reduceLT,Int.reduceToNat,Int.reduceNeg,reduceCtorEq];((repeat' (first | with_reducible refine And.intro ?_ ?_ | ((with_reducible show _≠_);first | assumption | omega | (simp_all [aG,aM];done) | grind) | with_reducible intro _)) <;> (first | done | rfl | exact fk [0,1,2,3,4,8] | exact fk [0,1,2,3,4,5] | exact fk2 [0,1,2,3,4,8] | exact fk2 [0,1,2,3,4,5])))))))) : p:=h
theorem BK {p : Prop} (h : p:=by (first | done | (repeat' (first | with_reducible refine And.intro ?_ ?_ | ((with_reducible show _≠_);first | assumption | omega | (simp_all [aG,aM];done) | grind) | with_reducible intro _)) <;> (first | done | exact Empty.elim ‹Empty› | assumption | rfl | omega | decide | exact fk [0,1,2,3,4,5,9] | exact fk [0,1,2,3,4,5,6] | (simp only [*,cond_true,cond_false,Bool.not_true,Bool.not_false,go_sem,Nat.reduceBEq,Nat.reduceLeDiff,Nat.reduceLT,decide_true,Nat.reduceAdd,Nat.reduceSub,Nat.reduceMul,Int.reduceLE,Int.reduceLT,Int.reduceToNat,Int.reduceNeg,reduceCtorEq];done) | (simp only [*,cond_true,cond_false,Bool.not_true,Bool.not_false,go_sem,Nat.reduceBEq,Nat.reduceLeDiff,Nat.reduceLT,decide_true,Nat.reduceAdd,Nat.reduceSub,Nat.reduceMul,Int.reduceLE,Int.reduceLT,Int.reduceToNat,Int.reduceNeg,reduceCtorEq];(repeat' (first | with_reducible refine And.intro ?_ ?_ | ((with_reducible show _≠_);first | assumption | omega | (simp_all [aG,aM];done) | grind) | with_reducible intro _)) <;> (first | done | assumption | rfl | omega | decide | exact fk [0,1,2,3,4,5,9] | exact fk [0,1,2,3,4,5,6] | (simp_all [aG,aM];done))) | (simp_all [okI,aG,aM];done) | (simp_all [aG,aM];(first | done | exact fk2 [0,1,2,3,4,5,9] | exact fk2 [0,1,2,3,4,5,6])) | exact fk2 [0,1,2,3,4,5,9] | exact fk2 [0,1,2,3,4,5,6] | (simp_all only [aG,aM,cond_true,cond_false];(first | done | exact fk [0,1,2,3,4,5,9] | exact fk [0,1,2,3,4,5,6] | exact fk2 [0,1,2,3,4,5,9] | exact fk2 [0,1,2,3,4,5,6] | (simp only [go_sem,Nat.reduceBEq,Nat.reduceLeDiff,Nat.reduceLT,decide_true,Nat.reduceAdd,Nat.reduceSub,Nat.reduceMul,Int.reduceLE,Int.reduceLT,Int.reduceToNat,Int.reduceNeg,reduceCtorEq];((repeat' (first | with_reducible refine And.intro ?_ ?_ | ((with_reducible show _≠_);first | assumption | omega | (simp_all [aG,aM];done) | grind) | with_reducible intro _)) <;> (first | done | rfl | exact fk [0,1,2,3,4,5,9] | exact fk [0,1,2,3,4,5,6] | exact fk2 [0,1,2,3,4,5,9] | exact fk2 [0,1,2,3,4,5,6])))))))) : p:=h
theorem KZ {p : Prop} (h : p:=by simp only [go_sem,Nat.reduceBEq,Nat.reduceLeDiff,Nat.reduceLT,decide_true,Nat.reduceAdd,Nat.reduceSub,Nat.reduceMul,Int.reduceLE,Int.reduceLT,Int.reduceToNat,Int.reduceNeg,reduceCtorEq,hc,hw];all_goals exact BI) : p:=h
theorem K1 {p : Prop} (h : p:=by simp only [go_sem,Nat.reduceBEq,Nat.reduceLeDiff,Nat.reduceLT,decide_true,Nat.reduceAdd,Nat.reduceSub,Nat.reduceMul,Int.reduceLE,Int.reduceLT,Int.reduceToNat,Int.reduceNeg,reduceCtorEq,hc];all_goals exact BI) : p:=h
theorem K2 {p : Prop} (h : p:=by simp only [go_sem,Nat.reduceBEq,Nat.reduceLeDiff,Nat.reduceLT,decide_true,Nat.reduceAdd,Nat.reduceSub,Nat.reduceMul,Int.reduceLE,Int.reduceLT,Int.reduceToNat,Int.reduceNeg,reduceCtorEq,hc,hw];all_goals exact BJ) : p:=h
theorem K3 {p : Prop} (h : p:=by simp only [go_sem,Nat.reduceBEq,Nat.reduceLeDiff,Nat.reduceLT,decide_true,Nat.reduceAdd,Nat.reduceSub,Nat.reduceMul,Int.reduceLE,Int.reduceLT,Int.reduceToNat,Int.reduceNeg,reduceCtorEq,hc];all_goals exact BJ) : p:=h
theorem K4 {p : Prop} (h : p:=by simp only [go_sem,Nat.reduceBEq,Nat.reduceLeDiff,Nat.reduceLT,decide_true,Nat.reduceAdd,Nat.reduceSub,Nat.reduceMul,Int.reduceLE,Int.reduceLT,Int.reduceToNat,Int.reduceNeg,reduceCtorEq,hc,hw];all_goals exact BK) : p:=h
theorem K5 {p : Prop} (h : p:=by simp only [go_sem,Nat.reduceBEq,Nat.reduceLeDiff,Nat.reduceLT,decide_true,Nat.reduceAdd,Nat.reduceSub,Nat.reduceMul,Int.reduceLE,Int.reduceLT,Int.reduceToNat,Int.reduceNeg,reduceCtorEq,hc];all_goals exact BK) : p:=h
@[go_sem] def bL (a0 : District) (a1 : List Claim) (k_0 : Nat) (s_0 : List Claim) : Unit⊕(List Claim) :=(bif ((eE ((ak a0 a1).1) ((ae a1).getD k_0 (default : Claim))) !=(((aj a0 (bb s_0 ((ae a1).getD k_0 (default : Claim)))).2.2==0) && (aj a0 (bb s_0 ((ae a1).getD k_0 (default : Claim)))).2.1)) then .inl () else (bif (eE ((ak a0 a1).1) ((ae a1).getD k_0 (default : Claim))) then .inr (bb s_0 ((ae a1).getD k_0 (default : Claim))) else .inr s_0))
def eF (a0 : District) (a1 : List Claim) (k_0 : Nat) (s_0 : List Claim) : Prop:=((kV s_0 ((ae a1).getD k_0 (default : Claim)))∧(bC a0 (bb s_0 ((ae a1).getD k_0 (default : Claim)))))
@[go_sem] def bM (a1 : List Claim) (k_1 : Nat) (s_1 : List Claim) : Empty⊕(List Claim) :=(bif (!(((a1.getD k_1 (default : Claim)).right==((ae a1).getD (Int.toNat (IntKind.i64.wrap (((ae a1).length : Int) - 1))) (default : Claim)).right) && (((a1.getD k_1 (default : Claim)).farm==((ae a1).getD (Int.toNat (IntKind.i64.wrap (((ae a1).length : Int) - 1))) (default : Claim)).farm) && (((a1.getD k_1 (default : Claim)).hour==((ae a1).getD (Int.toNat (IntKind.i64.wrap (((ae a1).length : Int) - 1))) (default : Claim)).hour) && (((a1.getD k_1 (default : Claim)).litres==((ae a1).getD (Int.toNat (IntKind.i64.wrap (((ae a1).length : Int) - 1))) (default : Claim)).litres) && ((a1.getD k_1 (default : Claim)).rank==((ae a1).getD (Int.toNat (IntKind.i64.wrap (((ae a1).length : Int) - 1))) (default : Claim)).rank)))))) then .inr (s_1 ++ ([(a1.getD k_1 (default : Claim))])) else .inr s_1)
def eG (a1 : List Claim) (k_1 : Nat) (s_1 : List Claim) : Prop:=((!(((a1.getD k_1 (default : Claim)).right==((ae a1).getD (Int.toNat (IntKind.i64.wrap (((ae a1).length : Int) - 1))) (default : Claim)).right) && (((a1.getD k_1 (default : Claim)).farm==((ae a1).getD (Int.toNat (IntKind.i64.wrap (((ae a1).length : Int) - 1))) (default : Claim)).farm) && (((a1.getD k_1 (default : Claim)).hour==((ae a1).getD (Int.toNat (IntKind.i64.wrap (((ae a1).length : Int) - 1))) (default : Claim)).hour) && (((a1.getD k_1 (default : Claim)).litres==((ae a1).getD (Int.toNat (IntKind.i64.wrap (((ae a1).length : Int) - 1))) (default : Claim)).litres) && ((a1.getD k_1 (default : Claim)).rank==((ae a1).getD (Int.toNat (IntKind.i64.wrap (((ae a1).length : Int) - 1))) (default : Claim)).rank))))))=true→((s_1 ++ ([(a1.getD k_1 (default : Claim))])).length * 40≤dY))
@[go_sem] def b7 (a0 : District) (a1 : List Claim) (k_2 : Nat) (s_2 : List Claim) : Empty⊕(List Claim) :=(bif (!(((((ak a0 a1).1).getD k_2 (default : Claim)).right==((ae a1).getD (Int.toNat (IntKind.i64.wrap (((ae a1).length : Int) - 1))) (default : Claim)).right) && (((((ak a0 a1).1).getD k_2 (default : Claim)).farm==((ae a1).getD (Int.toNat (IntKind.i64.wrap (((ae a1).length : Int) - 1))) (default : Claim)).farm) && (((((ak a0 a1).1).getD k_2 (default : Claim)).hour==((ae a1).getD (Int.toNat (IntKind.i64.wrap (((ae a1).length : Int) - 1))) (default : Claim)).hour) && (((((ak a0 a1).1).getD k_2 (default : Claim)).litres==((ae a1).getD (Int.toNat (IntKind.i64.wrap (((ae a1).length : Int) - 1))) (default : Claim)).litres) && ((((ak a0 a1).1).getD k_2 (default : Claim)).rank==((ae a1).getD (Int.toNat (IntKind.i64.wrap (((ae a1).length : Int) - 1))) (default : Claim)).rank)))))) then .inr (s_2 ++ ([(((ak a0 a1).1).getD k_2 (default : Claim))])) else .inr s_2)
def eH (a0 : District) (a1 : List Claim) (k_2 : Nat) (s_2 : List Claim) : Prop:=((!(((((ak a0 a1).1).getD k_2 (default : Claim)).right==((ae a1).getD (Int.toNat (IntKind.i64.wrap (((ae a1).length : Int) - 1))) (default : Claim)).right) && (((((ak a0 a1).1).getD k_2 (default : Claim)).farm==((ae a1).getD (Int.toNat (IntKind.i64.wrap (((ae a1).length : Int) - 1))) (default : Claim)).farm) && (((((ak a0 a1).1).getD k_2 (default : Claim)).hour==((ae a1).getD (Int.toNat (IntKind.i64.wrap (((ae a1).length : Int) - 1))) (default : Claim)).hour) && (((((ak a0 a1).1).getD k_2 (default : Claim)).litres==((ae a1).getD (Int.toNat (IntKind.i64.wrap (((ae a1).length : Int) - 1))) (default : Claim)).litres) && ((((ak a0 a1).1).getD k_2 (default : Claim)).rank==((ae a1).getD (Int.toNat (IntKind.i64.wrap (((ae a1).length : Int) - 1))) (default : Claim)).rank))))))=true→((s_2 ++ ([(((ak a0 a1).1).getD k_2 (default : Claim))])).length * 40≤dY))
def dH (a0 : District) (a1 : List Claim) : Bool:=(bif (!gq) then false else (bif ((!(jE a0 a1)) || (decide ((a1.length : Int) > 24))) then true else (bif ((ak a0 a1).2 !=0) then ((((ak a0 a1).1).length : Int) ==0) else (bif (((((aj a0 ((ak a0 a1).1)).2.2 !=0) || (!(aj a0 ((ak a0 a1).1)).2.1)) || (((aj a0 a1).2.2==0) && ((aj a0 a1).2.1 !=((((ak a0 a1).1).length : Int) ==(a1.length : Int))))) || (decide ((((ak a0 a1).1).length : Int) > (a1.length : Int)))) then false else (bif ((a1.length : Int) ==0) then true else (match az (bL a0 a1) ((ae a1).length) 0 ([]) with | .inl x_0_0=> false | .inr s_0=> (bif (!(dg s_0 ((ak a0 a1).1))) then false else (match az (bM a1) a1.length 0 ([]) with | .inl x=> x.elim | .inr s_1=> (match az (b7 a0 a1) (((ak a0 a1).1).length) 0 ([]) with | .inl x=> x.elim | .inr s_2=> (((ak a0 s_1).2==0) && (dg ((ak a0 s_1).1) s_2)))))))))))
def d8 (a0 : District) (a1 : List Claim) : Prop:=((jb)∧((!gq)=false→(((!(jE a0 a1)) || (decide ((a1.length : Int) > 24)))=false→((dK a0 a1)∧(((ak a0 a1).2 !=0)=false→((bC a0 a1)∧((bC a0 ((ak a0 a1).1))∧((((((aj a0 ((ak a0 a1).1)).2.2 !=0) || (!(aj a0 ((ak a0 a1).1)).2.1)) || (((aj a0 a1).2.2==0) && ((aj a0 a1).2.1 !=((((ak a0 a1).1).length : Int) ==(a1.length : Int))))) || (decide ((((ak a0 a1).1).length : Int) > (a1.length : Int))))=false→(a1.length≤bg→(((a1.length : Int) ==0)=false→((fa a1)∧((ae a1).length≤bg→(okI (bL a0 a1) (eF a0 a1) ((ae a1).length) 0 ([])∧(∀ s_0,az (bL a0 a1) ((ae a1).length) 0 ([])= .inr s_0→((dL s_0 ((ak a0 a1).1))∧((!(dg s_0 ((ak a0 a1).1)))=false→((ae a1).length≤bg→((0≤(IntKind.i64.wrap (((ae a1).length : Int) - 1))∧(IntKind.i64.wrap (((ae a1).length : Int) - 1)) < ((ae a1).length : Int))∧(a1.length≤bg→(okI (bM a1) (eG a1) a1.length 0 ([])∧(∀ s_1,az (bM a1) a1.length 0 ([])= .inr s_1→(((ak a0 a1).1).length≤bg→(okI (b7 a0 a1) (eH a0 a1) (((ak a0 a1).1).length) 0 ([])∧(∀ s_2,az (b7 a0 a1) (((ak a0 a1).1).length) 0 ([])= .inr s_2→((dK a0 s_1)∧(((ak a0 s_1).2==0)=true→(dL ((ak a0 s_1).1) s_2)))))))))))))))))))))))))))
@[go_sem] def fo : List SV→Option Con:=(pD .district fun a0=> (pR .claim fun a1=> (pE (.det (d8 a0 a1) (.v (.bool (dH a0 a1)))))))
set_option maxHeartbeats 4000000 in
theorem mA : FnOk Tryz.prog 6 fo:=by
 have hG : ConsOk Tryz.prog (mkG [(10,sM),(11,fun l=> uh (c6 [.st .district,.sl .claim] l)),(12,fun l=> jC (c6 [.st .district,.sl .claim] l)),(17,fun l=> im (c6 [.st .district,.sl .claim] l)),(19,fun l=> io (c6 [.sl .claim,.sl .claim] l)),(21,fun l=> kK (c6 [.sl .claim] l)),(22,fun l=> sO (c6 [.sl .claim,.st .claim] l)),(23,fun l=> sN (c6 [.sl .claim,.st .claim] l))] [(12,eD)]) :=aQ (cgc xv (cgc (zx.norm [.st .district,.sl .claim]) (cgc (mn.norm [.st .district,.sl .claim]) (cgc (kI.norm [.st .district,.sl .claim]) (cgc (kJ.norm [.sl .claim,.sl .claim]) (cgc (pL.norm [.sl .claim]) (cgc (xx.norm [.sl .claim,.st .claim]) (cgc (xw.norm [.sl .claim,.st .claim]) cg0)))))))) (cgc gW cg0)
 refine a8 [.o] mixed aH hG (fn:=Tryz.f6) (c:=an Tryz.f6) (by kernel_rfl) (by kernel_rfl) (by kernel_rfl) (by kernel_rfl) (bI fun a0=> (dl fun a1=> (aN (fun hp=> ?_))))
 dsimp only [aT] at hp
 unfold d8 at hp
 refine ⟨Nat.le_of_ble_eq_true rfl,(fun id st=> bif Nat.beq id 0 then some (LCR (ρ:=Unit) (σ:=(List Claim)) 3 [.slot 14 (.row .claim ([]))] [0,1,2,3] (fun k_0 s_0=> ⟨[(1,.rs .claim a1),(2,.ptr 0 0),(5,.os 1),(13,.os 2),(14,.os 3),(97,.os 2),(98,.v (.int .i64 ((ae a1).length : Int))),(99,.v (.int .i64 (k_0 : Int)))],[.cells (cellsOf .district a0),.row .claim ((ak a0 a1).1),.row .claim (ae a1),.row .claim s_0]⟩) (bL a0 a1) (eF a0 a1) ((ae a1).length) ([]) ((ae a1).length≤bg) (fun _=> .ret) (fun x_0_0=> ⟨[(4,.v (.bool false))],[.dead,.dead,.dead,.dead]⟩) st) else bif Nat.beq id 2 then some (LCR (ρ:=Empty) (σ:=(List Claim)) 5 [.slot 22 (.row .claim ([]))] [0,1,2,3,4,5] (fun k_1 s_1=> ⟨[(2,.ptr 0 0),(5,.os 1),(21,.ptr 4 0),(22,.os 5),(23,.v (.slice none 0 0)),(137,.rs .claim a1),(138,.v (.int .i64 (a1.length : Int))),(139,.v (.int .i64 (k_1 : Int)))],[.cells (cellsOf .district a0),.row .claim ((ak a0 a1).1),.dead,.dead,.cells (cellsOf .claim ((ae a1).getD (Int.toNat (IntKind.i64.wrap (((ae a1).length : Int) - 1))) (default : Claim))),.row .claim s_1]⟩) (bM a1) (eG a1) a1.length ([]) (a1.length≤bg) ((·.elim)) ((·.elim)) st) else bif Nat.beq id 4 then some (LCR (ρ:=Empty) (σ:=(List Claim)) 6 [.slot 23 (.row .claim ([]))] [0,1,2,3,4,5,6] (fun k_2 s_2=> ⟨[(2,.ptr 0 0),(21,.ptr 4 0),(22,.os 5),(23,.os 6),(151,.os 1),(152,.v (.int .i64 (((ak a0 a1).1).length : Int))),(153,.v (.int .i64 (k_2 : Int)))],[.cells (cellsOf .district a0),.row .claim ((ak a0 a1).1),.dead,.dead,.cells (cellsOf .claim ((ae a1).getD (Int.toNat (IntKind.i64.wrap (((ae a1).length : Int) - 1))) (default : Claim))),.row .claim (aG (az (bM a1) a1.length 0 ([]))),.row .claim s_2]⟩) (b7 a0 a1) (eH a0 a1) (((ak a0 a1).1).length) ([]) (((ak a0 a1).1).length≤bg) ((·.elim)) ((·.elim)) st) else none),?_,?_⟩
 ·unfold an Tryz.f6
  simp only [aA,true_and,and_true]
  refine ⟨?_,?_,?_⟩
  ·refine db mixed aH hG (by kernel_rfl) (fun _=> rfl) ((ae a1).length : Int) rfl kQ (fun hb0 k_0 s_0 hlt0 hq0 hw hc=> ⟨L0,ay _,?_⟩) (fun hb0 s_0 hc=> ?_)
   ·unfold eF at hq0
    try simp only [hw,Int.toNat_natCast] at hq0
    exact KZ
   ·exact K1
  ·refine db mixed aH hG (by kernel_rfl) (fun _=> rfl) (a1.length : Int) rfl kQ (fun hb1 k_1 s_1 hlt1 hq1 hw hc=> ⟨L0,ay _,?_⟩) (fun hb1 s_1 hc=> ?_)
   ·unfold eG at hq1
    try simp only [hw,Int.toNat_natCast] at hq1
    exact K2
   ·exact K3
  ·refine db mixed aH hG (by kernel_rfl) (fun _=> rfl) (((ak a0 a1).1).length : Int) rfl kQ (fun hb2 k_2 s_2 hlt2 hq2 hw hc=> ⟨L0,ay _,?_⟩) (fun hb2 s_2 hc=> ?_)
   ·unfold eH at hq2
    try simp only [hw,Int.toNat_natCast] at hq2
    exact K4
   ·exact K5
 ·unfold an Tryz.f6
  try unfold dH
  simp only [go_sem,Nat.reduceBEq,Nat.reduceLeDiff,Nat.reduceLT,decide_true,Nat.reduceAdd,Nat.reduceSub,Nat.reduceMul,Int.reduceLE,Int.reduceLT,Int.reduceToNat,Int.reduceNeg,reduceCtorEq]
  all_goals exact cl
end Go.Sx
end
section
namespace Go.Sx
open Go.Proofs Go.Shelf Go.Sort Go.Lib
set_option maxRecDepth 100000
theorem FI {ρ σ : Type} {step : Nat→σ→ρ⊕σ} (J : Nat→σ→Prop) : ∀ (n i : Nat) (s : σ),J i s→(∀ j s,i≤j→j < i + n→J j s→∃ s',step j s= .inr s'∧J (j + 1) s')→∃ s',az step n i s= .inr s'∧J (i + n) s'
 | 0,i,s,h,_=> ⟨s,rfl,h⟩
 | n + 1,i,s,h,hs=> by
  obtain ⟨s',e,h'⟩ :=hs i s (Nat.le_refl _) (by omega) h
  obtain ⟨s2,e2,h2⟩ :=FI J n (i + 1) s' h' fun j s h1 h2=> hs j s (by omega) (by omega)
  exact ⟨s2,by unfold az;rw [e];exact e2,by rw [show i + (n + 1)=i + 1 + n by omega];exact h2⟩
abbrev snL (c : List Claim) : List Claim:=ag c
abbrev snS (d : District) (c : List Claim) : List Claim:=gk d (snL c) (snL c).length
section
variable {d : District} {c : List Claim}
theorem ru : (snL c).length=c.length:=(pH c).length_eq
theorem kX : (snL c).Perm c:=pH c
theorem C7 (hA : Askd d c) {k : Nat} (hk : k≤(snL c).length) : (gk d (snL c) k).Sublist c:=by
 obtain ⟨_,hl,_,hc⟩ :=(cr d c).1 hA.chk
 obtain ⟨h1,h2,_⟩ :=w7 (d:=d) hc hl (kX (c:=c)) k hk
 exact nQ hc h1 fun y hy=> (kX (c:=c)).mem_iff.1 (List.mem_of_mem_take (h2 y hy))
theorem Pv (hA : Askd d c) {k : Nat} (hk : k < (snL c).length) : (bb (gk d (snL c) k) (snL c)[k]).Sublist c:=by
 obtain ⟨_,hl,_,hc⟩ :=(cr d c).1 hA.chk
 obtain ⟨_,h1,h2⟩ :=qi (d:=d) hc hl (kX (c:=c)) hk
 refine nQ hc h1 fun y hy=> ?_
 rcases List.mem_cons.1 (h2.mem_iff.1 hy) with rfl | hy
 ·exact (kX (c:=c)).mem_iff.1 (List.getElem_mem _)
 ·exact (C7 hA (by omega)).subset hy
theorem K6 (hA : Askd d c) : ∀ k,k≤(snL c).length→can d (gk d (snL c) k)=true
 | 0,_=> by
  have : gk d (snL c) 0=[] :=by simp [gk]
  rw [this];exact Pu hA
 | k + 1,hk=> by
  rw [kW hk]
  unfold gst
  cases h : can d (bb (gk d (snL c) k) (snL c)[k]) with
  | true=> exact h
  | false=> exact K6 hA k (by omega)
theorem K7 (hA : Askd d c) (h : can d c=true) : ∀ k,k≤(snL c).length→(gk d (snL c) k).length=k
 | 0,_=> by simp [gk]
 | k + 1,hk=> by
  obtain ⟨_,hl,_,hc⟩ :=(cr d c).1 hA.chk
  rw [kW hk]
  unfold gst
  rw [Pt hA (Pv hA hk) h,cond_true,(qi (d:=d) hc hl (kX (c:=c)) hk).2.2.length_eq,List.length_cons,K7 hA h k (by omega)]
theorem Sv (hA : Askd d c) : (((((aj d (snS d c)).2.2 !=0) || (!(aj d (snS d c)).2.1)) || (((aj d c).2.2==0) && ((aj d c).2.1 !=(((snS d c).length : Int) ==(c.length : Int))))) || (decide (((snS d c).length : Int) > (c.length : Int))))=false:=by
 have hk:=K6 hA _ (Nat.le_refl _)
 have hs:=C7 hA (Nat.le_refl _)
 have hle : (snS d c).length≤c.length:=hs.length_le
 have hk0:=hk
 unfold can at hk
 simp only [Bool.and_eq_true,beq_iff_eq] at hk
 rw [hk.1,hk.2,decide_eq_false (p:=((snS d c).length : Int) > (c.length : Int)) (by omega)]
 simp only [bne_self_eq_false,Bool.not_true,Bool.or_false,Bool.false_or]
 cases he : ((aj d c).2.2==0) with
 | false=> rfl
 | true=>
  rw [Bool.true_and]
  cases ha : (aj d c).2.1 with
  | true=>
   have hcc : can d c=true:=by unfold can;rw [he,ha];rfl
   have:=K7 hA hcc _ (Nat.le_refl _)
   rw [ru] at this
   have e : (((snS d c).length : Int) ==(c.length : Int))=true:=by rw [beq_iff_eq];show ((gk d (snL c) (snL c).length).length : Int)=_;rw [ru,this]
   rw [e];rfl
  | false=>
   cases e : (((snS d c).length : Int) ==(c.length : Int)) with
   | false=> rfl
   | true=>
    have e' : (snS d c).length=c.length:=by rw [beq_iff_eq] at e;omega
    have e2 : snS d c=c:=hs.eq_of_length e'
    have e3 : can d c=true:=by rw [←e2];exact hk0
    unfold can at e3
    rw [ha,Bool.and_false] at e3;cases e3
theorem Wj (hA : Askd d c) : az (bL d c) (snL c).length 0 []= .inr (snS d c) :=by
 obtain ⟨_,hl,_,hc⟩ :=(cr d c).1 hA.chk
 obtain ⟨s,e,h⟩ :=FI (step:=bL d c) (fun j s=> s=gk d (snL c) j) (snL c).length 0 [] (by simp [gk]) fun j s _ hj h=> by
  have hj : j < (snL c).length:=by omega
  subst h
  refine ⟨_,?_,rfl⟩
  have hb : eE (snS d c) (snL c)[j]=can d (bb (gk d (snL c) j) (snL c)[j]) :=by
   rw [Bool.eq_iff_iff,KY]
   exact Su hc hl (kX (c:=c)) hj
  unfold bL
  rw [(pN hc (by omega)).1,cD (snL c) default hj,nt hA]
  show (bif (eE (snS d c) (snL c)[j] !=can d (bb (gk d (snL c) j) (snL c)[j])) then _ else bif eE (snS d c) (snL c)[j] then _ else _)=_
  rw [hb,bne_self_eq_false,cond_false,kW hj]
  unfold gst
  cases can d (bb (gk d (snL c) j) (snL c)[j]) <;> rfl
 rw [e,h,Nat.zero_add]
def ju (c : List Claim) : Claim:=(snL c).getD (Int.toNat (IntKind.i64.wrap (((snL c).length : Int) - 1))) (default : Claim)
theorem K8 (hn : 0 < (snL c).length) (hl : (snL c).length≤100000) : ju c=(snL c)[(snL c).length - 1] :=by
 unfold ju
 rw [da (by omega) (by omega),show (((snL c).length : Int) - 1).toNat=(snL c).length - 1 by omega,cD _ default (by omega)]
theorem FJ (hA : Askd d c) (hn : 0 < (snL c).length) : ∀ y∈(snL c).take ((snL c).length - 1),(!decide (y=ju c))=true:=fun y hy=> by
 obtain ⟨_,hl,_,hc⟩ :=(cr d c).1 hA.chk
 have:=ru (c:=c)
 rw [K8 hn (by omega)]
 rw [decide_eq_false (p:=y=(snL c)[(snL c).length - 1])]
 ·rfl
 ·intro e
  exact nr (lR (kX (c:=c)) (qh hc)) (by omega) (e▸hy)
theorem Pw (hA : Askd d c) (hn : 0 < (snL c).length) : ak d (c.filter fun y=> !decide (y=ju c))=(gk d (snL c) ((snL c).length - 1),0) :=by
 obtain ⟨_,hl,_,hc⟩ :=(cr d c).1 hA.chk
 have hlen:=ru (c:=c)
 have hs : ag (c.filter fun y=> !decide (y=ju c))=(snL c).take ((snL c).length - 1) :=by
  refine BE ?_ ((pN hc (by omega)).2.sublist (List.take_sublist _ _))
  have h1 : ((snL c).filter fun y=> !decide (y=ju c)).Perm (c.filter fun y=> !decide (y=ju c)) :=(kX (c:=c)).filter _
  have h2 : (snL c).filter (fun y=> !decide (y=ju c))=(snL c).take ((snL c).length - 1) :=by
   have e : snL c=(snL c).take ((snL c).length - 1) ++ [(snL c)[(snL c).length - 1]] :=by
    rw [←List.take_succ_eq_append_getElem (by omega),show (snL c).length - 1 + 1=(snL c).length by omega,List.take_length]
   conv=> lhs;rw [e]
   rw [List.filter_append,List.filter_eq_self.2 (FJ hA hn),K8 hn (by omega)]
   simp
  rw [←h2];exact h1
 rw [nt (KX hA List.filter_sublist),hs]
 unfold gk
 rw [List.take_length]
theorem Px (hA : Askd d c) (hn : 0 < (snL c).length) : ((snS d c).filter fun y=> !decide (y=ju c))=gk d (snL c) ((snL c).length - 1) :=by
 obtain ⟨_,hl,_,hc⟩ :=(cr d c).1 hA.chk
 have hlen:=ru (c:=c)
 have hk : (snL c).length - 1 < (snL c).length:=by omega
 obtain ⟨_,h2,h3⟩ :=w7 (d:=d) hc hl (kX (c:=c)) ((snL c).length - 1) (by omega)
 have hall : ∀ y∈gk d (snL c) ((snL c).length - 1),(!decide (y=ju c))=true:=fun y hy=> FJ hA hn y (h2 y hy)
 have e : snS d c=gst d (gk d (snL c) ((snL c).length - 1)) (snL c)[(snL c).length - 1] :=by
  rw [←kW hk,show (snL c).length - 1 + 1=(snL c).length by omega]
 rw [e]
 unfold gst
 cases can d (bb (gk d (snL c) ((snL c).length - 1)) (snL c)[(snL c).length - 1]) with
 | true=>
  rw [cond_true,zA _ _ (by omega)]
  exact wZ _ _ _ (by rw [K8 hn (by omega)];simp) hall
 | false=> rw [cond_false];exact List.filter_eq_self.2 hall
end
theorem C8 (d : District) (c : List Claim) : dH d c=true:=by
 unfold dH
 rw [KM]
 simp only [Bool.not_true,cond_false]
 cases hf : ((!(jE d c)) || (decide ((c.length : Int) > 24))) with
 | true=> rfl
 | false=>
  rw [cond_false]
  by_cases hA : Askd d c
  ·obtain ⟨_,hl,_,hc⟩ :=(cr d c).1 hA.chk
   have hlen:=ru (c:=c)
   have e1 : (ak d c).1=snS d c:=by rw [nt hA]
   have e2 : (ak d c).2=0:=by rw [nt hA]
   rw [e1,e2,bne_self_eq_false,cond_false,Sv hA,cond_false]
   cases he : ((c.length : Int) ==0) with
   | true=> rfl
   | false=>
    have hn : 0 < (snL c).length:=by
     rw [beq_eq_false_iff_ne] at he
     omega
    have l1 : az (bM c) c.length 0 []= .inr (c.filter fun y=> !decide (y=ju c)) :=w8 fun j s=> by
     unfold bM
     rw [(pN hc (by omega)).1,k_];rfl
    have l2 : az (b7 d c) (snS d c).length 0 []= .inr ((snS d c).filter fun y=> !decide (y=ju c)) :=w8 fun j s=> by
     unfold b7
     rw [(pN hc (by omega)).1,e1,k_];rfl
    rw [cond_false,(pN hc (by omega)).1,Wj hA]
    dsimp only
    rw [yC,Bool.not_true,cond_false,l1]
    dsimp only
    rw [l2]
    dsimp only
    rw [Pw hA hn,Px hA hn,yC]
    rfl
  ·have h0 : ((am d c).2 !=0)=true:=bne_iff_ne.2 fun e=> hA (gE.1 e)
   have : ak d c=([],(am d c).2) :=by
    unfold ak
    rw [h0];rfl
   rw [this]
   dsimp only
   rw [h0,cond_true];rfl
theorem C9 (d : District) (c : List Claim) : d8 d c:=by
 refine ⟨KO,fun _ hf=> ⟨tM d c,fun he=> ?_⟩⟩
 have hA : Askd d c:=by
  refine gE.1 ?_
  cases h0 : ((am d c).2 !=0) with
  | false=> simpa using h0
  | true=>
   unfold ak at he
   rw [h0,cond_true] at he
   rw [h0] at he;cases he
 obtain ⟨_,hl,_,hc⟩ :=(cr d c).1 hA.chk
 have hlen:=ru (c:=c)
 have e1 : (ak d c).1=snS d c:=by rw [nt hA]
 have h24 : c.length≤24:=by
  simp only [Bool.or_eq_false_iff,decide_eq_false_iff_not] at hf
  omega
 have hb : (ae c).length=c.length:=by rw [(pN hc (by omega)).1];exact hlen
 have hS : (ak d c).1.length≤24:=by
  rw [e1];exact Nat.le_trans (C7 hA (Nat.le_refl _)).length_le h24
 refine ⟨qg _ _,qg _ _,fun _ _ h0=> ⟨Ss c (by omega),fun _=> ⟨?_,fun s0 _=> ⟨wX _ _,fun _ _=> ⟨?_,fun _=> ⟨?_,fun s1 _ _=> ⟨?_,fun s2 _=> ⟨tM _ _,fun _=> wX _ _⟩⟩⟩⟩⟩⟩⟩⟩
 ·refine hY (fun j s=> s.length≤j) _ _ _ (Nat.le_refl _) fun j s _ hj hs=> ⟨⟨Ps _ _ (by omega),qg _ _⟩,fun s' e=> ?_⟩
  unfold bL at e
  generalize (eE ((ak d c).1) ((ae c).getD j (default : Claim)) !=(((aj d (bb s ((ae c).getD j (default : Claim)))).2.2==0) && (aj d (bb s ((ae c).getD j (default : Claim)))).2.1))=b1 at e
  generalize eE ((ak d c).1) ((ae c).getD j (default : Claim))=b2 at e
  cases b1 with
  | true=> cases e
  | false=>
   rw [cond_false] at e
   cases b2 with
   | true=>
    cases e
    rw [zA _ _ (by omega),FG];omega
   | false=> cases e;omega
 ·rw [beq_eq_false_iff_ne] at h0
  rw [hb,da (by omega) (by omega)]
  omega
 ·refine hY (fun j s=> s.length≤j) _ _ _ (Nat.le_refl _) fun j s _ hj hs=> ⟨fun _=> by unfold dY;simp;omega,fun s' e=> ?_⟩
  unfold bM at e
  rw [k_,(pN hc (by omega)).1] at e
  change (bif !decide (c.getD j default=ju c) then Sum.inr (s ++ [c.getD j default]) else Sum.inr s)=(Sum.inr s' : Empty⊕List Claim) at e
  generalize decide (c.getD j default=ju c)=b at e
  cases b with
  | true=> cases e;omega
  | false=> cases e;simp;omega
 ·refine hY (fun j s=> s.length≤j) _ _ _ (Nat.le_refl _) fun j s _ hj hs=> ⟨fun _=> by unfold dY;simp;omega,fun s' e=> ?_⟩
  unfold b7 at e
  rw [k_,(pN hc (by omega)).1] at e
  change (bif !decide (((ak d c).1).getD j default=ju c) then Sum.inr (s ++ [((ak d c).1).getD j default]) else Sum.inr s)=(Sum.inr s' : Empty⊕List Claim) at e
  generalize decide (((ak d c).1).getD j default=ju c)=b at e
  cases b with
  | true=> cases e;omega
  | false=> cases e;simp;omega
end Go.Sx
end
section
namespace Go.Sx
open Go.RowKit Go.Deep
section
variable {F : Nat→Prop} {own : Own} {w : World}
def RC (F : Nat→Prop) (own : Own) (w : World) (ks : List Kd) (cs : List Value) : Prop:=
 ∃ l : List SV,mD ks l=true∧l.length=cs.length∧∀ (j : Nat) (s : SV) (v : Value),l[j]? =some s→cs[j]? =some v→Rel F own w s v
theorem BL : ∀ {a b : List Kd} {l m : List SV},mD a l=true→mD b m=true→mD (a ++ b) (l ++ m)=true
 | [],b,l,m,h1,h2=> by rw [mN h1];exact h2
 | k :: a,b,l,m,h1,h2=> by
  obtain ⟨x,r,rfl,e1,e2⟩ :=jq h1
  simp only [List.cons_append,mD,e1,BL e2 h2,Bool.and_self]
theorem RC.nil : RC F own w [] [] :=⟨[],rfl,rfl,fun j s v h=> by cases h⟩
theorem RC.app {a b : List Kd} {c d : List Value} (h1 : RC F own w a c) (h2 : RC F own w b d) : RC F own w (a ++ b) (c ++ d) :=by
 obtain ⟨l,f1,n1,r1⟩ :=h1
 obtain ⟨m,f2,n2,r2⟩ :=h2
 refine ⟨l ++ m,BL f1 f2,by simp [n1,n2],fun j s v hs hv=> ?_⟩
 by_cases hj : j < l.length
 ·rw [List.getElem?_append_left hj] at hs
  rw [List.getElem?_append_left (by omega)] at hv
  exact r1 j s v hs hv
 ·rw [List.getElem?_append_right (by omega)] at hs
  rw [List.getElem?_append_right (by omega),←n1] at hv
  exact r2 _ s v hs hv
theorem RC.one {k : Kd} {s : SV} {v : Value} (h1 : fit k s=true) (h2 : Rel F own w s v) : RC F own w [k] [v] :=
 ⟨[s],by simp [mD,h1],rfl,fun j s' v' hs hv=> by
  cases j with
  | zero=> simp only [List.getElem?_cons_zero,Option.some.injEq] at hs hv;subst hs;subst hv;exact h2
  | succ j=> simp at hs⟩
end
def Sw : Kd→Kd→Bool
 | .s,.s=> true
 | .b,.b=> true
 | .n a,.n b=> decide (a=b)
 | .r a,.r b=> decide (a=b)
 | .m a c,.m b d=> decide (a=b) && decide (c=d)
 | _,_=> false
theorem Py : ∀ {a b : Kd},Sw a b=true→a=b:=by
 intro a b h
 cases a <;> cases b <;> simp_all [Sw]
def K9 : List Kd→List Kd→Bool
 | [],[] => true
 | a :: l,b :: m=> Sw a b && K9 l m
 | _,_=> false
theorem FK : ∀ {a b : List Kd},K9 a b=true→a=b
 | [],[],_=> rfl
 | a :: l,b :: m,h=> by
  simp only [K9,Bool.and_eq_true] at h
  rw [Py h.1,FK h.2]
def w9 (P : Program) (g : TypeId→Option (List Kd)) : List Field→Nat→Nat→Option (List Kd)
 | [],off,tot=> bif Nat.beq off tot then some [] else none
 | f :: r,off,tot=> match g f.type with
  | some a=> bif Nat.beq f.offset off && Nat.beq a.length (P.cellsOf f.type) then (w9 P g r (off + a.length) tot).map (a ++ ·) else none
  | none=> none
def C_ (a : List Kd) : Nat→List Kd
 | 0=> []
 | n + 1=> a ++ C_ a n
def w_ (P : Program) : Nat→TypeId→Option (List Kd)
 | 0,_=> none
 | n + 1,t=> match P.underlying t with
  | some .bool=> some [.b]
  | some (.int k) => some [.n k]
  | some .string=> some [.s]
  | some (.slice e) => match zN P e,w_ P n e with
   | some k,some ks=> bif K9 ks (cw k) && Nat.beq (P.cellsOf e) (aa k) && Nat.ble 1 (aa k) then some [.r k] else none
   | _,_=> none
  | some (.struct fs) => w9 P (w_ P n) fs.toList 0 (P.cellsOf t)
  | some (.array m e) => match w_ P n e with
   | some a=> bif Nat.beq a.length (P.cellsOf e) && Nat.beq (P.cellsOf t) (m * a.length) then some (C_ a m) else none
   | none=> none
  | _=> none
section
variable {H : Type} {enc : TypeId×Value→H} {P : Program} {F : Nat→Prop} {own : Own} {w : World} {base : Nat} {spare : Nat→Bool} {held : Bool} {S : DataW H→Prop}
theorem FL {g : TypeId→Option (List Kd)} (hg : ∀ t ks,g t=some ks→∀ (fuel : Nat) (cs : List Value) (x : DataW H×List MemPlace),DataW.trod enc P w base spare held fuel t cs=some x→S x.1→RC F own w ks cs)
  (fuel : Nat) (cs : List Value) : ∀ (fs : List Field) (off : Nat) (ks : List Kd),w9 P g fs off cs.length=some ks→(∀ f∈fs,∃ x,DataW.trod enc P w base spare held fuel f.type ((cs.drop f.offset).take (P.cellsOf f.type))=some x∧S x.1)→RC F own w ks (cs.drop off)
 | [],off,ks,h,_=> by
  unfold w9 at h
  cases hb : Nat.beq off cs.length with
  | false=> rw [hb] at h;cases h
  | true=>
   rw [hb] at h
   have : off=cs.length:=Nat.eq_of_beq_eq_true hb
   subst this
   cases h
   rw [List.drop_length]
   exact RC.nil
 | f :: r,off,ks,h,hx=> by
  unfold w9 at h
  cases ha : g f.type with
  | none=> rw [ha] at h;cases h
  | some a=>
   rw [ha] at h
   dsimp only at h
   cases hb : Nat.beq f.offset off && Nat.beq a.length (P.cellsOf f.type) with
   | false=> rw [hb] at h;cases h
   | true=>
    rw [hb] at h
    simp only [cond_true,Option.map_eq_some_iff] at h
    obtain ⟨ks2,h2,rfl⟩ :=h
    rw [Bool.and_eq_true] at hb
    have e1 : f.offset=off:=Nat.eq_of_beq_eq_true hb.1
    have e2 : a.length=P.cellsOf f.type:=Nat.eq_of_beq_eq_true hb.2
    obtain ⟨x,hx1,hs1⟩ :=hx f (by simp)
    have h3:=hg _ _ ha _ _ _ hx1 hs1
    have h4:=FL hg fuel cs r (off + a.length) ks2 h2 fun f hf=> hx f (by simp [hf])
    have:=h3.app h4
    rw [e1,←e2] at this
    rwa [←List.drop_drop,List.take_append_drop] at this
theorem FM {e : TypeId} {a : List Kd} (ha : ∀ (fuel : Nat) (cs : List Value) (x : DataW H×List MemPlace),DataW.trod enc P w base spare held fuel e cs=some x→S x.1→RC F own w a cs)
  (fuel : Nat) : ∀ (m : Nat) (cs : List Value),cs.length=m * a.length→(∀ i,i < m→∃ x,DataW.trod enc P w base spare held fuel e ((cs.drop (i * a.length)).take a.length)=some x∧S x.1)→RC F own w (C_ a m) cs
 | 0,cs,h,_=> by
  have : cs=[] :=by simpa using h
  subst this
  exact RC.nil
 | m + 1,cs,h,hx=> by
  obtain ⟨x,hx1,hs1⟩ :=hx 0 (by omega)
  rw [Nat.zero_mul,List.drop_zero] at hx1
  have h3:=ha _ _ _ hx1 hs1
  have h4:=FM ha fuel m (cs.drop a.length) (by rw [List.length_drop,h,Nat.succ_mul];omega) fun i hi=> by
   obtain ⟨x,hx2,hs2⟩ :=hx (i + 1) (by omega)
   refine ⟨x,?_,hs2⟩
   rw [List.drop_drop]
   rwa [Nat.succ_mul,Nat.add_comm] at hx2
  have:=h3.app h4
  rwa [List.take_append_drop] at this
structure Small (S : DataW H→Prop) : Prop where
 agg : ∀ l,S (.agg l)→∀ d∈l,S d
 slice : ∀ l m,S (.slice l m)→l.length≤bg∧∀ d∈l,S d
theorem lT (hS : Small S) (hown : ∀ b,¬ bE F own b) : ∀ (n : Nat) (t : TypeId) (ks : List Kd),w_ P n t=some ks→∀ (fuel : Nat) (cs : List Value) (x : DataW H×List MemPlace),DataW.trod enc P w base spare held fuel t cs=some x→S x.1→RC F own w ks cs
 | 0,_,_,h,_,_,_,_,_=> by cases h
 | n + 1,t,ks,h,fuel,cs,x,hx,hs=> by
  unfold w_ at h
  split at h
  ·rename_i ht
   cases h
   obtain ⟨b,rfl,rfl⟩ :=DataW.trod_bool ht hx
   exact RC.one (s:= .v (.bool b)) rfl (.v _)
  ·rename_i k ht
   cases h
   obtain ⟨m,rfl,rfl,_⟩ :=DataW.trod_int ht hx
   exact RC.one (s:= .v (.int k m)) (by simp [fit]) (.v _)
  ·rename_i ht
   cases h
   obtain ⟨b,rfl,rfl,_⟩ :=DataW.trod_string ht hx
   exact RC.one (s:= .v (.string b)) rfl (.v _)
  ·rename_i e ht
   split at h
   ·rename_i k ks2 hk hks
    cases hb : K9 ks2 (cw k) && Nat.beq (P.cellsOf e) (aa k) && Nat.ble 1 (aa k) with
    | false=> rw [hb] at h;cases h
    | true=>
     rw [hb] at h
     cases h
     simp only [Bool.and_eq_true] at hb
     have e1:=FK hb.1.1
     have e2 : P.cellsOf e=aa k:=Nat.eq_of_beq_eq_true hb.1.2
     have e3 : 1≤aa k:=Nat.le_of_ble_eq_true hb.2
     subst e1
     rcases open_slice ht hx with ⟨rfl,rfl⟩ | ⟨a,len,cap,m,f2,D,Pl,rfl,hb1,hl,hm,hmm,rfl,hel⟩
     ·exact RC.one (s:= .rs k []) (by simp [fit]) .rs0
     ·have hlm : len≤m:=by subst hmm;split <;> omega
      obtain ⟨hs1,hs2⟩ :=hS.slice _ _ hs
      simp only [List.length_map,List.length_range] at hs1
      have helt : ∀ i,i < len→∃ cs',cs'.length=aa k∧(∀ j v,cs'[j]? =some v→w.cell? ((a.add (i * aa k)).add j)=some v)∧RC F own w (cw k) cs':=fun i hi=> by
       obtain ⟨cs',h1,h2⟩ :=hel i (by omega)
       have h3:=lT hS hown n e (cw k) hks f2 cs' _ h2 (hs2 _ (List.mem_map_of_mem (List.mem_range.2 hi)))
       unfold World.cells? at h1
       split at h1
       ·refine ⟨cs',by rw [mapM_some_length h1,List.length_range,e2],fun j v hj=> ?_,h3⟩
        have hlt : j < P.cellsOf e:=by
         have:=(List.getElem?_eq_some_iff.1 hj).1
         rwa [mapM_some_length h1,List.length_range] at this
        have:=mapM_some_get h1 j j (by simp [hlt])
        rw [e2] at this
        rw [this,hj]
       ·cases h1
      by_cases h0 : len=0
      ·subst h0
       exact RC.one (s:= .rs k []) (by simp [fit]) .rs0
      ·have hsp : a.spot=none:=by
        obtain ⟨cs',h1,h2,_⟩ :=helt 0 (by omega)
        have:=h2 0 (cs'[0]'(by omega)) (by rw [List.getElem?_eq_getElem])
        rw [Nat.zero_mul] at this
        simp only [Addr.add,if_true] at this
        unfold World.cell? at this
        split at this
        ·cases hsp : a.spot with
         | none=> rfl
         | some q=> rw [hsp] at this;simp at this
        ·cases this
       obtain ⟨ab,ao,asp⟩ :=a
       dsimp only at hsp
       subst hsp
       haveI : Inhabited k.T:=⟨dm k⟩
       obtain ⟨X,hX⟩ :=choose_lt (p:=fun i (x : k.T) => ∀ (j : Nat) (s : SV),(cellsOf k x)[j]? =some s→∃ v,w.cell? ⟨ab,ao + i * aa k + j,none⟩=some v∧Rel F own w s v) (n:=len) fun i hi=> by
        obtain ⟨cs',h1,h2,l,h3,h4,h5⟩ :=helt i hi
        refine ⟨mkE k l,fun j s hj=> ?_⟩
        rw [jY (k:=k) (l:=l) (x:=mkE k l) (by unfold mE;rw [h3];rfl)] at hj
        have hlt : j < cs'.length:=by
         have:=(List.getElem?_eq_some_iff.1 hj).1
         omega
        refine ⟨cs'[j],?_,h5 j s _ hj (List.getElem?_eq_getElem hlt)⟩
        have:=h2 j cs'[j] (List.getElem?_eq_getElem hlt)
        have hadd : ∀ p q,((⟨ab,ao,none⟩ : Addr).add p).add q=⟨ab,ao + p + q,none⟩ :=fun p q=> by
         unfold Addr.add
         by_cases hp : p=0 <;> by_cases hq : q=0 <;> simp [hp,hq]
        rwa [hadd] at this
       have hL : ((List.range len).map X).length=len:=by simp
       refine RC.one (s:= .rs k ((List.range len).map X)) (by simp [fit]) ?_
       have hget : ∀ (i : Nat) (x : k.T),((List.range len).map X)[i]? =some x→i < len∧x=X i:=fun i x hi=> by
        obtain ⟨h1,h2⟩ :=List.getElem?_eq_some_iff.1 hi
        rw [hL] at h1
        simp only [List.getElem_map,List.getElem_range] at h2
        subst h2
        exact ⟨h1,rfl⟩
       have:=Rel.rs (F:=F) (own:=own) (w:=w) (k:=k) (l:=(List.range len).map X) (b:=ab) (o:=ao) (cap:=cap) (fun i j=> (w.cell? ⟨ab,ao + i * aa k + j,none⟩).getD undef) (by rw [hL];exact hl) (by rw [hL];exact hs1)
        (fun i x hi j s hj=> by
         obtain ⟨h1,rfl⟩ :=hget i x hi
         obtain ⟨v,h2,_⟩ :=hX i h1 j s hj
         exact ⟨hown _,by rw [h2];rfl⟩)
        (fun i x hi j s hj=> by
         obtain ⟨h1,rfl⟩ :=hget i x hi
         obtain ⟨v,h2,h3⟩ :=hX i h1 j s hj
         rw [h2];exact h3)
       rwa [hL] at this
   ·cases h
  ·rename_i fs ht
   obtain ⟨xs,m,rfl,rfl,hl,hlen,hf⟩ :=DataW.trod_struct ht hx
   rw [←hl] at h
   have:=FL (lT hS hown n) m cs fs.toList 0 ks h fun f hfm=> by
    obtain ⟨i,hi,rfl⟩ :=List.getElem_of_mem hfm
    have hi' : i < fs.size:=by simpa using hi
    have h1:=hf i fs[i] (by simp [hi'])
    rw [List.getElem?_eq_getElem (by omega)] at h1
    refine ⟨_,by simpa using h1,hS.agg _ hs _ (List.mem_map_of_mem (List.getElem_mem _))⟩
   simpa using this
  ·rename_i m e ht
   split at h
   ·rename_i a ha
    cases hb : Nat.beq a.length (P.cellsOf e) && Nat.beq (P.cellsOf t) (m * a.length) with
    | false=> rw [hb] at h;cases h
    | true=>
     rw [hb] at h
     cases h
     rw [Bool.and_eq_true] at hb
     have e1 : a.length=P.cellsOf e:=Nat.eq_of_beq_eq_true hb.1
     have e2 : P.cellsOf t=m * a.length:=Nat.eq_of_beq_eq_true hb.2
     obtain ⟨xs,f2,rfl,rfl,hl,hlen,hf⟩ :=DataW.trod_array ht hx
     refine FM (lT hS hown n e a ha) f2 m cs (by rw [hl,e2]) fun i hi=> ?_
     have h1:=hf i hi
     rw [List.getElem?_eq_getElem (by omega),←e1] at h1
     exact ⟨_,h1,hS.agg _ hs _ (List.mem_map_of_mem (List.getElem_mem _))⟩
   ·cases h
  ·cases h
end
end Go.Sx
end
section
namespace Go.Sx
open Go.Proofs
section
variable {F : Nat→Prop} {own : Own} {w : World}
theorem Pz {k : Tag} {cs : Array Value} (h : RC F own w (cw k) cs.toList) : ∃ x : k.T,Rel F own w (.agg (cellsOf k x)) (.agg cs) :=by
 obtain ⟨l,h3,h4,h5⟩ :=h
 refine ⟨mkE k l,?_⟩
 rw [jY (k:=k) (l:=l) (x:=mkE k l) (by unfold mE;rw [h3];rfl)]
 refine .agg (by simpa using h4.symm) fun j s hj=> ?_
 have hlt : j < cs.size:=by
  have:=(List.getElem?_eq_some_iff.1 hj).1
  simpa [h4] using this
 exact h5 j s _ hj (by simp [Array.getD,hlt])
theorem Sy {k : Tag} {v : Value} (h : RC F own w [.r k] [v]) : ∃ l : List k.T,Rel F own w (.rs k l) v:=by
 obtain ⟨l,h3,h4,h5⟩ :=h
 obtain ⟨x,r,rfl,h6,h7⟩ :=jq h3
 have h8:=h5 0 x v rfl rfl
 cases x with
 | rs k' l'=>
  have : k=k':=by
   simp only [fit] at h6
   exact oC h6
  subst this
  exact ⟨l',h8⟩
 | _=> simp [fit] at h6
end
end Go.Sx
end
section
namespace Go.Sx
open Go.RowKit Go.WideShapes Go.ChangeShapes
section
variable {H : Type} {enc : TypeId×Value→H} {P : Program}
def PA (P : Program) : List TypeId→Bool
 | [] => true
 | t :: r=> P.readableRec t && Nat.blt t P.types.size && PA P r
theorem yD (hl : laidOutB P=true) {W W' : World} (hg : Below W.heap.size W W') : ∀ {ts : List TypeId} {vs : List Value} {ds : List (DataW H)} {ps : List MemPlace},PA P ts=true→
  DataW.TrodAll enc P W 0 (fun _=> true) true ts vs ds ps→(∀ x∈ps,x.block < W.heap.size)→DataW.TrodAll enc P W' 0 (fun b=> decide (b < W.heap.size)) true ts vs ds ps
 | [],vs,ds,ps,_,h,_=> by
  obtain ⟨rfl,rfl,rfl⟩ :=trodAll_nil h
  exact trodAll_mk0
 | t :: ts,vs,ds,ps,hk,h,hlt=> by
  unfold PA at hk
  rw [Bool.and_eq_true,Bool.and_eq_true] at hk
  obtain ⟨v,vs',d,ds',p,q,rfl,rfl,rfl,h1,h2⟩ :=trodAll_cons h
  refine trodAll_cons_mk (WideElems.Trod_stays hl hk.1.1 (by simpa [Nat.blt_eq] using hk.1.2) h1 (fun x hx=> hg.same (hlt x (List.mem_append_left _ hx))) (fun x hx=> by simpa using hlt x (List.mem_append_left _ hx))) ?_
  exact yD hl hg hk.2 h2 fun x hx=> hlt x (List.mem_append_right _ hx)
theorem K_ (hl : laidOutB P=true) {f : Func} {s : ChangeSpec} {W W' : World} {args : Array Value} {ds gs : List (DataW H)} {before : List MemPlace} {t : TypeId}
  (hk : PA P f.params.toList=true) (hW : DataW.Whole enc P f.params.toList s.vars false W args.toList ds gs before)
  (hr : f.resultTypes= #[t]) (ht : P.underlying t=some .bool) (hv : s.vars=[]) (h1 : (s.fn H (ds ++ gs)).results=[.lit (.bool true)]) (h2 : (s.fn H (ds ++ gs)).args=ds) (h3 : (s.fn H (ds ++ gs)).vars=[])
  (hg : Below W.heap.size W W') : s.post enc P f false true false false W args (.bool true) W':=by
 have hlt:=hW.lt
 have hW0:=hW
 obtain ⟨p,q,hA,hV,rfl,_,_⟩ :=hW
 rw [hv] at hV
 obtain ⟨rfl,rfl⟩ :=trodVars_none hV
 refine ⟨ds,[],p ++ [],[],p,[],hW0,?_,?_,?_,?_,fun h=> by cases h⟩
 ·rw [h1,hr]
  exact trodAll_cons_mk (shut_bool ht _) trodAll_mk0
 ·rw [h2]
  exact yD hl hg hk hA fun x hx=> hlt x (by simpa using hx)
 ·rw [h3,hv]
  rfl
 ·exact World.keptBut_mono (fun x hx=> ⟨hx,.inr (.inl (by simpa using hx))⟩) (hg.frame (· ∈p ++ []))
end
end Go.Sx
end
section
namespace Go.Proofs.YtagjakphhkfofaaGreat.bulks
theorem one_le {H : Type} (d : DataW H) : 1≤Rows.uptoBulk d:=by
 cases d with
 | lit l=> cases l <;> simp [Rows.uptoBulk]
 | nil=> simp [Rows.uptoBulk]
 | ptr d=> simp [Rows.uptoBulk]
 | slice ky spare=> simp [Rows.uptoBulk]
 | agg parts=> simp [Rows.uptoBulk]
 | iface t d=> simp [Rows.uptoBulk]
 | map entries=> simp [Rows.uptoBulk]
 | held h=> simp [Rows.uptoBulk]
theorem part_le {H : Type} {d : DataW H} {l : List (DataW H)} (h : d∈l) : Rows.uptoBulk d≤Rows.uptoBulkAll l:=by
 induction l with
 | nil=> cases h
 | cons x r ih=>
  simp only [Rows.uptoBulkAll]
  cases List.mem_cons.1 h with
  | inl e=> subst e;omega
  | inr e=> have:=ih e;omega
theorem append {H : Type} (l r : List (DataW H)) : Rows.uptoBulkAll (l ++ r)=Rows.uptoBulkAll l + Rows.uptoBulkAll r:=by
 induction l with
 | nil=> simp [Rows.uptoBulkAll]
 | cons x l ih=> simp only [List.cons_append,Rows.uptoBulkAll,ih];omega
theorem length_le {H : Type} (l : List (DataW H)) : l.length≤Rows.uptoBulkAll l:=by
 induction l with
 | nil=> simp [Rows.uptoBulkAll]
 | cons x r ih=> have:=one_le x;simp only [Rows.uptoBulkAll,List.length_cons];omega
theorem slice_le {H : Type} (ky spare : List (DataW H)) : ky.length + spare.length + 1≤Rows.uptoBulk (.slice ky spare) :=by
 have h1:=length_le ky
 have h2:=length_le spare
 simp only [Rows.uptoBulk]
 omega
theorem slice_elems {H : Type} (ky spare : List (DataW H)) : Rows.uptoBulkAll ky + 1≤Rows.uptoBulk (.slice ky spare) :=by
 simp only [Rows.uptoBulk]
 omega
theorem bound {H : Type} {l : List (DataW H)} (hk : Rows.uptoSmall H l=true) : Rows.uptoBulkAll l≤1048576:=by
 simpa [Rows.uptoSmall] using hk
theorem room {n b : Nat} (hn : n≤2097152) (hb : b≤4096) : (n + n / 4 + 192) * b≤281474976710656:=by
 have h : (n + n / 4 + 192) * b≤2621632 * 4096:=Nat.mul_le_mul (by omega) hb
 omega
end Go.Proofs.YtagjakphhkfofaaGreat.bulks
end
section
namespace Go.Proofs.YtagjakphhkfofaaGreat.timetableSenior
open Go.ChangeShapes Go.WideShapes Go.ChangeAt Go.RowKit Go.Sx
set_option linter.unusedVariables false
theorem con_eq (x0 : Tag.district.T) (x1 : List Tag.claim.T) : fo [.agg (cellsOf .district x0),.rs .claim x1]=some (.det (d8 x0 x1) (.v (.bool (dH x0 x1)))) :=by
 unfold fo
 simp only [go_sem,Nat.reduceBEq]
theorem call_true {W : World} {cs0 : Array Value} (h0 : RC (fun _=> False) b8 W (cw .district) cs0.toList) {v1 : Value} (h1 : RC (fun _=> False) b8 W [.r .claim] [v1]) :
  Calls Tryz.prog 6 #[.agg cs0,v1] W (fun e W'=> e= .returned (.bool true)∧Below W.heap.size W W') :=by
 obtain ⟨x0,r0⟩ :=Pz h0
 obtain ⟨x1,r1⟩ :=Sy h1
 refine (mA.calls _ _ (con_eq x0 x1) (C9 x0 x1) (fun _=> False) W _ (fun b h=> h.elim) ⟨rfl,fun j s hj=> ?_⟩).mono fun e W' he=> ?_
 ·match j,hj with
  | 0,hj=> cases hj;exact r0
  | 1,hj=> cases hj;exact r1
 ·rcases he with ⟨s,u,own',hs,rfl,hh,hb⟩ | ⟨x,hx,_⟩
  ·simp only [cy] at hs
   subst hs
   rw [C8 x0 x1] at hh
   have:=hh.val
   simp only [oJ] at this
   rw [bJ this]
   exact ⟨rfl,hb⟩
  ·exact hx.elim
theorem own : ownKnob Tryz.prog.godebug=none:=by kernel_rfl
theorem small (H : Type) : Small (fun d : DataW H=> Rows.uptoBulk d≤1048576) where
 agg l h d hd:=by
  have h1:=bulks.part_le hd
  simp only [Rows.uptoBulk] at h
  omega
 slice l m h:=by
  have h1:=bulks.slice_le l m
  have h2:=bulks.slice_elems l m
  refine ⟨by unfold bg;omega,fun d hd=> ?_⟩
  have:=bulks.part_le hd
  omega
theorem laid : laidOutB Tryz.prog=true:=by kernel_rfl
set_option maxRecDepth 100000 in
theorem contract (H : Type) (enc : TypeId×Value→H) (W : World) (base : Nat) (args : Array Value) (ds gs : List (DataW H)) (before : List MemPlace)
  (hval : ∀ (j : Nat) t v,Tryz.f6.params[j]? =some t→args[j]? =some v→Value.okWide Tryz.prog W .any base t v)
  (hW : DataW.Whole enc Tryz.prog Tryz.f6.params.toList Rows.timetableSeniorSpec.vars false W args.toList ds gs before) (hk : Rows.uptoSmall H (ds ++ gs)=true) :
  Calls Tryz.prog 6 args W fun e W'=> ∃ v,e= .returned v∧Rows.timetableSeniorSpec.post enc Tryz.prog Tryz.f6 false true false false W args v W':=by
 have hW':=hW
 obtain ⟨p,q,hA0,hV,rfl,hfz,hnd⟩ :=hW
 have hA : DataW.TrodAll enc Tryz.prog W 0 (fun _=> true) true Tryz.f6.params.toList args.toList ds p:=hA0
 rw [Tryz.params6] at hA hval
 obtain ⟨v0,vs0,d0,ds0,p0,q0,hargs,rfl,rfl,h0,r0⟩ :=trodAll_cons hA
 obtain ⟨v1,vs1,d1,ds1,p1,q1,rfl,rfl,rfl,h1,r1⟩ :=trodAll_cons r0
 obtain ⟨rfl,rfl,rfl⟩ :=trodAll_nil r1
 obtain rfl : args= #[v0,v1] :=by cases args;simp_all
 obtain ⟨rfl,rfl⟩ :=trodVars_none hV
 have hb:=bulks.bound hk
 simp only [Rows.uptoBulkAll,List.append_nil,List.cons_append,List.nil_append] at hb
 have ho : ∀ b,¬ bE (fun _=> False) b8 b:=fun b h=> by
  rcases h with h | ⟨_,_,h,_⟩
  ·exact h
  ·cases h
 have s0 : ∃ cs,v0= .agg cs:=by
  have:=hval 0 31 v0 rfl rfl
  simp only [Value.okWide,Tryz.underlying31] at this
  exact ⟨_,this.choose_spec.1⟩
 obtain ⟨cs0,rfl⟩ :=s0
 obtain ⟨a1,l1,c1,rfl⟩ :=okWide_slice Tryz.underlying32 (hval 1 32 v1 rfl rfl)
 have R0 : RC (fun _=> False) b8 W (cw .district) cs0.toList:=by
  obtain ⟨f,hf⟩ :=h0
  exact lT (n:=6) (t:=31) (small H) ho _ (by kernel_rfl) f _ _ hf (by show Rows.uptoBulk d0≤_;omega)
 have R1 : RC (fun _=> False) b8 W [.r .claim] [.slice a1 l1 c1] :=by
  obtain ⟨f,hf⟩ :=h1
  exact lT (n:=6) (t:=32) (small H) ho _ (by kernel_rfl) f _ _ hf (by show Rows.uptoBulk d1≤_;omega)
 refine (call_true R0 R1).mono fun e W' ⟨he,hg⟩ => ?_
 subst he
 exact ⟨_,rfl,K_ laid (by kernel_rfl) hW' (by kernel_rfl) Tryz.underlying4 rfl rfl rfl rfl hg⟩
def zeroV : Kd→Value
 | .n k=> .int k 0
 | .b=> .bool false
 | .s=> .string (ByteArray.mk #[])
 | .r _=> .slice none 0 0
 | .m _ _=> .map none
def wit : Array Value:= #[.agg ((cw .district).map zeroV).toArray,.slice none 0 0]
set_option maxRecDepth 100000 in
theorem lifted (os : Os) (started : os.Started) (H : Type) (enc : TypeId×Value→H) (F : Stop.Interp) :
  ReturnsInHanded {} Tryz.checked os 6 .any ((Rows.OpenSpec.upto Rows.timetableSeniorSpec).pre6 enc Tryz.prog Tryz.f6 Rows.timetableSeniorUptoRow.domain false) (((Rows.OpenSpec.upto Rows.timetableSeniorSpec).at F).post enc Tryz.prog Tryz.f6 false true false false) :=by
 refine returnsInHanded_of_cond (C:=Tryz.checked) (s:=Rows.OpenSpec.upto Rows.timetableSeniorSpec) (k:=Rows.uptoSmall) rfl own started (by kernel_rfl) Tryz.func6
  (OpenSpec.witness (enc:=enc) (C:=Tryz.checked) (s:=Rows.OpenSpec.upto Rows.timetableSeniorSpec) (k:=Rows.uptoSmall) rfl false ⟨#[],wit,[]⟩ 8 (by kernel_rfl) (by kernel_rfl) (by kernel_rfl)
   (x:=(DataW.whole enc Tryz.prog (World.plainHolding Tryz.prog os ⟨#[],wit,[]⟩).memory Tryz.f6.params.toList Rows.timetableSeniorSpec.vars false wit.toList 8).getD ([],[],[])) (by kernel_rfl) rfl (by kernel_rfl)) ?_
 intro W base args ds gs before hval hW _ hk _
 exact contract H enc W base args ds gs before hval hW hk
theorem over : Rows.timetableSeniorUptoRow.holds Tryz.pinned (Rows.OpenSpec.upto Rows.timetableSeniorSpec) :=
 OpenClaim.holds_of_cond 6 Tryz.f6 rfl rfl rfl rfl rfl rfl rfl ⟨rfl,rfl,rfl,rfl,rfl⟩ rfl rfl rfl rfl rfl (by kernel_rfl) Tryz.func6 (by kernel_rfl)
  (of_decide_eq_true (by kernel_rfl)) (by unfold Func.isWrapper;first | (rw [if_pos (by decide +kernel)];kernel_rfl) | (rw [if_neg (by decide +kernel)];exact ⟨rfl,rfl⟩))
  (fun os started H enc _ F=> lifted os started H enc F)
theorem proved : Rows.TimetableSeniorUptoSaid:=over
end Go.Proofs.YtagjakphhkfofaaGreat.timetableSenior
end
