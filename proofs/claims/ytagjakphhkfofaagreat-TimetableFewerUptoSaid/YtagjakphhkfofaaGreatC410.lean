/- Part of the proof that the law TimetableFewer returns true and leaves its arguments as they were, for all arguments of bulk at most 1048576 (the Upto form). -/
import Derived.Test.YtagjakphhkfofaaGreatC409
import Derived.Test.YtagjakphhkfofaaGreatC407
import Derived.Test.YtagjakphhkfofaaGreatC408
set_option linter.all false
section
namespace Go.Sx
open Go.Proofs
set_option maxRecDepth 100000
set_option linter.unusedSimpArgs false
@[go_sem] def jX (a0 : District) (k_0 : Nat) (s_0 : List (List Int)×List (List Int)) : Empty⊕(List (List Int)×List (List Int)) := .inr ((s_0.1 ++ [(List.replicate (Int.toNat (IntKind.i64.wrap (a0.hours + 1))) (0 : Int))]),(s_0.2 ++ [(List.replicate (Int.toNat a0.hours) (0 : Int))]))
def rO (a0 : District) (k_0 : Nat) (s_0 : List (List Int)×List (List Int)) : Prop:=(((IntKind.i64.wrap (a0.hours + 1))=(IntKind.i64.wrap (a0.hours + 1))∧0≤(IntKind.i64.wrap (a0.hours + 1))∧(IntKind.i64.wrap (a0.hours + 1)) * ((8 : Nat) : Int)≤((eK : Nat) : Int))∧((IntKind.i64.wrap (a0.hours + 1))≤((bt : Nat) : Int)→(((s_0.1 ++ [(List.replicate (Int.toNat (IntKind.i64.wrap (a0.hours + 1))) (0 : Int))]).length * 24≤eK)∧((s_0.1 ++ [(List.replicate (Int.toNat (IntKind.i64.wrap (a0.hours + 1))) (0 : Int))]).length≤bt→((a0.hours=a0.hours∧0≤a0.hours∧a0.hours * ((8 : Nat) : Int)≤((eK : Nat) : Int))∧(a0.hours≤((bt : Nat) : Int)→((s_0.2 ++ [(List.replicate (Int.toNat a0.hours) (0 : Int))]).length * 24≤eK)))))))
@[go_sem] def jY (a0 : District) (a1 : List Order) (k_1 : Nat) (s_1 : List (CertifyPlace×Int)×List (List Int)×List (List Int)) : Empty⊕(List (CertifyPlace×Int)×List (List Int)×List (List Int)) :=(bif (a1.getD k_1 (default : Order)).outlet then (bif (decide ((a0.farms.getD (Int.toNat ((a1.getD k_1 (default : Order)).index)) (default : Farm)).reach≥0)) then .inr ((c6 .certifyPlace .int s_1.1 ({ hour:=(a1.getD k_1 (default : Order)).hour,index:=(a1.getD k_1 (default : Order)).index,outlet:=(a1.getD k_1 (default : Order)).outlet} : CertifyPlace) ((a1.getD k_1 (default : Order)).litres)),(s_1.2.1.set (Int.toNat ((a0.farms.getD (Int.toNat ((a1.getD k_1 (default : Order)).index)) (default : Farm)).reach)) ((s_1.2.1.getD (Int.toNat ((a0.farms.getD (Int.toNat ((a1.getD k_1 (default : Order)).index)) (default : Farm)).reach)) []).set (Int.toNat ((a1.getD k_1 (default : Order)).hour)) (IntKind.i64.wrap (((s_1.2.1.getD (Int.toNat ((a0.farms.getD (Int.toNat ((a1.getD k_1 (default : Order)).index)) (default : Farm)).reach)) []).getD (Int.toNat ((a1.getD k_1 (default : Order)).hour)) (0 : Int)) + (a1.getD k_1 (default : Order)).litres)))),s_1.2.2) else .inr ((c6 .certifyPlace .int s_1.1 ({ hour:=(a1.getD k_1 (default : Order)).hour,index:=(a1.getD k_1 (default : Order)).index,outlet:=(a1.getD k_1 (default : Order)).outlet} : CertifyPlace) ((a1.getD k_1 (default : Order)).litres)),s_1.2.1,s_1.2.2)) else (bif (decide ((a0.reaches.getD (Int.toNat ((a1.getD k_1 (default : Order)).index)) (default : Reach)).up≥0)) then .inr ((c6 .certifyPlace .int s_1.1 ({ hour:=(a1.getD k_1 (default : Order)).hour,index:=(a1.getD k_1 (default : Order)).index,outlet:=(a1.getD k_1 (default : Order)).outlet} : CertifyPlace) ((a1.getD k_1 (default : Order)).litres)),(s_1.2.1.set (Int.toNat ((a0.reaches.getD (Int.toNat ((a1.getD k_1 (default : Order)).index)) (default : Reach)).up)) ((s_1.2.1.getD (Int.toNat ((a0.reaches.getD (Int.toNat ((a1.getD k_1 (default : Order)).index)) (default : Reach)).up)) []).set (Int.toNat ((a1.getD k_1 (default : Order)).hour)) (IntKind.i64.wrap (((s_1.2.1.getD (Int.toNat ((a0.reaches.getD (Int.toNat ((a1.getD k_1 (default : Order)).index)) (default : Reach)).up)) []).getD (Int.toNat ((a1.getD k_1 (default : Order)).hour)) (0 : Int)) + (a1.getD k_1 (default : Order)).litres)))),(s_1.2.2.set (Int.toNat ((a1.getD k_1 (default : Order)).index)) ((s_1.2.2.getD (Int.toNat ((a1.getD k_1 (default : Order)).index)) []).set (Int.toNat (IntKind.i64.wrap ((a1.getD k_1 (default : Order)).hour + 1))) (a1.getD k_1 (default : Order)).litres))) else .inr ((c6 .certifyPlace .int s_1.1 ({ hour:=(a1.getD k_1 (default : Order)).hour,index:=(a1.getD k_1 (default : Order)).index,outlet:=(a1.getD k_1 (default : Order)).outlet} : CertifyPlace) ((a1.getD k_1 (default : Order)).litres)),s_1.2.1,(s_1.2.2.set (Int.toNat ((a1.getD k_1 (default : Order)).index)) ((s_1.2.2.getD (Int.toNat ((a1.getD k_1 (default : Order)).index)) []).set (Int.toNat (IntKind.i64.wrap ((a1.getD k_1 (default : Order)).hour + 1))) (a1.getD k_1 (default : Order)).litres)))))
def rP (a0 : District) (a1 : List Order) (k_1 : Nat) (s_1 : List (CertifyPlace×Int)×List (List Int)×List (List Int)) : Prop:=(((a1.getD k_1 (default : Order)).outlet=true→((0≤(a1.getD k_1 (default : Order)).index∧(a1.getD k_1 (default : Order)).index < (a0.farms.length : Int))∧((decide ((a0.farms.getD (Int.toNat ((a1.getD k_1 (default : Order)).index)) (default : Farm)).reach≥0))=true→((0≤(a0.farms.getD (Int.toNat ((a1.getD k_1 (default : Order)).index)) (default : Farm)).reach∧(a0.farms.getD (Int.toNat ((a1.getD k_1 (default : Order)).index)) (default : Farm)).reach < (s_1.2.1.length : Int))∧((0≤(a1.getD k_1 (default : Order)).hour∧(a1.getD k_1 (default : Order)).hour < ((s_1.2.1.getD (Int.toNat ((a0.farms.getD (Int.toNat ((a1.getD k_1 (default : Order)).index)) (default : Farm)).reach)) []).length : Int))∧(0≤(a1.getD k_1 (default : Order)).hour∧(a1.getD k_1 (default : Order)).hour < ((s_1.2.1.getD (Int.toNat ((a0.farms.getD (Int.toNat ((a1.getD k_1 (default : Order)).index)) (default : Farm)).reach)) []).length : Int)))))))∧((a1.getD k_1 (default : Order)).outlet=false→((0≤(a1.getD k_1 (default : Order)).index∧(a1.getD k_1 (default : Order)).index < (a0.reaches.length : Int))∧((0≤(a1.getD k_1 (default : Order)).index∧(a1.getD k_1 (default : Order)).index < (s_1.2.2.length : Int))∧((0≤(IntKind.i64.wrap ((a1.getD k_1 (default : Order)).hour + 1))∧(IntKind.i64.wrap ((a1.getD k_1 (default : Order)).hour + 1)) < ((s_1.2.2.getD (Int.toNat ((a1.getD k_1 (default : Order)).index)) []).length : Int))∧((decide ((a0.reaches.getD (Int.toNat ((a1.getD k_1 (default : Order)).index)) (default : Reach)).up≥0))=true→((0≤(a0.reaches.getD (Int.toNat ((a1.getD k_1 (default : Order)).index)) (default : Reach)).up∧(a0.reaches.getD (Int.toNat ((a1.getD k_1 (default : Order)).index)) (default : Reach)).up < (s_1.2.1.length : Int))∧((0≤(a1.getD k_1 (default : Order)).hour∧(a1.getD k_1 (default : Order)).hour < ((s_1.2.1.getD (Int.toNat ((a0.reaches.getD (Int.toNat ((a1.getD k_1 (default : Order)).index)) (default : Reach)).up)) []).length : Int))∧(0≤(a1.getD k_1 (default : Order)).hour∧(a1.getD k_1 (default : Order)).hour < ((s_1.2.1.getD (Int.toNat ((a0.reaches.getD (Int.toNat ((a1.getD k_1 (default : Order)).index)) (default : Reach)).up)) []).length : Int))))))))))
@[go_sem] def nD (a0 : District) (k_2 : Nat) (k_3 : Nat) (s_3 : List (List Int)) : Empty⊕(List (List Int)) := .inr (s_3.set k_2 ((s_3.getD k_2 []).set (Int.toNat (IntKind.i64.wrap ((k_3 : Int) + 1))) (IntKind.i64.wrap (((s_3.getD k_2 []).getD (Int.toNat (IntKind.i64.wrap ((k_3 : Int) + 1))) (0 : Int)) + ((s_3.getD k_2 []).getD k_3 (0 : Int))))))
def rQ (a0 : District) (k_2 : Nat) (k_3 : Nat) (s_3 : List (List Int)) : Prop:=((0≤(IntKind.i64.wrap ((k_3 : Int) + 1))∧(IntKind.i64.wrap ((k_3 : Int) + 1)) < ((s_3.getD k_2 []).length : Int))∧((0≤(k_3 : Int)∧(k_3 : Int) < ((s_3.getD k_2 []).length : Int))∧(0≤(IntKind.i64.wrap ((k_3 : Int) + 1))∧(IntKind.i64.wrap ((k_3 : Int) + 1)) < ((s_3.getD k_2 []).length : Int))))
@[go_sem] def nE (a0 : District) (s_1 : List (CertifyPlace×Int)×List (List Int)×List (List Int)) (k_2 : Nat) (s_2 : List (List Int)) : Empty⊕(List (List Int)) :=(match ax (nD a0 k_2) (Int.toNat a0.hours) 0 s_2 with | .inl x=> x.elim | .inr s_3=> .inr s_3)
def rR (a0 : District) (s_1 : List (CertifyPlace×Int)×List (List Int)×List (List Int)) (k_2 : Nat) (s_2 : List (List Int)) : Prop:=((0≤(k_2 : Int)∧(k_2 : Int) < (s_2.length : Int))∧((a0.hours < 9223372036854775808)∧okI (nD a0 k_2) (rQ a0 k_2) (Int.toNat a0.hours) 0 s_2))
def bj (a0 : District) (a1 : List Order) : CertifyTable×Int:=(bif ((decide ((IntKind.i64.wrap ((a0.reaches.length : Int) * a0.hours)) > 1024)) || (decide ((a1.length : Int) > 4096))) then (({ d:=({ name:=(ByteArray.mk #[]),hours:=0,tank:=({ cap:=0,start:=0} : Tank),reaches:=[],farms:=[],crops:=[],rights:=[],duties:=[],wells:=[]} : District),l:=[],litres:=[],sums:=[],drawn:=[]} : CertifyTable),2) else (bif ((bX a0 a1) !=0) then (({ d:=({ name:=(ByteArray.mk #[]),hours:=0,tank:=({ cap:=0,start:=0} : Tank),reaches:=[],farms:=[],crops:=[],rights:=[],duties:=[],wells:=[]} : District),l:=[],litres:=[],sums:=[],drawn:=[]} : CertifyTable),280) else (match ax (jX a0) a0.reaches.length 0 ([],[]) with | .inl x=> x.elim | .inr s_0=> (match ax (jY a0 a1) a1.length 0 ([],s_0.2,s_0.1) with | .inl x=> x.elim | .inr s_1=> (match ax (nE a0 s_1) s_1.2.2.length 0 s_1.2.2 with | .inl x=> x.elim | .inr s_2=> (({ d:=a0,l:=a1,litres:=s_1.1,sums:=s_2,drawn:=s_1.2.1} : CertifyTable),0))))))
def kY (a0 : District) (a1 : List Order) : Prop:=(a0.reaches.length≤bt→(((decide ((IntKind.i64.wrap ((a0.reaches.length : Int) * a0.hours)) > 1024)) || (decide ((a1.length : Int) > 4096)))=false→((fq a0 a1)∧(((bX a0 a1) !=0)=false→(a0.reaches.length≤bt→(okI (jX a0) (rO a0) a0.reaches.length 0 ([],[])∧(∀ s_0,ax (jX a0) a0.reaches.length 0 ([],[])= .inr s_0→(a1.length≤bt→(okI (jY a0 a1) (rP a0 a1) a1.length 0 ([],s_0.2,s_0.1)∧(∀ s_1,ax (jY a0 a1) a1.length 0 ([],s_0.2,s_0.1)= .inr s_1→(s_1.2.2.length≤bt→okI (nE a0 s_1) (rR a0 s_1) s_1.2.2.length 0 s_1.2.2)))))))))))
@[go_sem] def Jq : List SV→Option Con:=(pD .district fun a0=> (pR .order fun a1=> (pE (.det (kY a0 a1) (.tup [.agg (cellsOf .certifyTable ((bj a0 a1).1)),.v (.int .i64 ((bj a0 a1).2))])))))
end Go.Sx
end
section
namespace Go.Sx
open Go.Proofs
set_option maxRecDepth 100000
set_option linter.unusedSimpArgs false
def fw (t : CertifyTable) : List (Int×Int) :=(List.range t.d.hours.toNat).flatMap fun (h : Nat) => (List.range t.d.reaches.length).map fun (r : Nat) => ((h : Int),(r : Int))
end Go.Sx
end
section
namespace Go.Sx
open Go.Proofs
set_option maxRecDepth 100000
set_option linter.unusedSimpArgs false
def nI : List SV→Option Con:=pD .certifyTable fun t=> pE (.det True (.fn 154 [] [.ep (cellsOf .certifyTable t) 0]))
def nJ : List SV→Option Con:=pD .certifyTable fun t=> pI fun k=> pE (.det True (.fn 126 [] [.ep (cellsOf .certifyTable t) 0,.ep [.i k] 0]))
def nK : List SV→Option Con:=pD .certifyTable fun t=> pR .claim fun c=> pE (.det True (.fn 128 [] [.ep [.rs .claim c] 0,.ep (cellsOf .certifyTable t) 0]))
attribute [go_sem] nI nJ nK
end Go.Sx
end
section
namespace Go.Sx
open Go.Proofs
set_option maxRecDepth 100000
set_option linter.unusedSimpArgs false
def dz (x : Fault) (l_ : List Fault) : List Fault:=(l_ ++ ([x]))
def cT (x : Fault) (l_ : List Fault) : Prop:=((l_ ++ ([x])).length * 40≤eK)
@[go_sem] noncomputable def B8 : List SV→List Ob→Option HCon:=fun l h=> hCR .fault (fun l_=> (pD .fault fun x=> ((pQ (.ptr 0 0) (pE (mW (cT x l_) (.v (.bool true)) [.cells [.os 2],.dead,.row .fault (dz x l_)]))))) l) h
@[go_sem] def iQ (t_ : CertifyTable) (l_ : List Fault) (k_0 : Nat) (s_0 : Unit) : (List Fault)⊕Unit:=(bif (decide (((t_.sums.getD 0 (default : List Int)).getD (Int.toNat (IntKind.i64.wrap ((k_0 : Int) + 1))) (0 : Int)) > t_.d.tank.start)) then .inl (dz ({ kind:=4,hour:=(k_0 : Int),index:=0,litres:=((t_.sums.getD 0 (default : List Int)).getD (Int.toNat (IntKind.i64.wrap ((k_0 : Int) + 1))) (0 : Int)),limit:=t_.d.tank.start} : Fault) l_) else .inr ())
def mH (t_ : CertifyTable) (l_ : List Fault) (k_0 : Nat) (s_0 : Unit) : Prop:=((0≤0∧0 < (t_.sums.length : Int))∧((0≤(IntKind.i64.wrap ((k_0 : Int) + 1))∧(IntKind.i64.wrap ((k_0 : Int) + 1)) < ((t_.sums.getD 0 (default : List Int)).length : Int))∧((decide (((t_.sums.getD 0 (default : List Int)).getD (Int.toNat (IntKind.i64.wrap ((k_0 : Int) + 1))) (0 : Int)) > t_.d.tank.start))=true→(cT ({ kind:=4,hour:=(k_0 : Int),index:=0,litres:=((t_.sums.getD 0 (default : List Int)).getD (Int.toNat (IntKind.i64.wrap ((k_0 : Int) + 1))) (0 : Int)),limit:=t_.d.tank.start} : Fault) l_))))
def kZ (t_ : CertifyTable) (l_ : List Fault) : List Fault:=(match ax (iQ t_ l_) (Int.toNat t_.d.hours) 0 () with | .inl x_0_0=> x_0_0 | .inr s_0=> l_)
def jL (t_ : CertifyTable) (l_ : List Fault) : Prop:=((t_.d.hours < 9223372036854775808)∧okI (iQ t_ l_) (mH t_ l_) (Int.toNat t_.d.hours) 0 ())
@[go_sem] noncomputable def Ar : List SV→List Ob→Option HCon:=fun l h=> hCR .fault (fun l_=> (pD .certifyTable fun t_=> ((pQ (.fn 85 [] [.ptr 0 0]) (pE (mW (jL t_ l_) (.tup []) [.cells [.os 2],.dead,.row .fault (kZ t_ l_)]))))) l) h
@[go_sem] def gL (t_ : CertifyTable) (kind : Int) (k_0 : Nat) (s_0 : List Fault) : Empty⊕(List Fault) :=(bif (t_.l.getD k_0 (default : Order)).outlet then .inr s_0 else (bif (kind==2) then (bif (decide ((t_.l.getD k_0 (default : Order)).litres < (t_.d.reaches.getD (Int.toNat ((t_.l.getD k_0 (default : Order)).index)) (default : Reach)).siphon)) then .inr (dz ({ kind:=kind,hour:=(t_.l.getD k_0 (default : Order)).hour,index:=(t_.l.getD k_0 (default : Order)).index,litres:=(t_.l.getD k_0 (default : Order)).litres,limit:=(t_.d.reaches.getD (Int.toNat ((t_.l.getD k_0 (default : Order)).index)) (default : Reach)).siphon} : Fault) s_0) else .inr s_0) else (bif (decide ((t_.l.getD k_0 (default : Order)).litres > (t_.d.reaches.getD (Int.toNat ((t_.l.getD k_0 (default : Order)).index)) (default : Reach)).cap)) then .inr (dz ({ kind:=kind,hour:=(t_.l.getD k_0 (default : Order)).hour,index:=(t_.l.getD k_0 (default : Order)).index,litres:=(t_.l.getD k_0 (default : Order)).litres,limit:=(t_.d.reaches.getD (Int.toNat ((t_.l.getD k_0 (default : Order)).index)) (default : Reach)).cap} : Fault) s_0) else .inr s_0)))
def k8 (t_ : CertifyTable) (kind : Int) (k_0 : Nat) (s_0 : List Fault) : Prop:=((t_.l.getD k_0 (default : Order)).outlet=false→((0≤(t_.l.getD k_0 (default : Order)).index∧(t_.l.getD k_0 (default : Order)).index < (t_.d.reaches.length : Int))∧(((kind==2)=true→((0≤(t_.l.getD k_0 (default : Order)).index∧(t_.l.getD k_0 (default : Order)).index < (t_.d.reaches.length : Int))∧(((decide ((t_.l.getD k_0 (default : Order)).litres < (t_.d.reaches.getD (Int.toNat ((t_.l.getD k_0 (default : Order)).index)) (default : Reach)).siphon))=true→(cT ({ kind:=kind,hour:=(t_.l.getD k_0 (default : Order)).hour,index:=(t_.l.getD k_0 (default : Order)).index,litres:=(t_.l.getD k_0 (default : Order)).litres,limit:=(t_.d.reaches.getD (Int.toNat ((t_.l.getD k_0 (default : Order)).index)) (default : Reach)).siphon} : Fault) s_0))∧((decide ((t_.l.getD k_0 (default : Order)).litres < (t_.d.reaches.getD (Int.toNat ((t_.l.getD k_0 (default : Order)).index)) (default : Reach)).siphon))=false→((decide ((t_.l.getD k_0 (default : Order)).litres < (t_.d.reaches.getD (Int.toNat ((t_.l.getD k_0 (default : Order)).index)) (default : Reach)).siphon))=false)))))∧((kind==2)=false→(((decide ((t_.l.getD k_0 (default : Order)).litres > (t_.d.reaches.getD (Int.toNat ((t_.l.getD k_0 (default : Order)).index)) (default : Reach)).cap))=true→(cT ({ kind:=kind,hour:=(t_.l.getD k_0 (default : Order)).hour,index:=(t_.l.getD k_0 (default : Order)).index,litres:=(t_.l.getD k_0 (default : Order)).litres,limit:=(t_.d.reaches.getD (Int.toNat ((t_.l.getD k_0 (default : Order)).index)) (default : Reach)).cap} : Fault) s_0))∧((decide ((t_.l.getD k_0 (default : Order)).litres > (t_.d.reaches.getD (Int.toNat ((t_.l.getD k_0 (default : Order)).index)) (default : Reach)).cap))=false→((decide ((t_.l.getD k_0 (default : Order)).litres > (t_.d.reaches.getD (Int.toNat ((t_.l.getD k_0 (default : Order)).index)) (default : Reach)).cap))=false)))))))
def fC (t_ : CertifyTable) (kind : Int) (l_ : List Fault) : List Fault:=(match ax (gL t_ kind) t_.l.length 0 l_ with | .inl x=> x.elim | .inr s_0=> s_0)
def eR (t_ : CertifyTable) (kind : Int) (l_ : List Fault) : Prop:=(t_.l.length≤bt→okI (gL t_ kind) (k8 t_ kind) t_.l.length 0 l_)
@[go_sem] noncomputable def xC : List SV→List Ob→Option HCon:=fun l h=> hCR .fault (fun l_=> (pQ (.fn 85 [] [.ptr 0 0]) ((pX .certifyTable fun t_=> ((pX .int fun kind=> (pE (mW (eR t_ kind l_) (.tup []) [.cells [.os 2],.dead,.row .fault (fC t_ kind l_)]))))))) l) h
@[go_sem] def eD (c_ : List Claim) (k_0 : Nat) (s_0 : List (CertifyPlace×Int)) : Empty⊕(List (CertifyPlace×Int)) := .inr (c6 .certifyPlace .int s_0 ({ hour:=(c_.getD k_0 (default : Claim)).hour,index:=(c_.getD k_0 (default : Claim)).farm,outlet:=true} : CertifyPlace) (IntKind.i64.wrap ((ay .certifyPlace .int s_0 ({ hour:=(c_.getD k_0 (default : Claim)).hour,index:=(c_.getD k_0 (default : Claim)).farm,outlet:=true} : CertifyPlace)) + (c_.getD k_0 (default : Claim)).litres)))
@[go_sem] def gM (t_ : CertifyTable) (s_0 : List (CertifyPlace×Int)) (k_1 : Nat) (k_2 : Nat) (s_2 : List Fault) : Empty⊕(List Fault) :=(bif (decide ((ay .certifyPlace .int t_.litres ({ hour:=(k_1 : Int),index:=(k_2 : Int),outlet:=true} : CertifyPlace)) < (ay .certifyPlace .int s_0 ({ hour:=(k_1 : Int),index:=(k_2 : Int),outlet:=true} : CertifyPlace)))) then .inr (dz ({ kind:=6,hour:=(k_1 : Int),index:=(k_2 : Int),litres:=(ay .certifyPlace .int t_.litres ({ hour:=(k_1 : Int),index:=(k_2 : Int),outlet:=true} : CertifyPlace)),limit:=(ay .certifyPlace .int s_0 ({ hour:=(k_1 : Int),index:=(k_2 : Int),outlet:=true} : CertifyPlace))} : Fault) s_2) else .inr s_2)
def k9 (t_ : CertifyTable) (s_0 : List (CertifyPlace×Int)) (k_1 : Nat) (k_2 : Nat) (s_2 : List Fault) : Prop:=(((decide ((ay .certifyPlace .int t_.litres ({ hour:=(k_1 : Int),index:=(k_2 : Int),outlet:=true} : CertifyPlace)) < (ay .certifyPlace .int s_0 ({ hour:=(k_1 : Int),index:=(k_2 : Int),outlet:=true} : CertifyPlace))))=true→(cT ({ kind:=6,hour:=(k_1 : Int),index:=(k_2 : Int),litres:=(ay .certifyPlace .int t_.litres ({ hour:=(k_1 : Int),index:=(k_2 : Int),outlet:=true} : CertifyPlace)),limit:=(ay .certifyPlace .int s_0 ({ hour:=(k_1 : Int),index:=(k_2 : Int),outlet:=true} : CertifyPlace))} : Fault) s_2))∧((decide ((ay .certifyPlace .int t_.litres ({ hour:=(k_1 : Int),index:=(k_2 : Int),outlet:=true} : CertifyPlace)) < (ay .certifyPlace .int s_0 ({ hour:=(k_1 : Int),index:=(k_2 : Int),outlet:=true} : CertifyPlace))))=false→((decide ((ay .certifyPlace .int t_.litres ({ hour:=(k_1 : Int),index:=(k_2 : Int),outlet:=true} : CertifyPlace)) < (ay .certifyPlace .int s_0 ({ hour:=(k_1 : Int),index:=(k_2 : Int),outlet:=true} : CertifyPlace))))=false)))
@[go_sem] def gN (t_ : CertifyTable) (s_0 : List (CertifyPlace×Int)) (k_1 : Nat) (s_1 : List Fault) : Empty⊕(List Fault) :=(match ax (gM t_ s_0 k_1) t_.d.farms.length 0 s_1 with | .inl x=> x.elim | .inr s_2=> .inr s_2)
def k_ (t_ : CertifyTable) (s_0 : List (CertifyPlace×Int)) (k_1 : Nat) (s_1 : List Fault) : Prop:=(t_.d.farms.length≤bt→okI (gM t_ s_0 k_1) (k9 t_ s_0 k_1) t_.d.farms.length 0 s_1)
def iR (c_ : List Claim) (t_ : CertifyTable) (l_ : List Fault) : List Fault:=(match ax (eD c_) c_.length 0 ([]) with | .inl x=> x.elim | .inr s_0=> (match ax (gN t_ s_0) (Int.toNat t_.d.hours) 0 l_ with | .inl x=> x.elim | .inr s_1=> s_1))
def h_ (c_ : List Claim) (t_ : CertifyTable) (l_ : List Fault) : Prop:=(c_.length≤bt→(∀ s_0,ax (eD c_) c_.length 0 ([])= .inr s_0→((t_.d.hours < 9223372036854775808)∧okI (gN t_ s_0) (k_ t_ s_0) (Int.toNat t_.d.hours) 0 l_)))
@[go_sem] noncomputable def xD : List SV→List Ob→Option HCon:=fun l h=> hCR .fault (fun l_=> (pQ (.fn 85 [] [.ptr 0 0]) ((pXR .claim fun c_=> ((pX .certifyTable fun t_=> (pE (mW (h_ c_ t_ l_) (.tup []) [.cells [.os 2],.dead,.row .fault (iR c_ t_ l_)]))))))) l) h
end Go.Sx
end
section
namespace Go.Sx
open Go.Proofs
set_option maxRecDepth 100000
set_option linter.unusedSimpArgs false
@[go_sem] def iA (t_ : CertifyTable) (z_0 : Int×Int) (s_0 : List Fault) : Empty⊕(List Fault) :=(bif (decide ((IntKind.i64.wrap (((t_.sums.getD (Int.toNat z_0.2) (default : List Int)).getD (Int.toNat (IntKind.i64.wrap (z_0.1 + 1))) (0 : Int)) - ((t_.sums.getD (Int.toNat z_0.2) (default : List Int)).getD (Int.toNat (if 0 < (IntKind.i64.wrap ((IntKind.i64.wrap (z_0.1 + 1)) - (t_.d.reaches.getD (Int.toNat z_0.2) (default : Reach)).delay)) then (IntKind.i64.wrap ((IntKind.i64.wrap (z_0.1 + 1)) - (t_.d.reaches.getD (Int.toNat z_0.2) (default : Reach)).delay)) else 0)) (0 : Int)))) > (t_.d.reaches.getD (Int.toNat z_0.2) (default : Reach)).bank)) then .inr (dz ({ kind:=3,hour:=z_0.1,index:=z_0.2,litres:=(IntKind.i64.wrap (((t_.sums.getD (Int.toNat z_0.2) (default : List Int)).getD (Int.toNat (IntKind.i64.wrap (z_0.1 + 1))) (0 : Int)) - ((t_.sums.getD (Int.toNat z_0.2) (default : List Int)).getD (Int.toNat (if 0 < (IntKind.i64.wrap ((IntKind.i64.wrap (z_0.1 + 1)) - (t_.d.reaches.getD (Int.toNat z_0.2) (default : Reach)).delay)) then (IntKind.i64.wrap ((IntKind.i64.wrap (z_0.1 + 1)) - (t_.d.reaches.getD (Int.toNat z_0.2) (default : Reach)).delay)) else 0)) (0 : Int)))),limit:=(t_.d.reaches.getD (Int.toNat z_0.2) (default : Reach)).bank} : Fault) s_0) else .inr s_0)
def lQ (t_ : CertifyTable) (z_0 : Int×Int) (s_0 : List Fault) : Prop:=((0≤z_0.2∧z_0.2 < (t_.d.reaches.length : Int))∧((0≤z_0.2∧z_0.2 < (t_.sums.length : Int))∧((0≤(IntKind.i64.wrap (z_0.1 + 1))∧(IntKind.i64.wrap (z_0.1 + 1)) < ((t_.sums.getD (Int.toNat z_0.2) (default : List Int)).length : Int))∧((0≤z_0.2∧z_0.2 < (t_.sums.length : Int))∧((0≤(if 0 < (IntKind.i64.wrap ((IntKind.i64.wrap (z_0.1 + 1)) - (t_.d.reaches.getD (Int.toNat z_0.2) (default : Reach)).delay)) then (IntKind.i64.wrap ((IntKind.i64.wrap (z_0.1 + 1)) - (t_.d.reaches.getD (Int.toNat z_0.2) (default : Reach)).delay)) else 0)∧(if 0 < (IntKind.i64.wrap ((IntKind.i64.wrap (z_0.1 + 1)) - (t_.d.reaches.getD (Int.toNat z_0.2) (default : Reach)).delay)) then (IntKind.i64.wrap ((IntKind.i64.wrap (z_0.1 + 1)) - (t_.d.reaches.getD (Int.toNat z_0.2) (default : Reach)).delay)) else 0) < ((t_.sums.getD (Int.toNat z_0.2) (default : List Int)).length : Int))∧(((decide ((IntKind.i64.wrap (((t_.sums.getD (Int.toNat z_0.2) (default : List Int)).getD (Int.toNat (IntKind.i64.wrap (z_0.1 + 1))) (0 : Int)) - ((t_.sums.getD (Int.toNat z_0.2) (default : List Int)).getD (Int.toNat (if 0 < (IntKind.i64.wrap ((IntKind.i64.wrap (z_0.1 + 1)) - (t_.d.reaches.getD (Int.toNat z_0.2) (default : Reach)).delay)) then (IntKind.i64.wrap ((IntKind.i64.wrap (z_0.1 + 1)) - (t_.d.reaches.getD (Int.toNat z_0.2) (default : Reach)).delay)) else 0)) (0 : Int)))) > (t_.d.reaches.getD (Int.toNat z_0.2) (default : Reach)).bank))=true→(cT ({ kind:=3,hour:=z_0.1,index:=z_0.2,litres:=(IntKind.i64.wrap (((t_.sums.getD (Int.toNat z_0.2) (default : List Int)).getD (Int.toNat (IntKind.i64.wrap (z_0.1 + 1))) (0 : Int)) - ((t_.sums.getD (Int.toNat z_0.2) (default : List Int)).getD (Int.toNat (if 0 < (IntKind.i64.wrap ((IntKind.i64.wrap (z_0.1 + 1)) - (t_.d.reaches.getD (Int.toNat z_0.2) (default : Reach)).delay)) then (IntKind.i64.wrap ((IntKind.i64.wrap (z_0.1 + 1)) - (t_.d.reaches.getD (Int.toNat z_0.2) (default : Reach)).delay)) else 0)) (0 : Int)))),limit:=(t_.d.reaches.getD (Int.toNat z_0.2) (default : Reach)).bank} : Fault) s_0))∧((decide ((IntKind.i64.wrap (((t_.sums.getD (Int.toNat z_0.2) (default : List Int)).getD (Int.toNat (IntKind.i64.wrap (z_0.1 + 1))) (0 : Int)) - ((t_.sums.getD (Int.toNat z_0.2) (default : List Int)).getD (Int.toNat (if 0 < (IntKind.i64.wrap ((IntKind.i64.wrap (z_0.1 + 1)) - (t_.d.reaches.getD (Int.toNat z_0.2) (default : Reach)).delay)) then (IntKind.i64.wrap ((IntKind.i64.wrap (z_0.1 + 1)) - (t_.d.reaches.getD (Int.toNat z_0.2) (default : Reach)).delay)) else 0)) (0 : Int)))) > (t_.d.reaches.getD (Int.toNat z_0.2) (default : Reach)).bank))=false→((decide ((IntKind.i64.wrap (((t_.sums.getD (Int.toNat z_0.2) (default : List Int)).getD (Int.toNat (IntKind.i64.wrap (z_0.1 + 1))) (0 : Int)) - ((t_.sums.getD (Int.toNat z_0.2) (default : List Int)).getD (Int.toNat (if 0 < (IntKind.i64.wrap ((IntKind.i64.wrap (z_0.1 + 1)) - (t_.d.reaches.getD (Int.toNat z_0.2) (default : Reach)).delay)) then (IntKind.i64.wrap ((IntKind.i64.wrap (z_0.1 + 1)) - (t_.d.reaches.getD (Int.toNat z_0.2) (default : Reach)).delay)) else 0)) (0 : Int)))) > (t_.d.reaches.getD (Int.toNat z_0.2) (default : Reach)).bank))=false))))))))
def j_ (t_ : CertifyTable) (l_ : List Fault) : List Fault:=(match cj (iA t_) (fw t_) l_ with | .inl x=> x.elim | .inr s_0=> s_0)
def iS (t_ : CertifyTable) (l_ : List Fault) : Prop:=((t_.d.hours < 9223372036854775808)∧okL (iA t_) (lQ t_) (fw t_) l_)
@[go_sem] noncomputable def yS : List SV→List Ob→Option HCon:=fun l h=> hCR .fault (fun l_=> (pD .certifyTable fun t_=> ((pQ (.fn 85 [] [.ptr 0 0]) (pE (mW (iS t_ l_) (.tup []) [.cells [.os 2],.dead,.row .fault (j_ t_ l_)]))))) l) h
@[go_sem] def iB (t_ : CertifyTable) (z_0 : Int×Int) (s_0 : List Fault) : Empty⊕(List Fault) :=(bif (decide (((t_.drawn.getD (Int.toNat z_0.2) (default : List Int)).getD (Int.toNat z_0.1) (0 : Int)) > (bC t_ z_0.2 z_0.1))) then .inr (dz ({ kind:=5,hour:=z_0.1,index:=z_0.2,litres:=((t_.drawn.getD (Int.toNat z_0.2) (default : List Int)).getD (Int.toNat z_0.1) (0 : Int)),limit:=(bC t_ z_0.2 z_0.1)} : Fault) s_0) else .inr s_0)
def lR (t_ : CertifyTable) (z_0 : Int×Int) (s_0 : List Fault) : Prop:=((0≤z_0.2∧z_0.2 < (t_.drawn.length : Int))∧((0≤z_0.1∧z_0.1 < ((t_.drawn.getD (Int.toNat z_0.2) (default : List Int)).length : Int))∧((eQ t_ z_0.2 z_0.1)∧(((decide (((t_.drawn.getD (Int.toNat z_0.2) (default : List Int)).getD (Int.toNat z_0.1) (0 : Int)) > (bC t_ z_0.2 z_0.1)))=true→(cT ({ kind:=5,hour:=z_0.1,index:=z_0.2,litres:=((t_.drawn.getD (Int.toNat z_0.2) (default : List Int)).getD (Int.toNat z_0.1) (0 : Int)),limit:=(bC t_ z_0.2 z_0.1)} : Fault) s_0))∧((decide (((t_.drawn.getD (Int.toNat z_0.2) (default : List Int)).getD (Int.toNat z_0.1) (0 : Int)) > (bC t_ z_0.2 z_0.1)))=false→((decide (((t_.drawn.getD (Int.toNat z_0.2) (default : List Int)).getD (Int.toNat z_0.1) (0 : Int)) > (bC t_ z_0.2 z_0.1)))=false))))))
def ka (t_ : CertifyTable) (l_ : List Fault) : List Fault:=(match cj (iB t_) (fw t_) l_ with | .inl x=> x.elim | .inr s_0=> s_0)
def iT (t_ : CertifyTable) (l_ : List Fault) : Prop:=((t_.d.hours < 9223372036854775808)∧okL (iB t_) (lR t_) (fw t_) l_)
@[go_sem] noncomputable def yT : List SV→List Ob→Option HCon:=fun l h=> hCR .fault (fun l_=> (pD .certifyTable fun t_=> ((pQ (.fn 85 [] [.ptr 0 0]) (pE (mW (iT t_ l_) (.tup []) [.cells [.os 2],.dead,.row .fault (ka t_ l_)]))))) l) h
end Go.Sx
end
section
namespace Go.Sx
open Go.Proofs
set_option maxRecDepth 100000
set_option linter.unusedSimpArgs false
@[go_sem] def lK (d : District) (c : List Claim) (l_ : List Order) (k_0 : Nat) (s_0 : List Fault) : Empty⊕(List Fault) :=(bif (Nat.beq k_0 0) then .inr (fC ((bj d l_).1) 1 s_0) else (bif (Nat.beq k_0 1) then .inr (fC ((bj d l_).1) 2 s_0) else (bif (Nat.beq k_0 2) then .inr (j_ ((bj d l_).1) s_0) else (bif (Nat.beq k_0 3) then .inr (kZ ((bj d l_).1) s_0) else (bif (Nat.beq k_0 4) then .inr (ka ((bj d l_).1) s_0) else .inr (iR c ((bj d l_).1) s_0))))))
def pz (d : District) (c : List Claim) (l_ : List Order) (k_0 : Nat) (s_0 : List Fault) : Prop:=(((Nat.beq k_0 0)=true→(eR ((bj d l_).1) 1 s_0))∧((Nat.beq k_0 0)=false→(((Nat.beq k_0 1)=true→(eR ((bj d l_).1) 2 s_0))∧((Nat.beq k_0 1)=false→(((Nat.beq k_0 2)=true→(iS ((bj d l_).1) s_0))∧((Nat.beq k_0 2)=false→(((Nat.beq k_0 3)=true→(jL ((bj d l_).1) s_0))∧((Nat.beq k_0 3)=false→(((Nat.beq k_0 4)=true→(iT ((bj d l_).1) s_0))∧((Nat.beq k_0 4)=false→(h_ c ((bj d l_).1) s_0)))))))))))
def db (d : District) (c : List Claim) (l_ : List Order) : List Fault×Int:=(bif ((aZ d c) !=0) then ([],(aZ d c)) else (bif ((bj d l_).2 !=0) then ([],(bj d l_).2) else (match ax (lK d c l_) 6 0 ([]) with | .inl x=> x.elim | .inr s_0=> (s_0,0))))
def d_ (d : District) (c : List Claim) (l_ : List Order) : Prop:=((fT d c)∧(((aZ d c) !=0)=false→((kY d l_)∧(((bj d l_).2 !=0)=false→okI (lK d c l_) (pz d c l_) 6 0 ([])))))
@[go_sem] def FI : List SV→Option Con:=(pD .district fun d=> (pR .claim fun c=> (pR .order fun l_=> (pE (.det (d_ d c l_) (.tup [.nw .fault ((db d c l_).1),.v (.int .i64 ((db d c l_).2))]))))))
end Go.Sx
end
section
namespace Go.Sx
open Go.Proofs
set_option maxRecDepth 100000
set_option linter.unusedSimpArgs false
def sS (d : District) : Bool:=((((((decide ((d.reaches.length : Int)≤100)) && (decide ((d.farms.length : Int)≤700))) && (decide ((d.crops.length : Int)≤100))) && (decide ((d.rights.length : Int)≤300))) && (decide ((d.duties.length : Int)≤300))) && (decide ((d.wells.length : Int)≤100)))
@[go_sem] def Pe : List SV→Option Con:=(pD .district fun d=> (pE (.det True (.v (.bool (sS d))))))
def xE (d : District) (l_ : List Order) : Bool:=(bif ((!(sS d)) || ((decide ((l_.length : Int) > 150)) && ((decide ((l_.length : Int)≤4096)) || (decide ((l_.length : Int) > 5000))))) then false else (bif (((decide (d.hours < 1)) || (decide (d.hours > 4096))) || (decide ((d.reaches.length : Int) > 64))) then true else ((decide ((IntKind.i64.wrap ((d.reaches.length : Int) * d.hours))≤200)) || (decide ((IntKind.i64.wrap ((d.reaches.length : Int) * d.hours)) > 1024)))))
@[go_sem] def Pf : List SV→Option Con:=(pD .district fun d=> (pR .order fun l_=> (pE (.det True (.v (.bool (xE d l_)))))))
def nF (d : District) (c : List Claim) : Bool:=((sS d) && ((decide ((c.length : Int)≤300)) || ((decide ((c.length : Int) > 4096)) && (decide ((c.length : Int)≤5000)))))
@[go_sem] def EA : List SV→Option Con:=(pD .district fun d=> (pR .claim fun c=> (pE (.det True (.v (.bool (nF d c)))))))
def FJ (d : District) (c : List Claim) (l_ : List Order) : Bool:=(((xE d l_) && (nF d c)) && ((decide ((d.farms.length : Int)≤20)) || (decide ((d.farms.length : Int) > 600))))
@[go_sem] def Pg : List SV→Option Con:=(pD .district fun d=> (pR .claim fun c=> (pR .order fun l_=> (pE (.det True (.v (.bool (FJ d c l_))))))))
@[go_sem] def wy (a : List Fault) (b : List Fault) (k_0 : Nat) (s_0 : Unit) : Unit⊕Unit:=(bif (!(((a.getD k_0 (default : Fault)).kind==(b.getD k_0 (default : Fault)).kind) && (((a.getD k_0 (default : Fault)).hour==(b.getD k_0 (default : Fault)).hour) && (((a.getD k_0 (default : Fault)).index==(b.getD k_0 (default : Fault)).index) && (((a.getD k_0 (default : Fault)).litres==(b.getD k_0 (default : Fault)).litres) && ((a.getD k_0 (default : Fault)).limit==(b.getD k_0 (default : Fault)).limit)))))) then .inl () else .inr ())
def qA (a : List Fault) (b : List Fault) : Bool:=(bif ((a.length : Int) !=(b.length : Int)) then false else (match ax (wy a b) a.length 0 () with | .inl x_0_0=> false | .inr s_0=> true))
@[go_sem] def Oc : List SV→Option Con:=(pR .fault fun a=> (pR .fault fun b=> (pE (.det True (.v (.bool (qA a b)))))))
def aM : District:=({ name:=(ByteArray.mk #[]),hours:=9,tank:=({ cap:=50,start:=50} : Tank),reaches:=[({ name:=(ByteArray.mk #[]),up:=(-1),delay:=1,cap:=20,bank:=30,siphon:=0,evap:=({ lo:=0,hi:=1} : Range),seep:=(({ n:=0,d:=1} : Ratio),({ n:=0,d:=1} : Ratio))} : Reach),({ name:=(ByteArray.mk #[]),up:=0,delay:=2,cap:=10,bank:=12,siphon:=4,evap:=({ lo:=0,hi:=2} : Range),seep:=(({ n:=0,d:=1} : Ratio),({ n:=0,d:=1} : Ratio))} : Reach)],farms:=[({ name:=(ByteArray.mk #[]),reach:=0,area:=0,crop:=(-1)} : Farm),({ name:=(ByteArray.mk #[]),reach:=1,area:=0,crop:=(-1)} : Farm)],crops:=[],rights:=[({ name:=(ByteArray.mk #[]),kind:=1,farm:=0,reach:=0,rank:=0,litres:=3,since:=0,to:=8,every:=1,length:=1} : Right),({ name:=(ByteArray.mk #[]),kind:=1,farm:=1,reach:=0,rank:=0,litres:=5,since:=0,to:=8,every:=1,length:=1} : Right)],duties:=[],wells:=[]} : District)
@[go_sem] def FK : List SV→Option Con:=(pE (.det True (.agg [.v (.string ((aM).name)),.v (.int .i64 ((aM).hours)),.v (.int .i64 ((aM).tank.cap)),.v (.int .i64 ((aM).tank.start)),.nw .reach ((aM).reaches),.nw .farm ((aM).farms),.v (.slice none 0 0),.nw .right ((aM).rights),.v (.slice none 0 0),.v (.slice none 0 0)])))
def qB (hour : Int) (reach : Int) (n : Int) : Order:=({ hour:=hour,index:=reach,litres:=n,outlet:=false} : Order)
@[go_sem] def Od : List SV→Option Con:=(pI fun hour=> (pI fun reach=> (pI fun n=> (pE (.det True (.agg (cellsOf .order (qB hour reach n))))))))
def nc (hour : Int) (farm : Int) (n : Int) : Order:=({ hour:=hour,index:=farm,litres:=n,outlet:=true} : Order)
@[go_sem] def Jr : List SV→Option Con:=(pI fun hour=> (pI fun farm=> (pI fun n=> (pE (.det True (.agg (cellsOf .order (nc hour farm n))))))))
end Go.Sx
end
section
namespace Go.Sx
open Go.Proofs
set_option maxRecDepth 100000
set_option linter.unusedSimpArgs false
def ft (d : District) (c : List Claim) (l_ : List Order) : Bool×Int:=((((db d c l_).2==0) && ((((db d c l_).1).length : Int) ==0)),(db d c l_).2)
def fJ (d : District) (c : List Claim) (l_ : List Order) : Prop:=(d_ d c l_)
@[go_sem] def EB : List SV→Option Con:=(pD .district fun d=> (pR .claim fun c=> (pR .order fun l_=> (pE (.det (fJ d c l_) (.tup [.v (.bool ((ft d c l_).1)),.v (.int .i64 ((ft d c l_).2))]))))))
def iC (d : District) (l_ : List Order) (reach : Int) (hour : Int) : Int×Int:=(bif ((bu d) !=0) then (0,(bu d)) else (bif ((bj d l_).2 !=0) then (0,(bj d l_).2) else (bif ((((decide (reach < 0)) || (decide (reach≥(d.reaches.length : Int)))) || (decide (hour < 0))) || (decide (hour≥d.hours))) then (0,1) else ((bC ((bj d l_).1) reach hour),0))))
def ja (d : District) (l_ : List Order) (reach : Int) (hour : Int) : Prop:=(((bu d) !=0)=false→((kY d l_)∧(((bj d l_).2 !=0)=false→(((((decide (reach < 0)) || (decide (reach≥(d.reaches.length : Int)))) || (decide (hour < 0))) || (decide (hour≥d.hours)))=false→(eQ ((bj d l_).1) reach hour)))))
@[go_sem] def FL : List SV→Option Con:=(pD .district fun d=> (pR .order fun l_=> (pI fun reach=> (pI fun hour=> (pE (.det (ja d l_ reach hour) (.tup [.v (.int .i64 ((iC d l_ reach hour).1)),.v (.int .i64 ((iC d l_ reach hour).2))])))))))
def dc:=([(qB 2 0 11),(qB 3 1 7),(nc 3 0 3),(nc 5 1 5)])
def fW:=(([]) ++ dc)
def la:=(fW.getD 0 (default : Order))
def eS:=([({ right:=0,farm:=0,hour:=3,litres:=3,rank:=0} : Claim),({ right:=1,farm:=1,hour:=5,litres:=5,rank:=0} : Claim)])
def oL:=({ name:=(ByteArray.mk #[]),hours:=0,tank:=({ cap:=0,start:=0} : Tank),reaches:=[],farms:=[],crops:=[],rights:=[],duties:=[],wells:=[]} : District)
def dH:=({ name:=aM.name,hours:=aM.hours,tank:=aM.tank,reaches:=aM.reaches,farms:=aM.farms,crops:=[],rights:=aM.rights,duties:=[],wells:=[]} : District)
def oM:=(iC dH dc 1 5)
def oN:=(db dH eS dc)
def oO:=(ft dH eS dc)
def ld:=(aM.reaches.set 0 ({ name:=(aM.reaches.getD 0 (default : Reach)).name,up:=(aM.reaches.getD 0 (default : Reach)).up,delay:=(aM.reaches.getD 0 (default : Reach)).delay,cap:=9,bank:=(aM.reaches.getD 0 (default : Reach)).bank,siphon:=(aM.reaches.getD 0 (default : Reach)).siphon,evap:=(aM.reaches.getD 0 (default : Reach)).evap,seep:=(aM.reaches.getD 0 (default : Reach)).seep} : Reach))
def eE:=(ld.getD 1 (default : Reach))
def lT:=(fW.set 0 ({ hour:=la.hour,index:=la.index,litres:=10,outlet:=la.outlet} : Order))
def lU:=(lT.getD 1 (default : Order))
def lV:=(lT.set 1 ({ hour:=lU.hour,index:=lU.index,litres:=3,outlet:=lU.outlet} : Order))
def lW:=(lV.getD 3 (default : Order))
def d8:=({ name:=aM.name,hours:=aM.hours,tank:=({ cap:=aM.tank.cap,start:=10} : Tank),reaches:=(ld.set 1 ({ name:=eE.name,up:=eE.up,delay:=eE.delay,cap:=eE.cap,bank:=6,siphon:=eE.siphon,evap:=eE.evap,seep:=eE.seep} : Reach)),farms:=aM.farms,crops:=[],rights:=aM.rights,duties:=[],wells:=[]} : District)
def p9:=(ft d8 ([]) ([]))
def p_:=(db d8 ([]) dc)
def qa:=(lV.set 3 ({ hour:=lW.hour,index:=lW.index,litres:=4,outlet:=lW.outlet} : Order))
def qb:=(db dH eS qa)
def B9 : Bool:=(bif (((((((((oO.2 !=0) || (oN.2 !=0)) || (oM.2 !=0)) || (qb.2 !=0)) || (p_.2 !=0)) || (p9.2 !=0)) || ((ft oL ([]) ([])).2 !=191)) || ((iC d8 ([]) (-1) 0).2 !=1)) || ((db d8 ([]) ([({ hour:=0,index:=0,litres:=0,outlet:=false} : Order)])).2 !=280)) then false else (((((oO.1 && (((oN.1).length : Int) ==0)) && (oM.1==5)) && (qA (qb.1) ([({ kind:=2,hour:=3,index:=1,litres:=3,limit:=4} : Fault),({ kind:=5,hour:=5,index:=1,litres:=4,limit:=1} : Fault),({ kind:=6,hour:=5,index:=1,litres:=4,limit:=5} : Fault)]))) && (qA (p_.1) ([({ kind:=1,hour:=2,index:=0,litres:=11,limit:=9} : Fault),({ kind:=3,hour:=3,index:=1,litres:=7,limit:=6} : Fault),({ kind:=3,hour:=4,index:=1,litres:=7,limit:=6} : Fault),({ kind:=4,hour:=2,index:=0,litres:=11,limit:=10} : Fault)]))) && p9.1))
def yH : Prop:=((fJ dH eS dc)∧((d_ dH eS dc)∧((ja dH dc 1 5)∧((fW.length * 32≤eK)∧(fW.length≤bt→((0≤0∧0 < (fW.length : Int))∧((0≤1∧1 < (lT.length : Int))∧((0≤3∧3 < (lV.length : Int))∧((d_ dH eS qa)∧((0≤0∧0 < (aM.reaches.length : Int))∧((0≤1∧1 < (ld.length : Int))∧((d_ d8 ([]) dc)∧((fJ d8 ([]) ([]))∧((fJ oL ([]) ([]))∧((ja d8 ([]) (-1) 0)∧(d_ d8 ([]) ([({ hour:=0,index:=0,litres:=0,outlet:=false} : Order)])))))))))))))))))
@[go_sem] def Oe : List SV→Option Con:=(pE (.det (yH) (.v (.bool (B9)))))
end Go.Sx
end
section
namespace Go.Sx
open Go.Proofs
theorem Ve {a b : Bool} (h : a=true↔b=true) : a=b:=by cases a <;> cases b <;> simp_all
def Grid (g : List (List Int)) (n m : Nat) : Prop:=g.length=n∧∀ i,i < n→(g.getD i []).length=m
theorem Grid.app {g : List (List Int)} {n m : Nat} {r : List Int} (h : Grid g n m) (hr : r.length=m) : Grid (g ++ [r]) (n + 1) m:=by
 refine ⟨by simp [h.1],fun i hi=> ?_⟩
 by_cases e : i < n
 ·have:=h.2 i e
  simp only [List.getD_eq_getElem?_getD] at this ⊢
  rw [List.getElem?_append_left (by rw [h.1];exact e)]
  exact this
 ·have : i=g.length:=by have:=h.1;omega
  subst this
  simp [hr]
theorem Grid.set {g : List (List Int)} {n m i : Nat} {r : List Int} (h : Grid g n m) (hr : i < n→r.length=m) : Grid (g.set i r) n m:=by
 refine ⟨by simp [h.1],fun j hj=> ?_⟩
 have h0:=h.2 j hj
 simp only [List.getD_eq_getElem?_getD] at h0 ⊢
 rw [List.getElem?_set]
 split
 ·rename_i e
  subst e
  split
  ·simpa using hr hj
  ·rename_i hn;exact absurd (by rw [h.1];exact hj) hn
 ·exact h0
theorem Grid.row {g : List (List Int)} {n m i : Nat} (h : Grid g n m) (hi : i < n) : (g.getD i []).length=m:=h.2 i hi
structure Table1 (d : District) (l : List Order) (t : CertifyTable) : Prop where
 td : t.d=d
 tl : t.l=l
 sums : Grid t.sums d.reaches.length (d.hours + 1).toNat
 drawn : Grid t.drawn d.reaches.length d.hours.toNat
 ords : Orders1 d l
def gF (t : CertifyTable) (kind : Int) (k : Nat) : List Fault:=
 bif (t.l.getD k default).outlet then [] else
 bif kind==2 then
  bif decide ((t.l.getD k default).litres < (t.d.reaches.getD (t.l.getD k default).index.toNat default).siphon) then
   [{ kind:=kind,hour:=(t.l.getD k default).hour,index:=(t.l.getD k default).index,litres:=(t.l.getD k default).litres,limit:=(t.d.reaches.getD (t.l.getD k default).index.toNat default).siphon}] else []
 else
  bif decide ((t.l.getD k default).litres > (t.d.reaches.getD (t.l.getD k default).index.toNat default).cap) then
   [{ kind:=kind,hour:=(t.l.getD k default).hour,index:=(t.l.getD k default).index,litres:=(t.l.getD k default).litres,limit:=(t.d.reaches.getD (t.l.getD k default).index.toNat default).cap}] else []
def Js (t : CertifyTable) (z : Int×Int) : Int:=
 IntKind.i64.wrap ((t.sums.getD z.2.toNat default).getD (IntKind.i64.wrap (z.1 + 1)).toNat 0 - (t.sums.getD z.2.toNat default).getD (if 0 < IntKind.i64.wrap (IntKind.i64.wrap (z.1 + 1) - (t.d.reaches.getD z.2.toNat default).delay) then IntKind.i64.wrap (IntKind.i64.wrap (z.1 + 1) - (t.d.reaches.getD z.2.toNat default).delay) else 0).toNat 0)
def bF (t : CertifyTable) (z : Int×Int) : List Fault:=
 bif decide (Js t z > (t.d.reaches.getD z.2.toNat default).bank) then [{ kind:=3,hour:=z.1,index:=z.2,litres:=Js t z,limit:=(t.d.reaches.getD z.2.toNat default).bank}] else []
def wF (t : CertifyTable) (z : Int×Int) : List Fault:=
 bif decide ((t.drawn.getD z.2.toNat default).getD z.1.toNat 0 > bC t z.2 z.1) then [{ kind:=5,hour:=z.1,index:=z.2,litres:=(t.drawn.getD z.2.toNat default).getD z.1.toNat 0,limit:=bC t z.2 z.1}] else []
def uF (t : CertifyTable) (m : List (CertifyPlace×Int)) (h f : Nat) : List Fault:=
 bif decide (ay Tag.certifyPlace Tag.int t.litres { hour:=(h : Int),index:=(f : Int),outlet:=true} < ay Tag.certifyPlace Tag.int m { hour:=(h : Int),index:=(f : Int),outlet:=true}) then
  [{ kind:=6,hour:=(h : Int),index:=(f : Int),litres:=ay Tag.certifyPlace Tag.int t.litres { hour:=(h : Int),index:=(f : Int),outlet:=true},limit:=ay Tag.certifyPlace Tag.int m { hour:=(h : Int),index:=(f : Int),outlet:=true}}] else []
theorem FM (d : District) (c : List Claim) : fT d c:=fun _ h1 _ _=> mU _ _ _ fun j s h2 h3=> by
 unfold bt at h1
 unfold fI
 refine ⟨fun h=> ?_,fun h=> ?_,fun _ h=> ?_⟩
 ·simp only [Bool.not_eq_false',Bool.and_eq_true,decide_eq_true_eq] at h
  omega
 ·simp only [Bool.or_eq_false_iff,Bool.not_eq_false',Bool.and_eq_true,decide_eq_true_eq] at h
  omega
 ·simp only [decide_eq_true_eq] at h
  rw [mC (by omega) (by omega)];omega
theorem yI (d : District) (c : List Claim) : aZ d c=0↔bu d=0∧c.length≤4096∧∀ k,k < c.length→dW d c k ()= .inr () :=by
 unfold aZ
 cases h1 : (bu d !=0) with
 | true=> simp at h1;simp [h1]
 | false=>
  simp at h1
  simp only [cond_false,h1,true_and]
  cases h2 : decide ((c.length : Int) > 4096) with
  | true=> simp at h2;simp;omega
  | false=>
   simp at h2
   rw [←vt]
   cases h3 : ax (dW d c) c.length 0 () with
   | inl y=> simp
   | inr y=> simp;omega
def Jt (c : List Claim) : List (CertifyPlace×Int) :=match ax (eD c) c.length 0 [] with | .inl x=> x.elim | .inr m=> m
structure Quiet (t : CertifyTable) (c : List Claim) : Prop where
 gate : ∀ k,k < t.l.length→gF t 1 k=[]
 siph : ∀ k,k < t.l.length→gF t 2 k=[]
 bank : ∀ z∈fw t,bF t z=[]
 tank : ∀ j,j < t.d.hours.toNat→¬ ((t.sums.getD 0 (default : List Int)).getD (IntKind.i64.wrap ((j : Int) + 1)).toNat 0 > t.d.tank.start)
 water : ∀ z∈fw t,wF t z=[]
 unmet : ∀ h,h < t.d.hours.toNat→∀ f,f < t.d.farms.length→uF t (Jt c) h f=[]
def pA (a b : Claim) : Prop:=a.hour < b.hour∨a.hour=b.hour∧(a.rank < b.rank∨a.rank=b.rank∧(a.right < b.right∨a.right=b.right∧a.farm < b.farm))
theorem B_ {a b c : Claim} (h1 : pA a b) (h2 : pA b c) : pA a c:=by
 unfold pA at *;omega
theorem Rj (a b c d : Int) : ix [a,b,c,d]=if a≠0 then a else if b≠0 then b else if c≠0 then c else d:=by
 unfold ix
 simp only [List.length_cons,List.length_nil,Nat.zero_add,Nat.reduceAdd,ax,jW,List.getD_cons_zero,List.getD_cons_succ]
 by_cases h1 : a=0 <;> by_cases h2 : b=0 <;> by_cases h3 : c=0 <;> by_cases h4 : d=0 <;> simp [h1,h2,h3,h4,Bool.cond_eq_ite]
theorem FN (a b : Claim) : gb a b < 0↔pA a b:=by
 unfold gb pA
 rw [Rj]
 simp only [hY]
 repeat' split
 all_goals (first | omega | skip)
def okC (d : District) (a : Claim) : Bool:=(((((((((decide (a.right≥0)) && (decide (a.right < (d.rights.length : Int)))) && (decide (a.farm≥0))) && (decide (a.farm < (d.farms.length : Int)))) && (decide (a.hour≥0))) && (decide (a.hour < d.hours))) && (decide (a.litres≥1))) && (decide (a.litres≤1073741824)))) && ((d.rights.getD a.right.toNat default).kind==1) && ((d.rights.getD a.right.toNat default).rank==a.rank)
theorem tt {d : District} {c : List Claim} {k : Nat} (hk : k < 4096) : dW d c k ()= .inr ()↔okC d (c.getD k default)=true∧(0 < k→pA (c.getD (k - 1) default) (c.getD k default)) :=by
 have hw : k > 0→(IntKind.i64.wrap ((k : Int) - 1)).toNat=k - 1:=fun h=> by rw [mC (by omega) h];simp
 have hb : ∀ X : Bool,((bif X then Sum.inl () else Sum.inr ()) : Unit⊕Unit)= .inr ()↔X=false:=fun X=> by cases X <;> simp
 unfold dW okC
 rw [hb]
 generalize hq : ((((((((decide ((c.getD k default).right≥0)) && (decide ((c.getD k default).right < (d.rights.length : Int)))) && (decide ((c.getD k default).farm≥0))) && (decide ((c.getD k default).farm < (d.farms.length : Int)))) && (decide ((c.getD k default).hour≥0))) && (decide ((c.getD k default).hour < d.hours))) && (decide ((c.getD k default).litres≥1))) && (decide ((c.getD k default).litres≤1073741824)))=q
 clear hq
 by_cases h0 : 0 < k
 ·rw [hw h0,←FN]
  have hp : decide ((k : Int) > 0)=true:=by simp;omega
  rw [hp]
  simp only [Bool.or_eq_false_iff,Bool.and_eq_true,Bool.not_eq_false',Bool.true_and,bne_eq_false_iff_eq,beq_iff_eq,decide_eq_false_iff_not,h0,true_imp_iff]
  generalize gb (c.getD (k - 1) default) (c.getD k default)=z
  constructor
  ·rintro ⟨⟨⟨h1,h2⟩,h3⟩,h4⟩;exact ⟨⟨⟨h1,h2⟩,h3⟩,by omega⟩
  ·rintro ⟨⟨⟨h1,h2⟩,h3⟩,h4⟩;exact ⟨⟨⟨h1,h2⟩,h3⟩,by omega⟩
 ·have hp : decide ((k : Int) > 0)=false:=by simp;omega
  rw [hp]
  simp only [Bool.or_eq_false_iff,Bool.and_eq_true,Bool.not_eq_false',Bool.false_and,bne_eq_false_iff_eq,beq_iff_eq,h0,false_imp_iff,and_true]
theorem eF (d : District) (c : List Claim) : aZ d c=0↔bu d=0∧c.length≤4096∧(∀ a∈c,okC d a=true)∧c.Pairwise pA:=by
 rw [yI]
 refine and_congr_right fun _=> and_congr_right fun hl=> ?_
 constructor
 ·intro h
  have hs:=fun k hk=> (tt (by omega)).1 (h k hk)
  refine ⟨fun a ha=> ?_,?_⟩
  ·obtain ⟨k,hk,rfl⟩ :=List.getElem_of_mem ha
   have:=(hs k hk).1
   rwa [cX _ _ hk] at this
  ·have key : ∀ (k j : Nat),j < k→k < c.length→pA (c.getD j default) (c.getD k default) :=by
    intro k
    induction k with
    | zero=> intro j h1;omega
    | succ k ih=>
     intro j h1 h2
     have h3:=(hs (k + 1) h2).2 (by omega)
     rw [Nat.add_sub_cancel] at h3
     by_cases e : j=k
     ·subst e;exact h3
     ·exact B_ (ih j (by omega) (by omega)) h3
   rw [List.pairwise_iff_getElem]
   intro i j hi hj hij
   have:=key j i hij hj
   rwa [cX _ _ hi,cX _ _ hj] at this
 ·rintro ⟨h1,h2⟩ k hk
  refine (tt (by omega)).2 ⟨?_,fun h0=> ?_⟩
  ·rw [cX _ _ hk];exact h1 _ (List.getElem_mem _)
  ·rw [cX _ _ hk,cX _ _ (by omega : k - 1 < c.length)]
   exact List.pairwise_iff_getElem.1 h2 _ _ _ _ (by omega)
def oQ (a : Claim) : CertifyPlace:= { hour:=a.hour,index:=a.farm,outlet:=true}
def cI (p : CertifyPlace) : List Claim→Int
 | [] => 0
 | a :: r=> (if p=oQ a then a.litres else 0) + cI p r
theorem oR (p : CertifyPlace) (a b : List Claim) : cI p (a ++ b)=cI p a + cI p b:=by
 induction a with
 | nil=> simp [cI]
 | cons x r ih=> simp only [List.cons_append,cI,ih];omega
theorem wz (p : CertifyPlace) (c : List Claim) (h : ∀ a∈c,1≤a.litres∧a.litres≤1073741824) : 0≤cI p c∧cI p c≤c.length * 1073741824:=by
 induction c with
 | nil=> simp [cI]
 | cons x r ih=>
  have h1:=ih fun a ha=> h a (List.mem_cons_of_mem _ ha)
  have h2:=h x List.mem_cons_self
  simp only [cI,List.length_cons]
  split <;> omega
theorem qC {d : District} {a : Claim} (h : okC d a=true) : 1≤a.litres∧a.litres≤1073741824:=by
 unfold okC at h
 simp only [Bool.and_eq_true,decide_eq_true_eq] at h
 omega
def cy (reach a b : Int) (x : Order) : Bool:=(!x.outlet && x.index==reach) && decide (x.hour≥a) && decide (x.hour≤b)
def vN (farm hour : Int) (x : Order) : Bool:=(x.outlet && x.index==farm) && x.hour==hour
def cell (g : List (List Int)) (i j : Nat) : Int:=(g.getD i []).getD j 0
def jb (h i : Int) (o : Bool) (x : Order) : Bool:=(x.hour==h && x.index==i) && x.outlet==o
structure T1 (d : District) (pre : List Order) (s : List (CertifyPlace×Int)×List (List Int)×List (List Int)) : Prop where
 lit : ∀ h i o,ay .certifyPlace .int s.1 { hour:=h,index:=i,outlet:=o} =bM (jb h i o) pre
 gd : Grid s.2.1 d.reaches.length d.hours.toNat
 gs : Grid s.2.2 d.reaches.length (d.hours + 1).toNat
 drawn : ∀ r h,r < d.reaches.length→h < d.hours.toNat→cell s.2.1 r h=bM (nC d r h) pre
 sums : ∀ r t,r < d.reaches.length→t < (d.hours + 1).toNat→cell s.2.2 r t=bM (cy r ((t : Int) - 1) ((t : Int) - 1)) pre
theorem FO {d : District} {l : List Order} (ho : Orders1 d l) {j : Nat} (hj : j < l.length) {p : Order→Bool} (hp : ∀ x,p x=true→x.hour=l[j].hour∧x.index=l[j].index∧x.outlet=l[j].outlet) : bM p (l.take j)=0:=
 mD fun x hx=> by
  obtain ⟨i,hi,rfl⟩ :=List.getElem_of_mem hx
  rw [List.length_take] at hi
  rw [List.getElem_take]
  cases h : p l[i] with
  | false=> rfl
  | true=>
   obtain ⟨e1,e2,e3⟩ :=hp _ h
   have:=ho.uniq (by omega) hj e1 e2 e3
   omega
theorem yJ {d : District} {l : List Order} (ho : Orders1 d l) (p : Order→Bool) (j : Nat) : 0≤bM p (l.take j)∧bM p (l.take j)≤4398046511104:=by
 have hb:=vz (p:=p) fun a ha=> ho.lit a (List.mem_of_mem_take (i:=j) ha)
 have hl:=ho.len
 have hb3 : (l.take j).length≤4096:=by rw [List.length_take];omega
 omega
theorem Ju {d : District} {l : List Order} (ho : Orders1 d l) (p : Order→Bool) : 0≤bM p l∧bM p l≤4398046511104:=by
 have:=yJ ho p l.length
 rwa [List.take_length] at this
structure Table2 (d : District) (l : List Order) (t : CertifyTable) : Prop where
 lit : ∀ h i o,ay .certifyPlace .int t.litres { hour:=h,index:=i,outlet:=o} =bM (jb h i o) l
 drawn : ∀ r h,r < d.reaches.length→h < d.hours.toNat→cell t.drawn r h=bM (nC d r h) l
 sums : ∀ r j,r < d.reaches.length→j < (d.hours + 1).toNat→cell t.sums r j=bM (cy r 0 ((j : Int) - 1)) l
structure Sure (d : District) (c : List Claim) (l : List Order) : Prop where
 ho : Orders1 d l
 clen : c.length≤4096
 okc : ∀ a∈c,okC d a=true
 cap : ∀ r h : Nat,r < d.reaches.length→bM (cy r h h) l≤(d.reaches.getD r default).cap
 bank : ∀ r h : Nat,r < d.reaches.length→h < d.hours.toNat→bM (cy r ((h : Int) - (d.reaches.getD r default).delay + 1) h) l≤(d.reaches.getD r default).bank
 tank : ∀ h : Nat,h < d.hours.toNat→bM (cy (0 : Nat) 0 h) l≤d.tank.start
 water : ∀ r h : Nat,r < d.reaches.length→h < d.hours.toNat→bM (nC d r h) l≤(da (d.reaches.getD r default) (bM (cy r ((h : Int) - (d.reaches.getD r default).delay) ((h : Int) - (d.reaches.getD r default).delay)) l)).1
 unmet : ∀ h f : Nat,h < d.hours.toNat→f < d.farms.length→cI { hour:=(h : Int),index:=(f : Int),outlet:=true} c≤bM (vN f h) l
theorem Jv {d : District} {l : List Order} (ho : Orders1 d l) (r : Int) {a m b : Int} (h1 : a≤m) (h2 : m≤b + 1) : bM (cy r a (m - 1)) l + bM (cy r m b) l=bM (cy r a b) l:=IU fun x _=> by
 unfold cy
 cases (!x.outlet && x.index==r)
 ·simp
 ·simp only [Bool.true_and]
  constructor
  ·refine Ve ?_
   simp only [Bool.or_eq_true,Bool.and_eq_true,decide_eq_true_eq];omega
  ·rw [Bool.eq_false_iff]
   simp only [ne_eq,Bool.and_eq_true,decide_eq_true_eq];omega
end Go.Sx
end
section
namespace Go.Sx
open Go.Proofs
set_option maxRecDepth 100000
set_option linter.unusedSimpArgs false
theorem As {p : Prop} (h : p:=by (first | done | (repeat' (first | with_reducible refine And.intro ?_ ?_ | ((with_reducible show _≠_);first | assumption | omega | (simp_all [aK,aU];done) | grind) | with_reducible intro _)) <;> (first | done | exact Empty.elim ‹Empty› | assumption | rfl | omega | decide | exact fk [0] | (simp only [*,cond_true,cond_false,Bool.not_true,Bool.not_false,go_sem,Nat.reduceBEq,Nat.reduceLeDiff,Nat.reduceLT,decide_true,Nat.reduceAdd,Nat.reduceSub,Nat.reduceMul,Int.reduceLE,Int.reduceLT,Int.reduceToNat,Int.reduceNeg,reduceCtorEq];done) | (simp only [*,cond_true,cond_false,Bool.not_true,Bool.not_false,go_sem,Nat.reduceBEq,Nat.reduceLeDiff,Nat.reduceLT,decide_true,Nat.reduceAdd,Nat.reduceSub,Nat.reduceMul,Int.reduceLE,Int.reduceLT,Int.reduceToNat,Int.reduceNeg,reduceCtorEq];(repeat' (first | with_reducible refine And.intro ?_ ?_ | ((with_reducible show _≠_);first | assumption | omega | (simp_all [aK,aU];done) | grind) | with_reducible intro _)) <;> (first | done | assumption | rfl | omega | decide | exact fk [0] | (simp_all [aK,aU];done))) | (simp_all [okI,aK,aU];done) | (simp_all [aK,aU];(first | done | exact fk2 [0])) | exact fk2 [0]))) : p:=h
theorem At {p : Prop} (h : p:=by (first | done | (repeat' (first | with_reducible refine And.intro ?_ ?_ | ((with_reducible show _≠_);first | assumption | omega | (simp_all [aK,aU];done) | grind) | with_reducible intro _)) <;> (first | done | exact Empty.elim ‹Empty› | assumption | rfl | omega | decide | exact fk [0,1,5] | exact fk [0,1,2] | (simp only [*,cond_true,cond_false,Bool.not_true,Bool.not_false,go_sem,Nat.reduceBEq,Nat.reduceLeDiff,Nat.reduceLT,decide_true,Nat.reduceAdd,Nat.reduceSub,Nat.reduceMul,Int.reduceLE,Int.reduceLT,Int.reduceToNat,Int.reduceNeg,reduceCtorEq];done) | (simp only [*,cond_true,cond_false,Bool.not_true,Bool.not_false,go_sem,Nat.reduceBEq,Nat.reduceLeDiff,Nat.reduceLT,decide_true,Nat.reduceAdd,Nat.reduceSub,Nat.reduceMul,Int.reduceLE,Int.reduceLT,Int.reduceToNat,Int.reduceNeg,reduceCtorEq];(repeat' (first | with_reducible refine And.intro ?_ ?_ | ((with_reducible show _≠_);first | assumption | omega | (simp_all [aK,aU];done) | grind) | with_reducible intro _)) <;> (first | done | assumption | rfl | omega | decide | exact fk [0,1,5] | exact fk [0,1,2] | (simp_all [aK,aU];done))) | (simp_all [okI,aK,aU];done) | (simp_all [aK,aU];(first | done | exact fk2 [0,1,5] | exact fk2 [0,1,2])) | exact fk2 [0,1,5] | exact fk2 [0,1,2]))) : p:=h
theorem Au {p : Prop} (h : p:=by (first | done | (repeat' (first | with_reducible refine And.intro ?_ ?_ | ((with_reducible show _≠_);first | assumption | omega | (simp_all [aK,aU];done) | grind) | with_reducible intro _)) <;> (first | done | exact Empty.elim ‹Empty› | assumption | rfl | omega | decide | exact fk [] | (simp only [*,cond_true,cond_false,Bool.not_true,Bool.not_false,go_sem,Nat.reduceBEq,Nat.reduceLeDiff,Nat.reduceLT,decide_true,Nat.reduceAdd,Nat.reduceSub,Nat.reduceMul,Int.reduceLE,Int.reduceLT,Int.reduceToNat,Int.reduceNeg,reduceCtorEq];done) | (simp only [*,cond_true,cond_false,Bool.not_true,Bool.not_false,go_sem,Nat.reduceBEq,Nat.reduceLeDiff,Nat.reduceLT,decide_true,Nat.reduceAdd,Nat.reduceSub,Nat.reduceMul,Int.reduceLE,Int.reduceLT,Int.reduceToNat,Int.reduceNeg,reduceCtorEq];(repeat' (first | with_reducible refine And.intro ?_ ?_ | ((with_reducible show _≠_);first | assumption | omega | (simp_all [aK,aU];done) | grind) | with_reducible intro _)) <;> (first | done | assumption | rfl | omega | decide | exact fk [] | (simp_all [aK,aU];done))) | (simp_all [okI,aK,aU];done) | (simp_all [aK,aU];(first | done | exact fk2 [])) | exact fk2 []))) : p:=h
theorem Jw {p : Prop} (h : p:=by simp only [go_sem,Nat.reduceBEq,Nat.reduceLeDiff,Nat.reduceLT,decide_true,Nat.reduceAdd,Nat.reduceSub,Nat.reduceMul,Int.reduceLE,Int.reduceLT,Int.reduceToNat,Int.reduceNeg,reduceCtorEq,hc,hw];all_goals exact As) : p:=h
theorem Jx {p : Prop} (h : p:=by simp only [go_sem,Nat.reduceBEq,Nat.reduceLeDiff,Nat.reduceLT,decide_true,Nat.reduceAdd,Nat.reduceSub,Nat.reduceMul,Int.reduceLE,Int.reduceLT,Int.reduceToNat,Int.reduceNeg,reduceCtorEq,hc];all_goals exact As) : p:=h
theorem Jy {p : Prop} (h : p:=by simp only [go_sem,Nat.reduceBEq,Nat.reduceLeDiff,Nat.reduceLT,decide_true,Nat.reduceAdd,Nat.reduceSub,Nat.reduceMul,Int.reduceLE,Int.reduceLT,Int.reduceToNat,Int.reduceNeg,reduceCtorEq,hc,hw];all_goals exact Au) : p:=h
theorem Jz {p : Prop} (h : p:=by simp only [go_sem,Nat.reduceBEq,Nat.reduceLeDiff,Nat.reduceLT,decide_true,Nat.reduceAdd,Nat.reduceSub,Nat.reduceMul,Int.reduceLE,Int.reduceLT,Int.reduceToNat,Int.reduceNeg,reduceCtorEq,hc];all_goals exact Au) : p:=h
@[go_sem] def bI (c : List Claim) (k_0 : Nat) (s_0 : List (TimetableSlot×Int)) : Empty⊕(List (TimetableSlot×Int)) := .inr (c6 .timetableSlot .int s_0 ({ index:=(c.getD k_0 (default : Claim)).farm,hour:=(c.getD k_0 (default : Claim)).hour} : TimetableSlot) (IntKind.i64.wrap ((ay .timetableSlot .int s_0 ({ index:=(c.getD k_0 (default : Claim)).farm,hour:=(c.getD k_0 (default : Claim)).hour} : TimetableSlot)) + (c.getD k_0 (default : Claim)).litres)))
@[go_sem] def b_ (s_0 : List (TimetableSlot×Int)) (k_1 : TimetableSlot×Int) (s_1 : List Order) : Empty⊕(List Order) := .inr (s_1 ++ ([({ hour:=k_1.1.hour,index:=k_1.1.index,litres:=k_1.2,outlet:=true} : Order)]))
def df (s_0 : List (TimetableSlot×Int)) (k_1 : TimetableSlot×Int) (s_1 : List Order) : Prop:=((s_1 ++ ([({ hour:=k_1.1.hour,index:=k_1.1.index,litres:=k_1.2,outlet:=true} : Order)])).length * 32≤eK)
def ak (c : List Claim) : List Order:=(match ax (bI c) c.length 0 ([]) with | .inl x=> x.elim | .inr s_0=> (match cj (b_ s_0) s_0 ([]) with | .inl x=> x.elim | .inr s_1=> (srt an s_1)))
def eL (c : List Claim) : Prop:=(c.length≤bt→(∀ s_0,ax (bI c) c.length 0 ([])= .inr s_0→(∀ L_1,L_1.Perm s_0→(okL (b_ s_0) (df s_0) L_1 ([])∧(∀ s_1,cj (b_ s_0) L_1 ([])= .inr s_1→((apart an s_1)∧((srt an s_1)=(ak c))))))))
@[go_sem] def gx : List SV→Option Con:=(pR .claim fun c=> (pE (.det (eL c) (.nw .order (ak c)))))
set_option maxHeartbeats 4000000 in
theorem jM : FnOk Tryz.prog 63 gx:=by
 have hG : ConsOk Tryz.prog (mkG [] [(97,g0)]) :=aQ cg0 (cgc tr cg0)
 refine qr true mixed aH hG (fn:=Tryz.f63) (c:=aj Tryz.f63) (by kernel_rfl) (by kernel_rfl) (by kernel_rfl) (by kernel_rfl) (dq fun c=> (aO (fun hp=> ?_)))
 dsimp only [aW] at hp
 unfold eL at hp
 refine ⟨Nat.le_of_ble_eq_true rfl,(fun id st=> bif Nat.beq id 0 then some (LCR (ρ:=Empty) (σ:=(List (TimetableSlot×Int))) 1 [] [0] (fun k_0 s_0=> ⟨[(2,.v (.slice none 0 0)),(3,.os 0),(9,.rs .claim c),(10,.v (.int .i64 (c.length : Int))),(11,.v (.int .i64 (k_0 : Int)))],[.mp .timetableSlot .int s_0 none]⟩) (bI c) pT c.length ([]) (c.length≤bt) ((·.elim)) ((·.elim)) st) else bif Nat.beq id 2 then some (LCP (τ:=TimetableSlot×Int) (ρ:=Empty) (σ:=(List Order)) 2 [.slot 2 (.row .order ([]))] [0,1,2] (fun left_1 cur_1 s_1=> ⟨[(2,.os 2),(29,.ptr 1 0)],[.mp .timetableSlot .int (aK (ax (bI c) c.length 0 ([]))) none,.mi (some 0) (aK (ax (bI c) c.length 0 ([]))).length left_1 cur_1,.row .order s_1]⟩) (b_ (aK (ax (bI c) c.length 0 ([])))) (df (aK (ax (bI c) c.length 0 ([])))) (aK (ax (bI c) c.length 0 ([]))) ([]) ((·.elim)) ((·.elim)) (fun s_1=> ⟨[(2,.os 2)],[.dead,.dead,.row .order s_1]⟩) st) else none),?_,?_⟩
 ·unfold aj Tryz.f63
  simp only [az,true_and,and_true]
  refine ⟨?_,?_⟩
  ·refine c9 mixed aH hG (by kernel_rfl) (fun _=> rfl) (c.length : Int) rfl lr (fun hb0 k_0 s_0 hlt0 _ hw hc=> ⟨L0,aw _,?_⟩) (fun hb0 s_0 hc=> ?_)
   ·exact Jw
   ·exact Jx
  ·refine Jf (c7 .timetableSlot,c7 .int) 1 mixed aH hG (by kernel_rfl) (fun _=> rfl) fun left_1 cur_1 s_1 hp1=> ⟨L0,aw _,?_⟩
   ·by_cases hl1 : left_1=[]
    ·subst hl1
     simp only [go_sem,Nat.reduceBEq,Nat.reduceLeDiff,Nat.reduceLT,decide_true,Nat.reduceAdd,Nat.reduceSub,Nat.reduceMul,Int.reduceLE,Int.reduceLT,Int.reduceToNat,Int.reduceNeg,reduceCtorEq,List.not_mem_nil]
     all_goals exact At
    ·simp only [go_sem,Nat.reduceBEq,Nat.reduceLeDiff,Nat.reduceLT,decide_true,Nat.reduceAdd,Nat.reduceSub,Nat.reduceMul,Int.reduceLE,Int.reduceLT,Int.reduceToNat,Int.reduceNeg,reduceCtorEq,hl1]
     intro j hj1
     obtain ⟨hlt1,hq1⟩ :=hp1 j hj1
     unfold df at hq1
     all_goals exact At
 ·unfold aj Tryz.f63
  simp only [go_sem,Nat.reduceBEq,Nat.reduceLeDiff,Nat.reduceLT,decide_true,Nat.reduceAdd,Nat.reduceSub,Nat.reduceMul,Int.reduceLE,Int.reduceLT,Int.reduceToNat,Int.reduceNeg,reduceCtorEq]
  all_goals exact clP
@[go_sem] def aV (s_ : List Order) (k_0 : Nat) (s_0 : Unit) : Int⊕Unit:=(bif (iy (s_.getD k_0 (default : Order))) then .inl (k_0 : Int) else .inr ())
def b4 (s_ : List Order) : Int:=(match ax (aV s_) s_.length 0 () with | .inl x_0_0=> x_0_0 | .inr s_0=> (-1))
@[go_sem] def dI : List SV→Option Con:=(pR .order fun s_=> (pFn 65 (pE ((pE (.det True (.v (.int .i64 (b4 s_)))))))))
set_option maxHeartbeats 4000000 in
theorem fL : FnOk Tryz.prog 109 dI:=by
 have hG : ConsOk Tryz.prog (mkG [(65,j8)] []) :=aQ (cgc oF cg0) cg0
 refine ba [.o] mixed aH hG (fn:=Tryz.f109) (c:=aj Tryz.f109) (by kernel_rfl) (by kernel_rfl) (by kernel_rfl) (by kernel_rfl) (dq fun s_=> (im (aO ((aO (fun hp=> ?_))))))
 dsimp only [aW] at hp
 refine ⟨Nat.le_of_ble_eq_true rfl,(fun id st=> bif Nat.beq id 0 then some (LCR (ρ:=Int) (σ:=Unit) 0 [] [] (fun k_0 s_0=> ⟨[(0,.rs .order s_),(1,.fn 65 [] []),(7,.v (.int .i64 (s_.length : Int))),(8,.v (.int .i64 (k_0 : Int)))],[]⟩) (aV s_) pT s_.length () (s_.length≤bt) (fun _=> .ret) (fun x_0_0=> ⟨[(4,.v (.int .i64 x_0_0))],[]⟩) st) else none),?_,?_⟩
 ·unfold aj Tryz.f109
  simp only [az,true_and,and_true]
  ·refine c9 mixed aH hG (by kernel_rfl) (fun _=> rfl) (s_.length : Int) rfl lr (fun hb0 k_0 s_0 hlt0 _ hw hc=> ⟨L0,aw _,?_⟩) (fun hb0 s_0 hc=> ?_)
   ·exact Jy
   ·exact Jz
 ·unfold aj Tryz.f109
  try unfold b4
  simp only [go_sem,Nat.reduceBEq,Nat.reduceLeDiff,Nat.reduceLT,decide_true,Nat.reduceAdd,Nat.reduceSub,Nat.reduceMul,Int.reduceLE,Int.reduceLT,Int.reduceToNat,Int.reduceNeg,reduceCtorEq]
  all_goals exact cl
def aI (s_ : List Order) : Bool:=(decide ((b4 s_)≥0))
@[go_sem] def cd : List SV→Option Con:=(pR .order fun s_=> (pFn 65 (pE ((pE (.det True (.v (.bool (aI s_)))))))))
theorem dg : FnOk Tryz.prog 64 cd:=by
 have hG : ConsOk Tryz.prog (mkG [(109,fun l=> dI (c8 [.sl .order,.o] l))] []) :=aQ (cgc (fL.norm [.sl .order,.o]) cg0) cg0
 refine ba [.o] mixed aH hG (fn:=Tryz.f64) (c:=aj Tryz.f64) (by kernel_rfl) (by kernel_rfl) (by kernel_rfl) (by kernel_rfl) (dq fun s_=> (im (aO ((aO (fun hp=> ?_))))))
 dsimp only [aW] at hp
 refine ⟨Nat.le_of_ble_eq_true rfl,L0,aw _,?_⟩
 ·unfold aj Tryz.f64
  try unfold aI
  simp only [go_sem,Nat.reduceBEq,Nat.reduceLeDiff,Nat.reduceLT,decide_true,Nat.reduceAdd,Nat.reduceSub,Nat.reduceMul,Int.reduceLE,Int.reduceLT,Int.reduceToNat,Int.reduceNeg,reduceCtorEq]
  all_goals exact cl
def ag (d : District) (c : List Claim) : List Order×Int:=(bif ((aZ d c) !=0) then ([],(aZ d c)) else (bif (decide ((IntKind.i64.wrap ((d.reaches.length : Int) * d.hours)) > 1024)) then ([],2) else (bif (aI (ak c)) then ([],270) else ((ak c),0))))
def dh (d : District) (c : List Claim) : Prop:=((fT d c)∧(((aZ d c) !=0)=false→(d.reaches.length≤bt→((decide ((IntKind.i64.wrap ((d.reaches.length : Int) * d.hours)) > 1024))=false→(eL c)))))
@[go_sem] def iD : List SV→Option Con:=(pD .district fun d=> (pR .claim fun c=> (pE (.det (dh d c) (.tup [.rs .order ((ag d c).1),.v (.int .i64 ((ag d c).2))])))))
theorem lf : FnOk Tryz.prog 33 iD:=by
 have hG : ConsOk Tryz.prog (mkG [(24,fun l=> kV (c8 [.st .district,.sl .claim] l)),(63,fun l=> gx (c8 [.sl .claim] l)),(64,fun l=> cd (c8 [.sl .order,.o] l))] []) :=aQ (cgc (nA.norm [.st .district,.sl .claim]) (cgc (jM.norm [.sl .claim]) (cgc (dg.norm [.sl .order,.o]) cg0))) cg0
 refine ba [.sl .order,.o] mixed aH hG (fn:=Tryz.f33) (c:=aj Tryz.f33) (by kernel_rfl) (by kernel_rfl) (by kernel_rfl) (by kernel_rfl) (bW fun d=> (dq fun c=> (aO (fun hp=> ?_))))
 dsimp only [aW] at hp
 unfold dh at hp
 refine ⟨Nat.le_of_ble_eq_true rfl,L0,aw _,?_⟩
 ·unfold aj Tryz.f33
  try unfold ag
  simp only [go_sem,Nat.reduceBEq,Nat.reduceLeDiff,Nat.reduceLT,decide_true,Nat.reduceAdd,Nat.reduceSub,Nat.reduceMul,Int.reduceLE,Int.reduceLT,Int.reduceToNat,Int.reduceNeg,reduceCtorEq]
  all_goals exact cl
end Go.Sx
end
section
namespace Go.Sx
open Go.Proofs Go.Shelf Go.Sort Go.Lib
def oP (f h : Int) : CertifyPlace:= { hour:=h,index:=f,outlet:=true}
def oS (c : List Claim) (f h : Int) : Int:=cI (oP f h) c
def okL1 (c : List Claim) : Prop:=c.length≤4096∧∀ a∈c,1≤a.litres∧a.litres≤1073741824
theorem FP {c : List Claim} {j : Nat} (hj : j < c.length) (f h : Int) : oS (c.take (j + 1)) f h=oS (c.take j) f h + (if oP f h=oQ c[j] then c[j].litres else 0) :=by
 unfold oS
 rw [List.take_succ_eq_append_getElem hj,oR]
 simp [cI]
theorem Of {c : List Claim} (h : okL1 c) (f t : Int) : 0≤oS c f t∧oS c f t≤4398046511104:=by
 have h1:=wz (oP f t) c h.2
 have h2:=h.1
 unfold oS
 omega
theorem okL1.take {c : List Claim} (h : okL1 c) (j : Nat) : okL1 (c.take j) :=⟨by rw [List.length_take];have:=h.1;omega,fun a ha=> h.2 a (List.mem_of_mem_take ha)⟩
theorem JA {k : Tag} (m : List (k.T×Int)) (x : k.T) (y : Int) : (c6 k .int m x y).length≤m.length + 1:=by
 have:=congrArg List.length (sK m x y)
 rw [List.length_map] at this
 show (nG m x y).length≤_
 rw [this]
 split
 ·rw [List.length_map];omega
 ·simp
theorem EC {c : List Claim} (h : okL1 c) : ∃ m,ax (bI c) c.length 0 []= .inr m∧SM .timetableSlot (fun p=> oS c p.index p.hour) m∧m.length≤c.length:=by
 obtain ⟨m,e,hm,hn⟩ :=vL (step:=bI c) (fun j m=> SM .timetableSlot (fun p=> oS (c.take j) p.index p.hour) m∧m.length≤j) c.length 0 [] ⟨by simpa [oS,cI] using SM.nil,Nat.le_refl _⟩ (fun j m _ hj ⟨hm,hn⟩ => by
  have hj : j < c.length:=by omega
  refine ⟨_,rfl,?_,Nat.le_trans (JA _ _ _) (by omega)⟩
  rw [cX _ _ hj]
  have h1:=Of (h.take j) c[j].farm c[j].hour
  have h2:=h.2 _ (List.getElem_mem hj)
  have h3:=hm.get ({ index:=c[j].farm,hour:=c[j].hour} : TimetableSlot)
  simp only at h3
  refine hm.put _ (v:=_) ?_ fun p=> ?_
  ·rw [h3,cH (by omega) (by omega)];omega
  ·rw [h3,cH (by omega) (by omega),FP hj]
   by_cases hp : p=({ index:=c[j].farm,hour:=c[j].hour} : TimetableSlot)
   ·subst hp
    rw [if_pos rfl,if_pos (by rfl)]
   ·rw [if_neg hp,if_neg (fun q=> hp (by
     unfold oP oQ at q
     simp only [CertifyPlace.mk.injEq] at q
     obtain ⟨a,b⟩ :=p
     simp only [TimetableSlot.mk.injEq]
     exact ⟨q.2.1,q.1⟩))]
    exact Int.add_zero _)
 rw [Nat.zero_add] at hm hn
 rw [List.take_length] at hm
 exact ⟨m,e,hm,hn⟩
def toO (e : TimetableSlot×Int) : Order:= { hour:=e.1.hour,index:=e.1.index,litres:=e.2,outlet:=true}
theorem rS (m : List (TimetableSlot×Int)) : ∀ (L : List (TimetableSlot×Int)) (s : List Order),cj (b_ m) L s= .inr (s ++ L.map toO)
 | [],s=> by simp [cj]
 | x :: L,s=> by
  have e : b_ m x s= .inr (s ++ [toO x]) :=rfl
  simp only [cj,e]
  rw [rS m L]
  simp
theorem xF (m : List (TimetableSlot×Int)) : ∀ (L : List (TimetableSlot×Int)) (s : List Order),s.length + L.length≤100000→okL (b_ m) (df m) L s
 | [],s,_=> trivial
 | x :: L,s,h=> by
  have e : b_ m x s= .inr (s ++ [toO x]) :=rfl
  rw [List.length_cons] at h
  refine ⟨?_,fun s' hs=> ?_⟩
  ·unfold df eK
   rw [List.length_append]
   simp only [List.length_cons,List.length_nil]
   omega
  ·rw [e] at hs
   simp only [Sum.inr.injEq] at hs
   subst hs
   exact xF m L _ (by simp;omega)
theorem vO {m : List (TimetableSlot×Int)} (h : (m.map Prod.fst).Nodup) : (m.map toO).Pairwise fun x y=> ¬ K x y:=by
 rw [List.pairwise_map]
 unfold List.Nodup at h
 rw [List.pairwise_map] at h
 refine h.imp fun {a b} q k=> q ?_
 obtain ⟨⟨a1,a2⟩,a3⟩ :=a
 obtain ⟨⟨b1,b2⟩,b3⟩ :=b
 have h1 : a2=b2:=k.1
 have h2 : a1=b1:=k.2.1
 rw [h1,h2]
theorem vP {x y : Order} (hx : x.outlet=true) (hy : y.outlet=true) : FE x y↔olt x y:=by
 unfold FE olt mB
 simp [mF,hx,hy]
theorem kB (l : List Order) : (srt an l).Perm l:=List.mergeSort_perm _ _
theorem yK {l : List Order} (ho : ∀ x∈l,x.outlet=true) (h : l.Pairwise fun x y=> ¬ K x y) : (srt an l).Pairwise olt:=by
 have h1 : (srt an l).Pairwise fun x y=> (!(ltOf an y x))=true:=by
  refine List.pairwise_mergeSort (fun a b c h1 h2=> ?_) (fun a b=> ?_) l
  ·simp only [Bool.not_eq_true'] at h1 h2 ⊢
   exact dG.ntrans _ _ _ h2 h1
  ·cases q : ltOf an b a with
   | false=> rfl
   | true=>
    cases q2 : ltOf an a b with
    | false=> rfl
    | true=> have:=dG.trans _ _ _ q q2;rw [dG.irrefl] at this;cases this
 have h2:=jv (kB l) h
 have h3 : ∀ x∈srt an l,x.outlet=true:=fun x hx=> ho x ((kB l).mem_iff.1 hx)
 rw [List.pairwise_iff_getElem] at h1 h2 ⊢
 intro i j hi hj hij
 have q1:=h1 i j hi hj hij
 have q2:=h2 i j hi hj hij
 have q3 : ¬ olt (srt an l)[j] (srt an l)[i] :=fun q=> by
  have : ltOf an (srt an l)[j] (srt an l)[i]=true:=by
   unfold ltOf;rw [decide_eq_true_eq];exact (nb _ _).2 ((vP (h3 _ (List.getElem_mem _)) (h3 _ (List.getElem_mem _))).2 q)
  rw [this] at q1;cases q1
 exact Classical.byContradiction fun q4=> q2 (t8 q4 q3)
theorem Og {l m : List Order} (ho : ∀ x∈l,x.outlet=true) (h : l.Pairwise fun x y=> ¬ K x y) (hp : m.Perm l) : srt an m=srt an l:=by
 have hm : ∀ x∈m,x.outlet=true:=fun x hx=> ho x (hp.mem_iff.1 hx)
 exact List.Perm.eq_of_pairwise (fun a b _ _ h1 h2=> absurd h2 (fun h2=> by unfold olt at h1 h2;omega)) (yK hm (jv hp h)) (yK ho h) ((kB m).trans (hp.trans (kB l).symm))
theorem Rk {l : List Order} (ho : ∀ x∈l,x.outlet=true) (h : l.Pairwise fun x y=> ¬ K x y) : apart an l:=fun x hx y hy h1 h2=> by
 refine Ew h hx hy (t8 (fun q=> ?_) fun q=> ?_)
 ·unfold ltOf at h1;rw [decide_eq_false_iff_not] at h1;exact h1 ((nb _ _).2 ((vP (ho x hx) (ho y hy)).2 q))
 ·unfold ltOf at h2;rw [decide_eq_false_iff_not] at h2;exact h2 ((nb _ _).2 ((vP (ho y hy) (ho x hx)).2 q))
theorem yL (m : List (TimetableSlot×Int)) : ∀ x∈m.map toO,x.outlet=true:=fun x hx=> by
 obtain ⟨e,_,rfl⟩ :=List.mem_map.1 hx
 rfl
theorem vQ {p : CertifyPlace} : ∀ {c : List Claim},cI p c≠0→∃ a∈c,p=oQ a
 | [],h=> absurd rfl h
 | a :: r,h=> by
  by_cases q : p=oQ a
  ·exact ⟨a,List.mem_cons_self,q⟩
  ·simp only [cI,if_neg q,Int.zero_add] at h
   obtain ⟨b,hb,e⟩ :=vQ h
   exact ⟨b,List.mem_cons_of_mem _ hb,e⟩
structure Outs (c : List Claim) (o : List Order) : Prop where
 out : ∀ x∈o,x.outlet=true
 asc : o.Pairwise olt
 lit : ∀ x∈o,x.litres=oS c x.index x.hour∧1≤x.litres
 all : ∀ f h,oS c f h≠0→∃ x∈o,x.index=f∧x.hour=h
 src : ∀ x∈o,∃ a∈c,a.farm=x.index∧a.hour=x.hour
 len : o.length≤c.length
theorem outs {c : List Claim} (h : okL1 c) : Outs c (ak c) :=by
 obtain ⟨m,e,hm,hn⟩ :=EC h
 have e2 : ak c=srt an (m.map toO) :=by
  unfold ak
  simp only [e,rS,List.nil_append]
 rw [e2]
 have hmem : ∀ x,x∈srt an (m.map toO)↔∃ q∈m,toO q=x:=fun x=> by rw [(kB _).mem_iff,List.mem_map]
 have lit : ∀ x∈srt an (m.map toO),x.litres=oS c x.index x.hour∧1≤x.litres:=fun x hx=> by
  obtain ⟨q,hq,rfl⟩ :=(hmem x).1 hx
  have:=hm.entry hq
  exact ⟨this.1,hm.pos q hq⟩
 refine ⟨fun x hx=> ?_,yK (yL m) (vO hm.nd),lit,fun f t hf=> ?_,fun x hx=> ?_,?_⟩
 ·obtain ⟨q,hq,rfl⟩ :=(hmem x).1 hx;rfl
 ·exact ⟨_,(hmem _).2 ⟨_,hm.mem (p:= { index:=f,hour:=t}) hf,rfl⟩,rfl,rfl⟩
 ·have h1:=lit x hx
  obtain ⟨a,ha,ea⟩ :=vQ (p:=oP x.index x.hour) (c:=c) (by show oS c _ _≠0;omega)
  unfold oP oQ at ea
  simp only [CertifyPlace.mk.injEq] at ea
  exact ⟨a,ha,ea.2.1.symm,ea.1.symm⟩
 ·rw [(kB _).length_eq,List.length_map];exact hn
theorem FQ {c : List Claim} (h : okL1 c) : eL c:=by
 intro _ m hm L hL
 obtain ⟨m',e,hm',hn⟩ :=EC h
 rw [e] at hm
 simp only [Sum.inr.injEq] at hm
 subst hm
 have hlen:=hL.length_eq
 have h1:=h.1
 refine ⟨xF _ L [] (by simp;omega),fun s hs=> ?_⟩
 rw [rS] at hs
 simp only [List.nil_append,Sum.inr.injEq] at hs
 subst hs
 have hp : (L.map toO).Perm (m'.map toO) :=hL.map _
 refine ⟨Rk (yL L) (jv hp (vO hm'.nd)),?_⟩
 rw [Og (yL m') (vO hm'.nd) hp]
 unfold ak
 simp only [e,rS,List.nil_append]
end Go.Sx
end
section
namespace Go.Sx
open Go.Proofs
set_option maxRecDepth 100000
set_option linter.unusedSimpArgs false
theorem vR {p : Prop} (h : p:=by (first | done | (repeat' (first | with_reducible refine And.intro ?_ ?_ | ((with_reducible show _≠_);first | assumption | omega | (simp_all [aK,aU];done) | grind) | with_reducible intro _)) <;> (first | done | exact Empty.elim ‹Empty› | assumption | rfl | omega | decide | exact fk [0,1,2] | (refine Or.inr ?_;exact fkY [0,1,2]) | (refine Or.inl ?_;exact fkY [0,1,2]) | (refine Or.inl ⟨rfl,?_⟩;exact fkY [0,1,2]) | (simp only [*,cond_true,cond_false,Bool.not_true,Bool.not_false,go_sem,Nat.reduceBEq,Nat.reduceLeDiff,Nat.reduceLT,decide_true,Nat.reduceAdd,Nat.reduceSub,Nat.reduceMul,Int.reduceLE,Int.reduceLT,Int.reduceToNat,Int.reduceNeg,reduceCtorEq];done) | (simp only [*,cond_true,cond_false,Bool.not_true,Bool.not_false,go_sem,Nat.reduceBEq,Nat.reduceLeDiff,Nat.reduceLT,decide_true,Nat.reduceAdd,Nat.reduceSub,Nat.reduceMul,Int.reduceLE,Int.reduceLT,Int.reduceToNat,Int.reduceNeg,reduceCtorEq];(repeat' (first | with_reducible refine And.intro ?_ ?_ | ((with_reducible show _≠_);first | assumption | omega | (simp_all [aK,aU];done) | grind) | with_reducible intro _)) <;> (first | done | assumption | rfl | omega | decide | exact fk [0,1,2] | (refine Or.inr ?_;exact fkY [0,1,2]) | (refine Or.inl ?_;exact fkY [0,1,2]) | (refine Or.inl ⟨rfl,?_⟩;exact fkY [0,1,2]) | (simp_all [aK,aU];done))) | (exfalso;rename_i h1 h2;rw [h1] at h2;cases h2) | (exfalso;rename_i h1 h2;simp only [h1,Bool.not_false,Bool.not_true,Bool.true_or,Bool.or_true,Bool.false_or,Bool.or_false,reduceCtorEq] at h2;done) | (exfalso;clear hy hG;simp_all;done) | (simp only [*,Sum.inr.injEq,forall_eq',true_implies,forall_const,reduceCtorEq,false_implies,and_true,List.length_append,List.length_cons,List.length_nil,Nat.zero_add,go_sem,Nat.reduceBEq,Nat.reduceLeDiff,Nat.reduceLT,decide_true,Nat.reduceAdd,Nat.reduceSub,Nat.reduceMul,Int.reduceLE,Int.reduceLT,Int.reduceToNat,Int.reduceNeg,reduceCtorEq] at hq2;first | exact hq2.1 | exact hq2.2.1 | exact hq2 | exact hq2.2 | (simp only [hq2];done)) | (simp only [*,Sum.inr.injEq,forall_eq',true_implies,forall_const,reduceCtorEq,false_implies,and_true,List.length_append,List.length_cons,List.length_nil,Nat.zero_add,go_sem,Nat.reduceBEq,Nat.reduceLeDiff,Nat.reduceLT,decide_true,Nat.reduceAdd,Nat.reduceSub,Nat.reduceMul,Int.reduceLE,Int.reduceLT,Int.reduceToNat,Int.reduceNeg,reduceCtorEq] at hq1;first | exact hq1.1 | exact hq1.2.1 | exact hq1 | exact hq1.2 | (simp only [hq1];done)) | (clear hy hG;simp_all only [aK,aU,Sum.inr.injEq,forall_eq',true_implies,forall_const,reduceCtorEq,false_implies,and_true,List.length_append,List.length_cons,List.length_nil,Nat.zero_add,go_sem,Nat.reduceBEq,Nat.reduceLeDiff,Nat.reduceLT,decide_true,Nat.reduceAdd,Nat.reduceSub,Nat.reduceMul,Int.reduceLE,Int.reduceLT,Int.reduceToNat,Int.reduceNeg,reduceCtorEq];done) | (simp_all [okI,aK,aU];done) | (simp_all [aK,aU];(first | done | exact fk2 [0,1,2])) | exact fk2 [0,1,2]))) : p:=h
theorem Av {p : Prop} (h : p:=by (first | done | (repeat' (first | with_reducible refine And.intro ?_ ?_ | ((with_reducible show _≠_);first | assumption | omega | (simp_all [aK,aU];done) | grind) | with_reducible intro _)) <;> (first | done | exact Empty.elim ‹Empty› | assumption | rfl | omega | decide | exact fk [0,1,2,3] | (refine Or.inr ?_;exact fkY [0,1,2,3]) | (refine Or.inl ?_;exact fkY [0,1,2,3]) | (refine Or.inl ⟨rfl,?_⟩;exact fkY [0,1,2,3]) | (simp only [*,cond_true,cond_false,Bool.not_true,Bool.not_false,go_sem,Nat.reduceBEq,Nat.reduceLeDiff,Nat.reduceLT,decide_true,Nat.reduceAdd,Nat.reduceSub,Nat.reduceMul,Int.reduceLE,Int.reduceLT,Int.reduceToNat,Int.reduceNeg,reduceCtorEq];done) | (simp only [*,cond_true,cond_false,Bool.not_true,Bool.not_false,go_sem,Nat.reduceBEq,Nat.reduceLeDiff,Nat.reduceLT,decide_true,Nat.reduceAdd,Nat.reduceSub,Nat.reduceMul,Int.reduceLE,Int.reduceLT,Int.reduceToNat,Int.reduceNeg,reduceCtorEq];(repeat' (first | with_reducible refine And.intro ?_ ?_ | ((with_reducible show _≠_);first | assumption | omega | (simp_all [aK,aU];done) | grind) | with_reducible intro _)) <;> (first | done | assumption | rfl | omega | decide | exact fk [0,1,2,3] | (refine Or.inr ?_;exact fkY [0,1,2,3]) | (refine Or.inl ?_;exact fkY [0,1,2,3]) | (refine Or.inl ⟨rfl,?_⟩;exact fkY [0,1,2,3]) | (simp_all [aK,aU];done))) | (exfalso;rename_i h1 h2;rw [h1] at h2;cases h2) | (exfalso;rename_i h1 h2;simp only [h1,Bool.not_false,Bool.not_true,Bool.true_or,Bool.or_true,Bool.false_or,Bool.or_false,reduceCtorEq] at h2;done) | (exfalso;clear hy hG;simp_all;done) | (simp only [*,Sum.inr.injEq,forall_eq',true_implies,forall_const,reduceCtorEq,false_implies,and_true,List.length_append,List.length_cons,List.length_nil,Nat.zero_add,go_sem,Nat.reduceBEq,Nat.reduceLeDiff,Nat.reduceLT,decide_true,Nat.reduceAdd,Nat.reduceSub,Nat.reduceMul,Int.reduceLE,Int.reduceLT,Int.reduceToNat,Int.reduceNeg,reduceCtorEq] at hq2;first | exact hq2.1 | exact hq2.2.1 | exact hq2 | exact hq2.2 | (simp only [hq2];done)) | (simp only [*,Sum.inr.injEq,forall_eq',true_implies,forall_const,reduceCtorEq,false_implies,and_true,List.length_append,List.length_cons,List.length_nil,Nat.zero_add,go_sem,Nat.reduceBEq,Nat.reduceLeDiff,Nat.reduceLT,decide_true,Nat.reduceAdd,Nat.reduceSub,Nat.reduceMul,Int.reduceLE,Int.reduceLT,Int.reduceToNat,Int.reduceNeg,reduceCtorEq] at hq1;first | exact hq1.1 | exact hq1.2.1 | exact hq1 | exact hq1.2 | (simp only [hq1];done)) | (clear hy hG;simp_all only [aK,aU,Sum.inr.injEq,forall_eq',true_implies,forall_const,reduceCtorEq,false_implies,and_true,List.length_append,List.length_cons,List.length_nil,Nat.zero_add,go_sem,Nat.reduceBEq,Nat.reduceLeDiff,Nat.reduceLT,decide_true,Nat.reduceAdd,Nat.reduceSub,Nat.reduceMul,Int.reduceLE,Int.reduceLT,Int.reduceToNat,Int.reduceNeg,reduceCtorEq];done) | (simp_all [okI,aK,aU];done) | (simp_all [aK,aU];(first | done | exact fk2 [0,1,2,3])) | exact fk2 [0,1,2,3]))) : p:=h
theorem Aw {p : Prop} (h : p:=by (first | done | (repeat' (first | with_reducible refine And.intro ?_ ?_ | ((with_reducible show _≠_);first | assumption | omega | (simp_all [aK,aU];done) | grind) | with_reducible intro _)) <;> (first | done | exact Empty.elim ‹Empty› | assumption | rfl | omega | decide | exact fk [0] | (refine Or.inr ?_;exact fkY [0]) | (refine Or.inl ?_;exact fkY [0]) | (refine Or.inl ⟨rfl,?_⟩;exact fkY [0]) | (simp only [*,cond_true,cond_false,Bool.not_true,Bool.not_false,go_sem,Nat.reduceBEq,Nat.reduceLeDiff,Nat.reduceLT,decide_true,Nat.reduceAdd,Nat.reduceSub,Nat.reduceMul,Int.reduceLE,Int.reduceLT,Int.reduceToNat,Int.reduceNeg,reduceCtorEq];done) | (simp only [*,cond_true,cond_false,Bool.not_true,Bool.not_false,go_sem,Nat.reduceBEq,Nat.reduceLeDiff,Nat.reduceLT,decide_true,Nat.reduceAdd,Nat.reduceSub,Nat.reduceMul,Int.reduceLE,Int.reduceLT,Int.reduceToNat,Int.reduceNeg,reduceCtorEq];(repeat' (first | with_reducible refine And.intro ?_ ?_ | ((with_reducible show _≠_);first | assumption | omega | (simp_all [aK,aU];done) | grind) | with_reducible intro _)) <;> (first | done | assumption | rfl | omega | decide | exact fk [0] | (refine Or.inr ?_;exact fkY [0]) | (refine Or.inl ?_;exact fkY [0]) | (refine Or.inl ⟨rfl,?_⟩;exact fkY [0]) | (simp_all [aK,aU];done))) | (exfalso;rename_i h1 h2;rw [h1] at h2;cases h2) | (exfalso;rename_i h1 h2;simp only [h1,Bool.not_false,Bool.not_true,Bool.true_or,Bool.or_true,Bool.false_or,Bool.or_false,reduceCtorEq] at h2;done) | (exfalso;clear hy hG;simp_all;done) | (simp only [*,Sum.inr.injEq,forall_eq',true_implies,forall_const,reduceCtorEq,false_implies,and_true,List.length_append,List.length_cons,List.length_nil,Nat.zero_add,go_sem,Nat.reduceBEq,Nat.reduceLeDiff,Nat.reduceLT,decide_true,Nat.reduceAdd,Nat.reduceSub,Nat.reduceMul,Int.reduceLE,Int.reduceLT,Int.reduceToNat,Int.reduceNeg,reduceCtorEq] at hq2;first | exact hq2.1 | exact hq2.2.1 | exact hq2 | exact hq2.2 | (simp only [hq2];done)) | (simp only [*,Sum.inr.injEq,forall_eq',true_implies,forall_const,reduceCtorEq,false_implies,and_true,List.length_append,List.length_cons,List.length_nil,Nat.zero_add,go_sem,Nat.reduceBEq,Nat.reduceLeDiff,Nat.reduceLT,decide_true,Nat.reduceAdd,Nat.reduceSub,Nat.reduceMul,Int.reduceLE,Int.reduceLT,Int.reduceToNat,Int.reduceNeg,reduceCtorEq] at hq1;first | exact hq1.1 | exact hq1.2.1 | exact hq1 | exact hq1.2 | (simp only [hq1];done)) | (clear hy hG;simp_all only [aK,aU,Sum.inr.injEq,forall_eq',true_implies,forall_const,reduceCtorEq,false_implies,and_true,List.length_append,List.length_cons,List.length_nil,Nat.zero_add,go_sem,Nat.reduceBEq,Nat.reduceLeDiff,Nat.reduceLT,decide_true,Nat.reduceAdd,Nat.reduceSub,Nat.reduceMul,Int.reduceLE,Int.reduceLT,Int.reduceToNat,Int.reduceNeg,reduceCtorEq];done) | (simp_all [okI,aK,aU];done) | (simp_all [aK,aU];(first | done | exact fk2 [0])) | exact fk2 [0]))) : p:=h
theorem Ax {p : Prop} (h : p:=by (first | done | (repeat' (first | with_reducible refine And.intro ?_ ?_ | ((with_reducible show _≠_);first | assumption | omega | (simp_all [aK,aU];done) | grind) | with_reducible intro _)) <;> (first | done | exact Empty.elim ‹Empty› | assumption | rfl | omega | decide | exact fk [0,1] | (refine Or.inr ?_;exact fkY [0,1]) | (refine Or.inl ?_;exact fkY [0,1]) | (refine Or.inl ⟨rfl,?_⟩;exact fkY [0,1]) | (simp only [*,cond_true,cond_false,Bool.not_true,Bool.not_false,go_sem,Nat.reduceBEq,Nat.reduceLeDiff,Nat.reduceLT,decide_true,Nat.reduceAdd,Nat.reduceSub,Nat.reduceMul,Int.reduceLE,Int.reduceLT,Int.reduceToNat,Int.reduceNeg,reduceCtorEq];done) | (simp only [*,cond_true,cond_false,Bool.not_true,Bool.not_false,go_sem,Nat.reduceBEq,Nat.reduceLeDiff,Nat.reduceLT,decide_true,Nat.reduceAdd,Nat.reduceSub,Nat.reduceMul,Int.reduceLE,Int.reduceLT,Int.reduceToNat,Int.reduceNeg,reduceCtorEq];(repeat' (first | with_reducible refine And.intro ?_ ?_ | ((with_reducible show _≠_);first | assumption | omega | (simp_all [aK,aU];done) | grind) | with_reducible intro _)) <;> (first | done | assumption | rfl | omega | decide | exact fk [0,1] | (refine Or.inr ?_;exact fkY [0,1]) | (refine Or.inl ?_;exact fkY [0,1]) | (refine Or.inl ⟨rfl,?_⟩;exact fkY [0,1]) | (simp_all [aK,aU];done))) | (exfalso;rename_i h1 h2;rw [h1] at h2;cases h2) | (exfalso;rename_i h1 h2;simp only [h1,Bool.not_false,Bool.not_true,Bool.true_or,Bool.or_true,Bool.false_or,Bool.or_false,reduceCtorEq] at h2;done) | (exfalso;clear hy hG;simp_all;done) | (simp only [*,Sum.inr.injEq,forall_eq',true_implies,forall_const,reduceCtorEq,false_implies,and_true,List.length_append,List.length_cons,List.length_nil,Nat.zero_add,go_sem,Nat.reduceBEq,Nat.reduceLeDiff,Nat.reduceLT,decide_true,Nat.reduceAdd,Nat.reduceSub,Nat.reduceMul,Int.reduceLE,Int.reduceLT,Int.reduceToNat,Int.reduceNeg,reduceCtorEq] at hq2;first | exact hq2.1 | exact hq2.2.1 | exact hq2 | exact hq2.2 | (simp only [hq2];done)) | (simp only [*,Sum.inr.injEq,forall_eq',true_implies,forall_const,reduceCtorEq,false_implies,and_true,List.length_append,List.length_cons,List.length_nil,Nat.zero_add,go_sem,Nat.reduceBEq,Nat.reduceLeDiff,Nat.reduceLT,decide_true,Nat.reduceAdd,Nat.reduceSub,Nat.reduceMul,Int.reduceLE,Int.reduceLT,Int.reduceToNat,Int.reduceNeg,reduceCtorEq] at hq1;first | exact hq1.1 | exact hq1.2.1 | exact hq1 | exact hq1.2 | (simp only [hq1];done)) | (clear hy hG;simp_all only [aK,aU,Sum.inr.injEq,forall_eq',true_implies,forall_const,reduceCtorEq,false_implies,and_true,List.length_append,List.length_cons,List.length_nil,Nat.zero_add,go_sem,Nat.reduceBEq,Nat.reduceLeDiff,Nat.reduceLT,decide_true,Nat.reduceAdd,Nat.reduceSub,Nat.reduceMul,Int.reduceLE,Int.reduceLT,Int.reduceToNat,Int.reduceNeg,reduceCtorEq];done) | (simp_all [okI,aK,aU];done) | (simp_all [aK,aU];(first | done | exact fk2 [0,1])) | exact fk2 [0,1]))) : p:=h
theorem Ay {p : Prop} (h : p:=by simp only [go_sem,Nat.reduceBEq,Nat.reduceLeDiff,Nat.reduceLT,decide_true,Nat.reduceAdd,Nat.reduceSub,Nat.reduceMul,Int.reduceLE,Int.reduceLT,Int.reduceToNat,Int.reduceNeg,reduceCtorEq,hc,hw];all_goals exact vR) : p:=h
theorem Az {p : Prop} (h : p:=by simp only [go_sem,Nat.reduceBEq,Nat.reduceLeDiff,Nat.reduceLT,decide_true,Nat.reduceAdd,Nat.reduceSub,Nat.reduceMul,Int.reduceLE,Int.reduceLT,Int.reduceToNat,Int.reduceNeg,reduceCtorEq,hc];all_goals exact vR) : p:=h
theorem JB {p : Prop} (h : p:=by simp only [go_sem,Nat.reduceBEq,Nat.reduceLeDiff,Nat.reduceLT,decide_true,Nat.reduceAdd,Nat.reduceSub,Nat.reduceMul,Int.reduceLE,Int.reduceLT,Int.reduceToNat,Int.reduceNeg,reduceCtorEq];all_goals exact vR) : p:=h
theorem JD {p : Prop} (h : p:=by simp only [go_sem,Nat.reduceBEq,Nat.reduceLeDiff,Nat.reduceLT,decide_true,Nat.reduceAdd,Nat.reduceSub,Nat.reduceMul,Int.reduceLE,Int.reduceLT,Int.reduceToNat,Int.reduceNeg,reduceCtorEq,hc,hw];all_goals exact Av) : p:=h
theorem JE {p : Prop} (h : p:=by simp only [go_sem,Nat.reduceBEq,Nat.reduceLeDiff,Nat.reduceLT,decide_true,Nat.reduceAdd,Nat.reduceSub,Nat.reduceMul,Int.reduceLE,Int.reduceLT,Int.reduceToNat,Int.reduceNeg,reduceCtorEq,hc];all_goals exact Av) : p:=h
theorem vS {p : Prop} (h : p:=by simp only [go_sem,Nat.reduceBEq,Nat.reduceLeDiff,Nat.reduceLT,decide_true,Nat.reduceAdd,Nat.reduceSub,Nat.reduceMul,Int.reduceLE,Int.reduceLT,Int.reduceToNat,Int.reduceNeg,reduceCtorEq,hc,hw];all_goals exact Ax) : p:=h
theorem vT {p : Prop} (h : p:=by simp only [go_sem,Nat.reduceBEq,Nat.reduceLeDiff,Nat.reduceLT,decide_true,Nat.reduceAdd,Nat.reduceSub,Nat.reduceMul,Int.reduceLE,Int.reduceLT,Int.reduceToNat,Int.reduceNeg,reduceCtorEq,hc];all_goals exact Ax) : p:=h
@[go_sem] def du (x : Fault) : List SV:=[.agg (cellsOf .fault x)]
@[go_sem] def jc : List SV→Option Con:=(pD .district fun d=> (pR .order fun out=> (pE (.det True (.fn 98 [] [.ep [.rs .order out] 0,.ep (cellsOf .district d) 0])))))
theorem lL : FnOk Tryz.prog 56 jc:=by
 have hG : ConsOk Tryz.prog (mkG [] []) :=aQ cg0 cg0
 refine ba [.o] mixed aH hG (fn:=Tryz.f56) (c:=aj Tryz.f56) (by kernel_rfl) (by kernel_rfl) (by kernel_rfl) (by kernel_rfl) (bW fun d=> (dq fun out=> (aO (fun hp=> ?_))))
 refine ⟨Nat.le_of_ble_eq_true rfl,L0,aw _,?_⟩
 unfold aj Tryz.f56
 simp only [go_sem,rK,rL,Nat.reduceBEq,Nat.reduceLeDiff,Nat.reduceAdd,Nat.reduceSub,Nat.reduceMul]
@[go_sem] def cG (out : List Order) (d : District) (k_0 : Nat) (s_0 : List (TimetableSlot×Int)) : Empty⊕(List (TimetableSlot×Int)) := .inr (c6 .timetableSlot .int s_0 ({ index:=(d.farms.getD (Int.toNat ((out.getD k_0 (default : Order)).index)) (default : Farm)).reach,hour:=(out.getD k_0 (default : Order)).hour} : TimetableSlot) (IntKind.i64.wrap ((ay .timetableSlot .int s_0 ({ index:=(d.farms.getD (Int.toNat ((out.getD k_0 (default : Order)).index)) (default : Farm)).reach,hour:=(out.getD k_0 (default : Order)).hour} : TimetableSlot)) + (out.getD k_0 (default : Order)).litres)))
def ei (out : List Order) (d : District) (k_0 : Nat) (s_0 : List (TimetableSlot×Int)) : Prop:=(0≤(out.getD k_0 (default : Order)).index∧(out.getD k_0 (default : Order)).index < (d.farms.length : Int))
@[go_sem] def aG (d : District) (s_1 : List Fault×List (TimetableSlot×Int)×List (TimetableSlot×Bool)×Int) (k_2 : Nat) (s_2 : List (TimetableSlot×Bool)×List Fault×List (TimetableSlot×Int)) : Empty⊕(List (TimetableSlot×Bool)×List Fault×List (TimetableSlot×Int)) :=(bif (ay .timetableSlot .bool s_2.1 ({ index:=s_1.2.2.2,hour:=(k_2 : Int)} : TimetableSlot)) then .inr ((c6 .timetableSlot .bool s_2.1 ({ index:=(d.reaches.getD (Int.toNat s_1.2.2.2) (default : Reach)).up,hour:=(IntKind.i64.wrap ((k_2 : Int) - (d.reaches.getD (Int.toNat s_1.2.2.2) (default : Reach)).delay))} : TimetableSlot) true),s_2.2.1,s_2.2.2) else (bif ((ay .timetableSlot .int s_2.2.2 ({ index:=s_1.2.2.2,hour:=(k_2 : Int)} : TimetableSlot)) ==0) then .inr (s_2.1,s_2.2.1,s_2.2.2) else (bif (decide ((ay .timetableSlot .int s_2.2.2 ({ index:=s_1.2.2.2,hour:=(k_2 : Int)} : TimetableSlot))≤1073741824)) then (bif ((!(bV (d.reaches.getD (Int.toNat s_1.2.2.2) (default : Reach)) (ay .timetableSlot .int s_2.2.2 ({ index:=s_1.2.2.2,hour:=(k_2 : Int)} : TimetableSlot))).2.1) || (decide ((k_2 : Int) < (d.reaches.getD (Int.toNat s_1.2.2.2) (default : Reach)).delay))) then .inr ((c6 .timetableSlot .bool s_2.1 ({ index:=(d.reaches.getD (Int.toNat s_1.2.2.2) (default : Reach)).up,hour:=(IntKind.i64.wrap ((k_2 : Int) - (d.reaches.getD (Int.toNat s_1.2.2.2) (default : Reach)).delay))} : TimetableSlot) ((ay .timetableSlot .bool s_2.1 ({ index:=(d.reaches.getD (Int.toNat s_1.2.2.2) (default : Reach)).up,hour:=(IntKind.i64.wrap ((k_2 : Int) - (d.reaches.getD (Int.toNat s_1.2.2.2) (default : Reach)).delay))} : TimetableSlot)) || (!(bV (d.reaches.getD (Int.toNat s_1.2.2.2) (default : Reach)) (ay .timetableSlot .int s_2.2.2 ({ index:=s_1.2.2.2,hour:=(k_2 : Int)} : TimetableSlot))).2.1))),(s_2.2.1 ++ [({ kind:=7,hour:=(k_2 : Int),index:=s_1.2.2.2,litres:=(ay .timetableSlot .int s_2.2.2 ({ index:=s_1.2.2.2,hour:=(k_2 : Int)} : TimetableSlot)),limit:=0} : Fault)]),s_2.2.2) else .inr (s_2.1,s_2.2.1,(c6 .timetableSlot .int s_2.2.2 ({ index:=(d.reaches.getD (Int.toNat s_1.2.2.2) (default : Reach)).up,hour:=(IntKind.i64.wrap ((k_2 : Int) - (d.reaches.getD (Int.toNat s_1.2.2.2) (default : Reach)).delay))} : TimetableSlot) (IntKind.i64.wrap ((ay .timetableSlot .int s_2.2.2 ({ index:=(d.reaches.getD (Int.toNat s_1.2.2.2) (default : Reach)).up,hour:=(IntKind.i64.wrap ((k_2 : Int) - (d.reaches.getD (Int.toNat s_1.2.2.2) (default : Reach)).delay))} : TimetableSlot)) + (if (bV (d.reaches.getD (Int.toNat s_1.2.2.2) (default : Reach)) (ay .timetableSlot .int s_2.2.2 ({ index:=s_1.2.2.2,hour:=(k_2 : Int)} : TimetableSlot))).1 < (d.reaches.getD (Int.toNat s_1.2.2.2) (default : Reach)).siphon then (d.reaches.getD (Int.toNat s_1.2.2.2) (default : Reach)).siphon else (bV (d.reaches.getD (Int.toNat s_1.2.2.2) (default : Reach)) (ay .timetableSlot .int s_2.2.2 ({ index:=s_1.2.2.2,hour:=(k_2 : Int)} : TimetableSlot))).1)))))) else (bif ((!(decide ((ay .timetableSlot .int s_2.2.2 ({ index:=s_1.2.2.2,hour:=(k_2 : Int)} : TimetableSlot))≤1073741824))) || (decide ((k_2 : Int) < (d.reaches.getD (Int.toNat s_1.2.2.2) (default : Reach)).delay))) then .inr ((c6 .timetableSlot .bool s_2.1 ({ index:=(d.reaches.getD (Int.toNat s_1.2.2.2) (default : Reach)).up,hour:=(IntKind.i64.wrap ((k_2 : Int) - (d.reaches.getD (Int.toNat s_1.2.2.2) (default : Reach)).delay))} : TimetableSlot) ((ay .timetableSlot .bool s_2.1 ({ index:=(d.reaches.getD (Int.toNat s_1.2.2.2) (default : Reach)).up,hour:=(IntKind.i64.wrap ((k_2 : Int) - (d.reaches.getD (Int.toNat s_1.2.2.2) (default : Reach)).delay))} : TimetableSlot)) || (!(decide ((ay .timetableSlot .int s_2.2.2 ({ index:=s_1.2.2.2,hour:=(k_2 : Int)} : TimetableSlot))≤1073741824))))),(s_2.2.1 ++ [({ kind:=7,hour:=(k_2 : Int),index:=s_1.2.2.2,litres:=(ay .timetableSlot .int s_2.2.2 ({ index:=s_1.2.2.2,hour:=(k_2 : Int)} : TimetableSlot)),limit:=0} : Fault)]),s_2.2.2) else .inr (s_2.1,s_2.2.1,(c6 .timetableSlot .int s_2.2.2 ({ index:=(d.reaches.getD (Int.toNat s_1.2.2.2) (default : Reach)).up,hour:=(IntKind.i64.wrap ((k_2 : Int) - (d.reaches.getD (Int.toNat s_1.2.2.2) (default : Reach)).delay))} : TimetableSlot) (IntKind.i64.wrap ((ay .timetableSlot .int s_2.2.2 ({ index:=(d.reaches.getD (Int.toNat s_1.2.2.2) (default : Reach)).up,hour:=(IntKind.i64.wrap ((k_2 : Int) - (d.reaches.getD (Int.toNat s_1.2.2.2) (default : Reach)).delay))} : TimetableSlot)) + (if 0 < (d.reaches.getD (Int.toNat s_1.2.2.2) (default : Reach)).siphon then (d.reaches.getD (Int.toNat s_1.2.2.2) (default : Reach)).siphon else 0)))))))))
def dw (d : District) (items_ : List (List SV)) (s_1 : List Fault×List (TimetableSlot×Int)×List (TimetableSlot×Bool)×Int) (k_2 : Nat) (s_2 : List (TimetableSlot×Bool)×List Fault×List (TimetableSlot×Int)) : Prop:=((ay .timetableSlot .bool s_2.1 ({ index:=s_1.2.2.2,hour:=(k_2 : Int)} : TimetableSlot))=false→(((ay .timetableSlot .int s_2.2.2 ({ index:=s_1.2.2.2,hour:=(k_2 : Int)} : TimetableSlot)) ==0)=false→(((decide ((ay .timetableSlot .int s_2.2.2 ({ index:=s_1.2.2.2,hour:=(k_2 : Int)} : TimetableSlot))≤1073741824))=true→((gK (d.reaches.getD (Int.toNat s_1.2.2.2) (default : Reach)) (ay .timetableSlot .int s_2.2.2 ({ index:=s_1.2.2.2,hour:=(k_2 : Int)} : TimetableSlot)))∧(((!(bV (d.reaches.getD (Int.toNat s_1.2.2.2) (default : Reach)) (ay .timetableSlot .int s_2.2.2 ({ index:=s_1.2.2.2,hour:=(k_2 : Int)} : TimetableSlot))).2.1) || (decide ((k_2 : Int) < (d.reaches.getD (Int.toNat s_1.2.2.2) (default : Reach)).delay)))=true→(items_[s_2.2.1.length]? =some (du ({ kind:=7,hour:=(k_2 : Int),index:=s_1.2.2.2,litres:=(ay .timetableSlot .int s_2.2.2 ({ index:=s_1.2.2.2,hour:=(k_2 : Int)} : TimetableSlot)),limit:=0} : Fault))))))∧((decide ((ay .timetableSlot .int s_2.2.2 ({ index:=s_1.2.2.2,hour:=(k_2 : Int)} : TimetableSlot))≤1073741824))=false→(((!(decide ((ay .timetableSlot .int s_2.2.2 ({ index:=s_1.2.2.2,hour:=(k_2 : Int)} : TimetableSlot))≤1073741824))) || (decide ((k_2 : Int) < (d.reaches.getD (Int.toNat s_1.2.2.2) (default : Reach)).delay)))=true→(items_[s_2.2.1.length]? =some (du ({ kind:=7,hour:=(k_2 : Int),index:=s_1.2.2.2,litres:=(ay .timetableSlot .int s_2.2.2 ({ index:=s_1.2.2.2,hour:=(k_2 : Int)} : TimetableSlot)),limit:=0} : Fault))))))))
@[go_sem] def a8 (d : District) (k_1 : Nat) (s_1 : List Fault×List (TimetableSlot×Int)×List (TimetableSlot×Bool)×Int) : (List Fault)⊕(List Fault×List (TimetableSlot×Int)×List (TimetableSlot×Bool)×Int) :=(bif (decide (s_1.2.2.2≥0)) then (match ax (aG d s_1) (Int.toNat d.hours) 0 (s_1.2.2.1,s_1.1,s_1.2.1) with | .inl x=> x.elim | .inr s_2=> .inr (s_2.2.1,s_2.2.2,s_2.1,(IntKind.i64.wrap (s_1.2.2.2 - 1)))) else .inl s_1.1)
def eo (d : District) (items_ : List (List SV)) (k_1 : Nat) (s_1 : List Fault×List (TimetableSlot×Int)×List (TimetableSlot×Bool)×Int) : Prop:=((decide (s_1.2.2.2≥0))=true→((0≤s_1.2.2.2∧s_1.2.2.2 < (d.reaches.length : Int))∧((d.hours < 9223372036854775808)∧okI (aG d s_1) (dw d items_ s_1) (Int.toNat d.hours) 0 (s_1.2.2.1,s_1.1,s_1.2.1))))
def bq (out : List Order) (d : District) : List Fault:=(match ax (cG out d) out.length 0 ([]) with | .inl x=> x.elim | .inr s_0=> (match ax (a8 d) (d.reaches.length + 1) 0 (([] : List Fault),s_0,[],(IntKind.i64.wrap ((d.reaches.length : Int) - 1))) with | .inl x_1_0=> x_1_0 | .inr s_1=> default))
def ed (out : List Order) (d : District) (items_ : List (List SV)) : Prop:=(out.length≤bt→(okI (cG out d) (ei out d) out.length 0 ([])∧(∀ s_0,ax (cG out d) out.length 0 ([])= .inr s_0→(d.reaches.length≤bt→(okI (a8 d) (eo d items_) (d.reaches.length + 1) 0 (([] : List Fault),s_0,[],(IntKind.i64.wrap ((d.reaches.length : Int) - 1)))∧(∀ z_,ax (a8 d) (d.reaches.length + 1) 0 (([] : List Fault),s_0,[],(IntKind.i64.wrap ((d.reaches.length : Int) - 1)))≠ .inr z_)∧(∀ x_1_0,ax (a8 d) (d.reaches.length + 1) 0 (([] : List Fault),s_0,[],(IntKind.i64.wrap ((d.reaches.length : Int) - 1)))= .inl x_1_0→(items_.length=x_1_0.length)))))))
set_option maxHeartbeats 4000000 in
theorem pC (out : List Order) (d : District) (items_ : List (List SV)) (hp : ed out d items_) : wq Tryz.prog 98 (fun y=> [y,.ep [.rs .order out] 0,.ep (cellsOf .district d) 0]) [] items_:=by
 unfold ed at hp
 refine B4 mixed aH (fn:=Tryz.f98) (c:=aj Tryz.f98) (by kernel_rfl) (by kernel_rfl) (by kernel_rfl) (by kernel_rfl) rfl (n:=0) rfl (G:=fun r_=> tG [(99,jt)] [] (Ai items_ r_)) (fun r_ hy=> ?_) (fun args w=> by kernel_rfl)
 have hG : ConsOk Tryz.prog (tG [(99,jt)] [] (Ai items_ r_)) :=rl (cgc oy cg0) cg0 hy
 refine ⟨hG,Nat.le_of_ble_eq_true rfl,(fun id st=> bif Nat.beq id 0 then some (LCR (ρ:=Empty) (σ:=(List (TimetableSlot×Int))) 3 [] [0,1,2] (fun k_0 s_0=> ⟨[(0,.os 0),(2,.ep (cellsOf .district d) 0),(4,.os 1),(5,.os 2),(18,.rs .order out),(19,.v (.int .i64 (out.length : Int))),(20,.v (.int .i64 (k_0 : Int)))],[.ab (r_.1 (([] : List Fault).length + 1)),.mp .timetableSlot .int s_0 none,.mp .timetableSlot .bool ([]) none]⟩) (cG out d) (ei out d) out.length ([]) (out.length≤bt) ((·.elim)) ((·.elim)) st) else bif Nat.beq id 2 then some (Rc (ρ:=(List Fault)) (σ:=(List Fault×List (TimetableSlot×Int)×List (TimetableSlot×Bool)×Int)) 3 [] [0,1,2] (fun k_1 s_1=> ⟨[(0,.os 0),(2,.ep (cellsOf .district d) 0),(4,.os 1),(5,.os 2),(8,.v (.int .i64 s_1.2.2.2))],[.ab (r_.1 (s_1.1.length + 1)),.mp .timetableSlot .int s_1.2.1 none,.mp .timetableSlot .bool s_1.2.2.1 none]⟩) (a8 d) (eo d items_) (d.reaches.length + 1) (([] : List Fault),(aK (ax (cG out d) out.length 0 ([]))),[],(IntKind.i64.wrap ((d.reaches.length : Int) - 1))) (fun _=> .normal) (fun x_1_0=> ⟨[],[.ab (r_.1 (x_1_0.length + 1)),.dead,.dead]⟩) ⟨[],[.ab (r_.1 0),.dead,.dead]⟩ st) else none),?_,?_⟩
 ·unfold aj Tryz.f98
  simp only [az,true_and,and_true]
  refine ⟨?_,?_⟩
  ·refine c9 mixed aH hG (by kernel_rfl) (fun _=> rfl) (out.length : Int) rfl lr (fun hb0 k_0 s_0 hlt0 hq0 hw hc=> ⟨L0,aw _,?_⟩) (fun hb0 s_0 hc=> ?_)
   ·unfold ei at hq0
    try simp only [hw,Int.toNat_natCast] at hq0
    exact Ay
   ·exact Az
  ·refine FG mixed aH hG (by kernel_rfl) (fun _=> rfl) fun k_1 s_1 hq1=> ⟨(fun id st=> bif Nat.beq id 4 then some (LCY (ρ:=Empty) (σ:=(List (TimetableSlot×Bool)×List Fault×List (TimetableSlot×Int))) 4 [] [0,1,2,3] (fun k_2 s_2=> ⟨[(0,.os 0),(2,.ep (cellsOf .district d) 0),(4,.os 1),(5,.os 2),(8,.v (.int .i64 s_1.2.2.2)),(9,.ptr 3 0),(56,.v (.int .i64 d.hours)),(57,.v (.int .i64 (k_2 : Int)))],[.ab (r_.1 (s_2.2.1.length + 1)),.mp .timetableSlot .int s_2.2.2 none,.mp .timetableSlot .bool s_2.1 none,.cells (cellsOf .reach (d.reaches.getD (Int.toNat s_1.2.2.2) (default : Reach)))]⟩) (aG d s_1) (dw d items_ s_1) (Int.toNat d.hours) (s_1.2.2.1,s_1.1,s_1.2.1) (d.hours < 9223372036854775808) ((·.elim)) ((·.elim)) ⟨[],[.ab (r_.1 0),.dead,.dead,.dead]⟩ st) else none),?_,?_⟩
   ·simp only [az,true_and,and_true]
    ·refine rJ mixed aH hG (by kernel_rfl) (fun _=> rfl) d.hours rfl id (fun hb2 k_2 s_2 hlt2 hq2 hw hc=> ⟨L0,aw _,?_⟩) (fun hb2 s_2 hc=> ?_)
     ·unfold dw at hq2
      try simp only [hw,Int.toNat_natCast] at hq2
      exact JD
     ·exact JE
   ·unfold eo at hq1
    exact JB
 ·unfold aj Tryz.f98
  simp only [go_sem,Nat.reduceBEq,Nat.reduceLeDiff,Nat.reduceLT,decide_true,Nat.reduceAdd,Nat.reduceSub,Nat.reduceMul,Int.reduceLE,Int.reduceLT,Int.reduceToNat,Int.reduceNeg,reduceCtorEq]
  all_goals exact Aw
@[go_sem] def g5 : List SV→Option Con:=(pD .district fun d=> (pR .order fun l_=> (pE (.det True (.fn 100 [] [.ep [.rs .order l_] 0,.ep (cellsOf .district d) 0])))))
theorem kc : FnOk Tryz.prog 57 g5:=by
 have hG : ConsOk Tryz.prog (mkG [] []) :=aQ cg0 cg0
 refine ba [.o] mixed aH hG (fn:=Tryz.f57) (c:=aj Tryz.f57) (by kernel_rfl) (by kernel_rfl) (by kernel_rfl) (by kernel_rfl) (bW fun d=> (dq fun l_=> (aO (fun hp=> ?_))))
 refine ⟨Nat.le_of_ble_eq_true rfl,L0,aw _,?_⟩
 unfold aj Tryz.f57
 simp only [go_sem,rK,rL,Nat.reduceBEq,Nat.reduceLeDiff,Nat.reduceAdd,Nat.reduceSub,Nat.reduceMul]
@[go_sem] def aL (l_ : List Order) (k_0 : Nat) (s_0 : List (TimetableSlot×Int)×Int) : Empty⊕(List (TimetableSlot×Int)×Int) :=(bif (!(l_.getD k_0 (default : Order)).outlet) then (bif ((l_.getD k_0 (default : Order)).index==0) then .inr ((c6 .timetableSlot .int s_0.1 ({ index:=(l_.getD k_0 (default : Order)).index,hour:=(l_.getD k_0 (default : Order)).hour} : TimetableSlot) ((l_.getD k_0 (default : Order)).litres)),(IntKind.i64.wrap (s_0.2 + (l_.getD k_0 (default : Order)).litres))) else .inr ((c6 .timetableSlot .int s_0.1 ({ index:=(l_.getD k_0 (default : Order)).index,hour:=(l_.getD k_0 (default : Order)).hour} : TimetableSlot) ((l_.getD k_0 (default : Order)).litres)),s_0.2)) else .inr (s_0.1,s_0.2))
@[go_sem] def dx (d : District) (s_0 : List (TimetableSlot×Int)×Int) (k_1 : Nat) (k_2 : Nat) (k_3 : Nat) (s_3 : Int) : Empty⊕Int:= .inr (IntKind.i64.wrap (s_3 + (ay .timetableSlot .int s_0.1 ({ index:=(k_2 : Int),hour:=(IntKind.i64.wrap ((k_1 : Int) - (k_3 : Int)))} : TimetableSlot))))
@[go_sem] def cK (d : District) (s_0 : List (TimetableSlot×Int)×Int) (k_1 : Nat) (k_2 : Nat) (s_2 : List Fault) : Empty⊕(List Fault) :=(match ax (dx d s_0 k_1 k_2) (Int.toNat ((d.reaches.getD k_2 (default : Reach)).delay)) 0 0 with | .inl x=> x.elim | .inr s_3=> (bif (decide ((ay .timetableSlot .int s_0.1 ({ index:=(k_2 : Int),hour:=(k_1 : Int)} : TimetableSlot)) > (d.reaches.getD k_2 (default : Reach)).cap)) then (bif (decide (s_3 > (d.reaches.getD k_2 (default : Reach)).bank)) then .inr ((s_2 ++ [({ kind:=1,hour:=(k_1 : Int),index:=(k_2 : Int),litres:=(ay .timetableSlot .int s_0.1 ({ index:=(k_2 : Int),hour:=(k_1 : Int)} : TimetableSlot)),limit:=(d.reaches.getD k_2 (default : Reach)).cap} : Fault)]) ++ [({ kind:=3,hour:=(k_1 : Int),index:=(k_2 : Int),litres:=s_3,limit:=(d.reaches.getD k_2 (default : Reach)).bank} : Fault)]) else .inr (s_2 ++ [({ kind:=1,hour:=(k_1 : Int),index:=(k_2 : Int),litres:=(ay .timetableSlot .int s_0.1 ({ index:=(k_2 : Int),hour:=(k_1 : Int)} : TimetableSlot)),limit:=(d.reaches.getD k_2 (default : Reach)).cap} : Fault)])) else (bif (decide (s_3 > (d.reaches.getD k_2 (default : Reach)).bank)) then .inr (s_2 ++ [({ kind:=3,hour:=(k_1 : Int),index:=(k_2 : Int),litres:=s_3,limit:=(d.reaches.getD k_2 (default : Reach)).bank} : Fault)]) else .inr s_2)))
def dP (d : District) (items_ : List (List SV)) (s_0 : List (TimetableSlot×Int)×Int) (k_1 : Nat) (k_2 : Nat) (s_2 : List Fault) : Prop:=(((d.reaches.getD k_2 (default : Reach)).delay < 9223372036854775808)∧(∀ s_3,ax (dx d s_0 k_1 k_2) (Int.toNat ((d.reaches.getD k_2 (default : Reach)).delay)) 0 0= .inr s_3→(((decide ((ay .timetableSlot .int s_0.1 ({ index:=(k_2 : Int),hour:=(k_1 : Int)} : TimetableSlot)) > (d.reaches.getD k_2 (default : Reach)).cap))=true→((items_[s_2.length]? =some (du ({ kind:=1,hour:=(k_1 : Int),index:=(k_2 : Int),litres:=(ay .timetableSlot .int s_0.1 ({ index:=(k_2 : Int),hour:=(k_1 : Int)} : TimetableSlot)),limit:=(d.reaches.getD k_2 (default : Reach)).cap} : Fault)))∧(((decide (s_3 > (d.reaches.getD k_2 (default : Reach)).bank))=true→(items_[(s_2 ++ [({ kind:=1,hour:=(k_1 : Int),index:=(k_2 : Int),litres:=(ay .timetableSlot .int s_0.1 ({ index:=(k_2 : Int),hour:=(k_1 : Int)} : TimetableSlot)),limit:=(d.reaches.getD k_2 (default : Reach)).cap} : Fault)]).length]? =some (du ({ kind:=3,hour:=(k_1 : Int),index:=(k_2 : Int),litres:=s_3,limit:=(d.reaches.getD k_2 (default : Reach)).bank} : Fault))))∧((decide (s_3 > (d.reaches.getD k_2 (default : Reach)).bank))=false→((decide (s_3 > (d.reaches.getD k_2 (default : Reach)).bank))=false)))))∧((decide ((ay .timetableSlot .int s_0.1 ({ index:=(k_2 : Int),hour:=(k_1 : Int)} : TimetableSlot)) > (d.reaches.getD k_2 (default : Reach)).cap))=false→(((decide ((ay .timetableSlot .int s_0.1 ({ index:=(k_2 : Int),hour:=(k_1 : Int)} : TimetableSlot)) > (d.reaches.getD k_2 (default : Reach)).cap))=false)∧(((decide (s_3 > (d.reaches.getD k_2 (default : Reach)).bank))=true→(items_[s_2.length]? =some (du ({ kind:=3,hour:=(k_1 : Int),index:=(k_2 : Int),litres:=s_3,limit:=(d.reaches.getD k_2 (default : Reach)).bank} : Fault))))∧((decide (s_3 > (d.reaches.getD k_2 (default : Reach)).bank))=false→((decide (s_3 > (d.reaches.getD k_2 (default : Reach)).bank))=false))))))))
@[go_sem] def cm (d : District) (s_0 : List (TimetableSlot×Int)×Int) (k_1 : Nat) (s_1 : List Fault) : Empty⊕(List Fault) :=(match ax (cK d s_0 k_1) d.reaches.length 0 s_1 with | .inl x=> x.elim | .inr s_2=> .inr s_2)
def dQ (d : District) (items_ : List (List SV)) (s_0 : List (TimetableSlot×Int)×Int) (k_1 : Nat) (s_1 : List Fault) : Prop:=(d.reaches.length≤bt→okI (cK d s_0 k_1) (dP d items_ s_0 k_1) d.reaches.length 0 s_1)
def br (l_ : List Order) (d : District) : List Fault:=(match ax (aL l_) l_.length 0 ([],0) with | .inl x=> x.elim | .inr s_0=> (match ax (cm d s_0) (Int.toNat d.hours) 0 ([] : List Fault) with | .inl x=> x.elim | .inr s_1=> (bif (decide (s_0.2 > d.tank.start)) then (s_1 ++ [({ kind:=4,hour:=0,index:=0,litres:=s_0.2,limit:=d.tank.start} : Fault)]) else s_1)))
def cW (l_ : List Order) (d : District) (items_ : List (List SV)) : Prop:=(l_.length≤bt→(∀ s_0,ax (aL l_) l_.length 0 ([],0)= .inr s_0→((d.hours < 9223372036854775808)∧okI (cm d s_0) (dQ d items_ s_0) (Int.toNat d.hours) 0 ([] : List Fault)∧(∀ s_1,ax (cm d s_0) (Int.toNat d.hours) 0 ([] : List Fault)= .inr s_1→(((decide (s_0.2 > d.tank.start))=true→((items_[s_1.length]? =some (du ({ kind:=4,hour:=0,index:=0,litres:=s_0.2,limit:=d.tank.start} : Fault)))∧(items_.length=(s_1 ++ [({ kind:=4,hour:=0,index:=0,litres:=s_0.2,limit:=d.tank.start} : Fault)]).length)))∧((decide (s_0.2 > d.tank.start))=false→(items_.length=s_1.length)))))))
set_option maxHeartbeats 4000000 in
theorem iU (l_ : List Order) (d : District) (items_ : List (List SV)) (hp : cW l_ d items_) : wq Tryz.prog 100 (fun y=> [y,.ep [.rs .order l_] 0,.ep (cellsOf .district d) 0]) [] items_:=by
 unfold cW at hp
 refine B4 mixed aH (fn:=Tryz.f100) (c:=aj Tryz.f100) (by kernel_rfl) (by kernel_rfl) (by kernel_rfl) (by kernel_rfl) rfl (n:=0) rfl (G:=fun r_=> tG [] [] (Ai items_ r_)) (fun r_ hy=> ?_) (fun args w=> by kernel_rfl)
 have hG : ConsOk Tryz.prog (tG [] [] (Ai items_ r_)) :=rl cg0 cg0 hy
 refine ⟨hG,Nat.le_of_ble_eq_true rfl,(fun id st=> bif Nat.beq id 0 then some (LCR (ρ:=Empty) (σ:=(List (TimetableSlot×Int)×Int)) 2 [] [0,1] (fun k_0 s_0=> ⟨[(0,.os 0),(2,.ep (cellsOf .district d) 0),(4,.os 1),(5,.v (.int .i64 s_0.2)),(15,.rs .order l_),(16,.v (.int .i64 (l_.length : Int))),(17,.v (.int .i64 (k_0 : Int)))],[.ab (r_.1 (([] : List Fault).length + 1)),.mp .timetableSlot .int s_0.1 none]⟩) (aL l_) pT l_.length ([],0) (l_.length≤bt) ((·.elim)) ((·.elim)) st) else bif Nat.beq id 2 then some (LCY (ρ:=Empty) (σ:=(List Fault)) 2 [] [0,1] (fun k_1 s_1=> ⟨[(0,.os 0),(2,.ep (cellsOf .district d) 0),(4,.os 1),(5,.v (.int .i64 (aK (ax (aL l_) l_.length 0 ([],0))).2)),(41,.v (.int .i64 d.hours)),(42,.v (.int .i64 (k_1 : Int)))],[.ab (r_.1 (s_1.length + 1)),.mp .timetableSlot .int (aK (ax (aL l_) l_.length 0 ([],0))).1 none]⟩) (cm d (aK (ax (aL l_) l_.length 0 ([],0)))) (dQ d items_ (aK (ax (aL l_) l_.length 0 ([],0)))) (Int.toNat d.hours) ([] : List Fault) (d.hours < 9223372036854775808) ((·.elim)) ((·.elim)) ⟨[],[.ab (r_.1 0),.dead]⟩ st) else none),?_,?_⟩
 ·unfold aj Tryz.f100
  simp only [az,true_and,and_true]
  refine ⟨?_,?_⟩
  ·refine c9 mixed aH hG (by kernel_rfl) (fun _=> rfl) (l_.length : Int) rfl lr (fun hb0 k_0 s_0 hlt0 _ hw hc=> ⟨L0,aw _,?_⟩) (fun hb0 s_0 hc=> ?_)
   ·exact vS
   ·exact vT
  ·refine rJ mixed aH hG (by kernel_rfl) (fun _=> rfl) d.hours rfl id (fun hb1 k_1 s_1 hlt1 hq1 hw hc=> ⟨(fun id st=> bif Nat.beq id 4 then some (LCY (ρ:=Empty) (σ:=(List Fault)) 2 [] [0,1] (fun k_2 s_2=> ⟨[(0,.os 0),(2,.ep (cellsOf .district d) 0),(4,.os 1),(5,.v (.int .i64 (aK (ax (aL l_) l_.length 0 ([],0))).2)),(8,.v (.int .i64 (k_1 : Int))),(41,.v (.int .i64 d.hours)),(42,.v (.int .i64 (k_1 : Int))),(46,.rs .reach d.reaches),(47,.v (.int .i64 (d.reaches.length : Int))),(48,.v (.int .i64 (k_2 : Int)))],[.ab (r_.1 (s_2.length + 1)),.mp .timetableSlot .int (aK (ax (aL l_) l_.length 0 ([],0))).1 none]⟩) (cK d (aK (ax (aL l_) l_.length 0 ([],0))) k_1) (dP d items_ (aK (ax (aL l_) l_.length 0 ([],0))) k_1) d.reaches.length s_1 (d.reaches.length≤bt) ((·.elim)) ((·.elim)) ⟨[],[.ab (r_.1 0),.dead]⟩ st) else none),?_,?_⟩) (fun hb1 s_1 hc=> ?_)
   ·simp only [az,true_and,and_true]
    ·refine rJ mixed aH hG (by kernel_rfl) (fun _=> rfl) (d.reaches.length : Int) rfl lr (fun hb2 k_2 s_2 hlt2 hq2 hw hc=> ⟨(fun id st=> bif Nat.beq id 6 then some (LCR (ρ:=Empty) (σ:=Int) 3 [] [0,1,2] (fun k_3 s_3=> ⟨[(0,.os 0),(2,.ep (cellsOf .district d) 0),(4,.os 1),(5,.v (.int .i64 (aK (ax (aL l_) l_.length 0 ([],0))).2)),(8,.v (.int .i64 (k_1 : Int))),(9,.v (.int .i64 (k_2 : Int))),(10,.ptr 2 0),(11,.v (.int .i64 s_3)),(41,.v (.int .i64 d.hours)),(42,.v (.int .i64 (k_1 : Int))),(46,.rs .reach d.reaches),(47,.v (.int .i64 (d.reaches.length : Int))),(48,.v (.int .i64 (k_2 : Int))),(54,.v (.int .i64 ((d.reaches.getD k_2 (default : Reach)).delay))),(55,.v (.int .i64 (k_3 : Int)))],[.ab (r_.1 (s_2.length + 1)),.mp .timetableSlot .int (aK (ax (aL l_) l_.length 0 ([],0))).1 none,.cells (cellsOf .reach (d.reaches.getD k_2 (default : Reach)))]⟩) (dx d (aK (ax (aL l_) l_.length 0 ([],0))) k_1 k_2) pT (Int.toNat ((d.reaches.getD k_2 (default : Reach)).delay)) 0 ((d.reaches.getD k_2 (default : Reach)).delay < 9223372036854775808) ((·.elim)) ((·.elim)) st) else none),?_,?_⟩) (fun hb2 s_2 hc=> ?_)
     ·simp only [az,true_and,and_true]
      ·refine c9 mixed aH hG (by kernel_rfl) (fun _=> rfl) ((d.reaches.getD k_2 (default : Reach)).delay) rfl id (fun hb3 k_3 s_3 hlt3 _ hw hc=> ⟨L0,aw _,?_⟩) (fun hb3 s_3 hc=> ?_)
       ·exact Ay
       ·exact Az
     ·unfold dP at hq2
      try simp only [hw,Int.toNat_natCast] at hq2
      exact vS
     ·exact vT
   ·unfold dQ at hq1
    try simp only [hw,Int.toNat_natCast] at hq1
    exact vS
   ·exact vT
 ·unfold aj Tryz.f100
  simp only [go_sem,Nat.reduceBEq,Nat.reduceLeDiff,Nat.reduceLT,decide_true,Nat.reduceAdd,Nat.reduceSub,Nat.reduceMul,Int.reduceLE,Int.reduceLT,Int.reduceToNat,Int.reduceNeg,reduceCtorEq]
  all_goals exact Aw
end Go.Sx
end
section
namespace Go.Sx
open Go.Proofs
set_option maxRecDepth 100000
set_option linter.unusedSimpArgs false
theorem vU {p : Prop} (h : p:=by (first | done | (repeat' (first | with_reducible refine And.intro ?_ ?_ | ((with_reducible show _≠_);first | assumption | omega | (simp_all [aK,aU];done) | grind) | with_reducible intro _)) <;> (first | done | exact Empty.elim ‹Empty› | assumption | rfl | omega | decide | exact fk [0] | (simp only [*,cond_true,cond_false,Bool.not_true,Bool.not_false,go_sem,Nat.reduceBEq,Nat.reduceLeDiff,Nat.reduceLT,decide_true,Nat.reduceAdd,Nat.reduceSub,Nat.reduceMul,Int.reduceLE,Int.reduceLT,Int.reduceToNat,Int.reduceNeg,reduceCtorEq];done) | (simp only [*,cond_true,cond_false,Bool.not_true,Bool.not_false,go_sem,Nat.reduceBEq,Nat.reduceLeDiff,Nat.reduceLT,decide_true,Nat.reduceAdd,Nat.reduceSub,Nat.reduceMul,Int.reduceLE,Int.reduceLT,Int.reduceToNat,Int.reduceNeg,reduceCtorEq];(repeat' (first | with_reducible refine And.intro ?_ ?_ | ((with_reducible show _≠_);first | assumption | omega | (simp_all [aK,aU];done) | grind) | with_reducible intro _)) <;> (first | done | assumption | rfl | omega | decide | exact fk [0] | (simp_all [aK,aU];done))) | (simp_all [okI,aK,aU];done) | (simp_all [aK,aU];(first | done | exact fk2 [0])) | exact fk2 [0]))) : p:=h
theorem vV {p : Prop} (h : p:=by (first | done | (repeat' (first | with_reducible refine And.intro ?_ ?_ | ((with_reducible show _≠_);first | assumption | omega | (simp_all [aK,aU];done) | grind) | with_reducible intro _)) <;> (first | done | exact Empty.elim ‹Empty› | assumption | rfl | omega | decide | exact fk [0,1,2,3] | (simp only [*,cond_true,cond_false,Bool.not_true,Bool.not_false,go_sem,Nat.reduceBEq,Nat.reduceLeDiff,Nat.reduceLT,decide_true,Nat.reduceAdd,Nat.reduceSub,Nat.reduceMul,Int.reduceLE,Int.reduceLT,Int.reduceToNat,Int.reduceNeg,reduceCtorEq];done) | (simp only [*,cond_true,cond_false,Bool.not_true,Bool.not_false,go_sem,Nat.reduceBEq,Nat.reduceLeDiff,Nat.reduceLT,decide_true,Nat.reduceAdd,Nat.reduceSub,Nat.reduceMul,Int.reduceLE,Int.reduceLT,Int.reduceToNat,Int.reduceNeg,reduceCtorEq];(repeat' (first | with_reducible refine And.intro ?_ ?_ | ((with_reducible show _≠_);first | assumption | omega | (simp_all [aK,aU];done) | grind) | with_reducible intro _)) <;> (first | done | assumption | rfl | omega | decide | exact fk [0,1,2,3] | (simp_all [aK,aU];done))) | (simp_all [okI,aK,aU];done) | (simp_all [aK,aU];(first | done | exact fk2 [0,1,2,3])) | exact fk2 [0,1,2,3]))) : p:=h
@[go_sem] def bY (out : List Order) (d : District) (z_0 : Fault) (s_0 : Int×Int×Int×Int×Int) : Empty⊕(Int×Int×Int×Int×Int) :=(bif (((s_0.1==0) && ((s_0.2.1==0) && ((s_0.2.2.1==0) && ((s_0.2.2.2.1==0) && (s_0.2.2.2.2==0))))) || (decide ((bJ ([(aR z_0.hour s_0.2.1),(aR s_0.2.2.1 z_0.index)])) < 0))) then .inr (z_0.kind,z_0.hour,z_0.index,z_0.litres,z_0.limit) else .inr (s_0.1,s_0.2.1,s_0.2.2.1,s_0.2.2.2.1,s_0.2.2.2.2))
def oT (out : List Order) (d : District) (z_0 : Fault) (s_0 : Int×Int×Int×Int×Int) : Prop:=True
def dY (out : List Order) (d : District) : Fault:=(match cj (bY out d) (bq out d) (0,0,0,0,0) with | .inl x=> x.elim | .inr s_0=> ({ kind:=s_0.1,hour:=s_0.2.1,index:=s_0.2.2.1,litres:=s_0.2.2.2.1,limit:=s_0.2.2.2.2} : Fault))
def iE (out : List Order) (d : District) : Prop:=(ed out d ((bq out d).map du))
@[go_sem] noncomputable def iF : List SV→Option Con:=(pFn 98 (pXR .order fun out=> (pX .district fun d=> (pE ((pE (.det (iE out d) (.agg (cellsOf .fault (dY out d))))))))))
set_option maxHeartbeats 4000000 in
theorem lg : FnOk Tryz.prog 55 iF:=by
 have hG : ConsOk Tryz.prog (mkG [(69,fun l=> eA (c8 [.sl .int] l)),(70,cp)] []) :=aQ (cgc (fc.norm [.sl .int]) (cgc cS cg0)) cg0
 refine ba [.st .fault] mixed aH hG (fn:=Tryz.f55) (c:=aj Tryz.f55) (by kernel_rfl) (by kernel_rfl) (by kernel_rfl) (by kernel_rfl) (im (rq fun out=> (qv fun d=> (aO ((aO (fun hp=> ?_)))))))
 dsimp only [aW] at hp
 unfold iE at hp
 refine ⟨Nat.le_of_ble_eq_true rfl,(fun id st=> bif Nat.beq id 0 then some (LC (ρ:=Empty) (σ:=Int×Int×Int×Int×Int) (lk 2 st.t= .ptr 0 0∧lk 4 st.t= .fn 98 [] [.ep [.rs .order out] 0,.ep (cellsOf .district d) 0]∧st.h=[.cells [.v (.int .i64 0),.v (.int .i64 0),.v (.int .i64 0),.v (.int .i64 0),.v (.int .i64 0)]]∧ed out d ((bq out d).map du)) (cj (bY out d) (bq out d) (0,0,0,0,0)) (fun x=> x.elim) (fun x=> x.elim) (fun s_0=> ⟨[(2,.ptr 0 0)],[.cells [.v (.int .i64 s_0.1),.v (.int .i64 s_0.2.1),.v (.int .i64 s_0.2.2.1),.v (.int .i64 s_0.2.2.2.1),.v (.int .i64 s_0.2.2.2.2)]]⟩)) else none),?_,?_⟩
 ·unfold aj Tryz.f55
  simp only [az,true_and,and_true]
  ·refine mt mixed aH hG (by decide) (by decide) (by kernel_rfl) (by kernel_rfl) fun st lc hC hp=> ?_
   simp only [go_sem,Nat.reduceBEq,Option.some.injEq] at hC
   subst hC
   obtain ⟨t,h⟩ :=st
   dsimp only [LC] at hp
   obtain ⟨e0_0,e0_1,rfl,hb0⟩ :=hp
   refine ⟨98,[.ep [.rs .order out] 0,.ep (cellsOf .district d) 0],Fault,_,_,(bq out d),du,(bY out d),(oT out d),_,(0,0,0,0,0),_,_,_,[(2,.ptr 0 0)],(fun s_0=> [.cells [.v (.int .i64 s_0.1),.v (.int .i64 s_0.2.1),.v (.int .i64 s_0.2.2.1),.v (.int .i64 s_0.2.2.2.1),.v (.int .i64 s_0.2.2.2.2)]]),(fun x=> x.elim),[0],?_,rfl,t7 _ _ fun _ _ _=> trivial,Nat.le_of_ble_eq_true rfl,?_,pC out d _ hb0,fun z_0 s_0 hq0=> ⟨rfl,L0,fun l=> ?_,fun l=> ?_,?_⟩,fun s_0=> ?_,fun y=> ?_⟩
   ·simp only [go_sem,e0_0,e0_1]
   ·simp only [go_sem,Nat.reduceBEq,Nat.reduceLeDiff,Nat.reduceLT,decide_true,Nat.reduceAdd,Nat.reduceSub,Nat.reduceMul,Int.reduceLE,Int.reduceLT,Int.reduceToNat,Int.reduceNeg,reduceCtorEq,nk,il,List.flatMap_cons,List.flatMap_nil,List.nil_append,List.append_nil,List.map_nil,e0_0,e0_1]
    all_goals (first | done | decide | (repeat' (first | refine And.intro ?_ ?_ | rfl | decide)))
   ·simp only [az,and_self,true_and,and_true]
   ·simp only [az,and_self,true_and,and_true]
   ·skip
    simp only [go_sem,Nat.reduceBEq,Nat.reduceLeDiff,Nat.reduceLT,decide_true,Nat.reduceAdd,Nat.reduceSub,Nat.reduceMul,Int.reduceLE,Int.reduceLT,Int.reduceToNat,Int.reduceNeg,reduceCtorEq,bY,psT,du,List.cons_append,List.nil_append]
    all_goals exact vU
   ·simp only [go_sem,Nat.reduceBEq,Nat.reduceLeDiff,Nat.reduceLT,decide_true,Nat.reduceAdd,Nat.reduceSub,Nat.reduceMul,Int.reduceLE,Int.reduceLT,Int.reduceToNat,Int.reduceNeg,reduceCtorEq]
    all_goals exact vU
   ·simp only [go_sem,Nat.reduceBEq,Nat.reduceLeDiff,Nat.reduceLT,decide_true,Nat.reduceAdd,Nat.reduceSub,Nat.reduceMul,Int.reduceLE,Int.reduceLT,Int.reduceToNat,Int.reduceNeg,reduceCtorEq]
    all_goals exact vU
 ·unfold aj Tryz.f55
  try unfold dY
  simp only [go_sem,Nat.reduceBEq,Nat.reduceLeDiff,Nat.reduceLT,decide_true,Nat.reduceAdd,Nat.reduceSub,Nat.reduceMul,Int.reduceLE,Int.reduceLT,Int.reduceToNat,Int.reduceNeg,reduceCtorEq]
  all_goals exact cl
@[go_sem] def cU (d : District) (c : List Claim) (z_0 : Fault) (s_0 : Unit) : (Int×Int×Int×Int×Int)⊕Unit:= .inl (z_0.kind,z_0.hour,z_0.index,z_0.litres,z_0.limit)
def jN (d : District) (c : List Claim) (z_0 : Fault) (s_0 : Unit) : Prop:=True
def ar (d : District) (c : List Claim) : List Order×Fault×Int:=(bif ((ag d c).2 !=0) then ([],({ kind:=0,hour:=0,index:=0,litres:=0,limit:=0} : Fault),(ag d c).2) else (bif ((aq d ((ag d c).1)).2.2 !=0) then ([],({ kind:=0,hour:=0,index:=0,litres:=0,limit:=0} : Fault),(aq d ((ag d c).1)).2.2) else (bif (!(aq d ((ag d c).1)).2.1) then ([],(dY ((ag d c).1) d),0) else (match cj (cU d c) (br ((aq d ((ag d c).1)).1) d) () with | .inl x_0_0=> ([],({ kind:=x_0_0.1,hour:=x_0_0.2.1,index:=x_0_0.2.2.1,litres:=x_0_0.2.2.2.1,limit:=x_0_0.2.2.2.2} : Fault),0) | .inr s_0=> ((aq d ((ag d c).1)).1,({ kind:=0,hour:=0,index:=0,litres:=0,limit:=0} : Fault),0)))))
def di (d : District) (c : List Claim) : Prop:=((dh d c)∧(((ag d c).2 !=0)=false→((iz d ((ag d c).1))∧(((aq d ((ag d c).1)).2.2 !=0)=false→(((!(aq d ((ag d c).1)).2.1)=true→(iE ((ag d c).1) d))∧((!(aq d ((ag d c).1)).2.1)=false→(cW ((aq d ((ag d c).1)).1) d ((br ((aq d ((ag d c).1)).1) d).map du))))))))
@[go_sem] def iG : List SV→Option Con:=(pD .district fun d=> (pR .claim fun c=> (pE (.det (di d c) (.tup [.rs .order ((ar d c).1),.agg (cellsOf .fault ((ar d c).2.1)),.v (.int .i64 ((ar d c).2.2))])))))
set_option maxHeartbeats 4000000 in
theorem lh : FnOk Tryz.prog 31 iG:=by
 have hG : ConsOk Tryz.prog (mkG [(33,fun l=> iD (c8 [.st .district,.sl .claim] l)),(54,fun l=> kX (c8 [.st .district,.sl .order] l)),(55,iF),(56,fun l=> jc (c8 [.st .district,.sl .order] l)),(57,fun l=> g5 (c8 [.st .district,.sl .order] l))] []) :=aQ (cgc (lf.norm [.st .district,.sl .claim]) (cgc (nB.norm [.st .district,.sl .order]) (cgc lg (cgc (lL.norm [.st .district,.sl .order]) (cgc (kc.norm [.st .district,.sl .order]) cg0))))) cg0
 refine ba [.sl .order,.st .fault,.o] mixed aH hG (fn:=Tryz.f31) (c:=aj Tryz.f31) (by kernel_rfl) (by kernel_rfl) (by kernel_rfl) (by kernel_rfl) (bW fun d=> (dq fun c=> (aO (fun hp=> ?_))))
 dsimp only [aW] at hp
 unfold di at hp
 refine ⟨Nat.le_of_ble_eq_true rfl,(fun id st=> bif Nat.beq id 0 then some (LC (ρ:=Int×Int×Int×Int×Int) (σ:=Unit) (lk 4 st.t= .ptr 1 0∧lk 5 st.t= .ptr 2 0∧lk 6 st.t= .ptr 3 0∧lk 39 st.t= .fn 100 [] [.ep [.rs .order ((aq d ((ag d c).1)).1)] 0,.ep (cellsOf .district d) 0]∧st.h=[.cells (cellsOf .district d),.cells [.rs .order ((aq d ((ag d c).1)).1)],.cells [.v (.int .i64 0),.v (.int .i64 0),.v (.int .i64 0),.v (.int .i64 0),.v (.int .i64 0)],.cells [.v (.int .i64 ((aq d ((ag d c).1)).2.2))]]∧cW ((aq d ((ag d c).1)).1) d ((br ((aq d ((ag d c).1)).1) d).map du)) (cj (cU d c) (br ((aq d ((ag d c).1)).1) d) ()) (fun _=> .ret) (fun x_0_0=> ⟨[(4,.ptr 1 0),(5,.ptr 2 0),(6,.ptr 3 0)],[.dead,.cells [.v (.slice none 0 0)],.cells [.v (.int .i64 x_0_0.1),.v (.int .i64 x_0_0.2.1),.v (.int .i64 x_0_0.2.2.1),.v (.int .i64 x_0_0.2.2.2.1),.v (.int .i64 x_0_0.2.2.2.2)],.cells [.v (.int .i64 0)]]⟩) (fun s_0=> ⟨[(4,.ptr 1 0),(5,.ptr 2 0),(6,.ptr 3 0)],[.dead,.cells [.rs .order ((aq d ((ag d c).1)).1)],.cells [.v (.int .i64 0),.v (.int .i64 0),.v (.int .i64 0),.v (.int .i64 0),.v (.int .i64 0)],.cells [.v (.int .i64 ((aq d ((ag d c).1)).2.2))]]⟩)) else none),?_,?_⟩
 ·unfold aj Tryz.f31
  simp only [az,true_and,and_true]
  ·refine mt mixed aH hG (by decide) (by decide) (by kernel_rfl) (by kernel_rfl) fun st lc hC hp=> ?_
   simp only [go_sem,Nat.reduceBEq,Option.some.injEq] at hC
   subst hC
   obtain ⟨t,h⟩ :=st
   dsimp only [LC] at hp
   obtain ⟨e0_0,e0_1,e0_2,e0_3,rfl,hb0⟩ :=hp
   refine ⟨100,[.ep [.rs .order ((aq d ((ag d c).1)).1)] 0,.ep (cellsOf .district d) 0],Fault,_,_,(br ((aq d ((ag d c).1)).1) d),du,(cU d c),(jN d c),_,(),_,_,_,[(4,.ptr 1 0),(5,.ptr 2 0),(6,.ptr 3 0)],(fun s_0=> [.dead,.cells [.rs .order ((aq d ((ag d c).1)).1)],.cells [.v (.int .i64 0),.v (.int .i64 0),.v (.int .i64 0),.v (.int .i64 0),.v (.int .i64 0)],.cells [.v (.int .i64 ((aq d ((ag d c).1)).2.2))]]),(fun x_0_0=> [.dead,.cells [.v (.slice none 0 0)],.cells [.v (.int .i64 x_0_0.1),.v (.int .i64 x_0_0.2.1),.v (.int .i64 x_0_0.2.2.1),.v (.int .i64 x_0_0.2.2.2.1),.v (.int .i64 x_0_0.2.2.2.2)],.cells [.v (.int .i64 0)]]),[0,1,2,3],?_,rfl,t7 _ _ fun _ _ _=> trivial,Nat.le_of_ble_eq_true rfl,?_,iU ((aq d ((ag d c).1)).1) d _ hb0,fun z_0 s_0 hq0=> ⟨rfl,L0,fun l=> ?_,fun l=> ?_,?_⟩,fun s_0=> ?_,fun y=> ?_⟩
   ·simp only [go_sem,e0_0,e0_1,e0_2,e0_3]
   ·simp only [go_sem,Nat.reduceBEq,Nat.reduceLeDiff,Nat.reduceLT,decide_true,Nat.reduceAdd,Nat.reduceSub,Nat.reduceMul,Int.reduceLE,Int.reduceLT,Int.reduceToNat,Int.reduceNeg,reduceCtorEq,nk,il,List.flatMap_cons,List.flatMap_nil,List.nil_append,List.append_nil,List.map_nil,e0_0,e0_1,e0_2,e0_3]
    all_goals (first | done | decide | (repeat' (first | refine And.intro ?_ ?_ | rfl | decide)))
   ·simp only [az,and_self,true_and,and_true]
   ·simp only [az,and_self,true_and,and_true]
   ·skip
    simp only [go_sem,Nat.reduceBEq,Nat.reduceLeDiff,Nat.reduceLT,decide_true,Nat.reduceAdd,Nat.reduceSub,Nat.reduceMul,Int.reduceLE,Int.reduceLT,Int.reduceToNat,Int.reduceNeg,reduceCtorEq,cU,psT,du,List.cons_append,List.nil_append]
    all_goals exact vV
   ·simp only [go_sem,Nat.reduceBEq,Nat.reduceLeDiff,Nat.reduceLT,decide_true,Nat.reduceAdd,Nat.reduceSub,Nat.reduceMul,Int.reduceLE,Int.reduceLT,Int.reduceToNat,Int.reduceNeg,reduceCtorEq]
    all_goals exact vV
   ·simp only [go_sem,Nat.reduceBEq,Nat.reduceLeDiff,Nat.reduceLT,decide_true,Nat.reduceAdd,Nat.reduceSub,Nat.reduceMul,Int.reduceLE,Int.reduceLT,Int.reduceToNat,Int.reduceNeg,reduceCtorEq]
    all_goals exact vV
 ·unfold aj Tryz.f31
  try unfold ar
  simp only [go_sem,Nat.reduceBEq,Nat.reduceLeDiff,Nat.reduceLT,decide_true,Nat.reduceAdd,Nat.reduceSub,Nat.reduceMul,Int.reduceLE,Int.reduceLT,Int.reduceToNat,Int.reduceNeg,reduceCtorEq]
  all_goals exact cl
def ae (d : District) (c : List Claim) : List Order×Bool×Int:=((ar d c).1,(((ar d c).2.2==0) && ((((ar d c).2.1).kind==0) && ((((ar d c).2.1).hour==0) && ((((ar d c).2.1).index==0) && ((((ar d c).2.1).litres==0) && (((ar d c).2.1).limit==0)))))),(ar d c).2.2)
def b5 (d : District) (c : List Claim) : Prop:=(di d c)
@[go_sem] def je : List SV→Option Con:=(pD .district fun d=> (pR .claim fun c=> (pE (.det (b5 d c) (.tup [.rs .order ((ae d c).1),.v (.bool ((ae d c).2.1)),.v (.int .i64 ((ae d c).2.2))])))))
theorem lM : FnOk Tryz.prog 12 je:=by
 have hG : ConsOk Tryz.prog (mkG [(31,fun l=> iG (c8 [.st .district,.sl .claim] l))] []) :=aQ (cgc (lh.norm [.st .district,.sl .claim]) cg0) cg0
 refine ba [.sl .order,.o,.o] mixed aH hG (fn:=Tryz.f12) (c:=aj Tryz.f12) (by kernel_rfl) (by kernel_rfl) (by kernel_rfl) (by kernel_rfl) (bW fun d=> (dq fun c=> (aO (fun hp=> ?_))))
 dsimp only [aW] at hp
 unfold b5 at hp
 refine ⟨Nat.le_of_ble_eq_true rfl,L0,aw _,?_⟩
 ·unfold aj Tryz.f12
  try unfold ae
  simp only [go_sem,Nat.reduceBEq,Nat.reduceLeDiff,Nat.reduceLT,decide_true,Nat.reduceAdd,Nat.reduceSub,Nat.reduceMul,Int.reduceLE,Int.reduceLT,Int.reduceToNat,Int.reduceNeg,reduceCtorEq]
  all_goals exact cl
def dn (d : District) (c : List Claim) : Fault×Bool×Int:=(((ar d c).2.1),(!((((ar d c).2.1).kind==0) && ((((ar d c).2.1).hour==0) && ((((ar d c).2.1).index==0) && ((((ar d c).2.1).litres==0) && (((ar d c).2.1).limit==0)))))),(ar d c).2.2)
def eC (d : District) (c : List Claim) : Prop:=(di d c)
@[go_sem] def lN : List SV→Option Con:=(pD .district fun d=> (pR .claim fun c=> (pE (.det (eC d c) (.tup [.agg (cellsOf .fault ((dn d c).1)),.v (.bool ((dn d c).2.1)),.v (.int .i64 ((dn d c).2.2))])))))
theorem qD : FnOk Tryz.prog 14 lN:=by
 have hG : ConsOk Tryz.prog (mkG [(31,fun l=> iG (c8 [.st .district,.sl .claim] l))] []) :=aQ (cgc (lh.norm [.st .district,.sl .claim]) cg0) cg0
 refine ba [.st .fault,.o,.o] mixed aH hG (fn:=Tryz.f14) (c:=aj Tryz.f14) (by kernel_rfl) (by kernel_rfl) (by kernel_rfl) (by kernel_rfl) (bW fun d=> (dq fun c=> (aO (fun hp=> ?_))))
 dsimp only [aW] at hp
 unfold eC at hp
 refine ⟨Nat.le_of_ble_eq_true rfl,L0,aw _,?_⟩
 ·unfold aj Tryz.f14
  try unfold dn
  simp only [go_sem,Nat.reduceBEq,Nat.reduceLeDiff,Nat.reduceLT,decide_true,Nat.reduceAdd,Nat.reduceSub,Nat.reduceMul,Int.reduceLE,Int.reduceLT,Int.reduceToNat,Int.reduceNeg,reduceCtorEq]
  all_goals exact cl
end Go.Sx
end
