/- Part of the proof that the law TimetableSenior returns true and leaves its arguments as they were, for all arguments of bulk at most 1048576 (the Upto form). -/
import Derived.Test.YtagjakphhkfofaaGreatC509
import Derived.Test.YtagjakphhkfofaaGreatC507
import Derived.Test.YtagjakphhkfofaaGreatC508
set_option linter.all false
section
namespace Go.Sx
open Go.Proofs
set_option maxRecDepth 100000
set_option linter.unusedSimpArgs false
@[go_sem] def kv (a0 : District) (k_0 : Nat) (s_0 : List (List Int)×List (List Int)) : Empty⊕(List (List Int)×List (List Int)) := .inr ((s_0.1 ++ [(List.replicate (Int.toNat (IntKind.i64.wrap (a0.hours + 1))) (0 : Int))]),(s_0.2 ++ [(List.replicate (Int.toNat a0.hours) (0 : Int))]))
def sE (a0 : District) (k_0 : Nat) (s_0 : List (List Int)×List (List Int)) : Prop:=(((IntKind.i64.wrap (a0.hours + 1))=(IntKind.i64.wrap (a0.hours + 1))∧0≤(IntKind.i64.wrap (a0.hours + 1))∧(IntKind.i64.wrap (a0.hours + 1)) * ((8 : Nat) : Int)≤((dY : Nat) : Int))∧((IntKind.i64.wrap (a0.hours + 1))≤((bg : Nat) : Int)→(((s_0.1 ++ [(List.replicate (Int.toNat (IntKind.i64.wrap (a0.hours + 1))) (0 : Int))]).length * 24≤dY)∧((s_0.1 ++ [(List.replicate (Int.toNat (IntKind.i64.wrap (a0.hours + 1))) (0 : Int))]).length≤bg→((a0.hours=a0.hours∧0≤a0.hours∧a0.hours * ((8 : Nat) : Int)≤((dY : Nat) : Int))∧(a0.hours≤((bg : Nat) : Int)→((s_0.2 ++ [(List.replicate (Int.toNat a0.hours) (0 : Int))]).length * 24≤dY)))))))
@[go_sem] def kw (a0 : District) (a1 : List Order) (k_1 : Nat) (s_1 : List (CertifyPlace×Int)×List (List Int)×List (List Int)) : Empty⊕(List (CertifyPlace×Int)×List (List Int)×List (List Int)) :=(bif (a1.getD k_1 (default : Order)).outlet then (bif (decide ((a0.farms.getD (Int.toNat ((a1.getD k_1 (default : Order)).index)) (default : Farm)).reach≥0)) then .inr ((dn .certifyPlace .int s_1.1 ({ hour:=(a1.getD k_1 (default : Order)).hour,index:=(a1.getD k_1 (default : Order)).index,outlet:=(a1.getD k_1 (default : Order)).outlet} : CertifyPlace) ((a1.getD k_1 (default : Order)).litres)),(s_1.2.1.set (Int.toNat ((a0.farms.getD (Int.toNat ((a1.getD k_1 (default : Order)).index)) (default : Farm)).reach)) ((s_1.2.1.getD (Int.toNat ((a0.farms.getD (Int.toNat ((a1.getD k_1 (default : Order)).index)) (default : Farm)).reach)) []).set (Int.toNat ((a1.getD k_1 (default : Order)).hour)) (IntKind.i64.wrap (((s_1.2.1.getD (Int.toNat ((a0.farms.getD (Int.toNat ((a1.getD k_1 (default : Order)).index)) (default : Farm)).reach)) []).getD (Int.toNat ((a1.getD k_1 (default : Order)).hour)) (0 : Int)) + (a1.getD k_1 (default : Order)).litres)))),s_1.2.2) else .inr ((dn .certifyPlace .int s_1.1 ({ hour:=(a1.getD k_1 (default : Order)).hour,index:=(a1.getD k_1 (default : Order)).index,outlet:=(a1.getD k_1 (default : Order)).outlet} : CertifyPlace) ((a1.getD k_1 (default : Order)).litres)),s_1.2.1,s_1.2.2)) else (bif (decide ((a0.reaches.getD (Int.toNat ((a1.getD k_1 (default : Order)).index)) (default : Reach)).up≥0)) then .inr ((dn .certifyPlace .int s_1.1 ({ hour:=(a1.getD k_1 (default : Order)).hour,index:=(a1.getD k_1 (default : Order)).index,outlet:=(a1.getD k_1 (default : Order)).outlet} : CertifyPlace) ((a1.getD k_1 (default : Order)).litres)),(s_1.2.1.set (Int.toNat ((a0.reaches.getD (Int.toNat ((a1.getD k_1 (default : Order)).index)) (default : Reach)).up)) ((s_1.2.1.getD (Int.toNat ((a0.reaches.getD (Int.toNat ((a1.getD k_1 (default : Order)).index)) (default : Reach)).up)) []).set (Int.toNat ((a1.getD k_1 (default : Order)).hour)) (IntKind.i64.wrap (((s_1.2.1.getD (Int.toNat ((a0.reaches.getD (Int.toNat ((a1.getD k_1 (default : Order)).index)) (default : Reach)).up)) []).getD (Int.toNat ((a1.getD k_1 (default : Order)).hour)) (0 : Int)) + (a1.getD k_1 (default : Order)).litres)))),(s_1.2.2.set (Int.toNat ((a1.getD k_1 (default : Order)).index)) ((s_1.2.2.getD (Int.toNat ((a1.getD k_1 (default : Order)).index)) []).set (Int.toNat (IntKind.i64.wrap ((a1.getD k_1 (default : Order)).hour + 1))) (a1.getD k_1 (default : Order)).litres))) else .inr ((dn .certifyPlace .int s_1.1 ({ hour:=(a1.getD k_1 (default : Order)).hour,index:=(a1.getD k_1 (default : Order)).index,outlet:=(a1.getD k_1 (default : Order)).outlet} : CertifyPlace) ((a1.getD k_1 (default : Order)).litres)),s_1.2.1,(s_1.2.2.set (Int.toNat ((a1.getD k_1 (default : Order)).index)) ((s_1.2.2.getD (Int.toNat ((a1.getD k_1 (default : Order)).index)) []).set (Int.toNat (IntKind.i64.wrap ((a1.getD k_1 (default : Order)).hour + 1))) (a1.getD k_1 (default : Order)).litres)))))
def sF (a0 : District) (a1 : List Order) (k_1 : Nat) (s_1 : List (CertifyPlace×Int)×List (List Int)×List (List Int)) : Prop:=(((a1.getD k_1 (default : Order)).outlet=true→((0≤(a1.getD k_1 (default : Order)).index∧(a1.getD k_1 (default : Order)).index < (a0.farms.length : Int))∧((decide ((a0.farms.getD (Int.toNat ((a1.getD k_1 (default : Order)).index)) (default : Farm)).reach≥0))=true→((0≤(a0.farms.getD (Int.toNat ((a1.getD k_1 (default : Order)).index)) (default : Farm)).reach∧(a0.farms.getD (Int.toNat ((a1.getD k_1 (default : Order)).index)) (default : Farm)).reach < (s_1.2.1.length : Int))∧((0≤(a1.getD k_1 (default : Order)).hour∧(a1.getD k_1 (default : Order)).hour < ((s_1.2.1.getD (Int.toNat ((a0.farms.getD (Int.toNat ((a1.getD k_1 (default : Order)).index)) (default : Farm)).reach)) []).length : Int))∧(0≤(a1.getD k_1 (default : Order)).hour∧(a1.getD k_1 (default : Order)).hour < ((s_1.2.1.getD (Int.toNat ((a0.farms.getD (Int.toNat ((a1.getD k_1 (default : Order)).index)) (default : Farm)).reach)) []).length : Int)))))))∧((a1.getD k_1 (default : Order)).outlet=false→((0≤(a1.getD k_1 (default : Order)).index∧(a1.getD k_1 (default : Order)).index < (a0.reaches.length : Int))∧((0≤(a1.getD k_1 (default : Order)).index∧(a1.getD k_1 (default : Order)).index < (s_1.2.2.length : Int))∧((0≤(IntKind.i64.wrap ((a1.getD k_1 (default : Order)).hour + 1))∧(IntKind.i64.wrap ((a1.getD k_1 (default : Order)).hour + 1)) < ((s_1.2.2.getD (Int.toNat ((a1.getD k_1 (default : Order)).index)) []).length : Int))∧((decide ((a0.reaches.getD (Int.toNat ((a1.getD k_1 (default : Order)).index)) (default : Reach)).up≥0))=true→((0≤(a0.reaches.getD (Int.toNat ((a1.getD k_1 (default : Order)).index)) (default : Reach)).up∧(a0.reaches.getD (Int.toNat ((a1.getD k_1 (default : Order)).index)) (default : Reach)).up < (s_1.2.1.length : Int))∧((0≤(a1.getD k_1 (default : Order)).hour∧(a1.getD k_1 (default : Order)).hour < ((s_1.2.1.getD (Int.toNat ((a0.reaches.getD (Int.toNat ((a1.getD k_1 (default : Order)).index)) (default : Reach)).up)) []).length : Int))∧(0≤(a1.getD k_1 (default : Order)).hour∧(a1.getD k_1 (default : Order)).hour < ((s_1.2.1.getD (Int.toNat ((a0.reaches.getD (Int.toNat ((a1.getD k_1 (default : Order)).index)) (default : Reach)).up)) []).length : Int))))))))))
@[go_sem] def oc (a0 : District) (k_2 : Nat) (k_3 : Nat) (s_3 : List (List Int)) : Empty⊕(List (List Int)) := .inr (s_3.set k_2 ((s_3.getD k_2 []).set (Int.toNat (IntKind.i64.wrap ((k_3 : Int) + 1))) (IntKind.i64.wrap (((s_3.getD k_2 []).getD (Int.toNat (IntKind.i64.wrap ((k_3 : Int) + 1))) (0 : Int)) + ((s_3.getD k_2 []).getD k_3 (0 : Int))))))
def sG (a0 : District) (k_2 : Nat) (k_3 : Nat) (s_3 : List (List Int)) : Prop:=((0≤(IntKind.i64.wrap ((k_3 : Int) + 1))∧(IntKind.i64.wrap ((k_3 : Int) + 1)) < ((s_3.getD k_2 []).length : Int))∧((0≤(k_3 : Int)∧(k_3 : Int) < ((s_3.getD k_2 []).length : Int))∧(0≤(IntKind.i64.wrap ((k_3 : Int) + 1))∧(IntKind.i64.wrap ((k_3 : Int) + 1)) < ((s_3.getD k_2 []).length : Int))))
@[go_sem] def od (a0 : District) (s_1 : List (CertifyPlace×Int)×List (List Int)×List (List Int)) (k_2 : Nat) (s_2 : List (List Int)) : Empty⊕(List (List Int)) :=(match az (oc a0 k_2) (Int.toNat a0.hours) 0 s_2 with | .inl x=> x.elim | .inr s_3=> .inr s_3)
def sH (a0 : District) (s_1 : List (CertifyPlace×Int)×List (List Int)×List (List Int)) (k_2 : Nat) (s_2 : List (List Int)) : Prop:=((0≤(k_2 : Int)∧(k_2 : Int) < (s_2.length : Int))∧((a0.hours < 9223372036854775808)∧okI (oc a0 k_2) (sG a0 k_2) (Int.toNat a0.hours) 0 s_2))
def bp (a0 : District) (a1 : List Order) : CertifyTable×Int:=(bif ((decide ((IntKind.i64.wrap ((a0.reaches.length : Int) * a0.hours)) > 1024)) || (decide ((a1.length : Int) > 4096))) then (({ d:=({ name:=(ByteArray.mk #[]),hours:=0,tank:=({ cap:=0,start:=0} : Tank),reaches:=[],farms:=[],crops:=[],rights:=[],duties:=[],wells:=[]} : District),l:=[],litres:=[],sums:=[],drawn:=[]} : CertifyTable),2) else (bif ((b5 a0 a1) !=0) then (({ d:=({ name:=(ByteArray.mk #[]),hours:=0,tank:=({ cap:=0,start:=0} : Tank),reaches:=[],farms:=[],crops:=[],rights:=[],duties:=[],wells:=[]} : District),l:=[],litres:=[],sums:=[],drawn:=[]} : CertifyTable),280) else (match az (kv a0) a0.reaches.length 0 ([],[]) with | .inl x=> x.elim | .inr s_0=> (match az (kw a0 a1) a1.length 0 ([],s_0.2,s_0.1) with | .inl x=> x.elim | .inr s_1=> (match az (od a0 s_1) s_1.2.2.length 0 s_1.2.2 with | .inl x=> x.elim | .inr s_2=> (({ d:=a0,l:=a1,litres:=s_1.1,sums:=s_2,drawn:=s_1.2.1} : CertifyTable),0))))))
def lE (a0 : District) (a1 : List Order) : Prop:=(a0.reaches.length≤bg→(((decide ((IntKind.i64.wrap ((a0.reaches.length : Int) * a0.hours)) > 1024)) || (decide ((a1.length : Int) > 4096)))=false→((fJ a0 a1)∧(((b5 a0 a1) !=0)=false→(a0.reaches.length≤bg→(okI (kv a0) (sE a0) a0.reaches.length 0 ([],[])∧(∀ s_0,az (kv a0) a0.reaches.length 0 ([],[])= .inr s_0→(a1.length≤bg→(okI (kw a0 a1) (sF a0 a1) a1.length 0 ([],s_0.2,s_0.1)∧(∀ s_1,az (kw a0 a1) a1.length 0 ([],s_0.2,s_0.1)= .inr s_1→(s_1.2.2.length≤bg→okI (od a0 s_1) (sH a0 s_1) s_1.2.2.length 0 s_1.2.2)))))))))))
@[go_sem] def Ka : List SV→Option Con:=(pD .district fun a0=> (pR .order fun a1=> (pE (.det (lE a0 a1) (.tup [.agg (cellsOf .certifyTable ((bp a0 a1).1)),.v (.int .i64 ((bp a0 a1).2))])))))
end Go.Sx
end
section
namespace Go.Sx
open Go.Proofs
set_option maxRecDepth 100000
set_option linter.unusedSimpArgs false
def fN (t : CertifyTable) : List (Int×Int) :=(List.range t.d.hours.toNat).flatMap fun (h : Nat) => (List.range t.d.reaches.length).map fun (r : Nat) => ((h : Int),(r : Int))
end Go.Sx
end
section
namespace Go.Sx
open Go.Proofs
set_option maxRecDepth 100000
set_option linter.unusedSimpArgs false
def oj : List SV→Option Con:=pD .certifyTable fun t=> pE (.det True (.fn 154 [] [.ep (cellsOf .certifyTable t) 0]))
def ol : List SV→Option Con:=pD .certifyTable fun t=> pI fun k=> pE (.det True (.fn 126 [] [.ep (cellsOf .certifyTable t) 0,.ep [.i k] 0]))
def oo : List SV→Option Con:=pD .certifyTable fun t=> pR .claim fun c=> pE (.det True (.fn 128 [] [.ep [.rs .claim c] 0,.ep (cellsOf .certifyTable t) 0]))
attribute [go_sem] oj ol oo
end Go.Sx
end
section
namespace Go.Sx
open Go.Proofs
set_option maxRecDepth 100000
set_option linter.unusedSimpArgs false
def dJ (x : Fault) (l_ : List Fault) : List Fault:=(l_ ++ ([x]))
def c8 (x : Fault) (l_ : List Fault) : Prop:=((l_ ++ ([x])).length * 40≤dY)
@[go_sem] noncomputable def C0 : List SV→List Ob→Option HCon:=fun l h=> hCR .fault (fun l_=> (pD .fault fun x=> ((pQ (.ptr 0 0) (pE (nG (c8 x l_) (.v (.bool true)) [.cells [.os 2],.dead,.row .fault (dJ x l_)]))))) l) h
@[go_sem] def jl (t_ : CertifyTable) (l_ : List Fault) (k_0 : Nat) (s_0 : Unit) : (List Fault)⊕Unit:=(bif (decide (((t_.sums.getD 0 (default : List Int)).getD (Int.toNat (IntKind.i64.wrap ((k_0 : Int) + 1))) (0 : Int)) > t_.d.tank.start)) then .inl (dJ ({ kind:=4,hour:=(k_0 : Int),index:=0,litres:=((t_.sums.getD 0 (default : List Int)).getD (Int.toNat (IntKind.i64.wrap ((k_0 : Int) + 1))) (0 : Int)),limit:=t_.d.tank.start} : Fault) l_) else .inr ())
def nj (t_ : CertifyTable) (l_ : List Fault) (k_0 : Nat) (s_0 : Unit) : Prop:=((0≤0∧0 < (t_.sums.length : Int))∧((0≤(IntKind.i64.wrap ((k_0 : Int) + 1))∧(IntKind.i64.wrap ((k_0 : Int) + 1)) < ((t_.sums.getD 0 (default : List Int)).length : Int))∧((decide (((t_.sums.getD 0 (default : List Int)).getD (Int.toNat (IntKind.i64.wrap ((k_0 : Int) + 1))) (0 : Int)) > t_.d.tank.start))=true→(c8 ({ kind:=4,hour:=(k_0 : Int),index:=0,litres:=((t_.sums.getD 0 (default : List Int)).getD (Int.toNat (IntKind.i64.wrap ((k_0 : Int) + 1))) (0 : Int)),limit:=t_.d.tank.start} : Fault) l_))))
def lF (t_ : CertifyTable) (l_ : List Fault) : List Fault:=(match az (jl t_ l_) (Int.toNat t_.d.hours) 0 () with | .inl x_0_0=> x_0_0 | .inr s_0=> l_)
def j8 (t_ : CertifyTable) (l_ : List Fault) : Prop:=((t_.d.hours < 9223372036854775808)∧okI (jl t_ l_) (nj t_ l_) (Int.toNat t_.d.hours) 0 ())
@[go_sem] noncomputable def Ba : List SV→List Ob→Option HCon:=fun l h=> hCR .fault (fun l_=> (pD .certifyTable fun t_=> ((pQ (.fn 85 [] [.ptr 0 0]) (pE (nG (j8 t_ l_) (.tup []) [.cells [.os 2],.dead,.row .fault (lF t_ l_)]))))) l) h
@[go_sem] def g5 (t_ : CertifyTable) (kind : Int) (k_0 : Nat) (s_0 : List Fault) : Empty⊕(List Fault) :=(bif (t_.l.getD k_0 (default : Order)).outlet then .inr s_0 else (bif (kind==2) then (bif (decide ((t_.l.getD k_0 (default : Order)).litres < (t_.d.reaches.getD (Int.toNat ((t_.l.getD k_0 (default : Order)).index)) (default : Reach)).siphon)) then .inr (dJ ({ kind:=kind,hour:=(t_.l.getD k_0 (default : Order)).hour,index:=(t_.l.getD k_0 (default : Order)).index,litres:=(t_.l.getD k_0 (default : Order)).litres,limit:=(t_.d.reaches.getD (Int.toNat ((t_.l.getD k_0 (default : Order)).index)) (default : Reach)).siphon} : Fault) s_0) else .inr s_0) else (bif (decide ((t_.l.getD k_0 (default : Order)).litres > (t_.d.reaches.getD (Int.toNat ((t_.l.getD k_0 (default : Order)).index)) (default : Reach)).cap)) then .inr (dJ ({ kind:=kind,hour:=(t_.l.getD k_0 (default : Order)).hour,index:=(t_.l.getD k_0 (default : Order)).index,litres:=(t_.l.getD k_0 (default : Order)).litres,limit:=(t_.d.reaches.getD (Int.toNat ((t_.l.getD k_0 (default : Order)).index)) (default : Reach)).cap} : Fault) s_0) else .inr s_0)))
def lG (t_ : CertifyTable) (kind : Int) (k_0 : Nat) (s_0 : List Fault) : Prop:=((t_.l.getD k_0 (default : Order)).outlet=false→((0≤(t_.l.getD k_0 (default : Order)).index∧(t_.l.getD k_0 (default : Order)).index < (t_.d.reaches.length : Int))∧(((kind==2)=true→((0≤(t_.l.getD k_0 (default : Order)).index∧(t_.l.getD k_0 (default : Order)).index < (t_.d.reaches.length : Int))∧(((decide ((t_.l.getD k_0 (default : Order)).litres < (t_.d.reaches.getD (Int.toNat ((t_.l.getD k_0 (default : Order)).index)) (default : Reach)).siphon))=true→(c8 ({ kind:=kind,hour:=(t_.l.getD k_0 (default : Order)).hour,index:=(t_.l.getD k_0 (default : Order)).index,litres:=(t_.l.getD k_0 (default : Order)).litres,limit:=(t_.d.reaches.getD (Int.toNat ((t_.l.getD k_0 (default : Order)).index)) (default : Reach)).siphon} : Fault) s_0))∧((decide ((t_.l.getD k_0 (default : Order)).litres < (t_.d.reaches.getD (Int.toNat ((t_.l.getD k_0 (default : Order)).index)) (default : Reach)).siphon))=false→((decide ((t_.l.getD k_0 (default : Order)).litres < (t_.d.reaches.getD (Int.toNat ((t_.l.getD k_0 (default : Order)).index)) (default : Reach)).siphon))=false)))))∧((kind==2)=false→(((decide ((t_.l.getD k_0 (default : Order)).litres > (t_.d.reaches.getD (Int.toNat ((t_.l.getD k_0 (default : Order)).index)) (default : Reach)).cap))=true→(c8 ({ kind:=kind,hour:=(t_.l.getD k_0 (default : Order)).hour,index:=(t_.l.getD k_0 (default : Order)).index,litres:=(t_.l.getD k_0 (default : Order)).litres,limit:=(t_.d.reaches.getD (Int.toNat ((t_.l.getD k_0 (default : Order)).index)) (default : Reach)).cap} : Fault) s_0))∧((decide ((t_.l.getD k_0 (default : Order)).litres > (t_.d.reaches.getD (Int.toNat ((t_.l.getD k_0 (default : Order)).index)) (default : Reach)).cap))=false→((decide ((t_.l.getD k_0 (default : Order)).litres > (t_.d.reaches.getD (Int.toNat ((t_.l.getD k_0 (default : Order)).index)) (default : Reach)).cap))=false)))))))
def fS (t_ : CertifyTable) (kind : Int) (l_ : List Fault) : List Fault:=(match az (g5 t_ kind) t_.l.length 0 l_ with | .inl x=> x.elim | .inr s_0=> s_0)
def fh (t_ : CertifyTable) (kind : Int) (l_ : List Fault) : Prop:=(t_.l.length≤bg→okI (g5 t_ kind) (lG t_ kind) t_.l.length 0 l_)
@[go_sem] noncomputable def yo : List SV→List Ob→Option HCon:=fun l h=> hCR .fault (fun l_=> (pQ (.fn 85 [] [.ptr 0 0]) ((pX .certifyTable fun t_=> ((pX .int fun kind=> (pE (nG (fh t_ kind l_) (.tup []) [.cells [.os 2],.dead,.row .fault (fS t_ kind l_)]))))))) l) h
@[go_sem] def eT (c_ : List Claim) (k_0 : Nat) (s_0 : List (CertifyPlace×Int)) : Empty⊕(List (CertifyPlace×Int)) := .inr (dn .certifyPlace .int s_0 ({ hour:=(c_.getD k_0 (default : Claim)).hour,index:=(c_.getD k_0 (default : Claim)).farm,outlet:=true} : CertifyPlace) (IntKind.i64.wrap ((aD .certifyPlace .int s_0 ({ hour:=(c_.getD k_0 (default : Claim)).hour,index:=(c_.getD k_0 (default : Claim)).farm,outlet:=true} : CertifyPlace)) + (c_.getD k_0 (default : Claim)).litres)))
@[go_sem] def g6 (t_ : CertifyTable) (s_0 : List (CertifyPlace×Int)) (k_1 : Nat) (k_2 : Nat) (s_2 : List Fault) : Empty⊕(List Fault) :=(bif (decide ((aD .certifyPlace .int t_.litres ({ hour:=(k_1 : Int),index:=(k_2 : Int),outlet:=true} : CertifyPlace)) < (aD .certifyPlace .int s_0 ({ hour:=(k_1 : Int),index:=(k_2 : Int),outlet:=true} : CertifyPlace)))) then .inr (dJ ({ kind:=6,hour:=(k_1 : Int),index:=(k_2 : Int),litres:=(aD .certifyPlace .int t_.litres ({ hour:=(k_1 : Int),index:=(k_2 : Int),outlet:=true} : CertifyPlace)),limit:=(aD .certifyPlace .int s_0 ({ hour:=(k_1 : Int),index:=(k_2 : Int),outlet:=true} : CertifyPlace))} : Fault) s_2) else .inr s_2)
def lH (t_ : CertifyTable) (s_0 : List (CertifyPlace×Int)) (k_1 : Nat) (k_2 : Nat) (s_2 : List Fault) : Prop:=(((decide ((aD .certifyPlace .int t_.litres ({ hour:=(k_1 : Int),index:=(k_2 : Int),outlet:=true} : CertifyPlace)) < (aD .certifyPlace .int s_0 ({ hour:=(k_1 : Int),index:=(k_2 : Int),outlet:=true} : CertifyPlace))))=true→(c8 ({ kind:=6,hour:=(k_1 : Int),index:=(k_2 : Int),litres:=(aD .certifyPlace .int t_.litres ({ hour:=(k_1 : Int),index:=(k_2 : Int),outlet:=true} : CertifyPlace)),limit:=(aD .certifyPlace .int s_0 ({ hour:=(k_1 : Int),index:=(k_2 : Int),outlet:=true} : CertifyPlace))} : Fault) s_2))∧((decide ((aD .certifyPlace .int t_.litres ({ hour:=(k_1 : Int),index:=(k_2 : Int),outlet:=true} : CertifyPlace)) < (aD .certifyPlace .int s_0 ({ hour:=(k_1 : Int),index:=(k_2 : Int),outlet:=true} : CertifyPlace))))=false→((decide ((aD .certifyPlace .int t_.litres ({ hour:=(k_1 : Int),index:=(k_2 : Int),outlet:=true} : CertifyPlace)) < (aD .certifyPlace .int s_0 ({ hour:=(k_1 : Int),index:=(k_2 : Int),outlet:=true} : CertifyPlace))))=false)))
@[go_sem] def g7 (t_ : CertifyTable) (s_0 : List (CertifyPlace×Int)) (k_1 : Nat) (s_1 : List Fault) : Empty⊕(List Fault) :=(match az (g6 t_ s_0 k_1) t_.d.farms.length 0 s_1 with | .inl x=> x.elim | .inr s_2=> .inr s_2)
def lI (t_ : CertifyTable) (s_0 : List (CertifyPlace×Int)) (k_1 : Nat) (s_1 : List Fault) : Prop:=(t_.d.farms.length≤bg→okI (g6 t_ s_0 k_1) (lH t_ s_0 k_1) t_.d.farms.length 0 s_1)
def jm (c_ : List Claim) (t_ : CertifyTable) (l_ : List Fault) : List Fault:=(match az (eT c_) c_.length 0 ([]) with | .inl x=> x.elim | .inr s_0=> (match az (g7 t_ s_0) (Int.toNat t_.d.hours) 0 l_ with | .inl x=> x.elim | .inr s_1=> s_1))
def iz (c_ : List Claim) (t_ : CertifyTable) (l_ : List Fault) : Prop:=(c_.length≤bg→(∀ s_0,az (eT c_) c_.length 0 ([])= .inr s_0→((t_.d.hours < 9223372036854775808)∧okI (g7 t_ s_0) (lI t_ s_0) (Int.toNat t_.d.hours) 0 l_)))
@[go_sem] noncomputable def yp : List SV→List Ob→Option HCon:=fun l h=> hCR .fault (fun l_=> (pQ (.fn 85 [] [.ptr 0 0]) ((pXR .claim fun c_=> ((pX .certifyTable fun t_=> (pE (nG (iz c_ t_ l_) (.tup []) [.cells [.os 2],.dead,.row .fault (jm c_ t_ l_)]))))))) l) h
end Go.Sx
end
section
namespace Go.Sx
open Go.Proofs
set_option maxRecDepth 100000
set_option linter.unusedSimpArgs false
@[go_sem] def iV (t_ : CertifyTable) (z_0 : Int×Int) (s_0 : List Fault) : Empty⊕(List Fault) :=(bif (decide ((IntKind.i64.wrap (((t_.sums.getD (Int.toNat z_0.2) (default : List Int)).getD (Int.toNat (IntKind.i64.wrap (z_0.1 + 1))) (0 : Int)) - ((t_.sums.getD (Int.toNat z_0.2) (default : List Int)).getD (Int.toNat (if 0 < (IntKind.i64.wrap ((IntKind.i64.wrap (z_0.1 + 1)) - (t_.d.reaches.getD (Int.toNat z_0.2) (default : Reach)).delay)) then (IntKind.i64.wrap ((IntKind.i64.wrap (z_0.1 + 1)) - (t_.d.reaches.getD (Int.toNat z_0.2) (default : Reach)).delay)) else 0)) (0 : Int)))) > (t_.d.reaches.getD (Int.toNat z_0.2) (default : Reach)).bank)) then .inr (dJ ({ kind:=3,hour:=z_0.1,index:=z_0.2,litres:=(IntKind.i64.wrap (((t_.sums.getD (Int.toNat z_0.2) (default : List Int)).getD (Int.toNat (IntKind.i64.wrap (z_0.1 + 1))) (0 : Int)) - ((t_.sums.getD (Int.toNat z_0.2) (default : List Int)).getD (Int.toNat (if 0 < (IntKind.i64.wrap ((IntKind.i64.wrap (z_0.1 + 1)) - (t_.d.reaches.getD (Int.toNat z_0.2) (default : Reach)).delay)) then (IntKind.i64.wrap ((IntKind.i64.wrap (z_0.1 + 1)) - (t_.d.reaches.getD (Int.toNat z_0.2) (default : Reach)).delay)) else 0)) (0 : Int)))),limit:=(t_.d.reaches.getD (Int.toNat z_0.2) (default : Reach)).bank} : Fault) s_0) else .inr s_0)
def mt (t_ : CertifyTable) (z_0 : Int×Int) (s_0 : List Fault) : Prop:=((0≤z_0.2∧z_0.2 < (t_.d.reaches.length : Int))∧((0≤z_0.2∧z_0.2 < (t_.sums.length : Int))∧((0≤(IntKind.i64.wrap (z_0.1 + 1))∧(IntKind.i64.wrap (z_0.1 + 1)) < ((t_.sums.getD (Int.toNat z_0.2) (default : List Int)).length : Int))∧((0≤z_0.2∧z_0.2 < (t_.sums.length : Int))∧((0≤(if 0 < (IntKind.i64.wrap ((IntKind.i64.wrap (z_0.1 + 1)) - (t_.d.reaches.getD (Int.toNat z_0.2) (default : Reach)).delay)) then (IntKind.i64.wrap ((IntKind.i64.wrap (z_0.1 + 1)) - (t_.d.reaches.getD (Int.toNat z_0.2) (default : Reach)).delay)) else 0)∧(if 0 < (IntKind.i64.wrap ((IntKind.i64.wrap (z_0.1 + 1)) - (t_.d.reaches.getD (Int.toNat z_0.2) (default : Reach)).delay)) then (IntKind.i64.wrap ((IntKind.i64.wrap (z_0.1 + 1)) - (t_.d.reaches.getD (Int.toNat z_0.2) (default : Reach)).delay)) else 0) < ((t_.sums.getD (Int.toNat z_0.2) (default : List Int)).length : Int))∧(((decide ((IntKind.i64.wrap (((t_.sums.getD (Int.toNat z_0.2) (default : List Int)).getD (Int.toNat (IntKind.i64.wrap (z_0.1 + 1))) (0 : Int)) - ((t_.sums.getD (Int.toNat z_0.2) (default : List Int)).getD (Int.toNat (if 0 < (IntKind.i64.wrap ((IntKind.i64.wrap (z_0.1 + 1)) - (t_.d.reaches.getD (Int.toNat z_0.2) (default : Reach)).delay)) then (IntKind.i64.wrap ((IntKind.i64.wrap (z_0.1 + 1)) - (t_.d.reaches.getD (Int.toNat z_0.2) (default : Reach)).delay)) else 0)) (0 : Int)))) > (t_.d.reaches.getD (Int.toNat z_0.2) (default : Reach)).bank))=true→(c8 ({ kind:=3,hour:=z_0.1,index:=z_0.2,litres:=(IntKind.i64.wrap (((t_.sums.getD (Int.toNat z_0.2) (default : List Int)).getD (Int.toNat (IntKind.i64.wrap (z_0.1 + 1))) (0 : Int)) - ((t_.sums.getD (Int.toNat z_0.2) (default : List Int)).getD (Int.toNat (if 0 < (IntKind.i64.wrap ((IntKind.i64.wrap (z_0.1 + 1)) - (t_.d.reaches.getD (Int.toNat z_0.2) (default : Reach)).delay)) then (IntKind.i64.wrap ((IntKind.i64.wrap (z_0.1 + 1)) - (t_.d.reaches.getD (Int.toNat z_0.2) (default : Reach)).delay)) else 0)) (0 : Int)))),limit:=(t_.d.reaches.getD (Int.toNat z_0.2) (default : Reach)).bank} : Fault) s_0))∧((decide ((IntKind.i64.wrap (((t_.sums.getD (Int.toNat z_0.2) (default : List Int)).getD (Int.toNat (IntKind.i64.wrap (z_0.1 + 1))) (0 : Int)) - ((t_.sums.getD (Int.toNat z_0.2) (default : List Int)).getD (Int.toNat (if 0 < (IntKind.i64.wrap ((IntKind.i64.wrap (z_0.1 + 1)) - (t_.d.reaches.getD (Int.toNat z_0.2) (default : Reach)).delay)) then (IntKind.i64.wrap ((IntKind.i64.wrap (z_0.1 + 1)) - (t_.d.reaches.getD (Int.toNat z_0.2) (default : Reach)).delay)) else 0)) (0 : Int)))) > (t_.d.reaches.getD (Int.toNat z_0.2) (default : Reach)).bank))=false→((decide ((IntKind.i64.wrap (((t_.sums.getD (Int.toNat z_0.2) (default : List Int)).getD (Int.toNat (IntKind.i64.wrap (z_0.1 + 1))) (0 : Int)) - ((t_.sums.getD (Int.toNat z_0.2) (default : List Int)).getD (Int.toNat (if 0 < (IntKind.i64.wrap ((IntKind.i64.wrap (z_0.1 + 1)) - (t_.d.reaches.getD (Int.toNat z_0.2) (default : Reach)).delay)) then (IntKind.i64.wrap ((IntKind.i64.wrap (z_0.1 + 1)) - (t_.d.reaches.getD (Int.toNat z_0.2) (default : Reach)).delay)) else 0)) (0 : Int)))) > (t_.d.reaches.getD (Int.toNat z_0.2) (default : Reach)).bank))=false))))))))
def kE (t_ : CertifyTable) (l_ : List Fault) : List Fault:=(match cq (iV t_) (fN t_) l_ with | .inl x=> x.elim | .inr s_0=> s_0)
def jn (t_ : CertifyTable) (l_ : List Fault) : Prop:=((t_.d.hours < 9223372036854775808)∧okL (iV t_) (mt t_) (fN t_) l_)
@[go_sem] noncomputable def zG : List SV→List Ob→Option HCon:=fun l h=> hCR .fault (fun l_=> (pD .certifyTable fun t_=> ((pQ (.fn 85 [] [.ptr 0 0]) (pE (nG (jn t_ l_) (.tup []) [.cells [.os 2],.dead,.row .fault (kE t_ l_)]))))) l) h
@[go_sem] def iW (t_ : CertifyTable) (z_0 : Int×Int) (s_0 : List Fault) : Empty⊕(List Fault) :=(bif (decide (((t_.drawn.getD (Int.toNat z_0.2) (default : List Int)).getD (Int.toNat z_0.1) (0 : Int)) > (bD t_ z_0.2 z_0.1))) then .inr (dJ ({ kind:=5,hour:=z_0.1,index:=z_0.2,litres:=((t_.drawn.getD (Int.toNat z_0.2) (default : List Int)).getD (Int.toNat z_0.1) (0 : Int)),limit:=(bD t_ z_0.2 z_0.1)} : Fault) s_0) else .inr s_0)
def mu (t_ : CertifyTable) (z_0 : Int×Int) (s_0 : List Fault) : Prop:=((0≤z_0.2∧z_0.2 < (t_.drawn.length : Int))∧((0≤z_0.1∧z_0.1 < ((t_.drawn.getD (Int.toNat z_0.2) (default : List Int)).length : Int))∧((fg t_ z_0.2 z_0.1)∧(((decide (((t_.drawn.getD (Int.toNat z_0.2) (default : List Int)).getD (Int.toNat z_0.1) (0 : Int)) > (bD t_ z_0.2 z_0.1)))=true→(c8 ({ kind:=5,hour:=z_0.1,index:=z_0.2,litres:=((t_.drawn.getD (Int.toNat z_0.2) (default : List Int)).getD (Int.toNat z_0.1) (0 : Int)),limit:=(bD t_ z_0.2 z_0.1)} : Fault) s_0))∧((decide (((t_.drawn.getD (Int.toNat z_0.2) (default : List Int)).getD (Int.toNat z_0.1) (0 : Int)) > (bD t_ z_0.2 z_0.1)))=false→((decide (((t_.drawn.getD (Int.toNat z_0.2) (default : List Int)).getD (Int.toNat z_0.1) (0 : Int)) > (bD t_ z_0.2 z_0.1)))=false))))))
def kF (t_ : CertifyTable) (l_ : List Fault) : List Fault:=(match cq (iW t_) (fN t_) l_ with | .inl x=> x.elim | .inr s_0=> s_0)
def jo (t_ : CertifyTable) (l_ : List Fault) : Prop:=((t_.d.hours < 9223372036854775808)∧okL (iW t_) (mu t_) (fN t_) l_)
@[go_sem] noncomputable def zH : List SV→List Ob→Option HCon:=fun l h=> hCR .fault (fun l_=> (pD .certifyTable fun t_=> ((pQ (.fn 85 [] [.ptr 0 0]) (pE (nG (jo t_ l_) (.tup []) [.cells [.os 2],.dead,.row .fault (kF t_ l_)]))))) l) h
end Go.Sx
end
section
namespace Go.Sx
open Go.Proofs
set_option maxRecDepth 100000
set_option linter.unusedSimpArgs false
@[go_sem] def ml (d : District) (c : List Claim) (l_ : List Order) (k_0 : Nat) (s_0 : List Fault) : Empty⊕(List Fault) :=(bif (Nat.beq k_0 0) then .inr (fS ((bp d l_).1) 1 s_0) else (bif (Nat.beq k_0 1) then .inr (fS ((bp d l_).1) 2 s_0) else (bif (Nat.beq k_0 2) then .inr (kE ((bp d l_).1) s_0) else (bif (Nat.beq k_0 3) then .inr (lF ((bp d l_).1) s_0) else (bif (Nat.beq k_0 4) then .inr (kF ((bp d l_).1) s_0) else .inr (jm c ((bp d l_).1) s_0))))))
def qn (d : District) (c : List Claim) (l_ : List Order) (k_0 : Nat) (s_0 : List Fault) : Prop:=(((Nat.beq k_0 0)=true→(fh ((bp d l_).1) 1 s_0))∧((Nat.beq k_0 0)=false→(((Nat.beq k_0 1)=true→(fh ((bp d l_).1) 2 s_0))∧((Nat.beq k_0 1)=false→(((Nat.beq k_0 2)=true→(jn ((bp d l_).1) s_0))∧((Nat.beq k_0 2)=false→(((Nat.beq k_0 3)=true→(j8 ((bp d l_).1) s_0))∧((Nat.beq k_0 3)=false→(((Nat.beq k_0 4)=true→(jo ((bp d l_).1) s_0))∧((Nat.beq k_0 4)=false→(iz c ((bp d l_).1) s_0)))))))))))
def dq (d : District) (c : List Claim) (l_ : List Order) : List Fault×Int:=(bif ((aZ d c) !=0) then ([],(aZ d c)) else (bif ((bp d l_).2 !=0) then ([],(bp d l_).2) else (match az (ml d c l_) 6 0 ([]) with | .inl x=> x.elim | .inr s_0=> (s_0,0))))
def eA (d : District) (c : List Claim) (l_ : List Order) : Prop:=((gf d c)∧(((aZ d c) !=0)=false→((lE d l_)∧(((bp d l_).2 !=0)=false→okI (ml d c l_) (qn d c l_) 6 0 ([])))))
@[go_sem] def GD : List SV→Option Con:=(pD .district fun d=> (pR .claim fun c=> (pR .order fun l_=> (pE (.det (eA d c l_) (.tup [.nw .fault ((dq d c l_).1),.v (.int .i64 ((dq d c l_).2))]))))))
end Go.Sx
end
section
namespace Go.Sx
open Go.Proofs
set_option maxRecDepth 100000
set_option linter.unusedSimpArgs false
def tG (d : District) : Bool:=((((((decide ((d.reaches.length : Int)≤100)) && (decide ((d.farms.length : Int)≤700))) && (decide ((d.crops.length : Int)≤100))) && (decide ((d.rights.length : Int)≤300))) && (decide ((d.duties.length : Int)≤300))) && (decide ((d.wells.length : Int)≤100)))
@[go_sem] def Qu : List SV→Option Con:=(pD .district fun d=> (pE (.det True (.v (.bool (tG d))))))
def yq (d : District) (l_ : List Order) : Bool:=(bif ((!(tG d)) || ((decide ((l_.length : Int) > 150)) && ((decide ((l_.length : Int)≤4096)) || (decide ((l_.length : Int) > 5000))))) then false else (bif (((decide (d.hours < 1)) || (decide (d.hours > 4096))) || (decide ((d.reaches.length : Int) > 64))) then true else ((decide ((IntKind.i64.wrap ((d.reaches.length : Int) * d.hours))≤200)) || (decide ((IntKind.i64.wrap ((d.reaches.length : Int) * d.hours)) > 1024)))))
@[go_sem] def Qv : List SV→Option Con:=(pD .district fun d=> (pR .order fun l_=> (pE (.det True (.v (.bool (yq d l_)))))))
def oe (d : District) (c : List Claim) : Bool:=((tG d) && ((decide ((c.length : Int)≤300)) || ((decide ((c.length : Int) > 4096)) && (decide ((c.length : Int)≤5000)))))
@[go_sem] def Fu : List SV→Option Con:=(pD .district fun d=> (pR .claim fun c=> (pE (.det True (.v (.bool (oe d c)))))))
def GF (d : District) (c : List Claim) (l_ : List Order) : Bool:=(((yq d l_) && (oe d c)) && ((decide ((d.farms.length : Int)≤20)) || (decide ((d.farms.length : Int) > 600))))
@[go_sem] def Qw : List SV→Option Con:=(pD .district fun d=> (pR .claim fun c=> (pR .order fun l_=> (pE (.det True (.v (.bool (GF d c l_))))))))
@[go_sem] def xq (a : List Fault) (b : List Fault) (k_0 : Nat) (s_0 : Unit) : Unit⊕Unit:=(bif (!(((a.getD k_0 (default : Fault)).kind==(b.getD k_0 (default : Fault)).kind) && (((a.getD k_0 (default : Fault)).hour==(b.getD k_0 (default : Fault)).hour) && (((a.getD k_0 (default : Fault)).index==(b.getD k_0 (default : Fault)).index) && (((a.getD k_0 (default : Fault)).litres==(b.getD k_0 (default : Fault)).litres) && ((a.getD k_0 (default : Fault)).limit==(b.getD k_0 (default : Fault)).limit)))))) then .inl () else .inr ())
def ri (a : List Fault) (b : List Fault) : Bool:=(bif ((a.length : Int) !=(b.length : Int)) then false else (match az (xq a b) a.length 0 () with | .inl x_0_0=> false | .inr s_0=> true))
@[go_sem] def Pf : List SV→Option Con:=(pR .fault fun a=> (pR .fault fun b=> (pE (.det True (.v (.bool (ri a b)))))))
def aP : District:=({ name:=(ByteArray.mk #[]),hours:=9,tank:=({ cap:=50,start:=50} : Tank),reaches:=[({ name:=(ByteArray.mk #[]),up:=(-1),delay:=1,cap:=20,bank:=30,siphon:=0,evap:=({ lo:=0,hi:=1} : Range),seep:=(({ n:=0,d:=1} : Ratio),({ n:=0,d:=1} : Ratio))} : Reach),({ name:=(ByteArray.mk #[]),up:=0,delay:=2,cap:=10,bank:=12,siphon:=4,evap:=({ lo:=0,hi:=2} : Range),seep:=(({ n:=0,d:=1} : Ratio),({ n:=0,d:=1} : Ratio))} : Reach)],farms:=[({ name:=(ByteArray.mk #[]),reach:=0,area:=0,crop:=(-1)} : Farm),({ name:=(ByteArray.mk #[]),reach:=1,area:=0,crop:=(-1)} : Farm)],crops:=[],rights:=[({ name:=(ByteArray.mk #[]),kind:=1,farm:=0,reach:=0,rank:=0,litres:=3,since:=0,to:=8,every:=1,length:=1} : Right),({ name:=(ByteArray.mk #[]),kind:=1,farm:=1,reach:=0,rank:=0,litres:=5,since:=0,to:=8,every:=1,length:=1} : Right)],duties:=[],wells:=[]} : District)
@[go_sem] def GG : List SV→Option Con:=(pE (.det True (.agg [.v (.string ((aP).name)),.v (.int .i64 ((aP).hours)),.v (.int .i64 ((aP).tank.cap)),.v (.int .i64 ((aP).tank.start)),.nw .reach ((aP).reaches),.nw .farm ((aP).farms),.v (.slice none 0 0),.nw .right ((aP).rights),.v (.slice none 0 0),.v (.slice none 0 0)])))
def rj (hour : Int) (reach : Int) (n : Int) : Order:=({ hour:=hour,index:=reach,litres:=n,outlet:=false} : Order)
@[go_sem] def Pg : List SV→Option Con:=(pI fun hour=> (pI fun reach=> (pI fun n=> (pE (.det True (.agg (cellsOf .order (rj hour reach n))))))))
def nN (hour : Int) (farm : Int) (n : Int) : Order:=({ hour:=hour,index:=farm,litres:=n,outlet:=true} : Order)
@[go_sem] def Kb : List SV→Option Con:=(pI fun hour=> (pI fun farm=> (pI fun n=> (pE (.det True (.agg (cellsOf .order (nN hour farm n))))))))
end Go.Sx
end
section
namespace Go.Sx
open Go.Proofs
set_option maxRecDepth 100000
set_option linter.unusedSimpArgs false
def fK (d : District) (c : List Claim) (l_ : List Order) : Bool×Int:=((((dq d c l_).2==0) && ((((dq d c l_).1).length : Int) ==0)),(dq d c l_).2)
def f0 (d : District) (c : List Claim) (l_ : List Order) : Prop:=(eA d c l_)
@[go_sem] def Fv : List SV→Option Con:=(pD .district fun d=> (pR .claim fun c=> (pR .order fun l_=> (pE (.det (f0 d c l_) (.tup [.v (.bool ((fK d c l_).1)),.v (.int .i64 ((fK d c l_).2))]))))))
def iX (d : District) (l_ : List Order) (reach : Int) (hour : Int) : Int×Int:=(bif ((bn d) !=0) then (0,(bn d)) else (bif ((bp d l_).2 !=0) then (0,(bp d l_).2) else (bif ((((decide (reach < 0)) || (decide (reach≥(d.reaches.length : Int)))) || (decide (hour < 0))) || (decide (hour≥d.hours))) then (0,1) else ((bD ((bp d l_).1) reach hour),0))))
def jA (d : District) (l_ : List Order) (reach : Int) (hour : Int) : Prop:=(((bn d) !=0)=false→((lE d l_)∧(((bp d l_).2 !=0)=false→(((((decide (reach < 0)) || (decide (reach≥(d.reaches.length : Int)))) || (decide (hour < 0))) || (decide (hour≥d.hours)))=false→(fg ((bp d l_).1) reach hour)))))
@[go_sem] def GH : List SV→Option Con:=(pD .district fun d=> (pR .order fun l_=> (pI fun reach=> (pI fun hour=> (pE (.det (jA d l_ reach hour) (.tup [.v (.int .i64 ((iX d l_ reach hour).1)),.v (.int .i64 ((iX d l_ reach hour).2))])))))))
def du:=([(rj 2 0 11),(rj 3 1 7),(nN 3 0 3),(nN 5 1 5)])
def gi:=(([]) ++ du)
def lJ:=(gi.getD 0 (default : Order))
def fj:=([({ right:=0,farm:=0,hour:=3,litres:=3,rank:=0} : Claim),({ right:=1,farm:=1,hour:=5,litres:=5,rank:=0} : Claim)])
def pi:=({ name:=(ByteArray.mk #[]),hours:=0,tank:=({ cap:=0,start:=0} : Tank),reaches:=[],farms:=[],crops:=[],rights:=[],duties:=[],wells:=[]} : District)
def dU:=({ name:=aP.name,hours:=aP.hours,tank:=aP.tank,reaches:=aP.reaches,farms:=aP.farms,crops:=[],rights:=aP.rights,duties:=[],wells:=[]} : District)
def pj:=(iX dU du 1 5)
def pl:=(dq dU fj du)
def pm:=(fK dU fj du)
def lK:=(aP.reaches.set 0 ({ name:=(aP.reaches.getD 0 (default : Reach)).name,up:=(aP.reaches.getD 0 (default : Reach)).up,delay:=(aP.reaches.getD 0 (default : Reach)).delay,cap:=9,bank:=(aP.reaches.getD 0 (default : Reach)).bank,siphon:=(aP.reaches.getD 0 (default : Reach)).siphon,evap:=(aP.reaches.getD 0 (default : Reach)).evap,seep:=(aP.reaches.getD 0 (default : Reach)).seep} : Reach))
def eU:=(lK.getD 1 (default : Reach))
def mv:=(gi.set 0 ({ hour:=lJ.hour,index:=lJ.index,litres:=10,outlet:=lJ.outlet} : Order))
def mw:=(mv.getD 1 (default : Order))
def my:=(mv.set 1 ({ hour:=mw.hour,index:=mw.index,litres:=3,outlet:=mw.outlet} : Order))
def mz:=(my.getD 3 (default : Order))
def eu:=({ name:=aP.name,hours:=aP.hours,tank:=({ cap:=aP.tank.cap,start:=10} : Tank),reaches:=(lK.set 1 ({ name:=eU.name,up:=eU.up,delay:=eU.delay,cap:=eU.cap,bank:=6,siphon:=eU.siphon,evap:=eU.evap,seep:=eU.seep} : Reach)),farms:=aP.farms,crops:=[],rights:=aP.rights,duties:=[],wells:=[]} : District)
def qD:=(fK eu ([]) ([]))
def qE:=(dq eu ([]) du)
def qF:=(my.set 3 ({ hour:=mz.hour,index:=mz.index,litres:=4,outlet:=mz.outlet} : Order))
def qG:=(dq dU fj qF)
def C1 : Bool:=(bif (((((((((pm.2 !=0) || (pl.2 !=0)) || (pj.2 !=0)) || (qG.2 !=0)) || (qE.2 !=0)) || (qD.2 !=0)) || ((fK pi ([]) ([])).2 !=191)) || ((iX eu ([]) (-1) 0).2 !=1)) || ((dq eu ([]) ([({ hour:=0,index:=0,litres:=0,outlet:=false} : Order)])).2 !=280)) then false else (((((pm.1 && (((pl.1).length : Int) ==0)) && (pj.1==5)) && (ri (qG.1) ([({ kind:=2,hour:=3,index:=1,litres:=3,limit:=4} : Fault),({ kind:=5,hour:=5,index:=1,litres:=4,limit:=1} : Fault),({ kind:=6,hour:=5,index:=1,litres:=4,limit:=5} : Fault)]))) && (ri (qE.1) ([({ kind:=1,hour:=2,index:=0,litres:=11,limit:=9} : Fault),({ kind:=3,hour:=3,index:=1,litres:=7,limit:=6} : Fault),({ kind:=3,hour:=4,index:=1,litres:=7,limit:=6} : Fault),({ kind:=4,hour:=2,index:=0,litres:=11,limit:=10} : Fault)]))) && qD.1))
def zr : Prop:=((f0 dU fj du)∧((eA dU fj du)∧((jA dU du 1 5)∧((gi.length * 32≤dY)∧(gi.length≤bg→((0≤0∧0 < (gi.length : Int))∧((0≤1∧1 < (mv.length : Int))∧((0≤3∧3 < (my.length : Int))∧((eA dU fj qF)∧((0≤0∧0 < (aP.reaches.length : Int))∧((0≤1∧1 < (lK.length : Int))∧((eA eu ([]) du)∧((f0 eu ([]) ([]))∧((f0 pi ([]) ([]))∧((jA eu ([]) (-1) 0)∧(eA eu ([]) ([({ hour:=0,index:=0,litres:=0,outlet:=false} : Order)])))))))))))))))))
@[go_sem] def Ph : List SV→Option Con:=(pE (.det (zr) (.v (.bool (C1)))))
end Go.Sx
end
section
namespace Go.Sx
open Go.Proofs
theorem V_ {a b : Bool} (h : a=true↔b=true) : a=b:=by cases a <;> cases b <;> simp_all
def Grid (g : List (List Int)) (n m : Nat) : Prop:=g.length=n∧∀ i,i < n→(g.getD i []).length=m
theorem Grid.app {g : List (List Int)} {n m : Nat} {r : List Int} (h : Grid g n m) (hr : r.length=m) : Grid (g ++ [r]) (n + 1) m:=by
 refine ⟨by simp [h.1],fun i hi=> ?_⟩
 by_cases e : i < n
 ·have:=h.2 i e
  simp only [List.getD_eq_getElem?_getD] at this ⊢
  rw [List.getElem?_append_left (by rw [h.1];exact e)]
  exact this
 ·have : i=g.length:=by have:=h.1;omega
  subst this
  simp [hr]
theorem Grid.set {g : List (List Int)} {n m i : Nat} {r : List Int} (h : Grid g n m) (hr : i < n→r.length=m) : Grid (g.set i r) n m:=by
 refine ⟨by simp [h.1],fun j hj=> ?_⟩
 have h0:=h.2 j hj
 simp only [List.getD_eq_getElem?_getD] at h0 ⊢
 rw [List.getElem?_set]
 split
 ·rename_i e
  subst e
  split
  ·simpa using hr hj
  ·rename_i hn;exact absurd (by rw [h.1];exact hj) hn
 ·exact h0
theorem Grid.row {g : List (List Int)} {n m i : Nat} (h : Grid g n m) (hi : i < n) : (g.getD i []).length=m:=h.2 i hi
structure Table1 (d : District) (l : List Order) (t : CertifyTable) : Prop where
 td : t.d=d
 tl : t.l=l
 sums : Grid t.sums d.reaches.length (d.hours + 1).toNat
 drawn : Grid t.drawn d.reaches.length d.hours.toNat
 ords : Orders1 d l
def gF (t : CertifyTable) (kind : Int) (k : Nat) : List Fault:=
 bif (t.l.getD k default).outlet then [] else
 bif kind==2 then
  bif decide ((t.l.getD k default).litres < (t.d.reaches.getD (t.l.getD k default).index.toNat default).siphon) then
   [{ kind:=kind,hour:=(t.l.getD k default).hour,index:=(t.l.getD k default).index,litres:=(t.l.getD k default).litres,limit:=(t.d.reaches.getD (t.l.getD k default).index.toNat default).siphon}] else []
 else
  bif decide ((t.l.getD k default).litres > (t.d.reaches.getD (t.l.getD k default).index.toNat default).cap) then
   [{ kind:=kind,hour:=(t.l.getD k default).hour,index:=(t.l.getD k default).index,litres:=(t.l.getD k default).litres,limit:=(t.d.reaches.getD (t.l.getD k default).index.toNat default).cap}] else []
def Kc (t : CertifyTable) (z : Int×Int) : Int:=
 IntKind.i64.wrap ((t.sums.getD z.2.toNat default).getD (IntKind.i64.wrap (z.1 + 1)).toNat 0 - (t.sums.getD z.2.toNat default).getD (if 0 < IntKind.i64.wrap (IntKind.i64.wrap (z.1 + 1) - (t.d.reaches.getD z.2.toNat default).delay) then IntKind.i64.wrap (IntKind.i64.wrap (z.1 + 1) - (t.d.reaches.getD z.2.toNat default).delay) else 0).toNat 0)
def bF (t : CertifyTable) (z : Int×Int) : List Fault:=
 bif decide (Kc t z > (t.d.reaches.getD z.2.toNat default).bank) then [{ kind:=3,hour:=z.1,index:=z.2,litres:=Kc t z,limit:=(t.d.reaches.getD z.2.toNat default).bank}] else []
def wF (t : CertifyTable) (z : Int×Int) : List Fault:=
 bif decide ((t.drawn.getD z.2.toNat default).getD z.1.toNat 0 > bD t z.2 z.1) then [{ kind:=5,hour:=z.1,index:=z.2,litres:=(t.drawn.getD z.2.toNat default).getD z.1.toNat 0,limit:=bD t z.2 z.1}] else []
def uF (t : CertifyTable) (m : List (CertifyPlace×Int)) (h f : Nat) : List Fault:=
 bif decide (aD Tag.certifyPlace Tag.int t.litres { hour:=(h : Int),index:=(f : Int),outlet:=true} < aD Tag.certifyPlace Tag.int m { hour:=(h : Int),index:=(f : Int),outlet:=true}) then
  [{ kind:=6,hour:=(h : Int),index:=(f : Int),litres:=aD Tag.certifyPlace Tag.int t.litres { hour:=(h : Int),index:=(f : Int),outlet:=true},limit:=aD Tag.certifyPlace Tag.int m { hour:=(h : Int),index:=(f : Int),outlet:=true}}] else []
theorem GI (d : District) (c : List Claim) : gf d c:=fun _ h1 _ _=> qb _ _ _ fun j s h2 h3=> by
 unfold bg at h1
 unfold fZ
 refine ⟨fun h=> ?_,fun h=> ?_,fun _ h=> ?_⟩
 ·simp only [Bool.not_eq_false',Bool.and_eq_true,decide_eq_true_eq] at h
  omega
 ·simp only [Bool.or_eq_false_iff,Bool.not_eq_false',Bool.and_eq_true,decide_eq_true_eq] at h
  omega
 ·simp only [decide_eq_true_eq] at h
  rw [na (by omega) (by omega)];omega
theorem zs (d : District) (c : List Claim) : aZ d c=0↔bn d=0∧c.length≤4096∧∀ k,k < c.length→eb d c k ()= .inr () :=by
 unfold aZ
 cases h1 : (bn d !=0) with
 | true=> simp at h1;simp [h1]
 | false=>
  simp at h1
  simp only [cond_false,h1,true_and]
  cases h2 : decide ((c.length : Int) > 4096) with
  | true=> simp at h2;simp;omega
  | false=>
   simp at h2
   rw [←sq]
   cases h3 : az (eb d c) c.length 0 () with
   | inl y=> simp
   | inr y=> simp;omega
def Ke (c : List Claim) : List (CertifyPlace×Int) :=match az (eT c) c.length 0 [] with | .inl x=> x.elim | .inr m=> m
structure Quiet (t : CertifyTable) (c : List Claim) : Prop where
 gate : ∀ k,k < t.l.length→gF t 1 k=[]
 siph : ∀ k,k < t.l.length→gF t 2 k=[]
 bank : ∀ z∈fN t,bF t z=[]
 tank : ∀ j,j < t.d.hours.toNat→¬ ((t.sums.getD 0 (default : List Int)).getD (IntKind.i64.wrap ((j : Int) + 1)).toNat 0 > t.d.tank.start)
 water : ∀ z∈fN t,wF t z=[]
 unmet : ∀ h,h < t.d.hours.toNat→∀ f,f < t.d.farms.length→uF t (Ke c) h f=[]
def eK (a b : Claim) : Prop:=a.hour < b.hour∨a.hour=b.hour∧(a.rank < b.rank∨a.rank=b.rank∧(a.right < b.right∨a.right=b.right∧a.farm < b.farm))
theorem rk {a b c : Claim} (h1 : eK a b) (h2 : eK b c) : eK a c:=by
 unfold eK at *;omega
theorem So (a b c d : Int) : iS [a,b,c,d]=if a≠0 then a else if b≠0 then b else if c≠0 then c else d:=by
 unfold iS
 simp only [List.length_cons,List.length_nil,Nat.zero_add,Nat.reduceAdd,az,ko,List.getD_cons_zero,List.getD_cons_succ]
 by_cases h1 : a=0 <;> by_cases h2 : b=0 <;> by_cases h3 : c=0 <;> by_cases h4 : d=0 <;> simp [h1,h2,h3,h4,Bool.cond_eq_ite]
theorem GJ (a b : Claim) : gC a b < 0↔eK a b:=by
 unfold gC eK
 rw [So]
 simp only [ix]
 repeat' split
 all_goals (first | omega | skip)
def okC (d : District) (a : Claim) : Bool:=(((((((((decide (a.right≥0)) && (decide (a.right < (d.rights.length : Int)))) && (decide (a.farm≥0))) && (decide (a.farm < (d.farms.length : Int)))) && (decide (a.hour≥0))) && (decide (a.hour < d.hours))) && (decide (a.litres≥1))) && (decide (a.litres≤1073741824)))) && ((d.rights.getD a.right.toNat default).kind==1) && ((d.rights.getD a.right.toNat default).rank==a.rank)
theorem uc {d : District} {c : List Claim} {k : Nat} (hk : k < 4096) : eb d c k ()= .inr ()↔okC d (c.getD k default)=true∧(0 < k→eK (c.getD (k - 1) default) (c.getD k default)) :=by
 have hw : k > 0→(IntKind.i64.wrap ((k : Int) - 1)).toNat=k - 1:=fun h=> by rw [na (by omega) h];simp
 have hb : ∀ X : Bool,((bif X then Sum.inl () else Sum.inr ()) : Unit⊕Unit)= .inr ()↔X=false:=fun X=> by cases X <;> simp
 unfold eb okC
 rw [hb]
 generalize hq : ((((((((decide ((c.getD k default).right≥0)) && (decide ((c.getD k default).right < (d.rights.length : Int)))) && (decide ((c.getD k default).farm≥0))) && (decide ((c.getD k default).farm < (d.farms.length : Int)))) && (decide ((c.getD k default).hour≥0))) && (decide ((c.getD k default).hour < d.hours))) && (decide ((c.getD k default).litres≥1))) && (decide ((c.getD k default).litres≤1073741824)))=q
 clear hq
 by_cases h0 : 0 < k
 ·rw [hw h0,←GJ]
  have hp : decide ((k : Int) > 0)=true:=by simp;omega
  rw [hp]
  simp only [Bool.or_eq_false_iff,Bool.and_eq_true,Bool.not_eq_false',Bool.true_and,bne_eq_false_iff_eq,beq_iff_eq,decide_eq_false_iff_not,h0,true_imp_iff]
  generalize gC (c.getD (k - 1) default) (c.getD k default)=z
  constructor
  ·rintro ⟨⟨⟨h1,h2⟩,h3⟩,h4⟩;exact ⟨⟨⟨h1,h2⟩,h3⟩,by omega⟩
  ·rintro ⟨⟨⟨h1,h2⟩,h3⟩,h4⟩;exact ⟨⟨⟨h1,h2⟩,h3⟩,by omega⟩
 ·have hp : decide ((k : Int) > 0)=false:=by simp;omega
  rw [hp]
  simp only [Bool.or_eq_false_iff,Bool.and_eq_true,Bool.not_eq_false',Bool.false_and,bne_eq_false_iff_eq,beq_iff_eq,h0,false_imp_iff,and_true]
theorem cr (d : District) (c : List Claim) : aZ d c=0↔bn d=0∧c.length≤4096∧(∀ a∈c,okC d a=true)∧c.Pairwise eK:=by
 rw [zs]
 refine and_congr_right fun _=> and_congr_right fun hl=> ?_
 constructor
 ·intro h
  have hs:=fun k hk=> (uc (by omega)).1 (h k hk)
  refine ⟨fun a ha=> ?_,?_⟩
  ·obtain ⟨k,hk,rfl⟩ :=List.getElem_of_mem ha
   have:=(hs k hk).1
   rwa [cD _ _ hk] at this
  ·have key : ∀ (k j : Nat),j < k→k < c.length→eK (c.getD j default) (c.getD k default) :=by
    intro k
    induction k with
    | zero=> intro j h1;omega
    | succ k ih=>
     intro j h1 h2
     have h3:=(hs (k + 1) h2).2 (by omega)
     rw [Nat.add_sub_cancel] at h3
     by_cases e : j=k
     ·subst e;exact h3
     ·exact rk (ih j (by omega) (by omega)) h3
   rw [List.pairwise_iff_getElem]
   intro i j hi hj hij
   have:=key j i hij hj
   rwa [cD _ _ hi,cD _ _ hj] at this
 ·rintro ⟨h1,h2⟩ k hk
  refine (uc (by omega)).2 ⟨?_,fun h0=> ?_⟩
  ·rw [cD _ _ hk];exact h1 _ (List.getElem_mem _)
  ·rw [cD _ _ hk,cD _ _ (by omega : k - 1 < c.length)]
   exact List.pairwise_iff_getElem.1 h2 _ _ _ _ (by omega)
def rl (a : Claim) : CertifyPlace:= { hour:=a.hour,index:=a.farm,outlet:=true}
def dM (p : CertifyPlace) : List Claim→Int
 | [] => 0
 | a :: r=> (if p=rl a then a.litres else 0) + dM p r
theorem Bb (p : CertifyPlace) (a b : List Claim) : dM p (a ++ b)=dM p a + dM p b:=by
 induction a with
 | nil=> simp [dM]
 | cons x r ih=> simp only [List.cons_append,dM,ih];omega
theorem xr (p : CertifyPlace) (c : List Claim) (h : ∀ a∈c,1≤a.litres∧a.litres≤1073741824) : 0≤dM p c∧dM p c≤c.length * 1073741824:=by
 induction c with
 | nil=> simp [dM]
 | cons x r ih=>
  have h1:=ih fun a ha=> h a (List.mem_cons_of_mem _ ha)
  have h2:=h x List.mem_cons_self
  simp only [dM,List.length_cons]
  split <;> omega
theorem wz {d : District} {a : Claim} (h : okC d a=true) : 1≤a.litres∧a.litres≤1073741824:=by
 unfold okC at h
 simp only [Bool.and_eq_true,decide_eq_true_eq] at h
 omega
def cI (reach a b : Int) (x : Order) : Bool:=(!x.outlet && x.index==reach) && decide (x.hour≥a) && decide (x.hour≤b)
def wA (farm hour : Int) (x : Order) : Bool:=(x.outlet && x.index==farm) && x.hour==hour
def cell (g : List (List Int)) (i j : Nat) : Int:=(g.getD i []).getD j 0
def Kf (h i : Int) (o : Bool) (x : Order) : Bool:=(x.hour==h && x.index==i) && x.outlet==o
structure T1 (d : District) (pre : List Order) (s : List (CertifyPlace×Int)×List (List Int)×List (List Int)) : Prop where
 lit : ∀ h i o,aD .certifyPlace .int s.1 { hour:=h,index:=i,outlet:=o} =bV (Kf h i o) pre
 gd : Grid s.2.1 d.reaches.length d.hours.toNat
 gs : Grid s.2.2 d.reaches.length (d.hours + 1).toNat
 drawn : ∀ r h,r < d.reaches.length→h < d.hours.toNat→cell s.2.1 r h=bV (nh d r h) pre
 sums : ∀ r t,r < d.reaches.length→t < (d.hours + 1).toNat→cell s.2.2 r t=bV (cI r ((t : Int) - 1) ((t : Int) - 1)) pre
theorem GK {d : District} {l : List Order} (ho : Orders1 d l) {j : Nat} (hj : j < l.length) {p : Order→Bool} (hp : ∀ x,p x=true→x.hour=l[j].hour∧x.index=l[j].index∧x.outlet=l[j].outlet) : bV p (l.take j)=0:=
 nb fun x hx=> by
  obtain ⟨i,hi,rfl⟩ :=List.getElem_of_mem hx
  rw [List.length_take] at hi
  rw [List.getElem_take]
  cases h : p l[i] with
  | false=> rfl
  | true=>
   obtain ⟨e1,e2,e3⟩ :=hp _ h
   have:=ho.uniq (by omega) hj e1 e2 e3
   omega
theorem Fx {d : District} {l : List Order} (ho : Orders1 d l) (p : Order→Bool) (j : Nat) : 0≤bV p (l.take j)∧bV p (l.take j)≤4398046511104:=by
 have hb:=wl (p:=p) fun a ha=> ho.lit a (List.mem_of_mem_take (i:=j) ha)
 have hl:=ho.len
 have hb3 : (l.take j).length≤4096:=by rw [List.length_take];omega
 omega
theorem Kg {d : District} {l : List Order} (ho : Orders1 d l) (p : Order→Bool) : 0≤bV p l∧bV p l≤4398046511104:=by
 have:=Fx ho p l.length
 rwa [List.take_length] at this
structure Table2 (d : District) (l : List Order) (t : CertifyTable) : Prop where
 lit : ∀ h i o,aD .certifyPlace .int t.litres { hour:=h,index:=i,outlet:=o} =bV (Kf h i o) l
 drawn : ∀ r h,r < d.reaches.length→h < d.hours.toNat→cell t.drawn r h=bV (nh d r h) l
 sums : ∀ r j,r < d.reaches.length→j < (d.hours + 1).toNat→cell t.sums r j=bV (cI r 0 ((j : Int) - 1)) l
structure Sure (d : District) (c : List Claim) (l : List Order) : Prop where
 ho : Orders1 d l
 clen : c.length≤4096
 okc : ∀ a∈c,okC d a=true
 cap : ∀ r h : Nat,r < d.reaches.length→bV (cI r h h) l≤(d.reaches.getD r default).cap
 bank : ∀ r h : Nat,r < d.reaches.length→h < d.hours.toNat→bV (cI r ((h : Int) - (d.reaches.getD r default).delay + 1) h) l≤(d.reaches.getD r default).bank
 tank : ∀ h : Nat,h < d.hours.toNat→bV (cI (0 : Nat) 0 h) l≤d.tank.start
 water : ∀ r h : Nat,r < d.reaches.length→h < d.hours.toNat→bV (nh d r h) l≤(dp (d.reaches.getD r default) (bV (cI r ((h : Int) - (d.reaches.getD r default).delay) ((h : Int) - (d.reaches.getD r default).delay)) l)).1
 unmet : ∀ h f : Nat,h < d.hours.toNat→f < d.farms.length→dM { hour:=(h : Int),index:=(f : Int),outlet:=true} c≤bV (wA f h) l
theorem Kh {d : District} {l : List Order} (ho : Orders1 d l) (r : Int) {a m b : Int} (h1 : a≤m) (h2 : m≤b + 1) : bV (cI r a (m - 1)) l + bV (cI r m b) l=bV (cI r a b) l:=JE fun x _=> by
 unfold cI
 cases (!x.outlet && x.index==r)
 ·simp
 ·simp only [Bool.true_and]
  constructor
  ·refine V_ ?_
   simp only [Bool.or_eq_true,Bool.and_eq_true,decide_eq_true_eq];omega
  ·rw [Bool.eq_false_iff]
   simp only [ne_eq,Bool.and_eq_true,decide_eq_true_eq];omega
end Go.Sx
end
section
namespace Go.Sx
open Go.Proofs
set_option maxRecDepth 100000
set_option linter.unusedSimpArgs false
theorem Bc {p : Prop} (h : p:=by (first | done | (repeat' (first | with_reducible refine And.intro ?_ ?_ | ((with_reducible show _≠_);first | assumption | omega | (simp_all [aG,aM];done) | grind) | with_reducible intro _)) <;> (first | done | exact Empty.elim ‹Empty› | assumption | rfl | omega | decide | exact fk [0] | (simp only [*,cond_true,cond_false,Bool.not_true,Bool.not_false,go_sem,Nat.reduceBEq,Nat.reduceLeDiff,Nat.reduceLT,decide_true,Nat.reduceAdd,Nat.reduceSub,Nat.reduceMul,Int.reduceLE,Int.reduceLT,Int.reduceToNat,Int.reduceNeg,reduceCtorEq];done) | (simp only [*,cond_true,cond_false,Bool.not_true,Bool.not_false,go_sem,Nat.reduceBEq,Nat.reduceLeDiff,Nat.reduceLT,decide_true,Nat.reduceAdd,Nat.reduceSub,Nat.reduceMul,Int.reduceLE,Int.reduceLT,Int.reduceToNat,Int.reduceNeg,reduceCtorEq];(repeat' (first | with_reducible refine And.intro ?_ ?_ | ((with_reducible show _≠_);first | assumption | omega | (simp_all [aG,aM];done) | grind) | with_reducible intro _)) <;> (first | done | assumption | rfl | omega | decide | exact fk [0] | (simp_all [aG,aM];done))) | (simp_all [okI,aG,aM];done) | (simp_all [aG,aM];(first | done | exact fk2 [0])) | exact fk2 [0]))) : p:=h
theorem Bd {p : Prop} (h : p:=by (first | done | (repeat' (first | with_reducible refine And.intro ?_ ?_ | ((with_reducible show _≠_);first | assumption | omega | (simp_all [aG,aM];done) | grind) | with_reducible intro _)) <;> (first | done | exact Empty.elim ‹Empty› | assumption | rfl | omega | decide | exact fk [0,1,5] | exact fk [0,1,2] | (simp only [*,cond_true,cond_false,Bool.not_true,Bool.not_false,go_sem,Nat.reduceBEq,Nat.reduceLeDiff,Nat.reduceLT,decide_true,Nat.reduceAdd,Nat.reduceSub,Nat.reduceMul,Int.reduceLE,Int.reduceLT,Int.reduceToNat,Int.reduceNeg,reduceCtorEq];done) | (simp only [*,cond_true,cond_false,Bool.not_true,Bool.not_false,go_sem,Nat.reduceBEq,Nat.reduceLeDiff,Nat.reduceLT,decide_true,Nat.reduceAdd,Nat.reduceSub,Nat.reduceMul,Int.reduceLE,Int.reduceLT,Int.reduceToNat,Int.reduceNeg,reduceCtorEq];(repeat' (first | with_reducible refine And.intro ?_ ?_ | ((with_reducible show _≠_);first | assumption | omega | (simp_all [aG,aM];done) | grind) | with_reducible intro _)) <;> (first | done | assumption | rfl | omega | decide | exact fk [0,1,5] | exact fk [0,1,2] | (simp_all [aG,aM];done))) | (simp_all [okI,aG,aM];done) | (simp_all [aG,aM];(first | done | exact fk2 [0,1,5] | exact fk2 [0,1,2])) | exact fk2 [0,1,5] | exact fk2 [0,1,2]))) : p:=h
theorem Be {p : Prop} (h : p:=by (first | done | (repeat' (first | with_reducible refine And.intro ?_ ?_ | ((with_reducible show _≠_);first | assumption | omega | (simp_all [aG,aM];done) | grind) | with_reducible intro _)) <;> (first | done | exact Empty.elim ‹Empty› | assumption | rfl | omega | decide | exact fk [] | (simp only [*,cond_true,cond_false,Bool.not_true,Bool.not_false,go_sem,Nat.reduceBEq,Nat.reduceLeDiff,Nat.reduceLT,decide_true,Nat.reduceAdd,Nat.reduceSub,Nat.reduceMul,Int.reduceLE,Int.reduceLT,Int.reduceToNat,Int.reduceNeg,reduceCtorEq];done) | (simp only [*,cond_true,cond_false,Bool.not_true,Bool.not_false,go_sem,Nat.reduceBEq,Nat.reduceLeDiff,Nat.reduceLT,decide_true,Nat.reduceAdd,Nat.reduceSub,Nat.reduceMul,Int.reduceLE,Int.reduceLT,Int.reduceToNat,Int.reduceNeg,reduceCtorEq];(repeat' (first | with_reducible refine And.intro ?_ ?_ | ((with_reducible show _≠_);first | assumption | omega | (simp_all [aG,aM];done) | grind) | with_reducible intro _)) <;> (first | done | assumption | rfl | omega | decide | exact fk [] | (simp_all [aG,aM];done))) | (simp_all [okI,aG,aM];done) | (simp_all [aG,aM];(first | done | exact fk2 [])) | exact fk2 []))) : p:=h
theorem Ki {p : Prop} (h : p:=by simp only [go_sem,Nat.reduceBEq,Nat.reduceLeDiff,Nat.reduceLT,decide_true,Nat.reduceAdd,Nat.reduceSub,Nat.reduceMul,Int.reduceLE,Int.reduceLT,Int.reduceToNat,Int.reduceNeg,reduceCtorEq,hc,hw];all_goals exact Bc) : p:=h
theorem Kj {p : Prop} (h : p:=by simp only [go_sem,Nat.reduceBEq,Nat.reduceLeDiff,Nat.reduceLT,decide_true,Nat.reduceAdd,Nat.reduceSub,Nat.reduceMul,Int.reduceLE,Int.reduceLT,Int.reduceToNat,Int.reduceNeg,reduceCtorEq,hc];all_goals exact Bc) : p:=h
theorem Kk {p : Prop} (h : p:=by simp only [go_sem,Nat.reduceBEq,Nat.reduceLeDiff,Nat.reduceLT,decide_true,Nat.reduceAdd,Nat.reduceSub,Nat.reduceMul,Int.reduceLE,Int.reduceLT,Int.reduceToNat,Int.reduceNeg,reduceCtorEq,hc,hw];all_goals exact Be) : p:=h
theorem Kl {p : Prop} (h : p:=by simp only [go_sem,Nat.reduceBEq,Nat.reduceLeDiff,Nat.reduceLT,decide_true,Nat.reduceAdd,Nat.reduceSub,Nat.reduceMul,Int.reduceLE,Int.reduceLT,Int.reduceToNat,Int.reduceNeg,reduceCtorEq,hc];all_goals exact Be) : p:=h
@[go_sem] def bK (c : List Claim) (k_0 : Nat) (s_0 : List (TimetableSlot×Int)) : Empty⊕(List (TimetableSlot×Int)) := .inr (dn .timetableSlot .int s_0 ({ index:=(c.getD k_0 (default : Claim)).farm,hour:=(c.getD k_0 (default : Claim)).hour} : TimetableSlot) (IntKind.i64.wrap ((aD .timetableSlot .int s_0 ({ index:=(c.getD k_0 (default : Claim)).farm,hour:=(c.getD k_0 (default : Claim)).hour} : TimetableSlot)) + (c.getD k_0 (default : Claim)).litres)))
@[go_sem] def ce (s_0 : List (TimetableSlot×Int)) (k_1 : TimetableSlot×Int) (s_1 : List Order) : Empty⊕(List Order) := .inr (s_1 ++ ([({ hour:=k_1.1.hour,index:=k_1.1.index,litres:=k_1.2,outlet:=true} : Order)]))
def dv (s_0 : List (TimetableSlot×Int)) (k_1 : TimetableSlot×Int) (s_1 : List Order) : Prop:=((s_1 ++ ([({ hour:=k_1.1.hour,index:=k_1.1.index,litres:=k_1.2,outlet:=true} : Order)])).length * 32≤dY)
def ap (c : List Claim) : List Order:=(match az (bK c) c.length 0 ([]) with | .inl x=> x.elim | .inr s_0=> (match cq (ce s_0) s_0 ([]) with | .inl x=> x.elim | .inr s_1=> (srt aq s_1)))
def eZ (c : List Claim) : Prop:=(c.length≤bg→(∀ s_0,az (bK c) c.length 0 ([])= .inr s_0→(∀ L_1,L_1.Perm s_0→(okL (ce s_0) (dv s_0) L_1 ([])∧(∀ s_1,cq (ce s_0) L_1 ([])= .inr s_1→((apart aq s_1)∧((srt aq s_1)=(ap c))))))))
@[go_sem] def gS : List SV→Option Con:=(pR .claim fun c=> (pE (.det (eZ c) (.nw .order (ap c)))))
set_option maxHeartbeats 4000000 in
theorem j9 : FnOk Tryz.prog 63 gS:=by
 have hG : ConsOk Tryz.prog (mkG [] [(97,ik)]) :=aQ cg0 (cgc ub cg0)
 refine qW true mixed aH hG (fn:=Tryz.f63) (c:=an Tryz.f63) (by kernel_rfl) (by kernel_rfl) (by kernel_rfl) (by kernel_rfl) (dl fun c=> (aN (fun hp=> ?_)))
 dsimp only [aT] at hp
 unfold eZ at hp
 refine ⟨Nat.le_of_ble_eq_true rfl,(fun id st=> bif Nat.beq id 0 then some (LCR (ρ:=Empty) (σ:=(List (TimetableSlot×Int))) 1 [] [0] (fun k_0 s_0=> ⟨[(2,.v (.slice none 0 0)),(3,.os 0),(9,.rs .claim c),(10,.v (.int .i64 (c.length : Int))),(11,.v (.int .i64 (k_0 : Int)))],[.mp .timetableSlot .int s_0 none]⟩) (bK c) pT c.length ([]) (c.length≤bg) ((·.elim)) ((·.elim)) st) else bif Nat.beq id 2 then some (LCP (τ:=TimetableSlot×Int) (ρ:=Empty) (σ:=(List Order)) 2 [.slot 2 (.row .order ([]))] [0,1,2] (fun left_1 cur_1 s_1=> ⟨[(2,.os 2),(29,.ptr 1 0)],[.mp .timetableSlot .int (aG (az (bK c) c.length 0 ([]))) none,.mi (some 0) (aG (az (bK c) c.length 0 ([]))).length left_1 cur_1,.row .order s_1]⟩) (ce (aG (az (bK c) c.length 0 ([])))) (dv (aG (az (bK c) c.length 0 ([])))) (aG (az (bK c) c.length 0 ([]))) ([]) ((·.elim)) ((·.elim)) (fun s_1=> ⟨[(2,.os 2)],[.dead,.dead,.row .order s_1]⟩) st) else none),?_,?_⟩
 ·unfold an Tryz.f63
  simp only [aA,true_and,and_true]
  refine ⟨?_,?_⟩
  ·refine db mixed aH hG (by kernel_rfl) (fun _=> rfl) (c.length : Int) rfl kQ (fun hb0 k_0 s_0 hlt0 _ hw hc=> ⟨L0,ay _,?_⟩) (fun hb0 s_0 hc=> ?_)
   ·exact Ki
   ·exact Kj
  ·refine J0 (dm .timetableSlot,dm .int) 1 mixed aH hG (by kernel_rfl) (fun _=> rfl) fun left_1 cur_1 s_1 hp1=> ⟨L0,ay _,?_⟩
   ·by_cases hl1 : left_1=[]
    ·subst hl1
     simp only [go_sem,Nat.reduceBEq,Nat.reduceLeDiff,Nat.reduceLT,decide_true,Nat.reduceAdd,Nat.reduceSub,Nat.reduceMul,Int.reduceLE,Int.reduceLT,Int.reduceToNat,Int.reduceNeg,reduceCtorEq,List.not_mem_nil]
     all_goals exact Bd
    ·simp only [go_sem,Nat.reduceBEq,Nat.reduceLeDiff,Nat.reduceLT,decide_true,Nat.reduceAdd,Nat.reduceSub,Nat.reduceMul,Int.reduceLE,Int.reduceLT,Int.reduceToNat,Int.reduceNeg,reduceCtorEq,hl1]
     intro j hj1
     obtain ⟨hlt1,hq1⟩ :=hp1 j hj1
     unfold dv at hq1
     all_goals exact Bd
 ·unfold an Tryz.f63
  simp only [go_sem,Nat.reduceBEq,Nat.reduceLeDiff,Nat.reduceLT,decide_true,Nat.reduceAdd,Nat.reduceSub,Nat.reduceMul,Int.reduceLE,Int.reduceLT,Int.reduceToNat,Int.reduceNeg,reduceCtorEq]
  all_goals exact clP
@[go_sem] def aW (s_ : List Order) (k_0 : Nat) (s_0 : Unit) : Int⊕Unit:=(bif (iT (s_.getD k_0 (default : Order))) then .inl (k_0 : Int) else .inr ())
def b9 (s_ : List Order) : Int:=(match az (aW s_) s_.length 0 () with | .inl x_0_0=> x_0_0 | .inr s_0=> (-1))
@[go_sem] def dV : List SV→Option Con:=(pR .order fun s_=> (pFn 65 (pE ((pE (.det True (.v (.int .i64 (b9 s_)))))))))
set_option maxHeartbeats 4000000 in
theorem f7 : FnOk Tryz.prog 109 dV:=by
 have hG : ConsOk Tryz.prog (mkG [(65,kC)] []) :=aQ (cgc pc cg0) cg0
 refine a8 [.o] mixed aH hG (fn:=Tryz.f109) (c:=an Tryz.f109) (by kernel_rfl) (by kernel_rfl) (by kernel_rfl) (by kernel_rfl) (dl fun s_=> (iK (aN ((aN (fun hp=> ?_))))))
 dsimp only [aT] at hp
 refine ⟨Nat.le_of_ble_eq_true rfl,(fun id st=> bif Nat.beq id 0 then some (LCR (ρ:=Int) (σ:=Unit) 0 [] [] (fun k_0 s_0=> ⟨[(0,.rs .order s_),(1,.fn 65 [] []),(7,.v (.int .i64 (s_.length : Int))),(8,.v (.int .i64 (k_0 : Int)))],[]⟩) (aW s_) pT s_.length () (s_.length≤bg) (fun _=> .ret) (fun x_0_0=> ⟨[(4,.v (.int .i64 x_0_0))],[]⟩) st) else none),?_,?_⟩
 ·unfold an Tryz.f109
  simp only [aA,true_and,and_true]
  ·refine db mixed aH hG (by kernel_rfl) (fun _=> rfl) (s_.length : Int) rfl kQ (fun hb0 k_0 s_0 hlt0 _ hw hc=> ⟨L0,ay _,?_⟩) (fun hb0 s_0 hc=> ?_)
   ·exact Kk
   ·exact Kl
 ·unfold an Tryz.f109
  try unfold b9
  simp only [go_sem,Nat.reduceBEq,Nat.reduceLeDiff,Nat.reduceLT,decide_true,Nat.reduceAdd,Nat.reduceSub,Nat.reduceMul,Int.reduceLE,Int.reduceLT,Int.reduceToNat,Int.reduceNeg,reduceCtorEq]
  all_goals exact cl
def aK (s_ : List Order) : Bool:=(decide ((b9 s_)≥0))
@[go_sem] def cm : List SV→Option Con:=(pR .order fun s_=> (pFn 65 (pE ((pE (.det True (.v (.bool (aK s_)))))))))
theorem dw : FnOk Tryz.prog 64 cm:=by
 have hG : ConsOk Tryz.prog (mkG [(109,fun l=> dV (c6 [.sl .order,.o] l))] []) :=aQ (cgc (f7.norm [.sl .order,.o]) cg0) cg0
 refine a8 [.o] mixed aH hG (fn:=Tryz.f64) (c:=an Tryz.f64) (by kernel_rfl) (by kernel_rfl) (by kernel_rfl) (by kernel_rfl) (dl fun s_=> (iK (aN ((aN (fun hp=> ?_))))))
 dsimp only [aT] at hp
 refine ⟨Nat.le_of_ble_eq_true rfl,L0,ay _,?_⟩
 ·unfold an Tryz.f64
  try unfold aK
  simp only [go_sem,Nat.reduceBEq,Nat.reduceLeDiff,Nat.reduceLT,decide_true,Nat.reduceAdd,Nat.reduceSub,Nat.reduceMul,Int.reduceLE,Int.reduceLT,Int.reduceToNat,Int.reduceNeg,reduceCtorEq]
  all_goals exact cl
def am (d : District) (c : List Claim) : List Order×Int:=(bif ((aZ d c) !=0) then ([],(aZ d c)) else (bif (decide ((IntKind.i64.wrap ((d.reaches.length : Int) * d.hours)) > 1024)) then ([],2) else (bif (aK (ap c)) then ([],270) else ((ap c),0))))
def dx (d : District) (c : List Claim) : Prop:=((gf d c)∧(((aZ d c) !=0)=false→(d.reaches.length≤bg→((decide ((IntKind.i64.wrap ((d.reaches.length : Int) * d.hours)) > 1024))=false→(eZ c)))))
@[go_sem] def iY : List SV→Option Con:=(pD .district fun d=> (pR .claim fun c=> (pE (.det (dx d c) (.tup [.rs .order ((am d c).1),.v (.int .i64 ((am d c).2))])))))
theorem lL : FnOk Tryz.prog 33 iY:=by
 have hG : ConsOk Tryz.prog (mkG [(24,fun l=> lB (c6 [.st .district,.sl .claim] l)),(63,fun l=> gS (c6 [.sl .claim] l)),(64,fun l=> cm (c6 [.sl .order,.o] l))] []) :=aQ (cgc (n_.norm [.st .district,.sl .claim]) (cgc (j9.norm [.sl .claim]) (cgc (dw.norm [.sl .order,.o]) cg0))) cg0
 refine a8 [.sl .order,.o] mixed aH hG (fn:=Tryz.f33) (c:=an Tryz.f33) (by kernel_rfl) (by kernel_rfl) (by kernel_rfl) (by kernel_rfl) (bI fun d=> (dl fun c=> (aN (fun hp=> ?_))))
 dsimp only [aT] at hp
 unfold dx at hp
 refine ⟨Nat.le_of_ble_eq_true rfl,L0,ay _,?_⟩
 ·unfold an Tryz.f33
  try unfold am
  simp only [go_sem,Nat.reduceBEq,Nat.reduceLeDiff,Nat.reduceLT,decide_true,Nat.reduceAdd,Nat.reduceSub,Nat.reduceMul,Int.reduceLE,Int.reduceLT,Int.reduceToNat,Int.reduceNeg,reduceCtorEq]
  all_goals exact cl
end Go.Sx
end
section
namespace Go.Sx
open Go.Proofs Go.Shelf Go.Sort Go.Lib
def oP (f h : Int) : CertifyPlace:= { hour:=h,index:=f,outlet:=true}
def pn (c : List Claim) (f h : Int) : Int:=dM (oP f h) c
def okL1 (c : List Claim) : Prop:=c.length≤4096∧∀ a∈c,1≤a.litres∧a.litres≤1073741824
theorem GL {c : List Claim} {j : Nat} (hj : j < c.length) (f h : Int) : pn (c.take (j + 1)) f h=pn (c.take j) f h + (if oP f h=rl c[j] then c[j].litres else 0) :=by
 unfold pn
 rw [List.take_succ_eq_append_getElem hj,Bb]
 simp [dM]
theorem Pi {c : List Claim} (h : okL1 c) (f t : Int) : 0≤pn c f t∧pn c f t≤4398046511104:=by
 have h1:=xr (oP f t) c h.2
 have h2:=h.1
 unfold pn
 omega
theorem okL1.take {c : List Claim} (h : okL1 c) (j : Nat) : okL1 (c.take j) :=⟨by rw [List.length_take];have:=h.1;omega,fun a ha=> h.2 a (List.mem_of_mem_take ha)⟩
theorem Km {k : Tag} (m : List (k.T×Int)) (x : k.T) (y : Int) : (dn k .int m x y).length≤m.length + 1:=by
 have:=congrArg List.length (tz m x y)
 rw [List.length_map] at this
 show (oh m x y).length≤_
 rw [this]
 split
 ·rw [List.length_map];omega
 ·simp
theorem Fy {c : List Claim} (h : okL1 c) : ∃ m,az (bK c) c.length 0 []= .inr m∧SM .timetableSlot (fun p=> pn c p.index p.hour) m∧m.length≤c.length:=by
 obtain ⟨m,e,hm,hn⟩ :=zq (step:=bK c) (fun j m=> SM .timetableSlot (fun p=> pn (c.take j) p.index p.hour) m∧m.length≤j) c.length 0 [] ⟨by simpa [pn,dM] using SM.nil,Nat.le_refl _⟩ (fun j m _ hj ⟨hm,hn⟩ => by
  have hj : j < c.length:=by omega
  refine ⟨_,rfl,?_,Nat.le_trans (Km _ _ _) (by omega)⟩
  rw [cD _ _ hj]
  have h1:=Pi (h.take j) c[j].farm c[j].hour
  have h2:=h.2 _ (List.getElem_mem hj)
  have h3:=hm.get ({ index:=c[j].farm,hour:=c[j].hour} : TimetableSlot)
  simp only at h3
  refine hm.put _ (v:=_) ?_ fun p=> ?_
  ·rw [h3,da (by omega) (by omega)];omega
  ·rw [h3,da (by omega) (by omega),GL hj]
   by_cases hp : p=({ index:=c[j].farm,hour:=c[j].hour} : TimetableSlot)
   ·subst hp
    rw [if_pos rfl,if_pos (by rfl)]
   ·rw [if_neg hp,if_neg (fun q=> hp (by
     unfold oP rl at q
     simp only [CertifyPlace.mk.injEq] at q
     obtain ⟨a,b⟩ :=p
     simp only [TimetableSlot.mk.injEq]
     exact ⟨q.2.1,q.1⟩))]
    exact Int.add_zero _)
 rw [Nat.zero_add] at hm hn
 rw [List.take_length] at hm
 exact ⟨m,e,hm,hn⟩
def toO (e : TimetableSlot×Int) : Order:= { hour:=e.1.hour,index:=e.1.index,litres:=e.2,outlet:=true}
theorem sI (m : List (TimetableSlot×Int)) : ∀ (L : List (TimetableSlot×Int)) (s : List Order),cq (ce m) L s= .inr (s ++ L.map toO)
 | [],s=> by simp [cq]
 | x :: L,s=> by
  have e : ce m x s= .inr (s ++ [toO x]) :=rfl
  simp only [cq,e]
  rw [sI m L]
  simp
theorem yr (m : List (TimetableSlot×Int)) : ∀ (L : List (TimetableSlot×Int)) (s : List Order),s.length + L.length≤100000→okL (ce m) (dv m) L s
 | [],s,_=> trivial
 | x :: L,s,h=> by
  have e : ce m x s= .inr (s ++ [toO x]) :=rfl
  rw [List.length_cons] at h
  refine ⟨?_,fun s' hs=> ?_⟩
  ·unfold dv dY
   rw [List.length_append]
   simp only [List.length_cons,List.length_nil]
   omega
  ·rw [e] at hs
   simp only [Sum.inr.injEq] at hs
   subst hs
   exact yr m L _ (by simp;omega)
theorem wB {m : List (TimetableSlot×Int)} (h : (m.map Prod.fst).Nodup) : (m.map toO).Pairwise fun x y=> ¬ K x y:=by
 rw [List.pairwise_map]
 unfold List.Nodup at h
 rw [List.pairwise_map] at h
 refine h.imp fun {a b} q k=> q ?_
 obtain ⟨⟨a1,a2⟩,a3⟩ :=a
 obtain ⟨⟨b1,b2⟩,b3⟩ :=b
 have h1 : a2=b2:=k.1
 have h2 : a1=b1:=k.2.1
 rw [h1,h2]
theorem wC {x y : Order} (hx : x.outlet=true) (hy : y.outlet=true) : Gz x y↔olt x y:=by
 unfold Gz olt m_
 simp [ku,hx,hy]
theorem k9 (l : List Order) : (srt aq l).Perm l:=List.mergeSort_perm _ _
theorem zt {l : List Order} (ho : ∀ x∈l,x.outlet=true) (h : l.Pairwise fun x y=> ¬ K x y) : (srt aq l).Pairwise olt:=by
 have h1 : (srt aq l).Pairwise fun x y=> (!(ltOf aq y x))=true:=by
  refine List.pairwise_mergeSort (fun a b c h1 h2=> ?_) (fun a b=> ?_) l
  ·simp only [Bool.not_eq_true'] at h1 h2 ⊢
   exact dT.ntrans _ _ _ h2 h1
  ·cases q : ltOf aq b a with
   | false=> rfl
   | true=>
    cases q2 : ltOf aq a b with
    | false=> rfl
    | true=> have:=dT.trans _ _ _ q q2;rw [dT.irrefl] at this;cases this
 have h2:=jQ (k9 l) h
 have h3 : ∀ x∈srt aq l,x.outlet=true:=fun x hx=> ho x ((k9 l).mem_iff.1 hx)
 rw [List.pairwise_iff_getElem] at h1 h2 ⊢
 intro i j hi hj hij
 have q1:=h1 i j hi hj hij
 have q2:=h2 i j hi hj hij
 have q3 : ¬ olt (srt aq l)[j] (srt aq l)[i] :=fun q=> by
  have : ltOf aq (srt aq l)[j] (srt aq l)[i]=true:=by
   unfold ltOf;rw [decide_eq_true_eq];exact (nM _ _).2 ((wC (h3 _ (List.getElem_mem _)) (h3 _ (List.getElem_mem _))).2 q)
  rw [this] at q1;cases q1
 exact Classical.byContradiction fun q4=> q2 (uN q4 q3)
theorem Pj {l m : List Order} (ho : ∀ x∈l,x.outlet=true) (h : l.Pairwise fun x y=> ¬ K x y) (hp : m.Perm l) : srt aq m=srt aq l:=by
 have hm : ∀ x∈m,x.outlet=true:=fun x hx=> ho x (hp.mem_iff.1 hx)
 exact List.Perm.eq_of_pairwise (fun a b _ _ h1 h2=> absurd h2 (fun h2=> by unfold olt at h1 h2;omega)) (zt hm (jQ hp h)) (zt ho h) ((k9 m).trans (hp.trans (k9 l).symm))
theorem Sp {l : List Order} (ho : ∀ x∈l,x.outlet=true) (h : l.Pairwise fun x y=> ¬ K x y) : apart aq l:=fun x hx y hy h1 h2=> by
 refine Fo h hx hy (uN (fun q=> ?_) fun q=> ?_)
 ·unfold ltOf at h1;rw [decide_eq_false_iff_not] at h1;exact h1 ((nM _ _).2 ((wC (ho x hx) (ho y hy)).2 q))
 ·unfold ltOf at h2;rw [decide_eq_false_iff_not] at h2;exact h2 ((nM _ _).2 ((wC (ho y hy) (ho x hx)).2 q))
theorem zu (m : List (TimetableSlot×Int)) : ∀ x∈m.map toO,x.outlet=true:=fun x hx=> by
 obtain ⟨e,_,rfl⟩ :=List.mem_map.1 hx
 rfl
theorem wD {p : CertifyPlace} : ∀ {c : List Claim},dM p c≠0→∃ a∈c,p=rl a
 | [],h=> absurd rfl h
 | a :: r,h=> by
  by_cases q : p=rl a
  ·exact ⟨a,List.mem_cons_self,q⟩
  ·simp only [dM,if_neg q,Int.zero_add] at h
   obtain ⟨b,hb,e⟩ :=wD h
   exact ⟨b,List.mem_cons_of_mem _ hb,e⟩
structure Outs (c : List Claim) (o : List Order) : Prop where
 out : ∀ x∈o,x.outlet=true
 asc : o.Pairwise olt
 lit : ∀ x∈o,x.litres=pn c x.index x.hour∧1≤x.litres
 all : ∀ f h,pn c f h≠0→∃ x∈o,x.index=f∧x.hour=h
 src : ∀ x∈o,∃ a∈c,a.farm=x.index∧a.hour=x.hour
 len : o.length≤c.length
theorem outs {c : List Claim} (h : okL1 c) : Outs c (ap c) :=by
 obtain ⟨m,e,hm,hn⟩ :=Fy h
 have e2 : ap c=srt aq (m.map toO) :=by
  unfold ap
  simp only [e,sI,List.nil_append]
 rw [e2]
 have hmem : ∀ x,x∈srt aq (m.map toO)↔∃ q∈m,toO q=x:=fun x=> by rw [(k9 _).mem_iff,List.mem_map]
 have lit : ∀ x∈srt aq (m.map toO),x.litres=pn c x.index x.hour∧1≤x.litres:=fun x hx=> by
  obtain ⟨q,hq,rfl⟩ :=(hmem x).1 hx
  have:=hm.entry hq
  exact ⟨this.1,hm.pos q hq⟩
 refine ⟨fun x hx=> ?_,zt (zu m) (wB hm.nd),lit,fun f t hf=> ?_,fun x hx=> ?_,?_⟩
 ·obtain ⟨q,hq,rfl⟩ :=(hmem x).1 hx;rfl
 ·exact ⟨_,(hmem _).2 ⟨_,hm.mem (p:= { index:=f,hour:=t}) hf,rfl⟩,rfl,rfl⟩
 ·have h1:=lit x hx
  obtain ⟨a,ha,ea⟩ :=wD (p:=oP x.index x.hour) (c:=c) (by show pn c _ _≠0;omega)
  unfold oP rl at ea
  simp only [CertifyPlace.mk.injEq] at ea
  exact ⟨a,ha,ea.2.1.symm,ea.1.symm⟩
 ·rw [(k9 _).length_eq,List.length_map];exact hn
theorem GM {c : List Claim} (h : okL1 c) : eZ c:=by
 intro _ m hm L hL
 obtain ⟨m',e,hm',hn⟩ :=Fy h
 rw [e] at hm
 simp only [Sum.inr.injEq] at hm
 subst hm
 have hlen:=hL.length_eq
 have h1:=h.1
 refine ⟨yr _ L [] (by simp;omega),fun s hs=> ?_⟩
 rw [sI] at hs
 simp only [List.nil_append,Sum.inr.injEq] at hs
 subst hs
 have hp : (L.map toO).Perm (m'.map toO) :=hL.map _
 refine ⟨Sp (zu L) (jQ hp (wB hm'.nd)),?_⟩
 rw [Pj (zu m') (wB hm'.nd) hp]
 unfold ap
 simp only [e,sI,List.nil_append]
end Go.Sx
end
section
namespace Go.Sx
open Go.Proofs
set_option maxRecDepth 100000
set_option linter.unusedSimpArgs false
theorem wE {p : Prop} (h : p:=by (first | done | (repeat' (first | with_reducible refine And.intro ?_ ?_ | ((with_reducible show _≠_);first | assumption | omega | (simp_all [aG,aM];done) | grind) | with_reducible intro _)) <;> (first | done | exact Empty.elim ‹Empty› | assumption | rfl | omega | decide | exact fk [0,1,2] | (refine Or.inr ?_;exact fkY [0,1,2]) | (refine Or.inl ?_;exact fkY [0,1,2]) | (refine Or.inl ⟨rfl,?_⟩;exact fkY [0,1,2]) | (simp only [*,cond_true,cond_false,Bool.not_true,Bool.not_false,go_sem,Nat.reduceBEq,Nat.reduceLeDiff,Nat.reduceLT,decide_true,Nat.reduceAdd,Nat.reduceSub,Nat.reduceMul,Int.reduceLE,Int.reduceLT,Int.reduceToNat,Int.reduceNeg,reduceCtorEq];done) | (simp only [*,cond_true,cond_false,Bool.not_true,Bool.not_false,go_sem,Nat.reduceBEq,Nat.reduceLeDiff,Nat.reduceLT,decide_true,Nat.reduceAdd,Nat.reduceSub,Nat.reduceMul,Int.reduceLE,Int.reduceLT,Int.reduceToNat,Int.reduceNeg,reduceCtorEq];(repeat' (first | with_reducible refine And.intro ?_ ?_ | ((with_reducible show _≠_);first | assumption | omega | (simp_all [aG,aM];done) | grind) | with_reducible intro _)) <;> (first | done | assumption | rfl | omega | decide | exact fk [0,1,2] | (refine Or.inr ?_;exact fkY [0,1,2]) | (refine Or.inl ?_;exact fkY [0,1,2]) | (refine Or.inl ⟨rfl,?_⟩;exact fkY [0,1,2]) | (simp_all [aG,aM];done))) | (exfalso;rename_i h1 h2;rw [h1] at h2;cases h2) | (exfalso;rename_i h1 h2;simp only [h1,Bool.not_false,Bool.not_true,Bool.true_or,Bool.or_true,Bool.false_or,Bool.or_false,reduceCtorEq] at h2;done) | (exfalso;clear hy hG;simp_all;done) | (simp only [*,Sum.inr.injEq,forall_eq',true_implies,forall_const,reduceCtorEq,false_implies,and_true,List.length_append,List.length_cons,List.length_nil,Nat.zero_add,go_sem,Nat.reduceBEq,Nat.reduceLeDiff,Nat.reduceLT,decide_true,Nat.reduceAdd,Nat.reduceSub,Nat.reduceMul,Int.reduceLE,Int.reduceLT,Int.reduceToNat,Int.reduceNeg,reduceCtorEq] at hq2;first | exact hq2.1 | exact hq2.2.1 | exact hq2 | exact hq2.2 | (simp only [hq2];done)) | (simp only [*,Sum.inr.injEq,forall_eq',true_implies,forall_const,reduceCtorEq,false_implies,and_true,List.length_append,List.length_cons,List.length_nil,Nat.zero_add,go_sem,Nat.reduceBEq,Nat.reduceLeDiff,Nat.reduceLT,decide_true,Nat.reduceAdd,Nat.reduceSub,Nat.reduceMul,Int.reduceLE,Int.reduceLT,Int.reduceToNat,Int.reduceNeg,reduceCtorEq] at hq1;first | exact hq1.1 | exact hq1.2.1 | exact hq1 | exact hq1.2 | (simp only [hq1];done)) | (clear hy hG;simp_all only [aG,aM,Sum.inr.injEq,forall_eq',true_implies,forall_const,reduceCtorEq,false_implies,and_true,List.length_append,List.length_cons,List.length_nil,Nat.zero_add,go_sem,Nat.reduceBEq,Nat.reduceLeDiff,Nat.reduceLT,decide_true,Nat.reduceAdd,Nat.reduceSub,Nat.reduceMul,Int.reduceLE,Int.reduceLT,Int.reduceToNat,Int.reduceNeg,reduceCtorEq];done) | (simp_all [okI,aG,aM];done) | (simp_all [aG,aM];(first | done | exact fk2 [0,1,2])) | exact fk2 [0,1,2]))) : p:=h
theorem Bf {p : Prop} (h : p:=by (first | done | (repeat' (first | with_reducible refine And.intro ?_ ?_ | ((with_reducible show _≠_);first | assumption | omega | (simp_all [aG,aM];done) | grind) | with_reducible intro _)) <;> (first | done | exact Empty.elim ‹Empty› | assumption | rfl | omega | decide | exact fk [0,1,2,3] | (refine Or.inr ?_;exact fkY [0,1,2,3]) | (refine Or.inl ?_;exact fkY [0,1,2,3]) | (refine Or.inl ⟨rfl,?_⟩;exact fkY [0,1,2,3]) | (simp only [*,cond_true,cond_false,Bool.not_true,Bool.not_false,go_sem,Nat.reduceBEq,Nat.reduceLeDiff,Nat.reduceLT,decide_true,Nat.reduceAdd,Nat.reduceSub,Nat.reduceMul,Int.reduceLE,Int.reduceLT,Int.reduceToNat,Int.reduceNeg,reduceCtorEq];done) | (simp only [*,cond_true,cond_false,Bool.not_true,Bool.not_false,go_sem,Nat.reduceBEq,Nat.reduceLeDiff,Nat.reduceLT,decide_true,Nat.reduceAdd,Nat.reduceSub,Nat.reduceMul,Int.reduceLE,Int.reduceLT,Int.reduceToNat,Int.reduceNeg,reduceCtorEq];(repeat' (first | with_reducible refine And.intro ?_ ?_ | ((with_reducible show _≠_);first | assumption | omega | (simp_all [aG,aM];done) | grind) | with_reducible intro _)) <;> (first | done | assumption | rfl | omega | decide | exact fk [0,1,2,3] | (refine Or.inr ?_;exact fkY [0,1,2,3]) | (refine Or.inl ?_;exact fkY [0,1,2,3]) | (refine Or.inl ⟨rfl,?_⟩;exact fkY [0,1,2,3]) | (simp_all [aG,aM];done))) | (exfalso;rename_i h1 h2;rw [h1] at h2;cases h2) | (exfalso;rename_i h1 h2;simp only [h1,Bool.not_false,Bool.not_true,Bool.true_or,Bool.or_true,Bool.false_or,Bool.or_false,reduceCtorEq] at h2;done) | (exfalso;clear hy hG;simp_all;done) | (simp only [*,Sum.inr.injEq,forall_eq',true_implies,forall_const,reduceCtorEq,false_implies,and_true,List.length_append,List.length_cons,List.length_nil,Nat.zero_add,go_sem,Nat.reduceBEq,Nat.reduceLeDiff,Nat.reduceLT,decide_true,Nat.reduceAdd,Nat.reduceSub,Nat.reduceMul,Int.reduceLE,Int.reduceLT,Int.reduceToNat,Int.reduceNeg,reduceCtorEq] at hq2;first | exact hq2.1 | exact hq2.2.1 | exact hq2 | exact hq2.2 | (simp only [hq2];done)) | (simp only [*,Sum.inr.injEq,forall_eq',true_implies,forall_const,reduceCtorEq,false_implies,and_true,List.length_append,List.length_cons,List.length_nil,Nat.zero_add,go_sem,Nat.reduceBEq,Nat.reduceLeDiff,Nat.reduceLT,decide_true,Nat.reduceAdd,Nat.reduceSub,Nat.reduceMul,Int.reduceLE,Int.reduceLT,Int.reduceToNat,Int.reduceNeg,reduceCtorEq] at hq1;first | exact hq1.1 | exact hq1.2.1 | exact hq1 | exact hq1.2 | (simp only [hq1];done)) | (clear hy hG;simp_all only [aG,aM,Sum.inr.injEq,forall_eq',true_implies,forall_const,reduceCtorEq,false_implies,and_true,List.length_append,List.length_cons,List.length_nil,Nat.zero_add,go_sem,Nat.reduceBEq,Nat.reduceLeDiff,Nat.reduceLT,decide_true,Nat.reduceAdd,Nat.reduceSub,Nat.reduceMul,Int.reduceLE,Int.reduceLT,Int.reduceToNat,Int.reduceNeg,reduceCtorEq];done) | (simp_all [okI,aG,aM];done) | (simp_all [aG,aM];(first | done | exact fk2 [0,1,2,3])) | exact fk2 [0,1,2,3]))) : p:=h
theorem Bg {p : Prop} (h : p:=by (first | done | (repeat' (first | with_reducible refine And.intro ?_ ?_ | ((with_reducible show _≠_);first | assumption | omega | (simp_all [aG,aM];done) | grind) | with_reducible intro _)) <;> (first | done | exact Empty.elim ‹Empty› | assumption | rfl | omega | decide | exact fk [0] | (refine Or.inr ?_;exact fkY [0]) | (refine Or.inl ?_;exact fkY [0]) | (refine Or.inl ⟨rfl,?_⟩;exact fkY [0]) | (simp only [*,cond_true,cond_false,Bool.not_true,Bool.not_false,go_sem,Nat.reduceBEq,Nat.reduceLeDiff,Nat.reduceLT,decide_true,Nat.reduceAdd,Nat.reduceSub,Nat.reduceMul,Int.reduceLE,Int.reduceLT,Int.reduceToNat,Int.reduceNeg,reduceCtorEq];done) | (simp only [*,cond_true,cond_false,Bool.not_true,Bool.not_false,go_sem,Nat.reduceBEq,Nat.reduceLeDiff,Nat.reduceLT,decide_true,Nat.reduceAdd,Nat.reduceSub,Nat.reduceMul,Int.reduceLE,Int.reduceLT,Int.reduceToNat,Int.reduceNeg,reduceCtorEq];(repeat' (first | with_reducible refine And.intro ?_ ?_ | ((with_reducible show _≠_);first | assumption | omega | (simp_all [aG,aM];done) | grind) | with_reducible intro _)) <;> (first | done | assumption | rfl | omega | decide | exact fk [0] | (refine Or.inr ?_;exact fkY [0]) | (refine Or.inl ?_;exact fkY [0]) | (refine Or.inl ⟨rfl,?_⟩;exact fkY [0]) | (simp_all [aG,aM];done))) | (exfalso;rename_i h1 h2;rw [h1] at h2;cases h2) | (exfalso;rename_i h1 h2;simp only [h1,Bool.not_false,Bool.not_true,Bool.true_or,Bool.or_true,Bool.false_or,Bool.or_false,reduceCtorEq] at h2;done) | (exfalso;clear hy hG;simp_all;done) | (simp only [*,Sum.inr.injEq,forall_eq',true_implies,forall_const,reduceCtorEq,false_implies,and_true,List.length_append,List.length_cons,List.length_nil,Nat.zero_add,go_sem,Nat.reduceBEq,Nat.reduceLeDiff,Nat.reduceLT,decide_true,Nat.reduceAdd,Nat.reduceSub,Nat.reduceMul,Int.reduceLE,Int.reduceLT,Int.reduceToNat,Int.reduceNeg,reduceCtorEq] at hq2;first | exact hq2.1 | exact hq2.2.1 | exact hq2 | exact hq2.2 | (simp only [hq2];done)) | (simp only [*,Sum.inr.injEq,forall_eq',true_implies,forall_const,reduceCtorEq,false_implies,and_true,List.length_append,List.length_cons,List.length_nil,Nat.zero_add,go_sem,Nat.reduceBEq,Nat.reduceLeDiff,Nat.reduceLT,decide_true,Nat.reduceAdd,Nat.reduceSub,Nat.reduceMul,Int.reduceLE,Int.reduceLT,Int.reduceToNat,Int.reduceNeg,reduceCtorEq] at hq1;first | exact hq1.1 | exact hq1.2.1 | exact hq1 | exact hq1.2 | (simp only [hq1];done)) | (clear hy hG;simp_all only [aG,aM,Sum.inr.injEq,forall_eq',true_implies,forall_const,reduceCtorEq,false_implies,and_true,List.length_append,List.length_cons,List.length_nil,Nat.zero_add,go_sem,Nat.reduceBEq,Nat.reduceLeDiff,Nat.reduceLT,decide_true,Nat.reduceAdd,Nat.reduceSub,Nat.reduceMul,Int.reduceLE,Int.reduceLT,Int.reduceToNat,Int.reduceNeg,reduceCtorEq];done) | (simp_all [okI,aG,aM];done) | (simp_all [aG,aM];(first | done | exact fk2 [0])) | exact fk2 [0]))) : p:=h
theorem Bh {p : Prop} (h : p:=by (first | done | (repeat' (first | with_reducible refine And.intro ?_ ?_ | ((with_reducible show _≠_);first | assumption | omega | (simp_all [aG,aM];done) | grind) | with_reducible intro _)) <;> (first | done | exact Empty.elim ‹Empty› | assumption | rfl | omega | decide | exact fk [0,1] | (refine Or.inr ?_;exact fkY [0,1]) | (refine Or.inl ?_;exact fkY [0,1]) | (refine Or.inl ⟨rfl,?_⟩;exact fkY [0,1]) | (simp only [*,cond_true,cond_false,Bool.not_true,Bool.not_false,go_sem,Nat.reduceBEq,Nat.reduceLeDiff,Nat.reduceLT,decide_true,Nat.reduceAdd,Nat.reduceSub,Nat.reduceMul,Int.reduceLE,Int.reduceLT,Int.reduceToNat,Int.reduceNeg,reduceCtorEq];done) | (simp only [*,cond_true,cond_false,Bool.not_true,Bool.not_false,go_sem,Nat.reduceBEq,Nat.reduceLeDiff,Nat.reduceLT,decide_true,Nat.reduceAdd,Nat.reduceSub,Nat.reduceMul,Int.reduceLE,Int.reduceLT,Int.reduceToNat,Int.reduceNeg,reduceCtorEq];(repeat' (first | with_reducible refine And.intro ?_ ?_ | ((with_reducible show _≠_);first | assumption | omega | (simp_all [aG,aM];done) | grind) | with_reducible intro _)) <;> (first | done | assumption | rfl | omega | decide | exact fk [0,1] | (refine Or.inr ?_;exact fkY [0,1]) | (refine Or.inl ?_;exact fkY [0,1]) | (refine Or.inl ⟨rfl,?_⟩;exact fkY [0,1]) | (simp_all [aG,aM];done))) | (exfalso;rename_i h1 h2;rw [h1] at h2;cases h2) | (exfalso;rename_i h1 h2;simp only [h1,Bool.not_false,Bool.not_true,Bool.true_or,Bool.or_true,Bool.false_or,Bool.or_false,reduceCtorEq] at h2;done) | (exfalso;clear hy hG;simp_all;done) | (simp only [*,Sum.inr.injEq,forall_eq',true_implies,forall_const,reduceCtorEq,false_implies,and_true,List.length_append,List.length_cons,List.length_nil,Nat.zero_add,go_sem,Nat.reduceBEq,Nat.reduceLeDiff,Nat.reduceLT,decide_true,Nat.reduceAdd,Nat.reduceSub,Nat.reduceMul,Int.reduceLE,Int.reduceLT,Int.reduceToNat,Int.reduceNeg,reduceCtorEq] at hq2;first | exact hq2.1 | exact hq2.2.1 | exact hq2 | exact hq2.2 | (simp only [hq2];done)) | (simp only [*,Sum.inr.injEq,forall_eq',true_implies,forall_const,reduceCtorEq,false_implies,and_true,List.length_append,List.length_cons,List.length_nil,Nat.zero_add,go_sem,Nat.reduceBEq,Nat.reduceLeDiff,Nat.reduceLT,decide_true,Nat.reduceAdd,Nat.reduceSub,Nat.reduceMul,Int.reduceLE,Int.reduceLT,Int.reduceToNat,Int.reduceNeg,reduceCtorEq] at hq1;first | exact hq1.1 | exact hq1.2.1 | exact hq1 | exact hq1.2 | (simp only [hq1];done)) | (clear hy hG;simp_all only [aG,aM,Sum.inr.injEq,forall_eq',true_implies,forall_const,reduceCtorEq,false_implies,and_true,List.length_append,List.length_cons,List.length_nil,Nat.zero_add,go_sem,Nat.reduceBEq,Nat.reduceLeDiff,Nat.reduceLT,decide_true,Nat.reduceAdd,Nat.reduceSub,Nat.reduceMul,Int.reduceLE,Int.reduceLT,Int.reduceToNat,Int.reduceNeg,reduceCtorEq];done) | (simp_all [okI,aG,aM];done) | (simp_all [aG,aM];(first | done | exact fk2 [0,1])) | exact fk2 [0,1]))) : p:=h
theorem Bi {p : Prop} (h : p:=by simp only [go_sem,Nat.reduceBEq,Nat.reduceLeDiff,Nat.reduceLT,decide_true,Nat.reduceAdd,Nat.reduceSub,Nat.reduceMul,Int.reduceLE,Int.reduceLT,Int.reduceToNat,Int.reduceNeg,reduceCtorEq,hc,hw];all_goals exact wE) : p:=h
theorem Bj {p : Prop} (h : p:=by simp only [go_sem,Nat.reduceBEq,Nat.reduceLeDiff,Nat.reduceLT,decide_true,Nat.reduceAdd,Nat.reduceSub,Nat.reduceMul,Int.reduceLE,Int.reduceLT,Int.reduceToNat,Int.reduceNeg,reduceCtorEq,hc];all_goals exact wE) : p:=h
theorem Kn {p : Prop} (h : p:=by simp only [go_sem,Nat.reduceBEq,Nat.reduceLeDiff,Nat.reduceLT,decide_true,Nat.reduceAdd,Nat.reduceSub,Nat.reduceMul,Int.reduceLE,Int.reduceLT,Int.reduceToNat,Int.reduceNeg,reduceCtorEq];all_goals exact wE) : p:=h
theorem Ko {p : Prop} (h : p:=by simp only [go_sem,Nat.reduceBEq,Nat.reduceLeDiff,Nat.reduceLT,decide_true,Nat.reduceAdd,Nat.reduceSub,Nat.reduceMul,Int.reduceLE,Int.reduceLT,Int.reduceToNat,Int.reduceNeg,reduceCtorEq,hc,hw];all_goals exact Bf) : p:=h
theorem Kp {p : Prop} (h : p:=by simp only [go_sem,Nat.reduceBEq,Nat.reduceLeDiff,Nat.reduceLT,decide_true,Nat.reduceAdd,Nat.reduceSub,Nat.reduceMul,Int.reduceLE,Int.reduceLT,Int.reduceToNat,Int.reduceNeg,reduceCtorEq,hc];all_goals exact Bf) : p:=h
theorem wG {p : Prop} (h : p:=by simp only [go_sem,Nat.reduceBEq,Nat.reduceLeDiff,Nat.reduceLT,decide_true,Nat.reduceAdd,Nat.reduceSub,Nat.reduceMul,Int.reduceLE,Int.reduceLT,Int.reduceToNat,Int.reduceNeg,reduceCtorEq,hc,hw];all_goals exact Bh) : p:=h
theorem wH {p : Prop} (h : p:=by simp only [go_sem,Nat.reduceBEq,Nat.reduceLeDiff,Nat.reduceLT,decide_true,Nat.reduceAdd,Nat.reduceSub,Nat.reduceMul,Int.reduceLE,Int.reduceLT,Int.reduceToNat,Int.reduceNeg,reduceCtorEq,hc];all_goals exact Bh) : p:=h
@[go_sem] def dD (x : Fault) : List SV:=[.agg (cellsOf .fault x)]
@[go_sem] def jB : List SV→Option Con:=(pD .district fun d=> (pR .order fun out=> (pE (.det True (.fn 98 [] [.ep [.rs .order out] 0,.ep (cellsOf .district d) 0])))))
theorem mm : FnOk Tryz.prog 56 jB:=by
 have hG : ConsOk Tryz.prog (mkG [] []) :=aQ cg0 cg0
 refine a8 [.o] mixed aH hG (fn:=Tryz.f56) (c:=an Tryz.f56) (by kernel_rfl) (by kernel_rfl) (by kernel_rfl) (by kernel_rfl) (bI fun d=> (dl fun out=> (aN (fun hp=> ?_))))
 refine ⟨Nat.le_of_ble_eq_true rfl,L0,ay _,?_⟩
 unfold an Tryz.f56
 simp only [go_sem,sA,sB,Nat.reduceBEq,Nat.reduceLeDiff,Nat.reduceAdd,Nat.reduceSub,Nat.reduceMul]
@[go_sem] def cP (out : List Order) (d : District) (k_0 : Nat) (s_0 : List (TimetableSlot×Int)) : Empty⊕(List (TimetableSlot×Int)) := .inr (dn .timetableSlot .int s_0 ({ index:=(d.farms.getD (Int.toNat ((out.getD k_0 (default : Order)).index)) (default : Farm)).reach,hour:=(out.getD k_0 (default : Order)).hour} : TimetableSlot) (IntKind.i64.wrap ((aD .timetableSlot .int s_0 ({ index:=(d.farms.getD (Int.toNat ((out.getD k_0 (default : Order)).index)) (default : Farm)).reach,hour:=(out.getD k_0 (default : Order)).hour} : TimetableSlot)) + (out.getD k_0 (default : Order)).litres)))
def eI (out : List Order) (d : District) (k_0 : Nat) (s_0 : List (TimetableSlot×Int)) : Prop:=(0≤(out.getD k_0 (default : Order)).index∧(out.getD k_0 (default : Order)).index < (d.farms.length : Int))
@[go_sem] def aJ (d : District) (s_1 : List Fault×List (TimetableSlot×Int)×List (TimetableSlot×Bool)×Int) (k_2 : Nat) (s_2 : List (TimetableSlot×Bool)×List Fault×List (TimetableSlot×Int)) : Empty⊕(List (TimetableSlot×Bool)×List Fault×List (TimetableSlot×Int)) :=(bif (aD .timetableSlot .bool s_2.1 ({ index:=s_1.2.2.2,hour:=(k_2 : Int)} : TimetableSlot)) then .inr ((dn .timetableSlot .bool s_2.1 ({ index:=(d.reaches.getD (Int.toNat s_1.2.2.2) (default : Reach)).up,hour:=(IntKind.i64.wrap ((k_2 : Int) - (d.reaches.getD (Int.toNat s_1.2.2.2) (default : Reach)).delay))} : TimetableSlot) true),s_2.2.1,s_2.2.2) else (bif ((aD .timetableSlot .int s_2.2.2 ({ index:=s_1.2.2.2,hour:=(k_2 : Int)} : TimetableSlot)) ==0) then .inr (s_2.1,s_2.2.1,s_2.2.2) else (bif (decide ((aD .timetableSlot .int s_2.2.2 ({ index:=s_1.2.2.2,hour:=(k_2 : Int)} : TimetableSlot))≤1073741824)) then (bif ((!(b4 (d.reaches.getD (Int.toNat s_1.2.2.2) (default : Reach)) (aD .timetableSlot .int s_2.2.2 ({ index:=s_1.2.2.2,hour:=(k_2 : Int)} : TimetableSlot))).2.1) || (decide ((k_2 : Int) < (d.reaches.getD (Int.toNat s_1.2.2.2) (default : Reach)).delay))) then .inr ((dn .timetableSlot .bool s_2.1 ({ index:=(d.reaches.getD (Int.toNat s_1.2.2.2) (default : Reach)).up,hour:=(IntKind.i64.wrap ((k_2 : Int) - (d.reaches.getD (Int.toNat s_1.2.2.2) (default : Reach)).delay))} : TimetableSlot) ((aD .timetableSlot .bool s_2.1 ({ index:=(d.reaches.getD (Int.toNat s_1.2.2.2) (default : Reach)).up,hour:=(IntKind.i64.wrap ((k_2 : Int) - (d.reaches.getD (Int.toNat s_1.2.2.2) (default : Reach)).delay))} : TimetableSlot)) || (!(b4 (d.reaches.getD (Int.toNat s_1.2.2.2) (default : Reach)) (aD .timetableSlot .int s_2.2.2 ({ index:=s_1.2.2.2,hour:=(k_2 : Int)} : TimetableSlot))).2.1))),(s_2.2.1 ++ [({ kind:=7,hour:=(k_2 : Int),index:=s_1.2.2.2,litres:=(aD .timetableSlot .int s_2.2.2 ({ index:=s_1.2.2.2,hour:=(k_2 : Int)} : TimetableSlot)),limit:=0} : Fault)]),s_2.2.2) else .inr (s_2.1,s_2.2.1,(dn .timetableSlot .int s_2.2.2 ({ index:=(d.reaches.getD (Int.toNat s_1.2.2.2) (default : Reach)).up,hour:=(IntKind.i64.wrap ((k_2 : Int) - (d.reaches.getD (Int.toNat s_1.2.2.2) (default : Reach)).delay))} : TimetableSlot) (IntKind.i64.wrap ((aD .timetableSlot .int s_2.2.2 ({ index:=(d.reaches.getD (Int.toNat s_1.2.2.2) (default : Reach)).up,hour:=(IntKind.i64.wrap ((k_2 : Int) - (d.reaches.getD (Int.toNat s_1.2.2.2) (default : Reach)).delay))} : TimetableSlot)) + (if (b4 (d.reaches.getD (Int.toNat s_1.2.2.2) (default : Reach)) (aD .timetableSlot .int s_2.2.2 ({ index:=s_1.2.2.2,hour:=(k_2 : Int)} : TimetableSlot))).1 < (d.reaches.getD (Int.toNat s_1.2.2.2) (default : Reach)).siphon then (d.reaches.getD (Int.toNat s_1.2.2.2) (default : Reach)).siphon else (b4 (d.reaches.getD (Int.toNat s_1.2.2.2) (default : Reach)) (aD .timetableSlot .int s_2.2.2 ({ index:=s_1.2.2.2,hour:=(k_2 : Int)} : TimetableSlot))).1)))))) else (bif ((!(decide ((aD .timetableSlot .int s_2.2.2 ({ index:=s_1.2.2.2,hour:=(k_2 : Int)} : TimetableSlot))≤1073741824))) || (decide ((k_2 : Int) < (d.reaches.getD (Int.toNat s_1.2.2.2) (default : Reach)).delay))) then .inr ((dn .timetableSlot .bool s_2.1 ({ index:=(d.reaches.getD (Int.toNat s_1.2.2.2) (default : Reach)).up,hour:=(IntKind.i64.wrap ((k_2 : Int) - (d.reaches.getD (Int.toNat s_1.2.2.2) (default : Reach)).delay))} : TimetableSlot) ((aD .timetableSlot .bool s_2.1 ({ index:=(d.reaches.getD (Int.toNat s_1.2.2.2) (default : Reach)).up,hour:=(IntKind.i64.wrap ((k_2 : Int) - (d.reaches.getD (Int.toNat s_1.2.2.2) (default : Reach)).delay))} : TimetableSlot)) || (!(decide ((aD .timetableSlot .int s_2.2.2 ({ index:=s_1.2.2.2,hour:=(k_2 : Int)} : TimetableSlot))≤1073741824))))),(s_2.2.1 ++ [({ kind:=7,hour:=(k_2 : Int),index:=s_1.2.2.2,litres:=(aD .timetableSlot .int s_2.2.2 ({ index:=s_1.2.2.2,hour:=(k_2 : Int)} : TimetableSlot)),limit:=0} : Fault)]),s_2.2.2) else .inr (s_2.1,s_2.2.1,(dn .timetableSlot .int s_2.2.2 ({ index:=(d.reaches.getD (Int.toNat s_1.2.2.2) (default : Reach)).up,hour:=(IntKind.i64.wrap ((k_2 : Int) - (d.reaches.getD (Int.toNat s_1.2.2.2) (default : Reach)).delay))} : TimetableSlot) (IntKind.i64.wrap ((aD .timetableSlot .int s_2.2.2 ({ index:=(d.reaches.getD (Int.toNat s_1.2.2.2) (default : Reach)).up,hour:=(IntKind.i64.wrap ((k_2 : Int) - (d.reaches.getD (Int.toNat s_1.2.2.2) (default : Reach)).delay))} : TimetableSlot)) + (if 0 < (d.reaches.getD (Int.toNat s_1.2.2.2) (default : Reach)).siphon then (d.reaches.getD (Int.toNat s_1.2.2.2) (default : Reach)).siphon else 0)))))))))
def dF (d : District) (items_ : List (List SV)) (s_1 : List Fault×List (TimetableSlot×Int)×List (TimetableSlot×Bool)×Int) (k_2 : Nat) (s_2 : List (TimetableSlot×Bool)×List Fault×List (TimetableSlot×Int)) : Prop:=((aD .timetableSlot .bool s_2.1 ({ index:=s_1.2.2.2,hour:=(k_2 : Int)} : TimetableSlot))=false→(((aD .timetableSlot .int s_2.2.2 ({ index:=s_1.2.2.2,hour:=(k_2 : Int)} : TimetableSlot)) ==0)=false→(((decide ((aD .timetableSlot .int s_2.2.2 ({ index:=s_1.2.2.2,hour:=(k_2 : Int)} : TimetableSlot))≤1073741824))=true→((g0 (d.reaches.getD (Int.toNat s_1.2.2.2) (default : Reach)) (aD .timetableSlot .int s_2.2.2 ({ index:=s_1.2.2.2,hour:=(k_2 : Int)} : TimetableSlot)))∧(((!(b4 (d.reaches.getD (Int.toNat s_1.2.2.2) (default : Reach)) (aD .timetableSlot .int s_2.2.2 ({ index:=s_1.2.2.2,hour:=(k_2 : Int)} : TimetableSlot))).2.1) || (decide ((k_2 : Int) < (d.reaches.getD (Int.toNat s_1.2.2.2) (default : Reach)).delay)))=true→(items_[s_2.2.1.length]? =some (dD ({ kind:=7,hour:=(k_2 : Int),index:=s_1.2.2.2,litres:=(aD .timetableSlot .int s_2.2.2 ({ index:=s_1.2.2.2,hour:=(k_2 : Int)} : TimetableSlot)),limit:=0} : Fault))))))∧((decide ((aD .timetableSlot .int s_2.2.2 ({ index:=s_1.2.2.2,hour:=(k_2 : Int)} : TimetableSlot))≤1073741824))=false→(((!(decide ((aD .timetableSlot .int s_2.2.2 ({ index:=s_1.2.2.2,hour:=(k_2 : Int)} : TimetableSlot))≤1073741824))) || (decide ((k_2 : Int) < (d.reaches.getD (Int.toNat s_1.2.2.2) (default : Reach)).delay)))=true→(items_[s_2.2.1.length]? =some (dD ({ kind:=7,hour:=(k_2 : Int),index:=s_1.2.2.2,litres:=(aD .timetableSlot .int s_2.2.2 ({ index:=s_1.2.2.2,hour:=(k_2 : Int)} : TimetableSlot)),limit:=0} : Fault))))))))
@[go_sem] def a_ (d : District) (k_1 : Nat) (s_1 : List Fault×List (TimetableSlot×Int)×List (TimetableSlot×Bool)×Int) : (List Fault)⊕(List Fault×List (TimetableSlot×Int)×List (TimetableSlot×Bool)×Int) :=(bif (decide (s_1.2.2.2≥0)) then (match az (aJ d s_1) (Int.toNat d.hours) 0 (s_1.2.2.1,s_1.1,s_1.2.1) with | .inl x=> x.elim | .inr s_2=> .inr (s_2.2.1,s_2.2.2,s_2.1,(IntKind.i64.wrap (s_1.2.2.2 - 1)))) else .inl s_1.1)
def eJ (d : District) (items_ : List (List SV)) (k_1 : Nat) (s_1 : List Fault×List (TimetableSlot×Int)×List (TimetableSlot×Bool)×Int) : Prop:=((decide (s_1.2.2.2≥0))=true→((0≤s_1.2.2.2∧s_1.2.2.2 < (d.reaches.length : Int))∧((d.hours < 9223372036854775808)∧okI (aJ d s_1) (dF d items_ s_1) (Int.toNat d.hours) 0 (s_1.2.2.1,s_1.1,s_1.2.1))))
def br (out : List Order) (d : District) : List Fault:=(match az (cP out d) out.length 0 ([]) with | .inl x=> x.elim | .inr s_0=> (match az (a_ d) (d.reaches.length + 1) 0 (([] : List Fault),s_0,[],(IntKind.i64.wrap ((d.reaches.length : Int) - 1))) with | .inl x_1_0=> x_1_0 | .inr s_1=> default))
def eB (out : List Order) (d : District) (items_ : List (List SV)) : Prop:=(out.length≤bg→(okI (cP out d) (eI out d) out.length 0 ([])∧(∀ s_0,az (cP out d) out.length 0 ([])= .inr s_0→(d.reaches.length≤bg→(okI (a_ d) (eJ d items_) (d.reaches.length + 1) 0 (([] : List Fault),s_0,[],(IntKind.i64.wrap ((d.reaches.length : Int) - 1)))∧(∀ z_,az (a_ d) (d.reaches.length + 1) 0 (([] : List Fault),s_0,[],(IntKind.i64.wrap ((d.reaches.length : Int) - 1)))≠ .inr z_)∧(∀ x_1_0,az (a_ d) (d.reaches.length + 1) 0 (([] : List Fault),s_0,[],(IntKind.i64.wrap ((d.reaches.length : Int) - 1)))= .inl x_1_0→(items_.length=x_1_0.length)))))))
set_option maxHeartbeats 4000000 in
theorem qo (out : List Order) (d : District) (items_ : List (List SV)) (hp : eB out d items_) : xg Tryz.prog 98 (fun y=> [y,.ep [.rs .order out] 0,.ep (cellsOf .district d) 0]) [] items_:=by
 unfold eB at hp
 refine CW mixed aH (fn:=Tryz.f98) (c:=an Tryz.f98) (by kernel_rfl) (by kernel_rfl) (by kernel_rfl) (by kernel_rfl) rfl (n:=0) rfl (G:=fun r_=> uo [(99,jO)] [] (A2 items_ r_)) (fun r_ hy=> ?_) (fun args w=> by kernel_rfl)
 have hG : ConsOk Tryz.prog (uo [(99,jO)] [] (A2 items_ r_)) :=r9 (cgc o6 cg0) cg0 hy
 refine ⟨hG,Nat.le_of_ble_eq_true rfl,(fun id st=> bif Nat.beq id 0 then some (LCR (ρ:=Empty) (σ:=(List (TimetableSlot×Int))) 3 [] [0,1,2] (fun k_0 s_0=> ⟨[(0,.os 0),(2,.ep (cellsOf .district d) 0),(4,.os 1),(5,.os 2),(18,.rs .order out),(19,.v (.int .i64 (out.length : Int))),(20,.v (.int .i64 (k_0 : Int)))],[.ab (r_.1 (([] : List Fault).length + 1)),.mp .timetableSlot .int s_0 none,.mp .timetableSlot .bool ([]) none]⟩) (cP out d) (eI out d) out.length ([]) (out.length≤bg) ((·.elim)) ((·.elim)) st) else bif Nat.beq id 2 then some (Sh (ρ:=(List Fault)) (σ:=(List Fault×List (TimetableSlot×Int)×List (TimetableSlot×Bool)×Int)) 3 [] [0,1,2] (fun k_1 s_1=> ⟨[(0,.os 0),(2,.ep (cellsOf .district d) 0),(4,.os 1),(5,.os 2),(8,.v (.int .i64 s_1.2.2.2))],[.ab (r_.1 (s_1.1.length + 1)),.mp .timetableSlot .int s_1.2.1 none,.mp .timetableSlot .bool s_1.2.2.1 none]⟩) (a_ d) (eJ d items_) (d.reaches.length + 1) (([] : List Fault),(aG (az (cP out d) out.length 0 ([]))),[],(IntKind.i64.wrap ((d.reaches.length : Int) - 1))) (fun _=> .normal) (fun x_1_0=> ⟨[],[.ab (r_.1 (x_1_0.length + 1)),.dead,.dead]⟩) ⟨[],[.ab (r_.1 0),.dead,.dead]⟩ st) else none),?_,?_⟩
 ·unfold an Tryz.f98
  simp only [aA,true_and,and_true]
  refine ⟨?_,?_⟩
  ·refine db mixed aH hG (by kernel_rfl) (fun _=> rfl) (out.length : Int) rfl kQ (fun hb0 k_0 s_0 hlt0 hq0 hw hc=> ⟨L0,ay _,?_⟩) (fun hb0 s_0 hc=> ?_)
   ·unfold eI at hq0
    try simp only [hw,Int.toNat_natCast] at hq0
    exact Bi
   ·exact Bj
  ·refine GB mixed aH hG (by kernel_rfl) (fun _=> rfl) fun k_1 s_1 hq1=> ⟨(fun id st=> bif Nat.beq id 4 then some (LCY (ρ:=Empty) (σ:=(List (TimetableSlot×Bool)×List Fault×List (TimetableSlot×Int))) 4 [] [0,1,2,3] (fun k_2 s_2=> ⟨[(0,.os 0),(2,.ep (cellsOf .district d) 0),(4,.os 1),(5,.os 2),(8,.v (.int .i64 s_1.2.2.2)),(9,.ptr 3 0),(56,.v (.int .i64 d.hours)),(57,.v (.int .i64 (k_2 : Int)))],[.ab (r_.1 (s_2.2.1.length + 1)),.mp .timetableSlot .int s_2.2.2 none,.mp .timetableSlot .bool s_2.1 none,.cells (cellsOf .reach (d.reaches.getD (Int.toNat s_1.2.2.2) (default : Reach)))]⟩) (aJ d s_1) (dF d items_ s_1) (Int.toNat d.hours) (s_1.2.2.1,s_1.1,s_1.2.1) (d.hours < 9223372036854775808) ((·.elim)) ((·.elim)) ⟨[],[.ab (r_.1 0),.dead,.dead,.dead]⟩ st) else none),?_,?_⟩
   ·simp only [aA,true_and,and_true]
    ·refine sw mixed aH hG (by kernel_rfl) (fun _=> rfl) d.hours rfl id (fun hb2 k_2 s_2 hlt2 hq2 hw hc=> ⟨L0,ay _,?_⟩) (fun hb2 s_2 hc=> ?_)
     ·unfold dF at hq2
      try simp only [hw,Int.toNat_natCast] at hq2
      exact Ko
     ·exact Kp
   ·unfold eJ at hq1
    exact Kn
 ·unfold an Tryz.f98
  simp only [go_sem,Nat.reduceBEq,Nat.reduceLeDiff,Nat.reduceLT,decide_true,Nat.reduceAdd,Nat.reduceSub,Nat.reduceMul,Int.reduceLE,Int.reduceLT,Int.reduceToNat,Int.reduceNeg,reduceCtorEq]
  all_goals exact Bg
@[go_sem] def il : List SV→Option Con:=(pD .district fun d=> (pR .order fun l_=> (pE (.det True (.fn 100 [] [.ep [.rs .order l_] 0,.ep (cellsOf .district d) 0])))))
theorem kG : FnOk Tryz.prog 57 il:=by
 have hG : ConsOk Tryz.prog (mkG [] []) :=aQ cg0 cg0
 refine a8 [.o] mixed aH hG (fn:=Tryz.f57) (c:=an Tryz.f57) (by kernel_rfl) (by kernel_rfl) (by kernel_rfl) (by kernel_rfl) (bI fun d=> (dl fun l_=> (aN (fun hp=> ?_))))
 refine ⟨Nat.le_of_ble_eq_true rfl,L0,ay _,?_⟩
 unfold an Tryz.f57
 simp only [go_sem,sA,sB,Nat.reduceBEq,Nat.reduceLeDiff,Nat.reduceAdd,Nat.reduceSub,Nat.reduceMul]
@[go_sem] def aO (l_ : List Order) (k_0 : Nat) (s_0 : List (TimetableSlot×Int)×Int) : Empty⊕(List (TimetableSlot×Int)×Int) :=(bif (!(l_.getD k_0 (default : Order)).outlet) then (bif ((l_.getD k_0 (default : Order)).index==0) then .inr ((dn .timetableSlot .int s_0.1 ({ index:=(l_.getD k_0 (default : Order)).index,hour:=(l_.getD k_0 (default : Order)).hour} : TimetableSlot) ((l_.getD k_0 (default : Order)).litres)),(IntKind.i64.wrap (s_0.2 + (l_.getD k_0 (default : Order)).litres))) else .inr ((dn .timetableSlot .int s_0.1 ({ index:=(l_.getD k_0 (default : Order)).index,hour:=(l_.getD k_0 (default : Order)).hour} : TimetableSlot) ((l_.getD k_0 (default : Order)).litres)),s_0.2)) else .inr (s_0.1,s_0.2))
@[go_sem] def dG (d : District) (s_0 : List (TimetableSlot×Int)×Int) (k_1 : Nat) (k_2 : Nat) (k_3 : Nat) (s_3 : Int) : Empty⊕Int:= .inr (IntKind.i64.wrap (s_3 + (aD .timetableSlot .int s_0.1 ({ index:=(k_2 : Int),hour:=(IntKind.i64.wrap ((k_1 : Int) - (k_3 : Int)))} : TimetableSlot))))
@[go_sem] def cT (d : District) (s_0 : List (TimetableSlot×Int)×Int) (k_1 : Nat) (k_2 : Nat) (s_2 : List Fault) : Empty⊕(List Fault) :=(match az (dG d s_0 k_1 k_2) (Int.toNat ((d.reaches.getD k_2 (default : Reach)).delay)) 0 0 with | .inl x=> x.elim | .inr s_3=> (bif (decide ((aD .timetableSlot .int s_0.1 ({ index:=(k_2 : Int),hour:=(k_1 : Int)} : TimetableSlot)) > (d.reaches.getD k_2 (default : Reach)).cap)) then (bif (decide (s_3 > (d.reaches.getD k_2 (default : Reach)).bank)) then .inr ((s_2 ++ [({ kind:=1,hour:=(k_1 : Int),index:=(k_2 : Int),litres:=(aD .timetableSlot .int s_0.1 ({ index:=(k_2 : Int),hour:=(k_1 : Int)} : TimetableSlot)),limit:=(d.reaches.getD k_2 (default : Reach)).cap} : Fault)]) ++ [({ kind:=3,hour:=(k_1 : Int),index:=(k_2 : Int),litres:=s_3,limit:=(d.reaches.getD k_2 (default : Reach)).bank} : Fault)]) else .inr (s_2 ++ [({ kind:=1,hour:=(k_1 : Int),index:=(k_2 : Int),litres:=(aD .timetableSlot .int s_0.1 ({ index:=(k_2 : Int),hour:=(k_1 : Int)} : TimetableSlot)),limit:=(d.reaches.getD k_2 (default : Reach)).cap} : Fault)])) else (bif (decide (s_3 > (d.reaches.getD k_2 (default : Reach)).bank)) then .inr (s_2 ++ [({ kind:=3,hour:=(k_1 : Int),index:=(k_2 : Int),litres:=s_3,limit:=(d.reaches.getD k_2 (default : Reach)).bank} : Fault)]) else .inr s_2)))
def d5 (d : District) (items_ : List (List SV)) (s_0 : List (TimetableSlot×Int)×Int) (k_1 : Nat) (k_2 : Nat) (s_2 : List Fault) : Prop:=(((d.reaches.getD k_2 (default : Reach)).delay < 9223372036854775808)∧(∀ s_3,az (dG d s_0 k_1 k_2) (Int.toNat ((d.reaches.getD k_2 (default : Reach)).delay)) 0 0= .inr s_3→(((decide ((aD .timetableSlot .int s_0.1 ({ index:=(k_2 : Int),hour:=(k_1 : Int)} : TimetableSlot)) > (d.reaches.getD k_2 (default : Reach)).cap))=true→((items_[s_2.length]? =some (dD ({ kind:=1,hour:=(k_1 : Int),index:=(k_2 : Int),litres:=(aD .timetableSlot .int s_0.1 ({ index:=(k_2 : Int),hour:=(k_1 : Int)} : TimetableSlot)),limit:=(d.reaches.getD k_2 (default : Reach)).cap} : Fault)))∧(((decide (s_3 > (d.reaches.getD k_2 (default : Reach)).bank))=true→(items_[(s_2 ++ [({ kind:=1,hour:=(k_1 : Int),index:=(k_2 : Int),litres:=(aD .timetableSlot .int s_0.1 ({ index:=(k_2 : Int),hour:=(k_1 : Int)} : TimetableSlot)),limit:=(d.reaches.getD k_2 (default : Reach)).cap} : Fault)]).length]? =some (dD ({ kind:=3,hour:=(k_1 : Int),index:=(k_2 : Int),litres:=s_3,limit:=(d.reaches.getD k_2 (default : Reach)).bank} : Fault))))∧((decide (s_3 > (d.reaches.getD k_2 (default : Reach)).bank))=false→((decide (s_3 > (d.reaches.getD k_2 (default : Reach)).bank))=false)))))∧((decide ((aD .timetableSlot .int s_0.1 ({ index:=(k_2 : Int),hour:=(k_1 : Int)} : TimetableSlot)) > (d.reaches.getD k_2 (default : Reach)).cap))=false→(((decide ((aD .timetableSlot .int s_0.1 ({ index:=(k_2 : Int),hour:=(k_1 : Int)} : TimetableSlot)) > (d.reaches.getD k_2 (default : Reach)).cap))=false)∧(((decide (s_3 > (d.reaches.getD k_2 (default : Reach)).bank))=true→(items_[s_2.length]? =some (dD ({ kind:=3,hour:=(k_1 : Int),index:=(k_2 : Int),litres:=s_3,limit:=(d.reaches.getD k_2 (default : Reach)).bank} : Fault))))∧((decide (s_3 > (d.reaches.getD k_2 (default : Reach)).bank))=false→((decide (s_3 > (d.reaches.getD k_2 (default : Reach)).bank))=false))))))))
@[go_sem] def ct (d : District) (s_0 : List (TimetableSlot×Int)×Int) (k_1 : Nat) (s_1 : List Fault) : Empty⊕(List Fault) :=(match az (cT d s_0 k_1) d.reaches.length 0 s_1 with | .inl x=> x.elim | .inr s_2=> .inr s_2)
def d6 (d : District) (items_ : List (List SV)) (s_0 : List (TimetableSlot×Int)×Int) (k_1 : Nat) (s_1 : List Fault) : Prop:=(d.reaches.length≤bg→okI (cT d s_0 k_1) (d5 d items_ s_0 k_1) d.reaches.length 0 s_1)
def bt (l_ : List Order) (d : District) : List Fault:=(match az (aO l_) l_.length 0 ([],0) with | .inl x=> x.elim | .inr s_0=> (match az (ct d s_0) (Int.toNat d.hours) 0 ([] : List Fault) with | .inl x=> x.elim | .inr s_1=> (bif (decide (s_0.2 > d.tank.start)) then (s_1 ++ [({ kind:=4,hour:=0,index:=0,litres:=s_0.2,limit:=d.tank.start} : Fault)]) else s_1)))
def df (l_ : List Order) (d : District) (items_ : List (List SV)) : Prop:=(l_.length≤bg→(∀ s_0,az (aO l_) l_.length 0 ([],0)= .inr s_0→((d.hours < 9223372036854775808)∧okI (ct d s_0) (d6 d items_ s_0) (Int.toNat d.hours) 0 ([] : List Fault)∧(∀ s_1,az (ct d s_0) (Int.toNat d.hours) 0 ([] : List Fault)= .inr s_1→(((decide (s_0.2 > d.tank.start))=true→((items_[s_1.length]? =some (dD ({ kind:=4,hour:=0,index:=0,litres:=s_0.2,limit:=d.tank.start} : Fault)))∧(items_.length=(s_1 ++ [({ kind:=4,hour:=0,index:=0,litres:=s_0.2,limit:=d.tank.start} : Fault)]).length)))∧((decide (s_0.2 > d.tank.start))=false→(items_.length=s_1.length)))))))
set_option maxHeartbeats 4000000 in
theorem jp (l_ : List Order) (d : District) (items_ : List (List SV)) (hp : df l_ d items_) : xg Tryz.prog 100 (fun y=> [y,.ep [.rs .order l_] 0,.ep (cellsOf .district d) 0]) [] items_:=by
 unfold df at hp
 refine CW mixed aH (fn:=Tryz.f100) (c:=an Tryz.f100) (by kernel_rfl) (by kernel_rfl) (by kernel_rfl) (by kernel_rfl) rfl (n:=0) rfl (G:=fun r_=> uo [] [] (A2 items_ r_)) (fun r_ hy=> ?_) (fun args w=> by kernel_rfl)
 have hG : ConsOk Tryz.prog (uo [] [] (A2 items_ r_)) :=r9 cg0 cg0 hy
 refine ⟨hG,Nat.le_of_ble_eq_true rfl,(fun id st=> bif Nat.beq id 0 then some (LCR (ρ:=Empty) (σ:=(List (TimetableSlot×Int)×Int)) 2 [] [0,1] (fun k_0 s_0=> ⟨[(0,.os 0),(2,.ep (cellsOf .district d) 0),(4,.os 1),(5,.v (.int .i64 s_0.2)),(15,.rs .order l_),(16,.v (.int .i64 (l_.length : Int))),(17,.v (.int .i64 (k_0 : Int)))],[.ab (r_.1 (([] : List Fault).length + 1)),.mp .timetableSlot .int s_0.1 none]⟩) (aO l_) pT l_.length ([],0) (l_.length≤bg) ((·.elim)) ((·.elim)) st) else bif Nat.beq id 2 then some (LCY (ρ:=Empty) (σ:=(List Fault)) 2 [] [0,1] (fun k_1 s_1=> ⟨[(0,.os 0),(2,.ep (cellsOf .district d) 0),(4,.os 1),(5,.v (.int .i64 (aG (az (aO l_) l_.length 0 ([],0))).2)),(41,.v (.int .i64 d.hours)),(42,.v (.int .i64 (k_1 : Int)))],[.ab (r_.1 (s_1.length + 1)),.mp .timetableSlot .int (aG (az (aO l_) l_.length 0 ([],0))).1 none]⟩) (ct d (aG (az (aO l_) l_.length 0 ([],0)))) (d6 d items_ (aG (az (aO l_) l_.length 0 ([],0)))) (Int.toNat d.hours) ([] : List Fault) (d.hours < 9223372036854775808) ((·.elim)) ((·.elim)) ⟨[],[.ab (r_.1 0),.dead]⟩ st) else none),?_,?_⟩
 ·unfold an Tryz.f100
  simp only [aA,true_and,and_true]
  refine ⟨?_,?_⟩
  ·refine db mixed aH hG (by kernel_rfl) (fun _=> rfl) (l_.length : Int) rfl kQ (fun hb0 k_0 s_0 hlt0 _ hw hc=> ⟨L0,ay _,?_⟩) (fun hb0 s_0 hc=> ?_)
   ·exact wG
   ·exact wH
  ·refine sw mixed aH hG (by kernel_rfl) (fun _=> rfl) d.hours rfl id (fun hb1 k_1 s_1 hlt1 hq1 hw hc=> ⟨(fun id st=> bif Nat.beq id 4 then some (LCY (ρ:=Empty) (σ:=(List Fault)) 2 [] [0,1] (fun k_2 s_2=> ⟨[(0,.os 0),(2,.ep (cellsOf .district d) 0),(4,.os 1),(5,.v (.int .i64 (aG (az (aO l_) l_.length 0 ([],0))).2)),(8,.v (.int .i64 (k_1 : Int))),(41,.v (.int .i64 d.hours)),(42,.v (.int .i64 (k_1 : Int))),(46,.rs .reach d.reaches),(47,.v (.int .i64 (d.reaches.length : Int))),(48,.v (.int .i64 (k_2 : Int)))],[.ab (r_.1 (s_2.length + 1)),.mp .timetableSlot .int (aG (az (aO l_) l_.length 0 ([],0))).1 none]⟩) (cT d (aG (az (aO l_) l_.length 0 ([],0))) k_1) (d5 d items_ (aG (az (aO l_) l_.length 0 ([],0))) k_1) d.reaches.length s_1 (d.reaches.length≤bg) ((·.elim)) ((·.elim)) ⟨[],[.ab (r_.1 0),.dead]⟩ st) else none),?_,?_⟩) (fun hb1 s_1 hc=> ?_)
   ·simp only [aA,true_and,and_true]
    ·refine sw mixed aH hG (by kernel_rfl) (fun _=> rfl) (d.reaches.length : Int) rfl kQ (fun hb2 k_2 s_2 hlt2 hq2 hw hc=> ⟨(fun id st=> bif Nat.beq id 6 then some (LCR (ρ:=Empty) (σ:=Int) 3 [] [0,1,2] (fun k_3 s_3=> ⟨[(0,.os 0),(2,.ep (cellsOf .district d) 0),(4,.os 1),(5,.v (.int .i64 (aG (az (aO l_) l_.length 0 ([],0))).2)),(8,.v (.int .i64 (k_1 : Int))),(9,.v (.int .i64 (k_2 : Int))),(10,.ptr 2 0),(11,.v (.int .i64 s_3)),(41,.v (.int .i64 d.hours)),(42,.v (.int .i64 (k_1 : Int))),(46,.rs .reach d.reaches),(47,.v (.int .i64 (d.reaches.length : Int))),(48,.v (.int .i64 (k_2 : Int))),(54,.v (.int .i64 ((d.reaches.getD k_2 (default : Reach)).delay))),(55,.v (.int .i64 (k_3 : Int)))],[.ab (r_.1 (s_2.length + 1)),.mp .timetableSlot .int (aG (az (aO l_) l_.length 0 ([],0))).1 none,.cells (cellsOf .reach (d.reaches.getD k_2 (default : Reach)))]⟩) (dG d (aG (az (aO l_) l_.length 0 ([],0))) k_1 k_2) pT (Int.toNat ((d.reaches.getD k_2 (default : Reach)).delay)) 0 ((d.reaches.getD k_2 (default : Reach)).delay < 9223372036854775808) ((·.elim)) ((·.elim)) st) else none),?_,?_⟩) (fun hb2 s_2 hc=> ?_)
     ·simp only [aA,true_and,and_true]
      ·refine db mixed aH hG (by kernel_rfl) (fun _=> rfl) ((d.reaches.getD k_2 (default : Reach)).delay) rfl id (fun hb3 k_3 s_3 hlt3 _ hw hc=> ⟨L0,ay _,?_⟩) (fun hb3 s_3 hc=> ?_)
       ·exact Bi
       ·exact Bj
     ·unfold d5 at hq2
      try simp only [hw,Int.toNat_natCast] at hq2
      exact wG
     ·exact wH
   ·unfold d6 at hq1
    try simp only [hw,Int.toNat_natCast] at hq1
    exact wG
   ·exact wH
 ·unfold an Tryz.f100
  simp only [go_sem,Nat.reduceBEq,Nat.reduceLeDiff,Nat.reduceLT,decide_true,Nat.reduceAdd,Nat.reduceSub,Nat.reduceMul,Int.reduceLE,Int.reduceLT,Int.reduceToNat,Int.reduceNeg,reduceCtorEq]
  all_goals exact Bg
end Go.Sx
end
section
namespace Go.Sx
open Go.Proofs
set_option maxRecDepth 100000
set_option linter.unusedSimpArgs false
theorem wI {p : Prop} (h : p:=by (first | done | (repeat' (first | with_reducible refine And.intro ?_ ?_ | ((with_reducible show _≠_);first | assumption | omega | (simp_all [aG,aM];done) | grind) | with_reducible intro _)) <;> (first | done | exact Empty.elim ‹Empty› | assumption | rfl | omega | decide | exact fk [0] | (simp only [*,cond_true,cond_false,Bool.not_true,Bool.not_false,go_sem,Nat.reduceBEq,Nat.reduceLeDiff,Nat.reduceLT,decide_true,Nat.reduceAdd,Nat.reduceSub,Nat.reduceMul,Int.reduceLE,Int.reduceLT,Int.reduceToNat,Int.reduceNeg,reduceCtorEq];done) | (simp only [*,cond_true,cond_false,Bool.not_true,Bool.not_false,go_sem,Nat.reduceBEq,Nat.reduceLeDiff,Nat.reduceLT,decide_true,Nat.reduceAdd,Nat.reduceSub,Nat.reduceMul,Int.reduceLE,Int.reduceLT,Int.reduceToNat,Int.reduceNeg,reduceCtorEq];(repeat' (first | with_reducible refine And.intro ?_ ?_ | ((with_reducible show _≠_);first | assumption | omega | (simp_all [aG,aM];done) | grind) | with_reducible intro _)) <;> (first | done | assumption | rfl | omega | decide | exact fk [0] | (simp_all [aG,aM];done))) | (simp_all [okI,aG,aM];done) | (simp_all [aG,aM];(first | done | exact fk2 [0])) | exact fk2 [0]))) : p:=h
theorem wJ {p : Prop} (h : p:=by (first | done | (repeat' (first | with_reducible refine And.intro ?_ ?_ | ((with_reducible show _≠_);first | assumption | omega | (simp_all [aG,aM];done) | grind) | with_reducible intro _)) <;> (first | done | exact Empty.elim ‹Empty› | assumption | rfl | omega | decide | exact fk [0,1,2,3] | (simp only [*,cond_true,cond_false,Bool.not_true,Bool.not_false,go_sem,Nat.reduceBEq,Nat.reduceLeDiff,Nat.reduceLT,decide_true,Nat.reduceAdd,Nat.reduceSub,Nat.reduceMul,Int.reduceLE,Int.reduceLT,Int.reduceToNat,Int.reduceNeg,reduceCtorEq];done) | (simp only [*,cond_true,cond_false,Bool.not_true,Bool.not_false,go_sem,Nat.reduceBEq,Nat.reduceLeDiff,Nat.reduceLT,decide_true,Nat.reduceAdd,Nat.reduceSub,Nat.reduceMul,Int.reduceLE,Int.reduceLT,Int.reduceToNat,Int.reduceNeg,reduceCtorEq];(repeat' (first | with_reducible refine And.intro ?_ ?_ | ((with_reducible show _≠_);first | assumption | omega | (simp_all [aG,aM];done) | grind) | with_reducible intro _)) <;> (first | done | assumption | rfl | omega | decide | exact fk [0,1,2,3] | (simp_all [aG,aM];done))) | (simp_all [okI,aG,aM];done) | (simp_all [aG,aM];(first | done | exact fk2 [0,1,2,3])) | exact fk2 [0,1,2,3]))) : p:=h
@[go_sem] def b6 (out : List Order) (d : District) (z_0 : Fault) (s_0 : Int×Int×Int×Int×Int) : Empty⊕(Int×Int×Int×Int×Int) :=(bif (((s_0.1==0) && ((s_0.2.1==0) && ((s_0.2.2.1==0) && ((s_0.2.2.2.1==0) && (s_0.2.2.2.2==0))))) || (decide ((bN ([(aS z_0.hour s_0.2.1),(aS s_0.2.2.1 z_0.index)])) < 0))) then .inr (z_0.kind,z_0.hour,z_0.index,z_0.litres,z_0.limit) else .inr (s_0.1,s_0.2.1,s_0.2.2.1,s_0.2.2.2.1,s_0.2.2.2.2))
def pq (out : List Order) (d : District) (z_0 : Fault) (s_0 : Int×Int×Int×Int×Int) : Prop:=True
def ee (out : List Order) (d : District) : Fault:=(match cq (b6 out d) (br out d) (0,0,0,0,0) with | .inl x=> x.elim | .inr s_0=> ({ kind:=s_0.1,hour:=s_0.2.1,index:=s_0.2.2.1,litres:=s_0.2.2.2.1,limit:=s_0.2.2.2.2} : Fault))
def iZ (out : List Order) (d : District) : Prop:=(eB out d ((br out d).map dD))
@[go_sem] noncomputable def i7 : List SV→Option Con:=(pFn 98 (pXR .order fun out=> (pX .district fun d=> (pE ((pE (.det (iZ out d) (.agg (cellsOf .fault (ee out d))))))))))
set_option maxHeartbeats 4000000 in
theorem lM : FnOk Tryz.prog 55 i7:=by
 have hG : ConsOk Tryz.prog (mkG [(69,fun l=> eQ (c6 [.sl .int] l)),(70,cA)] []) :=aQ (cgc (fC.norm [.sl .int]) (cgc c7 cg0)) cg0
 refine a8 [.st .fault] mixed aH hG (fn:=Tryz.f55) (c:=an Tryz.f55) (by kernel_rfl) (by kernel_rfl) (by kernel_rfl) (by kernel_rfl) (iK (sa fun out=> (q_ fun d=> (aN ((aN (fun hp=> ?_)))))))
 dsimp only [aT] at hp
 unfold iZ at hp
 refine ⟨Nat.le_of_ble_eq_true rfl,(fun id st=> bif Nat.beq id 0 then some (LC (ρ:=Empty) (σ:=Int×Int×Int×Int×Int) (lk 2 st.t= .ptr 0 0∧lk 4 st.t= .fn 98 [] [.ep [.rs .order out] 0,.ep (cellsOf .district d) 0]∧st.h=[.cells [.v (.int .i64 0),.v (.int .i64 0),.v (.int .i64 0),.v (.int .i64 0),.v (.int .i64 0)]]∧eB out d ((br out d).map dD)) (cq (b6 out d) (br out d) (0,0,0,0,0)) (fun x=> x.elim) (fun x=> x.elim) (fun s_0=> ⟨[(2,.ptr 0 0)],[.cells [.v (.int .i64 s_0.1),.v (.int .i64 s_0.2.1),.v (.int .i64 s_0.2.2.1),.v (.int .i64 s_0.2.2.2.1),.v (.int .i64 s_0.2.2.2.2)]]⟩)) else none),?_,?_⟩
 ·unfold an Tryz.f55
  simp only [aA,true_and,and_true]
  ·refine mT mixed aH hG (by decide) (by decide) (by kernel_rfl) (by kernel_rfl) fun st lc hC hp=> ?_
   simp only [go_sem,Nat.reduceBEq,Option.some.injEq] at hC
   subst hC
   obtain ⟨t,h⟩ :=st
   dsimp only [LC] at hp
   obtain ⟨e0_0,e0_1,rfl,hb0⟩ :=hp
   refine ⟨98,[.ep [.rs .order out] 0,.ep (cellsOf .district d) 0],Fault,_,_,(br out d),dD,(b6 out d),(pq out d),_,(0,0,0,0,0),_,_,_,[(2,.ptr 0 0)],(fun s_0=> [.cells [.v (.int .i64 s_0.1),.v (.int .i64 s_0.2.1),.v (.int .i64 s_0.2.2.1),.v (.int .i64 s_0.2.2.2.1),.v (.int .i64 s_0.2.2.2.2)]]),(fun x=> x.elim),[0],?_,rfl,uM _ _ fun _ _ _=> trivial,Nat.le_of_ble_eq_true rfl,?_,qo out d _ hb0,fun z_0 s_0 hq0=> ⟨rfl,L0,fun l=> ?_,fun l=> ?_,?_⟩,fun s_0=> ?_,fun y=> ?_⟩
   ·simp only [go_sem,e0_0,e0_1]
   ·simp only [go_sem,Nat.reduceBEq,Nat.reduceLeDiff,Nat.reduceLT,decide_true,Nat.reduceAdd,Nat.reduceSub,Nat.reduceMul,Int.reduceLE,Int.reduceLT,Int.reduceToNat,Int.reduceNeg,reduceCtorEq,nU,iI,List.flatMap_cons,List.flatMap_nil,List.nil_append,List.append_nil,List.map_nil,e0_0,e0_1]
    all_goals (first | done | decide | (repeat' (first | refine And.intro ?_ ?_ | rfl | decide)))
   ·simp only [aA,and_self,true_and,and_true]
   ·simp only [aA,and_self,true_and,and_true]
   ·skip
    simp only [go_sem,Nat.reduceBEq,Nat.reduceLeDiff,Nat.reduceLT,decide_true,Nat.reduceAdd,Nat.reduceSub,Nat.reduceMul,Int.reduceLE,Int.reduceLT,Int.reduceToNat,Int.reduceNeg,reduceCtorEq,b6,psT,dD,List.cons_append,List.nil_append]
    all_goals exact wI
   ·simp only [go_sem,Nat.reduceBEq,Nat.reduceLeDiff,Nat.reduceLT,decide_true,Nat.reduceAdd,Nat.reduceSub,Nat.reduceMul,Int.reduceLE,Int.reduceLT,Int.reduceToNat,Int.reduceNeg,reduceCtorEq]
    all_goals exact wI
   ·simp only [go_sem,Nat.reduceBEq,Nat.reduceLeDiff,Nat.reduceLT,decide_true,Nat.reduceAdd,Nat.reduceSub,Nat.reduceMul,Int.reduceLE,Int.reduceLT,Int.reduceToNat,Int.reduceNeg,reduceCtorEq]
    all_goals exact wI
 ·unfold an Tryz.f55
  try unfold ee
  simp only [go_sem,Nat.reduceBEq,Nat.reduceLeDiff,Nat.reduceLT,decide_true,Nat.reduceAdd,Nat.reduceSub,Nat.reduceMul,Int.reduceLE,Int.reduceLT,Int.reduceToNat,Int.reduceNeg,reduceCtorEq]
  all_goals exact cl
@[go_sem] def c9 (d : District) (c : List Claim) (z_0 : Fault) (s_0 : Unit) : (Int×Int×Int×Int×Int)⊕Unit:= .inl (z_0.kind,z_0.hour,z_0.index,z_0.litres,z_0.limit)
def j_ (d : District) (c : List Claim) (z_0 : Fault) (s_0 : Unit) : Prop:=True
def aw (d : District) (c : List Claim) : List Order×Fault×Int:=(bif ((am d c).2 !=0) then ([],({ kind:=0,hour:=0,index:=0,litres:=0,limit:=0} : Fault),(am d c).2) else (bif ((av d ((am d c).1)).2.2 !=0) then ([],({ kind:=0,hour:=0,index:=0,litres:=0,limit:=0} : Fault),(av d ((am d c).1)).2.2) else (bif (!(av d ((am d c).1)).2.1) then ([],(ee ((am d c).1) d),0) else (match cq (c9 d c) (bt ((av d ((am d c).1)).1) d) () with | .inl x_0_0=> ([],({ kind:=x_0_0.1,hour:=x_0_0.2.1,index:=x_0_0.2.2.1,litres:=x_0_0.2.2.2.1,limit:=x_0_0.2.2.2.2} : Fault),0) | .inr s_0=> ((av d ((am d c).1)).1,({ kind:=0,hour:=0,index:=0,litres:=0,limit:=0} : Fault),0)))))
def dy (d : District) (c : List Claim) : Prop:=((dx d c)∧(((am d c).2 !=0)=false→((iU d ((am d c).1))∧(((av d ((am d c).1)).2.2 !=0)=false→(((!(av d ((am d c).1)).2.1)=true→(iZ ((am d c).1) d))∧((!(av d ((am d c).1)).2.1)=false→(df ((av d ((am d c).1)).1) d ((bt ((av d ((am d c).1)).1) d).map dD))))))))
@[go_sem] def i9 : List SV→Option Con:=(pD .district fun d=> (pR .claim fun c=> (pE (.det (dy d c) (.tup [.rs .order ((aw d c).1),.agg (cellsOf .fault ((aw d c).2.1)),.v (.int .i64 ((aw d c).2.2))])))))
set_option maxHeartbeats 4000000 in
theorem lN : FnOk Tryz.prog 31 i9:=by
 have hG : ConsOk Tryz.prog (mkG [(33,fun l=> iY (c6 [.st .district,.sl .claim] l)),(54,fun l=> lD (c6 [.st .district,.sl .order] l)),(55,i7),(56,fun l=> jB (c6 [.st .district,.sl .order] l)),(57,fun l=> il (c6 [.st .district,.sl .order] l))] []) :=aQ (cgc (lL.norm [.st .district,.sl .claim]) (cgc (oa.norm [.st .district,.sl .order]) (cgc lM (cgc (mm.norm [.st .district,.sl .order]) (cgc (kG.norm [.st .district,.sl .order]) cg0))))) cg0
 refine a8 [.sl .order,.st .fault,.o] mixed aH hG (fn:=Tryz.f31) (c:=an Tryz.f31) (by kernel_rfl) (by kernel_rfl) (by kernel_rfl) (by kernel_rfl) (bI fun d=> (dl fun c=> (aN (fun hp=> ?_))))
 dsimp only [aT] at hp
 unfold dy at hp
 refine ⟨Nat.le_of_ble_eq_true rfl,(fun id st=> bif Nat.beq id 0 then some (LC (ρ:=Int×Int×Int×Int×Int) (σ:=Unit) (lk 4 st.t= .ptr 1 0∧lk 5 st.t= .ptr 2 0∧lk 6 st.t= .ptr 3 0∧lk 39 st.t= .fn 100 [] [.ep [.rs .order ((av d ((am d c).1)).1)] 0,.ep (cellsOf .district d) 0]∧st.h=[.cells (cellsOf .district d),.cells [.rs .order ((av d ((am d c).1)).1)],.cells [.v (.int .i64 0),.v (.int .i64 0),.v (.int .i64 0),.v (.int .i64 0),.v (.int .i64 0)],.cells [.v (.int .i64 ((av d ((am d c).1)).2.2))]]∧df ((av d ((am d c).1)).1) d ((bt ((av d ((am d c).1)).1) d).map dD)) (cq (c9 d c) (bt ((av d ((am d c).1)).1) d) ()) (fun _=> .ret) (fun x_0_0=> ⟨[(4,.ptr 1 0),(5,.ptr 2 0),(6,.ptr 3 0)],[.dead,.cells [.v (.slice none 0 0)],.cells [.v (.int .i64 x_0_0.1),.v (.int .i64 x_0_0.2.1),.v (.int .i64 x_0_0.2.2.1),.v (.int .i64 x_0_0.2.2.2.1),.v (.int .i64 x_0_0.2.2.2.2)],.cells [.v (.int .i64 0)]]⟩) (fun s_0=> ⟨[(4,.ptr 1 0),(5,.ptr 2 0),(6,.ptr 3 0)],[.dead,.cells [.rs .order ((av d ((am d c).1)).1)],.cells [.v (.int .i64 0),.v (.int .i64 0),.v (.int .i64 0),.v (.int .i64 0),.v (.int .i64 0)],.cells [.v (.int .i64 ((av d ((am d c).1)).2.2))]]⟩)) else none),?_,?_⟩
 ·unfold an Tryz.f31
  simp only [aA,true_and,and_true]
  ·refine mT mixed aH hG (by decide) (by decide) (by kernel_rfl) (by kernel_rfl) fun st lc hC hp=> ?_
   simp only [go_sem,Nat.reduceBEq,Option.some.injEq] at hC
   subst hC
   obtain ⟨t,h⟩ :=st
   dsimp only [LC] at hp
   obtain ⟨e0_0,e0_1,e0_2,e0_3,rfl,hb0⟩ :=hp
   refine ⟨100,[.ep [.rs .order ((av d ((am d c).1)).1)] 0,.ep (cellsOf .district d) 0],Fault,_,_,(bt ((av d ((am d c).1)).1) d),dD,(c9 d c),(j_ d c),_,(),_,_,_,[(4,.ptr 1 0),(5,.ptr 2 0),(6,.ptr 3 0)],(fun s_0=> [.dead,.cells [.rs .order ((av d ((am d c).1)).1)],.cells [.v (.int .i64 0),.v (.int .i64 0),.v (.int .i64 0),.v (.int .i64 0),.v (.int .i64 0)],.cells [.v (.int .i64 ((av d ((am d c).1)).2.2))]]),(fun x_0_0=> [.dead,.cells [.v (.slice none 0 0)],.cells [.v (.int .i64 x_0_0.1),.v (.int .i64 x_0_0.2.1),.v (.int .i64 x_0_0.2.2.1),.v (.int .i64 x_0_0.2.2.2.1),.v (.int .i64 x_0_0.2.2.2.2)],.cells [.v (.int .i64 0)]]),[0,1,2,3],?_,rfl,uM _ _ fun _ _ _=> trivial,Nat.le_of_ble_eq_true rfl,?_,jp ((av d ((am d c).1)).1) d _ hb0,fun z_0 s_0 hq0=> ⟨rfl,L0,fun l=> ?_,fun l=> ?_,?_⟩,fun s_0=> ?_,fun y=> ?_⟩
   ·simp only [go_sem,e0_0,e0_1,e0_2,e0_3]
   ·simp only [go_sem,Nat.reduceBEq,Nat.reduceLeDiff,Nat.reduceLT,decide_true,Nat.reduceAdd,Nat.reduceSub,Nat.reduceMul,Int.reduceLE,Int.reduceLT,Int.reduceToNat,Int.reduceNeg,reduceCtorEq,nU,iI,List.flatMap_cons,List.flatMap_nil,List.nil_append,List.append_nil,List.map_nil,e0_0,e0_1,e0_2,e0_3]
    all_goals (first | done | decide | (repeat' (first | refine And.intro ?_ ?_ | rfl | decide)))
   ·simp only [aA,and_self,true_and,and_true]
   ·simp only [aA,and_self,true_and,and_true]
   ·skip
    simp only [go_sem,Nat.reduceBEq,Nat.reduceLeDiff,Nat.reduceLT,decide_true,Nat.reduceAdd,Nat.reduceSub,Nat.reduceMul,Int.reduceLE,Int.reduceLT,Int.reduceToNat,Int.reduceNeg,reduceCtorEq,c9,psT,dD,List.cons_append,List.nil_append]
    all_goals exact wJ
   ·simp only [go_sem,Nat.reduceBEq,Nat.reduceLeDiff,Nat.reduceLT,decide_true,Nat.reduceAdd,Nat.reduceSub,Nat.reduceMul,Int.reduceLE,Int.reduceLT,Int.reduceToNat,Int.reduceNeg,reduceCtorEq]
    all_goals exact wJ
   ·simp only [go_sem,Nat.reduceBEq,Nat.reduceLeDiff,Nat.reduceLT,decide_true,Nat.reduceAdd,Nat.reduceSub,Nat.reduceMul,Int.reduceLE,Int.reduceLT,Int.reduceToNat,Int.reduceNeg,reduceCtorEq]
    all_goals exact wJ
 ·unfold an Tryz.f31
  try unfold aw
  simp only [go_sem,Nat.reduceBEq,Nat.reduceLeDiff,Nat.reduceLT,decide_true,Nat.reduceAdd,Nat.reduceSub,Nat.reduceMul,Int.reduceLE,Int.reduceLT,Int.reduceToNat,Int.reduceNeg,reduceCtorEq]
  all_goals exact cl
def aj (d : District) (c : List Claim) : List Order×Bool×Int:=((aw d c).1,(((aw d c).2.2==0) && ((((aw d c).2.1).kind==0) && ((((aw d c).2.1).hour==0) && ((((aw d c).2.1).index==0) && ((((aw d c).2.1).litres==0) && (((aw d c).2.1).limit==0)))))),(aw d c).2.2)
def bC (d : District) (c : List Claim) : Prop:=(dy d c)
@[go_sem] def jC : List SV→Option Con:=(pD .district fun d=> (pR .claim fun c=> (pE (.det (bC d c) (.tup [.rs .order ((aj d c).1),.v (.bool ((aj d c).2.1)),.v (.int .i64 ((aj d c).2.2))])))))
theorem mn : FnOk Tryz.prog 12 jC:=by
 have hG : ConsOk Tryz.prog (mkG [(31,fun l=> i9 (c6 [.st .district,.sl .claim] l))] []) :=aQ (cgc (lN.norm [.st .district,.sl .claim]) cg0) cg0
 refine a8 [.sl .order,.o,.o] mixed aH hG (fn:=Tryz.f12) (c:=an Tryz.f12) (by kernel_rfl) (by kernel_rfl) (by kernel_rfl) (by kernel_rfl) (bI fun d=> (dl fun c=> (aN (fun hp=> ?_))))
 dsimp only [aT] at hp
 unfold bC at hp
 refine ⟨Nat.le_of_ble_eq_true rfl,L0,ay _,?_⟩
 ·unfold an Tryz.f12
  try unfold aj
  simp only [go_sem,Nat.reduceBEq,Nat.reduceLeDiff,Nat.reduceLT,decide_true,Nat.reduceAdd,Nat.reduceSub,Nat.reduceMul,Int.reduceLE,Int.reduceLT,Int.reduceToNat,Int.reduceNeg,reduceCtorEq]
  all_goals exact cl
def dB (d : District) (c : List Claim) : Fault×Bool×Int:=(((aw d c).2.1),(!((((aw d c).2.1).kind==0) && ((((aw d c).2.1).hour==0) && ((((aw d c).2.1).index==0) && ((((aw d c).2.1).litres==0) && (((aw d c).2.1).limit==0)))))),(aw d c).2.2)
def eS (d : District) (c : List Claim) : Prop:=(dy d c)
@[go_sem] def mo : List SV→Option Con:=(pD .district fun d=> (pR .claim fun c=> (pE (.det (eS d c) (.tup [.agg (cellsOf .fault ((dB d c).1)),.v (.bool ((dB d c).2.1)),.v (.int .i64 ((dB d c).2.2))])))))
theorem rq : FnOk Tryz.prog 14 mo:=by
 have hG : ConsOk Tryz.prog (mkG [(31,fun l=> i9 (c6 [.st .district,.sl .claim] l))] []) :=aQ (cgc (lN.norm [.st .district,.sl .claim]) cg0) cg0
 refine a8 [.st .fault,.o,.o] mixed aH hG (fn:=Tryz.f14) (c:=an Tryz.f14) (by kernel_rfl) (by kernel_rfl) (by kernel_rfl) (by kernel_rfl) (bI fun d=> (dl fun c=> (aN (fun hp=> ?_))))
 dsimp only [aT] at hp
 unfold eS at hp
 refine ⟨Nat.le_of_ble_eq_true rfl,L0,ay _,?_⟩
 ·unfold an Tryz.f14
  try unfold dB
  simp only [go_sem,Nat.reduceBEq,Nat.reduceLeDiff,Nat.reduceLT,decide_true,Nat.reduceAdd,Nat.reduceSub,Nat.reduceMul,Int.reduceLE,Int.reduceLT,Int.reduceToNat,Int.reduceNeg,reduceCtorEq]
  all_goals exact cl
end Go.Sx
end
