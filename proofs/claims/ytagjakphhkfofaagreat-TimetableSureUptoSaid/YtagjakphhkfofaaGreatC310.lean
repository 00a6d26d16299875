/- Part of the proof that the law TimetableSure returns true and leaves its arguments as they were, for all arguments of bulk at most 1048576 (the Upto form). -/
import Derived.Test.YtagjakphhkfofaaGreatC307
import Derived.Test.YtagjakphhkfofaaGreatC309
import Derived.Test.YtagjakphhkfofaaGreatC308
set_option linter.all false
section
namespace Go.Sx
open Go.Proofs
set_option maxRecDepth 100000
set_option linter.unusedSimpArgs false
def dz (x : Fault) (l_ : List Fault) : List Fault:=(l_ ++ ([x]))
def cS (x : Fault) (l_ : List Fault) : Prop:=((l_ ++ ([x])).length * 40≤fN)
@[go_sem] noncomputable def Cf : List SV→List Ob→Option HCon:=fun l h=> hCR .fault (fun l_=> (pD .fault fun x=> ((pQ (.ptr 0 0) (pE (nq (cS x l_) (.v (.bool true)) [.cells [.os 2],.dead,.row .fault (dz x l_)]))))) l) h
@[go_sem] def iW (t_ : CertifyTable) (l_ : List Fault) (k_0 : Nat) (s_0 : Unit) : (List Fault)⊕Unit:=(bif (decide (((t_.sums.getD 0 (default : List Int)).getD (Int.toNat (IntKind.i64.wrap ((k_0 : Int) + 1))) (0 : Int)) > t_.d.tank.start)) then .inl (dz ({ kind:=4,hour:=(k_0 : Int),index:=0,litres:=((t_.sums.getD 0 (default : List Int)).getD (Int.toNat (IntKind.i64.wrap ((k_0 : Int) + 1))) (0 : Int)),limit:=t_.d.tank.start} : Fault) l_) else .inr ())
def mV (t_ : CertifyTable) (l_ : List Fault) (k_0 : Nat) (s_0 : Unit) : Prop:=((0≤0∧0 < (t_.sums.length : Int))∧((0≤(IntKind.i64.wrap ((k_0 : Int) + 1))∧(IntKind.i64.wrap ((k_0 : Int) + 1)) < ((t_.sums.getD 0 (default : List Int)).length : Int))∧((decide (((t_.sums.getD 0 (default : List Int)).getD (Int.toNat (IntKind.i64.wrap ((k_0 : Int) + 1))) (0 : Int)) > t_.d.tank.start))=true→(cS ({ kind:=4,hour:=(k_0 : Int),index:=0,litres:=((t_.sums.getD 0 (default : List Int)).getD (Int.toNat (IntKind.i64.wrap ((k_0 : Int) + 1))) (0 : Int)),limit:=t_.d.tank.start} : Fault) l_))))
def lm (t_ : CertifyTable) (l_ : List Fault) : List Fault:=(match az (iW t_ l_) (Int.toNat t_.d.hours) 0 () with | .inl x_0_0=> x_0_0 | .inr s_0=> l_)
def jU (t_ : CertifyTable) (l_ : List Fault) : Prop:=((t_.d.hours < 9223372036854775808)∧okI (iW t_ l_) (mV t_ l_) (Int.toNat t_.d.hours) 0 ())
@[go_sem] noncomputable def Ax : List SV→List Ob→Option HCon:=fun l h=> hCR .fault (fun l_=> (pD .certifyTable fun t_=> ((pQ (.fn 85 [] [.ptr 0 0]) (pE (nq (jU t_ l_) (.tup []) [.cells [.os 2],.dead,.row .fault (lm t_ l_)]))))) l) h
@[go_sem] def gK (t_ : CertifyTable) (kind : Int) (k_0 : Nat) (s_0 : List Fault) : Empty⊕(List Fault) :=(bif (t_.l.getD k_0 (default : Order)).outlet then .inr s_0 else (bif (kind==2) then (bif (decide ((t_.l.getD k_0 (default : Order)).litres < (t_.d.reaches.getD (Int.toNat ((t_.l.getD k_0 (default : Order)).index)) (default : Reach)).siphon)) then .inr (dz ({ kind:=kind,hour:=(t_.l.getD k_0 (default : Order)).hour,index:=(t_.l.getD k_0 (default : Order)).index,litres:=(t_.l.getD k_0 (default : Order)).litres,limit:=(t_.d.reaches.getD (Int.toNat ((t_.l.getD k_0 (default : Order)).index)) (default : Reach)).siphon} : Fault) s_0) else .inr s_0) else (bif (decide ((t_.l.getD k_0 (default : Order)).litres > (t_.d.reaches.getD (Int.toNat ((t_.l.getD k_0 (default : Order)).index)) (default : Reach)).cap)) then .inr (dz ({ kind:=kind,hour:=(t_.l.getD k_0 (default : Order)).hour,index:=(t_.l.getD k_0 (default : Order)).index,litres:=(t_.l.getD k_0 (default : Order)).litres,limit:=(t_.d.reaches.getD (Int.toNat ((t_.l.getD k_0 (default : Order)).index)) (default : Reach)).cap} : Fault) s_0) else .inr s_0)))
def ln (t_ : CertifyTable) (kind : Int) (k_0 : Nat) (s_0 : List Fault) : Prop:=((t_.l.getD k_0 (default : Order)).outlet=false→((0≤(t_.l.getD k_0 (default : Order)).index∧(t_.l.getD k_0 (default : Order)).index < (t_.d.reaches.length : Int))∧(((kind==2)=true→((0≤(t_.l.getD k_0 (default : Order)).index∧(t_.l.getD k_0 (default : Order)).index < (t_.d.reaches.length : Int))∧(((decide ((t_.l.getD k_0 (default : Order)).litres < (t_.d.reaches.getD (Int.toNat ((t_.l.getD k_0 (default : Order)).index)) (default : Reach)).siphon))=true→(cS ({ kind:=kind,hour:=(t_.l.getD k_0 (default : Order)).hour,index:=(t_.l.getD k_0 (default : Order)).index,litres:=(t_.l.getD k_0 (default : Order)).litres,limit:=(t_.d.reaches.getD (Int.toNat ((t_.l.getD k_0 (default : Order)).index)) (default : Reach)).siphon} : Fault) s_0))∧((decide ((t_.l.getD k_0 (default : Order)).litres < (t_.d.reaches.getD (Int.toNat ((t_.l.getD k_0 (default : Order)).index)) (default : Reach)).siphon))=false→((decide ((t_.l.getD k_0 (default : Order)).litres < (t_.d.reaches.getD (Int.toNat ((t_.l.getD k_0 (default : Order)).index)) (default : Reach)).siphon))=false)))))∧((kind==2)=false→(((decide ((t_.l.getD k_0 (default : Order)).litres > (t_.d.reaches.getD (Int.toNat ((t_.l.getD k_0 (default : Order)).index)) (default : Reach)).cap))=true→(cS ({ kind:=kind,hour:=(t_.l.getD k_0 (default : Order)).hour,index:=(t_.l.getD k_0 (default : Order)).index,litres:=(t_.l.getD k_0 (default : Order)).litres,limit:=(t_.d.reaches.getD (Int.toNat ((t_.l.getD k_0 (default : Order)).index)) (default : Reach)).cap} : Fault) s_0))∧((decide ((t_.l.getD k_0 (default : Order)).litres > (t_.d.reaches.getD (Int.toNat ((t_.l.getD k_0 (default : Order)).index)) (default : Reach)).cap))=false→((decide ((t_.l.getD k_0 (default : Order)).litres > (t_.d.reaches.getD (Int.toNat ((t_.l.getD k_0 (default : Order)).index)) (default : Reach)).cap))=false)))))))
def fD (t_ : CertifyTable) (kind : Int) (l_ : List Fault) : List Fault:=(match az (gK t_ kind) t_.l.length 0 l_ with | .inl x=> x.elim | .inr s_0=> s_0)
def eR (t_ : CertifyTable) (kind : Int) (l_ : List Fault) : Prop:=(t_.l.length≤bu→okI (gK t_ kind) (ln t_ kind) t_.l.length 0 l_)
@[go_sem] noncomputable def xF : List SV→List Ob→Option HCon:=fun l h=> hCR .fault (fun l_=> (pQ (.fn 85 [] [.ptr 0 0]) ((pX .certifyTable fun t_=> ((pX .int fun kind=> (pE (nq (eR t_ kind l_) (.tup []) [.cells [.os 2],.dead,.row .fault (fD t_ kind l_)]))))))) l) h
@[go_sem] def eF (c_ : List Claim) (k_0 : Nat) (s_0 : List (CertifyPlace×Int)) : Empty⊕(List (CertifyPlace×Int)) := .inr (cU .certifyPlace .int s_0 ({ hour:=(c_.getD k_0 (default : Claim)).hour,index:=(c_.getD k_0 (default : Claim)).farm,outlet:=true} : CertifyPlace) (IntKind.i64.wrap ((ay .certifyPlace .int s_0 ({ hour:=(c_.getD k_0 (default : Claim)).hour,index:=(c_.getD k_0 (default : Claim)).farm,outlet:=true} : CertifyPlace)) + (c_.getD k_0 (default : Claim)).litres)))
@[go_sem] def gL (t_ : CertifyTable) (s_0 : List (CertifyPlace×Int)) (k_1 : Nat) (k_2 : Nat) (s_2 : List Fault) : Empty⊕(List Fault) :=(bif (decide ((ay .certifyPlace .int t_.litres ({ hour:=(k_1 : Int),index:=(k_2 : Int),outlet:=true} : CertifyPlace)) < (ay .certifyPlace .int s_0 ({ hour:=(k_1 : Int),index:=(k_2 : Int),outlet:=true} : CertifyPlace)))) then .inr (dz ({ kind:=6,hour:=(k_1 : Int),index:=(k_2 : Int),litres:=(ay .certifyPlace .int t_.litres ({ hour:=(k_1 : Int),index:=(k_2 : Int),outlet:=true} : CertifyPlace)),limit:=(ay .certifyPlace .int s_0 ({ hour:=(k_1 : Int),index:=(k_2 : Int),outlet:=true} : CertifyPlace))} : Fault) s_2) else .inr s_2)
def lp (t_ : CertifyTable) (s_0 : List (CertifyPlace×Int)) (k_1 : Nat) (k_2 : Nat) (s_2 : List Fault) : Prop:=(((decide ((ay .certifyPlace .int t_.litres ({ hour:=(k_1 : Int),index:=(k_2 : Int),outlet:=true} : CertifyPlace)) < (ay .certifyPlace .int s_0 ({ hour:=(k_1 : Int),index:=(k_2 : Int),outlet:=true} : CertifyPlace))))=true→(cS ({ kind:=6,hour:=(k_1 : Int),index:=(k_2 : Int),litres:=(ay .certifyPlace .int t_.litres ({ hour:=(k_1 : Int),index:=(k_2 : Int),outlet:=true} : CertifyPlace)),limit:=(ay .certifyPlace .int s_0 ({ hour:=(k_1 : Int),index:=(k_2 : Int),outlet:=true} : CertifyPlace))} : Fault) s_2))∧((decide ((ay .certifyPlace .int t_.litres ({ hour:=(k_1 : Int),index:=(k_2 : Int),outlet:=true} : CertifyPlace)) < (ay .certifyPlace .int s_0 ({ hour:=(k_1 : Int),index:=(k_2 : Int),outlet:=true} : CertifyPlace))))=false→((decide ((ay .certifyPlace .int t_.litres ({ hour:=(k_1 : Int),index:=(k_2 : Int),outlet:=true} : CertifyPlace)) < (ay .certifyPlace .int s_0 ({ hour:=(k_1 : Int),index:=(k_2 : Int),outlet:=true} : CertifyPlace))))=false)))
@[go_sem] def gM (t_ : CertifyTable) (s_0 : List (CertifyPlace×Int)) (k_1 : Nat) (s_1 : List Fault) : Empty⊕(List Fault) :=(match az (gL t_ s_0 k_1) t_.d.farms.length 0 s_1 with | .inl x=> x.elim | .inr s_2=> .inr s_2)
def lr (t_ : CertifyTable) (s_0 : List (CertifyPlace×Int)) (k_1 : Nat) (s_1 : List Fault) : Prop:=(t_.d.farms.length≤bu→okI (gL t_ s_0 k_1) (lp t_ s_0 k_1) t_.d.farms.length 0 s_1)
def iX (c_ : List Claim) (t_ : CertifyTable) (l_ : List Fault) : List Fault:=(match az (eF c_) c_.length 0 ([]) with | .inl x=> x.elim | .inr s_0=> (match az (gM t_ s_0) (Int.toNat t_.d.hours) 0 l_ with | .inl x=> x.elim | .inr s_1=> s_1))
def hU (c_ : List Claim) (t_ : CertifyTable) (l_ : List Fault) : Prop:=(c_.length≤bu→(∀ s_0,az (eF c_) c_.length 0 ([])= .inr s_0→((t_.d.hours < 9223372036854775808)∧okI (gM t_ s_0) (lr t_ s_0) (Int.toNat t_.d.hours) 0 l_)))
@[go_sem] noncomputable def xG : List SV→List Ob→Option HCon:=fun l h=> hCR .fault (fun l_=> (pQ (.fn 85 [] [.ptr 0 0]) ((pXR .claim fun c_=> ((pX .certifyTable fun t_=> (pE (nq (hU c_ t_ l_) (.tup []) [.cells [.os 2],.dead,.row .fault (iX c_ t_ l_)]))))))) l) h
end Go.Sx
end
section
namespace Go.Sx
open Go.Proofs
set_option maxRecDepth 100000
set_option linter.unusedSimpArgs false
@[go_sem] def iE (t_ : CertifyTable) (z_0 : Int×Int) (s_0 : List Fault) : Empty⊕(List Fault) :=(bif (decide ((IntKind.i64.wrap (((t_.sums.getD (Int.toNat z_0.2) (default : List Int)).getD (Int.toNat (IntKind.i64.wrap (z_0.1 + 1))) (0 : Int)) - ((t_.sums.getD (Int.toNat z_0.2) (default : List Int)).getD (Int.toNat (if 0 < (IntKind.i64.wrap ((IntKind.i64.wrap (z_0.1 + 1)) - (t_.d.reaches.getD (Int.toNat z_0.2) (default : Reach)).delay)) then (IntKind.i64.wrap ((IntKind.i64.wrap (z_0.1 + 1)) - (t_.d.reaches.getD (Int.toNat z_0.2) (default : Reach)).delay)) else 0)) (0 : Int)))) > (t_.d.reaches.getD (Int.toNat z_0.2) (default : Reach)).bank)) then .inr (dz ({ kind:=3,hour:=z_0.1,index:=z_0.2,litres:=(IntKind.i64.wrap (((t_.sums.getD (Int.toNat z_0.2) (default : List Int)).getD (Int.toNat (IntKind.i64.wrap (z_0.1 + 1))) (0 : Int)) - ((t_.sums.getD (Int.toNat z_0.2) (default : List Int)).getD (Int.toNat (if 0 < (IntKind.i64.wrap ((IntKind.i64.wrap (z_0.1 + 1)) - (t_.d.reaches.getD (Int.toNat z_0.2) (default : Reach)).delay)) then (IntKind.i64.wrap ((IntKind.i64.wrap (z_0.1 + 1)) - (t_.d.reaches.getD (Int.toNat z_0.2) (default : Reach)).delay)) else 0)) (0 : Int)))),limit:=(t_.d.reaches.getD (Int.toNat z_0.2) (default : Reach)).bank} : Fault) s_0) else .inr s_0)
def mf (t_ : CertifyTable) (z_0 : Int×Int) (s_0 : List Fault) : Prop:=((0≤z_0.2∧z_0.2 < (t_.d.reaches.length : Int))∧((0≤z_0.2∧z_0.2 < (t_.sums.length : Int))∧((0≤(IntKind.i64.wrap (z_0.1 + 1))∧(IntKind.i64.wrap (z_0.1 + 1)) < ((t_.sums.getD (Int.toNat z_0.2) (default : List Int)).length : Int))∧((0≤z_0.2∧z_0.2 < (t_.sums.length : Int))∧((0≤(if 0 < (IntKind.i64.wrap ((IntKind.i64.wrap (z_0.1 + 1)) - (t_.d.reaches.getD (Int.toNat z_0.2) (default : Reach)).delay)) then (IntKind.i64.wrap ((IntKind.i64.wrap (z_0.1 + 1)) - (t_.d.reaches.getD (Int.toNat z_0.2) (default : Reach)).delay)) else 0)∧(if 0 < (IntKind.i64.wrap ((IntKind.i64.wrap (z_0.1 + 1)) - (t_.d.reaches.getD (Int.toNat z_0.2) (default : Reach)).delay)) then (IntKind.i64.wrap ((IntKind.i64.wrap (z_0.1 + 1)) - (t_.d.reaches.getD (Int.toNat z_0.2) (default : Reach)).delay)) else 0) < ((t_.sums.getD (Int.toNat z_0.2) (default : List Int)).length : Int))∧(((decide ((IntKind.i64.wrap (((t_.sums.getD (Int.toNat z_0.2) (default : List Int)).getD (Int.toNat (IntKind.i64.wrap (z_0.1 + 1))) (0 : Int)) - ((t_.sums.getD (Int.toNat z_0.2) (default : List Int)).getD (Int.toNat (if 0 < (IntKind.i64.wrap ((IntKind.i64.wrap (z_0.1 + 1)) - (t_.d.reaches.getD (Int.toNat z_0.2) (default : Reach)).delay)) then (IntKind.i64.wrap ((IntKind.i64.wrap (z_0.1 + 1)) - (t_.d.reaches.getD (Int.toNat z_0.2) (default : Reach)).delay)) else 0)) (0 : Int)))) > (t_.d.reaches.getD (Int.toNat z_0.2) (default : Reach)).bank))=true→(cS ({ kind:=3,hour:=z_0.1,index:=z_0.2,litres:=(IntKind.i64.wrap (((t_.sums.getD (Int.toNat z_0.2) (default : List Int)).getD (Int.toNat (IntKind.i64.wrap (z_0.1 + 1))) (0 : Int)) - ((t_.sums.getD (Int.toNat z_0.2) (default : List Int)).getD (Int.toNat (if 0 < (IntKind.i64.wrap ((IntKind.i64.wrap (z_0.1 + 1)) - (t_.d.reaches.getD (Int.toNat z_0.2) (default : Reach)).delay)) then (IntKind.i64.wrap ((IntKind.i64.wrap (z_0.1 + 1)) - (t_.d.reaches.getD (Int.toNat z_0.2) (default : Reach)).delay)) else 0)) (0 : Int)))),limit:=(t_.d.reaches.getD (Int.toNat z_0.2) (default : Reach)).bank} : Fault) s_0))∧((decide ((IntKind.i64.wrap (((t_.sums.getD (Int.toNat z_0.2) (default : List Int)).getD (Int.toNat (IntKind.i64.wrap (z_0.1 + 1))) (0 : Int)) - ((t_.sums.getD (Int.toNat z_0.2) (default : List Int)).getD (Int.toNat (if 0 < (IntKind.i64.wrap ((IntKind.i64.wrap (z_0.1 + 1)) - (t_.d.reaches.getD (Int.toNat z_0.2) (default : Reach)).delay)) then (IntKind.i64.wrap ((IntKind.i64.wrap (z_0.1 + 1)) - (t_.d.reaches.getD (Int.toNat z_0.2) (default : Reach)).delay)) else 0)) (0 : Int)))) > (t_.d.reaches.getD (Int.toNat z_0.2) (default : Reach)).bank))=false→((decide ((IntKind.i64.wrap (((t_.sums.getD (Int.toNat z_0.2) (default : List Int)).getD (Int.toNat (IntKind.i64.wrap (z_0.1 + 1))) (0 : Int)) - ((t_.sums.getD (Int.toNat z_0.2) (default : List Int)).getD (Int.toNat (if 0 < (IntKind.i64.wrap ((IntKind.i64.wrap (z_0.1 + 1)) - (t_.d.reaches.getD (Int.toNat z_0.2) (default : Reach)).delay)) then (IntKind.i64.wrap ((IntKind.i64.wrap (z_0.1 + 1)) - (t_.d.reaches.getD (Int.toNat z_0.2) (default : Reach)).delay)) else 0)) (0 : Int)))) > (t_.d.reaches.getD (Int.toNat z_0.2) (default : Reach)).bank))=false))))))))
def kv (t_ : CertifyTable) (l_ : List Fault) : List Fault:=(match bJ (iE t_) (fw t_) l_ with | .inl x=> x.elim | .inr s_0=> s_0)
def iY (t_ : CertifyTable) (l_ : List Fault) : Prop:=((t_.d.hours < 9223372036854775808)∧okL (iE t_) (mf t_) (fw t_) l_)
@[go_sem] noncomputable def yX : List SV→List Ob→Option HCon:=fun l h=> hCR .fault (fun l_=> (pD .certifyTable fun t_=> ((pQ (.fn 85 [] [.ptr 0 0]) (pE (nq (iY t_ l_) (.tup []) [.cells [.os 2],.dead,.row .fault (kv t_ l_)]))))) l) h
@[go_sem] def iF (t_ : CertifyTable) (z_0 : Int×Int) (s_0 : List Fault) : Empty⊕(List Fault) :=(bif (decide (((t_.drawn.getD (Int.toNat z_0.2) (default : List Int)).getD (Int.toNat z_0.1) (0 : Int)) > (bC t_ z_0.2 z_0.1))) then .inr (dz ({ kind:=5,hour:=z_0.1,index:=z_0.2,litres:=((t_.drawn.getD (Int.toNat z_0.2) (default : List Int)).getD (Int.toNat z_0.1) (0 : Int)),limit:=(bC t_ z_0.2 z_0.1)} : Fault) s_0) else .inr s_0)
def mg (t_ : CertifyTable) (z_0 : Int×Int) (s_0 : List Fault) : Prop:=((0≤z_0.2∧z_0.2 < (t_.drawn.length : Int))∧((0≤z_0.1∧z_0.1 < ((t_.drawn.getD (Int.toNat z_0.2) (default : List Int)).length : Int))∧((eQ t_ z_0.2 z_0.1)∧(((decide (((t_.drawn.getD (Int.toNat z_0.2) (default : List Int)).getD (Int.toNat z_0.1) (0 : Int)) > (bC t_ z_0.2 z_0.1)))=true→(cS ({ kind:=5,hour:=z_0.1,index:=z_0.2,litres:=((t_.drawn.getD (Int.toNat z_0.2) (default : List Int)).getD (Int.toNat z_0.1) (0 : Int)),limit:=(bC t_ z_0.2 z_0.1)} : Fault) s_0))∧((decide (((t_.drawn.getD (Int.toNat z_0.2) (default : List Int)).getD (Int.toNat z_0.1) (0 : Int)) > (bC t_ z_0.2 z_0.1)))=false→((decide (((t_.drawn.getD (Int.toNat z_0.2) (default : List Int)).getD (Int.toNat z_0.1) (0 : Int)) > (bC t_ z_0.2 z_0.1)))=false))))))
def kw (t_ : CertifyTable) (l_ : List Fault) : List Fault:=(match bJ (iF t_) (fw t_) l_ with | .inl x=> x.elim | .inr s_0=> s_0)
def iZ (t_ : CertifyTable) (l_ : List Fault) : Prop:=((t_.d.hours < 9223372036854775808)∧okL (iF t_) (mg t_) (fw t_) l_)
@[go_sem] noncomputable def yY : List SV→List Ob→Option HCon:=fun l h=> hCR .fault (fun l_=> (pD .certifyTable fun t_=> ((pQ (.fn 85 [] [.ptr 0 0]) (pE (nq (iZ t_ l_) (.tup []) [.cells [.os 2],.dead,.row .fault (kw t_ l_)]))))) l) h
end Go.Sx
end
section
namespace Go.Sx
open Go.Proofs
set_option maxRecDepth 100000
set_option linter.unusedSimpArgs false
@[go_sem] def lY (d : District) (c : List Claim) (l_ : List Order) (k_0 : Nat) (s_0 : List Fault) : Empty⊕(List Fault) :=(bif (Nat.beq k_0 0) then .inr (fD ((bp d l_).1) 1 s_0) else (bif (Nat.beq k_0 1) then .inr (fD ((bp d l_).1) 2 s_0) else (bif (Nat.beq k_0 2) then .inr (kv ((bp d l_).1) s_0) else (bif (Nat.beq k_0 3) then .inr (lm ((bp d l_).1) s_0) else (bif (Nat.beq k_0 4) then .inr (kw ((bp d l_).1) s_0) else .inr (iX c ((bp d l_).1) s_0))))))
def pN (d : District) (c : List Claim) (l_ : List Order) (k_0 : Nat) (s_0 : List Fault) : Prop:=(((Nat.beq k_0 0)=true→(eR ((bp d l_).1) 1 s_0))∧((Nat.beq k_0 0)=false→(((Nat.beq k_0 1)=true→(eR ((bp d l_).1) 2 s_0))∧((Nat.beq k_0 1)=false→(((Nat.beq k_0 2)=true→(iY ((bp d l_).1) s_0))∧((Nat.beq k_0 2)=false→(((Nat.beq k_0 3)=true→(jU ((bp d l_).1) s_0))∧((Nat.beq k_0 3)=false→(((Nat.beq k_0 4)=true→(iZ ((bp d l_).1) s_0))∧((Nat.beq k_0 4)=false→(hU c ((bp d l_).1) s_0)))))))))))
def da (d : District) (c : List Claim) (l_ : List Order) : List Fault×Int:=(bif ((ba d c) !=0) then ([],(ba d c)) else (bif ((bp d l_).2 !=0) then ([],(bp d l_).2) else (match az (lY d c l_) 6 0 ([]) with | .inl x=> x.elim | .inr s_0=> (s_0,0))))
def d7 (d : District) (c : List Claim) (l_ : List Order) : Prop:=((eP d c)∧(((ba d c) !=0)=false→((ll d l_)∧(((bp d l_).2 !=0)=false→okI (lY d c l_) (pN d c l_) 6 0 ([])))))
@[go_sem] def FQ : List SV→Option Con:=(pD .district fun d=> (pR .claim fun c=> (pR .order fun l_=> (pE (.det (d7 d c l_) (.tup [.nw .fault ((da d c l_).1),.v (.int .i64 ((da d c l_).2))]))))))
end Go.Sx
end
section
namespace Go.Sx
open Go.Proofs
set_option maxRecDepth 100000
set_option linter.unusedSimpArgs false
def sW (d : District) : Bool:=((((((decide ((d.reaches.length : Int)≤100)) && (decide ((d.farms.length : Int)≤700))) && (decide ((d.crops.length : Int)≤100))) && (decide ((d.rights.length : Int)≤300))) && (decide ((d.duties.length : Int)≤300))) && (decide ((d.wells.length : Int)≤100)))
@[go_sem] def Pg : List SV→Option Con:=(pD .district fun d=> (pE (.det True (.v (.bool (sW d))))))
def xH (d : District) (l_ : List Order) : Bool:=(bif ((!(sW d)) || ((decide ((l_.length : Int) > 150)) && ((decide ((l_.length : Int)≤4096)) || (decide ((l_.length : Int) > 5000))))) then false else (bif (((decide (d.hours < 1)) || (decide (d.hours > 4096))) || (decide ((d.reaches.length : Int) > 64))) then true else ((decide ((IntKind.i64.wrap ((d.reaches.length : Int) * d.hours))≤200)) || (decide ((IntKind.i64.wrap ((d.reaches.length : Int) * d.hours)) > 1024)))))
@[go_sem] def Ph : List SV→Option Con:=(pD .district fun d=> (pR .order fun l_=> (pE (.det True (.v (.bool (xH d l_)))))))
def nV (d : District) (c : List Claim) : Bool:=((sW d) && ((decide ((c.length : Int)≤300)) || ((decide ((c.length : Int) > 4096)) && (decide ((c.length : Int)≤5000)))))
@[go_sem] def EK : List SV→Option Con:=(pD .district fun d=> (pR .claim fun c=> (pE (.det True (.v (.bool (nV d c)))))))
def FR (d : District) (c : List Claim) (l_ : List Order) : Bool:=(((xH d l_) && (nV d c)) && ((decide ((d.farms.length : Int)≤20)) || (decide ((d.farms.length : Int) > 600))))
@[go_sem] def Pi : List SV→Option Con:=(pD .district fun d=> (pR .claim fun c=> (pR .order fun l_=> (pE (.det True (.v (.bool (FR d c l_))))))))
@[go_sem] def wI (a : List Fault) (b : List Fault) (k_0 : Nat) (s_0 : Unit) : Unit⊕Unit:=(bif (!(((a.getD k_0 (default : Fault)).kind==(b.getD k_0 (default : Fault)).kind) && (((a.getD k_0 (default : Fault)).hour==(b.getD k_0 (default : Fault)).hour) && (((a.getD k_0 (default : Fault)).index==(b.getD k_0 (default : Fault)).index) && (((a.getD k_0 (default : Fault)).litres==(b.getD k_0 (default : Fault)).litres) && ((a.getD k_0 (default : Fault)).limit==(b.getD k_0 (default : Fault)).limit)))))) then .inl () else .inr ())
def qG (a : List Fault) (b : List Fault) : Bool:=(bif ((a.length : Int) !=(b.length : Int)) then false else (match az (wI a b) a.length 0 () with | .inl x_0_0=> false | .inr s_0=> true))
@[go_sem] def Oe : List SV→Option Con:=(pR .fault fun a=> (pR .fault fun b=> (pE (.det True (.v (.bool (qG a b)))))))
def aN : District:=({ name:=(ByteArray.mk #[]),hours:=9,tank:=({ cap:=50,start:=50} : Tank),reaches:=[({ name:=(ByteArray.mk #[]),up:=(-1),delay:=1,cap:=20,bank:=30,siphon:=0,evap:=({ lo:=0,hi:=1} : Range),seep:=(({ n:=0,d:=1} : Ratio),({ n:=0,d:=1} : Ratio))} : Reach),({ name:=(ByteArray.mk #[]),up:=0,delay:=2,cap:=10,bank:=12,siphon:=4,evap:=({ lo:=0,hi:=2} : Range),seep:=(({ n:=0,d:=1} : Ratio),({ n:=0,d:=1} : Ratio))} : Reach)],farms:=[({ name:=(ByteArray.mk #[]),reach:=0,area:=0,crop:=(-1)} : Farm),({ name:=(ByteArray.mk #[]),reach:=1,area:=0,crop:=(-1)} : Farm)],crops:=[],rights:=[({ name:=(ByteArray.mk #[]),kind:=1,farm:=0,reach:=0,rank:=0,litres:=3,since:=0,to:=8,every:=1,length:=1} : Right),({ name:=(ByteArray.mk #[]),kind:=1,farm:=1,reach:=0,rank:=0,litres:=5,since:=0,to:=8,every:=1,length:=1} : Right)],duties:=[],wells:=[]} : District)
@[go_sem] def FT : List SV→Option Con:=(pE (.det True (.agg [.v (.string ((aN).name)),.v (.int .i64 ((aN).hours)),.v (.int .i64 ((aN).tank.cap)),.v (.int .i64 ((aN).tank.start)),.nw .reach ((aN).reaches),.nw .farm ((aN).farms),.v (.slice none 0 0),.nw .right ((aN).rights),.v (.slice none 0 0),.v (.slice none 0 0)])))
def qH (hour : Int) (reach : Int) (n : Int) : Order:=({ hour:=hour,index:=reach,litres:=n,outlet:=false} : Order)
@[go_sem] def Of : List SV→Option Con:=(pI fun hour=> (pI fun reach=> (pI fun n=> (pE (.det True (.agg (cellsOf .order (qH hour reach n))))))))
def nC (hour : Int) (farm : Int) (n : Int) : Order:=({ hour:=hour,index:=farm,litres:=n,outlet:=true} : Order)
@[go_sem] def Js : List SV→Option Con:=(pI fun hour=> (pI fun farm=> (pI fun n=> (pE (.det True (.agg (cellsOf .order (nC hour farm n))))))))
end Go.Sx
end
section
namespace Go.Sx
open Go.Proofs
set_option maxRecDepth 100000
set_option linter.unusedSimpArgs false
def fu (d : District) (c : List Claim) (l_ : List Order) : Bool×Int:=((((da d c l_).2==0) && ((((da d c l_).1).length : Int) ==0)),(da d c l_).2)
def fL (d : District) (c : List Claim) (l_ : List Order) : Prop:=(d7 d c l_)
@[go_sem] def EL : List SV→Option Con:=(pD .district fun d=> (pR .claim fun c=> (pR .order fun l_=> (pE (.det (fL d c l_) (.tup [.v (.bool ((fu d c l_).1)),.v (.int .i64 ((fu d c l_).2))]))))))
def iG (d : District) (l_ : List Order) (reach : Int) (hour : Int) : Int×Int:=(bif ((bt d) !=0) then (0,(bt d)) else (bif ((bp d l_).2 !=0) then (0,(bp d l_).2) else (bif ((((decide (reach < 0)) || (decide (reach≥(d.reaches.length : Int)))) || (decide (hour < 0))) || (decide (hour≥d.hours))) then (0,1) else ((bC ((bp d l_).1) reach hour),0))))
def jh (d : District) (l_ : List Order) (reach : Int) (hour : Int) : Prop:=(((bt d) !=0)=false→((ll d l_)∧(((bp d l_).2 !=0)=false→(((((decide (reach < 0)) || (decide (reach≥(d.reaches.length : Int)))) || (decide (hour < 0))) || (decide (hour≥d.hours)))=false→(eQ ((bp d l_).1) reach hour)))))
@[go_sem] def FU : List SV→Option Con:=(pD .district fun d=> (pR .order fun l_=> (pI fun reach=> (pI fun hour=> (pE (.det (jh d l_ reach hour) (.tup [.v (.int .i64 ((iG d l_ reach hour).1)),.v (.int .i64 ((iG d l_ reach hour).2))])))))))
def db:=([(qH 2 0 11),(qH 3 1 7),(nC 3 0 3),(nC 5 1 5)])
def fV:=(([]) ++ db)
def lu:=(fV.getD 0 (default : Order))
def eS:=([({ right:=0,farm:=0,hour:=3,litres:=3,rank:=0} : Claim),({ right:=1,farm:=1,hour:=5,litres:=5,rank:=0} : Claim)])
def o7:=({ name:=(ByteArray.mk #[]),hours:=0,tank:=({ cap:=0,start:=0} : Tank),reaches:=[],farms:=[],crops:=[],rights:=[],duties:=[],wells:=[]} : District)
def dI:=({ name:=aN.name,hours:=aN.hours,tank:=aN.tank,reaches:=aN.reaches,farms:=aN.farms,crops:=[],rights:=aN.rights,duties:=[],wells:=[]} : District)
def o8:=(iG dI db 1 5)
def o9:=(da dI eS db)
def o_:=(fu dI eS db)
def lv:=(aN.reaches.set 0 ({ name:=(aN.reaches.getD 0 (default : Reach)).name,up:=(aN.reaches.getD 0 (default : Reach)).up,delay:=(aN.reaches.getD 0 (default : Reach)).delay,cap:=9,bank:=(aN.reaches.getD 0 (default : Reach)).bank,siphon:=(aN.reaches.getD 0 (default : Reach)).siphon,evap:=(aN.reaches.getD 0 (default : Reach)).evap,seep:=(aN.reaches.getD 0 (default : Reach)).seep} : Reach))
def eG:=(lv.getD 1 (default : Reach))
def mh:=(fV.set 0 ({ hour:=lu.hour,index:=lu.index,litres:=10,outlet:=lu.outlet} : Order))
def mj:=(mh.getD 1 (default : Order))
def ml:=(mh.set 1 ({ hour:=mj.hour,index:=mj.index,litres:=3,outlet:=mj.outlet} : Order))
def mm:=(ml.getD 3 (default : Order))
def d5:=({ name:=aN.name,hours:=aN.hours,tank:=({ cap:=aN.tank.cap,start:=10} : Tank),reaches:=(lv.set 1 ({ name:=eG.name,up:=eG.up,delay:=eG.delay,cap:=eG.cap,bank:=6,siphon:=eG.siphon,evap:=eG.evap,seep:=eG.seep} : Reach)),farms:=aN.farms,crops:=[],rights:=aN.rights,duties:=[],wells:=[]} : District)
def qg:=(fu d5 ([]) ([]))
def qh:=(da d5 ([]) db)
def qi:=(ml.set 3 ({ hour:=mm.hour,index:=mm.index,litres:=4,outlet:=mm.outlet} : Order))
def qj:=(da dI eS qi)
def Cg : Bool:=(bif (((((((((o_.2 !=0) || (o9.2 !=0)) || (o8.2 !=0)) || (qj.2 !=0)) || (qh.2 !=0)) || (qg.2 !=0)) || ((fu o7 ([]) ([])).2 !=191)) || ((iG d5 ([]) (-1) 0).2 !=1)) || ((da d5 ([]) ([({ hour:=0,index:=0,litres:=0,outlet:=false} : Order)])).2 !=280)) then false else (((((o_.1 && (((o9.1).length : Int) ==0)) && (o8.1==5)) && (qG (qj.1) ([({ kind:=2,hour:=3,index:=1,litres:=3,limit:=4} : Fault),({ kind:=5,hour:=5,index:=1,litres:=4,limit:=1} : Fault),({ kind:=6,hour:=5,index:=1,litres:=4,limit:=5} : Fault)]))) && (qG (qh.1) ([({ kind:=1,hour:=2,index:=0,litres:=11,limit:=9} : Fault),({ kind:=3,hour:=3,index:=1,litres:=7,limit:=6} : Fault),({ kind:=3,hour:=4,index:=1,litres:=7,limit:=6} : Fault),({ kind:=4,hour:=2,index:=0,litres:=11,limit:=10} : Fault)]))) && qg.1))
def yM : Prop:=((fL dI eS db)∧((d7 dI eS db)∧((jh dI db 1 5)∧((fV.length * 32≤fN)∧(fV.length≤bu→((0≤0∧0 < (fV.length : Int))∧((0≤1∧1 < (mh.length : Int))∧((0≤3∧3 < (ml.length : Int))∧((d7 dI eS qi)∧((0≤0∧0 < (aN.reaches.length : Int))∧((0≤1∧1 < (lv.length : Int))∧((d7 d5 ([]) db)∧((fL d5 ([]) ([]))∧((fL o7 ([]) ([]))∧((jh d5 ([]) (-1) 0)∧(d7 d5 ([]) ([({ hour:=0,index:=0,litres:=0,outlet:=false} : Order)])))))))))))))))))
@[go_sem] def Og : List SV→Option Con:=(pE (.det (yM) (.v (.bool (Cg)))))
end Go.Sx
end
section
namespace Go.Sx
open Go.Proofs
theorem xI {a b : Bool} (h : a=true↔b=true) : a=b:=by cases a <;> cases b <;> simp_all
def Grid (g : List (List Int)) (n m : Nat) : Prop:=g.length=n∧∀ i,i < n→(g.getD i []).length=m
theorem Grid.app {g : List (List Int)} {n m : Nat} {r : List Int} (h : Grid g n m) (hr : r.length=m) : Grid (g ++ [r]) (n + 1) m:=by
 refine ⟨by simp [h.1],fun i hi=> ?_⟩
 by_cases e : i < n
 ·have:=h.2 i e
  simp only [List.getD_eq_getElem?_getD] at this ⊢
  rw [List.getElem?_append_left (by rw [h.1];exact e)]
  exact this
 ·have : i=g.length:=by have:=h.1;omega
  subst this
  simp [hr]
theorem Grid.set {g : List (List Int)} {n m i : Nat} {r : List Int} (h : Grid g n m) (hr : i < n→r.length=m) : Grid (g.set i r) n m:=by
 refine ⟨by simp [h.1],fun j hj=> ?_⟩
 have h0:=h.2 j hj
 simp only [List.getD_eq_getElem?_getD] at h0 ⊢
 rw [List.getElem?_set]
 split
 ·rename_i e
  subst e
  split
  ·simpa using hr hj
  ·rename_i hn;exact absurd (by rw [h.1];exact hj) hn
 ·exact h0
theorem Grid.row {g : List (List Int)} {n m i : Nat} (h : Grid g n m) (hi : i < n) : (g.getD i []).length=m:=h.2 i hi
structure Table1 (d : District) (l : List Order) (t : CertifyTable) : Prop where
 td : t.d=d
 tl : t.l=l
 sums : Grid t.sums d.reaches.length (d.hours + 1).toNat
 drawn : Grid t.drawn d.reaches.length d.hours.toNat
 ords : Orders1 d l
def gF (t : CertifyTable) (kind : Int) (k : Nat) : List Fault:=
 bif (t.l.getD k default).outlet then [] else
 bif kind==2 then
  bif decide ((t.l.getD k default).litres < (t.d.reaches.getD (t.l.getD k default).index.toNat default).siphon) then
   [{ kind:=kind,hour:=(t.l.getD k default).hour,index:=(t.l.getD k default).index,litres:=(t.l.getD k default).litres,limit:=(t.d.reaches.getD (t.l.getD k default).index.toNat default).siphon}] else []
 else
  bif decide ((t.l.getD k default).litres > (t.d.reaches.getD (t.l.getD k default).index.toNat default).cap) then
   [{ kind:=kind,hour:=(t.l.getD k default).hour,index:=(t.l.getD k default).index,litres:=(t.l.getD k default).litres,limit:=(t.d.reaches.getD (t.l.getD k default).index.toNat default).cap}] else []
def Jt (t : CertifyTable) (z : Int×Int) : Int:=
 IntKind.i64.wrap ((t.sums.getD z.2.toNat default).getD (IntKind.i64.wrap (z.1 + 1)).toNat 0 - (t.sums.getD z.2.toNat default).getD (if 0 < IntKind.i64.wrap (IntKind.i64.wrap (z.1 + 1) - (t.d.reaches.getD z.2.toNat default).delay) then IntKind.i64.wrap (IntKind.i64.wrap (z.1 + 1) - (t.d.reaches.getD z.2.toNat default).delay) else 0).toNat 0)
def bF (t : CertifyTable) (z : Int×Int) : List Fault:=
 bif decide (Jt t z > (t.d.reaches.getD z.2.toNat default).bank) then [{ kind:=3,hour:=z.1,index:=z.2,litres:=Jt t z,limit:=(t.d.reaches.getD z.2.toNat default).bank}] else []
def wF (t : CertifyTable) (z : Int×Int) : List Fault:=
 bif decide ((t.drawn.getD z.2.toNat default).getD z.1.toNat 0 > bC t z.2 z.1) then [{ kind:=5,hour:=z.1,index:=z.2,litres:=(t.drawn.getD z.2.toNat default).getD z.1.toNat 0,limit:=bC t z.2 z.1}] else []
def uF (t : CertifyTable) (m : List (CertifyPlace×Int)) (h f : Nat) : List Fault:=
 bif decide (ay Tag.certifyPlace Tag.int t.litres { hour:=(h : Int),index:=(f : Int),outlet:=true} < ay Tag.certifyPlace Tag.int m { hour:=(h : Int),index:=(f : Int),outlet:=true}) then
  [{ kind:=6,hour:=(h : Int),index:=(f : Int),litres:=ay Tag.certifyPlace Tag.int t.litres { hour:=(h : Int),index:=(f : Int),outlet:=true},limit:=ay Tag.certifyPlace Tag.int m { hour:=(h : Int),index:=(f : Int),outlet:=true}}] else []
theorem xJ (d : District) (c : List Claim) : eP d c:=fun _ h1 _ _=> py _ _ _ fun j s h2 h3=> by
 unfold bu at h1
 unfold fK
 refine ⟨fun h=> ?_,fun h=> ?_,fun _ h=> ?_⟩
 ·simp only [Bool.not_eq_false',Bool.and_eq_true,decide_eq_true_eq] at h
  omega
 ·simp only [Bool.or_eq_false_iff,Bool.not_eq_false',Bool.and_eq_true,decide_eq_true_eq] at h
  omega
 ·simp only [decide_eq_true_eq] at h
  rw [mS (by omega) (by omega)];omega
theorem yN (d : District) (c : List Claim) : ba d c=0↔bt d=0∧c.length≤4096∧∀ k,k < c.length→dW d c k ()= .inr () :=by
 unfold ba
 cases h1 : (bt d !=0) with
 | true=> simp at h1;simp [h1]
 | false=>
  simp at h1
  simp only [cond_false,h1,true_and]
  cases h2 : decide ((c.length : Int) > 4096) with
  | true=> simp at h2;simp;omega
  | false=>
   simp at h2
   rw [←Ab]
   cases h3 : az (dW d c) c.length 0 () with
   | inl y=> simp
   | inr y=> simp;omega
def Ju (c : List Claim) : List (CertifyPlace×Int) :=match az (eF c) c.length 0 [] with | .inl x=> x.elim | .inr m=> m
structure Quiet (t : CertifyTable) (c : List Claim) : Prop where
 gate : ∀ k,k < t.l.length→gF t 1 k=[]
 siph : ∀ k,k < t.l.length→gF t 2 k=[]
 bank : ∀ z∈fw t,bF t z=[]
 tank : ∀ j,j < t.d.hours.toNat→¬ ((t.sums.getD 0 (default : List Int)).getD (IntKind.i64.wrap ((j : Int) + 1)).toNat 0 > t.d.tank.start)
 water : ∀ z∈fw t,wF t z=[]
 unmet : ∀ h,h < t.d.hours.toNat→∀ f,f < t.d.farms.length→uF t (Ju c) h f=[]
def sX (a b : Claim) : Prop:=a.hour < b.hour∨a.hour=b.hour∧(a.rank < b.rank∨a.rank=b.rank∧(a.right < b.right∨a.right=b.right∧a.farm < b.farm))
theorem Ch {a b c : Claim} (h1 : sX a b) (h2 : sX b c) : sX a c:=by
 unfold sX at *;omega
theorem Rd (a b c d : Int) : iA [a,b,c,d]=if a≠0 then a else if b≠0 then b else if c≠0 then c else d:=by
 unfold iA
 simp only [List.length_cons,List.length_nil,Nat.zero_add,Nat.reduceAdd,az,j9,List.getD_cons_zero,List.getD_cons_succ]
 by_cases h1 : a=0 <;> by_cases h2 : b=0 <;> by_cases h3 : c=0 <;> by_cases h4 : d=0 <;> simp [h1,h2,h3,h4,Bool.cond_eq_ite]
theorem FV (a b : Claim) : gc a b < 0↔sX a b:=by
 unfold gc sX
 rw [Rd]
 simp only [g_]
 repeat' split
 all_goals (first | omega | skip)
def okC (d : District) (a : Claim) : Bool:=(((((((((decide (a.right≥0)) && (decide (a.right < (d.rights.length : Int)))) && (decide (a.farm≥0))) && (decide (a.farm < (d.farms.length : Int)))) && (decide (a.hour≥0))) && (decide (a.hour < d.hours))) && (decide (a.litres≥1))) && (decide (a.litres≤1073741824)))) && ((d.rights.getD a.right.toNat default).kind==1) && ((d.rights.getD a.right.toNat default).rank==a.rank)
theorem tz {d : District} {c : List Claim} {k : Nat} (hk : k < 4096) : dW d c k ()= .inr ()↔okC d (c.getD k default)=true∧(0 < k→sX (c.getD (k - 1) default) (c.getD k default)) :=by
 have hw : k > 0→(IntKind.i64.wrap ((k : Int) - 1)).toNat=k - 1:=fun h=> by rw [mS (by omega) h];simp
 have hb : ∀ X : Bool,((bif X then Sum.inl () else Sum.inr ()) : Unit⊕Unit)= .inr ()↔X=false:=fun X=> by cases X <;> simp
 unfold dW okC
 rw [hb]
 generalize hq : ((((((((decide ((c.getD k default).right≥0)) && (decide ((c.getD k default).right < (d.rights.length : Int)))) && (decide ((c.getD k default).farm≥0))) && (decide ((c.getD k default).farm < (d.farms.length : Int)))) && (decide ((c.getD k default).hour≥0))) && (decide ((c.getD k default).hour < d.hours))) && (decide ((c.getD k default).litres≥1))) && (decide ((c.getD k default).litres≤1073741824)))=q
 clear hq
 by_cases h0 : 0 < k
 ·rw [hw h0,←FV]
  have hp : decide ((k : Int) > 0)=true:=by simp;omega
  rw [hp]
  simp only [Bool.or_eq_false_iff,Bool.and_eq_true,Bool.not_eq_false',Bool.true_and,bne_eq_false_iff_eq,beq_iff_eq,decide_eq_false_iff_not,h0,true_imp_iff]
  generalize gc (c.getD (k - 1) default) (c.getD k default)=z
  constructor
  ·rintro ⟨⟨⟨h1,h2⟩,h3⟩,h4⟩;exact ⟨⟨⟨h1,h2⟩,h3⟩,by omega⟩
  ·rintro ⟨⟨⟨h1,h2⟩,h3⟩,h4⟩;exact ⟨⟨⟨h1,h2⟩,h3⟩,by omega⟩
 ·have hp : decide ((k : Int) > 0)=false:=by simp;omega
  rw [hp]
  simp only [Bool.or_eq_false_iff,Bool.and_eq_true,Bool.not_eq_false',Bool.false_and,bne_eq_false_iff_eq,beq_iff_eq,h0,false_imp_iff,and_true]
theorem nD (d : District) (c : List Claim) : ba d c=0↔bt d=0∧c.length≤4096∧(∀ a∈c,okC d a=true)∧c.Pairwise sX:=by
 rw [yN]
 refine and_congr_right fun _=> and_congr_right fun hl=> ?_
 constructor
 ·intro h
  have hs:=fun k hk=> (tz (by omega)).1 (h k hk)
  refine ⟨fun a ha=> ?_,?_⟩
  ·obtain ⟨k,hk,rfl⟩ :=List.getElem_of_mem ha
   have:=(hs k hk).1
   rwa [c9 _ _ hk] at this
  ·have key : ∀ (k j : Nat),j < k→k < c.length→sX (c.getD j default) (c.getD k default) :=by
    intro k
    induction k with
    | zero=> intro j h1;omega
    | succ k ih=>
     intro j h1 h2
     have h3:=(hs (k + 1) h2).2 (by omega)
     rw [Nat.add_sub_cancel] at h3
     by_cases e : j=k
     ·subst e;exact h3
     ·exact Ch (ih j (by omega) (by omega)) h3
   rw [List.pairwise_iff_getElem]
   intro i j hi hj hij
   have:=key j i hij hj
   rwa [c9 _ _ hi,c9 _ _ hj] at this
 ·rintro ⟨h1,h2⟩ k hk
  refine (tz (by omega)).2 ⟨?_,fun h0=> ?_⟩
  ·rw [c9 _ _ hk];exact h1 _ (List.getElem_mem _)
  ·rw [c9 _ _ hk,c9 _ _ (by omega : k - 1 < c.length)]
   exact List.pairwise_iff_getElem.1 h2 _ _ _ _ (by omega)
def qI (a : Claim) : CertifyPlace:= { hour:=a.hour,index:=a.farm,outlet:=true}
def eE (p : CertifyPlace) : List Claim→Int
 | [] => 0
 | a :: r=> (if p=qI a then a.litres else 0) + eE p r
theorem Ay (p : CertifyPlace) (a b : List Claim) : eE p (a ++ b)=eE p a + eE p b:=by
 induction a with
 | nil=> simp [eE]
 | cons x r ih=> simp only [List.cons_append,eE,ih];omega
theorem wJ (p : CertifyPlace) (c : List Claim) (h : ∀ a∈c,1≤a.litres∧a.litres≤1073741824) : 0≤eE p c∧eE p c≤c.length * 1073741824:=by
 induction c with
 | nil=> simp [eE]
 | cons x r ih=>
  have h1:=ih fun a ha=> h a (List.mem_cons_of_mem _ ha)
  have h2:=h x List.mem_cons_self
  simp only [eE,List.length_cons]
  split <;> omega
theorem Ci {d : District} {a : Claim} (h : okC d a=true) : 1≤a.litres∧a.litres≤1073741824:=by
 unfold okC at h
 simp only [Bool.and_eq_true,decide_eq_true_eq] at h
 omega
def aY (reach a b : Int) (x : Order) : Bool:=(!x.outlet && x.index==reach) && decide (x.hour≥a) && decide (x.hour≤b)
def lw (farm hour : Int) (x : Order) : Bool:=(x.outlet && x.index==farm) && x.hour==hour
def cell (g : List (List Int)) (i j : Nat) : Int:=(g.getD i []).getD j 0
def iH (h i : Int) (o : Bool) (x : Order) : Bool:=(x.hour==h && x.index==i) && x.outlet==o
structure T1 (d : District) (pre : List Order) (s : List (CertifyPlace×Int)×List (List Int)×List (List Int)) : Prop where
 lit : ∀ h i o,ay .certifyPlace .int s.1 { hour:=h,index:=i,outlet:=o} =aT (iH h i o) pre
 gd : Grid s.2.1 d.reaches.length d.hours.toNat
 gs : Grid s.2.2 d.reaches.length (d.hours + 1).toNat
 drawn : ∀ r h,r < d.reaches.length→h < d.hours.toNat→cell s.2.1 r h=aT (rS d r h) pre
 sums : ∀ r t,r < d.reaches.length→t < (d.hours + 1).toNat→cell s.2.2 r t=aT (aY r ((t : Int) - 1) ((t : Int) - 1)) pre
theorem FW {d : District} {l : List Order} (ho : Orders1 d l) {j : Nat} (hj : j < l.length) {p : Order→Bool} (hp : ∀ x,p x=true→x.hour=l[j].hour∧x.index=l[j].index∧x.outlet=l[j].outlet) : aT p (l.take j)=0:=
 ew fun x hx=> by
  obtain ⟨i,hi,rfl⟩ :=List.getElem_of_mem hx
  rw [List.length_take] at hi
  rw [List.getElem_take]
  cases h : p l[i] with
  | false=> rfl
  | true=>
   obtain ⟨e1,e2,e3⟩ :=hp _ h
   have:=ho.uniq (by omega) hj e1 e2 e3
   omega
theorem yO {d : District} {l : List Order} (ho : Orders1 d l) (p : Order→Bool) (j : Nat) : 0≤aT p (l.take j)∧aT p (l.take j)≤4398046511104:=by
 have hb:=vD (p:=p) fun a ha=> ho.lit a (List.mem_of_mem_take (i:=j) ha)
 have hl:=ho.len
 have hb3 : (l.take j).length≤4096:=by rw [List.length_take];omega
 omega
theorem mn {d : District} {l : List Order} (ho : Orders1 d l) (p : Order→Bool) : 0≤aT p l∧aT p l≤4398046511104:=by
 have:=yO ho p l.length
 rwa [List.take_length] at this
structure Table2 (d : District) (l : List Order) (t : CertifyTable) : Prop where
 lit : ∀ h i o,ay .certifyPlace .int t.litres { hour:=h,index:=i,outlet:=o} =aT (iH h i o) l
 drawn : ∀ r h,r < d.reaches.length→h < d.hours.toNat→cell t.drawn r h=aT (rS d r h) l
 sums : ∀ r j,r < d.reaches.length→j < (d.hours + 1).toNat→cell t.sums r j=aT (aY r 0 ((j : Int) - 1)) l
structure Sure (d : District) (c : List Claim) (l : List Order) : Prop where
 ho : Orders1 d l
 clen : c.length≤4096
 okc : ∀ a∈c,okC d a=true
 cap : ∀ r h : Nat,r < d.reaches.length→aT (aY r h h) l≤(d.reaches.getD r default).cap
 bank : ∀ r h : Nat,r < d.reaches.length→h < d.hours.toNat→aT (aY r ((h : Int) - (d.reaches.getD r default).delay + 1) h) l≤(d.reaches.getD r default).bank
 tank : ∀ h : Nat,h < d.hours.toNat→aT (aY (0 : Nat) 0 h) l≤d.tank.start
 water : ∀ r h : Nat,r < d.reaches.length→h < d.hours.toNat→aT (rS d r h) l≤(b4 (d.reaches.getD r default) (aT (aY r ((h : Int) - (d.reaches.getD r default).delay) ((h : Int) - (d.reaches.getD r default).delay)) l)).1
 unmet : ∀ h f : Nat,h < d.hours.toNat→f < d.farms.length→eE { hour:=(h : Int),index:=(f : Int),outlet:=true} c≤aT (lw f h) l
theorem Jv {d : District} {l : List Order} (ho : Orders1 d l) (r h : Int) : aT (aY r h h) l=0∨∃ (j : Nat) (hj : j < l.length),l[j].outlet=false∧l[j].index=r∧l[j].hour=h∧aT (aY r h h) l=l[j].litres:=by
 by_cases hx : ∃ (j : Nat) (hj : j < l.length),aY r h h l[j]=true
 ·obtain ⟨j,hj,hp⟩ :=hx
  have hp':=hp
  unfold aY at hp'
  simp only [Bool.and_eq_true,beq_iff_eq,decide_eq_true_eq,Bool.not_eq_true'] at hp'
  refine .inr ⟨j,hj,hp'.1.1.1,hp'.1.1.2,by omega,Ac hj hp fun i hi hne=> ?_⟩
  cases hq : aY r h h l[i] with
  | false=> rfl
  | true=>
   unfold aY at hq
   simp only [Bool.and_eq_true,beq_iff_eq,decide_eq_true_eq,Bool.not_eq_true'] at hq
   exact absurd (ho.uniq hi hj (by omega) (hq.1.1.2.trans hp'.1.1.2.symm) (hq.1.1.1.trans hp'.1.1.1.symm)) hne
 ·refine .inl (ew fun x hxm=> ?_)
  obtain ⟨j,hj,rfl⟩ :=List.getElem_of_mem hxm
  cases hq : aY r h h l[j] with
  | false=> rfl
  | true=> exact absurd ⟨j,hj,hq⟩ hx
theorem nE {d : District} {l : List Order} (ho : Orders1 d l) (r h : Int) : 0≤aT (aY r h h) l∧aT (aY r h h) l≤1073741824:=by
 rcases Jv ho r h with h1 | ⟨j,hj,_,_,_,h1⟩
 ·omega
 ·have:=ho.lit l[j] (List.getElem_mem _);omega
theorem Cj (r h : Int) (x : Order) : iH h r false x=aY r h h x:=by
 unfold iH aY
 refine xI ?_
 simp only [Bool.and_eq_true,beq_iff_eq,decide_eq_true_eq,Bool.not_eq_true']
 constructor
 ·rintro ⟨⟨h1,h2⟩,h3⟩;exact ⟨⟨⟨h3,h2⟩,by omega⟩,by omega⟩
 ·rintro ⟨⟨⟨h3,h2⟩,h1⟩,h4⟩;exact ⟨⟨by omega,h2⟩,h3⟩
theorem FX (f h : Int) (x : Order) : iH h f true x=lw f h x:=by
 unfold iH lw
 cases x.outlet <;> cases (x.index==f) <;> cases (x.hour==h) <;> rfl
theorem vQ {d : District} {l : List Order} (ho : Orders1 d l) (r : Int) {a m b : Int} (h1 : a≤m) (h2 : m≤b + 1) : aT (aY r a (m - 1)) l + aT (aY r m b) l=aT (aY r a b) l:=rK fun x _=> by
 unfold aY
 cases (!x.outlet && x.index==r)
 ·simp
 ·simp only [Bool.true_and]
  constructor
  ·refine xI ?_
   simp only [Bool.or_eq_true,Bool.and_eq_true,decide_eq_true_eq];omega
  ·rw [Bool.eq_false_iff]
   simp only [ne_eq,Bool.and_eq_true,decide_eq_true_eq];omega
end Go.Sx
end
section
namespace Go.Sx
open Go.Proofs
set_option maxRecDepth 100000
set_option linter.unusedSimpArgs false
theorem Az {p : Prop} (h : p:=by (first | done | (repeat' (first | with_reducible refine And.intro ?_ ?_ | ((with_reducible show _≠_);first | assumption | omega | (simp_all [aG,aK];done) | grind) | with_reducible intro _)) <;> (first | done | exact Empty.elim ‹Empty› | assumption | rfl | omega | decide | exact fk [0] | (simp only [*,cond_true,cond_false,Bool.not_true,Bool.not_false,go_sem,Nat.reduceBEq,Nat.reduceLeDiff,Nat.reduceLT,decide_true,Nat.reduceAdd,Nat.reduceSub,Nat.reduceMul,Int.reduceLE,Int.reduceLT,Int.reduceToNat,Int.reduceNeg,reduceCtorEq];done) | (simp only [*,cond_true,cond_false,Bool.not_true,Bool.not_false,go_sem,Nat.reduceBEq,Nat.reduceLeDiff,Nat.reduceLT,decide_true,Nat.reduceAdd,Nat.reduceSub,Nat.reduceMul,Int.reduceLE,Int.reduceLT,Int.reduceToNat,Int.reduceNeg,reduceCtorEq];(repeat' (first | with_reducible refine And.intro ?_ ?_ | ((with_reducible show _≠_);first | assumption | omega | (simp_all [aG,aK];done) | grind) | with_reducible intro _)) <;> (first | done | assumption | rfl | omega | decide | exact fk [0] | (simp_all [aG,aK];done))) | (simp_all [okI,aG,aK];done) | (simp_all [aG,aK];(first | done | exact fk2 [0])) | exact fk2 [0]))) : p:=h
theorem AA {p : Prop} (h : p:=by (first | done | (repeat' (first | with_reducible refine And.intro ?_ ?_ | ((with_reducible show _≠_);first | assumption | omega | (simp_all [aG,aK];done) | grind) | with_reducible intro _)) <;> (first | done | exact Empty.elim ‹Empty› | assumption | rfl | omega | decide | exact fk [0,1,5] | exact fk [0,1,2] | (simp only [*,cond_true,cond_false,Bool.not_true,Bool.not_false,go_sem,Nat.reduceBEq,Nat.reduceLeDiff,Nat.reduceLT,decide_true,Nat.reduceAdd,Nat.reduceSub,Nat.reduceMul,Int.reduceLE,Int.reduceLT,Int.reduceToNat,Int.reduceNeg,reduceCtorEq];done) | (simp only [*,cond_true,cond_false,Bool.not_true,Bool.not_false,go_sem,Nat.reduceBEq,Nat.reduceLeDiff,Nat.reduceLT,decide_true,Nat.reduceAdd,Nat.reduceSub,Nat.reduceMul,Int.reduceLE,Int.reduceLT,Int.reduceToNat,Int.reduceNeg,reduceCtorEq];(repeat' (first | with_reducible refine And.intro ?_ ?_ | ((with_reducible show _≠_);first | assumption | omega | (simp_all [aG,aK];done) | grind) | with_reducible intro _)) <;> (first | done | assumption | rfl | omega | decide | exact fk [0,1,5] | exact fk [0,1,2] | (simp_all [aG,aK];done))) | (simp_all [okI,aG,aK];done) | (simp_all [aG,aK];(first | done | exact fk2 [0,1,5] | exact fk2 [0,1,2])) | exact fk2 [0,1,5] | exact fk2 [0,1,2]))) : p:=h
theorem AB {p : Prop} (h : p:=by (first | done | (repeat' (first | with_reducible refine And.intro ?_ ?_ | ((with_reducible show _≠_);first | assumption | omega | (simp_all [aG,aK];done) | grind) | with_reducible intro _)) <;> (first | done | exact Empty.elim ‹Empty› | assumption | rfl | omega | decide | exact fk [] | (simp only [*,cond_true,cond_false,Bool.not_true,Bool.not_false,go_sem,Nat.reduceBEq,Nat.reduceLeDiff,Nat.reduceLT,decide_true,Nat.reduceAdd,Nat.reduceSub,Nat.reduceMul,Int.reduceLE,Int.reduceLT,Int.reduceToNat,Int.reduceNeg,reduceCtorEq];done) | (simp only [*,cond_true,cond_false,Bool.not_true,Bool.not_false,go_sem,Nat.reduceBEq,Nat.reduceLeDiff,Nat.reduceLT,decide_true,Nat.reduceAdd,Nat.reduceSub,Nat.reduceMul,Int.reduceLE,Int.reduceLT,Int.reduceToNat,Int.reduceNeg,reduceCtorEq];(repeat' (first | with_reducible refine And.intro ?_ ?_ | ((with_reducible show _≠_);first | assumption | omega | (simp_all [aG,aK];done) | grind) | with_reducible intro _)) <;> (first | done | assumption | rfl | omega | decide | exact fk [] | (simp_all [aG,aK];done))) | (simp_all [okI,aG,aK];done) | (simp_all [aG,aK];(first | done | exact fk2 [])) | exact fk2 []))) : p:=h
theorem Jw {p : Prop} (h : p:=by simp only [go_sem,Nat.reduceBEq,Nat.reduceLeDiff,Nat.reduceLT,decide_true,Nat.reduceAdd,Nat.reduceSub,Nat.reduceMul,Int.reduceLE,Int.reduceLT,Int.reduceToNat,Int.reduceNeg,reduceCtorEq,hc,hw];all_goals exact Az) : p:=h
theorem Jx {p : Prop} (h : p:=by simp only [go_sem,Nat.reduceBEq,Nat.reduceLeDiff,Nat.reduceLT,decide_true,Nat.reduceAdd,Nat.reduceSub,Nat.reduceMul,Int.reduceLE,Int.reduceLT,Int.reduceToNat,Int.reduceNeg,reduceCtorEq,hc];all_goals exact Az) : p:=h
theorem Jy {p : Prop} (h : p:=by simp only [go_sem,Nat.reduceBEq,Nat.reduceLeDiff,Nat.reduceLT,decide_true,Nat.reduceAdd,Nat.reduceSub,Nat.reduceMul,Int.reduceLE,Int.reduceLT,Int.reduceToNat,Int.reduceNeg,reduceCtorEq,hc,hw];all_goals exact AB) : p:=h
theorem Jz {p : Prop} (h : p:=by simp only [go_sem,Nat.reduceBEq,Nat.reduceLeDiff,Nat.reduceLT,decide_true,Nat.reduceAdd,Nat.reduceSub,Nat.reduceMul,Int.reduceLE,Int.reduceLT,Int.reduceToNat,Int.reduceNeg,reduceCtorEq,hc];all_goals exact AB) : p:=h
@[go_sem] def bI (c : List Claim) (k_0 : Nat) (s_0 : List (TimetableSlot×Int)) : Empty⊕(List (TimetableSlot×Int)) := .inr (cU .timetableSlot .int s_0 ({ index:=(c.getD k_0 (default : Claim)).farm,hour:=(c.getD k_0 (default : Claim)).hour} : TimetableSlot) (IntKind.i64.wrap ((ay .timetableSlot .int s_0 ({ index:=(c.getD k_0 (default : Claim)).farm,hour:=(c.getD k_0 (default : Claim)).hour} : TimetableSlot)) + (c.getD k_0 (default : Claim)).litres)))
@[go_sem] def b_ (s_0 : List (TimetableSlot×Int)) (k_1 : TimetableSlot×Int) (s_1 : List Order) : Empty⊕(List Order) := .inr (s_1 ++ ([({ hour:=k_1.1.hour,index:=k_1.1.index,litres:=k_1.2,outlet:=true} : Order)]))
def dc (s_0 : List (TimetableSlot×Int)) (k_1 : TimetableSlot×Int) (s_1 : List Order) : Prop:=((s_1 ++ ([({ hour:=k_1.1.hour,index:=k_1.1.index,litres:=k_1.2,outlet:=true} : Order)])).length * 32≤fN)
def am (c : List Claim) : List Order:=(match az (bI c) c.length 0 ([]) with | .inl x=> x.elim | .inr s_0=> (match bJ (b_ s_0) s_0 ([]) with | .inl x=> x.elim | .inr s_1=> (srt ap s_1)))
def eL (c : List Claim) : Prop:=(c.length≤bu→(∀ s_0,az (bI c) c.length 0 ([])= .inr s_0→(∀ L_1,L_1.Perm s_0→(okL (b_ s_0) (dc s_0) L_1 ([])∧(∀ s_1,bJ (b_ s_0) L_1 ([])= .inr s_1→((apart ap s_1)∧((srt ap s_1)=(am c))))))))
@[go_sem] def gy : List SV→Option Con:=(pR .claim fun c=> (pE (.det (eL c) (.nw .order (am c)))))
set_option maxHeartbeats 4000000 in
theorem jV : FnOk Tryz.prog 63 gy:=by
 have hG : ConsOk Tryz.prog (mkG [] [(97,gY)]) :=aQ cg0 (cgc tx cg0)
 refine qz true mixed aH hG (fn:=Tryz.f63) (c:=aj Tryz.f63) (by kernel_rfl) (by kernel_rfl) (by kernel_rfl) (by kernel_rfl) (c8 fun c=> (aM (fun hp=> ?_)))
 dsimp only [aW] at hp
 unfold eL at hp
 refine ⟨Nat.le_of_ble_eq_true rfl,(fun id st=> bif Nat.beq id 0 then some (LCR (ρ:=Empty) (σ:=(List (TimetableSlot×Int))) 1 [] [0] (fun k_0 s_0=> ⟨[(2,.v (.slice none 0 0)),(3,.os 0),(9,.rs .claim c),(10,.v (.int .i64 (c.length : Int))),(11,.v (.int .i64 (k_0 : Int)))],[.mp .timetableSlot .int s_0 none]⟩) (bI c) pT c.length ([]) (c.length≤bu) ((·.elim)) ((·.elim)) st) else bif Nat.beq id 2 then some (LCP (τ:=TimetableSlot×Int) (ρ:=Empty) (σ:=(List Order)) 2 [.slot 2 (.row .order ([]))] [0,1,2] (fun left_1 cur_1 s_1=> ⟨[(2,.os 2),(29,.ptr 1 0)],[.mp .timetableSlot .int (aG (az (bI c) c.length 0 ([]))) none,.mi (some 0) (aG (az (bI c) c.length 0 ([]))).length left_1 cur_1,.row .order s_1]⟩) (b_ (aG (az (bI c) c.length 0 ([])))) (dc (aG (az (bI c) c.length 0 ([])))) (aG (az (bI c) c.length 0 ([]))) ([]) ((·.elim)) ((·.elim)) (fun s_1=> ⟨[(2,.os 2)],[.dead,.dead,.row .order s_1]⟩) st) else none),?_,?_⟩
 ·unfold aj Tryz.f63
  simp only [aB,true_and,and_true]
  refine ⟨?_,?_⟩
  ·refine cp mixed aH hG (by kernel_rfl) (fun _=> rfl) (c.length : Int) rfl jS (fun hb0 k_0 s_0 hlt0 _ hw hc=> ⟨L0,aw _,?_⟩) (fun hb0 s_0 hc=> ?_)
   ·exact Jw
   ·exact Jx
  ·refine Ji (c6 .timetableSlot,c6 .int) 1 mixed aH hG (by kernel_rfl) (fun _=> rfl) fun left_1 cur_1 s_1 hp1=> ⟨L0,aw _,?_⟩
   ·by_cases hl1 : left_1=[]
    ·subst hl1
     simp only [go_sem,Nat.reduceBEq,Nat.reduceLeDiff,Nat.reduceLT,decide_true,Nat.reduceAdd,Nat.reduceSub,Nat.reduceMul,Int.reduceLE,Int.reduceLT,Int.reduceToNat,Int.reduceNeg,reduceCtorEq,List.not_mem_nil]
     all_goals exact AA
    ·simp only [go_sem,Nat.reduceBEq,Nat.reduceLeDiff,Nat.reduceLT,decide_true,Nat.reduceAdd,Nat.reduceSub,Nat.reduceMul,Int.reduceLE,Int.reduceLT,Int.reduceToNat,Int.reduceNeg,reduceCtorEq,hl1]
     intro j hj1
     obtain ⟨hlt1,hq1⟩ :=hp1 j hj1
     unfold dc at hq1
     all_goals exact AA
 ·unfold aj Tryz.f63
  simp only [go_sem,Nat.reduceBEq,Nat.reduceLeDiff,Nat.reduceLT,decide_true,Nat.reduceAdd,Nat.reduceSub,Nat.reduceMul,Int.reduceLE,Int.reduceLT,Int.reduceToNat,Int.reduceNeg,reduceCtorEq]
  all_goals exact clP
@[go_sem] def aX (s_ : List Order) (k_0 : Nat) (s_0 : Unit) : Int⊕Unit:=(bif (iC (s_.getD k_0 (default : Order))) then .inl (k_0 : Int) else .inr ())
def b5 (s_ : List Order) : Int:=(match az (aX s_) s_.length 0 () with | .inl x_0_0=> x_0_0 | .inr s_0=> (-1))
@[go_sem] def dJ : List SV→Option Con:=(pR .order fun s_=> (pFn 65 (pE ((pE (.det True (.v (.int .i64 (b5 s_)))))))))
set_option maxHeartbeats 4000000 in
theorem fO : FnOk Tryz.prog 109 dJ:=by
 have hG : ConsOk Tryz.prog (mkG [(65,ko)] []) :=aQ (cgc oZ cg0) cg0
 refine bb [.o] mixed aH hG (fn:=Tryz.f109) (c:=aj Tryz.f109) (by kernel_rfl) (by kernel_rfl) (by kernel_rfl) (by kernel_rfl) (c8 fun s_=> (ip (aM ((aM (fun hp=> ?_))))))
 dsimp only [aW] at hp
 refine ⟨Nat.le_of_ble_eq_true rfl,(fun id st=> bif Nat.beq id 0 then some (LCR (ρ:=Int) (σ:=Unit) 0 [] [] (fun k_0 s_0=> ⟨[(0,.rs .order s_),(1,.fn 65 [] []),(7,.v (.int .i64 (s_.length : Int))),(8,.v (.int .i64 (k_0 : Int)))],[]⟩) (aX s_) pT s_.length () (s_.length≤bu) (fun _=> .ret) (fun x_0_0=> ⟨[(4,.v (.int .i64 x_0_0))],[]⟩) st) else none),?_,?_⟩
 ·unfold aj Tryz.f109
  simp only [aB,true_and,and_true]
  ·refine cp mixed aH hG (by kernel_rfl) (fun _=> rfl) (s_.length : Int) rfl jS (fun hb0 k_0 s_0 hlt0 _ hw hc=> ⟨L0,aw _,?_⟩) (fun hb0 s_0 hc=> ?_)
   ·exact Jy
   ·exact Jz
 ·unfold aj Tryz.f109
  try unfold b5
  simp only [go_sem,Nat.reduceBEq,Nat.reduceLeDiff,Nat.reduceLT,decide_true,Nat.reduceAdd,Nat.reduceSub,Nat.reduceMul,Int.reduceLE,Int.reduceLT,Int.reduceToNat,Int.reduceNeg,reduceCtorEq]
  all_goals exact cl
def aI (s_ : List Order) : Bool:=(decide ((b5 s_)≥0))
@[go_sem] def ce : List SV→Option Con:=(pR .order fun s_=> (pFn 65 (pE ((pE (.det True (.v (.bool (aI s_)))))))))
theorem df : FnOk Tryz.prog 64 ce:=by
 have hG : ConsOk Tryz.prog (mkG [(109,fun l=> dJ (cO [.sl .order,.o] l))] []) :=aQ (cgc (fO.norm [.sl .order,.o]) cg0) cg0
 refine bb [.o] mixed aH hG (fn:=Tryz.f64) (c:=aj Tryz.f64) (by kernel_rfl) (by kernel_rfl) (by kernel_rfl) (by kernel_rfl) (c8 fun s_=> (ip (aM ((aM (fun hp=> ?_))))))
 dsimp only [aW] at hp
 refine ⟨Nat.le_of_ble_eq_true rfl,L0,aw _,?_⟩
 ·unfold aj Tryz.f64
  try unfold aI
  simp only [go_sem,Nat.reduceBEq,Nat.reduceLeDiff,Nat.reduceLT,decide_true,Nat.reduceAdd,Nat.reduceSub,Nat.reduceMul,Int.reduceLE,Int.reduceLT,Int.reduceToNat,Int.reduceNeg,reduceCtorEq]
  all_goals exact cl
def ag (d : District) (c : List Claim) : List Order×Int:=(bif ((ba d c) !=0) then ([],(ba d c)) else (bif (decide ((IntKind.i64.wrap ((d.reaches.length : Int) * d.hours)) > 1024)) then ([],2) else (bif (aI (am c)) then ([],270) else ((am c),0))))
def dg (d : District) (c : List Claim) : Prop:=((eP d c)∧(((ba d c) !=0)=false→(d.reaches.length≤bu→((decide ((IntKind.i64.wrap ((d.reaches.length : Int) * d.hours)) > 1024))=false→(eL c)))))
@[go_sem] def iI : List SV→Option Con:=(pD .district fun d=> (pR .claim fun c=> (pE (.det (dg d c) (.tup [.rs .order ((ag d c).1),.v (.int .i64 ((ag d c).2))])))))
theorem lz : FnOk Tryz.prog 33 iI:=by
 have hG : ConsOk Tryz.prog (mkG [(24,fun l=> iB (cO [.st .district,.sl .claim] l)),(63,fun l=> gy (cO [.sl .claim] l)),(64,fun l=> ce (cO [.sl .order,.o] l))] []) :=aQ (cgc (j_.norm [.st .district,.sl .claim]) (cgc (jV.norm [.sl .claim]) (cgc (df.norm [.sl .order,.o]) cg0))) cg0
 refine bb [.sl .order,.o] mixed aH hG (fn:=Tryz.f33) (c:=aj Tryz.f33) (by kernel_rfl) (by kernel_rfl) (by kernel_rfl) (by kernel_rfl) (bU fun d=> (c8 fun c=> (aM (fun hp=> ?_))))
 dsimp only [aW] at hp
 unfold dg at hp
 refine ⟨Nat.le_of_ble_eq_true rfl,L0,aw _,?_⟩
 ·unfold aj Tryz.f33
  try unfold ag
  simp only [go_sem,Nat.reduceBEq,Nat.reduceLeDiff,Nat.reduceLT,decide_true,Nat.reduceAdd,Nat.reduceSub,Nat.reduceMul,Int.reduceLE,Int.reduceLT,Int.reduceToNat,Int.reduceNeg,reduceCtorEq]
  all_goals exact cl
end Go.Sx
end
section
namespace Go.Sx
open Go.Proofs Go.Shelf Go.Sort Go.Lib
def oP (f h : Int) : CertifyPlace:= { hour:=h,index:=f,outlet:=true}
def ke (c : List Claim) (f h : Int) : Int:=eE (oP f h) c
def okL1 (c : List Claim) : Prop:=c.length≤4096∧∀ a∈c,1≤a.litres∧a.litres≤1073741824
theorem sY {c : List Claim} {j : Nat} (hj : j < c.length) (f h : Int) : ke (c.take (j + 1)) f h=ke (c.take j) f h + (if oP f h=qI c[j] then c[j].litres else 0) :=by
 unfold ke
 rw [List.take_succ_eq_append_getElem hj,Ay]
 simp [eE]
theorem EM {c : List Claim} (h : okL1 c) (f t : Int) : 0≤ke c f t∧ke c f t≤4398046511104:=by
 have h1:=wJ (oP f t) c h.2
 have h2:=h.1
 unfold ke
 omega
theorem okL1.take {c : List Claim} (h : okL1 c) (j : Nat) : okL1 (c.take j) :=⟨by rw [List.length_take];have:=h.1;omega,fun a ha=> h.2 a (List.mem_of_mem_take ha)⟩
theorem JA {k : Tag} (m : List (k.T×Int)) (x : k.T) (y : Int) : (cU k .int m x y).length≤m.length + 1:=by
 have:=congrArg List.length (sQ m x y)
 rw [List.length_map] at this
 show (nW m x y).length≤_
 rw [this]
 split
 ·rw [List.length_map];omega
 ·simp
theorem EN {c : List Claim} (h : okL1 c) : ∃ m,az (bI c) c.length 0 []= .inr m∧SM .timetableSlot (fun p=> ke c p.index p.hour) m∧m.length≤c.length:=by
 obtain ⟨m,e,hm,hn⟩ :=nB (step:=bI c) (fun j m=> SM .timetableSlot (fun p=> ke (c.take j) p.index p.hour) m∧m.length≤j) c.length 0 [] ⟨by simpa [ke,eE] using SM.nil,Nat.le_refl _⟩ (fun j m _ hj ⟨hm,hn⟩ => by
  have hj : j < c.length:=by omega
  refine ⟨_,rfl,?_,Nat.le_trans (JA _ _ _) (by omega)⟩
  rw [c9 _ _ hj]
  have h1:=EM (h.take j) c[j].farm c[j].hour
  have h2:=h.2 _ (List.getElem_mem hj)
  have h3:=hm.get ({ index:=c[j].farm,hour:=c[j].hour} : TimetableSlot)
  simp only at h3
  refine hm.put _ (v:=_) ?_ fun p=> ?_
  ·rw [h3,cd (by omega) (by omega)];omega
  ·rw [h3,cd (by omega) (by omega),sY hj]
   by_cases hp : p=({ index:=c[j].farm,hour:=c[j].hour} : TimetableSlot)
   ·subst hp
    rw [if_pos rfl,if_pos (by rfl)]
   ·rw [if_neg hp,if_neg (fun q=> hp (by
     unfold oP qI at q
     simp only [CertifyPlace.mk.injEq] at q
     obtain ⟨a,b⟩ :=p
     simp only [TimetableSlot.mk.injEq]
     exact ⟨q.2.1,q.1⟩))]
    exact Int.add_zero _)
 rw [Nat.zero_add] at hm hn
 rw [List.take_length] at hm
 exact ⟨m,e,hm,hn⟩
def toO (e : TimetableSlot×Int) : Order:= { hour:=e.1.hour,index:=e.1.index,litres:=e.2,outlet:=true}
theorem rY (m : List (TimetableSlot×Int)) : ∀ (L : List (TimetableSlot×Int)) (s : List Order),bJ (b_ m) L s= .inr (s ++ L.map toO)
 | [],s=> by simp [bJ]
 | x :: L,s=> by
  have e : b_ m x s= .inr (s ++ [toO x]) :=rfl
  simp only [bJ,e]
  rw [rY m L]
  simp
theorem xK (m : List (TimetableSlot×Int)) : ∀ (L : List (TimetableSlot×Int)) (s : List Order),s.length + L.length≤100000→okL (b_ m) (dc m) L s
 | [],s,_=> trivial
 | x :: L,s,h=> by
  have e : b_ m x s= .inr (s ++ [toO x]) :=rfl
  rw [List.length_cons] at h
  refine ⟨?_,fun s' hs=> ?_⟩
  ·unfold dc fN
   rw [List.length_append]
   simp only [List.length_cons,List.length_nil]
   omega
  ·rw [e] at hs
   simp only [Sum.inr.injEq] at hs
   subst hs
   exact xK m L _ (by simp;omega)
theorem vR {m : List (TimetableSlot×Int)} (h : (m.map Prod.fst).Nodup) : (m.map toO).Pairwise fun x y=> ¬ K x y:=by
 rw [List.pairwise_map]
 unfold List.Nodup at h
 rw [List.pairwise_map] at h
 refine h.imp fun {a b} q k=> q ?_
 obtain ⟨⟨a1,a2⟩,a3⟩ :=a
 obtain ⟨⟨b1,b2⟩,b3⟩ :=b
 have h1 : a2=b2:=k.1
 have h2 : a1=b1:=k.2.1
 rw [h1,h2]
theorem vS {x y : Order} (hx : x.outlet=true) (hy : y.outlet=true) : FL x y↔olt x y:=by
 unfold FL olt mR
 simp [mU,hx,hy]
theorem kQ (l : List Order) : (srt ap l).Perm l:=List.mergeSort_perm _ _
theorem yP {l : List Order} (ho : ∀ x∈l,x.outlet=true) (h : l.Pairwise fun x y=> ¬ K x y) : (srt ap l).Pairwise olt:=by
 have h1 : (srt ap l).Pairwise fun x y=> (!(ltOf ap y x))=true:=by
  refine List.pairwise_mergeSort (fun a b c h1 h2=> ?_) (fun a b=> ?_) l
  ·simp only [Bool.not_eq_true'] at h1 h2 ⊢
   exact dH.ntrans _ _ _ h2 h1
  ·cases q : ltOf ap b a with
   | false=> rfl
   | true=>
    cases q2 : ltOf ap a b with
    | false=> rfl
    | true=> have:=dH.trans _ _ _ q q2;rw [dH.irrefl] at this;cases this
 have h2:=jC (kQ l) h
 have h3 : ∀ x∈srt ap l,x.outlet=true:=fun x hx=> ho x ((kQ l).mem_iff.1 hx)
 rw [List.pairwise_iff_getElem] at h1 h2 ⊢
 intro i j hi hj hij
 have q1:=h1 i j hi hj hij
 have q2:=h2 i j hi hj hij
 have q3 : ¬ olt (srt ap l)[j] (srt ap l)[i] :=fun q=> by
  have : ltOf ap (srt ap l)[j] (srt ap l)[i]=true:=by
   unfold ltOf;rw [decide_eq_true_eq];exact (nA _ _).2 ((vS (h3 _ (List.getElem_mem _)) (h3 _ (List.getElem_mem _))).2 q)
  rw [this] at q1;cases q1
 exact Classical.byContradiction fun q4=> q2 (ug q4 q3)
theorem Oh {l m : List Order} (ho : ∀ x∈l,x.outlet=true) (h : l.Pairwise fun x y=> ¬ K x y) (hp : m.Perm l) : srt ap m=srt ap l:=by
 have hm : ∀ x∈m,x.outlet=true:=fun x hx=> ho x (hp.mem_iff.1 hx)
 exact List.Perm.eq_of_pairwise (fun a b _ _ h1 h2=> absurd h2 (fun h2=> by unfold olt at h1 h2;omega)) (yP hm (jC hp h)) (yP ho h) ((kQ m).trans (hp.trans (kQ l).symm))
theorem Re {l : List Order} (ho : ∀ x∈l,x.outlet=true) (h : l.Pairwise fun x y=> ¬ K x y) : apart ap l:=fun x hx y hy h1 h2=> by
 refine EI h hx hy (ug (fun q=> ?_) fun q=> ?_)
 ·unfold ltOf at h1;rw [decide_eq_false_iff_not] at h1;exact h1 ((nA _ _).2 ((vS (ho x hx) (ho y hy)).2 q))
 ·unfold ltOf at h2;rw [decide_eq_false_iff_not] at h2;exact h2 ((nA _ _).2 ((vS (ho y hy) (ho x hx)).2 q))
theorem yQ (m : List (TimetableSlot×Int)) : ∀ x∈m.map toO,x.outlet=true:=fun x hx=> by
 obtain ⟨e,_,rfl⟩ :=List.mem_map.1 hx
 rfl
theorem vT {p : CertifyPlace} : ∀ {c : List Claim},eE p c≠0→∃ a∈c,p=qI a
 | [],h=> absurd rfl h
 | a :: r,h=> by
  by_cases q : p=qI a
  ·exact ⟨a,List.mem_cons_self,q⟩
  ·simp only [eE,if_neg q,Int.zero_add] at h
   obtain ⟨b,hb,e⟩ :=vT h
   exact ⟨b,List.mem_cons_of_mem _ hb,e⟩
structure Outs (c : List Claim) (o : List Order) : Prop where
 out : ∀ x∈o,x.outlet=true
 asc : o.Pairwise olt
 lit : ∀ x∈o,x.litres=ke c x.index x.hour∧1≤x.litres
 all : ∀ f h,ke c f h≠0→∃ x∈o,x.index=f∧x.hour=h
 src : ∀ x∈o,∃ a∈c,a.farm=x.index∧a.hour=x.hour
 len : o.length≤c.length
theorem outs {c : List Claim} (h : okL1 c) : Outs c (am c) :=by
 obtain ⟨m,e,hm,hn⟩ :=EN h
 have e2 : am c=srt ap (m.map toO) :=by
  unfold am
  simp only [e,rY,List.nil_append]
 rw [e2]
 have hmem : ∀ x,x∈srt ap (m.map toO)↔∃ q∈m,toO q=x:=fun x=> by rw [(kQ _).mem_iff,List.mem_map]
 have lit : ∀ x∈srt ap (m.map toO),x.litres=ke c x.index x.hour∧1≤x.litres:=fun x hx=> by
  obtain ⟨q,hq,rfl⟩ :=(hmem x).1 hx
  have:=hm.entry hq
  exact ⟨this.1,hm.pos q hq⟩
 refine ⟨fun x hx=> ?_,yP (yQ m) (vR hm.nd),lit,fun f t hf=> ?_,fun x hx=> ?_,?_⟩
 ·obtain ⟨q,hq,rfl⟩ :=(hmem x).1 hx;rfl
 ·exact ⟨_,(hmem _).2 ⟨_,hm.mem (p:= { index:=f,hour:=t}) hf,rfl⟩,rfl,rfl⟩
 ·have h1:=lit x hx
  obtain ⟨a,ha,ea⟩ :=vT (p:=oP x.index x.hour) (c:=c) (by show ke c _ _≠0;omega)
  unfold oP qI at ea
  simp only [CertifyPlace.mk.injEq] at ea
  exact ⟨a,ha,ea.2.1.symm,ea.1.symm⟩
 ·rw [(kQ _).length_eq,List.length_map];exact hn
theorem FY {c : List Claim} (h : okL1 c) : eL c:=by
 intro _ m hm L hL
 obtain ⟨m',e,hm',hn⟩ :=EN h
 rw [e] at hm
 simp only [Sum.inr.injEq] at hm
 subst hm
 have hlen:=hL.length_eq
 have h1:=h.1
 refine ⟨xK _ L [] (by simp;omega),fun s hs=> ?_⟩
 rw [rY] at hs
 simp only [List.nil_append,Sum.inr.injEq] at hs
 subst hs
 have hp : (L.map toO).Perm (m'.map toO) :=hL.map _
 refine ⟨Re (yQ L) (jC hp (vR hm'.nd)),?_⟩
 rw [Oh (yQ m') (vR hm'.nd) hp]
 unfold am
 simp only [e,rY,List.nil_append]
end Go.Sx
end
section
namespace Go.Sx
open Go.Proofs
set_option maxRecDepth 100000
set_option linter.unusedSimpArgs false
theorem vU {p : Prop} (h : p:=by (first | done | (repeat' (first | with_reducible refine And.intro ?_ ?_ | ((with_reducible show _≠_);first | assumption | omega | (simp_all [aG,aK];done) | grind) | with_reducible intro _)) <;> (first | done | exact Empty.elim ‹Empty› | assumption | rfl | omega | decide | exact fk [0,1,2] | (refine Or.inr ?_;exact fkY [0,1,2]) | (refine Or.inl ?_;exact fkY [0,1,2]) | (refine Or.inl ⟨rfl,?_⟩;exact fkY [0,1,2]) | (simp only [*,cond_true,cond_false,Bool.not_true,Bool.not_false,go_sem,Nat.reduceBEq,Nat.reduceLeDiff,Nat.reduceLT,decide_true,Nat.reduceAdd,Nat.reduceSub,Nat.reduceMul,Int.reduceLE,Int.reduceLT,Int.reduceToNat,Int.reduceNeg,reduceCtorEq];done) | (simp only [*,cond_true,cond_false,Bool.not_true,Bool.not_false,go_sem,Nat.reduceBEq,Nat.reduceLeDiff,Nat.reduceLT,decide_true,Nat.reduceAdd,Nat.reduceSub,Nat.reduceMul,Int.reduceLE,Int.reduceLT,Int.reduceToNat,Int.reduceNeg,reduceCtorEq];(repeat' (first | with_reducible refine And.intro ?_ ?_ | ((with_reducible show _≠_);first | assumption | omega | (simp_all [aG,aK];done) | grind) | with_reducible intro _)) <;> (first | done | assumption | rfl | omega | decide | exact fk [0,1,2] | (refine Or.inr ?_;exact fkY [0,1,2]) | (refine Or.inl ?_;exact fkY [0,1,2]) | (refine Or.inl ⟨rfl,?_⟩;exact fkY [0,1,2]) | (simp_all [aG,aK];done))) | (exfalso;rename_i h1 h2;rw [h1] at h2;cases h2) | (exfalso;rename_i h1 h2;simp only [h1,Bool.not_false,Bool.not_true,Bool.true_or,Bool.or_true,Bool.false_or,Bool.or_false,reduceCtorEq] at h2;done) | (exfalso;clear hy hG;simp_all;done) | (simp only [*,Sum.inr.injEq,forall_eq',true_implies,forall_const,reduceCtorEq,false_implies,and_true,List.length_append,List.length_cons,List.length_nil,Nat.zero_add,go_sem,Nat.reduceBEq,Nat.reduceLeDiff,Nat.reduceLT,decide_true,Nat.reduceAdd,Nat.reduceSub,Nat.reduceMul,Int.reduceLE,Int.reduceLT,Int.reduceToNat,Int.reduceNeg,reduceCtorEq] at hq2;first | exact hq2.1 | exact hq2.2.1 | exact hq2 | exact hq2.2 | (simp only [hq2];done)) | (simp only [*,Sum.inr.injEq,forall_eq',true_implies,forall_const,reduceCtorEq,false_implies,and_true,List.length_append,List.length_cons,List.length_nil,Nat.zero_add,go_sem,Nat.reduceBEq,Nat.reduceLeDiff,Nat.reduceLT,decide_true,Nat.reduceAdd,Nat.reduceSub,Nat.reduceMul,Int.reduceLE,Int.reduceLT,Int.reduceToNat,Int.reduceNeg,reduceCtorEq] at hq1;first | exact hq1.1 | exact hq1.2.1 | exact hq1 | exact hq1.2 | (simp only [hq1];done)) | (clear hy hG;simp_all only [aG,aK,Sum.inr.injEq,forall_eq',true_implies,forall_const,reduceCtorEq,false_implies,and_true,List.length_append,List.length_cons,List.length_nil,Nat.zero_add,go_sem,Nat.reduceBEq,Nat.reduceLeDiff,Nat.reduceLT,decide_true,Nat.reduceAdd,Nat.reduceSub,Nat.reduceMul,Int.reduceLE,Int.reduceLT,Int.reduceToNat,Int.reduceNeg,reduceCtorEq];done) | (simp_all [okI,aG,aK];done) | (simp_all [aG,aK];(first | done | exact fk2 [0,1,2])) | exact fk2 [0,1,2]))) : p:=h
theorem AC {p : Prop} (h : p:=by (first | done | (repeat' (first | with_reducible refine And.intro ?_ ?_ | ((with_reducible show _≠_);first | assumption | omega | (simp_all [aG,aK];done) | grind) | with_reducible intro _)) <;> (first | done | exact Empty.elim ‹Empty› | assumption | rfl | omega | decide | exact fk [0,1,2,3] | (refine Or.inr ?_;exact fkY [0,1,2,3]) | (refine Or.inl ?_;exact fkY [0,1,2,3]) | (refine Or.inl ⟨rfl,?_⟩;exact fkY [0,1,2,3]) | (simp only [*,cond_true,cond_false,Bool.not_true,Bool.not_false,go_sem,Nat.reduceBEq,Nat.reduceLeDiff,Nat.reduceLT,decide_true,Nat.reduceAdd,Nat.reduceSub,Nat.reduceMul,Int.reduceLE,Int.reduceLT,Int.reduceToNat,Int.reduceNeg,reduceCtorEq];done) | (simp only [*,cond_true,cond_false,Bool.not_true,Bool.not_false,go_sem,Nat.reduceBEq,Nat.reduceLeDiff,Nat.reduceLT,decide_true,Nat.reduceAdd,Nat.reduceSub,Nat.reduceMul,Int.reduceLE,Int.reduceLT,Int.reduceToNat,Int.reduceNeg,reduceCtorEq];(repeat' (first | with_reducible refine And.intro ?_ ?_ | ((with_reducible show _≠_);first | assumption | omega | (simp_all [aG,aK];done) | grind) | with_reducible intro _)) <;> (first | done | assumption | rfl | omega | decide | exact fk [0,1,2,3] | (refine Or.inr ?_;exact fkY [0,1,2,3]) | (refine Or.inl ?_;exact fkY [0,1,2,3]) | (refine Or.inl ⟨rfl,?_⟩;exact fkY [0,1,2,3]) | (simp_all [aG,aK];done))) | (exfalso;rename_i h1 h2;rw [h1] at h2;cases h2) | (exfalso;rename_i h1 h2;simp only [h1,Bool.not_false,Bool.not_true,Bool.true_or,Bool.or_true,Bool.false_or,Bool.or_false,reduceCtorEq] at h2;done) | (exfalso;clear hy hG;simp_all;done) | (simp only [*,Sum.inr.injEq,forall_eq',true_implies,forall_const,reduceCtorEq,false_implies,and_true,List.length_append,List.length_cons,List.length_nil,Nat.zero_add,go_sem,Nat.reduceBEq,Nat.reduceLeDiff,Nat.reduceLT,decide_true,Nat.reduceAdd,Nat.reduceSub,Nat.reduceMul,Int.reduceLE,Int.reduceLT,Int.reduceToNat,Int.reduceNeg,reduceCtorEq] at hq2;first | exact hq2.1 | exact hq2.2.1 | exact hq2 | exact hq2.2 | (simp only [hq2];done)) | (simp only [*,Sum.inr.injEq,forall_eq',true_implies,forall_const,reduceCtorEq,false_implies,and_true,List.length_append,List.length_cons,List.length_nil,Nat.zero_add,go_sem,Nat.reduceBEq,Nat.reduceLeDiff,Nat.reduceLT,decide_true,Nat.reduceAdd,Nat.reduceSub,Nat.reduceMul,Int.reduceLE,Int.reduceLT,Int.reduceToNat,Int.reduceNeg,reduceCtorEq] at hq1;first | exact hq1.1 | exact hq1.2.1 | exact hq1 | exact hq1.2 | (simp only [hq1];done)) | (clear hy hG;simp_all only [aG,aK,Sum.inr.injEq,forall_eq',true_implies,forall_const,reduceCtorEq,false_implies,and_true,List.length_append,List.length_cons,List.length_nil,Nat.zero_add,go_sem,Nat.reduceBEq,Nat.reduceLeDiff,Nat.reduceLT,decide_true,Nat.reduceAdd,Nat.reduceSub,Nat.reduceMul,Int.reduceLE,Int.reduceLT,Int.reduceToNat,Int.reduceNeg,reduceCtorEq];done) | (simp_all [okI,aG,aK];done) | (simp_all [aG,aK];(first | done | exact fk2 [0,1,2,3])) | exact fk2 [0,1,2,3]))) : p:=h
theorem AD {p : Prop} (h : p:=by (first | done | (repeat' (first | with_reducible refine And.intro ?_ ?_ | ((with_reducible show _≠_);first | assumption | omega | (simp_all [aG,aK];done) | grind) | with_reducible intro _)) <;> (first | done | exact Empty.elim ‹Empty› | assumption | rfl | omega | decide | exact fk [0] | (refine Or.inr ?_;exact fkY [0]) | (refine Or.inl ?_;exact fkY [0]) | (refine Or.inl ⟨rfl,?_⟩;exact fkY [0]) | (simp only [*,cond_true,cond_false,Bool.not_true,Bool.not_false,go_sem,Nat.reduceBEq,Nat.reduceLeDiff,Nat.reduceLT,decide_true,Nat.reduceAdd,Nat.reduceSub,Nat.reduceMul,Int.reduceLE,Int.reduceLT,Int.reduceToNat,Int.reduceNeg,reduceCtorEq];done) | (simp only [*,cond_true,cond_false,Bool.not_true,Bool.not_false,go_sem,Nat.reduceBEq,Nat.reduceLeDiff,Nat.reduceLT,decide_true,Nat.reduceAdd,Nat.reduceSub,Nat.reduceMul,Int.reduceLE,Int.reduceLT,Int.reduceToNat,Int.reduceNeg,reduceCtorEq];(repeat' (first | with_reducible refine And.intro ?_ ?_ | ((with_reducible show _≠_);first | assumption | omega | (simp_all [aG,aK];done) | grind) | with_reducible intro _)) <;> (first | done | assumption | rfl | omega | decide | exact fk [0] | (refine Or.inr ?_;exact fkY [0]) | (refine Or.inl ?_;exact fkY [0]) | (refine Or.inl ⟨rfl,?_⟩;exact fkY [0]) | (simp_all [aG,aK];done))) | (exfalso;rename_i h1 h2;rw [h1] at h2;cases h2) | (exfalso;rename_i h1 h2;simp only [h1,Bool.not_false,Bool.not_true,Bool.true_or,Bool.or_true,Bool.false_or,Bool.or_false,reduceCtorEq] at h2;done) | (exfalso;clear hy hG;simp_all;done) | (simp only [*,Sum.inr.injEq,forall_eq',true_implies,forall_const,reduceCtorEq,false_implies,and_true,List.length_append,List.length_cons,List.length_nil,Nat.zero_add,go_sem,Nat.reduceBEq,Nat.reduceLeDiff,Nat.reduceLT,decide_true,Nat.reduceAdd,Nat.reduceSub,Nat.reduceMul,Int.reduceLE,Int.reduceLT,Int.reduceToNat,Int.reduceNeg,reduceCtorEq] at hq2;first | exact hq2.1 | exact hq2.2.1 | exact hq2 | exact hq2.2 | (simp only [hq2];done)) | (simp only [*,Sum.inr.injEq,forall_eq',true_implies,forall_const,reduceCtorEq,false_implies,and_true,List.length_append,List.length_cons,List.length_nil,Nat.zero_add,go_sem,Nat.reduceBEq,Nat.reduceLeDiff,Nat.reduceLT,decide_true,Nat.reduceAdd,Nat.reduceSub,Nat.reduceMul,Int.reduceLE,Int.reduceLT,Int.reduceToNat,Int.reduceNeg,reduceCtorEq] at hq1;first | exact hq1.1 | exact hq1.2.1 | exact hq1 | exact hq1.2 | (simp only [hq1];done)) | (clear hy hG;simp_all only [aG,aK,Sum.inr.injEq,forall_eq',true_implies,forall_const,reduceCtorEq,false_implies,and_true,List.length_append,List.length_cons,List.length_nil,Nat.zero_add,go_sem,Nat.reduceBEq,Nat.reduceLeDiff,Nat.reduceLT,decide_true,Nat.reduceAdd,Nat.reduceSub,Nat.reduceMul,Int.reduceLE,Int.reduceLT,Int.reduceToNat,Int.reduceNeg,reduceCtorEq];done) | (simp_all [okI,aG,aK];done) | (simp_all [aG,aK];(first | done | exact fk2 [0])) | exact fk2 [0]))) : p:=h
theorem AE {p : Prop} (h : p:=by (first | done | (repeat' (first | with_reducible refine And.intro ?_ ?_ | ((with_reducible show _≠_);first | assumption | omega | (simp_all [aG,aK];done) | grind) | with_reducible intro _)) <;> (first | done | exact Empty.elim ‹Empty› | assumption | rfl | omega | decide | exact fk [0,1] | (refine Or.inr ?_;exact fkY [0,1]) | (refine Or.inl ?_;exact fkY [0,1]) | (refine Or.inl ⟨rfl,?_⟩;exact fkY [0,1]) | (simp only [*,cond_true,cond_false,Bool.not_true,Bool.not_false,go_sem,Nat.reduceBEq,Nat.reduceLeDiff,Nat.reduceLT,decide_true,Nat.reduceAdd,Nat.reduceSub,Nat.reduceMul,Int.reduceLE,Int.reduceLT,Int.reduceToNat,Int.reduceNeg,reduceCtorEq];done) | (simp only [*,cond_true,cond_false,Bool.not_true,Bool.not_false,go_sem,Nat.reduceBEq,Nat.reduceLeDiff,Nat.reduceLT,decide_true,Nat.reduceAdd,Nat.reduceSub,Nat.reduceMul,Int.reduceLE,Int.reduceLT,Int.reduceToNat,Int.reduceNeg,reduceCtorEq];(repeat' (first | with_reducible refine And.intro ?_ ?_ | ((with_reducible show _≠_);first | assumption | omega | (simp_all [aG,aK];done) | grind) | with_reducible intro _)) <;> (first | done | assumption | rfl | omega | decide | exact fk [0,1] | (refine Or.inr ?_;exact fkY [0,1]) | (refine Or.inl ?_;exact fkY [0,1]) | (refine Or.inl ⟨rfl,?_⟩;exact fkY [0,1]) | (simp_all [aG,aK];done))) | (exfalso;rename_i h1 h2;rw [h1] at h2;cases h2) | (exfalso;rename_i h1 h2;simp only [h1,Bool.not_false,Bool.not_true,Bool.true_or,Bool.or_true,Bool.false_or,Bool.or_false,reduceCtorEq] at h2;done) | (exfalso;clear hy hG;simp_all;done) | (simp only [*,Sum.inr.injEq,forall_eq',true_implies,forall_const,reduceCtorEq,false_implies,and_true,List.length_append,List.length_cons,List.length_nil,Nat.zero_add,go_sem,Nat.reduceBEq,Nat.reduceLeDiff,Nat.reduceLT,decide_true,Nat.reduceAdd,Nat.reduceSub,Nat.reduceMul,Int.reduceLE,Int.reduceLT,Int.reduceToNat,Int.reduceNeg,reduceCtorEq] at hq2;first | exact hq2.1 | exact hq2.2.1 | exact hq2 | exact hq2.2 | (simp only [hq2];done)) | (simp only [*,Sum.inr.injEq,forall_eq',true_implies,forall_const,reduceCtorEq,false_implies,and_true,List.length_append,List.length_cons,List.length_nil,Nat.zero_add,go_sem,Nat.reduceBEq,Nat.reduceLeDiff,Nat.reduceLT,decide_true,Nat.reduceAdd,Nat.reduceSub,Nat.reduceMul,Int.reduceLE,Int.reduceLT,Int.reduceToNat,Int.reduceNeg,reduceCtorEq] at hq1;first | exact hq1.1 | exact hq1.2.1 | exact hq1 | exact hq1.2 | (simp only [hq1];done)) | (clear hy hG;simp_all only [aG,aK,Sum.inr.injEq,forall_eq',true_implies,forall_const,reduceCtorEq,false_implies,and_true,List.length_append,List.length_cons,List.length_nil,Nat.zero_add,go_sem,Nat.reduceBEq,Nat.reduceLeDiff,Nat.reduceLT,decide_true,Nat.reduceAdd,Nat.reduceSub,Nat.reduceMul,Int.reduceLE,Int.reduceLT,Int.reduceToNat,Int.reduceNeg,reduceCtorEq];done) | (simp_all [okI,aG,aK];done) | (simp_all [aG,aK];(first | done | exact fk2 [0,1])) | exact fk2 [0,1]))) : p:=h
theorem AF {p : Prop} (h : p:=by simp only [go_sem,Nat.reduceBEq,Nat.reduceLeDiff,Nat.reduceLT,decide_true,Nat.reduceAdd,Nat.reduceSub,Nat.reduceMul,Int.reduceLE,Int.reduceLT,Int.reduceToNat,Int.reduceNeg,reduceCtorEq,hc,hw];all_goals exact vU) : p:=h
theorem AG {p : Prop} (h : p:=by simp only [go_sem,Nat.reduceBEq,Nat.reduceLeDiff,Nat.reduceLT,decide_true,Nat.reduceAdd,Nat.reduceSub,Nat.reduceMul,Int.reduceLE,Int.reduceLT,Int.reduceToNat,Int.reduceNeg,reduceCtorEq,hc];all_goals exact vU) : p:=h
theorem JB {p : Prop} (h : p:=by simp only [go_sem,Nat.reduceBEq,Nat.reduceLeDiff,Nat.reduceLT,decide_true,Nat.reduceAdd,Nat.reduceSub,Nat.reduceMul,Int.reduceLE,Int.reduceLT,Int.reduceToNat,Int.reduceNeg,reduceCtorEq];all_goals exact vU) : p:=h
theorem JD {p : Prop} (h : p:=by simp only [go_sem,Nat.reduceBEq,Nat.reduceLeDiff,Nat.reduceLT,decide_true,Nat.reduceAdd,Nat.reduceSub,Nat.reduceMul,Int.reduceLE,Int.reduceLT,Int.reduceToNat,Int.reduceNeg,reduceCtorEq,hc,hw];all_goals exact AC) : p:=h
theorem JE {p : Prop} (h : p:=by simp only [go_sem,Nat.reduceBEq,Nat.reduceLeDiff,Nat.reduceLT,decide_true,Nat.reduceAdd,Nat.reduceSub,Nat.reduceMul,Int.reduceLE,Int.reduceLT,Int.reduceToNat,Int.reduceNeg,reduceCtorEq,hc];all_goals exact AC) : p:=h
theorem vV {p : Prop} (h : p:=by simp only [go_sem,Nat.reduceBEq,Nat.reduceLeDiff,Nat.reduceLT,decide_true,Nat.reduceAdd,Nat.reduceSub,Nat.reduceMul,Int.reduceLE,Int.reduceLT,Int.reduceToNat,Int.reduceNeg,reduceCtorEq,hc,hw];all_goals exact AE) : p:=h
theorem vW {p : Prop} (h : p:=by simp only [go_sem,Nat.reduceBEq,Nat.reduceLeDiff,Nat.reduceLT,decide_true,Nat.reduceAdd,Nat.reduceSub,Nat.reduceMul,Int.reduceLE,Int.reduceLT,Int.reduceToNat,Int.reduceNeg,reduceCtorEq,hc];all_goals exact AE) : p:=h
@[go_sem] def du (x : Fault) : List SV:=[.agg (cellsOf .fault x)]
@[go_sem] def ji : List SV→Option Con:=(pD .district fun d=> (pR .order fun out=> (pE (.det True (.fn 98 [] [.ep [.rs .order out] 0,.ep (cellsOf .district d) 0])))))
theorem lZ : FnOk Tryz.prog 56 ji:=by
 have hG : ConsOk Tryz.prog (mkG [] []) :=aQ cg0 cg0
 refine bb [.o] mixed aH hG (fn:=Tryz.f56) (c:=aj Tryz.f56) (by kernel_rfl) (by kernel_rfl) (by kernel_rfl) (by kernel_rfl) (bU fun d=> (c8 fun out=> (aM (fun hp=> ?_))))
 refine ⟨Nat.le_of_ble_eq_true rfl,L0,aw _,?_⟩
 unfold aj Tryz.f56
 simp only [go_sem,rO,rP,Nat.reduceBEq,Nat.reduceLeDiff,Nat.reduceAdd,Nat.reduceSub,Nat.reduceMul]
@[go_sem] def cF (out : List Order) (d : District) (k_0 : Nat) (s_0 : List (TimetableSlot×Int)) : Empty⊕(List (TimetableSlot×Int)) := .inr (cU .timetableSlot .int s_0 ({ index:=(d.farms.getD (Int.toNat ((out.getD k_0 (default : Order)).index)) (default : Farm)).reach,hour:=(out.getD k_0 (default : Order)).hour} : TimetableSlot) (IntKind.i64.wrap ((ay .timetableSlot .int s_0 ({ index:=(d.farms.getD (Int.toNat ((out.getD k_0 (default : Order)).index)) (default : Farm)).reach,hour:=(out.getD k_0 (default : Order)).hour} : TimetableSlot)) + (out.getD k_0 (default : Order)).litres)))
def ef (out : List Order) (d : District) (k_0 : Nat) (s_0 : List (TimetableSlot×Int)) : Prop:=(0≤(out.getD k_0 (default : Order)).index∧(out.getD k_0 (default : Order)).index < (d.farms.length : Int))
@[go_sem] def aD (d : District) (s_1 : List Fault×List (TimetableSlot×Int)×List (TimetableSlot×Bool)×Int) (k_2 : Nat) (s_2 : List (TimetableSlot×Bool)×List Fault×List (TimetableSlot×Int)) : Empty⊕(List (TimetableSlot×Bool)×List Fault×List (TimetableSlot×Int)) :=(bif (ay .timetableSlot .bool s_2.1 ({ index:=s_1.2.2.2,hour:=(k_2 : Int)} : TimetableSlot)) then .inr ((cU .timetableSlot .bool s_2.1 ({ index:=(d.reaches.getD (Int.toNat s_1.2.2.2) (default : Reach)).up,hour:=(IntKind.i64.wrap ((k_2 : Int) - (d.reaches.getD (Int.toNat s_1.2.2.2) (default : Reach)).delay))} : TimetableSlot) true),s_2.2.1,s_2.2.2) else (bif ((ay .timetableSlot .int s_2.2.2 ({ index:=s_1.2.2.2,hour:=(k_2 : Int)} : TimetableSlot)) ==0) then .inr (s_2.1,s_2.2.1,s_2.2.2) else (bif (decide ((ay .timetableSlot .int s_2.2.2 ({ index:=s_1.2.2.2,hour:=(k_2 : Int)} : TimetableSlot))≤1073741824)) then (bif ((!(bX (d.reaches.getD (Int.toNat s_1.2.2.2) (default : Reach)) (ay .timetableSlot .int s_2.2.2 ({ index:=s_1.2.2.2,hour:=(k_2 : Int)} : TimetableSlot))).2.1) || (decide ((k_2 : Int) < (d.reaches.getD (Int.toNat s_1.2.2.2) (default : Reach)).delay))) then .inr ((cU .timetableSlot .bool s_2.1 ({ index:=(d.reaches.getD (Int.toNat s_1.2.2.2) (default : Reach)).up,hour:=(IntKind.i64.wrap ((k_2 : Int) - (d.reaches.getD (Int.toNat s_1.2.2.2) (default : Reach)).delay))} : TimetableSlot) ((ay .timetableSlot .bool s_2.1 ({ index:=(d.reaches.getD (Int.toNat s_1.2.2.2) (default : Reach)).up,hour:=(IntKind.i64.wrap ((k_2 : Int) - (d.reaches.getD (Int.toNat s_1.2.2.2) (default : Reach)).delay))} : TimetableSlot)) || (!(bX (d.reaches.getD (Int.toNat s_1.2.2.2) (default : Reach)) (ay .timetableSlot .int s_2.2.2 ({ index:=s_1.2.2.2,hour:=(k_2 : Int)} : TimetableSlot))).2.1))),(s_2.2.1 ++ [({ kind:=7,hour:=(k_2 : Int),index:=s_1.2.2.2,litres:=(ay .timetableSlot .int s_2.2.2 ({ index:=s_1.2.2.2,hour:=(k_2 : Int)} : TimetableSlot)),limit:=0} : Fault)]),s_2.2.2) else .inr (s_2.1,s_2.2.1,(cU .timetableSlot .int s_2.2.2 ({ index:=(d.reaches.getD (Int.toNat s_1.2.2.2) (default : Reach)).up,hour:=(IntKind.i64.wrap ((k_2 : Int) - (d.reaches.getD (Int.toNat s_1.2.2.2) (default : Reach)).delay))} : TimetableSlot) (IntKind.i64.wrap ((ay .timetableSlot .int s_2.2.2 ({ index:=(d.reaches.getD (Int.toNat s_1.2.2.2) (default : Reach)).up,hour:=(IntKind.i64.wrap ((k_2 : Int) - (d.reaches.getD (Int.toNat s_1.2.2.2) (default : Reach)).delay))} : TimetableSlot)) + (if (bX (d.reaches.getD (Int.toNat s_1.2.2.2) (default : Reach)) (ay .timetableSlot .int s_2.2.2 ({ index:=s_1.2.2.2,hour:=(k_2 : Int)} : TimetableSlot))).1 < (d.reaches.getD (Int.toNat s_1.2.2.2) (default : Reach)).siphon then (d.reaches.getD (Int.toNat s_1.2.2.2) (default : Reach)).siphon else (bX (d.reaches.getD (Int.toNat s_1.2.2.2) (default : Reach)) (ay .timetableSlot .int s_2.2.2 ({ index:=s_1.2.2.2,hour:=(k_2 : Int)} : TimetableSlot))).1)))))) else (bif ((!(decide ((ay .timetableSlot .int s_2.2.2 ({ index:=s_1.2.2.2,hour:=(k_2 : Int)} : TimetableSlot))≤1073741824))) || (decide ((k_2 : Int) < (d.reaches.getD (Int.toNat s_1.2.2.2) (default : Reach)).delay))) then .inr ((cU .timetableSlot .bool s_2.1 ({ index:=(d.reaches.getD (Int.toNat s_1.2.2.2) (default : Reach)).up,hour:=(IntKind.i64.wrap ((k_2 : Int) - (d.reaches.getD (Int.toNat s_1.2.2.2) (default : Reach)).delay))} : TimetableSlot) ((ay .timetableSlot .bool s_2.1 ({ index:=(d.reaches.getD (Int.toNat s_1.2.2.2) (default : Reach)).up,hour:=(IntKind.i64.wrap ((k_2 : Int) - (d.reaches.getD (Int.toNat s_1.2.2.2) (default : Reach)).delay))} : TimetableSlot)) || (!(decide ((ay .timetableSlot .int s_2.2.2 ({ index:=s_1.2.2.2,hour:=(k_2 : Int)} : TimetableSlot))≤1073741824))))),(s_2.2.1 ++ [({ kind:=7,hour:=(k_2 : Int),index:=s_1.2.2.2,litres:=(ay .timetableSlot .int s_2.2.2 ({ index:=s_1.2.2.2,hour:=(k_2 : Int)} : TimetableSlot)),limit:=0} : Fault)]),s_2.2.2) else .inr (s_2.1,s_2.2.1,(cU .timetableSlot .int s_2.2.2 ({ index:=(d.reaches.getD (Int.toNat s_1.2.2.2) (default : Reach)).up,hour:=(IntKind.i64.wrap ((k_2 : Int) - (d.reaches.getD (Int.toNat s_1.2.2.2) (default : Reach)).delay))} : TimetableSlot) (IntKind.i64.wrap ((ay .timetableSlot .int s_2.2.2 ({ index:=(d.reaches.getD (Int.toNat s_1.2.2.2) (default : Reach)).up,hour:=(IntKind.i64.wrap ((k_2 : Int) - (d.reaches.getD (Int.toNat s_1.2.2.2) (default : Reach)).delay))} : TimetableSlot)) + (if 0 < (d.reaches.getD (Int.toNat s_1.2.2.2) (default : Reach)).siphon then (d.reaches.getD (Int.toNat s_1.2.2.2) (default : Reach)).siphon else 0)))))))))
def dw (d : District) (items_ : List (List SV)) (s_1 : List Fault×List (TimetableSlot×Int)×List (TimetableSlot×Bool)×Int) (k_2 : Nat) (s_2 : List (TimetableSlot×Bool)×List Fault×List (TimetableSlot×Int)) : Prop:=((ay .timetableSlot .bool s_2.1 ({ index:=s_1.2.2.2,hour:=(k_2 : Int)} : TimetableSlot))=false→(((ay .timetableSlot .int s_2.2.2 ({ index:=s_1.2.2.2,hour:=(k_2 : Int)} : TimetableSlot)) ==0)=false→(((decide ((ay .timetableSlot .int s_2.2.2 ({ index:=s_1.2.2.2,hour:=(k_2 : Int)} : TimetableSlot))≤1073741824))=true→((gI (d.reaches.getD (Int.toNat s_1.2.2.2) (default : Reach)) (ay .timetableSlot .int s_2.2.2 ({ index:=s_1.2.2.2,hour:=(k_2 : Int)} : TimetableSlot)))∧(((!(bX (d.reaches.getD (Int.toNat s_1.2.2.2) (default : Reach)) (ay .timetableSlot .int s_2.2.2 ({ index:=s_1.2.2.2,hour:=(k_2 : Int)} : TimetableSlot))).2.1) || (decide ((k_2 : Int) < (d.reaches.getD (Int.toNat s_1.2.2.2) (default : Reach)).delay)))=true→(items_[s_2.2.1.length]? =some (du ({ kind:=7,hour:=(k_2 : Int),index:=s_1.2.2.2,litres:=(ay .timetableSlot .int s_2.2.2 ({ index:=s_1.2.2.2,hour:=(k_2 : Int)} : TimetableSlot)),limit:=0} : Fault))))))∧((decide ((ay .timetableSlot .int s_2.2.2 ({ index:=s_1.2.2.2,hour:=(k_2 : Int)} : TimetableSlot))≤1073741824))=false→(((!(decide ((ay .timetableSlot .int s_2.2.2 ({ index:=s_1.2.2.2,hour:=(k_2 : Int)} : TimetableSlot))≤1073741824))) || (decide ((k_2 : Int) < (d.reaches.getD (Int.toNat s_1.2.2.2) (default : Reach)).delay)))=true→(items_[s_2.2.1.length]? =some (du ({ kind:=7,hour:=(k_2 : Int),index:=s_1.2.2.2,litres:=(ay .timetableSlot .int s_2.2.2 ({ index:=s_1.2.2.2,hour:=(k_2 : Int)} : TimetableSlot)),limit:=0} : Fault))))))))
@[go_sem] def a7 (d : District) (k_1 : Nat) (s_1 : List Fault×List (TimetableSlot×Int)×List (TimetableSlot×Bool)×Int) : (List Fault)⊕(List Fault×List (TimetableSlot×Int)×List (TimetableSlot×Bool)×Int) :=(bif (decide (s_1.2.2.2≥0)) then (match az (aD d s_1) (Int.toNat d.hours) 0 (s_1.2.2.1,s_1.1,s_1.2.1) with | .inl x=> x.elim | .inr s_2=> .inr (s_2.2.1,s_2.2.2,s_2.1,(IntKind.i64.wrap (s_1.2.2.2 - 1)))) else .inl s_1.1)
def ei (d : District) (items_ : List (List SV)) (k_1 : Nat) (s_1 : List Fault×List (TimetableSlot×Int)×List (TimetableSlot×Bool)×Int) : Prop:=((decide (s_1.2.2.2≥0))=true→((0≤s_1.2.2.2∧s_1.2.2.2 < (d.reaches.length : Int))∧((d.hours < 9223372036854775808)∧okI (aD d s_1) (dw d items_ s_1) (Int.toNat d.hours) 0 (s_1.2.2.1,s_1.1,s_1.2.1))))
def bn (out : List Order) (d : District) : List Fault:=(match az (cF out d) out.length 0 ([]) with | .inl x=> x.elim | .inr s_0=> (match az (a7 d) (d.reaches.length + 1) 0 (([] : List Fault),s_0,[],(IntKind.i64.wrap ((d.reaches.length : Int) - 1))) with | .inl x_1_0=> x_1_0 | .inr s_1=> default))
def d9 (out : List Order) (d : District) (items_ : List (List SV)) : Prop:=(out.length≤bu→(okI (cF out d) (ef out d) out.length 0 ([])∧(∀ s_0,az (cF out d) out.length 0 ([])= .inr s_0→(d.reaches.length≤bu→(okI (a7 d) (ei d items_) (d.reaches.length + 1) 0 (([] : List Fault),s_0,[],(IntKind.i64.wrap ((d.reaches.length : Int) - 1)))∧(∀ z_,az (a7 d) (d.reaches.length + 1) 0 (([] : List Fault),s_0,[],(IntKind.i64.wrap ((d.reaches.length : Int) - 1)))≠ .inr z_)∧(∀ x_1_0,az (a7 d) (d.reaches.length + 1) 0 (([] : List Fault),s_0,[],(IntKind.i64.wrap ((d.reaches.length : Int) - 1)))= .inl x_1_0→(items_.length=x_1_0.length)))))))
set_option maxHeartbeats 4000000 in
theorem pO (out : List Order) (d : District) (items_ : List (List SV)) (hp : d9 out d items_) : wB Tryz.prog 98 (fun y=> [y,.ep [.rs .order out] 0,.ep (cellsOf .district d) 0]) [] items_:=by
 unfold d9 at hp
 refine Cb mixed aH (fn:=Tryz.f98) (c:=aj Tryz.f98) (by kernel_rfl) (by kernel_rfl) (by kernel_rfl) (by kernel_rfl) rfl (n:=0) rfl (G:=fun r_=> tM [(99,jA)] [] (An items_ r_)) (fun r_ hy=> ?_) (fun args w=> by kernel_rfl)
 have hG : ConsOk Tryz.prog (tM [(99,jA)] [] (An items_ r_)) :=rt (cgc oS cg0) cg0 hy
 refine ⟨hG,Nat.le_of_ble_eq_true rfl,(fun id st=> bif Nat.beq id 0 then some (LCR (ρ:=Empty) (σ:=(List (TimetableSlot×Int))) 3 [] [0,1,2] (fun k_0 s_0=> ⟨[(0,.os 0),(2,.ep (cellsOf .district d) 0),(4,.os 1),(5,.os 2),(18,.rs .order out),(19,.v (.int .i64 (out.length : Int))),(20,.v (.int .i64 (k_0 : Int)))],[.ab (r_.1 (([] : List Fault).length + 1)),.mp .timetableSlot .int s_0 none,.mp .timetableSlot .bool ([]) none]⟩) (cF out d) (ef out d) out.length ([]) (out.length≤bu) ((·.elim)) ((·.elim)) st) else bif Nat.beq id 2 then some (Q7 (ρ:=(List Fault)) (σ:=(List Fault×List (TimetableSlot×Int)×List (TimetableSlot×Bool)×Int)) 3 [] [0,1,2] (fun k_1 s_1=> ⟨[(0,.os 0),(2,.ep (cellsOf .district d) 0),(4,.os 1),(5,.os 2),(8,.v (.int .i64 s_1.2.2.2))],[.ab (r_.1 (s_1.1.length + 1)),.mp .timetableSlot .int s_1.2.1 none,.mp .timetableSlot .bool s_1.2.2.1 none]⟩) (a7 d) (ei d items_) (d.reaches.length + 1) (([] : List Fault),(aG (az (cF out d) out.length 0 ([]))),[],(IntKind.i64.wrap ((d.reaches.length : Int) - 1))) (fun _=> .normal) (fun x_1_0=> ⟨[],[.ab (r_.1 (x_1_0.length + 1)),.dead,.dead]⟩) ⟨[],[.ab (r_.1 0),.dead,.dead]⟩ st) else none),?_,?_⟩
 ·unfold aj Tryz.f98
  simp only [aB,true_and,and_true]
  refine ⟨?_,?_⟩
  ·refine cp mixed aH hG (by kernel_rfl) (fun _=> rfl) (out.length : Int) rfl jS (fun hb0 k_0 s_0 hlt0 hq0 hw hc=> ⟨L0,aw _,?_⟩) (fun hb0 s_0 hc=> ?_)
   ·unfold ef at hq0
    try simp only [hw,Int.toNat_natCast] at hq0
    exact AF
   ·exact AG
  ·refine FN mixed aH hG (by kernel_rfl) (fun _=> rfl) fun k_1 s_1 hq1=> ⟨(fun id st=> bif Nat.beq id 4 then some (LCY (ρ:=Empty) (σ:=(List (TimetableSlot×Bool)×List Fault×List (TimetableSlot×Int))) 4 [] [0,1,2,3] (fun k_2 s_2=> ⟨[(0,.os 0),(2,.ep (cellsOf .district d) 0),(4,.os 1),(5,.os 2),(8,.v (.int .i64 s_1.2.2.2)),(9,.ptr 3 0),(56,.v (.int .i64 d.hours)),(57,.v (.int .i64 (k_2 : Int)))],[.ab (r_.1 (s_2.2.1.length + 1)),.mp .timetableSlot .int s_2.2.2 none,.mp .timetableSlot .bool s_2.1 none,.cells (cellsOf .reach (d.reaches.getD (Int.toNat s_1.2.2.2) (default : Reach)))]⟩) (aD d s_1) (dw d items_ s_1) (Int.toNat d.hours) (s_1.2.2.1,s_1.1,s_1.2.1) (d.hours < 9223372036854775808) ((·.elim)) ((·.elim)) ⟨[],[.ab (r_.1 0),.dead,.dead,.dead]⟩ st) else none),?_,?_⟩
   ·simp only [aB,true_and,and_true]
    ·refine rN mixed aH hG (by kernel_rfl) (fun _=> rfl) d.hours rfl id (fun hb2 k_2 s_2 hlt2 hq2 hw hc=> ⟨L0,aw _,?_⟩) (fun hb2 s_2 hc=> ?_)
     ·unfold dw at hq2
      try simp only [hw,Int.toNat_natCast] at hq2
      exact JD
     ·exact JE
   ·unfold ei at hq1
    exact JB
 ·unfold aj Tryz.f98
  simp only [go_sem,Nat.reduceBEq,Nat.reduceLeDiff,Nat.reduceLT,decide_true,Nat.reduceAdd,Nat.reduceSub,Nat.reduceMul,Int.reduceLE,Int.reduceLT,Int.reduceToNat,Int.reduceNeg,reduceCtorEq]
  all_goals exact AD
@[go_sem] def gZ : List SV→Option Con:=(pD .district fun d=> (pR .order fun l_=> (pE (.det True (.fn 100 [] [.ep [.rs .order l_] 0,.ep (cellsOf .district d) 0])))))
theorem kx : FnOk Tryz.prog 57 gZ:=by
 have hG : ConsOk Tryz.prog (mkG [] []) :=aQ cg0 cg0
 refine bb [.o] mixed aH hG (fn:=Tryz.f57) (c:=aj Tryz.f57) (by kernel_rfl) (by kernel_rfl) (by kernel_rfl) (by kernel_rfl) (bU fun d=> (c8 fun l_=> (aM (fun hp=> ?_))))
 refine ⟨Nat.le_of_ble_eq_true rfl,L0,aw _,?_⟩
 unfold aj Tryz.f57
 simp only [go_sem,rO,rP,Nat.reduceBEq,Nat.reduceLeDiff,Nat.reduceAdd,Nat.reduceSub,Nat.reduceMul]
@[go_sem] def aL (l_ : List Order) (k_0 : Nat) (s_0 : List (TimetableSlot×Int)×Int) : Empty⊕(List (TimetableSlot×Int)×Int) :=(bif (!(l_.getD k_0 (default : Order)).outlet) then (bif ((l_.getD k_0 (default : Order)).index==0) then .inr ((cU .timetableSlot .int s_0.1 ({ index:=(l_.getD k_0 (default : Order)).index,hour:=(l_.getD k_0 (default : Order)).hour} : TimetableSlot) ((l_.getD k_0 (default : Order)).litres)),(IntKind.i64.wrap (s_0.2 + (l_.getD k_0 (default : Order)).litres))) else .inr ((cU .timetableSlot .int s_0.1 ({ index:=(l_.getD k_0 (default : Order)).index,hour:=(l_.getD k_0 (default : Order)).hour} : TimetableSlot) ((l_.getD k_0 (default : Order)).litres)),s_0.2)) else .inr (s_0.1,s_0.2))
@[go_sem] def dx (d : District) (s_0 : List (TimetableSlot×Int)×Int) (k_1 : Nat) (k_2 : Nat) (k_3 : Nat) (s_3 : Int) : Empty⊕Int:= .inr (IntKind.i64.wrap (s_3 + (ay .timetableSlot .int s_0.1 ({ index:=(k_2 : Int),hour:=(IntKind.i64.wrap ((k_1 : Int) - (k_3 : Int)))} : TimetableSlot))))
@[go_sem] def cH (d : District) (s_0 : List (TimetableSlot×Int)×Int) (k_1 : Nat) (k_2 : Nat) (s_2 : List Fault) : Empty⊕(List Fault) :=(match az (dx d s_0 k_1 k_2) (Int.toNat ((d.reaches.getD k_2 (default : Reach)).delay)) 0 0 with | .inl x=> x.elim | .inr s_3=> (bif (decide ((ay .timetableSlot .int s_0.1 ({ index:=(k_2 : Int),hour:=(k_1 : Int)} : TimetableSlot)) > (d.reaches.getD k_2 (default : Reach)).cap)) then (bif (decide (s_3 > (d.reaches.getD k_2 (default : Reach)).bank)) then .inr ((s_2 ++ [({ kind:=1,hour:=(k_1 : Int),index:=(k_2 : Int),litres:=(ay .timetableSlot .int s_0.1 ({ index:=(k_2 : Int),hour:=(k_1 : Int)} : TimetableSlot)),limit:=(d.reaches.getD k_2 (default : Reach)).cap} : Fault)]) ++ [({ kind:=3,hour:=(k_1 : Int),index:=(k_2 : Int),litres:=s_3,limit:=(d.reaches.getD k_2 (default : Reach)).bank} : Fault)]) else .inr (s_2 ++ [({ kind:=1,hour:=(k_1 : Int),index:=(k_2 : Int),litres:=(ay .timetableSlot .int s_0.1 ({ index:=(k_2 : Int),hour:=(k_1 : Int)} : TimetableSlot)),limit:=(d.reaches.getD k_2 (default : Reach)).cap} : Fault)])) else (bif (decide (s_3 > (d.reaches.getD k_2 (default : Reach)).bank)) then .inr (s_2 ++ [({ kind:=3,hour:=(k_1 : Int),index:=(k_2 : Int),litres:=s_3,limit:=(d.reaches.getD k_2 (default : Reach)).bank} : Fault)]) else .inr s_2)))
def dP (d : District) (items_ : List (List SV)) (s_0 : List (TimetableSlot×Int)×Int) (k_1 : Nat) (k_2 : Nat) (s_2 : List Fault) : Prop:=(((d.reaches.getD k_2 (default : Reach)).delay < 9223372036854775808)∧(∀ s_3,az (dx d s_0 k_1 k_2) (Int.toNat ((d.reaches.getD k_2 (default : Reach)).delay)) 0 0= .inr s_3→(((decide ((ay .timetableSlot .int s_0.1 ({ index:=(k_2 : Int),hour:=(k_1 : Int)} : TimetableSlot)) > (d.reaches.getD k_2 (default : Reach)).cap))=true→((items_[s_2.length]? =some (du ({ kind:=1,hour:=(k_1 : Int),index:=(k_2 : Int),litres:=(ay .timetableSlot .int s_0.1 ({ index:=(k_2 : Int),hour:=(k_1 : Int)} : TimetableSlot)),limit:=(d.reaches.getD k_2 (default : Reach)).cap} : Fault)))∧(((decide (s_3 > (d.reaches.getD k_2 (default : Reach)).bank))=true→(items_[(s_2 ++ [({ kind:=1,hour:=(k_1 : Int),index:=(k_2 : Int),litres:=(ay .timetableSlot .int s_0.1 ({ index:=(k_2 : Int),hour:=(k_1 : Int)} : TimetableSlot)),limit:=(d.reaches.getD k_2 (default : Reach)).cap} : Fault)]).length]? =some (du ({ kind:=3,hour:=(k_1 : Int),index:=(k_2 : Int),litres:=s_3,limit:=(d.reaches.getD k_2 (default : Reach)).bank} : Fault))))∧((decide (s_3 > (d.reaches.getD k_2 (default : Reach)).bank))=false→((decide (s_3 > (d.reaches.getD k_2 (default : Reach)).bank))=false)))))∧((decide ((ay .timetableSlot .int s_0.1 ({ index:=(k_2 : Int),hour:=(k_1 : Int)} : TimetableSlot)) > (d.reaches.getD k_2 (default : Reach)).cap))=false→(((decide ((ay .timetableSlot .int s_0.1 ({ index:=(k_2 : Int),hour:=(k_1 : Int)} : TimetableSlot)) > (d.reaches.getD k_2 (default : Reach)).cap))=false)∧(((decide (s_3 > (d.reaches.getD k_2 (default : Reach)).bank))=true→(items_[s_2.length]? =some (du ({ kind:=3,hour:=(k_1 : Int),index:=(k_2 : Int),litres:=s_3,limit:=(d.reaches.getD k_2 (default : Reach)).bank} : Fault))))∧((decide (s_3 > (d.reaches.getD k_2 (default : Reach)).bank))=false→((decide (s_3 > (d.reaches.getD k_2 (default : Reach)).bank))=false))))))))
@[go_sem] def cm (d : District) (s_0 : List (TimetableSlot×Int)×Int) (k_1 : Nat) (s_1 : List Fault) : Empty⊕(List Fault) :=(match az (cH d s_0 k_1) d.reaches.length 0 s_1 with | .inl x=> x.elim | .inr s_2=> .inr s_2)
def dQ (d : District) (items_ : List (List SV)) (s_0 : List (TimetableSlot×Int)×Int) (k_1 : Nat) (s_1 : List Fault) : Prop:=(d.reaches.length≤bu→okI (cH d s_0 k_1) (dP d items_ s_0 k_1) d.reaches.length 0 s_1)
def br (l_ : List Order) (d : District) : List Fault:=(match az (aL l_) l_.length 0 ([],0) with | .inl x=> x.elim | .inr s_0=> (match az (cm d s_0) (Int.toNat d.hours) 0 ([] : List Fault) with | .inl x=> x.elim | .inr s_1=> (bif (decide (s_0.2 > d.tank.start)) then (s_1 ++ [({ kind:=4,hour:=0,index:=0,litres:=s_0.2,limit:=d.tank.start} : Fault)]) else s_1)))
def c5 (l_ : List Order) (d : District) (items_ : List (List SV)) : Prop:=(l_.length≤bu→(∀ s_0,az (aL l_) l_.length 0 ([],0)= .inr s_0→((d.hours < 9223372036854775808)∧okI (cm d s_0) (dQ d items_ s_0) (Int.toNat d.hours) 0 ([] : List Fault)∧(∀ s_1,az (cm d s_0) (Int.toNat d.hours) 0 ([] : List Fault)= .inr s_1→(((decide (s_0.2 > d.tank.start))=true→((items_[s_1.length]? =some (du ({ kind:=4,hour:=0,index:=0,litres:=s_0.2,limit:=d.tank.start} : Fault)))∧(items_.length=(s_1 ++ [({ kind:=4,hour:=0,index:=0,litres:=s_0.2,limit:=d.tank.start} : Fault)]).length)))∧((decide (s_0.2 > d.tank.start))=false→(items_.length=s_1.length)))))))
set_option maxHeartbeats 4000000 in
theorem i7 (l_ : List Order) (d : District) (items_ : List (List SV)) (hp : c5 l_ d items_) : wB Tryz.prog 100 (fun y=> [y,.ep [.rs .order l_] 0,.ep (cellsOf .district d) 0]) [] items_:=by
 unfold c5 at hp
 refine Cb mixed aH (fn:=Tryz.f100) (c:=aj Tryz.f100) (by kernel_rfl) (by kernel_rfl) (by kernel_rfl) (by kernel_rfl) rfl (n:=0) rfl (G:=fun r_=> tM [] [] (An items_ r_)) (fun r_ hy=> ?_) (fun args w=> by kernel_rfl)
 have hG : ConsOk Tryz.prog (tM [] [] (An items_ r_)) :=rt cg0 cg0 hy
 refine ⟨hG,Nat.le_of_ble_eq_true rfl,(fun id st=> bif Nat.beq id 0 then some (LCR (ρ:=Empty) (σ:=(List (TimetableSlot×Int)×Int)) 2 [] [0,1] (fun k_0 s_0=> ⟨[(0,.os 0),(2,.ep (cellsOf .district d) 0),(4,.os 1),(5,.v (.int .i64 s_0.2)),(15,.rs .order l_),(16,.v (.int .i64 (l_.length : Int))),(17,.v (.int .i64 (k_0 : Int)))],[.ab (r_.1 (([] : List Fault).length + 1)),.mp .timetableSlot .int s_0.1 none]⟩) (aL l_) pT l_.length ([],0) (l_.length≤bu) ((·.elim)) ((·.elim)) st) else bif Nat.beq id 2 then some (LCY (ρ:=Empty) (σ:=(List Fault)) 2 [] [0,1] (fun k_1 s_1=> ⟨[(0,.os 0),(2,.ep (cellsOf .district d) 0),(4,.os 1),(5,.v (.int .i64 (aG (az (aL l_) l_.length 0 ([],0))).2)),(41,.v (.int .i64 d.hours)),(42,.v (.int .i64 (k_1 : Int)))],[.ab (r_.1 (s_1.length + 1)),.mp .timetableSlot .int (aG (az (aL l_) l_.length 0 ([],0))).1 none]⟩) (cm d (aG (az (aL l_) l_.length 0 ([],0)))) (dQ d items_ (aG (az (aL l_) l_.length 0 ([],0)))) (Int.toNat d.hours) ([] : List Fault) (d.hours < 9223372036854775808) ((·.elim)) ((·.elim)) ⟨[],[.ab (r_.1 0),.dead]⟩ st) else none),?_,?_⟩
 ·unfold aj Tryz.f100
  simp only [aB,true_and,and_true]
  refine ⟨?_,?_⟩
  ·refine cp mixed aH hG (by kernel_rfl) (fun _=> rfl) (l_.length : Int) rfl jS (fun hb0 k_0 s_0 hlt0 _ hw hc=> ⟨L0,aw _,?_⟩) (fun hb0 s_0 hc=> ?_)
   ·exact vV
   ·exact vW
  ·refine rN mixed aH hG (by kernel_rfl) (fun _=> rfl) d.hours rfl id (fun hb1 k_1 s_1 hlt1 hq1 hw hc=> ⟨(fun id st=> bif Nat.beq id 4 then some (LCY (ρ:=Empty) (σ:=(List Fault)) 2 [] [0,1] (fun k_2 s_2=> ⟨[(0,.os 0),(2,.ep (cellsOf .district d) 0),(4,.os 1),(5,.v (.int .i64 (aG (az (aL l_) l_.length 0 ([],0))).2)),(8,.v (.int .i64 (k_1 : Int))),(41,.v (.int .i64 d.hours)),(42,.v (.int .i64 (k_1 : Int))),(46,.rs .reach d.reaches),(47,.v (.int .i64 (d.reaches.length : Int))),(48,.v (.int .i64 (k_2 : Int)))],[.ab (r_.1 (s_2.length + 1)),.mp .timetableSlot .int (aG (az (aL l_) l_.length 0 ([],0))).1 none]⟩) (cH d (aG (az (aL l_) l_.length 0 ([],0))) k_1) (dP d items_ (aG (az (aL l_) l_.length 0 ([],0))) k_1) d.reaches.length s_1 (d.reaches.length≤bu) ((·.elim)) ((·.elim)) ⟨[],[.ab (r_.1 0),.dead]⟩ st) else none),?_,?_⟩) (fun hb1 s_1 hc=> ?_)
   ·simp only [aB,true_and,and_true]
    ·refine rN mixed aH hG (by kernel_rfl) (fun _=> rfl) (d.reaches.length : Int) rfl jS (fun hb2 k_2 s_2 hlt2 hq2 hw hc=> ⟨(fun id st=> bif Nat.beq id 6 then some (LCR (ρ:=Empty) (σ:=Int) 3 [] [0,1,2] (fun k_3 s_3=> ⟨[(0,.os 0),(2,.ep (cellsOf .district d) 0),(4,.os 1),(5,.v (.int .i64 (aG (az (aL l_) l_.length 0 ([],0))).2)),(8,.v (.int .i64 (k_1 : Int))),(9,.v (.int .i64 (k_2 : Int))),(10,.ptr 2 0),(11,.v (.int .i64 s_3)),(41,.v (.int .i64 d.hours)),(42,.v (.int .i64 (k_1 : Int))),(46,.rs .reach d.reaches),(47,.v (.int .i64 (d.reaches.length : Int))),(48,.v (.int .i64 (k_2 : Int))),(54,.v (.int .i64 ((d.reaches.getD k_2 (default : Reach)).delay))),(55,.v (.int .i64 (k_3 : Int)))],[.ab (r_.1 (s_2.length + 1)),.mp .timetableSlot .int (aG (az (aL l_) l_.length 0 ([],0))).1 none,.cells (cellsOf .reach (d.reaches.getD k_2 (default : Reach)))]⟩) (dx d (aG (az (aL l_) l_.length 0 ([],0))) k_1 k_2) pT (Int.toNat ((d.reaches.getD k_2 (default : Reach)).delay)) 0 ((d.reaches.getD k_2 (default : Reach)).delay < 9223372036854775808) ((·.elim)) ((·.elim)) st) else none),?_,?_⟩) (fun hb2 s_2 hc=> ?_)
     ·simp only [aB,true_and,and_true]
      ·refine cp mixed aH hG (by kernel_rfl) (fun _=> rfl) ((d.reaches.getD k_2 (default : Reach)).delay) rfl id (fun hb3 k_3 s_3 hlt3 _ hw hc=> ⟨L0,aw _,?_⟩) (fun hb3 s_3 hc=> ?_)
       ·exact AF
       ·exact AG
     ·unfold dP at hq2
      try simp only [hw,Int.toNat_natCast] at hq2
      exact vV
     ·exact vW
   ·unfold dQ at hq1
    try simp only [hw,Int.toNat_natCast] at hq1
    exact vV
   ·exact vW
 ·unfold aj Tryz.f100
  simp only [go_sem,Nat.reduceBEq,Nat.reduceLeDiff,Nat.reduceLT,decide_true,Nat.reduceAdd,Nat.reduceSub,Nat.reduceMul,Int.reduceLE,Int.reduceLT,Int.reduceToNat,Int.reduceNeg,reduceCtorEq]
  all_goals exact AD
end Go.Sx
end
section
namespace Go.Sx
open Go.Proofs
set_option maxRecDepth 100000
set_option linter.unusedSimpArgs false
theorem vX {p : Prop} (h : p:=by (first | done | (repeat' (first | with_reducible refine And.intro ?_ ?_ | ((with_reducible show _≠_);first | assumption | omega | (simp_all [aG,aK];done) | grind) | with_reducible intro _)) <;> (first | done | exact Empty.elim ‹Empty› | assumption | rfl | omega | decide | exact fk [0] | (simp only [*,cond_true,cond_false,Bool.not_true,Bool.not_false,go_sem,Nat.reduceBEq,Nat.reduceLeDiff,Nat.reduceLT,decide_true,Nat.reduceAdd,Nat.reduceSub,Nat.reduceMul,Int.reduceLE,Int.reduceLT,Int.reduceToNat,Int.reduceNeg,reduceCtorEq];done) | (simp only [*,cond_true,cond_false,Bool.not_true,Bool.not_false,go_sem,Nat.reduceBEq,Nat.reduceLeDiff,Nat.reduceLT,decide_true,Nat.reduceAdd,Nat.reduceSub,Nat.reduceMul,Int.reduceLE,Int.reduceLT,Int.reduceToNat,Int.reduceNeg,reduceCtorEq];(repeat' (first | with_reducible refine And.intro ?_ ?_ | ((with_reducible show _≠_);first | assumption | omega | (simp_all [aG,aK];done) | grind) | with_reducible intro _)) <;> (first | done | assumption | rfl | omega | decide | exact fk [0] | (simp_all [aG,aK];done))) | (simp_all [okI,aG,aK];done) | (simp_all [aG,aK];(first | done | exact fk2 [0])) | exact fk2 [0]))) : p:=h
theorem vY {p : Prop} (h : p:=by (first | done | (repeat' (first | with_reducible refine And.intro ?_ ?_ | ((with_reducible show _≠_);first | assumption | omega | (simp_all [aG,aK];done) | grind) | with_reducible intro _)) <;> (first | done | exact Empty.elim ‹Empty› | assumption | rfl | omega | decide | exact fk [0,1,2,3] | (simp only [*,cond_true,cond_false,Bool.not_true,Bool.not_false,go_sem,Nat.reduceBEq,Nat.reduceLeDiff,Nat.reduceLT,decide_true,Nat.reduceAdd,Nat.reduceSub,Nat.reduceMul,Int.reduceLE,Int.reduceLT,Int.reduceToNat,Int.reduceNeg,reduceCtorEq];done) | (simp only [*,cond_true,cond_false,Bool.not_true,Bool.not_false,go_sem,Nat.reduceBEq,Nat.reduceLeDiff,Nat.reduceLT,decide_true,Nat.reduceAdd,Nat.reduceSub,Nat.reduceMul,Int.reduceLE,Int.reduceLT,Int.reduceToNat,Int.reduceNeg,reduceCtorEq];(repeat' (first | with_reducible refine And.intro ?_ ?_ | ((with_reducible show _≠_);first | assumption | omega | (simp_all [aG,aK];done) | grind) | with_reducible intro _)) <;> (first | done | assumption | rfl | omega | decide | exact fk [0,1,2,3] | (simp_all [aG,aK];done))) | (simp_all [okI,aG,aK];done) | (simp_all [aG,aK];(first | done | exact fk2 [0,1,2,3])) | exact fk2 [0,1,2,3]))) : p:=h
@[go_sem] def bY (out : List Order) (d : District) (z_0 : Fault) (s_0 : Int×Int×Int×Int×Int) : Empty⊕(Int×Int×Int×Int×Int) :=(bif (((s_0.1==0) && ((s_0.2.1==0) && ((s_0.2.2.1==0) && ((s_0.2.2.2.1==0) && (s_0.2.2.2.2==0))))) || (decide ((bK ([(aS z_0.hour s_0.2.1),(aS s_0.2.2.1 z_0.index)])) < 0))) then .inr (z_0.kind,z_0.hour,z_0.index,z_0.litres,z_0.limit) else .inr (s_0.1,s_0.2.1,s_0.2.2.1,s_0.2.2.2.1,s_0.2.2.2.2))
def pa (out : List Order) (d : District) (z_0 : Fault) (s_0 : Int×Int×Int×Int×Int) : Prop:=True
def dp (out : List Order) (d : District) : Fault:=(match bJ (bY out d) (bn out d) (0,0,0,0,0) with | .inl x=> x.elim | .inr s_0=> ({ kind:=s_0.1,hour:=s_0.2.1,index:=s_0.2.2.1,litres:=s_0.2.2.2.1,limit:=s_0.2.2.2.2} : Fault))
def iJ (out : List Order) (d : District) : Prop:=(d9 out d ((bn out d).map du))
@[go_sem] noncomputable def iK : List SV→Option Con:=(pFn 98 (pXR .order fun out=> (pX .district fun d=> (pE ((pE (.det (iJ out d) (.agg (cellsOf .fault (dp out d))))))))))
set_option maxHeartbeats 4000000 in
theorem lA : FnOk Tryz.prog 55 iK:=by
 have hG : ConsOk Tryz.prog (mkG [(69,fun l=> eC (cO [.sl .int] l)),(70,cq)] []) :=aQ (cgc (ff.norm [.sl .int]) (cgc cP cg0)) cg0
 refine bb [.st .fault] mixed aH hG (fn:=Tryz.f55) (c:=aj Tryz.f55) (by kernel_rfl) (by kernel_rfl) (by kernel_rfl) (by kernel_rfl) (ip (rv fun out=> (qB fun d=> (aM ((aM (fun hp=> ?_)))))))
 dsimp only [aW] at hp
 unfold iJ at hp
 refine ⟨Nat.le_of_ble_eq_true rfl,(fun id st=> bif Nat.beq id 0 then some (LC (ρ:=Empty) (σ:=Int×Int×Int×Int×Int) (lk 2 st.t= .ptr 0 0∧lk 4 st.t= .fn 98 [] [.ep [.rs .order out] 0,.ep (cellsOf .district d) 0]∧st.h=[.cells [.v (.int .i64 0),.v (.int .i64 0),.v (.int .i64 0),.v (.int .i64 0),.v (.int .i64 0)]]∧d9 out d ((bn out d).map du)) (bJ (bY out d) (bn out d) (0,0,0,0,0)) (fun x=> x.elim) (fun x=> x.elim) (fun s_0=> ⟨[(2,.ptr 0 0)],[.cells [.v (.int .i64 s_0.1),.v (.int .i64 s_0.2.1),.v (.int .i64 s_0.2.2.1),.v (.int .i64 s_0.2.2.2.1),.v (.int .i64 s_0.2.2.2.2)]]⟩)) else none),?_,?_⟩
 ·unfold aj Tryz.f55
  simp only [aB,true_and,and_true]
  ·refine mJ mixed aH hG (by decide) (by decide) (by kernel_rfl) (by kernel_rfl) fun st lc hC hp=> ?_
   simp only [go_sem,Nat.reduceBEq,Option.some.injEq] at hC
   subst hC
   obtain ⟨t,h⟩ :=st
   dsimp only [LC] at hp
   obtain ⟨e0_0,e0_1,rfl,hb0⟩ :=hp
   refine ⟨98,[.ep [.rs .order out] 0,.ep (cellsOf .district d) 0],Fault,_,_,(bn out d),du,(bY out d),(pa out d),_,(0,0,0,0,0),_,_,_,[(2,.ptr 0 0)],(fun s_0=> [.cells [.v (.int .i64 s_0.1),.v (.int .i64 s_0.2.1),.v (.int .i64 s_0.2.2.1),.v (.int .i64 s_0.2.2.2.1),.v (.int .i64 s_0.2.2.2.2)]]),(fun x=> x.elim),[0],?_,rfl,ru _ _ fun _ _ _=> trivial,Nat.le_of_ble_eq_true rfl,?_,pO out d _ hb0,fun z_0 s_0 hq0=> ⟨rfl,L0,fun l=> ?_,fun l=> ?_,?_⟩,fun s_0=> ?_,fun y=> ?_⟩
   ·simp only [go_sem,e0_0,e0_1]
   ·simp only [go_sem,Nat.reduceBEq,Nat.reduceLeDiff,Nat.reduceLT,decide_true,Nat.reduceAdd,Nat.reduceSub,Nat.reduceMul,Int.reduceLE,Int.reduceLT,Int.reduceToNat,Int.reduceNeg,reduceCtorEq,nK,im,List.flatMap_cons,List.flatMap_nil,List.nil_append,List.append_nil,List.map_nil,e0_0,e0_1]
    all_goals (first | done | decide | (repeat' (first | refine And.intro ?_ ?_ | rfl | decide)))
   ·simp only [aB,and_self,true_and,and_true]
   ·simp only [aB,and_self,true_and,and_true]
   ·skip
    simp only [go_sem,Nat.reduceBEq,Nat.reduceLeDiff,Nat.reduceLT,decide_true,Nat.reduceAdd,Nat.reduceSub,Nat.reduceMul,Int.reduceLE,Int.reduceLT,Int.reduceToNat,Int.reduceNeg,reduceCtorEq,bY,psT,du,List.cons_append,List.nil_append]
    all_goals exact vX
   ·simp only [go_sem,Nat.reduceBEq,Nat.reduceLeDiff,Nat.reduceLT,decide_true,Nat.reduceAdd,Nat.reduceSub,Nat.reduceMul,Int.reduceLE,Int.reduceLT,Int.reduceToNat,Int.reduceNeg,reduceCtorEq]
    all_goals exact vX
   ·simp only [go_sem,Nat.reduceBEq,Nat.reduceLeDiff,Nat.reduceLT,decide_true,Nat.reduceAdd,Nat.reduceSub,Nat.reduceMul,Int.reduceLE,Int.reduceLT,Int.reduceToNat,Int.reduceNeg,reduceCtorEq]
    all_goals exact vX
 ·unfold aj Tryz.f55
  try unfold dp
  simp only [go_sem,Nat.reduceBEq,Nat.reduceLeDiff,Nat.reduceLT,decide_true,Nat.reduceAdd,Nat.reduceSub,Nat.reduceMul,Int.reduceLE,Int.reduceLT,Int.reduceToNat,Int.reduceNeg,reduceCtorEq]
  all_goals exact cl
@[go_sem] def cT (d : District) (c : List Claim) (z_0 : Fault) (s_0 : Unit) : (Int×Int×Int×Int×Int)⊕Unit:= .inl (z_0.kind,z_0.hour,z_0.index,z_0.litres,z_0.limit)
def jW (d : District) (c : List Claim) (z_0 : Fault) (s_0 : Unit) : Prop:=True
def av (d : District) (c : List Claim) : List Order×Fault×Int:=(bif ((ag d c).2 !=0) then ([],({ kind:=0,hour:=0,index:=0,litres:=0,limit:=0} : Fault),(ag d c).2) else (bif ((ar d ((ag d c).1)).2.2 !=0) then ([],({ kind:=0,hour:=0,index:=0,litres:=0,limit:=0} : Fault),(ar d ((ag d c).1)).2.2) else (bif (!(ar d ((ag d c).1)).2.1) then ([],(dp ((ag d c).1) d),0) else (match bJ (cT d c) (br ((ar d ((ag d c).1)).1) d) () with | .inl x_0_0=> ([],({ kind:=x_0_0.1,hour:=x_0_0.2.1,index:=x_0_0.2.2.1,litres:=x_0_0.2.2.2.1,limit:=x_0_0.2.2.2.2} : Fault),0) | .inr s_0=> ((ar d ((ag d c).1)).1,({ kind:=0,hour:=0,index:=0,litres:=0,limit:=0} : Fault),0)))))
def dh (d : District) (c : List Claim) : Prop:=((dg d c)∧(((ag d c).2 !=0)=false→((iD d ((ag d c).1))∧(((ar d ((ag d c).1)).2.2 !=0)=false→(((!(ar d ((ag d c).1)).2.1)=true→(iJ ((ag d c).1) d))∧((!(ar d ((ag d c).1)).2.1)=false→(c5 ((ar d ((ag d c).1)).1) d ((br ((ar d ((ag d c).1)).1) d).map du))))))))
@[go_sem] def iL : List SV→Option Con:=(pD .district fun d=> (pR .claim fun c=> (pE (.det (dh d c) (.tup [.rs .order ((av d c).1),.agg (cellsOf .fault ((av d c).2.1)),.v (.int .i64 ((av d c).2.2))])))))
set_option maxHeartbeats 4000000 in
theorem lB : FnOk Tryz.prog 31 iL:=by
 have hG : ConsOk Tryz.prog (mkG [(33,fun l=> iI (cO [.st .district,.sl .claim] l)),(54,fun l=> lj (cO [.st .district,.sl .order] l)),(55,iK),(56,fun l=> ji (cO [.st .district,.sl .order] l)),(57,fun l=> gZ (cO [.st .district,.sl .order] l))] []) :=aQ (cgc (lz.norm [.st .district,.sl .claim]) (cgc (nS.norm [.st .district,.sl .order]) (cgc lA (cgc (lZ.norm [.st .district,.sl .order]) (cgc (kx.norm [.st .district,.sl .order]) cg0))))) cg0
 refine bb [.sl .order,.st .fault,.o] mixed aH hG (fn:=Tryz.f31) (c:=aj Tryz.f31) (by kernel_rfl) (by kernel_rfl) (by kernel_rfl) (by kernel_rfl) (bU fun d=> (c8 fun c=> (aM (fun hp=> ?_))))
 dsimp only [aW] at hp
 unfold dh at hp
 refine ⟨Nat.le_of_ble_eq_true rfl,(fun id st=> bif Nat.beq id 0 then some (LC (ρ:=Int×Int×Int×Int×Int) (σ:=Unit) (lk 4 st.t= .ptr 1 0∧lk 5 st.t= .ptr 2 0∧lk 6 st.t= .ptr 3 0∧lk 39 st.t= .fn 100 [] [.ep [.rs .order ((ar d ((ag d c).1)).1)] 0,.ep (cellsOf .district d) 0]∧st.h=[.cells (cellsOf .district d),.cells [.rs .order ((ar d ((ag d c).1)).1)],.cells [.v (.int .i64 0),.v (.int .i64 0),.v (.int .i64 0),.v (.int .i64 0),.v (.int .i64 0)],.cells [.v (.int .i64 ((ar d ((ag d c).1)).2.2))]]∧c5 ((ar d ((ag d c).1)).1) d ((br ((ar d ((ag d c).1)).1) d).map du)) (bJ (cT d c) (br ((ar d ((ag d c).1)).1) d) ()) (fun _=> .ret) (fun x_0_0=> ⟨[(4,.ptr 1 0),(5,.ptr 2 0),(6,.ptr 3 0)],[.dead,.cells [.v (.slice none 0 0)],.cells [.v (.int .i64 x_0_0.1),.v (.int .i64 x_0_0.2.1),.v (.int .i64 x_0_0.2.2.1),.v (.int .i64 x_0_0.2.2.2.1),.v (.int .i64 x_0_0.2.2.2.2)],.cells [.v (.int .i64 0)]]⟩) (fun s_0=> ⟨[(4,.ptr 1 0),(5,.ptr 2 0),(6,.ptr 3 0)],[.dead,.cells [.rs .order ((ar d ((ag d c).1)).1)],.cells [.v (.int .i64 0),.v (.int .i64 0),.v (.int .i64 0),.v (.int .i64 0),.v (.int .i64 0)],.cells [.v (.int .i64 ((ar d ((ag d c).1)).2.2))]]⟩)) else none),?_,?_⟩
 ·unfold aj Tryz.f31
  simp only [aB,true_and,and_true]
  ·refine mJ mixed aH hG (by decide) (by decide) (by kernel_rfl) (by kernel_rfl) fun st lc hC hp=> ?_
   simp only [go_sem,Nat.reduceBEq,Option.some.injEq] at hC
   subst hC
   obtain ⟨t,h⟩ :=st
   dsimp only [LC] at hp
   obtain ⟨e0_0,e0_1,e0_2,e0_3,rfl,hb0⟩ :=hp
   refine ⟨100,[.ep [.rs .order ((ar d ((ag d c).1)).1)] 0,.ep (cellsOf .district d) 0],Fault,_,_,(br ((ar d ((ag d c).1)).1) d),du,(cT d c),(jW d c),_,(),_,_,_,[(4,.ptr 1 0),(5,.ptr 2 0),(6,.ptr 3 0)],(fun s_0=> [.dead,.cells [.rs .order ((ar d ((ag d c).1)).1)],.cells [.v (.int .i64 0),.v (.int .i64 0),.v (.int .i64 0),.v (.int .i64 0),.v (.int .i64 0)],.cells [.v (.int .i64 ((ar d ((ag d c).1)).2.2))]]),(fun x_0_0=> [.dead,.cells [.v (.slice none 0 0)],.cells [.v (.int .i64 x_0_0.1),.v (.int .i64 x_0_0.2.1),.v (.int .i64 x_0_0.2.2.1),.v (.int .i64 x_0_0.2.2.2.1),.v (.int .i64 x_0_0.2.2.2.2)],.cells [.v (.int .i64 0)]]),[0,1,2,3],?_,rfl,ru _ _ fun _ _ _=> trivial,Nat.le_of_ble_eq_true rfl,?_,i7 ((ar d ((ag d c).1)).1) d _ hb0,fun z_0 s_0 hq0=> ⟨rfl,L0,fun l=> ?_,fun l=> ?_,?_⟩,fun s_0=> ?_,fun y=> ?_⟩
   ·simp only [go_sem,e0_0,e0_1,e0_2,e0_3]
   ·simp only [go_sem,Nat.reduceBEq,Nat.reduceLeDiff,Nat.reduceLT,decide_true,Nat.reduceAdd,Nat.reduceSub,Nat.reduceMul,Int.reduceLE,Int.reduceLT,Int.reduceToNat,Int.reduceNeg,reduceCtorEq,nK,im,List.flatMap_cons,List.flatMap_nil,List.nil_append,List.append_nil,List.map_nil,e0_0,e0_1,e0_2,e0_3]
    all_goals (first | done | decide | (repeat' (first | refine And.intro ?_ ?_ | rfl | decide)))
   ·simp only [aB,and_self,true_and,and_true]
   ·simp only [aB,and_self,true_and,and_true]
   ·skip
    simp only [go_sem,Nat.reduceBEq,Nat.reduceLeDiff,Nat.reduceLT,decide_true,Nat.reduceAdd,Nat.reduceSub,Nat.reduceMul,Int.reduceLE,Int.reduceLT,Int.reduceToNat,Int.reduceNeg,reduceCtorEq,cT,psT,du,List.cons_append,List.nil_append]
    all_goals exact vY
   ·simp only [go_sem,Nat.reduceBEq,Nat.reduceLeDiff,Nat.reduceLT,decide_true,Nat.reduceAdd,Nat.reduceSub,Nat.reduceMul,Int.reduceLE,Int.reduceLT,Int.reduceToNat,Int.reduceNeg,reduceCtorEq]
    all_goals exact vY
   ·simp only [go_sem,Nat.reduceBEq,Nat.reduceLeDiff,Nat.reduceLT,decide_true,Nat.reduceAdd,Nat.reduceSub,Nat.reduceMul,Int.reduceLE,Int.reduceLT,Int.reduceToNat,Int.reduceNeg,reduceCtorEq]
    all_goals exact vY
 ·unfold aj Tryz.f31
  try unfold av
  simp only [go_sem,Nat.reduceBEq,Nat.reduceLeDiff,Nat.reduceLT,decide_true,Nat.reduceAdd,Nat.reduceSub,Nat.reduceMul,Int.reduceLE,Int.reduceLT,Int.reduceToNat,Int.reduceNeg,reduceCtorEq]
  all_goals exact cl
def ae (d : District) (c : List Claim) : List Order×Bool×Int:=((av d c).1,(((av d c).2.2==0) && ((((av d c).2.1).kind==0) && ((((av d c).2.1).hour==0) && ((((av d c).2.1).index==0) && ((((av d c).2.1).litres==0) && (((av d c).2.1).limit==0)))))),(av d c).2.2)
def cA (d : District) (c : List Claim) : Prop:=(dh d c)
@[go_sem] def jk : List SV→Option Con:=(pD .district fun d=> (pR .claim fun c=> (pE (.det (cA d c) (.tup [.rs .order ((ae d c).1),.v (.bool ((ae d c).2.1)),.v (.int .i64 ((ae d c).2.2))])))))
theorem l7 : FnOk Tryz.prog 12 jk:=by
 have hG : ConsOk Tryz.prog (mkG [(31,fun l=> iL (cO [.st .district,.sl .claim] l))] []) :=aQ (cgc (lB.norm [.st .district,.sl .claim]) cg0) cg0
 refine bb [.sl .order,.o,.o] mixed aH hG (fn:=Tryz.f12) (c:=aj Tryz.f12) (by kernel_rfl) (by kernel_rfl) (by kernel_rfl) (by kernel_rfl) (bU fun d=> (c8 fun c=> (aM (fun hp=> ?_))))
 dsimp only [aW] at hp
 unfold cA at hp
 refine ⟨Nat.le_of_ble_eq_true rfl,L0,aw _,?_⟩
 ·unfold aj Tryz.f12
  try unfold ae
  simp only [go_sem,Nat.reduceBEq,Nat.reduceLeDiff,Nat.reduceLT,decide_true,Nat.reduceAdd,Nat.reduceSub,Nat.reduceMul,Int.reduceLE,Int.reduceLT,Int.reduceToNat,Int.reduceNeg,reduceCtorEq]
  all_goals exact cl
def ak (d : District) (c : List Claim) : Fault×Bool×Int:=(((av d c).2.1),(!((((av d c).2.1).kind==0) && ((((av d c).2.1).hour==0) && ((((av d c).2.1).index==0) && ((((av d c).2.1).litres==0) && (((av d c).2.1).limit==0)))))),(av d c).2.2)
def dR (d : District) (c : List Claim) : Prop:=(dh d c)
@[go_sem] def iM : List SV→Option Con:=(pD .district fun d=> (pR .claim fun c=> (pE (.det (dR d c) (.tup [.agg (cellsOf .fault ((ak d c).1)),.v (.bool ((ak d c).2.1)),.v (.int .i64 ((ak d c).2.2))])))))
theorem lC : FnOk Tryz.prog 14 iM:=by
 have hG : ConsOk Tryz.prog (mkG [(31,fun l=> iL (cO [.st .district,.sl .claim] l))] []) :=aQ (cgc (lB.norm [.st .district,.sl .claim]) cg0) cg0
 refine bb [.st .fault,.o,.o] mixed aH hG (fn:=Tryz.f14) (c:=aj Tryz.f14) (by kernel_rfl) (by kernel_rfl) (by kernel_rfl) (by kernel_rfl) (bU fun d=> (c8 fun c=> (aM (fun hp=> ?_))))
 dsimp only [aW] at hp
 unfold dR at hp
 refine ⟨Nat.le_of_ble_eq_true rfl,L0,aw _,?_⟩
 ·unfold aj Tryz.f14
  try unfold ak
  simp only [go_sem,Nat.reduceBEq,Nat.reduceLeDiff,Nat.reduceLT,decide_true,Nat.reduceAdd,Nat.reduceSub,Nat.reduceMul,Int.reduceLE,Int.reduceLT,Int.reduceToNat,Int.reduceNeg,reduceCtorEq]
  all_goals exact cl
end Go.Sx
end
section
namespace Go.Sx
open Go.Proofs
abbrev UM:=List (TimetableSlot×Bool)
abbrev WM:=List (TimetableSlot×Int)
def sl (a b : Int) : TimetableSlot:= { index:=a,hour:=b}
def ltF (k : Nat) (r n : Int) : Fault:= { kind:=7,hour:=(k : Int),index:=r,litres:=n,limit:=0}
section
variable {d : District} {s1 : List Fault×WM×UM×Int} {k : Nat} {u : UM} {F : List Fault} {w : WM}
theorem xL (hu : ay .timetableSlot .bool u (sl s1.2.2.2 k)=true) : ∃ u',aD d s1 k (u,F,w)= .inr (u',F,w) :=by
 unfold aD
 unfold sl at hu
 simp only [hu,cond_true]
 exact ⟨_,rfl⟩
theorem sZ (hu : ay .timetableSlot .bool u (sl s1.2.2.2 k)=false) (hn : ay .timetableSlot .int w (sl s1.2.2.2 k)=0) : aD d s1 k (u,F,w)= .inr (u,F,w) :=by
 unfold aD
 unfold sl at hu hn
 simp only [hu,hn,cond_false,BEq.rfl,cond_true]
theorem vZ (hu : ay .timetableSlot .bool u (sl s1.2.2.2 k)=false) (hn : ay .timetableSlot .int w (sl s1.2.2.2 k)≠0)
  (hb : (aA (rch d s1.2.2.2) (ay .timetableSlot .int w (sl s1.2.2.2 k))).2=false∨(k : Int) < (rch d s1.2.2.2).delay) :
  ∃ u',aD d s1 k (u,F,w)= .inr (u',F ++ [ltF k s1.2.2.2 (ay .timetableSlot .int w (sl s1.2.2.2 k))],w) :=by
 unfold aD ltF
 unfold sl at hu hn hb ⊢
 simp only [hu,cond_false]
 generalize hq : ay .timetableSlot .int w ({ index:=s1.2.2.2,hour:=(k : Int)} : TimetableSlot)=n at hn hb ⊢
 have h0 : (n==0)=false:=by simpa using hn
 rw [h0,cond_false]
 unfold aA at hb
 by_cases hm : n≤1073741824
 ·rw [decide_eq_true hm,cond_true]
  have h1 : ((n==0) || decide (n > 1073741824))=false:=by rw [h0,Bool.false_or,decide_eq_false_iff_not];exact Int.not_lt.2 hm
  rw [h1,cond_false] at hb
  have h2 : ((!(bX (d.reaches.getD (Int.toNat s1.2.2.2) (default : Reach)) n).2.1) || (decide ((k : Int) < (d.reaches.getD (Int.toNat s1.2.2.2) (default : Reach)).delay)))=true:=by
   rcases hb with hb | hb
   ·cases hN : (bX (d.reaches.getD (Int.toNat s1.2.2.2) (default : Reach)) n).2.1 with
    | false=> rfl
    | true=> rw [hN] at hb;cases hb
   ·rw [decide_eq_true hb,Bool.or_true]
  rw [h2,cond_true]
  exact ⟨_,rfl⟩
 ·rw [decide_eq_false hm,cond_false]
  rw [Bool.not_false,Bool.true_or,cond_true]
  exact ⟨_,rfl⟩
theorem s4 (hu : ay .timetableSlot .bool u (sl s1.2.2.2 k)=false) (hn : ay .timetableSlot .int w (sl s1.2.2.2 k)≠0)
  (hb : (aA (rch d s1.2.2.2) (ay .timetableSlot .int w (sl s1.2.2.2 k))).2=true) (hk : ¬ (k : Int) < (rch d s1.2.2.2).delay) :
  aD d s1 k (u,F,w)= .inr (u,F,cU .timetableSlot .int w (sl (rch d s1.2.2.2).up (IntKind.i64.wrap ((k : Int) - (rch d s1.2.2.2).delay))) (IntKind.i64.wrap (ay .timetableSlot .int w (sl (rch d s1.2.2.2).up (IntKind.i64.wrap ((k : Int) - (rch d s1.2.2.2).delay))) + (aA (rch d s1.2.2.2) (ay .timetableSlot .int w (sl s1.2.2.2 k))).1))) :=by
 unfold aD
 unfold sl at hu hn hb ⊢
 simp only [hu,cond_false]
 generalize hq : ay .timetableSlot .int w ({ index:=s1.2.2.2,hour:=(k : Int)} : TimetableSlot)=n at hn hb ⊢
 have h0 : (n==0)=false:=by simpa using hn
 rw [h0,cond_false]
 unfold aA at hb ⊢
 by_cases hm : n≤1073741824
 ·rw [decide_eq_true hm,cond_true]
  have h1 : ((n==0) || decide (n > 1073741824))=false:=by rw [h0,Bool.false_or,decide_eq_false_iff_not];exact Int.not_lt.2 hm
  rw [h1,cond_false] at hb ⊢
  have hN : (bX (rch d s1.2.2.2) n).2.1=true:=by
   cases hN : (bX (rch d s1.2.2.2) n).2.1 with
   | true=> rfl
   | false=> rw [hN] at hb;cases hb
  have h2 : ((!(bX (d.reaches.getD (Int.toNat s1.2.2.2) (default : Reach)) n).2.1) || (decide ((k : Int) < (d.reaches.getD (Int.toNat s1.2.2.2) (default : Reach)).delay)))=false:=by
   rw [decide_eq_false hk,Bool.or_false]
   show (!(bX (rch d s1.2.2.2) n).2.1)=false
   rw [hN];rfl
  rw [h2,cond_false,hN]
  rfl
 ·have h1 : ((n==0) || decide (n > 1073741824))=true:=by rw [h0,Bool.false_or,decide_eq_true_eq];exact Int.not_le.1 hm
  rw [h1,cond_true,h0] at hb
  cases hb
theorem JF : ∃ u' T w',aD d s1 k (u,F,w)= .inr (u',F ++ T,w')∧∀ f∈T,f.kind=7:=by
 cases hu : ay .timetableSlot .bool u (sl s1.2.2.2 k) with
 | true=> obtain ⟨u',e⟩ :=xL (F:=F) (w:=w) hu;exact ⟨u',[],w,by rw [e,List.append_nil],by simp⟩
 | false=>
  by_cases hn : ay .timetableSlot .int w (sl s1.2.2.2 k)=0
  ·exact ⟨u,[],w,by rw [sZ hu hn,List.append_nil],by simp⟩
  ·by_cases hb : (aA (rch d s1.2.2.2) (ay .timetableSlot .int w (sl s1.2.2.2 k))).2=false∨(k : Int) < (rch d s1.2.2.2).delay
   ·obtain ⟨u',e⟩ :=vZ (F:=F) hu hn hb
    exact ⟨u',_,w,e,by simp [ltF]⟩
   ·have h1 : (aA (rch d s1.2.2.2) (ay .timetableSlot .int w (sl s1.2.2.2 k))).2=true:=by
     cases q : (aA (rch d s1.2.2.2) (ay .timetableSlot .int w (sl s1.2.2.2 k))).2 with
     | true=> rfl
     | false=> exact absurd (.inl q) hb
    exact ⟨u,[],_,by rw [s4 hu hn h1 (fun q=> hb (.inr q)),List.append_nil],by simp⟩
end
section
variable {d : District} {s1 : List Fault×WM×UM×Int} {items : List (List SV)}
theorem rZ : ∀ (n k : Nat) (u : UM) (F : List Fault) (w : WM),∃ u' T w',az (aD d s1) n k (u,F,w)= .inr (u',F ++ T,w')∧∀ f∈T,f.kind=7
 | 0,k,u,F,w=> ⟨u,[],w,by rw [List.append_nil];rfl,by simp⟩
 | n + 1,k,u,F,w=> by
  obtain ⟨u1,T1,w1,e1,h1⟩ :=JF (d:=d) (s1:=s1) (k:=k) (u:=u) (F:=F) (w:=w)
  obtain ⟨u2,T2,w2,e2,h2⟩ :=rZ n (k + 1) u1 (F ++ T1) w1
  refine ⟨u2,T1 ++ T2,w2,?_,fun f hf=> (List.mem_append.1 hf).elim (h1 f) (h2 f)⟩
  simp only [az,e1]
  rw [e2,List.append_assoc]
theorem uh {F : List Fault} {f : Fault} (h : (F ++ [f]).map du <+: items) : items[F.length]? =some (du f) :=by
 obtain ⟨t,rfl⟩ :=h
 simp
theorem Oi {k : Nat} {u : UM} {F : List Fault} {w : WM} (h : ∀ f,(∃ u' w',aD d s1 k (u,F,w)= .inr (u',F ++ [f],w'))→items[F.length]? =some (du f)) : dw d items s1 k (u,F,w) :=by
 intro hu hn
 simp only at hu hn
 refine ⟨fun hm=> ⟨Ez _ _,fun hb=> h _ ?_⟩,fun hm hb=> h _ ?_⟩
 ·unfold aD
  simp only at hm hb
  simp only [hu,hn,hm,hb,cond_false,cond_true]
  exact ⟨_,_,rfl⟩
 ·unfold aD
  simp only at hm hb
  simp only [hu,hn,hm,hb,cond_false,cond_true]
  exact ⟨_,_,rfl⟩
theorem JG : ∀ (n k : Nat) (u : UM) (F : List Fault) (w : WM),(∀ u2 F2 w2,az (aD d s1) n k (u,F,w)= .inr (u2,F2,w2)→F2.map du <+: items)→okI (aD d s1) (dw d items s1) n k (u,F,w)
 | 0,_,_,_,_,_=> trivial
 | n + 1,k,u,F,w,h=> by
  refine ⟨Oi fun f ⟨u',w',e⟩ => ?_,fun s' e=> ?_⟩
  ·obtain ⟨u2,T2,w2,e2,_⟩ :=rZ (d:=d) (s1:=s1) n (k + 1) u' (F ++ [f]) w'
   have:=h u2 (F ++ [f] ++ T2) w2 (by simp only [az,e];exact e2)
   refine uh (List.IsPrefix.trans ?_ this)
   rw [List.map_append (l₂:=T2)]
   exact List.prefix_append _ _
  ·obtain ⟨u',F',w'⟩ :=s'
   exact JG n (k + 1) u' F' w' fun u2 F2 w2 e2=> h u2 F2 w2 (by simp only [az,e];exact e2)
end
section
variable {d : District} {items : List (List SV)}
theorem Ck {j : Nat} {F : List Fault} {w : WM} {u : UM} {i : Int} (h : i < 0) : a7 d j (F,w,u,i)= .inl F:=by
 unfold a7
 simp only
 rw [decide_eq_false (by omega),cond_false]
theorem AH {j : Nat} {F F' : List Fault} {w w' : WM} {u u' : UM} {i : Int} (h0 : 0≤i) (h1 : i≤1000000) (e : az (aD d (F,w,u,i)) (Int.toNat d.hours) 0 (u,F,w)= .inr (u',F',w')) :
  a7 d j (F,w,u,i)= .inr (F',w',u',i - 1) :=by
 unfold a7
 simp only
 rw [decide_eq_true (by omega),cond_true,e]
 simp only
 rw [cd (by omega) (by omega)]
theorem ui : ∀ (m n j : Nat) (F : List Fault) (w : WM) (u : UM),m < n→m≤1000000→∃ T,az (a7 d) n j (F,w,u,(m : Int) - 1)= .inl (F ++ T)∧∀ f∈T,f.kind=7
 | 0,n + 1,j,F,w,u,_,_=> ⟨[],by simp only [az];rw [Ck (by omega),List.append_nil],by simp⟩
 | m + 1,n + 1,j,F,w,u,h,hm=> by
  obtain ⟨u1,T1,w1,e1,h1⟩ :=rZ (d:=d) (s1:=(F,w,u,((m + 1 : Nat) : Int) - 1)) (Int.toNat d.hours) 0 u F w
  obtain ⟨T2,e2,h2⟩ :=ui m n (j + 1) (F ++ T1) w1 u1 (by omega) (by omega)
  refine ⟨T1 ++ T2,?_,fun f hf=> (List.mem_append.1 hf).elim (h1 f) (h2 f)⟩
  simp only [az]
  rw [AH (by omega) (by omega) e1]
  simp only
  rw [show ((m + 1 : Nat) : Int) - 1 - 1=(m : Int) - 1 by omega,e2,List.append_assoc]
theorem JH (hh : d.hours≤4096) : ∀ (m n j : Nat) (F : List Fault) (w : WM) (u : UM),m < n→m≤1000000→m≤d.reaches.length→(∀ x,az (a7 d) n j (F,w,u,(m : Int) - 1)= .inl x→x.map du <+: items)→
  okI (a7 d) (ei d items) n j (F,w,u,(m : Int) - 1)
 | 0,n + 1,j,F,w,u,_,_,_,h=> by
  refine ⟨fun q=> ?_,fun s' e=> ?_⟩
  ·simp only [decide_eq_true_eq] at q;omega
  ·rw [Ck (by omega)] at e;cases e
 | m + 1,n + 1,j,F,w,u,hmn,hm,hR,h=> by
  obtain ⟨u1,T1,w1,e1,h1⟩ :=rZ (d:=d) (s1:=(F,w,u,((m + 1 : Nat) : Int) - 1)) (Int.toNat d.hours) 0 u F w
  have e3:=AH (j:=j) (d:=d) (by omega) (by omega) e1
  rw [show ((m + 1 : Nat) : Int) - 1 - 1=(m : Int) - 1 by omega] at e3
  refine ⟨fun q=> ⟨by simp only;omega,by omega,JG _ _ _ _ _ fun u2 F2 w2 e2=> ?_⟩,fun s' e=> ?_⟩
  ·simp only at e2
   rw [e1] at e2
   simp only [Sum.inr.injEq,Prod.mk.injEq] at e2
   obtain ⟨rfl,rfl,rfl⟩ :=e2
   obtain ⟨T2,e4,_⟩ :=ui (d:=d) m n (j + 1) (F ++ T1) w1 u1 (by omega) (by omega)
   have:=h _ (by simp only [az];rw [e3];exact e4)
   refine List.IsPrefix.trans ?_ this
   rw [List.map_append (l₂:=T2)]
   exact List.prefix_append _ _
  ·rw [e3] at e
   simp only [Sum.inr.injEq] at e
   subst e
   exact JH hh m n (j + 1) (F ++ T1) w1 u1 (by omega) (by omega) (by omega) fun x hx=> h x (by simp only [az];rw [e3];exact hx)
end
end Go.Sx
end
