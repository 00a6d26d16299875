/- Part of the proof that the law TimetableServedSpec returns true and leaves its arguments as they were, for all arguments of bulk at most 1048576 (the Upto form). -/
import Derived.Test.YtagjakphhkfofaaGreatC707
import Derived.Sort.Statements
import Derived.Shelf.SlSortCmp.Insertion
import Derived.Calls
import Derived.Shelf.SlSortCmp.NoneTotal
import Derived.Ground.SlsfProg
import Derived.Test.YtagjakphhkfofaaGreatProg
import Derived.Test.YtagjakphhkfofaaGreatC706
set_option linter.all false
set_option maxHeartbeats 4000000
section
namespace Go.Sx
open Go.Proofs
set_option maxRecDepth 100000
set_option linter.unusedSimpArgs false
theorem mt {p:Prop}(h:p:=by simp only[go_sem,Nat.reduceBEq,Nat.reduceLeDiff,Nat.reduceLT,decide_true,Nat.reduceAdd,Nat.reduceSub,Nat.reduceMul,Int.reduceLE,Int.reduceLT,Int.reduceToNat,Int.reduceNeg,reduceCtorEq,hc,hw];all_goals exact zg):p:=h
theorem mu {p:Prop}(h:p:=by simp only[go_sem,Nat.reduceBEq,Nat.reduceLeDiff,Nat.reduceLT,decide_true,Nat.reduceAdd,Nat.reduceSub,Nat.reduceMul,Int.reduceLE,Int.reduceLT,Int.reduceToNat,Int.reduceNeg,reduceCtorEq,hc];all_goals exact zg):p:=h
@[go_sem] def cr (a0:District)(a1:List Order)(k_0:Nat)(s_0:Unit):Unit⊕Unit:=(bif(a1.getD k_0 (default:Order)).outlet then(bif(((((((decide ((a1.getD k_0 (default:Order)).hour<0)) ||(decide ((a1.getD k_0 (default:Order)).hour≥a0.hours))) ||(decide ((a1.getD k_0 (default:Order)).index<0))) ||(decide ((a1.getD k_0 (default:Order)).index≥(a0.farms.length:Int)))) ||(decide ((a1.getD k_0 (default:Order)).litres<1))) ||(decide ((a1.getD k_0 (default:Order)).litres > 1073741824))) ||((decide ((k_0:Int) > 0))&&(decide ((aG (a1.getD (Int.toNat (IntKind.i64.wrap ((k_0:Int) - 1))) (default:Order)) (a1.getD k_0 (default:Order)))≥0))))then .inl ()else .inr ())else(bif(((((((decide ((a1.getD k_0 (default:Order)).hour<0)) ||(decide ((a1.getD k_0 (default:Order)).hour≥a0.hours))) ||(decide ((a1.getD k_0 (default:Order)).index<0))) ||(decide ((a1.getD k_0 (default:Order)).index≥(a0.reaches.length:Int)))) ||(decide ((a1.getD k_0 (default:Order)).litres<1))) ||(decide ((a1.getD k_0 (default:Order)).litres > 1073741824))) ||((decide ((k_0:Int) > 0))&&(decide ((aG (a1.getD (Int.toNat (IntKind.i64.wrap ((k_0:Int) - 1))) (default:Order)) (a1.getD k_0 (default:Order)))≥0))))then .inl ()else .inr ()))
def gC (a0:District)(a1:List Order)(k_0:Nat)(s_0:Unit):Prop:=(a0.reaches.length≤a7→(((a1.getD k_0 (default:Order)).outlet=true→(a0.farms.length≤a7→(((((((decide ((a1.getD k_0 (default:Order)).hour<0)) ||(decide ((a1.getD k_0 (default:Order)).hour≥a0.hours))) ||(decide ((a1.getD k_0 (default:Order)).index<0))) ||(decide ((a1.getD k_0 (default:Order)).index≥(a0.farms.length:Int)))) ||(decide ((a1.getD k_0 (default:Order)).litres<1))) ||(decide ((a1.getD k_0 (default:Order)).litres > 1073741824)))=false→((decide ((k_0:Int) > 0))=true→(0≤(IntKind.i64.wrap ((k_0:Int) - 1))∧(IntKind.i64.wrap ((k_0:Int) - 1)) < (a1.length:Int))))))∧((a1.getD k_0 (default:Order)).outlet=false→(((((((decide ((a1.getD k_0 (default:Order)).hour<0)) ||(decide ((a1.getD k_0 (default:Order)).hour≥a0.hours))) ||(decide ((a1.getD k_0 (default:Order)).index<0))) ||(decide ((a1.getD k_0 (default:Order)).index≥(a0.reaches.length:Int)))) ||(decide ((a1.getD k_0 (default:Order)).litres<1))) ||(decide ((a1.getD k_0 (default:Order)).litres > 1073741824)))=false→((decide ((k_0:Int) > 0))=true→(0≤(IntKind.i64.wrap ((k_0:Int) - 1))∧(IntKind.i64.wrap ((k_0:Int) - 1)) < (a1.length:Int)))))))
def bA (a0:District)(a1:List Order):Int:=(bif((bt a0) !=0)then(bt a0)else(bif(decide ((a1.length:Int) > 4096))then 2 else(match ap (cr a0 a1) a1.length 0 ()with| .inl x_0_0=>220| .inr s_0=>0)))
def jv (a0:District)(a1:List Order):Prop:=(((bt a0) !=0)=false→(a1.length≤a7→((decide ((a1.length:Int) > 4096))=false→(a1.length≤a7→okI (cr a0 a1) (gC a0 a1) a1.length 0 ()))))
@[go_sem] def qy:List SV→Option Con:=(pD .district fun a0=>(pR .order fun a1=>(pE (.det (jv a0 a1) (.v (.int .i64 (bA a0 a1)))))))
theorem wr:FnOk Tryz.prog 25 qy:=by
 have hG:ConsOk Tryz.prog (mkG [(42,fun l=>nY (cn [.st .district] l)),(44,cF),(121,gb)] []):=aC (cgc (qu.norm [.st .district]) (cgc n9 (cgc qx cg0))) cg0
 refine aI [.o] mixed ax hG (fn:=Tryz.f25) (c:=aa Tryz.f25) (by kernel_rfl) (by kernel_rfl) (by kernel_rfl) (by kernel_rfl) (aN fun a0=>(cj fun a1=>(aB (fun hp=>?_))))
 dsimp only[aD]at hp
 unfold jv at hp
 refine⟨Nat.le_of_ble_eq_true rfl,(fun id st=>bif Nat.beq id 0 then some (LCR (ρ:=Unit) (σ:=Unit) 1 [] [0] (fun k_0 s_0=>⟨[(1,.rs .order a1),(2,.ptr 0 0),(5,.fn 121 [] [.ep [.ls [.fn 79 [] [],.fn 80 [] [],.fn 81 [] []]] 0]),(18,.rs .order a1),(19,.v (.int .i64 (a1.length:Int))),(20,.v (.int .i64 (k_0:Int)))],[.cells (cellsOf .district a0)]⟩) (cr a0 a1) (gC a0 a1) a1.length () (a1.length≤a7) (fun _=>.ret) (fun x_0_0=>⟨[(4,.v (.int .i64 220))],[.dead]⟩) st)else none),?_,?_⟩
 ·unfold aa Tryz.f25
  simp only[ay,true_and,and_true]
  ·refine dB mixed ax hG (by kernel_rfl) (fun _=>rfl) (a1.length:Int) rfl g7 (fun hb0 k_0 s_0 hlt0 hq0 hw hc=>⟨L0,ak _,?_⟩) (fun hb0 s_0 hc=>?_)
   ·unfold gC at hq0
    try simp only[hw,Int.toNat_natCast]at hq0
    exact fv
   ·exact fw
 ·unfold aa Tryz.f25
  try unfold bA
  simp only[go_sem,Nat.reduceBEq,Nat.reduceLeDiff,Nat.reduceLT,decide_true,Nat.reduceAdd,Nat.reduceSub,Nat.reduceMul,Int.reduceLE,Int.reduceLT,Int.reduceToNat,Int.reduceNeg,reduceCtorEq,cF,gb,if_true]
  all_goals exact cl
def bq (d:District)(l_:List Order):Int:=(bif(((bA d l_) ==0)&&(decide ((IntKind.i64.wrap ((d.reaches.length:Int)*d.hours)) > 1024)))then 2 else(bA d l_))
def iG (d:District)(l_:List Order):Prop:=(jv d l_)
@[go_sem] def pu:List SV→Option Con:=(pD .district fun d=>(pR .order fun l_=>(pE (.det (iG d l_) (.v (.int .i64 (bq d l_)))))))
theorem u7:FnOk Tryz.prog 93 pu:=by
 have hG:ConsOk Tryz.prog (mkG [(25,fun l=>qy (cn [.st .district,.sl .order] l))] []):=aC (cgc (wr.norm [.st .district,.sl .order]) cg0) cg0
 refine aI [.o] mixed ax hG (fn:=Tryz.f93) (c:=aa Tryz.f93) (by kernel_rfl) (by kernel_rfl) (by kernel_rfl) (by kernel_rfl) (aN fun d=>(cj fun l_=>(aB (fun hp=>?_))))
 dsimp only[aD]at hp
 unfold iG at hp
 refine⟨Nat.le_of_ble_eq_true rfl,L0,ak _,?_⟩
 ·unfold aa Tryz.f93
  try unfold bq
  simp only[go_sem,Nat.reduceBEq,Nat.reduceLeDiff,Nat.reduceLT,decide_true,Nat.reduceAdd,Nat.reduceSub,Nat.reduceMul,Int.reduceLE,Int.reduceLT,Int.reduceToNat,Int.reduceNeg,reduceCtorEq]
  all_goals exact cl
@[go_sem] def mO (l_:List Int)(k_0:Nat)(s_0:Unit):Int⊕Unit:=(bif((l_.getD k_0 (0:Int)) !=0)then .inl (l_.getD k_0 (0:Int))else .inr ())
def ku (l_:List Int):Int:=(match ap (mO l_) l_.length 0 ()with| .inl x_0_0=>x_0_0| .inr s_0=>0)
@[go_sem] def rJ:List SV→Option Con:=(pR .int fun l_=>(pE (.det True (.v (.int .i64 (ku l_))))))
theorem xD:FnOk Tryz.prog 77 rJ:=by
 have hG:ConsOk Tryz.prog (mkG [] []):=aC cg0 cg0
 refine aI [.o] mixed ax hG (fn:=Tryz.f77) (c:=aa Tryz.f77) (by kernel_rfl) (by kernel_rfl) (by kernel_rfl) (by kernel_rfl) (cj fun l_=>(aB (fun hp=>?_)))
 dsimp only[aD]at hp
 refine⟨Nat.le_of_ble_eq_true rfl,(fun id st=>bif Nat.beq id 0 then some (LCR (ρ:=Int) (σ:=Unit) 0 [] [] (fun k_0 s_0=>⟨[(5,.rs .int l_),(6,.v (.int .i64 (l_.length:Int))),(7,.v (.int .i64 (k_0:Int)))],[]⟩) (mO l_) pT l_.length () (l_.length≤a7) (fun _=>.ret) (fun x_0_0=>⟨[(2,.v (.int .i64 x_0_0))],[]⟩) st)else none),?_,?_⟩
 ·unfold aa Tryz.f77
  simp only[ay,true_and,and_true]
  ·refine dB mixed ax hG (by kernel_rfl) (fun _=>rfl) (l_.length:Int) rfl g7 (fun hb0 k_0 s_0 hlt0 _ hw hc=>⟨L0,ak _,?_⟩) (fun hb0 s_0 hc=>?_)
   ·exact mt
   ·exact mu
 ·unfold aa Tryz.f77
  try unfold ku
  simp only[go_sem,Nat.reduceBEq,Nat.reduceLeDiff,Nat.reduceLT,decide_true,Nat.reduceAdd,Nat.reduceSub,Nat.reduceMul,Int.reduceLE,Int.reduceLT,Int.reduceToNat,Int.reduceNeg,reduceCtorEq]
  all_goals exact cl
def iH (a:Claim)(b:Claim):Int:=(ku ([(aP a.hour b.hour),(aP a.rank b.rank),(aP a.right b.right),(aP a.farm b.farm)]))
@[go_sem] def rK:List SV→Option Con:=(pD .claim fun a=>(pD .claim fun b=>(pE (.det True (.v (.int .i64 (iH a b)))))))
theorem xE:FnOk Tryz.prog 43 rK:=by
 have hG:ConsOk Tryz.prog (mkG [(70,c9),(77,fun l=>rJ (cn [.sl .int] l))] []):=aC (cgc dI (cgc (xD.norm [.sl .int]) cg0)) cg0
 refine aI [.o] mixed ax hG (fn:=Tryz.f43) (c:=aa Tryz.f43) (by kernel_rfl) (by kernel_rfl) (by kernel_rfl) (by kernel_rfl) (aN fun a=>(aN fun b=>(aB (fun hp=>?_))))
 dsimp only[aD]at hp
 refine⟨Nat.le_of_ble_eq_true rfl,L0,ak _,?_⟩
 ·unfold aa Tryz.f43
  try unfold iH
  simp only[go_sem,Nat.reduceBEq,Nat.reduceLeDiff,Nat.reduceLT,decide_true,Nat.reduceAdd,Nat.reduceSub,Nat.reduceMul,Int.reduceLE,Int.reduceLT,Int.reduceToNat,Int.reduceNeg,reduceCtorEq]
  all_goals exact cl
@[go_sem] def dn (a0:District)(a1:List Claim)(k_0:Nat)(s_0:Unit):Unit⊕Unit:=(bif((((!((((((((decide ((a1.getD k_0 (default:Claim)).right≥0))&&(decide ((a1.getD k_0 (default:Claim)).right< (a0.rights.length:Int))))&&(decide ((a1.getD k_0 (default:Claim)).farm≥0)))&&(decide ((a1.getD k_0 (default:Claim)).farm< (a0.farms.length:Int))))&&(decide ((a1.getD k_0 (default:Claim)).hour≥0)))&&(decide ((a1.getD k_0 (default:Claim)).hour<a0.hours)))&&(decide ((a1.getD k_0 (default:Claim)).litres≥1)))&&(decide ((a1.getD k_0 (default:Claim)).litres≤1073741824)))) ||((a0.rights.getD (Int.toNat ((a1.getD k_0 (default:Claim)).right)) (default:Right)).kind !=1)) ||((a0.rights.getD (Int.toNat ((a1.getD k_0 (default:Claim)).right)) (default:Right)).rank !=(a1.getD k_0 (default:Claim)).rank)) ||((decide ((k_0:Int) > 0))&&(decide ((iH (a1.getD (Int.toNat (IntKind.i64.wrap ((k_0:Int) - 1))) (default:Claim)) (a1.getD k_0 (default:Claim)))≥0))))then .inl ()else .inr ())
def hU (a0:District)(a1:List Claim)(k_0:Nat)(s_0:Unit):Prop:=(((!((((((((decide ((a1.getD k_0 (default:Claim)).right≥0))&&(decide ((a1.getD k_0 (default:Claim)).right< (a0.rights.length:Int))))&&(decide ((a1.getD k_0 (default:Claim)).farm≥0)))&&(decide ((a1.getD k_0 (default:Claim)).farm< (a0.farms.length:Int))))&&(decide ((a1.getD k_0 (default:Claim)).hour≥0)))&&(decide ((a1.getD k_0 (default:Claim)).hour<a0.hours)))&&(decide ((a1.getD k_0 (default:Claim)).litres≥1)))&&(decide ((a1.getD k_0 (default:Claim)).litres≤1073741824))))=false→(0≤(a1.getD k_0 (default:Claim)).right∧(a1.getD k_0 (default:Claim)).right< (a0.rights.length:Int)))∧((((!((((((((decide ((a1.getD k_0 (default:Claim)).right≥0))&&(decide ((a1.getD k_0 (default:Claim)).right< (a0.rights.length:Int))))&&(decide ((a1.getD k_0 (default:Claim)).farm≥0)))&&(decide ((a1.getD k_0 (default:Claim)).farm< (a0.farms.length:Int))))&&(decide ((a1.getD k_0 (default:Claim)).hour≥0)))&&(decide ((a1.getD k_0 (default:Claim)).hour<a0.hours)))&&(decide ((a1.getD k_0 (default:Claim)).litres≥1)))&&(decide ((a1.getD k_0 (default:Claim)).litres≤1073741824)))) ||((a0.rights.getD (Int.toNat ((a1.getD k_0 (default:Claim)).right)) (default:Right)).kind !=1))=false→(0≤(a1.getD k_0 (default:Claim)).right∧(a1.getD k_0 (default:Claim)).right< (a0.rights.length:Int)))∧((((!((((((((decide ((a1.getD k_0 (default:Claim)).right≥0))&&(decide ((a1.getD k_0 (default:Claim)).right< (a0.rights.length:Int))))&&(decide ((a1.getD k_0 (default:Claim)).farm≥0)))&&(decide ((a1.getD k_0 (default:Claim)).farm< (a0.farms.length:Int))))&&(decide ((a1.getD k_0 (default:Claim)).hour≥0)))&&(decide ((a1.getD k_0 (default:Claim)).hour<a0.hours)))&&(decide ((a1.getD k_0 (default:Claim)).litres≥1)))&&(decide ((a1.getD k_0 (default:Claim)).litres≤1073741824)))) ||((a0.rights.getD (Int.toNat ((a1.getD k_0 (default:Claim)).right)) (default:Right)).kind !=1)) ||((a0.rights.getD (Int.toNat ((a1.getD k_0 (default:Claim)).right)) (default:Right)).rank !=(a1.getD k_0 (default:Claim)).rank))=false→((decide ((k_0:Int) > 0))=true→(0≤(IntKind.i64.wrap ((k_0:Int) - 1))∧(IntKind.i64.wrap ((k_0:Int) - 1)) < (a1.length:Int))))))
def bu (a0:District)(a1:List Claim):Int:=(bif((bt a0) !=0)then(bt a0)else(bif(decide ((a1.length:Int) > 4096))then 2 else(match ap (dn a0 a1) a1.length 0 ()with| .inl x_0_0=>260| .inr s_0=>0)))
def kv (a0:District)(a1:List Claim):Prop:=(((bt a0) !=0)=false→(a1.length≤a7→((decide ((a1.length:Int) > 4096))=false→(a1.length≤a7→okI (dn a0 a1) (hU a0 a1) a1.length 0 ()))))
@[go_sem] def oa:List SV→Option Con:=(pD .district fun a0=>(pR .claim fun a1=>(pE (.det (kv a0 a1) (.v (.int .i64 (bu a0 a1)))))))
theorem qz:FnOk Tryz.prog 24 oa:=by
 have hG:ConsOk Tryz.prog (mkG [(42,fun l=>nY (cn [.st .district] l)),(43,rK)] []):=aC (cgc (qu.norm [.st .district]) (cgc xE cg0)) cg0
 refine aI [.o] mixed ax hG (fn:=Tryz.f24) (c:=aa Tryz.f24) (by kernel_rfl) (by kernel_rfl) (by kernel_rfl) (by kernel_rfl) (aN fun a0=>(cj fun a1=>(aB (fun hp=>?_))))
 dsimp only[aD]at hp
 unfold kv at hp
 refine⟨Nat.le_of_ble_eq_true rfl,(fun id st=>bif Nat.beq id 0 then some (LCR (ρ:=Unit) (σ:=Unit) 1 [] [0] (fun k_0 s_0=>⟨[(1,.rs .claim a1),(2,.ptr 0 0),(16,.rs .claim a1),(17,.v (.int .i64 (a1.length:Int))),(18,.v (.int .i64 (k_0:Int)))],[.cells (cellsOf .district a0)]⟩) (dn a0 a1) (hU a0 a1) a1.length () (a1.length≤a7) (fun _=>.ret) (fun x_0_0=>⟨[(4,.v (.int .i64 260))],[.dead]⟩) st)else none),?_,?_⟩
 ·unfold aa Tryz.f24
  simp only[ay,true_and,and_true]
  ·refine dB mixed ax hG (by kernel_rfl) (fun _=>rfl) (a1.length:Int) rfl g7 (fun hb0 k_0 s_0 hlt0 hq0 hw hc=>⟨L0,ak _,?_⟩) (fun hb0 s_0 hc=>?_)
   ·unfold hU at hq0
    try simp only[hw,Int.toNat_natCast]at hq0
    exact fv
   ·exact fw
 ·unfold aa Tryz.f24
  try unfold bu
  simp only[go_sem,Nat.reduceBEq,Nat.reduceLeDiff,Nat.reduceLT,decide_true,Nat.reduceAdd,Nat.reduceSub,Nat.reduceMul,Int.reduceLE,Int.reduceLT,Int.reduceToNat,Int.reduceNeg,reduceCtorEq]
  all_goals exact cl
end Go.Sx
end
section
namespace Go.Sx
open Go.Proofs
def oy (a:Order):Int:=bif a.outlet then 1 else 0
def olt (a b:Order):Prop:=a.hour<b.hour∨a.hour=b.hour∧(oy a<oy b∨oy a=oy b∧a.index<b.index)
theorem fJ (x y:Int):aP x y=if x<y then -1 else if x > y then 1 else 0:=by
 unfold aP gY
 simp[Bool.cond_eq_ite]
theorem DW {a b:Order}(h:aG a b<0):olt a b:=by
 unfold aG at h
 unfold olt
 have k0:∀ x,n_ 0 x=x.hour:=fun _=>rfl
 have k1:∀ x,n_ 1 x=oy x:=fun _=>rfl
 have k2:∀ x,n_ 2 x=x.index:=fun _=>rfl
 simp only[ap,sM,Nat.zero_add,Nat.reduceAdd,k0,k1,k2,fJ]at h
 generalize oy a=p at h ⊢
 generalize oy b=q at h ⊢
 rcases Int.lt_trichotomy a.hour b.hour with e|e|e
 ·exact .inl e
 ·refine .inr ⟨e,?_⟩
  rcases Int.lt_trichotomy p q with e1|e1|e1
  ·exact .inl e1
  ·refine .inr ⟨e1,?_⟩
   rcases Int.lt_trichotomy a.index b.index with e2|e2|e2
   ·exact e2
   ·simp[e,e1,e2]at h
   ·have h1:¬a.index<b.index:=by omega
    simp[e,e1,e2,h1]at h
  ·have h1:¬p<q:=by omega
   simp[e,e1,h1]at h
 ·have h1:¬a.hour<b.hour:=by omega
  simp[e,h1]at h
theorem Bj {a b c:Order}(h1:olt a b)(h2:olt b c):olt a c:=by
 unfold olt at *;omega
theorem Bk (a b:Order):aG a b<0↔olt a b:=by
 refine⟨DW,fun h=>?_⟩
 unfold aG
 have k0:∀ x,n_ 0 x=x.hour:=fun _=>rfl
 have k1:∀ x,n_ 1 x=oy x:=fun _=>rfl
 have k2:∀ x,n_ 2 x=x.index:=fun _=>rfl
 simp only[ap,sM,Nat.zero_add,Nat.reduceAdd,k0,k1,k2,fJ]
 unfold olt at h
 generalize oy a=p at h ⊢
 generalize oy b=q at h ⊢
 rcases h with h| ⟨e,h| ⟨e2,h⟩⟩
 ·simp[h]
 ·simp[e,h]
 ·simp[e,e2,h]
open Go.Shelf Go.Sort in
theorem p_:SWO (ltOf aG):=by
 have e:∀ x y,ltOf aG x y=true↔olt x y:=fun x y=>by unfold ltOf;rw[decide_eq_true_eq,Bk]
 have e':∀ x y,ltOf aG x y=false↔¬olt x y:=fun x y=>by rw[←e];simp
 refine⟨fun x=>(e' x x).2 (by unfold olt;omega),fun x y z h1 h2=>(e x z).2 (Bj ((e x y).1 h1) ((e y z).1 h2)),fun x y z h1 h2=>(e' x z).2 ?_⟩
 have h1:=(e' x y).1 h1
 have h2:=(e' y z).1 h2
 unfold olt at *
 omega
end Go.Sx
end
section
namespace Go.Sx
open Go.Proofs
theorem iI {n i:Nat}{step:Nat→Unit→Unit⊕Unit}{s:Unit}(h:ap step n i s=.inr s):∀ j,i≤j→j<i+n→step j ()=.inr ():=by
 induction n generalizing i with
 |zero=>intro j h1 h2;omega
 |succ n ih=>
  simp only[ap]at h
  cases hs:step i s with
  |inl r=>rw[hs]at h;cases h
  |inr s'=>
   rw[hs]at h
   intro j h1 h2
   by_cases e:j=i
   ·subst e;cases s;exact hs
   ·exact ih h j (by omega) (by omega)
theorem fK {b:Bool}{e:Int}:ce b e=b:=by
 cases b <;>rfl
theorem u9 {a b c:Int}(h:aH [a,b,c]=true):a≤b∧b≤c:=by
 unfold aH at h
 simp only[List.length_cons,List.length_nil,Nat.zero_add,Nat.reduceAdd,Nat.reduceSub]at h
 split at h
 ·cases h
 ·rename_i s hs
  have h0:=iI hs 0 (by omega) (by omega)
  have h1:=iI hs 1 (by omega) (by omega)
  simp[bI,IntKind.wrap,IntKind.bits,IntKind.signed]at h0 h1
  constructor
  ·cases hd:decide (b<a) <;>simp_all <;>omega
  ·cases hd:decide (c<b) <;>simp_all <;>omega
theorem oK {a b c d:Int}(h:aH [a,b,c,d]=true):a≤b∧b≤c∧c≤d:=by
 unfold aH at h
 simp only[List.length_cons,List.length_nil,Nat.zero_add,Nat.reduceAdd,Nat.reduceSub]at h
 split at h
 ·cases h
 ·rename_i s hs
  have h0:=iI hs 0 (by omega) (by omega)
  have h1:=iI hs 1 (by omega) (by omega)
  have h2:=iI hs 2 (by omega) (by omega)
  simp[bI,IntKind.wrap,IntKind.bits,IntKind.signed]at h0 h1 h2
  refine⟨?_,?_,?_⟩
  ·cases hd:decide (b<a) <;>simp_all <;>omega
  ·cases hd:decide (c<b) <;>simp_all <;>omega
  ·cases hd:decide (d<c) <;>simp_all <;>omega
structure Right1 (d:District):Prop where
 reaches:d.reaches.length≤64
 one:0<d.reaches.length
 farms:d.farms.length≤600
 rights:d.rights.length≤256
 hours1:1≤d.hours
 hours:d.hours≤4096
 start0:0≤d.tank.start
 start:d.tank.start≤d.tank.cap
 cap:d.tank.cap≤1099511627776
 reach:∀ k,k<d.reaches.length→aU (k:Int) (d.reaches.getD k default)=true
 farm:∀ k,k<d.farms.length→0≤(d.farms.getD k default).reach∧(d.farms.getD k default).reach< (d.reaches.length:Int)
theorem rL {d:District}(h:(bt d !=0)=false):Right1 d:=by
 have h:bt d=0:=by simpa using h
 unfold bt at h
 simp only[fK]at h
 cases h1:(decide ((d.reaches.length:Int)≤64)&&decide ((d.farms.length:Int)≤600)&&decide ((d.crops.length:Int)≤32)&&decide ((d.rights.length:Int)≤256)&&decide ((d.duties.length:Int)≤256))with
 |false=>rw[h1]at h;simp at h
 |true=>
  rw[h1]at h
  simp only[cond_true]at h
  cases h2:db d 191 with
  |false=>rw[h2]at h;simp at h
  |true=>
   unfold db at h2
   simp only[fK]at h2
   cases h3:(aH [1,d.hours,4096]&&aH [0,d.tank.start,d.tank.cap,1099511627776]&&decide ((d.reaches.length:Int) > 0))with
   |false=>rw[h3]at h2;simp at h2
   |true=>
    rw[h3]at h2
    simp only[cond_true]at h2
    simp only[Bool.and_eq_true,decide_eq_true_eq]at h1 h3
    obtain⟨r1,r2⟩:=u9 h3.1.1
    obtain⟨r3,r4,r5⟩:=oK h3.1.2
    split at h2
    ·cases h2
    rename_i s0 hs0
    split at h2
    ·cases h2
    rename_i s1 hs1
    split at h2
    ·cases h2
    rename_i s2 hs2
    refine⟨by omega,by omega,by omega,by omega,r1,r2,r3,r4,r5,fun k hk=>?_,fun k hk=>?_⟩
    ·have:=iI hs0 k (by omega) (by omega)
     simp only[cC,fK]at this
     cases he:aU (k:Int) (d.reaches.getD k default)with
     |false=>rw[he]at this;simp at this
     |true=>rfl
    ·have:=iI hs2 k (by omega) (by omega)
     simp only[cD,fK]at this
     have hx:bZ (d.farms.getD k default).reach (d.reaches.length:Int)=true:=by
      cases he:bZ (d.farms.getD k default).reach (d.reaches.length:Int)with
      |false=>rw[he]at this;cases hd:decide ((d.farms.getD k default).area > 0) <;>rw[hd]at this <;>simp at this
      |true=>rfl
     simpa[bZ]using hx
structure Order1 (d:District)(x:Order):Prop where
 hour0:0≤x.hour
 hour:x.hour<d.hours
 index0:0≤x.index
 farm:x.outlet=true→x.index< (d.farms.length:Int)
 reach:x.outlet=false→x.index< (d.reaches.length:Int)
 litres1:1≤x.litres
 litres:x.litres≤1073741824
theorem li {k:Nat}(h:k<9223372036854775807)(h1:0<k):IntKind.i64.wrap ((k:Int) - 1)=((k - 1:Nat):Int):=by
 rw[bv (by omega) (by omega)];omega
theorem Ge (d:District)(l:List Order):jv d l:=fun _ h1 _ _=>jt _ _ _ fun j s h2 h3=>by
 unfold a7 at h1
 unfold gC
 have e:decide ((j:Int) > 0)=true→(0≤IntKind.i64.wrap ((j:Int) - 1)∧IntKind.i64.wrap ((j:Int) - 1) < (l.length:Int)):=fun h=>by
  simp only[decide_eq_true_eq]at h
  rw[li (by omega) (by omega)];omega
 exact fun _=>⟨fun _ _ _=>e,fun _ _=>e⟩
structure Orders1 (d:District)(l:List Order):Prop where
 right:Right1 d
 len:l.length≤4096
 one:∀ k,k<l.length→Order1 d (l.getD k default)
 asc:∀ k,k+1<l.length→aG (l.getD k default) (l.getD (k+1) default) <0
theorem zl {d:District}{l:List Order}(h:(bA d l !=0)=false):Orders1 d l:=by
 have h:bA d l=0:=by simpa using h
 unfold bA at h
 cases h1:bt d !=0 with
 |true=>rw[h1]at h;simp at h h1;exact absurd h h1
 |false=>
  rw[h1]at h
  simp only[cond_false]at h
  cases h2:decide ((l.length:Int) > 4096)with
  |true=>rw[h2]at h;simp at h
  |false=>
   rw[h2]at h
   simp only[cond_false]at h
   have hl:l.length≤4096:=by simp only[decide_eq_false_iff_not]at h2;omega
   split at h
   ·cases h
   rename_i s hs
   have key:∀ k,k<l.length→Order1 d (l.getD k default)∧(0<k→aG (l.getD (k - 1) default) (l.getD k default) <0):=by
    intro k hk
    have:=iI hs k (by omega) (by omega)
    have hp:((k:Int) > 0)→(IntKind.i64.wrap ((k:Int) - 1)).toNat=k - 1:=fun h=>by
     rw[li (by omega) (by omega)];omega
    unfold cr at this
    generalize hx:l.getD k default=x at this ⊢
    cases ho:x.outlet with
    |true=>
     rw[ho]at this
     simp only[cond_true]at this
     rw[Bool.cond_eq_ite]at this
     split at this
     ·cases this
     ·rename_i hc
      simp only[Bool.not_eq_true,Bool.or_eq_false_iff,Bool.and_eq_false_iff,decide_eq_false_iff_not]at hc
      refine⟨⟨by omega,by omega,by omega,fun _=>by omega,fun h=>by(rw[ho]at h;cases h),by omega,by omega⟩,fun hk0=>?_⟩
      rcases hc.2 with h|h
      ·omega
      ·rw[hp (by omega)]at h;omega
    |false=>
     rw[ho]at this
     simp only[cond_false]at this
     rw[Bool.cond_eq_ite]at this
     split at this
     ·cases this
     ·rename_i hc
      simp only[Bool.not_eq_true,Bool.or_eq_false_iff,Bool.and_eq_false_iff,decide_eq_false_iff_not]at hc
      refine⟨⟨by omega,by omega,by omega,fun h=>by(rw[ho]at h;cases h),fun _=>by omega,by omega,by omega⟩,fun hk0=>?_⟩
      rcases hc.2 with h|h
      ·omega
      ·rw[hp (by omega)]at h;omega
   exact⟨rL h1,hl,fun k hk=>(key k hk).1,fun k hk=>(key (k+1) hk).2 (by omega)⟩
structure Reach1 (i:Int)(x:Reach):Prop where
 up:x.up<i
 delay1:1≤x.delay
 delay:x.delay≤16
 siphon0:0≤x.siphon
 siphon:x.siphon≤x.cap
 cap:x.cap≤1073741824
 bank:x.siphon≤x.bank
 bank1:x.bank≤1099511627776
theorem Bl {i:Int}{x:Reach}(hi:0≤i)(h:aU i x=true):Reach1 i x:=by
 unfold aU at h
 cases hd:decide (i > 0)with
 |true=>
  rw[hd]at h
  simp only[cond_true,Bool.and_eq_true,bZ,decide_eq_true_eq]at h hd
  obtain⟨⟨⟨⟨⟨h0,h1⟩,h2⟩,h3⟩,h4⟩,h5⟩:=h
  have:=u9 h1
  have:=oK h2
  have:=oK h3
  constructor <;>omega
 |false=>
  rw[hd]at h
  simp only[cond_false,Bool.and_eq_true,beq_iff_eq,decide_eq_false_iff_not]at h hd
  obtain⟨⟨⟨⟨⟨h0,h1⟩,h2⟩,h3⟩,h4⟩,h5⟩:=h
  have:=u9 h1
  have:=oK h2
  have:=oK h3
  constructor <;>omega
theorem Right1.reach1 {d:District}(h:Right1 d){k:Nat}(hk:k<d.reaches.length):Reach1 k (d.reaches.getD k default):=Bl (by omega) (h.reach k hk)
theorem Right1.reachI {d:District}(h:Right1 d){i:Int}(h0:0≤i)(hi:i< (d.reaches.length:Int)):Reach1 i (d.reaches.getD i.toNat default):=by
 have:=h.reach1 (k:=i.toNat) (by omega)
 rwa[Int.toNat_of_nonneg h0]at this
theorem sN {step:Nat→Unit→Unit⊕Unit}:∀ {n i:Nat},(∀ j,i≤j→j<i+n→step j ()=.inr ())→ap step n i ()=.inr ()
 |0,_,_=>rfl
 |n+1,i,h=>by
  simp only[ap]
  rw[h i (by omega) (by omega)]
  exact sN fun j h1 h2=>h j (by omega) (by omega)
theorem er {step:Nat→Unit→Unit⊕Unit}{n:Nat}:ap step n 0 ()=.inr ()↔∀ j,j<n→step j ()=.inr ():=
 ⟨fun h j hj=>iI h j (by omega) (by omega),fun h=>sN fun j _ h2=>h j (by omega)⟩
theorem zm {ρ:Type}{n i:Nat}{step:Nat→Unit→ρ⊕Unit}{s:Unit}(h:ap step n i s=.inr s):∀ j,i≤j→j<i+n→step j ()=.inr ():=by
 induction n generalizing i with
 |zero=>intro j h1 h2;omega
 |succ n ih=>
  simp only[ap]at h
  cases hs:step i s with
  |inl r=>rw[hs]at h;cases h
  |inr s'=>
   rw[hs]at h
   intro j h1 h2
   by_cases e:j=i
   ·subst e;cases s;exact hs
   ·exact ih h j (by omega) (by omega)
theorem oT (d:District)(l:List Order):bA d l=0↔bt d=0∧l.length≤4096∧∀ k,k<l.length→cr d l k ()=.inr ():=by
 unfold bA
 cases h1:(bt d !=0)with
 |true=>simp at h1;simp[h1]
 |false=>
  simp at h1
  simp only[cond_false,h1,true_and]
  cases h2:decide ((l.length:Int) > 4096)with
  |true=>simp at h2;simp;omega
  |false=>
   simp at h2
   rw[←er]
   cases h3:ap (cr d l) l.length 0 ()with
   |inl y=>simp
   |inr y=>simp;omega
theorem cm {α:Type}(l:List α)(d:α){n:Nat}(h:n<l.length):l.getD n d=l[n]:=by
 rw[List.getD_eq_getElem?_getD,List.getElem?_eq_getElem h];rfl
theorem Bm {κ υ:Type}[DecidableEq κ](l:List (κ×υ))(x z:κ)(y:υ):iQ (qK l x y) z=if z=x then some y else iQ l z:=by
 induction l with
 |nil=>simp[qK,iQ]
 |cons a r ih=>
  obtain⟨a,b⟩:=a
  unfold qK
  by_cases h:x=a
  ·subst h
   simp only[if_pos]
   unfold iQ
   by_cases hz:z=x <;>simp[hz]
  ·rw[if_neg h]
   unfold iQ
   by_cases hz:z=a
   ·subst hz
    rw[if_pos rfl,if_neg (fun e=>h e.symm),if_pos rfl]
   ·rw[if_neg hz,ih,if_neg hz]
theorem ik {k:Tag}(l:List (k.T×Int))(x z:k.T)(y:Int):aK k .int (c7 k .int l x y) z=if z=x then y else aK k .int l z:=by
 unfold aK c7
 rw[Bm]
 by_cases h:z=x <;>simp[h]
theorem Orders1.lt {d:District}{l:List Order}(h:Orders1 d l):∀ (k j:Nat),j<k→k<l.length→olt (l.getD j default) (l.getD k default)
 |k+1,j,h1,h2=>by
  have h3:=DW (h.asc k (by omega))
  by_cases e:j=k
  ·subst e;exact h3
  ·exact Bj (h.lt k j (by omega) (by omega)) h3
def cp (p:Order→Bool):List Order→Int
 | [] =>0
 |x::r=>(bif p x then x.litres else 0)+cp p r
theorem u_ (p:Order→Bool)(a b:List Order):cp p (a++b)=cp p a+cp p b:=by
 induction a with
 |nil=>simp[cp]
 |cons x r ih=>simp only[List.cons_append,cp,ih];omega
theorem oc {p:Order→Bool}{l:List Order}(h:∀ x∈l,1≤x.litres∧x.litres≤1073741824):0≤cp p l∧cp p l≤l.length*1073741824:=by
 induction l with
 |nil=>simp[cp]
 |cons x r ih=>
  have h1:=ih fun a ha=>h a (List.mem_cons_of_mem _ ha)
  have h2:=h x List.mem_cons_self
  simp only[cp,List.length_cons]
  cases p x <;>simp only[cond_true,cond_false] <;>omega
theorem iJ {p:Order→Bool}{l:List Order}(h:∀ x∈l,p x=false):cp p l=0:=by
 induction l with
 |nil=>rfl
 |cons x r ih=>
  simp only[cp]
  rw[h x List.mem_cons_self,ih fun y hy=>h y (List.mem_cons_of_mem _ hy)]
  rfl
theorem t_ {p q:Order→Bool}{l:List Order}(h:∀ x∈l,p x=q x):cp p l=cp q l:=by
 induction l with
 |nil=>rfl
 |cons x r ih=>
  simp only[cp]
  rw[h x List.mem_cons_self,ih fun y hy=>h y (List.mem_cons_of_mem _ hy)]
theorem DX {p q r:Order→Bool}{l:List Order}(h:∀ x∈l,(r x=(p x||q x))∧(p x&&q x)=false):cp p l+cp q l=cp r l:=by
 induction l with
 |nil=>rfl
 |cons x t ih=>
  simp only[cp]
  have h1:=h x List.mem_cons_self
  have h2:=ih fun y hy=>h y (List.mem_cons_of_mem _ hy)
  rw[h1.1]
  cases hp:p x <;>cases hq:q x <;>simp only[hp,hq,Bool.or_true,Bool.or_false,Bool.and_self,cond_true,cond_false]at h1 ⊢
  all_goals (first|omega|(simp at h1))
theorem Kq {p:Order→Bool}{l:List Order}{j:Nat}(hj:j<l.length)(h:p l[j]=true)(hn:∀ i (hi:i<l.length),i≠j→p l[i]=false):cp p l=l[j].litres:=by
 have e:l=l.take j++l[j]::l.drop (j+1):=by rw[←List.drop_eq_getElem_cons hj,List.take_append_drop]
 conv=>lhs;rw[e,u_]
 rw[iJ fun x hx=>?_]
 ·simp only[cp,h,cond_true]
  rw[iJ fun x hx=>?_]
  ·omega
  ·obtain⟨i,hi,rfl⟩:=List.getElem_of_mem hx
   rw[List.length_drop]at hi
   rw[List.getElem_drop]
   exact hn _ _ (by omega)
 ·obtain⟨i,hi,rfl⟩:=List.getElem_of_mem hx
  rw[List.length_take]at hi
  rw[List.getElem_take]
  exact hn _ _ (by omega)
theorem Orders1.lit {d:District}{l:List Order}(h:Orders1 d l):∀ x∈l,1≤x.litres∧x.litres≤1073741824:=fun x hx=>by
 obtain⟨k,hk,rfl⟩:=List.getElem_of_mem hx
 have:=h.one k hk
 rw[cm _ _ hk]at this
 exact⟨this.litres1,this.litres⟩
theorem Orders1.uniq {d:District}{l:List Order}(h:Orders1 d l){i j:Nat}(hi:i<l.length)(hj:j<l.length)(e1:l[i].hour=l[j].hour)(e2:l[i].index=l[j].index)(e3:l[i].outlet=l[j].outlet):i=j:=by
 have key:∀ a b (ha:a<l.length) (hb:b<l.length),a<b→l[a].hour=l[b].hour→l[a].index=l[b].index→l[a].outlet=l[b].outlet→False:=fun a b ha hb hab e1 e2 e3=>by
  have:=h.lt b a hab hb
  rw[cm _ _ ha,cm _ _ hb]at this
  unfold olt oy at this
  rw[e1,e2,e3]at this
  omega
 rcases Nat.lt_trichotomy i j with h1|h1|h1
 ·exact(key i j hi hj h1 e1 e2 e3).elim
 ·exact h1
 ·exact(key j i hj hi h1 e1.symm e2.symm e3.symm).elim
theorem lj {p:Order→Bool}{l:List Order}{j:Nat}(hj:j<l.length):cp p (l.take (j+1))=cp p (l.take j)+(bif p l[j]then l[j].litres else 0):=by
 rw[List.take_succ_eq_append_getElem hj,u_]
 simp[cp]
theorem wu {κ υ:Type}[DecidableEq κ]:∀ (l:List (κ×υ)) (x:κ) (y:υ),(qK l x y).map Prod.fst=if x∈l.map Prod.fst then l.map Prod.fst else l.map Prod.fst++[x]
 | [],x,y=>by simp[qK]
 |(a,b)::r,x,y=>by
  unfold qK
  by_cases h:x=a
  ·subst h;simp
  ·rw[if_neg h,List.map_cons,wu r x y]
   simp only[List.map_cons,List.mem_cons,h,false_or]
   split <;>simp
theorem DY {κ υ:Type}[DecidableEq κ]:∀ (l:List (κ×υ)) (e:κ×υ),(l.map Prod.fst).Nodup→e∈l→iQ l e.1=some e.2
 |(a,b)::r,e,hn,he=>by
  simp only[List.map_cons,List.nodup_cons]at hn
  unfold iQ
  rcases List.mem_cons.1 he with rfl|he
  ·simp
  ·have:e.1≠a:=fun h=>hn.1 (h▸List.mem_map_of_mem he)
   rw[if_neg this]
   exact DY r e hn.2 he
theorem nG {α:Type}(l:List α)(d:α){k:Nat}(h:k<l.length):l.getD k d∈l:=by
 rw[cm l d h];exact List.getElem_mem _
theorem Cr {n d:Int}(hd:1≤d)(hd2:d≤1073741824)(h1: -1152921504606846976≤n)(h2:n≤1152921504606846976):lh n d=n / d:=by
 unfold lh
 have e1:Int.tmod (Int.tmod n d+d) d=n % d:=by
  have a1: -d<Int.tmod n d:=Int.lt_tmod_of_pos n (by omega)
  rw[Int.tmod_eq_emod_of_nonneg (by omega),Int.add_emod_right]
  rw[Int.tmod_eq_emod]
  split
  ·show(n % d - 0) % d=n % d
   rw[Int.sub_zero,Int.emod_emod]
  ·have:n % d - (d.natAbs:Int)=n % d+d*(-1):=by omega
   rw[this,Int.add_mul_emod_self_left,Int.emod_emod]
 have a1: -d<Int.tmod n d:=Int.lt_tmod_of_pos n (by omega)
 have a2:Int.tmod n d<d:=Int.tmod_lt_of_pos n (by omega)
 rw[bv (by omega: -9223372036854775808≤Int.tmod n d+d) (by omega),e1]
 have b1:=Int.emod_nonneg n (by omega:d≠0)
 have b2:=Int.emod_lt_of_pos n (by omega:0<d)
 rw[bv (by omega: -9223372036854775808≤n - n % d) (by omega)]
 have e2:n - n % d=d*(n / d):=by have:=Int.mul_ediv_add_emod n d;omega
 rw[e2,Int.mul_tdiv_cancel_left _ (by omega)]
 have c1:n / d≤1152921504606846976:=by
  have:=Int.ediv_le_ediv (by omega:0<d) h2
  have:=Int.ediv_le_self (b:=d) (by omega:(0:Int)≤1152921504606846976)
  omega
 have c2: -1152921504606846976≤n / d:=by
  rw[Int.le_ediv_iff_mul_le (by omega)]
  have:=Int.mul_le_mul_of_nonneg_left (by omega:1≤d) (by omega:(0:Int)≤1152921504606846976)
  omega
 exact bv (by omega) (by omega)
structure Rat (a:Ratio):Prop where
 d1:1≤a.d
 d:a.d≤1073741824
 n0: -1073741824≤a.n
 n:a.n≤1073741824
theorem Kr {a:Ratio}(h:aY a=0):Rat a:=by
 unfold aY at h
 rw[Bool.cond_eq_ite]at h
 split at h
 ·cases h
 ·rename_i h1
  simp only[Bool.or_eq_true,decide_eq_true_eq,not_or]at h1
  constructor <;>omega
theorem qa {i:Int}{x:Reach}(h:aU i x=true):eZ x.seep=true∧0≤x.evap.lo∧x.evap.lo≤x.evap.hi∧x.evap.hi≤1073741824:=by
 unfold aU at h
 cases hd:decide (i > 0) <;>rw[hd]at h <;>simp only[cond_true,cond_false,Bool.and_eq_true]at h
 all_goals
  have r1:=oK h.1.2
  exact⟨h.2,r1.1,r1.2.1,r1.2.2⟩
theorem QJ {a b:Int}(h0: -1073741824≤a)(h1:a≤1073741824)(h2:0≤b)(h3:b≤1073741824): -1152921504606846976≤a*b∧a*b≤1152921504606846976:=by
 have h4:=Int.mul_le_mul_of_nonneg_right h0 h2
 have h5:=Int.mul_le_mul_of_nonneg_right h1 h2
 have h6: -1073741824*b= -(1073741824*b):=by omega
 omega
structure Seep (x:Ratio×Ratio):Prop where
 r1:Rat x.1
 r2:Rat x.2
 c1:aY x.1=0
 c2:aY x.2=0
 cmp:eP x.1 x.2=((eP x.1 x.2).1,0)∧(eP x.1 x.2).1≤0
 le:x.1.n*x.2.d≤x.2.n*x.1.d
 n1:0≤x.1.n
 n2:x.2.n≤x.2.d
 m1:x.1.n≤x.1.d
 m2:0≤x.2.n
theorem xZ {x:Ratio×Ratio}(h:eZ x=true):Seep x:=by
 unfold eZ at h
 simp only[Bool.and_eq_true,beq_iff_eq,decide_eq_true_eq]at h
 obtain⟨⟨⟨h1,h2⟩,h3⟩,h4⟩:=h
 have hc:aY x.1=0∧aY x.2=0:=by
  unfold eP at h1
  rw[Bool.cond_eq_ite]at h1
  split at h1
  ·cases h1
  ·rename_i hq
   simp only[Bool.or_eq_true,bne_iff_ne,ne_eq,not_or,Decidable.not_not]at hq
   exact hq
 have r1:=Kr hc.1
 have r2:=Kr hc.2
 have b1:=QJ r1.n0 r1.n (by have:=r2.d1;omega) r2.d
 have b2:=QJ r2.n0 r2.n (by have:=r1.d1;omega) r1.d
 have hle:x.1.n*x.2.d≤x.2.n*x.1.d:=by
  unfold eP at h3
  rw[hc.1,hc.2]at h3
  simp only[bne_self_eq_false,Bool.or_self,cond_false]at h3
  rw[bv (by omega) (by omega),bv (by omega) (by omega),fJ]at h3
  split at h3
  ·omega
  ·split at h3
   ·omega
   ·omega
 have e1:=r1.d1
 have e2:=r2.d1
 have m1:x.1.n≤x.1.d:=by
  have:=Int.mul_le_mul_of_nonneg_right h4 (by omega:0≤x.1.d)
  have hh:x.1.n*x.2.d≤x.1.d*x.2.d:=by rw[Int.mul_comm x.1.d];omega
  exact Int.le_of_mul_le_mul_right hh (by omega)
 have m2:0≤x.2.n:=by
  have:=Int.mul_nonneg h2 (by omega:0≤x.2.d)
  have hh:0*x.1.d≤x.2.n*x.1.d:=by rw[Int.zero_mul];omega
  exact Int.le_of_mul_le_mul_right hh (by omega)
 exact⟨r1,r2,hc.1,hc.2,⟨by rw[←h1],h3⟩,hle,h2,h4,m1,m2⟩
theorem Bn {x:Ratio×Ratio}(h:Seep x):fQ x=true:=by
 unfold fQ iE lg
 have:=h.n1;have:=h.n2;have:=h.m1;have:=h.m2
 rw[h.c1,h.c2,decide_eq_true (by omega:x.1.n≥0),decide_eq_true (by omega:x.1.n≤x.1.d),decide_eq_true (by omega:x.2.n≥0),decide_eq_true (by omega:x.2.n≤x.2.d)]
 have h2:=congrArg Prod.snd h.cmp.1
 dsimp only at h2
 rw[h2,decide_eq_true h.cmp.2]
 rfl
theorem zn {a:Ratio}(h:Rat a)(hc:aY a=0)(h0:0≤a.n){v:Int}(v0:0≤v)(v1:v≤1073741824):(dM a v).1=a.n*v / a.d∧(dM a v).2.1= -(-(a.n*v) / a.d)∧ -(-(a.n*v) / a.d)≤1152921504606846976∧0≤ -(-(a.n*v) / a.d):=by
 have:=h.d1;have:=h.d;have:=h.n
 have hm:=QJ (by omega) h.n v0 v1
 have hm0:=Int.mul_nonneg h0 v0
 unfold dM
 have e1:(decide (v< (-1073741824)) ||decide (v > 1073741824))=false:=by simp only[Bool.or_eq_false_iff,decide_eq_false_iff_not];omega
 rw[hc,e1]
 simp only[bne_self_eq_false,cond_false]
 rw[bv (by omega: -9223372036854775808≤0 - a.n) (by omega)]
 have e2:(0 - a.n)*v= -(a.n*v):=by rw[Int.sub_mul];omega
 rw[e2,bv (by omega: -9223372036854775808≤ -(a.n*v)) (by omega),bv (by omega: -9223372036854775808≤a.n*v) (by omega)]
 rw[Cr h.d1 h.d (by omega) (by omega),Cr h.d1 h.d (by omega) (by omega)]
 have c1: -1152921504606846976≤ -(a.n*v) / a.d:=by
  rw[Int.le_ediv_iff_mul_le (by omega)]
  have:=Int.mul_le_mul_of_nonneg_left (by omega:1≤a.d) (by omega:(0:Int)≤1152921504606846976)
  omega
 have c2: -(a.n*v) / a.d≤0:=by
  have:=Int.ediv_le_ediv (by omega:0<a.d) (by omega: -(a.n*v)≤0)
  simpa using this
 rw[bv (by omega) (by omega)]
 exact⟨rfl,by omega,by omega,by omega⟩
theorem va {i:Int}{x:Reach}(h:aU i x=true){v:Int}(v0:0≤v)(v1:v≤1073741824):dX x v=0∧0≤(dN x v).lo∧(dN x v).lo≤(dN x v).hi∧(dN x v).hi≤v:=by
 obtain⟨h1,h2,h3,h4⟩:=qa h
 have hs:=xZ h1
 refine⟨?_,?_⟩
 ·unfold dX ko lg
  rw[Bn hs,decide_eq_true (by omega:x.evap.lo≥0),decide_eq_true h3,decide_eq_true h4,decide_eq_true (by omega:v≥0),decide_eq_true v1]
  rfl
 ·unfold dN
  cases hv:(v==0)with
  |true=>
   simp only[beq_iff_eq]at hv
   simp only[cond_true];omega
  |false=>
   simp only[beq_eq_false_iff_ne,ne_eq]at hv
   simp only[cond_false]
   obtain⟨a1,_,_,_⟩:=zn hs.r1 hs.c1 hs.n1 v0 v1
   obtain⟨_,b1,b2,b3⟩:=zn hs.r2 hs.c2 hs.m2 v0 v1
   rw[a1,b1]
   have d1:=hs.r1.d1
   have d2:=hs.r2.d1
   have P0:0≤x.seep.1.n*v / x.seep.1.d:=Int.ediv_nonneg (Int.mul_nonneg hs.n1 v0) (by omega)
   have P1:x.seep.1.n*v / x.seep.1.d*x.seep.1.d≤x.seep.1.n*v:=Int.ediv_mul_le _ (by omega)
   have Q1: -(x.seep.2.n*v) / x.seep.2.d*x.seep.2.d≤ -(x.seep.2.n*v):=Int.ediv_mul_le _ (by omega)
   generalize x.seep.1.n*v / x.seep.1.d=P at P0 P1
   generalize -(x.seep.2.n*v) / x.seep.2.d=Q at b2 b3 Q1
   have PV:P≤v:=by
    have:=Int.mul_le_mul_of_nonneg_right hs.m1 v0
    have hh:P*x.seep.1.d≤v*x.seep.1.d:=by rw[Int.mul_comm v];omega
    exact Int.le_of_mul_le_mul_right hh (by omega)
   have PQ:P≤ -Q:=by
    have e1:=Int.mul_le_mul_of_nonneg_right P1 (by omega:0≤x.seep.2.d)
    have e2:=Int.mul_le_mul_of_nonneg_right hs.le v0
    have e3:=Int.mul_le_mul_of_nonneg_right Q1 (by omega:0≤x.seep.1.d)
    have hh:P*(x.seep.1.d*x.seep.2.d)≤ -Q*(x.seep.1.d*x.seep.2.d):=by
     have i1:P*x.seep.1.d*x.seep.2.d=P*(x.seep.1.d*x.seep.2.d):=Int.mul_assoc _ _ _
     have i2:x.seep.1.n*v*x.seep.2.d=x.seep.1.n*x.seep.2.d*v:=by rw[Int.mul_assoc,Int.mul_comm v,←Int.mul_assoc]
     have i3:x.seep.2.n*x.seep.1.d*v=x.seep.2.n*v*x.seep.1.d:=by rw[Int.mul_assoc,Int.mul_comm x.seep.1.d,←Int.mul_assoc]
     have i4:Q*x.seep.2.d*x.seep.1.d=Q*(x.seep.1.d*x.seep.2.d):=by rw[Int.mul_assoc,Int.mul_comm x.seep.2.d]
     have i5: -(x.seep.2.n*v)*x.seep.1.d= -(x.seep.2.n*v*x.seep.1.d):=Int.neg_mul _ _
     have i6: -Q*(x.seep.1.d*x.seep.2.d)= -(Q*(x.seep.1.d*x.seep.2.d)):=Int.neg_mul _ _
     omega
    have hp:0<x.seep.1.d*x.seep.2.d:=Int.mul_pos (by omega) (by omega)
    exact Int.le_of_mul_le_mul_right hh hp
   rw[bv (by omega) (by omega),bv (by omega) (by omega)]
   split <;>split <;>omega
end Go.Sx
end
section
namespace Go.Sx
open Go.Proofs
def wst (x:Reach)(v:Int):Int:=v - (dN x v).hi
theorem Ks {i:Int}{x:Reach}(h:aU i x=true){v:Int}(v0:0≤v)(v1:v≤1073741824):wst x v=max 0 ((x.seep.2.d - x.seep.2.n)*v / x.seep.2.d - x.evap.hi):=by
 obtain⟨g1,g2,g3,g4⟩:=qa h
 have hs:=xZ g1
 have d1:=hs.r2.d1
 have hk:(x.seep.2.d - x.seep.2.n)*v / x.seep.2.d=v+ -(x.seep.2.n*v) / x.seep.2.d:=by
  rw[Int.sub_mul,Int.sub_eq_add_neg,Int.add_comm,Int.add_mul_ediv_left _ _ (by omega)];omega
 rw[hk]
 unfold wst dN
 cases hv:(v==0)with
 |true=>
  simp only[beq_iff_eq]at hv
  subst hv
  simp only[cond_true,Int.mul_zero,Int.neg_zero,Int.zero_ediv]
  show(0:Int) - 0=_
  omega
 |false=>
  simp only[cond_false]
  obtain⟨_,b1,b2,b3⟩:=zn hs.r2 hs.c2 hs.m2 v0 v1
  rw[b1]
  generalize -(x.seep.2.n*v) / x.seep.2.d=Q at b2 b3 ⊢
  rw[bv (by omega) (by omega)]
  split <;>omega
theorem NI {k d a b:Int}(hk:0≤k)(hd:1≤d)(h:a≤b):k*a / d≤k*b / d:=Int.ediv_le_ediv (by omega) (Int.mul_le_mul_of_nonneg_left h hk)
section
variable {i:Int}{x:Reach}
theorem Kt (h:aU i x=true){v:Int}(v0:0≤v)(v1:v≤1073741824):0≤wst x v∧wst x v≤v:=by
 have:=va h v0 v1
 unfold wst;omega
theorem vb (h:aU i x=true){a b:Int}(a0:0≤a)(hab:a≤b)(b1:b≤1073741824):wst x a≤wst x b:=by
 have hs:=xZ (qa h).1
 have:=hs.r2.d1
 rw[Ks h a0 (by omega),Ks h (by omega) b1]
 have:=NI (k:=x.seep.2.d - x.seep.2.n) (d:=x.seep.2.d) (by have:=hs.n2;omega) hs.r2.d1 hab
 omega
end
theorem half {i j:Int}(h0:0≤i)(h1:i≤j)(h2:j≤2305843009213693952):IntKind.i64.wrap (E7 .u64 (IntKind.u64.wrap (IntKind.i64.wrap (i+j))) 1)=(i+j) / 2:=by
 have e0:IntKind.i64.wrap (i+j)=i+j:=bv (by omega) (by omega)
 have e:IntKind.u64.wrap (i+j)=i+j:=by
  unfold IntKind.wrap
  simp[IntKind.bits,IntKind.signed]
  omega
 have e2:E7 .u64 (i+j) 1=(i+j) / 2:=by
  show Int.fdiv (i+j) ((2:Int) ^ min (Int.toNat 1) IntKind.u64.bits)=_
  have:(2:Int) ^ min (Int.toNat 1) IntKind.u64.bits=2:=by decide
  rw[this,Int.fdiv_eq_ediv_of_nonneg _ (by omega)]
 rw[e0,e,e2,bv (by omega) (by omega)]
theorem zo {f:Int→Bool}{N:Int}{step:Nat→Int×Int→Int⊕(Int×Int)}(hN:N≤2305843009213693952)
  (hs:∀ k i j,0≤i→i<j→j≤N→step k (i,j)=if f ((i+j) / 2)=true then .inr (i,(i+j) / 2)else .inr ((i+j) / 2+1,j)) (he:∀ k i j,¬i<j→step k (i,j)=.inl i):
  ∀ (fuel k:Nat) (i j:Int),0≤i→i≤j→j≤N→j - i<2 ^ fuel→∃ v,ap step (fuel+1) k (i,j)=.inl v∧i≤v∧v≤j∧
   ((∀ a b,0≤a→a≤b→b<N→f a=true→f b=true)→(∀ u,i≤u→u<v→f u=false)∧(v<j→f v=true)):=by
 intro fuel
 induction fuel with
 |zero=>
  intro k i j h0 h1 h2 h3
  have:j=i:=by simp at h3;omega
  subst this
  exact⟨j,by simp only[ap,he k j j (by omega)],Int.le_refl _,Int.le_refl _,fun _=>⟨fun u h4 h5=>by omega,fun h=>by omega⟩⟩
 |succ fuel ih=>
  intro k i j h0 h1 h2 h3
  by_cases hlt:i<j
  ·have hp:(2:Int) ^ (fuel+1)=2 ^ fuel+2 ^ fuel:=by rw[Int.pow_succ];omega
   rw[show fuel+1+1=(fuel+1)+1 from rfl]
   simp only[ap,hs k i j h0 hlt h2]
   by_cases hf:f ((i+j) / 2)=true
   ·rw[if_pos hf]
    obtain⟨v,e1,e2,e3,e4⟩:=ih (k+1) i ((i+j) / 2) h0 (by omega) (by omega) (by omega)
    refine⟨v,e1,e2,by omega,fun hm=>⟨(e4 hm).1,fun _=>?_⟩⟩
    by_cases hv:v< (i+j) / 2
    ·exact(e4 hm).2 hv
    ·have:v=(i+j) / 2:=by omega
     rw[this];exact hf
   ·rw[if_neg hf]
    obtain⟨v,e1,e2,e3,e4⟩:=ih (k+1) ((i+j) / 2+1) j (by omega) (by omega) h2 (by omega)
    refine⟨v,e1,by omega,e3,fun hm=>⟨fun u h4 h5=>?_,(e4 hm).2⟩⟩
    by_cases hu:(i+j) / 2+1≤u
    ·exact(e4 hm).1 u hu h5
    ·cases hfu:f u with
     |false=>rfl
     |true=>exact absurd (hm u ((i+j) / 2) (by omega) (by omega) (by omega) hfu) hf
  ·have:j=i:=by omega
   subst this
   exact⟨j,by simp only[ap,he k j j (by omega)],Int.le_refl _,Int.le_refl _,fun _=>⟨fun u h4 h5=>by omega,fun h=>by omega⟩⟩
theorem Bo (w:Int)(x:Reach):∃ v,ap (ga x w) 64 0 (0,1073741825)=.inl v∧0≤v∧v≤1073741825∧
  ((∀ a b,0≤a→a≤b→b<1073741825→dh a x w=true→dh b x w=true)→(∀ u,0≤u→u<v→dh u x w=false)∧(v<1073741825→dh v x w=true)):=by
 refine zo (f:=fun v=>dh v x w) (N:=1073741825) (by omega) (fun k i j h0 h1 h2=>?_) (fun k i j h=>?_) 63 0 0 1073741825 (by omega) (by omega) (by omega) (by decide)
 ·unfold ga
  simp only
  rw[half h0 (by omega) (by omega),decide_eq_true h1,bv (by omega) (by omega)]
  cases dh ((i+j) / 2) x w <;>simp
 ·unfold ga
  simp only
  rw[decide_eq_false h];rfl
theorem Ku (w:Int)(x:Reach):lN 1073741825 x w:=fun z hz=>by
 obtain⟨v,h,_⟩:=Bo w x
 rw[h]at hz;cases hz
theorem Hr (x:Reach)(w:Int):je x w:=fun _=>Ku _ x
theorem Kv (x:Reach)(w:Int):iF x w:=fun _=>Hr x w
section
variable {i:Int}{x:Reach}
theorem DZ (h:aU i x=true){w:Int}(hw:1≤w)(hw2:w≤1073741824):0≤bP (w - 1) x∧bP (w - 1) x≤1073741825∧(∀ u,0≤u→u<bP (w - 1) x→wst x u<w)∧(bP (w - 1) x≤1073741824→w≤wst x (bP (w - 1) x)):=by
 obtain⟨v,e1,e2,e3,e4⟩:=Bo (w - 1) x
 have ev:bP (w - 1) x=v:=by unfold bP oJ;rw[e1]
 have hf:∀ u,0≤u→u≤1073741824→(dh u x (w - 1)=true↔w≤wst x u):=fun u u0 u1=>by
  have:=va h u0 u1
  unfold dh lM wst
  rw[bv (by omega) (by omega),decide_eq_true_eq];omega
 obtain⟨e5,e6⟩:=e4 fun a b a0 hab hb ha=>(hf b (by omega) (by omega)).2 (by
  have:=vb h a0 hab (by omega)
  have:=(hf a a0 (by omega)).1 ha;omega)
 rw[ev]
 refine⟨e2,e3,fun u u0 u1=>?_,fun hv=>(hf v e2 hv).1 (e6 (by omega))⟩
 have:=e5 u u0 u1
 by_cases hq:w≤wst x u
 ·rw[(hf u u0 (by omega)).2 hq]at this;cases this
 ·omega
theorem sO (h0:0≤i)(h:aU i x=true){w:Int}(hw:1≤w):(∃ v,am x w=(v,true)∧1≤v∧v≤1073741824∧x.siphon≤v∧w≤wst x v∧∀ u,0≤u→u≤1073741824→x.siphon≤u→w≤wst x u→v≤u)∨
  ((am x w).2=false∧∀ u,0≤u→u≤1073741824→wst x u<w):=by
 have hr:=Bl h0 h
 unfold am
 have hw0:(w==0)=false:=by rw[beq_eq_false_iff_ne];omega
 by_cases hw2:w≤1073741824
 ·have hc:(w==0||decide (w > 1073741824))=false:=by rw[hw0,decide_eq_false (by omega)];rfl
  rw[hc,hw0]
  simp only[cond_false]
  obtain⟨l1,l2,l3,l4⟩:=DZ h hw hw2
  unfold bw
  have hv:(dX x w !=0)=false:=by rw[(va h (by omega) hw2).1];rfl
  rw[hv,bv (by omega) (by omega)]
  simp only[cond_false]
  by_cases hl:bP (w - 1) x≤1073741824
  ·rw[decide_eq_false (by omega)]
   simp only[cond_false,Bool.not_true]
   have l5:=l4 hl
   have l6:=Kt h l1 hl
   refine .inl ⟨_,rfl,?_,?_,?_,?_,fun u u0 u1 u2 u3=>?_⟩
   ·split <;>omega
   ·have:=hr.siphon;have:=hr.cap;split <;>omega
   ·split <;>omega
   ·have:=hr.siphon;have:=hr.cap
    split
    ·exact Int.le_trans l5 (vb h l1 (by omega) (by omega))
    ·exact l5
   ·have:bP (w - 1) x≤u:=by
     rcases Int.lt_or_le u (bP (w - 1) x)with q|q
     ·have:=l3 u u0 q;omega
     ·exact q
    split <;>omega
  ·rw[decide_eq_true (by omega)]
   simp only[cond_true,Bool.not_false]
   exact .inr ⟨trivial,fun u u0 u1=>l3 u u0 (by omega)⟩
 ·have hc:(w==0||decide (w > 1073741824))=true:=by rw[decide_eq_true (by omega:w > 1073741824),Bool.or_true]
  rw[hc]
  refine .inr ⟨by simpa using hw0,fun u u0 u1=>?_⟩
  have:=Kt h u0 u1;omega
end
end Go.Sx
end
section
namespace Go.Sx
def QK {α:Type}:Result α→World
 | .ok _ w=>w
 | .halt _ w=>w
theorem Gf {α:Type}:∀ (a:Ask α) (w:World),w.drawn≤(w.ask a).2.drawn
 | .done a,w=>Nat.le_refl _
 | .ask what range k,w=>by
  unfold World.ask
  dsimp only
  split
  ·exact Gf _ w
  ·exact Nat.le_trans (Nat.le_succ _) (Gf _ { w with drawn:=w.drawn+1})
theorem QL (w:World)(c:Sys):w.drawn≤(w.sys c).2.drawn:=by
 unfold World.sys
 have:=Gf (Kernel.perform c w.os) w
 split
 ·exact Nat.le_refl _
 ·rename_i h
  rw[h]at this
  exact this
theorem D0 {p:Program}{w w':World}{a:Addr}{v:Value}{b:Bool}{l:List Addr}(h:w.farStore p a v b=.ok (w',l)):w'.drawn=w.drawn:=by
 unfold World.farStore at h
 split at h
 ·split at h
  ·rename_i r hr
   cases h
   unfold World.viewStore at hr
   simp only[bind,Except.bind,pure,Except.pure]at hr
   repeat' split at hr
   all_goals (first|(cases hr;done) |skip)
   all_goals (cases hr;rfl)
  ·cases h
 ·cases h
theorem Cs {α:Type}(p:Program):∀ (s:Sem α) (w:World),w.drawn≤(QK (s.run p w)).drawn:=by
 intro s
 induction s with
 |pure a=>intro w;exact Nat.le_refl _
 |load m a k ih=>
  intro w
  unfold Sem.run
  split
  ·exact ih _ w
  ·split
   ·exact ih _ w
   ·exact Nat.le_refl _
 |store m a v k ih=>
  intro w
  cases v
  case agg=>exact Nat.le_refl _
  case tuple=>exact Nat.le_refl _
  all_goals
   simp only[Sem.run]
   split
   ·split
    ·exact Nat.le_refl _
    ·exact ih (w.setCell a _)
   ·split
    ·rename_i h
     rw[←D0 h];exact ih _
    ·exact Nat.le_refl _
 |new o k ih=>intro w;exact ih w.heap.size { w with heap:=w.heap.push o}
 |shape r k ih=>intro w;exact ih _ _
 |freeze a n k ih=>
  intro w
  have:(w.freeze a n).drawn=w.drawn:=by unfold World.freeze;split <;>rfl
  rw[←this];exact ih _
 |frozen a k ih=>intro w;exact ih _ _
 |getObj r k ih=>
  intro w
  unfold Sem.run
  split
  ·exact Nat.le_refl _
  ·exact ih _ _
  ·exact Nat.le_refl _
 |setObj r o k ih=>
  intro w
  unfold Sem.run
  split
  ·exact Nat.le_refl _
  ·exact ih { w with heap:=w.heap.setIfInBounds r o}
  ·exact Nat.le_refl _
 |choose q k ih=>
  intro w
  unfold Sem.run
  split
  ·exact ih _ _
  ·exact Nat.le_trans (Nat.le_succ _) (ih _ { w with drawn:=w.drawn+1})
 |sys c k ih=>intro w;exact Nat.le_trans (QL w c) (ih _ _)
 |program k ih=>intro w;exact ih _ _
 |mark m k ih=>intro w;exact ih _
 |halt h=>intro w;exact Nat.le_refl _
theorem Kw {α:Type}(p:Program):∀ (s:Sem α) (w:World) (es:Array Event),(s.runT p w es).1=s.run p w:=by
 intro s
 induction s with
 |store m a v k ih=>
  intro w es
  cases v
  case agg=>rfl
  case tuple=>rfl
  all_goals
   simp only[Sem.runT,Sem.run]
   split
   ·split
    ·rfl
    ·exact ih _ _
   ·split
    ·exact ih _ _
    ·rfl
 |load m a k ih=>
  intro w es
  simp only[Sem.runT,Sem.run]
  split
  ·exact ih _ _ _
  ·split
   ·exact ih _ _ _
   ·rfl
 |getObj r k ih=>
  intro w es
  simp only[Sem.runT,Sem.run]
  split
  ·rfl
  ·exact ih _ _ _
  ·rfl
 |setObj r o k ih=>
  intro w es
  simp only[Sem.runT,Sem.run]
  split
  ·rfl
  ·exact ih _ _
  ·rfl
 |choose q k ih=>
  intro w es
  simp only[Sem.runT,Sem.run]
  split
  ·exact ih _ _ _
  ·exact ih _ _ _
 |pure a=>intro w es;rfl
 |new o k ih=>intro w es;exact ih _ _ _
 |shape r k ih=>intro w es;exact ih _ _ _
 |freeze a n k ih=>intro w es;exact ih _ _
 |frozen a k ih=>intro w es;exact ih _ _ _
 |sys c k ih=>intro w es;exact ih _ _ _
 |program k ih=>intro w es;exact ih _ _ _
 |mark m k ih=>intro w es;exact ih _ _
 |halt h=>intro w es;rfl
theorem il {α:Type}{p:Program}{s:Sem α}{w w':World}{a:α}(h:s.run p w=.ok a w'):w.drawn≤w'.drawn:=by have:=Cs p s w;rw[h]at this;exact this
theorem Kx {α:Type}{p:Program}{s:Sem α}{w w':World}{a:Halt}(h:s.run p w=.halt a w'):w.drawn≤w'.drawn:=by have:=Cs p s w;rw[h]at this;exact this
theorem nt {α:Type}{p:Program}{s:Sem α}{w:World}{es es':Array Event}{r:Result α}(h:s.runT p w es=(r,es')):w.drawn≤(QK r).drawn:=by
 have:=Kw p s w es
 rw[h]at this
 have h2:=Cs p s w
 rw[←this]at h2
 exact h2
def gLe (w:World):GStep→Prop
 | .ended .. =>True
 | .go _ w' _| .comm _ _ _ _ w' _| .spawn _ _ w' _| .count _ w' _| .timer _ _ w' _| .alone _ _ w' _| .newcoro _ _ _ w' _| .coroswitch _ _ _ w' _| .collect _ w' _| .watch _ w' _=>w.drawn≤w'.drawn
theorem gLe.after {w:World}{es:Array Event}{s:GStep}(h:gLe w s):gLe w (s.after es):=by cases s <;>exact h
theorem gLe.trans {w w':World}{s:GStep}(h1:w.drawn≤w'.drawn)(h:gLe w' s):gLe w s:=by cases s <;>first|trivial|exact Nat.le_trans h1 h
theorem ve {c:Prop}[Decidable c]{w:World}{a b:GStep}(h1:gLe w a)(h2:gLe w b):gLe w (if c then a else b):=by split <;>assumption
theorem oL (fr:Frame)(m:String)(w:World):gLe w (endThrow fr m w):=Nat.le_refl _
theorem rM (p:Program)(fr:Frame)(v:Value)(w:World):gLe w (endPrinting p fr v w):=by
 unfold endPrinting
 dsimp only
 split
 ·exact oL _ _ _
 ·trivial
theorem w7 (p:Program)(fr:Frame)(callers:List Frame)(dying:Option Dying)(m:String)(w:World):gLe w (endFatal p fr callers dying m w):=by
 unfold endFatal
 extract_lets
 split
 ·rename_i h;exact il h
 ·trivial
 ·trivial
theorem Gg (p:Program)(fr:Frame)(d:Dying)(f:Fatal)(w:World):gLe w (writeOn p fr d f w):=by
 unfold writeOn
 extract_lets
 split
 ·trivial
 ·extract_lets
  generalize h:Sem.runT _ _ _ _=rr
  obtain⟨r,es⟩:=rr
  have h:=nt h
  split
  ·rename_i e;cases e;exact h
  ·rename_i e;cases e;exact h
  ·trivial
  ·trivial
theorem Gh (w w':World)(fd:Nat)(t:ByteArray)(o:Outcome):gLe w (endWith w' fd t o):=by
 unfold endWith
 extract_lets
 split
 ·split <;>trivial
 ·trivial
 ·trivial
theorem QM (p:Program)(fr:Frame)(d:Dying)(w:World):gLe w (die p fr d w):=by
 unfold die
 split
 ·exact Gg _ _ _ _ _
 ·split
  ·split
   ·exact Nat.le_refl _
   ·exact Gh _ _ _ _ _
  ·extract_lets
   split
   ·exact Nat.le_refl _
   ·split
    ·rename_i h;exact il h
    ·trivial
   ·split
    rename_i h
    have h:=nt h
    refine gLe.after ?_
    split
    all_goals first|exact h|trivial|exact gLe.trans h (rM _ _ _ _)
   ·trivial
theorem rN (p:Program)(main:Bool)(fr:Frame)(callers:List Frame)(dying:Option Dying)(v:Value)(w:World):gLe w (doReturn p main fr callers dying v w):=by
 unfold doReturn
 split
 ·split
  all_goals exact Nat.le_refl _
 ·split
  ·exact Nat.le_refl _
  ·trivial
  ·split
   ·exact Nat.le_refl _
   ·split
    ·exact Nat.le_refl _
    ·trivial
theorem xF (p:Program)(fr:Frame)(callers:List Frame)(dying:Option Dying)(d:Deferred)(w:World):gLe w (callDeferred p fr callers dying d w):=by
 unfold callDeferred
 refine ve trivial ?_
 rcases h:(invoke d.target d.args).runT p w #[]with⟨r,es⟩
 have h:=nt h
 dsimp only
 refine gLe.after ?_
 split
 all_goals first|exact h|trivial|exact gLe.trans h (w7 _ _ _ _ _ _) |exact gLe.trans h (oL _ _ _) |skip
 split <;>exact h
theorem It (p:Program)(main:Bool)(fr:Frame)(callers:List Frame)(dying:Option Dying)(w:World):gLe w (unwind p main fr callers dying w):=by
 unfold unwind
 split
 ·split
  rename_i h
  have h:=nt h
  refine gLe.after ?_
  split
  ·exact h
  ·trivial
 ·exact xF _ _ _ _ _ _
 ·split
  ·trivial
  ·split
   ·trivial
   ·split
    ·exact Nat.le_refl _
    ·split
     ·split
      ·exact Nat.le_refl _
      ·split
       ·rename_i h;exact il h
       ·trivial
       ·trivial
     ·split
      ·exact rM _ _ _ _
      ·trivial
  ·split
   ·exact rN _ _ _ _ _ _ _
   ·split
    rename_i h
    have h:=nt h
    refine gLe.after ?_
    split
    ·exact gLe.trans h (rN _ _ _ _ _ _ _)
    ·trivial
    ·trivial
theorem Ky (p:Program)(fr:Frame)(callers:List Frame)(dying:Option Dying)(g:Nat)(w:World):gLe w (early p fr callers dying g w):=by
 unfold early
 extract_lets refuse notYet there
 have hn:∀ w0:World,w.drawn≤w0.drawn→gLe w (notYet w0):=fun w0 h0=>by
  show gLe w (match w0.heap[g]? with|some (.pending c elem) =>_|_=>_)
  split
  ·exact h0
  ·trivial
 split
 ·exact hn w (Nat.le_refl _)
 ·split
  ·trivial
  ·extract_lets there
   have ht:∀ w0:World,w.drawn≤w0.drawn→gLe w (there w0):=fun w0 h0=>h0
   split
   ·exact hn w (Nat.le_refl _)
   ·split
    ·exact hn w (Nat.le_refl _)
    ·split
     ·trivial
     ·exact ht w (Nat.le_refl _)
     ·trivial
     ·exact hn w (Nat.le_refl _)
     ·split
      ·exact ht w (Nat.le_refl _)
      ·split
       ·exact hn w (Nat.le_refl _)
       ·split
        ·rename_i h;exact hn _ (il h)
        ·rename_i h;exact ht _ (il h)
        ·trivial
end Go.Sx
end
section
namespace Go.Sx
theorem rO (p:Program)(listen:Bool)(fr:Frame)(callers:List Frame)(dying:Option Dying)(s:Sem Next)(w:World):gLe w (Go.stepG.apply p listen fr callers dying s w):=by
 unfold Go.stepG.apply
 extract_lets go kind
 have hr:∃ r es,(if listen=true then s.runT p w #[]else(s.run p w,#[]))=(r,es)∧w.drawn≤(QK r).drawn:=by
  split
  ·rcases h:s.runT p w #[]with⟨r,es⟩
   exact⟨r,es,rfl,nt h⟩
  ·exact⟨_,_,rfl,Cs p s w⟩
 obtain⟨r,es,he,h⟩:=hr
 rw[he]
 dsimp only
 refine gLe.after ?_
 have hgo:∀ fr w0,w.drawn≤w0.drawn→gLe w (go fr w0):=fun fr w0 h0=>h0
 split
 all_goals first|exact h|trivial|exact hgo _ _ h|exact gLe.trans h (w7 _ _ _ _ _ _) |exact gLe.trans h (oL _ _ _) |exact gLe.trans h (Ky _ _ _ _ _ _) |skip
 all_goals first|(refine ve (gLe.trans h (oL _ _ _)) ?_;exact h) |(split <;>first|exact h|trivial|exact hgo _ _ h)
theorem NJ (p:Program)(listen:Bool)(fr:Frame)(callers:List Frame)(dying:Option Dying)(w:World):gLe w (Go.stepG.oper p listen fr callers dying w):=by
 unfold Go.stepG.oper
 split
 ·trivial
 ·split
  ·exact rO _ _ _ _ _ _ _
  ·exact rO _ _ _ _ _ _ _
theorem Hs {α:Type}{w:World}{o:Option α}{a:GStep}{f:α→GStep}(h1:gLe w a)(h2:∀ x,gLe w (f x)):gLe w (o.elim a f):=by cases o;exact h1;exact h2 _
theorem NK (p:Program)(main listen:Bool)(fr:Frame)(callers:List Frame)(dying:Option Dying)(w:World):gLe w (Go.stepG.exec p main listen fr callers dying w):=by
 unfold Go.stepG.exec
 extract_lets go to lost leave
 have hgo:∀ fr w0,w.drawn≤w0.drawn→gLe w (go fr w0):=fun fr w0 h0=>h0
 have hto:∀ k,gLe w (to k):=fun k=>Nat.le_refl _
 have hlost:∀ m,gLe w (lost m):=fun _=>trivial
 have hleave:∀ j,gLe w (leave j):=fun j=>by
  show gLe w (match fr.roundOf with|none=>_|some l=>_)
  split
  ·refine ve (hgo _ _ (Nat.le_refl _)) trivial
  ·rcases h:(Instr.endRound _ j).runT p w #[]with⟨r,es⟩
   have h:=nt h
   dsimp only
   refine gLe.after ?_
   split
   ·exact gLe.trans h (rN _ _ _ _ _ _ _)
   ·trivial
 have hgo1:∀ fr,gLe w (go fr w):=fun fr=>Nat.le_refl _
 clear_value to lost leave
 split
 all_goals first|exact hleave _|exact hto _|exact hlost _|trivial|exact Hs (hleave _) hto|exact rO _ _ _ _ _ _ _|exact Hs (hlost _) (fun _=>rO _ _ _ _ _ _ _) |skip
 ·split
  ·exact hto _
  ·exact hlost _
 ·rcases h:(Instr.enterLoop fr.fn fr.tmps _ _ _ fr.roundOf).runT p w #[]with⟨r,es⟩
  have h:=nt h
  dsimp only
  refine gLe.after ?_
  split
  ·exact gLe.trans h (rO _ _ _ _ _ _ _)
  ·trivial
 ·rcases h:(Instr.endLoop _).runT p w #[]with⟨r,es⟩
  have h:=nt h
  dsimp only
  refine gLe.after ?_
  split
  ·exact hgo _ _ h
  ·exact hgo _ _ h
  ·trivial
 ·refine ve (hto _) ?_
  split
  ·rename_i h;exact hgo _ _ (il h)
  ·trivial
 ·exact ve (NJ _ _ _ _ _ _) (hgo1 _)
theorem Kz (p:Program)(main:Bool)(g:Goroutine)(w:World)(listen:Bool):gLe w (Go.stepG p main g w listen):=by
 unfold Go.stepG
 obtain⟨fr,callers,st,dying,off⟩:=g
 dsimp only
 split
 ·exact QM _ _ _ _
 ·exact NK _ _ _ _ _ _ _
 ·exact It _ _ _ _ _ _
def sLe (w:World):Stepped→Prop
 | .next m=>w.drawn≤m.world.drawn
 | .ended .. =>True
theorem sLe.trans {w w':World}{s:Stepped}(h1:w.drawn≤w'.drawn)(h:sLe w' s):sLe w s:=by cases s <;>first|trivial|exact Nat.le_trans h1 h
theorem Ht {c:Prop}[Decidable c]{w:World}{a b:Stepped}(h1:sLe w a)(h2:sLe w b):sLe w (if c then a else b):=by split <;>assumption
theorem Hu (p:Program)(gs:Array Goroutine)(rest:Rest)(w:World):sLe w (look p gs rest w):=by
 unfold look
 split
 ·extract_lets
  refine Ht trivial ?_
  split
  ·trivial
  ·extract_lets
   split
   ·rename_i h
    have h:=il h
    exact h
   ·trivial
   ·trivial
 ·trivial
theorem Ct {rest:Rest}{cases:Array CommCase}{w w':World}(h:waitingAt rest cases w=some w'):w.drawn≤w'.drawn:=by
 unfold waitingAt at h
 split at h
 ·split at h
  ·cases h;exact Nat.le_refl _
  ·cases h
 ·cases h;exact Nat.le_refl _
theorem zp (p:Program)(rest:Rest)(gs:Array Goroutine)(i:Nat)(g:Goroutine)(cases:Array CommCase)(bl:Bool)(shape:CommShape)(w:World):sLe w (communicate p rest gs i g cases bl shape w).1:=by
 unfold communicate
 extract_lets put illMade me other
 have hput:∀ g gs w0 ops,w.drawn≤w0.drawn→sLe w (put g gs w0 ops).1:=fun _ _ _ _ h=>h
 split
 ·trivial
 ·split
  ·split
   ·split
    ·rename_i h;exact Ct h
    ·trivial
   ·exact hput _ _ _ _ (Nat.le_refl _)
  ·split
   ·trivial
   ·rename_i h
    have hw:=il h
    clear h
    extract_lets r
    split
    ·split
     ·rename_i h2;exact hput _ _ _ _ (Nat.le_trans hw (Kx h2))
     ·trivial
    ·exact hput _ _ _ _ hw
    ·exact hput _ _ _ _ hw
    ·extract_lets
     split
     ·exact hput _ _ _ _ hw
     ·split
      ·rename_i h2;have h3:=il h2;exact hput _ _ _ _ (Nat.le_trans hw h3)
      ·trivial
    ·exact hput _ _ _ _ hw
    ·exact hput _ _ _ _ hw
    ·trivial
theorem Bp (m:Machine)(k:Nat)(t:Timer)(a b:Nat):m.world.drawn≤(retime m k t a b).2.world.drawn:=by
 unfold retime drain
 dsimp only
 repeat' split
 all_goals first|exact Nat.le_refl _|skip
 all_goals (simp_all;try omega)
theorem Gi {m m':Machine}{op:TimerOp}{v:Value}(h:timerOp m op=.ok (v,m')):m.world.drawn≤m'.world.drawn:=by
 have named:∀ (D:Nat) (m0:Machine) var f,(∀ k t,D≤(f k t).2.world.drawn)→timerOp.named m0 var f=.ok (v,m')→D≤m'.world.drawn:=fun D m0 var f hf h=>by
  unfold timerOp.named at h
  split at h
  ·injection h with h
   exact Nat.le_trans (hf _ _) (Nat.le_of_eq (congrArg (fun x:Value×Machine=>x.2.world.drawn) h))
  ·cases h
 unfold timerOp at h
 split at h
 ·split at h
  ·cases h;exact Nat.le_refl _
  ·split at h
   ·split at h
    ·cases h
    ·cases h;exact Nat.le_refl _
   ·cases h
 ·exact named _ _ _ _ (fun k t=>Bp _ _ _ _ _) h
 ·split at h
  ·rename_i m1 ho
   have h1:m.world.drawn≤m1.world.drawn:=by
    unfold timerOp.opened at ho
    split at ho
    ·split at ho
     ·cases ho;exact Nat.le_refl _
     ·cases ho
    ·cases ho;exact Nat.le_refl _
   exact Nat.le_trans h1 (named m1.world.drawn _ _ _ (fun k t=>Bp _ _ _ _ _) h)
  ·cases h
 ·cases h;exact Nat.le_refl _
theorem KA (p:Program)(m:Machine)(i:Nat)(listen:Bool):sLe m.world (Go.runT p m i listen).1:=by
 unfold Go.runT
 extract_lets rest world
 split
 extract_lets wake fn pos s ops done
 have hs:gLe m.world s:=Kz _ _ _ _ _
 have hd:∀ r,(done r).1=r:=fun r=>rfl
 clear_value s done
 split
 all_goals try rw[hd]
 ·trivial
 ·split
  rename_i h
  have:=zp p rest ‹_› i ‹_› ‹_› ‹_› ‹_› ‹_›
  rw[h]at this
  exact sLe.trans hs this
 ·exact hs
 ·exact hs
 ·exact Ht trivial hs
 ·exact hs
 ·exact sLe.trans hs (Hu _ _ _ _)
 ·exact hs
 ·exact hs
 ·split
  ·exact hs
  ·split
   ·rename_i h
    simp only[endThrow,dieOf]at h
    cases h
    exact hs
   ·trivial
  ·trivial
 ·split
  ·rename_i h;exact Nat.le_trans hs (Gi h)
  ·exact hs
  ·trivial
  ·trivial
theorem KB (p:Program)(m:Machine)(k:Nat):sLe m.world (serve p m k):=by
 unfold serve
 split
 ·trivial
 ·exact Nat.le_refl _
 ·extract_lets
  split
  ·trivial
  ·exact Nat.le_refl _
def mLe (w:World):Move→Prop
 | .goroutine m _=>w.drawn≤m.world.drawn
 | .machine s _=>sLe w s
theorem mLe.trans {w w':World}{s:Move}(h1:w.drawn≤w'.drawn)(h:mLe w' s):mLe w s:=by
 cases s
 ·exact Nat.le_trans h1 h
 ·exact sLe.trans h1 h
theorem zq (p:Program)(m:Machine):mLe m.world (askOn p m):=by
 unfold askOn
 extract_lets mono rs ds pick
 have hpick:∀ m0:Machine,m.world.drawn≤m0.world.drawn→mLe m.world (pick m0):=fun m0 h0=>by
  show mLe m.world (match (choose (.sched rs.length)).run p m0.world with| .halt _ w=>_| .ok k world=>_)
  split
  ·trivial
  ·rename_i h
   have h1:=il h
   split
   ·exact Nat.le_trans h0 h1
   ·split
    ·trivial
    ·rename_i h2
     have h2:=il h2
     exact Nat.le_trans h0 (Nat.le_trans h1 h2)
 clear_value pick rs ds
 split
 ·trivial
 ·rename_i h
  have hw:=il h
  clear h
  extract_lets m1
  split
  ·exact sLe.trans hw (KB p _ _)
  ·cases rs with
   |nil=>
    dsimp only
    split
    ·exact hw
    ·split
     ·exact hw
     ·split <;>trivial
   |cons r rs=>
    dsimp only
    split
    ·exact hpick _ hw
    ·split
     ·trivial
     ·rename_i h;have h2:=il h;exact hpick _ (Nat.le_trans hw h2)
     ·rename_i h;have h2:=il h;exact Nat.le_trans hw h2
     ·rename_i h;have h2:=il h;exact hpick _ (Nat.le_trans hw h2)
theorem D1 (p:Program)(m:Machine):mLe m.world (ask p m):=by
 unfold ask
 split
 ·split
  ·trivial
  ·rename_i h
   have hw:=il h
   have:=Hu p m.gs m.rest ‹World›
   split
   ·rename_i m2 h2
    rw[h2]at this
    exact mLe.trans (Nat.le_trans hw this) (zq p _)
   ·rename_i e h2
    exact sLe.trans hw this
  ·rename_i h
   have hw:=il h
   exact mLe.trans hw (zq p _)
 ·exact zq p m
theorem NL (p:Program)(m:Machine):mLe m.world (move p m):=by
 unfold move
 split
 ·split
  ·exact Nat.le_refl _
  ·trivial
 ·split
  ·split
   ·exact Nat.le_refl _
   ·exact D1 p _
  ·exact D1 p m
theorem NM (p:Program)(m:Machine):sLe m.world (step p m):=by
 unfold step stepT
 have:=NL p m
 split
 ·rename_i h
  rw[h]at this
  exact sLe.trans this (KA p _ _ _)
 ·rename_i h
  rw[h]at this
  exact this
theorem D2 {p:Program}{m m':Machine}(h:Steps p m m'):m.world.drawn≤m'.world.drawn:=by
 obtain⟨n,hn⟩:=h
 induction n generalizing m with
 |zero=>simp only[runN,Stepped.next.injEq]at hn;subst hn;exact Nat.le_refl _
 |succ n ih=>
  simp only[runN]at hn
  have:=NM p m
  cases hs:step p m with
  |next m1=>
   rw[hs]at hn this
   exact Nat.le_trans this (ih hn)
  |ended o w=>rw[hs]at hn;cases hn
theorem D3 {P:Program}{f:FuncId}{args:Array Value}{w:World}{R:Ending→World→Prop}(h:Calls P f args w R):Calls P f args w fun e w'=>R e w'∧(e≠ .outgrown→w.drawn≤w'.drawn):=by
 intro cs
 obtain⟨e,w',fr,hr,hc,hf,hl⟩:=h cs
 refine⟨e,w',fr,⟨hr,fun hne=>?_⟩,hc,hf,hl⟩
 cases e with
 |returned v=>exact D2 (p:=P) hc
 |panicked c=>exact D2 (p:=P) hc
 |outgrown=>exact absurd rfl hne
end Go.Sx
end
section
namespace Go.Sx
open Go.RowKit Go.Shelf Go.Lib Go.Sort Go.Proofs
def UW:SV→Value
 | .v x=>x
 |_=>undef
def nu (k:Tag)(x:k.T):List Value:=(cellsOf k x).map UW
def zr (k:Tag):Prop:= ∀ (x:k.T) (s:SV),s∈cellsOf k x→∃ v,s=.v v∧v.oneCell'=true
def srt {α:Type}(cf:α→α→Int)(l:List α):List α:=l.mergeSort fun x y=>!(ltOf cf y x)
def apart {α:Type}(cf:α→α→Int)(l:List α):Prop:= ∀ x∈l,∀ y∈l,ltOf cf x y=false→ltOf cf y x=false→x=y
theorem Gj {α:Type}[Inhabited α]{cf:α→α→Int}(hO:SWO (ltOf cf)){l:List α}(h:apart cf l){d':Array α}(hp:PermIn 0 l.toArray.size l.toArray d')(hs:SortedIn (ltOf cf) 0 l.toArray.size d'):d'=(srt cf l).toArray:=by
 obtain⟨hsz,_,hperm⟩:=hp
 have e1:d'.extract 0 l.toArray.size=d':=by rw[←hsz];exact Array.extract_size
 rw[e1,Array.extract_size]at hperm
 have hperm:d'.toList.Perm l:=by simpa using hperm
 have:d'.toList=srt cf l:=by
  refine List.Perm.eq_of_pairwise (le:=fun x y=>(!ltOf cf y x)=true) ?_ ?_ ?_ (hperm.trans (List.mergeSort_perm _ _).symm)
  ·intro a b ha hb h1 h2
   simp only[Bool.not_eq_true']at h1 h2
   exact h a (hperm.subset ha) b ((List.mergeSort_perm _ _).subset hb) h2 h1
  ·rw[List.pairwise_iff_getElem]
   intro i j hi hj hij
   have:=hs i j (Nat.zero_le _) hij (by simp only[List.size_toArray]at hsz ⊢;simp only[Array.length_toList]at hj;omega)
   simp only[Array.length_toList]at hi hj
   rw[getElem!_pos d' i hi,getElem!_pos d' j hj]at this
   simpa using this
  ·refine List.pairwise_mergeSort (fun a b c h1 h2=>?_) (fun a b=>?_) l
   ·simp only[Bool.not_eq_true']at h1 h2 ⊢
    exact hO.ntrans c b a h2 h1
   ·simp only[Bool.or_eq_true,Bool.not_eq_true']
    cases h1:ltOf cf b a with
    |false=>exact .inl rfl
    |true=>
     right
     cases h2:ltOf cf a b with
     |false=>rfl
     |true=>
      have h3:=hO.trans a b a h2 h1
      rw[hO.irrefl]at h3;cases h3
 rw[←this]
section
variable {P:Program}{ρ:Ren}{F:Nat→Prop}{own:Own}{w:World}{k:Tag}
theorem Iu (hk:zr k){l:List k.T}{o:Nat}{cs:Array Value}(h:RowAt F own w k l o cs){i j:Nat}(hi:i<l.length)(hj:j<ae k):cs[o+i*ae k+j]? =(nu k l[i])[j]?:=by
 have e1:=List.getElem?_eq_getElem hi
 have hlen:j< (cellsOf k l[i]).length:=by rw[bC];exact hj
 have e2:=List.getElem?_eq_getElem hlen
 obtain⟨u,h1,h2⟩:=h i _ e1 j _ e2
 obtain⟨v,h3,_⟩:=hk l[i] _ (List.getElem_mem hlen)
 rw[h1]
 unfold nu
 rw[List.getElem?_map,e2]
 rw[h3]at h2 ⊢
 rw[bS h2]
 rfl
theorem Iv (hk:zr k){l:List k.T}{o:Nat}{cs:Array Value}(h:∀ i j,(hi:i<l.length)→j<ae k→cs[o+i*ae k+j]? =(nu k l[i])[j]?):RowAt F own w k l o cs:=by
 intro i x hi j s hj
 obtain⟨hl,rfl⟩:=List.getElem?_eq_some_iff.1 hi
 have hlen:=(List.getElem?_eq_some_iff.1 hj).1
 rw[bC]at hlen
 have:=h i j hl hlen
 unfold nu at this
 rw[List.getElem?_map,hj]at this
 obtain⟨v,h3,_⟩:=hk _ s (List.mem_of_getElem? hj)
 subst h3
 exact⟨v,this,.v v⟩
theorem NN {w w':World}(hb:Go.RowKit.Below w.heap.size w w')(hd:w.drawn≤w'.drawn):∃ q os,w'=grow (w.drewN q) os:=by
 refine⟨w'.drawn - w.drawn,w'.heap.extract w.heap.size w'.heap.size,?_⟩
 obtain⟨h1,h2,h3,h4,h5⟩:=hb
 obtain⟨heap,tape,drawn,os,output⟩:=w
 obtain⟨heap',tape',drawn',os',output'⟩:=w'
 simp only at h1 h2 h3 h4 h5 hd
 subst h1;subst h2;subst h3
 unfold grow World.drewN
 simp only[World.mk.injEq,true_and,and_true]
 refine⟨?_,by omega⟩
 apply Array.ext
 ·simp;omega
 ·intro i hi1 hi2
  by_cases hi:i<heap.size
  ·rw[Array.getElem_append_left hi]
   have:=h5 i hi
   rw[Array.getElem?_eq_getElem hi1,Array.getElem?_eq_getElem hi]at this
   exact Option.some.inj this
  ·rw[Array.getElem_append_right (by omega)]
   simp only[Array.getElem_extract]
   congr 1;omega
end
end Go.Sx
end
section
namespace Go.Sx
open Go.RowKit Go.Shelf Go.Lib Go.Sort Go.Proofs
open Classical in
noncomputable def eW (k:Tag)(g:FuncId)(caps:List SV)(cf:k.T→k.T→Int):List SV→List Ob→Option HCon:=fun l h=>
 wl k (fun l0=>if l=[.os 0,.fn g [] caps]then some (tY (apart cf l0) (.tup []) [.row k (srt cf l0)])else none) h
@[go_sem] theorem lP {k:Tag}{g:FuncId}{caps:List SV}{cf:k.T→k.T→Int}{l0:List k.T}:eW k g caps cf [.os 0,.fn g [] caps] [.row k l0]=some (tY (apart cf l0) (.tup []) [.row k (srt cf l0)]):=by
 simp[eW,wl]
section
variable {P:Program}{ρ:Ren}{k:Tag}
theorem KC {w:World}{b:Nat}{cs:Array Value}{ty:TypeId}(hb:w.heap[b]? =some (.cells cs ty (0,0)))(D:Array Value)(o:Nat):(putRow id w b o D).heap[b]? =some (.cells (putCells id o D cs) ty (0,0)):=by
 unfold putRow mapBlock
 simp only[Array.getElem?_modify,if_true,hb]
 rfl
theorem D4 {w:World}{b c:Nat}(hc:c≠b)(D:Array Value)(o:Nat):(putRow id w b o D).heap[c]? =w.heap[c]?:=by
 unfold putRow mapBlock
 simp only[Array.getElem?_modify]
 rw[if_neg (fun e=>hc e.symm)]
theorem Cu {D cs:Array Value}{o t:Nat}(ht:t<D.size)(hs:o+t<cs.size):(putCells id o D cs)[o+t]? =D[t]?:=by
 unfold putCells
 rw[Array.getElem?_mapIdx,Array.getElem?_eq_getElem hs]
 simp only[Option.map_some]
 rw[if_pos (by omega),Array.getElem?_eq_getElem ht]
 have:o+t - o=t:=by omega
 rw[this,getElem!_pos D t ht]
 rfl
theorem D5 {α:Type}[Inhabited α]{enc:α→List Value}{n:Nat}(hn:∀ x,(enc x).length=n){d:Array α}{i j:Nat}(hi:i<d.size)(hj:j<n):(flatK enc n d)[i*n+j]? =(enc d[i]!)[j]?:=by
 have hlt:i*n+j<d.size*n:=by
  have:=Nat.mul_le_mul_right n (show i+1≤d.size from hi)
  rw[Nat.succ_mul]at this;omega
 have h1:i*n+j< (flatK enc n d).size:=by rw[size_flatK];exact hlt
 rw[Array.getElem?_eq_getElem h1,←getElem!_pos (flatK enc n d) _ h1,get_flatK enc n d _ hlt]
 have hd:(i*n+j) / n=i:=by
  rw[Nat.mul_comm,Nat.mul_add_div (by omega),Nat.div_eq_of_lt hj];omega
 have hm:(i*n+j) % n=j:=by
  rw[Nat.mul_comm,Nat.mul_add_mod,Nat.mod_eq_of_lt hj]
 rw[hd,hm]
 have hj':j< (enc d[i]!).length:=by rw[hn];exact hj
 rw[List.getElem?_eq_getElem hj',getElem!_pos (enc d[i]!) j hj']
theorem sw_b {α:Type}[Inhabited α]{enc:α→List Value}{n b o m:Nat}{w:World}{cs:Array Value}{ty:TypeId}(hb:w.heap[b]? =some (.cells cs ty (0,0)))(d:Array α)(os:Array Obj):(sortWorldK enc n w b o m d os).heap[b]? =some (.cells (putCells id o (flatK enc n d) cs) ty (0,0)):=by
 have hlt:b<w.heap.size:=(Array.getElem?_eq_some_iff.1 hb).1
 unfold sortWorldK grow
 simp only
 rw[Array.getElem?_append_left (by unfold putRowK putRow mapBlock Sort.ahead;simpa using hlt)]
 exact KC (w:=Sort.ahead w m) hb _ _
theorem OZ {α:Type}[Inhabited α]{enc:α→List Value}{n b o m c:Nat}{w:World}(hc:c<w.heap.size)(hne:c≠b)(d:Array α)(os:Array Obj):(sortWorldK enc n w b o m d os).heap[c]? =w.heap[c]?:=by
 unfold sortWorldK grow
 simp only
 rw[Array.getElem?_append_left (by unfold putRowK putRow mapBlock Sort.ahead;simpa using hc)]
 exact D4 (w:=Sort.ahead w m) hne _ _
theorem Cv {α:Type}[Inhabited α]{enc:α→List Value}{n b o m:Nat}{w:World}(d:Array α)(os:Array Obj):w.heap.size≤(sortWorldK enc n w b o m d os).heap.size:=by
 unfold sortWorldK grow putRowK putRow mapBlock Sort.ahead
 simp
theorem oM (L:SlLaysF0.n6 P ρ)(aE:∀ w,(isAgg (ρ.t 24)).run P w=.ok true w)(zE:∀ w,(Go.sizeOf (ρ.t 24)).run P w=.ok (ae k) w)(hk:zr k)(h0:0<ae k){g:FuncId}{caps:List SV}{C:List SV→Option Con}(hC:FnOk P g C){cf:k.T→k.T→Int}
  (hcf:∀ x y,C (.agg (cellsOf k x):: .agg (cellsOf k y)::caps)=some (.det True (.v (.int .i64 (cf x y))))) (hO:SWO (ltOf cf)) (hpf:∀ s∈caps,PF s) (hcf0:∃ x y,C (.agg (cellsOf k x):: .agg (cellsOf k y)::caps)=some (.det True (.v (.int .i64 (cf x y))))):FnOkO P (ρ.f 6) (eW k g caps cf):=by
 haveI:Inhabited k.T:=⟨dW k⟩
 refine⟨fun l h c hc args w=>L.f6.enters rfl args w,fun l h c hc hp F own w vs hHp hvs=>?_⟩
 unfold eW at hc
 obtain⟨l0,hh,hK⟩:=pl hc
 clear hc
 subst hh
 by_cases hl:l=[.os 0,.fn g [] caps]
 rotate_left
 ·rw[if_neg hl]at hK;cases hK
 rw[if_pos hl]at hK
 subst hl
 cases hK
 have hp:apart cf l0:=hp
 obtain⟨hsz,hrel⟩:=hvs
 have r0:=hrel 0 _ rfl
 have r1:=hrel 1 _ rfl
 have hvs2:vs= #[vs.getD 0 undef,vs.getD 1 undef]:=by
  apply Array.ext
  ·simpa using hsz
  ·intro i h1 h2
   simp only[List.length_cons,List.length_nil]at hsz
   match i,h1,h2 with
   |0,h1,_=>simp[Array.getD,h1]
   |1,h1,_=>simp[Array.getD,h1]
   |i+2,h1,_=>omega
 generalize vs.getD 0 undef=v0 at r0 hvs2
 generalize vs.getD 1 undef=v1 at r1 hvs2
 subst hvs2
 obtain⟨hd,o0,rfl,_⟩:=gz r0
 obtain⟨hd',o0',hrow⟩:=hHp.at (id:=0) (o:=.row k l0) rfl rfl
 rw[o0]at o0'
 cases o0'
 have hrow:RowRel F own w k l0 hd.v hd.bs:=hrow
 cases r1 with
 | @fn _ _ _ us cs s1 s2 c1 c2=>
 have hus:us= #[]:=Array.eq_empty_of_size_eq_zero (by simpa using s1)
 subst hus
 rcases hrow with⟨a,e1,rfl,e2⟩ | ⟨b,o,cap,cells,ty,e1,e2,e3,e4,e5,e6,e7⟩
 ·rw[e1]
  refine(AnyF.slices_SortFunc_none L a 0 _ w).mono fun e w' he=>?_
  obtain⟨rfl,rfl⟩:=he
  refine⟨(),own,trivial,⟨_,rfl,.tup rfl fun j s hj=>by simp at hj⟩,?_,Fr.refl _,Nat.le_refl _⟩
  have:srt cf ([]:List k.T)=[]:=by simp[srt]
  rw[this]
  exact hHp
 ·have hbown:b∈hd.bs:=by rw[e2];simp
  have hbw:b<w.heap.size:=hHp.lt 0 hd b o0 hbown
  have hkl:∀ x:k.T,(nu k x).length=ae k:=fun x=>by unfold nu;rw[List.length_map,bC]
  have hone:∀ x:k.T,∀ v∈nu k x,v.oneCell'=true:=fun x v hv=>by
   unfold nu at hv
   rw[List.mem_map]at hv
   obtain⟨s,hs,rfl⟩:=hv
   obtain⟨v,rfl,h1⟩:=hk x s hs
   exact h1
  have eg:∀ args w,(callFunc g args).run P w=.ok (.enter g args) w:=fun args w=>by
   obtain⟨x,y,hxy⟩:=hcf0
   exact hC.enter _ _ hxy args w
  have hown:∀ id h2,own id=some h2→id=0:=fun id h2 e=>by have:=hHp.dom id h2 e;simpa using this
  have hH:HoldsK (nu k) (ae k) w b o l0.toArray:=by
   intro t ht
   rw[size_flatK]at ht
   simp only[List.size_toArray]at ht
   have hi:t / ae k<l0.length:=Nat.div_lt_of_lt_mul (by rw[Nat.mul_comm];exact ht)
   have hj:=Nat.mod_lt t h0
   have ht':t=t / ae k*ae k+t % ae k:=(Nat.div_add_mod' t _).symm
   have q1:=Iu hk e7 hi hj
   have q2:=D5 (enc:=nu k) hkl (d:=l0.toArray) (i:=t / ae k) (j:=t % ae k) (by simpa using hi) hj
   rw[←ht']at q2
   rw[Nat.add_assoc,←ht']at q1
   have hl0:l0.toArray[t / ae k]! =l0[t / ae k]:=by rw[getElem!_pos l0.toArray _ (by simpa using hi)];rfl
   rw[hl0]at q2
   have hlt:t< (flatK (nu k) (ae k) l0.toArray).size:=by rw[size_flatK];simpa using ht
   constructor
   ·unfold World.cell?
    rw[e3]
    dsimp only
    rw[q1,←q2,Array.getElem?_eq_getElem hlt,getElem!_pos _ t hlt]
    rfl
   ·unfold World.frozen?
    rw[e3]
    simp
  have hcmp:CmpLays P g cs (nu k) (ae k) cf b o l0.toArray.size w:=by
   intro m os dk hdk x y
   generalize hW:sortWorldK (nu k) (ae k) w b o m dk os=W
   have hcar:Carries F own w F own W:=⟨fun _ h2 e=>⟨h2,e,.refl _⟩,fun c hc hn=>⟨hn,by
    rw[←hW]
    exact OZ hc (fun e=>hn (.inr ⟨0,hd,o0,e▸hbown⟩)) _ _⟩⟩
   have henc:∀ z:k.T,Rel (fun _=>False) co W (.agg (cellsOf k z)) (.agg (nu k z).toArray):=fun z=>by
    refine .agg (by simp[nu]) fun j s hj=>?_
    obtain⟨v,rfl,_⟩:=hk z s (List.mem_of_getElem? hj)
    have:(nu k z).toArray.getD j undef=v:=by
     unfold nu
     rw[Array.getD_eq_getD_getElem?,List.getElem?_toArray,List.getElem?_map,hj]
     rfl
    rw[this];exact .v v
   have hcall:=D3 (hC.calls _ _ (hcf x y) trivial (fun _=>False) W (#[.agg (nu k x).toArray,.agg (nu k y).toArray]++cs) (fun _ h=>h.elim) ⟨by simp[c1];omega,fun j s hj=>by
    match j,hj with
    |0,hj=>
     cases hj
     rw[Array.getD_eq_getD_getElem?,Array.getElem?_append_left (by simp)]
     exact henc x
    |1,hj=>
     cases hj
     rw[Array.getD_eq_getD_getElem?,Array.getElem?_append_left (by simp)]
     exact henc y
    |j+2,hj=>
     have hj:caps[j]? =some s:=hj
     have:=((c2 j s hj).carry hcar).over (hpf s (List.mem_of_getElem? hj)) (F':=fun _=>False) (own':=co) fun _ _ h=>by
      rcases h with h| ⟨_,_,h,_⟩
      ·exact h
      ·cases h
     have e:(#[Value.agg (nu k x).toArray,.agg (nu k y).toArray]++cs).getD (j+2) undef=cs.getD j undef:=by
      rw[Array.getD_eq_getD_getElem?,Array.getD_eq_getD_getElem?,Array.getElem?_append_right (by simp)]
      simp
     rw[e];exact this⟩)
   refine hcall.mono fun e w' hq=>?_
   obtain⟨he,hdr⟩:=hq
   rcases he with⟨s,u,own',hs,rfl,hh,hb⟩ | ⟨z,hz,_⟩
   ·simp only[c8]at hs
    subst hs
    have:=hh.val
    simp only[ri]at this
    rw[bS this]
    exact⟨rfl,NN hb (hdr (by simp))⟩
   ·exact hz.elim
  have hall:=AnyQ.slices_SortFunc L (ae k) aE zE (nu k) hkl hone cf hO g cs b o cap l0.toArray w eg hcmp hH hbw (by unfold a7 at e6;simp only[List.size_toArray];omega)
  rw[e1]
  refine hall.mono fun e w' he=>?_
  obtain⟨rfl,d',n,os,hpm,hst,rfl⟩:=he
  have hd':=Gj hO hp hpm hst
  subst hd'
  have hlS:(srt cf l0).length=l0.length:=List.length_mergeSort _
  generalize srt cf l0=lS at hlS
  have hsb:=sw_b (enc:=nu k) (n:=ae k) (o:=o) (m:=n) e3 lS.toArray os
  refine⟨(),own,trivial,⟨_,rfl,.tup rfl fun j s hj=>by simp at hj⟩,?_,?_,Nat.le_refl _⟩
  ·refine⟨hHp.dom,fun c hc=>Nat.lt_of_lt_of_le (hHp.foreign c hc) (Cv _ _),hHp.apart,hHp.inj,fun i h2 c e hc=>Nat.lt_of_lt_of_le (hHp.lt i h2 c e hc) (Cv _ _),fun i hi=>?_⟩
   match i,hi with
   |0,_=>
    refine⟨hd,o0,?_⟩
    show RowRel F own _ k lS hd.v hd.bs
    refine .inr ⟨b,o,cap,_,ty,by rw[hlS];exact e1,e2,hsb,?_,by omega,by omega,Iv hk fun i j hi hj=>?_⟩
    ·unfold putCells;simpa using e4
    ·have hlt:i*ae k+j< (flatK (nu k) (ae k) lS.toArray).size:=by
      rw[size_flatK]
      have:=Nat.mul_le_mul_right (ae k) (show i+1≤lS.length from hi)
      rw[Nat.succ_mul]at this
      simp only[List.size_toArray];omega
     have hle:o+(i*ae k+j) <cells.size:=by
      rw[size_flatK]at hlt
      simp only[List.size_toArray]at hlt
      have:=Nat.mul_le_mul_right (ae k) (show lS.length≤cap by omega)
      omega
     rw[Nat.add_assoc,Cu hlt hle,D5 hkl (by simpa using hi) hj]
     have:lS.toArray[i]! =lS[i]:=by rw[getElem!_pos lS.toArray _ (by simpa using hi)];rfl
     rw[this]
   |i+1,hi=>rw[pb (by simp)]at hi;cases hi
  ·refine⟨fun _ h2 e=>⟨h2,e,.refl _⟩,(Fr.refl { w:=w,own:=own}).base,rfl,rfl,rfl,Cv _ _,fun c hc=>?_⟩
   exact OZ hc.1 (fun e=>hc.2 ⟨0,hd,o0,e▸hbown⟩) _ _
end
end Go.Sx
end
section
namespace Go.Proofs
open Go.Shelf
def Tryz.sortL_ren:Go.Shelf.Ren:=⟨fun|6=>97|15=>112|14=>130|28=>146|29=>147|20=>155|21=>156|22=>157|23=>158|24=>159|25=>160|26=>161|27=>162|46=>177|47=>167|48=>168|49=>178|50=>179|57=>185|n=>n,fun|22=>35|24=>54|25=>85|3=>3|39=>166|0=>0|53=>202|55=>204|4=>4|46=>196|45=>195|50=>147|5=>5|9=>9|66=>215|70=>219|76=>227|77=>228|n=>n,fun|n=>n⟩
theorem Tryz.sortL:Go.Proofs.SlLaysF0.n6 Tryz.prog Tryz.sortL_ren:= {
 mixed:=by kernel_rfl
 f6:=⟨Tryz.f97.name,by decide,Tryz.func97.trans (congrArg some (by kernel_rfl))⟩
 f14:=⟨Tryz.f130.name,by decide,Tryz.func130.trans (congrArg some (by kernel_rfl))⟩
 f15:=Tryz.func112.trans (congrArg some (by kernel_rfl))
 f20:=⟨Tryz.f155.name,by decide,Tryz.func155.trans (congrArg some (by kernel_rfl))⟩
 f21:=⟨Tryz.f156.name,by decide,Tryz.func156.trans (congrArg some (by kernel_rfl))⟩
 f22:=⟨Tryz.f157.name,by decide,Tryz.func157.trans (congrArg some (by kernel_rfl))⟩
 f23:=⟨Tryz.f158.name,by decide,Tryz.func158.trans (congrArg some (by kernel_rfl))⟩
 f24:=⟨Tryz.f159.name,by decide,Tryz.func159.trans (congrArg some (by kernel_rfl))⟩
 f25:=⟨Tryz.f160.name,by decide,Tryz.func160.trans (congrArg some (by kernel_rfl))⟩
 f26:=⟨Tryz.f161.name,by decide,Tryz.func161.trans (congrArg some (by kernel_rfl))⟩
 f27:=⟨Tryz.f162.name,by decide,Tryz.func162.trans (congrArg some (by kernel_rfl))⟩
 f28:=Tryz.func146.trans (congrArg some (by kernel_rfl))
 f29:=Tryz.func147.trans (congrArg some (by kernel_rfl))
 f46:=⟨Tryz.f177.name,by decide,Tryz.func177.trans (congrArg some (by kernel_rfl))⟩
 f47:=Tryz.func167.trans (congrArg some (by kernel_rfl))
 f48:=Tryz.func168.trans (congrArg some (by kernel_rfl))
 f49:=⟨Tryz.f178.name,by decide,Tryz.func178.trans (congrArg some (by kernel_rfl))⟩
 f50:=⟨Tryz.f179.name,by decide,Tryz.func179.trans (congrArg some (by kernel_rfl))⟩
 f57:=⟨Tryz.f185.name,by decide,Tryz.func185.trans (congrArg some (by kernel_rfl))⟩
 t0:=Tryz.underlying0
 a0:=Tryz.isAgg0
 z0:=Tryz.sizeOf0
 v0:=Tryz.zeroValue0
 t3:=Tryz.underlying3
 a3:=Tryz.isAgg3
 z3:=Tryz.sizeOf3
 v3:=Tryz.zeroValue3
 t4:=Tryz.underlying4
 a4:=Tryz.isAgg4
 z4:=Tryz.sizeOf4
 v4:=Tryz.zeroValue4
 t5:=Tryz.underlying5
 a5:=Tryz.isAgg5
 z5:=Tryz.sizeOf5
 v5:=Tryz.zeroValue5
 t9:=Tryz.underlying9
 a9:=Tryz.isAgg9
 z9:=Tryz.sizeOf9
 v9:=Tryz.zeroValue9
 t22:=Tryz.underlying35
 a22:=Tryz.isAgg35
 z22:=Tryz.sizeOf35
 v22:=Tryz.zeroValue35
 t25:=Tryz.underlying85
 a25:=Tryz.isAgg85
 z25:=Tryz.sizeOf85
 v25:=Tryz.zeroValue85
 t39:=Tryz.underlying166
 a39:=Tryz.isAgg166
 z39:=Tryz.sizeOf166
 v39:=Tryz.zeroValue166
 t45:=Tryz.underlying195
 a45:=Tryz.isAgg195
 z45:=Tryz.sizeOf195
 v45:=Tryz.zeroValue195
 t46:=Tryz.underlying196
 a46:=Tryz.isAgg196
 z46:=Tryz.sizeOf196
 v46:=Tryz.zeroValue196
 t50:=Tryz.underlying147
 a50:=Tryz.isAgg147
 z50:=Tryz.sizeOf147
 v50:=Tryz.zeroValue147
 t53:=Tryz.underlying202
 a53:=Tryz.isAgg202
 z53:=Tryz.sizeOf202
 v53:=Tryz.zeroValue202
 t55:=Tryz.underlying204
 a55:=Tryz.isAgg204
 z55:=Tryz.sizeOf204
 v55:=Tryz.zeroValue204
 t66:=Tryz.underlying215
 a66:=Tryz.isAgg215
 z66:=Tryz.sizeOf215
 v66:=Tryz.zeroValue215
 t70:=Tryz.underlying219
 a70:=Tryz.isAgg219
 z70:=Tryz.sizeOf219
 v70:=Tryz.zeroValue219
 t76:=Tryz.underlying227
 a76:=Tryz.isAgg227
 z76:=Tryz.sizeOf227
 v76:=Tryz.zeroValue227
 t77:=Tryz.underlying228
 a77:=Tryz.isAgg228
 z77:=Tryz.sizeOf228
 v77:=Tryz.zeroValue228}
end Go.Proofs
end
section
namespace Go.Sx
open Go.Proofs
set_option maxRecDepth 100000
set_option linter.unusedSimpArgs false
@[go_sem] def od (l_:List Int)(k_0:Nat)(s_0:Unit):Int⊕Unit:=(bif((l_.getD k_0 (0:Int)) !=0)then .inl (l_.getD k_0 (0:Int))else .inr ())
def bE (l_:List Int):Int:=(match ap (od l_) l_.length 0 ()with| .inl x_0_0=>x_0_0| .inr s_0=>0)
@[go_sem] def fL:List SV→Option Con:=(pR .int fun l_=>(pE (.det True (.v (.int .i64 (bE l_))))))
theorem gD:FnOk Tryz.prog 69 fL:=by
 have hG:ConsOk Tryz.prog (mkG [] []):=aC cg0 cg0
 refine aI [.o] mixed ax hG (fn:=Tryz.f69) (c:=aa Tryz.f69) (by kernel_rfl) (by kernel_rfl) (by kernel_rfl) (by kernel_rfl) (cj fun l_=>(aB (fun hp=>?_)))
 dsimp only[aD]at hp
 refine⟨Nat.le_of_ble_eq_true rfl,(fun id st=>bif Nat.beq id 0 then some (LCR (ρ:=Int) (σ:=Unit) 0 [] [] (fun k_0 s_0=>⟨[(5,.rs .int l_),(6,.v (.int .i64 (l_.length:Int))),(7,.v (.int .i64 (k_0:Int)))],[]⟩) (od l_) pT l_.length () (l_.length≤a7) (fun _=>.ret) (fun x_0_0=>⟨[(2,.v (.int .i64 x_0_0))],[]⟩) st)else none),?_,?_⟩
 ·unfold aa Tryz.f69
  simp only[ay,true_and,and_true]
  ·refine dB mixed ax hG (by kernel_rfl) (fun _=>rfl) (l_.length:Int) rfl g7 (fun hb0 k_0 s_0 hlt0 _ hw hc=>⟨L0,ak _,?_⟩) (fun hb0 s_0 hc=>?_)
   ·exact mt
   ·exact mu
 ·unfold aa Tryz.f69
  try unfold bE
  simp only[go_sem,Nat.reduceBEq,Nat.reduceLeDiff,Nat.reduceLT,decide_true,Nat.reduceAdd,Nat.reduceSub,Nat.reduceMul,Int.reduceLE,Int.reduceLT,Int.reduceToNat,Int.reduceNeg,reduceCtorEq]
  all_goals exact cl
def aq (a:Order)(b:Order):Int:=(bE ([(aP a.hour b.hour),(aP a.index b.index)]))
@[go_sem] def kW:List SV→Option Con:=(pD .order fun a=>(pD .order fun b=>(pE (.det True (.v (.int .i64 (aq a b)))))))
theorem qb:FnOk Tryz.prog 108 kW:=by
 have hG:ConsOk Tryz.prog (mkG [(69,fun l=>fL (cn [.sl .int] l)),(70,c9)] []):=aC (cgc (gD.norm [.sl .int]) (cgc dI cg0)) cg0
 refine aI [.o] mixed ax hG (fn:=Tryz.f108) (c:=aa Tryz.f108) (by kernel_rfl) (by kernel_rfl) (by kernel_rfl) (by kernel_rfl) (aN fun a=>(aN fun b=>(aB (fun hp=>?_))))
 dsimp only[aD]at hp
 refine⟨Nat.le_of_ble_eq_true rfl,L0,ak _,?_⟩
 ·unfold aa Tryz.f108
  try unfold aq
  simp only[go_sem,Nat.reduceBEq,Nat.reduceLeDiff,Nat.reduceLT,decide_true,Nat.reduceAdd,Nat.reduceSub,Nat.reduceMul,Int.reduceLE,Int.reduceLT,Int.reduceToNat,Int.reduceNeg,reduceCtorEq]
  all_goals exact cl
def kw (x:Order):Bool:=(decide (x.litres > 1073741824))
@[go_sem] def mY:List SV→Option Con:=(pD .order fun x=>(pE (.det True (.v (.bool (kw x))))))
theorem rP:FnOk Tryz.prog 65 mY:=by
 have hG:ConsOk Tryz.prog (mkG [] []):=aC cg0 cg0
 refine aI [.o] mixed ax hG (fn:=Tryz.f65) (c:=aa Tryz.f65) (by kernel_rfl) (by kernel_rfl) (by kernel_rfl) (by kernel_rfl) (aN fun x=>(aB (fun hp=>?_)))
 dsimp only[aD]at hp
 refine⟨Nat.le_of_ble_eq_true rfl,L0,ak _,?_⟩
 ·unfold aa Tryz.f65
  try unfold kw
  simp only[go_sem,Nat.reduceBEq,Nat.reduceLeDiff,Nat.reduceLT,decide_true,Nat.reduceAdd,Nat.reduceSub,Nat.reduceMul,Int.reduceLE,Int.reduceLT,Int.reduceToNat,Int.reduceNeg,reduceCtorEq]
  all_goals exact cl
def bJ (a:Claim)(b:Claim):Int:=(bE ([(aP a.rank b.rank),(aP a.right b.right),(aP a.farm b.farm),(aP a.hour b.hour)]))
@[go_sem] def jJ:List SV→Option Con:=(pD .claim fun a=>(pD .claim fun b=>(pE (.det True (.v (.int .i64 (bJ a b)))))))
theorem mZ:FnOk Tryz.prog 36 jJ:=by
 have hG:ConsOk Tryz.prog (mkG [(69,fun l=>fL (cn [.sl .int] l)),(70,c9)] []):=aC (cgc (gD.norm [.sl .int]) (cgc dI cg0)) cg0
 refine aI [.o] mixed ax hG (fn:=Tryz.f36) (c:=aa Tryz.f36) (by kernel_rfl) (by kernel_rfl) (by kernel_rfl) (by kernel_rfl) (aN fun a=>(aN fun b=>(aB (fun hp=>?_))))
 dsimp only[aD]at hp
 refine⟨Nat.le_of_ble_eq_true rfl,L0,ak _,?_⟩
 ·unfold aa Tryz.f36
  try unfold bJ
  simp only[go_sem,Nat.reduceBEq,Nat.reduceLeDiff,Nat.reduceLT,decide_true,Nat.reduceAdd,Nat.reduceSub,Nat.reduceMul,Int.reduceLE,Int.reduceLT,Int.reduceToNat,Int.reduceNeg,reduceCtorEq]
  all_goals exact cl
def bD (a:Claim)(b:Claim):Int:=(bE ([(aP a.hour b.hour),(bJ a b)]))
@[go_sem] def kX:List SV→Option Con:=(pD .claim fun a=>(pD .claim fun b=>(pE (.det True (.v (.int .i64 (bD a b)))))))
theorem qc:FnOk Tryz.prog 71 kX:=by
 have hG:ConsOk Tryz.prog (mkG [(36,jJ),(69,fun l=>fL (cn [.sl .int] l)),(70,c9)] []):=aC (cgc mZ (cgc (gD.norm [.sl .int]) (cgc dI cg0))) cg0
 refine aI [.o] mixed ax hG (fn:=Tryz.f71) (c:=aa Tryz.f71) (by kernel_rfl) (by kernel_rfl) (by kernel_rfl) (by kernel_rfl) (aN fun a=>(aN fun b=>(aB (fun hp=>?_))))
 dsimp only[aD]at hp
 refine⟨Nat.le_of_ble_eq_true rfl,L0,ak _,?_⟩
 ·unfold aa Tryz.f71
  try unfold bD
  simp only[go_sem,Nat.reduceBEq,Nat.reduceLeDiff,Nat.reduceLT,decide_true,Nat.reduceAdd,Nat.reduceSub,Nat.reduceMul,Int.reduceLE,Int.reduceLT,Int.reduceToNat,Int.reduceNeg,reduceCtorEq]
  all_goals exact cl
end Go.Sx
end
section
namespace Go.Sx
open Go.Proofs
theorem qd (x:Int)(l:List Int):bE (x::l)=if x=0 then bE l else x:=by
 have key:∀ l:List Int,bE l=match cI (ρ:=Int) (fun(x:Int) (_:Unit) =>bif(x !=0)then .inl x else .inr ()) l ()with| .inl y=>y| .inr _=>0:=fun l=>by
  unfold bE
  have:=Cl (ρ:=Int) (fun(x:Int) (_:Unit) =>bif(x !=0)then .inl x else .inr ()) 0 l ()
  rw[←this]
  rfl
 rw[key,key]
 simp only[cI]
 by_cases h:x=0
 ·subst h;rfl
 ·have:(x !=0)=true:=by simpa using h
  rw[if_neg h,this];rfl
theorem Bq:bE []=0:=rfl
def mP:List (Int×Int)→Prop
 | [] =>False
 |(a,b)::r=>a<b∨a=b∧mP r
theorem ww:∀ l:List (Int×Int),(bE (l.map fun p=>aP p.1 p.2) <0↔mP l)
 | [] =>by simp[Bq,mP]
 |(a,b)::r=>by
  have hc:=fJ a b
  simp only[List.map_cons,qd,hc,mP]
  rcases Int.lt_trichotomy a b with h|h|h
  ·simp[h]
  ·subst h
   simp only[Int.lt_irrefl,if_false,if_true,true_and,false_or,gt_iff_lt]
   exact ww r
  ·have h1:¬a<b:=by omega
   have h2:a≠b:=by omega
   simp[h1,h2,h]
theorem Br (x:Int):bE [x]=x:=by
 rw[qd,Bq]
 split <;>omega
def Iw (a b:Order):Prop:=mP [(a.hour,b.hour),(a.index,b.index)]
theorem qe (a b:Order):aq a b<0↔Iw a b:=ww [(a.hour,b.hour),(a.index,b.index)]
def slt (a b:Claim):Prop:=mP [(a.rank,b.rank),(a.right,b.right),(a.farm,b.farm),(a.hour,b.hour)]
theorem sP (a b:Claim):bJ a b<0↔slt a b:=ww [(a.rank,b.rank),(a.right,b.right),(a.farm,b.farm),(a.hour,b.hour)]
def clt (a b:Claim):Prop:=mP [(a.hour,b.hour),(a.rank,b.rank),(a.right,b.right),(a.farm,b.farm)]
theorem ua (a b:Claim):bD a b<0↔clt a b:=by
 unfold bD
 rw[qd,Br,fJ]
 have h:=sP a b
 simp only[slt,clt,mP,and_false,or_false]at h ⊢
 rcases Int.lt_trichotomy a.hour b.hour with e|e|e
 ·simp only[e,if_true]
  have:¬ ((-1:Int)=0):=by omega
  rw[if_neg this]
  simp
 ·simp only[e,Int.lt_irrefl,gt_iff_lt,if_false,if_true,false_or,true_and]
  rw[h];omega
 ·have h1:¬a.hour<b.hour:=by omega
  have h2:¬a.hour=b.hour:=by omega
  simp only[h1,gt_iff_lt,e,if_true,if_false,false_or,h2,false_and,iff_false]
  have:¬ ((1:Int)=0):=by omega
  rw[if_neg this];omega
open Go.Shelf Go.Sort in
theorem Gk {α:Type}{f:α→α→Int}{r:α→α→Prop}(e:∀ x y,f x y<0↔r x y)(h1:∀ x,¬r x x)(h2:∀ x y z,r x y→r y z→r x z)(h3:∀ x y z,¬r x y→¬r y z→¬r x z):SWO (ltOf f):=by
 have e1:∀ x y,ltOf f x y=true↔r x y:=fun x y=>by unfold ltOf;rw[decide_eq_true_eq,e]
 have e2:∀ x y,ltOf f x y=false↔¬r x y:=fun x y=>by rw[←e1];simp
 exact⟨fun x=>(e2 x x).2 (h1 x),fun x y z a b=>(e1 x z).2 (h2 x y z ((e1 x y).1 a) ((e1 y z).1 b)),fun x y z a b=>(e2 x z).2 (h3 x y z ((e2 x y).1 a) ((e2 y z).1 b))⟩
open Go.Shelf Go.Sort in
theorem eG:SWO (ltOf aq):=Gk qe (fun x=>by simp only[Iw,mP,and_false,or_false];omega) (fun x y z h1 h2=>by simp only[Iw,mP,and_false,or_false]at *;omega) (fun x y z h1 h2=>by simp only[Iw,mP,and_false,or_false]at *;omega)
open Go.Shelf Go.Sort in
theorem ub:SWO (ltOf bJ):=Gk sP (fun x=>by simp only[slt,mP,and_false,or_false];omega) (fun x y z h1 h2=>by simp only[slt,mP,and_false,or_false]at *;omega) (fun x y z h1 h2=>by simp only[slt,mP,and_false,or_false]at *;omega)
open Go.Shelf Go.Sort in
theorem mv:SWO (ltOf bD):=Gk ua (fun x=>by simp only[clt,mP,and_false,or_false];omega) (fun x y z h1 h2=>by simp only[clt,mP,and_false,or_false]at *;omega) (fun x y z h1 h2=>by simp only[clt,mP,and_false,or_false]at *;omega)
end Go.Sx
end
section
namespace Go.Sx
open Go.RowKit
def orC {α:Type 1}:Option α→Option α→Option α
 |some x,_=>some x
 |none,y=>y
@[go_sem] theorem UX {α:Type 1}{x:α}{y:Option α}:orC (some x) y=some x:=(rfl)
@[go_sem] theorem UY {α:Type 1}{y:Option α}:orC none y=y:=(rfl)
theorem sQ {α:Type 1}{a b:Option α}{c:α}(h:orC a b=some c):a=some c∨b=some c:=by
 cases a with
 |none=>exact .inr h
 |some x=>exact .inl h
theorem FnOkO.or {P:Program}{f:FuncId}{C D:List SV→List Ob→Option HCon}(h1:FnOkO P f C)(h2:FnOkO P f D):FnOkO P f (fun l h=>orC (C l h) (D l h)):=
 ⟨fun l h c hc=>by rcases sQ hc with e|e;exact h1.enter l h c e;exact h2.enter l h c e,
  fun l h c hc=>by rcases sQ hc with e|e;exact h1.calls l h c e;exact h2.calls l h c e⟩
theorem FnOk.or {P:Program}{f:FuncId}{C D:List SV→Option Con}(h1:FnOk P f C)(h2:FnOk P f D):FnOk P f (fun l=>orC (C l) (D l)):=
 ⟨fun l c hc=>by rcases sQ hc with e|e;exact h1.enter l c e;exact h2.enter l c e,
  fun l c hc=>by rcases sQ hc with e|e;exact h1.calls l c e;exact h2.calls l c e⟩
end Go.Sx
end
section
namespace Go.Sx
open Go.RowKit Go.Shelf Go.Lib Go.Sort Go.Proofs
set_option maxRecDepth 100000
noncomputable def jK:List SV→List Ob→Option HCon:=fun l h=>orC (eW .order 121 [.ep [iX] 0] aG l h) (eW .order 108 [] aq l h)
@[go_sem] theorem Mb {l0:List Order}:jK [.os 0,.fn 121 [] [.ep [iX] 0]] [.row .order l0]=some (tY (apart aG l0) (.tup []) [.row .order (srt aG l0)]):=by
 unfold jK
 rw[lP];rfl
@[go_sem] theorem KD {l0:List Order}:jK [.os 0,.fn 108 [] []] [.row .order l0]=some (tY (apart aq l0) (.tup []) [.row .order (srt aq l0)]):=by
 unfold jK
 rw[lP]
 have:eW .order 121 [.ep [iX] 0] aG [.os 0,.fn 108 [] []] [.row .order l0]=none:=by simp[eW,wl]
 rw[this];rfl
theorem w8:zr .order:=fun x s hs=>by
 simp only[cellsOf,List.mem_cons,List.not_mem_nil,or_false]at hs
 rcases hs with rfl|rfl|rfl|rfl
 all_goals exact⟨_,rfl,rfl⟩
theorem KE (x y:Order):gb (.agg (cellsOf .order x):: .agg (cellsOf .order y)::[.ep [iX] 0])=some (.det True (.v (.int .i64 (aG x y)))):=by
 simp only[go_sem,Nat.reduceBEq]
theorem w9 (x y:Order):kW (.agg (cellsOf .order x):: .agg (cellsOf .order y)::[])=some (.det True (.v (.int .i64 (aq x y)))):=by
 simp only[go_sem,Nat.reduceBEq]
theorem w_:FnOkO Tryz.prog 97 jK:=by
 refine FnOkO.or ?_ ?_
 ·refine oM (k:=.order) Tryz.sortL (fun w=>by kernel_rfl) (fun w=>by kernel_rfl) w8 (by decide) (g:=121) (caps:=[.ep [iX] 0]) qx (cf:=aG) KE p_ (fun s hs=>?_) ⟨default,default,KE _ _⟩
  simp only[List.mem_cons,List.not_mem_nil,or_false]at hs
  subst hs
  exact eF 5 _ rfl
 ·exact oM (k:=.order) Tryz.sortL (fun w=>by kernel_rfl) (fun w=>by kernel_rfl) w8 (by decide) (g:=108) (caps:=[]) qb (cf:=aq) w9 eG (fun s hs=>by cases hs) ⟨default,default,w9 _ _⟩
end Go.Sx
end
section
namespace Go.Sx
open Go.RowKit
def Ix (k:Tag)(i:Nat)(t:List (Nat×SV))(h:List Ob):SV→St
 | .v (.slice none 0 0) =>⟨(i,.os h.length)::t,h++[.row k []]⟩
 |_=>⟨t,h⟩
def KF (k:Tag)(id off:Nat)(t:List (Nat×SV))(h:List Ob)(l:List SV):Option SV→St
 |some (.v (.slice none 0 0)) =>⟨t,bO h id (.cells (l.set off (.os h.length)))++[.row k []]⟩
 |_=>⟨t,h⟩
def NO (k:Tag)(id off:Nat)(t:List (Nat×SV))(h:List Ob):Ob→St
 | .cells l=>KF k id off t h l (nth l off)
 |_=>⟨t,h⟩
def KG (k:Tag)(t:List (Nat×SV))(h:List Ob):SV→St
 | .ptr id off=>NO k id off t h (av h id)
 |_=>⟨t,h⟩
def D6 (k:Tag):ResultVar→List (Nat×SV)→List Ob→St
 | .tmp i,t,h=>Ix k i t h (lk i t)
 | .cell i _,t,h=>KG k t h (lk i t)
def zs:List (ResultVar×Tag)→St→St
 | [],st=>st
 |x::r,st=>zs r (D6 x.2 x.1 st.t st.h)
theorem NP (k:Tag)(r:ResultVar)(st:St):NilS st (D6 k r st.t st.h):=by
 obtain⟨t,h⟩:=st
 cases r with
 |tmp i=>
  show NilS _ (Ix k i t h (lk i t))
  unfold Ix
  split
  ·rename_i e
   exact .slot _ (.refl _) e (.inl ⟨_,rfl⟩)
  ·exact .refl _
 |cell i _=>
  show NilS _ (KG k t h (lk i t))
  unfold KG
  split
  ·unfold NO
   split
   ·rename_i e
    unfold KF
    split
    ·rename_i e2
     exact .cell _ (.refl _) e (by rw[←ef];exact e2) (.inl ⟨_,rfl⟩)
    ·exact .refl _
   ·exact .refl _
  ·exact .refl _
theorem NilS.trans {a b c:St}(h1:NilS a b)(h2:NilS b c):NilS a c:=by
 induction h2 with
 |refl=>exact h1
 |cell o _ e1 e2 ho ih=>exact .cell o ih e1 e2 ho
 |slot o _ e1 ho ih=>exact .slot o ih e1 ho
theorem QN (l:List (ResultVar×Tag)):∀ st,NilS st (zs l st):=by
 induction l with
 |nil=>exact fun st=>.refl _
 |cons x r ih=>exact fun st=>(NP x.2 x.1 st).trans (ih _)
def Hv (l:List (ResultVar×Tag))(rs:List ResultVar)(ts:Tis)(post:SV→Prop)(pp:Value→Prop):Ex→St→Prop
 | .exit _,_=>False
 | .normal,st=>dq post (tM true rs ts (zs l st))
 | .ret,st=>dq post (tM true rs ts (zs l st))
 | .pan x,_=>pp x
section
variable {l:List (ResultVar×Tag)}{rs:List ResultVar}{ts:Tis}{post:SV→Prop}{pp:Value→Prop}{st:St}{k:Tag}{i id off:Nat}{t:List (Nat×SV)}{h:List Ob}{m:List SV}
@[go_sem] theorem Ta:Hv l rs ts post pp .ret st=dq post (tM true rs ts (zs l st)):=(rfl)
@[go_sem] theorem NQ:Hv l rs ts post pp .normal st=dq post (tM true rs ts (zs l st)):=(rfl)
@[go_sem] theorem Tb {x:Value}:Hv l rs ts post pp (.pan x) st=pp x:=(rfl)
@[go_sem] theorem UZ:zs [] st=st:=(rfl)
@[go_sem] theorem Tc {r:ResultVar}:zs ((r,k)::l) ⟨t,h⟩=zs l (D6 k r t h):=(rfl)
@[go_sem] theorem Td:D6 k (.tmp i) t h=Ix k i t h (lk i t):=(rfl)
@[go_sem] theorem QO {ty:TypeId}:D6 k (.cell i ty) t h=KG k t h (lk i t):=(rfl)
@[go_sem] theorem U0:Ix k i t h (.v (.slice none 0 0))=⟨(i,.os h.length)::t,h++[.row k []]⟩:=(rfl)
@[go_sem] theorem Wt:Ix k i t h (.os id)=⟨t,h⟩:=(rfl)
@[go_sem] theorem U1:KG k t h (.ptr id off)=NO k id off t h (av h id):=(rfl)
@[go_sem] theorem QP:NO k id off t h (.cells m)=KF k id off t h m (nth m off):=(rfl)
@[go_sem] theorem U2:KF k id off t h m (some (.v (.slice none 0 0)))=⟨t,bO h id (.cells (m.set off (.os h.length)))++[.row k []]⟩:=(rfl)
@[go_sem] theorem Wu:KF k id off t h m (some (.os i))=⟨t,h⟩:=(rfl)
attribute [go_sem] List.set_cons_zero
end
section
variable {P:Program}{ts:Tis}{G:Cons}
theorem qf (l:List (ResultVar×Tag)) (hm:P.follows .mixedOrders=true) (hts:ts.ok P) (hG:ConsOk P G) {f:FuncId} {fn:Func} {c:Code} (hf:P.funcs[f]? =some fn) (hb:fn.body=some c) (hname:(fn.name== "runtime.NumGoroutine")=false)
  (hc:ci fn.ntmps c=true) {C:List SV→Option Con}
  (h:∀ l0 con,C l0=some con→aD con→l0.length≤fn.ntmps∧∃ L,ay P none fn.ntmps L c∧exec ts G L c ⟨jT 0 l0,[]⟩ (Hv l fn.results.toList ts (c8 con) (jH con))):FnOk P f C:=by
 refine⟨fun l con _ args w=>?_,fun l0 con hcon hpre F w vs hF hvs=>?_⟩
 ·have hn:¬fn.name= "runtime.NumGoroutine":=by simpa using hname
  simp[callFunc,hf,hn,hb]
 ·obtain⟨hlen,L,hl,hx⟩:=h l0 con hcon hpre
  refine k_ (n:=0) (callsIn_of_wp_marks hf hb trivial ?_)
  have hr:StRel F { w:=w,own:=co} fn.ntmps co ⟨jT 0 l0,[]⟩ { tmps:=vs++Array.replicate (fn.ntmps - vs.size) undef,defers:=[]} w:=
   ⟨by have:=hvs.1;simp;omega,Dfr.nil,uR hF,Fr.refl _,fun t=>jX hvs _ t⟩
  refine wpIn_mono (lK hm hts hG c hc hl F _ _ hx co _ w hr) ?_
  intro e a' w' hq
  have key:∀ F1 own st,(∀ b,F b→F1 b)→StRel F1 { w:=w,own:=co} fn.ntmps own st a' w'→dq (c8 con) (tM true fn.results.toList ts (zs l st))→LeavesInM (rd none) 0 P fn a'.tmps
    (fun e w'=>(∃ s u own',c8 con s∧e=.returned u∧Handed F w own' w' s u∧Below w.heap.size w w')∨(∃ x,jH con x∧e=.panicked [{ v:=x,recovered:=false}]∧Below w.heap.size w w')) a'.defers .returning w':=by
   intro F1 own0' st0 hF1 hst0 hdone
   obtain⟨own,hst⟩:=(QN l st0).rel hst0
   generalize zs l st0=st at hst hdone
   refine ig hst (by simp) fun w2 hst2=>?_
   have hst3:=hst2.less hF1 rfl
   unfold tM at hdone
   cases hs:kS (jF ts st fn.results.toList)with
   |none=>
    simp only[cond_true,HT]at hdone;rw[hs]at hdone;exact hdone.elim
   |some s=>
    obtain⟨u,e1,e2⟩:=sL (P:=P) hts hst3 hs
    refine⟨u,e1,.inl ?_⟩
    simp only[cond_true,HT]at hdone
    rw[hs]at hdone
    change dq (c8 con) (wT st.h s)at hdone
    cases hg:wT st.h s with
    |none=>rw[hg]at hdone;exact hdone.elim
    |some s2=>
     rw[hg]at hdone
     obtain⟨own',hh⟩:=G6 hst3 e2 hg
     exact⟨_,u,own',hdone,rfl,hh,mq hst3.fr⟩
  cases e with
  |normal=>obtain⟨F1,own,st,h0,h1,h2⟩:=hq;exact key F1 own st h0 h1 h2
  |ret=>obtain⟨F1,own,st,h0,h1,h2⟩:=hq;exact key F1 own st h0 h1 h2
  |exit id=>obtain⟨F1,own,st,h0,h1,h2⟩:=hq;exact h2.elim
  |panic ch=>
   obtain⟨x,F1,own,st,h0,h1,h2,rfl⟩:=hq
   exact ig h1 (by simp) fun w2 hst2=>.inr ⟨x,h2,rfl,mq hst2.fr⟩
  |_=>exact hq.elim
end
end Go.Sx
end
section
namespace Go.Sx
open Go.Proofs
set_option maxRecDepth 100000
@[go_sem] def rQ:List SV→Option Con:=pR .order fun l=>pE (.det (l.length*32≤dE) (.nw .order l))
theorem xG:FnOk Tryz.prog 94 rQ:=by
 have hG:ConsOk Tryz.prog (mkG [] []):=aC cg0 cg0
 refine qf [(.tmp 2,.order)] mixed ax hG (fn:=Tryz.f94) (c:=aa Tryz.f94) (by kernel_rfl) (by kernel_rfl) (by kernel_rfl) (by kernel_rfl) (cj fun l=>aB fun hp=>?_)
 dsimp only[aD]at hp
 refine⟨Nat.le_of_ble_eq_true rfl,L0,ak _,?_⟩
 unfold aa Tryz.f94
 simp only[go_sem,Nat.reduceBEq,Nat.reduceLeDiff,Nat.reduceAdd,Nat.reduceSub,Nat.reduceMul,Int.reduceLE,Int.reduceLT,Int.reduceToNat,Int.reduceNeg,reduceCtorEq]
 intro b hb
 refine⟨fun h=>?_,fun _=>⟨hp,fun _=>rfl⟩⟩
 have hl:=hb h
 subst hl
 rfl
end Go.Sx
end
section
namespace Go.Sx
open Go.RowKit
abbrev RF:= { r:Nat→Res // ∀ k,(r k).n=k}
def D7 (items:List (List SV))(r:RF):List SV→Res→Option YCon:=itY items r.1
@[go_sem] theorem Wv {items:List (List SV)}{r:RF}{k:Nat}{args:List SV}:D7 items r args (r.1 (k+1))=some (DS (items[k]? =some args) r.1 (k+2)):=Cn r.2 k args
section
variable {ρ σ:Type}
def lcy (pre:Prop)(run:ρ⊕σ)(exE:ρ→Ex)(outE:ρ→St)(outN:σ→St)(stp:St):LCon where
 α:=Option (ρ⊕σ)
 pre:=pre
 post:=fun|none=>True|some r=>r=run
 ex:=fun|none=>.ret|some (.inl x) =>exE x|some (.inr _) =>.normal
 out:=fun|none=>stp|some (.inl x) =>outE x|some (.inr s) =>outN s
def LCY (m:Nat)(ns:List NLoc)(js:List Nat)(D:Nat→σ→St)(step:Nat→σ→ρ⊕σ)(p:Nat→σ→Prop)(n:Nat)(s0:σ)(B:Prop)(exE:ρ→Ex)(outE:ρ→St)(stp:St)(st:St):LCon:=
 lcy (nW m ns js st (D 0 s0)∧B∧okI step p n 0 s0) (ap step n 0 s0) exE outE (D n) stp
def QQ (m:Nat)(ns:List NLoc)(js:List Nat)(D:Nat→σ→St)(step:Nat→σ→ρ⊕σ)(p:Nat→σ→Prop)(n:Nat)(s0:σ)(exE:ρ→Ex)(outE:ρ→St)(stp:St)(st:St):LCon:=
 lcy (nW m ns js st (D 0 s0)∧okI step p n 0 s0∧∀ s,ap step n 0 s0≠ .inr s) (ap step n 0 s0) exE outE (D n) stp
variable {m:Nat}{ns:List NLoc}{js:List Nat}{step:Nat→σ→ρ⊕σ}{p:Nat→σ→Prop}{n:Nat}{s0:σ}{B:Prop}{exE:ρ→Ex}{outE:ρ→St}{stp st:St}{Q:Ex→St→Prop}{D:Nat→σ→St}
theorem Bt {pre:Prop}{run:ρ⊕σ}{outN:σ→St}:mW Q (some (lcy pre run exE outE outN stp))=(pre∧(∀ x,run=.inl x→Q (exE x) (outE x))∧(∀ s,run=.inr s→Q .normal (outN s))∧Q .ret stp):=by
 apply propext
 constructor
 ·rintro⟨h1,h2⟩
  exact⟨h1,fun x hx=>h2 (some (.inl x)) hx.symm,fun s hs=>h2 (some (.inr s)) hs.symm,h2 none trivial⟩
 ·rintro⟨h1,h2,h3,h4⟩
  refine⟨h1,fun r hr=>?_⟩
  match r,hr with
  |none,_=>exact h4
  |some (.inl x),hr=>exact h2 x hr.symm
  |some (.inr s),hr=>exact h3 s hr.symm
@[go_sem] theorem Te:mW Q (some (LCY m ns js D step p n s0 B exE outE stp st))=((nW m ns js st (D 0 s0)∧B∧okI step p n 0 s0)∧(∀ x,ap step n 0 s0=.inl x→Q (exE x) (outE x))∧(∀ s,ap step n 0 s0=.inr s→Q .normal (D n s))∧Q .ret stp):=Bt
@[go_sem] theorem QR:mW Q (some (QQ m ns js D step p n s0 exE outE stp st))=((nW m ns js st (D 0 s0)∧okI step p n 0 s0∧∀ s,ap step n 0 s0≠ .inr s)∧(∀ x,ap step n 0 s0=.inl x→Q (exE x) (outE x))∧Q .ret stp):=by
 refine Bt.trans ?_
 apply propext
 constructor
 ·rintro⟨h1,h2,_,h4⟩;exact⟨h1,h2,h4⟩
 ·rintro⟨h1,h2,h4⟩;exact⟨h1,h2,fun s hs=>absurd hs (h1.2.2 s),h4⟩
def cY (step:Nat→σ→ρ⊕σ)(exE:ρ→Ex)(outE:ρ→St)(D:Nat→σ→St)(stp:St)(m id k:Nat)(s:σ):Ex→St→Prop
 | .normal,st=>mr D m k st (step k s)
 | .exit j,st=>ke exE outE m (bif Nat.beq j id then .normal else .exit j) st (step k s)
 | .ret,st=>ke exE outE m .ret st (step k s)∨gA stp m st
 | .pan x,st=>ke exE outE m (.pan x) st (step k s)
variable {id k j:Nat}{s:σ}{x:Value}{e e':Ex}
@[go_sem] theorem Tf:cY step exE outE D stp m id k s .normal st=mr D m k st (step k s):=(rfl)
@[go_sem] theorem Ww:cY step exE outE D stp m id k s (.exit j) st=ke exE outE m (bif Nat.beq j id then .normal else .exit j) st (step k s):=(rfl)
@[go_sem] theorem Xk:cY step exE outE D stp m id k s .ret st=(ke exE outE m .ret st (step k s)∨gA stp m st):=(rfl)
@[go_sem] theorem Xl:cY step exE outE D stp m id k s (.pan x) st=ke exE outE m (.pan x) st (step k s):=(rfl)
@[congr] theorem U3 {st':St}(h:st=st')(he:e=e'):cY step exE outE D stp m id k s e st=cY step exE outE D stp m id k s e' st':=by rw[h,he]
end
section
variable {P:Program}{ρ σ:Type}{ts:Tis}{G:Cons}{ro:Option Nat}{N:Nat}{id:Nat}{c:Code}{C:St→Option LCon}{m:Nat}{ns:List NLoc}{js:List Nat}{step:Nat→σ→ρ⊕σ}{p:Nat→σ→Prop}{n:Nat}{s0:σ}{exE:ρ→Ex}{outE:ρ→St}{D:Nat→σ→St}{stp:St}
theorem KH {n0:Nat}(hn0:n0=m){s:σ}{k:Nat}(hlt:k<n){I:Nat×σ→Prop}{μ:Nat×σ→Nat}{outN:σ→St}{pre:Prop}{run:ρ⊕σ}
  (hI:∀ s',step k s=.inr s'→I (k+1,s')∧μ (k+1,s') <μ (k,s)) (hx:∀ x,step k s=.inl x→run=.inl x):
  ∀ e st',cY step exE outE D stp m id k s e st'→pO (fun x:Nat×σ=>D x.1 x.2) I μ n0 (k,s) id (fun e st'=>∃ r js,(lcy pre run exE outE outN stp).post r∧(lcy pre run exE outE outN stp).ex r=e∧n0≤((lcy pre run exE outE outN stp).out r).h.length∧Sub js n0 st' ((lcy pre run exE outE outN stp).out r)) e st':=by
 subst hn0
 have hfin:∀ e st',ke exE outE n0 e st' (step k s)→∃ r js,(lcy pre run exE outE outN stp).post r∧(lcy pre run exE outE outN stp).ex r=e∧n0≤((lcy pre run exE outE outN stp).out r).h.length∧Sub js n0 st' ((lcy pre run exE outE outN stp).out r):=by
  intro e st' q
  cases hs:step k s with
  |inr s'=>rw[hs]at q;exact q.elim
  |inl x=>
   rw[hs]at q
   obtain⟨q2,js,q3,q4⟩:=q
   exact⟨some (.inl x),js,(hx x hs).symm,q2,q3,q4⟩
 intro e st' hq
 cases e with
 |normal=>
  change mr D n0 k st' (step k s)at hq
  cases hs:step k s with
  |inl x=>rw[hs]at hq;exact hq.elim
  |inr s'=>
   rw[hs]at hq
   obtain⟨js,q3,q4⟩:=hq
   obtain⟨i1,i2⟩:=hI s' hs
   exact⟨(k+1,s'),js,i1,i2,q3,q4⟩
 |exit j=>
  change ke exE outE n0 (bif Nat.beq j id then .normal else .exit j) st' (step k s)at hq
  show bif Nat.beq j id then _ else _
  cases hb:Nat.beq j id with
  |true=>rw[hb]at hq;exact hfin _ _ hq
  |false=>rw[hb]at hq;exact hfin _ _ hq
 |ret=>
  rcases hq with hq|hq
  ·exact hfin _ _ hq
  ·obtain⟨js,q3,q4⟩:=hq
   exact⟨none,js,trivial,rfl,q3,q4⟩
 |pan x=>exact hfin _ _ hq
theorem vg {B:Prop}(hm:P.follows .mixedOrders=true)(hts:ts.ok P)(hG:ConsOk P G)(hc:ci N c=true)(hC:∀ st,C st=some (LCY m ns js D step p n s0 B exE outE stp st))(M:Int)(hn:n=M.toNat)(hB:B→M<9223372036854775808)
  (h:B→∀ k s,k<n→p k s→IntKind.i64.wrap ((k:Int)+1)=((k+1:Nat):Int)→decide ((k:Int) <M)=true→∃ L,ay P ro N L c∧exec ts G L c (D k s) (cY step exE outE D stp m id k s))
  (h2:B→∀ s,decide ((n:Int) <M)=false→exec ts G L0 c (D n s) (cZ (D n s) m id)):iU P ro N id (.loop c) C:=by
 refine ru hm hts hG hc fun st lc hC' hp=>?_
 rw[hC st]at hC'
 cases hC'
 obtain⟨⟨hlen,hok,hle,hsub⟩,hB',h1⟩:=hp
 refine⟨Nat×σ,fun x=>D x.1 x.2,fun x=>x.1≤n∧okI step p (n - x.1) x.1 x.2∧ap step (n - x.1) x.1 x.2=ap step n 0 s0,fun x=>n - x.1,(0,s0),mkN ns st,js,⟨Nat.zero_le _,by simpa using h1,by simp⟩,t6 ns st st (.refl _) hok,by rw[hlen];exact hle,by rw[hlen];exact hsub,?_⟩
 rintro⟨k,s⟩ ⟨hk,hJ,hrun⟩
 simp only at hk hJ hrun
 rcases Nat.lt_or_ge k n with hlt|hge
 ·rw[show n - k=(n - k - 1)+1 by omega]at hrun hJ
  obtain⟨L,hl,hex⟩:=h hB' k s hlt hJ.1 (G_ (hn▸hlt) (hB hB')) (decide_eq_true (by omega))
  have hI:∀ s',step k s=.inr s'→okI step p (n - (k+1)) (k+1) s'∧ap step (n - (k+1)) (k+1) s'=ap step n 0 s0:=fun s' hs=>by
   have:=hJ.2 s' hs
   rw[show n - k - 1=n - (k+1) by omega]at this hrun
   simp only[ap,hs]at hrun
   exact⟨this,hrun⟩
  have hx:∀ x,step k s=.inl x→ap step n 0 s0=.inl x:=fun x hs=>by
   simp only[ap,hs]at hrun
   exact hrun.symm
  exact⟨L,_,hl,fun e st' q=>KH hlen hlt (fun s' hs=>⟨⟨hlt,hI s' hs⟩,by simp only;omega⟩) hx e st' q,hex⟩
 ·have hkn:k=n:=by omega
  subst hkn
  have hex:=h2 hB' s (by rw[decide_eq_false_iff_not];omega)
  refine⟨L0,_,ak c,fun e st' hq=>?_,hex⟩
  simp only[Nat.sub_self,ap]at hrun
  cases e with
  |exit j=>
   change bif Nat.beq j id then gA (D k s) m st' else False at hq
   show bif Nat.beq j id then _ else _
   cases hb:Nat.beq j id with
   |true=>
    rw[hb]at hq
    obtain⟨js,q3,q4⟩:=hq
    exact⟨some (.inr s),js,hrun,rfl,by rw[hlen];exact q3,by rw[hlen];exact q4⟩
   |false=>rw[hb]at hq;exact hq.elim
  |_=>exact hq.elim
theorem Iy (hm:P.follows .mixedOrders=true)(hts:ts.ok P)(hG:ConsOk P G)(hc:ci N c=true)(hC:∀ st,C st=some (QQ m ns js D step p n s0 exE outE stp st))
  (h:∀ k s,p k s→∃ L,ay P ro N L c∧exec ts G L c (D k s) (cY step exE outE D stp m id k s)):iU P ro N id (.loop c) C:=by
 refine ru hm hts hG hc fun st lc hC' hp=>?_
 rw[hC st]at hC'
 cases hC'
 obtain⟨⟨hlen,hok,hle,hsub⟩,h1,hno⟩:=hp
 refine⟨Nat×σ,fun x=>D x.1 x.2,fun x=>x.1≤n∧okI step p (n - x.1) x.1 x.2∧ap step (n - x.1) x.1 x.2=ap step n 0 s0,fun x=>n - x.1,(0,s0),mkN ns st,js,⟨Nat.zero_le _,by simpa using h1,by simp⟩,t6 ns st st (.refl _) hok,by rw[hlen];exact hle,by rw[hlen];exact hsub,?_⟩
 rintro⟨k,s⟩ ⟨hk,hJ,hrun⟩
 simp only at hk hJ hrun
 rcases Nat.lt_or_ge k n with hlt|hge
 ·rw[show n - k=(n - k - 1)+1 by omega]at hrun hJ
  obtain⟨L,hl,hex⟩:=h k s hJ.1
  have hI:∀ s',step k s=.inr s'→okI step p (n - (k+1)) (k+1) s'∧ap step (n - (k+1)) (k+1) s'=ap step n 0 s0:=fun s' hs=>by
   have:=hJ.2 s' hs
   rw[show n - k - 1=n - (k+1) by omega]at this hrun
   simp only[ap,hs]at hrun
   exact⟨this,hrun⟩
  have hx:∀ x,step k s=.inl x→ap step n 0 s0=.inl x:=fun x hs=>by
   simp only[ap,hs]at hrun
   exact hrun.symm
  exact⟨L,_,hl,fun e st' q=>KH hlen hlt (fun s' hs=>⟨⟨hlt,hI s' hs⟩,by simp only;omega⟩) hx e st' q,hex⟩
 ·have hkn:k=n:=by omega
  subst hkn
  simp only[Nat.sub_self,ap]at hrun
  exact absurd hrun.symm (hno s)
end
def mw (n:Nat):List Ob:=List.replicate n .dead
def D8 (items:List (List SV))(r:RF)(n:Nat):Ex→St→Prop
 | .normal,st=>gA ⟨[],.ab (r.1 0)::mw n⟩ (n+1) ⟨[],st.h⟩∨gA ⟨[],.ab (r.1 (items.length+1))::mw n⟩ (n+1) ⟨[],st.h⟩
 | .ret,st=>gA ⟨[],.ab (r.1 0)::mw n⟩ (n+1) ⟨[],st.h⟩∨gA ⟨[],.ab (r.1 (items.length+1))::mw n⟩ (n+1) ⟨[],st.h⟩
 |_,_=>False
section
variable {items:List (List SV)}{r:RF}{n:Nat}{st:St}{e e':Ex}
@[go_sem] theorem NR:D8 items r n .normal st=(gA ⟨[],.ab (r.1 0)::mw n⟩ (n+1) ⟨[],st.h⟩∨gA ⟨[],.ab (r.1 (items.length+1))::mw n⟩ (n+1) ⟨[],st.h⟩):=(rfl)
@[go_sem] theorem Tg:D8 items r n .ret st=(gA ⟨[],.ab (r.1 0)::mw n⟩ (n+1) ⟨[],st.h⟩∨gA ⟨[],.ab (r.1 (items.length+1))::mw n⟩ (n+1) ⟨[],st.h⟩):=(rfl)
@[congr] theorem O0 {st':St}(h:st=st')(he:e=e'):D8 items r n e st=D8 items r n e' st':=by rw[h,he]
@[go_sem] theorem Wx:mw 0=[]:=(rfl)
@[go_sem] theorem Wy:mw 1=[.dead]:=(rfl)
@[go_sem] theorem Wz:mw 2=[.dead,.dead]:=(rfl)
@[go_sem] theorem WA:mw 3=[.dead,.dead,.dead]:=(rfl)
@[go_sem] theorem WB:mw 4=[.dead,.dead,.dead,.dead]:=(rfl)
end
theorem D9 {js:List Nat}{n0:Nat}{h h':List Ob}(q:Sub js n0 ⟨[],h⟩ ⟨[],h'⟩):Sub js n0 ⟨[(0,.tup [])],h⟩ ⟨[(0,.tup [])],h'⟩:=by
 refine⟨q.1,?_,q.2.2⟩
 simp only[HU,lk]
 exact⟨⟨rfl,rfl⟩,trivial⟩
open Classical in
theorem Gl {P:Program} {ts:Tis} {G:RF→Cons} (hm:P.follows .mixedOrders=true) (hts:ts.ok P) {f:FuncId} {fn:Func} {c:Code} (hf:P.funcs[f]? =some fn) (hb:fn.body=some c) (hname:(fn.name== "runtime.NumGoroutine")=false) (hc:ci fn.ntmps c=true) (hr:fn.results.toList=[])
  {items:List (List SV)} {mk:SV→List SV} {hs:List Ob} {n:Nat} (hn:hs.length=n)
  (h:∀ r:RF,YOk P (D7 items r)→ConsOk P (G r)∧(mk (.os 0)).length≤fn.ntmps∧∃ L,ay P none fn.ntmps L c∧exec ts (G r) L c ⟨jT 0 (mk (.os 0)),.ab (r.1 1)::hs⟩ (D8 items r n))
  (he:∀ (args:Array Value) (w:World),(callFunc f args).run P w=.ok (.enter f args) w):Aw P f mk hs items:=by
 refine J0 (fun r0 hr0 hy=>?_) he
 obtain⟨hG,h1,L,h2,h3⟩:=h ⟨r0,hr0⟩ hy
 refine⟨fun l o=>if l=mk (.os 0)∧o=.ab (r0 1)::hs then some { α:=Bool,pre:=True,post:=fun _=>True,res:=fun b=>.ret (.tup []) (.ab (r0 (if b then items.length+1 else 0))::mw n)}else none,?_,_,if_pos ⟨rfl,rfl⟩,trivial,fun b _=>⟨_,_,_,rfl,by cases b <;>simp⟩⟩
 refine DP hm hts hG hf hb hname hc fun l o con hC _=>?_
 split at hC
 rotate_left
 ·cases hC
 rename_i hlo
 obtain⟨rfl,rfl⟩:=hlo
 cases hC
 refine⟨h1,L,_,h2,fun e st hq=>?_,h3⟩
 have key:∀ st:St,(gA ⟨[],.ab (r0 0)::mw n⟩ (n+1) ⟨[],st.h⟩∨gA ⟨[],.ab (r0 (items.length+1))::mw n⟩ (n+1) ⟨[],st.h⟩)→yu (Ob.ab (r0 1)::hs).length { α:=Bool,pre:=True,post:=fun _=>True,res:=fun b=>.ret (.tup []) (.ab (r0 (if b then items.length+1 else 0))::mw n)} (kS (jF ts st fn.results.toList)) st.h:=fun st q=>by
  rw[hr]
  show ∃ r s' h' js,_
  rcases q with⟨js,q1,q2⟩ | ⟨js,q1,q2⟩
  ·exact⟨false,_,_,js,trivial,rfl,by rw[List.length_cons,hn];exact q1,by rw[List.length_cons,hn];exact D9 q2⟩
  ·exact⟨true,_,_,js,trivial,rfl,by rw[List.length_cons,hn];exact q1,by rw[List.length_cons,hn];exact D9 q2⟩
 cases e with
 |normal=>exact key st hq
 |ret=>exact key st hq
 |exit j=>exact hq.elim
 |pan x=>exact hq.elim
section
variable {ρ σ τ:Type}
theorem wx {step:τ→σ→ρ⊕σ}:∀ {a b:List τ} {s s':σ},cI step a s=.inr s'→cI step (a++b) s=cI step b s'
 | [],_,_,_,h=>by simp only[cI,Sum.inr.injEq]at h;subst h;rfl
 |x::a,b,s,s',h=>by
  simp only[List.cons_append,cI]at h ⊢
  cases hs:step x s with
  |inl y=>rw[hs]at h;cases h
  |inr s1=>rw[hs]at h;simp only at h ⊢;exact wx h
theorem D_ {step:τ→σ→ρ⊕σ}{p:τ→σ→Prop}:∀ {a b:List τ} {s s':σ},cI step a s=.inr s'→okL step p (a++b) s→okL step p b s'
 | [],_,_,_,h,hk=>by simp only[cI,Sum.inr.injEq]at h;subst h;exact hk
 |x::a,b,s,s',h,hk=>by
  simp only[List.cons_append,cI]at h hk
  cases hs:step x s with
  |inl y=>rw[hs]at h;cases h
  |inr s1=>rw[hs]at h;exact D_ h (hk.2 s1 hs)
def LCP (m:Nat)(ns:List NLoc)(js:List Nat)(D:List Nat→Option Nat→σ→St)(step:τ→σ→ρ⊕σ)(p:τ→σ→Prop)(l:List τ)(s0:σ)(exE:ρ→Ex)(outE:ρ→St)(outN:σ→St)(st:St):LCon where
 α:=ρ⊕σ
 pre:=nW m ns js st (D (List.range l.length) none s0)∧∀ L,L.Perm l→okL step p L s0
 post:=fun r=>∃ L,L.Perm l∧cI step L s0=r
 ex:=fun| .inl x=>exE x| .inr _=>.normal
 out:=fun| .inl x=>outE x| .inr s=>outN s
variable {m:Nat}{ns:List NLoc}{js:List Nat}{step:τ→σ→ρ⊕σ}{p:τ→σ→Prop}{l:List τ}{s0:σ}{exE:ρ→Ex}{outE:ρ→St}{outN:σ→St}{st:St}{Q:Ex→St→Prop}{D:List Nat→Option Nat→σ→St}
@[go_sem] theorem Th:mW Q (some (LCP m ns js D step p l s0 exE outE outN st))=((nW m ns js st (D (List.range l.length) none s0)∧∀ L,L.Perm l→okL step p L s0)∧∀ L,L.Perm l→(∀ x,cI step L s0=.inl x→Q (exE x) (outE x))∧∀ s,cI step L s0=.inr s→Q .normal (outN s)):=by
 apply propext
 constructor
 ·rintro⟨h1,h2⟩
  exact⟨h1,fun L hL=>⟨fun x hx=>h2 (.inl x) ⟨L,hL,hx⟩,fun s hs=>h2 (.inr s) ⟨L,hL,hs⟩⟩⟩
 ·rintro⟨h1,h2⟩
  refine⟨h1,fun r ⟨L,hL,hr⟩ =>?_⟩
  cases r with
  |inl x=>exact(h2 L hL).1 x hr
  |inr s=>exact(h2 L hL).2 s hr
variable {P:Program}{ts:Tis}{G:Cons}{ro:Option Nat}{N id:Nat}{c:Code}{C:St→Option LCon}
theorem KI (d:τ)(it:Nat)(hm:P.follows .mixedOrders=true)(hts:ts.ok P)(hG:ConsOk P G)(hc:ci N c=true)(hC:∀ st,C st=some (LCP m ns js D step p l s0 exE outE outN st))
  (h:∀ left cur s,(∀ j,j∈left→j<l.length∧p (l.getD j d) s)→∃ L,ay P ro N L c∧exec ts G L c (D left cur s) (cM step l d exE outE outN D m id it left s)):iU P ro N id (.loop c) C:=by
 refine ru hm hts hG hc fun st lc hC' hp=>?_
 rw[hC st]at hC'
 cases hC'
 obtain⟨⟨hlen,hok,hle,hsub⟩,hO⟩:=hp
 subst hlen
 have hfix:∀ q:List Nat,q.Perm (List.range l.length)→(q.map fun j=>l.getD j d).Perm l:=fun q hq=>by
  have:=hq.map (fun j=>l.getD j d)
  rwa[zb]at this
 refine⟨List Nat×Option Nat×σ,fun x=>D x.1 x.2.1 x.2.2,fun x=>∃ q:List Nat,(q++x.1).Perm (List.range l.length)∧cI step (q.map fun j=>l.getD j d) s0=.inr x.2.2,fun x=>x.1.length,(List.range l.length,none,s0),mkN ns st,js,⟨[],.refl _,rfl⟩,t6 ns st st (.refl _) hok,hle,hsub,?_⟩
 rintro⟨left,cur,s⟩ ⟨q,hq,hrun⟩
 simp only at hq hrun
 have hmem:∀ j,j∈left→(q++j::left.erase j).Perm (List.range l.length):=fun j hj=>((List.perm_cons_erase hj).symm.append_left q).trans hq
 have hp0:∀ j,j∈left→j<l.length∧p (l.getD j d) s:=fun j hj=>by
  refine⟨List.mem_range.1 (hq.mem_iff.1 (List.mem_append_right _ hj)),?_⟩
  have:=hO _ (hfix _ (hmem j hj))
  rw[List.map_append]at this
  exact(D_ hrun this).1
 obtain⟨L,hl,hex⟩:=h left cur s hp0
 refine⟨L,_,hl,?_,hex⟩
 have hfin:∀ e st' o,exC step l d exE outE st.h.length left s e st' o→∃ r js,(LCP st.h.length ns js D step p l s0 exE outE outN st).post r∧(LCP st.h.length ns js D step p l s0 exE outE outN st).ex r=e∧st.h.length≤((LCP st.h.length ns js D step p l s0 exE outE outN st).out r).h.length∧Sub js st.h.length st' ((LCP st.h.length ns js D step p l s0 exE outE outN st).out r):=by
  intro e st' o z
  cases o with
  |none=>exact z.elim
  |some j=>
   obtain⟨hj,z⟩:=z
   cases hs:step (l.getD j d) s with
   |inr s'=>rw[hs]at z;exact z.elim
   |inl x=>
    rw[hs]at z
    obtain⟨q2,js2,q3,q4⟩:=z
    refine⟨.inl x,js2,⟨_,hfix _ (hmem j hj),?_⟩,q2,q3,q4⟩
    rw[List.map_append,wx hrun]
    simp only[List.map_cons,cI,hs]
 intro e st' hz
 cases e with
 |normal=>
  change nxC step l d D st.h.length left s st' (tZ (av st'.h it))at hz
  cases ho:tZ (av st'.h it)with
  |none=>rw[ho]at hz;exact hz.elim
  |some j=>
   rw[ho]at hz
   obtain⟨hj,hz⟩:=hz
   cases hs:step (l.getD j d) s with
   |inl x=>rw[hs]at hz;exact hz.elim
   |inr s'=>
    rw[hs]at hz
    obtain⟨js2,q3,q4⟩:=hz
    refine⟨(left.erase j,some j,s'),js2,⟨q++[j],?_,?_⟩,?_,q3,q4⟩
    ·rw[List.append_assoc];exact hmem j hj
    ·rw[List.map_append,wx hrun]
     simp only[List.map_cons,List.map_nil,cI,hs]
    ·have:=List.length_pos_of_mem hj
     simp only[List.length_erase_of_mem hj];omega
 |exit j=>
  have hz':(bif Nat.beq j id then(left=[]→gA (outN s) st.h.length st')∧(left≠[]→exC step l d exE outE st.h.length left s .normal st' (tZ (av st'.h it)))else exC step l d exE outE st.h.length left s (.exit j) st' (tZ (av st'.h it))):=hz
  show bif Nat.beq j id then _ else _
  cases hb:Nat.beq j id with
  |true=>
   rw[hb]at hz'
   simp only[cond_true]at hz' ⊢
   by_cases hlt:left=[]
   ·obtain⟨js2,q3,q4⟩:=hz'.1 hlt
    refine⟨.inr s,js2,⟨_,hfix q (by rw[hlt,List.append_nil]at hq;exact hq),hrun⟩,rfl,q3,q4⟩
   ·exact hfin _ _ _ (hz'.2 hlt)
  |false=>
   rw[hb]at hz'
   exact hfin _ _ _ hz'
 |ret=>exact hfin _ _ _ hz
 |pan x=>exact hfin _ _ _ hz
end
theorem fkY {st2 st:St}{n0:Nat}(js:List Nat)(h1:n0≤st2.h.length:=by(first|(show _≤_;decide) |(simp only[*,go_sem,Nat.reduceBEq,Nat.reduceLeDiff,Nat.reduceAdd,Nat.reduceSub,Nat.reduceMul,Int.reduceLE,Int.reduceLT,Int.reduceToNat,Int.reduceNeg,reduceCtorEq];done) |(simp only[*,go_sem,Nat.reduceBEq,Nat.reduceLeDiff,Nat.reduceAdd,Nat.reduceSub,Nat.reduceMul,Int.reduceLE,Int.reduceLT,Int.reduceToNat,Int.reduceNeg,reduceCtorEq];(repeat' (first|with_reducible refine And.intro ?_ ?_|((with_reducible show _≠_);first|assumption|omega|(simp_all [aX,bf];done) |grind) |with_reducible intro _)) <;>(first|rfl|decide|assumption|omega|(simp_all [aX,bf];done) |fail))))(h2:Sub js n0 st st2:=by(first|(show _≤_;decide) |(simp only[*,go_sem,Nat.reduceBEq,Nat.reduceLeDiff,Nat.reduceAdd,Nat.reduceSub,Nat.reduceMul,Int.reduceLE,Int.reduceLT,Int.reduceToNat,Int.reduceNeg,reduceCtorEq];done) |(simp only[*,go_sem,Nat.reduceBEq,Nat.reduceLeDiff,Nat.reduceAdd,Nat.reduceSub,Nat.reduceMul,Int.reduceLE,Int.reduceLT,Int.reduceToNat,Int.reduceNeg,reduceCtorEq];(repeat' (first|with_reducible refine And.intro ?_ ?_|((with_reducible show _≠_);first|assumption|omega|(simp_all [aX,bf];done) |grind) |with_reducible intro _)) <;>(first|rfl|decide|assumption|omega|(simp_all [aX,bf];done) |fail)))):gA st2 n0 st:=Cp js h1 h2
theorem QS {α:Type 1}{G:List SV→α→Prop}{X:SV}{k:List SV→Option α}(h:∀ l c,k l=some c→G (X::l) c):∀ l c,pQ X k l=some c→G l c:=fun l c hc=>by
 obtain⟨r,rfl,h1⟩:=wi hc;exact h r c h1
theorem clP {p:Prop}(h:p:=by((repeat' (first|with_reducible refine And.intro ?_ ?_|((with_reducible show _≠_);first|assumption|omega|(simp_all [aX,bf];done) |grind) |with_reducible intro _)) <;>(first|done|exact Empty.elim ‹Empty› |assumption|rfl|omega|(simp_all only[aX,bf];done) |(simp_all only[aX,bf];grind)))):p:=h
end Go.Sx
end
