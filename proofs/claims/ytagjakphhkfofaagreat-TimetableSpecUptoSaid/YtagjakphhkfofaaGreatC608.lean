/- Part of the proof that the law TimetableSpec returns true and leaves its arguments as they were, for all arguments of bulk at most 1048576 (the Upto form). -/
import Derived.Test.YtagjakphhkfofaaGreatC607
import Derived.Sort.Statements
import Derived.Shelf.SlSortCmp.Insertion
import Derived.Calls
import Derived.Shelf.SlSortCmp.NoneTotal
import Derived.Ground.SlsfProg
import Derived.Test.YtagjakphhkfofaaGreatProg
import Derived.Test.YtagjakphhkfofaaGreatC606
set_option linter.all false
set_option maxHeartbeats 4000000
section
namespace Go.Sx
open Go.Proofs
set_option maxRecDepth 100000
set_option linter.unusedSimpArgs false
theorem l7 {p:Prop}(h:p:=by simp only[go_sem,Nat.reduceBEq,Nat.reduceLeDiff,Nat.reduceLT,decide_true,Nat.reduceAdd,Nat.reduceSub,Nat.reduceMul,Int.reduceLE,Int.reduceLT,Int.reduceToNat,Int.reduceNeg,reduceCtorEq,hc,hw];all_goals exact yF):p:=h
theorem l8 {p:Prop}(h:p:=by simp only[go_sem,Nat.reduceBEq,Nat.reduceLeDiff,Nat.reduceLT,decide_true,Nat.reduceAdd,Nat.reduceSub,Nat.reduceMul,Int.reduceLE,Int.reduceLT,Int.reduceToNat,Int.reduceNeg,reduceCtorEq,hc];all_goals exact yF):p:=h
@[go_sem] def co (a0:District)(a1:List Order)(k_0:Nat)(s_0:Unit):Unit⊕Unit:=(bif(a1.getD k_0 (default:Order)).outlet then(bif(((((((decide ((a1.getD k_0 (default:Order)).hour<0)) ||(decide ((a1.getD k_0 (default:Order)).hour≥a0.hours))) ||(decide ((a1.getD k_0 (default:Order)).index<0))) ||(decide ((a1.getD k_0 (default:Order)).index≥(a0.farms.length:Int)))) ||(decide ((a1.getD k_0 (default:Order)).litres<1))) ||(decide ((a1.getD k_0 (default:Order)).litres > 1073741824))) ||((decide ((k_0:Int) > 0))&&(decide ((aG (a1.getD (Int.toNat (IntKind.i64.wrap ((k_0:Int) - 1))) (default:Order)) (a1.getD k_0 (default:Order)))≥0))))then .inl ()else .inr ())else(bif(((((((decide ((a1.getD k_0 (default:Order)).hour<0)) ||(decide ((a1.getD k_0 (default:Order)).hour≥a0.hours))) ||(decide ((a1.getD k_0 (default:Order)).index<0))) ||(decide ((a1.getD k_0 (default:Order)).index≥(a0.reaches.length:Int)))) ||(decide ((a1.getD k_0 (default:Order)).litres<1))) ||(decide ((a1.getD k_0 (default:Order)).litres > 1073741824))) ||((decide ((k_0:Int) > 0))&&(decide ((aG (a1.getD (Int.toNat (IntKind.i64.wrap ((k_0:Int) - 1))) (default:Order)) (a1.getD k_0 (default:Order)))≥0))))then .inl ()else .inr ()))
def gh (a0:District)(a1:List Order)(k_0:Nat)(s_0:Unit):Prop:=(a0.reaches.length≤ba→(((a1.getD k_0 (default:Order)).outlet=true→(a0.farms.length≤ba→(((((((decide ((a1.getD k_0 (default:Order)).hour<0)) ||(decide ((a1.getD k_0 (default:Order)).hour≥a0.hours))) ||(decide ((a1.getD k_0 (default:Order)).index<0))) ||(decide ((a1.getD k_0 (default:Order)).index≥(a0.farms.length:Int)))) ||(decide ((a1.getD k_0 (default:Order)).litres<1))) ||(decide ((a1.getD k_0 (default:Order)).litres > 1073741824)))=false→((decide ((k_0:Int) > 0))=true→(0≤(IntKind.i64.wrap ((k_0:Int) - 1))∧(IntKind.i64.wrap ((k_0:Int) - 1)) < (a1.length:Int))))))∧((a1.getD k_0 (default:Order)).outlet=false→(((((((decide ((a1.getD k_0 (default:Order)).hour<0)) ||(decide ((a1.getD k_0 (default:Order)).hour≥a0.hours))) ||(decide ((a1.getD k_0 (default:Order)).index<0))) ||(decide ((a1.getD k_0 (default:Order)).index≥(a0.reaches.length:Int)))) ||(decide ((a1.getD k_0 (default:Order)).litres<1))) ||(decide ((a1.getD k_0 (default:Order)).litres > 1073741824)))=false→((decide ((k_0:Int) > 0))=true→(0≤(IntKind.i64.wrap ((k_0:Int) - 1))∧(IntKind.i64.wrap ((k_0:Int) - 1)) < (a1.length:Int)))))))
def bw (a0:District)(a1:List Order):Int:=(bif((br a0) !=0)then(br a0)else(bif(decide ((a1.length:Int) > 4096))then 2 else(match aw (co a0 a1) a1.length 0 ()with| .inl x_0_0=>220| .inr s_0=>0)))
def jc (a0:District)(a1:List Order):Prop:=(((br a0) !=0)=false→(a1.length≤ba→((decide ((a1.length:Int) > 4096))=false→(a1.length≤ba→okI (co a0 a1) (gh a0 a1) a1.length 0 ()))))
@[go_sem] def p9:List SV→Option Con:=(pD .district fun a0=>(pR .order fun a1=>(pE (.det (jc a0 a1) (.v (.int .i64 (bw a0 a1)))))))
theorem vM:FnOk Tryz.prog 25 p9:=by
 have hG:ConsOk Tryz.prog (mkG [(42,fun l=>nB (ci [.st .district] l)),(44,cB),(121,fU)] []):=aC (cgc (p5.norm [.st .district]) (cgc nE (cgc p8 cg0))) cg0
 refine aI [.o] mixed ax hG (fn:=Tryz.f25) (c:=ae Tryz.f25) (by kernel_rfl) (by kernel_rfl) (by kernel_rfl) (by kernel_rfl) (aN fun a0=>(cg fun a1=>(aB (fun hp=>?_))))
 dsimp only[aD]at hp
 unfold jc at hp
 refine⟨Nat.le_of_ble_eq_true rfl,(fun id st=>bif Nat.beq id 0 then some (LCR (ρ:=Unit) (σ:=Unit) 1 [] [0] (fun k_0 s_0=>⟨[(1,.rs .order a1),(2,.ptr 0 0),(5,.fn 121 [] [.ep [.ls [.fn 79 [] [],.fn 80 [] [],.fn 81 [] []]] 0]),(18,.rs .order a1),(19,.v (.int .i64 (a1.length:Int))),(20,.v (.int .i64 (k_0:Int)))],[.cells (cellsOf .district a0)]⟩) (co a0 a1) (gh a0 a1) a1.length () (a1.length≤ba) (fun _=>.ret) (fun x_0_0=>⟨[(4,.v (.int .i64 220))],[.dead]⟩) st)else none),?_,?_⟩
 ·unfold ae Tryz.f25
  simp only[az,true_and,and_true]
  ·refine dy mixed ax hG (by kernel_rfl) (fun _=>rfl) (a1.length:Int) rfl g6 (fun hb0 k_0 s_0 hlt0 hq0 hw hc=>⟨L0,aj _,?_⟩) (fun hb0 s_0 hc=>?_)
   ·unfold gh at hq0
    try simp only[hw,Int.toNat_natCast]at hq0
    exact ff
   ·exact fg
 ·unfold ae Tryz.f25
  try unfold bw
  simp only[go_sem,Nat.reduceBEq,Nat.reduceLeDiff,Nat.reduceLT,decide_true,Nat.reduceAdd,Nat.reduceSub,Nat.reduceMul,Int.reduceLE,Int.reduceLT,Int.reduceToNat,Int.reduceNeg,reduceCtorEq,cB,fU,if_true]
  all_goals exact cl
def bp (d:District)(l_:List Order):Int:=(bif(((bw d l_) ==0)&&(decide ((IntKind.i64.wrap ((d.reaches.length:Int)*d.hours)) > 1024)))then 2 else(bw d l_))
def ip (d:District)(l_:List Order):Prop:=(jc d l_)
@[go_sem] def o5:List SV→Option Con:=(pD .district fun d=>(pR .order fun l_=>(pE (.det (ip d l_) (.v (.int .i64 (bp d l_)))))))
theorem uu:FnOk Tryz.prog 93 o5:=by
 have hG:ConsOk Tryz.prog (mkG [(25,fun l=>p9 (ci [.st .district,.sl .order] l))] []):=aC (cgc (vM.norm [.st .district,.sl .order]) cg0) cg0
 refine aI [.o] mixed ax hG (fn:=Tryz.f93) (c:=ae Tryz.f93) (by kernel_rfl) (by kernel_rfl) (by kernel_rfl) (by kernel_rfl) (aN fun d=>(cg fun l_=>(aB (fun hp=>?_))))
 dsimp only[aD]at hp
 unfold ip at hp
 refine⟨Nat.le_of_ble_eq_true rfl,L0,aj _,?_⟩
 ·unfold ae Tryz.f93
  try unfold bp
  simp only[go_sem,Nat.reduceBEq,Nat.reduceLeDiff,Nat.reduceLT,decide_true,Nat.reduceAdd,Nat.reduceSub,Nat.reduceMul,Int.reduceLE,Int.reduceLT,Int.reduceToNat,Int.reduceNeg,reduceCtorEq]
  all_goals exact cl
@[go_sem] def mw (l_:List Int)(k_0:Nat)(s_0:Unit):Int⊕Unit:=(bif((l_.getD k_0 (0:Int)) !=0)then .inl (l_.getD k_0 (0:Int))else .inr ())
def jZ (l_:List Int):Int:=(match aw (mw l_) l_.length 0 ()with| .inl x_0_0=>x_0_0| .inr s_0=>0)
@[go_sem] def qY:List SV→Option Con:=(pR .int fun l_=>(pE (.det True (.v (.int .i64 (jZ l_))))))
theorem wW:FnOk Tryz.prog 77 qY:=by
 have hG:ConsOk Tryz.prog (mkG [] []):=aC cg0 cg0
 refine aI [.o] mixed ax hG (fn:=Tryz.f77) (c:=ae Tryz.f77) (by kernel_rfl) (by kernel_rfl) (by kernel_rfl) (by kernel_rfl) (cg fun l_=>(aB (fun hp=>?_)))
 dsimp only[aD]at hp
 refine⟨Nat.le_of_ble_eq_true rfl,(fun id st=>bif Nat.beq id 0 then some (LCR (ρ:=Int) (σ:=Unit) 0 [] [] (fun k_0 s_0=>⟨[(5,.rs .int l_),(6,.v (.int .i64 (l_.length:Int))),(7,.v (.int .i64 (k_0:Int)))],[]⟩) (mw l_) pT l_.length () (l_.length≤ba) (fun _=>.ret) (fun x_0_0=>⟨[(2,.v (.int .i64 x_0_0))],[]⟩) st)else none),?_,?_⟩
 ·unfold ae Tryz.f77
  simp only[az,true_and,and_true]
  ·refine dy mixed ax hG (by kernel_rfl) (fun _=>rfl) (l_.length:Int) rfl g6 (fun hb0 k_0 s_0 hlt0 _ hw hc=>⟨L0,aj _,?_⟩) (fun hb0 s_0 hc=>?_)
   ·exact l7
   ·exact l8
 ·unfold ae Tryz.f77
  try unfold jZ
  simp only[go_sem,Nat.reduceBEq,Nat.reduceLeDiff,Nat.reduceLT,decide_true,Nat.reduceAdd,Nat.reduceSub,Nat.reduceMul,Int.reduceLE,Int.reduceLT,Int.reduceToNat,Int.reduceNeg,reduceCtorEq]
  all_goals exact cl
def iq (a:Claim)(b:Claim):Int:=(jZ ([(aO a.hour b.hour),(aO a.rank b.rank),(aO a.right b.right),(aO a.farm b.farm)]))
@[go_sem] def qZ:List SV→Option Con:=(pD .claim fun a=>(pD .claim fun b=>(pE (.det True (.v (.int .i64 (iq a b)))))))
theorem wX:FnOk Tryz.prog 43 qZ:=by
 have hG:ConsOk Tryz.prog (mkG [(70,c6),(77,fun l=>qY (ci [.sl .int] l))] []):=aC (cgc dD (cgc (wW.norm [.sl .int]) cg0)) cg0
 refine aI [.o] mixed ax hG (fn:=Tryz.f43) (c:=ae Tryz.f43) (by kernel_rfl) (by kernel_rfl) (by kernel_rfl) (by kernel_rfl) (aN fun a=>(aN fun b=>(aB (fun hp=>?_))))
 dsimp only[aD]at hp
 refine⟨Nat.le_of_ble_eq_true rfl,L0,aj _,?_⟩
 ·unfold ae Tryz.f43
  try unfold iq
  simp only[go_sem,Nat.reduceBEq,Nat.reduceLeDiff,Nat.reduceLT,decide_true,Nat.reduceAdd,Nat.reduceSub,Nat.reduceMul,Int.reduceLE,Int.reduceLT,Int.reduceToNat,Int.reduceNeg,reduceCtorEq]
  all_goals exact cl
@[go_sem] def dh (a0:District)(a1:List Claim)(k_0:Nat)(s_0:Unit):Unit⊕Unit:=(bif((((!((((((((decide ((a1.getD k_0 (default:Claim)).right≥0))&&(decide ((a1.getD k_0 (default:Claim)).right< (a0.rights.length:Int))))&&(decide ((a1.getD k_0 (default:Claim)).farm≥0)))&&(decide ((a1.getD k_0 (default:Claim)).farm< (a0.farms.length:Int))))&&(decide ((a1.getD k_0 (default:Claim)).hour≥0)))&&(decide ((a1.getD k_0 (default:Claim)).hour<a0.hours)))&&(decide ((a1.getD k_0 (default:Claim)).litres≥1)))&&(decide ((a1.getD k_0 (default:Claim)).litres≤1073741824)))) ||((a0.rights.getD (Int.toNat ((a1.getD k_0 (default:Claim)).right)) (default:Right)).kind !=1)) ||((a0.rights.getD (Int.toNat ((a1.getD k_0 (default:Claim)).right)) (default:Right)).rank !=(a1.getD k_0 (default:Claim)).rank)) ||((decide ((k_0:Int) > 0))&&(decide ((iq (a1.getD (Int.toNat (IntKind.i64.wrap ((k_0:Int) - 1))) (default:Claim)) (a1.getD k_0 (default:Claim)))≥0))))then .inl ()else .inr ())
def gU (a0:District)(a1:List Claim)(k_0:Nat)(s_0:Unit):Prop:=(((!((((((((decide ((a1.getD k_0 (default:Claim)).right≥0))&&(decide ((a1.getD k_0 (default:Claim)).right< (a0.rights.length:Int))))&&(decide ((a1.getD k_0 (default:Claim)).farm≥0)))&&(decide ((a1.getD k_0 (default:Claim)).farm< (a0.farms.length:Int))))&&(decide ((a1.getD k_0 (default:Claim)).hour≥0)))&&(decide ((a1.getD k_0 (default:Claim)).hour<a0.hours)))&&(decide ((a1.getD k_0 (default:Claim)).litres≥1)))&&(decide ((a1.getD k_0 (default:Claim)).litres≤1073741824))))=false→(0≤(a1.getD k_0 (default:Claim)).right∧(a1.getD k_0 (default:Claim)).right< (a0.rights.length:Int)))∧((((!((((((((decide ((a1.getD k_0 (default:Claim)).right≥0))&&(decide ((a1.getD k_0 (default:Claim)).right< (a0.rights.length:Int))))&&(decide ((a1.getD k_0 (default:Claim)).farm≥0)))&&(decide ((a1.getD k_0 (default:Claim)).farm< (a0.farms.length:Int))))&&(decide ((a1.getD k_0 (default:Claim)).hour≥0)))&&(decide ((a1.getD k_0 (default:Claim)).hour<a0.hours)))&&(decide ((a1.getD k_0 (default:Claim)).litres≥1)))&&(decide ((a1.getD k_0 (default:Claim)).litres≤1073741824)))) ||((a0.rights.getD (Int.toNat ((a1.getD k_0 (default:Claim)).right)) (default:Right)).kind !=1))=false→(0≤(a1.getD k_0 (default:Claim)).right∧(a1.getD k_0 (default:Claim)).right< (a0.rights.length:Int)))∧((((!((((((((decide ((a1.getD k_0 (default:Claim)).right≥0))&&(decide ((a1.getD k_0 (default:Claim)).right< (a0.rights.length:Int))))&&(decide ((a1.getD k_0 (default:Claim)).farm≥0)))&&(decide ((a1.getD k_0 (default:Claim)).farm< (a0.farms.length:Int))))&&(decide ((a1.getD k_0 (default:Claim)).hour≥0)))&&(decide ((a1.getD k_0 (default:Claim)).hour<a0.hours)))&&(decide ((a1.getD k_0 (default:Claim)).litres≥1)))&&(decide ((a1.getD k_0 (default:Claim)).litres≤1073741824)))) ||((a0.rights.getD (Int.toNat ((a1.getD k_0 (default:Claim)).right)) (default:Right)).kind !=1)) ||((a0.rights.getD (Int.toNat ((a1.getD k_0 (default:Claim)).right)) (default:Right)).rank !=(a1.getD k_0 (default:Claim)).rank))=false→((decide ((k_0:Int) > 0))=true→(0≤(IntKind.i64.wrap ((k_0:Int) - 1))∧(IntKind.i64.wrap ((k_0:Int) - 1)) < (a1.length:Int))))))
def bt (a0:District)(a1:List Claim):Int:=(bif((br a0) !=0)then(br a0)else(bif(decide ((a1.length:Int) > 4096))then 2 else(match aw (dh a0 a1) a1.length 0 ()with| .inl x_0_0=>260| .inr s_0=>0)))
def j3 (a0:District)(a1:List Claim):Prop:=(((br a0) !=0)=false→(a1.length≤ba→((decide ((a1.length:Int) > 4096))=false→(a1.length≤ba→okI (dh a0 a1) (gU a0 a1) a1.length 0 ()))))
@[go_sem] def nG:List SV→Option Con:=(pD .district fun a0=>(pR .claim fun a1=>(pE (.det (j3 a0 a1) (.v (.int .i64 (bt a0 a1)))))))
theorem p_:FnOk Tryz.prog 24 nG:=by
 have hG:ConsOk Tryz.prog (mkG [(42,fun l=>nB (ci [.st .district] l)),(43,qZ)] []):=aC (cgc (p5.norm [.st .district]) (cgc wX cg0)) cg0
 refine aI [.o] mixed ax hG (fn:=Tryz.f24) (c:=ae Tryz.f24) (by kernel_rfl) (by kernel_rfl) (by kernel_rfl) (by kernel_rfl) (aN fun a0=>(cg fun a1=>(aB (fun hp=>?_))))
 dsimp only[aD]at hp
 unfold j3 at hp
 refine⟨Nat.le_of_ble_eq_true rfl,(fun id st=>bif Nat.beq id 0 then some (LCR (ρ:=Unit) (σ:=Unit) 1 [] [0] (fun k_0 s_0=>⟨[(1,.rs .claim a1),(2,.ptr 0 0),(16,.rs .claim a1),(17,.v (.int .i64 (a1.length:Int))),(18,.v (.int .i64 (k_0:Int)))],[.cells (cellsOf .district a0)]⟩) (dh a0 a1) (gU a0 a1) a1.length () (a1.length≤ba) (fun _=>.ret) (fun x_0_0=>⟨[(4,.v (.int .i64 260))],[.dead]⟩) st)else none),?_,?_⟩
 ·unfold ae Tryz.f24
  simp only[az,true_and,and_true]
  ·refine dy mixed ax hG (by kernel_rfl) (fun _=>rfl) (a1.length:Int) rfl g6 (fun hb0 k_0 s_0 hlt0 hq0 hw hc=>⟨L0,aj _,?_⟩) (fun hb0 s_0 hc=>?_)
   ·unfold gU at hq0
    try simp only[hw,Int.toNat_natCast]at hq0
    exact ff
   ·exact fg
 ·unfold ae Tryz.f24
  try unfold bt
  simp only[go_sem,Nat.reduceBEq,Nat.reduceLeDiff,Nat.reduceLT,decide_true,Nat.reduceAdd,Nat.reduceSub,Nat.reduceMul,Int.reduceLE,Int.reduceLT,Int.reduceToNat,Int.reduceNeg,reduceCtorEq]
  all_goals exact cl
end Go.Sx
end
section
namespace Go.Sx
open Go.Proofs
def nX (a:Order):Int:=bif a.outlet then 1 else 0
def olt (a b:Order):Prop:=a.hour<b.hour∨a.hour=b.hour∧(nX a<nX b∨nX a=nX b∧a.index<b.index)
theorem fw (x y:Int):aO x y=if x<y then -1 else if x > y then 1 else 0:=by
 unfold aO gJ
 simp[Bool.cond_eq_ite]
theorem Dg {a b:Order}(h:aG a b<0):olt a b:=by
 unfold aG at h
 unfold olt
 have k0:∀ x,nF 0 x=x.hour:=fun _=>rfl
 have k1:∀ x,nF 1 x=nX x:=fun _=>rfl
 have k2:∀ x,nF 2 x=x.index:=fun _=>rfl
 simp only[aw,r6,Nat.zero_add,Nat.reduceAdd,k0,k1,k2,fw]at h
 generalize nX a=p at h ⊢
 generalize nX b=q at h ⊢
 rcases Int.lt_trichotomy a.hour b.hour with e|e|e
 ·exact .inl e
 ·refine .inr ⟨e,?_⟩
  rcases Int.lt_trichotomy p q with e1|e1|e1
  ·exact .inl e1
  ·refine .inr ⟨e1,?_⟩
   rcases Int.lt_trichotomy a.index b.index with e2|e2|e2
   ·exact e2
   ·simp[e,e1,e2]at h
   ·have h1:¬a.index<b.index:=by omega
    simp[e,e1,e2,h1]at h
  ·have h1:¬p<q:=by omega
   simp[e,e1,h1]at h
 ·have h1:¬a.hour<b.hour:=by omega
  simp[e,h1]at h
theorem AL {a b c:Order}(h1:olt a b)(h2:olt b c):olt a c:=by
 unfold olt at *;omega
theorem AM (a b:Order):aG a b<0↔olt a b:=by
 refine⟨Dg,fun h=>?_⟩
 unfold aG
 have k0:∀ x,nF 0 x=x.hour:=fun _=>rfl
 have k1:∀ x,nF 1 x=nX x:=fun _=>rfl
 have k2:∀ x,nF 2 x=x.index:=fun _=>rfl
 simp only[aw,r6,Nat.zero_add,Nat.reduceAdd,k0,k1,k2,fw]
 unfold olt at h
 generalize nX a=p at h ⊢
 generalize nX b=q at h ⊢
 rcases h with h| ⟨e,h| ⟨e2,h⟩⟩
 ·simp[h]
 ·simp[e,h]
 ·simp[e,e2,h]
open Go.Shelf Go.Sort in
theorem pu:SWO (ltOf aG):=by
 have e:∀ x y,ltOf aG x y=true↔olt x y:=fun x y=>by unfold ltOf;rw[decide_eq_true_eq,AM]
 have e':∀ x y,ltOf aG x y=false↔¬olt x y:=fun x y=>by rw[←e];simp
 refine⟨fun x=>(e' x x).2 (by unfold olt;omega),fun x y z h1 h2=>(e x z).2 (AL ((e x y).1 h1) ((e y z).1 h2)),fun x y z h1 h2=>(e' x z).2 ?_⟩
 have h1:=(e' x y).1 h1
 have h2:=(e' y z).1 h2
 unfold olt at *
 omega
end Go.Sx
end
section
namespace Go.Sx
open Go.Proofs
theorem ir {n i:Nat}{step:Nat→Unit→Unit⊕Unit}{s:Unit}(h:aw step n i s=.inr s):∀ j,i≤j→j<i+n→step j ()=.inr ():=by
 induction n generalizing i with
 |zero=>intro j h1 h2;omega
 |succ n ih=>
  simp only[aw]at h
  cases hs:step i s with
  |inl r=>rw[hs]at h;cases h
  |inr s'=>
   rw[hs]at h
   intro j h1 h2
   by_cases e:j=i
   ·subst e;cases s;exact hs
   ·exact ih h j (by omega) (by omega)
theorem fz {b:Bool}{e:Int}:cb b e=b:=by
 cases b <;>rfl
theorem uw {a b c:Int}(h:aH [a,b,c]=true):a≤b∧b≤c:=by
 unfold aH at h
 simp only[List.length_cons,List.length_nil,Nat.zero_add,Nat.reduceAdd,Nat.reduceSub]at h
 split at h
 ·cases h
 ·rename_i s hs
  have h0:=ir hs 0 (by omega) (by omega)
  have h1:=ir hs 1 (by omega) (by omega)
  simp[bI,IntKind.wrap,IntKind.bits,IntKind.signed]at h0 h1
  constructor
  ·cases hd:decide (b<a) <;>simp_all <;>omega
  ·cases hd:decide (c<b) <;>simp_all <;>omega
theorem oi {a b c d:Int}(h:aH [a,b,c,d]=true):a≤b∧b≤c∧c≤d:=by
 unfold aH at h
 simp only[List.length_cons,List.length_nil,Nat.zero_add,Nat.reduceAdd,Nat.reduceSub]at h
 split at h
 ·cases h
 ·rename_i s hs
  have h0:=ir hs 0 (by omega) (by omega)
  have h1:=ir hs 1 (by omega) (by omega)
  have h2:=ir hs 2 (by omega) (by omega)
  simp[bI,IntKind.wrap,IntKind.bits,IntKind.signed]at h0 h1 h2
  refine⟨?_,?_,?_⟩
  ·cases hd:decide (b<a) <;>simp_all <;>omega
  ·cases hd:decide (c<b) <;>simp_all <;>omega
  ·cases hd:decide (d<c) <;>simp_all <;>omega
structure Right1 (d:District):Prop where
 reaches:d.reaches.length≤64
 one:0<d.reaches.length
 farms:d.farms.length≤600
 rights:d.rights.length≤256
 hours1:1≤d.hours
 hours:d.hours≤4096
 start0:0≤d.tank.start
 start:d.tank.start≤d.tank.cap
 cap:d.tank.cap≤1099511627776
 reach:∀ k,k<d.reaches.length→aU (k:Int) (d.reaches.getD k default)=true
 farm:∀ k,k<d.farms.length→0≤(d.farms.getD k default).reach∧(d.farms.getD k default).reach< (d.reaches.length:Int)
theorem q_ {d:District}(h:(br d !=0)=false):Right1 d:=by
 have h:br d=0:=by simpa using h
 unfold br at h
 simp only[fz]at h
 cases h1:(decide ((d.reaches.length:Int)≤64)&&decide ((d.farms.length:Int)≤600)&&decide ((d.crops.length:Int)≤32)&&decide ((d.rights.length:Int)≤256)&&decide ((d.duties.length:Int)≤256))with
 |false=>rw[h1]at h;simp at h
 |true=>
  rw[h1]at h
  simp only[cond_true]at h
  cases h2:c8 d 191 with
  |false=>rw[h2]at h;simp at h
  |true=>
   unfold c8 at h2
   simp only[fz]at h2
   cases h3:(aH [1,d.hours,4096]&&aH [0,d.tank.start,d.tank.cap,1099511627776]&&decide ((d.reaches.length:Int) > 0))with
   |false=>rw[h3]at h2;simp at h2
   |true=>
    rw[h3]at h2
    simp only[cond_true]at h2
    simp only[Bool.and_eq_true,decide_eq_true_eq]at h1 h3
    obtain⟨r1,r2⟩:=uw h3.1.1
    obtain⟨r3,r4,r5⟩:=oi h3.1.2
    split at h2
    ·cases h2
    rename_i s0 hs0
    split at h2
    ·cases h2
    rename_i s1 hs1
    split at h2
    ·cases h2
    rename_i s2 hs2
    refine⟨by omega,by omega,by omega,by omega,r1,r2,r3,r4,r5,fun k hk=>?_,fun k hk=>?_⟩
    ·have:=ir hs0 k (by omega) (by omega)
     simp only[cy,fz]at this
     cases he:aU (k:Int) (d.reaches.getD k default)with
     |false=>rw[he]at this;simp at this
     |true=>rfl
    ·have:=ir hs2 k (by omega) (by omega)
     simp only[cA,fz]at this
     have hx:bX (d.farms.getD k default).reach (d.reaches.length:Int)=true:=by
      cases he:bX (d.farms.getD k default).reach (d.reaches.length:Int)with
      |false=>rw[he]at this;cases hd:decide ((d.farms.getD k default).area > 0) <;>rw[hd]at this <;>simp at this
      |true=>rfl
     simpa[bX]using hx
structure Order1 (d:District)(x:Order):Prop where
 hour0:0≤x.hour
 hour:x.hour<d.hours
 index0:0≤x.index
 farm:x.outlet=true→x.index< (d.farms.length:Int)
 reach:x.outlet=false→x.index< (d.reaches.length:Int)
 litres1:1≤x.litres
 litres:x.litres≤1073741824
theorem kP {k:Nat}(h:k<9223372036854775807)(h1:0<k):IntKind.i64.wrap ((k:Int) - 1)=((k - 1:Nat):Int):=by
 rw[bu (by omega) (by omega)];omega
theorem Fo (d:District)(l:List Order):jc d l:=fun _ h1 _ _=>ja _ _ _ fun j s h2 h3=>by
 unfold ba at h1
 unfold gh
 have e:decide ((j:Int) > 0)=true→(0≤IntKind.i64.wrap ((j:Int) - 1)∧IntKind.i64.wrap ((j:Int) - 1) < (l.length:Int)):=fun h=>by
  simp only[decide_eq_true_eq]at h
  rw[kP (by omega) (by omega)];omega
 exact fun _=>⟨fun _ _ _=>e,fun _ _=>e⟩
structure Orders1 (d:District)(l:List Order):Prop where
 right:Right1 d
 len:l.length≤4096
 one:∀ k,k<l.length→Order1 d (l.getD k default)
 asc:∀ k,k+1<l.length→aG (l.getD k default) (l.getD (k+1) default) <0
theorem yK {d:District}{l:List Order}(h:(bw d l !=0)=false):Orders1 d l:=by
 have h:bw d l=0:=by simpa using h
 unfold bw at h
 cases h1:br d !=0 with
 |true=>rw[h1]at h;simp at h h1;exact absurd h h1
 |false=>
  rw[h1]at h
  simp only[cond_false]at h
  cases h2:decide ((l.length:Int) > 4096)with
  |true=>rw[h2]at h;simp at h
  |false=>
   rw[h2]at h
   simp only[cond_false]at h
   have hl:l.length≤4096:=by simp only[decide_eq_false_iff_not]at h2;omega
   split at h
   ·cases h
   rename_i s hs
   have key:∀ k,k<l.length→Order1 d (l.getD k default)∧(0<k→aG (l.getD (k - 1) default) (l.getD k default) <0):=by
    intro k hk
    have:=ir hs k (by omega) (by omega)
    have hp:((k:Int) > 0)→(IntKind.i64.wrap ((k:Int) - 1)).toNat=k - 1:=fun h=>by
     rw[kP (by omega) (by omega)];omega
    unfold co at this
    generalize hx:l.getD k default=x at this ⊢
    cases ho:x.outlet with
    |true=>
     rw[ho]at this
     simp only[cond_true]at this
     rw[Bool.cond_eq_ite]at this
     split at this
     ·cases this
     ·rename_i hc
      simp only[Bool.not_eq_true,Bool.or_eq_false_iff,Bool.and_eq_false_iff,decide_eq_false_iff_not]at hc
      refine⟨⟨by omega,by omega,by omega,fun _=>by omega,fun h=>by(rw[ho]at h;cases h),by omega,by omega⟩,fun hk0=>?_⟩
      rcases hc.2 with h|h
      ·omega
      ·rw[hp (by omega)]at h;omega
    |false=>
     rw[ho]at this
     simp only[cond_false]at this
     rw[Bool.cond_eq_ite]at this
     split at this
     ·cases this
     ·rename_i hc
      simp only[Bool.not_eq_true,Bool.or_eq_false_iff,Bool.and_eq_false_iff,decide_eq_false_iff_not]at hc
      refine⟨⟨by omega,by omega,by omega,fun h=>by(rw[ho]at h;cases h),fun _=>by omega,by omega,by omega⟩,fun hk0=>?_⟩
      rcases hc.2 with h|h
      ·omega
      ·rw[hp (by omega)]at h;omega
   exact⟨q_ h1,hl,fun k hk=>(key k hk).1,fun k hk=>(key (k+1) hk).2 (by omega)⟩
structure Reach1 (i:Int)(x:Reach):Prop where
 up:x.up<i
 delay1:1≤x.delay
 delay:x.delay≤16
 siphon0:0≤x.siphon
 siphon:x.siphon≤x.cap
 cap:x.cap≤1073741824
 bank:x.siphon≤x.bank
 bank1:x.bank≤1099511627776
theorem AN {i:Int}{x:Reach}(hi:0≤i)(h:aU i x=true):Reach1 i x:=by
 unfold aU at h
 cases hd:decide (i > 0)with
 |true=>
  rw[hd]at h
  simp only[cond_true,Bool.and_eq_true,bX,decide_eq_true_eq]at h hd
  obtain⟨⟨⟨⟨⟨h0,h1⟩,h2⟩,h3⟩,h4⟩,h5⟩:=h
  have:=uw h1
  have:=oi h2
  have:=oi h3
  constructor <;>omega
 |false=>
  rw[hd]at h
  simp only[cond_false,Bool.and_eq_true,beq_iff_eq,decide_eq_false_iff_not]at h hd
  obtain⟨⟨⟨⟨⟨h0,h1⟩,h2⟩,h3⟩,h4⟩,h5⟩:=h
  have:=uw h1
  have:=oi h2
  have:=oi h3
  constructor <;>omega
theorem Right1.reach1 {d:District}(h:Right1 d){k:Nat}(hk:k<d.reaches.length):Reach1 k (d.reaches.getD k default):=AN (by omega) (h.reach k hk)
theorem Right1.reachI {d:District}(h:Right1 d){i:Int}(h0:0≤i)(hi:i< (d.reaches.length:Int)):Reach1 i (d.reaches.getD i.toNat default):=by
 have:=h.reach1 (k:=i.toNat) (by omega)
 rwa[Int.toNat_of_nonneg h0]at this
theorem r7 {step:Nat→Unit→Unit⊕Unit}:∀ {n i:Nat},(∀ j,i≤j→j<i+n→step j ()=.inr ())→aw step n i ()=.inr ()
 |0,_,_=>rfl
 |n+1,i,h=>by
  simp only[aw]
  rw[h i (by omega) (by omega)]
  exact r7 fun j h1 h2=>h j (by omega) (by omega)
theorem d7 {step:Nat→Unit→Unit⊕Unit}{n:Nat}:aw step n 0 ()=.inr ()↔∀ j,j<n→step j ()=.inr ():=
 ⟨fun h j hj=>ir h j (by omega) (by omega),fun h=>r7 fun j _ h2=>h j (by omega)⟩
theorem yL {ρ:Type}{n i:Nat}{step:Nat→Unit→ρ⊕Unit}{s:Unit}(h:aw step n i s=.inr s):∀ j,i≤j→j<i+n→step j ()=.inr ():=by
 induction n generalizing i with
 |zero=>intro j h1 h2;omega
 |succ n ih=>
  simp only[aw]at h
  cases hs:step i s with
  |inl r=>rw[hs]at h;cases h
  |inr s'=>
   rw[hs]at h
   intro j h1 h2
   by_cases e:j=i
   ·subst e;cases s;exact hs
   ·exact ih h j (by omega) (by omega)
theorem ox (d:District)(l:List Order):bw d l=0↔br d=0∧l.length≤4096∧∀ k,k<l.length→co d l k ()=.inr ():=by
 unfold bw
 cases h1:(br d !=0)with
 |true=>simp at h1;simp[h1]
 |false=>
  simp at h1
  simp only[cond_false,h1,true_and]
  cases h2:decide ((l.length:Int) > 4096)with
  |true=>simp at h2;simp;omega
  |false=>
   simp at h2
   rw[←d7]
   cases h3:aw (co d l) l.length 0 ()with
   |inl y=>simp
   |inr y=>simp;omega
theorem cI {α:Type}(l:List α)(d:α){n:Nat}(h:n<l.length):l.getD n d=l[n]:=by
 rw[List.getD_eq_getElem?_getD,List.getElem?_eq_getElem h];rfl
theorem AO {κ υ:Type}[DecidableEq κ](l:List (κ×υ))(x z:κ)(y:υ):iB (qj l x y) z=if z=x then some y else iB l z:=by
 induction l with
 |nil=>simp[qj,iB]
 |cons a r ih=>
  obtain⟨a,b⟩:=a
  unfold qj
  by_cases h:x=a
  ·subst h
   simp only[if_pos]
   unfold iB
   by_cases hz:z=x <;>simp[hz]
  ·rw[if_neg h]
   unfold iB
   by_cases hz:z=a
   ·subst hz
    rw[if_pos rfl,if_neg (fun e=>h e.symm),if_pos rfl]
   ·rw[if_neg hz,ih,if_neg hz]
theorem g7 {k:Tag}(l:List (k.T×Int))(x z:k.T)(y:Int):aK k .int (cW k .int l x y) z=if z=x then y else aK k .int l z:=by
 unfold aK cW
 rw[AO]
 by_cases h:z=x <;>simp[h]
theorem Orders1.lt {d:District}{l:List Order}(h:Orders1 d l):∀ (k j:Nat),j<k→k<l.length→olt (l.getD j default) (l.getD k default)
 |k+1,j,h1,h2=>by
  have h3:=Dg (h.asc k (by omega))
  by_cases e:j=k
  ·subst e;exact h3
  ·exact AL (h.lt k j (by omega) (by omega)) h3
def cm (p:Order→Bool):List Order→Int
 | [] =>0
 |x::r=>(bif p x then x.litres else 0)+cm p r
theorem uz (p:Order→Bool)(a b:List Order):cm p (a++b)=cm p a+cm p b:=by
 induction a with
 |nil=>simp[cm]
 |cons x r ih=>simp only[List.cons_append,cm,ih];omega
theorem nH {p:Order→Bool}{l:List Order}(h:∀ x∈l,1≤x.litres∧x.litres≤1073741824):0≤cm p l∧cm p l≤l.length*1073741824:=by
 induction l with
 |nil=>simp[cm]
 |cons x r ih=>
  have h1:=ih fun a ha=>h a (List.mem_cons_of_mem _ ha)
  have h2:=h x List.mem_cons_self
  simp only[cm,List.length_cons]
  cases p x <;>simp only[cond_true,cond_false] <;>omega
theorem iu {p:Order→Bool}{l:List Order}(h:∀ x∈l,p x=false):cm p l=0:=by
 induction l with
 |nil=>rfl
 |cons x r ih=>
  simp only[cm]
  rw[h x List.mem_cons_self,ih fun y hy=>h y (List.mem_cons_of_mem _ hy)]
  rfl
theorem tx {p q:Order→Bool}{l:List Order}(h:∀ x∈l,p x=q x):cm p l=cm q l:=by
 induction l with
 |nil=>rfl
 |cons x r ih=>
  simp only[cm]
  rw[h x List.mem_cons_self,ih fun y hy=>h y (List.mem_cons_of_mem _ hy)]
theorem Dh {p q r:Order→Bool}{l:List Order}(h:∀ x∈l,(r x=(p x||q x))∧(p x&&q x)=false):cm p l+cm q l=cm r l:=by
 induction l with
 |nil=>rfl
 |cons x t ih=>
  simp only[cm]
  have h1:=h x List.mem_cons_self
  have h2:=ih fun y hy=>h y (List.mem_cons_of_mem _ hy)
  rw[h1.1]
  cases hp:p x <;>cases hq:q x <;>simp only[hp,hq,Bool.or_true,Bool.or_false,Bool.and_self,cond_true,cond_false]at h1 ⊢
  all_goals (first|omega|(simp at h1))
theorem JG {p:Order→Bool}{l:List Order}{j:Nat}(hj:j<l.length)(h:p l[j]=true)(hn:∀ i (hi:i<l.length),i≠j→p l[i]=false):cm p l=l[j].litres:=by
 have e:l=l.take j++l[j]::l.drop (j+1):=by rw[←List.drop_eq_getElem_cons hj,List.take_append_drop]
 conv=>lhs;rw[e,uz]
 rw[iu fun x hx=>?_]
 ·simp only[cm,h,cond_true]
  rw[iu fun x hx=>?_]
  ·omega
  ·obtain⟨i,hi,rfl⟩:=List.getElem_of_mem hx
   rw[List.length_drop]at hi
   rw[List.getElem_drop]
   exact hn _ _ (by omega)
 ·obtain⟨i,hi,rfl⟩:=List.getElem_of_mem hx
  rw[List.length_take]at hi
  rw[List.getElem_take]
  exact hn _ _ (by omega)
theorem Orders1.lit {d:District}{l:List Order}(h:Orders1 d l):∀ x∈l,1≤x.litres∧x.litres≤1073741824:=fun x hx=>by
 obtain⟨k,hk,rfl⟩:=List.getElem_of_mem hx
 have:=h.one k hk
 rw[cI _ _ hk]at this
 exact⟨this.litres1,this.litres⟩
theorem Orders1.uniq {d:District}{l:List Order}(h:Orders1 d l){i j:Nat}(hi:i<l.length)(hj:j<l.length)(e1:l[i].hour=l[j].hour)(e2:l[i].index=l[j].index)(e3:l[i].outlet=l[j].outlet):i=j:=by
 have key:∀ a b (ha:a<l.length) (hb:b<l.length),a<b→l[a].hour=l[b].hour→l[a].index=l[b].index→l[a].outlet=l[b].outlet→False:=fun a b ha hb hab e1 e2 e3=>by
  have:=h.lt b a hab hb
  rw[cI _ _ ha,cI _ _ hb]at this
  unfold olt nX at this
  rw[e1,e2,e3]at this
  omega
 rcases Nat.lt_trichotomy i j with h1|h1|h1
 ·exact(key i j hi hj h1 e1 e2 e3).elim
 ·exact h1
 ·exact(key j i hj hi h1 e1.symm e2.symm e3.symm).elim
theorem kQ {p:Order→Bool}{l:List Order}{j:Nat}(hj:j<l.length):cm p (l.take (j+1))=cm p (l.take j)+(bif p l[j]then l[j].litres else 0):=by
 rw[List.take_succ_eq_append_getElem hj,uz]
 simp[cm]
theorem vN {κ υ:Type}[DecidableEq κ]:∀ (l:List (κ×υ)) (x:κ) (y:υ),(qj l x y).map Prod.fst=if x∈l.map Prod.fst then l.map Prod.fst else l.map Prod.fst++[x]
 | [],x,y=>by simp[qj]
 |(a,b)::r,x,y=>by
  unfold qj
  by_cases h:x=a
  ·subst h;simp
  ·rw[if_neg h,List.map_cons,vN r x y]
   simp only[List.map_cons,List.mem_cons,h,false_or]
   split <;>simp
theorem Di {κ υ:Type}[DecidableEq κ]:∀ (l:List (κ×υ)) (e:κ×υ),(l.map Prod.fst).Nodup→e∈l→iB l e.1=some e.2
 |(a,b)::r,e,hn,he=>by
  simp only[List.map_cons,List.nodup_cons]at hn
  unfold iB
  rcases List.mem_cons.1 he with rfl|he
  ·simp
  ·have:e.1≠a:=fun h=>hn.1 (h▸List.mem_map_of_mem he)
   rw[if_neg this]
   exact Di r e hn.2 he
theorem mZ {α:Type}(l:List α)(d:α){k:Nat}(h:k<l.length):l.getD k d∈l:=by
 rw[cI l d h];exact List.getElem_mem _
theorem BU {n d:Int}(hd:1≤d)(hd2:d≤1073741824)(h1: -1152921504606846976≤n)(h2:n≤1152921504606846976):kO n d=n / d:=by
 unfold kO
 have e1:Int.tmod (Int.tmod n d+d) d=n % d:=by
  have a1: -d<Int.tmod n d:=Int.lt_tmod_of_pos n (by omega)
  rw[Int.tmod_eq_emod_of_nonneg (by omega),Int.add_emod_right]
  rw[Int.tmod_eq_emod]
  split
  ·show(n % d - 0) % d=n % d
   rw[Int.sub_zero,Int.emod_emod]
  ·have:n % d - (d.natAbs:Int)=n % d+d*(-1):=by omega
   rw[this,Int.add_mul_emod_self_left,Int.emod_emod]
 have a1: -d<Int.tmod n d:=Int.lt_tmod_of_pos n (by omega)
 have a2:Int.tmod n d<d:=Int.tmod_lt_of_pos n (by omega)
 rw[bu (by omega: -9223372036854775808≤Int.tmod n d+d) (by omega),e1]
 have b1:=Int.emod_nonneg n (by omega:d≠0)
 have b2:=Int.emod_lt_of_pos n (by omega:0<d)
 rw[bu (by omega: -9223372036854775808≤n - n % d) (by omega)]
 have e2:n - n % d=d*(n / d):=by have:=Int.mul_ediv_add_emod n d;omega
 rw[e2,Int.mul_tdiv_cancel_left _ (by omega)]
 have c1:n / d≤1152921504606846976:=by
  have:=Int.ediv_le_ediv (by omega:0<d) h2
  have:=Int.ediv_le_self (b:=d) (by omega:(0:Int)≤1152921504606846976)
  omega
 have c2: -1152921504606846976≤n / d:=by
  rw[Int.le_ediv_iff_mul_le (by omega)]
  have:=Int.mul_le_mul_of_nonneg_left (by omega:1≤d) (by omega:(0:Int)≤1152921504606846976)
  omega
 exact bu (by omega) (by omega)
structure Rat (a:Ratio):Prop where
 d1:1≤a.d
 d:a.d≤1073741824
 n0: -1073741824≤a.n
 n:a.n≤1073741824
theorem JH {a:Ratio}(h:aX a=0):Rat a:=by
 unfold aX at h
 rw[Bool.cond_eq_ite]at h
 split at h
 ·cases h
 ·rename_i h1
  simp only[Bool.or_eq_true,decide_eq_true_eq,not_or]at h1
  constructor <;>omega
theorem pw {i:Int}{x:Reach}(h:aU i x=true):eS x.seep=true∧0≤x.evap.lo∧x.evap.lo≤x.evap.hi∧x.evap.hi≤1073741824:=by
 unfold aU at h
 cases hd:decide (i > 0) <;>rw[hd]at h <;>simp only[cond_true,cond_false,Bool.and_eq_true]at h
 all_goals
  have r1:=oi h.1.2
  exact⟨h.2,r1.1,r1.2.1,r1.2.2⟩
theorem PM {a b:Int}(h0: -1073741824≤a)(h1:a≤1073741824)(h2:0≤b)(h3:b≤1073741824): -1152921504606846976≤a*b∧a*b≤1152921504606846976:=by
 have h4:=Int.mul_le_mul_of_nonneg_right h0 h2
 have h5:=Int.mul_le_mul_of_nonneg_right h1 h2
 have h6: -1073741824*b= -(1073741824*b):=by omega
 omega
structure Seep (x:Ratio×Ratio):Prop where
 r1:Rat x.1
 r2:Rat x.2
 c1:aX x.1=0
 c2:aX x.2=0
 cmp:eG x.1 x.2=((eG x.1 x.2).1,0)∧(eG x.1 x.2).1≤0
 le:x.1.n*x.2.d≤x.2.n*x.1.d
 n1:0≤x.1.n
 n2:x.2.n≤x.2.d
 m1:x.1.n≤x.1.d
 m2:0≤x.2.n
theorem xm {x:Ratio×Ratio}(h:eS x=true):Seep x:=by
 unfold eS at h
 simp only[Bool.and_eq_true,beq_iff_eq,decide_eq_true_eq]at h
 obtain⟨⟨⟨h1,h2⟩,h3⟩,h4⟩:=h
 have hc:aX x.1=0∧aX x.2=0:=by
  unfold eG at h1
  rw[Bool.cond_eq_ite]at h1
  split at h1
  ·cases h1
  ·rename_i hq
   simp only[Bool.or_eq_true,bne_iff_ne,ne_eq,not_or,Decidable.not_not]at hq
   exact hq
 have r1:=JH hc.1
 have r2:=JH hc.2
 have b1:=PM r1.n0 r1.n (by have:=r2.d1;omega) r2.d
 have b2:=PM r2.n0 r2.n (by have:=r1.d1;omega) r1.d
 have hle:x.1.n*x.2.d≤x.2.n*x.1.d:=by
  unfold eG at h3
  rw[hc.1,hc.2]at h3
  simp only[bne_self_eq_false,Bool.or_self,cond_false]at h3
  rw[bu (by omega) (by omega),bu (by omega) (by omega),fw]at h3
  split at h3
  ·omega
  ·split at h3
   ·omega
   ·omega
 have e1:=r1.d1
 have e2:=r2.d1
 have m1:x.1.n≤x.1.d:=by
  have:=Int.mul_le_mul_of_nonneg_right h4 (by omega:0≤x.1.d)
  have hh:x.1.n*x.2.d≤x.1.d*x.2.d:=by rw[Int.mul_comm x.1.d];omega
  exact Int.le_of_mul_le_mul_right hh (by omega)
 have m2:0≤x.2.n:=by
  have:=Int.mul_nonneg h2 (by omega:0≤x.2.d)
  have hh:0*x.1.d≤x.2.n*x.1.d:=by rw[Int.zero_mul];omega
  exact Int.le_of_mul_le_mul_right hh (by omega)
 exact⟨r1,r2,hc.1,hc.2,⟨by rw[←h1],h3⟩,hle,h2,h4,m1,m2⟩
theorem AP {x:Ratio×Ratio}(h:Seep x):fF x=true:=by
 unfold fF im kM
 have:=h.n1;have:=h.n2;have:=h.m1;have:=h.m2
 rw[h.c1,h.c2,decide_eq_true (by omega:x.1.n≥0),decide_eq_true (by omega:x.1.n≤x.1.d),decide_eq_true (by omega:x.2.n≥0),decide_eq_true (by omega:x.2.n≤x.2.d)]
 have h2:=congrArg Prod.snd h.cmp.1
 dsimp only at h2
 rw[h2,decide_eq_true h.cmp.2]
 rfl
theorem yM {a:Ratio}(h:Rat a)(hc:aX a=0)(h0:0≤a.n){v:Int}(v0:0≤v)(v1:v≤1073741824):(dG a v).1=a.n*v / a.d∧(dG a v).2.1= -(-(a.n*v) / a.d)∧ -(-(a.n*v) / a.d)≤1152921504606846976∧0≤ -(-(a.n*v) / a.d):=by
 have:=h.d1;have:=h.d;have:=h.n
 have hm:=PM (by omega) h.n v0 v1
 have hm0:=Int.mul_nonneg h0 v0
 unfold dG
 have e1:(decide (v< (-1073741824)) ||decide (v > 1073741824))=false:=by simp only[Bool.or_eq_false_iff,decide_eq_false_iff_not];omega
 rw[hc,e1]
 simp only[bne_self_eq_false,cond_false]
 rw[bu (by omega: -9223372036854775808≤0 - a.n) (by omega)]
 have e2:(0 - a.n)*v= -(a.n*v):=by rw[Int.sub_mul];omega
 rw[e2,bu (by omega: -9223372036854775808≤ -(a.n*v)) (by omega),bu (by omega: -9223372036854775808≤a.n*v) (by omega)]
 rw[BU h.d1 h.d (by omega) (by omega),BU h.d1 h.d (by omega) (by omega)]
 have c1: -1152921504606846976≤ -(a.n*v) / a.d:=by
  rw[Int.le_ediv_iff_mul_le (by omega)]
  have:=Int.mul_le_mul_of_nonneg_left (by omega:1≤a.d) (by omega:(0:Int)≤1152921504606846976)
  omega
 have c2: -(a.n*v) / a.d≤0:=by
  have:=Int.ediv_le_ediv (by omega:0<a.d) (by omega: -(a.n*v)≤0)
  simpa using this
 rw[bu (by omega) (by omega)]
 exact⟨rfl,by omega,by omega,by omega⟩
theorem uA {i:Int}{x:Reach}(h:aU i x=true){v:Int}(v0:0≤v)(v1:v≤1073741824):dO x v=0∧0≤(dH x v).lo∧(dH x v).lo≤(dH x v).hi∧(dH x v).hi≤v:=by
 obtain⟨h1,h2,h3,h4⟩:=pw h
 have hs:=xm h1
 refine⟨?_,?_⟩
 ·unfold dO jY kM
  rw[AP hs,decide_eq_true (by omega:x.evap.lo≥0),decide_eq_true h3,decide_eq_true h4,decide_eq_true (by omega:v≥0),decide_eq_true v1]
  rfl
 ·unfold dH
  cases hv:(v==0)with
  |true=>
   simp only[beq_iff_eq]at hv
   simp only[cond_true];omega
  |false=>
   simp only[beq_eq_false_iff_ne,ne_eq]at hv
   simp only[cond_false]
   obtain⟨a1,_,_,_⟩:=yM hs.r1 hs.c1 hs.n1 v0 v1
   obtain⟨_,b1,b2,b3⟩:=yM hs.r2 hs.c2 hs.m2 v0 v1
   rw[a1,b1]
   have d1:=hs.r1.d1
   have d2:=hs.r2.d1
   have P0:0≤x.seep.1.n*v / x.seep.1.d:=Int.ediv_nonneg (Int.mul_nonneg hs.n1 v0) (by omega)
   have P1:x.seep.1.n*v / x.seep.1.d*x.seep.1.d≤x.seep.1.n*v:=Int.ediv_mul_le _ (by omega)
   have Q1: -(x.seep.2.n*v) / x.seep.2.d*x.seep.2.d≤ -(x.seep.2.n*v):=Int.ediv_mul_le _ (by omega)
   generalize x.seep.1.n*v / x.seep.1.d=P at P0 P1
   generalize -(x.seep.2.n*v) / x.seep.2.d=Q at b2 b3 Q1
   have PV:P≤v:=by
    have:=Int.mul_le_mul_of_nonneg_right hs.m1 v0
    have hh:P*x.seep.1.d≤v*x.seep.1.d:=by rw[Int.mul_comm v];omega
    exact Int.le_of_mul_le_mul_right hh (by omega)
   have PQ:P≤ -Q:=by
    have e1:=Int.mul_le_mul_of_nonneg_right P1 (by omega:0≤x.seep.2.d)
    have e2:=Int.mul_le_mul_of_nonneg_right hs.le v0
    have e3:=Int.mul_le_mul_of_nonneg_right Q1 (by omega:0≤x.seep.1.d)
    have hh:P*(x.seep.1.d*x.seep.2.d)≤ -Q*(x.seep.1.d*x.seep.2.d):=by
     have i1:P*x.seep.1.d*x.seep.2.d=P*(x.seep.1.d*x.seep.2.d):=Int.mul_assoc _ _ _
     have i2:x.seep.1.n*v*x.seep.2.d=x.seep.1.n*x.seep.2.d*v:=by rw[Int.mul_assoc,Int.mul_comm v,←Int.mul_assoc]
     have i3:x.seep.2.n*x.seep.1.d*v=x.seep.2.n*v*x.seep.1.d:=by rw[Int.mul_assoc,Int.mul_comm x.seep.1.d,←Int.mul_assoc]
     have i4:Q*x.seep.2.d*x.seep.1.d=Q*(x.seep.1.d*x.seep.2.d):=by rw[Int.mul_assoc,Int.mul_comm x.seep.2.d]
     have i5: -(x.seep.2.n*v)*x.seep.1.d= -(x.seep.2.n*v*x.seep.1.d):=Int.neg_mul _ _
     have i6: -Q*(x.seep.1.d*x.seep.2.d)= -(Q*(x.seep.1.d*x.seep.2.d)):=Int.neg_mul _ _
     omega
    have hp:0<x.seep.1.d*x.seep.2.d:=Int.mul_pos (by omega) (by omega)
    exact Int.le_of_mul_le_mul_right hh hp
   rw[bu (by omega) (by omega),bu (by omega) (by omega)]
   split <;>split <;>omega
end Go.Sx
end
section
namespace Go.Sx
open Go.Proofs
def wst (x:Reach)(v:Int):Int:=v - (dH x v).hi
theorem JI {i:Int}{x:Reach}(h:aU i x=true){v:Int}(v0:0≤v)(v1:v≤1073741824):wst x v=max 0 ((x.seep.2.d - x.seep.2.n)*v / x.seep.2.d - x.evap.hi):=by
 obtain⟨g1,g2,g3,g4⟩:=pw h
 have hs:=xm g1
 have d1:=hs.r2.d1
 have hk:(x.seep.2.d - x.seep.2.n)*v / x.seep.2.d=v+ -(x.seep.2.n*v) / x.seep.2.d:=by
  rw[Int.sub_mul,Int.sub_eq_add_neg,Int.add_comm,Int.add_mul_ediv_left _ _ (by omega)];omega
 rw[hk]
 unfold wst dH
 cases hv:(v==0)with
 |true=>
  simp only[beq_iff_eq]at hv
  subst hv
  simp only[cond_true,Int.mul_zero,Int.neg_zero,Int.zero_ediv]
  show(0:Int) - 0=_
  omega
 |false=>
  simp only[cond_false]
  obtain⟨_,b1,b2,b3⟩:=yM hs.r2 hs.c2 hs.m2 v0 v1
  rw[b1]
  generalize -(x.seep.2.n*v) / x.seep.2.d=Q at b2 b3 ⊢
  rw[bu (by omega) (by omega)]
  split <;>omega
theorem MV {k d a b:Int}(hk:0≤k)(hd:1≤d)(h:a≤b):k*a / d≤k*b / d:=Int.ediv_le_ediv (by omega) (Int.mul_le_mul_of_nonneg_left h hk)
section
variable {i:Int}{x:Reach}
theorem JJ (h:aU i x=true){v:Int}(v0:0≤v)(v1:v≤1073741824):0≤wst x v∧wst x v≤v:=by
 have:=uA h v0 v1
 unfold wst;omega
theorem uB (h:aU i x=true){a b:Int}(a0:0≤a)(hab:a≤b)(b1:b≤1073741824):wst x a≤wst x b:=by
 have hs:=xm (pw h).1
 have:=hs.r2.d1
 rw[JI h a0 (by omega),JI h (by omega) b1]
 have:=MV (k:=x.seep.2.d - x.seep.2.n) (d:=x.seep.2.d) (by have:=hs.n2;omega) hs.r2.d1 hab
 omega
end
theorem half {i j:Int}(h0:0≤i)(h1:i≤j)(h2:j≤2305843009213693952):IntKind.i64.wrap (Ek .u64 (IntKind.u64.wrap (IntKind.i64.wrap (i+j))) 1)=(i+j) / 2:=by
 have e0:IntKind.i64.wrap (i+j)=i+j:=bu (by omega) (by omega)
 have e:IntKind.u64.wrap (i+j)=i+j:=by
  unfold IntKind.wrap
  simp[IntKind.bits,IntKind.signed]
  omega
 have e2:Ek .u64 (i+j) 1=(i+j) / 2:=by
  show Int.fdiv (i+j) ((2:Int) ^ min (Int.toNat 1) IntKind.u64.bits)=_
  have:(2:Int) ^ min (Int.toNat 1) IntKind.u64.bits=2:=by decide
  rw[this,Int.fdiv_eq_ediv_of_nonneg _ (by omega)]
 rw[e0,e,e2,bu (by omega) (by omega)]
theorem yN {f:Int→Bool}{N:Int}{step:Nat→Int×Int→Int⊕(Int×Int)}(hN:N≤2305843009213693952)
  (hs:∀ k i j,0≤i→i<j→j≤N→step k (i,j)=if f ((i+j) / 2)=true then .inr (i,(i+j) / 2)else .inr ((i+j) / 2+1,j)) (he:∀ k i j,¬i<j→step k (i,j)=.inl i):
  ∀ (fuel k:Nat) (i j:Int),0≤i→i≤j→j≤N→j - i<2 ^ fuel→∃ v,aw step (fuel+1) k (i,j)=.inl v∧i≤v∧v≤j∧
   ((∀ a b,0≤a→a≤b→b<N→f a=true→f b=true)→(∀ u,i≤u→u<v→f u=false)∧(v<j→f v=true)):=by
 intro fuel
 induction fuel with
 |zero=>
  intro k i j h0 h1 h2 h3
  have:j=i:=by simp at h3;omega
  subst this
  exact⟨j,by simp only[aw,he k j j (by omega)],Int.le_refl _,Int.le_refl _,fun _=>⟨fun u h4 h5=>by omega,fun h=>by omega⟩⟩
 |succ fuel ih=>
  intro k i j h0 h1 h2 h3
  by_cases hlt:i<j
  ·have hp:(2:Int) ^ (fuel+1)=2 ^ fuel+2 ^ fuel:=by rw[Int.pow_succ];omega
   rw[show fuel+1+1=(fuel+1)+1 from rfl]
   simp only[aw,hs k i j h0 hlt h2]
   by_cases hf:f ((i+j) / 2)=true
   ·rw[if_pos hf]
    obtain⟨v,e1,e2,e3,e4⟩:=ih (k+1) i ((i+j) / 2) h0 (by omega) (by omega) (by omega)
    refine⟨v,e1,e2,by omega,fun hm=>⟨(e4 hm).1,fun _=>?_⟩⟩
    by_cases hv:v< (i+j) / 2
    ·exact(e4 hm).2 hv
    ·have:v=(i+j) / 2:=by omega
     rw[this];exact hf
   ·rw[if_neg hf]
    obtain⟨v,e1,e2,e3,e4⟩:=ih (k+1) ((i+j) / 2+1) j (by omega) (by omega) h2 (by omega)
    refine⟨v,e1,by omega,e3,fun hm=>⟨fun u h4 h5=>?_,(e4 hm).2⟩⟩
    by_cases hu:(i+j) / 2+1≤u
    ·exact(e4 hm).1 u hu h5
    ·cases hfu:f u with
     |false=>rfl
     |true=>exact absurd (hm u ((i+j) / 2) (by omega) (by omega) (by omega) hfu) hf
  ·have:j=i:=by omega
   subst this
   exact⟨j,by simp only[aw,he k j j (by omega)],Int.le_refl _,Int.le_refl _,fun _=>⟨fun u h4 h5=>by omega,fun h=>by omega⟩⟩
theorem AQ (w:Int)(x:Reach):∃ v,aw (fT x w) 64 0 (0,1073741825)=.inl v∧0≤v∧v≤1073741825∧
  ((∀ a b,0≤a→a≤b→b<1073741825→db a x w=true→db b x w=true)→(∀ u,0≤u→u<v→db u x w=false)∧(v<1073741825→db v x w=true)):=by
 refine yN (f:=fun v=>db v x w) (N:=1073741825) (by omega) (fun k i j h0 h1 h2=>?_) (fun k i j h=>?_) 63 0 0 1073741825 (by omega) (by omega) (by omega) (by decide)
 ·unfold fT
  simp only
  rw[half h0 (by omega) (by omega),decide_eq_true h1,bu (by omega) (by omega)]
  cases db ((i+j) / 2) x w <;>simp
 ·unfold fT
  simp only
  rw[decide_eq_false h];rfl
theorem JK (w:Int)(x:Reach):lr 1073741825 x w:=fun z hz=>by
 obtain⟨v,h,_⟩:=AQ w x
 rw[h]at hz;cases hz
theorem GG (x:Reach)(w:Int):iS x w:=fun _=>JK _ x
theorem JL (x:Reach)(w:Int):io x w:=fun _=>GG x w
section
variable {i:Int}{x:Reach}
theorem Dj (h:aU i x=true){w:Int}(hw:1≤w)(hw2:w≤1073741824):0≤bO (w - 1) x∧bO (w - 1) x≤1073741825∧(∀ u,0≤u→u<bO (w - 1) x→wst x u<w)∧(bO (w - 1) x≤1073741824→w≤wst x (bO (w - 1) x)):=by
 obtain⟨v,e1,e2,e3,e4⟩:=AQ (w - 1) x
 have ev:bO (w - 1) x=v:=by unfold bO oh;rw[e1]
 have hf:∀ u,0≤u→u≤1073741824→(db u x (w - 1)=true↔w≤wst x u):=fun u u0 u1=>by
  have:=uA h u0 u1
  unfold db lp wst
  rw[bu (by omega) (by omega),decide_eq_true_eq];omega
 obtain⟨e5,e6⟩:=e4 fun a b a0 hab hb ha=>(hf b (by omega) (by omega)).2 (by
  have:=uB h a0 hab (by omega)
  have:=(hf a a0 (by omega)).1 ha;omega)
 rw[ev]
 refine⟨e2,e3,fun u u0 u1=>?_,fun hv=>(hf v e2 hv).1 (e6 (by omega))⟩
 have:=e5 u u0 u1
 by_cases hq:w≤wst x u
 ·rw[(hf u u0 (by omega)).2 hq]at this;cases this
 ·omega
theorem r8 (h0:0≤i)(h:aU i x=true){w:Int}(hw:1≤w):(∃ v,ak x w=(v,true)∧1≤v∧v≤1073741824∧x.siphon≤v∧w≤wst x v∧∀ u,0≤u→u≤1073741824→x.siphon≤u→w≤wst x u→v≤u)∨
  ((ak x w).2=false∧∀ u,0≤u→u≤1073741824→wst x u<w):=by
 have hr:=AN h0 h
 unfold ak
 have hw0:(w==0)=false:=by rw[beq_eq_false_iff_ne];omega
 by_cases hw2:w≤1073741824
 ·have hc:(w==0||decide (w > 1073741824))=false:=by rw[hw0,decide_eq_false (by omega)];rfl
  rw[hc,hw0]
  simp only[cond_false]
  obtain⟨l1,l2,l3,l4⟩:=Dj h hw hw2
  unfold bv
  have hv:(dO x w !=0)=false:=by rw[(uA h (by omega) hw2).1];rfl
  rw[hv,bu (by omega) (by omega)]
  simp only[cond_false]
  by_cases hl:bO (w - 1) x≤1073741824
  ·rw[decide_eq_false (by omega)]
   simp only[cond_false,Bool.not_true]
   have l5:=l4 hl
   have l6:=JJ h l1 hl
   refine .inl ⟨_,rfl,?_,?_,?_,?_,fun u u0 u1 u2 u3=>?_⟩
   ·split <;>omega
   ·have:=hr.siphon;have:=hr.cap;split <;>omega
   ·split <;>omega
   ·have:=hr.siphon;have:=hr.cap
    split
    ·exact Int.le_trans l5 (uB h l1 (by omega) (by omega))
    ·exact l5
   ·have:bO (w - 1) x≤u:=by
     rcases Int.lt_or_le u (bO (w - 1) x)with q|q
     ·have:=l3 u u0 q;omega
     ·exact q
    split <;>omega
  ·rw[decide_eq_true (by omega)]
   simp only[cond_true,Bool.not_false]
   exact .inr ⟨trivial,fun u u0 u1=>l3 u u0 (by omega)⟩
 ·have hc:(w==0||decide (w > 1073741824))=true:=by rw[decide_eq_true (by omega:w > 1073741824),Bool.or_true]
  rw[hc]
  refine .inr ⟨by simpa using hw0,fun u u0 u1=>?_⟩
  have:=JJ h u0 u1;omega
end
end Go.Sx
end
section
namespace Go.Sx
def PN {α:Type}:Result α→World
 | .ok _ w=>w
 | .halt _ w=>w
theorem Fq {α:Type}:∀ (a:Ask α) (w:World),w.drawn≤(w.ask a).2.drawn
 | .done a,w=>Nat.le_refl _
 | .ask what range k,w=>by
  unfold World.ask
  dsimp only
  split
  ·exact Fq _ w
  ·exact Nat.le_trans (Nat.le_succ _) (Fq _ { w with drawn:=w.drawn+1})
theorem PO (w:World)(c:Sys):w.drawn≤(w.sys c).2.drawn:=by
 unfold World.sys
 have:=Fq (Kernel.perform c w.os) w
 split
 ·exact Nat.le_refl _
 ·rename_i h
  rw[h]at this
  exact this
theorem Dk {p:Program}{w w':World}{a:Addr}{v:Value}{b:Bool}{l:List Addr}(h:w.farStore p a v b=.ok (w',l)):w'.drawn=w.drawn:=by
 unfold World.farStore at h
 split at h
 ·split at h
  ·rename_i r hr
   cases h
   unfold World.viewStore at hr
   simp only[bind,Except.bind,pure,Except.pure]at hr
   repeat' split at hr
   all_goals (first|(cases hr;done) |skip)
   all_goals (cases hr;rfl)
  ·cases h
 ·cases h
theorem BV {α:Type}(p:Program):∀ (s:Sem α) (w:World),w.drawn≤(PN (s.run p w)).drawn:=by
 intro s
 induction s with
 |pure a=>intro w;exact Nat.le_refl _
 |load m a k ih=>
  intro w
  unfold Sem.run
  split
  ·exact ih _ w
  ·split
   ·exact ih _ w
   ·exact Nat.le_refl _
 |store m a v k ih=>
  intro w
  cases v
  case agg=>exact Nat.le_refl _
  case tuple=>exact Nat.le_refl _
  all_goals
   simp only[Sem.run]
   split
   ·split
    ·exact Nat.le_refl _
    ·exact ih (w.setCell a _)
   ·split
    ·rename_i h
     rw[←Dk h];exact ih _
    ·exact Nat.le_refl _
 |new o k ih=>intro w;exact ih w.heap.size { w with heap:=w.heap.push o}
 |shape r k ih=>intro w;exact ih _ _
 |freeze a n k ih=>
  intro w
  have:(w.freeze a n).drawn=w.drawn:=by unfold World.freeze;split <;>rfl
  rw[←this];exact ih _
 |frozen a k ih=>intro w;exact ih _ _
 |getObj r k ih=>
  intro w
  unfold Sem.run
  split
  ·exact Nat.le_refl _
  ·exact ih _ _
  ·exact Nat.le_refl _
 |setObj r o k ih=>
  intro w
  unfold Sem.run
  split
  ·exact Nat.le_refl _
  ·exact ih { w with heap:=w.heap.setIfInBounds r o}
  ·exact Nat.le_refl _
 |choose q k ih=>
  intro w
  unfold Sem.run
  split
  ·exact ih _ _
  ·exact Nat.le_trans (Nat.le_succ _) (ih _ { w with drawn:=w.drawn+1})
 |sys c k ih=>intro w;exact Nat.le_trans (PO w c) (ih _ _)
 |program k ih=>intro w;exact ih _ _
 |mark m k ih=>intro w;exact ih _
 |halt h=>intro w;exact Nat.le_refl _
theorem JM {α:Type}(p:Program):∀ (s:Sem α) (w:World) (es:Array Event),(s.runT p w es).1=s.run p w:=by
 intro s
 induction s with
 |store m a v k ih=>
  intro w es
  cases v
  case agg=>rfl
  case tuple=>rfl
  all_goals
   simp only[Sem.runT,Sem.run]
   split
   ·split
    ·rfl
    ·exact ih _ _
   ·split
    ·exact ih _ _
    ·rfl
 |load m a k ih=>
  intro w es
  simp only[Sem.runT,Sem.run]
  split
  ·exact ih _ _ _
  ·split
   ·exact ih _ _ _
   ·rfl
 |getObj r k ih=>
  intro w es
  simp only[Sem.runT,Sem.run]
  split
  ·rfl
  ·exact ih _ _ _
  ·rfl
 |setObj r o k ih=>
  intro w es
  simp only[Sem.runT,Sem.run]
  split
  ·rfl
  ·exact ih _ _
  ·rfl
 |choose q k ih=>
  intro w es
  simp only[Sem.runT,Sem.run]
  split
  ·exact ih _ _ _
  ·exact ih _ _ _
 |pure a=>intro w es;rfl
 |new o k ih=>intro w es;exact ih _ _ _
 |shape r k ih=>intro w es;exact ih _ _ _
 |freeze a n k ih=>intro w es;exact ih _ _
 |frozen a k ih=>intro w es;exact ih _ _ _
 |sys c k ih=>intro w es;exact ih _ _ _
 |program k ih=>intro w es;exact ih _ _ _
 |mark m k ih=>intro w es;exact ih _ _
 |halt h=>intro w es;rfl
theorem g8 {α:Type}{p:Program}{s:Sem α}{w w':World}{a:α}(h:s.run p w=.ok a w'):w.drawn≤w'.drawn:=by have:=BV p s w;rw[h]at this;exact this
theorem JN {α:Type}{p:Program}{s:Sem α}{w w':World}{a:Halt}(h:s.run p w=.halt a w'):w.drawn≤w'.drawn:=by have:=BV p s w;rw[h]at this;exact this
theorem mP {α:Type}{p:Program}{s:Sem α}{w:World}{es es':Array Event}{r:Result α}(h:s.runT p w es=(r,es')):w.drawn≤(PN r).drawn:=by
 have:=JM p s w es
 rw[h]at this
 have h2:=BV p s w
 rw[←this]at h2
 exact h2
def gLe (w:World):GStep→Prop
 | .ended .. =>True
 | .go _ w' _| .comm _ _ _ _ w' _| .spawn _ _ w' _| .count _ w' _| .timer _ _ w' _| .alone _ _ w' _| .newcoro _ _ _ w' _| .coroswitch _ _ _ w' _| .collect _ w' _| .watch _ w' _=>w.drawn≤w'.drawn
theorem gLe.after {w:World}{es:Array Event}{s:GStep}(h:gLe w s):gLe w (s.after es):=by cases s <;>exact h
theorem gLe.trans {w w':World}{s:GStep}(h1:w.drawn≤w'.drawn)(h:gLe w' s):gLe w s:=by cases s <;>first|trivial|exact Nat.le_trans h1 h
theorem uC {c:Prop}[Decidable c]{w:World}{a b:GStep}(h1:gLe w a)(h2:gLe w b):gLe w (if c then a else b):=by split <;>assumption
theorem oj (fr:Frame)(m:String)(w:World):gLe w (endThrow fr m w):=Nat.le_refl _
theorem ra (p:Program)(fr:Frame)(v:Value)(w:World):gLe w (endPrinting p fr v w):=by
 unfold endPrinting
 dsimp only
 split
 ·exact oj _ _ _
 ·trivial
theorem wr (p:Program)(fr:Frame)(callers:List Frame)(dying:Option Dying)(m:String)(w:World):gLe w (endFatal p fr callers dying m w):=by
 unfold endFatal
 extract_lets
 split
 ·rename_i h;exact g8 h
 ·trivial
 ·trivial
theorem Ft (p:Program)(fr:Frame)(d:Dying)(f:Fatal)(w:World):gLe w (writeOn p fr d f w):=by
 unfold writeOn
 extract_lets
 split
 ·trivial
 ·extract_lets
  generalize h:Sem.runT _ _ _ _=rr
  obtain⟨r,es⟩:=rr
  have h:=mP h
  split
  ·rename_i e;cases e;exact h
  ·rename_i e;cases e;exact h
  ·trivial
  ·trivial
theorem Fu (w w':World)(fd:Nat)(t:ByteArray)(o:Outcome):gLe w (endWith w' fd t o):=by
 unfold endWith
 extract_lets
 split
 ·split <;>trivial
 ·trivial
 ·trivial
theorem PS (p:Program)(fr:Frame)(d:Dying)(w:World):gLe w (die p fr d w):=by
 unfold die
 split
 ·exact Ft _ _ _ _ _
 ·split
  ·split
   ·exact Nat.le_refl _
   ·exact Fu _ _ _ _ _
  ·extract_lets
   split
   ·exact Nat.le_refl _
   ·split
    ·rename_i h;exact g8 h
    ·trivial
   ·split
    rename_i h
    have h:=mP h
    refine gLe.after ?_
    split
    all_goals first|exact h|trivial|exact gLe.trans h (ra _ _ _ _)
   ·trivial
theorem rb (p:Program)(main:Bool)(fr:Frame)(callers:List Frame)(dying:Option Dying)(v:Value)(w:World):gLe w (doReturn p main fr callers dying v w):=by
 unfold doReturn
 split
 ·split
  all_goals exact Nat.le_refl _
 ·split
  ·exact Nat.le_refl _
  ·trivial
  ·split
   ·exact Nat.le_refl _
   ·split
    ·exact Nat.le_refl _
    ·trivial
theorem wY (p:Program)(fr:Frame)(callers:List Frame)(dying:Option Dying)(d:Deferred)(w:World):gLe w (callDeferred p fr callers dying d w):=by
 unfold callDeferred
 refine uC trivial ?_
 rcases h:(invoke d.target d.args).runT p w #[]with⟨r,es⟩
 have h:=mP h
 dsimp only
 refine gLe.after ?_
 split
 all_goals first|exact h|trivial|exact gLe.trans h (wr _ _ _ _ _ _) |exact gLe.trans h (oj _ _ _) |skip
 split <;>exact h
theorem HN (p:Program)(main:Bool)(fr:Frame)(callers:List Frame)(dying:Option Dying)(w:World):gLe w (unwind p main fr callers dying w):=by
 unfold unwind
 split
 ·split
  rename_i h
  have h:=mP h
  refine gLe.after ?_
  split
  ·exact h
  ·trivial
 ·exact wY _ _ _ _ _ _
 ·split
  ·trivial
  ·split
   ·trivial
   ·split
    ·exact Nat.le_refl _
    ·split
     ·split
      ·exact Nat.le_refl _
      ·split
       ·rename_i h;exact g8 h
       ·trivial
       ·trivial
     ·split
      ·exact ra _ _ _ _
      ·trivial
  ·split
   ·exact rb _ _ _ _ _ _ _
   ·split
    rename_i h
    have h:=mP h
    refine gLe.after ?_
    split
    ·exact gLe.trans h (rb _ _ _ _ _ _ _)
    ·trivial
    ·trivial
theorem JO (p:Program)(fr:Frame)(callers:List Frame)(dying:Option Dying)(g:Nat)(w:World):gLe w (early p fr callers dying g w):=by
 unfold early
 extract_lets refuse notYet there
 have hn:∀ w0:World,w.drawn≤w0.drawn→gLe w (notYet w0):=fun w0 h0=>by
  show gLe w (match w0.heap[g]? with|some (.pending c elem) =>_|_=>_)
  split
  ·exact h0
  ·trivial
 split
 ·exact hn w (Nat.le_refl _)
 ·split
  ·trivial
  ·extract_lets there
   have ht:∀ w0:World,w.drawn≤w0.drawn→gLe w (there w0):=fun w0 h0=>h0
   split
   ·exact hn w (Nat.le_refl _)
   ·split
    ·exact hn w (Nat.le_refl _)
    ·split
     ·trivial
     ·exact ht w (Nat.le_refl _)
     ·trivial
     ·exact hn w (Nat.le_refl _)
     ·split
      ·exact ht w (Nat.le_refl _)
      ·split
       ·exact hn w (Nat.le_refl _)
       ·split
        ·rename_i h;exact hn _ (g8 h)
        ·rename_i h;exact ht _ (g8 h)
        ·trivial
end Go.Sx
end
section
namespace Go.Sx
theorem re (p:Program)(listen:Bool)(fr:Frame)(callers:List Frame)(dying:Option Dying)(s:Sem Next)(w:World):gLe w (Go.stepG.apply p listen fr callers dying s w):=by
 unfold Go.stepG.apply
 extract_lets go kind
 have hr:∃ r es,(if listen=true then s.runT p w #[]else(s.run p w,#[]))=(r,es)∧w.drawn≤(PN r).drawn:=by
  split
  ·rcases h:s.runT p w #[]with⟨r,es⟩
   exact⟨r,es,rfl,mP h⟩
  ·exact⟨_,_,rfl,BV p s w⟩
 obtain⟨r,es,he,h⟩:=hr
 rw[he]
 dsimp only
 refine gLe.after ?_
 have hgo:∀ fr w0,w.drawn≤w0.drawn→gLe w (go fr w0):=fun fr w0 h0=>h0
 split
 all_goals first|exact h|trivial|exact hgo _ _ h|exact gLe.trans h (wr _ _ _ _ _ _) |exact gLe.trans h (oj _ _ _) |exact gLe.trans h (JO _ _ _ _ _ _) |skip
 all_goals first|(refine uC (gLe.trans h (oj _ _ _)) ?_;exact h) |(split <;>first|exact h|trivial|exact hgo _ _ h)
theorem MW (p:Program)(listen:Bool)(fr:Frame)(callers:List Frame)(dying:Option Dying)(w:World):gLe w (Go.stepG.oper p listen fr callers dying w):=by
 unfold Go.stepG.oper
 split
 ·trivial
 ·split
  ·exact re _ _ _ _ _ _ _
  ·exact re _ _ _ _ _ _ _
theorem GH {α:Type}{w:World}{o:Option α}{a:GStep}{f:α→GStep}(h1:gLe w a)(h2:∀ x,gLe w (f x)):gLe w (o.elim a f):=by cases o;exact h1;exact h2 _
theorem MX (p:Program)(main listen:Bool)(fr:Frame)(callers:List Frame)(dying:Option Dying)(w:World):gLe w (Go.stepG.exec p main listen fr callers dying w):=by
 unfold Go.stepG.exec
 extract_lets go to lost leave
 have hgo:∀ fr w0,w.drawn≤w0.drawn→gLe w (go fr w0):=fun fr w0 h0=>h0
 have hto:∀ k,gLe w (to k):=fun k=>Nat.le_refl _
 have hlost:∀ m,gLe w (lost m):=fun _=>trivial
 have hleave:∀ j,gLe w (leave j):=fun j=>by
  show gLe w (match fr.roundOf with|none=>_|some l=>_)
  split
  ·refine uC (hgo _ _ (Nat.le_refl _)) trivial
  ·rcases h:(Instr.endRound _ j).runT p w #[]with⟨r,es⟩
   have h:=mP h
   dsimp only
   refine gLe.after ?_
   split
   ·exact gLe.trans h (rb _ _ _ _ _ _ _)
   ·trivial
 have hgo1:∀ fr,gLe w (go fr w):=fun fr=>Nat.le_refl _
 clear_value to lost leave
 split
 all_goals first|exact hleave _|exact hto _|exact hlost _|trivial|exact GH (hleave _) hto|exact re _ _ _ _ _ _ _|exact GH (hlost _) (fun _=>re _ _ _ _ _ _ _) |skip
 ·split
  ·exact hto _
  ·exact hlost _
 ·rcases h:(Instr.enterLoop fr.fn fr.tmps _ _ _ fr.roundOf).runT p w #[]with⟨r,es⟩
  have h:=mP h
  dsimp only
  refine gLe.after ?_
  split
  ·exact gLe.trans h (re _ _ _ _ _ _ _)
  ·trivial
 ·rcases h:(Instr.endLoop _).runT p w #[]with⟨r,es⟩
  have h:=mP h
  dsimp only
  refine gLe.after ?_
  split
  ·exact hgo _ _ h
  ·exact hgo _ _ h
  ·trivial
 ·refine uC (hto _) ?_
  split
  ·rename_i h;exact hgo _ _ (g8 h)
  ·trivial
 ·exact uC (MW _ _ _ _ _ _) (hgo1 _)
theorem JP (p:Program)(main:Bool)(g:Goroutine)(w:World)(listen:Bool):gLe w (Go.stepG p main g w listen):=by
 unfold Go.stepG
 obtain⟨fr,callers,st,dying,off⟩:=g
 dsimp only
 split
 ·exact PS _ _ _ _
 ·exact MX _ _ _ _ _ _ _
 ·exact HN _ _ _ _ _ _
def sLe (w:World):Stepped→Prop
 | .next m=>w.drawn≤m.world.drawn
 | .ended .. =>True
theorem sLe.trans {w w':World}{s:Stepped}(h1:w.drawn≤w'.drawn)(h:sLe w' s):sLe w s:=by cases s <;>first|trivial|exact Nat.le_trans h1 h
theorem GI {c:Prop}[Decidable c]{w:World}{a b:Stepped}(h1:sLe w a)(h2:sLe w b):sLe w (if c then a else b):=by split <;>assumption
theorem GJ (p:Program)(gs:Array Goroutine)(rest:Rest)(w:World):sLe w (look p gs rest w):=by
 unfold look
 split
 ·extract_lets
  refine GI trivial ?_
  split
  ·trivial
  ·extract_lets
   split
   ·rename_i h
    have h:=g8 h
    exact h
   ·trivial
   ·trivial
 ·trivial
theorem BW {rest:Rest}{cases:Array CommCase}{w w':World}(h:waitingAt rest cases w=some w'):w.drawn≤w'.drawn:=by
 unfold waitingAt at h
 split at h
 ·split at h
  ·cases h;exact Nat.le_refl _
  ·cases h
 ·cases h;exact Nat.le_refl _
theorem yO (p:Program)(rest:Rest)(gs:Array Goroutine)(i:Nat)(g:Goroutine)(cases:Array CommCase)(bl:Bool)(shape:CommShape)(w:World):sLe w (communicate p rest gs i g cases bl shape w).1:=by
 unfold communicate
 extract_lets put illMade me other
 have hput:∀ g gs w0 ops,w.drawn≤w0.drawn→sLe w (put g gs w0 ops).1:=fun _ _ _ _ h=>h
 split
 ·trivial
 ·split
  ·split
   ·split
    ·rename_i h;exact BW h
    ·trivial
   ·exact hput _ _ _ _ (Nat.le_refl _)
  ·split
   ·trivial
   ·rename_i h
    have hw:=g8 h
    clear h
    extract_lets r
    split
    ·split
     ·rename_i h2;exact hput _ _ _ _ (Nat.le_trans hw (JN h2))
     ·trivial
    ·exact hput _ _ _ _ hw
    ·exact hput _ _ _ _ hw
    ·extract_lets
     split
     ·exact hput _ _ _ _ hw
     ·split
      ·rename_i h2;have h3:=g8 h2;exact hput _ _ _ _ (Nat.le_trans hw h3)
      ·trivial
    ·exact hput _ _ _ _ hw
    ·exact hput _ _ _ _ hw
    ·trivial
theorem AR (m:Machine)(k:Nat)(t:Timer)(a b:Nat):m.world.drawn≤(retime m k t a b).2.world.drawn:=by
 unfold retime drain
 dsimp only
 repeat' split
 all_goals first|exact Nat.le_refl _|skip
 all_goals (simp_all;try omega)
theorem Fv {m m':Machine}{op:TimerOp}{v:Value}(h:timerOp m op=.ok (v,m')):m.world.drawn≤m'.world.drawn:=by
 have named:∀ (D:Nat) (m0:Machine) var f,(∀ k t,D≤(f k t).2.world.drawn)→timerOp.named m0 var f=.ok (v,m')→D≤m'.world.drawn:=fun D m0 var f hf h=>by
  unfold timerOp.named at h
  split at h
  ·injection h with h
   exact Nat.le_trans (hf _ _) (Nat.le_of_eq (congrArg (fun x:Value×Machine=>x.2.world.drawn) h))
  ·cases h
 unfold timerOp at h
 split at h
 ·split at h
  ·cases h;exact Nat.le_refl _
  ·split at h
   ·split at h
    ·cases h
    ·cases h;exact Nat.le_refl _
   ·cases h
 ·exact named _ _ _ _ (fun k t=>AR _ _ _ _ _) h
 ·split at h
  ·rename_i m1 ho
   have h1:m.world.drawn≤m1.world.drawn:=by
    unfold timerOp.opened at ho
    split at ho
    ·split at ho
     ·cases ho;exact Nat.le_refl _
     ·cases ho
    ·cases ho;exact Nat.le_refl _
   exact Nat.le_trans h1 (named m1.world.drawn _ _ _ (fun k t=>AR _ _ _ _ _) h)
  ·cases h
 ·cases h;exact Nat.le_refl _
theorem JQ (p:Program)(m:Machine)(i:Nat)(listen:Bool):sLe m.world (Go.runT p m i listen).1:=by
 unfold Go.runT
 extract_lets rest world
 split
 extract_lets wake fn pos s ops done
 have hs:gLe m.world s:=JP _ _ _ _ _
 have hd:∀ r,(done r).1=r:=fun r=>rfl
 clear_value s done
 split
 all_goals try rw[hd]
 ·trivial
 ·split
  rename_i h
  have:=yO p rest ‹_› i ‹_› ‹_› ‹_› ‹_› ‹_›
  rw[h]at this
  exact sLe.trans hs this
 ·exact hs
 ·exact hs
 ·exact GI trivial hs
 ·exact hs
 ·exact sLe.trans hs (GJ _ _ _ _)
 ·exact hs
 ·exact hs
 ·split
  ·exact hs
  ·split
   ·rename_i h
    simp only[endThrow,dieOf]at h
    cases h
    exact hs
   ·trivial
  ·trivial
 ·split
  ·rename_i h;exact Nat.le_trans hs (Fv h)
  ·exact hs
  ·trivial
  ·trivial
theorem JR (p:Program)(m:Machine)(k:Nat):sLe m.world (serve p m k):=by
 unfold serve
 split
 ·trivial
 ·exact Nat.le_refl _
 ·extract_lets
  split
  ·trivial
  ·exact Nat.le_refl _
def mLe (w:World):Move→Prop
 | .goroutine m _=>w.drawn≤m.world.drawn
 | .machine s _=>sLe w s
theorem mLe.trans {w w':World}{s:Move}(h1:w.drawn≤w'.drawn)(h:mLe w' s):mLe w s:=by
 cases s
 ·exact Nat.le_trans h1 h
 ·exact sLe.trans h1 h
theorem yP (p:Program)(m:Machine):mLe m.world (askOn p m):=by
 unfold askOn
 extract_lets mono rs ds pick
 have hpick:∀ m0:Machine,m.world.drawn≤m0.world.drawn→mLe m.world (pick m0):=fun m0 h0=>by
  show mLe m.world (match (choose (.sched rs.length)).run p m0.world with| .halt _ w=>_| .ok k world=>_)
  split
  ·trivial
  ·rename_i h
   have h1:=g8 h
   split
   ·exact Nat.le_trans h0 h1
   ·split
    ·trivial
    ·rename_i h2
     have h2:=g8 h2
     exact Nat.le_trans h0 (Nat.le_trans h1 h2)
 clear_value pick rs ds
 split
 ·trivial
 ·rename_i h
  have hw:=g8 h
  clear h
  extract_lets m1
  split
  ·exact sLe.trans hw (JR p _ _)
  ·cases rs with
   |nil=>
    dsimp only
    split
    ·exact hw
    ·split
     ·exact hw
     ·split <;>trivial
   |cons r rs=>
    dsimp only
    split
    ·exact hpick _ hw
    ·split
     ·trivial
     ·rename_i h;have h2:=g8 h;exact hpick _ (Nat.le_trans hw h2)
     ·rename_i h;have h2:=g8 h;exact Nat.le_trans hw h2
     ·rename_i h;have h2:=g8 h;exact hpick _ (Nat.le_trans hw h2)
theorem Dl (p:Program)(m:Machine):mLe m.world (ask p m):=by
 unfold ask
 split
 ·split
  ·trivial
  ·rename_i h
   have hw:=g8 h
   have:=GJ p m.gs m.rest ‹World›
   split
   ·rename_i m2 h2
    rw[h2]at this
    exact mLe.trans (Nat.le_trans hw this) (yP p _)
   ·rename_i e h2
    exact sLe.trans hw this
  ·rename_i h
   have hw:=g8 h
   exact mLe.trans hw (yP p _)
 ·exact yP p m
theorem MY (p:Program)(m:Machine):mLe m.world (move p m):=by
 unfold move
 split
 ·split
  ·exact Nat.le_refl _
  ·trivial
 ·split
  ·split
   ·exact Nat.le_refl _
   ·exact Dl p _
  ·exact Dl p m
theorem MZ (p:Program)(m:Machine):sLe m.world (step p m):=by
 unfold step stepT
 have:=MY p m
 split
 ·rename_i h
  rw[h]at this
  exact sLe.trans this (JQ p _ _ _)
 ·rename_i h
  rw[h]at this
  exact this
theorem Dm {p:Program}{m m':Machine}(h:Steps p m m'):m.world.drawn≤m'.world.drawn:=by
 obtain⟨n,hn⟩:=h
 induction n generalizing m with
 |zero=>simp only[runN,Stepped.next.injEq]at hn;subst hn;exact Nat.le_refl _
 |succ n ih=>
  simp only[runN]at hn
  have:=MZ p m
  cases hs:step p m with
  |next m1=>
   rw[hs]at hn this
   exact Nat.le_trans this (ih hn)
  |ended o w=>rw[hs]at hn;cases hn
theorem Dn {P:Program}{f:FuncId}{args:Array Value}{w:World}{R:Ending→World→Prop}(h:Calls P f args w R):Calls P f args w fun e w'=>R e w'∧(e≠ .outgrown→w.drawn≤w'.drawn):=by
 intro cs
 obtain⟨e,w',fr,hr,hc,hf,hl⟩:=h cs
 refine⟨e,w',fr,⟨hr,fun hne=>?_⟩,hc,hf,hl⟩
 cases e with
 |returned v=>exact Dm (p:=P) hc
 |panicked c=>exact Dm (p:=P) hc
 |outgrown=>exact absurd rfl hne
end Go.Sx
end
section
namespace Go.Sx
open Go.RowKit Go.Shelf Go.Lib Go.Sort Go.Proofs
def T0:SV→Value
 | .v x=>x
 |_=>undef
def mQ (k:Tag)(x:k.T):List Value:=(cellsOf k x).map T0
def yQ (k:Tag):Prop:= ∀ (x:k.T) (s:SV),s∈cellsOf k x→∃ v,s=.v v∧v.oneCell'=true
def srt {α:Type}(cf:α→α→Int)(l:List α):List α:=l.mergeSort fun x y=>!(ltOf cf y x)
def apart {α:Type}(cf:α→α→Int)(l:List α):Prop:= ∀ x∈l,∀ y∈l,ltOf cf x y=false→ltOf cf y x=false→x=y
theorem Fx {α:Type}[Inhabited α]{cf:α→α→Int}(hO:SWO (ltOf cf)){l:List α}(h:apart cf l){d':Array α}(hp:PermIn 0 l.toArray.size l.toArray d')(hs:SortedIn (ltOf cf) 0 l.toArray.size d'):d'=(srt cf l).toArray:=by
 obtain⟨hsz,_,hperm⟩:=hp
 have e1:d'.extract 0 l.toArray.size=d':=by rw[←hsz];exact Array.extract_size
 rw[e1,Array.extract_size]at hperm
 have hperm:d'.toList.Perm l:=by simpa using hperm
 have:d'.toList=srt cf l:=by
  refine List.Perm.eq_of_pairwise (le:=fun x y=>(!ltOf cf y x)=true) ?_ ?_ ?_ (hperm.trans (List.mergeSort_perm _ _).symm)
  ·intro a b ha hb h1 h2
   simp only[Bool.not_eq_true']at h1 h2
   exact h a (hperm.subset ha) b ((List.mergeSort_perm _ _).subset hb) h2 h1
  ·rw[List.pairwise_iff_getElem]
   intro i j hi hj hij
   have:=hs i j (Nat.zero_le _) hij (by simp only[List.size_toArray]at hsz ⊢;simp only[Array.length_toList]at hj;omega)
   simp only[Array.length_toList]at hi hj
   rw[getElem!_pos d' i hi,getElem!_pos d' j hj]at this
   simpa using this
  ·refine List.pairwise_mergeSort (fun a b c h1 h2=>?_) (fun a b=>?_) l
   ·simp only[Bool.not_eq_true']at h1 h2 ⊢
    exact hO.ntrans c b a h2 h1
   ·simp only[Bool.or_eq_true,Bool.not_eq_true']
    cases h1:ltOf cf b a with
    |false=>exact .inl rfl
    |true=>
     right
     cases h2:ltOf cf a b with
     |false=>rfl
     |true=>
      have h3:=hO.trans a b a h2 h1
      rw[hO.irrefl]at h3;cases h3
 rw[←this]
section
variable {P:Program}{ρ:Ren}{F:Nat→Prop}{own:Own}{w:World}{k:Tag}
theorem HO (hk:yQ k){l:List k.T}{o:Nat}{cs:Array Value}(h:RowAt F own w k l o cs){i j:Nat}(hi:i<l.length)(hj:j<aa k):cs[o+i*aa k+j]? =(mQ k l[i])[j]?:=by
 have e1:=List.getElem?_eq_getElem hi
 have hlen:j< (cellsOf k l[i]).length:=by rw[bB];exact hj
 have e2:=List.getElem?_eq_getElem hlen
 obtain⟨u,h1,h2⟩:=h i _ e1 j _ e2
 obtain⟨v,h3,_⟩:=hk l[i] _ (List.getElem_mem hlen)
 rw[h1]
 unfold mQ
 rw[List.getElem?_map,e2]
 rw[h3]at h2 ⊢
 rw[bR h2]
 rfl
theorem HP (hk:yQ k){l:List k.T}{o:Nat}{cs:Array Value}(h:∀ i j,(hi:i<l.length)→j<aa k→cs[o+i*aa k+j]? =(mQ k l[i])[j]?):RowAt F own w k l o cs:=by
 intro i x hi j s hj
 obtain⟨hl,rfl⟩:=List.getElem?_eq_some_iff.1 hi
 have hlen:=(List.getElem?_eq_some_iff.1 hj).1
 rw[bB]at hlen
 have:=h i j hl hlen
 unfold mQ at this
 rw[List.getElem?_map,hj]at this
 obtain⟨v,h3,_⟩:=hk _ s (List.mem_of_getElem? hj)
 subst h3
 exact⟨v,this,.v v⟩
theorem M0 {w w':World}(hb:Go.RowKit.Below w.heap.size w w')(hd:w.drawn≤w'.drawn):∃ q os,w'=grow (w.drewN q) os:=by
 refine⟨w'.drawn - w.drawn,w'.heap.extract w.heap.size w'.heap.size,?_⟩
 obtain⟨h1,h2,h3,h4,h5⟩:=hb
 obtain⟨heap,tape,drawn,os,output⟩:=w
 obtain⟨heap',tape',drawn',os',output'⟩:=w'
 simp only at h1 h2 h3 h4 h5 hd
 subst h1;subst h2;subst h3
 unfold grow World.drewN
 simp only[World.mk.injEq,true_and,and_true]
 refine⟨?_,by omega⟩
 apply Array.ext
 ·simp;omega
 ·intro i hi1 hi2
  by_cases hi:i<heap.size
  ·rw[Array.getElem_append_left hi]
   have:=h5 i hi
   rw[Array.getElem?_eq_getElem hi1,Array.getElem?_eq_getElem hi]at this
   exact Option.some.inj this
  ·rw[Array.getElem_append_right (by omega)]
   simp only[Array.getElem_extract]
   congr 1;omega
end
end Go.Sx
end
section
namespace Go.Sx
open Go.RowKit Go.Shelf Go.Lib Go.Sort Go.Proofs
open Classical in
noncomputable def eO (k:Tag)(g:FuncId)(caps:List SV)(cf:k.T→k.T→Int):List SV→List Ob→Option HCon:=fun l h=>
 yB k (fun l0=>if l=[.os 0,.fn g [] caps]then some (vF (apart cf l0) (.tup []) [.row k (srt cf l0)])else none) h
@[go_sem] theorem lv {k:Tag}{g:FuncId}{caps:List SV}{cf:k.T→k.T→Int}{l0:List k.T}:eO k g caps cf [.os 0,.fn g [] caps] [.row k l0]=some (vF (apart cf l0) (.tup []) [.row k (srt cf l0)]):=by
 simp[eO,yB]
section
variable {P:Program}{ρ:Ren}{k:Tag}
theorem JS {w:World}{b:Nat}{cs:Array Value}{ty:TypeId}(hb:w.heap[b]? =some (.cells cs ty (0,0)))(D:Array Value)(o:Nat):(putRow id w b o D).heap[b]? =some (.cells (putCells id o D cs) ty (0,0)):=by
 unfold putRow mapBlock
 simp only[Array.getElem?_modify,if_true,hb]
 rfl
theorem Do {w:World}{b c:Nat}(hc:c≠b)(D:Array Value)(o:Nat):(putRow id w b o D).heap[c]? =w.heap[c]?:=by
 unfold putRow mapBlock
 simp only[Array.getElem?_modify]
 rw[if_neg (fun e=>hc e.symm)]
theorem BX {D cs:Array Value}{o t:Nat}(ht:t<D.size)(hs:o+t<cs.size):(putCells id o D cs)[o+t]? =D[t]?:=by
 unfold putCells
 rw[Array.getElem?_mapIdx,Array.getElem?_eq_getElem hs]
 simp only[Option.map_some]
 rw[if_pos (by omega),Array.getElem?_eq_getElem ht]
 have:o+t - o=t:=by omega
 rw[this,getElem!_pos D t ht]
 rfl
theorem Dp {α:Type}[Inhabited α]{enc:α→List Value}{n:Nat}(hn:∀ x,(enc x).length=n){d:Array α}{i j:Nat}(hi:i<d.size)(hj:j<n):(flatK enc n d)[i*n+j]? =(enc d[i]!)[j]?:=by
 have hlt:i*n+j<d.size*n:=by
  have:=Nat.mul_le_mul_right n (show i+1≤d.size from hi)
  rw[Nat.succ_mul]at this;omega
 have h1:i*n+j< (flatK enc n d).size:=by rw[size_flatK];exact hlt
 rw[Array.getElem?_eq_getElem h1,←getElem!_pos (flatK enc n d) _ h1,get_flatK enc n d _ hlt]
 have hd:(i*n+j) / n=i:=by
  rw[Nat.mul_comm,Nat.mul_add_div (by omega),Nat.div_eq_of_lt hj];omega
 have hm:(i*n+j) % n=j:=by
  rw[Nat.mul_comm,Nat.mul_add_mod,Nat.mod_eq_of_lt hj]
 rw[hd,hm]
 have hj':j< (enc d[i]!).length:=by rw[hn];exact hj
 rw[List.getElem?_eq_getElem hj',getElem!_pos (enc d[i]!) j hj']
theorem sw_b {α:Type}[Inhabited α]{enc:α→List Value}{n b o m:Nat}{w:World}{cs:Array Value}{ty:TypeId}(hb:w.heap[b]? =some (.cells cs ty (0,0)))(d:Array α)(os:Array Obj):(sortWorldK enc n w b o m d os).heap[b]? =some (.cells (putCells id o (flatK enc n d) cs) ty (0,0)):=by
 have hlt:b<w.heap.size:=(Array.getElem?_eq_some_iff.1 hb).1
 unfold sortWorldK grow
 simp only
 rw[Array.getElem?_append_left (by unfold putRowK putRow mapBlock Sort.ahead;simpa using hlt)]
 exact JS (w:=Sort.ahead w m) hb _ _
theorem N5 {α:Type}[Inhabited α]{enc:α→List Value}{n b o m c:Nat}{w:World}(hc:c<w.heap.size)(hne:c≠b)(d:Array α)(os:Array Obj):(sortWorldK enc n w b o m d os).heap[c]? =w.heap[c]?:=by
 unfold sortWorldK grow
 simp only
 rw[Array.getElem?_append_left (by unfold putRowK putRow mapBlock Sort.ahead;simpa using hc)]
 exact Do (w:=Sort.ahead w m) hne _ _
theorem BY {α:Type}[Inhabited α]{enc:α→List Value}{n b o m:Nat}{w:World}(d:Array α)(os:Array Obj):w.heap.size≤(sortWorldK enc n w b o m d os).heap.size:=by
 unfold sortWorldK grow putRowK putRow mapBlock Sort.ahead
 simp
theorem ol (L:SlLaysF0.n6 P ρ)(aE:∀ w,(isAgg (ρ.t 24)).run P w=.ok true w)(zE:∀ w,(Go.sizeOf (ρ.t 24)).run P w=.ok (aa k) w)(hk:yQ k)(h0:0<aa k){g:FuncId}{caps:List SV}{C:List SV→Option Con}(hC:FnOk P g C){cf:k.T→k.T→Int}
  (hcf:∀ x y,C (.agg (cellsOf k x):: .agg (cellsOf k y)::caps)=some (.det True (.v (.int .i64 (cf x y))))) (hO:SWO (ltOf cf)) (hpf:∀ s∈caps,PF s) (hcf0:∃ x y,C (.agg (cellsOf k x):: .agg (cellsOf k y)::caps)=some (.det True (.v (.int .i64 (cf x y))))):FnOkO P (ρ.f 6) (eO k g caps cf):=by
 haveI:Inhabited k.T:=⟨dN k⟩
 refine⟨fun l h c hc args w=>L.f6.enters rfl args w,fun l h c hc hp F own w vs hHp hvs=>?_⟩
 unfold eO at hc
 obtain⟨l0,hh,hK⟩:=uj hc
 clear hc
 subst hh
 by_cases hl:l=[.os 0,.fn g [] caps]
 rotate_left
 ·rw[if_neg hl]at hK;cases hK
 rw[if_pos hl]at hK
 subst hl
 cases hK
 have hp:apart cf l0:=hp
 obtain⟨hsz,hrel⟩:=hvs
 have r0:=hrel 0 _ rfl
 have r1:=hrel 1 _ rfl
 have hvs2:vs= #[vs.getD 0 undef,vs.getD 1 undef]:=by
  apply Array.ext
  ·simpa using hsz
  ·intro i h1 h2
   simp only[List.length_cons,List.length_nil]at hsz
   match i,h1,h2 with
   |0,h1,_=>simp[Array.getD,h1]
   |1,h1,_=>simp[Array.getD,h1]
   |i+2,h1,_=>omega
 generalize vs.getD 0 undef=v0 at r0 hvs2
 generalize vs.getD 1 undef=v1 at r1 hvs2
 subst hvs2
 obtain⟨hd,o0,rfl,_⟩:=gb r0
 obtain⟨hd',o0',hrow⟩:=hHp.at (id:=0) (o:=.row k l0) rfl rfl
 rw[o0]at o0'
 cases o0'
 have hrow:RowRel F own w k l0 hd.v hd.bs:=hrow
 cases r1 with
 | @fn _ _ _ us cs s1 s2 c1 c2=>
 have hus:us= #[]:=Array.eq_empty_of_size_eq_zero (by simpa using s1)
 subst hus
 rcases hrow with⟨a,e1,rfl,e2⟩ | ⟨b,o,cap,cells,ty,e1,e2,e3,e4,e5,e6,e7⟩
 ·rw[e1]
  refine(AnyF.slices_SortFunc_none L a 0 _ w).mono fun e w' he=>?_
  obtain⟨rfl,rfl⟩:=he
  refine⟨(),own,trivial,⟨_,rfl,.tup rfl fun j s hj=>by simp at hj⟩,?_,Fr.refl _,Nat.le_refl _⟩
  have:srt cf ([]:List k.T)=[]:=by simp[srt]
  rw[this]
  exact hHp
 ·have hbown:b∈hd.bs:=by rw[e2];simp
  have hbw:b<w.heap.size:=hHp.lt 0 hd b o0 hbown
  have hkl:∀ x:k.T,(mQ k x).length=aa k:=fun x=>by unfold mQ;rw[List.length_map,bB]
  have hone:∀ x:k.T,∀ v∈mQ k x,v.oneCell'=true:=fun x v hv=>by
   unfold mQ at hv
   rw[List.mem_map]at hv
   obtain⟨s,hs,rfl⟩:=hv
   obtain⟨v,rfl,h1⟩:=hk x s hs
   exact h1
  have eg:∀ args w,(callFunc g args).run P w=.ok (.enter g args) w:=fun args w=>by
   obtain⟨x,y,hxy⟩:=hcf0
   exact hC.enter _ _ hxy args w
  have hown:∀ id h2,own id=some h2→id=0:=fun id h2 e=>by have:=hHp.dom id h2 e;simpa using this
  have hH:HoldsK (mQ k) (aa k) w b o l0.toArray:=by
   intro t ht
   rw[size_flatK]at ht
   simp only[List.size_toArray]at ht
   have hi:t / aa k<l0.length:=Nat.div_lt_of_lt_mul (by rw[Nat.mul_comm];exact ht)
   have hj:=Nat.mod_lt t h0
   have ht':t=t / aa k*aa k+t % aa k:=(Nat.div_add_mod' t _).symm
   have q1:=HO hk e7 hi hj
   have q2:=Dp (enc:=mQ k) hkl (d:=l0.toArray) (i:=t / aa k) (j:=t % aa k) (by simpa using hi) hj
   rw[←ht']at q2
   rw[Nat.add_assoc,←ht']at q1
   have hl0:l0.toArray[t / aa k]! =l0[t / aa k]:=by rw[getElem!_pos l0.toArray _ (by simpa using hi)];rfl
   rw[hl0]at q2
   have hlt:t< (flatK (mQ k) (aa k) l0.toArray).size:=by rw[size_flatK];simpa using ht
   constructor
   ·unfold World.cell?
    rw[e3]
    dsimp only
    rw[q1,←q2,Array.getElem?_eq_getElem hlt,getElem!_pos _ t hlt]
    rfl
   ·unfold World.frozen?
    rw[e3]
    simp
  have hcmp:CmpLays P g cs (mQ k) (aa k) cf b o l0.toArray.size w:=by
   intro m os dk hdk x y
   generalize hW:sortWorldK (mQ k) (aa k) w b o m dk os=W
   have hcar:Carries F own w F own W:=⟨fun _ h2 e=>⟨h2,e,.refl _⟩,fun c hc hn=>⟨hn,by
    rw[←hW]
    exact N5 hc (fun e=>hn (.inr ⟨0,hd,o0,e▸hbown⟩)) _ _⟩⟩
   have henc:∀ z:k.T,Rel (fun _=>False) cj W (.agg (cellsOf k z)) (.agg (mQ k z).toArray):=fun z=>by
    refine .agg (by simp[mQ]) fun j s hj=>?_
    obtain⟨v,rfl,_⟩:=hk z s (List.mem_of_getElem? hj)
    have:(mQ k z).toArray.getD j undef=v:=by
     unfold mQ
     rw[Array.getD_eq_getD_getElem?,List.getElem?_toArray,List.getElem?_map,hj]
     rfl
    rw[this];exact .v v
   have hcall:=Dn (hC.calls _ _ (hcf x y) trivial (fun _=>False) W (#[.agg (mQ k x).toArray,.agg (mQ k y).toArray]++cs) (fun _ h=>h.elim) ⟨by simp[c1];omega,fun j s hj=>by
    match j,hj with
    |0,hj=>
     cases hj
     rw[Array.getD_eq_getD_getElem?,Array.getElem?_append_left (by simp)]
     exact henc x
    |1,hj=>
     cases hj
     rw[Array.getD_eq_getD_getElem?,Array.getElem?_append_left (by simp)]
     exact henc y
    |j+2,hj=>
     have hj:caps[j]? =some s:=hj
     have:=((c2 j s hj).carry hcar).over (hpf s (List.mem_of_getElem? hj)) (F':=fun _=>False) (own':=cj) fun _ _ h=>by
      rcases h with h| ⟨_,_,h,_⟩
      ·exact h
      ·cases h
     have e:(#[Value.agg (mQ k x).toArray,.agg (mQ k y).toArray]++cs).getD (j+2) undef=cs.getD j undef:=by
      rw[Array.getD_eq_getD_getElem?,Array.getD_eq_getD_getElem?,Array.getElem?_append_right (by simp)]
      simp
     rw[e];exact this⟩)
   refine hcall.mono fun e w' hq=>?_
   obtain⟨he,hdr⟩:=hq
   rcases he with⟨s,u,own',hs,rfl,hh,hb⟩ | ⟨z,hz,_⟩
   ·simp only[cX]at hs
    subst hs
    have:=hh.val
    simp only[qG]at this
    rw[bR this]
    exact⟨rfl,M0 hb (hdr (by simp))⟩
   ·exact hz.elim
  have hall:=AnyQ.slices_SortFunc L (aa k) aE zE (mQ k) hkl hone cf hO g cs b o cap l0.toArray w eg hcmp hH hbw (by unfold ba at e6;simp only[List.size_toArray];omega)
  rw[e1]
  refine hall.mono fun e w' he=>?_
  obtain⟨rfl,d',n,os,hpm,hst,rfl⟩:=he
  have hd':=Fx hO hp hpm hst
  subst hd'
  have hlS:(srt cf l0).length=l0.length:=List.length_mergeSort _
  generalize srt cf l0=lS at hlS
  have hsb:=sw_b (enc:=mQ k) (n:=aa k) (o:=o) (m:=n) e3 lS.toArray os
  refine⟨(),own,trivial,⟨_,rfl,.tup rfl fun j s hj=>by simp at hj⟩,?_,?_,Nat.le_refl _⟩
  ·refine⟨hHp.dom,fun c hc=>Nat.lt_of_lt_of_le (hHp.foreign c hc) (BY _ _),hHp.apart,hHp.inj,fun i h2 c e hc=>Nat.lt_of_lt_of_le (hHp.lt i h2 c e hc) (BY _ _),fun i hi=>?_⟩
   match i,hi with
   |0,_=>
    refine⟨hd,o0,?_⟩
    show RowRel F own _ k lS hd.v hd.bs
    refine .inr ⟨b,o,cap,_,ty,by rw[hlS];exact e1,e2,hsb,?_,by omega,by omega,HP hk fun i j hi hj=>?_⟩
    ·unfold putCells;simpa using e4
    ·have hlt:i*aa k+j< (flatK (mQ k) (aa k) lS.toArray).size:=by
      rw[size_flatK]
      have:=Nat.mul_le_mul_right (aa k) (show i+1≤lS.length from hi)
      rw[Nat.succ_mul]at this
      simp only[List.size_toArray];omega
     have hle:o+(i*aa k+j) <cells.size:=by
      rw[size_flatK]at hlt
      simp only[List.size_toArray]at hlt
      have:=Nat.mul_le_mul_right (aa k) (show lS.length≤cap by omega)
      omega
     rw[Nat.add_assoc,BX hlt hle,Dp hkl (by simpa using hi) hj]
     have:lS.toArray[i]! =lS[i]:=by rw[getElem!_pos lS.toArray _ (by simpa using hi)];rfl
     rw[this]
   |i+1,hi=>rw[oM (by simp)]at hi;cases hi
  ·refine⟨fun _ h2 e=>⟨h2,e,.refl _⟩,(Fr.refl { w:=w,own:=own}).base,rfl,rfl,rfl,BY _ _,fun c hc=>?_⟩
   exact N5 hc.1 (fun e=>hc.2 ⟨0,hd,o0,e▸hbown⟩) _ _
end
end Go.Sx
end
section
namespace Go.Proofs
open Go.Shelf
def Tryz.sortL_ren:Go.Shelf.Ren:=⟨fun|6=>97|15=>112|14=>130|28=>146|29=>147|20=>155|21=>156|22=>157|23=>158|24=>159|25=>160|26=>161|27=>162|46=>177|47=>167|48=>168|49=>178|50=>179|57=>185|n=>n,fun|22=>35|24=>54|25=>85|3=>3|39=>166|0=>0|53=>202|55=>204|4=>4|46=>196|45=>195|50=>147|5=>5|9=>9|66=>215|70=>219|76=>227|77=>228|n=>n,fun|n=>n⟩
theorem Tryz.sortL:Go.Proofs.SlLaysF0.n6 Tryz.prog Tryz.sortL_ren:= {
 mixed:=by kernel_rfl
 f6:=⟨Tryz.f97.name,by decide,Tryz.func97.trans (congrArg some (by kernel_rfl))⟩
 f14:=⟨Tryz.f130.name,by decide,Tryz.func130.trans (congrArg some (by kernel_rfl))⟩
 f15:=Tryz.func112.trans (congrArg some (by kernel_rfl))
 f20:=⟨Tryz.f155.name,by decide,Tryz.func155.trans (congrArg some (by kernel_rfl))⟩
 f21:=⟨Tryz.f156.name,by decide,Tryz.func156.trans (congrArg some (by kernel_rfl))⟩
 f22:=⟨Tryz.f157.name,by decide,Tryz.func157.trans (congrArg some (by kernel_rfl))⟩
 f23:=⟨Tryz.f158.name,by decide,Tryz.func158.trans (congrArg some (by kernel_rfl))⟩
 f24:=⟨Tryz.f159.name,by decide,Tryz.func159.trans (congrArg some (by kernel_rfl))⟩
 f25:=⟨Tryz.f160.name,by decide,Tryz.func160.trans (congrArg some (by kernel_rfl))⟩
 f26:=⟨Tryz.f161.name,by decide,Tryz.func161.trans (congrArg some (by kernel_rfl))⟩
 f27:=⟨Tryz.f162.name,by decide,Tryz.func162.trans (congrArg some (by kernel_rfl))⟩
 f28:=Tryz.func146.trans (congrArg some (by kernel_rfl))
 f29:=Tryz.func147.trans (congrArg some (by kernel_rfl))
 f46:=⟨Tryz.f177.name,by decide,Tryz.func177.trans (congrArg some (by kernel_rfl))⟩
 f47:=Tryz.func167.trans (congrArg some (by kernel_rfl))
 f48:=Tryz.func168.trans (congrArg some (by kernel_rfl))
 f49:=⟨Tryz.f178.name,by decide,Tryz.func178.trans (congrArg some (by kernel_rfl))⟩
 f50:=⟨Tryz.f179.name,by decide,Tryz.func179.trans (congrArg some (by kernel_rfl))⟩
 f57:=⟨Tryz.f185.name,by decide,Tryz.func185.trans (congrArg some (by kernel_rfl))⟩
 t0:=Tryz.underlying0
 a0:=Tryz.isAgg0
 z0:=Tryz.sizeOf0
 v0:=Tryz.zeroValue0
 t3:=Tryz.underlying3
 a3:=Tryz.isAgg3
 z3:=Tryz.sizeOf3
 v3:=Tryz.zeroValue3
 t4:=Tryz.underlying4
 a4:=Tryz.isAgg4
 z4:=Tryz.sizeOf4
 v4:=Tryz.zeroValue4
 t5:=Tryz.underlying5
 a5:=Tryz.isAgg5
 z5:=Tryz.sizeOf5
 v5:=Tryz.zeroValue5
 t9:=Tryz.underlying9
 a9:=Tryz.isAgg9
 z9:=Tryz.sizeOf9
 v9:=Tryz.zeroValue9
 t22:=Tryz.underlying35
 a22:=Tryz.isAgg35
 z22:=Tryz.sizeOf35
 v22:=Tryz.zeroValue35
 t25:=Tryz.underlying85
 a25:=Tryz.isAgg85
 z25:=Tryz.sizeOf85
 v25:=Tryz.zeroValue85
 t39:=Tryz.underlying166
 a39:=Tryz.isAgg166
 z39:=Tryz.sizeOf166
 v39:=Tryz.zeroValue166
 t45:=Tryz.underlying195
 a45:=Tryz.isAgg195
 z45:=Tryz.sizeOf195
 v45:=Tryz.zeroValue195
 t46:=Tryz.underlying196
 a46:=Tryz.isAgg196
 z46:=Tryz.sizeOf196
 v46:=Tryz.zeroValue196
 t50:=Tryz.underlying147
 a50:=Tryz.isAgg147
 z50:=Tryz.sizeOf147
 v50:=Tryz.zeroValue147
 t53:=Tryz.underlying202
 a53:=Tryz.isAgg202
 z53:=Tryz.sizeOf202
 v53:=Tryz.zeroValue202
 t55:=Tryz.underlying204
 a55:=Tryz.isAgg204
 z55:=Tryz.sizeOf204
 v55:=Tryz.zeroValue204
 t66:=Tryz.underlying215
 a66:=Tryz.isAgg215
 z66:=Tryz.sizeOf215
 v66:=Tryz.zeroValue215
 t70:=Tryz.underlying219
 a70:=Tryz.isAgg219
 z70:=Tryz.sizeOf219
 v70:=Tryz.zeroValue219
 t76:=Tryz.underlying227
 a76:=Tryz.isAgg227
 z76:=Tryz.sizeOf227
 v76:=Tryz.zeroValue227
 t77:=Tryz.underlying228
 a77:=Tryz.isAgg228
 z77:=Tryz.sizeOf228
 v77:=Tryz.zeroValue228}
end Go.Proofs
end
section
namespace Go.Sx
open Go.Proofs
set_option maxRecDepth 100000
set_option linter.unusedSimpArgs false
@[go_sem] def nI (l_:List Int)(k_0:Nat)(s_0:Unit):Int⊕Unit:=(bif((l_.getD k_0 (0:Int)) !=0)then .inl (l_.getD k_0 (0:Int))else .inr ())
def bD (l_:List Int):Int:=(match aw (nI l_) l_.length 0 ()with| .inl x_0_0=>x_0_0| .inr s_0=>0)
@[go_sem] def fA:List SV→Option Con:=(pR .int fun l_=>(pE (.det True (.v (.int .i64 (bD l_))))))
theorem gi:FnOk Tryz.prog 69 fA:=by
 have hG:ConsOk Tryz.prog (mkG [] []):=aC cg0 cg0
 refine aI [.o] mixed ax hG (fn:=Tryz.f69) (c:=ae Tryz.f69) (by kernel_rfl) (by kernel_rfl) (by kernel_rfl) (by kernel_rfl) (cg fun l_=>(aB (fun hp=>?_)))
 dsimp only[aD]at hp
 refine⟨Nat.le_of_ble_eq_true rfl,(fun id st=>bif Nat.beq id 0 then some (LCR (ρ:=Int) (σ:=Unit) 0 [] [] (fun k_0 s_0=>⟨[(5,.rs .int l_),(6,.v (.int .i64 (l_.length:Int))),(7,.v (.int .i64 (k_0:Int)))],[]⟩) (nI l_) pT l_.length () (l_.length≤ba) (fun _=>.ret) (fun x_0_0=>⟨[(2,.v (.int .i64 x_0_0))],[]⟩) st)else none),?_,?_⟩
 ·unfold ae Tryz.f69
  simp only[az,true_and,and_true]
  ·refine dy mixed ax hG (by kernel_rfl) (fun _=>rfl) (l_.length:Int) rfl g6 (fun hb0 k_0 s_0 hlt0 _ hw hc=>⟨L0,aj _,?_⟩) (fun hb0 s_0 hc=>?_)
   ·exact l7
   ·exact l8
 ·unfold ae Tryz.f69
  try unfold bD
  simp only[go_sem,Nat.reduceBEq,Nat.reduceLeDiff,Nat.reduceLT,decide_true,Nat.reduceAdd,Nat.reduceSub,Nat.reduceMul,Int.reduceLE,Int.reduceLT,Int.reduceToNat,Int.reduceNeg,reduceCtorEq]
  all_goals exact cl
def ap (a:Order)(b:Order):Int:=(bD ([(aO a.hour b.hour),(aO a.index b.index)]))
@[go_sem] def kB:List SV→Option Con:=(pD .order fun a=>(pD .order fun b=>(pE (.det True (.v (.int .i64 (ap a b)))))))
theorem px:FnOk Tryz.prog 108 kB:=by
 have hG:ConsOk Tryz.prog (mkG [(69,fun l=>fA (ci [.sl .int] l)),(70,c6)] []):=aC (cgc (gi.norm [.sl .int]) (cgc dD cg0)) cg0
 refine aI [.o] mixed ax hG (fn:=Tryz.f108) (c:=ae Tryz.f108) (by kernel_rfl) (by kernel_rfl) (by kernel_rfl) (by kernel_rfl) (aN fun a=>(aN fun b=>(aB (fun hp=>?_))))
 dsimp only[aD]at hp
 refine⟨Nat.le_of_ble_eq_true rfl,L0,aj _,?_⟩
 ·unfold ae Tryz.f108
  try unfold ap
  simp only[go_sem,Nat.reduceBEq,Nat.reduceLeDiff,Nat.reduceLT,decide_true,Nat.reduceAdd,Nat.reduceSub,Nat.reduceMul,Int.reduceLE,Int.reduceLT,Int.reduceToNat,Int.reduceNeg,reduceCtorEq]
  all_goals exact cl
def j4 (x:Order):Bool:=(decide (x.litres > 1073741824))
@[go_sem] def mE:List SV→Option Con:=(pD .order fun x=>(pE (.det True (.v (.bool (j4 x))))))
theorem rf:FnOk Tryz.prog 65 mE:=by
 have hG:ConsOk Tryz.prog (mkG [] []):=aC cg0 cg0
 refine aI [.o] mixed ax hG (fn:=Tryz.f65) (c:=ae Tryz.f65) (by kernel_rfl) (by kernel_rfl) (by kernel_rfl) (by kernel_rfl) (aN fun x=>(aB (fun hp=>?_)))
 dsimp only[aD]at hp
 refine⟨Nat.le_of_ble_eq_true rfl,L0,aj _,?_⟩
 ·unfold ae Tryz.f65
  try unfold j4
  simp only[go_sem,Nat.reduceBEq,Nat.reduceLeDiff,Nat.reduceLT,decide_true,Nat.reduceAdd,Nat.reduceSub,Nat.reduceMul,Int.reduceLE,Int.reduceLT,Int.reduceToNat,Int.reduceNeg,reduceCtorEq]
  all_goals exact cl
def bJ (a:Claim)(b:Claim):Int:=(bD ([(aO a.rank b.rank),(aO a.right b.right),(aO a.farm b.farm),(aO a.hour b.hour)]))
@[go_sem] def jr:List SV→Option Con:=(pD .claim fun a=>(pD .claim fun b=>(pE (.det True (.v (.int .i64 (bJ a b)))))))
theorem mF:FnOk Tryz.prog 36 jr:=by
 have hG:ConsOk Tryz.prog (mkG [(69,fun l=>fA (ci [.sl .int] l)),(70,c6)] []):=aC (cgc (gi.norm [.sl .int]) (cgc dD cg0)) cg0
 refine aI [.o] mixed ax hG (fn:=Tryz.f36) (c:=ae Tryz.f36) (by kernel_rfl) (by kernel_rfl) (by kernel_rfl) (by kernel_rfl) (aN fun a=>(aN fun b=>(aB (fun hp=>?_))))
 dsimp only[aD]at hp
 refine⟨Nat.le_of_ble_eq_true rfl,L0,aj _,?_⟩
 ·unfold ae Tryz.f36
  try unfold bJ
  simp only[go_sem,Nat.reduceBEq,Nat.reduceLeDiff,Nat.reduceLT,decide_true,Nat.reduceAdd,Nat.reduceSub,Nat.reduceMul,Int.reduceLE,Int.reduceLT,Int.reduceToNat,Int.reduceNeg,reduceCtorEq]
  all_goals exact cl
def bC (a:Claim)(b:Claim):Int:=(bD ([(aO a.hour b.hour),(bJ a b)]))
@[go_sem] def kC:List SV→Option Con:=(pD .claim fun a=>(pD .claim fun b=>(pE (.det True (.v (.int .i64 (bC a b)))))))
theorem py:FnOk Tryz.prog 71 kC:=by
 have hG:ConsOk Tryz.prog (mkG [(36,jr),(69,fun l=>fA (ci [.sl .int] l)),(70,c6)] []):=aC (cgc mF (cgc (gi.norm [.sl .int]) (cgc dD cg0))) cg0
 refine aI [.o] mixed ax hG (fn:=Tryz.f71) (c:=ae Tryz.f71) (by kernel_rfl) (by kernel_rfl) (by kernel_rfl) (by kernel_rfl) (aN fun a=>(aN fun b=>(aB (fun hp=>?_))))
 dsimp only[aD]at hp
 refine⟨Nat.le_of_ble_eq_true rfl,L0,aj _,?_⟩
 ·unfold ae Tryz.f71
  try unfold bC
  simp only[go_sem,Nat.reduceBEq,Nat.reduceLeDiff,Nat.reduceLT,decide_true,Nat.reduceAdd,Nat.reduceSub,Nat.reduceMul,Int.reduceLE,Int.reduceLT,Int.reduceToNat,Int.reduceNeg,reduceCtorEq]
  all_goals exact cl
end Go.Sx
end
section
namespace Go.Sx
open Go.Proofs
theorem pz (x:Int)(l:List Int):bD (x::l)=if x=0 then bD l else x:=by
 have key:∀ l:List Int,bD l=match cF (ρ:=Int) (fun(x:Int) (_:Unit) =>bif(x !=0)then .inl x else .inr ()) l ()with| .inl y=>y| .inr _=>0:=fun l=>by
  unfold bD
  have:=BN (ρ:=Int) (fun(x:Int) (_:Unit) =>bif(x !=0)then .inl x else .inr ()) 0 l ()
  rw[←this]
  rfl
 rw[key,key]
 simp only[cF]
 by_cases h:x=0
 ·subst h;rfl
 ·have:(x !=0)=true:=by simpa using h
  rw[if_neg h,this];rfl
theorem AS:bD []=0:=rfl
def o6:List (Int×Int)→Prop
 | [] =>False
 |(a,b)::r=>a<b∨a=b∧o6 r
theorem vO:∀ l:List (Int×Int),(bD (l.map fun p=>aO p.1 p.2) <0↔o6 l)
 | [] =>by simp[AS,o6]
 |(a,b)::r=>by
  have hc:=fw a b
  simp only[List.map_cons,pz,hc,o6]
  rcases Int.lt_trichotomy a b with h|h|h
  ·simp[h]
  ·subst h
   simp only[Int.lt_irrefl,if_false,if_true,true_and,false_or,gt_iff_lt]
   exact vO r
  ·have h1:¬a<b:=by omega
   have h2:a≠b:=by omega
   simp[h1,h2,h]
theorem AT (x:Int):bD [x]=x:=by
 rw[pz,AS]
 split <;>omega
def HQ (a b:Order):Prop:=o6 [(a.hour,b.hour),(a.index,b.index)]
theorem pA (a b:Order):ap a b<0↔HQ a b:=vO [(a.hour,b.hour),(a.index,b.index)]
def slt (a b:Claim):Prop:=o6 [(a.rank,b.rank),(a.right,b.right),(a.farm,b.farm),(a.hour,b.hour)]
theorem vP (a b:Claim):bJ a b<0↔slt a b:=vO [(a.rank,b.rank),(a.right,b.right),(a.farm,b.farm),(a.hour,b.hour)]
def clt (a b:Claim):Prop:=o6 [(a.hour,b.hour),(a.rank,b.rank),(a.right,b.right),(a.farm,b.farm)]
theorem yR (a b:Claim):bC a b<0↔clt a b:=by
 unfold bC
 rw[pz,AT,fw]
 have h:=vP a b
 simp only[slt,clt,o6,and_false,or_false]at h ⊢
 rcases Int.lt_trichotomy a.hour b.hour with e|e|e
 ·simp only[e,if_true]
  have:¬ ((-1:Int)=0):=by omega
  rw[if_neg this]
  simp
 ·simp only[e,Int.lt_irrefl,gt_iff_lt,if_false,if_true,false_or,true_and]
  rw[h];omega
 ·have h1:¬a.hour<b.hour:=by omega
  have h2:¬a.hour=b.hour:=by omega
  simp only[h1,gt_iff_lt,e,if_true,if_false,false_or,h2,false_and,iff_false]
  have:¬ ((1:Int)=0):=by omega
  rw[if_neg this];omega
open Go.Shelf Go.Sort in
theorem Fy {α:Type}{f:α→α→Int}{r:α→α→Prop}(e:∀ x y,f x y<0↔r x y)(h1:∀ x,¬r x x)(h2:∀ x y z,r x y→r y z→r x z)(h3:∀ x y z,¬r x y→¬r y z→¬r x z):SWO (ltOf f):=by
 have e1:∀ x y,ltOf f x y=true↔r x y:=fun x y=>by unfold ltOf;rw[decide_eq_true_eq,e]
 have e2:∀ x y,ltOf f x y=false↔¬r x y:=fun x y=>by rw[←e1];simp
 exact⟨fun x=>(e2 x x).2 (h1 x),fun x y z a b=>(e1 x z).2 (h2 x y z ((e1 x y).1 a) ((e1 y z).1 b)),fun x y z a b=>(e2 x z).2 (h3 x y z ((e2 x y).1 a) ((e2 y z).1 b))⟩
open Go.Shelf Go.Sort in
theorem et:SWO (ltOf ap):=Fy pA (fun x=>by simp only[HQ,o6,and_false,or_false];omega) (fun x y z h1 h2=>by simp only[HQ,o6,and_false,or_false]at *;omega) (fun x y z h1 h2=>by simp only[HQ,o6,and_false,or_false]at *;omega)
open Go.Shelf Go.Sort in
theorem yS:SWO (ltOf bJ):=Fy vP (fun x=>by simp only[slt,o6,and_false,or_false];omega) (fun x y z h1 h2=>by simp only[slt,o6,and_false,or_false]at *;omega) (fun x y z h1 h2=>by simp only[slt,o6,and_false,or_false]at *;omega)
open Go.Shelf Go.Sort in
theorem oo:SWO (ltOf bC):=Fy yR (fun x=>by simp only[clt,o6,and_false,or_false];omega) (fun x y z h1 h2=>by simp only[clt,o6,and_false,or_false]at *;omega) (fun x y z h1 h2=>by simp only[clt,o6,and_false,or_false]at *;omega)
end Go.Sx
end
section
namespace Go.Sx
open Go.RowKit
def orC {α:Type 1}:Option α→Option α→Option α
 |some x,_=>some x
 |none,y=>y
@[go_sem] theorem T3 {α:Type 1}{x:α}{y:Option α}:orC (some x) y=some x:=(rfl)
@[go_sem] theorem T4 {α:Type 1}{y:Option α}:orC none y=y:=(rfl)
theorem r9 {α:Type 1}{a b:Option α}{c:α}(h:orC a b=some c):a=some c∨b=some c:=by
 cases a with
 |none=>exact .inr h
 |some x=>exact .inl h
theorem FnOkO.or {P:Program}{f:FuncId}{C D:List SV→List Ob→Option HCon}(h1:FnOkO P f C)(h2:FnOkO P f D):FnOkO P f (fun l h=>orC (C l h) (D l h)):=
 ⟨fun l h c hc=>by rcases r9 hc with e|e;exact h1.enter l h c e;exact h2.enter l h c e,
  fun l h c hc=>by rcases r9 hc with e|e;exact h1.calls l h c e;exact h2.calls l h c e⟩
theorem FnOk.or {P:Program}{f:FuncId}{C D:List SV→Option Con}(h1:FnOk P f C)(h2:FnOk P f D):FnOk P f (fun l=>orC (C l) (D l)):=
 ⟨fun l c hc=>by rcases r9 hc with e|e;exact h1.enter l c e;exact h2.enter l c e,
  fun l c hc=>by rcases r9 hc with e|e;exact h1.calls l c e;exact h2.calls l c e⟩
end Go.Sx
end
section
namespace Go.Sx
open Go.RowKit Go.Shelf Go.Lib Go.Sort Go.Proofs
set_option maxRecDepth 100000
noncomputable def jt:List SV→List Ob→Option HCon:=fun l h=>orC (eO .order 121 [.ep [iI] 0] aG l h) (eO .order 108 [] ap l h)
@[go_sem] theorem Ll {l0:List Order}:jt [.os 0,.fn 121 [] [.ep [iI] 0]] [.row .order l0]=some (vF (apart aG l0) (.tup []) [.row .order (srt aG l0)]):=by
 unfold jt
 rw[lv];rfl
@[go_sem] theorem JT {l0:List Order}:jt [.os 0,.fn 108 [] []] [.row .order l0]=some (vF (apart ap l0) (.tup []) [.row .order (srt ap l0)]):=by
 unfold jt
 rw[lv]
 have:eO .order 121 [.ep [iI] 0] aG [.os 0,.fn 108 [] []] [.row .order l0]=none:=by simp[eO,yB]
 rw[this];rfl
theorem wu:yQ .order:=fun x s hs=>by
 simp only[cellsOf,List.mem_cons,List.not_mem_nil,or_false]at hs
 rcases hs with rfl|rfl|rfl|rfl
 all_goals exact⟨_,rfl,rfl⟩
theorem JU (x y:Order):fU (.agg (cellsOf .order x):: .agg (cellsOf .order y)::[.ep [iI] 0])=some (.det True (.v (.int .i64 (aG x y)))):=by
 simp only[go_sem,Nat.reduceBEq]
theorem ww (x y:Order):kB (.agg (cellsOf .order x):: .agg (cellsOf .order y)::[])=some (.det True (.v (.int .i64 (ap x y)))):=by
 simp only[go_sem,Nat.reduceBEq]
theorem wx:FnOkO Tryz.prog 97 jt:=by
 refine FnOkO.or ?_ ?_
 ·refine ol (k:=.order) Tryz.sortL (fun w=>by kernel_rfl) (fun w=>by kernel_rfl) wu (by decide) (g:=121) (caps:=[.ep [iI] 0]) p8 (cf:=aG) JU pu (fun s hs=>?_) ⟨default,default,JU _ _⟩
  simp only[List.mem_cons,List.not_mem_nil,or_false]at hs
  subst hs
  exact er 5 _ rfl
 ·exact ol (k:=.order) Tryz.sortL (fun w=>by kernel_rfl) (fun w=>by kernel_rfl) wu (by decide) (g:=108) (caps:=[]) px (cf:=ap) ww et (fun s hs=>by cases hs) ⟨default,default,ww _ _⟩
end Go.Sx
end
section
namespace Go.Sx
open Go.RowKit
def HR (k:Tag)(i:Nat)(t:List (Nat×SV))(h:List Ob):SV→St
 | .v (.slice none 0 0) =>⟨(i,.os h.length)::t,h++[.row k []]⟩
 |_=>⟨t,h⟩
def JV (k:Tag)(id off:Nat)(t:List (Nat×SV))(h:List Ob)(l:List SV):Option SV→St
 |some (.v (.slice none 0 0)) =>⟨t,bN h id (.cells (l.set off (.os h.length)))++[.row k []]⟩
 |_=>⟨t,h⟩
def M1 (k:Tag)(id off:Nat)(t:List (Nat×SV))(h:List Ob):Ob→St
 | .cells l=>JV k id off t h l (nth l off)
 |_=>⟨t,h⟩
def JW (k:Tag)(t:List (Nat×SV))(h:List Ob):SV→St
 | .ptr id off=>M1 k id off t h (ar h id)
 |_=>⟨t,h⟩
def Dq (k:Tag):ResultVar→List (Nat×SV)→List Ob→St
 | .tmp i,t,h=>HR k i t h (lk i t)
 | .cell i _,t,h=>JW k t h (lk i t)
def yT:List (ResultVar×Tag)→St→St
 | [],st=>st
 |x::r,st=>yT r (Dq x.2 x.1 st.t st.h)
theorem M2 (k:Tag)(r:ResultVar)(st:St):NilS st (Dq k r st.t st.h):=by
 obtain⟨t,h⟩:=st
 cases r with
 |tmp i=>
  show NilS _ (HR k i t h (lk i t))
  unfold HR
  split
  ·rename_i e
   exact .slot _ (.refl _) e (.inl ⟨_,rfl⟩)
  ·exact .refl _
 |cell i _=>
  show NilS _ (JW k t h (lk i t))
  unfold JW
  split
  ·unfold M1
   split
   ·rename_i e
    unfold JV
    split
    ·rename_i e2
     exact .cell _ (.refl _) e (by rw[←dZ];exact e2) (.inl ⟨_,rfl⟩)
    ·exact .refl _
   ·exact .refl _
  ·exact .refl _
theorem NilS.trans {a b c:St}(h1:NilS a b)(h2:NilS b c):NilS a c:=by
 induction h2 with
 |refl=>exact h1
 |cell o _ e1 e2 ho ih=>exact .cell o ih e1 e2 ho
 |slot o _ e1 ho ih=>exact .slot o ih e1 ho
theorem PU (l:List (ResultVar×Tag)):∀ st,NilS st (yT l st):=by
 induction l with
 |nil=>exact fun st=>.refl _
 |cons x r ih=>exact fun st=>(M2 x.2 x.1 st).trans (ih _)
def GK (l:List (ResultVar×Tag))(rs:List ResultVar)(ts:Tis)(post:SV→Prop)(pp:Value→Prop):Ex→St→Prop
 | .exit _,_=>False
 | .normal,st=>dn post (s6 true rs ts (yT l st))
 | .ret,st=>dn post (s6 true rs ts (yT l st))
 | .pan x,_=>pp x
section
variable {l:List (ResultVar×Tag)}{rs:List ResultVar}{ts:Tis}{post:SV→Prop}{pp:Value→Prop}{st:St}{k:Tag}{i id off:Nat}{t:List (Nat×SV)}{h:List Ob}{m:List SV}
@[go_sem] theorem Sf:GK l rs ts post pp .ret st=dn post (s6 true rs ts (yT l st)):=(rfl)
@[go_sem] theorem M3:GK l rs ts post pp .normal st=dn post (s6 true rs ts (yT l st)):=(rfl)
@[go_sem] theorem Sg {x:Value}:GK l rs ts post pp (.pan x) st=pp x:=(rfl)
@[go_sem] theorem T5:yT [] st=st:=(rfl)
@[go_sem] theorem Sh {r:ResultVar}:yT ((r,k)::l) ⟨t,h⟩=yT l (Dq k r t h):=(rfl)
@[go_sem] theorem Si:Dq k (.tmp i) t h=HR k i t h (lk i t):=(rfl)
@[go_sem] theorem PW {ty:TypeId}:Dq k (.cell i ty) t h=JW k t h (lk i t):=(rfl)
@[go_sem] theorem T6:HR k i t h (.v (.slice none 0 0))=⟨(i,.os h.length)::t,h++[.row k []]⟩:=(rfl)
@[go_sem] theorem VC:HR k i t h (.os id)=⟨t,h⟩:=(rfl)
@[go_sem] theorem T7:JW k t h (.ptr id off)=M1 k id off t h (ar h id):=(rfl)
@[go_sem] theorem PY:M1 k id off t h (.cells m)=JV k id off t h m (nth m off):=(rfl)
@[go_sem] theorem T8:JV k id off t h m (some (.v (.slice none 0 0)))=⟨t,bN h id (.cells (m.set off (.os h.length)))++[.row k []]⟩:=(rfl)
@[go_sem] theorem VD:JV k id off t h m (some (.os i))=⟨t,h⟩:=(rfl)
attribute [go_sem] List.set_cons_zero
end
section
variable {P:Program}{ts:Tis}{G:Cons}
theorem tz (l:List (ResultVar×Tag)) (hm:P.follows .mixedOrders=true) (hts:ts.ok P) (hG:ConsOk P G) {f:FuncId} {fn:Func} {c:Code} (hf:P.funcs[f]? =some fn) (hb:fn.body=some c) (hname:(fn.name== "runtime.NumGoroutine")=false)
  (hc:ce fn.ntmps c=true) {C:List SV→Option Con}
  (h:∀ l0 con,C l0=some con→aD con→l0.length≤fn.ntmps∧∃ L,az P none fn.ntmps L c∧exec ts G L c ⟨jA 0 l0,[]⟩ (GK l fn.results.toList ts (cX con) (jp con))):FnOk P f C:=by
 refine⟨fun l con _ args w=>?_,fun l0 con hcon hpre F w vs hF hvs=>?_⟩
 ·have hn:¬fn.name= "runtime.NumGoroutine":=by simpa using hname
  simp[callFunc,hf,hn,hb]
 ·obtain⟨hlen,L,hl,hx⟩:=h l0 con hcon hpre
  refine kI (n:=0) (callsIn_of_wp_marks hf hb trivial ?_)
  have hr:StRel F { w:=w,own:=cj} fn.ntmps cj ⟨jA 0 l0,[]⟩ { tmps:=vs++Array.replicate (fn.ntmps - vs.size) undef,defers:=[]} w:=
   ⟨by have:=hvs.1;simp;omega,Dfr.nil,uf hF,Fr.refl _,fun t=>jE hvs _ t⟩
  refine wpIn_mono (lm hm hts hG c hc hl F _ _ hx cj _ w hr) ?_
  intro e a' w' hq
  have key:∀ F1 own st,(∀ b,F b→F1 b)→StRel F1 { w:=w,own:=cj} fn.ntmps own st a' w'→dn (cX con) (s6 true fn.results.toList ts (yT l st))→LeavesInM (rd none) 0 P fn a'.tmps
    (fun e w'=>(∃ s u own',cX con s∧e=.returned u∧Handed F w own' w' s u∧Below w.heap.size w w')∨(∃ x,jp con x∧e=.panicked [{ v:=x,recovered:=false}]∧Below w.heap.size w w')) a'.defers .returning w':=by
   intro F1 own0' st0 hF1 hst0 hdone
   obtain⟨own,hst⟩:=(PU l st0).rel hst0
   generalize yT l st0=st at hst hdone
   refine g5 hst (by simp) fun w2 hst2=>?_
   have hst3:=hst2.less hF1 rfl
   unfold s6 at hdone
   cases hs:kx (jn ts st fn.results.toList)with
   |none=>
    simp only[cond_true,G9]at hdone;rw[hs]at hdone;exact hdone.elim
   |some s=>
    obtain⟨u,e1,e2⟩:=rZ (P:=P) hts hst3 hs
    refine⟨u,e1,.inl ?_⟩
    simp only[cond_true,G9]at hdone
    rw[hs]at hdone
    change dn (cX con) (wh st.h s)at hdone
    cases hg:wh st.h s with
    |none=>rw[hg]at hdone;exact hdone.elim
    |some s2=>
     rw[hg]at hdone
     obtain⟨own',hh⟩:=Gk hst3 e2 hg
     exact⟨_,u,own',hdone,rfl,hh,lY hst3.fr⟩
  cases e with
  |normal=>obtain⟨F1,own,st,h0,h1,h2⟩:=hq;exact key F1 own st h0 h1 h2
  |ret=>obtain⟨F1,own,st,h0,h1,h2⟩:=hq;exact key F1 own st h0 h1 h2
  |exit id=>obtain⟨F1,own,st,h0,h1,h2⟩:=hq;exact h2.elim
  |panic ch=>
   obtain⟨x,F1,own,st,h0,h1,h2,rfl⟩:=hq
   exact g5 h1 (by simp) fun w2 hst2=>.inr ⟨x,h2,rfl,lY hst2.fr⟩
  |_=>exact hq.elim
end
end Go.Sx
end
section
namespace Go.Sx
open Go.Proofs
set_option maxRecDepth 100000
@[go_sem] def rg:List SV→Option Con:=pR .order fun l=>pE (.det (l.length*32≤eD) (.nw .order l))
theorem wZ:FnOk Tryz.prog 94 rg:=by
 have hG:ConsOk Tryz.prog (mkG [] []):=aC cg0 cg0
 refine tz [(.tmp 2,.order)] mixed ax hG (fn:=Tryz.f94) (c:=ae Tryz.f94) (by kernel_rfl) (by kernel_rfl) (by kernel_rfl) (by kernel_rfl) (cg fun l=>aB fun hp=>?_)
 dsimp only[aD]at hp
 refine⟨Nat.le_of_ble_eq_true rfl,L0,aj _,?_⟩
 unfold ae Tryz.f94
 simp only[go_sem,Nat.reduceBEq,Nat.reduceLeDiff,Nat.reduceAdd,Nat.reduceSub,Nat.reduceMul,Int.reduceLE,Int.reduceLT,Int.reduceToNat,Int.reduceNeg,reduceCtorEq]
 intro b hb
 refine⟨fun h=>?_,fun _=>⟨hp,fun _=>rfl⟩⟩
 have hl:=hb h
 subst hl
 rfl
end Go.Sx
end
section
namespace Go.Sx
open Go.RowKit
abbrev RF:= { r:Nat→Res // ∀ k,(r k).n=k}
def Dt (items:List (List SV))(r:RF):List SV→Res→Option YCon:=itY items r.1
@[go_sem] theorem VE {items:List (List SV)}{r:RF}{k:Nat}{args:List SV}:Dt items r args (r.1 (k+1))=some (Dc (items[k]? =some args) r.1 (k+2)):=BP r.2 k args
section
variable {ρ σ:Type}
def lcy (pre:Prop)(run:ρ⊕σ)(exE:ρ→Ex)(outE:ρ→St)(outN:σ→St)(stp:St):LCon where
 α:=Option (ρ⊕σ)
 pre:=pre
 post:=fun|none=>True|some r=>r=run
 ex:=fun|none=>.ret|some (.inl x) =>exE x|some (.inr _) =>.normal
 out:=fun|none=>stp|some (.inl x) =>outE x|some (.inr s) =>outN s
def LCY (m:Nat)(ns:List NLoc)(js:List Nat)(D:Nat→σ→St)(step:Nat→σ→ρ⊕σ)(p:Nat→σ→Prop)(n:Nat)(s0:σ)(B:Prop)(exE:ρ→Ex)(outE:ρ→St)(stp:St)(st:St):LCon:=
 lcy (nz m ns js st (D 0 s0)∧B∧okI step p n 0 s0) (aw step n 0 s0) exE outE (D n) stp
def PZ (m:Nat)(ns:List NLoc)(js:List Nat)(D:Nat→σ→St)(step:Nat→σ→ρ⊕σ)(p:Nat→σ→Prop)(n:Nat)(s0:σ)(exE:ρ→Ex)(outE:ρ→St)(stp:St)(st:St):LCon:=
 lcy (nz m ns js st (D 0 s0)∧okI step p n 0 s0∧∀ s,aw step n 0 s0≠ .inr s) (aw step n 0 s0) exE outE (D n) stp
variable {m:Nat}{ns:List NLoc}{js:List Nat}{step:Nat→σ→ρ⊕σ}{p:Nat→σ→Prop}{n:Nat}{s0:σ}{B:Prop}{exE:ρ→Ex}{outE:ρ→St}{stp st:St}{Q:Ex→St→Prop}{D:Nat→σ→St}
theorem AU {pre:Prop}{run:ρ⊕σ}{outN:σ→St}:mC Q (some (lcy pre run exE outE outN stp))=(pre∧(∀ x,run=.inl x→Q (exE x) (outE x))∧(∀ s,run=.inr s→Q .normal (outN s))∧Q .ret stp):=by
 apply propext
 constructor
 ·rintro⟨h1,h2⟩
  exact⟨h1,fun x hx=>h2 (some (.inl x)) hx.symm,fun s hs=>h2 (some (.inr s)) hs.symm,h2 none trivial⟩
 ·rintro⟨h1,h2,h3,h4⟩
  refine⟨h1,fun r hr=>?_⟩
  match r,hr with
  |none,_=>exact h4
  |some (.inl x),hr=>exact h2 x hr.symm
  |some (.inr s),hr=>exact h3 s hr.symm
@[go_sem] theorem Sj:mC Q (some (LCY m ns js D step p n s0 B exE outE stp st))=((nz m ns js st (D 0 s0)∧B∧okI step p n 0 s0)∧(∀ x,aw step n 0 s0=.inl x→Q (exE x) (outE x))∧(∀ s,aw step n 0 s0=.inr s→Q .normal (D n s))∧Q .ret stp):=AU
@[go_sem] theorem P2:mC Q (some (PZ m ns js D step p n s0 exE outE stp st))=((nz m ns js st (D 0 s0)∧okI step p n 0 s0∧∀ s,aw step n 0 s0≠ .inr s)∧(∀ x,aw step n 0 s0=.inl x→Q (exE x) (outE x))∧Q .ret stp):=by
 refine AU.trans ?_
 apply propext
 constructor
 ·rintro⟨h1,h2,_,h4⟩;exact⟨h1,h2,h4⟩
 ·rintro⟨h1,h2,h4⟩;exact⟨h1,h2,fun s hs=>absurd hs (h1.2.2 s),h4⟩
def cY (step:Nat→σ→ρ⊕σ)(exE:ρ→Ex)(outE:ρ→St)(D:Nat→σ→St)(stp:St)(m id k:Nat)(s:σ):Ex→St→Prop
 | .normal,st=>lZ D m k st (step k s)
 | .exit j,st=>jQ exE outE m (bif Nat.beq j id then .normal else .exit j) st (step k s)
 | .ret,st=>jQ exE outE m .ret st (step k s)∨gc stp m st
 | .pan x,st=>jQ exE outE m (.pan x) st (step k s)
variable {id k j:Nat}{s:σ}{x:Value}{e e':Ex}
@[go_sem] theorem Sk:cY step exE outE D stp m id k s .normal st=lZ D m k st (step k s):=(rfl)
@[go_sem] theorem VF:cY step exE outE D stp m id k s (.exit j) st=jQ exE outE m (bif Nat.beq j id then .normal else .exit j) st (step k s):=(rfl)
@[go_sem] theorem Wp:cY step exE outE D stp m id k s .ret st=(jQ exE outE m .ret st (step k s)∨gc stp m st):=(rfl)
@[go_sem] theorem Wq:cY step exE outE D stp m id k s (.pan x) st=jQ exE outE m (.pan x) st (step k s):=(rfl)
@[congr] theorem T9 {st':St}(h:st=st')(he:e=e'):cY step exE outE D stp m id k s e st=cY step exE outE D stp m id k s e' st':=by rw[h,he]
end
section
variable {P:Program}{ρ σ:Type}{ts:Tis}{G:Cons}{ro:Option Nat}{N:Nat}{id:Nat}{c:Code}{C:St→Option LCon}{m:Nat}{ns:List NLoc}{js:List Nat}{step:Nat→σ→ρ⊕σ}{p:Nat→σ→Prop}{n:Nat}{s0:σ}{exE:ρ→Ex}{outE:ρ→St}{D:Nat→σ→St}{stp:St}
theorem JX {n0:Nat}(hn0:n0=m){s:σ}{k:Nat}(hlt:k<n){I:Nat×σ→Prop}{μ:Nat×σ→Nat}{outN:σ→St}{pre:Prop}{run:ρ⊕σ}
  (hI:∀ s',step k s=.inr s'→I (k+1,s')∧μ (k+1,s') <μ (k,s)) (hx:∀ x,step k s=.inl x→run=.inl x):
  ∀ e st',cY step exE outE D stp m id k s e st'→pj (fun x:Nat×σ=>D x.1 x.2) I μ n0 (k,s) id (fun e st'=>∃ r js,(lcy pre run exE outE outN stp).post r∧(lcy pre run exE outE outN stp).ex r=e∧n0≤((lcy pre run exE outE outN stp).out r).h.length∧Sub js n0 st' ((lcy pre run exE outE outN stp).out r)) e st':=by
 subst hn0
 have hfin:∀ e st',jQ exE outE n0 e st' (step k s)→∃ r js,(lcy pre run exE outE outN stp).post r∧(lcy pre run exE outE outN stp).ex r=e∧n0≤((lcy pre run exE outE outN stp).out r).h.length∧Sub js n0 st' ((lcy pre run exE outE outN stp).out r):=by
  intro e st' q
  cases hs:step k s with
  |inr s'=>rw[hs]at q;exact q.elim
  |inl x=>
   rw[hs]at q
   obtain⟨q2,js,q3,q4⟩:=q
   exact⟨some (.inl x),js,(hx x hs).symm,q2,q3,q4⟩
 intro e st' hq
 cases e with
 |normal=>
  change lZ D n0 k st' (step k s)at hq
  cases hs:step k s with
  |inl x=>rw[hs]at hq;exact hq.elim
  |inr s'=>
   rw[hs]at hq
   obtain⟨js,q3,q4⟩:=hq
   obtain⟨i1,i2⟩:=hI s' hs
   exact⟨(k+1,s'),js,i1,i2,q3,q4⟩
 |exit j=>
  change jQ exE outE n0 (bif Nat.beq j id then .normal else .exit j) st' (step k s)at hq
  show bif Nat.beq j id then _ else _
  cases hb:Nat.beq j id with
  |true=>rw[hb]at hq;exact hfin _ _ hq
  |false=>rw[hb]at hq;exact hfin _ _ hq
 |ret=>
  rcases hq with hq|hq
  ·exact hfin _ _ hq
  ·obtain⟨js,q3,q4⟩:=hq
   exact⟨none,js,trivial,rfl,q3,q4⟩
 |pan x=>exact hfin _ _ hq
theorem uD {B:Prop}(hm:P.follows .mixedOrders=true)(hts:ts.ok P)(hG:ConsOk P G)(hc:ce N c=true)(hC:∀ st,C st=some (LCY m ns js D step p n s0 B exE outE stp st))(M:Int)(hn:n=M.toNat)(hB:B→M<9223372036854775808)
  (h:B→∀ k s,k<n→p k s→IntKind.i64.wrap ((k:Int)+1)=((k+1:Nat):Int)→decide ((k:Int) <M)=true→∃ L,az P ro N L c∧exec ts G L c (D k s) (cY step exE outE D stp m id k s))
  (h2:B→∀ s,decide ((n:Int) <M)=false→exec ts G L0 c (D n s) (cZ (D n s) m id)):iF P ro N id (.loop c) C:=by
 refine qM hm hts hG hc fun st lc hC' hp=>?_
 rw[hC st]at hC'
 cases hC'
 obtain⟨⟨hlen,hok,hle,hsub⟩,hB',h1⟩:=hp
 refine⟨Nat×σ,fun x=>D x.1 x.2,fun x=>x.1≤n∧okI step p (n - x.1) x.1 x.2∧aw step (n - x.1) x.1 x.2=aw step n 0 s0,fun x=>n - x.1,(0,s0),mkN ns st,js,⟨Nat.zero_le _,by simpa using h1,by simp⟩,tu ns st st (.refl _) hok,by rw[hlen];exact hle,by rw[hlen];exact hsub,?_⟩
 rintro⟨k,s⟩ ⟨hk,hJ,hrun⟩
 simp only at hk hJ hrun
 rcases Nat.lt_or_ge k n with hlt|hge
 ·rw[show n - k=(n - k - 1)+1 by omega]at hrun hJ
  obtain⟨L,hl,hex⟩:=h hB' k s hlt hJ.1 (Gp (hn▸hlt) (hB hB')) (decide_eq_true (by omega))
  have hI:∀ s',step k s=.inr s'→okI step p (n - (k+1)) (k+1) s'∧aw step (n - (k+1)) (k+1) s'=aw step n 0 s0:=fun s' hs=>by
   have:=hJ.2 s' hs
   rw[show n - k - 1=n - (k+1) by omega]at this hrun
   simp only[aw,hs]at hrun
   exact⟨this,hrun⟩
  have hx:∀ x,step k s=.inl x→aw step n 0 s0=.inl x:=fun x hs=>by
   simp only[aw,hs]at hrun
   exact hrun.symm
  exact⟨L,_,hl,fun e st' q=>JX hlen hlt (fun s' hs=>⟨⟨hlt,hI s' hs⟩,by simp only;omega⟩) hx e st' q,hex⟩
 ·have hkn:k=n:=by omega
  subst hkn
  have hex:=h2 hB' s (by rw[decide_eq_false_iff_not];omega)
  refine⟨L0,_,aj c,fun e st' hq=>?_,hex⟩
  simp only[Nat.sub_self,aw]at hrun
  cases e with
  |exit j=>
   change bif Nat.beq j id then gc (D k s) m st' else False at hq
   show bif Nat.beq j id then _ else _
   cases hb:Nat.beq j id with
   |true=>
    rw[hb]at hq
    obtain⟨js,q3,q4⟩:=hq
    exact⟨some (.inr s),js,hrun,rfl,by rw[hlen];exact q3,by rw[hlen];exact q4⟩
   |false=>rw[hb]at hq;exact hq.elim
  |_=>exact hq.elim
theorem HS (hm:P.follows .mixedOrders=true)(hts:ts.ok P)(hG:ConsOk P G)(hc:ce N c=true)(hC:∀ st,C st=some (PZ m ns js D step p n s0 exE outE stp st))
  (h:∀ k s,p k s→∃ L,az P ro N L c∧exec ts G L c (D k s) (cY step exE outE D stp m id k s)):iF P ro N id (.loop c) C:=by
 refine qM hm hts hG hc fun st lc hC' hp=>?_
 rw[hC st]at hC'
 cases hC'
 obtain⟨⟨hlen,hok,hle,hsub⟩,h1,hno⟩:=hp
 refine⟨Nat×σ,fun x=>D x.1 x.2,fun x=>x.1≤n∧okI step p (n - x.1) x.1 x.2∧aw step (n - x.1) x.1 x.2=aw step n 0 s0,fun x=>n - x.1,(0,s0),mkN ns st,js,⟨Nat.zero_le _,by simpa using h1,by simp⟩,tu ns st st (.refl _) hok,by rw[hlen];exact hle,by rw[hlen];exact hsub,?_⟩
 rintro⟨k,s⟩ ⟨hk,hJ,hrun⟩
 simp only at hk hJ hrun
 rcases Nat.lt_or_ge k n with hlt|hge
 ·rw[show n - k=(n - k - 1)+1 by omega]at hrun hJ
  obtain⟨L,hl,hex⟩:=h k s hJ.1
  have hI:∀ s',step k s=.inr s'→okI step p (n - (k+1)) (k+1) s'∧aw step (n - (k+1)) (k+1) s'=aw step n 0 s0:=fun s' hs=>by
   have:=hJ.2 s' hs
   rw[show n - k - 1=n - (k+1) by omega]at this hrun
   simp only[aw,hs]at hrun
   exact⟨this,hrun⟩
  have hx:∀ x,step k s=.inl x→aw step n 0 s0=.inl x:=fun x hs=>by
   simp only[aw,hs]at hrun
   exact hrun.symm
  exact⟨L,_,hl,fun e st' q=>JX hlen hlt (fun s' hs=>⟨⟨hlt,hI s' hs⟩,by simp only;omega⟩) hx e st' q,hex⟩
 ·have hkn:k=n:=by omega
  subst hkn
  simp only[Nat.sub_self,aw]at hrun
  exact absurd hrun.symm (hno s)
end
def l9 (n:Nat):List Ob:=List.replicate n .dead
def Du (items:List (List SV))(r:RF)(n:Nat):Ex→St→Prop
 | .normal,st=>gc ⟨[],.ab (r.1 0)::l9 n⟩ (n+1) ⟨[],st.h⟩∨gc ⟨[],.ab (r.1 (items.length+1))::l9 n⟩ (n+1) ⟨[],st.h⟩
 | .ret,st=>gc ⟨[],.ab (r.1 0)::l9 n⟩ (n+1) ⟨[],st.h⟩∨gc ⟨[],.ab (r.1 (items.length+1))::l9 n⟩ (n+1) ⟨[],st.h⟩
 |_,_=>False
section
variable {items:List (List SV)}{r:RF}{n:Nat}{st:St}{e e':Ex}
@[go_sem] theorem M4:Du items r n .normal st=(gc ⟨[],.ab (r.1 0)::l9 n⟩ (n+1) ⟨[],st.h⟩∨gc ⟨[],.ab (r.1 (items.length+1))::l9 n⟩ (n+1) ⟨[],st.h⟩):=(rfl)
@[go_sem] theorem Sl:Du items r n .ret st=(gc ⟨[],.ab (r.1 0)::l9 n⟩ (n+1) ⟨[],st.h⟩∨gc ⟨[],.ab (r.1 (items.length+1))::l9 n⟩ (n+1) ⟨[],st.h⟩):=(rfl)
@[congr] theorem N6 {st':St}(h:st=st')(he:e=e'):Du items r n e st=Du items r n e' st':=by rw[h,he]
@[go_sem] theorem VG:l9 0=[]:=(rfl)
@[go_sem] theorem VH:l9 1=[.dead]:=(rfl)
@[go_sem] theorem VI:l9 2=[.dead,.dead]:=(rfl)
@[go_sem] theorem VJ:l9 3=[.dead,.dead,.dead]:=(rfl)
@[go_sem] theorem VK:l9 4=[.dead,.dead,.dead,.dead]:=(rfl)
end
theorem Dv {js:List Nat}{n0:Nat}{h h':List Ob}(q:Sub js n0 ⟨[],h⟩ ⟨[],h'⟩):Sub js n0 ⟨[(0,.tup [])],h⟩ ⟨[(0,.tup [])],h'⟩:=by
 refine⟨q.1,?_,q.2.2⟩
 simp only[G_,lk]
 exact⟨⟨rfl,rfl⟩,trivial⟩
open Classical in
theorem Fz {P:Program} {ts:Tis} {G:RF→Cons} (hm:P.follows .mixedOrders=true) (hts:ts.ok P) {f:FuncId} {fn:Func} {c:Code} (hf:P.funcs[f]? =some fn) (hb:fn.body=some c) (hname:(fn.name== "runtime.NumGoroutine")=false) (hc:ce fn.ntmps c=true) (hr:fn.results.toList=[])
  {items:List (List SV)} {mk:SV→List SV} {hs:List Ob} {n:Nat} (hn:hs.length=n)
  (h:∀ r:RF,YOk P (Dt items r)→ConsOk P (G r)∧(mk (.os 0)).length≤fn.ntmps∧∃ L,az P none fn.ntmps L c∧exec ts (G r) L c ⟨jA 0 (mk (.os 0)),.ab (r.1 1)::hs⟩ (Du items r n))
  (he:∀ (args:Array Value) (w:World),(callFunc f args).run P w=.ok (.enter f args) w):zQ P f mk hs items:=by
 refine Jg (fun r0 hr0 hy=>?_) he
 obtain⟨hG,h1,L,h2,h3⟩:=h ⟨r0,hr0⟩ hy
 refine⟨fun l o=>if l=mk (.os 0)∧o=.ab (r0 1)::hs then some { α:=Bool,pre:=True,post:=fun _=>True,res:=fun b=>.ret (.tup []) (.ab (r0 (if b then items.length+1 else 0))::l9 n)}else none,?_,_,if_pos ⟨rfl,rfl⟩,trivial,fun b _=>⟨_,_,_,rfl,by cases b <;>simp⟩⟩
 refine C_ hm hts hG hf hb hname hc fun l o con hC _=>?_
 split at hC
 rotate_left
 ·cases hC
 rename_i hlo
 obtain⟨rfl,rfl⟩:=hlo
 cases hC
 refine⟨h1,L,_,h2,fun e st hq=>?_,h3⟩
 have key:∀ st:St,(gc ⟨[],.ab (r0 0)::l9 n⟩ (n+1) ⟨[],st.h⟩∨gc ⟨[],.ab (r0 (items.length+1))::l9 n⟩ (n+1) ⟨[],st.h⟩)→xO (Ob.ab (r0 1)::hs).length { α:=Bool,pre:=True,post:=fun _=>True,res:=fun b=>.ret (.tup []) (.ab (r0 (if b then items.length+1 else 0))::l9 n)} (kx (jn ts st fn.results.toList)) st.h:=fun st q=>by
  rw[hr]
  show ∃ r s' h' js,_
  rcases q with⟨js,q1,q2⟩ | ⟨js,q1,q2⟩
  ·exact⟨false,_,_,js,trivial,rfl,by rw[List.length_cons,hn];exact q1,by rw[List.length_cons,hn];exact Dv q2⟩
  ·exact⟨true,_,_,js,trivial,rfl,by rw[List.length_cons,hn];exact q1,by rw[List.length_cons,hn];exact Dv q2⟩
 cases e with
 |normal=>exact key st hq
 |ret=>exact key st hq
 |exit j=>exact hq.elim
 |pan x=>exact hq.elim
section
variable {ρ σ τ:Type}
theorem vQ {step:τ→σ→ρ⊕σ}:∀ {a b:List τ} {s s':σ},cF step a s=.inr s'→cF step (a++b) s=cF step b s'
 | [],_,_,_,h=>by simp only[cF,Sum.inr.injEq]at h;subst h;rfl
 |x::a,b,s,s',h=>by
  simp only[List.cons_append,cF]at h ⊢
  cases hs:step x s with
  |inl y=>rw[hs]at h;cases h
  |inr s1=>rw[hs]at h;simp only at h ⊢;exact vQ h
theorem Dw {step:τ→σ→ρ⊕σ}{p:τ→σ→Prop}:∀ {a b:List τ} {s s':σ},cF step a s=.inr s'→okL step p (a++b) s→okL step p b s'
 | [],_,_,_,h,hk=>by simp only[cF,Sum.inr.injEq]at h;subst h;exact hk
 |x::a,b,s,s',h,hk=>by
  simp only[List.cons_append,cF]at h hk
  cases hs:step x s with
  |inl y=>rw[hs]at h;cases h
  |inr s1=>rw[hs]at h;exact Dw h (hk.2 s1 hs)
def LCP (m:Nat)(ns:List NLoc)(js:List Nat)(D:List Nat→Option Nat→σ→St)(step:τ→σ→ρ⊕σ)(p:τ→σ→Prop)(l:List τ)(s0:σ)(exE:ρ→Ex)(outE:ρ→St)(outN:σ→St)(st:St):LCon where
 α:=ρ⊕σ
 pre:=nz m ns js st (D (List.range l.length) none s0)∧∀ L,L.Perm l→okL step p L s0
 post:=fun r=>∃ L,L.Perm l∧cF step L s0=r
 ex:=fun| .inl x=>exE x| .inr _=>.normal
 out:=fun| .inl x=>outE x| .inr s=>outN s
variable {m:Nat}{ns:List NLoc}{js:List Nat}{step:τ→σ→ρ⊕σ}{p:τ→σ→Prop}{l:List τ}{s0:σ}{exE:ρ→Ex}{outE:ρ→St}{outN:σ→St}{st:St}{Q:Ex→St→Prop}{D:List Nat→Option Nat→σ→St}
@[go_sem] theorem Sm:mC Q (some (LCP m ns js D step p l s0 exE outE outN st))=((nz m ns js st (D (List.range l.length) none s0)∧∀ L,L.Perm l→okL step p L s0)∧∀ L,L.Perm l→(∀ x,cF step L s0=.inl x→Q (exE x) (outE x))∧∀ s,cF step L s0=.inr s→Q .normal (outN s)):=by
 apply propext
 constructor
 ·rintro⟨h1,h2⟩
  exact⟨h1,fun L hL=>⟨fun x hx=>h2 (.inl x) ⟨L,hL,hx⟩,fun s hs=>h2 (.inr s) ⟨L,hL,hs⟩⟩⟩
 ·rintro⟨h1,h2⟩
  refine⟨h1,fun r ⟨L,hL,hr⟩ =>?_⟩
  cases r with
  |inl x=>exact(h2 L hL).1 x hr
  |inr s=>exact(h2 L hL).2 s hr
variable {P:Program}{ts:Tis}{G:Cons}{ro:Option Nat}{N id:Nat}{c:Code}{C:St→Option LCon}
theorem JY (d:τ)(it:Nat)(hm:P.follows .mixedOrders=true)(hts:ts.ok P)(hG:ConsOk P G)(hc:ce N c=true)(hC:∀ st,C st=some (LCP m ns js D step p l s0 exE outE outN st))
  (h:∀ left cur s,(∀ j,j∈left→j<l.length∧p (l.getD j d) s)→∃ L,az P ro N L c∧exec ts G L c (D left cur s) (cM step l d exE outE outN D m id it left s)):iF P ro N id (.loop c) C:=by
 refine qM hm hts hG hc fun st lc hC' hp=>?_
 rw[hC st]at hC'
 cases hC'
 obtain⟨⟨hlen,hok,hle,hsub⟩,hO⟩:=hp
 subst hlen
 have hfix:∀ q:List Nat,q.Perm (List.range l.length)→(q.map fun j=>l.getD j d).Perm l:=fun q hq=>by
  have:=hq.map (fun j=>l.getD j d)
  rwa[yA]at this
 refine⟨List Nat×Option Nat×σ,fun x=>D x.1 x.2.1 x.2.2,fun x=>∃ q:List Nat,(q++x.1).Perm (List.range l.length)∧cF step (q.map fun j=>l.getD j d) s0=.inr x.2.2,fun x=>x.1.length,(List.range l.length,none,s0),mkN ns st,js,⟨[],.refl _,rfl⟩,tu ns st st (.refl _) hok,hle,hsub,?_⟩
 rintro⟨left,cur,s⟩ ⟨q,hq,hrun⟩
 simp only at hq hrun
 have hmem:∀ j,j∈left→(q++j::left.erase j).Perm (List.range l.length):=fun j hj=>((List.perm_cons_erase hj).symm.append_left q).trans hq
 have hp0:∀ j,j∈left→j<l.length∧p (l.getD j d) s:=fun j hj=>by
  refine⟨List.mem_range.1 (hq.mem_iff.1 (List.mem_append_right _ hj)),?_⟩
  have:=hO _ (hfix _ (hmem j hj))
  rw[List.map_append]at this
  exact(Dw hrun this).1
 obtain⟨L,hl,hex⟩:=h left cur s hp0
 refine⟨L,_,hl,?_,hex⟩
 have hfin:∀ e st' o,exC step l d exE outE st.h.length left s e st' o→∃ r js,(LCP st.h.length ns js D step p l s0 exE outE outN st).post r∧(LCP st.h.length ns js D step p l s0 exE outE outN st).ex r=e∧st.h.length≤((LCP st.h.length ns js D step p l s0 exE outE outN st).out r).h.length∧Sub js st.h.length st' ((LCP st.h.length ns js D step p l s0 exE outE outN st).out r):=by
  intro e st' o z
  cases o with
  |none=>exact z.elim
  |some j=>
   obtain⟨hj,z⟩:=z
   cases hs:step (l.getD j d) s with
   |inr s'=>rw[hs]at z;exact z.elim
   |inl x=>
    rw[hs]at z
    obtain⟨q2,js2,q3,q4⟩:=z
    refine⟨.inl x,js2,⟨_,hfix _ (hmem j hj),?_⟩,q2,q3,q4⟩
    rw[List.map_append,vQ hrun]
    simp only[List.map_cons,cF,hs]
 intro e st' hz
 cases e with
 |normal=>
  change nxC step l d D st.h.length left s st' (tt (ar st'.h it))at hz
  cases ho:tt (ar st'.h it)with
  |none=>rw[ho]at hz;exact hz.elim
  |some j=>
   rw[ho]at hz
   obtain⟨hj,hz⟩:=hz
   cases hs:step (l.getD j d) s with
   |inl x=>rw[hs]at hz;exact hz.elim
   |inr s'=>
    rw[hs]at hz
    obtain⟨js2,q3,q4⟩:=hz
    refine⟨(left.erase j,some j,s'),js2,⟨q++[j],?_,?_⟩,?_,q3,q4⟩
    ·rw[List.append_assoc];exact hmem j hj
    ·rw[List.map_append,vQ hrun]
     simp only[List.map_cons,List.map_nil,cF,hs]
    ·have:=List.length_pos_of_mem hj
     simp only[List.length_erase_of_mem hj];omega
 |exit j=>
  have hz':(bif Nat.beq j id then(left=[]→gc (outN s) st.h.length st')∧(left≠[]→exC step l d exE outE st.h.length left s .normal st' (tt (ar st'.h it)))else exC step l d exE outE st.h.length left s (.exit j) st' (tt (ar st'.h it))):=hz
  show bif Nat.beq j id then _ else _
  cases hb:Nat.beq j id with
  |true=>
   rw[hb]at hz'
   simp only[cond_true]at hz' ⊢
   by_cases hlt:left=[]
   ·obtain⟨js2,q3,q4⟩:=hz'.1 hlt
    refine⟨.inr s,js2,⟨_,hfix q (by rw[hlt,List.append_nil]at hq;exact hq),hrun⟩,rfl,q3,q4⟩
   ·exact hfin _ _ _ (hz'.2 hlt)
  |false=>
   rw[hb]at hz'
   exact hfin _ _ _ hz'
 |ret=>exact hfin _ _ _ hz
 |pan x=>exact hfin _ _ _ hz
end
theorem fkY {st2 st:St}{n0:Nat}(js:List Nat)(h1:n0≤st2.h.length:=by(first|(show _≤_;decide) |(simp only[*,go_sem,Nat.reduceBEq,Nat.reduceLeDiff,Nat.reduceAdd,Nat.reduceSub,Nat.reduceMul,Int.reduceLE,Int.reduceLT,Int.reduceToNat,Int.reduceNeg,reduceCtorEq];done) |(simp only[*,go_sem,Nat.reduceBEq,Nat.reduceLeDiff,Nat.reduceAdd,Nat.reduceSub,Nat.reduceMul,Int.reduceLE,Int.reduceLT,Int.reduceToNat,Int.reduceNeg,reduceCtorEq];(repeat' (first|with_reducible refine And.intro ?_ ?_|((with_reducible show _≠_);first|assumption|omega|(simp_all [aZ,bg];done) |grind) |with_reducible intro _)) <;>(first|rfl|decide|assumption|omega|(simp_all [aZ,bg];done) |fail))))(h2:Sub js n0 st st2:=by(first|(show _≤_;decide) |(simp only[*,go_sem,Nat.reduceBEq,Nat.reduceLeDiff,Nat.reduceAdd,Nat.reduceSub,Nat.reduceMul,Int.reduceLE,Int.reduceLT,Int.reduceToNat,Int.reduceNeg,reduceCtorEq];done) |(simp only[*,go_sem,Nat.reduceBEq,Nat.reduceLeDiff,Nat.reduceAdd,Nat.reduceSub,Nat.reduceMul,Int.reduceLE,Int.reduceLT,Int.reduceToNat,Int.reduceNeg,reduceCtorEq];(repeat' (first|with_reducible refine And.intro ?_ ?_|((with_reducible show _≠_);first|assumption|omega|(simp_all [aZ,bg];done) |grind) |with_reducible intro _)) <;>(first|rfl|decide|assumption|omega|(simp_all [aZ,bg];done) |fail)))):gc st2 n0 st:=BR js h1 h2
theorem P3 {α:Type 1}{G:List SV→α→Prop}{X:SV}{k:List SV→Option α}(h:∀ l c,k l=some c→G (X::l) c):∀ l c,pQ X k l=some c→G l c:=fun l c hc=>by
 obtain⟨r,rfl,h1⟩:=BS hc;exact h r c h1
theorem clP {p:Prop}(h:p:=by((repeat' (first|with_reducible refine And.intro ?_ ?_|((with_reducible show _≠_);first|assumption|omega|(simp_all [aZ,bg];done) |grind) |with_reducible intro _)) <;>(first|done|exact Empty.elim ‹Empty› |assumption|rfl|omega|(simp_all only[aZ,bg];done) |(simp_all only[aZ,bg];grind)))):p:=h
end Go.Sx
end
