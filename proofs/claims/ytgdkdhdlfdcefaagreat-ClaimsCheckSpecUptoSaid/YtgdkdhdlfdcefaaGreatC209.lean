/- Part of the proof that the law ClaimsCheckSpec returns true and leaves its arguments as they were, for all arguments of bulk at most 1048576 (the Upto form). -/
import Derived.Test.YtgdkdhdlfdcefaaGreatC208
import Derived.Test.YtgdkdhdlfdcefaaGreatC207
import Derived.Sort.Statements
import Derived.Shelf.SlSortCmp.Insertion
set_option linter.all false
set_option maxHeartbeats 4000000
section
namespace Go.Sx
open Go.Proofs
set_option maxRecDepth 100000
set_option linter.unusedSimpArgs false
theorem xi {p:Prop}(h:p:=by(first|done|(repeat' (first|with_reducible refine And.intro ?_ ?_|((with_reducible show _≠_);first|assumption|omega|(simp_all [bE,bM];done) |grind) |with_reducible intro _)) <;>(first|done|with_reducible exact Empty.elim ‹Empty› |with_reducible assumption|rfl|omega|assumption|decide|exact fk [] |exact czl|(simp only[*,cond_true,cond_false,Bool.not_true,Bool.not_false,go_sem,Nat.reduceBEq,Nat.reduceLeDiff,Nat.reduceLT,decide_true,Nat.reduceAdd,Nat.reduceSub,Nat.reduceMul,Int.reduceLE,Int.reduceLT,Int.reduceToNat,Int.reduceNeg,reduceCtorEq];(repeat' (first|with_reducible refine And.intro ?_ ?_|((with_reducible show _≠_);first|assumption|omega|(simp_all [bE,bM];done) |grind) |with_reducible intro _)) <;>(first|done|assumption|rfl|omega|decide|exact fk [] |(simp_all [bE,bM];done))) |(simp_all [okI,bE,bM];done) |(simp_all [bE,bM];(first|done|exact fk2 [])) |exact fk2 []))):p:=h
theorem Cf {p:Prop}(h:p:=by(first|done|(repeat' (first|with_reducible refine And.intro ?_ ?_|((with_reducible show _≠_);first|assumption|omega|(simp_all [bE,bM];done) |grind) |with_reducible intro _)) <;>(first|done|with_reducible exact Empty.elim ‹Empty› |with_reducible assumption|rfl|omega|assumption|decide|exact fk [0,1,2,3,4,5] |exact czl|(simp only[*,cond_true,cond_false,Bool.not_true,Bool.not_false,go_sem,Nat.reduceBEq,Nat.reduceLeDiff,Nat.reduceLT,decide_true,Nat.reduceAdd,Nat.reduceSub,Nat.reduceMul,Int.reduceLE,Int.reduceLT,Int.reduceToNat,Int.reduceNeg,reduceCtorEq];(repeat' (first|with_reducible refine And.intro ?_ ?_|((with_reducible show _≠_);first|assumption|omega|(simp_all [bE,bM];done) |grind) |with_reducible intro _)) <;>(first|done|assumption|rfl|omega|decide|exact fk [0,1,2,3,4,5] |(simp_all [bE,bM];done))) |(simp_all [okI,bE,bM];done) |(simp_all [bE,bM];(first|done|exact fk2 [0,1,2,3,4,5])) |exact fk2 [0,1,2,3,4,5]))):p:=h
theorem k9 {p:Prop}(h:p:=by simp only[go_sem,Nat.reduceBEq,Nat.reduceLeDiff,Nat.reduceLT,decide_true,Nat.reduceAdd,Nat.reduceSub,Nat.reduceMul,Int.reduceLE,Int.reduceLT,Int.reduceToNat,Int.reduceNeg,reduceCtorEq,hc,hw];all_goals exact xi):p:=h
theorem k_ {p:Prop}(h:p:=by simp only[go_sem,Nat.reduceBEq,Nat.reduceLeDiff,Nat.reduceLT,decide_true,Nat.reduceAdd,Nat.reduceSub,Nat.reduceMul,Int.reduceLE,Int.reduceLT,Int.reduceToNat,Int.reduceNeg,reduceCtorEq,hc];all_goals exact xi):p:=h
theorem Ja {p:Prop}(h:p:=by simp only[go_sem,Nat.reduceBEq,Nat.reduceLeDiff,Nat.reduceLT,decide_true,Nat.reduceAdd,Nat.reduceSub,Nat.reduceMul,Int.reduceLE,Int.reduceLT,Int.reduceToNat,Int.reduceNeg,reduceCtorEq,hc,hw];all_goals exact Cf):p:=h
theorem Jb {p:Prop}(h:p:=by simp only[go_sem,Nat.reduceBEq,Nat.reduceLeDiff,Nat.reduceLT,decide_true,Nat.reduceAdd,Nat.reduceSub,Nat.reduceMul,Int.reduceLE,Int.reduceLT,Int.reduceToNat,Int.reduceNeg,reduceCtorEq,hc];all_goals exact Cf):p:=h
@[go_sem] def oS (l_:List Int)(k_0:Nat)(s_0:Unit):Int⊕Unit:=(bif((l_.getD k_0 (0:Int)) !=0)then .inl (l_.getD k_0 (0:Int))else .inr ())
def eP (l_:List Int):Int:=(match an (oS l_) l_.length 0 ()with| .inl x_0_0=>x_0_0| .inr s_0=>0)
@[go_sem] def pH:List SV→Option Con:=(pR .int fun l_=>(pE (.det True (.v (.int .i64 (eP l_))))))
theorem vm:FnOk Tryz.prog 67 pH:=by
 have hG:ConsOk Tryz.prog (mkG [] []):=aw cg0 cg0
 refine aX [.o] mixed am hG (fn:=Tryz.f67) (c:=ae Tryz.f67) (by kernel_rfl) (by kernel_rfl) (by kernel_rfl) (by kernel_rfl) (dW fun l_=>(aF (fun hp=>?_)))
 dsimp only[aD]at hp
 refine⟨Nat.le_of_ble_eq_true rfl,(fun id st=>bif Nat.beq id 0 then some (LCR (ρ:=Int) (σ:=Unit) 0 [] [] (fun k_0 s_0=>⟨[(5,.rs .int l_),(6,.v (.int .i64 (l_.length:Int))),(7,.v (.int .i64 (k_0:Int)))],[]⟩) (oS l_) pT l_.length () (l_.length≤bp) (fun _=>.ret) (fun x_0_0=>⟨[(2,.v (.int .i64 x_0_0))],[]⟩) st)else none),?_,?_⟩
 ·unfold ae Tryz.f67
  simp only[al,true_and,and_true]
  ·refine dy mixed am hG (by kernel_rfl) (fun _=>rfl) (l_.length:Int) rfl iS (fun hb0 k_0 s_0 hlt0 _ hw hc=>⟨L0,ah _,?_⟩) (fun hb0 s_0 hc=>?_)
   ·exact k9
   ·exact k_
 ·unfold ae Tryz.f67
  try unfold eP
  simp only[go_sem,Nat.reduceBEq,Nat.reduceLeDiff,Nat.reduceLT,decide_true,Nat.reduceAdd,Nat.reduceSub,Nat.reduceMul,Int.reduceLE,Int.reduceLT,Int.reduceToNat,Int.reduceNeg,reduceCtorEq]
  all_goals exact cl
def cJ (a:Claim)(b:Claim):Int:=(eP ([(bX a.hour b.hour),(bX a.rank b.rank),(bX a.right b.right),(bX a.farm b.farm)]))
@[go_sem] def mE:List SV→Option Con:=(pD .claim fun a=>(pD .claim fun b=>(pE (.det True (.v (.int .i64 (cJ a b)))))))
theorem oT:FnOk Tryz.prog 35 mE:=by
 have hG:ConsOk Tryz.prog (mkG [(45,fw),(67,fun l=>pH (dp [.sl .int] l))] []):=aw (cgc gh (cgc (vm.norm [.sl .int]) cg0)) cg0
 refine aX [.o] mixed am hG (fn:=Tryz.f35) (c:=ae Tryz.f35) (by kernel_rfl) (by kernel_rfl) (by kernel_rfl) (by kernel_rfl) (aY fun a=>(aY fun b=>(aF (fun hp=>?_))))
 dsimp only[aD]at hp
 refine⟨Nat.le_of_ble_eq_true rfl,L0,ah _,?_⟩
 ·unfold ae Tryz.f35
  try unfold cJ
  simp only[go_sem,Nat.reduceBEq,Nat.reduceLeDiff,Nat.reduceLT,decide_true,Nat.reduceAdd,Nat.reduceSub,Nat.reduceMul,Int.reduceLE,Int.reduceLT,Int.reduceToNat,Int.reduceNeg,reduceCtorEq]
  all_goals exact cl
@[go_sem] def eH (a0:District)(a1:List Claim)(k_0:Nat)(s_0:Unit):Unit⊕Unit:=(bif((((!((((((((decide ((a1.getD k_0 (default:Claim)).right≥0))&&(decide ((a1.getD k_0 (default:Claim)).right< (a0.rights.length:Int))))&&(decide ((a1.getD k_0 (default:Claim)).farm≥0)))&&(decide ((a1.getD k_0 (default:Claim)).farm< (a0.farms.length:Int))))&&(decide ((a1.getD k_0 (default:Claim)).hour≥0)))&&(decide ((a1.getD k_0 (default:Claim)).hour<a0.hours)))&&(decide ((a1.getD k_0 (default:Claim)).litres≥1)))&&(decide ((a1.getD k_0 (default:Claim)).litres≤1073741824)))) ||((a0.rights.getD (Int.toNat ((a1.getD k_0 (default:Claim)).right)) (default:Right)).kind !=1)) ||((a0.rights.getD (Int.toNat ((a1.getD k_0 (default:Claim)).right)) (default:Right)).rank !=(a1.getD k_0 (default:Claim)).rank)) ||((decide ((k_0:Int) > 0))&&(decide ((cJ (a1.getD (Int.toNat (IntKind.i64.wrap ((k_0:Int) - 1))) (default:Claim)) (a1.getD k_0 (default:Claim)))≥0))))then .inl ()else .inr ())
def gQ (a0:District)(a1:List Claim)(k_0:Nat)(s_0:Unit):Prop:=(((!((((((((decide ((a1.getD k_0 (default:Claim)).right≥0))&&(decide ((a1.getD k_0 (default:Claim)).right< (a0.rights.length:Int))))&&(decide ((a1.getD k_0 (default:Claim)).farm≥0)))&&(decide ((a1.getD k_0 (default:Claim)).farm< (a0.farms.length:Int))))&&(decide ((a1.getD k_0 (default:Claim)).hour≥0)))&&(decide ((a1.getD k_0 (default:Claim)).hour<a0.hours)))&&(decide ((a1.getD k_0 (default:Claim)).litres≥1)))&&(decide ((a1.getD k_0 (default:Claim)).litres≤1073741824))))=false→(0≤(a1.getD k_0 (default:Claim)).right∧(a1.getD k_0 (default:Claim)).right< (a0.rights.length:Int)))∧((((!((((((((decide ((a1.getD k_0 (default:Claim)).right≥0))&&(decide ((a1.getD k_0 (default:Claim)).right< (a0.rights.length:Int))))&&(decide ((a1.getD k_0 (default:Claim)).farm≥0)))&&(decide ((a1.getD k_0 (default:Claim)).farm< (a0.farms.length:Int))))&&(decide ((a1.getD k_0 (default:Claim)).hour≥0)))&&(decide ((a1.getD k_0 (default:Claim)).hour<a0.hours)))&&(decide ((a1.getD k_0 (default:Claim)).litres≥1)))&&(decide ((a1.getD k_0 (default:Claim)).litres≤1073741824)))) ||((a0.rights.getD (Int.toNat ((a1.getD k_0 (default:Claim)).right)) (default:Right)).kind !=1))=false→(0≤(a1.getD k_0 (default:Claim)).right∧(a1.getD k_0 (default:Claim)).right< (a0.rights.length:Int)))∧((((!((((((((decide ((a1.getD k_0 (default:Claim)).right≥0))&&(decide ((a1.getD k_0 (default:Claim)).right< (a0.rights.length:Int))))&&(decide ((a1.getD k_0 (default:Claim)).farm≥0)))&&(decide ((a1.getD k_0 (default:Claim)).farm< (a0.farms.length:Int))))&&(decide ((a1.getD k_0 (default:Claim)).hour≥0)))&&(decide ((a1.getD k_0 (default:Claim)).hour<a0.hours)))&&(decide ((a1.getD k_0 (default:Claim)).litres≥1)))&&(decide ((a1.getD k_0 (default:Claim)).litres≤1073741824)))) ||((a0.rights.getD (Int.toNat ((a1.getD k_0 (default:Claim)).right)) (default:Right)).kind !=1)) ||((a0.rights.getD (Int.toNat ((a1.getD k_0 (default:Claim)).right)) (default:Right)).rank !=(a1.getD k_0 (default:Claim)).rank))=false→((decide ((k_0:Int) > 0))=true→(0≤(IntKind.i64.wrap ((k_0:Int) - 1))∧(IntKind.i64.wrap ((k_0:Int) - 1)) < (a1.length:Int))))))
def dq (a0:District)(a1:List Claim):Int:=(bif((ar a0) !=0)then(ar a0)else(bif(decide ((a1.length:Int) > 4096))then 2 else(match an (eH a0 a1) a1.length 0 ()with| .inl x_0_0=>260| .inr s_0=>0)))
def ew (a0:District)(a1:List Claim):Prop:=(((ar a0) !=0)=false→(a1.length≤bp→((decide ((a1.length:Int) > 4096))=false→(a1.length≤bp→okI (eH a0 a1) (gQ a0 a1) a1.length 0 ()))))
@[go_sem] def mF:List SV→Option Con:=(pD .district fun a0=>(pR .claim fun a1=>(pE (.det (ew a0 a1) (.v (.int .i64 (dq a0 a1)))))))
theorem oU:FnOk Tryz.prog 19 mF:=by
 have hG:ConsOk Tryz.prog (mkG [(34,fun l=>jL (dp [.st .district] l)),(35,mE)] []):=aw (cgc (lF.norm [.st .district]) (cgc oT cg0)) cg0
 refine aX [.o] mixed am hG (fn:=Tryz.f19) (c:=ae Tryz.f19) (by kernel_rfl) (by kernel_rfl) (by kernel_rfl) (by kernel_rfl) (aY fun a0=>(dW fun a1=>(aF (fun hp=>?_))))
 dsimp only[aD]at hp
 unfold ew at hp
 refine⟨Nat.le_of_ble_eq_true rfl,(fun id st=>bif Nat.beq id 0 then some (LCR (ρ:=Unit) (σ:=Unit) 1 [] [0] (fun k_0 s_0=>⟨[(1,.rs .claim a1),(2,.ptr 0 0),(16,.rs .claim a1),(17,.v (.int .i64 (a1.length:Int))),(18,.v (.int .i64 (k_0:Int)))],[.cells (cellsOf .district a0)]⟩) (eH a0 a1) (gQ a0 a1) a1.length () (a1.length≤bp) (fun _=>.ret) (fun x_0_0=>⟨[(4,.v (.int .i64 260))],[.dead]⟩) st)else none),?_,?_⟩
 ·unfold ae Tryz.f19
  simp only[al,true_and,and_true]
  ·refine dy mixed am hG (by kernel_rfl) (fun _=>rfl) (a1.length:Int) rfl iS (fun hb0 k_0 s_0 hlt0 hq0 hw hc=>⟨L0,ah _,?_⟩) (fun hb0 s_0 hc=>?_)
   ·unfold gQ at hq0
    try simp only[hw,Int.toNat_natCast]at hq0
    exact fu
   ·exact fv
 ·unfold ae Tryz.f19
  try unfold dq
  simp only[go_sem,Nat.reduceBEq,Nat.reduceLeDiff,Nat.reduceLT,decide_true,Nat.reduceAdd,Nat.reduceSub,Nat.reduceMul,Int.reduceLE,Int.reduceLT,Int.reduceToNat,Int.reduceNeg,reduceCtorEq]
  all_goals exact cl
@[go_sem] def gu (a0:District)(a1:Int)(k_0:Nat)(s_0:List (ClaimsUse×Bool)×List (Int×Int)×List (ClaimsUse×Bool)):Empty⊕(List (ClaimsUse×Bool)×List (Int×Int)×List (ClaimsUse×Bool)):=(bif((decide (a1< (a0.rights.getD k_0 (default:Right)).since)) ||(decide (a1 > (a0.rights.getD k_0 (default:Right)).to)))then .inr (s_0.1,s_0.2.1,s_0.2.2)else(bif((a0.rights.getD k_0 (default:Right)).kind==3)then .inr ((e_ .claimsUse .bool s_0.1 ({ farm:=(a0.rights.getD k_0 (default:Right)).farm,reach:=(a0.rights.getD k_0 (default:Right)).reach}:ClaimsUse) true),s_0.2.1,s_0.2.2)else(bif(((a0.rights.getD k_0 (default:Right)).kind==2)&&(!(bY .claimsUse .bool s_0.2.2 ({ farm:=(a0.rights.getD k_0 (default:Right)).farm,reach:=(a0.rights.getD k_0 (default:Right)).reach}:ClaimsUse))))then .inr (s_0.1,(e_ .int .int s_0.2.1 ((a0.rights.getD k_0 (default:Right)).reach) (IntKind.i64.wrap ((bY .int .int s_0.2.1 ((a0.rights.getD k_0 (default:Right)).reach))+1))),(e_ .claimsUse .bool s_0.2.2 ({ farm:=(a0.rights.getD k_0 (default:Right)).farm,reach:=(a0.rights.getD k_0 (default:Right)).reach}:ClaimsUse) true))else .inr (s_0.1,s_0.2.1,s_0.2.2))))
def a_ (a0:District)(a1:Int):ClaimsLaw:=(match an (gu a0 a1) a0.rights.length 0 ([],[],[])with| .inl x=>x.elim| .inr s_0=>({ owners:=s_0.2.1,owned:=s_0.2.2,eased:=s_0.1}:ClaimsLaw))
@[go_sem] def pJ:List SV→Option Con:=(pD .district fun a0=>(pI fun a1=>(pE (.det True (.agg [.nm .int .int ((a_ a0 a1).owners),.nm .claimsUse .bool ((a_ a0 a1).owned),.nm .claimsUse .bool ((a_ a0 a1).eased)])))))
theorem vn:FnOk Tryz.prog 50 pJ:=by
 have hG:ConsOk Tryz.prog (mkG [] []):=aw cg0 cg0
 refine In true mixed am hG (fn:=Tryz.f50) (c:=ae Tryz.f50) (by kernel_rfl) (by kernel_rfl) (by kernel_rfl) (by kernel_rfl) (aY fun a0=>(b_ fun a1=>(aF (fun hp=>?_))))
 dsimp only[aD]at hp
 refine⟨Nat.le_of_ble_eq_true rfl,(fun id st=>bif Nat.beq id 0 then some (LCR (ρ:=Empty) (σ:=(List (ClaimsUse×Bool)×List (Int×Int)×List (ClaimsUse×Bool))) 6 [] [0,1,2,3,4,5] (fun k_0 s_0=>⟨[(1,.v (.int .i64 a1)),(4,.ptr 1 0),(5,.ptr 5 0),(14,.rs .right a0.rights),(15,.v (.int .i64 (a0.rights.length:Int))),(16,.v (.int .i64 (k_0:Int)))],[.dead,.cells [.v (.map none),.v (.map none),.v (.map none)],.mp .int .int s_0.2.1 none,.mp .claimsUse .bool s_0.2.2 none,.mp .claimsUse .bool s_0.1 none,.cells [.os 2,.os 3,.os 4]]⟩) (gu a0 a1) pT a0.rights.length ([],[],[]) (a0.rights.length≤bp) ((·.elim)) ((·.elim)) st)else none),?_,?_⟩
 ·unfold ae Tryz.f50
  simp only[al,true_and,and_true]
  ·refine dy mixed am hG (by kernel_rfl) (fun _=>rfl) (a0.rights.length:Int) rfl iS (fun hb0 k_0 s_0 hlt0 _ hw hc=>⟨L0,ah _,?_⟩) (fun hb0 s_0 hc=>?_)
   ·exact Ja
   ·exact Jb
 ·unfold ae Tryz.f50
  try unfold a_
  simp only[go_sem,Nat.reduceBEq,Nat.reduceLeDiff,Nat.reduceLT,decide_true,Nat.reduceAdd,Nat.reduceSub,Nat.reduceMul,Int.reduceLE,Int.reduceLT,Int.reduceToNat,Int.reduceNeg,reduceCtorEq]
  all_goals exact cl
def g6 (x:ClaimsLaw)(u:ClaimsUse):Bool:=(bif(bY .claimsUse .bool x.owned u)then(((IntKind.i64.wrap ((bY .int .int x.owners u.reach) - 1)) ==0) ||(bY .claimsUse .bool x.eased u))else(((bY .int .int x.owners u.reach) ==0) ||(bY .claimsUse .bool x.eased u)))
@[go_sem] def nV:List SV→Option Con:=(pD .claimsLaw fun x=>(pD .claimsUse fun u=>(pE (.det True (.v (.bool (g6 x u)))))))
theorem sS:FnOk Tryz.prog 54 nV:=by
 have hG:ConsOk Tryz.prog (mkG [] []):=aw cg0 cg0
 refine aX [.o] mixed am hG (fn:=Tryz.f54) (c:=ae Tryz.f54) (by kernel_rfl) (by kernel_rfl) (by kernel_rfl) (by kernel_rfl) (aY fun x=>(aY fun u=>(aF (fun hp=>?_))))
 dsimp only[aD]at hp
 refine⟨Nat.le_of_ble_eq_true rfl,L0,ah _,?_⟩
 ·unfold ae Tryz.f54
  try unfold g6
  simp only[go_sem,Nat.reduceBEq,Nat.reduceLeDiff,Nat.reduceLT,decide_true,Nat.reduceAdd,Nat.reduceSub,Nat.reduceMul,Int.reduceLE,Int.reduceLT,Int.reduceToNat,Int.reduceNeg,reduceCtorEq]
  all_goals exact cl
def lY (r:Int)(x_:ClaimsLaw)(c_:Claim):Bool:=(!(g6 x_ ({ farm:=c_.farm,reach:=r}:ClaimsUse)))
@[go_sem] def pK:List SV→Option Con:=(pI fun r=>(pX .claimsLaw fun x_=>(pX .claim fun c_=>(pE (.det True (.v (.bool (lY r x_ c_))))))))
theorem vo:FnOk Tryz.prog 53 pK:=by
 have hG:ConsOk Tryz.prog (mkG [(54,fun l=>nV (dp [.st .claimsLaw,.st .claimsUse] l))] []):=aw (cgc (sS.norm [.st .claimsLaw,.st .claimsUse]) cg0) cg0
 refine aX [.o] mixed am hG (fn:=Tryz.f53) (c:=ae Tryz.f53) (by kernel_rfl) (by kernel_rfl) (by kernel_rfl) (by kernel_rfl) (b_ fun r=>(pA fun x_=>(pA fun c_=>(aF (fun hp=>?_)))))
 dsimp only[aD]at hp
 refine⟨Nat.le_of_ble_eq_true rfl,L0,ah _,?_⟩
 ·unfold ae Tryz.f53
  try unfold lY
  simp only[go_sem,Nat.reduceBEq,Nat.reduceLeDiff,Nat.reduceLT,decide_true,Nat.reduceAdd,Nat.reduceSub,Nat.reduceMul,Int.reduceLE,Int.reduceLT,Int.reduceToNat,Int.reduceNeg,reduceCtorEq]
  all_goals exact cl
def dI (a:ClaimsFound)(b:ClaimsFound):Int:=(cJ a.claim b.claim)
@[go_sem] def pL:List SV→Option Con:=(pD .claimsFound fun a=>(pD .claimsFound fun b=>(pE (.det True (.v (.int .i64 (dI a b)))))))
theorem vp:FnOk Tryz.prog 56 pL:=by
 have hG:ConsOk Tryz.prog (mkG [(35,mE)] []):=aw (cgc oT cg0) cg0
 refine aX [.o] mixed am hG (fn:=Tryz.f56) (c:=ae Tryz.f56) (by kernel_rfl) (by kernel_rfl) (by kernel_rfl) (by kernel_rfl) (aY fun a=>(aY fun b=>(aF (fun hp=>?_))))
 dsimp only[aD]at hp
 refine⟨Nat.le_of_ble_eq_true rfl,L0,ah _,?_⟩
 ·unfold ae Tryz.f56
  try unfold dI
  simp only[go_sem,Nat.reduceBEq,Nat.reduceLeDiff,Nat.reduceLT,decide_true,Nat.reduceAdd,Nat.reduceSub,Nat.reduceMul,Int.reduceLE,Int.reduceLT,Int.reduceToNat,Int.reduceNeg,reduceCtorEq]
  all_goals exact cl
@[go_sem] def dN (s_:List Int)(x_:ClaimsLaw)(c_:Claim)(k_0:Nat)(s_0:Unit):Int⊕Unit:=(bif(lY (s_.getD k_0 (0:Int)) x_ c_)then .inl (k_0:Int)else .inr ())
def aT (s_:List Int)(x_:ClaimsLaw)(c_:Claim):Int:=(match an (dN s_ x_ c_) s_.length 0 ()with| .inl x_0_0=>x_0_0| .inr s_0=>(-1))
@[go_sem] def g7:List SV→Option Con:=(pR .int fun s_=>(pFn 53 (pX .claimsLaw fun x_=>(pX .claim fun c_=>(pE ((pE (.det True (.v (.int .i64 (aT s_ x_ c_)))))))))))
theorem lZ:FnOk Tryz.prog 52 g7:=by
 have hG:ConsOk Tryz.prog (mkG [(53,pK)] []):=aw (cgc vo cg0) cg0
 refine aX [.o] mixed am hG (fn:=Tryz.f52) (c:=ae Tryz.f52) (by kernel_rfl) (by kernel_rfl) (by kernel_rfl) (by kernel_rfl) (dW fun s_=>(sQ (pA fun x_=>(pA fun c_=>(aF ((aF (fun hp=>?_))))))))
 dsimp only[aD]at hp
 refine⟨Nat.le_of_ble_eq_true rfl,(fun id st=>bif Nat.beq id 0 then some (LCR (ρ:=Int) (σ:=Unit) 0 [] [] (fun k_0 s_0=>⟨[(0,.rs .int s_),(1,.fn 53 [] [.ep (cellsOf .claimsLaw x_) 0,.ep (cellsOf .claim c_) 0]),(7,.v (.int .i64 (s_.length:Int))),(8,.v (.int .i64 (k_0:Int)))],[]⟩) (dN s_ x_ c_) pT s_.length () (s_.length≤bp) (fun _=>.ret) (fun x_0_0=>⟨[(4,.v (.int .i64 x_0_0))],[]⟩) st)else none),?_,?_⟩
 ·unfold ae Tryz.f52
  simp only[al,true_and,and_true]
  ·refine dy mixed am hG (by kernel_rfl) (fun _=>rfl) (s_.length:Int) rfl iS (fun hb0 k_0 s_0 hlt0 _ hw hc=>⟨L0,ah _,?_⟩) (fun hb0 s_0 hc=>?_)
   ·exact k9
   ·exact k_
 ·unfold ae Tryz.f52
  try unfold aT
  simp only[go_sem,Nat.reduceBEq,Nat.reduceLeDiff,Nat.reduceLT,decide_true,Nat.reduceAdd,Nat.reduceSub,Nat.reduceMul,Int.reduceLE,Int.reduceLT,Int.reduceToNat,Int.reduceNeg,reduceCtorEq]
  all_goals exact cl
@[go_sem] noncomputable def cp:List SV→Option Con:=fun l=>(g7 l)
theorem lG:FnOk Tryz.prog 52 cp:=lZ
end Go.Sx
end
section
namespace Go.Sx
open Go.Proofs
set_option maxRecDepth 100000
set_option linter.unusedSimpArgs false
theorem Jc {p:Prop}(h:p:=by simp only[go_sem,Nat.reduceBEq,Nat.reduceLeDiff,Nat.reduceLT,decide_true,Nat.reduceAdd,Nat.reduceSub,Nat.reduceMul,Int.reduceLE,Int.reduceLT,Int.reduceToNat,Int.reduceNeg,reduceCtorEq];all_goals exact xi):p:=h
def nW (d:District):Bool:=((((((decide ((d.reaches.length:Int)≤100))&&(decide ((d.farms.length:Int)≤700)))&&(decide ((d.crops.length:Int)≤100)))&&(decide ((d.rights.length:Int)≤300)))&&(decide ((d.duties.length:Int)≤300)))&&(decide ((d.wells.length:Int)≤100)))
@[go_sem] def pN:List SV→Option Con:=(pD .district fun d=>(pE (.det True (.v (.bool (nW d))))))
theorem sT:FnOk Tryz.prog 33 pN:=by
 have hG:ConsOk Tryz.prog (mkG [] []):=aw cg0 cg0
 refine aX [.o] mixed am hG (fn:=Tryz.f33) (c:=ae Tryz.f33) (by kernel_rfl) (by kernel_rfl) (by kernel_rfl) (by kernel_rfl) (aY fun d=>(aF (fun hp=>?_)))
 dsimp only[aD]at hp
 refine⟨Nat.le_of_ble_eq_true rfl,L0,ah _,?_⟩
 ·unfold ae Tryz.f33
  try unfold nW
  simp only[go_sem,Nat.reduceBEq,Nat.reduceLeDiff,Nat.reduceLT,decide_true,Nat.reduceAdd,Nat.reduceSub,Nat.reduceMul,Int.reduceLE,Int.reduceLT,Int.reduceToNat,Int.reduceNeg,reduceCtorEq]
  all_goals exact cl
def ax (n:Int)(lo:Int)(hi:Int):Bool:=((decide (n≥lo))&&(decide (n≤hi)))
@[go_sem] def fS:List SV→Option Con:=(pI fun n=>(pI fun lo=>(pI fun hi=>(pE (.det True (.v (.bool (ax n lo hi))))))))
theorem gw:FnOk Tryz.prog 99 fS:=by
 have hG:ConsOk Tryz.prog (mkG [] []):=aw cg0 cg0
 refine aX [.o] mixed am hG (fn:=Tryz.f99) (c:=ae Tryz.f99) (by kernel_rfl) (by kernel_rfl) (by kernel_rfl) (by kernel_rfl) (b_ fun n=>(b_ fun lo=>(b_ fun hi=>(aF (fun hp=>?_)))))
 dsimp only[aD]at hp
 refine⟨Nat.le_of_ble_eq_true rfl,L0,ah _,?_⟩
 ·unfold ae Tryz.f99
  try unfold ax
  simp only[go_sem,Nat.reduceBEq,Nat.reduceLeDiff,Nat.reduceLT,decide_true,Nat.reduceAdd,Nat.reduceSub,Nat.reduceMul,Int.reduceLE,Int.reduceLT,Int.reduceToNat,Int.reduceNeg,reduceCtorEq]
  all_goals exact cl
@[go_sem] def eU (b:Int)(k_0:Nat)(s_0:Int×Int):Int⊕(Int×Int):=(bif(decide (s_0.2 > 0))then .inr (s_0.2,(Int.tmod s_0.1 s_0.2))else .inl s_0.1)
def jk (b:Int)(k_0:Nat)(s_0:Int×Int):Prop:=((decide (s_0.2 > 0))=true→s_0.2≠0)
def iT (a:Int)(b:Int):Int:=(match an (eU b) (Int.toNat b+1) 0 (a,b)with| .inl x_0_0=>x_0_0| .inr s_0=>default)
def jb (a:Int)(b:Int):Prop:=(okI (eU b) (jk b) (Int.toNat b+1) 0 (a,b)∧(∀ z_,an (eU b) (Int.toNat b+1) 0 (a,b)≠ .inr z_))
@[go_sem] def oV:List SV→Option Con:=(pI fun a=>(pI fun b=>(pE (.det (jb a b) (.v (.int .i64 (iT a b)))))))
theorem uh:FnOk Tryz.prog 174 oV:=by
 have hG:ConsOk Tryz.prog (mkG [] []):=aw cg0 cg0
 refine aX [.o] mixed am hG (fn:=Tryz.f174) (c:=ae Tryz.f174) (by kernel_rfl) (by kernel_rfl) (by kernel_rfl) (by kernel_rfl) (b_ fun a=>(b_ fun b=>(aF (fun hp=>?_))))
 dsimp only[aD]at hp
 unfold jb at hp
 refine⟨Nat.le_of_ble_eq_true rfl,(fun id st=>bif Nat.beq id 0 then some (LCV (ρ:=Int) (σ:=(Int×Int)) 0 [] [] (fun k_0 s_0=>⟨[(0,.v (.int .i64 s_0.1)),(1,.v (.int .i64 s_0.2))],[]⟩) (eU b) (jk b) (Int.toNat b+1) (a,b) (fun _=>.normal) (fun x_0_0=>⟨[(0,.v (.int .i64 x_0_0))],[]⟩) st)else none),?_,?_⟩
 ·unfold ae Tryz.f174
  simp only[al,true_and,and_true]
  ·refine fc mixed am hG (by kernel_rfl) (fun _=>rfl) fun k_0 s_0 hq0=>⟨L0,ah _,?_⟩
   ·unfold jk at hq0
    exact Jc
 ·unfold ae Tryz.f174
  try unfold iT
  simp only[go_sem,Nat.reduceBEq,Nat.reduceLeDiff,Nat.reduceLT,decide_true,Nat.reduceAdd,Nat.reduceSub,Nat.reduceMul,Int.reduceLE,Int.reduceLT,Int.reduceToNat,Int.reduceNeg,reduceCtorEq]
  all_goals exact cl
def kh (n:Int):Int:=(bif(decide (n<0))then(IntKind.i64.wrap (0 - n))else n)
@[go_sem] def sW:List SV→Option Con:=(pI fun n=>(pE (.det True (.v (.int .i64 (kh n))))))
theorem yr:FnOk Tryz.prog 175 sW:=by
 have hG:ConsOk Tryz.prog (mkG [] []):=aw cg0 cg0
 refine aX [.o] mixed am hG (fn:=Tryz.f175) (c:=ae Tryz.f175) (by kernel_rfl) (by kernel_rfl) (by kernel_rfl) (by kernel_rfl) (b_ fun n=>(aF (fun hp=>?_)))
 dsimp only[aD]at hp
 refine⟨Nat.le_of_ble_eq_true rfl,L0,ah _,?_⟩
 ·unfold ae Tryz.f175
  try unfold kh
  simp only[go_sem,Nat.reduceBEq,Nat.reduceLeDiff,Nat.reduceLT,decide_true,Nat.reduceAdd,Nat.reduceSub,Nat.reduceMul,Int.reduceLE,Int.reduceLT,Int.reduceToNat,Int.reduceNeg,reduceCtorEq]
  all_goals exact cl
def ez (a:Ratio):Bool:=(((((decide (a.d≥1))&&(decide (a.d≤1073741824)))&&(decide (a.n≥(-1073741824))))&&(decide (a.n≤1073741824)))&&((iT (kh a.n) a.d) ==1))
def gG (a:Ratio):Prop:=(((((decide (a.d≥1))&&(decide (a.d≤1073741824)))&&(decide (a.n≥(-1073741824))))&&(decide (a.n≤1073741824)))=true→(jb (kh a.n) a.d))
@[go_sem] def nu:List SV→Option Con:=(pD .ratio fun a=>(pE (.det (gG a) (.v (.bool (ez a))))))
theorem pO:FnOk Tryz.prog 160 nu:=by
 have hG:ConsOk Tryz.prog (mkG [(174,oV),(175,sW)] []):=aw (cgc uh (cgc yr cg0)) cg0
 refine aX [.o] mixed am hG (fn:=Tryz.f160) (c:=ae Tryz.f160) (by kernel_rfl) (by kernel_rfl) (by kernel_rfl) (by kernel_rfl) (aY fun a=>(aF (fun hp=>?_)))
 dsimp only[aD]at hp
 unfold gG at hp
 refine⟨Nat.le_of_ble_eq_true rfl,L0,ah _,?_⟩
 ·unfold ae Tryz.f160
  try unfold ez
  simp only[go_sem,Nat.reduceBEq,Nat.reduceLeDiff,Nat.reduceLT,decide_true,Nat.reduceAdd,Nat.reduceSub,Nat.reduceMul,Int.reduceLE,Int.reduceLT,Int.reduceToNat,Int.reduceNeg,reduceCtorEq]
  all_goals exact cl
def fB (a:Ratio):Int:=(bif(!(ez a))then 120 else 0)
def kC (a:Ratio):Prop:=(gG a)
@[go_sem] def qZ:List SV→Option Con:=(pD .ratio fun a=>(pE (.det (kC a) (.v (.int .i64 (fB a))))))
theorem xj:FnOk Tryz.prog 178 qZ:=by
 have hG:ConsOk Tryz.prog (mkG [(160,nu)] []):=aw (cgc pO cg0) cg0
 refine aX [.o] mixed am hG (fn:=Tryz.f178) (c:=ae Tryz.f178) (by kernel_rfl) (by kernel_rfl) (by kernel_rfl) (by kernel_rfl) (aY fun a=>(aF (fun hp=>?_)))
 dsimp only[aD]at hp
 unfold kC at hp
 refine⟨Nat.le_of_ble_eq_true rfl,L0,ah _,?_⟩
 ·unfold ae Tryz.f178
  try unfold fB
  simp only[go_sem,Nat.reduceBEq,Nat.reduceLeDiff,Nat.reduceLT,decide_true,Nat.reduceAdd,Nat.reduceSub,Nat.reduceMul,Int.reduceLE,Int.reduceLT,Int.reduceToNat,Int.reduceNeg,reduceCtorEq]
  all_goals exact cl
def mG (a:Ratio)(b:Ratio):Bool:=(decide ((IntKind.i64.wrap (a.n*b.d)) < (IntKind.i64.wrap (b.n*a.d))))
@[go_sem] def sX:List SV→Option Con:=(pD .ratio fun a=>(pD .ratio fun b=>(pE (.det True (.v (.bool (mG a b)))))))
theorem yu:FnOk Tryz.prog 184 sX:=by
 have hG:ConsOk Tryz.prog (mkG [] []):=aw cg0 cg0
 refine aX [.o] mixed am hG (fn:=Tryz.f184) (c:=ae Tryz.f184) (by kernel_rfl) (by kernel_rfl) (by kernel_rfl) (by kernel_rfl) (aY fun a=>(aY fun b=>(aF (fun hp=>?_))))
 dsimp only[aD]at hp
 refine⟨Nat.le_of_ble_eq_true rfl,L0,ah _,?_⟩
 ·unfold ae Tryz.f184
  try unfold mG
  simp only[go_sem,Nat.reduceBEq,Nat.reduceLeDiff,Nat.reduceLT,decide_true,Nat.reduceAdd,Nat.reduceSub,Nat.reduceMul,Int.reduceLE,Int.reduceLT,Int.reduceToNat,Int.reduceNeg,reduceCtorEq]
  all_goals exact cl
def mH (a:Ratio)(b:Ratio):Bool:=((ez a)&&(ez b))
def l5 (a:Ratio)(b:Ratio):Prop:=((gG a)∧((ez a)=true→(gG b)))
@[go_sem] def sY:List SV→Option Con:=(pD .ratio fun a=>(pD .ratio fun b=>(pE (.det (l5 a b) (.v (.bool (mH a b)))))))
theorem yw:FnOk Tryz.prog 176 sY:=by
 have hG:ConsOk Tryz.prog (mkG [(160,nu)] []):=aw (cgc pO cg0) cg0
 refine aX [.o] mixed am hG (fn:=Tryz.f176) (c:=ae Tryz.f176) (by kernel_rfl) (by kernel_rfl) (by kernel_rfl) (by kernel_rfl) (aY fun a=>(aY fun b=>(aF (fun hp=>?_))))
 dsimp only[aD]at hp
 unfold l5 at hp
 refine⟨Nat.le_of_ble_eq_true rfl,L0,ah _,?_⟩
 ·unfold ae Tryz.f176
  try unfold mH
  simp only[go_sem,Nat.reduceBEq,Nat.reduceLeDiff,Nat.reduceLT,decide_true,Nat.reduceAdd,Nat.reduceSub,Nat.reduceMul,Int.reduceLE,Int.reduceLT,Int.reduceToNat,Int.reduceNeg,reduceCtorEq]
  all_goals exact cl
def kl (a:Ratio)(b:Ratio):Int×Int:=(bif(!(mH a b))then(0,120)else(bif(mG a b)then((-1),0)else(bif(mG b a)then(1,0)else(0,0))))
def pP (a:Ratio)(b:Ratio):Prop:=(l5 a b)
@[go_sem] def uQ:List SV→Option Con:=(pD .ratio fun a=>(pD .ratio fun b=>(pE (.det (pP a b) (.tup [.v (.int .i64 ((kl a b).1)),.v (.int .i64 ((kl a b).2))])))))
theorem AF:FnOk Tryz.prog 179 uQ:=by
 have hG:ConsOk Tryz.prog (mkG [(176,sY),(184,sX)] []):=aw (cgc yw (cgc yu cg0)) cg0
 refine aX [.o,.o] mixed am hG (fn:=Tryz.f179) (c:=ae Tryz.f179) (by kernel_rfl) (by kernel_rfl) (by kernel_rfl) (by kernel_rfl) (aY fun a=>(aY fun b=>(aF (fun hp=>?_))))
 dsimp only[aD]at hp
 unfold pP at hp
 refine⟨Nat.le_of_ble_eq_true rfl,L0,ah _,?_⟩
 ·unfold ae Tryz.f179
  try unfold kl
  simp only[go_sem,Nat.reduceBEq,Nat.reduceLeDiff,Nat.reduceLT,decide_true,Nat.reduceAdd,Nat.reduceSub,Nat.reduceMul,Int.reduceLE,Int.reduceLT,Int.reduceToNat,Int.reduceNeg,reduceCtorEq]
  all_goals exact cl
def eo (x:Ratio×Ratio):Bool:=(bif(((fB x.1) !=0) ||((fB x.2) !=0))then false else(((decide (x.1.n≥0))&&(decide ((kl x.1 x.2).1≤0)))&&(decide (x.2.n≤x.2.d))))
def jM (x:Ratio×Ratio):Prop:=((kC x.1)∧((((fB x.1) !=0)=false→(kC x.2))∧((((fB x.1) !=0) ||((fB x.2) !=0))=false→(pP x.1 x.2))))
@[go_sem] def pW:List SV→Option Con:=(pD .ratio2 fun x=>(pE (.det (jM x) (.v (.bool (eo x))))))
theorem vr:FnOk Tryz.prog 164 pW:=by
 have hG:ConsOk Tryz.prog (mkG [(178,qZ),(179,uQ)] []):=aw (cgc xj (cgc AF cg0)) cg0
 refine aX [.o] mixed am hG (fn:=Tryz.f164) (c:=ae Tryz.f164) (by kernel_rfl) (by kernel_rfl) (by kernel_rfl) (by kernel_rfl) (aY fun x=>(aF (fun hp=>?_)))
 dsimp only[aD]at hp
 unfold jM at hp
 refine⟨Nat.le_of_ble_eq_true rfl,L0,ah _,?_⟩
 ·unfold ae Tryz.f164
  try unfold eo
  simp only[go_sem,Nat.reduceBEq,Nat.reduceLeDiff,Nat.reduceLT,decide_true,Nat.reduceAdd,Nat.reduceSub,Nat.reduceMul,Int.reduceLE,Int.reduceLT,Int.reduceToNat,Int.reduceNeg,reduceCtorEq]
  all_goals exact cl
def la (x:Reach):Bool:=(bif(((!(ax x.delay 1 16)) ||(!(ax x.cap 0 1073741824))) ||(!(ax x.bank 0 1099511627776)))then false else(bif(((!(ax x.siphon 0 (if x.bank<x.cap then x.bank else x.cap))) ||(!(ax x.evap.lo 0 x.evap.hi))) ||(decide (x.evap.hi > 1073741824)))then false else(eo x.seep)))
def kD (x:Reach):Prop:=((((!(ax x.delay 1 16)) ||(!(ax x.cap 0 1073741824))) ||(!(ax x.bank 0 1099511627776)))=false→((((!(ax x.siphon 0 (if x.bank<x.cap then x.bank else x.cap))) ||(!(ax x.evap.lo 0 x.evap.hi))) ||(decide (x.evap.hi > 1073741824)))=false→(jM x.seep)))
@[go_sem] def q_:List SV→Option Con:=(pD .reach fun x=>(pE (.det (kD x) (.v (.bool (la x))))))
theorem xk:FnOk Tryz.prog 137 q_:=by
 have hG:ConsOk Tryz.prog (mkG [(99,fS),(164,pW)] []):=aw (cgc gw (cgc vr cg0)) cg0
 refine aX [.o] mixed am hG (fn:=Tryz.f137) (c:=ae Tryz.f137) (by kernel_rfl) (by kernel_rfl) (by kernel_rfl) (by kernel_rfl) (aY fun x=>(aF (fun hp=>?_)))
 dsimp only[aD]at hp
 unfold kD at hp
 refine⟨Nat.le_of_ble_eq_true rfl,L0,ah _,?_⟩
 ·unfold ae Tryz.f137
  try unfold la
  simp only[go_sem,Nat.reduceBEq,Nat.reduceLeDiff,Nat.reduceLT,decide_true,Nat.reduceAdd,Nat.reduceSub,Nat.reduceMul,Int.reduceLE,Int.reduceLT,Int.reduceToNat,Int.reduceNeg,reduceCtorEq]
  all_goals exact cl
@[go_sem] def eV (l_:List Reach)(k_0:Nat)(s_0:Unit):Unit⊕Unit:=(bif((((k_0:Int) ==0)&&((l_.getD k_0 (default:Reach)).up !=(-1))) ||((decide ((k_0:Int) > 0))&&(!(ax ((l_.getD k_0 (default:Reach)).up) 0 (IntKind.i64.wrap ((k_0:Int) - 1))))))then .inl ()else(bif(!(la (l_.getD k_0 (default:Reach))))then .inl ()else .inr ()))
def jl (l_:List Reach)(k_0:Nat)(s_0:Unit):Prop:=(l_.length≤bp→(((((k_0:Int) ==0)&&((l_.getD k_0 (default:Reach)).up !=(-1))) ||((decide ((k_0:Int) > 0))&&(!(ax ((l_.getD k_0 (default:Reach)).up) 0 (IntKind.i64.wrap ((k_0:Int) - 1))))))=false→(kD (l_.getD k_0 (default:Reach)))))
def iU (l_:List Reach):Bool:=(match an (eV l_) l_.length 0 ()with| .inl x_0_0=>false| .inr s_0=>(decide ((l_.length:Int) > 0)))
def lH (l_:List Reach):Prop:=okI (eV l_) (jl l_) l_.length 0 ()
@[go_sem] def oW:List SV→Option Con:=(pR .reach fun l_=>(pE (.det (lH l_) (.v (.bool (iU l_))))))
theorem ui:FnOk Tryz.prog 100 oW:=by
 have hG:ConsOk Tryz.prog (mkG [(99,fS),(137,q_)] []):=aw (cgc gw (cgc xk cg0)) cg0
 refine aX [.o] mixed am hG (fn:=Tryz.f100) (c:=ae Tryz.f100) (by kernel_rfl) (by kernel_rfl) (by kernel_rfl) (by kernel_rfl) (dW fun l_=>(aF (fun hp=>?_)))
 dsimp only[aD]at hp
 unfold lH at hp
 refine⟨Nat.le_of_ble_eq_true rfl,(fun id st=>bif Nat.beq id 0 then some (LCR (ρ:=Unit) (σ:=Unit) 0 [] [] (fun k_0 s_0=>⟨[(0,.rs .reach l_),(3,.v (.int .i64 (k_0:Int)))],[]⟩) (eV l_) (jl l_) l_.length () (True) (fun _=>.ret) (fun x_0_0=>⟨[(2,.v (.bool false))],[]⟩) st)else none),?_,?_⟩
 ·unfold ae Tryz.f100
  simp only[al,true_and,and_true]
  ·refine jI (l_.length≤bp) mixed am hG (by kernel_rfl) (fun _=>rfl) (l_.length:Int) rfl iS (fun hb0 k_0 s_0 hlt0 hq0 hw hc=>⟨L0,ah _,?_⟩) (fun hb0 s_0 hc=>?_) fun hb0 k_0 s_0=>?_
   ·unfold jl at hq0
    try simp only[hw,Int.toNat_natCast]at hq0
    exact k9
   ·exact k_
   ·simp only[go_sem,Nat.reduceBEq,Nat.reduceLeDiff,Nat.reduceLT,decide_true,Nat.reduceAdd,Nat.reduceSub,Nat.reduceMul,Int.reduceLE,Int.reduceLT,Int.reduceToNat,Int.reduceNeg,reduceCtorEq,hb0]
 ·unfold ae Tryz.f100
  try unfold iU
  simp only[go_sem,Nat.reduceBEq,Nat.reduceLeDiff,Nat.reduceLT,decide_true,Nat.reduceAdd,Nat.reduceSub,Nat.reduceMul,Int.reduceLE,Int.reduceLT,Int.reduceToNat,Int.reduceNeg,reduceCtorEq]
  all_goals exact cl
@[go_sem] def g8 (a0:District)(k_0:Nat)(s_0:Unit):Unit⊕Unit:=(bif(!(ax ((a0.crops.getD k_0 (default:Crop)).need) 0 1048576))then .inl ()else .inr ())
@[go_sem] def g9 (a0:District)(k_1:Nat)(s_1:Unit):Unit⊕Unit:=(bif((!(ax ((a0.farms.getD k_1 (default:Farm)).reach) 0 (IntKind.i64.wrap ((a0.reaches.length:Int) - 1)))) ||(!(ax ((a0.farms.getD k_1 (default:Farm)).area) 0 1048576)))then .inl ()else(bif((((a0.farms.getD k_1 (default:Farm)).area==0)&&((a0.farms.getD k_1 (default:Farm)).crop !=(-1))) ||((decide ((a0.farms.getD k_1 (default:Farm)).area > 0))&&(!(ax ((a0.farms.getD k_1 (default:Farm)).crop) 0 (IntKind.i64.wrap ((a0.crops.length:Int) - 1))))))then .inl ()else .inr ()))
def ld (a0:District):Bool:=(match an (g8 a0) a0.crops.length 0 ()with| .inl x_0_0=>false| .inr s_0=>(match an (g9 a0) a0.farms.length 0 ()with| .inl x_1_0=>false| .inr s_1=>true))
@[go_sem] def ra:List SV→Option Con:=(pD .district fun a0=>(pE (.det True (.v (.bool (ld a0))))))
theorem xl:FnOk Tryz.prog 101 ra:=by
 have hG:ConsOk Tryz.prog (mkG [(99,fS)] []):=aw (cgc gw cg0) cg0
 refine aX [.o] mixed am hG (fn:=Tryz.f101) (c:=ae Tryz.f101) (by kernel_rfl) (by kernel_rfl) (by kernel_rfl) (by kernel_rfl) (aY fun a0=>(aF (fun hp=>?_)))
 dsimp only[aD]at hp
 refine⟨Nat.le_of_ble_eq_true rfl,(fun id st=>bif Nat.beq id 0 then some (LCR (ρ:=Unit) (σ:=Unit) 1 [] [0] (fun k_0 s_0=>⟨[(1,.ptr 0 0),(3,.v (.int .i64 (k_0:Int)))],[.cells (cellsOf .district a0)]⟩) (g8 a0) pT a0.crops.length () (True) (fun _=>.ret) (fun x_0_0=>⟨[(2,.v (.bool false))],[.dead]⟩) st)else bif Nat.beq id 2 then some (LCR (ρ:=Unit) (σ:=Unit) 1 [] [0] (fun k_1 s_1=>⟨[(1,.ptr 0 0),(4,.v (.int .i64 (k_1:Int)))],[.cells (cellsOf .district a0)]⟩) (g9 a0) pT a0.farms.length () (True) (fun _=>.ret) (fun x_1_0=>⟨[(2,.v (.bool false))],[.dead]⟩) st)else none),?_,?_⟩
 ·unfold ae Tryz.f101
  simp only[al,true_and,and_true]
  refine⟨?_,?_⟩
  ·refine jI (a0.crops.length≤bp) mixed am hG (by kernel_rfl) (fun _=>rfl) (a0.crops.length:Int) rfl iS (fun hb0 k_0 s_0 hlt0 _ hw hc=>⟨L0,ah _,?_⟩) (fun hb0 s_0 hc=>?_) fun hb0 k_0 s_0=>?_
   ·exact fu
   ·exact fv
   ·simp only[go_sem,Nat.reduceBEq,Nat.reduceLeDiff,Nat.reduceLT,decide_true,Nat.reduceAdd,Nat.reduceSub,Nat.reduceMul,Int.reduceLE,Int.reduceLT,Int.reduceToNat,Int.reduceNeg,reduceCtorEq,hb0]
  ·refine jI (a0.farms.length≤bp) mixed am hG (by kernel_rfl) (fun _=>rfl) (a0.farms.length:Int) rfl iS (fun hb1 k_1 s_1 hlt1 _ hw hc=>⟨L0,ah _,?_⟩) (fun hb1 s_1 hc=>?_) fun hb1 k_1 s_1=>?_
   ·exact fu
   ·exact fv
   ·simp only[go_sem,Nat.reduceBEq,Nat.reduceLeDiff,Nat.reduceLT,decide_true,Nat.reduceAdd,Nat.reduceSub,Nat.reduceMul,Int.reduceLE,Int.reduceLT,Int.reduceToNat,Int.reduceNeg,reduceCtorEq,hb1]
 ·unfold ae Tryz.f101
  try unfold ld
  simp only[go_sem,Nat.reduceBEq,Nat.reduceLeDiff,Nat.reduceLT,decide_true,Nat.reduceAdd,Nat.reduceSub,Nat.reduceMul,Int.reduceLE,Int.reduceLT,Int.reduceToNat,Int.reduceNeg,reduceCtorEq]
  all_goals exact cl
def lg (a0:District)(a1:Right):Bool:=(bif((((!(ax a1.farm 0 (IntKind.i64.wrap ((a0.farms.length:Int) - 1)))) ||(!(ax a1.reach 0 (IntKind.i64.wrap ((a0.reaches.length:Int) - 1))))) ||(!(ax a1.since 0 a1.to))) ||(decide (a1.to≥a0.hours)))then false else(bif(a1.kind==1)then(((((a1.reach==0)&&(ax a1.rank 0 1048576))&&(ax a1.litres 1 1073741824))&&(ax a1.length 1 a1.every))&&(decide (a1.every≤a0.hours)))else(bif(a1.kind==2)then((((((a1.rank==0)&&(a1.litres==0))&&(a1.every==0))&&(a1.length==0))&&(a1.since==0))&&(a1.to==(IntKind.i64.wrap (a0.hours - 1))))else(bif(a1.kind==3)then((((a1.rank==0)&&(a1.litres==0))&&(a1.every==0))&&(a1.length==0))else false))))
@[go_sem] def rb:List SV→Option Con:=(pD .district fun a0=>(pD .right fun a1=>(pE (.det True (.v (.bool (lg a0 a1)))))))
theorem xm:FnOk Tryz.prog 102 rb:=by
 have hG:ConsOk Tryz.prog (mkG [(99,fS)] []):=aw (cgc gw cg0) cg0
 refine aX [.o] mixed am hG (fn:=Tryz.f102) (c:=ae Tryz.f102) (by kernel_rfl) (by kernel_rfl) (by kernel_rfl) (by kernel_rfl) (aY fun a0=>(aY fun a1=>(aF (fun hp=>?_))))
 dsimp only[aD]at hp
 refine⟨Nat.le_of_ble_eq_true rfl,L0,ah _,?_⟩
 ·unfold ae Tryz.f102
  try unfold lg
  simp only[go_sem,Nat.reduceBEq,Nat.reduceLeDiff,Nat.reduceLT,decide_true,Nat.reduceAdd,Nat.reduceSub,Nat.reduceMul,Int.reduceLE,Int.reduceLT,Int.reduceToNat,Int.reduceNeg,reduceCtorEq]
  all_goals exact cl
@[go_sem] def g_ (a0:District)(k_0:Nat)(s_0:Unit):Unit⊕Unit:=(bif(!(lg a0 (a0.rights.getD k_0 (default:Right))))then .inl ()else .inr ())
@[go_sem] def h_ (a0:District)(k_1:Nat)(s_1:Unit):Unit⊕Unit:=(bif(((!(ax ((a0.duties.getD k_1 (default:Duty)).farm) 0 (IntKind.i64.wrap ((a0.farms.length:Int) - 1)))) ||(!(ax ((a0.duties.getD k_1 (default:Duty)).reach) 0 (IntKind.i64.wrap ((a0.reaches.length:Int) - 1))))) ||(!(ax ((a0.duties.getD k_1 (default:Duty)).due) 0 a0.hours)))then .inl ()else .inr ())
def jt (a0:District):Bool:=(bif(((!(ax a0.hours 1 4096)) ||(!(ax a0.tank.start 0 a0.tank.cap))) ||(decide (a0.tank.cap > 1099511627776)))then false else(bif((!(iU a0.reaches)) ||(!(ld a0)))then false else(match an (g_ a0) a0.rights.length 0 ()with| .inl x_0_0=>false| .inr s_0=>(match an (h_ a0) a0.duties.length 0 ()with| .inl x_1_0=>false| .inr s_1=>true))))
def kE (a0:District):Prop:=((((!(ax a0.hours 1 4096)) ||(!(ax a0.tank.start 0 a0.tank.cap))) ||(decide (a0.tank.cap > 1099511627776)))=false→(lH a0.reaches))
@[go_sem] def re:List SV→Option Con:=(pD .district fun a0=>(pE (.det (kE a0) (.v (.bool (jt a0))))))
theorem xn:FnOk Tryz.prog 68 re:=by
 have hG:ConsOk Tryz.prog (mkG [(99,fS),(100,fun l=>oW (dp [.sl .reach] l)),(101,fun l=>ra (dp [.st .district] l)),(102,fun l=>rb (dp [.st .district,.st .right] l))] []):=aw (cgc gw (cgc (ui.norm [.sl .reach]) (cgc (xl.norm [.st .district]) (cgc (xm.norm [.st .district,.st .right]) cg0)))) cg0
 refine aX [.o] mixed am hG (fn:=Tryz.f68) (c:=ae Tryz.f68) (by kernel_rfl) (by kernel_rfl) (by kernel_rfl) (by kernel_rfl) (aY fun a0=>(aF (fun hp=>?_)))
 dsimp only[aD]at hp
 unfold kE at hp
 refine⟨Nat.le_of_ble_eq_true rfl,(fun id st=>bif Nat.beq id 0 then some (LCR (ρ:=Unit) (σ:=Unit) 1 [] [0] (fun k_0 s_0=>⟨[(1,.ptr 0 0),(3,.v (.int .i64 (k_0:Int)))],[.cells (cellsOf .district a0)]⟩) (g_ a0) pT a0.rights.length () (True) (fun _=>.ret) (fun x_0_0=>⟨[(2,.v (.bool false))],[.dead]⟩) st)else bif Nat.beq id 2 then some (LCR (ρ:=Unit) (σ:=Unit) 1 [] [0] (fun k_1 s_1=>⟨[(1,.ptr 0 0),(4,.v (.int .i64 (k_1:Int)))],[.cells (cellsOf .district a0)]⟩) (h_ a0) pT a0.duties.length () (True) (fun _=>.ret) (fun x_1_0=>⟨[(2,.v (.bool false))],[.dead]⟩) st)else none),?_,?_⟩
 ·unfold ae Tryz.f68
  simp only[al,true_and,and_true]
  refine⟨?_,?_⟩
  ·refine jI (a0.rights.length≤bp) mixed am hG (by kernel_rfl) (fun _=>rfl) (a0.rights.length:Int) rfl iS (fun hb0 k_0 s_0 hlt0 _ hw hc=>⟨L0,ah _,?_⟩) (fun hb0 s_0 hc=>?_) fun hb0 k_0 s_0=>?_
   ·exact fu
   ·exact fv
   ·simp only[go_sem,Nat.reduceBEq,Nat.reduceLeDiff,Nat.reduceLT,decide_true,Nat.reduceAdd,Nat.reduceSub,Nat.reduceMul,Int.reduceLE,Int.reduceLT,Int.reduceToNat,Int.reduceNeg,reduceCtorEq,hb0]
  ·refine jI (a0.duties.length≤bp) mixed am hG (by kernel_rfl) (fun _=>rfl) (a0.duties.length:Int) rfl iS (fun hb1 k_1 s_1 hlt1 _ hw hc=>⟨L0,ah _,?_⟩) (fun hb1 s_1 hc=>?_) fun hb1 k_1 s_1=>?_
   ·exact fu
   ·exact fv
   ·simp only[go_sem,Nat.reduceBEq,Nat.reduceLeDiff,Nat.reduceLT,decide_true,Nat.reduceAdd,Nat.reduceSub,Nat.reduceMul,Int.reduceLE,Int.reduceLT,Int.reduceToNat,Int.reduceNeg,reduceCtorEq,hb1]
 ·unfold ae Tryz.f68
  try unfold jt
  simp only[go_sem,Nat.reduceBEq,Nat.reduceLeDiff,Nat.reduceLT,decide_true,Nat.reduceAdd,Nat.reduceSub,Nat.reduceMul,Int.reduceLE,Int.reduceLT,Int.reduceToNat,Int.reduceNeg,reduceCtorEq]
  all_goals exact cl
def ia (d:District):Int:=(bif(((((decide ((d.reaches.length:Int) > 64)) ||(decide ((d.farms.length:Int) > 600))) ||(decide ((d.crops.length:Int) > 32))) ||(decide ((d.rights.length:Int) > 256))) ||(decide ((d.duties.length:Int) > 256)))then 2 else(bif(!(jt d))then 191 else 0))
def kF (d:District):Prop:=(d.reaches.length≤bp→((((((decide ((d.reaches.length:Int) > 64)) ||(decide ((d.farms.length:Int) > 600))) ||(decide ((d.crops.length:Int) > 32))) ||(decide ((d.rights.length:Int) > 256))) ||(decide ((d.duties.length:Int) > 256)))=false→(kE d)))
@[go_sem] def rf:List SV→Option Con:=(pD .district fun d=>(pE (.det (kF d) (.v (.int .i64 (ia d))))))
theorem xo:FnOk Tryz.prog 36 rf:=by
 have hG:ConsOk Tryz.prog (mkG [(68,fun l=>re (dp [.st .district] l))] []):=aw (cgc (xn.norm [.st .district]) cg0) cg0
 refine aX [.o] mixed am hG (fn:=Tryz.f36) (c:=ae Tryz.f36) (by kernel_rfl) (by kernel_rfl) (by kernel_rfl) (by kernel_rfl) (aY fun d=>(aF (fun hp=>?_)))
 dsimp only[aD]at hp
 unfold kF at hp
 refine⟨Nat.le_of_ble_eq_true rfl,L0,ah _,?_⟩
 ·unfold ae Tryz.f36
  try unfold ia
  simp only[go_sem,Nat.reduceBEq,Nat.reduceLeDiff,Nat.reduceLT,decide_true,Nat.reduceAdd,Nat.reduceSub,Nat.reduceMul,Int.reduceLE,Int.reduceLT,Int.reduceToNat,Int.reduceNeg,reduceCtorEq]
  all_goals exact cl
end Go.Sx
end
section
namespace Go.Sx
open Go.Proofs
set_option maxRecDepth 100000
set_option linter.unusedSimpArgs false
end Go.Sx
end
section
namespace Go.Sx
open Go.Proofs
set_option maxRecDepth 100000
set_option linter.unusedSimpArgs false
end Go.Sx
end
section
namespace Go.Sx
open Go.Proofs
set_option maxRecDepth 100000
set_option linter.unusedSimpArgs false
@[go_sem] def sZ (l_:List Deed)(k_0:Nat)(s_0:Unit):Unit⊕Unit:=(bif(decide ((((l_.getD k_0 (default:Deed)).parts).length:Int) > 100))then .inl ()else .inr ())
def uj (d:District)(l_:List Deed):Bool:=(bif((decide ((l_.length:Int) > 512))&&(decide ((l_.length:Int)≤700)))then(nW d)else(bif((((decide ((l_.length:Int) > 60)) ||(!(nW d))) ||((decide ((d.rights.length:Int) > 40))&&(decide ((d.rights.length:Int)≤256)))) ||((decide ((d.farms.length:Int) > 60))&&(decide ((d.farms.length:Int)≤600))))then false else(match an (sZ l_) l_.length 0 ()with| .inl x_0_0=>false| .inr s_0=>true)))
@[go_sem] def uR:List SV→Option Con:=(pD .district fun d=>(pR .deed fun l_=>(pE (.det True (.v (.bool (uj d l_)))))))
theorem AG:FnOk Tryz.prog 28 uR:=by
 have hG:ConsOk Tryz.prog (mkG [(33,fun l=>pN (dp [.st .district] l))] []):=aw (cgc (sT.norm [.st .district]) cg0) cg0
 refine aX [.o] mixed am hG (fn:=Tryz.f28) (c:=ae Tryz.f28) (by kernel_rfl) (by kernel_rfl) (by kernel_rfl) (by kernel_rfl) (aY fun d=>(dW fun l_=>(aF (fun hp=>?_))))
 dsimp only[aD]at hp
 refine⟨Nat.le_of_ble_eq_true rfl,(fun id st=>bif Nat.beq id 0 then some (LCR (ρ:=Unit) (σ:=Unit) 1 [] [0] (fun k_0 s_0=>⟨[(1,.rs .deed l_),(5,.v (.int .i64 (k_0:Int)))],[.dead]⟩) (sZ l_) pT l_.length () (True) (fun _=>.ret) (fun x_0_0=>⟨[(4,.v (.bool false))],[.dead]⟩) st)else none),?_,?_⟩
 ·unfold ae Tryz.f28
  simp only[al,true_and,and_true]
  ·refine jI (l_.length≤bp) mixed am hG (by kernel_rfl) (fun _=>rfl) (l_.length:Int) rfl iS (fun hb0 k_0 s_0 hlt0 _ hw hc=>⟨L0,ah _,?_⟩) (fun hb0 s_0 hc=>?_) fun hb0 k_0 s_0=>?_
   ·exact fu
   ·exact fv
   ·simp only[go_sem,Nat.reduceBEq,Nat.reduceLeDiff,Nat.reduceLT,decide_true,Nat.reduceAdd,Nat.reduceSub,Nat.reduceMul,Int.reduceLE,Int.reduceLT,Int.reduceToNat,Int.reduceNeg,reduceCtorEq,hb0]
 ·unfold ae Tryz.f28
  try unfold uj
  simp only[go_sem,Nat.reduceBEq,Nat.reduceLeDiff,Nat.reduceLT,decide_true,Nat.reduceAdd,Nat.reduceSub,Nat.reduceMul,Int.reduceLE,Int.reduceLT,Int.reduceToNat,Int.reduceNeg,reduceCtorEq]
  all_goals exact cl
end Go.Sx
end
section
namespace Go.Sx
open Go.Proofs
set_option maxRecDepth 100000
set_option linter.unusedSimpArgs false
def fC (a0:District)(a1:Claim):Bool:=(bif((((((((decide (a1.right<0)) ||(decide (a1.right≥(a0.rights.length:Int)))) ||(decide (a1.farm<0))) ||(decide (a1.farm≥(a0.farms.length:Int)))) ||(decide (a1.hour<0))) ||(decide (a1.hour≥a0.hours))) ||(decide (a1.litres<1))) ||(decide (a1.litres > 1073741824)))then false else(((a0.rights.getD (Int.toNat a1.right) (default:Right)).kind==1)&&((a0.rights.getD (Int.toNat a1.right) (default:Right)).rank==a1.rank)))
def iV (a0:District)(a1:Claim):Prop:=(((((((((decide (a1.right<0)) ||(decide (a1.right≥(a0.rights.length:Int)))) ||(decide (a1.farm<0))) ||(decide (a1.farm≥(a0.farms.length:Int)))) ||(decide (a1.hour<0))) ||(decide (a1.hour≥a0.hours))) ||(decide (a1.litres<1))) ||(decide (a1.litres > 1073741824)))=false→((0≤a1.right∧a1.right< (a0.rights.length:Int))∧(((a0.rights.getD (Int.toNat a1.right) (default:Right)).kind==1)=true→(0≤a1.right∧a1.right< (a0.rights.length:Int)))))
@[go_sem] def rg:List SV→Option Con:=(pD .district fun a0=>(pD .claim fun a1=>(pE (.det (iV a0 a1) (.v (.bool (fC a0 a1)))))))
theorem xp:FnOk Tryz.prog 37 rg:=by
 have hG:ConsOk Tryz.prog (mkG [] []):=aw cg0 cg0
 refine aX [.o] mixed am hG (fn:=Tryz.f37) (c:=ae Tryz.f37) (by kernel_rfl) (by kernel_rfl) (by kernel_rfl) (by kernel_rfl) (aY fun a0=>(aY fun a1=>(aF (fun hp=>?_))))
 dsimp only[aD]at hp
 unfold iV at hp
 refine⟨Nat.le_of_ble_eq_true rfl,L0,ah _,?_⟩
 ·unfold ae Tryz.f37
  try unfold fC
  simp only[go_sem,Nat.reduceBEq,Nat.reduceLeDiff,Nat.reduceLT,decide_true,Nat.reduceAdd,Nat.reduceSub,Nat.reduceMul,Int.reduceLE,Int.reduceLT,Int.reduceToNat,Int.reduceNeg,reduceCtorEq]
  all_goals exact cl
def gj (a:Claim)(b:Claim):Bool:=(bif(a.hour !=b.hour)then(decide (a.hour<b.hour))else(bif(a.rank !=b.rank)then(decide (a.rank<b.rank))else(bif(a.right !=b.right)then(decide (a.right<b.right))else(decide (a.farm<b.farm)))))
@[go_sem] def pY:List SV→Option Con:=(pD .claim fun a=>(pD .claim fun b=>(pE (.det True (.v (.bool (gj a b)))))))
theorem vt:FnOk Tryz.prog 38 pY:=by
 have hG:ConsOk Tryz.prog (mkG [] []):=aw cg0 cg0
 refine aX [.o] mixed am hG (fn:=Tryz.f38) (c:=ae Tryz.f38) (by kernel_rfl) (by kernel_rfl) (by kernel_rfl) (by kernel_rfl) (aY fun a=>(aY fun b=>(aF (fun hp=>?_))))
 dsimp only[aD]at hp
 refine⟨Nat.le_of_ble_eq_true rfl,L0,ah _,?_⟩
 ·unfold ae Tryz.f38
  try unfold gj
  simp only[go_sem,Nat.reduceBEq,Nat.reduceLeDiff,Nat.reduceLT,decide_true,Nat.reduceAdd,Nat.reduceSub,Nat.reduceMul,Int.reduceLE,Int.reduceLT,Int.reduceToNat,Int.reduceNeg,reduceCtorEq]
  all_goals exact cl
@[go_sem] def ib (d:District)(c:List Claim)(k_0:Nat)(s_0:Unit):Unit⊕Unit:=(bif((!(fC d (c.getD k_0 (default:Claim)))) ||((decide ((k_0:Int) > 0))&&(!(gj (c.getD (Int.toNat (IntKind.i64.wrap ((k_0:Int) - 1))) (default:Claim)) (c.getD k_0 (default:Claim))))))then .inl ()else .inr ())
def km (d:District)(c:List Claim)(k_0:Nat)(s_0:Unit):Prop:=(c.length≤bp→((iV d (c.getD k_0 (default:Claim)))∧((!(fC d (c.getD k_0 (default:Claim))))=false→((decide ((k_0:Int) > 0))=true→(0≤(IntKind.i64.wrap ((k_0:Int) - 1))∧(IntKind.i64.wrap ((k_0:Int) - 1)) < (c.length:Int))))))
def ju (d:District)(c:List Claim):Int:=(bif((ia d) !=0)then(ia d)else(bif(decide ((c.length:Int) > 4096))then 2 else(match an (ib d c) c.length 0 ()with| .inl x_0_0=>260| .inr s_0=>0)))
def kG (d:District)(c:List Claim):Prop:=((kF d)∧(((ia d) !=0)=false→(c.length≤bp→((decide ((c.length:Int) > 4096))=false→okI (ib d c) (km d c) c.length 0 ()))))
@[go_sem] def rh:List SV→Option Con:=(pD .district fun d=>(pR .claim fun c=>(pE (.det (kG d c) (.v (.int .i64 (ju d c)))))))
theorem xq:FnOk Tryz.prog 20 rh:=by
 have hG:ConsOk Tryz.prog (mkG [(36,fun l=>rf (dp [.st .district] l)),(37,fun l=>rg (dp [.st .district,.st .claim] l)),(38,pY)] []):=aw (cgc (xo.norm [.st .district]) (cgc (xp.norm [.st .district,.st .claim]) (cgc vt cg0))) cg0
 refine aX [.o] mixed am hG (fn:=Tryz.f20) (c:=ae Tryz.f20) (by kernel_rfl) (by kernel_rfl) (by kernel_rfl) (by kernel_rfl) (aY fun d=>(dW fun c=>(aF (fun hp=>?_))))
 dsimp only[aD]at hp
 unfold kG at hp
 refine⟨Nat.le_of_ble_eq_true rfl,(fun id st=>bif Nat.beq id 0 then some (LCR (ρ:=Unit) (σ:=Unit) 1 [] [0] (fun k_0 s_0=>⟨[(1,.rs .claim c),(2,.ptr 0 0),(6,.v (.int .i64 (k_0:Int)))],[.cells (cellsOf .district d)]⟩) (ib d c) (km d c) c.length () (True) (fun _=>.ret) (fun x_0_0=>⟨[(4,.v (.int .i64 260))],[.dead]⟩) st)else none),?_,?_⟩
 ·unfold ae Tryz.f20
  simp only[al,true_and,and_true]
  ·refine jI (c.length≤bp) mixed am hG (by kernel_rfl) (fun _=>rfl) (c.length:Int) rfl iS (fun hb0 k_0 s_0 hlt0 hq0 hw hc=>⟨L0,ah _,?_⟩) (fun hb0 s_0 hc=>?_) fun hb0 k_0 s_0=>?_
   ·unfold km at hq0
    try simp only[hw,Int.toNat_natCast]at hq0
    exact fu
   ·exact fv
   ·simp only[go_sem,Nat.reduceBEq,Nat.reduceLeDiff,Nat.reduceLT,decide_true,Nat.reduceAdd,Nat.reduceSub,Nat.reduceMul,Int.reduceLE,Int.reduceLT,Int.reduceToNat,Int.reduceNeg,reduceCtorEq,hb0]
 ·unfold ae Tryz.f20
  try unfold ju
  simp only[go_sem,Nat.reduceBEq,Nat.reduceLeDiff,Nat.reduceLT,decide_true,Nat.reduceAdd,Nat.reduceSub,Nat.reduceMul,Int.reduceLE,Int.reduceLT,Int.reduceToNat,Int.reduceNeg,reduceCtorEq]
  all_goals exact cl
@[go_sem] def iW (a:List Claim)(b:List Claim)(k_0:Nat)(s_0:Unit):Unit⊕Unit:=(bif(!(((a.getD k_0 (default:Claim)).right==(b.getD k_0 (default:Claim)).right)&&(((a.getD k_0 (default:Claim)).farm==(b.getD k_0 (default:Claim)).farm)&&(((a.getD k_0 (default:Claim)).hour==(b.getD k_0 (default:Claim)).hour)&&(((a.getD k_0 (default:Claim)).litres==(b.getD k_0 (default:Claim)).litres)&&((a.getD k_0 (default:Claim)).rank==(b.getD k_0 (default:Claim)).rank))))))then .inl ()else .inr ())
def lI (a:List Claim)(b:List Claim)(k_0:Nat)(s_0:Unit):Prop:=(a.length≤bp→(0≤(k_0:Int)∧(k_0:Int) < (b.length:Int)))
def mI (a:List Claim)(b:List Claim):Bool:=(bif((a.length:Int) !=(b.length:Int))then false else(match an (iW a b) a.length 0 ()with| .inl x_0_0=>false| .inr s_0=>true))
def l6 (a:List Claim)(b:List Claim):Prop:=(a.length≤bp→(b.length≤bp→(((a.length:Int) !=(b.length:Int))=false→okI (iW a b) (lI a b) a.length 0 ())))
@[go_sem] def s4:List SV→Option Con:=(pR .claim fun a=>(pR .claim fun b=>(pE (.det (l6 a b) (.v (.bool (mI a b)))))))
theorem yx:FnOk Tryz.prog 16 s4:=by
 have hG:ConsOk Tryz.prog (mkG [] []):=aw cg0 cg0
 refine aX [.o] mixed am hG (fn:=Tryz.f16) (c:=ae Tryz.f16) (by kernel_rfl) (by kernel_rfl) (by kernel_rfl) (by kernel_rfl) (dW fun a=>(dW fun b=>(aF (fun hp=>?_))))
 dsimp only[aD]at hp
 unfold l6 at hp
 refine⟨Nat.le_of_ble_eq_true rfl,(fun id st=>bif Nat.beq id 0 then some (LCR (ρ:=Unit) (σ:=Unit) 0 [] [] (fun k_0 s_0=>⟨[(0,.rs .claim a),(1,.rs .claim b),(5,.v (.int .i64 (k_0:Int)))],[]⟩) (iW a b) (lI a b) a.length () (True) (fun _=>.ret) (fun x_0_0=>⟨[(4,.v (.bool false))],[]⟩) st)else none),?_,?_⟩
 ·unfold ae Tryz.f16
  simp only[al,true_and,and_true]
  ·refine jI (a.length≤bp) mixed am hG (by kernel_rfl) (fun _=>rfl) (a.length:Int) rfl iS (fun hb0 k_0 s_0 hlt0 hq0 hw hc=>⟨L0,ah _,?_⟩) (fun hb0 s_0 hc=>?_) fun hb0 k_0 s_0=>?_
   ·unfold lI at hq0
    try simp only[hw,Int.toNat_natCast]at hq0
    exact k9
   ·exact k_
   ·simp only[go_sem,Nat.reduceBEq,Nat.reduceLeDiff,Nat.reduceLT,decide_true,Nat.reduceAdd,Nat.reduceSub,Nat.reduceMul,Int.reduceLE,Int.reduceLT,Int.reduceToNat,Int.reduceNeg,reduceCtorEq,hb0]
 ·unfold ae Tryz.f16
  try unfold mI
  simp only[go_sem,Nat.reduceBEq,Nat.reduceLeDiff,Nat.reduceLT,decide_true,Nat.reduceAdd,Nat.reduceSub,Nat.reduceMul,Int.reduceLE,Int.reduceLT,Int.reduceToNat,Int.reduceNeg,reduceCtorEq]
  all_goals exact cl
@[go_sem] def eL (a:List Block)(b:List Block)(k_0:Nat)(s_0:Unit):Unit⊕Unit:=(bif(!(((a.getD k_0 (default:Block)).right==(b.getD k_0 (default:Block)).right)&&(((a.getD k_0 (default:Block)).farm==(b.getD k_0 (default:Block)).farm)&&(((a.getD k_0 (default:Block)).hour==(b.getD k_0 (default:Block)).hour)&&((a.getD k_0 (default:Block)).reach==(b.getD k_0 (default:Block)).reach)))))then .inl ()else .inr ())
def gI (a:List Block)(b:List Block)(k_0:Nat)(s_0:Unit):Prop:=(a.length≤bp→(0≤(k_0:Int)∧(k_0:Int) < (b.length:Int)))
def eW (a:List Block)(b:List Block):Bool:=(bif((a.length:Int) !=(b.length:Int))then false else(match an (eL a b) a.length 0 ()with| .inl x_0_0=>false| .inr s_0=>true))
def fe (a:List Block)(b:List Block):Prop:=(a.length≤bp→(b.length≤bp→(((a.length:Int) !=(b.length:Int))=false→okI (eL a b) (gI a b) a.length 0 ())))
@[go_sem] def mJ:List SV→Option Con:=(pR .block fun a=>(pR .block fun b=>(pE (.det (fe a b) (.v (.bool (eW a b)))))))
theorem qI:FnOk Tryz.prog 17 mJ:=by
 have hG:ConsOk Tryz.prog (mkG [] []):=aw cg0 cg0
 refine aX [.o] mixed am hG (fn:=Tryz.f17) (c:=ae Tryz.f17) (by kernel_rfl) (by kernel_rfl) (by kernel_rfl) (by kernel_rfl) (dW fun a=>(dW fun b=>(aF (fun hp=>?_))))
 dsimp only[aD]at hp
 unfold fe at hp
 refine⟨Nat.le_of_ble_eq_true rfl,(fun id st=>bif Nat.beq id 0 then some (LCR (ρ:=Unit) (σ:=Unit) 0 [] [] (fun k_0 s_0=>⟨[(0,.rs .block a),(1,.rs .block b),(5,.v (.int .i64 (k_0:Int)))],[]⟩) (eL a b) (gI a b) a.length () (True) (fun _=>.ret) (fun x_0_0=>⟨[(4,.v (.bool false))],[]⟩) st)else none),?_,?_⟩
 ·unfold ae Tryz.f17
  simp only[al,true_and,and_true]
  ·refine jI (a.length≤bp) mixed am hG (by kernel_rfl) (fun _=>rfl) (a.length:Int) rfl iS (fun hb0 k_0 s_0 hlt0 hq0 hw hc=>⟨L0,ah _,?_⟩) (fun hb0 s_0 hc=>?_) fun hb0 k_0 s_0=>?_
   ·unfold gI at hq0
    try simp only[hw,Int.toNat_natCast]at hq0
    exact k9
   ·exact k_
   ·simp only[go_sem,Nat.reduceBEq,Nat.reduceLeDiff,Nat.reduceLT,decide_true,Nat.reduceAdd,Nat.reduceSub,Nat.reduceMul,Int.reduceLE,Int.reduceLT,Int.reduceToNat,Int.reduceNeg,reduceCtorEq,hb0]
 ·unfold ae Tryz.f17
  try unfold eW
  simp only[go_sem,Nat.reduceBEq,Nat.reduceLeDiff,Nat.reduceLT,decide_true,Nat.reduceAdd,Nat.reduceSub,Nat.reduceMul,Int.reduceLE,Int.reduceLT,Int.reduceToNat,Int.reduceNeg,reduceCtorEq]
  all_goals exact cl
def nX (d:District)(l_:List Deed)(fr:Int)(to:Int):Bool:=(bif((!(uj d l_)) ||((decide ((d.rights.length:Int) > 40))&&(decide ((d.rights.length:Int)≤256))))then false else(((((decide (fr<0)) ||(decide (fr > to))) ||(decide (to≥d.hours))) ||(decide (d.hours > 4096))) ||(decide ((IntKind.i64.wrap (to - fr)) <60))))
@[go_sem] def uS:List SV→Option Con:=(pD .district fun d=>(pR .deed fun l_=>(pI fun fr=>(pI fun to=>(pE (.det True (.v (.bool (nX d l_ fr to)))))))))
theorem AH:FnOk Tryz.prog 11 uS:=by
 have hG:ConsOk Tryz.prog (mkG [(28,fun l=>uR (dp [.st .district,.sl .deed] l))] []):=aw (cgc (AG.norm [.st .district,.sl .deed]) cg0) cg0
 refine aX [.o] mixed am hG (fn:=Tryz.f11) (c:=ae Tryz.f11) (by kernel_rfl) (by kernel_rfl) (by kernel_rfl) (by kernel_rfl) (aY fun d=>(dW fun l_=>(b_ fun fr=>(b_ fun to=>(aF (fun hp=>?_))))))
 dsimp only[aD]at hp
 refine⟨Nat.le_of_ble_eq_true rfl,L0,ah _,?_⟩
 ·unfold ae Tryz.f11
  try unfold nX
  simp only[go_sem,Nat.reduceBEq,Nat.reduceLeDiff,Nat.reduceLT,decide_true,Nat.reduceAdd,Nat.reduceSub,Nat.reduceMul,Int.reduceLE,Int.reduceLT,Int.reduceToNat,Int.reduceNeg,reduceCtorEq]
  all_goals exact cl
def fj (d:District)(c:List Claim):Bool:=((nW d)&&((decide ((c.length:Int)≤300)) ||((decide ((c.length:Int) > 4096))&&(decide ((c.length:Int)≤5000)))))
@[go_sem] def na:List SV→Option Con:=(pD .district fun d=>(pR .claim fun c=>(pE (.det True (.v (.bool (fj d c)))))))
theorem rX:FnOk Tryz.prog 18 na:=by
 have hG:ConsOk Tryz.prog (mkG [(33,fun l=>pN (dp [.st .district] l))] []):=aw (cgc (sT.norm [.st .district]) cg0) cg0
 refine aX [.o] mixed am hG (fn:=Tryz.f18) (c:=ae Tryz.f18) (by kernel_rfl) (by kernel_rfl) (by kernel_rfl) (by kernel_rfl) (aY fun d=>(dW fun c=>(aF (fun hp=>?_))))
 dsimp only[aD]at hp
 refine⟨Nat.le_of_ble_eq_true rfl,L0,ah _,?_⟩
 ·unfold ae Tryz.f18
  try unfold fj
  simp only[go_sem,Nat.reduceBEq,Nat.reduceLeDiff,Nat.reduceLT,decide_true,Nat.reduceAdd,Nat.reduceSub,Nat.reduceMul,Int.reduceLE,Int.reduceLT,Int.reduceToNat,Int.reduceNeg,reduceCtorEq]
  all_goals exact cl
end Go.Sx
end
section
namespace Go.Sx
open Go.Proofs
set_option maxRecDepth 100000
set_option linter.unusedSimpArgs false
def bv (x:Right)(kind:Int)(farm:Int)(reach:Int)(hour:Int):Bool:=(((((x.kind==kind)&&(x.farm==farm))&&(x.reach==reach))&&(decide (x.since≤hour)))&&(decide (hour≤x.to)))
@[go_sem] def pZ (d:District)(farm:Int)(reach:Int)(hour:Int)(k_0:Nat)(s_0:Unit):Unit⊕Unit:=(bif(bv (d.rights.getD k_0 (default:Right)) 3 farm reach hour)then .inl ()else .inr ())
def nc (d:District)(farm:Int)(reach:Int)(hour:Int):Bool:=(match an (pZ d farm reach hour) d.rights.length 0 ()with| .inl x_0_0=>true| .inr s_0=>false)
@[go_sem] def s5 (d:District)(farm:Int)(reach:Int)(hour:Int)(k_0:Nat)(s_0:Unit):Unit⊕Unit:=(bif(((d.rights.getD k_0 (default:Right)).farm !=farm)&&(bv (d.rights.getD k_0 (default:Right)) 2 ((d.rights.getD k_0 (default:Right)).farm) reach hour))then .inl ()else .inr ())
def qu (d:District)(farm:Int)(reach:Int)(hour:Int):Bool:=(match an (s5 d farm reach hour) d.rights.length 0 ()with| .inl x_0_0=>(nc d farm reach hour) | .inr s_0=>true)
end Go.Sx
end
section
namespace Go.Sx
open Go.RowKit
abbrev RF:= { r:Nat→Res // ∀ k,(r k).n=k}
def GO (items:List (List SV))(r:RF):List SV→Res→Option YCon:=itY items r.1
@[go_sem] theorem Vn {items:List (List SV)}{r:RF}{k:Nat}{args:List SV}:GO items r args (r.1 (k+1))=some (B9 (items[k]? =some args) r.1 (k+2)):=D4 r.2 k args
section
variable {ρ σ:Type}
def lcy (pre:Prop)(run:ρ⊕σ)(exE:ρ→Ex)(outE:ρ→St)(outN:σ→St)(stp:St):LCon where
 α:=Option (ρ⊕σ)
 pre:=pre
 post:=fun|none=>True|some r=>r=run
 ex:=fun|none=>.ret|some (.inl x) =>exE x|some (.inr _) =>.normal
 out:=fun|none=>stp|some (.inl x) =>outE x|some (.inr s) =>outN s
def LCY (m:Nat)(ns:List NLoc)(js:List Nat)(D:Nat→σ→St)(step:Nat→σ→ρ⊕σ)(p:Nat→σ→Prop)(n:Nat)(s0:σ)(B:Prop)(exE:ρ→Ex)(outE:ρ→St)(stp:St)(st:St):LCon:=
 lcy (oB m ns js st (D 0 s0)∧B∧okI step p n 0 s0) (an step n 0 s0) exE outE (D n) stp
variable {m:Nat}{ns:List NLoc}{js:List Nat}{step:Nat→σ→ρ⊕σ}{p:Nat→σ→Prop}{n:Nat}{s0:σ}{B:Prop}{exE:ρ→Ex}{outE:ρ→St}{stp st:St}{Q:Ex→St→Prop}{D:Nat→σ→St}
theorem GP {pre:Prop}{run:ρ⊕σ}{outN:σ→St}:mt Q (some (lcy pre run exE outE outN stp))=(pre∧(∀ x,run=.inl x→Q (exE x) (outE x))∧(∀ s,run=.inr s→Q .normal (outN s))∧Q .ret stp):=by
 apply propext
 constructor
 ·rintro⟨h1,h2⟩
  exact⟨h1,fun x hx=>h2 (some (.inl x)) hx.symm,fun s hs=>h2 (some (.inr s)) hs.symm,h2 none trivial⟩
 ·rintro⟨h1,h2,h3,h4⟩
  refine⟨h1,fun r hr=>?_⟩
  match r,hr with
  |none,_=>exact h4
  |some (.inl x),hr=>exact h2 x hr.symm
  |some (.inr s),hr=>exact h3 s hr.symm
@[go_sem] theorem RN:mt Q (some (LCY m ns js D step p n s0 B exE outE stp st))=((oB m ns js st (D 0 s0)∧B∧okI step p n 0 s0)∧(∀ x,an step n 0 s0=.inl x→Q (exE x) (outE x))∧(∀ s,an step n 0 s0=.inr s→Q .normal (D n s))∧Q .ret stp):=GP
def cY (step:Nat→σ→ρ⊕σ)(exE:ρ→Ex)(outE:ρ→St)(D:Nat→σ→St)(stp:St)(m id k:Nat)(s:σ):Ex→St→Prop
 | .normal,st=>nS D m k st (step k s)
 | .exit j,st=>jH exE outE m (bif Nat.beq j id then .normal else .exit j) st (step k s)
 | .ret,st=>jH exE outE m .ret st (step k s)∨gf stp m st
 | .pan x,st=>jH exE outE m (.pan x) st (step k s)
variable {id k j:Nat}{s:σ}{x:Value}{e e':Ex}
@[go_sem] theorem RO:cY step exE outE D stp m id k s .normal st=nS D m k st (step k s):=(rfl)
@[go_sem] theorem Vo:cY step exE outE D stp m id k s (.exit j) st=jH exE outE m (bif Nat.beq j id then .normal else .exit j) st (step k s):=(rfl)
@[go_sem] theorem Wg:cY step exE outE D stp m id k s .ret st=(jH exE outE m .ret st (step k s)∨gf stp m st):=(rfl)
@[go_sem] theorem Wh:cY step exE outE D stp m id k s (.pan x) st=jH exE outE m (.pan x) st (step k s):=(rfl)
@[congr] theorem TP {st':St}(h:st=st')(he:e=e'):cY step exE outE D stp m id k s e st=cY step exE outE D stp m id k s e' st':=by rw[h,he]
end
section
variable {P:Program}{ρ σ:Type}{ts:Tis}{G:Cons}{ro:Option Nat}{N:Nat}{id:Nat}{c:Code}{C:St→Option LCon}{m:Nat}{ns:List NLoc}{js:List Nat}{step:Nat→σ→ρ⊕σ}{p:Nat→σ→Prop}{n:Nat}{s0:σ}{exE:ρ→Ex}{outE:ρ→St}{D:Nat→σ→St}{stp:St}
theorem Po {n0:Nat}(hn0:n0=m){s:σ}{k:Nat}(hlt:k<n){I:Nat×σ→Prop}{μ:Nat×σ→Nat}{outN:σ→St}{pre:Prop}{run:ρ⊕σ}
  (hI:∀ s',step k s=.inr s'→I (k+1,s')∧μ (k+1,s') <μ (k,s)) (hx:∀ x,step k s=.inl x→run=.inl x):
  ∀ e st',cY step exE outE D stp m id k s e st'→ot (fun x:Nat×σ=>D x.1 x.2) I μ n0 (k,s) id (fun e st'=>∃ r js,(lcy pre run exE outE outN stp).post r∧(lcy pre run exE outE outN stp).ex r=e∧n0≤((lcy pre run exE outE outN stp).out r).h.length∧Sub js n0 st' ((lcy pre run exE outE outN stp).out r)) e st':=by
 subst hn0
 have hfin:∀ e st',jH exE outE n0 e st' (step k s)→∃ r js,(lcy pre run exE outE outN stp).post r∧(lcy pre run exE outE outN stp).ex r=e∧n0≤((lcy pre run exE outE outN stp).out r).h.length∧Sub js n0 st' ((lcy pre run exE outE outN stp).out r):=by
  intro e st' q
  cases hs:step k s with
  |inr s'=>rw[hs]at q;exact q.elim
  |inl x=>
   rw[hs]at q
   obtain⟨q2,js,q3,q4⟩:=q
   exact⟨some (.inl x),js,(hx x hs).symm,q2,q3,q4⟩
 intro e st' hq
 cases e with
 |normal=>
  change nS D n0 k st' (step k s)at hq
  cases hs:step k s with
  |inl x=>rw[hs]at hq;exact hq.elim
  |inr s'=>
   rw[hs]at hq
   obtain⟨js,q3,q4⟩:=hq
   obtain⟨i1,i2⟩:=hI s' hs
   exact⟨(k+1,s'),js,i1,i2,q3,q4⟩
 |exit j=>
  change jH exE outE n0 (bif Nat.beq j id then .normal else .exit j) st' (step k s)at hq
  show bif Nat.beq j id then _ else _
  cases hb:Nat.beq j id with
  |true=>rw[hb]at hq;exact hfin _ _ hq
  |false=>rw[hb]at hq;exact hfin _ _ hq
 |ret=>
  rcases hq with hq|hq
  ·exact hfin _ _ hq
  ·obtain⟨js,q3,q4⟩:=hq
   exact⟨none,js,trivial,rfl,q3,q4⟩
 |pan x=>exact hfin _ _ hq
theorem Cg {B:Prop}(hm:P.follows .mixedOrders=true)(hts:ts.ok P)(hG:ConsOk P G)(hc:cd N c=true)(hC:∀ st,C st=some (LCY m ns js D step p n s0 B exE outE stp st))(M:Int)(hn:n=M.toNat)(hB:B→M<9223372036854775808)
  (h:B→∀ k s,k<n→p k s→IntKind.i64.wrap ((k:Int)+1)=((k+1:Nat):Int)→decide ((k:Int) <M)=true→∃ L,al P ro N L c∧exec ts G L c (D k s) (cY step exE outE D stp m id k s))
  (h2:B→∀ s,decide ((n:Int) <M)=false→exec ts G L0 c (D n s) (cZ (D n s) m id)):iI P ro N id (.loop c) C:=by
 refine sP hm hts hG hc fun st lc hC' hp=>?_
 rw[hC st]at hC'
 cases hC'
 obtain⟨⟨hlen,hok,hle,hsub⟩,hB',h1⟩:=hp
 refine⟨Nat×σ,fun x=>D x.1 x.2,fun x=>x.1≤n∧okI step p (n - x.1) x.1 x.2∧an step (n - x.1) x.1 x.2=an step n 0 s0,fun x=>n - x.1,(0,s0),mkN ns st,js,⟨Nat.zero_le _,by simpa using h1,by simp⟩,rW ns st st (.refl _) hok,by rw[hlen];exact hle,by rw[hlen];exact hsub,?_⟩
 rintro⟨k,s⟩ ⟨hk,hJ,hrun⟩
 simp only at hk hJ hrun
 rcases Nat.lt_or_ge k n with hlt|hge
 ·rw[show n - k=(n - k - 1)+1 by omega]at hrun hJ
  obtain⟨L,hl,hex⟩:=h hB' k s hlt hJ.1 (ID (hn▸hlt) (hB hB')) (decide_eq_true (by omega))
  have hI:∀ s',step k s=.inr s'→okI step p (n - (k+1)) (k+1) s'∧an step (n - (k+1)) (k+1) s'=an step n 0 s0:=fun s' hs=>by
   have:=hJ.2 s' hs
   rw[show n - k - 1=n - (k+1) by omega]at this hrun
   simp only[an,hs]at hrun
   exact⟨this,hrun⟩
  have hx:∀ x,step k s=.inl x→an step n 0 s0=.inl x:=fun x hs=>by
   simp only[an,hs]at hrun
   exact hrun.symm
  exact⟨L,_,hl,fun e st' q=>Po hlen hlt (fun s' hs=>⟨⟨hlt,hI s' hs⟩,by simp only;omega⟩) hx e st' q,hex⟩
 ·have hkn:k=n:=by omega
  subst hkn
  have hex:=h2 hB' s (by rw[decide_eq_false_iff_not];omega)
  refine⟨L0,_,ah c,fun e st' hq=>?_,hex⟩
  simp only[Nat.sub_self,an]at hrun
  cases e with
  |exit j=>
   change bif Nat.beq j id then gf (D k s) m st' else False at hq
   show bif Nat.beq j id then _ else _
   cases hb:Nat.beq j id with
   |true=>
    rw[hb]at hq
    obtain⟨js,q3,q4⟩:=hq
    exact⟨some (.inr s),js,hrun,rfl,by rw[hlen];exact q3,by rw[hlen];exact q4⟩
   |false=>rw[hb]at hq;exact hq.elim
  |_=>exact hq.elim
end
def lh (n:Nat):List Ob:=List.replicate n .dead
def Jd (items:List (List SV))(r:RF)(n:Nat):Ex→St→Prop
 | .normal,st=>gf ⟨[],.ab (r.1 0)::lh n⟩ (n+1) ⟨[],st.h⟩∨gf ⟨[],.ab (r.1 (items.length+1))::lh n⟩ (n+1) ⟨[],st.h⟩
 | .ret,st=>gf ⟨[],.ab (r.1 0)::lh n⟩ (n+1) ⟨[],st.h⟩∨gf ⟨[],.ab (r.1 (items.length+1))::lh n⟩ (n+1) ⟨[],st.h⟩
 |_,_=>False
section
variable {items:List (List SV)}{r:RF}{n:Nat}{st:St}{e e':Ex}
@[go_sem] theorem Mg:Jd items r n .normal st=(gf ⟨[],.ab (r.1 0)::lh n⟩ (n+1) ⟨[],st.h⟩∨gf ⟨[],.ab (r.1 (items.length+1))::lh n⟩ (n+1) ⟨[],st.h⟩):=(rfl)
@[go_sem] theorem RP:Jd items r n .ret st=(gf ⟨[],.ab (r.1 0)::lh n⟩ (n+1) ⟨[],st.h⟩∨gf ⟨[],.ab (r.1 (items.length+1))::lh n⟩ (n+1) ⟨[],st.h⟩):=(rfl)
@[go_sem] theorem Vp:lh 0=[]:=(rfl)
@[go_sem] theorem Vq:lh 1=[.dead]:=(rfl)
@[go_sem] theorem Vr:lh 2=[.dead,.dead]:=(rfl)
@[go_sem] theorem Vs:lh 3=[.dead,.dead,.dead]:=(rfl)
@[go_sem] theorem Vt:lh 4=[.dead,.dead,.dead,.dead]:=(rfl)
end
theorem Ch {js:List Nat}{n0:Nat}{h h':List Ob}(q:Sub js n0 ⟨[],h⟩ ⟨[],h'⟩):Sub js n0 ⟨[(0,.tup [])],h⟩ ⟨[(0,.tup [])],h'⟩:=by
 refine⟨q.1,?_,q.2.2⟩
 simp only[F_,lk]
 exact⟨⟨rfl,rfl⟩,trivial⟩
open Classical in
theorem Je {P:Program} {ts:Tis} {G:RF→Cons} (hm:P.follows .mixedOrders=true) (hts:ts.ok P) {f:FuncId} {fn:Func} {c:Code} (hf:P.funcs[f]? =some fn) (hb:fn.body=some c) (hname:(fn.name== "runtime.NumGoroutine")=false) (hc:cd fn.ntmps c=true) (hr:fn.results.toList=[])
  {items:List (List SV)} {mk:SV→List SV} {hs:List Ob} {n:Nat} (hn:hs.length=n)
  (h:∀ r:RF,YOk P (GO items r)→ConsOk P (G r)∧(mk (.os 0)).length≤fn.ntmps∧∃ L,al P none fn.ntmps L c∧exec ts (G r) L c ⟨jz 0 (mk (.os 0)),.ab (r.1 1)::hs⟩ (Jd items r n))
  (he:∀ (args:Array Value) (w:World),(callFunc f args).run P w=.ok (.enter f args) w):AB P f mk hs items:=by
 refine IB (fun r0 hr0 hy=>?_) he
 obtain⟨hG,h1,L,h2,h3⟩:=h ⟨r0,hr0⟩ hy
 refine⟨fun l o=>if l=mk (.os 0)∧o=.ab (r0 1)::hs then some { α:=Bool,pre:=True,post:=fun _=>True,res:=fun b=>.ret (.tup []) (.ab (r0 (if b then items.length+1 else 0))::lh n)}else none,?_,_,if_pos ⟨rfl,rfl⟩,trivial,fun b _=>⟨_,_,_,rfl,by cases b <;>simp⟩⟩
 refine wY hm hts hG hf hb hname hc fun l o con hC _=>?_
 split at hC
 rotate_left
 ·cases hC
 rename_i hlo
 obtain⟨rfl,rfl⟩:=hlo
 cases hC
 refine⟨h1,L,_,h2,fun e st hq=>?_,h3⟩
 have key:∀ st:St,(gf ⟨[],.ab (r0 0)::lh n⟩ (n+1) ⟨[],st.h⟩∨gf ⟨[],.ab (r0 (items.length+1))::lh n⟩ (n+1) ⟨[],st.h⟩)→sr (Ob.ab (r0 1)::hs).length { α:=Bool,pre:=True,post:=fun _=>True,res:=fun b=>.ret (.tup []) (.ab (r0 (if b then items.length+1 else 0))::lh n)} (lU (j8 ts st fn.results.toList)) st.h:=fun st q=>by
  rw[hr]
  show ∃ r s' h' js,_
  rcases q with⟨js,q1,q2⟩ | ⟨js,q1,q2⟩
  ·exact⟨false,_,_,js,trivial,rfl,by rw[List.length_cons,hn];exact q1,by rw[List.length_cons,hn];exact Ch q2⟩
  ·exact⟨true,_,_,js,trivial,rfl,by rw[List.length_cons,hn];exact q1,by rw[List.length_cons,hn];exact Ch q2⟩
 cases e with
 |normal=>exact key st hq
 |ret=>exact key st hq
 |exit j=>exact hq.elim
 |pan x=>exact hq.elim
section
variable {ρ σ τ:Type}
theorem uk {step:τ→σ→ρ⊕σ}:∀ {a b:List τ} {s s':σ},dV step a s=.inr s'→dV step (a++b) s=dV step b s'
 | [],_,_,_,h=>by simp only[dV,Sum.inr.injEq]at h;subst h;rfl
 |x::a,b,s,s',h=>by
  simp only[List.cons_append,dV]at h ⊢
  cases hs:step x s with
  |inl y=>rw[hs]at h;cases h
  |inr s1=>rw[hs]at h;simp only at h ⊢;exact uk h
theorem Ci {step:τ→σ→ρ⊕σ}{p:τ→σ→Prop}:∀ {a b:List τ} {s s':σ},dV step a s=.inr s'→okL step p (a++b) s→okL step p b s'
 | [],_,_,_,h,hk=>by simp only[dV,Sum.inr.injEq]at h;subst h;exact hk
 |x::a,b,s,s',h,hk=>by
  simp only[List.cons_append,dV]at h hk
  cases hs:step x s with
  |inl y=>rw[hs]at h;cases h
  |inr s1=>rw[hs]at h;exact Ci h (hk.2 s1 hs)
def LCP (m:Nat)(ns:List NLoc)(js:List Nat)(D:List Nat→Option Nat→σ→St)(step:τ→σ→ρ⊕σ)(p:τ→σ→Prop)(l:List τ)(s0:σ)(exE:ρ→Ex)(outE:ρ→St)(outN:σ→St)(st:St):LCon where
 α:=ρ⊕σ
 pre:=oB m ns js st (D (List.range l.length) none s0)∧∀ L,L.Perm l→okL step p L s0
 post:=fun r=>∃ L,L.Perm l∧dV step L s0=r
 ex:=fun| .inl x=>exE x| .inr _=>.normal
 out:=fun| .inl x=>outE x| .inr s=>outN s
variable {m:Nat}{ns:List NLoc}{js:List Nat}{step:τ→σ→ρ⊕σ}{p:τ→σ→Prop}{l:List τ}{s0:σ}{exE:ρ→Ex}{outE:ρ→St}{outN:σ→St}{st:St}{Q:Ex→St→Prop}{D:List Nat→Option Nat→σ→St}
@[go_sem] theorem RQ:mt Q (some (LCP m ns js D step p l s0 exE outE outN st))=((oB m ns js st (D (List.range l.length) none s0)∧∀ L,L.Perm l→okL step p L s0)∧∀ L,L.Perm l→(∀ x,dV step L s0=.inl x→Q (exE x) (outE x))∧∀ s,dV step L s0=.inr s→Q .normal (outN s)):=by
 apply propext
 constructor
 ·rintro⟨h1,h2⟩
  exact⟨h1,fun L hL=>⟨fun x hx=>h2 (.inl x) ⟨L,hL,hx⟩,fun s hs=>h2 (.inr s) ⟨L,hL,hs⟩⟩⟩
 ·rintro⟨h1,h2⟩
  refine⟨h1,fun r ⟨L,hL,hr⟩ =>?_⟩
  cases r with
  |inl x=>exact(h2 L hL).1 x hr
  |inr s=>exact(h2 L hL).2 s hr
variable {P:Program}{ts:Tis}{G:Cons}{ro:Option Nat}{N id:Nat}{c:Code}{C:St→Option LCon}
theorem Jf (d:τ)(it:Nat)(hm:P.follows .mixedOrders=true)(hts:ts.ok P)(hG:ConsOk P G)(hc:cd N c=true)(hC:∀ st,C st=some (LCP m ns js D step p l s0 exE outE outN st))
  (h:∀ left cur s,(∀ j,j∈left→j<l.length∧p (l.getD j d) s)→∃ L,al P ro N L c∧exec ts G L c (D left cur s) (cM step l d exE outE outN D m id it left s)):iI P ro N id (.loop c) C:=by
 refine sP hm hts hG hc fun st lc hC' hp=>?_
 rw[hC st]at hC'
 cases hC'
 obtain⟨⟨hlen,hok,hle,hsub⟩,hO⟩:=hp
 subst hlen
 have hfix:∀ q:List Nat,q.Perm (List.range l.length)→(q.map fun j=>l.getD j d).Perm l:=fun q hq=>by
  have:=hq.map (fun j=>l.getD j d)
  rwa[xc]at this
 refine⟨List Nat×Option Nat×σ,fun x=>D x.1 x.2.1 x.2.2,fun x=>∃ q:List Nat,(q++x.1).Perm (List.range l.length)∧dV step (q.map fun j=>l.getD j d) s0=.inr x.2.2,fun x=>x.1.length,(List.range l.length,none,s0),mkN ns st,js,⟨[],.refl _,rfl⟩,rW ns st st (.refl _) hok,hle,hsub,?_⟩
 rintro⟨left,cur,s⟩ ⟨q,hq,hrun⟩
 simp only at hq hrun
 have hmem:∀ j,j∈left→(q++j::left.erase j).Perm (List.range l.length):=fun j hj=>((List.perm_cons_erase hj).symm.append_left q).trans hq
 have hp0:∀ j,j∈left→j<l.length∧p (l.getD j d) s:=fun j hj=>by
  refine⟨List.mem_range.1 (hq.mem_iff.1 (List.mem_append_right _ hj)),?_⟩
  have:=hO _ (hfix _ (hmem j hj))
  rw[List.map_append]at this
  exact(Ci hrun this).1
 obtain⟨L,hl,hex⟩:=h left cur s hp0
 refine⟨L,_,hl,?_,hex⟩
 have hfin:∀ e st' o,exC step l d exE outE st.h.length left s e st' o→∃ r js,(LCP st.h.length ns js D step p l s0 exE outE outN st).post r∧(LCP st.h.length ns js D step p l s0 exE outE outN st).ex r=e∧st.h.length≤((LCP st.h.length ns js D step p l s0 exE outE outN st).out r).h.length∧Sub js st.h.length st' ((LCP st.h.length ns js D step p l s0 exE outE outN st).out r):=by
  intro e st' o z
  cases o with
  |none=>exact z.elim
  |some j=>
   obtain⟨hj,z⟩:=z
   cases hs:step (l.getD j d) s with
   |inr s'=>rw[hs]at z;exact z.elim
   |inl x=>
    rw[hs]at z
    obtain⟨q2,js2,q3,q4⟩:=z
    refine⟨.inl x,js2,⟨_,hfix _ (hmem j hj),?_⟩,q2,q3,q4⟩
    rw[List.map_append,uk hrun]
    simp only[List.map_cons,dV,hs]
 intro e st' hz
 cases e with
 |normal=>
  change nxC step l d D st.h.length left s st' (rV (ag st'.h it))at hz
  cases ho:rV (ag st'.h it)with
  |none=>rw[ho]at hz;exact hz.elim
  |some j=>
   rw[ho]at hz
   obtain⟨hj,hz⟩:=hz
   cases hs:step (l.getD j d) s with
   |inl x=>rw[hs]at hz;exact hz.elim
   |inr s'=>
    rw[hs]at hz
    obtain⟨js2,q3,q4⟩:=hz
    refine⟨(left.erase j,some j,s'),js2,⟨q++[j],?_,?_⟩,?_,q3,q4⟩
    ·rw[List.append_assoc];exact hmem j hj
    ·rw[List.map_append,uk hrun]
     simp only[List.map_cons,List.map_nil,dV,hs]
    ·have:=List.length_pos_of_mem hj
     simp only[List.length_erase_of_mem hj];omega
 |exit j=>
  have hz':(bif Nat.beq j id then(left=[]→gf (outN s) st.h.length st')∧(left≠[]→exC step l d exE outE st.h.length left s .normal st' (rV (ag st'.h it)))else exC step l d exE outE st.h.length left s (.exit j) st' (rV (ag st'.h it))):=hz
  show bif Nat.beq j id then _ else _
  cases hb:Nat.beq j id with
  |true=>
   rw[hb]at hz'
   simp only[cond_true]at hz' ⊢
   by_cases hlt:left=[]
   ·obtain⟨js2,q3,q4⟩:=hz'.1 hlt
    refine⟨.inr s,js2,⟨_,hfix q (by rw[hlt,List.append_nil]at hq;exact hq),hrun⟩,rfl,q3,q4⟩
   ·exact hfin _ _ _ (hz'.2 hlt)
  |false=>
   rw[hb]at hz'
   exact hfin _ _ _ hz'
 |ret=>exact hfin _ _ _ hz
 |pan x=>exact hfin _ _ _ hz
end
theorem fkY {st2 st:St}{n0:Nat}(js:List Nat)(h1:n0≤st2.h.length:=by(first|(show _≤_;decide) |(simp only[*,go_sem,Nat.reduceBEq,Nat.reduceLeDiff,Nat.reduceAdd,Nat.reduceSub,Nat.reduceMul,Int.reduceLE,Int.reduceLT,Int.reduceToNat,Int.reduceNeg,reduceCtorEq];done) |(simp only[*,go_sem,Nat.reduceBEq,Nat.reduceLeDiff,Nat.reduceAdd,Nat.reduceSub,Nat.reduceMul,Int.reduceLE,Int.reduceLT,Int.reduceToNat,Int.reduceNeg,reduceCtorEq];(repeat' (first|with_reducible refine And.intro ?_ ?_|((with_reducible show _≠_);first|assumption|omega|(simp_all [bE,bM];done) |grind) |with_reducible intro _)) <;>(first|rfl|decide|assumption|omega|(simp_all [bE,bM];done) |fail))))(h2:Sub js n0 st st2:=by(first|(show _≤_;decide) |(simp only[*,go_sem,Nat.reduceBEq,Nat.reduceLeDiff,Nat.reduceAdd,Nat.reduceSub,Nat.reduceMul,Int.reduceLE,Int.reduceLT,Int.reduceToNat,Int.reduceNeg,reduceCtorEq];done) |(simp only[*,go_sem,Nat.reduceBEq,Nat.reduceLeDiff,Nat.reduceAdd,Nat.reduceSub,Nat.reduceMul,Int.reduceLE,Int.reduceLT,Int.reduceToNat,Int.reduceNeg,reduceCtorEq];(repeat' (first|with_reducible refine And.intro ?_ ?_|((with_reducible show _≠_);first|assumption|omega|(simp_all [bE,bM];done) |grind) |with_reducible intro _)) <;>(first|rfl|decide|assumption|omega|(simp_all [bE,bM];done) |fail)))):gf st2 n0 st:=AD js h1 h2
theorem Pp {α:Type 1}{G:List SV→α→Prop}{X:SV}{k:List SV→Option α}(h:∀ l c,k l=some c→G (X::l) c):∀ l c,pQ X k l=some c→G l c:=fun l c hc=>by
 obtain⟨r,rfl,h1⟩:=xb hc;exact h r c h1
end Go.Sx
end
section
namespace Go.Sx
open Go.Proofs
set_option maxRecDepth 100000
set_option linter.unusedSimpArgs false
def kn (n:Int)(d:Int):Int:=(IntKind.i64.wrap (Int.tdiv (IntKind.i64.wrap (n - (Int.tmod (IntKind.i64.wrap ((Int.tmod n d)+d)) d))) d))
def l7 (n:Int)(d:Int):Prop:=(d≠0∧(d≠0∧d≠0))
@[go_sem] def ta:List SV→Option Con:=(pI fun n=>(pI fun d=>(pE (.det (l7 n d) (.v (.int .i64 (kn n d)))))))
theorem yy:FnOk Tryz.prog 166 ta:=by
 have hG:ConsOk Tryz.prog (mkG [] []):=aw cg0 cg0
 refine aX [.o] mixed am hG (fn:=Tryz.f166) (c:=ae Tryz.f166) (by kernel_rfl) (by kernel_rfl) (by kernel_rfl) (by kernel_rfl) (b_ fun n=>(b_ fun d=>(aF (fun hp=>?_))))
 dsimp only[aD]at hp
 unfold l7 at hp
 refine⟨Nat.le_of_ble_eq_true rfl,L0,ah _,?_⟩
 ·unfold ae Tryz.f166
  try unfold kn
  simp only[go_sem,Nat.reduceBEq,Nat.reduceLeDiff,Nat.reduceLT,decide_true,Nat.reduceAdd,Nat.reduceSub,Nat.reduceMul,Int.reduceLE,Int.reduceLT,Int.reduceToNat,Int.reduceNeg,reduceCtorEq]
  all_goals exact cl
def eA (a:Ratio)(n:Int):Int×Int×Int:=(bif((aR a) !=0)then(0,0,(aR a))else(bif((decide (n< (-1073741824))) ||(decide (n > 1073741824)))then(0,0,1)else((kn (IntKind.i64.wrap (a.n*n)) a.d),(IntKind.i64.wrap (0 - (kn (IntKind.i64.wrap ((IntKind.i64.wrap (0 - a.n))*n)) a.d))),0)))
def ri (a:Ratio)(n:Int):Prop:=(((aR a) !=0)=false→(((decide (n< (-1073741824))) ||(decide (n > 1073741824)))=false→((l7 (IntKind.i64.wrap (a.n*n)) a.d)∧(l7 (IntKind.i64.wrap ((IntKind.i64.wrap (0 - a.n))*n)) a.d))))
theorem yz {a:Ratio}(h:(aR a !=0)=false):1≤a.d:=by
 unfold aR at h
 by_cases hd:a.d<1
 ·simp[hd]at h
 ·omega
theorem xr (a:Ratio)(n:Int):ri a n:=fun h _=>by
 have:=yz h
 exact⟨⟨by omega,by omega,by omega⟩,⟨by omega,by omega,by omega⟩⟩
@[go_sem] def rj:List SV→Option Con:=(pD .ratio fun a=>(pI fun n=>(pE (.det True (.tup [.v (.int .i64 ((eA a n).1)),.v (.int .i64 ((eA a n).2.1)),.v (.int .i64 ((eA a n).2.2))])))))
theorem xu:FnOk Tryz.prog 138 rj:=by
 have hG:ConsOk Tryz.prog (mkG [(165,kB),(166,ta)] []):=aw (cgc mD (cgc yy cg0)) cg0
 refine aX [.o,.o,.o] mixed am hG (fn:=Tryz.f138) (c:=ae Tryz.f138) (by kernel_rfl) (by kernel_rfl) (by kernel_rfl) (by kernel_rfl) (aY fun a=>(b_ fun n=>(aF (fun hp=>?_))))
 dsimp only[aD]at hp
 have hp:=xr a n
 unfold ri at hp
 refine⟨Nat.le_of_ble_eq_true rfl,L0,ah _,?_⟩
 ·unfold ae Tryz.f138
  try unfold eA
  simp only[go_sem,Nat.reduceBEq,Nat.reduceLeDiff,Nat.reduceLT,decide_true,Nat.reduceAdd,Nat.reduceSub,Nat.reduceMul,Int.reduceLE,Int.reduceLT,Int.reduceToNat,Int.reduceNeg,reduceCtorEq]
  all_goals exact cl
def jm (n:Int)(d:Int):Ratio×Int:=(bif(d==0)then(({ n:=0,d:=0}:Ratio),120)else(bif(decide ((if(IntKind.u64.wrap (Int.tdiv (ak n) ((qH (Int.toNat (ak n)) (Int.toNat (ak d)):Nat):Int))) < (IntKind.u64.wrap (Int.tdiv (ak d) ((qH (Int.toNat (ak n)) (Int.toNat (ak d)):Nat):Int)))then(IntKind.u64.wrap (Int.tdiv (ak d) ((qH (Int.toNat (ak n)) (Int.toNat (ak d)):Nat):Int)))else(IntKind.u64.wrap (Int.tdiv (ak n) ((qH (Int.toNat (ak n)) (Int.toNat (ak d)):Nat):Int)))) > 1073741824))then(({ n:=0,d:=0}:Ratio),2)else(bif((decide (n<0)) !=(decide (d<0)))then(({ n:=(IntKind.i64.wrap (0 - (IntKind.i64.wrap (IntKind.u64.wrap (Int.tdiv (ak n) ((qH (Int.toNat (ak n)) (Int.toNat (ak d)):Nat):Int)))))),d:=(IntKind.i64.wrap (IntKind.u64.wrap (Int.tdiv (ak d) ((qH (Int.toNat (ak n)) (Int.toNat (ak d)):Nat):Int))))}:Ratio),0)else(({ n:=(IntKind.i64.wrap (IntKind.u64.wrap (Int.tdiv (ak n) ((qH (Int.toNat (ak n)) (Int.toNat (ak d)):Nat):Int)))),d:=(IntKind.i64.wrap (IntKind.u64.wrap (Int.tdiv (ak d) ((qH (Int.toNat (ak n)) (Int.toNat (ak d)):Nat):Int))))}:Ratio),0))))
def l8 (n:Int)(d:Int):Prop:=((d==0)=false→((0≤(ak n)∧0≤(ak d))∧(((qH (Int.toNat (ak n)) (Int.toNat (ak d)):Nat):Int)≠0∧((qH (Int.toNat (ak n)) (Int.toNat (ak d)):Nat):Int)≠0)))
@[go_sem] def tb:List SV→Option Con:=(pI fun n=>(pI fun d=>(pE (.det (l8 n d) (.tup [.agg (cellsOf .ratio ((jm n d).1)),.v (.int .i64 ((jm n d).2))])))))
theorem yA:FnOk Tryz.prog 172 tb:=by
 have hG:ConsOk Tryz.prog (mkG [(180,C83),(181,jJ)] []):=aw (cgc I3 (cgc mC cg0)) cg0
 refine aX [.st .ratio,.o] mixed am hG (fn:=Tryz.f172) (c:=ae Tryz.f172) (by kernel_rfl) (by kernel_rfl) (by kernel_rfl) (by kernel_rfl) (b_ fun n=>(b_ fun d=>(aF (fun hp=>?_))))
 dsimp only[aD]at hp
 unfold l8 at hp
 refine⟨Nat.le_of_ble_eq_true rfl,L0,ah _,?_⟩
 ·unfold ae Tryz.f172
  try unfold jm
  simp only[go_sem,Nat.reduceBEq,Nat.reduceLeDiff,Nat.reduceLT,decide_true,Nat.reduceAdd,Nat.reduceSub,Nat.reduceMul,Int.reduceLE,Int.reduceLT,Int.reduceToNat,Int.reduceNeg,reduceCtorEq,C83]
  all_goals exact cl
def eB (a:Ratio)(b:Ratio):Int×Int:=((IntKind.i64.wrap ((IntKind.i64.wrap (a.n*b.d))+(IntKind.i64.wrap (b.n*a.d)))),(IntKind.i64.wrap (a.d*b.d)))
@[go_sem] def rk:List SV→Option Con:=(pD .ratio fun a=>(pD .ratio fun b=>(pE (.det True (.tup [.v (.int .i64 ((eB a b).1)),.v (.int .i64 ((eB a b).2))])))))
theorem xv:FnOk Tryz.prog 155 rk:=by
 have hG:ConsOk Tryz.prog (mkG [] []):=aw cg0 cg0
 refine aX [.o,.o] mixed am hG (fn:=Tryz.f155) (c:=ae Tryz.f155) (by kernel_rfl) (by kernel_rfl) (by kernel_rfl) (by kernel_rfl) (aY fun a=>(aY fun b=>(aF (fun hp=>?_))))
 dsimp only[aD]at hp
 refine⟨Nat.le_of_ble_eq_true rfl,L0,ah _,?_⟩
 ·unfold ae Tryz.f155
  try unfold eB
  simp only[go_sem,Nat.reduceBEq,Nat.reduceLeDiff,Nat.reduceLT,decide_true,Nat.reduceAdd,Nat.reduceSub,Nat.reduceMul,Int.reduceLE,Int.reduceLT,Int.reduceToNat,Int.reduceNeg,reduceCtorEq]
  all_goals exact cl
def ef (a:Ratio)(b:Ratio):Ratio×Int:=(bif(((aR a) !=0) ||((aR b) !=0))then(({ n:=0,d:=0}:Ratio),120)else(((jm ((eB a b).1) ((eB a b).2)).1),(jm ((eB a b).1) ((eB a b).2)).2))
def ic (a:Ratio)(b:Ratio):Prop:=((((aR a) !=0) ||((aR b) !=0))=false→(l8 ((eB a b).1) ((eB a b).2)))
@[go_sem] noncomputable def li:List SV→Option Con:=(pQ (.agg [.fn 155 [] []]) (pD .ratio fun a=>(pD .ratio fun b=>(pE (.det (ic a b) (.tup [.agg (cellsOf .ratio ((ef a b).1)),.v (.int .i64 ((ef a b).2))]))))))
theorem o6:FnOk Tryz.prog 156 li:=by
 have hG:ConsOk Tryz.prog (mkG [(155,rk),(165,kB),(172,tb)] []):=aw (cgc xv (cgc mD (cgc yA cg0))) cg0
 refine aX [.st .ratio,.o] mixed am hG (fn:=Tryz.f156) (c:=ae Tryz.f156) (by kernel_rfl) (by kernel_rfl) (by kernel_rfl) (by kernel_rfl) (Pp (aY fun a=>(aY fun b=>(aF (fun hp=>?_)))))
 dsimp only[aD]at hp
 unfold ic at hp
 refine⟨Nat.le_of_ble_eq_true rfl,L0,ah _,?_⟩
 ·unfold ae Tryz.f156
  try unfold ef
  simp only[go_sem,Nat.reduceBEq,Nat.reduceLeDiff,Nat.reduceLT,decide_true,Nat.reduceAdd,Nat.reduceSub,Nat.reduceMul,Int.reduceLE,Int.reduceLT,Int.reduceToNat,Int.reduceNeg,reduceCtorEq]
  all_goals exact cl
def fl (a:Ratio)(b:Ratio):Ratio×Int:=(((ef a b).1),(ef a b).2)
def nf (a:Ratio)(b:Ratio):Prop:=(ic a b)
@[go_sem] def uT:List SV→Option Con:=(pD .ratio fun a=>(pD .ratio fun b=>(pE (.det (nf a b) (.tup [.agg (cellsOf .ratio ((fl a b).1)),.v (.int .i64 ((fl a b).2))])))))
theorem AI:FnOk Tryz.prog 121 uT:=by
 have hG:ConsOk Tryz.prog (mkG [(156,li)] []):=aw (cgc o6 cg0) cg0
 refine aX [.st .ratio,.o] mixed am hG (fn:=Tryz.f121) (c:=ae Tryz.f121) (by kernel_rfl) (by kernel_rfl) (by kernel_rfl) (by kernel_rfl) (aY fun a=>(aY fun b=>(aF (fun hp=>?_))))
 dsimp only[aD]at hp
 unfold nf at hp
 refine⟨Nat.le_of_ble_eq_true rfl,L0,ah _,?_⟩
 ·unfold ae Tryz.f121
  try unfold fl
  simp only[go_sem,Nat.reduceBEq,Nat.reduceLeDiff,Nat.reduceLT,decide_true,Nat.reduceAdd,Nat.reduceSub,Nat.reduceMul,Int.reduceLE,Int.reduceLT,Int.reduceToNat,Int.reduceNeg,reduceCtorEq]
  all_goals exact cl
end Go.Sx
end
section
namespace Go.Sx
open Go.Proofs
set_option maxRecDepth 100000
set_option linter.unusedSimpArgs false
@[go_sem] def rl (bZ:List Int)(k_0:Nat)(s_0:Unit):Int⊕Unit:=(bif((bZ.getD k_0 (0:Int)) !=0)then .inl (bZ.getD k_0 (0:Int))else .inr ())
def gk (bZ:List Int):Int:=(match an (rl bZ) bZ.length 0 ()with| .inl x_0_0=>x_0_0| .inr s_0=>0)
@[go_sem] def td:List SV→Option Con:=(pR .int fun bZ=>(pE (.det True (.v (.int .i64 (gk bZ))))))
theorem yB:FnOk Tryz.prog 44 td:=by
 have hG:ConsOk Tryz.prog (mkG [] []):=aw cg0 cg0
 refine aX [.o] mixed am hG (fn:=Tryz.f44) (c:=ae Tryz.f44) (by kernel_rfl) (by kernel_rfl) (by kernel_rfl) (by kernel_rfl) (dW fun bZ=>(aF (fun hp=>?_)))
 dsimp only[aD]at hp
 refine⟨Nat.le_of_ble_eq_true rfl,(fun id st=>bif Nat.beq id 0 then some (LCR (ρ:=Int) (σ:=Unit) 0 [] [] (fun k_0 s_0=>⟨[(3,.v (.int .i64 0)),(6,.rs .int bZ),(7,.v (.int .i64 (bZ.length:Int))),(8,.v (.int .i64 (k_0:Int)))],[]⟩) (rl bZ) pT bZ.length () (bZ.length≤bp) (fun _=>.ret) (fun x_0_0=>⟨[(2,.v (.int .i64 x_0_0))],[]⟩) st)else none),?_,?_⟩
 ·unfold ae Tryz.f44
  simp only[al,true_and,and_true]
  ·refine dy mixed am hG (by kernel_rfl) (fun _=>rfl) (bZ.length:Int) rfl iS (fun hb0 k_0 s_0 hlt0 _ hw hc=>⟨L0,ah _,?_⟩) (fun hb0 s_0 hc=>?_)
   ·exact k9
   ·exact k_
 ·unfold ae Tryz.f44
  try unfold gk
  simp only[go_sem,Nat.reduceBEq,Nat.reduceLeDiff,Nat.reduceLT,decide_true,Nat.reduceAdd,Nat.reduceSub,Nat.reduceMul,Int.reduceLE,Int.reduceLT,Int.reduceToNat,Int.reduceNeg,reduceCtorEq]
  all_goals exact cl
def bP (x:Holding)(y:Holding):Int:=(gk ([(bX x.right y.right),(bX x.farm y.farm)]))
@[go_sem] def oX:List SV→Option Con:=(pD .holding fun x=>(pD .holding fun y=>(pE (.det True (.v (.int .i64 (bP x y)))))))
theorem ul:FnOk Tryz.prog 43 oX:=by
 have hG:ConsOk Tryz.prog (mkG [(44,fun l=>td (dp [.sl .int] l)),(45,fw)] []):=aw (cgc (yB.norm [.sl .int]) (cgc gh cg0)) cg0
 refine aX [.o] mixed am hG (fn:=Tryz.f43) (c:=ae Tryz.f43) (by kernel_rfl) (by kernel_rfl) (by kernel_rfl) (by kernel_rfl) (aY fun x=>(aY fun y=>(aF (fun hp=>?_))))
 dsimp only[aD]at hp
 refine⟨Nat.le_of_ble_eq_true rfl,L0,ah _,?_⟩
 ·unfold ae Tryz.f43
  try unfold bP
  simp only[go_sem,Nat.reduceBEq,Nat.reduceLeDiff,Nat.reduceLT,decide_true,Nat.reduceAdd,Nat.reduceSub,Nat.reduceMul,Int.reduceLE,Int.reduceLT,Int.reduceToNat,Int.reduceNeg,reduceCtorEq]
  all_goals exact cl
end Go.Sx
end
section
namespace Go.Sx
open Go.Proofs
theorem nh (x y:Int):bX x y=if x<y then -1 else if x > y then 1 else 0:=by
 unfold bX gF
 simp[Bool.cond_eq_ite]
theorem Ea (x:Int)(l:List Int):gk (x::l)=if x=0 then gk l else x:=by
 have key:∀ l:List Int,gk l=match dV (ρ:=Int) (fun(x:Int) (_:Unit) =>bif(x !=0)then .inl x else .inr ()) l ()with| .inl y=>y| .inr _=>0:=fun l=>by
  unfold gk
  have:=oA (ρ:=Int) (fun(x:Int) (_:Unit) =>bif(x !=0)then .inl x else .inr ()) 0 l ()
  rw[←this]
  rfl
 rw[key,key]
 simp only[dV]
 by_cases h:x=0
 ·subst h;rfl
 ·have:(x !=0)=true:=by simpa using h
  rw[if_neg h,this];rfl
theorem GQ:gk []=0:=rfl
def lJ:List (Int×Int)→Prop
 | [] =>False
 |(a,b)::r=>a<b∨a=b∧lJ r
theorem zk:∀ l:List (Int×Int),(gk (l.map fun p=>bX p.1 p.2) <0↔lJ l)
 | [] =>by simp[GQ,lJ]
 |(a,b)::r=>by
  have hc:=nh a b
  simp only[List.map_cons,Ea,hc,lJ]
  rcases Int.lt_trichotomy a b with h|h|h
  ·simp[h]
  ·subst h
   simp only[Int.lt_irrefl,if_false,if_true,true_and,false_or,gt_iff_lt]
   exact zk r
  ·have h1:¬a<b:=by omega
   have h2:a≠b:=by omega
   simp[h1,h2,h]
def hlt (a b:Holding):Prop:=lJ [(a.right,b.right),(a.farm,b.farm)]
theorem xw (a b:Holding):bP a b<0↔hlt a b:=zk [(a.right,b.right),(a.farm,b.farm)]
open Go.Shelf Go.Sort in
theorem Jg {α:Type}{f:α→α→Int}{r:α→α→Prop}(e:∀ x y,f x y<0↔r x y)(h1:∀ x,¬r x x)(h2:∀ x y z,r x y→r y z→r x z)(h3:∀ x y z,¬r x y→¬r y z→¬r x z):SWO (ltOf f):=by
 have e1:∀ x y,ltOf f x y=true↔r x y:=fun x y=>by unfold ltOf;rw[decide_eq_true_eq,e]
 have e2:∀ x y,ltOf f x y=false↔¬r x y:=fun x y=>by rw[←e1];simp
 exact⟨fun x=>(e2 x x).2 (h1 x),fun x y z a b=>(e1 x z).2 (h2 x y z ((e1 x y).1 a) ((e1 y z).1 b)),fun x y z a b=>(e2 x z).2 (h3 x y z ((e2 x y).1 a) ((e2 y z).1 b))⟩
open Go.Shelf Go.Sort in
theorem uU:SWO (ltOf bP):=Jg xw (fun x=>by simp only[hlt,lJ,and_false,or_false];omega) (fun x y z h1 h2=>by simp only[hlt,lJ,and_false,or_false]at *;omega) (fun x y z h1 h2=>by simp only[hlt,lJ,and_false,or_false]at *;omega)
end Go.Sx
end
section
namespace Go.Sx
open Go.Proofs
set_option maxRecDepth 100000
set_option linter.unusedSimpArgs false
theorem Cj {p:Prop}(h:p:=by(first|done|(repeat' (first|with_reducible refine And.intro ?_ ?_|((with_reducible show _≠_);first|assumption|omega|(simp_all [bE,bM];done) |grind) |with_reducible intro _)) <;>(first|done|with_reducible exact Empty.elim ‹Empty› |with_reducible assumption|rfl|omega|assumption|decide|exact fk [0,1,2] |exact czl|(simp only[*,cond_true,cond_false,Bool.not_true,Bool.not_false,go_sem,Nat.reduceBEq,Nat.reduceLeDiff,Nat.reduceLT,decide_true,Nat.reduceAdd,Nat.reduceSub,Nat.reduceMul,Int.reduceLE,Int.reduceLT,Int.reduceToNat,Int.reduceNeg,reduceCtorEq];(repeat' (first|with_reducible refine And.intro ?_ ?_|((with_reducible show _≠_);first|assumption|omega|(simp_all [bE,bM];done) |grind) |with_reducible intro _)) <;>(first|done|assumption|rfl|omega|decide|exact fk [0,1,2] |(simp_all [bE,bM];done))) |(simp_all [okI,bE,bM];done) |(simp_all [bE,bM];(first|done|exact fk2 [0,1,2])) |exact fk2 [0,1,2]))):p:=h
theorem xx {p:Prop}(h:p:=by(first|done|(repeat' (first|with_reducible refine And.intro ?_ ?_|((with_reducible show _≠_);first|assumption|omega|(simp_all [bE,bM];done) |grind) |with_reducible intro _)) <;>(first|done|with_reducible exact Empty.elim ‹Empty› |with_reducible assumption|rfl|omega|assumption|decide|exact fk [0,1] |exact czl|(simp only[*,cond_true,cond_false,Bool.not_true,Bool.not_false,go_sem,Nat.reduceBEq,Nat.reduceLeDiff,Nat.reduceLT,decide_true,Nat.reduceAdd,Nat.reduceSub,Nat.reduceMul,Int.reduceLE,Int.reduceLT,Int.reduceToNat,Int.reduceNeg,reduceCtorEq];(repeat' (first|with_reducible refine And.intro ?_ ?_|((with_reducible show _≠_);first|assumption|omega|(simp_all [bE,bM];done) |grind) |with_reducible intro _)) <;>(first|done|assumption|rfl|omega|decide|exact fk [0,1] |(simp_all [bE,bM];done))) |(simp_all [okI,bE,bM];done) |(simp_all [bE,bM];(first|done|exact fk2 [0,1])) |exact fk2 [0,1]))):p:=h
theorem Jh {p:Prop}(h:p:=by simp only[go_sem,Nat.reduceBEq,Nat.reduceLeDiff,Nat.reduceLT,decide_true,Nat.reduceAdd,Nat.reduceSub,Nat.reduceMul,Int.reduceLE,Int.reduceLT,Int.reduceToNat,Int.reduceNeg,reduceCtorEq,hc,hw];all_goals exact Cj):p:=h
theorem Ji {p:Prop}(h:p:=by simp only[go_sem,Nat.reduceBEq,Nat.reduceLeDiff,Nat.reduceLT,decide_true,Nat.reduceAdd,Nat.reduceSub,Nat.reduceMul,Int.reduceLE,Int.reduceLT,Int.reduceToNat,Int.reduceNeg,reduceCtorEq,hc];all_goals exact Cj):p:=h
theorem xy {p:Prop}(h:p:=by simp only[go_sem,Nat.reduceBEq,Nat.reduceLeDiff,Nat.reduceLT,decide_true,Nat.reduceAdd,Nat.reduceSub,Nat.reduceMul,Int.reduceLE,Int.reduceLT,Int.reduceToNat,Int.reduceNeg,reduceCtorEq,hc,hw];all_goals exact xx):p:=h
theorem xz {p:Prop}(h:p:=by simp only[go_sem,Nat.reduceBEq,Nat.reduceLeDiff,Nat.reduceLT,decide_true,Nat.reduceAdd,Nat.reduceSub,Nat.reduceMul,Int.reduceLE,Int.reduceLT,Int.reduceToNat,Int.reduceNeg,reduceCtorEq,hc];all_goals exact xx):p:=h
def aG (n:Int)(lo:Int)(hi:Int):Bool:=((decide (n≥lo))&&(decide (n≤hi)))
@[go_sem] def kH:List SV→Option Con:=(pI fun n=>(pI fun lo=>(pI fun hi=>(pE (.det True (.v (.bool (aG n lo hi))))))))
theorem mK:FnOk Tryz.prog 39 kH:=by
 have hG:ConsOk Tryz.prog (mkG [] []):=aw cg0 cg0
 refine aX [.o] mixed am hG (fn:=Tryz.f39) (c:=ae Tryz.f39) (by kernel_rfl) (by kernel_rfl) (by kernel_rfl) (by kernel_rfl) (b_ fun n=>(b_ fun lo=>(b_ fun hi=>(aF (fun hp=>?_)))))
 dsimp only[aD]at hp
 refine⟨Nat.le_of_ble_eq_true rfl,L0,ah _,?_⟩
 ·unfold ae Tryz.f39
  try unfold aG
  simp only[go_sem,Nat.reduceBEq,Nat.reduceLeDiff,Nat.reduceLT,decide_true,Nat.reduceAdd,Nat.reduceSub,Nat.reduceMul,Int.reduceLE,Int.reduceLT,Int.reduceToNat,Int.reduceNeg,reduceCtorEq]
  all_goals exact cl
def iX (x:Deed):Bool:=(bif(x.kind==1)then(((x.parts.length:Int) ==0)&&(x.of_==0))else(bif(x.kind==2)then((x.to==0)&&(x.of_==0))else(bif(x.kind==3)then(((x.to==0)&&((x.parts.length:Int) ==0))&&(x.of_==0))else(bif(x.kind==4)then((((x.right==0)&&(x.since==0))&&(x.to==0))&&((x.parts.length:Int) ==0))else(((((x.right==0)&&(x.since==0))&&(x.to==0))&&((x.parts.length:Int) ==0))&&(x.of_==0))))))
@[go_sem] def oY:List SV→Option Con:=(pD .deed fun x=>(pE (.det True (.v (.bool (iX x))))))
theorem um:FnOk Tryz.prog 85 oY:=by
 have hG:ConsOk Tryz.prog (mkG [] []):=aw cg0 cg0
 refine aX [.o] mixed am hG (fn:=Tryz.f85) (c:=ae Tryz.f85) (by kernel_rfl) (by kernel_rfl) (by kernel_rfl) (by kernel_rfl) (aY fun x=>(aF (fun hp=>?_)))
 dsimp only[aD]at hp
 refine⟨Nat.le_of_ble_eq_true rfl,L0,ah _,?_⟩
 ·unfold ae Tryz.f85
  try unfold iX
  simp only[go_sem,Nat.reduceBEq,Nat.reduceLeDiff,Nat.reduceLT,decide_true,Nat.reduceAdd,Nat.reduceSub,Nat.reduceMul,Int.reduceLE,Int.reduceLT,Int.reduceToNat,Int.reduceNeg,reduceCtorEq]
  all_goals exact cl
@[go_sem] def fD (d:District)(l_:List Part)(k_0:Nat)(s_0:Int×Int×List (Int×Bool)):Unit⊕(Int×Int×List (Int×Bool)):=(bif(((!(aG ((l_.getD k_0 (default:Part)).farm) 0 (IntKind.i64.wrap ((d.farms.length:Int) - 1)))) ||(bY .int .bool s_0.2.2 ((l_.getD k_0 (default:Part)).farm))) ||(decide ((l_.getD k_0 (default:Part)).share.n≤0)))then .inl ()else(bif((fl ({ n:=s_0.1,d:=s_0.2.1}:Ratio) ((l_.getD k_0 (default:Part)).share)).2 !=0)then .inl ()else .inr (((fl ({ n:=s_0.1,d:=s_0.2.1}:Ratio) ((l_.getD k_0 (default:Part)).share)).1).n,((fl ({ n:=s_0.1,d:=s_0.2.1}:Ratio) ((l_.getD k_0 (default:Part)).share)).1).d,(e_ .int .bool s_0.2.2 ((l_.getD k_0 (default:Part)).farm) true))))
def iJ (d:District)(l_:List Part)(k_0:Nat)(s_0:Int×Int×List (Int×Bool)):Prop:=(d.farms.length≤bp→((((!(aG ((l_.getD k_0 (default:Part)).farm) 0 (IntKind.i64.wrap ((d.farms.length:Int) - 1)))) ||(bY .int .bool s_0.2.2 ((l_.getD k_0 (default:Part)).farm))) ||(decide ((l_.getD k_0 (default:Part)).share.n≤0)))=false→(nf ({ n:=s_0.1,d:=s_0.2.1}:Ratio) ((l_.getD k_0 (default:Part)).share))))
def ig (d:District)(l_:List Part):Bool:=(match an (fD d l_) l_.length 0 (0,1,[])with| .inl x_0_0=>false| .inr s_0=>((aG (l_.length:Int) 1 16)&&((s_0.1==1)&&(s_0.2.1==1))))
def iA (d:District)(l_:List Part):Prop:=(l_.length≤bp→okI (fD d l_) (iJ d l_) l_.length 0 (0,1,[]))
@[go_sem] def nY:List SV→Option Con:=(pD .district fun d=>(pR .part fun l_=>(pE (.det (iA d l_) (.v (.bool (ig d l_)))))))
theorem tf:FnOk Tryz.prog 86 nY:=by
 have hG:ConsOk Tryz.prog (mkG [(39,kH),(121,uT)] []):=aw (cgc mK (cgc AI cg0)) cg0
 refine aX [.o] mixed am hG (fn:=Tryz.f86) (c:=ae Tryz.f86) (by kernel_rfl) (by kernel_rfl) (by kernel_rfl) (by kernel_rfl) (aY fun d=>(dW fun l_=>(aF (fun hp=>?_))))
 dsimp only[aD]at hp
 unfold iA at hp
 refine⟨Nat.le_of_ble_eq_true rfl,(fun id st=>bif Nat.beq id 0 then some (LCR (ρ:=Unit) (σ:=(Int×Int×List (Int×Bool))) 3 [] [0,1,2] (fun k_0 s_0=>⟨[(1,.rs .part l_),(2,.ptr 0 0),(5,.ptr 2 0),(6,.os 1),(13,.rs .part l_),(14,.v (.int .i64 (l_.length:Int))),(15,.v (.int .i64 (k_0:Int)))],[.cells (cellsOf .district d),.mp .int .bool s_0.2.2 none,.cells [.v (.int .i64 s_0.1),.v (.int .i64 s_0.2.1)]]⟩) (fD d l_) (iJ d l_) l_.length (0,1,[]) (l_.length≤bp) (fun _=>.ret) (fun x_0_0=>⟨[(4,.v (.bool false))],[.dead,.dead,.dead]⟩) st)else none),?_,?_⟩
 ·unfold ae Tryz.f86
  simp only[al,true_and,and_true]
  ·refine dy mixed am hG (by kernel_rfl) (fun _=>rfl) (l_.length:Int) rfl iS (fun hb0 k_0 s_0 hlt0 hq0 hw hc=>⟨L0,ah _,?_⟩) (fun hb0 s_0 hc=>?_)
   ·unfold iJ at hq0
    try simp only[hw,Int.toNat_natCast]at hq0
    exact Jh
   ·exact Ji
 ·unfold ae Tryz.f86
  try unfold ig
  simp only[go_sem,Nat.reduceBEq,Nat.reduceLeDiff,Nat.reduceLT,decide_true,Nat.reduceAdd,Nat.reduceSub,Nat.reduceMul,Int.reduceLE,Int.reduceLT,Int.reduceToNat,Int.reduceNeg,reduceCtorEq]
  all_goals exact cl
def cF (a0:District)(a1:List (Int×Deed))(a2:Deed):Bool:=(bif((((!(aG a2.no 0 1048576)) ||(!(aG a2.at_ 0 4096))) ||(!(aG a2.known 0 1048576))) ||(!(iX a2)))then false else(bif(a2.kind==1)then(((((aG a2.right 0 (IntKind.i64.wrap ((a0.rights.length:Int) - 1)))&&((a0.rights.getD (Int.toNat a2.right) (default:Right)).kind==1))&&(aG a2.since 0 (IntKind.i64.wrap ((a0.farms.length:Int) - 1))))&&(aG a2.to 0 (IntKind.i64.wrap ((a0.farms.length:Int) - 1))))&&(a2.to !=a2.since))else(bif(a2.kind==2)then((((aG a2.right 0 (IntKind.i64.wrap ((a0.rights.length:Int) - 1)))&&((a0.rights.getD (Int.toNat a2.right) (default:Right)).kind==1))&&(aG a2.since 0 (IntKind.i64.wrap ((a0.farms.length:Int) - 1))))&&(ig a0 a2.parts))else(bif(a2.kind==3)then(((aG a2.right 0 (IntKind.i64.wrap ((a0.rights.length:Int) - 1)))&&((a0.rights.getD (Int.toNat a2.right) (default:Right)).kind==1))&&(aG a2.since 0 (IntKind.i64.wrap ((a0.farms.length:Int) - 1))))else(bif(a2.kind==4)then(((pc .int .deed a1 a2.of_)&&((bY .int .deed a1 a2.of_).kind !=4))&&(decide (a2.known≥(bY .int .deed a1 a2.of_).known)))else false)))))
def jc (a0:District)(a1:List (Int×Deed))(a2:Deed):Prop:=(((((!(aG a2.no 0 1048576)) ||(!(aG a2.at_ 0 4096))) ||(!(aG a2.known 0 1048576))) ||(!(iX a2)))=false→(a0.farms.length≤bp→(a0.rights.length≤bp→(((aG a2.right 0 (IntKind.i64.wrap ((a0.rights.length:Int) - 1)))=true→(0≤a2.right∧a2.right< (a0.rights.length:Int)))∧((a2.kind==1)=false→((a2.kind==2)=true→((((aG a2.right 0 (IntKind.i64.wrap ((a0.rights.length:Int) - 1)))&&((a0.rights.getD (Int.toNat a2.right) (default:Right)).kind==1))&&(aG a2.since 0 (IntKind.i64.wrap ((a0.farms.length:Int) - 1))))=true→(iA a0 a2.parts))))))))
@[go_sem] def oZ:List SV→Option Con:=(pD .district fun a0=>(pM .int .deed fun a1=>(pD .deed fun a2=>(pE (.det (jc a0 a1 a2) (.v (.bool (cF a0 a1 a2))))))))
theorem un:FnOk Tryz.prog 49 oZ:=by
 have hG:ConsOk Tryz.prog (mkG [(39,kH),(85,fun l=>oY (dp [.st .deed] l)),(86,fun l=>nY (dp [.st .district,.sl .part] l))] []):=aw (cgc mK (cgc (um.norm [.st .deed]) (cgc (tf.norm [.st .district,.sl .part]) cg0))) cg0
 refine aX [.o] mixed am hG (fn:=Tryz.f49) (c:=ae Tryz.f49) (by kernel_rfl) (by kernel_rfl) (by kernel_rfl) (by kernel_rfl) (aY fun a0=>(Pi fun a1=>(aY fun a2=>(aF (fun hp=>?_)))))
 dsimp only[aD]at hp
 unfold jc at hp
 refine⟨Nat.le_of_ble_eq_true rfl,L0,ah _,?_⟩
 ·unfold ae Tryz.f49
  try unfold cF
  simp only[go_sem,Nat.reduceBEq,Nat.reduceLeDiff,Nat.reduceLT,decide_true,Nat.reduceAdd,Nat.reduceSub,Nat.reduceMul,Int.reduceLE,Int.reduceLT,Int.reduceToNat,Int.reduceNeg,reduceCtorEq]
  all_goals exact cl
def cS (x:Deed):Bool:=(decide ((x.parts.length:Int) > 16))
@[go_sem] def mL:List SV→Option Con:=(pD .deed fun x=>(pE (.det True (.v (.bool (cS x))))))
theorem qJ:FnOk Tryz.prog 48 mL:=by
 have hG:ConsOk Tryz.prog (mkG [] []):=aw cg0 cg0
 refine aX [.o] mixed am hG (fn:=Tryz.f48) (c:=ae Tryz.f48) (by kernel_rfl) (by kernel_rfl) (by kernel_rfl) (by kernel_rfl) (aY fun x=>(aF (fun hp=>?_)))
 dsimp only[aD]at hp
 refine⟨Nat.le_of_ble_eq_true rfl,L0,ah _,?_⟩
 ·unfold ae Tryz.f48
  try unfold cS
  simp only[go_sem,Nat.reduceBEq,Nat.reduceLeDiff,Nat.reduceLT,decide_true,Nat.reduceAdd,Nat.reduceSub,Nat.reduceMul,Int.reduceLE,Int.reduceLT,Int.reduceToNat,Int.reduceNeg,reduceCtorEq]
  all_goals exact cl
@[go_sem] def bN (s_:List Deed)(k_0:Nat)(s_0:Unit):Int⊕Unit:=(bif(cS (s_.getD k_0 (default:Deed)))then .inl (k_0:Int)else .inr ())
def cK (s_:List Deed):Int:=(match an (bN s_) s_.length 0 ()with| .inl x_0_0=>x_0_0| .inr s_0=>(-1))
@[go_sem] def dz:List SV→Option Con:=(pR .deed fun s_=>(pFn 48 (pE ((pE (.det True (.v (.int .i64 (cK s_)))))))))
theorem eF:FnOk Tryz.prog 84 dz:=by
 have hG:ConsOk Tryz.prog (mkG [(48,fun l=>mL (dp [.st .deed] l))] []):=aw (cgc (qJ.norm [.st .deed]) cg0) cg0
 refine aX [.o] mixed am hG (fn:=Tryz.f84) (c:=ae Tryz.f84) (by kernel_rfl) (by kernel_rfl) (by kernel_rfl) (by kernel_rfl) (dW fun s_=>(sQ (aF ((aF (fun hp=>?_))))))
 dsimp only[aD]at hp
 refine⟨Nat.le_of_ble_eq_true rfl,(fun id st=>bif Nat.beq id 0 then some (LCR (ρ:=Int) (σ:=Unit) 0 [] [] (fun k_0 s_0=>⟨[(0,.rs .deed s_),(1,.fn 48 [] []),(7,.v (.int .i64 (s_.length:Int))),(8,.v (.int .i64 (k_0:Int)))],[]⟩) (bN s_) pT s_.length () (s_.length≤bp) (fun _=>.ret) (fun x_0_0=>⟨[(4,.v (.int .i64 x_0_0))],[]⟩) st)else none),?_,?_⟩
 ·unfold ae Tryz.f84
  simp only[al,true_and,and_true]
  ·refine dy mixed am hG (by kernel_rfl) (fun _=>rfl) (s_.length:Int) rfl iS (fun hb0 k_0 s_0 hlt0 _ hw hc=>⟨L0,ah _,?_⟩) (fun hb0 s_0 hc=>?_)
   ·exact k9
   ·exact k_
 ·unfold ae Tryz.f84
  try unfold cK
  simp only[go_sem,Nat.reduceBEq,Nat.reduceLeDiff,Nat.reduceLT,decide_true,Nat.reduceAdd,Nat.reduceSub,Nat.reduceMul,Int.reduceLE,Int.reduceLT,Int.reduceToNat,Int.reduceNeg,reduceCtorEq]
  all_goals exact cl
@[go_sem] noncomputable def du:List SV→Option Con:=fun l=>(dz l)
theorem ii:FnOk Tryz.prog 84 du:=eF
def aU (s_:List Deed):Bool:=(decide ((cK s_)≥0))
@[go_sem] def ei:List SV→Option Con:=(pR .deed fun s_=>(pFn 48 (pE ((pE (.det True (.v (.bool (aU s_)))))))))
theorem gJ:FnOk Tryz.prog 47 ei:=by
 have hG:ConsOk Tryz.prog (mkG [(84,fun l=>du (dp [.sl .deed,.o] l))] []):=aw (cgc (ii.norm [.sl .deed,.o]) cg0) cg0
 refine aX [.o] mixed am hG (fn:=Tryz.f47) (c:=ae Tryz.f47) (by kernel_rfl) (by kernel_rfl) (by kernel_rfl) (by kernel_rfl) (dW fun s_=>(sQ (aF ((aF (fun hp=>?_))))))
 dsimp only[aD]at hp
 refine⟨Nat.le_of_ble_eq_true rfl,L0,ah _,?_⟩
 ·unfold ae Tryz.f47
  try unfold aU
  simp only[go_sem,Nat.reduceBEq,Nat.reduceLeDiff,Nat.reduceLT,decide_true,Nat.reduceAdd,Nat.reduceSub,Nat.reduceMul,Int.reduceLE,Int.reduceLT,Int.reduceToNat,Int.reduceNeg,reduceCtorEq,du]
  all_goals exact cl
@[go_sem] def dY (d:District)(l_:List Deed)(k_0:Nat)(s_0:List (Int×Deed)):Unit⊕(List (Int×Deed)):=(bif(((decide ((k_0:Int) > 0))&&(decide ((l_.getD k_0 (default:Deed)).no≤(l_.getD (Int.toNat (IntKind.i64.wrap ((k_0:Int) - 1))) (default:Deed)).no))) ||(!(cF d s_0 (l_.getD k_0 (default:Deed)))))then .inl ()else .inr (e_ .int .deed s_0 ((l_.getD k_0 (default:Deed)).no) (l_.getD k_0 (default:Deed))))
def iK (d:District)(l_:List Deed)(k_0:Nat)(s_0:List (Int×Deed)):Prop:=(((decide ((k_0:Int) > 0))=true→(0≤(IntKind.i64.wrap ((k_0:Int) - 1))∧(IntKind.i64.wrap ((k_0:Int) - 1)) < (l_.length:Int)))∧(((decide ((k_0:Int) > 0))&&(decide ((l_.getD k_0 (default:Deed)).no≤(l_.getD (Int.toNat (IntKind.i64.wrap ((k_0:Int) - 1))) (default:Deed)).no)))=false→(jc d s_0 (l_.getD k_0 (default:Deed)))))
def aN (d:District)(l_:List Deed):Int:=(bif((ar d) !=0)then(ar d)else(bif((decide ((l_.length:Int) > 512)) ||(aU l_))then 2 else(match an (dY d l_) l_.length 0 ([])with| .inl x_0_0=>250| .inr s_0=>0)))
def fT (d:District)(l_:List Deed):Prop:=(((ar d) !=0)=false→(l_.length≤bp→(((decide ((l_.length:Int) > 512)) ||(aU l_))=false→(l_.length≤bp→okI (dY d l_) (iK d l_) l_.length 0 ([])))))
@[go_sem] def ko:List SV→Option Con:=(pD .district fun d=>(pR .deed fun l_=>(pE (.det (fT d l_) (.v (.int .i64 (aN d l_)))))))
theorem ni:FnOk Tryz.prog 26 ko:=by
 have hG:ConsOk Tryz.prog (mkG [(34,fun l=>jL (dp [.st .district] l)),(47,fun l=>ei (dp [.sl .deed,.o] l)),(49,fun l=>oZ (dp [.st .district,.mp .int .deed,.st .deed] l))] []):=aw (cgc (lF.norm [.st .district]) (cgc (gJ.norm [.sl .deed,.o]) (cgc (un.norm [.st .district,.mp .int .deed,.st .deed]) cg0))) cg0
 refine aX [.o] mixed am hG (fn:=Tryz.f26) (c:=ae Tryz.f26) (by kernel_rfl) (by kernel_rfl) (by kernel_rfl) (by kernel_rfl) (aY fun d=>(dW fun l_=>(aF (fun hp=>?_))))
 dsimp only[aD]at hp
 unfold fT at hp
 refine⟨Nat.le_of_ble_eq_true rfl,(fun id st=>bif Nat.beq id 0 then some (LCR (ρ:=Unit) (σ:=(List (Int×Deed))) 2 [] [0,1] (fun k_0 s_0=>⟨[(1,.rs .deed l_),(2,.ptr 0 0),(5,.os 1),(21,.rs .deed l_),(22,.v (.int .i64 (l_.length:Int))),(23,.v (.int .i64 (k_0:Int)))],[.cells (cellsOf .district d),.mp .int .deed s_0 none]⟩) (dY d l_) (iK d l_) l_.length ([]) (l_.length≤bp) (fun _=>.ret) (fun x_0_0=>⟨[(4,.v (.int .i64 250))],[.dead,.dead]⟩) st)else none),?_,?_⟩
 ·unfold ae Tryz.f26
  simp only[al,true_and,and_true]
  ·refine dy mixed am hG (by kernel_rfl) (fun _=>rfl) (l_.length:Int) rfl iS (fun hb0 k_0 s_0 hlt0 hq0 hw hc=>⟨L0,ah _,?_⟩) (fun hb0 s_0 hc=>?_)
   ·unfold iK at hq0
    try simp only[hw,Int.toNat_natCast]at hq0
    exact xy
   ·exact xz
 ·unfold ae Tryz.f26
  try unfold aN
  simp only[go_sem,Nat.reduceBEq,Nat.reduceLeDiff,Nat.reduceLT,decide_true,Nat.reduceAdd,Nat.reduceSub,Nat.reduceMul,Int.reduceLE,Int.reduceLT,Int.reduceToNat,Int.reduceNeg,reduceCtorEq]
  all_goals exact cl
end Go.Sx
end
section
namespace Go.Sx
open Go.RowKit
def pXM {α:Type 1}(t t2:Tag)(k:List (t.T×t2.T)→List SV→Option α):List SV→Option α
 | .ep [s] 0::r=>pM t t2 k (s::r)
 |_=>none
@[go_sem] theorem TQ {α:Type 1}{t t2:Tag}{k:List (t.T×t2.T)→List SV→Option α}{s:SV}{r:List SV}:pXM t t2 k (.ep [s] 0::r)=pM t t2 k (s::r):=(rfl)
theorem FB {α:Type 1}{G:List SV→α→Prop}{t t2:Tag}{k:List (t.T×t2.T)→List SV→Option α}(h:∀ n l c,k n l=some c→G (.ep [.rm t t2 n] 0::l) c):∀ l c,pXM t t2 k l=some c→G l c:=fun l c hc=>by
 unfold pXM at hc
 split at hc
 ·obtain⟨x,r,e,h1⟩:=Iz hc
  simp only[List.cons.injEq]at e
  obtain⟨rfl,rfl⟩:=e
  exact h x _ c h1
 ·cases hc
section
universe u
variable {α:Type u}{G:List SV→α→Prop}
def pLS (k:List SV→Option (List SV→Option α)):List SV→Option α
 | .ls l::r=>apO (k l) r
 |_=>none
@[go_sem] theorem Wi {k:List SV→Option (List SV→Option α)}{l r:List SV}:pLS k (.ls l::r)=apO (k l) r:=(rfl)
end
end Go.Sx
end
section
namespace Go.Sx
open Go.RowKit
open Classical in
noncomputable def gK {τ:Type}(A:τ→List SV)(H:τ→List Ob)(K:τ→HCon):List SV→List Ob→Option HCon:=fun l h=>if e:∃ x,l=A x∧h=H x then some (K e.choose)else none
theorem Jj (x:Deed):(⟨x.no,x.kind,x.right,x.since,x.to,x.parts,x.of_,x.at_,x.known⟩:Deed)=x:=rfl
theorem AJ (d:District):(⟨d.name,d.hours,⟨d.tank.cap,d.tank.start⟩,d.reaches,d.farms,d.crops,d.rights,d.duties,d.wells⟩:District)=d:=rfl
theorem GR {k:Tag}{x y:k.T}:cellsOf k x=cellsOf k y↔x=y:=⟨fun h=>by
 have h1:=qo x
 rw[h,qo y]at h1
 exact(Option.some.inj h1).symm,fun h=>by rw[h]⟩
theorem eX {τ:Type}{A:τ→List SV}{H:τ→List Ob}{K:τ→HCon}{x:τ}(inj:∀ x y,A x=A y→H x=H y→x=y:=by
 intro x y h1 h2
 simp only[List.cons.injEq,SV.agg.injEq,SV.ep.injEq,SV.v.injEq,Value.int.injEq,Value.bool.injEq,Value.string.injEq,SV.fn.injEq,SV.rs.injEq,SV.rm.injEq,Ob.row.injEq,Ob.mp.injEq,Ob.cells.injEq,Ob.grid.injEq,heq_eq_eq,GR,true_and,and_true]at h1 h2
 first|exact h2|exact h1|(simp_all [Prod.ext_iff];done)):gK A H K (A x) (H x)=some (K x):=by
 have e:∃ y,A x=A y∧H x=H y:=⟨x,rfl,rfl⟩
 unfold gK
 rw[dif_pos e]
 have:=inj _ _ e.choose_spec.1 e.choose_spec.2
 rw[←this]
theorem dJ {τ:Type}{A:τ→List SV}{H:τ→List Ob}{K:τ→HCon}{l:List SV}{h:List Ob}{c:HCon}(hh:gK A H K l h=some c):∃ x,l=A x∧h=H x∧c=K x:=by
 unfold gK at hh
 split at hh
 ·rename_i e
  simp only[Option.some.injEq]at hh
  exact⟨e.choose,e.choose_spec.1,e.choose_spec.2,hh.symm⟩
 ·cases hh
end Go.Sx
end
section
namespace Go.Sx
open Go.Proofs
set_option maxRecDepth 100000
set_option linter.unusedSimpArgs false
@[go_sem] def lQ:List SV→Option Con:=pR .deed fun l=>pE (.det (l.length*88≤fG) (.nw .deed l))
theorem p8:FnOk Tryz.prog 72 lQ:=by
 have hG:ConsOk Tryz.prog (mkG [] []):=aw cg0 cg0
 refine oC [(.tmp 2,.deed)] mixed am hG (fn:=Tryz.f72) (c:=ae Tryz.f72) (by kernel_rfl) (by kernel_rfl) (by kernel_rfl) (by kernel_rfl) (dW fun l=>aF fun hp=>?_)
 dsimp only[aD]at hp
 refine⟨Nat.le_of_ble_eq_true rfl,L0,ah _,?_⟩
 unfold ae Tryz.f72
 simp only[go_sem,Nat.reduceBEq,Nat.reduceLeDiff,Nat.reduceAdd,Nat.reduceSub,Nat.reduceMul,Int.reduceLE,Int.reduceLT,Int.reduceToNat,Int.reduceNeg,reduceCtorEq]
 intro b hb
 refine⟨fun h=>?_,fun _=>⟨hp,fun _=>rfl⟩⟩
 have hl:=hb h
 subst hl
 rfl
end Go.Sx
end
section
namespace Go.Sx
open Go.Proofs
set_option maxRecDepth 100000
set_option linter.unusedSimpArgs false
theorem Jk {p:Prop}(h:p:=by(first|done|(repeat' (first|with_reducible refine And.intro ?_ ?_|((with_reducible show _≠_);first|assumption|omega|(simp_all [bE,bM];done) |grind) |with_reducible intro _)) <;>(first|done|with_reducible exact Empty.elim ‹Empty› |with_reducible assumption|rfl|omega|assumption|decide|exact fk [0,1,2,3,4] |exact czl|(simp only[*,cond_true,cond_false,Bool.not_true,Bool.not_false,go_sem,Nat.reduceBEq,Nat.reduceLeDiff,Nat.reduceLT,decide_true,Nat.reduceAdd,Nat.reduceSub,Nat.reduceMul,Int.reduceLE,Int.reduceLT,Int.reduceToNat,Int.reduceNeg,reduceCtorEq];(repeat' (first|with_reducible refine And.intro ?_ ?_|((with_reducible show _≠_);first|assumption|omega|(simp_all [bE,bM];done) |grind) |with_reducible intro _)) <;>(first|done|assumption|rfl|omega|decide|exact fk [0,1,2,3,4] |(simp_all [bE,bM];done))) |(simp_all [okI,bE,bM];done) |(simp_all [bE,bM];(first|done|exact fk2 [0,1,2,3,4])) |exact fk2 [0,1,2,3,4]))):p:=h
theorem Jl {p:Prop}(h:p:=by(first|done|(repeat' (first|with_reducible refine And.intro ?_ ?_|((with_reducible show _≠_);first|assumption|omega|(simp_all [bE,bM];done) |grind) |with_reducible intro _)) <;>(first|done|with_reducible exact Empty.elim ‹Empty› |with_reducible assumption|rfl|omega|assumption|decide|exact fk [0,1,2,3,4,0] |exact fk [0,1,2,3,4,5] |exact czl|(simp only[*,cond_true,cond_false,Bool.not_true,Bool.not_false,go_sem,Nat.reduceBEq,Nat.reduceLeDiff,Nat.reduceLT,decide_true,Nat.reduceAdd,Nat.reduceSub,Nat.reduceMul,Int.reduceLE,Int.reduceLT,Int.reduceToNat,Int.reduceNeg,reduceCtorEq];(repeat' (first|with_reducible refine And.intro ?_ ?_|((with_reducible show _≠_);first|assumption|omega|(simp_all [bE,bM];done) |grind) |with_reducible intro _)) <;>(first|done|assumption|rfl|omega|decide|exact fk [0,1,2,3,4,0] |exact fk [0,1,2,3,4,5] |(simp_all [bE,bM];done))) |(simp_all [okI,bE,bM];done) |(simp_all [bE,bM];(first|done|exact fk2 [0,1,2,3,4,0] |exact fk2 [0,1,2,3,4,5])) |exact fk2 [0,1,2,3,4,0] |exact fk2 [0,1,2,3,4,5]))):p:=h
theorem Jm {p:Prop}(h:p:=by simp only[go_sem,Nat.reduceBEq,Nat.reduceLeDiff,Nat.reduceLT,decide_true,Nat.reduceAdd,Nat.reduceSub,Nat.reduceMul,Int.reduceLE,Int.reduceLT,Int.reduceToNat,Int.reduceNeg,reduceCtorEq];all_goals exact Jk):p:=h
def aP (x:Deed)(known:Int)(hour:Int)(void_:List (Int×Bool)):Bool:=((((x.kind==4) ||(decide (x.known > known))) ||(decide (x.at_ > hour))) ||(bY .int .bool void_ x.no))
@[go_sem] def gL:List SV→Option Con:=(pD .deed fun x=>(pX .int fun known=>(pX .int fun hour=>(pXM .int .bool fun void_=>(pE (.det True (.v (.bool (aP x known hour void_)))))))))
theorem jN:FnOk Tryz.prog 73 gL:=by
 have hG:ConsOk Tryz.prog (mkG [] []):=aw cg0 cg0
 refine aX [.o] mixed am hG (fn:=Tryz.f73) (c:=ae Tryz.f73) (by kernel_rfl) (by kernel_rfl) (by kernel_rfl) (by kernel_rfl) (aY fun x=>(pA fun known=>(pA fun hour=>(FB fun void_=>(aF (fun hp=>?_))))))
 dsimp only[aD]at hp
 refine⟨Nat.le_of_ble_eq_true rfl,L0,ah _,?_⟩
 ·unfold ae Tryz.f73
  try unfold aP
  simp only[go_sem,Nat.reduceBEq,Nat.reduceLeDiff,Nat.reduceLT,decide_true,Nat.reduceAdd,Nat.reduceSub,Nat.reduceMul,Int.reduceLE,Int.reduceLT,Int.reduceToNat,Int.reduceNeg,reduceCtorEq]
  all_goals exact cl
def cq (a:Deed)(b:Deed):Int:=(bX a.at_ b.at_)
@[go_sem] def gM:List SV→Option Con:=(pD .deed fun a=>(pD .deed fun b=>(pE (.det True (.v (.int .i64 (cq a b)))))))
theorem jO:FnOk Tryz.prog 75 gM:=by
 have hG:ConsOk Tryz.prog (mkG [(45,fw)] []):=aw (cgc gh cg0) cg0
 refine aX [.o] mixed am hG (fn:=Tryz.f75) (c:=ae Tryz.f75) (by kernel_rfl) (by kernel_rfl) (by kernel_rfl) (by kernel_rfl) (aY fun a=>(aY fun b=>(aF (fun hp=>?_))))
 dsimp only[aD]at hp
 refine⟨Nat.le_of_ble_eq_true rfl,L0,ah _,?_⟩
 ·unfold ae Tryz.f75
  try unfold cq
  simp only[go_sem,Nat.reduceBEq,Nat.reduceLeDiff,Nat.reduceLT,decide_true,Nat.reduceAdd,Nat.reduceSub,Nat.reduceMul,Int.reduceLE,Int.reduceLT,Int.reduceToNat,Int.reduceNeg,reduceCtorEq]
  all_goals exact cl
@[go_sem] def c7 (s_:List Deed)(known:Int)(hour:Int)(void_:List (Int×Bool))(k_0:Nat)(s_0:Unit):Int⊕Unit:=(bif(aP (s_.getD k_0 (default:Deed)) known hour void_)then .inl (k_0:Int)else .inr ())
def ai (s_:List Deed)(known:Int)(hour:Int)(void_:List (Int×Bool)):Int:=(match an (c7 s_ known hour void_) s_.length 0 ()with| .inl x_0_0=>x_0_0| .inr s_0=>(-1))
@[go_sem] def eC:List SV→Option Con:=(pR .deed fun s_=>(pFn 73 (pX .int fun known=>(pX .int fun hour=>(pXM .int .bool fun void_=>(pE ((pE (.det True (.v (.int .i64 (ai s_ known hour void_))))))))))))
theorem gS:FnOk Tryz.prog 84 eC:=by
 have hG:ConsOk Tryz.prog (mkG [(73,fun l=>gL (dp [.st .deed,.o,.o,.o] l))] []):=aw (cgc (jN.norm [.st .deed,.o,.o,.o]) cg0) cg0
 refine aX [.o] mixed am hG (fn:=Tryz.f84) (c:=ae Tryz.f84) (by kernel_rfl) (by kernel_rfl) (by kernel_rfl) (by kernel_rfl) (dW fun s_=>(sQ (pA fun known=>(pA fun hour=>(FB fun void_=>(aF ((aF (fun hp=>?_)))))))))
 dsimp only[aD]at hp
 refine⟨Nat.le_of_ble_eq_true rfl,(fun id st=>bif Nat.beq id 0 then some (LCR (ρ:=Int) (σ:=Unit) 0 [] [] (fun k_0 s_0=>⟨[(0,.rs .deed s_),(1,.fn 73 [] [.ep [.v (.int .i64 known)] 0,.ep [.v (.int .i64 hour)] 0,.ep [.rm .int .bool void_] 0]),(7,.v (.int .i64 (s_.length:Int))),(8,.v (.int .i64 (k_0:Int)))],[]⟩) (c7 s_ known hour void_) pT s_.length () (s_.length≤bp) (fun _=>.ret) (fun x_0_0=>⟨[(4,.v (.int .i64 x_0_0))],[]⟩) st)else none),?_,?_⟩
 ·unfold ae Tryz.f84
  simp only[al,true_and,and_true]
  ·refine dy mixed am hG (by kernel_rfl) (fun _=>rfl) (s_.length:Int) rfl iS (fun hb0 k_0 s_0 hlt0 _ hw hc=>⟨L0,ah _,?_⟩) (fun hb0 s_0 hc=>?_)
   ·exact k9
   ·exact k_
 ·unfold ae Tryz.f84
  try unfold ai
  simp only[go_sem,Nat.reduceBEq,Nat.reduceLeDiff,Nat.reduceLT,decide_true,Nat.reduceAdd,Nat.reduceSub,Nat.reduceMul,Int.reduceLE,Int.reduceLT,Int.reduceToNat,Int.reduceNeg,reduceCtorEq]
  all_goals exact cl
@[go_sem] noncomputable def dv:List SV→Option Con:=fun l=>(orC (dz l) (eC l))
theorem ij:FnOk Tryz.prog 84 dv:=(FnOk.or eF gS)
@[go_sem] def aJ (l_:List Deed)(known:Int)(hour:Int)(void_:List (Int×Bool))(k_0:Nat)(s_0:List Deed×Int×Int):(Int×List Deed)⊕(List Deed×Int×Int):=(bif(decide (s_0.2.2< (s_0.1.length:Int)))then(bif(!(aP (s_0.1.getD (Int.toNat s_0.2.2) (default:Deed)) known hour void_))then .inr ((s_0.1.set (Int.toNat s_0.2.1) (s_0.1.getD (Int.toNat s_0.2.2) (default:Deed))),(IntKind.i64.wrap (s_0.2.1+1)),(IntKind.i64.wrap (s_0.2.2+1)))else .inr (s_0.1,s_0.2.1,(IntKind.i64.wrap (s_0.2.2+1))))else .inl (s_0.2.1,s_0.1))
def bC (l_:List Deed)(known:Int)(hour:Int)(void_:List (Int×Bool))(k_0:Nat)(s_0:List Deed×Int×Int):Prop:=(s_0.1.length≤bp→((decide (s_0.2.2< (s_0.1.length:Int)))=true→((0≤s_0.2.2∧s_0.2.2< (s_0.1.length:Int))∧((!(aP (s_0.1.getD (Int.toNat s_0.2.2) (default:Deed)) known hour void_))=true→(0≤s_0.2.1∧s_0.2.1< (s_0.1.length:Int))))))
def aS (l_:List Deed)(known:Int)(hour:Int)(void_:List (Int×Bool)):List Deed:=(bif((ai l_ known hour void_) ==(-1))then l_ else(match an (aJ l_ known hour void_) (l_.length+1) 0 (l_,(ai l_ known hour void_),(IntKind.i64.wrap ((ai l_ known hour void_)+1)))with| .inl x_0_0=>(((wc .deed x_0_0.2 x_0_0.1 (x_0_0.2.length:Int)).take (Int.toNat x_0_0.1)).drop 0) | .inr s_0=>default))
def aV (l_:List Deed)(known:Int)(hour:Int)(void_:List (Int×Bool)):Prop:=(((ai l_ known hour void_) ==(-1))=false→(okI (aJ l_ known hour void_) (bC l_ known hour void_) (l_.length+1) 0 (l_,(ai l_ known hour void_),(IntKind.i64.wrap ((ai l_ known hour void_)+1)))∧(∀ z_,an (aJ l_ known hour void_) (l_.length+1) 0 (l_,(ai l_ known hour void_),(IntKind.i64.wrap ((ai l_ known hour void_)+1)))≠ .inr z_)∧(∀ x_0_0,an (aJ l_ known hour void_) (l_.length+1) 0 (l_,(ai l_ known hour void_),(IntKind.i64.wrap ((ai l_ known hour void_)+1)))=.inl x_0_0→((0≤x_0_0.1∧x_0_0.1≤(x_0_0.2.length:Int))∧(0≤0∧0≤x_0_0.1∧x_0_0.1≤((wc .deed x_0_0.2 x_0_0.1 (x_0_0.2.length:Int)).length:Int))))))
noncomputable def dw:List SV→List Ob→Option HCon:=gK (fun x_:(List Deed)×Int×Int×(List (Int×Bool)) =>[.os 0,.fn 73 [] [.ptr 1 0,.ptr 2 0,.ptr 3 0]]) (fun x_=>[.row .deed x_.1,.cells [.v (.int .i64 x_.2.1)],.cells [.v (.int .i64 x_.2.2.1)],.cells [.os 4],.mp .int .bool x_.2.2.2 none]) (fun x_=>eK (aV x_.1 x_.2.1 x_.2.2.1 x_.2.2.2) (.os 5) [.dead,.cells [.v (.int .i64 x_.2.1)],.cells [.v (.int .i64 x_.2.2.1)],.cells [.os 4],.mp .int .bool x_.2.2.2 none,.row .deed (aS x_.1 x_.2.1 x_.2.2.1 x_.2.2.2)])
@[go_sem] theorem o7 (l_:List Deed)(known:Int)(hour:Int)(void_:List (Int×Bool)){p4_:Option (Nat×Option Tag.int.T)}(hp4_:p4_=none):dw ([.os 0,.fn (73:Nat) [] [.ptr 1 0,.ptr 2 0,.ptr 3 0]]) ([.row .deed l_,.cells [.v (.int .i64 known)],.cells [.v (.int .i64 hour)],.cells [.os 4],.mp .int .bool void_ p4_])=some (eK (aV l_ known hour void_) (.os 5) [.dead,.cells [.v (.int .i64 known)],.cells [.v (.int .i64 hour)],.cells [.os 4],.mp .int .bool void_ none,.row .deed (aS l_ known hour void_)]):=by
 subst hp4_;exact eX (A:=fun x_:(List Deed)×Int×Int×(List (Int×Bool)) =>[.os 0,.fn 73 [] [.ptr 1 0,.ptr 2 0,.ptr 3 0]]) (H:=fun x_=>[.row .deed x_.1,.cells [.v (.int .i64 x_.2.1)],.cells [.v (.int .i64 x_.2.2.1)],.cells [.os 4],.mp .int .bool x_.2.2.2 none]) (K:=fun x_=>eK (aV x_.1 x_.2.1 x_.2.2.1 x_.2.2.2) (.os 5) [.dead,.cells [.v (.int .i64 x_.2.1)],.cells [.v (.int .i64 x_.2.2.1)],.cells [.os 4],.mp .int .bool x_.2.2.2 none,.row .deed (aS x_.1 x_.2.1 x_.2.2.1 x_.2.2.2)]) (x:=(l_,known,hour,void_))
theorem ik:FnOkO Tryz.prog 71 (dw):=by
 have hG:ConsOk Tryz.prog (mkG [(73,fun l=>gL (dp [.st .deed,.o,.o,.o] l)),(84,fun l=>dv (dp [.sl .deed,.o] l))] []):=aw (cgc (jN.norm [.st .deed,.o,.o,.o]) (cgc (ij.norm [.sl .deed,.o]) cg0)) cg0
 refine fQ mixed am hG (fn:=Tryz.f71) (c:=ae Tryz.f71) (by kernel_rfl) (by kernel_rfl) (by kernel_rfl) (by kernel_rfl) fun l o con h=>?_
 obtain⟨⟨l_,known,hour,void_⟩,rfl,rfl,rfl⟩:=dJ h
 clear h
 try dsimp only
 refine⟨_,_,_,rfl,fun hp=>?_⟩
 unfold aV at hp
 refine⟨Nat.le_of_ble_eq_true rfl,(fun id st=>bif Nat.beq id 0 then some (LCV (ρ:=(Int×List Deed)) (σ:=(List Deed×Int×Int)) 5 [] [0,1,2,3,4] (fun k_0 s_0=>⟨[(0,.os 0),(1,.fn 73 [] [.ptr 1 0,.ptr 2 0,.ptr 3 0]),(5,.v (.int .i64 s_0.2.1)),(6,.v (.int .i64 s_0.2.2))],[.row .deed s_0.1,.cells [.v (.int .i64 known)],.cells [.v (.int .i64 hour)],.cells [.os 4],.mp .int .bool void_ none]⟩) (aJ l_ known hour void_) (bC l_ known hour void_) (l_.length+1) (l_,(ai l_ known hour void_),(IntKind.i64.wrap ((ai l_ known hour void_)+1))) (fun _=>.normal) (fun x_0_0=>⟨[(0,.os 0),(5,.v (.int .i64 x_0_0.1))],[.row .deed x_0_0.2,.cells [.v (.int .i64 known)],.cells [.v (.int .i64 hour)],.cells [.os 4],.mp .int .bool void_ none]⟩) st)else none),?_,?_⟩
 ·unfold ae Tryz.f71
  simp only[al,true_and,and_true,and_assoc]
  ·refine fc mixed am hG (by kernel_rfl) (fun _=>rfl) fun k_0 s_0 hq0=>⟨L0,ah _,?_⟩
   ·unfold bC at hq0
    exact Jm
 ·unfold ae Tryz.f71
  try unfold aS
  simp only[go_sem,Nat.reduceBEq,Nat.reduceLeDiff,Nat.reduceLT,decide_true,Nat.reduceAdd,Nat.reduceSub,Nat.reduceMul,Int.reduceLE,Int.reduceLT,Int.reduceToNat,Int.reduceNeg,reduceCtorEq,dv]
  all_goals exact Jl
end Go.Sx
end
