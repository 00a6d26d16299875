/- Part of the proof that the law ClaimsEasement returns true and leaves its arguments as they were, for all arguments of bulk at most 1048576 (the Upto form). -/
import Derived.Test.YtgdkdhdlfdcefaaGreatC508
import Derived.Test.YtgdkdhdlfdcefaaGreatC507
import Derived.Sort.Statements
import Derived.Shelf.SlSortCmp.Insertion
set_option linter.all false
set_option maxHeartbeats 4000000
set_option maxRecDepth 100000
section
namespace Go.Sx
open Go.Proofs
open IntKind (i64)
@[go_sem] def pd (l_:List Int)(k_0:Nat)(s_0:Unit):Int⊕Unit:=(bif((l_.getD k_0 (0:Int)) !=0)then .inl (l_.getD k_0 (0:Int))else .inr ())
def fa (l_:List Int):Int:=(match aq (pd l_) l_.length 0 ()with| .inl x_0_0=>x_0_0| .inr s_0=>0)
@[go_sem] def ql:List SV→Option Con:=(pR .int fun l_=>(pE (.det True (.v (.int .i64 (fa l_))))))
theorem vU:FnOk Tryz.prog 67 ql:=by
 have hG:ConsOk Tryz.prog (mkG [] []):=ay cg0 cg0;refine ba [.o] mixed an hG (fn:=Tryz.f67) (c:=ae Tryz.f67) kr kr kr kr (ef fun l_=>(aG (fun hp=>?_)));dsimp only[aF]at hp;refine⟨nbl rfl,(fun id st=>bif Nat.beq id 0 then some (LCR (ρ:=Int) (σ:=Unit) 0 [] [] (fun k_0 s_0=>⟨[(5,.rs .int l_),(6,.v (.int .i64 (l_.length:Int))),(7,.v (.int .i64 (k_0:Int)))],[]⟩) (pd l_) pT l_.length () (l_.length≤a7) (fun _=>.ret) (fun x_0_0=>⟨[(2,.v (.int .i64 x_0_0))],[]⟩) st)else none),?_,?_⟩
 ·unfold ae Tryz.f67;simp only[am,true_and,and_true]
  ·refine dg mixed an hG kr (fun _=>rfl) (l_.length:Int) rfl iO (fun hb0 k_0 s_0 hlt0 _ hw hc=>⟨L0,ai _,?_⟩) (fun hb0 s_0 hc=>?_)
   ·exact cm (jl [])
   ·exact cn (jl [])
 ·unfold ae Tryz.f67;try unfold fa
  exact zq1
def dN (a:Claim)(b:Claim):Int:=(fa ([(b8 a.hour b.hour),(b8 a.rank b.rank),(b8 a.right b.right),(b8 a.farm b.farm)]))
@[go_sem] def mF:List SV→Option Con:=(pD .claim fun a=>(pD .claim fun b=>(pE (.det True (.v (.int .i64 (dN a b)))))))
theorem pe:FnOk Tryz.prog 35 mF:=by
 have hG:ConsOk Tryz.prog (mkG [(45,fH),(67,fun l=>ql (dH [.sl .int] l))] []):=ay (cgc gq (cgc (vU.norm [.sl .int]) cg0)) cg0;refine ba [.o] mixed an hG (fn:=Tryz.f35) (c:=ae Tryz.f35) kr kr kr kr (aW fun a=>(aW fun b=>(aG (fun hp=>?_))));dsimp only[aF]at hp;refine⟨nbl rfl,L0,ai _,?_⟩
 ·unfold ae Tryz.f35;try unfold dN
  exact zq1
@[go_sem] def lG (a0:District)(a1:List Claim)(k_0:Nat)(s_0:Unit):Unit⊕Unit:=(bif((((!((((((((decide ((a1.getD k_0 (default:Claim)).right≥0))&&(decide ((a1.getD k_0 (default:Claim)).right< (a0.rights.length:Int))))&&(decide ((a1.getD k_0 (default:Claim)).farm≥0)))&&(decide ((a1.getD k_0 (default:Claim)).farm< (a0.farms.length:Int))))&&(decide ((a1.getD k_0 (default:Claim)).hour≥0)))&&(decide ((a1.getD k_0 (default:Claim)).hour<a0.hours)))&&(decide ((a1.getD k_0 (default:Claim)).litres≥1)))&&(decide ((a1.getD k_0 (default:Claim)).litres≤1073741824)))) ||((a0.rights.getD (Int.toNat ((a1.getD k_0 (default:Claim)).right)) (default:Right)).kind !=1)) ||((a0.rights.getD (Int.toNat ((a1.getD k_0 (default:Claim)).right)) (default:Right)).rank !=(a1.getD k_0 (default:Claim)).rank)) ||((decide ((k_0:Int) > 0))&&(decide ((dN (a1.getD (Int.toNat (i64.wrap ((k_0:Int) - 1))) (default:Claim)) (a1.getD k_0 (default:Claim)))≥0))))then .inl ()else .inr ())
def g5 (a0:District)(a1:List Claim)(k_0:Nat)(s_0:Unit):Prop:=(((!((((((((decide ((a1.getD k_0 (default:Claim)).right≥0))&&(decide ((a1.getD k_0 (default:Claim)).right< (a0.rights.length:Int))))&&(decide ((a1.getD k_0 (default:Claim)).farm≥0)))&&(decide ((a1.getD k_0 (default:Claim)).farm< (a0.farms.length:Int))))&&(decide ((a1.getD k_0 (default:Claim)).hour≥0)))&&(decide ((a1.getD k_0 (default:Claim)).hour<a0.hours)))&&(decide ((a1.getD k_0 (default:Claim)).litres≥1)))&&(decide ((a1.getD k_0 (default:Claim)).litres≤1073741824))))=false→(0≤(a1.getD k_0 (default:Claim)).right∧(a1.getD k_0 (default:Claim)).right< (a0.rights.length:Int)))∧((((!((((((((decide ((a1.getD k_0 (default:Claim)).right≥0))&&(decide ((a1.getD k_0 (default:Claim)).right< (a0.rights.length:Int))))&&(decide ((a1.getD k_0 (default:Claim)).farm≥0)))&&(decide ((a1.getD k_0 (default:Claim)).farm< (a0.farms.length:Int))))&&(decide ((a1.getD k_0 (default:Claim)).hour≥0)))&&(decide ((a1.getD k_0 (default:Claim)).hour<a0.hours)))&&(decide ((a1.getD k_0 (default:Claim)).litres≥1)))&&(decide ((a1.getD k_0 (default:Claim)).litres≤1073741824)))) ||((a0.rights.getD (Int.toNat ((a1.getD k_0 (default:Claim)).right)) (default:Right)).kind !=1))=false→(0≤(a1.getD k_0 (default:Claim)).right∧(a1.getD k_0 (default:Claim)).right< (a0.rights.length:Int)))∧((((!((((((((decide ((a1.getD k_0 (default:Claim)).right≥0))&&(decide ((a1.getD k_0 (default:Claim)).right< (a0.rights.length:Int))))&&(decide ((a1.getD k_0 (default:Claim)).farm≥0)))&&(decide ((a1.getD k_0 (default:Claim)).farm< (a0.farms.length:Int))))&&(decide ((a1.getD k_0 (default:Claim)).hour≥0)))&&(decide ((a1.getD k_0 (default:Claim)).hour<a0.hours)))&&(decide ((a1.getD k_0 (default:Claim)).litres≥1)))&&(decide ((a1.getD k_0 (default:Claim)).litres≤1073741824)))) ||((a0.rights.getD (Int.toNat ((a1.getD k_0 (default:Claim)).right)) (default:Right)).kind !=1)) ||((a0.rights.getD (Int.toNat ((a1.getD k_0 (default:Claim)).right)) (default:Right)).rank !=(a1.getD k_0 (default:Claim)).rank))=false→((decide ((k_0:Int) > 0))=true→(0≤(i64.wrap ((k_0:Int) - 1))∧(i64.wrap ((k_0:Int) - 1)) < (a1.length:Int))))))
def jT (a0:District)(a1:List Claim):Int:=(bif((aw a0) !=0)then(aw a0)else(bif(decide ((a1.length:Int) > 4096))then 2 else(match aq (lG a0 a1) a1.length 0 ()with| .inl x_0_0=>260| .inr s_0=>0)))
def fZ (a0:District)(a1:List Claim):Prop:=(((aw a0) !=0)=false→(a1.length≤a7→((decide ((a1.length:Int) > 4096))=false→(a1.length≤a7→okI (lG a0 a1) (g5 a0 a1) a1.length 0 ()))))
@[go_sem] def qm:List SV→Option Con:=(pD .district fun a0=>(pR .claim fun a1=>(pE (.det (fZ a0 a1) (.v (.int .i64 (jT a0 a1)))))))
theorem vV:FnOk Tryz.prog 19 qm:=by
 have hG:ConsOk Tryz.prog (mkG [(34,fun l=>jS (dH [.st .district] l)),(35,mF)] []):=ay (cgc (lF.norm [.st .district]) (cgc pe cg0)) cg0;refine ba [.o] mixed an hG (fn:=Tryz.f19) (c:=ae Tryz.f19) kr kr kr kr (aW fun a0=>(ef fun a1=>(aG (fun hp=>?_))));dsimp only[aF]at hp;unfold fZ at hp;refine⟨nbl rfl,(fun id st=>bif Nat.beq id 0 then some (LCR (ρ:=Unit) (σ:=Unit) 1 [] [0] (fun k_0 s_0=>⟨[(1,.rs .claim a1),(2,.ptr 0 0),(16,.rs .claim a1),(17,.v (.int .i64 (a1.length:Int))),(18,.v (.int .i64 (k_0:Int)))],[.cells (cellsOf .district a0)]⟩) (lG a0 a1) (g5 a0 a1) a1.length () (a1.length≤a7) (fun _=>.ret) (fun x_0_0=>⟨[(4,.v (.int .i64 260))],[.dead]⟩) st)else none),?_,?_⟩
 ·unfold ae Tryz.f19;simp only[am,true_and,and_true]
  ·refine dg mixed an hG kr (fun _=>rfl) (a1.length:Int) rfl iO (fun hb0 k_0 s_0 hlt0 hq0 hw hc=>⟨L0,ai _,?_⟩) (fun hb0 s_0 hc=>?_)
   ·unfold g5 at hq0;try simp only[hw,Int.toNat_natCast]at hq0
    exact cm (jl [0])
   ·exact cn (jl [0])
 ·unfold ae Tryz.f19;try unfold jT
  exact zq1
@[go_sem] def gF (a0:District)(a1:Int)(k_0:Nat)(s_0:List (ClaimsUse×Bool)×List (Int×Int)×List (ClaimsUse×Bool)):Empty⊕(List (ClaimsUse×Bool)×List (Int×Int)×List (ClaimsUse×Bool)):=(bif((decide (a1< (a0.rights.getD k_0 (default:Right)).since)) ||(decide (a1 > (a0.rights.getD k_0 (default:Right)).to)))then .inr (s_0.1,s_0.2.1,s_0.2.2)else(bif((a0.rights.getD k_0 (default:Right)).kind==3)then .inr ((eU .claimsUse .bool s_0.1 ({ farm:=(a0.rights.getD k_0 (default:Right)).farm,reach:=(a0.rights.getD k_0 (default:Right)).reach}:ClaimsUse) true),s_0.2.1,s_0.2.2)else(bif(((a0.rights.getD k_0 (default:Right)).kind==2)&&(!(bF .claimsUse .bool s_0.2.2 ({ farm:=(a0.rights.getD k_0 (default:Right)).farm,reach:=(a0.rights.getD k_0 (default:Right)).reach}:ClaimsUse))))then .inr (s_0.1,(eU .int .int s_0.2.1 ((a0.rights.getD k_0 (default:Right)).reach) (i64.wrap ((bF .int .int s_0.2.1 ((a0.rights.getD k_0 (default:Right)).reach))+1))),(eU .claimsUse .bool s_0.2.2 ({ farm:=(a0.rights.getD k_0 (default:Right)).farm,reach:=(a0.rights.getD k_0 (default:Right)).reach}:ClaimsUse) true))else .inr (s_0.1,s_0.2.1,s_0.2.2))))
def be (a0:District)(a1:Int):ClaimsLaw:=(match aq (gF a0 a1) a0.rights.length 0 ([],[],[])with| .inl x=>x.elim| .inr s_0=>({ owners:=s_0.2.1,owned:=s_0.2.2,eased:=s_0.1}:ClaimsLaw))
@[go_sem] def qn:List SV→Option Con:=(pD .district fun a0=>(pI fun a1=>(pE (.det True (.agg [.nm .int .int ((be a0 a1).owners),.nm .claimsUse .bool ((be a0 a1).owned),.nm .claimsUse .bool ((be a0 a1).eased)])))))
theorem vW:FnOk Tryz.prog 50 qn:=by
 have hG:ConsOk Tryz.prog (mkG [] []):=ay cg0 cg0;refine Et true mixed an hG (fn:=Tryz.f50) (c:=ae Tryz.f50) kr kr kr kr (aW fun a0=>(bY fun a1=>(aG (fun hp=>?_))));dsimp only[aF]at hp;refine⟨nbl rfl,(fun id st=>bif Nat.beq id 0 then some (LCR (ρ:=Empty) (σ:=(List (ClaimsUse×Bool)×List (Int×Int)×List (ClaimsUse×Bool))) 6 [] [0,1,2,3,4,5] (fun k_0 s_0=>⟨[(1,.v (.int .i64 a1)),(4,.ptr 1 0),(5,.ptr 5 0),(14,.rs .right a0.rights),(15,.v (.int .i64 (a0.rights.length:Int))),(16,.v (.int .i64 (k_0:Int)))],[.dead,.cells [.v (.map none),.v (.map none),.v (.map none)],.mp .int .int s_0.2.1 none,.mp .claimsUse .bool s_0.2.2 none,.mp .claimsUse .bool s_0.1 none,.cells [.os 2,.os 3,.os 4]]⟩) (gF a0 a1) pT a0.rights.length ([],[],[]) (a0.rights.length≤a7) ((·.elim)) ((·.elim)) st)else none),?_,?_⟩
 ·unfold ae Tryz.f50;simp only[am,true_and,and_true]
  ·refine dg mixed an hG kr (fun _=>rfl) (a0.rights.length:Int) rfl iO (fun hb0 k_0 s_0 hlt0 _ hw hc=>⟨L0,ai _,?_⟩) (fun hb0 s_0 hc=>?_)
   ·exact cm (jl [0,1,2,3,4,5])
   ·exact cn (jl [0,1,2,3,4,5])
 ·unfold ae Tryz.f50;try unfold be
  exact zq1
def ig (x:ClaimsLaw)(u:ClaimsUse):Bool:=(bif(bF .claimsUse .bool x.owned u)then(((i64.wrap ((bF .int .int x.owners u.reach) - 1)) ==0) ||(bF .claimsUse .bool x.eased u))else(((bF .int .int x.owners u.reach) ==0) ||(bF .claimsUse .bool x.eased u)))
@[go_sem] def oi:List SV→Option Con:=(pD .claimsLaw fun x=>(pD .claimsUse fun u=>(pE (.det True (.v (.bool (ig x u)))))))
theorem tH:FnOk Tryz.prog 54 oi:=by
 have hG:ConsOk Tryz.prog (mkG [] []):=ay cg0 cg0;refine ba [.o] mixed an hG (fn:=Tryz.f54) (c:=ae Tryz.f54) kr kr kr kr (aW fun x=>(aW fun u=>(aG (fun hp=>?_))));dsimp only[aF]at hp;refine⟨nbl rfl,L0,ai _,?_⟩
 ·unfold ae Tryz.f54;try unfold ig
  exact zq1
def l5 (r:Int)(x_:ClaimsLaw)(c_:Claim):Bool:=(!(ig x_ ({ farm:=c_.farm,reach:=r}:ClaimsUse)))
@[go_sem] def qo:List SV→Option Con:=(pI fun r=>(pX .claimsLaw fun x_=>(pX .claim fun c_=>(pE (.det True (.v (.bool (l5 r x_ c_))))))))
theorem vX:FnOk Tryz.prog 53 qo:=by
 have hG:ConsOk Tryz.prog (mkG [(54,fun l=>oi (dH [.st .claimsLaw,.st .claimsUse] l))] []):=ay (cgc (tH.norm [.st .claimsLaw,.st .claimsUse]) cg0) cg0;refine ba [.o] mixed an hG (fn:=Tryz.f53) (c:=ae Tryz.f53) kr kr kr kr (bY fun r=>(qh fun x_=>(qh fun c_=>(aG (fun hp=>?_)))));dsimp only[aF]at hp;refine⟨nbl rfl,L0,ai _,?_⟩
 ·unfold ae Tryz.f53;try unfold l5
  exact zq1
def dO (a:ClaimsFound)(b:ClaimsFound):Int:=(dN a.claim b.claim)
@[go_sem] def qp:List SV→Option Con:=(pD .claimsFound fun a=>(pD .claimsFound fun b=>(pE (.det True (.v (.int .i64 (dO a b)))))))
theorem vY:FnOk Tryz.prog 56 qp:=by
 have hG:ConsOk Tryz.prog (mkG [(35,mF)] []):=ay (cgc pe cg0) cg0;refine ba [.o] mixed an hG (fn:=Tryz.f56) (c:=ae Tryz.f56) kr kr kr kr (aW fun a=>(aW fun b=>(aG (fun hp=>?_))));dsimp only[aF]at hp;refine⟨nbl rfl,L0,ai _,?_⟩
 ·unfold ae Tryz.f56;try unfold dO
  exact zq1
@[go_sem] def dS (s_:List Int)(x_:ClaimsLaw)(c_:Claim)(k_0:Nat)(s_0:Unit):Int⊕Unit:=(bif(l5 (s_.getD k_0 (0:Int)) x_ c_)then .inl (k_0:Int)else .inr ())
def aV (s_:List Int)(x_:ClaimsLaw)(c_:Claim):Int:=(match aq (dS s_ x_ c_) s_.length 0 ()with| .inl x_0_0=>x_0_0| .inr s_0=>(-1))
@[go_sem] def ii:List SV→Option Con:=(pR .int fun s_=>(pFn 53 (pX .claimsLaw fun x_=>(pX .claim fun c_=>(pE ((pE (.det True (.v (.int .i64 (aV s_ x_ c_)))))))))))
theorem l6:FnOk Tryz.prog 52 ii:=by
 have hG:ConsOk Tryz.prog (mkG [(53,qo)] []):=ay (cgc vX cg0) cg0;refine ba [.o] mixed an hG (fn:=Tryz.f52) (c:=ae Tryz.f52) kr kr kr kr (ef fun s_=>(tF (qh fun x_=>(qh fun c_=>(aG ((aG (fun hp=>?_))))))));dsimp only[aF]at hp;refine⟨nbl rfl,(fun id st=>bif Nat.beq id 0 then some (LCR (ρ:=Int) (σ:=Unit) 0 [] [] (fun k_0 s_0=>⟨[(0,.rs .int s_),(1,.fn 53 [] [.ep (cellsOf .claimsLaw x_) 0,.ep (cellsOf .claim c_) 0]),(7,.v (.int .i64 (s_.length:Int))),(8,.v (.int .i64 (k_0:Int)))],[]⟩) (dS s_ x_ c_) pT s_.length () (s_.length≤a7) (fun _=>.ret) (fun x_0_0=>⟨[(4,.v (.int .i64 x_0_0))],[]⟩) st)else none),?_,?_⟩
 ·unfold ae Tryz.f52;simp only[am,true_and,and_true]
  ·refine dg mixed an hG kr (fun _=>rfl) (s_.length:Int) rfl iO (fun hb0 k_0 s_0 hlt0 _ hw hc=>⟨L0,ai _,?_⟩) (fun hb0 s_0 hc=>?_)
   ·exact cm (jl [])
   ·exact cn (jl [])
 ·unfold ae Tryz.f52;try unfold aV
  exact zq1
@[go_sem] noncomputable def dc:List SV→Option Con:=fun l=>(ii l)
theorem lH:FnOk Tryz.prog 52 dc:=l6
theorem cV {l0:List Nat}(a0:JL l0){p:Prop}(h:JL l0→p:=by intro ja;simp only[go_sem,Nat.reduceBEq,Nat.reduceLeDiff,Nat.reduceLT,decide_true,Nat.reduceAdd,Nat.reduceSub,Nat.reduceMul,Int.reduceLE,Int.reduceLT,Int.reduceToNat,Int.reduceNeg,reduceCtorEq];all_goals exact lj ja):p:=h a0
def qY (d:District):Bool:=((((((decide ((d.reaches.length:Int)≤100))&&(decide ((d.farms.length:Int)≤700)))&&(decide ((d.crops.length:Int)≤100)))&&(decide ((d.rights.length:Int)≤300)))&&(decide ((d.duties.length:Int)≤300)))&&(decide ((d.wells.length:Int)≤100)))
@[go_sem] def vn:List SV→Option Con:=(pD .district fun d=>(pE (.det True (.v (.bool (qY d))))))
theorem A4:FnOk Tryz.prog 33 vn:=by
 have hG:ConsOk Tryz.prog (mkG [] []):=ay cg0 cg0;refine ba [.o] mixed an hG (fn:=Tryz.f33) (c:=ae Tryz.f33) kr kr kr kr (aW fun d=>(aG (fun hp=>?_)));dsimp only[aF]at hp;refine⟨nbl rfl,L0,ai _,?_⟩
 ·unfold ae Tryz.f33;try unfold qY
  exact zq1
def aN (n:Int)(lo:Int)(hi:Int):Bool:=((decide (n≥lo))&&(decide (n≤hi)))
@[go_sem] def f9:List SV→Option Con:=(pI fun n=>(pI fun lo=>(pI fun hi=>(pE (.det True (.v (.bool (aN n lo hi))))))))
theorem gG:FnOk Tryz.prog 99 f9:=by
 have hG:ConsOk Tryz.prog (mkG [] []):=ay cg0 cg0;refine ba [.o] mixed an hG (fn:=Tryz.f99) (c:=ae Tryz.f99) kr kr kr kr (bY fun n=>(bY fun lo=>(bY fun hi=>(aG (fun hp=>?_)))));dsimp only[aF]at hp;refine⟨nbl rfl,L0,ai _,?_⟩
 ·unfold ae Tryz.f99;try unfold aN
  exact zq1
@[go_sem] def ff (b:Int)(k_0:Nat)(s_0:Int×Int):Int⊕(Int×Int):=(bif(decide (s_0.2 > 0))then .inr (s_0.2,(Int.tmod s_0.1 s_0.2))else .inl s_0.1)
def jr (b:Int)(k_0:Nat)(s_0:Int×Int):Prop:=((decide (s_0.2 > 0))=true→s_0.2≠0)
def iX (a:Int)(b:Int):Int:=(match aq (ff b) (Int.toNat b+1) 0 (a,b)with| .inl x_0_0=>x_0_0| .inr s_0=>default)
def lI (a:Int)(b:Int):Prop:=(okI (ff b) (jr b) (Int.toNat b+1) 0 (a,b)∧(∀ z_,aq (ff b) (Int.toNat b+1) 0 (a,b)≠ .inr z_))
@[go_sem] def pf:List SV→Option Con:=(pI fun a=>(pI fun b=>(pE (.det (lI a b) (.v (.int .i64 (iX a b)))))))
theorem uI:FnOk Tryz.prog 174 pf:=by
 have hG:ConsOk Tryz.prog (mkG [] []):=ay cg0 cg0;refine ba [.o] mixed an hG (fn:=Tryz.f174) (c:=ae Tryz.f174) kr kr kr kr (bY fun a=>(bY fun b=>(aG (fun hp=>?_))));dsimp only[aF]at hp;unfold lI at hp;refine⟨nbl rfl,(fun id st=>bif Nat.beq id 0 then some (LCV (ρ:=Int) (σ:=(Int×Int)) 0 [] [] (fun k_0 s_0=>⟨[(0,.v (.int .i64 s_0.1)),(1,.v (.int .i64 s_0.2))],[]⟩) (ff b) (jr b) (Int.toNat b+1) (a,b) (fun _=>.normal) (fun x_0_0=>⟨[(0,.v (.int .i64 x_0_0))],[]⟩) st)else none),?_,?_⟩
 ·unfold ae Tryz.f174;simp only[am,true_and,and_true]
  ·refine fu mixed an hG kr (fun _=>rfl) fun k_0 s_0 hq0=>⟨L0,ai _,?_⟩
   ·unfold jr at hq0;exact cV (jl [])
 ·unfold ae Tryz.f174;try unfold iX
  exact zq1
def kw (n:Int):Int:=(bif(decide (n<0))then(i64.wrap (0 - n))else n)
@[go_sem] def tI:List SV→Option Con:=(pI fun n=>(pE (.det True (.v (.int .i64 (kw n))))))
theorem yW:FnOk Tryz.prog 175 tI:=by
 have hG:ConsOk Tryz.prog (mkG [] []):=ay cg0 cg0;refine ba [.o] mixed an hG (fn:=Tryz.f175) (c:=ae Tryz.f175) kr kr kr kr (bY fun n=>(aG (fun hp=>?_)));dsimp only[aF]at hp;refine⟨nbl rfl,L0,ai _,?_⟩
 ·unfold ae Tryz.f175;try unfold kw
  exact zq1
def eH (a:Ratio):Bool:=(((((decide (a.d≥1))&&(decide (a.d≤1073741824)))&&(decide (a.n≥(-1073741824))))&&(decide (a.n≤1073741824)))&&((iX (kw a.n) a.d) ==1))
def iY (a:Ratio):Prop:=(((((decide (a.d≥1))&&(decide (a.d≤1073741824)))&&(decide (a.n≥(-1073741824))))&&(decide (a.n≤1073741824)))=true→(lI (kw a.n) a.d))
@[go_sem] def nG:List SV→Option Con:=(pD .ratio fun a=>(pE (.det (iY a) (.v (.bool (eH a))))))
theorem qq:FnOk Tryz.prog 160 nG:=by
 have hG:ConsOk Tryz.prog (mkG [(174,pf),(175,tI)] []):=ay (cgc uI (cgc yW cg0)) cg0;refine ba [.o] mixed an hG (fn:=Tryz.f160) (c:=ae Tryz.f160) kr kr kr kr (aW fun a=>(aG (fun hp=>?_)));dsimp only[aF]at hp;unfold iY at hp;refine⟨nbl rfl,L0,ai _,?_⟩
 ·unfold ae Tryz.f160;try unfold eH
  exact zq1
def fK (a:Ratio):Int:=(bif(!(eH a))then 120 else 0)
def kM (a:Ratio):Prop:=(iY a)
@[go_sem] def rP:List SV→Option Con:=(pD .ratio fun a=>(pE (.det (kM a) (.v (.int .i64 (fK a))))))
theorem xN:FnOk Tryz.prog 178 rP:=by
 have hG:ConsOk Tryz.prog (mkG [(160,nG)] []):=ay (cgc qq cg0) cg0;refine ba [.o] mixed an hG (fn:=Tryz.f178) (c:=ae Tryz.f178) kr kr kr kr (aW fun a=>(aG (fun hp=>?_)));dsimp only[aF]at hp;unfold kM at hp;refine⟨nbl rfl,L0,ai _,?_⟩
 ·unfold ae Tryz.f178;try unfold fK
  exact zq1
def mG (a:Ratio)(b:Ratio):Bool:=(decide ((i64.wrap (a.n*b.d)) < (i64.wrap (b.n*a.d))))
@[go_sem] def tJ:List SV→Option Con:=(pD .ratio fun a=>(pD .ratio fun b=>(pE (.det True (.v (.bool (mG a b)))))))
theorem yX:FnOk Tryz.prog 184 tJ:=by
 have hG:ConsOk Tryz.prog (mkG [] []):=ay cg0 cg0;refine ba [.o] mixed an hG (fn:=Tryz.f184) (c:=ae Tryz.f184) kr kr kr kr (aW fun a=>(aW fun b=>(aG (fun hp=>?_))));dsimp only[aF]at hp;refine⟨nbl rfl,L0,ai _,?_⟩
 ·unfold ae Tryz.f184;try unfold mG
  exact zq1
def mH (a:Ratio)(b:Ratio):Bool:=((eH a)&&(eH b))
def oT (a:Ratio)(b:Ratio):Prop:=((iY a)∧((eH a)=true→(iY b)))
@[go_sem] def tK:List SV→Option Con:=(pD .ratio fun a=>(pD .ratio fun b=>(pE (.det (oT a b) (.v (.bool (mH a b)))))))
theorem yY:FnOk Tryz.prog 176 tK:=by
 have hG:ConsOk Tryz.prog (mkG [(160,nG)] []):=ay (cgc qq cg0) cg0;refine ba [.o] mixed an hG (fn:=Tryz.f176) (c:=ae Tryz.f176) kr kr kr kr (aW fun a=>(aW fun b=>(aG (fun hp=>?_))));dsimp only[aF]at hp;unfold oT at hp;refine⟨nbl rfl,L0,ai _,?_⟩
 ·unfold ae Tryz.f176;try unfold mH
  exact zq1
def kx (a:Ratio)(b:Ratio):Int×Int:=(bif(!(mH a b))then(0,120)else(bif(mG a b)then((-1),0)else(bif(mG b a)then(1,0)else(0,0))))
def qr (a:Ratio)(b:Ratio):Prop:=(oT a b)
@[go_sem] def vo:List SV→Option Con:=(pD .ratio fun a=>(pD .ratio fun b=>(pE (.det (qr a b) (.tup [.v (.int .i64 ((kx a b).1)),.v (.int .i64 ((kx a b).2))])))))
theorem A5:FnOk Tryz.prog 179 vo:=by
 have hG:ConsOk Tryz.prog (mkG [(176,tK),(184,tJ)] []):=ay (cgc yY (cgc yX cg0)) cg0;refine ba [.o,.o] mixed an hG (fn:=Tryz.f179) (c:=ae Tryz.f179) kr kr kr kr (aW fun a=>(aW fun b=>(aG (fun hp=>?_))));dsimp only[aF]at hp;unfold qr at hp;refine⟨nbl rfl,L0,ai _,?_⟩
 ·unfold ae Tryz.f179;try unfold kx
  exact zq1
def gz (x:Ratio×Ratio):Bool:=(bif(((fK x.1) !=0) ||((fK x.2) !=0))then false else(((decide (x.1.n≥0))&&(decide ((kx x.1 x.2).1≤0)))&&(decide (x.2.n≤x.2.d))))
def mI (x:Ratio×Ratio):Prop:=((kM x.1)∧((((fK x.1) !=0)=false→(kM x.2))∧((((fK x.1) !=0) ||((fK x.2) !=0))=false→(qr x.1 x.2))))
@[go_sem] def qs:List SV→Option Con:=(pD .ratio2 fun x=>(pE (.det (mI x) (.v (.bool (gz x))))))
theorem vZ:FnOk Tryz.prog 164 qs:=by
 have hG:ConsOk Tryz.prog (mkG [(178,rP),(179,vo)] []):=ay (cgc xN (cgc A5 cg0)) cg0;refine ba [.o] mixed an hG (fn:=Tryz.f164) (c:=ae Tryz.f164) kr kr kr kr (aW fun x=>(aG (fun hp=>?_)));dsimp only[aF]at hp;unfold mI at hp;refine⟨nbl rfl,L0,ai _,?_⟩
 ·unfold ae Tryz.f164;try unfold gz
  exact zq1
def qt (x:Reach):Bool:=(bif(((!(aN x.delay 1 16)) ||(!(aN x.cap 0 1073741824))) ||(!(aN x.bank 0 1099511627776)))then false else(bif(((!(aN x.siphon 0 (if x.bank<x.cap then x.bank else x.cap))) ||(!(aN x.evap.lo 0 x.evap.hi))) ||(decide (x.evap.hi > 1073741824)))then false else(gz x.seep)))
def nH (x:Reach):Prop:=((((!(aN x.delay 1 16)) ||(!(aN x.cap 0 1073741824))) ||(!(aN x.bank 0 1099511627776)))=false→((((!(aN x.siphon 0 (if x.bank<x.cap then x.bank else x.cap))) ||(!(aN x.evap.lo 0 x.evap.hi))) ||(decide (x.evap.hi > 1073741824)))=false→(mI x.seep)))
@[go_sem] def rQ:List SV→Option Con:=(pD .reach fun x=>(pE (.det (nH x) (.v (.bool (qt x))))))
theorem xO:FnOk Tryz.prog 137 rQ:=by
 have hG:ConsOk Tryz.prog (mkG [(99,f9),(164,qs)] []):=ay (cgc gG (cgc vZ cg0)) cg0;refine ba [.o] mixed an hG (fn:=Tryz.f137) (c:=ae Tryz.f137) kr kr kr kr (aW fun x=>(aG (fun hp=>?_)));dsimp only[aF]at hp;unfold nH at hp;refine⟨nbl rfl,L0,ai _,?_⟩
 ·unfold ae Tryz.f137;try unfold qt
  exact zq1
@[go_sem] def ky (l_:List Reach)(k_0:Nat)(s_0:Unit):Unit⊕Unit:=(bif((((k_0:Int) ==0)&&((l_.getD k_0 (default:Reach)).up !=(-1))) ||((decide ((k_0:Int) > 0))&&(!(aN ((l_.getD k_0 (default:Reach)).up) 0 (i64.wrap ((k_0:Int) - 1))))))then .inl ()else(bif(!(qt (l_.getD k_0 (default:Reach))))then .inl ()else .inr ()))
def jt (l_:List Reach)(k_0:Nat)(s_0:Unit):Prop:=(l_.length≤a7→(((((k_0:Int) ==0)&&((l_.getD k_0 (default:Reach)).up !=(-1))) ||((decide ((k_0:Int) > 0))&&(!(aN ((l_.getD k_0 (default:Reach)).up) 0 (i64.wrap ((k_0:Int) - 1))))))=false→(nH (l_.getD k_0 (default:Reach)))))
def nI (l_:List Reach):Bool:=(match aq (ky l_) l_.length 0 ()with| .inl x_0_0=>false| .inr s_0=>(decide ((l_.length:Int) > 0)))
def lJ (l_:List Reach):Prop:=okI (ky l_) (jt l_) l_.length 0 ()
@[go_sem] def pg:List SV→Option Con:=(pR .reach fun l_=>(pE (.det (lJ l_) (.v (.bool (nI l_))))))
theorem uJ:FnOk Tryz.prog 100 pg:=by
 have hG:ConsOk Tryz.prog (mkG [(99,f9),(137,rQ)] []):=ay (cgc gG (cgc xO cg0)) cg0;refine ba [.o] mixed an hG (fn:=Tryz.f100) (c:=ae Tryz.f100) kr kr kr kr (ef fun l_=>(aG (fun hp=>?_)));dsimp only[aF]at hp;unfold lJ at hp;refine⟨nbl rfl,(fun id st=>bif Nat.beq id 0 then some (LCR (ρ:=Unit) (σ:=Unit) 0 [] [] (fun k_0 s_0=>⟨[(0,.rs .reach l_),(3,.v (.int .i64 (k_0:Int)))],[]⟩) (ky l_) (jt l_) l_.length () (True) (fun _=>.ret) (fun x_0_0=>⟨[(2,.v (.bool false))],[]⟩) st)else none),?_,?_⟩
 ·unfold ae Tryz.f100;simp only[am,true_and,and_true]
  ·refine jP (l_.length≤a7) mixed an hG kr (fun _=>rfl) (l_.length:Int) rfl iO (fun hb0 k_0 s_0 hlt0 hq0 hw hc=>⟨L0,ai _,?_⟩) (fun hb0 s_0 hc=>?_) fun hb0 k_0 s_0=>?_
   ·unfold jt at hq0;try simp only[hw,Int.toNat_natCast]at hq0
    exact cm (jl [])
   ·exact cn (jl [])
   ·exact zq7
 ·unfold ae Tryz.f100;try unfold nI
  exact zq1
@[go_sem] def qu (a0:District)(k_0:Nat)(s_0:Unit):Unit⊕Unit:=(bif(!(aN ((a0.crops.getD k_0 (default:Crop)).need) 0 1048576))then .inl ()else .inr ())
@[go_sem] def qv (a0:District)(k_1:Nat)(s_1:Unit):Unit⊕Unit:=(bif((!(aN ((a0.farms.getD k_1 (default:Farm)).reach) 0 (i64.wrap ((a0.reaches.length:Int) - 1)))) ||(!(aN ((a0.farms.getD k_1 (default:Farm)).area) 0 1048576)))then .inl ()else(bif((((a0.farms.getD k_1 (default:Farm)).area==0)&&((a0.farms.getD k_1 (default:Farm)).crop !=(-1))) ||((decide ((a0.farms.getD k_1 (default:Farm)).area > 0))&&(!(aN ((a0.farms.getD k_1 (default:Farm)).crop) 0 (i64.wrap ((a0.crops.length:Int) - 1))))))then .inl ()else .inr ()))
def qw (a0:District):Bool:=(match aq (qu a0) a0.crops.length 0 ()with| .inl x_0_0=>false| .inr s_0=>(match aq (qv a0) a0.farms.length 0 ()with| .inl x_1_0=>false| .inr s_1=>true))
@[go_sem] def rR:List SV→Option Con:=(pD .district fun a0=>(pE (.det True (.v (.bool (qw a0))))))
theorem Ub {p:Prop}(h:p:=by simp only[go_sem,Nat.reduceBEq,Nat.reduceLeDiff,Nat.reduceLT,decide_true,Nat.reduceAdd,Nat.reduceSub,Nat.reduceMul,Int.reduceLE,Int.reduceLT,Int.reduceToNat,Int.reduceNeg,reduceCtorEq,hb1]):p:=h
theorem xP:FnOk Tryz.prog 101 rR:=by
 have hG:ConsOk Tryz.prog (mkG [(99,f9)] []):=ay (cgc gG cg0) cg0;refine ba [.o] mixed an hG (fn:=Tryz.f101) (c:=ae Tryz.f101) kr kr kr kr (aW fun a0=>(aG (fun hp=>?_)));dsimp only[aF]at hp;refine⟨nbl rfl,(fun id st=>bif Nat.beq id 0 then some (LCR (ρ:=Unit) (σ:=Unit) 1 [] [0] (fun k_0 s_0=>⟨[(1,.ptr 0 0),(3,.v (.int .i64 (k_0:Int)))],[.cells (cellsOf .district a0)]⟩) (qu a0) pT a0.crops.length () (True) (fun _=>.ret) (fun x_0_0=>⟨[(2,.v (.bool false))],[.dead]⟩) st)else bif Nat.beq id 2 then some (LCR (ρ:=Unit) (σ:=Unit) 1 [] [0] (fun k_1 s_1=>⟨[(1,.ptr 0 0),(4,.v (.int .i64 (k_1:Int)))],[.cells (cellsOf .district a0)]⟩) (qv a0) pT a0.farms.length () (True) (fun _=>.ret) (fun x_1_0=>⟨[(2,.v (.bool false))],[.dead]⟩) st)else none),?_,?_⟩
 ·unfold ae Tryz.f101;simp only[am,true_and,and_true];refine⟨?_,?_⟩
  ·refine jP (a0.crops.length≤a7) mixed an hG kr (fun _=>rfl) (a0.crops.length:Int) rfl iO (fun hb0 k_0 s_0 hlt0 _ hw hc=>⟨L0,ai _,?_⟩) (fun hb0 s_0 hc=>?_) fun hb0 k_0 s_0=>?_
   ·exact cm (jl [0])
   ·exact cn (jl [0])
   ·exact zq7
  ·refine jP (a0.farms.length≤a7) mixed an hG kr (fun _=>rfl) (a0.farms.length:Int) rfl iO (fun hb1 k_1 s_1 hlt1 _ hw hc=>⟨L0,ai _,?_⟩) (fun hb1 s_1 hc=>?_) fun hb1 k_1 s_1=>?_
   ·exact cm (jl [0])
   ·exact cn (jl [0])
   ·exact Ub
 ·unfold ae Tryz.f101;try unfold qw
  exact zq1
def qx (a0:District)(a1:Right):Bool:=(bif((((!(aN a1.farm 0 (i64.wrap ((a0.farms.length:Int) - 1)))) ||(!(aN a1.reach 0 (i64.wrap ((a0.reaches.length:Int) - 1))))) ||(!(aN a1.since 0 a1.to))) ||(decide (a1.to≥a0.hours)))then false else(bif(a1.kind==1)then(((((a1.reach==0)&&(aN a1.rank 0 1048576))&&(aN a1.litres 1 1073741824))&&(aN a1.length 1 a1.every))&&(decide (a1.every≤a0.hours)))else(bif(a1.kind==2)then((((((a1.rank==0)&&(a1.litres==0))&&(a1.every==0))&&(a1.length==0))&&(a1.since==0))&&(a1.to==(i64.wrap (a0.hours - 1))))else(bif(a1.kind==3)then((((a1.rank==0)&&(a1.litres==0))&&(a1.every==0))&&(a1.length==0))else false))))
@[go_sem] def rS:List SV→Option Con:=(pD .district fun a0=>(pD .right fun a1=>(pE (.det True (.v (.bool (qx a0 a1)))))))
theorem xQ:FnOk Tryz.prog 102 rS:=by
 have hG:ConsOk Tryz.prog (mkG [(99,f9)] []):=ay (cgc gG cg0) cg0;refine ba [.o] mixed an hG (fn:=Tryz.f102) (c:=ae Tryz.f102) kr kr kr kr (aW fun a0=>(aW fun a1=>(aG (fun hp=>?_))));dsimp only[aF]at hp;refine⟨nbl rfl,L0,ai _,?_⟩
 ·unfold ae Tryz.f102;try unfold qx
  exact zq1
@[go_sem] def qy (a0:District)(k_0:Nat)(s_0:Unit):Unit⊕Unit:=(bif(!(qx a0 (a0.rights.getD k_0 (default:Right))))then .inl ()else .inr ())
@[go_sem] def qz (a0:District)(k_1:Nat)(s_1:Unit):Unit⊕Unit:=(bif(((!(aN ((a0.duties.getD k_1 (default:Duty)).farm) 0 (i64.wrap ((a0.farms.length:Int) - 1)))) ||(!(aN ((a0.duties.getD k_1 (default:Duty)).reach) 0 (i64.wrap ((a0.reaches.length:Int) - 1))))) ||(!(aN ((a0.duties.getD k_1 (default:Duty)).due) 0 a0.hours)))then .inl ()else .inr ())
def qA (a0:District):Bool:=(bif(((!(aN a0.hours 1 4096)) ||(!(aN a0.tank.start 0 a0.tank.cap))) ||(decide (a0.tank.cap > 1099511627776)))then false else(bif((!(nI a0.reaches)) ||(!(qw a0)))then false else(match aq (qy a0) a0.rights.length 0 ()with| .inl x_0_0=>false| .inr s_0=>(match aq (qz a0) a0.duties.length 0 ()with| .inl x_1_0=>false| .inr s_1=>true))))
def nJ (a0:District):Prop:=((((!(aN a0.hours 1 4096)) ||(!(aN a0.tank.start 0 a0.tank.cap))) ||(decide (a0.tank.cap > 1099511627776)))=false→(lJ a0.reaches))
@[go_sem] def rT:List SV→Option Con:=(pD .district fun a0=>(pE (.det (nJ a0) (.v (.bool (qA a0))))))
theorem xR:FnOk Tryz.prog 68 rT:=by
 have hG:ConsOk Tryz.prog (mkG [(99,f9),(100,fun l=>pg (dH [.sl .reach] l)),(101,fun l=>rR (dH [.st .district] l)),(102,fun l=>rS (dH [.st .district,.st .right] l))] []):=ay (cgc gG (cgc (uJ.norm [.sl .reach]) (cgc (xP.norm [.st .district]) (cgc (xQ.norm [.st .district,.st .right]) cg0)))) cg0;refine ba [.o] mixed an hG (fn:=Tryz.f68) (c:=ae Tryz.f68) kr kr kr kr (aW fun a0=>(aG (fun hp=>?_)));dsimp only[aF]at hp;unfold nJ at hp;refine⟨nbl rfl,(fun id st=>bif Nat.beq id 0 then some (LCR (ρ:=Unit) (σ:=Unit) 1 [] [0] (fun k_0 s_0=>⟨[(1,.ptr 0 0),(3,.v (.int .i64 (k_0:Int)))],[.cells (cellsOf .district a0)]⟩) (qy a0) pT a0.rights.length () (True) (fun _=>.ret) (fun x_0_0=>⟨[(2,.v (.bool false))],[.dead]⟩) st)else bif Nat.beq id 2 then some (LCR (ρ:=Unit) (σ:=Unit) 1 [] [0] (fun k_1 s_1=>⟨[(1,.ptr 0 0),(4,.v (.int .i64 (k_1:Int)))],[.cells (cellsOf .district a0)]⟩) (qz a0) pT a0.duties.length () (True) (fun _=>.ret) (fun x_1_0=>⟨[(2,.v (.bool false))],[.dead]⟩) st)else none),?_,?_⟩
 ·unfold ae Tryz.f68;simp only[am,true_and,and_true];refine⟨?_,?_⟩
  ·refine jP (a0.rights.length≤a7) mixed an hG kr (fun _=>rfl) (a0.rights.length:Int) rfl iO (fun hb0 k_0 s_0 hlt0 _ hw hc=>⟨L0,ai _,?_⟩) (fun hb0 s_0 hc=>?_) fun hb0 k_0 s_0=>?_
   ·exact cm (jl [0])
   ·exact cn (jl [0])
   ·exact zq7
  ·refine jP (a0.duties.length≤a7) mixed an hG kr (fun _=>rfl) (a0.duties.length:Int) rfl iO (fun hb1 k_1 s_1 hlt1 _ hw hc=>⟨L0,ai _,?_⟩) (fun hb1 s_1 hc=>?_) fun hb1 k_1 s_1=>?_
   ·exact cm (jl [0])
   ·exact cn (jl [0])
   ·exact Ub
 ·unfold ae Tryz.f68;try unfold qA
  exact zq1
def ll (d:District):Int:=(bif(((((decide ((d.reaches.length:Int) > 64)) ||(decide ((d.farms.length:Int) > 600))) ||(decide ((d.crops.length:Int) > 32))) ||(decide ((d.rights.length:Int) > 256))) ||(decide ((d.duties.length:Int) > 256)))then 2 else(bif(!(qA d))then 191 else 0))
def nK (d:District):Prop:=(d.reaches.length≤a7→((((((decide ((d.reaches.length:Int) > 64)) ||(decide ((d.farms.length:Int) > 600))) ||(decide ((d.crops.length:Int) > 32))) ||(decide ((d.rights.length:Int) > 256))) ||(decide ((d.duties.length:Int) > 256)))=false→(nJ d)))
@[go_sem] def rU:List SV→Option Con:=(pD .district fun d=>(pE (.det (nK d) (.v (.int .i64 (ll d))))))
theorem xS:FnOk Tryz.prog 36 rU:=by
 have hG:ConsOk Tryz.prog (mkG [(68,fun l=>rT (dH [.st .district] l))] []):=ay (cgc (xR.norm [.st .district]) cg0) cg0;refine ba [.o] mixed an hG (fn:=Tryz.f36) (c:=ae Tryz.f36) kr kr kr kr (aW fun d=>(aG (fun hp=>?_)));dsimp only[aF]at hp;unfold nK at hp;refine⟨nbl rfl,L0,ai _,?_⟩
 ·unfold ae Tryz.f36;try unfold ll
  exact zq1


@[go_sem] def tL (l_:List Deed)(k_0:Nat)(s_0:Unit):Unit⊕Unit:=(bif(decide ((((l_.getD k_0 (default:Deed)).parts).length:Int) > 100))then .inl ()else .inr ())
def uK (d:District)(l_:List Deed):Bool:=(bif((decide ((l_.length:Int) > 512))&&(decide ((l_.length:Int)≤700)))then(qY d)else(bif((((decide ((l_.length:Int) > 60)) ||(!(qY d))) ||((decide ((d.rights.length:Int) > 40))&&(decide ((d.rights.length:Int)≤256)))) ||((decide ((d.farms.length:Int) > 60))&&(decide ((d.farms.length:Int)≤600))))then false else(match aq (tL l_) l_.length 0 ()with| .inl x_0_0=>false| .inr s_0=>true)))
@[go_sem] def vp:List SV→Option Con:=(pD .district fun d=>(pR .deed fun l_=>(pE (.det True (.v (.bool (uK d l_)))))))
theorem A6:FnOk Tryz.prog 28 vp:=by
 have hG:ConsOk Tryz.prog (mkG [(33,fun l=>vn (dH [.st .district] l))] []):=ay (cgc (A4.norm [.st .district]) cg0) cg0;refine ba [.o] mixed an hG (fn:=Tryz.f28) (c:=ae Tryz.f28) kr kr kr kr (aW fun d=>(ef fun l_=>(aG (fun hp=>?_))));dsimp only[aF]at hp;refine⟨nbl rfl,(fun id st=>bif Nat.beq id 0 then some (LCR (ρ:=Unit) (σ:=Unit) 1 [] [0] (fun k_0 s_0=>⟨[(1,.rs .deed l_),(5,.v (.int .i64 (k_0:Int)))],[.dead]⟩) (tL l_) pT l_.length () (True) (fun _=>.ret) (fun x_0_0=>⟨[(4,.v (.bool false))],[.dead]⟩) st)else none),?_,?_⟩
 ·unfold ae Tryz.f28;simp only[am,true_and,and_true]
  ·refine jP (l_.length≤a7) mixed an hG kr (fun _=>rfl) (l_.length:Int) rfl iO (fun hb0 k_0 s_0 hlt0 _ hw hc=>⟨L0,ai _,?_⟩) (fun hb0 s_0 hc=>?_) fun hb0 k_0 s_0=>?_
   ·exact cm (jl [0])
   ·exact cn (jl [0])
   ·exact zq7
 ·unfold ae Tryz.f28;try unfold uK
  exact zq1
def nk (a0:District)(a1:Claim):Bool:=(bif((((((((decide (a1.right<0)) ||(decide (a1.right≥(a0.rights.length:Int)))) ||(decide (a1.farm<0))) ||(decide (a1.farm≥(a0.farms.length:Int)))) ||(decide (a1.hour<0))) ||(decide (a1.hour≥a0.hours))) ||(decide (a1.litres<1))) ||(decide (a1.litres > 1073741824)))then false else(((a0.rights.getD (Int.toNat a1.right) (default:Right)).kind==1)&&((a0.rights.getD (Int.toNat a1.right) (default:Right)).rank==a1.rank)))
def nL (a0:District)(a1:Claim):Prop:=(((((((((decide (a1.right<0)) ||(decide (a1.right≥(a0.rights.length:Int)))) ||(decide (a1.farm<0))) ||(decide (a1.farm≥(a0.farms.length:Int)))) ||(decide (a1.hour<0))) ||(decide (a1.hour≥a0.hours))) ||(decide (a1.litres<1))) ||(decide (a1.litres > 1073741824)))=false→((0≤a1.right∧a1.right< (a0.rights.length:Int))∧(((a0.rights.getD (Int.toNat a1.right) (default:Right)).kind==1)=true→(0≤a1.right∧a1.right< (a0.rights.length:Int)))))
@[go_sem] def rV:List SV→Option Con:=(pD .district fun a0=>(pD .claim fun a1=>(pE (.det (nL a0 a1) (.v (.bool (nk a0 a1)))))))
theorem xT:FnOk Tryz.prog 37 rV:=by
 have hG:ConsOk Tryz.prog (mkG [] []):=ay cg0 cg0;refine ba [.o] mixed an hG (fn:=Tryz.f37) (c:=ae Tryz.f37) kr kr kr kr (aW fun a0=>(aW fun a1=>(aG (fun hp=>?_))));dsimp only[aF]at hp;unfold nL at hp;refine⟨nbl rfl,L0,ai _,?_⟩
 ·unfold ae Tryz.f37;try unfold nk
  exact zq1
def oU (a:Claim)(b:Claim):Bool:=(bif(a.hour !=b.hour)then(decide (a.hour<b.hour))else(bif(a.rank !=b.rank)then(decide (a.rank<b.rank))else(bif(a.right !=b.right)then(decide (a.right<b.right))else(decide (a.farm<b.farm)))))
@[go_sem] def qB:List SV→Option Con:=(pD .claim fun a=>(pD .claim fun b=>(pE (.det True (.v (.bool (oU a b)))))))
theorem v7:FnOk Tryz.prog 38 qB:=by
 have hG:ConsOk Tryz.prog (mkG [] []):=ay cg0 cg0;refine ba [.o] mixed an hG (fn:=Tryz.f38) (c:=ae Tryz.f38) kr kr kr kr (aW fun a=>(aW fun b=>(aG (fun hp=>?_))));dsimp only[aF]at hp;refine⟨nbl rfl,L0,ai _,?_⟩
 ·unfold ae Tryz.f38;try unfold oU
  exact zq1
@[go_sem] def mJ (d:District)(c:List Claim)(k_0:Nat)(s_0:Unit):Unit⊕Unit:=(bif((!(nk d (c.getD k_0 (default:Claim)))) ||((decide ((k_0:Int) > 0))&&(!(oU (c.getD (Int.toNat (i64.wrap ((k_0:Int) - 1))) (default:Claim)) (c.getD k_0 (default:Claim))))))then .inl ()else .inr ())
def kz (d:District)(c:List Claim)(k_0:Nat)(s_0:Unit):Prop:=(c.length≤a7→((nL d (c.getD k_0 (default:Claim)))∧((!(nk d (c.getD k_0 (default:Claim))))=false→((decide ((k_0:Int) > 0))=true→(0≤(i64.wrap ((k_0:Int) - 1))∧(i64.wrap ((k_0:Int) - 1)) < (c.length:Int))))))
def vr (d:District)(c:List Claim):Int:=(bif((ll d) !=0)then(ll d)else(bif(decide ((c.length:Int) > 4096))then 2 else(match aq (mJ d c) c.length 0 ()with| .inl x_0_0=>260| .inr s_0=>0)))
def rW (d:District)(c:List Claim):Prop:=((nK d)∧(((ll d) !=0)=false→(c.length≤a7→((decide ((c.length:Int) > 4096))=false→okI (mJ d c) (kz d c) c.length 0 ()))))
@[go_sem] def yZ:List SV→Option Con:=(pD .district fun d=>(pR .claim fun c=>(pE (.det (rW d c) (.v (.int .i64 (vr d c)))))))
theorem JO:FnOk Tryz.prog 20 yZ:=by
 have hG:ConsOk Tryz.prog (mkG [(36,fun l=>rU (dH [.st .district] l)),(37,fun l=>rV (dH [.st .district,.st .claim] l)),(38,qB)] []):=ay (cgc (xS.norm [.st .district]) (cgc (xT.norm [.st .district,.st .claim]) (cgc v7 cg0))) cg0;refine ba [.o] mixed an hG (fn:=Tryz.f20) (c:=ae Tryz.f20) kr kr kr kr (aW fun d=>(ef fun c=>(aG (fun hp=>?_))));dsimp only[aF]at hp;unfold rW at hp;refine⟨nbl rfl,(fun id st=>bif Nat.beq id 0 then some (LCR (ρ:=Unit) (σ:=Unit) 1 [] [0] (fun k_0 s_0=>⟨[(1,.rs .claim c),(2,.ptr 0 0),(6,.v (.int .i64 (k_0:Int)))],[.cells (cellsOf .district d)]⟩) (mJ d c) (kz d c) c.length () (True) (fun _=>.ret) (fun x_0_0=>⟨[(4,.v (.int .i64 260))],[.dead]⟩) st)else none),?_,?_⟩
 ·unfold ae Tryz.f20;simp only[am,true_and,and_true]
  ·refine jP (c.length≤a7) mixed an hG kr (fun _=>rfl) (c.length:Int) rfl iO (fun hb0 k_0 s_0 hlt0 hq0 hw hc=>⟨L0,ai _,?_⟩) (fun hb0 s_0 hc=>?_) fun hb0 k_0 s_0=>?_
   ·unfold kz at hq0;try simp only[hw,Int.toNat_natCast]at hq0
    exact cm (jl [0])
   ·exact cn (jl [0])
   ·exact zq7
 ·unfold ae Tryz.f20;try unfold vr
  exact zq1
@[go_sem] def iZ (a:List Claim)(b:List Claim)(k_0:Nat)(s_0:Unit):Unit⊕Unit:=(bif(!(((a.getD k_0 (default:Claim)).right==(b.getD k_0 (default:Claim)).right)&&(((a.getD k_0 (default:Claim)).farm==(b.getD k_0 (default:Claim)).farm)&&(((a.getD k_0 (default:Claim)).hour==(b.getD k_0 (default:Claim)).hour)&&(((a.getD k_0 (default:Claim)).litres==(b.getD k_0 (default:Claim)).litres)&&((a.getD k_0 (default:Claim)).rank==(b.getD k_0 (default:Claim)).rank))))))then .inl ()else .inr ())
def lK (a:List Claim)(b:List Claim)(k_0:Nat)(s_0:Unit):Prop:=(a.length≤a7→(0≤(k_0:Int)∧(k_0:Int) < (b.length:Int)))
def mK (a:List Claim)(b:List Claim):Bool:=(bif((a.length:Int) !=(b.length:Int))then false else(match aq (iZ a b) a.length 0 ()with| .inl x_0_0=>false| .inr s_0=>true))
def l7 (a:List Claim)(b:List Claim):Prop:=(a.length≤a7→(b.length≤a7→(((a.length:Int) !=(b.length:Int))=false→okI (iZ a b) (lK a b) a.length 0 ())))
@[go_sem] def tM:List SV→Option Con:=(pR .claim fun a=>(pR .claim fun b=>(pE (.det (l7 a b) (.v (.bool (mK a b)))))))
theorem y3:FnOk Tryz.prog 16 tM:=by
 have hG:ConsOk Tryz.prog (mkG [] []):=ay cg0 cg0;refine ba [.o] mixed an hG (fn:=Tryz.f16) (c:=ae Tryz.f16) kr kr kr kr (ef fun a=>(ef fun b=>(aG (fun hp=>?_))));dsimp only[aF]at hp;unfold l7 at hp;refine⟨nbl rfl,(fun id st=>bif Nat.beq id 0 then some (LCR (ρ:=Unit) (σ:=Unit) 0 [] [] (fun k_0 s_0=>⟨[(0,.rs .claim a),(1,.rs .claim b),(5,.v (.int .i64 (k_0:Int)))],[]⟩) (iZ a b) (lK a b) a.length () (True) (fun _=>.ret) (fun x_0_0=>⟨[(4,.v (.bool false))],[]⟩) st)else none),?_,?_⟩
 ·unfold ae Tryz.f16;simp only[am,true_and,and_true]
  ·refine jP (a.length≤a7) mixed an hG kr (fun _=>rfl) (a.length:Int) rfl iO (fun hb0 k_0 s_0 hlt0 hq0 hw hc=>⟨L0,ai _,?_⟩) (fun hb0 s_0 hc=>?_) fun hb0 k_0 s_0=>?_
   ·unfold lK at hq0;try simp only[hw,Int.toNat_natCast]at hq0
    exact cm (jl [])
   ·exact cn (jl [])
   ·exact zq7
 ·unfold ae Tryz.f16;try unfold mK
  exact zq1
@[go_sem] def eY (a:List Block)(b:List Block)(k_0:Nat)(s_0:Unit):Unit⊕Unit:=(bif(!(((a.getD k_0 (default:Block)).right==(b.getD k_0 (default:Block)).right)&&(((a.getD k_0 (default:Block)).farm==(b.getD k_0 (default:Block)).farm)&&(((a.getD k_0 (default:Block)).hour==(b.getD k_0 (default:Block)).hour)&&((a.getD k_0 (default:Block)).reach==(b.getD k_0 (default:Block)).reach)))))then .inl ()else .inr ())
def gQ (a:List Block)(b:List Block)(k_0:Nat)(s_0:Unit):Prop:=(a.length≤a7→(0≤(k_0:Int)∧(k_0:Int) < (b.length:Int)))
def fg (a:List Block)(b:List Block):Bool:=(bif((a.length:Int) !=(b.length:Int))then false else(match aq (eY a b) a.length 0 ()with| .inl x_0_0=>false| .inr s_0=>true))
def fv (a:List Block)(b:List Block):Prop:=(a.length≤a7→(b.length≤a7→(((a.length:Int) !=(b.length:Int))=false→okI (eY a b) (gQ a b) a.length 0 ())))
@[go_sem] def mL:List SV→Option Con:=(pR .block fun a=>(pR .block fun b=>(pE (.det (fv a b) (.v (.bool (fg a b)))))))
theorem rt:FnOk Tryz.prog 17 mL:=by
 have hG:ConsOk Tryz.prog (mkG [] []):=ay cg0 cg0;refine ba [.o] mixed an hG (fn:=Tryz.f17) (c:=ae Tryz.f17) kr kr kr kr (ef fun a=>(ef fun b=>(aG (fun hp=>?_))));dsimp only[aF]at hp;unfold fv at hp;refine⟨nbl rfl,(fun id st=>bif Nat.beq id 0 then some (LCR (ρ:=Unit) (σ:=Unit) 0 [] [] (fun k_0 s_0=>⟨[(0,.rs .block a),(1,.rs .block b),(5,.v (.int .i64 (k_0:Int)))],[]⟩) (eY a b) (gQ a b) a.length () (True) (fun _=>.ret) (fun x_0_0=>⟨[(4,.v (.bool false))],[]⟩) st)else none),?_,?_⟩
 ·unfold ae Tryz.f17;simp only[am,true_and,and_true]
  ·refine jP (a.length≤a7) mixed an hG kr (fun _=>rfl) (a.length:Int) rfl iO (fun hb0 k_0 s_0 hlt0 hq0 hw hc=>⟨L0,ai _,?_⟩) (fun hb0 s_0 hc=>?_) fun hb0 k_0 s_0=>?_
   ·unfold gQ at hq0;try simp only[hw,Int.toNat_natCast]at hq0
    exact cm (jl [])
   ·exact cn (jl [])
   ·exact zq7
 ·unfold ae Tryz.f17;try unfold fg
  exact zq1
def kA (d:District)(l_:List Deed)(fr:Int)(to:Int):Bool:=(bif((!(uK d l_)) ||((decide ((d.rights.length:Int) > 40))&&(decide ((d.rights.length:Int)≤256))))then false else(((((decide (fr<0)) ||(decide (fr > to))) ||(decide (to≥d.hours))) ||(decide (d.hours > 4096))) ||(decide ((i64.wrap (to - fr)) <60))))
@[go_sem] def vt:List SV→Option Con:=(pD .district fun d=>(pR .deed fun l_=>(pI fun fr=>(pI fun to=>(pE (.det True (.v (.bool (kA d l_ fr to)))))))))
theorem A7:FnOk Tryz.prog 11 vt:=by
 have hG:ConsOk Tryz.prog (mkG [(28,fun l=>vp (dH [.st .district,.sl .deed] l))] []):=ay (cgc (A6.norm [.st .district,.sl .deed]) cg0) cg0;refine ba [.o] mixed an hG (fn:=Tryz.f11) (c:=ae Tryz.f11) kr kr kr kr (aW fun d=>(ef fun l_=>(bY fun fr=>(bY fun to=>(aG (fun hp=>?_))))));dsimp only[aF]at hp;refine⟨nbl rfl,L0,ai _,?_⟩
 ·unfold ae Tryz.f11;try unfold kA
  exact zq1
def bq (x:Right)(kind:Int)(farm:Int)(reach:Int)(hour:Int):Bool:=(((((x.kind==kind)&&(x.farm==farm))&&(x.reach==reach))&&(decide (x.since≤hour)))&&(decide (hour≤x.to)))
@[go_sem] def qC (d:District)(farm:Int)(reach:Int)(hour:Int)(k_0:Nat)(s_0:Unit):Unit⊕Unit:=(bif(bq (d.rights.getD k_0 (default:Right)) 3 farm reach hour)then .inl ()else .inr ())
def nq (d:District)(farm:Int)(reach:Int)(hour:Int):Bool:=(match aq (qC d farm reach hour) d.rights.length 0 ()with| .inl x_0_0=>true| .inr s_0=>false)
@[go_sem] def tN (d:District)(farm:Int)(reach:Int)(hour:Int)(k_0:Nat)(s_0:Unit):Unit⊕Unit:=(bif(((d.rights.getD k_0 (default:Right)).farm !=farm)&&(bq (d.rights.getD k_0 (default:Right)) 2 ((d.rights.getD k_0 (default:Right)).farm) reach hour))then .inl ()else .inr ())
def ev (d:District)(farm:Int)(reach:Int)(hour:Int):Bool:=(match aq (tN d farm reach hour) d.rights.length 0 ()with| .inl x_0_0=>(nq d farm reach hour) | .inr s_0=>true)
end Go.Sx
end
section
namespace Go.Sx
open Go.RowKit
open IntKind (i64)
abbrev RF:= { r:Nat→Res // ∀ k,(r k).n=k}
def Hv (items:List (List SV))(r:RF):List SV→Res→Option YCon:=itY items r.1
@[go_sem] theorem VS {items:List (List SV)}{r:RF}{k:Nat}{args:List SV}:Hv items r args (r.1 (k+1))=some (Cy (items[k]? =some args) r.1 (k+2)):=Ey r.2 k args
section
variable {ρ σ:Type}
def lcy (pre:Prop)(run:ρ⊕σ)(exE:ρ→Ex)(outE:ρ→St)(outN:σ→St)(stp:St):LCon where
 α:=Option (ρ⊕σ)
 pre:=pre
 post:=fun|none=>True|some r=>r=run
 ex:=fun|none=>.ret|some (.inl x) =>exE x|some (.inr _) =>.normal
 out:=fun|none=>stp|some (.inl x) =>outE x|some (.inr s) =>outN s
def LCY (m:Nat)(ns:List NLoc)(js:List Nat)(D:Nat→σ→St)(step:Nat→σ→ρ⊕σ)(p:Nat→σ→Prop)(n:Nat)(s0:σ)(B:Prop)(exE:ρ→Ex)(outE:ρ→St)(stp:St)(st:St):LCon:=
 lcy (mC m ns js st (D 0 s0)∧B∧okI step p n 0 s0) (aq step n 0 s0) exE outE (D n) stp
variable {m:Nat}{ns:List NLoc}{js:List Nat}{step:Nat→σ→ρ⊕σ}{p:Nat→σ→Prop}{n:Nat}{s0:σ}{B:Prop}{exE:ρ→Ex}{outE:ρ→St}{stp st:St}{Q:Ex→St→Prop}{D:Nat→σ→St}
theorem Hw {pre:Prop}{run:ρ⊕σ}{outN:σ→St}:lR Q (some (lcy pre run exE outE outN stp))=(pre∧(∀ x,run=.inl x→Q (exE x) (outE x))∧(∀ s,run=.inr s→Q .normal (outN s))∧Q .ret stp):=by
 apply propext;constructor
 ·rintro⟨h1,h2⟩;exact⟨h1,fun x hx=>h2 (some (.inl x)) hx.symm,fun s hs=>h2 (some (.inr s)) hs.symm,h2 none trivial⟩
 ·rintro⟨h1,h2,h3,h4⟩;refine⟨h1,fun r hr=>?_⟩;match r,hr with
  |none,_=>exact h4
  |some (.inl x),hr=>exact h2 x hr.symm
  |some (.inr s),hr=>exact h3 s hr.symm
@[go_sem] theorem Sg:lR Q (some (LCY m ns js D step p n s0 B exE outE stp st))=((mC m ns js st (D 0 s0)∧B∧okI step p n 0 s0)∧(∀ x,aq step n 0 s0=.inl x→Q (exE x) (outE x))∧(∀ s,aq step n 0 s0=.inr s→Q .normal (D n s))∧Q .ret stp):=Hw
def cY (step:Nat→σ→ρ⊕σ)(exE:ρ→Ex)(outE:ρ→St)(D:Nat→σ→St)(stp:St)(m id k:Nat)(s:σ):Ex→St→Prop
 | .normal,st=>oe D m k st (step k s)
 | .exit j,st=>jO exE outE m (bif Nat.beq j id then .normal else .exit j) st (step k s)
 | .ret,st=>jO exE outE m .ret st (step k s)∨gh stp m st
 | .pan x,st=>jO exE outE m (.pan x) st (step k s)
variable {id k j:Nat}{s:σ}{x:Value}{e e':Ex}
@[go_sem] theorem Sh:cY step exE outE D stp m id k s .normal st=oe D m k st (step k s):=(rfl)
@[go_sem] theorem VT:cY step exE outE D stp m id k s (.exit j) st=jO exE outE m (bif Nat.beq j id then .normal else .exit j) st (step k s):=(rfl)
@[go_sem] theorem WO:cY step exE outE D stp m id k s .ret st=(jO exE outE m .ret st (step k s)∨gh stp m st):=(rfl)
@[go_sem] theorem WP:cY step exE outE D stp m id k s (.pan x) st=jO exE outE m (.pan x) st (step k s):=(rfl)
@[congr] theorem Uc {st':St}(h:st=st')(he:e=e'):cY step exE outE D stp m id k s e st=cY step exE outE D stp m id k s e' st':=by rw[h,he]
end
section
variable {P:Program}{ρ σ:Type}{ts:Tis}{G:Cons}{ro:Option Nat}{N:Nat}{id:Nat}{c:Code}{C:St→Option LCon}{m:Nat}{ns:List NLoc}{js:List Nat}{step:Nat→σ→ρ⊕σ}{p:Nat→σ→Prop}{n:Nat}{s0:σ}{exE:ρ→Ex}{outE:ρ→St}{D:Nat→σ→St}{stp:St}
theorem PH {n0:Nat}(hn0:n0=m){s:σ}{k:Nat}(hlt:k<n){I:Nat×σ→Prop}{μ:Nat×σ→Nat}{outN:σ→St}{pre:Prop}{run:ρ⊕σ}
  (hI:∀ s',step k s=.inr s'→I (k+1,s')∧μ (k+1,s') <μ (k,s)) (hx:∀ x,step k s=.inl x→run=.inl x):
  ∀ e st',cY step exE outE D stp m id k s e st'→oJ (fun x:Nat×σ=>D x.1 x.2) I μ n0 (k,s) id (fun e st'=>∃ r js,(lcy pre run exE outE outN stp).post r∧(lcy pre run exE outE outN stp).ex r=e∧n0≤((lcy pre run exE outE outN stp).out r).h.length∧Sub js n0 st' ((lcy pre run exE outE outN stp).out r)) e st':=by
 subst hn0;have hfin:∀ e st',jO exE outE n0 e st' (step k s)→∃ r js,(lcy pre run exE outE outN stp).post r∧(lcy pre run exE outE outN stp).ex r=e∧n0≤((lcy pre run exE outE outN stp).out r).h.length∧Sub js n0 st' ((lcy pre run exE outE outN stp).out r):=by
  intro e st' q;cases hs:step k s with
  |inr s'=>rw[hs]at q;exact q.elim
  |inl x=>
   rw[hs]at q;obtain⟨q2,js,q3,q4⟩:=q;exact⟨some (.inl x),js,(hx x hs).symm,q2,q3,q4⟩
 intro e st' hq;cases e with
 |normal=>
  change oe D n0 k st' (step k s)at hq;cases hs:step k s with
  |inl x=>rw[hs]at hq;exact hq.elim
  |inr s'=>
   rw[hs]at hq;obtain⟨js,q3,q4⟩:=hq;obtain⟨i1,i2⟩:=hI s' hs;exact⟨(k+1,s'),js,i1,i2,q3,q4⟩
 |exit j=>
  change jO exE outE n0 (bif Nat.beq j id then .normal else .exit j) st' (step k s)at hq;show bif Nat.beq j id then _ else _;cases hb:Nat.beq j id with
  |true=>rw[hb]at hq;exact hfin _ _ hq
  |false=>rw[hb]at hq;exact hfin _ _ hq
 |ret=>
  rcases hq with hq|hq
  ·exact hfin _ _ hq
  ·obtain⟨js,q3,q4⟩:=hq;exact⟨none,js,trivial,rfl,q3,q4⟩
 |pan x=>exact hfin _ _ hq
theorem CF {B:Prop}(hm:P.follows .mixedOrders=true)(hts:ts.ok P)(hG:ConsOk P G)(hc:b_ N c=true)(hC:∀ st,C st=some (LCY m ns js D step p n s0 B exE outE stp st))(M:Int)(hn:n=M.toNat)(hB:B→M<9223372036854775808)
  (h:B→∀ k s,k<n→p k s→i64.wrap ((k:Int)+1)=((k+1:Nat):Int)→decide ((k:Int) <M)=true→∃ L,am P ro N L c∧exec ts G L c (D k s) (cY step exE outE D stp m id k s))
  (h2:B→∀ s,decide ((n:Int) <M)=false→exec ts G L0 c (D n s) (cZ (D n s) m id)):gn P ro N id (.loop c) C:=by
 refine qe hm hts hG hc fun st lc hC' hp=>?_;rw[hC st]at hC';cases hC';obtain⟨⟨hlen,hok,hle,hsub⟩,hB',h1⟩:=hp;refine⟨Nat×σ,fun x=>D x.1 x.2,fun x=>x.1≤n∧okI step p (n - x.1) x.1 x.2∧aq step (n - x.1) x.1 x.2=aq step n 0 s0,fun x=>n - x.1,(0,s0),mkN ns st,js,⟨Nat.zero_le _,by simpa using h1,by simp⟩,qg ns st st (.refl _) hok,by rw[hlen];exact hle,by rw[hlen];exact hsub,?_⟩;rintro⟨k,s⟩ ⟨hk,hJ,hrun⟩;simp only at hk hJ hrun;rcases Nat.lt_or_ge k n with hlt|hge
 ·rw[show n - k=(n - k - 1)+1 by omega]at hrun hJ;obtain⟨L,hl,hex⟩:=h hB' k s hlt hJ.1 (Jf (hn▸hlt) (hB hB')) (decide_eq_true (by omega));have hI:∀ s',step k s=.inr s'→okI step p (n - (k+1)) (k+1) s'∧aq step (n - (k+1)) (k+1) s'=aq step n 0 s0:=fun s' hs=>by
   have:=hJ.2 s' hs;rw[show n - k - 1=n - (k+1) by omega]at this hrun;simp only[aq,hs]at hrun;exact⟨this,hrun⟩
  have hx:∀ x,step k s=.inl x→aq step n 0 s0=.inl x:=fun x hs=>by
   simp only[aq,hs]at hrun;exact hrun.symm
  exact⟨L,_,hl,fun e st' q=>PH hlen hlt (fun s' hs=>⟨⟨hlt,hI s' hs⟩,by simp only;omega⟩) hx e st' q,hex⟩
 ·have hkn:k=n:=by omega
  subst hkn;have hex:=h2 hB' s (by rw[decide_eq_false_iff_not];omega);refine⟨L0,_,ai c,fun e st' hq=>?_,hex⟩;simp only[Nat.sub_self,aq]at hrun;cases e with
  |exit j=>
   change bif Nat.beq j id then gh (D k s) m st' else False at hq;show bif Nat.beq j id then _ else _;cases hb:Nat.beq j id with
   |true=>
    rw[hb]at hq;obtain⟨js,q3,q4⟩:=hq;exact⟨some (.inr s),js,hrun,rfl,by rw[hlen];exact q3,by rw[hlen];exact q4⟩
   |false=>rw[hb]at hq;exact hq.elim
  |_=>exact hq.elim
end
def lm (n:Nat):List Ob:=List.replicate n .dead
def JP (items:List (List SV))(r:RF)(n:Nat):Ex→St→Prop
 | .normal,st=>gh ⟨[],.ab (r.1 0)::lm n⟩ (n+1) ⟨[],st.h⟩∨gh ⟨[],.ab (r.1 (items.length+1))::lm n⟩ (n+1) ⟨[],st.h⟩
 | .ret,st=>gh ⟨[],.ab (r.1 0)::lm n⟩ (n+1) ⟨[],st.h⟩∨gh ⟨[],.ab (r.1 (items.length+1))::lm n⟩ (n+1) ⟨[],st.h⟩
 |_,_=>False
section
variable {items:List (List SV)}{r:RF}{n:Nat}{st:St}{e e':Ex}
@[go_sem] theorem ME:JP items r n .normal st=(gh ⟨[],.ab (r.1 0)::lm n⟩ (n+1) ⟨[],st.h⟩∨gh ⟨[],.ab (r.1 (items.length+1))::lm n⟩ (n+1) ⟨[],st.h⟩):=(rfl)
@[go_sem] theorem Si:JP items r n .ret st=(gh ⟨[],.ab (r.1 0)::lm n⟩ (n+1) ⟨[],st.h⟩∨gh ⟨[],.ab (r.1 (items.length+1))::lm n⟩ (n+1) ⟨[],st.h⟩):=(rfl)
@[go_sem] theorem VU:lm 0=[]:=(rfl)
@[go_sem] theorem VV:lm 1=[.dead]:=(rfl)
@[go_sem] theorem VW:lm 2=[.dead,.dead]:=(rfl)
@[go_sem] theorem VX:lm 3=[.dead,.dead,.dead]:=(rfl)
@[go_sem] theorem VY:lm 4=[.dead,.dead,.dead,.dead]:=(rfl)
end
theorem CG {js:List Nat}{n0:Nat}{h h':List Ob}(q:Sub js n0 ⟨[],h⟩ ⟨[],h'⟩):Sub js n0 ⟨[(0,.tup [])],h⟩ ⟨[(0,.tup [])],h'⟩:=by
 refine⟨q.1,?_,q.2.2⟩;simp only[GO,lk];exact⟨⟨rfl,rfl⟩,trivial⟩
open Classical in
theorem JQ {P:Program} {ts:Tis} {G:RF→Cons} (hm:P.follows .mixedOrders=true) (hts:ts.ok P) {f:FuncId} {fn:Func} {c:Code} (hf:P.funcs[f]? =some fn) (hb:fn.body=some c) (hname:(fn.name== "runtime.NumGoroutine")=false) (hc:b_ fn.ntmps c=true) (hr:fn.results.toList=[])
  {items:List (List SV)} {mk:SV→List SV} {hs:List Ob} {n:Nat} (hn:hs.length=n)
  (h:∀ r:RF,YOk P (Hv items r)→ConsOk P (G r)∧(mk (.os 0)).length≤fn.ntmps∧∃ L,am P none fn.ntmps L c∧exec ts (G r) L c ⟨jH 0 (mk (.os 0)),.ab (r.1 1)::hs⟩ (JP items r n))
  (he:∀ (args:Array Value) (w:World),(callFunc f args).run P w=.ok (.enter f args) w):AZ P f mk hs items:=by
 refine Jd (fun r0 hr0 hy=>?_) he;obtain⟨hG,h1,L,h2,h3⟩:=h ⟨r0,hr0⟩ hy;refine⟨fun l o=>if l=mk (.os 0)∧o=.ab (r0 1)::hs then some { α:=Bool,pre:=True,post:=fun _=>True,res:=fun b=>.ret (.tup []) (.ab (r0 (if b then items.length+1 else 0))::lm n)}else none,?_,_,if_pos ⟨rfl,rfl⟩,trivial,fun b _=>⟨_,_,_,rfl,by cases b <;>simp⟩⟩;refine xz hm hts hG hf hb hname hc fun l o con hC _=>?_;split at hC
 rotate_left
 ·cases hC
 rename_i hlo;obtain⟨rfl,rfl⟩:=hlo;cases hC;refine⟨h1,L,_,h2,fun e st hq=>?_,h3⟩;have key:∀ st:St,(gh ⟨[],.ab (r0 0)::lm n⟩ (n+1) ⟨[],st.h⟩∨gh ⟨[],.ab (r0 (items.length+1))::lm n⟩ (n+1) ⟨[],st.h⟩)→tf (Ob.ab (r0 1)::hs).length { α:=Bool,pre:=True,post:=fun _=>True,res:=fun b=>.ret (.tup []) (.ab (r0 (if b then items.length+1 else 0))::lm n)} (lW (kh ts st fn.results.toList)) st.h:=fun st q=>by
  rw[hr];show ∃ r s' h' js,_;rcases q with⟨js,q1,q2⟩ | ⟨js,q1,q2⟩
  ·exact⟨false,_,_,js,trivial,rfl,by rw[List.length_cons,hn];exact q1,by rw[List.length_cons,hn];exact CG q2⟩
  ·exact⟨true,_,_,js,trivial,rfl,by rw[List.length_cons,hn];exact q1,by rw[List.length_cons,hn];exact CG q2⟩
 cases e with
 |normal=>exact key st hq
 |ret=>exact key st hq
 |exit j=>exact hq.elim
 |pan x=>exact hq.elim
section
variable {ρ σ τ:Type}
theorem uL {step:τ→σ→ρ⊕σ}:∀ {a b:List τ} {s s':σ},ct step a s=.inr s'→ct step (a++b) s=ct step b s'
 | [],_,_,_,h=>by simp only[ct,Sum.inr.injEq]at h;subst h;rfl
 |x::a,b,s,s',h=>by
  simp only[List.cons_append,ct]at h ⊢;cases hs:step x s with
  |inl y=>rw[hs]at h;cases h
  |inr s1=>rw[hs]at h;simp only at h ⊢;exact uL h
theorem CH {step:τ→σ→ρ⊕σ}{p:τ→σ→Prop}:∀ {a b:List τ} {s s':σ},ct step a s=.inr s'→okL step p (a++b) s→okL step p b s'
 | [],_,_,_,h,hk=>by simp only[ct,Sum.inr.injEq]at h;subst h;exact hk
 |x::a,b,s,s',h,hk=>by
  simp only[List.cons_append,ct]at h hk;cases hs:step x s with
  |inl y=>rw[hs]at h;cases h
  |inr s1=>rw[hs]at h;exact CH h (hk.2 s1 hs)
def LCP (m:Nat)(ns:List NLoc)(js:List Nat)(D:List Nat→Option Nat→σ→St)(step:τ→σ→ρ⊕σ)(p:τ→σ→Prop)(l:List τ)(s0:σ)(exE:ρ→Ex)(outE:ρ→St)(outN:σ→St)(st:St):LCon where
 α:=ρ⊕σ
 pre:=mC m ns js st (D (List.range l.length) none s0)∧∀ L,L.Perm l→okL step p L s0
 post:=fun r=>∃ L,L.Perm l∧ct step L s0=r
 ex:=fun| .inl x=>exE x| .inr _=>.normal
 out:=fun| .inl x=>outE x| .inr s=>outN s
variable {m:Nat}{ns:List NLoc}{js:List Nat}{step:τ→σ→ρ⊕σ}{p:τ→σ→Prop}{l:List τ}{s0:σ}{exE:ρ→Ex}{outE:ρ→St}{outN:σ→St}{st:St}{Q:Ex→St→Prop}{D:List Nat→Option Nat→σ→St}
@[go_sem] theorem Sj:lR Q (some (LCP m ns js D step p l s0 exE outE outN st))=((mC m ns js st (D (List.range l.length) none s0)∧∀ L,L.Perm l→okL step p L s0)∧∀ L,L.Perm l→(∀ x,ct step L s0=.inl x→Q (exE x) (outE x))∧∀ s,ct step L s0=.inr s→Q .normal (outN s)):=by
 apply propext;constructor
 ·rintro⟨h1,h2⟩;exact⟨h1,fun L hL=>⟨fun x hx=>h2 (.inl x) ⟨L,hL,hx⟩,fun s hs=>h2 (.inr s) ⟨L,hL,hs⟩⟩⟩
 ·rintro⟨h1,h2⟩;refine⟨h1,fun r ⟨L,hL,hr⟩ =>?_⟩;cases r with
  |inl x=>exact(h2 L hL).1 x hr
  |inr s=>exact(h2 L hL).2 s hr
variable {P:Program}{ts:Tis}{G:Cons}{ro:Option Nat}{N id:Nat}{c:Code}{C:St→Option LCon}
theorem JR (d:τ)(it:Nat)(hm:P.follows .mixedOrders=true)(hts:ts.ok P)(hG:ConsOk P G)(hc:b_ N c=true)(hC:∀ st,C st=some (LCP m ns js D step p l s0 exE outE outN st))
  (h:∀ left cur s,(∀ j,j∈left→j<l.length∧p (l.getD j d) s)→∃ L,am P ro N L c∧exec ts G L c (D left cur s) (cM step l d exE outE outN D m id it left s)):gn P ro N id (.loop c) C:=by
 refine qe hm hts hG hc fun st lc hC' hp=>?_;rw[hC st]at hC';cases hC';obtain⟨⟨hlen,hok,hle,hsub⟩,hO⟩:=hp;subst hlen;have hfix:∀ q:List Nat,q.Perm (List.range l.length)→(q.map fun j=>l.getD j d).Perm l:=fun q hq=>by
  have:=hq.map (fun j=>l.getD j d)
  rwa[qf]at this
 refine⟨List Nat×Option Nat×σ,fun x=>D x.1 x.2.1 x.2.2,fun x=>∃ q:List Nat,(q++x.1).Perm (List.range l.length)∧ct step (q.map fun j=>l.getD j d) s0=.inr x.2.2,fun x=>x.1.length,(List.range l.length,none,s0),mkN ns st,js,⟨[],.refl _,rfl⟩,qg ns st st (.refl _) hok,hle,hsub,?_⟩;rintro⟨left,cur,s⟩ ⟨q,hq,hrun⟩;simp only at hq hrun;have hmem:∀ j,j∈left→(q++j::left.erase j).Perm (List.range l.length):=fun j hj=>((List.perm_cons_erase hj).symm.append_left q).trans hq;have hp0:∀ j,j∈left→j<l.length∧p (l.getD j d) s:=fun j hj=>by
  refine⟨List.mem_range.1 (hq.mem_iff.1 (List.mem_append_right _ hj)),?_⟩;have:=hO _ (hfix _ (hmem j hj));rw[List.map_append]at this;exact(CH hrun this).1
 obtain⟨L,hl,hex⟩:=h left cur s hp0;refine⟨L,_,hl,?_,hex⟩;have hfin:∀ e st' o,exC step l d exE outE st.h.length left s e st' o→∃ r js,(LCP st.h.length ns js D step p l s0 exE outE outN st).post r∧(LCP st.h.length ns js D step p l s0 exE outE outN st).ex r=e∧st.h.length≤((LCP st.h.length ns js D step p l s0 exE outE outN st).out r).h.length∧Sub js st.h.length st' ((LCP st.h.length ns js D step p l s0 exE outE outN st).out r):=by
  intro e st' o z;cases o with
  |none=>exact z.elim
  |some j=>
   obtain⟨hj,z⟩:=z;cases hs:step (l.getD j d) s with
   |inr s'=>rw[hs]at z;exact z.elim
   |inl x=>
    rw[hs]at z;obtain⟨q2,js2,q3,q4⟩:=z;refine⟨.inl x,js2,⟨_,hfix _ (hmem j hj),?_⟩,q2,q3,q4⟩;rw[List.map_append,uL hrun];simp only[List.map_cons,ct,hs]
 intro e st' hz;cases e with
 |normal=>
  change nxC step l d D st.h.length left s st' (oR (ah st'.h it))at hz;cases ho:oR (ah st'.h it)with
  |none=>rw[ho]at hz;exact hz.elim
  |some j=>
   rw[ho]at hz;obtain⟨hj,hz⟩:=hz;cases hs:step (l.getD j d) s with
   |inl x=>rw[hs]at hz;exact hz.elim
   |inr s'=>
    rw[hs]at hz;obtain⟨js2,q3,q4⟩:=hz;refine⟨(left.erase j,some j,s'),js2,⟨q++[j],?_,?_⟩,?_,q3,q4⟩
    ·rw[List.append_assoc];exact hmem j hj
    ·rw[List.map_append,uL hrun];simp only[List.map_cons,List.map_nil,ct,hs]
    ·have:=List.length_pos_of_mem hj;simp only[List.length_erase_of_mem hj];omega
 |exit j=>
  have hz':(bif Nat.beq j id then(left=[]→gh (outN s) st.h.length st')∧(left≠[]→exC step l d exE outE st.h.length left s .normal st' (oR (ah st'.h it)))else exC step l d exE outE st.h.length left s (.exit j) st' (oR (ah st'.h it))):=hz;show bif Nat.beq j id then _ else _;cases hb:Nat.beq j id with
  |true=>
   rw[hb]at hz';simp only[cond_true]at hz' ⊢;by_cases hlt:left=[]
   ·obtain⟨js2,q3,q4⟩:=hz'.1 hlt;refine⟨.inr s,js2,⟨_,hfix q (by rw[hlt,List.append_nil]at hq;exact hq),hrun⟩,rfl,q3,q4⟩
   ·exact hfin _ _ _ (hz'.2 hlt)
  |false=>
   rw[hb]at hz';exact hfin _ _ _ hz'
 |ret=>exact hfin _ _ _ hz
 |pan x=>exact hfin _ _ _ hz
end
theorem fkY {st2 st:St}{n0:Nat}{js:List Nat}(_:JL js)(h1:n0≤st2.h.length:=by(first|(show _≤_;decide) |(simp only[*,go_sem,Nat.reduceBEq,Nat.reduceLeDiff,Nat.reduceAdd,Nat.reduceSub,Nat.reduceMul,Int.reduceLE,Int.reduceLT,Int.reduceToNat,Int.reduceNeg,reduceCtorEq];done) |(simp only[*,go_sem,Nat.reduceBEq,Nat.reduceLeDiff,Nat.reduceAdd,Nat.reduceSub,Nat.reduceMul,Int.reduceLE,Int.reduceLT,Int.reduceToNat,Int.reduceNeg,reduceCtorEq];(repeat' (first|with_reducible refine And.intro ?_ ?_|((with_reducible show _≠_);first|assumption|omega|(simp_all [eW,fA];done) |grind) |with_reducible intro _)) <;>(first|rfl|decide|assumption|omega|(simp_all [eW,fA];done) |fail))))(h2:Sub js n0 st st2:=by(first|(show _≤_;decide) |(simp only[*,go_sem,Nat.reduceBEq,Nat.reduceLeDiff,Nat.reduceAdd,Nat.reduceSub,Nat.reduceMul,Int.reduceLE,Int.reduceLT,Int.reduceToNat,Int.reduceNeg,reduceCtorEq];done) |(simp only[*,go_sem,Nat.reduceBEq,Nat.reduceLeDiff,Nat.reduceAdd,Nat.reduceSub,Nat.reduceMul,Int.reduceLE,Int.reduceLT,Int.reduceToNat,Int.reduceNeg,reduceCtorEq];(repeat' (first|with_reducible refine And.intro ?_ ?_|((with_reducible show _≠_);first|assumption|omega|(simp_all [eW,fA];done) |grind) |with_reducible intro _)) <;>(first|rfl|decide|assumption|omega|(simp_all [eW,fA];done) |fail)))):gh st2 n0 st:=A2 js h1 h2
theorem PI {α:Type 1}{G:List SV→α→Prop}{X:SV}{k:List SV→Option α}(h:∀ l c,k l=some c→G (X::l) c):∀ l c,pQ X k l=some c→G l c:=fun l c hc=>by
 obtain⟨r,rfl,h1⟩:=xH hc;exact h r c h1
end Go.Sx
end
section
namespace Go.Sx
open Go.Proofs
open IntKind (i64 u64)
def kB (n:Int)(d:Int):Int:=(i64.wrap (Int.tdiv (i64.wrap (n - (Int.tmod (i64.wrap ((Int.tmod n d)+d)) d))) d))
def l8 (n:Int)(d:Int):Prop:=(d≠0∧(d≠0∧d≠0))
@[go_sem] def tO:List SV→Option Con:=(pI fun n=>(pI fun d=>(pE (.det (l8 n d) (.v (.int .i64 (kB n d)))))))
theorem y4:FnOk Tryz.prog 166 tO:=by
 have hG:ConsOk Tryz.prog (mkG [] []):=ay cg0 cg0;refine ba [.o] mixed an hG (fn:=Tryz.f166) (c:=ae Tryz.f166) kr kr kr kr (bY fun n=>(bY fun d=>(aG (fun hp=>?_))));dsimp only[aF]at hp;unfold l8 at hp;refine⟨nbl rfl,L0,ai _,?_⟩
 ·unfold ae Tryz.f166;try unfold kB
  exact zq1
def eI (a:Ratio)(n:Int):Int×Int×Int:=(bif((aT a) !=0)then(0,0,(aT a))else(bif((decide (n< (-1073741824))) ||(decide (n > 1073741824)))then(0,0,1)else((kB (i64.wrap (a.n*n)) a.d),(i64.wrap (0 - (kB (i64.wrap ((i64.wrap (0 - a.n))*n)) a.d))),0)))
def rX (a:Ratio)(n:Int):Prop:=(((aT a) !=0)=false→(((decide (n< (-1073741824))) ||(decide (n > 1073741824)))=false→((l8 (i64.wrap (a.n*n)) a.d)∧(l8 (i64.wrap ((i64.wrap (0 - a.n))*n)) a.d))))
theorem y5 {a:Ratio}(h:(aT a !=0)=false):1≤a.d:=by
 unfold aT at h;by_cases hd:a.d<1
 ·simp[hd]at h
 ·omega
theorem xU (a:Ratio)(n:Int):rX a n:=fun h _=>by
 have:=y5 h;exact⟨⟨by omega,by omega,by omega⟩,⟨by omega,by omega,by omega⟩⟩
@[go_sem] def rY:List SV→Option Con:=(pD .ratio fun a=>(pI fun n=>(pE (.det True (.tup [.v (.int .i64 ((eI a n).1)),.v (.int .i64 ((eI a n).2.1)),.v (.int .i64 ((eI a n).2.2))])))))
theorem xV:FnOk Tryz.prog 138 rY:=by
 have hG:ConsOk Tryz.prog (mkG [(165,kL),(166,tO)] []):=ay (cgc mE (cgc y4 cg0)) cg0;refine ba [.o,.o,.o] mixed an hG (fn:=Tryz.f138) (c:=ae Tryz.f138) kr kr kr kr (aW fun a=>(bY fun n=>(aG (fun hp=>?_))));dsimp only[aF]at hp;have hp:=xU a n;unfold rX at hp;refine⟨nbl rfl,L0,ai _,?_⟩
 ·unfold ae Tryz.f138;try unfold eI
  exact zq1
def ju (n:Int)(d:Int):Ratio×Int:=(bif(d==0)then(({ n:=0,d:=0}:Ratio),120)else(bif(decide ((if(u64.wrap (Int.tdiv (al n) ((rq (Int.toNat (al n)) (Int.toNat (al d)):Nat):Int))) < (u64.wrap (Int.tdiv (al d) ((rq (Int.toNat (al n)) (Int.toNat (al d)):Nat):Int)))then(u64.wrap (Int.tdiv (al d) ((rq (Int.toNat (al n)) (Int.toNat (al d)):Nat):Int)))else(u64.wrap (Int.tdiv (al n) ((rq (Int.toNat (al n)) (Int.toNat (al d)):Nat):Int)))) > 1073741824))then(({ n:=0,d:=0}:Ratio),2)else(bif((decide (n<0)) !=(decide (d<0)))then(({ n:=(i64.wrap (0 - (i64.wrap (u64.wrap (Int.tdiv (al n) ((rq (Int.toNat (al n)) (Int.toNat (al d)):Nat):Int)))))),d:=(i64.wrap (u64.wrap (Int.tdiv (al d) ((rq (Int.toNat (al n)) (Int.toNat (al d)):Nat):Int))))}:Ratio),0)else(({ n:=(i64.wrap (u64.wrap (Int.tdiv (al n) ((rq (Int.toNat (al n)) (Int.toNat (al d)):Nat):Int)))),d:=(i64.wrap (u64.wrap (Int.tdiv (al d) ((rq (Int.toNat (al n)) (Int.toNat (al d)):Nat):Int))))}:Ratio),0))))
def l9 (n:Int)(d:Int):Prop:=((d==0)=false→((0≤(al n)∧0≤(al d))∧(((rq (Int.toNat (al n)) (Int.toNat (al d)):Nat):Int)≠0∧((rq (Int.toNat (al n)) (Int.toNat (al d)):Nat):Int)≠0)))
@[go_sem] def tP:List SV→Option Con:=(pI fun n=>(pI fun d=>(pE (.det (l9 n d) (.tup [.agg (cellsOf .ratio ((ju n d).1)),.v (.int .i64 ((ju n d).2))])))))
theorem y6:FnOk Tryz.prog 172 tP:=by
 have hG:ConsOk Tryz.prog (mkG [(180,C83),(181,jQ)] []):=ay (cgc JF (cgc mD cg0)) cg0;refine ba [.st .ratio,.o] mixed an hG (fn:=Tryz.f172) (c:=ae Tryz.f172) kr kr kr kr (bY fun n=>(bY fun d=>(aG (fun hp=>?_))));dsimp only[aF]at hp;unfold l9 at hp;refine⟨nbl rfl,L0,ai _,?_⟩
 ·unfold ae Tryz.f172;try unfold ju
  exact zq4
def eJ (a:Ratio)(b:Ratio):Int×Int:=((i64.wrap ((i64.wrap (a.n*b.d))+(i64.wrap (b.n*a.d)))),(i64.wrap (a.d*b.d)))
@[go_sem] def rZ:List SV→Option Con:=(pD .ratio fun a=>(pD .ratio fun b=>(pE (.det True (.tup [.v (.int .i64 ((eJ a b).1)),.v (.int .i64 ((eJ a b).2))])))))
theorem xW:FnOk Tryz.prog 155 rZ:=by
 have hG:ConsOk Tryz.prog (mkG [] []):=ay cg0 cg0;refine ba [.o,.o] mixed an hG (fn:=Tryz.f155) (c:=ae Tryz.f155) kr kr kr kr (aW fun a=>(aW fun b=>(aG (fun hp=>?_))));dsimp only[aF]at hp;refine⟨nbl rfl,L0,ai _,?_⟩
 ·unfold ae Tryz.f155;try unfold eJ
  exact zq1
def ew (a:Ratio)(b:Ratio):Ratio×Int:=(bif(((aT a) !=0) ||((aT b) !=0))then(({ n:=0,d:=0}:Ratio),120)else(((ju ((eJ a b).1) ((eJ a b).2)).1),(ju ((eJ a b).1) ((eJ a b).2)).2))
def ij (a:Ratio)(b:Ratio):Prop:=((((aT a) !=0) ||((aT b) !=0))=false→(l9 ((eJ a b).1) ((eJ a b).2)))
@[go_sem] noncomputable def ln:List SV→Option Con:=(pQ (.agg [.fn 155 [] []]) (pD .ratio fun a=>(pD .ratio fun b=>(pE (.det (ij a b) (.tup [.agg (cellsOf .ratio ((ew a b).1)),.v (.int .i64 ((ew a b).2))]))))))
theorem pu:FnOk Tryz.prog 156 ln:=by
 have hG:ConsOk Tryz.prog (mkG [(155,rZ),(165,kL),(172,tP)] []):=ay (cgc xW (cgc mE (cgc y6 cg0))) cg0;refine ba [.st .ratio,.o] mixed an hG (fn:=Tryz.f156) (c:=ae Tryz.f156) kr kr kr kr (PI (aW fun a=>(aW fun b=>(aG (fun hp=>?_)))));dsimp only[aF]at hp;unfold ij at hp;refine⟨nbl rfl,L0,ai _,?_⟩
 ·unfold ae Tryz.f156;try unfold ew
  exact zq1
def fC (a:Ratio)(b:Ratio):Ratio×Int:=(((ew a b).1),(ew a b).2)
def nr (a:Ratio)(b:Ratio):Prop:=(ij a b)
@[go_sem] def vv:List SV→Option Con:=(pD .ratio fun a=>(pD .ratio fun b=>(pE (.det (nr a b) (.tup [.agg (cellsOf .ratio ((fC a b).1)),.v (.int .i64 ((fC a b).2))])))))
theorem A8:FnOk Tryz.prog 121 vv:=by
 have hG:ConsOk Tryz.prog (mkG [(156,ln)] []):=ay (cgc pu cg0) cg0;refine ba [.st .ratio,.o] mixed an hG (fn:=Tryz.f121) (c:=ae Tryz.f121) kr kr kr kr (aW fun a=>(aW fun b=>(aG (fun hp=>?_))));dsimp only[aF]at hp;unfold nr at hp;refine⟨nbl rfl,L0,ai _,?_⟩
 ·unfold ae Tryz.f121;try unfold fC
  exact zq1
@[go_sem] def r7 (b9:List Int)(k_0:Nat)(s_0:Unit):Int⊕Unit:=(bif((b9.getD k_0 (0:Int)) !=0)then .inl (b9.getD k_0 (0:Int))else .inr ())
def gA (b9:List Int):Int:=(match aq (r7 b9) b9.length 0 ()with| .inl x_0_0=>x_0_0| .inr s_0=>0)
@[go_sem] def tQ:List SV→Option Con:=(pR .int fun b9=>(pE (.det True (.v (.int .i64 (gA b9))))))
theorem y7:FnOk Tryz.prog 44 tQ:=by
 have hG:ConsOk Tryz.prog (mkG [] []):=ay cg0 cg0;refine ba [.o] mixed an hG (fn:=Tryz.f44) (c:=ae Tryz.f44) kr kr kr kr (ef fun b9=>(aG (fun hp=>?_)));dsimp only[aF]at hp;refine⟨nbl rfl,(fun id st=>bif Nat.beq id 0 then some (LCR (ρ:=Int) (σ:=Unit) 0 [] [] (fun k_0 s_0=>⟨[(3,.v (.int .i64 0)),(6,.rs .int b9),(7,.v (.int .i64 (b9.length:Int))),(8,.v (.int .i64 (k_0:Int)))],[]⟩) (r7 b9) pT b9.length () (b9.length≤a7) (fun _=>.ret) (fun x_0_0=>⟨[(2,.v (.int .i64 x_0_0))],[]⟩) st)else none),?_,?_⟩
 ·unfold ae Tryz.f44;simp only[am,true_and,and_true]
  ·refine dg mixed an hG kr (fun _=>rfl) (b9.length:Int) rfl iO (fun hb0 k_0 s_0 hlt0 _ hw hc=>⟨L0,ai _,?_⟩) (fun hb0 s_0 hc=>?_)
   ·exact cm (jl [])
   ·exact cn (jl [])
 ·unfold ae Tryz.f44;try unfold gA
  exact zq1
def bR (x:Holding)(y:Holding):Int:=(gA ([(b8 x.right y.right),(b8 x.farm y.farm)]))
@[go_sem] def ph:List SV→Option Con:=(pD .holding fun x=>(pD .holding fun y=>(pE (.det True (.v (.int .i64 (bR x y)))))))
theorem uM:FnOk Tryz.prog 43 ph:=by
 have hG:ConsOk Tryz.prog (mkG [(44,fun l=>tQ (dH [.sl .int] l)),(45,fH)] []):=ay (cgc (y7.norm [.sl .int]) (cgc gq cg0)) cg0;refine ba [.o] mixed an hG (fn:=Tryz.f43) (c:=ae Tryz.f43) kr kr kr kr (aW fun x=>(aW fun y=>(aG (fun hp=>?_))));dsimp only[aF]at hp;refine⟨nbl rfl,L0,ai _,?_⟩
 ·unfold ae Tryz.f43;try unfold bR
  exact zq1
theorem nt (x y:Int):b8 x y=if x<y then -1 else if x > y then 1 else 0:=by
 unfold b8 gM;simp[Bool.cond_eq_ite]
theorem EF (x:Int)(l:List Int):gA (x::l)=if x=0 then gA l else x:=by
 have key:∀ l:List Int,gA l=match ct (ρ:=Int) (fun(x:Int) (_:Unit) =>bif(x !=0)then .inl x else .inr ()) l ()with| .inl y=>y| .inr _=>0:=fun l=>by
  unfold gA;have:=oQ (ρ:=Int) (fun(x:Int) (_:Unit) =>bif(x !=0)then .inl x else .inr ()) 0 l ();rw[←this];rfl
 rw[key,key];simp only[ct];by_cases h:x=0
 ·subst h;rfl
 ·have:(x !=0)=true:=by simpa using h
  rw[if_neg h,this];rfl
theorem Hz:gA []=0:=rfl
def ma:List (Int×Int)→Prop
 | [] =>False
 |(a,b)::r=>a<b∨a=b∧ma r
theorem zP:∀ l:List (Int×Int),(gA (l.map fun p=>b8 p.1 p.2) <0↔ma l)
 | [] =>by simp[Hz,ma]
 |(a,b)::r=>by
  have hc:=nt a b;simp only[List.map_cons,EF,hc,ma];rcases Int.lt_trichotomy a b with h|h|h
  ·simp[h]
  ·subst h;simp only[Int.lt_irrefl,if_false,if_true,true_and,false_or,gt_iff_lt];exact zP r
  ·have h1:¬a<b:=by omega
   have h2:a≠b:=by omega
   simp[h1,h2,h]
def hlt (a b:Holding):Prop:=ma [(a.right,b.right),(a.farm,b.farm)]
theorem xX (a b:Holding):bR a b<0↔hlt a b:=zP [(a.right,b.right),(a.farm,b.farm)]
open Go.Shelf Go.Sort in
theorem JS {α:Type}{f:α→α→Int}{r:α→α→Prop}(e:∀ x y,f x y<0↔r x y)(h1:∀ x,¬r x x)(h2:∀ x y z,r x y→r y z→r x z)(h3:∀ x y z,¬r x y→¬r y z→¬r x z):SWO (ltOf f):=by
 have e1:∀ x y,ltOf f x y=true↔r x y:=fun x y=>by unfold ltOf;rw[decide_eq_true_eq,e]
 have e2:∀ x y,ltOf f x y=false↔¬r x y:=fun x y=>by rw[←e1];simp
 exact⟨fun x=>(e2 x x).2 (h1 x),fun x y z a b=>(e1 x z).2 (h2 x y z ((e1 x y).1 a) ((e1 y z).1 b)),fun x y z a b=>(e2 x z).2 (h3 x y z ((e2 x y).1 a) ((e2 y z).1 b))⟩
open Go.Shelf Go.Sort in
theorem vz:SWO (ltOf bR):=JS xX (fun x=>by simp only[hlt,ma,and_false,or_false];omega) (fun x y z h1 h2=>by simp only[hlt,ma,and_false,or_false]at *;omega) (fun x y z h1 h2=>by simp only[hlt,ma,and_false,or_false]at *;omega)
def aH (n:Int)(lo:Int)(hi:Int):Bool:=((decide (n≥lo))&&(decide (n≤hi)))
@[go_sem] def kO:List SV→Option Con:=(pI fun n=>(pI fun lo=>(pI fun hi=>(pE (.det True (.v (.bool (aH n lo hi))))))))
theorem mM:FnOk Tryz.prog 39 kO:=by
 have hG:ConsOk Tryz.prog (mkG [] []):=ay cg0 cg0;refine ba [.o] mixed an hG (fn:=Tryz.f39) (c:=ae Tryz.f39) kr kr kr kr (bY fun n=>(bY fun lo=>(bY fun hi=>(aG (fun hp=>?_)))));dsimp only[aF]at hp;refine⟨nbl rfl,L0,ai _,?_⟩
 ·unfold ae Tryz.f39;try unfold aH
  exact zq1
def i0 (x:Deed):Bool:=(bif(x.kind==1)then(((x.parts.length:Int) ==0)&&(x.of_==0))else(bif(x.kind==2)then((x.to==0)&&(x.of_==0))else(bif(x.kind==3)then(((x.to==0)&&((x.parts.length:Int) ==0))&&(x.of_==0))else(bif(x.kind==4)then((((x.right==0)&&(x.since==0))&&(x.to==0))&&((x.parts.length:Int) ==0))else(((((x.right==0)&&(x.since==0))&&(x.to==0))&&((x.parts.length:Int) ==0))&&(x.of_==0))))))
@[go_sem] def pi:List SV→Option Con:=(pD .deed fun x=>(pE (.det True (.v (.bool (i0 x))))))
theorem uN:FnOk Tryz.prog 85 pi:=by
 have hG:ConsOk Tryz.prog (mkG [] []):=ay cg0 cg0;refine ba [.o] mixed an hG (fn:=Tryz.f85) (c:=ae Tryz.f85) kr kr kr kr (aW fun x=>(aG (fun hp=>?_)));dsimp only[aF]at hp;refine⟨nbl rfl,L0,ai _,?_⟩
 ·unfold ae Tryz.f85;try unfold i0
  exact zq1
@[go_sem] def fL (d:District)(l_:List Part)(k_0:Nat)(s_0:Int×Int×List (Int×Bool)):Unit⊕(Int×Int×List (Int×Bool)):=(bif(((!(aH ((l_.getD k_0 (default:Part)).farm) 0 (i64.wrap ((d.farms.length:Int) - 1)))) ||(bF .int .bool s_0.2.2 ((l_.getD k_0 (default:Part)).farm))) ||(decide ((l_.getD k_0 (default:Part)).share.n≤0)))then .inl ()else(bif((fC ({ n:=s_0.1,d:=s_0.2.1}:Ratio) ((l_.getD k_0 (default:Part)).share)).2 !=0)then .inl ()else .inr (((fC ({ n:=s_0.1,d:=s_0.2.1}:Ratio) ((l_.getD k_0 (default:Part)).share)).1).n,((fC ({ n:=s_0.1,d:=s_0.2.1}:Ratio) ((l_.getD k_0 (default:Part)).share)).1).d,(eU .int .bool s_0.2.2 ((l_.getD k_0 (default:Part)).farm) true))))
def iP (d:District)(l_:List Part)(k_0:Nat)(s_0:Int×Int×List (Int×Bool)):Prop:=(d.farms.length≤a7→((((!(aH ((l_.getD k_0 (default:Part)).farm) 0 (i64.wrap ((d.farms.length:Int) - 1)))) ||(bF .int .bool s_0.2.2 ((l_.getD k_0 (default:Part)).farm))) ||(decide ((l_.getD k_0 (default:Part)).share.n≤0)))=false→(nr ({ n:=s_0.1,d:=s_0.2.1}:Ratio) ((l_.getD k_0 (default:Part)).share))))
def ik (d:District)(l_:List Part):Bool:=(match aq (fL d l_) l_.length 0 (0,1,[])with| .inl x_0_0=>false| .inr s_0=>((aH (l_.length:Int) 1 16)&&((s_0.1==1)&&(s_0.2.1==1))))
def iD (d:District)(l_:List Part):Prop:=(l_.length≤a7→okI (fL d l_) (iP d l_) l_.length 0 (0,1,[]))
@[go_sem] def oj:List SV→Option Con:=(pD .district fun d=>(pR .part fun l_=>(pE (.det (iD d l_) (.v (.bool (ik d l_)))))))
theorem tR:FnOk Tryz.prog 86 oj:=by
 have hG:ConsOk Tryz.prog (mkG [(39,kO),(121,vv)] []):=ay (cgc mM (cgc A8 cg0)) cg0;refine ba [.o] mixed an hG (fn:=Tryz.f86) (c:=ae Tryz.f86) kr kr kr kr (aW fun d=>(ef fun l_=>(aG (fun hp=>?_))));dsimp only[aF]at hp;unfold iD at hp;refine⟨nbl rfl,(fun id st=>bif Nat.beq id 0 then some (LCR (ρ:=Unit) (σ:=(Int×Int×List (Int×Bool))) 3 [] [0,1,2] (fun k_0 s_0=>⟨[(1,.rs .part l_),(2,.ptr 0 0),(5,.ptr 2 0),(6,.os 1),(13,.rs .part l_),(14,.v (.int .i64 (l_.length:Int))),(15,.v (.int .i64 (k_0:Int)))],[.cells (cellsOf .district d),.mp .int .bool s_0.2.2 none,.cells [.v (.int .i64 s_0.1),.v (.int .i64 s_0.2.1)]]⟩) (fL d l_) (iP d l_) l_.length (0,1,[]) (l_.length≤a7) (fun _=>.ret) (fun x_0_0=>⟨[(4,.v (.bool false))],[.dead,.dead,.dead]⟩) st)else none),?_,?_⟩
 ·unfold ae Tryz.f86;simp only[am,true_and,and_true]
  ·refine dg mixed an hG kr (fun _=>rfl) (l_.length:Int) rfl iO (fun hb0 k_0 s_0 hlt0 hq0 hw hc=>⟨L0,ai _,?_⟩) (fun hb0 s_0 hc=>?_)
   ·unfold iP at hq0;try simp only[hw,Int.toNat_natCast]at hq0
    exact cm (jl [0,1,2])
   ·exact cn (jl [0,1,2])
 ·unfold ae Tryz.f86;try unfold ik
  exact zq1
def b6 (a0:District)(a1:List (Int×Deed))(a2:Deed):Bool:=(bif((((!(aH a2.no 0 1048576)) ||(!(aH a2.at_ 0 4096))) ||(!(aH a2.known 0 1048576))) ||(!(i0 a2)))then false else(bif(a2.kind==1)then(((((aH a2.right 0 (i64.wrap ((a0.rights.length:Int) - 1)))&&((a0.rights.getD (Int.toNat a2.right) (default:Right)).kind==1))&&(aH a2.since 0 (i64.wrap ((a0.farms.length:Int) - 1))))&&(aH a2.to 0 (i64.wrap ((a0.farms.length:Int) - 1))))&&(a2.to !=a2.since))else(bif(a2.kind==2)then((((aH a2.right 0 (i64.wrap ((a0.rights.length:Int) - 1)))&&((a0.rights.getD (Int.toNat a2.right) (default:Right)).kind==1))&&(aH a2.since 0 (i64.wrap ((a0.farms.length:Int) - 1))))&&(ik a0 a2.parts))else(bif(a2.kind==3)then(((aH a2.right 0 (i64.wrap ((a0.rights.length:Int) - 1)))&&((a0.rights.getD (Int.toNat a2.right) (default:Right)).kind==1))&&(aH a2.since 0 (i64.wrap ((a0.farms.length:Int) - 1))))else(bif(a2.kind==4)then(((pF .int .deed a1 a2.of_)&&((bF .int .deed a1 a2.of_).kind !=4))&&(decide (a2.known≥(bF .int .deed a1 a2.of_).known)))else false)))))
def jk (a0:District)(a1:List (Int×Deed))(a2:Deed):Prop:=(((((!(aH a2.no 0 1048576)) ||(!(aH a2.at_ 0 4096))) ||(!(aH a2.known 0 1048576))) ||(!(i0 a2)))=false→(a0.farms.length≤a7→(a0.rights.length≤a7→(((aH a2.right 0 (i64.wrap ((a0.rights.length:Int) - 1)))=true→(0≤a2.right∧a2.right< (a0.rights.length:Int)))∧((a2.kind==1)=false→((a2.kind==2)=true→((((aH a2.right 0 (i64.wrap ((a0.rights.length:Int) - 1)))&&((a0.rights.getD (Int.toNat a2.right) (default:Right)).kind==1))&&(aH a2.since 0 (i64.wrap ((a0.farms.length:Int) - 1))))=true→(iD a0 a2.parts))))))))
@[go_sem] def pj:List SV→Option Con:=(pD .district fun a0=>(pM .int .deed fun a1=>(pD .deed fun a2=>(pE (.det (jk a0 a1 a2) (.v (.bool (b6 a0 a1 a2))))))))
theorem uO:FnOk Tryz.prog 49 pj:=by
 have hG:ConsOk Tryz.prog (mkG [(39,kO),(85,fun l=>pi (dH [.st .deed] l)),(86,fun l=>oj (dH [.st .district,.sl .part] l))] []):=ay (cgc mM (cgc (uN.norm [.st .deed]) (cgc (tR.norm [.st .district,.sl .part]) cg0))) cg0;refine ba [.o] mixed an hG (fn:=Tryz.f49) (c:=ae Tryz.f49) kr kr kr kr (aW fun a0=>(PC fun a1=>(aW fun a2=>(aG (fun hp=>?_)))));dsimp only[aF]at hp;unfold jk at hp;refine⟨nbl rfl,L0,ai _,?_⟩
 ·unfold ae Tryz.f49;try unfold b6
  exact zq1
def c6 (x:Deed):Bool:=(decide ((x.parts.length:Int) > 16))
@[go_sem] def mN:List SV→Option Con:=(pD .deed fun x=>(pE (.det True (.v (.bool (c6 x))))))
theorem ru:FnOk Tryz.prog 48 mN:=by
 have hG:ConsOk Tryz.prog (mkG [] []):=ay cg0 cg0;refine ba [.o] mixed an hG (fn:=Tryz.f48) (c:=ae Tryz.f48) kr kr kr kr (aW fun x=>(aG (fun hp=>?_)));dsimp only[aF]at hp;refine⟨nbl rfl,L0,ai _,?_⟩
 ·unfold ae Tryz.f48;try unfold c6
  exact zq1
@[go_sem] def bO (s_:List Deed)(k_0:Nat)(s_0:Unit):Int⊕Unit:=(bif(c6 (s_.getD k_0 (default:Deed)))then .inl (k_0:Int)else .inr ())
def cT (s_:List Deed):Int:=(match aq (bO s_) s_.length 0 ()with| .inl x_0_0=>x_0_0| .inr s_0=>(-1))
@[go_sem] def dD:List SV→Option Con:=(pR .deed fun s_=>(pFn 48 (pE ((pE (.det True (.v (.int .i64 (cT s_)))))))))
theorem eQ:FnOk Tryz.prog 84 dD:=by
 have hG:ConsOk Tryz.prog (mkG [(48,fun l=>mN (dH [.st .deed] l))] []):=ay (cgc (ru.norm [.st .deed]) cg0) cg0;refine ba [.o] mixed an hG (fn:=Tryz.f84) (c:=ae Tryz.f84) kr kr kr kr (ef fun s_=>(tF (aG ((aG (fun hp=>?_))))));dsimp only[aF]at hp;refine⟨nbl rfl,(fun id st=>bif Nat.beq id 0 then some (LCR (ρ:=Int) (σ:=Unit) 0 [] [] (fun k_0 s_0=>⟨[(0,.rs .deed s_),(1,.fn 48 [] []),(7,.v (.int .i64 (s_.length:Int))),(8,.v (.int .i64 (k_0:Int)))],[]⟩) (bO s_) pT s_.length () (s_.length≤a7) (fun _=>.ret) (fun x_0_0=>⟨[(4,.v (.int .i64 x_0_0))],[]⟩) st)else none),?_,?_⟩
 ·unfold ae Tryz.f84;simp only[am,true_and,and_true]
  ·refine dg mixed an hG kr (fun _=>rfl) (s_.length:Int) rfl iO (fun hb0 k_0 s_0 hlt0 _ hw hc=>⟨L0,ai _,?_⟩) (fun hb0 s_0 hc=>?_)
   ·exact cm (jl [])
   ·exact cn (jl [])
 ·unfold ae Tryz.f84;try unfold cT
  exact zq1
@[go_sem] noncomputable def dx:List SV→Option Con:=fun l=>(dD l)
theorem il:FnOk Tryz.prog 84 dx:=eQ
def aX (s_:List Deed):Bool:=(decide ((cT s_)≥0))
@[go_sem] def eB:List SV→Option Con:=(pR .deed fun s_=>(pFn 48 (pE ((pE (.det True (.v (.bool (aX s_)))))))))
theorem zq71 {p:Prop}(h:p:=by simp only[go_sem,Nat.reduceBEq,Nat.reduceLeDiff,Nat.reduceLT,decide_true,Nat.reduceAdd,Nat.reduceSub,Nat.reduceMul,Int.reduceLE,Int.reduceLT,Int.reduceToNat,Int.reduceNeg,reduceCtorEq,dx];all_goals exact cl):p:=h
theorem gR:FnOk Tryz.prog 47 eB:=by
 have hG:ConsOk Tryz.prog (mkG [(84,fun l=>dx (dH [.sl .deed,.o] l))] []):=ay (cgc (il.norm [.sl .deed,.o]) cg0) cg0;refine ba [.o] mixed an hG (fn:=Tryz.f47) (c:=ae Tryz.f47) kr kr kr kr (ef fun s_=>(tF (aG ((aG (fun hp=>?_))))));dsimp only[aF]at hp;refine⟨nbl rfl,L0,ai _,?_⟩
 ·unfold ae Tryz.f47;try unfold aX
  exact zq71
@[go_sem] def d7 (d:District)(l_:List Deed)(k_0:Nat)(s_0:List (Int×Deed)):Unit⊕(List (Int×Deed)):=(bif(((decide ((k_0:Int) > 0))&&(decide ((l_.getD k_0 (default:Deed)).no≤(l_.getD (Int.toNat (i64.wrap ((k_0:Int) - 1))) (default:Deed)).no))) ||(!(b6 d s_0 (l_.getD k_0 (default:Deed)))))then .inl ()else .inr (eU .int .deed s_0 ((l_.getD k_0 (default:Deed)).no) (l_.getD k_0 (default:Deed))))
def iQ (d:District)(l_:List Deed)(k_0:Nat)(s_0:List (Int×Deed)):Prop:=(((decide ((k_0:Int) > 0))=true→(0≤(i64.wrap ((k_0:Int) - 1))∧(i64.wrap ((k_0:Int) - 1)) < (l_.length:Int)))∧(((decide ((k_0:Int) > 0))&&(decide ((l_.getD k_0 (default:Deed)).no≤(l_.getD (Int.toNat (i64.wrap ((k_0:Int) - 1))) (default:Deed)).no)))=false→(jk d s_0 (l_.getD k_0 (default:Deed)))))
def ar (d:District)(l_:List Deed):Int:=(bif((aw d) !=0)then(aw d)else(bif((decide ((l_.length:Int) > 512)) ||(aX l_))then 2 else(match aq (d7 d l_) l_.length 0 ([])with| .inl x_0_0=>250| .inr s_0=>0)))
def f_ (d:District)(l_:List Deed):Prop:=(((aw d) !=0)=false→(l_.length≤a7→(((decide ((l_.length:Int) > 512)) ||(aX l_))=false→(l_.length≤a7→okI (d7 d l_) (iQ d l_) l_.length 0 ([])))))
@[go_sem] def kC:List SV→Option Con:=(pD .district fun d=>(pR .deed fun l_=>(pE (.det (f_ d l_) (.v (.int .i64 (ar d l_)))))))
theorem nu:FnOk Tryz.prog 26 kC:=by
 have hG:ConsOk Tryz.prog (mkG [(34,fun l=>jS (dH [.st .district] l)),(47,fun l=>eB (dH [.sl .deed,.o] l)),(49,fun l=>pj (dH [.st .district,.mp .int .deed,.st .deed] l))] []):=ay (cgc (lF.norm [.st .district]) (cgc (gR.norm [.sl .deed,.o]) (cgc (uO.norm [.st .district,.mp .int .deed,.st .deed]) cg0))) cg0;refine ba [.o] mixed an hG (fn:=Tryz.f26) (c:=ae Tryz.f26) kr kr kr kr (aW fun d=>(ef fun l_=>(aG (fun hp=>?_))));dsimp only[aF]at hp;unfold f_ at hp;refine⟨nbl rfl,(fun id st=>bif Nat.beq id 0 then some (LCR (ρ:=Unit) (σ:=(List (Int×Deed))) 2 [] [0,1] (fun k_0 s_0=>⟨[(1,.rs .deed l_),(2,.ptr 0 0),(5,.os 1),(21,.rs .deed l_),(22,.v (.int .i64 (l_.length:Int))),(23,.v (.int .i64 (k_0:Int)))],[.cells (cellsOf .district d),.mp .int .deed s_0 none]⟩) (d7 d l_) (iQ d l_) l_.length ([]) (l_.length≤a7) (fun _=>.ret) (fun x_0_0=>⟨[(4,.v (.int .i64 250))],[.dead,.dead]⟩) st)else none),?_,?_⟩
 ·unfold ae Tryz.f26;simp only[am,true_and,and_true]
  ·refine dg mixed an hG kr (fun _=>rfl) (l_.length:Int) rfl iO (fun hb0 k_0 s_0 hlt0 hq0 hw hc=>⟨L0,ai _,?_⟩) (fun hb0 s_0 hc=>?_)
   ·unfold iQ at hq0;try simp only[hw,Int.toNat_natCast]at hq0
    exact cm (jl [0,1])
   ·exact cn (jl [0,1])
 ·unfold ae Tryz.f26;try unfold ar
  exact zq1
end Go.Sx
end
section
namespace Go.Sx
open Go.RowKit
def pXM {α:Type 1}(t t2:Tag)(k:List (t.T×t2.T)→List SV→Option α):List SV→Option α
 | .ep [s] 0::r=>pM t t2 k (s::r)
 |_=>none
@[go_sem] theorem Ud {α:Type 1}{t t2:Tag}{k:List (t.T×t2.T)→List SV→Option α}{s:SV}{r:List SV}:pXM t t2 k (.ep [s] 0::r)=pM t t2 k (s::r):=(rfl)
theorem F_ {α:Type 1}{G:List SV→α→Prop}{t t2:Tag}{k:List (t.T×t2.T)→List SV→Option α}(h:∀ n l c,k n l=some c→G (.ep [.rm t t2 n] 0::l) c):∀ l c,pXM t t2 k l=some c→G l c:=fun l c hc=>by
 unfold pXM at hc;split at hc
 ·obtain⟨x,r,e,h1⟩:=Jb hc;simp only[List.cons.injEq]at e;obtain⟨rfl,rfl⟩:=e;exact h x _ c h1
 ·cases hc
section
universe u
variable {α:Type u}{G:List SV→α→Prop}
def pLS (k:List SV→Option (List SV→Option α)):List SV→Option α
 | .ls l::r=>apO (k l) r
 |_=>none
@[go_sem] theorem WQ {k:List SV→Option (List SV→Option α)}{l r:List SV}:pLS k (.ls l::r)=apO (k l) r:=(rfl)
end
open Classical in
noncomputable def gS {τ:Type}(A:τ→List SV)(H:τ→List Ob)(K:τ→HCon):List SV→List Ob→Option HCon:=fun l h=>if e:∃ x,l=A x∧h=H x then some (K e.choose)else none
theorem JT (x:Deed):(⟨x.no,x.kind,x.right,x.since,x.to,x.parts,x.of_,x.at_,x.known⟩:Deed)=x:=rfl
theorem A9 (d:District):(⟨d.name,d.hours,⟨d.tank.cap,d.tank.start⟩,d.reaches,d.farms,d.crops,d.rights,d.duties,d.wells⟩:District)=d:=rfl
theorem HA {k:Tag}{x y:k.T}:cellsOf k x=cellsOf k y↔x=y:=⟨fun h=>by
 have h1:=qS x;rw[h,qS y]at h1;exact(Option.some.inj h1).symm,fun h=>by rw[h]⟩
theorem fh {τ:Type}{A:τ→List SV}{H:τ→List Ob}{K:τ→HCon}{x:τ}(inj:∀ x y,A x=A y→H x=H y→x=y:=by
 intro x y h1 h2;simp only[List.cons.injEq,SV.agg.injEq,SV.ep.injEq,SV.v.injEq,Value.int.injEq,Value.bool.injEq,Value.string.injEq,SV.fn.injEq,SV.rs.injEq,SV.rm.injEq,Ob.row.injEq,Ob.mp.injEq,Ob.cells.injEq,Ob.grid.injEq,heq_eq_eq,HA,true_and,and_true]at h1 h2;first|exact h2|exact h1|(simp_all [Prod.ext_iff];done)):gS A H K (A x) (H x)=some (K x):=by
 have e:∃ y,A x=A y∧H x=H y:=⟨x,rfl,rfl⟩;unfold gS;rw[dif_pos e];have:=inj _ _ e.choose_spec.1 e.choose_spec.2;rw[←this]
theorem dP {τ:Type}{A:τ→List SV}{H:τ→List Ob}{K:τ→HCon}{l:List SV}{h:List Ob}{c:HCon}(hh:gS A H K l h=some c):∃ x,l=A x∧h=H x∧c=K x:=by
 unfold gS at hh;split at hh
 ·rename_i e;simp only[Option.some.injEq]at hh;exact⟨e.choose,e.choose_spec.1,e.choose_spec.2,hh.symm⟩
 ·cases hh
end Go.Sx
end
section
namespace Go.Sx
open Go.Proofs
open IntKind (i64)
@[go_sem] def lT:List SV→Option Con:=pR .deed fun l=>pE (.det (l.length*88≤eu) (.nw .deed l))
theorem qD:FnOk Tryz.prog 72 lT:=by
 have hG:ConsOk Tryz.prog (mkG [] []):=ay cg0 cg0;refine oS [(.tmp 2,.deed)] mixed an hG (fn:=Tryz.f72) (c:=ae Tryz.f72) kr kr kr kr (ef fun l=>aG fun hp=>?_);dsimp only[aF]at hp;refine⟨nbl rfl,L0,ai _,?_⟩;unfold ae Tryz.f72;simp only[go_sem,Nat.reduceBEq,Nat.reduceLeDiff,Nat.reduceAdd,Nat.reduceSub,Nat.reduceMul,Int.reduceLE,Int.reduceLT,Int.reduceToNat,Int.reduceNeg,reduceCtorEq];intro b hb;refine⟨fun h=>?_,fun _=>⟨hp,fun _=>rfl⟩⟩;have hl:=hb h;subst hl;rfl
theorem gH {l0 l1:List Nat}(a0:JL l0)(a1:JL l1){p:Prop}(h:JL l0→JL l1→p:=by intro ja jb;(first|done|(repeat' (first|with_reducible refine And.intro ?_ ?_|((with_reducible show _≠_);first|assumption|omega|(simp_all [eW,fA];done) |grind) |with_reducible intro _)) <;>(first|done|with_reducible exact Empty.elim ‹Empty› |with_reducible assumption|rfl|omega|assumption|decide|exact fk ja|exact fk jb|exact czl|(simp only[*,cond_true,cond_false,Bool.not_true,Bool.not_false,go_sem,Nat.reduceBEq,Nat.reduceLeDiff,Nat.reduceLT,decide_true,Nat.reduceAdd,Nat.reduceSub,Nat.reduceMul,Int.reduceLE,Int.reduceLT,Int.reduceToNat,Int.reduceNeg,reduceCtorEq];(repeat' (first|with_reducible refine And.intro ?_ ?_|((with_reducible show _≠_);first|assumption|omega|(simp_all [eW,fA];done) |grind) |with_reducible intro _)) <;>(first|done|assumption|rfl|omega|decide|exact fk ja|exact fk jb|(simp_all [eW,fA];done))) |(simp_all [okI,eW,fA];done) |(simp_all [eW,fA];(first|done|exact fk2 ja|exact fk2 jb)) |exact fk2 ja|exact fk2 jb))):p:=h a0 a1
def aR (x:Deed)(known:Int)(hour:Int)(void_:List (Int×Bool)):Bool:=((((x.kind==4) ||(decide (x.known > known))) ||(decide (x.at_ > hour))) ||(bF .int .bool void_ x.no))
@[go_sem] def gT:List SV→Option Con:=(pD .deed fun x=>(pX .int fun known=>(pX .int fun hour=>(pXM .int .bool fun void_=>(pE (.det True (.v (.bool (aR x known hour void_)))))))))
theorem jU:FnOk Tryz.prog 73 gT:=by
 have hG:ConsOk Tryz.prog (mkG [] []):=ay cg0 cg0;refine ba [.o] mixed an hG (fn:=Tryz.f73) (c:=ae Tryz.f73) kr kr kr kr (aW fun x=>(qh fun known=>(qh fun hour=>(F_ fun void_=>(aG (fun hp=>?_))))));dsimp only[aF]at hp;refine⟨nbl rfl,L0,ai _,?_⟩
 ·unfold ae Tryz.f73;try unfold aR
  exact zq1
def cD (a:Deed)(b:Deed):Int:=(b8 a.at_ b.at_)
@[go_sem] def gW:List SV→Option Con:=(pD .deed fun a=>(pD .deed fun b=>(pE (.det True (.v (.int .i64 (cD a b)))))))
theorem jV:FnOk Tryz.prog 75 gW:=by
 have hG:ConsOk Tryz.prog (mkG [(45,fH)] []):=ay (cgc gq cg0) cg0;refine ba [.o] mixed an hG (fn:=Tryz.f75) (c:=ae Tryz.f75) kr kr kr kr (aW fun a=>(aW fun b=>(aG (fun hp=>?_))));dsimp only[aF]at hp;refine⟨nbl rfl,L0,ai _,?_⟩
 ·unfold ae Tryz.f75;try unfold cD
  exact zq1
@[go_sem] def df (s_:List Deed)(known:Int)(hour:Int)(void_:List (Int×Bool))(k_0:Nat)(s_0:Unit):Int⊕Unit:=(bif(aR (s_.getD k_0 (default:Deed)) known hour void_)then .inl (k_0:Int)else .inr ())
def aj (s_:List Deed)(known:Int)(hour:Int)(void_:List (Int×Bool)):Int:=(match aq (df s_ known hour void_) s_.length 0 ()with| .inl x_0_0=>x_0_0| .inr s_0=>(-1))
@[go_sem] def eK:List SV→Option Con:=(pR .deed fun s_=>(pFn 73 (pX .int fun known=>(pX .int fun hour=>(pXM .int .bool fun void_=>(pE ((pE (.det True (.v (.int .i64 (aj s_ known hour void_))))))))))))
theorem g8:FnOk Tryz.prog 84 eK:=by
 have hG:ConsOk Tryz.prog (mkG [(73,fun l=>gT (dH [.st .deed,.o,.o,.o] l))] []):=ay (cgc (jU.norm [.st .deed,.o,.o,.o]) cg0) cg0;refine ba [.o] mixed an hG (fn:=Tryz.f84) (c:=ae Tryz.f84) kr kr kr kr (ef fun s_=>(tF (qh fun known=>(qh fun hour=>(F_ fun void_=>(aG ((aG (fun hp=>?_)))))))));dsimp only[aF]at hp;refine⟨nbl rfl,(fun id st=>bif Nat.beq id 0 then some (LCR (ρ:=Int) (σ:=Unit) 0 [] [] (fun k_0 s_0=>⟨[(0,.rs .deed s_),(1,.fn 73 [] [.ep [.v (.int .i64 known)] 0,.ep [.v (.int .i64 hour)] 0,.ep [.rm .int .bool void_] 0]),(7,.v (.int .i64 (s_.length:Int))),(8,.v (.int .i64 (k_0:Int)))],[]⟩) (df s_ known hour void_) pT s_.length () (s_.length≤a7) (fun _=>.ret) (fun x_0_0=>⟨[(4,.v (.int .i64 x_0_0))],[]⟩) st)else none),?_,?_⟩
 ·unfold ae Tryz.f84;simp only[am,true_and,and_true]
  ·refine dg mixed an hG kr (fun _=>rfl) (s_.length:Int) rfl iO (fun hb0 k_0 s_0 hlt0 _ hw hc=>⟨L0,ai _,?_⟩) (fun hb0 s_0 hc=>?_)
   ·exact cm (jl [])
   ·exact cn (jl [])
 ·unfold ae Tryz.f84;try unfold aj
  exact zq1
@[go_sem] noncomputable def dy:List SV→Option Con:=fun l=>(orC (dD l) (eK l))
theorem im:FnOk Tryz.prog 84 dy:=(FnOk.or eQ g8)
@[go_sem] def aK (l_:List Deed)(known:Int)(hour:Int)(void_:List (Int×Bool))(k_0:Nat)(s_0:List Deed×Int×Int):(Int×List Deed)⊕(List Deed×Int×Int):=(bif(decide (s_0.2.2< (s_0.1.length:Int)))then(bif(!(aR (s_0.1.getD (Int.toNat s_0.2.2) (default:Deed)) known hour void_))then .inr ((s_0.1.set (Int.toNat s_0.2.1) (s_0.1.getD (Int.toNat s_0.2.2) (default:Deed))),(i64.wrap (s_0.2.1+1)),(i64.wrap (s_0.2.2+1)))else .inr (s_0.1,s_0.2.1,(i64.wrap (s_0.2.2+1))))else .inl (s_0.2.1,s_0.1))
def bG (l_:List Deed)(known:Int)(hour:Int)(void_:List (Int×Bool))(k_0:Nat)(s_0:List Deed×Int×Int):Prop:=(s_0.1.length≤a7→((decide (s_0.2.2< (s_0.1.length:Int)))=true→((0≤s_0.2.2∧s_0.2.2< (s_0.1.length:Int))∧((!(aR (s_0.1.getD (Int.toNat s_0.2.2) (default:Deed)) known hour void_))=true→(0≤s_0.2.1∧s_0.2.1< (s_0.1.length:Int))))))
def aU (l_:List Deed)(known:Int)(hour:Int)(void_:List (Int×Bool)):List Deed:=(bif((aj l_ known hour void_) ==(-1))then l_ else(match aq (aK l_ known hour void_) (l_.length+1) 0 (l_,(aj l_ known hour void_),(i64.wrap ((aj l_ known hour void_)+1)))with| .inl x_0_0=>(((wK .deed x_0_0.2 x_0_0.1 (x_0_0.2.length:Int)).take (Int.toNat x_0_0.1)).drop 0) | .inr s_0=>default))
def aY (l_:List Deed)(known:Int)(hour:Int)(void_:List (Int×Bool)):Prop:=(((aj l_ known hour void_) ==(-1))=false→(okI (aK l_ known hour void_) (bG l_ known hour void_) (l_.length+1) 0 (l_,(aj l_ known hour void_),(i64.wrap ((aj l_ known hour void_)+1)))∧(∀ z_,aq (aK l_ known hour void_) (l_.length+1) 0 (l_,(aj l_ known hour void_),(i64.wrap ((aj l_ known hour void_)+1)))≠ .inr z_)∧(∀ x_0_0,aq (aK l_ known hour void_) (l_.length+1) 0 (l_,(aj l_ known hour void_),(i64.wrap ((aj l_ known hour void_)+1)))=.inl x_0_0→((0≤x_0_0.1∧x_0_0.1≤(x_0_0.2.length:Int))∧(0≤0∧0≤x_0_0.1∧x_0_0.1≤((wK .deed x_0_0.2 x_0_0.1 (x_0_0.2.length:Int)).length:Int))))))
noncomputable def dz:List SV→List Ob→Option HCon:=gS (fun x_:(List Deed)×Int×Int×(List (Int×Bool)) =>[.os 0,.fn 73 [] [.ptr 1 0,.ptr 2 0,.ptr 3 0]]) (fun x_=>[.row .deed x_.1,.cells [.v (.int .i64 x_.2.1)],.cells [.v (.int .i64 x_.2.2.1)],.cells [.os 4],.mp .int .bool x_.2.2.2 none]) (fun x_=>eX (aY x_.1 x_.2.1 x_.2.2.1 x_.2.2.2) (.os 5) [.dead,.cells [.v (.int .i64 x_.2.1)],.cells [.v (.int .i64 x_.2.2.1)],.cells [.os 4],.mp .int .bool x_.2.2.2 none,.row .deed (aU x_.1 x_.2.1 x_.2.2.1 x_.2.2.2)])
@[go_sem] theorem pw (l_:List Deed)(known:Int)(hour:Int)(void_:List (Int×Bool)){p4_:Option (Nat×Option Tag.int.T)}(hp4_:p4_=none):dz ([.os 0,.fn (73:Nat) [] [.ptr 1 0,.ptr 2 0,.ptr 3 0]]) ([.row .deed l_,.cells [.v (.int .i64 known)],.cells [.v (.int .i64 hour)],.cells [.os 4],.mp .int .bool void_ p4_])=some (eX (aY l_ known hour void_) (.os 5) [.dead,.cells [.v (.int .i64 known)],.cells [.v (.int .i64 hour)],.cells [.os 4],.mp .int .bool void_ none,.row .deed (aU l_ known hour void_)]):=by
 subst hp4_;exact fh (A:=fun x_:(List Deed)×Int×Int×(List (Int×Bool)) =>[.os 0,.fn 73 [] [.ptr 1 0,.ptr 2 0,.ptr 3 0]]) (H:=fun x_=>[.row .deed x_.1,.cells [.v (.int .i64 x_.2.1)],.cells [.v (.int .i64 x_.2.2.1)],.cells [.os 4],.mp .int .bool x_.2.2.2 none]) (K:=fun x_=>eX (aY x_.1 x_.2.1 x_.2.2.1 x_.2.2.2) (.os 5) [.dead,.cells [.v (.int .i64 x_.2.1)],.cells [.v (.int .i64 x_.2.2.1)],.cells [.os 4],.mp .int .bool x_.2.2.2 none,.row .deed (aU x_.1 x_.2.1 x_.2.2.1 x_.2.2.2)]) (x:=(l_,known,hour,void_))
theorem zq76 {l0 l1:List Nat}(a0:JL l0)(a1:JL l1){p:Prop}(h:JL l0→JL l1→p:=by intro ja jb;simp only[go_sem,Nat.reduceBEq,Nat.reduceLeDiff,Nat.reduceLT,decide_true,Nat.reduceAdd,Nat.reduceSub,Nat.reduceMul,Int.reduceLE,Int.reduceLT,Int.reduceToNat,Int.reduceNeg,reduceCtorEq,dy];all_goals exact gH ja jb):p:=h a0 a1
theorem io:FnOkO Tryz.prog 71 (dz):=by
 have hG:ConsOk Tryz.prog (mkG [(73,fun l=>gT (dH [.st .deed,.o,.o,.o] l)),(84,fun l=>dy (dH [.sl .deed,.o] l))] []):=ay (cgc (jU.norm [.st .deed,.o,.o,.o]) (cgc (im.norm [.sl .deed,.o]) cg0)) cg0;refine fY mixed an hG (fn:=Tryz.f71) (c:=ae Tryz.f71) kr kr kr kr fun l o con h=>?_;obtain⟨⟨l_,known,hour,void_⟩,rfl,rfl,rfl⟩:=dP h;clear h;try dsimp only
 refine⟨_,_,_,rfl,fun hp=>?_⟩;unfold aY at hp;refine⟨nbl rfl,(fun id st=>bif Nat.beq id 0 then some (LCV (ρ:=(Int×List Deed)) (σ:=(List Deed×Int×Int)) 5 [] [0,1,2,3,4] (fun k_0 s_0=>⟨[(0,.os 0),(1,.fn 73 [] [.ptr 1 0,.ptr 2 0,.ptr 3 0]),(5,.v (.int .i64 s_0.2.1)),(6,.v (.int .i64 s_0.2.2))],[.row .deed s_0.1,.cells [.v (.int .i64 known)],.cells [.v (.int .i64 hour)],.cells [.os 4],.mp .int .bool void_ none]⟩) (aK l_ known hour void_) (bG l_ known hour void_) (l_.length+1) (l_,(aj l_ known hour void_),(i64.wrap ((aj l_ known hour void_)+1))) (fun _=>.normal) (fun x_0_0=>⟨[(0,.os 0),(5,.v (.int .i64 x_0_0.1))],[.row .deed x_0_0.2,.cells [.v (.int .i64 known)],.cells [.v (.int .i64 hour)],.cells [.os 4],.mp .int .bool void_ none]⟩) st)else none),?_,?_⟩
 ·unfold ae Tryz.f71;simp only[am,true_and,and_true,and_assoc]
  ·refine fu mixed an hG kr (fun _=>rfl) fun k_0 s_0 hq0=>⟨L0,ai _,?_⟩
   ·unfold bG at hq0;exact cV (jl [0,1,2,3,4])
 ·unfold ae Tryz.f71;try unfold aU
  exact zq76 (jl [0,1,2,3,4,0]) (jl [0,1,2,3,4,5])
@[go_sem] def aI (a:Int)(l_:List Deed)(k_1:Nat)(s_1:List Deed×Int):(List Deed)⊕(List Deed×Int):=(bif((decide (s_1.2 > a))&&(decide ((cD (s_1.1.getD (Int.toNat s_1.2) (default:Deed)) (s_1.1.getD (Int.toNat (i64.wrap (s_1.2 - 1))) (default:Deed))) <0)))then .inr (((s_1.1.set (Int.toNat s_1.2) (s_1.1.getD (Int.toNat (i64.wrap (s_1.2 - 1))) (default:Deed))).set (Int.toNat (i64.wrap (s_1.2 - 1))) (s_1.1.getD (Int.toNat s_1.2) (default:Deed))),(i64.wrap (s_1.2 - 1)))else .inl s_1.1)
def a8 (a:Int)(l_:List Deed)(k_1:Nat)(s_1:List Deed×Int):Prop:=(((decide (s_1.2 > a))=true→(0≤s_1.2∧s_1.2< (s_1.1.length:Int)))∧(((decide (s_1.2 > a))=true→(0≤(i64.wrap (s_1.2 - 1))∧(i64.wrap (s_1.2 - 1)) < (s_1.1.length:Int)))∧(((decide (s_1.2 > a))&&(decide ((cD (s_1.1.getD (Int.toNat s_1.2) (default:Deed)) (s_1.1.getD (Int.toNat (i64.wrap (s_1.2 - 1))) (default:Deed))) <0)))=true→((0≤(i64.wrap (s_1.2 - 1))∧(i64.wrap (s_1.2 - 1)) < (s_1.1.length:Int))∧((0≤s_1.2∧s_1.2< (s_1.1.length:Int))∧((0≤s_1.2∧s_1.2< (s_1.1.length:Int))∧(0≤(i64.wrap (s_1.2 - 1))∧(i64.wrap (s_1.2 - 1)) < ((s_1.1.set (Int.toNat s_1.2) (s_1.1.getD (Int.toNat (i64.wrap (s_1.2 - 1))) (default:Deed))).length:Int))))))))
@[go_sem] def aB (a:Int)(b:Int)(l_:List Deed)(k_0:Nat)(s_0:List Deed×Int):(List Deed)⊕(List Deed×Int):=(bif(decide (s_0.2<b))then(match aq (aI a l_) (l_.length+1) 0 (s_0.1,s_0.2)with| .inl x_1_0=>.inr (x_1_0,(i64.wrap (s_0.2+1))) | .inr s_1=>.inr default)else .inl s_0.1)
def aQ (a:Int)(b:Int)(l_:List Deed)(k_0:Nat)(s_0:List Deed×Int):Prop:=((decide (s_0.2<b))=true→(okI (aI a l_) (a8 a l_) (l_.length+1) 0 (s_0.1,s_0.2)∧(∀ z_,aq (aI a l_) (l_.length+1) 0 (s_0.1,s_0.2)≠ .inr z_)))
def ax (a:Int)(b:Int)(l_:List Deed):List Deed:=(match aq (aB a b l_) (l_.length+1) 0 (l_,(i64.wrap (a+1)))with| .inl x_0_0=>x_0_0| .inr s_0=>default)
def aL (a:Int)(b:Int)(l_:List Deed):Prop:=(okI (aB a b l_) (aQ a b l_) (l_.length+1) 0 (l_,(i64.wrap (a+1)))∧(∀ z_,aq (aB a b l_) (l_.length+1) 0 (l_,(i64.wrap (a+1)))≠ .inr z_))
noncomputable def dh:List SV→List Ob→Option HCon:=gS (fun x_:Int×Int×(List Deed) =>[.os 0,.v (.int .i64 x_.1),.v (.int .i64 x_.2.1),.fn 75 [] []]) (fun x_=>[.row .deed x_.2.2]) (fun x_=>eX (aL x_.1 x_.2.1 x_.2.2) (.tup []) [.row .deed (ax x_.1 x_.2.1 x_.2.2)])
@[go_sem] theorem pl (a:Int)(b:Int)(l_:List Deed):dh ([.os 0,.v (.int .i64 a),.v (.int .i64 b),.fn 75 [] []]) ([.row .deed l_])=some (eX (aL a b l_) (.tup []) [.row .deed (ax a b l_)]):=fh (A:=fun x_:Int×Int×(List Deed) =>[.os 0,.v (.int .i64 x_.1),.v (.int .i64 x_.2.1),.fn 75 [] []]) (H:=fun x_=>[.row .deed x_.2.2]) (K:=fun x_=>eX (aL x_.1 x_.2.1 x_.2.2) (.tup []) [.row .deed (ax x_.1 x_.2.1 x_.2.2)]) (x:=(a,b,l_))
theorem g9:FnOkO Tryz.prog 148 (dh):=by
 have hG:ConsOk Tryz.prog (mkG [(75,fun l=>gW (dH [.st .deed,.st .deed] l))] []):=ay (cgc (jV.norm [.st .deed,.st .deed]) cg0) cg0;refine fY mixed an hG (fn:=Tryz.f148) (c:=ae Tryz.f148) kr kr kr kr fun l o con h=>?_;obtain⟨⟨a,b,l_⟩,rfl,rfl,rfl⟩:=dP h;clear h;try dsimp only
 refine⟨_,_,_,rfl,fun hp=>?_⟩;unfold aL at hp;refine⟨nbl rfl,(fun id st=>bif Nat.beq id 0 then some (LCV (ρ:=(List Deed)) (σ:=(List Deed×Int)) 1 [] [0] (fun k_0 s_0=>⟨[(0,.os 0),(1,.v (.int .i64 a)),(2,.v (.int .i64 b)),(3,.fn 75 [] []),(8,.v (.int .i64 s_0.2))],[.row .deed s_0.1]⟩) (aB a b l_) (aQ a b l_) (l_.length+1) (l_,(i64.wrap (a+1))) (fun _=>.normal) (fun x_0_0=>⟨[],[.row .deed x_0_0]⟩) st)else none),?_,?_⟩
 ·unfold ae Tryz.f148;simp only[am,true_and,and_true,and_assoc]
  ·refine fu mixed an hG kr (fun _=>rfl) fun k_0 s_0 hq0=>⟨(fun id st=>bif Nat.beq id 2 then some (LCV (ρ:=(List Deed)) (σ:=(List Deed×Int)) 1 [] [0] (fun k_1 s_1=>⟨[(0,.os 0),(1,.v (.int .i64 a)),(2,.v (.int .i64 b)),(3,.fn 75 [] []),(8,.v (.int .i64 s_0.2)),(9,.v (.int .i64 s_1.2))],[.row .deed s_1.1]⟩) (aI a l_) (a8 a l_) (l_.length+1) (s_0.1,s_0.2) (fun _=>.normal) (fun x_1_0=>⟨[(0,.os 0),(1,.v (.int .i64 a)),(2,.v (.int .i64 b)),(3,.fn 75 [] []),(8,.v (.int .i64 s_0.2))],[.row .deed x_1_0]⟩) st)else none),?_,?_⟩
   ·simp only[am,true_and,and_true]
    ·refine fu mixed an hG kr (fun _=>rfl) fun k_1 s_1 hq1=>⟨L0,ai _,?_⟩
     ·unfold a8 at hq1;exact cV (jl [0])
   ·unfold aQ at hq0;exact cV (jl [0])
 ·unfold ae Tryz.f148;try unfold ax
  exact cV (jl [0])
@[go_sem] def bC (a:Int)(b:Int)(n:Int)(k_0:Nat)(s_0:List Deed):Empty⊕(List Deed):=.inr ((s_0.set (Int.toNat (i64.wrap (a+(k_0:Int)))) (s_0.getD (Int.toNat (i64.wrap (b+(k_0:Int)))) (default:Deed))).set (Int.toNat (i64.wrap (b+(k_0:Int)))) (s_0.getD (Int.toNat (i64.wrap (a+(k_0:Int)))) (default:Deed)))
def bP (a:Int)(b:Int)(n:Int)(k_0:Nat)(s_0:List Deed):Prop:=((0≤(i64.wrap (b+(k_0:Int)))∧(i64.wrap (b+(k_0:Int))) < (s_0.length:Int))∧((0≤(i64.wrap (a+(k_0:Int)))∧(i64.wrap (a+(k_0:Int))) < (s_0.length:Int))∧((0≤(i64.wrap (a+(k_0:Int)))∧(i64.wrap (a+(k_0:Int))) < (s_0.length:Int))∧(0≤(i64.wrap (b+(k_0:Int)))∧(i64.wrap (b+(k_0:Int))) < ((s_0.set (Int.toNat (i64.wrap (a+(k_0:Int)))) (s_0.getD (Int.toNat (i64.wrap (b+(k_0:Int)))) (default:Deed))).length:Int)))))
def aS (a:Int)(b:Int)(n:Int)(l_:List Deed):List Deed:=(match aq (bC a b n) (Int.toNat n) 0 l_ with| .inl x=>x.elim| .inr s_0=>s_0)
def aO (a:Int)(b:Int)(n:Int)(l_:List Deed):Prop:=((n<9223372036854775808)∧okI (bC a b n) (bP a b n) (Int.toNat n) 0 l_)
noncomputable def dQ:List SV→List Ob→Option HCon:=gS (fun x_:Int×Int×Int×(List Deed) =>[.os 0,.v (.int .i64 x_.1),.v (.int .i64 x_.2.1),.v (.int .i64 x_.2.2.1),.fn 75 [] []]) (fun x_=>[.row .deed x_.2.2.2]) (fun x_=>eX (aO x_.1 x_.2.1 x_.2.2.1 x_.2.2.2) (.tup []) [.row .deed (aS x_.1 x_.2.1 x_.2.2.1 x_.2.2.2)])
@[go_sem] theorem qZ (a:Int)(b:Int)(n:Int)(l_:List Deed):dQ ([.os 0,.v (.int .i64 a),.v (.int .i64 b),.v (.int .i64 n),.fn 75 [] []]) ([.row .deed l_])=some (eX (aO a b n l_) (.tup []) [.row .deed (aS a b n l_)]):=fh (A:=fun x_:Int×Int×Int×(List Deed) =>[.os 0,.v (.int .i64 x_.1),.v (.int .i64 x_.2.1),.v (.int .i64 x_.2.2.1),.fn 75 [] []]) (H:=fun x_=>[.row .deed x_.2.2.2]) (K:=fun x_=>eX (aO x_.1 x_.2.1 x_.2.2.1 x_.2.2.2) (.tup []) [.row .deed (aS x_.1 x_.2.1 x_.2.2.1 x_.2.2.2)]) (x:=(a,b,n,l_))
theorem i6:FnOkO Tryz.prog 183 (dQ):=by
 have hG:ConsOk Tryz.prog (mkG [] []):=ay cg0 cg0;refine fY mixed an hG (fn:=Tryz.f183) (c:=ae Tryz.f183) kr kr kr kr fun l o con h=>?_;obtain⟨⟨a,b,n,l_⟩,rfl,rfl,rfl⟩:=dP h;clear h;try dsimp only
 refine⟨_,_,_,rfl,fun hp=>?_⟩;unfold aO at hp;refine⟨nbl rfl,(fun id st=>bif Nat.beq id 0 then some (LCR (ρ:=Empty) (σ:=(List Deed)) 1 [] [0] (fun k_0 s_0=>⟨[(0,.os 0),(1,.v (.int .i64 a)),(2,.v (.int .i64 b)),(3,.v (.int .i64 n)),(10,.v (.int .i64 (k_0:Int)))],[.row .deed s_0]⟩) (bC a b n) (bP a b n) (Int.toNat n) l_ (n<9223372036854775808) ((·.elim)) ((·.elim)) st)else none),?_,?_⟩
 ·unfold ae Tryz.f183;simp only[am,true_and,and_true,and_assoc]
  ·refine dg mixed an hG kr (fun _=>rfl) n rfl id (fun hb0 k_0 s_0 hlt0 hq0 hw hc=>⟨L0,ai _,?_⟩) (fun hb0 s_0 hc=>?_)
   ·unfold bP at hq0;try simp only[hw,Int.toNat_natCast]at hq0
    exact cm (jl [0])
   ·exact cn (jl [0])
 ·unfold ae Tryz.f183;try unfold aS
  exact cV (jl [0])
@[go_sem] def bf (a:Int)(m:Int)(b:Int)(k_0:Nat)(s_0:List Deed×Int×Int):(Int×List Deed)⊕(List Deed×Int×Int):=(bif(s_0.2.1 !=s_0.2.2)then(bif(decide (s_0.2.1 > s_0.2.2))then .inr ((aS (i64.wrap (m - s_0.2.1)) m s_0.2.2 s_0.1),(i64.wrap (s_0.2.1 - s_0.2.2)),s_0.2.2)else .inr ((aS (i64.wrap (m - s_0.2.1)) (i64.wrap ((i64.wrap (m+s_0.2.2)) - s_0.2.1)) s_0.2.1 s_0.1),s_0.2.1,(i64.wrap (s_0.2.2 - s_0.2.1))))else .inl (s_0.2.1,s_0.1))
def ca (a:Int)(m:Int)(b:Int)(k_0:Nat)(s_0:List Deed×Int×Int):Prop:=((s_0.2.1 !=s_0.2.2)=true→(((decide (s_0.2.1 > s_0.2.2))=true→(aO (i64.wrap (m - s_0.2.1)) m s_0.2.2 s_0.1))∧((decide (s_0.2.1 > s_0.2.2))=false→(aO (i64.wrap (m - s_0.2.1)) (i64.wrap ((i64.wrap (m+s_0.2.2)) - s_0.2.1)) s_0.2.1 s_0.1))))
def av (a:Int)(m:Int)(b:Int)(l_:List Deed):List Deed:=(match aq (bf a m b) (Int.toNat (b - a)+1) 0 (l_,(i64.wrap (m - a)),(i64.wrap (b - m)))with| .inl x_0_0=>(aS (i64.wrap (m - x_0_0.1)) m x_0_0.1 x_0_0.2) | .inr s_0=>default)
def bj (a:Int)(m:Int)(b:Int)(l_:List Deed):Prop:=(okI (bf a m b) (ca a m b) (Int.toNat (b - a)+1) 0 (l_,(i64.wrap (m - a)),(i64.wrap (b - m)))∧(∀ z_,aq (bf a m b) (Int.toNat (b - a)+1) 0 (l_,(i64.wrap (m - a)),(i64.wrap (b - m)))≠ .inr z_)∧(∀ x_0_0,aq (bf a m b) (Int.toNat (b - a)+1) 0 (l_,(i64.wrap (m - a)),(i64.wrap (b - m)))=.inl x_0_0→(aO (i64.wrap (m - x_0_0.1)) m x_0_0.1 x_0_0.2)))
noncomputable def eh:List SV→List Ob→Option HCon:=gS (fun x_:Int×Int×Int×(List Deed) =>[.os 0,.v (.int .i64 x_.1),.v (.int .i64 x_.2.1),.v (.int .i64 x_.2.2.1),.fn 75 [] []]) (fun x_=>[.row .deed x_.2.2.2]) (fun x_=>eX (bj x_.1 x_.2.1 x_.2.2.1 x_.2.2.2) (.tup []) [.row .deed (av x_.1 x_.2.1 x_.2.2.1 x_.2.2.2)])
@[go_sem] theorem sH (a:Int)(m:Int)(b:Int)(l_:List Deed):eh ([.os 0,.v (.int .i64 a),.v (.int .i64 m),.v (.int .i64 b),.fn 75 [] []]) ([.row .deed l_])=some (eX (bj a m b l_) (.tup []) [.row .deed (av a m b l_)]):=fh (A:=fun x_:Int×Int×Int×(List Deed) =>[.os 0,.v (.int .i64 x_.1),.v (.int .i64 x_.2.1),.v (.int .i64 x_.2.2.1),.fn 75 [] []]) (H:=fun x_=>[.row .deed x_.2.2.2]) (K:=fun x_=>eX (bj x_.1 x_.2.1 x_.2.2.1 x_.2.2.2) (.tup []) [.row .deed (av x_.1 x_.2.1 x_.2.2.1 x_.2.2.2)]) (x:=(a,m,b,l_))
theorem jW:FnOkO Tryz.prog 170 (eh):=by
 have hG:ConsOk Tryz.prog (mkG [] [(183,dQ)]):=ay cg0 (cgc i6 cg0);refine fY mixed an hG (fn:=Tryz.f170) (c:=ae Tryz.f170) kr kr kr kr fun l o con h=>?_;obtain⟨⟨a,m,b,l_⟩,rfl,rfl,rfl⟩:=dP h;clear h;try dsimp only
 refine⟨_,_,_,rfl,fun hp=>?_⟩;unfold bj at hp;refine⟨nbl rfl,(fun id st=>bif Nat.beq id 0 then some (LCV (ρ:=(Int×List Deed)) (σ:=(List Deed×Int×Int)) 1 [] [0] (fun k_0 s_0=>⟨[(0,.os 0),(2,.v (.int .i64 m)),(4,.fn 75 [] []),(10,.v (.int .i64 s_0.2.1)),(11,.v (.int .i64 s_0.2.2))],[.row .deed s_0.1]⟩) (bf a m b) (ca a m b) (Int.toNat (b - a)+1) (l_,(i64.wrap (m - a)),(i64.wrap (b - m))) (fun _=>.normal) (fun x_0_0=>⟨[(0,.os 0),(2,.v (.int .i64 m)),(4,.fn 75 [] []),(10,.v (.int .i64 x_0_0.1))],[.row .deed x_0_0.2]⟩) st)else none),?_,?_⟩
 ·unfold ae Tryz.f170;simp only[am,true_and,and_true,and_assoc]
  ·refine fu mixed an hG kr (fun _=>rfl) fun k_0 s_0 hq0=>⟨L0,ai _,?_⟩
   ·unfold ca at hq0;exact cV (jl [0])
 ·unfold ae Tryz.f170;try unfold av
  exact cV (jl [0])
end Go.Sx
end
