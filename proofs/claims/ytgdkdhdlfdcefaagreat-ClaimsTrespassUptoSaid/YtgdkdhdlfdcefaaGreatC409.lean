/- Part of the proof that the law ClaimsTrespass returns true and leaves its arguments as they were, for all arguments of bulk at most 1048576 (the Upto form). -/
import Derived.Test.YtgdkdhdlfdcefaaGreatC408
import Derived.Test.YtgdkdhdlfdcefaaGreatC407
import Derived.Sort.Statements
import Derived.Shelf.SlSortCmp.Insertion
set_option linter.all false
set_option maxHeartbeats 4000000
set_option maxRecDepth 100000
section
namespace Go.Sx
open Go.Proofs
open IntKind (i64)
theorem cL {l0:List Nat}(a0:JL l0){p:Prop}(h:JL l0→p:=by intro ja;simp only[go_sem,Nat.reduceBEq,Nat.reduceLeDiff,Nat.reduceLT,decide_true,Nat.reduceAdd,Nat.reduceSub,Nat.reduceMul,Int.reduceLE,Int.reduceLT,Int.reduceToNat,Int.reduceNeg,reduceCtorEq];all_goals exact xf ja):p:=h a0
def qz (d:District):Bool:=((((((decide ((d.reaches.length:Int)≤100))&&(decide ((d.farms.length:Int)≤700)))&&(decide ((d.crops.length:Int)≤100)))&&(decide ((d.rights.length:Int)≤300)))&&(decide ((d.duties.length:Int)≤300)))&&(decide ((d.wells.length:Int)≤100)))
@[go_sem] def uP:List SV→Option Con:=(pD .district fun d=>(pE (.det True (.v (.bool (qz d))))))
theorem As:FnOk Tryz.prog 33 uP:=by
 have hG:ConsOk Tryz.prog (mkG [] []):=aw cg0 cg0;refine aV [.o] mixed an hG (fn:=Tryz.f33) (c:=ae Tryz.f33) kr kr kr kr (aW fun d=>(aF (fun hp=>?_)));dsimp only[aD]at hp;refine⟨nbl rfl,L0,ah _,?_⟩
 ·unfold ae Tryz.f33;try unfold qz
  exact zq1
def aL (n:Int)(lo:Int)(hi:Int):Bool:=((decide (n≥lo))&&(decide (n≤hi)))
@[go_sem] def fQ:List SV→Option Con:=(pI fun n=>(pI fun lo=>(pI fun hi=>(pE (.det True (.v (.bool (aL n lo hi))))))))
theorem gn:FnOk Tryz.prog 99 fQ:=by
 have hG:ConsOk Tryz.prog (mkG [] []):=aw cg0 cg0;refine aV [.o] mixed an hG (fn:=Tryz.f99) (c:=ae Tryz.f99) kr kr kr kr (bV fun n=>(bV fun lo=>(bV fun hi=>(aF (fun hp=>?_)))));dsimp only[aD]at hp;refine⟨nbl rfl,L0,ah _,?_⟩
 ·unfold ae Tryz.f99;try unfold aL
  exact zq1
@[go_sem] def eQ (b:Int)(k_0:Nat)(s_0:Int×Int):Int⊕(Int×Int):=(bif(decide (s_0.2 > 0))then .inr (s_0.2,(Int.tmod s_0.1 s_0.2))else .inl s_0.1)
def i_ (b:Int)(k_0:Nat)(s_0:Int×Int):Prop:=((decide (s_0.2 > 0))=true→s_0.2≠0)
def iK (a:Int)(b:Int):Int:=(match ap (eQ b) (Int.toNat b+1) 0 (a,b)with| .inl x_0_0=>x_0_0| .inr s_0=>default)
def ll (a:Int)(b:Int):Prop:=(okI (eQ b) (i_ b) (Int.toNat b+1) 0 (a,b)∧(∀ z_,ap (eQ b) (Int.toNat b+1) 0 (a,b)≠ .inr z_))
@[go_sem] def oR:List SV→Option Con:=(pI fun a=>(pI fun b=>(pE (.det (ll a b) (.v (.int .i64 (iK a b)))))))
theorem ue:FnOk Tryz.prog 174 oR:=by
 have hG:ConsOk Tryz.prog (mkG [] []):=aw cg0 cg0;refine aV [.o] mixed an hG (fn:=Tryz.f174) (c:=ae Tryz.f174) kr kr kr kr (bV fun a=>(bV fun b=>(aF (fun hp=>?_))));dsimp only[aD]at hp;unfold ll at hp;refine⟨nbl rfl,(fun id st=>bif Nat.beq id 0 then some (LCV (ρ:=Int) (σ:=(Int×Int)) 0 [] [] (fun k_0 s_0=>⟨[(0,.v (.int .i64 s_0.1)),(1,.v (.int .i64 s_0.2))],[]⟩) (eQ b) (i_ b) (Int.toNat b+1) (a,b) (fun _=>.normal) (fun x_0_0=>⟨[(0,.v (.int .i64 x_0_0))],[]⟩) st)else none),?_,?_⟩
 ·unfold ae Tryz.f174;simp only[am,true_and,and_true]
  ·refine e_ mixed an hG kr (fun _=>rfl) fun k_0 s_0 hq0=>⟨L0,ah _,?_⟩
   ·unfold i_ at hq0;exact cL (jl [])
 ·unfold ae Tryz.f174;try unfold iK
  exact zq1
def j8 (n:Int):Int:=(bif(decide (n<0))then(i64.wrap (0 - n))else n)
@[go_sem] def sW:List SV→Option Con:=(pI fun n=>(pE (.det True (.v (.int .i64 (j8 n))))))
theorem yj:FnOk Tryz.prog 175 sW:=by
 have hG:ConsOk Tryz.prog (mkG [] []):=aw cg0 cg0;refine aV [.o] mixed an hG (fn:=Tryz.f175) (c:=ae Tryz.f175) kr kr kr kr (bV fun n=>(aF (fun hp=>?_)));dsimp only[aD]at hp;refine⟨nbl rfl,L0,ah _,?_⟩
 ·unfold ae Tryz.f175;try unfold j8
  exact zq1
def eo (a:Ratio):Bool:=(((((decide (a.d≥1))&&(decide (a.d≤1073741824)))&&(decide (a.n≥(-1073741824))))&&(decide (a.n≤1073741824)))&&((iK (j8 a.n) a.d) ==1))
def iL (a:Ratio):Prop:=(((((decide (a.d≥1))&&(decide (a.d≤1073741824)))&&(decide (a.n≥(-1073741824))))&&(decide (a.n≤1073741824)))=true→(ll (j8 a.n) a.d))
@[go_sem] def na:List SV→Option Con:=(pD .ratio fun a=>(pE (.det (iL a) (.v (.bool (eo a))))))
theorem pH:FnOk Tryz.prog 160 na:=by
 have hG:ConsOk Tryz.prog (mkG [(174,oR),(175,sW)] []):=aw (cgc ue (cgc yj cg0)) cg0;refine aV [.o] mixed an hG (fn:=Tryz.f160) (c:=ae Tryz.f160) kr kr kr kr (aW fun a=>(aF (fun hp=>?_)));dsimp only[aD]at hp;unfold iL at hp;refine⟨nbl rfl,L0,ah _,?_⟩
 ·unfold ae Tryz.f160;try unfold eo
  exact zq1
def fw (a:Ratio):Int:=(bif(!(eo a))then 120 else 0)
def kv (a:Ratio):Prop:=(iL a)
@[go_sem] def rb:List SV→Option Con:=(pD .ratio fun a=>(pE (.det (kv a) (.v (.int .i64 (fw a))))))
theorem xk:FnOk Tryz.prog 178 rb:=by
 have hG:ConsOk Tryz.prog (mkG [(160,na)] []):=aw (cgc pH cg0) cg0;refine aV [.o] mixed an hG (fn:=Tryz.f178) (c:=ae Tryz.f178) kr kr kr kr (aW fun a=>(aF (fun hp=>?_)));dsimp only[aD]at hp;unfold kv at hp;refine⟨nbl rfl,L0,ah _,?_⟩
 ·unfold ae Tryz.f178;try unfold fw
  exact zq1
def mo (a:Ratio)(b:Ratio):Bool:=(decide ((i64.wrap (a.n*b.d)) < (i64.wrap (b.n*a.d))))
@[go_sem] def sX:List SV→Option Con:=(pD .ratio fun a=>(pD .ratio fun b=>(pE (.det True (.v (.bool (mo a b)))))))
theorem yk:FnOk Tryz.prog 184 sX:=by
 have hG:ConsOk Tryz.prog (mkG [] []):=aw cg0 cg0;refine aV [.o] mixed an hG (fn:=Tryz.f184) (c:=ae Tryz.f184) kr kr kr kr (aW fun a=>(aW fun b=>(aF (fun hp=>?_))));dsimp only[aD]at hp;refine⟨nbl rfl,L0,ah _,?_⟩
 ·unfold ae Tryz.f184;try unfold mo
  exact zq1
def mq (a:Ratio)(b:Ratio):Bool:=((eo a)&&(eo b))
def oz (a:Ratio)(b:Ratio):Prop:=((iL a)∧((eo a)=true→(iL b)))
@[go_sem] def sY:List SV→Option Con:=(pD .ratio fun a=>(pD .ratio fun b=>(pE (.det (oz a b) (.v (.bool (mq a b)))))))
theorem yl:FnOk Tryz.prog 176 sY:=by
 have hG:ConsOk Tryz.prog (mkG [(160,na)] []):=aw (cgc pH cg0) cg0;refine aV [.o] mixed an hG (fn:=Tryz.f176) (c:=ae Tryz.f176) kr kr kr kr (aW fun a=>(aW fun b=>(aF (fun hp=>?_))));dsimp only[aD]at hp;unfold oz at hp;refine⟨nbl rfl,L0,ah _,?_⟩
 ·unfold ae Tryz.f176;try unfold mq
  exact zq1
def j9 (a:Ratio)(b:Ratio):Int×Int:=(bif(!(mq a b))then(0,120)else(bif(mo a b)then((-1),0)else(bif(mo b a)then(1,0)else(0,0))))
def pJ (a:Ratio)(b:Ratio):Prop:=(oz a b)
@[go_sem] def uQ:List SV→Option Con:=(pD .ratio fun a=>(pD .ratio fun b=>(pE (.det (pJ a b) (.tup [.v (.int .i64 ((j9 a b).1)),.v (.int .i64 ((j9 a b).2))])))))
theorem At:FnOk Tryz.prog 179 uQ:=by
 have hG:ConsOk Tryz.prog (mkG [(176,sY),(184,sX)] []):=aw (cgc yl (cgc yk cg0)) cg0;refine aV [.o,.o] mixed an hG (fn:=Tryz.f179) (c:=ae Tryz.f179) kr kr kr kr (aW fun a=>(aW fun b=>(aF (fun hp=>?_))));dsimp only[aD]at hp;unfold pJ at hp;refine⟨nbl rfl,L0,ah _,?_⟩
 ·unfold ae Tryz.f179;try unfold j9
  exact zq1
def gf (x:Ratio×Ratio):Bool:=(bif(((fw x.1) !=0) ||((fw x.2) !=0))then false else(((decide (x.1.n≥0))&&(decide ((j9 x.1 x.2).1≤0)))&&(decide (x.2.n≤x.2.d))))
def mr (x:Ratio×Ratio):Prop:=((kv x.1)∧((((fw x.1) !=0)=false→(kv x.2))∧((((fw x.1) !=0) ||((fw x.2) !=0))=false→(pJ x.1 x.2))))
@[go_sem] def pK:List SV→Option Con:=(pD .ratio2 fun x=>(pE (.det (mr x) (.v (.bool (gf x))))))
theorem vz:FnOk Tryz.prog 164 pK:=by
 have hG:ConsOk Tryz.prog (mkG [(178,rb),(179,uQ)] []):=aw (cgc xk (cgc At cg0)) cg0;refine aV [.o] mixed an hG (fn:=Tryz.f164) (c:=ae Tryz.f164) kr kr kr kr (aW fun x=>(aF (fun hp=>?_)));dsimp only[aD]at hp;unfold mr at hp;refine⟨nbl rfl,L0,ah _,?_⟩
 ·unfold ae Tryz.f164;try unfold gf
  exact zq1
def pL (x:Reach):Bool:=(bif(((!(aL x.delay 1 16)) ||(!(aL x.cap 0 1073741824))) ||(!(aL x.bank 0 1099511627776)))then false else(bif(((!(aL x.siphon 0 (if x.bank<x.cap then x.bank else x.cap))) ||(!(aL x.evap.lo 0 x.evap.hi))) ||(decide (x.evap.hi > 1073741824)))then false else(gf x.seep)))
def nc (x:Reach):Prop:=((((!(aL x.delay 1 16)) ||(!(aL x.cap 0 1073741824))) ||(!(aL x.bank 0 1099511627776)))=false→((((!(aL x.siphon 0 (if x.bank<x.cap then x.bank else x.cap))) ||(!(aL x.evap.lo 0 x.evap.hi))) ||(decide (x.evap.hi > 1073741824)))=false→(mr x.seep)))
@[go_sem] def re:List SV→Option Con:=(pD .reach fun x=>(pE (.det (nc x) (.v (.bool (pL x))))))
theorem xl:FnOk Tryz.prog 137 re:=by
 have hG:ConsOk Tryz.prog (mkG [(99,fQ),(164,pK)] []):=aw (cgc gn (cgc vz cg0)) cg0;refine aV [.o] mixed an hG (fn:=Tryz.f137) (c:=ae Tryz.f137) kr kr kr kr (aW fun x=>(aF (fun hp=>?_)));dsimp only[aD]at hp;unfold nc at hp;refine⟨nbl rfl,L0,ah _,?_⟩
 ·unfold ae Tryz.f137;try unfold pL
  exact zq1
@[go_sem] def j_ (l_:List Reach)(k_0:Nat)(s_0:Unit):Unit⊕Unit:=(bif((((k_0:Int) ==0)&&((l_.getD k_0 (default:Reach)).up !=(-1))) ||((decide ((k_0:Int) > 0))&&(!(aL ((l_.getD k_0 (default:Reach)).up) 0 (i64.wrap ((k_0:Int) - 1))))))then .inl ()else(bif(!(pL (l_.getD k_0 (default:Reach))))then .inl ()else .inr ()))
def jc (l_:List Reach)(k_0:Nat)(s_0:Unit):Prop:=(l_.length≤bp→(((((k_0:Int) ==0)&&((l_.getD k_0 (default:Reach)).up !=(-1))) ||((decide ((k_0:Int) > 0))&&(!(aL ((l_.getD k_0 (default:Reach)).up) 0 (i64.wrap ((k_0:Int) - 1))))))=false→(nc (l_.getD k_0 (default:Reach)))))
def nf (l_:List Reach):Bool:=(match ap (j_ l_) l_.length 0 ()with| .inl x_0_0=>false| .inr s_0=>(decide ((l_.length:Int) > 0)))
def lm (l_:List Reach):Prop:=okI (j_ l_) (jc l_) l_.length 0 ()
@[go_sem] def oS:List SV→Option Con:=(pR .reach fun l_=>(pE (.det (lm l_) (.v (.bool (nf l_))))))
theorem uf:FnOk Tryz.prog 100 oS:=by
 have hG:ConsOk Tryz.prog (mkG [(99,fQ),(137,re)] []):=aw (cgc gn (cgc xl cg0)) cg0;refine aV [.o] mixed an hG (fn:=Tryz.f100) (c:=ae Tryz.f100) kr kr kr kr (d7 fun l_=>(aF (fun hp=>?_)));dsimp only[aD]at hp;unfold lm at hp;refine⟨nbl rfl,(fun id st=>bif Nat.beq id 0 then some (LCR (ρ:=Unit) (σ:=Unit) 0 [] [] (fun k_0 s_0=>⟨[(0,.rs .reach l_),(3,.v (.int .i64 (k_0:Int)))],[]⟩) (j_ l_) (jc l_) l_.length () (True) (fun _=>.ret) (fun x_0_0=>⟨[(2,.v (.bool false))],[]⟩) st)else none),?_,?_⟩
 ·unfold ae Tryz.f100;simp only[am,true_and,and_true]
  ·refine jz (l_.length≤bp) mixed an hG kr (fun _=>rfl) (l_.length:Int) rfl gE (fun hb0 k_0 s_0 hlt0 hq0 hw hc=>⟨L0,ah _,?_⟩) (fun hb0 s_0 hc=>?_) fun hb0 k_0 s_0=>?_
   ·unfold jc at hq0;try simp only[hw,Int.toNat_natCast]at hq0
    exact bL (jl [])
   ·exact bM (jl [])
   ·exact zq7
 ·unfold ae Tryz.f100;try unfold nf
  exact zq1
@[go_sem] def pN (a0:District)(k_0:Nat)(s_0:Unit):Unit⊕Unit:=(bif(!(aL ((a0.crops.getD k_0 (default:Crop)).need) 0 1048576))then .inl ()else .inr ())
@[go_sem] def pO (a0:District)(k_1:Nat)(s_1:Unit):Unit⊕Unit:=(bif((!(aL ((a0.farms.getD k_1 (default:Farm)).reach) 0 (i64.wrap ((a0.reaches.length:Int) - 1)))) ||(!(aL ((a0.farms.getD k_1 (default:Farm)).area) 0 1048576)))then .inl ()else(bif((((a0.farms.getD k_1 (default:Farm)).area==0)&&((a0.farms.getD k_1 (default:Farm)).crop !=(-1))) ||((decide ((a0.farms.getD k_1 (default:Farm)).area > 0))&&(!(aL ((a0.farms.getD k_1 (default:Farm)).crop) 0 (i64.wrap ((a0.crops.length:Int) - 1))))))then .inl ()else .inr ()))
def pP (a0:District):Bool:=(match ap (pN a0) a0.crops.length 0 ()with| .inl x_0_0=>false| .inr s_0=>(match ap (pO a0) a0.farms.length 0 ()with| .inl x_1_0=>false| .inr s_1=>true))
@[go_sem] def rf:List SV→Option Con:=(pD .district fun a0=>(pE (.det True (.v (.bool (pP a0))))))
theorem Td {p:Prop}(h:p:=by simp only[go_sem,Nat.reduceBEq,Nat.reduceLeDiff,Nat.reduceLT,decide_true,Nat.reduceAdd,Nat.reduceSub,Nat.reduceMul,Int.reduceLE,Int.reduceLT,Int.reduceToNat,Int.reduceNeg,reduceCtorEq,hb1]):p:=h
theorem xm:FnOk Tryz.prog 101 rf:=by
 have hG:ConsOk Tryz.prog (mkG [(99,fQ)] []):=aw (cgc gn cg0) cg0;refine aV [.o] mixed an hG (fn:=Tryz.f101) (c:=ae Tryz.f101) kr kr kr kr (aW fun a0=>(aF (fun hp=>?_)));dsimp only[aD]at hp;refine⟨nbl rfl,(fun id st=>bif Nat.beq id 0 then some (LCR (ρ:=Unit) (σ:=Unit) 1 [] [0] (fun k_0 s_0=>⟨[(1,.ptr 0 0),(3,.v (.int .i64 (k_0:Int)))],[.cells (cellsOf .district a0)]⟩) (pN a0) pT a0.crops.length () (True) (fun _=>.ret) (fun x_0_0=>⟨[(2,.v (.bool false))],[.dead]⟩) st)else bif Nat.beq id 2 then some (LCR (ρ:=Unit) (σ:=Unit) 1 [] [0] (fun k_1 s_1=>⟨[(1,.ptr 0 0),(4,.v (.int .i64 (k_1:Int)))],[.cells (cellsOf .district a0)]⟩) (pO a0) pT a0.farms.length () (True) (fun _=>.ret) (fun x_1_0=>⟨[(2,.v (.bool false))],[.dead]⟩) st)else none),?_,?_⟩
 ·unfold ae Tryz.f101;simp only[am,true_and,and_true];refine⟨?_,?_⟩
  ·refine jz (a0.crops.length≤bp) mixed an hG kr (fun _=>rfl) (a0.crops.length:Int) rfl gE (fun hb0 k_0 s_0 hlt0 _ hw hc=>⟨L0,ah _,?_⟩) (fun hb0 s_0 hc=>?_) fun hb0 k_0 s_0=>?_
   ·exact bL (jl [0])
   ·exact bM (jl [0])
   ·exact zq7
  ·refine jz (a0.farms.length≤bp) mixed an hG kr (fun _=>rfl) (a0.farms.length:Int) rfl gE (fun hb1 k_1 s_1 hlt1 _ hw hc=>⟨L0,ah _,?_⟩) (fun hb1 s_1 hc=>?_) fun hb1 k_1 s_1=>?_
   ·exact bL (jl [0])
   ·exact bM (jl [0])
   ·exact Td
 ·unfold ae Tryz.f101;try unfold pP
  exact zq1
def pW (a0:District)(a1:Right):Bool:=(bif((((!(aL a1.farm 0 (i64.wrap ((a0.farms.length:Int) - 1)))) ||(!(aL a1.reach 0 (i64.wrap ((a0.reaches.length:Int) - 1))))) ||(!(aL a1.since 0 a1.to))) ||(decide (a1.to≥a0.hours)))then false else(bif(a1.kind==1)then(((((a1.reach==0)&&(aL a1.rank 0 1048576))&&(aL a1.litres 1 1073741824))&&(aL a1.length 1 a1.every))&&(decide (a1.every≤a0.hours)))else(bif(a1.kind==2)then((((((a1.rank==0)&&(a1.litres==0))&&(a1.every==0))&&(a1.length==0))&&(a1.since==0))&&(a1.to==(i64.wrap (a0.hours - 1))))else(bif(a1.kind==3)then((((a1.rank==0)&&(a1.litres==0))&&(a1.every==0))&&(a1.length==0))else false))))
@[go_sem] def rg:List SV→Option Con:=(pD .district fun a0=>(pD .right fun a1=>(pE (.det True (.v (.bool (pW a0 a1)))))))
theorem xn:FnOk Tryz.prog 102 rg:=by
 have hG:ConsOk Tryz.prog (mkG [(99,fQ)] []):=aw (cgc gn cg0) cg0;refine aV [.o] mixed an hG (fn:=Tryz.f102) (c:=ae Tryz.f102) kr kr kr kr (aW fun a0=>(aW fun a1=>(aF (fun hp=>?_))));dsimp only[aD]at hp;refine⟨nbl rfl,L0,ah _,?_⟩
 ·unfold ae Tryz.f102;try unfold pW
  exact zq1
@[go_sem] def pY (a0:District)(k_0:Nat)(s_0:Unit):Unit⊕Unit:=(bif(!(pW a0 (a0.rights.getD k_0 (default:Right))))then .inl ()else .inr ())
@[go_sem] def pZ (a0:District)(k_1:Nat)(s_1:Unit):Unit⊕Unit:=(bif(((!(aL ((a0.duties.getD k_1 (default:Duty)).farm) 0 (i64.wrap ((a0.farms.length:Int) - 1)))) ||(!(aL ((a0.duties.getD k_1 (default:Duty)).reach) 0 (i64.wrap ((a0.reaches.length:Int) - 1))))) ||(!(aL ((a0.duties.getD k_1 (default:Duty)).due) 0 a0.hours)))then .inl ()else .inr ())
def p8 (a0:District):Bool:=(bif(((!(aL a0.hours 1 4096)) ||(!(aL a0.tank.start 0 a0.tank.cap))) ||(decide (a0.tank.cap > 1099511627776)))then false else(bif((!(nf a0.reaches)) ||(!(pP a0)))then false else(match ap (pY a0) a0.rights.length 0 ()with| .inl x_0_0=>false| .inr s_0=>(match ap (pZ a0) a0.duties.length 0 ()with| .inl x_1_0=>false| .inr s_1=>true))))
def nh (a0:District):Prop:=((((!(aL a0.hours 1 4096)) ||(!(aL a0.tank.start 0 a0.tank.cap))) ||(decide (a0.tank.cap > 1099511627776)))=false→(lm a0.reaches))
@[go_sem] def rh:List SV→Option Con:=(pD .district fun a0=>(pE (.det (nh a0) (.v (.bool (p8 a0))))))
theorem xo:FnOk Tryz.prog 68 rh:=by
 have hG:ConsOk Tryz.prog (mkG [(99,fQ),(100,fun l=>oS (dl [.sl .reach] l)),(101,fun l=>rf (dl [.st .district] l)),(102,fun l=>rg (dl [.st .district,.st .right] l))] []):=aw (cgc gn (cgc (uf.norm [.sl .reach]) (cgc (xm.norm [.st .district]) (cgc (xn.norm [.st .district,.st .right]) cg0)))) cg0;refine aV [.o] mixed an hG (fn:=Tryz.f68) (c:=ae Tryz.f68) kr kr kr kr (aW fun a0=>(aF (fun hp=>?_)));dsimp only[aD]at hp;unfold nh at hp;refine⟨nbl rfl,(fun id st=>bif Nat.beq id 0 then some (LCR (ρ:=Unit) (σ:=Unit) 1 [] [0] (fun k_0 s_0=>⟨[(1,.ptr 0 0),(3,.v (.int .i64 (k_0:Int)))],[.cells (cellsOf .district a0)]⟩) (pY a0) pT a0.rights.length () (True) (fun _=>.ret) (fun x_0_0=>⟨[(2,.v (.bool false))],[.dead]⟩) st)else bif Nat.beq id 2 then some (LCR (ρ:=Unit) (σ:=Unit) 1 [] [0] (fun k_1 s_1=>⟨[(1,.ptr 0 0),(4,.v (.int .i64 (k_1:Int)))],[.cells (cellsOf .district a0)]⟩) (pZ a0) pT a0.duties.length () (True) (fun _=>.ret) (fun x_1_0=>⟨[(2,.v (.bool false))],[.dead]⟩) st)else none),?_,?_⟩
 ·unfold ae Tryz.f68;simp only[am,true_and,and_true];refine⟨?_,?_⟩
  ·refine jz (a0.rights.length≤bp) mixed an hG kr (fun _=>rfl) (a0.rights.length:Int) rfl gE (fun hb0 k_0 s_0 hlt0 _ hw hc=>⟨L0,ah _,?_⟩) (fun hb0 s_0 hc=>?_) fun hb0 k_0 s_0=>?_
   ·exact bL (jl [0])
   ·exact bM (jl [0])
   ·exact zq7
  ·refine jz (a0.duties.length≤bp) mixed an hG kr (fun _=>rfl) (a0.duties.length:Int) rfl gE (fun hb1 k_1 s_1 hlt1 _ hw hc=>⟨L0,ah _,?_⟩) (fun hb1 s_1 hc=>?_) fun hb1 k_1 s_1=>?_
   ·exact bL (jl [0])
   ·exact bM (jl [0])
   ·exact Td
 ·unfold ae Tryz.f68;try unfold p8
  exact zq1
def kO (d:District):Int:=(bif(((((decide ((d.reaches.length:Int) > 64)) ||(decide ((d.farms.length:Int) > 600))) ||(decide ((d.crops.length:Int) > 32))) ||(decide ((d.rights.length:Int) > 256))) ||(decide ((d.duties.length:Int) > 256)))then 2 else(bif(!(p8 d))then 191 else 0))
def ni (d:District):Prop:=(d.reaches.length≤bp→((((((decide ((d.reaches.length:Int) > 64)) ||(decide ((d.farms.length:Int) > 600))) ||(decide ((d.crops.length:Int) > 32))) ||(decide ((d.rights.length:Int) > 256))) ||(decide ((d.duties.length:Int) > 256)))=false→(nh d)))
@[go_sem] def ri:List SV→Option Con:=(pD .district fun d=>(pE (.det (ni d) (.v (.int .i64 (kO d))))))
theorem xp:FnOk Tryz.prog 36 ri:=by
 have hG:ConsOk Tryz.prog (mkG [(68,fun l=>rh (dl [.st .district] l))] []):=aw (cgc (xo.norm [.st .district]) cg0) cg0;refine aV [.o] mixed an hG (fn:=Tryz.f36) (c:=ae Tryz.f36) kr kr kr kr (aW fun d=>(aF (fun hp=>?_)));dsimp only[aD]at hp;unfold ni at hp;refine⟨nbl rfl,L0,ah _,?_⟩
 ·unfold ae Tryz.f36;try unfold kO
  exact zq1


@[go_sem] def sZ (l_:List Deed)(k_0:Nat)(s_0:Unit):Unit⊕Unit:=(bif(decide ((((l_.getD k_0 (default:Deed)).parts).length:Int) > 100))then .inl ()else .inr ())
def ug (d:District)(l_:List Deed):Bool:=(bif((decide ((l_.length:Int) > 512))&&(decide ((l_.length:Int)≤700)))then(qz d)else(bif((((decide ((l_.length:Int) > 60)) ||(!(qz d))) ||((decide ((d.rights.length:Int) > 40))&&(decide ((d.rights.length:Int)≤256)))) ||((decide ((d.farms.length:Int) > 60))&&(decide ((d.farms.length:Int)≤600))))then false else(match ap (sZ l_) l_.length 0 ()with| .inl x_0_0=>false| .inr s_0=>true)))
@[go_sem] def uR:List SV→Option Con:=(pD .district fun d=>(pR .deed fun l_=>(pE (.det True (.v (.bool (ug d l_)))))))
theorem Au:FnOk Tryz.prog 28 uR:=by
 have hG:ConsOk Tryz.prog (mkG [(33,fun l=>uP (dl [.st .district] l))] []):=aw (cgc (As.norm [.st .district]) cg0) cg0;refine aV [.o] mixed an hG (fn:=Tryz.f28) (c:=ae Tryz.f28) kr kr kr kr (aW fun d=>(d7 fun l_=>(aF (fun hp=>?_))));dsimp only[aD]at hp;refine⟨nbl rfl,(fun id st=>bif Nat.beq id 0 then some (LCR (ρ:=Unit) (σ:=Unit) 1 [] [0] (fun k_0 s_0=>⟨[(1,.rs .deed l_),(5,.v (.int .i64 (k_0:Int)))],[.dead]⟩) (sZ l_) pT l_.length () (True) (fun _=>.ret) (fun x_0_0=>⟨[(4,.v (.bool false))],[.dead]⟩) st)else none),?_,?_⟩
 ·unfold ae Tryz.f28;simp only[am,true_and,and_true]
  ·refine jz (l_.length≤bp) mixed an hG kr (fun _=>rfl) (l_.length:Int) rfl gE (fun hb0 k_0 s_0 hlt0 _ hw hc=>⟨L0,ah _,?_⟩) (fun hb0 s_0 hc=>?_) fun hb0 k_0 s_0=>?_
   ·exact bL (jl [0])
   ·exact bM (jl [0])
   ·exact zq7
 ·unfold ae Tryz.f28;try unfold ug
  exact zq1
def mP (a0:District)(a1:Claim):Bool:=(bif((((((((decide (a1.right<0)) ||(decide (a1.right≥(a0.rights.length:Int)))) ||(decide (a1.farm<0))) ||(decide (a1.farm≥(a0.farms.length:Int)))) ||(decide (a1.hour<0))) ||(decide (a1.hour≥a0.hours))) ||(decide (a1.litres<1))) ||(decide (a1.litres > 1073741824)))then false else(((a0.rights.getD (Int.toNat a1.right) (default:Right)).kind==1)&&((a0.rights.getD (Int.toNat a1.right) (default:Right)).rank==a1.rank)))
def nj (a0:District)(a1:Claim):Prop:=(((((((((decide (a1.right<0)) ||(decide (a1.right≥(a0.rights.length:Int)))) ||(decide (a1.farm<0))) ||(decide (a1.farm≥(a0.farms.length:Int)))) ||(decide (a1.hour<0))) ||(decide (a1.hour≥a0.hours))) ||(decide (a1.litres<1))) ||(decide (a1.litres > 1073741824)))=false→((0≤a1.right∧a1.right< (a0.rights.length:Int))∧(((a0.rights.getD (Int.toNat a1.right) (default:Right)).kind==1)=true→(0≤a1.right∧a1.right< (a0.rights.length:Int)))))
@[go_sem] def rj:List SV→Option Con:=(pD .district fun a0=>(pD .claim fun a1=>(pE (.det (nj a0 a1) (.v (.bool (mP a0 a1)))))))
theorem xq:FnOk Tryz.prog 37 rj:=by
 have hG:ConsOk Tryz.prog (mkG [] []):=aw cg0 cg0;refine aV [.o] mixed an hG (fn:=Tryz.f37) (c:=ae Tryz.f37) kr kr kr kr (aW fun a0=>(aW fun a1=>(aF (fun hp=>?_))));dsimp only[aD]at hp;unfold nj at hp;refine⟨nbl rfl,L0,ah _,?_⟩
 ·unfold ae Tryz.f37;try unfold mP
  exact zq1
def oA (a:Claim)(b:Claim):Bool:=(bif(a.hour !=b.hour)then(decide (a.hour<b.hour))else(bif(a.rank !=b.rank)then(decide (a.rank<b.rank))else(bif(a.right !=b.right)then(decide (a.right<b.right))else(decide (a.farm<b.farm)))))
@[go_sem] def p9:List SV→Option Con:=(pD .claim fun a=>(pD .claim fun b=>(pE (.det True (.v (.bool (oA a b)))))))
theorem vA:FnOk Tryz.prog 38 p9:=by
 have hG:ConsOk Tryz.prog (mkG [] []):=aw cg0 cg0;refine aV [.o] mixed an hG (fn:=Tryz.f38) (c:=ae Tryz.f38) kr kr kr kr (aW fun a=>(aW fun b=>(aF (fun hp=>?_))));dsimp only[aD]at hp;refine⟨nbl rfl,L0,ah _,?_⟩
 ·unfold ae Tryz.f38;try unfold oA
  exact zq1
@[go_sem] def mt (d:District)(c:List Claim)(k_0:Nat)(s_0:Unit):Unit⊕Unit:=(bif((!(mP d (c.getD k_0 (default:Claim)))) ||((decide ((k_0:Int) > 0))&&(!(oA (c.getD (Int.toNat (i64.wrap ((k_0:Int) - 1))) (default:Claim)) (c.getD k_0 (default:Claim))))))then .inl ()else .inr ())
def ka (d:District)(c:List Claim)(k_0:Nat)(s_0:Unit):Prop:=(c.length≤bp→((nj d (c.getD k_0 (default:Claim)))∧((!(mP d (c.getD k_0 (default:Claim))))=false→((decide ((k_0:Int) > 0))=true→(0≤(i64.wrap ((k_0:Int) - 1))∧(i64.wrap ((k_0:Int) - 1)) < (c.length:Int))))))
def uS (d:District)(c:List Claim):Int:=(bif((kO d) !=0)then(kO d)else(bif(decide ((c.length:Int) > 4096))then 2 else(match ap (mt d c) c.length 0 ()with| .inl x_0_0=>260| .inr s_0=>0)))
def rk (d:District)(c:List Claim):Prop:=((ni d)∧(((kO d) !=0)=false→(c.length≤bp→((decide ((c.length:Int) > 4096))=false→okI (mt d c) (ka d c) c.length 0 ()))))
@[go_sem] def ym:List SV→Option Con:=(pD .district fun d=>(pR .claim fun c=>(pE (.det (rk d c) (.v (.int .i64 (uS d c)))))))
theorem IV:FnOk Tryz.prog 20 ym:=by
 have hG:ConsOk Tryz.prog (mkG [(36,fun l=>ri (dl [.st .district] l)),(37,fun l=>rj (dl [.st .district,.st .claim] l)),(38,p9)] []):=aw (cgc (xp.norm [.st .district]) (cgc (xq.norm [.st .district,.st .claim]) (cgc vA cg0))) cg0;refine aV [.o] mixed an hG (fn:=Tryz.f20) (c:=ae Tryz.f20) kr kr kr kr (aW fun d=>(d7 fun c=>(aF (fun hp=>?_))));dsimp only[aD]at hp;unfold rk at hp;refine⟨nbl rfl,(fun id st=>bif Nat.beq id 0 then some (LCR (ρ:=Unit) (σ:=Unit) 1 [] [0] (fun k_0 s_0=>⟨[(1,.rs .claim c),(2,.ptr 0 0),(6,.v (.int .i64 (k_0:Int)))],[.cells (cellsOf .district d)]⟩) (mt d c) (ka d c) c.length () (True) (fun _=>.ret) (fun x_0_0=>⟨[(4,.v (.int .i64 260))],[.dead]⟩) st)else none),?_,?_⟩
 ·unfold ae Tryz.f20;simp only[am,true_and,and_true]
  ·refine jz (c.length≤bp) mixed an hG kr (fun _=>rfl) (c.length:Int) rfl gE (fun hb0 k_0 s_0 hlt0 hq0 hw hc=>⟨L0,ah _,?_⟩) (fun hb0 s_0 hc=>?_) fun hb0 k_0 s_0=>?_
   ·unfold ka at hq0;try simp only[hw,Int.toNat_natCast]at hq0
    exact bL (jl [0])
   ·exact bM (jl [0])
   ·exact zq7
 ·unfold ae Tryz.f20;try unfold uS
  exact zq1
@[go_sem] def iM (a:List Claim)(b:List Claim)(k_0:Nat)(s_0:Unit):Unit⊕Unit:=(bif(!(((a.getD k_0 (default:Claim)).right==(b.getD k_0 (default:Claim)).right)&&(((a.getD k_0 (default:Claim)).farm==(b.getD k_0 (default:Claim)).farm)&&(((a.getD k_0 (default:Claim)).hour==(b.getD k_0 (default:Claim)).hour)&&(((a.getD k_0 (default:Claim)).litres==(b.getD k_0 (default:Claim)).litres)&&((a.getD k_0 (default:Claim)).rank==(b.getD k_0 (default:Claim)).rank))))))then .inl ()else .inr ())
def ln (a:List Claim)(b:List Claim)(k_0:Nat)(s_0:Unit):Prop:=(a.length≤bp→(0≤(k_0:Int)∧(k_0:Int) < (b.length:Int)))
def mu (a:List Claim)(b:List Claim):Bool:=(bif((a.length:Int) !=(b.length:Int))then false else(match ap (iM a b) a.length 0 ()with| .inl x_0_0=>false| .inr s_0=>true))
def lJ (a:List Claim)(b:List Claim):Prop:=(a.length≤bp→(b.length≤bp→(((a.length:Int) !=(b.length:Int))=false→okI (iM a b) (ln a b) a.length 0 ())))
@[go_sem] def s4:List SV→Option Con:=(pR .claim fun a=>(pR .claim fun b=>(pE (.det (lJ a b) (.v (.bool (mu a b)))))))
theorem yn:FnOk Tryz.prog 16 s4:=by
 have hG:ConsOk Tryz.prog (mkG [] []):=aw cg0 cg0;refine aV [.o] mixed an hG (fn:=Tryz.f16) (c:=ae Tryz.f16) kr kr kr kr (d7 fun a=>(d7 fun b=>(aF (fun hp=>?_))));dsimp only[aD]at hp;unfold lJ at hp;refine⟨nbl rfl,(fun id st=>bif Nat.beq id 0 then some (LCR (ρ:=Unit) (σ:=Unit) 0 [] [] (fun k_0 s_0=>⟨[(0,.rs .claim a),(1,.rs .claim b),(5,.v (.int .i64 (k_0:Int)))],[]⟩) (iM a b) (ln a b) a.length () (True) (fun _=>.ret) (fun x_0_0=>⟨[(4,.v (.bool false))],[]⟩) st)else none),?_,?_⟩
 ·unfold ae Tryz.f16;simp only[am,true_and,and_true]
  ·refine jz (a.length≤bp) mixed an hG kr (fun _=>rfl) (a.length:Int) rfl gE (fun hb0 k_0 s_0 hlt0 hq0 hw hc=>⟨L0,ah _,?_⟩) (fun hb0 s_0 hc=>?_) fun hb0 k_0 s_0=>?_
   ·unfold ln at hq0;try simp only[hw,Int.toNat_natCast]at hq0
    exact bL (jl [])
   ·exact bM (jl [])
   ·exact zq7
 ·unfold ae Tryz.f16;try unfold mu
  exact zq1
@[go_sem] def eI (a:List Block)(b:List Block)(k_0:Nat)(s_0:Unit):Unit⊕Unit:=(bif(!(((a.getD k_0 (default:Block)).right==(b.getD k_0 (default:Block)).right)&&(((a.getD k_0 (default:Block)).farm==(b.getD k_0 (default:Block)).farm)&&(((a.getD k_0 (default:Block)).hour==(b.getD k_0 (default:Block)).hour)&&((a.getD k_0 (default:Block)).reach==(b.getD k_0 (default:Block)).reach)))))then .inl ()else .inr ())
def gF (a:List Block)(b:List Block)(k_0:Nat)(s_0:Unit):Prop:=(a.length≤bp→(0≤(k_0:Int)∧(k_0:Int) < (b.length:Int)))
def eS (a:List Block)(b:List Block):Bool:=(bif((a.length:Int) !=(b.length:Int))then false else(match ap (eI a b) a.length 0 ()with| .inl x_0_0=>false| .inr s_0=>true))
def fa (a:List Block)(b:List Block):Prop:=(a.length≤bp→(b.length≤bp→(((a.length:Int) !=(b.length:Int))=false→okI (eI a b) (gF a b) a.length 0 ())))
@[go_sem] def mv:List SV→Option Con:=(pR .block fun a=>(pR .block fun b=>(pE (.det (fa a b) (.v (.bool (eS a b)))))))
theorem qL:FnOk Tryz.prog 17 mv:=by
 have hG:ConsOk Tryz.prog (mkG [] []):=aw cg0 cg0;refine aV [.o] mixed an hG (fn:=Tryz.f17) (c:=ae Tryz.f17) kr kr kr kr (d7 fun a=>(d7 fun b=>(aF (fun hp=>?_))));dsimp only[aD]at hp;unfold fa at hp;refine⟨nbl rfl,(fun id st=>bif Nat.beq id 0 then some (LCR (ρ:=Unit) (σ:=Unit) 0 [] [] (fun k_0 s_0=>⟨[(0,.rs .block a),(1,.rs .block b),(5,.v (.int .i64 (k_0:Int)))],[]⟩) (eI a b) (gF a b) a.length () (True) (fun _=>.ret) (fun x_0_0=>⟨[(4,.v (.bool false))],[]⟩) st)else none),?_,?_⟩
 ·unfold ae Tryz.f17;simp only[am,true_and,and_true]
  ·refine jz (a.length≤bp) mixed an hG kr (fun _=>rfl) (a.length:Int) rfl gE (fun hb0 k_0 s_0 hlt0 hq0 hw hc=>⟨L0,ah _,?_⟩) (fun hb0 s_0 hc=>?_) fun hb0 k_0 s_0=>?_
   ·unfold gF at hq0;try simp only[hw,Int.toNat_natCast]at hq0
    exact bL (jl [])
   ·exact bM (jl [])
   ·exact zq7
 ·unfold ae Tryz.f17;try unfold eS
  exact zq1
def nS (d:District)(l_:List Deed)(fr:Int)(to:Int):Bool:=(bif((!(ug d l_)) ||((decide ((d.rights.length:Int) > 40))&&(decide ((d.rights.length:Int)≤256))))then false else(((((decide (fr<0)) ||(decide (fr > to))) ||(decide (to≥d.hours))) ||(decide (d.hours > 4096))) ||(decide ((i64.wrap (to - fr)) <60))))
@[go_sem] def uT:List SV→Option Con:=(pD .district fun d=>(pR .deed fun l_=>(pI fun fr=>(pI fun to=>(pE (.det True (.v (.bool (nS d l_ fr to)))))))))
theorem Av:FnOk Tryz.prog 11 uT:=by
 have hG:ConsOk Tryz.prog (mkG [(28,fun l=>uR (dl [.st .district,.sl .deed] l))] []):=aw (cgc (Au.norm [.st .district,.sl .deed]) cg0) cg0;refine aV [.o] mixed an hG (fn:=Tryz.f11) (c:=ae Tryz.f11) kr kr kr kr (aW fun d=>(d7 fun l_=>(bV fun fr=>(bV fun to=>(aF (fun hp=>?_))))));dsimp only[aD]at hp;refine⟨nbl rfl,L0,ah _,?_⟩
 ·unfold ae Tryz.f11;try unfold nS
  exact zq1
def bi (x:Right)(kind:Int)(farm:Int)(reach:Int)(hour:Int):Bool:=(((((x.kind==kind)&&(x.farm==farm))&&(x.reach==reach))&&(decide (x.since≤hour)))&&(decide (hour≤x.to)))
@[go_sem] def p_ (d:District)(farm:Int)(reach:Int)(hour:Int)(k_0:Nat)(s_0:Unit):Unit⊕Unit:=(bif(bi (d.rights.getD k_0 (default:Right)) 3 farm reach hour)then .inl ()else .inr ())
def mQ (d:District)(farm:Int)(reach:Int)(hour:Int):Bool:=(match ap (p_ d farm reach hour) d.rights.length 0 ()with| .inl x_0_0=>true| .inr s_0=>false)
@[go_sem] def s5 (d:District)(farm:Int)(reach:Int)(hour:Int)(k_0:Nat)(s_0:Unit):Unit⊕Unit:=(bif(((d.rights.getD k_0 (default:Right)).farm !=farm)&&(bi (d.rights.getD k_0 (default:Right)) 2 ((d.rights.getD k_0 (default:Right)).farm) reach hour))then .inl ()else .inr ())
def lV (d:District)(farm:Int)(reach:Int)(hour:Int):Bool:=(match ap (s5 d farm reach hour) d.rights.length 0 ()with| .inl x_0_0=>(mQ d farm reach hour) | .inr s_0=>true)
end Go.Sx
end
section
namespace Go.Sx
open Go.RowKit
open IntKind (i64)
abbrev RF:= { r:Nat→Res // ∀ k,(r k).n=k}
def Gz (items:List (List SV))(r:RF):List SV→Res→Option YCon:=itY items r.1
@[go_sem] theorem UT {items:List (List SV)}{r:RF}{k:Nat}{args:List SV}:Gz items r args (r.1 (k+1))=some (BU (items[k]? =some args) r.1 (k+2)):=DP r.2 k args
section
variable {ρ σ:Type}
def lcy (pre:Prop)(run:ρ⊕σ)(exE:ρ→Ex)(outE:ρ→St)(outN:σ→St)(stp:St):LCon where
 α:=Option (ρ⊕σ)
 pre:=pre
 post:=fun|none=>True|some r=>r=run
 ex:=fun|none=>.ret|some (.inl x) =>exE x|some (.inr _) =>.normal
 out:=fun|none=>stp|some (.inl x) =>outE x|some (.inr s) =>outN s
def LCY (m:Nat)(ns:List NLoc)(js:List Nat)(D:Nat→σ→St)(step:Nat→σ→ρ⊕σ)(p:Nat→σ→Prop)(n:Nat)(s0:σ)(B:Prop)(exE:ρ→Ex)(outE:ρ→St)(stp:St)(st:St):LCon:=
 lcy (ox m ns js st (D 0 s0)∧B∧okI step p n 0 s0) (ap step n 0 s0) exE outE (D n) stp
variable {m:Nat}{ns:List NLoc}{js:List Nat}{step:Nat→σ→ρ⊕σ}{p:Nat→σ→Prop}{n:Nat}{s0:σ}{B:Prop}{exE:ρ→Ex}{outE:ρ→St}{stp st:St}{Q:Ex→St→Prop}{D:Nat→σ→St}
theorem GA {pre:Prop}{run:ρ⊕σ}{outN:σ→St}:l9 Q (some (lcy pre run exE outE outN stp))=(pre∧(∀ x,run=.inl x→Q (exE x) (outE x))∧(∀ s,run=.inr s→Q .normal (outN s))∧Q .ret stp):=by
 apply propext;constructor
 ·rintro⟨h1,h2⟩;exact⟨h1,fun x hx=>h2 (some (.inl x)) hx.symm,fun s hs=>h2 (some (.inr s)) hs.symm,h2 none trivial⟩
 ·rintro⟨h1,h2,h3,h4⟩;refine⟨h1,fun r hr=>?_⟩;match r,hr with
  |none,_=>exact h4
  |some (.inl x),hr=>exact h2 x hr.symm
  |some (.inr s),hr=>exact h3 s hr.symm
@[go_sem] theorem Ra:l9 Q (some (LCY m ns js D step p n s0 B exE outE stp st))=((ox m ns js st (D 0 s0)∧B∧okI step p n 0 s0)∧(∀ x,ap step n 0 s0=.inl x→Q (exE x) (outE x))∧(∀ s,ap step n 0 s0=.inr s→Q .normal (D n s))∧Q .ret stp):=GA
def cY (step:Nat→σ→ρ⊕σ)(exE:ρ→Ex)(outE:ρ→St)(D:Nat→σ→St)(stp:St)(m id k:Nat)(s:σ):Ex→St→Prop
 | .normal,st=>nO D m k st (step k s)
 | .exit j,st=>jy exE outE m (bif Nat.beq j id then .normal else .exit j) st (step k s)
 | .ret,st=>jy exE outE m .ret st (step k s)∨f_ stp m st
 | .pan x,st=>jy exE outE m (.pan x) st (step k s)
variable {id k j:Nat}{s:σ}{x:Value}{e e':Ex}
@[go_sem] theorem Rb:cY step exE outE D stp m id k s .normal st=nO D m k st (step k s):=(rfl)
@[go_sem] theorem UU:cY step exE outE D stp m id k s (.exit j) st=jy exE outE m (bif Nat.beq j id then .normal else .exit j) st (step k s):=(rfl)
@[go_sem] theorem VM:cY step exE outE D stp m id k s .ret st=(jy exE outE m .ret st (step k s)∨f_ stp m st):=(rfl)
@[go_sem] theorem VN:cY step exE outE D stp m id k s (.pan x) st=jy exE outE m (.pan x) st (step k s):=(rfl)
@[congr] theorem Te {st':St}(h:st=st')(he:e=e'):cY step exE outE D stp m id k s e st=cY step exE outE D stp m id k s e' st':=by rw[h,he]
end
section
variable {P:Program}{ρ σ:Type}{ts:Tis}{G:Cons}{ro:Option Nat}{N:Nat}{id:Nat}{c:Code}{C:St→Option LCon}{m:Nat}{ns:List NLoc}{js:List Nat}{step:Nat→σ→ρ⊕σ}{p:Nat→σ→Prop}{n:Nat}{s0:σ}{exE:ρ→Ex}{outE:ρ→St}{D:Nat→σ→St}{stp:St}
theorem OL {n0:Nat}(hn0:n0=m){s:σ}{k:Nat}(hlt:k<n){I:Nat×σ→Prop}{μ:Nat×σ→Nat}{outN:σ→St}{pre:Prop}{run:ρ⊕σ}
  (hI:∀ s',step k s=.inr s'→I (k+1,s')∧μ (k+1,s') <μ (k,s)) (hx:∀ x,step k s=.inl x→run=.inl x):
  ∀ e st',cY step exE outE D stp m id k s e st'→oj (fun x:Nat×σ=>D x.1 x.2) I μ n0 (k,s) id (fun e st'=>∃ r js,(lcy pre run exE outE outN stp).post r∧(lcy pre run exE outE outN stp).ex r=e∧n0≤((lcy pre run exE outE outN stp).out r).h.length∧Sub js n0 st' ((lcy pre run exE outE outN stp).out r)) e st':=by
 subst hn0;have hfin:∀ e st',jy exE outE n0 e st' (step k s)→∃ r js,(lcy pre run exE outE outN stp).post r∧(lcy pre run exE outE outN stp).ex r=e∧n0≤((lcy pre run exE outE outN stp).out r).h.length∧Sub js n0 st' ((lcy pre run exE outE outN stp).out r):=by
  intro e st' q;cases hs:step k s with
  |inr s'=>rw[hs]at q;exact q.elim
  |inl x=>
   rw[hs]at q;obtain⟨q2,js,q3,q4⟩:=q;exact⟨some (.inl x),js,(hx x hs).symm,q2,q3,q4⟩
 intro e st' hq;cases e with
 |normal=>
  change nO D n0 k st' (step k s)at hq;cases hs:step k s with
  |inl x=>rw[hs]at hq;exact hq.elim
  |inr s'=>
   rw[hs]at hq;obtain⟨js,q3,q4⟩:=hq;obtain⟨i1,i2⟩:=hI s' hs;exact⟨(k+1,s'),js,i1,i2,q3,q4⟩
 |exit j=>
  change jy exE outE n0 (bif Nat.beq j id then .normal else .exit j) st' (step k s)at hq;show bif Nat.beq j id then _ else _;cases hb:Nat.beq j id with
  |true=>rw[hb]at hq;exact hfin _ _ hq
  |false=>rw[hb]at hq;exact hfin _ _ hq
 |ret=>
  rcases hq with hq|hq
  ·exact hfin _ _ hq
  ·obtain⟨js,q3,q4⟩:=hq;exact⟨none,js,trivial,rfl,q3,q4⟩
 |pan x=>exact hfin _ _ hq
theorem B4 {B:Prop}(hm:P.follows .mixedOrders=true)(hts:ts.ok P)(hG:ConsOk P G)(hc:ce N c=true)(hC:∀ st,C st=some (LCY m ns js D step p n s0 B exE outE stp st))(M:Int)(hn:n=M.toNat)(hB:B→M<9223372036854775808)
  (h:B→∀ k s,k<n→p k s→i64.wrap ((k:Int)+1)=((k+1:Nat):Int)→decide ((k:Int) <M)=true→∃ L,am P ro N L c∧exec ts G L c (D k s) (cY step exE outE D stp m id k s))
  (h2:B→∀ s,decide ((n:Int) <M)=false→exec ts G L0 c (D n s) (cZ (D n s) m id)):iA P ro N id (.loop c) C:=by
 refine sQ hm hts hG hc fun st lc hC' hp=>?_;rw[hC st]at hC';cases hC';obtain⟨⟨hlen,hok,hle,hsub⟩,hB',h1⟩:=hp;refine⟨Nat×σ,fun x=>D x.1 x.2,fun x=>x.1≤n∧okI step p (n - x.1) x.1 x.2∧ap step (n - x.1) x.1 x.2=ap step n 0 s0,fun x=>n - x.1,(0,s0),mkN ns st,js,⟨Nat.zero_le _,by simpa using h1,by simp⟩,rY ns st st (.refl _) hok,by rw[hlen];exact hle,by rw[hlen];exact hsub,?_⟩;rintro⟨k,s⟩ ⟨hk,hJ,hrun⟩;simp only at hk hJ hrun;rcases Nat.lt_or_ge k n with hlt|hge
 ·rw[show n - k=(n - k - 1)+1 by omega]at hrun hJ;obtain⟨L,hl,hex⟩:=h hB' k s hlt hJ.1 (In (hn▸hlt) (hB hB')) (decide_eq_true (by omega));have hI:∀ s',step k s=.inr s'→okI step p (n - (k+1)) (k+1) s'∧ap step (n - (k+1)) (k+1) s'=ap step n 0 s0:=fun s' hs=>by
   have:=hJ.2 s' hs;rw[show n - k - 1=n - (k+1) by omega]at this hrun;simp only[ap,hs]at hrun;exact⟨this,hrun⟩
  have hx:∀ x,step k s=.inl x→ap step n 0 s0=.inl x:=fun x hs=>by
   simp only[ap,hs]at hrun;exact hrun.symm
  exact⟨L,_,hl,fun e st' q=>OL hlen hlt (fun s' hs=>⟨⟨hlt,hI s' hs⟩,by simp only;omega⟩) hx e st' q,hex⟩
 ·have hkn:k=n:=by omega
  subst hkn;have hex:=h2 hB' s (by rw[decide_eq_false_iff_not];omega);refine⟨L0,_,ah c,fun e st' hq=>?_,hex⟩;simp only[Nat.sub_self,ap]at hrun;cases e with
  |exit j=>
   change bif Nat.beq j id then f_ (D k s) m st' else False at hq;show bif Nat.beq j id then _ else _;cases hb:Nat.beq j id with
   |true=>
    rw[hb]at hq;obtain⟨js,q3,q4⟩:=hq;exact⟨some (.inr s),js,hrun,rfl,by rw[hlen];exact q3,by rw[hlen];exact q4⟩
   |false=>rw[hb]at hq;exact hq.elim
  |_=>exact hq.elim
end
def kP (n:Nat):List Ob:=List.replicate n .dead
def IW (items:List (List SV))(r:RF)(n:Nat):Ex→St→Prop
 | .normal,st=>f_ ⟨[],.ab (r.1 0)::kP n⟩ (n+1) ⟨[],st.h⟩∨f_ ⟨[],.ab (r.1 (items.length+1))::kP n⟩ (n+1) ⟨[],st.h⟩
 | .ret,st=>f_ ⟨[],.ab (r.1 0)::kP n⟩ (n+1) ⟨[],st.h⟩∨f_ ⟨[],.ab (r.1 (items.length+1))::kP n⟩ (n+1) ⟨[],st.h⟩
 |_,_=>False
section
variable {items:List (List SV)}{r:RF}{n:Nat}{st:St}{e e':Ex}
@[go_sem] theorem LG:IW items r n .normal st=(f_ ⟨[],.ab (r.1 0)::kP n⟩ (n+1) ⟨[],st.h⟩∨f_ ⟨[],.ab (r.1 (items.length+1))::kP n⟩ (n+1) ⟨[],st.h⟩):=(rfl)
@[go_sem] theorem Rc:IW items r n .ret st=(f_ ⟨[],.ab (r.1 0)::kP n⟩ (n+1) ⟨[],st.h⟩∨f_ ⟨[],.ab (r.1 (items.length+1))::kP n⟩ (n+1) ⟨[],st.h⟩):=(rfl)
@[go_sem] theorem UV:kP 0=[]:=(rfl)
@[go_sem] theorem UW:kP 1=[.dead]:=(rfl)
@[go_sem] theorem UX:kP 2=[.dead,.dead]:=(rfl)
@[go_sem] theorem UY:kP 3=[.dead,.dead,.dead]:=(rfl)
@[go_sem] theorem UZ:kP 4=[.dead,.dead,.dead,.dead]:=(rfl)
end
theorem B5 {js:List Nat}{n0:Nat}{h h':List Ob}(q:Sub js n0 ⟨[],h⟩ ⟨[],h'⟩):Sub js n0 ⟨[(0,.tup [])],h⟩ ⟨[(0,.tup [])],h'⟩:=by
 refine⟨q.1,?_,q.2.2⟩;simp only[FT,lk];exact⟨⟨rfl,rfl⟩,trivial⟩
open Classical in
theorem IX {P:Program} {ts:Tis} {G:RF→Cons} (hm:P.follows .mixedOrders=true) (hts:ts.ok P) {f:FuncId} {fn:Func} {c:Code} (hf:P.funcs[f]? =some fn) (hb:fn.body=some c) (hname:(fn.name== "runtime.NumGoroutine")=false) (hc:ce fn.ntmps c=true) (hr:fn.results.toList=[])
  {items:List (List SV)} {mk:SV→List SV} {hs:List Ob} {n:Nat} (hn:hs.length=n)
  (h:∀ r:RF,YOk P (Gz items r)→ConsOk P (G r)∧(mk (.os 0)).length≤fn.ntmps∧∃ L,am P none fn.ntmps L c∧exec ts (G r) L c ⟨jq 0 (mk (.os 0)),.ab (r.1 1)::hs⟩ (IW items r n))
  (he:∀ (args:Array Value) (w:World),(callFunc f args).run P w=.ok (.enter f args) w):Ao P f mk hs items:=by
 refine Il (fun r0 hr0 hy=>?_) he;obtain⟨hG,h1,L,h2,h3⟩:=h ⟨r0,hr0⟩ hy;refine⟨fun l o=>if l=mk (.os 0)∧o=.ab (r0 1)::hs then some { α:=Bool,pre:=True,post:=fun _=>True,res:=fun b=>.ret (.tup []) (.ab (r0 (if b then items.length+1 else 0))::kP n)}else none,?_,_,if_pos ⟨rfl,rfl⟩,trivial,fun b _=>⟨_,_,_,rfl,by cases b <;>simp⟩⟩;refine w5 hm hts hG hf hb hname hc fun l o con hC _=>?_;split at hC
 rotate_left
 ·cases hC
 rename_i hlo;obtain⟨rfl,rfl⟩:=hlo;cases hC;refine⟨h1,L,_,h2,fun e st hq=>?_,h3⟩;have key:∀ st:St,(f_ ⟨[],.ab (r0 0)::kP n⟩ (n+1) ⟨[],st.h⟩∨f_ ⟨[],.ab (r0 (items.length+1))::kP n⟩ (n+1) ⟨[],st.h⟩)→su (Ob.ab (r0 1)::hs).length { α:=Bool,pre:=True,post:=fun _=>True,res:=fun b=>.ret (.tup []) (.ab (r0 (if b then items.length+1 else 0))::kP n)} (lD (jV ts st fn.results.toList)) st.h:=fun st q=>by
  rw[hr];show ∃ r s' h' js,_;rcases q with⟨js,q1,q2⟩ | ⟨js,q1,q2⟩
  ·exact⟨false,_,_,js,trivial,rfl,by rw[List.length_cons,hn];exact q1,by rw[List.length_cons,hn];exact B5 q2⟩
  ·exact⟨true,_,_,js,trivial,rfl,by rw[List.length_cons,hn];exact q1,by rw[List.length_cons,hn];exact B5 q2⟩
 cases e with
 |normal=>exact key st hq
 |ret=>exact key st hq
 |exit j=>exact hq.elim
 |pan x=>exact hq.elim
section
variable {ρ σ τ:Type}
theorem uh {step:τ→σ→ρ⊕σ}:∀ {a b:List τ} {s s':σ},dT step a s=.inr s'→dT step (a++b) s=dT step b s'
 | [],_,_,_,h=>by simp only[dT,Sum.inr.injEq]at h;subst h;rfl
 |x::a,b,s,s',h=>by
  simp only[List.cons_append,dT]at h ⊢;cases hs:step x s with
  |inl y=>rw[hs]at h;cases h
  |inr s1=>rw[hs]at h;simp only at h ⊢;exact uh h
theorem B6 {step:τ→σ→ρ⊕σ}{p:τ→σ→Prop}:∀ {a b:List τ} {s s':σ},dT step a s=.inr s'→okL step p (a++b) s→okL step p b s'
 | [],_,_,_,h,hk=>by simp only[dT,Sum.inr.injEq]at h;subst h;exact hk
 |x::a,b,s,s',h,hk=>by
  simp only[List.cons_append,dT]at h hk;cases hs:step x s with
  |inl y=>rw[hs]at h;cases h
  |inr s1=>rw[hs]at h;exact B6 h (hk.2 s1 hs)
def LCP (m:Nat)(ns:List NLoc)(js:List Nat)(D:List Nat→Option Nat→σ→St)(step:τ→σ→ρ⊕σ)(p:τ→σ→Prop)(l:List τ)(s0:σ)(exE:ρ→Ex)(outE:ρ→St)(outN:σ→St)(st:St):LCon where
 α:=ρ⊕σ
 pre:=ox m ns js st (D (List.range l.length) none s0)∧∀ L,L.Perm l→okL step p L s0
 post:=fun r=>∃ L,L.Perm l∧dT step L s0=r
 ex:=fun| .inl x=>exE x| .inr _=>.normal
 out:=fun| .inl x=>outE x| .inr s=>outN s
variable {m:Nat}{ns:List NLoc}{js:List Nat}{step:τ→σ→ρ⊕σ}{p:τ→σ→Prop}{l:List τ}{s0:σ}{exE:ρ→Ex}{outE:ρ→St}{outN:σ→St}{st:St}{Q:Ex→St→Prop}{D:List Nat→Option Nat→σ→St}
@[go_sem] theorem Rd:l9 Q (some (LCP m ns js D step p l s0 exE outE outN st))=((ox m ns js st (D (List.range l.length) none s0)∧∀ L,L.Perm l→okL step p L s0)∧∀ L,L.Perm l→(∀ x,dT step L s0=.inl x→Q (exE x) (outE x))∧∀ s,dT step L s0=.inr s→Q .normal (outN s)):=by
 apply propext;constructor
 ·rintro⟨h1,h2⟩;exact⟨h1,fun L hL=>⟨fun x hx=>h2 (.inl x) ⟨L,hL,hx⟩,fun s hs=>h2 (.inr s) ⟨L,hL,hs⟩⟩⟩
 ·rintro⟨h1,h2⟩;refine⟨h1,fun r ⟨L,hL,hr⟩ =>?_⟩;cases r with
  |inl x=>exact(h2 L hL).1 x hr
  |inr s=>exact(h2 L hL).2 s hr
variable {P:Program}{ts:Tis}{G:Cons}{ro:Option Nat}{N id:Nat}{c:Code}{C:St→Option LCon}
theorem IY (d:τ)(it:Nat)(hm:P.follows .mixedOrders=true)(hts:ts.ok P)(hG:ConsOk P G)(hc:ce N c=true)(hC:∀ st,C st=some (LCP m ns js D step p l s0 exE outE outN st))
  (h:∀ left cur s,(∀ j,j∈left→j<l.length∧p (l.getD j d) s)→∃ L,am P ro N L c∧exec ts G L c (D left cur s) (cM step l d exE outE outN D m id it left s)):iA P ro N id (.loop c) C:=by
 refine sQ hm hts hG hc fun st lc hC' hp=>?_;rw[hC st]at hC';cases hC';obtain⟨⟨hlen,hok,hle,hsub⟩,hO⟩:=hp;subst hlen;have hfix:∀ q:List Nat,q.Perm (List.range l.length)→(q.map fun j=>l.getD j d).Perm l:=fun q hq=>by
  have:=hq.map (fun j=>l.getD j d)
  rwa[xd]at this
 refine⟨List Nat×Option Nat×σ,fun x=>D x.1 x.2.1 x.2.2,fun x=>∃ q:List Nat,(q++x.1).Perm (List.range l.length)∧dT step (q.map fun j=>l.getD j d) s0=.inr x.2.2,fun x=>x.1.length,(List.range l.length,none,s0),mkN ns st,js,⟨[],.refl _,rfl⟩,rY ns st st (.refl _) hok,hle,hsub,?_⟩;rintro⟨left,cur,s⟩ ⟨q,hq,hrun⟩;simp only at hq hrun;have hmem:∀ j,j∈left→(q++j::left.erase j).Perm (List.range l.length):=fun j hj=>((List.perm_cons_erase hj).symm.append_left q).trans hq;have hp0:∀ j,j∈left→j<l.length∧p (l.getD j d) s:=fun j hj=>by
  refine⟨List.mem_range.1 (hq.mem_iff.1 (List.mem_append_right _ hj)),?_⟩;have:=hO _ (hfix _ (hmem j hj));rw[List.map_append]at this;exact(B6 hrun this).1
 obtain⟨L,hl,hex⟩:=h left cur s hp0;refine⟨L,_,hl,?_,hex⟩;have hfin:∀ e st' o,exC step l d exE outE st.h.length left s e st' o→∃ r js,(LCP st.h.length ns js D step p l s0 exE outE outN st).post r∧(LCP st.h.length ns js D step p l s0 exE outE outN st).ex r=e∧st.h.length≤((LCP st.h.length ns js D step p l s0 exE outE outN st).out r).h.length∧Sub js st.h.length st' ((LCP st.h.length ns js D step p l s0 exE outE outN st).out r):=by
  intro e st' o z;cases o with
  |none=>exact z.elim
  |some j=>
   obtain⟨hj,z⟩:=z;cases hs:step (l.getD j d) s with
   |inr s'=>rw[hs]at z;exact z.elim
   |inl x=>
    rw[hs]at z;obtain⟨q2,js2,q3,q4⟩:=z;refine⟨.inl x,js2,⟨_,hfix _ (hmem j hj),?_⟩,q2,q3,q4⟩;rw[List.map_append,uh hrun];simp only[List.map_cons,dT,hs]
 intro e st' hz;cases e with
 |normal=>
  change nxC step l d D st.h.length left s st' (rX (ag st'.h it))at hz;cases ho:rX (ag st'.h it)with
  |none=>rw[ho]at hz;exact hz.elim
  |some j=>
   rw[ho]at hz;obtain⟨hj,hz⟩:=hz;cases hs:step (l.getD j d) s with
   |inl x=>rw[hs]at hz;exact hz.elim
   |inr s'=>
    rw[hs]at hz;obtain⟨js2,q3,q4⟩:=hz;refine⟨(left.erase j,some j,s'),js2,⟨q++[j],?_,?_⟩,?_,q3,q4⟩
    ·rw[List.append_assoc];exact hmem j hj
    ·rw[List.map_append,uh hrun];simp only[List.map_cons,List.map_nil,dT,hs]
    ·have:=List.length_pos_of_mem hj;simp only[List.length_erase_of_mem hj];omega
 |exit j=>
  have hz':(bif Nat.beq j id then(left=[]→f_ (outN s) st.h.length st')∧(left≠[]→exC step l d exE outE st.h.length left s .normal st' (rX (ag st'.h it)))else exC step l d exE outE st.h.length left s (.exit j) st' (rX (ag st'.h it))):=hz;show bif Nat.beq j id then _ else _;cases hb:Nat.beq j id with
  |true=>
   rw[hb]at hz';simp only[cond_true]at hz' ⊢;by_cases hlt:left=[]
   ·obtain⟨js2,q3,q4⟩:=hz'.1 hlt;refine⟨.inr s,js2,⟨_,hfix q (by rw[hlt,List.append_nil]at hq;exact hq),hrun⟩,rfl,q3,q4⟩
   ·exact hfin _ _ _ (hz'.2 hlt)
  |false=>
   rw[hb]at hz';exact hfin _ _ _ hz'
 |ret=>exact hfin _ _ _ hz
 |pan x=>exact hfin _ _ _ hz
end
theorem fkY {st2 st:St}{n0:Nat}{js:List Nat}(_:JL js)(h1:n0≤st2.h.length:=by(first|(show _≤_;decide) |(simp only[*,go_sem,Nat.reduceBEq,Nat.reduceLeDiff,Nat.reduceAdd,Nat.reduceSub,Nat.reduceMul,Int.reduceLE,Int.reduceLT,Int.reduceToNat,Int.reduceNeg,reduceCtorEq];done) |(simp only[*,go_sem,Nat.reduceBEq,Nat.reduceLeDiff,Nat.reduceAdd,Nat.reduceSub,Nat.reduceMul,Int.reduceLE,Int.reduceLT,Int.reduceToNat,Int.reduceNeg,reduceCtorEq];(repeat' (first|with_reducible refine And.intro ?_ ?_|((with_reducible show _≠_);first|assumption|omega|(simp_all [eG,ff];done) |grind) |with_reducible intro _)) <;>(first|rfl|decide|assumption|omega|(simp_all [eG,ff];done) |fail))))(h2:Sub js n0 st st2:=by(first|(show _≤_;decide) |(simp only[*,go_sem,Nat.reduceBEq,Nat.reduceLeDiff,Nat.reduceAdd,Nat.reduceSub,Nat.reduceMul,Int.reduceLE,Int.reduceLT,Int.reduceToNat,Int.reduceNeg,reduceCtorEq];done) |(simp only[*,go_sem,Nat.reduceBEq,Nat.reduceLeDiff,Nat.reduceAdd,Nat.reduceSub,Nat.reduceMul,Int.reduceLE,Int.reduceLT,Int.reduceToNat,Int.reduceNeg,reduceCtorEq];(repeat' (first|with_reducible refine And.intro ?_ ?_|((with_reducible show _≠_);first|assumption|omega|(simp_all [eG,ff];done) |grind) |with_reducible intro _)) <;>(first|rfl|decide|assumption|omega|(simp_all [eG,ff];done) |fail)))):f_ st2 n0 st:=Aq js h1 h2
theorem OM {α:Type 1}{G:List SV→α→Prop}{X:SV}{k:List SV→Option α}(h:∀ l c,k l=some c→G (X::l) c):∀ l c,pQ X k l=some c→G l c:=fun l c hc=>by
 obtain⟨r,rfl,h1⟩:=xc hc;exact h r c h1
end Go.Sx
end
section
namespace Go.Sx
open Go.Proofs
open IntKind (i64 u64)
def kc (n:Int)(d:Int):Int:=(i64.wrap (Int.tdiv (i64.wrap (n - (Int.tmod (i64.wrap ((Int.tmod n d)+d)) d))) d))
def lK (n:Int)(d:Int):Prop:=(d≠0∧(d≠0∧d≠0))
@[go_sem] def ta:List SV→Option Con:=(pI fun n=>(pI fun d=>(pE (.det (lK n d) (.v (.int .i64 (kc n d)))))))
theorem yo:FnOk Tryz.prog 166 ta:=by
 have hG:ConsOk Tryz.prog (mkG [] []):=aw cg0 cg0;refine aV [.o] mixed an hG (fn:=Tryz.f166) (c:=ae Tryz.f166) kr kr kr kr (bV fun n=>(bV fun d=>(aF (fun hp=>?_))));dsimp only[aD]at hp;unfold lK at hp;refine⟨nbl rfl,L0,ah _,?_⟩
 ·unfold ae Tryz.f166;try unfold kc
  exact zq1
def er (a:Ratio)(n:Int):Int×Int×Int:=(bif((aS a) !=0)then(0,0,(aS a))else(bif((decide (n< (-1073741824))) ||(decide (n > 1073741824)))then(0,0,1)else((kc (i64.wrap (a.n*n)) a.d),(i64.wrap (0 - (kc (i64.wrap ((i64.wrap (0 - a.n))*n)) a.d))),0)))
def rl (a:Ratio)(n:Int):Prop:=(((aS a) !=0)=false→(((decide (n< (-1073741824))) ||(decide (n > 1073741824)))=false→((lK (i64.wrap (a.n*n)) a.d)∧(lK (i64.wrap ((i64.wrap (0 - a.n))*n)) a.d))))
theorem yp {a:Ratio}(h:(aS a !=0)=false):1≤a.d:=by
 unfold aS at h;by_cases hd:a.d<1
 ·simp[hd]at h
 ·omega
theorem xr (a:Ratio)(n:Int):rl a n:=fun h _=>by
 have:=yp h;exact⟨⟨by omega,by omega,by omega⟩,⟨by omega,by omega,by omega⟩⟩
@[go_sem] def rq:List SV→Option Con:=(pD .ratio fun a=>(pI fun n=>(pE (.det True (.tup [.v (.int .i64 ((er a n).1)),.v (.int .i64 ((er a n).2.1)),.v (.int .i64 ((er a n).2.2))])))))
theorem xu:FnOk Tryz.prog 138 rq:=by
 have hG:ConsOk Tryz.prog (mkG [(165,ku),(166,ta)] []):=aw (cgc mm (cgc yo cg0)) cg0;refine aV [.o,.o,.o] mixed an hG (fn:=Tryz.f138) (c:=ae Tryz.f138) kr kr kr kr (aW fun a=>(bV fun n=>(aF (fun hp=>?_))));dsimp only[aD]at hp;have hp:=xr a n;unfold rl at hp;refine⟨nbl rfl,L0,ah _,?_⟩
 ·unfold ae Tryz.f138;try unfold er
  exact zq1
def je (n:Int)(d:Int):Ratio×Int:=(bif(d==0)then(({ n:=0,d:=0}:Ratio),120)else(bif(decide ((if(u64.wrap (Int.tdiv (ak n) ((qK (Int.toNat (ak n)) (Int.toNat (ak d)):Nat):Int))) < (u64.wrap (Int.tdiv (ak d) ((qK (Int.toNat (ak n)) (Int.toNat (ak d)):Nat):Int)))then(u64.wrap (Int.tdiv (ak d) ((qK (Int.toNat (ak n)) (Int.toNat (ak d)):Nat):Int)))else(u64.wrap (Int.tdiv (ak n) ((qK (Int.toNat (ak n)) (Int.toNat (ak d)):Nat):Int)))) > 1073741824))then(({ n:=0,d:=0}:Ratio),2)else(bif((decide (n<0)) !=(decide (d<0)))then(({ n:=(i64.wrap (0 - (i64.wrap (u64.wrap (Int.tdiv (ak n) ((qK (Int.toNat (ak n)) (Int.toNat (ak d)):Nat):Int)))))),d:=(i64.wrap (u64.wrap (Int.tdiv (ak d) ((qK (Int.toNat (ak n)) (Int.toNat (ak d)):Nat):Int))))}:Ratio),0)else(({ n:=(i64.wrap (u64.wrap (Int.tdiv (ak n) ((qK (Int.toNat (ak n)) (Int.toNat (ak d)):Nat):Int)))),d:=(i64.wrap (u64.wrap (Int.tdiv (ak d) ((qK (Int.toNat (ak n)) (Int.toNat (ak d)):Nat):Int))))}:Ratio),0))))
def lL (n:Int)(d:Int):Prop:=((d==0)=false→((0≤(ak n)∧0≤(ak d))∧(((qK (Int.toNat (ak n)) (Int.toNat (ak d)):Nat):Int)≠0∧((qK (Int.toNat (ak n)) (Int.toNat (ak d)):Nat):Int)≠0)))
@[go_sem] def tb:List SV→Option Con:=(pI fun n=>(pI fun d=>(pE (.det (lL n d) (.tup [.agg (cellsOf .ratio ((je n d).1)),.v (.int .i64 ((je n d).2))])))))
theorem yq:FnOk Tryz.prog 172 tb:=by
 have hG:ConsOk Tryz.prog (mkG [(180,C83),(181,jA)] []):=aw (cgc IM (cgc ml cg0)) cg0;refine aV [.st .ratio,.o] mixed an hG (fn:=Tryz.f172) (c:=ae Tryz.f172) kr kr kr kr (bV fun n=>(bV fun d=>(aF (fun hp=>?_))));dsimp only[aD]at hp;unfold lL at hp;refine⟨nbl rfl,L0,ah _,?_⟩
 ·unfold ae Tryz.f172;try unfold je
  exact zq4
def et (a:Ratio)(b:Ratio):Int×Int:=((i64.wrap ((i64.wrap (a.n*b.d))+(i64.wrap (b.n*a.d)))),(i64.wrap (a.d*b.d)))
@[go_sem] def rt:List SV→Option Con:=(pD .ratio fun a=>(pD .ratio fun b=>(pE (.det True (.tup [.v (.int .i64 ((et a b).1)),.v (.int .i64 ((et a b).2))])))))
theorem xv:FnOk Tryz.prog 155 rt:=by
 have hG:ConsOk Tryz.prog (mkG [] []):=aw cg0 cg0;refine aV [.o,.o] mixed an hG (fn:=Tryz.f155) (c:=ae Tryz.f155) kr kr kr kr (aW fun a=>(aW fun b=>(aF (fun hp=>?_))));dsimp only[aD]at hp;refine⟨nbl rfl,L0,ah _,?_⟩
 ·unfold ae Tryz.f155;try unfold et
  exact zq1
def d8 (a:Ratio)(b:Ratio):Ratio×Int:=(bif(((aS a) !=0) ||((aS b) !=0))then(({ n:=0,d:=0}:Ratio),120)else(((je ((et a b).1) ((et a b).2)).1),(je ((et a b).1) ((et a b).2)).2))
def g5 (a:Ratio)(b:Ratio):Prop:=((((aS a) !=0) ||((aS b) !=0))=false→(lL ((et a b).1) ((et a b).2)))
@[go_sem] noncomputable def kQ:List SV→Option Con:=(pQ (.agg [.fn 155 [] []]) (pD .ratio fun a=>(pD .ratio fun b=>(pE (.det (g5 a b) (.tup [.agg (cellsOf .ratio ((d8 a b).1)),.v (.int .i64 ((d8 a b).2))]))))))
theorem oY:FnOk Tryz.prog 156 kQ:=by
 have hG:ConsOk Tryz.prog (mkG [(155,rt),(165,ku),(172,tb)] []):=aw (cgc xv (cgc mm (cgc yq cg0))) cg0;refine aV [.st .ratio,.o] mixed an hG (fn:=Tryz.f156) (c:=ae Tryz.f156) kr kr kr kr (OM (aW fun a=>(aW fun b=>(aF (fun hp=>?_)))));dsimp only[aD]at hp;unfold g5 at hp;refine⟨nbl rfl,L0,ah _,?_⟩
 ·unfold ae Tryz.f156;try unfold d8
  exact zq1
def fj (a:Ratio)(b:Ratio):Ratio×Int:=(((d8 a b).1),(d8 a b).2)
def mR (a:Ratio)(b:Ratio):Prop:=(g5 a b)
@[go_sem] def uU:List SV→Option Con:=(pD .ratio fun a=>(pD .ratio fun b=>(pE (.det (mR a b) (.tup [.agg (cellsOf .ratio ((fj a b).1)),.v (.int .i64 ((fj a b).2))])))))
theorem Aw:FnOk Tryz.prog 121 uU:=by
 have hG:ConsOk Tryz.prog (mkG [(156,kQ)] []):=aw (cgc oY cg0) cg0;refine aV [.st .ratio,.o] mixed an hG (fn:=Tryz.f121) (c:=ae Tryz.f121) kr kr kr kr (aW fun a=>(aW fun b=>(aF (fun hp=>?_))));dsimp only[aD]at hp;unfold mR at hp;refine⟨nbl rfl,L0,ah _,?_⟩
 ·unfold ae Tryz.f121;try unfold fj
  exact zq1
@[go_sem] def ru (b8:List Int)(k_0:Nat)(s_0:Unit):Int⊕Unit:=(bif((b8.getD k_0 (0:Int)) !=0)then .inl (b8.getD k_0 (0:Int))else .inr ())
def gh (b8:List Int):Int:=(match ap (ru b8) b8.length 0 ()with| .inl x_0_0=>x_0_0| .inr s_0=>0)
@[go_sem] def td:List SV→Option Con:=(pR .int fun b8=>(pE (.det True (.v (.int .i64 (gh b8))))))
theorem yr:FnOk Tryz.prog 44 td:=by
 have hG:ConsOk Tryz.prog (mkG [] []):=aw cg0 cg0;refine aV [.o] mixed an hG (fn:=Tryz.f44) (c:=ae Tryz.f44) kr kr kr kr (d7 fun b8=>(aF (fun hp=>?_)));dsimp only[aD]at hp;refine⟨nbl rfl,(fun id st=>bif Nat.beq id 0 then some (LCR (ρ:=Int) (σ:=Unit) 0 [] [] (fun k_0 s_0=>⟨[(3,.v (.int .i64 0)),(6,.rs .int b8),(7,.v (.int .i64 (b8.length:Int))),(8,.v (.int .i64 (k_0:Int)))],[]⟩) (ru b8) pT b8.length () (b8.length≤bp) (fun _=>.ret) (fun x_0_0=>⟨[(2,.v (.int .i64 x_0_0))],[]⟩) st)else none),?_,?_⟩
 ·unfold ae Tryz.f44;simp only[am,true_and,and_true]
  ·refine cy mixed an hG kr (fun _=>rfl) (b8.length:Int) rfl gE (fun hb0 k_0 s_0 hlt0 _ hw hc=>⟨L0,ah _,?_⟩) (fun hb0 s_0 hc=>?_)
   ·exact bL (jl [])
   ·exact bM (jl [])
 ·unfold ae Tryz.f44;try unfold gh
  exact zq1
def bQ (x:Holding)(y:Holding):Int:=(gh ([(b6 x.right y.right),(b6 x.farm y.farm)]))
@[go_sem] def oT:List SV→Option Con:=(pD .holding fun x=>(pD .holding fun y=>(pE (.det True (.v (.int .i64 (bQ x y)))))))
theorem ui:FnOk Tryz.prog 43 oT:=by
 have hG:ConsOk Tryz.prog (mkG [(44,fun l=>td (dl [.sl .int] l)),(45,ft)] []):=aw (cgc (yr.norm [.sl .int]) (cgc ga cg0)) cg0;refine aV [.o] mixed an hG (fn:=Tryz.f43) (c:=ae Tryz.f43) kr kr kr kr (aW fun x=>(aW fun y=>(aF (fun hp=>?_))));dsimp only[aD]at hp;refine⟨nbl rfl,L0,ah _,?_⟩
 ·unfold ae Tryz.f43;try unfold bQ
  exact zq1
theorem mS (x y:Int):b6 x y=if x<y then -1 else if x > y then 1 else 0:=by
 unfold b6 gC;simp[Bool.cond_eq_ite]
theorem DW (x:Int)(l:List Int):gh (x::l)=if x=0 then gh l else x:=by
 have key:∀ l:List Int,gh l=match dT (ρ:=Int) (fun(x:Int) (_:Unit) =>bif(x !=0)then .inl x else .inr ()) l ()with| .inl y=>y| .inr _=>0:=fun l=>by
  unfold gh;have:=ow (ρ:=Int) (fun(x:Int) (_:Unit) =>bif(x !=0)then .inl x else .inr ()) 0 l ();rw[←this];rfl
 rw[key,key];simp only[dT];by_cases h:x=0
 ·subst h;rfl
 ·have:(x !=0)=true:=by simpa using h
  rw[if_neg h,this];rfl
theorem GB:gh []=0:=rfl
def lM:List (Int×Int)→Prop
 | [] =>False
 |(a,b)::r=>a<b∨a=b∧lM r
theorem zd:∀ l:List (Int×Int),(gh (l.map fun p=>b6 p.1 p.2) <0↔lM l)
 | [] =>by simp[GB,lM]
 |(a,b)::r=>by
  have hc:=mS a b;simp only[List.map_cons,DW,hc,lM];rcases Int.lt_trichotomy a b with h|h|h
  ·simp[h]
  ·subst h;simp only[Int.lt_irrefl,if_false,if_true,true_and,false_or,gt_iff_lt];exact zd r
  ·have h1:¬a<b:=by omega
   have h2:a≠b:=by omega
   simp[h1,h2,h]
def hlt (a b:Holding):Prop:=lM [(a.right,b.right),(a.farm,b.farm)]
theorem xw (a b:Holding):bQ a b<0↔hlt a b:=zd [(a.right,b.right),(a.farm,b.farm)]
open Go.Shelf Go.Sort in
theorem IZ {α:Type}{f:α→α→Int}{r:α→α→Prop}(e:∀ x y,f x y<0↔r x y)(h1:∀ x,¬r x x)(h2:∀ x y z,r x y→r y z→r x z)(h3:∀ x y z,¬r x y→¬r y z→¬r x z):SWO (ltOf f):=by
 have e1:∀ x y,ltOf f x y=true↔r x y:=fun x y=>by unfold ltOf;rw[decide_eq_true_eq,e]
 have e2:∀ x y,ltOf f x y=false↔¬r x y:=fun x y=>by rw[←e1];simp
 exact⟨fun x=>(e2 x x).2 (h1 x),fun x y z a b=>(e1 x z).2 (h2 x y z ((e1 x y).1 a) ((e1 y z).1 b)),fun x y z a b=>(e2 x z).2 (h3 x y z ((e2 x y).1 a) ((e2 y z).1 b))⟩
open Go.Shelf Go.Sort in
theorem uV:SWO (ltOf bQ):=IZ xw (fun x=>by simp only[hlt,lM,and_false,or_false];omega) (fun x y z h1 h2=>by simp only[hlt,lM,and_false,or_false]at *;omega) (fun x y z h1 h2=>by simp only[hlt,lM,and_false,or_false]at *;omega)
def aG (n:Int)(lo:Int)(hi:Int):Bool:=((decide (n≥lo))&&(decide (n≤hi)))
@[go_sem] def kw:List SV→Option Con:=(pI fun n=>(pI fun lo=>(pI fun hi=>(pE (.det True (.v (.bool (aG n lo hi))))))))
theorem mw:FnOk Tryz.prog 39 kw:=by
 have hG:ConsOk Tryz.prog (mkG [] []):=aw cg0 cg0;refine aV [.o] mixed an hG (fn:=Tryz.f39) (c:=ae Tryz.f39) kr kr kr kr (bV fun n=>(bV fun lo=>(bV fun hi=>(aF (fun hp=>?_)))));dsimp only[aD]at hp;refine⟨nbl rfl,L0,ah _,?_⟩
 ·unfold ae Tryz.f39;try unfold aG
  exact zq1
def iN (x:Deed):Bool:=(bif(x.kind==1)then(((x.parts.length:Int) ==0)&&(x.of_==0))else(bif(x.kind==2)then((x.to==0)&&(x.of_==0))else(bif(x.kind==3)then(((x.to==0)&&((x.parts.length:Int) ==0))&&(x.of_==0))else(bif(x.kind==4)then((((x.right==0)&&(x.since==0))&&(x.to==0))&&((x.parts.length:Int) ==0))else(((((x.right==0)&&(x.since==0))&&(x.to==0))&&((x.parts.length:Int) ==0))&&(x.of_==0))))))
@[go_sem] def oU:List SV→Option Con:=(pD .deed fun x=>(pE (.det True (.v (.bool (iN x))))))
theorem uj:FnOk Tryz.prog 85 oU:=by
 have hG:ConsOk Tryz.prog (mkG [] []):=aw cg0 cg0;refine aV [.o] mixed an hG (fn:=Tryz.f85) (c:=ae Tryz.f85) kr kr kr kr (aW fun x=>(aF (fun hp=>?_)));dsimp only[aD]at hp;refine⟨nbl rfl,L0,ah _,?_⟩
 ·unfold ae Tryz.f85;try unfold iN
  exact zq1
@[go_sem] def fA (d:District)(l_:List Part)(k_0:Nat)(s_0:Int×Int×List (Int×Bool)):Unit⊕(Int×Int×List (Int×Bool)):=(bif(((!(aG ((l_.getD k_0 (default:Part)).farm) 0 (i64.wrap ((d.farms.length:Int) - 1)))) ||(b7 .int .bool s_0.2.2 ((l_.getD k_0 (default:Part)).farm))) ||(decide ((l_.getD k_0 (default:Part)).share.n≤0)))then .inl ()else(bif((fj ({ n:=s_0.1,d:=s_0.2.1}:Ratio) ((l_.getD k_0 (default:Part)).share)).2 !=0)then .inl ()else .inr (((fj ({ n:=s_0.1,d:=s_0.2.1}:Ratio) ((l_.getD k_0 (default:Part)).share)).1).n,((fj ({ n:=s_0.1,d:=s_0.2.1}:Ratio) ((l_.getD k_0 (default:Part)).share)).1).d,(eX .int .bool s_0.2.2 ((l_.getD k_0 (default:Part)).farm) true))))
def iB (d:District)(l_:List Part)(k_0:Nat)(s_0:Int×Int×List (Int×Bool)):Prop:=(d.farms.length≤bp→((((!(aG ((l_.getD k_0 (default:Part)).farm) 0 (i64.wrap ((d.farms.length:Int) - 1)))) ||(b7 .int .bool s_0.2.2 ((l_.getD k_0 (default:Part)).farm))) ||(decide ((l_.getD k_0 (default:Part)).share.n≤0)))=false→(mR ({ n:=s_0.1,d:=s_0.2.1}:Ratio) ((l_.getD k_0 (default:Part)).share))))
def g6 (d:District)(l_:List Part):Bool:=(match ap (fA d l_) l_.length 0 (0,1,[])with| .inl x_0_0=>false| .inr s_0=>((aG (l_.length:Int) 1 16)&&((s_0.1==1)&&(s_0.2.1==1))))
def ip (d:District)(l_:List Part):Prop:=(l_.length≤bp→okI (fA d l_) (iB d l_) l_.length 0 (0,1,[]))
@[go_sem] def nT:List SV→Option Con:=(pD .district fun d=>(pR .part fun l_=>(pE (.det (ip d l_) (.v (.bool (g6 d l_)))))))
theorem tf:FnOk Tryz.prog 86 nT:=by
 have hG:ConsOk Tryz.prog (mkG [(39,kw),(121,uU)] []):=aw (cgc mw (cgc Aw cg0)) cg0;refine aV [.o] mixed an hG (fn:=Tryz.f86) (c:=ae Tryz.f86) kr kr kr kr (aW fun d=>(d7 fun l_=>(aF (fun hp=>?_))));dsimp only[aD]at hp;unfold ip at hp;refine⟨nbl rfl,(fun id st=>bif Nat.beq id 0 then some (LCR (ρ:=Unit) (σ:=(Int×Int×List (Int×Bool))) 3 [] [0,1,2] (fun k_0 s_0=>⟨[(1,.rs .part l_),(2,.ptr 0 0),(5,.ptr 2 0),(6,.os 1),(13,.rs .part l_),(14,.v (.int .i64 (l_.length:Int))),(15,.v (.int .i64 (k_0:Int)))],[.cells (cellsOf .district d),.mp .int .bool s_0.2.2 none,.cells [.v (.int .i64 s_0.1),.v (.int .i64 s_0.2.1)]]⟩) (fA d l_) (iB d l_) l_.length (0,1,[]) (l_.length≤bp) (fun _=>.ret) (fun x_0_0=>⟨[(4,.v (.bool false))],[.dead,.dead,.dead]⟩) st)else none),?_,?_⟩
 ·unfold ae Tryz.f86;simp only[am,true_and,and_true]
  ·refine cy mixed an hG kr (fun _=>rfl) (l_.length:Int) rfl gE (fun hb0 k_0 s_0 hlt0 hq0 hw hc=>⟨L0,ah _,?_⟩) (fun hb0 s_0 hc=>?_)
   ·unfold iB at hq0;try simp only[hw,Int.toNat_natCast]at hq0
    exact bL (jl [0,1,2])
   ·exact bM (jl [0,1,2])
 ·unfold ae Tryz.f86;try unfold g6
  exact zq1
def cF (a0:District)(a1:List (Int×Deed))(a2:Deed):Bool:=(bif((((!(aG a2.no 0 1048576)) ||(!(aG a2.at_ 0 4096))) ||(!(aG a2.known 0 1048576))) ||(!(iN a2)))then false else(bif(a2.kind==1)then(((((aG a2.right 0 (i64.wrap ((a0.rights.length:Int) - 1)))&&((a0.rights.getD (Int.toNat a2.right) (default:Right)).kind==1))&&(aG a2.since 0 (i64.wrap ((a0.farms.length:Int) - 1))))&&(aG a2.to 0 (i64.wrap ((a0.farms.length:Int) - 1))))&&(a2.to !=a2.since))else(bif(a2.kind==2)then((((aG a2.right 0 (i64.wrap ((a0.rights.length:Int) - 1)))&&((a0.rights.getD (Int.toNat a2.right) (default:Right)).kind==1))&&(aG a2.since 0 (i64.wrap ((a0.farms.length:Int) - 1))))&&(g6 a0 a2.parts))else(bif(a2.kind==3)then(((aG a2.right 0 (i64.wrap ((a0.rights.length:Int) - 1)))&&((a0.rights.getD (Int.toNat a2.right) (default:Right)).kind==1))&&(aG a2.since 0 (i64.wrap ((a0.farms.length:Int) - 1))))else(bif(a2.kind==4)then(((o8 .int .deed a1 a2.of_)&&((b7 .int .deed a1 a2.of_).kind !=4))&&(decide (a2.known≥(b7 .int .deed a1 a2.of_).known)))else false)))))
def iY (a0:District)(a1:List (Int×Deed))(a2:Deed):Prop:=(((((!(aG a2.no 0 1048576)) ||(!(aG a2.at_ 0 4096))) ||(!(aG a2.known 0 1048576))) ||(!(iN a2)))=false→(a0.farms.length≤bp→(a0.rights.length≤bp→(((aG a2.right 0 (i64.wrap ((a0.rights.length:Int) - 1)))=true→(0≤a2.right∧a2.right< (a0.rights.length:Int)))∧((a2.kind==1)=false→((a2.kind==2)=true→((((aG a2.right 0 (i64.wrap ((a0.rights.length:Int) - 1)))&&((a0.rights.getD (Int.toNat a2.right) (default:Right)).kind==1))&&(aG a2.since 0 (i64.wrap ((a0.farms.length:Int) - 1))))=true→(ip a0 a2.parts))))))))
@[go_sem] def oV:List SV→Option Con:=(pD .district fun a0=>(pM .int .deed fun a1=>(pD .deed fun a2=>(pE (.det (iY a0 a1 a2) (.v (.bool (cF a0 a1 a2))))))))
theorem uk:FnOk Tryz.prog 49 oV:=by
 have hG:ConsOk Tryz.prog (mkG [(39,kw),(85,fun l=>oU (dl [.st .deed] l)),(86,fun l=>nT (dl [.st .district,.sl .part] l))] []):=aw (cgc mw (cgc (uj.norm [.st .deed]) (cgc (tf.norm [.st .district,.sl .part]) cg0))) cg0;refine aV [.o] mixed an hG (fn:=Tryz.f49) (c:=ae Tryz.f49) kr kr kr kr (aW fun a0=>(OH fun a1=>(aW fun a2=>(aF (fun hp=>?_)))));dsimp only[aD]at hp;unfold iY at hp;refine⟨nbl rfl,L0,ah _,?_⟩
 ·unfold ae Tryz.f49;try unfold cF
  exact zq1
def cS (x:Deed):Bool:=(decide ((x.parts.length:Int) > 16))
@[go_sem] def my:List SV→Option Con:=(pD .deed fun x=>(pE (.det True (.v (.bool (cS x))))))
theorem qM:FnOk Tryz.prog 48 my:=by
 have hG:ConsOk Tryz.prog (mkG [] []):=aw cg0 cg0;refine aV [.o] mixed an hG (fn:=Tryz.f48) (c:=ae Tryz.f48) kr kr kr kr (aW fun x=>(aF (fun hp=>?_)));dsimp only[aD]at hp;refine⟨nbl rfl,L0,ah _,?_⟩
 ·unfold ae Tryz.f48;try unfold cS
  exact zq1
@[go_sem] def bO (s_:List Deed)(k_0:Nat)(s_0:Unit):Int⊕Unit:=(bif(cS (s_.getD k_0 (default:Deed)))then .inl (k_0:Int)else .inr ())
def cK (s_:List Deed):Int:=(match ap (bO s_) s_.length 0 ()with| .inl x_0_0=>x_0_0| .inr s_0=>(-1))
@[go_sem] def dw:List SV→Option Con:=(pR .deed fun s_=>(pFn 48 (pE ((pE (.det True (.v (.int .i64 (cK s_)))))))))
theorem eA:FnOk Tryz.prog 84 dw:=by
 have hG:ConsOk Tryz.prog (mkG [(48,fun l=>my (dl [.st .deed] l))] []):=aw (cgc (qM.norm [.st .deed]) cg0) cg0;refine aV [.o] mixed an hG (fn:=Tryz.f84) (c:=ae Tryz.f84) kr kr kr kr (d7 fun s_=>(sR (aF ((aF (fun hp=>?_))))));dsimp only[aD]at hp;refine⟨nbl rfl,(fun id st=>bif Nat.beq id 0 then some (LCR (ρ:=Int) (σ:=Unit) 0 [] [] (fun k_0 s_0=>⟨[(0,.rs .deed s_),(1,.fn 48 [] []),(7,.v (.int .i64 (s_.length:Int))),(8,.v (.int .i64 (k_0:Int)))],[]⟩) (bO s_) pT s_.length () (s_.length≤bp) (fun _=>.ret) (fun x_0_0=>⟨[(4,.v (.int .i64 x_0_0))],[]⟩) st)else none),?_,?_⟩
 ·unfold ae Tryz.f84;simp only[am,true_and,and_true]
  ·refine cy mixed an hG kr (fun _=>rfl) (s_.length:Int) rfl gE (fun hb0 k_0 s_0 hlt0 _ hw hc=>⟨L0,ah _,?_⟩) (fun hb0 s_0 hc=>?_)
   ·exact bL (jl [])
   ·exact bM (jl [])
 ·unfold ae Tryz.f84;try unfold cK
  exact zq1
@[go_sem] noncomputable def dm:List SV→Option Con:=fun l=>(dw l)
theorem g7:FnOk Tryz.prog 84 dm:=eA
def aX (s_:List Deed):Bool:=(decide ((cK s_)≥0))
@[go_sem] def d_:List SV→Option Con:=(pR .deed fun s_=>(pFn 48 (pE ((pE (.det True (.v (.bool (aX s_)))))))))
theorem zq71 {p:Prop}(h:p:=by simp only[go_sem,Nat.reduceBEq,Nat.reduceLeDiff,Nat.reduceLT,decide_true,Nat.reduceAdd,Nat.reduceSub,Nat.reduceMul,Int.reduceLE,Int.reduceLT,Int.reduceToNat,Int.reduceNeg,reduceCtorEq,dm];all_goals exact cl):p:=h
theorem gG:FnOk Tryz.prog 47 d_:=by
 have hG:ConsOk Tryz.prog (mkG [(84,fun l=>dm (dl [.sl .deed,.o] l))] []):=aw (cgc (g7.norm [.sl .deed,.o]) cg0) cg0;refine aV [.o] mixed an hG (fn:=Tryz.f47) (c:=ae Tryz.f47) kr kr kr kr (d7 fun s_=>(sR (aF ((aF (fun hp=>?_))))));dsimp only[aD]at hp;refine⟨nbl rfl,L0,ah _,?_⟩
 ·unfold ae Tryz.f47;try unfold aX
  exact zq71
@[go_sem] def dV (d:District)(l_:List Deed)(k_0:Nat)(s_0:List (Int×Deed)):Unit⊕(List (Int×Deed)):=(bif(((decide ((k_0:Int) > 0))&&(decide ((l_.getD k_0 (default:Deed)).no≤(l_.getD (Int.toNat (i64.wrap ((k_0:Int) - 1))) (default:Deed)).no))) ||(!(cF d s_0 (l_.getD k_0 (default:Deed)))))then .inl ()else .inr (eX .int .deed s_0 ((l_.getD k_0 (default:Deed)).no) (l_.getD k_0 (default:Deed))))
def iC (d:District)(l_:List Deed)(k_0:Nat)(s_0:List (Int×Deed)):Prop:=(((decide ((k_0:Int) > 0))=true→(0≤(i64.wrap ((k_0:Int) - 1))∧(i64.wrap ((k_0:Int) - 1)) < (l_.length:Int)))∧(((decide ((k_0:Int) > 0))&&(decide ((l_.getD k_0 (default:Deed)).no≤(l_.getD (Int.toNat (i64.wrap ((k_0:Int) - 1))) (default:Deed)).no)))=false→(iY d s_0 (l_.getD k_0 (default:Deed)))))
def aO (d:District)(l_:List Deed):Int:=(bif((ay d) !=0)then(ay d)else(bif((decide ((l_.length:Int) > 512)) ||(aX l_))then 2 else(match ap (dV d l_) l_.length 0 ([])with| .inl x_0_0=>250| .inr s_0=>0)))
def fR (d:District)(l_:List Deed):Prop:=(((ay d) !=0)=false→(l_.length≤bp→(((decide ((l_.length:Int) > 512)) ||(aX l_))=false→(l_.length≤bp→okI (dV d l_) (iC d l_) l_.length 0 ([])))))
@[go_sem] def ke:List SV→Option Con:=(pD .district fun d=>(pR .deed fun l_=>(pE (.det (fR d l_) (.v (.int .i64 (aO d l_)))))))
theorem mT:FnOk Tryz.prog 26 ke:=by
 have hG:ConsOk Tryz.prog (mkG [(34,fun l=>jC (dl [.st .district] l)),(47,fun l=>d_ (dl [.sl .deed,.o] l)),(49,fun l=>oV (dl [.st .district,.mp .int .deed,.st .deed] l))] []):=aw (cgc (lh.norm [.st .district]) (cgc (gG.norm [.sl .deed,.o]) (cgc (uk.norm [.st .district,.mp .int .deed,.st .deed]) cg0))) cg0;refine aV [.o] mixed an hG (fn:=Tryz.f26) (c:=ae Tryz.f26) kr kr kr kr (aW fun d=>(d7 fun l_=>(aF (fun hp=>?_))));dsimp only[aD]at hp;unfold fR at hp;refine⟨nbl rfl,(fun id st=>bif Nat.beq id 0 then some (LCR (ρ:=Unit) (σ:=(List (Int×Deed))) 2 [] [0,1] (fun k_0 s_0=>⟨[(1,.rs .deed l_),(2,.ptr 0 0),(5,.os 1),(21,.rs .deed l_),(22,.v (.int .i64 (l_.length:Int))),(23,.v (.int .i64 (k_0:Int)))],[.cells (cellsOf .district d),.mp .int .deed s_0 none]⟩) (dV d l_) (iC d l_) l_.length ([]) (l_.length≤bp) (fun _=>.ret) (fun x_0_0=>⟨[(4,.v (.int .i64 250))],[.dead,.dead]⟩) st)else none),?_,?_⟩
 ·unfold ae Tryz.f26;simp only[am,true_and,and_true]
  ·refine cy mixed an hG kr (fun _=>rfl) (l_.length:Int) rfl gE (fun hb0 k_0 s_0 hlt0 hq0 hw hc=>⟨L0,ah _,?_⟩) (fun hb0 s_0 hc=>?_)
   ·unfold iC at hq0;try simp only[hw,Int.toNat_natCast]at hq0
    exact bL (jl [0,1])
   ·exact bM (jl [0,1])
 ·unfold ae Tryz.f26;try unfold aO
  exact zq1
end Go.Sx
end
section
namespace Go.Sx
open Go.RowKit
def pXM {α:Type 1}(t t2:Tag)(k:List (t.T×t2.T)→List SV→Option α):List SV→Option α
 | .ep [s] 0::r=>pM t t2 k (s::r)
 |_=>none
@[go_sem] theorem Tf {α:Type 1}{t t2:Tag}{k:List (t.T×t2.T)→List SV→Option α}{s:SV}{r:List SV}:pXM t t2 k (.ep [s] 0::r)=pM t t2 k (s::r):=(rfl)
theorem Fd {α:Type 1}{G:List SV→α→Prop}{t t2:Tag}{k:List (t.T×t2.T)→List SV→Option α}(h:∀ n l c,k n l=some c→G (.ep [.rm t t2 n] 0::l) c):∀ l c,pXM t t2 k l=some c→G l c:=fun l c hc=>by
 unfold pXM at hc;split at hc
 ·obtain⟨x,r,e,h1⟩:=Ij hc;simp only[List.cons.injEq]at e;obtain⟨rfl,rfl⟩:=e;exact h x _ c h1
 ·cases hc
section
universe u
variable {α:Type u}{G:List SV→α→Prop}
def pLS (k:List SV→Option (List SV→Option α)):List SV→Option α
 | .ls l::r=>apO (k l) r
 |_=>none
@[go_sem] theorem VO {k:List SV→Option (List SV→Option α)}{l r:List SV}:pLS k (.ls l::r)=apO (k l) r:=(rfl)
end
open Classical in
noncomputable def gH {τ:Type}(A:τ→List SV)(H:τ→List Ob)(K:τ→HCon):List SV→List Ob→Option HCon:=fun l h=>if e:∃ x,l=A x∧h=H x then some (K e.choose)else none
theorem I0 (x:Deed):(⟨x.no,x.kind,x.right,x.since,x.to,x.parts,x.of_,x.at_,x.known⟩:Deed)=x:=rfl
theorem Ax (d:District):(⟨d.name,d.hours,⟨d.tank.cap,d.tank.start⟩,d.reaches,d.farms,d.crops,d.rights,d.duties,d.wells⟩:District)=d:=rfl
theorem GC {k:Tag}{x y:k.T}:cellsOf k x=cellsOf k y↔x=y:=⟨fun h=>by
 have h1:=qt x;rw[h,qt y]at h1;exact(Option.some.inj h1).symm,fun h=>by rw[h]⟩
theorem eT {τ:Type}{A:τ→List SV}{H:τ→List Ob}{K:τ→HCon}{x:τ}(inj:∀ x y,A x=A y→H x=H y→x=y:=by
 intro x y h1 h2;simp only[List.cons.injEq,SV.agg.injEq,SV.ep.injEq,SV.v.injEq,Value.int.injEq,Value.bool.injEq,Value.string.injEq,SV.fn.injEq,SV.rs.injEq,SV.rm.injEq,Ob.row.injEq,Ob.mp.injEq,Ob.cells.injEq,Ob.grid.injEq,heq_eq_eq,GC,true_and,and_true]at h1 h2;first|exact h2|exact h1|(simp_all [Prod.ext_iff];done)):gH A H K (A x) (H x)=some (K x):=by
 have e:∃ y,A x=A y∧H x=H y:=⟨x,rfl,rfl⟩;unfold gH;rw[dif_pos e];have:=inj _ _ e.choose_spec.1 e.choose_spec.2;rw[←this]
theorem dG {τ:Type}{A:τ→List SV}{H:τ→List Ob}{K:τ→HCon}{l:List SV}{h:List Ob}{c:HCon}(hh:gH A H K l h=some c):∃ x,l=A x∧h=H x∧c=K x:=by
 unfold gH at hh;split at hh
 ·rename_i e;simp only[Option.some.injEq]at hh;exact⟨e.choose,e.choose_spec.1,e.choose_spec.2,hh.symm⟩
 ·cases hh
end Go.Sx
end
section
namespace Go.Sx
open Go.Proofs
open IntKind (i64)
@[go_sem] def lA:List SV→Option Con:=pR .deed fun l=>pE (.det (l.length*88≤fE) (.nw .deed l))
theorem qa:FnOk Tryz.prog 72 lA:=by
 have hG:ConsOk Tryz.prog (mkG [] []):=aw cg0 cg0;refine oy [(.tmp 2,.deed)] mixed an hG (fn:=Tryz.f72) (c:=ae Tryz.f72) kr kr kr kr (d7 fun l=>aF fun hp=>?_);dsimp only[aD]at hp;refine⟨nbl rfl,L0,ah _,?_⟩;unfold ae Tryz.f72;simp only[go_sem,Nat.reduceBEq,Nat.reduceLeDiff,Nat.reduceAdd,Nat.reduceSub,Nat.reduceMul,Int.reduceLE,Int.reduceLT,Int.reduceToNat,Int.reduceNeg,reduceCtorEq];intro b hb;refine⟨fun h=>?_,fun _=>⟨hp,fun _=>rfl⟩⟩;have hl:=hb h;subst hl;rfl
theorem gq {l0 l1:List Nat}(a0:JL l0)(a1:JL l1){p:Prop}(h:JL l0→JL l1→p:=by intro ja jb;(first|done|(repeat' (first|with_reducible refine And.intro ?_ ?_|((with_reducible show _≠_);first|assumption|omega|(simp_all [eG,ff];done) |grind) |with_reducible intro _)) <;>(first|done|with_reducible exact Empty.elim ‹Empty› |with_reducible assumption|rfl|omega|assumption|decide|exact fk ja|exact fk jb|exact czl|(simp only[*,cond_true,cond_false,Bool.not_true,Bool.not_false,go_sem,Nat.reduceBEq,Nat.reduceLeDiff,Nat.reduceLT,decide_true,Nat.reduceAdd,Nat.reduceSub,Nat.reduceMul,Int.reduceLE,Int.reduceLT,Int.reduceToNat,Int.reduceNeg,reduceCtorEq];(repeat' (first|with_reducible refine And.intro ?_ ?_|((with_reducible show _≠_);first|assumption|omega|(simp_all [eG,ff];done) |grind) |with_reducible intro _)) <;>(first|done|assumption|rfl|omega|decide|exact fk ja|exact fk jb|(simp_all [eG,ff];done))) |(simp_all [okI,eG,ff];done) |(simp_all [eG,ff];(first|done|exact fk2 ja|exact fk2 jb)) |exact fk2 ja|exact fk2 jb))):p:=h a0 a1
def aQ (x:Deed)(known:Int)(hour:Int)(void_:List (Int×Bool)):Bool:=((((x.kind==4) ||(decide (x.known > known))) ||(decide (x.at_ > hour))) ||(b7 .int .bool void_ x.no))
@[go_sem] def gI:List SV→Option Con:=(pD .deed fun x=>(pX .int fun known=>(pX .int fun hour=>(pXM .int .bool fun void_=>(pE (.det True (.v (.bool (aQ x known hour void_)))))))))
theorem jE:FnOk Tryz.prog 73 gI:=by
 have hG:ConsOk Tryz.prog (mkG [] []):=aw cg0 cg0;refine aV [.o] mixed an hG (fn:=Tryz.f73) (c:=ae Tryz.f73) kr kr kr kr (aW fun x=>(pu fun known=>(pu fun hour=>(Fd fun void_=>(aF (fun hp=>?_))))));dsimp only[aD]at hp;refine⟨nbl rfl,L0,ah _,?_⟩
 ·unfold ae Tryz.f73;try unfold aQ
  exact zq1
def ct (a:Deed)(b:Deed):Int:=(b6 a.at_ b.at_)
@[go_sem] def gJ:List SV→Option Con:=(pD .deed fun a=>(pD .deed fun b=>(pE (.det True (.v (.int .i64 (ct a b)))))))
theorem jF:FnOk Tryz.prog 75 gJ:=by
 have hG:ConsOk Tryz.prog (mkG [(45,ft)] []):=aw (cgc ga cg0) cg0;refine aV [.o] mixed an hG (fn:=Tryz.f75) (c:=ae Tryz.f75) kr kr kr kr (aW fun a=>(aW fun b=>(aF (fun hp=>?_))));dsimp only[aD]at hp;refine⟨nbl rfl,L0,ah _,?_⟩
 ·unfold ae Tryz.f75;try unfold ct
  exact zq1
@[go_sem] def c6 (s_:List Deed)(known:Int)(hour:Int)(void_:List (Int×Bool))(k_0:Nat)(s_0:Unit):Int⊕Unit:=(bif(aQ (s_.getD k_0 (default:Deed)) known hour void_)then .inl (k_0:Int)else .inr ())
def ai (s_:List Deed)(known:Int)(hour:Int)(void_:List (Int×Bool)):Int:=(match ap (c6 s_ known hour void_) s_.length 0 ()with| .inl x_0_0=>x_0_0| .inr s_0=>(-1))
@[go_sem] def eu:List SV→Option Con:=(pR .deed fun s_=>(pFn 73 (pX .int fun known=>(pX .int fun hour=>(pXM .int .bool fun void_=>(pE ((pE (.det True (.v (.int .i64 (ai s_ known hour void_))))))))))))
theorem gP:FnOk Tryz.prog 84 eu:=by
 have hG:ConsOk Tryz.prog (mkG [(73,fun l=>gI (dl [.st .deed,.o,.o,.o] l))] []):=aw (cgc (jE.norm [.st .deed,.o,.o,.o]) cg0) cg0;refine aV [.o] mixed an hG (fn:=Tryz.f84) (c:=ae Tryz.f84) kr kr kr kr (d7 fun s_=>(sR (pu fun known=>(pu fun hour=>(Fd fun void_=>(aF ((aF (fun hp=>?_)))))))));dsimp only[aD]at hp;refine⟨nbl rfl,(fun id st=>bif Nat.beq id 0 then some (LCR (ρ:=Int) (σ:=Unit) 0 [] [] (fun k_0 s_0=>⟨[(0,.rs .deed s_),(1,.fn 73 [] [.ep [.v (.int .i64 known)] 0,.ep [.v (.int .i64 hour)] 0,.ep [.rm .int .bool void_] 0]),(7,.v (.int .i64 (s_.length:Int))),(8,.v (.int .i64 (k_0:Int)))],[]⟩) (c6 s_ known hour void_) pT s_.length () (s_.length≤bp) (fun _=>.ret) (fun x_0_0=>⟨[(4,.v (.int .i64 x_0_0))],[]⟩) st)else none),?_,?_⟩
 ·unfold ae Tryz.f84;simp only[am,true_and,and_true]
  ·refine cy mixed an hG kr (fun _=>rfl) (s_.length:Int) rfl gE (fun hb0 k_0 s_0 hlt0 _ hw hc=>⟨L0,ah _,?_⟩) (fun hb0 s_0 hc=>?_)
   ·exact bL (jl [])
   ·exact bM (jl [])
 ·unfold ae Tryz.f84;try unfold ai
  exact zq1
@[go_sem] noncomputable def dp:List SV→Option Con:=fun l=>(orC (dw l) (eu l))
theorem g8:FnOk Tryz.prog 84 dp:=(FnOk.or eA gP)
@[go_sem] def aJ (l_:List Deed)(known:Int)(hour:Int)(void_:List (Int×Bool))(k_0:Nat)(s_0:List Deed×Int×Int):(Int×List Deed)⊕(List Deed×Int×Int):=(bif(decide (s_0.2.2< (s_0.1.length:Int)))then(bif(!(aQ (s_0.1.getD (Int.toNat s_0.2.2) (default:Deed)) known hour void_))then .inr ((s_0.1.set (Int.toNat s_0.2.1) (s_0.1.getD (Int.toNat s_0.2.2) (default:Deed))),(i64.wrap (s_0.2.1+1)),(i64.wrap (s_0.2.2+1)))else .inr (s_0.1,s_0.2.1,(i64.wrap (s_0.2.2+1))))else .inl (s_0.2.1,s_0.1))
def bD (l_:List Deed)(known:Int)(hour:Int)(void_:List (Int×Bool))(k_0:Nat)(s_0:List Deed×Int×Int):Prop:=(s_0.1.length≤bp→((decide (s_0.2.2< (s_0.1.length:Int)))=true→((0≤s_0.2.2∧s_0.2.2< (s_0.1.length:Int))∧((!(aQ (s_0.1.getD (Int.toNat s_0.2.2) (default:Deed)) known hour void_))=true→(0≤s_0.2.1∧s_0.2.1< (s_0.1.length:Int))))))
def aT (l_:List Deed)(known:Int)(hour:Int)(void_:List (Int×Bool)):List Deed:=(bif((ai l_ known hour void_) ==(-1))then l_ else(match ap (aJ l_ known hour void_) (l_.length+1) 0 (l_,(ai l_ known hour void_),(i64.wrap ((ai l_ known hour void_)+1)))with| .inl x_0_0=>(((we .deed x_0_0.2 x_0_0.1 (x_0_0.2.length:Int)).take (Int.toNat x_0_0.1)).drop 0) | .inr s_0=>default))
def aY (l_:List Deed)(known:Int)(hour:Int)(void_:List (Int×Bool)):Prop:=(((ai l_ known hour void_) ==(-1))=false→(okI (aJ l_ known hour void_) (bD l_ known hour void_) (l_.length+1) 0 (l_,(ai l_ known hour void_),(i64.wrap ((ai l_ known hour void_)+1)))∧(∀ z_,ap (aJ l_ known hour void_) (l_.length+1) 0 (l_,(ai l_ known hour void_),(i64.wrap ((ai l_ known hour void_)+1)))≠ .inr z_)∧(∀ x_0_0,ap (aJ l_ known hour void_) (l_.length+1) 0 (l_,(ai l_ known hour void_),(i64.wrap ((ai l_ known hour void_)+1)))=.inl x_0_0→((0≤x_0_0.1∧x_0_0.1≤(x_0_0.2.length:Int))∧(0≤0∧0≤x_0_0.1∧x_0_0.1≤((we .deed x_0_0.2 x_0_0.1 (x_0_0.2.length:Int)).length:Int))))))
noncomputable def dq:List SV→List Ob→Option HCon:=gH (fun x_:(List Deed)×Int×Int×(List (Int×Bool)) =>[.os 0,.fn 73 [] [.ptr 1 0,.ptr 2 0,.ptr 3 0]]) (fun x_=>[.row .deed x_.1,.cells [.v (.int .i64 x_.2.1)],.cells [.v (.int .i64 x_.2.2.1)],.cells [.os 4],.mp .int .bool x_.2.2.2 none]) (fun x_=>eH (aY x_.1 x_.2.1 x_.2.2.1 x_.2.2.2) (.os 5) [.dead,.cells [.v (.int .i64 x_.2.1)],.cells [.v (.int .i64 x_.2.2.1)],.cells [.os 4],.mp .int .bool x_.2.2.2 none,.row .deed (aT x_.1 x_.2.1 x_.2.2.1 x_.2.2.2)])
@[go_sem] theorem oZ (l_:List Deed)(known:Int)(hour:Int)(void_:List (Int×Bool)){p4_:Option (Nat×Option Tag.int.T)}(hp4_:p4_=none):dq ([.os 0,.fn (73:Nat) [] [.ptr 1 0,.ptr 2 0,.ptr 3 0]]) ([.row .deed l_,.cells [.v (.int .i64 known)],.cells [.v (.int .i64 hour)],.cells [.os 4],.mp .int .bool void_ p4_])=some (eH (aY l_ known hour void_) (.os 5) [.dead,.cells [.v (.int .i64 known)],.cells [.v (.int .i64 hour)],.cells [.os 4],.mp .int .bool void_ none,.row .deed (aT l_ known hour void_)]):=by
 subst hp4_;exact eT (A:=fun x_:(List Deed)×Int×Int×(List (Int×Bool)) =>[.os 0,.fn 73 [] [.ptr 1 0,.ptr 2 0,.ptr 3 0]]) (H:=fun x_=>[.row .deed x_.1,.cells [.v (.int .i64 x_.2.1)],.cells [.v (.int .i64 x_.2.2.1)],.cells [.os 4],.mp .int .bool x_.2.2.2 none]) (K:=fun x_=>eH (aY x_.1 x_.2.1 x_.2.2.1 x_.2.2.2) (.os 5) [.dead,.cells [.v (.int .i64 x_.2.1)],.cells [.v (.int .i64 x_.2.2.1)],.cells [.os 4],.mp .int .bool x_.2.2.2 none,.row .deed (aT x_.1 x_.2.1 x_.2.2.1 x_.2.2.2)]) (x:=(l_,known,hour,void_))
theorem zq76 {l0 l1:List Nat}(a0:JL l0)(a1:JL l1){p:Prop}(h:JL l0→JL l1→p:=by intro ja jb;simp only[go_sem,Nat.reduceBEq,Nat.reduceLeDiff,Nat.reduceLT,decide_true,Nat.reduceAdd,Nat.reduceSub,Nat.reduceMul,Int.reduceLE,Int.reduceLT,Int.reduceToNat,Int.reduceNeg,reduceCtorEq,dp];all_goals exact gq ja jb):p:=h a0 a1
theorem g9:FnOkO Tryz.prog 71 (dq):=by
 have hG:ConsOk Tryz.prog (mkG [(73,fun l=>gI (dl [.st .deed,.o,.o,.o] l)),(84,fun l=>dp (dl [.sl .deed,.o] l))] []):=aw (cgc (jE.norm [.st .deed,.o,.o,.o]) (cgc (g8.norm [.sl .deed,.o]) cg0)) cg0;refine fO mixed an hG (fn:=Tryz.f71) (c:=ae Tryz.f71) kr kr kr kr fun l o con h=>?_;obtain⟨⟨l_,known,hour,void_⟩,rfl,rfl,rfl⟩:=dG h;clear h;try dsimp only
 refine⟨_,_,_,rfl,fun hp=>?_⟩;unfold aY at hp;refine⟨nbl rfl,(fun id st=>bif Nat.beq id 0 then some (LCV (ρ:=(Int×List Deed)) (σ:=(List Deed×Int×Int)) 5 [] [0,1,2,3,4] (fun k_0 s_0=>⟨[(0,.os 0),(1,.fn 73 [] [.ptr 1 0,.ptr 2 0,.ptr 3 0]),(5,.v (.int .i64 s_0.2.1)),(6,.v (.int .i64 s_0.2.2))],[.row .deed s_0.1,.cells [.v (.int .i64 known)],.cells [.v (.int .i64 hour)],.cells [.os 4],.mp .int .bool void_ none]⟩) (aJ l_ known hour void_) (bD l_ known hour void_) (l_.length+1) (l_,(ai l_ known hour void_),(i64.wrap ((ai l_ known hour void_)+1))) (fun _=>.normal) (fun x_0_0=>⟨[(0,.os 0),(5,.v (.int .i64 x_0_0.1))],[.row .deed x_0_0.2,.cells [.v (.int .i64 known)],.cells [.v (.int .i64 hour)],.cells [.os 4],.mp .int .bool void_ none]⟩) st)else none),?_,?_⟩
 ·unfold ae Tryz.f71;simp only[am,true_and,and_true,and_assoc]
  ·refine e_ mixed an hG kr (fun _=>rfl) fun k_0 s_0 hq0=>⟨L0,ah _,?_⟩
   ·unfold bD at hq0;exact cL (jl [0,1,2,3,4])
 ·unfold ae Tryz.f71;try unfold aT
  exact zq76 (jl [0,1,2,3,4,0]) (jl [0,1,2,3,4,5])
@[go_sem] def aH (a:Int)(l_:List Deed)(k_1:Nat)(s_1:List Deed×Int):(List Deed)⊕(List Deed×Int):=(bif((decide (s_1.2 > a))&&(decide ((ct (s_1.1.getD (Int.toNat s_1.2) (default:Deed)) (s_1.1.getD (Int.toNat (i64.wrap (s_1.2 - 1))) (default:Deed))) <0)))then .inr (((s_1.1.set (Int.toNat s_1.2) (s_1.1.getD (Int.toNat (i64.wrap (s_1.2 - 1))) (default:Deed))).set (Int.toNat (i64.wrap (s_1.2 - 1))) (s_1.1.getD (Int.toNat s_1.2) (default:Deed))),(i64.wrap (s_1.2 - 1)))else .inl s_1.1)
def a7 (a:Int)(l_:List Deed)(k_1:Nat)(s_1:List Deed×Int):Prop:=(((decide (s_1.2 > a))=true→(0≤s_1.2∧s_1.2< (s_1.1.length:Int)))∧(((decide (s_1.2 > a))=true→(0≤(i64.wrap (s_1.2 - 1))∧(i64.wrap (s_1.2 - 1)) < (s_1.1.length:Int)))∧(((decide (s_1.2 > a))&&(decide ((ct (s_1.1.getD (Int.toNat s_1.2) (default:Deed)) (s_1.1.getD (Int.toNat (i64.wrap (s_1.2 - 1))) (default:Deed))) <0)))=true→((0≤(i64.wrap (s_1.2 - 1))∧(i64.wrap (s_1.2 - 1)) < (s_1.1.length:Int))∧((0≤s_1.2∧s_1.2< (s_1.1.length:Int))∧((0≤s_1.2∧s_1.2< (s_1.1.length:Int))∧(0≤(i64.wrap (s_1.2 - 1))∧(i64.wrap (s_1.2 - 1)) < ((s_1.1.set (Int.toNat s_1.2) (s_1.1.getD (Int.toNat (i64.wrap (s_1.2 - 1))) (default:Deed))).length:Int))))))))
@[go_sem] def aA (a:Int)(b:Int)(l_:List Deed)(k_0:Nat)(s_0:List Deed×Int):(List Deed)⊕(List Deed×Int):=(bif(decide (s_0.2<b))then(match ap (aH a l_) (l_.length+1) 0 (s_0.1,s_0.2)with| .inl x_1_0=>.inr (x_1_0,(i64.wrap (s_0.2+1))) | .inr s_1=>.inr default)else .inl s_0.1)
def aP (a:Int)(b:Int)(l_:List Deed)(k_0:Nat)(s_0:List Deed×Int):Prop:=((decide (s_0.2<b))=true→(okI (aH a l_) (a7 a l_) (l_.length+1) 0 (s_0.1,s_0.2)∧(∀ z_,ap (aH a l_) (l_.length+1) 0 (s_0.1,s_0.2)≠ .inr z_)))
def av (a:Int)(b:Int)(l_:List Deed):List Deed:=(match ap (aA a b l_) (l_.length+1) 0 (l_,(i64.wrap (a+1)))with| .inl x_0_0=>x_0_0| .inr s_0=>default)
def aK (a:Int)(b:Int)(l_:List Deed):Prop:=(okI (aA a b l_) (aP a b l_) (l_.length+1) 0 (l_,(i64.wrap (a+1)))∧(∀ z_,ap (aA a b l_) (l_.length+1) 0 (l_,(i64.wrap (a+1)))≠ .inr z_))
noncomputable def c9:List SV→List Ob→Option HCon:=gH (fun x_:Int×Int×(List Deed) =>[.os 0,.v (.int .i64 x_.1),.v (.int .i64 x_.2.1),.fn 75 [] []]) (fun x_=>[.row .deed x_.2.2]) (fun x_=>eH (aK x_.1 x_.2.1 x_.2.2) (.tup []) [.row .deed (av x_.1 x_.2.1 x_.2.2)])
@[go_sem] theorem oW (a:Int)(b:Int)(l_:List Deed):c9 ([.os 0,.v (.int .i64 a),.v (.int .i64 b),.fn 75 [] []]) ([.row .deed l_])=some (eH (aK a b l_) (.tup []) [.row .deed (av a b l_)]):=eT (A:=fun x_:Int×Int×(List Deed) =>[.os 0,.v (.int .i64 x_.1),.v (.int .i64 x_.2.1),.fn 75 [] []]) (H:=fun x_=>[.row .deed x_.2.2]) (K:=fun x_=>eH (aK x_.1 x_.2.1 x_.2.2) (.tup []) [.row .deed (av x_.1 x_.2.1 x_.2.2)]) (x:=(a,b,l_))
theorem gQ:FnOkO Tryz.prog 148 (c9):=by
 have hG:ConsOk Tryz.prog (mkG [(75,fun l=>gJ (dl [.st .deed,.st .deed] l))] []):=aw (cgc (jF.norm [.st .deed,.st .deed]) cg0) cg0;refine fO mixed an hG (fn:=Tryz.f148) (c:=ae Tryz.f148) kr kr kr kr fun l o con h=>?_;obtain⟨⟨a,b,l_⟩,rfl,rfl,rfl⟩:=dG h;clear h;try dsimp only
 refine⟨_,_,_,rfl,fun hp=>?_⟩;unfold aK at hp;refine⟨nbl rfl,(fun id st=>bif Nat.beq id 0 then some (LCV (ρ:=(List Deed)) (σ:=(List Deed×Int)) 1 [] [0] (fun k_0 s_0=>⟨[(0,.os 0),(1,.v (.int .i64 a)),(2,.v (.int .i64 b)),(3,.fn 75 [] []),(8,.v (.int .i64 s_0.2))],[.row .deed s_0.1]⟩) (aA a b l_) (aP a b l_) (l_.length+1) (l_,(i64.wrap (a+1))) (fun _=>.normal) (fun x_0_0=>⟨[],[.row .deed x_0_0]⟩) st)else none),?_,?_⟩
 ·unfold ae Tryz.f148;simp only[am,true_and,and_true,and_assoc]
  ·refine e_ mixed an hG kr (fun _=>rfl) fun k_0 s_0 hq0=>⟨(fun id st=>bif Nat.beq id 2 then some (LCV (ρ:=(List Deed)) (σ:=(List Deed×Int)) 1 [] [0] (fun k_1 s_1=>⟨[(0,.os 0),(1,.v (.int .i64 a)),(2,.v (.int .i64 b)),(3,.fn 75 [] []),(8,.v (.int .i64 s_0.2)),(9,.v (.int .i64 s_1.2))],[.row .deed s_1.1]⟩) (aH a l_) (a7 a l_) (l_.length+1) (s_0.1,s_0.2) (fun _=>.normal) (fun x_1_0=>⟨[(0,.os 0),(1,.v (.int .i64 a)),(2,.v (.int .i64 b)),(3,.fn 75 [] []),(8,.v (.int .i64 s_0.2))],[.row .deed x_1_0]⟩) st)else none),?_,?_⟩
   ·simp only[am,true_and,and_true]
    ·refine e_ mixed an hG kr (fun _=>rfl) fun k_1 s_1 hq1=>⟨L0,ah _,?_⟩
     ·unfold a7 at hq1;exact cL (jl [0])
   ·unfold aP at hq0;exact cL (jl [0])
 ·unfold ae Tryz.f148;try unfold av
  exact cL (jl [0])
@[go_sem] def bC (a:Int)(b:Int)(n:Int)(k_0:Nat)(s_0:List Deed):Empty⊕(List Deed):=.inr ((s_0.set (Int.toNat (i64.wrap (a+(k_0:Int)))) (s_0.getD (Int.toNat (i64.wrap (b+(k_0:Int)))) (default:Deed))).set (Int.toNat (i64.wrap (b+(k_0:Int)))) (s_0.getD (Int.toNat (i64.wrap (a+(k_0:Int)))) (default:Deed)))
def bP (a:Int)(b:Int)(n:Int)(k_0:Nat)(s_0:List Deed):Prop:=((0≤(i64.wrap (b+(k_0:Int)))∧(i64.wrap (b+(k_0:Int))) < (s_0.length:Int))∧((0≤(i64.wrap (a+(k_0:Int)))∧(i64.wrap (a+(k_0:Int))) < (s_0.length:Int))∧((0≤(i64.wrap (a+(k_0:Int)))∧(i64.wrap (a+(k_0:Int))) < (s_0.length:Int))∧(0≤(i64.wrap (b+(k_0:Int)))∧(i64.wrap (b+(k_0:Int))) < ((s_0.set (Int.toNat (i64.wrap (a+(k_0:Int)))) (s_0.getD (Int.toNat (i64.wrap (b+(k_0:Int)))) (default:Deed))).length:Int)))))
def aR (a:Int)(b:Int)(n:Int)(l_:List Deed):List Deed:=(match ap (bC a b n) (Int.toNat n) 0 l_ with| .inl x=>x.elim| .inr s_0=>s_0)
def aM (a:Int)(b:Int)(n:Int)(l_:List Deed):Prop:=((n<9223372036854775808)∧okI (bC a b n) (bP a b n) (Int.toNat n) 0 l_)
noncomputable def dH:List SV→List Ob→Option HCon:=gH (fun x_:Int×Int×Int×(List Deed) =>[.os 0,.v (.int .i64 x_.1),.v (.int .i64 x_.2.1),.v (.int .i64 x_.2.2.1),.fn 75 [] []]) (fun x_=>[.row .deed x_.2.2.2]) (fun x_=>eH (aM x_.1 x_.2.1 x_.2.2.1 x_.2.2.2) (.tup []) [.row .deed (aR x_.1 x_.2.1 x_.2.2.1 x_.2.2.2)])
@[go_sem] theorem qA (a:Int)(b:Int)(n:Int)(l_:List Deed):dH ([.os 0,.v (.int .i64 a),.v (.int .i64 b),.v (.int .i64 n),.fn 75 [] []]) ([.row .deed l_])=some (eH (aM a b n l_) (.tup []) [.row .deed (aR a b n l_)]):=eT (A:=fun x_:Int×Int×Int×(List Deed) =>[.os 0,.v (.int .i64 x_.1),.v (.int .i64 x_.2.1),.v (.int .i64 x_.2.2.1),.fn 75 [] []]) (H:=fun x_=>[.row .deed x_.2.2.2]) (K:=fun x_=>eH (aM x_.1 x_.2.1 x_.2.2.1 x_.2.2.2) (.tup []) [.row .deed (aR x_.1 x_.2.1 x_.2.2.1 x_.2.2.2)]) (x:=(a,b,n,l_))
theorem iO:FnOkO Tryz.prog 183 (dH):=by
 have hG:ConsOk Tryz.prog (mkG [] []):=aw cg0 cg0;refine fO mixed an hG (fn:=Tryz.f183) (c:=ae Tryz.f183) kr kr kr kr fun l o con h=>?_;obtain⟨⟨a,b,n,l_⟩,rfl,rfl,rfl⟩:=dG h;clear h;try dsimp only
 refine⟨_,_,_,rfl,fun hp=>?_⟩;unfold aM at hp;refine⟨nbl rfl,(fun id st=>bif Nat.beq id 0 then some (LCR (ρ:=Empty) (σ:=(List Deed)) 1 [] [0] (fun k_0 s_0=>⟨[(0,.os 0),(1,.v (.int .i64 a)),(2,.v (.int .i64 b)),(3,.v (.int .i64 n)),(10,.v (.int .i64 (k_0:Int)))],[.row .deed s_0]⟩) (bC a b n) (bP a b n) (Int.toNat n) l_ (n<9223372036854775808) ((·.elim)) ((·.elim)) st)else none),?_,?_⟩
 ·unfold ae Tryz.f183;simp only[am,true_and,and_true,and_assoc]
  ·refine cy mixed an hG kr (fun _=>rfl) n rfl id (fun hb0 k_0 s_0 hlt0 hq0 hw hc=>⟨L0,ah _,?_⟩) (fun hb0 s_0 hc=>?_)
   ·unfold bP at hq0;try simp only[hw,Int.toNat_natCast]at hq0
    exact bL (jl [0])
   ·exact bM (jl [0])
 ·unfold ae Tryz.f183;try unfold aR
  exact cL (jl [0])
@[go_sem] def be (a:Int)(m:Int)(b:Int)(k_0:Nat)(s_0:List Deed×Int×Int):(Int×List Deed)⊕(List Deed×Int×Int):=(bif(s_0.2.1 !=s_0.2.2)then(bif(decide (s_0.2.1 > s_0.2.2))then .inr ((aR (i64.wrap (m - s_0.2.1)) m s_0.2.2 s_0.1),(i64.wrap (s_0.2.1 - s_0.2.2)),s_0.2.2)else .inr ((aR (i64.wrap (m - s_0.2.1)) (i64.wrap ((i64.wrap (m+s_0.2.2)) - s_0.2.1)) s_0.2.1 s_0.1),s_0.2.1,(i64.wrap (s_0.2.2 - s_0.2.1))))else .inl (s_0.2.1,s_0.1))
def b9 (a:Int)(m:Int)(b:Int)(k_0:Nat)(s_0:List Deed×Int×Int):Prop:=((s_0.2.1 !=s_0.2.2)=true→(((decide (s_0.2.1 > s_0.2.2))=true→(aM (i64.wrap (m - s_0.2.1)) m s_0.2.2 s_0.1))∧((decide (s_0.2.1 > s_0.2.2))=false→(aM (i64.wrap (m - s_0.2.1)) (i64.wrap ((i64.wrap (m+s_0.2.2)) - s_0.2.1)) s_0.2.1 s_0.1))))
def ar (a:Int)(m:Int)(b:Int)(l_:List Deed):List Deed:=(match ap (be a m b) (Int.toNat (b - a)+1) 0 (l_,(i64.wrap (m - a)),(i64.wrap (b - m)))with| .inl x_0_0=>(aR (i64.wrap (m - x_0_0.1)) m x_0_0.1 x_0_0.2) | .inr s_0=>default)
def bj (a:Int)(m:Int)(b:Int)(l_:List Deed):Prop:=(okI (be a m b) (b9 a m b) (Int.toNat (b - a)+1) 0 (l_,(i64.wrap (m - a)),(i64.wrap (b - m)))∧(∀ z_,ap (be a m b) (Int.toNat (b - a)+1) 0 (l_,(i64.wrap (m - a)),(i64.wrap (b - m)))≠ .inr z_)∧(∀ x_0_0,ap (be a m b) (Int.toNat (b - a)+1) 0 (l_,(i64.wrap (m - a)),(i64.wrap (b - m)))=.inl x_0_0→(aM (i64.wrap (m - x_0_0.1)) m x_0_0.1 x_0_0.2)))
noncomputable def d5:List SV→List Ob→Option HCon:=gH (fun x_:Int×Int×Int×(List Deed) =>[.os 0,.v (.int .i64 x_.1),.v (.int .i64 x_.2.1),.v (.int .i64 x_.2.2.1),.fn 75 [] []]) (fun x_=>[.row .deed x_.2.2.2]) (fun x_=>eH (bj x_.1 x_.2.1 x_.2.2.1 x_.2.2.2) (.tup []) [.row .deed (ar x_.1 x_.2.1 x_.2.2.1 x_.2.2.2)])
@[go_sem] theorem rZ (a:Int)(m:Int)(b:Int)(l_:List Deed):d5 ([.os 0,.v (.int .i64 a),.v (.int .i64 m),.v (.int .i64 b),.fn 75 [] []]) ([.row .deed l_])=some (eH (bj a m b l_) (.tup []) [.row .deed (ar a m b l_)]):=eT (A:=fun x_:Int×Int×Int×(List Deed) =>[.os 0,.v (.int .i64 x_.1),.v (.int .i64 x_.2.1),.v (.int .i64 x_.2.2.1),.fn 75 [] []]) (H:=fun x_=>[.row .deed x_.2.2.2]) (K:=fun x_=>eH (bj x_.1 x_.2.1 x_.2.2.1 x_.2.2.2) (.tup []) [.row .deed (ar x_.1 x_.2.1 x_.2.2.1 x_.2.2.2)]) (x:=(a,m,b,l_))
theorem jG:FnOkO Tryz.prog 170 (d5):=by
 have hG:ConsOk Tryz.prog (mkG [] [(183,dH)]):=aw cg0 (cgc iO cg0);refine fO mixed an hG (fn:=Tryz.f170) (c:=ae Tryz.f170) kr kr kr kr fun l o con h=>?_;obtain⟨⟨a,m,b,l_⟩,rfl,rfl,rfl⟩:=dG h;clear h;try dsimp only
 refine⟨_,_,_,rfl,fun hp=>?_⟩;unfold bj at hp;refine⟨nbl rfl,(fun id st=>bif Nat.beq id 0 then some (LCV (ρ:=(Int×List Deed)) (σ:=(List Deed×Int×Int)) 1 [] [0] (fun k_0 s_0=>⟨[(0,.os 0),(2,.v (.int .i64 m)),(4,.fn 75 [] []),(10,.v (.int .i64 s_0.2.1)),(11,.v (.int .i64 s_0.2.2))],[.row .deed s_0.1]⟩) (be a m b) (b9 a m b) (Int.toNat (b - a)+1) (l_,(i64.wrap (m - a)),(i64.wrap (b - m))) (fun _=>.normal) (fun x_0_0=>⟨[(0,.os 0),(2,.v (.int .i64 m)),(4,.fn 75 [] []),(10,.v (.int .i64 x_0_0.1))],[.row .deed x_0_0.2]⟩) st)else none),?_,?_⟩
 ·unfold ae Tryz.f170;simp only[am,true_and,and_true,and_assoc]
  ·refine e_ mixed an hG kr (fun _=>rfl) fun k_0 s_0 hq0=>⟨L0,ah _,?_⟩
   ·unfold b9 at hq0;exact cL (jl [0])
 ·unfold ae Tryz.f170;try unfold ar
  exact cL (jl [0])
end Go.Sx
end
