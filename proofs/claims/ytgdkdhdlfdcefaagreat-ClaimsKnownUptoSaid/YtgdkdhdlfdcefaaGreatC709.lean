/- Part of the proof that the law ClaimsKnown returns true and leaves its arguments as they were, for all arguments of bulk at most 1048576 (the Upto form). -/
import Derived.Test.YtgdkdhdlfdcefaaGreatC708
import Derived.Test.YtgdkdhdlfdcefaaGreatC707
import Derived.Sort.Statements
import Derived.Shelf.SlSortCmp.Insertion
set_option linter.all false
set_option maxHeartbeats 4000000
set_option maxRecDepth 100000
section
namespace Go.Sx
open Go.Proofs
open IntKind (i64)
theorem cH {l0:List Nat}(a0:JL l0){p:Prop}(h:JL l0→p:=by intro ja;simp only[go_sem,Nat.reduceBEq,Nat.reduceLeDiff,Nat.reduceLT,decide_true,Nat.reduceAdd,Nat.reduceSub,Nat.reduceMul,Int.reduceLE,Int.reduceLT,Int.reduceToNat,Int.reduceNeg,reduceCtorEq];all_goals exact wZ ja):p:=h a0
def qt (d:District):Bool:=((((((decide ((d.reaches.length:Int)≤100))&&(decide ((d.farms.length:Int)≤700)))&&(decide ((d.crops.length:Int)≤100)))&&(decide ((d.rights.length:Int)≤300)))&&(decide ((d.duties.length:Int)≤300)))&&(decide ((d.wells.length:Int)≤100)))
@[go_sem] def uG:List SV→Option Con:=(pD .district fun d=>(pE (.det True (.v (.bool (qt d))))))
theorem Ak:FnOk Tryz.prog 33 uG:=by
 have hG:ConsOk Tryz.prog (mkG [] []):=aw cg0 cg0;refine aZ [.o] mixed am hG (fn:=Tryz.f33) (c:=ae Tryz.f33) kr kr kr kr (a7 fun d=>(aH (fun hp=>?_)));dsimp only[aD]at hp;refine⟨nbl rfl,L0,ah _,?_⟩
 ·unfold ae Tryz.f33;try unfold qt
  exact zq1
def aL (n:Int)(lo:Int)(hi:Int):Bool:=((decide (n≥lo))&&(decide (n≤hi)))
@[go_sem] def fK:List SV→Option Con:=(pI fun n=>(pI fun lo=>(pI fun hi=>(pE (.det True (.v (.bool (aL n lo hi))))))))
theorem gi:FnOk Tryz.prog 99 fK:=by
 have hG:ConsOk Tryz.prog (mkG [] []):=aw cg0 cg0;refine aZ [.o] mixed am hG (fn:=Tryz.f99) (c:=ae Tryz.f99) kr kr kr kr (b9 fun n=>(b9 fun lo=>(b9 fun hi=>(aH (fun hp=>?_)))));dsimp only[aD]at hp;refine⟨nbl rfl,L0,ah _,?_⟩
 ·unfold ae Tryz.f99;try unfold aL
  exact zq1
@[go_sem] def eS (b:Int)(k_0:Nat)(s_0:Int×Int):Int⊕(Int×Int):=(bif(decide (s_0.2 > 0))then .inr (s_0.2,(Int.tmod s_0.1 s_0.2))else .inl s_0.1)
def iZ (b:Int)(k_0:Nat)(s_0:Int×Int):Prop:=((decide (s_0.2 > 0))=true→s_0.2≠0)
def iH (a:Int)(b:Int):Int:=(match aq (eS b) (Int.toNat b+1) 0 (a,b)with| .inl x_0_0=>x_0_0| .inr s_0=>default)
def ll (a:Int)(b:Int):Prop:=(okI (eS b) (iZ b) (Int.toNat b+1) 0 (a,b)∧(∀ z_,aq (eS b) (Int.toNat b+1) 0 (a,b)≠ .inr z_))
@[go_sem] def oP:List SV→Option Con:=(pI fun a=>(pI fun b=>(pE (.det (ll a b) (.v (.int .i64 (iH a b)))))))
theorem t8:FnOk Tryz.prog 174 oP:=by
 have hG:ConsOk Tryz.prog (mkG [] []):=aw cg0 cg0;refine aZ [.o] mixed am hG (fn:=Tryz.f174) (c:=ae Tryz.f174) kr kr kr kr (b9 fun a=>(b9 fun b=>(aH (fun hp=>?_))));dsimp only[aD]at hp;unfold ll at hp;refine⟨nbl rfl,(fun id st=>bif Nat.beq id 0 then some (LCV (ρ:=Int) (σ:=(Int×Int)) 0 [] [] (fun k_0 s_0=>⟨[(0,.v (.int .i64 s_0.1)),(1,.v (.int .i64 s_0.2))],[]⟩) (eS b) (iZ b) (Int.toNat b+1) (a,b) (fun _=>.normal) (fun x_0_0=>⟨[(0,.v (.int .i64 x_0_0))],[]⟩) st)else none),?_,?_⟩
 ·unfold ae Tryz.f174;simp only[al,true_and,and_true]
  ·refine e_ mixed am hG kr (fun _=>rfl) fun k_0 s_0 hq0=>⟨L0,ah _,?_⟩
   ·unfold iZ at hq0;exact cH (jl [])
 ·unfold ae Tryz.f174;try unfold iH
  exact zq1
def j7 (n:Int):Int:=(bif(decide (n<0))then(i64.wrap (0 - n))else n)
@[go_sem] def sS:List SV→Option Con:=(pI fun n=>(pE (.det True (.v (.int .i64 (j7 n))))))
theorem yd:FnOk Tryz.prog 175 sS:=by
 have hG:ConsOk Tryz.prog (mkG [] []):=aw cg0 cg0;refine aZ [.o] mixed am hG (fn:=Tryz.f175) (c:=ae Tryz.f175) kr kr kr kr (b9 fun n=>(aH (fun hp=>?_)));dsimp only[aD]at hp;refine⟨nbl rfl,L0,ah _,?_⟩
 ·unfold ae Tryz.f175;try unfold j7
  exact zq1
def ei (a:Ratio):Bool:=(((((decide (a.d≥1))&&(decide (a.d≤1073741824)))&&(decide (a.n≥(-1073741824))))&&(decide (a.n≤1073741824)))&&((iH (j7 a.n) a.d) ==1))
def iI (a:Ratio):Prop:=(((((decide (a.d≥1))&&(decide (a.d≤1073741824)))&&(decide (a.n≥(-1073741824))))&&(decide (a.n≤1073741824)))=true→(ll (j7 a.n) a.d))
@[go_sem] def mZ:List SV→Option Con:=(pD .ratio fun a=>(pE (.det (iI a) (.v (.bool (ei a))))))
theorem pC:FnOk Tryz.prog 160 mZ:=by
 have hG:ConsOk Tryz.prog (mkG [(174,oP),(175,sS)] []):=aw (cgc t8 (cgc yd cg0)) cg0;refine aZ [.o] mixed am hG (fn:=Tryz.f160) (c:=ae Tryz.f160) kr kr kr kr (a7 fun a=>(aH (fun hp=>?_)));dsimp only[aD]at hp;unfold iI at hp;refine⟨nbl rfl,L0,ah _,?_⟩
 ·unfold ae Tryz.f160;try unfold ei
  exact zq1
def fq (a:Ratio):Int:=(bif(!(ei a))then 120 else 0)
def kp (a:Ratio):Prop:=(iI a)
@[go_sem] def qW:List SV→Option Con:=(pD .ratio fun a=>(pE (.det (kp a) (.v (.int .i64 (fq a))))))
theorem w_:FnOk Tryz.prog 178 qW:=by
 have hG:ConsOk Tryz.prog (mkG [(160,mZ)] []):=aw (cgc pC cg0) cg0;refine aZ [.o] mixed am hG (fn:=Tryz.f178) (c:=ae Tryz.f178) kr kr kr kr (a7 fun a=>(aH (fun hp=>?_)));dsimp only[aD]at hp;unfold kp at hp;refine⟨nbl rfl,L0,ah _,?_⟩
 ·unfold ae Tryz.f178;try unfold fq
  exact zq1
def mn (a:Ratio)(b:Ratio):Bool:=(decide ((i64.wrap (a.n*b.d)) < (i64.wrap (b.n*a.d))))
@[go_sem] def sT:List SV→Option Con:=(pD .ratio fun a=>(pD .ratio fun b=>(pE (.det True (.v (.bool (mn a b)))))))
theorem ye:FnOk Tryz.prog 184 sT:=by
 have hG:ConsOk Tryz.prog (mkG [] []):=aw cg0 cg0;refine aZ [.o] mixed am hG (fn:=Tryz.f184) (c:=ae Tryz.f184) kr kr kr kr (a7 fun a=>(a7 fun b=>(aH (fun hp=>?_))));dsimp only[aD]at hp;refine⟨nbl rfl,L0,ah _,?_⟩
 ·unfold ae Tryz.f184;try unfold mn
  exact zq1
def mo (a:Ratio)(b:Ratio):Bool:=((ei a)&&(ei b))
def ow (a:Ratio)(b:Ratio):Prop:=((iI a)∧((ei a)=true→(iI b)))
@[go_sem] def sW:List SV→Option Con:=(pD .ratio fun a=>(pD .ratio fun b=>(pE (.det (ow a b) (.v (.bool (mo a b)))))))
theorem yf:FnOk Tryz.prog 176 sW:=by
 have hG:ConsOk Tryz.prog (mkG [(160,mZ)] []):=aw (cgc pC cg0) cg0;refine aZ [.o] mixed am hG (fn:=Tryz.f176) (c:=ae Tryz.f176) kr kr kr kr (a7 fun a=>(a7 fun b=>(aH (fun hp=>?_))));dsimp only[aD]at hp;unfold ow at hp;refine⟨nbl rfl,L0,ah _,?_⟩
 ·unfold ae Tryz.f176;try unfold mo
  exact zq1
def j8 (a:Ratio)(b:Ratio):Int×Int:=(bif(!(mo a b))then(0,120)else(bif(mn a b)then((-1),0)else(bif(mn b a)then(1,0)else(0,0))))
def pF (a:Ratio)(b:Ratio):Prop:=(ow a b)
@[go_sem] def uH:List SV→Option Con:=(pD .ratio fun a=>(pD .ratio fun b=>(pE (.det (pF a b) (.tup [.v (.int .i64 ((j8 a b).1)),.v (.int .i64 ((j8 a b).2))])))))
theorem Al:FnOk Tryz.prog 179 uH:=by
 have hG:ConsOk Tryz.prog (mkG [(176,sW),(184,sT)] []):=aw (cgc yf (cgc ye cg0)) cg0;refine aZ [.o,.o] mixed am hG (fn:=Tryz.f179) (c:=ae Tryz.f179) kr kr kr kr (a7 fun a=>(a7 fun b=>(aH (fun hp=>?_))));dsimp only[aD]at hp;unfold pF at hp;refine⟨nbl rfl,L0,ah _,?_⟩
 ·unfold ae Tryz.f179;try unfold j8
  exact zq1
def fZ (x:Ratio×Ratio):Bool:=(bif(((fq x.1) !=0) ||((fq x.2) !=0))then false else(((decide (x.1.n≥0))&&(decide ((j8 x.1 x.2).1≤0)))&&(decide (x.2.n≤x.2.d))))
def mq (x:Ratio×Ratio):Prop:=((kp x.1)∧((((fq x.1) !=0)=false→(kp x.2))∧((((fq x.1) !=0) ||((fq x.2) !=0))=false→(pF x.1 x.2))))
@[go_sem] def pG:List SV→Option Con:=(pD .ratio2 fun x=>(pE (.det (mq x) (.v (.bool (fZ x))))))
theorem vg:FnOk Tryz.prog 164 pG:=by
 have hG:ConsOk Tryz.prog (mkG [(178,qW),(179,uH)] []):=aw (cgc w_ (cgc Al cg0)) cg0;refine aZ [.o] mixed am hG (fn:=Tryz.f164) (c:=ae Tryz.f164) kr kr kr kr (a7 fun x=>(aH (fun hp=>?_)));dsimp only[aD]at hp;unfold mq at hp;refine⟨nbl rfl,L0,ah _,?_⟩
 ·unfold ae Tryz.f164;try unfold fZ
  exact zq1
def pH (x:Reach):Bool:=(bif(((!(aL x.delay 1 16)) ||(!(aL x.cap 0 1073741824))) ||(!(aL x.bank 0 1099511627776)))then false else(bif(((!(aL x.siphon 0 (if x.bank<x.cap then x.bank else x.cap))) ||(!(aL x.evap.lo 0 x.evap.hi))) ||(decide (x.evap.hi > 1073741824)))then false else(fZ x.seep)))
def na (x:Reach):Prop:=((((!(aL x.delay 1 16)) ||(!(aL x.cap 0 1073741824))) ||(!(aL x.bank 0 1099511627776)))=false→((((!(aL x.siphon 0 (if x.bank<x.cap then x.bank else x.cap))) ||(!(aL x.evap.lo 0 x.evap.hi))) ||(decide (x.evap.hi > 1073741824)))=false→(mq x.seep)))
@[go_sem] def qX:List SV→Option Con:=(pD .reach fun x=>(pE (.det (na x) (.v (.bool (pH x))))))
theorem xa:FnOk Tryz.prog 137 qX:=by
 have hG:ConsOk Tryz.prog (mkG [(99,fK),(164,pG)] []):=aw (cgc gi (cgc vg cg0)) cg0;refine aZ [.o] mixed am hG (fn:=Tryz.f137) (c:=ae Tryz.f137) kr kr kr kr (a7 fun x=>(aH (fun hp=>?_)));dsimp only[aD]at hp;unfold na at hp;refine⟨nbl rfl,L0,ah _,?_⟩
 ·unfold ae Tryz.f137;try unfold pH
  exact zq1
@[go_sem] def j9 (l_:List Reach)(k_0:Nat)(s_0:Unit):Unit⊕Unit:=(bif((((k_0:Int) ==0)&&((l_.getD k_0 (default:Reach)).up !=(-1))) ||((decide ((k_0:Int) > 0))&&(!(aL ((l_.getD k_0 (default:Reach)).up) 0 (i64.wrap ((k_0:Int) - 1))))))then .inl ()else(bif(!(pH (l_.getD k_0 (default:Reach))))then .inl ()else .inr ()))
def i0 (l_:List Reach)(k_0:Nat)(s_0:Unit):Prop:=(l_.length≤bo→(((((k_0:Int) ==0)&&((l_.getD k_0 (default:Reach)).up !=(-1))) ||((decide ((k_0:Int) > 0))&&(!(aL ((l_.getD k_0 (default:Reach)).up) 0 (i64.wrap ((k_0:Int) - 1))))))=false→(na (l_.getD k_0 (default:Reach)))))
def nc (l_:List Reach):Bool:=(match aq (j9 l_) l_.length 0 ()with| .inl x_0_0=>false| .inr s_0=>(decide ((l_.length:Int) > 0)))
def lm (l_:List Reach):Prop:=okI (j9 l_) (i0 l_) l_.length 0 ()
@[go_sem] def oQ:List SV→Option Con:=(pR .reach fun l_=>(pE (.det (lm l_) (.v (.bool (nc l_))))))
theorem t_:FnOk Tryz.prog 100 oQ:=by
 have hG:ConsOk Tryz.prog (mkG [(99,fK),(137,qX)] []):=aw (cgc gi (cgc xa cg0)) cg0;refine aZ [.o] mixed am hG (fn:=Tryz.f100) (c:=ae Tryz.f100) kr kr kr kr (dY fun l_=>(aH (fun hp=>?_)));dsimp only[aD]at hp;unfold lm at hp;refine⟨nbl rfl,(fun id st=>bif Nat.beq id 0 then some (LCR (ρ:=Unit) (σ:=Unit) 0 [] [] (fun k_0 s_0=>⟨[(0,.rs .reach l_),(3,.v (.int .i64 (k_0:Int)))],[]⟩) (j9 l_) (i0 l_) l_.length () (True) (fun _=>.ret) (fun x_0_0=>⟨[(2,.v (.bool false))],[]⟩) st)else none),?_,?_⟩
 ·unfold ae Tryz.f100;simp only[al,true_and,and_true]
  ·refine jw (l_.length≤bo) mixed am hG kr (fun _=>rfl) (l_.length:Int) rfl iw (fun hb0 k_0 s_0 hlt0 hq0 hw hc=>⟨L0,ah _,?_⟩) (fun hb0 s_0 hc=>?_) fun hb0 k_0 s_0=>?_
   ·unfold i0 at hq0;try simp only[hw,Int.toNat_natCast]at hq0
    exact ci (jl [])
   ·exact cj (jl [])
   ·exact zq7
 ·unfold ae Tryz.f100;try unfold nc
  exact zq1
@[go_sem] def pJ (a0:District)(k_0:Nat)(s_0:Unit):Unit⊕Unit:=(bif(!(aL ((a0.crops.getD k_0 (default:Crop)).need) 0 1048576))then .inl ()else .inr ())
@[go_sem] def pK (a0:District)(k_1:Nat)(s_1:Unit):Unit⊕Unit:=(bif((!(aL ((a0.farms.getD k_1 (default:Farm)).reach) 0 (i64.wrap ((a0.reaches.length:Int) - 1)))) ||(!(aL ((a0.farms.getD k_1 (default:Farm)).area) 0 1048576)))then .inl ()else(bif((((a0.farms.getD k_1 (default:Farm)).area==0)&&((a0.farms.getD k_1 (default:Farm)).crop !=(-1))) ||((decide ((a0.farms.getD k_1 (default:Farm)).area > 0))&&(!(aL ((a0.farms.getD k_1 (default:Farm)).crop) 0 (i64.wrap ((a0.crops.length:Int) - 1))))))then .inl ()else .inr ()))
def pL (a0:District):Bool:=(match aq (pJ a0) a0.crops.length 0 ()with| .inl x_0_0=>false| .inr s_0=>(match aq (pK a0) a0.farms.length 0 ()with| .inl x_1_0=>false| .inr s_1=>true))
@[go_sem] def qY:List SV→Option Con:=(pD .district fun a0=>(pE (.det True (.v (.bool (pL a0))))))
theorem S3 {p:Prop}(h:p:=by simp only[go_sem,Nat.reduceBEq,Nat.reduceLeDiff,Nat.reduceLT,decide_true,Nat.reduceAdd,Nat.reduceSub,Nat.reduceMul,Int.reduceLE,Int.reduceLT,Int.reduceToNat,Int.reduceNeg,reduceCtorEq,hb1]):p:=h
theorem xb:FnOk Tryz.prog 101 qY:=by
 have hG:ConsOk Tryz.prog (mkG [(99,fK)] []):=aw (cgc gi cg0) cg0;refine aZ [.o] mixed am hG (fn:=Tryz.f101) (c:=ae Tryz.f101) kr kr kr kr (a7 fun a0=>(aH (fun hp=>?_)));dsimp only[aD]at hp;refine⟨nbl rfl,(fun id st=>bif Nat.beq id 0 then some (LCR (ρ:=Unit) (σ:=Unit) 1 [] [0] (fun k_0 s_0=>⟨[(1,.ptr 0 0),(3,.v (.int .i64 (k_0:Int)))],[.cells (cellsOf .district a0)]⟩) (pJ a0) pT a0.crops.length () (True) (fun _=>.ret) (fun x_0_0=>⟨[(2,.v (.bool false))],[.dead]⟩) st)else bif Nat.beq id 2 then some (LCR (ρ:=Unit) (σ:=Unit) 1 [] [0] (fun k_1 s_1=>⟨[(1,.ptr 0 0),(4,.v (.int .i64 (k_1:Int)))],[.cells (cellsOf .district a0)]⟩) (pK a0) pT a0.farms.length () (True) (fun _=>.ret) (fun x_1_0=>⟨[(2,.v (.bool false))],[.dead]⟩) st)else none),?_,?_⟩
 ·unfold ae Tryz.f101;simp only[al,true_and,and_true];refine⟨?_,?_⟩
  ·refine jw (a0.crops.length≤bo) mixed am hG kr (fun _=>rfl) (a0.crops.length:Int) rfl iw (fun hb0 k_0 s_0 hlt0 _ hw hc=>⟨L0,ah _,?_⟩) (fun hb0 s_0 hc=>?_) fun hb0 k_0 s_0=>?_
   ·exact ci (jl [0])
   ·exact cj (jl [0])
   ·exact zq7
  ·refine jw (a0.farms.length≤bo) mixed am hG kr (fun _=>rfl) (a0.farms.length:Int) rfl iw (fun hb1 k_1 s_1 hlt1 _ hw hc=>⟨L0,ah _,?_⟩) (fun hb1 s_1 hc=>?_) fun hb1 k_1 s_1=>?_
   ·exact ci (jl [0])
   ·exact cj (jl [0])
   ·exact S3
 ·unfold ae Tryz.f101;try unfold pL
  exact zq1
def pN (a0:District)(a1:Right):Bool:=(bif((((!(aL a1.farm 0 (i64.wrap ((a0.farms.length:Int) - 1)))) ||(!(aL a1.reach 0 (i64.wrap ((a0.reaches.length:Int) - 1))))) ||(!(aL a1.since 0 a1.to))) ||(decide (a1.to≥a0.hours)))then false else(bif(a1.kind==1)then(((((a1.reach==0)&&(aL a1.rank 0 1048576))&&(aL a1.litres 1 1073741824))&&(aL a1.length 1 a1.every))&&(decide (a1.every≤a0.hours)))else(bif(a1.kind==2)then((((((a1.rank==0)&&(a1.litres==0))&&(a1.every==0))&&(a1.length==0))&&(a1.since==0))&&(a1.to==(i64.wrap (a0.hours - 1))))else(bif(a1.kind==3)then((((a1.rank==0)&&(a1.litres==0))&&(a1.every==0))&&(a1.length==0))else false))))
@[go_sem] def qZ:List SV→Option Con:=(pD .district fun a0=>(pD .right fun a1=>(pE (.det True (.v (.bool (pN a0 a1)))))))
theorem xc:FnOk Tryz.prog 102 qZ:=by
 have hG:ConsOk Tryz.prog (mkG [(99,fK)] []):=aw (cgc gi cg0) cg0;refine aZ [.o] mixed am hG (fn:=Tryz.f102) (c:=ae Tryz.f102) kr kr kr kr (a7 fun a0=>(a7 fun a1=>(aH (fun hp=>?_))));dsimp only[aD]at hp;refine⟨nbl rfl,L0,ah _,?_⟩
 ·unfold ae Tryz.f102;try unfold pN
  exact zq1
@[go_sem] def pO (a0:District)(k_0:Nat)(s_0:Unit):Unit⊕Unit:=(bif(!(pN a0 (a0.rights.getD k_0 (default:Right))))then .inl ()else .inr ())
@[go_sem] def pP (a0:District)(k_1:Nat)(s_1:Unit):Unit⊕Unit:=(bif(((!(aL ((a0.duties.getD k_1 (default:Duty)).farm) 0 (i64.wrap ((a0.farms.length:Int) - 1)))) ||(!(aL ((a0.duties.getD k_1 (default:Duty)).reach) 0 (i64.wrap ((a0.reaches.length:Int) - 1))))) ||(!(aL ((a0.duties.getD k_1 (default:Duty)).due) 0 a0.hours)))then .inl ()else .inr ())
def pW (a0:District):Bool:=(bif(((!(aL a0.hours 1 4096)) ||(!(aL a0.tank.start 0 a0.tank.cap))) ||(decide (a0.tank.cap > 1099511627776)))then false else(bif((!(nc a0.reaches)) ||(!(pL a0)))then false else(match aq (pO a0) a0.rights.length 0 ()with| .inl x_0_0=>false| .inr s_0=>(match aq (pP a0) a0.duties.length 0 ()with| .inl x_1_0=>false| .inr s_1=>true))))
def nf (a0:District):Prop:=((((!(aL a0.hours 1 4096)) ||(!(aL a0.tank.start 0 a0.tank.cap))) ||(decide (a0.tank.cap > 1099511627776)))=false→(lm a0.reaches))
@[go_sem] def q_:List SV→Option Con:=(pD .district fun a0=>(pE (.det (nf a0) (.v (.bool (pW a0))))))
theorem xd:FnOk Tryz.prog 68 q_:=by
 have hG:ConsOk Tryz.prog (mkG [(99,fK),(100,fun l=>oQ (dh [.sl .reach] l)),(101,fun l=>qY (dh [.st .district] l)),(102,fun l=>qZ (dh [.st .district,.st .right] l))] []):=aw (cgc gi (cgc (t_.norm [.sl .reach]) (cgc (xb.norm [.st .district]) (cgc (xc.norm [.st .district,.st .right]) cg0)))) cg0;refine aZ [.o] mixed am hG (fn:=Tryz.f68) (c:=ae Tryz.f68) kr kr kr kr (a7 fun a0=>(aH (fun hp=>?_)));dsimp only[aD]at hp;unfold nf at hp;refine⟨nbl rfl,(fun id st=>bif Nat.beq id 0 then some (LCR (ρ:=Unit) (σ:=Unit) 1 [] [0] (fun k_0 s_0=>⟨[(1,.ptr 0 0),(3,.v (.int .i64 (k_0:Int)))],[.cells (cellsOf .district a0)]⟩) (pO a0) pT a0.rights.length () (True) (fun _=>.ret) (fun x_0_0=>⟨[(2,.v (.bool false))],[.dead]⟩) st)else bif Nat.beq id 2 then some (LCR (ρ:=Unit) (σ:=Unit) 1 [] [0] (fun k_1 s_1=>⟨[(1,.ptr 0 0),(4,.v (.int .i64 (k_1:Int)))],[.cells (cellsOf .district a0)]⟩) (pP a0) pT a0.duties.length () (True) (fun _=>.ret) (fun x_1_0=>⟨[(2,.v (.bool false))],[.dead]⟩) st)else none),?_,?_⟩
 ·unfold ae Tryz.f68;simp only[al,true_and,and_true];refine⟨?_,?_⟩
  ·refine jw (a0.rights.length≤bo) mixed am hG kr (fun _=>rfl) (a0.rights.length:Int) rfl iw (fun hb0 k_0 s_0 hlt0 _ hw hc=>⟨L0,ah _,?_⟩) (fun hb0 s_0 hc=>?_) fun hb0 k_0 s_0=>?_
   ·exact ci (jl [0])
   ·exact cj (jl [0])
   ·exact zq7
  ·refine jw (a0.duties.length≤bo) mixed am hG kr (fun _=>rfl) (a0.duties.length:Int) rfl iw (fun hb1 k_1 s_1 hlt1 _ hw hc=>⟨L0,ah _,?_⟩) (fun hb1 s_1 hc=>?_) fun hb1 k_1 s_1=>?_
   ·exact ci (jl [0])
   ·exact cj (jl [0])
   ·exact S3
 ·unfold ae Tryz.f68;try unfold pW
  exact zq1
def kM (d:District):Int:=(bif(((((decide ((d.reaches.length:Int) > 64)) ||(decide ((d.farms.length:Int) > 600))) ||(decide ((d.crops.length:Int) > 32))) ||(decide ((d.rights.length:Int) > 256))) ||(decide ((d.duties.length:Int) > 256)))then 2 else(bif(!(pW d))then 191 else 0))
def nh (d:District):Prop:=(d.reaches.length≤bo→((((((decide ((d.reaches.length:Int) > 64)) ||(decide ((d.farms.length:Int) > 600))) ||(decide ((d.crops.length:Int) > 32))) ||(decide ((d.rights.length:Int) > 256))) ||(decide ((d.duties.length:Int) > 256)))=false→(nf d)))
@[go_sem] def ra:List SV→Option Con:=(pD .district fun d=>(pE (.det (nh d) (.v (.int .i64 (kM d))))))
theorem xe:FnOk Tryz.prog 36 ra:=by
 have hG:ConsOk Tryz.prog (mkG [(68,fun l=>q_ (dh [.st .district] l))] []):=aw (cgc (xd.norm [.st .district]) cg0) cg0;refine aZ [.o] mixed am hG (fn:=Tryz.f36) (c:=ae Tryz.f36) kr kr kr kr (a7 fun d=>(aH (fun hp=>?_)));dsimp only[aD]at hp;unfold nh at hp;refine⟨nbl rfl,L0,ah _,?_⟩
 ·unfold ae Tryz.f36;try unfold kM
  exact zq1


@[go_sem] def sX (l_:List Deed)(k_0:Nat)(s_0:Unit):Unit⊕Unit:=(bif(decide ((((l_.getD k_0 (default:Deed)).parts).length:Int) > 100))then .inl ()else .inr ())
def ua (d:District)(l_:List Deed):Bool:=(bif((decide ((l_.length:Int) > 512))&&(decide ((l_.length:Int)≤700)))then(qt d)else(bif((((decide ((l_.length:Int) > 60)) ||(!(qt d))) ||((decide ((d.rights.length:Int) > 40))&&(decide ((d.rights.length:Int)≤256)))) ||((decide ((d.farms.length:Int) > 60))&&(decide ((d.farms.length:Int)≤600))))then false else(match aq (sX l_) l_.length 0 ()with| .inl x_0_0=>false| .inr s_0=>true)))
@[go_sem] def uI:List SV→Option Con:=(pD .district fun d=>(pR .deed fun l_=>(pE (.det True (.v (.bool (ua d l_)))))))
theorem Am:FnOk Tryz.prog 28 uI:=by
 have hG:ConsOk Tryz.prog (mkG [(33,fun l=>uG (dh [.st .district] l))] []):=aw (cgc (Ak.norm [.st .district]) cg0) cg0;refine aZ [.o] mixed am hG (fn:=Tryz.f28) (c:=ae Tryz.f28) kr kr kr kr (a7 fun d=>(dY fun l_=>(aH (fun hp=>?_))));dsimp only[aD]at hp;refine⟨nbl rfl,(fun id st=>bif Nat.beq id 0 then some (LCR (ρ:=Unit) (σ:=Unit) 1 [] [0] (fun k_0 s_0=>⟨[(1,.rs .deed l_),(5,.v (.int .i64 (k_0:Int)))],[.dead]⟩) (sX l_) pT l_.length () (True) (fun _=>.ret) (fun x_0_0=>⟨[(4,.v (.bool false))],[.dead]⟩) st)else none),?_,?_⟩
 ·unfold ae Tryz.f28;simp only[al,true_and,and_true]
  ·refine jw (l_.length≤bo) mixed am hG kr (fun _=>rfl) (l_.length:Int) rfl iw (fun hb0 k_0 s_0 hlt0 _ hw hc=>⟨L0,ah _,?_⟩) (fun hb0 s_0 hc=>?_) fun hb0 k_0 s_0=>?_
   ·exact ci (jl [0])
   ·exact cj (jl [0])
   ·exact zq7
 ·unfold ae Tryz.f28;try unfold ua
  exact zq1
def mO (a0:District)(a1:Claim):Bool:=(bif((((((((decide (a1.right<0)) ||(decide (a1.right≥(a0.rights.length:Int)))) ||(decide (a1.farm<0))) ||(decide (a1.farm≥(a0.farms.length:Int)))) ||(decide (a1.hour<0))) ||(decide (a1.hour≥a0.hours))) ||(decide (a1.litres<1))) ||(decide (a1.litres > 1073741824)))then false else(((a0.rights.getD (Int.toNat a1.right) (default:Right)).kind==1)&&((a0.rights.getD (Int.toNat a1.right) (default:Right)).rank==a1.rank)))
def ni (a0:District)(a1:Claim):Prop:=(((((((((decide (a1.right<0)) ||(decide (a1.right≥(a0.rights.length:Int)))) ||(decide (a1.farm<0))) ||(decide (a1.farm≥(a0.farms.length:Int)))) ||(decide (a1.hour<0))) ||(decide (a1.hour≥a0.hours))) ||(decide (a1.litres<1))) ||(decide (a1.litres > 1073741824)))=false→((0≤a1.right∧a1.right< (a0.rights.length:Int))∧(((a0.rights.getD (Int.toNat a1.right) (default:Right)).kind==1)=true→(0≤a1.right∧a1.right< (a0.rights.length:Int)))))
@[go_sem] def rb:List SV→Option Con:=(pD .district fun a0=>(pD .claim fun a1=>(pE (.det (ni a0 a1) (.v (.bool (mO a0 a1)))))))
theorem xf:FnOk Tryz.prog 37 rb:=by
 have hG:ConsOk Tryz.prog (mkG [] []):=aw cg0 cg0;refine aZ [.o] mixed am hG (fn:=Tryz.f37) (c:=ae Tryz.f37) kr kr kr kr (a7 fun a0=>(a7 fun a1=>(aH (fun hp=>?_))));dsimp only[aD]at hp;unfold ni at hp;refine⟨nbl rfl,L0,ah _,?_⟩
 ·unfold ae Tryz.f37;try unfold mO
  exact zq1
def ox (a:Claim)(b:Claim):Bool:=(bif(a.hour !=b.hour)then(decide (a.hour<b.hour))else(bif(a.rank !=b.rank)then(decide (a.rank<b.rank))else(bif(a.right !=b.right)then(decide (a.right<b.right))else(decide (a.farm<b.farm)))))
@[go_sem] def pY:List SV→Option Con:=(pD .claim fun a=>(pD .claim fun b=>(pE (.det True (.v (.bool (ox a b)))))))
theorem vh:FnOk Tryz.prog 38 pY:=by
 have hG:ConsOk Tryz.prog (mkG [] []):=aw cg0 cg0;refine aZ [.o] mixed am hG (fn:=Tryz.f38) (c:=ae Tryz.f38) kr kr kr kr (a7 fun a=>(a7 fun b=>(aH (fun hp=>?_))));dsimp only[aD]at hp;refine⟨nbl rfl,L0,ah _,?_⟩
 ·unfold ae Tryz.f38;try unfold ox
  exact zq1
@[go_sem] def mr (d:District)(c:List Claim)(k_0:Nat)(s_0:Unit):Unit⊕Unit:=(bif((!(mO d (c.getD k_0 (default:Claim)))) ||((decide ((k_0:Int) > 0))&&(!(ox (c.getD (Int.toNat (i64.wrap ((k_0:Int) - 1))) (default:Claim)) (c.getD k_0 (default:Claim))))))then .inl ()else .inr ())
def j_ (d:District)(c:List Claim)(k_0:Nat)(s_0:Unit):Prop:=(c.length≤bo→((ni d (c.getD k_0 (default:Claim)))∧((!(mO d (c.getD k_0 (default:Claim))))=false→((decide ((k_0:Int) > 0))=true→(0≤(i64.wrap ((k_0:Int) - 1))∧(i64.wrap ((k_0:Int) - 1)) < (c.length:Int))))))
def uJ (d:District)(c:List Claim):Int:=(bif((kM d) !=0)then(kM d)else(bif(decide ((c.length:Int) > 4096))then 2 else(match aq (mr d c) c.length 0 ()with| .inl x_0_0=>260| .inr s_0=>0)))
def re (d:District)(c:List Claim):Prop:=((nh d)∧(((kM d) !=0)=false→(c.length≤bo→((decide ((c.length:Int) > 4096))=false→okI (mr d c) (j_ d c) c.length 0 ()))))
@[go_sem] def yg:List SV→Option Con:=(pD .district fun d=>(pR .claim fun c=>(pE (.det (re d c) (.v (.int .i64 (uJ d c)))))))
theorem IK:FnOk Tryz.prog 20 yg:=by
 have hG:ConsOk Tryz.prog (mkG [(36,fun l=>ra (dh [.st .district] l)),(37,fun l=>rb (dh [.st .district,.st .claim] l)),(38,pY)] []):=aw (cgc (xe.norm [.st .district]) (cgc (xf.norm [.st .district,.st .claim]) (cgc vh cg0))) cg0;refine aZ [.o] mixed am hG (fn:=Tryz.f20) (c:=ae Tryz.f20) kr kr kr kr (a7 fun d=>(dY fun c=>(aH (fun hp=>?_))));dsimp only[aD]at hp;unfold re at hp;refine⟨nbl rfl,(fun id st=>bif Nat.beq id 0 then some (LCR (ρ:=Unit) (σ:=Unit) 1 [] [0] (fun k_0 s_0=>⟨[(1,.rs .claim c),(2,.ptr 0 0),(6,.v (.int .i64 (k_0:Int)))],[.cells (cellsOf .district d)]⟩) (mr d c) (j_ d c) c.length () (True) (fun _=>.ret) (fun x_0_0=>⟨[(4,.v (.int .i64 260))],[.dead]⟩) st)else none),?_,?_⟩
 ·unfold ae Tryz.f20;simp only[al,true_and,and_true]
  ·refine jw (c.length≤bo) mixed am hG kr (fun _=>rfl) (c.length:Int) rfl iw (fun hb0 k_0 s_0 hlt0 hq0 hw hc=>⟨L0,ah _,?_⟩) (fun hb0 s_0 hc=>?_) fun hb0 k_0 s_0=>?_
   ·unfold j_ at hq0;try simp only[hw,Int.toNat_natCast]at hq0
    exact ci (jl [0])
   ·exact cj (jl [0])
   ·exact zq7
 ·unfold ae Tryz.f20;try unfold uJ
  exact zq1
@[go_sem] def iJ (a:List Claim)(b:List Claim)(k_0:Nat)(s_0:Unit):Unit⊕Unit:=(bif(!(((a.getD k_0 (default:Claim)).right==(b.getD k_0 (default:Claim)).right)&&(((a.getD k_0 (default:Claim)).farm==(b.getD k_0 (default:Claim)).farm)&&(((a.getD k_0 (default:Claim)).hour==(b.getD k_0 (default:Claim)).hour)&&(((a.getD k_0 (default:Claim)).litres==(b.getD k_0 (default:Claim)).litres)&&((a.getD k_0 (default:Claim)).rank==(b.getD k_0 (default:Claim)).rank))))))then .inl ()else .inr ())
def ln (a:List Claim)(b:List Claim)(k_0:Nat)(s_0:Unit):Prop:=(a.length≤bo→(0≤(k_0:Int)∧(k_0:Int) < (b.length:Int)))
def i6 (a:List Claim)(b:List Claim):Bool:=(bif((a.length:Int) !=(b.length:Int))then false else(match aq (iJ a b) a.length 0 ()with| .inl x_0_0=>false| .inr s_0=>true))
def jB (a:List Claim)(b:List Claim):Prop:=(a.length≤bo→(b.length≤bo→(((a.length:Int) !=(b.length:Int))=false→okI (iJ a b) (ln a b) a.length 0 ())))
@[go_sem] def oy:List SV→Option Con:=(pR .claim fun a=>(pR .claim fun b=>(pE (.det (jB a b) (.v (.bool (i6 a b)))))))
theorem rf:FnOk Tryz.prog 16 oy:=by
 have hG:ConsOk Tryz.prog (mkG [] []):=aw cg0 cg0;refine aZ [.o] mixed am hG (fn:=Tryz.f16) (c:=ae Tryz.f16) kr kr kr kr (dY fun a=>(dY fun b=>(aH (fun hp=>?_))));dsimp only[aD]at hp;unfold jB at hp;refine⟨nbl rfl,(fun id st=>bif Nat.beq id 0 then some (LCR (ρ:=Unit) (σ:=Unit) 0 [] [] (fun k_0 s_0=>⟨[(0,.rs .claim a),(1,.rs .claim b),(5,.v (.int .i64 (k_0:Int)))],[]⟩) (iJ a b) (ln a b) a.length () (True) (fun _=>.ret) (fun x_0_0=>⟨[(4,.v (.bool false))],[]⟩) st)else none),?_,?_⟩
 ·unfold ae Tryz.f16;simp only[al,true_and,and_true]
  ·refine jw (a.length≤bo) mixed am hG kr (fun _=>rfl) (a.length:Int) rfl iw (fun hb0 k_0 s_0 hlt0 hq0 hw hc=>⟨L0,ah _,?_⟩) (fun hb0 s_0 hc=>?_) fun hb0 k_0 s_0=>?_
   ·unfold ln at hq0;try simp only[hw,Int.toNat_natCast]at hq0
    exact ci (jl [])
   ·exact cj (jl [])
   ·exact zq7
 ·unfold ae Tryz.f16;try unfold i6
  exact zq1
@[go_sem] def eH (a:List Block)(b:List Block)(k_0:Nat)(s_0:Unit):Unit⊕Unit:=(bif(!(((a.getD k_0 (default:Block)).right==(b.getD k_0 (default:Block)).right)&&(((a.getD k_0 (default:Block)).farm==(b.getD k_0 (default:Block)).farm)&&(((a.getD k_0 (default:Block)).hour==(b.getD k_0 (default:Block)).hour)&&((a.getD k_0 (default:Block)).reach==(b.getD k_0 (default:Block)).reach)))))then .inl ()else .inr ())
def gz (a:List Block)(b:List Block)(k_0:Nat)(s_0:Unit):Prop:=(a.length≤bo→(0≤(k_0:Int)∧(k_0:Int) < (b.length:Int)))
def dZ (a:List Block)(b:List Block):Bool:=(bif((a.length:Int) !=(b.length:Int))then false else(match aq (eH a b) a.length 0 ()with| .inl x_0_0=>false| .inr s_0=>true))
def d5 (a:List Block)(b:List Block):Prop:=(a.length≤bo→(b.length≤bo→(((a.length:Int) !=(b.length:Int))=false→okI (eH a b) (gz a b) a.length 0 ())))
@[go_sem] def i7:List SV→Option Con:=(pR .block fun a=>(pR .block fun b=>(pE (.det (d5 a b) (.v (.bool (dZ a b)))))))
theorem lB:FnOk Tryz.prog 17 i7:=by
 have hG:ConsOk Tryz.prog (mkG [] []):=aw cg0 cg0;refine aZ [.o] mixed am hG (fn:=Tryz.f17) (c:=ae Tryz.f17) kr kr kr kr (dY fun a=>(dY fun b=>(aH (fun hp=>?_))));dsimp only[aD]at hp;unfold d5 at hp;refine⟨nbl rfl,(fun id st=>bif Nat.beq id 0 then some (LCR (ρ:=Unit) (σ:=Unit) 0 [] [] (fun k_0 s_0=>⟨[(0,.rs .block a),(1,.rs .block b),(5,.v (.int .i64 (k_0:Int)))],[]⟩) (eH a b) (gz a b) a.length () (True) (fun _=>.ret) (fun x_0_0=>⟨[(4,.v (.bool false))],[]⟩) st)else none),?_,?_⟩
 ·unfold ae Tryz.f17;simp only[al,true_and,and_true]
  ·refine jw (a.length≤bo) mixed am hG kr (fun _=>rfl) (a.length:Int) rfl iw (fun hb0 k_0 s_0 hlt0 hq0 hw hc=>⟨L0,ah _,?_⟩) (fun hb0 s_0 hc=>?_) fun hb0 k_0 s_0=>?_
   ·unfold gz at hq0;try simp only[hw,Int.toNat_natCast]at hq0
    exact ci (jl [])
   ·exact cj (jl [])
   ·exact zq7
 ·unfold ae Tryz.f17;try unfold dZ
  exact zq1
def lV (d:District)(l_:List Deed)(fr:Int)(to:Int):Bool:=(bif((!(ua d l_)) ||((decide ((d.rights.length:Int) > 40))&&(decide ((d.rights.length:Int)≤256))))then false else(((((decide (fr<0)) ||(decide (fr > to))) ||(decide (to≥d.hours))) ||(decide (d.hours > 4096))) ||(decide ((i64.wrap (to - fr)) <60))))
@[go_sem] def uK:List SV→Option Con:=(pD .district fun d=>(pR .deed fun l_=>(pI fun fr=>(pI fun to=>(pE (.det True (.v (.bool (lV d l_ fr to)))))))))
theorem An:FnOk Tryz.prog 11 uK:=by
 have hG:ConsOk Tryz.prog (mkG [(28,fun l=>uI (dh [.st .district,.sl .deed] l))] []):=aw (cgc (Am.norm [.st .district,.sl .deed]) cg0) cg0;refine aZ [.o] mixed am hG (fn:=Tryz.f11) (c:=ae Tryz.f11) kr kr kr kr (a7 fun d=>(dY fun l_=>(b9 fun fr=>(b9 fun to=>(aH (fun hp=>?_))))));dsimp only[aD]at hp;refine⟨nbl rfl,L0,ah _,?_⟩
 ·unfold ae Tryz.f11;try unfold lV
  exact zq1
def bu (x:Right)(kind:Int)(farm:Int)(reach:Int)(hour:Int):Bool:=(((((x.kind==kind)&&(x.farm==farm))&&(x.reach==reach))&&(decide (x.since≤hour)))&&(decide (hour≤x.to)))
@[go_sem] def pZ (d:District)(farm:Int)(reach:Int)(hour:Int)(k_0:Nat)(s_0:Unit):Unit⊕Unit:=(bif(bu (d.rights.getD k_0 (default:Right)) 3 farm reach hour)then .inl ()else .inr ())
def mP (d:District)(farm:Int)(reach:Int)(hour:Int):Bool:=(match aq (pZ d farm reach hour) d.rights.length 0 ()with| .inl x_0_0=>true| .inr s_0=>false)
@[go_sem] def sY (d:District)(farm:Int)(reach:Int)(hour:Int)(k_0:Nat)(s_0:Unit):Unit⊕Unit:=(bif(((d.rights.getD k_0 (default:Right)).farm !=farm)&&(bu (d.rights.getD k_0 (default:Right)) 2 ((d.rights.getD k_0 (default:Right)).farm) reach hour))then .inl ()else .inr ())
def qu (d:District)(farm:Int)(reach:Int)(hour:Int):Bool:=(match aq (sY d farm reach hour) d.rights.length 0 ()with| .inl x_0_0=>(mP d farm reach hour) | .inr s_0=>true)
end Go.Sx
end
section
namespace Go.Sx
open Go.RowKit
open IntKind (i64)
abbrev RF:= { r:Nat→Res // ∀ k,(r k).n=k}
def Gq (items:List (List SV))(r:RF):List SV→Res→Option YCon:=itY items r.1
@[go_sem] theorem UG {items:List (List SV)}{r:RF}{k:Nat}{args:List SV}:Gq items r args (r.1 (k+1))=some (BJ (items[k]? =some args) r.1 (k+2)):=DD r.2 k args
section
variable {ρ σ:Type}
def lcy (pre:Prop)(run:ρ⊕σ)(exE:ρ→Ex)(outE:ρ→St)(outN:σ→St)(stp:St):LCon where
 α:=Option (ρ⊕σ)
 pre:=pre
 post:=fun|none=>True|some r=>r=run
 ex:=fun|none=>.ret|some (.inl x) =>exE x|some (.inr _) =>.normal
 out:=fun|none=>stp|some (.inl x) =>outE x|some (.inr s) =>outN s
def LCY (m:Nat)(ns:List NLoc)(js:List Nat)(D:Nat→σ→St)(step:Nat→σ→ρ⊕σ)(p:Nat→σ→Prop)(n:Nat)(s0:σ)(B:Prop)(exE:ρ→Ex)(outE:ρ→St)(stp:St)(st:St):LCon:=
 lcy (ou m ns js st (D 0 s0)∧B∧okI step p n 0 s0) (aq step n 0 s0) exE outE (D n) stp
variable {m:Nat}{ns:List NLoc}{js:List Nat}{step:Nat→σ→ρ⊕σ}{p:Nat→σ→Prop}{n:Nat}{s0:σ}{B:Prop}{exE:ρ→Ex}{outE:ρ→St}{stp st:St}{Q:Ex→St→Prop}{D:Nat→σ→St}
theorem Gr {pre:Prop}{run:ρ⊕σ}{outN:σ→St}:l8 Q (some (lcy pre run exE outE outN stp))=(pre∧(∀ x,run=.inl x→Q (exE x) (outE x))∧(∀ s,run=.inr s→Q .normal (outN s))∧Q .ret stp):=by
 apply propext;constructor
 ·rintro⟨h1,h2⟩;exact⟨h1,fun x hx=>h2 (some (.inl x)) hx.symm,fun s hs=>h2 (some (.inr s)) hs.symm,h2 none trivial⟩
 ·rintro⟨h1,h2,h3,h4⟩;refine⟨h1,fun r hr=>?_⟩;match r,hr with
  |none,_=>exact h4
  |some (.inl x),hr=>exact h2 x hr.symm
  |some (.inr s),hr=>exact h3 s hr.symm
@[go_sem] theorem Q0:l8 Q (some (LCY m ns js D step p n s0 B exE outE stp st))=((ou m ns js st (D 0 s0)∧B∧okI step p n 0 s0)∧(∀ x,aq step n 0 s0=.inl x→Q (exE x) (outE x))∧(∀ s,aq step n 0 s0=.inr s→Q .normal (D n s))∧Q .ret stp):=Gr
def cY (step:Nat→σ→ρ⊕σ)(exE:ρ→Ex)(outE:ρ→St)(D:Nat→σ→St)(stp:St)(m id k:Nat)(s:σ):Ex→St→Prop
 | .normal,st=>nM D m k st (step k s)
 | .exit j,st=>jv exE outE m (bif Nat.beq j id then .normal else .exit j) st (step k s)
 | .ret,st=>jv exE outE m .ret st (step k s)∨fV stp m st
 | .pan x,st=>jv exE outE m (.pan x) st (step k s)
variable {id k j:Nat}{s:σ}{x:Value}{e e':Ex}
@[go_sem] theorem Q1:cY step exE outE D stp m id k s .normal st=nM D m k st (step k s):=(rfl)
@[go_sem] theorem UH:cY step exE outE D stp m id k s (.exit j) st=jv exE outE m (bif Nat.beq j id then .normal else .exit j) st (step k s):=(rfl)
@[go_sem] theorem VB:cY step exE outE D stp m id k s .ret st=(jv exE outE m .ret st (step k s)∨fV stp m st):=(rfl)
@[go_sem] theorem VC:cY step exE outE D stp m id k s (.pan x) st=jv exE outE m (.pan x) st (step k s):=(rfl)
@[congr] theorem S4 {st':St}(h:st=st')(he:e=e'):cY step exE outE D stp m id k s e st=cY step exE outE D stp m id k s e' st':=by rw[h,he]
end
section
variable {P:Program}{ρ σ:Type}{ts:Tis}{G:Cons}{ro:Option Nat}{N:Nat}{id:Nat}{c:Code}{C:St→Option LCon}{m:Nat}{ns:List NLoc}{js:List Nat}{step:Nat→σ→ρ⊕σ}{p:Nat→σ→Prop}{n:Nat}{s0:σ}{exE:ρ→Ex}{outE:ρ→St}{D:Nat→σ→St}{stp:St}
theorem OE {n0:Nat}(hn0:n0=m){s:σ}{k:Nat}(hlt:k<n){I:Nat×σ→Prop}{μ:Nat×σ→Nat}{outN:σ→St}{pre:Prop}{run:ρ⊕σ}
  (hI:∀ s',step k s=.inr s'→I (k+1,s')∧μ (k+1,s') <μ (k,s)) (hx:∀ x,step k s=.inl x→run=.inl x):
  ∀ e st',cY step exE outE D stp m id k s e st'→og (fun x:Nat×σ=>D x.1 x.2) I μ n0 (k,s) id (fun e st'=>∃ r js,(lcy pre run exE outE outN stp).post r∧(lcy pre run exE outE outN stp).ex r=e∧n0≤((lcy pre run exE outE outN stp).out r).h.length∧Sub js n0 st' ((lcy pre run exE outE outN stp).out r)) e st':=by
 subst hn0;have hfin:∀ e st',jv exE outE n0 e st' (step k s)→∃ r js,(lcy pre run exE outE outN stp).post r∧(lcy pre run exE outE outN stp).ex r=e∧n0≤((lcy pre run exE outE outN stp).out r).h.length∧Sub js n0 st' ((lcy pre run exE outE outN stp).out r):=by
  intro e st' q;cases hs:step k s with
  |inr s'=>rw[hs]at q;exact q.elim
  |inl x=>
   rw[hs]at q;obtain⟨q2,js,q3,q4⟩:=q;exact⟨some (.inl x),js,(hx x hs).symm,q2,q3,q4⟩
 intro e st' hq;cases e with
 |normal=>
  change nM D n0 k st' (step k s)at hq;cases hs:step k s with
  |inl x=>rw[hs]at hq;exact hq.elim
  |inr s'=>
   rw[hs]at hq;obtain⟨js,q3,q4⟩:=hq;obtain⟨i1,i2⟩:=hI s' hs;exact⟨(k+1,s'),js,i1,i2,q3,q4⟩
 |exit j=>
  change jv exE outE n0 (bif Nat.beq j id then .normal else .exit j) st' (step k s)at hq;show bif Nat.beq j id then _ else _;cases hb:Nat.beq j id with
  |true=>rw[hb]at hq;exact hfin _ _ hq
  |false=>rw[hb]at hq;exact hfin _ _ hq
 |ret=>
  rcases hq with hq|hq
  ·exact hfin _ _ hq
  ·obtain⟨js,q3,q4⟩:=hq;exact⟨none,js,trivial,rfl,q3,q4⟩
 |pan x=>exact hfin _ _ hq
theorem BR {B:Prop}(hm:P.follows .mixedOrders=true)(hts:ts.ok P)(hG:ConsOk P G)(hc:cb N c=true)(hC:∀ st,C st=some (LCY m ns js D step p n s0 B exE outE stp st))(M:Int)(hn:n=M.toNat)(hB:B→M<9223372036854775808)
  (h:B→∀ k s,k<n→p k s→i64.wrap ((k:Int)+1)=((k+1:Nat):Int)→decide ((k:Int) <M)=true→∃ L,al P ro N L c∧exec ts G L c (D k s) (cY step exE outE D stp m id k s))
  (h2:B→∀ s,decide ((n:Int) <M)=false→exec ts G L0 c (D n s) (cZ (D n s) m id)):iv P ro N id (.loop c) C:=by
 refine sO hm hts hG hc fun st lc hC' hp=>?_;rw[hC st]at hC';cases hC';obtain⟨⟨hlen,hok,hle,hsub⟩,hB',h1⟩:=hp;refine⟨Nat×σ,fun x=>D x.1 x.2,fun x=>x.1≤n∧okI step p (n - x.1) x.1 x.2∧aq step (n - x.1) x.1 x.2=aq step n 0 s0,fun x=>n - x.1,(0,s0),mkN ns st,js,⟨Nat.zero_le _,by simpa using h1,by simp⟩,rU ns st st (.refl _) hok,by rw[hlen];exact hle,by rw[hlen];exact hsub,?_⟩;rintro⟨k,s⟩ ⟨hk,hJ,hrun⟩;simp only at hk hJ hrun;rcases Nat.lt_or_ge k n with hlt|hge
 ·rw[show n - k=(n - k - 1)+1 by omega]at hrun hJ;obtain⟨L,hl,hex⟩:=h hB' k s hlt hJ.1 (Id (hn▸hlt) (hB hB')) (decide_eq_true (by omega));have hI:∀ s',step k s=.inr s'→okI step p (n - (k+1)) (k+1) s'∧aq step (n - (k+1)) (k+1) s'=aq step n 0 s0:=fun s' hs=>by
   have:=hJ.2 s' hs;rw[show n - k - 1=n - (k+1) by omega]at this hrun;simp only[aq,hs]at hrun;exact⟨this,hrun⟩
  have hx:∀ x,step k s=.inl x→aq step n 0 s0=.inl x:=fun x hs=>by
   simp only[aq,hs]at hrun;exact hrun.symm
  exact⟨L,_,hl,fun e st' q=>OE hlen hlt (fun s' hs=>⟨⟨hlt,hI s' hs⟩,by simp only;omega⟩) hx e st' q,hex⟩
 ·have hkn:k=n:=by omega
  subst hkn;have hex:=h2 hB' s (by rw[decide_eq_false_iff_not];omega);refine⟨L0,_,ah c,fun e st' hq=>?_,hex⟩;simp only[Nat.sub_self,aq]at hrun;cases e with
  |exit j=>
   change bif Nat.beq j id then fV (D k s) m st' else False at hq;show bif Nat.beq j id then _ else _;cases hb:Nat.beq j id with
   |true=>
    rw[hb]at hq;obtain⟨js,q3,q4⟩:=hq;exact⟨some (.inr s),js,hrun,rfl,by rw[hlen];exact q3,by rw[hlen];exact q4⟩
   |false=>rw[hb]at hq;exact hq.elim
  |_=>exact hq.elim
end
def kO (n:Nat):List Ob:=List.replicate n .dead
def IL (items:List (List SV))(r:RF)(n:Nat):Ex→St→Prop
 | .normal,st=>fV ⟨[],.ab (r.1 0)::kO n⟩ (n+1) ⟨[],st.h⟩∨fV ⟨[],.ab (r.1 (items.length+1))::kO n⟩ (n+1) ⟨[],st.h⟩
 | .ret,st=>fV ⟨[],.ab (r.1 0)::kO n⟩ (n+1) ⟨[],st.h⟩∨fV ⟨[],.ab (r.1 (items.length+1))::kO n⟩ (n+1) ⟨[],st.h⟩
 |_,_=>False
section
variable {items:List (List SV)}{r:RF}{n:Nat}{st:St}{e e':Ex}
@[go_sem] theorem Ly:IL items r n .normal st=(fV ⟨[],.ab (r.1 0)::kO n⟩ (n+1) ⟨[],st.h⟩∨fV ⟨[],.ab (r.1 (items.length+1))::kO n⟩ (n+1) ⟨[],st.h⟩):=(rfl)
@[go_sem] theorem Q2:IL items r n .ret st=(fV ⟨[],.ab (r.1 0)::kO n⟩ (n+1) ⟨[],st.h⟩∨fV ⟨[],.ab (r.1 (items.length+1))::kO n⟩ (n+1) ⟨[],st.h⟩):=(rfl)
@[go_sem] theorem UJ:kO 0=[]:=(rfl)
@[go_sem] theorem UK:kO 1=[.dead]:=(rfl)
@[go_sem] theorem UL:kO 2=[.dead,.dead]:=(rfl)
@[go_sem] theorem UN:kO 3=[.dead,.dead,.dead]:=(rfl)
@[go_sem] theorem UO:kO 4=[.dead,.dead,.dead,.dead]:=(rfl)
end
theorem BS {js:List Nat}{n0:Nat}{h h':List Ob}(q:Sub js n0 ⟨[],h⟩ ⟨[],h'⟩):Sub js n0 ⟨[(0,.tup [])],h⟩ ⟨[(0,.tup [])],h'⟩:=by
 refine⟨q.1,?_,q.2.2⟩;simp only[FJ,lk];exact⟨⟨rfl,rfl⟩,trivial⟩
open Classical in
theorem IM {P:Program} {ts:Tis} {G:RF→Cons} (hm:P.follows .mixedOrders=true) (hts:ts.ok P) {f:FuncId} {fn:Func} {c:Code} (hf:P.funcs[f]? =some fn) (hb:fn.body=some c) (hname:(fn.name== "runtime.NumGoroutine")=false) (hc:cb fn.ntmps c=true) (hr:fn.results.toList=[])
  {items:List (List SV)} {mk:SV→List SV} {hs:List Ob} {n:Nat} (hn:hs.length=n)
  (h:∀ r:RF,YOk P (Gq items r)→ConsOk P (G r)∧(mk (.os 0)).length≤fn.ntmps∧∃ L,al P none fn.ntmps L c∧exec ts (G r) L c ⟨jn 0 (mk (.os 0)),.ab (r.1 1)::hs⟩ (IL items r n))
  (he:∀ (args:Array Value) (w:World),(callFunc f args).run P w=.ok (.enter f args) w):Ag P f mk hs items:=by
 refine Ib (fun r0 hr0 hy=>?_) he;obtain⟨hG,h1,L,h2,h3⟩:=h ⟨r0,hr0⟩ hy;refine⟨fun l o=>if l=mk (.os 0)∧o=.ab (r0 1)::hs then some { α:=Bool,pre:=True,post:=fun _=>True,res:=fun b=>.ret (.tup []) (.ab (r0 (if b then items.length+1 else 0))::kO n)}else none,?_,_,if_pos ⟨rfl,rfl⟩,trivial,fun b _=>⟨_,_,_,rfl,by cases b <;>simp⟩⟩;refine wP hm hts hG hf hb hname hc fun l o con hC _=>?_;split at hC
 rotate_left
 ·cases hC
 rename_i hlo;obtain⟨rfl,rfl⟩:=hlo;cases hC;refine⟨h1,L,_,h2,fun e st hq=>?_,h3⟩;have key:∀ st:St,(fV ⟨[],.ab (r0 0)::kO n⟩ (n+1) ⟨[],st.h⟩∨fV ⟨[],.ab (r0 (items.length+1))::kO n⟩ (n+1) ⟨[],st.h⟩)→sp (Ob.ab (r0 1)::hs).length { α:=Bool,pre:=True,post:=fun _=>True,res:=fun b=>.ret (.tup []) (.ab (r0 (if b then items.length+1 else 0))::kO n)} (lF (jU ts st fn.results.toList)) st.h:=fun st q=>by
  rw[hr];show ∃ r s' h' js,_;rcases q with⟨js,q1,q2⟩ | ⟨js,q1,q2⟩
  ·exact⟨false,_,_,js,trivial,rfl,by rw[List.length_cons,hn];exact q1,by rw[List.length_cons,hn];exact BS q2⟩
  ·exact⟨true,_,_,js,trivial,rfl,by rw[List.length_cons,hn];exact q1,by rw[List.length_cons,hn];exact BS q2⟩
 cases e with
 |normal=>exact key st hq
 |ret=>exact key st hq
 |exit j=>exact hq.elim
 |pan x=>exact hq.elim
section
variable {ρ σ τ:Type}
theorem ub {step:τ→σ→ρ⊕σ}:∀ {a b:List τ} {s s':σ},dO step a s=.inr s'→dO step (a++b) s=dO step b s'
 | [],_,_,_,h=>by simp only[dO,Sum.inr.injEq]at h;subst h;rfl
 |x::a,b,s,s',h=>by
  simp only[List.cons_append,dO]at h ⊢;cases hs:step x s with
  |inl y=>rw[hs]at h;cases h
  |inr s1=>rw[hs]at h;simp only at h ⊢;exact ub h
theorem BT {step:τ→σ→ρ⊕σ}{p:τ→σ→Prop}:∀ {a b:List τ} {s s':σ},dO step a s=.inr s'→okL step p (a++b) s→okL step p b s'
 | [],_,_,_,h,hk=>by simp only[dO,Sum.inr.injEq]at h;subst h;exact hk
 |x::a,b,s,s',h,hk=>by
  simp only[List.cons_append,dO]at h hk;cases hs:step x s with
  |inl y=>rw[hs]at h;cases h
  |inr s1=>rw[hs]at h;exact BT h (hk.2 s1 hs)
def LCP (m:Nat)(ns:List NLoc)(js:List Nat)(D:List Nat→Option Nat→σ→St)(step:τ→σ→ρ⊕σ)(p:τ→σ→Prop)(l:List τ)(s0:σ)(exE:ρ→Ex)(outE:ρ→St)(outN:σ→St)(st:St):LCon where
 α:=ρ⊕σ
 pre:=ou m ns js st (D (List.range l.length) none s0)∧∀ L,L.Perm l→okL step p L s0
 post:=fun r=>∃ L,L.Perm l∧dO step L s0=r
 ex:=fun| .inl x=>exE x| .inr _=>.normal
 out:=fun| .inl x=>outE x| .inr s=>outN s
variable {m:Nat}{ns:List NLoc}{js:List Nat}{step:τ→σ→ρ⊕σ}{p:τ→σ→Prop}{l:List τ}{s0:σ}{exE:ρ→Ex}{outE:ρ→St}{outN:σ→St}{st:St}{Q:Ex→St→Prop}{D:List Nat→Option Nat→σ→St}
@[go_sem] theorem Q3:l8 Q (some (LCP m ns js D step p l s0 exE outE outN st))=((ou m ns js st (D (List.range l.length) none s0)∧∀ L,L.Perm l→okL step p L s0)∧∀ L,L.Perm l→(∀ x,dO step L s0=.inl x→Q (exE x) (outE x))∧∀ s,dO step L s0=.inr s→Q .normal (outN s)):=by
 apply propext;constructor
 ·rintro⟨h1,h2⟩;exact⟨h1,fun L hL=>⟨fun x hx=>h2 (.inl x) ⟨L,hL,hx⟩,fun s hs=>h2 (.inr s) ⟨L,hL,hs⟩⟩⟩
 ·rintro⟨h1,h2⟩;refine⟨h1,fun r ⟨L,hL,hr⟩ =>?_⟩;cases r with
  |inl x=>exact(h2 L hL).1 x hr
  |inr s=>exact(h2 L hL).2 s hr
variable {P:Program}{ts:Tis}{G:Cons}{ro:Option Nat}{N id:Nat}{c:Code}{C:St→Option LCon}
theorem IN (d:τ)(it:Nat)(hm:P.follows .mixedOrders=true)(hts:ts.ok P)(hG:ConsOk P G)(hc:cb N c=true)(hC:∀ st,C st=some (LCP m ns js D step p l s0 exE outE outN st))
  (h:∀ left cur s,(∀ j,j∈left→j<l.length∧p (l.getD j d) s)→∃ L,al P ro N L c∧exec ts G L c (D left cur s) (cM step l d exE outE outN D m id it left s)):iv P ro N id (.loop c) C:=by
 refine sO hm hts hG hc fun st lc hC' hp=>?_;rw[hC st]at hC';cases hC';obtain⟨⟨hlen,hok,hle,hsub⟩,hO⟩:=hp;subst hlen;have hfix:∀ q:List Nat,q.Perm (List.range l.length)→(q.map fun j=>l.getD j d).Perm l:=fun q hq=>by
  have:=hq.map (fun j=>l.getD j d)
  rwa[wX]at this
 refine⟨List Nat×Option Nat×σ,fun x=>D x.1 x.2.1 x.2.2,fun x=>∃ q:List Nat,(q++x.1).Perm (List.range l.length)∧dO step (q.map fun j=>l.getD j d) s0=.inr x.2.2,fun x=>x.1.length,(List.range l.length,none,s0),mkN ns st,js,⟨[],.refl _,rfl⟩,rU ns st st (.refl _) hok,hle,hsub,?_⟩;rintro⟨left,cur,s⟩ ⟨q,hq,hrun⟩;simp only at hq hrun;have hmem:∀ j,j∈left→(q++j::left.erase j).Perm (List.range l.length):=fun j hj=>((List.perm_cons_erase hj).symm.append_left q).trans hq;have hp0:∀ j,j∈left→j<l.length∧p (l.getD j d) s:=fun j hj=>by
  refine⟨List.mem_range.1 (hq.mem_iff.1 (List.mem_append_right _ hj)),?_⟩;have:=hO _ (hfix _ (hmem j hj));rw[List.map_append]at this;exact(BT hrun this).1
 obtain⟨L,hl,hex⟩:=h left cur s hp0;refine⟨L,_,hl,?_,hex⟩;have hfin:∀ e st' o,exC step l d exE outE st.h.length left s e st' o→∃ r js,(LCP st.h.length ns js D step p l s0 exE outE outN st).post r∧(LCP st.h.length ns js D step p l s0 exE outE outN st).ex r=e∧st.h.length≤((LCP st.h.length ns js D step p l s0 exE outE outN st).out r).h.length∧Sub js st.h.length st' ((LCP st.h.length ns js D step p l s0 exE outE outN st).out r):=by
  intro e st' o z;cases o with
  |none=>exact z.elim
  |some j=>
   obtain⟨hj,z⟩:=z;cases hs:step (l.getD j d) s with
   |inr s'=>rw[hs]at z;exact z.elim
   |inl x=>
    rw[hs]at z;obtain⟨q2,js2,q3,q4⟩:=z;refine⟨.inl x,js2,⟨_,hfix _ (hmem j hj),?_⟩,q2,q3,q4⟩;rw[List.map_append,ub hrun];simp only[List.map_cons,dO,hs]
 intro e st' hz;cases e with
 |normal=>
  change nxC step l d D st.h.length left s st' (rT (ag st'.h it))at hz;cases ho:rT (ag st'.h it)with
  |none=>rw[ho]at hz;exact hz.elim
  |some j=>
   rw[ho]at hz;obtain⟨hj,hz⟩:=hz;cases hs:step (l.getD j d) s with
   |inl x=>rw[hs]at hz;exact hz.elim
   |inr s'=>
    rw[hs]at hz;obtain⟨js2,q3,q4⟩:=hz;refine⟨(left.erase j,some j,s'),js2,⟨q++[j],?_,?_⟩,?_,q3,q4⟩
    ·rw[List.append_assoc];exact hmem j hj
    ·rw[List.map_append,ub hrun];simp only[List.map_cons,List.map_nil,dO,hs]
    ·have:=List.length_pos_of_mem hj;simp only[List.length_erase_of_mem hj];omega
 |exit j=>
  have hz':(bif Nat.beq j id then(left=[]→fV (outN s) st.h.length st')∧(left≠[]→exC step l d exE outE st.h.length left s .normal st' (rT (ag st'.h it)))else exC step l d exE outE st.h.length left s (.exit j) st' (rT (ag st'.h it))):=hz;show bif Nat.beq j id then _ else _;cases hb:Nat.beq j id with
  |true=>
   rw[hb]at hz';simp only[cond_true]at hz' ⊢;by_cases hlt:left=[]
   ·obtain⟨js2,q3,q4⟩:=hz'.1 hlt;refine⟨.inr s,js2,⟨_,hfix q (by rw[hlt,List.append_nil]at hq;exact hq),hrun⟩,rfl,q3,q4⟩
   ·exact hfin _ _ _ (hz'.2 hlt)
  |false=>
   rw[hb]at hz';exact hfin _ _ _ hz'
 |ret=>exact hfin _ _ _ hz
 |pan x=>exact hfin _ _ _ hz
end
theorem fkY {st2 st:St}{n0:Nat}{js:List Nat}(_:JL js)(h1:n0≤st2.h.length:=by(first|(show _≤_;decide) |(simp only[*,go_sem,Nat.reduceBEq,Nat.reduceLeDiff,Nat.reduceAdd,Nat.reduceSub,Nat.reduceMul,Int.reduceLE,Int.reduceLT,Int.reduceToNat,Int.reduceNeg,reduceCtorEq];done) |(simp only[*,go_sem,Nat.reduceBEq,Nat.reduceLeDiff,Nat.reduceAdd,Nat.reduceSub,Nat.reduceMul,Int.reduceLE,Int.reduceLT,Int.reduceToNat,Int.reduceNeg,reduceCtorEq];(repeat' (first|with_reducible refine And.intro ?_ ?_|((with_reducible show _≠_);first|assumption|omega|(simp_all [eF,fc];done) |grind) |with_reducible intro _)) <;>(first|rfl|decide|assumption|omega|(simp_all [eF,fc];done) |fail))))(h2:Sub js n0 st st2:=by(first|(show _≤_;decide) |(simp only[*,go_sem,Nat.reduceBEq,Nat.reduceLeDiff,Nat.reduceAdd,Nat.reduceSub,Nat.reduceMul,Int.reduceLE,Int.reduceLT,Int.reduceToNat,Int.reduceNeg,reduceCtorEq];done) |(simp only[*,go_sem,Nat.reduceBEq,Nat.reduceLeDiff,Nat.reduceAdd,Nat.reduceSub,Nat.reduceMul,Int.reduceLE,Int.reduceLT,Int.reduceToNat,Int.reduceNeg,reduceCtorEq];(repeat' (first|with_reducible refine And.intro ?_ ?_|((with_reducible show _≠_);first|assumption|omega|(simp_all [eF,fc];done) |grind) |with_reducible intro _)) <;>(first|rfl|decide|assumption|omega|(simp_all [eF,fc];done) |fail)))):fV st2 n0 st:=Ai js h1 h2
theorem OF {α:Type 1}{G:List SV→α→Prop}{X:SV}{k:List SV→Option α}(h:∀ l c,k l=some c→G (X::l) c):∀ l c,pQ X k l=some c→G l c:=fun l c hc=>by
 obtain⟨r,rfl,h1⟩:=wW hc;exact h r c h1
end Go.Sx
end
section
namespace Go.Sx
open Go.Proofs
open IntKind (i64 u64)
def ka (n:Int)(d:Int):Int:=(i64.wrap (Int.tdiv (i64.wrap (n - (Int.tmod (i64.wrap ((Int.tmod n d)+d)) d))) d))
def lL (n:Int)(d:Int):Prop:=(d≠0∧(d≠0∧d≠0))
@[go_sem] def sZ:List SV→Option Con:=(pI fun n=>(pI fun d=>(pE (.det (lL n d) (.v (.int .i64 (ka n d)))))))
theorem yh:FnOk Tryz.prog 166 sZ:=by
 have hG:ConsOk Tryz.prog (mkG [] []):=aw cg0 cg0;refine aZ [.o] mixed am hG (fn:=Tryz.f166) (c:=ae Tryz.f166) kr kr kr kr (b9 fun n=>(b9 fun d=>(aH (fun hp=>?_))));dsimp only[aD]at hp;unfold lL at hp;refine⟨nbl rfl,L0,ah _,?_⟩
 ·unfold ae Tryz.f166;try unfold ka
  exact zq1
def eo (a:Ratio)(n:Int):Int×Int×Int:=(bif((aR a) !=0)then(0,0,(aR a))else(bif((decide (n< (-1073741824))) ||(decide (n > 1073741824)))then(0,0,1)else((ka (i64.wrap (a.n*n)) a.d),(i64.wrap (0 - (ka (i64.wrap ((i64.wrap (0 - a.n))*n)) a.d))),0)))
def rg (a:Ratio)(n:Int):Prop:=(((aR a) !=0)=false→(((decide (n< (-1073741824))) ||(decide (n > 1073741824)))=false→((lL (i64.wrap (a.n*n)) a.d)∧(lL (i64.wrap ((i64.wrap (0 - a.n))*n)) a.d))))
theorem yi {a:Ratio}(h:(aR a !=0)=false):1≤a.d:=by
 unfold aR at h;by_cases hd:a.d<1
 ·simp[hd]at h
 ·omega
theorem xg (a:Ratio)(n:Int):rg a n:=fun h _=>by
 have:=yi h;exact⟨⟨by omega,by omega,by omega⟩,⟨by omega,by omega,by omega⟩⟩
@[go_sem] def rh:List SV→Option Con:=(pD .ratio fun a=>(pI fun n=>(pE (.det True (.tup [.v (.int .i64 ((eo a n).1)),.v (.int .i64 ((eo a n).2.1)),.v (.int .i64 ((eo a n).2.2))])))))
theorem xh:FnOk Tryz.prog 138 rh:=by
 have hG:ConsOk Tryz.prog (mkG [(165,ko),(166,sZ)] []):=aw (cgc ml (cgc yh cg0)) cg0;refine aZ [.o,.o,.o] mixed am hG (fn:=Tryz.f138) (c:=ae Tryz.f138) kr kr kr kr (a7 fun a=>(b9 fun n=>(aH (fun hp=>?_))));dsimp only[aD]at hp;have hp:=xg a n;unfold rg at hp;refine⟨nbl rfl,L0,ah _,?_⟩
 ·unfold ae Tryz.f138;try unfold eo
  exact zq1
def i9 (n:Int)(d:Int):Ratio×Int:=(bif(d==0)then(({ n:=0,d:=0}:Ratio),120)else(bif(decide ((if(u64.wrap (Int.tdiv (ak n) ((qF (Int.toNat (ak n)) (Int.toNat (ak d)):Nat):Int))) < (u64.wrap (Int.tdiv (ak d) ((qF (Int.toNat (ak n)) (Int.toNat (ak d)):Nat):Int)))then(u64.wrap (Int.tdiv (ak d) ((qF (Int.toNat (ak n)) (Int.toNat (ak d)):Nat):Int)))else(u64.wrap (Int.tdiv (ak n) ((qF (Int.toNat (ak n)) (Int.toNat (ak d)):Nat):Int)))) > 1073741824))then(({ n:=0,d:=0}:Ratio),2)else(bif((decide (n<0)) !=(decide (d<0)))then(({ n:=(i64.wrap (0 - (i64.wrap (u64.wrap (Int.tdiv (ak n) ((qF (Int.toNat (ak n)) (Int.toNat (ak d)):Nat):Int)))))),d:=(i64.wrap (u64.wrap (Int.tdiv (ak d) ((qF (Int.toNat (ak n)) (Int.toNat (ak d)):Nat):Int))))}:Ratio),0)else(({ n:=(i64.wrap (u64.wrap (Int.tdiv (ak n) ((qF (Int.toNat (ak n)) (Int.toNat (ak d)):Nat):Int)))),d:=(i64.wrap (u64.wrap (Int.tdiv (ak d) ((qF (Int.toNat (ak n)) (Int.toNat (ak d)):Nat):Int))))}:Ratio),0))))
def lM (n:Int)(d:Int):Prop:=((d==0)=false→((0≤(ak n)∧0≤(ak d))∧(((qF (Int.toNat (ak n)) (Int.toNat (ak d)):Nat):Int)≠0∧((qF (Int.toNat (ak n)) (Int.toNat (ak d)):Nat):Int)≠0)))
@[go_sem] def s4:List SV→Option Con:=(pI fun n=>(pI fun d=>(pE (.det (lM n d) (.tup [.agg (cellsOf .ratio ((i9 n d).1)),.v (.int .i64 ((i9 n d).2))])))))
theorem yj:FnOk Tryz.prog 172 s4:=by
 have hG:ConsOk Tryz.prog (mkG [(180,C83),(181,jx)] []):=aw (cgc IC (cgc mj cg0)) cg0;refine aZ [.st .ratio,.o] mixed am hG (fn:=Tryz.f172) (c:=ae Tryz.f172) kr kr kr kr (b9 fun n=>(b9 fun d=>(aH (fun hp=>?_))));dsimp only[aD]at hp;unfold lM at hp;refine⟨nbl rfl,L0,ah _,?_⟩
 ·unfold ae Tryz.f172;try unfold i9
  exact zq4
def er (a:Ratio)(b:Ratio):Int×Int:=((i64.wrap ((i64.wrap (a.n*b.d))+(i64.wrap (b.n*a.d)))),(i64.wrap (a.d*b.d)))
@[go_sem] def ri:List SV→Option Con:=(pD .ratio fun a=>(pD .ratio fun b=>(pE (.det True (.tup [.v (.int .i64 ((er a b).1)),.v (.int .i64 ((er a b).2))])))))
theorem xi:FnOk Tryz.prog 155 ri:=by
 have hG:ConsOk Tryz.prog (mkG [] []):=aw cg0 cg0;refine aZ [.o,.o] mixed am hG (fn:=Tryz.f155) (c:=ae Tryz.f155) kr kr kr kr (a7 fun a=>(a7 fun b=>(aH (fun hp=>?_))));dsimp only[aD]at hp;refine⟨nbl rfl,L0,ah _,?_⟩
 ·unfold ae Tryz.f155;try unfold er
  exact zq1
def d6 (a:Ratio)(b:Ratio):Ratio×Int:=(bif(((aR a) !=0) ||((aR b) !=0))then(({ n:=0,d:=0}:Ratio),120)else(((i9 ((er a b).1) ((er a b).2)).1),(i9 ((er a b).1) ((er a b).2)).2))
def gT (a:Ratio)(b:Ratio):Prop:=((((aR a) !=0) ||((aR b) !=0))=false→(lM ((er a b).1) ((er a b).2)))
@[go_sem] noncomputable def kP:List SV→Option Con:=(pQ (.agg [.fn 155 [] []]) (pD .ratio fun a=>(pD .ratio fun b=>(pE (.det (gT a b) (.tup [.agg (cellsOf .ratio ((d6 a b).1)),.v (.int .i64 ((d6 a b).2))]))))))
theorem oX:FnOk Tryz.prog 156 kP:=by
 have hG:ConsOk Tryz.prog (mkG [(155,ri),(165,ko),(172,s4)] []):=aw (cgc xi (cgc ml (cgc yj cg0))) cg0;refine aZ [.st .ratio,.o] mixed am hG (fn:=Tryz.f156) (c:=ae Tryz.f156) kr kr kr kr (OF (a7 fun a=>(a7 fun b=>(aH (fun hp=>?_)))));dsimp only[aD]at hp;unfold gT at hp;refine⟨nbl rfl,L0,ah _,?_⟩
 ·unfold ae Tryz.f156;try unfold d6
  exact zq1
def fe (a:Ratio)(b:Ratio):Ratio×Int:=(((d6 a b).1),(d6 a b).2)
def mQ (a:Ratio)(b:Ratio):Prop:=(gT a b)
@[go_sem] def uL:List SV→Option Con:=(pD .ratio fun a=>(pD .ratio fun b=>(pE (.det (mQ a b) (.tup [.agg (cellsOf .ratio ((fe a b).1)),.v (.int .i64 ((fe a b).2))])))))
theorem Ao:FnOk Tryz.prog 121 uL:=by
 have hG:ConsOk Tryz.prog (mkG [(156,kP)] []):=aw (cgc oX cg0) cg0;refine aZ [.st .ratio,.o] mixed am hG (fn:=Tryz.f121) (c:=ae Tryz.f121) kr kr kr kr (a7 fun a=>(a7 fun b=>(aH (fun hp=>?_))));dsimp only[aD]at hp;unfold mQ at hp;refine⟨nbl rfl,L0,ah _,?_⟩
 ·unfold ae Tryz.f121;try unfold fe
  exact zq1
@[go_sem] def rj (bY:List Int)(k_0:Nat)(s_0:Unit):Int⊕Unit:=(bif((bY.getD k_0 (0:Int)) !=0)then .inl (bY.getD k_0 (0:Int))else .inr ())
def f_ (bY:List Int):Int:=(match aq (rj bY) bY.length 0 ()with| .inl x_0_0=>x_0_0| .inr s_0=>0)
@[go_sem] def s5:List SV→Option Con:=(pR .int fun bY=>(pE (.det True (.v (.int .i64 (f_ bY))))))
theorem yk:FnOk Tryz.prog 44 s5:=by
 have hG:ConsOk Tryz.prog (mkG [] []):=aw cg0 cg0;refine aZ [.o] mixed am hG (fn:=Tryz.f44) (c:=ae Tryz.f44) kr kr kr kr (dY fun bY=>(aH (fun hp=>?_)));dsimp only[aD]at hp;refine⟨nbl rfl,(fun id st=>bif Nat.beq id 0 then some (LCR (ρ:=Int) (σ:=Unit) 0 [] [] (fun k_0 s_0=>⟨[(3,.v (.int .i64 0)),(6,.rs .int bY),(7,.v (.int .i64 (bY.length:Int))),(8,.v (.int .i64 (k_0:Int)))],[]⟩) (rj bY) pT bY.length () (bY.length≤bo) (fun _=>.ret) (fun x_0_0=>⟨[(2,.v (.int .i64 x_0_0))],[]⟩) st)else none),?_,?_⟩
 ·unfold ae Tryz.f44;simp only[al,true_and,and_true]
  ·refine c5 mixed am hG kr (fun _=>rfl) (bY.length:Int) rfl iw (fun hb0 k_0 s_0 hlt0 _ hw hc=>⟨L0,ah _,?_⟩) (fun hb0 s_0 hc=>?_)
   ·exact ci (jl [])
   ·exact cj (jl [])
 ·unfold ae Tryz.f44;try unfold f_
  exact zq1
def bM (x:Holding)(y:Holding):Int:=(f_ ([(bX x.right y.right),(bX x.farm y.farm)]))
@[go_sem] def oR:List SV→Option Con:=(pD .holding fun x=>(pD .holding fun y=>(pE (.det True (.v (.int .i64 (bM x y)))))))
theorem uc:FnOk Tryz.prog 43 oR:=by
 have hG:ConsOk Tryz.prog (mkG [(44,fun l=>s5 (dh [.sl .int] l)),(45,fl)] []):=aw (cgc (yk.norm [.sl .int]) (cgc fW cg0)) cg0;refine aZ [.o] mixed am hG (fn:=Tryz.f43) (c:=ae Tryz.f43) kr kr kr kr (a7 fun x=>(a7 fun y=>(aH (fun hp=>?_))));dsimp only[aD]at hp;refine⟨nbl rfl,L0,ah _,?_⟩
 ·unfold ae Tryz.f43;try unfold bM
  exact zq1
theorem mR (x y:Int):bX x y=if x<y then -1 else if x > y then 1 else 0:=by
 unfold bX gu;simp[Bool.cond_eq_ite]
theorem DK (x:Int)(l:List Int):f_ (x::l)=if x=0 then f_ l else x:=by
 have key:∀ l:List Int,f_ l=match dO (ρ:=Int) (fun(x:Int) (_:Unit) =>bif(x !=0)then .inl x else .inr ()) l ()with| .inl y=>y| .inr _=>0:=fun l=>by
  unfold f_;have:=ot (ρ:=Int) (fun(x:Int) (_:Unit) =>bif(x !=0)then .inl x else .inr ()) 0 l ();rw[←this];rfl
 rw[key,key];simp only[dO];by_cases h:x=0
 ·subst h;rfl
 ·have:(x !=0)=true:=by simpa using h
  rw[if_neg h,this];rfl
theorem Gs:f_ []=0:=rfl
def lN:List (Int×Int)→Prop
 | [] =>False
 |(a,b)::r=>a<b∨a=b∧lN r
theorem y6:∀ l:List (Int×Int),(f_ (l.map fun p=>bX p.1 p.2) <0↔lN l)
 | [] =>by simp[Gs,lN]
 |(a,b)::r=>by
  have hc:=mR a b;simp only[List.map_cons,DK,hc,lN];rcases Int.lt_trichotomy a b with h|h|h
  ·simp[h]
  ·subst h;simp only[Int.lt_irrefl,if_false,if_true,true_and,false_or,gt_iff_lt];exact y6 r
  ·have h1:¬a<b:=by omega
   have h2:a≠b:=by omega
   simp[h1,h2,h]
def hlt (a b:Holding):Prop:=lN [(a.right,b.right),(a.farm,b.farm)]
theorem xj (a b:Holding):bM a b<0↔hlt a b:=y6 [(a.right,b.right),(a.farm,b.farm)]
open Go.Shelf Go.Sort in
theorem IP {α:Type}{f:α→α→Int}{r:α→α→Prop}(e:∀ x y,f x y<0↔r x y)(h1:∀ x,¬r x x)(h2:∀ x y z,r x y→r y z→r x z)(h3:∀ x y z,¬r x y→¬r y z→¬r x z):SWO (ltOf f):=by
 have e1:∀ x y,ltOf f x y=true↔r x y:=fun x y=>by unfold ltOf;rw[decide_eq_true_eq,e]
 have e2:∀ x y,ltOf f x y=false↔¬r x y:=fun x y=>by rw[←e1];simp
 exact⟨fun x=>(e2 x x).2 (h1 x),fun x y z a b=>(e1 x z).2 (h2 x y z ((e1 x y).1 a) ((e1 y z).1 b)),fun x y z a b=>(e2 x z).2 (h3 x y z ((e2 x y).1 a) ((e2 y z).1 b))⟩
open Go.Shelf Go.Sort in
theorem uM:SWO (ltOf bM):=IP xj (fun x=>by simp only[hlt,lN,and_false,or_false];omega) (fun x y z h1 h2=>by simp only[hlt,lN,and_false,or_false]at *;omega) (fun x y z h1 h2=>by simp only[hlt,lN,and_false,or_false]at *;omega)
def aF (n:Int)(lo:Int)(hi:Int):Bool:=((decide (n≥lo))&&(decide (n≤hi)))
@[go_sem] def ku:List SV→Option Con:=(pI fun n=>(pI fun lo=>(pI fun hi=>(pE (.det True (.v (.bool (aF n lo hi))))))))
theorem mt:FnOk Tryz.prog 39 ku:=by
 have hG:ConsOk Tryz.prog (mkG [] []):=aw cg0 cg0;refine aZ [.o] mixed am hG (fn:=Tryz.f39) (c:=ae Tryz.f39) kr kr kr kr (b9 fun n=>(b9 fun lo=>(b9 fun hi=>(aH (fun hp=>?_)))));dsimp only[aD]at hp;refine⟨nbl rfl,L0,ah _,?_⟩
 ·unfold ae Tryz.f39;try unfold aF
  exact zq1
def iK (x:Deed):Bool:=(bif(x.kind==1)then(((x.parts.length:Int) ==0)&&(x.of_==0))else(bif(x.kind==2)then((x.to==0)&&(x.of_==0))else(bif(x.kind==3)then(((x.to==0)&&((x.parts.length:Int) ==0))&&(x.of_==0))else(bif(x.kind==4)then((((x.right==0)&&(x.since==0))&&(x.to==0))&&((x.parts.length:Int) ==0))else(((((x.right==0)&&(x.since==0))&&(x.to==0))&&((x.parts.length:Int) ==0))&&(x.of_==0))))))
@[go_sem] def oS:List SV→Option Con:=(pD .deed fun x=>(pE (.det True (.v (.bool (iK x))))))
theorem ud:FnOk Tryz.prog 85 oS:=by
 have hG:ConsOk Tryz.prog (mkG [] []):=aw cg0 cg0;refine aZ [.o] mixed am hG (fn:=Tryz.f85) (c:=ae Tryz.f85) kr kr kr kr (a7 fun x=>(aH (fun hp=>?_)));dsimp only[aD]at hp;refine⟨nbl rfl,L0,ah _,?_⟩
 ·unfold ae Tryz.f85;try unfold iK
  exact zq1
@[go_sem] def ft (d:District)(l_:List Part)(k_0:Nat)(s_0:Int×Int×List (Int×Bool)):Unit⊕(Int×Int×List (Int×Bool)):=(bif(((!(aF ((l_.getD k_0 (default:Part)).farm) 0 (i64.wrap ((d.farms.length:Int) - 1)))) ||(bS .int .bool s_0.2.2 ((l_.getD k_0 (default:Part)).farm))) ||(decide ((l_.getD k_0 (default:Part)).share.n≤0)))then .inl ()else(bif((fe ({ n:=s_0.1,d:=s_0.2.1}:Ratio) ((l_.getD k_0 (default:Part)).share)).2 !=0)then .inl ()else .inr (((fe ({ n:=s_0.1,d:=s_0.2.1}:Ratio) ((l_.getD k_0 (default:Part)).share)).1).n,((fe ({ n:=s_0.1,d:=s_0.2.1}:Ratio) ((l_.getD k_0 (default:Part)).share)).1).d,(eX .int .bool s_0.2.2 ((l_.getD k_0 (default:Part)).farm) true))))
def ix (d:District)(l_:List Part)(k_0:Nat)(s_0:Int×Int×List (Int×Bool)):Prop:=(d.farms.length≤bo→((((!(aF ((l_.getD k_0 (default:Part)).farm) 0 (i64.wrap ((d.farms.length:Int) - 1)))) ||(bS .int .bool s_0.2.2 ((l_.getD k_0 (default:Part)).farm))) ||(decide ((l_.getD k_0 (default:Part)).share.n≤0)))=false→(mQ ({ n:=s_0.1,d:=s_0.2.1}:Ratio) ((l_.getD k_0 (default:Part)).share))))
def gW (d:District)(l_:List Part):Bool:=(match aq (ft d l_) l_.length 0 (0,1,[])with| .inl x_0_0=>false| .inr s_0=>((aF (l_.length:Int) 1 16)&&((s_0.1==1)&&(s_0.2.1==1))))
def ii (d:District)(l_:List Part):Prop:=(l_.length≤bo→okI (ft d l_) (ix d l_) l_.length 0 (0,1,[]))
@[go_sem] def nQ:List SV→Option Con:=(pD .district fun d=>(pR .part fun l_=>(pE (.det (ii d l_) (.v (.bool (gW d l_)))))))
theorem ta:FnOk Tryz.prog 86 nQ:=by
 have hG:ConsOk Tryz.prog (mkG [(39,ku),(121,uL)] []):=aw (cgc mt (cgc Ao cg0)) cg0;refine aZ [.o] mixed am hG (fn:=Tryz.f86) (c:=ae Tryz.f86) kr kr kr kr (a7 fun d=>(dY fun l_=>(aH (fun hp=>?_))));dsimp only[aD]at hp;unfold ii at hp;refine⟨nbl rfl,(fun id st=>bif Nat.beq id 0 then some (LCR (ρ:=Unit) (σ:=(Int×Int×List (Int×Bool))) 3 [] [0,1,2] (fun k_0 s_0=>⟨[(1,.rs .part l_),(2,.ptr 0 0),(5,.ptr 2 0),(6,.os 1),(13,.rs .part l_),(14,.v (.int .i64 (l_.length:Int))),(15,.v (.int .i64 (k_0:Int)))],[.cells (cellsOf .district d),.mp .int .bool s_0.2.2 none,.cells [.v (.int .i64 s_0.1),.v (.int .i64 s_0.2.1)]]⟩) (ft d l_) (ix d l_) l_.length (0,1,[]) (l_.length≤bo) (fun _=>.ret) (fun x_0_0=>⟨[(4,.v (.bool false))],[.dead,.dead,.dead]⟩) st)else none),?_,?_⟩
 ·unfold ae Tryz.f86;simp only[al,true_and,and_true]
  ·refine c5 mixed am hG kr (fun _=>rfl) (l_.length:Int) rfl iw (fun hb0 k_0 s_0 hlt0 hq0 hw hc=>⟨L0,ah _,?_⟩) (fun hb0 s_0 hc=>?_)
   ·unfold ix at hq0;try simp only[hw,Int.toNat_natCast]at hq0
    exact ci (jl [0,1,2])
   ·exact cj (jl [0,1,2])
 ·unfold ae Tryz.f86;try unfold gW
  exact zq1
def bV (a0:District)(a1:List (Int×Deed))(a2:Deed):Bool:=(bif((((!(aF a2.no 0 1048576)) ||(!(aF a2.at_ 0 4096))) ||(!(aF a2.known 0 1048576))) ||(!(iK a2)))then false else(bif(a2.kind==1)then(((((aF a2.right 0 (i64.wrap ((a0.rights.length:Int) - 1)))&&((a0.rights.getD (Int.toNat a2.right) (default:Right)).kind==1))&&(aF a2.since 0 (i64.wrap ((a0.farms.length:Int) - 1))))&&(aF a2.to 0 (i64.wrap ((a0.farms.length:Int) - 1))))&&(a2.to !=a2.since))else(bif(a2.kind==2)then((((aF a2.right 0 (i64.wrap ((a0.rights.length:Int) - 1)))&&((a0.rights.getD (Int.toNat a2.right) (default:Right)).kind==1))&&(aF a2.since 0 (i64.wrap ((a0.farms.length:Int) - 1))))&&(gW a0 a2.parts))else(bif(a2.kind==3)then(((aF a2.right 0 (i64.wrap ((a0.rights.length:Int) - 1)))&&((a0.rights.getD (Int.toNat a2.right) (default:Right)).kind==1))&&(aF a2.since 0 (i64.wrap ((a0.farms.length:Int) - 1))))else(bif(a2.kind==4)then(((jS .int .deed a1 a2.of_)&&((bS .int .deed a1 a2.of_).kind !=4))&&(decide (a2.known≥(bS .int .deed a1 a2.of_).known)))else false)))))
def iT (a0:District)(a1:List (Int×Deed))(a2:Deed):Prop:=(((((!(aF a2.no 0 1048576)) ||(!(aF a2.at_ 0 4096))) ||(!(aF a2.known 0 1048576))) ||(!(iK a2)))=false→(a0.farms.length≤bo→(a0.rights.length≤bo→(((aF a2.right 0 (i64.wrap ((a0.rights.length:Int) - 1)))=true→(0≤a2.right∧a2.right< (a0.rights.length:Int)))∧((a2.kind==1)=false→((a2.kind==2)=true→((((aF a2.right 0 (i64.wrap ((a0.rights.length:Int) - 1)))&&((a0.rights.getD (Int.toNat a2.right) (default:Right)).kind==1))&&(aF a2.since 0 (i64.wrap ((a0.farms.length:Int) - 1))))=true→(ii a0 a2.parts))))))))
@[go_sem] def oT:List SV→Option Con:=(pD .district fun a0=>(pM .int .deed fun a1=>(pD .deed fun a2=>(pE (.det (iT a0 a1 a2) (.v (.bool (bV a0 a1 a2))))))))
theorem ue:FnOk Tryz.prog 49 oT:=by
 have hG:ConsOk Tryz.prog (mkG [(39,ku),(85,fun l=>oS (dh [.st .deed] l)),(86,fun l=>nQ (dh [.st .district,.sl .part] l))] []):=aw (cgc mt (cgc (ud.norm [.st .deed]) (cgc (ta.norm [.st .district,.sl .part]) cg0))) cg0;refine aZ [.o] mixed am hG (fn:=Tryz.f49) (c:=ae Tryz.f49) kr kr kr kr (a7 fun a0=>(OA fun a1=>(a7 fun a2=>(aH (fun hp=>?_)))));dsimp only[aD]at hp;unfold iT at hp;refine⟨nbl rfl,L0,ah _,?_⟩
 ·unfold ae Tryz.f49;try unfold bV
  exact zq1
def cL (x:Deed):Bool:=(decide ((x.parts.length:Int) > 16))
@[go_sem] def mu:List SV→Option Con:=(pD .deed fun x=>(pE (.det True (.v (.bool (cL x))))))
theorem qG:FnOk Tryz.prog 48 mu:=by
 have hG:ConsOk Tryz.prog (mkG [] []):=aw cg0 cg0;refine aZ [.o] mixed am hG (fn:=Tryz.f48) (c:=ae Tryz.f48) kr kr kr kr (a7 fun x=>(aH (fun hp=>?_)));dsimp only[aD]at hp;refine⟨nbl rfl,L0,ah _,?_⟩
 ·unfold ae Tryz.f48;try unfold cL
  exact zq1
@[go_sem] def bK (s_:List Deed)(k_0:Nat)(s_0:Unit):Int⊕Unit:=(bif(cL (s_.getD k_0 (default:Deed)))then .inl (k_0:Int)else .inr ())
def cG (s_:List Deed):Int:=(match aq (bK s_) s_.length 0 ()with| .inl x_0_0=>x_0_0| .inr s_0=>(-1))
@[go_sem] def dq:List SV→Option Con:=(pR .deed fun s_=>(pFn 48 (pE ((pE (.det True (.v (.int .i64 (cG s_)))))))))
theorem eA:FnOk Tryz.prog 84 dq:=by
 have hG:ConsOk Tryz.prog (mkG [(48,fun l=>mu (dh [.st .deed] l))] []):=aw (cgc (qG.norm [.st .deed]) cg0) cg0;refine aZ [.o] mixed am hG (fn:=Tryz.f84) (c:=ae Tryz.f84) kr kr kr kr (dY fun s_=>(sP (aH ((aH (fun hp=>?_))))));dsimp only[aD]at hp;refine⟨nbl rfl,(fun id st=>bif Nat.beq id 0 then some (LCR (ρ:=Int) (σ:=Unit) 0 [] [] (fun k_0 s_0=>⟨[(0,.rs .deed s_),(1,.fn 48 [] []),(7,.v (.int .i64 (s_.length:Int))),(8,.v (.int .i64 (k_0:Int)))],[]⟩) (bK s_) pT s_.length () (s_.length≤bo) (fun _=>.ret) (fun x_0_0=>⟨[(4,.v (.int .i64 x_0_0))],[]⟩) st)else none),?_,?_⟩
 ·unfold ae Tryz.f84;simp only[al,true_and,and_true]
  ·refine c5 mixed am hG kr (fun _=>rfl) (s_.length:Int) rfl iw (fun hb0 k_0 s_0 hlt0 _ hw hc=>⟨L0,ah _,?_⟩) (fun hb0 s_0 hc=>?_)
   ·exact ci (jl [])
   ·exact cj (jl [])
 ·unfold ae Tryz.f84;try unfold cG
  exact zq1
@[go_sem] noncomputable def di:List SV→Option Con:=fun l=>(dq l)
theorem gX:FnOk Tryz.prog 84 di:=eA
def aU (s_:List Deed):Bool:=(decide ((cG s_)≥0))
@[go_sem] def d9:List SV→Option Con:=(pR .deed fun s_=>(pFn 48 (pE ((pE (.det True (.v (.bool (aU s_)))))))))
theorem zq71 {p:Prop}(h:p:=by simp only[go_sem,Nat.reduceBEq,Nat.reduceLeDiff,Nat.reduceLT,decide_true,Nat.reduceAdd,Nat.reduceSub,Nat.reduceMul,Int.reduceLE,Int.reduceLT,Int.reduceToNat,Int.reduceNeg,reduceCtorEq,di];all_goals exact cl):p:=h
theorem gA:FnOk Tryz.prog 47 d9:=by
 have hG:ConsOk Tryz.prog (mkG [(84,fun l=>di (dh [.sl .deed,.o] l))] []):=aw (cgc (gX.norm [.sl .deed,.o]) cg0) cg0;refine aZ [.o] mixed am hG (fn:=Tryz.f47) (c:=ae Tryz.f47) kr kr kr kr (dY fun s_=>(sP (aH ((aH (fun hp=>?_))))));dsimp only[aD]at hp;refine⟨nbl rfl,L0,ah _,?_⟩
 ·unfold ae Tryz.f47;try unfold aU
  exact zq71
@[go_sem] def dQ (d:District)(l_:List Deed)(k_0:Nat)(s_0:List (Int×Deed)):Unit⊕(List (Int×Deed)):=(bif(((decide ((k_0:Int) > 0))&&(decide ((l_.getD k_0 (default:Deed)).no≤(l_.getD (Int.toNat (i64.wrap ((k_0:Int) - 1))) (default:Deed)).no))) ||(!(bV d s_0 (l_.getD k_0 (default:Deed)))))then .inl ()else .inr (eX .int .deed s_0 ((l_.getD k_0 (default:Deed)).no) (l_.getD k_0 (default:Deed))))
def iy (d:District)(l_:List Deed)(k_0:Nat)(s_0:List (Int×Deed)):Prop:=(((decide ((k_0:Int) > 0))=true→(0≤(i64.wrap ((k_0:Int) - 1))∧(i64.wrap ((k_0:Int) - 1)) < (l_.length:Int)))∧(((decide ((k_0:Int) > 0))&&(decide ((l_.getD k_0 (default:Deed)).no≤(l_.getD (Int.toNat (i64.wrap ((k_0:Int) - 1))) (default:Deed)).no)))=false→(iT d s_0 (l_.getD k_0 (default:Deed)))))
def an (d:District)(l_:List Deed):Int:=(bif((aC d) !=0)then(aC d)else(bif((decide ((l_.length:Int) > 512)) ||(aU l_))then 2 else(match aq (dQ d l_) l_.length 0 ([])with| .inl x_0_0=>250| .inr s_0=>0)))
def eT (d:District)(l_:List Deed):Prop:=(((aC d) !=0)=false→(l_.length≤bo→(((decide ((l_.length:Int) > 512)) ||(aU l_))=false→(l_.length≤bo→okI (dQ d l_) (iy d l_) l_.length 0 ([])))))
@[go_sem] def ij:List SV→Option Con:=(pD .district fun d=>(pR .deed fun l_=>(pE (.det (eT d l_) (.v (.int .i64 (an d l_)))))))
theorem jC:FnOk Tryz.prog 26 ij:=by
 have hG:ConsOk Tryz.prog (mkG [(34,fun l=>jz (dh [.st .district] l)),(47,fun l=>d9 (dh [.sl .deed,.o] l)),(49,fun l=>oT (dh [.st .district,.mp .int .deed,.st .deed] l))] []):=aw (cgc (lh.norm [.st .district]) (cgc (gA.norm [.sl .deed,.o]) (cgc (ue.norm [.st .district,.mp .int .deed,.st .deed]) cg0))) cg0;refine aZ [.o] mixed am hG (fn:=Tryz.f26) (c:=ae Tryz.f26) kr kr kr kr (a7 fun d=>(dY fun l_=>(aH (fun hp=>?_))));dsimp only[aD]at hp;unfold eT at hp;refine⟨nbl rfl,(fun id st=>bif Nat.beq id 0 then some (LCR (ρ:=Unit) (σ:=(List (Int×Deed))) 2 [] [0,1] (fun k_0 s_0=>⟨[(1,.rs .deed l_),(2,.ptr 0 0),(5,.os 1),(21,.rs .deed l_),(22,.v (.int .i64 (l_.length:Int))),(23,.v (.int .i64 (k_0:Int)))],[.cells (cellsOf .district d),.mp .int .deed s_0 none]⟩) (dQ d l_) (iy d l_) l_.length ([]) (l_.length≤bo) (fun _=>.ret) (fun x_0_0=>⟨[(4,.v (.int .i64 250))],[.dead,.dead]⟩) st)else none),?_,?_⟩
 ·unfold ae Tryz.f26;simp only[al,true_and,and_true]
  ·refine c5 mixed am hG kr (fun _=>rfl) (l_.length:Int) rfl iw (fun hb0 k_0 s_0 hlt0 hq0 hw hc=>⟨L0,ah _,?_⟩) (fun hb0 s_0 hc=>?_)
   ·unfold iy at hq0;try simp only[hw,Int.toNat_natCast]at hq0
    exact ci (jl [0,1])
   ·exact cj (jl [0,1])
 ·unfold ae Tryz.f26;try unfold an
  exact zq1
end Go.Sx
end
section
namespace Go.Sx
open Go.RowKit
def pXM {α:Type 1}(t t2:Tag)(k:List (t.T×t2.T)→List SV→Option α):List SV→Option α
 | .ep [s] 0::r=>pM t t2 k (s::r)
 |_=>none
@[go_sem] theorem S5 {α:Type 1}{t t2:Tag}{k:List (t.T×t2.T)→List SV→Option α}{s:SV}{r:List SV}:pXM t t2 k (.ep [s] 0::r)=pM t t2 k (s::r):=(rfl)
theorem E7 {α:Type 1}{G:List SV→α→Prop}{t t2:Tag}{k:List (t.T×t2.T)→List SV→Option α}(h:∀ n l c,k n l=some c→G (.ep [.rm t t2 n] 0::l) c):∀ l c,pXM t t2 k l=some c→G l c:=fun l c hc=>by
 unfold pXM at hc;split at hc
 ·obtain⟨x,r,e,h1⟩:=H_ hc;simp only[List.cons.injEq]at e;obtain⟨rfl,rfl⟩:=e;exact h x _ c h1
 ·cases hc
section
universe u
variable {α:Type u}{G:List SV→α→Prop}
def pLS (k:List SV→Option (List SV→Option α)):List SV→Option α
 | .ls l::r=>apO (k l) r
 |_=>none
@[go_sem] theorem VD {k:List SV→Option (List SV→Option α)}{l r:List SV}:pLS k (.ls l::r)=apO (k l) r:=(rfl)
end
open Classical in
noncomputable def gB {τ:Type}(A:τ→List SV)(H:τ→List Ob)(K:τ→HCon):List SV→List Ob→Option HCon:=fun l h=>if e:∃ x,l=A x∧h=H x then some (K e.choose)else none
theorem IQ (x:Deed):(⟨x.no,x.kind,x.right,x.since,x.to,x.parts,x.of_,x.at_,x.known⟩:Deed)=x:=rfl
theorem Ap (d:District):(⟨d.name,d.hours,⟨d.tank.cap,d.tank.start⟩,d.reaches,d.farms,d.crops,d.rights,d.duties,d.wells⟩:District)=d:=rfl
theorem Gt {k:Tag}{x y:k.T}:cellsOf k x=cellsOf k y↔x=y:=⟨fun h=>by
 have h1:=qn x;rw[h,qn y]at h1;exact(Option.some.inj h1).symm,fun h=>by rw[h]⟩
theorem eU {τ:Type}{A:τ→List SV}{H:τ→List Ob}{K:τ→HCon}{x:τ}(inj:∀ x y,A x=A y→H x=H y→x=y:=by
 intro x y h1 h2;simp only[List.cons.injEq,SV.agg.injEq,SV.ep.injEq,SV.v.injEq,Value.int.injEq,Value.bool.injEq,Value.string.injEq,SV.fn.injEq,SV.rs.injEq,SV.rm.injEq,Ob.row.injEq,Ob.mp.injEq,Ob.cells.injEq,Ob.grid.injEq,heq_eq_eq,Gt,true_and,and_true]at h1 h2;first|exact h2|exact h1|(simp_all [Prod.ext_iff];done)):gB A H K (A x) (H x)=some (K x):=by
 have e:∃ y,A x=A y∧H x=H y:=⟨x,rfl,rfl⟩;unfold gB;rw[dif_pos e];have:=inj _ _ e.choose_spec.1 e.choose_spec.2;rw[←this]
theorem dD {τ:Type}{A:τ→List SV}{H:τ→List Ob}{K:τ→HCon}{l:List SV}{h:List Ob}{c:HCon}(hh:gB A H K l h=some c):∃ x,l=A x∧h=H x∧c=K x:=by
 unfold gB at hh;split at hh
 ·rename_i e;simp only[Option.some.injEq]at hh;exact⟨e.choose,e.choose_spec.1,e.choose_spec.2,hh.symm⟩
 ·cases hh
end Go.Sx
end
section
namespace Go.Sx
open Go.Proofs
open IntKind (i64)
@[go_sem] def lC:List SV→Option Con:=pR .deed fun l=>pE (.det (l.length*88≤fb) (.nw .deed l))
theorem p8:FnOk Tryz.prog 72 lC:=by
 have hG:ConsOk Tryz.prog (mkG [] []):=aw cg0 cg0;refine ov [(.tmp 2,.deed)] mixed am hG (fn:=Tryz.f72) (c:=ae Tryz.f72) kr kr kr kr (dY fun l=>aH fun hp=>?_);dsimp only[aD]at hp;refine⟨nbl rfl,L0,ah _,?_⟩;unfold ae Tryz.f72;simp only[go_sem,Nat.reduceBEq,Nat.reduceLeDiff,Nat.reduceAdd,Nat.reduceSub,Nat.reduceMul,Int.reduceLE,Int.reduceLT,Int.reduceToNat,Int.reduceNeg,reduceCtorEq];intro b hb;refine⟨fun h=>?_,fun _=>⟨hp,fun _=>rfl⟩⟩;have hl:=hb h;subst hl;rfl
theorem gj {l0 l1:List Nat}(a0:JL l0)(a1:JL l1){p:Prop}(h:JL l0→JL l1→p:=by intro ja jb;(first|done|(repeat' (first|with_reducible refine And.intro ?_ ?_|((with_reducible show _≠_);first|assumption|omega|(simp_all [eF,fc];done) |grind) |with_reducible intro _)) <;>(first|done|with_reducible exact Empty.elim ‹Empty› |with_reducible assumption|rfl|omega|assumption|decide|exact fk ja|exact fk jb|exact czl|(simp only[*,cond_true,cond_false,Bool.not_true,Bool.not_false,go_sem,Nat.reduceBEq,Nat.reduceLeDiff,Nat.reduceLT,decide_true,Nat.reduceAdd,Nat.reduceSub,Nat.reduceMul,Int.reduceLE,Int.reduceLT,Int.reduceToNat,Int.reduceNeg,reduceCtorEq];(repeat' (first|with_reducible refine And.intro ?_ ?_|((with_reducible show _≠_);first|assumption|omega|(simp_all [eF,fc];done) |grind) |with_reducible intro _)) <;>(first|done|assumption|rfl|omega|decide|exact fk ja|exact fk jb|(simp_all [eF,fc];done))) |(simp_all [okI,eF,fc];done) |(simp_all [eF,fc];(first|done|exact fk2 ja|exact fk2 jb)) |exact fk2 ja|exact fk2 jb))):p:=h a0 a1
def aP (x:Deed)(known:Int)(hour:Int)(void_:List (Int×Bool)):Bool:=((((x.kind==4) ||(decide (x.known > known))) ||(decide (x.at_ > hour))) ||(bS .int .bool void_ x.no))
@[go_sem] def gC:List SV→Option Con:=(pD .deed fun x=>(pX .int fun known=>(pX .int fun hour=>(pXM .int .bool fun void_=>(pE (.det True (.v (.bool (aP x known hour void_)))))))))
theorem jD:FnOk Tryz.prog 73 gC:=by
 have hG:ConsOk Tryz.prog (mkG [] []):=aw cg0 cg0;refine aZ [.o] mixed am hG (fn:=Tryz.f73) (c:=ae Tryz.f73) kr kr kr kr (a7 fun x=>(pn fun known=>(pn fun hour=>(E7 fun void_=>(aH (fun hp=>?_))))));dsimp only[aD]at hp;refine⟨nbl rfl,L0,ah _,?_⟩
 ·unfold ae Tryz.f73;try unfold aP
  exact zq1
def cq (a:Deed)(b:Deed):Int:=(bX a.at_ b.at_)
@[go_sem] def gD:List SV→Option Con:=(pD .deed fun a=>(pD .deed fun b=>(pE (.det True (.v (.int .i64 (cq a b)))))))
theorem jE:FnOk Tryz.prog 75 gD:=by
 have hG:ConsOk Tryz.prog (mkG [(45,fl)] []):=aw (cgc fW cg0) cg0;refine aZ [.o] mixed am hG (fn:=Tryz.f75) (c:=ae Tryz.f75) kr kr kr kr (a7 fun a=>(a7 fun b=>(aH (fun hp=>?_))));dsimp only[aD]at hp;refine⟨nbl rfl,L0,ah _,?_⟩
 ·unfold ae Tryz.f75;try unfold cq
  exact zq1
@[go_sem] def cV (s_:List Deed)(known:Int)(hour:Int)(void_:List (Int×Bool))(k_0:Nat)(s_0:Unit):Int⊕Unit:=(bif(aP (s_.getD k_0 (default:Deed)) known hour void_)then .inl (k_0:Int)else .inr ())
def ai (s_:List Deed)(known:Int)(hour:Int)(void_:List (Int×Bool)):Int:=(match aq (cV s_ known hour void_) s_.length 0 ()with| .inl x_0_0=>x_0_0| .inr s_0=>(-1))
@[go_sem] def et:List SV→Option Con:=(pR .deed fun s_=>(pFn 73 (pX .int fun known=>(pX .int fun hour=>(pXM .int .bool fun void_=>(pE ((pE (.det True (.v (.int .i64 (ai s_ known hour void_))))))))))))
theorem gK:FnOk Tryz.prog 84 et:=by
 have hG:ConsOk Tryz.prog (mkG [(73,fun l=>gC (dh [.st .deed,.o,.o,.o] l))] []):=aw (cgc (jD.norm [.st .deed,.o,.o,.o]) cg0) cg0;refine aZ [.o] mixed am hG (fn:=Tryz.f84) (c:=ae Tryz.f84) kr kr kr kr (dY fun s_=>(sP (pn fun known=>(pn fun hour=>(E7 fun void_=>(aH ((aH (fun hp=>?_)))))))));dsimp only[aD]at hp;refine⟨nbl rfl,(fun id st=>bif Nat.beq id 0 then some (LCR (ρ:=Int) (σ:=Unit) 0 [] [] (fun k_0 s_0=>⟨[(0,.rs .deed s_),(1,.fn 73 [] [.ep [.v (.int .i64 known)] 0,.ep [.v (.int .i64 hour)] 0,.ep [.rm .int .bool void_] 0]),(7,.v (.int .i64 (s_.length:Int))),(8,.v (.int .i64 (k_0:Int)))],[]⟩) (cV s_ known hour void_) pT s_.length () (s_.length≤bo) (fun _=>.ret) (fun x_0_0=>⟨[(4,.v (.int .i64 x_0_0))],[]⟩) st)else none),?_,?_⟩
 ·unfold ae Tryz.f84;simp only[al,true_and,and_true]
  ·refine c5 mixed am hG kr (fun _=>rfl) (s_.length:Int) rfl iw (fun hb0 k_0 s_0 hlt0 _ hw hc=>⟨L0,ah _,?_⟩) (fun hb0 s_0 hc=>?_)
   ·exact ci (jl [])
   ·exact cj (jl [])
 ·unfold ae Tryz.f84;try unfold ai
  exact zq1
@[go_sem] noncomputable def dl:List SV→Option Con:=fun l=>(orC (dq l) (et l))
theorem gY:FnOk Tryz.prog 84 dl:=(FnOk.or eA gK)
@[go_sem] def aJ (l_:List Deed)(known:Int)(hour:Int)(void_:List (Int×Bool))(k_0:Nat)(s_0:List Deed×Int×Int):(Int×List Deed)⊕(List Deed×Int×Int):=(bif(decide (s_0.2.2< (s_0.1.length:Int)))then(bif(!(aP (s_0.1.getD (Int.toNat s_0.2.2) (default:Deed)) known hour void_))then .inr ((s_0.1.set (Int.toNat s_0.2.1) (s_0.1.getD (Int.toNat s_0.2.2) (default:Deed))),(i64.wrap (s_0.2.1+1)),(i64.wrap (s_0.2.2+1)))else .inr (s_0.1,s_0.2.1,(i64.wrap (s_0.2.2+1))))else .inl (s_0.2.1,s_0.1))
def bB (l_:List Deed)(known:Int)(hour:Int)(void_:List (Int×Bool))(k_0:Nat)(s_0:List Deed×Int×Int):Prop:=(s_0.1.length≤bo→((decide (s_0.2.2< (s_0.1.length:Int)))=true→((0≤s_0.2.2∧s_0.2.2< (s_0.1.length:Int))∧((!(aP (s_0.1.getD (Int.toNat s_0.2.2) (default:Deed)) known hour void_))=true→(0≤s_0.2.1∧s_0.2.1< (s_0.1.length:Int))))))
def aS (l_:List Deed)(known:Int)(hour:Int)(void_:List (Int×Bool)):List Deed:=(bif((ai l_ known hour void_) ==(-1))then l_ else(match aq (aJ l_ known hour void_) (l_.length+1) 0 (l_,(ai l_ known hour void_),(i64.wrap ((ai l_ known hour void_)+1)))with| .inl x_0_0=>(((vX .deed x_0_0.2 x_0_0.1 (x_0_0.2.length:Int)).take (Int.toNat x_0_0.1)).drop 0) | .inr s_0=>default))
def aV (l_:List Deed)(known:Int)(hour:Int)(void_:List (Int×Bool)):Prop:=(((ai l_ known hour void_) ==(-1))=false→(okI (aJ l_ known hour void_) (bB l_ known hour void_) (l_.length+1) 0 (l_,(ai l_ known hour void_),(i64.wrap ((ai l_ known hour void_)+1)))∧(∀ z_,aq (aJ l_ known hour void_) (l_.length+1) 0 (l_,(ai l_ known hour void_),(i64.wrap ((ai l_ known hour void_)+1)))≠ .inr z_)∧(∀ x_0_0,aq (aJ l_ known hour void_) (l_.length+1) 0 (l_,(ai l_ known hour void_),(i64.wrap ((ai l_ known hour void_)+1)))=.inl x_0_0→((0≤x_0_0.1∧x_0_0.1≤(x_0_0.2.length:Int))∧(0≤0∧0≤x_0_0.1∧x_0_0.1≤((vX .deed x_0_0.2 x_0_0.1 (x_0_0.2.length:Int)).length:Int))))))
noncomputable def dm:List SV→List Ob→Option HCon:=gB (fun x_:(List Deed)×Int×Int×(List (Int×Bool)) =>[.os 0,.fn 73 [] [.ptr 1 0,.ptr 2 0,.ptr 3 0]]) (fun x_=>[.row .deed x_.1,.cells [.v (.int .i64 x_.2.1)],.cells [.v (.int .i64 x_.2.2.1)],.cells [.os 4],.mp .int .bool x_.2.2.2 none]) (fun x_=>eG (aV x_.1 x_.2.1 x_.2.2.1 x_.2.2.2) (.os 5) [.dead,.cells [.v (.int .i64 x_.2.1)],.cells [.v (.int .i64 x_.2.2.1)],.cells [.os 4],.mp .int .bool x_.2.2.2 none,.row .deed (aS x_.1 x_.2.1 x_.2.2.1 x_.2.2.2)])
@[go_sem] theorem oY (l_:List Deed)(known:Int)(hour:Int)(void_:List (Int×Bool)){p4_:Option (Nat×Option Tag.int.T)}(hp4_:p4_=none):dm ([.os 0,.fn (73:Nat) [] [.ptr 1 0,.ptr 2 0,.ptr 3 0]]) ([.row .deed l_,.cells [.v (.int .i64 known)],.cells [.v (.int .i64 hour)],.cells [.os 4],.mp .int .bool void_ p4_])=some (eG (aV l_ known hour void_) (.os 5) [.dead,.cells [.v (.int .i64 known)],.cells [.v (.int .i64 hour)],.cells [.os 4],.mp .int .bool void_ none,.row .deed (aS l_ known hour void_)]):=by
 subst hp4_;exact eU (A:=fun x_:(List Deed)×Int×Int×(List (Int×Bool)) =>[.os 0,.fn 73 [] [.ptr 1 0,.ptr 2 0,.ptr 3 0]]) (H:=fun x_=>[.row .deed x_.1,.cells [.v (.int .i64 x_.2.1)],.cells [.v (.int .i64 x_.2.2.1)],.cells [.os 4],.mp .int .bool x_.2.2.2 none]) (K:=fun x_=>eG (aV x_.1 x_.2.1 x_.2.2.1 x_.2.2.2) (.os 5) [.dead,.cells [.v (.int .i64 x_.2.1)],.cells [.v (.int .i64 x_.2.2.1)],.cells [.os 4],.mp .int .bool x_.2.2.2 none,.row .deed (aS x_.1 x_.2.1 x_.2.2.1 x_.2.2.2)]) (x:=(l_,known,hour,void_))
theorem zq76 {l0 l1:List Nat}(a0:JL l0)(a1:JL l1){p:Prop}(h:JL l0→JL l1→p:=by intro ja jb;simp only[go_sem,Nat.reduceBEq,Nat.reduceLeDiff,Nat.reduceLT,decide_true,Nat.reduceAdd,Nat.reduceSub,Nat.reduceMul,Int.reduceLE,Int.reduceLT,Int.reduceToNat,Int.reduceNeg,reduceCtorEq,dl];all_goals exact gj ja jb):p:=h a0 a1
theorem gZ:FnOkO Tryz.prog 71 (dm):=by
 have hG:ConsOk Tryz.prog (mkG [(73,fun l=>gC (dh [.st .deed,.o,.o,.o] l)),(84,fun l=>dl (dh [.sl .deed,.o] l))] []):=aw (cgc (jD.norm [.st .deed,.o,.o,.o]) (cgc (gY.norm [.sl .deed,.o]) cg0)) cg0;refine fI mixed am hG (fn:=Tryz.f71) (c:=ae Tryz.f71) kr kr kr kr fun l o con h=>?_;obtain⟨⟨l_,known,hour,void_⟩,rfl,rfl,rfl⟩:=dD h;clear h;try dsimp only
 refine⟨_,_,_,rfl,fun hp=>?_⟩;unfold aV at hp;refine⟨nbl rfl,(fun id st=>bif Nat.beq id 0 then some (LCV (ρ:=(Int×List Deed)) (σ:=(List Deed×Int×Int)) 5 [] [0,1,2,3,4] (fun k_0 s_0=>⟨[(0,.os 0),(1,.fn 73 [] [.ptr 1 0,.ptr 2 0,.ptr 3 0]),(5,.v (.int .i64 s_0.2.1)),(6,.v (.int .i64 s_0.2.2))],[.row .deed s_0.1,.cells [.v (.int .i64 known)],.cells [.v (.int .i64 hour)],.cells [.os 4],.mp .int .bool void_ none]⟩) (aJ l_ known hour void_) (bB l_ known hour void_) (l_.length+1) (l_,(ai l_ known hour void_),(i64.wrap ((ai l_ known hour void_)+1))) (fun _=>.normal) (fun x_0_0=>⟨[(0,.os 0),(5,.v (.int .i64 x_0_0.1))],[.row .deed x_0_0.2,.cells [.v (.int .i64 known)],.cells [.v (.int .i64 hour)],.cells [.os 4],.mp .int .bool void_ none]⟩) st)else none),?_,?_⟩
 ·unfold ae Tryz.f71;simp only[al,true_and,and_true,and_assoc]
  ·refine e_ mixed am hG kr (fun _=>rfl) fun k_0 s_0 hq0=>⟨L0,ah _,?_⟩
   ·unfold bB at hq0;exact cH (jl [0,1,2,3,4])
 ·unfold ae Tryz.f71;try unfold aS
  exact zq76 (jl [0,1,2,3,4,0]) (jl [0,1,2,3,4,5])
@[go_sem] def aG (a:Int)(l_:List Deed)(k_1:Nat)(s_1:List Deed×Int):(List Deed)⊕(List Deed×Int):=(bif((decide (s_1.2 > a))&&(decide ((cq (s_1.1.getD (Int.toNat s_1.2) (default:Deed)) (s_1.1.getD (Int.toNat (i64.wrap (s_1.2 - 1))) (default:Deed))) <0)))then .inr (((s_1.1.set (Int.toNat s_1.2) (s_1.1.getD (Int.toNat (i64.wrap (s_1.2 - 1))) (default:Deed))).set (Int.toNat (i64.wrap (s_1.2 - 1))) (s_1.1.getD (Int.toNat s_1.2) (default:Deed))),(i64.wrap (s_1.2 - 1)))else .inl s_1.1)
def aX (a:Int)(l_:List Deed)(k_1:Nat)(s_1:List Deed×Int):Prop:=(((decide (s_1.2 > a))=true→(0≤s_1.2∧s_1.2< (s_1.1.length:Int)))∧(((decide (s_1.2 > a))=true→(0≤(i64.wrap (s_1.2 - 1))∧(i64.wrap (s_1.2 - 1)) < (s_1.1.length:Int)))∧(((decide (s_1.2 > a))&&(decide ((cq (s_1.1.getD (Int.toNat s_1.2) (default:Deed)) (s_1.1.getD (Int.toNat (i64.wrap (s_1.2 - 1))) (default:Deed))) <0)))=true→((0≤(i64.wrap (s_1.2 - 1))∧(i64.wrap (s_1.2 - 1)) < (s_1.1.length:Int))∧((0≤s_1.2∧s_1.2< (s_1.1.length:Int))∧((0≤s_1.2∧s_1.2< (s_1.1.length:Int))∧(0≤(i64.wrap (s_1.2 - 1))∧(i64.wrap (s_1.2 - 1)) < ((s_1.1.set (Int.toNat s_1.2) (s_1.1.getD (Int.toNat (i64.wrap (s_1.2 - 1))) (default:Deed))).length:Int))))))))
@[go_sem] def az (a:Int)(b:Int)(l_:List Deed)(k_0:Nat)(s_0:List Deed×Int):(List Deed)⊕(List Deed×Int):=(bif(decide (s_0.2<b))then(match aq (aG a l_) (l_.length+1) 0 (s_0.1,s_0.2)with| .inl x_1_0=>.inr (x_1_0,(i64.wrap (s_0.2+1))) | .inr s_1=>.inr default)else .inl s_0.1)
def aO (a:Int)(b:Int)(l_:List Deed)(k_0:Nat)(s_0:List Deed×Int):Prop:=((decide (s_0.2<b))=true→(okI (aG a l_) (aX a l_) (l_.length+1) 0 (s_0.1,s_0.2)∧(∀ z_,aq (aG a l_) (l_.length+1) 0 (s_0.1,s_0.2)≠ .inr z_)))
def av (a:Int)(b:Int)(l_:List Deed):List Deed:=(match aq (az a b l_) (l_.length+1) 0 (l_,(i64.wrap (a+1)))with| .inl x_0_0=>x_0_0| .inr s_0=>default)
def aK (a:Int)(b:Int)(l_:List Deed):Prop:=(okI (az a b l_) (aO a b l_) (l_.length+1) 0 (l_,(i64.wrap (a+1)))∧(∀ z_,aq (az a b l_) (l_.length+1) 0 (l_,(i64.wrap (a+1)))≠ .inr z_))
noncomputable def c6:List SV→List Ob→Option HCon:=gB (fun x_:Int×Int×(List Deed) =>[.os 0,.v (.int .i64 x_.1),.v (.int .i64 x_.2.1),.fn 75 [] []]) (fun x_=>[.row .deed x_.2.2]) (fun x_=>eG (aK x_.1 x_.2.1 x_.2.2) (.tup []) [.row .deed (av x_.1 x_.2.1 x_.2.2)])
@[go_sem] theorem oU (a:Int)(b:Int)(l_:List Deed):c6 ([.os 0,.v (.int .i64 a),.v (.int .i64 b),.fn 75 [] []]) ([.row .deed l_])=some (eG (aK a b l_) (.tup []) [.row .deed (av a b l_)]):=eU (A:=fun x_:Int×Int×(List Deed) =>[.os 0,.v (.int .i64 x_.1),.v (.int .i64 x_.2.1),.fn 75 [] []]) (H:=fun x_=>[.row .deed x_.2.2]) (K:=fun x_=>eG (aK x_.1 x_.2.1 x_.2.2) (.tup []) [.row .deed (av x_.1 x_.2.1 x_.2.2)]) (x:=(a,b,l_))
theorem gL:FnOkO Tryz.prog 148 (c6):=by
 have hG:ConsOk Tryz.prog (mkG [(75,fun l=>gD (dh [.st .deed,.st .deed] l))] []):=aw (cgc (jE.norm [.st .deed,.st .deed]) cg0) cg0;refine fI mixed am hG (fn:=Tryz.f148) (c:=ae Tryz.f148) kr kr kr kr fun l o con h=>?_;obtain⟨⟨a,b,l_⟩,rfl,rfl,rfl⟩:=dD h;clear h;try dsimp only
 refine⟨_,_,_,rfl,fun hp=>?_⟩;unfold aK at hp;refine⟨nbl rfl,(fun id st=>bif Nat.beq id 0 then some (LCV (ρ:=(List Deed)) (σ:=(List Deed×Int)) 1 [] [0] (fun k_0 s_0=>⟨[(0,.os 0),(1,.v (.int .i64 a)),(2,.v (.int .i64 b)),(3,.fn 75 [] []),(8,.v (.int .i64 s_0.2))],[.row .deed s_0.1]⟩) (az a b l_) (aO a b l_) (l_.length+1) (l_,(i64.wrap (a+1))) (fun _=>.normal) (fun x_0_0=>⟨[],[.row .deed x_0_0]⟩) st)else none),?_,?_⟩
 ·unfold ae Tryz.f148;simp only[al,true_and,and_true,and_assoc]
  ·refine e_ mixed am hG kr (fun _=>rfl) fun k_0 s_0 hq0=>⟨(fun id st=>bif Nat.beq id 2 then some (LCV (ρ:=(List Deed)) (σ:=(List Deed×Int)) 1 [] [0] (fun k_1 s_1=>⟨[(0,.os 0),(1,.v (.int .i64 a)),(2,.v (.int .i64 b)),(3,.fn 75 [] []),(8,.v (.int .i64 s_0.2)),(9,.v (.int .i64 s_1.2))],[.row .deed s_1.1]⟩) (aG a l_) (aX a l_) (l_.length+1) (s_0.1,s_0.2) (fun _=>.normal) (fun x_1_0=>⟨[(0,.os 0),(1,.v (.int .i64 a)),(2,.v (.int .i64 b)),(3,.fn 75 [] []),(8,.v (.int .i64 s_0.2))],[.row .deed x_1_0]⟩) st)else none),?_,?_⟩
   ·simp only[al,true_and,and_true]
    ·refine e_ mixed am hG kr (fun _=>rfl) fun k_1 s_1 hq1=>⟨L0,ah _,?_⟩
     ·unfold aX at hq1;exact cH (jl [0])
   ·unfold aO at hq0;exact cH (jl [0])
 ·unfold ae Tryz.f148;try unfold av
  exact cH (jl [0])
@[go_sem] def bA (a:Int)(b:Int)(n:Int)(k_0:Nat)(s_0:List Deed):Empty⊕(List Deed):=.inr ((s_0.set (Int.toNat (i64.wrap (a+(k_0:Int)))) (s_0.getD (Int.toNat (i64.wrap (b+(k_0:Int)))) (default:Deed))).set (Int.toNat (i64.wrap (b+(k_0:Int)))) (s_0.getD (Int.toNat (i64.wrap (a+(k_0:Int)))) (default:Deed)))
def bL (a:Int)(b:Int)(n:Int)(k_0:Nat)(s_0:List Deed):Prop:=((0≤(i64.wrap (b+(k_0:Int)))∧(i64.wrap (b+(k_0:Int))) < (s_0.length:Int))∧((0≤(i64.wrap (a+(k_0:Int)))∧(i64.wrap (a+(k_0:Int))) < (s_0.length:Int))∧((0≤(i64.wrap (a+(k_0:Int)))∧(i64.wrap (a+(k_0:Int))) < (s_0.length:Int))∧(0≤(i64.wrap (b+(k_0:Int)))∧(i64.wrap (b+(k_0:Int))) < ((s_0.set (Int.toNat (i64.wrap (a+(k_0:Int)))) (s_0.getD (Int.toNat (i64.wrap (b+(k_0:Int)))) (default:Deed))).length:Int)))))
def aQ (a:Int)(b:Int)(n:Int)(l_:List Deed):List Deed:=(match aq (bA a b n) (Int.toNat n) 0 l_ with| .inl x=>x.elim| .inr s_0=>s_0)
def aM (a:Int)(b:Int)(n:Int)(l_:List Deed):Prop:=((n<9223372036854775808)∧okI (bA a b n) (bL a b n) (Int.toNat n) 0 l_)
noncomputable def dE:List SV→List Ob→Option HCon:=gB (fun x_:Int×Int×Int×(List Deed) =>[.os 0,.v (.int .i64 x_.1),.v (.int .i64 x_.2.1),.v (.int .i64 x_.2.2.1),.fn 75 [] []]) (fun x_=>[.row .deed x_.2.2.2]) (fun x_=>eG (aM x_.1 x_.2.1 x_.2.2.1 x_.2.2.2) (.tup []) [.row .deed (aQ x_.1 x_.2.1 x_.2.2.1 x_.2.2.2)])
@[go_sem] theorem qv (a:Int)(b:Int)(n:Int)(l_:List Deed):dE ([.os 0,.v (.int .i64 a),.v (.int .i64 b),.v (.int .i64 n),.fn 75 [] []]) ([.row .deed l_])=some (eG (aM a b n l_) (.tup []) [.row .deed (aQ a b n l_)]):=eU (A:=fun x_:Int×Int×Int×(List Deed) =>[.os 0,.v (.int .i64 x_.1),.v (.int .i64 x_.2.1),.v (.int .i64 x_.2.2.1),.fn 75 [] []]) (H:=fun x_=>[.row .deed x_.2.2.2]) (K:=fun x_=>eG (aM x_.1 x_.2.1 x_.2.2.1 x_.2.2.2) (.tup []) [.row .deed (aQ x_.1 x_.2.1 x_.2.2.1 x_.2.2.2)]) (x:=(a,b,n,l_))
theorem iL:FnOkO Tryz.prog 183 (dE):=by
 have hG:ConsOk Tryz.prog (mkG [] []):=aw cg0 cg0;refine fI mixed am hG (fn:=Tryz.f183) (c:=ae Tryz.f183) kr kr kr kr fun l o con h=>?_;obtain⟨⟨a,b,n,l_⟩,rfl,rfl,rfl⟩:=dD h;clear h;try dsimp only
 refine⟨_,_,_,rfl,fun hp=>?_⟩;unfold aM at hp;refine⟨nbl rfl,(fun id st=>bif Nat.beq id 0 then some (LCR (ρ:=Empty) (σ:=(List Deed)) 1 [] [0] (fun k_0 s_0=>⟨[(0,.os 0),(1,.v (.int .i64 a)),(2,.v (.int .i64 b)),(3,.v (.int .i64 n)),(10,.v (.int .i64 (k_0:Int)))],[.row .deed s_0]⟩) (bA a b n) (bL a b n) (Int.toNat n) l_ (n<9223372036854775808) ((·.elim)) ((·.elim)) st)else none),?_,?_⟩
 ·unfold ae Tryz.f183;simp only[al,true_and,and_true,and_assoc]
  ·refine c5 mixed am hG kr (fun _=>rfl) n rfl id (fun hb0 k_0 s_0 hlt0 hq0 hw hc=>⟨L0,ah _,?_⟩) (fun hb0 s_0 hc=>?_)
   ·unfold bL at hq0;try simp only[hw,Int.toNat_natCast]at hq0
    exact ci (jl [0])
   ·exact cj (jl [0])
 ·unfold ae Tryz.f183;try unfold aQ
  exact cH (jl [0])
@[go_sem] def ba (a:Int)(m:Int)(b:Int)(k_0:Nat)(s_0:List Deed×Int×Int):(Int×List Deed)⊕(List Deed×Int×Int):=(bif(s_0.2.1 !=s_0.2.2)then(bif(decide (s_0.2.1 > s_0.2.2))then .inr ((aQ (i64.wrap (m - s_0.2.1)) m s_0.2.2 s_0.1),(i64.wrap (s_0.2.1 - s_0.2.2)),s_0.2.2)else .inr ((aQ (i64.wrap (m - s_0.2.1)) (i64.wrap ((i64.wrap (m+s_0.2.2)) - s_0.2.1)) s_0.2.1 s_0.1),s_0.2.1,(i64.wrap (s_0.2.2 - s_0.2.1))))else .inl (s_0.2.1,s_0.1))
def bZ (a:Int)(m:Int)(b:Int)(k_0:Nat)(s_0:List Deed×Int×Int):Prop:=((s_0.2.1 !=s_0.2.2)=true→(((decide (s_0.2.1 > s_0.2.2))=true→(aM (i64.wrap (m - s_0.2.1)) m s_0.2.2 s_0.1))∧((decide (s_0.2.1 > s_0.2.2))=false→(aM (i64.wrap (m - s_0.2.1)) (i64.wrap ((i64.wrap (m+s_0.2.2)) - s_0.2.1)) s_0.2.1 s_0.1))))
def ar (a:Int)(m:Int)(b:Int)(l_:List Deed):List Deed:=(match aq (ba a m b) (Int.toNat (b - a)+1) 0 (l_,(i64.wrap (m - a)),(i64.wrap (b - m)))with| .inl x_0_0=>(aQ (i64.wrap (m - x_0_0.1)) m x_0_0.1 x_0_0.2) | .inr s_0=>default)
def bg (a:Int)(m:Int)(b:Int)(l_:List Deed):Prop:=(okI (ba a m b) (bZ a m b) (Int.toNat (b - a)+1) 0 (l_,(i64.wrap (m - a)),(i64.wrap (b - m)))∧(∀ z_,aq (ba a m b) (Int.toNat (b - a)+1) 0 (l_,(i64.wrap (m - a)),(i64.wrap (b - m)))≠ .inr z_)∧(∀ x_0_0,aq (ba a m b) (Int.toNat (b - a)+1) 0 (l_,(i64.wrap (m - a)),(i64.wrap (b - m)))=.inl x_0_0→(aM (i64.wrap (m - x_0_0.1)) m x_0_0.1 x_0_0.2)))
noncomputable def dW:List SV→List Ob→Option HCon:=gB (fun x_:Int×Int×Int×(List Deed) =>[.os 0,.v (.int .i64 x_.1),.v (.int .i64 x_.2.1),.v (.int .i64 x_.2.2.1),.fn 75 [] []]) (fun x_=>[.row .deed x_.2.2.2]) (fun x_=>eG (bg x_.1 x_.2.1 x_.2.2.1 x_.2.2.2) (.tup []) [.row .deed (ar x_.1 x_.2.1 x_.2.2.1 x_.2.2.2)])
@[go_sem] theorem rV (a:Int)(m:Int)(b:Int)(l_:List Deed):dW ([.os 0,.v (.int .i64 a),.v (.int .i64 m),.v (.int .i64 b),.fn 75 [] []]) ([.row .deed l_])=some (eG (bg a m b l_) (.tup []) [.row .deed (ar a m b l_)]):=eU (A:=fun x_:Int×Int×Int×(List Deed) =>[.os 0,.v (.int .i64 x_.1),.v (.int .i64 x_.2.1),.v (.int .i64 x_.2.2.1),.fn 75 [] []]) (H:=fun x_=>[.row .deed x_.2.2.2]) (K:=fun x_=>eG (bg x_.1 x_.2.1 x_.2.2.1 x_.2.2.2) (.tup []) [.row .deed (ar x_.1 x_.2.1 x_.2.2.1 x_.2.2.2)]) (x:=(a,m,b,l_))
theorem jF:FnOkO Tryz.prog 170 (dW):=by
 have hG:ConsOk Tryz.prog (mkG [] [(183,dE)]):=aw cg0 (cgc iL cg0);refine fI mixed am hG (fn:=Tryz.f170) (c:=ae Tryz.f170) kr kr kr kr fun l o con h=>?_;obtain⟨⟨a,m,b,l_⟩,rfl,rfl,rfl⟩:=dD h;clear h;try dsimp only
 refine⟨_,_,_,rfl,fun hp=>?_⟩;unfold bg at hp;refine⟨nbl rfl,(fun id st=>bif Nat.beq id 0 then some (LCV (ρ:=(Int×List Deed)) (σ:=(List Deed×Int×Int)) 1 [] [0] (fun k_0 s_0=>⟨[(0,.os 0),(2,.v (.int .i64 m)),(4,.fn 75 [] []),(10,.v (.int .i64 s_0.2.1)),(11,.v (.int .i64 s_0.2.2))],[.row .deed s_0.1]⟩) (ba a m b) (bZ a m b) (Int.toNat (b - a)+1) (l_,(i64.wrap (m - a)),(i64.wrap (b - m))) (fun _=>.normal) (fun x_0_0=>⟨[(0,.os 0),(2,.v (.int .i64 m)),(4,.fn 75 [] []),(10,.v (.int .i64 x_0_0.1))],[.row .deed x_0_0.2]⟩) st)else none),?_,?_⟩
 ·unfold ae Tryz.f170;simp only[al,true_and,and_true,and_assoc]
  ·refine e_ mixed am hG kr (fun _=>rfl) fun k_0 s_0 hq0=>⟨L0,ah _,?_⟩
   ·unfold bZ at hq0;exact cH (jl [0])
 ·unfold ae Tryz.f170;try unfold ar
  exact cH (jl [0])
end Go.Sx
end
