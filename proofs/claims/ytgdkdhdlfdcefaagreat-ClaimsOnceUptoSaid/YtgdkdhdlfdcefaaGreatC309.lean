/- Part of the proof that the law ClaimsOnce returns true and leaves its arguments as they were, for all arguments of bulk at most 1048576 (the Upto form). -/
import Derived.Test.YtgdkdhdlfdcefaaGreatC308
import Derived.Test.YtgdkdhdlfdcefaaGreatC307
import Derived.Sort.Statements
import Derived.Shelf.SlSortCmp.Insertion
set_option linter.all false
set_option maxHeartbeats 4000000
set_option maxRecDepth 100000
section
namespace Go.Sx
open Go.Proofs
open IntKind (i64)
theorem cJ {l0:List Nat}(a0:JL l0){p:Prop}(h:JL l0→p:=by intro ja;simp only[go_sem,Nat.reduceBEq,Nat.reduceLeDiff,Nat.reduceLT,decide_true,Nat.reduceAdd,Nat.reduceSub,Nat.reduceMul,Int.reduceLE,Int.reduceLT,Int.reduceToNat,Int.reduceNeg,reduceCtorEq];all_goals exact xl ja):p:=h a0
def qA (d:District):Bool:=((((((decide ((d.reaches.length:Int)≤100))&&(decide ((d.farms.length:Int)≤700)))&&(decide ((d.crops.length:Int)≤100)))&&(decide ((d.rights.length:Int)≤300)))&&(decide ((d.duties.length:Int)≤300)))&&(decide ((d.wells.length:Int)≤100)))
@[go_sem] def uU:List SV→Option Con:=(pD .district fun d=>(pE (.det True (.v (.bool (qA d))))))
theorem Au:FnOk Tryz.prog 33 uU:=by
 have hG:ConsOk Tryz.prog (mkG [] []):=aw cg0 cg0;refine aZ [.o] mixed an hG (fn:=Tryz.f33) (c:=ae Tryz.f33) kr kr kr kr (a7 fun d=>(aF (fun hp=>?_)));dsimp only[aD]at hp;refine⟨nbl rfl,L0,ai _,?_⟩
 ·unfold ae Tryz.f33;try unfold qA
  exact zq1
def aL (n:Int)(lo:Int)(hi:Int):Bool:=((decide (n≥lo))&&(decide (n≤hi)))
@[go_sem] def fQ:List SV→Option Con:=(pI fun n=>(pI fun lo=>(pI fun hi=>(pE (.det True (.v (.bool (aL n lo hi))))))))
theorem gn:FnOk Tryz.prog 99 fQ:=by
 have hG:ConsOk Tryz.prog (mkG [] []):=aw cg0 cg0;refine aZ [.o] mixed an hG (fn:=Tryz.f99) (c:=ae Tryz.f99) kr kr kr kr (b_ fun n=>(b_ fun lo=>(b_ fun hi=>(aF (fun hp=>?_)))));dsimp only[aD]at hp;refine⟨nbl rfl,L0,ai _,?_⟩
 ·unfold ae Tryz.f99;try unfold aL
  exact zq1
@[go_sem] def eW (b:Int)(k_0:Nat)(s_0:Int×Int):Int⊕(Int×Int):=(bif(decide (s_0.2 > 0))then .inr (s_0.2,(Int.tmod s_0.1 s_0.2))else .inl s_0.1)
def jc (b:Int)(k_0:Nat)(s_0:Int×Int):Prop:=((decide (s_0.2 > 0))=true→s_0.2≠0)
def iM (a:Int)(b:Int):Int:=(match ap (eW b) (Int.toNat b+1) 0 (a,b)with| .inl x_0_0=>x_0_0| .inr s_0=>default)
def lr (a:Int)(b:Int):Prop:=(okI (eW b) (jc b) (Int.toNat b+1) 0 (a,b)∧(∀ z_,ap (eW b) (Int.toNat b+1) 0 (a,b)≠ .inr z_))
@[go_sem] def oR:List SV→Option Con:=(pI fun a=>(pI fun b=>(pE (.det (lr a b) (.v (.int .i64 (iM a b)))))))
theorem uk:FnOk Tryz.prog 174 oR:=by
 have hG:ConsOk Tryz.prog (mkG [] []):=aw cg0 cg0;refine aZ [.o] mixed an hG (fn:=Tryz.f174) (c:=ae Tryz.f174) kr kr kr kr (b_ fun a=>(b_ fun b=>(aF (fun hp=>?_))));dsimp only[aD]at hp;unfold lr at hp;refine⟨nbl rfl,(fun id st=>bif Nat.beq id 0 then some (LCV (ρ:=Int) (σ:=(Int×Int)) 0 [] [] (fun k_0 s_0=>⟨[(0,.v (.int .i64 s_0.1)),(1,.v (.int .i64 s_0.2))],[]⟩) (eW b) (jc b) (Int.toNat b+1) (a,b) (fun _=>.normal) (fun x_0_0=>⟨[(0,.v (.int .i64 x_0_0))],[]⟩) st)else none),?_,?_⟩
 ·unfold ae Tryz.f174;simp only[am,true_and,and_true]
  ·refine eK mixed an hG kr (fun _=>rfl) fun k_0 s_0 hq0=>⟨L0,ai _,?_⟩
   ·unfold jc at hq0;exact cJ (jl [])
 ·unfold ae Tryz.f174;try unfold iM
  exact zq1
def j_ (n:Int):Int:=(bif(decide (n<0))then(i64.wrap (0 - n))else n)
@[go_sem] def ta:List SV→Option Con:=(pI fun n=>(pE (.det True (.v (.int .i64 (j_ n))))))
theorem ym:FnOk Tryz.prog 175 ta:=by
 have hG:ConsOk Tryz.prog (mkG [] []):=aw cg0 cg0;refine aZ [.o] mixed an hG (fn:=Tryz.f175) (c:=ae Tryz.f175) kr kr kr kr (b_ fun n=>(aF (fun hp=>?_)));dsimp only[aD]at hp;refine⟨nbl rfl,L0,ai _,?_⟩
 ·unfold ae Tryz.f175;try unfold j_
  exact zq1
def er (a:Ratio):Bool:=(((((decide (a.d≥1))&&(decide (a.d≤1073741824)))&&(decide (a.n≥(-1073741824))))&&(decide (a.n≤1073741824)))&&((iM (j_ a.n) a.d) ==1))
def iN (a:Ratio):Prop:=(((((decide (a.d≥1))&&(decide (a.d≤1073741824)))&&(decide (a.n≥(-1073741824))))&&(decide (a.n≤1073741824)))=true→(lr (j_ a.n) a.d))
@[go_sem] def ni:List SV→Option Con:=(pD .ratio fun a=>(pE (.det (iN a) (.v (.bool (er a))))))
theorem pJ:FnOk Tryz.prog 160 ni:=by
 have hG:ConsOk Tryz.prog (mkG [(174,oR),(175,ta)] []):=aw (cgc uk (cgc ym cg0)) cg0;refine aZ [.o] mixed an hG (fn:=Tryz.f160) (c:=ae Tryz.f160) kr kr kr kr (a7 fun a=>(aF (fun hp=>?_)));dsimp only[aD]at hp;unfold iN at hp;refine⟨nbl rfl,L0,ai _,?_⟩
 ·unfold ae Tryz.f160;try unfold er
  exact zq1
def fA (a:Ratio):Int:=(bif(!(er a))then 120 else 0)
def kx (a:Ratio):Prop:=(iN a)
@[go_sem] def rj:List SV→Option Con:=(pD .ratio fun a=>(pE (.det (kx a) (.v (.int .i64 (fA a))))))
theorem xq:FnOk Tryz.prog 178 rj:=by
 have hG:ConsOk Tryz.prog (mkG [(160,ni)] []):=aw (cgc pJ cg0) cg0;refine aZ [.o] mixed an hG (fn:=Tryz.f178) (c:=ae Tryz.f178) kr kr kr kr (a7 fun a=>(aF (fun hp=>?_)));dsimp only[aD]at hp;unfold kx at hp;refine⟨nbl rfl,L0,ai _,?_⟩
 ·unfold ae Tryz.f178;try unfold fA
  exact zq1
def mt (a:Ratio)(b:Ratio):Bool:=(decide ((i64.wrap (a.n*b.d)) < (i64.wrap (b.n*a.d))))
@[go_sem] def tb:List SV→Option Con:=(pD .ratio fun a=>(pD .ratio fun b=>(pE (.det True (.v (.bool (mt a b)))))))
theorem yn:FnOk Tryz.prog 184 tb:=by
 have hG:ConsOk Tryz.prog (mkG [] []):=aw cg0 cg0;refine aZ [.o] mixed an hG (fn:=Tryz.f184) (c:=ae Tryz.f184) kr kr kr kr (a7 fun a=>(a7 fun b=>(aF (fun hp=>?_))));dsimp only[aD]at hp;refine⟨nbl rfl,L0,ai _,?_⟩
 ·unfold ae Tryz.f184;try unfold mt
  exact zq1
def mu (a:Ratio)(b:Ratio):Bool:=((er a)&&(er b))
def ox (a:Ratio)(b:Ratio):Prop:=((iN a)∧((er a)=true→(iN b)))
@[go_sem] def td:List SV→Option Con:=(pD .ratio fun a=>(pD .ratio fun b=>(pE (.det (ox a b) (.v (.bool (mu a b)))))))
theorem yo:FnOk Tryz.prog 176 td:=by
 have hG:ConsOk Tryz.prog (mkG [(160,ni)] []):=aw (cgc pJ cg0) cg0;refine aZ [.o] mixed an hG (fn:=Tryz.f176) (c:=ae Tryz.f176) kr kr kr kr (a7 fun a=>(a7 fun b=>(aF (fun hp=>?_))));dsimp only[aD]at hp;unfold ox at hp;refine⟨nbl rfl,L0,ai _,?_⟩
 ·unfold ae Tryz.f176;try unfold mu
  exact zq1
def ka (a:Ratio)(b:Ratio):Int×Int:=(bif(!(mu a b))then(0,120)else(bif(mt a b)then((-1),0)else(bif(mt b a)then(1,0)else(0,0))))
def pK (a:Ratio)(b:Ratio):Prop:=(ox a b)
@[go_sem] def uV:List SV→Option Con:=(pD .ratio fun a=>(pD .ratio fun b=>(pE (.det (pK a b) (.tup [.v (.int .i64 ((ka a b).1)),.v (.int .i64 ((ka a b).2))])))))
theorem Av:FnOk Tryz.prog 179 uV:=by
 have hG:ConsOk Tryz.prog (mkG [(176,td),(184,tb)] []):=aw (cgc yo (cgc yn cg0)) cg0;refine aZ [.o,.o] mixed an hG (fn:=Tryz.f179) (c:=ae Tryz.f179) kr kr kr kr (a7 fun a=>(a7 fun b=>(aF (fun hp=>?_))));dsimp only[aD]at hp;unfold pK at hp;refine⟨nbl rfl,L0,ai _,?_⟩
 ·unfold ae Tryz.f179;try unfold ka
  exact zq1
def gh (x:Ratio×Ratio):Bool:=(bif(((fA x.1) !=0) ||((fA x.2) !=0))then false else(((decide (x.1.n≥0))&&(decide ((ka x.1 x.2).1≤0)))&&(decide (x.2.n≤x.2.d))))
def mv (x:Ratio×Ratio):Prop:=((kx x.1)∧((((fA x.1) !=0)=false→(kx x.2))∧((((fA x.1) !=0) ||((fA x.2) !=0))=false→(pK x.1 x.2))))
@[go_sem] def pL:List SV→Option Con:=(pD .ratio2 fun x=>(pE (.det (mv x) (.v (.bool (gh x))))))
theorem vE:FnOk Tryz.prog 164 pL:=by
 have hG:ConsOk Tryz.prog (mkG [(178,rj),(179,uV)] []):=aw (cgc xq (cgc Av cg0)) cg0;refine aZ [.o] mixed an hG (fn:=Tryz.f164) (c:=ae Tryz.f164) kr kr kr kr (a7 fun x=>(aF (fun hp=>?_)));dsimp only[aD]at hp;unfold mv at hp;refine⟨nbl rfl,L0,ai _,?_⟩
 ·unfold ae Tryz.f164;try unfold gh
  exact zq1
def pN (x:Reach):Bool:=(bif(((!(aL x.delay 1 16)) ||(!(aL x.cap 0 1073741824))) ||(!(aL x.bank 0 1099511627776)))then false else(bif(((!(aL x.siphon 0 (if x.bank<x.cap then x.bank else x.cap))) ||(!(aL x.evap.lo 0 x.evap.hi))) ||(decide (x.evap.hi > 1073741824)))then false else(gh x.seep)))
def nj (x:Reach):Prop:=((((!(aL x.delay 1 16)) ||(!(aL x.cap 0 1073741824))) ||(!(aL x.bank 0 1099511627776)))=false→((((!(aL x.siphon 0 (if x.bank<x.cap then x.bank else x.cap))) ||(!(aL x.evap.lo 0 x.evap.hi))) ||(decide (x.evap.hi > 1073741824)))=false→(mv x.seep)))
@[go_sem] def rk:List SV→Option Con:=(pD .reach fun x=>(pE (.det (nj x) (.v (.bool (pN x))))))
theorem xr:FnOk Tryz.prog 137 rk:=by
 have hG:ConsOk Tryz.prog (mkG [(99,fQ),(164,pL)] []):=aw (cgc gn (cgc vE cg0)) cg0;refine aZ [.o] mixed an hG (fn:=Tryz.f137) (c:=ae Tryz.f137) kr kr kr kr (a7 fun x=>(aF (fun hp=>?_)));dsimp only[aD]at hp;unfold nj at hp;refine⟨nbl rfl,L0,ai _,?_⟩
 ·unfold ae Tryz.f137;try unfold pN
  exact zq1
@[go_sem] def kc (l_:List Reach)(k_0:Nat)(s_0:Unit):Unit⊕Unit:=(bif((((k_0:Int) ==0)&&((l_.getD k_0 (default:Reach)).up !=(-1))) ||((decide ((k_0:Int) > 0))&&(!(aL ((l_.getD k_0 (default:Reach)).up) 0 (i64.wrap ((k_0:Int) - 1))))))then .inl ()else(bif(!(pN (l_.getD k_0 (default:Reach))))then .inl ()else .inr ()))
def je (l_:List Reach)(k_0:Nat)(s_0:Unit):Prop:=(l_.length≤bo→(((((k_0:Int) ==0)&&((l_.getD k_0 (default:Reach)).up !=(-1))) ||((decide ((k_0:Int) > 0))&&(!(aL ((l_.getD k_0 (default:Reach)).up) 0 (i64.wrap ((k_0:Int) - 1))))))=false→(nj (l_.getD k_0 (default:Reach)))))
def nk (l_:List Reach):Bool:=(match ap (kc l_) l_.length 0 ()with| .inl x_0_0=>false| .inr s_0=>(decide ((l_.length:Int) > 0)))
def lu (l_:List Reach):Prop:=okI (kc l_) (je l_) l_.length 0 ()
@[go_sem] def oS:List SV→Option Con:=(pR .reach fun l_=>(pE (.det (lu l_) (.v (.bool (nk l_))))))
theorem ul:FnOk Tryz.prog 100 oS:=by
 have hG:ConsOk Tryz.prog (mkG [(99,fQ),(137,rk)] []):=aw (cgc gn (cgc xr cg0)) cg0;refine aZ [.o] mixed an hG (fn:=Tryz.f100) (c:=ae Tryz.f100) kr kr kr kr (d7 fun l_=>(aF (fun hp=>?_)));dsimp only[aD]at hp;unfold lu at hp;refine⟨nbl rfl,(fun id st=>bif Nat.beq id 0 then some (LCR (ρ:=Unit) (σ:=Unit) 0 [] [] (fun k_0 s_0=>⟨[(0,.rs .reach l_),(3,.v (.int .i64 (k_0:Int)))],[]⟩) (kc l_) (je l_) l_.length () (True) (fun _=>.ret) (fun x_0_0=>⟨[(2,.v (.bool false))],[]⟩) st)else none),?_,?_⟩
 ·unfold ae Tryz.f100;simp only[am,true_and,and_true]
  ·refine jC (l_.length≤bo) mixed an hG kr (fun _=>rfl) (l_.length:Int) rfl gY (fun hb0 k_0 s_0 hlt0 hq0 hw hc=>⟨L0,ai _,?_⟩) (fun hb0 s_0 hc=>?_) fun hb0 k_0 s_0=>?_
   ·unfold je at hq0;try simp only[hw,Int.toNat_natCast]at hq0
    exact bZ (jl [])
   ·exact b6 (jl [])
   ·exact zq7
 ·unfold ae Tryz.f100;try unfold nk
  exact zq1
@[go_sem] def pO (a0:District)(k_0:Nat)(s_0:Unit):Unit⊕Unit:=(bif(!(aL ((a0.crops.getD k_0 (default:Crop)).need) 0 1048576))then .inl ()else .inr ())
@[go_sem] def pP (a0:District)(k_1:Nat)(s_1:Unit):Unit⊕Unit:=(bif((!(aL ((a0.farms.getD k_1 (default:Farm)).reach) 0 (i64.wrap ((a0.reaches.length:Int) - 1)))) ||(!(aL ((a0.farms.getD k_1 (default:Farm)).area) 0 1048576)))then .inl ()else(bif((((a0.farms.getD k_1 (default:Farm)).area==0)&&((a0.farms.getD k_1 (default:Farm)).crop !=(-1))) ||((decide ((a0.farms.getD k_1 (default:Farm)).area > 0))&&(!(aL ((a0.farms.getD k_1 (default:Farm)).crop) 0 (i64.wrap ((a0.crops.length:Int) - 1))))))then .inl ()else .inr ()))
def pW (a0:District):Bool:=(match ap (pO a0) a0.crops.length 0 ()with| .inl x_0_0=>false| .inr s_0=>(match ap (pP a0) a0.farms.length 0 ()with| .inl x_1_0=>false| .inr s_1=>true))
@[go_sem] def rl:List SV→Option Con:=(pD .district fun a0=>(pE (.det True (.v (.bool (pW a0))))))
theorem Tn {p:Prop}(h:p:=by simp only[go_sem,Nat.reduceBEq,Nat.reduceLeDiff,Nat.reduceLT,decide_true,Nat.reduceAdd,Nat.reduceSub,Nat.reduceMul,Int.reduceLE,Int.reduceLT,Int.reduceToNat,Int.reduceNeg,reduceCtorEq,hb1]):p:=h
theorem xu:FnOk Tryz.prog 101 rl:=by
 have hG:ConsOk Tryz.prog (mkG [(99,fQ)] []):=aw (cgc gn cg0) cg0;refine aZ [.o] mixed an hG (fn:=Tryz.f101) (c:=ae Tryz.f101) kr kr kr kr (a7 fun a0=>(aF (fun hp=>?_)));dsimp only[aD]at hp;refine⟨nbl rfl,(fun id st=>bif Nat.beq id 0 then some (LCR (ρ:=Unit) (σ:=Unit) 1 [] [0] (fun k_0 s_0=>⟨[(1,.ptr 0 0),(3,.v (.int .i64 (k_0:Int)))],[.cells (cellsOf .district a0)]⟩) (pO a0) pT a0.crops.length () (True) (fun _=>.ret) (fun x_0_0=>⟨[(2,.v (.bool false))],[.dead]⟩) st)else bif Nat.beq id 2 then some (LCR (ρ:=Unit) (σ:=Unit) 1 [] [0] (fun k_1 s_1=>⟨[(1,.ptr 0 0),(4,.v (.int .i64 (k_1:Int)))],[.cells (cellsOf .district a0)]⟩) (pP a0) pT a0.farms.length () (True) (fun _=>.ret) (fun x_1_0=>⟨[(2,.v (.bool false))],[.dead]⟩) st)else none),?_,?_⟩
 ·unfold ae Tryz.f101;simp only[am,true_and,and_true];refine⟨?_,?_⟩
  ·refine jC (a0.crops.length≤bo) mixed an hG kr (fun _=>rfl) (a0.crops.length:Int) rfl gY (fun hb0 k_0 s_0 hlt0 _ hw hc=>⟨L0,ai _,?_⟩) (fun hb0 s_0 hc=>?_) fun hb0 k_0 s_0=>?_
   ·exact bZ (jl [0])
   ·exact b6 (jl [0])
   ·exact zq7
  ·refine jC (a0.farms.length≤bo) mixed an hG kr (fun _=>rfl) (a0.farms.length:Int) rfl gY (fun hb1 k_1 s_1 hlt1 _ hw hc=>⟨L0,ai _,?_⟩) (fun hb1 s_1 hc=>?_) fun hb1 k_1 s_1=>?_
   ·exact bZ (jl [0])
   ·exact b6 (jl [0])
   ·exact Tn
 ·unfold ae Tryz.f101;try unfold pW
  exact zq1
def pY (a0:District)(a1:Right):Bool:=(bif((((!(aL a1.farm 0 (i64.wrap ((a0.farms.length:Int) - 1)))) ||(!(aL a1.reach 0 (i64.wrap ((a0.reaches.length:Int) - 1))))) ||(!(aL a1.since 0 a1.to))) ||(decide (a1.to≥a0.hours)))then false else(bif(a1.kind==1)then(((((a1.reach==0)&&(aL a1.rank 0 1048576))&&(aL a1.litres 1 1073741824))&&(aL a1.length 1 a1.every))&&(decide (a1.every≤a0.hours)))else(bif(a1.kind==2)then((((((a1.rank==0)&&(a1.litres==0))&&(a1.every==0))&&(a1.length==0))&&(a1.since==0))&&(a1.to==(i64.wrap (a0.hours - 1))))else(bif(a1.kind==3)then((((a1.rank==0)&&(a1.litres==0))&&(a1.every==0))&&(a1.length==0))else false))))
@[go_sem] def rq:List SV→Option Con:=(pD .district fun a0=>(pD .right fun a1=>(pE (.det True (.v (.bool (pY a0 a1)))))))
theorem xv:FnOk Tryz.prog 102 rq:=by
 have hG:ConsOk Tryz.prog (mkG [(99,fQ)] []):=aw (cgc gn cg0) cg0;refine aZ [.o] mixed an hG (fn:=Tryz.f102) (c:=ae Tryz.f102) kr kr kr kr (a7 fun a0=>(a7 fun a1=>(aF (fun hp=>?_))));dsimp only[aD]at hp;refine⟨nbl rfl,L0,ai _,?_⟩
 ·unfold ae Tryz.f102;try unfold pY
  exact zq1
@[go_sem] def pZ (a0:District)(k_0:Nat)(s_0:Unit):Unit⊕Unit:=(bif(!(pY a0 (a0.rights.getD k_0 (default:Right))))then .inl ()else .inr ())
@[go_sem] def p8 (a0:District)(k_1:Nat)(s_1:Unit):Unit⊕Unit:=(bif(((!(aL ((a0.duties.getD k_1 (default:Duty)).farm) 0 (i64.wrap ((a0.farms.length:Int) - 1)))) ||(!(aL ((a0.duties.getD k_1 (default:Duty)).reach) 0 (i64.wrap ((a0.reaches.length:Int) - 1))))) ||(!(aL ((a0.duties.getD k_1 (default:Duty)).due) 0 a0.hours)))then .inl ()else .inr ())
def p9 (a0:District):Bool:=(bif(((!(aL a0.hours 1 4096)) ||(!(aL a0.tank.start 0 a0.tank.cap))) ||(decide (a0.tank.cap > 1099511627776)))then false else(bif((!(nk a0.reaches)) ||(!(pW a0)))then false else(match ap (pZ a0) a0.rights.length 0 ()with| .inl x_0_0=>false| .inr s_0=>(match ap (p8 a0) a0.duties.length 0 ()with| .inl x_1_0=>false| .inr s_1=>true))))
def nq (a0:District):Prop:=((((!(aL a0.hours 1 4096)) ||(!(aL a0.tank.start 0 a0.tank.cap))) ||(decide (a0.tank.cap > 1099511627776)))=false→(lu a0.reaches))
@[go_sem] def rt:List SV→Option Con:=(pD .district fun a0=>(pE (.det (nq a0) (.v (.bool (p9 a0))))))
theorem xw:FnOk Tryz.prog 68 rt:=by
 have hG:ConsOk Tryz.prog (mkG [(99,fQ),(100,fun l=>oS (du [.sl .reach] l)),(101,fun l=>rl (du [.st .district] l)),(102,fun l=>rq (du [.st .district,.st .right] l))] []):=aw (cgc gn (cgc (ul.norm [.sl .reach]) (cgc (xu.norm [.st .district]) (cgc (xv.norm [.st .district,.st .right]) cg0)))) cg0;refine aZ [.o] mixed an hG (fn:=Tryz.f68) (c:=ae Tryz.f68) kr kr kr kr (a7 fun a0=>(aF (fun hp=>?_)));dsimp only[aD]at hp;unfold nq at hp;refine⟨nbl rfl,(fun id st=>bif Nat.beq id 0 then some (LCR (ρ:=Unit) (σ:=Unit) 1 [] [0] (fun k_0 s_0=>⟨[(1,.ptr 0 0),(3,.v (.int .i64 (k_0:Int)))],[.cells (cellsOf .district a0)]⟩) (pZ a0) pT a0.rights.length () (True) (fun _=>.ret) (fun x_0_0=>⟨[(2,.v (.bool false))],[.dead]⟩) st)else bif Nat.beq id 2 then some (LCR (ρ:=Unit) (σ:=Unit) 1 [] [0] (fun k_1 s_1=>⟨[(1,.ptr 0 0),(4,.v (.int .i64 (k_1:Int)))],[.cells (cellsOf .district a0)]⟩) (p8 a0) pT a0.duties.length () (True) (fun _=>.ret) (fun x_1_0=>⟨[(2,.v (.bool false))],[.dead]⟩) st)else none),?_,?_⟩
 ·unfold ae Tryz.f68;simp only[am,true_and,and_true];refine⟨?_,?_⟩
  ·refine jC (a0.rights.length≤bo) mixed an hG kr (fun _=>rfl) (a0.rights.length:Int) rfl gY (fun hb0 k_0 s_0 hlt0 _ hw hc=>⟨L0,ai _,?_⟩) (fun hb0 s_0 hc=>?_) fun hb0 k_0 s_0=>?_
   ·exact bZ (jl [0])
   ·exact b6 (jl [0])
   ·exact zq7
  ·refine jC (a0.duties.length≤bo) mixed an hG kr (fun _=>rfl) (a0.duties.length:Int) rfl gY (fun hb1 k_1 s_1 hlt1 _ hw hc=>⟨L0,ai _,?_⟩) (fun hb1 s_1 hc=>?_) fun hb1 k_1 s_1=>?_
   ·exact bZ (jl [0])
   ·exact b6 (jl [0])
   ·exact Tn
 ·unfold ae Tryz.f68;try unfold p9
  exact zq1
def kR (d:District):Int:=(bif(((((decide ((d.reaches.length:Int) > 64)) ||(decide ((d.farms.length:Int) > 600))) ||(decide ((d.crops.length:Int) > 32))) ||(decide ((d.rights.length:Int) > 256))) ||(decide ((d.duties.length:Int) > 256)))then 2 else(bif(!(p9 d))then 191 else 0))
def nr (d:District):Prop:=(d.reaches.length≤bo→((((((decide ((d.reaches.length:Int) > 64)) ||(decide ((d.farms.length:Int) > 600))) ||(decide ((d.crops.length:Int) > 32))) ||(decide ((d.rights.length:Int) > 256))) ||(decide ((d.duties.length:Int) > 256)))=false→(nq d)))
@[go_sem] def ru:List SV→Option Con:=(pD .district fun d=>(pE (.det (nr d) (.v (.int .i64 (kR d))))))
theorem xx:FnOk Tryz.prog 36 ru:=by
 have hG:ConsOk Tryz.prog (mkG [(68,fun l=>rt (du [.st .district] l))] []):=aw (cgc (xw.norm [.st .district]) cg0) cg0;refine aZ [.o] mixed an hG (fn:=Tryz.f36) (c:=ae Tryz.f36) kr kr kr kr (a7 fun d=>(aF (fun hp=>?_)));dsimp only[aD]at hp;unfold nr at hp;refine⟨nbl rfl,L0,ai _,?_⟩
 ·unfold ae Tryz.f36;try unfold kR
  exact zq1


@[go_sem] def tf (l_:List Deed)(k_0:Nat)(s_0:Unit):Unit⊕Unit:=(bif(decide ((((l_.getD k_0 (default:Deed)).parts).length:Int) > 100))then .inl ()else .inr ())
def um (d:District)(l_:List Deed):Bool:=(bif((decide ((l_.length:Int) > 512))&&(decide ((l_.length:Int)≤700)))then(qA d)else(bif((((decide ((l_.length:Int) > 60)) ||(!(qA d))) ||((decide ((d.rights.length:Int) > 40))&&(decide ((d.rights.length:Int)≤256)))) ||((decide ((d.farms.length:Int) > 60))&&(decide ((d.farms.length:Int)≤600))))then false else(match ap (tf l_) l_.length 0 ()with| .inl x_0_0=>false| .inr s_0=>true)))
@[go_sem] def uW:List SV→Option Con:=(pD .district fun d=>(pR .deed fun l_=>(pE (.det True (.v (.bool (um d l_)))))))
theorem Aw:FnOk Tryz.prog 28 uW:=by
 have hG:ConsOk Tryz.prog (mkG [(33,fun l=>uU (du [.st .district] l))] []):=aw (cgc (Au.norm [.st .district]) cg0) cg0;refine aZ [.o] mixed an hG (fn:=Tryz.f28) (c:=ae Tryz.f28) kr kr kr kr (a7 fun d=>(d7 fun l_=>(aF (fun hp=>?_))));dsimp only[aD]at hp;refine⟨nbl rfl,(fun id st=>bif Nat.beq id 0 then some (LCR (ρ:=Unit) (σ:=Unit) 1 [] [0] (fun k_0 s_0=>⟨[(1,.rs .deed l_),(5,.v (.int .i64 (k_0:Int)))],[.dead]⟩) (tf l_) pT l_.length () (True) (fun _=>.ret) (fun x_0_0=>⟨[(4,.v (.bool false))],[.dead]⟩) st)else none),?_,?_⟩
 ·unfold ae Tryz.f28;simp only[am,true_and,and_true]
  ·refine jC (l_.length≤bo) mixed an hG kr (fun _=>rfl) (l_.length:Int) rfl gY (fun hb0 k_0 s_0 hlt0 _ hw hc=>⟨L0,ai _,?_⟩) (fun hb0 s_0 hc=>?_) fun hb0 k_0 s_0=>?_
   ·exact bZ (jl [0])
   ·exact b6 (jl [0])
   ·exact zq7
 ·unfold ae Tryz.f28;try unfold um
  exact zq1
def mT (a0:District)(a1:Claim):Bool:=(bif((((((((decide (a1.right<0)) ||(decide (a1.right≥(a0.rights.length:Int)))) ||(decide (a1.farm<0))) ||(decide (a1.farm≥(a0.farms.length:Int)))) ||(decide (a1.hour<0))) ||(decide (a1.hour≥a0.hours))) ||(decide (a1.litres<1))) ||(decide (a1.litres > 1073741824)))then false else(((a0.rights.getD (Int.toNat a1.right) (default:Right)).kind==1)&&((a0.rights.getD (Int.toNat a1.right) (default:Right)).rank==a1.rank)))
def nt (a0:District)(a1:Claim):Prop:=(((((((((decide (a1.right<0)) ||(decide (a1.right≥(a0.rights.length:Int)))) ||(decide (a1.farm<0))) ||(decide (a1.farm≥(a0.farms.length:Int)))) ||(decide (a1.hour<0))) ||(decide (a1.hour≥a0.hours))) ||(decide (a1.litres<1))) ||(decide (a1.litres > 1073741824)))=false→((0≤a1.right∧a1.right< (a0.rights.length:Int))∧(((a0.rights.getD (Int.toNat a1.right) (default:Right)).kind==1)=true→(0≤a1.right∧a1.right< (a0.rights.length:Int)))))
@[go_sem] def rz:List SV→Option Con:=(pD .district fun a0=>(pD .claim fun a1=>(pE (.det (nt a0 a1) (.v (.bool (mT a0 a1)))))))
theorem xy:FnOk Tryz.prog 37 rz:=by
 have hG:ConsOk Tryz.prog (mkG [] []):=aw cg0 cg0;refine aZ [.o] mixed an hG (fn:=Tryz.f37) (c:=ae Tryz.f37) kr kr kr kr (a7 fun a0=>(a7 fun a1=>(aF (fun hp=>?_))));dsimp only[aD]at hp;unfold nt at hp;refine⟨nbl rfl,L0,ai _,?_⟩
 ·unfold ae Tryz.f37;try unfold mT
  exact zq1
def oy (a:Claim)(b:Claim):Bool:=(bif(a.hour !=b.hour)then(decide (a.hour<b.hour))else(bif(a.rank !=b.rank)then(decide (a.rank<b.rank))else(bif(a.right !=b.right)then(decide (a.right<b.right))else(decide (a.farm<b.farm)))))
@[go_sem] def p_:List SV→Option Con:=(pD .claim fun a=>(pD .claim fun b=>(pE (.det True (.v (.bool (oy a b)))))))
theorem vF:FnOk Tryz.prog 38 p_:=by
 have hG:ConsOk Tryz.prog (mkG [] []):=aw cg0 cg0;refine aZ [.o] mixed an hG (fn:=Tryz.f38) (c:=ae Tryz.f38) kr kr kr kr (a7 fun a=>(a7 fun b=>(aF (fun hp=>?_))));dsimp only[aD]at hp;refine⟨nbl rfl,L0,ai _,?_⟩
 ·unfold ae Tryz.f38;try unfold oy
  exact zq1
@[go_sem] def mw (d:District)(c:List Claim)(k_0:Nat)(s_0:Unit):Unit⊕Unit:=(bif((!(mT d (c.getD k_0 (default:Claim)))) ||((decide ((k_0:Int) > 0))&&(!(oy (c.getD (Int.toNat (i64.wrap ((k_0:Int) - 1))) (default:Claim)) (c.getD k_0 (default:Claim))))))then .inl ()else .inr ())
def ke (d:District)(c:List Claim)(k_0:Nat)(s_0:Unit):Prop:=(c.length≤bo→((nt d (c.getD k_0 (default:Claim)))∧((!(mT d (c.getD k_0 (default:Claim))))=false→((decide ((k_0:Int) > 0))=true→(0≤(i64.wrap ((k_0:Int) - 1))∧(i64.wrap ((k_0:Int) - 1)) < (c.length:Int))))))
def uX (d:District)(c:List Claim):Int:=(bif((kR d) !=0)then(kR d)else(bif(decide ((c.length:Int) > 4096))then 2 else(match ap (mw d c) c.length 0 ()with| .inl x_0_0=>260| .inr s_0=>0)))
def rA (d:District)(c:List Claim):Prop:=((nr d)∧(((kR d) !=0)=false→(c.length≤bo→((decide ((c.length:Int) > 4096))=false→okI (mw d c) (ke d c) c.length 0 ()))))
@[go_sem] def yp:List SV→Option Con:=(pD .district fun d=>(pR .claim fun c=>(pE (.det (rA d c) (.v (.int .i64 (uX d c)))))))
theorem I4:FnOk Tryz.prog 20 yp:=by
 have hG:ConsOk Tryz.prog (mkG [(36,fun l=>ru (du [.st .district] l)),(37,fun l=>rz (du [.st .district,.st .claim] l)),(38,p_)] []):=aw (cgc (xx.norm [.st .district]) (cgc (xy.norm [.st .district,.st .claim]) (cgc vF cg0))) cg0;refine aZ [.o] mixed an hG (fn:=Tryz.f20) (c:=ae Tryz.f20) kr kr kr kr (a7 fun d=>(d7 fun c=>(aF (fun hp=>?_))));dsimp only[aD]at hp;unfold rA at hp;refine⟨nbl rfl,(fun id st=>bif Nat.beq id 0 then some (LCR (ρ:=Unit) (σ:=Unit) 1 [] [0] (fun k_0 s_0=>⟨[(1,.rs .claim c),(2,.ptr 0 0),(6,.v (.int .i64 (k_0:Int)))],[.cells (cellsOf .district d)]⟩) (mw d c) (ke d c) c.length () (True) (fun _=>.ret) (fun x_0_0=>⟨[(4,.v (.int .i64 260))],[.dead]⟩) st)else none),?_,?_⟩
 ·unfold ae Tryz.f20;simp only[am,true_and,and_true]
  ·refine jC (c.length≤bo) mixed an hG kr (fun _=>rfl) (c.length:Int) rfl gY (fun hb0 k_0 s_0 hlt0 hq0 hw hc=>⟨L0,ai _,?_⟩) (fun hb0 s_0 hc=>?_) fun hb0 k_0 s_0=>?_
   ·unfold ke at hq0;try simp only[hw,Int.toNat_natCast]at hq0
    exact bZ (jl [0])
   ·exact b6 (jl [0])
   ·exact zq7
 ·unfold ae Tryz.f20;try unfold uX
  exact zq1
@[go_sem] def iO (a:List Claim)(b:List Claim)(k_0:Nat)(s_0:Unit):Unit⊕Unit:=(bif(!(((a.getD k_0 (default:Claim)).right==(b.getD k_0 (default:Claim)).right)&&(((a.getD k_0 (default:Claim)).farm==(b.getD k_0 (default:Claim)).farm)&&(((a.getD k_0 (default:Claim)).hour==(b.getD k_0 (default:Claim)).hour)&&(((a.getD k_0 (default:Claim)).litres==(b.getD k_0 (default:Claim)).litres)&&((a.getD k_0 (default:Claim)).rank==(b.getD k_0 (default:Claim)).rank))))))then .inl ()else .inr ())
def lv (a:List Claim)(b:List Claim)(k_0:Nat)(s_0:Unit):Prop:=(a.length≤bo→(0≤(k_0:Int)∧(k_0:Int) < (b.length:Int)))
def my (a:List Claim)(b:List Claim):Bool:=(bif((a.length:Int) !=(b.length:Int))then false else(match ap (iO a b) a.length 0 ()with| .inl x_0_0=>false| .inr s_0=>true))
def lP (a:List Claim)(b:List Claim):Prop:=(a.length≤bo→(b.length≤bo→(((a.length:Int) !=(b.length:Int))=false→okI (iO a b) (lv a b) a.length 0 ())))
@[go_sem] def tg:List SV→Option Con:=(pR .claim fun a=>(pR .claim fun b=>(pE (.det (lP a b) (.v (.bool (my a b)))))))
theorem yq:FnOk Tryz.prog 16 tg:=by
 have hG:ConsOk Tryz.prog (mkG [] []):=aw cg0 cg0;refine aZ [.o] mixed an hG (fn:=Tryz.f16) (c:=ae Tryz.f16) kr kr kr kr (d7 fun a=>(d7 fun b=>(aF (fun hp=>?_))));dsimp only[aD]at hp;unfold lP at hp;refine⟨nbl rfl,(fun id st=>bif Nat.beq id 0 then some (LCR (ρ:=Unit) (σ:=Unit) 0 [] [] (fun k_0 s_0=>⟨[(0,.rs .claim a),(1,.rs .claim b),(5,.v (.int .i64 (k_0:Int)))],[]⟩) (iO a b) (lv a b) a.length () (True) (fun _=>.ret) (fun x_0_0=>⟨[(4,.v (.bool false))],[]⟩) st)else none),?_,?_⟩
 ·unfold ae Tryz.f16;simp only[am,true_and,and_true]
  ·refine jC (a.length≤bo) mixed an hG kr (fun _=>rfl) (a.length:Int) rfl gY (fun hb0 k_0 s_0 hlt0 hq0 hw hc=>⟨L0,ai _,?_⟩) (fun hb0 s_0 hc=>?_) fun hb0 k_0 s_0=>?_
   ·unfold lv at hq0;try simp only[hw,Int.toNat_natCast]at hq0
    exact bZ (jl [])
   ·exact b6 (jl [])
   ·exact zq7
 ·unfold ae Tryz.f16;try unfold my
  exact zq1
@[go_sem] def eL (a:List Block)(b:List Block)(k_0:Nat)(s_0:Unit):Unit⊕Unit:=(bif(!(((a.getD k_0 (default:Block)).right==(b.getD k_0 (default:Block)).right)&&(((a.getD k_0 (default:Block)).farm==(b.getD k_0 (default:Block)).farm)&&(((a.getD k_0 (default:Block)).hour==(b.getD k_0 (default:Block)).hour)&&((a.getD k_0 (default:Block)).reach==(b.getD k_0 (default:Block)).reach)))))then .inl ()else .inr ())
def gD (a:List Block)(b:List Block)(k_0:Nat)(s_0:Unit):Prop:=(a.length≤bo→(0≤(k_0:Int)∧(k_0:Int) < (b.length:Int)))
def eX (a:List Block)(b:List Block):Bool:=(bif((a.length:Int) !=(b.length:Int))then false else(match ap (eL a b) a.length 0 ()with| .inl x_0_0=>false| .inr s_0=>true))
def ff (a:List Block)(b:List Block):Prop:=(a.length≤bo→(b.length≤bo→(((a.length:Int) !=(b.length:Int))=false→okI (eL a b) (gD a b) a.length 0 ())))
@[go_sem] def mz:List SV→Option Con:=(pR .block fun a=>(pR .block fun b=>(pE (.det (ff a b) (.v (.bool (eX a b)))))))
theorem qP:FnOk Tryz.prog 17 mz:=by
 have hG:ConsOk Tryz.prog (mkG [] []):=aw cg0 cg0;refine aZ [.o] mixed an hG (fn:=Tryz.f17) (c:=ae Tryz.f17) kr kr kr kr (d7 fun a=>(d7 fun b=>(aF (fun hp=>?_))));dsimp only[aD]at hp;unfold ff at hp;refine⟨nbl rfl,(fun id st=>bif Nat.beq id 0 then some (LCR (ρ:=Unit) (σ:=Unit) 0 [] [] (fun k_0 s_0=>⟨[(0,.rs .block a),(1,.rs .block b),(5,.v (.int .i64 (k_0:Int)))],[]⟩) (eL a b) (gD a b) a.length () (True) (fun _=>.ret) (fun x_0_0=>⟨[(4,.v (.bool false))],[]⟩) st)else none),?_,?_⟩
 ·unfold ae Tryz.f17;simp only[am,true_and,and_true]
  ·refine jC (a.length≤bo) mixed an hG kr (fun _=>rfl) (a.length:Int) rfl gY (fun hb0 k_0 s_0 hlt0 hq0 hw hc=>⟨L0,ai _,?_⟩) (fun hb0 s_0 hc=>?_) fun hb0 k_0 s_0=>?_
   ·unfold gD at hq0;try simp only[hw,Int.toNat_natCast]at hq0
    exact bZ (jl [])
   ·exact b6 (jl [])
   ·exact zq7
 ·unfold ae Tryz.f17;try unfold eX
  exact zq1
def lZ (d:District)(l_:List Deed)(fr:Int)(to:Int):Bool:=(bif((!(um d l_)) ||((decide ((d.rights.length:Int) > 40))&&(decide ((d.rights.length:Int)≤256))))then false else(((((decide (fr<0)) ||(decide (fr > to))) ||(decide (to≥d.hours))) ||(decide (d.hours > 4096))) ||(decide ((i64.wrap (to - fr)) <60))))
@[go_sem] def uY:List SV→Option Con:=(pD .district fun d=>(pR .deed fun l_=>(pI fun fr=>(pI fun to=>(pE (.det True (.v (.bool (lZ d l_ fr to)))))))))
theorem Ax:FnOk Tryz.prog 11 uY:=by
 have hG:ConsOk Tryz.prog (mkG [(28,fun l=>uW (du [.st .district,.sl .deed] l))] []):=aw (cgc (Aw.norm [.st .district,.sl .deed]) cg0) cg0;refine aZ [.o] mixed an hG (fn:=Tryz.f11) (c:=ae Tryz.f11) kr kr kr kr (a7 fun d=>(d7 fun l_=>(b_ fun fr=>(b_ fun to=>(aF (fun hp=>?_))))));dsimp only[aD]at hp;refine⟨nbl rfl,L0,ai _,?_⟩
 ·unfold ae Tryz.f11;try unfold lZ
  exact zq1
def bA (x:Right)(kind:Int)(farm:Int)(reach:Int)(hour:Int):Bool:=(((((x.kind==kind)&&(x.farm==farm))&&(x.reach==reach))&&(decide (x.since≤hour)))&&(decide (hour≤x.to)))
@[go_sem] def qa (d:District)(farm:Int)(reach:Int)(hour:Int)(k_0:Nat)(s_0:Unit):Unit⊕Unit:=(bif(bA (d.rights.getD k_0 (default:Right)) 3 farm reach hour)then .inl ()else .inr ())
def mU (d:District)(farm:Int)(reach:Int)(hour:Int):Bool:=(match ap (qa d farm reach hour) d.rights.length 0 ()with| .inl x_0_0=>true| .inr s_0=>false)
@[go_sem] def th (d:District)(farm:Int)(reach:Int)(hour:Int)(k_0:Nat)(s_0:Unit):Unit⊕Unit:=(bif(((d.rights.getD k_0 (default:Right)).farm !=farm)&&(bA (d.rights.getD k_0 (default:Right)) 2 ((d.rights.getD k_0 (default:Right)).farm) reach hour))then .inl ()else .inr ())
def qB (d:District)(farm:Int)(reach:Int)(hour:Int):Bool:=(match ap (th d farm reach hour) d.rights.length 0 ()with| .inl x_0_0=>(mU d farm reach hour) | .inr s_0=>true)
end Go.Sx
end
section
namespace Go.Sx
open Go.RowKit
open IntKind (i64)
abbrev RF:= { r:Nat→Res // ∀ k,(r k).n=k}
def GI (items:List (List SV))(r:RF):List SV→Res→Option YCon:=itY items r.1
@[go_sem] theorem U6 {items:List (List SV)}{r:RF}{k:Nat}{args:List SV}:GI items r args (r.1 (k+1))=some (BV (items[k]? =some args) r.1 (k+2)):=DQ r.2 k args
section
variable {ρ σ:Type}
def lcy (pre:Prop)(run:ρ⊕σ)(exE:ρ→Ex)(outE:ρ→St)(outN:σ→St)(stp:St):LCon where
 α:=Option (ρ⊕σ)
 pre:=pre
 post:=fun|none=>True|some r=>r=run
 ex:=fun|none=>.ret|some (.inl x) =>exE x|some (.inr _) =>.normal
 out:=fun|none=>stp|some (.inl x) =>outE x|some (.inr s) =>outN s
def LCY (m:Nat)(ns:List NLoc)(js:List Nat)(D:Nat→σ→St)(step:Nat→σ→ρ⊕σ)(p:Nat→σ→Prop)(n:Nat)(s0:σ)(B:Prop)(exE:ρ→Ex)(outE:ρ→St)(stp:St)(st:St):LCon:=
 lcy (ov m ns js st (D 0 s0)∧B∧okI step p n 0 s0) (ap step n 0 s0) exE outE (D n) stp
variable {m:Nat}{ns:List NLoc}{js:List Nat}{step:Nat→σ→ρ⊕σ}{p:Nat→σ→Prop}{n:Nat}{s0:σ}{B:Prop}{exE:ρ→Ex}{outE:ρ→St}{stp st:St}{Q:Ex→St→Prop}{D:Nat→σ→St}
theorem GJ {pre:Prop}{run:ρ⊕σ}{outN:σ→St}:mc Q (some (lcy pre run exE outE outN stp))=(pre∧(∀ x,run=.inl x→Q (exE x) (outE x))∧(∀ s,run=.inr s→Q .normal (outN s))∧Q .ret stp):=by
 apply propext;constructor
 ·rintro⟨h1,h2⟩;exact⟨h1,fun x hx=>h2 (some (.inl x)) hx.symm,fun s hs=>h2 (some (.inr s)) hs.symm,h2 none trivial⟩
 ·rintro⟨h1,h2,h3,h4⟩;refine⟨h1,fun r hr=>?_⟩;match r,hr with
  |none,_=>exact h4
  |some (.inl x),hr=>exact h2 x hr.symm
  |some (.inr s),hr=>exact h3 s hr.symm
@[go_sem] theorem Rm:mc Q (some (LCY m ns js D step p n s0 B exE outE stp st))=((ov m ns js st (D 0 s0)∧B∧okI step p n 0 s0)∧(∀ x,ap step n 0 s0=.inl x→Q (exE x) (outE x))∧(∀ s,ap step n 0 s0=.inr s→Q .normal (D n s))∧Q .ret stp):=GJ
def cY (step:Nat→σ→ρ⊕σ)(exE:ρ→Ex)(outE:ρ→St)(D:Nat→σ→St)(stp:St)(m id k:Nat)(s:σ):Ex→St→Prop
 | .normal,st=>nQ D m k st (step k s)
 | .exit j,st=>jB exE outE m (bif Nat.beq j id then .normal else .exit j) st (step k s)
 | .ret,st=>jB exE outE m .ret st (step k s)∨ga stp m st
 | .pan x,st=>jB exE outE m (.pan x) st (step k s)
variable {id k j:Nat}{s:σ}{x:Value}{e e':Ex}
@[go_sem] theorem Ro:cY step exE outE D stp m id k s .normal st=nQ D m k st (step k s):=(rfl)
@[go_sem] theorem U7:cY step exE outE D stp m id k s (.exit j) st=jB exE outE m (bif Nat.beq j id then .normal else .exit j) st (step k s):=(rfl)
@[go_sem] theorem VX:cY step exE outE D stp m id k s .ret st=(jB exE outE m .ret st (step k s)∨ga stp m st):=(rfl)
@[go_sem] theorem VY:cY step exE outE D stp m id k s (.pan x) st=jB exE outE m (.pan x) st (step k s):=(rfl)
@[congr] theorem To {st':St}(h:st=st')(he:e=e'):cY step exE outE D stp m id k s e st=cY step exE outE D stp m id k s e' st':=by rw[h,he]
end
section
variable {P:Program}{ρ σ:Type}{ts:Tis}{G:Cons}{ro:Option Nat}{N:Nat}{id:Nat}{c:Code}{C:St→Option LCon}{m:Nat}{ns:List NLoc}{js:List Nat}{step:Nat→σ→ρ⊕σ}{p:Nat→σ→Prop}{n:Nat}{s0:σ}{exE:ρ→Ex}{outE:ρ→St}{D:Nat→σ→St}{stp:St}
theorem OZ {n0:Nat}(hn0:n0=m){s:σ}{k:Nat}(hlt:k<n){I:Nat×σ→Prop}{μ:Nat×σ→Nat}{outN:σ→St}{pre:Prop}{run:ρ⊕σ}
  (hI:∀ s',step k s=.inr s'→I (k+1,s')∧μ (k+1,s') <μ (k,s)) (hx:∀ x,step k s=.inl x→run=.inl x):
  ∀ e st',cY step exE outE D stp m id k s e st'→oh (fun x:Nat×σ=>D x.1 x.2) I μ n0 (k,s) id (fun e st'=>∃ r js,(lcy pre run exE outE outN stp).post r∧(lcy pre run exE outE outN stp).ex r=e∧n0≤((lcy pre run exE outE outN stp).out r).h.length∧Sub js n0 st' ((lcy pre run exE outE outN stp).out r)) e st':=by
 subst hn0;have hfin:∀ e st',jB exE outE n0 e st' (step k s)→∃ r js,(lcy pre run exE outE outN stp).post r∧(lcy pre run exE outE outN stp).ex r=e∧n0≤((lcy pre run exE outE outN stp).out r).h.length∧Sub js n0 st' ((lcy pre run exE outE outN stp).out r):=by
  intro e st' q;cases hs:step k s with
  |inr s'=>rw[hs]at q;exact q.elim
  |inl x=>
   rw[hs]at q;obtain⟨q2,js,q3,q4⟩:=q;exact⟨some (.inl x),js,(hx x hs).symm,q2,q3,q4⟩
 intro e st' hq;cases e with
 |normal=>
  change nQ D n0 k st' (step k s)at hq;cases hs:step k s with
  |inl x=>rw[hs]at hq;exact hq.elim
  |inr s'=>
   rw[hs]at hq;obtain⟨js,q3,q4⟩:=hq;obtain⟨i1,i2⟩:=hI s' hs;exact⟨(k+1,s'),js,i1,i2,q3,q4⟩
 |exit j=>
  change jB exE outE n0 (bif Nat.beq j id then .normal else .exit j) st' (step k s)at hq;show bif Nat.beq j id then _ else _;cases hb:Nat.beq j id with
  |true=>rw[hb]at hq;exact hfin _ _ hq
  |false=>rw[hb]at hq;exact hfin _ _ hq
 |ret=>
  rcases hq with hq|hq
  ·exact hfin _ _ hq
  ·obtain⟨js,q3,q4⟩:=hq;exact⟨none,js,trivial,rfl,q3,q4⟩
 |pan x=>exact hfin _ _ hq
theorem B5 {B:Prop}(hm:P.follows .mixedOrders=true)(hts:ts.ok P)(hG:ConsOk P G)(hc:cj N c=true)(hC:∀ st,C st=some (LCY m ns js D step p n s0 B exE outE stp st))(M:Int)(hn:n=M.toNat)(hB:B→M<9223372036854775808)
  (h:B→∀ k s,k<n→p k s→i64.wrap ((k:Int)+1)=((k+1:Nat):Int)→decide ((k:Int) <M)=true→∃ L,am P ro N L c∧exec ts G L c (D k s) (cY step exE outE D stp m id k s))
  (h2:B→∀ s,decide ((n:Int) <M)=false→exec ts G L0 c (D n s) (cZ (D n s) m id)):iD P ro N id (.loop c) C:=by
 refine sY hm hts hG hc fun st lc hC' hp=>?_;rw[hC st]at hC';cases hC';obtain⟨⟨hlen,hok,hle,hsub⟩,hB',h1⟩:=hp;refine⟨Nat×σ,fun x=>D x.1 x.2,fun x=>x.1≤n∧okI step p (n - x.1) x.1 x.2∧ap step (n - x.1) x.1 x.2=ap step n 0 s0,fun x=>n - x.1,(0,s0),mkN ns st,js,⟨Nat.zero_le _,by simpa using h1,by simp⟩,sb ns st st (.refl _) hok,by rw[hlen];exact hle,by rw[hlen];exact hsub,?_⟩;rintro⟨k,s⟩ ⟨hk,hJ,hrun⟩;simp only at hk hJ hrun;rcases Nat.lt_or_ge k n with hlt|hge
 ·rw[show n - k=(n - k - 1)+1 by omega]at hrun hJ;obtain⟨L,hl,hex⟩:=h hB' k s hlt hJ.1 (Iw (hn▸hlt) (hB hB')) (decide_eq_true (by omega));have hI:∀ s',step k s=.inr s'→okI step p (n - (k+1)) (k+1) s'∧ap step (n - (k+1)) (k+1) s'=ap step n 0 s0:=fun s' hs=>by
   have:=hJ.2 s' hs;rw[show n - k - 1=n - (k+1) by omega]at this hrun;simp only[ap,hs]at hrun;exact⟨this,hrun⟩
  have hx:∀ x,step k s=.inl x→ap step n 0 s0=.inl x:=fun x hs=>by
   simp only[ap,hs]at hrun;exact hrun.symm
  exact⟨L,_,hl,fun e st' q=>OZ hlen hlt (fun s' hs=>⟨⟨hlt,hI s' hs⟩,by simp only;omega⟩) hx e st' q,hex⟩
 ·have hkn:k=n:=by omega
  subst hkn;have hex:=h2 hB' s (by rw[decide_eq_false_iff_not];omega);refine⟨L0,_,ai c,fun e st' hq=>?_,hex⟩;simp only[Nat.sub_self,ap]at hrun;cases e with
  |exit j=>
   change bif Nat.beq j id then ga (D k s) m st' else False at hq;show bif Nat.beq j id then _ else _;cases hb:Nat.beq j id with
   |true=>
    rw[hb]at hq;obtain⟨js,q3,q4⟩:=hq;exact⟨some (.inr s),js,hrun,rfl,by rw[hlen];exact q3,by rw[hlen];exact q4⟩
   |false=>rw[hb]at hq;exact hq.elim
  |_=>exact hq.elim
end
def kS (n:Nat):List Ob:=List.replicate n .dead
def I5 (items:List (List SV))(r:RF)(n:Nat):Ex→St→Prop
 | .normal,st=>ga ⟨[],.ab (r.1 0)::kS n⟩ (n+1) ⟨[],st.h⟩∨ga ⟨[],.ab (r.1 (items.length+1))::kS n⟩ (n+1) ⟨[],st.h⟩
 | .ret,st=>ga ⟨[],.ab (r.1 0)::kS n⟩ (n+1) ⟨[],st.h⟩∨ga ⟨[],.ab (r.1 (items.length+1))::kS n⟩ (n+1) ⟨[],st.h⟩
 |_,_=>False
section
variable {items:List (List SV)}{r:RF}{n:Nat}{st:St}{e e':Ex}
@[go_sem] theorem LZ:I5 items r n .normal st=(ga ⟨[],.ab (r.1 0)::kS n⟩ (n+1) ⟨[],st.h⟩∨ga ⟨[],.ab (r.1 (items.length+1))::kS n⟩ (n+1) ⟨[],st.h⟩):=(rfl)
@[go_sem] theorem Rp:I5 items r n .ret st=(ga ⟨[],.ab (r.1 0)::kS n⟩ (n+1) ⟨[],st.h⟩∨ga ⟨[],.ab (r.1 (items.length+1))::kS n⟩ (n+1) ⟨[],st.h⟩):=(rfl)
@[go_sem] theorem U8:kS 0=[]:=(rfl)
@[go_sem] theorem U9:kS 1=[.dead]:=(rfl)
@[go_sem] theorem U_:kS 2=[.dead,.dead]:=(rfl)
@[go_sem] theorem Va:kS 3=[.dead,.dead,.dead]:=(rfl)
@[go_sem] theorem Vb:kS 4=[.dead,.dead,.dead,.dead]:=(rfl)
end
theorem B6 {js:List Nat}{n0:Nat}{h h':List Ob}(q:Sub js n0 ⟨[],h⟩ ⟨[],h'⟩):Sub js n0 ⟨[(0,.tup [])],h⟩ ⟨[(0,.tup [])],h'⟩:=by
 refine⟨q.1,?_,q.2.2⟩;simp only[F4,lk];exact⟨⟨rfl,rfl⟩,trivial⟩
open Classical in
theorem I6 {P:Program} {ts:Tis} {G:RF→Cons} (hm:P.follows .mixedOrders=true) (hts:ts.ok P) {f:FuncId} {fn:Func} {c:Code} (hf:P.funcs[f]? =some fn) (hb:fn.body=some c) (hname:(fn.name== "runtime.NumGoroutine")=false) (hc:cj fn.ntmps c=true) (hr:fn.results.toList=[])
  {items:List (List SV)} {mk:SV→List SV} {hs:List Ob} {n:Nat} (hn:hs.length=n)
  (h:∀ r:RF,YOk P (GI items r)→ConsOk P (G r)∧(mk (.os 0)).length≤fn.ntmps∧∃ L,am P none fn.ntmps L c∧exec ts (G r) L c ⟨ju 0 (mk (.os 0)),.ab (r.1 1)::hs⟩ (I5 items r n))
  (he:∀ (args:Array Value) (w:World),(callFunc f args).run P w=.ok (.enter f args) w):Aq P f mk hs items:=by
 refine Is (fun r0 hr0 hy=>?_) he;obtain⟨hG,h1,L,h2,h3⟩:=h ⟨r0,hr0⟩ hy;refine⟨fun l o=>if l=mk (.os 0)∧o=.ab (r0 1)::hs then some { α:=Bool,pre:=True,post:=fun _=>True,res:=fun b=>.ret (.tup []) (.ab (r0 (if b then items.length+1 else 0))::kS n)}else none,?_,_,if_pos ⟨rfl,rfl⟩,trivial,fun b _=>⟨_,_,_,rfl,by cases b <;>simp⟩⟩;refine xb hm hts hG hf hb hname hc fun l o con hC _=>?_;split at hC
 rotate_left
 ·cases hC
 rename_i hlo;obtain⟨rfl,rfl⟩:=hlo;cases hC;refine⟨h1,L,_,h2,fun e st hq=>?_,h3⟩;have key:∀ st:St,(ga ⟨[],.ab (r0 0)::kS n⟩ (n+1) ⟨[],st.h⟩∨ga ⟨[],.ab (r0 (items.length+1))::kS n⟩ (n+1) ⟨[],st.h⟩)→sE (Ob.ab (r0 1)::hs).length { α:=Bool,pre:=True,post:=fun _=>True,res:=fun b=>.ret (.tup []) (.ab (r0 (if b then items.length+1 else 0))::kS n)} (lI (jX ts st fn.results.toList)) st.h:=fun st q=>by
  rw[hr];show ∃ r s' h' js,_;rcases q with⟨js,q1,q2⟩ | ⟨js,q1,q2⟩
  ·exact⟨false,_,_,js,trivial,rfl,by rw[List.length_cons,hn];exact q1,by rw[List.length_cons,hn];exact B6 q2⟩
  ·exact⟨true,_,_,js,trivial,rfl,by rw[List.length_cons,hn];exact q1,by rw[List.length_cons,hn];exact B6 q2⟩
 cases e with
 |normal=>exact key st hq
 |ret=>exact key st hq
 |exit j=>exact hq.elim
 |pan x=>exact hq.elim
section
variable {ρ σ τ:Type}
theorem un {step:τ→σ→ρ⊕σ}:∀ {a b:List τ} {s s':σ},dR step a s=.inr s'→dR step (a++b) s=dR step b s'
 | [],_,_,_,h=>by simp only[dR,Sum.inr.injEq]at h;subst h;rfl
 |x::a,b,s,s',h=>by
  simp only[List.cons_append,dR]at h ⊢;cases hs:step x s with
  |inl y=>rw[hs]at h;cases h
  |inr s1=>rw[hs]at h;simp only at h ⊢;exact un h
theorem B7 {step:τ→σ→ρ⊕σ}{p:τ→σ→Prop}:∀ {a b:List τ} {s s':σ},dR step a s=.inr s'→okL step p (a++b) s→okL step p b s'
 | [],_,_,_,h,hk=>by simp only[dR,Sum.inr.injEq]at h;subst h;exact hk
 |x::a,b,s,s',h,hk=>by
  simp only[List.cons_append,dR]at h hk;cases hs:step x s with
  |inl y=>rw[hs]at h;cases h
  |inr s1=>rw[hs]at h;exact B7 h (hk.2 s1 hs)
def LCP (m:Nat)(ns:List NLoc)(js:List Nat)(D:List Nat→Option Nat→σ→St)(step:τ→σ→ρ⊕σ)(p:τ→σ→Prop)(l:List τ)(s0:σ)(exE:ρ→Ex)(outE:ρ→St)(outN:σ→St)(st:St):LCon where
 α:=ρ⊕σ
 pre:=ov m ns js st (D (List.range l.length) none s0)∧∀ L,L.Perm l→okL step p L s0
 post:=fun r=>∃ L,L.Perm l∧dR step L s0=r
 ex:=fun| .inl x=>exE x| .inr _=>.normal
 out:=fun| .inl x=>outE x| .inr s=>outN s
variable {m:Nat}{ns:List NLoc}{js:List Nat}{step:τ→σ→ρ⊕σ}{p:τ→σ→Prop}{l:List τ}{s0:σ}{exE:ρ→Ex}{outE:ρ→St}{outN:σ→St}{st:St}{Q:Ex→St→Prop}{D:List Nat→Option Nat→σ→St}
@[go_sem] theorem Rq:mc Q (some (LCP m ns js D step p l s0 exE outE outN st))=((ov m ns js st (D (List.range l.length) none s0)∧∀ L,L.Perm l→okL step p L s0)∧∀ L,L.Perm l→(∀ x,dR step L s0=.inl x→Q (exE x) (outE x))∧∀ s,dR step L s0=.inr s→Q .normal (outN s)):=by
 apply propext;constructor
 ·rintro⟨h1,h2⟩;exact⟨h1,fun L hL=>⟨fun x hx=>h2 (.inl x) ⟨L,hL,hx⟩,fun s hs=>h2 (.inr s) ⟨L,hL,hs⟩⟩⟩
 ·rintro⟨h1,h2⟩;refine⟨h1,fun r ⟨L,hL,hr⟩ =>?_⟩;cases r with
  |inl x=>exact(h2 L hL).1 x hr
  |inr s=>exact(h2 L hL).2 s hr
variable {P:Program}{ts:Tis}{G:Cons}{ro:Option Nat}{N id:Nat}{c:Code}{C:St→Option LCon}
theorem I7 (d:τ)(it:Nat)(hm:P.follows .mixedOrders=true)(hts:ts.ok P)(hG:ConsOk P G)(hc:cj N c=true)(hC:∀ st,C st=some (LCP m ns js D step p l s0 exE outE outN st))
  (h:∀ left cur s,(∀ j,j∈left→j<l.length∧p (l.getD j d) s)→∃ L,am P ro N L c∧exec ts G L c (D left cur s) (cM step l d exE outE outN D m id it left s)):iD P ro N id (.loop c) C:=by
 refine sY hm hts hG hc fun st lc hC' hp=>?_;rw[hC st]at hC';cases hC';obtain⟨⟨hlen,hok,hle,hsub⟩,hO⟩:=hp;subst hlen;have hfix:∀ q:List Nat,q.Perm (List.range l.length)→(q.map fun j=>l.getD j d).Perm l:=fun q hq=>by
  have:=hq.map (fun j=>l.getD j d)
  rwa[xj]at this
 refine⟨List Nat×Option Nat×σ,fun x=>D x.1 x.2.1 x.2.2,fun x=>∃ q:List Nat,(q++x.1).Perm (List.range l.length)∧dR step (q.map fun j=>l.getD j d) s0=.inr x.2.2,fun x=>x.1.length,(List.range l.length,none,s0),mkN ns st,js,⟨[],.refl _,rfl⟩,sb ns st st (.refl _) hok,hle,hsub,?_⟩;rintro⟨left,cur,s⟩ ⟨q,hq,hrun⟩;simp only at hq hrun;have hmem:∀ j,j∈left→(q++j::left.erase j).Perm (List.range l.length):=fun j hj=>((List.perm_cons_erase hj).symm.append_left q).trans hq;have hp0:∀ j,j∈left→j<l.length∧p (l.getD j d) s:=fun j hj=>by
  refine⟨List.mem_range.1 (hq.mem_iff.1 (List.mem_append_right _ hj)),?_⟩;have:=hO _ (hfix _ (hmem j hj));rw[List.map_append]at this;exact(B7 hrun this).1
 obtain⟨L,hl,hex⟩:=h left cur s hp0;refine⟨L,_,hl,?_,hex⟩;have hfin:∀ e st' o,exC step l d exE outE st.h.length left s e st' o→∃ r js,(LCP st.h.length ns js D step p l s0 exE outE outN st).post r∧(LCP st.h.length ns js D step p l s0 exE outE outN st).ex r=e∧st.h.length≤((LCP st.h.length ns js D step p l s0 exE outE outN st).out r).h.length∧Sub js st.h.length st' ((LCP st.h.length ns js D step p l s0 exE outE outN st).out r):=by
  intro e st' o z;cases o with
  |none=>exact z.elim
  |some j=>
   obtain⟨hj,z⟩:=z;cases hs:step (l.getD j d) s with
   |inr s'=>rw[hs]at z;exact z.elim
   |inl x=>
    rw[hs]at z;obtain⟨q2,js2,q3,q4⟩:=z;refine⟨.inl x,js2,⟨_,hfix _ (hmem j hj),?_⟩,q2,q3,q4⟩;rw[List.map_append,un hrun];simp only[List.map_cons,dR,hs]
 intro e st' hz;cases e with
 |normal=>
  change nxC step l d D st.h.length left s st' (sa (ah st'.h it))at hz;cases ho:sa (ah st'.h it)with
  |none=>rw[ho]at hz;exact hz.elim
  |some j=>
   rw[ho]at hz;obtain⟨hj,hz⟩:=hz;cases hs:step (l.getD j d) s with
   |inl x=>rw[hs]at hz;exact hz.elim
   |inr s'=>
    rw[hs]at hz;obtain⟨js2,q3,q4⟩:=hz;refine⟨(left.erase j,some j,s'),js2,⟨q++[j],?_,?_⟩,?_,q3,q4⟩
    ·rw[List.append_assoc];exact hmem j hj
    ·rw[List.map_append,un hrun];simp only[List.map_cons,List.map_nil,dR,hs]
    ·have:=List.length_pos_of_mem hj;simp only[List.length_erase_of_mem hj];omega
 |exit j=>
  have hz':(bif Nat.beq j id then(left=[]→ga (outN s) st.h.length st')∧(left≠[]→exC step l d exE outE st.h.length left s .normal st' (sa (ah st'.h it)))else exC step l d exE outE st.h.length left s (.exit j) st' (sa (ah st'.h it))):=hz;show bif Nat.beq j id then _ else _;cases hb:Nat.beq j id with
  |true=>
   rw[hb]at hz';simp only[cond_true]at hz' ⊢;by_cases hlt:left=[]
   ·obtain⟨js2,q3,q4⟩:=hz'.1 hlt;refine⟨.inr s,js2,⟨_,hfix q (by rw[hlt,List.append_nil]at hq;exact hq),hrun⟩,rfl,q3,q4⟩
   ·exact hfin _ _ _ (hz'.2 hlt)
  |false=>
   rw[hb]at hz';exact hfin _ _ _ hz'
 |ret=>exact hfin _ _ _ hz
 |pan x=>exact hfin _ _ _ hz
end
theorem fkY {st2 st:St}{n0:Nat}{js:List Nat}(_:JL js)(h1:n0≤st2.h.length:=by(first|(show _≤_;decide) |(simp only[*,go_sem,Nat.reduceBEq,Nat.reduceLeDiff,Nat.reduceAdd,Nat.reduceSub,Nat.reduceMul,Int.reduceLE,Int.reduceLT,Int.reduceToNat,Int.reduceNeg,reduceCtorEq];done) |(simp only[*,go_sem,Nat.reduceBEq,Nat.reduceLeDiff,Nat.reduceAdd,Nat.reduceSub,Nat.reduceMul,Int.reduceLE,Int.reduceLT,Int.reduceToNat,Int.reduceNeg,reduceCtorEq];(repeat' (first|with_reducible refine And.intro ?_ ?_|((with_reducible show _≠_);first|assumption|omega|(simp_all [dy,fj];done) |grind) |with_reducible intro _)) <;>(first|rfl|decide|assumption|omega|(simp_all [dy,fj];done) |fail))))(h2:Sub js n0 st st2:=by(first|(show _≤_;decide) |(simp only[*,go_sem,Nat.reduceBEq,Nat.reduceLeDiff,Nat.reduceAdd,Nat.reduceSub,Nat.reduceMul,Int.reduceLE,Int.reduceLT,Int.reduceToNat,Int.reduceNeg,reduceCtorEq];done) |(simp only[*,go_sem,Nat.reduceBEq,Nat.reduceLeDiff,Nat.reduceAdd,Nat.reduceSub,Nat.reduceMul,Int.reduceLE,Int.reduceLT,Int.reduceToNat,Int.reduceNeg,reduceCtorEq];(repeat' (first|with_reducible refine And.intro ?_ ?_|((with_reducible show _≠_);first|assumption|omega|(simp_all [dy,fj];done) |grind) |with_reducible intro _)) <;>(first|rfl|decide|assumption|omega|(simp_all [dy,fj];done) |fail)))):ga st2 n0 st:=As js h1 h2
theorem O0 {α:Type 1}{G:List SV→α→Prop}{X:SV}{k:List SV→Option α}(h:∀ l c,k l=some c→G (X::l) c):∀ l c,pQ X k l=some c→G l c:=fun l c hc=>by
 obtain⟨r,rfl,h1⟩:=xi hc;exact h r c h1
end Go.Sx
end
section
namespace Go.Sx
open Go.Proofs
open IntKind (i64 u64)
def kf (n:Int)(d:Int):Int:=(i64.wrap (Int.tdiv (i64.wrap (n - (Int.tmod (i64.wrap ((Int.tmod n d)+d)) d))) d))
def lQ (n:Int)(d:Int):Prop:=(d≠0∧(d≠0∧d≠0))
@[go_sem] def tj:List SV→Option Con:=(pI fun n=>(pI fun d=>(pE (.det (lQ n d) (.v (.int .i64 (kf n d)))))))
theorem yr:FnOk Tryz.prog 166 tj:=by
 have hG:ConsOk Tryz.prog (mkG [] []):=aw cg0 cg0;refine aZ [.o] mixed an hG (fn:=Tryz.f166) (c:=ae Tryz.f166) kr kr kr kr (b_ fun n=>(b_ fun d=>(aF (fun hp=>?_))));dsimp only[aD]at hp;unfold lQ at hp;refine⟨nbl rfl,L0,ai _,?_⟩
 ·unfold ae Tryz.f166;try unfold kf
  exact zq1
def et (a:Ratio)(n:Int):Int×Int×Int:=(bif((aT a) !=0)then(0,0,(aT a))else(bif((decide (n< (-1073741824))) ||(decide (n > 1073741824)))then(0,0,1)else((kf (i64.wrap (a.n*n)) a.d),(i64.wrap (0 - (kf (i64.wrap ((i64.wrap (0 - a.n))*n)) a.d))),0)))
def rB (a:Ratio)(n:Int):Prop:=(((aT a) !=0)=false→(((decide (n< (-1073741824))) ||(decide (n > 1073741824)))=false→((lQ (i64.wrap (a.n*n)) a.d)∧(lQ (i64.wrap ((i64.wrap (0 - a.n))*n)) a.d))))
theorem yu {a:Ratio}(h:(aT a !=0)=false):1≤a.d:=by
 unfold aT at h;by_cases hd:a.d<1
 ·simp[hd]at h
 ·omega
theorem xz (a:Ratio)(n:Int):rB a n:=fun h _=>by
 have:=yu h;exact⟨⟨by omega,by omega,by omega⟩,⟨by omega,by omega,by omega⟩⟩
@[go_sem] def rC:List SV→Option Con:=(pD .ratio fun a=>(pI fun n=>(pE (.det True (.tup [.v (.int .i64 ((et a n).1)),.v (.int .i64 ((et a n).2.1)),.v (.int .i64 ((et a n).2.2))])))))
theorem xA:FnOk Tryz.prog 138 rC:=by
 have hG:ConsOk Tryz.prog (mkG [(165,kw),(166,tj)] []):=aw (cgc mq (cgc yr cg0)) cg0;refine aZ [.o,.o,.o] mixed an hG (fn:=Tryz.f138) (c:=ae Tryz.f138) kr kr kr kr (a7 fun a=>(b_ fun n=>(aF (fun hp=>?_))));dsimp only[aD]at hp;have hp:=xz a n;unfold rB at hp;refine⟨nbl rfl,L0,ai _,?_⟩
 ·unfold ae Tryz.f138;try unfold et
  exact zq1
def jf (n:Int)(d:Int):Ratio×Int:=(bif(d==0)then(({ n:=0,d:=0}:Ratio),120)else(bif(decide ((if(u64.wrap (Int.tdiv (ak n) ((qO (Int.toNat (ak n)) (Int.toNat (ak d)):Nat):Int))) < (u64.wrap (Int.tdiv (ak d) ((qO (Int.toNat (ak n)) (Int.toNat (ak d)):Nat):Int)))then(u64.wrap (Int.tdiv (ak d) ((qO (Int.toNat (ak n)) (Int.toNat (ak d)):Nat):Int)))else(u64.wrap (Int.tdiv (ak n) ((qO (Int.toNat (ak n)) (Int.toNat (ak d)):Nat):Int)))) > 1073741824))then(({ n:=0,d:=0}:Ratio),2)else(bif((decide (n<0)) !=(decide (d<0)))then(({ n:=(i64.wrap (0 - (i64.wrap (u64.wrap (Int.tdiv (ak n) ((qO (Int.toNat (ak n)) (Int.toNat (ak d)):Nat):Int)))))),d:=(i64.wrap (u64.wrap (Int.tdiv (ak d) ((qO (Int.toNat (ak n)) (Int.toNat (ak d)):Nat):Int))))}:Ratio),0)else(({ n:=(i64.wrap (u64.wrap (Int.tdiv (ak n) ((qO (Int.toNat (ak n)) (Int.toNat (ak d)):Nat):Int)))),d:=(i64.wrap (u64.wrap (Int.tdiv (ak d) ((qO (Int.toNat (ak n)) (Int.toNat (ak d)):Nat):Int))))}:Ratio),0))))
def lR (n:Int)(d:Int):Prop:=((d==0)=false→((0≤(ak n)∧0≤(ak d))∧(((qO (Int.toNat (ak n)) (Int.toNat (ak d)):Nat):Int)≠0∧((qO (Int.toNat (ak n)) (Int.toNat (ak d)):Nat):Int)≠0)))
@[go_sem] def tl:List SV→Option Con:=(pI fun n=>(pI fun d=>(pE (.det (lR n d) (.tup [.agg (cellsOf .ratio ((jf n d).1)),.v (.int .i64 ((jf n d).2))])))))
theorem yw:FnOk Tryz.prog 172 tl:=by
 have hG:ConsOk Tryz.prog (mkG [(180,C83),(181,jD)] []):=aw (cgc IW (cgc mo cg0)) cg0;refine aZ [.st .ratio,.o] mixed an hG (fn:=Tryz.f172) (c:=ae Tryz.f172) kr kr kr kr (b_ fun n=>(b_ fun d=>(aF (fun hp=>?_))));dsimp only[aD]at hp;unfold lR at hp;refine⟨nbl rfl,L0,ai _,?_⟩
 ·unfold ae Tryz.f172;try unfold jf
  exact zq4
def eu (a:Ratio)(b:Ratio):Int×Int:=((i64.wrap ((i64.wrap (a.n*b.d))+(i64.wrap (b.n*a.d)))),(i64.wrap (a.d*b.d)))
@[go_sem] def rD:List SV→Option Con:=(pD .ratio fun a=>(pD .ratio fun b=>(pE (.det True (.tup [.v (.int .i64 ((eu a b).1)),.v (.int .i64 ((eu a b).2))])))))
theorem xB:FnOk Tryz.prog 155 rD:=by
 have hG:ConsOk Tryz.prog (mkG [] []):=aw cg0 cg0;refine aZ [.o,.o] mixed an hG (fn:=Tryz.f155) (c:=ae Tryz.f155) kr kr kr kr (a7 fun a=>(a7 fun b=>(aF (fun hp=>?_))));dsimp only[aD]at hp;refine⟨nbl rfl,L0,ai _,?_⟩
 ·unfold ae Tryz.f155;try unfold eu
  exact zq1
def d8 (a:Ratio)(b:Ratio):Ratio×Int:=(bif(((aT a) !=0) ||((aT b) !=0))then(({ n:=0,d:=0}:Ratio),120)else(((jf ((eu a b).1) ((eu a b).2)).1),(jf ((eu a b).1) ((eu a b).2)).2))
def g6 (a:Ratio)(b:Ratio):Prop:=((((aT a) !=0) ||((aT b) !=0))=false→(lR ((eu a b).1) ((eu a b).2)))
@[go_sem] noncomputable def kT:List SV→Option Con:=(pQ (.agg [.fn 155 [] []]) (pD .ratio fun a=>(pD .ratio fun b=>(pE (.det (g6 a b) (.tup [.agg (cellsOf .ratio ((d8 a b).1)),.v (.int .i64 ((d8 a b).2))]))))))
theorem oZ:FnOk Tryz.prog 156 kT:=by
 have hG:ConsOk Tryz.prog (mkG [(155,rD),(165,kw),(172,tl)] []):=aw (cgc xB (cgc mq (cgc yw cg0))) cg0;refine aZ [.st .ratio,.o] mixed an hG (fn:=Tryz.f156) (c:=ae Tryz.f156) kr kr kr kr (O0 (a7 fun a=>(a7 fun b=>(aF (fun hp=>?_)))));dsimp only[aD]at hp;unfold g6 at hp;refine⟨nbl rfl,L0,ai _,?_⟩
 ·unfold ae Tryz.f156;try unfold d8
  exact zq1
def fl (a:Ratio)(b:Ratio):Ratio×Int:=(((d8 a b).1),(d8 a b).2)
def mV (a:Ratio)(b:Ratio):Prop:=(g6 a b)
@[go_sem] def uZ:List SV→Option Con:=(pD .ratio fun a=>(pD .ratio fun b=>(pE (.det (mV a b) (.tup [.agg (cellsOf .ratio ((fl a b).1)),.v (.int .i64 ((fl a b).2))])))))
theorem Ay:FnOk Tryz.prog 121 uZ:=by
 have hG:ConsOk Tryz.prog (mkG [(156,kT)] []):=aw (cgc oZ cg0) cg0;refine aZ [.st .ratio,.o] mixed an hG (fn:=Tryz.f121) (c:=ae Tryz.f121) kr kr kr kr (a7 fun a=>(a7 fun b=>(aF (fun hp=>?_))));dsimp only[aD]at hp;unfold mV at hp;refine⟨nbl rfl,L0,ai _,?_⟩
 ·unfold ae Tryz.f121;try unfold fl
  exact zq1
@[go_sem] def rE (b9:List Int)(k_0:Nat)(s_0:Unit):Int⊕Unit:=(bif((b9.getD k_0 (0:Int)) !=0)then .inl (b9.getD k_0 (0:Int))else .inr ())
def gi (b9:List Int):Int:=(match ap (rE b9) b9.length 0 ()with| .inl x_0_0=>x_0_0| .inr s_0=>0)
@[go_sem] def tn:List SV→Option Con:=(pR .int fun b9=>(pE (.det True (.v (.int .i64 (gi b9))))))
theorem yx:FnOk Tryz.prog 44 tn:=by
 have hG:ConsOk Tryz.prog (mkG [] []):=aw cg0 cg0;refine aZ [.o] mixed an hG (fn:=Tryz.f44) (c:=ae Tryz.f44) kr kr kr kr (d7 fun b9=>(aF (fun hp=>?_)));dsimp only[aD]at hp;refine⟨nbl rfl,(fun id st=>bif Nat.beq id 0 then some (LCR (ρ:=Int) (σ:=Unit) 0 [] [] (fun k_0 s_0=>⟨[(3,.v (.int .i64 0)),(6,.rs .int b9),(7,.v (.int .i64 (b9.length:Int))),(8,.v (.int .i64 (k_0:Int)))],[]⟩) (rE b9) pT b9.length () (b9.length≤bo) (fun _=>.ret) (fun x_0_0=>⟨[(2,.v (.int .i64 x_0_0))],[]⟩) st)else none),?_,?_⟩
 ·unfold ae Tryz.f44;simp only[am,true_and,and_true]
  ·refine cL mixed an hG kr (fun _=>rfl) (b9.length:Int) rfl gY (fun hb0 k_0 s_0 hlt0 _ hw hc=>⟨L0,ai _,?_⟩) (fun hb0 s_0 hc=>?_)
   ·exact bZ (jl [])
   ·exact b6 (jl [])
 ·unfold ae Tryz.f44;try unfold gi
  exact zq1
def bR (x:Holding)(y:Holding):Int:=(gi ([(b8 x.right y.right),(b8 x.farm y.farm)]))
@[go_sem] def oT:List SV→Option Con:=(pD .holding fun x=>(pD .holding fun y=>(pE (.det True (.v (.int .i64 (bR x y)))))))
theorem uo:FnOk Tryz.prog 43 oT:=by
 have hG:ConsOk Tryz.prog (mkG [(44,fun l=>tn (du [.sl .int] l)),(45,fu)] []):=aw (cgc (yx.norm [.sl .int]) (cgc gb cg0)) cg0;refine aZ [.o] mixed an hG (fn:=Tryz.f43) (c:=ae Tryz.f43) kr kr kr kr (a7 fun x=>(a7 fun y=>(aF (fun hp=>?_))));dsimp only[aD]at hp;refine⟨nbl rfl,L0,ai _,?_⟩
 ·unfold ae Tryz.f43;try unfold bR
  exact zq1
theorem mW (x y:Int):b8 x y=if x<y then -1 else if x > y then 1 else 0:=by
 unfold b8 gB;simp[Bool.cond_eq_ite]
theorem DX (x:Int)(l:List Int):gi (x::l)=if x=0 then gi l else x:=by
 have key:∀ l:List Int,gi l=match dR (ρ:=Int) (fun(x:Int) (_:Unit) =>bif(x !=0)then .inl x else .inr ()) l ()with| .inl y=>y| .inr _=>0:=fun l=>by
  unfold gi;have:=ou (ρ:=Int) (fun(x:Int) (_:Unit) =>bif(x !=0)then .inl x else .inr ()) 0 l ();rw[←this];rfl
 rw[key,key];simp only[dR];by_cases h:x=0
 ·subst h;rfl
 ·have:(x !=0)=true:=by simpa using h
  rw[if_neg h,this];rfl
theorem GK:gi []=0:=rfl
def lw:List (Int×Int)→Prop
 | [] =>False
 |(a,b)::r=>a<b∨a=b∧lw r
theorem zi:∀ l:List (Int×Int),(gi (l.map fun p=>b8 p.1 p.2) <0↔lw l)
 | [] =>by simp[GK,lw]
 |(a,b)::r=>by
  have hc:=mW a b;simp only[List.map_cons,DX,hc,lw];rcases Int.lt_trichotomy a b with h|h|h
  ·simp[h]
  ·subst h;simp only[Int.lt_irrefl,if_false,if_true,true_and,false_or,gt_iff_lt];exact zi r
  ·have h1:¬a<b:=by omega
   have h2:a≠b:=by omega
   simp[h1,h2,h]
def hlt (a b:Holding):Prop:=lw [(a.right,b.right),(a.farm,b.farm)]
theorem xC (a b:Holding):bR a b<0↔hlt a b:=zi [(a.right,b.right),(a.farm,b.farm)]
open Go.Shelf Go.Sort in
theorem I8 {α:Type}{f:α→α→Int}{r:α→α→Prop}(e:∀ x y,f x y<0↔r x y)(h1:∀ x,¬r x x)(h2:∀ x y z,r x y→r y z→r x z)(h3:∀ x y z,¬r x y→¬r y z→¬r x z):SWO (ltOf f):=by
 have e1:∀ x y,ltOf f x y=true↔r x y:=fun x y=>by unfold ltOf;rw[decide_eq_true_eq,e]
 have e2:∀ x y,ltOf f x y=false↔¬r x y:=fun x y=>by rw[←e1];simp
 exact⟨fun x=>(e2 x x).2 (h1 x),fun x y z a b=>(e1 x z).2 (h2 x y z ((e1 x y).1 a) ((e1 y z).1 b)),fun x y z a b=>(e2 x z).2 (h3 x y z ((e2 x y).1 a) ((e2 y z).1 b))⟩
open Go.Shelf Go.Sort in
theorem u0:SWO (ltOf bR):=I8 xC (fun x=>by simp only[hlt,lw,and_false,or_false];omega) (fun x y z h1 h2=>by simp only[hlt,lw,and_false,or_false]at *;omega) (fun x y z h1 h2=>by simp only[hlt,lw,and_false,or_false]at *;omega)
def aG (n:Int)(lo:Int)(hi:Int):Bool:=((decide (n≥lo))&&(decide (n≤hi)))
@[go_sem] def ky:List SV→Option Con:=(pI fun n=>(pI fun lo=>(pI fun hi=>(pE (.det True (.v (.bool (aG n lo hi))))))))
theorem mA:FnOk Tryz.prog 39 ky:=by
 have hG:ConsOk Tryz.prog (mkG [] []):=aw cg0 cg0;refine aZ [.o] mixed an hG (fn:=Tryz.f39) (c:=ae Tryz.f39) kr kr kr kr (b_ fun n=>(b_ fun lo=>(b_ fun hi=>(aF (fun hp=>?_)))));dsimp only[aD]at hp;refine⟨nbl rfl,L0,ai _,?_⟩
 ·unfold ae Tryz.f39;try unfold aG
  exact zq1
def iP (x:Deed):Bool:=(bif(x.kind==1)then(((x.parts.length:Int) ==0)&&(x.of_==0))else(bif(x.kind==2)then((x.to==0)&&(x.of_==0))else(bif(x.kind==3)then(((x.to==0)&&((x.parts.length:Int) ==0))&&(x.of_==0))else(bif(x.kind==4)then((((x.right==0)&&(x.since==0))&&(x.to==0))&&((x.parts.length:Int) ==0))else(((((x.right==0)&&(x.since==0))&&(x.to==0))&&((x.parts.length:Int) ==0))&&(x.of_==0))))))
@[go_sem] def oU:List SV→Option Con:=(pD .deed fun x=>(pE (.det True (.v (.bool (iP x))))))
theorem uq:FnOk Tryz.prog 85 oU:=by
 have hG:ConsOk Tryz.prog (mkG [] []):=aw cg0 cg0;refine aZ [.o] mixed an hG (fn:=Tryz.f85) (c:=ae Tryz.f85) kr kr kr kr (a7 fun x=>(aF (fun hp=>?_)));dsimp only[aD]at hp;refine⟨nbl rfl,L0,ai _,?_⟩
 ·unfold ae Tryz.f85;try unfold iP
  exact zq1
@[go_sem] def fB (d:District)(l_:List Part)(k_0:Nat)(s_0:Int×Int×List (Int×Bool)):Unit⊕(Int×Int×List (Int×Bool)):=(bif(((!(aG ((l_.getD k_0 (default:Part)).farm) 0 (i64.wrap ((d.farms.length:Int) - 1)))) ||(bL .int .bool s_0.2.2 ((l_.getD k_0 (default:Part)).farm))) ||(decide ((l_.getD k_0 (default:Part)).share.n≤0)))then .inl ()else(bif((fl ({ n:=s_0.1,d:=s_0.2.1}:Ratio) ((l_.getD k_0 (default:Part)).share)).2 !=0)then .inl ()else .inr (((fl ({ n:=s_0.1,d:=s_0.2.1}:Ratio) ((l_.getD k_0 (default:Part)).share)).1).n,((fl ({ n:=s_0.1,d:=s_0.2.1}:Ratio) ((l_.getD k_0 (default:Part)).share)).1).d,(eA .int .bool s_0.2.2 ((l_.getD k_0 (default:Part)).farm) true))))
def iE (d:District)(l_:List Part)(k_0:Nat)(s_0:Int×Int×List (Int×Bool)):Prop:=(d.farms.length≤bo→((((!(aG ((l_.getD k_0 (default:Part)).farm) 0 (i64.wrap ((d.farms.length:Int) - 1)))) ||(bL .int .bool s_0.2.2 ((l_.getD k_0 (default:Part)).farm))) ||(decide ((l_.getD k_0 (default:Part)).share.n≤0)))=false→(mV ({ n:=s_0.1,d:=s_0.2.1}:Ratio) ((l_.getD k_0 (default:Part)).share))))
def g7 (d:District)(l_:List Part):Bool:=(match ap (fB d l_) l_.length 0 (0,1,[])with| .inl x_0_0=>false| .inr s_0=>((aG (l_.length:Int) 1 16)&&((s_0.1==1)&&(s_0.2.1==1))))
def ir (d:District)(l_:List Part):Prop:=(l_.length≤bo→okI (fB d l_) (iE d l_) l_.length 0 (0,1,[]))
@[go_sem] def nU:List SV→Option Con:=(pD .district fun d=>(pR .part fun l_=>(pE (.det (ir d l_) (.v (.bool (g7 d l_)))))))
theorem tp:FnOk Tryz.prog 86 nU:=by
 have hG:ConsOk Tryz.prog (mkG [(39,ky),(121,uZ)] []):=aw (cgc mA (cgc Ay cg0)) cg0;refine aZ [.o] mixed an hG (fn:=Tryz.f86) (c:=ae Tryz.f86) kr kr kr kr (a7 fun d=>(d7 fun l_=>(aF (fun hp=>?_))));dsimp only[aD]at hp;unfold ir at hp;refine⟨nbl rfl,(fun id st=>bif Nat.beq id 0 then some (LCR (ρ:=Unit) (σ:=(Int×Int×List (Int×Bool))) 3 [] [0,1,2] (fun k_0 s_0=>⟨[(1,.rs .part l_),(2,.ptr 0 0),(5,.ptr 2 0),(6,.os 1),(13,.rs .part l_),(14,.v (.int .i64 (l_.length:Int))),(15,.v (.int .i64 (k_0:Int)))],[.cells (cellsOf .district d),.mp .int .bool s_0.2.2 none,.cells [.v (.int .i64 s_0.1),.v (.int .i64 s_0.2.1)]]⟩) (fB d l_) (iE d l_) l_.length (0,1,[]) (l_.length≤bo) (fun _=>.ret) (fun x_0_0=>⟨[(4,.v (.bool false))],[.dead,.dead,.dead]⟩) st)else none),?_,?_⟩
 ·unfold ae Tryz.f86;simp only[am,true_and,and_true]
  ·refine cL mixed an hG kr (fun _=>rfl) (l_.length:Int) rfl gY (fun hb0 k_0 s_0 hlt0 hq0 hw hc=>⟨L0,ai _,?_⟩) (fun hb0 s_0 hc=>?_)
   ·unfold iE at hq0;try simp only[hw,Int.toNat_natCast]at hq0
    exact bZ (jl [0,1,2])
   ·exact b6 (jl [0,1,2])
 ·unfold ae Tryz.f86;try unfold g7
  exact zq1
def cF (a0:District)(a1:List (Int×Deed))(a2:Deed):Bool:=(bif((((!(aG a2.no 0 1048576)) ||(!(aG a2.at_ 0 4096))) ||(!(aG a2.known 0 1048576))) ||(!(iP a2)))then false else(bif(a2.kind==1)then(((((aG a2.right 0 (i64.wrap ((a0.rights.length:Int) - 1)))&&((a0.rights.getD (Int.toNat a2.right) (default:Right)).kind==1))&&(aG a2.since 0 (i64.wrap ((a0.farms.length:Int) - 1))))&&(aG a2.to 0 (i64.wrap ((a0.farms.length:Int) - 1))))&&(a2.to !=a2.since))else(bif(a2.kind==2)then((((aG a2.right 0 (i64.wrap ((a0.rights.length:Int) - 1)))&&((a0.rights.getD (Int.toNat a2.right) (default:Right)).kind==1))&&(aG a2.since 0 (i64.wrap ((a0.farms.length:Int) - 1))))&&(g7 a0 a2.parts))else(bif(a2.kind==3)then(((aG a2.right 0 (i64.wrap ((a0.rights.length:Int) - 1)))&&((a0.rights.getD (Int.toNat a2.right) (default:Right)).kind==1))&&(aG a2.since 0 (i64.wrap ((a0.farms.length:Int) - 1))))else(bif(a2.kind==4)then(((o9 .int .deed a1 a2.of_)&&((bL .int .deed a1 a2.of_).kind !=4))&&(decide (a2.known≥(bL .int .deed a1 a2.of_).known)))else false)))))
def iZ (a0:District)(a1:List (Int×Deed))(a2:Deed):Prop:=(((((!(aG a2.no 0 1048576)) ||(!(aG a2.at_ 0 4096))) ||(!(aG a2.known 0 1048576))) ||(!(iP a2)))=false→(a0.farms.length≤bo→(a0.rights.length≤bo→(((aG a2.right 0 (i64.wrap ((a0.rights.length:Int) - 1)))=true→(0≤a2.right∧a2.right< (a0.rights.length:Int)))∧((a2.kind==1)=false→((a2.kind==2)=true→((((aG a2.right 0 (i64.wrap ((a0.rights.length:Int) - 1)))&&((a0.rights.getD (Int.toNat a2.right) (default:Right)).kind==1))&&(aG a2.since 0 (i64.wrap ((a0.farms.length:Int) - 1))))=true→(ir a0 a2.parts))))))))
@[go_sem] def oV:List SV→Option Con:=(pD .district fun a0=>(pM .int .deed fun a1=>(pD .deed fun a2=>(pE (.det (iZ a0 a1 a2) (.v (.bool (cF a0 a1 a2))))))))
theorem ur:FnOk Tryz.prog 49 oV:=by
 have hG:ConsOk Tryz.prog (mkG [(39,ky),(85,fun l=>oU (du [.st .deed] l)),(86,fun l=>nU (du [.st .district,.sl .part] l))] []):=aw (cgc mA (cgc (uq.norm [.st .deed]) (cgc (tp.norm [.st .district,.sl .part]) cg0))) cg0;refine aZ [.o] mixed an hG (fn:=Tryz.f49) (c:=ae Tryz.f49) kr kr kr kr (a7 fun a0=>(OV fun a1=>(a7 fun a2=>(aF (fun hp=>?_)))));dsimp only[aD]at hp;unfold iZ at hp;refine⟨nbl rfl,L0,ai _,?_⟩
 ·unfold ae Tryz.f49;try unfold cF
  exact zq1
def cS (x:Deed):Bool:=(decide ((x.parts.length:Int) > 16))
@[go_sem] def mB:List SV→Option Con:=(pD .deed fun x=>(pE (.det True (.v (.bool (cS x))))))
theorem qQ:FnOk Tryz.prog 48 mB:=by
 have hG:ConsOk Tryz.prog (mkG [] []):=aw cg0 cg0;refine aZ [.o] mixed an hG (fn:=Tryz.f48) (c:=ae Tryz.f48) kr kr kr kr (a7 fun x=>(aF (fun hp=>?_)));dsimp only[aD]at hp;refine⟨nbl rfl,L0,ai _,?_⟩
 ·unfold ae Tryz.f48;try unfold cS
  exact zq1
@[go_sem] def bP (s_:List Deed)(k_0:Nat)(s_0:Unit):Int⊕Unit:=(bif(cS (s_.getD k_0 (default:Deed)))then .inl (k_0:Int)else .inr ())
def cK (s_:List Deed):Int:=(match ap (bP s_) s_.length 0 ()with| .inl x_0_0=>x_0_0| .inr s_0=>(-1))
@[go_sem] def dv:List SV→Option Con:=(pR .deed fun s_=>(pFn 48 (pE ((pE (.det True (.v (.int .i64 (cK s_)))))))))
theorem eE:FnOk Tryz.prog 84 dv:=by
 have hG:ConsOk Tryz.prog (mkG [(48,fun l=>mB (du [.st .deed] l))] []):=aw (cgc (qQ.norm [.st .deed]) cg0) cg0;refine aZ [.o] mixed an hG (fn:=Tryz.f84) (c:=ae Tryz.f84) kr kr kr kr (d7 fun s_=>(sZ (aF ((aF (fun hp=>?_))))));dsimp only[aD]at hp;refine⟨nbl rfl,(fun id st=>bif Nat.beq id 0 then some (LCR (ρ:=Int) (σ:=Unit) 0 [] [] (fun k_0 s_0=>⟨[(0,.rs .deed s_),(1,.fn 48 [] []),(7,.v (.int .i64 (s_.length:Int))),(8,.v (.int .i64 (k_0:Int)))],[]⟩) (bP s_) pT s_.length () (s_.length≤bo) (fun _=>.ret) (fun x_0_0=>⟨[(4,.v (.int .i64 x_0_0))],[]⟩) st)else none),?_,?_⟩
 ·unfold ae Tryz.f84;simp only[am,true_and,and_true]
  ·refine cL mixed an hG kr (fun _=>rfl) (s_.length:Int) rfl gY (fun hb0 k_0 s_0 hlt0 _ hw hc=>⟨L0,ai _,?_⟩) (fun hb0 s_0 hc=>?_)
   ·exact bZ (jl [])
   ·exact b6 (jl [])
 ·unfold ae Tryz.f84;try unfold cK
  exact zq1
@[go_sem] noncomputable def dl:List SV→Option Con:=fun l=>(dv l)
theorem g8:FnOk Tryz.prog 84 dl:=eE
def aW (s_:List Deed):Bool:=(decide ((cK s_)≥0))
@[go_sem] def ed:List SV→Option Con:=(pR .deed fun s_=>(pFn 48 (pE ((pE (.det True (.v (.bool (aW s_)))))))))
theorem zq71 {p:Prop}(h:p:=by simp only[go_sem,Nat.reduceBEq,Nat.reduceLeDiff,Nat.reduceLT,decide_true,Nat.reduceAdd,Nat.reduceSub,Nat.reduceMul,Int.reduceLE,Int.reduceLT,Int.reduceToNat,Int.reduceNeg,reduceCtorEq,dl];all_goals exact cl):p:=h
theorem gE:FnOk Tryz.prog 47 ed:=by
 have hG:ConsOk Tryz.prog (mkG [(84,fun l=>dl (du [.sl .deed,.o] l))] []):=aw (cgc (g8.norm [.sl .deed,.o]) cg0) cg0;refine aZ [.o] mixed an hG (fn:=Tryz.f47) (c:=ae Tryz.f47) kr kr kr kr (d7 fun s_=>(sZ (aF ((aF (fun hp=>?_))))));dsimp only[aD]at hp;refine⟨nbl rfl,L0,ai _,?_⟩
 ·unfold ae Tryz.f47;try unfold aW
  exact zq71
@[go_sem] def dT (d:District)(l_:List Deed)(k_0:Nat)(s_0:List (Int×Deed)):Unit⊕(List (Int×Deed)):=(bif(((decide ((k_0:Int) > 0))&&(decide ((l_.getD k_0 (default:Deed)).no≤(l_.getD (Int.toNat (i64.wrap ((k_0:Int) - 1))) (default:Deed)).no))) ||(!(cF d s_0 (l_.getD k_0 (default:Deed)))))then .inl ()else .inr (eA .int .deed s_0 ((l_.getD k_0 (default:Deed)).no) (l_.getD k_0 (default:Deed))))
def iF (d:District)(l_:List Deed)(k_0:Nat)(s_0:List (Int×Deed)):Prop:=(((decide ((k_0:Int) > 0))=true→(0≤(i64.wrap ((k_0:Int) - 1))∧(i64.wrap ((k_0:Int) - 1)) < (l_.length:Int)))∧(((decide ((k_0:Int) > 0))&&(decide ((l_.getD k_0 (default:Deed)).no≤(l_.getD (Int.toNat (i64.wrap ((k_0:Int) - 1))) (default:Deed)).no)))=false→(iZ d s_0 (l_.getD k_0 (default:Deed)))))
def aO (d:District)(l_:List Deed):Int:=(bif((aC d) !=0)then(aC d)else(bif((decide ((l_.length:Int) > 512)) ||(aW l_))then 2 else(match ap (dT d l_) l_.length 0 ([])with| .inl x_0_0=>250| .inr s_0=>0)))
def fR (d:District)(l_:List Deed):Prop:=(((aC d) !=0)=false→(l_.length≤bo→(((decide ((l_.length:Int) > 512)) ||(aW l_))=false→(l_.length≤bo→okI (dT d l_) (iF d l_) l_.length 0 ([])))))
@[go_sem] def kg:List SV→Option Con:=(pD .district fun d=>(pR .deed fun l_=>(pE (.det (fR d l_) (.v (.int .i64 (aO d l_)))))))
theorem mX:FnOk Tryz.prog 26 kg:=by
 have hG:ConsOk Tryz.prog (mkG [(34,fun l=>jF (du [.st .district] l)),(47,fun l=>ed (du [.sl .deed,.o] l)),(49,fun l=>oV (du [.st .district,.mp .int .deed,.st .deed] l))] []):=aw (cgc (lm.norm [.st .district]) (cgc (gE.norm [.sl .deed,.o]) (cgc (ur.norm [.st .district,.mp .int .deed,.st .deed]) cg0))) cg0;refine aZ [.o] mixed an hG (fn:=Tryz.f26) (c:=ae Tryz.f26) kr kr kr kr (a7 fun d=>(d7 fun l_=>(aF (fun hp=>?_))));dsimp only[aD]at hp;unfold fR at hp;refine⟨nbl rfl,(fun id st=>bif Nat.beq id 0 then some (LCR (ρ:=Unit) (σ:=(List (Int×Deed))) 2 [] [0,1] (fun k_0 s_0=>⟨[(1,.rs .deed l_),(2,.ptr 0 0),(5,.os 1),(21,.rs .deed l_),(22,.v (.int .i64 (l_.length:Int))),(23,.v (.int .i64 (k_0:Int)))],[.cells (cellsOf .district d),.mp .int .deed s_0 none]⟩) (dT d l_) (iF d l_) l_.length ([]) (l_.length≤bo) (fun _=>.ret) (fun x_0_0=>⟨[(4,.v (.int .i64 250))],[.dead,.dead]⟩) st)else none),?_,?_⟩
 ·unfold ae Tryz.f26;simp only[am,true_and,and_true]
  ·refine cL mixed an hG kr (fun _=>rfl) (l_.length:Int) rfl gY (fun hb0 k_0 s_0 hlt0 hq0 hw hc=>⟨L0,ai _,?_⟩) (fun hb0 s_0 hc=>?_)
   ·unfold iF at hq0;try simp only[hw,Int.toNat_natCast]at hq0
    exact bZ (jl [0,1])
   ·exact b6 (jl [0,1])
 ·unfold ae Tryz.f26;try unfold aO
  exact zq1
end Go.Sx
end
section
namespace Go.Sx
open Go.RowKit
def pXM {α:Type 1}(t t2:Tag)(k:List (t.T×t2.T)→List SV→Option α):List SV→Option α
 | .ep [s] 0::r=>pM t t2 k (s::r)
 |_=>none
@[go_sem] theorem Tp {α:Type 1}{t t2:Tag}{k:List (t.T×t2.T)→List SV→Option α}{s:SV}{r:List SV}:pXM t t2 k (.ep [s] 0::r)=pM t t2 k (s::r):=(rfl)
theorem Fi {α:Type 1}{G:List SV→α→Prop}{t t2:Tag}{k:List (t.T×t2.T)→List SV→Option α}(h:∀ n l c,k n l=some c→G (.ep [.rm t t2 n] 0::l) c):∀ l c,pXM t t2 k l=some c→G l c:=fun l c hc=>by
 unfold pXM at hc;split at hc
 ·obtain⟨x,r,e,h1⟩:=Iq hc;simp only[List.cons.injEq]at e;obtain⟨rfl,rfl⟩:=e;exact h x _ c h1
 ·cases hc
section
universe u
variable {α:Type u}{G:List SV→α→Prop}
def pLS (k:List SV→Option (List SV→Option α)):List SV→Option α
 | .ls l::r=>apO (k l) r
 |_=>none
@[go_sem] theorem VZ {k:List SV→Option (List SV→Option α)}{l r:List SV}:pLS k (.ls l::r)=apO (k l) r:=(rfl)
end
open Classical in
noncomputable def gF {τ:Type}(A:τ→List SV)(H:τ→List Ob)(K:τ→HCon):List SV→List Ob→Option HCon:=fun l h=>if e:∃ x,l=A x∧h=H x then some (K e.choose)else none
theorem I9 (x:Deed):(⟨x.no,x.kind,x.right,x.since,x.to,x.parts,x.of_,x.at_,x.known⟩:Deed)=x:=rfl
theorem Az (d:District):(⟨d.name,d.hours,⟨d.tank.cap,d.tank.start⟩,d.reaches,d.farms,d.crops,d.rights,d.duties,d.wells⟩:District)=d:=rfl
theorem GL {k:Tag}{x y:k.T}:cellsOf k x=cellsOf k y↔x=y:=⟨fun h=>by
 have h1:=qu x;rw[h,qu y]at h1;exact(Option.some.inj h1).symm,fun h=>by rw[h]⟩
theorem eY {τ:Type}{A:τ→List SV}{H:τ→List Ob}{K:τ→HCon}{x:τ}(inj:∀ x y,A x=A y→H x=H y→x=y:=by
 intro x y h1 h2;simp only[List.cons.injEq,SV.agg.injEq,SV.ep.injEq,SV.v.injEq,Value.int.injEq,Value.bool.injEq,Value.string.injEq,SV.fn.injEq,SV.rs.injEq,SV.rm.injEq,Ob.row.injEq,Ob.mp.injEq,Ob.cells.injEq,Ob.grid.injEq,heq_eq_eq,GL,true_and,and_true]at h1 h2;first|exact h2|exact h1|(simp_all [Prod.ext_iff];done)):gF A H K (A x) (H x)=some (K x):=by
 have e:∃ y,A x=A y∧H x=H y:=⟨x,rfl,rfl⟩;unfold gF;rw[dif_pos e];have:=inj _ _ e.choose_spec.1 e.choose_spec.2;rw[←this]
theorem dG {τ:Type}{A:τ→List SV}{H:τ→List Ob}{K:τ→HCon}{l:List SV}{h:List Ob}{c:HCon}(hh:gF A H K l h=some c):∃ x,l=A x∧h=H x∧c=K x:=by
 unfold gF at hh;split at hh
 ·rename_i e;simp only[Option.some.injEq]at hh;exact⟨e.choose,e.choose_spec.1,e.choose_spec.2,hh.symm⟩
 ·cases hh
end Go.Sx
end
section
namespace Go.Sx
open Go.Proofs
open IntKind (i64)
@[go_sem] def lF:List SV→Option Con:=pR .deed fun l=>pE (.det (l.length*88≤fE) (.nw .deed l))
theorem qb:FnOk Tryz.prog 72 lF:=by
 have hG:ConsOk Tryz.prog (mkG [] []):=aw cg0 cg0;refine ow [(.tmp 2,.deed)] mixed an hG (fn:=Tryz.f72) (c:=ae Tryz.f72) kr kr kr kr (d7 fun l=>aF fun hp=>?_);dsimp only[aD]at hp;refine⟨nbl rfl,L0,ai _,?_⟩;unfold ae Tryz.f72;simp only[go_sem,Nat.reduceBEq,Nat.reduceLeDiff,Nat.reduceAdd,Nat.reduceSub,Nat.reduceMul,Int.reduceLE,Int.reduceLT,Int.reduceToNat,Int.reduceNeg,reduceCtorEq];intro b hb;refine⟨fun h=>?_,fun _=>⟨hp,fun _=>rfl⟩⟩;have hl:=hb h;subst hl;rfl
theorem gq {l0 l1:List Nat}(a0:JL l0)(a1:JL l1){p:Prop}(h:JL l0→JL l1→p:=by intro ja jb;(first|done|(repeat' (first|with_reducible refine And.intro ?_ ?_|((with_reducible show _≠_);first|assumption|omega|(simp_all [dy,fj];done) |grind) |with_reducible intro _)) <;>(first|done|with_reducible exact Empty.elim ‹Empty› |with_reducible assumption|rfl|omega|assumption|decide|exact fk ja|exact fk jb|exact czl|(simp only[*,cond_true,cond_false,Bool.not_true,Bool.not_false,go_sem,Nat.reduceBEq,Nat.reduceLeDiff,Nat.reduceLT,decide_true,Nat.reduceAdd,Nat.reduceSub,Nat.reduceMul,Int.reduceLE,Int.reduceLT,Int.reduceToNat,Int.reduceNeg,reduceCtorEq];(repeat' (first|with_reducible refine And.intro ?_ ?_|((with_reducible show _≠_);first|assumption|omega|(simp_all [dy,fj];done) |grind) |with_reducible intro _)) <;>(first|done|assumption|rfl|omega|decide|exact fk ja|exact fk jb|(simp_all [dy,fj];done))) |(simp_all [okI,dy,fj];done) |(simp_all [dy,fj];(first|done|exact fk2 ja|exact fk2 jb)) |exact fk2 ja|exact fk2 jb))):p:=h a0 a1
def aR (x:Deed)(known:Int)(hour:Int)(void_:List (Int×Bool)):Bool:=((((x.kind==4) ||(decide (x.known > known))) ||(decide (x.at_ > hour))) ||(bL .int .bool void_ x.no))
@[go_sem] def gG:List SV→Option Con:=(pD .deed fun x=>(pX .int fun known=>(pX .int fun hour=>(pXM .int .bool fun void_=>(pE (.det True (.v (.bool (aR x known hour void_)))))))))
theorem jH:FnOk Tryz.prog 73 gG:=by
 have hG:ConsOk Tryz.prog (mkG [] []):=aw cg0 cg0;refine aZ [.o] mixed an hG (fn:=Tryz.f73) (c:=ae Tryz.f73) kr kr kr kr (a7 fun x=>(pw fun known=>(pw fun hour=>(Fi fun void_=>(aF (fun hp=>?_))))));dsimp only[aD]at hp;refine⟨nbl rfl,L0,ai _,?_⟩
 ·unfold ae Tryz.f73;try unfold aR
  exact zq1
def cw (a:Deed)(b:Deed):Int:=(b8 a.at_ b.at_)
@[go_sem] def gH:List SV→Option Con:=(pD .deed fun a=>(pD .deed fun b=>(pE (.det True (.v (.int .i64 (cw a b)))))))
theorem jI:FnOk Tryz.prog 75 gH:=by
 have hG:ConsOk Tryz.prog (mkG [(45,fu)] []):=aw (cgc gb cg0) cg0;refine aZ [.o] mixed an hG (fn:=Tryz.f75) (c:=ae Tryz.f75) kr kr kr kr (a7 fun a=>(a7 fun b=>(aF (fun hp=>?_))));dsimp only[aD]at hp;refine⟨nbl rfl,L0,ai _,?_⟩
 ·unfold ae Tryz.f75;try unfold cw
  exact zq1
@[go_sem] def c6 (s_:List Deed)(known:Int)(hour:Int)(void_:List (Int×Bool))(k_0:Nat)(s_0:Unit):Int⊕Unit:=(bif(aR (s_.getD k_0 (default:Deed)) known hour void_)then .inl (k_0:Int)else .inr ())
def aj (s_:List Deed)(known:Int)(hour:Int)(void_:List (Int×Bool)):Int:=(match ap (c6 s_ known hour void_) s_.length 0 ()with| .inl x_0_0=>x_0_0| .inr s_0=>(-1))
@[go_sem] def ev:List SV→Option Con:=(pR .deed fun s_=>(pFn 73 (pX .int fun known=>(pX .int fun hour=>(pXM .int .bool fun void_=>(pE ((pE (.det True (.v (.int .i64 (aj s_ known hour void_))))))))))))
theorem gP:FnOk Tryz.prog 84 ev:=by
 have hG:ConsOk Tryz.prog (mkG [(73,fun l=>gG (du [.st .deed,.o,.o,.o] l))] []):=aw (cgc (jH.norm [.st .deed,.o,.o,.o]) cg0) cg0;refine aZ [.o] mixed an hG (fn:=Tryz.f84) (c:=ae Tryz.f84) kr kr kr kr (d7 fun s_=>(sZ (pw fun known=>(pw fun hour=>(Fi fun void_=>(aF ((aF (fun hp=>?_)))))))));dsimp only[aD]at hp;refine⟨nbl rfl,(fun id st=>bif Nat.beq id 0 then some (LCR (ρ:=Int) (σ:=Unit) 0 [] [] (fun k_0 s_0=>⟨[(0,.rs .deed s_),(1,.fn 73 [] [.ep [.v (.int .i64 known)] 0,.ep [.v (.int .i64 hour)] 0,.ep [.rm .int .bool void_] 0]),(7,.v (.int .i64 (s_.length:Int))),(8,.v (.int .i64 (k_0:Int)))],[]⟩) (c6 s_ known hour void_) pT s_.length () (s_.length≤bo) (fun _=>.ret) (fun x_0_0=>⟨[(4,.v (.int .i64 x_0_0))],[]⟩) st)else none),?_,?_⟩
 ·unfold ae Tryz.f84;simp only[am,true_and,and_true]
  ·refine cL mixed an hG kr (fun _=>rfl) (s_.length:Int) rfl gY (fun hb0 k_0 s_0 hlt0 _ hw hc=>⟨L0,ai _,?_⟩) (fun hb0 s_0 hc=>?_)
   ·exact bZ (jl [])
   ·exact b6 (jl [])
 ·unfold ae Tryz.f84;try unfold aj
  exact zq1
@[go_sem] noncomputable def dm:List SV→Option Con:=fun l=>(orC (dv l) (ev l))
theorem g9:FnOk Tryz.prog 84 dm:=(FnOk.or eE gP)
@[go_sem] def aJ (l_:List Deed)(known:Int)(hour:Int)(void_:List (Int×Bool))(k_0:Nat)(s_0:List Deed×Int×Int):(Int×List Deed)⊕(List Deed×Int×Int):=(bif(decide (s_0.2.2< (s_0.1.length:Int)))then(bif(!(aR (s_0.1.getD (Int.toNat s_0.2.2) (default:Deed)) known hour void_))then .inr ((s_0.1.set (Int.toNat s_0.2.1) (s_0.1.getD (Int.toNat s_0.2.2) (default:Deed))),(i64.wrap (s_0.2.1+1)),(i64.wrap (s_0.2.2+1)))else .inr (s_0.1,s_0.2.1,(i64.wrap (s_0.2.2+1))))else .inl (s_0.2.1,s_0.1))
def bE (l_:List Deed)(known:Int)(hour:Int)(void_:List (Int×Bool))(k_0:Nat)(s_0:List Deed×Int×Int):Prop:=(s_0.1.length≤bo→((decide (s_0.2.2< (s_0.1.length:Int)))=true→((0≤s_0.2.2∧s_0.2.2< (s_0.1.length:Int))∧((!(aR (s_0.1.getD (Int.toNat s_0.2.2) (default:Deed)) known hour void_))=true→(0≤s_0.2.1∧s_0.2.1< (s_0.1.length:Int))))))
def aU (l_:List Deed)(known:Int)(hour:Int)(void_:List (Int×Bool)):List Deed:=(bif((aj l_ known hour void_) ==(-1))then l_ else(match ap (aJ l_ known hour void_) (l_.length+1) 0 (l_,(aj l_ known hour void_),(i64.wrap ((aj l_ known hour void_)+1)))with| .inl x_0_0=>(((wn .deed x_0_0.2 x_0_0.1 (x_0_0.2.length:Int)).take (Int.toNat x_0_0.1)).drop 0) | .inr s_0=>default))
def aX (l_:List Deed)(known:Int)(hour:Int)(void_:List (Int×Bool)):Prop:=(((aj l_ known hour void_) ==(-1))=false→(okI (aJ l_ known hour void_) (bE l_ known hour void_) (l_.length+1) 0 (l_,(aj l_ known hour void_),(i64.wrap ((aj l_ known hour void_)+1)))∧(∀ z_,ap (aJ l_ known hour void_) (l_.length+1) 0 (l_,(aj l_ known hour void_),(i64.wrap ((aj l_ known hour void_)+1)))≠ .inr z_)∧(∀ x_0_0,ap (aJ l_ known hour void_) (l_.length+1) 0 (l_,(aj l_ known hour void_),(i64.wrap ((aj l_ known hour void_)+1)))=.inl x_0_0→((0≤x_0_0.1∧x_0_0.1≤(x_0_0.2.length:Int))∧(0≤0∧0≤x_0_0.1∧x_0_0.1≤((wn .deed x_0_0.2 x_0_0.1 (x_0_0.2.length:Int)).length:Int))))))
noncomputable def dp:List SV→List Ob→Option HCon:=gF (fun x_:(List Deed)×Int×Int×(List (Int×Bool)) =>[.os 0,.fn 73 [] [.ptr 1 0,.ptr 2 0,.ptr 3 0]]) (fun x_=>[.row .deed x_.1,.cells [.v (.int .i64 x_.2.1)],.cells [.v (.int .i64 x_.2.2.1)],.cells [.os 4],.mp .int .bool x_.2.2.2 none]) (fun x_=>eJ (aX x_.1 x_.2.1 x_.2.2.1 x_.2.2.2) (.os 5) [.dead,.cells [.v (.int .i64 x_.2.1)],.cells [.v (.int .i64 x_.2.2.1)],.cells [.os 4],.mp .int .bool x_.2.2.2 none,.row .deed (aU x_.1 x_.2.1 x_.2.2.1 x_.2.2.2)])
@[go_sem] theorem o4 (l_:List Deed)(known:Int)(hour:Int)(void_:List (Int×Bool)){p4_:Option (Nat×Option Tag.int.T)}(hp4_:p4_=none):dp ([.os 0,.fn (73:Nat) [] [.ptr 1 0,.ptr 2 0,.ptr 3 0]]) ([.row .deed l_,.cells [.v (.int .i64 known)],.cells [.v (.int .i64 hour)],.cells [.os 4],.mp .int .bool void_ p4_])=some (eJ (aX l_ known hour void_) (.os 5) [.dead,.cells [.v (.int .i64 known)],.cells [.v (.int .i64 hour)],.cells [.os 4],.mp .int .bool void_ none,.row .deed (aU l_ known hour void_)]):=by
 subst hp4_;exact eY (A:=fun x_:(List Deed)×Int×Int×(List (Int×Bool)) =>[.os 0,.fn 73 [] [.ptr 1 0,.ptr 2 0,.ptr 3 0]]) (H:=fun x_=>[.row .deed x_.1,.cells [.v (.int .i64 x_.2.1)],.cells [.v (.int .i64 x_.2.2.1)],.cells [.os 4],.mp .int .bool x_.2.2.2 none]) (K:=fun x_=>eJ (aX x_.1 x_.2.1 x_.2.2.1 x_.2.2.2) (.os 5) [.dead,.cells [.v (.int .i64 x_.2.1)],.cells [.v (.int .i64 x_.2.2.1)],.cells [.os 4],.mp .int .bool x_.2.2.2 none,.row .deed (aU x_.1 x_.2.1 x_.2.2.1 x_.2.2.2)]) (x:=(l_,known,hour,void_))
theorem zq76 {l0 l1:List Nat}(a0:JL l0)(a1:JL l1){p:Prop}(h:JL l0→JL l1→p:=by intro ja jb;simp only[go_sem,Nat.reduceBEq,Nat.reduceLeDiff,Nat.reduceLT,decide_true,Nat.reduceAdd,Nat.reduceSub,Nat.reduceMul,Int.reduceLE,Int.reduceLT,Int.reduceToNat,Int.reduceNeg,reduceCtorEq,dm];all_goals exact gq ja jb):p:=h a0 a1
theorem g_:FnOkO Tryz.prog 71 (dp):=by
 have hG:ConsOk Tryz.prog (mkG [(73,fun l=>gG (du [.st .deed,.o,.o,.o] l)),(84,fun l=>dm (du [.sl .deed,.o] l))] []):=aw (cgc (jH.norm [.st .deed,.o,.o,.o]) (cgc (g9.norm [.sl .deed,.o]) cg0)) cg0;refine fO mixed an hG (fn:=Tryz.f71) (c:=ae Tryz.f71) kr kr kr kr fun l o con h=>?_;obtain⟨⟨l_,known,hour,void_⟩,rfl,rfl,rfl⟩:=dG h;clear h;try dsimp only
 refine⟨_,_,_,rfl,fun hp=>?_⟩;unfold aX at hp;refine⟨nbl rfl,(fun id st=>bif Nat.beq id 0 then some (LCV (ρ:=(Int×List Deed)) (σ:=(List Deed×Int×Int)) 5 [] [0,1,2,3,4] (fun k_0 s_0=>⟨[(0,.os 0),(1,.fn 73 [] [.ptr 1 0,.ptr 2 0,.ptr 3 0]),(5,.v (.int .i64 s_0.2.1)),(6,.v (.int .i64 s_0.2.2))],[.row .deed s_0.1,.cells [.v (.int .i64 known)],.cells [.v (.int .i64 hour)],.cells [.os 4],.mp .int .bool void_ none]⟩) (aJ l_ known hour void_) (bE l_ known hour void_) (l_.length+1) (l_,(aj l_ known hour void_),(i64.wrap ((aj l_ known hour void_)+1))) (fun _=>.normal) (fun x_0_0=>⟨[(0,.os 0),(5,.v (.int .i64 x_0_0.1))],[.row .deed x_0_0.2,.cells [.v (.int .i64 known)],.cells [.v (.int .i64 hour)],.cells [.os 4],.mp .int .bool void_ none]⟩) st)else none),?_,?_⟩
 ·unfold ae Tryz.f71;simp only[am,true_and,and_true,and_assoc]
  ·refine eK mixed an hG kr (fun _=>rfl) fun k_0 s_0 hq0=>⟨L0,ai _,?_⟩
   ·unfold bE at hq0;exact cJ (jl [0,1,2,3,4])
 ·unfold ae Tryz.f71;try unfold aU
  exact zq76 (jl [0,1,2,3,4,0]) (jl [0,1,2,3,4,5])
@[go_sem] def aH (a:Int)(l_:List Deed)(k_1:Nat)(s_1:List Deed×Int):(List Deed)⊕(List Deed×Int):=(bif((decide (s_1.2 > a))&&(decide ((cw (s_1.1.getD (Int.toNat s_1.2) (default:Deed)) (s_1.1.getD (Int.toNat (i64.wrap (s_1.2 - 1))) (default:Deed))) <0)))then .inr (((s_1.1.set (Int.toNat s_1.2) (s_1.1.getD (Int.toNat (i64.wrap (s_1.2 - 1))) (default:Deed))).set (Int.toNat (i64.wrap (s_1.2 - 1))) (s_1.1.getD (Int.toNat s_1.2) (default:Deed))),(i64.wrap (s_1.2 - 1)))else .inl s_1.1)
def a8 (a:Int)(l_:List Deed)(k_1:Nat)(s_1:List Deed×Int):Prop:=(((decide (s_1.2 > a))=true→(0≤s_1.2∧s_1.2< (s_1.1.length:Int)))∧(((decide (s_1.2 > a))=true→(0≤(i64.wrap (s_1.2 - 1))∧(i64.wrap (s_1.2 - 1)) < (s_1.1.length:Int)))∧(((decide (s_1.2 > a))&&(decide ((cw (s_1.1.getD (Int.toNat s_1.2) (default:Deed)) (s_1.1.getD (Int.toNat (i64.wrap (s_1.2 - 1))) (default:Deed))) <0)))=true→((0≤(i64.wrap (s_1.2 - 1))∧(i64.wrap (s_1.2 - 1)) < (s_1.1.length:Int))∧((0≤s_1.2∧s_1.2< (s_1.1.length:Int))∧((0≤s_1.2∧s_1.2< (s_1.1.length:Int))∧(0≤(i64.wrap (s_1.2 - 1))∧(i64.wrap (s_1.2 - 1)) < ((s_1.1.set (Int.toNat s_1.2) (s_1.1.getD (Int.toNat (i64.wrap (s_1.2 - 1))) (default:Deed))).length:Int))))))))
@[go_sem] def az (a:Int)(b:Int)(l_:List Deed)(k_0:Nat)(s_0:List Deed×Int):(List Deed)⊕(List Deed×Int):=(bif(decide (s_0.2<b))then(match ap (aH a l_) (l_.length+1) 0 (s_0.1,s_0.2)with| .inl x_1_0=>.inr (x_1_0,(i64.wrap (s_0.2+1))) | .inr s_1=>.inr default)else .inl s_0.1)
def aP (a:Int)(b:Int)(l_:List Deed)(k_0:Nat)(s_0:List Deed×Int):Prop:=((decide (s_0.2<b))=true→(okI (aH a l_) (a8 a l_) (l_.length+1) 0 (s_0.1,s_0.2)∧(∀ z_,ap (aH a l_) (l_.length+1) 0 (s_0.1,s_0.2)≠ .inr z_)))
def av (a:Int)(b:Int)(l_:List Deed):List Deed:=(match ap (az a b l_) (l_.length+1) 0 (l_,(i64.wrap (a+1)))with| .inl x_0_0=>x_0_0| .inr s_0=>default)
def aK (a:Int)(b:Int)(l_:List Deed):Prop:=(okI (az a b l_) (aP a b l_) (l_.length+1) 0 (l_,(i64.wrap (a+1)))∧(∀ z_,ap (az a b l_) (l_.length+1) 0 (l_,(i64.wrap (a+1)))≠ .inr z_))
noncomputable def c8:List SV→List Ob→Option HCon:=gF (fun x_:Int×Int×(List Deed) =>[.os 0,.v (.int .i64 x_.1),.v (.int .i64 x_.2.1),.fn 75 [] []]) (fun x_=>[.row .deed x_.2.2]) (fun x_=>eJ (aK x_.1 x_.2.1 x_.2.2) (.tup []) [.row .deed (av x_.1 x_.2.1 x_.2.2)])
@[go_sem] theorem oW (a:Int)(b:Int)(l_:List Deed):c8 ([.os 0,.v (.int .i64 a),.v (.int .i64 b),.fn 75 [] []]) ([.row .deed l_])=some (eJ (aK a b l_) (.tup []) [.row .deed (av a b l_)]):=eY (A:=fun x_:Int×Int×(List Deed) =>[.os 0,.v (.int .i64 x_.1),.v (.int .i64 x_.2.1),.fn 75 [] []]) (H:=fun x_=>[.row .deed x_.2.2]) (K:=fun x_=>eJ (aK x_.1 x_.2.1 x_.2.2) (.tup []) [.row .deed (av x_.1 x_.2.1 x_.2.2)]) (x:=(a,b,l_))
theorem gQ:FnOkO Tryz.prog 148 (c8):=by
 have hG:ConsOk Tryz.prog (mkG [(75,fun l=>gH (du [.st .deed,.st .deed] l))] []):=aw (cgc (jI.norm [.st .deed,.st .deed]) cg0) cg0;refine fO mixed an hG (fn:=Tryz.f148) (c:=ae Tryz.f148) kr kr kr kr fun l o con h=>?_;obtain⟨⟨a,b,l_⟩,rfl,rfl,rfl⟩:=dG h;clear h;try dsimp only
 refine⟨_,_,_,rfl,fun hp=>?_⟩;unfold aK at hp;refine⟨nbl rfl,(fun id st=>bif Nat.beq id 0 then some (LCV (ρ:=(List Deed)) (σ:=(List Deed×Int)) 1 [] [0] (fun k_0 s_0=>⟨[(0,.os 0),(1,.v (.int .i64 a)),(2,.v (.int .i64 b)),(3,.fn 75 [] []),(8,.v (.int .i64 s_0.2))],[.row .deed s_0.1]⟩) (az a b l_) (aP a b l_) (l_.length+1) (l_,(i64.wrap (a+1))) (fun _=>.normal) (fun x_0_0=>⟨[],[.row .deed x_0_0]⟩) st)else none),?_,?_⟩
 ·unfold ae Tryz.f148;simp only[am,true_and,and_true,and_assoc]
  ·refine eK mixed an hG kr (fun _=>rfl) fun k_0 s_0 hq0=>⟨(fun id st=>bif Nat.beq id 2 then some (LCV (ρ:=(List Deed)) (σ:=(List Deed×Int)) 1 [] [0] (fun k_1 s_1=>⟨[(0,.os 0),(1,.v (.int .i64 a)),(2,.v (.int .i64 b)),(3,.fn 75 [] []),(8,.v (.int .i64 s_0.2)),(9,.v (.int .i64 s_1.2))],[.row .deed s_1.1]⟩) (aH a l_) (a8 a l_) (l_.length+1) (s_0.1,s_0.2) (fun _=>.normal) (fun x_1_0=>⟨[(0,.os 0),(1,.v (.int .i64 a)),(2,.v (.int .i64 b)),(3,.fn 75 [] []),(8,.v (.int .i64 s_0.2))],[.row .deed x_1_0]⟩) st)else none),?_,?_⟩
   ·simp only[am,true_and,and_true]
    ·refine eK mixed an hG kr (fun _=>rfl) fun k_1 s_1 hq1=>⟨L0,ai _,?_⟩
     ·unfold a8 at hq1;exact cJ (jl [0])
   ·unfold aP at hq0;exact cJ (jl [0])
 ·unfold ae Tryz.f148;try unfold av
  exact cJ (jl [0])
@[go_sem] def bD (a:Int)(b:Int)(n:Int)(k_0:Nat)(s_0:List Deed):Empty⊕(List Deed):=.inr ((s_0.set (Int.toNat (i64.wrap (a+(k_0:Int)))) (s_0.getD (Int.toNat (i64.wrap (b+(k_0:Int)))) (default:Deed))).set (Int.toNat (i64.wrap (b+(k_0:Int)))) (s_0.getD (Int.toNat (i64.wrap (a+(k_0:Int)))) (default:Deed)))
def bQ (a:Int)(b:Int)(n:Int)(k_0:Nat)(s_0:List Deed):Prop:=((0≤(i64.wrap (b+(k_0:Int)))∧(i64.wrap (b+(k_0:Int))) < (s_0.length:Int))∧((0≤(i64.wrap (a+(k_0:Int)))∧(i64.wrap (a+(k_0:Int))) < (s_0.length:Int))∧((0≤(i64.wrap (a+(k_0:Int)))∧(i64.wrap (a+(k_0:Int))) < (s_0.length:Int))∧(0≤(i64.wrap (b+(k_0:Int)))∧(i64.wrap (b+(k_0:Int))) < ((s_0.set (Int.toNat (i64.wrap (a+(k_0:Int)))) (s_0.getD (Int.toNat (i64.wrap (b+(k_0:Int)))) (default:Deed))).length:Int)))))
def aS (a:Int)(b:Int)(n:Int)(l_:List Deed):List Deed:=(match ap (bD a b n) (Int.toNat n) 0 l_ with| .inl x=>x.elim| .inr s_0=>s_0)
def aM (a:Int)(b:Int)(n:Int)(l_:List Deed):Prop:=((n<9223372036854775808)∧okI (bD a b n) (bQ a b n) (Int.toNat n) 0 l_)
noncomputable def dH:List SV→List Ob→Option HCon:=gF (fun x_:Int×Int×Int×(List Deed) =>[.os 0,.v (.int .i64 x_.1),.v (.int .i64 x_.2.1),.v (.int .i64 x_.2.2.1),.fn 75 [] []]) (fun x_=>[.row .deed x_.2.2.2]) (fun x_=>eJ (aM x_.1 x_.2.1 x_.2.2.1 x_.2.2.2) (.tup []) [.row .deed (aS x_.1 x_.2.1 x_.2.2.1 x_.2.2.2)])
@[go_sem] theorem qC (a:Int)(b:Int)(n:Int)(l_:List Deed):dH ([.os 0,.v (.int .i64 a),.v (.int .i64 b),.v (.int .i64 n),.fn 75 [] []]) ([.row .deed l_])=some (eJ (aM a b n l_) (.tup []) [.row .deed (aS a b n l_)]):=eY (A:=fun x_:Int×Int×Int×(List Deed) =>[.os 0,.v (.int .i64 x_.1),.v (.int .i64 x_.2.1),.v (.int .i64 x_.2.2.1),.fn 75 [] []]) (H:=fun x_=>[.row .deed x_.2.2.2]) (K:=fun x_=>eJ (aM x_.1 x_.2.1 x_.2.2.1 x_.2.2.2) (.tup []) [.row .deed (aS x_.1 x_.2.1 x_.2.2.1 x_.2.2.2)]) (x:=(a,b,n,l_))
theorem iQ:FnOkO Tryz.prog 183 (dH):=by
 have hG:ConsOk Tryz.prog (mkG [] []):=aw cg0 cg0;refine fO mixed an hG (fn:=Tryz.f183) (c:=ae Tryz.f183) kr kr kr kr fun l o con h=>?_;obtain⟨⟨a,b,n,l_⟩,rfl,rfl,rfl⟩:=dG h;clear h;try dsimp only
 refine⟨_,_,_,rfl,fun hp=>?_⟩;unfold aM at hp;refine⟨nbl rfl,(fun id st=>bif Nat.beq id 0 then some (LCR (ρ:=Empty) (σ:=(List Deed)) 1 [] [0] (fun k_0 s_0=>⟨[(0,.os 0),(1,.v (.int .i64 a)),(2,.v (.int .i64 b)),(3,.v (.int .i64 n)),(10,.v (.int .i64 (k_0:Int)))],[.row .deed s_0]⟩) (bD a b n) (bQ a b n) (Int.toNat n) l_ (n<9223372036854775808) ((·.elim)) ((·.elim)) st)else none),?_,?_⟩
 ·unfold ae Tryz.f183;simp only[am,true_and,and_true,and_assoc]
  ·refine cL mixed an hG kr (fun _=>rfl) n rfl id (fun hb0 k_0 s_0 hlt0 hq0 hw hc=>⟨L0,ai _,?_⟩) (fun hb0 s_0 hc=>?_)
   ·unfold bQ at hq0;try simp only[hw,Int.toNat_natCast]at hq0
    exact bZ (jl [0])
   ·exact b6 (jl [0])
 ·unfold ae Tryz.f183;try unfold aS
  exact cJ (jl [0])
@[go_sem] def be (a:Int)(m:Int)(b:Int)(k_0:Nat)(s_0:List Deed×Int×Int):(Int×List Deed)⊕(List Deed×Int×Int):=(bif(s_0.2.1 !=s_0.2.2)then(bif(decide (s_0.2.1 > s_0.2.2))then .inr ((aS (i64.wrap (m - s_0.2.1)) m s_0.2.2 s_0.1),(i64.wrap (s_0.2.1 - s_0.2.2)),s_0.2.2)else .inr ((aS (i64.wrap (m - s_0.2.1)) (i64.wrap ((i64.wrap (m+s_0.2.2)) - s_0.2.1)) s_0.2.1 s_0.1),s_0.2.1,(i64.wrap (s_0.2.2 - s_0.2.1))))else .inl (s_0.2.1,s_0.1))
def ca (a:Int)(m:Int)(b:Int)(k_0:Nat)(s_0:List Deed×Int×Int):Prop:=((s_0.2.1 !=s_0.2.2)=true→(((decide (s_0.2.1 > s_0.2.2))=true→(aM (i64.wrap (m - s_0.2.1)) m s_0.2.2 s_0.1))∧((decide (s_0.2.1 > s_0.2.2))=false→(aM (i64.wrap (m - s_0.2.1)) (i64.wrap ((i64.wrap (m+s_0.2.2)) - s_0.2.1)) s_0.2.1 s_0.1))))
def ar (a:Int)(m:Int)(b:Int)(l_:List Deed):List Deed:=(match ap (be a m b) (Int.toNat (b - a)+1) 0 (l_,(i64.wrap (m - a)),(i64.wrap (b - m)))with| .inl x_0_0=>(aS (i64.wrap (m - x_0_0.1)) m x_0_0.1 x_0_0.2) | .inr s_0=>default)
def bi (a:Int)(m:Int)(b:Int)(l_:List Deed):Prop:=(okI (be a m b) (ca a m b) (Int.toNat (b - a)+1) 0 (l_,(i64.wrap (m - a)),(i64.wrap (b - m)))∧(∀ z_,ap (be a m b) (Int.toNat (b - a)+1) 0 (l_,(i64.wrap (m - a)),(i64.wrap (b - m)))≠ .inr z_)∧(∀ x_0_0,ap (be a m b) (Int.toNat (b - a)+1) 0 (l_,(i64.wrap (m - a)),(i64.wrap (b - m)))=.inl x_0_0→(aM (i64.wrap (m - x_0_0.1)) m x_0_0.1 x_0_0.2)))
noncomputable def d5:List SV→List Ob→Option HCon:=gF (fun x_:Int×Int×Int×(List Deed) =>[.os 0,.v (.int .i64 x_.1),.v (.int .i64 x_.2.1),.v (.int .i64 x_.2.2.1),.fn 75 [] []]) (fun x_=>[.row .deed x_.2.2.2]) (fun x_=>eJ (bi x_.1 x_.2.1 x_.2.2.1 x_.2.2.2) (.tup []) [.row .deed (ar x_.1 x_.2.1 x_.2.2.1 x_.2.2.2)])
@[go_sem] theorem sd (a:Int)(m:Int)(b:Int)(l_:List Deed):d5 ([.os 0,.v (.int .i64 a),.v (.int .i64 m),.v (.int .i64 b),.fn 75 [] []]) ([.row .deed l_])=some (eJ (bi a m b l_) (.tup []) [.row .deed (ar a m b l_)]):=eY (A:=fun x_:Int×Int×Int×(List Deed) =>[.os 0,.v (.int .i64 x_.1),.v (.int .i64 x_.2.1),.v (.int .i64 x_.2.2.1),.fn 75 [] []]) (H:=fun x_=>[.row .deed x_.2.2.2]) (K:=fun x_=>eJ (bi x_.1 x_.2.1 x_.2.2.1 x_.2.2.2) (.tup []) [.row .deed (ar x_.1 x_.2.1 x_.2.2.1 x_.2.2.2)]) (x:=(a,m,b,l_))
theorem jJ:FnOkO Tryz.prog 170 (d5):=by
 have hG:ConsOk Tryz.prog (mkG [] [(183,dH)]):=aw cg0 (cgc iQ cg0);refine fO mixed an hG (fn:=Tryz.f170) (c:=ae Tryz.f170) kr kr kr kr fun l o con h=>?_;obtain⟨⟨a,m,b,l_⟩,rfl,rfl,rfl⟩:=dG h;clear h;try dsimp only
 refine⟨_,_,_,rfl,fun hp=>?_⟩;unfold bi at hp;refine⟨nbl rfl,(fun id st=>bif Nat.beq id 0 then some (LCV (ρ:=(Int×List Deed)) (σ:=(List Deed×Int×Int)) 1 [] [0] (fun k_0 s_0=>⟨[(0,.os 0),(2,.v (.int .i64 m)),(4,.fn 75 [] []),(10,.v (.int .i64 s_0.2.1)),(11,.v (.int .i64 s_0.2.2))],[.row .deed s_0.1]⟩) (be a m b) (ca a m b) (Int.toNat (b - a)+1) (l_,(i64.wrap (m - a)),(i64.wrap (b - m))) (fun _=>.normal) (fun x_0_0=>⟨[(0,.os 0),(2,.v (.int .i64 m)),(4,.fn 75 [] []),(10,.v (.int .i64 x_0_0.1))],[.row .deed x_0_0.2]⟩) st)else none),?_,?_⟩
 ·unfold ae Tryz.f170;simp only[am,true_and,and_true,and_assoc]
  ·refine eK mixed an hG kr (fun _=>rfl) fun k_0 s_0 hq0=>⟨L0,ai _,?_⟩
   ·unfold ca at hq0;exact cJ (jl [0])
 ·unfold ae Tryz.f170;try unfold ar
  exact cJ (jl [0])
end Go.Sx
end
