/- Part of the proof that the law JudgementSpec returns true and leaves its arguments as they were, for all arguments of bulk at most 1048576 (the Upto form). -/
import Derived.Test.YtnanafpgfihjfaaGreatJ108
import Derived.Test.YtnanafpgfihjfaaGreatJ107
import Derived.Sort.Statements
import Derived.Shelf.SlSortCmp.Insertion
set_option linter.all false
set_option maxHeartbeats 4000000
set_option maxRecDepth 100000
section
namespace Go.Sx
open Go.Proofs
open IntKind (i64)
theorem rg {l0:List Nat}(a0:JL l0){p:Prop}(h:JL l0→p:=by intro ja;simp only[go_sem,Nat.reduceBEq,Nat.reduceLeDiff,Nat.reduceLT,decide_true,Nat.reduceAdd,Nat.reduceSub,Nat.reduceMul,Int.reduceLE,Int.reduceLT,Int.reduceToNat,Int.reduceNeg,reduceCtorEq];all_goals exact kX ja):p:=h a0
def zO (d:District):Bool:=((((((decide ((d.reaches.length:Int)≤100))&&(decide ((d.farms.length:Int)≤700)))&&(decide ((d.crops.length:Int)≤100)))&&(decide ((d.rights.length:Int)≤300)))&&(decide ((d.duties.length:Int)≤300)))&&(decide ((d.wells.length:Int)≤100)))
@[go_sem] def Aq:List SV→Option Con:=(pD .district fun d=>(pE (.det True (.v (.bool (zO d))))))
theorem E6:FnOk Tryz.prog 87 Aq:=by
 have hG:ConsOk Tryz.prog (mkG [] []):=aq cg0 cg0;refine ax [.o] mixed ak hG (fn:=Tryz.f87) (c:=aa Tryz.f87) kr kr kr kr (aM fun d=>(ai (fun hp=>?_)));dsimp only[ar]at hp;refine⟨nbl rfl,L0,ah _,?_⟩
 ·unfold aa Tryz.f87;try unfold zO
  exact zq1
def aD (n:Int)(lo:Int)(hi:Int):Bool:=((decide (n≥lo))&&(decide (n≤hi)))
@[go_sem] def jM:List SV→Option Con:=(pI fun n=>(pI fun lo=>(pI fun hi=>(pE (.det True (.v (.bool (aD n lo hi))))))))
theorem kY:FnOk Tryz.prog 152 jM:=by
 have hG:ConsOk Tryz.prog (mkG [] []):=aq cg0 cg0;refine ax [.o] mixed ak hG (fn:=Tryz.f152) (c:=aa Tryz.f152) kr kr kr kr (bt fun n=>(bt fun lo=>(bt fun hi=>(ai (fun hp=>?_)))));dsimp only[ar]at hp;refine⟨nbl rfl,L0,ah _,?_⟩
 ·unfold aa Tryz.f152;try unfold aD
  exact zq1
@[go_sem] def iw (b:Int)(k_0:Nat)(s_0:Int×Int):Int⊕(Int×Int):=(bif(decide (s_0.2 > 0))then .inr (s_0.2,(Int.tmod s_0.1 s_0.2))else .inl s_0.1)
def oI (b:Int)(k_0:Nat)(s_0:Int×Int):Prop:=((decide (s_0.2 > 0))=true→s_0.2≠0)
def n8 (a:Int)(b:Int):Int:=(match ay (iw b) (Int.toNat b+1) 0 (a,b)with| .inl x_0_0=>x_0_0| .inr s_0=>default)
def ou (a:Int)(b:Int):Prop:=(okI (iw b) (oI b) (Int.toNat b+1) 0 (a,b)∧(∀ z_,ay (iw b) (Int.toNat b+1) 0 (a,b)≠ .inr z_))
@[go_sem] def vJ:List SV→Option Con:=(pI fun a=>(pI fun b=>(pE (.det (ou a b) (.v (.int .i64 (n8 a b)))))))
theorem zP:FnOk Tryz.prog 269 vJ:=by
 have hG:ConsOk Tryz.prog (mkG [] []):=aq cg0 cg0;refine ax [.o] mixed ak hG (fn:=Tryz.f269) (c:=aa Tryz.f269) kr kr kr kr (bt fun a=>(bt fun b=>(ai (fun hp=>?_))));dsimp only[ar]at hp;unfold ou at hp;refine⟨nbl rfl,(fun id st=>bif Nat.beq id 0 then some (LCV (ρ:=Int) (σ:=(Int×Int)) 0 [] [] (fun k_0 s_0=>⟨[(0,.v (.int .i64 s_0.1)),(1,.v (.int .i64 s_0.2))],[]⟩) (iw b) (oI b) (Int.toNat b+1) (a,b) (fun _=>.normal) (fun x_0_0=>⟨[(0,.v (.int .i64 x_0_0))],[]⟩) st)else none),?_,?_⟩
 ·unfold aa Tryz.f269;simp only[ap,true_and,and_true]
  ·refine mq mixed ak hG kr (fun _=>rfl) fun k_0 s_0 hq0=>⟨L0,ah _,?_⟩
   ·unfold oI at hq0;exact rg (jl [])
 ·unfold aa Tryz.f269;try unfold n8
  exact zq1
def qi (n:Int):Int:=(bif(decide (n<0))then(i64.wrap (0 - n))else n)
@[go_sem] def yT:List SV→Option Con:=(pI fun n=>(pE (.det True (.v (.int .i64 (qi n))))))
theorem Db:FnOk Tryz.prog 270 yT:=by
 have hG:ConsOk Tryz.prog (mkG [] []):=aq cg0 cg0;refine ax [.o] mixed ak hG (fn:=Tryz.f270) (c:=aa Tryz.f270) kr kr kr kr (bt fun n=>(ai (fun hp=>?_)));dsimp only[ar]at hp;refine⟨nbl rfl,L0,ah _,?_⟩
 ·unfold aa Tryz.f270;try unfold qi
  exact zq1
def gM (a:Ratio):Bool:=(((((decide (a.d≥1))&&(decide (a.d≤1073741824)))&&(decide (a.n≥(-1073741824))))&&(decide (a.n≤1073741824)))&&((n8 (qi a.n) a.d) ==1))
def lm (a:Ratio):Prop:=(((((decide (a.d≥1))&&(decide (a.d≤1073741824)))&&(decide (a.n≥(-1073741824))))&&(decide (a.n≤1073741824)))=true→(ou (qi a.n) a.d))
@[go_sem] def tX:List SV→Option Con:=(pD .ratio fun a=>(pE (.det (lm a) (.v (.bool (gM a))))))
theorem wF:FnOk Tryz.prog 264 tX:=by
 have hG:ConsOk Tryz.prog (mkG [(269,vJ),(270,yT)] []):=aq (cgc zP (cgc Db cg0)) cg0;refine ax [.o] mixed ak hG (fn:=Tryz.f264) (c:=aa Tryz.f264) kr kr kr kr (aM fun a=>(ai (fun hp=>?_)));dsimp only[ar]at hp;unfold lm at hp;refine⟨nbl rfl,L0,ah _,?_⟩
 ·unfold aa Tryz.f264;try unfold gM
  exact zq1
def i0 (a:Ratio):Int:=(bif(!(gM a))then 120 else 0)
def qF (a:Ratio):Prop:=(lm a)
@[go_sem] def xA:List SV→Option Con:=(pD .ratio fun a=>(pE (.det (qF a) (.v (.int .i64 (i0 a))))))
theorem Cj:FnOk Tryz.prog 254 xA:=by
 have hG:ConsOk Tryz.prog (mkG [(264,tX)] []):=aq (cgc wF cg0) cg0;refine ax [.o] mixed ak hG (fn:=Tryz.f254) (c:=aa Tryz.f254) kr kr kr kr (aM fun a=>(ai (fun hp=>?_)));dsimp only[ar]at hp;unfold qF at hp;refine⟨nbl rfl,L0,ah _,?_⟩
 ·unfold aa Tryz.f254;try unfold i0
  exact zq1
def sP (a:Ratio)(b:Ratio):Bool:=(decide ((i64.wrap (a.n*b.d)) < (i64.wrap (b.n*a.d))))
@[go_sem] def yU:List SV→Option Con:=(pD .ratio fun a=>(pD .ratio fun b=>(pE (.det True (.v (.bool (sP a b)))))))
theorem Dc:FnOk Tryz.prog 266 yU:=by
 have hG:ConsOk Tryz.prog (mkG [] []):=aq cg0 cg0;refine ax [.o] mixed ak hG (fn:=Tryz.f266) (c:=aa Tryz.f266) kr kr kr kr (aM fun a=>(aM fun b=>(ai (fun hp=>?_))));dsimp only[ar]at hp;refine⟨nbl rfl,L0,ah _,?_⟩
 ·unfold aa Tryz.f266;try unfold sP
  exact zq1
def sQ (a:Ratio)(b:Ratio):Bool:=((gM a)&&(gM b))
def so (a:Ratio)(b:Ratio):Prop:=((lm a)∧((gM a)=true→(lm b)))
@[go_sem] def yV:List SV→Option Con:=(pD .ratio fun a=>(pD .ratio fun b=>(pE (.det (so a b) (.v (.bool (sQ a b)))))))
theorem Dd:FnOk Tryz.prog 265 yV:=by
 have hG:ConsOk Tryz.prog (mkG [(264,tX)] []):=aq (cgc wF cg0) cg0;refine ax [.o] mixed ak hG (fn:=Tryz.f265) (c:=aa Tryz.f265) kr kr kr kr (aM fun a=>(aM fun b=>(ai (fun hp=>?_))));dsimp only[ar]at hp;unfold so at hp;refine⟨nbl rfl,L0,ah _,?_⟩
 ·unfold aa Tryz.f265;try unfold sQ
  exact zq1
def qj (a:Ratio)(b:Ratio):Int×Int:=(bif(!(sQ a b))then(0,120)else(bif(sP a b)then((-1),0)else(bif(sP b a)then(1,0)else(0,0))))
def wG (a:Ratio)(b:Ratio):Prop:=(so a b)
@[go_sem] def Ar:List SV→Option Con:=(pD .ratio fun a=>(pD .ratio fun b=>(pE (.det (wG a b) (.tup [.v (.int .i64 ((qj a b).1)),.v (.int .i64 ((qj a b).2))])))))
theorem E7:FnOk Tryz.prog 255 Ar:=by
 have hG:ConsOk Tryz.prog (mkG [(265,yV),(266,yU)] []):=aq (cgc Dd (cgc Dc cg0)) cg0;refine ax [.o,.o] mixed ak hG (fn:=Tryz.f255) (c:=aa Tryz.f255) kr kr kr kr (aM fun a=>(aM fun b=>(ai (fun hp=>?_))));dsimp only[ar]at hp;unfold wG at hp;refine⟨nbl rfl,L0,ah _,?_⟩
 ·unfold aa Tryz.f255;try unfold qj
  exact zq1
def gI (x:Ratio×Ratio):Bool:=(bif(((i0 x.1) !=0) ||((i0 x.2) !=0))then false else(((decide (x.1.n≥0))&&(decide ((qj x.1 x.2).1≤0)))&&(decide (x.2.n≤x.2.d))))
def pr (x:Ratio×Ratio):Prop:=((qF x.1)∧((((i0 x.1) !=0)=false→(qF x.2))∧((((i0 x.1) !=0) ||((i0 x.2) !=0))=false→(wG x.1 x.2))))
@[go_sem] def wH:List SV→Option Con:=(pD .ratio2 fun x=>(pE (.det (pr x) (.v (.bool (gI x))))))
theorem AO:FnOk Tryz.prog 230 wH:=by
 have hG:ConsOk Tryz.prog (mkG [(254,xA),(255,Ar)] []):=aq (cgc Cj (cgc E7 cg0)) cg0;refine ax [.o] mixed ak hG (fn:=Tryz.f230) (c:=aa Tryz.f230) kr kr kr kr (aM fun x=>(ai (fun hp=>?_)));dsimp only[ar]at hp;unfold pr at hp;refine⟨nbl rfl,L0,ah _,?_⟩
 ·unfold aa Tryz.f230;try unfold gI
  exact zq1
def rh (x:Reach):Bool:=(bif(((!(aD x.delay 1 16)) ||(!(aD x.cap 0 1073741824))) ||(!(aD x.bank 0 1099511627776)))then false else(bif(((!(aD x.siphon 0 (if x.bank<x.cap then x.bank else x.cap))) ||(!(aD x.evap.lo 0 x.evap.hi))) ||(decide (x.evap.hi > 1073741824)))then false else(gI x.seep)))
def qG (x:Reach):Prop:=((((!(aD x.delay 1 16)) ||(!(aD x.cap 0 1073741824))) ||(!(aD x.bank 0 1099511627776)))=false→((((!(aD x.siphon 0 (if x.bank<x.cap then x.bank else x.cap))) ||(!(aD x.evap.lo 0 x.evap.hi))) ||(decide (x.evap.hi > 1073741824)))=false→(pr x.seep)))
@[go_sem] def xB:List SV→Option Con:=(pD .reach fun x=>(pE (.det (qG x) (.v (.bool (rh x))))))
theorem Ck:FnOk Tryz.prog 202 xB:=by
 have hG:ConsOk Tryz.prog (mkG [(152,jM),(230,wH)] []):=aq (cgc kY (cgc AO cg0)) cg0;refine ax [.o] mixed ak hG (fn:=Tryz.f202) (c:=aa Tryz.f202) kr kr kr kr (aM fun x=>(ai (fun hp=>?_)));dsimp only[ar]at hp;unfold qG at hp;refine⟨nbl rfl,L0,ah _,?_⟩
 ·unfold aa Tryz.f202;try unfold rh
  exact zq1
@[go_sem] def ix (l_:List Reach)(k_0:Nat)(s_0:Unit):Unit⊕Unit:=(bif((((k_0:Int) ==0)&&((l_.getD k_0 (default:Reach)).up !=(-1))) ||((decide ((k_0:Int) > 0))&&(!(aD ((l_.getD k_0 (default:Reach)).up) 0 (i64.wrap ((k_0:Int) - 1))))))then .inl ()else(bif(!(rh (l_.getD k_0 (default:Reach))))then .inl ()else .inr ()))
def oJ (l_:List Reach)(k_0:Nat)(s_0:Unit):Prop:=(l_.length≤aJ→(((((k_0:Int) ==0)&&((l_.getD k_0 (default:Reach)).up !=(-1))) ||((decide ((k_0:Int) > 0))&&(!(aD ((l_.getD k_0 (default:Reach)).up) 0 (i64.wrap ((k_0:Int) - 1))))))=false→(qG (l_.getD k_0 (default:Reach)))))
def n9 (l_:List Reach):Bool:=(match ay (ix l_) l_.length 0 ()with| .inl x_0_0=>false| .inr s_0=>(decide ((l_.length:Int) > 0)))
def rS (l_:List Reach):Prop:=okI (ix l_) (oJ l_) l_.length 0 ()
@[go_sem] def vK:List SV→Option Con:=(pR .reach fun l_=>(pE (.det (rS l_) (.v (.bool (n9 l_))))))
theorem zQ:FnOk Tryz.prog 153 vK:=by
 have hG:ConsOk Tryz.prog (mkG [(152,jM),(202,xB)] []):=aq (cgc kY (cgc Ck cg0)) cg0;refine ax [.o] mixed ak hG (fn:=Tryz.f153) (c:=aa Tryz.f153) kr kr kr kr (a8 fun l_=>(ai (fun hp=>?_)));dsimp only[ar]at hp;unfold rS at hp;refine⟨nbl rfl,(fun id st=>bif Nat.beq id 0 then some (LCR (ρ:=Unit) (σ:=Unit) 0 [] [] (fun k_0 s_0=>⟨[(0,.rs .reach l_),(3,.v (.int .i64 (k_0:Int)))],[]⟩) (ix l_) (oJ l_) l_.length () (True) (fun _=>.ret) (fun x_0_0=>⟨[(2,.v (.bool false))],[]⟩) st)else none),?_,?_⟩
 ·unfold aa Tryz.f153;simp only[ap,true_and,and_true]
  ·refine ig (l_.length≤aJ) mixed ak hG kr (fun _=>rfl) (l_.length:Int) rfl fD (fun hb0 k_0 s_0 hlt0 hq0 hw hc=>⟨L0,ah _,?_⟩) (fun hb0 s_0 hc=>?_) fun hb0 k_0 s_0=>?_
   ·unfold oJ at hq0;try simp only[hw,Int.toNat_natCast]at hq0
    exact aY (jl [])
   ·exact aX (jl [])
   ·exact zq7
 ·unfold aa Tryz.f153;try unfold n9
  exact zq1
@[go_sem] def mr (a0:District)(k_0:Nat)(s_0:Unit):Unit⊕Unit:=(bif(!(aD ((a0.crops.getD k_0 (default:Crop)).need) 0 1048576))then .inl ()else .inr ())
@[go_sem] def mt (a0:District)(k_1:Nat)(s_1:Unit):Unit⊕Unit:=(bif((!(aD ((a0.farms.getD k_1 (default:Farm)).reach) 0 (i64.wrap ((a0.reaches.length:Int) - 1)))) ||(!(aD ((a0.farms.getD k_1 (default:Farm)).area) 0 1048576)))then .inl ()else(bif((((a0.farms.getD k_1 (default:Farm)).area==0)&&((a0.farms.getD k_1 (default:Farm)).crop !=(-1))) ||((decide ((a0.farms.getD k_1 (default:Farm)).area > 0))&&(!(aD ((a0.farms.getD k_1 (default:Farm)).crop) 0 (i64.wrap ((a0.crops.length:Int) - 1))))))then .inl ()else .inr ()))
def ri (a0:District):Bool:=(match ay (mr a0) a0.crops.length 0 ()with| .inl x_0_0=>false| .inr s_0=>(match ay (mt a0) a0.farms.length 0 ()with| .inl x_1_0=>false| .inr s_1=>true))
@[go_sem] def xC:List SV→Option Con:=(pD .district fun a0=>(pE (.det True (.v (.bool (ri a0))))))
theorem TN {p:Prop}(h:p:=by simp only[go_sem,Nat.reduceBEq,Nat.reduceLeDiff,Nat.reduceLT,decide_true,Nat.reduceAdd,Nat.reduceSub,Nat.reduceMul,Int.reduceLE,Int.reduceLT,Int.reduceToNat,Int.reduceNeg,reduceCtorEq,hb1]):p:=h
theorem Cl:FnOk Tryz.prog 154 xC:=by
 have hG:ConsOk Tryz.prog (mkG [(152,jM)] []):=aq (cgc kY cg0) cg0;refine ax [.o] mixed ak hG (fn:=Tryz.f154) (c:=aa Tryz.f154) kr kr kr kr (aM fun a0=>(ai (fun hp=>?_)));dsimp only[ar]at hp;refine⟨nbl rfl,(fun id st=>bif Nat.beq id 0 then some (LCR (ρ:=Unit) (σ:=Unit) 1 [] [0] (fun k_0 s_0=>⟨[(1,.ptr 0 0),(3,.v (.int .i64 (k_0:Int)))],[.cells (cellsOf .district a0)]⟩) (mr a0) pT a0.crops.length () (True) (fun _=>.ret) (fun x_0_0=>⟨[(2,.v (.bool false))],[.dead]⟩) st)else bif Nat.beq id 2 then some (LCR (ρ:=Unit) (σ:=Unit) 1 [] [0] (fun k_1 s_1=>⟨[(1,.ptr 0 0),(4,.v (.int .i64 (k_1:Int)))],[.cells (cellsOf .district a0)]⟩) (mt a0) pT a0.farms.length () (True) (fun _=>.ret) (fun x_1_0=>⟨[(2,.v (.bool false))],[.dead]⟩) st)else none),?_,?_⟩
 ·unfold aa Tryz.f154;simp only[ap,true_and,and_true];refine⟨?_,?_⟩
  ·refine ig (a0.crops.length≤aJ) mixed ak hG kr (fun _=>rfl) (a0.crops.length:Int) rfl fD (fun hb0 k_0 s_0 hlt0 _ hw hc=>⟨L0,ah _,?_⟩) (fun hb0 s_0 hc=>?_) fun hb0 k_0 s_0=>?_
   ·exact aY (jl [0])
   ·exact aX (jl [0])
   ·exact zq7
  ·refine ig (a0.farms.length≤aJ) mixed ak hG kr (fun _=>rfl) (a0.farms.length:Int) rfl fD (fun hb1 k_1 s_1 hlt1 _ hw hc=>⟨L0,ah _,?_⟩) (fun hb1 s_1 hc=>?_) fun hb1 k_1 s_1=>?_
   ·exact aY (jl [0])
   ·exact aX (jl [0])
   ·exact TN
 ·unfold aa Tryz.f154;try unfold ri
  exact zq1
def rj (a0:District)(a1:Right):Bool:=(bif((((!(aD a1.farm 0 (i64.wrap ((a0.farms.length:Int) - 1)))) ||(!(aD a1.reach 0 (i64.wrap ((a0.reaches.length:Int) - 1))))) ||(!(aD a1.since 0 a1.to))) ||(decide (a1.to≥a0.hours)))then false else(bif(a1.kind==1)then(((((a1.reach==0)&&(aD a1.rank 0 1048576))&&(aD a1.litres 1 1073741824))&&(aD a1.length 1 a1.every))&&(decide (a1.every≤a0.hours)))else(bif(a1.kind==2)then((((((a1.rank==0)&&(a1.litres==0))&&(a1.every==0))&&(a1.length==0))&&(a1.since==0))&&(a1.to==(i64.wrap (a0.hours - 1))))else(bif(a1.kind==3)then((((a1.rank==0)&&(a1.litres==0))&&(a1.every==0))&&(a1.length==0))else false))))
@[go_sem] def xD:List SV→Option Con:=(pD .district fun a0=>(pD .right fun a1=>(pE (.det True (.v (.bool (rj a0 a1)))))))
theorem Cm:FnOk Tryz.prog 155 xD:=by
 have hG:ConsOk Tryz.prog (mkG [(152,jM)] []):=aq (cgc kY cg0) cg0;refine ax [.o] mixed ak hG (fn:=Tryz.f155) (c:=aa Tryz.f155) kr kr kr kr (aM fun a0=>(aM fun a1=>(ai (fun hp=>?_))));dsimp only[ar]at hp;refine⟨nbl rfl,L0,ah _,?_⟩
 ·unfold aa Tryz.f155;try unfold rj
  exact zq1
@[go_sem] def mu (a0:District)(k_0:Nat)(s_0:Unit):Unit⊕Unit:=(bif(!(rj a0 (a0.rights.getD k_0 (default:Right))))then .inl ()else .inr ())
@[go_sem] def mv (a0:District)(k_1:Nat)(s_1:Unit):Unit⊕Unit:=(bif(((!(aD ((a0.duties.getD k_1 (default:Duty)).farm) 0 (i64.wrap ((a0.farms.length:Int) - 1)))) ||(!(aD ((a0.duties.getD k_1 (default:Duty)).reach) 0 (i64.wrap ((a0.reaches.length:Int) - 1))))) ||(!(aD ((a0.duties.getD k_1 (default:Duty)).due) 0 a0.hours)))then .inl ()else .inr ())
def oX (a0:District):Bool:=(bif(((!(aD a0.hours 1 4096)) ||(!(aD a0.tank.start 0 a0.tank.cap))) ||(decide (a0.tank.cap > 1099511627776)))then false else(bif((!(n9 a0.reaches)) ||(!(ri a0)))then false else(match ay (mu a0) a0.rights.length 0 ()with| .inl x_0_0=>false| .inr s_0=>(match ay (mv a0) a0.duties.length 0 ()with| .inl x_1_0=>false| .inr s_1=>true))))
def qH (a0:District):Prop:=((((!(aD a0.hours 1 4096)) ||(!(aD a0.tank.start 0 a0.tank.cap))) ||(decide (a0.tank.cap > 1099511627776)))=false→(rS a0.reaches))
@[go_sem] def xE:List SV→Option Con:=(pD .district fun a0=>(pE (.det (qH a0) (.v (.bool (oX a0))))))
theorem Cn:FnOk Tryz.prog 110 xE:=by
 have hG:ConsOk Tryz.prog (mkG [(152,jM),(153,fun l=>vK (a7 [.sl .reach] l)),(154,fun l=>xC (a7 [.st .district] l)),(155,fun l=>xD (a7 [.st .district,.st .right] l))] []):=aq (cgc kY (cgc (zQ.norm [.sl .reach]) (cgc (Cl.norm [.st .district]) (cgc (Cm.norm [.st .district,.st .right]) cg0)))) cg0;refine ax [.o] mixed ak hG (fn:=Tryz.f110) (c:=aa Tryz.f110) kr kr kr kr (aM fun a0=>(ai (fun hp=>?_)));dsimp only[ar]at hp;unfold qH at hp;refine⟨nbl rfl,(fun id st=>bif Nat.beq id 0 then some (LCR (ρ:=Unit) (σ:=Unit) 1 [] [0] (fun k_0 s_0=>⟨[(1,.ptr 0 0),(3,.v (.int .i64 (k_0:Int)))],[.cells (cellsOf .district a0)]⟩) (mu a0) pT a0.rights.length () (True) (fun _=>.ret) (fun x_0_0=>⟨[(2,.v (.bool false))],[.dead]⟩) st)else bif Nat.beq id 2 then some (LCR (ρ:=Unit) (σ:=Unit) 1 [] [0] (fun k_1 s_1=>⟨[(1,.ptr 0 0),(4,.v (.int .i64 (k_1:Int)))],[.cells (cellsOf .district a0)]⟩) (mv a0) pT a0.duties.length () (True) (fun _=>.ret) (fun x_1_0=>⟨[(2,.v (.bool false))],[.dead]⟩) st)else none),?_,?_⟩
 ·unfold aa Tryz.f110;simp only[ap,true_and,and_true];refine⟨?_,?_⟩
  ·refine ig (a0.rights.length≤aJ) mixed ak hG kr (fun _=>rfl) (a0.rights.length:Int) rfl fD (fun hb0 k_0 s_0 hlt0 _ hw hc=>⟨L0,ah _,?_⟩) (fun hb0 s_0 hc=>?_) fun hb0 k_0 s_0=>?_
   ·exact aY (jl [0])
   ·exact aX (jl [0])
   ·exact zq7
  ·refine ig (a0.duties.length≤aJ) mixed ak hG kr (fun _=>rfl) (a0.duties.length:Int) rfl fD (fun hb1 k_1 s_1 hlt1 _ hw hc=>⟨L0,ah _,?_⟩) (fun hb1 s_1 hc=>?_) fun hb1 k_1 s_1=>?_
   ·exact aY (jl [0])
   ·exact aX (jl [0])
   ·exact TN
 ·unfold aa Tryz.f110;try unfold oX
  exact zq1
def eJ (d:District):Int:=(bif(((((decide ((d.reaches.length:Int) > 64)) ||(decide ((d.farms.length:Int) > 600))) ||(decide ((d.crops.length:Int) > 32))) ||(decide ((d.rights.length:Int) > 256))) ||(decide ((d.duties.length:Int) > 256)))then 2 else(bif(!(oX d))then 191 else 0))
def n_ (d:District):Prop:=(d.reaches.length≤aJ→((((((decide ((d.reaches.length:Int) > 64)) ||(decide ((d.farms.length:Int) > 600))) ||(decide ((d.crops.length:Int) > 32))) ||(decide ((d.rights.length:Int) > 256))) ||(decide ((d.duties.length:Int) > 256)))=false→(qH d)))
@[go_sem] def tY:List SV→Option Con:=(pD .district fun d=>(pE (.det (n_ d) (.v (.int .i64 (eJ d))))))
theorem wI:FnOk Tryz.prog 60 tY:=by
 have hG:ConsOk Tryz.prog (mkG [(110,fun l=>xE (a7 [.st .district] l))] []):=aq (cgc (Cn.norm [.st .district]) cg0) cg0;refine ax [.o] mixed ak hG (fn:=Tryz.f60) (c:=aa Tryz.f60) kr kr kr kr (aM fun d=>(ai (fun hp=>?_)));dsimp only[ar]at hp;unfold n_ at hp;refine⟨nbl rfl,L0,ah _,?_⟩
 ·unfold aa Tryz.f60;try unfold eJ
  exact zq1
@[go_sem] def qI (a:List Claim)(b:List Claim)(k_0:Nat)(s_0:Unit):Unit⊕Unit:=(bif(!(((a.getD k_0 (default:Claim)).right==(b.getD k_0 (default:Claim)).right)&&(((a.getD k_0 (default:Claim)).farm==(b.getD k_0 (default:Claim)).farm)&&(((a.getD k_0 (default:Claim)).hour==(b.getD k_0 (default:Claim)).hour)&&(((a.getD k_0 (default:Claim)).litres==(b.getD k_0 (default:Claim)).litres)&&((a.getD k_0 (default:Claim)).rank==(b.getD k_0 (default:Claim)).rank))))))then .inl ()else .inr ())
def rT (a:List Claim)(b:List Claim)(k_0:Nat)(s_0:Unit):Prop:=(a.length≤aJ→(0≤(k_0:Int)∧(k_0:Int) < (b.length:Int)))
def mw (a:List Claim)(b:List Claim):Bool:=(bif((a.length:Int) !=(b.length:Int))then false else(match ay (qI a b) a.length 0 ()with| .inl x_0_0=>false| .inr s_0=>true))
def nr (a:List Claim)(b:List Claim):Prop:=(a.length≤aJ→(b.length≤aJ→(((a.length:Int) !=(b.length:Int))=false→okI (qI a b) (rT a b) a.length 0 ())))
@[go_sem] def vt:List SV→Option Con:=(pR .claim fun a=>(pR .claim fun b=>(pE (.det (nr a b) (.v (.bool (mw a b)))))))
theorem xF:FnOk Tryz.prog 18 vt:=by
 have hG:ConsOk Tryz.prog (mkG [] []):=aq cg0 cg0;refine ax [.o] mixed ak hG (fn:=Tryz.f18) (c:=aa Tryz.f18) kr kr kr kr (a8 fun a=>(a8 fun b=>(ai (fun hp=>?_))));dsimp only[ar]at hp;unfold nr at hp;refine⟨nbl rfl,(fun id st=>bif Nat.beq id 0 then some (LCR (ρ:=Unit) (σ:=Unit) 0 [] [] (fun k_0 s_0=>⟨[(0,.rs .claim a),(1,.rs .claim b),(5,.v (.int .i64 (k_0:Int)))],[]⟩) (qI a b) (rT a b) a.length () (True) (fun _=>.ret) (fun x_0_0=>⟨[(4,.v (.bool false))],[]⟩) st)else none),?_,?_⟩
 ·unfold aa Tryz.f18;simp only[ap,true_and,and_true]
  ·refine ig (a.length≤aJ) mixed ak hG kr (fun _=>rfl) (a.length:Int) rfl fD (fun hb0 k_0 s_0 hlt0 hq0 hw hc=>⟨L0,ah _,?_⟩) (fun hb0 s_0 hc=>?_) fun hb0 k_0 s_0=>?_
   ·unfold rT at hq0;try simp only[hw,Int.toNat_natCast]at hq0
    exact aY (jl [])
   ·exact aX (jl [])
   ·exact zq7
 ·unfold aa Tryz.f18;try unfold mw
  exact zq1
def aG (a:Claim)(b:Claim):Bool:=(bif(a.hour !=b.hour)then(decide (a.hour<b.hour))else(bif(a.rank !=b.rank)then(decide (a.rank<b.rank))else(bif(a.right !=b.right)then(decide (a.right<b.right))else(decide (a.farm<b.farm)))))
@[go_sem] def sR:List SV→Option Con:=(pD .claim fun a=>(pD .claim fun b=>(pE (.det True (.v (.bool (aG a b)))))))
theorem vL:FnOk Tryz.prog 99 sR:=by
 have hG:ConsOk Tryz.prog (mkG [] []):=aq cg0 cg0;refine ax [.o] mixed ak hG (fn:=Tryz.f99) (c:=aa Tryz.f99) kr kr kr kr (aM fun a=>(aM fun b=>(ai (fun hp=>?_))));dsimp only[ar]at hp;refine⟨nbl rfl,L0,ah _,?_⟩
 ·unfold aa Tryz.f99;try unfold aG
  exact zq1
def i4 (a0:District)(a1:Claim):Bool:=(bif((((((((decide (a1.right<0)) ||(decide (a1.right≥(a0.rights.length:Int)))) ||(decide (a1.farm<0))) ||(decide (a1.farm≥(a0.farms.length:Int)))) ||(decide (a1.hour<0))) ||(decide (a1.hour≥a0.hours))) ||(decide (a1.litres<1))) ||(decide (a1.litres > 1073741824)))then false else(((a0.rights.getD (Int.toNat a1.right) (default:Right)).kind==1)&&((a0.rights.getD (Int.toNat a1.right) (default:Right)).rank==a1.rank)))
def oa (a0:District)(a1:Claim):Prop:=(((((((((decide (a1.right<0)) ||(decide (a1.right≥(a0.rights.length:Int)))) ||(decide (a1.farm<0))) ||(decide (a1.farm≥(a0.farms.length:Int)))) ||(decide (a1.hour<0))) ||(decide (a1.hour≥a0.hours))) ||(decide (a1.litres<1))) ||(decide (a1.litres > 1073741824)))=false→((0≤a1.right∧a1.right< (a0.rights.length:Int))∧(((a0.rights.getD (Int.toNat a1.right) (default:Right)).kind==1)=true→(0≤a1.right∧a1.right< (a0.rights.length:Int)))))
@[go_sem] def xG:List SV→Option Con:=(pD .district fun a0=>(pD .claim fun a1=>(pE (.det (oa a0 a1) (.v (.bool (i4 a0 a1)))))))
theorem Co:FnOk Tryz.prog 98 xG:=by
 have hG:ConsOk Tryz.prog (mkG [] []):=aq cg0 cg0;refine ax [.o] mixed ak hG (fn:=Tryz.f98) (c:=aa Tryz.f98) kr kr kr kr (aM fun a0=>(aM fun a1=>(ai (fun hp=>?_))));dsimp only[ar]at hp;unfold oa at hp;refine⟨nbl rfl,L0,ah _,?_⟩
 ·unfold aa Tryz.f98;try unfold i4
  exact zq1
@[go_sem] def my (d:District)(c:List Claim)(k_0:Nat)(s_0:Unit):Unit⊕Unit:=(bif((!(i4 d (c.getD k_0 (default:Claim)))) ||((decide ((k_0:Int) > 0))&&(!(aG (c.getD (Int.toNat (i64.wrap ((k_0:Int) - 1))) (default:Claim)) (c.getD k_0 (default:Claim))))))then .inl ()else .inr ())
def qk (d:District)(c:List Claim)(k_0:Nat)(s_0:Unit):Prop:=(c.length≤aJ→((oa d (c.getD k_0 (default:Claim)))∧((!(i4 d (c.getD k_0 (default:Claim))))=false→((decide ((k_0:Int) > 0))=true→(0≤(i64.wrap ((k_0:Int) - 1))∧(i64.wrap ((k_0:Int) - 1)) < (c.length:Int))))))
def mz (d:District)(c:List Claim):Int:=(bif((eJ d) !=0)then(eJ d)else(bif(decide ((c.length:Int) > 4096))then 2 else(match ay (my d c) c.length 0 ()with| .inl x_0_0=>260| .inr s_0=>0)))
def qJ (d:District)(c:List Claim):Prop:=((n_ d)∧(((eJ d) !=0)=false→(c.length≤aJ→((decide ((c.length:Int) > 4096))=false→okI (my d c) (qk d c) c.length 0 ()))))
@[go_sem] def xH:List SV→Option Con:=(pD .district fun d=>(pR .claim fun c=>(pE (.det (qJ d c) (.v (.int .i64 (mz d c)))))))
theorem Cp:FnOk Tryz.prog 50 xH:=by
 have hG:ConsOk Tryz.prog (mkG [(60,fun l=>tY (a7 [.st .district] l)),(98,fun l=>xG (a7 [.st .district,.st .claim] l)),(99,sR)] []):=aq (cgc (wI.norm [.st .district]) (cgc (Co.norm [.st .district,.st .claim]) (cgc vL cg0))) cg0;refine ax [.o] mixed ak hG (fn:=Tryz.f50) (c:=aa Tryz.f50) kr kr kr kr (aM fun d=>(a8 fun c=>(ai (fun hp=>?_))));dsimp only[ar]at hp;unfold qJ at hp;refine⟨nbl rfl,(fun id st=>bif Nat.beq id 0 then some (LCR (ρ:=Unit) (σ:=Unit) 1 [] [0] (fun k_0 s_0=>⟨[(1,.rs .claim c),(2,.ptr 0 0),(6,.v (.int .i64 (k_0:Int)))],[.cells (cellsOf .district d)]⟩) (my d c) (qk d c) c.length () (True) (fun _=>.ret) (fun x_0_0=>⟨[(4,.v (.int .i64 260))],[.dead]⟩) st)else none),?_,?_⟩
 ·unfold aa Tryz.f50;simp only[ap,true_and,and_true]
  ·refine ig (c.length≤aJ) mixed ak hG kr (fun _=>rfl) (c.length:Int) rfl fD (fun hb0 k_0 s_0 hlt0 hq0 hw hc=>⟨L0,ah _,?_⟩) (fun hb0 s_0 hc=>?_) fun hb0 k_0 s_0=>?_
   ·unfold qk at hq0;try simp only[hw,Int.toNat_natCast]at hq0
    exact aY (jl [0])
   ·exact aX (jl [0])
   ·exact zq7
 ·unfold aa Tryz.f50;try unfold mz
  exact zq1
def ov (d:District)(c:List Claim):Bool:=((zO d)&&((decide ((c.length:Int)≤300)) ||((decide ((c.length:Int) > 4096))&&(decide ((c.length:Int)≤5000)))))
@[go_sem] def tL:List SV→Option Con:=(pD .district fun d=>(pR .claim fun c=>(pE (.det True (.v (.bool (ov d c)))))))
theorem yc:FnOk Tryz.prog 41 tL:=by
 have hG:ConsOk Tryz.prog (mkG [(87,fun l=>Aq (a7 [.st .district] l))] []):=aq (cgc (E6.norm [.st .district]) cg0) cg0;refine ax [.o] mixed ak hG (fn:=Tryz.f41) (c:=aa Tryz.f41) kr kr kr kr (aM fun d=>(a8 fun c=>(ai (fun hp=>?_))));dsimp only[ar]at hp;refine⟨nbl rfl,L0,ah _,?_⟩
 ·unfold aa Tryz.f41;try unfold ov
  exact zq1
end Go.Sx
end
section
namespace Go.Sx
theorem QD {κ υ:Type}[DecidableEq κ](l:List (κ×υ))(x z:κ)(y:υ):kf (wb l x y) z=if z=x then some y else kf l z:=by
 induction l with
 |nil=>simp[wb,kf]
 |cons a r ih=>
  obtain⟨a,b⟩:=a;unfold wb;by_cases h:x=a
  ·subst h;simp only[if_pos];unfold kf;by_cases hz:z=x <;>simp[hz]
  ·rw[if_neg h];unfold kf;by_cases hz:z=a
   ·subst hz;rw[if_pos rfl,if_neg (fun e=>h e.symm),if_pos rfl]
   ·rw[if_neg hz,ih,if_neg hz]
def sS {κ υ:Type}(l:List (κ×υ)):List κ:=l.map fun p=>p.1
theorem D1 {κ υ:Type}[DecidableEq κ]:∀ {l:List (κ×υ)} {x:κ},x ∉ sS l→kf l x=none
 | [],_,_=>rfl
 |(a,b)::r,x,h=>by
  unfold kf;rw[if_neg (fun e=>h (by simp[sS,e]))];exact D1 fun hm=>h (by simp only[sS,List.map_cons,List.mem_cons]at hm ⊢;exact .inr hm)
theorem D2 {κ υ:Type}[DecidableEq κ](x:κ)(y:υ):∀ (l:List (κ×υ)),(sS l).Nodup→(sS (wb l x y)).Nodup∧∀ z,z∈sS (wb l x y)→z=x∨z∈sS l
 | [],_=>by simp[wb,sS]
 |(a,b)::r,h=>by
  have h':=List.nodup_cons.1 h;unfold wb;by_cases e:x=a
  ·subst e;rw[if_pos rfl];exact⟨h,fun z hz=>.inr hz⟩
  ·rw[if_neg e];obtain⟨g1,g2⟩:=D2 x y r h'.2;refine⟨List.nodup_cons.2 ⟨fun hm=>?_,g1⟩,fun z hz=>?_⟩
   ·rcases g2 _ hm with h3|h3
    ·exact e h3.symm
    ·exact h'.1 h3
   ·rcases List.mem_cons.1 hz with rfl|hz
    ·exact .inr List.mem_cons_self
    ·rcases g2 z hz with h3|h3
     ·exact .inl h3
     ·exact .inr (List.mem_cons_of_mem _ h3)
theorem zR {κ υ:Type}[DecidableEq κ](x:κ):∀ (l:List (κ×υ)),(sS l).Nodup→(sS (AB l x)).Nodup∧(∀ z,z∈sS (AB l x)→z∈sS l)∧∀ z,kf (AB l x) z=if z=x then none else kf l z
 | [],_=>by simp[AB,sS,kf]
 |(a,b)::r,h=>by
  have h':=List.nodup_cons.1 h;unfold AB;by_cases e:x=a
  ·subst e;rw[if_pos rfl];refine⟨h'.2,fun z hz=>List.mem_cons_of_mem _ hz,fun z=>?_⟩;by_cases hz:z=x
   ·subst hz;rw[if_pos rfl];exact D1 h'.1
   ·rw[if_neg hz];simp only[kf,if_neg hz]
  ·rw[if_neg e];obtain⟨g1,g2,g3⟩:=zR x r h'.2;refine⟨List.nodup_cons.2 ⟨fun hm=>h'.1 (g2 _ hm),g1⟩,fun z hz=>?_,fun z=>?_⟩
   ·rcases List.mem_cons.1 hz with rfl|hz
    ·exact List.mem_cons_self
    ·exact List.mem_cons_of_mem _ (g2 z hz)
   ·simp only[kf,g3];by_cases hz:z=a
    ·subst hz;rw[if_pos rfl,if_neg (fun e2=>e e2.symm),if_pos rfl]
    ·simp only[if_neg hz]
theorem Lc {kk vk:Tag}(l:List (kk.T×vk.T))(x z:kk.T)(y:vk.T):fZ kk vk (lR kk vk l x y) z=if z=x then y else fZ kk vk l z:=by
 unfold fZ lR;rw[QD];by_cases h:z=x <;>simp[h]
theorem Ld {kk vk:Tag}(l:List (kk.T×vk.T))(hN:(sS l).Nodup)(x z:kk.T):fZ kk vk (yn kk vk l x) z=if z=x then fK vk else fZ kk vk l z:=by
 unfold fZ yn;rw[(zR x l hN).2.2];by_cases h:z=x <;>simp[h]
end Go.Sx
end
section
namespace Go.Sx
open Go.RowKit
section
variable {P:Program}{ts:Tis}{G:Cons}
theorem xI {n:Nat}{g:FuncId}{i1 q:Nat}{o1:Oper}{tys:Array TypeId}{Q:Exit→Act→World→Prop}{a:Act}{w:World}{b:Nat}
  (ho1:o1.dst=none∧o1.op=.defer ⟨.value (.func g),#[.tmp q],tys⟩∧o1.guard=none)
  (hq:a.tmps.getD q undef=.pointer (some ⟨b,0,none⟩))
  (h:Q .normal { tmps:=a.tmps,defers:= { target:=.fn (.func g) #[],args:= #[.pointer (some ⟨b,0,none⟩)]}::a.defers} w):
  (Code.region i1 #[o1] false).wpIn (rd none) n P Q a w:=by
 obtain⟨d1,p1,t1,s1,f1,g1⟩:=o1;obtain⟨rfl,rfl,rfl⟩:=ho1;refine wpIn_region ?_;have hr1:List.range (#[(⟨none,.defer ⟨.value (.func g),#[.tmp q],tys⟩,t1,s1,f1,none⟩:Oper)]:Array Oper).size=[0]:=rfl;rw[hr1];simp only[wpOpsIn,Oper.wpIn,Region.wanted];have e1:(#[(⟨none,.defer ⟨.value (.func g),#[.tmp q],tys⟩,t1,s1,f1,none⟩:Oper)]:Array Oper)[0]? =some ⟨none,.defer ⟨.value (.func g),#[.tmp q],tys⟩,t1,s1,f1,none⟩:=rfl;rw[e1];simp only[if_true];refine⟨fun _ _=>trivial,?_⟩;have r2:((⟨none,.defer ⟨.value (.func g),#[.tmp q],tys⟩,t1,s1,f1,none⟩:Oper).semAt (rd none).round a.eval).run P w=.ok (.defer { target:=.fn (.func g) #[],args:= #[.pointer (some ⟨b,0,none⟩)]}) w:=by
  simp[Oper.semAt,execOp,go_sem,Act.eval,hq];try rfl
 rw[r2];simp only[Oper.uponIn_defer];exact h
theorem JV {g:FuncId}{RC:Value→Option SV}(hrec:GM P g RC)(pks:List Pk)(hm:P.follows .mixedOrders=true)(hts:ts.ok P)(hG:ConsOk P G){f:FuncId}{fn:Func}{c0 c1:Code}{i1 q:Nat}{o1:Oper}{tys:Array TypeId}
  (hf:P.funcs[f]? =some fn) (hb:fn.body=some (.seq c0 (.seq (.region i1 #[o1] false) c1))) (hname:(fn.name== "runtime.NumGoroutine")=false)
  (ho1:o1.dst=none∧o1.op=.defer ⟨.value (.func g),#[.tmp q],tys⟩∧o1.guard=none)
  (hc0:cg fn.ntmps c0=true) (hc1:cg fn.ntmps c1=true) {C:List SV→Option Con}
  (h:∀ l con,C l=some con→ar con→l.length≤fn.ntmps∧∃ L L' id,ap P none fn.ntmps L c0∧ap P none fn.ntmps L' c1∧exec ts G L c0 ⟨mg 0 l,[]⟩ (fun e st=>e=.normal∧lk q st.t=.ptr id 0∧C_ (an st.h id)∧
   exec ts G L' c1 ⟨st.t,st.h⟩ (MZ RC fn.results.toList ts (fun s=>dp con (tW pks s)) id))):FnOk P f C:=by
 refine⟨fun l con _ args w=>?_,fun l con hcon hpre F w vs hF hvs=>?_⟩
 ·have hn:¬fn.name= "runtime.NumGoroutine":=by simpa using hname
  simp[callFunc,hf,hn,hb]
 ·obtain⟨hlen,L,L',id,hl,hl',hx⟩:=h l con hcon hpre;refine oD (n:=0) (callsIn_of_wp_marks hf hb trivial ?_);have hr:StRel F { w:=w,own:=cj} fn.ntmps cj ⟨mg 0 l,[]⟩ { tmps:=vs++Array.replicate (fn.ntmps - vs.size) undef,defers:=[]} w:=
   ⟨by have:=hvs.1;simp;omega,Dfr.nil,vn hF,Fr.refl _,fun t=>mo hvs _ t⟩
  refine wpIn_seq (wpIn_mono (nk hm hts hG c0 hc0 hl F _ _ hx cj _ w hr) ?_);intro e a1 w1 hq;cases e with
  |normal=>
   obtain⟨F1,own1,st1,hF1,hst1,_,hlk,_,hx1⟩:=hq;have hsq:=hst1.slots q;rw[hlk]at hsq;generalize hv:a1.tmps.getD q undef=pv at hsq;cases hsq with
   | @ptr _ _ b hd ho hp=>
   show(Code.seq (.region i1 #[o1] false) c1).wpIn (rd none) 0 P _ a1 w1;have hsz:=hst1.size;refine wpIn_seq (xI ho1 hv ?_);show c1.wpIn (rd none) 0 P _ _ w1;obtain⟨ms,Ds,k0,k1,k2,k3⟩:=hst1.defers;have k0':a1.defers=ms:=by rw[k0];exact List.append_nil _
   let d:Deferred:= { target:=.fn (.func g) #[],args:= #[.pointer (some ⟨b,0,none⟩)]}
   let B:Bs:= { w:=w1,own:=own1,ds:=d::a1.defers}
   have hr2:StRel F1 B fn.ntmps own1 ⟨st1.t,st1.h⟩ { tmps:=a1.tmps,defers:=d::a1.defers} w1:=by
    exact⟨hsz,Dfr.nil,hst1.hp,Fr.refl B,hst1.slots⟩
   have hbd:∀ D∈Ds,¬ ∃ id hd,own1 id=some hd∧D∈hd.bs:=fun D hD ⟨i,hd,e,hm⟩ =>hst1.hp.apart i hd D e hm (k3 D hD).2.1;have fin:∀ F2 own2 st2 (a2:Act) w2,(∀ b,F1 b→F2 b)→StRel F2 B fn.ntmps own2 st2 a2 w2→ew (fun s=>dp con (tW pks s)) (wh fn.results.toList ts st2)→
     LeavesInM (rd none) 0 P fn a2.tmps (fun e w'=>(∃ s u own',dp con s∧e=.returned u∧Handed F w own' w' s u∧Below w.heap.size w w')∨(∃ x,mm con x∧e=.panicked [{ v:=x,recovered:=false}]∧Below w.heap.size w w')) a1.defers .returning w2:=by
    intro F2 own2 st2 a2 w2 hF2 hst2 hdone;have hB:StRel F2 { w:=w,own:=cj} fn.ntmps own2 st2 { a2 with defers:=[]} w2:=⟨hst2.size,Dfr.nil,hst2.hp,hst1.fr.trans ⟨hst2.fr.ids,hst2.fr.base,hst2.fr.os,hst2.fr.tape,hst2.fr.output,hst2.fr.size,hst2.fr.block⟩,hst2.slots⟩;have hkeep:∀ D∈Ds,w2.heap[D]? =some (.deferred (some [])):=fun D hD=>by
     rw[hst2.fr.block D ⟨nf (k3 D hD).2.2,hbd D hD⟩];exact(k3 D hD).2.2
    rw[k0',←List.append_nil ms];refine uF (by simp) Ds ms w2 k1 k2 hkeep fun w4 hs=>?_;have hst4:=(hB.shut (Ds:=Ds) (fun D hD=>⟨(k3 D hD).1,hF2 D (k3 D hD).2.1,hkeep D hD⟩) hs).less (fun c hc=>hF2 c (hF1 c hc)) rfl;simp only[wh]at hdone;cases hres:kV (jI ts st2 fn.results.toList)with
    |none=>rw[hres]at hdone;exact hdone.elim
    |some s=>
     obtain⟨u,e1,e2⟩:=vj (P:=P) hts hst4 hres;rw[hres]at hdone;exact⟨u,e1,.inl ⟨_,u,cj,hdone,rfl,tJ hst4.hp.foreign (yQ (ve hst4.hp 4 s u e2)),ph hst4.fr⟩⟩
   have hinv:∀ w2:World,(invoke (.fn (.func g) #[]) #[.pointer (some ⟨b,0,none⟩)]).run P w2=.ok (.enter g #[.pointer (some ⟨b,0,none⟩)]) w2:=fun w2=>by simp[invoke,go_sem,hrec.1]
   refine wpIn_mono (nk hm hts hG c1 hc1 hl' F1 _ _ hx1 own1 _ w1 hr2) ?_;have idle:∀ (a':Act) (w':World) F2 own2 st2,(∀ b,F1 b→F2 b)→StRel F2 B fn.ntmps own2 st2 a' w'→ew (fun s=>dp con (tW pks s)) (wh fn.results.toList ts st2)→
     LeavesInM (rd none) 0 P fn a'.tmps (fun e w'=>(∃ s u own',dp con s∧e=.returned u∧Handed F w own' w' s u∧Below w.heap.size w w')∨(∃ x,mm con x∧e=.panicked [{ v:=x,recovered:=false}]∧Below w.heap.size w w')) a'.defers .returning w':=by
    intro a' w' F2 own2 st2 hF2 hst2 hdone;refine iZ hst2 (by simp) fun w2 hst3=>?_;refine⟨by simp,.inr ⟨fun h=>(by cases h),.func g,#[],g,#[.pointer (some ⟨b,0,none⟩)],rfl,hinv w2,fun _ _=>trivial,?_⟩⟩;refine(hrec.2.1 ⟨b,0,none⟩ w2).mono ?_;rintro e u' w3 ⟨⟨v,rfl⟩,rfl,rfl⟩;exact fin F2 own2 st2 { a' with defers:=B.ds} _ hF2 hst3 hdone
   intro e a' w' hq;cases e with
   |normal=>obtain⟨F2,own2,st2,h0,h1,h2⟩:=hq;exact idle a' w' F2 own2 st2 h0 h1 h2
   |ret=>obtain⟨F2,own2,st2,h0,h1,h2⟩:=hq;exact idle a' w' F2 own2 st2 h0 h1 h2
   |exit jd=>obtain⟨F2,own2,st2,h0,h1,h2⟩:=hq;exact h2.elim
   |panic ch=>
    obtain⟨x,F2,own2,st2,h0,h1,hm,rfl⟩:=hq;change MY fn.results.toList ts _ id st2 (RC x)at hm;cases m1:RC x with
    |none=>rw[m1]at hm;exact hm.elim
    |some s=>
    rw[m1]at hm;obtain⟨hm2,m4,m3⟩:=hm;obtain⟨y,m2⟩:=Ca hm2;refine iZ h1 (by simp) fun w2 hst3=>?_;refine⟨by simp,.inr ⟨fun h=>(by cases h),.func g,#[],g,#[.pointer (some ⟨b,0,none⟩)],rfl,hinv w2,fun _ _=>trivial,?_⟩⟩;obtain⟨hd2,e2,l2⟩:=hst3.fr.ids id hd ho;refine(hrec.2.2 x s m1 F2 own2 w2 st2.h id hd2 b y m4 hst3.hp m2 e2 (l2.1.trans hp)).mono ?_;rintro e u' w3 ⟨⟨v,rfl⟩,rfl,own3,q1,q2⟩;exact fin F2 own3 ⟨st2.t,_⟩ { a' with defers:=B.ds} w3 h0 (hst3.moved q1 q2) m3
   |_=>exact hq.elim
  |ret=>obtain⟨F1,own,st,h0,h1,h2,_⟩:=hq;cases h2
  |exit jd=>obtain⟨F1,own,st,h0,h1,h2,_⟩:=hq;cases h2
  |panic ch=>obtain⟨x,F1,own,st,h0,h1,⟨h2,_⟩,_⟩:=hq;cases h2
  |_=>exact hq.elim
end
end Go.Sx
end
section
namespace Go.Sx
open Go.Proofs Go.RowKit
def RCJ:Value→Option SV
 | .iface t (.int .i64 e) =>bif Nat.beq t 36 then some (.i e)else none
 |_=>none
theorem E8:GM Tryz.prog 56 RCJ:=by
 obtain⟨fn,hfn,hbody,hn,hres⟩:∃ fn,Tryz.prog.funcs[56]? =some fn∧fn.body=some (aa Tryz.f56)∧fn.ntmps=14∧fn.results= #[]:=⟨Tryz.f56,by kernel_rfl,by kernel_rfl,by kernel_rfl,by kernel_rfl⟩;have hG:ConsOk Tryz.prog (mkG [] []):=aq (by simp) (by simp);refine⟨fun args w=>by kernel_rfl,fun p w=>?_,?_⟩
 ·refine callsDIn_of_wpSIn hfn hbody trivial fun c₀ cs hu=>?_;unfold aa Tryz.f56;refine wpSIn_seq (wpSIn_region ?_);simp[wpOpsSIn,go_sem,recoverD,hu,hn,Exit.thenS,Oper.about,Region.wanted];refine wpSIn_of_wpIn rfl (wpIn_block (wpIn_seq (wpIn_region ?_)));simp[wpOpsIn,Oper.wpIn,go_sem,Oper.about,Region.wanted];refine wpIn_cond_true (by simp[Act.eval]) (wpIn_region ?_);simp[wpOpsIn,Oper.wpIn,go_sem,Oper.about,Region.wanted];cases c₀;simp_all [Exit.inBlock,bodyPostS,results]
 ·intro x s hx F own w h id hd b y hfw hp hob ho hpb;unfold RCJ at hx;split at hx
  ·rename_i t e;cases ht:Nat.beq t 36 with
   |false=>rw[ht]at hx;cases hx
   |true=>
    rw[ht]at hx;cases hx;have ht':=Nat.eq_of_beq_eq_true ht;subst ht';refine callsDIn_of_wpSIn hfn hbody trivial fun c₀ cs hu=>?_;unfold aa Tryz.f56;refine wpSIn_seq (wpSIn_region ?_);simp[wpOpsSIn,go_sem,recoverD,hu,hn,Exit.thenS,Oper.about,Region.wanted];refine wpSIn_of_wpIn rfl (wpIn_block (wpIn_seq (wpIn_region ?_)));simp[wpOpsIn,Oper.wpIn,go_sem,Oper.about,Region.wanted];refine wpIn_cond_false (by simp[Act.eval]) ?_;have hr:StRel F { w:=w,own:=own} 14 own ⟨[(0,.ptr id 0),(5,.v (.iface 36 (.int .i64 e)))],h⟩ { tmps:= #[.pointer (some ⟨b,0,none⟩),undef,undef,undef,undef,.iface 36 (.int .i64 e),undef,.bool false,undef,undef,undef,undef,undef,undef],defers:=[]} w:=by
     refine⟨rfl,Dfr.nil,hp,Fr.refl { w:=w,own:=own},fun t=>?_⟩;rw[oC];by_cases h0:0=t
     ·subst h0;rw[if_pos rfl];exact .ptr ho hpb
     ·rw[if_neg h0,oC];by_cases h1:5=t
      ·subst h1;rw[if_pos rfl];exact .v _
      ·rw[if_neg h1];exact .any _
    refine wpIn_seq (wpIn_mono (vp (ts:=ts) (L:=L0) (Q:=fun st=>st=⟨[(10,.v (.int .i64 e)),(9,.b true),(8,.tup [.v (.int .i64 e),.b true]),(0,.ptr id 0),(5,.v (.iface 36 (.int .i64 e)))],h⟩) mixed ak hG kr ?_ hr) ?_)
    ·simp only[go_sem,hob,hfw,cond_false,Nat.reduceBEq,Nat.reduceLeDiff,Nat.reduceAdd,true_and,and_true,true_imp_iff]
    ·rintro ex a1 w1 ⟨rfl,own1,st1,hst1,rfl⟩;have h9:=hst1.slots 9;have h9':a1.tmps.getD 9 undef=.bool true:=bC h9;refine wpIn_cond_true (by simpa[Act.eval]using h9') ?_;refine wpIn_seq (wpIn_mono (vp (ts:=ts) (L:=L0) (Q:=fun st=>st=⟨[(3,.v (.int .i64 e)),(10,.v (.int .i64 e)),(9,.b true),(8,.tup [.v (.int .i64 e),.b true]),(0,.ptr id 0),(5,.v (.iface 36 (.int .i64 e)))],h⟩) mixed ak hG kr ?_ hst1) ?_)
     ·simp only[go_sem,hob,hfw,cond_false,Nat.reduceBEq,Nat.reduceLeDiff,Nat.reduceAdd,true_and,and_true,true_imp_iff]
     ·rintro ex a2 w2 ⟨rfl,own2,st2,hst2,rfl⟩;refine wpIn_mono (vp (ts:=ts) (L:=L0) (Q:=fun st=>st.h=br h id (.cells [.i e])) mixed ak hG kr ?_ hst2) ?_
      ·simp only[go_sem,hob,hfw,cond_false,vo (h:=h) (i:=id) (o:=.cells [.v (.int .i64 e)]) rfl hfw,Nat.reduceBEq,Nat.reduceLeDiff,Nat.reduceAdd,true_and,and_true,true_imp_iff]
      ·rintro ex a' w' ⟨rfl,own3,st3,hst3,hh⟩;have hd0:a'.defers=[]:=by
        obtain⟨ms,Ds,q0,q1,q2,q3⟩:=hst3.defers;cases Ds with
        |nil=>rw[q0];simp at q1;simp[q1]
        |cons D r=>
         obtain⟨m1,m2,_⟩:=q3 D (by simp);have:=hp.foreign D m2;simp only at m1;omega
       refine⟨hd0,.panicking [{ v:=.iface 36 (.int .i64 e),recovered:=true}],?_,_,by simp[results,hres];rfl,⟨_,rfl⟩,rfl,own3,hh▸hst3.hp,hst3.fr⟩;cases c₀;simp_all
  ·cases hx
end Go.Sx
end
section
namespace Go.Sx
open Go.Proofs
open IntKind (i64 u64)
theorem rq {l0 l1:List Nat}(a0:JL l0)(a1:JL l1){p:Prop}(h:JL l0→JL l1→p:=by intro ja jb;(first|done|(repeat' (first|with_reducible refine And.intro ?_ ?_|((with_reducible show _≠_);first|assumption|omega|(simp_all [dT,dW];done) |grind) |with_reducible intro _)) <;>(first|done|with_reducible exact Empty.elim ‹Empty› |with_reducible assumption|rfl|omega|assumption|decide|exact fk ja|exact fk jb|exact czl|(simp only[*,cond_true,cond_false,Bool.not_true,Bool.not_false,go_sem,Nat.reduceBEq,Nat.reduceLeDiff,Nat.reduceLT,decide_true,Nat.reduceAdd,Nat.reduceSub,Nat.reduceMul,Int.reduceLE,Int.reduceLT,Int.reduceToNat,Int.reduceNeg,reduceCtorEq];(repeat' (first|with_reducible refine And.intro ?_ ?_|((with_reducible show _≠_);first|assumption|omega|(simp_all [dT,dW];done) |grind) |with_reducible intro _)) <;>(first|done|assumption|rfl|omega|decide|exact fk ja|exact fk jb|(simp_all [dT,dW];done))) |(simp_all [okI,dT,dW];done) |(simp_all [dT,dW];(first|done|exact fk2 ja|exact fk2 jb)) |exact fk2 ja|exact fk2 jb))):p:=h a0 a1
theorem kZ {l0 l1:List Nat}(a0:JL l0)(a1:JL l1){p:Prop}(h:JL l0→JL l1→p:=by intro ja jb;simp only[go_sem,Nat.reduceBEq,Nat.reduceLeDiff,Nat.reduceLT,decide_true,Nat.reduceAdd,Nat.reduceSub,Nat.reduceMul,Int.reduceLE,Int.reduceLT,Int.reduceToNat,Int.reduceNeg,reduceCtorEq,hc,hw];all_goals exact rq ja jb):p:=h a0 a1
theorem jN {l0 l1:List Nat}(a0:JL l0)(a1:JL l1){p:Prop}(h:JL l0→JL l1→p:=by intro ja jb;simp only[go_sem,Nat.reduceBEq,Nat.reduceLeDiff,Nat.reduceLT,decide_true,Nat.reduceAdd,Nat.reduceSub,Nat.reduceMul,Int.reduceLE,Int.reduceLT,Int.reduceToNat,Int.reduceNeg,reduceCtorEq,hc];all_goals exact rq ja jb):p:=h a0 a1
def aI (n:Int)(lo:Int)(hi:Int):Bool:=((decide (n≥lo))&&(decide (n≤hi)))
@[go_sem] def f7:List SV→Option Con:=(pI fun n=>(pI fun lo=>(pI fun hi=>(pE (.det True (.v (.bool (aI n lo hi))))))))
theorem g9:FnOk Tryz.prog 52 f7:=by
 have hG:ConsOk Tryz.prog (mkG [] []):=aq cg0 cg0;refine ax [.o] mixed ak hG (fn:=Tryz.f52) (c:=aa Tryz.f52) kr kr kr kr (bt fun n=>(bt fun lo=>(bt fun hi=>(ai (fun hp=>?_)))));dsimp only[ar]at hp;refine⟨nbl rfl,L0,ah _,?_⟩
 ·unfold aa Tryz.f52;try unfold aI
  exact zq1
def Cq (ok:Bool)(e:Int):Unit:=(bif(!ok)then default else())
def aw (ok:Bool)(e:Int):Bool:=(bif(!ok)then false else true)
@[go_sem] def jO:List SV→Option Con:=(pB fun ok=>(pI fun e=>(pE (.may (aw ok e) (.tup []) (.iface 36 (.int .i64 e))))))
theorem lW:FnOk Tryz.prog 58 jO:=by
 have hG:ConsOk Tryz.prog (mkG [] []):=aq cg0 cg0;refine ax [] mixed ak hG (fn:=Tryz.f58) (c:=aa Tryz.f58) kr kr kr kr (Nw fun ok=>(bt fun e=>(ai (fun hp=>?_))));dsimp only[ar]at hp;refine⟨nbl rfl,L0,ah _,?_⟩
 ·unfold aa Tryz.f58;try unfold Cq
  try unfold aw
  exact zq1
@[go_sem] def xJ (cG:List Int)(k_0:Nat)(s_0:Unit):Int⊕Unit:=(bif((cG.getD k_0 (0:Int)) !=0)then .inl (cG.getD k_0 (0:Int))else .inr ())
def kF (cG:List Int):Int:=(match ay (xJ cG) cG.length 0 ()with| .inl x_0_0=>x_0_0| .inr s_0=>0)
@[go_sem] def yW:List SV→Option Con:=(pR .int fun cG=>(pE (.det True (.v (.int .i64 (kF cG))))))
theorem De:FnOk Tryz.prog 96 yW:=by
 have hG:ConsOk Tryz.prog (mkG [] []):=aq cg0 cg0;refine ax [.o] mixed ak hG (fn:=Tryz.f96) (c:=aa Tryz.f96) kr kr kr kr (a8 fun cG=>(ai (fun hp=>?_)));dsimp only[ar]at hp;refine⟨nbl rfl,(fun id st=>bif Nat.beq id 0 then some (LCR (ρ:=Int) (σ:=Unit) 0 [] [] (fun k_0 s_0=>⟨[(3,.v (.int .i64 0)),(6,.rs .int cG),(7,.v (.int .i64 (cG.length:Int))),(8,.v (.int .i64 (k_0:Int)))],[]⟩) (xJ cG) pT cG.length () (cG.length≤aJ) (fun _=>.ret) (fun x_0_0=>⟨[(2,.v (.int .i64 x_0_0))],[]⟩) st)else none),?_,?_⟩
 ·unfold aa Tryz.f96;simp only[ap,true_and,and_true]
  ·refine bf mixed ak hG kr (fun _=>rfl) (cG.length:Int) rfl fD (fun hb0 k_0 s_0 hlt0 _ hw hc=>⟨L0,ah _,?_⟩) (fun hb0 s_0 hc=>?_)
   ·exact aY (jl [])
   ·exact aX (jl [])
 ·unfold aa Tryz.f96;try unfold kF
  exact zq1
def av (x:Claim):Bool:=(x.litres==0)
@[go_sem] def oK:List SV→Option Con:=(pD .claim fun x=>(pE (.det True (.v (.bool (av x))))))
theorem sa:FnOk Tryz.prog 93 oK:=by
 have hG:ConsOk Tryz.prog (mkG [] []):=aq cg0 cg0;refine ax [.o] mixed ak hG (fn:=Tryz.f93) (c:=aa Tryz.f93) kr kr kr kr (aM fun x=>(ai (fun hp=>?_)));dsimp only[ar]at hp;refine⟨nbl rfl,L0,ah _,?_⟩
 ·unfold aa Tryz.f93;try unfold av
  exact zq1
def dy (a:Claim)(b:Claim):Int:=(kF ([(cA a.rank b.rank),(cA a.right b.right),(cA a.farm b.farm)]))
@[go_sem] def sT:List SV→Option Con:=(pD .claim fun a=>(pD .claim fun b=>(pE (.det True (.v (.int .i64 (dy a b)))))))
theorem xk:FnOk Tryz.prog 95 sT:=by
 have hG:ConsOk Tryz.prog (mkG [(96,fun l=>yW (a7 [.sl .int] l)),(97,lU)] []):=aq (cgc (De.norm [.sl .int]) (cgc oH cg0)) cg0;refine ax [.o] mixed ak hG (fn:=Tryz.f95) (c:=aa Tryz.f95) kr kr kr kr (aM fun a=>(aM fun b=>(ai (fun hp=>?_))));dsimp only[ar]at hp;refine⟨nbl rfl,L0,ah _,?_⟩
 ·unfold aa Tryz.f95;try unfold dy
  exact zq1
def eK (right:Int)(farm:Int)(hour:Int)(litres:Int):Claim:=({ right:=right,farm:=farm,hour:=hour,litres:=litres,rank:=2}:Claim)
@[go_sem] def tZ:List SV→Option Con:=(pI fun right=>(pI fun farm=>(pI fun hour=>(pI fun litres=>(pE (.det True (.agg (cellsOf .claim (eK right farm hour litres)))))))))
theorem wJ:FnOk Tryz.prog 40 tZ:=by
 have hG:ConsOk Tryz.prog (mkG [] []):=aq cg0 cg0;refine ax [.st .claim] mixed ak hG (fn:=Tryz.f40) (c:=aa Tryz.f40) kr kr kr kr (bt fun right=>(bt fun farm=>(bt fun hour=>(bt fun litres=>(ai (fun hp=>?_))))));dsimp only[ar]at hp;refine⟨nbl rfl,L0,ah _,?_⟩
 ·unfold aa Tryz.f40;try unfold eK
  exact zq1
@[go_sem] def sU (k_0:Nat)(s_0:List Right):Empty⊕(List Right):=.inr (s_0++([({ name:=(ByteArray.mk #[]),kind:=1,farm:=(([0,1,0]).getD k_0 (0:Int)),reach:=0,rank:=2,litres:=4,since:=0,to:=7,every:=1,length:=1}:Right)]))
def ql (k_0:Nat)(s_0:List Right):Prop:=((s_0++([({ name:=(ByteArray.mk #[]),kind:=1,farm:=(([0,1,0]).getD k_0 (0:Int)),reach:=0,rank:=2,litres:=4,since:=0,to:=7,every:=1,length:=1}:Right)])).length*88≤dC)
def cK:District:=(match ay (sU) (([0,1,0]).length) 0 ([])with| .inl x=>x.elim| .inr s_0=>({ name:=(ByteArray.mk #[]),hours:=8,tank:=({ cap:=900,start:=900}:Tank),reaches:=[({ name:=(ByteArray.mk #[]),up:=(-1),delay:=1,cap:=50,bank:=50,siphon:=0,evap:=({ lo:=0,hi:=0}:Range),seep:=(({ n:=0,d:=1}:Ratio),({ n:=0,d:=1}:Ratio))}:Reach)],farms:=[({ name:=(ByteArray.mk #[]),reach:=0,area:=0,crop:=(-1)}:Farm),({ name:=(ByteArray.mk #[]),reach:=0,area:=0,crop:=(-1)}:Farm),({ name:=(ByteArray.mk #[]),reach:=0,area:=0,crop:=(-1)}:Farm)],crops:=[],rights:=s_0,duties:=[],wells:=[]}:District))
def qK:Prop:=(([0,1,0]).length≤aJ→okI (sU) (ql) (([0,1,0]).length) 0 ([]))
@[go_sem] def xK:List SV→Option Con:=(pE (.det (qK) (.agg (cellsOf .district (cK)))))
theorem Cr:FnOk Tryz.prog 38 xK:=by
 have hG:ConsOk Tryz.prog (mkG [] []):=aq cg0 cg0;refine ax [.st .district] mixed ak hG (fn:=Tryz.f38) (c:=aa Tryz.f38) kr kr kr kr (ai (fun hp=>?_));dsimp only[ar]at hp;unfold qK at hp;refine⟨nbl rfl,(fun id st=>bif Nat.beq id 0 then some (LCR (ρ:=Empty) (σ:=(List Right)) 3 [.cell 2 7 (.row .right ([]))] [0,1,2,3] (fun k_0 s_0=>⟨[(0,.ptr 0 0),(2,.ptr 2 0),(17,.rs .int ([0,1,0])),(18,.v (.int .i64 (([0,1,0]).length:Int))),(19,.v (.int .i64 (k_0:Int)))],[.cells [.v (.string (ByteArray.mk #[])),.v (.int .i64 0),.v (.int .i64 0),.v (.int .i64 0),.v (.slice none 0 0),.v (.slice none 0 0),.v (.slice none 0 0),.v (.slice none 0 0),.v (.slice none 0 0),.v (.slice none 0 0)],.dead,.cells [.v (.string (ByteArray.mk #[])),.v (.int .i64 8),.v (.int .i64 900),.v (.int .i64 900),.rs .reach ([({ name:=(ByteArray.mk #[]),up:=(-1),delay:=1,cap:=50,bank:=50,siphon:=0,evap:=({ lo:=0,hi:=0}:Range),seep:=(({ n:=0,d:=1}:Ratio),({ n:=0,d:=1}:Ratio))}:Reach)]),.rs .farm ([({ name:=(ByteArray.mk #[]),reach:=0,area:=0,crop:=(-1)}:Farm),({ name:=(ByteArray.mk #[]),reach:=0,area:=0,crop:=(-1)}:Farm),({ name:=(ByteArray.mk #[]),reach:=0,area:=0,crop:=(-1)}:Farm)]),.v (.slice none 0 0),.os 3,.v (.slice none 0 0),.v (.slice none 0 0)],.row .right s_0]⟩) (sU) (ql) (([0,1,0]).length) ([]) (([0,1,0]).length≤aJ) ((·.elim)) ((·.elim)) st)else none),?_,?_⟩
 ·unfold aa Tryz.f38;simp only[ap,true_and,and_true]
  ·refine bf mixed ak hG kr (fun _=>rfl) (([0,1,0]).length:Int) rfl fD (fun hb0 k_0 s_0 hlt0 hq0 hw hc=>⟨L0,ah _,?_⟩) (fun hb0 s_0 hc=>?_)
   ·unfold ql at hq0;try simp only[hw,Int.toNat_natCast]at hq0
    exact kZ (jl [0,1,2,5]) (jl [0,1,2,3])
   ·exact jN (jl [0,1,2,5]) (jl [0,1,2,3])
 ·unfold aa Tryz.f38;try unfold cK
  exact zq1
def iu:List Claim:=[(eK 0 0 3 4),(eK 1 1 3 4),(eK 2 0 3 4),(eK 0 0 5 4)]
@[go_sem] def xL:List SV→Option Con:=(pE (.det True (.rs .claim (iu))))
theorem Cs:FnOk Tryz.prog 39 xL:=by
 have hG:ConsOk Tryz.prog (mkG [(40,tZ)] []):=aq (cgc wJ cg0) cg0;refine ax [.sl .claim] mixed ak hG (fn:=Tryz.f39) (c:=aa Tryz.f39) kr kr kr kr (ai (fun hp=>?_));dsimp only[ar]at hp;refine⟨nbl rfl,L0,ah _,?_⟩
 ·unfold aa Tryz.f39;try unfold iu
  exact zq1
def qm (d:District)(c:List Claim)(j:List Judgement):Bool:=((ov d c)&&((decide ((j.length:Int)≤20)) ||((decide ((j.length:Int) > 64))&&(decide ((j.length:Int)≤100)))))
@[go_sem] def As:List SV→Option Con:=(pD .district fun d=>(pR .claim fun c=>(pR .judgement fun j=>(pE (.det True (.v (.bool (qm d c j))))))))
theorem E9:FnOk Tryz.prog 11 As:=by
 have hG:ConsOk Tryz.prog (mkG [(41,fun l=>tL (a7 [.st .district,.sl .claim] l))] []):=aq (cgc (yc.norm [.st .district,.sl .claim]) cg0) cg0;refine ax [.o] mixed ak hG (fn:=Tryz.f11) (c:=aa Tryz.f11) kr kr kr kr (aM fun d=>(a8 fun c=>(a8 fun j=>(ai (fun hp=>?_)))));dsimp only[ar]at hp;refine⟨nbl rfl,L0,ah _,?_⟩
 ·unfold aa Tryz.f11;try unfold qm
  exact zq1
@[go_sem] def qL (a:List Int)(b:List Int)(k_0:Nat)(s_0:Unit):Unit⊕Unit:=(bif((a.getD k_0 (0:Int)) !=(b.getD k_0 (0:Int)))then .inl ()else .inr ())
def rU (a:List Int)(b:List Int)(k_0:Nat)(s_0:Unit):Prop:=(a.length≤aJ→(0≤(k_0:Int)∧(k_0:Int) < (b.length:Int)))
def sV (a:List Int)(b:List Int):Bool:=(bif((a.length:Int) !=(b.length:Int))then false else(match ay (qL a b) a.length 0 ()with| .inl x_0_0=>false| .inr s_0=>true))
def sp (a:List Int)(b:List Int):Prop:=(a.length≤aJ→(b.length≤aJ→(((a.length:Int) !=(b.length:Int))=false→okI (qL a b) (rU a b) a.length 0 ())))
@[go_sem] def yX:List SV→Option Con:=(pR .int fun a=>(pR .int fun b=>(pE (.det (sp a b) (.v (.bool (sV a b)))))))
theorem Df:FnOk Tryz.prog 19 yX:=by
 have hG:ConsOk Tryz.prog (mkG [] []):=aq cg0 cg0;refine ax [.o] mixed ak hG (fn:=Tryz.f19) (c:=aa Tryz.f19) kr kr kr kr (a8 fun a=>(a8 fun b=>(ai (fun hp=>?_))));dsimp only[ar]at hp;unfold sp at hp;refine⟨nbl rfl,(fun id st=>bif Nat.beq id 0 then some (LCR (ρ:=Unit) (σ:=Unit) 0 [] [] (fun k_0 s_0=>⟨[(0,.rs .int a),(1,.rs .int b),(5,.v (.int .i64 (k_0:Int)))],[]⟩) (qL a b) (rU a b) a.length () (True) (fun _=>.ret) (fun x_0_0=>⟨[(4,.v (.bool false))],[]⟩) st)else none),?_,?_⟩
 ·unfold aa Tryz.f19;simp only[ap,true_and,and_true]
  ·refine ig (a.length≤aJ) mixed ak hG kr (fun _=>rfl) (a.length:Int) rfl fD (fun hb0 k_0 s_0 hlt0 hq0 hw hc=>⟨L0,ah _,?_⟩) (fun hb0 s_0 hc=>?_) fun hb0 k_0 s_0=>?_
   ·unfold rU at hq0;try simp only[hw,Int.toNat_natCast]at hq0
    exact aY (jl [])
   ·exact aX (jl [])
   ·exact zq7
 ·unfold aa Tryz.f19;try unfold sV
  exact zq1
theorem wK (x y:Int):cA x y=if x<y then -1 else if x > y then 1 else 0:=by
 unfold cA ll;simp[Bool.cond_eq_ite]
theorem IB (x:Int)(l:List Int):kF (x::l)=if x=0 then kF l else x:=by
 have key:∀ l:List Int,kF l=match nI (ρ:=Int) (fun(x:Int) (_:Unit) =>bif(x !=0)then .inl x else .inr ()) l ()with| .inl y=>y| .inr _=>0:=fun l=>by
  unfold kF;have:=yP (ρ:=Int) (fun(x:Int) (_:Unit) =>bif(x !=0)then .inl x else .inr ()) 0 l ();rw[←this];rfl
 rw[key,key];simp only[nI];by_cases h:x=0
 ·subst h;rfl
 ·have:(x !=0)=true:=by simpa using h
  rw[if_neg h,this];rfl
theorem Le:kF []=0:=rfl
def t8:List (Int×Int)→Prop
 | [] =>False
 |(a,b)::r=>a<b∨a=b∧t8 r
theorem D3:∀ l:List (Int×Int),(kF (l.map fun p=>cA p.1 p.2) <0↔t8 l)
 | [] =>by simp[Le,t8]
 |(a,b)::r=>by
  have hc:=wK a b;simp only[List.map_cons,IB,hc,t8];rcases Int.lt_trichotomy a b with h|h|h
  ·simp[h]
  ·subst h;simp only[Int.lt_irrefl,if_false,if_true,true_and,false_or,gt_iff_lt];exact D3 r
  ·have h1:¬a<b:=by omega
   have h2:a≠b:=by omega
   simp[h1,h2,h]
def tlt (a b:Claim):Prop:=t8 [(a.rank,b.rank),(a.right,b.right),(a.farm,b.farm)]
theorem JW (a b:Claim):dy a b<0↔tlt a b:=D3 [(a.rank,b.rank),(a.right,b.right),(a.farm,b.farm)]
open Go.Shelf Go.Sort in
theorem TO {α:Type}{f:α→α→Int}{r:α→α→Prop}(e:∀ x y,f x y<0↔r x y)(h1:∀ x,¬r x x)(h2:∀ x y z,r x y→r y z→r x z)(h3:∀ x y z,¬r x y→¬r y z→¬r x z):SWO (ltOf f):=by
 have e1:∀ x y,ltOf f x y=true↔r x y:=fun x y=>by unfold ltOf;rw[decide_eq_true_eq,e]
 have e2:∀ x y,ltOf f x y=false↔¬r x y:=fun x y=>by rw[←e1];simp
 exact⟨fun x=>(e2 x x).2 (h1 x),fun x y z a b=>(e1 x z).2 (h2 x y z ((e1 x y).1 a) ((e1 y z).1 b)),fun x y z a b=>(e2 x z).2 (h3 x y z ((e2 x y).1 a) ((e2 y z).1 b))⟩
open Go.Shelf Go.Sort in
theorem GN:SWO (ltOf dy):=TO JW (fun x=>by simp only[tlt,t8,and_false,or_false];omega) (fun x y z h1 h2=>by simp only[tlt,t8,and_false,or_false]at *;omega) (fun x y z h1 h2=>by simp only[tlt,t8,and_false,or_false]at *;omega)
theorem oY {n i:Nat}{step:Nat→Unit→Unit⊕Unit}{s:Unit}(h:ay step n i s=.inr s):∀ j,i≤j→j<i+n→step j ()=.inr ():=by
 induction n generalizing i with
 |zero=>intro j h1 h2;omega
 |succ n ih=>
  simp only[ay]at h;cases hs:step i s with
  |inl r=>rw[hs]at h;cases h
  |inr s'=>
   rw[hs]at h;intro j h1 h2;by_cases e:j=i
   ·subst e;cases s;exact hs
   ·exact ih h j (by omega) (by omega)
theorem oc {b:Bool}{e:Int}:cV b e=b:=by
 cases b <;>rfl
theorem JX {a b c:Int}(h:az [a,b,c]=true):a≤b∧b≤c:=by
 unfold az at h;simp only[List.length_cons,List.length_nil,Nat.zero_add,Nat.reduceAdd,Nat.reduceSub]at h;split at h
 ·cases h
 ·rename_i s hs;have h0:=oY hs 0 (by omega) (by omega);have h1:=oY hs 1 (by omega) (by omega);simp[bM,IntKind.wrap,IntKind.bits,IntKind.signed]at h0 h1;constructor
  ·cases hd:decide (b<a) <;>simp_all <;>omega
  ·cases hd:decide (c<b) <;>simp_all <;>omega
theorem JY {a b c d:Int}(h:az [a,b,c,d]=true):a≤b∧b≤c∧c≤d:=by
 unfold az at h;simp only[List.length_cons,List.length_nil,Nat.zero_add,Nat.reduceAdd,Nat.reduceSub]at h;split at h
 ·cases h
 ·rename_i s hs;have h0:=oY hs 0 (by omega) (by omega);have h1:=oY hs 1 (by omega) (by omega);have h2:=oY hs 2 (by omega) (by omega);simp[bM,IntKind.wrap,IntKind.bits,IntKind.signed]at h0 h1 h2;refine⟨?_,?_,?_⟩
  ·cases hd:decide (b<a) <;>simp_all <;>omega
  ·cases hd:decide (c<b) <;>simp_all <;>omega
  ·cases hd:decide (d<c) <;>simp_all <;>omega
structure Right1 (d:District):Prop where
 reaches:d.reaches.length≤64
 one:0<d.reaches.length
 farms:d.farms.length≤600
 rights:d.rights.length≤256
 hours1:1≤d.hours
 hours:d.hours≤4096
 start0:0≤d.tank.start
 start:d.tank.start≤d.tank.cap
 cap:d.tank.cap≤1099511627776
 reach:∀ k,k<d.reaches.length→kD (k:Int) (d.reaches.getD k default)=true
 farm:∀ k,k<d.farms.length→0≤(d.farms.getD k default).reach∧(d.farms.getD k default).reach< (d.reaches.length:Int)
theorem Lf {k:Nat}(h:k<9223372036854775807)(h1:0<k):i64.wrap ((k:Int) - 1)=((k - 1:Nat):Int):=by
 rw[gG (by omega) (by omega)];omega
theorem D4 {step:Nat→Unit→Unit⊕Unit}:∀ {n i:Nat},(∀ j,i≤j→j<i+n→step j ()=.inr ())→ay step n i ()=.inr ()
 |0,_,_=>rfl
 |n+1,i,h=>by
  simp only[ay];rw[h i (by omega) (by omega)];exact D4 fun j h1 h2=>h j (by omega) (by omega)
theorem jP {step:Nat→Unit→Unit⊕Unit}{n:Nat}:ay step n 0 ()=.inr ()↔∀ j,j<n→step j ()=.inr ():=
 ⟨fun h j hj=>oY h j (by omega) (by omega),fun h=>D4 fun j _ h2=>h j (by omega)⟩
theorem qM {α:Type}(l:List α)(d:α){n:Nat}(h:n<l.length):l.getD n d=l[n]:=by
 rw[List.getD_eq_getElem?_getD,List.getElem?_eq_getElem h];rfl
theorem TP {step:Nat→Unit→Unit⊕Unit}{n:Nat}{α:Type}{a b:α}:(match ay step n 0 ()with| .inl _=>a| .inr _=>b)=b∨∃ y,ay step n 0 ()=.inl y:=by
 cases h:ay step n 0 ()with
 |inl y=>exact .inr ⟨y,rfl⟩
 |inr y=>exact .inl rfl
theorem Ct {a b c:Int}(h1:a≤b)(h2:b≤c):az [a,b,c]=true:=by
 have e:ay (bM [a,b,c]) 2 0 ()=.inr ():=jP.2 fun j hj=>by
  rcases(by omega:j=0∨j=1)with rfl|rfl
  ·simp[bM,IntKind.wrap,IntKind.bits,IntKind.signed,Bool.cond_eq_ite];omega
  ·simp[bM,IntKind.wrap,IntKind.bits,IntKind.signed,Bool.cond_eq_ite];omega
 unfold az;simp only[List.length_cons,List.length_nil,Nat.zero_add,Nat.reduceAdd,Nat.reduceSub,e]
theorem Cu {a b c d:Int}(h1:a≤b)(h2:b≤c)(h3:c≤d):az [a,b,c,d]=true:=by
 have e:ay (bM [a,b,c,d]) 3 0 ()=.inr ():=jP.2 fun j hj=>by
  rcases(by omega:j=0∨j=1∨j=2)with rfl|rfl|rfl
  ·simp[bM,IntKind.wrap,IntKind.bits,IntKind.signed,Bool.cond_eq_ite];omega
  ·simp[bM,IntKind.wrap,IntKind.bits,IntKind.signed,Bool.cond_eq_ite];omega
  ·simp[bM,IntKind.wrap,IntKind.bits,IntKind.signed,Bool.cond_eq_ite];omega
 unfold az;simp only[List.length_cons,List.length_nil,Nat.zero_add,Nat.reduceAdd,Nat.reduceSub,e]
theorem rt (d:District):bQ d=0↔(d.reaches.length≤64∧d.farms.length≤600∧d.crops.length≤32∧d.rights.length≤256∧d.duties.length≤256)∧(1≤d.hours∧d.hours≤4096)∧(0≤d.tank.start∧d.tank.start≤d.tank.cap∧d.tank.cap≤1099511627776)∧0<d.reaches.length∧
  (∀ k,k<d.reaches.length→eA d 191 k ()=.inr ())∧(∀ k,k<d.crops.length→eC d 191 k ()=.inr ())∧(∀ k,k<d.farms.length→eD d 191 k ()=.inr ())∧(∀ k,k<d.rights.length→fb d 191 k ()=.inr ())∧(∀ k,k<d.duties.length→fc d 191 k ()=.inr ()):=by
 have hx:f6 d 191=true↔(1≤d.hours∧d.hours≤4096)∧(0≤d.tank.start∧d.tank.start≤d.tank.cap∧d.tank.cap≤1099511627776)∧0<d.reaches.length∧
  (∀ k,k<d.reaches.length→eA d 191 k ()=.inr ())∧(∀ k,k<d.crops.length→eC d 191 k ()=.inr ())∧(∀ k,k<d.farms.length→eD d 191 k ()=.inr ())∧(∀ k,k<d.rights.length→fb d 191 k ()=.inr ())∧(∀ k,k<d.duties.length→fc d 191 k ()=.inr ()):=by
  unfold f6;simp only[oc];cases h3:(az [1,d.hours,4096]&&az [0,d.tank.start,d.tank.cap,1099511627776]&&decide ((d.reaches.length:Int) > 0))with
  |false=>
   simp only[cond_false,Bool.false_eq_true,false_iff];rintro⟨⟨a1,a2⟩,⟨a3,a4,a5⟩,a6,_⟩;rw[Ct a1 a2,Cu a3 a4 a5,decide_eq_true (by omega:(d.reaches.length:Int) > 0)]at h3;cases h3
  |true=>
   simp only[Bool.and_eq_true,decide_eq_true_eq]at h3;have b1:=JX h3.1.1;have b2:=JY h3.1.2;have b3:=h3.2;simp only[cond_true];rw[←jP,←jP,←jP,←jP,←jP]
   repeat' split
   all_goals (rename_i e;first|simp_all;done|skip)
   all_goals simp_all
   all_goals omega
 unfold bQ;simp only[oc];rw[←hx];cases h1:(((((decide ((d.reaches.length:Int)≤64))&&(decide ((d.farms.length:Int)≤600)))&&(decide ((d.crops.length:Int)≤32)))&&(decide ((d.rights.length:Int)≤256)))&&(decide ((d.duties.length:Int)≤256)))with
 |false=>
  simp only[cond_false];simp only[Bool.and_eq_false_iff,decide_eq_false_iff_not]at h1;omega
 |true=>
  simp only[Bool.and_eq_true,decide_eq_true_eq]at h1;cases f6 d 191 <;>simp <;>omega
theorem GO:∀ (f n d:Nat),1≤d→d≤f→1≤n→∀ x,(zI f n d).getLastD x=Nat.gcd n d
 |0,n,d,h1,h2,_,x=>by omega
 |f+1,n,d,h1,h2,h3,x=>by
  unfold zI;have hm:max d 1=d:=by omega
  rw[if_neg (by omega),hm];by_cases h0:n % d=0
  ·rw[if_pos h0];have:d ∣ n:=Nat.dvd_of_mod_eq_zero h0;rw[Nat.gcd_eq_right this];rfl
  ·rw[if_neg h0];have hlt:n % d<d:=Nat.mod_lt _ (by omega);have ih:=GO f d (n % d) (by omega) (by omega) (by omega) n;have e:Nat.gcd n d=Nat.gcd d (n % d):=by rw[Nat.gcd_comm n d,Nat.gcd_rec d n,Nat.gcd_comm]
   rw[e,←ih,List.getLastD_cons]
theorem Ny {n d:Nat}(h:1≤d):K_ n d=Nat.gcd n d:=by
 unfold K_;rw[if_neg (by omega)];by_cases h0:n=0
 ·subst h0;cases d with
  |zero=>omega
  |succ d=>simp[zI]
 ·exact GO d n d h (Nat.le_refl _) (by omega) d
theorem E_ (b0:Int):∀ (n i:Nat) (a b:Int),0≤a→0≤b→b.toNat<n→ay (iw b0) n i (a,b)=.inl ((Nat.gcd a.toNat b.toNat:Nat):Int)
 |0,_,_,_,_,_,h=>by omega
 |n+1,i,a,b,ha,hb,h=>by
  simp only[ay,iw];by_cases h0:b > 0
  ·rw[decide_eq_true h0];simp only[cond_true];have e1:=Int.tmod_eq_emod_of_nonneg (b:=b) ha;have e2:=Int.emod_nonneg a (by omega:b≠0);have e3:=Int.emod_lt_of_pos a h0;rw[e1,E_ b0 n (i+1) b (a % b) hb e2 (by omega)];have e4:(a % b).toNat=a.toNat % b.toNat:=by
    obtain⟨x,rfl⟩:=Int.eq_ofNat_of_zero_le ha;obtain⟨y,rfl⟩:=Int.eq_ofNat_of_zero_le hb;simp only[←Int.natCast_emod,Int.toNat_natCast]
   rw[e4,Nat.gcd_comm a.toNat b.toNat,Nat.gcd_rec b.toNat a.toNat,Nat.gcd_comm]
  ·rw[decide_eq_false h0];have:b=0:=by omega
   subst this;simp only[cond_false,Int.toNat_zero,Nat.gcd_zero_right];rw[Int.toNat_of_nonneg ha]
theorem At {a b:Int}(ha:0≤a)(hb:0≤b):n8 a b=((Nat.gcd a.toNat b.toNat:Nat):Int):=by
 unfold n8;rw[E_ b _ 0 a b ha hb (by omega)]
theorem Lg {a b:Int}(ha:0≤a)(hb:0≤b):ou a b:=by
 refine⟨lT _ _ _ fun j s _ _ h=>?_,fun z h=>?_⟩
 ·simp only[decide_eq_true_eq]at h;omega
 ·rw[E_ b _ 0 a b ha hb (by omega)]at h;cases h
theorem Nz {n:Int}(h0:0≤n)(h1:n<18446744073709551616):u64.wrap n=n:=by
 simp only[IntKind.wrap,IntKind.bits,IntKind.signed];simp;omega
theorem Dg {n:Int}(h0: -1073741824≤n)(h1:n≤1073741824):gj n=(n.natAbs:Int):=by
 unfold gj;by_cases h:n<0
 ·rw[decide_eq_true h];simp only[cond_true,IntKind.wrap,IntKind.bits,IntKind.signed];simp;omega
 ·rw[decide_eq_false h];simp only[cond_false];rw[Nz (by omega) (by omega)];omega
theorem Cv {n:Int}(h0: -1073741824≤n)(h1:n≤1073741824):qi n=(n.natAbs:Int):=by
 unfold qi;by_cases h:n<0
 ·rw[decide_eq_true h];simp only[cond_true];rw[gG (by omega) (by omega)];omega
 ·rw[decide_eq_false h];simp only[cond_false];omega
structure RatioOk (a:Ratio):Prop where
 d1:1≤a.d
 d:a.d≤1073741824
 n0: -1073741824≤a.n
 n:a.n≤1073741824
 gcd:Nat.gcd a.n.natAbs a.d.toNat=1
theorem xc (a:Ratio):dU a=0↔RatioOk a:=by
 unfold dU;cases h:((((decide (a.d<1)) ||(decide (a.d > 1073741824))) ||(decide (a.n< (-1073741824)))) ||(decide (a.n > 1073741824)))with
 |true=>
  simp only[Bool.true_or,cond_true];simp only[Bool.or_eq_true,decide_eq_true_eq]at h;refine⟨fun e=>(by cases e),fun r=>?_⟩;have:=r.d1;have:=r.d;have:=r.n0;have:=r.n;omega
 |false=>
  simp only[Bool.or_eq_false_iff,decide_eq_false_iff_not]at h;rw[Dg (by omega) (by omega),Nz (by omega) (by omega),Int.toNat_natCast,Ny (by omega)];simp only[Bool.false_or];by_cases hg:Nat.gcd a.n.natAbs a.d.toNat=1
  ·rw[hg];exact⟨fun _=>⟨by omega,by omega,by omega,by omega,hg⟩,fun _=>rfl⟩
  ·have:((Nat.gcd a.n.natAbs a.d.toNat:Nat):Int)≠1:=by omega
   rw[bne_iff_ne.2 this];exact⟨fun e=>(by cases e),fun r=>absurd r.gcd hg⟩
theorem xd (a:Ratio):gM a=true↔RatioOk a:=by
 unfold gM;constructor
 ·intro h;simp only[Bool.and_eq_true,decide_eq_true_eq,beq_iff_eq]at h;obtain⟨⟨⟨⟨h1,h2⟩,h3⟩,h4⟩,h5⟩:=h;rw[Cv (by omega) (by omega),At (by omega) (by omega),Int.toNat_natCast]at h5;exact⟨h1,h2,h3,h4,by omega⟩
 ·intro r;have:=r.d1;have:=r.d;have:=r.n0;have:=r.n;simp only[Bool.and_eq_true,decide_eq_true_eq,beq_iff_eq];rw[Cv (by omega) (by omega),At (by omega) (by omega),Int.toNat_natCast,r.gcd];exact⟨⟨⟨⟨by omega,by omega⟩,by omega⟩,by omega⟩,rfl⟩
theorem NA (a:Ratio):dU a=0∨dU a=120:=by
 unfold dU;rw[Bool.cond_eq_ite];split <;>simp
theorem GP (a:Ratio):dU a=i0 a:=by
 unfold i0;cases h:gM a with
 |true=>exact(xc a).2 ((xd a).1 h)
 |false=>
  have:dU a≠0:=fun e=>by
   have:=(xd a).2 ((xc a).1 e);rw[h]at this;cases this
  have:=NA a;simp only[Bool.not_false,cond_true];omega
theorem yY (a:Ratio):gM a=(dU a==0):=by
 cases h:gM a with
 |true=>rw[(xc a).2 ((xd a).1 h)];rfl
 |false=>
  have:dU a≠0:=fun e=>by
   have:=(xd a).2 ((xc a).1 e);rw[h]at this;cases this
  simp[this]
theorem TQ (a b:Ratio):qg a b=qj a b:=by
 unfold qg qj sQ sP;rw[yY,yY,wK];generalize i64.wrap (a.n*b.d)=x;generalize i64.wrap (b.n*a.d)=y;cases h1:(dU a==0) <;>cases h2:(dU b==0) <;>simp[bne,h1,h2,Bool.cond_eq_ite];split
 ·rfl
 ·split <;>rfl
theorem A2 (a:Ratio):lm a:=fun h=>by
 simp only[Bool.and_eq_true,decide_eq_true_eq]at h;rw[Cv (by omega) (by omega)];exact Lg (by omega) (by omega)
theorem TR (a b:Ratio):so a b:=⟨A2 a,fun _=>A2 b⟩
theorem sD (a b c:Int):az [a,b,c]=(decide (a≤b)&&decide (b≤c)):=by
 cases h:az [a,b,c]with
 |true=>have:=JX h;simp[this.1,this.2]
 |false=>
  by_cases h1:a≤b
  ·by_cases h2:b≤c
   ·rw[Ct h1 h2]at h;cases h
   ·simp[h2]
  ·simp[h1]
theorem uJ (a b c d:Int):az [a,b,c,d]=(decide (a≤b)&&decide (b≤c)&&decide (c≤d)):=by
 cases h:az [a,b,c,d]with
 |true=>have:=JY h;simp[this.1,this.2.1,this.2.2]
 |false=>
  by_cases h1:a≤b
  ·by_cases h2:b≤c
   ·by_cases h3:c≤d
    ·rw[Cu h1 h2 h3]at h;cases h
    ·simp[h3]
   ·simp[h2]
  ·simp[h1]
theorem X0 {a b:Bool}(h:a=true↔b=true):a=b:=by cases a <;>cases b <;>simp_all
theorem NB (x:Ratio×Ratio):nq x=gI x:=by
 unfold nq gI;rw[TQ,←GP,←GP];unfold qj sQ;rw[yY,yY];cases h1:(dU x.1==0) <;>cases h2:(dU x.2==0) <;>simp[bne,h1,h2,Bool.cond_eq_ite]
 repeat' split
 all_goals simp
theorem TS (i:Int)(x:Reach):kD i x=true↔((i > 0∧0≤x.up∧x.up<i)∨(¬i > 0∧x.up= -1))∧(1≤x.delay∧x.delay≤16)∧(0≤x.siphon∧x.siphon≤x.cap∧x.cap≤1073741824)∧(x.siphon≤x.bank∧x.bank≤1099511627776)∧(0≤x.evap.lo∧x.evap.lo≤x.evap.hi∧x.evap.hi≤1073741824)∧gI x.seep=true:=by
 unfold kD ez;rw[NB,sD,uJ,uJ,uJ];generalize gI x.seep=q;by_cases h:i > 0
 ·rw[decide_eq_true h];simp only[cond_true,Bool.and_eq_true,decide_eq_true_eq];cases q <;>simp only[Bool.false_eq_true,and_false,and_true] <;>omega
 ·rw[decide_eq_false h];simp only[cond_false,Bool.and_eq_true,decide_eq_true_eq,beq_iff_eq];cases q <;>simp only[Bool.false_eq_true,and_false,and_true] <;>omega
theorem TT (x:Reach):rh x=true↔(1≤x.delay∧x.delay≤16)∧(0≤x.siphon∧x.siphon≤x.cap∧x.cap≤1073741824)∧(x.siphon≤x.bank∧x.bank≤1099511627776)∧(0≤x.evap.lo∧x.evap.lo≤x.evap.hi∧x.evap.hi≤1073741824)∧gI x.seep=true:=by
 unfold rh aD;generalize gI x.seep=q;have hb:∀ (A B:Bool) (q:Bool),(bif A then false else bif B then false else q)=true↔A=false∧B=false∧q=true:=fun A B q=>by cases A <;>cases B <;>simp
 rw[hb];simp only[Bool.or_eq_false_iff,Bool.not_eq_false',Bool.and_eq_true,decide_eq_true_eq,decide_eq_false_iff_not];by_cases h:x.bank<x.cap
 ·rw[if_pos h];cases q <;>simp only[Bool.false_eq_true,and_false,and_true] <;>omega
 ·rw[if_neg h];cases q <;>simp only[Bool.false_eq_true,and_false,and_true] <;>omega
theorem Cw (l:List Reach)(k:Nat)(hk:k<4096):ix l k ()=.inr ()↔kD (k:Int) (l.getD k default)=true:=by
 unfold ix aD;rw[TS];have hb:∀ A B:Bool,((bif A then Sum.inl ()else bif B then Sum.inl ()else Sum.inr ()):Unit⊕Unit)=.inr ()↔A=false∧B=false:=fun A B=>by cases A <;>cases B <;>simp
 rw[hb,Bool.not_eq_false',TT];generalize l.getD k default=x;generalize gI x.seep=q;by_cases h:0<k
 ·rw[Lf (by omega) h];simp only[Bool.or_eq_false_iff,Bool.and_eq_false_iff,Bool.not_eq_false',Bool.and_eq_true,decide_eq_true_eq,decide_eq_false_iff_not,beq_eq_false_iff_ne,bne_eq_false_iff_eq];cases q <;>simp only[Bool.false_eq_true,and_false,and_true] <;>omega
 ·have:k=0:=by omega
  subst this;simp only[Bool.or_eq_false_iff,Bool.and_eq_false_iff,Bool.not_eq_false',Bool.and_eq_true,decide_eq_true_eq,decide_eq_false_iff_not,beq_eq_false_iff_ne,bne_eq_false_iff_eq];cases q <;>simp only[Bool.false_eq_true,and_false,and_true] <;>omega
theorem IC {n:Nat}(h:n≤4096):i64.wrap ((n:Int) - 1)=(n:Int) - 1:=gG (by omega) (by omega)
theorem QE (x:ByteArray):(x==x)=true:=by
 cases x with
 |mk d=>
  show(d==d)=true;simp
theorem NC (d:District)(x:Right)(h1:d.farms.length≤600)(h2:d.reaches.length≤64)(h3:1≤d.hours)(h4:d.hours≤4096):pm d x=rj d x:=by
 unfold pm rj ez aD;rw[uJ,sD,sD,uJ,IC (by omega),IC (by omega),gG (by omega: -9223372036854775808≤d.hours - 1) (by omega)];rw[QE];refine X0 ?_;have hb:∀ (A q:Bool),(bif A then false else q)=true↔A=false∧q=true:=fun A q=>by cases A <;>simp
 rw[hb,hb];have hc:∀ (k1 k2 k3 a b c:Bool),(bif k1 then a else bif k2 then b else bif k3 then c else false)=true↔(k1=true∧a=true)∨(k1=false∧k2=true∧b=true)∨(k1=false∧k2=false∧k3=true∧c=true):=fun k1 k2 k3 a b c=>by cases k1 <;>cases k2 <;>cases k3 <;>simp
 rw[hc,hc];simp only[Bool.or_eq_false_iff,Bool.and_eq_true,Bool.not_eq_false',decide_eq_true_eq,decide_eq_false_iff_not,beq_iff_eq,beq_eq_false_iff_ne,and_true,true_and];omega
theorem ux (A:Bool):((bif A then Sum.inr ()else Sum.inl ()):Unit⊕Unit)=.inr ()↔A=true:=by cases A <;>simp
theorem uy (A:Bool):((bif A then Sum.inl ()else Sum.inr ()):Unit⊕Unit)=.inr ()↔A=false:=by cases A <;>simp
theorem D5 (d:District)(k:Nat):mr d k ()=.inr ()↔eC d 191 k ()=.inr ():=by
 unfold mr eC aD;rw[oc,uy,ux,sD];simp only[Bool.not_eq_false',Bool.and_eq_true,decide_eq_true_eq,ge_iff_le]
theorem D6 (d:District)(k:Nat)(h1:d.reaches.length≤64)(h2:d.crops.length≤32):mt d k ()=.inr ()↔eD d 191 k ()=.inr ():=by
 unfold mt eD aD ez;simp only[oc];rw[sD,IC (by omega),IC (by omega)];generalize d.farms.getD k default=x;have hb:∀ A B:Bool,((bif A then Sum.inl ()else bif B then Sum.inl ()else Sum.inr ()):Unit⊕Unit)=.inr ()↔A=false∧B=false:=fun A B=>by cases A <;>cases B <;>simp
 rw[hb];by_cases h:x.area > 0
 ·rw[decide_eq_true h];simp only[Bool.true_and,Bool.false_and,Bool.or_false,cond_true,ux,Bool.or_eq_false_iff,Bool.and_eq_false_iff,Bool.not_eq_false',Bool.and_eq_true,decide_eq_true_eq,decide_eq_false_iff_not,beq_eq_false_iff_ne,bne_eq_false_iff_eq];omega
 ·rw[decide_eq_false h];simp only[Bool.true_and,Bool.false_and,Bool.or_false,cond_false,ux,Bool.or_eq_false_iff,Bool.and_eq_false_iff,Bool.not_eq_false',Bool.and_eq_true,decide_eq_true_eq,decide_eq_false_iff_not,beq_eq_false_iff_ne,bne_eq_false_iff_eq,beq_iff_eq];omega
theorem D7 (d:District)(k:Nat)(h1:d.reaches.length≤64)(h2:d.farms.length≤600):mv d k ()=.inr ()↔fc d 191 k ()=.inr ():=by
 unfold mv fc aD ez;simp only[oc];rw[sD,IC (by omega),IC (by omega),ux,uy];simp only[Bool.or_eq_false_iff,Bool.not_eq_false',Bool.and_eq_true,decide_eq_true_eq];omega
theorem Au (d:District)(k:Nat)(h1:d.farms.length≤600)(h2:d.reaches.length≤64)(h3:1≤d.hours)(h4:d.hours≤4096):mu d k ()=.inr ()↔fb d 191 k ()=.inr ():=by
 unfold mu fb;rw[oc,NC d _ h1 h2 h3 h4,ux,uy,Bool.not_eq_false']
theorem m1 {r:Unit⊕Unit}{a b:Bool}:(match r with| .inl _=>a| .inr _=>b)=true↔(r=.inr ()∧b=true)∨((∃ y,r=.inl y)∧a=true):=by
 cases r with
 |inl y=>simp
 |inr y=>simp
theorem GQ (d:District)(h1:d.reaches.length≤64)(h2:d.farms.length≤600)(h3:d.crops.length≤32):oX d=true↔(1≤d.hours∧d.hours≤4096)∧(0≤d.tank.start∧d.tank.start≤d.tank.cap∧d.tank.cap≤1099511627776)∧0<d.reaches.length∧
  (∀ k,k<d.reaches.length→eA d 191 k ()=.inr ())∧(∀ k,k<d.crops.length→eC d 191 k ()=.inr ())∧(∀ k,k<d.farms.length→eD d 191 k ()=.inr ())∧(∀ k,k<d.rights.length→fb d 191 k ()=.inr ())∧(∀ k,k<d.duties.length→fc d 191 k ()=.inr ()):=by
 have hR:n9 d.reaches=true↔(∀ k,k<d.reaches.length→eA d 191 k ()=.inr ())∧0<d.reaches.length:=by
  unfold n9;refine Iff.trans (m1 (r:=ay (ix d.reaches) d.reaches.length 0 ()) (a:=false) (b:=decide ((d.reaches.length:Int) > 0))) ?_;simp only[Bool.false_eq_true,and_false,or_false,decide_eq_true_eq];rw[jP];refine and_congr ⟨fun h k hk=>?_,fun h k hk=>?_⟩ (by omega)
  ·unfold eA;rw[oc,ux];exact(Cw _ k (by omega)).1 (h k hk)
  ·have:=h k hk;unfold eA at this;rw[oc,ux]at this;exact(Cw _ k (by omega)).2 this
 have hF:ri d=true↔(∀ k,k<d.crops.length→eC d 191 k ()=.inr ())∧(∀ k,k<d.farms.length→eD d 191 k ()=.inr ()):=by
  unfold ri;refine Iff.trans (m1 (r:=ay (mr d) d.crops.length 0 ()) (a:=false) (b:=match ay (mt d) d.farms.length 0 ()with| .inl _=>false| .inr _=>true)) ?_;simp only[Bool.false_eq_true,and_false,or_false];rw[jP];refine Iff.trans (and_congr_right fun _=>m1) ?_;simp only[Bool.false_eq_true,and_false,or_false,and_true];rw[jP];exact and_congr ⟨fun h k hk=>(D5 d k).1 (h k hk),fun h k hk=>(D5 d k).2 (h k hk)⟩ ⟨fun h k hk=>(D6 d k h1 h3).1 (h k hk),fun h k hk=>(D6 d k h1 h3).2 (h k hk)⟩
 unfold oX;have hb:∀ A B q:Bool,(bif A then false else bif B then false else q)=true↔A=false∧B=false∧q=true:=fun A B q=>by cases A <;>cases B <;>simp
 rw[hb];refine Iff.trans (and_congr_right fun _=>and_congr_right fun _=>Iff.trans (m1 (r:=ay (mu d) d.rights.length 0 ()) (a:=false) (b:=match ay (mv d) d.duties.length 0 ()with| .inl _=>false| .inr _=>true)) (or_congr_left (and_congr_right fun _=>m1))) ?_;simp only[Bool.false_eq_true,and_false,or_false,and_true];rw[jP,jP];simp only[Bool.or_eq_false_iff,Bool.not_eq_false',hR,hF,aD,Bool.and_eq_true,decide_eq_true_eq,decide_eq_false_iff_not];constructor
 ·rintro⟨⟨⟨a1,a2⟩,a3⟩,⟨⟨b1,b2⟩,b3,b4⟩,b5,b6⟩;refine⟨by omega,by omega,b2,b1,b3,b4,fun k hk=>(Au d k h2 h1 (by omega) (by omega)).1 (b5 k hk),fun k hk=>(D7 d k h1 h2).1 (b6 k hk)⟩
 ·rintro⟨a1,a2,a3,b1,b2,b3,b4,b5⟩;refine⟨⟨⟨by omega,by omega⟩,by omega⟩,⟨⟨b1,a3⟩,b2,b3⟩,fun k hk=>(Au d k h2 h1 (by omega) (by omega)).2 (b4 k hk),fun k hk=>(D7 d k h1 h2).2 (b5 k hk)⟩
theorem wL (d:District):bQ d=eJ d:=by
 have hs:=rt d;unfold eJ;by_cases hl:d.reaches.length≤64∧d.farms.length≤600∧d.crops.length≤32∧d.rights.length≤256∧d.duties.length≤256
 ·have e1:(((((decide ((d.reaches.length:Int) > 64)) ||(decide ((d.farms.length:Int) > 600))) ||(decide ((d.crops.length:Int) > 32))) ||(decide ((d.rights.length:Int) > 256))) ||(decide ((d.duties.length:Int) > 256)))=false:=by
   simp only[Bool.or_eq_false_iff,decide_eq_false_iff_not];omega
  rw[e1];simp only[cond_false];have hv:=GQ d hl.1 hl.2.1 hl.2.2.1;cases h:oX d with
  |true=>exact hs.2 ⟨hl,hv.1 h⟩
  |false=>
   have h0:bQ d≠0:=fun e=>by
    have:=hv.2 (hs.1 e).2;rw[h]at this;cases this
   unfold bQ at h0 ⊢;simp only[oc]at h0 ⊢;have e2:(((((decide ((d.reaches.length:Int)≤64))&&(decide ((d.farms.length:Int)≤600)))&&(decide ((d.crops.length:Int)≤32)))&&(decide ((d.rights.length:Int)≤256)))&&(decide ((d.duties.length:Int)≤256)))=true:=by
    simp only[Bool.and_eq_true,decide_eq_true_eq];omega
   rw[e2]at h0 ⊢;simp only[cond_true]at h0 ⊢;cases hx:f6 d 191 with
   |true=>rw[hx]at h0;simp at h0
   |false=>rfl
 ·have e1:(((((decide ((d.reaches.length:Int) > 64)) ||(decide ((d.farms.length:Int) > 600))) ||(decide ((d.crops.length:Int) > 32))) ||(decide ((d.rights.length:Int) > 256))) ||(decide ((d.duties.length:Int) > 256)))=true:=by
   simp only[Bool.or_eq_true,decide_eq_true_eq];omega
  rw[e1];unfold bQ;simp only[oc];have e2:(((((decide ((d.reaches.length:Int)≤64))&&(decide ((d.farms.length:Int)≤600)))&&(decide ((d.crops.length:Int)≤32)))&&(decide ((d.rights.length:Int)≤256)))&&(decide ((d.duties.length:Int)≤256)))=false:=by
   simp only[Bool.and_eq_false_iff,decide_eq_false_iff_not];omega
  rw[e2];rfl
theorem ND (x:Ratio×Ratio):pr x:=⟨A2 _,fun _=>A2 _,fun _=>TR _ _⟩
theorem QF (x:Reach):qG x:=fun _ _=>ND _
theorem Lh (d:District):qH d:=fun _=>lT _ _ _ fun _ _ _ _ _ _=>QF _
theorem D8 (d:District):n_ d:=fun _ _=>Lh d
def aF (n:Int)(lo:Int)(hi:Int):Bool:=((decide (n≥lo))&&(decide (n≤hi)))
@[go_sem] def pt:List SV→Option Con:=(pI fun n=>(pI fun lo=>(pI fun hi=>(pE (.det True (.v (.bool (aF n lo hi))))))))
theorem rV:FnOk Tryz.prog 54 pt:=by
 have hG:ConsOk Tryz.prog (mkG [] []):=aq cg0 cg0;refine ax [.o] mixed ak hG (fn:=Tryz.f54) (c:=aa Tryz.f54) kr kr kr kr (bt fun n=>(bt fun lo=>(bt fun hi=>(ai (fun hp=>?_)))));dsimp only[ar]at hp;refine⟨nbl rfl,L0,ah _,?_⟩
 ·unfold aa Tryz.f54;try unfold aF
  exact zq1
def i5 (a0:District)(a1:Judgement):Bool:=(bif(((((!(aF a1.kind 1 4)) ||(!(aF a1.farm 0 (i64.wrap ((a0.farms.length:Int) - 1))))) ||(decide (a1.since<0))) ||(decide (a1.since > a1.to))) ||(decide (a1.to≥a0.hours)))then false else(bif(a1.kind==1)then((a1.other==0)&&(a1.n==0))else(bif(a1.kind==2)then((a1.other==0)&&(aF a1.n 1 1073741824))else(bif(((!(aF a1.other 0 (i64.wrap ((a0.farms.length:Int) - 1)))) ||(a1.other==a1.farm)) ||(!(aF a1.n 1 1073741824)))then false else((a1.kind==4) ||((a0.farms.getD (Int.toNat a1.other) (default:Farm)).reach==(a0.farms.getD (Int.toNat a1.farm) (default:Farm)).reach))))))
def t_ (a0:District)(a1:Judgement):Prop:=(a0.farms.length≤aJ→((((((!(aF a1.kind 1 4)) ||(!(aF a1.farm 0 (i64.wrap ((a0.farms.length:Int) - 1))))) ||(decide (a1.since<0))) ||(decide (a1.since > a1.to))) ||(decide (a1.to≥a0.hours)))=false→((a1.kind==1)=false→((a1.kind==2)=false→((((!(aF a1.other 0 (i64.wrap ((a0.farms.length:Int) - 1)))) ||(a1.other==a1.farm)) ||(!(aF a1.n 1 1073741824)))=false→(((a1.kind==4)=false→(0≤a1.other∧a1.other< (a0.farms.length:Int)))∧((a1.kind==4)=false→(0≤a1.farm∧a1.farm< (a0.farms.length:Int)))))))))
@[go_sem] def xM:List SV→Option Con:=(pD .district fun a0=>(pD .judgement fun a1=>(pE (.det (t_ a0 a1) (.v (.bool (i5 a0 a1)))))))
theorem Cy:FnOk Tryz.prog 111 xM:=by
 have hG:ConsOk Tryz.prog (mkG [(54,pt)] []):=aq (cgc rV cg0) cg0;refine ax [.o] mixed ak hG (fn:=Tryz.f111) (c:=aa Tryz.f111) kr kr kr kr (aM fun a0=>(aM fun a1=>(ai (fun hp=>?_))));dsimp only[ar]at hp;unfold t_ at hp;refine⟨nbl rfl,L0,ah _,?_⟩
 ·unfold aa Tryz.f111;try unfold i5
  exact zq1
@[go_sem] def ow (a0:List Judgement)(a1:Judgement)(k_0:Nat)(s_0:Bool):Unit⊕Bool:=(bif(((a0.getD k_0 (default:Judgement)).of_==0)&&((a0.getD k_0 (default:Judgement)).no==(i64.wrap (a1.of_ - 1))))then(bif((a0.getD k_0 (default:Judgement)).of_==a1.of_)then .inl ()else .inr true)else(bif((a0.getD k_0 (default:Judgement)).of_==a1.of_)then .inl ()else .inr s_0))
def i6 (a0:List Judgement)(a1:Judgement):Bool:=(bif((((((a1.kind !=0) ||(a1.farm !=0)) ||(a1.other !=0)) ||(a1.since !=0)) ||(a1.to !=0)) ||(a1.n !=0))then false else(match ay (ow a0 a1) a0.length 0 false with| .inl x_0_0=>false| .inr s_0=>s_0))
@[go_sem] def wM:List SV→Option Con:=(pR .judgement fun a0=>(pD .judgement fun a1=>(pE (.det True (.v (.bool (i6 a0 a1)))))))
theorem AP:FnOk Tryz.prog 112 wM:=by
 have hG:ConsOk Tryz.prog (mkG [] []):=aq cg0 cg0;refine ax [.o] mixed ak hG (fn:=Tryz.f112) (c:=aa Tryz.f112) kr kr kr kr (a8 fun a0=>(aM fun a1=>(ai (fun hp=>?_))));dsimp only[ar]at hp;refine⟨nbl rfl,(fun id st=>bif Nat.beq id 0 then some (LCR (ρ:=Unit) (σ:=Bool) 1 [] [0] (fun k_0 s_0=>⟨[(0,.rs .judgement a0),(3,.ptr 0 0),(5,.v (.bool s_0)),(6,.v (.int .i64 (k_0:Int)))],[.cells (cellsOf .judgement a1)]⟩) (ow a0 a1) pT a0.length false (True) (fun _=>.ret) (fun x_0_0=>⟨[(4,.v (.bool false))],[.dead]⟩) st)else none),?_,?_⟩
 ·unfold aa Tryz.f112;simp only[ap,true_and,and_true]
  ·refine ig (a0.length≤aJ) mixed ak hG kr (fun _=>rfl) (a0.length:Int) rfl fD (fun hb0 k_0 s_0 hlt0 _ hw hc=>⟨L0,ah _,?_⟩) (fun hb0 s_0 hc=>?_) fun hb0 k_0 s_0=>?_
   ·exact aY (jl [0])
   ·exact aX (jl [0])
   ·exact zq7
 ·unfold aa Tryz.f112;try unfold i6
  exact zq1
def gN (d:District)(before:List Judgement)(x:Judgement):Bool:=(bif(((!(aF x.no 0 1048576)) ||(!(aF x.hour 0 d.hours))) ||((decide ((before.length:Int) > 0))&&((decide (x.no≤(before.getD (Int.toNat (i64.wrap ((before.length:Int) - 1))) (default:Judgement)).no)) ||(decide (x.hour< (before.getD (Int.toNat (i64.wrap ((before.length:Int) - 1))) (default:Judgement)).hour)))))then false else(bif(x.of_==0)then(i5 d x)else((decide (x.of_ > 0))&&(i6 before x))))
def ua (d:District)(before:List Judgement)(x:Judgement):Prop:=(before.length≤aJ→((((!(aF x.no 0 1048576)) ||(!(aF x.hour 0 d.hours)))=false→((decide ((before.length:Int) > 0))=true→(0≤(i64.wrap ((before.length:Int) - 1))∧(i64.wrap ((before.length:Int) - 1)) < (before.length:Int))))∧((((!(aF x.no 0 1048576)) ||(!(aF x.hour 0 d.hours)))=false→((decide ((before.length:Int) > 0))=true→((decide (x.no≤(before.getD (Int.toNat (i64.wrap ((before.length:Int) - 1))) (default:Judgement)).no))=false→(0≤(i64.wrap ((before.length:Int) - 1))∧(i64.wrap ((before.length:Int) - 1)) < (before.length:Int)))))∧((((!(aF x.no 0 1048576)) ||(!(aF x.hour 0 d.hours))) ||((decide ((before.length:Int) > 0))&&((decide (x.no≤(before.getD (Int.toNat (i64.wrap ((before.length:Int) - 1))) (default:Judgement)).no)) ||(decide (x.hour< (before.getD (Int.toNat (i64.wrap ((before.length:Int) - 1))) (default:Judgement)).hour)))))=false→((x.of_==0)=true→(t_ d x))))))
@[go_sem] def xN:List SV→Option Con:=(pD .district fun d=>(pR .judgement fun before=>(pD .judgement fun x=>(pE (.det (ua d before x) (.v (.bool (gN d before x))))))))
theorem Cz:FnOk Tryz.prog 61 xN:=by
 have hG:ConsOk Tryz.prog (mkG [(54,pt),(111,fun l=>xM (a7 [.st .district,.st .judgement] l)),(112,fun l=>wM (a7 [.sl .judgement,.st .judgement] l))] []):=aq (cgc rV (cgc (Cy.norm [.st .district,.st .judgement]) (cgc (AP.norm [.sl .judgement,.st .judgement]) cg0))) cg0;refine ax [.o] mixed ak hG (fn:=Tryz.f61) (c:=aa Tryz.f61) kr kr kr kr (aM fun d=>(a8 fun before=>(aM fun x=>(ai (fun hp=>?_)))));dsimp only[ar]at hp;unfold ua at hp;refine⟨nbl rfl,L0,ah _,?_⟩
 ·unfold aa Tryz.f61;try unfold gN
  exact zq1
@[go_sem] def gO (d:District)(j:List Judgement)(k_0:Nat)(s_0:Unit):Unit⊕Unit:=(bif(!(gN d ((j.take k_0).drop 0) (j.getD k_0 (default:Judgement))))then .inl ()else .inr ())
def qn (d:District)(j:List Judgement)(k_0:Nat)(s_0:Unit):Prop:=(j.length≤aJ→((0≤0∧0≤(k_0:Int)∧(k_0:Int)≤(j.length:Int))∧(ua d ((j.take k_0).drop 0) (j.getD k_0 (default:Judgement)))))
def cW (d:District)(j:List Judgement):Int:=(bif((eJ d) !=0)then(eJ d)else(bif(decide ((j.length:Int) > 64))then 2 else(match ay (gO d j) j.length 0 ()with| .inl x_0_0=>530| .inr s_0=>0)))
def ln (d:District)(j:List Judgement):Prop:=((n_ d)∧(((eJ d) !=0)=false→(j.length≤aJ→((decide ((j.length:Int) > 64))=false→okI (gO d j) (qn d j) j.length 0 ()))))
@[go_sem] def qN:List SV→Option Con:=(pD .district fun d=>(pR .judgement fun j=>(pE (.det (ln d j) (.v (.int .i64 (cW d j)))))))
theorem sW:FnOk Tryz.prog 17 qN:=by
 have hG:ConsOk Tryz.prog (mkG [(60,fun l=>tY (a7 [.st .district] l)),(61,fun l=>xN (a7 [.st .district,.sl .judgement,.st .judgement] l))] []):=aq (cgc (wI.norm [.st .district]) (cgc (Cz.norm [.st .district,.sl .judgement,.st .judgement]) cg0)) cg0;refine ax [.o] mixed ak hG (fn:=Tryz.f17) (c:=aa Tryz.f17) kr kr kr kr (aM fun d=>(a8 fun j=>(ai (fun hp=>?_))));dsimp only[ar]at hp;unfold ln at hp;refine⟨nbl rfl,(fun id st=>bif Nat.beq id 0 then some (LCR (ρ:=Unit) (σ:=Unit) 1 [] [0] (fun k_0 s_0=>⟨[(1,.rs .judgement j),(2,.ptr 0 0),(6,.v (.int .i64 (k_0:Int)))],[.cells (cellsOf .district d)]⟩) (gO d j) (qn d j) j.length () (True) (fun _=>.ret) (fun x_0_0=>⟨[(4,.v (.int .i64 530))],[.dead]⟩) st)else none),?_,?_⟩
 ·unfold aa Tryz.f17;simp only[ap,true_and,and_true]
  ·refine ig (j.length≤aJ) mixed ak hG kr (fun _=>rfl) (j.length:Int) rfl fD (fun hb0 k_0 s_0 hlt0 hq0 hw hc=>⟨L0,ah _,?_⟩) (fun hb0 s_0 hc=>?_) fun hb0 k_0 s_0=>?_
   ·unfold qn at hq0;try simp only[hw,Int.toNat_natCast]at hq0
    exact aY (jl [0])
   ·exact aX (jl [0])
   ·exact zq7
 ·unfold aa Tryz.f17;try unfold cW
  exact zq1
@[go_sem] def pu (j:List Judgement)(x:Judgement)(hour:Int)(k_0:Nat)(s_0:Unit):Unit⊕Unit:=(bif(((j.getD k_0 (default:Judgement)).of_==(i64.wrap (x.no+1)))&&(decide ((j.getD k_0 (default:Judgement)).hour≤hour)))then .inl ()else .inr ())
def oZ (j:List Judgement)(x:Judgement)(hour:Int):Bool:=(match ay (pu j x hour) j.length 0 ()with| .inl x_0_0=>true| .inr s_0=>false)
@[go_sem] def ub:List SV→Option Con:=(pR .judgement fun j=>(pD .judgement fun x=>(pI fun hour=>(pE (.det True (.v (.bool (oZ j x hour))))))))
theorem wN:FnOk Tryz.prog 55 ub:=by
 have hG:ConsOk Tryz.prog (mkG [] []):=aq cg0 cg0;refine ax [.o] mixed ak hG (fn:=Tryz.f55) (c:=aa Tryz.f55) kr kr kr kr (a8 fun j=>(aM fun x=>(bt fun hour=>(ai (fun hp=>?_)))));dsimp only[ar]at hp;refine⟨nbl rfl,(fun id st=>bif Nat.beq id 0 then some (LCR (ρ:=Unit) (σ:=Unit) 1 [] [0] (fun k_0 s_0=>⟨[(0,.rs .judgement j),(2,.v (.int .i64 hour)),(4,.ptr 0 0),(7,.v (.int .i64 (k_0:Int)))],[.cells (cellsOf .judgement x)]⟩) (pu j x hour) pT j.length () (True) (fun _=>.ret) (fun x_0_0=>⟨[(6,.v (.bool true))],[.dead]⟩) st)else none),?_,?_⟩
 ·unfold aa Tryz.f55;simp only[ap,true_and,and_true]
  ·refine ig (j.length≤aJ) mixed ak hG kr (fun _=>rfl) (j.length:Int) rfl fD (fun hb0 k_0 s_0 hlt0 _ hw hc=>⟨L0,ah _,?_⟩) (fun hb0 s_0 hc=>?_) fun hb0 k_0 s_0=>?_
   ·exact aY (jl [0])
   ·exact aX (jl [0])
   ·exact zq7
 ·unfold aa Tryz.f55;try unfold oZ
  exact zq1
def bg (j:List Judgement)(x:Judgement)(hour:Int):Bool:=(((((x.of_==0)&&(decide (x.hour≤hour)))&&(decide (x.since≤hour)))&&(decide (hour≤x.to)))&&(!(oZ j x hour)))
@[go_sem] def vM:List SV→Option Con:=(pR .judgement fun j=>(pD .judgement fun x=>(pI fun hour=>(pE (.det True (.v (.bool (bg j x hour))))))))
theorem zS:FnOk Tryz.prog 100 vM:=by
 have hG:ConsOk Tryz.prog (mkG [(55,fun l=>ub (a7 [.sl .judgement,.st .judgement,.o] l))] []):=aq (cgc (wN.norm [.sl .judgement,.st .judgement,.o]) cg0) cg0;refine ax [.o] mixed ak hG (fn:=Tryz.f100) (c:=aa Tryz.f100) kr kr kr kr (a8 fun j=>(aM fun x=>(bt fun hour=>(ai (fun hp=>?_)))));dsimp only[ar]at hp;refine⟨nbl rfl,L0,ah _,?_⟩
 ·unfold aa Tryz.f100;try unfold bg
  exact zq1
end Go.Sx
end
section
namespace Go.Sx
open Go.RowKit
def Li (k:Tag)(i:Nat)(t:List (Nat×SV))(h:List Ob):SV→St
 | .v (.slice none 0 0) =>⟨(i,.os h.length)::t,h++[.row k []]⟩
 |_=>⟨t,h⟩
def NE (k:Tag)(id off:Nat)(t:List (Nat×SV))(h:List Ob)(l:List SV):Option SV→St
 |some (.v (.slice none 0 0)) =>⟨t,br h id (.cells (l.set off (.os h.length)))++[.row k []]⟩
 |_=>⟨t,h⟩
def QG (k:Tag)(id off:Nat)(t:List (Nat×SV))(h:List Ob):Ob→St
 | .cells l=>NE k id off t h l (nth l off)
 |_=>⟨t,h⟩
def NF (k:Tag)(t:List (Nat×SV))(h:List Ob):SV→St
 | .ptr id off=>QG k id off t h (an h id)
 |_=>⟨t,h⟩
def GR (k:Tag):ResultVar→List (Nat×SV)→List Ob→St
 | .tmp i,t,h=>Li k i t h (lk i t)
 | .cell i _,t,h=>NF k t h (lk i t)
def CA:List (ResultVar×Tag)→St→St
 | [],st=>st
 |x::r,st=>CA r (GR x.2 x.1 st.t st.h)
theorem QH (k:Tag)(r:ResultVar)(st:St):NilS st (GR k r st.t st.h):=by
 obtain⟨t,h⟩:=st;cases r with
 |tmp i=>
  show NilS _ (Li k i t h (lk i t));unfold Li;split
  ·rename_i e;exact .slot _ (.refl _) e (.inl ⟨_,rfl⟩)
  ·exact .refl _
 |cell i _=>
  show NilS _ (NF k t h (lk i t));unfold NF;split
  ·unfold QG;split
   ·rename_i e;unfold NE;split
    ·rename_i e2;exact .cell _ (.refl _) e (by rw[←f5];exact e2) (.inl ⟨_,rfl⟩)
    ·exact .refl _
   ·exact .refl _
  ·exact .refl _
theorem NilS.trans {a b c:St}(h1:NilS a b)(h2:NilS b c):NilS a c:=by
 induction h2 with
 |refl=>exact h1
 |cell o _ e1 e2 ho ih=>exact .cell o ih e1 e2 ho
 |slot o _ e1 ho ih=>exact .slot o ih e1 ho
 |slotE k _ e1 ih=>exact .slotE k ih e1
theorem TU (l:List (ResultVar×Tag)):∀ st,NilS st (CA l st):=by
 induction l with
 |nil=>exact fun st=>.refl _
 |cons x r ih=>exact fun st=>(QH x.2 x.1 st).trans (ih _)
def JZ (l:List (ResultVar×Tag))(rs:List ResultVar)(ts:Tis)(post:SV→Prop)(pp:Value→Prop):Ex→St→Prop
 | .exit _,_=>False
 | .normal,st=>ew post (xV true rs ts (CA l st))
 | .ret,st=>ew post (xV true rs ts (CA l st))
 | .pan x,_=>pp x
section
variable {l:List (ResultVar×Tag)}{rs:List ResultVar}{ts:Tis}{post:SV→Prop}{pp:Value→Prop}{st:St}{k:Tag}{i id off:Nat}{t:List (Nat×SV)}{h:List Ob}{m:List SV}
@[go_sem] theorem V6:JZ l rs ts post pp .ret st=ew post (xV true rs ts (CA l st)):=(rfl)
@[go_sem] theorem QI:JZ l rs ts post pp .normal st=ew post (xV true rs ts (CA l st)):=(rfl)
@[go_sem] theorem V7 {x:Value}:JZ l rs ts post pp (.pan x) st=pp x:=(rfl)
@[go_sem] theorem X1:CA [] st=st:=(rfl)
@[go_sem] theorem V8 {r:ResultVar}:CA ((r,k)::l) ⟨t,h⟩=CA l (GR k r t h):=(rfl)
@[go_sem] theorem V9:GR k (.tmp i) t h=Li k i t h (lk i t):=(rfl)
@[go_sem] theorem TV {ty:TypeId}:GR k (.cell i ty) t h=NF k t h (lk i t):=(rfl)
@[go_sem] theorem X2:Li k i t h (.v (.slice none 0 0))=⟨(i,.os h.length)::t,h++[.row k []]⟩:=(rfl)
@[go_sem] theorem aaa:Li k i t h (.os id)=⟨t,h⟩:=(rfl)
@[go_sem] theorem X3:NF k t h (.ptr id off)=QG k id off t h (an h id):=(rfl)
@[go_sem] theorem TW:QG k id off t h (.cells m)=NE k id off t h m (nth m off):=(rfl)
@[go_sem] theorem X4:NE k id off t h m (some (.v (.slice none 0 0)))=⟨t,br h id (.cells (m.set off (.os h.length)))++[.row k []]⟩:=(rfl)
@[go_sem] theorem aab:NE k id off t h m (some (.os i))=⟨t,h⟩:=(rfl)
attribute [go_sem] List.set_cons_zero
end
section
variable {P:Program}{ts:Tis}{G:Cons}
theorem yd (l:List (ResultVar×Tag)) (hm:P.follows .mixedOrders=true) (hts:ts.ok P) (hG:ConsOk P G) {f:FuncId} {fn:Func} {c:Code} (hf:P.funcs[f]? =some fn) (hb:fn.body=some c) (hname:(fn.name== "runtime.NumGoroutine")=false)
  (hc:cg fn.ntmps c=true) {C:List SV→Option Con}
  (h:∀ l0 con,C l0=some con→ar con→l0.length≤fn.ntmps∧∃ L,ap P none fn.ntmps L c∧exec ts G L c ⟨mg 0 l0,[]⟩ (JZ l fn.results.toList ts (dp con) (mm con))):FnOk P f C:=by
 refine⟨fun l con _ args w=>?_,fun l0 con hcon hpre F w vs hF hvs=>?_⟩
 ·have hn:¬fn.name= "runtime.NumGoroutine":=by simpa using hname
  simp[callFunc,hf,hn,hb]
 ·obtain⟨hlen,L,hl,hx⟩:=h l0 con hcon hpre;refine oD (n:=0) (callsIn_of_wp_marks hf hb trivial ?_);have hr:StRel F { w:=w,own:=cj} fn.ntmps cj ⟨mg 0 l0,[]⟩ { tmps:=vs++Array.replicate (fn.ntmps - vs.size) undef,defers:=[]} w:=
   ⟨by have:=hvs.1;simp;omega,Dfr.nil,vn hF,Fr.refl _,fun t=>mo hvs _ t⟩
  refine wpIn_mono (nk hm hts hG c hc hl F _ _ hx cj _ w hr) ?_;intro e a' w' hq;have key:∀ F1 own st,(∀ b,F b→F1 b)→StRel F1 { w:=w,own:=cj} fn.ntmps own st a' w'→ew (dp con) (xV true fn.results.toList ts (CA l st))→LeavesInM (rd none) 0 P fn a'.tmps
    (fun e w'=>(∃ s u own',dp con s∧e=.returned u∧Handed F w own' w' s u∧Below w.heap.size w w')∨(∃ x,mm con x∧e=.panicked [{ v:=x,recovered:=false}]∧Below w.heap.size w w')) a'.defers .returning w':=by
   intro F1 own0' st0 hF1 hst0 hdone;obtain⟨own,hst⟩:=(TU l st0).rel hst0;generalize CA l st0=st at hst hdone;refine iZ hst (by simp) fun w2 hst2=>?_;have hst3:=hst2.less hF1 rfl;unfold xV at hdone;cases hs:kV (jI ts st fn.results.toList)with
   |none=>
    simp only[cond_true,Kx]at hdone;rw[hs]at hdone;exact hdone.elim
   |some s=>
    obtain⟨u,e1,e2⟩:=vj (P:=P) hts hst3 hs;refine⟨u,e1,.inl ?_⟩;simp only[cond_true,Kx]at hdone;rw[hs]at hdone;change ew (dp con) (Ah st.h s)at hdone;cases hg:Ah st.h s with
    |none=>rw[hg]at hdone;exact hdone.elim
    |some s2=>
     rw[hg]at hdone;obtain⟨own',hh⟩:=Js hst3 e2 hg;exact⟨_,u,own',hdone,rfl,hh,ph hst3.fr⟩
  cases e with
  |normal=>obtain⟨F1,own,st,h0,h1,h2⟩:=hq;exact key F1 own st h0 h1 h2
  |ret=>obtain⟨F1,own,st,h0,h1,h2⟩:=hq;exact key F1 own st h0 h1 h2
  |exit id=>obtain⟨F1,own,st,h0,h1,h2⟩:=hq;exact h2.elim
  |panic ch=>
   obtain⟨x,F1,own,st,h0,h1,h2,rfl⟩:=hq;exact iZ h1 (by simp) fun w2 hst2=>.inr ⟨x,h2,rfl,ph hst2.fr⟩
  |_=>exact hq.elim
end
end Go.Sx
end
