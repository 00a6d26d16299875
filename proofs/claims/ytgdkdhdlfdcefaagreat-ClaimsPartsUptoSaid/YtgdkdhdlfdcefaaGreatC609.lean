/- Part of the proof that the law ClaimsParts returns true and leaves its arguments as they were, for all arguments of bulk at most 1048576 (the Upto form). -/
import Derived.Test.YtgdkdhdlfdcefaaGreatC608
import Derived.Test.YtgdkdhdlfdcefaaGreatC607
import Derived.Sort.Statements
import Derived.Shelf.SlSortCmp.Insertion
set_option linter.all false
set_option maxHeartbeats 4000000
section
namespace Go.Sx
open Go.Proofs
set_option maxRecDepth 100000
set_option linter.unusedSimpArgs false
theorem cG {l0:List Nat}(a0:JL l0){p:Prop}(h:JL l0→p:=by intro ja;simp only[go_sem,Nat.reduceBEq,Nat.reduceLeDiff,Nat.reduceLT,decide_true,Nat.reduceAdd,Nat.reduceSub,Nat.reduceMul,Int.reduceLE,Int.reduceLT,Int.reduceToNat,Int.reduceNeg,reduceCtorEq];all_goals exact wT ja):p:=h a0
def ql (d:District):Bool:=((((((decide ((d.reaches.length:Int)≤100))&&(decide ((d.farms.length:Int)≤700)))&&(decide ((d.crops.length:Int)≤100)))&&(decide ((d.rights.length:Int)≤300)))&&(decide ((d.duties.length:Int)≤300)))&&(decide ((d.wells.length:Int)≤100)))
@[go_sem] def uz:List SV→Option Con:=(pD .district fun d=>(pE (.det True (.v (.bool (ql d))))))
theorem Ae:FnOk Tryz.prog 33 uz:=by
 have hG:ConsOk Tryz.prog (mkG [] []):=aw cg0 cg0
 refine a7 [.o] mixed am hG (fn:=Tryz.f33) (c:=ae Tryz.f33) (by kernel_rfl) (by kernel_rfl) (by kernel_rfl) (by kernel_rfl) (a8 fun d=>(aH (fun hp=>?_)))
 dsimp only[aD]at hp
 refine⟨Nat.le_of_ble_eq_true rfl,L0,ah _,?_⟩
 ·unfold ae Tryz.f33
  try unfold ql
  exact zq1
def aM (n:Int)(lo:Int)(hi:Int):Bool:=((decide (n≥lo))&&(decide (n≤hi)))
@[go_sem] def fJ:List SV→Option Con:=(pI fun n=>(pI fun lo=>(pI fun hi=>(pE (.det True (.v (.bool (aM n lo hi))))))))
theorem gf:FnOk Tryz.prog 99 fJ:=by
 have hG:ConsOk Tryz.prog (mkG [] []):=aw cg0 cg0
 refine a7 [.o] mixed am hG (fn:=Tryz.f99) (c:=ae Tryz.f99) (by kernel_rfl) (by kernel_rfl) (by kernel_rfl) (by kernel_rfl) (bZ fun n=>(bZ fun lo=>(bZ fun hi=>(aH (fun hp=>?_)))))
 dsimp only[aD]at hp
 refine⟨Nat.le_of_ble_eq_true rfl,L0,ah _,?_⟩
 ·unfold ae Tryz.f99
  try unfold aM
  exact zq1
@[go_sem] def eL (b:Int)(k_0:Nat)(s_0:Int×Int):Int⊕(Int×Int):=(bif(decide (s_0.2 > 0))then .inr (s_0.2,(Int.tmod s_0.1 s_0.2))else .inl s_0.1)
def iW (b:Int)(k_0:Nat)(s_0:Int×Int):Prop:=((decide (s_0.2 > 0))=true→s_0.2≠0)
def iE (a:Int)(b:Int):Int:=(match ap (eL b) (Int.toNat b+1) 0 (a,b)with| .inl x_0_0=>x_0_0| .inr s_0=>default)
def k_ (a:Int)(b:Int):Prop:=(okI (eL b) (iW b) (Int.toNat b+1) 0 (a,b)∧(∀ z_,ap (eL b) (Int.toNat b+1) 0 (a,b)≠ .inr z_))
@[go_sem] def oE:List SV→Option Con:=(pI fun a=>(pI fun b=>(pE (.det (k_ a b) (.v (.int .i64 (iE a b)))))))
theorem tU:FnOk Tryz.prog 174 oE:=by
 have hG:ConsOk Tryz.prog (mkG [] []):=aw cg0 cg0
 refine a7 [.o] mixed am hG (fn:=Tryz.f174) (c:=ae Tryz.f174) (by kernel_rfl) (by kernel_rfl) (by kernel_rfl) (by kernel_rfl) (bZ fun a=>(bZ fun b=>(aH (fun hp=>?_))))
 dsimp only[aD]at hp
 unfold k_ at hp
 refine⟨Nat.le_of_ble_eq_true rfl,(fun id st=>bif Nat.beq id 0 then some (LCV (ρ:=Int) (σ:=(Int×Int)) 0 [] [] (fun k_0 s_0=>⟨[(0,.v (.int .i64 s_0.1)),(1,.v (.int .i64 s_0.2))],[]⟩) (eL b) (iW b) (Int.toNat b+1) (a,b) (fun _=>.normal) (fun x_0_0=>⟨[(0,.v (.int .i64 x_0_0))],[]⟩) st)else none),?_,?_⟩
 ·unfold ae Tryz.f174
  simp only[al,true_and,and_true]
  ·refine eV mixed am hG (by kernel_rfl) (fun _=>rfl) fun k_0 s_0 hq0=>⟨L0,ah _,?_⟩
   ·unfold iW at hq0
    exact cG (jl [])
 ·unfold ae Tryz.f174
  try unfold iE
  exact zq1
def jV (n:Int):Int:=(bif(decide (n<0))then(IntKind.i64.wrap (0 - n))else n)
@[go_sem] def sK:List SV→Option Con:=(pI fun n=>(pE (.det True (.v (.int .i64 (jV n))))))
theorem x6:FnOk Tryz.prog 175 sK:=by
 have hG:ConsOk Tryz.prog (mkG [] []):=aw cg0 cg0
 refine a7 [.o] mixed am hG (fn:=Tryz.f175) (c:=ae Tryz.f175) (by kernel_rfl) (by kernel_rfl) (by kernel_rfl) (by kernel_rfl) (bZ fun n=>(aH (fun hp=>?_)))
 dsimp only[aD]at hp
 refine⟨Nat.le_of_ble_eq_true rfl,L0,ah _,?_⟩
 ·unfold ae Tryz.f175
  try unfold jV
  exact zq1
def ef (a:Ratio):Bool:=(((((decide (a.d≥1))&&(decide (a.d≤1073741824)))&&(decide (a.n≥(-1073741824))))&&(decide (a.n≤1073741824)))&&((iE (jV a.n) a.d) ==1))
def iF (a:Ratio):Prop:=(((((decide (a.d≥1))&&(decide (a.d≤1073741824)))&&(decide (a.n≥(-1073741824))))&&(decide (a.n≤1073741824)))=true→(k_ (jV a.n) a.d))
@[go_sem] def mQ:List SV→Option Con:=(pD .ratio fun a=>(pE (.det (iF a) (.v (.bool (ef a))))))
theorem pn:FnOk Tryz.prog 160 mQ:=by
 have hG:ConsOk Tryz.prog (mkG [(174,oE),(175,sK)] []):=aw (cgc tU (cgc x6 cg0)) cg0
 refine a7 [.o] mixed am hG (fn:=Tryz.f160) (c:=ae Tryz.f160) (by kernel_rfl) (by kernel_rfl) (by kernel_rfl) (by kernel_rfl) (a8 fun a=>(aH (fun hp=>?_)))
 dsimp only[aD]at hp
 unfold iF at hp
 refine⟨Nat.le_of_ble_eq_true rfl,L0,ah _,?_⟩
 ·unfold ae Tryz.f160
  try unfold ef
  exact zq1
def fm (a:Ratio):Int:=(bif(!(ef a))then 120 else 0)
def kf (a:Ratio):Prop:=(iF a)
@[go_sem] def qQ:List SV→Option Con:=(pD .ratio fun a=>(pE (.det (kf a) (.v (.int .i64 (fm a))))))
theorem wY:FnOk Tryz.prog 178 qQ:=by
 have hG:ConsOk Tryz.prog (mkG [(160,mQ)] []):=aw (cgc pn cg0) cg0
 refine a7 [.o] mixed am hG (fn:=Tryz.f178) (c:=ae Tryz.f178) (by kernel_rfl) (by kernel_rfl) (by kernel_rfl) (by kernel_rfl) (a8 fun a=>(aH (fun hp=>?_)))
 dsimp only[aD]at hp
 unfold kf at hp
 refine⟨Nat.le_of_ble_eq_true rfl,L0,ah _,?_⟩
 ·unfold ae Tryz.f178
  try unfold fm
  exact zq1
def l9 (a:Ratio)(b:Ratio):Bool:=(decide ((IntKind.i64.wrap (a.n*b.d)) < (IntKind.i64.wrap (b.n*a.d))))
@[go_sem] def sL:List SV→Option Con:=(pD .ratio fun a=>(pD .ratio fun b=>(pE (.det True (.v (.bool (l9 a b)))))))
theorem x7:FnOk Tryz.prog 184 sL:=by
 have hG:ConsOk Tryz.prog (mkG [] []):=aw cg0 cg0
 refine a7 [.o] mixed am hG (fn:=Tryz.f184) (c:=ae Tryz.f184) (by kernel_rfl) (by kernel_rfl) (by kernel_rfl) (by kernel_rfl) (a8 fun a=>(a8 fun b=>(aH (fun hp=>?_))))
 dsimp only[aD]at hp
 refine⟨Nat.le_of_ble_eq_true rfl,L0,ah _,?_⟩
 ·unfold ae Tryz.f184
  try unfold l9
  exact zq1
def ma (a:Ratio)(b:Ratio):Bool:=((ef a)&&(ef b))
def od (a:Ratio)(b:Ratio):Prop:=((iF a)∧((ef a)=true→(iF b)))
@[go_sem] def sM:List SV→Option Con:=(pD .ratio fun a=>(pD .ratio fun b=>(pE (.det (od a b) (.v (.bool (ma a b)))))))
theorem x8:FnOk Tryz.prog 176 sM:=by
 have hG:ConsOk Tryz.prog (mkG [(160,mQ)] []):=aw (cgc pn cg0) cg0
 refine a7 [.o] mixed am hG (fn:=Tryz.f176) (c:=ae Tryz.f176) (by kernel_rfl) (by kernel_rfl) (by kernel_rfl) (by kernel_rfl) (a8 fun a=>(a8 fun b=>(aH (fun hp=>?_))))
 dsimp only[aD]at hp
 unfold od at hp
 refine⟨Nat.le_of_ble_eq_true rfl,L0,ah _,?_⟩
 ·unfold ae Tryz.f176
  try unfold ma
  exact zq1
def jW (a:Ratio)(b:Ratio):Int×Int:=(bif(!(ma a b))then(0,120)else(bif(l9 a b)then((-1),0)else(bif(l9 b a)then(1,0)else(0,0))))
def pr (a:Ratio)(b:Ratio):Prop:=(od a b)
@[go_sem] def uA:List SV→Option Con:=(pD .ratio fun a=>(pD .ratio fun b=>(pE (.det (pr a b) (.tup [.v (.int .i64 ((jW a b).1)),.v (.int .i64 ((jW a b).2))])))))
theorem Af:FnOk Tryz.prog 179 uA:=by
 have hG:ConsOk Tryz.prog (mkG [(176,sM),(184,sL)] []):=aw (cgc x8 (cgc x7 cg0)) cg0
 refine a7 [.o,.o] mixed am hG (fn:=Tryz.f179) (c:=ae Tryz.f179) (by kernel_rfl) (by kernel_rfl) (by kernel_rfl) (by kernel_rfl) (a8 fun a=>(a8 fun b=>(aH (fun hp=>?_))))
 dsimp only[aD]at hp
 unfold pr at hp
 refine⟨Nat.le_of_ble_eq_true rfl,L0,ah _,?_⟩
 ·unfold ae Tryz.f179
  try unfold jW
  exact zq1
def fZ (x:Ratio×Ratio):Bool:=(bif(((fm x.1) !=0) ||((fm x.2) !=0))then false else(((decide (x.1.n≥0))&&(decide ((jW x.1 x.2).1≤0)))&&(decide (x.2.n≤x.2.d))))
def mb (x:Ratio×Ratio):Prop:=((kf x.1)∧((((fm x.1) !=0)=false→(kf x.2))∧((((fm x.1) !=0) ||((fm x.2) !=0))=false→(pr x.1 x.2))))
@[go_sem] def pt:List SV→Option Con:=(pD .ratio2 fun x=>(pE (.det (mb x) (.v (.bool (fZ x))))))
theorem u6:FnOk Tryz.prog 164 pt:=by
 have hG:ConsOk Tryz.prog (mkG [(178,qQ),(179,uA)] []):=aw (cgc wY (cgc Af cg0)) cg0
 refine a7 [.o] mixed am hG (fn:=Tryz.f164) (c:=ae Tryz.f164) (by kernel_rfl) (by kernel_rfl) (by kernel_rfl) (by kernel_rfl) (a8 fun x=>(aH (fun hp=>?_)))
 dsimp only[aD]at hp
 unfold mb at hp
 refine⟨Nat.le_of_ble_eq_true rfl,L0,ah _,?_⟩
 ·unfold ae Tryz.f164
  try unfold fZ
  exact zq1
def pu (x:Reach):Bool:=(bif(((!(aM x.delay 1 16)) ||(!(aM x.cap 0 1073741824))) ||(!(aM x.bank 0 1099511627776)))then false else(bif(((!(aM x.siphon 0 (if x.bank<x.cap then x.bank else x.cap))) ||(!(aM x.evap.lo 0 x.evap.hi))) ||(decide (x.evap.hi > 1073741824)))then false else(fZ x.seep)))
def mR (x:Reach):Prop:=((((!(aM x.delay 1 16)) ||(!(aM x.cap 0 1073741824))) ||(!(aM x.bank 0 1099511627776)))=false→((((!(aM x.siphon 0 (if x.bank<x.cap then x.bank else x.cap))) ||(!(aM x.evap.lo 0 x.evap.hi))) ||(decide (x.evap.hi > 1073741824)))=false→(mb x.seep)))
@[go_sem] def qR:List SV→Option Con:=(pD .reach fun x=>(pE (.det (mR x) (.v (.bool (pu x))))))
theorem wZ:FnOk Tryz.prog 137 qR:=by
 have hG:ConsOk Tryz.prog (mkG [(99,fJ),(164,pt)] []):=aw (cgc gf (cgc u6 cg0)) cg0
 refine a7 [.o] mixed am hG (fn:=Tryz.f137) (c:=ae Tryz.f137) (by kernel_rfl) (by kernel_rfl) (by kernel_rfl) (by kernel_rfl) (a8 fun x=>(aH (fun hp=>?_)))
 dsimp only[aD]at hp
 unfold mR at hp
 refine⟨Nat.le_of_ble_eq_true rfl,L0,ah _,?_⟩
 ·unfold ae Tryz.f137
  try unfold pu
  exact zq1
@[go_sem] def jX (l_:List Reach)(k_0:Nat)(s_0:Unit):Unit⊕Unit:=(bif((((k_0:Int) ==0)&&((l_.getD k_0 (default:Reach)).up !=(-1))) ||((decide ((k_0:Int) > 0))&&(!(aM ((l_.getD k_0 (default:Reach)).up) 0 (IntKind.i64.wrap ((k_0:Int) - 1))))))then .inl ()else(bif(!(pu (l_.getD k_0 (default:Reach))))then .inl ()else .inr ()))
def iX (l_:List Reach)(k_0:Nat)(s_0:Unit):Prop:=(l_.length≤bp→(((((k_0:Int) ==0)&&((l_.getD k_0 (default:Reach)).up !=(-1))) ||((decide ((k_0:Int) > 0))&&(!(aM ((l_.getD k_0 (default:Reach)).up) 0 (IntKind.i64.wrap ((k_0:Int) - 1))))))=false→(mR (l_.getD k_0 (default:Reach)))))
def mS (l_:List Reach):Bool:=(match ap (jX l_) l_.length 0 ()with| .inl x_0_0=>false| .inr s_0=>(decide ((l_.length:Int) > 0)))
def la (l_:List Reach):Prop:=okI (jX l_) (iX l_) l_.length 0 ()
@[go_sem] def oF:List SV→Option Con:=(pR .reach fun l_=>(pE (.det (la l_) (.v (.bool (mS l_))))))
theorem tV:FnOk Tryz.prog 100 oF:=by
 have hG:ConsOk Tryz.prog (mkG [(99,fJ),(137,qR)] []):=aw (cgc gf (cgc wZ cg0)) cg0
 refine a7 [.o] mixed am hG (fn:=Tryz.f100) (c:=ae Tryz.f100) (by kernel_rfl) (by kernel_rfl) (by kernel_rfl) (by kernel_rfl) (dY fun l_=>(aH (fun hp=>?_)))
 dsimp only[aD]at hp
 unfold la at hp
 refine⟨Nat.le_of_ble_eq_true rfl,(fun id st=>bif Nat.beq id 0 then some (LCR (ρ:=Unit) (σ:=Unit) 0 [] [] (fun k_0 s_0=>⟨[(0,.rs .reach l_),(3,.v (.int .i64 (k_0:Int)))],[]⟩) (jX l_) (iX l_) l_.length () (True) (fun _=>.ret) (fun x_0_0=>⟨[(2,.v (.bool false))],[]⟩) st)else none),?_,?_⟩
 ·unfold ae Tryz.f100
  simp only[al,true_and,and_true]
  ·refine jq (l_.length≤bp) mixed am hG (by kernel_rfl) (fun _=>rfl) (l_.length:Int) rfl iD (fun hb0 k_0 s_0 hlt0 hq0 hw hc=>⟨L0,ah _,?_⟩) (fun hb0 s_0 hc=>?_) fun hb0 k_0 s_0=>?_
   ·unfold iX at hq0
    try simp only[hw,Int.toNat_natCast]at hq0
    exact cg (jl [])
   ·exact ci (jl [])
   ·exact zq7
 ·unfold ae Tryz.f100
  try unfold mS
  exact zq1
@[go_sem] def pw (a0:District)(k_0:Nat)(s_0:Unit):Unit⊕Unit:=(bif(!(aM ((a0.crops.getD k_0 (default:Crop)).need) 0 1048576))then .inl ()else .inr ())
@[go_sem] def px (a0:District)(k_1:Nat)(s_1:Unit):Unit⊕Unit:=(bif((!(aM ((a0.farms.getD k_1 (default:Farm)).reach) 0 (IntKind.i64.wrap ((a0.reaches.length:Int) - 1)))) ||(!(aM ((a0.farms.getD k_1 (default:Farm)).area) 0 1048576)))then .inl ()else(bif((((a0.farms.getD k_1 (default:Farm)).area==0)&&((a0.farms.getD k_1 (default:Farm)).crop !=(-1))) ||((decide ((a0.farms.getD k_1 (default:Farm)).area > 0))&&(!(aM ((a0.farms.getD k_1 (default:Farm)).crop) 0 (IntKind.i64.wrap ((a0.crops.length:Int) - 1))))))then .inl ()else .inr ()))
def py (a0:District):Bool:=(match ap (pw a0) a0.crops.length 0 ()with| .inl x_0_0=>false| .inr s_0=>(match ap (px a0) a0.farms.length 0 ()with| .inl x_1_0=>false| .inr s_1=>true))
@[go_sem] def qS:List SV→Option Con:=(pD .district fun a0=>(pE (.det True (.v (.bool (py a0))))))
theorem SR {p:Prop}(h:p:=by simp only[go_sem,Nat.reduceBEq,Nat.reduceLeDiff,Nat.reduceLT,decide_true,Nat.reduceAdd,Nat.reduceSub,Nat.reduceMul,Int.reduceLE,Int.reduceLT,Int.reduceToNat,Int.reduceNeg,reduceCtorEq,hb1]):p:=h
theorem w6:FnOk Tryz.prog 101 qS:=by
 have hG:ConsOk Tryz.prog (mkG [(99,fJ)] []):=aw (cgc gf cg0) cg0
 refine a7 [.o] mixed am hG (fn:=Tryz.f101) (c:=ae Tryz.f101) (by kernel_rfl) (by kernel_rfl) (by kernel_rfl) (by kernel_rfl) (a8 fun a0=>(aH (fun hp=>?_)))
 dsimp only[aD]at hp
 refine⟨Nat.le_of_ble_eq_true rfl,(fun id st=>bif Nat.beq id 0 then some (LCR (ρ:=Unit) (σ:=Unit) 1 [] [0] (fun k_0 s_0=>⟨[(1,.ptr 0 0),(3,.v (.int .i64 (k_0:Int)))],[.cells (cellsOf .district a0)]⟩) (pw a0) pT a0.crops.length () (True) (fun _=>.ret) (fun x_0_0=>⟨[(2,.v (.bool false))],[.dead]⟩) st)else bif Nat.beq id 2 then some (LCR (ρ:=Unit) (σ:=Unit) 1 [] [0] (fun k_1 s_1=>⟨[(1,.ptr 0 0),(4,.v (.int .i64 (k_1:Int)))],[.cells (cellsOf .district a0)]⟩) (px a0) pT a0.farms.length () (True) (fun _=>.ret) (fun x_1_0=>⟨[(2,.v (.bool false))],[.dead]⟩) st)else none),?_,?_⟩
 ·unfold ae Tryz.f101
  simp only[al,true_and,and_true]
  refine⟨?_,?_⟩
  ·refine jq (a0.crops.length≤bp) mixed am hG (by kernel_rfl) (fun _=>rfl) (a0.crops.length:Int) rfl iD (fun hb0 k_0 s_0 hlt0 _ hw hc=>⟨L0,ah _,?_⟩) (fun hb0 s_0 hc=>?_) fun hb0 k_0 s_0=>?_
   ·exact cg (jl [0])
   ·exact ci (jl [0])
   ·exact zq7
  ·refine jq (a0.farms.length≤bp) mixed am hG (by kernel_rfl) (fun _=>rfl) (a0.farms.length:Int) rfl iD (fun hb1 k_1 s_1 hlt1 _ hw hc=>⟨L0,ah _,?_⟩) (fun hb1 s_1 hc=>?_) fun hb1 k_1 s_1=>?_
   ·exact cg (jl [0])
   ·exact ci (jl [0])
   ·exact SR
 ·unfold ae Tryz.f101
  try unfold py
  exact zq1
def pz (a0:District)(a1:Right):Bool:=(bif((((!(aM a1.farm 0 (IntKind.i64.wrap ((a0.farms.length:Int) - 1)))) ||(!(aM a1.reach 0 (IntKind.i64.wrap ((a0.reaches.length:Int) - 1))))) ||(!(aM a1.since 0 a1.to))) ||(decide (a1.to≥a0.hours)))then false else(bif(a1.kind==1)then(((((a1.reach==0)&&(aM a1.rank 0 1048576))&&(aM a1.litres 1 1073741824))&&(aM a1.length 1 a1.every))&&(decide (a1.every≤a0.hours)))else(bif(a1.kind==2)then((((((a1.rank==0)&&(a1.litres==0))&&(a1.every==0))&&(a1.length==0))&&(a1.since==0))&&(a1.to==(IntKind.i64.wrap (a0.hours - 1))))else(bif(a1.kind==3)then((((a1.rank==0)&&(a1.litres==0))&&(a1.every==0))&&(a1.length==0))else false))))
@[go_sem] def qT:List SV→Option Con:=(pD .district fun a0=>(pD .right fun a1=>(pE (.det True (.v (.bool (pz a0 a1)))))))
theorem w7:FnOk Tryz.prog 102 qT:=by
 have hG:ConsOk Tryz.prog (mkG [(99,fJ)] []):=aw (cgc gf cg0) cg0
 refine a7 [.o] mixed am hG (fn:=Tryz.f102) (c:=ae Tryz.f102) (by kernel_rfl) (by kernel_rfl) (by kernel_rfl) (by kernel_rfl) (a8 fun a0=>(a8 fun a1=>(aH (fun hp=>?_))))
 dsimp only[aD]at hp
 refine⟨Nat.le_of_ble_eq_true rfl,L0,ah _,?_⟩
 ·unfold ae Tryz.f102
  try unfold pz
  exact zq1
@[go_sem] def pA (a0:District)(k_0:Nat)(s_0:Unit):Unit⊕Unit:=(bif(!(pz a0 (a0.rights.getD k_0 (default:Right))))then .inl ()else .inr ())
@[go_sem] def pC (a0:District)(k_1:Nat)(s_1:Unit):Unit⊕Unit:=(bif(((!(aM ((a0.duties.getD k_1 (default:Duty)).farm) 0 (IntKind.i64.wrap ((a0.farms.length:Int) - 1)))) ||(!(aM ((a0.duties.getD k_1 (default:Duty)).reach) 0 (IntKind.i64.wrap ((a0.reaches.length:Int) - 1))))) ||(!(aM ((a0.duties.getD k_1 (default:Duty)).due) 0 a0.hours)))then .inl ()else .inr ())
def pF (a0:District):Bool:=(bif(((!(aM a0.hours 1 4096)) ||(!(aM a0.tank.start 0 a0.tank.cap))) ||(decide (a0.tank.cap > 1099511627776)))then false else(bif((!(mS a0.reaches)) ||(!(py a0)))then false else(match ap (pA a0) a0.rights.length 0 ()with| .inl x_0_0=>false| .inr s_0=>(match ap (pC a0) a0.duties.length 0 ()with| .inl x_1_0=>false| .inr s_1=>true))))
def mT (a0:District):Prop:=((((!(aM a0.hours 1 4096)) ||(!(aM a0.tank.start 0 a0.tank.cap))) ||(decide (a0.tank.cap > 1099511627776)))=false→(la a0.reaches))
@[go_sem] def qU:List SV→Option Con:=(pD .district fun a0=>(pE (.det (mT a0) (.v (.bool (pF a0))))))
theorem w8:FnOk Tryz.prog 68 qU:=by
 have hG:ConsOk Tryz.prog (mkG [(99,fJ),(100,fun l=>oF (du [.sl .reach] l)),(101,fun l=>qS (du [.st .district] l)),(102,fun l=>qT (du [.st .district,.st .right] l))] []):=aw (cgc gf (cgc (tV.norm [.sl .reach]) (cgc (w6.norm [.st .district]) (cgc (w7.norm [.st .district,.st .right]) cg0)))) cg0
 refine a7 [.o] mixed am hG (fn:=Tryz.f68) (c:=ae Tryz.f68) (by kernel_rfl) (by kernel_rfl) (by kernel_rfl) (by kernel_rfl) (a8 fun a0=>(aH (fun hp=>?_)))
 dsimp only[aD]at hp
 unfold mT at hp
 refine⟨Nat.le_of_ble_eq_true rfl,(fun id st=>bif Nat.beq id 0 then some (LCR (ρ:=Unit) (σ:=Unit) 1 [] [0] (fun k_0 s_0=>⟨[(1,.ptr 0 0),(3,.v (.int .i64 (k_0:Int)))],[.cells (cellsOf .district a0)]⟩) (pA a0) pT a0.rights.length () (True) (fun _=>.ret) (fun x_0_0=>⟨[(2,.v (.bool false))],[.dead]⟩) st)else bif Nat.beq id 2 then some (LCR (ρ:=Unit) (σ:=Unit) 1 [] [0] (fun k_1 s_1=>⟨[(1,.ptr 0 0),(4,.v (.int .i64 (k_1:Int)))],[.cells (cellsOf .district a0)]⟩) (pC a0) pT a0.duties.length () (True) (fun _=>.ret) (fun x_1_0=>⟨[(2,.v (.bool false))],[.dead]⟩) st)else none),?_,?_⟩
 ·unfold ae Tryz.f68
  simp only[al,true_and,and_true]
  refine⟨?_,?_⟩
  ·refine jq (a0.rights.length≤bp) mixed am hG (by kernel_rfl) (fun _=>rfl) (a0.rights.length:Int) rfl iD (fun hb0 k_0 s_0 hlt0 _ hw hc=>⟨L0,ah _,?_⟩) (fun hb0 s_0 hc=>?_) fun hb0 k_0 s_0=>?_
   ·exact cg (jl [0])
   ·exact ci (jl [0])
   ·exact zq7
  ·refine jq (a0.duties.length≤bp) mixed am hG (by kernel_rfl) (fun _=>rfl) (a0.duties.length:Int) rfl iD (fun hb1 k_1 s_1 hlt1 _ hw hc=>⟨L0,ah _,?_⟩) (fun hb1 s_1 hc=>?_) fun hb1 k_1 s_1=>?_
   ·exact cg (jl [0])
   ·exact ci (jl [0])
   ·exact SR
 ·unfold ae Tryz.f68
  try unfold pF
  exact zq1
def kF (d:District):Int:=(bif(((((decide ((d.reaches.length:Int) > 64)) ||(decide ((d.farms.length:Int) > 600))) ||(decide ((d.crops.length:Int) > 32))) ||(decide ((d.rights.length:Int) > 256))) ||(decide ((d.duties.length:Int) > 256)))then 2 else(bif(!(pF d))then 191 else 0))
def mU (d:District):Prop:=(d.reaches.length≤bp→((((((decide ((d.reaches.length:Int) > 64)) ||(decide ((d.farms.length:Int) > 600))) ||(decide ((d.crops.length:Int) > 32))) ||(decide ((d.rights.length:Int) > 256))) ||(decide ((d.duties.length:Int) > 256)))=false→(mT d)))
@[go_sem] def qV:List SV→Option Con:=(pD .district fun d=>(pE (.det (mU d) (.v (.int .i64 (kF d))))))
theorem w_:FnOk Tryz.prog 36 qV:=by
 have hG:ConsOk Tryz.prog (mkG [(68,fun l=>qU (du [.st .district] l))] []):=aw (cgc (w8.norm [.st .district]) cg0) cg0
 refine a7 [.o] mixed am hG (fn:=Tryz.f36) (c:=ae Tryz.f36) (by kernel_rfl) (by kernel_rfl) (by kernel_rfl) (by kernel_rfl) (a8 fun d=>(aH (fun hp=>?_)))
 dsimp only[aD]at hp
 unfold mU at hp
 refine⟨Nat.le_of_ble_eq_true rfl,L0,ah _,?_⟩
 ·unfold ae Tryz.f36
  try unfold kF
  exact zq1
end Go.Sx
end
section
namespace Go.Sx
open Go.Proofs
set_option maxRecDepth 100000
set_option linter.unusedSimpArgs false
end Go.Sx
end
section
namespace Go.Sx
open Go.Proofs
set_option maxRecDepth 100000
set_option linter.unusedSimpArgs false
end Go.Sx
end
section
namespace Go.Sx
open Go.Proofs
set_option maxRecDepth 100000
set_option linter.unusedSimpArgs false
@[go_sem] def sN (l_:List Deed)(k_0:Nat)(s_0:Unit):Unit⊕Unit:=(bif(decide ((((l_.getD k_0 (default:Deed)).parts).length:Int) > 100))then .inl ()else .inr ())
def tW (d:District)(l_:List Deed):Bool:=(bif((decide ((l_.length:Int) > 512))&&(decide ((l_.length:Int)≤700)))then(ql d)else(bif((((decide ((l_.length:Int) > 60)) ||(!(ql d))) ||((decide ((d.rights.length:Int) > 40))&&(decide ((d.rights.length:Int)≤256)))) ||((decide ((d.farms.length:Int) > 60))&&(decide ((d.farms.length:Int)≤600))))then false else(match ap (sN l_) l_.length 0 ()with| .inl x_0_0=>false| .inr s_0=>true)))
@[go_sem] def uB:List SV→Option Con:=(pD .district fun d=>(pR .deed fun l_=>(pE (.det True (.v (.bool (tW d l_)))))))
theorem Ag:FnOk Tryz.prog 28 uB:=by
 have hG:ConsOk Tryz.prog (mkG [(33,fun l=>uz (du [.st .district] l))] []):=aw (cgc (Ae.norm [.st .district]) cg0) cg0
 refine a7 [.o] mixed am hG (fn:=Tryz.f28) (c:=ae Tryz.f28) (by kernel_rfl) (by kernel_rfl) (by kernel_rfl) (by kernel_rfl) (a8 fun d=>(dY fun l_=>(aH (fun hp=>?_))))
 dsimp only[aD]at hp
 refine⟨Nat.le_of_ble_eq_true rfl,(fun id st=>bif Nat.beq id 0 then some (LCR (ρ:=Unit) (σ:=Unit) 1 [] [0] (fun k_0 s_0=>⟨[(1,.rs .deed l_),(5,.v (.int .i64 (k_0:Int)))],[.dead]⟩) (sN l_) pT l_.length () (True) (fun _=>.ret) (fun x_0_0=>⟨[(4,.v (.bool false))],[.dead]⟩) st)else none),?_,?_⟩
 ·unfold ae Tryz.f28
  simp only[al,true_and,and_true]
  ·refine jq (l_.length≤bp) mixed am hG (by kernel_rfl) (fun _=>rfl) (l_.length:Int) rfl iD (fun hb0 k_0 s_0 hlt0 _ hw hc=>⟨L0,ah _,?_⟩) (fun hb0 s_0 hc=>?_) fun hb0 k_0 s_0=>?_
   ·exact cg (jl [0])
   ·exact ci (jl [0])
   ·exact zq7
 ·unfold ae Tryz.f28
  try unfold tW
  exact zq1
end Go.Sx
end
section
namespace Go.Sx
open Go.Proofs
set_option maxRecDepth 100000
set_option linter.unusedSimpArgs false
def mG (a0:District)(a1:Claim):Bool:=(bif((((((((decide (a1.right<0)) ||(decide (a1.right≥(a0.rights.length:Int)))) ||(decide (a1.farm<0))) ||(decide (a1.farm≥(a0.farms.length:Int)))) ||(decide (a1.hour<0))) ||(decide (a1.hour≥a0.hours))) ||(decide (a1.litres<1))) ||(decide (a1.litres > 1073741824)))then false else(((a0.rights.getD (Int.toNat a1.right) (default:Right)).kind==1)&&((a0.rights.getD (Int.toNat a1.right) (default:Right)).rank==a1.rank)))
def mV (a0:District)(a1:Claim):Prop:=(((((((((decide (a1.right<0)) ||(decide (a1.right≥(a0.rights.length:Int)))) ||(decide (a1.farm<0))) ||(decide (a1.farm≥(a0.farms.length:Int)))) ||(decide (a1.hour<0))) ||(decide (a1.hour≥a0.hours))) ||(decide (a1.litres<1))) ||(decide (a1.litres > 1073741824)))=false→((0≤a1.right∧a1.right< (a0.rights.length:Int))∧(((a0.rights.getD (Int.toNat a1.right) (default:Right)).kind==1)=true→(0≤a1.right∧a1.right< (a0.rights.length:Int)))))
@[go_sem] def qW:List SV→Option Con:=(pD .district fun a0=>(pD .claim fun a1=>(pE (.det (mV a0 a1) (.v (.bool (mG a0 a1)))))))
theorem xa:FnOk Tryz.prog 37 qW:=by
 have hG:ConsOk Tryz.prog (mkG [] []):=aw cg0 cg0
 refine a7 [.o] mixed am hG (fn:=Tryz.f37) (c:=ae Tryz.f37) (by kernel_rfl) (by kernel_rfl) (by kernel_rfl) (by kernel_rfl) (a8 fun a0=>(a8 fun a1=>(aH (fun hp=>?_))))
 dsimp only[aD]at hp
 unfold mV at hp
 refine⟨Nat.le_of_ble_eq_true rfl,L0,ah _,?_⟩
 ·unfold ae Tryz.f37
  try unfold mG
  exact zq1
def oe (a:Claim)(b:Claim):Bool:=(bif(a.hour !=b.hour)then(decide (a.hour<b.hour))else(bif(a.rank !=b.rank)then(decide (a.rank<b.rank))else(bif(a.right !=b.right)then(decide (a.right<b.right))else(decide (a.farm<b.farm)))))
@[go_sem] def pG:List SV→Option Con:=(pD .claim fun a=>(pD .claim fun b=>(pE (.det True (.v (.bool (oe a b)))))))
theorem u7:FnOk Tryz.prog 38 pG:=by
 have hG:ConsOk Tryz.prog (mkG [] []):=aw cg0 cg0
 refine a7 [.o] mixed am hG (fn:=Tryz.f38) (c:=ae Tryz.f38) (by kernel_rfl) (by kernel_rfl) (by kernel_rfl) (by kernel_rfl) (a8 fun a=>(a8 fun b=>(aH (fun hp=>?_))))
 dsimp only[aD]at hp
 refine⟨Nat.le_of_ble_eq_true rfl,L0,ah _,?_⟩
 ·unfold ae Tryz.f38
  try unfold oe
  exact zq1
@[go_sem] def mc (d:District)(c:List Claim)(k_0:Nat)(s_0:Unit):Unit⊕Unit:=(bif((!(mG d (c.getD k_0 (default:Claim)))) ||((decide ((k_0:Int) > 0))&&(!(oe (c.getD (Int.toNat (IntKind.i64.wrap ((k_0:Int) - 1))) (default:Claim)) (c.getD k_0 (default:Claim))))))then .inl ()else .inr ())
def jY (d:District)(c:List Claim)(k_0:Nat)(s_0:Unit):Prop:=(c.length≤bp→((mV d (c.getD k_0 (default:Claim)))∧((!(mG d (c.getD k_0 (default:Claim))))=false→((decide ((k_0:Int) > 0))=true→(0≤(IntKind.i64.wrap ((k_0:Int) - 1))∧(IntKind.i64.wrap ((k_0:Int) - 1)) < (c.length:Int))))))
def uC (d:District)(c:List Claim):Int:=(bif((kF d) !=0)then(kF d)else(bif(decide ((c.length:Int) > 4096))then 2 else(match ap (mc d c) c.length 0 ()with| .inl x_0_0=>260| .inr s_0=>0)))
def qX (d:District)(c:List Claim):Prop:=((mU d)∧(((kF d) !=0)=false→(c.length≤bp→((decide ((c.length:Int) > 4096))=false→okI (mc d c) (jY d c) c.length 0 ()))))
@[go_sem] def x9:List SV→Option Con:=(pD .district fun d=>(pR .claim fun c=>(pE (.det (qX d c) (.v (.int .i64 (uC d c)))))))
theorem IB:FnOk Tryz.prog 20 x9:=by
 have hG:ConsOk Tryz.prog (mkG [(36,fun l=>qV (du [.st .district] l)),(37,fun l=>qW (du [.st .district,.st .claim] l)),(38,pG)] []):=aw (cgc (w_.norm [.st .district]) (cgc (xa.norm [.st .district,.st .claim]) (cgc u7 cg0))) cg0
 refine a7 [.o] mixed am hG (fn:=Tryz.f20) (c:=ae Tryz.f20) (by kernel_rfl) (by kernel_rfl) (by kernel_rfl) (by kernel_rfl) (a8 fun d=>(dY fun c=>(aH (fun hp=>?_))))
 dsimp only[aD]at hp
 unfold qX at hp
 refine⟨Nat.le_of_ble_eq_true rfl,(fun id st=>bif Nat.beq id 0 then some (LCR (ρ:=Unit) (σ:=Unit) 1 [] [0] (fun k_0 s_0=>⟨[(1,.rs .claim c),(2,.ptr 0 0),(6,.v (.int .i64 (k_0:Int)))],[.cells (cellsOf .district d)]⟩) (mc d c) (jY d c) c.length () (True) (fun _=>.ret) (fun x_0_0=>⟨[(4,.v (.int .i64 260))],[.dead]⟩) st)else none),?_,?_⟩
 ·unfold ae Tryz.f20
  simp only[al,true_and,and_true]
  ·refine jq (c.length≤bp) mixed am hG (by kernel_rfl) (fun _=>rfl) (c.length:Int) rfl iD (fun hb0 k_0 s_0 hlt0 hq0 hw hc=>⟨L0,ah _,?_⟩) (fun hb0 s_0 hc=>?_) fun hb0 k_0 s_0=>?_
   ·unfold jY at hq0
    try simp only[hw,Int.toNat_natCast]at hq0
    exact cg (jl [0])
   ·exact ci (jl [0])
   ·exact zq7
 ·unfold ae Tryz.f20
  try unfold uC
  exact zq1
@[go_sem] def iG (a:List Claim)(b:List Claim)(k_0:Nat)(s_0:Unit):Unit⊕Unit:=(bif(!(((a.getD k_0 (default:Claim)).right==(b.getD k_0 (default:Claim)).right)&&(((a.getD k_0 (default:Claim)).farm==(b.getD k_0 (default:Claim)).farm)&&(((a.getD k_0 (default:Claim)).hour==(b.getD k_0 (default:Claim)).hour)&&(((a.getD k_0 (default:Claim)).litres==(b.getD k_0 (default:Claim)).litres)&&((a.getD k_0 (default:Claim)).rank==(b.getD k_0 (default:Claim)).rank))))))then .inl ()else .inr ())
def ld (a:List Claim)(b:List Claim)(k_0:Nat)(s_0:Unit):Prop:=(a.length≤bp→(0≤(k_0:Int)∧(k_0:Int) < (b.length:Int)))
def jZ (a:List Claim)(b:List Claim):Bool:=(bif((a.length:Int) !=(b.length:Int))then false else(match ap (iG a b) a.length 0 ()with| .inl x_0_0=>false| .inr s_0=>true))
def jw (a:List Claim)(b:List Claim):Prop:=(a.length≤bp→(b.length≤bp→(((a.length:Int) !=(b.length:Int))=false→okI (iG a b) (ld a b) a.length 0 ())))
@[go_sem] def og:List SV→Option Con:=(pR .claim fun a=>(pR .claim fun b=>(pE (.det (jw a b) (.v (.bool (jZ a b)))))))
theorem qY:FnOk Tryz.prog 16 og:=by
 have hG:ConsOk Tryz.prog (mkG [] []):=aw cg0 cg0
 refine a7 [.o] mixed am hG (fn:=Tryz.f16) (c:=ae Tryz.f16) (by kernel_rfl) (by kernel_rfl) (by kernel_rfl) (by kernel_rfl) (dY fun a=>(dY fun b=>(aH (fun hp=>?_))))
 dsimp only[aD]at hp
 unfold jw at hp
 refine⟨Nat.le_of_ble_eq_true rfl,(fun id st=>bif Nat.beq id 0 then some (LCR (ρ:=Unit) (σ:=Unit) 0 [] [] (fun k_0 s_0=>⟨[(0,.rs .claim a),(1,.rs .claim b),(5,.v (.int .i64 (k_0:Int)))],[]⟩) (iG a b) (ld a b) a.length () (True) (fun _=>.ret) (fun x_0_0=>⟨[(4,.v (.bool false))],[]⟩) st)else none),?_,?_⟩
 ·unfold ae Tryz.f16
  simp only[al,true_and,and_true]
  ·refine jq (a.length≤bp) mixed am hG (by kernel_rfl) (fun _=>rfl) (a.length:Int) rfl iD (fun hb0 k_0 s_0 hlt0 hq0 hw hc=>⟨L0,ah _,?_⟩) (fun hb0 s_0 hc=>?_) fun hb0 k_0 s_0=>?_
   ·unfold ld at hq0
    try simp only[hw,Int.toNat_natCast]at hq0
    exact cg (jl [])
   ·exact ci (jl [])
   ·exact zq7
 ·unfold ae Tryz.f16
  try unfold jZ
  exact zq1
@[go_sem] def eE (a:List Block)(b:List Block)(k_0:Nat)(s_0:Unit):Unit⊕Unit:=(bif(!(((a.getD k_0 (default:Block)).right==(b.getD k_0 (default:Block)).right)&&(((a.getD k_0 (default:Block)).farm==(b.getD k_0 (default:Block)).farm)&&(((a.getD k_0 (default:Block)).hour==(b.getD k_0 (default:Block)).hour)&&((a.getD k_0 (default:Block)).reach==(b.getD k_0 (default:Block)).reach)))))then .inl ()else .inr ())
def gu (a:List Block)(b:List Block)(k_0:Nat)(s_0:Unit):Prop:=(a.length≤bp→(0≤(k_0:Int)∧(k_0:Int) < (b.length:Int)))
def eM (a:List Block)(b:List Block):Bool:=(bif((a.length:Int) !=(b.length:Int))then false else(match ap (eE a b) a.length 0 ()with| .inl x_0_0=>false| .inr s_0=>true))
def eW (a:List Block)(b:List Block):Prop:=(a.length≤bp→(b.length≤bp→(((a.length:Int) !=(b.length:Int))=false→okI (eE a b) (gu a b) a.length 0 ())))
@[go_sem] def mf:List SV→Option Con:=(pR .block fun a=>(pR .block fun b=>(pE (.det (eW a b) (.v (.bool (eM a b)))))))
theorem qz:FnOk Tryz.prog 17 mf:=by
 have hG:ConsOk Tryz.prog (mkG [] []):=aw cg0 cg0
 refine a7 [.o] mixed am hG (fn:=Tryz.f17) (c:=ae Tryz.f17) (by kernel_rfl) (by kernel_rfl) (by kernel_rfl) (by kernel_rfl) (dY fun a=>(dY fun b=>(aH (fun hp=>?_))))
 dsimp only[aD]at hp
 unfold eW at hp
 refine⟨Nat.le_of_ble_eq_true rfl,(fun id st=>bif Nat.beq id 0 then some (LCR (ρ:=Unit) (σ:=Unit) 0 [] [] (fun k_0 s_0=>⟨[(0,.rs .block a),(1,.rs .block b),(5,.v (.int .i64 (k_0:Int)))],[]⟩) (eE a b) (gu a b) a.length () (True) (fun _=>.ret) (fun x_0_0=>⟨[(4,.v (.bool false))],[]⟩) st)else none),?_,?_⟩
 ·unfold ae Tryz.f17
  simp only[al,true_and,and_true]
  ·refine jq (a.length≤bp) mixed am hG (by kernel_rfl) (fun _=>rfl) (a.length:Int) rfl iD (fun hb0 k_0 s_0 hlt0 hq0 hw hc=>⟨L0,ah _,?_⟩) (fun hb0 s_0 hc=>?_) fun hb0 k_0 s_0=>?_
   ·unfold gu at hq0
    try simp only[hw,Int.toNat_natCast]at hq0
    exact cg (jl [])
   ·exact ci (jl [])
   ·exact zq7
 ·unfold ae Tryz.f17
  try unfold eM
  exact zq1
def lK (d:District)(l_:List Deed)(fr:Int)(to:Int):Bool:=(bif((!(tW d l_)) ||((decide ((d.rights.length:Int) > 40))&&(decide ((d.rights.length:Int)≤256))))then false else(((((decide (fr<0)) ||(decide (fr > to))) ||(decide (to≥d.hours))) ||(decide (d.hours > 4096))) ||(decide ((IntKind.i64.wrap (to - fr)) <60))))
@[go_sem] def uD:List SV→Option Con:=(pD .district fun d=>(pR .deed fun l_=>(pI fun fr=>(pI fun to=>(pE (.det True (.v (.bool (lK d l_ fr to)))))))))
theorem Ah:FnOk Tryz.prog 11 uD:=by
 have hG:ConsOk Tryz.prog (mkG [(28,fun l=>uB (du [.st .district,.sl .deed] l))] []):=aw (cgc (Ag.norm [.st .district,.sl .deed]) cg0) cg0
 refine a7 [.o] mixed am hG (fn:=Tryz.f11) (c:=ae Tryz.f11) (by kernel_rfl) (by kernel_rfl) (by kernel_rfl) (by kernel_rfl) (a8 fun d=>(dY fun l_=>(bZ fun fr=>(bZ fun to=>(aH (fun hp=>?_))))))
 dsimp only[aD]at hp
 refine⟨Nat.le_of_ble_eq_true rfl,L0,ah _,?_⟩
 ·unfold ae Tryz.f11
  try unfold lK
  exact zq1
end Go.Sx
end
section
namespace Go.Sx
open Go.Proofs
set_option maxRecDepth 100000
set_option linter.unusedSimpArgs false
def bv (x:Right)(kind:Int)(farm:Int)(reach:Int)(hour:Int):Bool:=(((((x.kind==kind)&&(x.farm==farm))&&(x.reach==reach))&&(decide (x.since≤hour)))&&(decide (hour≤x.to)))
@[go_sem] def pH (d:District)(farm:Int)(reach:Int)(hour:Int)(k_0:Nat)(s_0:Unit):Unit⊕Unit:=(bif(bv (d.rights.getD k_0 (default:Right)) 3 farm reach hour)then .inl ()else .inr ())
def mH (d:District)(farm:Int)(reach:Int)(hour:Int):Bool:=(match ap (pH d farm reach hour) d.rights.length 0 ()with| .inl x_0_0=>true| .inr s_0=>false)
@[go_sem] def sO (d:District)(farm:Int)(reach:Int)(hour:Int)(k_0:Nat)(s_0:Unit):Unit⊕Unit:=(bif(((d.rights.getD k_0 (default:Right)).farm !=farm)&&(bv (d.rights.getD k_0 (default:Right)) 2 ((d.rights.getD k_0 (default:Right)).farm) reach hour))then .inl ()else .inr ())
def qm (d:District)(farm:Int)(reach:Int)(hour:Int):Bool:=(match ap (sO d farm reach hour) d.rights.length 0 ()with| .inl x_0_0=>(mH d farm reach hour) | .inr s_0=>true)
end Go.Sx
end
section
namespace Go.Sx
open Go.RowKit
abbrev RF:= { r:Nat→Res // ∀ k,(r k).n=k}
def Gf (items:List (List SV))(r:RF):List SV→Res→Option YCon:=itY items r.1
@[go_sem] theorem Uz {items:List (List SV)}{r:RF}{k:Nat}{args:List SV}:Gf items r args (r.1 (k+1))=some (BD (items[k]? =some args) r.1 (k+2)):=Dw r.2 k args
section
variable {ρ σ:Type}
def lcy (pre:Prop)(run:ρ⊕σ)(exE:ρ→Ex)(outE:ρ→St)(outN:σ→St)(stp:St):LCon where
 α:=Option (ρ⊕σ)
 pre:=pre
 post:=fun|none=>True|some r=>r=run
 ex:=fun|none=>.ret|some (.inl x) =>exE x|some (.inr _) =>.normal
 out:=fun|none=>stp|some (.inl x) =>outE x|some (.inr s) =>outN s
def LCY (m:Nat)(ns:List NLoc)(js:List Nat)(D:Nat→σ→St)(step:Nat→σ→ρ⊕σ)(p:Nat→σ→Prop)(n:Nat)(s0:σ)(B:Prop)(exE:ρ→Ex)(outE:ρ→St)(stp:St)(st:St):LCon:=
 lcy (oa m ns js st (D 0 s0)∧B∧okI step p n 0 s0) (ap step n 0 s0) exE outE (D n) stp
variable {m:Nat}{ns:List NLoc}{js:List Nat}{step:Nat→σ→ρ⊕σ}{p:Nat→σ→Prop}{n:Nat}{s0:σ}{B:Prop}{exE:ρ→Ex}{outE:ρ→St}{stp st:St}{Q:Ex→St→Prop}{D:Nat→σ→St}
theorem Gg {pre:Prop}{run:ρ⊕σ}{outN:σ→St}:lT Q (some (lcy pre run exE outE outN stp))=(pre∧(∀ x,run=.inl x→Q (exE x) (outE x))∧(∀ s,run=.inr s→Q .normal (outN s))∧Q .ret stp):=by
 apply propext
 constructor
 ·rintro⟨h1,h2⟩
  exact⟨h1,fun x hx=>h2 (some (.inl x)) hx.symm,fun s hs=>h2 (some (.inr s)) hs.symm,h2 none trivial⟩
 ·rintro⟨h1,h2,h3,h4⟩
  refine⟨h1,fun r hr=>?_⟩
  match r,hr with
  |none,_=>exact h4
  |some (.inl x),hr=>exact h2 x hr.symm
  |some (.inr s),hr=>exact h3 s hr.symm
@[go_sem] theorem QR:lT Q (some (LCY m ns js D step p n s0 B exE outE stp st))=((oa m ns js st (D 0 s0)∧B∧okI step p n 0 s0)∧(∀ x,ap step n 0 s0=.inl x→Q (exE x) (outE x))∧(∀ s,ap step n 0 s0=.inr s→Q .normal (D n s))∧Q .ret stp):=Gg
def cY (step:Nat→σ→ρ⊕σ)(exE:ρ→Ex)(outE:ρ→St)(D:Nat→σ→St)(stp:St)(m id k:Nat)(s:σ):Ex→St→Prop
 | .normal,st=>nB D m k st (step k s)
 | .exit j,st=>jp exE outE m (bif Nat.beq j id then .normal else .exit j) st (step k s)
 | .ret,st=>jp exE outE m .ret st (step k s)∨fV stp m st
 | .pan x,st=>jp exE outE m (.pan x) st (step k s)
variable {id k j:Nat}{s:σ}{x:Value}{e e':Ex}
@[go_sem] theorem QS:cY step exE outE D stp m id k s .normal st=nB D m k st (step k s):=(rfl)
@[go_sem] theorem UA:cY step exE outE D stp m id k s (.exit j) st=jp exE outE m (bif Nat.beq j id then .normal else .exit j) st (step k s):=(rfl)
@[go_sem] theorem Vu:cY step exE outE D stp m id k s .ret st=(jp exE outE m .ret st (step k s)∨fV stp m st):=(rfl)
@[go_sem] theorem Vv:cY step exE outE D stp m id k s (.pan x) st=jp exE outE m (.pan x) st (step k s):=(rfl)
@[congr] theorem SS {st':St}(h:st=st')(he:e=e'):cY step exE outE D stp m id k s e st=cY step exE outE D stp m id k s e' st':=by rw[h,he]
end
section
variable {P:Program}{ρ σ:Type}{ts:Tis}{G:Cons}{ro:Option Nat}{N:Nat}{id:Nat}{c:Code}{C:St→Option LCon}{m:Nat}{ns:List NLoc}{js:List Nat}{step:Nat→σ→ρ⊕σ}{p:Nat→σ→Prop}{n:Nat}{s0:σ}{exE:ρ→Ex}{outE:ρ→St}{D:Nat→σ→St}{stp:St}
theorem Ow {n0:Nat}(hn0:n0=m){s:σ}{k:Nat}(hlt:k<n){I:Nat×σ→Prop}{μ:Nat×σ→Nat}{outN:σ→St}{pre:Prop}{run:ρ⊕σ}
  (hI:∀ s',step k s=.inr s'→I (k+1,s')∧μ (k+1,s') <μ (k,s)) (hx:∀ x,step k s=.inl x→run=.inl x):
  ∀ e st',cY step exE outE D stp m id k s e st'→nV (fun x:Nat×σ=>D x.1 x.2) I μ n0 (k,s) id (fun e st'=>∃ r js,(lcy pre run exE outE outN stp).post r∧(lcy pre run exE outE outN stp).ex r=e∧n0≤((lcy pre run exE outE outN stp).out r).h.length∧Sub js n0 st' ((lcy pre run exE outE outN stp).out r)) e st':=by
 subst hn0
 have hfin:∀ e st',jp exE outE n0 e st' (step k s)→∃ r js,(lcy pre run exE outE outN stp).post r∧(lcy pre run exE outE outN stp).ex r=e∧n0≤((lcy pre run exE outE outN stp).out r).h.length∧Sub js n0 st' ((lcy pre run exE outE outN stp).out r):=by
  intro e st' q
  cases hs:step k s with
  |inr s'=>rw[hs]at q;exact q.elim
  |inl x=>
   rw[hs]at q
   obtain⟨q2,js,q3,q4⟩:=q
   exact⟨some (.inl x),js,(hx x hs).symm,q2,q3,q4⟩
 intro e st' hq
 cases e with
 |normal=>
  change nB D n0 k st' (step k s)at hq
  cases hs:step k s with
  |inl x=>rw[hs]at hq;exact hq.elim
  |inr s'=>
   rw[hs]at hq
   obtain⟨js,q3,q4⟩:=hq
   obtain⟨i1,i2⟩:=hI s' hs
   exact⟨(k+1,s'),js,i1,i2,q3,q4⟩
 |exit j=>
  change jp exE outE n0 (bif Nat.beq j id then .normal else .exit j) st' (step k s)at hq
  show bif Nat.beq j id then _ else _
  cases hb:Nat.beq j id with
  |true=>rw[hb]at hq;exact hfin _ _ hq
  |false=>rw[hb]at hq;exact hfin _ _ hq
 |ret=>
  rcases hq with hq|hq
  ·exact hfin _ _ hq
  ·obtain⟨js,q3,q4⟩:=hq
   exact⟨none,js,trivial,rfl,q3,q4⟩
 |pan x=>exact hfin _ _ hq
theorem BK {B:Prop}(hm:P.follows .mixedOrders=true)(hts:ts.ok P)(hG:ConsOk P G)(hc:ca N c=true)(hC:∀ st,C st=some (LCY m ns js D step p n s0 B exE outE stp st))(M:Int)(hn:n=M.toNat)(hB:B→M<9223372036854775808)
  (h:B→∀ k s,k<n→p k s→IntKind.i64.wrap ((k:Int)+1)=((k+1:Nat):Int)→decide ((k:Int) <M)=true→∃ L,al P ro N L c∧exec ts G L c (D k s) (cY step exE outE D stp m id k s))
  (h2:B→∀ s,decide ((n:Int) <M)=false→exec ts G L0 c (D n s) (cZ (D n s) m id)):ir P ro N id (.loop c) C:=by
 refine sG hm hts hG hc fun st lc hC' hp=>?_
 rw[hC st]at hC'
 cases hC'
 obtain⟨⟨hlen,hok,hle,hsub⟩,hB',h1⟩:=hp
 refine⟨Nat×σ,fun x=>D x.1 x.2,fun x=>x.1≤n∧okI step p (n - x.1) x.1 x.2∧ap step (n - x.1) x.1 x.2=ap step n 0 s0,fun x=>n - x.1,(0,s0),mkN ns st,js,⟨Nat.zero_le _,by simpa using h1,by simp⟩,rO ns st st (.refl _) hok,by rw[hlen];exact hle,by rw[hlen];exact hsub,?_⟩
 rintro⟨k,s⟩ ⟨hk,hJ,hrun⟩
 simp only at hk hJ hrun
 rcases Nat.lt_or_ge k n with hlt|hge
 ·rw[show n - k=(n - k - 1)+1 by omega]at hrun hJ
  obtain⟨L,hl,hex⟩:=h hB' k s hlt hJ.1 (H5 (hn▸hlt) (hB hB')) (decide_eq_true (by omega))
  have hI:∀ s',step k s=.inr s'→okI step p (n - (k+1)) (k+1) s'∧ap step (n - (k+1)) (k+1) s'=ap step n 0 s0:=fun s' hs=>by
   have:=hJ.2 s' hs
   rw[show n - k - 1=n - (k+1) by omega]at this hrun
   simp only[ap,hs]at hrun
   exact⟨this,hrun⟩
  have hx:∀ x,step k s=.inl x→ap step n 0 s0=.inl x:=fun x hs=>by
   simp only[ap,hs]at hrun
   exact hrun.symm
  exact⟨L,_,hl,fun e st' q=>Ow hlen hlt (fun s' hs=>⟨⟨hlt,hI s' hs⟩,by simp only;omega⟩) hx e st' q,hex⟩
 ·have hkn:k=n:=by omega
  subst hkn
  have hex:=h2 hB' s (by rw[decide_eq_false_iff_not];omega)
  refine⟨L0,_,ah c,fun e st' hq=>?_,hex⟩
  simp only[Nat.sub_self,ap]at hrun
  cases e with
  |exit j=>
   change bif Nat.beq j id then fV (D k s) m st' else False at hq
   show bif Nat.beq j id then _ else _
   cases hb:Nat.beq j id with
   |true=>
    rw[hb]at hq
    obtain⟨js,q3,q4⟩:=hq
    exact⟨some (.inr s),js,hrun,rfl,by rw[hlen];exact q3,by rw[hlen];exact q4⟩
   |false=>rw[hb]at hq;exact hq.elim
  |_=>exact hq.elim
end
def kG (n:Nat):List Ob:=List.replicate n .dead
def IC (items:List (List SV))(r:RF)(n:Nat):Ex→St→Prop
 | .normal,st=>fV ⟨[],.ab (r.1 0)::kG n⟩ (n+1) ⟨[],st.h⟩∨fV ⟨[],.ab (r.1 (items.length+1))::kG n⟩ (n+1) ⟨[],st.h⟩
 | .ret,st=>fV ⟨[],.ab (r.1 0)::kG n⟩ (n+1) ⟨[],st.h⟩∨fV ⟨[],.ab (r.1 (items.length+1))::kG n⟩ (n+1) ⟨[],st.h⟩
 |_,_=>False
section
variable {items:List (List SV)}{r:RF}{n:Nat}{st:St}{e e':Ex}
@[go_sem] theorem Lr:IC items r n .normal st=(fV ⟨[],.ab (r.1 0)::kG n⟩ (n+1) ⟨[],st.h⟩∨fV ⟨[],.ab (r.1 (items.length+1))::kG n⟩ (n+1) ⟨[],st.h⟩):=(rfl)
@[go_sem] theorem QT:IC items r n .ret st=(fV ⟨[],.ab (r.1 0)::kG n⟩ (n+1) ⟨[],st.h⟩∨fV ⟨[],.ab (r.1 (items.length+1))::kG n⟩ (n+1) ⟨[],st.h⟩):=(rfl)
@[go_sem] theorem UB:kG 0=[]:=(rfl)
@[go_sem] theorem UC:kG 1=[.dead]:=(rfl)
@[go_sem] theorem UD:kG 2=[.dead,.dead]:=(rfl)
@[go_sem] theorem UE:kG 3=[.dead,.dead,.dead]:=(rfl)
@[go_sem] theorem UF:kG 4=[.dead,.dead,.dead,.dead]:=(rfl)
end
theorem BL {js:List Nat}{n0:Nat}{h h':List Ob}(q:Sub js n0 ⟨[],h⟩ ⟨[],h'⟩):Sub js n0 ⟨[(0,.tup [])],h⟩ ⟨[(0,.tup [])],h'⟩:=by
 refine⟨q.1,?_,q.2.2⟩
 simp only[Fz,lk]
 exact⟨⟨rfl,rfl⟩,trivial⟩
open Classical in
theorem ID {P:Program} {ts:Tis} {G:RF→Cons} (hm:P.follows .mixedOrders=true) (hts:ts.ok P) {f:FuncId} {fn:Func} {c:Code} (hf:P.funcs[f]? =some fn) (hb:fn.body=some c) (hname:(fn.name== "runtime.NumGoroutine")=false) (hc:ca fn.ntmps c=true) (hr:fn.results.toList=[])
  {items:List (List SV)} {mk:SV→List SV} {hs:List Ob} {n:Nat} (hn:hs.length=n)
  (h:∀ r:RF,YOk P (Gf items r)→ConsOk P (G r)∧(mk (.os 0)).length≤fn.ntmps∧∃ L,al P none fn.ntmps L c∧exec ts (G r) L c ⟨jg 0 (mk (.os 0)),.ab (r.1 1)::hs⟩ (IC items r n))
  (he:∀ (args:Array Value) (w:World),(callFunc f args).run P w=.ok (.enter f args) w):Aa P f mk hs items:=by
 refine H3 (fun r0 hr0 hy=>?_) he
 obtain⟨hG,h1,L,h2,h3⟩:=h ⟨r0,hr0⟩ hy
 refine⟨fun l o=>if l=mk (.os 0)∧o=.ab (r0 1)::hs then some { α:=Bool,pre:=True,post:=fun _=>True,res:=fun b=>.ret (.tup []) (.ab (r0 (if b then items.length+1 else 0))::kG n)}else none,?_,_,if_pos ⟨rfl,rfl⟩,trivial,fun b _=>⟨_,_,_,rfl,by cases b <;>simp⟩⟩
 refine wJ hm hts hG hf hb hname hc fun l o con hC _=>?_
 split at hC
 rotate_left
 ·cases hC
 rename_i hlo
 obtain⟨rfl,rfl⟩:=hlo
 cases hC
 refine⟨h1,L,_,h2,fun e st hq=>?_,h3⟩
 have key:∀ st:St,(fV ⟨[],.ab (r0 0)::kG n⟩ (n+1) ⟨[],st.h⟩∨fV ⟨[],.ab (r0 (items.length+1))::kG n⟩ (n+1) ⟨[],st.h⟩)→sf (Ob.ab (r0 1)::hs).length { α:=Bool,pre:=True,post:=fun _=>True,res:=fun b=>.ret (.tup []) (.ab (r0 (if b then items.length+1 else 0))::kG n)} (lu (jN ts st fn.results.toList)) st.h:=fun st q=>by
  rw[hr]
  show ∃ r s' h' js,_
  rcases q with⟨js,q1,q2⟩ | ⟨js,q1,q2⟩
  ·exact⟨false,_,_,js,trivial,rfl,by rw[List.length_cons,hn];exact q1,by rw[List.length_cons,hn];exact BL q2⟩
  ·exact⟨true,_,_,js,trivial,rfl,by rw[List.length_cons,hn];exact q1,by rw[List.length_cons,hn];exact BL q2⟩
 cases e with
 |normal=>exact key st hq
 |ret=>exact key st hq
 |exit j=>exact hq.elim
 |pan x=>exact hq.elim
section
variable {ρ σ τ:Type}
theorem tX {step:τ→σ→ρ⊕σ}:∀ {a b:List τ} {s s':σ},dN step a s=.inr s'→dN step (a++b) s=dN step b s'
 | [],_,_,_,h=>by simp only[dN,Sum.inr.injEq]at h;subst h;rfl
 |x::a,b,s,s',h=>by
  simp only[List.cons_append,dN]at h ⊢
  cases hs:step x s with
  |inl y=>rw[hs]at h;cases h
  |inr s1=>rw[hs]at h;simp only at h ⊢;exact tX h
theorem BN {step:τ→σ→ρ⊕σ}{p:τ→σ→Prop}:∀ {a b:List τ} {s s':σ},dN step a s=.inr s'→okL step p (a++b) s→okL step p b s'
 | [],_,_,_,h,hk=>by simp only[dN,Sum.inr.injEq]at h;subst h;exact hk
 |x::a,b,s,s',h,hk=>by
  simp only[List.cons_append,dN]at h hk
  cases hs:step x s with
  |inl y=>rw[hs]at h;cases h
  |inr s1=>rw[hs]at h;exact BN h (hk.2 s1 hs)
def LCP (m:Nat)(ns:List NLoc)(js:List Nat)(D:List Nat→Option Nat→σ→St)(step:τ→σ→ρ⊕σ)(p:τ→σ→Prop)(l:List τ)(s0:σ)(exE:ρ→Ex)(outE:ρ→St)(outN:σ→St)(st:St):LCon where
 α:=ρ⊕σ
 pre:=oa m ns js st (D (List.range l.length) none s0)∧∀ L,L.Perm l→okL step p L s0
 post:=fun r=>∃ L,L.Perm l∧dN step L s0=r
 ex:=fun| .inl x=>exE x| .inr _=>.normal
 out:=fun| .inl x=>outE x| .inr s=>outN s
variable {m:Nat}{ns:List NLoc}{js:List Nat}{step:τ→σ→ρ⊕σ}{p:τ→σ→Prop}{l:List τ}{s0:σ}{exE:ρ→Ex}{outE:ρ→St}{outN:σ→St}{st:St}{Q:Ex→St→Prop}{D:List Nat→Option Nat→σ→St}
@[go_sem] theorem QU:lT Q (some (LCP m ns js D step p l s0 exE outE outN st))=((oa m ns js st (D (List.range l.length) none s0)∧∀ L,L.Perm l→okL step p L s0)∧∀ L,L.Perm l→(∀ x,dN step L s0=.inl x→Q (exE x) (outE x))∧∀ s,dN step L s0=.inr s→Q .normal (outN s)):=by
 apply propext
 constructor
 ·rintro⟨h1,h2⟩
  exact⟨h1,fun L hL=>⟨fun x hx=>h2 (.inl x) ⟨L,hL,hx⟩,fun s hs=>h2 (.inr s) ⟨L,hL,hs⟩⟩⟩
 ·rintro⟨h1,h2⟩
  refine⟨h1,fun r ⟨L,hL,hr⟩ =>?_⟩
  cases r with
  |inl x=>exact(h2 L hL).1 x hr
  |inr s=>exact(h2 L hL).2 s hr
variable {P:Program}{ts:Tis}{G:Cons}{ro:Option Nat}{N id:Nat}{c:Code}{C:St→Option LCon}
theorem IE (d:τ)(it:Nat)(hm:P.follows .mixedOrders=true)(hts:ts.ok P)(hG:ConsOk P G)(hc:ca N c=true)(hC:∀ st,C st=some (LCP m ns js D step p l s0 exE outE outN st))
  (h:∀ left cur s,(∀ j,j∈left→j<l.length∧p (l.getD j d) s)→∃ L,al P ro N L c∧exec ts G L c (D left cur s) (cM step l d exE outE outN D m id it left s)):ir P ro N id (.loop c) C:=by
 refine sG hm hts hG hc fun st lc hC' hp=>?_
 rw[hC st]at hC'
 cases hC'
 obtain⟨⟨hlen,hok,hle,hsub⟩,hO⟩:=hp
 subst hlen
 have hfix:∀ q:List Nat,q.Perm (List.range l.length)→(q.map fun j=>l.getD j d).Perm l:=fun q hq=>by
  have:=hq.map (fun j=>l.getD j d)
  rwa[wR]at this
 refine⟨List Nat×Option Nat×σ,fun x=>D x.1 x.2.1 x.2.2,fun x=>∃ q:List Nat,(q++x.1).Perm (List.range l.length)∧dN step (q.map fun j=>l.getD j d) s0=.inr x.2.2,fun x=>x.1.length,(List.range l.length,none,s0),mkN ns st,js,⟨[],.refl _,rfl⟩,rO ns st st (.refl _) hok,hle,hsub,?_⟩
 rintro⟨left,cur,s⟩ ⟨q,hq,hrun⟩
 simp only at hq hrun
 have hmem:∀ j,j∈left→(q++j::left.erase j).Perm (List.range l.length):=fun j hj=>((List.perm_cons_erase hj).symm.append_left q).trans hq
 have hp0:∀ j,j∈left→j<l.length∧p (l.getD j d) s:=fun j hj=>by
  refine⟨List.mem_range.1 (hq.mem_iff.1 (List.mem_append_right _ hj)),?_⟩
  have:=hO _ (hfix _ (hmem j hj))
  rw[List.map_append]at this
  exact(BN hrun this).1
 obtain⟨L,hl,hex⟩:=h left cur s hp0
 refine⟨L,_,hl,?_,hex⟩
 have hfin:∀ e st' o,exC step l d exE outE st.h.length left s e st' o→∃ r js,(LCP st.h.length ns js D step p l s0 exE outE outN st).post r∧(LCP st.h.length ns js D step p l s0 exE outE outN st).ex r=e∧st.h.length≤((LCP st.h.length ns js D step p l s0 exE outE outN st).out r).h.length∧Sub js st.h.length st' ((LCP st.h.length ns js D step p l s0 exE outE outN st).out r):=by
  intro e st' o z
  cases o with
  |none=>exact z.elim
  |some j=>
   obtain⟨hj,z⟩:=z
   cases hs:step (l.getD j d) s with
   |inr s'=>rw[hs]at z;exact z.elim
   |inl x=>
    rw[hs]at z
    obtain⟨q2,js2,q3,q4⟩:=z
    refine⟨.inl x,js2,⟨_,hfix _ (hmem j hj),?_⟩,q2,q3,q4⟩
    rw[List.map_append,tX hrun]
    simp only[List.map_cons,dN,hs]
 intro e st' hz
 cases e with
 |normal=>
  change nxC step l d D st.h.length left s st' (rN (ag st'.h it))at hz
  cases ho:rN (ag st'.h it)with
  |none=>rw[ho]at hz;exact hz.elim
  |some j=>
   rw[ho]at hz
   obtain⟨hj,hz⟩:=hz
   cases hs:step (l.getD j d) s with
   |inl x=>rw[hs]at hz;exact hz.elim
   |inr s'=>
    rw[hs]at hz
    obtain⟨js2,q3,q4⟩:=hz
    refine⟨(left.erase j,some j,s'),js2,⟨q++[j],?_,?_⟩,?_,q3,q4⟩
    ·rw[List.append_assoc];exact hmem j hj
    ·rw[List.map_append,tX hrun]
     simp only[List.map_cons,List.map_nil,dN,hs]
    ·have:=List.length_pos_of_mem hj
     simp only[List.length_erase_of_mem hj];omega
 |exit j=>
  have hz':(bif Nat.beq j id then(left=[]→fV (outN s) st.h.length st')∧(left≠[]→exC step l d exE outE st.h.length left s .normal st' (rN (ag st'.h it)))else exC step l d exE outE st.h.length left s (.exit j) st' (rN (ag st'.h it))):=hz
  show bif Nat.beq j id then _ else _
  cases hb:Nat.beq j id with
  |true=>
   rw[hb]at hz'
   simp only[cond_true]at hz' ⊢
   by_cases hlt:left=[]
   ·obtain⟨js2,q3,q4⟩:=hz'.1 hlt
    refine⟨.inr s,js2,⟨_,hfix q (by rw[hlt,List.append_nil]at hq;exact hq),hrun⟩,rfl,q3,q4⟩
   ·exact hfin _ _ _ (hz'.2 hlt)
  |false=>
   rw[hb]at hz'
   exact hfin _ _ _ hz'
 |ret=>exact hfin _ _ _ hz
 |pan x=>exact hfin _ _ _ hz
end
theorem fkY {st2 st:St}{n0:Nat}{js:List Nat}(_:JL js)(h1:n0≤st2.h.length:=by(first|(show _≤_;decide) |(simp only[*,go_sem,Nat.reduceBEq,Nat.reduceLeDiff,Nat.reduceAdd,Nat.reduceSub,Nat.reduceMul,Int.reduceLE,Int.reduceLT,Int.reduceToNat,Int.reduceNeg,reduceCtorEq];done) |(simp only[*,go_sem,Nat.reduceBEq,Nat.reduceLeDiff,Nat.reduceAdd,Nat.reduceSub,Nat.reduceMul,Int.reduceLE,Int.reduceLT,Int.reduceToNat,Int.reduceNeg,reduceCtorEq];(repeat' (first|with_reducible refine And.intro ?_ ?_|((with_reducible show _≠_);first|assumption|omega|(simp_all [eC,e_];done) |grind) |with_reducible intro _)) <;>(first|rfl|decide|assumption|omega|(simp_all [eC,e_];done) |fail))))(h2:Sub js n0 st st2:=by(first|(show _≤_;decide) |(simp only[*,go_sem,Nat.reduceBEq,Nat.reduceLeDiff,Nat.reduceAdd,Nat.reduceSub,Nat.reduceMul,Int.reduceLE,Int.reduceLT,Int.reduceToNat,Int.reduceNeg,reduceCtorEq];done) |(simp only[*,go_sem,Nat.reduceBEq,Nat.reduceLeDiff,Nat.reduceAdd,Nat.reduceSub,Nat.reduceMul,Int.reduceLE,Int.reduceLT,Int.reduceToNat,Int.reduceNeg,reduceCtorEq];(repeat' (first|with_reducible refine And.intro ?_ ?_|((with_reducible show _≠_);first|assumption|omega|(simp_all [eC,e_];done) |grind) |with_reducible intro _)) <;>(first|rfl|decide|assumption|omega|(simp_all [eC,e_];done) |fail)))):fV st2 n0 st:=Ac js h1 h2
theorem Ox {α:Type 1}{G:List SV→α→Prop}{X:SV}{k:List SV→Option α}(h:∀ l c,k l=some c→G (X::l) c):∀ l c,pQ X k l=some c→G l c:=fun l c hc=>by
 obtain⟨r,rfl,h1⟩:=wQ hc;exact h r c h1
end Go.Sx
end
section
namespace Go.Sx
open Go.Proofs
set_option maxRecDepth 100000
set_option linter.unusedSimpArgs false
def j5 (n:Int)(d:Int):Int:=(IntKind.i64.wrap (Int.tdiv (IntKind.i64.wrap (n - (Int.tmod (IntKind.i64.wrap ((Int.tmod n d)+d)) d))) d))
def lC (n:Int)(d:Int):Prop:=(d≠0∧(d≠0∧d≠0))
@[go_sem] def sP:List SV→Option Con:=(pI fun n=>(pI fun d=>(pE (.det (lC n d) (.v (.int .i64 (j5 n d)))))))
theorem ya:FnOk Tryz.prog 166 sP:=by
 have hG:ConsOk Tryz.prog (mkG [] []):=aw cg0 cg0
 refine a7 [.o] mixed am hG (fn:=Tryz.f166) (c:=ae Tryz.f166) (by kernel_rfl) (by kernel_rfl) (by kernel_rfl) (by kernel_rfl) (bZ fun n=>(bZ fun d=>(aH (fun hp=>?_))))
 dsimp only[aD]at hp
 unfold lC at hp
 refine⟨Nat.le_of_ble_eq_true rfl,L0,ah _,?_⟩
 ·unfold ae Tryz.f166
  try unfold j5
  exact zq1
def eh (a:Ratio)(n:Int):Int×Int×Int:=(bif((aS a) !=0)then(0,0,(aS a))else(bif((decide (n< (-1073741824))) ||(decide (n > 1073741824)))then(0,0,1)else((j5 (IntKind.i64.wrap (a.n*n)) a.d),(IntKind.i64.wrap (0 - (j5 (IntKind.i64.wrap ((IntKind.i64.wrap (0 - a.n))*n)) a.d))),0)))
def qZ (a:Ratio)(n:Int):Prop:=(((aS a) !=0)=false→(((decide (n< (-1073741824))) ||(decide (n > 1073741824)))=false→((lC (IntKind.i64.wrap (a.n*n)) a.d)∧(lC (IntKind.i64.wrap ((IntKind.i64.wrap (0 - a.n))*n)) a.d))))
theorem yb {a:Ratio}(h:(aS a !=0)=false):1≤a.d:=by
 unfold aS at h
 by_cases hd:a.d<1
 ·simp[hd]at h
 ·omega
theorem xb (a:Ratio)(n:Int):qZ a n:=fun h _=>by
 have:=yb h
 exact⟨⟨by omega,by omega,by omega⟩,⟨by omega,by omega,by omega⟩⟩
@[go_sem] def q_:List SV→Option Con:=(pD .ratio fun a=>(pI fun n=>(pE (.det True (.tup [.v (.int .i64 ((eh a n).1)),.v (.int .i64 ((eh a n).2.1)),.v (.int .i64 ((eh a n).2.2))])))))
theorem xc:FnOk Tryz.prog 138 q_:=by
 have hG:ConsOk Tryz.prog (mkG [(165,ke),(166,sP)] []):=aw (cgc l7 (cgc ya cg0)) cg0
 refine a7 [.o,.o,.o] mixed am hG (fn:=Tryz.f138) (c:=ae Tryz.f138) (by kernel_rfl) (by kernel_rfl) (by kernel_rfl) (by kernel_rfl) (a8 fun a=>(bZ fun n=>(aH (fun hp=>?_))))
 dsimp only[aD]at hp
 have hp:=xb a n
 unfold qZ at hp
 refine⟨Nat.le_of_ble_eq_true rfl,L0,ah _,?_⟩
 ·unfold ae Tryz.f138
  try unfold eh
  exact zq1
def iY (n:Int)(d:Int):Ratio×Int:=(bif(d==0)then(({ n:=0,d:=0}:Ratio),120)else(bif(decide ((if(IntKind.u64.wrap (Int.tdiv (ak n) ((qy (Int.toNat (ak n)) (Int.toNat (ak d)):Nat):Int))) < (IntKind.u64.wrap (Int.tdiv (ak d) ((qy (Int.toNat (ak n)) (Int.toNat (ak d)):Nat):Int)))then(IntKind.u64.wrap (Int.tdiv (ak d) ((qy (Int.toNat (ak n)) (Int.toNat (ak d)):Nat):Int)))else(IntKind.u64.wrap (Int.tdiv (ak n) ((qy (Int.toNat (ak n)) (Int.toNat (ak d)):Nat):Int)))) > 1073741824))then(({ n:=0,d:=0}:Ratio),2)else(bif((decide (n<0)) !=(decide (d<0)))then(({ n:=(IntKind.i64.wrap (0 - (IntKind.i64.wrap (IntKind.u64.wrap (Int.tdiv (ak n) ((qy (Int.toNat (ak n)) (Int.toNat (ak d)):Nat):Int)))))),d:=(IntKind.i64.wrap (IntKind.u64.wrap (Int.tdiv (ak d) ((qy (Int.toNat (ak n)) (Int.toNat (ak d)):Nat):Int))))}:Ratio),0)else(({ n:=(IntKind.i64.wrap (IntKind.u64.wrap (Int.tdiv (ak n) ((qy (Int.toNat (ak n)) (Int.toNat (ak d)):Nat):Int)))),d:=(IntKind.i64.wrap (IntKind.u64.wrap (Int.tdiv (ak d) ((qy (Int.toNat (ak n)) (Int.toNat (ak d)):Nat):Int))))}:Ratio),0))))
def lD (n:Int)(d:Int):Prop:=((d==0)=false→((0≤(ak n)∧0≤(ak d))∧(((qy (Int.toNat (ak n)) (Int.toNat (ak d)):Nat):Int)≠0∧((qy (Int.toNat (ak n)) (Int.toNat (ak d)):Nat):Int)≠0)))
@[go_sem] def sQ:List SV→Option Con:=(pI fun n=>(pI fun d=>(pE (.det (lD n d) (.tup [.agg (cellsOf .ratio ((iY n d).1)),.v (.int .i64 ((iY n d).2))])))))
theorem yc:FnOk Tryz.prog 172 sQ:=by
 have hG:ConsOk Tryz.prog (mkG [(180,C83),(181,jr)] []):=aw (cgc It (cgc l6 cg0)) cg0
 refine a7 [.st .ratio,.o] mixed am hG (fn:=Tryz.f172) (c:=ae Tryz.f172) (by kernel_rfl) (by kernel_rfl) (by kernel_rfl) (by kernel_rfl) (bZ fun n=>(bZ fun d=>(aH (fun hp=>?_))))
 dsimp only[aD]at hp
 unfold lD at hp
 refine⟨Nat.le_of_ble_eq_true rfl,L0,ah _,?_⟩
 ·unfold ae Tryz.f172
  try unfold iY
  exact zq4
def ei (a:Ratio)(b:Ratio):Int×Int:=((IntKind.i64.wrap ((IntKind.i64.wrap (a.n*b.d))+(IntKind.i64.wrap (b.n*a.d)))),(IntKind.i64.wrap (a.d*b.d)))
@[go_sem] def ra:List SV→Option Con:=(pD .ratio fun a=>(pD .ratio fun b=>(pE (.det True (.tup [.v (.int .i64 ((ei a b).1)),.v (.int .i64 ((ei a b).2))])))))
theorem xd:FnOk Tryz.prog 155 ra:=by
 have hG:ConsOk Tryz.prog (mkG [] []):=aw cg0 cg0
 refine a7 [.o,.o] mixed am hG (fn:=Tryz.f155) (c:=ae Tryz.f155) (by kernel_rfl) (by kernel_rfl) (by kernel_rfl) (by kernel_rfl) (a8 fun a=>(a8 fun b=>(aH (fun hp=>?_))))
 dsimp only[aD]at hp
 refine⟨Nat.le_of_ble_eq_true rfl,L0,ah _,?_⟩
 ·unfold ae Tryz.f155
  try unfold ei
  exact zq1
def dZ (a:Ratio)(b:Ratio):Ratio×Int:=(bif(((aS a) !=0) ||((aS b) !=0))then(({ n:=0,d:=0}:Ratio),120)else(((iY ((ei a b).1) ((ei a b).2)).1),(iY ((ei a b).1) ((ei a b).2)).2))
def gQ (a:Ratio)(b:Ratio):Prop:=((((aS a) !=0) ||((aS b) !=0))=false→(lD ((ei a b).1) ((ei a b).2)))
@[go_sem] noncomputable def kH:List SV→Option Con:=(pQ (.agg [.fn 155 [] []]) (pD .ratio fun a=>(pD .ratio fun b=>(pE (.det (gQ a b) (.tup [.agg (cellsOf .ratio ((dZ a b).1)),.v (.int .i64 ((dZ a b).2))]))))))
theorem oM:FnOk Tryz.prog 156 kH:=by
 have hG:ConsOk Tryz.prog (mkG [(155,ra),(165,ke),(172,sQ)] []):=aw (cgc xd (cgc l7 (cgc yc cg0))) cg0
 refine a7 [.st .ratio,.o] mixed am hG (fn:=Tryz.f156) (c:=ae Tryz.f156) (by kernel_rfl) (by kernel_rfl) (by kernel_rfl) (by kernel_rfl) (Ox (a8 fun a=>(a8 fun b=>(aH (fun hp=>?_)))))
 dsimp only[aD]at hp
 unfold gQ at hp
 refine⟨Nat.le_of_ble_eq_true rfl,L0,ah _,?_⟩
 ·unfold ae Tryz.f156
  try unfold dZ
  exact zq1
def fb (a:Ratio)(b:Ratio):Ratio×Int:=(((dZ a b).1),(dZ a b).2)
def mI (a:Ratio)(b:Ratio):Prop:=(gQ a b)
@[go_sem] def uE:List SV→Option Con:=(pD .ratio fun a=>(pD .ratio fun b=>(pE (.det (mI a b) (.tup [.agg (cellsOf .ratio ((fb a b).1)),.v (.int .i64 ((fb a b).2))])))))
theorem Ai:FnOk Tryz.prog 121 uE:=by
 have hG:ConsOk Tryz.prog (mkG [(156,kH)] []):=aw (cgc oM cg0) cg0
 refine a7 [.st .ratio,.o] mixed am hG (fn:=Tryz.f121) (c:=ae Tryz.f121) (by kernel_rfl) (by kernel_rfl) (by kernel_rfl) (by kernel_rfl) (a8 fun a=>(a8 fun b=>(aH (fun hp=>?_))))
 dsimp only[aD]at hp
 unfold mI at hp
 refine⟨Nat.le_of_ble_eq_true rfl,L0,ah _,?_⟩
 ·unfold ae Tryz.f121
  try unfold fb
  exact zq1
end Go.Sx
end
section
namespace Go.Sx
open Go.Proofs
set_option maxRecDepth 100000
set_option linter.unusedSimpArgs false
@[go_sem] def rb (bY:List Int)(k_0:Nat)(s_0:Unit):Int⊕Unit:=(bif((bY.getD k_0 (0:Int)) !=0)then .inl (bY.getD k_0 (0:Int))else .inr ())
def f9 (bY:List Int):Int:=(match ap (rb bY) bY.length 0 ()with| .inl x_0_0=>x_0_0| .inr s_0=>0)
@[go_sem] def sR:List SV→Option Con:=(pR .int fun bY=>(pE (.det True (.v (.int .i64 (f9 bY))))))
theorem yd:FnOk Tryz.prog 44 sR:=by
 have hG:ConsOk Tryz.prog (mkG [] []):=aw cg0 cg0
 refine a7 [.o] mixed am hG (fn:=Tryz.f44) (c:=ae Tryz.f44) (by kernel_rfl) (by kernel_rfl) (by kernel_rfl) (by kernel_rfl) (dY fun bY=>(aH (fun hp=>?_)))
 dsimp only[aD]at hp
 refine⟨Nat.le_of_ble_eq_true rfl,(fun id st=>bif Nat.beq id 0 then some (LCR (ρ:=Int) (σ:=Unit) 0 [] [] (fun k_0 s_0=>⟨[(3,.v (.int .i64 0)),(6,.rs .int bY),(7,.v (.int .i64 (bY.length:Int))),(8,.v (.int .i64 (k_0:Int)))],[]⟩) (rb bY) pT bY.length () (bY.length≤bp) (fun _=>.ret) (fun x_0_0=>⟨[(2,.v (.int .i64 x_0_0))],[]⟩) st)else none),?_,?_⟩
 ·unfold ae Tryz.f44
  simp only[al,true_and,and_true]
  ·refine dl mixed am hG (by kernel_rfl) (fun _=>rfl) (bY.length:Int) rfl iD (fun hb0 k_0 s_0 hlt0 _ hw hc=>⟨L0,ah _,?_⟩) (fun hb0 s_0 hc=>?_)
   ·exact cg (jl [])
   ·exact ci (jl [])
 ·unfold ae Tryz.f44
  try unfold f9
  exact zq1
def bN (x:Holding)(y:Holding):Int:=(f9 ([(bW x.right y.right),(bW x.farm y.farm)]))
@[go_sem] def oG:List SV→Option Con:=(pD .holding fun x=>(pD .holding fun y=>(pE (.det True (.v (.int .i64 (bN x y)))))))
theorem tY:FnOk Tryz.prog 43 oG:=by
 have hG:ConsOk Tryz.prog (mkG [(44,fun l=>sR (du [.sl .int] l)),(45,fh)] []):=aw (cgc (yd.norm [.sl .int]) (cgc fW cg0)) cg0
 refine a7 [.o] mixed am hG (fn:=Tryz.f43) (c:=ae Tryz.f43) (by kernel_rfl) (by kernel_rfl) (by kernel_rfl) (by kernel_rfl) (a8 fun x=>(a8 fun y=>(aH (fun hp=>?_))))
 dsimp only[aD]at hp
 refine⟨Nat.le_of_ble_eq_true rfl,L0,ah _,?_⟩
 ·unfold ae Tryz.f43
  try unfold bN
  exact zq1
end Go.Sx
end
section
namespace Go.Sx
open Go.Proofs
theorem mJ (x y:Int):bW x y=if x<y then -1 else if x > y then 1 else 0:=by
 unfold bW gn
 simp[Bool.cond_eq_ite]
theorem DD (x:Int)(l:List Int):f9 (x::l)=if x=0 then f9 l else x:=by
 have key:∀ l:List Int,f9 l=match dN (ρ:=Int) (fun(x:Int) (_:Unit) =>bif(x !=0)then .inl x else .inr ()) l ()with| .inl y=>y| .inr _=>0:=fun l=>by
  unfold f9
  have:=n_ (ρ:=Int) (fun(x:Int) (_:Unit) =>bif(x !=0)then .inl x else .inr ()) 0 l ()
  rw[←this]
  rfl
 rw[key,key]
 simp only[dN]
 by_cases h:x=0
 ·subst h;rfl
 ·have:(x !=0)=true:=by simpa using h
  rw[if_neg h,this];rfl
theorem Gh:f9 []=0:=rfl
def lE:List (Int×Int)→Prop
 | [] =>False
 |(a,b)::r=>a<b∨a=b∧lE r
theorem yW:∀ l:List (Int×Int),(f9 (l.map fun p=>bW p.1 p.2) <0↔lE l)
 | [] =>by simp[Gh,lE]
 |(a,b)::r=>by
  have hc:=mJ a b
  simp only[List.map_cons,DD,hc,lE]
  rcases Int.lt_trichotomy a b with h|h|h
  ·simp[h]
  ·subst h
   simp only[Int.lt_irrefl,if_false,if_true,true_and,false_or,gt_iff_lt]
   exact yW r
  ·have h1:¬a<b:=by omega
   have h2:a≠b:=by omega
   simp[h1,h2,h]
def hlt (a b:Holding):Prop:=lE [(a.right,b.right),(a.farm,b.farm)]
theorem xe (a b:Holding):bN a b<0↔hlt a b:=yW [(a.right,b.right),(a.farm,b.farm)]
open Go.Shelf Go.Sort in
theorem IF {α:Type}{f:α→α→Int}{r:α→α→Prop}(e:∀ x y,f x y<0↔r x y)(h1:∀ x,¬r x x)(h2:∀ x y z,r x y→r y z→r x z)(h3:∀ x y z,¬r x y→¬r y z→¬r x z):SWO (ltOf f):=by
 have e1:∀ x y,ltOf f x y=true↔r x y:=fun x y=>by unfold ltOf;rw[decide_eq_true_eq,e]
 have e2:∀ x y,ltOf f x y=false↔¬r x y:=fun x y=>by rw[←e1];simp
 exact⟨fun x=>(e2 x x).2 (h1 x),fun x y z a b=>(e1 x z).2 (h2 x y z ((e1 x y).1 a) ((e1 y z).1 b)),fun x y z a b=>(e2 x z).2 (h3 x y z ((e2 x y).1 a) ((e2 y z).1 b))⟩
open Go.Shelf Go.Sort in
theorem uF:SWO (ltOf bN):=IF xe (fun x=>by simp only[hlt,lE,and_false,or_false];omega) (fun x y z h1 h2=>by simp only[hlt,lE,and_false,or_false]at *;omega) (fun x y z h1 h2=>by simp only[hlt,lE,and_false,or_false]at *;omega)
end Go.Sx
end
section
namespace Go.Sx
open Go.Proofs
set_option maxRecDepth 100000
set_option linter.unusedSimpArgs false
def aF (n:Int)(lo:Int)(hi:Int):Bool:=((decide (n≥lo))&&(decide (n≤hi)))
@[go_sem] def kg:List SV→Option Con:=(pI fun n=>(pI fun lo=>(pI fun hi=>(pE (.det True (.v (.bool (aF n lo hi))))))))
theorem mg:FnOk Tryz.prog 39 kg:=by
 have hG:ConsOk Tryz.prog (mkG [] []):=aw cg0 cg0
 refine a7 [.o] mixed am hG (fn:=Tryz.f39) (c:=ae Tryz.f39) (by kernel_rfl) (by kernel_rfl) (by kernel_rfl) (by kernel_rfl) (bZ fun n=>(bZ fun lo=>(bZ fun hi=>(aH (fun hp=>?_)))))
 dsimp only[aD]at hp
 refine⟨Nat.le_of_ble_eq_true rfl,L0,ah _,?_⟩
 ·unfold ae Tryz.f39
  try unfold aF
  exact zq1
def iH (x:Deed):Bool:=(bif(x.kind==1)then(((x.parts.length:Int) ==0)&&(x.of_==0))else(bif(x.kind==2)then((x.to==0)&&(x.of_==0))else(bif(x.kind==3)then(((x.to==0)&&((x.parts.length:Int) ==0))&&(x.of_==0))else(bif(x.kind==4)then((((x.right==0)&&(x.since==0))&&(x.to==0))&&((x.parts.length:Int) ==0))else(((((x.right==0)&&(x.since==0))&&(x.to==0))&&((x.parts.length:Int) ==0))&&(x.of_==0))))))
@[go_sem] def oH:List SV→Option Con:=(pD .deed fun x=>(pE (.det True (.v (.bool (iH x))))))
theorem tZ:FnOk Tryz.prog 85 oH:=by
 have hG:ConsOk Tryz.prog (mkG [] []):=aw cg0 cg0
 refine a7 [.o] mixed am hG (fn:=Tryz.f85) (c:=ae Tryz.f85) (by kernel_rfl) (by kernel_rfl) (by kernel_rfl) (by kernel_rfl) (a8 fun x=>(aH (fun hp=>?_)))
 dsimp only[aD]at hp
 refine⟨Nat.le_of_ble_eq_true rfl,L0,ah _,?_⟩
 ·unfold ae Tryz.f85
  try unfold iH
  exact zq1
@[go_sem] def fo (d:District)(l_:List Part)(k_0:Nat)(s_0:Int×Int×List (Int×Bool)):Unit⊕(Int×Int×List (Int×Bool)):=(bif(((!(aF ((l_.getD k_0 (default:Part)).farm) 0 (IntKind.i64.wrap ((d.farms.length:Int) - 1)))) ||(bX .int .bool s_0.2.2 ((l_.getD k_0 (default:Part)).farm))) ||(decide ((l_.getD k_0 (default:Part)).share.n≤0)))then .inl ()else(bif((fb ({ n:=s_0.1,d:=s_0.2.1}:Ratio) ((l_.getD k_0 (default:Part)).share)).2 !=0)then .inl ()else .inr (((fb ({ n:=s_0.1,d:=s_0.2.1}:Ratio) ((l_.getD k_0 (default:Part)).share)).1).n,((fb ({ n:=s_0.1,d:=s_0.2.1}:Ratio) ((l_.getD k_0 (default:Part)).share)).1).d,(eS .int .bool s_0.2.2 ((l_.getD k_0 (default:Part)).farm) true))))
def iu (d:District)(l_:List Part)(k_0:Nat)(s_0:Int×Int×List (Int×Bool)):Prop:=(d.farms.length≤bp→((((!(aF ((l_.getD k_0 (default:Part)).farm) 0 (IntKind.i64.wrap ((d.farms.length:Int) - 1)))) ||(bX .int .bool s_0.2.2 ((l_.getD k_0 (default:Part)).farm))) ||(decide ((l_.getD k_0 (default:Part)).share.n≤0)))=false→(mI ({ n:=s_0.1,d:=s_0.2.1}:Ratio) ((l_.getD k_0 (default:Part)).share))))
def gR (d:District)(l_:List Part):Bool:=(match ap (fo d l_) l_.length 0 (0,1,[])with| .inl x_0_0=>false| .inr s_0=>((aF (l_.length:Int) 1 16)&&((s_0.1==1)&&(s_0.2.1==1))))
def ic (d:District)(l_:List Part):Prop:=(l_.length≤bp→okI (fo d l_) (iu d l_) l_.length 0 (0,1,[]))
@[go_sem] def nF:List SV→Option Con:=(pD .district fun d=>(pR .part fun l_=>(pE (.det (ic d l_) (.v (.bool (gR d l_)))))))
theorem sS:FnOk Tryz.prog 86 nF:=by
 have hG:ConsOk Tryz.prog (mkG [(39,kg),(121,uE)] []):=aw (cgc mg (cgc Ai cg0)) cg0
 refine a7 [.o] mixed am hG (fn:=Tryz.f86) (c:=ae Tryz.f86) (by kernel_rfl) (by kernel_rfl) (by kernel_rfl) (by kernel_rfl) (a8 fun d=>(dY fun l_=>(aH (fun hp=>?_))))
 dsimp only[aD]at hp
 unfold ic at hp
 refine⟨Nat.le_of_ble_eq_true rfl,(fun id st=>bif Nat.beq id 0 then some (LCR (ρ:=Unit) (σ:=(Int×Int×List (Int×Bool))) 3 [] [0,1,2] (fun k_0 s_0=>⟨[(1,.rs .part l_),(2,.ptr 0 0),(5,.ptr 2 0),(6,.os 1),(13,.rs .part l_),(14,.v (.int .i64 (l_.length:Int))),(15,.v (.int .i64 (k_0:Int)))],[.cells (cellsOf .district d),.mp .int .bool s_0.2.2 none,.cells [.v (.int .i64 s_0.1),.v (.int .i64 s_0.2.1)]]⟩) (fo d l_) (iu d l_) l_.length (0,1,[]) (l_.length≤bp) (fun _=>.ret) (fun x_0_0=>⟨[(4,.v (.bool false))],[.dead,.dead,.dead]⟩) st)else none),?_,?_⟩
 ·unfold ae Tryz.f86
  simp only[al,true_and,and_true]
  ·refine dl mixed am hG (by kernel_rfl) (fun _=>rfl) (l_.length:Int) rfl iD (fun hb0 k_0 s_0 hlt0 hq0 hw hc=>⟨L0,ah _,?_⟩) (fun hb0 s_0 hc=>?_)
   ·unfold iu at hq0
    try simp only[hw,Int.toNat_natCast]at hq0
    exact cg (jl [0,1,2])
   ·exact ci (jl [0,1,2])
 ·unfold ae Tryz.f86
  try unfold gR
  exact zq1
def cA (a0:District)(a1:List (Int×Deed))(a2:Deed):Bool:=(bif((((!(aF a2.no 0 1048576)) ||(!(aF a2.at_ 0 4096))) ||(!(aF a2.known 0 1048576))) ||(!(iH a2)))then false else(bif(a2.kind==1)then(((((aF a2.right 0 (IntKind.i64.wrap ((a0.rights.length:Int) - 1)))&&((a0.rights.getD (Int.toNat a2.right) (default:Right)).kind==1))&&(aF a2.since 0 (IntKind.i64.wrap ((a0.farms.length:Int) - 1))))&&(aF a2.to 0 (IntKind.i64.wrap ((a0.farms.length:Int) - 1))))&&(a2.to !=a2.since))else(bif(a2.kind==2)then((((aF a2.right 0 (IntKind.i64.wrap ((a0.rights.length:Int) - 1)))&&((a0.rights.getD (Int.toNat a2.right) (default:Right)).kind==1))&&(aF a2.since 0 (IntKind.i64.wrap ((a0.farms.length:Int) - 1))))&&(gR a0 a2.parts))else(bif(a2.kind==3)then(((aF a2.right 0 (IntKind.i64.wrap ((a0.rights.length:Int) - 1)))&&((a0.rights.getD (Int.toNat a2.right) (default:Right)).kind==1))&&(aF a2.since 0 (IntKind.i64.wrap ((a0.farms.length:Int) - 1))))else(bif(a2.kind==4)then(((oS .int .deed a1 a2.of_)&&((bX .int .deed a1 a2.of_).kind !=4))&&(decide (a2.known≥(bX .int .deed a1 a2.of_).known)))else false)))))
def iQ (a0:District)(a1:List (Int×Deed))(a2:Deed):Prop:=(((((!(aF a2.no 0 1048576)) ||(!(aF a2.at_ 0 4096))) ||(!(aF a2.known 0 1048576))) ||(!(iH a2)))=false→(a0.farms.length≤bp→(a0.rights.length≤bp→(((aF a2.right 0 (IntKind.i64.wrap ((a0.rights.length:Int) - 1)))=true→(0≤a2.right∧a2.right< (a0.rights.length:Int)))∧((a2.kind==1)=false→((a2.kind==2)=true→((((aF a2.right 0 (IntKind.i64.wrap ((a0.rights.length:Int) - 1)))&&((a0.rights.getD (Int.toNat a2.right) (default:Right)).kind==1))&&(aF a2.since 0 (IntKind.i64.wrap ((a0.farms.length:Int) - 1))))=true→(ic a0 a2.parts))))))))
@[go_sem] def oI:List SV→Option Con:=(pD .district fun a0=>(pM .int .deed fun a1=>(pD .deed fun a2=>(pE (.det (iQ a0 a1 a2) (.v (.bool (cA a0 a1 a2))))))))
theorem t6:FnOk Tryz.prog 49 oI:=by
 have hG:ConsOk Tryz.prog (mkG [(39,kg),(85,fun l=>oH (du [.st .deed] l)),(86,fun l=>nF (du [.st .district,.sl .part] l))] []):=aw (cgc mg (cgc (tZ.norm [.st .deed]) (cgc (sS.norm [.st .district,.sl .part]) cg0))) cg0
 refine a7 [.o] mixed am hG (fn:=Tryz.f49) (c:=ae Tryz.f49) (by kernel_rfl) (by kernel_rfl) (by kernel_rfl) (by kernel_rfl) (a8 fun a0=>(Oq fun a1=>(a8 fun a2=>(aH (fun hp=>?_)))))
 dsimp only[aD]at hp
 unfold iQ at hp
 refine⟨Nat.le_of_ble_eq_true rfl,L0,ah _,?_⟩
 ·unfold ae Tryz.f49
  try unfold cA
  exact zq1
def cL (x:Deed):Bool:=(decide ((x.parts.length:Int) > 16))
@[go_sem] def mh:List SV→Option Con:=(pD .deed fun x=>(pE (.det True (.v (.bool (cL x))))))
theorem qA:FnOk Tryz.prog 48 mh:=by
 have hG:ConsOk Tryz.prog (mkG [] []):=aw cg0 cg0
 refine a7 [.o] mixed am hG (fn:=Tryz.f48) (c:=ae Tryz.f48) (by kernel_rfl) (by kernel_rfl) (by kernel_rfl) (by kernel_rfl) (a8 fun x=>(aH (fun hp=>?_)))
 dsimp only[aD]at hp
 refine⟨Nat.le_of_ble_eq_true rfl,L0,ah _,?_⟩
 ·unfold ae Tryz.f48
  try unfold cL
  exact zq1
@[go_sem] def bL (s_:List Deed)(k_0:Nat)(s_0:Unit):Int⊕Unit:=(bif(cL (s_.getD k_0 (default:Deed)))then .inl (k_0:Int)else .inr ())
def cF (s_:List Deed):Int:=(match ap (bL s_) s_.length 0 ()with| .inl x_0_0=>x_0_0| .inr s_0=>(-1))
@[go_sem] def dm:List SV→Option Con:=(pR .deed fun s_=>(pFn 48 (pE ((pE (.det True (.v (.int .i64 (cF s_)))))))))
theorem ev:FnOk Tryz.prog 84 dm:=by
 have hG:ConsOk Tryz.prog (mkG [(48,fun l=>mh (du [.st .deed] l))] []):=aw (cgc (qA.norm [.st .deed]) cg0) cg0
 refine a7 [.o] mixed am hG (fn:=Tryz.f84) (c:=ae Tryz.f84) (by kernel_rfl) (by kernel_rfl) (by kernel_rfl) (by kernel_rfl) (dY fun s_=>(sH (aH ((aH (fun hp=>?_))))))
 dsimp only[aD]at hp
 refine⟨Nat.le_of_ble_eq_true rfl,(fun id st=>bif Nat.beq id 0 then some (LCR (ρ:=Int) (σ:=Unit) 0 [] [] (fun k_0 s_0=>⟨[(0,.rs .deed s_),(1,.fn 48 [] []),(7,.v (.int .i64 (s_.length:Int))),(8,.v (.int .i64 (k_0:Int)))],[]⟩) (bL s_) pT s_.length () (s_.length≤bp) (fun _=>.ret) (fun x_0_0=>⟨[(4,.v (.int .i64 x_0_0))],[]⟩) st)else none),?_,?_⟩
 ·unfold ae Tryz.f84
  simp only[al,true_and,and_true]
  ·refine dl mixed am hG (by kernel_rfl) (fun _=>rfl) (s_.length:Int) rfl iD (fun hb0 k_0 s_0 hlt0 _ hw hc=>⟨L0,ah _,?_⟩) (fun hb0 s_0 hc=>?_)
   ·exact cg (jl [])
   ·exact ci (jl [])
 ·unfold ae Tryz.f84
  try unfold cF
  exact zq1
@[go_sem] noncomputable def df:List SV→Option Con:=fun l=>(dm l)
theorem gS:FnOk Tryz.prog 84 df:=ev
def aV (s_:List Deed):Bool:=(decide ((cF s_)≥0))
@[go_sem] def d7:List SV→Option Con:=(pR .deed fun s_=>(pFn 48 (pE ((pE (.det True (.v (.bool (aV s_)))))))))
theorem zq71 {p:Prop}(h:p:=by simp only[go_sem,Nat.reduceBEq,Nat.reduceLeDiff,Nat.reduceLT,decide_true,Nat.reduceAdd,Nat.reduceSub,Nat.reduceMul,Int.reduceLE,Int.reduceLT,Int.reduceToNat,Int.reduceNeg,reduceCtorEq,df];all_goals exact cl):p:=h
theorem gw:FnOk Tryz.prog 47 d7:=by
 have hG:ConsOk Tryz.prog (mkG [(84,fun l=>df (du [.sl .deed,.o] l))] []):=aw (cgc (gS.norm [.sl .deed,.o]) cg0) cg0
 refine a7 [.o] mixed am hG (fn:=Tryz.f47) (c:=ae Tryz.f47) (by kernel_rfl) (by kernel_rfl) (by kernel_rfl) (by kernel_rfl) (dY fun s_=>(sH (aH ((aH (fun hp=>?_))))))
 dsimp only[aD]at hp
 refine⟨Nat.le_of_ble_eq_true rfl,L0,ah _,?_⟩
 ·unfold ae Tryz.f47
  try unfold aV
  exact zq71
@[go_sem] def dP (d:District)(l_:List Deed)(k_0:Nat)(s_0:List (Int×Deed)):Unit⊕(List (Int×Deed)):=(bif(((decide ((k_0:Int) > 0))&&(decide ((l_.getD k_0 (default:Deed)).no≤(l_.getD (Int.toNat (IntKind.i64.wrap ((k_0:Int) - 1))) (default:Deed)).no))) ||(!(cA d s_0 (l_.getD k_0 (default:Deed)))))then .inl ()else .inr (eS .int .deed s_0 ((l_.getD k_0 (default:Deed)).no) (l_.getD k_0 (default:Deed))))
def iv (d:District)(l_:List Deed)(k_0:Nat)(s_0:List (Int×Deed)):Prop:=(((decide ((k_0:Int) > 0))=true→(0≤(IntKind.i64.wrap ((k_0:Int) - 1))∧(IntKind.i64.wrap ((k_0:Int) - 1)) < (l_.length:Int)))∧(((decide ((k_0:Int) > 0))&&(decide ((l_.getD k_0 (default:Deed)).no≤(l_.getD (Int.toNat (IntKind.i64.wrap ((k_0:Int) - 1))) (default:Deed)).no)))=false→(iQ d s_0 (l_.getD k_0 (default:Deed)))))
def aJ (d:District)(l_:List Deed):Int:=(bif((aC d) !=0)then(aC d)else(bif((decide ((l_.length:Int) > 512)) ||(aV l_))then 2 else(match ap (dP d l_) l_.length 0 ([])with| .inl x_0_0=>250| .inr s_0=>0)))
def fK (d:District)(l_:List Deed):Prop:=(((aC d) !=0)=false→(l_.length≤bp→(((decide ((l_.length:Int) > 512)) ||(aV l_))=false→(l_.length≤bp→okI (dP d l_) (iv d l_) l_.length 0 ([])))))
@[go_sem] def j6:List SV→Option Con:=(pD .district fun d=>(pR .deed fun l_=>(pE (.det (fK d l_) (.v (.int .i64 (aJ d l_)))))))
theorem mK:FnOk Tryz.prog 26 j6:=by
 have hG:ConsOk Tryz.prog (mkG [(34,fun l=>ju (du [.st .district] l)),(47,fun l=>d7 (du [.sl .deed,.o] l)),(49,fun l=>oI (du [.st .district,.mp .int .deed,.st .deed] l))] []):=aw (cgc (kY.norm [.st .district]) (cgc (gw.norm [.sl .deed,.o]) (cgc (t6.norm [.st .district,.mp .int .deed,.st .deed]) cg0))) cg0
 refine a7 [.o] mixed am hG (fn:=Tryz.f26) (c:=ae Tryz.f26) (by kernel_rfl) (by kernel_rfl) (by kernel_rfl) (by kernel_rfl) (a8 fun d=>(dY fun l_=>(aH (fun hp=>?_))))
 dsimp only[aD]at hp
 unfold fK at hp
 refine⟨Nat.le_of_ble_eq_true rfl,(fun id st=>bif Nat.beq id 0 then some (LCR (ρ:=Unit) (σ:=(List (Int×Deed))) 2 [] [0,1] (fun k_0 s_0=>⟨[(1,.rs .deed l_),(2,.ptr 0 0),(5,.os 1),(21,.rs .deed l_),(22,.v (.int .i64 (l_.length:Int))),(23,.v (.int .i64 (k_0:Int)))],[.cells (cellsOf .district d),.mp .int .deed s_0 none]⟩) (dP d l_) (iv d l_) l_.length ([]) (l_.length≤bp) (fun _=>.ret) (fun x_0_0=>⟨[(4,.v (.int .i64 250))],[.dead,.dead]⟩) st)else none),?_,?_⟩
 ·unfold ae Tryz.f26
  simp only[al,true_and,and_true]
  ·refine dl mixed am hG (by kernel_rfl) (fun _=>rfl) (l_.length:Int) rfl iD (fun hb0 k_0 s_0 hlt0 hq0 hw hc=>⟨L0,ah _,?_⟩) (fun hb0 s_0 hc=>?_)
   ·unfold iv at hq0
    try simp only[hw,Int.toNat_natCast]at hq0
    exact cg (jl [0,1])
   ·exact ci (jl [0,1])
 ·unfold ae Tryz.f26
  try unfold aJ
  exact zq1
end Go.Sx
end
section
namespace Go.Sx
open Go.RowKit
def pXM {α:Type 1}(t t2:Tag)(k:List (t.T×t2.T)→List SV→Option α):List SV→Option α
 | .ep [s] 0::r=>pM t t2 k (s::r)
 |_=>none
@[go_sem] theorem SU {α:Type 1}{t t2:Tag}{k:List (t.T×t2.T)→List SV→Option α}{s:SV}{r:List SV}:pXM t t2 k (.ep [s] 0::r)=pM t t2 k (s::r):=(rfl)
theorem EW {α:Type 1}{G:List SV→α→Prop}{t t2:Tag}{k:List (t.T×t2.T)→List SV→Option α}(h:∀ n l c,k n l=some c→G (.ep [.rm t t2 n] 0::l) c):∀ l c,pXM t t2 k l=some c→G l c:=fun l c hc=>by
 unfold pXM at hc
 split at hc
 ·obtain⟨x,r,e,h1⟩:=H1 hc
  simp only[List.cons.injEq]at e
  obtain⟨rfl,rfl⟩:=e
  exact h x _ c h1
 ·cases hc
section
universe u
variable {α:Type u}{G:List SV→α→Prop}
def pLS (k:List SV→Option (List SV→Option α)):List SV→Option α
 | .ls l::r=>apO (k l) r
 |_=>none
@[go_sem] theorem Vw {k:List SV→Option (List SV→Option α)}{l r:List SV}:pLS k (.ls l::r)=apO (k l) r:=(rfl)
end
end Go.Sx
end
section
namespace Go.Sx
open Go.RowKit
open Classical in
noncomputable def gz {τ:Type}(A:τ→List SV)(H:τ→List Ob)(K:τ→HCon):List SV→List Ob→Option HCon:=fun l h=>if e:∃ x,l=A x∧h=H x then some (K e.choose)else none
theorem IG (x:Deed):(⟨x.no,x.kind,x.right,x.since,x.to,x.parts,x.of_,x.at_,x.known⟩:Deed)=x:=rfl
theorem Aj (d:District):(⟨d.name,d.hours,⟨d.tank.cap,d.tank.start⟩,d.reaches,d.farms,d.crops,d.rights,d.duties,d.wells⟩:District)=d:=rfl
theorem Gi {k:Tag}{x y:k.T}:cellsOf k x=cellsOf k y↔x=y:=⟨fun h=>by
 have h1:=qf x
 rw[h,qf y]at h1
 exact(Option.some.inj h1).symm,fun h=>by rw[h]⟩
theorem eO {τ:Type}{A:τ→List SV}{H:τ→List Ob}{K:τ→HCon}{x:τ}(inj:∀ x y,A x=A y→H x=H y→x=y:=by
 intro x y h1 h2
 simp only[List.cons.injEq,SV.agg.injEq,SV.ep.injEq,SV.v.injEq,Value.int.injEq,Value.bool.injEq,Value.string.injEq,SV.fn.injEq,SV.rs.injEq,SV.rm.injEq,Ob.row.injEq,Ob.mp.injEq,Ob.cells.injEq,Ob.grid.injEq,heq_eq_eq,Gi,true_and,and_true]at h1 h2
 first|exact h2|exact h1|(simp_all [Prod.ext_iff];done)):gz A H K (A x) (H x)=some (K x):=by
 have e:∃ y,A x=A y∧H x=H y:=⟨x,rfl,rfl⟩
 unfold gz
 rw[dif_pos e]
 have:=inj _ _ e.choose_spec.1 e.choose_spec.2
 rw[←this]
theorem dC {τ:Type}{A:τ→List SV}{H:τ→List Ob}{K:τ→HCon}{l:List SV}{h:List Ob}{c:HCon}(hh:gz A H K l h=some c):∃ x,l=A x∧h=H x∧c=K x:=by
 unfold gz at hh
 split at hh
 ·rename_i e
  simp only[Option.some.injEq]at hh
  exact⟨e.choose,e.choose_spec.1,e.choose_spec.2,hh.symm⟩
 ·cases hh
end Go.Sx
end
section
namespace Go.Sx
open Go.Proofs
set_option maxRecDepth 100000
set_option linter.unusedSimpArgs false
@[go_sem] def ln:List SV→Option Con:=pR .deed fun l=>pE (.det (l.length*88≤eZ) (.nw .deed l))
theorem pJ:FnOk Tryz.prog 72 ln:=by
 have hG:ConsOk Tryz.prog (mkG [] []):=aw cg0 cg0
 refine oc [(.tmp 2,.deed)] mixed am hG (fn:=Tryz.f72) (c:=ae Tryz.f72) (by kernel_rfl) (by kernel_rfl) (by kernel_rfl) (by kernel_rfl) (dY fun l=>aH fun hp=>?_)
 dsimp only[aD]at hp
 refine⟨Nat.le_of_ble_eq_true rfl,L0,ah _,?_⟩
 unfold ae Tryz.f72
 simp only[go_sem,Nat.reduceBEq,Nat.reduceLeDiff,Nat.reduceAdd,Nat.reduceSub,Nat.reduceMul,Int.reduceLE,Int.reduceLT,Int.reduceToNat,Int.reduceNeg,reduceCtorEq]
 intro b hb
 refine⟨fun h=>?_,fun _=>⟨hp,fun _=>rfl⟩⟩
 have hl:=hb h
 subst hl
 rfl
end Go.Sx
end
section
namespace Go.Sx
open Go.Proofs
set_option maxRecDepth 100000
set_option linter.unusedSimpArgs false
theorem gh {l0 l1:List Nat}(a0:JL l0)(a1:JL l1){p:Prop}(h:JL l0→JL l1→p:=by intro ja jb;(first|done|(repeat' (first|with_reducible refine And.intro ?_ ?_|((with_reducible show _≠_);first|assumption|omega|(simp_all [eC,e_];done) |grind) |with_reducible intro _)) <;>(first|done|with_reducible exact Empty.elim ‹Empty› |with_reducible assumption|rfl|omega|assumption|decide|exact fk ja|exact fk jb|exact czl|(simp only[*,cond_true,cond_false,Bool.not_true,Bool.not_false,go_sem,Nat.reduceBEq,Nat.reduceLeDiff,Nat.reduceLT,decide_true,Nat.reduceAdd,Nat.reduceSub,Nat.reduceMul,Int.reduceLE,Int.reduceLT,Int.reduceToNat,Int.reduceNeg,reduceCtorEq];(repeat' (first|with_reducible refine And.intro ?_ ?_|((with_reducible show _≠_);first|assumption|omega|(simp_all [eC,e_];done) |grind) |with_reducible intro _)) <;>(first|done|assumption|rfl|omega|decide|exact fk ja|exact fk jb|(simp_all [eC,e_];done))) |(simp_all [okI,eC,e_];done) |(simp_all [eC,e_];(first|done|exact fk2 ja|exact fk2 jb)) |exact fk2 ja|exact fk2 jb))):p:=h a0 a1
def aQ (x:Deed)(known:Int)(hour:Int)(void_:List (Int×Bool)):Bool:=((((x.kind==4) ||(decide (x.known > known))) ||(decide (x.at_ > hour))) ||(bX .int .bool void_ x.no))
@[go_sem] def gA:List SV→Option Con:=(pD .deed fun x=>(pX .int fun known=>(pX .int fun hour=>(pXM .int .bool fun void_=>(pE (.det True (.v (.bool (aQ x known hour void_)))))))))
theorem jx:FnOk Tryz.prog 73 gA:=by
 have hG:ConsOk Tryz.prog (mkG [] []):=aw cg0 cg0
 refine a7 [.o] mixed am hG (fn:=Tryz.f73) (c:=ae Tryz.f73) (by kernel_rfl) (by kernel_rfl) (by kernel_rfl) (by kernel_rfl) (a8 fun x=>(pd fun known=>(pd fun hour=>(EW fun void_=>(aH (fun hp=>?_))))))
 dsimp only[aD]at hp
 refine⟨Nat.le_of_ble_eq_true rfl,L0,ah _,?_⟩
 ·unfold ae Tryz.f73
  try unfold aQ
  exact zq1
def cp (a:Deed)(b:Deed):Int:=(bW a.at_ b.at_)
@[go_sem] def gB:List SV→Option Con:=(pD .deed fun a=>(pD .deed fun b=>(pE (.det True (.v (.int .i64 (cp a b)))))))
theorem jy:FnOk Tryz.prog 75 gB:=by
 have hG:ConsOk Tryz.prog (mkG [(45,fh)] []):=aw (cgc fW cg0) cg0
 refine a7 [.o] mixed am hG (fn:=Tryz.f75) (c:=ae Tryz.f75) (by kernel_rfl) (by kernel_rfl) (by kernel_rfl) (by kernel_rfl) (a8 fun a=>(a8 fun b=>(aH (fun hp=>?_))))
 dsimp only[aD]at hp
 refine⟨Nat.le_of_ble_eq_true rfl,L0,ah _,?_⟩
 ·unfold ae Tryz.f75
  try unfold cp
  exact zq1
@[go_sem] def cV (s_:List Deed)(known:Int)(hour:Int)(void_:List (Int×Bool))(k_0:Nat)(s_0:Unit):Int⊕Unit:=(bif(aQ (s_.getD k_0 (default:Deed)) known hour void_)then .inl (k_0:Int)else .inr ())
def ai (s_:List Deed)(known:Int)(hour:Int)(void_:List (Int×Bool)):Int:=(match ap (cV s_ known hour void_) s_.length 0 ()with| .inl x_0_0=>x_0_0| .inr s_0=>(-1))
@[go_sem] def eo:List SV→Option Con:=(pR .deed fun s_=>(pFn 73 (pX .int fun known=>(pX .int fun hour=>(pXM .int .bool fun void_=>(pE ((pE (.det True (.v (.int .i64 (ai s_ known hour void_))))))))))))
theorem gH:FnOk Tryz.prog 84 eo:=by
 have hG:ConsOk Tryz.prog (mkG [(73,fun l=>gA (du [.st .deed,.o,.o,.o] l))] []):=aw (cgc (jx.norm [.st .deed,.o,.o,.o]) cg0) cg0
 refine a7 [.o] mixed am hG (fn:=Tryz.f84) (c:=ae Tryz.f84) (by kernel_rfl) (by kernel_rfl) (by kernel_rfl) (by kernel_rfl) (dY fun s_=>(sH (pd fun known=>(pd fun hour=>(EW fun void_=>(aH ((aH (fun hp=>?_)))))))))
 dsimp only[aD]at hp
 refine⟨Nat.le_of_ble_eq_true rfl,(fun id st=>bif Nat.beq id 0 then some (LCR (ρ:=Int) (σ:=Unit) 0 [] [] (fun k_0 s_0=>⟨[(0,.rs .deed s_),(1,.fn 73 [] [.ep [.v (.int .i64 known)] 0,.ep [.v (.int .i64 hour)] 0,.ep [.rm .int .bool void_] 0]),(7,.v (.int .i64 (s_.length:Int))),(8,.v (.int .i64 (k_0:Int)))],[]⟩) (cV s_ known hour void_) pT s_.length () (s_.length≤bp) (fun _=>.ret) (fun x_0_0=>⟨[(4,.v (.int .i64 x_0_0))],[]⟩) st)else none),?_,?_⟩
 ·unfold ae Tryz.f84
  simp only[al,true_and,and_true]
  ·refine dl mixed am hG (by kernel_rfl) (fun _=>rfl) (s_.length:Int) rfl iD (fun hb0 k_0 s_0 hlt0 _ hw hc=>⟨L0,ah _,?_⟩) (fun hb0 s_0 hc=>?_)
   ·exact cg (jl [])
   ·exact ci (jl [])
 ·unfold ae Tryz.f84
  try unfold ai
  exact zq1
@[go_sem] noncomputable def dg:List SV→Option Con:=fun l=>(orC (dm l) (eo l))
theorem gT:FnOk Tryz.prog 84 dg:=(FnOk.or ev gH)
@[go_sem] def aK (l_:List Deed)(known:Int)(hour:Int)(void_:List (Int×Bool))(k_0:Nat)(s_0:List Deed×Int×Int):(Int×List Deed)⊕(List Deed×Int×Int):=(bif(decide (s_0.2.2< (s_0.1.length:Int)))then(bif(!(aQ (s_0.1.getD (Int.toNat s_0.2.2) (default:Deed)) known hour void_))then .inr ((s_0.1.set (Int.toNat s_0.2.1) (s_0.1.getD (Int.toNat s_0.2.2) (default:Deed))),(IntKind.i64.wrap (s_0.2.1+1)),(IntKind.i64.wrap (s_0.2.2+1)))else .inr (s_0.1,s_0.2.1,(IntKind.i64.wrap (s_0.2.2+1))))else .inl (s_0.2.1,s_0.1))
def bC (l_:List Deed)(known:Int)(hour:Int)(void_:List (Int×Bool))(k_0:Nat)(s_0:List Deed×Int×Int):Prop:=(s_0.1.length≤bp→((decide (s_0.2.2< (s_0.1.length:Int)))=true→((0≤s_0.2.2∧s_0.2.2< (s_0.1.length:Int))∧((!(aQ (s_0.1.getD (Int.toNat s_0.2.2) (default:Deed)) known hour void_))=true→(0≤s_0.2.1∧s_0.2.1< (s_0.1.length:Int))))))
def aT (l_:List Deed)(known:Int)(hour:Int)(void_:List (Int×Bool)):List Deed:=(bif((ai l_ known hour void_) ==(-1))then l_ else(match ap (aK l_ known hour void_) (l_.length+1) 0 (l_,(ai l_ known hour void_),(IntKind.i64.wrap ((ai l_ known hour void_)+1)))with| .inl x_0_0=>(((vR .deed x_0_0.2 x_0_0.1 (x_0_0.2.length:Int)).take (Int.toNat x_0_0.1)).drop 0) | .inr s_0=>default))
def aW (l_:List Deed)(known:Int)(hour:Int)(void_:List (Int×Bool)):Prop:=(((ai l_ known hour void_) ==(-1))=false→(okI (aK l_ known hour void_) (bC l_ known hour void_) (l_.length+1) 0 (l_,(ai l_ known hour void_),(IntKind.i64.wrap ((ai l_ known hour void_)+1)))∧(∀ z_,ap (aK l_ known hour void_) (l_.length+1) 0 (l_,(ai l_ known hour void_),(IntKind.i64.wrap ((ai l_ known hour void_)+1)))≠ .inr z_)∧(∀ x_0_0,ap (aK l_ known hour void_) (l_.length+1) 0 (l_,(ai l_ known hour void_),(IntKind.i64.wrap ((ai l_ known hour void_)+1)))=.inl x_0_0→((0≤x_0_0.1∧x_0_0.1≤(x_0_0.2.length:Int))∧(0≤0∧0≤x_0_0.1∧x_0_0.1≤((vR .deed x_0_0.2 x_0_0.1 (x_0_0.2.length:Int)).length:Int))))))
noncomputable def dh:List SV→List Ob→Option HCon:=gz (fun x_:(List Deed)×Int×Int×(List (Int×Bool)) =>[.os 0,.fn 73 [] [.ptr 1 0,.ptr 2 0,.ptr 3 0]]) (fun x_=>[.row .deed x_.1,.cells [.v (.int .i64 x_.2.1)],.cells [.v (.int .i64 x_.2.2.1)],.cells [.os 4],.mp .int .bool x_.2.2.2 none]) (fun x_=>eD (aW x_.1 x_.2.1 x_.2.2.1 x_.2.2.2) (.os 5) [.dead,.cells [.v (.int .i64 x_.2.1)],.cells [.v (.int .i64 x_.2.2.1)],.cells [.os 4],.mp .int .bool x_.2.2.2 none,.row .deed (aT x_.1 x_.2.1 x_.2.2.1 x_.2.2.2)])
@[go_sem] theorem oN (l_:List Deed)(known:Int)(hour:Int)(void_:List (Int×Bool)){p4_:Option (Nat×Option Tag.int.T)}(hp4_:p4_=none):dh ([.os 0,.fn (73:Nat) [] [.ptr 1 0,.ptr 2 0,.ptr 3 0]]) ([.row .deed l_,.cells [.v (.int .i64 known)],.cells [.v (.int .i64 hour)],.cells [.os 4],.mp .int .bool void_ p4_])=some (eD (aW l_ known hour void_) (.os 5) [.dead,.cells [.v (.int .i64 known)],.cells [.v (.int .i64 hour)],.cells [.os 4],.mp .int .bool void_ none,.row .deed (aT l_ known hour void_)]):=by
 subst hp4_;exact eO (A:=fun x_:(List Deed)×Int×Int×(List (Int×Bool)) =>[.os 0,.fn 73 [] [.ptr 1 0,.ptr 2 0,.ptr 3 0]]) (H:=fun x_=>[.row .deed x_.1,.cells [.v (.int .i64 x_.2.1)],.cells [.v (.int .i64 x_.2.2.1)],.cells [.os 4],.mp .int .bool x_.2.2.2 none]) (K:=fun x_=>eD (aW x_.1 x_.2.1 x_.2.2.1 x_.2.2.2) (.os 5) [.dead,.cells [.v (.int .i64 x_.2.1)],.cells [.v (.int .i64 x_.2.2.1)],.cells [.os 4],.mp .int .bool x_.2.2.2 none,.row .deed (aT x_.1 x_.2.1 x_.2.2.1 x_.2.2.2)]) (x:=(l_,known,hour,void_))
theorem zq76 {l0 l1:List Nat}(a0:JL l0)(a1:JL l1){p:Prop}(h:JL l0→JL l1→p:=by intro ja jb;simp only[go_sem,Nat.reduceBEq,Nat.reduceLeDiff,Nat.reduceLT,decide_true,Nat.reduceAdd,Nat.reduceSub,Nat.reduceMul,Int.reduceLE,Int.reduceLT,Int.reduceToNat,Int.reduceNeg,reduceCtorEq,dg];all_goals exact gh ja jb):p:=h a0 a1
theorem gW:FnOkO Tryz.prog 71 (dh):=by
 have hG:ConsOk Tryz.prog (mkG [(73,fun l=>gA (du [.st .deed,.o,.o,.o] l)),(84,fun l=>dg (du [.sl .deed,.o] l))] []):=aw (cgc (jx.norm [.st .deed,.o,.o,.o]) (cgc (gT.norm [.sl .deed,.o]) cg0)) cg0
 refine fH mixed am hG (fn:=Tryz.f71) (c:=ae Tryz.f71) (by kernel_rfl) (by kernel_rfl) (by kernel_rfl) (by kernel_rfl) fun l o con h=>?_
 obtain⟨⟨l_,known,hour,void_⟩,rfl,rfl,rfl⟩:=dC h
 clear h
 try dsimp only
 refine⟨_,_,_,rfl,fun hp=>?_⟩
 unfold aW at hp
 refine⟨Nat.le_of_ble_eq_true rfl,(fun id st=>bif Nat.beq id 0 then some (LCV (ρ:=(Int×List Deed)) (σ:=(List Deed×Int×Int)) 5 [] [0,1,2,3,4] (fun k_0 s_0=>⟨[(0,.os 0),(1,.fn 73 [] [.ptr 1 0,.ptr 2 0,.ptr 3 0]),(5,.v (.int .i64 s_0.2.1)),(6,.v (.int .i64 s_0.2.2))],[.row .deed s_0.1,.cells [.v (.int .i64 known)],.cells [.v (.int .i64 hour)],.cells [.os 4],.mp .int .bool void_ none]⟩) (aK l_ known hour void_) (bC l_ known hour void_) (l_.length+1) (l_,(ai l_ known hour void_),(IntKind.i64.wrap ((ai l_ known hour void_)+1))) (fun _=>.normal) (fun x_0_0=>⟨[(0,.os 0),(5,.v (.int .i64 x_0_0.1))],[.row .deed x_0_0.2,.cells [.v (.int .i64 known)],.cells [.v (.int .i64 hour)],.cells [.os 4],.mp .int .bool void_ none]⟩) st)else none),?_,?_⟩
 ·unfold ae Tryz.f71
  simp only[al,true_and,and_true,and_assoc]
  ·refine eV mixed am hG (by kernel_rfl) (fun _=>rfl) fun k_0 s_0 hq0=>⟨L0,ah _,?_⟩
   ·unfold bC at hq0
    exact cG (jl [0,1,2,3,4])
 ·unfold ae Tryz.f71
  try unfold aT
  exact zq76 (jl [0,1,2,3,4,0]) (jl [0,1,2,3,4,5])
end Go.Sx
end
section
namespace Go.Sx
open Go.Proofs
set_option maxRecDepth 100000
set_option linter.unusedSimpArgs false
@[go_sem] def aG (a:Int)(l_:List Deed)(k_1:Nat)(s_1:List Deed×Int):(List Deed)⊕(List Deed×Int):=(bif((decide (s_1.2 > a))&&(decide ((cp (s_1.1.getD (Int.toNat s_1.2) (default:Deed)) (s_1.1.getD (Int.toNat (IntKind.i64.wrap (s_1.2 - 1))) (default:Deed))) <0)))then .inr (((s_1.1.set (Int.toNat s_1.2) (s_1.1.getD (Int.toNat (IntKind.i64.wrap (s_1.2 - 1))) (default:Deed))).set (Int.toNat (IntKind.i64.wrap (s_1.2 - 1))) (s_1.1.getD (Int.toNat s_1.2) (default:Deed))),(IntKind.i64.wrap (s_1.2 - 1)))else .inl s_1.1)
def aY (a:Int)(l_:List Deed)(k_1:Nat)(s_1:List Deed×Int):Prop:=(((decide (s_1.2 > a))=true→(0≤s_1.2∧s_1.2< (s_1.1.length:Int)))∧(((decide (s_1.2 > a))=true→(0≤(IntKind.i64.wrap (s_1.2 - 1))∧(IntKind.i64.wrap (s_1.2 - 1)) < (s_1.1.length:Int)))∧(((decide (s_1.2 > a))&&(decide ((cp (s_1.1.getD (Int.toNat s_1.2) (default:Deed)) (s_1.1.getD (Int.toNat (IntKind.i64.wrap (s_1.2 - 1))) (default:Deed))) <0)))=true→((0≤(IntKind.i64.wrap (s_1.2 - 1))∧(IntKind.i64.wrap (s_1.2 - 1)) < (s_1.1.length:Int))∧((0≤s_1.2∧s_1.2< (s_1.1.length:Int))∧((0≤s_1.2∧s_1.2< (s_1.1.length:Int))∧(0≤(IntKind.i64.wrap (s_1.2 - 1))∧(IntKind.i64.wrap (s_1.2 - 1)) < ((s_1.1.set (Int.toNat s_1.2) (s_1.1.getD (Int.toNat (IntKind.i64.wrap (s_1.2 - 1))) (default:Deed))).length:Int))))))))
@[go_sem] def az (a:Int)(b:Int)(l_:List Deed)(k_0:Nat)(s_0:List Deed×Int):(List Deed)⊕(List Deed×Int):=(bif(decide (s_0.2<b))then(match ap (aG a l_) (l_.length+1) 0 (s_0.1,s_0.2)with| .inl x_1_0=>.inr (x_1_0,(IntKind.i64.wrap (s_0.2+1))) | .inr s_1=>.inr default)else .inl s_0.1)
def aP (a:Int)(b:Int)(l_:List Deed)(k_0:Nat)(s_0:List Deed×Int):Prop:=((decide (s_0.2<b))=true→(okI (aG a l_) (aY a l_) (l_.length+1) 0 (s_0.1,s_0.2)∧(∀ z_,ap (aG a l_) (l_.length+1) 0 (s_0.1,s_0.2)≠ .inr z_)))
def ar (a:Int)(b:Int)(l_:List Deed):List Deed:=(match ap (az a b l_) (l_.length+1) 0 (l_,(IntKind.i64.wrap (a+1)))with| .inl x_0_0=>x_0_0| .inr s_0=>default)
def aL (a:Int)(b:Int)(l_:List Deed):Prop:=(okI (az a b l_) (aP a b l_) (l_.length+1) 0 (l_,(IntKind.i64.wrap (a+1)))∧(∀ z_,ap (az a b l_) (l_.length+1) 0 (l_,(IntKind.i64.wrap (a+1)))≠ .inr z_))
noncomputable def cX:List SV→List Ob→Option HCon:=gz (fun x_:Int×Int×(List Deed) =>[.os 0,.v (.int .i64 x_.1),.v (.int .i64 x_.2.1),.fn 75 [] []]) (fun x_=>[.row .deed x_.2.2]) (fun x_=>eD (aL x_.1 x_.2.1 x_.2.2) (.tup []) [.row .deed (ar x_.1 x_.2.1 x_.2.2)])
@[go_sem] theorem oJ (a:Int)(b:Int)(l_:List Deed):cX ([.os 0,.v (.int .i64 a),.v (.int .i64 b),.fn 75 [] []]) ([.row .deed l_])=some (eD (aL a b l_) (.tup []) [.row .deed (ar a b l_)]):=eO (A:=fun x_:Int×Int×(List Deed) =>[.os 0,.v (.int .i64 x_.1),.v (.int .i64 x_.2.1),.fn 75 [] []]) (H:=fun x_=>[.row .deed x_.2.2]) (K:=fun x_=>eD (aL x_.1 x_.2.1 x_.2.2) (.tup []) [.row .deed (ar x_.1 x_.2.1 x_.2.2)]) (x:=(a,b,l_))
theorem gI:FnOkO Tryz.prog 148 (cX):=by
 have hG:ConsOk Tryz.prog (mkG [(75,fun l=>gB (du [.st .deed,.st .deed] l))] []):=aw (cgc (jy.norm [.st .deed,.st .deed]) cg0) cg0
 refine fH mixed am hG (fn:=Tryz.f148) (c:=ae Tryz.f148) (by kernel_rfl) (by kernel_rfl) (by kernel_rfl) (by kernel_rfl) fun l o con h=>?_
 obtain⟨⟨a,b,l_⟩,rfl,rfl,rfl⟩:=dC h
 clear h
 try dsimp only
 refine⟨_,_,_,rfl,fun hp=>?_⟩
 unfold aL at hp
 refine⟨Nat.le_of_ble_eq_true rfl,(fun id st=>bif Nat.beq id 0 then some (LCV (ρ:=(List Deed)) (σ:=(List Deed×Int)) 1 [] [0] (fun k_0 s_0=>⟨[(0,.os 0),(1,.v (.int .i64 a)),(2,.v (.int .i64 b)),(3,.fn 75 [] []),(8,.v (.int .i64 s_0.2))],[.row .deed s_0.1]⟩) (az a b l_) (aP a b l_) (l_.length+1) (l_,(IntKind.i64.wrap (a+1))) (fun _=>.normal) (fun x_0_0=>⟨[],[.row .deed x_0_0]⟩) st)else none),?_,?_⟩
 ·unfold ae Tryz.f148
  simp only[al,true_and,and_true,and_assoc]
  ·refine eV mixed am hG (by kernel_rfl) (fun _=>rfl) fun k_0 s_0 hq0=>⟨(fun id st=>bif Nat.beq id 2 then some (LCV (ρ:=(List Deed)) (σ:=(List Deed×Int)) 1 [] [0] (fun k_1 s_1=>⟨[(0,.os 0),(1,.v (.int .i64 a)),(2,.v (.int .i64 b)),(3,.fn 75 [] []),(8,.v (.int .i64 s_0.2)),(9,.v (.int .i64 s_1.2))],[.row .deed s_1.1]⟩) (aG a l_) (aY a l_) (l_.length+1) (s_0.1,s_0.2) (fun _=>.normal) (fun x_1_0=>⟨[(0,.os 0),(1,.v (.int .i64 a)),(2,.v (.int .i64 b)),(3,.fn 75 [] []),(8,.v (.int .i64 s_0.2))],[.row .deed x_1_0]⟩) st)else none),?_,?_⟩
   ·simp only[al,true_and,and_true]
    ·refine eV mixed am hG (by kernel_rfl) (fun _=>rfl) fun k_1 s_1 hq1=>⟨L0,ah _,?_⟩
     ·unfold aY at hq1
      exact cG (jl [0])
   ·unfold aP at hq0
    exact cG (jl [0])
 ·unfold ae Tryz.f148
  try unfold ar
  exact cG (jl [0])
@[go_sem] def bB (a:Int)(b:Int)(n:Int)(k_0:Nat)(s_0:List Deed):Empty⊕(List Deed):=.inr ((s_0.set (Int.toNat (IntKind.i64.wrap (a+(k_0:Int)))) (s_0.getD (Int.toNat (IntKind.i64.wrap (b+(k_0:Int)))) (default:Deed))).set (Int.toNat (IntKind.i64.wrap (b+(k_0:Int)))) (s_0.getD (Int.toNat (IntKind.i64.wrap (a+(k_0:Int)))) (default:Deed)))
def bM (a:Int)(b:Int)(n:Int)(k_0:Nat)(s_0:List Deed):Prop:=((0≤(IntKind.i64.wrap (b+(k_0:Int)))∧(IntKind.i64.wrap (b+(k_0:Int))) < (s_0.length:Int))∧((0≤(IntKind.i64.wrap (a+(k_0:Int)))∧(IntKind.i64.wrap (a+(k_0:Int))) < (s_0.length:Int))∧((0≤(IntKind.i64.wrap (a+(k_0:Int)))∧(IntKind.i64.wrap (a+(k_0:Int))) < (s_0.length:Int))∧(0≤(IntKind.i64.wrap (b+(k_0:Int)))∧(IntKind.i64.wrap (b+(k_0:Int))) < ((s_0.set (Int.toNat (IntKind.i64.wrap (a+(k_0:Int)))) (s_0.getD (Int.toNat (IntKind.i64.wrap (b+(k_0:Int)))) (default:Deed))).length:Int)))))
def aR (a:Int)(b:Int)(n:Int)(l_:List Deed):List Deed:=(match ap (bB a b n) (Int.toNat n) 0 l_ with| .inl x=>x.elim| .inr s_0=>s_0)
def aN (a:Int)(b:Int)(n:Int)(l_:List Deed):Prop:=((n<9223372036854775808)∧okI (bB a b n) (bM a b n) (Int.toNat n) 0 l_)
noncomputable def dD:List SV→List Ob→Option HCon:=gz (fun x_:Int×Int×Int×(List Deed) =>[.os 0,.v (.int .i64 x_.1),.v (.int .i64 x_.2.1),.v (.int .i64 x_.2.2.1),.fn 75 [] []]) (fun x_=>[.row .deed x_.2.2.2]) (fun x_=>eD (aN x_.1 x_.2.1 x_.2.2.1 x_.2.2.2) (.tup []) [.row .deed (aR x_.1 x_.2.1 x_.2.2.1 x_.2.2.2)])
@[go_sem] theorem qn (a:Int)(b:Int)(n:Int)(l_:List Deed):dD ([.os 0,.v (.int .i64 a),.v (.int .i64 b),.v (.int .i64 n),.fn 75 [] []]) ([.row .deed l_])=some (eD (aN a b n l_) (.tup []) [.row .deed (aR a b n l_)]):=eO (A:=fun x_:Int×Int×Int×(List Deed) =>[.os 0,.v (.int .i64 x_.1),.v (.int .i64 x_.2.1),.v (.int .i64 x_.2.2.1),.fn 75 [] []]) (H:=fun x_=>[.row .deed x_.2.2.2]) (K:=fun x_=>eD (aN x_.1 x_.2.1 x_.2.2.1 x_.2.2.2) (.tup []) [.row .deed (aR x_.1 x_.2.1 x_.2.2.1 x_.2.2.2)]) (x:=(a,b,n,l_))
theorem iI:FnOkO Tryz.prog 183 (dD):=by
 have hG:ConsOk Tryz.prog (mkG [] []):=aw cg0 cg0
 refine fH mixed am hG (fn:=Tryz.f183) (c:=ae Tryz.f183) (by kernel_rfl) (by kernel_rfl) (by kernel_rfl) (by kernel_rfl) fun l o con h=>?_
 obtain⟨⟨a,b,n,l_⟩,rfl,rfl,rfl⟩:=dC h
 clear h
 try dsimp only
 refine⟨_,_,_,rfl,fun hp=>?_⟩
 unfold aN at hp
 refine⟨Nat.le_of_ble_eq_true rfl,(fun id st=>bif Nat.beq id 0 then some (LCR (ρ:=Empty) (σ:=(List Deed)) 1 [] [0] (fun k_0 s_0=>⟨[(0,.os 0),(1,.v (.int .i64 a)),(2,.v (.int .i64 b)),(3,.v (.int .i64 n)),(10,.v (.int .i64 (k_0:Int)))],[.row .deed s_0]⟩) (bB a b n) (bM a b n) (Int.toNat n) l_ (n<9223372036854775808) ((·.elim)) ((·.elim)) st)else none),?_,?_⟩
 ·unfold ae Tryz.f183
  simp only[al,true_and,and_true,and_assoc]
  ·refine dl mixed am hG (by kernel_rfl) (fun _=>rfl) n rfl id (fun hb0 k_0 s_0 hlt0 hq0 hw hc=>⟨L0,ah _,?_⟩) (fun hb0 s_0 hc=>?_)
   ·unfold bM at hq0
    try simp only[hw,Int.toNat_natCast]at hq0
    exact cg (jl [0])
   ·exact ci (jl [0])
 ·unfold ae Tryz.f183
  try unfold aR
  exact cG (jl [0])
@[go_sem] def bb (a:Int)(m:Int)(b:Int)(k_0:Nat)(s_0:List Deed×Int×Int):(Int×List Deed)⊕(List Deed×Int×Int):=(bif(s_0.2.1 !=s_0.2.2)then(bif(decide (s_0.2.1 > s_0.2.2))then .inr ((aR (IntKind.i64.wrap (m - s_0.2.1)) m s_0.2.2 s_0.1),(IntKind.i64.wrap (s_0.2.1 - s_0.2.2)),s_0.2.2)else .inr ((aR (IntKind.i64.wrap (m - s_0.2.1)) (IntKind.i64.wrap ((IntKind.i64.wrap (m+s_0.2.2)) - s_0.2.1)) s_0.2.1 s_0.1),s_0.2.1,(IntKind.i64.wrap (s_0.2.2 - s_0.2.1))))else .inl (s_0.2.1,s_0.1))
def b6 (a:Int)(m:Int)(b:Int)(k_0:Nat)(s_0:List Deed×Int×Int):Prop:=((s_0.2.1 !=s_0.2.2)=true→(((decide (s_0.2.1 > s_0.2.2))=true→(aN (IntKind.i64.wrap (m - s_0.2.1)) m s_0.2.2 s_0.1))∧((decide (s_0.2.1 > s_0.2.2))=false→(aN (IntKind.i64.wrap (m - s_0.2.1)) (IntKind.i64.wrap ((IntKind.i64.wrap (m+s_0.2.2)) - s_0.2.1)) s_0.2.1 s_0.1))))
def aq (a:Int)(m:Int)(b:Int)(l_:List Deed):List Deed:=(match ap (bb a m b) (Int.toNat (b - a)+1) 0 (l_,(IntKind.i64.wrap (m - a)),(IntKind.i64.wrap (b - m)))with| .inl x_0_0=>(aR (IntKind.i64.wrap (m - x_0_0.1)) m x_0_0.1 x_0_0.2) | .inr s_0=>default)
def bh (a:Int)(m:Int)(b:Int)(l_:List Deed):Prop:=(okI (bb a m b) (b6 a m b) (Int.toNat (b - a)+1) 0 (l_,(IntKind.i64.wrap (m - a)),(IntKind.i64.wrap (b - m)))∧(∀ z_,ap (bb a m b) (Int.toNat (b - a)+1) 0 (l_,(IntKind.i64.wrap (m - a)),(IntKind.i64.wrap (b - m)))≠ .inr z_)∧(∀ x_0_0,ap (bb a m b) (Int.toNat (b - a)+1) 0 (l_,(IntKind.i64.wrap (m - a)),(IntKind.i64.wrap (b - m)))=.inl x_0_0→(aN (IntKind.i64.wrap (m - x_0_0.1)) m x_0_0.1 x_0_0.2)))
noncomputable def dW:List SV→List Ob→Option HCon:=gz (fun x_:Int×Int×Int×(List Deed) =>[.os 0,.v (.int .i64 x_.1),.v (.int .i64 x_.2.1),.v (.int .i64 x_.2.2.1),.fn 75 [] []]) (fun x_=>[.row .deed x_.2.2.2]) (fun x_=>eD (bh x_.1 x_.2.1 x_.2.2.1 x_.2.2.2) (.tup []) [.row .deed (aq x_.1 x_.2.1 x_.2.2.1 x_.2.2.2)])
@[go_sem] theorem rP (a:Int)(m:Int)(b:Int)(l_:List Deed):dW ([.os 0,.v (.int .i64 a),.v (.int .i64 m),.v (.int .i64 b),.fn 75 [] []]) ([.row .deed l_])=some (eD (bh a m b l_) (.tup []) [.row .deed (aq a m b l_)]):=eO (A:=fun x_:Int×Int×Int×(List Deed) =>[.os 0,.v (.int .i64 x_.1),.v (.int .i64 x_.2.1),.v (.int .i64 x_.2.2.1),.fn 75 [] []]) (H:=fun x_=>[.row .deed x_.2.2.2]) (K:=fun x_=>eD (bh x_.1 x_.2.1 x_.2.2.1 x_.2.2.2) (.tup []) [.row .deed (aq x_.1 x_.2.1 x_.2.2.1 x_.2.2.2)]) (x:=(a,m,b,l_))
theorem jz:FnOkO Tryz.prog 170 (dW):=by
 have hG:ConsOk Tryz.prog (mkG [] [(183,dD)]):=aw cg0 (cgc iI cg0)
 refine fH mixed am hG (fn:=Tryz.f170) (c:=ae Tryz.f170) (by kernel_rfl) (by kernel_rfl) (by kernel_rfl) (by kernel_rfl) fun l o con h=>?_
 obtain⟨⟨a,m,b,l_⟩,rfl,rfl,rfl⟩:=dC h
 clear h
 try dsimp only
 refine⟨_,_,_,rfl,fun hp=>?_⟩
 unfold bh at hp
 refine⟨Nat.le_of_ble_eq_true rfl,(fun id st=>bif Nat.beq id 0 then some (LCV (ρ:=(Int×List Deed)) (σ:=(List Deed×Int×Int)) 1 [] [0] (fun k_0 s_0=>⟨[(0,.os 0),(2,.v (.int .i64 m)),(4,.fn 75 [] []),(10,.v (.int .i64 s_0.2.1)),(11,.v (.int .i64 s_0.2.2))],[.row .deed s_0.1]⟩) (bb a m b) (b6 a m b) (Int.toNat (b - a)+1) (l_,(IntKind.i64.wrap (m - a)),(IntKind.i64.wrap (b - m))) (fun _=>.normal) (fun x_0_0=>⟨[(0,.os 0),(2,.v (.int .i64 m)),(4,.fn 75 [] []),(10,.v (.int .i64 x_0_0.1))],[.row .deed x_0_0.2]⟩) st)else none),?_,?_⟩
 ·unfold ae Tryz.f170
  simp only[al,true_and,and_true,and_assoc]
  ·refine eV mixed am hG (by kernel_rfl) (fun _=>rfl) fun k_0 s_0 hq0=>⟨L0,ah _,?_⟩
   ·unfold b6 at hq0
    exact cG (jl [0])
 ·unfold ae Tryz.f170
  try unfold aq
  exact cG (jl [0])
end Go.Sx
end
