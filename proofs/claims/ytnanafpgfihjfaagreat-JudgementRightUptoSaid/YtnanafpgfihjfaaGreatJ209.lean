/- Part of the proof that the law JudgementRight returns true and leaves its arguments as they were, for all arguments of bulk at most 1048576 (the Upto form). -/
import Derived.Test.YtnanafpgfihjfaaGreatJ208
import Derived.Test.YtnanafpgfihjfaaGreatJ207
import Derived.Sort.Statements
import Derived.Shelf.SlSortCmp.Insertion
set_option linter.all false
set_option maxHeartbeats 4000000
set_option maxRecDepth 100000
section
namespace Go.Sx
open Go.Proofs
open IntKind (i64)
def y5 (d:District):Bool:=((((((decide ((d.reaches.length:Int)≤100))&&(decide ((d.farms.length:Int)≤700)))&&(decide ((d.crops.length:Int)≤100)))&&(decide ((d.rights.length:Int)≤300)))&&(decide ((d.duties.length:Int)≤300)))&&(decide ((d.wells.length:Int)≤100)))
@[go_sem] def zy:List SV→Option Con:=(pD .district fun d=>(pE (.det True (.v (.bool (y5 d))))))
theorem Eb:FnOk Tryz.prog 87 zy:=by
 have hG:ConsOk Tryz.prog (mkG [] []):=av cg0 cg0;refine ay [.o] mixed ap hG (fn:=Tryz.f87) (c:=ae Tryz.f87) kr kr kr kr (bF fun d=>(ak (fun hp=>?_)));dsimp only[ax]at hp;refine⟨nbl rfl,L0,ah _,?_⟩
 ·unfold ae Tryz.f87;try unfold y5
  exact zq1
def aI (n:Int)(lo:Int)(hi:Int):Bool:=((decide (n≥lo))&&(decide (n≤hi)))
@[go_sem] def jz (b:Int)(k_0:Nat)(s_0:Int×Int):Int⊕(Int×Int):=(bif(decide (s_0.2 > 0))then .inr (s_0.2,(Int.tmod s_0.1 s_0.2))else .inl s_0.1)
def xr (b:Int)(k_0:Nat)(s_0:Int×Int):Prop:=((decide (s_0.2 > 0))=true→s_0.2≠0)
def tb (a:Int)(b:Int):Int:=(match aw (jz b) (Int.toNat b+1) 0 (a,b)with| .inl x_0_0=>x_0_0| .inr s_0=>default)
def uX (a:Int)(b:Int):Prop:=(okI (jz b) (xr b) (Int.toNat b+1) 0 (a,b)∧(∀ z_,aw (jz b) (Int.toNat b+1) 0 (a,b)≠ .inr z_))
def uJ (n:Int):Int:=(bif(decide (n<0))then(i64.wrap (0 - n))else n)
def iQ (a:Ratio):Bool:=(((((decide (a.d≥1))&&(decide (a.d≤1073741824)))&&(decide (a.n≥(-1073741824))))&&(decide (a.n≤1073741824)))&&((tb (uJ a.n) a.d) ==1))
def qb (a:Ratio):Prop:=(((((decide (a.d≥1))&&(decide (a.d≤1073741824)))&&(decide (a.n≥(-1073741824))))&&(decide (a.n≤1073741824)))=true→(uX (uJ a.n) a.d))
def lV (a:Ratio):Int:=(bif(!(iQ a))then 120 else 0)
def wU (a:Ratio):Prop:=(qb a)
def xu (a:Ratio)(b:Ratio):Bool:=(decide ((i64.wrap (a.n*b.d)) < (i64.wrap (b.n*a.d))))
def xv (a:Ratio)(b:Ratio):Bool:=((iQ a)&&(iQ b))
def ye (a:Ratio)(b:Ratio):Prop:=((qb a)∧((iQ a)=true→(qb b)))
def wv (a:Ratio)(b:Ratio):Int×Int:=(bif(!(xv a b))then(0,120)else(bif(xu a b)then((-1),0)else(bif(xu b a)then(1,0)else(0,0))))
def FT (a:Ratio)(b:Ratio):Prop:=(ye a b)
def iR (x:Ratio×Ratio):Bool:=(bif(((lV x.1) !=0) ||((lV x.2) !=0))then false else(((decide (x.1.n≥0))&&(decide ((wv x.1 x.2).1≤0)))&&(decide (x.2.n≤x.2.d))))
def vV (x:Ratio×Ratio):Prop:=((wU x.1)∧((((lV x.1) !=0)=false→(wU x.2))∧((((lV x.1) !=0) ||((lV x.2) !=0))=false→(FT x.1 x.2))))
def vW (x:Reach):Bool:=(bif(((!(aI x.delay 1 16)) ||(!(aI x.cap 0 1073741824))) ||(!(aI x.bank 0 1099511627776)))then false else(bif(((!(aI x.siphon 0 (if x.bank<x.cap then x.bank else x.cap))) ||(!(aI x.evap.lo 0 x.evap.hi))) ||(decide (x.evap.hi > 1073741824)))then false else(iR x.seep)))
def wV (x:Reach):Prop:=((((!(aI x.delay 1 16)) ||(!(aI x.cap 0 1073741824))) ||(!(aI x.bank 0 1099511627776)))=false→((((!(aI x.siphon 0 (if x.bank<x.cap then x.bank else x.cap))) ||(!(aI x.evap.lo 0 x.evap.hi))) ||(decide (x.evap.hi > 1073741824)))=false→(vV x.seep)))
@[go_sem] def jA (l_:List Reach)(k_0:Nat)(s_0:Unit):Unit⊕Unit:=(bif((((k_0:Int) ==0)&&((l_.getD k_0 (default:Reach)).up !=(-1))) ||((decide ((k_0:Int) > 0))&&(!(aI ((l_.getD k_0 (default:Reach)).up) 0 (i64.wrap ((k_0:Int) - 1))))))then .inl ()else(bif(!(vW (l_.getD k_0 (default:Reach))))then .inl ()else .inr ()))
def xw (l_:List Reach)(k_0:Nat)(s_0:Unit):Prop:=(l_.length≤aQ→(((((k_0:Int) ==0)&&((l_.getD k_0 (default:Reach)).up !=(-1))) ||((decide ((k_0:Int) > 0))&&(!(aI ((l_.getD k_0 (default:Reach)).up) 0 (i64.wrap ((k_0:Int) - 1))))))=false→(wV (l_.getD k_0 (default:Reach)))))
def td (l_:List Reach):Bool:=(match aw (jA l_) l_.length 0 ()with| .inl x_0_0=>false| .inr s_0=>(decide ((l_.length:Int) > 0)))
def zV (l_:List Reach):Prop:=okI (jA l_) (xw l_) l_.length 0 ()
@[go_sem] def oP (a0:District)(k_0:Nat)(s_0:Unit):Unit⊕Unit:=(bif(!(aI ((a0.crops.getD k_0 (default:Crop)).need) 0 1048576))then .inl ()else .inr ())
@[go_sem] def oQ (a0:District)(k_1:Nat)(s_1:Unit):Unit⊕Unit:=(bif((!(aI ((a0.farms.getD k_1 (default:Farm)).reach) 0 (i64.wrap ((a0.reaches.length:Int) - 1)))) ||(!(aI ((a0.farms.getD k_1 (default:Farm)).area) 0 1048576)))then .inl ()else(bif((((a0.farms.getD k_1 (default:Farm)).area==0)&&((a0.farms.getD k_1 (default:Farm)).crop !=(-1))) ||((decide ((a0.farms.getD k_1 (default:Farm)).area > 0))&&(!(aI ((a0.farms.getD k_1 (default:Farm)).crop) 0 (i64.wrap ((a0.crops.length:Int) - 1))))))then .inl ()else .inr ()))
def vX (a0:District):Bool:=(match aw (oP a0) a0.crops.length 0 ()with| .inl x_0_0=>false| .inr s_0=>(match aw (oQ a0) a0.farms.length 0 ()with| .inl x_1_0=>false| .inr s_1=>true))
def vY (a0:District)(a1:Right):Bool:=(bif((((!(aI a1.farm 0 (i64.wrap ((a0.farms.length:Int) - 1)))) ||(!(aI a1.reach 0 (i64.wrap ((a0.reaches.length:Int) - 1))))) ||(!(aI a1.since 0 a1.to))) ||(decide (a1.to≥a0.hours)))then false else(bif(a1.kind==1)then(((((a1.reach==0)&&(aI a1.rank 0 1048576))&&(aI a1.litres 1 1073741824))&&(aI a1.length 1 a1.every))&&(decide (a1.every≤a0.hours)))else(bif(a1.kind==2)then((((((a1.rank==0)&&(a1.litres==0))&&(a1.every==0))&&(a1.length==0))&&(a1.since==0))&&(a1.to==(i64.wrap (a0.hours - 1))))else(bif(a1.kind==3)then((((a1.rank==0)&&(a1.litres==0))&&(a1.every==0))&&(a1.length==0))else false))))
@[go_sem] def oR (a0:District)(k_0:Nat)(s_0:Unit):Unit⊕Unit:=(bif(!(vY a0 (a0.rights.getD k_0 (default:Right))))then .inl ()else .inr ())
@[go_sem] def oS (a0:District)(k_1:Nat)(s_1:Unit):Unit⊕Unit:=(bif(((!(aI ((a0.duties.getD k_1 (default:Duty)).farm) 0 (i64.wrap ((a0.farms.length:Int) - 1)))) ||(!(aI ((a0.duties.getD k_1 (default:Duty)).reach) 0 (i64.wrap ((a0.reaches.length:Int) - 1))))) ||(!(aI ((a0.duties.getD k_1 (default:Duty)).due) 0 a0.hours)))then .inl ()else .inr ())
def sP (a0:District):Bool:=(bif(((!(aI a0.hours 1 4096)) ||(!(aI a0.tank.start 0 a0.tank.cap))) ||(decide (a0.tank.cap > 1099511627776)))then false else(bif((!(td a0.reaches)) ||(!(vX a0)))then false else(match aw (oR a0) a0.rights.length 0 ()with| .inl x_0_0=>false| .inr s_0=>(match aw (oS a0) a0.duties.length 0 ()with| .inl x_1_0=>false| .inr s_1=>true))))
def wW (a0:District):Prop:=((((!(aI a0.hours 1 4096)) ||(!(aI a0.tank.start 0 a0.tank.cap))) ||(decide (a0.tank.cap > 1099511627776)))=false→(zV a0.reaches))
def fB (d:District):Int:=(bif(((((decide ((d.reaches.length:Int) > 64)) ||(decide ((d.farms.length:Int) > 600))) ||(decide ((d.crops.length:Int) > 32))) ||(decide ((d.rights.length:Int) > 256))) ||(decide ((d.duties.length:Int) > 256)))then 2 else(bif(!(sP d))then 191 else 0))
def tf (d:District):Prop:=(d.reaches.length≤aQ→((((((decide ((d.reaches.length:Int) > 64)) ||(decide ((d.farms.length:Int) > 600))) ||(decide ((d.crops.length:Int) > 32))) ||(decide ((d.rights.length:Int) > 256))) ||(decide ((d.duties.length:Int) > 256)))=false→(wW d)))
@[go_sem] def qc (a:List Claim)(b:List Claim)(k_0:Nat)(s_0:Unit):Unit⊕Unit:=(bif(!(((a.getD k_0 (default:Claim)).right==(b.getD k_0 (default:Claim)).right)&&(((a.getD k_0 (default:Claim)).farm==(b.getD k_0 (default:Claim)).farm)&&(((a.getD k_0 (default:Claim)).hour==(b.getD k_0 (default:Claim)).hour)&&(((a.getD k_0 (default:Claim)).litres==(b.getD k_0 (default:Claim)).litres)&&((a.getD k_0 (default:Claim)).rank==(b.getD k_0 (default:Claim)).rank))))))then .inl ()else .inr ())
def qP (a:List Claim)(b:List Claim)(k_0:Nat)(s_0:Unit):Prop:=(a.length≤aQ→(0≤(k_0:Int)∧(k_0:Int) < (b.length:Int)))
def pF (a:List Claim)(b:List Claim):Bool:=(bif((a.length:Int) !=(b.length:Int))then false else(match aw (qc a b) a.length 0 ()with| .inl x_0_0=>false| .inr s_0=>true))
def oT (a:List Claim)(b:List Claim):Prop:=(a.length≤aQ→(b.length≤aQ→(((a.length:Int) !=(b.length:Int))=false→okI (qc a b) (qP a b) a.length 0 ())))
@[go_sem] def yf:List SV→Option Con:=(pR .claim fun a=>(pR .claim fun b=>(pE (.det (oT a b) (.v (.bool (pF a b)))))))
theorem Cf:FnOk Tryz.prog 18 yf:=by
 have hG:ConsOk Tryz.prog (mkG [] []):=av cg0 cg0;refine ay [.o] mixed ap hG (fn:=Tryz.f18) (c:=ae Tryz.f18) kr kr kr kr (bY fun a=>(bY fun b=>(ak (fun hp=>?_))));dsimp only[ax]at hp;unfold oT at hp;refine⟨nbl rfl,(fun id st=>bif Nat.beq id 0 then some (LCR (ρ:=Unit) (σ:=Unit) 0 [] [] (fun k_0 s_0=>⟨[(0,.rs .claim a),(1,.rs .claim b),(5,.v (.int .i64 (k_0:Int)))],[]⟩) (qc a b) (qP a b) a.length () (True) (fun _=>.ret) (fun x_0_0=>⟨[(4,.v (.bool false))],[]⟩) st)else none),?_,?_⟩
 ·unfold ae Tryz.f18;simp only[aq,true_and,and_true]
  ·refine MT (a.length≤aQ) mixed ap hG kr (fun _=>rfl) (a.length:Int) rfl im (fun hb0 k_0 s_0 hlt0 hq0 hw hc=>⟨L0,ah _,?_⟩) (fun hb0 s_0 hc=>?_) fun hb0 k_0 s_0=>?_
   ·unfold qP at hq0;try simp only[hw,Int.toNat_natCast]at hq0
    exact bZ (jl [])
   ·exact bQ (jl [])
   ·exact zq7
 ·unfold ae Tryz.f18;try unfold pF
  exact zq1
def aK (a:Claim)(b:Claim):Bool:=(bif(a.hour !=b.hour)then(decide (a.hour<b.hour))else(bif(a.rank !=b.rank)then(decide (a.rank<b.rank))else(bif(a.right !=b.right)then(decide (a.right<b.right))else(decide (a.farm<b.farm)))))
def lW (a0:District)(a1:Claim):Bool:=(bif((((((((decide (a1.right<0)) ||(decide (a1.right≥(a0.rights.length:Int)))) ||(decide (a1.farm<0))) ||(decide (a1.farm≥(a0.farms.length:Int)))) ||(decide (a1.hour<0))) ||(decide (a1.hour≥a0.hours))) ||(decide (a1.litres<1))) ||(decide (a1.litres > 1073741824)))then false else(((a0.rights.getD (Int.toNat a1.right) (default:Right)).kind==1)&&((a0.rights.getD (Int.toNat a1.right) (default:Right)).rank==a1.rank)))
def tg (a0:District)(a1:Claim):Prop:=(((((((((decide (a1.right<0)) ||(decide (a1.right≥(a0.rights.length:Int)))) ||(decide (a1.farm<0))) ||(decide (a1.farm≥(a0.farms.length:Int)))) ||(decide (a1.hour<0))) ||(decide (a1.hour≥a0.hours))) ||(decide (a1.litres<1))) ||(decide (a1.litres > 1073741824)))=false→((0≤a1.right∧a1.right< (a0.rights.length:Int))∧(((a0.rights.getD (Int.toNat a1.right) (default:Right)).kind==1)=true→(0≤a1.right∧a1.right< (a0.rights.length:Int)))))
@[go_sem] def oU (d:District)(c:List Claim)(k_0:Nat)(s_0:Unit):Unit⊕Unit:=(bif((!(lW d (c.getD k_0 (default:Claim)))) ||((decide ((k_0:Int) > 0))&&(!(aK (c.getD (Int.toNat (i64.wrap ((k_0:Int) - 1))) (default:Claim)) (c.getD k_0 (default:Claim))))))then .inl ()else .inr ())
def y6 (d:District)(c:List Claim)(k_0:Nat)(s_0:Unit):Prop:=(c.length≤aQ→((tg d (c.getD k_0 (default:Claim)))∧((!(lW d (c.getD k_0 (default:Claim))))=false→((decide ((k_0:Int) > 0))=true→(0≤(i64.wrap ((k_0:Int) - 1))∧(i64.wrap ((k_0:Int) - 1)) < (c.length:Int))))))
def qt (d:District)(c:List Claim):Int:=(bif((fB d) !=0)then(fB d)else(bif(decide ((c.length:Int) > 4096))then 2 else(match aw (oU d c) c.length 0 ()with| .inl x_0_0=>260| .inr s_0=>0)))
def wX (d:District)(c:List Claim):Prop:=((tf d)∧(((fB d) !=0)=false→(c.length≤aQ→((decide ((c.length:Int) > 4096))=false→okI (oU d c) (y6 d c) c.length 0 ()))))
def nP (d:District)(c:List Claim):Bool:=((y5 d)&&((decide ((c.length:Int)≤300)) ||((decide ((c.length:Int) > 4096))&&(decide ((c.length:Int)≤5000)))))
@[go_sem] def sQ:List SV→Option Con:=(pD .district fun d=>(pR .claim fun c=>(pE (.det True (.v (.bool (nP d c)))))))
theorem xx:FnOk Tryz.prog 41 sQ:=by
 have hG:ConsOk Tryz.prog (mkG [(87,fun l=>zy (bA [.st .district] l))] []):=av (cgc (Eb.norm [.st .district]) cg0) cg0;refine ay [.o] mixed ap hG (fn:=Tryz.f41) (c:=ae Tryz.f41) kr kr kr kr (bF fun d=>(bY fun c=>(ak (fun hp=>?_))));dsimp only[ax]at hp;refine⟨nbl rfl,L0,ah _,?_⟩
 ·unfold ae Tryz.f41;try unfold nP
  exact zq1
end Go.Sx
end
section
namespace Go.Sx
theorem PY {κ υ:Type}[DecidableEq κ](l:List (κ×υ))(x z:κ)(y:υ):jT (vr l x y) z=if z=x then some y else jT l z:=by
 induction l with
 |nil=>simp[vr,jT]
 |cons a r ih=>
  obtain⟨a,b⟩:=a;unfold vr;by_cases h:x=a
  ·subst h;simp only[if_pos];unfold jT;by_cases hz:z=x <;>simp[hz]
  ·rw[if_neg h];unfold jT;by_cases hz:z=a
   ·subst hz;rw[if_pos rfl,if_neg (fun e=>h e.symm),if_pos rfl]
   ·rw[if_neg hz,ih,if_neg hz]
def rT {κ υ:Type}(l:List (κ×υ)):List κ:=l.map fun p=>p.1
theorem C3 {κ υ:Type}[DecidableEq κ]:∀ {l:List (κ×υ)} {x:κ},x ∉ rT l→jT l x=none
 | [],_,_=>rfl
 |(a,b)::r,x,h=>by
  unfold jT;rw[if_neg (fun e=>h (by simp[rT,e]))];exact C3 fun hm=>h (by simp only[rT,List.map_cons,List.mem_cons]at hm ⊢;exact .inr hm)
theorem C4 {κ υ:Type}[DecidableEq κ](x:κ)(y:υ):∀ (l:List (κ×υ)),(rT l).Nodup→(rT (vr l x y)).Nodup∧∀ z,z∈rT (vr l x y)→z=x∨z∈rT l
 | [],_=>by simp[vr,rT]
 |(a,b)::r,h=>by
  have h':=List.nodup_cons.1 h;unfold vr;by_cases e:x=a
  ·subst e;rw[if_pos rfl];exact⟨h,fun z hz=>.inr hz⟩
  ·rw[if_neg e];obtain⟨g1,g2⟩:=C4 x y r h'.2;refine⟨List.nodup_cons.2 ⟨fun hm=>?_,g1⟩,fun z hz=>?_⟩
   ·rcases g2 _ hm with h3|h3
    ·exact e h3.symm
    ·exact h'.1 h3
   ·rcases List.mem_cons.1 hz with rfl|hz
    ·exact .inr List.mem_cons_self
    ·rcases g2 z hz with h3|h3
     ·exact .inl h3
     ·exact .inr (List.mem_cons_of_mem _ h3)
theorem y7 {κ υ:Type}[DecidableEq κ](x:κ):∀ (l:List (κ×υ)),(rT l).Nodup→(rT (zJ l x)).Nodup∧(∀ z,z∈rT (zJ l x)→z∈rT l)∧∀ z,jT (zJ l x) z=if z=x then none else jT l z
 | [],_=>by simp[zJ,rT,jT]
 |(a,b)::r,h=>by
  have h':=List.nodup_cons.1 h;unfold zJ;by_cases e:x=a
  ·subst e;rw[if_pos rfl];refine⟨h'.2,fun z hz=>List.mem_cons_of_mem _ hz,fun z=>?_⟩;by_cases hz:z=x
   ·subst hz;rw[if_pos rfl];exact C3 h'.1
   ·rw[if_neg hz];simp only[jT,if_neg hz]
  ·rw[if_neg e];obtain⟨g1,g2,g3⟩:=y7 x r h'.2;refine⟨List.nodup_cons.2 ⟨fun hm=>h'.1 (g2 _ hm),g1⟩,fun z hz=>?_,fun z=>?_⟩
   ·rcases List.mem_cons.1 hz with rfl|hz
    ·exact List.mem_cons_self
    ·exact List.mem_cons_of_mem _ (g2 z hz)
   ·simp only[jT,g3];by_cases hz:z=a
    ·subst hz;rw[if_pos rfl,if_neg (fun e2=>e e2.symm),if_pos rfl]
    ·simp only[if_neg hz]
theorem Ks {kk vk:Tag}(l:List (kk.T×vk.T))(x z:kk.T)(y:vk.T):fZ kk vk (lr kk vk l x y) z=if z=x then y else fZ kk vk l z:=by
 unfold fZ lr;rw[PY];by_cases h:z=x <;>simp[h]
theorem Kt {kk vk:Tag}(l:List (kk.T×vk.T))(hN:(rT l).Nodup)(x z:kk.T):fZ kk vk (xH kk vk l x) z=if z=x then fK vk else fZ kk vk l z:=by
 unfold fZ xH;rw[(y7 x l hN).2.2];by_cases h:z=x <;>simp[h]
end Go.Sx
end
section
namespace Go.Sx
open Go.RowKit
section
variable {P:Program}{ts:Tis}{G:Cons}
theorem wY {n:Nat}{g:FuncId}{i1 q:Nat}{o1:Oper}{tys:Array TypeId}{Q:Exit→Act→World→Prop}{a:Act}{w:World}{b:Nat}
  (ho1:o1.dst=none∧o1.op=.defer ⟨.value (.func g),#[.tmp q],tys⟩∧o1.guard=none)
  (hq:a.tmps.getD q undef=.pointer (some ⟨b,0,none⟩))
  (h:Q .normal { tmps:=a.tmps,defers:= { target:=.fn (.func g) #[],args:= #[.pointer (some ⟨b,0,none⟩)]}::a.defers} w):
  (Code.region i1 #[o1] false).wpIn (rd none) n P Q a w:=by
 obtain⟨d1,p1,t1,s1,f1,g1⟩:=o1;obtain⟨rfl,rfl,rfl⟩:=ho1;refine wpIn_region ?_;have hr1:List.range (#[(⟨none,.defer ⟨.value (.func g),#[.tmp q],tys⟩,t1,s1,f1,none⟩:Oper)]:Array Oper).size=[0]:=rfl;rw[hr1];simp only[wpOpsIn,Oper.wpIn,Region.wanted];have e1:(#[(⟨none,.defer ⟨.value (.func g),#[.tmp q],tys⟩,t1,s1,f1,none⟩:Oper)]:Array Oper)[0]? =some ⟨none,.defer ⟨.value (.func g),#[.tmp q],tys⟩,t1,s1,f1,none⟩:=rfl;rw[e1];simp only[if_true];refine⟨fun _ _=>trivial,?_⟩;have r2:((⟨none,.defer ⟨.value (.func g),#[.tmp q],tys⟩,t1,s1,f1,none⟩:Oper).semAt (rd none).round a.eval).run P w=.ok (.defer { target:=.fn (.func g) #[],args:= #[.pointer (some ⟨b,0,none⟩)]}) w:=by
  simp[Oper.semAt,execOp,go_sem,Act.eval,hq];try rfl
 rw[r2];simp only[Oper.uponIn_defer];exact h
theorem I8 {g:FuncId}{RC:Value→Option SV}(hrec:FR P g RC)(pks:List Pk)(hm:P.follows .mixedOrders=true)(hts:ts.ok P)(hG:ConsOk P G){f:FuncId}{fn:Func}{c0 c1:Code}{i1 q:Nat}{o1:Oper}{tys:Array TypeId}
  (hf:P.funcs[f]? =some fn) (hb:fn.body=some (.seq c0 (.seq (.region i1 #[o1] false) c1))) (hname:(fn.name== "runtime.NumGoroutine")=false)
  (ho1:o1.dst=none∧o1.op=.defer ⟨.value (.func g),#[.tmp q],tys⟩∧o1.guard=none)
  (hc0:cg fn.ntmps c0=true) (hc1:cg fn.ntmps c1=true) {C:List SV→Option Con}
  (h:∀ l con,C l=some con→ax con→l.length≤fn.ntmps∧∃ L L' id,aq P none fn.ntmps L c0∧aq P none fn.ntmps L' c1∧exec ts G L c0 ⟨lM 0 l,[]⟩ (fun e st=>e=.normal∧lk q st.t=.ptr id 0∧Cd (am st.h id)∧
   exec ts G L' c1 ⟨st.t,st.h⟩ (Ml RC fn.results.toList ts (fun s=>df con (ta pks s)) id))):FnOk P f C:=by
 refine⟨fun l con _ args w=>?_,fun l con hcon hpre F w vs hF hvs=>?_⟩
 ·have hn:¬fn.name= "runtime.NumGoroutine":=by simpa using hname
  simp[callFunc,hf,hn,hb]
 ·obtain⟨hlen,L,L',id,hl,hl',hx⟩:=h l con hcon hpre;refine nU (n:=0) (callsIn_of_wp_marks hf hb trivial ?_);have hr:StRel F { w:=w,own:=cj} fn.ntmps cj ⟨lM 0 l,[]⟩ { tmps:=vs++Array.replicate (fn.ntmps - vs.size) undef,defers:=[]} w:=
   ⟨by have:=hvs.1;simp;omega,Dfr.nil,uF hF,Fr.refl _,fun t=>lT hvs _ t⟩
  refine wpIn_seq (wpIn_mono (mK hm hts hG c0 hc0 hl F _ _ hx cj _ w hr) ?_);intro e a1 w1 hq;cases e with
  |normal=>
   obtain⟨F1,own1,st1,hF1,hst1,_,hlk,_,hx1⟩:=hq;have hsq:=hst1.slots q;rw[hlk]at hsq;generalize hv:a1.tmps.getD q undef=pv at hsq;cases hsq with
   | @ptr _ _ b hd ho hp=>
   show(Code.seq (.region i1 #[o1] false) c1).wpIn (rd none) 0 P _ a1 w1;have hsz:=hst1.size;refine wpIn_seq (wY ho1 hv ?_);show c1.wpIn (rd none) 0 P _ _ w1;obtain⟨ms,Ds,k0,k1,k2,k3⟩:=hst1.defers;have k0':a1.defers=ms:=by rw[k0];exact List.append_nil _
   let d:Deferred:= { target:=.fn (.func g) #[],args:= #[.pointer (some ⟨b,0,none⟩)]}
   let B:Bs:= { w:=w1,own:=own1,ds:=d::a1.defers}
   have hr2:StRel F1 B fn.ntmps own1 ⟨st1.t,st1.h⟩ { tmps:=a1.tmps,defers:=d::a1.defers} w1:=by
    exact⟨hsz,Dfr.nil,hst1.hp,Fr.refl B,hst1.slots⟩
   have hbd:∀ D∈Ds,¬ ∃ id hd,own1 id=some hd∧D∈hd.bs:=fun D hD ⟨i,hd,e,hm⟩ =>hst1.hp.apart i hd D e hm (k3 D hD).2.1;have fin:∀ F2 own2 st2 (a2:Act) w2,(∀ b,F1 b→F2 b)→StRel F2 B fn.ntmps own2 st2 a2 w2→eu (fun s=>df con (ta pks s)) (vB fn.results.toList ts st2)→
     LeavesInM (rd none) 0 P fn a2.tmps (fun e w'=>(∃ s u own',df con s∧e=.returned u∧Handed F w own' w' s u∧Below w.heap.size w w')∨(∃ x,lQ con x∧e=.panicked [{ v:=x,recovered:=false}]∧Below w.heap.size w w')) a1.defers .returning w2:=by
    intro F2 own2 st2 a2 w2 hF2 hst2 hdone;have hB:StRel F2 { w:=w,own:=cj} fn.ntmps own2 st2 { a2 with defers:=[]} w2:=⟨hst2.size,Dfr.nil,hst2.hp,hst1.fr.trans ⟨hst2.fr.ids,hst2.fr.base,hst2.fr.os,hst2.fr.tape,hst2.fr.output,hst2.fr.size,hst2.fr.block⟩,hst2.slots⟩;have hkeep:∀ D∈Ds,w2.heap[D]? =some (.deferred (some [])):=fun D hD=>by
     rw[hst2.fr.block D ⟨mG (k3 D hD).2.2,hbd D hD⟩];exact(k3 D hD).2.2
    rw[k0',←List.append_nil ms];refine tR (by simp) Ds ms w2 k1 k2 hkeep fun w4 hs=>?_;have hst4:=(hB.shut (Ds:=Ds) (fun D hD=>⟨(k3 D hD).1,hF2 D (k3 D hD).2.1,hkeep D hD⟩) hs).less (fun c hc=>hF2 c (hF1 c hc)) rfl;simp only[vB]at hdone;cases hres:kD (jv ts st2 fn.results.toList)with
    |none=>rw[hres]at hdone;exact hdone.elim
    |some s=>
     obtain⟨u,e1,e2⟩:=uE (P:=P) hts hst4 hres;rw[hres]at hdone;exact⟨u,e1,.inl ⟨_,u,cj,hdone,rfl,sN hst4.hp.foreign (yb (uB hst4.hp 4 s u e2)),oL hst4.fr⟩⟩
   have hinv:∀ w2:World,(invoke (.fn (.func g) #[]) #[.pointer (some ⟨b,0,none⟩)]).run P w2=.ok (.enter g #[.pointer (some ⟨b,0,none⟩)]) w2:=fun w2=>by simp[invoke,go_sem,hrec.1]
   refine wpIn_mono (mK hm hts hG c1 hc1 hl' F1 _ _ hx1 own1 _ w1 hr2) ?_;have idle:∀ (a':Act) (w':World) F2 own2 st2,(∀ b,F1 b→F2 b)→StRel F2 B fn.ntmps own2 st2 a' w'→eu (fun s=>df con (ta pks s)) (vB fn.results.toList ts st2)→
     LeavesInM (rd none) 0 P fn a'.tmps (fun e w'=>(∃ s u own',df con s∧e=.returned u∧Handed F w own' w' s u∧Below w.heap.size w w')∨(∃ x,lQ con x∧e=.panicked [{ v:=x,recovered:=false}]∧Below w.heap.size w w')) a'.defers .returning w':=by
    intro a' w' F2 own2 st2 hF2 hst2 hdone;refine iP hst2 (by simp) fun w2 hst3=>?_;refine⟨by simp,.inr ⟨fun h=>(by cases h),.func g,#[],g,#[.pointer (some ⟨b,0,none⟩)],rfl,hinv w2,fun _ _=>trivial,?_⟩⟩;refine(hrec.2.1 ⟨b,0,none⟩ w2).mono ?_;rintro e u' w3 ⟨⟨v,rfl⟩,rfl,rfl⟩;exact fin F2 own2 st2 { a' with defers:=B.ds} _ hF2 hst3 hdone
   intro e a' w' hq;cases e with
   |normal=>obtain⟨F2,own2,st2,h0,h1,h2⟩:=hq;exact idle a' w' F2 own2 st2 h0 h1 h2
   |ret=>obtain⟨F2,own2,st2,h0,h1,h2⟩:=hq;exact idle a' w' F2 own2 st2 h0 h1 h2
   |exit jd=>obtain⟨F2,own2,st2,h0,h1,h2⟩:=hq;exact h2.elim
   |panic ch=>
    obtain⟨x,F2,own2,st2,h0,h1,hm,rfl⟩:=hq;change Mk fn.results.toList ts _ id st2 (RC x)at hm;cases m1:RC x with
    |none=>rw[m1]at hm;exact hm.elim
    |some s=>
    rw[m1]at hm;obtain⟨hm2,m4,m3⟩:=hm;obtain⟨y,m2⟩:=Bp hm2;refine iP h1 (by simp) fun w2 hst3=>?_;refine⟨by simp,.inr ⟨fun h=>(by cases h),.func g,#[],g,#[.pointer (some ⟨b,0,none⟩)],rfl,hinv w2,fun _ _=>trivial,?_⟩⟩;obtain⟨hd2,e2,l2⟩:=hst3.fr.ids id hd ho;refine(hrec.2.2 x s m1 F2 own2 w2 st2.h id hd2 b y m4 hst3.hp m2 e2 (l2.1.trans hp)).mono ?_;rintro e u' w3 ⟨⟨v,rfl⟩,rfl,own3,q1,q2⟩;exact fin F2 own3 ⟨st2.t,_⟩ { a' with defers:=B.ds} w3 h0 (hst3.moved q1 q2) m3
   |_=>exact hq.elim
  |ret=>obtain⟨F1,own,st,h0,h1,h2,_⟩:=hq;cases h2
  |exit jd=>obtain⟨F1,own,st,h0,h1,h2,_⟩:=hq;cases h2
  |panic ch=>obtain⟨x,F1,own,st,h0,h1,⟨h2,_⟩,_⟩:=hq;cases h2
  |_=>exact hq.elim
end
end Go.Sx
end
section
namespace Go.Sx
open Go.Proofs Go.RowKit
def RCJ:Value→Option SV
 | .iface t (.int .i64 e) =>bif Nat.beq t 36 then some (.i e)else none
 |_=>none
theorem Ec:FR Tryz.prog 56 RCJ:=by
 obtain⟨fn,hfn,hbody,hn,hres⟩:∃ fn,Tryz.prog.funcs[56]? =some fn∧fn.body=some (ae Tryz.f56)∧fn.ntmps=14∧fn.results= #[]:=⟨Tryz.f56,by kernel_rfl,by kernel_rfl,by kernel_rfl,by kernel_rfl⟩;have hG:ConsOk Tryz.prog (mkG [] []):=av (by simp) (by simp);refine⟨fun args w=>by kernel_rfl,fun p w=>?_,?_⟩
 ·refine callsDIn_of_wpSIn hfn hbody trivial fun c₀ cs hu=>?_;unfold ae Tryz.f56;refine wpSIn_seq (wpSIn_region ?_);simp[wpOpsSIn,go_sem,recoverD,hu,hn,Exit.thenS,Oper.about,Region.wanted];refine wpSIn_of_wpIn rfl (wpIn_block (wpIn_seq (wpIn_region ?_)));simp[wpOpsIn,Oper.wpIn,go_sem,Oper.about,Region.wanted];refine wpIn_cond_true (by simp[Act.eval]) (wpIn_region ?_);simp[wpOpsIn,Oper.wpIn,go_sem,Oper.about,Region.wanted];cases c₀;simp_all [Exit.inBlock,bodyPostS,results]
 ·intro x s hx F own w h id hd b y hfw hp hob ho hpb;unfold RCJ at hx;split at hx
  ·rename_i t e;cases ht:Nat.beq t 36 with
   |false=>rw[ht]at hx;cases hx
   |true=>
    rw[ht]at hx;cases hx;have ht':=Nat.eq_of_beq_eq_true ht;subst ht';refine callsDIn_of_wpSIn hfn hbody trivial fun c₀ cs hu=>?_;unfold ae Tryz.f56;refine wpSIn_seq (wpSIn_region ?_);simp[wpOpsSIn,go_sem,recoverD,hu,hn,Exit.thenS,Oper.about,Region.wanted];refine wpSIn_of_wpIn rfl (wpIn_block (wpIn_seq (wpIn_region ?_)));simp[wpOpsIn,Oper.wpIn,go_sem,Oper.about,Region.wanted];refine wpIn_cond_false (by simp[Act.eval]) ?_;have hr:StRel F { w:=w,own:=own} 14 own ⟨[(0,.ptr id 0),(5,.v (.iface 36 (.int .i64 e)))],h⟩ { tmps:= #[.pointer (some ⟨b,0,none⟩),undef,undef,undef,undef,.iface 36 (.int .i64 e),undef,.bool false,undef,undef,undef,undef,undef,undef],defers:=[]} w:=by
     refine⟨rfl,Dfr.nil,hp,Fr.refl { w:=w,own:=own},fun t=>?_⟩;rw[nT];by_cases h0:0=t
     ·subst h0;rw[if_pos rfl];exact .ptr ho hpb
     ·rw[if_neg h0,nT];by_cases h1:5=t
      ·subst h1;rw[if_pos rfl];exact .v _
      ·rw[if_neg h1];exact .any _
    refine wpIn_seq (wpIn_mono (uH (ts:=ts) (L:=L0) (Q:=fun st=>st=⟨[(10,.v (.int .i64 e)),(9,.b true),(8,.tup [.v (.int .i64 e),.b true]),(0,.ptr id 0),(5,.v (.iface 36 (.int .i64 e)))],h⟩) mixed ap hG kr ?_ hr) ?_)
    ·simp only[go_sem,hob,hfw,cond_false,Nat.reduceBEq,Nat.reduceLeDiff,Nat.reduceAdd,true_and,and_true,true_imp_iff]
    ·rintro ex a1 w1 ⟨rfl,own1,st1,hst1,rfl⟩;have h9:=hst1.slots 9;have h9':a1.tmps.getD 9 undef=.bool true:=bu h9;refine wpIn_cond_true (by simpa[Act.eval]using h9') ?_;refine wpIn_seq (wpIn_mono (uH (ts:=ts) (L:=L0) (Q:=fun st=>st=⟨[(3,.v (.int .i64 e)),(10,.v (.int .i64 e)),(9,.b true),(8,.tup [.v (.int .i64 e),.b true]),(0,.ptr id 0),(5,.v (.iface 36 (.int .i64 e)))],h⟩) mixed ap hG kr ?_ hst1) ?_)
     ·simp only[go_sem,hob,hfw,cond_false,Nat.reduceBEq,Nat.reduceLeDiff,Nat.reduceAdd,true_and,and_true,true_imp_iff]
     ·rintro ex a2 w2 ⟨rfl,own2,st2,hst2,rfl⟩;refine wpIn_mono (uH (ts:=ts) (L:=L0) (Q:=fun st=>st.h=bo h id (.cells [.i e])) mixed ap hG kr ?_ hst2) ?_
      ·simp only[go_sem,hob,hfw,cond_false,uG (h:=h) (i:=id) (o:=.cells [.v (.int .i64 e)]) rfl hfw,Nat.reduceBEq,Nat.reduceLeDiff,Nat.reduceAdd,true_and,and_true,true_imp_iff]
      ·rintro ex a' w' ⟨rfl,own3,st3,hst3,hh⟩;have hd0:a'.defers=[]:=by
        obtain⟨ms,Ds,q0,q1,q2,q3⟩:=hst3.defers;cases Ds with
        |nil=>rw[q0];simp at q1;simp[q1]
        |cons D r=>
         obtain⟨m1,m2,_⟩:=q3 D (by simp);have:=hp.foreign D m2;simp only at m1;omega
       refine⟨hd0,.panicking [{ v:=.iface 36 (.int .i64 e),recovered:=true}],?_,_,by simp[results,hres];rfl,⟨_,rfl⟩,rfl,own3,hh▸hst3.hp,hst3.fr⟩;cases c₀;simp_all
  ·cases hx
end Go.Sx
end
section
namespace Go.Sx
open Go.Proofs
open IntKind (i64 u64)
theorem rU {l0 l1:List Nat}(a0:JL l0)(a1:JL l1){p:Prop}(h:JL l0→JL l1→p:=by intro ja jb;(first|done|(repeat' (first|with_reducible refine And.intro ?_ ?_|((with_reducible show _≠_);first|assumption|omega|(simp_all [d9,fA];done) |grind) |with_reducible intro _)) <;>(first|done|with_reducible exact Empty.elim ‹Empty› |with_reducible assumption|rfl|omega|assumption|decide|exact fk ja|exact fk jb|exact czl|(simp only[*,cond_true,cond_false,Bool.not_true,Bool.not_false,go_sem,Nat.reduceBEq,Nat.reduceLeDiff,Nat.reduceLT,decide_true,Nat.reduceAdd,Nat.reduceSub,Nat.reduceMul,Int.reduceLE,Int.reduceLT,Int.reduceToNat,Int.reduceNeg,reduceCtorEq];(repeat' (first|with_reducible refine And.intro ?_ ?_|((with_reducible show _≠_);first|assumption|omega|(simp_all [d9,fA];done) |grind) |with_reducible intro _)) <;>(first|done|assumption|rfl|omega|decide|exact fk ja|exact fk jb|(simp_all [d9,fA];done))) |(simp_all [okI,d9,fA];done) |(simp_all [d9,fA];(first|done|exact fk2 ja|exact fk2 jb)) |exact fk2 ja|exact fk2 jb))):p:=h a0 a1
theorem nD {l0 l1:List Nat}(a0:JL l0)(a1:JL l1){p:Prop}(h:JL l0→JL l1→p:=by intro ja jb;simp only[go_sem,Nat.reduceBEq,Nat.reduceLeDiff,Nat.reduceLT,decide_true,Nat.reduceAdd,Nat.reduceSub,Nat.reduceMul,Int.reduceLE,Int.reduceLT,Int.reduceToNat,Int.reduceNeg,reduceCtorEq,hc,hw];all_goals exact rU ja jb):p:=h a0 a1
theorem lX {l0 l1:List Nat}(a0:JL l0)(a1:JL l1){p:Prop}(h:JL l0→JL l1→p:=by intro ja jb;simp only[go_sem,Nat.reduceBEq,Nat.reduceLeDiff,Nat.reduceLT,decide_true,Nat.reduceAdd,Nat.reduceSub,Nat.reduceMul,Int.reduceLE,Int.reduceLT,Int.reduceToNat,Int.reduceNeg,reduceCtorEq,hc];all_goals exact rU ja jb):p:=h a0 a1
def aG (n:Int)(lo:Int)(hi:Int):Bool:=((decide (n≥lo))&&(decide (n≤hi)))
@[go_sem] def f9:List SV→Option Con:=(pI fun n=>(pI fun lo=>(pI fun hi=>(pE (.det True (.v (.bool (aG n lo hi))))))))
theorem g6:FnOk Tryz.prog 52 f9:=by
 have hG:ConsOk Tryz.prog (mkG [] []):=av cg0 cg0;refine ay [.o] mixed ap hG (fn:=Tryz.f52) (c:=ae Tryz.f52) kr kr kr kr (dh fun n=>(dh fun lo=>(dh fun hi=>(ak (fun hp=>?_)))));dsimp only[ax]at hp;refine⟨nbl rfl,L0,ah _,?_⟩
 ·unfold ae Tryz.f52;try unfold aG
  exact zq1
def Bz (ok:Bool)(e:Int):Unit:=(bif(!ok)then default else())
def ar (ok:Bool)(e:Int):Bool:=(bif(!ok)then false else true)
@[go_sem] def jB:List SV→Option Con:=(pB fun ok=>(pI fun e=>(pE (.may (ar ok e) (.tup []) (.iface 36 (.int .i64 e))))))
theorem lw:FnOk Tryz.prog 58 jB:=by
 have hG:ConsOk Tryz.prog (mkG [] []):=av cg0 cg0;refine ay [] mixed ap hG (fn:=Tryz.f58) (c:=ae Tryz.f58) kr kr kr kr (MU fun ok=>(dh fun e=>(ak (fun hp=>?_))));dsimp only[ax]at hp;refine⟨nbl rfl,L0,ah _,?_⟩
 ·unfold ae Tryz.f58;try unfold Bz
  try unfold ar
  exact zq1
@[go_sem] def wZ (cD:List Int)(k_0:Nat)(s_0:Unit):Int⊕Unit:=(bif((cD.getD k_0 (0:Int)) !=0)then .inl (cD.getD k_0 (0:Int))else .inr ())
def kc (cD:List Int):Int:=(match aw (wZ cD) cD.length 0 ()with| .inl x_0_0=>x_0_0| .inr s_0=>0)
@[go_sem] def yg:List SV→Option Con:=(pR .int fun cD=>(pE (.det True (.v (.int .i64 (kc cD))))))
theorem Cg:FnOk Tryz.prog 96 yg:=by
 have hG:ConsOk Tryz.prog (mkG [] []):=av cg0 cg0;refine ay [.o] mixed ap hG (fn:=Tryz.f96) (c:=ae Tryz.f96) kr kr kr kr (bY fun cD=>(ak (fun hp=>?_)));dsimp only[ax]at hp;refine⟨nbl rfl,(fun id st=>bif Nat.beq id 0 then some (LCR (ρ:=Int) (σ:=Unit) 0 [] [] (fun k_0 s_0=>⟨[(3,.v (.int .i64 0)),(6,.rs .int cD),(7,.v (.int .i64 (cD.length:Int))),(8,.v (.int .i64 (k_0:Int)))],[]⟩) (wZ cD) pT cD.length () (cD.length≤aQ) (fun _=>.ret) (fun x_0_0=>⟨[(2,.v (.int .i64 x_0_0))],[]⟩) st)else none),?_,?_⟩
 ·unfold ae Tryz.f96;simp only[aq,true_and,and_true]
  ·refine aY mixed ap hG kr (fun _=>rfl) (cD.length:Int) rfl im (fun hb0 k_0 s_0 hlt0 _ hw hc=>⟨L0,ah _,?_⟩) (fun hb0 s_0 hc=>?_)
   ·exact bZ (jl [])
   ·exact bQ (jl [])
 ·unfold ae Tryz.f96;try unfold kc
  exact zq1
def an (x:Claim):Bool:=(x.litres==0)
@[go_sem] def nZ:List SV→Option Con:=(pD .claim fun x=>(pE (.det True (.v (.bool (an x))))))
theorem rf:FnOk Tryz.prog 93 nZ:=by
 have hG:ConsOk Tryz.prog (mkG [] []):=av cg0 cg0;refine ay [.o] mixed ap hG (fn:=Tryz.f93) (c:=ae Tryz.f93) kr kr kr kr (bF fun x=>(ak (fun hp=>?_)));dsimp only[ax]at hp;refine⟨nbl rfl,L0,ah _,?_⟩
 ·unfold ae Tryz.f93;try unfold an
  exact zq1
def dw (a:Claim)(b:Claim):Int:=(kc ([(cy a.rank b.rank),(cy a.right b.right),(cy a.farm b.farm)]))
@[go_sem] def rV:List SV→Option Con:=(pD .claim fun a=>(pD .claim fun b=>(pE (.det True (.v (.int .i64 (dw a b)))))))
theorem wF:FnOk Tryz.prog 95 rV:=by
 have hG:ConsOk Tryz.prog (mkG [(96,fun l=>yg (bA [.sl .int] l)),(97,lu)] []):=av (cgc (Cg.norm [.sl .int]) (cgc nY cg0)) cg0;refine ay [.o] mixed ap hG (fn:=Tryz.f95) (c:=ae Tryz.f95) kr kr kr kr (bF fun a=>(bF fun b=>(ak (fun hp=>?_))));dsimp only[ax]at hp;refine⟨nbl rfl,L0,ah _,?_⟩
 ·unfold ae Tryz.f95;try unfold dw
  exact zq1
def eH (right:Int)(farm:Int)(hour:Int)(litres:Int):Claim:=({ right:=right,farm:=farm,hour:=hour,litres:=litres,rank:=2}:Claim)
@[go_sem] def th:List SV→Option Con:=(pI fun right=>(pI fun farm=>(pI fun hour=>(pI fun litres=>(pE (.det True (.agg (cellsOf .claim (eH right farm hour litres)))))))))
theorem vZ:FnOk Tryz.prog 40 th:=by
 have hG:ConsOk Tryz.prog (mkG [] []):=av cg0 cg0;refine ay [.st .claim] mixed ap hG (fn:=Tryz.f40) (c:=ae Tryz.f40) kr kr kr kr (dh fun right=>(dh fun farm=>(dh fun hour=>(dh fun litres=>(ak (fun hp=>?_))))));dsimp only[ax]at hp;refine⟨nbl rfl,L0,ah _,?_⟩
 ·unfold ae Tryz.f40;try unfold eH
  exact zq1
@[go_sem] def rW (k_0:Nat)(s_0:List Right):Empty⊕(List Right):=.inr (s_0++([({ name:=(ByteArray.mk #[]),kind:=1,farm:=(([0,1,0]).getD k_0 (0:Int)),reach:=0,rank:=2,litres:=4,since:=0,to:=7,every:=1,length:=1}:Right)]))
def pG (k_0:Nat)(s_0:List Right):Prop:=((s_0++([({ name:=(ByteArray.mk #[]),kind:=1,farm:=(([0,1,0]).getD k_0 (0:Int)),reach:=0,rank:=2,litres:=4,since:=0,to:=7,every:=1,length:=1}:Right)])).length*88≤dq)
def cI:District:=(match aw (rW) (([0,1,0]).length) 0 ([])with| .inl x=>x.elim| .inr s_0=>({ name:=(ByteArray.mk #[]),hours:=8,tank:=({ cap:=900,start:=900}:Tank),reaches:=[({ name:=(ByteArray.mk #[]),up:=(-1),delay:=1,cap:=50,bank:=50,siphon:=0,evap:=({ lo:=0,hi:=0}:Range),seep:=(({ n:=0,d:=1}:Ratio),({ n:=0,d:=1}:Ratio))}:Reach)],farms:=[({ name:=(ByteArray.mk #[]),reach:=0,area:=0,crop:=(-1)}:Farm),({ name:=(ByteArray.mk #[]),reach:=0,area:=0,crop:=(-1)}:Farm),({ name:=(ByteArray.mk #[]),reach:=0,area:=0,crop:=(-1)}:Farm)],crops:=[],rights:=s_0,duties:=[],wells:=[]}:District))
def qd:Prop:=(([0,1,0]).length≤aQ→okI (rW) (pG) (([0,1,0]).length) 0 ([]))
@[go_sem] def w5:List SV→Option Con:=(pE (.det (qd) (.agg (cellsOf .district (cI)))))
theorem BA:FnOk Tryz.prog 38 w5:=by
 have hG:ConsOk Tryz.prog (mkG [] []):=av cg0 cg0;refine ay [.st .district] mixed ap hG (fn:=Tryz.f38) (c:=ae Tryz.f38) kr kr kr kr (ak (fun hp=>?_));dsimp only[ax]at hp;unfold qd at hp;refine⟨nbl rfl,(fun id st=>bif Nat.beq id 0 then some (LCR (ρ:=Empty) (σ:=(List Right)) 3 [.cell 2 7 (.row .right ([]))] [0,1,2,3] (fun k_0 s_0=>⟨[(0,.ptr 0 0),(2,.ptr 2 0),(17,.rs .int ([0,1,0])),(18,.v (.int .i64 (([0,1,0]).length:Int))),(19,.v (.int .i64 (k_0:Int)))],[.cells [.v (.string (ByteArray.mk #[])),.v (.int .i64 0),.v (.int .i64 0),.v (.int .i64 0),.v (.slice none 0 0),.v (.slice none 0 0),.v (.slice none 0 0),.v (.slice none 0 0),.v (.slice none 0 0),.v (.slice none 0 0)],.dead,.cells [.v (.string (ByteArray.mk #[])),.v (.int .i64 8),.v (.int .i64 900),.v (.int .i64 900),.rs .reach ([({ name:=(ByteArray.mk #[]),up:=(-1),delay:=1,cap:=50,bank:=50,siphon:=0,evap:=({ lo:=0,hi:=0}:Range),seep:=(({ n:=0,d:=1}:Ratio),({ n:=0,d:=1}:Ratio))}:Reach)]),.rs .farm ([({ name:=(ByteArray.mk #[]),reach:=0,area:=0,crop:=(-1)}:Farm),({ name:=(ByteArray.mk #[]),reach:=0,area:=0,crop:=(-1)}:Farm),({ name:=(ByteArray.mk #[]),reach:=0,area:=0,crop:=(-1)}:Farm)]),.v (.slice none 0 0),.os 3,.v (.slice none 0 0),.v (.slice none 0 0)],.row .right s_0]⟩) (rW) (pG) (([0,1,0]).length) ([]) (([0,1,0]).length≤aQ) ((·.elim)) ((·.elim)) st)else none),?_,?_⟩
 ·unfold ae Tryz.f38;simp only[aq,true_and,and_true]
  ·refine aY mixed ap hG kr (fun _=>rfl) (([0,1,0]).length:Int) rfl im (fun hb0 k_0 s_0 hlt0 hq0 hw hc=>⟨L0,ah _,?_⟩) (fun hb0 s_0 hc=>?_)
   ·unfold pG at hq0;try simp only[hw,Int.toNat_natCast]at hq0
    exact nD (jl [0,1,2,5]) (jl [0,1,2,3])
   ·exact lX (jl [0,1,2,5]) (jl [0,1,2,3])
 ·unfold ae Tryz.f38;try unfold cI
  exact zq1
def ik:List Claim:=[(eH 0 0 3 4),(eH 1 1 3 4),(eH 2 0 3 4),(eH 0 0 5 4)]
@[go_sem] def w6:List SV→Option Con:=(pE (.det True (.rs .claim (ik))))
theorem BB:FnOk Tryz.prog 39 w6:=by
 have hG:ConsOk Tryz.prog (mkG [(40,th)] []):=av (cgc vZ cg0) cg0;refine ay [.sl .claim] mixed ap hG (fn:=Tryz.f39) (c:=ae Tryz.f39) kr kr kr kr (ak (fun hp=>?_));dsimp only[ax]at hp;refine⟨nbl rfl,L0,ah _,?_⟩
 ·unfold ae Tryz.f39;try unfold ik
  exact zq1
def ou (d:District)(c:List Claim)(j:List Judgement):Bool:=((nP d c)&&((decide ((j.length:Int)≤20)) ||((decide ((j.length:Int) > 64))&&(decide ((j.length:Int)≤100)))))
@[go_sem] def zz:List SV→Option Con:=(pD .district fun d=>(pR .claim fun c=>(pR .judgement fun j=>(pE (.det True (.v (.bool (ou d c j))))))))
theorem Ed:FnOk Tryz.prog 11 zz:=by
 have hG:ConsOk Tryz.prog (mkG [(41,fun l=>sQ (bA [.st .district,.sl .claim] l))] []):=av (cgc (xx.norm [.st .district,.sl .claim]) cg0) cg0;refine ay [.o] mixed ap hG (fn:=Tryz.f11) (c:=ae Tryz.f11) kr kr kr kr (bF fun d=>(bY fun c=>(bY fun j=>(ak (fun hp=>?_)))));dsimp only[ax]at hp;refine⟨nbl rfl,L0,ah _,?_⟩
 ·unfold ae Tryz.f11;try unfold ou
  exact zq1
theorem v6 (x y:Int):cy x y=if x<y then -1 else if x > y then 1 else 0:=by
 unfold cy kO;simp[Bool.cond_eq_ite]
theorem HS (x:Int)(l:List Int):kc (x::l)=if x=0 then kc l else x:=by
 have key:∀ l:List Int,kc l=match mZ (ρ:=Int) (fun(x:Int) (_:Unit) =>bif(x !=0)then .inl x else .inr ()) l ()with| .inl y=>y| .inr _=>0:=fun l=>by
  unfold kc;have:=ya (ρ:=Int) (fun(x:Int) (_:Unit) =>bif(x !=0)then .inl x else .inr ()) 0 l ();rw[←this];rfl
 rw[key,key];simp only[mZ];by_cases h:x=0
 ·subst h;rfl
 ·have:(x !=0)=true:=by simpa using h
  rw[if_neg h,this];rfl
theorem Ku:kc []=0:=rfl
def su:List (Int×Int)→Prop
 | [] =>False
 |(a,b)::r=>a<b∨a=b∧su r
theorem C5:∀ l:List (Int×Int),(kc (l.map fun p=>cy p.1 p.2) <0↔su l)
 | [] =>by simp[Ku,su]
 |(a,b)::r=>by
  have hc:=v6 a b;simp only[List.map_cons,HS,hc,su];rcases Int.lt_trichotomy a b with h|h|h
  ·simp[h]
  ·subst h;simp only[Int.lt_irrefl,if_false,if_true,true_and,false_or,gt_iff_lt];exact C5 r
  ·have h1:¬a<b:=by omega
   have h2:a≠b:=by omega
   simp[h1,h2,h]
def tlt (a b:Claim):Prop:=su [(a.rank,b.rank),(a.right,b.right),(a.farm,b.farm)]
theorem I9 (a b:Claim):dw a b<0↔tlt a b:=C5 [(a.rank,b.rank),(a.right,b.right),(a.farm,b.farm)]
open Go.Shelf Go.Sort in
theorem S5 {α:Type}{f:α→α→Int}{r:α→α→Prop}(e:∀ x y,f x y<0↔r x y)(h1:∀ x,¬r x x)(h2:∀ x y z,r x y→r y z→r x z)(h3:∀ x y z,¬r x y→¬r y z→¬r x z):SWO (ltOf f):=by
 have e1:∀ x y,ltOf f x y=true↔r x y:=fun x y=>by unfold ltOf;rw[decide_eq_true_eq,e]
 have e2:∀ x y,ltOf f x y=false↔¬r x y:=fun x y=>by rw[←e1];simp
 exact⟨fun x=>(e2 x x).2 (h1 x),fun x y z a b=>(e1 x z).2 (h2 x y z ((e1 x y).1 a) ((e1 y z).1 b)),fun x y z a b=>(e2 x z).2 (h3 x y z ((e2 x y).1 a) ((e2 y z).1 b))⟩
open Go.Shelf Go.Sort in
theorem FU:SWO (ltOf dw):=S5 I9 (fun x=>by simp only[tlt,su,and_false,or_false];omega) (fun x y z h1 h2=>by simp only[tlt,su,and_false,or_false]at *;omega) (fun x y z h1 h2=>by simp only[tlt,su,and_false,or_false]at *;omega)
theorem ov {n i:Nat}{step:Nat→Unit→Unit⊕Unit}{s:Unit}(h:aw step n i s=.inr s):∀ j,i≤j→j<i+n→step j ()=.inr ():=by
 induction n generalizing i with
 |zero=>intro j h1 h2;omega
 |succ n ih=>
  simp only[aw]at h;cases hs:step i s with
  |inl r=>rw[hs]at h;cases h
  |inr s'=>
   rw[hs]at h;intro j h1 h2;by_cases e:j=i
   ·subst e;cases s;exact hs
   ·exact ih h j (by omega) (by omega)
theorem nE {b:Bool}{e:Int}:cS b e=b:=by
 cases b <;>rfl
theorem I_ {a b c:Int}(h:aA [a,b,c]=true):a≤b∧b≤c:=by
 unfold aA at h;simp only[List.length_cons,List.length_nil,Nat.zero_add,Nat.reduceAdd,Nat.reduceSub]at h;split at h
 ·cases h
 ·rename_i s hs;have h0:=ov hs 0 (by omega) (by omega);have h1:=ov hs 1 (by omega) (by omega);simp[bJ,IntKind.wrap,IntKind.bits,IntKind.signed]at h0 h1;constructor
  ·cases hd:decide (b<a) <;>simp_all <;>omega
  ·cases hd:decide (c<b) <;>simp_all <;>omega
theorem Ja {a b c d:Int}(h:aA [a,b,c,d]=true):a≤b∧b≤c∧c≤d:=by
 unfold aA at h;simp only[List.length_cons,List.length_nil,Nat.zero_add,Nat.reduceAdd,Nat.reduceSub]at h;split at h
 ·cases h
 ·rename_i s hs;have h0:=ov hs 0 (by omega) (by omega);have h1:=ov hs 1 (by omega) (by omega);have h2:=ov hs 2 (by omega) (by omega);simp[bJ,IntKind.wrap,IntKind.bits,IntKind.signed]at h0 h1 h2;refine⟨?_,?_,?_⟩
  ·cases hd:decide (b<a) <;>simp_all <;>omega
  ·cases hd:decide (c<b) <;>simp_all <;>omega
  ·cases hd:decide (d<c) <;>simp_all <;>omega
structure Right1 (d:District):Prop where
 reaches:d.reaches.length≤64
 one:0<d.reaches.length
 farms:d.farms.length≤600
 rights:d.rights.length≤256
 hours1:1≤d.hours
 hours:d.hours≤4096
 start0:0≤d.tank.start
 start:d.tank.start≤d.tank.cap
 cap:d.tank.cap≤1099511627776
 reach:∀ k,k<d.reaches.length→j_ (k:Int) (d.reaches.getD k default)=true
 farm:∀ k,k<d.farms.length→0≤(d.farms.getD k default).reach∧(d.farms.getD k default).reach< (d.reaches.length:Int)
theorem Kv {k:Nat}(h:k<9223372036854775807)(h1:0<k):i64.wrap ((k:Int) - 1)=((k - 1:Nat):Int):=by
 rw[f6 (by omega) (by omega)];omega
theorem C6 {step:Nat→Unit→Unit⊕Unit}:∀ {n i:Nat},(∀ j,i≤j→j<i+n→step j ()=.inr ())→aw step n i ()=.inr ()
 |0,_,_=>rfl
 |n+1,i,h=>by
  simp only[aw];rw[h i (by omega) (by omega)];exact C6 fun j h1 h2=>h j (by omega) (by omega)
theorem jC {step:Nat→Unit→Unit⊕Unit}{n:Nat}:aw step n 0 ()=.inr ()↔∀ j,j<n→step j ()=.inr ():=
 ⟨fun h j hj=>ov h j (by omega) (by omega),fun h=>C6 fun j _ h2=>h j (by omega)⟩
theorem qe {α:Type}(l:List α)(d:α){n:Nat}(h:n<l.length):l.getD n d=l[n]:=by
 rw[List.getD_eq_getElem?_getD,List.getElem?_eq_getElem h];rfl
theorem S6 {step:Nat→Unit→Unit⊕Unit}{n:Nat}{α:Type}{a b:α}:(match aw step n 0 ()with| .inl _=>a| .inr _=>b)=b∨∃ y,aw step n 0 ()=.inl y:=by
 cases h:aw step n 0 ()with
 |inl y=>exact .inr ⟨y,rfl⟩
 |inr y=>exact .inl rfl
theorem BC {a b c:Int}(h1:a≤b)(h2:b≤c):aA [a,b,c]=true:=by
 have e:aw (bJ [a,b,c]) 2 0 ()=.inr ():=jC.2 fun j hj=>by
  rcases(by omega:j=0∨j=1)with rfl|rfl
  ·simp[bJ,IntKind.wrap,IntKind.bits,IntKind.signed,Bool.cond_eq_ite];omega
  ·simp[bJ,IntKind.wrap,IntKind.bits,IntKind.signed,Bool.cond_eq_ite];omega
 unfold aA;simp only[List.length_cons,List.length_nil,Nat.zero_add,Nat.reduceAdd,Nat.reduceSub,e]
theorem BD {a b c d:Int}(h1:a≤b)(h2:b≤c)(h3:c≤d):aA [a,b,c,d]=true:=by
 have e:aw (bJ [a,b,c,d]) 3 0 ()=.inr ():=jC.2 fun j hj=>by
  rcases(by omega:j=0∨j=1∨j=2)with rfl|rfl|rfl
  ·simp[bJ,IntKind.wrap,IntKind.bits,IntKind.signed,Bool.cond_eq_ite];omega
  ·simp[bJ,IntKind.wrap,IntKind.bits,IntKind.signed,Bool.cond_eq_ite];omega
  ·simp[bJ,IntKind.wrap,IntKind.bits,IntKind.signed,Bool.cond_eq_ite];omega
 unfold aA;simp only[List.length_cons,List.length_nil,Nat.zero_add,Nat.reduceAdd,Nat.reduceSub,e]
theorem ow (d:District):bN d=0↔(d.reaches.length≤64∧d.farms.length≤600∧d.crops.length≤32∧d.rights.length≤256∧d.duties.length≤256)∧(1≤d.hours∧d.hours≤4096)∧(0≤d.tank.start∧d.tank.start≤d.tank.cap∧d.tank.cap≤1099511627776)∧0<d.reaches.length∧
  (∀ k,k<d.reaches.length→ew d 191 k ()=.inr ())∧(∀ k,k<d.crops.length→ez d 191 k ()=.inr ())∧(∀ k,k<d.farms.length→eA d 191 k ()=.inr ())∧(∀ k,k<d.rights.length→e_ d 191 k ()=.inr ())∧(∀ k,k<d.duties.length→fa d 191 k ()=.inr ()):=by
 have hx:f8 d 191=true↔(1≤d.hours∧d.hours≤4096)∧(0≤d.tank.start∧d.tank.start≤d.tank.cap∧d.tank.cap≤1099511627776)∧0<d.reaches.length∧
  (∀ k,k<d.reaches.length→ew d 191 k ()=.inr ())∧(∀ k,k<d.crops.length→ez d 191 k ()=.inr ())∧(∀ k,k<d.farms.length→eA d 191 k ()=.inr ())∧(∀ k,k<d.rights.length→e_ d 191 k ()=.inr ())∧(∀ k,k<d.duties.length→fa d 191 k ()=.inr ()):=by
  unfold f8;simp only[nE];cases h3:(aA [1,d.hours,4096]&&aA [0,d.tank.start,d.tank.cap,1099511627776]&&decide ((d.reaches.length:Int) > 0))with
  |false=>
   simp only[cond_false,Bool.false_eq_true,false_iff];rintro⟨⟨a1,a2⟩,⟨a3,a4,a5⟩,a6,_⟩;rw[BC a1 a2,BD a3 a4 a5,decide_eq_true (by omega:(d.reaches.length:Int) > 0)]at h3;cases h3
  |true=>
   simp only[Bool.and_eq_true,decide_eq_true_eq]at h3;have b1:=I_ h3.1.1;have b2:=Ja h3.1.2;have b3:=h3.2;simp only[cond_true];rw[←jC,←jC,←jC,←jC,←jC]
   repeat' split
   all_goals (rename_i e;first|simp_all;done|skip)
   all_goals simp_all
   all_goals omega
 unfold bN;simp only[nE];rw[←hx];cases h1:(((((decide ((d.reaches.length:Int)≤64))&&(decide ((d.farms.length:Int)≤600)))&&(decide ((d.crops.length:Int)≤32)))&&(decide ((d.rights.length:Int)≤256)))&&(decide ((d.duties.length:Int)≤256)))with
 |false=>
  simp only[cond_false];simp only[Bool.and_eq_false_iff,decide_eq_false_iff_not]at h1;omega
 |true=>
  simp only[Bool.and_eq_true,decide_eq_true_eq]at h1;cases f8 d 191 <;>simp <;>omega
theorem FV:∀ (f n d:Nat),1≤d→d≤f→1≤n→∀ x,(yX f n d).getLastD x=Nat.gcd n d
 |0,n,d,h1,h2,_,x=>by omega
 |f+1,n,d,h1,h2,h3,x=>by
  unfold yX;have hm:max d 1=d:=by omega
  rw[if_neg (by omega),hm];by_cases h0:n % d=0
  ·rw[if_pos h0];have:d ∣ n:=Nat.dvd_of_mod_eq_zero h0;rw[Nat.gcd_eq_right this];rfl
  ·rw[if_neg h0];have hlt:n % d<d:=Nat.mod_lt _ (by omega);have ih:=FV f d (n % d) (by omega) (by omega) (by omega) n;have e:Nat.gcd n d=Nat.gcd d (n % d):=by rw[Nat.gcd_comm n d,Nat.gcd_rec d n,Nat.gcd_comm]
   rw[e,←ih,List.getLastD_cons]
theorem MW {n d:Nat}(h:1≤d):Kp n d=Nat.gcd n d:=by
 unfold Kp;rw[if_neg (by omega)];by_cases h0:n=0
 ·subst h0;cases d with
  |zero=>omega
  |succ d=>simp[yX]
 ·exact FV d n d h (Nat.le_refl _) (by omega) d
theorem Ee (b0:Int):∀ (n i:Nat) (a b:Int),0≤a→0≤b→b.toNat<n→aw (jz b0) n i (a,b)=.inl ((Nat.gcd a.toNat b.toNat:Nat):Int)
 |0,_,_,_,_,_,h=>by omega
 |n+1,i,a,b,ha,hb,h=>by
  simp only[aw,jz];by_cases h0:b > 0
  ·rw[decide_eq_true h0];simp only[cond_true];have e1:=Int.tmod_eq_emod_of_nonneg (b:=b) ha;have e2:=Int.emod_nonneg a (by omega:b≠0);have e3:=Int.emod_lt_of_pos a h0;rw[e1,Ee b0 n (i+1) b (a % b) hb e2 (by omega)];have e4:(a % b).toNat=a.toNat % b.toNat:=by
    obtain⟨x,rfl⟩:=Int.eq_ofNat_of_zero_le ha;obtain⟨y,rfl⟩:=Int.eq_ofNat_of_zero_le hb;simp only[←Int.natCast_emod,Int.toNat_natCast]
   rw[e4,Nat.gcd_comm a.toNat b.toNat,Nat.gcd_rec b.toNat a.toNat,Nat.gcd_comm]
  ·rw[decide_eq_false h0];have:b=0:=by omega
   subst this;simp only[cond_false,Int.toNat_zero,Nat.gcd_zero_right];rw[Int.toNat_of_nonneg ha]
theorem zA {a b:Int}(ha:0≤a)(hb:0≤b):tb a b=((Nat.gcd a.toNat b.toNat:Nat):Int):=by
 unfold tb;rw[Ee b _ 0 a b ha hb (by omega)]
theorem Kw {a b:Int}(ha:0≤a)(hb:0≤b):uX a b:=by
 refine⟨mL _ _ _ fun j s _ _ h=>?_,fun z h=>?_⟩
 ·simp only[decide_eq_true_eq]at h;omega
 ·rw[Ee b _ 0 a b ha hb (by omega)]at h;cases h
theorem MX {n:Int}(h0:0≤n)(h1:n<18446744073709551616):u64.wrap n=n:=by
 simp only[IntKind.wrap,IntKind.bits,IntKind.signed];simp;omega
theorem Ch {n:Int}(h0: -1073741824≤n)(h1:n≤1073741824):gj n=(n.natAbs:Int):=by
 unfold gj;by_cases h:n<0
 ·rw[decide_eq_true h];simp only[cond_true,IntKind.wrap,IntKind.bits,IntKind.signed];simp;omega
 ·rw[decide_eq_false h];simp only[cond_false];rw[MX (by omega) (by omega)];omega
theorem BE {n:Int}(h0: -1073741824≤n)(h1:n≤1073741824):uJ n=(n.natAbs:Int):=by
 unfold uJ;by_cases h:n<0
 ·rw[decide_eq_true h];simp only[cond_true];rw[f6 (by omega) (by omega)];omega
 ·rw[decide_eq_false h];simp only[cond_false];omega
structure RatioOk (a:Ratio):Prop where
 d1:1≤a.d
 d:a.d≤1073741824
 n0: -1073741824≤a.n
 n:a.n≤1073741824
 gcd:Nat.gcd a.n.natAbs a.d.toNat=1
theorem ww (a:Ratio):dR a=0↔RatioOk a:=by
 unfold dR;cases h:((((decide (a.d<1)) ||(decide (a.d > 1073741824))) ||(decide (a.n< (-1073741824)))) ||(decide (a.n > 1073741824)))with
 |true=>
  simp only[Bool.true_or,cond_true];simp only[Bool.or_eq_true,decide_eq_true_eq]at h;refine⟨fun e=>(by cases e),fun r=>?_⟩;have:=r.d1;have:=r.d;have:=r.n0;have:=r.n;omega
 |false=>
  simp only[Bool.or_eq_false_iff,decide_eq_false_iff_not]at h;rw[Ch (by omega) (by omega),MX (by omega) (by omega),Int.toNat_natCast,MW (by omega)];simp only[Bool.false_or];by_cases hg:Nat.gcd a.n.natAbs a.d.toNat=1
  ·rw[hg];exact⟨fun _=>⟨by omega,by omega,by omega,by omega,hg⟩,fun _=>rfl⟩
  ·have:((Nat.gcd a.n.natAbs a.d.toNat:Nat):Int)≠1:=by omega
   rw[bne_iff_ne.2 this];exact⟨fun e=>(by cases e),fun r=>absurd r.gcd hg⟩
theorem wx (a:Ratio):iQ a=true↔RatioOk a:=by
 unfold iQ;constructor
 ·intro h;simp only[Bool.and_eq_true,decide_eq_true_eq,beq_iff_eq]at h;obtain⟨⟨⟨⟨h1,h2⟩,h3⟩,h4⟩,h5⟩:=h;rw[BE (by omega) (by omega),zA (by omega) (by omega),Int.toNat_natCast]at h5;exact⟨h1,h2,h3,h4,by omega⟩
 ·intro r;have:=r.d1;have:=r.d;have:=r.n0;have:=r.n;simp only[Bool.and_eq_true,decide_eq_true_eq,beq_iff_eq];rw[BE (by omega) (by omega),zA (by omega) (by omega),Int.toNat_natCast,r.gcd];exact⟨⟨⟨⟨by omega,by omega⟩,by omega⟩,by omega⟩,rfl⟩
theorem MY (a:Ratio):dR a=0∨dR a=120:=by
 unfold dR;rw[Bool.cond_eq_ite];split <;>simp
theorem FW (a:Ratio):dR a=lV a:=by
 unfold lV;cases h:iQ a with
 |true=>exact(ww a).2 ((wx a).1 h)
 |false=>
  have:dR a≠0:=fun e=>by
   have:=(wx a).2 ((ww a).1 e);rw[h]at this;cases this
  have:=MY a;simp only[Bool.not_false,cond_true];omega
theorem yh (a:Ratio):iQ a=(dR a==0):=by
 cases h:iQ a with
 |true=>rw[(ww a).2 ((wx a).1 h)];rfl
 |false=>
  have:dR a≠0:=fun e=>by
   have:=(wx a).2 ((ww a).1 e);rw[h]at this;cases this
  simp[this]
theorem S7 (a b:Ratio):pA a b=wv a b:=by
 unfold pA wv xv xu;rw[yh,yh,v6];generalize i64.wrap (a.n*b.d)=x;generalize i64.wrap (b.n*a.d)=y;cases h1:(dR a==0) <;>cases h2:(dR b==0) <;>simp[bne,h1,h2,Bool.cond_eq_ite];split
 ·rfl
 ·split <;>rfl
theorem Ah (a:Ratio):qb a:=fun h=>by
 simp only[Bool.and_eq_true,decide_eq_true_eq]at h;rw[BE (by omega) (by omega)];exact Kw (by omega) (by omega)
theorem S8 (a b:Ratio):ye a b:=⟨Ah a,fun _=>Ah b⟩
theorem rG (a b c:Int):aA [a,b,c]=(decide (a≤b)&&decide (b≤c)):=by
 cases h:aA [a,b,c]with
 |true=>have:=I_ h;simp[this.1,this.2]
 |false=>
  by_cases h1:a≤b
  ·by_cases h2:b≤c
   ·rw[BC h1 h2]at h;cases h
   ·simp[h2]
  ·simp[h1]
theorem tW (a b c d:Int):aA [a,b,c,d]=(decide (a≤b)&&decide (b≤c)&&decide (c≤d)):=by
 cases h:aA [a,b,c,d]with
 |true=>have:=Ja h;simp[this.1,this.2.1,this.2.2]
 |false=>
  by_cases h1:a≤b
  ·by_cases h2:b≤c
   ·by_cases h3:c≤d
    ·rw[BD h1 h2 h3]at h;cases h
    ·simp[h3]
   ·simp[h2]
  ·simp[h1]
theorem Xi {a b:Bool}(h:a=true↔b=true):a=b:=by cases a <;>cases b <;>simp_all
theorem MZ (x:Ratio×Ratio):mM x=iR x:=by
 unfold mM iR;rw[S7,←FW,←FW];unfold wv xv;rw[yh,yh];cases h1:(dR x.1==0) <;>cases h2:(dR x.2==0) <;>simp[bne,h1,h2,Bool.cond_eq_ite]
 repeat' split
 all_goals simp
theorem S9 (i:Int)(x:Reach):j_ i x=true↔((i > 0∧0≤x.up∧x.up<i)∨(¬i > 0∧x.up= -1))∧(1≤x.delay∧x.delay≤16)∧(0≤x.siphon∧x.siphon≤x.cap∧x.cap≤1073741824)∧(x.siphon≤x.bank∧x.bank≤1099511627776)∧(0≤x.evap.lo∧x.evap.lo≤x.evap.hi∧x.evap.hi≤1073741824)∧iR x.seep=true:=by
 unfold j_ ev;rw[MZ,rG,tW,tW,tW];generalize iR x.seep=q;by_cases h:i > 0
 ·rw[decide_eq_true h];simp only[cond_true,Bool.and_eq_true,decide_eq_true_eq];cases q <;>simp only[Bool.false_eq_true,and_false,and_true] <;>omega
 ·rw[decide_eq_false h];simp only[cond_false,Bool.and_eq_true,decide_eq_true_eq,beq_iff_eq];cases q <;>simp only[Bool.false_eq_true,and_false,and_true] <;>omega
theorem S_ (x:Reach):vW x=true↔(1≤x.delay∧x.delay≤16)∧(0≤x.siphon∧x.siphon≤x.cap∧x.cap≤1073741824)∧(x.siphon≤x.bank∧x.bank≤1099511627776)∧(0≤x.evap.lo∧x.evap.lo≤x.evap.hi∧x.evap.hi≤1073741824)∧iR x.seep=true:=by
 unfold vW aI;generalize iR x.seep=q;have hb:∀ (A B:Bool) (q:Bool),(bif A then false else bif B then false else q)=true↔A=false∧B=false∧q=true:=fun A B q=>by cases A <;>cases B <;>simp
 rw[hb];simp only[Bool.or_eq_false_iff,Bool.not_eq_false',Bool.and_eq_true,decide_eq_true_eq,decide_eq_false_iff_not];by_cases h:x.bank<x.cap
 ·rw[if_pos h];cases q <;>simp only[Bool.false_eq_true,and_false,and_true] <;>omega
 ·rw[if_neg h];cases q <;>simp only[Bool.false_eq_true,and_false,and_true] <;>omega
theorem BF (l:List Reach)(k:Nat)(hk:k<4096):jA l k ()=.inr ()↔j_ (k:Int) (l.getD k default)=true:=by
 unfold jA aI;rw[S9];have hb:∀ A B:Bool,((bif A then Sum.inl ()else bif B then Sum.inl ()else Sum.inr ()):Unit⊕Unit)=.inr ()↔A=false∧B=false:=fun A B=>by cases A <;>cases B <;>simp
 rw[hb,Bool.not_eq_false',S_];generalize l.getD k default=x;generalize iR x.seep=q;by_cases h:0<k
 ·rw[Kv (by omega) h];simp only[Bool.or_eq_false_iff,Bool.and_eq_false_iff,Bool.not_eq_false',Bool.and_eq_true,decide_eq_true_eq,decide_eq_false_iff_not,beq_eq_false_iff_ne,bne_eq_false_iff_eq];cases q <;>simp only[Bool.false_eq_true,and_false,and_true] <;>omega
 ·have:k=0:=by omega
  subst this;simp only[Bool.or_eq_false_iff,Bool.and_eq_false_iff,Bool.not_eq_false',Bool.and_eq_true,decide_eq_true_eq,decide_eq_false_iff_not,beq_eq_false_iff_ne,bne_eq_false_iff_eq];cases q <;>simp only[Bool.false_eq_true,and_false,and_true] <;>omega
theorem HT {n:Nat}(h:n≤4096):i64.wrap ((n:Int) - 1)=(n:Int) - 1:=f6 (by omega) (by omega)
theorem PZ (x:ByteArray):(x==x)=true:=by
 cases x with
 |mk d=>
  show(d==d)=true;simp
theorem M0 (d:District)(x:Right)(h1:d.farms.length≤600)(h2:d.reaches.length≤64)(h3:1≤d.hours)(h4:d.hours≤4096):oO d x=vY d x:=by
 unfold oO vY ev aI;rw[tW,rG,rG,tW,HT (by omega),HT (by omega),f6 (by omega: -9223372036854775808≤d.hours - 1) (by omega)];rw[PZ];refine Xi ?_;have hb:∀ (A q:Bool),(bif A then false else q)=true↔A=false∧q=true:=fun A q=>by cases A <;>simp
 rw[hb,hb];have hc:∀ (k1 k2 k3 a b c:Bool),(bif k1 then a else bif k2 then b else bif k3 then c else false)=true↔(k1=true∧a=true)∨(k1=false∧k2=true∧b=true)∨(k1=false∧k2=false∧k3=true∧c=true):=fun k1 k2 k3 a b c=>by cases k1 <;>cases k2 <;>cases k3 <;>simp
 rw[hc,hc];simp only[Bool.or_eq_false_iff,Bool.and_eq_true,Bool.not_eq_false',decide_eq_true_eq,decide_eq_false_iff_not,beq_iff_eq,beq_eq_false_iff_ne,and_true,true_and];omega
theorem ux (A:Bool):((bif A then Sum.inr ()else Sum.inl ()):Unit⊕Unit)=.inr ()↔A=true:=by cases A <;>simp
theorem uy (A:Bool):((bif A then Sum.inl ()else Sum.inr ()):Unit⊕Unit)=.inr ()↔A=false:=by cases A <;>simp
theorem C7 (d:District)(k:Nat):oP d k ()=.inr ()↔ez d 191 k ()=.inr ():=by
 unfold oP ez aI;rw[nE,uy,ux,rG];simp only[Bool.not_eq_false',Bool.and_eq_true,decide_eq_true_eq,ge_iff_le]
theorem C8 (d:District)(k:Nat)(h1:d.reaches.length≤64)(h2:d.crops.length≤32):oQ d k ()=.inr ()↔eA d 191 k ()=.inr ():=by
 unfold oQ eA aI ev;simp only[nE];rw[rG,HT (by omega),HT (by omega)];generalize d.farms.getD k default=x;have hb:∀ A B:Bool,((bif A then Sum.inl ()else bif B then Sum.inl ()else Sum.inr ()):Unit⊕Unit)=.inr ()↔A=false∧B=false:=fun A B=>by cases A <;>cases B <;>simp
 rw[hb];by_cases h:x.area > 0
 ·rw[decide_eq_true h];simp only[Bool.true_and,Bool.false_and,Bool.or_false,cond_true,ux,Bool.or_eq_false_iff,Bool.and_eq_false_iff,Bool.not_eq_false',Bool.and_eq_true,decide_eq_true_eq,decide_eq_false_iff_not,beq_eq_false_iff_ne,bne_eq_false_iff_eq];omega
 ·rw[decide_eq_false h];simp only[Bool.true_and,Bool.false_and,Bool.or_false,cond_false,ux,Bool.or_eq_false_iff,Bool.and_eq_false_iff,Bool.not_eq_false',Bool.and_eq_true,decide_eq_true_eq,decide_eq_false_iff_not,beq_eq_false_iff_ne,bne_eq_false_iff_eq,beq_iff_eq];omega
theorem C9 (d:District)(k:Nat)(h1:d.reaches.length≤64)(h2:d.farms.length≤600):oS d k ()=.inr ()↔fa d 191 k ()=.inr ():=by
 unfold oS fa aI ev;simp only[nE];rw[rG,HT (by omega),HT (by omega),ux,uy];simp only[Bool.or_eq_false_iff,Bool.not_eq_false',Bool.and_eq_true,decide_eq_true_eq];omega
theorem zB (d:District)(k:Nat)(h1:d.farms.length≤600)(h2:d.reaches.length≤64)(h3:1≤d.hours)(h4:d.hours≤4096):oR d k ()=.inr ()↔e_ d 191 k ()=.inr ():=by
 unfold oR e_;rw[nE,M0 d _ h1 h2 h3 h4,ux,uy,Bool.not_eq_false']
theorem m1 {r:Unit⊕Unit}{a b:Bool}:(match r with| .inl _=>a| .inr _=>b)=true↔(r=.inr ()∧b=true)∨((∃ y,r=.inl y)∧a=true):=by
 cases r with
 |inl y=>simp
 |inr y=>simp
theorem FX (d:District)(h1:d.reaches.length≤64)(h2:d.farms.length≤600)(h3:d.crops.length≤32):sP d=true↔(1≤d.hours∧d.hours≤4096)∧(0≤d.tank.start∧d.tank.start≤d.tank.cap∧d.tank.cap≤1099511627776)∧0<d.reaches.length∧
  (∀ k,k<d.reaches.length→ew d 191 k ()=.inr ())∧(∀ k,k<d.crops.length→ez d 191 k ()=.inr ())∧(∀ k,k<d.farms.length→eA d 191 k ()=.inr ())∧(∀ k,k<d.rights.length→e_ d 191 k ()=.inr ())∧(∀ k,k<d.duties.length→fa d 191 k ()=.inr ()):=by
 have hR:td d.reaches=true↔(∀ k,k<d.reaches.length→ew d 191 k ()=.inr ())∧0<d.reaches.length:=by
  unfold td;refine Iff.trans (m1 (r:=aw (jA d.reaches) d.reaches.length 0 ()) (a:=false) (b:=decide ((d.reaches.length:Int) > 0))) ?_;simp only[Bool.false_eq_true,and_false,or_false,decide_eq_true_eq];rw[jC];refine and_congr ⟨fun h k hk=>?_,fun h k hk=>?_⟩ (by omega)
  ·unfold ew;rw[nE,ux];exact(BF _ k (by omega)).1 (h k hk)
  ·have:=h k hk;unfold ew at this;rw[nE,ux]at this;exact(BF _ k (by omega)).2 this
 have hF:vX d=true↔(∀ k,k<d.crops.length→ez d 191 k ()=.inr ())∧(∀ k,k<d.farms.length→eA d 191 k ()=.inr ()):=by
  unfold vX;refine Iff.trans (m1 (r:=aw (oP d) d.crops.length 0 ()) (a:=false) (b:=match aw (oQ d) d.farms.length 0 ()with| .inl _=>false| .inr _=>true)) ?_;simp only[Bool.false_eq_true,and_false,or_false];rw[jC];refine Iff.trans (and_congr_right fun _=>m1) ?_;simp only[Bool.false_eq_true,and_false,or_false,and_true];rw[jC];exact and_congr ⟨fun h k hk=>(C7 d k).1 (h k hk),fun h k hk=>(C7 d k).2 (h k hk)⟩ ⟨fun h k hk=>(C8 d k h1 h3).1 (h k hk),fun h k hk=>(C8 d k h1 h3).2 (h k hk)⟩
 unfold sP;have hb:∀ A B q:Bool,(bif A then false else bif B then false else q)=true↔A=false∧B=false∧q=true:=fun A B q=>by cases A <;>cases B <;>simp
 rw[hb];refine Iff.trans (and_congr_right fun _=>and_congr_right fun _=>Iff.trans (m1 (r:=aw (oR d) d.rights.length 0 ()) (a:=false) (b:=match aw (oS d) d.duties.length 0 ()with| .inl _=>false| .inr _=>true)) (or_congr_left (and_congr_right fun _=>m1))) ?_;simp only[Bool.false_eq_true,and_false,or_false,and_true];rw[jC,jC];simp only[Bool.or_eq_false_iff,Bool.not_eq_false',hR,hF,aI,Bool.and_eq_true,decide_eq_true_eq,decide_eq_false_iff_not];constructor
 ·rintro⟨⟨⟨a1,a2⟩,a3⟩,⟨⟨b1,b2⟩,b3,b4⟩,b5,b6⟩;refine⟨by omega,by omega,b2,b1,b3,b4,fun k hk=>(zB d k h2 h1 (by omega) (by omega)).1 (b5 k hk),fun k hk=>(C9 d k h1 h2).1 (b6 k hk)⟩
 ·rintro⟨a1,a2,a3,b1,b2,b3,b4,b5⟩;refine⟨⟨⟨by omega,by omega⟩,by omega⟩,⟨⟨b1,a3⟩,b2,b3⟩,fun k hk=>(zB d k h2 h1 (by omega) (by omega)).2 (b4 k hk),fun k hk=>(C9 d k h1 h2).2 (b5 k hk)⟩
theorem tX (d:District):bN d=fB d:=by
 have hs:=ow d;unfold fB;by_cases hl:d.reaches.length≤64∧d.farms.length≤600∧d.crops.length≤32∧d.rights.length≤256∧d.duties.length≤256
 ·have e1:(((((decide ((d.reaches.length:Int) > 64)) ||(decide ((d.farms.length:Int) > 600))) ||(decide ((d.crops.length:Int) > 32))) ||(decide ((d.rights.length:Int) > 256))) ||(decide ((d.duties.length:Int) > 256)))=false:=by
   simp only[Bool.or_eq_false_iff,decide_eq_false_iff_not];omega
  rw[e1];simp only[cond_false];have hv:=FX d hl.1 hl.2.1 hl.2.2.1;cases h:sP d with
  |true=>exact hs.2 ⟨hl,hv.1 h⟩
  |false=>
   have h0:bN d≠0:=fun e=>by
    have:=hv.2 (hs.1 e).2;rw[h]at this;cases this
   unfold bN at h0 ⊢;simp only[nE]at h0 ⊢;have e2:(((((decide ((d.reaches.length:Int)≤64))&&(decide ((d.farms.length:Int)≤600)))&&(decide ((d.crops.length:Int)≤32)))&&(decide ((d.rights.length:Int)≤256)))&&(decide ((d.duties.length:Int)≤256)))=true:=by
    simp only[Bool.and_eq_true,decide_eq_true_eq];omega
   rw[e2]at h0 ⊢;simp only[cond_true]at h0 ⊢;cases hx:f8 d 191 with
   |true=>rw[hx]at h0;simp at h0
   |false=>rfl
 ·have e1:(((((decide ((d.reaches.length:Int) > 64)) ||(decide ((d.farms.length:Int) > 600))) ||(decide ((d.crops.length:Int) > 32))) ||(decide ((d.rights.length:Int) > 256))) ||(decide ((d.duties.length:Int) > 256)))=true:=by
   simp only[Bool.or_eq_true,decide_eq_true_eq];omega
  rw[e1];unfold bN;simp only[nE];have e2:(((((decide ((d.reaches.length:Int)≤64))&&(decide ((d.farms.length:Int)≤600)))&&(decide ((d.crops.length:Int)≤32)))&&(decide ((d.rights.length:Int)≤256)))&&(decide ((d.duties.length:Int)≤256)))=false:=by
   simp only[Bool.and_eq_false_iff,decide_eq_false_iff_not];omega
  rw[e2];rfl
theorem M1 (x:Ratio×Ratio):vV x:=⟨Ah _,fun _=>Ah _,fun _=>S8 _ _⟩
theorem P0 (x:Reach):wV x:=fun _ _=>M1 _
theorem Kx (d:District):wW d:=fun _=>mL _ _ _ fun _ _ _ _ _ _=>P0 _
theorem C_ (d:District):tf d:=fun _ _=>Kx d
def aL (n:Int)(lo:Int)(hi:Int):Bool:=((decide (n≥lo))&&(decide (n≤hi)))
def lY (a0:District)(a1:Judgement):Bool:=(bif(((((!(aL a1.kind 1 4)) ||(!(aL a1.farm 0 (i64.wrap ((a0.farms.length:Int) - 1))))) ||(decide (a1.since<0))) ||(decide (a1.since > a1.to))) ||(decide (a1.to≥a0.hours)))then false else(bif(a1.kind==1)then((a1.other==0)&&(a1.n==0))else(bif(a1.kind==2)then((a1.other==0)&&(aL a1.n 1 1073741824))else(bif(((!(aL a1.other 0 (i64.wrap ((a0.farms.length:Int) - 1)))) ||(a1.other==a1.farm)) ||(!(aL a1.n 1 1073741824)))then false else((a1.kind==4) ||((a0.farms.getD (Int.toNat a1.other) (default:Farm)).reach==(a0.farms.getD (Int.toNat a1.farm) (default:Farm)).reach))))))
def Ci (a0:District)(a1:Judgement):Prop:=(a0.farms.length≤aQ→((((((!(aL a1.kind 1 4)) ||(!(aL a1.farm 0 (i64.wrap ((a0.farms.length:Int) - 1))))) ||(decide (a1.since<0))) ||(decide (a1.since > a1.to))) ||(decide (a1.to≥a0.hours)))=false→((a1.kind==1)=false→((a1.kind==2)=false→((((!(aL a1.other 0 (i64.wrap ((a0.farms.length:Int) - 1)))) ||(a1.other==a1.farm)) ||(!(aL a1.n 1 1073741824)))=false→(((a1.kind==4)=false→(0≤a1.other∧a1.other< (a0.farms.length:Int)))∧((a1.kind==4)=false→(0≤a1.farm∧a1.farm< (a0.farms.length:Int)))))))))
@[go_sem] def qQ (a0:List Judgement)(a1:Judgement)(k_0:Nat)(s_0:Bool):Unit⊕Bool:=(bif(((a0.getD k_0 (default:Judgement)).of_==0)&&((a0.getD k_0 (default:Judgement)).no==(i64.wrap (a1.of_ - 1))))then(bif((a0.getD k_0 (default:Judgement)).of_==a1.of_)then .inl ()else .inr true)else(bif((a0.getD k_0 (default:Judgement)).of_==a1.of_)then .inl ()else .inr s_0))
def mN (a0:List Judgement)(a1:Judgement):Bool:=(bif((((((a1.kind !=0) ||(a1.farm !=0)) ||(a1.other !=0)) ||(a1.since !=0)) ||(a1.to !=0)) ||(a1.n !=0))then false else(match aw (qQ a0 a1) a0.length 0 false with| .inl x_0_0=>false| .inr s_0=>s_0))
def iS (d:District)(before:List Judgement)(x:Judgement):Bool:=(bif(((!(aL x.no 0 1048576)) ||(!(aL x.hour 0 d.hours))) ||((decide ((before.length:Int) > 0))&&((decide (x.no≤(before.getD (Int.toNat (i64.wrap ((before.length:Int) - 1))) (default:Judgement)).no)) ||(decide (x.hour< (before.getD (Int.toNat (i64.wrap ((before.length:Int) - 1))) (default:Judgement)).hour)))))then false else(bif(x.of_==0)then(lY d x)else((decide (x.of_ > 0))&&(mN before x))))
def Cj (d:District)(before:List Judgement)(x:Judgement):Prop:=(before.length≤aQ→((((!(aL x.no 0 1048576)) ||(!(aL x.hour 0 d.hours)))=false→((decide ((before.length:Int) > 0))=true→(0≤(i64.wrap ((before.length:Int) - 1))∧(i64.wrap ((before.length:Int) - 1)) < (before.length:Int))))∧((((!(aL x.no 0 1048576)) ||(!(aL x.hour 0 d.hours)))=false→((decide ((before.length:Int) > 0))=true→((decide (x.no≤(before.getD (Int.toNat (i64.wrap ((before.length:Int) - 1))) (default:Judgement)).no))=false→(0≤(i64.wrap ((before.length:Int) - 1))∧(i64.wrap ((before.length:Int) - 1)) < (before.length:Int)))))∧((((!(aL x.no 0 1048576)) ||(!(aL x.hour 0 d.hours))) ||((decide ((before.length:Int) > 0))&&((decide (x.no≤(before.getD (Int.toNat (i64.wrap ((before.length:Int) - 1))) (default:Judgement)).no)) ||(decide (x.hour< (before.getD (Int.toNat (i64.wrap ((before.length:Int) - 1))) (default:Judgement)).hour)))))=false→((x.of_==0)=true→(Ci d x))))))
@[go_sem] def iu (d:District)(j:List Judgement)(k_0:Nat)(s_0:Unit):Unit⊕Unit:=(bif(!(iS d ((j.take k_0).drop 0) (j.getD k_0 (default:Judgement))))then .inl ()else .inr ())
def y8 (d:District)(j:List Judgement)(k_0:Nat)(s_0:Unit):Prop:=(j.length≤aQ→((0≤0∧0≤(k_0:Int)∧(k_0:Int)≤(j.length:Int))∧(Cj d ((j.take k_0).drop 0) (j.getD k_0 (default:Judgement)))))
def fC (d:District)(j:List Judgement):Int:=(bif((fB d) !=0)then(fB d)else(bif(decide ((j.length:Int) > 64))then 2 else(match aw (iu d j) j.length 0 ()with| .inl x_0_0=>530| .inr s_0=>0)))
def tj (d:District)(j:List Judgement):Prop:=((tf d)∧(((fB d) !=0)=false→(j.length≤aQ→((decide ((j.length:Int) > 64))=false→okI (iu d j) (y8 d j) j.length 0 ()))))
@[go_sem] def rX (j:List Judgement)(x:Judgement)(hour:Int)(k_0:Nat)(s_0:Unit):Unit⊕Unit:=(bif(((j.getD k_0 (default:Judgement)).of_==(i64.wrap (x.no+1)))&&(decide ((j.getD k_0 (default:Judgement)).hour≤hour)))then .inl ()else .inr ())
def sR (j:List Judgement)(x:Judgement)(hour:Int):Bool:=(match aw (rX j x hour) j.length 0 ()with| .inl x_0_0=>true| .inr s_0=>false)
def bh (j:List Judgement)(x:Judgement)(hour:Int):Bool:=(((((x.of_==0)&&(decide (x.hour≤hour)))&&(decide (x.since≤hour)))&&(decide (hour≤x.to)))&&(!(sR j x hour)))
end Go.Sx
end
section
namespace Go.Sx
open Go.RowKit
def Ky (k:Tag)(i:Nat)(t:List (Nat×SV))(h:List Ob):SV→St
 | .v (.slice none 0 0) =>⟨(i,.os h.length)::t,h++[.row k []]⟩
 |_=>⟨t,h⟩
def M2 (k:Tag)(id off:Nat)(t:List (Nat×SV))(h:List Ob)(l:List SV):Option SV→St
 |some (.v (.slice none 0 0)) =>⟨t,bo h id (.cells (l.set off (.os h.length)))++[.row k []]⟩
 |_=>⟨t,h⟩
def P1 (k:Tag)(id off:Nat)(t:List (Nat×SV))(h:List Ob):Ob→St
 | .cells l=>M2 k id off t h l (nth l off)
 |_=>⟨t,h⟩
def M3 (k:Tag)(t:List (Nat×SV))(h:List Ob):SV→St
 | .ptr id off=>P1 k id off t h (am h id)
 |_=>⟨t,h⟩
def FY (k:Tag):ResultVar→List (Nat×SV)→List Ob→St
 | .tmp i,t,h=>Ky k i t h (lk i t)
 | .cell i _,t,h=>M3 k t h (lk i t)
def BG:List (ResultVar×Tag)→St→St
 | [],st=>st
 |x::r,st=>BG r (FY x.2 x.1 st.t st.h)
theorem P2 (k:Tag)(r:ResultVar)(st:St):NilS st (FY k r st.t st.h):=by
 obtain⟨t,h⟩:=st;cases r with
 |tmp i=>
  show NilS _ (Ky k i t h (lk i t));unfold Ky;split
  ·rename_i e;exact .slot _ (.refl _) e (.inl ⟨_,rfl⟩)
  ·exact .refl _
 |cell i _=>
  show NilS _ (M3 k t h (lk i t));unfold M3;split
  ·unfold P1;split
   ·rename_i e;unfold M2;split
    ·rename_i e2;exact .cell _ (.refl _) e (by rw[←f5];exact e2) (.inl ⟨_,rfl⟩)
    ·exact .refl _
   ·exact .refl _
  ·exact .refl _
theorem NilS.trans {a b c:St}(h1:NilS a b)(h2:NilS b c):NilS a c:=by
 induction h2 with
 |refl=>exact h1
 |cell o _ e1 e2 ho ih=>exact .cell o ih e1 e2 ho
 |slot o _ e1 ho ih=>exact .slot o ih e1 ho
 |slotE k _ e1 ih=>exact .slotE k ih e1
theorem Ta (l:List (ResultVar×Tag)):∀ st,NilS st (BG l st):=by
 induction l with
 |nil=>exact fun st=>.refl _
 |cons x r ih=>exact fun st=>(P2 x.2 x.1 st).trans (ih _)
def Jb (l:List (ResultVar×Tag))(rs:List ResultVar)(ts:Tis)(post:SV→Prop)(pp:Value→Prop):Ex→St→Prop
 | .exit _,_=>False
 | .normal,st=>eu post (xe true rs ts (BG l st))
 | .ret,st=>eu post (xe true rs ts (BG l st))
 | .pan x,_=>pp x
section
variable {l:List (ResultVar×Tag)}{rs:List ResultVar}{ts:Tis}{post:SV→Prop}{pp:Value→Prop}{st:St}{k:Tag}{i id off:Nat}{t:List (Nat×SV)}{h:List Ob}{m:List SV}
@[go_sem] theorem Vq:Jb l rs ts post pp .ret st=eu post (xe true rs ts (BG l st)):=(rfl)
@[go_sem] theorem P3:Jb l rs ts post pp .normal st=eu post (xe true rs ts (BG l st)):=(rfl)
@[go_sem] theorem Vr {x:Value}:Jb l rs ts post pp (.pan x) st=pp x:=(rfl)
@[go_sem] theorem Xj:BG [] st=st:=(rfl)
@[go_sem] theorem Vs {r:ResultVar}:BG ((r,k)::l) ⟨t,h⟩=BG l (FY k r t h):=(rfl)
@[go_sem] theorem Vt:FY k (.tmp i) t h=Ky k i t h (lk i t):=(rfl)
@[go_sem] theorem Tb {ty:TypeId}:FY k (.cell i ty) t h=M3 k t h (lk i t):=(rfl)
@[go_sem] theorem Xk:Ky k i t h (.v (.slice none 0 0))=⟨(i,.os h.length)::t,h++[.row k []]⟩:=(rfl)
@[go_sem] theorem Zh:Ky k i t h (.os id)=⟨t,h⟩:=(rfl)
@[go_sem] theorem Xl:M3 k t h (.ptr id off)=P1 k id off t h (am h id):=(rfl)
@[go_sem] theorem Tc:P1 k id off t h (.cells m)=M2 k id off t h m (nth m off):=(rfl)
@[go_sem] theorem Xm:M2 k id off t h m (some (.v (.slice none 0 0)))=⟨t,bo h id (.cells (m.set off (.os h.length)))++[.row k []]⟩:=(rfl)
@[go_sem] theorem Zi:M2 k id off t h m (some (.os i))=⟨t,h⟩:=(rfl)
attribute [go_sem] List.set_cons_zero
end
section
variable {P:Program}{ts:Tis}{G:Cons}
theorem Ef (l:List (ResultVar×Tag)) (hm:P.follows .mixedOrders=true) (hts:ts.ok P) (hG:ConsOk P G) {f:FuncId} {fn:Func} {c:Code} (hf:P.funcs[f]? =some fn) (hb:fn.body=some c) (hname:(fn.name== "runtime.NumGoroutine")=false)
  (hc:cg fn.ntmps c=true) {C:List SV→Option Con}
  (h:∀ l0 con,C l0=some con→ax con→l0.length≤fn.ntmps∧∃ L,aq P none fn.ntmps L c∧exec ts G L c ⟨lM 0 l0,[]⟩ (Jb l fn.results.toList ts (df con) (lQ con))):FnOk P f C:=by
 refine⟨fun l con _ args w=>?_,fun l0 con hcon hpre F w vs hF hvs=>?_⟩
 ·have hn:¬fn.name= "runtime.NumGoroutine":=by simpa using hname
  simp[callFunc,hf,hn,hb]
 ·obtain⟨hlen,L,hl,hx⟩:=h l0 con hcon hpre;refine nU (n:=0) (callsIn_of_wp_marks hf hb trivial ?_);have hr:StRel F { w:=w,own:=cj} fn.ntmps cj ⟨lM 0 l0,[]⟩ { tmps:=vs++Array.replicate (fn.ntmps - vs.size) undef,defers:=[]} w:=
   ⟨by have:=hvs.1;simp;omega,Dfr.nil,uF hF,Fr.refl _,fun t=>lT hvs _ t⟩
  refine wpIn_mono (mK hm hts hG c hc hl F _ _ hx cj _ w hr) ?_;intro e a' w' hq;have key:∀ F1 own st,(∀ b,F b→F1 b)→StRel F1 { w:=w,own:=cj} fn.ntmps own st a' w'→eu (df con) (xe true fn.results.toList ts (BG l st))→LeavesInM (rd none) 0 P fn a'.tmps
    (fun e w'=>(∃ s u own',df con s∧e=.returned u∧Handed F w own' w' s u∧Below w.heap.size w w')∨(∃ x,lQ con x∧e=.panicked [{ v:=x,recovered:=false}]∧Below w.heap.size w w')) a'.defers .returning w':=by
   intro F1 own0' st0 hF1 hst0 hdone;obtain⟨own,hst⟩:=(Ta l st0).rel hst0;generalize BG l st0=st at hst hdone;refine iP hst (by simp) fun w2 hst2=>?_;have hst3:=hst2.less hF1 rfl;unfold xe at hdone;cases hs:kD (jv ts st fn.results.toList)with
   |none=>
    simp only[cond_true,JM]at hdone;rw[hs]at hdone;exact hdone.elim
   |some s=>
    obtain⟨u,e1,e2⟩:=uE (P:=P) hts hst3 hs;refine⟨u,e1,.inl ?_⟩;simp only[cond_true,JM]at hdone;rw[hs]at hdone;change eu (df con) (zo st.h s)at hdone;cases hg:zo st.h s with
    |none=>rw[hg]at hdone;exact hdone.elim
    |some s2=>
     rw[hg]at hdone;obtain⟨own',hh⟩:=IH hst3 e2 hg;exact⟨_,u,own',hdone,rfl,hh,oL hst3.fr⟩
  cases e with
  |normal=>obtain⟨F1,own,st,h0,h1,h2⟩:=hq;exact key F1 own st h0 h1 h2
  |ret=>obtain⟨F1,own,st,h0,h1,h2⟩:=hq;exact key F1 own st h0 h1 h2
  |exit id=>obtain⟨F1,own,st,h0,h1,h2⟩:=hq;exact h2.elim
  |panic ch=>
   obtain⟨x,F1,own,st,h0,h1,h2,rfl⟩:=hq;exact iP h1 (by simp) fun w2 hst2=>.inr ⟨x,h2,rfl,oL hst2.fr⟩
  |_=>exact hq.elim
end
end Go.Sx
end
section
namespace Go.Sx
open Go.Proofs
open IntKind (i64)
@[go_sem] def gF (l_:List Claim)(x:Claim)(k_0:Nat)(s_0:List Claim×Int):(Int×List Claim)⊕(List Claim×Int):=(bif((decide (s_0.2< (l_.length:Int)))&&(aK (l_.getD (Int.toNat s_0.2) (default:Claim)) x))then .inr ((s_0.1++([(l_.getD (Int.toNat s_0.2) (default:Claim))])),(i64.wrap (s_0.2+1)))else .inl (s_0.2,s_0.1))
def lZ (l_:List Claim)(x:Claim)(k_0:Nat)(s_0:List Claim×Int):Prop:=(l_.length≤aQ→(((decide (s_0.2< (l_.length:Int)))=true→(0≤s_0.2∧s_0.2< (l_.length:Int)))∧(((decide (s_0.2< (l_.length:Int)))&&(aK (l_.getD (Int.toNat s_0.2) (default:Claim)) x))=true→((0≤s_0.2∧s_0.2< (l_.length:Int))∧((s_0.1++([(l_.getD (Int.toNat s_0.2) (default:Claim))])).length*40≤dq)))))
def pH (l_:List Claim)(x:Claim):List Claim:=(match aw (gF l_ x) (l_.length+1) 0 ([],0)with| .inl x_0_0=>(bif((decide (x_0_0.1< (l_.length:Int)))&&(!(aK x (l_.getD (Int.toNat x_0_0.1) (default:Claim)))))then((x_0_0.2++([({ right:=x.right,farm:=x.farm,hour:=x.hour,litres:=(i64.wrap (x.litres+(l_.getD (Int.toNat x_0_0.1) (default:Claim)).litres)),rank:=x.rank}:Claim)]))++((l_.take (Int.toNat (l_.length:Int))).drop (Int.toNat (i64.wrap (x_0_0.1+1)))))else((x_0_0.2++([x]))++((l_.take (Int.toNat (l_.length:Int))).drop (Int.toNat x_0_0.1)))) | .inr s_0=>default)
def l5 (l_:List Claim)(x:Claim):Prop:=(okI (gF l_ x) (lZ l_ x) (l_.length+1) 0 ([],0)∧(∀ z_,aw (gF l_ x) (l_.length+1) 0 ([],0)≠ .inr z_)∧(∀ x_0_0,aw (gF l_ x) (l_.length+1) 0 ([],0)=.inl x_0_0→(l_.length≤aQ→(((decide (x_0_0.1< (l_.length:Int)))=true→(0≤x_0_0.1∧x_0_0.1< (l_.length:Int)))∧((((decide (x_0_0.1< (l_.length:Int)))&&(!(aK x (l_.getD (Int.toNat x_0_0.1) (default:Claim)))))=true→((0≤x_0_0.1∧x_0_0.1< (l_.length:Int))∧(((x_0_0.2++([({ right:=x.right,farm:=x.farm,hour:=x.hour,litres:=(i64.wrap (x.litres+(l_.getD (Int.toNat x_0_0.1) (default:Claim)).litres)),rank:=x.rank}:Claim)])).length*40≤dq)∧((x_0_0.2++([({ right:=x.right,farm:=x.farm,hour:=x.hour,litres:=(i64.wrap (x.litres+(l_.getD (Int.toNat x_0_0.1) (default:Claim)).litres)),rank:=x.rank}:Claim)])).length≤aQ→((0≤(i64.wrap (x_0_0.1+1))∧(i64.wrap (x_0_0.1+1))≤(l_.length:Int)∧(l_.length:Int)≤(l_.length:Int))∧(((x_0_0.2++([({ right:=x.right,farm:=x.farm,hour:=x.hour,litres:=(i64.wrap (x.litres+(l_.getD (Int.toNat x_0_0.1) (default:Claim)).litres)),rank:=x.rank}:Claim)]))++((l_.take (Int.toNat (l_.length:Int))).drop (Int.toNat (i64.wrap (x_0_0.1+1))))).length*40≤dq))))))∧(((decide (x_0_0.1< (l_.length:Int)))&&(!(aK x (l_.getD (Int.toNat x_0_0.1) (default:Claim)))))=false→(((x_0_0.2++([x])).length*40≤dq)∧((x_0_0.2++([x])).length≤aQ→((0≤x_0_0.1∧x_0_0.1≤(l_.length:Int)∧(l_.length:Int)≤(l_.length:Int))∧(((x_0_0.2++([x]))++((l_.take (Int.toNat (l_.length:Int))).drop (Int.toNat x_0_0.1))).length*40≤dq))))))))))
@[go_sem] def l6 (l_:List Claim)(farm:Int)(k_0:Nat)(s_0:Int×List Claim):Empty⊕(Int×List Claim):=(bif((l_.getD k_0 (default:Claim)).farm==farm)then(bif(decide ((if s_0.1< (l_.getD k_0 (default:Claim)).litres then s_0.1 else(l_.getD k_0 (default:Claim)).litres) > 0))then .inr ((i64.wrap (s_0.1 - (if s_0.1< (l_.getD k_0 (default:Claim)).litres then s_0.1 else(l_.getD k_0 (default:Claim)).litres))),(s_0.2++([({ right:=(l_.getD k_0 (default:Claim)).right,farm:=(l_.getD k_0 (default:Claim)).farm,hour:=(l_.getD k_0 (default:Claim)).hour,litres:=(if s_0.1< (l_.getD k_0 (default:Claim)).litres then s_0.1 else(l_.getD k_0 (default:Claim)).litres),rank:=(l_.getD k_0 (default:Claim)).rank}:Claim)])))else .inr ((i64.wrap (s_0.1 - (if s_0.1< (l_.getD k_0 (default:Claim)).litres then s_0.1 else(l_.getD k_0 (default:Claim)).litres))),s_0.2))else(bif(decide ((l_.getD k_0 (default:Claim)).litres > 0))then .inr (s_0.1,(s_0.2++([(l_.getD k_0 (default:Claim))])))else .inr (s_0.1,s_0.2)))
def pJ (l_:List Claim)(farm:Int)(k_0:Nat)(s_0:Int×List Claim):Prop:=(l_.length≤aQ→((((l_.getD k_0 (default:Claim)).farm==farm)=true→((decide ((if s_0.1< (l_.getD k_0 (default:Claim)).litres then s_0.1 else(l_.getD k_0 (default:Claim)).litres) > 0))=true→((s_0.2++([({ right:=(l_.getD k_0 (default:Claim)).right,farm:=(l_.getD k_0 (default:Claim)).farm,hour:=(l_.getD k_0 (default:Claim)).hour,litres:=(if s_0.1< (l_.getD k_0 (default:Claim)).litres then s_0.1 else(l_.getD k_0 (default:Claim)).litres),rank:=(l_.getD k_0 (default:Claim)).rank}:Claim)])).length*40≤dq)))∧(((l_.getD k_0 (default:Claim)).farm==farm)=false→((decide ((l_.getD k_0 (default:Claim)).litres > 0))=true→((s_0.2++([(l_.getD k_0 (default:Claim))])).length*40≤dq)))))
def eI (l_:List Claim)(farm:Int)(n:Int):List Claim:=(match aw (l6 l_ farm) l_.length 0 (n,[])with| .inl x=>x.elim| .inr s_0=>s_0.2)
def tl (l_:List Claim)(farm:Int)(n:Int):Prop:=okI (l6 l_ farm) (pJ l_ farm) l_.length 0 (n,[])
@[go_sem] def fX (a0:List Claim)(a1:Int)(a2:Int)(k_0:Nat)(s_0:Int×List Claim×List Claim×Int):(List Claim×List Claim)⊕(Int×List Claim×List Claim×Int):=(bif(decide (s_0.2.2.2≥0))then(bif((a0.getD (Int.toNat s_0.2.2.2) (default:Claim)).farm==a1)then(bif(decide ((if s_0.1< (a0.getD (Int.toNat s_0.2.2.2) (default:Claim)).litres then s_0.1 else(a0.getD (Int.toNat s_0.2.2.2) (default:Claim)).litres) > 0))then(bif(decide ((i64.wrap ((a0.getD (Int.toNat s_0.2.2.2) (default:Claim)).litres - (if s_0.1< (a0.getD (Int.toNat s_0.2.2.2) (default:Claim)).litres then s_0.1 else(a0.getD (Int.toNat s_0.2.2.2) (default:Claim)).litres))) > 0))then .inr ((i64.wrap (s_0.1 - (if s_0.1< (a0.getD (Int.toNat s_0.2.2.2) (default:Claim)).litres then s_0.1 else(a0.getD (Int.toNat s_0.2.2.2) (default:Claim)).litres))),(pH s_0.2.1 ({ right:=(a0.getD (Int.toNat s_0.2.2.2) (default:Claim)).right,farm:=(a0.getD (Int.toNat s_0.2.2.2) (default:Claim)).farm,hour:=(a0.getD (Int.toNat s_0.2.2.2) (default:Claim)).hour,litres:=(i64.wrap ((a0.getD (Int.toNat s_0.2.2.2) (default:Claim)).litres - (if s_0.1< (a0.getD (Int.toNat s_0.2.2.2) (default:Claim)).litres then s_0.1 else(a0.getD (Int.toNat s_0.2.2.2) (default:Claim)).litres))),rank:=(a0.getD (Int.toNat s_0.2.2.2) (default:Claim)).rank}:Claim)),(s_0.2.2.1++([({ right:=(a0.getD (Int.toNat s_0.2.2.2) (default:Claim)).right,farm:=a2,hour:=(a0.getD (Int.toNat s_0.2.2.2) (default:Claim)).hour,litres:=(if s_0.1< (a0.getD (Int.toNat s_0.2.2.2) (default:Claim)).litres then s_0.1 else(a0.getD (Int.toNat s_0.2.2.2) (default:Claim)).litres),rank:=(a0.getD (Int.toNat s_0.2.2.2) (default:Claim)).rank}:Claim)])),(i64.wrap (s_0.2.2.2 - 1)))else .inr ((i64.wrap (s_0.1 - (if s_0.1< (a0.getD (Int.toNat s_0.2.2.2) (default:Claim)).litres then s_0.1 else(a0.getD (Int.toNat s_0.2.2.2) (default:Claim)).litres))),s_0.2.1,(s_0.2.2.1++([({ right:=(a0.getD (Int.toNat s_0.2.2.2) (default:Claim)).right,farm:=a2,hour:=(a0.getD (Int.toNat s_0.2.2.2) (default:Claim)).hour,litres:=(if s_0.1< (a0.getD (Int.toNat s_0.2.2.2) (default:Claim)).litres then s_0.1 else(a0.getD (Int.toNat s_0.2.2.2) (default:Claim)).litres),rank:=(a0.getD (Int.toNat s_0.2.2.2) (default:Claim)).rank}:Claim)])),(i64.wrap (s_0.2.2.2 - 1))))else(bif(decide ((i64.wrap ((a0.getD (Int.toNat s_0.2.2.2) (default:Claim)).litres - (if s_0.1< (a0.getD (Int.toNat s_0.2.2.2) (default:Claim)).litres then s_0.1 else(a0.getD (Int.toNat s_0.2.2.2) (default:Claim)).litres))) > 0))then .inr ((i64.wrap (s_0.1 - (if s_0.1< (a0.getD (Int.toNat s_0.2.2.2) (default:Claim)).litres then s_0.1 else(a0.getD (Int.toNat s_0.2.2.2) (default:Claim)).litres))),(pH s_0.2.1 ({ right:=(a0.getD (Int.toNat s_0.2.2.2) (default:Claim)).right,farm:=(a0.getD (Int.toNat s_0.2.2.2) (default:Claim)).farm,hour:=(a0.getD (Int.toNat s_0.2.2.2) (default:Claim)).hour,litres:=(i64.wrap ((a0.getD (Int.toNat s_0.2.2.2) (default:Claim)).litres - (if s_0.1< (a0.getD (Int.toNat s_0.2.2.2) (default:Claim)).litres then s_0.1 else(a0.getD (Int.toNat s_0.2.2.2) (default:Claim)).litres))),rank:=(a0.getD (Int.toNat s_0.2.2.2) (default:Claim)).rank}:Claim)),s_0.2.2.1,(i64.wrap (s_0.2.2.2 - 1)))else .inr ((i64.wrap (s_0.1 - (if s_0.1< (a0.getD (Int.toNat s_0.2.2.2) (default:Claim)).litres then s_0.1 else(a0.getD (Int.toNat s_0.2.2.2) (default:Claim)).litres))),s_0.2.1,s_0.2.2.1,(i64.wrap (s_0.2.2.2 - 1)))))else(bif(decide ((a0.getD (Int.toNat s_0.2.2.2) (default:Claim)).litres > 0))then .inr (s_0.1,(pH s_0.2.1 (a0.getD (Int.toNat s_0.2.2.2) (default:Claim))),s_0.2.2.1,(i64.wrap (s_0.2.2.2 - 1)))else .inr (s_0.1,s_0.2.1,s_0.2.2.1,(i64.wrap (s_0.2.2.2 - 1)))))else .inl (s_0.2.1,s_0.2.2.1))
def kG (a0:List Claim)(a1:Int)(a2:Int)(k_0:Nat)(s_0:Int×List Claim×List Claim×Int):Prop:=((decide (s_0.2.2.2≥0))=true→((0≤s_0.2.2.2∧s_0.2.2.2< (a0.length:Int))∧((((a0.getD (Int.toNat s_0.2.2.2) (default:Claim)).farm==a1)=true→(((decide ((if s_0.1< (a0.getD (Int.toNat s_0.2.2.2) (default:Claim)).litres then s_0.1 else(a0.getD (Int.toNat s_0.2.2.2) (default:Claim)).litres) > 0))=true→(((s_0.2.2.1++([({ right:=(a0.getD (Int.toNat s_0.2.2.2) (default:Claim)).right,farm:=a2,hour:=(a0.getD (Int.toNat s_0.2.2.2) (default:Claim)).hour,litres:=(if s_0.1< (a0.getD (Int.toNat s_0.2.2.2) (default:Claim)).litres then s_0.1 else(a0.getD (Int.toNat s_0.2.2.2) (default:Claim)).litres),rank:=(a0.getD (Int.toNat s_0.2.2.2) (default:Claim)).rank}:Claim)])).length*40≤dq)∧((s_0.2.2.1++([({ right:=(a0.getD (Int.toNat s_0.2.2.2) (default:Claim)).right,farm:=a2,hour:=(a0.getD (Int.toNat s_0.2.2.2) (default:Claim)).hour,litres:=(if s_0.1< (a0.getD (Int.toNat s_0.2.2.2) (default:Claim)).litres then s_0.1 else(a0.getD (Int.toNat s_0.2.2.2) (default:Claim)).litres),rank:=(a0.getD (Int.toNat s_0.2.2.2) (default:Claim)).rank}:Claim)])).length≤aQ→((decide ((i64.wrap ((a0.getD (Int.toNat s_0.2.2.2) (default:Claim)).litres - (if s_0.1< (a0.getD (Int.toNat s_0.2.2.2) (default:Claim)).litres then s_0.1 else(a0.getD (Int.toNat s_0.2.2.2) (default:Claim)).litres))) > 0))=true→(l5 s_0.2.1 ({ right:=(a0.getD (Int.toNat s_0.2.2.2) (default:Claim)).right,farm:=(a0.getD (Int.toNat s_0.2.2.2) (default:Claim)).farm,hour:=(a0.getD (Int.toNat s_0.2.2.2) (default:Claim)).hour,litres:=(i64.wrap ((a0.getD (Int.toNat s_0.2.2.2) (default:Claim)).litres - (if s_0.1< (a0.getD (Int.toNat s_0.2.2.2) (default:Claim)).litres then s_0.1 else(a0.getD (Int.toNat s_0.2.2.2) (default:Claim)).litres))),rank:=(a0.getD (Int.toNat s_0.2.2.2) (default:Claim)).rank}:Claim))))))∧((decide ((if s_0.1< (a0.getD (Int.toNat s_0.2.2.2) (default:Claim)).litres then s_0.1 else(a0.getD (Int.toNat s_0.2.2.2) (default:Claim)).litres) > 0))=false→((decide ((i64.wrap ((a0.getD (Int.toNat s_0.2.2.2) (default:Claim)).litres - (if s_0.1< (a0.getD (Int.toNat s_0.2.2.2) (default:Claim)).litres then s_0.1 else(a0.getD (Int.toNat s_0.2.2.2) (default:Claim)).litres))) > 0))=true→(l5 s_0.2.1 ({ right:=(a0.getD (Int.toNat s_0.2.2.2) (default:Claim)).right,farm:=(a0.getD (Int.toNat s_0.2.2.2) (default:Claim)).farm,hour:=(a0.getD (Int.toNat s_0.2.2.2) (default:Claim)).hour,litres:=(i64.wrap ((a0.getD (Int.toNat s_0.2.2.2) (default:Claim)).litres - (if s_0.1< (a0.getD (Int.toNat s_0.2.2.2) (default:Claim)).litres then s_0.1 else(a0.getD (Int.toNat s_0.2.2.2) (default:Claim)).litres))),rank:=(a0.getD (Int.toNat s_0.2.2.2) (default:Claim)).rank}:Claim))))))∧(((a0.getD (Int.toNat s_0.2.2.2) (default:Claim)).farm==a1)=false→((decide ((a0.getD (Int.toNat s_0.2.2.2) (default:Claim)).litres > 0))=true→(l5 s_0.2.1 (a0.getD (Int.toNat s_0.2.2.2) (default:Claim))))))))
@[go_sem] def nF (x_0_0:List Claim×List Claim)(k_1:Nat)(s_1:List Claim):Empty⊕(List Claim):=.inr (pH s_1 (x_0_0.2.getD k_1 (default:Claim)))
def qR (x_0_0:List Claim×List Claim)(k_1:Nat)(s_1:List Claim):Prop:=(x_0_0.2.length≤aQ→(l5 s_1 (x_0_0.2.getD k_1 (default:Claim))))
def i6 (a0:List Claim)(a1:Int)(a2:Int)(a3:Int):List Claim:=(match aw (fX a0 a1 a2) (a0.length+1) 0 (a3,[],[],(i64.wrap ((a0.length:Int) - 1)))with| .inl x_0_0=>(match aw (nF x_0_0) x_0_0.2.length 0 x_0_0.1 with| .inl x=>x.elim| .inr s_1=>s_1) | .inr s_0=>default)
def rz (a0:List Claim)(a1:Int)(a2:Int)(a3:Int):Prop:=(a0.length≤aQ→(okI (fX a0 a1 a2) (kG a0 a1 a2) (a0.length+1) 0 (a3,[],[],(i64.wrap ((a0.length:Int) - 1)))∧(∀ z_,aw (fX a0 a1 a2) (a0.length+1) 0 (a3,[],[],(i64.wrap ((a0.length:Int) - 1)))≠ .inr z_)∧(∀ x_0_0,aw (fX a0 a1 a2) (a0.length+1) 0 (a3,[],[],(i64.wrap ((a0.length:Int) - 1)))=.inl x_0_0→okI (nF x_0_0) (qR x_0_0) x_0_0.2.length 0 x_0_0.1)))
@[go_sem] def kP (j:List Judgement)(h_:Int)(k_0:Nat)(s_0:List Claim):Empty⊕(List Claim):=(bif(!(bh j (j.getD k_0 (default:Judgement)) h_))then .inr s_0 else(bif((j.getD k_0 (default:Judgement)).kind==1)then .inr (eI s_0 ((j.getD k_0 (default:Judgement)).farm) 0)else(bif((j.getD k_0 (default:Judgement)).kind==2)then .inr (eI s_0 ((j.getD k_0 (default:Judgement)).farm) ((j.getD k_0 (default:Judgement)).n))else(bif((j.getD k_0 (default:Judgement)).kind==3)then .inr (i6 s_0 ((j.getD k_0 (default:Judgement)).farm) ((j.getD k_0 (default:Judgement)).other) ((j.getD k_0 (default:Judgement)).n))else .inr s_0))))
def uY (j:List Judgement)(h_:Int)(k_0:Nat)(s_0:List Claim):Prop:=(j.length≤aQ→((!(bh j (j.getD k_0 (default:Judgement)) h_))=false→((((j.getD k_0 (default:Judgement)).kind==1)=true→(tl s_0 ((j.getD k_0 (default:Judgement)).farm) 0))∧(((j.getD k_0 (default:Judgement)).kind==1)=false→((((j.getD k_0 (default:Judgement)).kind==2)=true→(tl s_0 ((j.getD k_0 (default:Judgement)).farm) ((j.getD k_0 (default:Judgement)).n)))∧(((j.getD k_0 (default:Judgement)).kind==2)=false→(((j.getD k_0 (default:Judgement)).kind==3)=true→(rz s_0 ((j.getD k_0 (default:Judgement)).farm) ((j.getD k_0 (default:Judgement)).other) ((j.getD k_0 (default:Judgement)).n)))))))))
def pK (l_:List Claim)(j:List Judgement)(h_:Int):List Claim:=(match aw (kP j h_) j.length 0 l_ with| .inl x=>x.elim| .inr s_0=>s_0)
def yi (l_:List Claim)(j:List Judgement)(h_:Int):Prop:=okI (kP j h_) (uY j h_) j.length 0 l_
@[go_sem] def b7 (a1:List Claim)(s_0:List Claim×Int)(k_1:Nat)(s_1:Int):Int⊕Int:=(bif((decide (s_1< (a1.length:Int)))&&((a1.getD (Int.toNat s_1) (default:Claim)).hour==(a1.getD (Int.toNat s_0.2) (default:Claim)).hour))then .inr (i64.wrap (s_1+1))else .inl s_1)
def n8 (a1:List Claim)(s_0:List Claim×Int)(k_1:Nat)(s_1:Int):Prop:=(a1.length≤aQ→(((decide (s_1< (a1.length:Int)))=true→(0≤s_1∧s_1< (a1.length:Int)))∧((decide (s_1< (a1.length:Int)))=true→(0≤s_0.2∧s_0.2< (a1.length:Int)))))
@[go_sem] def dx (a1:List Claim)(a2:List Judgement)(k_0:Nat)(s_0:List Claim×Int):(List Claim)⊕(List Claim×Int):=(bif(decide (s_0.2< (a1.length:Int)))then(match aw (b7 a1 s_0) (a1.length+1) 0 s_0.2 with| .inl x_1_0=>.inr ((s_0.1++(pK ((a1.take (Int.toNat x_1_0)).drop (Int.toNat s_0.2)) a2 ((a1.getD (Int.toNat s_0.2) (default:Claim)).hour))),x_1_0) | .inr s_1=>.inr default)else .inl s_0.1)
def n9 (a1:List Claim)(a2:List Judgement)(k_0:Nat)(s_0:List Claim×Int):Prop:=(a1.length≤aQ→((decide (s_0.2< (a1.length:Int)))=true→(okI (b7 a1 s_0) (n8 a1 s_0) (a1.length+1) 0 s_0.2∧(∀ z_,aw (b7 a1 s_0) (a1.length+1) 0 s_0.2≠ .inr z_)∧(∀ x_1_0,aw (b7 a1 s_0) (a1.length+1) 0 s_0.2=.inl x_1_0→((0≤s_0.2∧s_0.2≤x_1_0∧x_1_0≤(a1.length:Int))∧((0≤s_0.2∧s_0.2< (a1.length:Int))∧((yi ((a1.take (Int.toNat x_1_0)).drop (Int.toNat s_0.2)) a2 ((a1.getD (Int.toNat s_0.2) (default:Claim)).hour))∧((s_0.1++(pK ((a1.take (Int.toNat x_1_0)).drop (Int.toNat s_0.2)) a2 ((a1.getD (Int.toNat s_0.2) (default:Claim)).hour))).length*40≤dq))))))))
@[go_sem] def mO (x_0_0:List Claim)(k_2:Nat)(s_2:Unit):Unit⊕Unit:=(bif(decide ((x_0_0.getD k_2 (default:Claim)).litres > 1073741824))then .inl ()else .inr ())
def w7 (a0:District)(a1:List Claim)(a2:List Judgement):List Claim×Int:=(bif((fC a0 a2) !=0)then([],(fC a0 a2))else(bif((qt a0 a1) !=0)then([],(qt a0 a1))else(match aw (dx a1 a2) (a1.length+1) 0 ([],0)with| .inl x_0_0=>(bif(decide ((x_0_0.length:Int) > 4096))then([],2)else(match aw (mO x_0_0) x_0_0.length 0 ()with| .inl x_2_0=>([],2) | .inr s_2=>(x_0_0,0))) | .inr s_0=>default)))
def zW (a0:District)(a1:List Claim)(a2:List Judgement):Prop:=((tj a0 a2)∧(((fC a0 a2) !=0)=false→((wX a0 a1)∧(((qt a0 a1) !=0)=false→(okI (dx a1 a2) (n9 a1 a2) (a1.length+1) 0 ([],0)∧(∀ z_,aw (dx a1 a2) (a1.length+1) 0 ([],0)≠ .inr z_))))))
@[go_sem] def v7 (a1:List Judgement)(a2:Int)(k_0:Nat)(s_0:List Int):Empty⊕(List Int):=(bif((((a1.getD k_0 (default:Judgement)).kind==4)&&(decide ((a1.getD k_0 (default:Judgement)).hour≤a2)))&&(!(sR a1 (a1.getD k_0 (default:Judgement)) a2)))then .inr ((s_0.set (Int.toNat ((a1.getD k_0 (default:Judgement)).farm)) (i64.wrap ((s_0.getD (Int.toNat ((a1.getD k_0 (default:Judgement)).farm)) (0:Int))+(a1.getD k_0 (default:Judgement)).n))).set (Int.toNat ((a1.getD k_0 (default:Judgement)).other)) (i64.wrap (((s_0.set (Int.toNat ((a1.getD k_0 (default:Judgement)).farm)) (i64.wrap ((s_0.getD (Int.toNat ((a1.getD k_0 (default:Judgement)).farm)) (0:Int))+(a1.getD k_0 (default:Judgement)).n))).getD (Int.toNat ((a1.getD k_0 (default:Judgement)).other)) (0:Int)) - (a1.getD k_0 (default:Judgement)).n)))else .inr s_0)
def y9 (a1:List Judgement)(a2:Int)(k_0:Nat)(s_0:List Int):Prop:=(a1.length≤aQ→(((((a1.getD k_0 (default:Judgement)).kind==4)&&(decide ((a1.getD k_0 (default:Judgement)).hour≤a2)))&&(!(sR a1 (a1.getD k_0 (default:Judgement)) a2)))=true→((0≤(a1.getD k_0 (default:Judgement)).farm∧(a1.getD k_0 (default:Judgement)).farm< (s_0.length:Int))∧((0≤(a1.getD k_0 (default:Judgement)).farm∧(a1.getD k_0 (default:Judgement)).farm< (s_0.length:Int))∧((0≤(a1.getD k_0 (default:Judgement)).other∧(a1.getD k_0 (default:Judgement)).other< ((s_0.set (Int.toNat ((a1.getD k_0 (default:Judgement)).farm)) (i64.wrap ((s_0.getD (Int.toNat ((a1.getD k_0 (default:Judgement)).farm)) (0:Int))+(a1.getD k_0 (default:Judgement)).n))).length:Int))∧(0≤(a1.getD k_0 (default:Judgement)).other∧(a1.getD k_0 (default:Judgement)).other< ((s_0.set (Int.toNat ((a1.getD k_0 (default:Judgement)).farm)) (i64.wrap ((s_0.getD (Int.toNat ((a1.getD k_0 (default:Judgement)).farm)) (0:Int))+(a1.getD k_0 (default:Judgement)).n))).length:Int)))))))
def Ck (a0:District)(a1:List Judgement)(a2:Int):Prop:=((tj a0 a1)∧(((fC a0 a1) !=0)=false→((!(aL a2 0 a0.hours))=false→(a0.farms.length≤aQ→(((a0.farms.length:Int)=(a0.farms.length:Int)∧0≤(a0.farms.length:Int)∧(a0.farms.length:Int)*((8:Nat):Int)≤((dq:Nat):Int))∧((a0.farms.length:Int)≤((aQ:Nat):Int)→okI (v7 a1 a2) (y9 a1 a2) a1.length 0 (List.replicate (Int.toNat (a0.farms.length:Int)) (0:Int))))))))
def dB (i:Int)(d:District):Bool:=(aG i 0 (i64.wrap ((d.farms.length:Int) - 1)))
@[go_sem] def rg:List SV→Option Con:=(pI fun i=>(pX .district fun d=>(pE (.det True (.v (.bool (dB i d)))))))
theorem v8:FnOk Tryz.prog 109 rg:=by
 have hG:ConsOk Tryz.prog (mkG [(52,f9)] []):=av (cgc g6 cg0) cg0;refine ay [.o] mixed ap hG (fn:=Tryz.f109) (c:=ae Tryz.f109) kr kr kr kr (dh fun i=>(aR fun d=>(ak (fun hp=>?_))));dsimp only[ax]at hp;refine⟨nbl rfl,L0,ah _,?_⟩
 ·unfold ae Tryz.f109;try unfold dB
  exact zq1
def zX (a0:District)(a1:Judgement):Unit:=(bif(ar ((((aG a1.kind 1 4)&&(dB a1.farm a0))&&(aG a1.since 0 a1.to))&&(decide (a1.to<a0.hours))) 530)then(bif(ar (((a1.kind==1)&&(a1.n==0)) ||((a1.kind !=1)&&(aG a1.n 1 1073741824))) 530)then(bif(decide (a1.kind<3))then(bif(ar (a1.other==0) 530)then()else default)else(bif(ar ((dB a1.other a0)&&(a1.other !=a1.farm)) 530)then(bif(ar ((a1.kind==4) ||((a0.farms.getD (Int.toNat a1.other) (default:Farm)).reach==(a0.farms.getD (Int.toNat a1.farm) (default:Farm)).reach)) 530)then()else default)else default))else default)else default)
def sS (a0:District)(a1:Judgement):Prop:=((ar ((((aG a1.kind 1 4)&&(dB a1.farm a0))&&(aG a1.since 0 a1.to))&&(decide (a1.to<a0.hours))) 530)=true→((ar (((a1.kind==1)&&(a1.n==0)) ||((a1.kind !=1)&&(aG a1.n 1 1073741824))) 530)=true→((decide (a1.kind<3))=false→((ar ((dB a1.other a0)&&(a1.other !=a1.farm)) 530)=true→(((a1.kind==4)=false→(0≤a1.other∧a1.other< (a0.farms.length:Int)))∧((a1.kind==4)=false→(0≤a1.farm∧a1.farm< (a0.farms.length:Int))))))))
theorem P4 {n:Int}(h: -9223372036854775808≤n):i64.wrap n≤n:=by
 simp only[IntKind.wrap,IntKind.bits,IntKind.signed];simp;omega
theorem P5 (b:Bool)(e:Int):ar b e=b:=by cases b <;>rfl
theorem Xn (n lo hi:Int):aG n lo hi=true↔lo≤n∧n≤hi:=by
 unfold aG;simp[Bool.and_eq_true]
theorem xy (d:District)(x:Judgement):sS d x:=by
 intro h1 h2 h3 h4;rw[P5]at h1 h4;simp only[Bool.and_eq_true]at h1 h4;have a1:=h1.1.1.2;have a4:=h4.1;unfold dB at a1 a4;rw[Xn]at a1 a4;have:=P4 (n:=(d.farms.length:Int) - 1) (by omega);exact⟨fun _=>⟨by omega,by omega⟩,fun _=>⟨by omega,by omega⟩⟩
def iv (a0:District)(a1:Judgement):Bool:=(bif(ar ((((aG a1.kind 1 4)&&(dB a1.farm a0))&&(aG a1.since 0 a1.to))&&(decide (a1.to<a0.hours))) 530)then(bif(ar (((a1.kind==1)&&(a1.n==0)) ||((a1.kind !=1)&&(aG a1.n 1 1073741824))) 530)then(bif(decide (a1.kind<3))then(bif(ar (a1.other==0) 530)then true else false)else(bif(ar ((dB a1.other a0)&&(a1.other !=a1.farm)) 530)then(bif(ar ((a1.kind==4) ||((a0.farms.getD (Int.toNat a1.other) (default:Farm)).reach==(a0.farms.getD (Int.toNat a1.farm) (default:Farm)).reach)) 530)then true else false)else false))else false)else false)
@[go_sem] def sT:List SV→Option Con:=(pD .district fun a0=>(pD .judgement fun a1=>(pE (.may (iv a0 a1) (.tup []) (.iface 36 (.int .i64 530))))))
theorem xz:FnOk Tryz.prog 59 sT:=by
 have hG:ConsOk Tryz.prog (mkG [(52,f9),(58,jB),(109,rg)] []):=av (cgc g6 (cgc lw (cgc v8 cg0))) cg0;refine ay [] mixed ap hG (fn:=Tryz.f59) (c:=ae Tryz.f59) kr kr kr kr (bF fun a0=>(bF fun a1=>(ak (fun hp=>?_))));dsimp only[ax]at hp;have hp:=xy a0 a1;unfold sS at hp;refine⟨nbl rfl,L0,ah _,?_⟩
 ·unfold ae Tryz.f59;try unfold zX
  try unfold iv
  exact zq1
def lz (y:Judgement)(x:Judgement)(hour:Int):Bool:=((y.of_==(i64.wrap (x.no+1)))&&(decide (y.hour≤hour)))
@[go_sem] def rh:List SV→Option Con:=(pD .judgement fun y=>(pX .judgement fun x=>(pX .int fun hour=>(pE (.det True (.v (.bool (lz y x hour))))))))
theorem v_:FnOk Tryz.prog 104 rh:=by
 have hG:ConsOk Tryz.prog (mkG [] []):=av cg0 cg0;refine ay [.o] mixed ap hG (fn:=Tryz.f104) (c:=ae Tryz.f104) kr kr kr kr (bF fun y=>(aR fun x=>(aR fun hour=>(ak (fun hp=>?_)))));dsimp only[ax]at hp;refine⟨nbl rfl,L0,ah _,?_⟩
 ·unfold ae Tryz.f104;try unfold lz
  exact zq1
@[go_sem] def bG (s_:List Judgement)(x:Judgement)(hour:Int)(k_0:Nat)(s_0:Unit):Int⊕Unit:=(bif(lz (s_.getD k_0 (default:Judgement)) x hour)then .inl (k_0:Int)else .inr ())
def dy (s_:List Judgement)(x:Judgement)(hour:Int):Int:=(match aw (bG s_ x hour) s_.length 0 ()with| .inl x_0_0=>x_0_0| .inr s_0=>(-1))
@[go_sem] def fh:List SV→Option Con:=(pR .judgement fun s_=>(pFn 104 (pX .judgement fun x=>(pX .int fun hour=>(pE ((pE (.det True (.v (.int .i64 (dy s_ x hour)))))))))))
theorem iT:FnOk Tryz.prog 147 fh:=by
 have hG:ConsOk Tryz.prog (mkG [(104,rh)] []):=av (cgc v_ cg0) cg0;refine ay [.o] mixed ap hG (fn:=Tryz.f147) (c:=ae Tryz.f147) kr kr kr kr (bY fun s_=>(bB (aR fun x=>(aR fun hour=>(ak ((ak (fun hp=>?_))))))));dsimp only[ax]at hp;refine⟨nbl rfl,(fun id st=>bif Nat.beq id 0 then some (LCR (ρ:=Int) (σ:=Unit) 0 [] [] (fun k_0 s_0=>⟨[(0,.rs .judgement s_),(1,.fn 104 [] [.ep (cellsOf .judgement x) 0,.ep [.v (.int .i64 hour)] 0]),(7,.v (.int .i64 (s_.length:Int))),(8,.v (.int .i64 (k_0:Int)))],[]⟩) (bG s_ x hour) pT s_.length () (s_.length≤aQ) (fun _=>.ret) (fun x_0_0=>⟨[(4,.v (.int .i64 x_0_0))],[]⟩) st)else none),?_,?_⟩
 ·unfold ae Tryz.f147;simp only[aq,true_and,and_true]
  ·refine aY mixed ap hG kr (fun _=>rfl) (s_.length:Int) rfl im (fun hb0 k_0 s_0 hlt0 _ hw hc=>⟨L0,ah _,?_⟩) (fun hb0 s_0 hc=>?_)
   ·exact bZ (jl [])
   ·exact bQ (jl [])
 ·unfold ae Tryz.f147;try unfold dy
  exact zq1
def cT (s_:List Judgement)(x:Judgement)(hour:Int):Bool:=(decide ((dy s_ x hour)≥0))
@[go_sem] def eS:List SV→Option Con:=(pR .judgement fun s_=>(pFn 104 (pX .judgement fun x=>(pX .int fun hour=>(pE ((pE (.det True (.v (.bool (cT s_ x hour)))))))))))
theorem iw:FnOk Tryz.prog 103 eS:=by
 have hG:ConsOk Tryz.prog (mkG [(147,fun l=>fh (bA [.sl .judgement,.o] l))] []):=av (cgc (iT.norm [.sl .judgement,.o]) cg0) cg0;refine ay [.o] mixed ap hG (fn:=Tryz.f103) (c:=ae Tryz.f103) kr kr kr kr (bY fun s_=>(bB (aR fun x=>(aR fun hour=>(ak ((ak (fun hp=>?_))))))));dsimp only[ax]at hp;refine⟨nbl rfl,L0,ah _,?_⟩
 ·unfold ae Tryz.f103;try unfold cT
  exact zq1
def dY (j:List Judgement)(x:Judgement)(hour:Int):Bool:=(cT j x hour)
@[go_sem] def lA:List SV→Option Con:=(pR .judgement fun j=>(pD .judgement fun x=>(pI fun hour=>(pE (.det True (.v (.bool (dY j x hour))))))))
theorem rY:FnOk Tryz.prog 53 lA:=by
 have hG:ConsOk Tryz.prog (mkG [(103,fun l=>eS (bA [.sl .judgement,.o] l))] []):=av (cgc (iw.norm [.sl .judgement,.o]) cg0) cg0;refine ay [.o] mixed ap hG (fn:=Tryz.f53) (c:=ae Tryz.f53) kr kr kr kr (bY fun j=>(bF fun x=>(dh fun hour=>(ak (fun hp=>?_)))));dsimp only[ax]at hp;refine⟨nbl rfl,L0,ah _,?_⟩
 ·unfold ae Tryz.f53;try unfold dY
  exact zq1
@[go_sem] def dT (a0:District)(a1:List Judgement)(k_0:Nat)(s_0:List (Int×Bool)):Unit⊕(List (Int×Bool)):=(bif(ar ((aG ((a1.getD k_0 (default:Judgement)).no) 0 1048576)&&(aG ((a1.getD k_0 (default:Judgement)).hour) 0 a0.hours)) 530)then(bif(ar (((k_0:Int) ==0) ||((decide ((a1.getD k_0 (default:Judgement)).no > (a1.getD (Int.toNat (i64.wrap ((k_0:Int) - 1))) (default:Judgement)).no))&&(decide ((a1.getD k_0 (default:Judgement)).hour≥(a1.getD (Int.toNat (i64.wrap ((k_0:Int) - 1))) (default:Judgement)).hour)))) 530)then(bif((a1.getD k_0 (default:Judgement)).of_==0)then(bif(iv a0 (a1.getD k_0 (default:Judgement)))then .inr (lr .int .bool s_0 (i64.wrap ((a1.getD k_0 (default:Judgement)).no+1)) true)else .inl ())else(bif(ar ((fZ .int .bool s_0 ((a1.getD k_0 (default:Judgement)).of_))&&(((a1.getD k_0 (default:Judgement)).no==(a1.getD k_0 (default:Judgement)).no)&&(((a1.getD k_0 (default:Judgement)).hour==(a1.getD k_0 (default:Judgement)).hour)&&(((a1.getD k_0 (default:Judgement)).kind==0)&&(((a1.getD k_0 (default:Judgement)).farm==0)&&(((a1.getD k_0 (default:Judgement)).other==0)&&(((a1.getD k_0 (default:Judgement)).since==0)&&(((a1.getD k_0 (default:Judgement)).to==0)&&(((a1.getD k_0 (default:Judgement)).n==0)&&((a1.getD k_0 (default:Judgement)).of_==(a1.getD k_0 (default:Judgement)).of_)))))))))) 530)then .inr (xH .int .bool s_0 ((a1.getD k_0 (default:Judgement)).of_))else .inl ()))else .inl ())else .inl ())
def l7 (a0:District)(a1:List Judgement)(k_0:Nat)(s_0:List (Int×Bool)):Prop:=((ar ((aG ((a1.getD k_0 (default:Judgement)).no) 0 1048576)&&(aG ((a1.getD k_0 (default:Judgement)).hour) 0 a0.hours)) 530)=true→((((k_0:Int) ==0)=false→(0≤(i64.wrap ((k_0:Int) - 1))∧(i64.wrap ((k_0:Int) - 1)) < (a1.length:Int)))∧(((k_0:Int) ==0)=false→((decide ((a1.getD k_0 (default:Judgement)).no > (a1.getD (Int.toNat (i64.wrap ((k_0:Int) - 1))) (default:Judgement)).no))=true→(0≤(i64.wrap ((k_0:Int) - 1))∧(i64.wrap ((k_0:Int) - 1)) < (a1.length:Int))))))
def aO (a0:District)(a1:List Judgement):Int:=(bif((bN a0) !=0)then(bN a0)else(bif(ar (decide ((a1.length:Int)≤64)) 2)then(match aw (dT a0 a1) a1.length 0 ([])with| .inl x_0_0=>530| .inr s_0=>0)else 2))
def gT (a0:District)(a1:List Judgement):Prop:=(((bN a0) !=0)=false→(a1.length≤aQ→((ar (decide ((a1.length:Int)≤64)) 2)=true→(a1.length≤aQ→okI (dT a0 a1) (l7 a0 a1) a1.length 0 ([])))))
@[go_sem] def lB:List SV→Option Con:=(pD .district fun a0=>(pR .judgement fun a1=>(pE (.det (gT a0 a1) (.v (.int .i64 (aO a0 a1)))))))
theorem zq39 {p:Prop}(h:p:=by simp only[go_sem,Nat.reduceBEq,Nat.reduceLeDiff,Nat.reduceLT,decide_true,Nat.reduceAdd,Nat.reduceSub,Nat.reduceMul,Int.reduceLE,Int.reduceLT,Int.reduceToNat,Int.reduceNeg,reduceCtorEq,pz,nX,RCJ];all_goals exact cl):p:=h
theorem n_:FnOk Tryz.prog 16 lB:=by
 have hG:ConsOk Tryz.prog (mkG [(52,f9),(57,fun l=>rR (bA [.st .district] l)),(58,jB),(59,fun l=>sT (bA [.st .district,.st .judgement] l))] []):=av (cgc g6 (cgc (uU.norm [.st .district]) (cgc lw (cgc (xz.norm [.st .district,.st .judgement]) cg0)))) cg0;refine I8 Ec [.o] mixed ap hG (fn:=Tryz.f16) (c0:=pz (ae Tryz.f16)) (c1:=nX (nX (ae Tryz.f16))) (i1:=O1 (pz (nX (ae Tryz.f16)))) (o1:=Mm 0 (pz (nX (ae Tryz.f16)))) (q:=4) (tys:= #[104]) kr kr kr (by refine⟨?_,?_,?_⟩ <;>kernel_rfl) kr kr (bF fun a0=>(bY fun a1=>(ak (fun hp=>?_))));dsimp only[ax]at hp;unfold gT at hp;refine⟨nbl rfl,L0,(fun id st=>bif Nat.beq id 0 then some (LCR (ρ:=Unit) (σ:=(List (Int×Bool))) 3 [] [0,1,2] (fun k_0 s_0=>⟨[(1,.rs .judgement a1),(2,.ptr 0 0),(4,.ptr 1 0),(5,.os 2),(18,.rs .judgement a1),(19,.v (.int .i64 (a1.length:Int))),(20,.v (.int .i64 (k_0:Int)))],[.cells (cellsOf .district a0),.cells [.v (.int .i64 (bN a0))],.mp .int .bool s_0 none]⟩) (dT a0 a1) (l7 a0 a1) a1.length ([]) (a1.length≤aQ) (fun _=>.pan (.iface 36 (.int .i64 530))) (fun x_0_0=>⟨[(4,.ptr 1 0)],[.dead,.cells [.v (.int .i64 (bN a0))],.dead]⟩) st)else none),1,?_,?_,?_⟩
 ·unfold ae Tryz.f16;simp only[pz,aq,and_self,true_and,and_true]
 ·unfold ae Tryz.f16;simp only[nX];simp only[aq,true_and,and_true]
  ·refine aY mixed ap hG kr (fun _=>rfl) (a1.length:Int) rfl im (fun hb0 k_0 s_0 hlt0 hq0 hw hc=>⟨L0,ah _,?_⟩) (fun hb0 s_0 hc=>?_)
   ·unfold l7 at hq0;try simp only[hw,Int.toNat_natCast]at hq0
    exact bZ (jl [0,1,2])
   ·exact bQ (jl [0,1,2])
 ·unfold ae Tryz.f16;try unfold aO
  exact zq39
@[go_sem] def dU (a1:List Judgement)(a2:Int)(k_0:Nat)(s_0:List Int):Empty⊕(List Int):=(bif((((a1.getD k_0 (default:Judgement)).kind==4)&&(decide ((a1.getD k_0 (default:Judgement)).hour≤a2)))&&(!(dY a1 (a1.getD k_0 (default:Judgement)) a2)))then .inr ((s_0.set (Int.toNat ((a1.getD k_0 (default:Judgement)).farm)) (i64.wrap ((s_0.getD (Int.toNat ((a1.getD k_0 (default:Judgement)).farm)) (0:Int))+(a1.getD k_0 (default:Judgement)).n))).set (Int.toNat ((a1.getD k_0 (default:Judgement)).other)) (i64.wrap (((s_0.set (Int.toNat ((a1.getD k_0 (default:Judgement)).farm)) (i64.wrap ((s_0.getD (Int.toNat ((a1.getD k_0 (default:Judgement)).farm)) (0:Int))+(a1.getD k_0 (default:Judgement)).n))).getD (Int.toNat ((a1.getD k_0 (default:Judgement)).other)) (0:Int)) - (a1.getD k_0 (default:Judgement)).n)))else .inr s_0)
def l8 (a1:List Judgement)(a2:Int)(k_0:Nat)(s_0:List Int):Prop:=(((((a1.getD k_0 (default:Judgement)).kind==4)&&(decide ((a1.getD k_0 (default:Judgement)).hour≤a2)))&&(!(dY a1 (a1.getD k_0 (default:Judgement)) a2)))=true→((0≤(a1.getD k_0 (default:Judgement)).farm∧(a1.getD k_0 (default:Judgement)).farm< (s_0.length:Int))∧((0≤(a1.getD k_0 (default:Judgement)).farm∧(a1.getD k_0 (default:Judgement)).farm< (s_0.length:Int))∧((0≤(a1.getD k_0 (default:Judgement)).other∧(a1.getD k_0 (default:Judgement)).other< ((s_0.set (Int.toNat ((a1.getD k_0 (default:Judgement)).farm)) (i64.wrap ((s_0.getD (Int.toNat ((a1.getD k_0 (default:Judgement)).farm)) (0:Int))+(a1.getD k_0 (default:Judgement)).n))).length:Int))∧(0≤(a1.getD k_0 (default:Judgement)).other∧(a1.getD k_0 (default:Judgement)).other< ((s_0.set (Int.toNat ((a1.getD k_0 (default:Judgement)).farm)) (i64.wrap ((s_0.getD (Int.toNat ((a1.getD k_0 (default:Judgement)).farm)) (0:Int))+(a1.getD k_0 (default:Judgement)).n))).length:Int))))))
def aD (a0:District)(a1:List Judgement)(a2:Int):List Int×Int:=(bif((aO a0 a1) !=0)then([],(aO a0 a1))else(bif(!(aG a2 0 a0.hours))then([],1)else(match aw (dU a1 a2) a1.length 0 (List.replicate (Int.toNat (a0.farms.length:Int)) (0:Int))with| .inl x=>x.elim| .inr s_0=>(s_0,0))))
def gU (a0:District)(a1:List Judgement)(a2:Int):Prop:=((gT a0 a1)∧(((aO a0 a1) !=0)=false→((!(aG a2 0 a0.hours))=false→(a0.farms.length≤aQ→(((a0.farms.length:Int)=(a0.farms.length:Int)∧0≤(a0.farms.length:Int)∧(a0.farms.length:Int)*((8:Nat):Int)≤((dq:Nat):Int))∧((a0.farms.length:Int)≤((aQ:Nat):Int)→(a1.length≤aQ→okI (dU a1 a2) (l8 a1 a2) a1.length 0 (List.replicate (Int.toNat (a0.farms.length:Int)) (0:Int)))))))))
@[go_sem] def oV:List SV→Option Con:=(pD .district fun a0=>(pR .judgement fun a1=>(pI fun a2=>(pE (.det (gU a0 a1 a2) (.tup [.nw .int ((aD a0 a1 a2).1),.v (.int .i64 ((aD a0 a1 a2).2))]))))))
theorem rZ:FnOk Tryz.prog 14 oV:=by
 have hG:ConsOk Tryz.prog (mkG [(16,fun l=>lB (bA [.st .district,.sl .judgement] l)),(52,f9),(53,fun l=>lA (bA [.sl .judgement,.st .judgement,.o] l))] []):=av (cgc (n_.norm [.st .district,.sl .judgement]) (cgc g6 (cgc (rY.norm [.sl .judgement,.st .judgement,.o]) cg0))) cg0;refine Ef [(.tmp 6,.int)] mixed ap hG (fn:=Tryz.f14) (c:=ae Tryz.f14) kr kr kr kr (bF fun a0=>(bY fun a1=>(dh fun a2=>(ak (fun hp=>?_)))));dsimp only[ax]at hp;unfold gU at hp;refine⟨nbl rfl,(fun id st=>bif Nat.beq id 0 then some (LCR (ρ:=Empty) (σ:=(List Int)) 2 [] [0,1] (fun k_0 s_0=>⟨[(1,.rs .judgement a1),(2,.v (.int .i64 a2)),(6,.os 1),(25,.rs .judgement a1),(26,.v (.int .i64 (a1.length:Int))),(27,.v (.int .i64 (k_0:Int)))],[.dead,.row .int s_0]⟩) (dU a1 a2) (l8 a1 a2) a1.length (List.replicate (Int.toNat (a0.farms.length:Int)) (0:Int)) (a1.length≤aQ) ((·.elim)) ((·.elim)) st)else none),?_,?_⟩
 ·unfold ae Tryz.f14;simp only[aq,true_and,and_true]
  ·refine aY mixed ap hG kr (fun _=>rfl) (a1.length:Int) rfl im (fun hb0 k_0 s_0 hlt0 hq0 hw hc=>⟨L0,ah _,?_⟩) (fun hb0 s_0 hc=>?_)
   ·unfold l8 at hq0;try simp only[hw,Int.toNat_natCast]at hq0
    exact bZ (jl [0,1])
   ·exact bQ (jl [0,1])
 ·unfold ae Tryz.f14;try unfold aD
  exact zq1
theorem Eg (b:Bool)(e:Int):ar b e=b:=by cases b <;>rfl
theorem Q7 (n lo hi:Int):aG n lo hi=(decide (lo≤n)&&decide (n≤hi)):=rfl
theorem FZ (n lo hi:Int):aL n lo hi=(decide (lo≤n)&&decide (n≤hi)):=rfl
theorem HU (d:District)(x:Judgement):iv d x=lY d x:=by
 unfold iv lY;simp only[Eg,Q7,FZ,dB];generalize ((d.farms.getD (Int.toNat x.other) (default:Farm)).reach==(d.farms.getD (Int.toNat x.farm) (default:Farm)).reach)=R;generalize i64.wrap ((d.farms.length:Int) - 1)=m;rw[Bool.eq_iff_iff];cases R <;>simp[Bool.cond_eq_ite] <;>grind
structure JInv (b:List Judgement)(s:List (Int×Bool)):Prop where
 nd:(rT s).Nodup
 val:∀ z:Int,fZ .int .bool s z=true↔(∃ y∈b,y.of_=0∧y.no+1=z)∧¬ ∃ y∈b,y.of_=z
 no:∀ y∈b,0≤y.no∧y.no≤1048576
 of:∀ y∈b,y.of_≠0→∃ z∈b,y.of_=z.no+1
 last:∀ y∈b,y.no≤(b.getD (b.length - 1) default).no
theorem M4:JInv [] []:=⟨List.nodup_nil,fun z=>⟨fun h=>(by cases h),fun⟨⟨y,hy,_⟩,_⟩ =>(by cases hy)⟩,fun y hy=>(by cases hy),fun y hy=>(by cases hy),fun y hy=>(by cases hy)⟩
theorem xA (b:List Judgement)(x:Judgement):∀ (n k:Nat) (s:Bool),k+n=b.length→
  aw (qQ b x) n k s=bif(b.drop k).any (fun y=>y.of_==x.of_)then .inl ()else .inr (s||(b.drop k).any (fun y=>y.of_==0&&y.no==i64.wrap (x.of_ - 1)))
 |0,k,s,h=>by
  have:b.drop k=[]:=List.drop_eq_nil_of_le (by omega);simp[this,aw]
 |n+1,k,s,h=>by
  have hk:k<b.length:=by omega
  rw[List.drop_eq_getElem_cons hk];simp only[aw,qQ,qe _ _ hk,List.any_cons];cases h1:(b[k].of_==x.of_) <;>cases h2:(b[k].of_==0&&b[k].no==i64.wrap (x.of_ - 1)) <;>simp only[cond_true,cond_false,Bool.true_or,Bool.false_or,Bool.or_true,Bool.or_false]
  ·rw[xA b x n (k+1) s (by omega)]
  ·rw[xA b x n (k+1) true (by omega)];simp
theorem BH (b:List Judgement)(x:Judgement)(h0:0<x.of_)(h1:x.of_<9223372036854775808):mN b x=true↔
  (x.kind=0∧x.farm=0∧x.other=0∧x.since=0∧x.to=0∧x.n=0)∧(∃ y∈b,y.of_=0∧y.no+1=x.of_)∧¬ ∃ y∈b,y.of_=x.of_:=by
 unfold mN;rw[xA b x b.length 0 false (by omega),List.drop_zero,f6 (by omega) (by omega)];have hA:(b.any fun y=>y.of_==x.of_)=true↔∃ y∈b,y.of_=x.of_:=by simp
 have hB:(b.any fun y=>y.of_==0&&y.no==x.of_ - 1)=true↔∃ y∈b,y.of_=0∧y.no+1=x.of_:=by
  simp only[List.any_eq_true,Bool.and_eq_true,beq_iff_eq];exact⟨fun⟨y,h1,h2,h3⟩ =>⟨y,h1,h2,by omega⟩,fun⟨y,h1,h2,h3⟩ =>⟨y,h1,h2,by omega⟩⟩
 rw[←hA,←hB];cases(b.any fun y=>y.of_==x.of_) <;>cases(b.any fun y=>y.of_==0&&y.no==x.of_ - 1) <;>simp <;>grind
theorem y_ {α:Type}(l:List α)(d:α){k:Nat}(h0:0<k)(h:k≤l.length):(l.take k).getD ((l.take k).length - 1) d=l.getD (k - 1) d:=by
 rw[List.length_take,Nat.min_eq_left h,List.getD_eq_getElem?_getD,List.getElem?_take_of_lt (by omega),←List.getD_eq_getElem?_getD]
theorem Eh (d:District)(j:List Judgement)(hj:∀ y∈j,-9223372036854775808≤y.of_∧y.of_<9223372036854775808)(hl:j.length≤64){k:Nat}(hk:k<j.length){s:List (Int×Bool)}(hs:JInv (j.take k) s):
  (iS d ((j.take k).drop 0) (j.getD k default)=true∧∃ s',dT d j k s=.inr s'∧JInv (j.take (k+1)) s')∨(iS d ((j.take k).drop 0) (j.getD k default)=false∧dT d j k s=.inl ()):=by
 have hlen:(j.take k).length=k:=by rw[List.length_take];omega
 rw[List.drop_zero];have hx:j.getD k default∈j:=by rw[qe _ _ hk];exact List.getElem_mem _
 have hof:=hj _ hx;have hT:j.take (k+1)=j.take k++[j.getD k default]:=by rw[List.take_add_one,qe _ _ hk,List.getElem?_eq_getElem hk];rfl
 have hlast:0<k→(j.take k).getD (Int.toNat (i64.wrap (((j.take k).length:Int) - 1))) default=j.getD (k - 1) default∧j.getD (Int.toNat (i64.wrap ((k:Int) - 1))) default=j.getD (k - 1) default:=fun h0=>by
  rw[hlen,f6 (by omega) (by omega),show((k:Int) - 1).toNat=k - 1 by omega];refine⟨?_,rfl⟩;have:=y_ j default h0 (by omega)
  rwa[hlen]at this
 generalize hxe:j.getD k default=x at *;have hx1:j.getD k (default:Judgement)=x:=hxe;generalize hpe:j.getD (k - 1) (default:Judgement)=p at *;have hbk:∀ y∈j.take k,0<k∧y.no≤p.no:=fun y hy=>by
  have h0:0<k:=by
   rcases Nat.eq_zero_or_pos k with h|h
   ·subst h;cases hy
   ·exact h
  have h1:=hs.last y hy;have h2:=y_ j (default:Judgement) h0 (by omega:k≤j.length);rw[h2,hpe]at h1;exact⟨h0,h1⟩
 have eB:((k:Int) ==0||(decide (x.no > (j.getD (Int.toNat (i64.wrap ((k:Int) - 1))) (default:Judgement)).no)&&decide (x.hour≥(j.getD (Int.toNat (i64.wrap ((k:Int) - 1))) (default:Judgement)).hour)))=decide (k=0∨p.no<x.no∧p.hour≤x.hour):=by
  by_cases h0:k=0
  ·subst h0;simp
  ·rw[(hlast (by omega)).2];rw[Bool.eq_iff_iff];simp[h0]
 have eR:(decide (((j.take k).length:Int) > 0)&&(decide (x.no≤((j.take k).getD (Int.toNat (i64.wrap (((j.take k).length:Int) - 1))) (default:Judgement)).no) ||decide (x.hour< ((j.take k).getD (Int.toNat (i64.wrap (((j.take k).length:Int) - 1))) (default:Judgement)).hour)))= !decide (k=0∨p.no<x.no∧p.hour≤x.hour):=by
  by_cases h0:k=0
  ·subst h0;simp
  ·rw[(hlast (by omega)).1,hlen];rw[Bool.eq_iff_iff];simp[h0];omega
 have e1:dT d j k s=bif(aL x.no 0 1048576&&aL x.hour 0 d.hours)&&decide (k=0∨p.no<x.no∧p.hour≤x.hour)then(bif x.of_==0 then(bif lY d x then .inr (lr .int .bool s (i64.wrap (x.no+1)) true)else .inl ())else(bif fZ .int .bool s x.of_&&decide (x.kind=0∧x.farm=0∧x.other=0∧x.since=0∧x.to=0∧x.n=0)then .inr (xH .int .bool s x.of_)else .inl ()))else .inl ():=by
  unfold dT;simp only[Eg,hx1,eB,HU];rw[show aG x.no 0 1048576=aL x.no 0 1048576 from rfl,show aG x.hour 0 d.hours=aL x.hour 0 d.hours from rfl];have eZ:(fZ .int .bool s x.of_&&(x.no==x.no&&(x.hour==x.hour&&(x.kind==0&&(x.farm==0&&(x.other==0&&(x.since==0&&(x.to==0&&(x.n==0&&x.of_==x.of_)))))))))=(fZ .int .bool s x.of_&&decide (x.kind=0∧x.farm=0∧x.other=0∧x.since=0∧x.to=0∧x.n=0)):=by
   congr 1
   rw[Bool.eq_iff_iff];simp
  rw[eZ];cases aL x.no 0 1048576&&aL x.hour 0 d.hours <;>cases decide (k=0∨p.no<x.no∧p.hour≤x.hour) <;>rfl
 have e2:iS d (j.take k) x=bif(aL x.no 0 1048576&&aL x.hour 0 d.hours)&&decide (k=0∨p.no<x.no∧p.hour≤x.hour)then(bif x.of_==0 then lY d x else(decide (x.of_ > 0)&&mN (j.take k) x))else false:=by
  unfold iS;rw[eR];cases aL x.no 0 1048576 <;>cases aL x.hour 0 d.hours <;>cases decide (k=0∨p.no<x.no∧p.hour≤x.hour) <;>rfl
 rw[e1,e2];cases hAB:(aL x.no 0 1048576&&aL x.hour 0 d.hours)&&decide (k=0∨p.no<x.no∧p.hour≤x.hour)with
 |false=>exact .inr ⟨rfl,rfl⟩
 |true=>
  simp only[Bool.and_eq_true,FZ,decide_eq_true_eq]at hAB;obtain⟨⟨⟨n1,n2⟩,_⟩,hB⟩:=hAB;have hno:∀ y∈j.take k,y.no<x.no:=fun y hy=>by
   obtain⟨h0,h1⟩:=hbk y hy;rcases hB with hB|hB <;>omega
  simp only[cond_true];have hlst:∀ y∈j.take (k+1),y.no≤((j.take (k+1)).getD ((j.take (k+1)).length - 1) default).no:=fun y hy=>by
   rw[y_ j default (by omega) (by omega:k+1≤j.length),Nat.add_sub_cancel,hx1];rw[hT]at hy;rcases List.mem_append.1 hy with hy|hy
   ·exact Int.le_of_lt (hno y hy)
   ·rw[List.mem_singleton.1 hy];exact Int.le_refl _
  have hnn:∀ y∈j.take (k+1),0≤y.no∧y.no≤1048576:=fun y hy=>by
   rw[hT]at hy;rcases List.mem_append.1 hy with hy|hy
   ·exact hs.no y hy
   ·rw[List.mem_singleton.1 hy];exact⟨n1,n2⟩
  cases ho:x.of_==0 with
  |true=>
   have ho':x.of_=0:=eq_of_beq ho;simp only[cond_true];cases hv:lY d x with
   |false=>exact .inr ⟨rfl,rfl⟩
   |true=>
    refine .inl ⟨rfl,_,rfl,(C4 _ _ _ hs.nd).1,fun z=>?_,hnn,fun y hy h0=>?_,hlst⟩
    ·rw[Ks,f6 (by omega) (by omega),hT];by_cases hz:z=x.no+1
     ·subst hz;rw[if_pos rfl];refine⟨fun _=>⟨⟨x,by simp,ho',rfl⟩,fun⟨y,hy,h1⟩ =>?_⟩,fun _=>rfl⟩;rcases List.mem_append.1 hy with hy|hy
      ·obtain⟨q,hq,h2⟩:=hs.of y hy (by omega);have:=hno q hq;omega
      ·rw[List.mem_singleton.1 hy]at h1;omega
     ·rw[if_neg hz,hs.val];constructor
      ·rintro⟨⟨y,hy,h1,h2⟩,h3⟩;refine⟨⟨y,List.mem_append_left _ hy,h1,h2⟩,fun⟨q,hq,h4⟩ =>?_⟩;rcases List.mem_append.1 hq with hq|hq
       ·exact h3 ⟨q,hq,h4⟩
       ·rw[List.mem_singleton.1 hq]at h4;have:=(hs.no y hy).1;omega
      ·rintro⟨⟨y,hy,h1,h2⟩,h3⟩;refine⟨?_,fun⟨q,hq,h4⟩ =>h3 ⟨q,List.mem_append_left _ hq,h4⟩⟩;rcases List.mem_append.1 hy with hy|hy
       ·exact⟨y,hy,h1,h2⟩
       ·rw[List.mem_singleton.1 hy]at h2;exact absurd h2.symm hz
    ·rw[hT]at hy ⊢;rcases List.mem_append.1 hy with hy|hy
     ·obtain⟨q,hq,h2⟩:=hs.of y hy h0;exact⟨q,List.mem_append_left _ hq,h2⟩
     ·rw[List.mem_singleton.1 hy]at h0;exact absurd ho' h0
  |false=>
   have ho':x.of_≠0:=fun e=>by rw[e]at ho;cases ho
   simp only[cond_false];have hC:(decide (x.of_ > 0)&&mN (j.take k) x)=(fZ .int .bool s x.of_&&decide (x.kind=0∧x.farm=0∧x.other=0∧x.since=0∧x.to=0∧x.n=0)):=by
    rw[Bool.eq_iff_iff];simp only[Bool.and_eq_true,decide_eq_true_eq];constructor
    ·rintro⟨h1,h2⟩;obtain⟨h3,h4⟩:=(BH _ x h1 hof.2).1 h2;exact⟨(hs.val _).2 h4,h3⟩
    ·rintro⟨h1,h2⟩;have h3:=(hs.val _).1 h1;have h4:0<x.of_:=by
      obtain⟨⟨y,hy,_,h5⟩,_⟩:=h3;have:=(hs.no y hy).1;omega
     exact⟨h4,(BH _ x h4 hof.2).2 ⟨h2,h3⟩⟩
   rw[hC];cases hv:(fZ .int .bool s x.of_&&decide (x.kind=0∧x.farm=0∧x.other=0∧x.since=0∧x.to=0∧x.n=0))with
   |false=>exact .inr ⟨rfl,rfl⟩
   |true=>
    simp only[Bool.and_eq_true]at hv;have h3:=(hs.val _).1 hv.1;refine .inl ⟨rfl,_,rfl,(y7 _ _ hs.nd).1,fun z=>?_,hnn,fun y hy h0=>?_,hlst⟩
    ·rw[Kt _ hs.nd,hT];by_cases hz:z=x.of_
     ·rw[if_pos hz];exact⟨fun h=>(by cases h),fun h=>absurd ⟨x,by simp,hz.symm⟩ h.2⟩
     ·rw[if_neg hz,hs.val];constructor
      ·rintro⟨⟨y,hy,h1,h2⟩,h4⟩;refine⟨⟨y,List.mem_append_left _ hy,h1,h2⟩,fun⟨q,hq,h5⟩ =>?_⟩;rcases List.mem_append.1 hq with hq|hq
       ·exact h4 ⟨q,hq,h5⟩
       ·rw[List.mem_singleton.1 hq]at h5;exact hz h5.symm
      ·rintro⟨⟨y,hy,h1,h2⟩,h4⟩;refine⟨?_,fun⟨q,hq,h5⟩ =>h4 ⟨q,List.mem_append_left _ hq,h5⟩⟩;rcases List.mem_append.1 hy with hy|hy
       ·exact⟨y,hy,h1,h2⟩
       ·rw[List.mem_singleton.1 hy]at h1;exact absurd h1 ho'
    ·rw[hT]at hy ⊢;rcases List.mem_append.1 hy with hy|hy
     ·obtain⟨q,hq,h2⟩:=hs.of y hy h0;exact⟨q,List.mem_append_left _ hq,h2⟩
     ·rw[List.mem_singleton.1 hy];obtain⟨⟨q,hq,_,h2⟩,_⟩:=h3;exact⟨q,List.mem_append_left _ hq,h2.symm⟩
theorem zC (d:District)(j:List Judgement)(hj:∀ y∈j,-9223372036854775808≤y.of_∧y.of_<9223372036854775808)(hl:j.length≤64):∀ (n k:Nat) (s:List (Int×Bool)),k+n=j.length→JInv (j.take k) s→
  (∃ s',aw (dT d j) n k s=.inr s'∧aw (iu d j) n k ()=.inr ())∨(aw (dT d j) n k s=.inl ()∧aw (iu d j) n k ()=.inl ())
 |0,k,s,h,hs=>.inl ⟨s,rfl,rfl⟩
 |n+1,k,s,h,hs=>by
  simp only[aw,iu];rcases Eh d j hj hl (by omega:k<j.length) hs with⟨h1,s',h2,h3⟩ | ⟨h1,h2⟩
  ·rw[h1,h2];simp only[Bool.not_true,cond_false];exact zC d j hj hl n (k+1) s' (by omega) h3
  ·rw[h1,h2];simp only[Bool.not_false,cond_true];exact .inr ⟨by simp,by simp⟩
theorem uK (d:District)(j:List Judgement)(hj:∀ y∈j,-9223372036854775808≤y.of_∧y.of_<9223372036854775808):aO d j=fC d j:=by
 unfold aO fC;rw[tX,Eg];cases hc:(fB d !=0)with
 |true=>rfl
 |false=>
  simp only[cond_false];by_cases hl:j.length≤64
  ·rw[decide_eq_true (by omega:(j.length:Int)≤64),decide_eq_false (by omega:¬ (j.length:Int) > 64)];simp only[cond_true,cond_false];rcases zC d j hj hl j.length 0 [] (by omega) M4 with⟨s',h1,h2⟩ | ⟨h1,h2⟩ <;>rw[h1,h2]
  ·rw[decide_eq_false (by omega:¬ (j.length:Int)≤64),decide_eq_true (by omega:(j.length:Int) > 64)];rfl
end Go.Sx
end
