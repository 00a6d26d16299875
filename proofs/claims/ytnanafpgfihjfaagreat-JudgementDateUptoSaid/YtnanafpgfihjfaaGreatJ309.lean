/- Part of the proof that the law JudgementDate returns true and leaves its arguments as they were, for all arguments of bulk at most 1048576 (the Upto form). -/
import Derived.Test.YtnanafpgfihjfaaGreatJ308
import Derived.Test.YtnanafpgfihjfaaGreatJ307
import Derived.Sort.Statements
import Derived.Shelf.SlSortCmp.Insertion
set_option linter.all false
set_option maxHeartbeats 4000000
set_option maxRecDepth 100000
section
namespace Go.Sx
open Go.Proofs
open IntKind (i64)
def zO (d:District):Bool:=((((((decide ((d.reaches.length:Int)≤100))&&(decide ((d.farms.length:Int)≤700)))&&(decide ((d.crops.length:Int)≤100)))&&(decide ((d.rights.length:Int)≤300)))&&(decide ((d.duties.length:Int)≤300)))&&(decide ((d.wells.length:Int)≤100)))
@[go_sem] def Ao:List SV→Option Con:=(pD .district fun d=>(pE (.det True (.v (.bool (zO d))))))
theorem E3:FnOk Tryz.prog 87 Ao:=by
 have hG:ConsOk Tryz.prog (mkG [] []):=ap cg0 cg0;refine av [.o] mixed al hG (fn:=Tryz.f87) (c:=ae Tryz.f87) kr kr kr kr (bp fun d=>(ai (fun hp=>?_)));dsimp only[ar]at hp;refine⟨nbl rfl,L0,ag _,?_⟩
 ·unfold ae Tryz.f87;try unfold zO
  exact zq1
def aD (n:Int)(lo:Int)(hi:Int):Bool:=((decide (n≥lo))&&(decide (n≤hi)))
@[go_sem] def jR (b:Int)(k_0:Nat)(s_0:Int×Int):Int⊕(Int×Int):=(bif(decide (s_0.2 > 0))then .inr (s_0.2,(Int.tmod s_0.1 s_0.2))else .inl s_0.1)
def x9 (b:Int)(k_0:Nat)(s_0:Int×Int):Prop:=((decide (s_0.2 > 0))=true→s_0.2≠0)
def tQ (a:Int)(b:Int):Int:=(match aq (jR b) (Int.toNat b+1) 0 (a,b)with| .inl x_0_0=>x_0_0| .inr s_0=>default)
def vH (a:Int)(b:Int):Prop:=(okI (jR b) (x9 b) (Int.toNat b+1) 0 (a,b)∧(∀ z_,aq (jR b) (Int.toNat b+1) 0 (a,b)≠ .inr z_))
def vh (n:Int):Int:=(bif(decide (n<0))then(i64.wrap (0 - n))else n)
def je (a:Ratio):Bool:=(((((decide (a.d≥1))&&(decide (a.d≤1073741824)))&&(decide (a.n≥(-1073741824))))&&(decide (a.n≤1073741824)))&&((tQ (vh a.n) a.d) ==1))
def qC (a:Ratio):Prop:=(((((decide (a.d≥1))&&(decide (a.d≤1073741824)))&&(decide (a.n≥(-1073741824))))&&(decide (a.n≤1073741824)))=true→(vH (vh a.n) a.d))
def mu (a:Ratio):Int:=(bif(!(je a))then 120 else 0)
def xE (a:Ratio):Prop:=(qC a)
def ya (a:Ratio)(b:Ratio):Bool:=(decide ((i64.wrap (a.n*b.d)) < (i64.wrap (b.n*a.d))))
def yb (a:Ratio)(b:Ratio):Bool:=((je a)&&(je b))
def yU (a:Ratio)(b:Ratio):Prop:=((qC a)∧((je a)=true→(qC b)))
def xb (a:Ratio)(b:Ratio):Int×Int:=(bif(!(yb a b))then(0,120)else(bif(ya a b)then((-1),0)else(bif(ya b a)then(1,0)else(0,0))))
def GK (a:Ratio)(b:Ratio):Prop:=(yU a b)
def jf (x:Ratio×Ratio):Bool:=(bif(((mu x.1) !=0) ||((mu x.2) !=0))then false else(((decide (x.1.n≥0))&&(decide ((xb x.1 x.2).1≤0)))&&(decide (x.2.n≤x.2.d))))
def wD (x:Ratio×Ratio):Prop:=((xE x.1)∧((((mu x.1) !=0)=false→(xE x.2))∧((((mu x.1) !=0) ||((mu x.2) !=0))=false→(GK x.1 x.2))))
def wE (x:Reach):Bool:=(bif(((!(aD x.delay 1 16)) ||(!(aD x.cap 0 1073741824))) ||(!(aD x.bank 0 1099511627776)))then false else(bif(((!(aD x.siphon 0 (if x.bank<x.cap then x.bank else x.cap))) ||(!(aD x.evap.lo 0 x.evap.hi))) ||(decide (x.evap.hi > 1073741824)))then false else(jf x.seep)))
def xF (x:Reach):Prop:=((((!(aD x.delay 1 16)) ||(!(aD x.cap 0 1073741824))) ||(!(aD x.bank 0 1099511627776)))=false→((((!(aD x.siphon 0 (if x.bank<x.cap then x.bank else x.cap))) ||(!(aD x.evap.lo 0 x.evap.hi))) ||(decide (x.evap.hi > 1073741824)))=false→(wD x.seep)))
@[go_sem] def jS (l_:List Reach)(k_0:Nat)(s_0:Unit):Unit⊕Unit:=letI q0:=l_.getD k_0 default;letI q1:=(k_0:Int);(bif(((q1==0)&&(q0.up !=(-1))) ||((decide (q1 > 0))&&(!(aD (q0.up) 0 (i64.wrap (q1 - 1))))))then .inl ()else(bif(!(wE q0))then .inl ()else .inr ()))
def yc (l_:List Reach)(k_0:Nat)(s_0:Unit):Prop:=(l_.length≤aL→(((((k_0:Int) ==0)&&((l_.getD k_0 default).up !=(-1))) ||((decide ((k_0:Int) > 0))&&(!(aD ((l_.getD k_0 default).up) 0 (i64.wrap ((k_0:Int) - 1))))))=false→(xF (l_.getD k_0 default))))
def tR (l_:List Reach):Bool:=(match aq (jS l_) l_.length 0 ()with| .inl x_0_0=>false| .inr s_0=>(decide ((l_.length:Int) > 0)))
def AK (l_:List Reach):Prop:=okI (jS l_) (yc l_) l_.length 0 ()
@[go_sem] def pi (a0:District)(k_0:Nat)(s_0:Unit):Unit⊕Unit:=(bif(!(aD ((a0.crops.getD k_0 default).need) 0 1048576))then .inl ()else .inr ())
@[go_sem] def pj (a0:District)(k_1:Nat)(s_1:Unit):Unit⊕Unit:=letI q0:=a0.farms.getD k_1 default;(bif((!(aD (q0.reach) 0 (i64.wrap ((a0.reaches.length:Int) - 1)))) ||(!(aD (q0.area) 0 1048576)))then .inl ()else(bif(((q0.area==0)&&(q0.crop !=(-1))) ||((decide (q0.area > 0))&&(!(aD (q0.crop) 0 (i64.wrap ((a0.crops.length:Int) - 1))))))then .inl ()else .inr ()))
def wF (a0:District):Bool:=(match aq (pi a0) a0.crops.length 0 ()with| .inl x_0_0=>false| .inr s_0=>(match aq (pj a0) a0.farms.length 0 ()with| .inl x_1_0=>false| .inr s_1=>true))
def wG (a0:District)(a1:Right):Bool:=letI q0:=(((a1.rank==0)&&(a1.litres==0))&&(a1.every==0))&&(a1.length==0);(bif((((!(aD a1.farm 0 (i64.wrap ((a0.farms.length:Int) - 1)))) ||(!(aD a1.reach 0 (i64.wrap ((a0.reaches.length:Int) - 1))))) ||(!(aD a1.since 0 a1.to))) ||(decide (a1.to≥a0.hours)))then false else(bif(a1.kind==1)then(((((a1.reach==0)&&(aD a1.rank 0 1048576))&&(aD a1.litres 1 1073741824))&&(aD a1.length 1 a1.every))&&(decide (a1.every≤a0.hours)))else(bif(a1.kind==2)then((q0&&(a1.since==0))&&(a1.to==(i64.wrap (a0.hours - 1))))else(bif(a1.kind==3)then q0 else false))))
@[go_sem] def pm (a0:District)(k_0:Nat)(s_0:Unit):Unit⊕Unit:=(bif(!(wG a0 (a0.rights.getD k_0 default)))then .inl ()else .inr ())
@[go_sem] def pn (a0:District)(k_1:Nat)(s_1:Unit):Unit⊕Unit:=letI q0:=a0.duties.getD k_1 default;(bif(((!(aD (q0.farm) 0 (i64.wrap ((a0.farms.length:Int) - 1)))) ||(!(aD (q0.reach) 0 (i64.wrap ((a0.reaches.length:Int) - 1))))) ||(!(aD (q0.due) 0 a0.hours)))then .inl ()else .inr ())
def tA (a0:District):Bool:=(bif(((!(aD a0.hours 1 4096)) ||(!(aD a0.tank.start 0 a0.tank.cap))) ||(decide (a0.tank.cap > 1099511627776)))then false else(bif((!(tR a0.reaches)) ||(!(wF a0)))then false else(match aq (pm a0) a0.rights.length 0 ()with| .inl x_0_0=>false| .inr s_0=>(match aq (pn a0) a0.duties.length 0 ()with| .inl x_1_0=>false| .inr s_1=>true))))
def xG (a0:District):Prop:=((((!(aD a0.hours 1 4096)) ||(!(aD a0.tank.start 0 a0.tank.cap))) ||(decide (a0.tank.cap > 1099511627776)))=false→(AK a0.reaches))
def fE (d:District):Int:=(bif(((((decide ((d.reaches.length:Int) > 64)) ||(decide ((d.farms.length:Int) > 600))) ||(decide ((d.crops.length:Int) > 32))) ||(decide ((d.rights.length:Int) > 256))) ||(decide ((d.duties.length:Int) > 256)))then 2 else(bif(!(tA d))then 191 else 0))
def tS (d:District):Prop:=(d.reaches.length≤aL→((((((decide ((d.reaches.length:Int) > 64)) ||(decide ((d.farms.length:Int) > 600))) ||(decide ((d.crops.length:Int) > 32))) ||(decide ((d.rights.length:Int) > 256))) ||(decide ((d.duties.length:Int) > 256)))=false→(xG d)))
@[go_sem] def qD (a:List Claim)(b:List Claim)(k_0:Nat)(s_0:Unit):Unit⊕Unit:=letI q0:=a.getD k_0 default;letI q1:=b.getD k_0 default;(bif(!((q0.right==q1.right)&&((q0.farm==q1.farm)&&((q0.hour==q1.hour)&&((q0.litres==q1.litres)&&(q0.rank==q1.rank))))))then .inl ()else .inr ())
def rG (a:List Claim)(b:List Claim)(k_0:Nat)(s_0:Unit):Prop:=(a.length≤aL→(0≤(k_0:Int)∧(k_0:Int) < (b.length:Int)))
def iG (a:List Claim)(b:List Claim):Bool:=(bif((a.length:Int) !=(b.length:Int))then false else(match aq (qD a b) a.length 0 ()with| .inl x_0_0=>false| .inr s_0=>true))
def jg (a:List Claim)(b:List Claim):Prop:=(a.length≤aL→(b.length≤aL→(((a.length:Int) !=(b.length:Int))=false→okI (qD a b) (rG a b) a.length 0 ())))
@[go_sem] def vj:List SV→Option Con:=(pR .claim fun a=>(pR .claim fun b=>(pE (.det (jg a b) (.v (.bool (iG a b)))))))
theorem xH:FnOk Tryz.prog 18 vj:=by
 have hG:ConsOk Tryz.prog (mkG [] []):=ap cg0 cg0;refine av [.o] mixed al hG (fn:=Tryz.f18) (c:=ae Tryz.f18) kr kr kr kr (bK fun a=>(bK fun b=>(ai (fun hp=>?_))));dsimp only[ar]at hp;unfold jg at hp;refine⟨nbl rfl,(fun id st=>bif Nat.beq id 0 then some (LCR (ρ:=Unit) (σ:=Unit) 0 [] [] (fun k_0 s_0=>⟨[(0,.rs .claim a),(1,.rs .claim b),(5,.v (.int .i64 (k_0:Int)))],[]⟩) (qD a b) (rG a b) a.length () (True) (fun _=>.ret) (fun x_0_0=>⟨[(4,.v (.bool false))],[]⟩) st)else none),?_,?_⟩
 ·unfold ae Tryz.f18;simp only[am,true_and,and_true]
  ·refine NG (a.length≤aL) mixed al hG kr (fun _=>rfl) (a.length:Int) rfl ia (fun hb0 k_0 s_0 hlt0 hq0 hw hc=>⟨L0,ag _,?_⟩) (fun hb0 s_0 hc=>?_) fun hb0 k_0 s_0=>?_
   ·unfold rG at hq0;try simp only[hw,Int.toNat_natCast]at hq0
    exact bX (jl [])
   ·exact bH (jl [])
   ·exact zq7
 ·unfold ae Tryz.f18;try unfold iG
  exact zq1
def aH (a:Claim)(b:Claim):Bool:=(bif(a.hour !=b.hour)then(decide (a.hour<b.hour))else(bif(a.rank !=b.rank)then(decide (a.rank<b.rank))else(bif(a.right !=b.right)then(decide (a.right<b.right))else(decide (a.farm<b.farm)))))
def mv (a0:District)(a1:Claim):Bool:=letI q0:=a0.rights.getD (Int.toNat a1.right) default;(bif((((((((decide (a1.right<0)) ||(decide (a1.right≥(a0.rights.length:Int)))) ||(decide (a1.farm<0))) ||(decide (a1.farm≥(a0.farms.length:Int)))) ||(decide (a1.hour<0))) ||(decide (a1.hour≥a0.hours))) ||(decide (a1.litres<1))) ||(decide (a1.litres > 1073741824)))then false else((q0.kind==1)&&(q0.rank==a1.rank)))
def tT (a0:District)(a1:Claim):Prop:=letI q1:=(a0.rights.length:Int);letI q0:=0≤a1.right∧a1.right<q1;(((((((((decide (a1.right<0)) ||(decide (a1.right≥q1))) ||(decide (a1.farm<0))) ||(decide (a1.farm≥(a0.farms.length:Int)))) ||(decide (a1.hour<0))) ||(decide (a1.hour≥a0.hours))) ||(decide (a1.litres<1))) ||(decide (a1.litres > 1073741824)))=false→(q0∧(((a0.rights.getD (Int.toNat a1.right) default).kind==1)=true→q0)))
@[go_sem] def pr (d:District)(c:List Claim)(k_0:Nat)(s_0:Unit):Unit⊕Unit:=(bif((!(mv d (c.getD k_0 default))) ||((decide ((k_0:Int) > 0))&&(!(aH (c.getD (Int.toNat (i64.wrap ((k_0:Int) - 1))) default) (c.getD k_0 default)))))then .inl ()else .inr ())
def zP (d:District)(c:List Claim)(k_0:Nat)(s_0:Unit):Prop:=letI q0:=i64.wrap ((k_0:Int) - 1);letI q1:=c.getD k_0 default;(c.length≤aL→((tT d q1)∧((!(mv d q1))=false→((decide ((k_0:Int) > 0))=true→(0≤q0∧q0< (c.length:Int))))))
def tB (d:District)(c:List Claim):Int:=(bif((fE d) !=0)then(fE d)else(bif(decide ((c.length:Int) > 4096))then 2 else(match aq (pr d c) c.length 0 ()with| .inl x_0_0=>260| .inr s_0=>0)))
def xI (d:District)(c:List Claim):Prop:=((tS d)∧(((fE d) !=0)=false→(c.length≤aL→((decide ((c.length:Int) > 4096))=false→okI (pr d c) (zP d c) c.length 0 ()))))
def oj (d:District)(c:List Claim):Bool:=((zO d)&&((decide ((c.length:Int)≤300)) ||((decide ((c.length:Int) > 4096))&&(decide ((c.length:Int)≤5000)))))
@[go_sem] def tC:List SV→Option Con:=(pD .district fun d=>(pR .claim fun c=>(pE (.det True (.v (.bool (oj d c)))))))
theorem yd:FnOk Tryz.prog 41 tC:=by
 have hG:ConsOk Tryz.prog (mkG [(87,fun l=>Ao (bv [.st .district] l))] []):=ap (cgc (E3.norm [.st .district]) cg0) cg0;refine av [.o] mixed al hG (fn:=Tryz.f41) (c:=ae Tryz.f41) kr kr kr kr (bp fun d=>(bK fun c=>(ai (fun hp=>?_))));dsimp only[ar]at hp;refine⟨nbl rfl,L0,ag _,?_⟩
 ·unfold ae Tryz.f41;try unfold oj
  exact zq1
end Go.Sx
end
section
namespace Go.Sx
theorem QO {κ υ:Type}[DecidableEq κ](l:List (κ×υ))(x z:κ)(y:υ):iY (v7 l x y) z=if z=x then some y else iY l z:=by
 induction l with
 |nil=>simp[v7,iY]
 |cons a r ih=>
  obtain⟨a,b⟩:=a;unfold v7;by_cases h:x=a
  ·subst h;simp only[if_pos];unfold iY;by_cases hz:z=x <;>simp[hz]
  ·rw[if_neg h];unfold iY;by_cases hz:z=a
   ·subst hz;rw[if_pos rfl,if_neg (fun e=>h e.symm),if_pos rfl]
   ·rw[if_neg hz,ih,if_neg hz]
def p6 {κ υ:Type}(l:List (κ×υ)):List κ:=l.map fun p=>p.1
theorem DS {κ υ:Type}[DecidableEq κ]:∀ {l:List (κ×υ)} {x:κ},x ∉ p6 l→iY l x=none
 | [],_,_=>rfl
 |(a,b)::r,x,h=>by
  unfold iY;rw[if_neg (fun e=>h (by simp[p6,e]))];exact DS fun hm=>h (by simp only[p6,List.map_cons,List.mem_cons]at hm ⊢;exact .inr hm)
theorem GL {κ υ:Type}[DecidableEq κ]:∀ {l:List (κ×υ)},(p6 l).Nodup→∀ {x:κ} {y:υ},iY l x=some y↔(x,y)∈l
 | [],_,x,y=>by simp[iY]
 |(a,b)::r,h,x,y=>by
  have h':=List.nodup_cons.1 h;unfold iY;by_cases e:x=a
  ·subst e;rw[if_pos rfl];simp only[Option.some.injEq,List.mem_cons,Prod.mk.injEq,true_and];refine⟨fun h=>.inl h.symm,fun h=>?_⟩;rcases h with h|h
   ·exact h.symm
   ·exact absurd (List.mem_map_of_mem (f:=fun p:κ×υ=>p.1) h) h'.1
  ·rw[if_neg e,GL h'.2];simp only[List.mem_cons,Prod.mk.injEq,e,false_and,false_or]
theorem zQ {κ υ:Type}[DecidableEq κ](x:κ)(y:υ):∀ (l:List (κ×υ)),(p6 l).Nodup→(p6 (v7 l x y)).Nodup∧∀ z,z∈p6 (v7 l x y)→z=x∨z∈p6 l
 | [],_=>by simp[v7,p6]
 |(a,b)::r,h=>by
  have h':=List.nodup_cons.1 h;unfold v7;by_cases e:x=a
  ·subst e;rw[if_pos rfl];exact⟨h,fun z hz=>.inr hz⟩
  ·rw[if_neg e];obtain⟨g1,g2⟩:=zQ x y r h'.2;refine⟨List.nodup_cons.2 ⟨fun hm=>?_,g1⟩,fun z hz=>?_⟩
   ·rcases g2 _ hm with h3|h3
    ·exact e h3.symm
    ·exact h'.1 h3
   ·rcases List.mem_cons.1 hz with rfl|hz
    ·exact .inr List.mem_cons_self
    ·rcases g2 z hz with h3|h3
     ·exact .inl h3
     ·exact .inr (List.mem_cons_of_mem _ h3)
theorem zR {κ υ:Type}[DecidableEq κ](x:κ):∀ (l:List (κ×υ)),(p6 l).Nodup→(p6 (Ax l x)).Nodup∧(∀ z,z∈p6 (Ax l x)→z∈p6 l)∧∀ z,iY (Ax l x) z=if z=x then none else iY l z
 | [],_=>by simp[Ax,p6,iY]
 |(a,b)::r,h=>by
  have h':=List.nodup_cons.1 h;unfold Ax;by_cases e:x=a
  ·subst e;rw[if_pos rfl];refine⟨h'.2,fun z hz=>List.mem_cons_of_mem _ hz,fun z=>?_⟩;by_cases hz:z=x
   ·subst hz;rw[if_pos rfl];exact DS h'.1
   ·rw[if_neg hz];simp only[iY,if_neg hz]
  ·rw[if_neg e];obtain⟨g1,g2,g3⟩:=zR x r h'.2;refine⟨List.nodup_cons.2 ⟨fun hm=>h'.1 (g2 _ hm),g1⟩,fun z hz=>?_,fun z=>?_⟩
   ·rcases List.mem_cons.1 hz with rfl|hz
    ·exact List.mem_cons_self
    ·exact List.mem_cons_of_mem _ (g2 z hz)
   ·simp only[iY,g3];by_cases hz:z=a
    ·subst hz;rw[if_pos rfl,if_neg (fun e2=>e e2.symm),if_pos rfl]
    ·simp only[if_neg hz]
theorem xc {kk vk:Tag}(l:List (kk.T×vk.T))(x z:kk.T)(y:vk.T):du kk vk (iX kk vk l x y) z=if z=x then y else du kk vk l z:=by
 unfold du iX;rw[QO];by_cases h:z=x <;>simp[h]
theorem Lj {kk vk:Tag}(l:List (kk.T×vk.T))(hN:(p6 l).Nodup)(x z:kk.T):du kk vk (yo kk vk l x) z=if z=x then ff vk else du kk vk l z:=by
 unfold du yo;rw[(zR x l hN).2.2];by_cases h:z=x <;>simp[h]
end Go.Sx
end
section
namespace Go.Sx
open Go.RowKit
section
variable {P:Program}{ts:Tis}{G:Cons}
theorem xJ {n:Nat}{g:FuncId}{i1 q:Nat}{o1:Oper}{tys:Array TypeId}{Q:Exit→Act→World→Prop}{a:Act}{w:World}{b:Nat}
  (ho1:o1.dst=none∧o1.op=.defer ⟨.value (.func g),#[.tmp q],tys⟩∧o1.guard=none)
  (hq:a.tmps.getD q undef=.pointer (some ⟨b,0,none⟩))
  (h:Q .normal { tmps:=a.tmps,defers:= { target:=.fn (.func g) #[],args:= #[.pointer (some ⟨b,0,none⟩)]}::a.defers} w):
  (Code.region i1 #[o1] false).wpIn (rd none) n P Q a w:=by
 obtain⟨d1,p1,t1,s1,f1,g1⟩:=o1;obtain⟨rfl,rfl,rfl⟩:=ho1;refine wpIn_region ?_;have hr1:List.range (#[(⟨none,.defer ⟨.value (.func g),#[.tmp q],tys⟩,t1,s1,f1,none⟩:Oper)]:Array Oper).size=[0]:=rfl;rw[hr1];simp only[wpOpsIn,Oper.wpIn,Region.wanted];have e1:(#[(⟨none,.defer ⟨.value (.func g),#[.tmp q],tys⟩,t1,s1,f1,none⟩:Oper)]:Array Oper)[0]? =some ⟨none,.defer ⟨.value (.func g),#[.tmp q],tys⟩,t1,s1,f1,none⟩:=rfl;rw[e1];simp only[if_true];refine⟨fun _ _=>trivial,?_⟩;have r2:((⟨none,.defer ⟨.value (.func g),#[.tmp q],tys⟩,t1,s1,f1,none⟩:Oper).semAt (rd none).round a.eval).run P w=.ok (.defer { target:=.fn (.func g) #[],args:= #[.pointer (some ⟨b,0,none⟩)]}) w:=by
  simp[Oper.semAt,execOp,go_sem,Act.eval,hq];try rfl
 rw[r2];simp only[Oper.uponIn_defer];exact h
theorem JX {g:FuncId}{RC:Value→Option SV}(hrec:GI P g RC)(pks:List Pk)(hm:P.follows .mixedOrders=true)(hts:ts.ok P)(hG:ConsOk P G){f:FuncId}{fn:Func}{c0 c1:Code}{i1 q:Nat}{o1:Oper}{tys:Array TypeId}
  (hf:P.funcs[f]? =some fn) (hb:fn.body=some (.seq c0 (.seq (.region i1 #[o1] false) c1))) (hname:(fn.name== "runtime.NumGoroutine")=false)
  (ho1:o1.dst=none∧o1.op=.defer ⟨.value (.func g),#[.tmp q],tys⟩∧o1.guard=none)
  (hc0:bO fn.ntmps c0=true) (hc1:bO fn.ntmps c1=true) {C:List SV→Option Con}
  (h:∀ l con,C l=some con→ar con→l.length≤fn.ntmps∧∃ L L' id,am P none fn.ntmps L c0∧am P none fn.ntmps L' c1∧exec ts G L c0 ⟨lf 0 l,[]⟩ (fun e st=>e=.normal∧lk q st.t=.ptr id 0∧C3 (aj st.h id)∧
   exec ts G L' c1 ⟨st.t,st.h⟩ (M9 RC fn.results.toList ts (fun s=>da con (tP pks s)) id))):FnOk P f C:=by
 refine⟨fun l con _ args w=>?_,fun l con hcon hpre F w vs hF hvs=>?_⟩
 ·have hn:¬fn.name= "runtime.NumGoroutine":=by simpa using hname
  simp[callFunc,hf,hn,hb]
 ·obtain⟨hlen,L,L',id,hl,hl',hx⟩:=h l con hcon hpre;refine mt (n:=0) (callsIn_of_wp_marks hf hb trivial ?_);have hr:StRel F { w:=w,own:=b_} fn.ntmps b_ ⟨lf 0 l,[]⟩ { tmps:=vs++Array.replicate (fn.ntmps - vs.size) undef,defers:=[]} w:=
   ⟨by have:=hvs.1;simp;omega,Dfr.nil,vb hF,Fr.refl _,fun t=>kz hvs _ t⟩
  refine wpIn_seq (wpIn_mono (lX hm hts hG c0 hc0 hl F _ _ hx b_ _ w hr) ?_);intro e a1 w1 hq;cases e with
  |normal=>
   obtain⟨F1,own1,st1,hF1,hst1,_,hlk,_,hx1⟩:=hq;have hsq:=hst1.slots q;rw[hlk]at hsq;generalize hv:a1.tmps.getD q undef=pv at hsq;cases hsq with
   | @ptr _ _ b hd ho hp=>
   show(Code.seq (.region i1 #[o1] false) c1).wpIn (rd none) 0 P _ a1 w1;have hsz:=hst1.size;refine wpIn_seq (xJ ho1 hv ?_);show c1.wpIn (rd none) 0 P _ _ w1;obtain⟨ms,Ds,k0,k1,k2,k3⟩:=hst1.defers;have k0':a1.defers=ms:=by rw[k0];exact List.append_nil _
   let d:Deferred:= { target:=.fn (.func g) #[],args:= #[.pointer (some ⟨b,0,none⟩)]}
   let B:Bs:= { w:=w1,own:=own1,ds:=d::a1.defers}
   have hr2:StRel F1 B fn.ntmps own1 ⟨st1.t,st1.h⟩ { tmps:=a1.tmps,defers:=d::a1.defers} w1:=by
    exact⟨hsz,Dfr.nil,hst1.hp,Fr.refl B,hst1.slots⟩
   have hbd:∀ D∈Ds,¬ ∃ id hd,own1 id=some hd∧D∈hd.bs:=fun D hD ⟨i,hd,e,hm⟩ =>hst1.hp.apart i hd D e hm (k3 D hD).2.1;have fin:∀ F2 own2 st2 (a2:Act) w2,(∀ b,F1 b→F2 b)→StRel F2 B fn.ntmps own2 st2 a2 w2→ee (fun s=>da con (tP pks s)) (wd fn.results.toList ts st2)→
     LeavesInM (rd none) 0 P fn a2.tmps (fun e w'=>(∃ s u own',da con s∧e=.returned u∧Handed F w own' w' s u∧Below w.heap.size w w')∨(∃ x,mr con x∧e=.panicked [{ v:=x,recovered:=false}]∧Below w.heap.size w w')) a1.defers .returning w2:=by
    intro F2 own2 st2 a2 w2 hF2 hst2 hdone;have hB:StRel F2 { w:=w,own:=b_} fn.ntmps own2 st2 { a2 with defers:=[]} w2:=⟨hst2.size,Dfr.nil,hst2.hp,hst1.fr.trans ⟨hst2.fr.ids,hst2.fr.base,hst2.fr.os,hst2.fr.tape,hst2.fr.output,hst2.fr.size,hst2.fr.block⟩,hst2.slots⟩;have hkeep:∀ D∈Ds,w2.heap[D]? =some (.deferred (some [])):=fun D hD=>by
     rw[hst2.fr.block D ⟨ni (k3 D hD).2.2,hbd D hD⟩];exact(k3 D hD).2.2
    rw[k0',←List.append_nil ms];refine uA (by simp) Ds ms w2 k1 k2 hkeep fun w4 hs=>?_;have hst4:=(hB.shut (Ds:=Ds) (fun D hD=>⟨(k3 D hD).1,hF2 D (k3 D hD).2.1,hkeep D hD⟩) hs).less (fun c hc=>hF2 c (hF1 c hc)) rfl;simp only[wd]at hdone;cases hres:ku (ju ts st2 fn.results.toList)with
    |none=>rw[hres]at hdone;exact hdone.elim
    |some s=>
     obtain⟨u,e1,e2⟩:=tw (P:=P) hts hst4 hres;rw[hres]at hdone;exact⟨u,e1,.inl ⟨_,u,b_,hdone,rfl,tx hst4.hp.foreign (wv (u9 hst4.hp 4 s u e2)),pc hst4.fr⟩⟩
   have hinv:∀ w2:World,(invoke (.fn (.func g) #[]) #[.pointer (some ⟨b,0,none⟩)]).run P w2=.ok (.enter g #[.pointer (some ⟨b,0,none⟩)]) w2:=fun w2=>by simp[invoke,go_sem,hrec.1]
   refine wpIn_mono (lX hm hts hG c1 hc1 hl' F1 _ _ hx1 own1 _ w1 hr2) ?_;have idle:∀ (a':Act) (w':World) F2 own2 st2,(∀ b,F1 b→F2 b)→StRel F2 B fn.ntmps own2 st2 a' w'→ee (fun s=>da con (tP pks s)) (wd fn.results.toList ts st2)→
     LeavesInM (rd none) 0 P fn a'.tmps (fun e w'=>(∃ s u own',da con s∧e=.returned u∧Handed F w own' w' s u∧Below w.heap.size w w')∨(∃ x,mr con x∧e=.panicked [{ v:=x,recovered:=false}]∧Below w.heap.size w w')) a'.defers .returning w':=by
    intro a' w' F2 own2 st2 hF2 hst2 hdone;refine iF hst2 (by simp) fun w2 hst3=>?_;refine⟨by simp,.inr ⟨fun h=>(by cases h),.func g,#[],g,#[.pointer (some ⟨b,0,none⟩)],rfl,hinv w2,fun _ _=>trivial,?_⟩⟩;refine(hrec.2.1 ⟨b,0,none⟩ w2).mono ?_;rintro e u' w3 ⟨⟨v,rfl⟩,rfl,rfl⟩;exact fin F2 own2 st2 { a' with defers:=B.ds} _ hF2 hst3 hdone
   intro e a' w' hq;cases e with
   |normal=>obtain⟨F2,own2,st2,h0,h1,h2⟩:=hq;exact idle a' w' F2 own2 st2 h0 h1 h2
   |ret=>obtain⟨F2,own2,st2,h0,h1,h2⟩:=hq;exact idle a' w' F2 own2 st2 h0 h1 h2
   |exit jd=>obtain⟨F2,own2,st2,h0,h1,h2⟩:=hq;exact h2.elim
   |panic ch=>
    obtain⟨x,F2,own2,st2,h0,h1,hm,rfl⟩:=hq;change M8 fn.results.toList ts _ id st2 (RC x)at hm;cases m1:RC x with
    |none=>rw[m1]at hm;exact hm.elim
    |some s=>
    rw[m1]at hm;obtain⟨hm2,m4,m3⟩:=hm;obtain⟨y,m2⟩:=B_ hm2;refine iF h1 (by simp) fun w2 hst3=>?_;refine⟨by simp,.inr ⟨fun h=>(by cases h),.func g,#[],g,#[.pointer (some ⟨b,0,none⟩)],rfl,hinv w2,fun _ _=>trivial,?_⟩⟩;obtain⟨hd2,e2,l2⟩:=hst3.fr.ids id hd ho;refine(hrec.2.2 x s m1 F2 own2 w2 st2.h id hd2 b y m4 hst3.hp m2 e2 (l2.1.trans hp)).mono ?_;rintro e u' w3 ⟨⟨v,rfl⟩,rfl,own3,q1,q2⟩;exact fin F2 own3 ⟨st2.t,_⟩ { a' with defers:=B.ds} w3 h0 (hst3.moved q1 q2) m3
   |_=>exact hq.elim
  |ret=>obtain⟨F1,own,st,h0,h1,h2,_⟩:=hq;cases h2
  |exit jd=>obtain⟨F1,own,st,h0,h1,h2,_⟩:=hq;cases h2
  |panic ch=>obtain⟨x,F1,own,st,h0,h1,⟨h2,_⟩,_⟩:=hq;cases h2
  |_=>exact hq.elim
end
end Go.Sx
end
section
namespace Go.Sx
open Go.Proofs Go.RowKit
def RCJ:Value→Option SV
 | .iface t (.int .i64 e) =>bif Nat.beq t 36 then some (.i e)else none
 |_=>none
theorem E4:GI Tryz.prog 56 RCJ:=by
 obtain⟨fn,hfn,hbody,hn,hres⟩:∃ fn,Tryz.prog.funcs[56]? =some fn∧fn.body=some (ae Tryz.f56)∧fn.ntmps=14∧fn.results= #[]:=⟨Tryz.f56,by kernel_rfl,by kernel_rfl,by kernel_rfl,by kernel_rfl⟩;have hG:ConsOk Tryz.prog (mkG [] []):=ap (by simp) (by simp);refine⟨fun args w=>by kernel_rfl,fun p w=>?_,?_⟩
 ·refine callsDIn_of_wpSIn hfn hbody trivial fun c₀ cs hu=>?_;unfold ae Tryz.f56;refine wpSIn_seq (wpSIn_region ?_);simp[wpOpsSIn,go_sem,recoverD,hu,hn,Exit.thenS,Oper.about,Region.wanted];refine wpSIn_of_wpIn rfl (wpIn_block (wpIn_seq (wpIn_region ?_)));simp[wpOpsIn,Oper.wpIn,go_sem,Oper.about,Region.wanted];refine wpIn_cond_true (by simp[Act.eval]) (wpIn_region ?_);simp[wpOpsIn,Oper.wpIn,go_sem,Oper.about,Region.wanted];cases c₀;simp_all [Exit.inBlock,bodyPostS,results]
 ·intro x s hx F own w h id hd b y hfw hp hob ho hpb;unfold RCJ at hx;split at hx
  ·rename_i t e;cases ht:Nat.beq t 36 with
   |false=>rw[ht]at hx;cases hx
   |true=>
    rw[ht]at hx;cases hx;have ht':=Nat.eq_of_beq_eq_true ht;subst ht';refine callsDIn_of_wpSIn hfn hbody trivial fun c₀ cs hu=>?_;unfold ae Tryz.f56;refine wpSIn_seq (wpSIn_region ?_);simp[wpOpsSIn,go_sem,recoverD,hu,hn,Exit.thenS,Oper.about,Region.wanted];refine wpSIn_of_wpIn rfl (wpIn_block (wpIn_seq (wpIn_region ?_)));simp[wpOpsIn,Oper.wpIn,go_sem,Oper.about,Region.wanted];refine wpIn_cond_false (by simp[Act.eval]) ?_;have hr:StRel F { w:=w,own:=own} 14 own ⟨[(0,.ptr id 0),(5,.v (.iface 36 (.int .i64 e)))],h⟩ { tmps:= #[.pointer (some ⟨b,0,none⟩),undef,undef,undef,undef,.iface 36 (.int .i64 e),undef,.bool false,undef,undef,undef,undef,undef,undef],defers:=[]} w:=by
     refine⟨rfl,Dfr.nil,hp,Fr.refl { w:=w,own:=own},fun t=>?_⟩;rw[ov];by_cases h0:0=t
     ·subst h0;rw[if_pos rfl];exact .ptr ho hpb
     ·rw[if_neg h0,ov];by_cases h1:5=t
      ·subst h1;rw[if_pos rfl];exact .v _
      ·rw[if_neg h1];exact .any _
    refine wpIn_seq (wpIn_mono (vg (ts:=ts) (L:=L0) (Q:=fun st=>st=⟨[(10,.v (.int .i64 e)),(9,.b true),(8,.tup [.v (.int .i64 e),.b true]),(0,.ptr id 0),(5,.v (.iface 36 (.int .i64 e)))],h⟩) mixed al hG kr ?_ hr) ?_)
    ·simp only[go_sem,hob,hfw,cond_false,Nat.reduceBEq,Nat.reduceLeDiff,Nat.reduceAdd,true_and,and_true,true_imp_iff]
    ·rintro ex a1 w1 ⟨rfl,own1,st1,hst1,rfl⟩;have h9:=hst1.slots 9;have h9':a1.tmps.getD 9 undef=.bool true:=br h9;refine wpIn_cond_true (by simpa[Act.eval]using h9') ?_;refine wpIn_seq (wpIn_mono (vg (ts:=ts) (L:=L0) (Q:=fun st=>st=⟨[(3,.v (.int .i64 e)),(10,.v (.int .i64 e)),(9,.b true),(8,.tup [.v (.int .i64 e),.b true]),(0,.ptr id 0),(5,.v (.iface 36 (.int .i64 e)))],h⟩) mixed al hG kr ?_ hst1) ?_)
     ·simp only[go_sem,hob,hfw,cond_false,Nat.reduceBEq,Nat.reduceLeDiff,Nat.reduceAdd,true_and,and_true,true_imp_iff]
     ·rintro ex a2 w2 ⟨rfl,own2,st2,hst2,rfl⟩;refine wpIn_mono (vg (ts:=ts) (L:=L0) (Q:=fun st=>st.h=bf h id (.cells [.i e])) mixed al hG kr ?_ hst2) ?_
      ·simp only[go_sem,hob,hfw,cond_false,ve (h:=h) (i:=id) (o:=.cells [.v (.int .i64 e)]) rfl hfw,Nat.reduceBEq,Nat.reduceLeDiff,Nat.reduceAdd,true_and,and_true,true_imp_iff]
      ·rintro ex a' w' ⟨rfl,own3,st3,hst3,hh⟩;have hd0:a'.defers=[]:=by
        obtain⟨ms,Ds,q0,q1,q2,q3⟩:=hst3.defers;cases Ds with
        |nil=>rw[q0];simp at q1;simp[q1]
        |cons D r=>
         obtain⟨m1,m2,_⟩:=q3 D (by simp);have:=hp.foreign D m2;simp only at m1;omega
       refine⟨hd0,.panicking [{ v:=.iface 36 (.int .i64 e),recovered:=true}],?_,_,by simp[results,hres];rfl,⟨_,rfl⟩,rfl,own3,hh▸hst3.hp,hst3.fr⟩;cases c₀;simp_all
  ·cases hx
end Go.Sx
end
section
namespace Go.Sx
open Go.Proofs
open IntKind (i64 u64)
theorem sC {l0 l1:List Nat}(a0:JL l0)(a1:JL l1){p:Prop}(h:JL l0→JL l1→p:=by intro ja jb;(first|done|(repeat' (first|with_reducible refine And.intro ?_ ?_|((with_reducible show _≠_);first|assumption|omega|(simp_all [dL,fD];done) |grind) |with_reducible intro _)) <;>(first|done|with_reducible exact Empty.elim ‹Empty› |with_reducible assumption|rfl|omega|assumption|decide|exact fk ja|exact fk jb|exact czl|(simp only[*,cond_true,cond_false,Bool.not_true,Bool.not_false,go_sem,Nat.reduceBEq,Nat.reduceLeDiff,Nat.reduceLT,decide_true,Nat.reduceAdd,Nat.reduceSub,Nat.reduceMul,Int.reduceLE,Int.reduceLT,Int.reduceToNat,Int.reduceNeg,reduceCtorEq];(repeat' (first|with_reducible refine And.intro ?_ ?_|((with_reducible show _≠_);first|assumption|omega|(simp_all [dL,fD];done) |grind) |with_reducible intro _)) <;>(first|done|assumption|rfl|omega|decide|exact fk ja|exact fk jb|(simp_all [dL,fD];done))) |(simp_all [okI,dL,fD];done) |(simp_all [dL,fD];(first|done|exact fk2 ja|exact fk2 jb)) |exact fk2 ja|exact fk2 jb))):p:=h a0 a1
theorem lh {l0 l1:List Nat}(a0:JL l0)(a1:JL l1){p:Prop}(h:JL l0→JL l1→p:=by intro ja jb;simp only[go_sem,Nat.reduceBEq,Nat.reduceLeDiff,Nat.reduceLT,decide_true,Nat.reduceAdd,Nat.reduceSub,Nat.reduceMul,Int.reduceLE,Int.reduceLT,Int.reduceToNat,Int.reduceNeg,reduceCtorEq,hc,hw];all_goals exact sC ja jb):p:=h a0 a1
theorem jT {l0 l1:List Nat}(a0:JL l0)(a1:JL l1){p:Prop}(h:JL l0→JL l1→p:=by intro ja jb;simp only[go_sem,Nat.reduceBEq,Nat.reduceLeDiff,Nat.reduceLT,decide_true,Nat.reduceAdd,Nat.reduceSub,Nat.reduceMul,Int.reduceLE,Int.reduceLT,Int.reduceToNat,Int.reduceNeg,reduceCtorEq,hc];all_goals exact sC ja jb):p:=h a0 a1
def aM (n:Int)(lo:Int)(hi:Int):Bool:=((decide (n≥lo))&&(decide (n≤hi)))
@[go_sem] def f_:List SV→Option Con:=(pI fun n=>(pI fun lo=>(pI fun hi=>(pE (.det True (.v (.bool (aM n lo hi))))))))
theorem ib:FnOk Tryz.prog 52 f_:=by
 have hG:ConsOk Tryz.prog (mkG [] []):=ap cg0 cg0;refine av [.o] mixed al hG (fn:=Tryz.f52) (c:=ae Tryz.f52) kr kr kr kr (dh fun n=>(dh fun lo=>(dh fun hi=>(ai (fun hp=>?_)))));dsimp only[ar]at hp;refine⟨nbl rfl,L0,ag _,?_⟩
 ·unfold ae Tryz.f52;try unfold aM
  exact zq1
def Ci (ok:Bool)(e:Int):Unit:=(bif(!ok)then default else())
def an (ok:Bool)(e:Int):Bool:=(bif(!ok)then false else true)
@[go_sem] def jU:List SV→Option Con:=(pB fun ok=>(pI fun e=>(pE (.may (an ok e) (.tup []) (.iface 36 (.int .i64 e))))))
theorem l5:FnOk Tryz.prog 58 jU:=by
 have hG:ConsOk Tryz.prog (mkG [] []):=ap cg0 cg0;refine av [] mixed al hG (fn:=Tryz.f58) (c:=ae Tryz.f58) kr kr kr kr (NH fun ok=>(dh fun e=>(ai (fun hp=>?_))));dsimp only[ar]at hp;refine⟨nbl rfl,L0,ag _,?_⟩
 ·unfold ae Tryz.f58;try unfold Ci
  try unfold an
  exact zq1
@[go_sem] def xK (cA:List Int)(k_0:Nat)(s_0:Unit):Int⊕Unit:=(bif((cA.getD k_0 0) !=0)then .inl (cA.getD k_0 0)else .inr ())
def kL (cA:List Int):Int:=(match aq (xK cA) cA.length 0 ()with| .inl x_0_0=>x_0_0| .inr s_0=>0)
@[go_sem] def yV:List SV→Option Con:=(pR .int fun cA=>(pE (.det True (.v (.int .i64 (kL cA))))))
theorem C5:FnOk Tryz.prog 96 yV:=by
 have hG:ConsOk Tryz.prog (mkG [] []):=ap cg0 cg0;refine av [.o] mixed al hG (fn:=Tryz.f96) (c:=ae Tryz.f96) kr kr kr kr (bK fun cA=>(ai (fun hp=>?_)));dsimp only[ar]at hp;refine⟨nbl rfl,(fun id st=>bif Nat.beq id 0 then some (LCR (ρ:=Int) (σ:=Unit) 0 [] [] (fun k_0 s_0=>⟨[(3,.v (.int .i64 0)),(6,.rs .int cA),(7,.v (.int .i64 (cA.length:Int))),(8,.v (.int .i64 (k_0:Int)))],[]⟩) (xK cA) pT cA.length () (cA.length≤aL) (fun _=>.ret) (fun x_0_0=>⟨[(2,.v (.int .i64 x_0_0))],[]⟩) st)else none),?_,?_⟩
 ·unfold ae Tryz.f96;simp only[am,true_and,and_true]
  ·refine aV mixed al hG kr (fun _=>rfl) (cA.length:Int) rfl ia (fun hb0 k_0 s_0 hlt0 _ hw hc=>⟨L0,ag _,?_⟩) (fun hb0 s_0 hc=>?_)
   ·exact bX (jl [])
   ·exact bH (jl [])
 ·unfold ae Tryz.f96;try unfold kL
  exact zq1
def ak (x:Claim):Bool:=(x.litres==0)
@[go_sem] def oA:List SV→Option Con:=(pD .claim fun x=>(pE (.det True (.v (.bool (ak x))))))
theorem rU:FnOk Tryz.prog 93 oA:=by
 have hG:ConsOk Tryz.prog (mkG [] []):=ap cg0 cg0;refine av [.o] mixed al hG (fn:=Tryz.f93) (c:=ae Tryz.f93) kr kr kr kr (bp fun x=>(ai (fun hp=>?_)));dsimp only[ar]at hp;refine⟨nbl rfl,L0,ag _,?_⟩
 ·unfold ae Tryz.f93;try unfold ak
  exact zq1
def di (a:Claim)(b:Claim):Int:=(kL ([(cr a.rank b.rank),(cr a.right b.right),(cr a.farm b.farm)]))
@[go_sem] def sD:List SV→Option Con:=(pD .claim fun a=>(pD .claim fun b=>(pE (.det True (.v (.int .i64 (di a b)))))))
theorem xn:FnOk Tryz.prog 95 sD:=by
 have hG:ConsOk Tryz.prog (mkG [(96,fun l=>yV (bv [.sl .int] l)),(97,lY)] []):=ap (cgc (C5.norm [.sl .int]) (cgc oz cg0)) cg0;refine av [.o] mixed al hG (fn:=Tryz.f95) (c:=ae Tryz.f95) kr kr kr kr (bp fun a=>(bp fun b=>(ai (fun hp=>?_))));dsimp only[ar]at hp;refine⟨nbl rfl,L0,ag _,?_⟩
 ·unfold ae Tryz.f95;try unfold di
  exact zq1
def ez (right:Int)(farm:Int)(hour:Int)(litres:Int):Claim:=({ right:=right,farm:=farm,hour:=hour,litres:=litres,rank:=2}:Claim)
@[go_sem] def tU:List SV→Option Con:=(pI fun right=>(pI fun farm=>(pI fun hour=>(pI fun litres=>(pE (.det True (.agg (cellsOf .claim (ez right farm hour litres)))))))))
theorem wH:FnOk Tryz.prog 40 tU:=by
 have hG:ConsOk Tryz.prog (mkG [] []):=ap cg0 cg0;refine av [.st .claim] mixed al hG (fn:=Tryz.f40) (c:=ae Tryz.f40) kr kr kr kr (dh fun right=>(dh fun farm=>(dh fun hour=>(dh fun litres=>(ai (fun hp=>?_))))));dsimp only[ar]at hp;refine⟨nbl rfl,L0,ag _,?_⟩
 ·unfold ae Tryz.f40;try unfold ez
  exact zq1
@[go_sem] def sE (k_0:Nat)(s_0:List Right):Empty⊕(List Right):=.inr (s_0++([({ name:=(ByteArray.mk #[]),kind:=1,farm:=(([0,1,0]).getD k_0 0),reach:=0,rank:=2,litres:=4,since:=0,to:=7,every:=1,length:=1}:Right)]))
def qk (k_0:Nat)(s_0:List Right):Prop:=((s_0++([({ name:=(ByteArray.mk #[]),kind:=1,farm:=(([0,1,0]).getD k_0 0),reach:=0,rank:=2,litres:=4,since:=0,to:=7,every:=1,length:=1}:Right)])).length*88≤cU)
def cC:District:=(match aq (sE) (([0,1,0]).length) 0 ([])with| .inl x=>x.elim| .inr s_0=>({ name:=(ByteArray.mk #[]),hours:=8,tank:=({ cap:=900,start:=900}:Tank),reaches:=[({ name:=(ByteArray.mk #[]),up:=(-1),delay:=1,cap:=50,bank:=50,siphon:=0,evap:=({ lo:=0,hi:=0}:Range),seep:=(({ n:=0,d:=1}:Ratio),({ n:=0,d:=1}:Ratio))}:Reach)],farms:=[({ name:=(ByteArray.mk #[]),reach:=0,area:=0,crop:=(-1)}:Farm),({ name:=(ByteArray.mk #[]),reach:=0,area:=0,crop:=(-1)}:Farm),({ name:=(ByteArray.mk #[]),reach:=0,area:=0,crop:=(-1)}:Farm)],crops:=[],rights:=s_0,duties:=[],wells:=[]}:District))
def qE:Prop:=(([0,1,0]).length≤aL→okI (sE) (qk) (([0,1,0]).length) 0 ([]))
@[go_sem] def xL:List SV→Option Con:=(pE (.det (qE) (.agg (cellsOf .district (cC)))))
theorem Cj:FnOk Tryz.prog 38 xL:=by
 have hG:ConsOk Tryz.prog (mkG [] []):=ap cg0 cg0;refine av [.st .district] mixed al hG (fn:=Tryz.f38) (c:=ae Tryz.f38) kr kr kr kr (ai (fun hp=>?_));dsimp only[ar]at hp;unfold qE at hp;refine⟨nbl rfl,(fun id st=>bif Nat.beq id 0 then some (LCR (ρ:=Empty) (σ:=(List Right)) 3 [.cell 2 7 (.row .right ([]))] [0,1,2,3] (fun k_0 s_0=>⟨[(0,.ptr 0 0),(2,.ptr 2 0),(17,.rs .int ([0,1,0])),(18,.v (.int .i64 (([0,1,0]).length:Int))),(19,.v (.int .i64 (k_0:Int)))],[.cells [.v (.string (ByteArray.mk #[])),.v (.int .i64 0),.v (.int .i64 0),.v (.int .i64 0),.v (.slice none 0 0),.v (.slice none 0 0),.v (.slice none 0 0),.v (.slice none 0 0),.v (.slice none 0 0),.v (.slice none 0 0)],.dead,.cells [.v (.string (ByteArray.mk #[])),.v (.int .i64 8),.v (.int .i64 900),.v (.int .i64 900),.rs .reach ([({ name:=(ByteArray.mk #[]),up:=(-1),delay:=1,cap:=50,bank:=50,siphon:=0,evap:=({ lo:=0,hi:=0}:Range),seep:=(({ n:=0,d:=1}:Ratio),({ n:=0,d:=1}:Ratio))}:Reach)]),.rs .farm ([({ name:=(ByteArray.mk #[]),reach:=0,area:=0,crop:=(-1)}:Farm),({ name:=(ByteArray.mk #[]),reach:=0,area:=0,crop:=(-1)}:Farm),({ name:=(ByteArray.mk #[]),reach:=0,area:=0,crop:=(-1)}:Farm)]),.v (.slice none 0 0),.os 3,.v (.slice none 0 0),.v (.slice none 0 0)],.row .right s_0]⟩) (sE) (qk) (([0,1,0]).length) ([]) (([0,1,0]).length≤aL) ((·.elim)) ((·.elim)) st)else none),?_,?_⟩
 ·unfold ae Tryz.f38;simp only[am,true_and,and_true]
  ·refine aV mixed al hG kr (fun _=>rfl) (([0,1,0]).length:Int) rfl ia (fun hb0 k_0 s_0 hlt0 hq0 hw hc=>⟨L0,ag _,?_⟩) (fun hb0 s_0 hc=>?_)
   ·unfold qk at hq0;try simp only[hw,Int.toNat_natCast]at hq0
    exact lh (jl [0,1,2,5]) (jl [0,1,2,3])
   ·exact jT (jl [0,1,2,5]) (jl [0,1,2,3])
 ·unfold ae Tryz.f38;try unfold cC
  exact zq1
def ix:List Claim:=[(ez 0 0 3 4),(ez 1 1 3 4),(ez 2 0 3 4),(ez 0 0 5 4)]
@[go_sem] def xM:List SV→Option Con:=(pE (.det True (.rs .claim (ix))))
theorem Ck:FnOk Tryz.prog 39 xM:=by
 have hG:ConsOk Tryz.prog (mkG [(40,tU)] []):=ap (cgc wH cg0) cg0;refine av [.sl .claim] mixed al hG (fn:=Tryz.f39) (c:=ae Tryz.f39) kr kr kr kr (ai (fun hp=>?_));dsimp only[ar]at hp;refine⟨nbl rfl,L0,ag _,?_⟩
 ·unfold ae Tryz.f39;try unfold ix
  exact zq1
def oQ (d:District)(c:List Claim)(j:List Judgement):Bool:=((oj d c)&&((decide ((j.length:Int)≤20)) ||((decide ((j.length:Int) > 64))&&(decide ((j.length:Int)≤100)))))
@[go_sem] def Ap:List SV→Option Con:=(pD .district fun d=>(pR .claim fun c=>(pR .judgement fun j=>(pE (.det True (.v (.bool (oQ d c j))))))))
theorem E5:FnOk Tryz.prog 11 Ap:=by
 have hG:ConsOk Tryz.prog (mkG [(41,fun l=>tC (bv [.st .district,.sl .claim] l))] []):=ap (cgc (yd.norm [.st .district,.sl .claim]) cg0) cg0;refine av [.o] mixed al hG (fn:=Tryz.f11) (c:=ae Tryz.f11) kr kr kr kr (bp fun d=>(bK fun c=>(bK fun j=>(ai (fun hp=>?_)))));dsimp only[ar]at hp;refine⟨nbl rfl,L0,ag _,?_⟩
 ·unfold ae Tryz.f11;try unfold oQ
  exact zq1
theorem wI (x y:Int):cr x y=if x<y then -1 else if x > y then 1 else 0:=by
 unfold cr lu;simp[Bool.cond_eq_ite]
theorem IC (x:Int)(l:List Int):kL (x::l)=if x=0 then kL l else x:=by
 have key:∀ l:List Int,kL l=match gD (ρ:=Int) (fun(x:Int) (_:Unit) =>bif(x !=0)then .inl x else .inr ()) l ()with| .inl y=>y| .inr _=>0:=fun l=>by
  unfold kL;have:=yQ (ρ:=Int) (fun(x:Int) (_:Unit) =>bif(x !=0)then .inl x else .inr ()) 0 l ();rw[←this];rfl
 rw[key,key];simp only[gD];by_cases h:x=0
 ·subst h;rfl
 ·have:(x !=0)=true:=by simpa using h
  rw[if_neg h,this];rfl
theorem Lk:kL []=0:=rfl
def s6:List (Int×Int)→Prop
 | [] =>False
 |(a,b)::r=>a<b∨a=b∧s6 r
theorem DT:∀ l:List (Int×Int),(kL (l.map fun p=>cr p.1 p.2) <0↔s6 l)
 | [] =>by simp[Lk,s6]
 |(a,b)::r=>by
  have hc:=wI a b;simp only[List.map_cons,IC,hc,s6];rcases Int.lt_trichotomy a b with h|h|h
  ·simp[h]
  ·subst h;simp only[Int.lt_irrefl,if_false,if_true,true_and,false_or,gt_iff_lt];exact DT r
  ·have h1:¬a<b:=by omega
   have h2:a≠b:=by omega
   simp[h1,h2,h]
def tlt (a b:Claim):Prop:=s6 [(a.rank,b.rank),(a.right,b.right),(a.farm,b.farm)]
theorem JY (a b:Claim):di a b<0↔tlt a b:=DT [(a.rank,b.rank),(a.right,b.right),(a.farm,b.farm)]
open Go.Shelf Go.Sort in
theorem T1 {α:Type}{f:α→α→Int}{r:α→α→Prop}(e:∀ x y,f x y<0↔r x y)(h1:∀ x,¬r x x)(h2:∀ x y z,r x y→r y z→r x z)(h3:∀ x y z,¬r x y→¬r y z→¬r x z):SWO (ltOf f):=by
 have e1:∀ x y,ltOf f x y=true↔r x y:=fun x y=>by unfold ltOf;rw[decide_eq_true_eq,e]
 have e2:∀ x y,ltOf f x y=false↔¬r x y:=fun x y=>by rw[←e1];simp
 exact⟨fun x=>(e2 x x).2 (h1 x),fun x y z a b=>(e1 x z).2 (h2 x y z ((e1 x y).1 a) ((e1 y z).1 b)),fun x y z a b=>(e2 x z).2 (h3 x y z ((e2 x y).1 a) ((e2 y z).1 b))⟩
open Go.Shelf Go.Sort in
theorem GM:SWO (ltOf di):=T1 JY (fun x=>by simp only[tlt,s6,and_false,or_false];omega) (fun x y z h1 h2=>by simp only[tlt,s6,and_false,or_false]at *;omega) (fun x y z h1 h2=>by simp only[tlt,s6,and_false,or_false]at *;omega)
theorem oR {n i:Nat}{step:Nat→Unit→Unit⊕Unit}{s:Unit}(h:aq step n i s=.inr s):∀ j,i≤j→j<i+n→step j ()=.inr ():=by
 induction n generalizing i with
 |zero=>intro j h1 h2;omega
 |succ n ih=>
  simp only[aq]at h;cases hs:step i s with
  |inl r=>rw[hs]at h;cases h
  |inr s'=>
   rw[hs]at h;intro j h1 h2;by_cases e:j=i
   ·subst e;cases s;exact hs
   ·exact ih h j (by omega) (by omega)
theorem nZ {b:Bool}{e:Int}:cK b e=b:=by
 cases b <;>rfl
theorem JZ {a b c:Int}(h:aJ [a,b,c]=true):a≤b∧b≤c:=by
 unfold aJ at h;simp only[List.length_cons,List.length_nil,Nat.zero_add,Nat.reduceAdd,Nat.reduceSub]at h;split at h
 ·cases h
 ·rename_i s hs;have h0:=oR hs 0 (by omega) (by omega);have h1:=oR hs 1 (by omega) (by omega);simp[bF,IntKind.wrap,IntKind.bits,IntKind.signed]at h0 h1;constructor
  ·cases hd:decide (b<a) <;>simp_all <;>omega
  ·cases hd:decide (c<b) <;>simp_all <;>omega
theorem J0 {a b c d:Int}(h:aJ [a,b,c,d]=true):a≤b∧b≤c∧c≤d:=by
 unfold aJ at h;simp only[List.length_cons,List.length_nil,Nat.zero_add,Nat.reduceAdd,Nat.reduceSub]at h;split at h
 ·cases h
 ·rename_i s hs;have h0:=oR hs 0 (by omega) (by omega);have h1:=oR hs 1 (by omega) (by omega);have h2:=oR hs 2 (by omega) (by omega);simp[bF,IntKind.wrap,IntKind.bits,IntKind.signed]at h0 h1 h2;refine⟨?_,?_,?_⟩
  ·cases hd:decide (b<a) <;>simp_all <;>omega
  ·cases hd:decide (c<b) <;>simp_all <;>omega
  ·cases hd:decide (d<c) <;>simp_all <;>omega
structure Right1 (d:District):Prop where
 reaches:d.reaches.length≤64
 one:0<d.reaches.length
 farms:d.farms.length≤600
 rights:d.rights.length≤256
 hours1:1≤d.hours
 hours:d.hours≤4096
 start0:0≤d.tank.start
 start:d.tank.start≤d.tank.cap
 cap:d.tank.cap≤1099511627776
 reach:∀ k,k<d.reaches.length→kJ (k:Int) (d.reaches.getD k default)=true
 farm:∀ k,k<d.farms.length→0≤(d.farms.getD k default).reach∧(d.farms.getD k default).reach< (d.reaches.length:Int)
theorem Ll {k:Nat}(h:k<9223372036854775807)(h1:0<k):i64.wrap ((k:Int) - 1)=((k - 1:Nat):Int):=by
 rw[f8 (by omega) (by omega)];omega
theorem DU {step:Nat→Unit→Unit⊕Unit}:∀ {n i:Nat},(∀ j,i≤j→j<i+n→step j ()=.inr ())→aq step n i ()=.inr ()
 |0,_,_=>rfl
 |n+1,i,h=>by
  simp only[aq];rw[h i (by omega) (by omega)];exact DU fun j h1 h2=>h j (by omega) (by omega)
theorem jV {step:Nat→Unit→Unit⊕Unit}{n:Nat}:aq step n 0 ()=.inr ()↔∀ j,j<n→step j ()=.inr ():=
 ⟨fun h j hj=>oR h j (by omega) (by omega),fun h=>DU fun j _ h2=>h j (by omega)⟩
theorem qF {α:Type}(l:List α)(d:α){n:Nat}(h:n<l.length):l.getD n d=l[n]:=by
 rw[List.getD_eq_getElem?_getD,List.getElem?_eq_getElem h];rfl
theorem T2 {step:Nat→Unit→Unit⊕Unit}{n:Nat}{α:Type}{a b:α}:(match aq step n 0 ()with| .inl _=>a| .inr _=>b)=b∨∃ y,aq step n 0 ()=.inl y:=by
 cases h:aq step n 0 ()with
 |inl y=>exact .inr ⟨y,rfl⟩
 |inr y=>exact .inl rfl
theorem Cl {a b c:Int}(h1:a≤b)(h2:b≤c):aJ [a,b,c]=true:=by
 have e:aq (bF [a,b,c]) 2 0 ()=.inr ():=jV.2 fun j hj=>by
  rcases(by omega:j=0∨j=1)with rfl|rfl
  ·simp[bF,IntKind.wrap,IntKind.bits,IntKind.signed,Bool.cond_eq_ite];omega
  ·simp[bF,IntKind.wrap,IntKind.bits,IntKind.signed,Bool.cond_eq_ite];omega
 unfold aJ;simp only[List.length_cons,List.length_nil,Nat.zero_add,Nat.reduceAdd,Nat.reduceSub,e]
theorem Cm {a b c d:Int}(h1:a≤b)(h2:b≤c)(h3:c≤d):aJ [a,b,c,d]=true:=by
 have e:aq (bF [a,b,c,d]) 3 0 ()=.inr ():=jV.2 fun j hj=>by
  rcases(by omega:j=0∨j=1∨j=2)with rfl|rfl|rfl
  ·simp[bF,IntKind.wrap,IntKind.bits,IntKind.signed,Bool.cond_eq_ite];omega
  ·simp[bF,IntKind.wrap,IntKind.bits,IntKind.signed,Bool.cond_eq_ite];omega
  ·simp[bF,IntKind.wrap,IntKind.bits,IntKind.signed,Bool.cond_eq_ite];omega
 unfold aJ;simp only[List.length_cons,List.length_nil,Nat.zero_add,Nat.reduceAdd,Nat.reduceSub,e]
theorem qV (d:District):bL d=0↔(d.reaches.length≤64∧d.farms.length≤600∧d.crops.length≤32∧d.rights.length≤256∧d.duties.length≤256)∧(1≤d.hours∧d.hours≤4096)∧(0≤d.tank.start∧d.tank.start≤d.tank.cap∧d.tank.cap≤1099511627776)∧0<d.reaches.length∧
  (∀ k,k<d.reaches.length→eh d 191 k ()=.inr ())∧(∀ k,k<d.crops.length→ei d 191 k ()=.inr ())∧(∀ k,k<d.farms.length→eo d 191 k ()=.inr ())∧(∀ k,k<d.rights.length→eU d 191 k ()=.inr ())∧(∀ k,k<d.duties.length→eV d 191 k ()=.inr ()):=by
 have hx:f9 d 191=true↔(1≤d.hours∧d.hours≤4096)∧(0≤d.tank.start∧d.tank.start≤d.tank.cap∧d.tank.cap≤1099511627776)∧0<d.reaches.length∧
  (∀ k,k<d.reaches.length→eh d 191 k ()=.inr ())∧(∀ k,k<d.crops.length→ei d 191 k ()=.inr ())∧(∀ k,k<d.farms.length→eo d 191 k ()=.inr ())∧(∀ k,k<d.rights.length→eU d 191 k ()=.inr ())∧(∀ k,k<d.duties.length→eV d 191 k ()=.inr ()):=by
  unfold f9;simp only[nZ];cases h3:(aJ [1,d.hours,4096]&&aJ [0,d.tank.start,d.tank.cap,1099511627776]&&decide ((d.reaches.length:Int) > 0))with
  |false=>
   simp only[cond_false,Bool.false_eq_true,false_iff];rintro⟨⟨a1,a2⟩,⟨a3,a4,a5⟩,a6,_⟩;rw[Cl a1 a2,Cm a3 a4 a5,decide_eq_true (by omega:(d.reaches.length:Int) > 0)]at h3;cases h3
  |true=>
   simp only[Bool.and_eq_true,decide_eq_true_eq]at h3;have b1:=JZ h3.1.1;have b2:=J0 h3.1.2;have b3:=h3.2;simp only[cond_true];rw[←jV,←jV,←jV,←jV,←jV]
   repeat' split
   all_goals (rename_i e;first|simp_all;done|skip)
   all_goals simp_all
   all_goals omega
 unfold bL;simp only[nZ];rw[←hx];cases h1:(((((decide ((d.reaches.length:Int)≤64))&&(decide ((d.farms.length:Int)≤600)))&&(decide ((d.crops.length:Int)≤32)))&&(decide ((d.rights.length:Int)≤256)))&&(decide ((d.duties.length:Int)≤256)))with
 |false=>
  simp only[cond_false];simp only[Bool.and_eq_false_iff,decide_eq_false_iff_not]at h1;omega
 |true=>
  simp only[Bool.and_eq_true,decide_eq_true_eq]at h1;cases f9 d 191 <;>simp <;>omega
theorem GN:∀ (f n d:Nat),1≤d→d≤f→1≤n→∀ x,(zI f n d).getLastD x=Nat.gcd n d
 |0,n,d,h1,h2,_,x=>by omega
 |f+1,n,d,h1,h2,h3,x=>by
  unfold zI;have hm:max d 1=d:=by omega
  rw[if_neg (by omega),hm];by_cases h0:n % d=0
  ·rw[if_pos h0];have:d ∣ n:=Nat.dvd_of_mod_eq_zero h0;rw[Nat.gcd_eq_right this];rfl
  ·rw[if_neg h0];have hlt:n % d<d:=Nat.mod_lt _ (by omega);have ih:=GN f d (n % d) (by omega) (by omega) (by omega) n;have e:Nat.gcd n d=Nat.gcd d (n % d):=by rw[Nat.gcd_comm n d,Nat.gcd_rec d n,Nat.gcd_comm]
   rw[e,←ih,List.getLastD_cons]
theorem NJ {n d:Nat}(h:1≤d):Lf n d=Nat.gcd n d:=by
 unfold Lf;rw[if_neg (by omega)];by_cases h0:n=0
 ·subst h0;cases d with
  |zero=>omega
  |succ d=>simp[zI]
 ·exact GN d n d h (Nat.le_refl _) (by omega) d
theorem E6 (b0:Int):∀ (n i:Nat) (a b:Int),0≤a→0≤b→b.toNat<n→aq (jR b0) n i (a,b)=.inl ((Nat.gcd a.toNat b.toNat:Nat):Int)
 |0,_,_,_,_,_,h=>by omega
 |n+1,i,a,b,ha,hb,h=>by
  simp only[aq,jR];by_cases h0:b > 0
  ·rw[decide_eq_true h0];simp only[cond_true];have e1:=Int.tmod_eq_emod_of_nonneg (b:=b) ha;have e2:=Int.emod_nonneg a (by omega:b≠0);have e3:=Int.emod_lt_of_pos a h0;rw[e1,E6 b0 n (i+1) b (a % b) hb e2 (by omega)];have e4:(a % b).toNat=a.toNat % b.toNat:=by
    obtain⟨x,rfl⟩:=Int.eq_ofNat_of_zero_le ha;obtain⟨y,rfl⟩:=Int.eq_ofNat_of_zero_le hb;simp only[←Int.natCast_emod,Int.toNat_natCast]
   rw[e4,Nat.gcd_comm a.toNat b.toNat,Nat.gcd_rec b.toNat a.toNat,Nat.gcd_comm]
  ·rw[decide_eq_false h0];have:b=0:=by omega
   subst this;simp only[cond_false,Int.toNat_zero,Nat.gcd_zero_right];rw[Int.toNat_of_nonneg ha]
theorem Aq {a b:Int}(ha:0≤a)(hb:0≤b):tQ a b=((Nat.gcd a.toNat b.toNat:Nat):Int):=by
 unfold tQ;rw[E6 b _ 0 a b ha hb (by omega)]
theorem Lm {a b:Int}(ha:0≤a)(hb:0≤b):vH a b:=by
 refine⟨nr _ _ _ fun j s _ _ h=>?_,fun z h=>?_⟩
 ·simp only[decide_eq_true_eq]at h;omega
 ·rw[E6 b _ 0 a b ha hb (by omega)]at h;cases h
theorem NK {n:Int}(h0:0≤n)(h1:n<18446744073709551616):u64.wrap n=n:=by
 simp only[IntKind.wrap,IntKind.bits,IntKind.signed];simp;omega
theorem C6 {n:Int}(h0: -1073741824≤n)(h1:n≤1073741824):gu n=(n.natAbs:Int):=by
 unfold gu;by_cases h:n<0
 ·rw[decide_eq_true h];simp only[cond_true,IntKind.wrap,IntKind.bits,IntKind.signed];simp;omega
 ·rw[decide_eq_false h];simp only[cond_false];rw[NK (by omega) (by omega)];omega
theorem Cn {n:Int}(h0: -1073741824≤n)(h1:n≤1073741824):vh n=(n.natAbs:Int):=by
 unfold vh;by_cases h:n<0
 ·rw[decide_eq_true h];simp only[cond_true];rw[f8 (by omega) (by omega)];omega
 ·rw[decide_eq_false h];simp only[cond_false];omega
structure RatioOk (a:Ratio):Prop where
 d1:1≤a.d
 d:a.d≤1073741824
 n0: -1073741824≤a.n
 n:a.n≤1073741824
 gcd:Nat.gcd a.n.natAbs a.d.toNat=1
theorem xd (a:Ratio):dM a=0↔RatioOk a:=by
 unfold dM;cases h:((((decide (a.d<1)) ||(decide (a.d > 1073741824))) ||(decide (a.n< (-1073741824)))) ||(decide (a.n > 1073741824)))with
 |true=>
  simp only[Bool.true_or,cond_true];simp only[Bool.or_eq_true,decide_eq_true_eq]at h;refine⟨fun e=>(by cases e),fun r=>?_⟩;have:=r.d1;have:=r.d;have:=r.n0;have:=r.n;omega
 |false=>
  simp only[Bool.or_eq_false_iff,decide_eq_false_iff_not]at h;rw[C6 (by omega) (by omega),NK (by omega) (by omega),Int.toNat_natCast,NJ (by omega)];simp only[Bool.false_or];by_cases hg:Nat.gcd a.n.natAbs a.d.toNat=1
  ·rw[hg];exact⟨fun _=>⟨by omega,by omega,by omega,by omega,hg⟩,fun _=>rfl⟩
  ·have:((Nat.gcd a.n.natAbs a.d.toNat:Nat):Int)≠1:=by omega
   rw[bne_iff_ne.2 this];exact⟨fun e=>(by cases e),fun r=>absurd r.gcd hg⟩
theorem xe (a:Ratio):je a=true↔RatioOk a:=by
 unfold je;constructor
 ·intro h;simp only[Bool.and_eq_true,decide_eq_true_eq,beq_iff_eq]at h;obtain⟨⟨⟨⟨h1,h2⟩,h3⟩,h4⟩,h5⟩:=h;rw[Cn (by omega) (by omega),Aq (by omega) (by omega),Int.toNat_natCast]at h5;exact⟨h1,h2,h3,h4,by omega⟩
 ·intro r;have:=r.d1;have:=r.d;have:=r.n0;have:=r.n;simp only[Bool.and_eq_true,decide_eq_true_eq,beq_iff_eq];rw[Cn (by omega) (by omega),Aq (by omega) (by omega),Int.toNat_natCast,r.gcd];exact⟨⟨⟨⟨by omega,by omega⟩,by omega⟩,by omega⟩,rfl⟩
theorem NL (a:Ratio):dM a=0∨dM a=120:=by
 unfold dM;rw[Bool.cond_eq_ite];split <;>simp
theorem GO (a:Ratio):dM a=mu a:=by
 unfold mu;cases h:je a with
 |true=>exact(xd a).2 ((xe a).1 h)
 |false=>
  have:dM a≠0:=fun e=>by
   have:=(xe a).2 ((xd a).1 e);rw[h]at this;cases this
  have:=NL a;simp only[Bool.not_false,cond_true];omega
theorem yW (a:Ratio):je a=(dM a==0):=by
 cases h:je a with
 |true=>rw[(xd a).2 ((xe a).1 h)];rfl
 |false=>
  have:dM a≠0:=fun e=>by
   have:=(xe a).2 ((xd a).1 e);rw[h]at this;cases this
  simp[this]
theorem T3 (a b:Ratio):qi a b=xb a b:=by
 unfold qi xb yb ya;rw[yW,yW,wI];generalize i64.wrap (a.n*b.d)=x;generalize i64.wrap (b.n*a.d)=y;cases h1:(dM a==0) <;>cases h2:(dM b==0) <;>simp[bne,h1,h2,Bool.cond_eq_ite];split
 ·rfl
 ·split <;>rfl
theorem A1 (a:Ratio):qC a:=fun h=>by
 simp only[Bool.and_eq_true,decide_eq_true_eq]at h;rw[Cn (by omega) (by omega)];exact Lm (by omega) (by omega)
theorem T4 (a b:Ratio):yU a b:=⟨A1 a,fun _=>A1 b⟩
theorem sf (a b c:Int):aJ [a,b,c]=(decide (a≤b)&&decide (b≤c)):=by
 cases h:aJ [a,b,c]with
 |true=>have:=JZ h;simp[this.1,this.2]
 |false=>
  by_cases h1:a≤b
  ·by_cases h2:b≤c
   ·rw[Cl h1 h2]at h;cases h
   ·simp[h2]
  ·simp[h1]
theorem uG (a b c d:Int):aJ [a,b,c,d]=(decide (a≤b)&&decide (b≤c)&&decide (c≤d)):=by
 cases h:aJ [a,b,c,d]with
 |true=>have:=J0 h;simp[this.1,this.2.1,this.2.2]
 |false=>
  by_cases h1:a≤b
  ·by_cases h2:b≤c
   ·by_cases h3:c≤d
    ·rw[Cm h1 h2 h3]at h;cases h
    ·simp[h3]
   ·simp[h2]
  ·simp[h1]
theorem Yd {a b:Bool}(h:a=true↔b=true):a=b:=by cases a <;>cases b <;>simp_all
theorem NM (x:Ratio×Ratio):pf x=jf x:=by
 unfold pf jf;rw[T3,←GO,←GO];unfold xb yb;rw[yW,yW];cases h1:(dM x.1==0) <;>cases h2:(dM x.2==0) <;>simp[bne,h1,h2,Bool.cond_eq_ite]
 repeat' split
 all_goals simp
theorem T5 (i:Int)(x:Reach):kJ i x=true↔((i > 0∧0≤x.up∧x.up<i)∨(¬i > 0∧x.up= -1))∧(1≤x.delay∧x.delay≤16)∧(0≤x.siphon∧x.siphon≤x.cap∧x.cap≤1073741824)∧(x.siphon≤x.bank∧x.bank≤1099511627776)∧(0≤x.evap.lo∧x.evap.lo≤x.evap.hi∧x.evap.hi≤1073741824)∧jf x.seep=true:=by
 unfold kJ eM;rw[NM,sf,uG,uG,uG];generalize jf x.seep=q;by_cases h:i > 0
 ·rw[decide_eq_true h];simp only[cond_true,Bool.and_eq_true,decide_eq_true_eq];cases q <;>simp only[Bool.false_eq_true,and_false,and_true] <;>omega
 ·rw[decide_eq_false h];simp only[cond_false,Bool.and_eq_true,decide_eq_true_eq,beq_iff_eq];cases q <;>simp only[Bool.false_eq_true,and_false,and_true] <;>omega
theorem T6 (x:Reach):wE x=true↔(1≤x.delay∧x.delay≤16)∧(0≤x.siphon∧x.siphon≤x.cap∧x.cap≤1073741824)∧(x.siphon≤x.bank∧x.bank≤1099511627776)∧(0≤x.evap.lo∧x.evap.lo≤x.evap.hi∧x.evap.hi≤1073741824)∧jf x.seep=true:=by
 unfold wE aD;generalize jf x.seep=q;have hb:∀ (A B:Bool) (q:Bool),(bif A then false else bif B then false else q)=true↔A=false∧B=false∧q=true:=fun A B q=>by cases A <;>cases B <;>simp
 rw[hb];simp only[Bool.or_eq_false_iff,Bool.not_eq_false',Bool.and_eq_true,decide_eq_true_eq,decide_eq_false_iff_not];by_cases h:x.bank<x.cap
 ·rw[if_pos h];cases q <;>simp only[Bool.false_eq_true,and_false,and_true] <;>omega
 ·rw[if_neg h];cases q <;>simp only[Bool.false_eq_true,and_false,and_true] <;>omega
theorem Co (l:List Reach)(k:Nat)(hk:k<4096):jS l k ()=.inr ()↔kJ (k:Int) (l.getD k default)=true:=by
 unfold jS aD;rw[T5];have hb:∀ A B:Bool,((bif A then Sum.inl ()else bif B then Sum.inl ()else Sum.inr ()):Unit⊕Unit)=.inr ()↔A=false∧B=false:=fun A B=>by cases A <;>cases B <;>simp
 rw[hb,Bool.not_eq_false',T6];generalize l.getD k default=x;generalize jf x.seep=q;by_cases h:0<k
 ·rw[Ll (by omega) h];simp only[Bool.or_eq_false_iff,Bool.and_eq_false_iff,Bool.not_eq_false',Bool.and_eq_true,decide_eq_true_eq,decide_eq_false_iff_not,beq_eq_false_iff_ne,bne_eq_false_iff_eq];cases q <;>simp only[Bool.false_eq_true,and_false,and_true] <;>omega
 ·have:k=0:=by omega
  subst this;simp only[Bool.or_eq_false_iff,Bool.and_eq_false_iff,Bool.not_eq_false',Bool.and_eq_true,decide_eq_true_eq,decide_eq_false_iff_not,beq_eq_false_iff_ne,bne_eq_false_iff_eq];cases q <;>simp only[Bool.false_eq_true,and_false,and_true] <;>omega
theorem ID {n:Nat}(h:n≤4096):i64.wrap ((n:Int) - 1)=(n:Int) - 1:=f8 (by omega) (by omega)
theorem QP (x:ByteArray):(x==x)=true:=by
 cases x with
 |mk d=>
  show(d==d)=true;simp
theorem NN (d:District)(x:Right)(h1:d.farms.length≤600)(h2:d.reaches.length≤64)(h3:1≤d.hours)(h4:d.hours≤4096):pg d x=wG d x:=by
 unfold pg wG eM aD;rw[uG,sf,sf,uG,ID (by omega),ID (by omega),f8 (by omega: -9223372036854775808≤d.hours - 1) (by omega)];rw[QP];refine Yd ?_;have hb:∀ (A q:Bool),(bif A then false else q)=true↔A=false∧q=true:=fun A q=>by cases A <;>simp
 rw[hb,hb];have hc:∀ (k1 k2 k3 a b c:Bool),(bif k1 then a else bif k2 then b else bif k3 then c else false)=true↔(k1=true∧a=true)∨(k1=false∧k2=true∧b=true)∨(k1=false∧k2=false∧k3=true∧c=true):=fun k1 k2 k3 a b c=>by cases k1 <;>cases k2 <;>cases k3 <;>simp
 rw[hc,hc];simp only[Bool.or_eq_false_iff,Bool.and_eq_true,Bool.not_eq_false',decide_eq_true_eq,decide_eq_false_iff_not,beq_iff_eq,beq_eq_false_iff_ne,and_true,true_and];omega
theorem ux (A:Bool):((bif A then Sum.inr ()else Sum.inl ()):Unit⊕Unit)=.inr ()↔A=true:=by cases A <;>simp
theorem uy (A:Bool):((bif A then Sum.inl ()else Sum.inr ()):Unit⊕Unit)=.inr ()↔A=false:=by cases A <;>simp
theorem DV (d:District)(k:Nat):pi d k ()=.inr ()↔ei d 191 k ()=.inr ():=by
 unfold pi ei aD;rw[nZ,uy,ux,sf];simp only[Bool.not_eq_false',Bool.and_eq_true,decide_eq_true_eq,ge_iff_le]
theorem DW (d:District)(k:Nat)(h1:d.reaches.length≤64)(h2:d.crops.length≤32):pj d k ()=.inr ()↔eo d 191 k ()=.inr ():=by
 unfold pj eo aD eM;simp only[nZ];rw[sf,ID (by omega),ID (by omega)];generalize d.farms.getD k default=x;have hb:∀ A B:Bool,((bif A then Sum.inl ()else bif B then Sum.inl ()else Sum.inr ()):Unit⊕Unit)=.inr ()↔A=false∧B=false:=fun A B=>by cases A <;>cases B <;>simp
 rw[hb];by_cases h:x.area > 0
 ·rw[decide_eq_true h];simp only[Bool.true_and,Bool.false_and,Bool.or_false,cond_true,ux,Bool.or_eq_false_iff,Bool.and_eq_false_iff,Bool.not_eq_false',Bool.and_eq_true,decide_eq_true_eq,decide_eq_false_iff_not,beq_eq_false_iff_ne,bne_eq_false_iff_eq];omega
 ·rw[decide_eq_false h];simp only[Bool.true_and,Bool.false_and,Bool.or_false,cond_false,ux,Bool.or_eq_false_iff,Bool.and_eq_false_iff,Bool.not_eq_false',Bool.and_eq_true,decide_eq_true_eq,decide_eq_false_iff_not,beq_eq_false_iff_ne,bne_eq_false_iff_eq,beq_iff_eq];omega
theorem DX (d:District)(k:Nat)(h1:d.reaches.length≤64)(h2:d.farms.length≤600):pn d k ()=.inr ()↔eV d 191 k ()=.inr ():=by
 unfold pn eV aD eM;simp only[nZ];rw[sf,ID (by omega),ID (by omega),ux,uy];simp only[Bool.or_eq_false_iff,Bool.not_eq_false',Bool.and_eq_true,decide_eq_true_eq];omega
theorem Ar (d:District)(k:Nat)(h1:d.farms.length≤600)(h2:d.reaches.length≤64)(h3:1≤d.hours)(h4:d.hours≤4096):pm d k ()=.inr ()↔eU d 191 k ()=.inr ():=by
 unfold pm eU;rw[nZ,NN d _ h1 h2 h3 h4,ux,uy,Bool.not_eq_false']
theorem m1 {r:Unit⊕Unit}{a b:Bool}:(match r with| .inl _=>a| .inr _=>b)=true↔(r=.inr ()∧b=true)∨((∃ y,r=.inl y)∧a=true):=by
 cases r with
 |inl y=>simp
 |inr y=>simp
theorem GP (d:District)(h1:d.reaches.length≤64)(h2:d.farms.length≤600)(h3:d.crops.length≤32):tA d=true↔(1≤d.hours∧d.hours≤4096)∧(0≤d.tank.start∧d.tank.start≤d.tank.cap∧d.tank.cap≤1099511627776)∧0<d.reaches.length∧
  (∀ k,k<d.reaches.length→eh d 191 k ()=.inr ())∧(∀ k,k<d.crops.length→ei d 191 k ()=.inr ())∧(∀ k,k<d.farms.length→eo d 191 k ()=.inr ())∧(∀ k,k<d.rights.length→eU d 191 k ()=.inr ())∧(∀ k,k<d.duties.length→eV d 191 k ()=.inr ()):=by
 have hR:tR d.reaches=true↔(∀ k,k<d.reaches.length→eh d 191 k ()=.inr ())∧0<d.reaches.length:=by
  unfold tR;refine Iff.trans (m1 (r:=aq (jS d.reaches) d.reaches.length 0 ()) (a:=false) (b:=decide ((d.reaches.length:Int) > 0))) ?_;simp only[Bool.false_eq_true,and_false,or_false,decide_eq_true_eq];rw[jV];refine and_congr ⟨fun h k hk=>?_,fun h k hk=>?_⟩ (by omega)
  ·unfold eh;rw[nZ,ux];exact(Co _ k (by omega)).1 (h k hk)
  ·have:=h k hk;unfold eh at this;rw[nZ,ux]at this;exact(Co _ k (by omega)).2 this
 have hF:wF d=true↔(∀ k,k<d.crops.length→ei d 191 k ()=.inr ())∧(∀ k,k<d.farms.length→eo d 191 k ()=.inr ()):=by
  unfold wF;refine Iff.trans (m1 (r:=aq (pi d) d.crops.length 0 ()) (a:=false) (b:=match aq (pj d) d.farms.length 0 ()with| .inl _=>false| .inr _=>true)) ?_;simp only[Bool.false_eq_true,and_false,or_false];rw[jV];refine Iff.trans (and_congr_right fun _=>m1) ?_;simp only[Bool.false_eq_true,and_false,or_false,and_true];rw[jV];exact and_congr ⟨fun h k hk=>(DV d k).1 (h k hk),fun h k hk=>(DV d k).2 (h k hk)⟩ ⟨fun h k hk=>(DW d k h1 h3).1 (h k hk),fun h k hk=>(DW d k h1 h3).2 (h k hk)⟩
 unfold tA;have hb:∀ A B q:Bool,(bif A then false else bif B then false else q)=true↔A=false∧B=false∧q=true:=fun A B q=>by cases A <;>cases B <;>simp
 rw[hb];refine Iff.trans (and_congr_right fun _=>and_congr_right fun _=>Iff.trans (m1 (r:=aq (pm d) d.rights.length 0 ()) (a:=false) (b:=match aq (pn d) d.duties.length 0 ()with| .inl _=>false| .inr _=>true)) (or_congr_left (and_congr_right fun _=>m1))) ?_;simp only[Bool.false_eq_true,and_false,or_false,and_true];rw[jV,jV];simp only[Bool.or_eq_false_iff,Bool.not_eq_false',hR,hF,aD,Bool.and_eq_true,decide_eq_true_eq,decide_eq_false_iff_not];constructor
 ·rintro⟨⟨⟨a1,a2⟩,a3⟩,⟨⟨b1,b2⟩,b3,b4⟩,b5,b6⟩;refine⟨by omega,by omega,b2,b1,b3,b4,fun k hk=>(Ar d k h2 h1 (by omega) (by omega)).1 (b5 k hk),fun k hk=>(DX d k h1 h2).1 (b6 k hk)⟩
 ·rintro⟨a1,a2,a3,b1,b2,b3,b4,b5⟩;refine⟨⟨⟨by omega,by omega⟩,by omega⟩,⟨⟨b1,a3⟩,b2,b3⟩,fun k hk=>(Ar d k h2 h1 (by omega) (by omega)).2 (b4 k hk),fun k hk=>(DX d k h1 h2).2 (b5 k hk)⟩
theorem wJ (d:District):bL d=fE d:=by
 have hs:=qV d;unfold fE;by_cases hl:d.reaches.length≤64∧d.farms.length≤600∧d.crops.length≤32∧d.rights.length≤256∧d.duties.length≤256
 ·have e1:(((((decide ((d.reaches.length:Int) > 64)) ||(decide ((d.farms.length:Int) > 600))) ||(decide ((d.crops.length:Int) > 32))) ||(decide ((d.rights.length:Int) > 256))) ||(decide ((d.duties.length:Int) > 256)))=false:=by
   simp only[Bool.or_eq_false_iff,decide_eq_false_iff_not];omega
  rw[e1];simp only[cond_false];have hv:=GP d hl.1 hl.2.1 hl.2.2.1;cases h:tA d with
  |true=>exact hs.2 ⟨hl,hv.1 h⟩
  |false=>
   have h0:bL d≠0:=fun e=>by
    have:=hv.2 (hs.1 e).2;rw[h]at this;cases this
   unfold bL at h0 ⊢;simp only[nZ]at h0 ⊢;have e2:(((((decide ((d.reaches.length:Int)≤64))&&(decide ((d.farms.length:Int)≤600)))&&(decide ((d.crops.length:Int)≤32)))&&(decide ((d.rights.length:Int)≤256)))&&(decide ((d.duties.length:Int)≤256)))=true:=by
    simp only[Bool.and_eq_true,decide_eq_true_eq];omega
   rw[e2]at h0 ⊢;simp only[cond_true]at h0 ⊢;cases hx:f9 d 191 with
   |true=>rw[hx]at h0;simp at h0
   |false=>rfl
 ·have e1:(((((decide ((d.reaches.length:Int) > 64)) ||(decide ((d.farms.length:Int) > 600))) ||(decide ((d.crops.length:Int) > 32))) ||(decide ((d.rights.length:Int) > 256))) ||(decide ((d.duties.length:Int) > 256)))=true:=by
   simp only[Bool.or_eq_true,decide_eq_true_eq];omega
  rw[e1];unfold bL;simp only[nZ];have e2:(((((decide ((d.reaches.length:Int)≤64))&&(decide ((d.farms.length:Int)≤600)))&&(decide ((d.crops.length:Int)≤32)))&&(decide ((d.rights.length:Int)≤256)))&&(decide ((d.duties.length:Int)≤256)))=false:=by
   simp only[Bool.and_eq_false_iff,decide_eq_false_iff_not];omega
  rw[e2];rfl
theorem NO (x:Ratio×Ratio):wD x:=⟨A1 _,fun _=>A1 _,fun _=>T4 _ _⟩
theorem QQ (x:Reach):xF x:=fun _ _=>NO _
theorem Ln (d:District):xG d:=fun _=>nr _ _ _ fun _ _ _ _ _ _=>QQ _
theorem DY (d:District):tS d:=fun _ _=>Ln d
def aQ (n:Int)(lo:Int)(hi:Int):Bool:=((decide (n≥lo))&&(decide (n≤hi)))
def mw (a0:District)(a1:Judgement):Bool:=letI q0:=i64.wrap ((a0.farms.length:Int) - 1);letI q1:=aQ a1.n 1 1073741824;(bif(((((!(aQ a1.kind 1 4)) ||(!(aQ a1.farm 0 q0))) ||(decide (a1.since<0))) ||(decide (a1.since > a1.to))) ||(decide (a1.to≥a0.hours)))then false else(bif(a1.kind==1)then((a1.other==0)&&(a1.n==0))else(bif(a1.kind==2)then((a1.other==0)&&q1)else(bif(((!(aQ a1.other 0 q0)) ||(a1.other==a1.farm)) ||(!q1))then false else((a1.kind==4) ||((a0.farms.getD (Int.toNat a1.other) default).reach==(a0.farms.getD (Int.toNat a1.farm) default).reach))))))
def C7 (a0:District)(a1:Judgement):Prop:=letI q0:=(a0.farms.length:Int);letI q1:=i64.wrap (q0 - 1);(a0.farms.length≤aL→((((((!(aQ a1.kind 1 4)) ||(!(aQ a1.farm 0 q1))) ||(decide (a1.since<0))) ||(decide (a1.since > a1.to))) ||(decide (a1.to≥a0.hours)))=false→((a1.kind==1)=false→((a1.kind==2)=false→((((!(aQ a1.other 0 q1)) ||(a1.other==a1.farm)) ||(!(aQ a1.n 1 1073741824)))=false→(((a1.kind==4)=false→(0≤a1.other∧a1.other<q0))∧((a1.kind==4)=false→(0≤a1.farm∧a1.farm<q0))))))))
@[go_sem] def rH (a0:List Judgement)(a1:Judgement)(k_0:Nat)(s_0:Bool):Unit⊕Bool:=letI q0:=a0.getD k_0 default;(bif((q0.of_==0)&&(q0.no==(i64.wrap (a1.of_ - 1))))then(bif(q0.of_==a1.of_)then .inl ()else .inr true)else(bif(q0.of_==a1.of_)then .inl ()else .inr s_0))
def kM (a0:List Judgement)(a1:Judgement):Bool:=(bif((((((a1.kind !=0) ||(a1.farm !=0)) ||(a1.other !=0)) ||(a1.since !=0)) ||(a1.to !=0)) ||(a1.n !=0))then false else(match aq (rH a0 a1) a0.length 0 false with| .inl x_0_0=>false| .inr s_0=>s_0))
def gz (d:District)(before:List Judgement)(x:Judgement):Bool:=letI q1:=(before.length:Int);letI q0:=before.getD (Int.toNat (i64.wrap (q1 - 1))) default;(bif(((!(aQ x.no 0 1048576)) ||(!(aQ x.hour 0 d.hours))) ||((decide (q1 > 0))&&((decide (x.no≤q0.no)) ||(decide (x.hour<q0.hour)))))then false else(bif(x.of_==0)then(mw d x)else((decide (x.of_ > 0))&&(kM before x))))
def C8 (d:District)(before:List Judgement)(x:Judgement):Prop:=letI q1:=(before.length:Int);letI q0:=i64.wrap (q1 - 1);letI q2:=before.getD (Int.toNat q0) default;letI q3:= !(aQ x.hour 0 d.hours);letI q4:= !(aQ x.no 0 1048576);letI q5:=decide (q1 > 0);letI q6:=decide (x.no≤q2.no);(before.length≤aL→(((q4||q3)=false→(q5=true→(0≤q0∧q0<q1)))∧(((q4||q3)=false→(q5=true→(q6=false→(0≤q0∧q0<q1))))∧(((q4||q3) ||(q5&&(q6||(decide (x.hour<q2.hour)))))=false→((x.of_==0)=true→(C7 d x))))))
@[go_sem] def iH (d:District)(j:List Judgement)(k_0:Nat)(s_0:Unit):Unit⊕Unit:=(bif(!(gz d ((j.take k_0).drop 0) (j.getD k_0 default)))then .inl ()else .inr ())
def zS (d:District)(j:List Judgement)(k_0:Nat)(s_0:Unit):Prop:=(j.length≤aL→((0≤0∧0≤(k_0:Int)∧(k_0:Int)≤(j.length:Int))∧(C8 d ((j.take k_0).drop 0) (j.getD k_0 default))))
def fF (d:District)(j:List Judgement):Int:=(bif((fE d) !=0)then(fE d)else(bif(decide ((j.length:Int) > 64))then 2 else(match aq (iH d j) j.length 0 ()with| .inl x_0_0=>530| .inr s_0=>0)))
def tV (d:District)(j:List Judgement):Prop:=((tS d)∧(((fE d) !=0)=false→(j.length≤aL→((decide ((j.length:Int) > 64))=false→okI (iH d j) (zS d j) j.length 0 ()))))
@[go_sem] def my (j:List Judgement)(x:Judgement)(hour:Int)(k_0:Nat)(s_0:Unit):Unit⊕Unit:=(bif(((j.getD k_0 default).of_==(i64.wrap (x.no+1)))&&(decide ((j.getD k_0 default).hour≤hour)))then .inl ()else .inr ())
def kA (j:List Judgement)(x:Judgement)(hour:Int):Bool:=(match aq (my j x hour) j.length 0 ()with| .inl x_0_0=>true| .inr s_0=>false)
def aG (j:List Judgement)(x:Judgement)(hour:Int):Bool:=(((((x.of_==0)&&(decide (x.hour≤hour)))&&(decide (x.since≤hour)))&&(decide (hour≤x.to)))&&(!(kA j x hour)))
end Go.Sx
end
section
namespace Go.Sx
open Go.RowKit
def Lo (k:Tag)(i:Nat)(t:List (Nat×SV))(h:List Ob):SV→St
 | .v (.slice none 0 0) =>⟨(i,.os h.length)::t,h++[.row k []]⟩
 |_=>⟨t,h⟩
def NP (k:Tag)(id off:Nat)(t:List (Nat×SV))(h:List Ob)(l:List SV):Option SV→St
 |some (.v (.slice none 0 0)) =>⟨t,bf h id (.cells (l.set off (.os h.length)))++[.row k []]⟩
 |_=>⟨t,h⟩
def QR (k:Tag)(id off:Nat)(t:List (Nat×SV))(h:List Ob):Ob→St
 | .cells l=>NP k id off t h l (nth l off)
 |_=>⟨t,h⟩
def NQ (k:Tag)(t:List (Nat×SV))(h:List Ob):SV→St
 | .ptr id off=>QR k id off t h (aj h id)
 |_=>⟨t,h⟩
def GQ (k:Tag):ResultVar→List (Nat×SV)→List Ob→St
 | .tmp i,t,h=>Lo k i t h (lk i t)
 | .cell i _,t,h=>NQ k t h (lk i t)
def Cp:List (ResultVar×Tag)→St→St
 | [],st=>st
 |x::r,st=>Cp r (GQ x.2 x.1 st.t st.h)
theorem QS (k:Tag)(r:ResultVar)(st:St):NilS st (GQ k r st.t st.h):=by
 obtain⟨t,h⟩:=st;cases r with
 |tmp i=>
  show NilS _ (Lo k i t h (lk i t));unfold Lo;split
  ·rename_i e;exact .slot _ (.refl _) e (.inl ⟨_,rfl⟩)
  ·exact .refl _
 |cell i _=>
  show NilS _ (NQ k t h (lk i t));unfold NQ;split
  ·unfold QR;split
   ·rename_i e;unfold NP;split
    ·rename_i e2;exact .cell _ (.refl _) e (by rw[←f7];exact e2) (.inl ⟨_,rfl⟩)
    ·exact .refl _
   ·exact .refl _
  ·exact .refl _
theorem NilS.trans {a b c:St}(h1:NilS a b)(h2:NilS b c):NilS a c:=by
 induction h2 with
 |refl=>exact h1
 |cell o _ e1 e2 ho ih=>exact .cell o ih e1 e2 ho
 |slot o _ e1 ho ih=>exact .slot o ih e1 ho
 |slotE k _ e1 ih=>exact .slotE k ih e1
theorem T7 (l:List (ResultVar×Tag)):∀ st,NilS st (Cp l st):=by
 induction l with
 |nil=>exact fun st=>.refl _
 |cons x r ih=>exact fun st=>(QS x.2 x.1 st).trans (ih _)
def J1 (l:List (ResultVar×Tag))(rs:List ResultVar)(ts:Tis)(post:SV→Prop)(pp:Value→Prop):Ex→St→Prop
 | .exit _,_=>False
 | .normal,st=>ee post (xS true rs ts (Cp l st))
 | .ret,st=>ee post (xS true rs ts (Cp l st))
 | .pan x,_=>pp x
section
variable {l:List (ResultVar×Tag)}{rs:List ResultVar}{ts:Tis}{post:SV→Prop}{pp:Value→Prop}{st:St}{k:Tag}{i id off:Nat}{t:List (Nat×SV)}{h:List Ob}{m:List SV}
@[go_sem] theorem Wl:J1 l rs ts post pp .ret st=ee post (xS true rs ts (Cp l st)):=(rfl)
@[go_sem] theorem QT:J1 l rs ts post pp .normal st=ee post (xS true rs ts (Cp l st)):=(rfl)
@[go_sem] theorem Wm {x:Value}:J1 l rs ts post pp (.pan x) st=pp x:=(rfl)
@[go_sem] theorem Ye:Cp [] st=st:=(rfl)
@[go_sem] theorem Wn {r:ResultVar}:Cp ((r,k)::l) ⟨t,h⟩=Cp l (GQ k r t h):=(rfl)
@[go_sem] theorem Wo:GQ k (.tmp i) t h=Lo k i t h (lk i t):=(rfl)
@[go_sem] theorem T8 {ty:TypeId}:GQ k (.cell i ty) t h=NQ k t h (lk i t):=(rfl)
@[go_sem] theorem Yf:Lo k i t h (.v (.slice none 0 0))=⟨(i,.os h.length)::t,h++[.row k []]⟩:=(rfl)
@[go_sem] theorem aaf:Lo k i t h (.os id)=⟨t,h⟩:=(rfl)
@[go_sem] theorem Yg:NQ k t h (.ptr id off)=QR k id off t h (aj h id):=(rfl)
@[go_sem] theorem T9:QR k id off t h (.cells m)=NP k id off t h m (nth m off):=(rfl)
@[go_sem] theorem Yh:NP k id off t h m (some (.v (.slice none 0 0)))=⟨t,bf h id (.cells (m.set off (.os h.length)))++[.row k []]⟩:=(rfl)
@[go_sem] theorem aag:NP k id off t h m (some (.os i))=⟨t,h⟩:=(rfl)
attribute [go_sem] List.set_cons_zero
end
section
variable {P:Program}{ts:Tis}{G:Cons}
theorem Cq (l:List (ResultVar×Tag)) (hm:P.follows .mixedOrders=true) (hts:ts.ok P) (hG:ConsOk P G) {f:FuncId} {fn:Func} {c:Code} (hf:P.funcs[f]? =some fn) (hb:fn.body=some c) (hname:(fn.name== "runtime.NumGoroutine")=false)
  (hc:bO fn.ntmps c=true) {C:List SV→Option Con}
  (h:∀ l0 con,C l0=some con→ar con→l0.length≤fn.ntmps∧∃ L,am P none fn.ntmps L c∧exec ts G L c ⟨lf 0 l0,[]⟩ (J1 l fn.results.toList ts (da con) (mr con))):FnOk P f C:=by
 refine⟨fun l con _ args w=>?_,fun l0 con hcon hpre F w vs hF hvs=>?_⟩
 ·have hn:¬fn.name= "runtime.NumGoroutine":=by simpa using hname
  simp[callFunc,hf,hn,hb]
 ·obtain⟨hlen,L,hl,hx⟩:=h l0 con hcon hpre;refine mt (n:=0) (callsIn_of_wp_marks hf hb trivial ?_);have hr:StRel F { w:=w,own:=b_} fn.ntmps b_ ⟨lf 0 l0,[]⟩ { tmps:=vs++Array.replicate (fn.ntmps - vs.size) undef,defers:=[]} w:=
   ⟨by have:=hvs.1;simp;omega,Dfr.nil,vb hF,Fr.refl _,fun t=>kz hvs _ t⟩
  refine wpIn_mono (lX hm hts hG c hc hl F _ _ hx b_ _ w hr) ?_;intro e a' w' hq;have key:∀ F1 own st,(∀ b,F b→F1 b)→StRel F1 { w:=w,own:=b_} fn.ntmps own st a' w'→ee (da con) (xS true fn.results.toList ts (Cp l st))→LeavesInM (rd none) 0 P fn a'.tmps
    (fun e w'=>(∃ s u own',da con s∧e=.returned u∧Handed F w own' w' s u∧Below w.heap.size w w')∨(∃ x,mr con x∧e=.panicked [{ v:=x,recovered:=false}]∧Below w.heap.size w w')) a'.defers .returning w':=by
   intro F1 own0' st0 hF1 hst0 hdone;obtain⟨own,hst⟩:=(T7 l st0).rel hst0;generalize Cp l st0=st at hst hdone;refine iF hst (by simp) fun w2 hst2=>?_;have hst3:=hst2.less hF1 rfl;unfold xS at hdone;cases hs:ku (ju ts st fn.results.toList)with
   |none=>
    simp only[cond_true,KD]at hdone;rw[hs]at hdone;exact hdone.elim
   |some s=>
    obtain⟨u,e1,e2⟩:=tw (P:=P) hts hst3 hs;refine⟨u,e1,.inl ?_⟩;simp only[cond_true,KD]at hdone;rw[hs]at hdone;change ee (da con) (Af st.h s)at hdone;cases hg:Af st.h s with
    |none=>rw[hg]at hdone;exact hdone.elim
    |some s2=>
     rw[hg]at hdone;obtain⟨own',hh⟩:=Jv hst3 e2 hg;exact⟨_,u,own',hdone,rfl,hh,pc hst3.fr⟩
  cases e with
  |normal=>obtain⟨F1,own,st,h0,h1,h2⟩:=hq;exact key F1 own st h0 h1 h2
  |ret=>obtain⟨F1,own,st,h0,h1,h2⟩:=hq;exact key F1 own st h0 h1 h2
  |exit id=>obtain⟨F1,own,st,h0,h1,h2⟩:=hq;exact h2.elim
  |panic ch=>
   obtain⟨x,F1,own,st,h0,h1,h2,rfl⟩:=hq;exact iF h1 (by simp) fun w2 hst2=>.inr ⟨x,h2,rfl,pc hst2.fr⟩
  |_=>exact hq.elim
end
end Go.Sx
end
section
namespace Go.Sx
open Go.Proofs
open IntKind (i64)
@[go_sem] def jh (l_:List Claim)(x:Claim)(k_0:Nat)(s_0:List Claim×Int):(Int×List Claim)⊕(List Claim×Int):=(bif((decide (s_0.2< (l_.length:Int)))&&(aH (l_.getD (Int.toNat s_0.2) default) x))then .inr ((s_0.1++([(l_.getD (Int.toNat s_0.2) default)])),(i64.wrap (s_0.2+1)))else .inl (s_0.2,s_0.1))
def mz (l_:List Claim)(x:Claim)(k_0:Nat)(s_0:List Claim×Int):Prop:=letI q0:=(l_.length:Int);letI q1:=l_.getD (Int.toNat s_0.2) default;letI q2:=0≤s_0.2∧s_0.2<q0;letI q3:=decide (s_0.2<q0);(l_.length≤aL→((q3=true→q2)∧((q3&&(aH q1 x))=true→(q2∧((s_0.1++([q1])).length*40≤cU)))))
def sg (l_:List Claim)(x:Claim):List Claim:=letI q0:=l_.take (Int.toNat (l_.length:Int));(match aq (jh l_ x) (l_.length+1) 0 ([],0)with| .inl x_0_0=>(bif((decide (x_0_0.1< (l_.length:Int)))&&(!(aH x (l_.getD (Int.toNat x_0_0.1) default))))then((x_0_0.2++([({ right:=x.right,farm:=x.farm,hour:=x.hour,litres:=(i64.wrap (x.litres+(l_.getD (Int.toNat x_0_0.1) default).litres)),rank:=x.rank}:Claim)]))++(q0.drop (Int.toNat (i64.wrap (x_0_0.1+1)))))else((x_0_0.2++([x]))++(q0.drop (Int.toNat x_0_0.1)))) | .inr s_0=>default)
def oS (l_:List Claim)(x:Claim):Prop:=letI q0:=(l_.length:Int);letI q1:=jh l_ x;letI q2:=l_.length+1;letI q3:=l_.take (Int.toNat q0);(okI q1 (mz l_ x) q2 0 ([],0)∧(∀ z_,aq q1 q2 0 ([],0)≠ .inr z_)∧(∀ x_0_0,aq q1 q2 0 ([],0)=.inl x_0_0→(l_.length≤aL→(((decide (x_0_0.1<q0))=true→(0≤x_0_0.1∧x_0_0.1<q0))∧((((decide (x_0_0.1<q0))&&(!(aH x (l_.getD (Int.toNat x_0_0.1) default))))=true→((0≤x_0_0.1∧x_0_0.1<q0)∧(((x_0_0.2++([({ right:=x.right,farm:=x.farm,hour:=x.hour,litres:=(i64.wrap (x.litres+(l_.getD (Int.toNat x_0_0.1) default).litres)),rank:=x.rank}:Claim)])).length*40≤cU)∧((x_0_0.2++([({ right:=x.right,farm:=x.farm,hour:=x.hour,litres:=(i64.wrap (x.litres+(l_.getD (Int.toNat x_0_0.1) default).litres)),rank:=x.rank}:Claim)])).length≤aL→((0≤(i64.wrap (x_0_0.1+1))∧(i64.wrap (x_0_0.1+1))≤q0∧q0≤q0)∧(((x_0_0.2++([({ right:=x.right,farm:=x.farm,hour:=x.hour,litres:=(i64.wrap (x.litres+(l_.getD (Int.toNat x_0_0.1) default).litres)),rank:=x.rank}:Claim)]))++(q3.drop (Int.toNat (i64.wrap (x_0_0.1+1))))).length*40≤cU))))))∧(((decide (x_0_0.1<q0))&&(!(aH x (l_.getD (Int.toNat x_0_0.1) default))))=false→(((x_0_0.2++([x])).length*40≤cU)∧((x_0_0.2++([x])).length≤aL→((0≤x_0_0.1∧x_0_0.1≤q0∧q0≤q0)∧(((x_0_0.2++([x]))++(q3.drop (Int.toNat x_0_0.1))).length*40≤cU))))))))))
@[go_sem] def mA (l_:List Claim)(farm:Int)(k_0:Nat)(s_0:Int×List Claim):Empty⊕(Int×List Claim):=letI q0:=l_.getD k_0 default;letI q1:=if s_0.1<q0.litres then s_0.1 else q0.litres;letI q2:=i64.wrap (s_0.1 - q1);(bif(q0.farm==farm)then(bif(decide (q1 > 0))then .inr (q2,(s_0.2++([({ right:=q0.right,farm:=q0.farm,hour:=q0.hour,litres:=q1,rank:=q0.rank}:Claim)])))else .inr (q2,s_0.2))else(bif(decide (q0.litres > 0))then .inr (s_0.1,(s_0.2++([q0])))else .inr (s_0.1,s_0.2)))
def ql (l_:List Claim)(farm:Int)(k_0:Nat)(s_0:Int×List Claim):Prop:=letI q0:=l_.getD k_0 default;letI q1:=if s_0.1<q0.litres then s_0.1 else q0.litres;(l_.length≤aL→(((q0.farm==farm)=true→((decide (q1 > 0))=true→((s_0.2++([({ right:=q0.right,farm:=q0.farm,hour:=q0.hour,litres:=q1,rank:=q0.rank}:Claim)])).length*40≤cU)))∧((q0.farm==farm)=false→((decide (q0.litres > 0))=true→((s_0.2++([q0])).length*40≤cU)))))
def eA (l_:List Claim)(farm:Int)(n:Int):List Claim:=(match aq (mA l_ farm) l_.length 0 (n,[])with| .inl x=>x.elim| .inr s_0=>s_0.2)
def tW (l_:List Claim)(farm:Int)(n:Int):Prop:=okI (mA l_ farm) (ql l_ farm) l_.length 0 (n,[])
@[go_sem] def iy (a0:List Claim)(a1:Int)(a2:Int)(k_0:Nat)(s_0:Int×List Claim×List Claim×Int):(List Claim×List Claim)⊕(Int×List Claim×List Claim×Int):=letI q0:=a0.getD (Int.toNat s_0.2.2.2) default;letI q1:=if s_0.1<q0.litres then s_0.1 else q0.litres;letI q2:=i64.wrap (s_0.2.2.2 - 1);letI q4:=s_0.2.2.1++([({ right:=q0.right,farm:=a2,hour:=q0.hour,litres:=q1,rank:=q0.rank}:Claim)]);letI q5:=i64.wrap (s_0.1 - q1);letI q6:=i64.wrap (q0.litres - q1);letI q3:=sg s_0.2.1 ({ right:=q0.right,farm:=q0.farm,hour:=q0.hour,litres:=q6,rank:=q0.rank}:Claim);(bif(decide (s_0.2.2.2≥0))then(bif(q0.farm==a1)then(bif(decide (q1 > 0))then(bif(decide (q6 > 0))then .inr (q5,q3,q4,q2)else .inr (q5,s_0.2.1,q4,q2))else(bif(decide (q6 > 0))then .inr (q5,q3,s_0.2.2.1,q2)else .inr (q5,s_0.2.1,s_0.2.2.1,q2)))else(bif(decide (q0.litres > 0))then .inr (s_0.1,(sg s_0.2.1 q0),s_0.2.2.1,q2)else .inr (s_0.1,s_0.2.1,s_0.2.2.1,q2)))else .inl (s_0.2.1,s_0.2.2.1))
def li (a0:List Claim)(a1:Int)(a2:Int)(k_0:Nat)(s_0:Int×List Claim×List Claim×Int):Prop:=letI q0:=a0.getD (Int.toNat s_0.2.2.2) default;letI q1:=if s_0.1<q0.litres then s_0.1 else q0.litres;letI q3:=s_0.2.2.1++([({ right:=q0.right,farm:=a2,hour:=q0.hour,litres:=q1,rank:=q0.rank}:Claim)]);letI q4:=i64.wrap (q0.litres - q1);letI q2:=(decide (q4 > 0))=true→(oS s_0.2.1 ({ right:=q0.right,farm:=q0.farm,hour:=q0.hour,litres:=q4,rank:=q0.rank}:Claim));((decide (s_0.2.2.2≥0))=true→((0≤s_0.2.2.2∧s_0.2.2.2< (a0.length:Int))∧(((q0.farm==a1)=true→(((decide (q1 > 0))=true→((q3.length*40≤cU)∧(q3.length≤aL→q2)))∧((decide (q1 > 0))=false→q2)))∧((q0.farm==a1)=false→((decide (q0.litres > 0))=true→(oS s_0.2.1 q0))))))
@[go_sem] def n8 (x_0_0:List Claim×List Claim)(k_1:Nat)(s_1:List Claim):Empty⊕(List Claim):=.inr (sg s_1 (x_0_0.2.getD k_1 default))
def rI (x_0_0:List Claim×List Claim)(k_1:Nat)(s_1:List Claim):Prop:=(x_0_0.2.length≤aL→(oS s_1 (x_0_0.2.getD k_1 default)))
def jw (a0:List Claim)(a1:Int)(a2:Int)(a3:Int):List Claim:=(match aq (iy a0 a1 a2) (a0.length+1) 0 (a3,[],[],(i64.wrap ((a0.length:Int) - 1)))with| .inl x_0_0=>(match aq (n8 x_0_0) x_0_0.2.length 0 x_0_0.1 with| .inl x=>x.elim| .inr s_1=>s_1) | .inr s_0=>default)
def r7 (a0:List Claim)(a1:Int)(a2:Int)(a3:Int):Prop:=letI q0:=(a3,[],[],(i64.wrap ((a0.length:Int) - 1)));letI q1:=iy a0 a1 a2;letI q2:=a0.length+1;(a0.length≤aL→(okI q1 (li a0 a1 a2) q2 0 q0∧(∀ z_,aq q1 q2 0 q0≠ .inr z_)∧(∀ x_0_0,aq q1 q2 0 q0=.inl x_0_0→okI (n8 x_0_0) (rI x_0_0) x_0_0.2.length 0 x_0_0.1)))
@[go_sem] def lv (j:List Judgement)(h_:Int)(k_0:Nat)(s_0:List Claim):Empty⊕(List Claim):=letI q0:=j.getD k_0 default;(bif(!(aG j q0 h_))then .inr s_0 else(bif(q0.kind==1)then .inr (eA s_0 (q0.farm) 0)else(bif(q0.kind==2)then .inr (eA s_0 (q0.farm) (q0.n))else(bif(q0.kind==3)then .inr (jw s_0 (q0.farm) (q0.other) (q0.n))else .inr s_0))))
def vI (j:List Judgement)(h_:Int)(k_0:Nat)(s_0:List Claim):Prop:=letI q0:=j.getD k_0 default;(j.length≤aL→((!(aG j q0 h_))=false→(((q0.kind==1)=true→(tW s_0 (q0.farm) 0))∧((q0.kind==1)=false→(((q0.kind==2)=true→(tW s_0 (q0.farm) (q0.n)))∧((q0.kind==2)=false→((q0.kind==3)=true→(r7 s_0 (q0.farm) (q0.other) (q0.n)))))))))
def qm (l_:List Claim)(j:List Judgement)(h_:Int):List Claim:=(match aq (lv j h_) j.length 0 l_ with| .inl x=>x.elim| .inr s_0=>s_0)
def yX (l_:List Claim)(j:List Judgement)(h_:Int):Prop:=okI (lv j h_) (vI j h_) j.length 0 l_
@[go_sem] def cL (a1:List Claim)(s_0:List Claim×Int)(k_1:Nat)(s_1:Int):Int⊕Int:=(bif((decide (s_1< (a1.length:Int)))&&((a1.getD (Int.toNat s_1) default).hour==(a1.getD (Int.toNat s_0.2) default).hour))then .inr (i64.wrap (s_1+1))else .inl s_1)
def oB (a1:List Claim)(s_0:List Claim×Int)(k_1:Nat)(s_1:Int):Prop:=(a1.length≤aL→(((decide (s_1< (a1.length:Int)))=true→(0≤s_1∧s_1< (a1.length:Int)))∧((decide (s_1< (a1.length:Int)))=true→(0≤s_0.2∧s_0.2< (a1.length:Int)))))
@[go_sem] def dY (a1:List Claim)(a2:List Judgement)(k_0:Nat)(s_0:List Claim×Int):(List Claim)⊕(List Claim×Int):=(bif(decide (s_0.2< (a1.length:Int)))then(match aq (cL a1 s_0) (a1.length+1) 0 s_0.2 with| .inl x_1_0=>.inr ((s_0.1++(qm ((a1.take (Int.toNat x_1_0)).drop (Int.toNat s_0.2)) a2 ((a1.getD (Int.toNat s_0.2) default).hour))),x_1_0) | .inr s_1=>.inr default)else .inl s_0.1)
def oC (a1:List Claim)(a2:List Judgement)(k_0:Nat)(s_0:List Claim×Int):Prop:=letI q0:=cL a1 s_0;letI q1:=Int.toNat s_0.2;letI q2:=(a1.length:Int);letI q3:=a1.length+1;letI q4:=(a1.getD q1 default).hour;(a1.length≤aL→((decide (s_0.2<q2))=true→(okI q0 (oB a1 s_0) q3 0 s_0.2∧(∀ z_,aq q0 q3 0 s_0.2≠ .inr z_)∧(∀ x_1_0,aq q0 q3 0 s_0.2=.inl x_1_0→((0≤s_0.2∧s_0.2≤x_1_0∧x_1_0≤q2)∧((0≤s_0.2∧s_0.2<q2)∧((yX ((a1.take (Int.toNat x_1_0)).drop q1) a2 q4)∧((s_0.1++(qm ((a1.take (Int.toNat x_1_0)).drop q1) a2 q4)).length*40≤cU))))))))
@[go_sem] def nt (x_0_0:List Claim)(k_2:Nat)(s_2:Unit):Unit⊕Unit:=(bif(decide ((x_0_0.getD k_2 default).litres > 1073741824))then .inl ()else .inr ())
def xN (a0:District)(a1:List Claim)(a2:List Judgement):List Claim×Int:=letI q0:=fF a0 a2;letI q1:=tB a0 a1;(bif(q0 !=0)then([],q0)else(bif(q1 !=0)then([],q1)else(match aq (dY a1 a2) (a1.length+1) 0 ([],0)with| .inl x_0_0=>(bif(decide ((x_0_0.length:Int) > 4096))then([],2)else(match aq (nt x_0_0) x_0_0.length 0 ()with| .inl x_2_0=>([],2) | .inr s_2=>(x_0_0,0))) | .inr s_0=>default)))
def AL (a0:District)(a1:List Claim)(a2:List Judgement):Prop:=letI q0:=dY a1 a2;((tV a0 a2)∧(((fF a0 a2) !=0)=false→((xI a0 a1)∧(((tB a0 a1) !=0)=false→(okI q0 (oC a1 a2) (a1.length+1) 0 ([],0)∧(∀ z_,aq q0 (a1.length+1) 0 ([],0)≠ .inr z_))))))
@[go_sem] def wK (a1:List Judgement)(a2:Int)(k_0:Nat)(s_0:List Int):Empty⊕(List Int):=letI q0:=a1.getD k_0 default;letI q2:=Int.toNat (q0.other);letI q3:=Int.toNat (q0.farm);letI q1:=s_0.set q3 (i64.wrap ((s_0.getD q3 0)+q0.n));(bif(((q0.kind==4)&&(decide (q0.hour≤a2)))&&(!(kA a1 q0 a2)))then .inr (q1.set q2 (i64.wrap ((q1.getD q2 0) - q0.n)))else .inr s_0)
def zT (a1:List Judgement)(a2:Int)(k_0:Nat)(s_0:List Int):Prop:=letI q0:=a1.getD k_0 default;letI q2:=0≤q0.farm∧q0.farm< (s_0.length:Int);letI q3:=Int.toNat (q0.farm);letI q1:=0≤q0.other∧q0.other< ((s_0.set q3 (i64.wrap ((s_0.getD q3 0)+q0.n))).length:Int);(a1.length≤aL→((((q0.kind==4)&&(decide (q0.hour≤a2)))&&(!(kA a1 q0 a2)))=true→(q2∧(q2∧(q1∧q1)))))
def C9 (a0:District)(a1:List Judgement)(a2:Int):Prop:=letI q0:=(a0.farms.length:Int);((tV a0 a1)∧(((fF a0 a1) !=0)=false→((!(aQ a2 0 a0.hours))=false→(a0.farms.length≤aL→((q0=q0∧0≤q0∧q0*((8:Nat):Int)≤((cU:Nat):Int))∧(q0≤((aL:Nat):Int)→okI (wK a1 a2) (zT a1 a2) a1.length 0 (List.replicate (Int.toNat q0) (0:Int))))))))
def dv (i:Int)(d:District):Bool:=(aM i 0 (i64.wrap ((d.farms.length:Int) - 1)))
@[go_sem] def rV:List SV→Option Con:=(pI fun i=>(pX .district fun d=>(pE (.det True (.v (.bool (dv i d)))))))
theorem wL:FnOk Tryz.prog 109 rV:=by
 have hG:ConsOk Tryz.prog (mkG [(52,f_)] []):=ap (cgc ib cg0) cg0;refine av [.o] mixed al hG (fn:=Tryz.f109) (c:=ae Tryz.f109) kr kr kr kr (dh fun i=>(aO fun d=>(ai (fun hp=>?_))));dsimp only[ar]at hp;refine⟨nbl rfl,L0,ag _,?_⟩
 ·unfold ae Tryz.f109;try unfold dv
  exact zq1
def AM (a0:District)(a1:Judgement):Unit:=(bif(an ((((aM a1.kind 1 4)&&(dv a1.farm a0))&&(aM a1.since 0 a1.to))&&(decide (a1.to<a0.hours))) 530)then(bif(an (((a1.kind==1)&&(a1.n==0)) ||((a1.kind !=1)&&(aM a1.n 1 1073741824))) 530)then(bif(decide (a1.kind<3))then(bif(an (a1.other==0) 530)then()else default)else(bif(an ((dv a1.other a0)&&(a1.other !=a1.farm)) 530)then(bif(an ((a1.kind==4) ||((a0.farms.getD (Int.toNat a1.other) default).reach==(a0.farms.getD (Int.toNat a1.farm) default).reach)) 530)then()else default)else default))else default)else default)
def tD (a0:District)(a1:Judgement):Prop:=letI q0:=(a0.farms.length:Int);((an ((((aM a1.kind 1 4)&&(dv a1.farm a0))&&(aM a1.since 0 a1.to))&&(decide (a1.to<a0.hours))) 530)=true→((an (((a1.kind==1)&&(a1.n==0)) ||((a1.kind !=1)&&(aM a1.n 1 1073741824))) 530)=true→((decide (a1.kind<3))=false→((an ((dv a1.other a0)&&(a1.other !=a1.farm)) 530)=true→(((a1.kind==4)=false→(0≤a1.other∧a1.other<q0))∧((a1.kind==4)=false→(0≤a1.farm∧a1.farm<q0)))))))
theorem QU {n:Int}(h: -9223372036854775808≤n):i64.wrap n≤n:=by
 simp only[IntKind.wrap,IntKind.bits,IntKind.signed];simp;omega
theorem QV (b:Bool)(e:Int):an b e=b:=by cases b <;>rfl
theorem Yi (n lo hi:Int):aM n lo hi=true↔lo≤n∧n≤hi:=by
 unfold aM;simp[Bool.and_eq_true]
theorem ye (d:District)(x:Judgement):tD d x:=by
 intro h1 h2 h3 h4;rw[QV]at h1 h4;simp only[Bool.and_eq_true]at h1 h4;have a1:=h1.1.1.2;have a4:=h4.1;unfold dv at a1 a4;rw[Yi]at a1 a4;have:=QU (n:=(d.farms.length:Int) - 1) (by omega);exact⟨fun _=>⟨by omega,by omega⟩,fun _=>⟨by omega,by omega⟩⟩
def iI (a0:District)(a1:Judgement):Bool:=(bif(an ((((aM a1.kind 1 4)&&(dv a1.farm a0))&&(aM a1.since 0 a1.to))&&(decide (a1.to<a0.hours))) 530)then(bif(an (((a1.kind==1)&&(a1.n==0)) ||((a1.kind !=1)&&(aM a1.n 1 1073741824))) 530)then(bif(decide (a1.kind<3))then(bif(an (a1.other==0) 530)then true else false)else(bif(an ((dv a1.other a0)&&(a1.other !=a1.farm)) 530)then(bif(an ((a1.kind==4) ||((a0.farms.getD (Int.toNat a1.other) default).reach==(a0.farms.getD (Int.toNat a1.farm) default).reach)) 530)then true else false)else false))else false)else false)
@[go_sem] def tE:List SV→Option Con:=(pD .district fun a0=>(pD .judgement fun a1=>(pE (.may (iI a0 a1) (.tup []) (.iface 36 (.int .i64 530))))))
theorem yf:FnOk Tryz.prog 59 tE:=by
 have hG:ConsOk Tryz.prog (mkG [(52,f_),(58,jU),(109,rV)] []):=ap (cgc ib (cgc l5 (cgc wL cg0))) cg0;refine av [] mixed al hG (fn:=Tryz.f59) (c:=ae Tryz.f59) kr kr kr kr (bp fun a0=>(bp fun a1=>(ai (fun hp=>?_))));dsimp only[ar]at hp;have hp:=ye a0 a1;unfold tD at hp;refine⟨nbl rfl,L0,ag _,?_⟩
 ·unfold ae Tryz.f59;try unfold AM
  try unfold iI
  exact zq1
def l6 (y:Judgement)(x:Judgement)(hour:Int):Bool:=((y.of_==(i64.wrap (x.no+1)))&&(decide (y.hour≤hour)))
@[go_sem] def rW:List SV→Option Con:=(pD .judgement fun y=>(pX .judgement fun x=>(pX .int fun hour=>(pE (.det True (.v (.bool (l6 y x hour))))))))
theorem wM:FnOk Tryz.prog 104 rW:=by
 have hG:ConsOk Tryz.prog (mkG [] []):=ap cg0 cg0;refine av [.o] mixed al hG (fn:=Tryz.f104) (c:=ae Tryz.f104) kr kr kr kr (bp fun y=>(aO fun x=>(aO fun hour=>(ai (fun hp=>?_)))));dsimp only[ar]at hp;refine⟨nbl rfl,L0,ag _,?_⟩
 ·unfold ae Tryz.f104;try unfold l6
  exact zq1
@[go_sem] def bC (s_:List Judgement)(x:Judgement)(hour:Int)(k_0:Nat)(s_0:Unit):Int⊕Unit:=(bif(l6 (s_.getD k_0 default) x hour)then .inl (k_0:Int)else .inr ())
def dp (s_:List Judgement)(x:Judgement)(hour:Int):Int:=(match aq (bC s_ x hour) s_.length 0 ()with| .inl x_0_0=>x_0_0| .inr s_0=>(-1))
@[go_sem] def fg:List SV→Option Con:=(pR .judgement fun s_=>(pFn 104 (pX .judgement fun x=>(pX .int fun hour=>(pE ((pE (.det True (.v (.int .i64 (dp s_ x hour)))))))))))
theorem ji:FnOk Tryz.prog 147 fg:=by
 have hG:ConsOk Tryz.prog (mkG [(104,rW)] []):=ap (cgc wM cg0) cg0;refine av [.o] mixed al hG (fn:=Tryz.f147) (c:=ae Tryz.f147) kr kr kr kr (bK fun s_=>(bq (aO fun x=>(aO fun hour=>(ai ((ai (fun hp=>?_))))))));dsimp only[ar]at hp;refine⟨nbl rfl,(fun id st=>bif Nat.beq id 0 then some (LCR (ρ:=Int) (σ:=Unit) 0 [] [] (fun k_0 s_0=>⟨[(0,.rs .judgement s_),(1,.fn 104 [] [.ep (cellsOf .judgement x) 0,.ep [.v (.int .i64 hour)] 0]),(7,.v (.int .i64 (s_.length:Int))),(8,.v (.int .i64 (k_0:Int)))],[]⟩) (bC s_ x hour) pT s_.length () (s_.length≤aL) (fun _=>.ret) (fun x_0_0=>⟨[(4,.v (.int .i64 x_0_0))],[]⟩) st)else none),?_,?_⟩
 ·unfold ae Tryz.f147;simp only[am,true_and,and_true]
  ·refine aV mixed al hG kr (fun _=>rfl) (s_.length:Int) rfl ia (fun hb0 k_0 s_0 hlt0 _ hw hc=>⟨L0,ag _,?_⟩) (fun hb0 s_0 hc=>?_)
   ·exact bX (jl [])
   ·exact bH (jl [])
 ·unfold ae Tryz.f147;try unfold dp
  exact zq1
def cN (s_:List Judgement)(x:Judgement)(hour:Int):Bool:=(decide ((dp s_ x hour)≥0))
@[go_sem] def eL:List SV→Option Con:=(pR .judgement fun s_=>(pFn 104 (pX .judgement fun x=>(pX .int fun hour=>(pE ((pE (.det True (.v (.bool (cN s_ x hour)))))))))))
theorem iJ:FnOk Tryz.prog 103 eL:=by
 have hG:ConsOk Tryz.prog (mkG [(147,fun l=>fg (bv [.sl .judgement,.o] l))] []):=ap (cgc (ji.norm [.sl .judgement,.o]) cg0) cg0;refine av [.o] mixed al hG (fn:=Tryz.f103) (c:=ae Tryz.f103) kr kr kr kr (bK fun s_=>(bq (aO fun x=>(aO fun hour=>(ai ((ai (fun hp=>?_))))))));dsimp only[ar]at hp;refine⟨nbl rfl,L0,ag _,?_⟩
 ·unfold ae Tryz.f103;try unfold cN
  exact zq1
def gA (j:List Judgement)(x:Judgement)(hour:Int):Bool:=(cN j x hour)
@[go_sem] def l7:List SV→Option Con:=(pR .judgement fun j=>(pD .judgement fun x=>(pI fun hour=>(pE (.det True (.v (.bool (gA j x hour))))))))
theorem sF:FnOk Tryz.prog 53 l7:=by
 have hG:ConsOk Tryz.prog (mkG [(103,fun l=>eL (bv [.sl .judgement,.o] l))] []):=ap (cgc (iJ.norm [.sl .judgement,.o]) cg0) cg0;refine av [.o] mixed al hG (fn:=Tryz.f53) (c:=ae Tryz.f53) kr kr kr kr (bK fun j=>(bp fun x=>(dh fun hour=>(ai (fun hp=>?_)))));dsimp only[ar]at hp;refine⟨nbl rfl,L0,ag _,?_⟩
 ·unfold ae Tryz.f53;try unfold gA
  exact zq1
@[go_sem] def dO (a0:District)(a1:List Judgement)(k_0:Nat)(s_0:List (Int×Bool)):Unit⊕(List (Int×Bool)):=letI q0:=a1.getD k_0 default;letI q1:=a1.getD (Int.toNat (i64.wrap ((k_0:Int) - 1))) default;(bif(an ((aM (q0.no) 0 1048576)&&(aM (q0.hour) 0 a0.hours)) 530)then(bif(an (((k_0:Int) ==0) ||((decide (q0.no > q1.no))&&(decide (q0.hour≥q1.hour)))) 530)then(bif(q0.of_==0)then(bif(iI a0 q0)then .inr (iX .int .bool s_0 (i64.wrap (q0.no+1)) true)else .inl ())else(bif(an ((du .int .bool s_0 (q0.of_))&&((q0.no==q0.no)&&((q0.hour==q0.hour)&&((q0.kind==0)&&((q0.farm==0)&&((q0.other==0)&&((q0.since==0)&&((q0.to==0)&&((q0.n==0)&&(q0.of_==q0.of_)))))))))) 530)then .inr (yo .int .bool s_0 (q0.of_))else .inl ()))else .inl ())else .inl ())
def mB (a0:District)(a1:List Judgement)(k_0:Nat)(s_0:List (Int×Bool)):Prop:=letI q1:=a1.getD k_0 default;letI q3:=(k_0:Int);letI q0:=i64.wrap (q3 - 1);letI q2:=0≤q0∧q0< (a1.length:Int);((an ((aM (q1.no) 0 1048576)&&(aM (q1.hour) 0 a0.hours)) 530)=true→(((q3==0)=false→q2)∧((q3==0)=false→((decide (q1.no > (a1.getD (Int.toNat q0) default).no))=true→q2))))
def aT (a0:District)(a1:List Judgement):Int:=(bif((bL a0) !=0)then(bL a0)else(bif(an (decide ((a1.length:Int)≤64)) 2)then(match aq (dO a0 a1) a1.length 0 ([])with| .inl x_0_0=>530| .inr s_0=>0)else 2))
def g9 (a0:District)(a1:List Judgement):Prop:=(((bL a0) !=0)=false→(a1.length≤aL→((an (decide ((a1.length:Int)≤64)) 2)=true→(a1.length≤aL→okI (dO a0 a1) (mB a0 a1) a1.length 0 ([])))))
@[go_sem] def l8:List SV→Option Con:=(pD .district fun a0=>(pR .judgement fun a1=>(pE (.det (g9 a0 a1) (.v (.int .i64 (aT a0 a1)))))))
theorem zq39 {p:Prop}(h:p:=by simp only[go_sem,Nat.reduceBEq,Nat.reduceLeDiff,Nat.reduceLT,decide_true,Nat.reduceAdd,Nat.reduceSub,Nat.reduceMul,Int.reduceLE,Int.reduceLT,Int.reduceToNat,Int.reduceNeg,reduceCtorEq,qh,oy,RCJ];all_goals exact cl):p:=h
theorem oD:FnOk Tryz.prog 16 l8:=by
 have hG:ConsOk Tryz.prog (mkG [(52,f_),(57,fun l=>sB (bv [.st .district] l)),(58,jU),(59,fun l=>tE (bv [.st .district,.st .judgement] l))] []):=ap (cgc ib (cgc (vF.norm [.st .district]) (cgc l5 (cgc (yf.norm [.st .district,.st .judgement]) cg0)))) cg0;refine JX E4 [.o] mixed al hG (fn:=Tryz.f16) (c0:=qh (ae Tryz.f16)) (c1:=oy (oy (ae Tryz.f16))) (i1:=PU (qh (oy (ae Tryz.f16)))) (o1:=M_ 0 (qh (oy (ae Tryz.f16)))) (q:=4) (tys:= #[104]) kr kr kr (by refine⟨?_,?_,?_⟩ <;>kernel_rfl) kr kr (bp fun a0=>(bK fun a1=>(ai (fun hp=>?_))));dsimp only[ar]at hp;unfold g9 at hp;refine⟨nbl rfl,L0,(fun id st=>bif Nat.beq id 0 then some (LCR (ρ:=Unit) (σ:=(List (Int×Bool))) 3 [] [0,1,2] (fun k_0 s_0=>⟨[(1,.rs .judgement a1),(2,.ptr 0 0),(4,.ptr 1 0),(5,.os 2),(18,.rs .judgement a1),(19,.v (.int .i64 (a1.length:Int))),(20,.v (.int .i64 (k_0:Int)))],[.cells (cellsOf .district a0),.cells [.v (.int .i64 (bL a0))],.mp .int .bool s_0 none]⟩) (dO a0 a1) (mB a0 a1) a1.length ([]) (a1.length≤aL) (fun _=>.pan (.iface 36 (.int .i64 530))) (fun x_0_0=>⟨[(4,.ptr 1 0)],[.dead,.cells [.v (.int .i64 (bL a0))],.dead]⟩) st)else none),1,?_,?_,?_⟩
 ·unfold ae Tryz.f16;simp only[qh,am,and_self,true_and,and_true]
 ·unfold ae Tryz.f16;simp only[oy];simp only[am,true_and,and_true]
  ·refine aV mixed al hG kr (fun _=>rfl) (a1.length:Int) rfl ia (fun hb0 k_0 s_0 hlt0 hq0 hw hc=>⟨L0,ag _,?_⟩) (fun hb0 s_0 hc=>?_)
   ·unfold mB at hq0;try simp only[hw,Int.toNat_natCast]at hq0
    exact bX (jl [0,1,2])
   ·exact bH (jl [0,1,2])
 ·unfold ae Tryz.f16;try unfold aT
  exact zq39
@[go_sem] def kO (a1:List Judgement)(a2:Int)(k_0:Nat)(s_0:List Int):Empty⊕(List Int):=letI q0:=a1.getD k_0 default;letI q2:=Int.toNat (q0.other);letI q3:=Int.toNat (q0.farm);letI q1:=s_0.set q3 (i64.wrap ((s_0.getD q3 0)+q0.n));(bif(((q0.kind==4)&&(decide (q0.hour≤a2)))&&(!(gA a1 q0 a2)))then .inr (q1.set q2 (i64.wrap ((q1.getD q2 0) - q0.n)))else .inr s_0)
def mC (a1:List Judgement)(a2:Int)(k_0:Nat)(s_0:List Int):Prop:=letI q0:=a1.getD k_0 default;letI q2:=0≤q0.farm∧q0.farm< (s_0.length:Int);letI q3:=Int.toNat (q0.farm);letI q1:=0≤q0.other∧q0.other< ((s_0.set q3 (i64.wrap ((s_0.getD q3 0)+q0.n))).length:Int);((((q0.kind==4)&&(decide (q0.hour≤a2)))&&(!(gA a1 q0 a2)))=true→(q2∧(q2∧(q1∧q1))))
def ft (a0:District)(a1:List Judgement)(a2:Int):List Int×Int:=letI q0:=aT a0 a1;(bif(q0 !=0)then([],q0)else(bif(!(aM a2 0 a0.hours))then([],1)else(match aq (kO a1 a2) a1.length 0 (List.replicate (Int.toNat (a0.farms.length:Int)) (0:Int))with| .inl x=>x.elim| .inr s_0=>(s_0,0))))
def jk (a0:District)(a1:List Judgement)(a2:Int):Prop:=letI q0:=(a0.farms.length:Int);((g9 a0 a1)∧(((aT a0 a1) !=0)=false→((!(aM a2 0 a0.hours))=false→(a0.farms.length≤aL→((q0=q0∧0≤q0∧q0*((8:Nat):Int)≤((cU:Nat):Int))∧(q0≤((aL:Nat):Int)→(a1.length≤aL→okI (kO a1 a2) (mC a1 a2) a1.length 0 (List.replicate (Int.toNat q0) (0:Int)))))))))
@[go_sem] def tF:List SV→Option Con:=(pD .district fun a0=>(pR .judgement fun a1=>(pI fun a2=>(pE (.det (jk a0 a1 a2) (.tup [.nw .int ((ft a0 a1 a2).1),.v (.int .i64 ((ft a0 a1 a2).2))]))))))
theorem yg:FnOk Tryz.prog 14 tF:=by
 have hG:ConsOk Tryz.prog (mkG [(16,fun l=>l8 (bv [.st .district,.sl .judgement] l)),(52,f_),(53,fun l=>l7 (bv [.sl .judgement,.st .judgement,.o] l))] []):=ap (cgc (oD.norm [.st .district,.sl .judgement]) (cgc ib (cgc (sF.norm [.sl .judgement,.st .judgement,.o]) cg0))) cg0;refine Cq [(.tmp 6,.int)] mixed al hG (fn:=Tryz.f14) (c:=ae Tryz.f14) kr kr kr kr (bp fun a0=>(bK fun a1=>(dh fun a2=>(ai (fun hp=>?_)))));dsimp only[ar]at hp;unfold jk at hp;refine⟨nbl rfl,(fun id st=>bif Nat.beq id 0 then some (LCR (ρ:=Empty) (σ:=(List Int)) 2 [] [0,1] (fun k_0 s_0=>⟨[(1,.rs .judgement a1),(2,.v (.int .i64 a2)),(6,.os 1),(25,.rs .judgement a1),(26,.v (.int .i64 (a1.length:Int))),(27,.v (.int .i64 (k_0:Int)))],[.dead,.row .int s_0]⟩) (kO a1 a2) (mC a1 a2) a1.length (List.replicate (Int.toNat (a0.farms.length:Int)) (0:Int)) (a1.length≤aL) ((·.elim)) ((·.elim)) st)else none),?_,?_⟩
 ·unfold ae Tryz.f14;simp only[am,true_and,and_true]
  ·refine aV mixed al hG kr (fun _=>rfl) (a1.length:Int) rfl ia (fun hb0 k_0 s_0 hlt0 hq0 hw hc=>⟨L0,ag _,?_⟩) (fun hb0 s_0 hc=>?_)
   ·unfold mC at hq0;try simp only[hw,Int.toNat_natCast]at hq0
    exact bX (jl [0,1])
   ·exact bH (jl [0,1])
 ·unfold ae Tryz.f14;try unfold ft
  exact zq1
theorem E7 (b:Bool)(e:Int):an b e=b:=by cases b <;>rfl
theorem R7 (n lo hi:Int):aM n lo hi=(decide (lo≤n)&&decide (n≤hi)):=rfl
theorem DZ (n lo hi:Int):aQ n lo hi=(decide (lo≤n)&&decide (n≤hi)):=rfl
theorem IE (d:District)(x:Judgement):iI d x=mw d x:=by
 unfold iI mw;simp only[E7,R7,DZ,dv];generalize ((d.farms.getD (Int.toNat x.other) (default:Farm)).reach==(d.farms.getD (Int.toNat x.farm) (default:Farm)).reach)=R;generalize i64.wrap ((d.farms.length:Int) - 1)=m;rw[Bool.eq_iff_iff];cases R <;>simp[Bool.cond_eq_ite] <;>grind
structure JInv (b:List Judgement)(s:List (Int×Bool)):Prop where
 nd:(p6 s).Nodup
 val:∀ z:Int,du .int .bool s z=true↔(∃ y∈b,y.of_=0∧y.no+1=z)∧¬ ∃ y∈b,y.of_=z
 no:∀ y∈b,0≤y.no∧y.no≤1048576
 of:∀ y∈b,y.of_≠0→∃ z∈b,y.of_=z.no+1
 last:∀ y∈b,y.no≤(b.getD (b.length - 1) default).no
theorem NR:JInv [] []:=⟨List.nodup_nil,fun z=>⟨fun h=>(by cases h),fun⟨⟨y,hy,_⟩,_⟩ =>(by cases hy)⟩,fun y hy=>(by cases hy),fun y hy=>(by cases hy),fun y hy=>(by cases hy)⟩
theorem yh (b:List Judgement)(x:Judgement):∀ (n k:Nat) (s:Bool),k+n=b.length→
  aq (rH b x) n k s=bif(b.drop k).any (fun y=>y.of_==x.of_)then .inl ()else .inr (s||(b.drop k).any (fun y=>y.of_==0&&y.no==i64.wrap (x.of_ - 1)))
 |0,k,s,h=>by
  have:b.drop k=[]:=List.drop_eq_nil_of_le (by omega);simp[this,aq]
 |n+1,k,s,h=>by
  have hk:k<b.length:=by omega
  rw[List.drop_eq_getElem_cons hk];simp only[aq,rH,qF _ _ hk,List.any_cons];cases h1:(b[k].of_==x.of_) <;>cases h2:(b[k].of_==0&&b[k].no==i64.wrap (x.of_ - 1)) <;>simp only[cond_true,cond_false,Bool.true_or,Bool.false_or,Bool.or_true,Bool.or_false]
  ·rw[yh b x n (k+1) s (by omega)]
  ·rw[yh b x n (k+1) true (by omega)];simp
theorem Cr (b:List Judgement)(x:Judgement)(h0:0<x.of_)(h1:x.of_<9223372036854775808):kM b x=true↔
  (x.kind=0∧x.farm=0∧x.other=0∧x.since=0∧x.to=0∧x.n=0)∧(∃ y∈b,y.of_=0∧y.no+1=x.of_)∧¬ ∃ y∈b,y.of_=x.of_:=by
 unfold kM;rw[yh b x b.length 0 false (by omega),List.drop_zero,f8 (by omega) (by omega)];have hA:(b.any fun y=>y.of_==x.of_)=true↔∃ y∈b,y.of_=x.of_:=by simp
 have hB:(b.any fun y=>y.of_==0&&y.no==x.of_ - 1)=true↔∃ y∈b,y.of_=0∧y.no+1=x.of_:=by
  simp only[List.any_eq_true,Bool.and_eq_true,beq_iff_eq];exact⟨fun⟨y,h1,h2,h3⟩ =>⟨y,h1,h2,by omega⟩,fun⟨y,h1,h2,h3⟩ =>⟨y,h1,h2,by omega⟩⟩
 rw[←hA,←hB];cases(b.any fun y=>y.of_==x.of_) <;>cases(b.any fun y=>y.of_==0&&y.no==x.of_ - 1) <;>simp <;>grind
theorem zU {α:Type}(l:List α)(d:α){k:Nat}(h0:0<k)(h:k≤l.length):(l.take k).getD ((l.take k).length - 1) d=l.getD (k - 1) d:=by
 rw[List.length_take,Nat.min_eq_left h,List.getD_eq_getElem?_getD,List.getElem?_take_of_lt (by omega),←List.getD_eq_getElem?_getD]
theorem E8 (d:District)(j:List Judgement)(hj:∀ y∈j,-9223372036854775808≤y.of_∧y.of_<9223372036854775808)(hl:j.length≤64){k:Nat}(hk:k<j.length){s:List (Int×Bool)}(hs:JInv (j.take k) s):
  (gz d ((j.take k).drop 0) (j.getD k default)=true∧∃ s',dO d j k s=.inr s'∧JInv (j.take (k+1)) s')∨(gz d ((j.take k).drop 0) (j.getD k default)=false∧dO d j k s=.inl ()):=by
 have hlen:(j.take k).length=k:=by rw[List.length_take];omega
 rw[List.drop_zero];have hx:j.getD k default∈j:=by rw[qF _ _ hk];exact List.getElem_mem _
 have hof:=hj _ hx;have hT:j.take (k+1)=j.take k++[j.getD k default]:=by rw[List.take_add_one,qF _ _ hk,List.getElem?_eq_getElem hk];rfl
 have hlast:0<k→(j.take k).getD (Int.toNat (i64.wrap (((j.take k).length:Int) - 1))) default=j.getD (k - 1) default∧j.getD (Int.toNat (i64.wrap ((k:Int) - 1))) default=j.getD (k - 1) default:=fun h0=>by
  rw[hlen,f8 (by omega) (by omega),show((k:Int) - 1).toNat=k - 1 by omega];refine⟨?_,rfl⟩;have:=zU j default h0 (by omega)
  rwa[hlen]at this
 generalize hxe:j.getD k default=x at *;have hx1:j.getD k (default:Judgement)=x:=hxe;generalize hpe:j.getD (k - 1) (default:Judgement)=p at *;have hbk:∀ y∈j.take k,0<k∧y.no≤p.no:=fun y hy=>by
  have h0:0<k:=by
   rcases Nat.eq_zero_or_pos k with h|h
   ·subst h;cases hy
   ·exact h
  have h1:=hs.last y hy;have h2:=zU j (default:Judgement) h0 (by omega:k≤j.length);rw[h2,hpe]at h1;exact⟨h0,h1⟩
 have eB:((k:Int) ==0||(decide (x.no > (j.getD (Int.toNat (i64.wrap ((k:Int) - 1))) (default:Judgement)).no)&&decide (x.hour≥(j.getD (Int.toNat (i64.wrap ((k:Int) - 1))) (default:Judgement)).hour)))=decide (k=0∨p.no<x.no∧p.hour≤x.hour):=by
  by_cases h0:k=0
  ·subst h0;simp
  ·rw[(hlast (by omega)).2];rw[Bool.eq_iff_iff];simp[h0]
 have eR:(decide (((j.take k).length:Int) > 0)&&(decide (x.no≤((j.take k).getD (Int.toNat (i64.wrap (((j.take k).length:Int) - 1))) (default:Judgement)).no) ||decide (x.hour< ((j.take k).getD (Int.toNat (i64.wrap (((j.take k).length:Int) - 1))) (default:Judgement)).hour)))= !decide (k=0∨p.no<x.no∧p.hour≤x.hour):=by
  by_cases h0:k=0
  ·subst h0;simp
  ·rw[(hlast (by omega)).1,hlen];rw[Bool.eq_iff_iff];simp[h0];omega
 have e1:dO d j k s=bif(aQ x.no 0 1048576&&aQ x.hour 0 d.hours)&&decide (k=0∨p.no<x.no∧p.hour≤x.hour)then(bif x.of_==0 then(bif mw d x then .inr (iX .int .bool s (i64.wrap (x.no+1)) true)else .inl ())else(bif du .int .bool s x.of_&&decide (x.kind=0∧x.farm=0∧x.other=0∧x.since=0∧x.to=0∧x.n=0)then .inr (yo .int .bool s x.of_)else .inl ()))else .inl ():=by
  unfold dO;simp only[E7,hx1,eB,IE];rw[show aM x.no 0 1048576=aQ x.no 0 1048576 from rfl,show aM x.hour 0 d.hours=aQ x.hour 0 d.hours from rfl];have eZ:(du .int .bool s x.of_&&(x.no==x.no&&(x.hour==x.hour&&(x.kind==0&&(x.farm==0&&(x.other==0&&(x.since==0&&(x.to==0&&(x.n==0&&x.of_==x.of_)))))))))=(du .int .bool s x.of_&&decide (x.kind=0∧x.farm=0∧x.other=0∧x.since=0∧x.to=0∧x.n=0)):=by
   congr 1
   rw[Bool.eq_iff_iff];simp
  rw[eZ];cases aQ x.no 0 1048576&&aQ x.hour 0 d.hours <;>cases decide (k=0∨p.no<x.no∧p.hour≤x.hour) <;>rfl
 have e2:gz d (j.take k) x=bif(aQ x.no 0 1048576&&aQ x.hour 0 d.hours)&&decide (k=0∨p.no<x.no∧p.hour≤x.hour)then(bif x.of_==0 then mw d x else(decide (x.of_ > 0)&&kM (j.take k) x))else false:=by
  unfold gz;rw[eR];cases aQ x.no 0 1048576 <;>cases aQ x.hour 0 d.hours <;>cases decide (k=0∨p.no<x.no∧p.hour≤x.hour) <;>rfl
 rw[e1,e2];cases hAB:(aQ x.no 0 1048576&&aQ x.hour 0 d.hours)&&decide (k=0∨p.no<x.no∧p.hour≤x.hour)with
 |false=>exact .inr ⟨rfl,rfl⟩
 |true=>
  simp only[Bool.and_eq_true,DZ,decide_eq_true_eq]at hAB;obtain⟨⟨⟨n1,n2⟩,_⟩,hB⟩:=hAB;have hno:∀ y∈j.take k,y.no<x.no:=fun y hy=>by
   obtain⟨h0,h1⟩:=hbk y hy;rcases hB with hB|hB <;>omega
  simp only[cond_true];have hlst:∀ y∈j.take (k+1),y.no≤((j.take (k+1)).getD ((j.take (k+1)).length - 1) default).no:=fun y hy=>by
   rw[zU j default (by omega) (by omega:k+1≤j.length),Nat.add_sub_cancel,hx1];rw[hT]at hy;rcases List.mem_append.1 hy with hy|hy
   ·exact Int.le_of_lt (hno y hy)
   ·rw[List.mem_singleton.1 hy];exact Int.le_refl _
  have hnn:∀ y∈j.take (k+1),0≤y.no∧y.no≤1048576:=fun y hy=>by
   rw[hT]at hy;rcases List.mem_append.1 hy with hy|hy
   ·exact hs.no y hy
   ·rw[List.mem_singleton.1 hy];exact⟨n1,n2⟩
  cases ho:x.of_==0 with
  |true=>
   have ho':x.of_=0:=eq_of_beq ho;simp only[cond_true];cases hv:mw d x with
   |false=>exact .inr ⟨rfl,rfl⟩
   |true=>
    refine .inl ⟨rfl,_,rfl,(zQ _ _ _ hs.nd).1,fun z=>?_,hnn,fun y hy h0=>?_,hlst⟩
    ·rw[xc,f8 (by omega) (by omega),hT];by_cases hz:z=x.no+1
     ·subst hz;rw[if_pos rfl];refine⟨fun _=>⟨⟨x,by simp,ho',rfl⟩,fun⟨y,hy,h1⟩ =>?_⟩,fun _=>rfl⟩;rcases List.mem_append.1 hy with hy|hy
      ·obtain⟨q,hq,h2⟩:=hs.of y hy (by omega);have:=hno q hq;omega
      ·rw[List.mem_singleton.1 hy]at h1;omega
     ·rw[if_neg hz,hs.val];constructor
      ·rintro⟨⟨y,hy,h1,h2⟩,h3⟩;refine⟨⟨y,List.mem_append_left _ hy,h1,h2⟩,fun⟨q,hq,h4⟩ =>?_⟩;rcases List.mem_append.1 hq with hq|hq
       ·exact h3 ⟨q,hq,h4⟩
       ·rw[List.mem_singleton.1 hq]at h4;have:=(hs.no y hy).1;omega
      ·rintro⟨⟨y,hy,h1,h2⟩,h3⟩;refine⟨?_,fun⟨q,hq,h4⟩ =>h3 ⟨q,List.mem_append_left _ hq,h4⟩⟩;rcases List.mem_append.1 hy with hy|hy
       ·exact⟨y,hy,h1,h2⟩
       ·rw[List.mem_singleton.1 hy]at h2;exact absurd h2.symm hz
    ·rw[hT]at hy ⊢;rcases List.mem_append.1 hy with hy|hy
     ·obtain⟨q,hq,h2⟩:=hs.of y hy h0;exact⟨q,List.mem_append_left _ hq,h2⟩
     ·rw[List.mem_singleton.1 hy]at h0;exact absurd ho' h0
  |false=>
   have ho':x.of_≠0:=fun e=>by rw[e]at ho;cases ho
   simp only[cond_false];have hC:(decide (x.of_ > 0)&&kM (j.take k) x)=(du .int .bool s x.of_&&decide (x.kind=0∧x.farm=0∧x.other=0∧x.since=0∧x.to=0∧x.n=0)):=by
    rw[Bool.eq_iff_iff];simp only[Bool.and_eq_true,decide_eq_true_eq];constructor
    ·rintro⟨h1,h2⟩;obtain⟨h3,h4⟩:=(Cr _ x h1 hof.2).1 h2;exact⟨(hs.val _).2 h4,h3⟩
    ·rintro⟨h1,h2⟩;have h3:=(hs.val _).1 h1;have h4:0<x.of_:=by
      obtain⟨⟨y,hy,_,h5⟩,_⟩:=h3;have:=(hs.no y hy).1;omega
     exact⟨h4,(Cr _ x h4 hof.2).2 ⟨h2,h3⟩⟩
   rw[hC];cases hv:(du .int .bool s x.of_&&decide (x.kind=0∧x.farm=0∧x.other=0∧x.since=0∧x.to=0∧x.n=0))with
   |false=>exact .inr ⟨rfl,rfl⟩
   |true=>
    simp only[Bool.and_eq_true]at hv;have h3:=(hs.val _).1 hv.1;refine .inl ⟨rfl,_,rfl,(zR _ _ hs.nd).1,fun z=>?_,hnn,fun y hy h0=>?_,hlst⟩
    ·rw[Lj _ hs.nd,hT];by_cases hz:z=x.of_
     ·rw[if_pos hz];exact⟨fun h=>(by cases h),fun h=>absurd ⟨x,by simp,hz.symm⟩ h.2⟩
     ·rw[if_neg hz,hs.val];constructor
      ·rintro⟨⟨y,hy,h1,h2⟩,h4⟩;refine⟨⟨y,List.mem_append_left _ hy,h1,h2⟩,fun⟨q,hq,h5⟩ =>?_⟩;rcases List.mem_append.1 hq with hq|hq
       ·exact h4 ⟨q,hq,h5⟩
       ·rw[List.mem_singleton.1 hq]at h5;exact hz h5.symm
      ·rintro⟨⟨y,hy,h1,h2⟩,h4⟩;refine⟨?_,fun⟨q,hq,h5⟩ =>h4 ⟨q,List.mem_append_left _ hq,h5⟩⟩;rcases List.mem_append.1 hy with hy|hy
       ·exact⟨y,hy,h1,h2⟩
       ·rw[List.mem_singleton.1 hy]at h1;exact absurd h1 ho'
    ·rw[hT]at hy ⊢;rcases List.mem_append.1 hy with hy|hy
     ·obtain⟨q,hq,h2⟩:=hs.of y hy h0;exact⟨q,List.mem_append_left _ hq,h2⟩
     ·rw[List.mem_singleton.1 hy];obtain⟨⟨q,hq,_,h2⟩,_⟩:=h3;exact⟨q,List.mem_append_left _ hq,h2.symm⟩
theorem As (d:District)(j:List Judgement)(hj:∀ y∈j,-9223372036854775808≤y.of_∧y.of_<9223372036854775808)(hl:j.length≤64):∀ (n k:Nat) (s:List (Int×Bool)),k+n=j.length→JInv (j.take k) s→
  (∃ s',aq (dO d j) n k s=.inr s'∧aq (iH d j) n k ()=.inr ())∨(aq (dO d j) n k s=.inl ()∧aq (iH d j) n k ()=.inl ())
 |0,k,s,h,hs=>.inl ⟨s,rfl,rfl⟩
 |n+1,k,s,h,hs=>by
  simp only[aq,iH];rcases E8 d j hj hl (by omega:k<j.length) hs with⟨h1,s',h2,h3⟩ | ⟨h1,h2⟩
  ·rw[h1,h2];simp only[Bool.not_true,cond_false];exact As d j hj hl n (k+1) s' (by omega) h3
  ·rw[h1,h2];simp only[Bool.not_false,cond_true];exact .inr ⟨by simp,by simp⟩
theorem vn (d:District)(j:List Judgement)(hj:∀ y∈j,-9223372036854775808≤y.of_∧y.of_<9223372036854775808):aT d j=fF d j:=by
 unfold aT fF;rw[wJ,E7];cases hc:(fE d !=0)with
 |true=>rfl
 |false=>
  simp only[cond_false];by_cases hl:j.length≤64
  ·rw[decide_eq_true (by omega:(j.length:Int)≤64),decide_eq_false (by omega:¬ (j.length:Int) > 64)];simp only[cond_true,cond_false];rcases As d j hj hl j.length 0 [] (by omega) NR with⟨s',h1,h2⟩ | ⟨h1,h2⟩ <;>rw[h1,h2]
  ·rw[decide_eq_false (by omega:¬ (j.length:Int)≤64),decide_eq_true (by omega:(j.length:Int) > 64)];rfl
abbrev JR (j:List Judgement):Prop:= ∀ y∈j,-9223372036854775808≤y.of_∧y.of_<9223372036854775808
theorem D0 (j:List Judgement)(x:Judgement)(hour:Int):∀ (n i:Nat),
  (decide ((match aq (bC j x hour) n i ()with| .inl x_0_0=>x_0_0| .inr s_0=>(-1))≥(0:Int)))=(match aq (my j x hour) n i ()with| .inl x_0_0=>true| .inr s_0=>false)
 |0,i=>rfl
 |n+1,i=>by
  simp only[aq,bC,my,l6];rcases Bool.eq_false_or_eq_true (((j.getD i (default:Judgement)).of_==i64.wrap (x.no+1))&&decide ((j.getD i (default:Judgement)).hour≤hour))with h|h
  ·simp only[h,cond_true];exact decide_eq_true (Int.natCast_nonneg i)
  ·simp only[h,cond_false];exact D0 j x hour n (i+1)
theorem NS (j:List Judgement)(x:Judgement)(hour:Int):gA j x hour=kA j x hour:=D0 j x hour j.length 0
theorem xf {d:District}{j:List Judgement}(h:fF d j=0):fE d=0∧j.length≤64∧∀ k,k<j.length→gz d (j.take k) (j.getD k default)=true:=by
 unfold fF at h;cases hc:(fE d !=0)with
 |true=>
  rw[hc]at h;simp only[cond_true]at h;rw[h]at hc;cases hc
 |false=>
  rw[hc]at h;simp only[cond_false]at h;have hc':fE d=0:=by simpa using hc
  by_cases hl:j.length≤64
  ·rw[decide_eq_false (by omega:¬ (j.length:Int) > 64)]at h;simp only[cond_false]at h;refine⟨hc',hl,fun k hk=>?_⟩;cases hr:aq (iH d j) j.length 0 ()with
   |inl y=>rw[hr]at h;cases h
   |inr s=>
    have:=oR hr k (by omega) (by omega);simp only[iH,List.drop_zero]at this;cases hq:gz d (j.take k) (j.getD k default)with
    |true=>rfl
    |false=>rw[hq]at this;cases this
  ·rw[decide_eq_true (by omega:(j.length:Int) > 64)]at h;cases h
structure JOk (d:District)(x:Judgement):Prop where
 no:0≤x.no∧x.no≤1048576
 end_:x.of_≠0→x.kind=0
 kind:x.of_=0→1≤x.kind∧x.kind≤4
 farm:x.of_=0→0≤x.farm∧x.farm< (d.farms.length:Int)
 none:x.kind=1→x.n=0
 n:x.kind≠1→x.of_=0→1≤x.n∧x.n≤1073741824
 other:3≤x.kind→0≤x.other∧x.other< (d.farms.length:Int)∧x.other≠x.farm
theorem jok {d:District}{b:List Judgement}{x:Judgement}(hf:d.farms.length≤600)(h:gz d b x=true):JOk d x:=by
 unfold gz at h;cases h1:((!(aQ x.no 0 1048576)) ||(!(aQ x.hour 0 d.hours))) ||((decide ((b.length:Int) > 0))&&((decide (x.no≤(b.getD (Int.toNat (i64.wrap ((b.length:Int) - 1))) (default:Judgement)).no)) ||(decide (x.hour< (b.getD (Int.toNat (i64.wrap ((b.length:Int) - 1))) (default:Judgement)).hour))))with
 |true=>rw[h1]at h;cases h
 |false=>
  rw[h1]at h;simp only[cond_false]at h;have hno:0≤x.no∧x.no≤1048576:=by
   have h2:aQ x.no 0 1048576=true:=by
    cases hw:aQ x.no 0 1048576 with
    |true=>rfl
    |false=>rw[hw]at h1;simp at h1
   simpa[DZ]using h2
  cases ho:x.of_==0 with
  |false=>
   rw[ho]at h;simp only[cond_false,Bool.and_eq_true]at h;have ho':x.of_≠0:=fun e=>by rw[e]at ho;cases ho
   have hk:x.kind=0:=by
    have h2:=h.2;unfold kM at h2;cases hz:(((((x.kind !=0) ||(x.farm !=0)) ||(x.other !=0)) ||(x.since !=0)) ||(x.to !=0)) ||(x.n !=0)with
    |true=>rw[hz]at h2;cases h2
    |false=>simp only[Bool.or_eq_false_iff]at hz;simpa using hz.1.1.1.1.1
   exact⟨hno,fun _=>hk,fun e=>absurd e ho',fun e=>absurd e ho',fun e=>by omega,fun _ e=>absurd e ho',fun e=>by omega⟩
  |true=>
   rw[ho]at h;simp only[cond_true]at h;have ho':x.of_=0:=eq_of_beq ho;unfold mw at h;rw[ID (by omega:d.farms.length≤4096)]at h;simp only[DZ]at h;have key:(1≤x.kind∧x.kind≤4)∧(0≤x.farm∧x.farm≤(d.farms.length:Int) - 1)∧(x.kind=1→x.n=0)∧(x.kind≠1→1≤x.n∧x.n≤1073741824)∧(3≤x.kind→(0≤x.other∧x.other≤(d.farms.length:Int) - 1)∧x.other≠x.farm):=by
    generalize ((d.farms.getD (Int.toNat x.other) (default:Farm)).reach==(d.farms.getD (Int.toNat x.farm) (default:Farm)).reach)=R at h;rw[Bool.cond_eq_ite]at h;split at h
    ·cases h
    rename_i hc;simp only[Bool.or_eq_true,Bool.not_eq_true',Bool.and_eq_false_iff,decide_eq_true_eq,decide_eq_false_iff_not,not_or]at hc;rw[Bool.cond_eq_ite]at h;split at h
    ·rename_i hk;have hk':=eq_of_beq hk;simp only[Bool.and_eq_true,beq_iff_eq]at h;omega
    rename_i hk1;have hk1':x.kind≠1:=fun e=>hk1 (by rw[e];rfl);rw[Bool.cond_eq_ite]at h;split at h
    ·rename_i hk;have hk':=eq_of_beq hk;simp only[Bool.and_eq_true,beq_iff_eq,decide_eq_true_eq]at h;omega
    rename_i hk2;rw[Bool.cond_eq_ite]at h;split at h
    ·cases h
    rename_i hc2;simp only[Bool.or_eq_true,Bool.not_eq_true',Bool.and_eq_false_iff,decide_eq_true_eq,decide_eq_false_iff_not,not_or,beq_iff_eq]at hc2;omega
   obtain⟨k1,k2,k3,k4,k5⟩:=key;exact⟨hno,fun e=>absurd ho' e,fun _=>k1,fun _=>⟨k2.1,by omega⟩,k3,fun e _=>k4 e,fun e=>⟨(k5 e).1.1,by have:=(k5 e).1.2;omega,(k5 e).2⟩⟩
theorem Yj {d:District}{j:List Judgement}(h:fF d j=0):∀ k,k<j.length→JOk d (j.getD k default):=fun k hk=>by
 obtain⟨h1,_,h3⟩:=xf h;have h4:bL d=0:=by rw[wJ];exact h1
 exact jok ((qV d).1 h4).1.2.1 (h3 k hk)
end Go.Sx
end
section
namespace Go.Sx
open Go.RowKit
def orC {α:Type 1}:Option α→Option α→Option α
 |some x,_=>some x
 |none,y=>y
@[go_sem] theorem Yk {α:Type 1}{x:α}{y:Option α}:orC (some x) y=some x:=(rfl)
@[go_sem] theorem Yl {α:Type 1}{y:Option α}:orC none y=y:=(rfl)
theorem xg {α:Type 1}{a b:Option α}{c:α}(h:orC a b=some c):a=some c∨b=some c:=by
 cases a with
 |none=>exact .inr h
 |some x=>exact .inl h
theorem FnOkO.or {P:Program}{f:FuncId}{C D:List SV→List Ob→Option HCon}(h1:FnOkO P f C)(h2:FnOkO P f D):FnOkO P f (fun l h=>orC (C l h) (D l h)):=
 ⟨fun l h c hc=>by rcases xg hc with e|e;exact h1.enter l h c e;exact h2.enter l h c e,
  fun l h c hc=>by rcases xg hc with e|e;exact h1.calls l h c e;exact h2.calls l h c e⟩
theorem FnOk.or {P:Program}{f:FuncId}{C D:List SV→Option Con}(h1:FnOk P f C)(h2:FnOk P f D):FnOk P f (fun l=>orC (C l) (D l)):=
 ⟨fun l c hc=>by rcases xg hc with e|e;exact h1.enter l c e;exact h2.enter l c e,
  fun l c hc=>by rcases xg hc with e|e;exact h1.calls l c e;exact h2.calls l c e⟩
def pXM {α:Type 1}(t t2:Tag)(k:List (t.T×t2.T)→List SV→Option α):List SV→Option α
 | .ep [s] 0::r=>pM t t2 k (s::r)
 |_=>none
@[go_sem] theorem Ym {α:Type 1}{t t2:Tag}{k:List (t.T×t2.T)→List SV→Option α}{s:SV}{r:List SV}:pXM t t2 k (.ep [s] 0::r)=pM t t2 k (s::r):=(rfl)
theorem yY {α:Type 1}{G:List SV→α→Prop}{t t2:Tag}{k:List (t.T×t2.T)→List SV→Option α}(h:∀ n l c,k n l=some c→G (.ep [.rm t t2 n] 0::l) c):∀ l c,pXM t t2 k l=some c→G l c:=fun l c hc=>by
 unfold pXM at hc;split at hc
 ·obtain⟨x,r,e,h1⟩:=TG hc;simp only[List.cons.injEq]at e;obtain⟨rfl,rfl⟩:=e;exact h x _ c h1
 ·cases hc
section
universe u
variable {α:Type u}{G:List SV→α→Prop}
def pLS (k:List SV→Option (List SV→Option α)):List SV→Option α
 | .ls l::r=>apO (k l) r
 |_=>none
@[go_sem] theorem abk {k:List SV→Option (List SV→Option α)}{l r:List SV}:pLS k (.ls l::r)=apO (k l) r:=(rfl)
theorem J2 {k:List SV→Option (List SV→Option α)}(h:∀ caps q,k caps=some q→∀ l c,q l=some c→G (.ls caps::l) c):∀ l c,pLS k l=some c→G l c:=fun l c hc=>by
 unfold pLS at hc;split at hc
 ·obtain⟨q,h1,h2⟩:=yR hc;exact h _ q h1 _ c h2
 ·cases hc
end
open Classical in
noncomputable def pt {τ:Type}(A:τ→List SV)(H:τ→List Ob)(K:τ→HCon):List SV→List Ob→Option HCon:=fun l h=>if e:∃ x,l=A x∧h=H x then some (K e.choose)else none
theorem E9 (d:District):(⟨d.name,d.hours,⟨d.tank.cap,d.tank.start⟩,d.reaches,d.farms,d.crops,d.rights,d.duties,d.wells⟩:District)=d:=rfl
theorem cl4 {p:Prop}(h:p:=by(repeat' (first|with_reducible refine And.intro ?_ ?_|with_reducible intro _)) <;>(first|done|with_reducible assumption|omega|(simp only[List.nil_append,List.append_nil,Int.toNat_natCast,eta_deed,E9]at *;first|with_reducible assumption|omega|grind) |exact cl3)):p:=h
theorem Lp {k:Tag}{x y:k.T}:cellsOf k x=cellsOf k y↔x=y:=⟨fun h=>by
 have h1:=w5 x;rw[h,w5 y]at h1;exact(Option.some.inj h1).symm,fun h=>by rw[h]⟩
theorem lw {τ:Type}{A:τ→List SV}{H:τ→List Ob}{K:τ→HCon}{x:τ}(inj:∀ x y,A x=A y→H x=H y→x=y:=by
 intro x y h1 h2;simp only[List.cons.injEq,SV.agg.injEq,SV.ep.injEq,SV.v.injEq,Value.int.injEq,Value.bool.injEq,Value.string.injEq,SV.fn.injEq,SV.rs.injEq,SV.rm.injEq,Ob.row.injEq,Ob.mp.injEq,Ob.cells.injEq,Ob.grid.injEq,heq_eq_eq,Lp,true_and,and_true]at h1 h2;first|exact h2|exact h1|(simp_all [Prod.ext_iff];done)):pt A H K (A x) (H x)=some (K x):=by
 have e:∃ y,A x=A y∧H x=H y:=⟨x,rfl,rfl⟩;unfold pt;rw[dif_pos e];have:=inj _ _ e.choose_spec.1 e.choose_spec.2;rw[←this]
theorem jx {τ:Type}{A:τ→List SV}{H:τ→List Ob}{K:τ→HCon}{l:List SV}{h:List Ob}{c:HCon}(hh:pt A H K l h=some c):∃ x,l=A x∧h=H x∧c=K x:=by
 unfold pt at hh;split at hh
 ·rename_i e;simp only[Option.some.injEq]at hh;exact⟨e.choose,e.choose_spec.1,e.choose_spec.2,hh.symm⟩
 ·cases hh
end Go.Sx
end
