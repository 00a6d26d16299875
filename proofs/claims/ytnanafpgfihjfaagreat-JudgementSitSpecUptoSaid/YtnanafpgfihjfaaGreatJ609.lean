/- Part of the proof that the law JudgementSitSpec returns true and leaves its arguments as they were, for all arguments of bulk at most 1048576 (the Upto form). -/
import Derived.Test.YtnanafpgfihjfaaGreatJ607
import Derived.Test.YtnanafpgfihjfaaGreatJ608
import Derived.Sort.Statements
import Derived.Shelf.SlSortCmp.Insertion
import Derived.Calls
import Derived.Shelf.SlSortCmp.NoneTotal
import Derived.Ground.SlsfProg
import Derived.Test.YtnanafpgfihjfaaGreatProg
set_option linter.all false
set_option maxHeartbeats 4000000
set_option maxRecDepth 100000
section
namespace Go.Sx
open Go.RowKit
def orC {α:Type 1}:Option α->Option α->Option α
 |some x,_=>some x
 |none,y=>y
@[go_sem] theorem Ze {α:Type 1}{x:α}{y:Option α}:orC (some x) y=some x:=(rfl)
@[go_sem] theorem Zf {α:Type 1}{y:Option α}:orC none y=y:=(rfl)
theorem xA {α:Type 1}{a b:Option α}{c:α}(h:orC a b=some c):a=some c\/b=some c:=by
 cases a with
 |none=>exact .inr h
 |some x=>exact .inl h
theorem FnOkO.or {P:Program}{f:FuncId}{C D:List SV->List Ob->Option HCon}(h1:FnOkO P f C)(h2:FnOkO P f D):FnOkO P f (fun l h=>orC (C l h) (D l h)):=
 ⟨fun l h c hc=>by rcases xA hc with e|e;exact h1.enter l h c e;exact h2.enter l h c e,
  fun l h c hc=>by rcases xA hc with e|e;exact h1.calls l h c e;exact h2.calls l h c e⟩
theorem FnOk.or {P:Program}{f:FuncId}{C D:List SV->Option Con}(h1:FnOk P f C)(h2:FnOk P f D):FnOk P f (fun l=>orC (C l) (D l)):=
 ⟨fun l c hc=>by rcases xA hc with e|e;exact h1.enter l c e;exact h2.enter l c e,
  fun l c hc=>by rcases xA hc with e|e;exact h1.calls l c e;exact h2.calls l c e⟩
end Go.Sx
end
section
namespace Go.Sx
open Go.Proofs
open IntKind (i64)
theorem sZ {l0:List Nat}(a0:JL l0){p:Prop}(h:JL l0->p:=by intro ja;simp only[go_sem,Nat.reduceBEq,Nat.reduceLeDiff,Nat.reduceLT,decide_true,Nat.reduceAdd,Nat.reduceSub,Nat.reduceMul,Int.reduceLE,Int.reduceLT,Int.reduceToNat,Int.reduceNeg,reduceCtorEq];all_goals exact jr ja):p:=h a0
def fC (x:PrecedentsDecided)(side_:Int)(facts_:Int)(c_:PrecedentsCourt):Bool:=(((x.winner==side_)&&(bk x.reason facts_))&&((e_ c_ x facts_) ==0))
def fD (x:PrecedentsDecided)(side_:Int)(facts_:Int)(c_:PrecedentsCourt):Prop:=(((x.winner==side_)&&(bk x.reason facts_))=true->(eA c_ x facts_))
@[go_sem] def rz:List SV->Option Con:=(pD .precedentsDecided fun x=>(pX .int fun side_=>(pXU fun facts_=>(pX .precedentsCourt fun c_=>(pE (.det (fD x side_ facts_ c_) (.v (.bool (fC x side_ facts_ c_)))))))))
theorem wb:FnOk Tryz.prog 80 rz:=by
 have hG:ConsOk Tryz.prog (mkG [(81,nX),(82,fun l=>mI (aP [.st .precedentsCourt,.st .precedentsDecided,.o] l))] []):=am (cgc rv (cgc (sB.norm [.st .precedentsCourt,.st .precedentsDecided,.o]) cg0)) cg0;refine av [.o] mixed ai hG (fn:=Tryz.f80) (c:=aa Tryz.f80) kr kr kr kr (aF fun x=>(aR fun side_=>(Kv fun facts_=>(aR fun c_=>(ah (fun hp=>?_))))));dsimp only[an]at hp;unfold fD at hp;refine⟨nbl rfl,L0,ag _,?_⟩
 ·unfold aa Tryz.f80;try unfold fC
  exact zq1
theorem clW {p:Prop}(h:p:=by((repeat' (first|with_reducible refine And.intro ?_ ?_|with_reducible intro _)) <;>first|exact cl|(rename_i x hx;rcases x with x|x <;>simp only[go_sem,Nat.reduceBEq,Nat.reduceLeDiff,Nat.reduceLT,decide_true,Nat.reduceAdd,Nat.reduceSub,Nat.reduceMul,Int.reduceLE,Int.reduceLT,Int.reduceToNat,Int.reduceNeg,reduceCtorEq] <;>(simp only[*];done)))):p:=h
@[go_sem] def aQ (l_:List PrecedentsDecided)(side_:Int)(facts_:Int)(c_:PrecedentsCourt)(k_0:Nat)(s_0:Int):(Int⊕Unit)⊕Int:=(bif(decide (s_0< (l_.length:Int)))then(bif(fC (l_.getD (Int.toNat s_0) default) side_ facts_ c_)then .inl (.inl s_0)else .inr (i64.wrap (s_0+1)))else .inl (.inr ()))
def ba (l_:List PrecedentsDecided)(side_:Int)(facts_:Int)(c_:PrecedentsCourt)(k_0:Nat)(s_0:Int):Prop:=(l_.length<=aA->((decide (s_0< (l_.length:Int)))=true->((0<=s_0/\s_0< (l_.length:Int))/\(fD (l_.getD (Int.toNat s_0) default) side_ facts_ c_))))
def b5 (l_:List PrecedentsDecided)(fr:Int)(side_:Int)(facts_:Int)(c_:PrecedentsCourt):Int×Bool:=(match aq (aQ l_ side_ facts_ c_) (l_.length+1) 0 fr with| .inl (.inl x_0_0) =>(x_0_0,true) | .inl (.inr x_0_1) =>(0,false) | .inr s_0=>default)
def bN (l_:List PrecedentsDecided)(fr:Int)(side_:Int)(facts_:Int)(c_:PrecedentsCourt):Prop:=letI q0:=aQ l_ side_ facts_ c_;(okI q0 (ba l_ side_ facts_ c_) (l_.length+1) 0 fr/\(∀ z_,aq q0 (l_.length+1) 0 fr≠ .inr z_))
@[go_sem] def gN:List SV->Option Con:=(pR .precedentsDecided fun l_=>(pI fun fr=>(pFn 80 (pX .int fun side_=>(pXU fun facts_=>(pX .precedentsCourt fun c_=>(pE ((pE (.det (bN l_ fr side_ facts_ c_) (.tup [.v (.int .i64 ((b5 l_ fr side_ facts_ c_).1)),.v (.bool ((b5 l_ fr side_ facts_ c_).2))])))))))))))
theorem zq30 {p:Prop}(h:p:=by simp only[go_sem,Nat.reduceBEq,Nat.reduceLeDiff,Nat.reduceLT,decide_true,Nat.reduceAdd,Nat.reduceSub,Nat.reduceMul,Int.reduceLE,Int.reduceLT,Int.reduceToNat,Int.reduceNeg,reduceCtorEq];all_goals exact clW):p:=h
theorem lU:FnOk Tryz.prog 77 gN:=by
 have hG:ConsOk Tryz.prog (mkG [(80,rz)] []):=am (cgc wb cg0) cg0;refine av [.o,.o] mixed ai hG (fn:=Tryz.f77) (c:=aa Tryz.f77) kr kr kr kr (a_ fun l_=>(br fun fr=>(bH (aR fun side_=>(Kv fun facts_=>(aR fun c_=>(ah ((ah (fun hp=>?_))))))))));dsimp only[an]at hp;unfold bN at hp;refine⟨nbl rfl,(fun id st=>bif Nat.beq id 0 then some (LCV (ρ:=(Int⊕Unit)) (σ:=Int) 0 [] [] (fun k_0 s_0=>⟨[(0,.rs .precedentsDecided l_),(2,.fn 80 [] [.ep [.v (.int .i64 side_)] 0,.ep [.v (.int .u64 facts_)] 0,.ep (cellsOf .precedentsCourt c_) 0]),(8,.v (.int .i64 s_0))],[]⟩) (aQ l_ side_ facts_ c_) (ba l_ side_ facts_ c_) (l_.length+1) fr (fun x=>match x with|(.inl _) =>.ret|(.inr _) =>.normal) (fun x=>match x with|(.inl x_0_0) =>⟨[(6,.v (.int .i64 x_0_0)),(7,.v (.bool true))],[]⟩ |(.inr x_0_1) =>⟨[],[]⟩) st)else none),?_,?_⟩
 ·unfold aa Tryz.f77;simp only[ak,true_and,and_true]
  ·refine pj mixed ai hG kr (fun _=>rfl) fun k_0 s_0 hq0=>⟨L0,ag _,?_⟩
   ·unfold ba at hq0;exact sZ (jl [])
 ·unfold aa Tryz.f77;try unfold b5
  exact zq30
@[go_sem] noncomputable def eB:List SV->Option Con:=fun l=>(gN l)
theorem my:FnOk Tryz.prog 77 eB:=lU
def ap (b:Cases)(l_:List Int)(side:Int):Int×Bool×Int:=letI q0:=bS b l_ side;letI q1:=b5 ((q0.1).cases) 0 side (q0.2.1) (q0.1);(bif(q0.2.2 !=0)then(0,false,q0.2.2)else(q1.1,q1.2,0))
def dR (b:Cases)(l_:List Int)(side:Int):Prop:=((iE b l_ side)/\(((bS b l_ side).2.2 !=0)=false->(bN (((bS b l_ side).1).cases) 0 side ((bS b l_ side).2.1) ((bS b l_ side).1))))
@[go_sem] def oJ:List SV->Option Con:=(pD .cases fun b=>(pR .int fun l_=>(pI fun side=>(pE (.det (dR b l_ side) (.tup [.v (.int .i64 ((ap b l_ side).1)),.v (.bool ((ap b l_ side).2.1)),.v (.int .i64 ((ap b l_ side).2.2))]))))))
theorem zq31 {p:Prop}(h:p:=by simp only[go_sem,Nat.reduceBEq,Nat.reduceLeDiff,Nat.reduceLT,decide_true,Nat.reduceAdd,Nat.reduceSub,Nat.reduceMul,Int.reduceLE,Int.reduceLT,Int.reduceToNat,Int.reduceNeg,reduceCtorEq,eB];all_goals exact cl):p:=h
theorem sf:FnOk Tryz.prog 34 oJ:=by
 have hG:ConsOk Tryz.prog (mkG [(77,fun l=>eB (aP [.sl .precedentsDecided,.o,.o] l)),(79,fun l=>uR (aP [.st .cases,.sl .int,.o] l))] []):=am (cgc (my.norm [.sl .precedentsDecided,.o,.o]) (cgc (y_.norm [.st .cases,.sl .int,.o]) cg0)) cg0;refine av [.o,.o,.o] mixed ai hG (fn:=Tryz.f34) (c:=aa Tryz.f34) kr kr kr kr (aF fun b=>(a_ fun l_=>(br fun side=>(ah (fun hp=>?_)))));dsimp only[an]at hp;unfold dR at hp;refine⟨nbl rfl,L0,ag _,?_⟩
 ·unfold aa Tryz.f34;try unfold ap
  exact zq31
@[go_sem] def vU (l_:List Int)(k_0:Nat)(s_0:Unit):Int⊕Unit:=(bif((l_.getD k_0 0) !=0)then .inl (l_.getD k_0 0)else .inr ())
def vI (l_:List Int):Int:=(match aq (vU l_) l_.length 0 ()with| .inl x_0_0=>x_0_0| .inr s_0=>0)
@[go_sem] def wO:List SV->Option Con:=(pR .int fun l_=>(pE (.det True (.v (.int .i64 (vI l_))))))
theorem AR:FnOk Tryz.prog 128 wO:=by
 have hG:ConsOk Tryz.prog (mkG [] []):=am cg0 cg0;refine av [.o] mixed ai hG (fn:=Tryz.f128) (c:=aa Tryz.f128) kr kr kr kr (a_ fun l_=>(ah (fun hp=>?_)));dsimp only[an]at hp;refine⟨nbl rfl,(fun id st=>bif Nat.beq id 0 then some (LCR (ρ:=Int) (σ:=Unit) 0 [] [] (fun k_0 s_0=>⟨[(5,.rs .int l_),(6,.v (.int .i64 (l_.length:Int))),(7,.v (.int .i64 (k_0:Int)))],[]⟩) (vU l_) pT l_.length () (l_.length<=aA) (fun _=>.ret) (fun x_0_0=>⟨[(2,.v (.int .i64 x_0_0))],[]⟩) st)else none),?_,?_⟩
 ·unfold aa Tryz.f128;simp only[ak,true_and,and_true]
  ·refine bh mixed ai hG kr (fun _=>rfl) (l_.length:Int) rfl dV (fun hb0 k_0 s_0 hlt0 _ hw hc=>⟨L0,ag _,?_⟩) (fun hb0 s_0 hc=>?_)
   ·exact aL (jl [])
   ·exact aK (jl [])
 ·unfold aa Tryz.f128;try unfold vI
  exact zq1
def vJ (a:Claim)(b:Claim):Int:=(vI ([(cP a.hour b.hour),(cP a.rank b.rank),(cP a.right b.right),(cP a.farm b.farm)]))
@[go_sem] def wP:List SV->Option Con:=(pD .claim fun a=>(pD .claim fun b=>(pE (.det True (.v (.int .i64 (vJ a b)))))))
theorem AS:FnOk Tryz.prog 74 wP:=by
 have hG:ConsOk Tryz.prog (mkG [(97,mc),(128,fun l=>wO (aP [.sl .int] l))] []):=am (cgc oI (cgc (AR.norm [.sl .int]) cg0)) cg0;refine av [.o] mixed ai hG (fn:=Tryz.f74) (c:=aa Tryz.f74) kr kr kr kr (aF fun a=>(aF fun b=>(ah (fun hp=>?_))));dsimp only[an]at hp;refine⟨nbl rfl,L0,ag _,?_⟩
 ·unfold aa Tryz.f74;try unfold vJ
  exact zq1
@[go_sem] def rV (a0:District)(a1:List Claim)(k_0:Nat)(s_0:Unit):Unit⊕Unit:=letI q0:=a1.getD k_0 default;letI q1:=a0.rights.getD (Int.toNat (q0.right)) default;(bif((((!((((((((decide (q0.right>=0))&&(decide (q0.right< (a0.rights.length:Int))))&&(decide (q0.farm>=0)))&&(decide (q0.farm< (a0.farms.length:Int))))&&(decide (q0.hour>=0)))&&(decide (q0.hour<a0.hours)))&&(decide (q0.litres>=1)))&&(decide (q0.litres<=1073741824)))) ||(q1.kind !=1)) ||(q1.rank !=q0.rank)) ||((decide ((k_0:Int) > 0))&&(decide ((vJ (a1.getD (Int.toNat (i64.wrap ((k_0:Int) - 1))) default) q0)>=0))))then .inl ()else .inr ())
def jt (a0:District)(a1:List Claim)(k_0:Nat)(s_0:Unit):Prop:=letI q1:=a1.getD k_0 default;letI q2:=a0.rights.getD (Int.toNat (q1.right)) default;letI q4:=i64.wrap ((k_0:Int) - 1);letI q5:=(a0.rights.length:Int);letI q0:= !((((((((decide (q1.right>=0))&&(decide (q1.right<q5)))&&(decide (q1.farm>=0)))&&(decide (q1.farm< (a0.farms.length:Int))))&&(decide (q1.hour>=0)))&&(decide (q1.hour<a0.hours)))&&(decide (q1.litres>=1)))&&(decide (q1.litres<=1073741824)));letI q3:=0<=q1.right/\q1.right<q5;((q0=false->q3)/\(((q0||(q2.kind !=1))=false->q3)/\(((q0||(q2.kind !=1)) ||(q2.rank !=q1.rank))=false->((decide ((k_0:Int) > 0))=true->(0<=q4/\q4< (a1.length:Int))))))
def nE (a0:District)(a1:List Claim):Int:=(bif((gO a0) !=0)then(gO a0)else(bif(decide ((a1.length:Int) > 4096))then 2 else(match aq (rV a0 a1) a1.length 0 ()with| .inl x_0_0=>260| .inr s_0=>0)))
def kh (a0:District)(a1:List Claim):Prop:=(((gO a0) !=0)=false->(a1.length<=aA->((decide ((a1.length:Int) > 4096))=false->(a1.length<=aA->okI (rV a0 a1) (jt a0 a1) a1.length 0 ()))))
@[go_sem] def wQ:List SV->Option Con:=(pD .district fun a0=>(pR .claim fun a1=>(pE (.det (kh a0 a1) (.v (.int .i64 (nE a0 a1)))))))
theorem AT:FnOk Tryz.prog 32 wQ:=by
 have hG:ConsOk Tryz.prog (mkG [(57,fun l=>sW (aP [.st .district] l)),(74,wP)] []):=am (cgc (vT.norm [.st .district]) (cgc AS cg0)) cg0;refine av [.o] mixed ai hG (fn:=Tryz.f32) (c:=aa Tryz.f32) kr kr kr kr (aF fun a0=>(a_ fun a1=>(ah (fun hp=>?_))));dsimp only[an]at hp;unfold kh at hp;refine⟨nbl rfl,(fun id st=>bif Nat.beq id 0 then some (LCR (ρ:=Unit) (σ:=Unit) 1 [] [0] (fun k_0 s_0=>⟨[(1,.rs .claim a1),(2,.ptr 0 0),(16,.rs .claim a1),(17,.v (.int .i64 (a1.length:Int))),(18,.v (.int .i64 (k_0:Int)))],[.cells (cellsOf .district a0)]⟩) (rV a0 a1) (jt a0 a1) a1.length () (a1.length<=aA) (fun _=>.ret) (fun x_0_0=>⟨[(4,.v (.int .i64 260))],[.dead]⟩) st)else none),?_,?_⟩
 ·unfold aa Tryz.f32;simp only[ak,true_and,and_true]
  ·refine bh mixed ai hG kr (fun _=>rfl) (a1.length:Int) rfl dV (fun hb0 k_0 s_0 hlt0 hq0 hw hc=>⟨L0,ag _,?_⟩) (fun hb0 s_0 hc=>?_)
   ·unfold jt at hq0;try simp only[hw,Int.toNat_natCast]at hq0
    exact aL (jl [0])
   ·exact aK (jl [0])
 ·unfold aa Tryz.f32;try unfold nE
  exact zq1
def bR (n:Int)(lo:Int)(hi:Int):Bool:=((decide (n>=lo))&&(decide (n<=hi)))
@[go_sem] def Aa (b:Int)(k_0:Nat)(s_0:Int×Int):Int⊕(Int×Int):=(bif(decide (s_0.2 > 0))then .inr (s_0.2,(Int.tmod s_0.1 s_0.2))else .inl s_0.1)
def Dp (a:Int)(b:Int):Int:=(match aq (Aa b) (Int.toNat b+1) 0 (a,b)with| .inl x_0_0=>x_0_0| .inr s_0=>default)
def I1 (n:Int):Int:=(bif(decide (n<0))then(i64.wrap (0 - n))else n)
def wR (a:Ratio):Bool:=(((((decide (a.d>=1))&&(decide (a.d<=1073741824)))&&(decide (a.n>=(-1073741824))))&&(decide (a.n<=1073741824)))&&((Dp (I1 a.n) a.d) ==1))
def Ay (a:Ratio):Int:=(bif(!(wR a))then 120 else 0)
def CA (a:Ratio)(b:Ratio):Bool:=(decide ((i64.wrap (a.n*b.d)) < (i64.wrap (b.n*a.d))))
def I2 (a:Ratio)(b:Ratio):Bool:=((wR a)&&(wR b))
def L2 (a:Ratio)(b:Ratio):Int×Int:=(bif(!(I2 a b))then(0,120)else(bif(CA a b)then((-1),0)else(bif(CA b a)then(1,0)else(0,0))))
def Fh (x:Ratio×Ratio):Bool:=(bif(((Ay x.1) !=0) ||((Ay x.2) !=0))then false else(((decide (x.1.n>=0))&&(decide ((L2 x.1 x.2).1<=0)))&&(decide (x.2.n<=x.2.d))))
def G6 (x:Reach):Bool:=(bif(((!(bR x.delay 1 16)) ||(!(bR x.cap 0 1073741824))) ||(!(bR x.bank 0 1099511627776)))then false else(bif(((!(bR x.siphon 0 (if x.bank<x.cap then x.bank else x.cap))) ||(!(bR x.evap.lo 0 x.evap.hi))) ||(decide (x.evap.hi > 1073741824)))then false else(Fh x.seep)))
@[go_sem] def Ab (l_:List Reach)(k_0:Nat)(s_0:Unit):Unit⊕Unit:=letI q0:=l_.getD k_0 default;letI q1:=(k_0:Int);(bif(((q1==0)&&(q0.up !=(-1))) ||((decide (q1 > 0))&&(!(bR (q0.up) 0 (i64.wrap (q1 - 1))))))then .inl ()else(bif(!(G6 q0))then .inl ()else .inr ()))
def Dq (l_:List Reach):Bool:=(match aq (Ab l_) l_.length 0 ()with| .inl x_0_0=>false| .inr s_0=>(decide ((l_.length:Int) > 0)))
@[go_sem] def CB (a0:District)(k_0:Nat)(s_0:Unit):Unit⊕Unit:=(bif(!(bR ((a0.crops.getD k_0 default).need) 0 1048576))then .inl ()else .inr ())
@[go_sem] def CC (a0:District)(k_1:Nat)(s_1:Unit):Unit⊕Unit:=letI q0:=a0.farms.getD k_1 default;(bif((!(bR (q0.reach) 0 (i64.wrap ((a0.reaches.length:Int) - 1)))) ||(!(bR (q0.area) 0 1048576)))then .inl ()else(bif(((q0.area==0)&&(q0.crop !=(-1))) ||((decide (q0.area > 0))&&(!(bR (q0.crop) 0 (i64.wrap ((a0.crops.length:Int) - 1))))))then .inl ()else .inr ()))
def G7 (a0:District):Bool:=(match aq (CB a0) a0.crops.length 0 ()with| .inl x_0_0=>false| .inr s_0=>(match aq (CC a0) a0.farms.length 0 ()with| .inl x_1_0=>false| .inr s_1=>true))
def G8 (a0:District)(a1:Right):Bool:=letI q0:=(((a1.rank==0)&&(a1.litres==0))&&(a1.every==0))&&(a1.length==0);(bif((((!(bR a1.farm 0 (i64.wrap ((a0.farms.length:Int) - 1)))) ||(!(bR a1.reach 0 (i64.wrap ((a0.reaches.length:Int) - 1))))) ||(!(bR a1.since 0 a1.to))) ||(decide (a1.to>=a0.hours)))then false else(bif(a1.kind==1)then(((((a1.reach==0)&&(bR a1.rank 0 1048576))&&(bR a1.litres 1 1073741824))&&(bR a1.length 1 a1.every))&&(decide (a1.every<=a0.hours)))else(bif(a1.kind==2)then((q0&&(a1.since==0))&&(a1.to==(i64.wrap (a0.hours - 1))))else(bif(a1.kind==3)then q0 else false))))
@[go_sem] def CD (a0:District)(k_0:Nat)(s_0:Unit):Unit⊕Unit:=(bif(!(G8 a0 (a0.rights.getD k_0 default)))then .inl ()else .inr ())
@[go_sem] def CE (a0:District)(k_1:Nat)(s_1:Unit):Unit⊕Unit:=letI q0:=a0.duties.getD k_1 default;(bif(((!(bR (q0.farm) 0 (i64.wrap ((a0.farms.length:Int) - 1)))) ||(!(bR (q0.reach) 0 (i64.wrap ((a0.reaches.length:Int) - 1))))) ||(!(bR (q0.due) 0 a0.hours)))then .inl ()else .inr ())
def G9 (a0:District):Bool:=(bif(((!(bR a0.hours 1 4096)) ||(!(bR a0.tank.start 0 a0.tank.cap))) ||(decide (a0.tank.cap > 1099511627776)))then false else(bif((!(Dq a0.reaches)) ||(!(G7 a0)))then false else(match aq (CD a0) a0.rights.length 0 ()with| .inl x_0_0=>false| .inr s_0=>(match aq (CE a0) a0.duties.length 0 ()with| .inl x_1_0=>false| .inr s_1=>true))))
def Az (d:District):Int:=(bif(((((decide ((d.reaches.length:Int) > 64)) ||(decide ((d.farms.length:Int) > 600))) ||(decide ((d.crops.length:Int) > 32))) ||(decide ((d.rights.length:Int) > 256))) ||(decide ((d.duties.length:Int) > 256)))then 2 else(bif(!(G9 d))then 191 else 0))
@[go_sem] def qR (a:List Claim)(b:List Claim)(k_0:Nat)(s_0:Unit):Unit⊕Unit:=letI q0:=a.getD k_0 default;letI q1:=b.getD k_0 default;(bif(!((q0.right==q1.right)&&((q0.farm==q1.farm)&&((q0.hour==q1.hour)&&((q0.litres==q1.litres)&&(q0.rank==q1.rank))))))then .inl ()else .inr ())
def rW (a:List Claim)(b:List Claim)(k_0:Nat)(s_0:Unit):Prop:=(a.length<=aA->(0<=(k_0:Int)/\(k_0:Int) < (b.length:Int)))
def qz (a:List Claim)(b:List Claim):Bool:=(bif((a.length:Int) !=(b.length:Int))then false else(match aq (qR a b) a.length 0 ()with| .inl x_0_0=>false| .inr s_0=>true))
def pA (a:List Claim)(b:List Claim):Prop:=(a.length<=aA->(b.length<=aA->(((a.length:Int) !=(b.length:Int))=false->okI (qR a b) (rW a b) a.length 0 ())))
@[go_sem] def za:List SV->Option Con:=(pR .claim fun a=>(pR .claim fun b=>(pE (.det (pA a b) (.v (.bool (qz a b)))))))
theorem Dt:FnOk Tryz.prog 18 za:=by
 have hG:ConsOk Tryz.prog (mkG [] []):=am cg0 cg0;refine av [.o] mixed ai hG (fn:=Tryz.f18) (c:=aa Tryz.f18) kr kr kr kr (a_ fun a=>(a_ fun b=>(ah (fun hp=>?_))));dsimp only[an]at hp;unfold pA at hp;refine⟨nbl rfl,(fun id st=>bif Nat.beq id 0 then some (LCR (ρ:=Unit) (σ:=Unit) 0 [] [] (fun k_0 s_0=>⟨[(0,.rs .claim a),(1,.rs .claim b),(5,.v (.int .i64 (k_0:Int)))],[]⟩) (qR a b) (rW a b) a.length () (True) (fun _=>.ret) (fun x_0_0=>⟨[(4,.v (.bool false))],[]⟩) st)else none),?_,?_⟩
 ·unfold aa Tryz.f18;simp only[ak,true_and,and_true]
  ·refine cB (a.length<=aA) mixed ai hG kr (fun _=>rfl) (a.length:Int) rfl dV (fun hb0 k_0 s_0 hlt0 hq0 hw hc=>⟨L0,ag _,?_⟩) (fun hb0 s_0 hc=>?_) fun hb0 k_0 s_0=>?_
   ·unfold rW at hq0;try simp only[hw,Int.toNat_natCast]at hq0
    exact aL (jl [])
   ·exact aK (jl [])
   ·exact zq7
 ·unfold aa Tryz.f18;try unfold qz
  exact zq1
end Go.Sx
end
section
namespace Go.Sx
theorem Rm {κ υ:Type}[DecidableEq κ](l:List (κ×υ))(x z:κ)(y:υ):nu (zI l x y) z=if z=x then some y else nu l z:=by
 induction l with
 |nil=>simp[zI,nu]
 |cons a r ih=>
  obtain⟨a,b⟩:=a;unfold zI;by_cases h:x=a
  ·subst h;simp only[if_pos];unfold nu;by_cases hz:z=x <;>simp[hz]
  ·rw[if_neg h];unfold nu;by_cases hz:z=a
   ·subst hz;rw[if_pos rfl,if_neg (fun e=>h e.symm),if_pos rfl]
   ·rw[if_neg hz,ih,if_neg hz]
def Zg {κ υ:Type}(l:List (κ×υ)):List κ:=l.map fun p=>p.1
theorem uS {kk vk:Tag}(l:List (kk.T×vk.T))(x z:kk.T)(y:vk.T):bg kk vk (iH kk vk l x y) z=if z=x then y else bg kk vk l z:=by
 unfold bg iH;rw[Rm];by_cases h:z=x <;>simp[h]
end Go.Sx
end
section
namespace Go.Sx
open Go.RowKit
section
variable {P:Program}{ts:Tis}{G:Cons}
theorem xU {n:Nat}{g:FuncId}{i1 q:Nat}{o1:Oper}{tys:Array TypeId}{Q:Exit->Act->World->Prop}{a:Act}{w:World}{b:Nat}
  (ho1:o1.dst=none/\o1.op=.defer ⟨.value (.func g),#[.tmp q],tys⟩/\o1.guard=none)
  (hq:a.tmps.getD q undef=.pointer (some ⟨b,0,none⟩))
  (h:Q .normal { tmps:=a.tmps,defers:= { target:=.fn (.func g) #[],args:= #[.pointer (some ⟨b,0,none⟩)]}::a.defers} w):
  (Code.region i1 #[o1] false).wpIn (rd none) n P Q a w:=by
 obtain⟨d1,p1,t1,s1,f1,g1⟩:=o1;obtain⟨rfl,rfl,rfl⟩:=ho1;refine wpIn_region ?_;have hr1:List.range (#[(⟨none,.defer ⟨.value (.func g),#[.tmp q],tys⟩,t1,s1,f1,none⟩:Oper)]:Array Oper).size=[0]:=rfl;rw[hr1];simp only[wpOpsIn,Oper.wpIn,Region.wanted];have e1:(#[(⟨none,.defer ⟨.value (.func g),#[.tmp q],tys⟩,t1,s1,f1,none⟩:Oper)]:Array Oper)[0]? =some ⟨none,.defer ⟨.value (.func g),#[.tmp q],tys⟩,t1,s1,f1,none⟩:=rfl;rw[e1];simp only[if_true];refine⟨fun _ _=>trivial,?_⟩;have r2:((⟨none,.defer ⟨.value (.func g),#[.tmp q],tys⟩,t1,s1,f1,none⟩:Oper).semAt (rd none).round a.eval).run P w=.ok (.defer { target:=.fn (.func g) #[],args:= #[.pointer (some ⟨b,0,none⟩)]}) w:=by
  simp[Oper.semAt,execOp,go_sem,Act.eval,hq];try rfl
 rw[r2];simp only[Oper.uponIn_defer];exact h
theorem Kw {g:FuncId}{RC:Value->Option SV}(hrec:G5 P g RC)(pks:List Pk)(hm:P.follows .mixedOrders=true)(hts:ts.ok P)(hG:ConsOk P G){f:FuncId}{fn:Func}{c0 c1:Code}{i1 q:Nat}{o1:Oper}{tys:Array TypeId}
  (hf:P.funcs[f]? =some fn) (hb:fn.body=some (.seq c0 (.seq (.region i1 #[o1] false) c1))) (hname:(fn.name== "runtime.NumGoroutine")=false)
  (ho1:o1.dst=none/\o1.op=.defer ⟨.value (.func g),#[.tmp q],tys⟩/\o1.guard=none)
  (hc0:bQ fn.ntmps c0=true) (hc1:bQ fn.ntmps c1=true) {C:List SV->Option Con}
  (h:∀ l con,C l=some con->an con->l.length<=fn.ntmps/\∃ L L' id,ak P none fn.ntmps L c0/\ak P none fn.ntmps L' c1/\exec ts G L c0 ⟨mC 0 l,[]⟩ (fun e st=>e=.normal/\lk q st.t=.ptr id 0/\Dm (al st.h id)/\
   exec ts G L' c1 ⟨st.t,st.h⟩ (NH RC fn.results.toList ts (fun s=>di con (uk pks s)) id))):FnOk P f C:=by
 refine⟨fun l con _ args w=>?_,fun l con hcon hpre F w vs hF hvs=>?_⟩
 ·have hn:¬fn.name= "runtime.NumGoroutine":=by simpa using hname
  simp[callFunc,hf,hn,hb]
 ·obtain⟨hlen,L,L',id,hl,hl',hx⟩:=h l con hcon hpre;refine oE (n:=0) (callsIn_of_wp_marks hf hb trivial ?_);have hr:StRel F { w:=w,own:=ct} fn.ntmps ct ⟨mC 0 l,[]⟩ { tmps:=vs++Array.replicate (fn.ntmps - vs.size) undef,defers:=[]} w:=
   ⟨by have:=hvs.1;simp;omega,Dfr.nil,vC hF,Fr.refl _,fun t=>mH hvs _ t⟩
  refine wpIn_seq (wpIn_mono (ma hm hts hG c0 hc0 hl F _ _ hx ct _ w hr) ?_);intro e a1 w1 hq;cases e with
  |normal=>
   obtain⟨F1,own1,st1,hF1,hst1,_,hlk,_,hx1⟩:=hq;have hsq:=hst1.slots q;rw[hlk]at hsq;generalize hv:a1.tmps.getD q undef=pv at hsq;cases hsq with
   | @ptr _ _ b hd ho hp=>
   show(Code.seq (.region i1 #[o1] false) c1).wpIn (rd none) 0 P _ a1 w1;have hsz:=hst1.size;refine wpIn_seq (xU ho1 hv ?_);show c1.wpIn (rd none) 0 P _ _ w1;obtain⟨ms,Ds,k0,k1,k2,k3⟩:=hst1.defers;have k0':a1.defers=ms:=by rw[k0];exact List.append_nil _
   let d:Deferred:= { target:=.fn (.func g) #[],args:= #[.pointer (some ⟨b,0,none⟩)]}
   let B:Bs:= { w:=w1,own:=own1,ds:=d::a1.defers}
   have hr2:StRel F1 B fn.ntmps own1 ⟨st1.t,st1.h⟩ { tmps:=a1.tmps,defers:=d::a1.defers} w1:=by
    exact⟨hsz,Dfr.nil,hst1.hp,Fr.refl B,hst1.slots⟩
   have hbd:∀ D∈Ds,¬ ∃ id hd,own1 id=some hd/\D∈hd.bs:=fun D hD ⟨i,hd,e,hm⟩ =>hst1.hp.apart i hd D e hm (k3 D hD).2.1;have fin:∀ F2 own2 st2 (a2:Act) w2,(∀ b,F1 b->F2 b)->StRel F2 B fn.ntmps own2 st2 a2 w2->er (fun s=>di con (uk pks s)) (wv fn.results.toList ts st2)->
     LeavesInM (rd none) 0 P fn a2.tmps (fun e w'=>(∃ s u own',di con s/\e=.returned u/\Handed F w own' w' s u/\Below w.heap.size w w')\/(∃ x,mG con x/\e=.panicked [{ v:=x,recovered:=false}]/\Below w.heap.size w w')) a1.defers .returning w2:=by
    intro F2 own2 st2 a2 w2 hF2 hst2 hdone;have hB:StRel F2 { w:=w,own:=ct} fn.ntmps own2 st2 { a2 with defers:=[]} w2:=⟨hst2.size,Dfr.nil,hst2.hp,hst1.fr.trans ⟨hst2.fr.ids,hst2.fr.base,hst2.fr.os,hst2.fr.tape,hst2.fr.output,hst2.fr.size,hst2.fr.block⟩,hst2.slots⟩;have hkeep:∀ D∈Ds,w2.heap[D]? =some (.deferred (some [])):=fun D hD=>by
     rw[hst2.fr.block D ⟨nA (k3 D hD).2.2,hbd D hD⟩];exact(k3 D hD).2.2
    rw[k0',<-List.append_nil ms];refine uL (by simp) Ds ms w2 k1 k2 hkeep fun w4 hs=>?_;have hst4:=(hB.shut (Ds:=Ds) (fun D hD=>⟨(k3 D hD).1,hF2 D (k3 D hD).2.1,hkeep D hD⟩) hs).less (fun c hc=>hF2 c (hF1 c hc)) rfl;simp only[wv]at hdone;cases hres:lz (j8 ts st2 fn.results.toList)with
    |none=>rw[hres]at hdone;exact hdone.elim
    |some s=>
     obtain⟨u,e1,e2⟩:=vB (P:=P) hts hst4 hres;rw[hres]at hdone;exact⟨u,e1,.inl ⟨_,u,ct,hdone,rfl,tW hst4.hp.foreign (y7 (vt hst4.hp 4 s u e2)),pi hst4.fr⟩⟩
   have hinv:∀ w2:World,(invoke (.fn (.func g) #[]) #[.pointer (some ⟨b,0,none⟩)]).run P w2=.ok (.enter g #[.pointer (some ⟨b,0,none⟩)]) w2:=fun w2=>by simp[invoke,go_sem,hrec.1]
   refine wpIn_mono (ma hm hts hG c1 hc1 hl' F1 _ _ hx1 own1 _ w1 hr2) ?_;have idle:∀ (a':Act) (w':World) F2 own2 st2,(∀ b,F1 b->F2 b)->StRel F2 B fn.ntmps own2 st2 a' w'->er (fun s=>di con (uk pks s)) (wv fn.results.toList ts st2)->
     LeavesInM (rd none) 0 P fn a'.tmps (fun e w'=>(∃ s u own',di con s/\e=.returned u/\Handed F w own' w' s u/\Below w.heap.size w w')\/(∃ x,mG con x/\e=.panicked [{ v:=x,recovered:=false}]/\Below w.heap.size w w')) a'.defers .returning w':=by
    intro a' w' F2 own2 st2 hF2 hst2 hdone;refine jp hst2 (by simp) fun w2 hst3=>?_;refine⟨by simp,.inr ⟨fun h=>(by cases h),.func g,#[],g,#[.pointer (some ⟨b,0,none⟩)],rfl,hinv w2,fun _ _=>trivial,?_⟩⟩;refine(hrec.2.1 ⟨b,0,none⟩ w2).mono ?_;rintro e u' w3 ⟨⟨v,rfl⟩,rfl,rfl⟩;exact fin F2 own2 st2 { a' with defers:=B.ds} _ hF2 hst3 hdone
   intro e a' w' hq;cases e with
   |normal=>obtain⟨F2,own2,st2,h0,h1,h2⟩:=hq;exact idle a' w' F2 own2 st2 h0 h1 h2
   |ret=>obtain⟨F2,own2,st2,h0,h1,h2⟩:=hq;exact idle a' w' F2 own2 st2 h0 h1 h2
   |exit jd=>obtain⟨F2,own2,st2,h0,h1,h2⟩:=hq;exact h2.elim
   |panic ch=>
    obtain⟨x,F2,own2,st2,h0,h1,hm,rfl⟩:=hq;change NG fn.results.toList ts _ id st2 (RC x)at hm;cases m1:RC x with
    |none=>rw[m1]at hm;exact hm.elim
    |some s=>
    rw[m1]at hm;obtain⟨hm2,m4,m3⟩:=hm;obtain⟨y,m2⟩:=Cq hm2;refine jp h1 (by simp) fun w2 hst3=>?_;refine⟨by simp,.inr ⟨fun h=>(by cases h),.func g,#[],g,#[.pointer (some ⟨b,0,none⟩)],rfl,hinv w2,fun _ _=>trivial,?_⟩⟩;obtain⟨hd2,e2,l2⟩:=hst3.fr.ids id hd ho;refine(hrec.2.2 x s m1 F2 own2 w2 st2.h id hd2 b y m4 hst3.hp m2 e2 (l2.1.trans hp)).mono ?_;rintro e u' w3 ⟨⟨v,rfl⟩,rfl,own3,q1,q2⟩;exact fin F2 own3 ⟨st2.t,_⟩ { a' with defers:=B.ds} w3 h0 (hst3.moved q1 q2) m3
   |_=>exact hq.elim
  |ret=>obtain⟨F1,own,st,h0,h1,h2,_⟩:=hq;cases h2
  |exit jd=>obtain⟨F1,own,st,h0,h1,h2,_⟩:=hq;cases h2
  |panic ch=>obtain⟨x,F1,own,st,h0,h1,⟨h2,_⟩,_⟩:=hq;cases h2
  |_=>exact hq.elim
end
end Go.Sx
end
section
namespace Go.Sx
open Go.Proofs Go.RowKit
def RCJ:Value->Option SV
 | .iface t (.int .i64 e) =>bif Nat.beq t 36 then some (.i e)else none
 |_=>none
theorem Fi:G5 Tryz.prog 56 RCJ:=by
 obtain⟨fn,hfn,hbody,hn,hres⟩:∃ fn,Tryz.prog.funcs[56]? =some fn/\fn.body=some (aa Tryz.f56)/\fn.ntmps=14/\fn.results= #[]:=⟨Tryz.f56,by kernel_rfl,by kernel_rfl,by kernel_rfl,by kernel_rfl⟩;have hG:ConsOk Tryz.prog (mkG [] []):=am (by simp) (by simp);refine⟨fun args w=>by kernel_rfl,fun p w=>?_,?_⟩
 ·refine callsDIn_of_wpSIn hfn hbody trivial fun c₀ cs hu=>?_;unfold aa Tryz.f56;refine wpSIn_seq (wpSIn_region ?_);simp[wpOpsSIn,go_sem,recoverD,hu,hn,Exit.thenS,Oper.about,Region.wanted];refine wpSIn_of_wpIn rfl (wpIn_block (wpIn_seq (wpIn_region ?_)));simp[wpOpsIn,Oper.wpIn,go_sem,Oper.about,Region.wanted];refine wpIn_cond_true (by simp[Act.eval]) (wpIn_region ?_);simp[wpOpsIn,Oper.wpIn,go_sem,Oper.about,Region.wanted];cases c₀;simp_all [Exit.inBlock,bodyPostS,results]
 ·intro x s hx F own w h id hd b y hfw hp hob ho hpb;unfold RCJ at hx;split at hx
  ·rename_i t e;cases ht:Nat.beq t 36 with
   |false=>rw[ht]at hx;cases hx
   |true=>
    rw[ht]at hx;cases hx;have ht':=Nat.eq_of_beq_eq_true ht;subst ht';refine callsDIn_of_wpSIn hfn hbody trivial fun c₀ cs hu=>?_;unfold aa Tryz.f56;refine wpSIn_seq (wpSIn_region ?_);simp[wpOpsSIn,go_sem,recoverD,hu,hn,Exit.thenS,Oper.about,Region.wanted];refine wpSIn_of_wpIn rfl (wpIn_block (wpIn_seq (wpIn_region ?_)));simp[wpOpsIn,Oper.wpIn,go_sem,Oper.about,Region.wanted];refine wpIn_cond_false (by simp[Act.eval]) ?_;have hr:StRel F { w:=w,own:=own} 14 own ⟨[(0,.ptr id 0),(5,.v (.iface 36 (.int .i64 e)))],h⟩ { tmps:= #[.pointer (some ⟨b,0,none⟩),undef,undef,undef,undef,.iface 36 (.int .i64 e),undef,.bool false,undef,undef,undef,undef,undef,undef],defers:=[]} w:=by
     refine⟨rfl,Dfr.nil,hp,Fr.refl { w:=w,own:=own},fun t=>?_⟩;rw[oD];by_cases h0:0=t
     ·subst h0;rw[if_pos rfl];exact .ptr ho hpb
     ·rw[if_neg h0,oD];by_cases h1:5=t
      ·subst h1;rw[if_pos rfl];exact .v _
      ·rw[if_neg h1];exact .any _
    refine wpIn_seq (wpIn_mono (vE (ts:=ts) (L:=L0) (Q:=fun st=>st=⟨[(10,.v (.int .i64 e)),(9,.b true),(8,.tup [.v (.int .i64 e),.b true]),(0,.ptr id 0),(5,.v (.iface 36 (.int .i64 e)))],h⟩) mixed ai hG kr ?_ hr) ?_)
    ·simp only[go_sem,hob,hfw,cond_false,Nat.reduceBEq,Nat.reduceLeDiff,Nat.reduceAdd,true_and,and_true,true_imp_iff]
    ·rintro ex a1 w1 ⟨rfl,own1,st1,hst1,rfl⟩;have h9:=hst1.slots 9;have h9':a1.tmps.getD 9 undef=.bool true:=bF h9;refine wpIn_cond_true (by simpa[Act.eval]using h9') ?_;refine wpIn_seq (wpIn_mono (vE (ts:=ts) (L:=L0) (Q:=fun st=>st=⟨[(3,.v (.int .i64 e)),(10,.v (.int .i64 e)),(9,.b true),(8,.tup [.v (.int .i64 e),.b true]),(0,.ptr id 0),(5,.v (.iface 36 (.int .i64 e)))],h⟩) mixed ai hG kr ?_ hst1) ?_)
     ·simp only[go_sem,hob,hfw,cond_false,Nat.reduceBEq,Nat.reduceLeDiff,Nat.reduceAdd,true_and,and_true,true_imp_iff]
     ·rintro ex a2 w2 ⟨rfl,own2,st2,hst2,rfl⟩;refine wpIn_mono (vE (ts:=ts) (L:=L0) (Q:=fun st=>st.h=aW h id (.cells [.i e])) mixed ai hG kr ?_ hst2) ?_
      ·simp only[go_sem,hob,hfw,cond_false,vD (h:=h) (i:=id) (o:=.cells [.v (.int .i64 e)]) rfl hfw,Nat.reduceBEq,Nat.reduceLeDiff,Nat.reduceAdd,true_and,and_true,true_imp_iff]
      ·rintro ex a' w' ⟨rfl,own3,st3,hst3,hh⟩;have hd0:a'.defers=[]:=by
        obtain⟨ms,Ds,q0,q1,q2,q3⟩:=hst3.defers;cases Ds with
        |nil=>rw[q0];simp at q1;simp[q1]
        |cons D r=>
         obtain⟨m1,m2,_⟩:=q3 D (by simp);have:=hp.foreign D m2;simp only at m1;omega
       refine⟨hd0,.panicking [{ v:=.iface 36 (.int .i64 e),recovered:=true}],?_,_,by simp[results,hres];rfl,⟨_,rfl⟩,rfl,own3,hh▸hst3.hp,hst3.fr⟩;cases c₀;simp_all
  ·cases hx
end Go.Sx
end
section
namespace Go.Sx
open Go.Proofs
open IntKind (i64 u64)
theorem lB {l0 l1:List Nat}(a0:JL l0)(a1:JL l1){p:Prop}(h:JL l0->JL l1->p:=by intro ja jb;simp only[go_sem,Nat.reduceBEq,Nat.reduceLeDiff,Nat.reduceLT,decide_true,Nat.reduceAdd,Nat.reduceSub,Nat.reduceMul,Int.reduceLE,Int.reduceLT,Int.reduceToNat,Int.reduceNeg,reduceCtorEq,hc,hw];all_goals exact sX ja jb):p:=h a0 a1
def aI (n:Int)(lo:Int)(hi:Int):Bool:=((decide (n>=lo))&&(decide (n<=hi)))
@[go_sem] def gc:List SV->Option Con:=(pI fun n=>(pI fun lo=>(pI fun hi=>(pE (.det True (.v (.bool (aI n lo hi))))))))
theorem h_:FnOk Tryz.prog 52 gc:=by
 have hG:ConsOk Tryz.prog (mkG [] []):=am cg0 cg0;refine av [.o] mixed ai hG (fn:=Tryz.f52) (c:=aa Tryz.f52) kr kr kr kr (br fun n=>(br fun lo=>(br fun hi=>(ah (fun hp=>?_)))));dsimp only[an]at hp;refine⟨nbl rfl,L0,ag _,?_⟩
 ·unfold aa Tryz.f52;try unfold aI
  exact zq1
def CF (ok:Bool)(e:Int):Unit:=(bif(!ok)then default else())
def aw (ok:Bool)(e:Int):Bool:=(bif(!ok)then false else true)
@[go_sem] def kl:List SV->Option Con:=(pB fun ok=>(pI fun e=>(pE (.may (aw ok e) (.tup []) (.iface 36 (.int .i64 e))))))
theorem mf:FnOk Tryz.prog 58 kl:=by
 have hG:ConsOk Tryz.prog (mkG [] []):=am cg0 cg0;refine av [] mixed ai hG (fn:=Tryz.f58) (c:=aa Tryz.f58) kr kr kr kr (Og fun ok=>(br fun e=>(ah (fun hp=>?_))));dsimp only[an]at hp;refine⟨nbl rfl,L0,ag _,?_⟩
 ·unfold aa Tryz.f58;try unfold CF
  try unfold aw
  exact zq1
@[go_sem] def xV (cA:List Int)(k_0:Nat)(s_0:Unit):Int⊕Unit:=(bif((cA.getD k_0 0) !=0)then .inl (cA.getD k_0 0)else .inr ())
def kX (cA:List Int):Int:=(match aq (xV cA) cA.length 0 ()with| .inl x_0_0=>x_0_0| .inr s_0=>0)
@[go_sem] def zb:List SV->Option Con:=(pR .int fun cA=>(pE (.det True (.v (.int .i64 (kX cA))))))
theorem Du:FnOk Tryz.prog 96 zb:=by
 have hG:ConsOk Tryz.prog (mkG [] []):=am cg0 cg0;refine av [.o] mixed ai hG (fn:=Tryz.f96) (c:=aa Tryz.f96) kr kr kr kr (a_ fun cA=>(ah (fun hp=>?_)));dsimp only[an]at hp;refine⟨nbl rfl,(fun id st=>bif Nat.beq id 0 then some (LCR (ρ:=Int) (σ:=Unit) 0 [] [] (fun k_0 s_0=>⟨[(3,.v (.int .i64 0)),(6,.rs .int cA),(7,.v (.int .i64 (cA.length:Int))),(8,.v (.int .i64 (k_0:Int)))],[]⟩) (xV cA) pT cA.length () (cA.length<=aA) (fun _=>.ret) (fun x_0_0=>⟨[(2,.v (.int .i64 x_0_0))],[]⟩) st)else none),?_,?_⟩
 ·unfold aa Tryz.f96;simp only[ak,true_and,and_true]
  ·refine bh mixed ai hG kr (fun _=>rfl) (cA.length:Int) rfl dV (fun hb0 k_0 s_0 hlt0 _ hw hc=>⟨L0,ag _,?_⟩) (fun hb0 s_0 hc=>?_)
   ·exact aL (jl [])
   ·exact aK (jl [])
 ·unfold aa Tryz.f96;try unfold kX
  exact zq1
def aX (x:Claim):Bool:=(x.litres==0)
@[go_sem] def oK:List SV->Option Con:=(pD .claim fun x=>(pE (.det True (.v (.bool (aX x))))))
theorem sg:FnOk Tryz.prog 93 oK:=by
 have hG:ConsOk Tryz.prog (mkG [] []):=am cg0 cg0;refine av [.o] mixed ai hG (fn:=Tryz.f93) (c:=aa Tryz.f93) kr kr kr kr (aF fun x=>(ah (fun hp=>?_)));dsimp only[an]at hp;refine⟨nbl rfl,L0,ag _,?_⟩
 ·unfold aa Tryz.f93;try unfold aX
  exact zq1
def dx (a:Claim)(b:Claim):Int:=(kX ([(cP a.rank b.rank),(cP a.right b.right),(cP a.farm b.farm)]))
@[go_sem] def s4:List SV->Option Con:=(pD .claim fun a=>(pD .claim fun b=>(pE (.det True (.v (.int .i64 (dx a b)))))))
theorem xG:FnOk Tryz.prog 95 s4:=by
 have hG:ConsOk Tryz.prog (mkG [(96,fun l=>zb (aP [.sl .int] l)),(97,mc)] []):=am (cgc (Du.norm [.sl .int]) (cgc oI cg0)) cg0;refine av [.o] mixed ai hG (fn:=Tryz.f95) (c:=aa Tryz.f95) kr kr kr kr (aF fun a=>(aF fun b=>(ah (fun hp=>?_))));dsimp only[an]at hp;refine⟨nbl rfl,L0,ag _,?_⟩
 ·unfold aa Tryz.f95;try unfold dx
  exact zq1
def eC (right:Int)(farm:Int)(hour:Int)(litres:Int):Claim:=({ right:=right,farm:=farm,hour:=hour,litres:=litres,rank:=2}:Claim)
@[go_sem] def ul:List SV->Option Con:=(pI fun right=>(pI fun farm=>(pI fun hour=>(pI fun litres=>(pE (.det True (.agg (cellsOf .claim (eC right farm hour litres)))))))))
theorem wS:FnOk Tryz.prog 40 ul:=by
 have hG:ConsOk Tryz.prog (mkG [] []):=am cg0 cg0;refine av [.st .claim] mixed ai hG (fn:=Tryz.f40) (c:=aa Tryz.f40) kr kr kr kr (br fun right=>(br fun farm=>(br fun hour=>(br fun litres=>(ah (fun hp=>?_))))));dsimp only[an]at hp;refine⟨nbl rfl,L0,ag _,?_⟩
 ·unfold aa Tryz.f40;try unfold eC
  exact zq1
@[go_sem] def s5 (k_0:Nat)(s_0:List Right):Empty⊕(List Right):=.inr (s_0++([({ name:=(ByteArray.mk #[]),kind:=1,farm:=(([0,1,0]).getD k_0 0),reach:=0,rank:=2,litres:=4,since:=0,to:=7,every:=1,length:=1}:Right)]))
def qA (k_0:Nat)(s_0:List Right):Prop:=((s_0++([({ name:=(ByteArray.mk #[]),kind:=1,farm:=(([0,1,0]).getD k_0 0),reach:=0,rank:=2,litres:=4,since:=0,to:=7,every:=1,length:=1}:Right)])).length*88<=ez)
def b7:District:=(match aq (s5) (([0,1,0]).length) 0 ([])with| .inl x=>x.elim| .inr s_0=>({ name:=(ByteArray.mk #[]),hours:=8,tank:=({ cap:=900,start:=900}:Tank),reaches:=[({ name:=(ByteArray.mk #[]),up:=(-1),delay:=1,cap:=50,bank:=50,siphon:=0,evap:=({ lo:=0,hi:=0}:Range),seep:=(({ n:=0,d:=1}:Ratio),({ n:=0,d:=1}:Ratio))}:Reach)],farms:=[({ name:=(ByteArray.mk #[]),reach:=0,area:=0,crop:=(-1)}:Farm),({ name:=(ByteArray.mk #[]),reach:=0,area:=0,crop:=(-1)}:Farm),({ name:=(ByteArray.mk #[]),reach:=0,area:=0,crop:=(-1)}:Farm)],crops:=[],rights:=s_0,duties:=[],wells:=[]}:District))
def qS:Prop:=(([0,1,0]).length<=aA->okI (s5) (qA) (([0,1,0]).length) 0 ([]))
@[go_sem] def xW:List SV->Option Con:=(pE (.det (qS) (.agg (cellsOf .district (b7)))))
theorem CG:FnOk Tryz.prog 38 xW:=by
 have hG:ConsOk Tryz.prog (mkG [] []):=am cg0 cg0;refine av [.st .district] mixed ai hG (fn:=Tryz.f38) (c:=aa Tryz.f38) kr kr kr kr (ah (fun hp=>?_));dsimp only[an]at hp;unfold qS at hp;refine⟨nbl rfl,(fun id st=>bif Nat.beq id 0 then some (LCR (ρ:=Empty) (σ:=(List Right)) 3 [.cell 2 7 (.row .right ([]))] [0,1,2,3] (fun k_0 s_0=>⟨[(0,.ptr 0 0),(2,.ptr 2 0),(17,.rs .int ([0,1,0])),(18,.v (.int .i64 (([0,1,0]).length:Int))),(19,.v (.int .i64 (k_0:Int)))],[.cells [.v (.string (ByteArray.mk #[])),.v (.int .i64 0),.v (.int .i64 0),.v (.int .i64 0),.v (.slice none 0 0),.v (.slice none 0 0),.v (.slice none 0 0),.v (.slice none 0 0),.v (.slice none 0 0),.v (.slice none 0 0)],.dead,.cells [.v (.string (ByteArray.mk #[])),.v (.int .i64 8),.v (.int .i64 900),.v (.int .i64 900),.rs .reach ([({ name:=(ByteArray.mk #[]),up:=(-1),delay:=1,cap:=50,bank:=50,siphon:=0,evap:=({ lo:=0,hi:=0}:Range),seep:=(({ n:=0,d:=1}:Ratio),({ n:=0,d:=1}:Ratio))}:Reach)]),.rs .farm ([({ name:=(ByteArray.mk #[]),reach:=0,area:=0,crop:=(-1)}:Farm),({ name:=(ByteArray.mk #[]),reach:=0,area:=0,crop:=(-1)}:Farm),({ name:=(ByteArray.mk #[]),reach:=0,area:=0,crop:=(-1)}:Farm)]),.v (.slice none 0 0),.os 3,.v (.slice none 0 0),.v (.slice none 0 0)],.row .right s_0]⟩) (s5) (qA) (([0,1,0]).length) ([]) (([0,1,0]).length<=aA) ((·.elim)) ((·.elim)) st)else none),?_,?_⟩
 ·unfold aa Tryz.f38;simp only[ak,true_and,and_true]
  ·refine bh mixed ai hG kr (fun _=>rfl) (([0,1,0]).length:Int) rfl dV (fun hb0 k_0 s_0 hlt0 hq0 hw hc=>⟨L0,ag _,?_⟩) (fun hb0 s_0 hc=>?_)
   ·unfold qA at hq0;try simp only[hw,Int.toNat_natCast]at hq0
    exact lB (jl [0,1,2,5]) (jl [0,1,2,3])
   ·exact kg (jl [0,1,2,5]) (jl [0,1,2,3])
 ·unfold aa Tryz.f38;try unfold b7
  exact zq1
def iA:List Claim:=[(eC 0 0 3 4),(eC 1 1 3 4),(eC 2 0 3 4),(eC 0 0 5 4)]
@[go_sem] def xX:List SV->Option Con:=(pE (.det True (.rs .claim (iA))))
theorem CH:FnOk Tryz.prog 39 xX:=by
 have hG:ConsOk Tryz.prog (mkG [(40,ul)] []):=am (cgc wS cg0) cg0;refine av [.sl .claim] mixed ai hG (fn:=Tryz.f39) (c:=aa Tryz.f39) kr kr kr kr (ah (fun hp=>?_));dsimp only[an]at hp;refine⟨nbl rfl,L0,ag _,?_⟩
 ·unfold aa Tryz.f39;try unfold iA
  exact zq1
@[go_sem] def qT (a:List Int)(b:List Int)(k_0:Nat)(s_0:Unit):Unit⊕Unit:=(bif((a.getD k_0 0) !=(b.getD k_0 0))then .inl ()else .inr ())
def rX (a:List Int)(b:List Int)(k_0:Nat)(s_0:Unit):Prop:=(a.length<=aA->(0<=(k_0:Int)/\(k_0:Int) < (b.length:Int)))
def kY (a:List Int)(b:List Int):Bool:=(bif((a.length:Int) !=(b.length:Int))then false else(match aq (qT a b) a.length 0 ()with| .inl x_0_0=>false| .inr s_0=>true))
def nF (a:List Int)(b:List Int):Prop:=(a.length<=aA->(b.length<=aA->(((a.length:Int) !=(b.length:Int))=false->okI (qT a b) (rX a b) a.length 0 ())))
@[go_sem] def vK:List SV->Option Con:=(pR .int fun a=>(pR .int fun b=>(pE (.det (nF a b) (.v (.bool (kY a b)))))))
theorem xY:FnOk Tryz.prog 19 vK:=by
 have hG:ConsOk Tryz.prog (mkG [] []):=am cg0 cg0;refine av [.o] mixed ai hG (fn:=Tryz.f19) (c:=aa Tryz.f19) kr kr kr kr (a_ fun a=>(a_ fun b=>(ah (fun hp=>?_))));dsimp only[an]at hp;unfold nF at hp;refine⟨nbl rfl,(fun id st=>bif Nat.beq id 0 then some (LCR (ρ:=Unit) (σ:=Unit) 0 [] [] (fun k_0 s_0=>⟨[(0,.rs .int a),(1,.rs .int b),(5,.v (.int .i64 (k_0:Int)))],[]⟩) (qT a b) (rX a b) a.length () (True) (fun _=>.ret) (fun x_0_0=>⟨[(4,.v (.bool false))],[]⟩) st)else none),?_,?_⟩
 ·unfold aa Tryz.f19;simp only[ak,true_and,and_true]
  ·refine cB (a.length<=aA) mixed ai hG kr (fun _=>rfl) (a.length:Int) rfl dV (fun hb0 k_0 s_0 hlt0 hq0 hw hc=>⟨L0,ag _,?_⟩) (fun hb0 s_0 hc=>?_) fun hb0 k_0 s_0=>?_
   ·unfold rX at hq0;try simp only[hw,Int.toNat_natCast]at hq0
    exact aL (jl [])
   ·exact aK (jl [])
   ·exact zq7
 ·unfold aa Tryz.f19;try unfold kY
  exact zq1
theorem G_ (x y:Int):cP x y=if x<y then -1 else if x > y then 1 else 0:=by
 unfold cP lL;simp[Bool.cond_eq_ite]
theorem I3 (x:Int)(l:List Int):kX (x::l)=if x=0 then kX l else x:=by
 have key:∀ l:List Int,kX l=match kf (ρ:=Int) (fun(x:Int) (_:Unit) =>bif(x !=0)then .inl x else .inr ()) l ()with| .inl y=>y| .inr _=>0:=fun l=>by
  unfold kX;have:=E_ (ρ:=Int) (fun(x:Int) (_:Unit) =>bif(x !=0)then .inl x else .inr ()) 0 l ();rw[<-this];rfl
 rw[key,key];simp only[kf];by_cases h:x=0
 ·subst h;rfl
 ·have:(x !=0)=true:=by simpa using h
  rw[if_neg h,this];rfl
theorem L3:kX []=0:=rfl
def Fj:List (Int×Int)->Prop
 | [] =>False
 |(a,b)::r=>a<b\/a=b/\Fj r
theorem Ed:∀ l:List (Int×Int),(kX (l.map fun p=>cP p.1 p.2) <0↔Fj l)
 | [] =>by simp[L3,Fj]
 |(a,b)::r=>by
  have hc:=G_ a b;simp only[List.map_cons,I3,hc,Fj];rcases Int.lt_trichotomy a b with h|h|h
  ·simp[h]
  ·subst h;simp only[Int.lt_irrefl,if_false,if_true,true_and,false_or,gt_iff_lt];exact Ed r
  ·have h1:¬a<b:=by omega
   have h2:a≠b:=by omega
   simp[h1,h2,h]
def tlt (a b:Claim):Prop:=Fj [(a.rank,b.rank),(a.right,b.right),(a.farm,b.farm)]
theorem Kx (a b:Claim):dx a b<0↔tlt a b:=Ed [(a.rank,b.rank),(a.right,b.right),(a.farm,b.farm)]
open Go.Shelf Go.Sort in
theorem UK {α:Type}{f:α->α->Int}{r:α->α->Prop}(e:∀ x y,f x y<0↔r x y)(h1:∀ x,¬r x x)(h2:∀ x y z,r x y->r y z->r x z)(h3:∀ x y z,¬r x y->¬r y z->¬r x z):SWO (ltOf f):=by
 have e1:∀ x y,ltOf f x y=true↔r x y:=fun x y=>by unfold ltOf;rw[decide_eq_true_eq,e]
 have e2:∀ x y,ltOf f x y=false↔¬r x y:=fun x y=>by rw[<-e1];simp
 exact⟨fun x=>(e2 x x).2 (h1 x),fun x y z a b=>(e1 x z).2 (h2 x y z ((e1 x y).1 a) ((e1 y z).1 b)),fun x y z a b=>(e2 x z).2 (h3 x y z ((e2 x y).1 a) ((e2 y z).1 b))⟩
open Go.Shelf Go.Sort in
theorem Ha:SWO (ltOf dx):=UK Kx (fun x=>by simp only[tlt,Fj,and_false,or_false];omega) (fun x y z h1 h2=>by simp only[tlt,Fj,and_false,or_false]at *;omega) (fun x y z h1 h2=>by simp only[tlt,Fj,and_false,or_false]at *;omega)
theorem Xh {n i:Nat}{step:Nat->Unit->Unit⊕Unit}{s:Unit}(h:aq step n i s=.inr s):∀ j,i<=j->j<i+n->step j ()=.inr ():=by
 induction n generalizing i with
 |zero=>intro j h1 h2;omega
 |succ n ih=>
  simp only[aq]at h;cases hs:step i s with
  |inl r=>rw[hs]at h;cases h
  |inr s'=>
   rw[hs]at h;intro j h1 h2;by_cases e:j=i
   ·subst e;cases s;exact hs
   ·exact ih h j (by omega) (by omega)
structure Right1 (d:District):Prop where
 reaches:d.reaches.length<=64
 one:0<d.reaches.length
 farms:d.farms.length<=600
 rights:d.rights.length<=256
 hours1:1<=d.hours
 hours:d.hours<=4096
 start0:0<=d.tank.start
 start:d.tank.start<=d.tank.cap
 cap:d.tank.cap<=1099511627776
 reach:∀ k,k<d.reaches.length->sA (k:Int) (d.reaches.getD k default)=true
 farm:∀ k,k<d.farms.length->0<=(d.farms.getD k default).reach/\(d.farms.getD k default).reach< (d.reaches.length:Int)
theorem Ac {step:Nat->Unit->Unit⊕Unit}:∀ {n i:Nat},(∀ j,i<=j->j<i+n->step j ()=.inr ())->aq step n i ()=.inr ()
 |0,_,_=>rfl
 |n+1,i,h=>by
  simp only[aq];rw[h i (by omega) (by omega)];exact Ac fun j h1 h2=>h j (by omega) (by omega)
theorem yu {ρ:Type}{n i:Nat}{step:Nat->Unit->ρ⊕Unit}{s:Unit}(h:aq step n i s=.inr s):∀ j,i<=j->j<i+n->step j ()=.inr ():=by
 induction n generalizing i with
 |zero=>intro j h1 h2;omega
 |succ n ih=>
  simp only[aq]at h;cases hs:step i s with
  |inl r=>rw[hs]at h;cases h
  |inr s'=>
   rw[hs]at h;intro j h1 h2;by_cases e:j=i
   ·subst e;cases s;exact hs
   ·exact ih h j (by omega) (by omega)
theorem Fk {α:Type}(l:List α)(d:α){n:Nat}(h:n<l.length):l.getD n d=l[n]:=by
 rw[List.getD_eq_getElem?_getD,List.getElem?_eq_getElem h];rfl
theorem Zh {n:Int}(h0:0<=n)(h1:n<18446744073709551616):u64.wrap n=n:=by
 simp only[IntKind.wrap,IntKind.bits,IntKind.signed];simp;omega
structure RatioOk (a:Ratio):Prop where
 d1:1<=a.d
 d:a.d<=1073741824
 n0: -1073741824<=a.n
 n:a.n<=1073741824
 gcd:Nat.gcd a.n.natAbs a.d.toNat=1
theorem Ee {a b:Bool}(h:a=true↔b=true):a=b:=by cases a <;>cases b <;>simp_all
theorem uy (A:Bool):((bif A then Sum.inl ()else Sum.inr ()):Unit⊕Unit)=.inr ()↔A=false:=by cases A <;>simp
theorem m1 {r:Unit⊕Unit}{a b:Bool}:(match r with| .inl _=>a| .inr _=>b)=true↔(r=.inr ()/\b=true)\/((∃ y,r=.inl y)/\a=true):=by
 cases r with
 |inl y=>simp
 |inr y=>simp
def du (n:Int)(lo:Int)(hi:Int):Bool:=((decide (n>=lo))&&(decide (n<=hi)))
@[go_sem] def wT:List SV->Option Con:=(pI fun n=>(pI fun lo=>(pI fun hi=>(pE (.det True (.v (.bool (du n lo hi))))))))
theorem AU:FnOk Tryz.prog 54 wT:=by
 have hG:ConsOk Tryz.prog (mkG [] []):=am cg0 cg0;refine av [.o] mixed ai hG (fn:=Tryz.f54) (c:=aa Tryz.f54) kr kr kr kr (br fun n=>(br fun lo=>(br fun hi=>(ah (fun hp=>?_)))));dsimp only[an]at hp;refine⟨nbl rfl,L0,ag _,?_⟩
 ·unfold aa Tryz.f54;try unfold du
  exact zq1
def Hb (a0:District)(a1:Judgement):Bool:=letI q0:=i64.wrap ((a0.farms.length:Int) - 1);letI q1:=du a1.n 1 1073741824;(bif(((((!(du a1.kind 1 4)) ||(!(du a1.farm 0 q0))) ||(decide (a1.since<0))) ||(decide (a1.since > a1.to))) ||(decide (a1.to>=a0.hours)))then false else(bif(a1.kind==1)then((a1.other==0)&&(a1.n==0))else(bif(a1.kind==2)then((a1.other==0)&&q1)else(bif(((!(du a1.other 0 q0)) ||(a1.other==a1.farm)) ||(!q1))then false else((a1.kind==4) ||((a0.farms.getD (Int.toNat a1.other) default).reach==(a0.farms.getD (Int.toNat a1.farm) default).reach))))))
@[go_sem] def AV (a0:List Judgement)(a1:Judgement)(k_0:Nat)(s_0:Bool):Unit⊕Bool:=letI q0:=a0.getD k_0 default;(bif((q0.of_==0)&&(q0.no==(i64.wrap (a1.of_ - 1))))then(bif(q0.of_==a1.of_)then .inl ()else .inr true)else(bif(q0.of_==a1.of_)then .inl ()else .inr s_0))
def Fl (a0:List Judgement)(a1:Judgement):Bool:=(bif((((((a1.kind !=0) ||(a1.farm !=0)) ||(a1.other !=0)) ||(a1.since !=0)) ||(a1.to !=0)) ||(a1.n !=0))then false else(match aq (AV a0 a1) a0.length 0 false with| .inl x_0_0=>false| .inr s_0=>s_0))
def Hc (d:District)(before:List Judgement)(x:Judgement):Bool:=letI q1:=(before.length:Int);letI q0:=before.getD (Int.toNat (i64.wrap (q1 - 1))) default;(bif(((!(du x.no 0 1048576)) ||(!(du x.hour 0 d.hours))) ||((decide (q1 > 0))&&((decide (x.no<=q0.no)) ||(decide (x.hour<q0.hour)))))then false else(bif(x.of_==0)then(Hb d x)else((decide (x.of_ > 0))&&(Fl before x))))
@[go_sem] def CI (d:District)(j:List Judgement)(k_0:Nat)(s_0:Unit):Unit⊕Unit:=(bif(!(Hc d ((j.take k_0).drop 0) (j.getD k_0 default)))then .inl ()else .inr ())
def SM (d:District)(j:List Judgement):Int:=(bif((Az d) !=0)then(Az d)else(bif(decide ((j.length:Int) > 64))then 2 else(match aq (CI d j) j.length 0 ()with| .inl x_0_0=>530| .inr s_0=>0)))
@[go_sem] def s6 (j:List Judgement)(x:Judgement)(hour:Int)(k_0:Nat)(s_0:Unit):Unit⊕Unit:=(bif(((j.getD k_0 default).of_==(i64.wrap (x.no+1)))&&(decide ((j.getD k_0 default).hour<=hour)))then .inl ()else .inr ())
def AA (j:List Judgement)(x:Judgement)(hour:Int):Bool:=(match aq (s6 j x hour) j.length 0 ()with| .inl x_0_0=>true| .inr s_0=>false)
def fa (j:List Judgement)(x:Judgement)(hour:Int):Bool:=(((((x.of_==0)&&(decide (x.hour<=hour)))&&(decide (x.since<=hour)))&&(decide (hour<=x.to)))&&(!(AA j x hour)))
end Go.Sx
end
section
namespace Go.Sx
open Go.RowKit
def L4 (k:Tag)(i:Nat)(t:List (Nat×SV))(h:List Ob):SV->St
 | .v (.slice none 0 0) =>⟨(i,.os h.length)::t,h++[.row k []]⟩
 |_=>⟨t,h⟩
def Oi (k:Tag)(id off:Nat)(t:List (Nat×SV))(h:List Ob)(l:List SV):Option SV->St
 |some (.v (.slice none 0 0)) =>⟨t,aW h id (.cells (l.set off (.os h.length)))++[.row k []]⟩
 |_=>⟨t,h⟩
def Ro (k:Tag)(id off:Nat)(t:List (Nat×SV))(h:List Ob):Ob->St
 | .cells l=>Oi k id off t h l (nth l off)
 |_=>⟨t,h⟩
def Oj (k:Tag)(t:List (Nat×SV))(h:List Ob):SV->St
 | .ptr id off=>Ro k id off t h (al h id)
 |_=>⟨t,h⟩
def He (k:Tag):ResultVar->List (Nat×SV)->List Ob->St
 | .tmp i,t,h=>L4 k i t h (lk i t)
 | .cell i _,t,h=>Oj k t h (lk i t)
def CJ:List (ResultVar×Tag)->St->St
 | [],st=>st
 |x::r,st=>CJ r (He x.2 x.1 st.t st.h)
theorem Rp (k:Tag)(r:ResultVar)(st:St):NilS st (He k r st.t st.h):=by
 obtain⟨t,h⟩:=st;cases r with
 |tmp i=>
  show NilS _ (L4 k i t h (lk i t));unfold L4;split
  ·rename_i e;exact .slot _ (.refl _) e (.inl ⟨_,rfl⟩)
  ·exact .refl _
 |cell i _=>
  show NilS _ (Oj k t h (lk i t));unfold Oj;split
  ·unfold Ro;split
   ·rename_i e;unfold Oi;split
    ·rename_i e2;exact .cell _ (.refl _) e (by rw[<-fU];exact e2) (.inl ⟨_,rfl⟩)
    ·exact .refl _
   ·exact .refl _
  ·exact .refl _
theorem NilS.trans {a b c:St}(h1:NilS a b)(h2:NilS b c):NilS a c:=by
 induction h2 with
 |refl=>exact h1
 |cell o _ e1 e2 ho ih=>exact .cell o ih e1 e2 ho
 |slot o _ e1 ho ih=>exact .slot o ih e1 ho
 |slotE k _ e1 ih=>exact .slotE k ih e1
theorem UL (l:List (ResultVar×Tag)):∀ st,NilS st (CJ l st):=by
 induction l with
 |nil=>exact fun st=>.refl _
 |cons x r ih=>exact fun st=>(Rp x.2 x.1 st).trans (ih _)
def Ky (l:List (ResultVar×Tag))(rs:List ResultVar)(ts:Tis)(post:SV->Prop)(pp:Value->Prop):Ex->St->Prop
 | .exit _,_=>False
 | .normal,st=>er post (yg true rs ts (CJ l st))
 | .ret,st=>er post (yg true rs ts (CJ l st))
 | .pan x,_=>pp x
section
variable {l:List (ResultVar×Tag)}{rs:List ResultVar}{ts:Tis}{post:SV->Prop}{pp:Value->Prop}{st:St}{k:Tag}{i id off:Nat}{t:List (Nat×SV)}{h:List Ob}{m:List SV}
@[go_sem] theorem Xi:Ky l rs ts post pp .ret st=er post (yg true rs ts (CJ l st)):=(rfl)
@[go_sem] theorem Rq:Ky l rs ts post pp .normal st=er post (yg true rs ts (CJ l st)):=(rfl)
@[go_sem] theorem Xj {x:Value}:Ky l rs ts post pp (.pan x) st=pp x:=(rfl)
@[go_sem] theorem Zi:CJ [] st=st:=(rfl)
@[go_sem] theorem Xk {r:ResultVar}:CJ ((r,k)::l) ⟨t,h⟩=CJ l (He k r t h):=(rfl)
@[go_sem] theorem Xl:He k (.tmp i) t h=L4 k i t h (lk i t):=(rfl)
@[go_sem] theorem UN {ty:TypeId}:He k (.cell i ty) t h=Oj k t h (lk i t):=(rfl)
@[go_sem] theorem Zj:L4 k i t h (.v (.slice none 0 0))=⟨(i,.os h.length)::t,h++[.row k []]⟩:=(rfl)
@[go_sem] theorem abp:L4 k i t h (.os id)=⟨t,h⟩:=(rfl)
@[go_sem] theorem Zk:Oj k t h (.ptr id off)=Ro k id off t h (al h id):=(rfl)
@[go_sem] theorem UO:Ro k id off t h (.cells m)=Oi k id off t h m (nth m off):=(rfl)
@[go_sem] theorem Zl:Oi k id off t h m (some (.v (.slice none 0 0)))=⟨t,aW h id (.cells (m.set off (.os h.length)))++[.row k []]⟩:=(rfl)
@[go_sem] theorem abq:Oi k id off t h m (some (.os i))=⟨t,h⟩:=(rfl)
attribute [go_sem] List.set_cons_zero
end
section
variable {P:Program}{ts:Tis}{G:Cons}
theorem CK (l:List (ResultVar×Tag)) (hm:P.follows .mixedOrders=true) (hts:ts.ok P) (hG:ConsOk P G) {f:FuncId} {fn:Func} {c:Code} (hf:P.funcs[f]? =some fn) (hb:fn.body=some c) (hname:(fn.name== "runtime.NumGoroutine")=false)
  (hc:bQ fn.ntmps c=true) {C:List SV->Option Con}
  (h:∀ l0 con,C l0=some con->an con->l0.length<=fn.ntmps/\∃ L,ak P none fn.ntmps L c/\exec ts G L c ⟨mC 0 l0,[]⟩ (Ky l fn.results.toList ts (di con) (mG con))):FnOk P f C:=by
 refine⟨fun l con _ args w=>?_,fun l0 con hcon hpre F w vs hF hvs=>?_⟩
 ·have hn:¬fn.name= "runtime.NumGoroutine":=by simpa using hname
  simp[callFunc,hf,hn,hb]
 ·obtain⟨hlen,L,hl,hx⟩:=h l0 con hcon hpre;refine oE (n:=0) (callsIn_of_wp_marks hf hb trivial ?_);have hr:StRel F { w:=w,own:=ct} fn.ntmps ct ⟨mC 0 l0,[]⟩ { tmps:=vs++Array.replicate (fn.ntmps - vs.size) undef,defers:=[]} w:=
   ⟨by have:=hvs.1;simp;omega,Dfr.nil,vC hF,Fr.refl _,fun t=>mH hvs _ t⟩
  refine wpIn_mono (ma hm hts hG c hc hl F _ _ hx ct _ w hr) ?_;intro e a' w' hq;have key:∀ F1 own st,(∀ b,F b->F1 b)->StRel F1 { w:=w,own:=ct} fn.ntmps own st a' w'->er (di con) (yg true fn.results.toList ts (CJ l st))->LeavesInM (rd none) 0 P fn a'.tmps
    (fun e w'=>(∃ s u own',di con s/\e=.returned u/\Handed F w own' w' s u/\Below w.heap.size w w')\/(∃ x,mG con x/\e=.panicked [{ v:=x,recovered:=false}]/\Below w.heap.size w w')) a'.defers .returning w':=by
   intro F1 own0' st0 hF1 hst0 hdone;obtain⟨own,hst⟩:=(UL l st0).rel hst0;generalize CJ l st0=st at hst hdone;refine jp hst (by simp) fun w2 hst2=>?_;have hst3:=hst2.less hF1 rfl;unfold yg at hdone;cases hs:lz (j8 ts st fn.results.toList)with
   |none=>
    simp only[cond_true,Lk]at hdone;rw[hs]at hdone;exact hdone.elim
   |some s=>
    obtain⟨u,e1,e2⟩:=vB (P:=P) hts hst3 hs;refine⟨u,e1,.inl ?_⟩;simp only[cond_true,Lk]at hdone;rw[hs]at hdone;change er (di con) (Ap st.h s)at hdone;cases hg:Ap st.h s with
    |none=>rw[hg]at hdone;exact hdone.elim
    |some s2=>
     rw[hg]at hdone;obtain⟨own',hh⟩:=J3 hst3 e2 hg;exact⟨_,u,own',hdone,rfl,hh,pi hst3.fr⟩
  cases e with
  |normal=>obtain⟨F1,own,st,h0,h1,h2⟩:=hq;exact key F1 own st h0 h1 h2
  |ret=>obtain⟨F1,own,st,h0,h1,h2⟩:=hq;exact key F1 own st h0 h1 h2
  |exit id=>obtain⟨F1,own,st,h0,h1,h2⟩:=hq;exact h2.elim
  |panic ch=>
   obtain⟨x,F1,own,st,h0,h1,h2,rfl⟩:=hq;exact jp h1 (by simp) fun w2 hst2=>.inr ⟨x,h2,rfl,pi hst2.fr⟩
  |_=>exact hq.elim
end
end Go.Sx
end
section
namespace Go.Sx
open Go.Proofs
open IntKind (i64)

def et (i:Int)(d:District):Bool:=(aI i 0 (i64.wrap ((d.farms.length:Int) - 1)))
@[go_sem] def sh:List SV->Option Con:=(pI fun i=>(pX .district fun d=>(pE (.det True (.v (.bool (et i d)))))))
theorem wU:FnOk Tryz.prog 109 sh:=by
 have hG:ConsOk Tryz.prog (mkG [(52,gc)] []):=am (cgc h_ cg0) cg0;refine av [.o] mixed ai hG (fn:=Tryz.f109) (c:=aa Tryz.f109) kr kr kr kr (br fun i=>(aR fun d=>(ah (fun hp=>?_))));dsimp only[an]at hp;refine⟨nbl rfl,L0,ag _,?_⟩
 ·unfold aa Tryz.f109;try unfold et
  exact zq1
def AW (a0:District)(a1:Judgement):Unit:=(bif(aw ((((aI a1.kind 1 4)&&(et a1.farm a0))&&(aI a1.since 0 a1.to))&&(decide (a1.to<a0.hours))) 530)then(bif(aw (((a1.kind==1)&&(a1.n==0)) ||((a1.kind !=1)&&(aI a1.n 1 1073741824))) 530)then(bif(decide (a1.kind<3))then(bif(aw (a1.other==0) 530)then()else default)else(bif(aw ((et a1.other a0)&&(a1.other !=a1.farm)) 530)then(bif(aw ((a1.kind==4) ||((a0.farms.getD (Int.toNat a1.other) default).reach==(a0.farms.getD (Int.toNat a1.farm) default).reach)) 530)then()else default)else default))else default)else default)
def tZ (a0:District)(a1:Judgement):Prop:=letI q0:=(a0.farms.length:Int);((aw ((((aI a1.kind 1 4)&&(et a1.farm a0))&&(aI a1.since 0 a1.to))&&(decide (a1.to<a0.hours))) 530)=true->((aw (((a1.kind==1)&&(a1.n==0)) ||((a1.kind !=1)&&(aI a1.n 1 1073741824))) 530)=true->((decide (a1.kind<3))=false->((aw ((et a1.other a0)&&(a1.other !=a1.farm)) 530)=true->(((a1.kind==4)=false->(0<=a1.other/\a1.other<q0))/\((a1.kind==4)=false->(0<=a1.farm/\a1.farm<q0)))))))
theorem Rr {n:Int}(h: -9223372036854775808<=n):i64.wrap n<=n:=by
 simp only[IntKind.wrap,IntKind.bits,IntKind.signed];simp;omega
theorem Rt (b:Bool)(e:Int):aw b e=b:=by cases b <;>rfl
theorem Zm (n lo hi:Int):aI n lo hi=true↔lo<=n/\n<=hi:=by
 unfold aI;simp[Bool.and_eq_true]
theorem yw (d:District)(x:Judgement):tZ d x:=by
 intro h1 h2 h3 h4;rw[Rt]at h1 h4;simp only[Bool.and_eq_true]at h1 h4;have a1:=h1.1.1.2;have a4:=h4.1;unfold et at a1 a4;rw[Zm]at a1 a4;have:=Rr (n:=(d.farms.length:Int) - 1) (by omega);exact⟨fun _=>⟨by omega,by omega⟩,fun _=>⟨by omega,by omega⟩⟩
def oL (a0:District)(a1:Judgement):Bool:=(bif(aw ((((aI a1.kind 1 4)&&(et a1.farm a0))&&(aI a1.since 0 a1.to))&&(decide (a1.to<a0.hours))) 530)then(bif(aw (((a1.kind==1)&&(a1.n==0)) ||((a1.kind !=1)&&(aI a1.n 1 1073741824))) 530)then(bif(decide (a1.kind<3))then(bif(aw (a1.other==0) 530)then true else false)else(bif(aw ((et a1.other a0)&&(a1.other !=a1.farm)) 530)then(bif(aw ((a1.kind==4) ||((a0.farms.getD (Int.toNat a1.other) default).reach==(a0.farms.getD (Int.toNat a1.farm) default).reach)) 530)then true else false)else false))else false)else false)
@[go_sem] def t6:List SV->Option Con:=(pD .district fun a0=>(pD .judgement fun a1=>(pE (.may (oL a0 a1) (.tup []) (.iface 36 (.int .i64 530))))))
theorem yx:FnOk Tryz.prog 59 t6:=by
 have hG:ConsOk Tryz.prog (mkG [(52,gc),(58,kl),(109,sh)] []):=am (cgc h_ (cgc mf (cgc wU cg0))) cg0;refine av [] mixed ai hG (fn:=Tryz.f59) (c:=aa Tryz.f59) kr kr kr kr (aF fun a0=>(aF fun a1=>(ah (fun hp=>?_))));dsimp only[an]at hp;have hp:=yw a0 a1;unfold tZ at hp;refine⟨nbl rfl,L0,ag _,?_⟩
 ·unfold aa Tryz.f59;try unfold AW
  try unfold oL
  exact zq1
def mg (y:Judgement)(x:Judgement)(hour:Int):Bool:=((y.of_==(i64.wrap (x.no+1)))&&(decide (y.hour<=hour)))
@[go_sem] def sj:List SV->Option Con:=(pD .judgement fun y=>(pX .judgement fun x=>(pX .int fun hour=>(pE (.det True (.v (.bool (mg y x hour))))))))
theorem wV:FnOk Tryz.prog 104 sj:=by
 have hG:ConsOk Tryz.prog (mkG [] []):=am cg0 cg0;refine av [.o] mixed ai hG (fn:=Tryz.f104) (c:=aa Tryz.f104) kr kr kr kr (aF fun y=>(aR fun x=>(aR fun hour=>(ah (fun hp=>?_)))));dsimp only[an]at hp;refine⟨nbl rfl,L0,ag _,?_⟩
 ·unfold aa Tryz.f104;try unfold mg
  exact zq1
@[go_sem] def bK (s_:List Judgement)(x:Judgement)(hour:Int)(k_0:Nat)(s_0:Unit):Int⊕Unit:=(bif(mg (s_.getD k_0 default) x hour)then .inl (k_0:Int)else .inr ())
def dy (s_:List Judgement)(x:Judgement)(hour:Int):Int:=(match aq (bK s_ x hour) s_.length 0 ()with| .inl x_0_0=>x_0_0| .inr s_0=>(-1))
@[go_sem] def fb:List SV->Option Con:=(pR .judgement fun s_=>(pFn 104 (pX .judgement fun x=>(pX .int fun hour=>(pE ((pE (.det True (.v (.int .i64 (dy s_ x hour)))))))))))
theorem ju:FnOk Tryz.prog 147 fb:=by
 have hG:ConsOk Tryz.prog (mkG [(104,sj)] []):=am (cgc wV cg0) cg0;refine av [.o] mixed ai hG (fn:=Tryz.f147) (c:=aa Tryz.f147) kr kr kr kr (a_ fun s_=>(bH (aR fun x=>(aR fun hour=>(ah ((ah (fun hp=>?_))))))));dsimp only[an]at hp;refine⟨nbl rfl,(fun id st=>bif Nat.beq id 0 then some (LCR (ρ:=Int) (σ:=Unit) 0 [] [] (fun k_0 s_0=>⟨[(0,.rs .judgement s_),(1,.fn 104 [] [.ep (cellsOf .judgement x) 0,.ep [.v (.int .i64 hour)] 0]),(7,.v (.int .i64 (s_.length:Int))),(8,.v (.int .i64 (k_0:Int)))],[]⟩) (bK s_ x hour) pT s_.length () (s_.length<=aA) (fun _=>.ret) (fun x_0_0=>⟨[(4,.v (.int .i64 x_0_0))],[]⟩) st)else none),?_,?_⟩
 ·unfold aa Tryz.f147;simp only[ak,true_and,and_true]
  ·refine bh mixed ai hG kr (fun _=>rfl) (s_.length:Int) rfl dV (fun hb0 k_0 s_0 hlt0 _ hw hc=>⟨L0,ag _,?_⟩) (fun hb0 s_0 hc=>?_)
   ·exact aL (jl [])
   ·exact aK (jl [])
 ·unfold aa Tryz.f147;try unfold dy
  exact zq1
def cT (s_:List Judgement)(x:Judgement)(hour:Int):Bool:=(decide ((dy s_ x hour)>=0))
@[go_sem] def eJ:List SV->Option Con:=(pR .judgement fun s_=>(pFn 104 (pX .judgement fun x=>(pX .int fun hour=>(pE ((pE (.det True (.v (.bool (cT s_ x hour)))))))))))
theorem iK:FnOk Tryz.prog 103 eJ:=by
 have hG:ConsOk Tryz.prog (mkG [(147,fun l=>fb (aP [.sl .judgement,.o] l))] []):=am (cgc (ju.norm [.sl .judgement,.o]) cg0) cg0;refine av [.o] mixed ai hG (fn:=Tryz.f103) (c:=aa Tryz.f103) kr kr kr kr (a_ fun s_=>(bH (aR fun x=>(aR fun hour=>(ah ((ah (fun hp=>?_))))))));dsimp only[an]at hp;refine⟨nbl rfl,L0,ag _,?_⟩
 ·unfold aa Tryz.f103;try unfold cT
  exact zq1
def gm (j:List Judgement)(x:Judgement)(hour:Int):Bool:=(cT j x hour)
@[go_sem] def mh:List SV->Option Con:=(pR .judgement fun j=>(pD .judgement fun x=>(pI fun hour=>(pE (.det True (.v (.bool (gm j x hour))))))))
theorem s7:FnOk Tryz.prog 53 mh:=by
 have hG:ConsOk Tryz.prog (mkG [(103,fun l=>eJ (aP [.sl .judgement,.o] l))] []):=am (cgc (iK.norm [.sl .judgement,.o]) cg0) cg0;refine av [.o] mixed ai hG (fn:=Tryz.f53) (c:=aa Tryz.f53) kr kr kr kr (a_ fun j=>(aF fun x=>(br fun hour=>(ah (fun hp=>?_)))));dsimp only[an]at hp;refine⟨nbl rfl,L0,ag _,?_⟩
 ·unfold aa Tryz.f53;try unfold gm
  exact zq1
@[go_sem] def oM (a0:District)(a1:List Judgement)(k_0:Nat)(s_0:List (Int×Bool)):Unit⊕(List (Int×Bool)):=letI q0:=a1.getD k_0 default;letI q1:=a1.getD (Int.toNat (i64.wrap ((k_0:Int) - 1))) default;(bif(aw ((aI (q0.no) 0 1048576)&&(aI (q0.hour) 0 a0.hours)) 530)then(bif(aw (((k_0:Int) ==0) ||((decide (q0.no > q1.no))&&(decide (q0.hour>=q1.hour)))) 530)then(bif(q0.of_==0)then(bif(oL a0 q0)then .inr (iH .int .bool s_0 (i64.wrap (q0.no+1)) true)else .inl ())else(bif(aw ((bg .int .bool s_0 (q0.of_))&&((q0.no==q0.no)&&((q0.hour==q0.hour)&&((q0.kind==0)&&((q0.farm==0)&&((q0.other==0)&&((q0.since==0)&&((q0.to==0)&&((q0.n==0)&&(q0.of_==q0.of_)))))))))) 530)then .inr (DI .int .bool s_0 (q0.of_))else .inl ()))else .inl ())else .inl ())
def gV (a0:District)(a1:List Judgement)(k_0:Nat)(s_0:List (Int×Bool)):Prop:=letI q1:=a1.getD k_0 default;letI q3:=(k_0:Int);letI q0:=i64.wrap (q3 - 1);letI q2:=0<=q0/\q0< (a1.length:Int);((aw ((aI (q1.no) 0 1048576)&&(aI (q1.hour) 0 a0.hours)) 530)=true->(((q3==0)=false->q2)/\((q3==0)=false->((decide (q1.no > (a1.getD (Int.toNat q0) default).no))=true->q2))))
def fq (a0:District)(a1:List Judgement):Int:=(bif((gO a0) !=0)then(gO a0)else(bif(aw (decide ((a1.length:Int)<=64)) 2)then(match aq (oM a0 a1) a1.length 0 ([])with| .inl x_0_0=>530| .inr s_0=>0)else 2))
def eu (a0:District)(a1:List Judgement):Prop:=(((gO a0) !=0)=false->(a1.length<=aA->((aw (decide ((a1.length:Int)<=64)) 2)=true->(a1.length<=aA->okI (oM a0 a1) (gV a0 a1) a1.length 0 ([])))))
@[go_sem] def mj:List SV->Option Con:=(pD .district fun a0=>(pR .judgement fun a1=>(pE (.det (eu a0 a1) (.v (.int .i64 (fq a0 a1)))))))
theorem zq54 {p:Prop}(h:p:=by simp only[go_sem,Nat.reduceBEq,Nat.reduceLeDiff,Nat.reduceLT,decide_true,Nat.reduceAdd,Nat.reduceSub,Nat.reduceMul,Int.reduceLE,Int.reduceLT,Int.reduceToNat,Int.reduceNeg,reduceCtorEq,qx,oH,RCJ];all_goals exact cl):p:=h
theorem oN:FnOk Tryz.prog 16 mj:=by
 have hG:ConsOk Tryz.prog (mkG [(52,gc),(57,fun l=>sW (aP [.st .district] l)),(58,kl),(59,fun l=>t6 (aP [.st .district,.st .judgement] l))] []):=am (cgc h_ (cgc (vT.norm [.st .district]) (cgc mf (cgc (yx.norm [.st .district,.st .judgement]) cg0)))) cg0;refine Kw Fi [.o] mixed ai hG (fn:=Tryz.f16) (c0:=qx (aa Tryz.f16)) (c1:=oH (oH (aa Tryz.f16))) (i1:=Qs (qx (oH (aa Tryz.f16)))) (o1:=NI 0 (qx (oH (aa Tryz.f16)))) (q:=4) (tys:= #[104]) kr kr kr (by refine⟨?_,?_,?_⟩ <;>kernel_rfl) kr kr (aF fun a0=>(a_ fun a1=>(ah (fun hp=>?_))));dsimp only[an]at hp;unfold eu at hp;refine⟨nbl rfl,L0,(fun id st=>bif Nat.beq id 0 then some (LCR (ρ:=Unit) (σ:=(List (Int×Bool))) 3 [] [0,1,2] (fun k_0 s_0=>⟨[(1,.rs .judgement a1),(2,.ptr 0 0),(4,.ptr 1 0),(5,.os 2),(18,.rs .judgement a1),(19,.v (.int .i64 (a1.length:Int))),(20,.v (.int .i64 (k_0:Int)))],[.cells (cellsOf .district a0),.cells [.v (.int .i64 (gO a0))],.mp .int .bool s_0 none]⟩) (oM a0 a1) (gV a0 a1) a1.length ([]) (a1.length<=aA) (fun _=>.pan (.iface 36 (.int .i64 530))) (fun x_0_0=>⟨[(4,.ptr 1 0)],[.dead,.cells [.v (.int .i64 (gO a0))],.dead]⟩) st)else none),1,?_,?_,?_⟩
 ·unfold aa Tryz.f16;simp only[qx,ak,and_self,true_and,and_true]
 ·unfold aa Tryz.f16;simp only[oH];simp only[ak,true_and,and_true]
  ·refine bh mixed ai hG kr (fun _=>rfl) (a1.length:Int) rfl dV (fun hb0 k_0 s_0 hlt0 hq0 hw hc=>⟨L0,ag _,?_⟩) (fun hb0 s_0 hc=>?_)
   ·unfold gV at hq0;try simp only[hw,Int.toNat_natCast]at hq0
    exact aL (jl [0,1,2])
   ·exact aK (jl [0,1,2])
 ·unfold aa Tryz.f16;try unfold fq
  exact zq54
@[go_sem] def oO (a1:List Judgement)(a2:Int)(k_0:Nat)(s_0:List Int):Empty⊕(List Int):=letI q0:=a1.getD k_0 default;letI q2:=Int.toNat (q0.other);letI q3:=Int.toNat (q0.farm);letI q1:=s_0.set q3 (i64.wrap ((s_0.getD q3 0)+q0.n));(bif(((q0.kind==4)&&(decide (q0.hour<=a2)))&&(!(gm a1 q0 a2)))then .inr (q1.set q2 (i64.wrap ((q1.getD q2 0) - q0.n)))else .inr s_0)
def gW (a1:List Judgement)(a2:Int)(k_0:Nat)(s_0:List Int):Prop:=letI q0:=a1.getD k_0 default;letI q2:=0<=q0.farm/\q0.farm< (s_0.length:Int);letI q3:=Int.toNat (q0.farm);letI q1:=0<=q0.other/\q0.other< ((s_0.set q3 (i64.wrap ((s_0.getD q3 0)+q0.n))).length:Int);((((q0.kind==4)&&(decide (q0.hour<=a2)))&&(!(gm a1 q0 a2)))=true->(q2/\(q2/\(q1/\q1))))
def ft (a0:District)(a1:List Judgement)(a2:Int):List Int×Int:=letI q0:=fq a0 a1;(bif(q0 !=0)then([],q0)else(bif(!(aI a2 0 a0.hours))then([],1)else(match aq (oO a1 a2) a1.length 0 (List.replicate (Int.toNat (a0.farms.length:Int)) (0:Int))with| .inl x=>x.elim| .inr s_0=>(s_0,0))))
def eR (a0:District)(a1:List Judgement)(a2:Int):Prop:=letI q0:=(a0.farms.length:Int);((eu a0 a1)/\(((fq a0 a1) !=0)=false->((!(aI a2 0 a0.hours))=false->(a0.farms.length<=aA->((q0=q0/\0<=q0/\q0*((8:Nat):Int)<=((ez:Nat):Int))/\(q0<=((aA:Nat):Int)->(a1.length<=aA->okI (oO a1 a2) (gW a1 a2) a1.length 0 (List.replicate (Int.toNat q0) (0:Int)))))))))
@[go_sem] def t7:List SV->Option Con:=(pD .district fun a0=>(pR .judgement fun a1=>(pI fun a2=>(pE (.det (eR a0 a1 a2) (.tup [.nw .int ((ft a0 a1 a2).1),.v (.int .i64 ((ft a0 a1 a2).2))]))))))
theorem yy:FnOk Tryz.prog 14 t7:=by
 have hG:ConsOk Tryz.prog (mkG [(16,fun l=>mj (aP [.st .district,.sl .judgement] l)),(52,gc),(53,fun l=>mh (aP [.sl .judgement,.st .judgement,.o] l))] []):=am (cgc (oN.norm [.st .district,.sl .judgement]) (cgc h_ (cgc (s7.norm [.sl .judgement,.st .judgement,.o]) cg0))) cg0;refine CK [(.tmp 6,.int)] mixed ai hG (fn:=Tryz.f14) (c:=aa Tryz.f14) kr kr kr kr (aF fun a0=>(a_ fun a1=>(br fun a2=>(ah (fun hp=>?_)))));dsimp only[an]at hp;unfold eR at hp;refine⟨nbl rfl,(fun id st=>bif Nat.beq id 0 then some (LCR (ρ:=Empty) (σ:=(List Int)) 2 [] [0,1] (fun k_0 s_0=>⟨[(1,.rs .judgement a1),(2,.v (.int .i64 a2)),(6,.os 1),(25,.rs .judgement a1),(26,.v (.int .i64 (a1.length:Int))),(27,.v (.int .i64 (k_0:Int)))],[.dead,.row .int s_0]⟩) (oO a1 a2) (gW a1 a2) a1.length (List.replicate (Int.toNat (a0.farms.length:Int)) (0:Int)) (a1.length<=aA) ((·.elim)) ((·.elim)) st)else none),?_,?_⟩
 ·unfold aa Tryz.f14;simp only[ak,true_and,and_true]
  ·refine bh mixed ai hG kr (fun _=>rfl) (a1.length:Int) rfl dV (fun hb0 k_0 s_0 hlt0 hq0 hw hc=>⟨L0,ag _,?_⟩) (fun hb0 s_0 hc=>?_)
   ·unfold gW at hq0;try simp only[hw,Int.toNat_natCast]at hq0
    exact aL (jl [0,1])
   ·exact aK (jl [0,1])
 ·unfold aa Tryz.f14;try unfold ft
  exact zq1
theorem Fo (b:Bool)(e:Int):aw b e=b:=by cases b <;>rfl
theorem Ok (n lo hi:Int):aI n lo hi=(decide (lo<=n)&&decide (n<=hi)):=rfl
theorem Zn (n lo hi:Int):du n lo hi=(decide (lo<=n)&&decide (n<=hi)):=rfl
structure JInv (b:List Judgement)(s:List (Int×Bool)):Prop where
 nd:(Zg s).Nodup
 val:∀ z:Int,bg .int .bool s z=true↔(∃ y∈b,y.of_=0/\y.no+1=z)/\¬ ∃ y∈b,y.of_=z
 no:∀ y∈b,0<=y.no/\y.no<=1048576
 of:∀ y∈b,y.of_≠0->∃ z∈b,y.of_=z.no+1
 last:∀ y∈b,y.no<=(b.getD (b.length - 1) default).no
theorem Ef (j:List Judgement)(x:Judgement)(hour:Int):∀ (n i:Nat),
  (decide ((match aq (bK j x hour) n i ()with| .inl x_0_0=>x_0_0| .inr s_0=>(-1))>=(0:Int)))=(match aq (s6 j x hour) n i ()with| .inl x_0_0=>true| .inr s_0=>false)
 |0,i=>rfl
 |n+1,i=>by
  simp only[aq,bK,s6,mg];rcases Bool.eq_false_or_eq_true (((j.getD i (default:Judgement)).of_==i64.wrap (x.no+1))&&decide ((j.getD i (default:Judgement)).hour<=hour))with h|h
  ·simp only[h,cond_true];exact decide_eq_true (Int.natCast_nonneg i)
  ·simp only[h,cond_false];exact Ef j x hour n (i+1)
theorem Ol (j:List Judgement)(x:Judgement)(hour:Int):gm j x hour=AA j x hour:=Ef j x hour j.length 0
structure JOk (d:District)(x:Judgement):Prop where
 no:0<=x.no/\x.no<=1048576
 end_:x.of_≠0->x.kind=0
 kind:x.of_=0->1<=x.kind/\x.kind<=4
 farm:x.of_=0->0<=x.farm/\x.farm< (d.farms.length:Int)
 none:x.kind=1->x.n=0
 n:x.kind≠1->x.of_=0->1<=x.n/\x.n<=1073741824
 other:3<=x.kind->0<=x.other/\x.other< (d.farms.length:Int)/\x.other≠x.farm
end Go.Sx
end
section
namespace Go.Sx
open Go.RowKit
def pXM {α:Type 1}(t t2:Tag)(k:List (t.T×t2.T)->List SV->Option α):List SV->Option α
 | .ep [s] 0::r=>pM t t2 k (s::r)
 |_=>none
@[go_sem] theorem Zo {α:Type 1}{t t2:Tag}{k:List (t.T×t2.T)->List SV->Option α}{s:SV}{r:List SV}:pXM t t2 k (.ep [s] 0::r)=pM t t2 k (s::r):=(rfl)
theorem Fq {α:Type 1}{G:List SV->α->Prop}{t t2:Tag}{k:List (t.T×t2.T)->List SV->Option α}(h:∀ n l c,k n l=some c->G (.ep [.rm t t2 n] 0::l) c):∀ l c,pXM t t2 k l=some c->G l c:=fun l c hc=>by
 unfold pXM at hc;split at hc
 ·obtain⟨x,r,e,h1⟩:=Us hc;simp only[List.cons.injEq]at e;obtain⟨rfl,rfl⟩:=e;exact h x _ c h1
 ·cases hc
section
universe u
variable {α:Type u}{G:List SV->α->Prop}
def pLS (k:List SV->Option (List SV->Option α)):List SV->Option α
 | .ls l::r=>apO (k l) r
 |_=>none
@[go_sem] theorem acy {k:List SV->Option (List SV->Option α)}{l r:List SV}:pLS k (.ls l::r)=apO (k l) r:=(rfl)
theorem Kz {k:List SV->Option (List SV->Option α)}(h:∀ caps q,k caps=some q->∀ l c,q l=some c->G (.ls caps::l) c):∀ l c,pLS k l=some c->G l c:=fun l c hc=>by
 unfold pLS at hc;split at hc
 ·obtain⟨q,h1,h2⟩:=y8 hc;exact h _ q h1 _ c h2
 ·cases hc
end
open Classical in
noncomputable def pC {τ:Type}(A:τ->List SV)(H:τ->List Ob)(K:τ->HCon):List SV->List Ob->Option HCon:=fun l h=>if e:∃ x,l=A x/\h=H x then some (K e.choose)else none
theorem L5 {k:Tag}{x y:k.T}:cellsOf k x=cellsOf k y↔x=y:=⟨fun h=>by
 have h1:=xv x;rw[h,xv y]at h1;exact(Option.some.inj h1).symm,fun h=>by rw[h]⟩
theorem lM {τ:Type}{A:τ->List SV}{H:τ->List Ob}{K:τ->HCon}{x:τ}(inj:∀ x y,A x=A y->H x=H y->x=y:=by
 intro x y h1 h2;simp only[List.cons.injEq,SV.agg.injEq,SV.ep.injEq,SV.v.injEq,Value.int.injEq,Value.bool.injEq,Value.string.injEq,SV.fn.injEq,SV.rs.injEq,SV.rm.injEq,Ob.row.injEq,Ob.mp.injEq,Ob.cells.injEq,Ob.grid.injEq,heq_eq_eq,L5,true_and,and_true]at h1 h2;first|exact h2|exact h1|(simp_all [Prod.ext_iff];done)):pC A H K (A x) (H x)=some (K x):=by
 have e:∃ y,A x=A y/\H x=H y:=⟨x,rfl,rfl⟩;unfold pC;rw[dif_pos e];have:=inj _ _ e.choose_spec.1 e.choose_spec.2;rw[<-this]
theorem jJ {τ:Type}{A:τ->List SV}{H:τ->List Ob}{K:τ->HCon}{l:List SV}{h:List Ob}{c:HCon}(hh:pC A H K l h=some c):∃ x,l=A x/\h=H x/\c=K x:=by
 unfold pC at hh;split at hh
 ·rename_i e;simp only[Option.some.injEq]at hh;exact⟨e.choose,e.choose_spec.1,e.choose_spec.2,hh.symm⟩
 ·cases hh
end Go.Sx
end
section
namespace Go.Sx
open Go.Proofs
open IntKind (i64)
theorem rA {l0 l1 l2:List Nat}(a0:JL l0)(a1:JL l1)(a2:JL l2){p:Prop}(h:JL l0->JL l1->JL l2->p:=by intro ja jb jc;(first|done|(repeat' (first|with_reducible refine And.intro ?_ ?_|((with_reducible show _≠_);first|assumption|omega|(simp_all [dQ,eX];done) |grind) |with_reducible intro _)) <;>(first|done|with_reducible exact Empty.elim ‹Empty› |with_reducible assumption|rfl|omega|assumption|decide|exact fk ja|exact fk jb|exact fk jc|exact czl|(simp only[*,cond_true,cond_false,Bool.not_true,Bool.not_false,go_sem,Nat.reduceBEq,Nat.reduceLeDiff,Nat.reduceLT,decide_true,Nat.reduceAdd,Nat.reduceSub,Nat.reduceMul,Int.reduceLE,Int.reduceLT,Int.reduceToNat,Int.reduceNeg,reduceCtorEq];(repeat' (first|with_reducible refine And.intro ?_ ?_|((with_reducible show _≠_);first|assumption|omega|(simp_all [dQ,eX];done) |grind) |with_reducible intro _)) <;>(first|done|assumption|rfl|omega|decide|exact fk ja|exact fk jb|exact fk jc|(simp_all [dQ,eX];done))) |(simp_all [okI,dQ,eX];done) |(simp_all [dQ,eX];(first|done|exact fk2 ja|exact fk2 jb|exact fk2 jc)) |exact fk2 ja|exact fk2 jb|exact fk2 jc))):p:=h a0 a1 a2
theorem Hf {l0 l1 l2:List Nat}(a0:JL l0)(a1:JL l1)(a2:JL l2){p:Prop}(h:JL l0->JL l1->JL l2->p:=by intro ja jb jc;simp only[go_sem,Nat.reduceBEq,Nat.reduceLeDiff,Nat.reduceLT,decide_true,Nat.reduceAdd,Nat.reduceSub,Nat.reduceMul,Int.reduceLE,Int.reduceLT,Int.reduceToNat,Int.reduceNeg,reduceCtorEq];all_goals exact rA ja jb jc):p:=h a0 a1 a2
def km (y:Claim)(x_:Judgement)(r_:List Claim)(i_:Int):Bool:=((y.farm==x_.other)&&(y.right==(r_.getD (Int.toNat i_) default).right))
def eO (y:Claim)(x_:Judgement)(r_:List Claim)(i_:Int):Prop:=((y.farm==x_.other)=true->(0<=i_/\i_< (r_.length:Int)))
@[go_sem] noncomputable def nO:List SV->Option Con:=(pD .claim fun y=>(pX .judgement fun x_=>(pXR .claim fun r_=>(pX .int fun i_=>(pE (.det (eO y x_ r_ i_) (.v (.bool (km y x_ r_ i_)))))))))
theorem ta:FnOk Tryz.prog 141 nO:=by
 have hG:ConsOk Tryz.prog (mkG [] []):=am cg0 cg0;refine av [.o] mixed ai hG (fn:=Tryz.f141) (c:=aa Tryz.f141) kr kr kr kr (aF fun y=>(aR fun x_=>(Bf fun r_=>(aR fun i_=>(ah (fun hp=>?_))))));dsimp only[an]at hp;unfold eO at hp;refine⟨nbl rfl,L0,ag _,?_⟩
 ·unfold aa Tryz.f141;try unfold km
  exact zq1
@[go_sem] def cN (s_:List Claim)(x_:Judgement)(r_:List Claim)(i_:Int)(k_0:Nat)(s_0:Unit):Int⊕Unit:=(bif(km (s_.getD k_0 default) x_ r_ i_)then .inl (k_0:Int)else .inr ())
def a6 (s_:List Claim)(x_:Judgement)(r_:List Claim)(i_:Int)(k_0:Nat)(s_0:Unit):Prop:=(eO (s_.getD k_0 default) x_ r_ i_)
def bU (s_:List Claim)(x_:Judgement)(r_:List Claim)(i_:Int):Int:=(match aq (cN s_ x_ r_ i_) s_.length 0 ()with| .inl x_0_0=>x_0_0| .inr s_0=>(-1))
def bo (s_:List Claim)(x_:Judgement)(r_:List Claim)(i_:Int):Prop:=(s_.length<=aA->okI (cN s_ x_ r_ i_) (a6 s_ x_ r_ i_) s_.length 0 ())
@[go_sem] noncomputable def cU:List SV->Option Con:=(pR .claim fun s_=>(pFn 141 (pX .judgement fun x_=>(pXR .claim fun r_=>(pX .int fun i_=>(pE ((pE (.det (bo s_ x_ r_ i_) (.v (.int .i64 (bU s_ x_ r_ i_))))))))))))
theorem eP:FnOk Tryz.prog 142 cU:=by
 have hG:ConsOk Tryz.prog (mkG [(141,nO)] []):=am (cgc ta cg0) cg0;refine av [.o] mixed ai hG (fn:=Tryz.f142) (c:=aa Tryz.f142) kr kr kr kr (a_ fun s_=>(bH (aR fun x_=>(Bf fun r_=>(aR fun i_=>(ah ((ah (fun hp=>?_)))))))));dsimp only[an]at hp;unfold bo at hp;refine⟨nbl rfl,(fun id st=>bif Nat.beq id 0 then some (LCR (ρ:=Int) (σ:=Unit) 0 [] [] (fun k_0 s_0=>⟨[(0,.rs .claim s_),(1,.fn 141 [] [.ep (cellsOf .judgement x_) 0,.ep [.rs .claim r_] 0,.ep [.v (.int .i64 i_)] 0]),(7,.v (.int .i64 (s_.length:Int))),(8,.v (.int .i64 (k_0:Int)))],[]⟩) (cN s_ x_ r_ i_) (a6 s_ x_ r_ i_) s_.length () (s_.length<=aA) (fun _=>.ret) (fun x_0_0=>⟨[(4,.v (.int .i64 x_0_0))],[]⟩) st)else none),?_,?_⟩
 ·unfold aa Tryz.f142;simp only[ak,true_and,and_true]
  ·refine bh mixed ai hG kr (fun _=>rfl) (s_.length:Int) rfl dV (fun hb0 k_0 s_0 hlt0 hq0 hw hc=>⟨L0,ag _,?_⟩) (fun hb0 s_0 hc=>?_)
   ·unfold a6 at hq0;try simp only[hw,Int.toNat_natCast]at hq0
    exact aL (jl [])
   ·exact aK (jl [])
 ·unfold aa Tryz.f142;try unfold bU
  exact zq1
@[go_sem] noncomputable def c6:List SV->Option Con:=fun l=>(cU l)
theorem jv:FnOk Tryz.prog 142 c6:=eP
@[go_sem] def jK (x:Judgement)(l_:List Claim)(k_0:Nat)(s_0:Int×List Claim×Int):(List Claim)⊕(Int×List Claim×Int):=letI q6:=i64.wrap (s_0.1 - 1);letI q8:=Int.toNat s_0.1;letI q1:=s_0.2.1.getD q8 default;letI q3:=if s_0.2.2<q1.litres then s_0.2.2 else q1.litres;letI q0:=s_0.2.1.set q8 ({ right:=q1.right,farm:=q1.farm,hour:=q1.hour,litres:=(i64.wrap (q1.litres - q3)),rank:=q1.rank}:Claim);letI q4:=bU q0 x q0 s_0.1;letI q2:=q0.getD (Int.toNat q4) default;letI q5:=q0.getD q8 default;letI q7:=i64.wrap (s_0.2.2 - q3);(bif(decide (s_0.1>=0))then(bif(q1.farm !=x.farm)then .inr (q6,s_0.2.1,s_0.2.2)else(bif(decide (q4>=0))then .inr (q6,(q0.set (Int.toNat q4) ({ right:=q2.right,farm:=q2.farm,hour:=q2.hour,litres:=(i64.wrap (q2.litres+q3)),rank:=q2.rank}:Claim)),q7)else .inr (q6,(q0++([({ right:=q5.right,farm:=x.other,hour:=q5.hour,litres:=q3,rank:=q5.rank}:Claim)])),q7)))else .inl s_0.2.1)
def eD (x:Judgement)(l_:List Claim)(k_0:Nat)(s_0:Int×List Claim×Int):Prop:=letI q3:=0<=s_0.1/\s_0.1< (s_0.2.1.length:Int);letI q7:=Int.toNat s_0.1;letI q1:=s_0.2.1.getD q7 default;letI q5:=if s_0.2.2<q1.litres then s_0.2.2 else q1.litres;letI q0:=s_0.2.1.set q7 ({ right:=q1.right,farm:=q1.farm,hour:=q1.hour,litres:=(i64.wrap (q1.litres - q5)),rank:=q1.rank}:Claim);letI q2:=bU q0 x q0 s_0.1;letI q4:=q0.getD q7 default;letI q6:=0<=q2/\q2< (q0.length:Int);((decide (s_0.1>=0))=true->(q3/\((q1.farm !=x.farm)=false->(q3/\(q3/\(q3/\((bo q0 x q0 s_0.1)/\(((decide (q2>=0))=true->(q6/\q6))/\((decide (q2>=0))=false->((0<=s_0.1/\s_0.1< (q0.length:Int))/\((q0++([({ right:=q4.right,farm:=x.other,hour:=q4.hour,litres:=q5,rank:=q4.rank}:Claim)])).length*40<=ez)))))))))))
def dp (x:Judgement)(l_:List Claim):List Claim:=(match aq (jK x l_) (l_.length+1) 0 ((i64.wrap ((l_.length:Int) - 1)),l_,x.n)with| .inl x_0_0=>x_0_0| .inr s_0=>default)
def cG (x:Judgement)(l_:List Claim):Prop:=letI q0:=((i64.wrap ((l_.length:Int) - 1)),l_,x.n);letI q1:=jK x l_;(l_.length<=aA->(okI q1 (eD x l_) (l_.length+1) 0 q0/\(∀ z_,aq q1 (l_.length+1) 0 q0≠ .inr z_)))
noncomputable def ko:List SV->List Ob->Option HCon:=pC (fun x_:Judgement×(List Claim) =>[.os 0,.agg (cellsOf .judgement x_.1)]) (fun x_=>[.row .claim x_.2]) (fun x_=>je (cG x_.1 x_.2) (.os 1) [.dead,.row .claim (dp x_.1 x_.2)])
@[go_sem] theorem CL (x:Judgement)(l_:List Claim):ko ([.os 0,.agg [.v (.int .i64 x.no),.v (.int .i64 x.hour),.v (.int .i64 x.kind),.v (.int .i64 x.farm),.v (.int .i64 x.other),.v (.int .i64 x.since),.v (.int .i64 x.to),.v (.int .i64 x.n),.v (.int .i64 x.of_)]]) ([.row .claim l_])=some (je (cG x l_) (.os 1) [.dead,.row .claim (dp x l_)]):=lM (A:=fun x_:Judgement×(List Claim) =>[.os 0,.agg (cellsOf .judgement x_.1)]) (H:=fun x_=>[.row .claim x_.2]) (K:=fun x_=>je (cG x_.1 x_.2) (.os 1) [.dead,.row .claim (dp x_.1 x_.2)]) (x:=(x,l_))
theorem zq58 {l0:List Nat}(a0:JL l0){p:Prop}(h:JL l0->p:=by intro ja;simp only[go_sem,Nat.reduceBEq,Nat.reduceLeDiff,Nat.reduceLT,decide_true,Nat.reduceAdd,Nat.reduceSub,Nat.reduceMul,Int.reduceLE,Int.reduceLT,Int.reduceToNat,Int.reduceNeg,reduceCtorEq,c6];all_goals exact jr ja):p:=h a0
theorem um:FnOkO Tryz.prog 89 (ko):=by
 have hG:ConsOk Tryz.prog (mkG [(142,fun l=>c6 (aP [.sl .claim,.o] l))] []):=am (cgc (jv.norm [.sl .claim,.o]) cg0) cg0;refine oe mixed ai hG (fn:=Tryz.f89) (c:=aa Tryz.f89) kr kr kr kr fun l o con h=>?_;obtain⟨⟨x,l_⟩,rfl,rfl,rfl⟩:=jJ h;clear h;try dsimp only
 refine⟨_,_,_,rfl,fun hp=>?_⟩;unfold cG at hp;refine⟨nbl rfl,(fun id st=>bif Nat.beq id 0 then some (LCV (ρ:=(List Claim)) (σ:=(Int×List Claim×Int)) 4 [] [0,1,2,3,3,0] (fun k_0 s_0=>⟨[(2,.ptr 1 0),(3,.ptr 2 0),(5,.v (.int .i64 s_0.2.2)),(6,.ptr 4 0)],[.dead,.cells [.os 5],.cells (cellsOf .judgement x),.dead,.cells [.v (.int .i64 s_0.1)],.row .claim s_0.2.1]⟩) (jK x l_) (eD x l_) (l_.length+1) ((i64.wrap ((l_.length:Int) - 1)),l_,x.n) (fun _=>.normal) (fun x_0_0=>⟨[(2,.ptr 1 0)],[.dead,.cells [.os 5],.dead,.dead,.dead,.row .claim x_0_0]⟩) st)else none),?_,?_⟩
 ·unfold aa Tryz.f89;simp only[ak,true_and,and_true,and_assoc]
  ·refine pj mixed ai hG kr (fun _=>rfl) fun k_0 s_0 hq0=>⟨L0,ag _,?_⟩
   ·unfold eD at hq0;exact Hf (jl [0,1,2,3,6,5]) (jl [0,1,2,3,9,8]) (jl [0,1,2,3,4,5])
 ·unfold aa Tryz.f89;try unfold dp
  exact zq58 (jl [0,5])
end Go.Sx
end
section
namespace Go.Sx
def UP {α:Type}:Result α->World
 | .ok _ w=>w
 | .halt _ w=>w
theorem I4 {α:Type}:∀ (a:Ask α) (w:World),w.drawn<=(w.ask a).2.drawn
 | .done a,w=>Nat.le_refl _
 | .ask what range k,w=>by
  unfold World.ask;dsimp only;split
  ·exact I4 _ w
  ·exact Nat.le_trans (Nat.le_succ _) (I4 _ { w with drawn:=w.drawn+1})
theorem UQ (w:World)(c:Sys):w.drawn<=(w.sys c).2.drawn:=by
 unfold World.sys;have:=I4 (Kernel.perform c w.os) w;split
 ·exact Nat.le_refl _
 ·rename_i h;rw[h]at this;exact this
theorem Hg {p:Program}{w w':World}{a:Addr}{v:Value}{b:Bool}{l:List Addr}(h:w.farStore p a v b=.ok (w',l)):w'.drawn=w.drawn:=by
 unfold World.farStore at h;split at h
 ·split at h
  ·rename_i r hr;cases h;unfold World.viewStore at hr;simp only[bind,Except.bind,pure,Except.pure]at hr
   repeat' split at hr
   all_goals (first|(cases hr;done) |skip)
   all_goals (cases hr;rfl)
  ·cases h
 ·cases h
theorem Ft {α:Type}(p:Program):∀ (s:Sem α) (w:World),w.drawn<=(UP (s.run p w)).drawn:=by
 intro s;induction s with
 |pure a=>intro w;exact Nat.le_refl _
 |load m a k ih=>
  intro w;unfold Sem.run;split
  ·exact ih _ w
  ·split
   ·exact ih _ w
   ·exact Nat.le_refl _
 |store m a v k ih=>
  intro w;cases v
  case agg=>exact Nat.le_refl _
  case tuple=>exact Nat.le_refl _
  all_goals
   simp only[Sem.run];split
   ·split
    ·exact Nat.le_refl _
    ·exact ih (w.setCell a _)
   ·split
    ·rename_i h;rw[<-Hg h];exact ih _
    ·exact Nat.le_refl _
 |new o k ih=>intro w;exact ih w.heap.size { w with heap:=w.heap.push o}
 |shape r k ih=>intro w;exact ih _ _
 |freeze a n k ih=>
  intro w;have:(w.freeze a n).drawn=w.drawn:=by unfold World.freeze;split <;>rfl
  rw[<-this];exact ih _
 |frozen a k ih=>intro w;exact ih _ _
 |getObj r k ih=>
  intro w;unfold Sem.run;split
  ·exact Nat.le_refl _
  ·exact ih _ _
  ·exact Nat.le_refl _
 |setObj r o k ih=>
  intro w;unfold Sem.run;split
  ·exact Nat.le_refl _
  ·exact ih { w with heap:=w.heap.setIfInBounds r o}
  ·exact Nat.le_refl _
 |choose q k ih=>
  intro w;unfold Sem.run;split
  ·exact ih _ _
  ·exact Nat.le_trans (Nat.le_succ _) (ih _ { w with drawn:=w.drawn+1})
 |sys c k ih=>intro w;exact Nat.le_trans (UQ w c) (ih _ _)
 |program k ih=>intro w;exact ih _ _
 |mark m k ih=>intro w;exact ih _
 |halt h=>intro w;exact Nat.le_refl _
theorem Om {α:Type}(p:Program):∀ (s:Sem α) (w:World) (es:Array Event),(s.runT p w es).1=s.run p w:=by
 intro s;induction s with
 |store m a v k ih=>
  intro w es;cases v
  case agg=>rfl
  case tuple=>rfl
  all_goals
   simp only[Sem.runT,Sem.run];split
   ·split
    ·rfl
    ·exact ih _ _
   ·split
    ·exact ih _ _
    ·rfl
 |load m a k ih=>
  intro w es;simp only[Sem.runT,Sem.run];split
  ·exact ih _ _ _
  ·split
   ·exact ih _ _ _
   ·rfl
 |getObj r k ih=>
  intro w es;simp only[Sem.runT,Sem.run];split
  ·rfl
  ·exact ih _ _ _
  ·rfl
 |setObj r o k ih=>
  intro w es;simp only[Sem.runT,Sem.run];split
  ·rfl
  ·exact ih _ _
  ·rfl
 |choose q k ih=>
  intro w es;simp only[Sem.runT,Sem.run];split
  ·exact ih _ _ _
  ·exact ih _ _ _
 |pure a=>intro w es;rfl
 |new o k ih=>intro w es;exact ih _ _ _
 |shape r k ih=>intro w es;exact ih _ _ _
 |freeze a n k ih=>intro w es;exact ih _ _
 |frozen a k ih=>intro w es;exact ih _ _ _
 |sys c k ih=>intro w es;exact ih _ _ _
 |program k ih=>intro w es;exact ih _ _ _
 |mark m k ih=>intro w es;exact ih _ _
 |halt h=>intro w es;rfl
theorem mJ {α:Type}{p:Program}{s:Sem α}{w w':World}{a:α}(h:s.run p w=.ok a w'):w.drawn<=w'.drawn:=by have:=Ft p s w;rw[h]at this;exact this
theorem On {α:Type}{p:Program}{s:Sem α}{w w':World}{a:Halt}(h:s.run p w=.halt a w'):w.drawn<=w'.drawn:=by have:=Ft p s w;rw[h]at this;exact this
theorem sC {α:Type}{p:Program}{s:Sem α}{w:World}{es es':Array Event}{r:Result α}(h:s.runT p w es=(r,es')):w.drawn<=(UP r).drawn:=by
 have:=Om p s w es;rw[h]at this;have h2:=Ft p s w;rw[<-this]at h2;exact h2
def gLe (w:World):GStep->Prop
 | .ended .. =>True
 | .go _ w' _| .comm _ _ _ _ w' _| .spawn _ _ w' _| .count _ w' _| .timer _ _ w' _| .alone _ _ w' _| .newcoro _ _ _ w' _| .coroswitch _ _ _ w' _| .collect _ w' _| .watch _ w' _=>w.drawn<=w'.drawn
theorem gLe.after {w:World}{es:Array Event}{s:GStep}(h:gLe w s):gLe w (s.after es):=by cases s <;>exact h
theorem gLe.trans {w w':World}{s:GStep}(h1:w.drawn<=w'.drawn)(h:gLe w' s):gLe w s:=by cases s <;>first|trivial|exact Nat.le_trans h1 h
theorem zc {c:Prop}[Decidable c]{w:World}{a b:GStep}(h1:gLe w a)(h2:gLe w b):gLe w (if c then a else b):=by split <;>assumption
theorem t8 (fr:Frame)(m:String)(w:World):gLe w (endThrow fr m w):=Nat.le_refl _
theorem wW (p:Program)(fr:Frame)(v:Value)(w:World):gLe w (endPrinting p fr v w):=by
 unfold endPrinting;dsimp only;split
 ·exact t8 _ _ _
 ·trivial
theorem AB (p:Program)(fr:Frame)(callers:List Frame)(dying:Option Dying)(m:String)(w:World):gLe w (endFatal p fr callers dying m w):=by
 unfold endFatal
 extract_lets
 split
 ·rename_i h;exact mJ h
 ·trivial
 ·trivial
theorem I5 (p:Program)(fr:Frame)(d:Dying)(f:Fatal)(w:World):gLe w (writeOn p fr d f w):=by
 unfold writeOn
 extract_lets
 split
 ·trivial
 ·extract_lets
  generalize h:Sem.runT _ _ _ _=rr;obtain⟨r,es⟩:=rr;have h:=sC h;split
  ·rename_i e;cases e;exact h
  ·rename_i e;cases e;exact h
  ·trivial
  ·trivial
theorem I6 (w w':World)(fd:Nat)(t:ByteArray)(o:Outcome):gLe w (endWith w' fd t o):=by
 unfold endWith
 extract_lets
 split
 ·split <;>trivial
 ·trivial
 ·trivial
theorem UR (p:Program)(fr:Frame)(d:Dying)(w:World):gLe w (die p fr d w):=by
 unfold die;split
 ·exact I5 _ _ _ _ _
 ·split
  ·split
   ·exact Nat.le_refl _
   ·exact I6 _ _ _ _ _
  ·extract_lets
   split
   ·exact Nat.le_refl _
   ·split
    ·rename_i h;exact mJ h
    ·trivial
   ·split
    rename_i h;have h:=sC h;refine gLe.after ?_;split
    all_goals first|exact h|trivial|exact gLe.trans h (wW _ _ _ _)
   ·trivial
theorem wX (p:Program)(main:Bool)(fr:Frame)(callers:List Frame)(dying:Option Dying)(v:Value)(w:World):gLe w (doReturn p main fr callers dying v w):=by
 unfold doReturn;split
 ·split
  all_goals exact Nat.le_refl _
 ·split
  ·exact Nat.le_refl _
  ·trivial
  ·split
   ·exact Nat.le_refl _
   ·split
    ·exact Nat.le_refl _
    ·trivial
theorem AX (p:Program)(fr:Frame)(callers:List Frame)(dying:Option Dying)(d:Deferred)(w:World):gLe w (callDeferred p fr callers dying d w):=by
 unfold callDeferred;refine zc trivial ?_;rcases h:(invoke d.target d.args).runT p w #[]with⟨r,es⟩;have h:=sC h;dsimp only;refine gLe.after ?_;split
 all_goals first|exact h|trivial|exact gLe.trans h (AB _ _ _ _ _ _) |exact gLe.trans h (t8 _ _ _) |skip
 split <;>exact h
theorem L6 (p:Program)(main:Bool)(fr:Frame)(callers:List Frame)(dying:Option Dying)(w:World):gLe w (unwind p main fr callers dying w):=by
 unfold unwind;split
 ·split
  rename_i h;have h:=sC h;refine gLe.after ?_;split
  ·exact h
  ·trivial
 ·exact AX _ _ _ _ _ _
 ·split
  ·trivial
  ·split
   ·trivial
   ·split
    ·exact Nat.le_refl _
    ·split
     ·split
      ·exact Nat.le_refl _
      ·split
       ·rename_i h;exact mJ h
       ·trivial
       ·trivial
     ·split
      ·exact wW _ _ _ _
      ·trivial
  ·split
   ·exact wX _ _ _ _ _ _ _
   ·split
    rename_i h;have h:=sC h;refine gLe.after ?_;split
    ·exact gLe.trans h (wX _ _ _ _ _ _ _)
    ·trivial
    ·trivial
theorem Oo (p:Program)(fr:Frame)(callers:List Frame)(dying:Option Dying)(g:Nat)(w:World):gLe w (early p fr callers dying g w):=by
 unfold early
 extract_lets refuse notYet there
 have hn:∀ w0:World,w.drawn<=w0.drawn->gLe w (notYet w0):=fun w0 h0=>by
  show gLe w (match w0.heap[g]? with|some (.pending c elem) =>_|_=>_);split
  ·exact h0
  ·trivial
 split
 ·exact hn w (Nat.le_refl _)
 ·split
  ·trivial
  ·extract_lets there
   have ht:∀ w0:World,w.drawn<=w0.drawn->gLe w (there w0):=fun w0 h0=>h0;split
   ·exact hn w (Nat.le_refl _)
   ·split
    ·exact hn w (Nat.le_refl _)
    ·split
     ·trivial
     ·exact ht w (Nat.le_refl _)
     ·trivial
     ·exact hn w (Nat.le_refl _)
     ·split
      ·exact ht w (Nat.le_refl _)
      ·split
       ·exact hn w (Nat.le_refl _)
       ·split
        ·rename_i h;exact hn _ (mJ h)
        ·rename_i h;exact ht _ (mJ h)
        ·trivial
theorem wY (p:Program)(listen:Bool)(fr:Frame)(callers:List Frame)(dying:Option Dying)(s:Sem Next)(w:World):gLe w (Go.stepG.apply p listen fr callers dying s w):=by
 unfold Go.stepG.apply
 extract_lets go kind
 have hr:∃ r es,(if listen=true then s.runT p w #[]else(s.run p w,#[]))=(r,es)/\w.drawn<=(UP r).drawn:=by
  split
  ·rcases h:s.runT p w #[]with⟨r,es⟩;exact⟨r,es,rfl,sC h⟩
  ·exact⟨_,_,rfl,Ft p s w⟩
 obtain⟨r,es,he,h⟩:=hr;rw[he];dsimp only;refine gLe.after ?_;have hgo:∀ fr w0,w.drawn<=w0.drawn->gLe w (go fr w0):=fun fr w0 h0=>h0;split
 all_goals first|exact h|trivial|exact hgo _ _ h|exact gLe.trans h (AB _ _ _ _ _ _) |exact gLe.trans h (t8 _ _ _) |exact gLe.trans h (Oo _ _ _ _ _ _) |skip
 all_goals first|(refine zc (gLe.trans h (t8 _ _ _)) ?_;exact h) |(split <;>first|exact h|trivial|exact hgo _ _ h)
theorem Ru (p:Program)(listen:Bool)(fr:Frame)(callers:List Frame)(dying:Option Dying)(w:World):gLe w (Go.stepG.oper p listen fr callers dying w):=by
 unfold Go.stepG.oper;split
 ·trivial
 ·split
  ·exact wY _ _ _ _ _ _ _
  ·exact wY _ _ _ _ _ _ _
theorem KA {α:Type}{w:World}{o:Option α}{a:GStep}{f:α->GStep}(h1:gLe w a)(h2:∀ x,gLe w (f x)):gLe w (o.elim a f):=by cases o;exact h1;exact h2 _
theorem Rv (p:Program)(main listen:Bool)(fr:Frame)(callers:List Frame)(dying:Option Dying)(w:World):gLe w (Go.stepG.exec p main listen fr callers dying w):=by
 unfold Go.stepG.exec
 extract_lets go to lost leave
 have hgo:∀ fr w0,w.drawn<=w0.drawn->gLe w (go fr w0):=fun fr w0 h0=>h0;have hto:∀ k,gLe w (to k):=fun k=>Nat.le_refl _;have hlost:∀ m,gLe w (lost m):=fun _=>trivial;have hleave:∀ j,gLe w (leave j):=fun j=>by
  show gLe w (match fr.roundOf with|none=>_|some l=>_);split
  ·refine zc (hgo _ _ (Nat.le_refl _)) trivial
  ·rcases h:(Instr.endRound _ j).runT p w #[]with⟨r,es⟩;have h:=sC h;dsimp only;refine gLe.after ?_;split
   ·exact gLe.trans h (wX _ _ _ _ _ _ _)
   ·trivial
 have hgo1:∀ fr,gLe w (go fr w):=fun fr=>Nat.le_refl _
 clear_value to lost leave
 split
 all_goals first|exact hleave _|exact hto _|exact hlost _|trivial|exact KA (hleave _) hto|exact wY _ _ _ _ _ _ _|exact KA (hlost _) (fun _=>wY _ _ _ _ _ _ _) |skip
 ·split
  ·exact hto _
  ·exact hlost _
 ·rcases h:(Instr.enterLoop fr.fn fr.tmps _ _ _ fr.roundOf).runT p w #[]with⟨r,es⟩;have h:=sC h;dsimp only;refine gLe.after ?_;split
  ·exact gLe.trans h (wY _ _ _ _ _ _ _)
  ·trivial
 ·rcases h:(Instr.endLoop _).runT p w #[]with⟨r,es⟩;have h:=sC h;dsimp only;refine gLe.after ?_;split
  ·exact hgo _ _ h
  ·exact hgo _ _ h
  ·trivial
 ·refine zc (hto _) ?_;split
  ·rename_i h;exact hgo _ _ (mJ h)
  ·trivial
 ·exact zc (Ru _ _ _ _ _ _) (hgo1 _)
theorem Oq (p:Program)(main:Bool)(g:Goroutine)(w:World)(listen:Bool):gLe w (Go.stepG p main g w listen):=by
 unfold Go.stepG;obtain⟨fr,callers,st,dying,off⟩:=g;dsimp only;split
 ·exact UR _ _ _ _
 ·exact Rv _ _ _ _ _ _ _
 ·exact L6 _ _ _ _ _ _
def sLe (w:World):Stepped->Prop
 | .next m=>w.drawn<=m.world.drawn
 | .ended .. =>True
theorem sLe.trans {w w':World}{s:Stepped}(h1:w.drawn<=w'.drawn)(h:sLe w' s):sLe w s:=by cases s <;>first|trivial|exact Nat.le_trans h1 h
theorem KB {c:Prop}[Decidable c]{w:World}{a b:Stepped}(h1:sLe w a)(h2:sLe w b):sLe w (if c then a else b):=by split <;>assumption
theorem KC (p:Program)(gs:Array Goroutine)(rest:Rest)(w:World):sLe w (look p gs rest w):=by
 unfold look;split
 ·extract_lets
  refine KB trivial ?_;split
  ·trivial
  ·extract_lets
   split
   ·rename_i h;have h:=mJ h;exact h
   ·trivial
   ·trivial
 ·trivial
theorem Fu {rest:Rest}{cases:Array CommCase}{w w':World}(h:waitingAt rest cases w=some w'):w.drawn<=w'.drawn:=by
 unfold waitingAt at h;split at h
 ·split at h
  ·cases h;exact Nat.le_refl _
  ·cases h
 ·cases h;exact Nat.le_refl _
theorem CN (p:Program)(rest:Rest)(gs:Array Goroutine)(i:Nat)(g:Goroutine)(cases:Array CommCase)(bl:Bool)(shape:CommShape)(w:World):sLe w (communicate p rest gs i g cases bl shape w).1:=by
 unfold communicate
 extract_lets put illMade me other
 have hput:∀ g gs w0 ops,w.drawn<=w0.drawn->sLe w (put g gs w0 ops).1:=fun _ _ _ _ h=>h;split
 ·trivial
 ·split
  ·split
   ·split
    ·rename_i h;exact Fu h
    ·trivial
   ·exact hput _ _ _ _ (Nat.le_refl _)
  ·split
   ·trivial
   ·rename_i h;have hw:=mJ h;clear h
    extract_lets r
    split
    ·split
     ·rename_i h2;exact hput _ _ _ _ (Nat.le_trans hw (On h2))
     ·trivial
    ·exact hput _ _ _ _ hw
    ·exact hput _ _ _ _ hw
    ·extract_lets
     split
     ·exact hput _ _ _ _ hw
     ·split
      ·rename_i h2;have h3:=mJ h2;exact hput _ _ _ _ (Nat.le_trans hw h3)
      ·trivial
    ·exact hput _ _ _ _ hw
    ·exact hput _ _ _ _ hw
    ·trivial
theorem Eg (m:Machine)(k:Nat)(t:Timer)(a b:Nat):m.world.drawn<=(retime m k t a b).2.world.drawn:=by
 unfold retime drain;dsimp only
 repeat' split
 all_goals first|exact Nat.le_refl _|skip
 all_goals (simp_all;try omega)
theorem I7 {m m':Machine}{op:TimerOp}{v:Value}(h:timerOp m op=.ok (v,m')):m.world.drawn<=m'.world.drawn:=by
 have named:∀ (D:Nat) (m0:Machine) var f,(∀ k t,D<=(f k t).2.world.drawn)->timerOp.named m0 var f=.ok (v,m')->D<=m'.world.drawn:=fun D m0 var f hf h=>by
  unfold timerOp.named at h;split at h
  ·injection h with h;exact Nat.le_trans (hf _ _) (Nat.le_of_eq (congrArg (fun x:Value×Machine=>x.2.world.drawn) h))
  ·cases h
 unfold timerOp at h;split at h
 ·split at h
  ·cases h;exact Nat.le_refl _
  ·split at h
   ·split at h
    ·cases h
    ·cases h;exact Nat.le_refl _
   ·cases h
 ·exact named _ _ _ _ (fun k t=>Eg _ _ _ _ _) h
 ·split at h
  ·rename_i m1 ho;have h1:m.world.drawn<=m1.world.drawn:=by
    unfold timerOp.opened at ho;split at ho
    ·split at ho
     ·cases ho;exact Nat.le_refl _
     ·cases ho
    ·cases ho;exact Nat.le_refl _
   exact Nat.le_trans h1 (named m1.world.drawn _ _ _ (fun k t=>Eg _ _ _ _ _) h)
  ·cases h
 ·cases h;exact Nat.le_refl _
theorem Ot (p:Program)(m:Machine)(i:Nat)(listen:Bool):sLe m.world (Go.runT p m i listen).1:=by
 unfold Go.runT
 extract_lets rest world
 split
 extract_lets wake fn pos s ops done
 have hs:gLe m.world s:=Oq _ _ _ _ _;have hd:∀ r,(done r).1=r:=fun r=>rfl
 clear_value s done
 split
 all_goals try rw[hd]
 ·trivial
 ·split
  rename_i h;have:=CN p rest ‹_› i ‹_› ‹_› ‹_› ‹_› ‹_›;rw[h]at this;exact sLe.trans hs this
 ·exact hs
 ·exact hs
 ·exact KB trivial hs
 ·exact hs
 ·exact sLe.trans hs (KC _ _ _ _)
 ·exact hs
 ·exact hs
 ·split
  ·exact hs
  ·split
   ·rename_i h;simp only[endThrow,dieOf]at h;cases h;exact hs
   ·trivial
  ·trivial
 ·split
  ·rename_i h;exact Nat.le_trans hs (I7 h)
  ·exact hs
  ·trivial
  ·trivial
theorem Ou (p:Program)(m:Machine)(k:Nat):sLe m.world (serve p m k):=by
 unfold serve;split
 ·trivial
 ·exact Nat.le_refl _
 ·extract_lets
  split
  ·trivial
  ·exact Nat.le_refl _
def mLe (w:World):Move->Prop
 | .goroutine m _=>w.drawn<=m.world.drawn
 | .machine s _=>sLe w s
theorem mLe.trans {w w':World}{s:Move}(h1:w.drawn<=w'.drawn)(h:mLe w' s):mLe w s:=by
 cases s
 ·exact Nat.le_trans h1 h
 ·exact sLe.trans h1 h
theorem CO (p:Program)(m:Machine):mLe m.world (askOn p m):=by
 unfold askOn
 extract_lets mono rs ds pick
 have hpick:∀ m0:Machine,m.world.drawn<=m0.world.drawn->mLe m.world (pick m0):=fun m0 h0=>by
  show mLe m.world (match (choose (.sched rs.length)).run p m0.world with| .halt _ w=>_| .ok k world=>_);split
  ·trivial
  ·rename_i h;have h1:=mJ h;split
   ·exact Nat.le_trans h0 h1
   ·split
    ·trivial
    ·rename_i h2;have h2:=mJ h2;exact Nat.le_trans h0 (Nat.le_trans h1 h2)
 clear_value pick rs ds
 split
 ·trivial
 ·rename_i h;have hw:=mJ h;clear h
  extract_lets m1
  split
  ·exact sLe.trans hw (Ou p _ _)
  ·cases rs with
   |nil=>
    dsimp only;split
    ·exact hw
    ·split
     ·exact hw
     ·split <;>trivial
   |cons r rs=>
    dsimp only;split
    ·exact hpick _ hw
    ·split
     ·trivial
     ·rename_i h;have h2:=mJ h;exact hpick _ (Nat.le_trans hw h2)
     ·rename_i h;have h2:=mJ h;exact Nat.le_trans hw h2
     ·rename_i h;have h2:=mJ h;exact hpick _ (Nat.le_trans hw h2)
theorem Hh (p:Program)(m:Machine):mLe m.world (ask p m):=by
 unfold ask;split
 ·split
  ·trivial
  ·rename_i h;have hw:=mJ h;have:=KC p m.gs m.rest ‹World›;split
   ·rename_i m2 h2;rw[h2]at this;exact mLe.trans (Nat.le_trans hw this) (CO p _)
   ·rename_i e h2;exact sLe.trans hw this
  ·rename_i h;have hw:=mJ h;exact mLe.trans hw (CO p _)
 ·exact CO p m
theorem Rw (p:Program)(m:Machine):mLe m.world (move p m):=by
 unfold move;split
 ·split
  ·exact Nat.le_refl _
  ·trivial
 ·split
  ·split
   ·exact Nat.le_refl _
   ·exact Hh p _
  ·exact Hh p m
theorem Rx (p:Program)(m:Machine):sLe m.world (step p m):=by
 unfold step stepT;have:=Rw p m;split
 ·rename_i h;rw[h]at this;exact sLe.trans this (Ot p _ _ _)
 ·rename_i h;rw[h]at this;exact this
theorem Hi {p:Program}{m m':Machine}(h:Steps p m m'):m.world.drawn<=m'.world.drawn:=by
 obtain⟨n,hn⟩:=h;induction n generalizing m with
 |zero=>simp only[runN,Stepped.next.injEq]at hn;subst hn;exact Nat.le_refl _
 |succ n ih=>
  simp only[runN]at hn;have:=Rx p m;cases hs:step p m with
  |next m1=>
   rw[hs]at hn this;exact Nat.le_trans this (ih hn)
  |ended o w=>rw[hs]at hn;cases hn
theorem Hj {P:Program}{f:FuncId}{args:Array Value}{w:World}{R:Ending->World->Prop}(h:Calls P f args w R):Calls P f args w fun e w'=>R e w'/\(e≠ .outgrown->w.drawn<=w'.drawn):=by
 intro cs;obtain⟨e,w',fr,hr,hc,hf,hl⟩:=h cs;refine⟨e,w',fr,⟨hr,fun hne=>?_⟩,hc,hf,hl⟩;cases e with
 |returned v=>exact Hi (p:=P) hc
 |panicked c=>exact Hi (p:=P) hc
 |outgrown=>exact absurd rfl hne
end Go.Sx
end
section
namespace Go.Sx
open Go.Lib Go.Proofs Go.RowKit Go.Shelf Go.Sort
def Zp:SV->Value
 | .v x=>x
 |_=>undef
def sD (k:Tag)(x:k.T):List Value:=(cellsOf k x).map Zp
def Fx (k:Tag):Prop:= ∀ (x:k.T) (s:SV),s∈cellsOf k x->∃ v,s=.v v/\v.oneCell'=true
def srt {α:Type}(cf:α->α->Int)(l:List α):List α:=l.mergeSort fun x y=>!(ltOf cf y x)
def apart {α:Type}(cf:α->α->Int)(l:List α):Prop:= ∀ x∈l,∀ y∈l,ltOf cf x y=false->ltOf cf y x=false->x=y
theorem I8 {α:Type}[Inhabited α]{cf:α->α->Int}(hO:SWO (ltOf cf)){l:List α}(h:apart cf l){d':Array α}(hp:PermIn 0 l.toArray.size l.toArray d')(hs:SortedIn (ltOf cf) 0 l.toArray.size d'):d'=(srt cf l).toArray:=by
 obtain⟨hsz,_,hperm⟩:=hp;have e1:d'.extract 0 l.toArray.size=d':=by rw[<-hsz];exact Array.extract_size
 rw[e1,Array.extract_size]at hperm;have hperm:d'.toList.Perm l:=by simpa using hperm
 have:d'.toList=srt cf l:=by
  refine List.Perm.eq_of_pairwise (le:=fun x y=>(!ltOf cf y x)=true) ?_ ?_ ?_ (hperm.trans (List.mergeSort_perm _ _).symm)
  ·intro a b ha hb h1 h2;simp only[Bool.not_eq_true']at h1 h2;exact h a (hperm.subset ha) b ((List.mergeSort_perm _ _).subset hb) h2 h1
  ·rw[List.pairwise_iff_getElem];intro i j hi hj hij;have:=hs i j (Nat.zero_le _) hij (by simp only[List.size_toArray]at hsz |-;simp only[Array.length_toList]at hj;omega);simp only[Array.length_toList]at hi hj;rw[getElem!_pos d' i hi,getElem!_pos d' j hj]at this;simpa using this
  ·refine List.pairwise_mergeSort (fun a b c h1 h2=>?_) (fun a b=>?_) l
   ·simp only[Bool.not_eq_true']at h1 h2 |-;exact hO.ntrans c b a h2 h1
   ·simp only[Bool.or_eq_true,Bool.not_eq_true'];cases h1:ltOf cf b a with
    |false=>exact .inl rfl
    |true=>
     right;cases h2:ltOf cf a b with
     |false=>rfl
     |true=>
      have h3:=hO.trans a b a h2 h1;rw[hO.irrefl]at h3;cases h3
 rw[<-this]
section
variable {P:Program}{ρ:Ren}{F:Nat->Prop}{own:Own}{w:World}{k:Tag}
theorem L7 (hk:Fx k){l:List k.T}{o:Nat}{cs:Array Value}(h:RowAt F own w k l o cs){i j:Nat}(hi:i<l.length)(hj:j<ae k):cs[o+i*ae k+j]? =(sD k l[i])[j]?:=by
 have e1:=List.getElem?_eq_getElem hi;have hlen:j< (cellsOf k l[i]).length:=by rw[bf];exact hj
 have e2:=List.getElem?_eq_getElem hlen;obtain⟨u,h1,h2⟩:=h i _ e1 j _ e2;obtain⟨v,h3,_⟩:=hk l[i] _ (List.getElem_mem hlen);rw[h1];unfold sD;rw[List.getElem?_map,e2];rw[h3]at h2 |-;rw[bF h2];rfl
theorem L8 (hk:Fx k){l:List k.T}{o:Nat}{cs:Array Value}(h:∀ i j,(hi:i<l.length)->j<ae k->cs[o+i*ae k+j]? =(sD k l[i])[j]?):RowAt F own w k l o cs:=by
 intro i x hi j s hj;obtain⟨hl,rfl⟩:=List.getElem?_eq_some_iff.1 hi;have hlen:=(List.getElem?_eq_some_iff.1 hj).1;rw[bf]at hlen;have:=h i j hl hlen;unfold sD at this;rw[List.getElem?_map,hj]at this;obtain⟨v,h3,_⟩:=hk _ s (List.mem_of_getElem? hj);subst h3;exact⟨v,this,.v v⟩
theorem Ry {w w':World}(hb:Go.RowKit.Below w.heap.size w w')(hd:w.drawn<=w'.drawn):∃ q os,w'=grow (w.drewN q) os:=by
 refine⟨w'.drawn - w.drawn,w'.heap.extract w.heap.size w'.heap.size,?_⟩;obtain⟨h1,h2,h3,h4,h5⟩:=hb;obtain⟨heap,tape,drawn,os,output⟩:=w;obtain⟨heap',tape',drawn',os',output'⟩:=w';simp only at h1 h2 h3 h4 h5 hd;subst h1;subst h2;subst h3;unfold grow World.drewN;simp only[World.mk.injEq,true_and,and_true];refine⟨?_,by omega⟩;apply Array.ext
 ·simp;omega
 ·intro i hi1 hi2;by_cases hi:i<heap.size
  ·rw[Array.getElem_append_left hi];have:=h5 i hi;rw[Array.getElem?_eq_getElem hi1,Array.getElem?_eq_getElem hi]at this;exact Option.some.inj this
  ·rw[Array.getElem_append_right (by omega)];simp only[Array.getElem_extract];congr 1;omega
end
section
variable {P:Program}{ρ:Ren}{k:Tag}
theorem Ov {w:World}{b:Nat}{cs:Array Value}{ty:TypeId}(hb:w.heap[b]? =some (.cells cs ty (0,0)))(D:Array Value)(o:Nat):(putRow id w b o D).heap[b]? =some (.cells (putCells id o D cs) ty (0,0)):=by
 unfold putRow mapBlock;simp only[Array.getElem?_modify,if_true,hb];rfl
theorem Hk {w:World}{b c:Nat}(hc:c≠b)(D:Array Value)(o:Nat):(putRow id w b o D).heap[c]? =w.heap[c]?:=by
 unfold putRow mapBlock;simp only[Array.getElem?_modify];rw[if_neg (fun e=>hc e.symm)]
theorem Fy {D cs:Array Value}{o t:Nat}(ht:t<D.size)(hs:o+t<cs.size):(putCells id o D cs)[o+t]? =D[t]?:=by
 unfold putCells;rw[Array.getElem?_mapIdx,Array.getElem?_eq_getElem hs];simp only[Option.map_some];rw[if_pos (by omega),Array.getElem?_eq_getElem ht];have:o+t - o=t:=by omega
 rw[this,getElem!_pos D t ht];rfl
theorem Hl {α:Type}[Inhabited α]{enc:α->List Value}{n:Nat}(hn:∀ x,(enc x).length=n){d:Array α}{i j:Nat}(hi:i<d.size)(hj:j<n):(flatK enc n d)[i*n+j]? =(enc d[i]!)[j]?:=by
 have hlt:i*n+j<d.size*n:=by
  have:=Nat.mul_le_mul_right n (show i+1<=d.size from hi);rw[Nat.succ_mul]at this;omega
 have h1:i*n+j< (flatK enc n d).size:=by rw[size_flatK];exact hlt
 rw[Array.getElem?_eq_getElem h1,<-getElem!_pos (flatK enc n d) _ h1,get_flatK enc n d _ hlt];have hd:(i*n+j) / n=i:=by
  rw[Nat.mul_comm,Nat.mul_add_div (by omega),Nat.div_eq_of_lt hj];omega
 have hm:(i*n+j) % n=j:=by
  rw[Nat.mul_comm,Nat.mul_add_mod,Nat.mod_eq_of_lt hj]
 rw[hd,hm];have hj':j< (enc d[i]!).length:=by rw[hn];exact hj
 rw[List.getElem?_eq_getElem hj',getElem!_pos (enc d[i]!) j hj']
theorem sw_b {α:Type}[Inhabited α]{enc:α->List Value}{n b o m:Nat}{w:World}{cs:Array Value}{ty:TypeId}(hb:w.heap[b]? =some (.cells cs ty (0,0)))(d:Array α)(os:Array Obj):(sortWorldK enc n w b o m d os).heap[b]? =some (.cells (putCells id o (flatK enc n d) cs) ty (0,0)):=by
 have hlt:b<w.heap.size:=(Array.getElem?_eq_some_iff.1 hb).1;unfold sortWorldK grow;simp only;rw[Array.getElem?_append_left (by unfold putRowK putRow mapBlock Sort.ahead;simpa using hlt)];exact Ov (w:=Sort.ahead w m) hb _ _
theorem SN {α:Type}[Inhabited α]{enc:α->List Value}{n b o m c:Nat}{w:World}(hc:c<w.heap.size)(hne:c≠b)(d:Array α)(os:Array Obj):(sortWorldK enc n w b o m d os).heap[c]? =w.heap[c]?:=by
 unfold sortWorldK grow;simp only;rw[Array.getElem?_append_left (by unfold putRowK putRow mapBlock Sort.ahead;simpa using hc)];exact Hk (w:=Sort.ahead w m) hne _ _
theorem Fz {α:Type}[Inhabited α]{enc:α->List Value}{n b o m:Nat}{w:World}(d:Array α)(os:Array Obj):w.heap.size<=(sortWorldK enc n w b o m d os).heap.size:=by
 unfold sortWorldK grow putRowK putRow mapBlock Sort.ahead;simp
end
open Classical in
noncomputable def Eh (k:Tag)(g:FuncId)(caps:List SV)(cf:k.T->k.T->Int):List SV->List Ob->Option HCon:=fun l h=>
 Rl k (fun l0=>match l with
  | [s0,.v (.int .i64 z),.v (.int .i64 n),.v (.int .i64 lim),f] =>if s0=.os 0/\f=.fn g [] caps then some (je (z=0/\n=(l0.length:Int)/\0<=lim/\lim<4611686018427387904/\apart cf l0) (.tup []) [.row k (srt cf l0)])else none
  |_=>none) h
@[go_sem] theorem Ow {k:Tag}{g:FuncId}{caps:List SV}{cf:k.T->k.T->Int}{l0:List k.T}{z n lim:Int}:Eh k g caps cf [.os 0,.v (.int .i64 z),.v (.int .i64 n),.v (.int .i64 lim),.fn g [] caps] [.row k l0]=some (je (z=0/\n=(l0.length:Int)/\0<=lim/\lim<4611686018427387904/\apart cf l0) (.tup []) [.row k (srt cf l0)]):=by
 simp[Eh,Rl]
theorem Rz {k:Tag}{g:FuncId}{caps:List SV}{cf:k.T->k.T->Int}{l:List SV}{h:List Ob}{c:HCon}(e:Eh k g caps cf l h=some c):∃ (z n lim:Int) (l0:List k.T),l=[.os 0,.v (.int .i64 z),.v (.int .i64 n),.v (.int .i64 lim),.fn g [] caps]/\h=[.row k l0]/\c=je (z=0/\n=(l0.length:Int)/\0<=lim/\lim<4611686018427387904/\apart cf l0) (.tup []) [.row k (srt cf l0)]:=by
 unfold Eh at e;obtain⟨l0,hh,hK⟩:=Oh e;split at hK
 ·rename_i s0 z n lim f;split at hK
  ·rename_i hq;obtain⟨rfl,rfl⟩:=hq;exact⟨z,n,lim,l0,rfl,hh,(Option.some.inj hK).symm⟩
  ·cases hK
 ·cases hK
section
variable {P:Program}{ρ:Ren}{k:Tag}
theorem L9 {α:Type}[Inhabited α](L:SlLaysF0.n14 P ρ)(k:Nat)(aE:∀ w,(isAgg (ρ.t 24)).run P w=.ok true w)(zE:∀ w,(Go.sizeOf (ρ.t 24)).run P w=.ok k w)(enc:α->List Value)(hk:∀ x,(enc x).length=k)(h1:∀ x,∀ v∈enc x,v.oneCell'=true)(cf:α->α->Int)(hO:SWO (ltOf cf))(g:Nat)(cb:Array Value)(blk off cap:Nat)(d:Array α)(w:World)
  (eg:∀ args w,(callFunc g args).run P w=.ok (.enter g args) w) (hcmp:CmpLays P g cb enc k cf blk off d.size w) (hH:HoldsK enc k w blk off d) (hblk:blk<w.heap.size) (hsz:d.size<4611686018427387904) {lim:Nat} (hlim:lim<4611686018427387904):
  Calls P (ρ.f 14) #[.slice (some ⟨blk,off,none⟩) d.size cap,.int .i64 0,.int .i64 (d.size:Int),.int .i64 (lim:Int),.func (.func g) #[] cb] w fun e w'=>
   e=.returned (.tuple #[])/\∃ d' n os,PermIn 0 d.size d d'/\SortedIn (ltOf cf) 0 d.size d'/\w'=sortWorldK enc k w blk off n d' os:=by
 have hp:=AnyQ.pdqsortCmpFunc_all (P:=P) (ρ:=ρ) L k aE zE enc cf g cb hO blk off cap d w eg hcmp ⟨hk,h1,hH,hblk⟩ (d.size+1) 0 d.size lim d w (by omega) rfl (SWK.start hH) (Nat.zero_le _) (Nat.le_refl _) hsz hlim (Or.inl rfl);refine hp.mono fun e w' he=>?_;obtain⟨rfl,n,os,rfl⟩:=he;have h:=pdq_sorts (ltOf cf) hO d 0 d.size lim true true (Nat.zero_le _) (Nat.le_refl _) (Or.inl rfl);exact⟨rfl,_,n,os,h.1,h.2,rfl⟩
theorem US (L:SlLaysF0.n14 P ρ)(aE:∀ w,(isAgg (ρ.t 24)).run P w=.ok true w)(zE:∀ w,(Go.sizeOf (ρ.t 24)).run P w=.ok (ae k) w)(hk:Fx k)(h0:0<ae k){g:FuncId}{caps:List SV}{C:List SV->Option Con}(hC:FnOk P g C){cf:k.T->k.T->Int}
  (hcf:∀ x y,C (.agg (cellsOf k x):: .agg (cellsOf k y)::caps)=some (.det True (.v (.int .i64 (cf x y))))) (hO:SWO (ltOf cf)) (hpf:∀ s∈caps,PF s) (hcf0:∃ x y,C (.agg (cellsOf k x):: .agg (cellsOf k y)::caps)=some (.det True (.v (.int .i64 (cf x y))))):FnOkO P (ρ.f 14) (Eh k g caps cf):=by
 haveI:Inhabited k.T:=⟨fS k⟩
 refine⟨fun l h c hc args w=>L.f14.enters rfl args w,fun l h c hc hp F own w vs hHp hvs=>?_⟩;obtain⟨z,n,lim,l0,rfl,hh,hK⟩:=Rz hc;clear hc;subst hh;subst hK;obtain⟨rfl,rfl,hl0,hl1,hp⟩:=hp;obtain⟨hsz,hrel⟩:=hvs;have r0:=hrel 0 _ rfl;have r1:=hrel 4 _ rfl;have q1:=bF (hrel 1 _ rfl);have q2:=bF (hrel 2 _ rfl);have q3:=bF (hrel 3 _ rfl);have hvs2:vs= #[vs.getD 0 undef,.int .i64 0,.int .i64 (l0.length:Int),.int .i64 lim,vs.getD 4 undef]:=by
  apply Array.ext
  ·simpa using hsz
  ·intro i h1 h2;simp only[List.length_cons,List.length_nil]at hsz;match i,h1,h2 with
   |0,h1,_=>simp[Array.getD,h1]
   |1,h1,_=>rw[<-q1];simp[Array.getD,h1]
   |2,h1,_=>rw[<-q2];simp[Array.getD,h1]
   |3,h1,_=>rw[<-q3];simp[Array.getD,h1]
   |4,h1,_=>simp[Array.getD,h1]
   |i+5,h1,_=>omega
 clear q1 q2 q3;generalize vs.getD 0 undef=v0 at r0 hvs2;generalize vs.getD 4 undef=v1 at r1 hvs2;subst hvs2;obtain⟨hd,o0,rfl,_⟩:=iq r0;obtain⟨hd',o0',hrow⟩:=hHp.at (id:=0) (o:=.row k l0) rfl rfl;rw[o0]at o0';cases o0';have hrow:RowRel F own w k l0 hd.v hd.bs:=hrow;cases r1 with
 | @fn _ _ _ us cs s1 s2 c1 c2=>
 have hus:us= #[]:=Array.eq_empty_of_size_eq_zero (by simpa using s1);subst hus;rcases hrow with⟨a,e1,rfl,e2⟩ | ⟨b,o,cap,cells,ty,e1,e2,e3,e4,e5,e6,e7⟩
 ·rw[e1];refine(AnyF.pdqsortCmpFunc_none L a 0 lim _ w).mono fun e w' he=>?_;obtain⟨rfl,rfl⟩:=he;refine⟨(),own,trivial,⟨_,rfl,.tup rfl fun j s hj=>by simp at hj⟩,?_,Fr.refl _,Nat.le_refl _⟩;have:srt cf ([]:List k.T)=[]:=by simp[srt]
  rw[this];exact hHp
 ·have hbown:b∈hd.bs:=by rw[e2];simp
  have hbw:b<w.heap.size:=hHp.lt 0 hd b o0 hbown;have hkl:∀ x:k.T,(sD k x).length=ae k:=fun x=>by unfold sD;rw[List.length_map,bf]
  have hone:∀ x:k.T,∀ v∈sD k x,v.oneCell'=true:=fun x v hv=>by
   unfold sD at hv;rw[List.mem_map]at hv;obtain⟨s,hs,rfl⟩:=hv;obtain⟨v,rfl,h1⟩:=hk x s hs;exact h1
  have eg:∀ args w,(callFunc g args).run P w=.ok (.enter g args) w:=fun args w=>by
   obtain⟨x,y,hxy⟩:=hcf0;exact hC.enter _ _ hxy args w
  have hown:∀ id h2,own id=some h2->id=0:=fun id h2 e=>by have:=hHp.dom id h2 e;simpa using this
  have hH:HoldsK (sD k) (ae k) w b o l0.toArray:=by
   intro t ht;rw[size_flatK]at ht;simp only[List.size_toArray]at ht;have hi:t / ae k<l0.length:=Nat.div_lt_of_lt_mul (by rw[Nat.mul_comm];exact ht);have hj:=Nat.mod_lt t h0;have ht':t=t / ae k*ae k+t % ae k:=(Nat.div_add_mod' t _).symm;have q1:=L7 hk e7 hi hj;have q2:=Hl (enc:=sD k) hkl (d:=l0.toArray) (i:=t / ae k) (j:=t % ae k) (by simpa using hi) hj;rw[<-ht']at q2;rw[Nat.add_assoc,<-ht']at q1;have hl0:l0.toArray[t / ae k]! =l0[t / ae k]:=by rw[getElem!_pos l0.toArray _ (by simpa using hi)];rfl
   rw[hl0]at q2;have hlt:t< (flatK (sD k) (ae k) l0.toArray).size:=by rw[size_flatK];simpa using ht
   constructor
   ·unfold World.cell?;rw[e3];dsimp only;rw[q1,<-q2,Array.getElem?_eq_getElem hlt,getElem!_pos _ t hlt];rfl
   ·unfold World.frozen?;rw[e3];simp
  have hcmp:CmpLays P g cs (sD k) (ae k) cf b o l0.toArray.size w:=by
   intro m os dk hdk x y;generalize hW:sortWorldK (sD k) (ae k) w b o m dk os=W;have hcar:Carries F own w F own W:=⟨fun _ h2 e=>⟨h2,e,.refl _⟩,fun c hc hn=>⟨hn,by
    rw[<-hW];exact SN hc (fun e=>hn (.inr ⟨0,hd,o0,e▸hbown⟩)) _ _⟩⟩
   have henc:∀ z:k.T,Rel (fun _=>False) ct W (.agg (cellsOf k z)) (.agg (sD k z).toArray):=fun z=>by
    refine .agg (by simp[sD]) fun j s hj=>?_;obtain⟨v,rfl,_⟩:=hk z s (List.mem_of_getElem? hj);have:(sD k z).toArray.getD j undef=v:=by
     unfold sD;rw[Array.getD_eq_getD_getElem?,List.getElem?_toArray,List.getElem?_map,hj];rfl
    rw[this];exact .v v
   have hcall:=Hj (hC.calls _ _ (hcf x y) trivial (fun _=>False) W (#[.agg (sD k x).toArray,.agg (sD k y).toArray]++cs) (fun _ h=>h.elim) ⟨by simp[c1];omega,fun j s hj=>by
    match j,hj with
    |0,hj=>
     cases hj;rw[Array.getD_eq_getD_getElem?,Array.getElem?_append_left (by simp)];exact henc x
    |1,hj=>
     cases hj;rw[Array.getD_eq_getD_getElem?,Array.getElem?_append_left (by simp)];exact henc y
    |j+2,hj=>
     have hj:caps[j]? =some s:=hj;have:=((c2 j s hj).carry hcar).over (hpf s (List.mem_of_getElem? hj)) (F':=fun _=>False) (own':=ct) fun _ _ h=>by
      rcases h with h| ⟨_,_,h,_⟩
      ·exact h
      ·cases h
     have e:(#[Value.agg (sD k x).toArray,.agg (sD k y).toArray]++cs).getD (j+2) undef=cs.getD j undef:=by
      rw[Array.getD_eq_getD_getElem?,Array.getD_eq_getD_getElem?,Array.getElem?_append_right (by simp)];simp
     rw[e];exact this⟩)
   refine hcall.mono fun e w' hq=>?_;obtain⟨he,hdr⟩:=hq;rcases he with⟨s,u,own',hs,rfl,hh,hb⟩ | ⟨z,hz,_⟩
   ·simp only[di]at hs;subst hs;have:=hh.val;simp only[wF]at this;rw[bF this];exact⟨rfl,Ry hb (hdr (by simp))⟩
   ·exact hz.elim
  have hall:=L9 L (ae k) aE zE (sD k) hkl hone cf hO g cs b o cap l0.toArray w eg hcmp hH hbw (by unfold aA at e6;simp only[List.size_toArray];omega) (lim:=lim.toNat) (by omega);rw[Int.toNat_of_nonneg hl0]at hall;rw[e1];refine hall.mono fun e w' he=>?_;obtain⟨rfl,d',n,os,hpm,hst,rfl⟩:=he;have hd':=I8 hO hp hpm hst;subst hd';have hlS:(srt cf l0).length=l0.length:=List.length_mergeSort _;generalize srt cf l0=lS at hlS;have hsb:=sw_b (enc:=sD k) (n:=ae k) (o:=o) (m:=n) e3 lS.toArray os;refine⟨(),own,trivial,⟨_,rfl,.tup rfl fun j s hj=>by simp at hj⟩,?_,?_,Nat.le_refl _⟩
  ·refine⟨hHp.dom,fun c hc=>Nat.lt_of_lt_of_le (hHp.foreign c hc) (Fz _ _),hHp.apart,hHp.inj,fun i h2 c e hc=>Nat.lt_of_lt_of_le (hHp.lt i h2 c e hc) (Fz _ _),fun i hi=>?_⟩;match i,hi with
   |0,_=>
    refine⟨hd,o0,?_⟩;show RowRel F own _ k lS hd.v hd.bs;refine .inr ⟨b,o,cap,_,ty,by rw[hlS];exact e1,e2,hsb,?_,by omega,by omega,L8 hk fun i j hi hj=>?_⟩
    ·unfold putCells;simpa using e4
    ·have hlt:i*ae k+j< (flatK (sD k) (ae k) lS.toArray).size:=by
      rw[size_flatK];have:=Nat.mul_le_mul_right (ae k) (show i+1<=lS.length from hi);rw[Nat.succ_mul]at this;simp only[List.size_toArray];omega
     have hle:o+(i*ae k+j) <cells.size:=by
      rw[size_flatK]at hlt;simp only[List.size_toArray]at hlt;have:=Nat.mul_le_mul_right (ae k) (show lS.length<=cap by omega);omega
     rw[Nat.add_assoc,Fy hlt hle,Hl hkl (by simpa using hi) hj];have:lS.toArray[i]! =lS[i]:=by rw[getElem!_pos lS.toArray _ (by simpa using hi)];rfl
     rw[this]
   |i+1,hi=>rw[pe (by simp)]at hi;cases hi
  ·refine⟨fun _ h2 e=>⟨h2,e,.refl _⟩,(Fr.refl { w:=w,own:=own}).base,rfl,rfl,rfl,Fz _ _,fun c hc=>?_⟩;exact SN hc.1 (fun e=>hc.2 ⟨0,hd,o0,e▸hbown⟩) _ _
end
end Go.Sx
end
section
namespace Go.Proofs
open Go.Shelf
def Tryz.sortLk_ren:Go.Shelf.Ren:=⟨fun|15=>144|14=>143|28=>199|29=>200|20=>191|21=>192|22=>193|23=>194|24=>195|25=>196|26=>197|27=>198|46=>224|47=>225|48=>226|49=>227|50=>228|57=>252|n=>n,fun|22=>32|24=>68|25=>119|3=>3|39=>211|0=>0|53=>262|55=>120|4=>4|46=>256|45=>255|50=>133|5=>5|9=>9|66=>277|70=>281|76=>296|77=>297|n=>n,fun|n=>n⟩
theorem Tryz.sortLk:Go.Proofs.SlLaysF0.n14 Tryz.prog Tryz.sortLk_ren:= {
 mixed:=by kernel_rfl
 f14:=⟨Tryz.f143.name,by decide,Tryz.func143.trans (congrArg some (by kernel_rfl))⟩
 f15:=Tryz.func144.trans (congrArg some (by kernel_rfl))
 f20:=⟨Tryz.f191.name,by decide,Tryz.func191.trans (congrArg some (by kernel_rfl))⟩
 f21:=⟨Tryz.f192.name,by decide,Tryz.func192.trans (congrArg some (by kernel_rfl))⟩
 f22:=⟨Tryz.f193.name,by decide,Tryz.func193.trans (congrArg some (by kernel_rfl))⟩
 f23:=⟨Tryz.f194.name,by decide,Tryz.func194.trans (congrArg some (by kernel_rfl))⟩
 f24:=⟨Tryz.f195.name,by decide,Tryz.func195.trans (congrArg some (by kernel_rfl))⟩
 f25:=⟨Tryz.f196.name,by decide,Tryz.func196.trans (congrArg some (by kernel_rfl))⟩
 f26:=⟨Tryz.f197.name,by decide,Tryz.func197.trans (congrArg some (by kernel_rfl))⟩
 f27:=⟨Tryz.f198.name,by decide,Tryz.func198.trans (congrArg some (by kernel_rfl))⟩
 f28:=Tryz.func199.trans (congrArg some (by kernel_rfl))
 f29:=Tryz.func200.trans (congrArg some (by kernel_rfl))
 f46:=⟨Tryz.f224.name,by decide,Tryz.func224.trans (congrArg some (by kernel_rfl))⟩
 f47:=Tryz.func225.trans (congrArg some (by kernel_rfl))
 f48:=Tryz.func226.trans (congrArg some (by kernel_rfl))
 f49:=⟨Tryz.f227.name,by decide,Tryz.func227.trans (congrArg some (by kernel_rfl))⟩
 f50:=⟨Tryz.f228.name,by decide,Tryz.func228.trans (congrArg some (by kernel_rfl))⟩
 f57:=⟨Tryz.f252.name,by decide,Tryz.func252.trans (congrArg some (by kernel_rfl))⟩
 t0:=Tryz.underlying0
 a0:=Tryz.isAgg0
 z0:=Tryz.sizeOf0
 v0:=Tryz.zeroValue0
 t3:=Tryz.underlying3
 a3:=Tryz.isAgg3
 z3:=Tryz.sizeOf3
 v3:=Tryz.zeroValue3
 t4:=Tryz.underlying4
 a4:=Tryz.isAgg4
 z4:=Tryz.sizeOf4
 v4:=Tryz.zeroValue4
 t5:=Tryz.underlying5
 a5:=Tryz.isAgg5
 z5:=Tryz.sizeOf5
 v5:=Tryz.zeroValue5
 t9:=Tryz.underlying9
 a9:=Tryz.isAgg9
 z9:=Tryz.sizeOf9
 v9:=Tryz.zeroValue9
 t22:=Tryz.underlying32
 a22:=Tryz.isAgg32
 z22:=Tryz.sizeOf32
 v22:=Tryz.zeroValue32
 t25:=Tryz.underlying119
 a25:=Tryz.isAgg119
 z25:=Tryz.sizeOf119
 v25:=Tryz.zeroValue119
 t39:=Tryz.underlying211
 a39:=Tryz.isAgg211
 z39:=Tryz.sizeOf211
 v39:=Tryz.zeroValue211
 t45:=Tryz.underlying255
 a45:=Tryz.isAgg255
 z45:=Tryz.sizeOf255
 v45:=Tryz.zeroValue255
 t46:=Tryz.underlying256
 a46:=Tryz.isAgg256
 z46:=Tryz.sizeOf256
 v46:=Tryz.zeroValue256
 t50:=Tryz.underlying133
 a50:=Tryz.isAgg133
 z50:=Tryz.sizeOf133
 v50:=Tryz.zeroValue133
 t53:=Tryz.underlying262
 a53:=Tryz.isAgg262
 z53:=Tryz.sizeOf262
 v53:=Tryz.zeroValue262
 t55:=Tryz.underlying120
 a55:=Tryz.isAgg120
 z55:=Tryz.sizeOf120
 v55:=Tryz.zeroValue120
 t66:=Tryz.underlying277
 a66:=Tryz.isAgg277
 z66:=Tryz.sizeOf277
 v66:=Tryz.zeroValue277
 t70:=Tryz.underlying281
 a70:=Tryz.isAgg281
 z70:=Tryz.sizeOf281
 v70:=Tryz.zeroValue281
 t76:=Tryz.underlying296
 a76:=Tryz.isAgg296
 z76:=Tryz.sizeOf296
 v76:=Tryz.zeroValue296
 t77:=Tryz.underlying297
 a77:=Tryz.isAgg297
 z77:=Tryz.sizeOf297
 v77:=Tryz.zeroValue297}
end Go.Proofs
end
