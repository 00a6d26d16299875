/- Part of the proof that the law JudgementServed returns true and leaves its arguments as they were, for all arguments of bulk at most 1048576 (the Upto form). -/
import Derived.Test.YtnanafpgfihjfaaGreatJ708
import Derived.Test.YtnanafpgfihjfaaGreatJ707
import Derived.Test.YtnanafpgfihjfaaGreatJ706
import Derived.Calls
import Derived.Shelf.SlSortCmp.NoneTotal
import Derived.Ground.SlsfProg
import Derived.Test.YtnanafpgfihjfaaGreatProg
set_option linter.all false
set_option maxHeartbeats 4000000
set_option maxRecDepth 100000
section
namespace Go.Sx
open Go.Proofs
open IntKind (i64)
@[go_sem] def kq (l_:List Claim)(x:Claim)(k_0:Nat)(s_0:List Claim×Int):(Int×List Claim)⊕(List Claim×Int):=(bif((decide (s_0.2< (l_.length:Int)))&&(be (l_.getD (Int.toNat s_0.2) default) x))then .inr ((s_0.1++([(l_.getD (Int.toNat s_0.2) default)])),(i64.wrap (s_0.2+1)))else .inl (s_0.2,s_0.1))
def nX (l_:List Claim)(x:Claim)(k_0:Nat)(s_0:List Claim×Int):Prop:=letI q0:=(l_.length:Int);letI q1:=l_.getD (Int.toNat s_0.2) default;letI q2:=0<=s_0.2/\s_0.2<q0;letI q3:=decide (s_0.2<q0);(l_.length<=aI->((q3=true->q2)/\((q3&&(be q1 x))=true->(q2/\((s_0.1++([q1])).length*40<=di)))))
def uh (l_:List Claim)(x:Claim):List Claim:=letI q0:=l_.take (Int.toNat (l_.length:Int));(match aq (kq l_ x) (l_.length+1) 0 ([],0)with| .inl x_0_0=>(bif((decide (x_0_0.1< (l_.length:Int)))&&(!(be x (l_.getD (Int.toNat x_0_0.1) default))))then((x_0_0.2++([({ right:=x.right,farm:=x.farm,hour:=x.hour,litres:=(i64.wrap (x.litres+(l_.getD (Int.toNat x_0_0.1) default).litres)),rank:=x.rank}:Claim)]))++(q0.drop (Int.toNat (i64.wrap (x_0_0.1+1)))))else((x_0_0.2++([x]))++(q0.drop (Int.toNat x_0_0.1)))) | .inr s_0=>default)
def qp (l_:List Claim)(x:Claim):Prop:=letI q0:=(l_.length:Int);letI q1:=kq l_ x;letI q2:=l_.length+1;letI q3:=l_.take (Int.toNat q0);(okI q1 (nX l_ x) q2 0 ([],0)/\(∀ z_,aq q1 q2 0 ([],0)≠ .inr z_)/\(∀ x_0_0,aq q1 q2 0 ([],0)=.inl x_0_0->(l_.length<=aI->(((decide (x_0_0.1<q0))=true->(0<=x_0_0.1/\x_0_0.1<q0))/\((((decide (x_0_0.1<q0))&&(!(be x (l_.getD (Int.toNat x_0_0.1) default))))=true->((0<=x_0_0.1/\x_0_0.1<q0)/\(((x_0_0.2++([({ right:=x.right,farm:=x.farm,hour:=x.hour,litres:=(i64.wrap (x.litres+(l_.getD (Int.toNat x_0_0.1) default).litres)),rank:=x.rank}:Claim)])).length*40<=di)/\((x_0_0.2++([({ right:=x.right,farm:=x.farm,hour:=x.hour,litres:=(i64.wrap (x.litres+(l_.getD (Int.toNat x_0_0.1) default).litres)),rank:=x.rank}:Claim)])).length<=aI->((0<=(i64.wrap (x_0_0.1+1))/\(i64.wrap (x_0_0.1+1))<=q0/\q0<=q0)/\(((x_0_0.2++([({ right:=x.right,farm:=x.farm,hour:=x.hour,litres:=(i64.wrap (x.litres+(l_.getD (Int.toNat x_0_0.1) default).litres)),rank:=x.rank}:Claim)]))++(q3.drop (Int.toNat (i64.wrap (x_0_0.1+1))))).length*40<=di))))))/\(((decide (x_0_0.1<q0))&&(!(be x (l_.getD (Int.toNat x_0_0.1) default))))=false->(((x_0_0.2++([x])).length*40<=di)/\((x_0_0.2++([x])).length<=aI->((0<=x_0_0.1/\x_0_0.1<=q0/\q0<=q0)/\(((x_0_0.2++([x]))++(q3.drop (Int.toNat x_0_0.1))).length*40<=di))))))))))
@[go_sem] def nY (l_:List Claim)(farm:Int)(k_0:Nat)(s_0:Int×List Claim):Empty⊕(Int×List Claim):=letI q0:=l_.getD k_0 default;letI q1:=if s_0.1<q0.litres then s_0.1 else q0.litres;letI q2:=i64.wrap (s_0.1 - q1);(bif(q0.farm==farm)then(bif(decide (q1 > 0))then .inr (q2,(s_0.2++([({ right:=q0.right,farm:=q0.farm,hour:=q0.hour,litres:=q1,rank:=q0.rank}:Claim)])))else .inr (q2,s_0.2))else(bif(decide (q0.litres > 0))then .inr (s_0.1,(s_0.2++([q0])))else .inr (s_0.1,s_0.2)))
def rZ (l_:List Claim)(farm:Int)(k_0:Nat)(s_0:Int×List Claim):Prop:=letI q0:=l_.getD k_0 default;letI q1:=if s_0.1<q0.litres then s_0.1 else q0.litres;(l_.length<=aI->(((q0.farm==farm)=true->((decide (q1 > 0))=true->((s_0.2++([({ right:=q0.right,farm:=q0.farm,hour:=q0.hour,litres:=q1,rank:=q0.rank}:Claim)])).length*40<=di)))/\((q0.farm==farm)=false->((decide (q0.litres > 0))=true->((s_0.2++([q0])).length*40<=di)))))
def fA (l_:List Claim)(farm:Int)(n:Int):List Claim:=(match aq (nY l_ farm) l_.length 0 (n,[])with| .inl x=>x.elim| .inr s_0=>s_0.2)
def wn (l_:List Claim)(farm:Int)(n:Int):Prop:=okI (nY l_ farm) (rZ l_ farm) l_.length 0 (n,[])
@[go_sem] def jA (a0:List Claim)(a1:Int)(a2:Int)(k_0:Nat)(s_0:Int×List Claim×List Claim×Int):(List Claim×List Claim)⊕(Int×List Claim×List Claim×Int):=letI q0:=a0.getD (Int.toNat s_0.2.2.2) default;letI q1:=if s_0.1<q0.litres then s_0.1 else q0.litres;letI q2:=i64.wrap (s_0.2.2.2 - 1);letI q4:=s_0.2.2.1++([({ right:=q0.right,farm:=a2,hour:=q0.hour,litres:=q1,rank:=q0.rank}:Claim)]);letI q5:=i64.wrap (s_0.1 - q1);letI q6:=i64.wrap (q0.litres - q1);letI q3:=uh s_0.2.1 ({ right:=q0.right,farm:=q0.farm,hour:=q0.hour,litres:=q6,rank:=q0.rank}:Claim);(bif(decide (s_0.2.2.2>=0))then(bif(q0.farm==a1)then(bif(decide (q1 > 0))then(bif(decide (q6 > 0))then .inr (q5,q3,q4,q2)else .inr (q5,s_0.2.1,q4,q2))else(bif(decide (q6 > 0))then .inr (q5,q3,s_0.2.2.1,q2)else .inr (q5,s_0.2.1,s_0.2.2.1,q2)))else(bif(decide (q0.litres > 0))then .inr (s_0.1,(uh s_0.2.1 q0),s_0.2.2.1,q2)else .inr (s_0.1,s_0.2.1,s_0.2.2.1,q2)))else .inl (s_0.2.1,s_0.2.2.1))
def mB (a0:List Claim)(a1:Int)(a2:Int)(k_0:Nat)(s_0:Int×List Claim×List Claim×Int):Prop:=letI q0:=a0.getD (Int.toNat s_0.2.2.2) default;letI q1:=if s_0.1<q0.litres then s_0.1 else q0.litres;letI q3:=s_0.2.2.1++([({ right:=q0.right,farm:=a2,hour:=q0.hour,litres:=q1,rank:=q0.rank}:Claim)]);letI q4:=i64.wrap (q0.litres - q1);letI q2:=(decide (q4 > 0))=true->(qp s_0.2.1 ({ right:=q0.right,farm:=q0.farm,hour:=q0.hour,litres:=q4,rank:=q0.rank}:Claim));((decide (s_0.2.2.2>=0))=true->((0<=s_0.2.2.2/\s_0.2.2.2< (a0.length:Int))/\(((q0.farm==a1)=true->(((decide (q1 > 0))=true->((q3.length*40<=di)/\(q3.length<=aI->q2)))/\((decide (q1 > 0))=false->q2)))/\((q0.farm==a1)=false->((decide (q0.litres > 0))=true->(qp s_0.2.1 q0))))))
@[go_sem] def py (x_0_0:List Claim×List Claim)(k_1:Nat)(s_1:List Claim):Empty⊕(List Claim):=.inr (uh s_1 (x_0_0.2.getD k_1 default))
def tx (x_0_0:List Claim×List Claim)(k_1:Nat)(s_1:List Claim):Prop:=(x_0_0.2.length<=aI->(qp s_1 (x_0_0.2.getD k_1 default)))
def kE (a0:List Claim)(a1:Int)(a2:Int)(a3:Int):List Claim:=(match aq (jA a0 a1 a2) (a0.length+1) 0 (a3,[],[],(i64.wrap ((a0.length:Int) - 1)))with| .inl x_0_0=>(match aq (py x_0_0) x_0_0.2.length 0 x_0_0.1 with| .inl x=>x.elim| .inr s_1=>s_1) | .inr s_0=>default)
def tZ (a0:List Claim)(a1:Int)(a2:Int)(a3:Int):Prop:=letI q0:=(a3,[],[],(i64.wrap ((a0.length:Int) - 1)));letI q1:=jA a0 a1 a2;letI q2:=a0.length+1;(a0.length<=aI->(okI q1 (mB a0 a1 a2) q2 0 q0/\(∀ z_,aq q1 q2 0 q0≠ .inr z_)/\(∀ x_0_0,aq q1 q2 0 q0=.inl x_0_0->okI (py x_0_0) (tx x_0_0) x_0_0.2.length 0 x_0_0.1)))
@[go_sem] def mL (j:List Judgement)(h_:Int)(k_0:Nat)(s_0:List Claim):Empty⊕(List Claim):=letI q0:=j.getD k_0 default;(bif(!(cU j q0 h_))then .inr s_0 else(bif(q0.kind==1)then .inr (fA s_0 (q0.farm) 0)else(bif(q0.kind==2)then .inr (fA s_0 (q0.farm) (q0.n))else(bif(q0.kind==3)then .inr (kE s_0 (q0.farm) (q0.other) (q0.n))else .inr s_0))))
def yd (j:List Judgement)(h_:Int)(k_0:Nat)(s_0:List Claim):Prop:=letI q0:=j.getD k_0 default;(j.length<=aI->((!(cU j q0 h_))=false->(((q0.kind==1)=true->(wn s_0 (q0.farm) 0))/\((q0.kind==1)=false->(((q0.kind==2)=true->(wn s_0 (q0.farm) (q0.n)))/\((q0.kind==2)=false->((q0.kind==3)=true->(tZ s_0 (q0.farm) (q0.other) (q0.n)))))))))
def r6 (l_:List Claim)(j:List Judgement)(h_:Int):List Claim:=(match aq (mL j h_) j.length 0 l_ with| .inl x=>x.elim| .inr s_0=>s_0)
def B1 (l_:List Claim)(j:List Judgement)(h_:Int):Prop:=okI (mL j h_) (yd j h_) j.length 0 l_
@[go_sem] def dY (a1:List Claim)(s_0:List Claim×Int)(k_1:Nat)(s_1:Int):Int⊕Int:=(bif((decide (s_1< (a1.length:Int)))&&((a1.getD (Int.toNat s_1) default).hour==(a1.getD (Int.toNat s_0.2) default).hour))then .inr (i64.wrap (s_1+1))else .inl s_1)
def p5 (a1:List Claim)(s_0:List Claim×Int)(k_1:Nat)(s_1:Int):Prop:=(a1.length<=aI->(((decide (s_1< (a1.length:Int)))=true->(0<=s_1/\s_1< (a1.length:Int)))/\((decide (s_1< (a1.length:Int)))=true->(0<=s_0.2/\s_0.2< (a1.length:Int)))))
@[go_sem] def eS (a1:List Claim)(a2:List Judgement)(k_0:Nat)(s_0:List Claim×Int):(List Claim)⊕(List Claim×Int):=(bif(decide (s_0.2< (a1.length:Int)))then(match aq (dY a1 s_0) (a1.length+1) 0 s_0.2 with| .inl x_1_0=>.inr ((s_0.1++(r6 ((a1.take (Int.toNat x_1_0)).drop (Int.toNat s_0.2)) a2 ((a1.getD (Int.toNat s_0.2) default).hour))),x_1_0) | .inr s_1=>.inr default)else .inl s_0.1)
def p6 (a1:List Claim)(a2:List Judgement)(k_0:Nat)(s_0:List Claim×Int):Prop:=letI q0:=dY a1 s_0;letI q1:=Int.toNat s_0.2;letI q2:=(a1.length:Int);letI q3:=a1.length+1;letI q4:=(a1.getD q1 default).hour;(a1.length<=aI->((decide (s_0.2<q2))=true->(okI q0 (p5 a1 s_0) q3 0 s_0.2/\(∀ z_,aq q0 q3 0 s_0.2≠ .inr z_)/\(∀ x_1_0,aq q0 q3 0 s_0.2=.inl x_1_0->((0<=s_0.2/\s_0.2<=x_1_0/\x_1_0<=q2)/\((0<=s_0.2/\s_0.2<q2)/\((B1 ((a1.take (Int.toNat x_1_0)).drop q1) a2 q4)/\((s_0.1++(r6 ((a1.take (Int.toNat x_1_0)).drop q1) a2 q4)).length*40<=di))))))))
@[go_sem] def oR (x_0_0:List Claim)(k_2:Nat)(s_2:Unit):Unit⊕Unit:=(bif(decide ((x_0_0.getD k_2 default).litres > 1073741824))then .inl ()else .inr ())
def Ay (a0:District)(a1:List Claim)(a2:List Judgement):List Claim×Int:=letI q0:=iL a0 a2;letI q1:=vN a0 a1;(bif(q0 !=0)then([],q0)else(bif(q1 !=0)then([],q1)else(match aq (eS a1 a2) (a1.length+1) 0 ([],0)with| .inl x_0_0=>(bif(decide ((x_0_0.length:Int) > 4096))then([],2)else(match aq (oR x_0_0) x_0_0.length 0 ()with| .inl x_2_0=>([],2) | .inr s_2=>(x_0_0,0))) | .inr s_0=>default)))
def D1 (a0:District)(a1:List Claim)(a2:List Judgement):Prop:=letI q0:=eS a1 a2;((wm a0 a2)/\(((iL a0 a2) !=0)=false->((At a0 a1)/\(((vN a0 a1) !=0)=false->(okI q0 (p6 a1 a2) (a1.length+1) 0 ([],0)/\(∀ z_,aq q0 (a1.length+1) 0 ([],0)≠ .inr z_))))))
@[go_sem] def y_ (a1:List Judgement)(a2:Int)(k_0:Nat)(s_0:List Int):Empty⊕(List Int):=letI q0:=a1.getD k_0 default;letI q2:=Int.toNat (q0.other);letI q3:=Int.toNat (q0.farm);letI q1:=s_0.set q3 (i64.wrap ((s_0.getD q3 0)+q0.n));(bif(((q0.kind==4)&&(decide (q0.hour<=a2)))&&(!(vQ a1 q0 a2)))then .inr (q1.set q2 (i64.wrap ((q1.getD q2 0) - q0.n)))else .inr s_0)
def C0 (a1:List Judgement)(a2:Int)(k_0:Nat)(s_0:List Int):Prop:=letI q0:=a1.getD k_0 default;letI q2:=0<=q0.farm/\q0.farm< (s_0.length:Int);letI q3:=Int.toNat (q0.farm);letI q1:=0<=q0.other/\q0.other< ((s_0.set q3 (i64.wrap ((s_0.getD q3 0)+q0.n))).length:Int);(a1.length<=aI->((((q0.kind==4)&&(decide (q0.hour<=a2)))&&(!(vQ a1 q0 a2)))=true->(q2/\(q2/\(q1/\q1)))))
def Ha (a0:District)(a1:List Judgement)(a2:Int):Prop:=letI q0:=(a0.farms.length:Int);((wm a0 a1)/\(((iL a0 a1) !=0)=false->((!(bC a2 0 a0.hours))=false->(a0.farms.length<=aI->((q0=q0/\0<=q0/\q0*((8:Nat):Int)<=((di:Nat):Int))/\(q0<=((aI:Nat):Int)->okI (y_ a1 a2) (C0 a1 a2) a1.length 0 (List.replicate (Int.toNat q0) (0:Int))))))))
def d7 (i:Int)(d:District):Bool:=(aV i 0 (i64.wrap ((d.farms.length:Int) - 1)))
@[go_sem] def tL:List SV->Option Con:=(pI fun i=>(pX .district fun d=>(pE (.det True (.v (.bool (d7 i d)))))))
theorem za:FnOk Tryz.prog 109 tL:=by
 have hG:ConsOk Tryz.prog (mkG [(52,g6)] []):=av (cgc je cg0) cg0;refine ax [.o] mixed am hG (fn:=Tryz.f109) (c:=aa Tryz.f109) kr kr kr kr (bY fun i=>(aP fun d=>(aj (fun hp=>?_))));dsimp only[aw]at hp;refine⟨nbl rfl,L0,ag _,?_⟩;unfold aa Tryz.f109;try unfold d7
 exact zq1
def D2 (a0:District)(a1:Judgement):Unit:=(bif(az ((((aV a1.kind 1 4)&&(d7 a1.farm a0))&&(aV a1.since 0 a1.to))&&(decide (a1.to<a0.hours))) 530)then(bif(az (((a1.kind==1)&&(a1.n==0)) ||((a1.kind !=1)&&(aV a1.n 1 1073741824))) 530)then(bif(decide (a1.kind<3))then(bif(az (a1.other==0) 530)then()else default)else(bif(az ((d7 a1.other a0)&&(a1.other !=a1.farm)) 530)then(bif(az ((a1.kind==4) ||((a0.farms.getD (Int.toNat a1.other) default).reach==(a0.farms.getD (Int.toNat a1.farm) default).reach)) 530)then()else default)else default))else default)else default)
def vR (a0:District)(a1:Judgement):Prop:=letI q0:=(a0.farms.length:Int);((az ((((aV a1.kind 1 4)&&(d7 a1.farm a0))&&(aV a1.since 0 a1.to))&&(decide (a1.to<a0.hours))) 530)=true->((az (((a1.kind==1)&&(a1.n==0)) ||((a1.kind !=1)&&(aV a1.n 1 1073741824))) 530)=true->((decide (a1.kind<3))=false->((az ((d7 a1.other a0)&&(a1.other !=a1.farm)) 530)=true->(((a1.kind==4)=false->(0<=a1.other/\a1.other<q0))/\((a1.kind==4)=false->(0<=a1.farm/\a1.farm<q0)))))))
theorem Xp {n:Int}(h: -9223372036854775808<=n):i64.wrap n<=n:=by
 simp only[IntKind.wrap,IntKind.bits,IntKind.signed];simp;omega
theorem Xq (b:Bool)(e:Int):az b e=b:=by cases b <;>rfl
theorem aeP (n lo hi:Int):aV n lo hi=true↔lo<=n/\n<=hi:=by
 unfold aV;simp[aim]
theorem A0 (d:District)(x:Judgement):vR d x:=by
 intro h1 h2 h3 h4;rw[Xq]at h1 h4;simp only[aim]at h1 h4;have a1:=h1.1.1.2;have a4:=h4.1;unfold d7 at a1 a4;rw[aeP]at a1 a4;have:=Xp (n:=(d.farms.length:Int) - 1) (by omega);exact⟨fun _=>⟨by omega,by omega⟩,fun _=>⟨by omega,by omega⟩⟩
def jH (a0:District)(a1:Judgement):Bool:=(bif(az ((((aV a1.kind 1 4)&&(d7 a1.farm a0))&&(aV a1.since 0 a1.to))&&(decide (a1.to<a0.hours))) 530)then(bif(az (((a1.kind==1)&&(a1.n==0)) ||((a1.kind !=1)&&(aV a1.n 1 1073741824))) 530)then(bif(decide (a1.kind<3))then(bif(az (a1.other==0) 530)then true else false)else(bif(az ((d7 a1.other a0)&&(a1.other !=a1.farm)) 530)then(bif(az ((a1.kind==4) ||((a0.farms.getD (Int.toNat a1.other) default).reach==(a0.farms.getD (Int.toNat a1.farm) default).reach)) 530)then true else false)else false))else false)else false)
@[go_sem] def vS:List SV->Option Con:=(pD .district fun a0=>(pD .judgement fun a1=>(pE (.may (jH a0 a1) (.tup []) (.iface 36 (.int .i64 530))))))
theorem A1:FnOk Tryz.prog 59 vS:=by
 have hG:ConsOk Tryz.prog (mkG [(52,g6),(58,lm),(109,tL)] []):=av (cgc je (cgc nk (cgc za cg0))) cg0;refine ax [] mixed am hG (fn:=Tryz.f59) (c:=aa Tryz.f59) kr kr kr kr (a7 fun a0=>(a7 fun a1=>(aj (fun hp=>?_))));dsimp only[aw]at hp;have hp:=A0 a0 a1;unfold vR at hp;refine⟨nbl rfl,L0,ag _,?_⟩;unfold aa Tryz.f59;try unfold D2
 try unfold jH
 exact zq1
def nr (y:Judgement)(x:Judgement)(hour:Int):Bool:=((y.of_==(i64.wrap (x.no+1)))&&(decide (y.hour<=hour)))
@[go_sem] def tM:List SV->Option Con:=(pD .judgement fun y=>(pX .judgement fun x=>(pX .int fun hour=>(pE (.det True (.v (.bool (nr y x hour))))))))
theorem zb:FnOk Tryz.prog 104 tM:=by
 have hG:ConsOk Tryz.prog (mkG [] []):=av cg0 cg0;refine ax [.o] mixed am hG (fn:=Tryz.f104) (c:=aa Tryz.f104) kr kr kr kr (a7 fun y=>(aP fun x=>(aP fun hour=>(aj (fun hp=>?_)))));dsimp only[aw]at hp;refine⟨nbl rfl,L0,ag _,?_⟩;unfold aa Tryz.f104;try unfold nr
 exact zq1
@[go_sem] def b7 (s_:List Judgement)(x:Judgement)(hour:Int)(k_0:Nat)(s_0:Unit):Int⊕Unit:=(bif(nr (s_.getD k_0 default) x hour)then .inl (k_0:Int)else .inr ())
def dZ (s_:List Judgement)(x:Judgement)(hour:Int):Int:=(match aq (b7 s_ x hour) s_.length 0 ()with| .inl x_0_0=>x_0_0| .inr s_0=>(-1))
@[go_sem] def f8:List SV->Option Con:=(pR .judgement fun s_=>(pFn 104 (pX .judgement fun x=>(pX .int fun hour=>(pE ((pE (.det True (.v (.int .i64 (dZ s_ x hour)))))))))))
theorem ku:FnOk Tryz.prog 147 f8:=by
 have hG:ConsOk Tryz.prog (mkG [(104,tM)] []):=av (cgc zb cg0) cg0;refine ax [.o] mixed am hG (fn:=Tryz.f147) (c:=aa Tryz.f147) kr kr kr kr (bB fun s_=>(bI (aP fun x=>(aP fun hour=>(aj ((aj (fun hp=>?_))))))));dsimp only[aw]at hp;refine⟨nbl rfl,(fun id st=>bif Nat.beq id 0 then some (LCR (ρ:=Int) (σ:=Unit) 0 [] [] (fun k_0 s_0=>⟨[(0,.rs .judgement s_),(1,.fn 104 [] [.ep (cellsOf .judgement x) 0,.ep [.v (.int .i64 hour)] 0]),(7,.v (.int .i64 (s_.length:Int))),(8,.v (.int .i64 (k_0:Int)))],[]⟩) (b7 s_ x hour) pT s_.length () (s_.length<=aI) (fun _=>.ret) (fun x_0_0=>⟨[(4,.v (.int .i64 x_0_0))],[]⟩) st)else none),?_,?_⟩;unfold aa Tryz.f147;simp only[ap,true_and,and_true];refine a8 mixed am hG kr (fun _=>rfl) (s_.length:Int) rfl iB (fun hb0 k_0 s_0 hlt0 _ hw hc=>⟨L0,ag _,?_⟩) (fun hb0 s_0 hc=>?_);exact bT (jl []);exact bN (jl []);unfold aa Tryz.f147;try unfold dZ
 exact zq1
def dx (s_:List Judgement)(x:Judgement)(hour:Int):Bool:=(decide ((dZ s_ x hour)>=0))
@[go_sem] def fL:List SV->Option Con:=(pR .judgement fun s_=>(pFn 104 (pX .judgement fun x=>(pX .int fun hour=>(pE ((pE (.det True (.v (.bool (dx s_ x hour)))))))))))
theorem jI:FnOk Tryz.prog 103 fL:=by
 have hG:ConsOk Tryz.prog (mkG [(147,fun l=>f8 (bD [.sl .judgement,.o] l))] []):=av (cgc (ku.norm [.sl .judgement,.o]) cg0) cg0;refine ax [.o] mixed am hG (fn:=Tryz.f103) (c:=aa Tryz.f103) kr kr kr kr (bB fun s_=>(bI (aP fun x=>(aP fun hour=>(aj ((aj (fun hp=>?_))))))));dsimp only[aw]at hp;refine⟨nbl rfl,L0,ag _,?_⟩;unfold aa Tryz.f103;try unfold dx
 exact zq1
def ij (j:List Judgement)(x:Judgement)(hour:Int):Bool:=(dx j x hour)
@[go_sem] def nt:List SV->Option Con:=(pR .judgement fun j=>(pD .judgement fun x=>(pI fun hour=>(pE (.det True (.v (.bool (ij j x hour))))))))
theorem uM:FnOk Tryz.prog 53 nt:=by
 have hG:ConsOk Tryz.prog (mkG [(103,fun l=>fL (bD [.sl .judgement,.o] l))] []):=av (cgc (jI.norm [.sl .judgement,.o]) cg0) cg0;refine ax [.o] mixed am hG (fn:=Tryz.f53) (c:=aa Tryz.f53) kr kr kr kr (bB fun j=>(a7 fun x=>(bY fun hour=>(aj (fun hp=>?_)))));dsimp only[aw]at hp;refine⟨nbl rfl,L0,ag _,?_⟩;unfold aa Tryz.f53;try unfold ij
 exact zq1
@[go_sem] def eC (a0:District)(a1:List Judgement)(k_0:Nat)(s_0:List (Int×Bool)):Unit⊕(List (Int×Bool)):=letI q0:=a1.getD k_0 default;letI q1:=a1.getD (Int.toNat (i64.wrap ((k_0:Int) - 1))) default;(bif(az ((aV (q0.no) 0 1048576)&&(aV (q0.hour) 0 a0.hours)) 530)then(bif(az (((k_0:Int) ==0) ||((decide (q0.no > q1.no))&&(decide (q0.hour>=q1.hour)))) 530)then(bif(q0.of_==0)then(bif(jH a0 q0)then .inr (fN .int .bool s_0 (i64.wrap (q0.no+1)) true)else .inl ())else(bif(az ((aZ .int .bool s_0 (q0.of_))&&((q0.no==q0.no)&&((q0.hour==q0.hour)&&((q0.kind==0)&&((q0.farm==0)&&((q0.other==0)&&((q0.since==0)&&((q0.to==0)&&((q0.n==0)&&(q0.of_==q0.of_)))))))))) 530)then .inr (Bj .int .bool s_0 (q0.of_))else .inl ()))else .inl ())else .inl ())
def nZ (a0:District)(a1:List Judgement)(k_0:Nat)(s_0:List (Int×Bool)):Prop:=letI q1:=a1.getD k_0 default;letI q3:=(k_0:Int);letI q0:=i64.wrap (q3 - 1);letI q2:=0<=q0/\q0< (a1.length:Int);((az ((aV (q1.no) 0 1048576)&&(aV (q1.hour) 0 a0.hours)) 530)=true->(((q3==0)=false->q2)/\((q3==0)=false->((decide (q1.no > (a1.getD (Int.toNat q0) default).no))=true->q2))))
def bw (a0:District)(a1:List Judgement):Int:=(bif((aU a0) !=0)then(aU a0)else(bif(az (decide ((a1.length:Int)<=64)) 2)then(match aq (eC a0 a1) a1.length 0 ([])with| .inl x_0_0=>530| .inr s_0=>0)else 2))
def iY (a0:District)(a1:List Judgement):Prop:=(((aU a0) !=0)=false->(a1.length<=aI->((az (decide ((a1.length:Int)<=64)) 2)=true->(a1.length<=aI->okI (eC a0 a1) (nZ a0 a1) a1.length 0 ([])))))
@[go_sem] def nu:List SV->Option Con:=(pD .district fun a0=>(pR .judgement fun a1=>(pE (.det (iY a0 a1) (.v (.int .i64 (bw a0 a1)))))))
theorem zq58 {p:Prop}(h:p:=by simp only[go_sem,Nat.reduceBEq,Nat.reduceLeDiff,Nat.reduceLT,decide_true,Nat.reduceAdd,Nat.reduceSub,Nat.reduceMul,Int.reduceLE,Int.reduceLT,Int.reduceToNat,Int.reduceNeg,reduceCtorEq,rT,pY,RCJ];all_goals exact cl):p:=h
theorem p7:FnOk Tryz.prog 16 nu:=by
 have hG:ConsOk Tryz.prog (mkG [(52,g6),(57,fun l=>qL (bD [.st .district] l)),(58,lm),(59,fun l=>vS (bD [.st .district,.st .judgement] l))] []):=av (cgc je (cgc (tq.norm [.st .district]) (cgc nk (cgc (A1.norm [.st .district,.st .judgement]) cg0)))) cg0;refine O4 JA [.o] mixed am hG (fn:=Tryz.f16) (c0:=rT (aa Tryz.f16)) (c1:=pY (pY (aa Tryz.f16))) (i1:=Wp (rT (pY (aa Tryz.f16)))) (o1:=SY 0 (rT (pY (aa Tryz.f16)))) (q:=4) (tys:= #[104]) kr kr kr (by refine⟨?_,?_,?_⟩ <;>kernel_rfl) kr kr (a7 fun a0=>(bB fun a1=>(aj (fun hp=>?_))));dsimp only[aw]at hp;unfold iY at hp;refine⟨nbl rfl,L0,(fun id st=>bif Nat.beq id 0 then some (LCR (ρ:=Unit) (σ:=(List (Int×Bool))) 3 [] [0,1,2] (fun k_0 s_0=>⟨[(1,.rs .judgement a1),(2,.ptr 0 0),(4,.ptr 1 0),(5,.os 2),(18,.rs .judgement a1),(19,.v (.int .i64 (a1.length:Int))),(20,.v (.int .i64 (k_0:Int)))],[.cells (cellsOf .district a0),.cells [.v (.int .i64 (aU a0))],.mp .int .bool s_0 none]⟩) (eC a0 a1) (nZ a0 a1) a1.length ([]) (a1.length<=aI) (fun _=>.pan (.iface 36 (.int .i64 530))) (fun x_0_0=>⟨[(4,.ptr 1 0)],[.dead,.cells [.v (.int .i64 (aU a0))],.dead]⟩) st)else none),1,?_,?_,?_⟩;unfold aa Tryz.f16;simp only[rT,ap,and_self,true_and,and_true];unfold aa Tryz.f16;simp only[pY];simp only[ap,true_and,and_true];refine a8 mixed am hG kr (fun _=>rfl) (a1.length:Int) rfl iB (fun hb0 k_0 s_0 hlt0 hq0 hw hc=>⟨L0,ag _,?_⟩) (fun hb0 s_0 hc=>?_);unfold nZ at hq0;try simp only[hw,air]at hq0
 exact bT (jl [0,1,2]);exact bN (jl [0,1,2]);unfold aa Tryz.f16;try unfold bw
 exact zq58
@[go_sem] def ma (a1:List Judgement)(a2:Int)(k_0:Nat)(s_0:List Int):Empty⊕(List Int):=letI q0:=a1.getD k_0 default;letI q2:=Int.toNat (q0.other);letI q3:=Int.toNat (q0.farm);letI q1:=s_0.set q3 (i64.wrap ((s_0.getD q3 0)+q0.n));(bif(((q0.kind==4)&&(decide (q0.hour<=a2)))&&(!(ij a1 q0 a2)))then .inr (q1.set q2 (i64.wrap ((q1.getD q2 0) - q0.n)))else .inr s_0)
def n8 (a1:List Judgement)(a2:Int)(k_0:Nat)(s_0:List Int):Prop:=letI q0:=a1.getD k_0 default;letI q2:=0<=q0.farm/\q0.farm< (s_0.length:Int);letI q3:=Int.toNat (q0.farm);letI q1:=0<=q0.other/\q0.other< ((s_0.set q3 (i64.wrap ((s_0.getD q3 0)+q0.n))).length:Int);((((q0.kind==4)&&(decide (q0.hour<=a2)))&&(!(ij a1 q0 a2)))=true->(q2/\(q2/\(q1/\q1))))
def gi (a0:District)(a1:List Judgement)(a2:Int):List Int×Int:=letI q0:=bw a0 a1;(bif(q0 !=0)then([],q0)else(bif(!(aV a2 0 a0.hours))then([],1)else(match aq (ma a1 a2) a1.length 0 (List.replicate (Int.toNat (a0.farms.length:Int)) (0:Int))with| .inl x=>x.elim| .inr s_0=>(s_0,0))))
def kv (a0:District)(a1:List Judgement)(a2:Int):Prop:=letI q0:=(a0.farms.length:Int);((iY a0 a1)/\(((bw a0 a1) !=0)=false->((!(aV a2 0 a0.hours))=false->(a0.farms.length<=aI->((q0=q0/\0<=q0/\q0*((8:Nat):Int)<=((di:Nat):Int))/\(q0<=((aI:Nat):Int)->(a1.length<=aI->okI (ma a1 a2) (n8 a1 a2) a1.length 0 (List.replicate (Int.toNat q0) (0:Int)))))))))
@[go_sem] def vT:List SV->Option Con:=(pD .district fun a0=>(pR .judgement fun a1=>(pI fun a2=>(pE (.det (kv a0 a1 a2) (.tup [.nw .int ((gi a0 a1 a2).1),.v (.int .i64 ((gi a0 a1 a2).2))]))))))
theorem A2:FnOk Tryz.prog 14 vT:=by
 have hG:ConsOk Tryz.prog (mkG [(16,fun l=>nu (bD [.st .district,.sl .judgement] l)),(52,g6),(53,fun l=>nt (bD [.sl .judgement,.st .judgement,.o] l))] []):=av (cgc (p7.norm [.st .district,.sl .judgement]) (cgc je (cgc (uM.norm [.sl .judgement,.st .judgement,.o]) cg0))) cg0;refine F8 [(.tmp 6,.int)] mixed am hG (fn:=Tryz.f14) (c:=aa Tryz.f14) kr kr kr kr (a7 fun a0=>(bB fun a1=>(bY fun a2=>(aj (fun hp=>?_)))));dsimp only[aw]at hp;unfold kv at hp;refine⟨nbl rfl,(fun id st=>bif Nat.beq id 0 then some (LCR (ρ:=Empty) (σ:=(List Int)) 2 [] [0,1] (fun k_0 s_0=>⟨[(1,.rs .judgement a1),(2,.v (.int .i64 a2)),(6,.os 1),(25,.rs .judgement a1),(26,.v (.int .i64 (a1.length:Int))),(27,.v (.int .i64 (k_0:Int)))],[.dead,.row .int s_0]⟩) (ma a1 a2) (n8 a1 a2) a1.length (List.replicate (Int.toNat (a0.farms.length:Int)) (0:Int)) (a1.length<=aI) ((·.elim)) ((·.elim)) st)else none),?_,?_⟩;unfold aa Tryz.f14;simp only[ap,true_and,and_true];refine a8 mixed am hG kr (fun _=>rfl) (a1.length:Int) rfl iB (fun hb0 k_0 s_0 hlt0 hq0 hw hc=>⟨L0,ag _,?_⟩) (fun hb0 s_0 hc=>?_);unfold n8 at hq0;try simp only[hw,air]at hq0
 exact bT (jl [0,1]);exact bN (jl [0,1]);unfold aa Tryz.f14;try unfold gi
 exact zq1
theorem JE (b:Bool)(e:Int):az b e=b:=by cases b <;>rfl
theorem YD (n lo hi:Int):aV n lo hi=(decide (lo<=n)&&decide (n<=hi)):=rfl
theorem Lp (n lo hi:Int):bC n lo hi=(decide (lo<=n)&&decide (n<=hi)):=rfl
theorem Nr (d:District)(x:Judgement):jH d x=lU d x:=by
 unfold jH lU;simp only[JE,YD,Lp,d7];grind
structure JInv (b:List Judgement)(s:List (Int×Bool)):Prop where
 nd:(sR s).Nodup
 val:∀ z:Int,aZ .int .bool s z=true↔(∃ y∈b,y.of_=0/\y.no+1=z)/\¬ ∃ y∈b,y.of_=z
 no:∀ y∈b,0<=y.no/\y.no<=1048576
 of:∀ y∈b,y.of_≠0->∃ z∈b,y.of_=z.no+1
 last:∀ y∈b,y.no<=(b.getD (b.length - 1) default).no
theorem TS:JInv [] []:=⟨ajC,fun z=>⟨fun h=>(by cases h),fun⟨⟨y,hy,_⟩,_⟩ =>(by cases hy)⟩,fun y hy=>(by cases hy),fun y hy=>(by cases hy),fun y hy=>(by cases hy)⟩
theorem A3 (b:List Judgement)(x:Judgement):∀ (n k:Nat) (s:Bool),k+n=b.length->
  aq (tw b x) n k s=bif(b.drop k).any (fun y=>y.of_==x.of_)then .inl ()else .inr (s||(b.drop k).any (fun y=>y.of_==0&&y.no==i64.wrap (x.of_ - 1)))
 |0,k,s,h=>by
  grind [aq]
 |n+1,k,s,h=>by
  have hk:k<b.length:=by omega
  rw[akt hk];simp only[aq,tw,nq _ _ hk,List.any_cons];cases h1:(b[k].of_==x.of_) <;>cases h2:(b[k].of_==0&&b[k].no==i64.wrap (x.of_ - 1)) <;>simp only[cond_true,cond_false,akH,aj8,ak_,akZ];rw[A3 b x n (k+1) s (by omega)];rw[A3 b x n (k+1) true (by omega)];simp
theorem F9 (b:List Judgement)(x:Judgement)(h0:0<x.of_)(h1:x.of_<9223372036854775808):oQ b x=true↔
  (x.kind=0/\x.farm=0/\x.other=0/\x.since=0/\x.to=0/\x.n=0)/\(∃ y∈b,y.of_=0/\y.no+1=x.of_)/\¬ ∃ y∈b,y.of_=x.of_:=by
 unfold oQ;rw[A3 b x b.length 0 false (by omega),akP,cI (by omega) (by omega)];grind
theorem QX {α:Type}(l:List α)(d:α){k:Nat}(h0:0<k)(h:k<=l.length):(l.take k).getD ((l.take k).length - 1) d=l.getD (k - 1) d:=by
 grind
theorem JF (d:District)(j:List Judgement)(hj:∀ y∈j,-9223372036854775808<=y.of_/\y.of_<9223372036854775808)(hl:j.length<=64){k:Nat}(hk:k<j.length){s:List (Int×Bool)}(hs:JInv (j.take k) s):
  (jz d ((j.take k).drop 0) (j.getD k default)=true/\∃ s',eC d j k s=.inr s'/\JInv (j.take (k+1)) s')\/(jz d ((j.take k).drop 0) (j.getD k default)=false/\eC d j k s=.inl ()):=by
 have hlen:(j.take k).length=k:=by grind
 rw[akP];have hx:j.getD k default∈j:=by grind
 have hof:=hj _ hx;have hT:j.take (k+1)=j.take k++[j.getD k default]:=by simp_all
 have hlast:0<k->(j.take k).getD (Int.toNat (i64.wrap (((j.take k).length:Int) - 1))) default=j.getD (k - 1) default/\j.getD (Int.toNat (i64.wrap ((k:Int) - 1))) default=j.getD (k - 1) default:=fun h0=>by
  rw[hlen,cI (by omega) (by omega),show((k:Int) - 1).toNat=k - 1 by omega];grind
 generalize hxe:j.getD k default=x at *;have hx1:j.getD k (default:Judgement)=x:=hxe;generalize hpe:j.getD (k - 1) (default:Judgement)=p at *;have hbk:∀ y∈j.take k,0<k/\y.no<=p.no:=fun y hy=>by
  have h0:0<k:=by
   grind
  have h1:=hs.last y hy;grind
 have eB:((k:Int) ==0||(decide (x.no > (j.getD (Int.toNat (i64.wrap ((k:Int) - 1))) (default:Judgement)).no)&&decide (x.hour>=(j.getD (Int.toNat (i64.wrap ((k:Int) - 1))) (default:Judgement)).hour)))=decide (k=0\/p.no<x.no/\p.hour<=x.hour):=by
  by_cases h0:k=0
  grind
  rw[(hlast (by omega)).2];simp_all
 have eR:(decide (((j.take k).length:Int) > 0)&&(decide (x.no<=((j.take k).getD (Int.toNat (i64.wrap (((j.take k).length:Int) - 1))) (default:Judgement)).no) ||decide (x.hour< ((j.take k).getD (Int.toNat (i64.wrap (((j.take k).length:Int) - 1))) (default:Judgement)).hour)))= !decide (k=0\/p.no<x.no/\p.hour<=x.hour):=by
  by_cases h0:k=0
  grind
  rw[(hlast (by omega)).1,hlen];rw[ajv];simp[h0];omega
 have e1:eC d j k s=bif(bC x.no 0 1048576&&bC x.hour 0 d.hours)&&decide (k=0\/p.no<x.no/\p.hour<=x.hour)then(bif x.of_==0 then(bif lU d x then .inr (fN .int .bool s (i64.wrap (x.no+1)) true)else .inl ())else(bif aZ .int .bool s x.of_&&decide (x.kind=0/\x.farm=0/\x.other=0/\x.since=0/\x.to=0/\x.n=0)then .inr (Bj .int .bool s x.of_)else .inl ()))else .inl ():=by
  unfold eC;simp only[JE,hx1,eB,Nr];rw[show aV x.no 0 1048576=bC x.no 0 1048576 from rfl,show aV x.hour 0 d.hours=bC x.hour 0 d.hours from rfl];have eZ:(aZ .int .bool s x.of_&&(x.no==x.no&&(x.hour==x.hour&&(x.kind==0&&(x.farm==0&&(x.other==0&&(x.since==0&&(x.to==0&&(x.n==0&&x.of_==x.of_)))))))))=(aZ .int .bool s x.of_&&decide (x.kind=0/\x.farm=0/\x.other=0/\x.since=0/\x.to=0/\x.n=0)):=by
   grind
  rw[eZ];cases bC x.no 0 1048576&&bC x.hour 0 d.hours <;>cases decide (k=0\/p.no<x.no/\p.hour<=x.hour) <;>rfl
 have e2:jz d (j.take k) x=bif(bC x.no 0 1048576&&bC x.hour 0 d.hours)&&decide (k=0\/p.no<x.no/\p.hour<=x.hour)then(bif x.of_==0 then lU d x else(decide (x.of_ > 0)&&oQ (j.take k) x))else false:=by
  simp_all [jz]
 rw[e1,e2];cases hAB:(bC x.no 0 1048576&&bC x.hour 0 d.hours)&&decide (k=0\/p.no<x.no/\p.hour<=x.hour)with
 |false=>grind
 |true=>
  simp only[aim,Lp,decide_eq_true_eq]at hAB;obtain⟨⟨⟨n1,n2⟩,_⟩,hB⟩:=hAB;have hno:∀ y∈j.take k,y.no<x.no:=fun y hy=>by
   grind
  simp only[cond_true];have hlst:∀ y∈j.take (k+1),y.no<=((j.take (k+1)).getD ((j.take (k+1)).length - 1) default).no:=fun y hy=>by
   rw[QX j default (by omega) (by omega:k+1<=j.length),ajQ,hx1];rw[hT]at hy;rcases aix.1 hy with hy|hy <;>grind
  have hnn:∀ y∈j.take (k+1),0<=y.no/\y.no<=1048576:=fun y hy=>by
   rw[hT]at hy;rcases aix.1 hy with hy|hy;exact hs.no y hy;grind
  cases ho:x.of_==0 with
  |true=>
   have ho':x.of_=0:=eq_of_beq ho;simp only[cond_true];cases hv:lU d x with
   |false=>grind
   |true=>
    refine .inl ⟨rfl,_,rfl,(H0 _ _ _ hs.nd).1,fun z=>?_,hnn,fun y hy h0=>?_,hlst⟩;rw[QR,cI (by omega) (by omega),hT];by_cases hz:z=x.no+1
    subst hz;rw[if_pos rfl];refine⟨fun _=>⟨⟨x,by simp,ho',rfl⟩,fun⟨y,hy,h1⟩ =>?_⟩,fun _=>rfl⟩;rcases aix.1 hy with hy|hy;obtain⟨q,hq,h2⟩:=hs.of y hy (by omega);grind
    grind
    rw[if_neg hz,hs.val];constructor
    rintro⟨⟨y,hy,h1,h2⟩,h3⟩;refine⟨⟨y,ajg _ hy,h1,h2⟩,fun⟨q,hq,h4⟩ =>?_⟩;rcases aix.1 hq with hq|hq <;>grind;rintro⟨⟨y,hy,h1,h2⟩,h3⟩;refine⟨?_,fun⟨q,hq,h4⟩ =>h3 ⟨q,ajg _ hq,h4⟩⟩;rcases aix.1 hy with hy|hy <;>grind;rw[hT]at hy |-;rcases aix.1 hy with hy|hy;obtain⟨q,hq,h2⟩:=hs.of y hy h0;grind
    grind
  |false=>
   have ho':x.of_≠0:=fun e=>by grind
   simp only[cond_false];have hC:(decide (x.of_ > 0)&&oQ (j.take k) x)=(aZ .int .bool s x.of_&&decide (x.kind=0/\x.farm=0/\x.other=0/\x.since=0/\x.to=0/\x.n=0)):=by
    rw[ajv];simp only[aim,decide_eq_true_eq];constructor
    rintro⟨h1,h2⟩;obtain⟨h3,h4⟩:=(F9 _ x h1 hof.2).1 h2;exact⟨(hs.val _).2 h4,h3⟩;rintro⟨h1,h2⟩;have h3:=(hs.val _).1 h1;have h4:0<x.of_:=by
     obtain⟨⟨y,hy,_,h5⟩,_⟩:=h3;have:=(hs.no y hy).1;omega
    exact⟨h4,(F9 _ x h4 hof.2).2 ⟨h2,h3⟩⟩
   rw[hC];cases hv:(aZ .int .bool s x.of_&&decide (x.kind=0/\x.farm=0/\x.other=0/\x.since=0/\x.to=0/\x.n=0))with
   |false=>grind
   |true=>
    simp only[aim]at hv;have h3:=(hs.val _).1 hv.1;refine .inl ⟨rfl,_,rfl,(CW _ _ hs.nd).1,fun z=>?_,hnn,fun y hy h0=>?_,hlst⟩;rw[QS _ hs.nd,hT];by_cases hz:z=x.of_
    rw[if_pos hz];exact⟨fun h=>(by cases h),fun h=>absurd ⟨x,by simp,hz.symm⟩ h.2⟩;rw[if_neg hz,hs.val];constructor
    rintro⟨⟨y,hy,h1,h2⟩,h4⟩;refine⟨⟨y,ajg _ hy,h1,h2⟩,fun⟨q,hq,h5⟩ =>?_⟩;rcases aix.1 hq with hq|hq <;>grind;simp_all;rw[hT]at hy |-;rcases aix.1 hy with hy|hy;obtain⟨q,hq,h2⟩:=hs.of y hy h0;grind
    rw[aiT.1 hy];obtain⟨⟨q,hq,_,h2⟩,_⟩:=h3;grind
theorem DC (d:District)(j:List Judgement)(hj:∀ y∈j,-9223372036854775808<=y.of_/\y.of_<9223372036854775808)(hl:j.length<=64):∀ (n k:Nat) (s:List (Int×Bool)),k+n=j.length->JInv (j.take k) s->
  (∃ s',aq (eC d j) n k s=.inr s'/\aq (jG d j) n k ()=.inr ())\/(aq (eC d j) n k s=.inl ()/\aq (jG d j) n k ()=.inl ())
 |0,k,s,h,hs=>.inl ⟨s,rfl,rfl⟩
 |n+1,k,s,h,hs=>by
  simp only[aq,jG];rcases JF d j hj hl (by omega:k<j.length) hs with⟨h1,s',h2,h3⟩ | ⟨h1,h2⟩;rw[h1,h2];simp only[aiP,cond_false];exact DC d j hj hl n (k+1) s' (by omega) h3;grind
theorem xQ (d:District)(j:List Judgement)(hj:∀ y∈j,-9223372036854775808<=y.of_/\y.of_<9223372036854775808):bw d j=iL d j:=by
 unfold bw iL;rw[y9,JE];cases hc:(gA d !=0)with
 |true=>rfl
 |false=>
  simp only[cond_false];by_cases hl:j.length<=64
  rw[decide_eq_true (by omega:(j.length:Int)<=64),decide_eq_false (by omega:¬ (j.length:Int) > 64)];simp only[cond_true,cond_false];rcases DC d j hj hl j.length 0 [] (by omega) TS with⟨s',h1,h2⟩ | ⟨h1,h2⟩ <;>rw[h1,h2];grind
abbrev JR (j:List Judgement):Prop:= ∀ y∈j,-9223372036854775808<=y.of_/\y.of_<9223372036854775808
theorem H7 (j:List Judgement)(x:Judgement)(hour:Int):∀ (n i:Nat),
  (decide ((match aq (b7 j x hour) n i ()with| .inl x_0_0=>x_0_0| .inr s_0=>(-1))>=(0:Int)))=(match aq (uL j x hour) n i ()with| .inl x_0_0=>true| .inr s_0=>false)
 |0,i=>rfl
 |n+1,i=>by
  simp only[aq,b7,uL,nr];rcases ai0 (((j.getD i (default:Judgement)).of_==i64.wrap (x.no+1))&&decide ((j.getD i (default:Judgement)).hour<=hour))with h|h;grind
  simp only[h,cond_false];exact H7 j x hour n (i+1)
theorem TT (j:List Judgement)(x:Judgement)(hour:Int):ij j x hour=vQ j x hour:=H7 j x hour j.length 0
theorem zN {d:District}{j:List Judgement}(h:iL d j=0):gA d=0/\j.length<=64/\∀ k,k<j.length->jz d (j.take k) (j.getD k default)=true:=by
 unfold iL at h;cases hc:(gA d !=0)with
 |true=>
  grind
 |false=>
  rw[hc]at h;simp only[cond_false]at h;have hc':gA d=0:=by grind
  by_cases hl:j.length<=64
  rw[decide_eq_false (by omega:¬ (j.length:Int) > 64)]at h;simp only[cond_false]at h;refine⟨hc',hl,fun k hk=>?_⟩;cases hr:aq (jG d j) j.length 0 ()with
  |inl y=>grind
  |inr s=>
   have:=ln hr k (by omega) (by omega);grind [jG]
  grind
structure JOk (d:District)(x:Judgement):Prop where
 no:0<=x.no/\x.no<=1048576
 end_:x.of_≠0->x.kind=0
 kind:x.of_=0->1<=x.kind/\x.kind<=4
 farm:x.of_=0->0<=x.farm/\x.farm< (d.farms.length:Int)
 none:x.kind=1->x.n=0
 n:x.kind≠1->x.of_=0->1<=x.n/\x.n<=1073741824
 other:3<=x.kind->0<=x.other/\x.other< (d.farms.length:Int)/\x.other≠x.farm
theorem jok {d:District}{b:List Judgement}{x:Judgement}(hf:d.farms.length<=600)(h:jz d b x=true):JOk d x:=by
 unfold jz at h;cases h1:((!(bC x.no 0 1048576)) ||(!(bC x.hour 0 d.hours))) ||((decide ((b.length:Int) > 0))&&((decide (x.no<=(b.getD (Int.toNat (i64.wrap ((b.length:Int) - 1))) (default:Judgement)).no)) ||(decide (x.hour< (b.getD (Int.toNat (i64.wrap ((b.length:Int) - 1))) (default:Judgement)).hour))))with
 |true=>grind
 |false=>
  rw[h1]at h;simp only[cond_false]at h;have hno:0<=x.no/\x.no<=1048576:=by
   grind [Lp]
  cases ho:x.of_==0 with
  |false=>
   rw[ho]at h;simp only[cond_false,aim]at h;have ho':x.of_≠0:=fun e=>by grind
   have hk:x.kind=0:=by
    grind [oQ]
   exact⟨hno,fun _=>hk,fun e=>absurd e ho',fun e=>absurd e ho',fun e=>by omega,fun _ e=>absurd e ho',fun e=>by omega⟩
  |true=>
   rw[ho]at h;simp only[cond_true]at h;have ho':x.of_=0:=eq_of_beq ho;unfold lU at h;rw[Nq (by omega:d.farms.length<=4096)]at h;simp only[Lp]at h;have key:(1<=x.kind/\x.kind<=4)/\(0<=x.farm/\x.farm<=(d.farms.length:Int) - 1)/\(x.kind=1->x.n=0)/\(x.kind≠1->1<=x.n/\x.n<=1073741824)/\(3<=x.kind->(0<=x.other/\x.other<=(d.farms.length:Int) - 1)/\x.other≠x.farm):=by
    generalize ((d.farms.getD (Int.toNat x.other) (default:Farm)).reach==(d.farms.getD (Int.toNat x.farm) (default:Farm)).reach)=R at h;rw[ai4]at h;split at h
    cases h;rename_i hc;simp only[aiV,aiE,ajU,decide_eq_true_eq,decide_eq_false_iff_not,not_or]at hc;rw[ai4]at h;split at h
    grind
    rename_i hk1;have hk1':x.kind≠1:=fun e=>hk1 (by rw[e];rfl);rw[ai4]at h;split at h
    grind
    simp_all
   obtain⟨k1,k2,k3,k4,k5⟩:=key;exact⟨hno,fun e=>absurd ho' e,fun _=>k1,fun _=>⟨k2.1,by omega⟩,k3,fun e _=>k4 e,fun e=>⟨(k5 e).1.1,by omega,(k5 e).2⟩⟩
theorem aeQ {d:District}{j:List Judgement}(h:iL d j=0):∀ k,k<j.length->JOk d (j.getD k default):=fun k hk=>by
 obtain⟨h1,_,h3⟩:=zN h;have h4:aU d=0:=by grind [y9]
 exact jok ((sS d).1 h4).1.2.1 (h3 k hk)
end Go.Sx
end
section
namespace Go.Sx
open Go.RowKit
def orC {α:Type 1}:Option α->Option α->Option α
 |some x,_=>some x|none,y=>y
@[go_sem] theorem aeR {α:Type 1}{x:α}{y:Option α}:orC (some x) y=some x:=(rfl)
@[go_sem] theorem aeS {α:Type 1}{y:Option α}:orC none y=y:=(rfl)
theorem zO {α:Type 1}{a b:Option α}{c:α}(h:orC a b=some c):a=some c\/b=some c:=by
 cases a with
 |none=>exact .inr h|some x=>exact .inl h
theorem FnOkO.or {P:Program}{f:FuncId}{C D:List SV->List Ob->Option HCon}(h1:FnOkO P f C)(h2:FnOkO P f D):FnOkO P f (fun l h=>orC (C l h) (D l h)):=
 ⟨fun l h c hc=>by rcases zO hc with e|e;exact h1.enter l h c e;exact h2.enter l h c e,
  fun l h c hc=>by rcases zO hc with e|e;exact h1.calls l h c e;exact h2.calls l h c e⟩
theorem FnOk.or {P:Program}{f:FuncId}{C D:List SV->Option Con}(h1:FnOk P f C)(h2:FnOk P f D):FnOk P f (fun l=>orC (C l) (D l)):=
 ⟨fun l c hc=>by rcases zO hc with e|e;exact h1.enter l c e;exact h2.enter l c e,
  fun l c hc=>by rcases zO hc with e|e;exact h1.calls l c e;exact h2.calls l c e⟩
def pXM {α:Type 1}(t t2:Tag)(k:List (t.T×t2.T)->List SV->Option α):List SV->Option α
 | .ep [s] 0::r=>pM t t2 k (s::r)|_=>none
@[go_sem] theorem aeT {α:Type 1}{t t2:Tag}{k:List (t.T×t2.T)->List SV->Option α}{s:SV}{r:List SV}:pXM t t2 k (.ep [s] 0::r)=pM t t2 k (s::r):=(rfl)
theorem JG {α:Type 1}{G:List SV->α->Prop}{t t2:Tag}{k:List (t.T×t2.T)->List SV->Option α}(h:∀ n l c,k n l=some c->G (.ep [.rm t t2 n] 0::l) c):∀ l c,pXM t t2 k l=some c->G l c:=fun l c hc=>by
 unfold pXM at hc;split at hc
 obtain⟨x,r,e,h1⟩:=aae hc;simp only[aje]at e;obtain⟨rfl,rfl⟩:=e;exact h x _ c h1;cases hc
section
universe u
variable {α:Type u}{G:List SV->α->Prop}
def pLS (k:List SV->Option (List SV->Option α)):List SV->Option α
 | .ls l::r=>apO (k l) r|_=>none
@[go_sem] theorem aid {k:List SV->Option (List SV->Option α)}{l r:List SV}:pLS k (.ls l::r)=apO (k l) r:=(rfl)
theorem O7 {k:List SV->Option (List SV->Option α)}(h:∀ caps q,k caps=some q->∀ l c,q l=some c->G (.ls caps::l) c):∀ l c,pLS k l=some c->G l c:=fun l c hc=>by
 unfold pLS at hc;split at hc
 obtain⟨q,h1,h2⟩:=BL hc;exact h _ q h1 _ c h2;cases hc
end
open Classical in
noncomputable def r7 {τ:Type}(A:τ->List SV)(H:τ->List Ob)(K:τ->HCon):List SV->List Ob->Option HCon:=fun l h=>if e:∃ x,l=A x/\h=H x then some (K e.choose)else none
theorem B2 (d:District):(⟨d.name,d.hours,⟨d.tank.cap,d.tank.start⟩,d.reaches,d.farms,d.crops,d.rights,d.duties,d.wells⟩:District)=d:=rfl
theorem cl4 {p:Prop}(h:p:=by(repeat' (first|with_reducible refine And.intro ?_ ?_|with_reducible intro _)) <;>(first|done|with_reducible assumption|omega|(simp only[aiC,aiQ,air,eta_deed,B2]at *;first|with_reducible assumption|omega|grind) |exact cl3)):p:=h
theorem QY {k:Tag}{x y:k.T}:cellsOf k x=cellsOf k y↔x=y:=⟨fun h=>by
 have h1:=CA x;rw[h,CA y]at h1;exact(Option.some.inj h1).symm,fun h=>by rw[h]⟩
theorem oS {τ:Type}{A:τ->List SV}{H:τ->List Ob}{K:τ->HCon}{x:τ}(inj:∀ x y,A x=A y->H x=H y->x=y:=by
 intro x y h1 h2;simp only[aje,SV.agg.injEq,SV.ep.injEq,SV.v.injEq,akJ,Value.bool.injEq,Value.string.injEq,SV.fn.injEq,SV.rs.injEq,SV.rm.injEq,Ob.row.injEq,Ob.mp.injEq,Ob.cells.injEq,Ob.grid.injEq,heq_eq_eq,QY,true_and,and_true]at h1 h2;first|exact h2|exact h1|(simp_all [Prod.ext_iff];done)):r7 A H K (A x) (H x)=some (K x):=by
 have e:∃ y,A x=A y/\H x=H y:=⟨x,rfl,rfl⟩;unfold r7;rw[dif_pos e];have:=inj _ _ e.choose_spec.1 e.choose_spec.2;rw[<-this]
theorem mb {τ:Type}{A:τ->List SV}{H:τ->List Ob}{K:τ->HCon}{l:List SV}{h:List Ob}{c:HCon}(hh:r7 A H K l h=some c):∃ x,l=A x/\h=H x/\c=K x:=by
 unfold r7 at hh;split at hh
 rename_i e;simp only[aip]at hh;exact⟨e.choose,e.choose_spec.1,e.choose_spec.2,hh.symm⟩;cases hh
end Go.Sx
end
section
namespace Go.Sx
open Go.Proofs
open IntKind (i64)
theorem xb {l0 l1 l2:List Nat}(a0:JL l0)(a1:JL l1)(a2:JL l2){p:Prop}(h:JL l0->JL l1->JL l2->p:=by intro ja jb jc;(first|done|(repeat' (first|with_reducible refine And.intro ?_ ?_|((with_reducible show _≠_);first|assumption|omega|(simp_all [cy,fK];done) |grind) |with_reducible intro _)) <;>(first|done|with_reducible exact Empty.elim ‹Empty› |with_reducible assumption|rfl|omega|assumption|decide|exact fk ja|exact fk jb|exact fk jc|exact czl|(simp only[*,cond_true,cond_false,aiP,aiY,go_sem,Nat.reduceBEq,Nat.reduceLeDiff,Nat.reduceLT,decide_true,Nat.reduceAdd,Nat.reduceSub,Nat.reduceMul,Int.reduceLE,Int.reduceLT,Int.reduceToNat,Int.reduceNeg,reduceCtorEq];(repeat' (first|with_reducible refine And.intro ?_ ?_|((with_reducible show _≠_);first|assumption|omega|(simp_all [cy,fK];done) |grind) |with_reducible intro _)) <;>(first|done|assumption|rfl|omega|decide|exact fk ja|exact fk jb|exact fk jc|(simp_all [cy,fK];done))) |(simp_all [okI,cy,fK];done) |(simp_all [cy,fK];(first|done|exact fk2 ja|exact fk2 jb|exact fk2 jc)) |exact fk2 ja|exact fk2 jb|exact fk2 jc))):p:=h a0 a1 a2
theorem TU {l0 l1 l2:List Nat}(a0:JL l0)(a1:JL l1)(a2:JL l2){p:Prop}(h:JL l0->JL l1->JL l2->p:=by intro ja jb jc;simp only[go_sem,Nat.reduceBEq,Nat.reduceLeDiff,Nat.reduceLT,decide_true,Nat.reduceAdd,Nat.reduceSub,Nat.reduceMul,Int.reduceLE,Int.reduceLT,Int.reduceToNat,Int.reduceNeg,reduceCtorEq];all_goals exact xb ja jb jc):p:=h a0 a1 a2
def gB (y:Claim)(x_:Judgement)(r_:List Claim)(i_:Int):Bool:=((y.farm==x_.other)&&(y.right==(r_.getD (Int.toNat i_) default).right))
def ir (y:Claim)(x_:Judgement)(r_:List Claim)(i_:Int):Prop:=((y.farm==x_.other)=true->(0<=i_/\i_< (r_.length:Int)))
@[go_sem] noncomputable def oW:List SV->Option Con:=(pD .claim fun y=>(pX .judgement fun x_=>(pXR .claim fun r_=>(pX .int fun i_=>(pE (.det (ir y x_ r_ i_) (.v (.bool (gB y x_ r_ i_)))))))))
theorem uN:FnOk Tryz.prog 141 oW:=by
 have hG:ConsOk Tryz.prog (mkG [] []):=av cg0 cg0;refine ax [.o] mixed am hG (fn:=Tryz.f141) (c:=aa Tryz.f141) kr kr kr kr (a7 fun y=>(aP fun x_=>(BM fun r_=>(aP fun i_=>(aj (fun hp=>?_))))));dsimp only[aw]at hp;unfold ir at hp;refine⟨nbl rfl,L0,ag _,?_⟩;unfold aa Tryz.f141;try unfold gB
 exact zq1
@[go_sem] def bX (s_:List Claim)(x_:Judgement)(r_:List Claim)(i_:Int)(k_0:Nat)(s_0:Unit):Int⊕Unit:=(bif(gB (s_.getD k_0 default) x_ r_ i_)then .inl (k_0:Int)else .inr ())
def bO (s_:List Claim)(x_:Judgement)(r_:List Claim)(i_:Int)(k_0:Nat)(s_0:Unit):Prop:=(ir (s_.getD k_0 default) x_ r_ i_)
def aJ (s_:List Claim)(x_:Judgement)(r_:List Claim)(i_:Int):Int:=(match aq (bX s_ x_ r_ i_) s_.length 0 ()with| .inl x_0_0=>x_0_0| .inr s_0=>(-1))
def b8 (s_:List Claim)(x_:Judgement)(r_:List Claim)(i_:Int):Prop:=(s_.length<=aI->okI (bX s_ x_ r_ i_) (bO s_ x_ r_ i_) s_.length 0 ())
@[go_sem] noncomputable def dy:List SV->Option Con:=(pR .claim fun s_=>(pFn 141 (pX .judgement fun x_=>(pXR .claim fun r_=>(pX .int fun i_=>(pE ((pE (.det (b8 s_ x_ r_ i_) (.v (.int .i64 (aJ s_ x_ r_ i_))))))))))))
theorem fQ:FnOk Tryz.prog 142 dy:=by
 have hG:ConsOk Tryz.prog (mkG [(141,oW)] []):=av (cgc uN cg0) cg0;refine ax [.o] mixed am hG (fn:=Tryz.f142) (c:=aa Tryz.f142) kr kr kr kr (bB fun s_=>(bI (aP fun x_=>(BM fun r_=>(aP fun i_=>(aj ((aj (fun hp=>?_)))))))));dsimp only[aw]at hp;unfold b8 at hp;refine⟨nbl rfl,(fun id st=>bif Nat.beq id 0 then some (LCR (ρ:=Int) (σ:=Unit) 0 [] [] (fun k_0 s_0=>⟨[(0,.rs .claim s_),(1,.fn 141 [] [.ep (cellsOf .judgement x_) 0,.ep [.rs .claim r_] 0,.ep [.v (.int .i64 i_)] 0]),(7,.v (.int .i64 (s_.length:Int))),(8,.v (.int .i64 (k_0:Int)))],[]⟩) (bX s_ x_ r_ i_) (bO s_ x_ r_ i_) s_.length () (s_.length<=aI) (fun _=>.ret) (fun x_0_0=>⟨[(4,.v (.int .i64 x_0_0))],[]⟩) st)else none),?_,?_⟩;unfold aa Tryz.f142;simp only[ap,true_and,and_true];refine a8 mixed am hG kr (fun _=>rfl) (s_.length:Int) rfl iB (fun hb0 k_0 s_0 hlt0 hq0 hw hc=>⟨L0,ag _,?_⟩) (fun hb0 s_0 hc=>?_);unfold bO at hq0;try simp only[hw,air]at hq0
 exact bT (jl []);exact bN (jl []);unfold aa Tryz.f142;try unfold aJ
 exact zq1
@[go_sem] noncomputable def dD:List SV->Option Con:=fun l=>(dy l)
theorem kw:FnOk Tryz.prog 142 dD:=fQ
@[go_sem] def ci (x:Judgement)(l_:List Claim)(k_0:Nat)(s_0:Int×List Claim×Int):(List Claim)⊕(Int×List Claim×Int):=letI q6:=i64.wrap (s_0.1 - 1);letI q8:=Int.toNat s_0.1;letI q1:=s_0.2.1.getD q8 default;letI q3:=if s_0.2.2<q1.litres then s_0.2.2 else q1.litres;letI q0:=s_0.2.1.set q8 ({ right:=q1.right,farm:=q1.farm,hour:=q1.hour,litres:=(i64.wrap (q1.litres - q3)),rank:=q1.rank}:Claim);letI q4:=aJ q0 x q0 s_0.1;letI q2:=q0.getD (Int.toNat q4) default;letI q5:=q0.getD q8 default;letI q7:=i64.wrap (s_0.2.2 - q3);(bif(decide (s_0.1>=0))then(bif(q1.farm !=x.farm)then .inr (q6,s_0.2.1,s_0.2.2)else(bif(decide (q4>=0))then .inr (q6,(q0.set (Int.toNat q4) ({ right:=q2.right,farm:=q2.farm,hour:=q2.hour,litres:=(i64.wrap (q2.litres+q3)),rank:=q2.rank}:Claim)),q7)else .inr (q6,(q0++([({ right:=q5.right,farm:=x.other,hour:=q5.hour,litres:=q3,rank:=q5.rank}:Claim)])),q7)))else .inl s_0.2.1)
def cn (x:Judgement)(l_:List Claim)(k_0:Nat)(s_0:Int×List Claim×Int):Prop:=letI q3:=0<=s_0.1/\s_0.1< (s_0.2.1.length:Int);letI q7:=Int.toNat s_0.1;letI q1:=s_0.2.1.getD q7 default;letI q5:=if s_0.2.2<q1.litres then s_0.2.2 else q1.litres;letI q0:=s_0.2.1.set q7 ({ right:=q1.right,farm:=q1.farm,hour:=q1.hour,litres:=(i64.wrap (q1.litres - q5)),rank:=q1.rank}:Claim);letI q2:=aJ q0 x q0 s_0.1;letI q4:=q0.getD q7 default;letI q6:=0<=q2/\q2< (q0.length:Int);((decide (s_0.1>=0))=true->(q3/\((q1.farm !=x.farm)=false->(q3/\(q3/\(q3/\((b8 q0 x q0 s_0.1)/\(((decide (q2>=0))=true->(q6/\q6))/\((decide (q2>=0))=false->((0<=s_0.1/\s_0.1< (q0.length:Int))/\((q0++([({ right:=q4.right,farm:=x.other,hour:=q4.hour,litres:=q5,rank:=q4.rank}:Claim)])).length*40<=di)))))))))))
def cC (x:Judgement)(l_:List Claim):List Claim:=(match aq (ci x l_) (l_.length+1) 0 ((i64.wrap ((l_.length:Int) - 1)),l_,x.n)with| .inl x_0_0=>x_0_0| .inr s_0=>default)
def dc (x:Judgement)(l_:List Claim):Prop:=letI q0:=((i64.wrap ((l_.length:Int) - 1)),l_,x.n);letI q1:=ci x l_;(l_.length<=aI->(okI q1 (cn x l_) (l_.length+1) 0 q0/\(∀ z_,aq q1 (l_.length+1) 0 q0≠ .inr z_)))
noncomputable def lp:List SV->List Ob->Option HCon:=r7 (fun x_:Judgement×(List Claim) =>[.os 0,.agg (cellsOf .judgement x_.1)]) (fun x_=>[.row .claim x_.2]) (fun x_=>jF (dc x_.1 x_.2) (.os 1) [.dead,.row .claim (cC x_.1 x_.2)])
@[go_sem] theorem F_ (x:Judgement)(l_:List Claim):lp ([.os 0,.agg [.v (.int .i64 x.no),.v (.int .i64 x.hour),.v (.int .i64 x.kind),.v (.int .i64 x.farm),.v (.int .i64 x.other),.v (.int .i64 x.since),.v (.int .i64 x.to),.v (.int .i64 x.n),.v (.int .i64 x.of_)]]) ([.row .claim l_])=some (jF (dc x l_) (.os 1) [.dead,.row .claim (cC x l_)]):=oS (A:=fun x_:Judgement×(List Claim) =>[.os 0,.agg (cellsOf .judgement x_.1)]) (H:=fun x_=>[.row .claim x_.2]) (K:=fun x_=>jF (dc x_.1 x_.2) (.os 1) [.dead,.row .claim (cC x_.1 x_.2)]) (x:=(x,l_))
theorem zq62 {l0:List Nat}(a0:JL l0){p:Prop}(h:JL l0->p:=by intro ja;simp only[go_sem,Nat.reduceBEq,Nat.reduceLeDiff,Nat.reduceLT,decide_true,Nat.reduceAdd,Nat.reduceSub,Nat.reduceMul,Int.reduceLE,Int.reduceLT,Int.reduceToNat,Int.reduceNeg,reduceCtorEq,dD];all_goals exact ke ja):p:=h a0
theorem wo:FnOkO Tryz.prog 89 (lp):=by
 have hG:ConsOk Tryz.prog (mkG [(142,fun l=>dD (bD [.sl .claim,.o] l))] []):=av (cgc (kw.norm [.sl .claim,.o]) cg0) cg0;refine qI mixed am hG (fn:=Tryz.f89) (c:=aa Tryz.f89) kr kr kr kr fun l o con h=>?_;obtain⟨⟨x,l_⟩,rfl,rfl,rfl⟩:=mb h;clear h;try dsimp only
 refine⟨_,_,_,rfl,fun hp=>?_⟩;unfold dc at hp;refine⟨nbl rfl,(fun id st=>bif Nat.beq id 0 then some (LCV (ρ:=(List Claim)) (σ:=(Int×List Claim×Int)) 4 [] [0,1,2,3,3,0] (fun k_0 s_0=>⟨[(2,.ptr 1 0),(3,.ptr 2 0),(5,.v (.int .i64 s_0.2.2)),(6,.ptr 4 0)],[.dead,.cells [.os 5],.cells (cellsOf .judgement x),.dead,.cells [.v (.int .i64 s_0.1)],.row .claim s_0.2.1]⟩) (ci x l_) (cn x l_) (l_.length+1) ((i64.wrap ((l_.length:Int) - 1)),l_,x.n) (fun _=>.normal) (fun x_0_0=>⟨[(2,.ptr 1 0)],[.dead,.cells [.os 5],.dead,.dead,.dead,.row .claim x_0_0]⟩) st)else none),?_,?_⟩;unfold aa Tryz.f89;simp only[ap,true_and,and_true,and_assoc];refine uB mixed am hG kr (fun _=>rfl) fun k_0 s_0 hq0=>⟨L0,ag _,?_⟩;unfold cn at hq0;exact TU (jl [0,1,2,3,6,5]) (jl [0,1,2,3,9,8]) (jl [0,1,2,3,4,5]);unfold aa Tryz.f89;try unfold cC
 exact zq62 (jl [0,5])
end Go.Sx
end
section
namespace Go.Sx
def aaD {α:Type}:Result α->World
 | .ok _ w=>w| .halt _ w=>w
theorem Ns {α:Type}:∀ (a:Ask α) (w:World),w.drawn<=(w.ask a).2.drawn
 | .done a,w=>aio _
 | .ask what range k,w=>by
  unfold World.ask;dsimp only;split
  exact Ns _ w;exact aiR (Nat.le_succ _) (Ns _ { w with drawn:=w.drawn+1})
theorem aaE (w:World)(c:Sys):w.drawn<=(w.sys c).2.drawn:=by
 unfold World.sys;have:=Ns (Kernel.perform c w.os) w;grind
theorem Lq {p:Program}{w w':World}{a:Addr}{v:Value}{b:Bool}{l:List Addr}(h:w.farStore p a v b=.ok (w',l)):w'.drawn=w.drawn:=by
 unfold World.farStore at h;split at h
 ·split at h
  ·rename_i r hr;cases h;unfold World.viewStore at hr;simp only[bind,Except.bind,pure,Except.pure]at hr
   repeat' split at hr
   all_goals (first|(cases hr;done) |skip)
   all_goals (cases hr;rfl)
  cases h
 cases h
theorem JH {α:Type}(p:Program):∀ (s:Sem α) (w:World),w.drawn<=(aaD (s.run p w)).drawn:=by
 intro s;induction s with
 |pure a=>intro w;exact aio _
 |load m a k ih=>
  intro w;unfold Sem.run;split
  exact ih _ w;split
  exact ih _ w;exact aio _
 |store m a v k ih=>
  intro w;cases v
  case agg=>exact aio _
  case tuple=>exact aio _
  all_goals
   simp only[Sem.run];split
   split
   exact aio _;exact ih (w.setCell a _);split
   rename_i h;rw[<-Lq h];exact ih _;exact aio _
 |new o k ih=>intro w;exact ih w.heap.size { w with heap:=w.heap.push o}
 |shape r k ih=>intro w;exact ih _ _
 |freeze a n k ih=>
  intro w;have:(w.freeze a n).drawn=w.drawn:=by grind [World.freeze]
  rw[<-this];exact ih _
 |frozen a k ih=>intro w;exact ih _ _
 |getObj r k ih=>
  intro w;unfold Sem.run;split
  exact aio _;exact ih _ _;exact aio _
 |setObj r o k ih=>
  intro w;unfold Sem.run;split
  exact aio _;grind
  exact aio _
 |choose q k ih=>
  grind [Sem.run]
 |sys c k ih=>intro w;exact aiR (aaE w c) (ih _ _)|program k ih=>intro w;exact ih _ _|mark m k ih=>intro w;exact ih _|halt h=>intro w;exact aio _
theorem TV {α:Type}(p:Program):∀ (s:Sem α) (w:World) (es:Array Event),(s.runT p w es).1=s.run p w:=by
 simp_all
theorem n9 {α:Type}{p:Program}{s:Sem α}{w w':World}{a:α}(h:s.run p w=.ok a w'):w.drawn<=w'.drawn:=by have:=JH p s w;rw[h]at this;exact this
theorem TW {α:Type}{p:Program}{s:Sem α}{w w':World}{a:Halt}(h:s.run p w=.halt a w'):w.drawn<=w'.drawn:=by have:=JH p s w;rw[h]at this;exact this
theorem t8 {α:Type}{p:Program}{s:Sem α}{w:World}{es es':Array Event}{r:Result α}(h:s.runT p w es=(r,es')):w.drawn<=(aaD r).drawn:=by
 have:=TV p s w es;rw[h]at this;have h2:=JH p s w;grind
def gLe (w:World):GStep->Prop
 | .ended .. =>True| .go _ w' _| .comm _ _ _ _ w' _| .spawn _ _ w' _| .count _ w' _| .timer _ _ w' _| .alone _ _ w' _| .newcoro _ _ _ w' _| .coroswitch _ _ _ w' _| .collect _ w' _| .watch _ w' _=>w.drawn<=w'.drawn
theorem gLe.after {w:World}{es:Array Event}{s:GStep}(h:gLe w s):gLe w (s.after es):=by cases s <;>exact h
theorem gLe.trans {w w':World}{s:GStep}(h1:w.drawn<=w'.drawn)(h:gLe w' s):gLe w s:=by cases s <;>first|trivial|exact aiR h1 h
theorem Ei {c:Prop}[Decidable c]{w:World}{a b:GStep}(h1:gLe w a)(h2:gLe w b):gLe w (if c then a else b):=by grind
theorem vU (fr:Frame)(m:String)(w:World):gLe w (endThrow fr m w):=aio _
theorem zc (p:Program)(fr:Frame)(v:Value)(w:World):gLe w (endPrinting p fr v w):=by
 unfold endPrinting;dsimp only;split
 exact vU _ _ _;trivial
theorem DD (p:Program)(fr:Frame)(callers:List Frame)(dying:Option Dying)(m:String)(w:World):gLe w (endFatal p fr callers dying m w):=by
 unfold endFatal
 extract_lets
 split
 rename_i h;exact n9 h;trivial;trivial
theorem Nt (p:Program)(fr:Frame)(d:Dying)(f:Fatal)(w:World):gLe w (writeOn p fr d f w):=by
 unfold writeOn
 extract_lets
 split
 trivial
 extract_lets
 generalize h:Sem.runT _ _ _ _=rr;obtain⟨r,es⟩:=rr;have h:=t8 h;split
 rename_i e;cases e;exact h;rename_i e;cases e;exact h;trivial;trivial
theorem Nu (w w':World)(fd:Nat)(t:ByteArray)(o:Outcome):gLe w (endWith w' fd t o):=by
 unfold endWith
 extract_lets
 split
 split <;>trivial
 trivial;trivial
theorem aaF (p:Program)(fr:Frame)(d:Dying)(w:World):gLe w (die p fr d w):=by
 unfold die;split
 exact Nt _ _ _ _ _
 ·split
  split
  exact aio _;exact Nu _ _ _ _ _
  ·extract_lets
   split
   exact aio _;split
   rename_i h;exact n9 h;trivial
   ·split
    rename_i h;have h:=t8 h;refine gLe.after ?_;split
    all_goals first|exact h|trivial|exact gLe.trans h (zc _ _ _ _)
   trivial
theorem zd (p:Program)(main:Bool)(fr:Frame)(callers:List Frame)(dying:Option Dying)(v:Value)(w:World):gLe w (doReturn p main fr callers dying v w):=by
 unfold doReturn;split
 ·split
  all_goals exact aio _
 split
 exact aio _;trivial;split
 exact aio _;split
 exact aio _;trivial
theorem D3 (p:Program)(fr:Frame)(callers:List Frame)(dying:Option Dying)(d:Deferred)(w:World):gLe w (callDeferred p fr callers dying d w):=by
 unfold callDeferred;refine Ei trivial ?_;rcases h:(invoke d.target d.args).runT p w #[]with⟨r,es⟩;have h:=t8 h;dsimp only;refine gLe.after ?_;split
 all_goals first|exact h|trivial|exact gLe.trans h (DD _ _ _ _ _ _) |exact gLe.trans h (vU _ _ _) |skip
 split <;>exact h
theorem QZ (p:Program)(main:Bool)(fr:Frame)(callers:List Frame)(dying:Option Dying)(w:World):gLe w (unwind p main fr callers dying w):=by
 unfold unwind;split
 split
 rename_i h;have h:=t8 h;refine gLe.after ?_;split
 exact h;trivial;exact D3 _ _ _ _ _ _;split
 trivial;split
 trivial;split
 exact aio _;split
 split
 exact aio _;split
 rename_i h;exact n9 h;trivial;trivial;split
 exact zc _ _ _ _;trivial;split
 exact zd _ _ _ _ _ _ _;split
 rename_i h;have h:=t8 h;refine gLe.after ?_;split
 exact gLe.trans h (zd _ _ _ _ _ _ _);trivial;trivial
theorem TX (p:Program)(fr:Frame)(callers:List Frame)(dying:Option Dying)(g:Nat)(w:World):gLe w (early p fr callers dying g w):=by
 unfold early
 extract_lets refuse notYet there
 have hn:∀ w0:World,w.drawn<=w0.drawn->gLe w (notYet w0):=fun w0 h0=>by
  show gLe w (match w0.heap[g]? with|some (.pending c elem) =>_|_=>_);split
  exact h0;trivial
 split
 grind
 split
 trivial
 extract_lets there
 have ht:∀ w0:World,w.drawn<=w0.drawn->gLe w (there w0):=fun w0 h0=>h0;split
 grind
 split
 grind
 split
 trivial;grind
 trivial;grind
 split
 grind
 split
 grind
 split
 rename_i h;exact hn _ (n9 h);rename_i h;exact ht _ (n9 h);trivial
theorem zf (p:Program)(listen:Bool)(fr:Frame)(callers:List Frame)(dying:Option Dying)(s:Sem Next)(w:World):gLe w (Go.stepG.apply p listen fr callers dying s w):=by
 unfold Go.stepG.apply
 extract_lets go kind
 have hr:∃ r es,(if listen=true then s.runT p w #[]else(s.run p w,#[]))=(r,es)/\w.drawn<=(aaD r).drawn:=by
  split
  rcases h:s.runT p w #[]with⟨r,es⟩;exact⟨r,es,rfl,t8 h⟩;exact⟨_,_,rfl,JH p s w⟩
 obtain⟨r,es,he,h⟩:=hr;rw[he];dsimp only;refine gLe.after ?_;have hgo:∀ fr w0,w.drawn<=w0.drawn->gLe w (go fr w0):=fun fr w0 h0=>h0;split
 all_goals first|exact h|trivial|exact hgo _ _ h|exact gLe.trans h (DD _ _ _ _ _ _) |exact gLe.trans h (vU _ _ _) |exact gLe.trans h (TX _ _ _ _ _ _) |skip
 all_goals first|(refine Ei (gLe.trans h (vU _ _ _)) ?_;exact h) |(split <;>first|exact h|trivial|exact hgo _ _ h)
theorem Xr (p:Program)(listen:Bool)(fr:Frame)(callers:List Frame)(dying:Option Dying)(w:World):gLe w (Go.stepG.oper p listen fr callers dying w):=by
 unfold Go.stepG.oper;split
 trivial;split
 exact zf _ _ _ _ _ _ _;exact zf _ _ _ _ _ _ _
theorem O8 {α:Type}{w:World}{o:Option α}{a:GStep}{f:α->GStep}(h1:gLe w a)(h2:∀ x,gLe w (f x)):gLe w (o.elim a f):=by cases o;exact h1;exact h2 _
theorem Xs (p:Program)(main listen:Bool)(fr:Frame)(callers:List Frame)(dying:Option Dying)(w:World):gLe w (Go.stepG.exec p main listen fr callers dying w):=by
 unfold Go.stepG.exec
 extract_lets go to lost leave
 have hgo:∀ fr w0,w.drawn<=w0.drawn->gLe w (go fr w0):=fun fr w0 h0=>h0;have hto:∀ k,gLe w (to k):=fun k=>aio _;have hlost:∀ m,gLe w (lost m):=fun _=>trivial;have hleave:∀ j,gLe w (leave j):=fun j=>by
  show gLe w (match fr.roundOf with|none=>_|some l=>_);split
  grind
  rcases h:(Instr.endRound _ j).runT p w #[]with⟨r,es⟩;have h:=t8 h;dsimp only;refine gLe.after ?_;split
  exact gLe.trans h (zd _ _ _ _ _ _ _);trivial
 have hgo1:∀ fr,gLe w (go fr w):=fun fr=>aio _
 clear_value to lost leave
 split
 all_goals first|exact hleave _|exact hto _|exact hlost _|trivial|exact O8 (hleave _) hto|exact zf _ _ _ _ _ _ _|exact O8 (hlost _) (fun _=>zf _ _ _ _ _ _ _) |skip
 grind
 rcases h:(Instr.enterLoop fr.fn fr.tmps _ _ _ fr.roundOf).runT p w #[]with⟨r,es⟩;have h:=t8 h;dsimp only;refine gLe.after ?_;split
 exact gLe.trans h (zf _ _ _ _ _ _ _);trivial;rcases h:(Instr.endLoop _).runT p w #[]with⟨r,es⟩;have h:=t8 h;dsimp only;refine gLe.after ?_;split
 exact hgo _ _ h;exact hgo _ _ h;trivial;refine Ei (hto _) ?_;split
 rename_i h;exact hgo _ _ (n9 h);trivial;exact Ei (Xr _ _ _ _ _ _) (hgo1 _)
theorem TY (p:Program)(main:Bool)(g:Goroutine)(w:World)(listen:Bool):gLe w (Go.stepG p main g w listen):=by
 unfold Go.stepG;obtain⟨fr,callers,st,dying,off⟩:=g;dsimp only;split
 exact aaF _ _ _ _;exact Xs _ _ _ _ _ _ _;exact QZ _ _ _ _ _ _
def sLe (w:World):Stepped->Prop
 | .next m=>w.drawn<=m.world.drawn| .ended .. =>True
theorem sLe.trans {w w':World}{s:Stepped}(h1:w.drawn<=w'.drawn)(h:sLe w' s):sLe w s:=by cases s <;>first|trivial|exact aiR h1 h
theorem O9 {c:Prop}[Decidable c]{w:World}{a b:Stepped}(h1:sLe w a)(h2:sLe w b):sLe w (if c then a else b):=by grind
theorem O_ (p:Program)(gs:Array Goroutine)(rest:Rest)(w:World):sLe w (look p gs rest w):=by
 unfold look;split
 extract_lets
 refine O9 trivial ?_;split
 trivial
 extract_lets
 split
 rename_i h;have h:=n9 h;exact h;trivial;trivial;trivial
theorem JI {rest:Rest}{cases:Array CommCase}{w w':World}(h:waitingAt rest cases w=some w'):w.drawn<=w'.drawn:=by
 grind [waitingAt]
theorem Ga (p:Program)(rest:Rest)(gs:Array Goroutine)(i:Nat)(g:Goroutine)(cases:Array CommCase)(bl:Bool)(shape:CommShape)(w:World):sLe w (communicate p rest gs i g cases bl shape w).1:=by
 unfold communicate
 extract_lets put illMade me other
 have hput:∀ g gs w0 ops,w.drawn<=w0.drawn->sLe w (put g gs w0 ops).1:=fun _ _ _ _ h=>h;split
 trivial;split
 split
 split
 rename_i h;exact JI h;trivial;simp_all;split
 trivial;rename_i h;have hw:=n9 h;clear h
 extract_lets r
 split
 split
 rename_i h2;exact hput _ _ _ _ (aiR hw (TW h2));trivial;simp_all;simp_all
 extract_lets
 split
 simp_all;split
 rename_i h2;have h3:=n9 h2;exact hput _ _ _ _ (aiR hw h3);trivial;simp_all;simp_all;trivial
theorem H8 (m:Machine)(k:Nat)(t:Timer)(a b:Nat):m.world.drawn<=(retime m k t a b).2.world.drawn:=by
 grind [retime,drain]
theorem Nv {m m':Machine}{op:TimerOp}{v:Value}(h:timerOp m op=.ok (v,m')):m.world.drawn<=m'.world.drawn:=by
 have named:∀ (D:Nat) (m0:Machine) var f,(∀ k t,D<=(f k t).2.world.drawn)->timerOp.named m0 var f=.ok (v,m')->D<=m'.world.drawn:=fun D m0 var f hf h=>by
  grind [timerOp.named]
 unfold timerOp at h;split at h
 split at h
 cases h;exact aio _;grind
 exact named _ _ _ _ (fun k t=>H8 _ _ _ _ _) h;split at h
 rename_i m1 ho;have h1:m.world.drawn<=m1.world.drawn:=by
  grind [timerOp.opened]
 exact aiR h1 (named m1.world.drawn _ _ _ (fun k t=>H8 _ _ _ _ _) h);cases h;cases h;exact aio _
theorem TZ (p:Program)(m:Machine)(i:Nat)(listen:Bool):sLe m.world (Go.runT p m i listen).1:=by
 unfold Go.runT
 extract_lets rest world
 split
 extract_lets wake fn pos s ops done
 have hs:gLe m.world s:=TY _ _ _ _ _;have hd:∀ r,(done r).1=r:=fun r=>rfl
 clear_value s done
 split
 all_goals try rw[hd]
 trivial;split
 rename_i h;have:=Ga p rest ‹_› i ‹_› ‹_› ‹_› ‹_› ‹_›;rw[h]at this;exact sLe.trans hs this;exact hs;exact hs;exact O9 trivial hs;exact hs;exact sLe.trans hs (O_ _ _ _ _);exact hs;exact hs;split
 exact hs;split
 rename_i h;simp only[endThrow,dieOf]at h;cases h;exact hs;trivial;trivial;split
 rename_i h;exact aiR hs (Nv h);exact hs;trivial;trivial
theorem T0 (p:Program)(m:Machine)(k:Nat):sLe m.world (serve p m k):=by
 unfold serve;split
 trivial;exact aio _
 extract_lets
 split
 trivial;exact aio _
def mLe (w:World):Move->Prop
 | .goroutine m _=>w.drawn<=m.world.drawn| .machine s _=>sLe w s
theorem mLe.trans {w w':World}{s:Move}(h1:w.drawn<=w'.drawn)(h:mLe w' s):mLe w s:=by
 cases s;exact aiR h1 h;exact sLe.trans h1 h
theorem Gb (p:Program)(m:Machine):mLe m.world (askOn p m):=by
 unfold askOn
 extract_lets mono rs ds pick
 have hpick:∀ m0:Machine,m.world.drawn<=m0.world.drawn->mLe m.world (pick m0):=fun m0 h0=>by
  show mLe m.world (match (choose (.sched rs.length)).run p m0.world with| .halt _ w=>_| .ok k world=>_);split
  trivial;rename_i h;have h1:=n9 h;split
  exact aiR h0 h1;split
  trivial;rename_i h2;have h2:=n9 h2;exact aiR h0 (aiR h1 h2)
 clear_value pick rs ds
 split
 trivial;rename_i h;have hw:=n9 h;clear h
 extract_lets m1
 split
 exact sLe.trans hw (T0 p _ _);cases rs with
 |nil=>
  dsimp only;split
  exact hw;split
  exact hw;split <;>trivial
 |cons r rs=>
  dsimp only;split
  grind
  split
  trivial;rename_i h;have h2:=n9 h;grind;rename_i h;have h2:=n9 h;exact aiR hw h2;rename_i h;have h2:=n9 h;exact hpick _ (aiR hw h2)
theorem Lr (p:Program)(m:Machine):mLe m.world (ask p m):=by
 unfold ask;split
 split
 trivial;rename_i h;have hw:=n9 h;have:=O_ p m.gs m.rest ‹World›;split
 rename_i m2 h2;rw[h2]at this;exact mLe.trans (aiR hw this) (Gb p _);rename_i e h2;exact sLe.trans hw this;rename_i h;have hw:=n9 h;exact mLe.trans hw (Gb p _);exact Gb p m
theorem Xt (p:Program)(m:Machine):mLe m.world (move p m):=by
 unfold move;split
 split
 exact aio _;trivial;split
 split
 exact aio _;exact Lr p _;exact Lr p m
theorem Xu (p:Program)(m:Machine):sLe m.world (step p m):=by
 unfold step stepT;have:=Xt p m;split
 rename_i h;rw[h]at this;exact sLe.trans this (TZ p _ _ _);rename_i h;rw[h]at this;exact this
theorem Ls {p:Program}{m m':Machine}(h:Steps p m m'):m.world.drawn<=m'.world.drawn:=by
 obtain⟨n,hn⟩:=h;induction n generalizing m with
 |zero=>grind [runN]
 |succ n ih=>
  simp only[runN]at hn;have:=Xu p m;cases hs:step p m with
  |next m1=>
   rw[hs]at hn this;exact aiR this (ih hn)
  |ended o w=>grind
theorem DE {P:Program}{f:FuncId}{args:Array Value}{w:World}{R:Ending->World->Prop}(h:Calls P f args w R):Calls P f args w fun e w'=>R e w'/\(e≠ .outgrown->w.drawn<=w'.drawn):=by
 intro cs;obtain⟨e,w',fr,hr,hc,hf,hl⟩:=h cs;refine⟨e,w',fr,⟨hr,fun hne=>?_⟩,hc,hf,hl⟩;cases e with
 |returned v=>exact Ls (p:=P) hc|panicked c=>exact Ls (p:=P) hc|outgrown=>grind
end Go.Sx
end
section
namespace Go.Sx
open Go.Lib Go.Proofs Go.RowKit Go.Shelf Go.Sort
def aeU:SV->Value
 | .v x=>x|_=>undef
def mC (k:Tag)(x:k.T):List Value:=(cellsOf k x).map aeU
def C1 (k:Tag):Prop:= ∀ (x:k.T) (s:SV),s∈cellsOf k x->∃ v,s=.v v/\v.oneCell'=true
def srt {α:Type}(cf:α->α->Int)(l:List α):List α:=l.mergeSort fun x y=>!(ltOf cf y x)
def apart {α:Type}(cf:α->α->Int)(l:List α):Prop:= ∀ x∈l,∀ y∈l,ltOf cf x y=false->ltOf cf y x=false->x=y
theorem Gc {α:Type}[Inhabited α]{cf:α->α->Int}(hO:SWO (ltOf cf)){l:List α}(h:apart cf l){d':Array α}(hp:PermIn 0 l.toArray.size l.toArray d')(hs:SortedIn (ltOf cf) 0 l.toArray.size d'):d'=(srt cf l).toArray:=by
 obtain⟨hsz,_,hperm⟩:=hp;have e1:d'.extract 0 l.toArray.size=d':=by grind
 rw[e1,Array.extract_size]at hperm;have hperm:d'.toList.Perm l:=by omega
 have:d'.toList=srt cf l:=by
  refine aj9 (le:=fun x y=>(!ltOf cf y x)=true) ?_ ?_ ?_ (hperm.trans (ajI _ _).symm);intro a b ha hb h1 h2;simp only[aiE]at h1 h2;exact h a (hperm.subset ha) b ((ajI _ _).subset hb) h2 h1;rw[aiH];intro i j hi hj hij;have:=hs i j (aiX _) hij (by grind);grind
  refine ajM (fun a b c h1 h2=>?_) (fun a b=>?_) l;simp only[aiE]at h1 h2 |-;exact hO.ntrans c b a h2 h1;simp only[aiV,aiE];cases h1:ltOf cf b a with
  |false=>grind
  |true=>
   right;cases h2:ltOf cf a b with
   |false=>rfl
   |true=>
    have h3:=hO.trans a b a h2 h1;rw[hO.irrefl]at h3;cases h3
 rw[<-this]
section
variable {P:Program}{ρ:Ren}{F:Nat->Prop}{own:Own}{w:World}{k:Tag}
theorem H9 (hk:C1 k){l:List k.T}{o:Nat}{cs:Array Value}(h:RowAt F own w k l o cs){i j:Nat}(hi:i<l.length)(hj:j<ae k):cs[o+i*ae k+j]? =(mC k l[i])[j]?:=by
 have e1:=aiv hi;have hlen:j< (cellsOf k l[i]).length:=by grind [bv]
 have e2:=aiv hlen;obtain⟨u,h1,h2⟩:=h i _ e1 j _ e2;obtain⟨v,h3,_⟩:=hk l[i] _ (ai_ hlen);rw[h1];unfold mC;rw[ai7,e2];rw[h3]at h2 |-;rw[bR h2];rfl
theorem H_ (hk:C1 k){l:List k.T}{o:Nat}{cs:Array Value}(h:∀ i j,(hi:i<l.length)->j<ae k->cs[o+i*ae k+j]? =(mC k l[i])[j]?):RowAt F own w k l o cs:=by
 intro i x hi j s hj;obtain⟨hl,rfl⟩:=aiq.1 hi;have hlen:=(aiq.1 hj).1;rw[bv]at hlen;have:=h i j hl hlen;unfold mC at this;rw[ai7,hj]at this;obtain⟨v,h3,_⟩:=hk _ s (aiw hj);subst h3;exact⟨v,this,.v v⟩
theorem Pa {w w':World}(hb:Go.RowKit.Below w.heap.size w w')(hd:w.drawn<=w'.drawn):∃ q os,w'=grow (w.drewN q) os:=by
 refine⟨w'.drawn - w.drawn,w'.heap.extract w.heap.size w'.heap.size,?_⟩;obtain⟨h1,h2,h3,h4,h5⟩:=hb;obtain⟨heap,tape,drawn,os,output⟩:=w;obtain⟨heap',tape',drawn',os',output'⟩:=w';simp only at h1 h2 h3 h4 h5 hd;subst h1;subst h2;subst h3;unfold grow World.drewN;simp only[World.mk.injEq,true_and,and_true];grind
end
open Classical in
noncomputable def n_ (k:Tag)(g:FuncId)(caps:List SV)(cf:k.T->k.T->Int):List SV->List Ob->Option HCon:=fun l h=>
 Nn k (fun l0=>if l=[.os 0,.fn g [] caps]then some (jF (apart cf l0) (.tup []) [.row k (srt cf l0)])else none) h
@[go_sem] theorem Az {k:Tag}{g:FuncId}{caps:List SV}{cf:k.T->k.T->Int}{l0:List k.T}:n_ k g caps cf [.os 0,.fn g [] caps] [.row k l0]=some (jF (apart cf l0) (.tup []) [.row k (srt cf l0)]):=by
 simp[n_,Nn]
section
variable {P:Program}{ρ:Ren}{k:Tag}
theorem T3 {w:World}{b:Nat}{cs:Array Value}{ty:TypeId}(hb:w.heap[b]? =some (.cells cs ty (0,0)))(D:Array Value)(o:Nat):(putRow id w b o D).heap[b]? =some (.cells (putCells id o D cs) ty (0,0)):=by
 unfold putRow mapBlock;simp only[Array.getElem?_modify,if_true,hb];rfl
theorem Lt {w:World}{b c:Nat}(hc:c≠b)(D:Array Value)(o:Nat):(putRow id w b o D).heap[c]? =w.heap[c]?:=by
 unfold putRow mapBlock;grind
theorem B3 {D cs:Array Value}{o t:Nat}(ht:t<D.size)(hs:o+t<cs.size):(putCells id o D cs)[o+t]? =D[t]?:=by
 unfold putCells;grind
theorem B4 {α:Type}[Inhabited α]{enc:α->List Value}{n:Nat}(hn:∀ x,(enc x).length=n){d:Array α}{i j:Nat}(hi:i<d.size)(hj:j<n):(flatK enc n d)[i*n+j]? =(enc d[i]!)[j]?:=by
 have hlt:i*n+j<d.size*n:=by
  have:=aiD n (show i+1<=d.size from hi);grind
 have h1:i*n+j< (flatK enc n d).size:=by simp_all
 rw[ajE h1,<-getElem!_pos (flatK enc n d) _ h1,get_flatK enc n d _ hlt];grind [Nat.mul_comm,Nat.mul_add_div,Nat.div_eq_of_lt,Nat.mul_add_mod,Nat.mod_eq_of_lt]
theorem aeV {α:Type}[Inhabited α]{enc:α->List Value}{n b o m:Nat}{w:World}{cs:Array Value}{ty:TypeId}(hb:w.heap[b]? =some (.cells cs ty (0,0)))(d:Array α)(os:Array Obj):(sortWorldK enc n w b o m d os).heap[b]? =some (.cells (putCells id o (flatK enc n d) cs) ty (0,0)):=by
 have hlt:b<w.heap.size:=(ajj.1 hb).1;unfold sortWorldK grow;simp only;rw[aiS (by unfold putRowK putRow mapBlock Sort.ahead;grind)];exact T3 (w:=Sort.ahead w m) hb _ _
theorem Pb {α:Type}[Inhabited α]{enc:α->List Value}{n b o m c:Nat}{w:World}(hc:c<w.heap.size)(hne:c≠b)(d:Array α)(os:Array Obj):(sortWorldK enc n w b o m d os).heap[c]? =w.heap[c]?:=by
 unfold sortWorldK grow;simp only;rw[aiS (by unfold putRowK putRow mapBlock Sort.ahead;grind)];exact Lt (w:=Sort.ahead w m) hne _ _
theorem zP {α:Type}[Inhabited α]{enc:α->List Value}{n b o m:Nat}{w:World}(d:Array α)(os:Array Obj):w.heap.size<=(sortWorldK enc n w b o m d os).heap.size:=by
 unfold sortWorldK grow putRowK putRow mapBlock Sort.ahead;simp
theorem DF (L:SlLaysF0.n6 P ρ)(aE:∀ w,(isAgg (ρ.t 24)).run P w=.ok true w)(zE:∀ w,(Go.sizeOf (ρ.t 24)).run P w=.ok (ae k) w)(hk:C1 k)(h0:0<ae k){g:FuncId}{caps:List SV}{C:List SV->Option Con}(hC:FnOk P g C){cf:k.T->k.T->Int}
  (hcf:∀ x y,C (.agg (cellsOf k x):: .agg (cellsOf k y)::caps)=some (.det True (.v (.int .i64 (cf x y))))) (hO:SWO (ltOf cf)) (hpf:∀ s∈caps,PF s) (hcf0:∃ x y,C (.agg (cellsOf k x):: .agg (cellsOf k y)::caps)=some (.det True (.v (.int .i64 (cf x y))))):FnOkO P (ρ.f 6) (n_ k g caps cf):=by
 haveI:Inhabited k.T:=⟨gz k⟩
 refine⟨fun l h c hc args w=>L.f6.enters rfl args w,fun l h c hc hp F own w vs hHp hvs=>?_⟩;unfold n_ at hc;obtain⟨l0,hh,hK⟩:=Lh hc;clear hc;subst hh;by_cases hl:l=[.os 0,.fn g [] caps]
 rotate_left
 grind
 rw[if_pos hl]at hK;subst hl;cases hK;have hp:apart cf l0:=hp;obtain⟨hsz,hrel⟩:=hvs;have r0:=hrel 0 _ rfl;have r1:=hrel 1 _ rfl;have hvs2:vs= #[vs.getD 0 undef,vs.getD 1 undef]:=by
  apply alc;omega;intro i h1 h2;simp only[ais,aiI]at hsz;match i,h1,h2 with
  |0,h1,_=>simp_all|1,h1,_=>simp_all|i+2,h1,_=>omega
 generalize vs.getD 0 undef=v0 at r0 hvs2;generalize vs.getD 1 undef=v1 at r1 hvs2;subst hvs2;obtain⟨hd,o0,rfl,_⟩:=jo r0;obtain⟨hd',o0',hrow⟩:=hHp.at (id:=0) (o:=.row k l0) rfl rfl;rw[o0]at o0';cases o0';have hrow:RowRel F own w k l0 hd.v hd.bs:=hrow;cases r1 with
 | @fn _ _ _ us cs s1 s2 c1 c2=>
 have hus:us= #[]:=ajK (by omega);subst hus;rcases hrow with⟨a,e1,rfl,e2⟩ | ⟨b,o,cap,cells,ty,e1,e2,e3,e4,e5,e6,e7⟩;rw[e1];refine(AnyF.slices_SortFunc_none L a 0 _ w).mono fun e w' he=>?_;obtain⟨rfl,rfl⟩:=he;refine⟨(),own,trivial,⟨_,rfl,.tup rfl fun j s hj=>by simp at hj⟩,?_,Fr.refl _,aio _⟩;simp_all [srt]
 ·have hbown:b∈hd.bs:=by rw[e2];simp
  have hbw:b<w.heap.size:=hHp.lt 0 hd b o0 hbown;have hkl:∀ x:k.T,(mC k x).length=ae k:=fun x=>by unfold mC;rw[ajn,bv]
  have hone:∀ x:k.T,∀ v∈mC k x,v.oneCell'=true:=fun x v hv=>by
   unfold mC at hv;rw[aki]at hv;obtain⟨s,hs,rfl⟩:=hv;obtain⟨v,rfl,h1⟩:=hk x s hs;exact h1
  have eg:∀ args w,(callFunc g args).run P w=.ok (.enter g args) w:=fun args w=>by
   obtain⟨x,y,hxy⟩:=hcf0;exact hC.enter _ _ hxy args w
  have hown:∀ id h2,own id=some h2->id=0:=fun id h2 e=>by have:=hHp.dom id h2 e;grind
  have hH:HoldsK (mC k) (ae k) w b o l0.toArray:=by
   intro t ht;rw[size_flatK]at ht;simp only[ajX]at ht;have hi:t / ae k<l0.length:=akQ (by grind);have hj:=akc t h0;have ht':t=t / ae k*ae k+t % ae k:=(Nat.div_add_mod' t _).symm;have q1:=H9 hk e7 hi hj;have q2:=B4 (enc:=mC k) hkl (d:=l0.toArray) (i:=t / ae k) (j:=t % ae k) (by omega) hj;grind [World.cell?,World.frozen?]
  have hcmp:CmpLays P g cs (mC k) (ae k) cf b o l0.toArray.size w:=by
   intro m os dk hdk x y;generalize hW:sortWorldK (mC k) (ae k) w b o m dk os=W;have hcar:Carries F own w F own W:=⟨fun _ h2 e=>⟨h2,e,.refl _⟩,fun c hc hn=>⟨hn,by
    rw[<-hW];exact Pb hc (fun e=>hn (.inr ⟨0,hd,o0,e▸hbown⟩)) _ _⟩⟩
   have henc:∀ z:k.T,Rel (fun _=>False) cF W (.agg (cellsOf k z)) (.agg (mC k z).toArray):=fun z=>by
    refine .agg (by simp[mC]) fun j s hj=>?_;obtain⟨v,rfl,_⟩:=hk z s (aiw hj);have:(mC k z).toArray.getD j undef=v:=by
     unfold mC;rw[aiB,ajT,ai7,hj];rfl
    rw[this];exact .v v
   have hcall:=DE (hC.calls _ _ (hcf x y) trivial (fun _=>False) W (#[.agg (mC k x).toArray,.agg (mC k y).toArray]++cs) (fun _ h=>h.elim) ⟨by grind,fun j s hj=>by
    match j,hj with
    |0,hj=>
     cases hj;simp_all [aiS]
    |1,hj=>
     cases hj;simp_all [aiS]
    |j+2,hj=>
     have hj:caps[j]? =some s:=hj;have:=((c2 j s hj).carry hcar).over (hpf s (aiw hj)) (F':=fun _=>False) (own':=cF) fun _ _ h=>by
      rcases h with h| ⟨_,_,h,_⟩;exact h;cases h
     simp_all [ajz]⟩)
   refine hcall.mono fun e w' hq=>?_;obtain⟨he,hdr⟩:=hq;rcases he with⟨s,u,own',hs,rfl,hh,hb⟩ | ⟨z,hz,_⟩;simp only[dw]at hs;subst hs;have:=hh.val;simp only[x4]at this;rw[bR this];exact⟨rfl,Pa hb (hdr (by simp))⟩;exact hz.elim
  have hall:=AnyQ.slices_SortFunc L (ae k) aE zE (mC k) hkl hone cf hO g cs b o cap l0.toArray w eg hcmp hH hbw (by grind [aI]);rw[e1];refine hall.mono fun e w' he=>?_;obtain⟨rfl,d',n,os,hpm,hst,rfl⟩:=he;have hd':=Gc hO hp hpm hst;subst hd';have hlS:(srt cf l0).length=l0.length:=akL _;generalize srt cf l0=lS at hlS;have hsb:=aeV (enc:=mC k) (n:=ae k) (o:=o) (m:=n) e3 lS.toArray os;refine⟨(),own,trivial,⟨_,rfl,.tup rfl fun j s hj=>by simp at hj⟩,?_,?_,aio _⟩;refine⟨hHp.dom,fun c hc=>aiy (hHp.foreign c hc) (zP _ _),hHp.apart,hHp.inj,fun i h2 c e hc=>aiy (hHp.lt i h2 c e hc) (zP _ _),fun i hi=>?_⟩;match i,hi with
  |0,_=>
   refine⟨hd,o0,?_⟩;show RowRel F own _ k lS hd.v hd.bs;refine .inr ⟨b,o,cap,_,ty,by grind,e2,hsb,?_,by omega,by omega,H_ hk fun i j hi hj=>?_⟩;unfold putCells;grind;have hlt:i*ae k+j< (flatK (mC k) (ae k) lS.toArray).size:=by
    rw[size_flatK];have:=aiD (ae k) (show i+1<=lS.length from hi);grind
   have hle:o+(i*ae k+j) <cells.size:=by
    rw[size_flatK]at hlt;simp only[ajX]at hlt;have:=aiD (ae k) (show lS.length<=cap by omega);omega
   rw[ajB,B3 hlt hle,B4 hkl (by omega) hj];grind
  |i+1,hi=>rw[qE (by simp)]at hi;cases hi
  refine⟨fun _ h2 e=>⟨h2,e,.refl _⟩,(Fr.refl { w:=w,own:=own}).base,rfl,rfl,rfl,zP _ _,fun c hc=>?_⟩;exact Pb hc.1 (fun e=>hc.2 ⟨0,hd,o0,e▸hbown⟩) _ _
end
open Classical in
noncomputable def Ia (k:Tag)(g:FuncId)(caps:List SV)(cf:k.T->k.T->Int):List SV->List Ob->Option HCon:=fun l h=>
 Nn k (fun l0=>match l with
  | [s0,.v (.int .i64 z),.v (.int .i64 n),.v (.int .i64 lim),f] =>if s0=.os 0/\f=.fn g [] caps then some (jF (z=0/\n=(l0.length:Int)/\0<=lim/\lim<4611686018427387904/\apart cf l0) (.tup []) [.row k (srt cf l0)])else none
  |_=>none) h
@[go_sem] theorem T4 {k:Tag}{g:FuncId}{caps:List SV}{cf:k.T->k.T->Int}{l0:List k.T}{z n lim:Int}:Ia k g caps cf [.os 0,.v (.int .i64 z),.v (.int .i64 n),.v (.int .i64 lim),.fn g [] caps] [.row k l0]=some (jF (z=0/\n=(l0.length:Int)/\0<=lim/\lim<4611686018427387904/\apart cf l0) (.tup []) [.row k (srt cf l0)]):=by
 simp[Ia,Nn]
theorem Xv {k:Tag}{g:FuncId}{caps:List SV}{cf:k.T->k.T->Int}{l:List SV}{h:List Ob}{c:HCon}(e:Ia k g caps cf l h=some c):∃ (z n lim:Int) (l0:List k.T),l=[.os 0,.v (.int .i64 z),.v (.int .i64 n),.v (.int .i64 lim),.fn g [] caps]/\h=[.row k l0]/\c=jF (z=0/\n=(l0.length:Int)/\0<=lim/\lim<4611686018427387904/\apart cf l0) (.tup []) [.row k (srt cf l0)]:=by
 unfold Ia at e;obtain⟨l0,hh,hK⟩:=Lh e;grind
section
variable {P:Program}{ρ:Ren}{k:Tag}
theorem Q0 {α:Type}[Inhabited α](L:SlLaysF0.n14 P ρ)(k:Nat)(aE:∀ w,(isAgg (ρ.t 24)).run P w=.ok true w)(zE:∀ w,(Go.sizeOf (ρ.t 24)).run P w=.ok k w)(enc:α->List Value)(hk:∀ x,(enc x).length=k)(h1:∀ x,∀ v∈enc x,v.oneCell'=true)(cf:α->α->Int)(hO:SWO (ltOf cf))(g:Nat)(cb:Array Value)(blk off cap:Nat)(d:Array α)(w:World)
  (eg:∀ args w,(callFunc g args).run P w=.ok (.enter g args) w) (hcmp:CmpLays P g cb enc k cf blk off d.size w) (hH:HoldsK enc k w blk off d) (hblk:blk<w.heap.size) (hsz:d.size<4611686018427387904) {lim:Nat} (hlim:lim<4611686018427387904):
  Calls P (ρ.f 14) #[.slice (some ⟨blk,off,none⟩) d.size cap,.int .i64 0,.int .i64 (d.size:Int),.int .i64 (lim:Int),.func (.func g) #[] cb] w fun e w'=>
   e=.returned (.tuple #[])/\∃ d' n os,PermIn 0 d.size d d'/\SortedIn (ltOf cf) 0 d.size d'/\w'=sortWorldK enc k w blk off n d' os:=by
 have hp:=AnyQ.pdqsortCmpFunc_all (P:=P) (ρ:=ρ) L k aE zE enc cf g cb hO blk off cap d w eg hcmp ⟨hk,h1,hH,hblk⟩ (d.size+1) 0 d.size lim d w (by omega) rfl (SWK.start hH) (aiX _) (aio _) hsz hlim (Or.inl rfl);refine hp.mono fun e w' he=>?_;obtain⟨rfl,n,os,rfl⟩:=he;have h:=pdq_sorts (ltOf cf) hO d 0 d.size lim true true (aiX _) (aio _) (Or.inl rfl);grind
theorem aaG (L:SlLaysF0.n14 P ρ)(aE:∀ w,(isAgg (ρ.t 24)).run P w=.ok true w)(zE:∀ w,(Go.sizeOf (ρ.t 24)).run P w=.ok (ae k) w)(hk:C1 k)(h0:0<ae k){g:FuncId}{caps:List SV}{C:List SV->Option Con}(hC:FnOk P g C){cf:k.T->k.T->Int}
  (hcf:∀ x y,C (.agg (cellsOf k x):: .agg (cellsOf k y)::caps)=some (.det True (.v (.int .i64 (cf x y))))) (hO:SWO (ltOf cf)) (hpf:∀ s∈caps,PF s) (hcf0:∃ x y,C (.agg (cellsOf k x):: .agg (cellsOf k y)::caps)=some (.det True (.v (.int .i64 (cf x y))))):FnOkO P (ρ.f 14) (Ia k g caps cf):=by
 haveI:Inhabited k.T:=⟨gz k⟩
 refine⟨fun l h c hc args w=>L.f14.enters rfl args w,fun l h c hc hp F own w vs hHp hvs=>?_⟩;obtain⟨z,n,lim,l0,rfl,hh,hK⟩:=Xv hc;clear hc;subst hh;subst hK;obtain⟨rfl,rfl,hl0,hl1,hp⟩:=hp;obtain⟨hsz,hrel⟩:=hvs;have r0:=hrel 0 _ rfl;have r1:=hrel 4 _ rfl;have q1:=bR (hrel 1 _ rfl);have q2:=bR (hrel 2 _ rfl);have q3:=bR (hrel 3 _ rfl);have hvs2:vs= #[vs.getD 0 undef,.int .i64 0,.int .i64 (l0.length:Int),.int .i64 lim,vs.getD 4 undef]:=by
  apply alc;omega;intro i h1 h2;simp only[ais,aiI]at hsz;match i,h1,h2 with
  |0,h1,_=>simp_all|1,h1,_=>simp_all|2,h1,_=>simp_all|3,h1,_=>simp_all|4,h1,_=>simp_all|i+5,h1,_=>omega
 clear q1 q2 q3;generalize vs.getD 0 undef=v0 at r0 hvs2;generalize vs.getD 4 undef=v1 at r1 hvs2;subst hvs2;obtain⟨hd,o0,rfl,_⟩:=jo r0;obtain⟨hd',o0',hrow⟩:=hHp.at (id:=0) (o:=.row k l0) rfl rfl;rw[o0]at o0';cases o0';have hrow:RowRel F own w k l0 hd.v hd.bs:=hrow;cases r1 with
 | @fn _ _ _ us cs s1 s2 c1 c2=>
 have hus:us= #[]:=ajK (by omega);subst hus;rcases hrow with⟨a,e1,rfl,e2⟩ | ⟨b,o,cap,cells,ty,e1,e2,e3,e4,e5,e6,e7⟩;rw[e1];refine(AnyF.pdqsortCmpFunc_none L a 0 lim _ w).mono fun e w' he=>?_;obtain⟨rfl,rfl⟩:=he;refine⟨(),own,trivial,⟨_,rfl,.tup rfl fun j s hj=>by simp at hj⟩,?_,Fr.refl _,aio _⟩;simp_all [srt]
 ·have hbown:b∈hd.bs:=by rw[e2];simp
  have hbw:b<w.heap.size:=hHp.lt 0 hd b o0 hbown;have hkl:∀ x:k.T,(mC k x).length=ae k:=fun x=>by unfold mC;rw[ajn,bv]
  have hone:∀ x:k.T,∀ v∈mC k x,v.oneCell'=true:=fun x v hv=>by
   unfold mC at hv;rw[aki]at hv;obtain⟨s,hs,rfl⟩:=hv;obtain⟨v,rfl,h1⟩:=hk x s hs;exact h1
  have eg:∀ args w,(callFunc g args).run P w=.ok (.enter g args) w:=fun args w=>by
   obtain⟨x,y,hxy⟩:=hcf0;exact hC.enter _ _ hxy args w
  have hown:∀ id h2,own id=some h2->id=0:=fun id h2 e=>by have:=hHp.dom id h2 e;grind
  have hH:HoldsK (mC k) (ae k) w b o l0.toArray:=by
   intro t ht;rw[size_flatK]at ht;simp only[ajX]at ht;have hi:t / ae k<l0.length:=akQ (by grind);have hj:=akc t h0;have ht':t=t / ae k*ae k+t % ae k:=(Nat.div_add_mod' t _).symm;have q1:=H9 hk e7 hi hj;have q2:=B4 (enc:=mC k) hkl (d:=l0.toArray) (i:=t / ae k) (j:=t % ae k) (by omega) hj;rw[<-ht']at q2;rw[ajB,<-ht']at q1;grind [World.cell?,World.frozen?]
  have hcmp:CmpLays P g cs (mC k) (ae k) cf b o l0.toArray.size w:=by
   intro m os dk hdk x y;generalize hW:sortWorldK (mC k) (ae k) w b o m dk os=W;have hcar:Carries F own w F own W:=⟨fun _ h2 e=>⟨h2,e,.refl _⟩,fun c hc hn=>⟨hn,by
    rw[<-hW];exact Pb hc (fun e=>hn (.inr ⟨0,hd,o0,e▸hbown⟩)) _ _⟩⟩
   have henc:∀ z:k.T,Rel (fun _=>False) cF W (.agg (cellsOf k z)) (.agg (mC k z).toArray):=fun z=>by
    refine .agg (by simp[mC]) fun j s hj=>?_;obtain⟨v,rfl,_⟩:=hk z s (aiw hj);have:(mC k z).toArray.getD j undef=v:=by
     unfold mC;rw[aiB,ajT,ai7,hj];rfl
    rw[this];exact .v v
   have hcall:=DE (hC.calls _ _ (hcf x y) trivial (fun _=>False) W (#[.agg (mC k x).toArray,.agg (mC k y).toArray]++cs) (fun _ h=>h.elim) ⟨by grind,fun j s hj=>by
    match j,hj with
    |0,hj=>
     cases hj;simp_all [aiS]
    |1,hj=>
     cases hj;simp_all [aiS]
    |j+2,hj=>
     have hj:caps[j]? =some s:=hj;have:=((c2 j s hj).carry hcar).over (hpf s (aiw hj)) (F':=fun _=>False) (own':=cF) fun _ _ h=>by
      rcases h with h| ⟨_,_,h,_⟩;exact h;cases h
     simp_all [ajz]⟩)
   refine hcall.mono fun e w' hq=>?_;obtain⟨he,hdr⟩:=hq;rcases he with⟨s,u,own',hs,rfl,hh,hb⟩ | ⟨z,hz,_⟩;simp only[dw]at hs;subst hs;have:=hh.val;simp only[x4]at this;rw[bR this];exact⟨rfl,Pa hb (hdr (by simp))⟩;exact hz.elim
  have hall:=Q0 L (ae k) aE zE (mC k) hkl hone cf hO g cs b o cap l0.toArray w eg hcmp hH hbw (by grind [aI]) (lim:=lim.toNat) (by omega);rw[akX hl0]at hall;rw[e1];refine hall.mono fun e w' he=>?_;obtain⟨rfl,d',n,os,hpm,hst,rfl⟩:=he;have hd':=Gc hO hp hpm hst;subst hd';have hlS:(srt cf l0).length=l0.length:=akL _;generalize srt cf l0=lS at hlS;have hsb:=aeV (enc:=mC k) (n:=ae k) (o:=o) (m:=n) e3 lS.toArray os;refine⟨(),own,trivial,⟨_,rfl,.tup rfl fun j s hj=>by simp at hj⟩,?_,?_,aio _⟩;refine⟨hHp.dom,fun c hc=>aiy (hHp.foreign c hc) (zP _ _),hHp.apart,hHp.inj,fun i h2 c e hc=>aiy (hHp.lt i h2 c e hc) (zP _ _),fun i hi=>?_⟩;match i,hi with
  |0,_=>
   refine⟨hd,o0,?_⟩;show RowRel F own _ k lS hd.v hd.bs;refine .inr ⟨b,o,cap,_,ty,by grind,e2,hsb,?_,by omega,by omega,H_ hk fun i j hi hj=>?_⟩;unfold putCells;grind;have hlt:i*ae k+j< (flatK (mC k) (ae k) lS.toArray).size:=by
    rw[size_flatK];have:=aiD (ae k) (show i+1<=lS.length from hi);grind
   have hle:o+(i*ae k+j) <cells.size:=by
    rw[size_flatK]at hlt;simp only[ajX]at hlt;have:=aiD (ae k) (show lS.length<=cap by omega);omega
   rw[ajB,B3 hlt hle,B4 hkl (by omega) hj];grind
  |i+1,hi=>rw[qE (by simp)]at hi;cases hi
  refine⟨fun _ h2 e=>⟨h2,e,.refl _⟩,(Fr.refl { w:=w,own:=own}).base,rfl,rfl,rfl,zP _ _,fun c hc=>?_⟩;exact Pb hc.1 (fun e=>hc.2 ⟨0,hd,o0,e▸hbown⟩) _ _
end
end Go.Sx
end
section
namespace Go.Proofs
open Go.Shelf
def Tryz.sortLk_ren:Go.Shelf.Ren:=⟨fun|15=>144|14=>143|28=>199|29=>200|20=>191|21=>192|22=>193|23=>194|24=>195|25=>196|26=>197|27=>198|46=>224|47=>225|48=>226|49=>227|50=>228|57=>252|n=>n,fun|22=>32|24=>68|25=>119|3=>3|39=>211|0=>0|53=>262|55=>120|4=>4|46=>256|45=>255|50=>133|5=>5|9=>9|66=>277|70=>281|76=>296|77=>297|n=>n,fun|n=>n⟩
theorem Tryz.sortLk:Go.Proofs.SlLaysF0.n14 Tryz.prog Tryz.sortLk_ren:= {
 mixed:=by kernel_rfl
 f14:=⟨Tryz.f143.name,by decide,Tryz.func143.trans (congrArg some (by kernel_rfl))⟩
 f15:=Tryz.func144.trans (congrArg some (by kernel_rfl))
 f20:=⟨Tryz.f191.name,by decide,Tryz.func191.trans (congrArg some (by kernel_rfl))⟩
 f21:=⟨Tryz.f192.name,by decide,Tryz.func192.trans (congrArg some (by kernel_rfl))⟩
 f22:=⟨Tryz.f193.name,by decide,Tryz.func193.trans (congrArg some (by kernel_rfl))⟩
 f23:=⟨Tryz.f194.name,by decide,Tryz.func194.trans (congrArg some (by kernel_rfl))⟩
 f24:=⟨Tryz.f195.name,by decide,Tryz.func195.trans (congrArg some (by kernel_rfl))⟩
 f25:=⟨Tryz.f196.name,by decide,Tryz.func196.trans (congrArg some (by kernel_rfl))⟩
 f26:=⟨Tryz.f197.name,by decide,Tryz.func197.trans (congrArg some (by kernel_rfl))⟩
 f27:=⟨Tryz.f198.name,by decide,Tryz.func198.trans (congrArg some (by kernel_rfl))⟩
 f28:=Tryz.func199.trans (congrArg some (by kernel_rfl))
 f29:=Tryz.func200.trans (congrArg some (by kernel_rfl))
 f46:=⟨Tryz.f224.name,by decide,Tryz.func224.trans (congrArg some (by kernel_rfl))⟩
 f47:=Tryz.func225.trans (congrArg some (by kernel_rfl))
 f48:=Tryz.func226.trans (congrArg some (by kernel_rfl))
 f49:=⟨Tryz.f227.name,by decide,Tryz.func227.trans (congrArg some (by kernel_rfl))⟩
 f50:=⟨Tryz.f228.name,by decide,Tryz.func228.trans (congrArg some (by kernel_rfl))⟩
 f57:=⟨Tryz.f252.name,by decide,Tryz.func252.trans (congrArg some (by kernel_rfl))⟩
 t0:=Tryz.underlying0
 a0:=Tryz.isAgg0
 z0:=Tryz.sizeOf0
 v0:=Tryz.zeroValue0
 t3:=Tryz.underlying3
 a3:=Tryz.isAgg3
 z3:=Tryz.sizeOf3
 v3:=Tryz.zeroValue3
 t4:=Tryz.underlying4
 a4:=Tryz.isAgg4
 z4:=Tryz.sizeOf4
 v4:=Tryz.zeroValue4
 t5:=Tryz.underlying5
 a5:=Tryz.isAgg5
 z5:=Tryz.sizeOf5
 v5:=Tryz.zeroValue5
 t9:=Tryz.underlying9
 a9:=Tryz.isAgg9
 z9:=Tryz.sizeOf9
 v9:=Tryz.zeroValue9
 t22:=Tryz.underlying32
 a22:=Tryz.isAgg32
 z22:=Tryz.sizeOf32
 v22:=Tryz.zeroValue32
 t25:=Tryz.underlying119
 a25:=Tryz.isAgg119
 z25:=Tryz.sizeOf119
 v25:=Tryz.zeroValue119
 t39:=Tryz.underlying211
 a39:=Tryz.isAgg211
 z39:=Tryz.sizeOf211
 v39:=Tryz.zeroValue211
 t45:=Tryz.underlying255
 a45:=Tryz.isAgg255
 z45:=Tryz.sizeOf255
 v45:=Tryz.zeroValue255
 t46:=Tryz.underlying256
 a46:=Tryz.isAgg256
 z46:=Tryz.sizeOf256
 v46:=Tryz.zeroValue256
 t50:=Tryz.underlying133
 a50:=Tryz.isAgg133
 z50:=Tryz.sizeOf133
 v50:=Tryz.zeroValue133
 t53:=Tryz.underlying262
 a53:=Tryz.isAgg262
 z53:=Tryz.sizeOf262
 v53:=Tryz.zeroValue262
 t55:=Tryz.underlying120
 a55:=Tryz.isAgg120
 z55:=Tryz.sizeOf120
 v55:=Tryz.zeroValue120
 t66:=Tryz.underlying277
 a66:=Tryz.isAgg277
 z66:=Tryz.sizeOf277
 v66:=Tryz.zeroValue277
 t70:=Tryz.underlying281
 a70:=Tryz.isAgg281
 z70:=Tryz.sizeOf281
 v70:=Tryz.zeroValue281
 t76:=Tryz.underlying296
 a76:=Tryz.isAgg296
 z76:=Tryz.sizeOf296
 v76:=Tryz.zeroValue296
 t77:=Tryz.underlying297
 a77:=Tryz.isAgg297
 z77:=Tryz.sizeOf297
 v77:=Tryz.zeroValue297}
end Go.Proofs
end
section
namespace Go.Sx
open Go.Lib Go.Proofs Go.RowKit Go.Shelf Go.Sort
def xc:List SV->Option Con:=pU fun n=>pE (.det (0<=n/\n<18446744073709551616) (.v (.int .i64 ((Go.Lib.bitLen n.toNat:Nat):Int))))
attribute [go_sem] xc
theorem Nw:FnOk Tryz.prog 144 xc where
 enter:=fun l c h args w=>enters_of Tryz.sortLk.f15 kr rfl args w
 calls:=fun l c h hp F w vs hF hvs=>by
  unfold xc at h;obtain⟨n,r,rfl,h0⟩:=CI h;obtain⟨rfl,rfl⟩:=CJ h0;obtain⟨p1,p2⟩:=hp;have q:=bR (hvs.2 0 _ rfl);have hv:vs= #[.int .u64 n]:=by
   apply alc;simpa using hvs.1;intro i h1 h2;have:i=0:=by simp at h2;exact h2
   subst this;simp only[Array.getD,h1,dif_pos]at q;exact q
  subst hv;have:=Any.bits_Len (P:=Tryz.prog) (ρ:=Tryz.sortLk_ren.viaSlsf) (SlLaysF0.n15.bits (P:=Tryz.prog) (ρ:=Tryz.sortLk_ren) { Tryz.sortLk with}) n w p1 (by omega);refine this.mono fun e w' he=>?_;obtain⟨rfl,rfl⟩:=he;exact .inl ⟨_,_,cF,rfl,rfl,⟨xL hF,Rel.v _,fun _ _ _ e=>by cases e⟩,Below.refl _ _⟩
noncomputable def Nx:List SV->List Ob->Option HCon:=Ia .claim 95 [] dX
@[go_sem] theorem acT {l0:List Claim}{z n lim:Int}:Nx [.os 0,.v (.int .i64 z),.v (.int .i64 n),.v (.int .i64 lim),.fn 95 [] []] [.row .claim l0]=some (jF (z=0/\n=(l0.length:Int)/\0<=lim/\lim<4611686018427387904/\apart dX l0) (.tup []) [.row .claim (srt dX l0)]):=T4
theorem Lu:C1 .claim:=fun x s hs=>by
 simp only[cellsOf,aiu,ai9,or_false]at hs;rcases hs with rfl|rfl|rfl|rfl|rfl;all_goals exact⟨_,rfl,rfl⟩
theorem Lv (x y:Claim):uJ (.agg (cellsOf .claim x):: .agg (cellsOf .claim y)::[])=some (.det True (.v (.int .i64 (dX x y)))):=by
 simp only[go_sem,Nat.reduceBEq]
theorem Xw:FnOkO Tryz.prog 143 Nx:=
 aaG (k:=.claim) Tryz.sortLk (fun w=>by kernel_rfl) (fun w=>by kernel_rfl) Lu (by decide) (g:=95) (caps:=[]) zV (cf:=dX) Lv Lk (fun s hs=>by cases hs) ⟨default,default,Lv _ _⟩
end Go.Sx
end
section
namespace Go.Sx
open Go.Proofs
open IntKind (i64 u64)
@[go_sem] def dp (s_:List Claim)(k_0:Nat)(s_0:Unit):Int⊕Unit:=(bif(ay (s_.getD k_0 default))then .inl (k_0:Int)else .inr ())
def aD (s_:List Claim):Int:=(match aq (dp s_) s_.length 0 ()with| .inl x_0_0=>x_0_0| .inr s_0=>(-1))
@[go_sem] def fV:List SV->Option Con:=(pR .claim fun s_=>(pFn 93 (pE ((pE (.det True (.v (.int .i64 (aD s_)))))))))
theorem jY:FnOk Tryz.prog 142 fV:=by
 have hG:ConsOk Tryz.prog (mkG [(93,pZ)] []):=av (cgc tK cg0) cg0;refine ax [.o] mixed am hG (fn:=Tryz.f142) (c:=aa Tryz.f142) kr kr kr kr (bB fun s_=>(bI (aj ((aj (fun hp=>?_))))));dsimp only[aw]at hp;refine⟨nbl rfl,(fun id st=>bif Nat.beq id 0 then some (LCR (ρ:=Int) (σ:=Unit) 0 [] [] (fun k_0 s_0=>⟨[(0,.rs .claim s_),(1,.fn 93 [] []),(7,.v (.int .i64 (s_.length:Int))),(8,.v (.int .i64 (k_0:Int)))],[]⟩) (dp s_) pT s_.length () (s_.length<=aI) (fun _=>.ret) (fun x_0_0=>⟨[(4,.v (.int .i64 x_0_0))],[]⟩) st)else none),?_,?_⟩;unfold aa Tryz.f142;simp only[ap,true_and,and_true];refine a8 mixed am hG kr (fun _=>rfl) (s_.length:Int) rfl iB (fun hb0 k_0 s_0 hlt0 _ hw hc=>⟨L0,ag _,?_⟩) (fun hb0 s_0 hc=>?_);exact bT (jl []);exact bN (jl []);unfold aa Tryz.f142;try unfold aD
 exact zq1
@[go_sem] noncomputable def dE:List SV->Option Con:=fun l=>(orC (dy l) (fV l))
theorem kx:FnOk Tryz.prog 142 dE:=(FnOk.or fQ jY)
@[go_sem] def a_ (l_:List Claim)(k_0:Nat)(s_0:List Claim×Int×Int):(Int×List Claim)⊕(List Claim×Int×Int):=letI q0:=s_0.1.getD (Int.toNat s_0.2.2) default;letI q1:=i64.wrap (s_0.2.2+1);(bif(decide (s_0.2.2< (s_0.1.length:Int)))then(bif(!(ay q0))then .inr ((s_0.1.set (Int.toNat s_0.2.1) q0),(i64.wrap (s_0.2.1+1)),q1)else .inr (s_0.1,s_0.2.1,q1))else .inl (s_0.2.1,s_0.1))
def br (l_:List Claim)(k_0:Nat)(s_0:List Claim×Int×Int):Prop:=(s_0.1.length<=aI->((decide (s_0.2.2< (s_0.1.length:Int)))=true->((0<=s_0.2.2/\s_0.2.2< (s_0.1.length:Int))/\((!(ay (s_0.1.getD (Int.toNat s_0.2.2) default)))=true->(0<=s_0.2.1/\s_0.2.1< (s_0.1.length:Int))))))
def aL (l_:List Claim):List Claim:=letI q0:=aD l_;(bif(q0==(-1))then l_ else(match aq (a_ l_) (l_.length+1) 0 (l_,q0,(i64.wrap (q0+1)))with| .inl x_0_0=>(((EM .claim x_0_0.2 x_0_0.1 (x_0_0.2.length:Int)).take (Int.toNat x_0_0.1)).drop 0) | .inr s_0=>default))
def aT (l_:List Claim):Prop:=letI q0:=aD l_;letI q1:=a_ l_;letI q2:=(l_,q0,(i64.wrap (q0+1)));letI q3:=l_.length+1;((q0==(-1))=false->(okI q1 (br l_) q3 0 q2/\(∀ z_,aq q1 q3 0 q2≠ .inr z_)/\(∀ x_0_0,aq q1 q3 0 q2=.inl x_0_0->((0<=x_0_0.1/\x_0_0.1<=(x_0_0.2.length:Int))/\(0<=0/\0<=x_0_0.1/\x_0_0.1<=((EM .claim x_0_0.2 x_0_0.1 (x_0_0.2.length:Int)).length:Int))))))
noncomputable def dF:List SV->List Ob->Option HCon:=r7 (fun x_:(List Claim) =>[.os 0,.fn 93 [] []]) (fun x_=>[.row .claim x_]) (fun x_=>jF (aT x_) (.os 1) [.dead,.row .claim (aL x_)])
@[go_sem] theorem vh (l_:List Claim):dF ([.os 0,.fn 93 [] []]) ([.row .claim l_])=some (jF (aT l_) (.os 1) [.dead,.row .claim (aL l_)]):=oS (A:=fun x_:(List Claim) =>[.os 0,.fn 93 [] []]) (H:=fun x_=>[.row .claim x_]) (K:=fun x_=>jF (aT x_) (.os 1) [.dead,.row .claim (aL x_)]) (x:=l_)
theorem zq64 {l0 l1:List Nat}(a0:JL l0)(a1:JL l1){p:Prop}(h:JL l0->JL l1->p:=by intro ja jb;simp only[go_sem,Nat.reduceBEq,Nat.reduceLeDiff,Nat.reduceLT,decide_true,Nat.reduceAdd,Nat.reduceSub,Nat.reduceMul,Int.reduceLE,Int.reduceLT,Int.reduceToNat,Int.reduceNeg,reduceCtorEq,dE];all_goals exact nV ja jb):p:=h a0 a1
theorem ky:FnOkO Tryz.prog 92 (dF):=by
 have hG:ConsOk Tryz.prog (mkG [(93,pZ),(142,fun l=>dE (bD [.sl .claim,.o] l))] []):=av (cgc tK (cgc (kx.norm [.sl .claim,.o]) cg0)) cg0;refine qI mixed am hG (fn:=Tryz.f92) (c:=aa Tryz.f92) kr kr kr kr fun l o con h=>?_;obtain⟨l_,rfl,rfl,rfl⟩:=mb h;clear h;try dsimp only
 refine⟨_,_,_,rfl,fun hp=>?_⟩;unfold aT at hp;refine⟨nbl rfl,(fun id st=>bif Nat.beq id 0 then some (LCV (ρ:=(Int×List Claim)) (σ:=(List Claim×Int×Int)) 1 [] [0] (fun k_0 s_0=>⟨[(0,.os 0),(1,.fn 93 [] []),(5,.v (.int .i64 s_0.2.1)),(6,.v (.int .i64 s_0.2.2))],[.row .claim s_0.1]⟩) (a_ l_) (br l_) (l_.length+1) (l_,(aD l_),(i64.wrap ((aD l_)+1))) (fun _=>.normal) (fun x_0_0=>⟨[(0,.os 0),(5,.v (.int .i64 x_0_0.1))],[.row .claim x_0_0.2]⟩) st)else none),?_,?_⟩;unfold aa Tryz.f92;simp only[ap,true_and,and_true,and_assoc];refine uB mixed am hG kr (fun _=>rfl) fun k_0 s_0 hq0=>⟨L0,ag _,?_⟩;unfold br at hq0;exact nS (jl [0]);unfold aa Tryz.f92;try unfold aL
 exact zq64 (jl [0,0]) (jl [0,1])
def bt (l_:List Claim):List Claim:=(srt dX l_)
def bf (l_:List Claim):Prop:=letI q2:=(l_.length:Int);letI q0:=u64.wrap q2;letI q1:=((Go.Lib.bitLen (Int.toNat q0):Nat):Int);(l_.length<=aI->((0<=q0/\q0<18446744073709551616)/\(0=0/\q2=q2/\0<=q1/\q1<4611686018427387904/\apart dX l_)))
noncomputable def d3:List SV->List Ob->Option HCon:=r7 (fun x_:(List Claim) =>[.os 0,.fn 95 [] []]) (fun x_=>[.row .claim x_]) (fun x_=>jF (bf x_) (.tup []) [.row .claim (bt x_)])
@[go_sem] theorem vV (l_:List Claim):d3 ([.os 0,.fn 95 [] []]) ([.row .claim l_])=some (jF (bf l_) (.tup []) [.row .claim (bt l_)]):=oS (A:=fun x_:(List Claim) =>[.os 0,.fn 95 [] []]) (H:=fun x_=>[.row .claim x_]) (K:=fun x_=>jF (bf x_) (.tup []) [.row .claim (bt x_)]) (x:=l_)
theorem zq65 {l0:List Nat}(a0:JL l0){p:Prop}(h:JL l0->p:=by intro ja;simp only[go_sem,Nat.reduceBEq,Nat.reduceLeDiff,Nat.reduceLT,decide_true,Nat.reduceAdd,Nat.reduceSub,Nat.reduceMul,Int.reduceLE,Int.reduceLT,Int.reduceToNat,Int.reduceNeg,reduceCtorEq,xc];all_goals exact ke ja):p:=h a0
theorem kS:FnOkO Tryz.prog 94 (d3):=by
 have hG:ConsOk Tryz.prog (mkG [(144,xc)] [(143,Nx)]):=av (cgc Nw cg0) (cgc Xw cg0);refine qI mixed am hG (fn:=Tryz.f94) (c:=aa Tryz.f94) kr kr kr kr fun l o con h=>?_;obtain⟨l_,rfl,rfl,rfl⟩:=mb h;clear h;try dsimp only
 refine⟨_,_,_,rfl,fun hp=>?_⟩;unfold bf at hp;refine⟨nbl rfl,L0,?_,?_⟩;unfold aa Tryz.f94;simp only[ap,and_self,true_and,and_true];unfold aa Tryz.f94;try unfold bt
 exact zq65 (jl [0])
def dz (l_:List Claim):List Claim:=(bt (aL l_))
def c5 (l_:List Claim):Prop:=((aT l_)/\(bf (aL l_)))
noncomputable def r8:List SV->List Ob->Option HCon:=r7 (fun x_:(List Claim) =>[.os 0]) (fun x_=>[.row .claim x_]) (fun x_=>jF (c5 x_) (.os 1) [.dead,.row .claim (dz x_)])
@[go_sem] theorem Mg (l_:List Claim):r8 ([.os 0]) ([.row .claim l_])=some (jF (c5 l_) (.os 1) [.dead,.row .claim (dz l_)]):=oS (A:=fun x_:(List Claim) =>[.os 0]) (H:=fun x_=>[.row .claim x_]) (K:=fun x_=>jF (c5 x_) (.os 1) [.dead,.row .claim (dz x_)]) (x:=l_)
theorem B5:FnOkO Tryz.prog 47 (r8):=by
 have hG:ConsOk Tryz.prog (mkG [] [(92,dF),(94,d3)]):=av cg0 (cgc ky (cgc kS cg0));refine qI mixed am hG (fn:=Tryz.f47) (c:=aa Tryz.f47) kr kr kr kr fun l o con h=>?_;obtain⟨l_,rfl,rfl,rfl⟩:=mb h;clear h;try dsimp only
 refine⟨_,_,_,rfl,fun hp=>?_⟩;unfold c5 at hp;refine⟨nbl rfl,L0,?_,?_⟩;unfold aa Tryz.f47;simp only[ap,and_self,true_and,and_true];unfold aa Tryz.f47;try unfold dz
 exact nS (jl [0,1])
@[go_sem] def dq (x:Judgement)(l_:List Claim)(k_0:Nat)(s_0:List Claim×Int):Empty⊕(List Claim×Int):=letI q1:=s_0.1.getD k_0 default;letI q0:=s_0.1.set k_0 ({ right:=q1.right,farm:=q1.farm,hour:=q1.hour,litres:=(if s_0.2<q1.litres then s_0.2 else q1.litres),rank:=q1.rank}:Claim);(bif(q1.farm==x.farm)then .inr (q0,(i64.wrap (s_0.2 - (q0.getD k_0 default).litres)))else .inr (s_0.1,s_0.2))
def fq (x:Judgement)(l_:List Claim)(k_0:Nat)(s_0:List Claim×Int):Prop:=letI q0:=s_0.1.getD k_0 default;letI q2:=(k_0:Int);letI q1:=0<=q2/\q2< (s_0.1.length:Int);(q1/\((q0.farm==x.farm)=true->(q1/\(q1/\(0<=q2/\q2< ((s_0.1.set k_0 ({ right:=q0.right,farm:=q0.farm,hour:=q0.hour,litres:=(if s_0.2<q0.litres then s_0.2 else q0.litres),rank:=q0.rank}:Claim)).length:Int))))))
def cj (x:Judgement)(l_:List Claim):List Claim:=(match aq (dq x l_) l_.length 0 (l_,x.n)with| .inl x=>x.elim| .inr s_0=>s_0.1)
def cV (x:Judgement)(l_:List Claim):Prop:=(l_.length<=aI->okI (dq x l_) (fq x l_) l_.length 0 (l_,x.n))
noncomputable def kF:List SV->List Ob->Option HCon:=r7 (fun x_:Judgement×(List Claim) =>[.os 0,.agg (cellsOf .judgement x_.1)]) (fun x_=>[.row .claim x_.2]) (fun x_=>jF (cV x_.1 x_.2) (.os 0) [.row .claim (cj x_.1 x_.2)])
@[go_sem] theorem Ej (x:Judgement)(l_:List Claim):kF ([.os 0,.agg [.v (.int .i64 x.no),.v (.int .i64 x.hour),.v (.int .i64 x.kind),.v (.int .i64 x.farm),.v (.int .i64 x.other),.v (.int .i64 x.since),.v (.int .i64 x.to),.v (.int .i64 x.n),.v (.int .i64 x.of_)]]) ([.row .claim l_])=some (jF (cV x l_) (.os 0) [.row .claim (cj x l_)]):=oS (A:=fun x_:Judgement×(List Claim) =>[.os 0,.agg (cellsOf .judgement x_.1)]) (H:=fun x_=>[.row .claim x_.2]) (K:=fun x_=>jF (cV x_.1 x_.2) (.os 0) [.row .claim (cj x_.1 x_.2)]) (x:=(x,l_))
theorem vn:FnOkO Tryz.prog 88 (kF):=by
 have hG:ConsOk Tryz.prog (mkG [] []):=av cg0 cg0;refine qI mixed am hG (fn:=Tryz.f88) (c:=aa Tryz.f88) kr kr kr kr fun l o con h=>?_;obtain⟨⟨x,l_⟩,rfl,rfl,rfl⟩:=mb h;clear h;try dsimp only
 refine⟨_,_,_,rfl,fun hp=>?_⟩;unfold cV at hp;refine⟨nbl rfl,(fun id st=>bif Nat.beq id 0 then some (LCR (ρ:=Empty) (σ:=(List Claim×Int)) 2 [] [0,1] (fun k_0 s_0=>⟨[(0,.os 0),(3,.ptr 1 0),(5,.v (.int .i64 s_0.2)),(10,.v (.int .i64 (l_.length:Int))),(11,.v (.int .i64 (k_0:Int)))],[.row .claim s_0.1,.cells (cellsOf .judgement x)]⟩) (dq x l_) (fq x l_) l_.length (l_,x.n) (l_.length<=aI) ((·.elim)) ((·.elim)) st)else none),?_,?_⟩;unfold aa Tryz.f88;simp only[ap,true_and,and_true,and_assoc];refine a8 mixed am hG kr (fun _=>rfl) (l_.length:Int) rfl iB (fun hb0 k_0 s_0 hlt0 hq0 hw hc=>⟨L0,ag _,?_⟩) (fun hb0 s_0 hc=>?_);unfold fq at hq0;try simp only[hw,air]at hq0
 exact bT (jl [0,1]);exact bN (jl [0,1]);unfold aa Tryz.f88;try unfold cj
 exact nS (jl [0])
def yj (x:Judgement)(l_:List Claim):Unit:=()
noncomputable def lq:List SV->List Ob->Option HCon:=r7 (fun x_:Judgement×(List Claim) =>[.os 0,.agg (cellsOf .judgement x_.1)]) (fun x_=>[.row .claim x_.2]) (fun x_=>jF True (.os 0) [.row .claim x_.2])
@[go_sem] theorem Gd (x:Judgement)(l_:List Claim):lq ([.os 0,.agg [.v (.int .i64 x.no),.v (.int .i64 x.hour),.v (.int .i64 x.kind),.v (.int .i64 x.farm),.v (.int .i64 x.other),.v (.int .i64 x.since),.v (.int .i64 x.to),.v (.int .i64 x.n),.v (.int .i64 x.of_)]]) ([.row .claim l_])=some (jF True (.os 0) [.row .claim l_]):=oS (A:=fun x_:Judgement×(List Claim) =>[.os 0,.agg (cellsOf .judgement x_.1)]) (H:=fun x_=>[.row .claim x_.2]) (K:=fun x_=>jF True (.os 0) [.row .claim x_.2]) (x:=(x,l_))
theorem wp:FnOkO Tryz.prog 90 (lq):=by
 have hG:ConsOk Tryz.prog (mkG [] []):=av cg0 cg0;refine qI mixed am hG (fn:=Tryz.f90) (c:=aa Tryz.f90) kr kr kr kr fun l o con h=>?_;obtain⟨⟨x,l_⟩,rfl,rfl,rfl⟩:=mb h;clear h;try dsimp only
 refine⟨_,_,_,rfl,fun hp=>?_⟩;refine⟨nbl rfl,L0,?_,?_⟩;unfold aa Tryz.f90;simp only[ap,and_self,true_and,and_true];unfold aa Tryz.f90;try unfold yj
 exact nS (jl [0])
@[go_sem] theorem ag3 {f:FuncId}:Cv (.fn f [] [])=some [.fn f [] []]:=(rfl)
theorem Q2 {κ υ:Type}[DecidableEq κ](l:List (κ×υ))(x z:κ)(y:υ):jn (tT l x y) z=if z=x then some y else jn l z:=by
 induction l with
 |nil=>simp[tT,jn]
 |cons a r ih=>
  obtain⟨a,b⟩:=a;unfold tT;by_cases h:x=a
  subst h;simp only[if_pos];unfold jn;by_cases hz:z=x <;>simp[hz]
  rw[if_neg h];unfold jn;by_cases hz:z=a
  subst hz;rw[if_pos rfl,if_neg (fun e=>h e.symm),if_pos rfl];rw[if_neg hz,ih,if_neg hz]
def gj:List (Int×(Option Nat)):=(fN .int .fnc (fN .int .fnc (fN .int .fnc (fN .int .fnc ([]) 1 (some 88)) 2 (some 88)) 3 (some 89)) 4 (some 90))
@[go_sem] def vW:List SV->Option Con:=(pE (.det True (.nm .int .fnc (gj))))
theorem A4:FnOk Tryz.prog 42 vW:=by
 have hG:ConsOk Tryz.prog (mkG [] []):=av cg0 cg0;refine F8 [] mixed am hG (fn:=Tryz.f42) (c:=aa Tryz.f42) kr kr kr kr (aj (fun hp=>?_));dsimp only[aw]at hp;refine⟨nbl rfl,L0,ag _,?_⟩;unfold aa Tryz.f42;try unfold gj
 exact zq1
theorem r9 (k:Int):aZ .int .fnc gj k=bif k==1 then some 88 else bif k==2 then some 88 else bif k==3 then some 89 else bif k==4 then some 90 else none:=by
 by_cases h1:k=1
 subst h1;rfl;by_cases h2:k=2
 subst h2;rfl;by_cases h3:k=3
 subst h3;rfl;by_cases h4:k=4
 subst h4;rfl;have e1:(k==1)=false:=by simpa using h1
 have e2:(k==2)=false:=by simpa using h2
 have e3:(k==3)=false:=by simpa using h3
 have e4:(k==4)=false:=by simpa using h4
 rw[e1,e2,e3,e4];simp only[gj,aZ,fN,Q2,if_neg h1,if_neg h2,if_neg h3,if_neg h4];rfl
end Go.Sx
end
