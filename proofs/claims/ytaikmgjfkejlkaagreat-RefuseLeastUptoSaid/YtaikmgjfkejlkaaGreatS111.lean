/- Part of the proof that the law RefuseLeast returns true and leaves its arguments as they were, for all arguments of bulk at most 1048576 (the Upto form). -/
import Derived.Test.YtaikmgjfkejlkaaGreatS109
import Derived.Test.YtaikmgjfkejlkaaGreatS108
import Derived.Test.YtaikmgjfkejlkaaGreatS107
import Derived.Test.YtaikmgjfkejlkaaGreatS110
import Derived.Shelf.SlSortCmp.NoneTotal
import Derived.Ground.SlsfProg
import Derived.Test.YtaikmgjfkejlkaaGreatS103
import Derived.Test.YtaikmgjfkejlkaaGreatProg
set_option linter.all false
set_option maxHeartbeats 4000000
set_option maxRecDepth 100000
section
namespace Go.Sx
open Go.Proofs
open IntKind (i64)
variable {l0 l1:List Nat}{p:Prop}
theorem qX(a0:JL l0)(a1:JL l1)(h:JL l0->JL l1->p:=by intro ja jb;simp only[go_sem];all_goals exact gj ja jb):p:=h a0 a1
def iQ (x:bh)(right:Bool)(fr:Bool)(to:Bool)(parts:Bool)(of_:Bool):Bool:=(((((right||(x.right==0))&&(fr||(x.since==0)))&&(to||(x.to==0)))&&(parts||((x.parts.length:Int) ==0)))&&(of_||(x.of_==0)))
@[go_sem] def KM:List SV->Option Con:=(pD .u0 λx=>(pB λright=>(pB λfr=>(pB λto=>(pB λparts=>(pB λof_=>(pE (.det True (.v (.bool (iQ x right fr to parts of_)))))))))))
theorem HQ:zs Tryz.prog 253 KM:=by
 have hG:=mG C1 C1;refine fN hG Tryz.f253 [.o] (ax λx=>(Bv λright=>(Bv λfr=>(Bv λto=>(Bv λE=>(Bv λO=>(am (λU=>?_))))))));dsimp only[an]at U;refine⟨Y2 rfl,L0,ag _,?_⟩;unfold ae Tryz.f253;try unfold iQ
 exact zq2
def mz (d:ah)(x:bh):Bool:=(((((decide (x.right>=0))&&(decide (x.right< (d.ai.length:Int))))&&((d.ai.getD (Int.toNat x.right) default).kind==1))&&(decide (x.since>=0)))&&(decide (x.since< (d.l5.length:Int))))
def oS (d:ah)(x:bh):Prop:=(((decide (x.right>=0))&&(decide (x.right< (d.ai.length:Int))))=true->(0<=x.right/\x.right< (d.ai.length:Int)))
@[go_sem] def FW:List SV->Option Con:=(pD .al λd=>(pD .u0 λx=>(pE (.det (oS d x) (.v (.bool (mz d x)))))))
theorem Du:zs Tryz.prog 254 FW:=by
 have hG:=mG C1 C1;refine fN hG Tryz.f254 [.o] (ax λd=>(ax λx=>(am (λE=>?_))));dsimp only[an]at E;unfold oS at E;refine⟨Y2 rfl,L0,ag _,?_⟩;unfold ae Tryz.f254;try unfold mz
 exact zq2
@[go_sem] def jU (a1:List Part)(Q1:Nat)(k_1:Nat)(s_1:Unit):Unit⊕Unit:=(bif((a1.getD k_1 default).dd==(a1.getD Q1 default).dd)then .inl ()else .inr ())
def pO (a1:List Part)(Q1:Nat)(k_1:Nat)(s_1:Unit):Prop:=(0<=(k_1:Int)/\(k_1:Int) < (a1.length:Int))
@[go_sem] def lW (a0:ah)(a1:List Part)(Q1:Nat)(ly:Int×Int):Unit⊕(Int×Int):=letI q1:=a1.getD Q1 default;letI q0:=sj ({ n:=ly.1,d:=ly.2}:B1) (q1.share);(bif((((decide (q1.dd<0)) ||(decide (q1.dd>=(a0.l5.length:Int)))) ||(!(ei (q1.share)))) ||(decide (q1.share.n<=0)))then .inl ()else(match aj (jU a1 Q1) (Int.toNat (Q1:Int)) 0 ()with| .inl apR=>.inl () | .inr s_1=>(bif(q0.2 !=0)then .inl ()else .inr ((q0.1).n,(q0.1).d))))
def pP (a0:ah)(a1:List Part)(Q1:Nat)(ly:Int×Int):Prop:=letI q0:=a1.getD Q1 default;letI q1:=decide (q0.dd>=(a0.l5.length:Int));letI q2:=jU a1 Q1;letI q3:=Int.toNat (Q1:Int);letI q4:=decide (q0.dd<0);(a1.length<=aH->(((q4||q1)=false->(iF (q0.share)))/\((((q4||q1) ||(!(ei (q0.share)))) ||(decide (q0.share.n<=0)))=false->(((Q1:Int) <9223372036854775808)/\okI q2 (pO a1 Q1) q3 0 ()/\(∀ s_1,aj q2 q3 0 ()=.inr s_1->(qQ ({ n:=ly.1,d:=ly.2}:B1) (q0.share)))))))
def qY (a0:ah)(a1:List Part):Bool:=(bif((decide ((a1.length:Int) <1)) ||(decide ((a1.length:Int) > 16)))then false else(match aj (lW a0 a1) a1.length 0 (0,1)with| .inl gl=>false| .inr ly=>(ly.1==ly.2)))
def qp (a0:ah)(a1:List Part):Prop:=(a1.length<=aH->(((decide ((a1.length:Int) <1)) ||(decide ((a1.length:Int) > 16)))=false->okI (lW a0 a1) (pP a0 a1) a1.length 0 (0,1)))
@[go_sem] def HR:List SV->Option Con:=(pD .al λa0=>(pR .part λa1=>(pE (.det (qp a0 a1) (.v (.bool (qY a0 a1)))))))
theorem FX:zs Tryz.prog 255 HR:=by
 have hG:=mG (cp oM (cp KF C1)) C1;refine fN hG Tryz.f255 [.o] (ax λa0=>(bD λa1=>(am (λhp=>?_))));dsimp only[an]at hp;unfold qp at hp;refine⟨Y2 rfl,(λid st=>bif Nat.beq id 0 then some (LCR (ρ:=Unit) (σ:=(Int×Int)) 2 [] [0,1] (λE O=>⟨[(1,.rs .part a1),(2,.ptr 0 0),(5,.ptr 1 0),(6,.v (.int .i64 (E:Int)))],[.cells (cellsOf .al a0),.cells [.v (.int .i64 O.1),.v (.int .i64 O.2)]]⟩) (lW a0 a1) (pP a0 a1) a1.length (0,1) (True) (λ_=>.ret) (λY=>⟨[(4,.v (.bool false))],[.dead,.dead]⟩) st)else none),?_,?_⟩;unfold ae Tryz.f255;simp only[ak,true_and,and_true];refine ez (a1.length<=aH) mixed aB hG kr (λ_=>rfl) (a1.length:Int) rfl fj (λhb0 E O aqw V hw hc=>⟨(λid st=>bif Nat.beq id 2 then some (LCR (ρ:=Unit) (σ:=Unit) 3 [] [0,1,2] (λU W=>⟨[(1,.rs .part a1),(2,.ptr 0 0),(5,.ptr 1 0),(6,.v (.int .i64 (E:Int))),(7,.ptr 2 0),(8,.v (.int .i64 (U:Int)))],[.cells (cellsOf .al a0),.cells [.v (.int .i64 O.1),.v (.int .i64 O.2)],.cells (cellsOf .part (a1.getD E (default:Part)))]⟩) (jU a1 E) (pO a1 E) (Int.toNat (E:Int)) () ((E:Int) <9223372036854775808) (λ_=>.ret) (λX=>⟨[(4,.v (.bool false))],[.dead,.dead,.dead]⟩) st)else none),?_,?_⟩) (λhb0 O hc=>?_) λhb0 E O=>?_;simp only[ak,true_and,and_true];refine bL mixed aB hG kr (λ_=>rfl) (E:Int) rfl id (λhb1 U W aqy hq1 hw hc=>⟨L0,ag _,?_⟩) (λhb1 W hc=>?_);unfold pO at hq1;try simp only[hw,alI]at hq1
 exact bB (jl [0,1,2]);exact bC (jl [0,1,2]);unfold pP at V;try simp only[hw,alI]at V
 exact bB (jl [0,1]);exact bC (jl [0,1]);exact zq8;unfold ae Tryz.f255;try unfold qY
 exact zq2
@[go_sem] def sS (l_:List bh)(of_:Int)(Q1:Nat)(ly:Unit):Int⊕Unit:=(bif(((l_.getD Q1 default).no==of_)&&((l_.getD Q1 default).kind !=4))then .inl (Q1:Int)else .inr ())
def lX (l_:List bh)(of_:Int):Int:=(match aj (sS l_ of_) l_.length 0 ()with| .inl gl=>gl| .inr ly=>(-1))
@[go_sem] def HS:List SV->Option Con:=(pR .u0 λl_=>(pI λof_=>(pE (.det True (.v (.int .i64 (lX l_ of_)))))))
theorem FY:zs Tryz.prog 256 HS:=by
 have hG:=mG C1 C1;refine fN hG Tryz.f256 [.o] (bD λV=>(az λW=>(am (λY=>?_))));dsimp only[an]at Y;refine⟨Y2 rfl,(λid st=>bif Nat.beq id 0 then some (LCR (ρ:=Int) (σ:=Unit) 0 [] [] (λE O=>⟨[(0,.rs .u0 V),(1,.v (.int .i64 W)),(5,.v (.int .i64 (E:Int)))],[]⟩) (sS V W) pT V.length () (True) (λ_=>.ret) (λU=>⟨[(4,.v (.int .i64 U))],[]⟩) st)else none),?_,?_⟩;unfold ae Tryz.f256;simp only[ak,true_and,and_true];refine ez (V.length<=aH) mixed aB hG kr (λ_=>rfl) (V.length:Int) rfl fj (λhb0 E O X _ hw hc=>⟨L0,ag _,?_⟩) (λhb0 O hc=>?_) λhb0 E O=>?_;exact bB (jl []);exact bC (jl []);exact zq8;unfold ae Tryz.f256;try unfold lX
 exact zq2
def qZ (a0:ah)(a1:List bh)(a2:bh):Bool:=letI q0:=mz a0 a2;letI q1:=lX a1 a2.of_;(bif((((((decide (a2.no<0)) ||(decide (a2.no > 1048576))) ||(decide (a2.at_<0))) ||(decide (a2.at_ > 4096))) ||(decide (a2.known<0))) ||(decide (a2.known > 1048576)))then false else(bif(a2.kind==1)then(((((iQ a2 true true true false false)&&q0)&&(decide (a2.to>=0)))&&(decide (a2.to< (a0.l5.length:Int))))&&(a2.to !=a2.since))else(bif(a2.kind==2)then(((iQ a2 true true false true false)&&q0)&&(qY a0 a2.parts))else(bif(a2.kind==3)then((iQ a2 true true false false false)&&q0)else(bif(a2.kind==4)then(((iQ a2 false false false false true)&&(decide (q1>=0)))&&(decide (a2.known>=(a1.getD (Int.toNat q1) default).known)))else false)))))
def qq (a0:ah)(a1:List bh)(a2:bh):Prop:=letI q0:=lX a1 a2.of_;letI q1:=oS a0 a2;letI q2:=iQ a2 true true false true false;(((((((decide (a2.no<0)) ||(decide (a2.no > 1048576))) ||(decide (a2.at_<0))) ||(decide (a2.at_ > 4096))) ||(decide (a2.known<0))) ||(decide (a2.known > 1048576)))=false->(((a2.kind==1)=true->((iQ a2 true true true false false)=true->q1))/\((a2.kind==1)=false->(((a2.kind==2)=true->((q2=true->q1)/\((q2&&(mz a0 a2))=true->(qp a0 a2.parts))))/\((a2.kind==2)=false->(((a2.kind==3)=true->((iQ a2 true true false false false)=true->q1))/\((a2.kind==3)=false->((a2.kind==4)=true->(((iQ a2 false false false false true)&&(decide (q0>=0)))=true->(0<=q0/\q0< (a1.length:Int)))))))))))
@[go_sem] def HT:List SV->Option Con:=(pD .al λa0=>(pR .u0 λa1=>(pD .u0 λa2=>(pE (.det (qq a0 a1 a2) (.v (.bool (qZ a0 a1 a2))))))))
theorem FZ:zs Tryz.prog 184 HT:=by
 have hG:=mG (cn [.st .u0,.o,.o,.o,.o,.o] HQ (cn [.st .al,.st .u0] Du (cn [.st .al,.sl .part] FX (cn [.sl .u0,.o] FY C1)))) C1;refine fN hG Tryz.f184 [.o] (ax λa0=>(bD λa1=>(ax λO=>(am (λE=>?_)))));dsimp only[an]at E;unfold qq at E;refine⟨Y2 rfl,L0,ag _,?_⟩;unfold ae Tryz.f184;try unfold qZ
 exact zq2
@[go_sem] def kP (l_:List bh)(Q1:Nat)(ly:Unit):Unit⊕Unit:=(bif(decide ((((l_.getD Q1 default).parts).length:Int) > 16))then .inl ()else .inr ())
def pY (l_:List bh):Bool:=(bif(decide ((l_.length:Int) > 512))then true else(match aj (kP l_) l_.length 0 ()with| .inl gl=>true| .inr ly=>false))
@[go_sem] def KN:List SV->Option Con:=(pR .u0 λl_=>(pE (.det True (.v (.bool (pY l_))))))
theorem HU:zs Tryz.prog 183 KN:=by
 have hG:=mG C1 C1;refine fN hG Tryz.f183 [.o] (bD λU=>(am (λX=>?_)));dsimp only[an]at X;refine⟨Y2 rfl,(λid st=>bif Nat.beq id 0 then some (LCR (ρ:=Unit) (σ:=Unit) 0 [] [] (λE O=>⟨[(0,.rs .u0 U),(3,.v (.int .i64 (E:Int)))],[]⟩) (kP U) pT U.length () (True) (λ_=>.ret) (λV=>⟨[(2,.v (.bool true))],[]⟩) st)else none),?_,?_⟩;unfold ae Tryz.f183;simp only[ak,true_and,and_true];refine ez (U.length<=aH) mixed aB hG kr (λ_=>rfl) (U.length:Int) rfl fj (λhb0 E O W _ hw hc=>⟨L0,ag _,?_⟩) (λhb0 O hc=>?_) λhb0 E O=>?_;exact bB (jl []);exact bC (jl []);exact zq8;unfold ae Tryz.f183;try unfold pY
 exact zq2
@[go_sem] def lY (d:ah)(l_:List bh)(Q1:Nat)(ly:Unit):Unit⊕Unit:=(bif(((decide ((Q1:Int) > 0))&&(decide ((l_.getD Q1 default).no<=(l_.getD (Int.toNat (i64.wrap ((Q1:Int) - 1))) default).no))) ||(!(qZ d ((l_.take Q1).drop 0) (l_.getD Q1 default))))then .inl ()else .inr ())
def pZ (d:ah)(l_:List bh)(Q1:Nat)(ly:Unit):Prop:=letI q2:=(Q1:Int);letI q1:=i64.wrap (q2 - 1);letI q3:=l_.getD Q1 default;letI q0:=(decide (q2 > 0))&&(decide (q3.no<=(l_.getD (Int.toNat q1) default).no));(l_.length<=aH->(((decide (q2 > 0))=true->(0<=q1/\q1< (l_.length:Int)))/\((q0=false->(0<=0/\0<=q2/\q2<=(l_.length:Int)))/\(q0=false->(qq d ((l_.take Q1).drop 0) q3)))))
def j8 (d:ah)(l_:List bh):Int:=(bif((lT d) !=0)then(lT d)else(bif(pY l_)then 2 else(match aj (lY d l_) l_.length 0 ()with| .inl gl=>250| .inr ly=>0)))
def nf (d:ah)(l_:List bh):Prop:=((ql d)/\(((lT d) !=0)=false->((pY l_)=false->okI (lY d l_) (pZ d l_) l_.length 0 ())))
@[go_sem] def HV:List SV->Option Con:=(pD .al λd=>(pR .u0 λl_=>(pE (.det (nf d l_) (.v (.int .i64 (j8 d l_)))))))
theorem xr:zs Tryz.prog 126 HV:=by
 have hG:=mG (cn [.st .al] FG (cn [.sl .u0] HU (cn [.st .al,.sl .u0,.st .u0] FZ C1))) C1;refine fN hG Tryz.f126 [.o] (ax λd=>(bD λU=>(am (λY=>?_))));dsimp only[an]at Y;unfold nf at Y;refine⟨Y2 rfl,(λid st=>bif Nat.beq id 0 then some (LCR (ρ:=Unit) (σ:=Unit) 1 [] [0] (λE O=>⟨[(1,.rs .u0 U),(2,.ptr 0 0),(6,.v (.int .i64 (E:Int)))],[.cells (cellsOf .al d)]⟩) (lY d U) (pZ d U) U.length () (True) (λ_=>.ret) (λW=>⟨[(4,.v (.int .i64 250))],[.dead]⟩) st)else none),?_,?_⟩;unfold ae Tryz.f126;simp only[ak,true_and,and_true];refine ez (U.length<=aH) mixed aB hG kr (λ_=>rfl) (U.length:Int) rfl fj (λhb0 E O X V hw hc=>⟨L0,ag _,?_⟩) (λhb0 O hc=>?_) λhb0 E O=>?_;unfold pZ at V;try simp only[hw,alI]at V
 exact bB (jl [0]);exact bC (jl [0]);exact zq8;unfold ae Tryz.f126;try unfold j8
 exact zq2
@[go_sem] def kQ (l_:List bh)(x:bh)(known:Int)(Q1:Nat)(ly:Unit):Unit⊕Unit:=(bif((((l_.getD Q1 default).kind==4)&&((l_.getD Q1 default).of_==x.no))&&(decide ((l_.getD Q1 default).known<=known)))then .inl ()else .inr ())
def p8 (l_:List bh)(x:bh)(known:Int):Bool:=(match aj (kQ l_ x known) l_.length 0 ()with| .inl gl=>true| .inr ly=>false)
@[go_sem] def KO:List SV->Option Con:=(pR .u0 λl_=>(pD .u0 λx=>(pI λknown=>(pE (.det True (.v (.bool (p8 l_ x known))))))))
theorem HW:zs Tryz.prog 257 KO:=by
 have hG:=mG C1 C1;refine fN hG Tryz.f257 [.o] (bD λU=>(ax λx=>(az λknown=>(am (λX=>?_)))));dsimp only[an]at X;refine⟨Y2 rfl,(λid st=>bif Nat.beq id 0 then some (LCR (ρ:=Unit) (σ:=Unit) 1 [] [0] (λE O=>⟨[(0,.rs .u0 U),(2,.v (.int .i64 known)),(4,.ptr 0 0),(7,.v (.int .i64 (E:Int)))],[.cells (cellsOf .u0 x)]⟩) (kQ U x known) pT U.length () (True) (λ_=>.ret) (λV=>⟨[(6,.v (.bool true))],[.dead]⟩) st)else none),?_,?_⟩;unfold ae Tryz.f257;simp only[ak,true_and,and_true];refine ez (U.length<=aH) mixed aB hG kr (λ_=>rfl) (U.length:Int) rfl fj (λhb0 E O W _ hw hc=>⟨L0,ag _,?_⟩) (λhb0 O hc=>?_) λhb0 E O=>?_;exact bB (jl [0]);exact bC (jl [0]);exact zq8;unfold ae Tryz.f257;try unfold p8
 exact zq2
@[go_sem] def g9 (l_:List bh)(known:Int)(ly:List bh×Int)(k_1:Nat)(s_1:List bh):Empty⊕(List bh):=(bif(((((l_.getD k_1 default).at_==ly.2)&&((l_.getD k_1 default).kind !=4))&&(decide ((l_.getD k_1 default).known<=known)))&&(!(p8 l_ (l_.getD k_1 default) known)))then .inr (s_1++([(l_.getD k_1 default)]))else .inr s_1)
def mN (l_:List bh)(known:Int)(ly:List bh×Int)(k_1:Nat)(s_1:List bh):Prop:=letI q0:=l_.getD k_1 default;(l_.length<=aH->(((((q0.at_==ly.2)&&(q0.kind !=4))&&(decide (q0.known<=known)))&&(!(p8 l_ q0 known)))=true->((s_1++([q0])).length*88<=dI)))
@[go_sem] def fV (l_:List bh)(hour:Int)(known:Int)(Q1:Nat)(ly:List bh×Int):(List bh)⊕(List bh×Int):=(bif((decide (ly.2<=4096))&&(decide (ly.2<=hour)))then(match aj (g9 l_ known ly) l_.length 0 ly.1 with| .inl x=>x.elim| .inr s_1=>.inr (s_1,(i64.wrap (ly.2+1))))else .inl ly.1)
def iq (l_:List bh)(hour:Int)(known:Int)(Q1:Nat)(ly:List bh×Int):Prop:=(((decide (ly.2<=4096))&&(decide (ly.2<=hour)))=true->okI (g9 l_ known ly) (mN l_ known ly) l_.length 0 ly.1)
def dg (l_:List bh)(hour:Int)(known:Int):List bh:=(match aj (fV l_ hour known) (Int.toNat hour+2) 0 ([],0)with| .inl gl=>gl| .inr ly=>default)
def jV (l_:List bh)(hour:Int)(known:Int):Prop:=(okI (fV l_ hour known) (iq l_ hour known) (Int.toNat hour+2) 0 ([],0)/\(∀ z_,aj (fV l_ hour known) (Int.toNat hour+2) 0 ([],0)≠ .inr z_))
@[go_sem] def BR:List SV->Option Con:=(pR .u0 λl_=>(pI λhour=>(pI λknown=>(pE (.det (jV l_ hour known) (.nw .u0 (dg l_ hour known)))))))
theorem Az:zs Tryz.prog 185 BR:=by
 have hG:=mG (cn [.sl .u0,.st .u0,.o] HW C1) C1;refine fW hG Tryz.f185 [(.tmp 6,.u0)] (bD λO=>(az λhour=>(az λknown=>(am (λhp=>?_)))));dsimp only[an]at hp;unfold jV at hp;refine⟨Y2 rfl,(λid st=>bif Nat.beq id 0 then some (LCV (ρ:=(List bh)) (σ:=(List bh×Int)) 0 [.slot 7 (.row .u0 ([]))] [0] (λX E=>⟨[(0,.rs .u0 O),(1,.v (.int .i64 hour)),(2,.v (.int .i64 known)),(7,.os 0),(8,.v (.int .i64 E.2))],[.row .u0 E.1]⟩) (fV O hour known) (iq O hour known) (Int.toNat hour+2) ([],0) (λ_=>.normal) (λW=>⟨[(7,.os 0)],[.row .u0 W]⟩) st)else none),?_,?_⟩;unfold ae Tryz.f185;simp only[ak,true_and,and_true];refine eJ mixed aB hG kr (λ_=>rfl) λX E Y=>⟨(λid st=>bif Nat.beq id 2 then some (LCR (ρ:=Empty) (σ:=(List bh)) 1 [] [0,0] (λV U=>⟨[(0,.rs .u0 O),(1,.v (.int .i64 hour)),(2,.v (.int .i64 known)),(7,.os 1),(8,.v (.int .i64 E.2)),(9,.v (.int .i64 (V:Int)))],[.dead,.row .u0 U]⟩) (g9 O known E) (mN O known E) O.length E.1 (True) ((·.elim)) ((·.elim)) st)else none),?_,?_⟩;simp only[ak,true_and,and_true];refine ez (O.length<=aH) mixed aB hG kr (λ_=>rfl) (O.length:Int) rfl fj (λhb1 V U aqy hq1 hw hc=>⟨L0,ag _,?_⟩) (λhb1 U hc=>?_) λhb1 V U=>?_;unfold mN at hq1;try simp only[hw,alI]at hq1
 exact mX (jl [0,4]) (jl [0,1]);exact mY (jl [0,4]) (jl [0,1]);exact Pt;unfold iq at Y;exact qX (jl [1]) (jl [0]);unfold ae Tryz.f185;try unfold dg
 exact zq2
theorem Nh(a0:JL l0)(a1:JL l1)(h:JL l0->JL l1->p:=by intro ja jb;(first|done|(repeat' (first|with_reducible refine And.intro ?_ ?_|((with_reducible show _≠_);first|assumption|omega|(simp_all [ci,d8];done) |grind) |with_reducible intro _)) <;>(first|done|with_reducible exact Empty.elim ‹Empty› |with_reducible assumption|rfl|omega|assumption|decide|exact fk ja|exact fk jb|(simp only[*,cond_true,cond_false,alZ,amd,go_sem];done) |(simp only[*,cond_true,cond_false,alZ,amd,go_sem];(repeat' (first|with_reducible refine And.intro ?_ ?_|((with_reducible show _≠_);first|assumption|omega|(simp_all [ci,d8];done) |grind) |with_reducible intro _)) <;>(first|done|assumption|rfl|omega|decide|exact fk ja|exact fk jb|(simp_all [ci,d8];done))) |(simp_all [okI,ci,d8];done) |(simp_all [ci,d8];(first|done|exact fk2 ja|exact fk2 jb)) |exact fk2 ja|exact fk2 jb|(simp_all only[ci,d8,cond_true,cond_false];(first|done|exact fk ja|exact fk jb|exact fk2 ja|exact fk2 jb|(simp only[go_sem];((repeat' (first|with_reducible refine And.intro ?_ ?_|((with_reducible show _≠_);first|assumption|omega|(simp_all [ci,d8];done) |grind) |with_reducible intro _)) <;>(first|done|rfl|exact fk ja|exact fk jb|exact fk2 ja|exact fk2 jb)))))))):p:=h a0 a1
theorem Ni(a0:JL l0)(h:JL l0->p:=by intro ja;(first|done|(repeat' (first|with_reducible refine And.intro ?_ ?_|((with_reducible show _≠_);first|assumption|omega|(simp_all [ci,d8];done) |grind) |with_reducible intro _)) <;>(first|done|with_reducible exact Empty.elim ‹Empty› |with_reducible assumption|rfl|omega|assumption|decide|exact fk ja|(simp only[*,cond_true,cond_false,alZ,amd,go_sem];done) |(simp only[*,cond_true,cond_false,alZ,amd,go_sem];(repeat' (first|with_reducible refine And.intro ?_ ?_|((with_reducible show _≠_);first|assumption|omega|(simp_all [ci,d8];done) |grind) |with_reducible intro _)) <;>(first|done|assumption|rfl|omega|decide|exact fk ja|(simp_all [ci,d8];done))) |(simp_all [okI,ci,d8];done) |(simp_all [ci,d8];(first|done|exact fk2 ja)) |exact fk2 ja|(simp_all only[ci,d8,cond_true,cond_false];(first|done|exact fk ja|exact fk2 ja|(simp only[go_sem];((repeat' (first|with_reducible refine And.intro ?_ ?_|((with_reducible show _≠_);first|assumption|omega|(simp_all [ci,d8];done) |grind) |with_reducible intro _)) <;>(first|done|rfl|exact fk ja|exact fk2 ja)))))))):p:=h a0
theorem F0(a0:JL l0)(a1:JL l1)(h:JL l0->JL l1->p:=by intro ja jb;simp only[go_sem,hc,hw];all_goals exact Nh ja jb):p:=h a0 a1
theorem F4(a0:JL l0)(a1:JL l1)(h:JL l0->JL l1->p:=by intro ja jb;simp only[go_sem,hc];all_goals exact Nh ja jb):p:=h a0 a1
theorem Nj(a0:JL l0)(h:JL l0->p:=by intro ja;simp only[go_sem,hc,hw];all_goals exact Ni ja):p:=h a0
theorem Nk(a0:JL l0)(h:JL l0->p:=by intro ja;simp only[go_sem,hc];all_goals exact Ni ja):p:=h a0
@[go_sem] def d9 (a1:List bh)(Q1:Nat)(ly:List Int×List Int)(k_1:Nat)(s_1:List Int×Int):Empty⊕(List Int×Int):=letI q3:=a1.getD Q1 default;letI q0:=(q3.parts).getD k_1 default;letI q1:=gf (q0.share) (ly.2.getD (Int.toNat (q3.since)) 0);letI q2:=Int.toNat (q0.dd);.inr ((s_1.1.set q2 (i64.wrap ((s_1.1.getD q2 0)+q1.1))),(i64.wrap (s_1.2 - q1.1)))
def lg (a1:List bh)(Q1:Nat)(ly:List Int×List Int)(k_1:Nat)(s_1:List Int×Int):Prop:=letI q2:=a1.getD Q1 default;letI q0:=(q2.parts).getD k_1 default;letI q1:=0<=q0.dd/\q0.dd< (s_1.1.length:Int);((q2.parts).length<=aH->((na (q0.share) (ly.2.getD (Int.toNat (q2.since)) 0))/\(q1/\q1)))
@[go_sem] def nJ (a1:List bh)(Q1:Nat)(s_1:List Int×Int)(k_2:Nat)(s_2:List Int):Empty⊕(List Int):=.inr (s_2.set (Int.toNat ((((a1.getD Q1 default).parts).getD k_2 default).dd)) (i64.wrap ((s_2.getD (Int.toNat ((((a1.getD Q1 default).parts).getD k_2 default).dd)) 0)+1)))
def lh (a1:List bh)(Q1:Nat)(s_1:List Int×Int)(k_2:Nat)(s_2:List Int):Prop:=letI q2:=(a1.getD Q1 default).parts;letI q0:=q2.getD k_2 default;letI q1:=0<=q0.dd/\q0.dd< (s_2.length:Int);((0<=(k_2:Int)/\(k_2:Int) < (q2.length:Int))/\(q1/\q1))
@[go_sem] def ik (a1:List bh)(a2:Int)(Q1:Nat)(ly:List Int×List Int):Empty⊕(List Int×List Int):=letI q1:=a1.getD Q1 default;letI q2:=Int.toNat (q1.since);letI q3:=ly.2.getD q2 0;letI q4:=ly.2.set q2 0;letI q5:=Int.toNat (q1.to);letI q0:=bif(q1.kind==1)then(q4.set q5 (i64.wrap ((q4.getD q5 0)+q3)))else q4;(bif(q1.right !=a2)then .inr (ly.1,ly.2)else(bif(q3==0)then .inr ((ly.1++([q1.no])),ly.2)else(bif(q1.kind==2)then(match aj (d9 a1 Q1 ly) ((q1.parts).length) 0 (q0,q3)with| .inl x=>x.elim| .inr s_1=>(match aj (nJ a1 Q1 s_1) (Int.toNat s_1.2) 0 s_1.1 with| .inl x=>x.elim| .inr s_2=>.inr (ly.1,s_2)))else .inr (ly.1,q0))))
def g_ (a1:List bh)(a2:Int)(Q1:Nat)(ly:List Int×List Int):Prop:=letI q0:=a1.getD Q1 default;letI q2:=Int.toNat (q0.since);letI q3:=ly.2.set q2 0;letI q4:=0<=q0.since/\q0.since< (ly.2.length:Int);letI q5:=ly.2.getD q2 0;letI q6:=0<=q0.to/\q0.to< (q3.length:Int);letI q7:=d9 a1 Q1 ly;letI q8:=(q0.parts).length;letI q9:=Int.toNat (q0.to);letI q1:=((bif(q0.kind==1)then(q3.set q9 (i64.wrap ((q3.getD q9 0)+q5)))else q3),q5);(a1.length<=aH->((q0.right !=a2)=false->(q4/\(((q5==0)=true->((ly.1++([q0.no])).length*8<=dI))/\((q5==0)=false->(q4/\(((q0.kind==1)=true->(q6/\q6))/\((q0.kind==2)=true->(okI q7 (lg a1 Q1 ly) q8 0 q1/\(∀ s_1,aj q7 q8 0 q1=.inr s_1->((s_1.2<9223372036854775808)/\okI (nJ a1 Q1 s_1) (lh a1 Q1 s_1) (Int.toNat s_1.2) 0 s_1.1)))))))))))
def eD (a0:ah)(a1:List bh)(a2:Int):List Int×List Int:=letI q0:=a0.ai.getD (Int.toNat a2) default;(match aj (ik a1 a2) a1.length 0 ([],((List.replicate (Int.toNat (a0.l5.length:Int)) (0:Int)).set (Int.toNat (q0.dd)) q0.bo))with| .inl x=>x.elim| .inr ly=>(ly.2,ly.1))
def oT (a0:ah)(a1:List bh)(a2:Int):Prop:=letI q0:=(a0.l5.length:Int);letI q1:=a0.ai.getD (Int.toNat a2) default;letI q2:=List.replicate (Int.toNat q0) (0:Int);letI q3:=0<=a2/\a2< (a0.ai.length:Int);(a0.l5.length<=aH->((q0=q0/\0<=q0/\q0*((8:Nat):Int)<=((dI:Nat):Int))/\(q0<=((aH:Nat):Int)->(q3/\(q3/\((0<=q1.dd/\q1.dd< (q2.length:Int))/\okI (ik a1 a2) (g_ a1 a2) a1.length 0 ([],(q2.set (Int.toNat (q1.dd)) q1.bo))))))))
@[go_sem] def F5:List SV->Option Con:=(pD .al λa0=>(pR .u0 λa1=>(pI λa2=>(pE (.det (oT a0 a1 a2) (.tup [.nw .int ((eD a0 a1 a2).1),.nw .int ((eD a0 a1 a2).2)]))))))
theorem Dv:zs Tryz.prog 186 F5:=by
 have hG:=mG (cp FA C1) C1;refine fW hG Tryz.f186 [(.tmp 6,.int),(.tmp 7,.int)] (ax λa0=>(bD λa1=>(az λV=>(am (λhp=>?_)))));dsimp only[an]at hp;unfold oT at hp;refine⟨Y2 rfl,(λid st=>bif Nat.beq id 0 then some (LCR (ρ:=Empty) (σ:=(List Int×List Int)) 2 [.slot 9 (.row .int ([]))] [0,1,2] (λE O=>⟨[(1,.rs .u0 a1),(2,.v (.int .i64 V)),(8,.os 1),(9,.os 2),(10,.v (.int .i64 (E:Int)))],[.dead,.row .int O.2,.row .int O.1]⟩) (ik a1 V) (g_ a1 V) a1.length ([],((List.replicate (Int.toNat (a0.l5.length:Int)) (0:Int)).set (Int.toNat ((a0.ai.getD (Int.toNat V) (default:apu)).dd)) (a0.ai.getD (Int.toNat V) (default:apu)).bo)) (True) ((·.elim)) ((·.elim)) st)else none),?_,?_⟩;unfold ae Tryz.f186;simp only[ak,true_and,and_true];refine ez (a1.length<=aH) mixed aB hG kr (λ_=>rfl) (a1.length:Int) rfl fj (λhb0 E O aqw hq0 hw hc=>⟨(λid st=>bif Nat.beq id 1000069 then some (JC (⟨[(1,.rs .u0 a1),(2,.v (.int .i64 V)),(8,.os 1),(9,.os 2),(10,.v (.int .i64 (E:Int))),(11,.ptr 3 0),(12,.v (.int .i64 (O.2.getD (Int.toNat ((a1.getD E (default:bh)).since)) (0:Int))))],[.dead,.row .int (bif((a1.getD E (default:bh)).kind==1)then((O.2.set (Int.toNat ((a1.getD E (default:bh)).since)) 0).set (Int.toNat ((a1.getD E (default:bh)).to)) (i64.wrap (((O.2.set (Int.toNat ((a1.getD E (default:bh)).since)) 0).getD (Int.toNat ((a1.getD E (default:bh)).to)) (0:Int))+(O.2.getD (Int.toNat ((a1.getD E (default:bh)).since)) (0:Int)))))else(O.2.set (Int.toNat ((a1.getD E (default:bh)).since)) 0)),.row .int O.1,.cells (cellsOf .u0 (a1.getD E (default:bh)))]⟩))else bif Nat.beq id 2 then some (LCR (ρ:=Empty) (σ:=(List Int×Int)) 4 [] [0,1,2,3] (λX U=>⟨[(1,.rs .u0 a1),(2,.v (.int .i64 V)),(8,.os 1),(9,.os 2),(10,.v (.int .i64 (E:Int))),(11,.ptr 3 0),(12,.v (.int .i64 (O.2.getD (Int.toNat ((a1.getD E (default:bh)).since)) (0:Int)))),(13,.v (.int .i64 U.2)),(14,.v (.int .i64 (X:Int)))],[.dead,.row .int U.1,.row .int O.1,.cells (cellsOf .u0 (a1.getD E (default:bh)))]⟩) (d9 a1 E O) (lg a1 E O) (((a1.getD E (default:bh)).parts).length) ((bif((a1.getD E (default:bh)).kind==1)then((O.2.set (Int.toNat ((a1.getD E (default:bh)).since)) 0).set (Int.toNat ((a1.getD E (default:bh)).to)) (i64.wrap (((O.2.set (Int.toNat ((a1.getD E (default:bh)).since)) 0).getD (Int.toNat ((a1.getD E (default:bh)).to)) (0:Int))+(O.2.getD (Int.toNat ((a1.getD E (default:bh)).since)) (0:Int)))))else(O.2.set (Int.toNat ((a1.getD E (default:bh)).since)) 0)),(O.2.getD (Int.toNat ((a1.getD E (default:bh)).since)) (0:Int))) (True) ((·.elim)) ((·.elim)) st)else bif Nat.beq id 4 then some (LCR (ρ:=Empty) (σ:=(List Int)) 4 [] [0,1,2,3] (λY W=>⟨[(1,.rs .u0 a1),(2,.v (.int .i64 V)),(8,.os 1),(9,.os 2),(10,.v (.int .i64 (E:Int))),(11,.ptr 3 0),(13,.v (.int .i64 (ci (aj (d9 a1 E O) (((a1.getD E (default:bh)).parts).length) 0 ((bif((a1.getD E (default:bh)).kind==1)then((O.2.set (Int.toNat ((a1.getD E (default:bh)).since)) 0).set (Int.toNat ((a1.getD E (default:bh)).to)) (i64.wrap (((O.2.set (Int.toNat ((a1.getD E (default:bh)).since)) 0).getD (Int.toNat ((a1.getD E (default:bh)).to)) (0:Int))+(O.2.getD (Int.toNat ((a1.getD E (default:bh)).since)) (0:Int)))))else(O.2.set (Int.toNat ((a1.getD E (default:bh)).since)) 0)),(O.2.getD (Int.toNat ((a1.getD E (default:bh)).since)) (0:Int))))).2)),(18,.v (.int .i64 (Y:Int)))],[.dead,.row .int W,.row .int O.1,.cells (cellsOf .u0 (a1.getD E (default:bh)))]⟩) (nJ a1 E (ci (aj (d9 a1 E O) (((a1.getD E (default:bh)).parts).length) 0 ((bif((a1.getD E (default:bh)).kind==1)then((O.2.set (Int.toNat ((a1.getD E (default:bh)).since)) 0).set (Int.toNat ((a1.getD E (default:bh)).to)) (i64.wrap (((O.2.set (Int.toNat ((a1.getD E (default:bh)).since)) 0).getD (Int.toNat ((a1.getD E (default:bh)).to)) (0:Int))+(O.2.getD (Int.toNat ((a1.getD E (default:bh)).since)) (0:Int)))))else(O.2.set (Int.toNat ((a1.getD E (default:bh)).since)) 0)),(O.2.getD (Int.toNat ((a1.getD E (default:bh)).since)) (0:Int)))))) (lh a1 E (ci (aj (d9 a1 E O) (((a1.getD E (default:bh)).parts).length) 0 ((bif((a1.getD E (default:bh)).kind==1)then((O.2.set (Int.toNat ((a1.getD E (default:bh)).since)) 0).set (Int.toNat ((a1.getD E (default:bh)).to)) (i64.wrap (((O.2.set (Int.toNat ((a1.getD E (default:bh)).since)) 0).getD (Int.toNat ((a1.getD E (default:bh)).to)) (0:Int))+(O.2.getD (Int.toNat ((a1.getD E (default:bh)).since)) (0:Int)))))else(O.2.set (Int.toNat ((a1.getD E (default:bh)).since)) 0)),(O.2.getD (Int.toNat ((a1.getD E (default:bh)).since)) (0:Int)))))) (Int.toNat (ci (aj (d9 a1 E O) (((a1.getD E (default:bh)).parts).length) 0 ((bif((a1.getD E (default:bh)).kind==1)then((O.2.set (Int.toNat ((a1.getD E (default:bh)).since)) 0).set (Int.toNat ((a1.getD E (default:bh)).to)) (i64.wrap (((O.2.set (Int.toNat ((a1.getD E (default:bh)).since)) 0).getD (Int.toNat ((a1.getD E (default:bh)).to)) (0:Int))+(O.2.getD (Int.toNat ((a1.getD E (default:bh)).since)) (0:Int)))))else(O.2.set (Int.toNat ((a1.getD E (default:bh)).since)) 0)),(O.2.getD (Int.toNat ((a1.getD E (default:bh)).since)) (0:Int))))).2) ((ci (aj (d9 a1 E O) (((a1.getD E (default:bh)).parts).length) 0 ((bif((a1.getD E (default:bh)).kind==1)then((O.2.set (Int.toNat ((a1.getD E (default:bh)).since)) 0).set (Int.toNat ((a1.getD E (default:bh)).to)) (i64.wrap (((O.2.set (Int.toNat ((a1.getD E (default:bh)).since)) 0).getD (Int.toNat ((a1.getD E (default:bh)).to)) (0:Int))+(O.2.getD (Int.toNat ((a1.getD E (default:bh)).since)) (0:Int)))))else(O.2.set (Int.toNat ((a1.getD E (default:bh)).since)) 0)),(O.2.getD (Int.toNat ((a1.getD E (default:bh)).since)) (0:Int))))).1) ((ci (aj (d9 a1 E O) (((a1.getD E (default:bh)).parts).length) 0 ((bif((a1.getD E (default:bh)).kind==1)then((O.2.set (Int.toNat ((a1.getD E (default:bh)).since)) 0).set (Int.toNat ((a1.getD E (default:bh)).to)) (i64.wrap (((O.2.set (Int.toNat ((a1.getD E (default:bh)).since)) 0).getD (Int.toNat ((a1.getD E (default:bh)).to)) (0:Int))+(O.2.getD (Int.toNat ((a1.getD E (default:bh)).since)) (0:Int)))))else(O.2.set (Int.toNat ((a1.getD E (default:bh)).since)) 0)),(O.2.getD (Int.toNat ((a1.getD E (default:bh)).since)) (0:Int))))).2<9223372036854775808) ((·.elim)) ((·.elim)) st)else none),?_,?_⟩) (λhb0 O hc=>?_) λhb0 E O=>?_;simp only[ak,true_and,and_true];refine⟨?_,?_⟩;refine ez (((a1.getD E (default:bh)).parts).length<=aH) mixed aB hG kr (λ_=>rfl) (((a1.getD E (default:bh)).parts).length:Int) rfl fj (λhb1 X U aqy hq1 hw hc=>⟨L0,ag _,?_⟩) (λhb1 U hc=>?_) λhb1 X U=>?_;unfold lg at hq1;try simp only[hw,alI]at hq1
 exact Nj (jl [0,1,2,3]);exact Nk (jl [0,1,2,3]);exact Pt;refine bL mixed aB hG kr (λ_=>rfl) ((ci (aj (d9 a1 E O) (((a1.getD E (default:bh)).parts).length) 0 ((bif((a1.getD E (default:bh)).kind==1)then((O.2.set (Int.toNat ((a1.getD E (default:bh)).since)) 0).set (Int.toNat ((a1.getD E (default:bh)).to)) (i64.wrap (((O.2.set (Int.toNat ((a1.getD E (default:bh)).since)) 0).getD (Int.toNat ((a1.getD E (default:bh)).to)) (0:Int))+(O.2.getD (Int.toNat ((a1.getD E (default:bh)).since)) (0:Int)))))else(O.2.set (Int.toNat ((a1.getD E (default:bh)).since)) 0)),(O.2.getD (Int.toNat ((a1.getD E (default:bh)).since)) (0:Int))))).2) rfl id (λhb2 Y W hlt2 hq2 hw hc=>⟨L0,ag _,?_⟩) (λhb2 W hc=>?_);unfold lh at hq2;try simp only[hw,alI]at hq2
 exact Nj (jl [0,1,2,3]);exact Nk (jl [0,1,2,3]);unfold g_ at hq0;try simp only[hw,alI]at hq0
 exact F0 (jl [0,1,2]) (jl [0,1,5]);exact F4 (jl [0,1,2]) (jl [0,1,5]);exact zq8;unfold ae Tryz.f186;try unfold eD
 exact zq2
@[go_sem] def oh (a0:ah)(a1:List bh)(a2:Int)(a3:Int)(Q1:Nat)(k_1:Nat)(s_1:List ao0):Empty⊕(List ao0):=letI q0:=((eD a0 (dg a1 a2 a3) (Q1:Int)).1).getD k_1 0;(bif(decide (q0 > 0))then .inr (s_1++([({ right:=(Q1:Int),dd:=(k_1:Int),bo:=q0,ao8:=(a0.ai.getD Q1 default).ao8}:ao0)]))else .inr s_1)
def nh (a0:ah)(a1:List bh)(a2:Int)(a3:Int)(Q1:Nat)(k_1:Nat)(s_1:List ao0):Prop:=letI q0:=(eD a0 (dg a1 a2 a3) (Q1:Int)).1;(q0.length<=aH->((decide ((q0.getD k_1 0) > 0))=true->((s_1++([({ right:=(Q1:Int),dd:=(k_1:Int),bo:=(q0.getD k_1 0),ao8:=(a0.ai.getD Q1 default).ao8}:ao0)])).length*32<=dI)))
@[go_sem] def oi (a0:ah)(a1:List bh)(a2:Int)(a3:Int)(Q1:Nat)(ly:List ao0):Empty⊕(List ao0):=(bif((a0.ai.getD Q1 default).kind !=1)then .inr ly else(match aj (oh a0 a1 a2 a3 Q1) (((eD a0 (dg a1 a2 a3) (Q1:Int)).1).length) 0 ly with| .inl x=>x.elim| .inr s_1=>.inr s_1))
def ni (a0:ah)(a1:List bh)(a2:Int)(a3:Int)(Q1:Nat)(ly:List ao0):Prop:=letI q0:=dg a1 a2 a3;(a0.ai.length<=aH->(((a0.ai.getD Q1 default).kind !=1)=false->((oT a0 q0 (Q1:Int))/\okI (oh a0 a1 a2 a3 Q1) (nh a0 a1 a2 a3 Q1) (((eD a0 q0 (Q1:Int)).1).length) 0 ly)))
def jW (a0:ah)(a1:List bh)(a2:Int)(a3:Int):List ao0×Int:=letI q0:=j8 a0 a1;(bif(q0 !=0)then([],q0)else(bif((((decide (a2<0)) ||(decide (a2>=a0.hours))) ||(decide (a3<0))) ||(decide (a3 > 1048576)))then([],1)else(match aj (oi a0 a1 a2 a3) a0.ai.length 0 ([])with| .inl x=>x.elim| .inr ly=>(ly,0))))
def sT (a0:ah)(a1:List bh)(a2:Int)(a3:Int):Prop:=((nf a0 a1)/\(((j8 a0 a1) !=0)=false->(((((decide (a2<0)) ||(decide (a2>=a0.hours))) ||(decide (a3<0))) ||(decide (a3 > 1048576)))=false->((jV a1 a2 a3)/\okI (oi a0 a1 a2 a3) (ni a0 a1 a2 a3) a0.ai.length 0 ([])))))
@[go_sem] def PD:List SV->Option Con:=(pD .al λa0=>(pR .u0 λa1=>(pI λa2=>(pI λa3=>(pE (.det (sT a0 a1 a2 a3) (.tup [.nw .holding ((jW a0 a1 a2 a3).1),.v (.int .i64 ((jW a0 a1 a2 a3).2))])))))))
theorem Nl:zs Tryz.prog 127 PD:=by
 have hG:=mG (cn [.st .al,.sl .u0] xr (cn [.sl .u0,.o,.o] Az (cn [.st .al,.sl .u0,.o] Dv C1))) C1;refine fW hG Tryz.f127 [(.tmp 8,.holding)] (ax λa0=>(bD λa1=>(az λV=>(az λU=>(am (λhp=>?_))))));dsimp only[an]at hp;unfold sT at hp;refine⟨Y2 rfl,(λid st=>bif Nat.beq id 0 then some (LCR (ρ:=Empty) (σ:=(List ao0)) 2 [.slot 12 (.row .holding ([]))] [0,1,2] (λE O=>⟨[(4,.ptr 0 0),(11,.os 1),(12,.os 2),(13,.v (.int .i64 (E:Int)))],[.cells (cellsOf .al a0),.row .u0 (dg a1 V U),.row .holding O]⟩) (oi a0 a1 V U) (ni a0 a1 V U) a0.ai.length ([]) (True) ((·.elim)) ((·.elim)) st)else none),?_,?_⟩;unfold ae Tryz.f127;simp only[ak,true_and,and_true];refine ez (a0.ai.length<=aH) mixed aB hG kr (λ_=>rfl) (a0.ai.length:Int) rfl fj (λhb0 E O aqw Y hw hc=>⟨(λid st=>bif Nat.beq id 2 then some (LCR (ρ:=Empty) (σ:=(List ao0)) 5 [] [0,1,2,3,4,2] (λX W=>⟨[(4,.ptr 0 0),(11,.os 1),(12,.os 5),(13,.v (.int .i64 (E:Int))),(14,.os 3),(16,.v (.int .i64 (X:Int)))],[.cells (cellsOf .al a0),.row .u0 (dg a1 V U),.dead,.row .int ((eD a0 (dg a1 V U) (E:Int)).1),.dead,.row .holding W]⟩) (oh a0 a1 V U E) (nh a0 a1 V U E) (((eD a0 (dg a1 V U) (E:Int)).1).length) O (True) ((·.elim)) ((·.elim)) st)else none),?_,?_⟩) (λhb0 O hc=>?_) λhb0 E O=>?_;simp only[ak,true_and,and_true];refine ez (((eD a0 (dg a1 V U) (E:Int)).1).length<=aH) mixed aB hG kr (λ_=>rfl) (((eD a0 (dg a1 V U) (E:Int)).1).length:Int) rfl fj (λhb1 X W aqy hq1 hw hc=>⟨L0,ag _,?_⟩) (λhb1 W hc=>?_) λhb1 X W=>?_;unfold nh at hq1;try simp only[hw,alI]at hq1
 exact F0 (jl [0,1,2,3,4,7]) (jl [0,1,2,3,4,5]);exact F4 (jl [0,1,2,3,4,7]) (jl [0,1,2,3,4,5]);exact Pt;unfold ni at Y;try simp only[hw,alI]at Y
 exact F0 (jl [0,1,2]) (jl [0,1,5]);exact F4 (jl [0,1,2]) (jl [0,1,5]);exact zq8;unfold ae Tryz.f127;try unfold jW
 exact zq2
@[go_sem] def AA (a:List Int)(b:List Int)(Q1:Nat)(ly:Unit):Unit⊕Unit:=(bif((a.getD Q1 0) !=(b.getD Q1 0))then .inl ()else .inr ())
def Wf (a:List Int)(b:List Int):Bool:=(bif((a.length:Int) !=(b.length:Int))then false else(match aj (AA a b) a.length 0 ()with| .inl gl=>false| .inr ly=>true))
@[go_sem] def AB (l_:List bh)(Q1:Nat)(ly:Unit):Unit⊕Unit:=(bif(decide ((((l_.getD Q1 default).parts).length:Int) > 100))then .inl ()else .inr ())
def BS (d:ah)(l_:List bh):Bool:=letI q0:=(l_.length:Int);letI q1:=(d.ai.length:Int);letI q2:=(d.l5.length:Int);(bif((decide (q0 > 512))&&(decide (q0<=700)))then(xS d)else(bif((((decide (q0 > 60)) ||(!(xS d))) ||((decide (q1 > 40))&&(decide (q1<=256)))) ||((decide (q2 > 60))&&(decide (q2<=600))))then false else(match aj (AB l_) l_.length 0 ()with| .inl gl=>false| .inr ly=>true)))
@[go_sem] def Nm:List SV->Option Con:=(pD .al λd=>(pR .u0 λl_=>(pE (.det True (.v (.bool (BS d l_)))))))
theorem KP:zs Tryz.prog 65 Nm:=by
 have hG:=mG (cn [.st .al] Kz C1) C1;refine fN hG Tryz.f65 [.o] (ax λd=>(bD λU=>(am (λX=>?_))));dsimp only[an]at X;refine⟨Y2 rfl,(λid st=>bif Nat.beq id 0 then some (LCR (ρ:=Unit) (σ:=Unit) 1 [] [0] (λE O=>⟨[(1,.rs .u0 U),(5,.v (.int .i64 (E:Int)))],[.dead]⟩) (AB U) pT U.length () (True) (λ_=>.ret) (λV=>⟨[(4,.v (.bool false))],[.dead]⟩) st)else none),?_,?_⟩;unfold ae Tryz.f65;simp only[ak,true_and,and_true];refine ez (U.length<=aH) mixed aB hG kr (λ_=>rfl) (U.length:Int) rfl fj (λhb0 E O W _ hw hc=>⟨L0,ag _,?_⟩) (λhb0 O hc=>?_) λhb0 E O=>?_;exact bB (jl [0]);exact bC (jl [0]);exact zq8;unfold ae Tryz.f65;try unfold BS
 exact zq2
def oU (a:Claim)(b:Claim):Bool:=(bif(a.hour !=b.hour)then(decide (a.hour<b.hour))else(bif(a.ao8 !=b.ao8)then(decide (a.ao8<b.ao8))else(bif(a.right !=b.right)then(decide (a.right<b.right))else(decide (a.dd<b.dd)))))
@[go_sem] def F6:List SV->Option Con:=(pD .x6 λa=>(pD .x6 λb=>(pE (.det True (.v (.bool (oU a b)))))))
theorem Dw:zs Tryz.prog 187 F6:=by
 have hG:=mG C1 C1;refine fN hG Tryz.f187 [.o] (ax λa=>(ax λb=>(am (λE=>?_))));dsimp only[an]at E;refine⟨Y2 rfl,L0,ag _,?_⟩;unfold ae Tryz.f187;try unfold oU
 exact zq2
def xY (d:ah)(l_:List bh)(fr:Int)(to:Int):Bool:=letI q0:=(d.ai.length:Int);(bif((!(BS d l_)) ||((decide (q0 > 40))&&(decide (q0<=256))))then false else(((((decide (fr<0)) ||(decide (fr > to))) ||(decide (to>=d.hours))) ||(decide (d.hours > 4096))) ||(decide ((i64.wrap (to - fr)) <60))))
@[go_sem] def Nn:List SV->Option Con:=(pD .al λd=>(pR .u0 λl_=>(pI λfr=>(pI λto=>(pE (.det True (.v (.bool (xY d l_ fr to)))))))))
theorem KQ:zs Tryz.prog 25 Nn:=by
 have hG:=mG (cn [.st .al,.sl .u0] KP C1) C1;refine fN hG Tryz.f25 [.o] (ax λd=>(bD λO=>(az λfr=>(az λto=>(am (λE=>?_))))));dsimp only[an]at E;refine⟨Y2 rfl,L0,ag _,?_⟩;unfold ae Tryz.f25;try unfold xY
 exact zq2
def p9 (x:apu)(hour:Int):Bool:=(bif(((x.kind !=1) ||(decide (hour<x.since))) ||(decide (hour > x.to)))then false else(decide ((Int.tmod (i64.wrap (hour - x.since)) x.every) <x.length)))
def vH (x:apu)(hour:Int):Prop:=((((x.kind !=1) ||(decide (hour<x.since))) ||(decide (hour > x.to)))=false->x.every≠0)
@[go_sem] def KR:List SV->Option Con:=(pD .right λx=>(pI λhour=>(pE (.det (vH x hour) (.v (.bool (p9 x hour)))))))
theorem HX:zs Tryz.prog 128 KR:=by
 have hG:=mG C1 C1;refine fN hG Tryz.f128 [.o] (ax λx=>(az λhour=>(am (λE=>?_))));dsimp only[an]at E;unfold vH at E;refine⟨Y2 rfl,L0,ag _,?_⟩;unfold ae Tryz.f128;try unfold p9
 exact zq2
def ca (x:apu)(kind:Int)(dd:Int)(reach:Int)(hour:Int):Bool:=(((((x.kind==kind)&&(x.dd==dd))&&(x.reach==reach))&&(decide (x.since<=hour)))&&(decide (hour<=x.to)))
@[go_sem] def HY:List SV->Option Con:=(pD .right λx=>(pI λkind=>(pI λdd=>(pI λreach=>(pI λhour=>(pE (.det True (.v (.bool (ca x kind dd reach hour))))))))))
theorem xu:zs Tryz.prog 188 HY:=by
 have hG:=mG C1 C1;refine fN hG Tryz.f188 [.o] (ax λx=>(az λkind=>(az λdd=>(az λreach=>(az λhour=>(am (λE=>?_)))))));dsimp only[an]at E;refine⟨Y2 rfl,L0,ag _,?_⟩;unfold ae Tryz.f188;try unfold ca
 exact zq2
@[go_sem] def sW (d:ah)(dd:Int)(reach:Int)(hour:Int)(Q1:Nat)(ly:Unit):Unit⊕Unit:=(bif(ca (d.ai.getD Q1 default) 3 dd reach hour)then .inl ()else .inr ())
def lZ (d:ah)(dd:Int)(reach:Int)(hour:Int):Bool:=(match aj (sW d dd reach hour) d.ai.length 0 ()with| .inl gl=>true| .inr ly=>false)
@[go_sem] def HZ:List SV->Option Con:=(pD .al λd=>(pI λdd=>(pI λreach=>(pI λhour=>(pE (.det True (.v (.bool (lZ d dd reach hour)))))))))
theorem F7:zs Tryz.prog 189 HZ:=by
 have hG:=mG (cp xu C1) C1;refine fN hG Tryz.f189 [.o] (ax λd=>(az λdd=>(az λreach=>(az λhour=>(am (λW=>?_))))));dsimp only[an]at W;refine⟨Y2 rfl,(λid st=>bif Nat.beq id 0 then some (LCR (ρ:=Unit) (σ:=Unit) 1 [] [0] (λE O=>⟨[(1,.v (.int .i64 dd)),(2,.v (.int .i64 reach)),(3,.v (.int .i64 hour)),(4,.ptr 0 0),(9,.v (.int .i64 (E:Int)))],[.cells (cellsOf .al d)]⟩) (sW d dd reach hour) pT d.ai.length () (True) (λ_=>.ret) (λU=>⟨[(8,.v (.bool true))],[.dead]⟩) st)else none),?_,?_⟩;unfold ae Tryz.f189;simp only[ak,true_and,and_true];refine ez (d.ai.length<=aH) mixed aB hG kr (λ_=>rfl) (d.ai.length:Int) rfl fj (λhb0 E O V _ hw hc=>⟨L0,ag _,?_⟩) (λhb0 O hc=>?_) λhb0 E O=>?_;exact bB (jl [0]);exact bC (jl [0]);exact zq8;unfold ae Tryz.f189;try unfold lZ
 exact zq2
@[go_sem] def vI (d:ah)(dd:Int)(reach:Int)(hour:Int)(Q1:Nat)(ly:Unit):Unit⊕Unit:=(bif(((d.ai.getD Q1 default).dd !=dd)&&(ca (d.ai.getD Q1 default) 2 ((d.ai.getD Q1 default).dd) reach hour))then .inl ()else .inr ())
def p_ (d:ah)(dd:Int)(reach:Int)(hour:Int):Bool:=(match aj (vI d dd reach hour) d.ai.length 0 ()with| .inl gl=>(lZ d dd reach hour) | .inr ly=>true)
@[go_sem] def No:List SV->Option Con:=(pD .al λd=>(pI λdd=>(pI λreach=>(pI λhour=>(pE (.det True (.v (.bool (p_ d dd reach hour)))))))))
theorem KS:zs Tryz.prog 131 No:=by
 have hG:=mG (cp xu (cn [.st .al,.o,.o,.o] F7 C1)) C1;refine fN hG Tryz.f131 [.o] (ax λd=>(az λdd=>(az λreach=>(az λhour=>(am (λW=>?_))))));dsimp only[an]at W;refine⟨Y2 rfl,(λid st=>bif Nat.beq id 0 then some (LCR (ρ:=Unit) (σ:=Unit) 1 [] [0] (λE O=>⟨[(1,.v (.int .i64 dd)),(2,.v (.int .i64 reach)),(3,.v (.int .i64 hour)),(4,.ptr 0 0),(9,.v (.int .i64 (E:Int)))],[.cells (cellsOf .al d)]⟩) (vI d dd reach hour) pT d.ai.length () (True) (λ_=>.ret) (λU=>⟨[(8,.v (.bool (lZ d dd reach hour)))],[.dead]⟩) st)else none),?_,?_⟩;unfold ae Tryz.f131;simp only[ak,true_and,and_true];refine ez (d.ai.length<=aH) mixed aB hG kr (λ_=>rfl) (d.ai.length:Int) rfl fj (λhb0 E O V _ hw hc=>⟨L0,ag _,?_⟩) (λhb0 O hc=>?_) λhb0 E O=>?_;exact bB (jl [0]);exact bC (jl [0]);exact zq8;unfold ae Tryz.f131;try unfold p_
 exact zq2
@[go_sem] def gF (d:ah)(Q1:Nat)(ly:List Int):(List Int)⊕(List Int):=(bif(decide ((ly.getD 0 0) > 0))then .inr (([(d.reaches.getD (Int.toNat (ly.getD 0 0)) default).up])++ly)else .inl ly)
def i_ (d:ah)(Q1:Nat)(ly:List Int):Prop:=letI q0:=ly.getD 0 0;letI q1:=0<=0/\0< (ly.length:Int);(q1/\((decide (q0 > 0))=true->(q1/\((0<=q0/\q0< (d.reaches.length:Int))/\((([(d.reaches.getD (Int.toNat q0) default).up])++ly).length*8<=dI)))))
def iR (d:ah)(reach:Int):List Int:=(match aj (gF d) 66 0 ([reach])with| .inl gl=>gl| .inr ly=>default)
def rX (d:ah)(reach:Int):Prop:=(okI (gF d) (i_ d) 66 0 ([reach])/\(∀ z_,aj (gF d) 66 0 ([reach])≠ .inr z_))
@[go_sem] def KT:List SV->Option Con:=(pD .al λd=>(pI λreach=>(pE (.det (rX d reach) (.nw .int (iR d reach))))))
theorem H0:zs Tryz.prog 130 KT:=by
 have hG:=mG C1 C1;refine fW hG Tryz.f130 [(.tmp 4,.int)] (ax λd=>(az λreach=>(am (λW=>?_))));dsimp only[an]at W;unfold rX at W;refine⟨Y2 rfl,(λid st=>bif Nat.beq id 0 then some (LCV (ρ:=(List Int)) (σ:=(List Int)) 2 [] [0,1,1] (λU O=>⟨[(2,.ptr 0 0),(5,.os 2)],[.cells (cellsOf .al d),.dead,.row .int O]⟩) (gF d) (i_ d) 66 ([reach]) (λ_=>.normal) (λE=>⟨[(5,.os 2)],[.dead,.dead,.row .int E]⟩) st)else none),?_,?_⟩;unfold ae Tryz.f130;simp only[ak,true_and,and_true];refine eJ mixed aB hG kr (λ_=>rfl) λU O V=>⟨L0,ag _,?_⟩;unfold i_ at V;exact qX (jl [0,1,4]) (jl [0,1,2]);unfold ae Tryz.f130;try unfold iR
 exact zq2
@[go_sem] def nV (d:ah)(dd:Int)(hour:Int)(Q1:Nat)(ly:Unit):Int⊕Unit:=(bif(!(p_ d dd ((iR d ((d.l5.getD (Int.toNat dd) default).reach)).getD Q1 0) hour))then .inl ((iR d ((d.l5.getD (Int.toNat dd) default).reach)).getD Q1 0)else .inr ())
def jc (d:ah)(dd:Int)(hour:Int):Int:=(match aj (nV d dd hour) ((iR d ((d.l5.getD (Int.toNat dd) default).reach)).length) 0 ()with| .inl gl=>gl| .inr ly=>(-1))
def li (d:ah)(dd:Int)(hour:Int):Prop:=((0<=dd/\dd< (d.l5.length:Int))/\(rX d ((d.l5.getD (Int.toNat dd) default).reach)))
@[go_sem] def AC:List SV->Option Con:=(pD .al λd=>(pI λdd=>(pI λhour=>(pE (.det (li d dd hour) (.v (.int .i64 (jc d dd hour))))))))
theorem zq:zs Tryz.prog 68 AC:=by
 have hG:=mG (cn [.st .al,.o] H0 (cn [.st .al,.o,.o,.o] KS C1)) C1;refine fN hG Tryz.f68 [.o] (ax λd=>(az λdd=>(az λhour=>(am (λW=>?_)))));dsimp only[an]at W;unfold li at W;refine⟨Y2 rfl,(λid st=>bif Nat.beq id 0 then some (LCR (ρ:=Int) (σ:=Unit) 2 [] [0,1] (λE O=>⟨[(1,.v (.int .i64 dd)),(2,.v (.int .i64 hour)),(3,.ptr 0 0),(7,.os 1),(8,.v (.int .i64 (E:Int)))],[.cells (cellsOf .al d),.row .int (iR d ((d.l5.getD (Int.toNat dd) (default:aqa)).reach))]⟩) (nV d dd hour) pT ((iR d ((d.l5.getD (Int.toNat dd) (default:aqa)).reach)).length) () (True) (λ_=>.ret) (λU=>⟨[(6,.v (.int .i64 U))],[.dead,.dead]⟩) st)else none),?_,?_⟩;unfold ae Tryz.f68;simp only[ak,true_and,and_true];refine ez ((iR d ((d.l5.getD (Int.toNat dd) (default:aqa)).reach)).length<=aH) mixed aB hG kr (λ_=>rfl) ((iR d ((d.l5.getD (Int.toNat dd) (default:aqa)).reach)).length:Int) rfl fj (λhb0 E O V _ hw hc=>⟨L0,ag _,?_⟩) (λhb0 O hc=>?_) λhb0 E O=>?_;exact bB (jl [0,1]);exact bC (jl [0,1]);exact zq8;unfold ae Tryz.f68;try unfold jc
 exact zq2
@[go_sem] def oV (l_:List Claim)(x:Claim)(Q1:Nat)(ly:Int):Int⊕Int:=(bif((decide (ly< (l_.length:Int)))&&(oU (l_.getD (Int.toNat ly) default) x))then .inr (i64.wrap (ly+1))else .inl ly)
def oW (l_:List Claim)(x:Claim)(Q1:Nat)(ly:Int):Prop:=(l_.length<=aH->((decide (ly< (l_.length:Int)))=true->(0<=ly/\ly< (l_.length:Int))))
def qc (l_:List Claim)(x:Claim):List Claim:=(match aj (oV l_ x) 200000 0 0 with| .inl gl=>(((([])++((l_.take (Int.toNat gl)).drop 0))++([x]))++((l_.take (Int.toNat (l_.length:Int))).drop (Int.toNat gl))) | .inr ly=>default)
def tZ (l_:List Claim)(x:Claim):Prop:=letI q0:=(l_.length:Int);letI q1:=oV l_ x;(okI q1 (oW l_ x) 200000 0 0/\(∀ z_,aj q1 200000 0 0≠ .inr z_)/\(∀ gl,aj q1 200000 0 0=.inl gl->((0<=0/\0<=gl/\gl<=q0)/\(((([])++((l_.take (Int.toNat gl)).drop 0)).length*40<=dI)/\((([])++((l_.take (Int.toNat gl)).drop 0)).length<=aH->((((([])++((l_.take (Int.toNat gl)).drop 0))++([x])).length*40<=dI)/\(((([])++((l_.take (Int.toNat gl)).drop 0))++([x])).length<=aH->((0<=gl/\gl<=q0/\q0<=q0)/\((((([])++((l_.take (Int.toNat gl)).drop 0))++([x]))++((l_.take (Int.toNat q0)).drop (Int.toNat gl))).length*40<=dI)))))))))
@[go_sem] def Np:List SV->Option Con:=(pR .x6 λl_=>(pD .x6 λx=>(pE (.det (tZ l_ x) (.nw .x6 (qc l_ x))))))
theorem KU:zs Tryz.prog 129 Np:=by
 have hG:=mG (cp Dw C1) C1;refine fW hG Tryz.f129 [(.tmp 4,.x6)] (bD λU=>(ax λx=>(am (λX=>?_))));dsimp only[an]at X;unfold tZ at X;refine⟨Y2 rfl,(λid st=>bif Nat.beq id 0 then some (LCV (ρ:=Int) (σ:=Int) 1 [] [0] (λW O=>⟨[(0,.rs .x6 U),(3,.ptr 0 0),(5,.v (.int .i64 O))],[.cells (cellsOf .x6 x)]⟩) (oV U x) (oW U x) 200000 0 (λ_=>.normal) (λE=>⟨[(0,.rs .x6 U),(3,.ptr 0 0),(5,.v (.int .i64 E))],[.cells (cellsOf .x6 x)]⟩) st)else none),?_,?_⟩;unfold ae Tryz.f129;simp only[ak,true_and,and_true];refine eJ mixed aB hG kr (λ_=>rfl) λW O V=>⟨L0,ag _,?_⟩;unfold oW at V;exact cU (jl [0]);unfold ae Tryz.f129;try unfold qc
 exact zq2
@[go_sem] def kR (d:ah)(l_:List bh)(h_:Int)(known:Int)(Q1:Nat)(ly:List Claim):Empty⊕(List Claim):=letI q0:=((jW d l_ h_ known).1).getD Q1 default;(bif(p9 (d.ai.getD (Int.toNat (q0.right)) default) h_)then .inr (qc ly ({ right:=q0.right,dd:=q0.dd,hour:=h_,bo:=q0.bo,ao8:=q0.ao8}:Claim))else .inr ly)
def rA (d:ah)(l_:List bh)(h_:Int)(known:Int)(Q1:Nat)(ly:List Claim):Prop:=letI q2:=(jW d l_ h_ known).1;letI q0:=q2.getD Q1 default;letI q1:=d.ai.getD (Int.toNat (q0.right)) default;(q2.length<=aH->((0<=q0.right/\q0.right< (d.ai.length:Int))/\((vH q1 h_)/\((p9 q1 h_)=true->(tZ ly ({ right:=q0.right,dd:=q0.dd,hour:=h_,bo:=q0.bo,ao8:=q0.ao8}:Claim))))))
def gA (d:ah)(l_:List bh)(h_:Int)(known:Int):List Claim:=(match aj (kR d l_ h_ known) (((jW d l_ h_ known).1).length) 0 ([])with| .inl x=>x.elim| .inr ly=>ly)
def rY (d:ah)(l_:List bh)(h_:Int)(known:Int):Prop:=((sT d l_ h_ known)/\okI (kR d l_ h_ known) (rA d l_ h_ known) (((jW d l_ h_ known).1).length) 0 ([]))
@[go_sem] def KV:List SV->Option Con:=(pD .al λd=>(pR .u0 λl_=>(pI λh_=>(pI λknown=>(pE (.det (rY d l_ h_ known) (.nw .x6 (gA d l_ h_ known))))))))
theorem H1:zs Tryz.prog 67 KV:=by
 have hG:=mG (cn [.st .al,.sl .u0,.o,.o] Nl (cp HX (cn [.sl .x6,.st .x6] KU C1))) C1;refine fW hG Tryz.f67 [(.tmp 8,.x6)] (ax λd=>(bD λV=>(az λO=>(az λknown=>(am (λY=>?_))))));dsimp only[an]at Y;unfold rY at Y;refine⟨Y2 rfl,(λid st=>bif Nat.beq id 0 then some (LCR (ρ:=Empty) (σ:=(List Claim)) 2 [.slot 11 (.row .x6 ([]))] [0,1,2] (λU E=>⟨[(2,.v (.int .i64 O)),(4,.ptr 0 0),(9,.os 1),(11,.os 2),(12,.v (.int .i64 (U:Int)))],[.cells (cellsOf .al d),.row .holding ((jW d V O known).1),.row .x6 E]⟩) (kR d V O known) (rA d V O known) (((jW d V O known).1).length) ([]) (True) ((·.elim)) ((·.elim)) st)else none),?_,?_⟩;unfold ae Tryz.f67;simp only[ak,true_and,and_true];refine ez (((jW d V O known).1).length<=aH) mixed aB hG kr (λ_=>rfl) (((jW d V O known).1).length:Int) rfl fj (λhb0 U E X W hw hc=>⟨L0,ag _,?_⟩) (λhb0 E hc=>?_) λhb0 U E=>?_;unfold rA at W;try simp only[hw,alI]at W
 exact mX (jl [0,1,4]) (jl [0,1,2]);exact mY (jl [0,1,4]) (jl [0,1,2]);exact zq8;unfold ae Tryz.f67;try unfold gA
 exact zq2
def l7 (d:ah)(l_:List bh)(fr:Int)(to:Int)(known:Int):Int:=(bif((j8 d l_) !=0)then(j8 d l_)else(bif(((((decide (fr<0)) ||(decide (fr > to))) ||(decide (to>=d.hours))) ||(decide (known<0))) ||(decide (known > 1048576)))then 1 else(bif(decide ((i64.wrap ((i64.wrap ((i64.wrap (to - fr))+1))*(d.ai.length:Int))) > 4096))then 2 else 0)))
def qr (d:ah)(l_:List bh)(fr:Int)(to:Int)(known:Int):Prop:=(nf d l_)
@[go_sem] def H2:List SV->Option Con:=(pD .al λd=>(pR .u0 λl_=>(pI λfr=>(pI λto=>(pI λknown=>(pE (.det (qr d l_ fr to known) (.v (.int .i64 (l7 d l_ fr to known))))))))))
theorem F8:zs Tryz.prog 66 H2:=by
 have hG:=mG (cn [.st .al,.sl .u0] xr C1) C1;refine fN hG Tryz.f66 [.o] (ax λd=>(bD λO=>(az λfr=>(az λto=>(az λknown=>(am (λE=>?_)))))));dsimp only[an]at E;unfold qr at E;refine⟨Y2 rfl,L0,ag _,?_⟩;unfold ae Tryz.f66;try unfold l7
 exact zq2
@[go_sem] def q_ (d:ah)(l_:List bh)(known:Int)(ly:List Claim×Int)(k_1:Nat)(s_1:List Claim):Empty⊕(List Claim):=(bif(decide ((jc d (((gA d l_ ly.2 known).getD k_1 default).dd) ly.2) <0))then .inr (s_1++([((gA d l_ ly.2 known).getD k_1 default)]))else .inr s_1)
def ud (d:ah)(l_:List bh)(known:Int)(ly:List Claim×Int)(k_1:Nat)(s_1:List Claim):Prop:=letI q1:=gA d l_ ly.2 known;letI q0:=q1.getD k_1 default;(q1.length<=aH->((li d (q0.dd) ly.2)/\((decide ((jc d (q0.dd) ly.2) <0))=true->((s_1++([q0])).length*40<=dI))))
@[go_sem] def l8 (d:ah)(l_:List bh)(to:Int)(known:Int)(Q1:Nat)(ly:List Claim×Int):(List Claim)⊕(List Claim×Int):=(bif(decide (ly.2<=to))then(match aj (q_ d l_ known ly) ((gA d l_ ly.2 known).length) 0 ly.1 with| .inl x=>x.elim| .inr s_1=>.inr (s_1,(i64.wrap (ly.2+1))))else .inl ly.1)
def nj (d:ah)(l_:List bh)(to:Int)(known:Int)(Q1:Nat)(ly:List Claim×Int):Prop:=((decide (ly.2<=to))=true->((rY d l_ ly.2 known)/\okI (q_ d l_ known ly) (ud d l_ known ly) ((gA d l_ ly.2 known).length) 0 ly.1))
def nk (d:ah)(l_:List bh)(fr:Int)(to:Int)(known:Int):List Claim×Int:=letI q0:=l7 d l_ fr to known;(bif(q0 !=0)then([],q0)else(match aj (l8 d l_ to known) 4098 0 ([],fr)with| .inl gl=>(bif(decide ((gl.length:Int) > 4096))then([],2)else(gl,0)) | .inr ly=>default))
def vJ (d:ah)(l_:List bh)(fr:Int)(to:Int)(known:Int):Prop:=((qr d l_ fr to known)/\(((l7 d l_ fr to known) !=0)=false->(okI (l8 d l_ to known) (nj d l_ to known) 4098 0 ([],fr)/\(∀ z_,aj (l8 d l_ to known) 4098 0 ([],fr)≠ .inr z_))))
@[go_sem] def PE:List SV->Option Con:=(pD .al λd=>(pR .u0 λl_=>(pI λfr=>(pI λto=>(pI λknown=>(pE (.det (vJ d l_ fr to known) (.tup [.rs .x6 ((nk d l_ fr to known).1),.v (.int .i64 ((nk d l_ fr to known).2))]))))))))
theorem Nq:zs Tryz.prog 27 PE:=by
 have hG:=mG (cn [.st .al,.sl .u0,.o,.o,.o] F8 (cn [.st .al,.sl .u0,.o,.o] H1 (cn [.st .al,.o,.o] zq C1))) C1;refine fN hG Tryz.f27 [.sl .x6,.o] (ax λd=>(bD λO=>(az λfr=>(az λto=>(az λknown=>(am (λhp=>?_)))))));dsimp only[an]at hp;unfold vJ at hp;refine⟨Y2 rfl,(λid st=>bif Nat.beq id 0 then some (LCV (ρ:=(List Claim)) (σ:=(List Claim×Int)) 1 [.slot 13 (.row .x6 ([]))] [0,1] (λX E=>⟨[(1,.rs .u0 O),(3,.v (.int .i64 to)),(4,.v (.int .i64 known)),(5,.ptr 0 0),(13,.os 1),(14,.v (.int .i64 E.2))],[.cells (cellsOf .al d),.row .x6 E.1]⟩) (l8 d O to known) (nj d O to known) 4098 ([],fr) (λ_=>.normal) (λW=>⟨[(13,.os 1)],[.dead,.row .x6 W]⟩) st)else none),?_,?_⟩;unfold ae Tryz.f27;simp only[ak,true_and,and_true];refine eJ mixed aB hG kr (λ_=>rfl) λX E Y=>⟨(λid st=>bif Nat.beq id 2 then some (LCR (ρ:=Empty) (σ:=(List Claim)) 3 [] [0,1,2,1] (λV U=>⟨[(1,.rs .u0 O),(3,.v (.int .i64 to)),(4,.v (.int .i64 known)),(5,.ptr 0 0),(13,.os 3),(14,.v (.int .i64 E.2)),(15,.os 2),(16,.v (.int .i64 (V:Int)))],[.cells (cellsOf .al d),.dead,.row .x6 (gA d O E.2 known),.row .x6 U]⟩) (q_ d O known E) (ud d O known E) ((gA d O E.2 known).length) E.1 (True) ((·.elim)) ((·.elim)) st)else none),?_,?_⟩;simp only[ak,true_and,and_true];refine ez ((gA d O E.2 known).length<=aH) mixed aB hG kr (λ_=>rfl) ((gA d O E.2 known).length:Int) rfl fj (λhb1 V U aqy hq1 hw hc=>⟨L0,ag _,?_⟩) (λhb1 U hc=>?_) λhb1 V U=>?_;unfold ud at hq1;try simp only[hw,alI]at hq1
 exact mX (jl [0,1,2,5]) (jl [0,1,2,3]);exact mY (jl [0,1,2,5]) (jl [0,1,2,3]);exact Pt;unfold nj at Y;exact qX (jl [0,3]) (jl [0,1]);unfold ae Tryz.f27;try unfold nk
 exact zq2
variable {α:Type}
theorem Rg{β:Type}(l:List α)(d:α)(P:α->Bool){step:Nat->Unit->Unit⊕Unit}(h:∀ k,k<l.length->step k ()=bif P (l.getD k d)then .inl ()else .inr ())(a b:β):
  (match aj step l.length 0 ()with| .inl _=>a| .inr _=>b)=bif l.any P then a else b:=by
 cases U:l.any P with
 |false=>
  have:aj step l.length 0 ()=.inr ():=gP.2 λj E=>by
   grind
  grind
 |true=>
  obtain⟨x,O,W⟩:=amx.1 U;obtain⟨j,E,e⟩:=amk.1 O;have X:aj step l.length 0 ()≠ .inr ():=λV=>by
   have:=gP.1 V j E;grind
  grind
theorem S0 (d:ah)(f r h:Int):lZ d f r h=d.ai.any λy=>ca y 3 f r h:=by
 unfold lZ;have:=Rg d.ai default (λy=>ca y 3 f r h) (step:=sW d f r h) (λk E=>rfl) true false;grind
theorem Za (d:ah)(f r h:Int):p_ d f r h=(!(d.ai.any λy=>(y.dd !=f)&&ca y 2 y.dd r h) ||d.ai.any λy=>ca y 3 f r h):=by
 unfold p_;have:=Rg d.ai default (λy=>(y.dd !=f)&&ca y 2 y.dd r h) (step:=vI d f r h) (λk E=>rfl) (lZ d f r h) true;grind [S0]
theorem jX (y:apu)(k f r h:Int):ca y k f r h=true↔y.kind=k/\y.dd=f/\y.reach=r/\y.since<=h/\h<=y.to:=by
 simp_all [ca,and_assoc]
structure Seen (R:List apu)(h:Int)(s:List (X1×Bool)×List (Int×Int)×List (X1×Bool))(own:List X1):Prop where
 ap7:∀ u,aL .G2 .bool s.1 u=R.any λy=>ca y 3 u.dd u.reach h
 owned:∀ u,aL .G2 .bool s.2.2 u=decide (u∈own)
 mem:∀ u,u∈own↔(R.any λy=>ca y 2 u.dd u.reach h)=true
 nodup:own.Nodup
 count:∀ r:Int,aL .int .int s.2.1 r=((own.filter λu=>u.reach==r).length:Int)
 len:own.length<=R.length
theorem ra(l:List α)(x:α)(P:α->Bool):(l++[x]).any P=(l.any P||P x):=by simp
theorem S3 (d:ah)(h:Int)(hl:d.ai.length<=256):∃ s own,aj (kD d h) d.ai.length 0 ([],[],[])=.inr s/\Seen d.ai h s own:=by
 have key:=la (step:=kD d h) (λk s=>∃ own,Seen (d.ai.take k) h s own) d.ai.length 0 ([],[],[]) ⟨[],⟨λu=>rfl,λu=>rfl,λu=>by simp,amV,λr=>rfl,alJ _⟩⟩ (λj s _ hj ⟨own,E⟩ =>by
  have hj:j<d.ai.length:=by omega
  have U:=b9 d.ai (default:apu) hj;obtain⟨s1,s2,W⟩:=s;generalize ey:d.ai.getD j (default:apu)=y at U;simp only[kD,ey];have hlen:=E.len;rw[amT]at hlen;by_cases V:y.since<=h/\h<=y.to
  ·have e1:((decide (h<y.since)) ||(decide (h > y.to)))=false:=by
    grind
   rw[e1,cond_false];by_cases hk:y.kind=3
   ·have e2:(y.kind==3)=true:=by grind
    rw[e2,cond_true];refine⟨_,rfl,own,⟨λu=>?_,E.owned,λu=>?_,E.nodup,E.count,by grind⟩⟩;rw[og,U,ra,<-E.ap7 u];by_cases hu:u= { dd:=y.dd,reach:=y.reach}
    simp_all [jX];have:ca y 3 u.dd u.reach h=false:=by
     cases hq:ca y 3 u.dd u.reach h with
     |false=>rfl
     |true=>
      obtain⟨_,q1,q2,_⟩:=(jX _ _ _ _ _).1 hq;simp_all
    grind
    ·rw[E.mem u,U,ra];have:ca y 2 u.dd u.reach h=false:=by
      cases hq:ca y 2 u.dd u.reach h with
      |false=>rfl|true=>have:=((jX _ _ _ _ _).1 hq).1;omega
     grind
   ·have e2:(y.kind==3)=false:=by grind
    rw[e2,cond_false];have hea:∀ u:X1,ca y 3 u.dd u.reach h=false:=λu=>by
     cases hq:ca y 3 u.dd u.reach h with
     |false=>rfl|true=>exact absurd ((jX _ _ _ _ _).1 hq).1 hk
    have O:∀ u,aL .G2 .bool s1 u=(d.ai.take (j+1)).any λy=>ca y 3 u.dd u.reach h:=λu=>by
     rw[U,ra,hea,am1];exact E.ap7 u
    by_cases h2:y.kind=2
    by_cases hm:({ dd:=y.dd,reach:=y.reach}:X1)∈own
    have Y:((y.kind==2)&&(!(aL .G2 .bool W ({ dd:=y.dd,reach:=y.reach}:X1))))=false:=by
     rw[show aL .G2 .bool W ({ dd:=y.dd,reach:=y.reach}:X1)=true from(E.owned _).trans (decide_eq_true hm)];simp
    rw[Y,cond_false];refine⟨_,rfl,own,⟨O,E.owned,λu=>?_,E.nodup,E.count,by grind⟩⟩;rw[U,ra,ama,<-E.mem u];refine⟨.inl,λhq=>hq.elim id λhq=>?_⟩;obtain⟨_,q1,q2,_⟩:=(jX _ _ _ _ _).1 hq;simp_all;have Y:((y.kind==2)&&(!(aL .G2 .bool W ({ dd:=y.dd,reach:=y.reach}:X1))))=true:=by
     rw[show aL .G2 .bool W ({ dd:=y.dd,reach:=y.reach}:X1)=false from(E.owned _).trans (decide_eq_false hm),h2];rfl
    rw[Y,cond_true];refine⟨_,rfl,{ dd:=y.dd,reach:=y.reach}::own,⟨O,λu=>?_,λu=>?_,ami.2 ⟨hm,E.nodup⟩,λr=>?_,by grind⟩⟩;rw[og];by_cases hu:u= { dd:=y.dd,reach:=y.reach}
    grind
    rw[if_neg hu,show aL .G2 .bool W u=_ from E.owned u];grind
    rw[U,ra,ama,<-E.mem u,alV];constructor
    rintro (hu|hu);exact .inr ((jX _ _ _ _ _).2 ⟨h2,by rw[hu],by rw[hu],V.1,V.2⟩);grind
    rintro (hu|hq);exact .inr hu;obtain⟨_,q1,q2,_⟩:=(jX _ _ _ _ _).1 hq;simp_all;rw[og,List.filter_cons];have hc:=E.count;by_cases hr:r=y.reach
    have e4:(({ dd:=y.dd,reach:=y.reach}:X1).reach==r)=true:=by simp[hr]
    have hb:(own.filter λu=>u.reach==r).length<=own.length:=amv _ _;rw[if_pos hr,e4,if_pos rfl,<-hr,show aL .int .int s2 r=_ from hc r,aA (by omega) (by omega)];simp;grind
    ·have Y:((y.kind==2)&&(!(aL .G2 .bool W ({ dd:=y.dd,reach:=y.reach}:X1))))=false:=by
      grind
     rw[Y,cond_false];refine⟨_,rfl,own,⟨O,E.owned,λu=>?_,E.nodup,E.count,by grind⟩⟩;have:ca y 2 u.dd u.reach h=false:=by
      cases hq:ca y 2 u.dd u.reach h with
      |false=>rfl|true=>exact absurd ((jX _ _ _ _ _).1 hq).1 h2
     rw[U,ra,this,am1];exact E.mem u
  ·have e1:((decide (h<y.since)) ||(decide (h > y.to)))=true:=by
    grind
   rw[e1,cond_true];have X:∀ k f r,ca y k f r h=false:=λk f r=>by
    cases hq:ca y k f r h with
    |false=>rfl|true=>exact absurd ((jX _ _ _ _ _).1 hq).2.2.2 V
   refine⟨_,rfl,own,⟨λu=>?_,E.owned,λu=>?_,E.nodup,E.count,by grind⟩⟩;rw[U,ra,X,am1];exact E.ap7 u;rw[U,ra,X,am1];exact E.mem u)
 grind
theorem Zb {F:List X1}(O:F.Nodup){u:X1}(E:u∈F):F.length=1↔∀ v∈F,v=u:=by
 match F,O,E with
 | [a],_,E=>
  grind
 |a::b::t,O,E=>
  refine⟨λh=>by simp at h,λh=>?_⟩;simp_all
theorem adb (d:ah)(h f r:Int)(hl:d.ai.length<=256):lU (cC d h) { dd:=f,reach:=r} =p_ d f r h:=by
 obtain⟨s,own,e,E⟩:=S3 d h hl;have O:cC d h=({ ap_:=s.2.1,owned:=s.2.2,ap7:=s.1}:apE):=by grind [cC]
 rw[O,Za];unfold lU;simp only;rw[show aL .G2 .bool s.1 ({ dd:=f,reach:=r}:X1)=_ from E.ap7 _,show aL .G2 .bool s.2.2 ({ dd:=f,reach:=r}:X1)=_ from E.owned _,show aL .int .int s.2.1 r=_ from E.count r];have hlen:=E.len;have hb:(own.filter λu=>u.reach==r).length<=own.length:=amv _ _;have hn:(own.filter λu=>u.reach==r).Nodup:=E.nodup.filter _;have X:∀ v,v∈(own.filter λu=>u.reach==r)↔v∈own/\v.reach=r:=λv=>by grind
 have hA:(d.ai.any λy=>(y.dd !=f)&&ca y 2 y.dd r h)=true↔∃ v,v∈(own.filter λu=>u.reach==r)/\v≠{ dd:=f,reach:=r}:=by
  rw[amx];constructor
  rintro⟨y,hy,V⟩;rw[alG,bne_iff_ne]at V;refine⟨{ dd:=y.dd,reach:=r},(X _).2 ⟨(E.mem _).2 (amx.2 ⟨y,hy,V.2⟩),rfl⟩,λe=>V.1 ?_⟩;injection e;rintro⟨v,O,Y⟩;obtain⟨h1,h2⟩:=(X v).1 O;obtain⟨y,hy,V⟩:=amx.1 ((E.mem v).1 h1);obtain⟨q0,q1,q2,q3⟩:=(jX _ _ _ _ _).1 V;refine⟨y,hy,?_⟩;rw[alG,bne_iff_ne];exact⟨λe=>Y (by cases v;grind),(jX _ _ _ _ _).2 ⟨q0,rfl,by rw[q2,h2],q3⟩⟩
 by_cases W:({ dd:=f,reach:=r}:X1)∈own
 have U:({ dd:=f,reach:=r}:X1)∈(own.filter λu=>u.reach==r):=(X _).2 ⟨W,rfl⟩;rw[decide_eq_true W,cond_true];congr 1
 have h1:=Zb hn U;have hpos:0< (own.filter λu=>u.reach==r).length:=List.length_pos_of_mem U;rw[aA (by omega) (by omega),amo,beq_iff_eq,al0,<-anp,hA];grind
 rw[decide_eq_false W,cond_false];congr 1
 rw[amo,beq_iff_eq,al0,<-anp,hA];constructor
 grind
 intro h0;have:(own.filter λu=>u.reach==r)=[]:=an0.2 λv O=>h0 ⟨v,O,λe=>W (by grind)⟩;grind
@[go_sem] def cg (l_:List Int)(Q1:Nat)(ly:List Int×Int×Int):(List Int)⊕(List Int×Int×Int):=letI q0:=Int.toNat ly.2.1;letI q1:=Int.toNat ly.2.2;(bif(decide (ly.2.1<ly.2.2))then .inr (((ly.1.set q0 (ly.1.getD q1 0)).set q1 (ly.1.getD q0 0)),(i64.wrap (ly.2.1+1)),(i64.wrap (ly.2.2 - 1)))else .inl ly.1)
def c5 (l_:List Int)(Q1:Nat)(ly:List Int×Int×Int):Prop:=letI q1:=(ly.1.length:Int);letI q0:=0<=ly.2.1/\ly.2.1<q1;((decide (ly.2.1<ly.2.2))=true->((0<=ly.2.2/\ly.2.2<q1)/\(q0/\(q0/\(0<=ly.2.2/\ly.2.2< ((ly.1.set (Int.toNat ly.2.1) (ly.1.getD (Int.toNat ly.2.2) 0)).length:Int))))))
def fX (l_:List Int):List Int:=(match aj (cg l_) (l_.length+1) 0 (l_,0,(i64.wrap ((l_.length:Int) - 1)))with| .inl gl=>gl| .inr ly=>default)
def gG (l_:List Int):Prop:=letI q0:=(l_,0,(i64.wrap ((l_.length:Int) - 1)));letI q1:=cg l_;(l_.length<=aH->(okI q1 (c5 l_) (l_.length+1) 0 q0/\(∀ z_,aj q1 (l_.length+1) 0 q0≠ .inr z_)))
@[go_sem] noncomputable def nq:List SV->List Ob->Option apd:=λl h=>ML .int (λl_=>(pQ (.os 0) (pE (ft (gG l_) (.tup []) [.row .int (fX l_)]))) l) h
theorem tD:ape Tryz.prog 161 nq:=by
 have hG:=mG C1 C1;refine fR hG Tryz.f161 (λl o Y h=>?_);unfold nq at h;obtain⟨U,rfl,h⟩:=MM h;obtain⟨r0,rfl,X⟩:=E9 h;obtain⟨rfl,rfl⟩:=wW X;clear h X;refine⟨_,_,_,rfl,λhp=>?_⟩;unfold gG at hp;refine⟨Y2 rfl,(λid st=>bif Nat.beq id 0 then some (LCV (ρ:=(List Int)) (σ:=(List Int×Int×Int)) 1 [] [0] (λW E=>⟨[(0,.os 0),(2,.v (.int .i64 E.2.1)),(3,.v (.int .i64 E.2.2))],[.row .int E.1]⟩) (cg U) (c5 U) (U.length+1) (U,0,(i64.wrap ((U.length:Int) - 1))) (λ_=>.normal) (λO=>⟨[],[.row .int O]⟩) st)else none),?_,?_⟩;unfold ae Tryz.f161;simp only[ak,true_and,and_true];refine eJ mixed aB hG kr (λ_=>rfl) λW E V=>⟨L0,ag _,?_⟩;unfold c5 at V;exact cU (jl [0]);unfold ae Tryz.f161;try unfold fX
 exact cU (jl [0])
@[go_sem] def rB (d:ah)(l_:List Int)(Q1:Nat)(ly:Unit):Unit⊕Unit:=(bif((decide ((l_.getD Q1 0) <0)) ||(decide ((l_.getD Q1 0)>=(d.reaches.length:Int))))then .inl ()else .inr ())
def ju (d:ah)(l_:List Int):Int:=(bif((aw d) !=0)then(aw d)else(match aj (rB d l_) l_.length 0 ()with| .inl gl=>1| .inr ly=>0))
@[go_sem] def F9:List SV->Option Con:=(pD .al λd=>(pR .int λl_=>(pE (.det True (.v (.int .i64 (ju d l_)))))))
theorem Dx:zs Tryz.prog 158 F9:=by
 have hG:=mG (cn [.st .al] nF C1) C1;refine fN hG Tryz.f158 [.o] (ax λd=>(bD λE=>(am (λX=>?_))));dsimp only[an]at X;refine⟨Y2 rfl,(λid st=>bif Nat.beq id 0 then some (LCR (ρ:=Unit) (σ:=Unit) 1 [] [0] (λO U=>⟨[(2,.ptr 0 0),(13,.rs .int E),(14,.v (.int .i64 (E.length:Int))),(15,.v (.int .i64 (O:Int)))],[.cells (cellsOf .al d)]⟩) (rB d E) pT E.length () (E.length<=aH) (λ_=>.ret) (λV=>⟨[(4,.v (.int .i64 1))],[.dead]⟩) st)else none),?_,?_⟩;unfold ae Tryz.f158;simp only[ak,true_and,and_true];refine bL mixed aB hG kr (λ_=>rfl) (E.length:Int) rfl fj (λhb0 O U W _ hw hc=>⟨L0,ag _,?_⟩) (λhb0 U hc=>?_);exact bB (jl [0]);exact bC (jl [0]);unfold ae Tryz.f158;try unfold ju
 exact zq2
def l9 (d:ah)(reach:Int):List Int×Int:=(bif((ju d ([reach])) !=0)then([],(ju d ([reach])))else((fX (eb d reach)),0))
def qs (d:ah)(reach:Int):Prop:=(((ju d ([reach])) !=0)=false->((0<=reach/\n_ d reach/\(eb d reach).length*8<=dI)/\(gG (eb d reach))))
@[go_sem] def H3:List SV->Option Con:=(pD .al λd=>(pI λreach=>(pE (.det (qs d reach) (.tup [.nw .int ((l9 d reach).1),.v (.int .i64 ((l9 d reach).2))])))))
theorem F_:zs Tryz.prog 101 H3:=by
 have hG:=mG (cn [.st .al,.sl .int] Dx C1) (co Am (co Km (co tD C1)));refine fW hG Tryz.f101 [(.tmp 4,.int)] (ax λd=>(az λreach=>(am (λE=>?_))));dsimp only[an]at E;unfold qs at E;refine⟨Y2 rfl,L0,ag _,?_⟩;unfold ae Tryz.f101;try unfold l9
 exact zq2
theorem yO {ρ τ:Type}{step:τ->Unit->ρ⊕Unit}:∀ {L:List τ},di step L ()=.inr ()↔∀ x∈L,step x ()=.inr ()
 | [] =>by simp[di]
 |x::r=>by
  simp only[di,alV,forall_eq_or_imp];cases h:step x ()with
  |inl y=>simp|inr y=>simp only[true_and];exact yO
theorem Nr(l:List α)(d r:α)(i k:Nat)(hi:i<l.length):(l.set i r).getD k d=if k=i then r else l.getD k d:=by
 grind
theorem KW (l:List Int)(hl:l.length<=aH):okI (cg l) (c5 l) (l.length+1) 0 (l,0,(i64.wrap ((l.length:Int) - 1)))/\aj (cg l) (l.length+1) 0 (l,0,(i64.wrap ((l.length:Int) - 1)))=.inl l.reverse:=by
 unfold aH at hl;rw[aA (by omega) (by omega)];have key:∀ (n k:Nat) (s:List Int),n+k=l.length+1->s.length=l.length->2*k<=l.length+1->(∀ p,p<l.length->s.getD p 0=if p<k\/l.length<=p+k then l.getD (l.length - 1 - p) 0 else l.getD p 0)->
   okI (cg l) (c5 l) n k (s,(k:Int),(l.length:Int) - 1 - k)/\(1<=n->aj (cg l) n k (s,(k:Int),(l.length:Int) - 1 - k)=.inl l.reverse):=by
  intro n;induction n with
  |zero=>omega
  |succ n Y=>
   intro k s hn hs hk O;have hstep:cg l k (s,(k:Int),(l.length:Int) - 1 - k)=if(k:Int) < (l.length:Int) - 1 - k then .inr ((s.set k (s.getD (l.length - 1 - k) 0)).set (l.length - 1 - k) (s.getD k 0),((k+1:Nat):Int),(l.length:Int) - 1 - ((k+1:Nat):Int))else .inl s:=by
    unfold cg;simp only;by_cases hlt:(k:Int) < (l.length:Int) - 1 - k
    rw[decide_eq_true hlt,if_pos hlt,aA (by omega) (by omega),aA (by omega) (by omega)];simp only[cond_true,alI];have e:((l.length:Int) - 1 - k).toNat=l.length - 1 - k:=by omega
    grind
    grind
   by_cases hlt:(k:Int) < (l.length:Int) - 1 - k
   have E:∀ p,p<l.length->((s.set k (s.getD (l.length - 1 - k) 0)).set (l.length - 1 - k) (s.getD k 0)).getD p 0=if p<k+1\/l.length<=p+(k+1)then l.getD (l.length - 1 - p) 0 else l.getD p 0:=λp U=>by
    rw[Nr _ _ _ _ _ (by grind),Nr _ _ _ _ _ (by omega)];have h1:=O k (by omega);have h2:=O (l.length - 1 - k) (by omega);rw[if_neg (by omega)]at h1 h2;by_cases W:p=l.length - 1 - k
    rw[if_pos W,if_pos (by omega),h1];congr 1;omega
    rw[if_neg W];by_cases X:p=k
    grind
    rw[if_neg X,O p U];omega
   have:=Y (k+1) _ (by omega) (by grind) (by omega) E;refine⟨⟨?_,λs' V=>?_⟩,λ_=>?_⟩;unfold c5;simp only;intro _;have e1:(s.set (Int.toNat (k:Int)) (s.getD (Int.toNat ((l.length:Int) - 1 - k)) 0)).length=l.length:=by grind
   omega;grind
   simp only[aj,hstep,if_pos hlt];grind
   refine⟨⟨?_,λs' V=>?_⟩,λ_=>?_⟩;grind [c5]
   grind
   simp only[aj,hstep,if_neg hlt];congr 1
   apply aor;grind
   intro p h1 h2;rw[List.getElem_reverse];have:=O p (by omega);rw[my s 0 h1,my l 0 (by omega)]at this;rw[this];by_cases q:p<k\/l.length<=p+k
   rw[if_pos q];rw[if_neg q,my l 0 (by omega)];congr 1;omega
 have h0:=key (l.length+1) 0 l (by omega) rfl (by omega) (λp O=>by omega);grind
theorem adc (l:List Int)(E:l.length<=aH):fX l=l.reverse:=by
 grind [fX,KW]
theorem ahX (l:List Int):gG l:=λE=>⟨(KW l E).1,λz O=>by grind [KW]⟩
variable {d:ah}
theorem aaB(E:aps d){n:Int}(O:0<=n)(h1:n< (d.reaches.length:Int)):(0<n/\0<=(d.reaches.getD n.toNat (et .reach)).up/\(d.reaches.getD n.toNat (et .reach)).up<n)\/(n=0/\(d.reaches.getD n.toNat (et .reach)).up= -1):=by
 have:=((FM _ _).1 (E.reach n.toNat (by omega))).1;grind
theorem Ns {d:ah}(U:aps d):∀ (f:Nat) (n:Int),n< (d.reaches.length:Int)->n<f->MN d f n/\(upL d f n).length<=f/\∀ x∈upL d f n,0<=x/\x< (d.reaches.length:Int)
 |0,n,h1,h2=>⟨by unfold MN;omega,alJ _,λx O=>by cases O⟩
 |f+1,n,h1,h2=>by
  by_cases E:0<=n
  have V:(d.reaches.getD n.toNat (et .reach)).up<n:=by rcases aaB U E h1 with⟨_,_,h⟩ | ⟨h,h'⟩ <;>omega
  obtain⟨i1,W,X⟩:=Ns U f (d.reaches.getD n.toNat (et .reach)).up (by omega) (by omega);refine⟨λ_=>⟨h1,i1⟩,?_,λx O=>?_⟩;rw[upL,if_pos E,alL];omega;rw[upL,if_pos E]at O;grind
  refine⟨λh=>absurd h E,by rw[DS E];simp,λx O=>by grind [DS]⟩
theorem BT (d:ah)(l:List Int):ju d l=0↔aw d=0/\∀ x∈l,0<=x/\x< (d.reaches.length:Int):=by
 unfold ju;cases h1:(aw d !=0)with
 |true=>grind
 |false=>
  simp at h1;simp only[cond_false,h1,true_and];let f:Int->Unit->Unit⊕Unit:=λx _=>(bif((decide (x<0)) ||(decide (x>=(d.reaches.length:Int))))then .inl ()else .inr ())
  have e:aj (rB d l) l.length 0 ()=di f l ():=rP f 0 l ();grind [yO]
structure aqf (d:ah)(reach:Int):Prop where
 chk:aw d=0
 r0:0<=reach
 r1:reach< (d.reaches.length:Int)
theorem aqf.right{reach:Int}(h:aqf d reach):aps d:=jt (by rw[h.chk];rfl)
theorem Nt (d:ah)(reach:Int):ju d [reach]=0↔aqf d reach:=by
 rw[BT];exact⟨λ⟨h1,h2⟩ =>⟨h1,(h2 reach (by simp)).1,(h2 reach (by simp)).2⟩,λh=>⟨h.chk,λx E=>by rw[aml]at E;subst E;exact⟨h.r0,h.r1⟩⟩⟩
theorem aqf.up{reach:Int}(h:aqf d reach):n_ d reach/\(eb d reach).length<=64/\∀ x∈eb d reach,0<=x/\x< (d.reaches.length:Int):=by
 have:=Ns h.right (reach.toNat+1) reach h.r1 (by omega);have h1:=h.right.reaches;have h2:=h.r1;exact⟨this.1,by grind [eb],this.2.2⟩
theorem yP (d:ah)(reach:Int):qs d reach:=λh=>by
 have E:=(Nt d reach).1 (by simpa using h);have O:=E.up;exact⟨⟨E.r0,O.1,by unfold dI;omega⟩,ahX _⟩
theorem Ga{reach:Int}(h:aqf d reach):l9 d reach=((eb d reach).reverse,0):=by
 unfold l9;rw[(Nt d reach).2 h,adc _ (by have:=h.up.2.1;unfold aH;omega)];rfl
theorem Gb {d:ah}(U:aps d):∀ (f m i:Nat) (n:Int) (E:List Int),0<=n->n< (d.reaches.length:Int)->n<f->n<m->E.length+n<=64->
  okI (gF d) (i_ d) m i (n::E)/\aj (gF d) m i (n::E)=.inl ((upL d f n).reverse++E)
 |0,_,_,n,_,h0,_,h2,_,_=>by omega
 |f+1,0,_,n,_,h0,_,_,h3,_=>by omega
 |f+1,m+1,i,n,E,h0,h1,h2,h3,h4=>by
  have Y:(n::E).getD 0 (0:Int)=n:=rfl;rcases aaB U h0 h1 with⟨hp,O,X⟩ | ⟨V,X⟩;have hstep:gF d i (n::E)=.inr ((d.reaches.getD n.toNat (et .reach)).up::n::E):=by
   grind [gF]
  obtain⟨i1,i2⟩:=Gb U f m (i+1) (d.reaches.getD n.toNat (et .reach)).up (n::E) O (by omega) (by omega) (by omega) (by grind);refine⟨⟨?_,λs W=>?_⟩,?_⟩;grind [i_,dI]
  grind
  simp_all [aj,upL];subst V;have hstep:gF d i ((0:Int)::E)=.inl (0::E):=rfl;refine⟨⟨?_,λs W=>?_⟩,?_⟩;grind [i_]
  grind
  simp_all [aj,upL,DS]
theorem ade{reach:Int}(h:aqf d reach):rX d reach/\iR d reach=(eb d reach).reverse:=by
 have h1:=h.right.reaches;have h2:=h.r1;have O:=h.r0;obtain⟨a,b⟩:=Gb h.right (reach.toNat+1) 66 0 reach [] h.r0 h.r1 (by omega) (by omega) (by grind);rw[al3]at b;exact⟨⟨a,λz E=>by grind⟩,by unfold iR;rw[b];rfl⟩
theorem Nu (x:Int)(l:List Int):fU (x::l)=if x=0 then fU l else x:=by
 have key:∀ l:List Int,fU l=match di (ρ:=Int) (λ(x:Int) (_:Unit) =>bif(x !=0)then .inl x else .inr ()) l ()with| .inl y=>y| .inr _=>0:=λl=>by
  unfold fU;have:=rP (ρ:=Int) (λ(x:Int) (_:Unit) =>bif(x !=0)then .inl x else .inr ()) 0 l ();rw[<-this];rfl
 rw[key,key];simp only[di];by_cases h:x=0
 subst h;rfl;have:(x !=0)=true:=by simpa using h
 rw[if_neg h,this];rfl
def PH:fU []=0:=rfl
theorem Gc:∀ l:List (Int×Int),(fU (l.map λp=>be p.1 p.2) <0↔oq l)
 | [] =>by simp[PH,oq]
 |(a,b)::r=>by
  have hc:=jr a b;simp only[amu,Nu,hc,oq];rcases aog a b with h|h|h;simp[h];subst h;simp only[aoQ,if_false,if_true,true_and,false_or,gt_iff_lt];exact Gc r;have h1:¬a<b:=by omega
  have h2:a≠b:=by omega
  simp[h1,h2,h]
def rZ (a b:Claim):Prop:=oq [(a.hour,b.hour),(a.ao8,b.ao8),(a.right,b.right),(a.dd,b.dd)]
def AD (a b:Claim):cN a b<0↔rZ a b:=Gc [(a.hour,b.hour),(a.ao8,b.ao8),(a.right,b.right),(a.dd,b.dd)]
def Gd (a b:M1):fB a b<0↔rZ a.x6 b.x6:=AD a.x6 b.x6
open Go.Shelf Go.Sort in
theorem I3:SWO (ltOf fB):=KH Gd (λx=>by simp only[rZ,oq,and_false,or_false];omega) (λx y z h1 h2=>by simp only[rZ,oq,and_false,or_false]at *;omega) (λx y z h1 h2=>by simp only[rZ,oq,and_false,or_false]at *;omega)
def hrs (a b:Int):List Int:=(List.range (b+1 - a).toNat).map λk:Nat=>a+(k:Int)
variable {a:Int}
theorem Zc{b:Int}(h:b<a):hrs a b=[]:=by unfold hrs;grind
theorem Nv{b:Int}(h:a<=b+1):hrs a (b+1)=hrs a b++[b+1]:=by
 unfold hrs;rw[show(b+1+1 - a).toNat=(b+1 - a).toNat+1 by omega,aoD,an4,List.map_singleton,show a+(((b+1 - a).toNat:Nat):Int)=b+1 by omega]
theorem Zd{b x:Int}:x∈hrs a b↔a<=x/\x<=b:=by
 unfold hrs;rw[anh];constructor
 grind
 rintro⟨h1,h2⟩;exact⟨(x - a).toNat,by grind,by omega⟩
theorem adf (a b:Int):(hrs a b).Pairwise (· < ·):=by
 unfold hrs;rw[anC];exact List.pairwise_lt_range.imp λh=>by omega
theorem Rh (a b:Int):(hrs a b).length=(b+1 - a).toNat:=by unfold hrs;simp
theorem Ze {α β:Type}{R:β->β->Prop}{S:α->α->Prop}{f:α->List β}{l:List α}(V:l.Pairwise S)(h1:∀ a∈l,(f a).Pairwise R)(h2:∀ a∈l,∀ b∈l,S a b->∀ x∈f a,∀ y∈f b,R x y):(l.flatMap f).Pairwise R:=by
 rw[aoH];refine⟨h1,?_⟩;exact V.imp_of_mem λ{a b} U O E=>h2 a U b O E
theorem S4 {α β:Type}{f g:α->List β}{l:List α}(h:∀ a∈l,(f a).Perm (g a)):(l.flatMap f).Perm (l.flatMap g):=by
 induction l with
 |nil=>rfl
 |cons a l E=>
  grind
open Go.Shelf Go.Sort in
theorem Ge {α:Type}{cf:α->α->Int}(E:SWO (ltOf cf)){s m:List α}(W:s.Perm m)(Y:m.Pairwise λx y=>cf x y<0):apart cf s/\srt cf s=m:=by
 have e1:∀ x y,ltOf cf x y=true↔cf x y<0:=λx y=>by unfold ltOf;grind
 have O:∀ x∈m,∀ y∈m,ltOf cf x y=false->ltOf cf y x=false->x=y:=λx U y hy h1 h2=>by
  obtain⟨i,hi,rfl⟩:=amk.1 U;obtain⟨j,hj,rfl⟩:=amk.1 hy;grind [List.pairwise_iff_getElem]
 refine⟨λx U y hy h1 h2=>O x (W.subset U) y (W.subset hy) h1 h2,?_⟩;unfold srt;have X:(s.mergeSort λx y=>!(ltOf cf y x)).Perm m:=(amE _ _).trans W;refine amJ (le:=λx y=>(!ltOf cf y x)=true) ?_ ?_ ?_ X;grind
 refine amz ?_ ?_ s;intro a b c h1 h2;simp only[al0]at h1 h2 |-;exact E.3 c b a h2 h1;intro a b;simp only[ama,al0];cases h1:ltOf cf b a with
 |false=>grind
 |true=>
  right;cases h2:ltOf cf a b with
  |false=>rfl|true=>have:=E.2 _ _ _ h1 h2;rw[E.1]at this;cases this
 refine Y.imp λ{a b} V=>?_;simp only[al0];cases h2:ltOf cf b a with
 |false=>rfl|true=>have:=E.2 _ _ _ ((e1 _ _).2 V) h2;rw[E.1]at this;cases this
end Go.Sx
end
section
namespace Go.Proofs
open Go.Shelf Go.Sx
def Tryz.aqR:Go.Shelf.Ren:=⟨λ|6=>231|15=>133|14=>286|28=>199|29=>200|20=>319|21=>320|22=>321|23=>322|24=>323|25=>324|26=>325|27=>326|46=>340|47=>260|48=>261|49=>341|50=>342|57=>346|n=>n,λ|22=>218|24=>222|25=>325|3=>3|39=>229|0=>0|53=>294|55=>296|4=>4|46=>288|45=>287|50=>267|5=>5|9=>9|66=>342|70=>60|76=>375|77=>376|n=>n,λ|n=>n⟩
theorem Tryz.ark:Go.Proofs.SlLaysF0.n6 Tryz.prog Tryz.aqR:=⟨kr,⟨Tryz.f231.name,by decide,kr⟩,⟨Tryz.f286.name,by decide,kr⟩,kr,⟨Tryz.f319.name,by decide,kr⟩,⟨Tryz.f320.name,by decide,kr⟩,⟨Tryz.f321.name,by decide,kr⟩,⟨Tryz.f322.name,by decide,kr⟩,⟨Tryz.f323.name,by decide,kr⟩,⟨Tryz.f324.name,by decide,kr⟩,⟨Tryz.f325.name,by decide,kr⟩,⟨Tryz.f326.name,by decide,kr⟩,kr,kr,⟨Tryz.f340.name,by decide,kr⟩,kr,kr,⟨Tryz.f341.name,by decide,kr⟩,⟨Tryz.f342.name,by decide,kr⟩,⟨Tryz.f346.name,by decide,kr⟩,kr,λ_=>kr,λ_=>kr,λ_=>kr,kr,λ_=>kr,λ_=>kr,λ_=>kr,kr,λ_=>kr,λ_=>kr,λ_=>kr,kr,λ_=>kr,λ_=>kr,λ_=>kr,kr,λ_=>kr,λ_=>kr,λ_=>kr,kr,λ_=>kr,λ_=>kr,λ_=>kr,kr,λ_=>kr,λ_=>kr,λ_=>kr,kr,λ_=>kr,λ_=>kr,λ_=>kr,kr,λ_=>kr,λ_=>kr,λ_=>kr,kr,λ_=>kr,λ_=>kr,λ_=>kr,kr,λ_=>kr,λ_=>kr,λ_=>kr,kr,λ_=>kr,λ_=>kr,λ_=>kr,kr,λ_=>kr,λ_=>kr,λ_=>kr,kr,λ_=>kr,λ_=>kr,λ_=>kr,kr,λ_=>kr,λ_=>kr,λ_=>kr,kr,λ_=>kr,λ_=>kr,λ_=>kr,kr,λ_=>kr,λ_=>kr,λ_=>kr⟩
end Go.Proofs
end
section
namespace Go.Sx
open Go.Lib Go.Proofs Go.RowKit Go.Shelf Go.Sort
noncomputable def CP:List SV->List Ob->Option apd:=iN .holding 232 [] cO
@[go_sem]def Wg {l0:List ao0}:CP [.os 0,.fn 232 [] []] [.row .holding l0]=some (ft (apart cO l0) (.tup []) [.row .holding (srt cO l0)]):=mV
theorem H4:xa .holding:=λx s E=>by
 simp only[cellsOf,alV,amw,or_false]at E;rcases E with rfl|rfl|rfl|rfl;all_goals exact⟨_,rfl,rfl⟩
theorem CQ (x y:ao0):v_ (.agg (cellsOf .holding x):: .agg (cellsOf .holding y)::[])=some (.det True (.v (.int .i64 (cO x y)))):=by
 simp only[go_sem,Nat.reduceBEq]
theorem KX:ape Tryz.prog 231 CP:=
 qN (k:=.holding) Tryz.ark (λw=>by kernel_rfl) (λw=>by kernel_rfl) H4 (by decide) (g:=232) (caps:=[]) BL (cf:=cO) CQ CK (λs E=>by cases E) ⟨default,default,CQ _ _⟩
end Go.Sx
end
section
namespace Go.Sx
open Go.Proofs
open IntKind (i64)
variable {p:Prop}
theorem clQ(h:p:=by((repeat' (first|with_reducible refine And.intro ?_ ?_|with_reducible intro _)) <;>(first|done|with_reducible exact Empty.elim ‹Empty› |with_reducible assumption|rfl|((try simp only[Ko,VM]at *);first|with_reducible assumption|(simp_all only[ci,d8];done) |grind|(simp_all only[ci,d8];grind))))):p:=h
@[go_sem] def eQ (a0:ah)(a1:List bh)(a2:Int)(a3:Int)(Q1:pq×Int)(ly:List ao0):Empty⊕(List ao0):=(bif(decide (Q1.2 > 0))then .inr (ly++([({ right:=Q1.1.right,dd:=Q1.1.dd,bo:=Q1.2,ao8:=(a0.ai.getD (Int.toNat Q1.1.right) default).ao8}:ao0)]))else .inr ly)
def mA (a0:ah)(a1:List bh)(a2:Int)(a3:Int)(Q1:pq×Int)(ly:List ao0):Prop:=((decide (Q1.2 > 0))=true->((0<=Q1.1.right/\Q1.1.right< (a0.ai.length:Int))/\((ly++([({ right:=Q1.1.right,dd:=Q1.1.dd,bo:=Q1.2,ao8:=(a0.ai.getD (Int.toNat Q1.1.right) default).ao8}:ao0)])).length*32<=dI)))
def ay (a0:ah)(a1:List bh)(a2:Int)(a3:Int):List ao0×Int:=letI q0:=a8 a0 a1;(bif(q0 !=0)then([],q0)else(bif((!(aP a2 0 (i64.wrap (a0.hours - 1)))) ||(!(aP a3 0 1048576)))then([],1)else(match di (eQ a0 a1 a2 a3) ((eV a0 (eC a1 a2 a3)).1) ([])with| .inl x=>x.elim| .inr ly=>((srt cO ly),0))))
def qt (a0:ah)(a1:List bh)(a2:Int)(a3:Int):Prop:=letI q0:= !(aP a2 0 (i64.wrap (a0.hours - 1)));letI q1:=ay a0 a1 a2 a3;letI q2:=a8 a0 a1;letI q3:= !(aP a3 0 1048576);letI q4:=eC a1 a2 a3;letI q5:=eQ a0 a1 a2 a3;((jS a0 a1)/\(((q2 !=0)=true->(([],q2)=q1))/\((q2 !=0)=false->(((q0||q3)=true->(([],1)=q1))/\((q0||q3)=false->((io a1 a2 a3)/\((k_ a0 q4)/\(∀ L_0,L_0.Perm ((eV a0 q4).1)->(okL q5 (mA a0 a1 a2 a3) L_0 ([])/\(∀ ly,di q5 L_0 ([])=.inr ly->((apart cO ly)/\(((srt cO ly),0)=q1))))))))))))
@[go_sem] def yQ:List SV->Option Con:=(pD .al λa0=>(pR .u0 λa1=>(pI λa2=>(pI λa3=>(pE (.det (qt a0 a1 a2 a3) (.tup [.nw .holding ((ay a0 a1 a2 a3).1),.v (.int .i64 ((ay a0 a1 a2 a3).2))])))))))
theorem aaC{l0 l1:List Nat}(a0:JL l0)(a1:JL l1)(h:JL l0->JL l1->p:=by intro ja jb;simp only[go_sem,amw];all_goals exact gj ja jb):p:=h a0 a1
theorem ahY(h:p:=by simp only[go_sem];all_goals exact clQ):p:=h
theorem Gf:zs Tryz.prog 157 yQ:=by
 have hG:=mG (cn [.st .al,.sl .u0] tY (cp sO (cn [.st .al,.o] zm (cn [.sl .u0,.o,.o] xg C1)))) (co KX C1);refine fW hG Tryz.f157 [(.tmp 8,.holding)] (ax λa0=>(bD λa1=>(az λX=>(az λW=>(am (λhp=>?_))))));dsimp only[an]at hp;unfold qt at hp;refine⟨Y2 rfl,(λid st=>bif Nat.beq id 0 then some (LCP (τ:=pq×Int) (ρ:=Empty) (σ:=(List ao0)) 4 [.slot 8 (.row .holding ([]))] [0,1,2,3,4] (λE O U=>⟨[(4,.ptr 0 0),(8,.os 4),(41,.ptr 3 0)],[.cells (cellsOf .al a0),.mp .dn .int ((eV a0 (eC a1 X W)).1) (some (3,none)),.dead,.mi (some 1) (((eV a0 (eC a1 X W)).1).length) E O,.row .holding U]⟩) (eQ a0 a1 X W) (mA a0 a1 X W) ((eV a0 (eC a1 X W)).1) ([]) ((·.elim)) ((·.elim)) (λU=>⟨[(8,.os 4)],[.dead,.dead,.dead,.dead,.row .holding U]⟩) st)else none),?_,?_⟩
 ·unfold ae Tryz.f157;simp only[ak,true_and,and_true]
  ·refine MI (et .dn,et .int) 3 mixed aB hG kr (λ_=>rfl) λE O U Y=>⟨L0,ag _,?_⟩
   ·by_cases V:E=[]
    subst V;exact aaC (jl [0,1,2,3,7]) (jl [0,1,2,3,4])
    ·simp only[go_sem,V];intro j hj0;obtain⟨aqw,hq0⟩:=Y j hj0;unfold mA at hq0;all_goals exact gj (jl [0,1,2,3,7]) (jl [0,1,2,3,4])
 unfold ae Tryz.f157;exact ahY
@[go_sem] def BU (x:Claim):List SV:=[.agg (cellsOf .x6 x)]
@[go_sem] def H5:List SV->Option Con:=(pD .al λd=>(pR .u0 λl_=>(pI λhour=>(pI λknown=>(pE (.det True (.fn 156 [] [.ep (cellsOf .al d) 0,.ep [.rs .u0 l_] 0,.ep [.v (.int .i64 hour)] 0,.ep [.v (.int .i64 known)] 0])))))))
theorem Gg:zs Tryz.prog 100 H5:=by
 have hG:=mG C1 C1;refine fN hG Tryz.f100 [.o] (ax λd=>(bD λO=>(az λhour=>(az λknown=>(am (λE=>?_))))));refine⟨Y2 rfl,L0,ag _,?_⟩;unfold ae Tryz.f100;simp only[go_sem,oA,oB,Nat.reduceBEq,Nat.reduceLeDiff,Nat.reduceAdd,Nat.reduceSub,Nat.reduceMul]
@[go_sem] def iI (d:ah)(l_:List bh)(hour:Int)(known:Int)(Q1:Nat)(ly:List Claim):Empty⊕(List Claim):=letI q0:=((ay d l_ hour known).1).getD Q1 default;letI q1:=d.ai.getD (Int.toNat (q0.right)) default;(bif(((decide (hour<q1.since)) ||(decide (hour > q1.to))) ||(decide ((Int.tmod (i64.wrap (hour - q1.since)) (q1.every))>=q1.length)))then .inr ly else .inr (ly++[({ right:=q0.right,dd:=q0.dd,hour:=hour,bo:=q0.bo,ao8:=q0.ao8}:Claim)]))
def nW (d:ah)(l_:List bh)(hour:Int)(known:Int)(api:List (List SV))(Q1:Nat)(ly:List Claim):Prop:=letI q1:=((ay d l_ hour known).1).getD Q1 default;letI q0:=d.ai.getD (Int.toNat (q1.right)) default;letI q2:=decide (hour<q0.since);letI q3:=decide (hour > q0.to);((0<=q1.right/\q1.right< (d.ai.length:Int))/\(((q2||q3)=false->q0.every≠0)/\(((q2||q3) ||(decide ((Int.tmod (i64.wrap (hour - q0.since)) (q0.every))>=q0.length)))=false->(api[ly.length]? =some (BU ({ right:=q1.right,dd:=q1.dd,hour:=hour,bo:=q1.bo,ao8:=q1.ao8}:Claim))))))
def fu (d:ah)(l_:List bh)(hour:Int)(known:Int):List Claim:=(match aj (iI d l_ hour known) (((ay d l_ hour known).1).length) 0 ([]:List Claim)with| .inl x=>x.elim| .inr ly=>ly)
def kE (d:ah)(l_:List bh)(hour:Int)(known:Int)(api:List (List SV)):Prop:=letI q0:=(ay d l_ hour known).1;letI q1:=iI d l_ hour known;((qt d l_ hour known)/\(q0.length<=aH->(okI q1 (nW d l_ hour known api) (q0.length) 0 ([]:List Claim)/\(∀ ly,aj q1 (q0.length) 0 ([]:List Claim)=.inr ly->(api.length=ly.length)))))
theorem BV (d:ah)(O:List bh)(hour:Int)(known:Int)(E:List (List SV))(hp:kE d O hour known E):Af Tryz.prog 156 (λy=>[y,.ep (cellsOf .al d) 0,.ep [.rs .u0 O] 0,.ep [.v (.int .i64 hour)] 0,.ep [.v (.int .i64 known)] 0]) [] E:=by
 unfold kE at hp;refine Bw mixed aB (fn:=Tryz.f156) (c:=ae Tryz.f156) kr kr kr kr rfl (n:=0) rfl (G:=λX=>Ag [(157,λl=>yQ (yX [.st .al,.sl .u0,.o,.o] l))] [] (C7 E X)) (λX hy=>?_) (λargs w=>by kernel_rfl);have hG:=mGY (cn [.st .al,.sl .u0,.o,.o] Gf C1) C1 hy;refine⟨hG,Y2 rfl,(λid st=>bif Nat.beq id 0 then some (LCY (ρ:=Empty) (σ:=(List Claim)) 2 [] [0,1] (λV U=>⟨[(0,.os 0),(1,.ep (cellsOf .al d) 0),(3,.ep [.v (.int .i64 hour)] 0),(19,.os 1),(20,.v (.int .i64 (((ay d O hour known).1).length:Int))),(21,.v (.int .i64 (V:Int)))],[.ab (X.1 (U.length+1)),.row .holding ((ay d O hour known).1)]⟩) (iI d O hour known) (nW d O hour known E) (((ay d O hour known).1).length) ([]:List Claim) (((ay d O hour known).1).length<=aH) ((·.elim)) ((·.elim)) ⟨[],[.ab (X.1 0),.dead]⟩ st)else none),?_,?_⟩;unfold ae Tryz.f156;simp only[ak,true_and,and_true];refine sL mixed aB hG kr (λ_=>rfl) (((ay d O hour known).1).length:Int) rfl fj (λhb0 V U Y W hw hc=>⟨L0,ag _,?_⟩) (λhb0 U hc=>?_);unfold nW at W;try simp only[hw,alI]at W
 exact oK (jl [0,1]);exact oL (jl [0,1]);unfold ae Tryz.f156;exact M0 (jl [0])
end Go.Sx
end
section
namespace Go.Proofs
open Go.Shelf Go.Sx
def Tryz.aqI:Go.Shelf.Ren:=⟨λ|6=>105|15=>133|14=>162|28=>199|29=>200|20=>235|21=>236|22=>237|23=>238|24=>239|25=>240|26=>241|27=>242|46=>287|47=>260|48=>261|49=>288|50=>289|57=>327|n=>n,λ|22=>115|24=>119|25=>186|3=>3|39=>229|0=>0|53=>294|55=>296|4=>4|46=>288|45=>287|50=>267|5=>5|9=>9|66=>342|70=>60|76=>375|77=>376|n=>n,λ|n=>n⟩
theorem Tryz.ara:Go.Proofs.SlLaysF0.n6 Tryz.prog Tryz.aqI:=⟨kr,⟨Tryz.f105.name,by decide,kr⟩,⟨Tryz.f162.name,by decide,kr⟩,kr,⟨Tryz.f235.name,by decide,kr⟩,⟨Tryz.f236.name,by decide,kr⟩,⟨Tryz.f237.name,by decide,kr⟩,⟨Tryz.f238.name,by decide,kr⟩,⟨Tryz.f239.name,by decide,kr⟩,⟨Tryz.f240.name,by decide,kr⟩,⟨Tryz.f241.name,by decide,kr⟩,⟨Tryz.f242.name,by decide,kr⟩,kr,kr,⟨Tryz.f287.name,by decide,kr⟩,kr,kr,⟨Tryz.f288.name,by decide,kr⟩,⟨Tryz.f289.name,by decide,kr⟩,⟨Tryz.f327.name,by decide,kr⟩,kr,λ_=>kr,λ_=>kr,λ_=>kr,kr,λ_=>kr,λ_=>kr,λ_=>kr,kr,λ_=>kr,λ_=>kr,λ_=>kr,kr,λ_=>kr,λ_=>kr,λ_=>kr,kr,λ_=>kr,λ_=>kr,λ_=>kr,kr,λ_=>kr,λ_=>kr,λ_=>kr,kr,λ_=>kr,λ_=>kr,λ_=>kr,kr,λ_=>kr,λ_=>kr,λ_=>kr,kr,λ_=>kr,λ_=>kr,λ_=>kr,kr,λ_=>kr,λ_=>kr,λ_=>kr,kr,λ_=>kr,λ_=>kr,λ_=>kr,kr,λ_=>kr,λ_=>kr,λ_=>kr,kr,λ_=>kr,λ_=>kr,λ_=>kr,kr,λ_=>kr,λ_=>kr,λ_=>kr,kr,λ_=>kr,λ_=>kr,λ_=>kr,kr,λ_=>kr,λ_=>kr,λ_=>kr,kr,λ_=>kr,λ_=>kr,λ_=>kr⟩
end Go.Proofs
end
section
namespace Go.Sx
open Go.Lib Go.Proofs Go.RowKit Go.Shelf Go.Sort
noncomputable def CR:List SV->List Ob->Option apd:=iN .S2 106 [] fB
@[go_sem]def Wh {l0:List M1}:CR [.os 0,.fn 106 [] []] [.row .S2 l0]=some (ft (apart fB l0) (.tup []) [.row .S2 (srt fB l0)]):=mV
theorem Nw:xa .S2:=λx s E=>by
 simp only[cellsOf,alV,amw,or_false]at E;rcases E with rfl|rfl|rfl|rfl|rfl|rfl;all_goals exact⟨_,rfl,rfl⟩
theorem I4 (x y:M1):xq (.agg (cellsOf .S2 x):: .agg (cellsOf .S2 y)::[])=some (.det True (.v (.int .i64 (fB x y)))):=by
 simp only[go_sem,Nat.reduceBEq]
theorem KY:ape Tryz.prog 105 CR:=
 qN (k:=.S2) Tryz.ara (λw=>by kernel_rfl) (λw=>by kernel_rfl) Nw (by decide) (g:=106) (caps:=[]) Dt (cf:=fB) I4 I3 (λs E=>by cases E) ⟨default,default,I4 _ _⟩
end Go.Sx
end
section
namespace Go.Sx
open Go.Proofs
open IntKind (i64)
@[go_sem] def fP (a0:ah)(a1:List bh)(a4:Int)(ly:List M1×Int)(z_1:Claim)(s_1:List M1):Empty⊕(List M1):=letI q0:=(l9 a0 ((a0.l5.getD (Int.toNat z_1.dd) default).reach)).1;letI q1:=dC q0 (cC a0 ly.2) z_1;(bif(decide (q1>=0))then .inr (s_1++([({ x6:=z_1,reach:=(q0.getD (Int.toNat q1) 0)}:M1)]))else .inr (s_1++([({ x6:=z_1,reach:=(-1)}:M1)])))
def il (a0:ah)(a1:List bh)(a4:Int)(ly:List M1×Int)(z_1:Claim)(s_1:List M1):Prop:=letI q1:=(a0.l5.getD (Int.toNat z_1.dd) default).reach;letI q2:=(l9 a0 q1).1;letI q0:=dC q2 (cC a0 ly.2) z_1;((0<=z_1.dd/\z_1.dd< (a0.l5.length:Int))/\((qs a0 q1)/\(((decide (q0>=0))=true->((0<=q0/\q0< (q2.length:Int))/\((s_1++([({ x6:=z_1,reach:=(q2.getD (Int.toNat q0) 0)}:M1)])).length*48<=dI)))/\((decide (q0>=0))=false->((s_1++([({ x6:=z_1,reach:=(-1)}:M1)])).length*48<=dI)))))
@[go_sem] def jA (a0:ah)(a1:List bh)(a3:Int)(a4:Int)(Q1:Nat)(ly:List M1×Int):(List M1)⊕(List M1×Int):=(bif(decide (ly.2<=a3))then(match di (fP a0 a1 a4 ly) (fu a0 a1 ly.2 a4) ly.1 with| .inl x=>x.elim| .inr s_1=>.inr (s_1,(i64.wrap (ly.2+1))))else .inl ly.1)
def kF (a0:ah)(a1:List bh)(a3:Int)(a4:Int)(Q1:Nat)(ly:List M1×Int):Prop:=((decide (ly.2<=a3))=true->((kE a0 a1 ly.2 a4 ((fu a0 a1 ly.2 a4).map BU))/\okL (fP a0 a1 a4 ly) (il a0 a1 a4 ly) (fu a0 a1 ly.2 a4) ly.1))
def eS (a0:ah)(a1:List bh)(a2:Int)(a3:Int)(a4:Int):List M1×Int:=letI q0:=a8 a0 a1;(bif(q0 !=0)then([],q0)else(bif(((((decide (a2<0)) ||(decide (a2 > a3))) ||(decide (a3>=a0.hours))) ||(decide (a4<0))) ||(decide (a4 > 1048576)))then([],1)else(bif(decide ((i64.wrap ((i64.wrap ((i64.wrap (a3 - a2))+1))*(a0.ai.length:Int))) > 4096))then([],2)else(match aj (jA a0 a1 a3 a4) 4098 0 ([],a2)with| .inl gl=>((srt fB gl),0) | .inr ly=>default))))
def oX (a0:ah)(a1:List bh)(a2:Int)(a3:Int)(a4:Int):Prop:=letI q0:=jA a0 a1 a3 a4;((jS a0 a1)/\(((a8 a0 a1) !=0)=false->((((((decide (a2<0)) ||(decide (a2 > a3))) ||(decide (a3>=a0.hours))) ||(decide (a4<0))) ||(decide (a4 > 1048576)))=false->(a0.ai.length<=aH->((decide ((i64.wrap ((i64.wrap ((i64.wrap (a3 - a2))+1))*(a0.ai.length:Int))) > 4096))=false->(okI q0 (kF a0 a1 a3 a4) 4098 0 ([],a2)/\(∀ z_,aj q0 4098 0 ([],a2)≠ .inr z_)/\(∀ gl,aj q0 4098 0 ([],a2)=.inl gl->(apart fB gl))))))))
@[go_sem] def KZ:List SV->Option Con:=(pD .al λa0=>(pR .u0 λa1=>(pI λa2=>(pI λa3=>(pI λa4=>(pE (.det (oX a0 a1 a2 a3 a4) (.tup [.nw .S2 ((eS a0 a1 a2 a3 a4).1),.v (.int .i64 ((eS a0 a1 a2 a3 a4).2))]))))))))
variable {p:Prop}
theorem ahZ(h:p:=by simp only[go_sem,e1_0,e1_1,e1_2,e1_3,e1_4,e1_5,e1_6,e1_7]):p:=h
variable {l0 l1:List Nat}
theorem ah0(a0:JL l0)(a1:JL l1)(h:JL l0->JL l1->p:=by intro ja jb;simp only[go_sem,fL,fP,psT,BU,al7,alR];all_goals exact gj ja jb):p:=h a0 a1
theorem aaD(a0:JL l0)(a1:JL l1)(h:JL l0->JL l1->p:=by intro ja jb;simp only[go_sem,fL];all_goals exact gj ja jb):p:=h a0 a1
theorem ah1(h:p:=by simp only[go_sem,fL];all_goals exact cl):p:=h
theorem H6:zs Tryz.prog 56 KZ:=by
 have hG:=mG (cn [.st .al,.sl .u0] tY (cn [.st .al,.o] Dp (cn [.st .al,.sl .u0,.o,.o] Gg (cn [.st .al,.o] F_ (cn [.sl .int,.o] rz C1))))) (co KY C1);refine fW hG Tryz.f56 [(.cell 10 0,.S2)] (ax λa0=>(bD λa1=>(az λa2=>(az λW=>(az λO=>(am (λY=>?_)))))));dsimp only[an]at Y;unfold oX at Y;refine⟨Y2 rfl,(λid st=>bif Nat.beq id 0 then some (LCV (ρ:=(List M1)) (σ:=(List M1×Int)) 2 [.cell 1 0 (.row .S2 ([]))] [0,1,2] (λQ1 E=>⟨[(1,.rs .u0 a1),(3,.v (.int .i64 W)),(4,.v (.int .i64 O)),(5,.ptr 0 0),(10,.ptr 1 0),(12,.v (.int .i64 E.2))],[.cells (cellsOf .al a0),.cells [.os 2],.row .S2 E.1]⟩) (jA a0 a1 W O) (kF a0 a1 W O) 4098 ([],a2) (λ_=>.normal) (λV=>⟨[(10,.ptr 1 0)],[.dead,.cells [.os 2],.row .S2 V]⟩) st)else none),?_,?_⟩
 ·unfold ae Tryz.f56;simp only[ak,true_and,and_true]
  ·refine eJ mixed aB hG kr (λ_=>rfl) λQ1 E hq0=>⟨(λid st=>bif Nat.beq id 2 then some (LC (ρ:=Empty) (σ:=List M1) (lk 1 st.t=.rs .u0 a1/\lk 3 st.t=.v (.int .i64 W)/\lk 4 st.t=.v (.int .i64 O)/\lk 5 st.t=.ptr 0 0/\lk 10 st.t=.ptr 1 0/\lk 12 st.t=.v (.int .i64 E.2)/\lk 13 st.t=.ptr 6 0/\lk 68 st.t=.fn 156 [] [.ep (cellsOf .al a0) 0,.ep [.rs .u0 a1] 0,.ep [.v (.int .i64 E.2)] 0,.ep [.v (.int .i64 O)] 0]/\st.h=[.cells (cellsOf .al a0),.cells [.os 2],.row .S2 E.1,.mp .int .int ((cC a0 E.2).ap_) none,.mp .G2 .bool ((cC a0 E.2).owned) none,.mp .G2 .bool ((cC a0 E.2).ap7) none,.cells [.os 3,.os 4,.os 5]]/\kE a0 a1 E.2 O ((fu a0 a1 E.2 O).map BU)/\okL (fP a0 a1 O E) (il a0 a1 O E) (fu a0 a1 E.2 O) E.1) (di (fP a0 a1 O E) (fu a0 a1 E.2 O) E.1) (λx=>x.elim) (λx=>x.elim) (λU=>⟨[(1,.rs .u0 a1),(3,.v (.int .i64 W)),(4,.v (.int .i64 O)),(5,.ptr 0 0),(10,.ptr 1 0),(12,.v (.int .i64 E.2)),(13,.ptr 6 0)],[.cells (cellsOf .al a0),.cells [.os 7],.dead,.mp .int .int ((cC a0 E.2).ap_) none,.mp .G2 .bool ((cC a0 E.2).owned) none,.mp .G2 .bool ((cC a0 E.2).ap7) none,.cells [.os 3,.os 4,.os 5],.row .S2 U]⟩))else none),?_,?_⟩
   ·simp only[ak,true_and,and_true]
    ·refine se mixed aB hG (by decide) (by decide) kr kr λst lc hC Y=>?_;simp only[go_sem,Nat.reduceBEq,alK]at hC;subst hC;obtain⟨t,h⟩:=st;dsimp only[LC]at Y;obtain⟨e1_0,e1_1,e1_2,e1_3,e1_4,e1_5,e1_6,e1_7,rfl,hb1,X⟩:=Y;refine⟨156,[.ep (cellsOf .al a0) 0,.ep [.rs .u0 a1] 0,.ep [.v (.int .i64 E.2)] 0,.ep [.v (.int .i64 O)] 0],Claim,_,_,(fu a0 a1 E.2 O),BU,(fP a0 a1 O E),(il a0 a1 O E),_,E.1,_,_,_,[(1,.rs .u0 a1),(3,.v (.int .i64 W)),(4,.v (.int .i64 O)),(5,.ptr 0 0),(10,.ptr 1 0),(12,.v (.int .i64 E.2)),(13,.ptr 6 0)],(λU=>[.cells (cellsOf .al a0),.cells [.os 7],.dead,.mp .int .int ((cC a0 E.2).ap_) none,.mp .G2 .bool ((cC a0 E.2).owned) none,.mp .G2 .bool ((cC a0 E.2).ap7) none,.cells [.os 3,.os 4,.os 5],.row .S2 U]),(λx=>x.elim),[0,1,2,3,4,5,6,2],?_,rfl,X,Y2 rfl,?_,BV a0 a1 E.2 O _ hb1,λz_1 U hq1=>⟨rfl,L0,λl=>?_,λl=>?_,?_⟩,λU=>?_,λy=>?_⟩;exact ahZ
     ·simp only[go_sem,sI,jR,al5,amR,alR,al3,amL,e1_0,e1_1,e1_2,e1_3,e1_4,e1_5,e1_6,e1_7];all_goals (first|done|decide|(repeat' (first|refine And.intro ?_ ?_|rfl|decide)))
     simp only[ak,and_self,true_and,and_true];simp only[ak,and_self,true_and,and_true];unfold il at hq1;exact ah0 (jl [0,1,2,3,4,5,6,12]) (jl [0,1,2,3,4,5,6,7]);exact aaD (jl [0,1,2,3,4,5,6,12]) (jl [0,1,2,3,4,5,6,7]);exact aaD (jl [0,1,2,3,4,5,6,12]) (jl [0,1,2,3,4,5,6,7])
   unfold kF at hq0;exact qX (jl [0,1,7]) (jl [0,1,2])
 unfold ae Tryz.f56;try unfold eS
 exact ah1
@[go_sem] def oY (d:ah)(l_:List bh)(fr:Int)(to:Int)(known:Int)(Q1:Nat)(ly:List Claim):Empty⊕(List Claim):=(bif(decide ((((eS d l_ fr to known).1).getD Q1 default).reach<0))then .inr (ly++([(((eS d l_ fr to known).1).getD Q1 default).x6]))else .inr ly)
def sX (d:ah)(l_:List bh)(fr:Int)(to:Int)(known:Int)(Q1:Nat)(ly:List Claim):Prop:=((decide ((((eS d l_ fr to known).1).getD Q1 default).reach<0))=true->((ly++([(((eS d l_ fr to known).1).getD Q1 default).x6])).length*40<=dI))
def av (d:ah)(l_:List bh)(fr:Int)(to:Int)(known:Int):List Claim×Int:=letI q0:=eS d l_ fr to known;(bif(q0.2 !=0)then([],q0.2)else(match aj (oY d l_ fr to known) ((q0.1).length) 0 ([])with| .inl x=>x.elim| .inr ly=>(bif(decide ((ly.length:Int) > 4096))then([],2)else(ly,0))))
def rb (d:ah)(l_:List bh)(fr:Int)(to:Int)(known:Int):Prop:=letI q0:=eS d l_ fr to known;((oX d l_ fr to known)/\((q0.2 !=0)=false->((q0.1).length<=aH->okI (oY d l_ fr to known) (sX d l_ fr to known) ((q0.1).length) 0 ([]))))
@[go_sem] def Nx:List SV->Option Con:=(pD .al λd=>(pR .u0 λl_=>(pI λfr=>(pI λto=>(pI λknown=>(pE (.det (rb d l_ fr to known) (.tup [.rs .x6 ((av d l_ fr to known).1),.v (.int .i64 ((av d l_ fr to known).2))]))))))))
theorem AE:zs Tryz.prog 17 Nx:=by
 have hG:=mG (cn [.st .al,.sl .u0,.o,.o,.o] H6 C1) C1;refine fN hG Tryz.f17 [.sl .x6,.o] (ax λd=>(bD λE=>(az λfr=>(az λto=>(az λknown=>(am (λX=>?_)))))));dsimp only[an]at X;unfold rb at X;refine⟨Y2 rfl,(λid st=>bif Nat.beq id 0 then some (LCR (ρ:=Empty) (σ:=(List Claim)) 2 [.slot 10 (.row .x6 ([]))] [0,1,2] (λU O=>⟨[(10,.os 2),(27,.os 1),(28,.v (.int .i64 (((eS d E fr to known).1).length:Int))),(29,.v (.int .i64 (U:Int)))],[.dead,.row .S2 ((eS d E fr to known).1),.row .x6 O]⟩) (oY d E fr to known) (sX d E fr to known) (((eS d E fr to known).1).length) ([]) (((eS d E fr to known).1).length<=aH) ((·.elim)) ((·.elim)) st)else none),?_,?_⟩;unfold ae Tryz.f17;simp only[ak,true_and,and_true];refine bL mixed aB hG kr (λ_=>rfl) (((eS d E fr to known).1).length:Int) rfl fj (λhb0 U O W V hw hc=>⟨L0,ag _,?_⟩) (λhb0 O hc=>?_);unfold sX at V;try simp only[hw,alI]at V
 exact mX (jl [0,1,5]) (jl [0,1,2]);exact mY (jl [0,1,5]) (jl [0,1,2]);unfold ae Tryz.f17;try unfold av
 exact zq2
variable {n:Int}
theorem Ri{d:Int}(hd:1<=d)(E:d<=1073741824)(h1: -1152921504606846976<=n)(h2:n<=1152921504606846976):lI n d=n / d:=by
 unfold lI;have U:Int.tmod (Int.tmod n d+d) d=n % d:=by
  have a1: -d<Int.tmod n d:=anQ n (by omega);rw[amy (by omega),aoU];rw[aos];split
  simp_all;have:n % d - (d.natAbs:Int)=n % d+d*(-1):=by omega
  simp_all
 have a1: -d<Int.tmod n d:=anQ n (by omega);have W:Int.tmod n d<d:=aoV n (by omega);rw[aA (by omega: -9223372036854775808<=Int.tmod n d+d) (by omega),U];have X:=anf n (by omega:d≠0);have V:=ana n (by omega:0<d);rw[aA (by omega: -9223372036854775808<=n - n % d) (by omega)];have O:n - n % d=d*(n / d):=by have:=anz n d;omega
 rw[O,aoj _ (by omega)];have c1:n / d<=1152921504606846976:=by
  have:=anq (by omega:0<d) h2;have:=an1 (b:=d) (by omega:(0:Int)<=1152921504606846976);omega
 have Y: -1152921504606846976<=n / d:=by
  rw[am5 (by omega)];omega
 exact aA (by omega) (by omega)
def kG {κ υ:Type}(l:List (κ×υ)):List κ:=l.map λp=>p.1
theorem I5 {κ υ:Type}[DecidableEq κ]:∀ {l:List (κ×υ)} {x:κ},x ∉ kG l->iv l x=none
 | [],_,_=>rfl
 |(a,b)::r,x,h=>by
  unfold iv;rw[if_neg (λe=>h (by simp[kG,e]))];exact I5 λE=>h (by grind [kG])
theorem Gh {κ υ:Type}[DecidableEq κ]:∀ {l:List (κ×υ)},(kG l).Nodup->∀ {x:κ} {y:υ},iv l x=some y↔(x,y)∈l
 | [],_,x,y=>by simp[iv]
 |(a,b)::r,h,x,y=>by
  have h':=ami.1 h;unfold iv;by_cases e:x=a
  grind
  rw[if_neg e,Gh h'.2];grind
theorem uW {κ υ:Type}[DecidableEq κ](x:κ)(y:υ):∀ (l:List (κ×υ)),(kG l).Nodup->(kG (tA l x y)).Nodup/\∀ z,z∈kG (tA l x y)->z=x\/z∈kG l
 | [],_=>by simp[tA,kG]
 |(a,b)::r,h=>by
  have h':=ami.1 h;unfold tA;by_cases e:x=a
  subst e;rw[if_pos rfl];exact⟨h,λz hz=>.inr hz⟩;rw[if_neg e];obtain⟨O,E⟩:=uW x y r h'.2;refine⟨ami.2 ⟨λU=>?_,O⟩,λz hz=>?_⟩;rcases E _ U with h3|h3;grind
  exact h'.1 h3;rcases alV.1 hz with rfl|hz;exact .inr al4;rcases E z hz with h3|h3;exact .inl h3;exact .inr (al2 _ h3)
theorem BW {κ υ:Type}[DecidableEq κ](x:κ):∀ (l:List (κ×υ)),(kG l).Nodup->(kG (A8 l x)).Nodup/\(∀ z,z∈kG (A8 l x)->z∈kG l)/\∀ z,iv (A8 l x) z=if z=x then none else iv l z
 | [],_=>by simp[A8,kG,iv]
 |(a,b)::r,h=>by
  have h':=ami.1 h;unfold A8;by_cases e:x=a
  subst e;rw[if_pos rfl];refine⟨h'.2,λz hz=>al2 _ hz,λz=>?_⟩;by_cases hz:z=x
  subst hz;rw[if_pos rfl];exact I5 h'.1;simp_all [iv];rw[if_neg e];obtain⟨O,E,U⟩:=BW x r h'.2;refine⟨ami.2 ⟨λV=>h'.1 (E _ V),O⟩,λz hz=>?_,λz=>?_⟩;rcases alV.1 hz with rfl|hz;exact al4;exact al2 _ (E z hz);simp only[iv,U];grind
def tot:Nat->(Int->Int)->Int
 |0,_=>0|n+1,g=>tot n g+g (n:Int)
def jB (g:Int->Int)(f v:Int):Int->Int:=λx=>if x=f then v else g x
theorem Ny {g h:Int->Int}:∀ {n:Nat},(∀ f:Int,0<=f->f< (n:Int)->g f=h f)->tot n g=tot n h
 |0,_=>rfl
 |n+1,e=>by unfold tot;rw[Ny (n:=n) λf h1 h2=>e f h1 (by omega),e n (by omega) (by omega)]
theorem vK (g:Int->Int)(f v:Int):∀ (n:Nat),0<=f->f< (n:Int)->tot n (jB g f v)=tot n g - g f+v
 |0,h0,h1=>by omega
 |n+1,h0,h1=>by
  unfold tot;by_cases h:f=(n:Int)
  subst h;rw[Ny (g:=jB g n v) (h:=g) λx _ E=>by unfold jB;omega];simp_all [jB];rw[vK g f v n h0 (by omega)];unfold jB;omega
theorem Wi {g:Int->Int}(h:∀ f,0<=g f):∀ n,0<=tot n g
 |0=>amD _
 |n+1=>by have:=Wi h n;grind [tot]
theorem Gi {g:Int->Int}(h:∀ f,0<=g f):∀ (n:Nat) (f:Int),0<=f->f< (n:Int)->g f<=tot n g
 |0,f,h0,h1=>by omega
 |n+1,f,h0,h1=>by
  unfold tot;have h2:=Wi h n;by_cases e:f=(n:Int)
  grind
  have:=Gi h n f h0 (by omega);grind
structure Good (F:Nat)(L:Int)(g:Int->Int):Prop where
 nn:∀ f,0<=g f
 sup:∀ f,g f≠0->0<=f/\f< (F:Int)
 tot:tot F g<=L
variable {g:Int->Int}
theorem Good.le{F:Nat}{L:Int}(h:Good F L g)(E:0<=L)(f:Int):g f<=L:=by
 by_cases e:g f=0
 omega;obtain⟨a,b⟩:=h.sup f e;exact aoy (Gi h.nn F f a b) h.tot
theorem Good.put{F:Nat}{L M:Int}(h:Good F L g){f v:Int}(U:0<=f)(h1:f< (F:Int))(O:0<=v)(V:Go.Sx.tot F g - g f+v<=M):Good F M (jB g f v) where
 nn:=λx=>by unfold jB;split;exact O;exact h.nn x
 sup:=λx E=>by
  unfold jB at E;split at E
  omega;exact h.sup x E
 tot:=by grind [vK]
def loP (p:Part)(n:Int):Int:=p.share.n*n / p.share.d
theorem Wj{a:B1}(h:apv a)(X:0<=n)(h1:n<=1073741824):(eM a n).1=a.n*n / a.d/\(eM a n).2.1= -(-(a.n*n) / a.d)/\(eM a n).2.2=0:=by
 have W: -1152921504606846976<=a.n*n/\a.n*n<=1152921504606846976:=by
  have:(a.n*n).natAbs<=1073741824*1073741824:=by rw[aoL];exact aoc (by have:=h.n0;have:=h.n;omega) (by omega)
  omega
 have hd:=h.d1;have E:=h.d;have O:=h.n0;have V:=h.n;unfold eM;rw[(gz a).2 h];have e:(decide (n< -1073741824) ||decide (n > 1073741824))=false:=by simp;omega
 simp only[bne_self_eq_false,cond_false,e];have U: -a.n*n= -(a.n*n):=Int.neg_mul _ _;rw[aA (n:=a.n*n) (by omega) (by omega),aA (n:=0 - a.n) (by omega) (by omega),show 0 - a.n= -a.n by omega,U,aA (n:= -(a.n*n)) (by omega) (by omega),Ri hd E (by omega) (by omega),Ri hd E (by omega) (by omega)];refine⟨rfl,?_,trivial⟩;have c1: -(a.n*n) / a.d<=1152921504606846976:=by
  have:=anq (by omega:0<a.d) (by omega: -(a.n*n)<=1152921504606846976);have:=an1 (b:=a.d) (by omega:(0:Int)<=1152921504606846976);omega
 have Y: -1152921504606846976<= -(a.n*n) / a.d:=by
  rw[am5 (by omega)];omega
 grind [aA]
theorem Nz{p:Part}(h:apv p.share)(O:0<p.share.n)(E:0<=n):0<=loP p n:=by
 unfold loP;exact Int.ediv_nonneg (anG (by omega) E) (by have:=h.d1;omega)
theorem Wk {x d:Rat}(hd:0<d)(h:0<=x*d):0<=x:=by
 rcases aoA (0<=x)with h1|h1;exact h1;have h2:0< -x:=by grind
 have E:=Rat.mul_pos h2 hd;grind
theorem adg {p:Part}(h:apv p.share)(n:Int):((loP p n:Int):Rat)<=rv p.share*(n:Rat)/\rv p.share*(n:Rat)<=((loP p n:Int):Rat)+1:=by
 have hd:=h.d1;have U:(0:Rat) < (p.share.d:Rat):=by exact_mod_cast (by omega:(0:Int) <p.share.d)
 have Y:(p.share.d:Rat)≠0:=qV (by omega);have X:rv p.share*(p.share.d:Rat)=(p.share.n:Rat):=by grind [rv]
 have q:=anz (p.share.n*n) p.share.d;have q1:=anf (p.share.n*n) (by omega:p.share.d≠0);have q2:=ana (p.share.n*n) (by omega:0<p.share.d);have V:p.share.d*loP p n<=p.share.n*n:=by unfold loP;omega
 have W:p.share.n*n<=p.share.d*loP p n+p.share.d:=by unfold loP;omega
 have O:(p.share.d:Rat)*((loP p n:Int):Rat)<=(p.share.n:Rat)*(n:Rat):=by exact_mod_cast V
 have E:(p.share.n:Rat)*(n:Rat)<=(p.share.d:Rat)*((loP p n:Int):Rat)+(p.share.d:Rat):=by exact_mod_cast W
 rw[<-X]at O E;generalize ((loP p n:Int):Rat)=lo at *;generalize (n:Rat)=m at *;generalize rv p.share=v at *;generalize (p.share.d:Rat)=d at *;constructor
 have:=Wk (x:=v*m - lo) U (by grind);grind
 have:=Wk (x:=lo+1 - v*m) U (by grind);grind
def dW (l:List Part)(n:Int):Int:=(l.map λp=>loP p n).sum
variable {l:List Part}
theorem adh(h:∀ p∈l,apv p.share)(n:Int):((dW l n:Int):Rat)<=BO l*(n:Rat)/\BO l*(n:Rat)<=((dW l n+(l.length:Int):Int):Rat):=by
 induction l with
 |nil=>simp[dW,BO,Rat.zero_mul]
 |cons p r E=>
  obtain⟨i1,Y⟩:=E λq O=>h q (al2 _ O);obtain⟨X,W⟩:=adg (h p al4) n;have e:dW (p::r) n=loP p n+dW r n:=by simp[dW]
  have V:((dW (p::r) n:Int):Rat)=((loP p n:Int):Rat)+((dW r n:Int):Rat):=by simp_all
  have U:((dW (p::r) n+((p::r).length:Int):Int):Rat)=(((loP p n:Int):Rat)+1)+((dW r n+(r.length:Int):Int):Rat):=by
   have:dW (p::r) n+((p::r).length:Int)=(loP p n+1)+(dW r n+(r.length:Int)):=by grind
   simp_all
  rw[V,U];simp only[BO];grind
theorem K1{d:ah}(h:aqb d l)(n:Int):dW l n<=n/\n<=dW l n+(l.length:Int):=by
 obtain⟨h1,h2⟩:=adh (λp E=>(h.part p E).share) n;rw[h.sum,Rat.one_mul]at h1 h2;exact⟨by exact_mod_cast h1,by exact_mod_cast h2⟩
theorem Wl {p q:Nat}(E:0<q):Int.tmod (-(p:Int)) (-(q:Int))= -((p % q:Nat):Int):=by
 simp_all [amy]
theorem Gj (a1:Int):∀ (n i:Nat) (p q:Nat),q<n->∃ a b,aj (kO a1) n i (-(p:Int),-(q:Int))=.inl (a,b)/\((b= -1/\Nat.gcd p q=1)\/(b=0/\a= -((Nat.gcd p q:Nat):Int)))
 |0,_,_,_,h=>by omega
 |n+1,i,p,q,h=>by
  simp only[aj,kO];by_cases h1:1<q
  rw[decide_eq_true (by omega)];simp only[cond_true];rw[Wl (by omega)];have hlt:p % q<q:=anP _ (by omega);obtain⟨a,b,e,h2⟩:=Gj a1 n (i+1) q (p % q) (by omega);grind [Nat.gcd_comm,Nat.gcd_rec]
  rw[decide_eq_false (by omega)];simp only[cond_false];refine⟨_,_,rfl,?_⟩;by_cases E:q=0
  grind
  have:q=1:=by omega
  simp_all
theorem S5{d:Int}(h0: -4611686018427387904<=n)(h1:n<=4611686018427387904)(h2: -4611686018427387904<=d)(h3:d<=4611686018427387904):oO n d/\pL n d=mkR n d:=by
 unfold oO pL;by_cases hd:d=0
 grind [mkR]
 have e:(d==0)=false:=by grind
 rw[e];simp only[cond_false];have ex:(bif(decide (n > 0))then(i64.wrap (0 - n))else n)= -((n.natAbs:Nat):Int):=by
  by_cases h:n > 0
  rw[decide_eq_true h,cond_true,aA (by omega) (by omega)];omega;grind
 have W:(bif(decide (d > 0))then(i64.wrap (0 - d))else d)= -((d.natAbs:Nat):Int):=by
  by_cases h:d > 0
  rw[decide_eq_true h,cond_true,aA (by omega) (by omega)];omega;grind
 rw[ex,W];obtain⟨a,b,er,Y⟩:=Gj d (Int.natAbs d+2) 0 n.natAbs d.natAbs (by omega);rw[er];have g0:0<Nat.gcd n.natAbs d.natAbs:=aoi _ (by omega);have E:okI (kO d) (nI d) (Int.natAbs d+2) 0 (-((n.natAbs:Nat):Int),-((d.natAbs:Nat):Int)):=gX _ _ _ λj s _ _ h=>by grind
 simp only;have l1:n.natAbs / Nat.gcd n.natAbs d.natAbs<=n.natAbs:=an5 _ _;have l2:d.natAbs / Nat.gcd n.natAbs d.natAbs<=d.natAbs:=an5 _ _;rcases Y with⟨rfl,X⟩ | ⟨rfl,rfl⟩
 ·
  have t:∀ m:Nat,Int.tdiv (-(m:Int)) (-1)=(m:Int):=λm=>by grind
  refine⟨λ_=>⟨E,(λz h=>by cases h),λx V=>by grind⟩,?_⟩;unfold mkR;rw[if_neg hd,X,Nat.div_one,Nat.div_one,t,t];simp only[BEq.rfl,cond_true];by_cases O:1073741824<n.natAbs\/1073741824<d.natAbs
  grind
  rw[if_neg O];have U:((decide (-((n.natAbs:Nat):Int) < (-1073741824))) ||(decide (-((d.natAbs:Nat):Int) < (-1073741824))))=false:=by
   grind
  rw[U,aA (n:=((n.natAbs:Nat):Int)) (by omega) (by omega),aA (n:=((d.natAbs:Nat):Int)) (by omega) (by omega),aA (n:=0 - ((n.natAbs:Nat):Int)) (by omega) (by omega)];grind
 have t:∀ m:Nat,Int.tdiv (-(m:Int)) (-((Nat.gcd n.natAbs d.natAbs:Nat):Int))=((m / Nat.gcd n.natAbs d.natAbs:Nat):Int):=λm=>by simp_all
 refine⟨λ_=>⟨E,(λz h=>by cases h),λx V=>by grind⟩,?_⟩;unfold mkR;rw[if_neg hd,t,t];have b0:((0:Int) == -1)=false:=by decide
 rw[b0];simp only[cond_false];generalize V:n.natAbs / Nat.gcd n.natAbs d.natAbs=x at *;generalize hy:d.natAbs / Nat.gcd n.natAbs d.natAbs=y at *;by_cases O:1073741824<x\/1073741824<y
 rw[if_pos O];have U:((decide (i64.wrap (x:Int) > 1073741824)) ||(decide (i64.wrap (y:Int) > 1073741824)))=true:=by
  rw[aA (by omega) (by omega),aA (by omega) (by omega),ama,decide_eq_true_eq,decide_eq_true_eq];omega
 grind
 rw[if_neg O];have U:((-((Nat.gcd n.natAbs d.natAbs:Nat):Int) == -1)&&((decide (-((n.natAbs:Nat):Int) < (-1073741824))) ||(decide (-((d.natAbs:Nat):Int) < (-1073741824)))))=false:=by
  grind
 have e2:((decide (i64.wrap (x:Int) > 1073741824)) ||(decide (i64.wrap (y:Int) > 1073741824)))=false:=by
  grind [aA]
 rw[U,e2,aA (n:=(x:Int)) (by omega) (by omega),aA (n:=(y:Int)) (by omega) (by omega),aA (n:=0 - (x:Int)) (by omega) (by omega)];grind
theorem NA (a b:B1):qQ a b/\sj a b=gZ a b:=by
 rw[Px];unfold qQ sj;have U:kl a b=((aQ a==0)&&(aQ b==0)):=by grind [kl,xm]
 rw[U];by_cases h:aQ a=0/\aQ b=0
 have O:=(gz a).1 h.1;have E:=(gz b).1 h.2;have m1:=Dm O.n0 O.n E.d1 E.d;have V:=Dm E.n0 E.n O.d1 O.d;have h1:=O.d1;have h2:=O.d;have W:=Dm (a:=a.d) (by omega) h2 E.d1 E.d;rw[if_pos h,h.1,h.2,aA (n:=a.n*b.d) (by omega) (by omega),aA (n:=b.n*a.d) (by omega) (by omega),aA (n:=a.d*b.d) (by omega) (by omega),aA (n:=a.n*b.d+b.n*a.d) (by omega) (by omega)];obtain⟨p,e⟩:=S5 (n:=a.n*b.d+b.n*a.d) (d:=a.d*b.d) (by omega) (by omega) (by omega) (by omega);rw[e];exact⟨⟨Pw a b,λ_=>p⟩,rfl⟩;have:((aQ a==0)&&(aQ b==0))=false:=by
  grind
 rw[if_neg h,this];exact⟨⟨Pw a b,(λh=>by cases h)⟩,rfl⟩
theorem Wm{d:Int}(hd:1<=d)(X:d<=1073741824)(h1: -1152921504606846976<=n)(h2:n<=1152921504606846976):oa n d=n / d:=by
 unfold oa;have q:=anz n d;have Y:=anf n (by omega:d≠0);have q2:=ana n (by omega:0<d);have c1:n / d<=1152921504606846976:=by
  have:=anq (by omega:0<d) h2;have:=an1 (b:=d) (by omega:(0:Int)<=1152921504606846976);omega
 have c2: -1152921504606846976<=n / d:=by
  rw[am5 (by omega)];omega
 have V:d.sign=1:=Int.sign_eq_one_of_pos (by omega);have O:=Int.tdiv_eq_ediv (a:=n) (b:=d);have E:=aos (a:=n) (b:=d);by_cases U:0<=n\/d ∣ n
 rw[if_pos U]at O E;rw[O,E,decide_eq_false (by omega),cond_false,aA (by omega) (by omega)];omega;rw[if_neg U]at O E;have W:n % d≠0:=λe=>U (.inr (Int.dvd_of_emod_eq_zero e));rw[O,E,V,decide_eq_true (by omega),cond_true,aA (n:=n / d+1) (by omega) (by omega),aA (by omega) (by omega)];omega
theorem PK{a:B1}(h:apv a)(U:0<=n)(h1:n<=1073741824):na a n/\(gf a n).1=a.n*n / a.d:=by
 have O: -1152921504606846976<=a.n*n/\a.n*n<=1152921504606846976:=by
  have:(a.n*n).natAbs<=1073741824*1073741824:=by rw[aoL];exact aoc (by have:=h.n0;have:=h.n;omega) (by omega)
  omega
 have hd:=h.d1;have E:=h.d;refine⟨⟨xT a,λ_ _=>⟨⟨by omega,by omega⟩,⟨by omega,by omega⟩⟩⟩,?_⟩;unfold gf;rw[(sn a).2 h];have e:(decide (n< -1073741824) ||decide (n > 1073741824))=false:=by simp;omega
 simp only[alZ,cond_false,e];grind [aA,Wm]
end Go.Sx
end
