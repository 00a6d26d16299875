/- Part of the proof that the law RefuseLess returns true and leaves its arguments as they were, for all arguments of bulk at most 1048576 (the Upto form). -/
import Derived.Test.YtaikmgjfkejlkaaGreatF109
import Derived.Test.YtaikmgjfkejlkaaGreatF108
import Derived.Test.YtaikmgjfkejlkaaGreatF107
import Derived.Test.YtaikmgjfkejlkaaGreatF110
import Derived.Shelf.SlSortCmp.NoneTotal
import Derived.Ground.SlsfProg
import Derived.Test.YtaikmgjfkejlkaaGreatProg
set_option linter.all false
set_option maxHeartbeats 4000000
set_option maxRecDepth 100000
section
namespace Go.Sx
open Go.Proofs
open IntKind (i64)
variable {l0 l1:List Nat}{p:Prop}
theorem qT(a0:JL l0)(a1:JL l1)(h:JL l0->JL l1->p:=by intro ja jb;simp only[go_sem];all_goals exact gE ja jb):p:=h a0 a1
def iX (x:bl)(right:Bool)(fr:Bool)(to:Bool)(parts:Bool)(of_:Bool):Bool:=(((((right||(x.right==0))&&(fr||(x.since==0)))&&(to||(x.to==0)))&&(parts||((x.parts.length:Int) ==0)))&&(of_||(x.of_==0)))
@[go_sem] def Ke:List SV->Option Con:=(pD .x6 λx=>(pB λright=>(pB λfr=>(pB λto=>(pB λparts=>(pB λof_=>(pE (.det True (.v (.bool (iX x right fr to parts of_)))))))))))
theorem Hh:B1 Tryz.prog 253 Ke:=by
 have hG:=mG P0 P0;refine fN hG Tryz.f253 [.o] (av λx=>(Bb λright=>(Bb λfr=>(Bb λto=>(Bb λE=>(Bb λO=>(am (λU=>?_))))))));dsimp only[an]at U;refine⟨nbl rfl,L0,ag _,?_⟩;unfold ae Tryz.f253;try unfold iX
 exact zq2
def mD (d:ah)(x:bl):Bool:=(((((decide (x.right>=0))&&(decide (x.right< (d.al.length:Int))))&&((d.al.getD (Int.toNat x.right) default).kind==1))&&(decide (x.since>=0)))&&(decide (x.since< (d.u0.length:Int))))
def oR (d:ah)(x:bl):Prop:=(((decide (x.right>=0))&&(decide (x.right< (d.al.length:Int))))=true->(0<=x.right/\x.right< (d.al.length:Int)))
@[go_sem] def Ft:List SV->Option Con:=(pD .bh λd=>(pD .x6 λx=>(pE (.det (oR d x) (.v (.bool (mD d x)))))))
theorem C6:B1 Tryz.prog 254 Ft:=by
 have hG:=mG P0 P0;refine fN hG Tryz.f254 [.o] (av λd=>(av λx=>(am (λE=>?_))));dsimp only[an]at E;unfold oR at E;refine⟨nbl rfl,L0,ag _,?_⟩;unfold ae Tryz.f254;try unfold mD
 exact zq2
@[go_sem] def jV (a1:List Part)(S2:Nat)(k_1:Nat)(s_1:Unit):Unit⊕Unit:=(bif((a1.getD k_1 default).ee==(a1.getD S2 default).ee)then .inl ()else .inr ())
def pN (a1:List Part)(S2:Nat)(k_1:Nat)(s_1:Unit):Prop:=(0<=(k_1:Int)/\(k_1:Int) < (a1.length:Int))
@[go_sem] def l8 (a0:ah)(a1:List Part)(S2:Nat)(ly:Int×Int):Unit⊕(Int×Int):=letI q1:=a1.getD S2 default;letI q0:=sb ({ n:=ly.1,d:=ly.2}:G2) (q1.share);(bif((((decide (q1.ee<0)) ||(decide (q1.ee>=(a0.u0.length:Int)))) ||(!(ew (q1.share)))) ||(decide (q1.share.n<=0)))then .inl ()else(match aj (jV a1 S2) (Int.toNat (S2:Int)) 0 ()with| .inl apA=>.inl () | .inr s_1=>(bif(q0.2 !=0)then .inl ()else .inr ((q0.1).n,(q0.1).d))))
def pO (a0:ah)(a1:List Part)(S2:Nat)(ly:Int×Int):Prop:=letI q0:=a1.getD S2 default;letI q1:=decide (q0.ee>=(a0.u0.length:Int));letI q2:=jV a1 S2;letI q3:=Int.toNat (S2:Int);letI q4:=decide (q0.ee<0);(a1.length<=aK->(((q4||q1)=false->(iL (q0.share)))/\((((q4||q1) ||(!(ew (q0.share)))) ||(decide (q0.share.n<=0)))=false->(((S2:Int) <9223372036854775808)/\okI q2 (pN a1 S2) q3 0 ()/\(∀ s_1,aj q2 q3 0 ()=.inr s_1->(qM ({ n:=ly.1,d:=ly.2}:G2) (q0.share)))))))
def qU (a0:ah)(a1:List Part):Bool:=(bif((decide ((a1.length:Int) <1)) ||(decide ((a1.length:Int) > 16)))then false else(match aj (l8 a0 a1) a1.length 0 (0,1)with| .inl pq=>false| .inr ly=>(ly.1==ly.2)))
def qp (a0:ah)(a1:List Part):Prop:=(a1.length<=aK->(((decide ((a1.length:Int) <1)) ||(decide ((a1.length:Int) > 16)))=false->okI (l8 a0 a1) (pO a0 a1) a1.length 0 (0,1)))
@[go_sem] def Hi:List SV->Option Con:=(pD .bh λa0=>(pR .part λa1=>(pE (.det (qp a0 a1) (.v (.bool (qU a0 a1)))))))
theorem Fu:B1 Tryz.prog 255 Hi:=by
 have hG:=mG (cp oK (cp J8 P0)) P0;refine fN hG Tryz.f255 [.o] (av λa0=>(bN λa1=>(am (λhp=>?_))));dsimp only[an]at hp;unfold qp at hp;refine⟨nbl rfl,(λid st=>bif Nat.beq id 0 then some (LCR (ρ:=Unit) (σ:=(Int×Int)) 2 [] [0,1] (λE O=>⟨[(1,.rs .part a1),(2,.ptr 0 0),(5,.ptr 1 0),(6,.v (.int .i64 (E:Int)))],[.cells (cellsOf .bh a0),.cells [.v (.int .i64 O.1),.v (.int .i64 O.2)]]⟩) (l8 a0 a1) (pO a0 a1) a1.length (0,1) (True) (λ_=>.ret) (λY=>⟨[(4,.v (.bool false))],[.dead,.dead]⟩) st)else none),?_,?_⟩;unfold ae Tryz.f255;simp only[ak,true_and,and_true];refine eF (a1.length<=aK) mixed aD hG kr (λ_=>rfl) (a1.length:Int) rfl fM (λhb0 E O aqm W hw hc=>⟨(λid st=>bif Nat.beq id 2 then some (LCR (ρ:=Unit) (σ:=Unit) 3 [] [0,1,2] (λU V=>⟨[(1,.rs .part a1),(2,.ptr 0 0),(5,.ptr 1 0),(6,.v (.int .i64 (E:Int))),(7,.ptr 2 0),(8,.v (.int .i64 (U:Int)))],[.cells (cellsOf .bh a0),.cells [.v (.int .i64 O.1),.v (.int .i64 O.2)],.cells (cellsOf .part (a1.getD E (default:Part)))]⟩) (jV a1 E) (pN a1 E) (Int.toNat (E:Int)) () ((E:Int) <9223372036854775808) (λ_=>.ret) (λX=>⟨[(4,.v (.bool false))],[.dead,.dead,.dead]⟩) st)else none),?_,?_⟩) (λhb0 O hc=>?_) λhb0 E O=>?_;simp only[ak,true_and,and_true];refine bZ mixed aD hG kr (λ_=>rfl) (E:Int) rfl id (λhb1 U V aqc hq1 hw hc=>⟨L0,ag _,?_⟩) (λhb1 V hc=>?_);unfold pN at hq1;try simp only[hw,alv]at hq1
 exact bG (jl [0,1,2]);exact bH (jl [0,1,2]);unfold pO at W;try simp only[hw,alv]at W
 exact bG (jl [0,1]);exact bH (jl [0,1]);exact zq8;unfold ae Tryz.f255;try unfold qU
 exact zq2
@[go_sem] def sR (l_:List bl)(of_:Int)(S2:Nat)(ly:Unit):Int⊕Unit:=(bif(((l_.getD S2 default).no==of_)&&((l_.getD S2 default).kind !=4))then .inl (S2:Int)else .inr ())
def l9 (l_:List bl)(of_:Int):Int:=(match aj (sR l_ of_) l_.length 0 ()with| .inl pq=>pq| .inr ly=>(-1))
@[go_sem] def Hj:List SV->Option Con:=(pR .x6 λl_=>(pI λof_=>(pE (.det True (.v (.int .i64 (l9 l_ of_)))))))
theorem Fv:B1 Tryz.prog 256 Hj:=by
 have hG:=mG P0 P0;refine fN hG Tryz.f256 [.o] (bN λW=>(ay λV=>(am (λY=>?_))));dsimp only[an]at Y;refine⟨nbl rfl,(λid st=>bif Nat.beq id 0 then some (LCR (ρ:=Int) (σ:=Unit) 0 [] [] (λO U=>⟨[(0,.rs .x6 W),(1,.v (.int .i64 V)),(5,.v (.int .i64 (O:Int)))],[]⟩) (sR W V) pT W.length () (True) (λ_=>.ret) (λE=>⟨[(4,.v (.int .i64 E))],[]⟩) st)else none),?_,?_⟩;unfold ae Tryz.f256;simp only[ak,true_and,and_true];refine eF (W.length<=aK) mixed aD hG kr (λ_=>rfl) (W.length:Int) rfl fM (λhb0 O U X _ hw hc=>⟨L0,ag _,?_⟩) (λhb0 U hc=>?_) λhb0 O U=>?_;exact bG (jl []);exact bH (jl []);exact zq8;unfold ae Tryz.f256;try unfold l9
 exact zq2
def qV (a0:ah)(a1:List bl)(a2:bl):Bool:=letI q0:=mD a0 a2;letI q1:=l9 a1 a2.of_;(bif((((((decide (a2.no<0)) ||(decide (a2.no > 1048576))) ||(decide (a2.at_<0))) ||(decide (a2.at_ > 4096))) ||(decide (a2.known<0))) ||(decide (a2.known > 1048576)))then false else(bif(a2.kind==1)then(((((iX a2 true true true false false)&&q0)&&(decide (a2.to>=0)))&&(decide (a2.to< (a0.u0.length:Int))))&&(a2.to !=a2.since))else(bif(a2.kind==2)then(((iX a2 true true false true false)&&q0)&&(qU a0 a2.parts))else(bif(a2.kind==3)then((iX a2 true true false false false)&&q0)else(bif(a2.kind==4)then(((iX a2 false false false false true)&&(decide (q1>=0)))&&(decide (a2.known>=(a1.getD (Int.toNat q1) default).known)))else false)))))
def qq (a0:ah)(a1:List bl)(a2:bl):Prop:=letI q0:=l9 a1 a2.of_;letI q1:=oR a0 a2;letI q2:=iX a2 true true false true false;(((((((decide (a2.no<0)) ||(decide (a2.no > 1048576))) ||(decide (a2.at_<0))) ||(decide (a2.at_ > 4096))) ||(decide (a2.known<0))) ||(decide (a2.known > 1048576)))=false->(((a2.kind==1)=true->((iX a2 true true true false false)=true->q1))/\((a2.kind==1)=false->(((a2.kind==2)=true->((q2=true->q1)/\((q2&&(mD a0 a2))=true->(qp a0 a2.parts))))/\((a2.kind==2)=false->(((a2.kind==3)=true->((iX a2 true true false false false)=true->q1))/\((a2.kind==3)=false->((a2.kind==4)=true->(((iX a2 false false false false true)&&(decide (q0>=0)))=true->(0<=q0/\q0< (a1.length:Int)))))))))))
@[go_sem] def Hk:List SV->Option Con:=(pD .bh λa0=>(pR .x6 λa1=>(pD .x6 λa2=>(pE (.det (qq a0 a1 a2) (.v (.bool (qV a0 a1 a2))))))))
theorem Fx:B1 Tryz.prog 184 Hk:=by
 have hG:=mG (cn [.st .x6,.o,.o,.o,.o,.o] Hh (cn [.st .bh,.st .x6] C6 (cn [.st .bh,.sl .part] Fu (cn [.sl .x6,.o] Fv P0)))) P0;refine fN hG Tryz.f184 [.o] (av λa0=>(bN λa1=>(av λO=>(am (λE=>?_)))));dsimp only[an]at E;unfold qq at E;refine⟨nbl rfl,L0,ag _,?_⟩;unfold ae Tryz.f184;try unfold qV
 exact zq2
@[go_sem] def kT (l_:List bl)(S2:Nat)(ly:Unit):Unit⊕Unit:=(bif(decide ((((l_.getD S2 default).parts).length:Int) > 16))then .inl ()else .inr ())
def pP (l_:List bl):Bool:=(bif(decide ((l_.length:Int) > 512))then true else(match aj (kT l_) l_.length 0 ()with| .inl pq=>true| .inr ly=>false))
@[go_sem] def Kf:List SV->Option Con:=(pR .x6 λl_=>(pE (.det True (.v (.bool (pP l_))))))
theorem Hl:B1 Tryz.prog 183 Kf:=by
 have hG:=mG P0 P0;refine fN hG Tryz.f183 [.o] (bN λU=>(am (λX=>?_)));dsimp only[an]at X;refine⟨nbl rfl,(λid st=>bif Nat.beq id 0 then some (LCR (ρ:=Unit) (σ:=Unit) 0 [] [] (λE O=>⟨[(0,.rs .x6 U),(3,.v (.int .i64 (E:Int)))],[]⟩) (kT U) pT U.length () (True) (λ_=>.ret) (λV=>⟨[(2,.v (.bool true))],[]⟩) st)else none),?_,?_⟩;unfold ae Tryz.f183;simp only[ak,true_and,and_true];refine eF (U.length<=aK) mixed aD hG kr (λ_=>rfl) (U.length:Int) rfl fM (λhb0 E O W _ hw hc=>⟨L0,ag _,?_⟩) (λhb0 O hc=>?_) λhb0 E O=>?_;exact bG (jl []);exact bH (jl []);exact zq8;unfold ae Tryz.f183;try unfold pP
 exact zq2
@[go_sem] def ma (d:ah)(l_:List bl)(S2:Nat)(ly:Unit):Unit⊕Unit:=(bif(((decide ((S2:Int) > 0))&&(decide ((l_.getD S2 default).no<=(l_.getD (Int.toNat (i64.wrap ((S2:Int) - 1))) default).no))) ||(!(qV d ((l_.take S2).drop 0) (l_.getD S2 default))))then .inl ()else .inr ())
def pY (d:ah)(l_:List bl)(S2:Nat)(ly:Unit):Prop:=letI q2:=(S2:Int);letI q1:=i64.wrap (q2 - 1);letI q3:=l_.getD S2 default;letI q0:=(decide (q2 > 0))&&(decide (q3.no<=(l_.getD (Int.toNat q1) default).no));(l_.length<=aK->(((decide (q2 > 0))=true->(0<=q1/\q1< (l_.length:Int)))/\((q0=false->(0<=0/\0<=q2/\q2<=(l_.length:Int)))/\(q0=false->(qq d ((l_.take S2).drop 0) q3)))))
def ka (d:ah)(l_:List bl):Int:=(bif((lY d) !=0)then(lY d)else(bif(pP l_)then 2 else(match aj (ma d l_) l_.length 0 ()with| .inl pq=>250| .inr ly=>0)))
def nf (d:ah)(l_:List bl):Prop:=((ql d)/\(((lY d) !=0)=false->((pP l_)=false->okI (ma d l_) (pY d l_) l_.length 0 ())))
@[go_sem] def Hm:List SV->Option Con:=(pD .bh λd=>(pR .x6 λl_=>(pE (.det (nf d l_) (.v (.int .i64 (ka d l_)))))))
theorem xa:B1 Tryz.prog 126 Hm:=by
 have hG:=mG (cn [.st .bh] E9 (cn [.sl .x6] Hl (cn [.st .bh,.sl .x6,.st .x6] Fx P0))) P0;refine fN hG Tryz.f126 [.o] (av λd=>(bN λU=>(am (λY=>?_))));dsimp only[an]at Y;unfold nf at Y;refine⟨nbl rfl,(λid st=>bif Nat.beq id 0 then some (LCR (ρ:=Unit) (σ:=Unit) 1 [] [0] (λE O=>⟨[(1,.rs .x6 U),(2,.ptr 0 0),(6,.v (.int .i64 (E:Int)))],[.cells (cellsOf .bh d)]⟩) (ma d U) (pY d U) U.length () (True) (λ_=>.ret) (λW=>⟨[(4,.v (.int .i64 250))],[.dead]⟩) st)else none),?_,?_⟩;unfold ae Tryz.f126;simp only[ak,true_and,and_true];refine eF (U.length<=aK) mixed aD hG kr (λ_=>rfl) (U.length:Int) rfl fM (λhb0 E O X V hw hc=>⟨L0,ag _,?_⟩) (λhb0 O hc=>?_) λhb0 E O=>?_;unfold pY at V;try simp only[hw,alv]at V
 exact bG (jl [0]);exact bH (jl [0]);exact zq8;unfold ae Tryz.f126;try unfold ka
 exact zq2
@[go_sem] def kU (l_:List bl)(x:bl)(known:Int)(S2:Nat)(ly:Unit):Unit⊕Unit:=(bif((((l_.getD S2 default).kind==4)&&((l_.getD S2 default).of_==x.no))&&(decide ((l_.getD S2 default).known<=known)))then .inl ()else .inr ())
def pZ (l_:List bl)(x:bl)(known:Int):Bool:=(match aj (kU l_ x known) l_.length 0 ()with| .inl pq=>true| .inr ly=>false)
@[go_sem] def Kg:List SV->Option Con:=(pR .x6 λl_=>(pD .x6 λx=>(pI λknown=>(pE (.det True (.v (.bool (pZ l_ x known))))))))
theorem Hn:B1 Tryz.prog 257 Kg:=by
 have hG:=mG P0 P0;refine fN hG Tryz.f257 [.o] (bN λU=>(av λx=>(ay λknown=>(am (λX=>?_)))));dsimp only[an]at X;refine⟨nbl rfl,(λid st=>bif Nat.beq id 0 then some (LCR (ρ:=Unit) (σ:=Unit) 1 [] [0] (λE O=>⟨[(0,.rs .x6 U),(2,.v (.int .i64 known)),(4,.ptr 0 0),(7,.v (.int .i64 (E:Int)))],[.cells (cellsOf .x6 x)]⟩) (kU U x known) pT U.length () (True) (λ_=>.ret) (λV=>⟨[(6,.v (.bool true))],[.dead]⟩) st)else none),?_,?_⟩;unfold ae Tryz.f257;simp only[ak,true_and,and_true];refine eF (U.length<=aK) mixed aD hG kr (λ_=>rfl) (U.length:Int) rfl fM (λhb0 E O W _ hw hc=>⟨L0,ag _,?_⟩) (λhb0 O hc=>?_) λhb0 E O=>?_;exact bG (jl [0]);exact bH (jl [0]);exact zq8;unfold ae Tryz.f257;try unfold pZ
 exact zq2
@[go_sem] def io (l_:List bl)(known:Int)(ly:List bl×Int)(k_1:Nat)(s_1:List bl):Empty⊕(List bl):=(bif(((((l_.getD k_1 default).at_==ly.2)&&((l_.getD k_1 default).kind !=4))&&(decide ((l_.getD k_1 default).known<=known)))&&(!(pZ l_ (l_.getD k_1 default) known)))then .inr (s_1++([(l_.getD k_1 default)]))else .inr s_1)
def mR (l_:List bl)(known:Int)(ly:List bl×Int)(k_1:Nat)(s_1:List bl):Prop:=letI q0:=l_.getD k_1 default;(l_.length<=aK->(((((q0.at_==ly.2)&&(q0.kind !=4))&&(decide (q0.known<=known)))&&(!(pZ l_ q0 known)))=true->((s_1++([q0])).length*88<=d9)))
@[go_sem] def gf (l_:List bl)(hour:Int)(known:Int)(S2:Nat)(ly:List bl×Int):(List bl)⊕(List bl×Int):=(bif((decide (ly.2<=4096))&&(decide (ly.2<=hour)))then(match aj (io l_ known ly) l_.length 0 ly.1 with| .inl x=>x.elim| .inr s_1=>.inr (s_1,(i64.wrap (ly.2+1))))else .inl ly.1)
def iB (l_:List bl)(hour:Int)(known:Int)(S2:Nat)(ly:List bl×Int):Prop:=(((decide (ly.2<=4096))&&(decide (ly.2<=hour)))=true->okI (io l_ known ly) (mR l_ known ly) l_.length 0 ly.1)
def dw (l_:List bl)(hour:Int)(known:Int):List bl:=(match aj (gf l_ hour known) (Int.toNat hour+2) 0 ([],0)with| .inl pq=>pq| .inr ly=>default)
def jW (l_:List bl)(hour:Int)(known:Int):Prop:=(okI (gf l_ hour known) (iB l_ hour known) (Int.toNat hour+2) 0 ([],0)/\(∀ z_,aj (gf l_ hour known) (Int.toNat hour+2) 0 ([],0)≠ .inr z_))
@[go_sem] def Bx:List SV->Option Con:=(pR .x6 λl_=>(pI λhour=>(pI λknown=>(pE (.det (jW l_ hour known) (.nw .x6 (dw l_ hour known)))))))
theorem Al:B1 Tryz.prog 185 Bx:=by
 have hG:=mG (cn [.sl .x6,.st .x6,.o] Hn P0) P0;refine fW hG Tryz.f185 [(.tmp 6,.x6)] (bN λO=>(ay λhour=>(ay λknown=>(am (λhp=>?_)))));dsimp only[an]at hp;unfold jW at hp;refine⟨nbl rfl,(λid st=>bif Nat.beq id 0 then some (LCV (ρ:=(List bl)) (σ:=(List bl×Int)) 0 [.slot 7 (.row .x6 ([]))] [0] (λY E=>⟨[(0,.rs .x6 O),(1,.v (.int .i64 hour)),(2,.v (.int .i64 known)),(7,.os 0),(8,.v (.int .i64 E.2))],[.row .x6 E.1]⟩) (gf O hour known) (iB O hour known) (Int.toNat hour+2) ([],0) (λ_=>.normal) (λW=>⟨[(7,.os 0)],[.row .x6 W]⟩) st)else none),?_,?_⟩;unfold ae Tryz.f185;simp only[ak,true_and,and_true];refine eQ mixed aD hG kr (λ_=>rfl) λY E X=>⟨(λid st=>bif Nat.beq id 2 then some (LCR (ρ:=Empty) (σ:=(List bl)) 1 [] [0,0] (λV U=>⟨[(0,.rs .x6 O),(1,.v (.int .i64 hour)),(2,.v (.int .i64 known)),(7,.os 1),(8,.v (.int .i64 E.2)),(9,.v (.int .i64 (V:Int)))],[.dead,.row .x6 U]⟩) (io O known E) (mR O known E) O.length E.1 (True) ((·.elim)) ((·.elim)) st)else none),?_,?_⟩;simp only[ak,true_and,and_true];refine eF (O.length<=aK) mixed aD hG kr (λ_=>rfl) (O.length:Int) rfl fM (λhb1 V U aqc hq1 hw hc=>⟨L0,ag _,?_⟩) (λhb1 U hc=>?_) λhb1 V U=>?_;unfold mR at hq1;try simp only[hw,alv]at hq1
 exact sM (jl [0,4]) (jl [0,1]);exact sN (jl [0,4]) (jl [0,1]);exact OL;unfold iB at X;exact qT (jl [1]) (jl [0]);unfold ae Tryz.f185;try unfold dw
 exact zq2
theorem Mz(a0:JL l0)(a1:JL l1)(h:JL l0->JL l1->p:=by intro ja jb;(first|done|(repeat' (first|with_reducible refine And.intro ?_ ?_|((with_reducible show _≠_);first|assumption|omega|(simp_all [cq,eo];done) |grind) |with_reducible intro _)) <;>(first|done|with_reducible exact Empty.elim ‹Empty› |with_reducible assumption|rfl|omega|assumption|decide|exact fk ja|exact fk jb|(simp only[*,cond_true,cond_false,alN,alZ,go_sem];done) |(simp only[*,cond_true,cond_false,alN,alZ,go_sem];(repeat' (first|with_reducible refine And.intro ?_ ?_|((with_reducible show _≠_);first|assumption|omega|(simp_all [cq,eo];done) |grind) |with_reducible intro _)) <;>(first|done|assumption|rfl|omega|decide|exact fk ja|exact fk jb|(simp_all [cq,eo];done))) |(simp_all [okI,cq,eo];done) |(simp_all [cq,eo];(first|done|exact fk2 ja|exact fk2 jb)) |exact fk2 ja|exact fk2 jb|(simp_all only[cq,eo,cond_true,cond_false];(first|done|exact fk ja|exact fk jb|exact fk2 ja|exact fk2 jb|(simp only[go_sem];((repeat' (first|with_reducible refine And.intro ?_ ?_|((with_reducible show _≠_);first|assumption|omega|(simp_all [cq,eo];done) |grind) |with_reducible intro _)) <;>(first|done|rfl|exact fk ja|exact fk jb|exact fk2 ja|exact fk2 jb)))))))):p:=h a0 a1
theorem MA(a0:JL l0)(h:JL l0->p:=by intro ja;(first|done|(repeat' (first|with_reducible refine And.intro ?_ ?_|((with_reducible show _≠_);first|assumption|omega|(simp_all [cq,eo];done) |grind) |with_reducible intro _)) <;>(first|done|with_reducible exact Empty.elim ‹Empty› |with_reducible assumption|rfl|omega|assumption|decide|exact fk ja|(simp only[*,cond_true,cond_false,alN,alZ,go_sem];done) |(simp only[*,cond_true,cond_false,alN,alZ,go_sem];(repeat' (first|with_reducible refine And.intro ?_ ?_|((with_reducible show _≠_);first|assumption|omega|(simp_all [cq,eo];done) |grind) |with_reducible intro _)) <;>(first|done|assumption|rfl|omega|decide|exact fk ja|(simp_all [cq,eo];done))) |(simp_all [okI,cq,eo];done) |(simp_all [cq,eo];(first|done|exact fk2 ja)) |exact fk2 ja|(simp_all only[cq,eo,cond_true,cond_false];(first|done|exact fk ja|exact fk2 ja|(simp only[go_sem];((repeat' (first|with_reducible refine And.intro ?_ ?_|((with_reducible show _≠_);first|assumption|omega|(simp_all [cq,eo];done) |grind) |with_reducible intro _)) <;>(first|done|rfl|exact fk ja|exact fk2 ja)))))))):p:=h a0
theorem Fy(a0:JL l0)(a1:JL l1)(h:JL l0->JL l1->p:=by intro ja jb;simp only[go_sem,hc,hw];all_goals exact Mz ja jb):p:=h a0 a1
theorem Fz(a0:JL l0)(a1:JL l1)(h:JL l0->JL l1->p:=by intro ja jb;simp only[go_sem,hc];all_goals exact Mz ja jb):p:=h a0 a1
theorem MB(a0:JL l0)(h:JL l0->p:=by intro ja;simp only[go_sem,hc,hw];all_goals exact MA ja):p:=h a0
theorem MC(a0:JL l0)(h:JL l0->p:=by intro ja;simp only[go_sem,hc];all_goals exact MA ja):p:=h a0
@[go_sem] def et (a1:List bl)(S2:Nat)(ly:List Int×List Int)(k_1:Nat)(s_1:List Int×Int):Empty⊕(List Int×Int):=letI q3:=a1.getD S2 default;letI q0:=(q3.parts).getD k_1 default;letI q1:=gA (q0.share) (ly.2.getD (Int.toNat (q3.since)) 0);letI q2:=Int.toNat (q0.ee);.inr ((s_1.1.set q2 (i64.wrap ((s_1.1.getD q2 0)+q1.1))),(i64.wrap (s_1.2 - q1.1)))
def ll (a1:List bl)(S2:Nat)(ly:List Int×List Int)(k_1:Nat)(s_1:List Int×Int):Prop:=letI q2:=a1.getD S2 default;letI q0:=(q2.parts).getD k_1 default;letI q1:=0<=q0.ee/\q0.ee< (s_1.1.length:Int);((q2.parts).length<=aK->((na (q0.share) (ly.2.getD (Int.toNat (q2.since)) 0))/\(q1/\q1)))
@[go_sem] def nI (a1:List bl)(S2:Nat)(s_1:List Int×Int)(k_2:Nat)(s_2:List Int):Empty⊕(List Int):=.inr (s_2.set (Int.toNat ((((a1.getD S2 default).parts).getD k_2 default).ee)) (i64.wrap ((s_2.getD (Int.toNat ((((a1.getD S2 default).parts).getD k_2 default).ee)) 0)+1)))
def lm (a1:List bl)(S2:Nat)(s_1:List Int×Int)(k_2:Nat)(s_2:List Int):Prop:=letI q2:=(a1.getD S2 default).parts;letI q0:=q2.getD k_2 default;letI q1:=0<=q0.ee/\q0.ee< (s_2.length:Int);((0<=(k_2:Int)/\(k_2:Int) < (q2.length:Int))/\(q1/\q1))
@[go_sem] def iw (a1:List bl)(a2:Int)(S2:Nat)(ly:List Int×List Int):Empty⊕(List Int×List Int):=letI q1:=a1.getD S2 default;letI q2:=Int.toNat (q1.since);letI q3:=ly.2.getD q2 0;letI q4:=ly.2.set q2 0;letI q5:=Int.toNat (q1.to);letI q0:=bif(q1.kind==1)then(q4.set q5 (i64.wrap ((q4.getD q5 0)+q3)))else q4;(bif(q1.right !=a2)then .inr (ly.1,ly.2)else(bif(q3==0)then .inr ((ly.1++([q1.no])),ly.2)else(bif(q1.kind==2)then(match aj (et a1 S2 ly) ((q1.parts).length) 0 (q0,q3)with| .inl x=>x.elim| .inr s_1=>(match aj (nI a1 S2 s_1) (Int.toNat s_1.2) 0 s_1.1 with| .inl x=>x.elim| .inr s_2=>.inr (ly.1,s_2)))else .inr (ly.1,q0))))
def ip (a1:List bl)(a2:Int)(S2:Nat)(ly:List Int×List Int):Prop:=letI q0:=a1.getD S2 default;letI q2:=Int.toNat (q0.since);letI q3:=ly.2.set q2 0;letI q4:=0<=q0.since/\q0.since< (ly.2.length:Int);letI q5:=ly.2.getD q2 0;letI q6:=0<=q0.to/\q0.to< (q3.length:Int);letI q7:=et a1 S2 ly;letI q8:=(q0.parts).length;letI q9:=Int.toNat (q0.to);letI q1:=((bif(q0.kind==1)then(q3.set q9 (i64.wrap ((q3.getD q9 0)+q5)))else q3),q5);(a1.length<=aK->((q0.right !=a2)=false->(q4/\(((q5==0)=true->((ly.1++([q0.no])).length*8<=d9))/\((q5==0)=false->(q4/\(((q0.kind==1)=true->(q6/\q6))/\((q0.kind==2)=true->(okI q7 (ll a1 S2 ly) q8 0 q1/\(∀ s_1,aj q7 q8 0 q1=.inr s_1->((s_1.2<9223372036854775808)/\okI (nI a1 S2 s_1) (lm a1 S2 s_1) (Int.toNat s_1.2) 0 s_1.1)))))))))))
def eJ (a0:ah)(a1:List bl)(a2:Int):List Int×List Int:=letI q0:=a0.al.getD (Int.toNat a2) default;(match aj (iw a1 a2) a1.length 0 ([],((List.replicate (Int.toNat (a0.u0.length:Int)) (0:Int)).set (Int.toNat (q0.ee)) q0.dd))with| .inl x=>x.elim| .inr ly=>(ly.2,ly.1))
def oS (a0:ah)(a1:List bl)(a2:Int):Prop:=letI q0:=(a0.u0.length:Int);letI q1:=a0.al.getD (Int.toNat a2) default;letI q2:=List.replicate (Int.toNat q0) (0:Int);letI q3:=0<=a2/\a2< (a0.al.length:Int);(a0.u0.length<=aK->((q0=q0/\0<=q0/\q0*((8:Nat):Int)<=((d9:Nat):Int))/\(q0<=((aK:Nat):Int)->(q3/\(q3/\((0<=q1.ee/\q1.ee< (q2.length:Int))/\okI (iw a1 a2) (ip a1 a2) a1.length 0 ([],(q2.set (Int.toNat (q1.ee)) q1.dd))))))))
@[go_sem] def FA:List SV->Option Con:=(pD .bh λa0=>(pR .x6 λa1=>(pI λa2=>(pE (.det (oS a0 a1 a2) (.tup [.nw .int ((eJ a0 a1 a2).1),.nw .int ((eJ a0 a1 a2).2)]))))))
theorem C7:B1 Tryz.prog 186 FA:=by
 have hG:=mG (cp E3 P0) P0;refine fW hG Tryz.f186 [(.tmp 6,.int),(.tmp 7,.int)] (av λa0=>(bN λa1=>(ay λV=>(am (λhp=>?_)))));dsimp only[an]at hp;unfold oS at hp;refine⟨nbl rfl,(λid st=>bif Nat.beq id 0 then some (LCR (ρ:=Empty) (σ:=(List Int×List Int)) 2 [.slot 9 (.row .int ([]))] [0,1,2] (λE O=>⟨[(1,.rs .x6 a1),(2,.v (.int .i64 V)),(8,.os 1),(9,.os 2),(10,.v (.int .i64 (E:Int)))],[.dead,.row .int O.2,.row .int O.1]⟩) (iw a1 V) (ip a1 V) a1.length ([],((List.replicate (Int.toNat (a0.u0.length:Int)) (0:Int)).set (Int.toNat ((a0.al.getD (Int.toNat V) (default:ape)).ee)) (a0.al.getD (Int.toNat V) (default:ape)).dd)) (True) ((·.elim)) ((·.elim)) st)else none),?_,?_⟩;unfold ae Tryz.f186;simp only[ak,true_and,and_true];refine eF (a1.length<=aK) mixed aD hG kr (λ_=>rfl) (a1.length:Int) rfl fM (λhb0 E O aqm hq0 hw hc=>⟨(λid st=>bif Nat.beq id 1000069 then some (JC (⟨[(1,.rs .x6 a1),(2,.v (.int .i64 V)),(8,.os 1),(9,.os 2),(10,.v (.int .i64 (E:Int))),(11,.ptr 3 0),(12,.v (.int .i64 (O.2.getD (Int.toNat ((a1.getD E (default:bl)).since)) (0:Int))))],[.dead,.row .int (bif((a1.getD E (default:bl)).kind==1)then((O.2.set (Int.toNat ((a1.getD E (default:bl)).since)) 0).set (Int.toNat ((a1.getD E (default:bl)).to)) (i64.wrap (((O.2.set (Int.toNat ((a1.getD E (default:bl)).since)) 0).getD (Int.toNat ((a1.getD E (default:bl)).to)) (0:Int))+(O.2.getD (Int.toNat ((a1.getD E (default:bl)).since)) (0:Int)))))else(O.2.set (Int.toNat ((a1.getD E (default:bl)).since)) 0)),.row .int O.1,.cells (cellsOf .x6 (a1.getD E (default:bl)))]⟩))else bif Nat.beq id 2 then some (LCR (ρ:=Empty) (σ:=(List Int×Int)) 4 [] [0,1,2,3] (λX U=>⟨[(1,.rs .x6 a1),(2,.v (.int .i64 V)),(8,.os 1),(9,.os 2),(10,.v (.int .i64 (E:Int))),(11,.ptr 3 0),(12,.v (.int .i64 (O.2.getD (Int.toNat ((a1.getD E (default:bl)).since)) (0:Int)))),(13,.v (.int .i64 U.2)),(14,.v (.int .i64 (X:Int)))],[.dead,.row .int U.1,.row .int O.1,.cells (cellsOf .x6 (a1.getD E (default:bl)))]⟩) (et a1 E O) (ll a1 E O) (((a1.getD E (default:bl)).parts).length) ((bif((a1.getD E (default:bl)).kind==1)then((O.2.set (Int.toNat ((a1.getD E (default:bl)).since)) 0).set (Int.toNat ((a1.getD E (default:bl)).to)) (i64.wrap (((O.2.set (Int.toNat ((a1.getD E (default:bl)).since)) 0).getD (Int.toNat ((a1.getD E (default:bl)).to)) (0:Int))+(O.2.getD (Int.toNat ((a1.getD E (default:bl)).since)) (0:Int)))))else(O.2.set (Int.toNat ((a1.getD E (default:bl)).since)) 0)),(O.2.getD (Int.toNat ((a1.getD E (default:bl)).since)) (0:Int))) (True) ((·.elim)) ((·.elim)) st)else bif Nat.beq id 4 then some (LCR (ρ:=Empty) (σ:=(List Int)) 4 [] [0,1,2,3] (λY W=>⟨[(1,.rs .x6 a1),(2,.v (.int .i64 V)),(8,.os 1),(9,.os 2),(10,.v (.int .i64 (E:Int))),(11,.ptr 3 0),(13,.v (.int .i64 (cq (aj (et a1 E O) (((a1.getD E (default:bl)).parts).length) 0 ((bif((a1.getD E (default:bl)).kind==1)then((O.2.set (Int.toNat ((a1.getD E (default:bl)).since)) 0).set (Int.toNat ((a1.getD E (default:bl)).to)) (i64.wrap (((O.2.set (Int.toNat ((a1.getD E (default:bl)).since)) 0).getD (Int.toNat ((a1.getD E (default:bl)).to)) (0:Int))+(O.2.getD (Int.toNat ((a1.getD E (default:bl)).since)) (0:Int)))))else(O.2.set (Int.toNat ((a1.getD E (default:bl)).since)) 0)),(O.2.getD (Int.toNat ((a1.getD E (default:bl)).since)) (0:Int))))).2)),(18,.v (.int .i64 (Y:Int)))],[.dead,.row .int W,.row .int O.1,.cells (cellsOf .x6 (a1.getD E (default:bl)))]⟩) (nI a1 E (cq (aj (et a1 E O) (((a1.getD E (default:bl)).parts).length) 0 ((bif((a1.getD E (default:bl)).kind==1)then((O.2.set (Int.toNat ((a1.getD E (default:bl)).since)) 0).set (Int.toNat ((a1.getD E (default:bl)).to)) (i64.wrap (((O.2.set (Int.toNat ((a1.getD E (default:bl)).since)) 0).getD (Int.toNat ((a1.getD E (default:bl)).to)) (0:Int))+(O.2.getD (Int.toNat ((a1.getD E (default:bl)).since)) (0:Int)))))else(O.2.set (Int.toNat ((a1.getD E (default:bl)).since)) 0)),(O.2.getD (Int.toNat ((a1.getD E (default:bl)).since)) (0:Int)))))) (lm a1 E (cq (aj (et a1 E O) (((a1.getD E (default:bl)).parts).length) 0 ((bif((a1.getD E (default:bl)).kind==1)then((O.2.set (Int.toNat ((a1.getD E (default:bl)).since)) 0).set (Int.toNat ((a1.getD E (default:bl)).to)) (i64.wrap (((O.2.set (Int.toNat ((a1.getD E (default:bl)).since)) 0).getD (Int.toNat ((a1.getD E (default:bl)).to)) (0:Int))+(O.2.getD (Int.toNat ((a1.getD E (default:bl)).since)) (0:Int)))))else(O.2.set (Int.toNat ((a1.getD E (default:bl)).since)) 0)),(O.2.getD (Int.toNat ((a1.getD E (default:bl)).since)) (0:Int)))))) (Int.toNat (cq (aj (et a1 E O) (((a1.getD E (default:bl)).parts).length) 0 ((bif((a1.getD E (default:bl)).kind==1)then((O.2.set (Int.toNat ((a1.getD E (default:bl)).since)) 0).set (Int.toNat ((a1.getD E (default:bl)).to)) (i64.wrap (((O.2.set (Int.toNat ((a1.getD E (default:bl)).since)) 0).getD (Int.toNat ((a1.getD E (default:bl)).to)) (0:Int))+(O.2.getD (Int.toNat ((a1.getD E (default:bl)).since)) (0:Int)))))else(O.2.set (Int.toNat ((a1.getD E (default:bl)).since)) 0)),(O.2.getD (Int.toNat ((a1.getD E (default:bl)).since)) (0:Int))))).2) ((cq (aj (et a1 E O) (((a1.getD E (default:bl)).parts).length) 0 ((bif((a1.getD E (default:bl)).kind==1)then((O.2.set (Int.toNat ((a1.getD E (default:bl)).since)) 0).set (Int.toNat ((a1.getD E (default:bl)).to)) (i64.wrap (((O.2.set (Int.toNat ((a1.getD E (default:bl)).since)) 0).getD (Int.toNat ((a1.getD E (default:bl)).to)) (0:Int))+(O.2.getD (Int.toNat ((a1.getD E (default:bl)).since)) (0:Int)))))else(O.2.set (Int.toNat ((a1.getD E (default:bl)).since)) 0)),(O.2.getD (Int.toNat ((a1.getD E (default:bl)).since)) (0:Int))))).1) ((cq (aj (et a1 E O) (((a1.getD E (default:bl)).parts).length) 0 ((bif((a1.getD E (default:bl)).kind==1)then((O.2.set (Int.toNat ((a1.getD E (default:bl)).since)) 0).set (Int.toNat ((a1.getD E (default:bl)).to)) (i64.wrap (((O.2.set (Int.toNat ((a1.getD E (default:bl)).since)) 0).getD (Int.toNat ((a1.getD E (default:bl)).to)) (0:Int))+(O.2.getD (Int.toNat ((a1.getD E (default:bl)).since)) (0:Int)))))else(O.2.set (Int.toNat ((a1.getD E (default:bl)).since)) 0)),(O.2.getD (Int.toNat ((a1.getD E (default:bl)).since)) (0:Int))))).2<9223372036854775808) ((·.elim)) ((·.elim)) st)else none),?_,?_⟩) (λhb0 O hc=>?_) λhb0 E O=>?_;simp only[ak,true_and,and_true];refine⟨?_,?_⟩;refine eF (((a1.getD E (default:bl)).parts).length<=aK) mixed aD hG kr (λ_=>rfl) (((a1.getD E (default:bl)).parts).length:Int) rfl fM (λhb1 X U aqc hq1 hw hc=>⟨L0,ag _,?_⟩) (λhb1 U hc=>?_) λhb1 X U=>?_;unfold ll at hq1;try simp only[hw,alv]at hq1
 exact MB (jl [0,1,2,3]);exact MC (jl [0,1,2,3]);exact OL;refine bZ mixed aD hG kr (λ_=>rfl) ((cq (aj (et a1 E O) (((a1.getD E (default:bl)).parts).length) 0 ((bif((a1.getD E (default:bl)).kind==1)then((O.2.set (Int.toNat ((a1.getD E (default:bl)).since)) 0).set (Int.toNat ((a1.getD E (default:bl)).to)) (i64.wrap (((O.2.set (Int.toNat ((a1.getD E (default:bl)).since)) 0).getD (Int.toNat ((a1.getD E (default:bl)).to)) (0:Int))+(O.2.getD (Int.toNat ((a1.getD E (default:bl)).since)) (0:Int)))))else(O.2.set (Int.toNat ((a1.getD E (default:bl)).since)) 0)),(O.2.getD (Int.toNat ((a1.getD E (default:bl)).since)) (0:Int))))).2) rfl id (λhb2 Y W hlt2 hq2 hw hc=>⟨L0,ag _,?_⟩) (λhb2 W hc=>?_);unfold lm at hq2;try simp only[hw,alv]at hq2
 exact MB (jl [0,1,2,3]);exact MC (jl [0,1,2,3]);unfold ip at hq0;try simp only[hw,alv]at hq0
 exact Fy (jl [0,1,2]) (jl [0,1,5]);exact Fz (jl [0,1,2]) (jl [0,1,5]);exact zq8;unfold ae Tryz.f186;try unfold eJ
 exact zq2
@[go_sem] def oe (a0:ah)(a1:List bl)(a2:Int)(a3:Int)(S2:Nat)(k_1:Nat)(s_1:List aoS):Empty⊕(List aoS):=letI q0:=((eJ a0 (dw a1 a2 a3) (S2:Int)).1).getD k_1 0;(bif(decide (q0 > 0))then .inr (s_1++([({ right:=(S2:Int),ee:=(k_1:Int),dd:=q0,aoX:=(a0.al.getD S2 default).aoX}:aoS)]))else .inr s_1)
def nh (a0:ah)(a1:List bl)(a2:Int)(a3:Int)(S2:Nat)(k_1:Nat)(s_1:List aoS):Prop:=letI q0:=(eJ a0 (dw a1 a2 a3) (S2:Int)).1;(q0.length<=aK->((decide ((q0.getD k_1 0) > 0))=true->((s_1++([({ right:=(S2:Int),ee:=(k_1:Int),dd:=(q0.getD k_1 0),aoX:=(a0.al.getD S2 default).aoX}:aoS)])).length*32<=d9)))
@[go_sem] def og (a0:ah)(a1:List bl)(a2:Int)(a3:Int)(S2:Nat)(ly:List aoS):Empty⊕(List aoS):=(bif((a0.al.getD S2 default).kind !=1)then .inr ly else(match aj (oe a0 a1 a2 a3 S2) (((eJ a0 (dw a1 a2 a3) (S2:Int)).1).length) 0 ly with| .inl x=>x.elim| .inr s_1=>.inr s_1))
def ni (a0:ah)(a1:List bl)(a2:Int)(a3:Int)(S2:Nat)(ly:List aoS):Prop:=letI q0:=dw a1 a2 a3;(a0.al.length<=aK->(((a0.al.getD S2 default).kind !=1)=false->((oS a0 q0 (S2:Int))/\okI (oe a0 a1 a2 a3 S2) (nh a0 a1 a2 a3 S2) (((eJ a0 q0 (S2:Int)).1).length) 0 ly)))
def jX (a0:ah)(a1:List bl)(a2:Int)(a3:Int):List aoS×Int:=letI q0:=ka a0 a1;(bif(q0 !=0)then([],q0)else(bif((((decide (a2<0)) ||(decide (a2>=a0.hours))) ||(decide (a3<0))) ||(decide (a3 > 1048576)))then([],1)else(match aj (og a0 a1 a2 a3) a0.al.length 0 ([])with| .inl x=>x.elim| .inr ly=>(ly,0))))
def sS (a0:ah)(a1:List bl)(a2:Int)(a3:Int):Prop:=((nf a0 a1)/\(((ka a0 a1) !=0)=false->(((((decide (a2<0)) ||(decide (a2>=a0.hours))) ||(decide (a3<0))) ||(decide (a3 > 1048576)))=false->((jW a1 a2 a3)/\okI (og a0 a1 a2 a3) (ni a0 a1 a2 a3) a0.al.length 0 ([])))))
@[go_sem] def OX:List SV->Option Con:=(pD .bh λa0=>(pR .x6 λa1=>(pI λa2=>(pI λa3=>(pE (.det (sS a0 a1 a2 a3) (.tup [.nw .holding ((jX a0 a1 a2 a3).1),.v (.int .i64 ((jX a0 a1 a2 a3).2))])))))))
theorem MD:B1 Tryz.prog 127 OX:=by
 have hG:=mG (cn [.st .bh,.sl .x6] xa (cn [.sl .x6,.o,.o] Al (cn [.st .bh,.sl .x6,.o] C7 P0))) P0;refine fW hG Tryz.f127 [(.tmp 8,.holding)] (av λa0=>(bN λa1=>(ay λU=>(ay λV=>(am (λhp=>?_))))));dsimp only[an]at hp;unfold sS at hp;refine⟨nbl rfl,(λid st=>bif Nat.beq id 0 then some (LCR (ρ:=Empty) (σ:=(List aoS)) 2 [.slot 12 (.row .holding ([]))] [0,1,2] (λE O=>⟨[(4,.ptr 0 0),(11,.os 1),(12,.os 2),(13,.v (.int .i64 (E:Int)))],[.cells (cellsOf .bh a0),.row .x6 (dw a1 U V),.row .holding O]⟩) (og a0 a1 U V) (ni a0 a1 U V) a0.al.length ([]) (True) ((·.elim)) ((·.elim)) st)else none),?_,?_⟩;unfold ae Tryz.f127;simp only[ak,true_and,and_true];refine eF (a0.al.length<=aK) mixed aD hG kr (λ_=>rfl) (a0.al.length:Int) rfl fM (λhb0 E O aqm Y hw hc=>⟨(λid st=>bif Nat.beq id 2 then some (LCR (ρ:=Empty) (σ:=(List aoS)) 5 [] [0,1,2,3,4,2] (λX W=>⟨[(4,.ptr 0 0),(11,.os 1),(12,.os 5),(13,.v (.int .i64 (E:Int))),(14,.os 3),(16,.v (.int .i64 (X:Int)))],[.cells (cellsOf .bh a0),.row .x6 (dw a1 U V),.dead,.row .int ((eJ a0 (dw a1 U V) (E:Int)).1),.dead,.row .holding W]⟩) (oe a0 a1 U V E) (nh a0 a1 U V E) (((eJ a0 (dw a1 U V) (E:Int)).1).length) O (True) ((·.elim)) ((·.elim)) st)else none),?_,?_⟩) (λhb0 O hc=>?_) λhb0 E O=>?_;simp only[ak,true_and,and_true];refine eF (((eJ a0 (dw a1 U V) (E:Int)).1).length<=aK) mixed aD hG kr (λ_=>rfl) (((eJ a0 (dw a1 U V) (E:Int)).1).length:Int) rfl fM (λhb1 X W aqc hq1 hw hc=>⟨L0,ag _,?_⟩) (λhb1 W hc=>?_) λhb1 X W=>?_;unfold nh at hq1;try simp only[hw,alv]at hq1
 exact Fy (jl [0,1,2,3,4,7]) (jl [0,1,2,3,4,5]);exact Fz (jl [0,1,2,3,4,7]) (jl [0,1,2,3,4,5]);exact OL;unfold ni at Y;try simp only[hw,alv]at Y
 exact Fy (jl [0,1,2]) (jl [0,1,5]);exact Fz (jl [0,1,2]) (jl [0,1,5]);exact zq8;unfold ae Tryz.f127;try unfold jX
 exact zq2
@[go_sem] def Am (a:List Int)(b:List Int)(S2:Nat)(ly:Unit):Unit⊕Unit:=(bif((a.getD S2 0) !=(b.getD S2 0))then .inl ()else .inr ())
def Wg (a:List Int)(b:List Int):Bool:=(bif((a.length:Int) !=(b.length:Int))then false else(match aj (Am a b) a.length 0 ()with| .inl pq=>false| .inr ly=>true))
@[go_sem] def An (l_:List bl)(S2:Nat)(ly:Unit):Unit⊕Unit:=(bif(decide ((((l_.getD S2 default).parts).length:Int) > 100))then .inl ()else .inr ())
def By (d:ah)(l_:List bl):Bool:=letI q0:=(l_.length:Int);letI q1:=(d.al.length:Int);letI q2:=(d.u0.length:Int);(bif((decide (q0 > 512))&&(decide (q0<=700)))then(xC d)else(bif((((decide (q0 > 60)) ||(!(xC d))) ||((decide (q1 > 40))&&(decide (q1<=256)))) ||((decide (q2 > 60))&&(decide (q2<=600))))then false else(match aj (An l_) l_.length 0 ()with| .inl pq=>false| .inr ly=>true)))
@[go_sem] def ME:List SV->Option Con:=(pD .bh λd=>(pR .x6 λl_=>(pE (.det True (.v (.bool (By d l_)))))))
theorem Kh:B1 Tryz.prog 65 ME:=by
 have hG:=mG (cn [.st .bh] J2 P0) P0;refine fN hG Tryz.f65 [.o] (av λd=>(bN λU=>(am (λX=>?_))));dsimp only[an]at X;refine⟨nbl rfl,(λid st=>bif Nat.beq id 0 then some (LCR (ρ:=Unit) (σ:=Unit) 1 [] [0] (λE O=>⟨[(1,.rs .x6 U),(5,.v (.int .i64 (E:Int)))],[.dead]⟩) (An U) pT U.length () (True) (λ_=>.ret) (λV=>⟨[(4,.v (.bool false))],[.dead]⟩) st)else none),?_,?_⟩;unfold ae Tryz.f65;simp only[ak,true_and,and_true];refine eF (U.length<=aK) mixed aD hG kr (λ_=>rfl) (U.length:Int) rfl fM (λhb0 E O W _ hw hc=>⟨L0,ag _,?_⟩) (λhb0 O hc=>?_) λhb0 E O=>?_;exact bG (jl [0]);exact bH (jl [0]);exact zq8;unfold ae Tryz.f65;try unfold By
 exact zq2
def oT (a:Claim)(b:Claim):Bool:=(bif(a.hour !=b.hour)then(decide (a.hour<b.hour))else(bif(a.aoX !=b.aoX)then(decide (a.aoX<b.aoX))else(bif(a.right !=b.right)then(decide (a.right<b.right))else(decide (a.ee<b.ee)))))
@[go_sem] def FB:List SV->Option Con:=(pD .C1 λa=>(pD .C1 λb=>(pE (.det True (.v (.bool (oT a b)))))))
theorem C8:B1 Tryz.prog 187 FB:=by
 have hG:=mG P0 P0;refine fN hG Tryz.f187 [.o] (av λa=>(av λb=>(am (λE=>?_))));dsimp only[an]at E;refine⟨nbl rfl,L0,ag _,?_⟩;unfold ae Tryz.f187;try unfold oT
 exact zq2
def xH (d:ah)(l_:List bl)(fr:Int)(to:Int):Bool:=letI q0:=(d.al.length:Int);(bif((!(By d l_)) ||((decide (q0 > 40))&&(decide (q0<=256))))then false else(((((decide (fr<0)) ||(decide (fr > to))) ||(decide (to>=d.hours))) ||(decide (d.hours > 4096))) ||(decide ((i64.wrap (to - fr)) <60))))
@[go_sem] def MF:List SV->Option Con:=(pD .bh λd=>(pR .x6 λl_=>(pI λfr=>(pI λto=>(pE (.det True (.v (.bool (xH d l_ fr to)))))))))
theorem Ki:B1 Tryz.prog 25 MF:=by
 have hG:=mG (cn [.st .bh,.sl .x6] Kh P0) P0;refine fN hG Tryz.f25 [.o] (av λd=>(bN λO=>(ay λfr=>(ay λto=>(am (λE=>?_))))));dsimp only[an]at E;refine⟨nbl rfl,L0,ag _,?_⟩;unfold ae Tryz.f25;try unfold xH
 exact zq2
def p8 (x:ape)(hour:Int):Bool:=(bif(((x.kind !=1) ||(decide (hour<x.since))) ||(decide (hour > x.to)))then false else(decide ((Int.tmod (i64.wrap (hour - x.since)) x.every) <x.length)))
def vr (x:ape)(hour:Int):Prop:=((((x.kind !=1) ||(decide (hour<x.since))) ||(decide (hour > x.to)))=false->x.every≠0)
@[go_sem] def Kj:List SV->Option Con:=(pD .right λx=>(pI λhour=>(pE (.det (vr x hour) (.v (.bool (p8 x hour)))))))
theorem Ho:B1 Tryz.prog 128 Kj:=by
 have hG:=mG P0 P0;refine fN hG Tryz.f128 [.o] (av λx=>(ay λhour=>(am (λE=>?_))));dsimp only[an]at E;unfold vr at E;refine⟨nbl rfl,L0,ag _,?_⟩;unfold ae Tryz.f128;try unfold p8
 exact zq2
def cd (x:ape)(kind:Int)(ee:Int)(reach:Int)(hour:Int):Bool:=(((((x.kind==kind)&&(x.ee==ee))&&(x.reach==reach))&&(decide (x.since<=hour)))&&(decide (hour<=x.to)))
@[go_sem] def Hq:List SV->Option Con:=(pD .right λx=>(pI λkind=>(pI λee=>(pI λreach=>(pI λhour=>(pE (.det True (.v (.bool (cd x kind ee reach hour))))))))))
theorem xb:B1 Tryz.prog 188 Hq:=by
 have hG:=mG P0 P0;refine fN hG Tryz.f188 [.o] (av λx=>(ay λkind=>(ay λee=>(ay λreach=>(ay λhour=>(am (λE=>?_)))))));dsimp only[an]at E;refine⟨nbl rfl,L0,ag _,?_⟩;unfold ae Tryz.f188;try unfold cd
 exact zq2
@[go_sem] def sT (d:ah)(ee:Int)(reach:Int)(hour:Int)(S2:Nat)(ly:Unit):Unit⊕Unit:=(bif(cd (d.al.getD S2 default) 3 ee reach hour)then .inl ()else .inr ())
def mb (d:ah)(ee:Int)(reach:Int)(hour:Int):Bool:=(match aj (sT d ee reach hour) d.al.length 0 ()with| .inl pq=>true| .inr ly=>false)
@[go_sem] def Hr:List SV->Option Con:=(pD .bh λd=>(pI λee=>(pI λreach=>(pI λhour=>(pE (.det True (.v (.bool (mb d ee reach hour)))))))))
theorem FC:B1 Tryz.prog 189 Hr:=by
 have hG:=mG (cp xb P0) P0;refine fN hG Tryz.f189 [.o] (av λd=>(ay λee=>(ay λreach=>(ay λhour=>(am (λW=>?_))))));dsimp only[an]at W;refine⟨nbl rfl,(λid st=>bif Nat.beq id 0 then some (LCR (ρ:=Unit) (σ:=Unit) 1 [] [0] (λE O=>⟨[(1,.v (.int .i64 ee)),(2,.v (.int .i64 reach)),(3,.v (.int .i64 hour)),(4,.ptr 0 0),(9,.v (.int .i64 (E:Int)))],[.cells (cellsOf .bh d)]⟩) (sT d ee reach hour) pT d.al.length () (True) (λ_=>.ret) (λU=>⟨[(8,.v (.bool true))],[.dead]⟩) st)else none),?_,?_⟩;unfold ae Tryz.f189;simp only[ak,true_and,and_true];refine eF (d.al.length<=aK) mixed aD hG kr (λ_=>rfl) (d.al.length:Int) rfl fM (λhb0 E O V _ hw hc=>⟨L0,ag _,?_⟩) (λhb0 O hc=>?_) λhb0 E O=>?_;exact bG (jl [0]);exact bH (jl [0]);exact zq8;unfold ae Tryz.f189;try unfold mb
 exact zq2
@[go_sem] def vt (d:ah)(ee:Int)(reach:Int)(hour:Int)(S2:Nat)(ly:Unit):Unit⊕Unit:=(bif(((d.al.getD S2 default).ee !=ee)&&(cd (d.al.getD S2 default) 2 ((d.al.getD S2 default).ee) reach hour))then .inl ()else .inr ())
def p9 (d:ah)(ee:Int)(reach:Int)(hour:Int):Bool:=(match aj (vt d ee reach hour) d.al.length 0 ()with| .inl pq=>(mb d ee reach hour) | .inr ly=>true)
@[go_sem] def MG:List SV->Option Con:=(pD .bh λd=>(pI λee=>(pI λreach=>(pI λhour=>(pE (.det True (.v (.bool (p9 d ee reach hour)))))))))
theorem Kk:B1 Tryz.prog 131 MG:=by
 have hG:=mG (cp xb (cn [.st .bh,.o,.o,.o] FC P0)) P0;refine fN hG Tryz.f131 [.o] (av λd=>(ay λee=>(ay λreach=>(ay λhour=>(am (λW=>?_))))));dsimp only[an]at W;refine⟨nbl rfl,(λid st=>bif Nat.beq id 0 then some (LCR (ρ:=Unit) (σ:=Unit) 1 [] [0] (λE O=>⟨[(1,.v (.int .i64 ee)),(2,.v (.int .i64 reach)),(3,.v (.int .i64 hour)),(4,.ptr 0 0),(9,.v (.int .i64 (E:Int)))],[.cells (cellsOf .bh d)]⟩) (vt d ee reach hour) pT d.al.length () (True) (λ_=>.ret) (λU=>⟨[(8,.v (.bool (mb d ee reach hour)))],[.dead]⟩) st)else none),?_,?_⟩;unfold ae Tryz.f131;simp only[ak,true_and,and_true];refine eF (d.al.length<=aK) mixed aD hG kr (λ_=>rfl) (d.al.length:Int) rfl fM (λhb0 E O V _ hw hc=>⟨L0,ag _,?_⟩) (λhb0 O hc=>?_) λhb0 E O=>?_;exact bG (jl [0]);exact bH (jl [0]);exact zq8;unfold ae Tryz.f131;try unfold p9
 exact zq2
@[go_sem] def gO (d:ah)(S2:Nat)(ly:List Int):(List Int)⊕(List Int):=(bif(decide ((ly.getD 0 0) > 0))then .inr (([(d.reaches.getD (Int.toNat (ly.getD 0 0)) default).up])++ly)else .inl ly)
def jh (d:ah)(S2:Nat)(ly:List Int):Prop:=letI q0:=ly.getD 0 0;letI q1:=0<=0/\0< (ly.length:Int);(q1/\((decide (q0 > 0))=true->(q1/\((0<=q0/\q0< (d.reaches.length:Int))/\((([(d.reaches.getD (Int.toNat q0) default).up])++ly).length*8<=d9)))))
def iY (d:ah)(reach:Int):List Int:=(match aj (gO d) 66 0 ([reach])with| .inl pq=>pq| .inr ly=>default)
def rS (d:ah)(reach:Int):Prop:=(okI (gO d) (jh d) 66 0 ([reach])/\(∀ z_,aj (gO d) 66 0 ([reach])≠ .inr z_))
@[go_sem] def Kl:List SV->Option Con:=(pD .bh λd=>(pI λreach=>(pE (.det (rS d reach) (.nw .int (iY d reach))))))
theorem Hs:B1 Tryz.prog 130 Kl:=by
 have hG:=mG P0 P0;refine fW hG Tryz.f130 [(.tmp 4,.int)] (av λd=>(ay λreach=>(am (λW=>?_))));dsimp only[an]at W;unfold rS at W;refine⟨nbl rfl,(λid st=>bif Nat.beq id 0 then some (LCV (ρ:=(List Int)) (σ:=(List Int)) 2 [] [0,1,1] (λV O=>⟨[(2,.ptr 0 0),(5,.os 2)],[.cells (cellsOf .bh d),.dead,.row .int O]⟩) (gO d) (jh d) 66 ([reach]) (λ_=>.normal) (λE=>⟨[(5,.os 2)],[.dead,.dead,.row .int E]⟩) st)else none),?_,?_⟩;unfold ae Tryz.f130;simp only[ak,true_and,and_true];refine eQ mixed aD hG kr (λ_=>rfl) λV O U=>⟨L0,ag _,?_⟩;unfold jh at U;exact qT (jl [0,1,4]) (jl [0,1,2]);unfold ae Tryz.f130;try unfold iY
 exact zq2
@[go_sem] def nR (d:ah)(ee:Int)(hour:Int)(S2:Nat)(ly:Unit):Int⊕Unit:=(bif(!(p9 d ee ((iY d ((d.u0.getD (Int.toNat ee) default).reach)).getD S2 0) hour))then .inl ((iY d ((d.u0.getD (Int.toNat ee) default).reach)).getD S2 0)else .inr ())
def ji (d:ah)(ee:Int)(hour:Int):Int:=(match aj (nR d ee hour) ((iY d ((d.u0.getD (Int.toNat ee) default).reach)).length) 0 ()with| .inl pq=>pq| .inr ly=>(-1))
def ln (d:ah)(ee:Int)(hour:Int):Prop:=((0<=ee/\ee< (d.u0.length:Int))/\(rS d ((d.u0.getD (Int.toNat ee) default).reach)))
@[go_sem] def Ao:List SV->Option Con:=(pD .bh λd=>(pI λee=>(pI λhour=>(pE (.det (ln d ee hour) (.v (.int .i64 (ji d ee hour))))))))
theorem y_:B1 Tryz.prog 68 Ao:=by
 have hG:=mG (cn [.st .bh,.o] Hs (cn [.st .bh,.o,.o,.o] Kk P0)) P0;refine fN hG Tryz.f68 [.o] (av λd=>(ay λee=>(ay λhour=>(am (λW=>?_)))));dsimp only[an]at W;unfold ln at W;refine⟨nbl rfl,(λid st=>bif Nat.beq id 0 then some (LCR (ρ:=Int) (σ:=Unit) 2 [] [0,1] (λO U=>⟨[(1,.v (.int .i64 ee)),(2,.v (.int .i64 hour)),(3,.ptr 0 0),(7,.os 1),(8,.v (.int .i64 (O:Int)))],[.cells (cellsOf .bh d),.row .int (iY d ((d.u0.getD (Int.toNat ee) (default:apQ)).reach))]⟩) (nR d ee hour) pT ((iY d ((d.u0.getD (Int.toNat ee) (default:apQ)).reach)).length) () (True) (λ_=>.ret) (λE=>⟨[(6,.v (.int .i64 E))],[.dead,.dead]⟩) st)else none),?_,?_⟩;unfold ae Tryz.f68;simp only[ak,true_and,and_true];refine eF ((iY d ((d.u0.getD (Int.toNat ee) (default:apQ)).reach)).length<=aK) mixed aD hG kr (λ_=>rfl) ((iY d ((d.u0.getD (Int.toNat ee) (default:apQ)).reach)).length:Int) rfl fM (λhb0 O U V _ hw hc=>⟨L0,ag _,?_⟩) (λhb0 U hc=>?_) λhb0 O U=>?_;exact bG (jl [0,1]);exact bH (jl [0,1]);exact zq8;unfold ae Tryz.f68;try unfold ji
 exact zq2
@[go_sem] def oU (l_:List Claim)(x:Claim)(S2:Nat)(ly:Int):Int⊕Int:=(bif((decide (ly< (l_.length:Int)))&&(oT (l_.getD (Int.toNat ly) default) x))then .inr (i64.wrap (ly+1))else .inl ly)
def oV (l_:List Claim)(x:Claim)(S2:Nat)(ly:Int):Prop:=(l_.length<=aK->((decide (ly< (l_.length:Int)))=true->(0<=ly/\ly< (l_.length:Int))))
def p_ (l_:List Claim)(x:Claim):List Claim:=(match aj (oU l_ x) 200000 0 0 with| .inl pq=>(((([])++((l_.take (Int.toNat pq)).drop 0))++([x]))++((l_.take (Int.toNat (l_.length:Int))).drop (Int.toNat pq))) | .inr ly=>default)
def tM (l_:List Claim)(x:Claim):Prop:=letI q0:=(l_.length:Int);letI q1:=oU l_ x;(okI q1 (oV l_ x) 200000 0 0/\(∀ z_,aj q1 200000 0 0≠ .inr z_)/\(∀ pq,aj q1 200000 0 0=.inl pq->((0<=0/\0<=pq/\pq<=q0)/\(((([])++((l_.take (Int.toNat pq)).drop 0)).length*40<=d9)/\((([])++((l_.take (Int.toNat pq)).drop 0)).length<=aK->((((([])++((l_.take (Int.toNat pq)).drop 0))++([x])).length*40<=d9)/\(((([])++((l_.take (Int.toNat pq)).drop 0))++([x])).length<=aK->((0<=pq/\pq<=q0/\q0<=q0)/\((((([])++((l_.take (Int.toNat pq)).drop 0))++([x]))++((l_.take (Int.toNat q0)).drop (Int.toNat pq))).length*40<=d9)))))))))
@[go_sem] def MH:List SV->Option Con:=(pR .C1 λl_=>(pD .C1 λx=>(pE (.det (tM l_ x) (.nw .C1 (p_ l_ x))))))
theorem Km:B1 Tryz.prog 129 MH:=by
 have hG:=mG (cp C8 P0) P0;refine fW hG Tryz.f129 [(.tmp 4,.C1)] (bN λU=>(av λx=>(am (λX=>?_))));dsimp only[an]at X;unfold tM at X;refine⟨nbl rfl,(λid st=>bif Nat.beq id 0 then some (LCV (ρ:=Int) (σ:=Int) 1 [] [0] (λW O=>⟨[(0,.rs .C1 U),(3,.ptr 0 0),(5,.v (.int .i64 O))],[.cells (cellsOf .C1 x)]⟩) (oU U x) (oV U x) 200000 0 (λ_=>.normal) (λE=>⟨[(0,.rs .C1 U),(3,.ptr 0 0),(5,.v (.int .i64 E))],[.cells (cellsOf .C1 x)]⟩) st)else none),?_,?_⟩;unfold ae Tryz.f129;simp only[ak,true_and,and_true];refine eQ mixed aD hG kr (λ_=>rfl) λW O V=>⟨L0,ag _,?_⟩;unfold oV at V;exact c7 (jl [0]);unfold ae Tryz.f129;try unfold p_
 exact zq2
@[go_sem] def kV (d:ah)(l_:List bl)(h_:Int)(known:Int)(S2:Nat)(ly:List Claim):Empty⊕(List Claim):=letI q0:=((jX d l_ h_ known).1).getD S2 default;(bif(p8 (d.al.getD (Int.toNat (q0.right)) default) h_)then .inr (p_ ly ({ right:=q0.right,ee:=q0.ee,hour:=h_,dd:=q0.dd,aoX:=q0.aoX}:Claim))else .inr ly)
def rl (d:ah)(l_:List bl)(h_:Int)(known:Int)(S2:Nat)(ly:List Claim):Prop:=letI q2:=(jX d l_ h_ known).1;letI q0:=q2.getD S2 default;letI q1:=d.al.getD (Int.toNat (q0.right)) default;(q2.length<=aK->((0<=q0.right/\q0.right< (d.al.length:Int))/\((vr q1 h_)/\((p8 q1 h_)=true->(tM ly ({ right:=q0.right,ee:=q0.ee,hour:=h_,dd:=q0.dd,aoX:=q0.aoX}:Claim))))))
def gK (d:ah)(l_:List bl)(h_:Int)(known:Int):List Claim:=(match aj (kV d l_ h_ known) (((jX d l_ h_ known).1).length) 0 ([])with| .inl x=>x.elim| .inr ly=>ly)
def rT (d:ah)(l_:List bl)(h_:Int)(known:Int):Prop:=((sS d l_ h_ known)/\okI (kV d l_ h_ known) (rl d l_ h_ known) (((jX d l_ h_ known).1).length) 0 ([]))
@[go_sem] def Kn:List SV->Option Con:=(pD .bh λd=>(pR .x6 λl_=>(pI λh_=>(pI λknown=>(pE (.det (rT d l_ h_ known) (.nw .C1 (gK d l_ h_ known))))))))
theorem Ht:B1 Tryz.prog 67 Kn:=by
 have hG:=mG (cn [.st .bh,.sl .x6,.o,.o] MD (cp Ho (cn [.sl .C1,.st .C1] Km P0))) P0;refine fW hG Tryz.f67 [(.tmp 8,.C1)] (av λd=>(bN λV=>(ay λO=>(ay λknown=>(am (λY=>?_))))));dsimp only[an]at Y;unfold rT at Y;refine⟨nbl rfl,(λid st=>bif Nat.beq id 0 then some (LCR (ρ:=Empty) (σ:=(List Claim)) 2 [.slot 11 (.row .C1 ([]))] [0,1,2] (λU E=>⟨[(2,.v (.int .i64 O)),(4,.ptr 0 0),(9,.os 1),(11,.os 2),(12,.v (.int .i64 (U:Int)))],[.cells (cellsOf .bh d),.row .holding ((jX d V O known).1),.row .C1 E]⟩) (kV d V O known) (rl d V O known) (((jX d V O known).1).length) ([]) (True) ((·.elim)) ((·.elim)) st)else none),?_,?_⟩;unfold ae Tryz.f67;simp only[ak,true_and,and_true];refine eF (((jX d V O known).1).length<=aK) mixed aD hG kr (λ_=>rfl) (((jX d V O known).1).length:Int) rfl fM (λhb0 U E X W hw hc=>⟨L0,ag _,?_⟩) (λhb0 E hc=>?_) λhb0 U E=>?_;unfold rl at W;try simp only[hw,alv]at W
 exact sM (jl [0,1,4]) (jl [0,1,2]);exact sN (jl [0,1,4]) (jl [0,1,2]);exact zq8;unfold ae Tryz.f67;try unfold gK
 exact zq2
def mc (d:ah)(l_:List bl)(fr:Int)(to:Int)(known:Int):Int:=(bif((ka d l_) !=0)then(ka d l_)else(bif(((((decide (fr<0)) ||(decide (fr > to))) ||(decide (to>=d.hours))) ||(decide (known<0))) ||(decide (known > 1048576)))then 1 else(bif(decide ((i64.wrap ((i64.wrap ((i64.wrap (to - fr))+1))*(d.al.length:Int))) > 4096))then 2 else 0)))
def qr (d:ah)(l_:List bl)(fr:Int)(to:Int)(known:Int):Prop:=(nf d l_)
@[go_sem] def Hu:List SV->Option Con:=(pD .bh λd=>(pR .x6 λl_=>(pI λfr=>(pI λto=>(pI λknown=>(pE (.det (qr d l_ fr to known) (.v (.int .i64 (mc d l_ fr to known))))))))))
theorem FD:B1 Tryz.prog 66 Hu:=by
 have hG:=mG (cn [.st .bh,.sl .x6] xa P0) P0;refine fN hG Tryz.f66 [.o] (av λd=>(bN λO=>(ay λfr=>(ay λto=>(ay λknown=>(am (λE=>?_)))))));dsimp only[an]at E;unfold qr at E;refine⟨nbl rfl,L0,ag _,?_⟩;unfold ae Tryz.f66;try unfold mc
 exact zq2
@[go_sem] def qW (d:ah)(l_:List bl)(known:Int)(ly:List Claim×Int)(k_1:Nat)(s_1:List Claim):Empty⊕(List Claim):=(bif(decide ((ji d (((gK d l_ ly.2 known).getD k_1 default).ee) ly.2) <0))then .inr (s_1++([((gK d l_ ly.2 known).getD k_1 default)]))else .inr s_1)
def tX (d:ah)(l_:List bl)(known:Int)(ly:List Claim×Int)(k_1:Nat)(s_1:List Claim):Prop:=letI q1:=gK d l_ ly.2 known;letI q0:=q1.getD k_1 default;(q1.length<=aK->((ln d (q0.ee) ly.2)/\((decide ((ji d (q0.ee) ly.2) <0))=true->((s_1++([q0])).length*40<=d9))))
@[go_sem] def mf (d:ah)(l_:List bl)(to:Int)(known:Int)(S2:Nat)(ly:List Claim×Int):(List Claim)⊕(List Claim×Int):=(bif(decide (ly.2<=to))then(match aj (qW d l_ known ly) ((gK d l_ ly.2 known).length) 0 ly.1 with| .inl x=>x.elim| .inr s_1=>.inr (s_1,(i64.wrap (ly.2+1))))else .inl ly.1)
def nj (d:ah)(l_:List bl)(to:Int)(known:Int)(S2:Nat)(ly:List Claim×Int):Prop:=((decide (ly.2<=to))=true->((rT d l_ ly.2 known)/\okI (qW d l_ known ly) (tX d l_ known ly) ((gK d l_ ly.2 known).length) 0 ly.1))
def nk (d:ah)(l_:List bl)(fr:Int)(to:Int)(known:Int):List Claim×Int:=letI q0:=mc d l_ fr to known;(bif(q0 !=0)then([],q0)else(match aj (mf d l_ to known) 4098 0 ([],fr)with| .inl pq=>(bif(decide ((pq.length:Int) > 4096))then([],2)else(pq,0)) | .inr ly=>default))
def vz (d:ah)(l_:List bl)(fr:Int)(to:Int)(known:Int):Prop:=((qr d l_ fr to known)/\(((mc d l_ fr to known) !=0)=false->(okI (mf d l_ to known) (nj d l_ to known) 4098 0 ([],fr)/\(∀ z_,aj (mf d l_ to known) 4098 0 ([],fr)≠ .inr z_))))
@[go_sem] def OY:List SV->Option Con:=(pD .bh λd=>(pR .x6 λl_=>(pI λfr=>(pI λto=>(pI λknown=>(pE (.det (vz d l_ fr to known) (.tup [.rs .C1 ((nk d l_ fr to known).1),.v (.int .i64 ((nk d l_ fr to known).2))]))))))))
theorem MI:B1 Tryz.prog 27 OY:=by
 have hG:=mG (cn [.st .bh,.sl .x6,.o,.o,.o] FD (cn [.st .bh,.sl .x6,.o,.o] Ht (cn [.st .bh,.o,.o] y_ P0))) P0;refine fN hG Tryz.f27 [.sl .C1,.o] (av λd=>(bN λO=>(ay λfr=>(ay λto=>(ay λknown=>(am (λhp=>?_)))))));dsimp only[an]at hp;unfold vz at hp;refine⟨nbl rfl,(λid st=>bif Nat.beq id 0 then some (LCV (ρ:=(List Claim)) (σ:=(List Claim×Int)) 1 [.slot 13 (.row .C1 ([]))] [0,1] (λY E=>⟨[(1,.rs .x6 O),(3,.v (.int .i64 to)),(4,.v (.int .i64 known)),(5,.ptr 0 0),(13,.os 1),(14,.v (.int .i64 E.2))],[.cells (cellsOf .bh d),.row .C1 E.1]⟩) (mf d O to known) (nj d O to known) 4098 ([],fr) (λ_=>.normal) (λW=>⟨[(13,.os 1)],[.dead,.row .C1 W]⟩) st)else none),?_,?_⟩;unfold ae Tryz.f27;simp only[ak,true_and,and_true];refine eQ mixed aD hG kr (λ_=>rfl) λY E X=>⟨(λid st=>bif Nat.beq id 2 then some (LCR (ρ:=Empty) (σ:=(List Claim)) 3 [] [0,1,2,1] (λV U=>⟨[(1,.rs .x6 O),(3,.v (.int .i64 to)),(4,.v (.int .i64 known)),(5,.ptr 0 0),(13,.os 3),(14,.v (.int .i64 E.2)),(15,.os 2),(16,.v (.int .i64 (V:Int)))],[.cells (cellsOf .bh d),.dead,.row .C1 (gK d O E.2 known),.row .C1 U]⟩) (qW d O known E) (tX d O known E) ((gK d O E.2 known).length) E.1 (True) ((·.elim)) ((·.elim)) st)else none),?_,?_⟩;simp only[ak,true_and,and_true];refine eF ((gK d O E.2 known).length<=aK) mixed aD hG kr (λ_=>rfl) ((gK d O E.2 known).length:Int) rfl fM (λhb1 V U aqc hq1 hw hc=>⟨L0,ag _,?_⟩) (λhb1 U hc=>?_) λhb1 V U=>?_;unfold tX at hq1;try simp only[hw,alv]at hq1
 exact sM (jl [0,1,2,5]) (jl [0,1,2,3]);exact sN (jl [0,1,2,5]) (jl [0,1,2,3]);exact OL;unfold nj at X;exact qT (jl [0,3]) (jl [0,1]);unfold ae Tryz.f27;try unfold nk
 exact zq2
variable {α:Type}
theorem Q4{β:Type}(l:List α)(d:α)(P:α->Bool){step:Nat->Unit->Unit⊕Unit}(h:∀ k,k<l.length->step k ()=bif P (l.getD k d)then .inl ()else .inr ())(a b:β):
  (match aj step l.length 0 ()with| .inl _=>a| .inr _=>b)=bif l.any P then a else b:=by
 cases O:l.any P with
 |false=>
  have:aj step l.length 0 ()=.inr ():=g5.2 λj E=>by
   grind
  grind
 |true=>
  obtain⟨x,V,X⟩:=amC.1 O;obtain⟨j,E,e⟩:=al9.1 V;have W:aj step l.length 0 ()≠ .inr ():=λU=>by
   have:=g5.1 U j E;grind
  grind
theorem SO (d:ah)(f r h:Int):mb d f r h=d.al.any λy=>cd y 3 f r h:=by
 unfold mb;have:=Q4 d.al default (λy=>cd y 3 f r h) (step:=sT d f r h) (λk E=>rfl) true false;grind
theorem ZT (d:ah)(f r h:Int):p9 d f r h=(!(d.al.any λy=>(y.ee !=f)&&cd y 2 y.ee r h) ||d.al.any λy=>cd y 3 f r h):=by
 unfold p9;have:=Q4 d.al default (λy=>(y.ee !=f)&&cd y 2 y.ee r h) (step:=vt d f r h) (λk E=>rfl) (mb d f r h) true;grind [SO]
theorem jY (y:ape)(k f r h:Int):cd y k f r h=true↔y.kind=k/\y.ee=f/\y.reach=r/\y.since<=h/\h<=y.to:=by
 simp_all [cd,and_assoc]
structure Seen (R:List ape)(h:Int)(s:List (aoK×Bool)×List (Int×Int)×List (aoK×Bool))(own:List aoK):Prop where
 apT:∀ u,ax .M1 .bool s.1 u=R.any λy=>cd y 3 u.ee u.reach h
 owned:∀ u,ax .M1 .bool s.2.2 u=decide (u∈own)
 mem:∀ u,u∈own↔(R.any λy=>cd y 2 u.ee u.reach h)=true
 nodup:own.Nodup
 count:∀ r:Int,ax .int .int s.2.1 r=((own.filter λu=>u.reach==r).length:Int)
 len:own.length<=R.length
theorem qX(l:List α)(x:α)(P:α->Bool):(l++[x]).any P=(l.any P||P x):=by simp
theorem SP (d:ah)(h:Int)(hl:d.al.length<=256):∃ s own,aj (kH d h) d.al.length 0 ([],[],[])=.inr s/\Seen d.al h s own:=by
 have key:=li (step:=kH d h) (λk s=>∃ own,Seen (d.al.take k) h s own) d.al.length 0 ([],[],[]) ⟨[],⟨λu=>rfl,λu=>rfl,λu=>by simp,amW,λr=>rfl,alw _⟩⟩ (λj s _ hj ⟨own,E⟩ =>by
  have hj:j<d.al.length:=by omega
  have U:=b_ d.al (default:ape) hj;obtain⟨s1,s2,W⟩:=s;generalize ey:d.al.getD j (default:ape)=y at U;simp only[kH,ey];have Y:=E.len;rw[amq]at Y;by_cases V:y.since<=h/\h<=y.to
  ·have e1:((decide (h<y.since)) ||(decide (h > y.to)))=false:=by
    grind
   rw[e1,cond_false];by_cases hk:y.kind=3
   ·have e2:(y.kind==3)=true:=by grind
    rw[e2,cond_true];refine⟨_,rfl,own,⟨λu=>?_,E.owned,λu=>?_,E.nodup,E.count,by grind⟩⟩;rw[od,U,qX,<-E.apT u];by_cases hu:u= { ee:=y.ee,reach:=y.reach}
    simp_all [jY];have:cd y 3 u.ee u.reach h=false:=by
     cases hq:cd y 3 u.ee u.reach h with
     |false=>rfl
     |true=>
      obtain⟨_,q1,q2,_⟩:=(jY _ _ _ _ _).1 hq;simp_all
    grind
    ·rw[E.mem u,U,qX];have:cd y 2 u.ee u.reach h=false:=by
      cases hq:cd y 2 u.ee u.reach h with
      |false=>rfl|true=>have:=((jY _ _ _ _ _).1 hq).1;omega
     grind
   ·have e2:(y.kind==3)=false:=by grind
    rw[e2,cond_false];have hea:∀ u:aoK,cd y 3 u.ee u.reach h=false:=λu=>by
     cases hq:cd y 3 u.ee u.reach h with
     |false=>rfl|true=>exact absurd ((jY _ _ _ _ _).1 hq).1 hk
    have O:∀ u,ax .M1 .bool s1 u=(d.al.take (j+1)).any λy=>cd y 3 u.ee u.reach h:=λu=>by
     rw[U,qX,hea,amU];exact E.apT u
    by_cases h2:y.kind=2
    by_cases hm:({ ee:=y.ee,reach:=y.reach}:aoK)∈own
    have e3:((y.kind==2)&&(!(ax .M1 .bool W ({ ee:=y.ee,reach:=y.reach}:aoK))))=false:=by
     rw[show ax .M1 .bool W ({ ee:=y.ee,reach:=y.reach}:aoK)=true from(E.owned _).trans (decide_eq_true hm)];simp
    rw[e3,cond_false];refine⟨_,rfl,own,⟨O,E.owned,λu=>?_,E.nodup,E.count,by grind⟩⟩;rw[U,qX,alY,<-E.mem u];refine⟨.inl,λhq=>hq.elim id λhq=>?_⟩;obtain⟨_,q1,q2,_⟩:=(jY _ _ _ _ _).1 hq;simp_all;have e3:((y.kind==2)&&(!(ax .M1 .bool W ({ ee:=y.ee,reach:=y.reach}:aoK))))=true:=by
     rw[show ax .M1 .bool W ({ ee:=y.ee,reach:=y.reach}:aoK)=false from(E.owned _).trans (decide_eq_false hm),h2];rfl
    rw[e3,cond_true];refine⟨_,rfl,{ ee:=y.ee,reach:=y.reach}::own,⟨O,λu=>?_,λu=>?_,al6.2 ⟨hm,E.nodup⟩,λr=>?_,by grind⟩⟩;rw[od];by_cases hu:u= { ee:=y.ee,reach:=y.reach}
    grind
    rw[if_neg hu,show ax .M1 .bool W u=_ from E.owned u];grind
    rw[U,qX,alY,<-E.mem u,alD];constructor
    rintro (hu|hu);exact .inr ((jY _ _ _ _ _).2 ⟨h2,by rw[hu],by rw[hu],V.1,V.2⟩);grind
    rintro (hu|hq);exact .inr hu;obtain⟨_,q1,q2,_⟩:=(jY _ _ _ _ _).1 hq;simp_all;rw[od,aof];have hc:=E.count;by_cases hr:r=y.reach
    have e4:(({ ee:=y.ee,reach:=y.reach}:aoK).reach==r)=true:=by simp[hr]
    have hb:(own.filter λu=>u.reach==r).length<=own.length:=amu _ _;rw[if_pos hr,e4,if_pos rfl,<-hr,show ax .int .int s2 r=_ from hc r,az (by omega) (by omega)];simp;grind
    ·have e3:((y.kind==2)&&(!(ax .M1 .bool W ({ ee:=y.ee,reach:=y.reach}:aoK))))=false:=by
      grind
     rw[e3,cond_false];refine⟨_,rfl,own,⟨O,E.owned,λu=>?_,E.nodup,E.count,by grind⟩⟩;have:cd y 2 u.ee u.reach h=false:=by
      cases hq:cd y 2 u.ee u.reach h with
      |false=>rfl|true=>exact absurd ((jY _ _ _ _ _).1 hq).1 h2
     rw[U,qX,this,amU];exact E.mem u
  ·have e1:((decide (h<y.since)) ||(decide (h > y.to)))=true:=by
    grind
   rw[e1,cond_true];have X:∀ k f r,cd y k f r h=false:=λk f r=>by
    cases hq:cd y k f r h with
    |false=>rfl|true=>exact absurd ((jY _ _ _ _ _).1 hq).2.2.2 V
   refine⟨_,rfl,own,⟨λu=>?_,E.owned,λu=>?_,E.nodup,E.count,by grind⟩⟩;rw[U,qX,X,amU];exact E.apT u;rw[U,qX,X,amU];exact E.mem u)
 grind
theorem ZU {F:List aoK}(O:F.Nodup){u:aoK}(E:u∈F):F.length=1↔∀ v∈F,v=u:=by
 match F,O,E with
 | [a],_,E=>
  grind
 |a::b::t,O,E=>
  refine⟨λh=>by simp at h,λh=>?_⟩;simp_all
theorem adx (d:ah)(h f r:Int)(hl:d.al.length<=256):lZ (cD d h) { ee:=f,reach:=r} =p9 d f r h:=by
 obtain⟨s,own,e,E⟩:=SP d h hl;have U:cD d h=({ apY:=s.2.1,owned:=s.2.2,apT:=s.1}:apq):=by grind [cD]
 rw[U,ZT];unfold lZ;simp only;rw[show ax .M1 .bool s.1 ({ ee:=f,reach:=r}:aoK)=_ from E.apT _,show ax .M1 .bool s.2.2 ({ ee:=f,reach:=r}:aoK)=_ from E.owned _,show ax .int .int s.2.1 r=_ from E.count r];have hlen:=E.len;have hb:(own.filter λu=>u.reach==r).length<=own.length:=amu _ _;have hn:(own.filter λu=>u.reach==r).Nodup:=E.nodup.filter _;have Y:∀ v,v∈(own.filter λu=>u.reach==r)↔v∈own/\v.reach=r:=λv=>by grind
 have hA:(d.al.any λy=>(y.ee !=f)&&cd y 2 y.ee r h)=true↔∃ v,v∈(own.filter λu=>u.reach==r)/\v≠{ ee:=f,reach:=r}:=by
  rw[amC];constructor
  rintro⟨y,hy,V⟩;rw[alt,bne_iff_ne]at V;refine⟨{ ee:=y.ee,reach:=r},(Y _).2 ⟨(E.mem _).2 (amC.2 ⟨y,hy,V.2⟩),rfl⟩,λe=>V.1 ?_⟩;injection e;rintro⟨v,U,X⟩;obtain⟨h1,h2⟩:=(Y v).1 U;obtain⟨y,hy,V⟩:=amC.1 ((E.mem v).1 h1);obtain⟨q0,q1,q2,q3⟩:=(jY _ _ _ _ _).1 V;refine⟨y,hy,?_⟩;rw[alt,bne_iff_ne];exact⟨λe=>X (by cases v;grind),(jY _ _ _ _ _).2 ⟨q0,rfl,by rw[q2,h2],q3⟩⟩
 by_cases W:({ ee:=f,reach:=r}:aoK)∈own
 have O:({ ee:=f,reach:=r}:aoK)∈(own.filter λu=>u.reach==r):=(Y _).2 ⟨W,rfl⟩;rw[decide_eq_true W,cond_true];congr 1
 have h1:=ZU hn O;have hpos:0< (own.filter λu=>u.reach==r).length:=List.length_pos_of_mem O;rw[az (by omega) (by omega),amj,beq_iff_eq,alL,<-am8,hA];grind
 rw[decide_eq_false W,cond_false];congr 1
 rw[amj,beq_iff_eq,alL,<-am8,hA];constructor
 grind
 intro h0;have:(own.filter λu=>u.reach==r)=[]:=anL.2 λv U=>h0 ⟨v,U,λe=>W (by grind)⟩;grind
@[go_sem] def cm (l_:List Int)(S2:Nat)(ly:List Int×Int×Int):(List Int)⊕(List Int×Int×Int):=letI q0:=Int.toNat ly.2.1;letI q1:=Int.toNat ly.2.2;(bif(decide (ly.2.1<ly.2.2))then .inr (((ly.1.set q0 (ly.1.getD q1 0)).set q1 (ly.1.getD q0 0)),(i64.wrap (ly.2.1+1)),(i64.wrap (ly.2.2 - 1)))else .inl ly.1)
def dg (l_:List Int)(S2:Nat)(ly:List Int×Int×Int):Prop:=letI q1:=(ly.1.length:Int);letI q0:=0<=ly.2.1/\ly.2.1<q1;((decide (ly.2.1<ly.2.2))=true->((0<=ly.2.2/\ly.2.2<q1)/\(q0/\(q0/\(0<=ly.2.2/\ly.2.2< ((ly.1.set (Int.toNat ly.2.1) (ly.1.getD (Int.toNat ly.2.2) 0)).length:Int))))))
def gh (l_:List Int):List Int:=(match aj (cm l_) (l_.length+1) 0 (l_,0,(i64.wrap ((l_.length:Int) - 1)))with| .inl pq=>pq| .inr ly=>default)
def gQ (l_:List Int):Prop:=letI q0:=(l_,0,(i64.wrap ((l_.length:Int) - 1)));letI q1:=cm l_;(l_.length<=aK->(okI q1 (dg l_) (l_.length+1) 0 q0/\(∀ z_,aj q1 (l_.length+1) 0 q0≠ .inr z_)))
@[go_sem] noncomputable def nq:List SV->List Ob->Option ao3:=λl h=>L7 .int (λl_=>(pQ (.os 0) (pE (fL (gQ l_) (.tup []) [.row .int (gh l_)]))) l) h
theorem tn:ao2 Tryz.prog 161 nq:=by
 have hG:=mG P0 P0;refine fR hG Tryz.f161 (λl o Y h=>?_);unfold nq at h;obtain⟨U,rfl,h⟩:=L8 h;obtain⟨r0,rfl,X⟩:=EI h;obtain⟨rfl,rfl⟩:=wK X;clear h X;refine⟨_,_,_,rfl,λhp=>?_⟩;unfold gQ at hp;refine⟨nbl rfl,(λid st=>bif Nat.beq id 0 then some (LCV (ρ:=(List Int)) (σ:=(List Int×Int×Int)) 1 [] [0] (λW E=>⟨[(0,.os 0),(2,.v (.int .i64 E.2.1)),(3,.v (.int .i64 E.2.2))],[.row .int E.1]⟩) (cm U) (dg U) (U.length+1) (U,0,(i64.wrap ((U.length:Int) - 1))) (λ_=>.normal) (λO=>⟨[],[.row .int O]⟩) st)else none),?_,?_⟩;unfold ae Tryz.f161;simp only[ak,true_and,and_true];refine eQ mixed aD hG kr (λ_=>rfl) λW E V=>⟨L0,ag _,?_⟩;unfold dg at V;exact c7 (jl [0]);unfold ae Tryz.f161;try unfold gh
 exact c7 (jl [0])
@[go_sem] def rq (d:ah)(l_:List Int)(S2:Nat)(ly:Unit):Unit⊕Unit:=(bif((decide ((l_.getD S2 0) <0)) ||(decide ((l_.getD S2 0)>=(d.reaches.length:Int))))then .inl ()else .inr ())
def jx (d:ah)(l_:List Int):Int:=(bif((ap d) !=0)then(ap d)else(match aj (rq d l_) l_.length 0 ()with| .inl pq=>1| .inr ly=>0))
@[go_sem] def FE:List SV->Option Con:=(pD .bh λd=>(pR .int λl_=>(pE (.det True (.v (.int .i64 (jx d l_)))))))
theorem C9:B1 Tryz.prog 158 FE:=by
 have hG:=mG (cn [.st .bh] kF P0) P0;refine fN hG Tryz.f158 [.o] (av λd=>(bN λE=>(am (λX=>?_))));dsimp only[an]at X;refine⟨nbl rfl,(λid st=>bif Nat.beq id 0 then some (LCR (ρ:=Unit) (σ:=Unit) 1 [] [0] (λO U=>⟨[(2,.ptr 0 0),(13,.rs .int E),(14,.v (.int .i64 (E.length:Int))),(15,.v (.int .i64 (O:Int)))],[.cells (cellsOf .bh d)]⟩) (rq d E) pT E.length () (E.length<=aK) (λ_=>.ret) (λV=>⟨[(4,.v (.int .i64 1))],[.dead]⟩) st)else none),?_,?_⟩;unfold ae Tryz.f158;simp only[ak,true_and,and_true];refine bZ mixed aD hG kr (λ_=>rfl) (E.length:Int) rfl fM (λhb0 O U W _ hw hc=>⟨L0,ag _,?_⟩) (λhb0 U hc=>?_);exact bG (jl [0]);exact bH (jl [0]);unfold ae Tryz.f158;try unfold jx
 exact zq2
def mg (d:ah)(reach:Int):List Int×Int:=(bif((jx d ([reach])) !=0)then([],(jx d ([reach])))else((gh (ed d reach)),0))
def qs (d:ah)(reach:Int):Prop:=(((jx d ([reach])) !=0)=false->((0<=reach/\nZ d reach/\(ed d reach).length*8<=d9)/\(gQ (ed d reach))))
@[go_sem] def Hv:List SV->Option Con:=(pD .bh λd=>(pI λreach=>(pE (.det (qs d reach) (.tup [.nw .int ((mg d reach).1),.v (.int .i64 ((mg d reach).2))])))))
theorem FF:B1 Tryz.prog 101 Hv:=by
 have hG:=mG (cn [.st .bh,.sl .int] C9 P0) (co z6 (co JQ (co tn P0)));refine fW hG Tryz.f101 [(.tmp 4,.int)] (av λd=>(ay λreach=>(am (λE=>?_))));dsimp only[an]at E;unfold qs at E;refine⟨nbl rfl,L0,ag _,?_⟩;unfold ae Tryz.f101;try unfold mg
 exact zq2
theorem yB {ρ τ:Type}{step:τ->Unit->ρ⊕Unit}:∀ {L:List τ},dC step L ()=.inr ()↔∀ x∈L,step x ()=.inr ()
 | [] =>by simp[dC]
 |x::r=>by
  simp only[dC,alD,forall_eq_or_imp];cases h:step x ()with
  |inl y=>simp|inr y=>simp only[true_and];exact yB
theorem MJ(l:List α)(d r:α)(i k:Nat)(hi:i<l.length):(l.set i r).getD k d=if k=i then r else l.getD k d:=by
 grind
theorem Ko (l:List Int)(X:l.length<=aK):okI (cm l) (dg l) (l.length+1) 0 (l,0,(i64.wrap ((l.length:Int) - 1)))/\aj (cm l) (l.length+1) 0 (l,0,(i64.wrap ((l.length:Int) - 1)))=.inl l.reverse:=by
 unfold aK at X;rw[az (by omega) (by omega)];have key:∀ (n k:Nat) (s:List Int),n+k=l.length+1->s.length=l.length->2*k<=l.length+1->(∀ p,p<l.length->s.getD p 0=if p<k\/l.length<=p+k then l.getD (l.length - 1 - p) 0 else l.getD p 0)->
   okI (cm l) (dg l) n k (s,(k:Int),(l.length:Int) - 1 - k)/\(1<=n->aj (cm l) n k (s,(k:Int),(l.length:Int) - 1 - k)=.inl l.reverse):=by
  intro n;induction n with
  |zero=>omega
  |succ n Y=>
   intro k s hn hs hk O;have hstep:cm l k (s,(k:Int),(l.length:Int) - 1 - k)=if(k:Int) < (l.length:Int) - 1 - k then .inr ((s.set k (s.getD (l.length - 1 - k) 0)).set (l.length - 1 - k) (s.getD k 0),((k+1:Nat):Int),(l.length:Int) - 1 - ((k+1:Nat):Int))else .inl s:=by
    unfold cm;simp only;by_cases hlt:(k:Int) < (l.length:Int) - 1 - k
    rw[decide_eq_true hlt,if_pos hlt,az (by omega) (by omega),az (by omega) (by omega)];simp only[cond_true,alv];have e:((l.length:Int) - 1 - k).toNat=l.length - 1 - k:=by omega
    grind
    grind
   by_cases hlt:(k:Int) < (l.length:Int) - 1 - k
   have E:∀ p,p<l.length->((s.set k (s.getD (l.length - 1 - k) 0)).set (l.length - 1 - k) (s.getD k 0)).getD p 0=if p<k+1\/l.length<=p+(k+1)then l.getD (l.length - 1 - p) 0 else l.getD p 0:=λp V=>by
    rw[MJ _ _ _ _ _ (by grind),MJ _ _ _ _ _ (by omega)];have h1:=O k (by omega);have h2:=O (l.length - 1 - k) (by omega);rw[if_neg (by omega)]at h1 h2;by_cases W:p=l.length - 1 - k
    rw[if_pos W,if_pos (by omega),h1];congr 1;omega
    rw[if_neg W];by_cases q2:p=k
    grind
    rw[if_neg q2,O p V];omega
   have:=Y (k+1) _ (by omega) (by grind) (by omega) E;refine⟨⟨?_,λs' U=>?_⟩,λ_=>?_⟩;unfold dg;simp only;intro _;have e1:(s.set (Int.toNat (k:Int)) (s.getD (Int.toNat ((l.length:Int) - 1 - k)) 0)).length=l.length:=by grind
   omega;grind
   simp only[aj,hstep,if_pos hlt];grind
   refine⟨⟨?_,λs' U=>?_⟩,λ_=>?_⟩;grind [dg]
   grind
   simp only[aj,hstep,if_neg hlt];congr 1
   apply List.ext_getElem;grind
   intro p h1 h2;rw[List.getElem_reverse];have:=O p (by omega);rw[mC s 0 h1,mC l 0 (by omega)]at this;rw[this];by_cases q:p<k\/l.length<=p+k
   rw[if_pos q];rw[if_neg q,mC l 0 (by omega)];congr 1;omega
 have h0:=key (l.length+1) 0 l (by omega) rfl (by omega) (λp O=>by omega);grind
theorem ady (l:List Int)(E:l.length<=aK):gh l=l.reverse:=by
 grind [gh,Ko]
theorem ah9 (l:List Int):gQ l:=λE=>⟨(Ko l E).1,λz O=>by grind [Ko]⟩
variable {d:ah}
theorem abf(E:apd d){n:Int}(O:0<=n)(h1:n< (d.reaches.length:Int)):(0<n/\0<=(d.reaches.getD n.toNat (eC .reach)).up/\(d.reaches.getD n.toNat (eC .reach)).up<n)\/(n=0/\(d.reaches.getD n.toNat (eC .reach)).up= -1):=by
 have:=((OP _ _).1 (E.reach n.toNat (by omega))).1;grind
theorem MK {d:ah}(U:apd d):∀ (f:Nat) (n:Int),n< (d.reaches.length:Int)->n<f->L9 d f n/\(upL d f n).length<=f/\∀ x∈upL d f n,0<=x/\x< (d.reaches.length:Int)
 |0,n,h1,h2=>⟨by unfold L9;omega,alw _,λx O=>by cases O⟩
 |f+1,n,h1,h2=>by
  by_cases E:0<=n
  have V:(d.reaches.getD n.toNat (eC .reach)).up<n:=by rcases abf U E h1 with⟨_,_,h⟩ | ⟨h,h'⟩ <;>omega
  obtain⟨i1,X,W⟩:=MK U f (d.reaches.getD n.toNat (eC .reach)).up (by omega) (by omega);refine⟨λ_=>⟨h1,i1⟩,?_,λx O=>?_⟩;rw[upL,if_pos E,aly];omega;rw[upL,if_pos E]at O;grind
  refine⟨λh=>absurd h E,by rw[Dt E];simp,λx O=>by grind [Dt]⟩
theorem Bz (d:ah)(l:List Int):jx d l=0↔ap d=0/\∀ x∈l,0<=x/\x< (d.reaches.length:Int):=by
 unfold jx;cases h1:(ap d !=0)with
 |true=>grind
 |false=>
  simp at h1;simp only[cond_false,h1,true_and];let f:Int->Unit->Unit⊕Unit:=λx _=>(bif((decide (x<0)) ||(decide (x>=(d.reaches.length:Int))))then .inl ()else .inr ())
  have e:aj (rq d l) l.length 0 ()=dC f l ():=rK f 0 l ();grind [yB]
structure ap2 (d:ah)(reach:Int):Prop where
 chk:ap d=0
 r0:0<=reach
 r1:reach< (d.reaches.length:Int)
theorem ap2.right{reach:Int}(h:ap2 d reach):apd d:=jw (by rw[h.chk];rfl)
theorem ML (d:ah)(reach:Int):jx d [reach]=0↔ap2 d reach:=by
 rw[Bz];exact⟨λ⟨h1,h2⟩ =>⟨h1,(h2 reach (by simp)).1,(h2 reach (by simp)).2⟩,λh=>⟨h.chk,λx E=>by rw[ami]at E;subst E;exact⟨h.r0,h.r1⟩⟩⟩
theorem ap2.up{reach:Int}(h:ap2 d reach):nZ d reach/\(ed d reach).length<=64/\∀ x∈ed d reach,0<=x/\x< (d.reaches.length:Int):=by
 have:=MK h.right (reach.toNat+1) reach h.r1 (by omega);have h1:=h.right.reaches;have h2:=h.r1;exact⟨this.1,by grind [ed],this.2.2⟩
theorem yC (d:ah)(reach:Int):qs d reach:=λh=>by
 have E:=(ML d reach).1 (by simpa using h);have O:=E.up;exact⟨⟨E.r0,O.1,by unfold d9;omega⟩,ah9 _⟩
theorem FG{reach:Int}(h:ap2 d reach):mg d reach=((ed d reach).reverse,0):=by
 unfold mg;rw[(ML d reach).2 h,ady _ (by have:=h.up.2.1;unfold aK;omega)];rfl
theorem FH {d:ah}(U:apd d):∀ (f m i:Nat) (n:Int) (E:List Int),0<=n->n< (d.reaches.length:Int)->n<f->n<m->E.length+n<=64->
  okI (gO d) (jh d) m i (n::E)/\aj (gO d) m i (n::E)=.inl ((upL d f n).reverse++E)
 |0,_,_,n,_,h0,_,h2,_,_=>by omega
 |f+1,0,_,n,_,h0,_,_,h3,_=>by omega
 |f+1,m+1,i,n,E,h0,h1,h2,h3,h4=>by
  have hg:(n::E).getD 0 (0:Int)=n:=rfl;rcases abf U h0 h1 with⟨Y,O,X⟩ | ⟨V,X⟩;have hstep:gO d i (n::E)=.inr ((d.reaches.getD n.toNat (eC .reach)).up::n::E):=by
   grind [gO]
  obtain⟨i1,i2⟩:=FH U f m (i+1) (d.reaches.getD n.toNat (eC .reach)).up (n::E) O (by omega) (by omega) (by omega) (by grind);refine⟨⟨?_,λs W=>?_⟩,?_⟩;grind [jh,d9]
  grind
  simp_all [aj,upL];subst V;have hstep:gO d i ((0:Int)::E)=.inl (0::E):=rfl;refine⟨⟨?_,λs W=>?_⟩,?_⟩;grind [jh]
  grind
  simp_all [aj,upL,Dt]
theorem adz{reach:Int}(h:ap2 d reach):rS d reach/\iY d reach=(ed d reach).reverse:=by
 have h1:=h.right.reaches;have h2:=h.r1;have O:=h.r0;obtain⟨a,b⟩:=FH h.right (reach.toNat+1) 66 0 reach [] h.r0 h.r1 (by omega) (by omega) (by grind);rw[alT]at b;exact⟨⟨a,λz E=>by grind⟩,by unfold iY;rw[b];rfl⟩
theorem MM (x:Int)(l:List Int):gc (x::l)=if x=0 then gc l else x:=by
 have key:∀ l:List Int,gc l=match dC (ρ:=Int) (λ(x:Int) (_:Unit) =>bif(x !=0)then .inl x else .inr ()) l ()with| .inl y=>y| .inr _=>0:=λl=>by
  unfold gc;have:=rK (ρ:=Int) (λ(x:Int) (_:Unit) =>bif(x !=0)then .inl x else .inr ()) 0 l ();rw[<-this];rfl
 rw[key,key];simp only[dC];by_cases h:x=0
 subst h;rfl;have:(x !=0)=true:=by simpa using h
 rw[if_neg h,this];rfl
def OZ:gc []=0:=rfl
theorem FI:∀ l:List (Int×Int),(gc (l.map λp=>bj p.1 p.2) <0↔oO l)
 | [] =>by simp[OZ,oO]
 |(a,b)::r=>by
  have hc:=jv a b;simp only[amh,MM,hc,oO];rcases an3 a b with h|h|h;simp[h];subst h;simp only[aoA,if_false,if_true,true_and,false_or,gt_iff_lt];exact FI r;have h1:¬a<b:=by omega
  have h2:a≠b:=by omega
  simp[h1,h2,h]
def rU (a b:Claim):Prop:=oO [(a.hour,b.hour),(a.aoX,b.aoX),(a.right,b.right),(a.ee,b.ee)]
def Ap (a b:Claim):cS a b<0↔rU a b:=FI [(a.hour,b.hour),(a.aoX,b.aoX),(a.right,b.right),(a.ee,b.ee)]
def FJ (a b:T1):fI a b<0↔rU a.C1 b.C1:=Ap a.C1 b.C1
open Go.Shelf Go.Sort in
theorem Ix:SWO (ltOf fI):=J_ FJ (λx=>by simp only[rU,oO,and_false,or_false];omega) (λx y z h1 h2=>by simp only[rU,oO,and_false,or_false]at *;omega) (λx y z h1 h2=>by simp only[rU,oO,and_false,or_false]at *;omega)
def hrs (a b:Int):List Int:=(List.range (b+1 - a).toNat).map λk:Nat=>a+(k:Int)
variable {a:Int}
theorem ZV{b:Int}(h:b<a):hrs a b=[]:=by unfold hrs;rw[show(b+1 - a).toNat=0 by omega];rfl
theorem MN{b:Int}(h:a<=b+1):hrs a (b+1)=hrs a b++[b+1]:=by
 unfold hrs;rw[show(b+1+1 - a).toNat=(b+1 - a).toNat+1 by omega,aoo,anP,List.map_singleton,show a+(((b+1 - a).toNat:Nat):Int)=b+1 by omega]
theorem ZW{b x:Int}:x∈hrs a b↔a<=x/\x<=b:=by
 unfold hrs;rw[anq];constructor
 rintro⟨k,E,rfl⟩;rw[amX]at E;omega;rintro⟨h1,h2⟩;exact⟨(x - a).toNat,by rw[amX];omega,by omega⟩
theorem adA (a b:Int):(hrs a b).Pairwise (· < ·):=by
 unfold hrs;rw[anF];exact List.pairwise_lt_range.imp λh=>by omega
theorem Q5 (a b:Int):(hrs a b).length=(b+1 - a).toNat:=by unfold hrs;simp
theorem ZX {α β:Type}{R:β->β->Prop}{S:α->α->Prop}{f:α->List β}{l:List α}(E:l.Pairwise S)(h1:∀ a∈l,(f a).Pairwise R)(h2:∀ a∈l,∀ b∈l,S a b->∀ x∈f a,∀ y∈f b,R x y):(l.flatMap f).Pairwise R:=by
 rw[aor];refine⟨h1,?_⟩;exact E.imp_of_mem λ{a b} U V O=>h2 a U b V O
theorem SQ {α β:Type}{f g:α->List β}{l:List α}(h:∀ a∈l,(f a).Perm (g a)):(l.flatMap f).Perm (l.flatMap g):=by
 induction l with
 |nil=>exact List.Perm.refl _
 |cons a l E=>
  rw[alO,alO];exact(h a (by simp)).append (E λb O=>h b (by simp[O]))
open Go.Shelf Go.Sort in
theorem O0 {α:Type}{cf:α->α->Int}(O:SWO (ltOf cf)){s m:List α}(W:s.Perm m)(V:m.Pairwise λx y=>cf x y<0):apart cf s/\srt cf s=m:=by
 have X:∀ x y,ltOf cf x y=true↔cf x y<0:=λx y=>by unfold ltOf;rw[decide_eq_true_eq]
 have U:∀ x∈m,∀ y∈m,ltOf cf x y=false->ltOf cf y x=false->x=y:=λx E y hy h1 h2=>by
  obtain⟨i,hi,rfl⟩:=al9.1 E;obtain⟨j,hj,rfl⟩:=al9.1 hy;rw[al3]at V;rcases an4 i j with h|h|h;rw[(X _ _).2 (V i j hi hj h)]at h1;cases h1;subst h;rfl;rw[(X _ _).2 (V j i hj hi h)]at h2;cases h2
 refine⟨λx E y hy h1 h2=>U x (W.subset E) y (W.subset hy) h1 h2,?_⟩;unfold srt;have hq:(s.mergeSort λx y=>!(ltOf cf y x)).Perm m:=(amr _ _).trans W;refine amx (le:=λx y=>(!ltOf cf y x)=true) ?_ ?_ ?_ hq;intro x y E hy h1 h2;simp only[alL]at h1 h2;exact U x (hq.subset E) y hy h2 h1;refine amm ?_ ?_ s;intro a b c h1 h2;simp only[alL]at h1 h2 |-;exact O.3 c b a h2 h1;intro a b;simp only[alY,alL];cases h1:ltOf cf b a with
 |false=>exact .inl rfl
 |true=>
  right;cases h2:ltOf cf a b with
  |false=>rfl|true=>have:=O.2 _ _ _ h1 h2;rw[O.1]at this;cases this
 refine V.imp λ{a b} Y=>?_;simp only[alL];cases h2:ltOf cf b a with
 |false=>rfl|true=>have:=O.2 _ _ _ ((X _ _).2 Y) h2;rw[O.1]at this;cases this
end Go.Sx
end
section
namespace Go.Proofs
open Go.Shelf
def Tryz.aqG:Go.Shelf.Ren:=⟨λ|6=>231|15=>133|14=>286|28=>199|29=>200|20=>319|21=>320|22=>321|23=>322|24=>323|25=>324|26=>325|27=>326|46=>340|47=>260|48=>261|49=>341|50=>342|57=>346|n=>n,λ|22=>218|24=>222|25=>325|3=>3|39=>229|0=>0|53=>294|55=>296|4=>4|46=>288|45=>287|50=>267|5=>5|9=>9|66=>342|70=>60|76=>375|77=>376|n=>n,λ|n=>n⟩
theorem Tryz.ara:Go.Proofs.SlLaysF0.n6 Tryz.prog Tryz.aqG:= {
 mixed:=by kernel_rfl
 f6:=⟨Tryz.f231.name,by decide,Tryz.func231.trans (congrArg some (by kernel_rfl))⟩
 f14:=⟨Tryz.f286.name,by decide,Tryz.func286.trans (congrArg some (by kernel_rfl))⟩
 f15:=Tryz.func133.trans (congrArg some (by kernel_rfl))
 f20:=⟨Tryz.f319.name,by decide,Tryz.func319.trans (congrArg some (by kernel_rfl))⟩
 f21:=⟨Tryz.f320.name,by decide,Tryz.func320.trans (congrArg some (by kernel_rfl))⟩
 f22:=⟨Tryz.f321.name,by decide,Tryz.func321.trans (congrArg some (by kernel_rfl))⟩
 f23:=⟨Tryz.f322.name,by decide,Tryz.func322.trans (congrArg some (by kernel_rfl))⟩
 f24:=⟨Tryz.f323.name,by decide,Tryz.func323.trans (congrArg some (by kernel_rfl))⟩
 f25:=⟨Tryz.f324.name,by decide,Tryz.func324.trans (congrArg some (by kernel_rfl))⟩
 f26:=⟨Tryz.f325.name,by decide,Tryz.func325.trans (congrArg some (by kernel_rfl))⟩
 f27:=⟨Tryz.f326.name,by decide,Tryz.func326.trans (congrArg some (by kernel_rfl))⟩
 f28:=Tryz.func199.trans (congrArg some (by kernel_rfl))
 f29:=Tryz.func200.trans (congrArg some (by kernel_rfl))
 f46:=⟨Tryz.f340.name,by decide,Tryz.func340.trans (congrArg some (by kernel_rfl))⟩
 f47:=Tryz.func260.trans (congrArg some (by kernel_rfl))
 f48:=Tryz.func261.trans (congrArg some (by kernel_rfl))
 f49:=⟨Tryz.f341.name,by decide,Tryz.func341.trans (congrArg some (by kernel_rfl))⟩
 f50:=⟨Tryz.f342.name,by decide,Tryz.func342.trans (congrArg some (by kernel_rfl))⟩
 f57:=⟨Tryz.f346.name,by decide,Tryz.func346.trans (congrArg some (by kernel_rfl))⟩
 t0:=Tryz.underlying0
 a0:=Tryz.isAgg0
 z0:=Tryz.sizeOf0
 v0:=Tryz.zeroValue0
 t3:=Tryz.underlying3
 a3:=Tryz.isAgg3
 z3:=Tryz.sizeOf3
 v3:=Tryz.zeroValue3
 t4:=Tryz.underlying4
 a4:=Tryz.isAgg4
 z4:=Tryz.sizeOf4
 v4:=Tryz.zeroValue4
 t5:=Tryz.underlying5
 a5:=Tryz.isAgg5
 z5:=Tryz.sizeOf5
 v5:=Tryz.zeroValue5
 t9:=Tryz.underlying9
 a9:=Tryz.isAgg9
 z9:=Tryz.sizeOf9
 v9:=Tryz.zeroValue9
 t22:=Tryz.underlying218
 a22:=Tryz.isAgg218
 z22:=Tryz.sizeOf218
 v22:=Tryz.zeroValue218
 t25:=Tryz.underlying325
 a25:=Tryz.isAgg325
 z25:=Tryz.sizeOf325
 v25:=Tryz.zeroValue325
 t39:=Tryz.underlying229
 a39:=Tryz.isAgg229
 z39:=Tryz.sizeOf229
 v39:=Tryz.zeroValue229
 t45:=Tryz.underlying287
 a45:=Tryz.isAgg287
 z45:=Tryz.sizeOf287
 v45:=Tryz.zeroValue287
 t46:=Tryz.underlying288
 a46:=Tryz.isAgg288
 z46:=Tryz.sizeOf288
 v46:=Tryz.zeroValue288
 t50:=Tryz.underlying267
 a50:=Tryz.isAgg267
 z50:=Tryz.sizeOf267
 v50:=Tryz.zeroValue267
 t53:=Tryz.underlying294
 a53:=Tryz.isAgg294
 z53:=Tryz.sizeOf294
 v53:=Tryz.zeroValue294
 t55:=Tryz.underlying296
 a55:=Tryz.isAgg296
 z55:=Tryz.sizeOf296
 v55:=Tryz.zeroValue296
 t66:=Tryz.underlying342
 a66:=Tryz.isAgg342
 z66:=Tryz.sizeOf342
 v66:=Tryz.zeroValue342
 t70:=Tryz.underlying60
 a70:=Tryz.isAgg60
 z70:=Tryz.sizeOf60
 v70:=Tryz.zeroValue60
 t76:=Tryz.underlying375
 a76:=Tryz.isAgg375
 z76:=Tryz.sizeOf375
 v76:=Tryz.zeroValue375
 t77:=Tryz.underlying376
 a77:=Tryz.isAgg376
 z77:=Tryz.sizeOf376
 v77:=Tryz.zeroValue376}
end Go.Proofs
end
section
namespace Go.Sx
open Go.Lib Go.Proofs Go.RowKit Go.Shelf Go.Sort
noncomputable def Cu:List SV->List Ob->Option ao3:=iU .holding 232 [] cU
@[go_sem]def Wh {l0:List aoS}:Cu [.os 0,.fn 232 [] []] [.row .holding l0]=some (fL (apart cU l0) (.tup []) [.row .holding (srt cU l0)]):=mX
theorem Hw:wQ .holding:=λx s E=>by
 simp only[cellsOf,alD,amf,or_false]at E;rcases E with rfl|rfl|rfl|rfl;all_goals exact⟨_,rfl,rfl⟩
theorem Cv (x y:aoS):vT (.agg (cellsOf .holding x):: .agg (cellsOf .holding y)::[])=some (.det True (.v (.int .i64 (cU x y)))):=by
 simp only[go_sem,Nat.reduceBEq]
theorem Kp:ao2 Tryz.prog 231 Cu:=
 qJ (k:=.holding) Tryz.ara (λw=>by kernel_rfl) (λw=>by kernel_rfl) Hw (by decide) (g:=232) (caps:=[]) Br (cf:=cU) Cv Cq (λs E=>by cases E) ⟨default,default,Cv _ _⟩
end Go.Sx
end
section
namespace Go.Sx
open Go.Proofs
open IntKind (i64)
variable {p:Prop}
theorem clQ(h:p:=by((repeat' (first|with_reducible refine And.intro ?_ ?_|with_reducible intro _)) <;>(first|done|with_reducible exact Empty.elim ‹Empty› |with_reducible assumption|rfl|((try simp only[JS,VM]at *);first|with_reducible assumption|(simp_all only[cq,eo];done) |grind|(simp_all only[cq,eo];grind))))):p:=h
@[go_sem] def eW (a0:ah)(a1:List bl)(a2:Int)(a3:Int)(S2:x4×Int)(ly:List aoS):Empty⊕(List aoS):=(bif(decide (S2.2 > 0))then .inr (ly++([({ right:=S2.1.right,ee:=S2.1.ee,dd:=S2.2,aoX:=(a0.al.getD (Int.toNat S2.1.right) default).aoX}:aoS)]))else .inr ly)
def mE (a0:ah)(a1:List bl)(a2:Int)(a3:Int)(S2:x4×Int)(ly:List aoS):Prop:=((decide (S2.2 > 0))=true->((0<=S2.1.right/\S2.1.right< (a0.al.length:Int))/\((ly++([({ right:=S2.1.right,ee:=S2.1.ee,dd:=S2.2,aoX:=(a0.al.getD (Int.toNat S2.1.right) default).aoX}:aoS)])).length*32<=d9)))
def aw (a0:ah)(a1:List bl)(a2:Int)(a3:Int):List aoS×Int:=letI q0:=aP a0 a1;(bif(q0 !=0)then([],q0)else(bif((!(aO a2 0 (i64.wrap (a0.hours - 1)))) ||(!(aO a3 0 1048576)))then([],1)else(match dC (eW a0 a1 a2 a3) ((ff a0 (eI a1 a2 a3)).1) ([])with| .inl x=>x.elim| .inr ly=>((srt cU ly),0))))
def qt (a0:ah)(a1:List bl)(a2:Int)(a3:Int):Prop:=letI q0:= !(aO a2 0 (i64.wrap (a0.hours - 1)));letI q1:=aw a0 a1 a2 a3;letI q2:=aP a0 a1;letI q3:= !(aO a3 0 1048576);letI q4:=eI a1 a2 a3;letI q5:=eW a0 a1 a2 a3;((jU a0 a1)/\(((q2 !=0)=true->(([],q2)=q1))/\((q2 !=0)=false->(((q0||q3)=true->(([],1)=q1))/\((q0||q3)=false->((iz a1 a2 a3)/\((lh a0 q4)/\(∀ L_0,L_0.Perm ((ff a0 q4).1)->(okL q5 (mE a0 a1 a2 a3) L_0 ([])/\(∀ ly,dC q5 L_0 ([])=.inr ly->((apart cU ly)/\(((srt cU ly),0)=q1))))))))))))
@[go_sem] def yD:List SV->Option Con:=(pD .bh λa0=>(pR .x6 λa1=>(pI λa2=>(pI λa3=>(pE (.det (qt a0 a1 a2 a3) (.tup [.nw .holding ((aw a0 a1 a2 a3).1),.v (.int .i64 ((aw a0 a1 a2 a3).2))])))))))
theorem abg{l0 l1:List Nat}(a0:JL l0)(a1:JL l1)(h:JL l0->JL l1->p:=by intro ja jb;simp only[go_sem,amf];all_goals exact gE ja jb):p:=h a0 a1
theorem ah_(h:p:=by simp only[go_sem];all_goals exact clQ):p:=h
theorem FK:B1 Tryz.prog 157 yD:=by
 have hG:=mG (cn [.st .bh,.sl .x6] tK (cp sL (cn [.st .bh,.o] y6 (cn [.sl .x6,.o,.o] wW P0)))) (co Kp P0);refine fW hG Tryz.f157 [(.tmp 8,.holding)] (av λa0=>(bN λa1=>(ay λW=>(ay λX=>(am (λhp=>?_))))));dsimp only[an]at hp;unfold qt at hp;refine⟨nbl rfl,(λid st=>bif Nat.beq id 0 then some (LCP (τ:=x4×Int) (ρ:=Empty) (σ:=(List aoS)) 4 [.slot 8 (.row .holding ([]))] [0,1,2,3,4] (λE O U=>⟨[(4,.ptr 0 0),(8,.os 4),(41,.ptr 3 0)],[.cells (cellsOf .bh a0),.mp .gl .int ((ff a0 (eI a1 W X)).1) (some (3,none)),.dead,.mi (some 1) (((ff a0 (eI a1 W X)).1).length) E O,.row .holding U]⟩) (eW a0 a1 W X) (mE a0 a1 W X) ((ff a0 (eI a1 W X)).1) ([]) ((·.elim)) ((·.elim)) (λU=>⟨[(8,.os 4)],[.dead,.dead,.dead,.dead,.row .holding U]⟩) st)else none),?_,?_⟩
 ·unfold ae Tryz.f157;simp only[ak,true_and,and_true]
  ·refine L4 (eC .gl,eC .int) 3 mixed aD hG kr (λ_=>rfl) λE O U hp0=>⟨L0,ag _,?_⟩
   ·by_cases V:E=[]
    subst V;exact abg (jl [0,1,2,3,7]) (jl [0,1,2,3,4])
    ·simp only[go_sem,V];intro j Y;obtain⟨aqm,hq0⟩:=hp0 j Y;unfold mE at hq0;all_goals exact gE (jl [0,1,2,3,7]) (jl [0,1,2,3,4])
 unfold ae Tryz.f157;exact ah_
@[go_sem] def BA (x:Claim):List SV:=[.agg (cellsOf .C1 x)]
@[go_sem] def Hz:List SV->Option Con:=(pD .bh λd=>(pR .x6 λl_=>(pI λhour=>(pI λknown=>(pE (.det True (.fn 156 [] [.ep (cellsOf .bh d) 0,.ep [.rs .x6 l_] 0,.ep [.v (.int .i64 hour)] 0,.ep [.v (.int .i64 known)] 0])))))))
theorem FL:B1 Tryz.prog 100 Hz:=by
 have hG:=mG P0 P0;refine fN hG Tryz.f100 [.o] (av λd=>(bN λE=>(ay λhour=>(ay λknown=>(am (λO=>?_))))));refine⟨nbl rfl,L0,ag _,?_⟩;unfold ae Tryz.f100;simp only[go_sem,sF,sG,Nat.reduceBEq,Nat.reduceLeDiff,Nat.reduceAdd,Nat.reduceSub,Nat.reduceMul]
@[go_sem] def iQ (d:ah)(l_:List bl)(hour:Int)(known:Int)(S2:Nat)(ly:List Claim):Empty⊕(List Claim):=letI q0:=((aw d l_ hour known).1).getD S2 default;letI q1:=d.al.getD (Int.toNat (q0.right)) default;(bif(((decide (hour<q1.since)) ||(decide (hour > q1.to))) ||(decide ((Int.tmod (i64.wrap (hour - q1.since)) (q1.every))>=q1.length)))then .inr ly else .inr (ly++[({ right:=q0.right,ee:=q0.ee,hour:=hour,dd:=q0.dd,aoX:=q0.aoX}:Claim)]))
def nS (d:ah)(l_:List bl)(hour:Int)(known:Int)(ao5:List (List SV))(S2:Nat)(ly:List Claim):Prop:=letI q1:=((aw d l_ hour known).1).getD S2 default;letI q0:=d.al.getD (Int.toNat (q1.right)) default;letI q2:=decide (hour<q0.since);letI q3:=decide (hour > q0.to);((0<=q1.right/\q1.right< (d.al.length:Int))/\(((q2||q3)=false->q0.every≠0)/\(((q2||q3) ||(decide ((Int.tmod (i64.wrap (hour - q0.since)) (q0.every))>=q0.length)))=false->(ao5[ly.length]? =some (BA ({ right:=q1.right,ee:=q1.ee,hour:=hour,dd:=q1.dd,aoX:=q1.aoX}:Claim))))))
def fC (d:ah)(l_:List bl)(hour:Int)(known:Int):List Claim:=(match aj (iQ d l_ hour known) (((aw d l_ hour known).1).length) 0 ([]:List Claim)with| .inl x=>x.elim| .inr ly=>ly)
def kI (d:ah)(l_:List bl)(hour:Int)(known:Int)(ao5:List (List SV)):Prop:=letI q0:=(aw d l_ hour known).1;letI q1:=iQ d l_ hour known;((qt d l_ hour known)/\(q0.length<=aK->(okI q1 (nS d l_ hour known ao5) (q0.length) 0 ([]:List Claim)/\(∀ ly,aj q1 (q0.length) 0 ([]:List Claim)=.inr ly->(ao5.length=ly.length)))))
theorem BB (d:ah)(O:List bl)(hour:Int)(known:Int)(E:List (List SV))(hp:kI d O hour known E):zS Tryz.prog 156 (λy=>[y,.ep (cellsOf .bh d) 0,.ep [.rs .x6 O] 0,.ep [.v (.int .i64 hour)] 0,.ep [.v (.int .i64 known)] 0]) [] E:=by
 unfold kI at hp;refine Bc mixed aD (fn:=Tryz.f156) (c:=ae Tryz.f156) kr kr kr kr rfl (n:=0) rfl (G:=λX=>zT [(157,λl=>yD (yI [.st .bh,.sl .x6,.o,.o] l))] [] (CJ E X)) (λX hy=>?_) (λargs w=>by kernel_rfl);have hG:=mGY (cn [.st .bh,.sl .x6,.o,.o] FK P0) P0 hy;refine⟨hG,nbl rfl,(λid st=>bif Nat.beq id 0 then some (LCY (ρ:=Empty) (σ:=(List Claim)) 2 [] [0,1] (λV U=>⟨[(0,.os 0),(1,.ep (cellsOf .bh d) 0),(3,.ep [.v (.int .i64 hour)] 0),(19,.os 1),(20,.v (.int .i64 (((aw d O hour known).1).length:Int))),(21,.v (.int .i64 (V:Int)))],[.ab (X.1 (U.length+1)),.row .holding ((aw d O hour known).1)]⟩) (iQ d O hour known) (nS d O hour known E) (((aw d O hour known).1).length) ([]:List Claim) (((aw d O hour known).1).length<=aK) ((·.elim)) ((·.elim)) ⟨[],[.ab (X.1 0),.dead]⟩ st)else none),?_,?_⟩;unfold ae Tryz.f156;simp only[ak,true_and,and_true];refine sH mixed aD hG kr (λ_=>rfl) (((aw d O hour known).1).length:Int) rfl fM (λhb0 V U Y W hw hc=>⟨L0,ag _,?_⟩) (λhb0 U hc=>?_);unfold nS at W;try simp only[hw,alv]at W
 exact oI (jl [0,1]);exact oJ (jl [0,1]);unfold ae Tryz.f156;exact Mk (jl [0])
end Go.Sx
end
section
namespace Go.Proofs
open Go.Shelf
def Tryz.aqC:Go.Shelf.Ren:=⟨λ|6=>105|15=>133|14=>162|28=>199|29=>200|20=>235|21=>236|22=>237|23=>238|24=>239|25=>240|26=>241|27=>242|46=>287|47=>260|48=>261|49=>288|50=>289|57=>327|n=>n,λ|22=>115|24=>119|25=>186|3=>3|39=>229|0=>0|53=>294|55=>296|4=>4|46=>288|45=>287|50=>267|5=>5|9=>9|66=>342|70=>60|76=>375|77=>376|n=>n,λ|n=>n⟩
theorem Tryz.aq6:Go.Proofs.SlLaysF0.n6 Tryz.prog Tryz.aqC:= {
 mixed:=by kernel_rfl
 f6:=⟨Tryz.f105.name,by decide,Tryz.func105.trans (congrArg some (by kernel_rfl))⟩
 f14:=⟨Tryz.f162.name,by decide,Tryz.func162.trans (congrArg some (by kernel_rfl))⟩
 f15:=Tryz.func133.trans (congrArg some (by kernel_rfl))
 f20:=⟨Tryz.f235.name,by decide,Tryz.func235.trans (congrArg some (by kernel_rfl))⟩
 f21:=⟨Tryz.f236.name,by decide,Tryz.func236.trans (congrArg some (by kernel_rfl))⟩
 f22:=⟨Tryz.f237.name,by decide,Tryz.func237.trans (congrArg some (by kernel_rfl))⟩
 f23:=⟨Tryz.f238.name,by decide,Tryz.func238.trans (congrArg some (by kernel_rfl))⟩
 f24:=⟨Tryz.f239.name,by decide,Tryz.func239.trans (congrArg some (by kernel_rfl))⟩
 f25:=⟨Tryz.f240.name,by decide,Tryz.func240.trans (congrArg some (by kernel_rfl))⟩
 f26:=⟨Tryz.f241.name,by decide,Tryz.func241.trans (congrArg some (by kernel_rfl))⟩
 f27:=⟨Tryz.f242.name,by decide,Tryz.func242.trans (congrArg some (by kernel_rfl))⟩
 f28:=Tryz.func199.trans (congrArg some (by kernel_rfl))
 f29:=Tryz.func200.trans (congrArg some (by kernel_rfl))
 f46:=⟨Tryz.f287.name,by decide,Tryz.func287.trans (congrArg some (by kernel_rfl))⟩
 f47:=Tryz.func260.trans (congrArg some (by kernel_rfl))
 f48:=Tryz.func261.trans (congrArg some (by kernel_rfl))
 f49:=⟨Tryz.f288.name,by decide,Tryz.func288.trans (congrArg some (by kernel_rfl))⟩
 f50:=⟨Tryz.f289.name,by decide,Tryz.func289.trans (congrArg some (by kernel_rfl))⟩
 f57:=⟨Tryz.f327.name,by decide,Tryz.func327.trans (congrArg some (by kernel_rfl))⟩
 t0:=Tryz.underlying0
 a0:=Tryz.isAgg0
 z0:=Tryz.sizeOf0
 v0:=Tryz.zeroValue0
 t3:=Tryz.underlying3
 a3:=Tryz.isAgg3
 z3:=Tryz.sizeOf3
 v3:=Tryz.zeroValue3
 t4:=Tryz.underlying4
 a4:=Tryz.isAgg4
 z4:=Tryz.sizeOf4
 v4:=Tryz.zeroValue4
 t5:=Tryz.underlying5
 a5:=Tryz.isAgg5
 z5:=Tryz.sizeOf5
 v5:=Tryz.zeroValue5
 t9:=Tryz.underlying9
 a9:=Tryz.isAgg9
 z9:=Tryz.sizeOf9
 v9:=Tryz.zeroValue9
 t22:=Tryz.underlying115
 a22:=Tryz.isAgg115
 z22:=Tryz.sizeOf115
 v22:=Tryz.zeroValue115
 t25:=Tryz.underlying186
 a25:=Tryz.isAgg186
 z25:=Tryz.sizeOf186
 v25:=Tryz.zeroValue186
 t39:=Tryz.underlying229
 a39:=Tryz.isAgg229
 z39:=Tryz.sizeOf229
 v39:=Tryz.zeroValue229
 t45:=Tryz.underlying287
 a45:=Tryz.isAgg287
 z45:=Tryz.sizeOf287
 v45:=Tryz.zeroValue287
 t46:=Tryz.underlying288
 a46:=Tryz.isAgg288
 z46:=Tryz.sizeOf288
 v46:=Tryz.zeroValue288
 t50:=Tryz.underlying267
 a50:=Tryz.isAgg267
 z50:=Tryz.sizeOf267
 v50:=Tryz.zeroValue267
 t53:=Tryz.underlying294
 a53:=Tryz.isAgg294
 z53:=Tryz.sizeOf294
 v53:=Tryz.zeroValue294
 t55:=Tryz.underlying296
 a55:=Tryz.isAgg296
 z55:=Tryz.sizeOf296
 v55:=Tryz.zeroValue296
 t66:=Tryz.underlying342
 a66:=Tryz.isAgg342
 z66:=Tryz.sizeOf342
 v66:=Tryz.zeroValue342
 t70:=Tryz.underlying60
 a70:=Tryz.isAgg60
 z70:=Tryz.sizeOf60
 v70:=Tryz.zeroValue60
 t76:=Tryz.underlying375
 a76:=Tryz.isAgg375
 z76:=Tryz.sizeOf375
 v76:=Tryz.zeroValue375
 t77:=Tryz.underlying376
 a77:=Tryz.isAgg376
 z77:=Tryz.sizeOf376
 v77:=Tryz.zeroValue376}
end Go.Proofs
end
section
namespace Go.Sx
open Go.Lib Go.Proofs Go.RowKit Go.Shelf Go.Sort
noncomputable def Cw:List SV->List Ob->Option ao3:=iU .X1 106 [] fI
@[go_sem]def Wi {l0:List T1}:Cw [.os 0,.fn 106 [] []] [.row .X1 l0]=some (fL (apart fI l0) (.tup []) [.row .X1 (srt fI l0)]):=mX
theorem MO:wQ .X1:=λx s E=>by
 simp only[cellsOf,alD,amf,or_false]at E;rcases E with rfl|rfl|rfl|rfl|rfl|rfl;all_goals exact⟨_,rfl,rfl⟩
theorem Iy (x y:T1):w_ (.agg (cellsOf .X1 x):: .agg (cellsOf .X1 y)::[])=some (.det True (.v (.int .i64 (fI x y)))):=by
 simp only[go_sem,Nat.reduceBEq]
theorem Kq:ao2 Tryz.prog 105 Cw:=
 qJ (k:=.X1) Tryz.aq6 (λw=>by kernel_rfl) (λw=>by kernel_rfl) MO (by decide) (g:=106) (caps:=[]) C5 (cf:=fI) Iy Ix (λs E=>by cases E) ⟨default,default,Iy _ _⟩
end Go.Sx
end
section
namespace Go.Sx
open Go.Proofs
open IntKind (i64)
@[go_sem] def fY (a0:ah)(a1:List bl)(a4:Int)(ly:List T1×Int)(z_1:Claim)(s_1:List T1):Empty⊕(List T1):=letI q0:=(mg a0 ((a0.u0.getD (Int.toNat z_1.ee) default).reach)).1;letI q1:=dJ q0 (cD a0 ly.2) z_1;(bif(decide (q1>=0))then .inr (s_1++([({ C1:=z_1,reach:=(q0.getD (Int.toNat q1) 0)}:T1)]))else .inr (s_1++([({ C1:=z_1,reach:=(-1)}:T1)])))
def ix (a0:ah)(a1:List bl)(a4:Int)(ly:List T1×Int)(z_1:Claim)(s_1:List T1):Prop:=letI q1:=(a0.u0.getD (Int.toNat z_1.ee) default).reach;letI q2:=(mg a0 q1).1;letI q0:=dJ q2 (cD a0 ly.2) z_1;((0<=z_1.ee/\z_1.ee< (a0.u0.length:Int))/\((qs a0 q1)/\(((decide (q0>=0))=true->((0<=q0/\q0< (q2.length:Int))/\((s_1++([({ C1:=z_1,reach:=(q2.getD (Int.toNat q0) 0)}:T1)])).length*48<=d9)))/\((decide (q0>=0))=false->((s_1++([({ C1:=z_1,reach:=(-1)}:T1)])).length*48<=d9)))))
@[go_sem] def jC (a0:ah)(a1:List bl)(a3:Int)(a4:Int)(S2:Nat)(ly:List T1×Int):(List T1)⊕(List T1×Int):=(bif(decide (ly.2<=a3))then(match dC (fY a0 a1 a4 ly) (fC a0 a1 ly.2 a4) ly.1 with| .inl x=>x.elim| .inr s_1=>.inr (s_1,(i64.wrap (ly.2+1))))else .inl ly.1)
def kJ (a0:ah)(a1:List bl)(a3:Int)(a4:Int)(S2:Nat)(ly:List T1×Int):Prop:=((decide (ly.2<=a3))=true->((kI a0 a1 ly.2 a4 ((fC a0 a1 ly.2 a4).map BA))/\okL (fY a0 a1 a4 ly) (ix a0 a1 a4 ly) (fC a0 a1 ly.2 a4) ly.1))
def eX (a0:ah)(a1:List bl)(a2:Int)(a3:Int)(a4:Int):List T1×Int:=letI q0:=aP a0 a1;(bif(q0 !=0)then([],q0)else(bif(((((decide (a2<0)) ||(decide (a2 > a3))) ||(decide (a3>=a0.hours))) ||(decide (a4<0))) ||(decide (a4 > 1048576)))then([],1)else(bif(decide ((i64.wrap ((i64.wrap ((i64.wrap (a3 - a2))+1))*(a0.al.length:Int))) > 4096))then([],2)else(match aj (jC a0 a1 a3 a4) 4098 0 ([],a2)with| .inl pq=>((srt fI pq),0) | .inr ly=>default))))
def oW (a0:ah)(a1:List bl)(a2:Int)(a3:Int)(a4:Int):Prop:=letI q0:=jC a0 a1 a3 a4;((jU a0 a1)/\(((aP a0 a1) !=0)=false->((((((decide (a2<0)) ||(decide (a2 > a3))) ||(decide (a3>=a0.hours))) ||(decide (a4<0))) ||(decide (a4 > 1048576)))=false->(a0.al.length<=aK->((decide ((i64.wrap ((i64.wrap ((i64.wrap (a3 - a2))+1))*(a0.al.length:Int))) > 4096))=false->(okI q0 (kJ a0 a1 a3 a4) 4098 0 ([],a2)/\(∀ z_,aj q0 4098 0 ([],a2)≠ .inr z_)/\(∀ pq,aj q0 4098 0 ([],a2)=.inl pq->(apart fI pq))))))))
@[go_sem] def Kr:List SV->Option Con:=(pD .bh λa0=>(pR .x6 λa1=>(pI λa2=>(pI λa3=>(pI λa4=>(pE (.det (oW a0 a1 a2 a3 a4) (.tup [.nw .X1 ((eX a0 a1 a2 a3 a4).1),.v (.int .i64 ((eX a0 a1 a2 a3 a4).2))]))))))))
variable {p:Prop}
theorem aia(h:p:=by simp only[go_sem,e1_0,e1_1,e1_2,e1_3,e1_4,e1_5,e1_6,e1_7]):p:=h
variable {l0 l1:List Nat}
theorem aib(a0:JL l0)(a1:JL l1)(h:JL l0->JL l1->p:=by intro ja jb;simp only[go_sem,fV,fY,psT,BA,alU,alC];all_goals exact gE ja jb):p:=h a0 a1
theorem abh(a0:JL l0)(a1:JL l1)(h:JL l0->JL l1->p:=by intro ja jb;simp only[go_sem,fV];all_goals exact gE ja jb):p:=h a0 a1
theorem aic(h:p:=by simp only[go_sem,fV];all_goals exact cl):p:=h
theorem HA:B1 Tryz.prog 56 Kr:=by
 have hG:=mG (cn [.st .bh,.sl .x6] tK (cn [.st .bh,.o] C3 (cn [.st .bh,.sl .x6,.o,.o] FL (cn [.st .bh,.o] FF (cn [.sl .int,.o] rk P0))))) (co Kq P0);refine fW hG Tryz.f56 [(.cell 10 0,.X1)] (av λa0=>(bN λa1=>(ay λa2=>(ay λW=>(ay λO=>(am (λY=>?_)))))));dsimp only[an]at Y;unfold oW at Y;refine⟨nbl rfl,(λid st=>bif Nat.beq id 0 then some (LCV (ρ:=(List T1)) (σ:=(List T1×Int)) 2 [.cell 1 0 (.row .X1 ([]))] [0,1,2] (λS2 E=>⟨[(1,.rs .x6 a1),(3,.v (.int .i64 W)),(4,.v (.int .i64 O)),(5,.ptr 0 0),(10,.ptr 1 0),(12,.v (.int .i64 E.2))],[.cells (cellsOf .bh a0),.cells [.os 2],.row .X1 E.1]⟩) (jC a0 a1 W O) (kJ a0 a1 W O) 4098 ([],a2) (λ_=>.normal) (λV=>⟨[(10,.ptr 1 0)],[.dead,.cells [.os 2],.row .X1 V]⟩) st)else none),?_,?_⟩
 ·unfold ae Tryz.f56;simp only[ak,true_and,and_true]
  ·refine eQ mixed aD hG kr (λ_=>rfl) λS2 E hq0=>⟨(λid st=>bif Nat.beq id 2 then some (LC (ρ:=Empty) (σ:=List T1) (lk 1 st.t=.rs .x6 a1/\lk 3 st.t=.v (.int .i64 W)/\lk 4 st.t=.v (.int .i64 O)/\lk 5 st.t=.ptr 0 0/\lk 10 st.t=.ptr 1 0/\lk 12 st.t=.v (.int .i64 E.2)/\lk 13 st.t=.ptr 6 0/\lk 68 st.t=.fn 156 [] [.ep (cellsOf .bh a0) 0,.ep [.rs .x6 a1] 0,.ep [.v (.int .i64 E.2)] 0,.ep [.v (.int .i64 O)] 0]/\st.h=[.cells (cellsOf .bh a0),.cells [.os 2],.row .X1 E.1,.mp .int .int ((cD a0 E.2).apY) none,.mp .M1 .bool ((cD a0 E.2).owned) none,.mp .M1 .bool ((cD a0 E.2).apT) none,.cells [.os 3,.os 4,.os 5]]/\kI a0 a1 E.2 O ((fC a0 a1 E.2 O).map BA)/\okL (fY a0 a1 O E) (ix a0 a1 O E) (fC a0 a1 E.2 O) E.1) (dC (fY a0 a1 O E) (fC a0 a1 E.2 O) E.1) (λx=>x.elim) (λx=>x.elim) (λU=>⟨[(1,.rs .x6 a1),(3,.v (.int .i64 W)),(4,.v (.int .i64 O)),(5,.ptr 0 0),(10,.ptr 1 0),(12,.v (.int .i64 E.2)),(13,.ptr 6 0)],[.cells (cellsOf .bh a0),.cells [.os 7],.dead,.mp .int .int ((cD a0 E.2).apY) none,.mp .M1 .bool ((cD a0 E.2).owned) none,.mp .M1 .bool ((cD a0 E.2).apT) none,.cells [.os 3,.os 4,.os 5],.row .X1 U]⟩))else none),?_,?_⟩
   ·simp only[ak,true_and,and_true]
    ·refine rZ mixed aD hG (by decide) (by decide) kr kr λst lc hC Y=>?_;simp only[go_sem,Nat.reduceBEq,alx]at hC;subst hC;obtain⟨t,h⟩:=st;dsimp only[LC]at Y;obtain⟨e1_0,e1_1,e1_2,e1_3,e1_4,e1_5,e1_6,e1_7,rfl,hb1,X⟩:=Y;refine⟨156,[.ep (cellsOf .bh a0) 0,.ep [.rs .x6 a1] 0,.ep [.v (.int .i64 E.2)] 0,.ep [.v (.int .i64 O)] 0],Claim,_,_,(fC a0 a1 E.2 O),BA,(fY a0 a1 O E),(ix a0 a1 O E),_,E.1,_,_,_,[(1,.rs .x6 a1),(3,.v (.int .i64 W)),(4,.v (.int .i64 O)),(5,.ptr 0 0),(10,.ptr 1 0),(12,.v (.int .i64 E.2)),(13,.ptr 6 0)],(λU=>[.cells (cellsOf .bh a0),.cells [.os 7],.dead,.mp .int .int ((cD a0 E.2).apY) none,.mp .M1 .bool ((cD a0 E.2).owned) none,.mp .M1 .bool ((cD a0 E.2).apT) none,.cells [.os 3,.os 4,.os 5],.row .X1 U]),(λx=>x.elim),[0,1,2,3,4,5,6,2],?_,rfl,X,nbl rfl,?_,BB a0 a1 E.2 O _ hb1,λz_1 U hq1=>⟨rfl,L0,λl=>?_,λl=>?_,?_⟩,λU=>?_,λy=>?_⟩;exact aia
     ·simp only[go_sem,sD,jT,alO,amD,alC,alT,amG,e1_0,e1_1,e1_2,e1_3,e1_4,e1_5,e1_6,e1_7];all_goals (first|done|decide|(repeat' (first|refine And.intro ?_ ?_|rfl|decide)))
     simp only[ak,and_self,true_and,and_true];simp only[ak,and_self,true_and,and_true];unfold ix at hq1;exact aib (jl [0,1,2,3,4,5,6,12]) (jl [0,1,2,3,4,5,6,7]);exact abh (jl [0,1,2,3,4,5,6,12]) (jl [0,1,2,3,4,5,6,7]);exact abh (jl [0,1,2,3,4,5,6,12]) (jl [0,1,2,3,4,5,6,7])
   unfold kJ at hq0;exact qT (jl [0,1,7]) (jl [0,1,2])
 unfold ae Tryz.f56;try unfold eX
 exact aic
@[go_sem] def oX (d:ah)(l_:List bl)(fr:Int)(to:Int)(known:Int)(S2:Nat)(ly:List Claim):Empty⊕(List Claim):=(bif(decide ((((eX d l_ fr to known).1).getD S2 default).reach<0))then .inr (ly++([(((eX d l_ fr to known).1).getD S2 default).C1]))else .inr ly)
def sW (d:ah)(l_:List bl)(fr:Int)(to:Int)(known:Int)(S2:Nat)(ly:List Claim):Prop:=((decide ((((eX d l_ fr to known).1).getD S2 default).reach<0))=true->((ly++([(((eX d l_ fr to known).1).getD S2 default).C1])).length*40<=d9))
def bX (d:ah)(l_:List bl)(fr:Int)(to:Int)(known:Int):List Claim×Int:=letI q0:=eX d l_ fr to known;(bif(q0.2 !=0)then([],q0.2)else(match aj (oX d l_ fr to known) ((q0.1).length) 0 ([])with| .inl x=>x.elim| .inr ly=>(bif(decide ((ly.length:Int) > 4096))then([],2)else(ly,0))))
def tN (d:ah)(l_:List bl)(fr:Int)(to:Int)(known:Int):Prop:=letI q0:=eX d l_ fr to known;((oW d l_ fr to known)/\((q0.2 !=0)=false->((q0.1).length<=aK->okI (oX d l_ fr to known) (sW d l_ fr to known) ((q0.1).length) 0 ([]))))
@[go_sem] def MP:List SV->Option Con:=(pD .bh λd=>(pR .x6 λl_=>(pI λfr=>(pI λto=>(pI λknown=>(pE (.det (tN d l_ fr to known) (.tup [.rs .C1 ((bX d l_ fr to known).1),.v (.int .i64 ((bX d l_ fr to known).2))]))))))))
theorem Ks:B1 Tryz.prog 17 MP:=by
 have hG:=mG (cn [.st .bh,.sl .x6,.o,.o,.o] HA P0) P0;refine fN hG Tryz.f17 [.sl .C1,.o] (av λd=>(bN λE=>(ay λfr=>(ay λto=>(ay λknown=>(am (λX=>?_)))))));dsimp only[an]at X;unfold tN at X;refine⟨nbl rfl,(λid st=>bif Nat.beq id 0 then some (LCR (ρ:=Empty) (σ:=(List Claim)) 2 [.slot 10 (.row .C1 ([]))] [0,1,2] (λV O=>⟨[(10,.os 2),(27,.os 1),(28,.v (.int .i64 (((eX d E fr to known).1).length:Int))),(29,.v (.int .i64 (V:Int)))],[.dead,.row .X1 ((eX d E fr to known).1),.row .C1 O]⟩) (oX d E fr to known) (sW d E fr to known) (((eX d E fr to known).1).length) ([]) (((eX d E fr to known).1).length<=aK) ((·.elim)) ((·.elim)) st)else none),?_,?_⟩;unfold ae Tryz.f17;simp only[ak,true_and,and_true];refine bZ mixed aD hG kr (λ_=>rfl) (((eX d E fr to known).1).length:Int) rfl fM (λhb0 V O W U hw hc=>⟨L0,ag _,?_⟩) (λhb0 O hc=>?_);unfold sW at U;try simp only[hw,alv]at U
 exact sM (jl [0,1,5]) (jl [0,1,2]);exact sN (jl [0,1,5]) (jl [0,1,2]);unfold ae Tryz.f17;try unfold bX
 exact zq2
variable {n:Int}
theorem Q6{d:Int}(hd:1<=d)(O:d<=1073741824)(h1: -1152921504606846976<=n)(h2:n<=1152921504606846976):lM n d=n / d:=by
 unfold lM;have E:Int.tmod (Int.tmod n d+d) d=n % d:=by
  have a1: -d<Int.tmod n d:=anB n (by omega);rw[amg (by omega),aoE];rw[aog];split
  simp_all;have:n % d - (d.natAbs:Int)=n % d+d*(-1):=by omega
  simp_all
 have a1: -d<Int.tmod n d:=anB n (by omega);have X:Int.tmod n d<d:=aoF n (by omega);rw[az (by omega: -9223372036854775808<=Int.tmod n d+d) (by omega),E];have Y:=anc n (by omega:d≠0);have W:=amY n (by omega:0<d);rw[az (by omega: -9223372036854775808<=n - n % d) (by omega)];have U:n - n % d=d*(n / d):=by have:=anj n d;omega
 rw[U,an7 _ (by omega)];have c1:n / d<=1152921504606846976:=by
  have:=am9 (by omega:0<d) h2;have:=anM (b:=d) (by omega:(0:Int)<=1152921504606846976);omega
 have V: -1152921504606846976<=n / d:=by
  rw[amS (by omega)];omega
 exact az (by omega) (by omega)
def kK {κ υ:Type}(l:List (κ×υ)):List κ:=l.map λp=>p.1
theorem Iz {κ υ:Type}[DecidableEq κ]:∀ {l:List (κ×υ)} {x:κ},x ∉ kK l->iC l x=none
 | [],_,_=>rfl
 |(a,b)::r,x,h=>by
  unfold iC;rw[if_neg (λe=>h (by simp[kK,e]))];exact Iz λE=>h (by grind [kK])
theorem FM {κ υ:Type}[DecidableEq κ]:∀ {l:List (κ×υ)},(kK l).Nodup->∀ {x:κ} {y:υ},iC l x=some y↔(x,y)∈l
 | [],_,x,y=>by simp[iC]
 |(a,b)::r,h,x,y=>by
  have h':=al6.1 h;unfold iC;by_cases e:x=a
  grind
  rw[if_neg e,FM h'.2];grind
theorem uM {κ υ:Type}[DecidableEq κ](x:κ)(y:υ):∀ (l:List (κ×υ)),(kK l).Nodup->(kK (tg l x y)).Nodup/\∀ z,z∈kK (tg l x y)->z=x\/z∈kK l
 | [],_=>by simp[tg,kK]
 |(a,b)::r,h=>by
  have h':=al6.1 h;unfold tg;by_cases e:x=a
  subst e;rw[if_pos rfl];exact⟨h,λz hz=>.inr hz⟩;rw[if_neg e];obtain⟨U,E⟩:=uM x y r h'.2;refine⟨al6.2 ⟨λO=>?_,U⟩,λz hz=>?_⟩;rcases E _ O with h3|h3;grind
  exact h'.1 h3;rcases alD.1 hz with rfl|hz;exact .inr alR;rcases E z hz with h3|h3;exact .inl h3;exact .inr (alP _ h3)
theorem BC {κ υ:Type}[DecidableEq κ](x:κ):∀ (l:List (κ×υ)),(kK l).Nodup->(kK (AP l x)).Nodup/\(∀ z,z∈kK (AP l x)->z∈kK l)/\∀ z,iC (AP l x) z=if z=x then none else iC l z
 | [],_=>by simp[AP,kK,iC]
 |(a,b)::r,h=>by
  have h':=al6.1 h;unfold AP;by_cases e:x=a
  subst e;rw[if_pos rfl];refine⟨h'.2,λz hz=>alP _ hz,λz=>?_⟩;by_cases hz:z=x
  subst hz;rw[if_pos rfl];exact Iz h'.1;simp_all [iC];rw[if_neg e];obtain⟨V,E,O⟩:=BC x r h'.2;refine⟨al6.2 ⟨λU=>h'.1 (E _ U),V⟩,λz hz=>?_,λz=>?_⟩;rcases alD.1 hz with rfl|hz;exact alR;exact alP _ (E z hz);simp only[iC,O];grind
def tot:Nat->(Int->Int)->Int
 |0,_=>0|n+1,g=>tot n g+g (n:Int)
def jD (g:Int->Int)(f v:Int):Int->Int:=λx=>if x=f then v else g x
theorem MQ {g h:Int->Int}:∀ {n:Nat},(∀ f:Int,0<=f->f< (n:Int)->g f=h f)->tot n g=tot n h
 |0,_=>rfl
 |n+1,e=>by unfold tot;rw[MQ (n:=n) λf h1 h2=>e f h1 (by omega),e n (by omega) (by omega)]
theorem vA (g:Int->Int)(f v:Int):∀ (n:Nat),0<=f->f< (n:Int)->tot n (jD g f v)=tot n g - g f+v
 |0,h0,h1=>by omega
 |n+1,h0,h1=>by
  unfold tot;by_cases h:f=(n:Int)
  subst h;rw[MQ (g:=jD g n v) (h:=g) λx _ E=>by unfold jD;omega];simp_all [jD];rw[vA g f v n h0 (by omega)];unfold jD;omega
theorem Wj {g:Int->Int}(h:∀ f,0<=g f):∀ n,0<=tot n g
 |0=>al5 _
 |n+1=>by have:=Wj h n;grind [tot]
theorem FN {g:Int->Int}(h:∀ f,0<=g f):∀ (n:Nat) (f:Int),0<=f->f< (n:Int)->g f<=tot n g
 |0,f,h0,h1=>by omega
 |n+1,f,h0,h1=>by
  unfold tot;have h2:=Wj h n;by_cases e:f=(n:Int)
  grind
  have:=FN h n f h0 (by omega);grind
structure Good (F:Nat)(L:Int)(g:Int->Int):Prop where
 nn:∀ f,0<=g f
 sup:∀ f,g f≠0->0<=f/\f< (F:Int)
 tot:tot F g<=L
variable {g:Int->Int}
theorem Good.le{F:Nat}{L:Int}(h:Good F L g)(E:0<=L)(f:Int):g f<=L:=by
 by_cases e:g f=0
 omega;obtain⟨a,b⟩:=h.sup f e;exact anW (FN h.nn F f a b) h.tot
theorem Good.put{F:Nat}{L M:Int}(h:Good F L g){f v:Int}(U:0<=f)(h1:f< (F:Int))(O:0<=v)(V:Go.Sx.tot F g - g f+v<=M):Good F M (jD g f v) where
 nn:=λx=>by unfold jD;split;exact O;exact h.nn x
 sup:=λx E=>by
  unfold jD at E;split at E
  omega;exact h.sup x E
 tot:=by grind [vA]
def loP (p:Part)(n:Int):Int:=p.share.n*n / p.share.d
theorem Wk{a:G2}(h:apf a)(W:0<=n)(h1:n<=1073741824):(eT a n).1=a.n*n / a.d/\(eT a n).2.1= -(-(a.n*n) / a.d)/\(eT a n).2.2=0:=by
 have Y: -1152921504606846976<=a.n*n/\a.n*n<=1152921504606846976:=by
  have:(a.n*n).natAbs<=1073741824*1073741824:=by rw[aov];exact anZ (by have:=h.n0;have:=h.n;omega) (by omega)
  omega
 have hd:=h.d1;have E:=h.d;have U:=h.n0;have V:=h.n;unfold eT;rw[(gJ a).2 h];have e:(decide (n< -1073741824) ||decide (n > 1073741824))=false:=by simp;omega
 simp only[bne_self_eq_false,cond_false,e];have O: -a.n*n= -(a.n*n):=Int.neg_mul _ _;rw[az (n:=a.n*n) (by omega) (by omega),az (n:=0 - a.n) (by omega) (by omega),show 0 - a.n= -a.n by omega,O,az (n:= -(a.n*n)) (by omega) (by omega),Q6 hd E (by omega) (by omega),Q6 hd E (by omega) (by omega)];refine⟨rfl,?_,trivial⟩;have c1: -(a.n*n) / a.d<=1152921504606846976:=by
  have:=am9 (by omega:0<a.d) (by omega: -(a.n*n)<=1152921504606846976);have:=anM (b:=a.d) (by omega:(0:Int)<=1152921504606846976);omega
 have X: -1152921504606846976<= -(a.n*n) / a.d:=by
  rw[amS (by omega)];omega
 grind [az]
theorem MR{p:Part}(h:apf p.share)(O:0<p.share.n)(E:0<=n):0<=loP p n:=by
 unfold loP;exact Int.ediv_nonneg (ano (by omega) E) (by have:=h.d1;omega)
theorem Wl {x d:Rat}(hd:0<d)(h:0<=x*d):0<=x:=by
 rcases aom (0<=x)with h1|h1;exact h1;have h2:0< -x:=by grind
 have E:=Rat.mul_pos h2 hd;grind
theorem adB {p:Part}(h:apf p.share)(n:Int):((loP p n:Int):Rat)<=rv p.share*(n:Rat)/\rv p.share*(n:Rat)<=((loP p n:Int):Rat)+1:=by
 have hd:=h.d1;have U:(0:Rat) < (p.share.d:Rat):=by exact_mod_cast (by omega:(0:Int) <p.share.d)
 have dn:(p.share.d:Rat)≠0:=qR (by omega);have V:rv p.share*(p.share.d:Rat)=(p.share.n:Rat):=by grind [rv]
 have q:=anj (p.share.n*n) p.share.d;have Y:=anc (p.share.n*n) (by omega:p.share.d≠0);have q2:=amY (p.share.n*n) (by omega:0<p.share.d);have W:p.share.d*loP p n<=p.share.n*n:=by unfold loP;omega
 have X:p.share.n*n<=p.share.d*loP p n+p.share.d:=by unfold loP;omega
 have E:(p.share.d:Rat)*((loP p n:Int):Rat)<=(p.share.n:Rat)*(n:Rat):=by exact_mod_cast W
 have O:(p.share.n:Rat)*(n:Rat)<=(p.share.d:Rat)*((loP p n:Int):Rat)+(p.share.d:Rat):=by exact_mod_cast X
 rw[<-V]at E O;generalize ((loP p n:Int):Rat)=lo at *;generalize (n:Rat)=m at *;generalize rv p.share=v at *;generalize (p.share.d:Rat)=d at *;constructor
 have:=Wl (x:=v*m - lo) U (by grind);grind
 have:=Wl (x:=lo+1 - v*m) U (by grind);grind
def d_ (l:List Part)(n:Int):Int:=(l.map λp=>loP p n).sum
variable {l:List Part}
theorem adC(h:∀ p∈l,apf p.share)(n:Int):((d_ l n:Int):Rat)<=Bu l*(n:Rat)/\Bu l*(n:Rat)<=((d_ l n+(l.length:Int):Int):Rat):=by
 induction l with
 |nil=>simp[d_,Bu,Rat.zero_mul]
 |cons p r U=>
  obtain⟨i1,W⟩:=U λq V=>h q (alP _ V);obtain⟨X,Y⟩:=adB (h p alR) n;have e:d_ (p::r) n=loP p n+d_ r n:=by simp[d_]
  have E:((d_ (p::r) n:Int):Rat)=((loP p n:Int):Rat)+((d_ r n:Int):Rat):=by simp_all
  have O:((d_ (p::r) n+((p::r).length:Int):Int):Rat)=(((loP p n:Int):Rat)+1)+((d_ r n+(r.length:Int):Int):Rat):=by
   have:d_ (p::r) n+((p::r).length:Int)=(loP p n+1)+(d_ r n+(r.length:Int)):=by grind
   simp_all
  rw[E,O];simp only[Bu];grind
theorem Kt{d:ah}(h:ap0 d l)(n:Int):d_ l n<=n/\n<=d_ l n+(l.length:Int):=by
 obtain⟨h1,h2⟩:=adC (λp E=>(h.part p E).share) n;rw[h.sum,Rat.one_mul]at h1 h2;exact⟨by exact_mod_cast h1,by exact_mod_cast h2⟩
end Go.Sx
end
