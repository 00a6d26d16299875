/- Part of the proof that the law RefuseLess returns true and leaves its arguments as they were, for all arguments of bulk at most 1048576 (the Upto form). -/
import Derived.Test.YtaikmgjfkejlkaaGreatF108
import Derived.Test.YtaikmgjfkejlkaaGreatF107
import Derived.Shelf.SortM.Plain
import Derived.Shelf.SortM.SortNone
import Derived.Ground.SlgmProg
import Derived.Shelf.SlGeneric
import Derived.Test.YtaikmgjfkejlkaaGreatProg
import Derived.Test.YtaikmgjfkejlkaaGreatF101
import Derived.Test.YtaikmgjfkejlkaaGreatF106
set_option linter.all false
set_option maxHeartbeats 4000000
set_option maxRecDepth 100000
section
namespace Go.Sx
open Go.Proofs
open IntKind (i64 u64)
def aO (n:Int)(lo:Int)(hi:Int):Bool:=((decide (n>=lo))&&(decide (n<=hi)))
@[go_sem] def G0:List SV->Option Con:=(pI λn=>(pI λlo=>(pI λhi=>(pE (.det True (.v (.bool (aO n lo hi))))))))
def sL:B1 Tryz.prog 226 G0:=by
 have hG:=mG P0 P0;refine fN hG Tryz.f226 [.o] (ay λn=>(ay λlo=>(ay λhi=>(am (λE=>?_)))));dsimp only[an]at E;refine⟨nbl rfl,L0,ag _,?_⟩;unfold ae Tryz.f226;try unfold aO
 exact zq2
def kR (x:bl):Bool:=letI q1:=(x.parts.length:Int) ==0;letI q2:=x.of_==0;letI q3:=x.to==0;letI q0:=(((x.right==0)&&(x.since==0))&&q3)&&q1;(bif(x.kind==1)then(q1&&q2)else(bif(x.kind==2)then(q3&&q2)else(bif(x.kind==3)then((q3&&q1)&&q2)else(bif(x.kind==4)then q0 else(q0&&q2)))))
@[go_sem] def CT:List SV->Option Con:=(pD .x6 λx=>(pE (.det True (.v (.bool (kR x))))))
def Bk:B1 Tryz.prog 227 CT:=by
 have hG:=mG P0 P0;refine fN hG Tryz.f227 [.o] (av λx=>(am (λE=>?_)));dsimp only[an]at E;refine⟨nbl rfl,L0,ag _,?_⟩;unfold ae Tryz.f227;try unfold kR
 exact zq2
@[go_sem] def ga (d:ah)(l_:List Part)(S2:Nat)(ly:Int×Int×List (Int×Bool)):Unit⊕(Int×Int×List (Int×Bool)):=letI q1:=l_.getD S2 default;letI q0:=ii ({ n:=ly.1,d:=ly.2.1}:G2) (q1.share);(bif(((!(aO (q1.ee) 0 (i64.wrap ((d.u0.length:Int) - 1)))) ||(ax .int .bool ly.2.2 (q1.ee))) ||(decide (q1.share.n<=0)))then .inl ()else(bif(q0.2 !=0)then .inl ()else .inr ((q0.1).n,(q0.1).d,(dD .int .bool ly.2.2 (q1.ee) true))))
def mO (d:ah)(l_:List Part)(S2:Nat)(ly:Int×Int×List (Int×Bool)):Prop:=letI q0:=l_.getD S2 default;(d.u0.length<=aK->((((!(aO (q0.ee) 0 (i64.wrap ((d.u0.length:Int) - 1)))) ||(ax .int .bool ly.2.2 (q0.ee))) ||(decide (q0.share.n<=0)))=false->(tJ ({ n:=ly.1,d:=ly.2.1}:G2) (q0.share))))
def iV (d:ah)(l_:List Part):Bool:=(match aj (ga d l_) l_.length 0 (0,1,[])with| .inl pq=>false| .inr ly=>((aO (l_.length:Int) 1 16)&&((ly.1==1)&&(ly.2.1==1))))
def mA (d:ah)(l_:List Part):Prop:=(l_.length<=aK->okI (ga d l_) (mO d l_) l_.length 0 (0,1,[]))
@[go_sem] def Bl:List SV->Option Con:=(pD .bh λd=>(pR .part λl_=>(pE (.det (mA d l_) (.v (.bool (iV d l_)))))))
def Ac:B1 Tryz.prog 228 Bl:=by
 have hG:=mG (cp sL (cp J0 P0)) P0;refine fN hG Tryz.f228 [.o] (av λd=>(bN λO=>(am (λY=>?_))));dsimp only[an]at Y;unfold mA at Y;refine⟨nbl rfl,(λid st=>bif Nat.beq id 0 then some (LCR (ρ:=Unit) (σ:=(Int×Int×List (Int×Bool))) 3 [] [0,1,2] (λV E=>⟨[(1,.rs .part O),(2,.ptr 0 0),(5,.ptr 2 0),(6,.os 1),(13,.rs .part O),(14,.v (.int .i64 (O.length:Int))),(15,.v (.int .i64 (V:Int)))],[.cells (cellsOf .bh d),.mp .int .bool E.2.2 none,.cells [.v (.int .i64 E.1),.v (.int .i64 E.2.1)]]⟩) (ga d O) (mO d O) O.length (0,1,[]) (O.length<=aK) (λ_=>.ret) (λW=>⟨[(4,.v (.bool false))],[.dead,.dead,.dead]⟩) st)else none),?_,?_⟩;unfold ae Tryz.f228;simp only[ak,true_and,and_true];refine bZ mixed aD hG kr (λ_=>rfl) (O.length:Int) rfl fM (λhb0 V E X U hw hc=>⟨L0,ag _,?_⟩) (λhb0 E hc=>?_);unfold mO at U;try simp only[hw,alv]at U
 exact bG (jl [0,1,2]);exact bH (jl [0,1,2]);unfold ae Tryz.f228;try unfold iV
 exact zq2
def dy (a0:ah)(a1:List (Int×bl))(a2:bl):Bool:=letI q1:=i64.wrap ((a0.u0.length:Int) - 1);letI q0:=((aO a2.right 0 (i64.wrap ((a0.al.length:Int) - 1)))&&((a0.al.getD (Int.toNat a2.right) default).kind==1))&&(aO a2.since 0 q1);letI q2:=ax .int .x6 a1 a2.of_;(bif((((!(aO a2.no 0 1048576)) ||(!(aO a2.at_ 0 4096))) ||(!(aO a2.known 0 1048576))) ||(!(kR a2)))then false else(bif(a2.kind==1)then((q0&&(aO a2.to 0 q1))&&(a2.to !=a2.since))else(bif(a2.kind==2)then(q0&&(iV a0 a2.parts))else(bif(a2.kind==3)then q0 else(bif(a2.kind==4)then(((wq .int .x6 a1 a2.of_)&&(q2.kind !=4))&&(decide (a2.known>=q2.known)))else false)))))
def nF (a0:ah)(a1:List (Int×bl))(a2:bl):Prop:=letI q1:=(a0.al.length:Int);letI q0:=aO a2.right 0 (i64.wrap (q1 - 1));(((((!(aO a2.no 0 1048576)) ||(!(aO a2.at_ 0 4096))) ||(!(aO a2.known 0 1048576))) ||(!(kR a2)))=false->(a0.u0.length<=aK->(a0.al.length<=aK->((q0=true->(0<=a2.right/\a2.right<q1))/\((a2.kind==1)=false->((a2.kind==2)=true->(((q0&&((a0.al.getD (Int.toNat a2.right) default).kind==1))&&(aO a2.since 0 (i64.wrap ((a0.u0.length:Int) - 1))))=true->(mA a0 a2.parts))))))))
@[go_sem] def CU:List SV->Option Con:=(pD .bh λa0=>(pM .int .x6 λa1=>(pD .x6 λa2=>(pE (.det (nF a0 a1 a2) (.v (.bool (dy a0 a1 a2))))))))
def Bm:B1 Tryz.prog 155 CU:=by
 have hG:=mG (cp sL (cn [.st .x6] Bk (cn [.st .bh,.sl .part] Ac P0))) P0;refine fN hG Tryz.f155 [.o] (av λa0=>(ac9 λa1=>(av λO=>(am (λE=>?_)))));dsimp only[an]at E;unfold nF at E;refine⟨nbl rfl,L0,ag _,?_⟩;unfold ae Tryz.f155;try unfold dy
 exact zq2
def fl (x:bl):Bool:=(decide ((x.parts.length:Int) > 16))
@[go_sem] def y3:List SV->Option Con:=(pD .x6 λx=>(pE (.det True (.v (.bool (fl x))))))
def xX:B1 Tryz.prog 154 y3:=by
 have hG:=mG P0 P0;refine fN hG Tryz.f154 [.o] (av λx=>(am (λE=>?_)));dsimp only[an]at E;refine⟨nbl rfl,L0,ag _,?_⟩;unfold ae Tryz.f154;try unfold fl
 exact zq2
@[go_sem] def cL (s_:List bl)(S2:Nat)(ly:Unit):Int⊕Unit:=(bif(fl (s_.getD S2 default))then .inl (S2:Int)else .inr ())
def ei (s_:List bl):Int:=(match aj (cL s_) s_.length 0 ()with| .inl pq=>pq| .inr ly=>(-1))
@[go_sem] def fq:List SV->Option Con:=(pR .x6 λs_=>(pFn 154 (pE ((pE (.det True (.v (.int .i64 (ei s_)))))))))
def ij:B1 Tryz.prog 225 fq:=by
 have hG:=mG (cn [.st .x6] xX P0) P0;refine fN hG Tryz.f225 [.o] (bN λO=>(oz (am ((am (λX=>?_))))));dsimp only[an]at X;refine⟨nbl rfl,(λid st=>bif Nat.beq id 0 then some (LCR (ρ:=Int) (σ:=Unit) 0 [] [] (λU V=>⟨[(0,.rs .x6 O),(1,.fn 154 [] []),(7,.v (.int .i64 (O.length:Int))),(8,.v (.int .i64 (U:Int)))],[]⟩) (cL O) pT O.length () (O.length<=aK) (λ_=>.ret) (λE=>⟨[(4,.v (.int .i64 E))],[]⟩) st)else none),?_,?_⟩;unfold ae Tryz.f225;simp only[ak,true_and,and_true];refine bZ mixed aD hG kr (λ_=>rfl) (O.length:Int) rfl fM (λhb0 U V W _ hw hc=>⟨L0,ag _,?_⟩) (λhb0 V hc=>?_);exact bG (jl []);exact bH (jl []);unfold ae Tryz.f225;try unfold ei
 exact zq2
@[go_sem] noncomputable def ik:List SV->Option Con:=λl=>(fq l)
def lO:B1 Tryz.prog 225 ik:=ij
def aM (s_:List bl):Bool:=(decide ((ei s_)>=0))
@[go_sem] def lB:List SV->Option Con:=(pR .x6 λs_=>(pFn 154 (pE ((pE (.det True (.v (.bool (aM s_)))))))))
variable {p:Prop}
theorem asq(h:p:=by simp only[go_sem,ik];all_goals exact cl):p:=h
theorem k9:B1 Tryz.prog 153 lB:=by
 have hG:=mG (cn [.sl .x6,.o] lO P0) P0;refine fN hG Tryz.f153 [.o] (bN λO=>(oz (am ((am (λE=>?_))))));dsimp only[an]at E;refine⟨nbl rfl,L0,ag _,?_⟩;unfold ae Tryz.f153;try unfold aM
 exact asq
@[go_sem] def eH (d:ah)(l_:List bl)(S2:Nat)(ly:List (Int×bl)):Unit⊕(List (Int×bl)):=letI q0:=l_.getD S2 default;(bif(((decide ((S2:Int) > 0))&&(decide (q0.no<=(l_.getD (Int.toNat (i64.wrap ((S2:Int) - 1))) default).no))) ||(!(dy d ly q0)))then .inl ()else .inr (dD .int .x6 ly (q0.no) q0))
def mP (d:ah)(l_:List bl)(S2:Nat)(ly:List (Int×bl)):Prop:=letI q0:=i64.wrap ((S2:Int) - 1);letI q1:=decide ((S2:Int) > 0);letI q2:=l_.getD S2 default;((q1=true->(0<=q0/\q0< (l_.length:Int)))/\((q1&&(decide (q2.no<=(l_.getD (Int.toNat q0) default).no)))=false->(nF d ly q2)))
def aP (d:ah)(l_:List bl):Int:=(bif((ap d) !=0)then(ap d)else(bif((decide ((l_.length:Int) > 512)) ||(aM l_))then 2 else(match aj (eH d l_) l_.length 0 ([])with| .inl pq=>250| .inr ly=>0)))
def jU (d:ah)(l_:List bl):Prop:=(((ap d) !=0)=false->(l_.length<=aK->(((decide ((l_.length:Int) > 512)) ||(aM l_))=false->(l_.length<=aK->okI (eH d l_) (mP d l_) l_.length 0 ([])))))
@[go_sem] def Bn:List SV->Option Con:=(pD .bh λd=>(pR .x6 λl_=>(pE (.det (jU d l_) (.v (.int .i64 (aP d l_)))))))
theorem tK:B1 Tryz.prog 98 Bn:=by
 have hG:=mG (cn [.st .bh] kF (cn [.sl .x6,.o] k9 (cn [.st .bh,.mp .int .x6,.st .x6] Bm P0))) P0;refine fN hG Tryz.f98 [.o] (av λd=>(bN λE=>(am (λY=>?_))));dsimp only[an]at Y;unfold jU at Y;refine⟨nbl rfl,(λid st=>bif Nat.beq id 0 then some (LCR (ρ:=Unit) (σ:=(List (Int×bl))) 2 [] [0,1] (λV O=>⟨[(1,.rs .x6 E),(2,.ptr 0 0),(5,.os 1),(21,.rs .x6 E),(22,.v (.int .i64 (E.length:Int))),(23,.v (.int .i64 (V:Int)))],[.cells (cellsOf .bh d),.mp .int .x6 O none]⟩) (eH d E) (mP d E) E.length ([]) (E.length<=aK) (λ_=>.ret) (λW=>⟨[(4,.v (.int .i64 250))],[.dead,.dead]⟩) st)else none),?_,?_⟩;unfold ae Tryz.f98;simp only[ak,true_and,and_true];refine bZ mixed aD hG kr (λ_=>rfl) (E.length:Int) rfl fM (λhb0 V O X U hw hc=>⟨L0,ag _,?_⟩) (λhb0 O hc=>?_);unfold mP at U;try simp only[hw,alv]at U
 exact bG (jl [0,1]);exact bH (jl [0,1]);unfold ae Tryz.f98;try unfold aP
 exact zq2
@[go_sem] def xY:List SV->Option Con:=pR .x6 λl=>pE (.det (l.length*88<=d9) (.nw .x6 l))
theorem wV:B1 Tryz.prog 281 xY:=by
 refine fW (mG P0 P0) Tryz.f281 [(.tmp 2,.x6)] (bN λl=>am λE=>?_);dsimp only[an]at E;refine⟨nbl rfl,L0,ag _,?_⟩;unfold ae Tryz.f281;simp only[go_sem];intro b U;refine⟨λh=>?_,λ_=>?_⟩;have O:=U h;subst O;rfl;first|exact E|exact⟨E,λ_=>rfl⟩
variable {l0 l1:List Nat}
theorem gE(a0:JL l0)(a1:JL l1)(h:JL l0->JL l1->p:=by intro ja jb;(first|done|(repeat' (first|with_reducible refine And.intro ?_ ?_|((with_reducible show _≠_);first|assumption|omega|(simp_all [cq,eo];done) |grind) |with_reducible intro _)) <;>(first|done|with_reducible exact Empty.elim ‹Empty› |with_reducible assumption|rfl|omega|assumption|decide|exact fk ja|exact fk jb|(simp only[*,cond_true,cond_false,alN,alZ,go_sem];done) |(simp only[*,cond_true,cond_false,alN,alZ,go_sem];(repeat' (first|with_reducible refine And.intro ?_ ?_|((with_reducible show _≠_);first|assumption|omega|(simp_all [cq,eo];done) |grind) |with_reducible intro _)) <;>(first|done|assumption|rfl|omega|decide|exact fk ja|exact fk jb|(simp_all [cq,eo];done))) |(simp_all [okI,cq,eo];done) |(simp_all [cq,eo];(first|done|exact fk2 ja|exact fk2 jb)) |exact fk2 ja|exact fk2 jb))):p:=h a0 a1
theorem c7(a0:JL l0)(h:JL l0->p:=by intro ja;simp only[go_sem];all_goals exact uB ja):p:=h a0
def bq (x:bl)(known:Int)(hour:Int)(apt:List (Int×Bool)):Bool:=((((x.kind==4) ||(decide (x.known > known))) ||(decide (x.at_ > hour))) ||(ax .int .bool apt x.no))
@[go_sem] def wa:List SV->Option Con:=(pD .x6 λx=>(pX .int λknown=>(pX .int λhour=>(pXM .int .bool λapt=>(pE (.det True (.v (.bool (bq x known hour apt)))))))))
theorem oE:B1 Tryz.prog 282 wa:=by
 have hG:=mG P0 P0;refine fN hG Tryz.f282 [.o] (av λx=>(gD λknown=>(gD λhour=>(JR λE=>(am (λO=>?_))))));dsimp only[an]at O;refine⟨nbl rfl,L0,ag _,?_⟩;unfold ae Tryz.f282;try unfold bq
 exact zq2
def dO (a:bl)(b:bl):Int:=(bj a.at_ b.at_)
@[go_sem] def wb:List SV->Option Con:=(pD .x6 λa=>(pD .x6 λb=>(pE (.det True (.v (.int .i64 (dO a b)))))))
theorem oF:B1 Tryz.prog 284 wb:=by
 have hG:=mG (cp eS P0) P0;refine fN hG Tryz.f284 [.o] (av λa=>(av λb=>(am (λE=>?_))));dsimp only[an]at E;refine⟨nbl rfl,L0,ag _,?_⟩;unfold ae Tryz.f284;try unfold dO
 exact zq2
@[go_sem] def eM (s_:List bl)(known:Int)(hour:Int)(apt:List (Int×Bool))(S2:Nat)(ly:Unit):Int⊕Unit:=(bif(bq (s_.getD S2 default) known hour apt)then .inl (S2:Int)else .inr ())
def aW (s_:List bl)(known:Int)(hour:Int)(apt:List (Int×Bool)):Int:=(match aj (eM s_ known hour apt) s_.length 0 ()with| .inl pq=>pq| .inr ly=>(-1))
@[go_sem] def gX:List SV->Option Con:=(pR .x6 λs_=>(pFn 282 (pX .int λknown=>(pX .int λhour=>(pXM .int .bool λapt=>(pE ((pE (.det True (.v (.int .i64 (aW s_ known hour apt))))))))))))
theorem lC:B1 Tryz.prog 225 gX:=by
 have hG:=mG (cn [.st .x6,.o,.o,.o] oE P0) P0;refine fN hG Tryz.f225 [.o] (bN λU=>(oz (gD λknown=>(gD λhour=>(JR λE=>(am ((am (λY=>?_)))))))));dsimp only[an]at Y;refine⟨nbl rfl,(λid st=>bif Nat.beq id 0 then some (LCR (ρ:=Int) (σ:=Unit) 0 [] [] (λV W=>⟨[(0,.rs .x6 U),(1,.fn 282 [] [.ep [.v (.int .i64 known)] 0,.ep [.v (.int .i64 hour)] 0,.ep [.rm .int .bool E] 0]),(7,.v (.int .i64 (U.length:Int))),(8,.v (.int .i64 (V:Int)))],[]⟩) (eM U known hour E) pT U.length () (U.length<=aK) (λ_=>.ret) (λO=>⟨[(4,.v (.int .i64 O))],[]⟩) st)else none),?_,?_⟩;unfold ae Tryz.f225;simp only[ak,true_and,and_true];refine bZ mixed aD hG kr (λ_=>rfl) (U.length:Int) rfl fM (λhb0 V W X _ hw hc=>⟨L0,ag _,?_⟩) (λhb0 W hc=>?_);exact bG (jl []);exact bH (jl []);unfold ae Tryz.f225;try unfold aW
 exact zq2
@[go_sem] noncomputable def il:List SV->Option Con:=λl=>(orC (fq l) (gX l))
def lP:B1 Tryz.prog 225 il:=(B1.or ij lC)
@[go_sem] def bW (l_:List bl)(known:Int)(hour:Int)(apt:List (Int×Bool))(S2:Nat)(ly:List bl×Int×Int):(Int×List bl)⊕(List bl×Int×Int):=letI q0:=ly.1.getD (Int.toNat ly.2.2) default;letI q1:=i64.wrap (ly.2.2+1);(bif(decide (ly.2.2< (ly.1.length:Int)))then(bif(!(bq q0 known hour apt))then .inr ((ly.1.set (Int.toNat ly.2.1) q0),(i64.wrap (ly.2.1+1)),q1)else .inr (ly.1,ly.2.1,q1))else .inl (ly.2.1,ly.1))
def cr (l_:List bl)(known:Int)(hour:Int)(apt:List (Int×Bool))(S2:Nat)(ly:List bl×Int×Int):Prop:=letI q0:=(ly.1.length:Int);(ly.1.length<=aK->((decide (ly.2.2<q0))=true->((0<=ly.2.2/\ly.2.2<q0)/\((!(bq (ly.1.getD (Int.toNat ly.2.2) default) known hour apt))=true->(0<=ly.2.1/\ly.2.1<q0)))))
def bu (l_:List bl)(known:Int)(hour:Int)(apt:List (Int×Bool)):List bl:=letI q0:=aW l_ known hour apt;(bif(q0==(-1))then l_ else(match aj (bW l_ known hour apt) (l_.length+1) 0 (l_,q0,(i64.wrap (q0+1)))with| .inl pq=>(((wr .x6 pq.2 pq.1 (pq.2.length:Int)).take (Int.toNat pq.1)).drop 0) | .inr ly=>default))
def bC (l_:List bl)(known:Int)(hour:Int)(apt:List (Int×Bool)):Prop:=letI q0:=aW l_ known hour apt;letI q1:=bW l_ known hour apt;letI q2:=(l_,q0,(i64.wrap (q0+1)));letI q3:=l_.length+1;((q0==(-1))=false->(okI q1 (cr l_ known hour apt) q3 0 q2/\(∀ z_,aj q1 q3 0 q2≠ .inr z_)/\(∀ pq,aj q1 q3 0 q2=.inl pq->((0<=pq.1/\pq.1<=(pq.2.length:Int))/\(0<=0/\0<=pq.1/\pq.1<=((wr .x6 pq.2 pq.1 (pq.2.length:Int)).length:Int))))))
noncomputable def im:List SV->List Ob->Option ao3:=jf (λx_:(List bl)×Int×Int×(List (Int×Bool)) =>[.os 0,.fn 282 [] [.ptr 1 0,.ptr 2 0,.ptr 3 0]]) (λx_=>[.row .x6 x_.1,.cells [.v (.int .i64 x_.2.1)],.cells [.v (.int .i64 x_.2.2.1)],.cells [.os 4],.mp .int .bool x_.2.2.2 none]) (λx_=>fL (bC x_.1 x_.2.1 x_.2.2.1 x_.2.2.2) (.os 5) [.dead,.cells [.v (.int .i64 x_.2.1)],.cells [.v (.int .i64 x_.2.2.1)],.cells [.os 4],.mp .int .bool x_.2.2.2 none,.row .x6 (bu x_.1 x_.2.1 x_.2.2.1 x_.2.2.2)])
@[go_sem] theorem wc (l_:List bl)(known:Int)(hour:Int)(apt:List (Int×Bool)){p4_:Option (Nat×Option Tag.int.T)}(asn:p4_=none):im ([.os 0,.fn (282:Nat) [] [.ptr 1 0,.ptr 2 0,.ptr 3 0]]) ([.row .x6 l_,.cells [.v (.int .i64 known)],.cells [.v (.int .i64 hour)],.cells [.os 4],.mp .int .bool apt p4_])=some (fL (bC l_ known hour apt) (.os 5) [.dead,.cells [.v (.int .i64 known)],.cells [.v (.int .i64 hour)],.cells [.os 4],.mp .int .bool apt none,.row .x6 (bu l_ known hour apt)]):=by
 subst asn;exact fO (A:=λx_:(List bl)×Int×Int×(List (Int×Bool)) =>[.os 0,.fn 282 [] [.ptr 1 0,.ptr 2 0,.ptr 3 0]]) (H:=λx_=>[.row .x6 x_.1,.cells [.v (.int .i64 x_.2.1)],.cells [.v (.int .i64 x_.2.2.1)],.cells [.os 4],.mp .int .bool x_.2.2.2 none]) (K:=λx_=>fL (bC x_.1 x_.2.1 x_.2.2.1 x_.2.2.2) (.os 5) [.dead,.cells [.v (.int .i64 x_.2.1)],.cells [.v (.int .i64 x_.2.2.1)],.cells [.os 4],.mp .int .bool x_.2.2.2 none,.row .x6 (bu x_.1 x_.2.1 x_.2.2.1 x_.2.2.2)]) (x:=(l_,known,hour,apt))
theorem aso(a0:JL l0)(a1:JL l1)(h:JL l0->JL l1->p:=by intro ja jb;simp only[go_sem,il];all_goals exact gE ja jb):p:=h a0 a1
theorem lQ:ao2 Tryz.prog 280 (im):=by
 have hG:=mG (cn [.sl .x6,.o] lP (cn [.st .x6,.o,.o,.o] oE P0)) P0;refine fR hG Tryz.f280 (λl o Y h=>?_);obtain⟨⟨V,known,hour,E⟩,rfl,rfl,rfl⟩:=dS h;clear h;try dsimp only
 refine⟨_,_,_,rfl,λhp=>?_⟩;unfold bC at hp;refine⟨nbl rfl,(λid st=>bif Nat.beq id 0 then some (LCV (ρ:=(Int×List bl)) (σ:=(List bl×Int×Int)) 5 [] [0,1,2,3,4] (λX U=>⟨[(0,.os 0),(1,.fn 282 [] [.ptr 1 0,.ptr 2 0,.ptr 3 0]),(5,.v (.int .i64 U.2.1)),(6,.v (.int .i64 U.2.2))],[.row .x6 U.1,.cells [.v (.int .i64 known)],.cells [.v (.int .i64 hour)],.cells [.os 4],.mp .int .bool E none]⟩) (bW V known hour E) (cr V known hour E) (V.length+1) (V,(aW V known hour E),(i64.wrap ((aW V known hour E)+1))) (λ_=>.normal) (λO=>⟨[(0,.os 0),(5,.v (.int .i64 O.1))],[.row .x6 O.2,.cells [.v (.int .i64 known)],.cells [.v (.int .i64 hour)],.cells [.os 4],.mp .int .bool E none]⟩) st)else none),?_,?_⟩;unfold ae Tryz.f280;simp only[ak,true_and,and_true,and_assoc];refine eQ mixed aD hG kr (λ_=>rfl) λX U W=>⟨L0,ag _,?_⟩;unfold cr at W;exact c7 (jl [0,1,2,3,4]);unfold ae Tryz.f280;try unfold bu
 exact aso (jl [0,1,2,3,4,0]) (jl [0,1,2,3,4,5])
@[go_sem] def bv (a:Int)(l_:List bl)(k_1:Nat)(s_1:List bl×Int):(List bl)⊕(List bl×Int):=letI q0:=i64.wrap (s_1.2 - 1);letI q1:=s_1.1.getD (Int.toNat s_1.2) default;letI q2:=s_1.1.getD (Int.toNat q0) default;(bif((decide (s_1.2 > a))&&(decide ((dO q1 q2) <0)))then .inr (((s_1.1.set (Int.toNat s_1.2) q2).set (Int.toNat q0) q1),q0)else .inl s_1.1)
def bI (a:Int)(l_:List bl)(k_1:Nat)(s_1:List bl×Int):Prop:=letI q0:=i64.wrap (s_1.2 - 1);letI q2:=decide (s_1.2 > a);letI q3:=(s_1.1.length:Int);letI q1:=0<=s_1.2/\s_1.2<q3;letI q4:=s_1.1.getD (Int.toNat q0) default;((q2=true->q1)/\((q2=true->(0<=q0/\q0<q3))/\((q2&&(decide ((dO (s_1.1.getD (Int.toNat s_1.2) default) q4) <0)))=true->((0<=q0/\q0<q3)/\(q1/\(q1/\(0<=q0/\q0< ((s_1.1.set (Int.toNat s_1.2) q4).length:Int))))))))
@[go_sem] def a_ (a:Int)(b:Int)(l_:List bl)(S2:Nat)(ly:List bl×Int):(List bl)⊕(List bl×Int):=(bif(decide (ly.2<b))then(match aj (bv a l_) (l_.length+1) 0 (ly.1,ly.2)with| .inl apA=>.inr (apA,(i64.wrap (ly.2+1))) | .inr s_1=>.inr default)else .inl ly.1)
def bp (a:Int)(b:Int)(l_:List bl)(S2:Nat)(ly:List bl×Int):Prop:=letI q0:=bv a l_;((decide (ly.2<b))=true->(okI q0 (bI a l_) (l_.length+1) 0 (ly.1,ly.2)/\(∀ z_,aj q0 (l_.length+1) 0 (ly.1,ly.2)≠ .inr z_)))
def aG (a:Int)(b:Int)(l_:List bl):List bl:=(match aj (a_ a b l_) (l_.length+1) 0 (l_,(i64.wrap (a+1)))with| .inl pq=>pq| .inr ly=>default)
def bb (a:Int)(b:Int)(l_:List bl):Prop:=letI q0:=a_ a b l_;letI q1:=(l_,(i64.wrap (a+1)));(okI q0 (bp a b l_) (l_.length+1) 0 q1/\(∀ z_,aj q0 (l_.length+1) 0 q1≠ .inr z_))
noncomputable def gY:List SV->List Ob->Option ao3:=jf (λx_:Int×Int×(List bl) =>[.os 0,.v (.int .i64 x_.1),.v (.int .i64 x_.2.1),.fn 284 [] []]) (λx_=>[.row .x6 x_.2.2]) (λx_=>fL (bb x_.1 x_.2.1 x_.2.2) (.tup []) [.row .x6 (aG x_.1 x_.2.1 x_.2.2)])
@[go_sem]def vS (a:Int)(b:Int)(l_:List bl):gY ([.os 0,.v (.int .i64 a),.v (.int .i64 b),.fn 284 [] []]) ([.row .x6 l_])=some (fL (bb a b l_) (.tup []) [.row .x6 (aG a b l_)]):=fO (A:=λx_:Int×Int×(List bl) =>[.os 0,.v (.int .i64 x_.1),.v (.int .i64 x_.2.1),.fn 284 [] []]) (H:=λx_=>[.row .x6 x_.2.2]) (K:=λx_=>fL (bb x_.1 x_.2.1 x_.2.2) (.tup []) [.row .x6 (aG x_.1 x_.2.1 x_.2.2)]) (x:=(a,b,l_))
theorem lD:ao2 Tryz.prog 338 (gY):=by
 have hG:=mG (cn [.st .x6,.st .x6] oF P0) P0;refine fR hG Tryz.f338 (λl o con h=>?_);obtain⟨⟨a,b,O⟩,rfl,rfl,rfl⟩:=dS h;clear h;try dsimp only
 refine⟨_,_,_,rfl,λhp=>?_⟩;unfold bb at hp;refine⟨nbl rfl,(λid st=>bif Nat.beq id 0 then some (LCV (ρ:=(List bl)) (σ:=(List bl×Int)) 1 [] [0] (λS2 E=>⟨[(0,.os 0),(1,.v (.int .i64 a)),(2,.v (.int .i64 b)),(3,.fn 284 [] []),(8,.v (.int .i64 E.2))],[.row .x6 E.1]⟩) (a_ a b O) (bp a b O) (O.length+1) (O,(i64.wrap (a+1))) (λ_=>.normal) (λW=>⟨[],[.row .x6 W]⟩) st)else none),?_,?_⟩;unfold ae Tryz.f338;simp only[ak,true_and,and_true,and_assoc];refine eQ mixed aD hG kr (λ_=>rfl) λS2 E Y=>⟨(λid st=>bif Nat.beq id 2 then some (LCV (ρ:=(List bl)) (σ:=(List bl×Int)) 1 [] [0] (λX U=>⟨[(0,.os 0),(1,.v (.int .i64 a)),(2,.v (.int .i64 b)),(3,.fn 284 [] []),(8,.v (.int .i64 E.2)),(9,.v (.int .i64 U.2))],[.row .x6 U.1]⟩) (bv a O) (bI a O) (O.length+1) (E.1,E.2) (λ_=>.normal) (λV=>⟨[(0,.os 0),(1,.v (.int .i64 a)),(2,.v (.int .i64 b)),(3,.fn 284 [] []),(8,.v (.int .i64 E.2))],[.row .x6 V]⟩) st)else none),?_,?_⟩;simp only[ak,true_and,and_true];refine eQ mixed aD hG kr (λ_=>rfl) λX U hq1=>⟨L0,ag _,?_⟩;unfold bI at hq1;exact c7 (jl [0]);unfold bp at Y;exact c7 (jl [0]);unfold ae Tryz.f338;try unfold aG
 exact c7 (jl [0])
@[go_sem] def cj (a:Int)(b:Int)(n:Int)(S2:Nat)(ly:List bl):Empty⊕(List bl):=letI q0:=Int.toNat (i64.wrap (a+(S2:Int)));letI q1:=Int.toNat (i64.wrap (b+(S2:Int)));.inr ((ly.set q0 (ly.getD q1 default)).set q1 (ly.getD q0 default))
def cN (a:Int)(b:Int)(n:Int)(S2:Nat)(ly:List bl):Prop:=letI q0:=i64.wrap (b+(S2:Int));letI q1:=i64.wrap (a+(S2:Int));letI q2:=(ly.length:Int);((0<=q0/\q0<q2)/\((0<=q1/\q1<q2)/\((0<=q1/\q1<q2)/\(0<=q0/\q0< ((ly.set (Int.toNat q1) (ly.getD (Int.toNat q0) default)).length:Int)))))
def br (a:Int)(b:Int)(n:Int)(l_:List bl):List bl:=(match aj (cj a b n) (Int.toNat n) 0 l_ with| .inl x=>x.elim| .inr ly=>ly)
def be (a:Int)(b:Int)(n:Int)(l_:List bl):Prop:=((n<9223372036854775808)/\okI (cj a b n) (cN a b n) (Int.toNat n) 0 l_)
noncomputable def iW:List SV->List Ob->Option ao3:=jf (λx_:Int×Int×Int×(List bl) =>[.os 0,.v (.int .i64 x_.1),.v (.int .i64 x_.2.1),.v (.int .i64 x_.2.2.1),.fn 284 [] []]) (λx_=>[.row .x6 x_.2.2.2]) (λx_=>fL (be x_.1 x_.2.1 x_.2.2.1 x_.2.2.2) (.tup []) [.row .x6 (br x_.1 x_.2.1 x_.2.2.1 x_.2.2.2)])
@[go_sem]def xz (a:Int)(b:Int)(n:Int)(l_:List bl):iW ([.os 0,.v (.int .i64 a),.v (.int .i64 b),.v (.int .i64 n),.fn 284 [] []]) ([.row .x6 l_])=some (fL (be a b n l_) (.tup []) [.row .x6 (br a b n l_)]):=fO (A:=λx_:Int×Int×Int×(List bl) =>[.os 0,.v (.int .i64 x_.1),.v (.int .i64 x_.2.1),.v (.int .i64 x_.2.2.1),.fn 284 [] []]) (H:=λx_=>[.row .x6 x_.2.2.2]) (K:=λx_=>fL (be x_.1 x_.2.1 x_.2.2.1 x_.2.2.2) (.tup []) [.row .x6 (br x_.1 x_.2.1 x_.2.2.1 x_.2.2.2)]) (x:=(a,b,n,l_))
theorem mY:ao2 Tryz.prog 349 (iW):=by
 have hG:=mG P0 P0;refine fR hG Tryz.f349 (λl o X h=>?_);obtain⟨⟨a,b,n,W⟩,rfl,rfl,rfl⟩:=dS h;clear h;try dsimp only
 refine⟨_,_,_,rfl,λY=>?_⟩;unfold be at Y;refine⟨nbl rfl,(λid st=>bif Nat.beq id 0 then some (LCR (ρ:=Empty) (σ:=(List bl)) 1 [] [0] (λU E=>⟨[(0,.os 0),(1,.v (.int .i64 a)),(2,.v (.int .i64 b)),(3,.v (.int .i64 n)),(10,.v (.int .i64 (U:Int)))],[.row .x6 E]⟩) (cj a b n) (cN a b n) (Int.toNat n) W (n<9223372036854775808) ((·.elim)) ((·.elim)) st)else none),?_,?_⟩;unfold ae Tryz.f349;simp only[ak,true_and,and_true,and_assoc];refine bZ mixed aD hG kr (λ_=>rfl) n rfl id (λhb0 U E V O hw hc=>⟨L0,ag _,?_⟩) (λhb0 E hc=>?_);unfold cN at O;try simp only[hw,alv]at O
 exact bG (jl [0]);exact bH (jl [0]);unfold ae Tryz.f349;try unfold br
 exact c7 (jl [0])
@[go_sem] def cO (a:Int)(m:Int)(b:Int)(S2:Nat)(ly:List bl×Int×Int):(Int×List bl)⊕(List bl×Int×Int):=letI q0:=i64.wrap (m - ly.2.1);(bif(ly.2.1 !=ly.2.2)then(bif(decide (ly.2.1 > ly.2.2))then .inr ((br q0 m ly.2.2 ly.1),(i64.wrap (ly.2.1 - ly.2.2)),ly.2.2)else .inr ((br q0 (i64.wrap ((i64.wrap (m+ly.2.2)) - ly.2.1)) ly.2.1 ly.1),ly.2.1,(i64.wrap (ly.2.2 - ly.2.1))))else .inl (ly.2.1,ly.1))
def dq (a:Int)(m:Int)(b:Int)(S2:Nat)(ly:List bl×Int×Int):Prop:=letI q0:=i64.wrap (m - ly.2.1);letI q1:=decide (ly.2.1 > ly.2.2);((ly.2.1 !=ly.2.2)=true->((q1=true->(be q0 m ly.2.2 ly.1))/\(q1=false->(be q0 (i64.wrap ((i64.wrap (m+ly.2.2)) - ly.2.1)) ly.2.1 ly.1))))
def aF (a:Int)(m:Int)(b:Int)(l_:List bl):List bl:=(match aj (cO a m b) (Int.toNat (b - a)+1) 0 (l_,(i64.wrap (m - a)),(i64.wrap (b - m)))with| .inl pq=>(br (i64.wrap (m - pq.1)) m pq.1 pq.2) | .inr ly=>default)
def bP (a:Int)(m:Int)(b:Int)(l_:List bl):Prop:=letI q0:=(l_,(i64.wrap (m - a)),(i64.wrap (b - m)));letI q1:=cO a m b;letI q2:=Int.toNat (b - a)+1;(okI q1 (dq a m b) q2 0 q0/\(∀ z_,aj q1 q2 0 q0≠ .inr z_)/\(∀ pq,aj q1 q2 0 q0=.inl pq->(be (i64.wrap (m - pq.1)) m pq.1 pq.2)))
noncomputable def jK:List SV->List Ob->Option ao3:=jf (λx_:Int×Int×Int×(List bl) =>[.os 0,.v (.int .i64 x_.1),.v (.int .i64 x_.2.1),.v (.int .i64 x_.2.2.1),.fn 284 [] []]) (λx_=>[.row .x6 x_.2.2.2]) (λx_=>fL (bP x_.1 x_.2.1 x_.2.2.1 x_.2.2.2) (.tup []) [.row .x6 (aF x_.1 x_.2.1 x_.2.2.1 x_.2.2.2)])
@[go_sem]def y4 (a:Int)(m:Int)(b:Int)(l_:List bl):jK ([.os 0,.v (.int .i64 a),.v (.int .i64 m),.v (.int .i64 b),.fn 284 [] []]) ([.row .x6 l_])=some (fL (bP a m b l_) (.tup []) [.row .x6 (aF a m b l_)]):=fO (A:=λx_:Int×Int×Int×(List bl) =>[.os 0,.v (.int .i64 x_.1),.v (.int .i64 x_.2.1),.v (.int .i64 x_.2.2.1),.fn 284 [] []]) (H:=λx_=>[.row .x6 x_.2.2.2]) (K:=λx_=>fL (bP x_.1 x_.2.1 x_.2.2.1 x_.2.2.2) (.tup []) [.row .x6 (aF x_.1 x_.2.1 x_.2.2.1 x_.2.2.2)]) (x:=(a,m,b,l_))
theorem oG:ao2 Tryz.prog 345 (jK):=by
 have hG:=mG P0 (co mY P0);refine fR hG Tryz.f345 (λl o W h=>?_);obtain⟨⟨a,m,b,X⟩,rfl,rfl,rfl⟩:=dS h;clear h;try dsimp only
 refine⟨_,_,_,rfl,λY=>?_⟩;unfold bP at Y;refine⟨nbl rfl,(λid st=>bif Nat.beq id 0 then some (LCV (ρ:=(Int×List bl)) (σ:=(List bl×Int×Int)) 1 [] [0] (λV O=>⟨[(0,.os 0),(2,.v (.int .i64 m)),(4,.fn 284 [] []),(10,.v (.int .i64 O.2.1)),(11,.v (.int .i64 O.2.2))],[.row .x6 O.1]⟩) (cO a m b) (dq a m b) (Int.toNat (b - a)+1) (X,(i64.wrap (m - a)),(i64.wrap (b - m))) (λ_=>.normal) (λE=>⟨[(0,.os 0),(2,.v (.int .i64 m)),(4,.fn 284 [] []),(10,.v (.int .i64 E.1))],[.row .x6 E.2]⟩) st)else none),?_,?_⟩;unfold ae Tryz.f345;simp only[ak,true_and,and_true,and_assoc];refine eQ mixed aD hG kr (λ_=>rfl) λV O U=>⟨L0,ag _,?_⟩;unfold dq at U;exact c7 (jl [0]);unfold ae Tryz.f345;try unfold aF
 exact c7 (jl [0])
noncomputable def OJ (apS:Int->Int->Int->List bl->List bl)(apF:Int->Int->Int->List bl->Prop):List SV->List Ob->Option ao3:=jf (λx_:Int×Int×Int×(List bl) =>[.os 0,.v (.int .i64 x_.1),.v (.int .i64 x_.2.1),.v (.int .i64 x_.2.2.1),.fn 284 [] []]) (λx_=>[.row .x6 x_.2.2.2]) (λx_=>fL (apF x_.1 x_.2.1 x_.2.2.1 x_.2.2.2) (.tup []) [.row .x6 (apS x_.1 x_.2.1 x_.2.2.1 x_.2.2.2)])
@[go_sem]def Ip (apS:Int->Int->Int->List bl->List bl)(apF:Int->Int->Int->List bl->Prop)(a:Int)(m:Int)(b:Int)(l_:List bl):OJ apS apF ([.os 0,.v (.int .i64 a),.v (.int .i64 m),.v (.int .i64 b),.fn 284 [] []]) ([.row .x6 l_])=some (fL (apF a m b l_) (.tup []) [.row .x6 (apS a m b l_)]):=fO (A:=λx_:Int×Int×Int×(List bl) =>[.os 0,.v (.int .i64 x_.1),.v (.int .i64 x_.2.1),.v (.int .i64 x_.2.2.1),.fn 284 [] []]) (H:=λx_=>[.row .x6 x_.2.2.2]) (K:=λx_=>fL (apF x_.1 x_.2.1 x_.2.2.1 x_.2.2.2) (.tup []) [.row .x6 (apS x_.1 x_.2.1 x_.2.2.1 x_.2.2.2)]) (x:=(a,m,b,l_))
@[go_sem] def rO (a:Int)(l_:List bl)(S2:Nat)(ly:Int×Int):Int⊕(Int×Int):=letI q0:=i64.wrap (mr .u64 (u64.wrap (i64.wrap (ly.1+ly.2))) 1);(bif(decide (ly.1<ly.2))then(bif(decide ((dO (l_.getD (Int.toNat q0) default) (l_.getD (Int.toNat a) default)) <0))then .inr ((i64.wrap (q0+1)),ly.2)else .inr (ly.1,q0))else .inl ly.1)
def r8 (a:Int)(l_:List bl)(S2:Nat)(ly:Int×Int):Prop:=letI q0:=i64.wrap (mr .u64 (u64.wrap (i64.wrap (ly.1+ly.2))) 1);((decide (ly.1<ly.2))=true->((0<=q0/\q0< (l_.length:Int))/\(0<=a/\a< (l_.length:Int))))
@[go_sem] def u_ (l_:List bl)(pq:Int)(k_1:Nat)(s_1:List bl×Int):(List bl)⊕(List bl×Int):=letI q0:=i64.wrap (s_1.2+1);(bif(decide (s_1.2< (i64.wrap (pq - 1))))then .inr (((s_1.1.set (Int.toNat s_1.2) (s_1.1.getD (Int.toNat q0) default)).set (Int.toNat q0) (s_1.1.getD (Int.toNat s_1.2) default)),q0)else .inl s_1.1)
def uD (l_:List bl)(pq:Int)(k_1:Nat)(s_1:List bl×Int):Prop:=letI q0:=i64.wrap (s_1.2+1);letI q2:=(s_1.1.length:Int);letI q1:=0<=s_1.2/\s_1.2<q2;((decide (s_1.2< (i64.wrap (pq - 1))))=true->((0<=q0/\q0<q2)/\(q1/\(q1/\(0<=q0/\q0< ((s_1.1.set (Int.toNat s_1.2) (s_1.1.getD (Int.toNat q0) default)).length:Int))))))
@[go_sem] def rP (m:Int)(l_:List bl)(k_2:Nat)(s_2:Int×Int):Int⊕(Int×Int):=letI q0:=i64.wrap (mr .u64 (u64.wrap (i64.wrap (s_2.1+s_2.2))) 1);(bif(decide (s_2.1<s_2.2))then(bif(!(decide ((dO (l_.getD (Int.toNat m) default) (l_.getD (Int.toNat q0) default)) <0)))then .inr ((i64.wrap (q0+1)),s_2.2)else .inr (s_2.1,q0))else .inl s_2.1)
def r9 (m:Int)(l_:List bl)(k_2:Nat)(s_2:Int×Int):Prop:=letI q0:=i64.wrap (mr .u64 (u64.wrap (i64.wrap (s_2.1+s_2.2))) 1);((decide (s_2.1<s_2.2))=true->((0<=m/\m< (l_.length:Int))/\(0<=q0/\q0< (l_.length:Int))))
@[go_sem] def va (l_:List bl)(apv:Int)(k_3:Nat)(s_3:List bl×Int):(List bl)⊕(List bl×Int):=letI q0:=i64.wrap (s_3.2 - 1);(bif(decide (s_3.2 > apv))then .inr (((s_3.1.set (Int.toNat s_3.2) (s_3.1.getD (Int.toNat q0) default)).set (Int.toNat q0) (s_3.1.getD (Int.toNat s_3.2) default)),q0)else .inl s_3.1)
def uE (l_:List bl)(apv:Int)(k_3:Nat)(s_3:List bl×Int):Prop:=letI q0:=i64.wrap (s_3.2 - 1);letI q2:=(s_3.1.length:Int);letI q1:=0<=s_3.2/\s_3.2<q2;((decide (s_3.2 > apv))=true->((0<=q0/\q0<q2)/\(q1/\(q1/\(0<=q0/\q0< ((s_3.1.set (Int.toNat s_3.2) (s_3.1.getD (Int.toNat q0) default)).length:Int))))))
@[go_sem] def xA (a:Int)(m:Int)(b:Int)(l_:List bl)(k_4:Nat)(s_4:Int×Int):Int⊕(Int×Int):=letI q0:=i64.wrap (mr .u64 (u64.wrap (i64.wrap (s_4.1+s_4.2))) 1);(bif(decide (s_4.1<s_4.2))then(bif(!(decide ((dO (l_.getD (Int.toNat (i64.wrap ((i64.wrap ((i64.wrap ((i64.wrap (mr .u64 (u64.wrap (i64.wrap (a+b))) 1))+m)) - 1)) - q0))) default) (l_.getD (Int.toNat q0) default)) <0)))then .inr ((i64.wrap (q0+1)),s_4.2)else .inr (s_4.1,q0))else .inl s_4.1)
def sa (a:Int)(m:Int)(b:Int)(l_:List bl)(k_4:Nat)(s_4:Int×Int):Prop:=letI q0:=i64.wrap (mr .u64 (u64.wrap (i64.wrap (s_4.1+s_4.2))) 1);letI q1:=i64.wrap ((i64.wrap ((i64.wrap ((i64.wrap (mr .u64 (u64.wrap (i64.wrap (a+b))) 1))+m)) - 1)) - q0);((decide (s_4.1<s_4.2))=true->((0<=q1/\q1< (l_.length:Int))/\(0<=q0/\q0< (l_.length:Int))))
def J1 (apS:Int->Int->Int->List bl->List bl)(apF:Int->Int->Int->List bl->Prop)(a:Int)(m:Int)(b:Int)(l_:List bl):List bl:=letI q0:=i64.wrap (mr .u64 (u64.wrap (i64.wrap (a+b))) 1);letI q1:=i64.wrap (q0+m);letI q2:=l_.length+1;(bif((i64.wrap (m - a)) ==1)then(match aj (rO a l_) q2 0 (m,b)with| .inl pq=>(match aj (u_ l_ pq) q2 0 (l_,a)with| .inl apA=>apA| .inr s_1=>default) | .inr ly=>default)else(bif((i64.wrap (b - m)) ==1)then(match aj (rP m l_) q2 0 (a,m)with| .inl apv=>(match aj (va l_ apv) q2 0 (l_,m)with| .inl aqo=>aqo| .inr s_3=>default) | .inr s_2=>default)else(match aj (xA a m b l_) q2 0 ((bif(decide (m > q0))then(i64.wrap (q1 - b))else a),(bif(decide (m > q0))then q0 else m))with| .inl aoW=>(bif((decide (aoW<m))&&(decide (m< (i64.wrap (q1 - aoW)))))then(bif((decide (a<aoW))&&(decide (aoW<q0)))then(bif((decide (q0< (i64.wrap (q1 - aoW))))&&(decide ((i64.wrap (q1 - aoW)) <b)))then(apS q0 (i64.wrap (q1 - aoW)) b (apS a aoW q0 (aF aoW m (i64.wrap (q1 - aoW)) l_)))else(apS a aoW q0 (aF aoW m (i64.wrap (q1 - aoW)) l_)))else(bif((decide (q0< (i64.wrap (q1 - aoW))))&&(decide ((i64.wrap (q1 - aoW)) <b)))then(apS q0 (i64.wrap (q1 - aoW)) b (aF aoW m (i64.wrap (q1 - aoW)) l_))else(aF aoW m (i64.wrap (q1 - aoW)) l_)))else(bif((decide (a<aoW))&&(decide (aoW<q0)))then(bif((decide (q0< (i64.wrap (q1 - aoW))))&&(decide ((i64.wrap (q1 - aoW)) <b)))then(apS q0 (i64.wrap (q1 - aoW)) b (apS a aoW q0 l_))else(apS a aoW q0 l_))else(bif((decide (q0< (i64.wrap (q1 - aoW))))&&(decide ((i64.wrap (q1 - aoW)) <b)))then(apS q0 (i64.wrap (q1 - aoW)) b l_)else l_))) | .inr s_4=>default)))
def vb (apS:Int->Int->Int->List bl->List bl)(apF:Int->Int->Int->List bl->Prop)(a:Int)(m:Int)(b:Int)(l_:List bl):Prop:=letI q0:=i64.wrap (mr .u64 (u64.wrap (i64.wrap (a+b))) 1);letI q1:=i64.wrap (q0+m);letI q2:=((bif(decide (m > q0))then(i64.wrap (q1 - b))else a),(bif(decide (m > q0))then q0 else m));letI q3:=l_.length+1;letI q4:=xA a m b l_;letI q5:=(i64.wrap (m - a)) ==1;letI q6:=(i64.wrap (b - m)) ==1;letI q7:=rO a l_;letI q8:=rP m l_;((q5=true->(okI q7 (r8 a l_) q3 0 (m,b)/\(∀ z_,aj q7 q3 0 (m,b)≠ .inr z_)/\(∀ pq,aj q7 q3 0 (m,b)=.inl pq->(okI (u_ l_ pq) (uD l_ pq) q3 0 (l_,a)/\(∀ z_,aj (u_ l_ pq) q3 0 (l_,a)≠ .inr z_)))))/\(q5=false->((q6=true->(okI q8 (r9 m l_) q3 0 (a,m)/\(∀ z_,aj q8 q3 0 (a,m)≠ .inr z_)/\(∀ apv,aj q8 q3 0 (a,m)=.inl apv->(okI (va l_ apv) (uE l_ apv) q3 0 (l_,m)/\(∀ z_,aj (va l_ apv) q3 0 (l_,m)≠ .inr z_)))))/\(q6=false->(okI q4 (sa a m b l_) q3 0 q2/\(∀ z_,aj q4 q3 0 q2≠ .inr z_)/\(∀ aoW,aj q4 q3 0 q2=.inl aoW->((((decide (aoW<m))&&(decide (m< (i64.wrap (q1 - aoW)))))=true->((bP aoW m (i64.wrap (q1 - aoW)) l_)/\((((decide (a<aoW))&&(decide (aoW<q0)))=true->((apF a aoW q0 (aF aoW m (i64.wrap (q1 - aoW)) l_))/\(((decide (q0< (i64.wrap (q1 - aoW))))&&(decide ((i64.wrap (q1 - aoW)) <b)))=true->(apF q0 (i64.wrap (q1 - aoW)) b (apS a aoW q0 (aF aoW m (i64.wrap (q1 - aoW)) l_))))))/\(((decide (a<aoW))&&(decide (aoW<q0)))=false->(((decide (q0< (i64.wrap (q1 - aoW))))&&(decide ((i64.wrap (q1 - aoW)) <b)))=true->(apF q0 (i64.wrap (q1 - aoW)) b (aF aoW m (i64.wrap (q1 - aoW)) l_)))))))/\(((decide (aoW<m))&&(decide (m< (i64.wrap (q1 - aoW)))))=false->((((decide (a<aoW))&&(decide (aoW<q0)))=true->((apF a aoW q0 l_)/\(((decide (q0< (i64.wrap (q1 - aoW))))&&(decide ((i64.wrap (q1 - aoW)) <b)))=true->(apF q0 (i64.wrap (q1 - aoW)) b (apS a aoW q0 l_)))))/\(((decide (a<aoW))&&(decide (aoW<q0)))=false->(((decide (q0< (i64.wrap (q1 - aoW))))&&(decide ((i64.wrap (q1 - aoW)) <b)))=true->(apF q0 (i64.wrap (q1 - aoW)) b l_))))))))))))
noncomputable def ado (apS:Int->Int->Int->List bl->List bl)(apF:Int->Int->Int->List bl->Prop):List SV->List Ob->Option ao3:=jf (λx_:Int×Int×Int×(List bl) =>[.os 0,.v (.int .i64 x_.1),.v (.int .i64 x_.2.1),.v (.int .i64 x_.2.2.1),.fn 284 [] []]) (λx_=>[.row .x6 x_.2.2.2]) (λx_=>fL (vb apS apF x_.1 x_.2.1 x_.2.2.1 x_.2.2.2) (.tup []) [.row .x6 (J1 apS apF x_.1 x_.2.1 x_.2.2.1 x_.2.2.2)])
theorem ZL (U:Int->Int->Int->List bl->List bl)(O:Int->Int->Int->List bl->Prop)(hr:ao2 Tryz.prog 339 (OJ U O)):ao2 Tryz.prog 339 (ado U O):=by
 have hG:=mG (cn [.st .x6,.st .x6] oF P0) (co hr (co oG P0));refine fR hG Tryz.f339 (λl o con h=>?_);obtain⟨⟨a,m,b,E⟩,rfl,rfl,rfl⟩:=dS h;clear h;try dsimp only
 refine⟨_,_,_,rfl,λhp=>?_⟩;unfold vb at hp;refine⟨nbl rfl,(λid st=>bif Nat.beq id 0 then some (LCV (ρ:=Int) (σ:=(Int×Int)) 1 [] [0] (λS2 ly=>⟨[(0,.os 0),(1,.v (.int .i64 a)),(4,.fn 284 [] []),(10,.v (.int .i64 ly.1)),(11,.v (.int .i64 ly.2))],[.row .x6 E]⟩) (rO a E) (r8 a E) (E.length+1) (m,b) (λ_=>.normal) (λpq=>⟨[(0,.os 0),(1,.v (.int .i64 a)),(10,.v (.int .i64 pq))],[.row .x6 E]⟩) st)else bif Nat.beq id 2 then some (LCV (ρ:=(List bl)) (σ:=(List bl×Int)) 1 [] [0] (λk_1 Y=>⟨[(0,.os 0),(10,.v (.int .i64 (eo (aj (rO a E) (E.length+1) 0 (m,b))))),(13,.v (.int .i64 Y.2))],[.row .x6 Y.1]⟩) (u_ E (eo (aj (rO a E) (E.length+1) 0 (m,b)))) (uD E (eo (aj (rO a E) (E.length+1) 0 (m,b)))) (E.length+1) (E,a) (λ_=>.normal) (λapA=>⟨[],[.row .x6 apA]⟩) st)else bif Nat.beq id 4 then some (LCV (ρ:=Int) (σ:=(Int×Int)) 1 [] [0] (λk_2 W=>⟨[(0,.os 0),(2,.v (.int .i64 m)),(4,.fn 284 [] []),(14,.v (.int .i64 W.1)),(15,.v (.int .i64 W.2))],[.row .x6 E]⟩) (rP m E) (r9 m E) (E.length+1) (a,m) (λ_=>.normal) (λV=>⟨[(0,.os 0),(2,.v (.int .i64 m)),(14,.v (.int .i64 V))],[.row .x6 E]⟩) st)else bif Nat.beq id 6 then some (LCV (ρ:=(List bl)) (σ:=(List bl×Int)) 1 [] [0] (λk_3 s_3=>⟨[(0,.os 0),(14,.v (.int .i64 (eo (aj (rP m E) (E.length+1) 0 (a,m))))),(17,.v (.int .i64 s_3.2))],[.row .x6 s_3.1]⟩) (va E (eo (aj (rP m E) (E.length+1) 0 (a,m)))) (uE E (eo (aj (rP m E) (E.length+1) 0 (a,m)))) (E.length+1) (E,m) (λ_=>.normal) (λaqo=>⟨[],[.row .x6 aqo]⟩) st)else bif Nat.beq id 1000140 then some (JC (⟨[(0,.os 0),(1,.v (.int .i64 a)),(2,.v (.int .i64 m)),(3,.v (.int .i64 b)),(4,.fn 284 [] []),(18,.v (.int .i64 (i64.wrap (mr .u64 (u64.wrap (i64.wrap (a+b))) 1)))),(19,.v (.int .i64 (i64.wrap ((i64.wrap (mr .u64 (u64.wrap (i64.wrap (a+b))) 1))+m)))),(20,.v (.int .i64 (bif(decide (m > (i64.wrap (mr .u64 (u64.wrap (i64.wrap (a+b))) 1))))then(i64.wrap ((i64.wrap ((i64.wrap (mr .u64 (u64.wrap (i64.wrap (a+b))) 1))+m)) - b))else a))),(21,.v (.int .i64 (bif(decide (m > (i64.wrap (mr .u64 (u64.wrap (i64.wrap (a+b))) 1))))then(i64.wrap (mr .u64 (u64.wrap (i64.wrap (a+b))) 1))else m)))],[.row .x6 E]⟩))else bif Nat.beq id 8 then some (LCV (ρ:=Int) (σ:=(Int×Int)) 1 [] [0] (λk_4 s_4=>⟨[(0,.os 0),(1,.v (.int .i64 a)),(2,.v (.int .i64 m)),(3,.v (.int .i64 b)),(4,.fn 284 [] []),(18,.v (.int .i64 (i64.wrap (mr .u64 (u64.wrap (i64.wrap (a+b))) 1)))),(19,.v (.int .i64 (i64.wrap ((i64.wrap (mr .u64 (u64.wrap (i64.wrap (a+b))) 1))+m)))),(20,.v (.int .i64 s_4.1)),(21,.v (.int .i64 s_4.2)),(22,.v (.int .i64 (i64.wrap ((i64.wrap ((i64.wrap (mr .u64 (u64.wrap (i64.wrap (a+b))) 1))+m)) - 1))))],[.row .x6 E]⟩) (xA a m b E) (sa a m b E) (E.length+1) ((bif(decide (m > (i64.wrap (mr .u64 (u64.wrap (i64.wrap (a+b))) 1))))then(i64.wrap ((i64.wrap ((i64.wrap (mr .u64 (u64.wrap (i64.wrap (a+b))) 1))+m)) - b))else a),(bif(decide (m > (i64.wrap (mr .u64 (u64.wrap (i64.wrap (a+b))) 1))))then(i64.wrap (mr .u64 (u64.wrap (i64.wrap (a+b))) 1))else m)) (λ_=>.normal) (λX=>⟨[(0,.os 0),(1,.v (.int .i64 a)),(2,.v (.int .i64 m)),(3,.v (.int .i64 b)),(4,.fn 284 [] []),(18,.v (.int .i64 (i64.wrap (mr .u64 (u64.wrap (i64.wrap (a+b))) 1)))),(19,.v (.int .i64 (i64.wrap ((i64.wrap (mr .u64 (u64.wrap (i64.wrap (a+b))) 1))+m)))),(20,.v (.int .i64 X))],[.row .x6 E]⟩) st)else none),?_,?_⟩;unfold ae Tryz.f339;simp only[ak,true_and,and_true,and_assoc];refine⟨?_,?_,?_,?_,?_⟩;refine eQ mixed aD hG kr (λ_=>rfl) λS2 ly hq0=>⟨L0,ag _,?_⟩;unfold r8 at hq0;exact c7 (jl [0]);refine eQ mixed aD hG kr (λ_=>rfl) λk_1 Y hq1=>⟨L0,ag _,?_⟩;unfold uD at hq1;exact c7 (jl [0]);refine eQ mixed aD hG kr (λ_=>rfl) λk_2 W hq2=>⟨L0,ag _,?_⟩;unfold r9 at hq2;exact c7 (jl [0]);refine eQ mixed aD hG kr (λ_=>rfl) λk_3 s_3 hq3=>⟨L0,ag _,?_⟩;unfold uE at hq3;exact c7 (jl [0]);refine eQ mixed aD hG kr (λ_=>rfl) λk_4 s_4 hq4=>⟨L0,ag _,?_⟩;unfold sa at hq4;exact c7 (jl [0]);unfold ae Tryz.f339;try unfold J1
 exact c7 (jl [0])
def qg:Nat->(Int->Int->Int->List bl->List bl)×(Int->Int->Int->List bl->Prop)
 |0=>(λ_ _ _ l=>l,λ_ _ _ _=>False)
 |n+1=>(J1 (qg n).1 (qg n).2,vb (qg n).1 (qg n).2)
theorem OK:∀ n,ao2 Tryz.prog 339 (OJ (qg n).1 (qg n).2)
 |0=>by
  have hG:aoI Tryz.prog (mkG [] []):=ox P0 P0;refine LY mixed aD hG (fn:=Tryz.f339) (c:=ae Tryz.f339) kr kr kr kr λl o E h=>?_;obtain⟨⟨a,m,b,U⟩,rfl,rfl,rfl⟩:=dS h;exact⟨_,_,_,rfl,λO=>O.elim⟩
 |n+1=>ZL _ _ (OK n)
def dc (a:Int)(m:Int)(b:Int)(l_:List bl):List bl:=(qg (l_.length+1)).1 a m b l_
def cG (a:Int)(m:Int)(b:Int)(l_:List bl):Prop:=(qg (l_.length+1)).2 a m b l_
noncomputable def i_:List SV->List Ob->Option ao3:=jf (λx_:Int×Int×Int×(List bl) =>[.os 0,.v (.int .i64 x_.1),.v (.int .i64 x_.2.1),.v (.int .i64 x_.2.2.1),.fn 284 [] []]) (λx_=>[.row .x6 x_.2.2.2]) (λx_=>fL (cG x_.1 x_.2.1 x_.2.2.1 x_.2.2.2) (.tup []) [.row .x6 (dc x_.1 x_.2.1 x_.2.2.1 x_.2.2.2)])
@[go_sem]def xZ (a:Int)(m:Int)(b:Int)(l_:List bl):i_ ([.os 0,.v (.int .i64 a),.v (.int .i64 m),.v (.int .i64 b),.fn 284 [] []]) ([.row .x6 l_])=some (fL (cG a m b l_) (.tup []) [.row .x6 (dc a m b l_)]):=fO (A:=λx_:Int×Int×Int×(List bl) =>[.os 0,.v (.int .i64 x_.1),.v (.int .i64 x_.2.1),.v (.int .i64 x_.2.2.1),.fn 284 [] []]) (H:=λx_=>[.row .x6 x_.2.2.2]) (K:=λx_=>fL (cG x_.1 x_.2.1 x_.2.2.1 x_.2.2.2) (.tup []) [.row .x6 (dc x_.1 x_.2.1 x_.2.2.1 x_.2.2.2)]) (x:=(a,m,b,l_))
theorem nN:ao2 Tryz.prog 339 i_ where
 enter:=λl h c e=>by
  obtain⟨⟨a,m,b,E⟩,rfl,rfl,rfl⟩:=dS e;exact(OK (E.length+1)).enter _ _ _ (Ip _ _ a m b E)
 calls:=λl h c e O=>by
  obtain⟨⟨a,m,b,E⟩,rfl,rfl,rfl⟩:=dS e;exact(OK (E.length+1)).calls _ _ _ (Ip _ _ a m b E) O
@[go_sem] def bL (n:Int)(S2:Nat)(ly:List bl×Int×Int):(Int×List bl)⊕(List bl×Int×Int):=(bif(decide (ly.2.2<=n))then .inr ((aG ly.2.1 ly.2.2 ly.1),ly.2.2,(i64.wrap (ly.2.2+20)))else .inl (ly.2.1,ly.1))
def du (n:Int)(S2:Nat)(ly:List bl×Int×Int):Prop:=((decide (ly.2.2<=n))=true->(bb ly.2.1 ly.2.2 ly.1))
@[go_sem] def cP (n:Int)(s_1:List bl×Int)(k_2:Nat)(s_2:List bl×Int×Int):(Int×List bl)⊕(List bl×Int×Int):=(bif(decide (s_2.2.2<=n))then .inr ((dc s_2.2.1 (i64.wrap (s_2.2.1+s_1.2)) s_2.2.2 s_2.1),s_2.2.2,(i64.wrap (s_2.2.2+(i64.wrap (2*s_1.2)))))else .inl (s_2.2.1,s_2.1))
def dv (n:Int)(s_1:List bl×Int)(k_2:Nat)(s_2:List bl×Int×Int):Prop:=((decide (s_2.2.2<=n))=true->(cG s_2.2.1 (i64.wrap (s_2.2.1+s_1.2)) s_2.2.2 s_2.1))
@[go_sem] def b7 (n:Int)(k_1:Nat)(s_1:List bl×Int):(List bl)⊕(List bl×Int):=letI q0:=i64.wrap (s_1.2*2);(bif(decide (s_1.2<n))then(match aj (cP n s_1) (Int.toNat n+1) 0 (s_1.1,0,(i64.wrap (2*s_1.2)))with| .inl apv=>(bif(decide ((i64.wrap (apv.1+s_1.2)) <n))then .inr ((dc apv.1 (i64.wrap (apv.1+s_1.2)) n apv.2),q0)else .inr (apv.2,q0)) | .inr s_2=>.inr default)else .inl s_1.1)
def cA (n:Int)(k_1:Nat)(s_1:List bl×Int):Prop:=letI q0:=(s_1.1,0,(i64.wrap (2*s_1.2)));letI q1:=cP n s_1;letI q2:=Int.toNat n+1;((decide (s_1.2<n))=true->(okI q1 (dv n s_1) q2 0 q0/\(∀ z_,aj q1 q2 0 q0≠ .inr z_)/\(∀ apv,aj q1 q2 0 q0=.inl apv->((decide ((i64.wrap (apv.1+s_1.2)) <n))=true->(cG apv.1 (i64.wrap (apv.1+s_1.2)) n apv.2)))))
def cI (n:Int)(l_:List bl):List bl:=(match aj (bL n) (Int.toNat n+1) 0 (l_,0,20)with| .inl pq=>(match aj (b7 n) (Int.toNat n+1) 0 ((aG pq.1 n pq.2),20)with| .inl apA=>apA| .inr s_1=>default) | .inr ly=>default)
def ci (n:Int)(l_:List bl):Prop:=letI q0:=bL n;letI q1:=Int.toNat n+1;letI q2:=b7 n;letI q3:=(l_,0,20);(okI q0 (du n) q1 0 q3/\(∀ z_,aj q0 q1 0 q3≠ .inr z_)/\(∀ pq,aj q0 q1 0 q3=.inl pq->((bb pq.1 n pq.2)/\(okI q2 (cA n) q1 0 ((aG pq.1 n pq.2),20)/\(∀ z_,aj q2 q1 0 ((aG pq.1 n pq.2),20)≠ .inr z_)))))
noncomputable def jL:List SV->List Ob->Option ao3:=jf (λx_:Int×(List bl) =>[.os 0,.v (.int .i64 x_.1),.fn 284 [] []]) (λx_=>[.row .x6 x_.2]) (λx_=>fL (ci x_.1 x_.2) (.tup []) [.row .x6 (cI x_.1 x_.2)])
@[go_sem]def y5 (n:Int)(l_:List bl):jL ([.os 0,.v (.int .i64 n),.fn 284 [] []]) ([.row .x6 l_])=some (fL (ci n l_) (.tup []) [.row .x6 (cI n l_)]):=fO (A:=λx_:Int×(List bl) =>[.os 0,.v (.int .i64 x_.1),.fn 284 [] []]) (H:=λx_=>[.row .x6 x_.2]) (K:=λx_=>fL (ci x_.1 x_.2) (.tup []) [.row .x6 (cI x_.1 x_.2)]) (x:=(n,l_))
theorem oH:ao2 Tryz.prog 317 (jL):=by
 have hG:=mG P0 (co lD (co nN P0));refine fR hG Tryz.f317 (λl o con h=>?_);obtain⟨⟨n,l_⟩,rfl,rfl,rfl⟩:=dS h;clear h;try dsimp only
 refine⟨_,_,_,rfl,λhp=>?_⟩;unfold ci at hp;refine⟨nbl rfl,(λid st=>bif Nat.beq id 0 then some (LCV (ρ:=(Int×List bl)) (σ:=(List bl×Int×Int)) 1 [] [0] (λS2 W=>⟨[(0,.os 0),(1,.v (.int .i64 n)),(2,.fn 284 [] []),(6,.v (.int .i64 20)),(7,.v (.int .i64 W.2.1)),(8,.v (.int .i64 W.2.2))],[.row .x6 W.1]⟩) (bL n) (du n) (Int.toNat n+1) (l_,0,20) (λ_=>.normal) (λU=>⟨[(0,.os 0),(1,.v (.int .i64 n)),(2,.fn 284 [] []),(6,.v (.int .i64 20)),(7,.v (.int .i64 U.1))],[.row .x6 U.2]⟩) st)else bif Nat.beq id 2 then some (LCV (ρ:=(List bl)) (σ:=(List bl×Int)) 1 [] [0] (λk_1 E=>⟨[(0,.os 0),(1,.v (.int .i64 n)),(2,.fn 284 [] []),(6,.v (.int .i64 E.2))],[.row .x6 E.1]⟩) (b7 n) (cA n) (Int.toNat n+1) ((aG (eo (aj (bL n) (Int.toNat n+1) 0 (l_,0,20))).1 n (eo (aj (bL n) (Int.toNat n+1) 0 (l_,0,20))).2),20) (λ_=>.normal) (λX=>⟨[],[.row .x6 X]⟩) st)else none),?_,?_⟩;unfold ae Tryz.f317;simp only[ak,true_and,and_true,and_assoc];refine⟨?_,?_⟩;refine eQ mixed aD hG kr (λ_=>rfl) λS2 W hq0=>⟨L0,ag _,?_⟩;unfold du at hq0;exact c7 (jl [0]);refine eQ mixed aD hG kr (λ_=>rfl) λk_1 E hq1=>⟨(λid st=>bif Nat.beq id 4 then some (LCV (ρ:=(Int×List bl)) (σ:=(List bl×Int×Int)) 1 [] [0] (λY V=>⟨[(0,.os 0),(1,.v (.int .i64 n)),(2,.fn 284 [] []),(6,.v (.int .i64 E.2)),(7,.v (.int .i64 V.2.1)),(8,.v (.int .i64 V.2.2))],[.row .x6 V.1]⟩) (cP n E) (dv n E) (Int.toNat n+1) (E.1,0,(i64.wrap (2*E.2))) (λ_=>.normal) (λO=>⟨[(0,.os 0),(1,.v (.int .i64 n)),(2,.fn 284 [] []),(6,.v (.int .i64 E.2)),(7,.v (.int .i64 O.1))],[.row .x6 O.2]⟩) st)else none),?_,?_⟩;simp only[ak,true_and,and_true];refine eQ mixed aD hG kr (λ_=>rfl) λY V hq2=>⟨L0,ag _,?_⟩;unfold dv at hq2;exact c7 (jl [0]);unfold cA at hq1;exact c7 (jl [0]);unfold ae Tryz.f317;try unfold cI
 exact c7 (jl [0])
def bT (l_:List bl):List bl:=(cI (l_.length:Int) l_)
def bJ (l_:List bl):Prop:=(l_.length<=aK->(ci (l_.length:Int) l_))
noncomputable def gz:List SV->List Ob->Option ao3:=jf (λx_:(List bl) =>[.os 0,.fn 284 [] []]) (λx_=>[.row .x6 x_]) (λx_=>fL (bJ x_) (.tup []) [.row .x6 (bT x_)])
@[go_sem]def uF (l_:List bl):gz ([.os 0,.fn 284 [] []]) ([.row .x6 l_])=some (fL (bJ l_) (.tup []) [.row .x6 (bT l_)]):=fO (A:=λx_:(List bl) =>[.os 0,.fn 284 [] []]) (H:=λx_=>[.row .x6 x_]) (K:=λx_=>fL (bJ x_) (.tup []) [.row .x6 (bT x_)]) (x:=l_)
theorem km:ao2 Tryz.prog 283 (gz):=by
 have hG:=mG P0 (co oH P0);refine fR hG Tryz.f283 (λl o O h=>?_);obtain⟨U,rfl,rfl,rfl⟩:=dS h;clear h;try dsimp only
 refine⟨_,_,_,rfl,λE=>?_⟩;unfold bJ at E;refine⟨nbl rfl,L0,?_,?_⟩;unfold ae Tryz.f283;simp only[ak,and_self,true_and,and_true];unfold ae Tryz.f283;try unfold bT
 exact c7 (jl [0])
def ph (l_:List bl):Unit:=()
noncomputable def jc:List SV->List Ob->Option ao3:=jf (λx_:(List bl) =>[.os 0]) (λx_=>[.row .x6 x_]) (λx_=>fL True (.fn 318 [] [.ptr 1 0]) [.row .x6 x_,.cells [.os 0]])
@[go_sem]def x8 (l_:List bl):jc ([.os 0]) ([.row .x6 l_])=some (fL True (.fn 318 [] [.ptr 1 0]) [.row .x6 l_,.cells [.os 0]]):=fO (A:=λx_:(List bl) =>[.os 0]) (H:=λx_=>[.row .x6 x_]) (K:=λx_=>fL True (.fn 318 [] [.ptr 1 0]) [.row .x6 x_,.cells [.os 0]]) (x:=l_)
theorem nO:ao2 Tryz.prog 285 (jc):=by
 have hG:=mG P0 P0;refine fR hG Tryz.f285 (λl o E h=>?_);obtain⟨U,rfl,rfl,rfl⟩:=dS h;clear h;try dsimp only
 refine⟨_,_,_,rfl,λO=>?_⟩;refine⟨nbl rfl,L0,?_,?_⟩;unfold ae Tryz.f285;simp only[ak,and_self,true_and,and_true];unfold ae Tryz.f285;try unfold ph
 exact c7 (jl [0,1])
@[go_sem] def fP (l_:List bl)(known:Int)(S2:Nat)(ly:List (Int×Bool)):Empty⊕(List (Int×Bool)):=(bif(((l_.getD S2 default).kind==4)&&(decide ((l_.getD S2 default).known<=known)))then .inr (dD .int .bool ly ((l_.getD S2 default).of_) true)else .inr ly)
def eI (l_:List bl)(hour:Int)(known:Int):List bl:=(match aj (fP l_ known) l_.length 0 ([])with| .inl x=>x.elim| .inr ly=>(bT (bu l_ known hour ly)))
def iz (l_:List bl)(hour:Int)(known:Int):Prop:=(l_.length<=aK->(∀ ly,aj (fP l_ known) l_.length 0 ([])=.inr ly->((l_.length*88<=d9)/\((bC l_ known hour ly)/\(bJ (bu l_ known hour ly))))))
@[go_sem] def x9:List SV->Option Con:=(pR .x6 λl_=>(pI λhour=>(pI λknown=>(pE (.det (iz l_ hour known) (.fn 318 [] [.ep [.rs .x6 (eI l_ hour known)] 0]))))))
theorem ase(h:p:=by simp only[go_sem,sF,sG];all_goals exact cl):p:=h
theorem wW:B1 Tryz.prog 230 x9:=by
 have hG:=mG (cn [.sl .x6] wV P0) (co lQ (co km (co nO P0)));refine fN hG Tryz.f230 [.o] (bN λE=>(ay λhour=>(ay λknown=>(am (λW=>?_)))));dsimp only[an]at W;unfold iz at W;refine⟨nbl rfl,(λid st=>bif Nat.beq id 0 then some (LCR (ρ:=Empty) (σ:=(List (Int×Bool))) 4 [] [0,1,2,3] (λU O=>⟨[(0,.rs .x6 E),(4,.ptr 0 0),(5,.ptr 1 0),(7,.ptr 3 0),(11,.rs .x6 E),(12,.v (.int .i64 (E.length:Int))),(13,.v (.int .i64 (U:Int)))],[.cells [.v (.int .i64 hour)],.cells [.v (.int .i64 known)],.mp .int .bool O none,.cells [.os 2]]⟩) (fP E known) pT E.length ([]) (E.length<=aK) ((·.elim)) ((·.elim)) st)else none),?_,?_⟩;unfold ae Tryz.f230;simp only[ak,true_and,and_true];refine bZ mixed aD hG kr (λ_=>rfl) (E.length:Int) rfl fM (λhb0 U O V _ hw hc=>⟨L0,ag _,?_⟩) (λhb0 O hc=>?_);exact bG (jl [0,1,2,3]);exact bH (jl [0,1,2,3]);unfold ae Tryz.f230;try unfold eI
 exact ase
theorem EZ(a0:JL l0)(h:JL l0->p:=by intro ja;(first|done|(repeat' (first|with_reducible refine And.intro ?_ ?_|((with_reducible show _≠_);first|assumption|omega|(simp_all [cq,eo];done) |grind) |with_reducible intro _)) <;>(first|done|with_reducible exact Empty.elim ‹Empty› |with_reducible assumption|rfl|omega|assumption|decide|exact fk ja|(refine Or.inr ?_;exact fkY ja) |(refine Or.inl ?_;exact fkY ja) |(refine Or.inl ⟨rfl,?_⟩;exact fkY ja) |(simp only[*,cond_true,cond_false,alN,alZ,go_sem];done) |(simp only[*,cond_true,cond_false,alN,alZ,go_sem];(repeat' (first|with_reducible refine And.intro ?_ ?_|((with_reducible show _≠_);first|assumption|omega|(simp_all [cq,eo];done) |grind) |with_reducible intro _)) <;>(first|done|assumption|rfl|omega|decide|exact fk ja|(refine Or.inr ?_;exact fkY ja) |(refine Or.inl ?_;exact fkY ja) |(refine Or.inl ⟨rfl,?_⟩;exact fkY ja) |(simp_all [cq,eo];done))) |(exfalso;rename_i h1 h2;rw[h1]at h2;cases h2) |(exfalso;rename_i h1 h2;simp only[h1,alZ,alN,aok,Bool.or_true,am3,amU,reduceCtorEq]at h2;done) |(exfalso;clear hy hG;simp_all;done) |(simp only[*,amd,forall_eq',true_implies,forall_const,reduceCtorEq,false_implies,and_true,alA,aly,alJ,alF,go_sem]at hq2;first|exact hq2.1|exact hq2.2.1|exact hq2|exact hq2.2|(simp only[hq2];done)) |(simp only[*,amd,forall_eq',true_implies,forall_const,reduceCtorEq,false_implies,and_true,alA,aly,alJ,alF,go_sem]at hq1;first|exact hq1.1|exact hq1.2.1|exact hq1|exact hq1.2|(simp only[hq1];done)) |(clear hy hG;simp_all only[cq,eo,amd,forall_eq',true_implies,forall_const,reduceCtorEq,false_implies,and_true,alA,aly,alJ,alF,go_sem];done) |(simp_all [okI,cq,eo];done) |(simp_all [cq,eo];(first|done|exact fk2 ja)) |exact fk2 ja))):p:=h a0
theorem oI(a0:JL l0)(h:JL l0->p:=by intro ja;simp only[go_sem,hc,hw];all_goals exact EZ ja):p:=h a0
theorem oJ(a0:JL l0)(h:JL l0->p:=by intro ja;simp only[go_sem,hc];all_goals exact EZ ja):p:=h a0
@[go_sem] def Cp (x:bl):List SV:=[.agg (cellsOf .x6 x)]
@[go_sem] def c8 (l_:List bl)(S2:Nat)(ly:List bl):Empty⊕(List bl):=.inr (ly++[(l_.getD S2 default)])
def dH (l_:List bl)(ao5:List (List SV))(S2:Nat)(ly:List bl):Prop:=(ao5[ly.length]? =some (Cp (l_.getD S2 default)))
def aU (l_:List bl):List bl:=(match aj (c8 l_) l_.length 0 ([]:List bl)with| .inl x=>x.elim| .inr ly=>ly)
def dh (l_:List bl)(ao5:List (List SV)):Prop:=letI q0:=c8 l_;(l_.length<=aK->(okI q0 (dH l_ ao5) l_.length 0 ([]:List bl)/\(∀ ly,aj q0 l_.length 0 ([]:List bl)=.inr ly->(ao5.length=ly.length))))
theorem Mk(a0:JL l0)(h:JL l0->p:=by intro ja;simp only[go_sem];all_goals exact EZ ja):p:=h a0
theorem mQ (O:List bl)(E:List (List SV))(hp:dh O E):zS Tryz.prog 318 (λy=>[y,.ep [.rs .x6 O] 0]) [] E:=by
 unfold dh at hp;refine Bc mixed aD (fn:=Tryz.f318) (c:=ae Tryz.f318) kr kr kr kr rfl (n:=0) rfl (G:=λX=>zT [] [] (CJ E X)) (λX hy=>?_) (λargs w=>by kernel_rfl);have hG:=mGY P0 P0 hy;refine⟨hG,nbl rfl,(λid st=>bif Nat.beq id 0 then some (LCY (ρ:=Empty) (σ:=(List bl)) 1 [] [0] (λW U=>⟨[(0,.os 0),(5,.rs .x6 O),(6,.v (.int .i64 (O.length:Int))),(7,.v (.int .i64 (W:Int)))],[.ab (X.1 (U.length+1))]⟩) (c8 O) (dH O E) O.length ([]:List bl) (O.length<=aK) ((·.elim)) ((·.elim)) ⟨[],[.ab (X.1 0)]⟩ st)else none),?_,?_⟩;unfold ae Tryz.f318;simp only[ak,true_and,and_true];refine sH mixed aD hG kr (λ_=>rfl) (O.length:Int) rfl fM (λhb0 W U Y V hw hc=>⟨L0,ag _,?_⟩) (λhb0 U hc=>?_);unfold dH at V;try simp only[hw,alv]at V
 exact oI (jl [0]);exact oJ (jl [0]);unfold ae Tryz.f318;exact Mk (jl [0])
@[go_sem]def ake {f:FuncId}:AQ (.fn f [] [])=some [.fn f [] []]:=(rfl)
theorem xB {κ υ:Type}[DecidableEq κ](l:List (κ×υ))(x z:κ)(y:υ):iC (tg l x y) z=if z=x then some y else iC l z:=by
 induction l with
 |nil=>simp[tg,iC]
 |cons a r O=>
  obtain⟨a,b⟩:=a;unfold tg;by_cases h:x=a
  subst h;simp only[if_pos];unfold iC;by_cases E:z=x <;>simp[E]
  rw[if_neg h];unfold iC;by_cases E:z=a
  subst E;rw[if_pos rfl,if_neg (λe=>h e.symm),if_pos rfl];rw[if_neg E,O,if_neg E]
def gb:List (Int×(Option Nat)):=(dD .int .fnc (dD .int .fnc (dD .int .fnc ([]) 1 (some 314)) 2 (some 315)) 3 (some 316))
@[go_sem] def Bo:List SV->Option Con:=(pE (.det True (.nm .int .fnc (gb))))
theorem Ad:B1 Tryz.prog 279 Bo:=by
 have hG:=mG P0 P0;refine fW hG Tryz.f279 [] (am (λE=>?_));dsimp only[an]at E;refine⟨nbl rfl,L0,ag _,?_⟩;unfold ae Tryz.f279;try unfold gb
 exact zq2
theorem uG (k:Int):ax .int .fnc gb k=bif k==1 then some 314 else bif k==2 then some 315 else bif k==3 then some 316 else none:=by
 by_cases h1:k=1
 subst h1;rfl;by_cases h2:k=2
 subst h2;rfl;by_cases E:k=3
 subst E;rfl;have O:(k==1)=false:=by simpa using h1
 have V:(k==2)=false:=by simpa using h2
 have U:(k==3)=false:=by simpa using E
 rw[O,V,U];simp only[gb,ax,dD,xB,if_neg h1,if_neg h2,if_neg E];rfl
def eU (x:bl)(n:Int)(m_:List (x4×Int)):List (x4×Int):=(dD .gl .int m_ ({ right:=x.right,ee:=x.to}:x4) (i64.wrap ((ax .gl .int m_ ({ right:=x.right,ee:=x.to}:x4))+n)))
noncomputable def qK:List SV->List Ob->Option ao3:=jf (λx_:bl×Int×(List (x4×Int)) =>[.os 0,.agg (cellsOf .x6 x_.1),.v (.int .i64 x_.2.1)]) (λx_=>[.mp .gl .int x_.2.2 none]) (λx_=>fL True (.tup []) [.mp .gl .int (eU x_.1 x_.2.1 x_.2.2) none])
variable {p0_:Option (Nat×Option Tag.gl.T)}
@[go_sem] theorem Iq(x:bl)(n:Int)(m_:List (x4×Int))(aq1:p0_=none):qK ([.os 0,.agg [.v (.int .i64 x.no),.v (.int .i64 x.kind),.v (.int .i64 x.right),.v (.int .i64 x.since),.v (.int .i64 x.to),.rs .part x.parts,.v (.int .i64 x.of_),.v (.int .i64 x.at_),.v (.int .i64 x.known)],.v (.int .i64 n)]) ([.mp .gl .int m_ p0_])=some (fL True (.tup []) [.mp .gl .int (eU x n m_) none]):=by
 subst aq1;exact fO (A:=λx_:bl×Int×(List (x4×Int)) =>[.os 0,.agg (cellsOf .x6 x_.1),.v (.int .i64 x_.2.1)]) (H:=λx_=>[.mp .gl .int x_.2.2 none]) (K:=λx_=>fL True (.tup []) [.mp .gl .int (eU x_.1 x_.2.1 x_.2.2) none]) (x:=(x,n,m_))
theorem wd:ao2 Tryz.prog 314 (qK):=by
 have hG:=mG P0 P0;refine fR hG Tryz.f314 (λl o E h=>?_);obtain⟨⟨x,n,O⟩,rfl,rfl,rfl⟩:=dS h;clear h;try dsimp only
 refine⟨_,_,_,rfl,λU=>?_⟩;refine⟨nbl rfl,L0,?_,?_⟩;unfold ae Tryz.f314;simp only[ak,and_self,true_and,and_true];unfold ae Tryz.f314;try unfold eU
 exact c7 (jl [0])
@[go_sem] def b8 (x:bl)(n:Int)(S2:Nat)(ly:List (x4×Int)×Int):Empty⊕(List (x4×Int)×Int):=letI q1:=x.parts.getD S2 default;letI q0:=({ right:=x.right,ee:=q1.ee}:x4);letI q2:=eT (q1.share) n;.inr ((dD .gl .int ly.1 q0 (i64.wrap ((ax .gl .int ly.1 q0)+q2.1))),(i64.wrap (ly.2 - q2.1)))
@[go_sem] def iF (x:bl)(ly:List (x4×Int)×Int)(k_1:Nat)(s_1:List (x4×Int)):Empty⊕(List (x4×Int)):=letI q0:=({ right:=x.right,ee:=(((x.parts.take (Int.toNat ly.2)).drop 0).getD k_1 default).ee}:x4);.inr (dD .gl .int s_1 q0 (i64.wrap ((ax .gl .int s_1 q0)+1)))
def dz (x:bl)(n:Int)(m_:List (x4×Int)):List (x4×Int):=(match aj (b8 x n) x.parts.length 0 (m_,n)with| .inl x=>x.elim| .inr ly=>(match aj (iF x ly) (((x.parts.take (Int.toNat ly.2)).drop 0).length) 0 ly.1 with| .inl x=>x.elim| .inr s_1=>s_1))
def fw (x:bl)(n:Int)(m_:List (x4×Int)):Prop:=(x.parts.length<=aK->(∀ ly,aj (b8 x n) x.parts.length 0 (m_,n)=.inr ly->(0<=0/\0<=ly.2/\ly.2<=(x.parts.length:Int))))
noncomputable def pj:List SV->List Ob->Option ao3:=jf (λx_:bl×Int×(List (x4×Int)) =>[.os 0,.agg (cellsOf .x6 x_.1),.v (.int .i64 x_.2.1)]) (λx_=>[.mp .gl .int x_.2.2 none]) (λx_=>fL (fw x_.1 x_.2.1 x_.2.2) (.tup []) [.mp .gl .int (dz x_.1 x_.2.1 x_.2.2) none])
@[go_sem] theorem G1(x:bl)(n:Int)(m_:List (x4×Int))(aq1:p0_=none):pj ([.os 0,.agg [.v (.int .i64 x.no),.v (.int .i64 x.kind),.v (.int .i64 x.right),.v (.int .i64 x.since),.v (.int .i64 x.to),.rs .part x.parts,.v (.int .i64 x.of_),.v (.int .i64 x.at_),.v (.int .i64 x.known)],.v (.int .i64 n)]) ([.mp .gl .int m_ p0_])=some (fL (fw x n m_) (.tup []) [.mp .gl .int (dz x n m_) none]):=by
 subst aq1;exact fO (A:=λx_:bl×Int×(List (x4×Int)) =>[.os 0,.agg (cellsOf .x6 x_.1),.v (.int .i64 x_.2.1)]) (H:=λx_=>[.mp .gl .int x_.2.2 none]) (K:=λx_=>fL (fw x_.1 x_.2.1 x_.2.2) (.tup []) [.mp .gl .int (dz x_.1 x_.2.1 x_.2.2) none]) (x:=(x,n,m_))
theorem ve:ao2 Tryz.prog 315 (pj):=by
 have hG:=mG (cp wT P0) P0;refine fR hG Tryz.f315 (λl o con h=>?_);obtain⟨⟨x,n,O⟩,rfl,rfl,rfl⟩:=dS h;clear h;try dsimp only
 refine⟨_,_,_,rfl,λhp=>?_⟩;unfold fw at hp;refine⟨nbl rfl,(λid st=>bif Nat.beq id 0 then some (LCR (ρ:=Empty) (σ:=(List (x4×Int)×Int)) 2 [] [0,1] (λW E=>⟨[(0,.os 0),(2,.v (.int .i64 n)),(4,.ptr 1 0),(6,.v (.int .i64 E.2)),(16,.rs .part x.parts),(17,.v (.int .i64 (x.parts.length:Int))),(18,.v (.int .i64 (W:Int)))],[.mp .gl .int E.1 none,.cells (cellsOf .x6 x)]⟩) (b8 x n) pT x.parts.length (O,n) (x.parts.length<=aK) ((·.elim)) ((·.elim)) st)else bif Nat.beq id 2 then some (LCR (ρ:=Empty) (σ:=(List (x4×Int))) 2 [] [0,1] (λV U=>⟨[(0,.os 0),(4,.ptr 1 0),(48,.rs .part ((x.parts.take (Int.toNat (cq (aj (b8 x n) x.parts.length 0 (O,n))).2)).drop 0)),(49,.v (.int .i64 (((x.parts.take (Int.toNat (cq (aj (b8 x n) x.parts.length 0 (O,n))).2)).drop 0).length:Int))),(50,.v (.int .i64 (V:Int)))],[.mp .gl .int U none,.cells (cellsOf .x6 x)]⟩) (iF x (cq (aj (b8 x n) x.parts.length 0 (O,n)))) pT (((x.parts.take (Int.toNat (cq (aj (b8 x n) x.parts.length 0 (O,n))).2)).drop 0).length) ((cq (aj (b8 x n) x.parts.length 0 (O,n))).1) (((x.parts.take (Int.toNat (cq (aj (b8 x n) x.parts.length 0 (O,n))).2)).drop 0).length<=aK) ((·.elim)) ((·.elim)) st)else none),?_,?_⟩;unfold ae Tryz.f315;simp only[ak,true_and,and_true,and_assoc];refine⟨?_,?_⟩;refine bZ mixed aD hG kr (λ_=>rfl) (x.parts.length:Int) rfl fM (λhb0 W E X _ hw hc=>⟨L0,ag _,?_⟩) (λhb0 E hc=>?_);exact bG (jl [0,1]);exact bH (jl [0,1]);refine bZ mixed aD hG kr (λ_=>rfl) (((x.parts.take (Int.toNat (cq (aj (b8 x n) x.parts.length 0 (O,n))).2)).drop 0).length:Int) rfl fM (λhb1 V U Y _ hw hc=>⟨L0,ag _,?_⟩) (λhb1 U hc=>?_);exact bG (jl [0,1]);exact bH (jl [0,1]);unfold ae Tryz.f315;try unfold dz
 exact c7 (jl [0])
def ya (x:bl)(n:Int)(m_:List (x4×Int)):Unit:=()
noncomputable def pl:List SV->List Ob->Option ao3:=jf (λx_:bl×Int×(List (x4×Int)) =>[.os 0,.agg (cellsOf .x6 x_.1),.v (.int .i64 x_.2.1)]) (λx_=>[.mp .gl .int x_.2.2 none]) (λx_=>fL True (.tup []) [.mp .gl .int x_.2.2 none])
@[go_sem] theorem G3(x:bl)(n:Int)(m_:List (x4×Int))(aq1:p0_=none):pl ([.os 0,.agg [.v (.int .i64 x.no),.v (.int .i64 x.kind),.v (.int .i64 x.right),.v (.int .i64 x.since),.v (.int .i64 x.to),.rs .part x.parts,.v (.int .i64 x.of_),.v (.int .i64 x.at_),.v (.int .i64 x.known)],.v (.int .i64 n)]) ([.mp .gl .int m_ p0_])=some (fL True (.tup []) [.mp .gl .int m_ none]):=by
 subst aq1;exact fO (A:=λx_:bl×Int×(List (x4×Int)) =>[.os 0,.agg (cellsOf .x6 x_.1),.v (.int .i64 x_.2.1)]) (H:=λx_=>[.mp .gl .int x_.2.2 none]) (K:=λx_=>fL True (.tup []) [.mp .gl .int x_.2.2 none]) (x:=(x,n,m_))
theorem vg:ao2 Tryz.prog 316 (pl):=by
 have hG:=mG P0 P0;refine fR hG Tryz.f316 (λl o E h=>?_);obtain⟨⟨x,n,O⟩,rfl,rfl,rfl⟩:=dS h;clear h;try dsimp only
 refine⟨_,_,_,rfl,λU=>?_⟩;refine⟨nbl rfl,L0,?_,?_⟩;unfold ae Tryz.f316;simp only[ak,and_self,true_and,and_true];unfold ae Tryz.f316;try unfold ya
 exact c7 (jl [0])
end Go.Sx
end
section
namespace Go.Proofs
open Go.Shelf
def Tryz.aqU:Go.Shelf.Ren:=⟨λ|5=>72|8=>133|7=>132|19=>199|20=>200|10=>190|11=>191|12=>192|13=>193|14=>194|15=>195|16=>196|17=>197|18=>198|30=>259|31=>260|32=>261|33=>262|34=>263|35=>137|40=>306|n=>n,λ|23=>35|25=>3|3=>3|32=>229|22=>35|0=>0|44=>294|46=>296|4=>4|36=>288|35=>287|41=>267|5=>5|9=>9|53=>342|57=>60|63=>375|64=>376|n=>n,λ|n=>n⟩
theorem Tryz.arP:Go.Proofs.SlLaysM.n5 Tryz.prog Tryz.aqU:= {
 mixed:=by kernel_rfl
 f5:=⟨Tryz.f72.name,by decide,Tryz.func72.trans (congrArg some (by kernel_rfl))⟩
 f7:=⟨Tryz.f132.name,by decide,Tryz.func132.trans (congrArg some (by kernel_rfl))⟩
 f8:=Tryz.func133.trans (congrArg some (by kernel_rfl))
 f10:=⟨Tryz.f190.name,by decide,Tryz.func190.trans (congrArg some (by kernel_rfl))⟩
 f11:=⟨Tryz.f191.name,by decide,Tryz.func191.trans (congrArg some (by kernel_rfl))⟩
 f12:=⟨Tryz.f192.name,by decide,Tryz.func192.trans (congrArg some (by kernel_rfl))⟩
 f13:=⟨Tryz.f193.name,by decide,Tryz.func193.trans (congrArg some (by kernel_rfl))⟩
 f14:=⟨Tryz.f194.name,by decide,Tryz.func194.trans (congrArg some (by kernel_rfl))⟩
 f15:=⟨Tryz.f195.name,by decide,Tryz.func195.trans (congrArg some (by kernel_rfl))⟩
 f16:=⟨Tryz.f196.name,by decide,Tryz.func196.trans (congrArg some (by kernel_rfl))⟩
 f17:=⟨Tryz.f197.name,by decide,Tryz.func197.trans (congrArg some (by kernel_rfl))⟩
 f18:=⟨Tryz.f198.name,by decide,Tryz.func198.trans (congrArg some (by kernel_rfl))⟩
 f19:=Tryz.func199.trans (congrArg some (by kernel_rfl))
 f20:=Tryz.func200.trans (congrArg some (by kernel_rfl))
 f30:=⟨Tryz.f259.name,by decide,Tryz.func259.trans (congrArg some (by kernel_rfl))⟩
 f31:=Tryz.func260.trans (congrArg some (by kernel_rfl))
 f32:=Tryz.func261.trans (congrArg some (by kernel_rfl))
 f33:=⟨Tryz.f262.name,by decide,Tryz.func262.trans (congrArg some (by kernel_rfl))⟩
 f34:=⟨Tryz.f263.name,by decide,Tryz.func263.trans (congrArg some (by kernel_rfl))⟩
 f35:=⟨Tryz.f137.name,by decide,Tryz.func137.trans (congrArg some (by kernel_rfl))⟩
 f40:=⟨Tryz.f306.name,by decide,Tryz.func306.trans (congrArg some (by kernel_rfl))⟩
 t0:=Tryz.underlying0
 a0:=Tryz.isAgg0
 z0:=Tryz.sizeOf0
 v0:=Tryz.zeroValue0
 t3:=Tryz.underlying3
 a3:=Tryz.isAgg3
 z3:=Tryz.sizeOf3
 v3:=Tryz.zeroValue3
 t4:=Tryz.underlying4
 a4:=Tryz.isAgg4
 z4:=Tryz.sizeOf4
 v4:=Tryz.zeroValue4
 t5:=Tryz.underlying5
 a5:=Tryz.isAgg5
 z5:=Tryz.sizeOf5
 v5:=Tryz.zeroValue5
 t9:=Tryz.underlying9
 a9:=Tryz.isAgg9
 z9:=Tryz.sizeOf9
 v9:=Tryz.zeroValue9
 t22:=Tryz.underlying35
 a22:=Tryz.isAgg35
 z22:=Tryz.sizeOf35
 v22:=Tryz.zeroValue35
 t23:=Tryz.underlying35
 a23:=Tryz.isAgg35
 z23:=Tryz.sizeOf35
 v23:=Tryz.zeroValue35
 t25:=Tryz.underlying3
 a25:=Tryz.isAgg3
 z25:=Tryz.sizeOf3
 v25:=Tryz.zeroValue3
 t32:=Tryz.underlying229
 a32:=Tryz.isAgg229
 z32:=Tryz.sizeOf229
 v32:=Tryz.zeroValue229
 t35:=Tryz.underlying287
 a35:=Tryz.isAgg287
 z35:=Tryz.sizeOf287
 v35:=Tryz.zeroValue287
 t36:=Tryz.underlying288
 a36:=Tryz.isAgg288
 z36:=Tryz.sizeOf288
 v36:=Tryz.zeroValue288
 t41:=Tryz.underlying267
 a41:=Tryz.isAgg267
 z41:=Tryz.sizeOf267
 v41:=Tryz.zeroValue267
 t44:=Tryz.underlying294
 a44:=Tryz.isAgg294
 z44:=Tryz.sizeOf294
 v44:=Tryz.zeroValue294
 t46:=Tryz.underlying296
 a46:=Tryz.isAgg296
 z46:=Tryz.sizeOf296
 v46:=Tryz.zeroValue296
 t53:=Tryz.underlying342
 a53:=Tryz.isAgg342
 z53:=Tryz.sizeOf342
 v53:=Tryz.zeroValue342
 t57:=Tryz.underlying60
 a57:=Tryz.isAgg60
 z57:=Tryz.sizeOf60
 v57:=Tryz.zeroValue60
 t63:=Tryz.underlying375
 a63:=Tryz.isAgg375
 z63:=Tryz.sizeOf375
 v63:=Tryz.zeroValue375
 t64:=Tryz.underlying376
 a64:=Tryz.isAgg376
 z64:=Tryz.sizeOf376
 v64:=Tryz.zeroValue376}
end Go.Proofs
end
section
namespace Go.Sx
open Go.Proofs
def QU:ao2 Tryz.prog 72 OH:=OI Tryz.arP
@[go_sem] def cW (d:ah)(S2:Nat)(ly:List (x4×Int)):Empty⊕(List (x4×Int)):=(bif((d.al.getD S2 default).kind==1)then .inr (dD .gl .int ly ({ right:=(S2:Int),ee:=(d.al.getD S2 default).ee}:x4) ((d.al.getD S2 default).dd))else .inr ly)
@[go_sem] def cX (ds:List bl)(z_1:bl)(s_1:List Int×List (x4×Int)):Empty⊕(List Int×List (x4×Int)):=letI q0:=({ right:=z_1.right,ee:=z_1.since}:x4);letI q1:=ax .gl .int s_1.2 q0;letI q2:=sj .gl .int s_1.2 q0;(bif(q1==0)then .inr ((s_1.1++([z_1.no])),s_1.2)else(bif(z_1.kind==1)then .inr (s_1.1,(eU z_1 q1 q2))else(bif(z_1.kind==2)then .inr (s_1.1,(dz z_1 q1 q2))else(bif(z_1.kind==3)then .inr (s_1.1,q2)else .inr default))))
def eV (ds:List bl)(z_1:bl)(s_1:List Int×List (x4×Int)):Prop:=letI q1:=({ right:=z_1.right,ee:=z_1.since}:x4);letI q0:=ax .gl .int s_1.2 q1;(((q0==0)=true->((s_1.1++([z_1.no])).length*8<=d9))/\((q0==0)=false->((z_1.kind==1)=false->(((z_1.kind==2)=true->(fw z_1 q0 (sj .gl .int s_1.2 q1)))/\((z_1.kind==2)=false->((z_1.kind==3)=false->False))))))
def ff (d:ah)(ds:List bl):List (x4×Int)×List Int:=(match aj (cW d) d.al.length 0 ([])with| .inl x=>x.elim| .inr ly=>(match dC (cX ds) (aU ds) ([],ly)with| .inl x=>x.elim| .inr s_1=>(s_1.2,(xW s_1.1))))
def lh (d:ah)(ds:List bl):Prop:=letI q0:=aU ds;(d.al.length<=aK->(∀ ly,aj (cW d) d.al.length 0 ([])=.inr ly->((dh ds (q0.map Cp))/\okL (cX ds) (eV ds) q0 ([],ly))))
@[go_sem] noncomputable def Ae:List SV->Option Con:=(pD .bh λd=>(pFn 318 (pXR .x6 λds=>(pE ((pE (.det (lh d ds) (.tup [.nm .gl .int ((ff d ds).1),.nw .int ((ff d ds).2)]))))))))
variable {p:Prop}
theorem asf(h:p:=by simp only[go_sem,e1_0,e1_1,e1_2,e1_3]):p:=h
variable {l0 l1:List Nat}
theorem asu(a0:JL l0)(a1:JL l1)(h:JL l0->JL l1->p:=by intro ja jb;simp only[go_sem,uG,cX,psT,Cp,alU,alC,hk0];all_goals exact gE ja jb):p:=h a0 a1
theorem asd(a0:JL l0)(a1:JL l1)(h:JL l0->JL l1->p:=by intro ja jb;simp only[go_sem,uG,cX,psT,Cp,alU,alC,hk0,hk1];all_goals exact gE ja jb):p:=h a0 a1
theorem ah1(a0:JL l0)(a1:JL l1)(h:JL l0->JL l1->p:=by intro ja jb;simp only[go_sem,uG,cX,psT,Cp,alU,alC,hk0,hk1,hk2];all_goals exact gE ja jb):p:=h a0 a1
theorem ah2(a0:JL l0)(a1:JL l1)(h:JL l0->JL l1->p:=by intro ja jb;simp only[go_sem,uG];all_goals exact gE ja jb):p:=h a0 a1
theorem asr(h:p:=by simp only[go_sem,uG];all_goals exact cl):p:=h
theorem y6:B1 Tryz.prog 229 Ae:=by
 have hG:=mG (cp Ad P0) (co QU (co wd (co ve (co vg P0))));refine fW hG Tryz.f229 [(.cell 5 0,.int)] (av λd=>(oz (zW λds=>(am ((am (λW=>?_)))))));dsimp only[an]at W;unfold lh at W;refine⟨nbl rfl,(λid st=>bif Nat.beq id 0 then some (LCR (ρ:=Empty) (σ:=(List (x4×Int))) 4 [] [0,1,2,3] (λX U=>⟨[(1,.fn 318 [] [.ep [.rs .x6 ds] 0]),(4,.ptr 1 0),(5,.ptr 2 0),(14,.rs .right d.al),(15,.v (.int .i64 (d.al.length:Int))),(16,.v (.int .i64 (X:Int)))],[.dead,.cells [.os 3],.cells [.v (.slice none 0 0)],.mp .gl .int U none]⟩) (cW d) pT d.al.length ([]) (d.al.length<=aK) ((·.elim)) ((·.elim)) st)else bif Nat.beq id 2 then some (LC (ρ:=Empty) (σ:=List Int×List (x4×Int)) (lk 4 st.t=.ptr 1 0/\lk 5 st.t=.ptr 2 0/\lk 8 st.t=.ptr 5 0/\lk 33 st.t=.fn 318 [] [.ep [.rs .x6 ds] 0]/\st.h=[.dead,.cells [.os 3],.cells [.v (.slice none 0 0)],.mp .gl .int (cq (aj (cW d) d.al.length 0 ([]))) none,.mp .int .fnc gb none,.cells [.os 4]]/\dh ds ((aU ds).map Cp)/\okL (cX ds) (eV ds) (aU ds) ([],(cq (aj (cW d) d.al.length 0 ([]))))) (dC (cX ds) (aU ds) ([],(cq (aj (cW d) d.al.length 0 ([]))))) (λx=>x.elim) (λx=>x.elim) (λE=>⟨[(4,.ptr 1 0),(5,.ptr 2 0),(8,.ptr 5 0)],[.dead,.cells [.os 3],.cells [.os 7],.mp .gl .int E.2 none,.mp .int .fnc gb none,.cells [.os 4],.dead,.row .int E.1]⟩))else none),?_,?_⟩
 ·unfold ae Tryz.f229;simp only[ak,true_and,and_true];refine⟨?_,?_⟩;refine bZ mixed aD hG kr (λ_=>rfl) (d.al.length:Int) rfl fM (λhb0 X U Y _ hw hc=>⟨L0,ag _,?_⟩) (λhb0 U hc=>?_);exact bG (jl [0,1,2,3]);exact bH (jl [0,1,2,3])
  ·refine yZ mixed aD hG (by decide) (by decide) kr kr λst lc hC W=>?_;simp only[go_sem,Nat.reduceBEq,alx]at hC;subst hC;obtain⟨t,h⟩:=st;dsimp only[LC]at W;obtain⟨e1_0,e1_1,e1_2,e1_3,rfl,hb1,V⟩:=W;refine⟨⟨t,[.dead,.cells [.os 3],.cells [.os 6],.mp .gl .int (cq (aj (cW d) d.al.length 0 ([]))) none,.mp .int .fnc gb none,.cells [.os 4],.row .int ([])]⟩,apE.cell (h:=[.dead,.cells [.os 3],.cells [.v (.slice none 0 0)],.mp .gl .int (cq (aj (cW d) d.al.length 0 ([]))) none,.mp .int .fnc gb none,.cells [.os 4]]) (i:=2) (j:=0) (.row .int ([])) (apE.refl _) rfl rfl (.inl ⟨_,rfl⟩),318,[.ep [.rs .x6 ds] 0],bl,_,_,(aU ds),Cp,(cX ds),(eV ds),_,([],(cq (aj (cW d) d.al.length 0 ([])))),_,_,_,[(4,.ptr 1 0),(5,.ptr 2 0),(8,.ptr 5 0)],(λE=>[.dead,.cells [.os 3],.cells [.os 7],.mp .gl .int E.2 none,.mp .int .fnc gb none,.cells [.os 4],.dead,.row .int E.1]),(λx=>x.elim),[0,1,2,3,4,5,6,6],?_,rfl,V,nbl rfl,?_,mQ ds _ hb1,λO E hq1=>⟨rfl,L0,λl=>?_,λl=>?_,?_⟩,λE=>?_,λy=>?_⟩;exact asf
   ·simp only[go_sem,sD,jT,alO,amD,alC,alT,amG,e1_0,e1_1,e1_2,e1_3];all_goals (first|done|decide|(repeat' (first|refine And.intro ?_ ?_|rfl|decide)))
   simp only[ak,and_self,true_and,and_true];simp only[ak,and_self,true_and,and_true];unfold eV at hq1;rcases anw (O.kind==1)with hk0|hk0;exact asu (jl [0,1,2,3,4,5,6,11]) (jl [0,1,2,3,4,5,6,7]);rcases anw (O.kind==2)with hk1|hk1;exact asd (jl [0,1,2,3,4,5,6,11]) (jl [0,1,2,3,4,5,6,7]);rcases anw (O.kind==3)with hk2|hk2;exact ah1 (jl [0,1,2,3,4,5,6,11]) (jl [0,1,2,3,4,5,6,7]);exact ah1 (jl [0,1,2,3,4,5,6,11]) (jl [0,1,2,3,4,5,6,7]);exact ah2 (jl [0,1,2,3,4,5,6,11]) (jl [0,1,2,3,4,5,6,7]);exact ah2 (jl [0,1,2,3,4,5,6,11]) (jl [0,1,2,3,4,5,6,7])
 unfold ae Tryz.f229;try unfold ff
 exact asr
end Go.Sx
end
section
namespace Go.Sx
@[go_sem ↓]def afV (x:Reach):mkE .reach [.v (.string x.name),.v (.int .i64 x.up),.v (.int .i64 x.delay),.v (.int .i64 x.cap),.v (.int .i64 x.aph),.v (.int .i64 x.aoU),.v (.int .i64 x.apu.lo),.v (.int .i64 x.apu.hi),.v (.int .i64 x.apc.1.n),.v (.int .i64 x.apc.1.d),.v (.int .i64 x.apc.2.n),.v (.int .i64 x.apc.2.d)]=x:=(rfl)
@[go_sem ↓]def ah3 (x:apV):mkE .Y2 [.v (.int .i64 x.cap),.v (.int .i64 x.start)]=x:=(rfl)
@[go_sem ↓]def ah4 (x:apQ):mkE .ee [.v (.string x.name),.v (.int .i64 x.reach),.v (.int .i64 x.aqr),.v (.int .i64 x.apy)]=x:=(rfl)
@[go_sem ↓]def afW (x:ape):mkE .right [.v (.string x.name),.v (.int .i64 x.kind),.v (.int .i64 x.ee),.v (.int .i64 x.reach),.v (.int .i64 x.aoX),.v (.int .i64 x.dd),.v (.int .i64 x.since),.v (.int .i64 x.to),.v (.int .i64 x.every),.v (.int .i64 x.length)]=x:=(rfl)
@[go_sem ↓]def ah5 (x:bl):mkE .x6 [.v (.int .i64 x.no),.v (.int .i64 x.kind),.v (.int .i64 x.right),.v (.int .i64 x.since),.v (.int .i64 x.to),.rs .part x.parts,.v (.int .i64 x.of_),.v (.int .i64 x.at_),.v (.int .i64 x.known)]=x:=(rfl)
@[go_sem ↓]def ah6 (x:Part):mkE .part [.v (.int .i64 x.ee),.v (.int .i64 x.share.n),.v (.int .i64 x.share.d)]=x:=(rfl)
@[go_sem ↓]def abc (x:aoS):mkE .holding [.v (.int .i64 x.right),.v (.int .i64 x.ee),.v (.int .i64 x.dd),.v (.int .i64 x.aoX)]=x:=(rfl)
@[go_sem ↓]def afX (x:G2):mkE .ratio [.v (.int .i64 x.n),.v (.int .i64 x.d)]=x:=(rfl)
@[go_sem ↓]def QV (x:x4):mkE .gl [.v (.int .i64 x.right),.v (.int .i64 x.ee)]=x:=(rfl)
@[go_sem ↓]def afY (x:Claim):mkE .C1 [.v (.int .i64 x.right),.v (.int .i64 x.ee),.v (.int .i64 x.hour),.v (.int .i64 x.dd),.v (.int .i64 x.aoX)]=x:=(rfl)
@[go_sem ↓]def XH (x:aoK):mkE .M1 [.v (.int .i64 x.ee),.v (.int .i64 x.reach)]=x:=(rfl)
@[go_sem ↓]def Tt (x:T1):mkE .X1 [.v (.int .i64 x.C1.right),.v (.int .i64 x.C1.ee),.v (.int .i64 x.C1.hour),.v (.int .i64 x.C1.dd),.v (.int .i64 x.C1.aoX),.v (.int .i64 x.reach)]=x:=(rfl)
@[go_sem ↓]def afZ (x:Order):mkE .order [.v (.int .i64 x.hour),.v (.int .i64 x.index),.v (.int .i64 x.dd),.v (.bool x.X2)]=x:=(rfl)
@[go_sem ↓]def af0 (x:W2):mkE .fault [.v (.int .i64 x.kind),.v (.int .i64 x.hour),.v (.int .i64 x.index),.v (.int .i64 x.dd),.v (.int .i64 x.limit)]=x:=(rfl)
@[go_sem ↓]def adp (x:A1):mkE .aoR [.v (.int .i64 x.reach),.v (.int .i64 x.hour),.v (.int .i64 x.dd),.v (.int .i64 x.wanted)]=x:=(rfl)
@[go_sem ↓]def abd (x:aoV):mkE .refusal [.rs .int x.al,.v (.int .i64 x.kind),.v (.int .i64 x.reach),.v (.int .i64 x.hour),.rs .aoR x.ao4]=x:=(rfl)
@[go_sem ↓]def Tu (x:x7):mkE .zs [.v (.string x.d.name),.v (.int .i64 x.d.hours),.v (.int .i64 x.d.Y2.cap),.v (.int .i64 x.d.Y2.start),.rs .reach x.d.reaches,.rs .ee x.d.u0,.rs .apy x.d.ao1,.rs .right x.d.al,.rs .apH x.d.aoT,.rs .apL x.d.apn,.rs .C1 x.c]=x:=(rfl)
@[go_sem ↓]def ZM (x:ah):mkE .bh [.v (.string x.name),.v (.int .i64 x.hours),.v (.int .i64 x.Y2.cap),.v (.int .i64 x.Y2.start),.rs .reach x.reaches,.rs .ee x.u0,.rs .apy x.ao1,.rs .right x.al,.rs .apH x.aoT,.rs .apL x.apn]=x:=(rfl)
end Go.Sx
end
section
namespace Go.Sx
open Go.Proofs
open IntKind (i64)
variable {l0 l1:List Nat}{p:Prop}
theorem sM(a0:JL l0)(a1:JL l1)(h:JL l0->JL l1->p:=by intro ja jb;simp only[go_sem,hc,hw];all_goals exact gE ja jb):p:=h a0 a1
theorem sN(a0:JL l0)(a1:JL l1)(h:JL l0->JL l1->p:=by intro ja jb;simp only[go_sem,hc];all_goals exact gE ja jb):p:=h a0 a1
@[go_sem] def n8 (s_:List Int)(v:Int)(S2:Nat)(ly:Unit):Int⊕Unit:=(bif(v==(s_.getD S2 0))then .inl (S2:Int)else .inr ())
def lR (s_:List Int)(v:Int):Int:=(match aj (n8 s_ v) s_.length 0 ()with| .inl pq=>pq| .inr ly=>(-1))
@[go_sem] def vh:List SV->Option Con:=(pR .int λs_=>(pI λv=>(pE (.det True (.v (.int .i64 (lR s_ v)))))))
theorem uH:B1 Tryz.prog 91 vh:=by
 have hG:=mG P0 P0;refine fN hG Tryz.f91 [.o] (bN λO=>(ay λv=>(am (λX=>?_))));dsimp only[an]at X;refine⟨nbl rfl,(λid st=>bif Nat.beq id 0 then some (LCR (ρ:=Int) (σ:=Unit) 0 [] [] (λU V=>⟨[(0,.rs .int O),(1,.v (.int .i64 v)),(7,.v (.int .i64 (O.length:Int))),(8,.v (.int .i64 (U:Int)))],[]⟩) (n8 O v) pT O.length () (O.length<=aK) (λ_=>.ret) (λE=>⟨[(4,.v (.int .i64 E))],[]⟩) st)else none),?_,?_⟩;unfold ae Tryz.f91;simp only[ak,true_and,and_true];refine bZ mixed aD hG kr (λ_=>rfl) (O.length:Int) rfl fM (λhb0 U V W _ hw hc=>⟨L0,ag _,?_⟩) (λhb0 V hc=>?_);exact bG (jl []);exact bH (jl []);unfold ae Tryz.f91;try unfold lR
 exact zq2
def fQ (s_:List Int)(v:Int):Bool:=(decide ((lR s_ v)>=0))
@[go_sem] def tl:List SV->Option Con:=(pR .int λs_=>(pI λv=>(pE (.det True (.v (.bool (fQ s_ v)))))))
theorem lT:B1 Tryz.prog 44 tl:=by
 have hG:=mG (cn [.sl .int,.o] uH P0) P0;refine fN hG Tryz.f44 [.o] (bN λO=>(ay λv=>(am (λE=>?_))));dsimp only[an]at E;refine⟨nbl rfl,L0,ag _,?_⟩;unfold ae Tryz.f44;try unfold fQ
 exact zq2
def cT (n:Int)(lo:Int)(hi:Int):Bool:=((decide (n>=lo))&&(decide (n<=hi)))
@[go_sem] def CV:List SV->Option Con:=(pI λn=>(pI λlo=>(pI λhi=>(pE (.det True (.v (.bool (cT n lo hi))))))))
theorem pG:B1 Tryz.prog 46 CV:=by
 have hG:=mG P0 P0;refine fN hG Tryz.f46 [.o] (ay λn=>(ay λlo=>(ay λhi=>(am (λE=>?_)))));dsimp only[an]at E;refine⟨nbl rfl,L0,ag _,?_⟩;unfold ae Tryz.f46;try unfold cT
 exact zq2
@[go_sem] def kn (s_:x7)(S2:Nat)(ly:List Int):Empty⊕(List Int):=.inr (ly++([(s_.c.getD S2 default).right]))
def gN (s_:x7)(S2:Nat)(ly:List Int):Prop:=((ly++([(s_.c.getD S2 default).right])).length*8<=d9)
def aB (s_:x7):List Int:=(match aj (kn s_) s_.c.length 0 ([])with| .inl x=>x.elim| .inr ly=>(cpI (xW ly)))
def fA (s_:x7):Prop:=(s_.c.length<=aK->okI (kn s_) (gN s_) s_.c.length 0 ([]))
@[go_sem] def we:List SV->Option Con:=(pD .zs λs_=>(pE (.det (fA s_) (.rs .int (aB s_)))))
theorem ko:B1 Tryz.prog 31 we:=by
 have hG:=mG P0 (co QU (co adn P0));refine fN hG Tryz.f31 [.sl .int] (av λE=>(am (λX=>?_)));dsimp only[an]at X;unfold fA at X;refine⟨nbl rfl,(λid st=>bif Nat.beq id 0 then some (LCR (ρ:=Empty) (σ:=(List Int)) 1 [.slot 2 (.row .int ([]))] [0,1] (λV O=>⟨[(2,.os 1),(6,.rs .C1 E.c),(7,.v (.int .i64 (E.c.length:Int))),(8,.v (.int .i64 (V:Int)))],[.dead,.row .int O]⟩) (kn E) (gN E) E.c.length ([]) (E.c.length<=aK) ((·.elim)) ((·.elim)) st)else none),?_,?_⟩;unfold ae Tryz.f31;simp only[ak,true_and,and_true];refine bZ mixed aD hG kr (λ_=>rfl) (E.c.length:Int) rfl fM (λhb0 V O W U hw hc=>⟨L0,ag _,?_⟩) (λhb0 O hc=>?_);unfold gN at U;try simp only[hw,alv]at U
 exact sM (jl [0,4]) (jl [0,1]);exact sN (jl [0,4]) (jl [0,1]);unfold ae Tryz.f31;try unfold aB
 exact zq2
@[go_sem] def wX:List SV->Option Con:=pR .C1 λl=>pE (.det (l.length*40<=d9) (.nw .C1 l))
theorem wg:B1 Tryz.prog 75 wX:=by
 refine fW (mG P0 P0) Tryz.f75 [(.tmp 2,.C1)] (bN λl=>am λE=>?_);dsimp only[an]at E;refine⟨nbl rfl,L0,ag _,?_⟩;unfold ae Tryz.f75;simp only[go_sem];intro b U;refine⟨λh=>?_,λ_=>?_⟩;have O:=U h;subst O;rfl;first|exact E|exact⟨E,λ_=>rfl⟩
def bM (x:Claim)(rs_:List Int):Bool:=(!(fQ rs_ x.right))
@[go_sem] noncomputable def yb:List SV->Option Con:=(pD .C1 λx=>(pXR .int λrs_=>(pE (.det True (.v (.bool (bM x rs_)))))))
theorem qL:B1 Tryz.prog 76 yb:=by
 have hG:=mG (cn [.sl .int,.o] lT P0) P0;refine fN hG Tryz.f76 [.o] (av λx=>(zW λE=>(am (λO=>?_))));dsimp only[an]at O;refine⟨nbl rfl,L0,ag _,?_⟩;unfold ae Tryz.f76;try unfold bM
 exact zq2
@[go_sem] def eO (s_:List Claim)(rs_:List Int)(S2:Nat)(ly:Unit):Int⊕Unit:=(bif(bM (s_.getD S2 default) rs_)then .inl (S2:Int)else .inr ())
def aX (s_:List Claim)(rs_:List Int):Int:=(match aj (eO s_ rs_) s_.length 0 ()with| .inl pq=>pq| .inr ly=>(-1))
@[go_sem] noncomputable def gZ:List SV->Option Con:=(pR .C1 λs_=>(pFn 76 (pXR .int λrs_=>(pE ((pE (.det True (.v (.int .i64 (aX s_ rs_))))))))))
theorem lE:B1 Tryz.prog 134 gZ:=by
 have hG:=mG (cp qL P0) P0;refine fN hG Tryz.f134 [.o] (bN λO=>(oz (zW λW=>(am ((am (λY=>?_)))))));dsimp only[an]at Y;refine⟨nbl rfl,(λid st=>bif Nat.beq id 0 then some (LCR (ρ:=Int) (σ:=Unit) 0 [] [] (λU V=>⟨[(0,.rs .C1 O),(1,.fn 76 [] [.ep [.rs .int W] 0]),(7,.v (.int .i64 (O.length:Int))),(8,.v (.int .i64 (U:Int)))],[]⟩) (eO O W) pT O.length () (O.length<=aK) (λ_=>.ret) (λE=>⟨[(4,.v (.int .i64 E))],[]⟩) st)else none),?_,?_⟩;unfold ae Tryz.f134;simp only[ak,true_and,and_true];refine bZ mixed aD hG kr (λ_=>rfl) (O.length:Int) rfl fM (λhb0 U V X _ hw hc=>⟨L0,ag _,?_⟩) (λhb0 V hc=>?_);exact bG (jl []);exact bH (jl []);unfold ae Tryz.f134;try unfold aX
 exact zq2
@[go_sem] noncomputable def gL:List SV->Option Con:=λl=>(gZ l)
def k_:B1 Tryz.prog 134 gL:=lE
@[go_sem] def bO (l_:List Claim)(rs_:List Int)(S2:Nat)(ly:List Claim×Int×Int):(Int×List Claim)⊕(List Claim×Int×Int):=letI q0:=ly.1.getD (Int.toNat ly.2.2) default;letI q1:=i64.wrap (ly.2.2+1);(bif(decide (ly.2.2< (ly.1.length:Int)))then(bif(!(bM q0 rs_))then .inr ((ly.1.set (Int.toNat ly.2.1) q0),(i64.wrap (ly.2.1+1)),q1)else .inr (ly.1,ly.2.1,q1))else .inl (ly.2.1,ly.1))
def b9 (l_:List Claim)(rs_:List Int)(S2:Nat)(ly:List Claim×Int×Int):Prop:=letI q0:=(ly.1.length:Int);(ly.1.length<=aK->((decide (ly.2.2<q0))=true->((0<=ly.2.2/\ly.2.2<q0)/\((!(bM (ly.1.getD (Int.toNat ly.2.2) default) rs_))=true->(0<=ly.2.1/\ly.2.1<q0)))))
def bD (l_:List Claim)(rs_:List Int):List Claim:=letI q0:=aX l_ rs_;(bif(q0==(-1))then l_ else(match aj (bO l_ rs_) (l_.length+1) 0 (l_,q0,(i64.wrap (q0+1)))with| .inl pq=>(((wr .C1 pq.2 pq.1 (pq.2.length:Int)).take (Int.toNat pq.1)).drop 0) | .inr ly=>default))
def bw (l_:List Claim)(rs_:List Int):Prop:=letI q0:=aX l_ rs_;letI q1:=bO l_ rs_;letI q2:=(l_,q0,(i64.wrap (q0+1)));letI q3:=l_.length+1;((q0==(-1))=false->(okI q1 (b9 l_ rs_) q3 0 q2/\(∀ z_,aj q1 q3 0 q2≠ .inr z_)/\(∀ pq,aj q1 q3 0 q2=.inl pq->((0<=pq.1/\pq.1<=(pq.2.length:Int))/\(0<=0/\0<=pq.1/\pq.1<=((wr .C1 pq.2 pq.1 (pq.2.length:Int)).length:Int))))))
noncomputable def gM:List SV->List Ob->Option ao3:=jf (λx_:(List Claim)×(List Int) =>[.os 0,.fn 76 [] [.ptr 1 0]]) (λx_=>[.row .C1 x_.1,.cells [.rs .int x_.2]]) (λx_=>fL (bw x_.1 x_.2) (.os 2) [.dead,.cells [.rs .int x_.2],.row .C1 (bD x_.1 x_.2)])
@[go_sem]def vj (l_:List Claim)(rs_:List Int):gM ([.os 0,.fn (76:Nat) [] [.ptr 1 0]]) ([.row .C1 l_,.cells [.rs .int rs_]])=some (fL (bw l_ rs_) (.os 2) [.dead,.cells [.rs .int rs_],.row .C1 (bD l_ rs_)]):=fO (A:=λx_:(List Claim)×(List Int) =>[.os 0,.fn 76 [] [.ptr 1 0]]) (H:=λx_=>[.row .C1 x_.1,.cells [.rs .int x_.2]]) (K:=λx_=>fL (bw x_.1 x_.2) (.os 2) [.dead,.cells [.rs .int x_.2],.row .C1 (bD x_.1 x_.2)]) (x:=(l_,rs_))
theorem ar1(a0:JL l0)(a1:JL l1)(h:JL l0->JL l1->p:=by intro ja jb;simp only[go_sem,gL];all_goals exact gE ja jb):p:=h a0 a1
theorem la:ao2 Tryz.prog 74 (gM):=by
 have hG:=mG (cp qL (cn [.sl .C1,.o] k_ P0)) P0;refine fR hG Tryz.f74 (λl o Y h=>?_);obtain⟨⟨V,E⟩,rfl,rfl,rfl⟩:=dS h;clear h;try dsimp only
 refine⟨_,_,_,rfl,λhp=>?_⟩;unfold bw at hp;refine⟨nbl rfl,(λid st=>bif Nat.beq id 0 then some (LCV (ρ:=(Int×List Claim)) (σ:=(List Claim×Int×Int)) 2 [] [0,1] (λX U=>⟨[(0,.os 0),(1,.fn 76 [] [.ptr 1 0]),(5,.v (.int .i64 U.2.1)),(6,.v (.int .i64 U.2.2))],[.row .C1 U.1,.cells [.rs .int E]]⟩) (bO V E) (b9 V E) (V.length+1) (V,(aX V E),(i64.wrap ((aX V E)+1))) (λ_=>.normal) (λO=>⟨[(0,.os 0),(5,.v (.int .i64 O.1))],[.row .C1 O.2,.cells [.rs .int E]]⟩) st)else none),?_,?_⟩;unfold ae Tryz.f74;simp only[ak,true_and,and_true,and_assoc];refine eQ mixed aD hG kr (λ_=>rfl) λX U W=>⟨L0,ag _,?_⟩;unfold b9 at W;exact c7 (jl [0,1]);unfold ae Tryz.f74;try unfold bD
 exact ar1 (jl [0,1,0]) (jl [0,1,2])
def dp (s_:x7)(al:List Int):x7:=({ d:=s_.d,c:=(bD s_.c al)}:x7)
def jr (s_:x7)(al:List Int):Prop:=((s_.c.length*40<=d9)/\(bw s_.c al))
@[go_sem] def Af:List SV->Option Con:=(pD .zs λs_=>(pR .int λal=>(pE (.det (jr s_ al) (.agg (cellsOf .zs (dp s_ al)))))))
theorem sO:B1 Tryz.prog 32 Af:=by
 have hG:=mG (cn [.sl .C1] wg P0) (co la P0);refine fN hG Tryz.f32 [.st .zs] (av λO=>(bN λal=>(am (λE=>?_))));dsimp only[an]at E;unfold jr at E;refine⟨nbl rfl,L0,ag _,?_⟩;unfold ae Tryz.f32;try unfold dp
 exact zq2
def xC (d:ah):Bool:=((((((decide ((d.reaches.length:Int)<=100))&&(decide ((d.u0.length:Int)<=700)))&&(decide ((d.ao1.length:Int)<=100)))&&(decide ((d.al.length:Int)<=300)))&&(decide ((d.aoT.length:Int)<=300)))&&(decide ((d.apn.length:Int)<=100)))
@[go_sem] def Ml:List SV->Option Con:=(pD .bh λd=>(pE (.det True (.v (.bool (xC d))))))
theorem J2:B1 Tryz.prog 125 Ml:=by
 have hG:=mG P0 P0;refine fN hG Tryz.f125 [.o] (av λd=>(am (λE=>?_)));dsimp only[an]at E;refine⟨nbl rfl,L0,ag _,?_⟩;unfold ae Tryz.f125;try unfold xC
 exact zq2
def aL (n:Int)(lo:Int)(hi:Int):Bool:=((decide (n>=lo))&&(decide (n<=hi)))
@[go_sem] def E0:List SV->Option Con:=(pI λn=>(pI λlo=>(pI λhi=>(pE (.det True (.v (.bool (aL n lo hi))))))))
theorem kG:B1 Tryz.prog 299 E0:=by
 have hG:=mG P0 P0;refine fN hG Tryz.f299 [.o] (ay λn=>(ay λlo=>(ay λhi=>(am (λE=>?_)))));dsimp only[an]at E;refine⟨nbl rfl,L0,ag _,?_⟩;unfold ae Tryz.f299;try unfold aL
 exact zq2
@[go_sem] def iO (b:Int)(S2:Nat)(ly:Int×Int):Int⊕(Int×Int):=(bif(decide (ly.2 > 0))then .inr (ly.2,(Int.tmod ly.1 ly.2))else .inl ly.1)
def nP (b:Int)(S2:Nat)(ly:Int×Int):Prop:=((decide (ly.2 > 0))=true->ly.2≠0)
def mZ (a:Int)(b:Int):Int:=(match aj (iO b) (Int.toNat b+1) 0 (a,b)with| .inl pq=>pq| .inr ly=>default)
def nG (a:Int)(b:Int):Prop:=(okI (iO b) (nP b) (Int.toNat b+1) 0 (a,b)/\(∀ z_,aj (iO b) (Int.toNat b+1) 0 (a,b)≠ .inr z_))
@[go_sem] def CW:List SV->Option Con:=(pI λa=>(pI λb=>(pE (.det (nG a b) (.v (.int .i64 (mZ a b)))))))
theorem Bp:B1 Tryz.prog 332 CW:=by
 have hG:=mG P0 P0;refine fN hG Tryz.f332 [.o] (ay λa=>(ay λb=>(am (λW=>?_))));dsimp only[an]at W;unfold nG at W;refine⟨nbl rfl,(λid st=>bif Nat.beq id 0 then some (LCV (ρ:=Int) (σ:=(Int×Int)) 0 [] [] (λV O=>⟨[(0,.v (.int .i64 O.1)),(1,.v (.int .i64 O.2))],[]⟩) (iO b) (nP b) (Int.toNat b+1) (a,b) (λ_=>.normal) (λE=>⟨[(0,.v (.int .i64 E))],[]⟩) st)else none),?_,?_⟩;unfold ae Tryz.f332;simp only[ak,true_and,and_true];refine eQ mixed aD hG kr (λ_=>rfl) λV O U=>⟨L0,ag _,?_⟩;unfold nP at U;exact c7 (jl []);unfold ae Tryz.f332;try unfold mZ
 exact zq2
def pH (n:Int):Int:=(bif(decide (n<0))then(i64.wrap (0 - n))else n)
@[go_sem] def J3:List SV->Option Con:=(pI λn=>(pE (.det True (.v (.int .i64 (pH n))))))
theorem G4:B1 Tryz.prog 333 J3:=by
 have hG:=mG P0 P0;refine fN hG Tryz.f333 [.o] (ay λn=>(am (λE=>?_)));dsimp only[an]at E;refine⟨nbl rfl,L0,ag _,?_⟩;unfold ae Tryz.f333;try unfold pH
 exact zq2
def ew (a:G2):Bool:=(((((decide (a.d>=1))&&(decide (a.d<=1073741824)))&&(decide (a.n>=(-1073741824))))&&(decide (a.n<=1073741824)))&&((mZ (pH a.n) a.d) ==1))
def iL (a:G2):Prop:=(((((decide (a.d>=1))&&(decide (a.d<=1073741824)))&&(decide (a.n>=(-1073741824))))&&(decide (a.n<=1073741824)))=true->(nG (pH a.n) a.d))
@[go_sem] def G5:List SV->Option Con:=(pD .ratio λa=>(pE (.det (iL a) (.v (.bool (ew a))))))
theorem oK:B1 Tryz.prog 303 G5:=by
 have hG:=mG (cp Bp (cp G4 P0)) P0;refine fN hG Tryz.f303 [.o] (av λa=>(am (λE=>?_)));dsimp only[an]at E;unfold iL at E;refine⟨nbl rfl,L0,ag _,?_⟩;unfold ae Tryz.f303;try unfold ew
 exact zq2
def jt (a:G2):Int:=(bif(!(ew a))then 120 else 0)
def qh (a:G2):Prop:=(iL a)
@[go_sem] def G6:List SV->Option Con:=(pD .ratio λa=>(pE (.det (qh a) (.v (.int .i64 (jt a))))))
theorem E1:B1 Tryz.prog 347 G6:=by
 have hG:=mG (cp oK P0) P0;refine fN hG Tryz.f347 [.o] (av λa=>(am (λE=>?_)));dsimp only[an]at E;unfold qh at E;refine⟨nbl rfl,L0,ag _,?_⟩;unfold ae Tryz.f347;try unfold jt
 exact zq2
def sP (a:G2)(b:G2):Bool:=(decide ((i64.wrap (a.n*b.d)) < (i64.wrap (b.n*a.d))))
@[go_sem] def J4:List SV->Option Con:=(pD .ratio λa=>(pD .ratio λb=>(pE (.det True (.v (.bool (sP a b)))))))
theorem G7:B1 Tryz.prog 311 J4:=by
 have hG:=mG P0 P0;refine fN hG Tryz.f311 [.o] (av λa=>(av λb=>(am (λE=>?_))));dsimp only[an]at E;refine⟨nbl rfl,L0,ag _,?_⟩;unfold ae Tryz.f311;try unfold sP
 exact zq2
def kp (a:G2)(b:G2):Bool:=((ew a)&&(ew b))
def oL (a:G2)(b:G2):Prop:=((iL a)/\((ew a)=true->(iL b)))
@[go_sem] def J5:List SV->Option Con:=(pD .ratio λa=>(pD .ratio λb=>(pE (.det (oL a b) (.v (.bool (kp a b)))))))
theorem yy:B1 Tryz.prog 334 J5:=by
 have hG:=mG (cp oK P0) P0;refine fN hG Tryz.f334 [.o] (av λa=>(av λb=>(am (λE=>?_))));dsimp only[an]at E;unfold oL at E;refine⟨nbl rfl,L0,ag _,?_⟩;unfold ae Tryz.f334;try unfold kp
 exact zq2
def pJ (a:G2)(b:G2):Int×Int:=(bif(!(kp a b))then(0,120)else(bif(sP a b)then((-1),0)else(bif(sP b a)then(1,0)else(0,0))))
def wY (a:G2)(b:G2):Prop:=(oL a b)
@[go_sem] def Mm:List SV->Option Con:=(pD .ratio λa=>(pD .ratio λb=>(pE (.det (wY a b) (.tup [.v (.int .i64 ((pJ a b).1)),.v (.int .i64 ((pJ a b).2))])))))
theorem J6:B1 Tryz.prog 348 Mm:=by
 have hG:=mG (cp G7 (cp yy P0)) P0;refine fN hG Tryz.f348 [.o,.o] (av λa=>(av λb=>(am (λE=>?_))));dsimp only[an]at E;unfold wY at E;refine⟨nbl rfl,L0,ag _,?_⟩;unfold ae Tryz.f348;try unfold pJ
 exact zq2
@[go_sem] def kS (a1:Int)(S2:Nat)(ly:Int×Int):(Int×Int)⊕(Int×Int):=(bif(decide (ly.2< (-1)))then .inr (ly.2,(Int.tmod ly.1 ly.2))else .inl (ly.1,ly.2))
def nH (a1:Int)(S2:Nat)(ly:Int×Int):Prop:=((decide (ly.2< (-1)))=true->ly.2≠0)
def pK (a0:Int)(a1:Int):G2×Int:=letI q0:=bif(decide (a0 > 0))then(i64.wrap (0 - a0))else a0;letI q1:=bif(decide (a1 > 0))then(i64.wrap (0 - a1))else a1;letI q2:=i64.wrap (Int.tdiv q0 (-1));letI q3:=i64.wrap (Int.tdiv q1 (-1));letI q4:=(decide (a0<0)) !=(decide (a1<0));letI q5:=decide (q0< (-1073741824));letI q6:=decide (q1< (-1073741824));(bif(a1==0)then(({ n:=0,d:=0}:G2),120)else(match aj (kS a1) (Int.natAbs a1+2) 0 (q0,q1)with| .inl pq=>(bif(pq.2==(-1))then(bif(q5||q6)then(({ n:=0,d:=0}:G2),2)else(bif((decide (q2 > 1073741824)) ||(decide (q3 > 1073741824)))then(({ n:=0,d:=0}:G2),2)else(bif q4 then(({ n:=(i64.wrap (0 - q2)),d:=q3}:G2),0)else(({ n:=q2,d:=q3}:G2),0))))else(bif((pq.1==(-1))&&(q5||q6))then(({ n:=0,d:=0}:G2),2)else(bif((decide ((i64.wrap (Int.tdiv q0 pq.1)) > 1073741824)) ||(decide ((i64.wrap (Int.tdiv q1 pq.1)) > 1073741824)))then(({ n:=0,d:=0}:G2),2)else(bif q4 then(({ n:=(i64.wrap (0 - (i64.wrap (Int.tdiv q0 pq.1)))),d:=(i64.wrap (Int.tdiv q1 pq.1))}:G2),0)else(({ n:=(i64.wrap (Int.tdiv q0 pq.1)),d:=(i64.wrap (Int.tdiv q1 pq.1))}:G2),0))))) | .inr ly=>default))
def oM (a0:Int)(a1:Int):Prop:=letI q1:=bif(decide (a0 > 0))then(i64.wrap (0 - a0))else a0;letI q2:=bif(decide (a1 > 0))then(i64.wrap (0 - a1))else a1;letI q0:=(q1,q2);letI q3:=Int.natAbs a1+2;letI q4:=kS a1;letI q5:=decide (q1< (-1073741824));letI q6:=decide (q2< (-1073741824));((a1==0)=false->(okI q4 (nH a1) q3 0 q0/\(∀ z_,aj q4 q3 0 q0≠ .inr z_)/\(∀ pq,aj q4 q3 0 q0=.inl pq->(((pq.2==(-1))=true->((q5||q6)=false->((-1)≠0/\(-1)≠0)))/\((pq.2==(-1))=false->(((pq.1==(-1))&&(q5||q6))=false->(pq.1≠0/\pq.1≠0)))))))
@[go_sem] def J7:List SV->Option Con:=(pI λa0=>(pI λa1=>(pE (.det (oM a0 a1) (.tup [.agg (cellsOf .ratio ((pK a0 a1).1)),.v (.int .i64 ((pK a0 a1).2))])))))
theorem G8:B1 Tryz.prog 335 J7:=by
 have hG:=mG P0 P0;refine fN hG Tryz.f335 [.st .ratio,.o] (ay λa0=>(ay λa1=>(am (λW=>?_))));dsimp only[an]at W;unfold oM at W;refine⟨nbl rfl,(λid st=>bif Nat.beq id 1000016 then some (JC (⟨[(0,.v (.int .i64 a0)),(1,.v (.int .i64 a1)),(4,.ptr 0 0),(6,.v (.int .i64 (bif(decide (a0 > 0))then(i64.wrap (0 - a0))else a0)))],[.cells [.v (.int .i64 0),.v (.int .i64 0)]]⟩))else bif Nat.beq id 1000021 then some (JC (⟨[(0,.v (.int .i64 a0)),(1,.v (.int .i64 a1)),(4,.ptr 0 0),(6,.v (.int .i64 (bif(decide (a0 > 0))then(i64.wrap (0 - a0))else a0))),(7,.v (.int .i64 (bif(decide (a1 > 0))then(i64.wrap (0 - a1))else a1)))],[.cells [.v (.int .i64 0),.v (.int .i64 0)]]⟩))else bif Nat.beq id 0 then some (LCV (ρ:=(Int×Int)) (σ:=(Int×Int)) 1 [] [0] (λV O=>⟨[(0,.v (.int .i64 a0)),(1,.v (.int .i64 a1)),(4,.ptr 0 0),(6,.v (.int .i64 (bif(decide (a0 > 0))then(i64.wrap (0 - a0))else a0))),(7,.v (.int .i64 (bif(decide (a1 > 0))then(i64.wrap (0 - a1))else a1))),(8,.v (.int .i64 O.1)),(9,.v (.int .i64 O.2))],[.cells [.v (.int .i64 0),.v (.int .i64 0)]]⟩) (kS a1) (nH a1) (Int.natAbs a1+2) ((bif(decide (a0 > 0))then(i64.wrap (0 - a0))else a0),(bif(decide (a1 > 0))then(i64.wrap (0 - a1))else a1)) (λ_=>.normal) (λE=>⟨[(0,.v (.int .i64 a0)),(1,.v (.int .i64 a1)),(4,.ptr 0 0),(6,.v (.int .i64 (bif(decide (a0 > 0))then(i64.wrap (0 - a0))else a0))),(7,.v (.int .i64 (bif(decide (a1 > 0))then(i64.wrap (0 - a1))else a1))),(8,.v (.int .i64 E.1)),(9,.v (.int .i64 E.2))],[.cells [.v (.int .i64 0),.v (.int .i64 0)]]⟩) st)else none),?_,?_⟩;unfold ae Tryz.f335;simp only[ak,true_and,and_true];refine eQ mixed aD hG kr (λ_=>rfl) λV O U=>⟨L0,ag _,?_⟩;unfold nH at U;exact c7 (jl [0]);unfold ae Tryz.f335;try unfold pK
 exact zq2
def sb (a:G2)(b:G2):G2×Int:=letI q0:=pK (i64.wrap ((i64.wrap (a.n*b.d))+(i64.wrap (b.n*a.d)))) (i64.wrap (a.d*b.d));(bif(!(kp a b))then(({ n:=0,d:=0}:G2),120)else((q0.1),q0.2))
def qM (a:G2)(b:G2):Prop:=((oL a b)/\((!(kp a b))=false->(oM (i64.wrap ((i64.wrap (a.n*b.d))+(i64.wrap (b.n*a.d)))) (i64.wrap (a.d*b.d)))))
@[go_sem] def Mn:List SV->Option Con:=(pD .ratio λa=>(pD .ratio λb=>(pE (.det (qM a b) (.tup [.agg (cellsOf .ratio ((sb a b).1)),.v (.int .i64 ((sb a b).2))])))))
theorem J8:B1 Tryz.prog 304 Mn:=by
 have hG:=mG (cp yy (cp G8 P0)) P0;refine fN hG Tryz.f304 [.st .ratio,.o] (av λa=>(av λb=>(am (λE=>?_))));dsimp only[an]at E;unfold qM at E;refine⟨nbl rfl,L0,ag _,?_⟩;unfold ae Tryz.f304;try unfold sb
 exact zq2
def n9 (n:Int)(d:Int):Int:=(bif(decide ((Int.tmod n d) <0))then(i64.wrap ((i64.wrap (Int.tdiv n d)) - 1))else(i64.wrap (Int.tdiv n d)))
def qi (n:Int)(d:Int):Prop:=(d≠0/\d≠0)
@[go_sem] def G9:List SV->Option Con:=(pI λn=>(pI λd=>(pE (.det (qi n d) (.v (.int .i64 (n9 n d)))))))
theorem E2:B1 Tryz.prog 305 G9:=by
 have hG:=mG P0 P0;refine fN hG Tryz.f305 [.o] (ay λn=>(ay λd=>(am (λE=>?_))));dsimp only[an]at E;unfold qi at E;refine⟨nbl rfl,L0,ag _,?_⟩;unfold ae Tryz.f305;try unfold n9
 exact zq2
def gA (a:G2)(n:Int):Int×Int×Int:=(bif(!(ew a))then(0,0,120)else(bif((decide (n< (-1073741824))) ||(decide (n > 1073741824)))then(0,0,1)else((n9 (i64.wrap (a.n*n)) a.d),(i64.wrap (0 - (n9 (i64.wrap ((i64.wrap (0 - a.n))*n)) a.d))),0)))
def na (a:G2)(n:Int):Prop:=((iL a)/\((!(ew a))=false->(((decide (n< (-1073741824))) ||(decide (n > 1073741824)))=false->((qi (i64.wrap (a.n*n)) a.d)/\(qi (i64.wrap ((i64.wrap (0 - a.n))*n)) a.d)))))
@[go_sem] def G_:List SV->Option Con:=(pD .ratio λa=>(pI λn=>(pE (.det (na a n) (.tup [.v (.int .i64 ((gA a n).1)),.v (.int .i64 ((gA a n).2.1)),.v (.int .i64 ((gA a n).2.2))])))))
theorem E3:B1 Tryz.prog 258 G_:=by
 have hG:=mG (cp oK (cp E2 P0)) P0;refine fN hG Tryz.f258 [.o,.o,.o] (av λa=>(ay λn=>(am (λE=>?_))));dsimp only[an]at E;unfold na at E;refine⟨nbl rfl,L0,ag _,?_⟩;unfold ae Tryz.f258;try unfold gA
 exact zq2
def ju (x:G2×G2):Bool:=(bif(((jt x.1) !=0) ||((jt x.2) !=0))then false else(((decide (x.1.n>=0))&&(decide ((pJ x.1 x.2).1<=0)))&&(decide (x.2.n<=x.2.d))))
def oN (x:G2×G2):Prop:=((qh x.1)/\((((jt x.1) !=0)=false->(qh x.2))/\((((jt x.1) !=0) ||((jt x.2) !=0))=false->(wY x.1 x.2))))
@[go_sem] def E4:List SV->Option Con:=(pD .apw λx=>(pE (.det (oN x) (.v (.bool (ju x))))))
theorem CX:B1 Tryz.prog 344 E4:=by
 have hG:=mG (cp E1 (cp J6 P0)) P0;refine fN hG Tryz.f344 [.o] (av λx=>(am (λE=>?_)));dsimp only[an]at E;unfold oN at E;refine⟨nbl rfl,L0,ag _,?_⟩;unfold ae Tryz.f344;try unfold ju
 exact zq2
def qN (x:Reach):Bool:=(bif(((!(aL x.delay 1 16)) ||(!(aL x.cap 0 1073741824))) ||(!(aL x.aph 0 1099511627776)))then false else(bif(((!(aL x.aoU 0 (if x.aph<x.cap then x.aph else x.cap))) ||(!(aL x.apu.lo 0 x.apu.hi))) ||(decide (x.apu.hi > 1073741824)))then false else(ju x.apc)))
def qj (x:Reach):Prop:=((((!(aL x.delay 1 16)) ||(!(aL x.cap 0 1073741824))) ||(!(aL x.aph 0 1099511627776)))=false->((((!(aL x.aoU 0 (if x.aph<x.cap then x.aph else x.cap))) ||(!(aL x.apu.lo 0 x.apu.hi))) ||(decide (x.apu.hi > 1073741824)))=false->(oN x.apc)))
@[go_sem] def Ha:List SV->Option Con:=(pD .reach λx=>(pE (.det (qj x) (.v (.bool (qN x))))))
theorem E5:B1 Tryz.prog 331 Ha:=by
 have hG:=mG (cp kG (cp CX P0)) P0;refine fN hG Tryz.f331 [.o] (av λx=>(am (λE=>?_)));dsimp only[an]at E;unfold qj at E;refine⟨nbl rfl,L0,ag _,?_⟩;unfold ae Tryz.f331;try unfold qN
 exact zq2
@[go_sem] def iP (l_:List Reach)(S2:Nat)(ly:Unit):Unit⊕Unit:=letI q0:=l_.getD S2 default;letI q1:=(S2:Int);(bif(((q1==0)&&(q0.up !=(-1))) ||((decide (q1 > 0))&&(!(aL (q0.up) 0 (i64.wrap (q1 - 1))))))then .inl ()else(bif(!(qN q0))then .inl ()else .inr ()))
def nQ (l_:List Reach)(S2:Nat)(ly:Unit):Prop:=(l_.length<=aK->(((((S2:Int) ==0)&&((l_.getD S2 default).up !=(-1))) ||((decide ((S2:Int) > 0))&&(!(aL ((l_.getD S2 default).up) 0 (i64.wrap ((S2:Int) - 1))))))=false->(qj (l_.getD S2 default))))
def nc (l_:List Reach):Bool:=(match aj (iP l_) l_.length 0 ()with| .inl pq=>false| .inr ly=>(decide ((l_.length:Int) > 0)))
def ri (l_:List Reach):Prop:=okI (iP l_) (nQ l_) l_.length 0 ()
@[go_sem] def CY:List SV->Option Con:=(pR .reach λl_=>(pE (.det (ri l_) (.v (.bool (nc l_))))))
theorem Bq:B1 Tryz.prog 300 CY:=by
 have hG:=mG (cp kG (cp E5 P0)) P0;refine fN hG Tryz.f300 [.o] (bN λU=>(am (λY=>?_)));dsimp only[an]at Y;unfold ri at Y;refine⟨nbl rfl,(λid st=>bif Nat.beq id 0 then some (LCR (ρ:=Unit) (σ:=Unit) 0 [] [] (λE O=>⟨[(0,.rs .reach U),(3,.v (.int .i64 (E:Int)))],[]⟩) (iP U) (nQ U) U.length () (True) (λ_=>.ret) (λW=>⟨[(2,.v (.bool false))],[]⟩) st)else none),?_,?_⟩;unfold ae Tryz.f300;simp only[ak,true_and,and_true];refine eF (U.length<=aK) mixed aD hG kr (λ_=>rfl) (U.length:Int) rfl fM (λhb0 E O X V hw hc=>⟨L0,ag _,?_⟩) (λhb0 O hc=>?_) λhb0 E O=>?_;unfold nQ at V;try simp only[hw,alv]at V
 exact bG (jl []);exact bH (jl []);exact zq8;unfold ae Tryz.f300;try unfold nc
 exact zq2
@[go_sem] def lU (a0:ah)(S2:Nat)(ly:Unit):Unit⊕Unit:=(bif(!(aL ((a0.ao1.getD S2 default).need) 0 1048576))then .inl ()else .inr ())
@[go_sem] def lV (a0:ah)(k_1:Nat)(s_1:Unit):Unit⊕Unit:=letI q0:=a0.u0.getD k_1 default;(bif((!(aL (q0.reach) 0 (i64.wrap ((a0.reaches.length:Int) - 1)))) ||(!(aL (q0.aqr) 0 1048576)))then .inl ()else(bif(((q0.aqr==0)&&(q0.apy !=(-1))) ||((decide (q0.aqr > 0))&&(!(aL (q0.apy) 0 (i64.wrap ((a0.ao1.length:Int) - 1))))))then .inl ()else .inr ()))
def qO (a0:ah):Bool:=(match aj (lU a0) a0.ao1.length 0 ()with| .inl pq=>false| .inr ly=>(match aj (lV a0) a0.u0.length 0 ()with| .inl apA=>false| .inr s_1=>true))
@[go_sem] def Hb:List SV->Option Con:=(pD .bh λa0=>(pE (.det True (.v (.bool (qO a0))))))
theorem OL(h:p:=by simp only[go_sem,hb1]):p:=h
theorem E6:B1 Tryz.prog 301 Hb:=by
 have hG:=mG (cp kG P0) P0;refine fN hG Tryz.f301 [.o] (av λa0=>(am (λhp=>?_)));dsimp only[an]at hp;refine⟨nbl rfl,(λid st=>bif Nat.beq id 0 then some (LCR (ρ:=Unit) (σ:=Unit) 1 [] [0] (λU V=>⟨[(1,.ptr 0 0),(3,.v (.int .i64 (U:Int)))],[.cells (cellsOf .bh a0)]⟩) (lU a0) pT a0.ao1.length () (True) (λ_=>.ret) (λX=>⟨[(2,.v (.bool false))],[.dead]⟩) st)else bif Nat.beq id 2 then some (LCR (ρ:=Unit) (σ:=Unit) 1 [] [0] (λE O=>⟨[(1,.ptr 0 0),(4,.v (.int .i64 (E:Int)))],[.cells (cellsOf .bh a0)]⟩) (lV a0) pT a0.u0.length () (True) (λ_=>.ret) (λW=>⟨[(2,.v (.bool false))],[.dead]⟩) st)else none),?_,?_⟩;unfold ae Tryz.f301;simp only[ak,true_and,and_true];refine⟨?_,?_⟩;refine eF (a0.ao1.length<=aK) mixed aD hG kr (λ_=>rfl) (a0.ao1.length:Int) rfl fM (λhb0 U V Y _ hw hc=>⟨L0,ag _,?_⟩) (λhb0 V hc=>?_) λhb0 U V=>?_;exact bG (jl [0]);exact bH (jl [0]);exact zq8;refine eF (a0.u0.length<=aK) mixed aD hG kr (λ_=>rfl) (a0.u0.length:Int) rfl fM (λhb1 E O aqc _ hw hc=>⟨L0,ag _,?_⟩) (λhb1 O hc=>?_) λhb1 E O=>?_;exact bG (jl [0]);exact bH (jl [0]);exact OL;unfold ae Tryz.f301;try unfold qO
 exact zq2
def qP (a0:ah)(a1:ape):Bool:=letI q0:=(((a1.aoX==0)&&(a1.dd==0))&&(a1.every==0))&&(a1.length==0);(bif((((!(aL a1.ee 0 (i64.wrap ((a0.u0.length:Int) - 1)))) ||(!(aL a1.reach 0 (i64.wrap ((a0.reaches.length:Int) - 1))))) ||(!(aL a1.since 0 a1.to))) ||(decide (a1.to>=a0.hours)))then false else(bif(a1.kind==1)then(((((a1.reach==0)&&(aL a1.aoX 0 1048576))&&(aL a1.dd 1 1073741824))&&(aL a1.length 1 a1.every))&&(decide (a1.every<=a0.hours)))else(bif(a1.kind==2)then((q0&&(a1.since==0))&&(a1.to==(i64.wrap (a0.hours - 1))))else(bif(a1.kind==3)then q0 else false))))
@[go_sem] def Hc:List SV->Option Con:=(pD .bh λa0=>(pD .right λa1=>(pE (.det True (.v (.bool (qP a0 a1)))))))
theorem E7:B1 Tryz.prog 302 Hc:=by
 have hG:=mG (cp kG P0) P0;refine fN hG Tryz.f302 [.o] (av λa0=>(av λa1=>(am (λE=>?_))));dsimp only[an]at E;refine⟨nbl rfl,L0,ag _,?_⟩;unfold ae Tryz.f302;try unfold qP
 exact zq2
@[go_sem] def lW (a0:ah)(S2:Nat)(ly:Unit):Unit⊕Unit:=(bif(!(qP a0 (a0.al.getD S2 default)))then .inl ()else .inr ())
@[go_sem] def lX (a0:ah)(k_1:Nat)(s_1:Unit):Unit⊕Unit:=letI q0:=a0.aoT.getD k_1 default;(bif(((!(aL (q0.ee) 0 (i64.wrap ((a0.u0.length:Int) - 1)))) ||(!(aL (q0.reach) 0 (i64.wrap ((a0.reaches.length:Int) - 1))))) ||(!(aL (q0.due) 0 a0.hours)))then .inl ()else .inr ())
def n_ (a0:ah):Bool:=(bif(((!(aL a0.hours 1 4096)) ||(!(aL a0.Y2.start 0 a0.Y2.cap))) ||(decide (a0.Y2.cap > 1099511627776)))then false else(bif((!(nc a0.reaches)) ||(!(qO a0)))then false else(match aj (lW a0) a0.al.length 0 ()with| .inl pq=>false| .inr ly=>(match aj (lX a0) a0.aoT.length 0 ()with| .inl apA=>false| .inr s_1=>true))))
def qk (a0:ah):Prop:=((((!(aL a0.hours 1 4096)) ||(!(aL a0.Y2.start 0 a0.Y2.cap))) ||(decide (a0.Y2.cap > 1099511627776)))=false->(ri a0.reaches))
@[go_sem] def He:List SV->Option Con:=(pD .bh λa0=>(pE (.det (qk a0) (.v (.bool (n_ a0))))))
theorem E8:B1 Tryz.prog 252 He:=by
 have hG:=mG (cp kG (cn [.sl .reach] Bq (cn [.st .bh] E6 (cn [.st .bh,.st .right] E7 P0)))) P0;refine fN hG Tryz.f252 [.o] (av λa0=>(am (λhp=>?_)));dsimp only[an]at hp;unfold qk at hp;refine⟨nbl rfl,(λid st=>bif Nat.beq id 0 then some (LCR (ρ:=Unit) (σ:=Unit) 1 [] [0] (λU V=>⟨[(1,.ptr 0 0),(3,.v (.int .i64 (U:Int)))],[.cells (cellsOf .bh a0)]⟩) (lW a0) pT a0.al.length () (True) (λ_=>.ret) (λX=>⟨[(2,.v (.bool false))],[.dead]⟩) st)else bif Nat.beq id 2 then some (LCR (ρ:=Unit) (σ:=Unit) 1 [] [0] (λE O=>⟨[(1,.ptr 0 0),(4,.v (.int .i64 (E:Int)))],[.cells (cellsOf .bh a0)]⟩) (lX a0) pT a0.aoT.length () (True) (λ_=>.ret) (λW=>⟨[(2,.v (.bool false))],[.dead]⟩) st)else none),?_,?_⟩;unfold ae Tryz.f252;simp only[ak,true_and,and_true];refine⟨?_,?_⟩;refine eF (a0.al.length<=aK) mixed aD hG kr (λ_=>rfl) (a0.al.length:Int) rfl fM (λhb0 U V Y _ hw hc=>⟨L0,ag _,?_⟩) (λhb0 V hc=>?_) λhb0 U V=>?_;exact bG (jl [0]);exact bH (jl [0]);exact zq8;refine eF (a0.aoT.length<=aK) mixed aD hG kr (λ_=>rfl) (a0.aoT.length:Int) rfl fM (λhb1 E O aqc _ hw hc=>⟨L0,ag _,?_⟩) (λhb1 O hc=>?_) λhb1 E O=>?_;exact bG (jl [0]);exact bH (jl [0]);exact OL;unfold ae Tryz.f252;try unfold n_
 exact zq2
def lY (d:ah):Int:=(bif(((((decide ((d.reaches.length:Int) > 64)) ||(decide ((d.u0.length:Int) > 600))) ||(decide ((d.ao1.length:Int) > 32))) ||(decide ((d.al.length:Int) > 256))) ||(decide ((d.aoT.length:Int) > 256)))then 2 else(bif(!(n_ d))then 191 else 0))
def ql (d:ah):Prop:=(d.reaches.length<=aK->((((((decide ((d.reaches.length:Int) > 64)) ||(decide ((d.u0.length:Int) > 600))) ||(decide ((d.ao1.length:Int) > 32))) ||(decide ((d.al.length:Int) > 256))) ||(decide ((d.aoT.length:Int) > 256)))=false->(qk d)))
@[go_sem] def Hf:List SV->Option Con:=(pD .bh λd=>(pE (.det (ql d) (.v (.int .i64 (lY d))))))
theorem E9:B1 Tryz.prog 182 Hf:=by
 have hG:=mG (cn [.st .bh] E8 P0) P0;refine fN hG Tryz.f182 [.o] (av λd=>(am (λE=>?_)));dsimp only[an]at E;unfold ql at E;refine⟨nbl rfl,L0,ag _,?_⟩;unfold ae Tryz.f182;try unfold lY
 exact zq2
@[go_sem] def yz (dx:List Int)(S2:Nat)(ly:Unit):Int⊕Unit:=(bif((dx.getD S2 0) !=0)then .inl (dx.getD S2 0)else .inr ())
def jB (dx:List Int):Int:=(match aj (yz dx) dx.length 0 ()with| .inl pq=>pq| .inr ly=>0)
@[go_sem] def J9:List SV->Option Con:=(pR .int λdx=>(pE (.det True (.v (.int .i64 (jB dx))))))
theorem yA:B1 Tryz.prog 81 J9:=by
 have hG:=mG P0 P0;refine fN hG Tryz.f81 [.o] (bN λdx=>(am (λW=>?_)));dsimp only[an]at W;refine⟨nbl rfl,(λid st=>bif Nat.beq id 0 then some (LCR (ρ:=Int) (σ:=Unit) 0 [] [] (λO U=>⟨[(3,.v (.int .i64 0)),(6,.rs .int dx),(7,.v (.int .i64 (dx.length:Int))),(8,.v (.int .i64 (O:Int)))],[]⟩) (yz dx) pT dx.length () (dx.length<=aK) (λ_=>.ret) (λE=>⟨[(2,.v (.int .i64 E))],[]⟩) st)else none),?_,?_⟩;unfold ae Tryz.f81;simp only[ak,true_and,and_true];refine bZ mixed aD hG kr (λ_=>rfl) (dx.length:Int) rfl fM (λhb0 O U V _ hw hc=>⟨L0,ag _,?_⟩) (λhb0 U hc=>?_);exact bG (jl []);exact bH (jl []);unfold ae Tryz.f81;try unfold jB
 exact zq2
def cU (x:aoS)(y:aoS):Int:=(jB ([(bj x.right y.right),(bj x.ee y.ee)]))
@[go_sem] def vT:List SV->Option Con:=(pD .holding λx=>(pD .holding λy=>(pE (.det True (.v (.int .i64 (cU x y)))))))
theorem Br:B1 Tryz.prog 232 vT:=by
 have hG:=mG (cn [.sl .int] yA (cp eS P0)) P0;refine fN hG Tryz.f232 [.o] (av λx=>(av λy=>(am (λE=>?_))));dsimp only[an]at E;refine⟨nbl rfl,L0,ag _,?_⟩;unfold ae Tryz.f232;try unfold cU
 exact zq2
end Go.Sx
end
