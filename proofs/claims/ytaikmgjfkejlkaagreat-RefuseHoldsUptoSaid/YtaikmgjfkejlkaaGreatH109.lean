/- Part of the proof that the law RefuseHolds returns true and leaves its arguments as they were, for all arguments of bulk at most 1048576 (the Upto form). -/
import Derived.Shelf.SortM.Plain
import Derived.Shelf.SortM.SortNone
import Derived.Ground.SlgmProg
import Derived.Shelf.SlGeneric
import Derived.Test.YtaikmgjfkejlkaaGreatH103
import Derived.Test.YtaikmgjfkejlkaaGreatProg
import Derived.Test.YtaikmgjfkejlkaaGreatH108
import Derived.Test.YtaikmgjfkejlkaaGreatH107
import Derived.Test.YtaikmgjfkejlkaaGreatH101
import Derived.Test.YtaikmgjfkejlkaaGreatH106
import Derived.Sort.Statements
import Derived.Shelf.SlSortCmp.Insertion
set_option linter.all false
set_option maxHeartbeats 4000000
set_option maxRecDepth 100000
section
namespace Go.Proofs
open Go.Shelf Go.Sx
def Tryz.atN:Go.Shelf.Ren:=⟨λ|5=>72|8=>133|7=>132|19=>199|20=>200|10=>190|11=>191|12=>192|13=>193|14=>194|15=>195|16=>196|17=>197|18=>198|30=>259|31=>260|32=>261|33=>262|34=>263|35=>137|40=>306|n=>n,λ|23=>35|25=>3|3=>3|32=>229|22=>35|0=>0|44=>294|46=>296|4=>4|36=>288|35=>287|41=>267|5=>5|9=>9|53=>342|57=>60|63=>375|64=>376|n=>n,λ|n=>n⟩
theorem Tryz.aut:Go.Proofs.SlLaysM.n5 Tryz.prog Tryz.atN:=⟨kr,⟨Tryz.f72.name,by decide,kr⟩,⟨Tryz.f132.name,by decide,kr⟩,kr,⟨Tryz.f190.name,by decide,kr⟩,⟨Tryz.f191.name,by decide,kr⟩,⟨Tryz.f192.name,by decide,kr⟩,⟨Tryz.f193.name,by decide,kr⟩,⟨Tryz.f194.name,by decide,kr⟩,⟨Tryz.f195.name,by decide,kr⟩,⟨Tryz.f196.name,by decide,kr⟩,⟨Tryz.f197.name,by decide,kr⟩,⟨Tryz.f198.name,by decide,kr⟩,kr,kr,⟨Tryz.f259.name,by decide,kr⟩,kr,kr,⟨Tryz.f262.name,by decide,kr⟩,⟨Tryz.f263.name,by decide,kr⟩,⟨Tryz.f137.name,by decide,kr⟩,⟨Tryz.f306.name,by decide,kr⟩,kr,λ_=>kr,λ_=>kr,λ_=>kr,kr,λ_=>kr,λ_=>kr,λ_=>kr,kr,λ_=>kr,λ_=>kr,λ_=>kr,kr,λ_=>kr,λ_=>kr,λ_=>kr,kr,λ_=>kr,λ_=>kr,λ_=>kr,kr,λ_=>kr,λ_=>kr,λ_=>kr,kr,λ_=>kr,λ_=>kr,λ_=>kr,kr,λ_=>kr,λ_=>kr,λ_=>kr,kr,λ_=>kr,λ_=>kr,λ_=>kr,kr,λ_=>kr,λ_=>kr,λ_=>kr,kr,λ_=>kr,λ_=>kr,λ_=>kr,kr,λ_=>kr,λ_=>kr,λ_=>kr,kr,λ_=>kr,λ_=>kr,λ_=>kr,kr,λ_=>kr,λ_=>kr,λ_=>kr,kr,λ_=>kr,λ_=>kr,λ_=>kr,kr,λ_=>kr,λ_=>kr,λ_=>kr,kr,λ_=>kr,λ_=>kr,λ_=>kr,kr,λ_=>kr,λ_=>kr,λ_=>kr⟩
end Go.Proofs
end
section
namespace Go.Sx
open Go.Proofs Tryz
def TD:arT prog 72 RP:=RQ Tryz.aut
@[go_sem] def du (d:ah)(a:Nat)(b:List (G2×Int)):Empty⊕(List (G2×Int)):=(bif((d.bh.getD a default).kind==1)then .inr (dF .pq .int b ({ right:=(a:Int),dd:=(d.bh.getD a default).dd}:G2) ((d.bh.getD a default).bl))else .inr b)
@[go_sem] def dv (f:List bn)(a:bn)(b:List Int×List (G2×Int)):Empty⊕(List Int×List (G2×Int)):=letI e:=({ right:=a.right,dd:=a.since}:G2);letI c:=aC .pq .int b.2 e;letI d:=ud .pq .int b.2 e;(bif(c==0)then .inr ((b.1++([a.no])),b.2)else(bif(a.kind==1)then .inr (b.1,(fC a c d))else(bif(a.kind==2)then .inr (b.1,(dR a c d))else(bif(a.kind==3)then .inr (b.1,d)else .inr default))))
def fD (e:List bn)(a:bn)(b:List Int×List (G2×Int)):Prop:=letI d:=({ right:=a.right,dd:=a.since}:G2);letI c:=aC .pq .int b.2 d;(((c==0)=true->((b.1++([a.no])).length*8<=dT))/\((c==0)=false->((a.kind==1)=false->(((a.kind==2)=true->(ga a c (ud .pq .int b.2 d)))/\((a.kind==2)=false->((a.kind==3)=false->False))))))
def fJ (d:ah)(a:List bn):List (G2×Int)×List Int:=(match aj (du d) d.bh.length 0 ([])with| .inl x=>x.elim| .inr c=>(match cG (dv a) (a8 a) ([],c)with| .inl x=>x.elim| .inr b=>(b.2,(yR b.1))))
def mD (d:ah)(a:List bn):Prop:=letI b:=a8 a;(d.bh.length<=aI->(∀ l5,aj (du d) d.bh.length 0 ([])=.inr l5->((dC a (b.map En))/\okL (dv a) (fD a) b ([],l5))))
@[go_sem] noncomputable def B8:m0:=(pD .al λd=>(pFn 318 (pXR .M1 λds=>(pE ((pE (.det (mD d ds) (.tup [.nm .pq .int ((fJ d ds).1),.nw .int ((fJ d ds).2)]))))))))
variable {p:Prop}
def au7(h:p:=by simp only[go_sem,e1_0,e1_1,e1_2,e1_3]):p:=h
variable {l0 l1:List Nat}
def au1(a0:JL l0)(a1:JL l1)(h:JL l0->JL l1->p:=by intro ja jb;simp only[go_sem,wz,dv,psT,En,aoJ,aos,hk0];all_goals exact fU ja jb):p:=h a0 a1
def auW(a0:JL l0)(a1:JL l1)(h:JL l0->JL l1->p:=by intro ja jb;simp only[go_sem,wz,dv,psT,En,aoJ,aos,hk0,hk1];all_goals exact fU ja jb):p:=h a0 a1
def akx(a0:JL l0)(a1:JL l1)(h:JL l0->JL l1->p:=by intro ja jb;simp only[go_sem,wz,dv,psT,En,aoJ,aos,hk0,hk1,hk2];all_goals exact fU ja jb):p:=h a0 a1
def aky(a0:JL l0)(a1:JL l1)(h:JL l0->JL l1->p:=by intro ja jb;simp only[go_sem,wz];all_goals exact fU ja jb):p:=h a0 a1
theorem au9(h:p:=by simp only[go_sem,wz];all_goals exact cl):p:=h
theorem AY:X1 prog 229 B8:=by
 have hG:=mG (cp B7 Y1) (co TD (co ye (co xf (co xg Y1))));refine fW hG f229 [(.cell 5 0,.int)] (ax λd=>(o5 (xb λds=>(am ((am (λX=>?_)))))));dsimp only[an]at X;unfold mD at X;refine⟨nbl rfl,(λid st=>bif Nat.beq id 0 then some (LCR (ρ:=Empty) (σ:=(List (G2×Int))) 4 [] [0,1,2,3] (λY O=>⟨[(1,.fn 318 [] [.ep [.rs .M1 ds] 0]),(4,.ptr 1 0),(5,.ptr 2 0),(14,.rs .right d.bh),(15,.i (d.bh.length:Int)),(16,.i Y)],[.dead,.cells [.os 3],.cells [.v (.slice none 0 0)],.mp .pq .int O none]⟩) (du d) pT d.bh.length ([]) (d.bh.length<=aI) ((·.elim)) ((·.elim)) st)else bif Nat.beq id 2 then some (LC (ρ:=Empty) (σ:=List Int×List (G2×Int)) (lk 4 st.t=.ptr 1 0/\lk 5 st.t=.ptr 2 0/\lk 8 st.t=.ptr 5 0/\lk 33 st.t=.fn 318 [] [.ep [.rs .M1 ds] 0]/\st.h=[.dead,.cells [.os 3],.cells [.v (.slice none 0 0)],.mp .pq .int (bp (aj (du d) d.bh.length 0 ([]))) none,.mp .int .fnc gN none,.cells [.os 4]]/\dC ds ((a8 ds).map En)/\okL (dv ds) (fD ds) (a8 ds) ([],(bp (aj (du d) d.bh.length 0 ([]))))) (cG (dv ds) (a8 ds) ([],(bp (aj (du d) d.bh.length 0 ([]))))) (λx=>x.elim) (λx=>x.elim) (λE=>⟨[(4,.ptr 1 0),(5,.ptr 2 0),(8,.ptr 5 0)],[.dead,.cells [.os 3],.cells [.os 7],.mp .pq .int E.2 none,.mp .int .fnc gN none,.cells [.os 4],.dead,.row .int E.1]⟩))else none),?_,?_⟩
 ·unfold ae f229;simp only[ak,true_and,and_true];refine⟨?_,?_⟩;refine bu mixed aB hG kr (λ_=>rfl) (d.bh.length:Int) rfl fO (λhb0 Y O asO _ hw hc=>⟨L0,ag _,?_⟩) (λhb0 O hc=>?_);exact bC (jl [0,1,2,3]);exact bD (jl [0,1,2,3])
  ·refine AU mixed aB hG (by decide) (by decide) kr kr λst lc hC X=>?_;simp only[go_sem,Nat.reduceBEq,aoo]at hC;subst hC;obtain⟨t,h⟩:=st;dsimp only[LC]at X;obtain⟨e1_0,e1_1,e1_2,e1_3,rfl,hb1,W⟩:=X;refine⟨⟨t,[.dead,.cells [.os 3],.cells [.os 6],.mp .pq .int (bp (aj (du d) d.bh.length 0 ([]))) none,.mp .int .fnc gN none,.cells [.os 4],.row .int ([])]⟩,asv.cell (h:=[.dead,.cells [.os 3],.cells [.v (.slice none 0 0)],.mp .pq .int (bp (aj (du d) d.bh.length 0 ([]))) none,.mp .int .fnc gN none,.cells [.os 4]]) (i:=2) (j:=0) (.row .int ([])) (asv.refl _) rfl rfl (.inl ⟨_,rfl⟩),318,[.ep [.rs .M1 ds] 0],bn,_,_,(a8 ds),En,(dv ds),(fD ds),_,([],(bp (aj (du d) d.bh.length 0 ([])))),_,_,_,[(4,.ptr 1 0),(5,.ptr 2 0),(8,.ptr 5 0)],(λE=>[.dead,.cells [.os 3],.cells [.os 7],.mp .pq .int E.2 none,.mp .int .fnc gN none,.cells [.os 4],.dead,.row .int E.1]),(λx=>x.elim),[0,1,2,3,4,5,6,6],?_,rfl,W,nbl rfl,?_,ov ds _ hb1,λV E hq1=>⟨rfl,L0,λl=>?_,λl=>?_,?_⟩,λE=>?_,λy=>?_⟩;exact au7
   ·simp only[go_sem,sp,kg,aoF,apf,aos,aoC,aoZ,e1_0,e1_1,e1_2,e1_3];all_goals (first|done|decide|(repeat' (first|refine And.intro ?_ ?_|rfl|decide)))
   simp only[ak,and_self,true_and,and_true];simp only[ak,and_self,true_and,and_true];unfold fD at hq1;rcases aqk (V.kind==1)with hk0|hk0;exact au1 (jl [0,1,2,3,4,5,6,11]) (jl [0,1,2,3,4,5,6,7]);rcases aqk (V.kind==2)with hk1|hk1;exact auW (jl [0,1,2,3,4,5,6,11]) (jl [0,1,2,3,4,5,6,7]);rcases aqk (V.kind==3)with hk2|hk2;exact akx (jl [0,1,2,3,4,5,6,11]) (jl [0,1,2,3,4,5,6,7]);exact akx (jl [0,1,2,3,4,5,6,11]) (jl [0,1,2,3,4,5,6,7]);exact aky (jl [0,1,2,3,4,5,6,11]) (jl [0,1,2,3,4,5,6,7]);exact aky (jl [0,1,2,3,4,5,6,11]) (jl [0,1,2,3,4,5,6,7])
 unfold ae f229;try unfold fJ
 exact au9
end Go.Sx
end
section
namespace Go.Sx
@[go_sem ↓]def aip (x:Reach):mkE .reach [.v (.string x.name),.i x.up,.i x.delay,.i x.cap,.i x.ar6,.i x.arR,.i x.asu.lo,.i x.asu.hi,.i x.ar3.1.n,.i x.ar3.1.d,.i x.ar3.2.n,.i x.ar3.2.d]=x:=(rfl)
@[go_sem ↓]def akz (x:asW):mkE .arJ [.i x.cap,.i x.start]=x:=(rfl)
@[go_sem ↓]def akA (x:asR):mkE .dd [.v (.string x.name),.i x.reach,.i x.ati,.i x.asn]=x:=(rfl)
@[go_sem ↓]def aiq (x:ar4):mkE .right [.v (.string x.name),.i x.kind,.i x.dd,.i x.reach,.i x.arM,.i x.bl,.i x.since,.i x.to,.i x.every,.i x.length]=x:=(rfl)
@[go_sem ↓]def akB (x:bn):mkE .M1 [.i x.no,.i x.kind,.i x.right,.i x.since,.i x.to,.rs .part x.parts,.i x.of_,.i x.at_,.i x.known]=x:=(rfl)
@[go_sem ↓]def akC (x:Part):mkE .part [.i x.dd,.i x.share.n,.i x.share.d]=x:=(rfl)
@[go_sem ↓]def adl (x:arI):mkE .holding [.i x.right,.i x.dd,.i x.bl,.i x.arM]=x:=(rfl)
@[go_sem ↓]def air (x:api):mkE .ratio [.i x.n,.i x.d]=x:=(rfl)
@[go_sem ↓]def TE (x:G2):mkE .pq [.i x.right,.i x.dd]=x:=(rfl)
@[go_sem ↓]def ais (x:Claim):mkE .W2 [.i x.right,.i x.dd,.i x.hour,.i x.bl,.i x.arM]=x:=(rfl)
@[go_sem ↓]def aai (x:arF):mkE .art [.i x.dd,.i x.reach]=x:=(rfl)
@[go_sem ↓]def V8 (x:arv):mkE .arx [.i x.W2.right,.i x.W2.dd,.i x.W2.hour,.i x.W2.bl,.i x.W2.arM,.i x.reach]=x:=(rfl)
@[go_sem ↓]def ait (x:Order):mkE .order [.i x.hour,.i x.index,.i x.bl,.v (.bool x.S2)]=x:=(rfl)
@[go_sem ↓]def aiu (x:B1):mkE .fault [.i x.kind,.i x.hour,.i x.index,.i x.bl,.i x.limit]=x:=(rfl)
@[go_sem ↓]def afM (x:Y2):mkE .arH [.i x.reach,.i x.hour,.i x.bl,.i x.wanted]=x:=(rfl)
@[go_sem ↓]def adm (x:arO):mkE .refusal [.rs .int x.bh,.i x.kind,.i x.reach,.i x.hour,.rs .arH x.arz]=x:=(rfl)
@[go_sem ↓]def V9 (x:P1):mkE .S1 [.v (.string x.d.name),.i x.d.hours,.i x.d.arJ.cap,.i x.d.arJ.start,.rs .reach x.d.reaches,.rs .dd x.d.zs,.rs .asn x.d.arU,.rs .right x.d.bh,.rs .asy x.d.arL,.rs .asz x.d.asl,.rs .W2 x.c]=x:=(rfl)
@[go_sem ↓]def abB (x:ah):mkE .al [.v (.string x.name),.i x.hours,.i x.arJ.cap,.i x.arJ.start,.rs .reach x.reaches,.rs .dd x.zs,.rs .asn x.arU,.rs .right x.bh,.rs .asy x.arL,.rs .asz x.asl]=x:=(rfl)
end Go.Sx
end
section
namespace Go.Sx
open Go.Proofs Tryz
open IntKind (i64 u64)
variable {l0 l1:List Nat}{p:Prop}
def lm(a0:JL l0)(a1:JL l1)(h:JL l0->JL l1->p:=by intro ja jb;simp only[go_sem,hc,hw];all_goals exact fU ja jb):p:=h a0 a1
def ln(a0:JL l0)(a1:JL l1)(h:JL l0->JL l1->p:=by intro ja jb;simp only[go_sem,hc];all_goals exact fU ja jb):p:=h a0 a1
@[go_sem] def lp (b:List Int)(v:Int)(a:Nat)(c:Unit):Int⊕Unit:=(bif(v==(b.getD a 0))then .inl (a:Int)else .inr ())
def kz (a:List Int)(v:Int):Int:=(match aj (lp a v) a.length 0 ()with| .inl b=>b| .inr c=>(-1))
@[go_sem] def xj:m0:=(pR .int λa=>(pI λv=>(pE (.det True (.i (kz a v))))))
theorem wA:X1 prog 91 xj:=by
 have hG:=mG Y1 Y1;refine fN hG f91 [.o] (bG λO=>(aG λv=>(am (λY=>?_))));dsimp only[an]at Y;refine⟨nbl rfl,(λid st=>bif Nat.beq id 0 then some (LCR (ρ:=Int) (σ:=Unit) 0 [] [] (λV W=>⟨[(0,.rs .int O),(1,.i v),(7,.i (O.length:Int)),(8,.i V)],[]⟩) (lp O v) pT O.length () (O.length<=aI) (λ_=>.ret) (λE=>⟨[(4,.i E)],[]⟩) st)else none),?_,?_⟩;unfold ae f91;simp only[ak,true_and,and_true];refine bu mixed aB hG kr (λ_=>rfl) (O.length:Int) rfl fO (λhb0 V W X _ hw hc=>⟨L0,ag _,?_⟩) (λhb0 W hc=>?_);exact bC (jl []);exact bD (jl []);unfold ae f91;try unfold kz
 exact zq2
def eE (a:List Int)(v:Int):Bool:=(decide ((kz a v)>=0))
@[go_sem] def u9:m0:=(pR .int λa=>(pI λv=>(pE (.det True (.v (.bool (eE a v)))))))
theorem nr:X1 prog 44 u9:=by
 have hG:=mG (cn [.sl .int,.o] wA Y1) Y1;refine fN hG f44 [.o] (bG λO=>(aG λv=>(am (λE=>?_))));dsimp only[an]at E;refine⟨nbl rfl,L0,ag _,?_⟩;unfold ae f44;try unfold eE
 exact zq2
def di (n a b:Int):Bool:=((decide (n>=a))&&(decide (n<=b)))
@[go_sem] def E3:m0:=(pI λn=>(pI λa=>(pI λb=>(pE (.det True (.v (.bool (di n a b))))))))
theorem rj:X1 prog 46 E3:=by
 have hG:=mG Y1 Y1;refine fN hG f46 [.o] (aG λn=>(aG λlo=>(aG λhi=>(am (λE=>?_)))));dsimp only[an]at E;refine⟨nbl rfl,L0,ag _,?_⟩;unfold ae f46;try unfold di
 exact zq2
@[go_sem] def fQ (a:P1)(b:Nat)(d:List Int):Empty⊕(List Int):=.inr (d++([(a.c.getD b default).right]))
def iB (a:P1)(b:Nat)(d:List Int):Prop:=((d++([(a.c.getD b default).right])).length*8<=dT)
def ay (a:P1):List Int:=(match aj (fQ a) a.c.length 0 ([])with| .inl x=>x.elim| .inr b=>(cpI (yR b)))
def gb (a:P1):Prop:=(a.c.length<=aI->okI (fQ a) (iB a) a.c.length 0 ([]))
@[go_sem] def yf:m0:=(pD .S1 λa=>(pE (.det (gb a) (.rs .int (ay a)))))
theorem lN:X1 prog 31 yf:=by
 have hG:=mG Y1 (co TD (co afK Y1));refine fN hG f31 [.sl .int] (ax λE=>(am (λY=>?_)));dsimp only[an]at Y;unfold gb at Y;refine⟨nbl rfl,(λid st=>bif Nat.beq id 0 then some (LCR (ρ:=Empty) (σ:=(List Int)) 1 [.slot 2 (.row .int ([]))] [0,1] (λV O=>⟨[(2,.os 1),(6,.rs .W2 E.c),(7,.i (E.c.length:Int)),(8,.i V)],[.dead,.row .int O]⟩) (fQ E) (iB E) E.c.length ([]) (E.c.length<=aI) ((·.elim)) ((·.elim)) st)else none),?_,?_⟩;unfold ae f31;simp only[ak,true_and,and_true];refine bu mixed aB hG kr (λ_=>rfl) (E.c.length:Int) rfl fO (λhb0 V O X W hw hc=>⟨L0,ag _,?_⟩) (λhb0 O hc=>?_);unfold iB at W;try simp only[hw,aol]at W
 exact lm (jl [0,4]) (jl [0,1]);exact ln (jl [0,4]) (jl [0,1]);unfold ae f31;try unfold ay
 exact zq2
@[go_sem] def yY:m0:=pR .W2 λl=>pE (.det (l.length*40<=dT) (.nw .W2 l))
theorem yg:X1 prog 75 yY:=by
 refine fW (mG Y1 Y1) f75 [(.tmp 2,.W2)] (bG λl=>am λE=>?_);dsimp only[an]at E;refine⟨nbl rfl,L0,ag _,?_⟩;unfold ae f75;simp only[go_sem];intro b V;refine⟨λh=>?_,λ_=>?_⟩;have O:=V h;subst O;rfl;first|exact E|exact⟨E,λ_=>rfl⟩
def bq (x:Claim)(a:List Int):Bool:=(!(eE a x.right))
@[go_sem] noncomputable def Ab:m0:=(pD .W2 λx=>(pXR .int λrs_=>(pE (.det True (.v (.bool (bq x rs_)))))))
theorem sA:X1 prog 76 Ab:=by
 have hG:=mG (cn [.sl .int,.o] nr Y1) Y1;refine fN hG f76 [.o] (ax λx=>(xb λO=>(am (λE=>?_))));dsimp only[an]at E;refine⟨nbl rfl,L0,ag _,?_⟩;unfold ae f76;try unfold bq
 exact zq2
@[go_sem] def fv (b:List Claim)(c:List Int)(a:Nat)(d:Unit):Int⊕Unit:=(bif(bq (b.getD a default) c)then .inl (a:Int)else .inr ())
def a_ (a:List Claim)(b:List Int):Int:=(match aj (fv a b) a.length 0 ()with| .inl c=>c| .inr d=>(-1))
@[go_sem] noncomputable def iL:m0:=(pR .W2 λs_=>(pFn 76 (pXR .int λrs_=>(pE ((pE (.det True (.i (a_ s_ rs_)))))))))
theorem mU:X1 prog 134 iL:=by
 have hG:=mG (cp sA Y1) Y1;refine fN hG f134 [.o] (bG λO=>(o5 (xb λW=>(am ((am (λhp=>?_)))))));dsimp only[an]at hp;refine⟨nbl rfl,(λid st=>bif Nat.beq id 0 then some (LCR (ρ:=Int) (σ:=Unit) 0 [] [] (λV X=>⟨[(0,.rs .W2 O),(1,.fn 76 [] [.ep [.rs .int W] 0]),(7,.i (O.length:Int)),(8,.i V)],[]⟩) (fv O W) pT O.length () (O.length<=aI) (λ_=>.ret) (λE=>⟨[(4,.i E)],[]⟩) st)else none),?_,?_⟩;unfold ae f134;simp only[ak,true_and,and_true];refine bu mixed aB hG kr (λ_=>rfl) (O.length:Int) rfl fO (λhb0 V X Y _ hw hc=>⟨L0,ag _,?_⟩) (λhb0 X hc=>?_);exact bC (jl []);exact bD (jl []);unfold ae f134;try unfold a_
 exact zq2
@[go_sem] noncomputable def iy:m0:=λl=>(iL l)
def mA:X1 prog 134 iy:=mU
@[go_sem] def bY (e:List Claim)(d:List Int)(f:Nat)(a:List Claim×Int×Int):(Int×List Claim)⊕(List Claim×Int×Int):=letI b:=a.1.getD (Int.toNat a.2.2) default;letI c:=i64.wrap (a.2.2+1);(bif(decide (a.2.2< (a.1.length:Int)))then(bif(!(bq b d))then .inr ((a.1.set (Int.toNat a.2.1) b),(i64.wrap (a.2.1+1)),c)else .inr (a.1,a.2.1,c))else .inl (a.2.1,a.1))
def ct (d:List Claim)(c:List Int)(e:Nat)(a:List Claim×Int×Int):Prop:=letI b:=(a.1.length:Int);(a.1.length<=aI->((decide (a.2.2<b))=true->((0<=a.2.2/\a.2.2<b)/\((!(bq (a.1.getD (Int.toNat a.2.2) default) c))=true->(0<=a.2.1/\a.2.1<b)))))
def bR (a:List Claim)(d:List Int):List Claim:=letI c:=a_ a d;(bif(c==(-1))then a else(match aj (bY a d) (a.length+1) 0 (a,c,(i64.wrap (c+1)))with| .inl b=>(((yr .W2 b.2 b.1 (b.2.length:Int)).take (Int.toNat b.1)).drop 0) | .inr e=>default))
def bM (a:List Claim)(b:List Int):Prop:=letI c:=a_ a b;letI d:=bY a b;letI e:=(a,c,(i64.wrap (c+1)));letI f:=a.length+1;((c==(-1))=false->(okI d (ct a b) f 0 e/\(∀ z_,aj d f 0 e≠ .inr z_)/\(∀ u0,aj d f 0 e=.inl u0->((0<=u0.1/\u0.1<=(u0.2.length:Int))/\(0<=0/\0<=u0.1/\u0.1<=((yr .W2 u0.2 u0.1 (u0.2.length:Int)).length:Int))))))
noncomputable def iz:List SV->List Ob->Option arV:=kh (λx_:(List Claim)×(List Int) =>[.os 0,.fn 76 [] [.ptr 1 0]]) (λx_=>[.row .W2 x_.1,.cells [.rs .int x_.2]]) (λx_=>fM (bM x_.1 x_.2) (.os 2) [.dead,.cells [.rs .int x_.2],.row .W2 (bR x_.1 x_.2)])
@[go_sem]def xk (c:List Claim)(b:List Int):iz ([.os 0,.fn (76:Nat) [] [.ptr 1 0]]) ([.row .W2 c,.cells [.rs .int b]])=some (fM (bM c b) (.os 2) [.dead,.cells [.rs .int b],.row .W2 (bR c b)]):=gA (A:=λa:(List Claim)×(List Int) =>[.os 0,.fn 76 [] [.ptr 1 0]]) (H:=λa=>[.row .W2 a.1,.cells [.rs .int a.2]]) (K:=λa=>fM (bM a.1 a.2) (.os 2) [.dead,.cells [.rs .int a.2],.row .W2 (bR a.1 a.2)]) (x:=(c,b))
def auX(a0:JL l0)(a1:JL l1)(h:JL l0->JL l1->p:=by intro ja jb;simp only[go_sem,iy];all_goals exact fU ja jb):p:=h a0 a1
theorem mB:arT prog 74 (iz):=by
 have hG:=mG (cp sA (cn [.sl .W2,.o] mA Y1)) Y1;refine fR hG f74 (λl o con h=>?_);obtain⟨⟨W,E⟩,rfl,rfl,rfl⟩:=eD h;clear h;try dsimp only
 refine⟨_,_,_,rfl,λhp=>?_⟩;unfold bM at hp;refine⟨nbl rfl,(λid st=>bif Nat.beq id 0 then some (LCV (ρ:=(Int×List Claim)) (σ:=(List Claim×Int×Int)) 2 [] [0,1] (λX V=>⟨[(0,.os 0),(1,.fn 76 [] [.ptr 1 0]),(5,.i V.2.1),(6,.i V.2.2)],[.row .W2 V.1,.cells [.rs .int E]]⟩) (bY W E) (ct W E) (W.length+1) (W,(a_ W E),(i64.wrap ((a_ W E)+1))) (λ_=>.normal) (λO=>⟨[(0,.os 0),(5,.i O.1)],[.row .W2 O.2,.cells [.rs .int E]]⟩) st)else none),?_,?_⟩;unfold ae f74;simp only[ak,true_and,and_true,and_assoc];refine fw mixed aB hG kr (λ_=>rfl) λX V Y=>⟨L0,ag _,?_⟩;unfold ct at Y;exact cJ (jl [0,1]);unfold ae f74;try unfold bR
 exact auX (jl [0,1,0]) (jl [0,1,2])
def dw (a:P1)(b:List Int):P1:=({ d:=a.d,c:=(bR a.c b)}:P1)
def kA (a:P1)(b:List Int):Prop:=((a.c.length*40<=dT)/\(bM a.c b))
@[go_sem] def B9:m0:=(pD .S1 λa=>(pR .int λb=>(pE (.det (kA a b) (.agg (cellsOf .S1 (dw a b)))))))
theorem uD:X1 prog 32 B9:=by
 have hG:=mG (cn [.sl .W2] yg Y1) (co mB Y1);refine fN hG f32 [.st .S1] (ax λO=>(bG λbh=>(am (λE=>?_))));dsimp only[an]at E;unfold kA at E;refine⟨nbl rfl,L0,ag _,?_⟩;unfold ae f32;try unfold dw
 exact zq2
def zF (d:ah):Bool:=((((((decide ((d.reaches.length:Int)<=100))&&(decide ((d.zs.length:Int)<=700)))&&(decide ((d.arU.length:Int)<=100)))&&(decide ((d.bh.length:Int)<=300)))&&(decide ((d.arL.length:Int)<=300)))&&(decide ((d.asl.length:Int)<=100)))
@[go_sem] def Pa:m0:=(pD .al λd=>(pE (.det True (.v (.bool (zF d))))))
theorem Mr:X1 prog 125 Pa:=by
 have hG:=mG Y1 Y1;refine fN hG f125 [.o] (ax λd=>(am (λE=>?_)));dsimp only[an]at E;refine⟨nbl rfl,L0,ag _,?_⟩;unfold ae f125;try unfold zF
 exact zq2
def aQ (n a b:Int):Bool:=((decide (n>=a))&&(decide (n<=b)))
@[go_sem] def Hf:m0:=(pI λn=>(pI λa=>(pI λb=>(pE (.det True (.v (.bool (aQ n a b))))))))
theorem lZ:X1 prog 299 Hf:=by
 have hG:=mG Y1 Y1;refine fN hG f299 [.o] (aG λn=>(aG λlo=>(aG λhi=>(am (λE=>?_)))));dsimp only[an]at E;refine⟨nbl rfl,L0,ag _,?_⟩;unfold ae f299;try unfold aQ
 exact zq2
@[go_sem] def jJ (b:Int)(c:Nat)(a:Int×Int):Int⊕(Int×Int):=(bif(decide (a.2 > 0))then .inr (a.2,(Int.tmod a.1 a.2))else .inl a.1)
def pg (b:Int)(c:Nat)(a:Int×Int):Prop:=((decide (a.2 > 0))=true->a.2≠0)
def oH (a b:Int):Int:=(match aj (jJ b) (Int.toNat b+1) 0 (a,b)with| .inl c=>c| .inr d=>default)
def o8 (a b:Int):Prop:=(okI (jJ b) (pg b) (Int.toNat b+1) 0 (a,b)/\(∀ z_,aj (jJ b) (Int.toNat b+1) 0 (a,b)≠ .inr z_))
@[go_sem] def E4:m0:=(pI λa=>(pI λb=>(pE (.det (o8 a b) (.i (oH a b))))))
theorem Du:X1 prog 332 E4:=by
 have hG:=mG Y1 Y1;refine fN hG f332 [.o] (aG λa=>(aG λb=>(am (λX=>?_))));dsimp only[an]at X;unfold o8 at X;refine⟨nbl rfl,(λid st=>bif Nat.beq id 0 then some (LCV (ρ:=Int) (σ:=(Int×Int)) 0 [] [] (λV O=>⟨[(0,.i O.1),(1,.i O.2)],[]⟩) (jJ b) (pg b) (Int.toNat b+1) (a,b) (λ_=>.normal) (λE=>⟨[(0,.i E)],[]⟩) st)else none),?_,?_⟩;unfold ae f332;simp only[ak,true_and,and_true];refine fw mixed aB hG kr (λ_=>rfl) λV O W=>⟨L0,ag _,?_⟩;unfold pg at W;exact cJ (jl []);unfold ae f332;try unfold oH
 exact zq2
def rk (n:Int):Int:=(bif(decide (n<0))then(i64.wrap (0 - n))else n)
@[go_sem] def Ms:m0:=(pI λn=>(pE (.det True (.i (rk n)))))
theorem Jk:X1 prog 333 Ms:=by
 have hG:=mG Y1 Y1;refine fN hG f333 [.o] (aG λn=>(am (λE=>?_)));dsimp only[an]at E;refine⟨nbl rfl,L0,ag _,?_⟩;unfold ae f333;try unfold rk
 exact zq2
def eY (a:api):Bool:=(((((decide (a.d>=1))&&(decide (a.d<=1073741824)))&&(decide (a.n>=(-1073741824))))&&(decide (a.n<=1073741824)))&&((oH (rk a.n) a.d) ==1))
def jI (a:api):Prop:=(((((decide (a.d>=1))&&(decide (a.d<=1073741824)))&&(decide (a.n>=(-1073741824))))&&(decide (a.n<=1073741824)))=true->(o8 (rk a.n) a.d))
@[go_sem] def Jl:m0:=(pD .ratio λa=>(pE (.det (jI a) (.v (.bool (eY a))))))
theorem qn:X1 prog 303 Jl:=by
 have hG:=mG (cp Du (cp Jk Y1)) Y1;refine fN hG f303 [.o] (ax λa=>(am (λE=>?_)));dsimp only[an]at E;unfold jI at E;refine⟨nbl rfl,L0,ag _,?_⟩;unfold ae f303;try unfold eY
 exact zq2
def kB (a:api):Int:=(bif(!(eY a))then 120 else 0)
def rM (a:api):Prop:=(jI a)
@[go_sem] def Jm:m0:=(pD .ratio λa=>(pE (.det (rM a) (.i (kB a)))))
theorem Hg:X1 prog 347 Jm:=by
 have hG:=mG (cp qn Y1) Y1;refine fN hG f347 [.o] (ax λa=>(am (λE=>?_)));dsimp only[an]at E;unfold rM at E;refine⟨nbl rfl,L0,ag _,?_⟩;unfold ae f347;try unfold kB
 exact zq2
def uE (a b:api):Bool:=(decide ((i64.wrap (a.n*b.d)) < (i64.wrap (b.n*a.d))))
@[go_sem] def Mt:m0:=(pD .ratio λa=>(pD .ratio λb=>(pE (.det True (.v (.bool (uE a b)))))))
theorem Jn:X1 prog 311 Mt:=by
 have hG:=mG Y1 Y1;refine fN hG f311 [.o] (ax λa=>(ax λb=>(am (λE=>?_))));dsimp only[an]at E;refine⟨nbl rfl,L0,ag _,?_⟩;unfold ae f311;try unfold uE
 exact zq2
def lO (a b:api):Bool:=((eY a)&&(eY b))
def qo (a b:api):Prop:=((jI a)/\((eY a)=true->(jI b)))
@[go_sem] def Mu:m0:=(pD .ratio λa=>(pD .ratio λb=>(pE (.det (qo a b) (.v (.bool (lO a b)))))))
theorem At:X1 prog 334 Mu:=by
 have hG:=mG (cp qn Y1) Y1;refine fN hG f334 [.o] (ax λa=>(ax λb=>(am (λE=>?_))));dsimp only[an]at E;unfold qo at E;refine⟨nbl rfl,L0,ag _,?_⟩;unfold ae f334;try unfold lO
 exact zq2
def rl (a b:api):Int×Int:=(bif(!(lO a b))then(0,120)else(bif(uE a b)then((-1),0)else(bif(uE b a)then(1,0)else(0,0))))
def yZ (a b:api):Prop:=(qo a b)
@[go_sem] def Pb:m0:=(pD .ratio λa=>(pD .ratio λb=>(pE (.det (yZ a b) (.tup [.i ((rl a b).1),.i ((rl a b).2)])))))
theorem Mv:X1 prog 348 Pb:=by
 have hG:=mG (cp Jn (cp At Y1)) Y1;refine fN hG f348 [.o,.o] (ax λa=>(ax λb=>(am (λE=>?_))));dsimp only[an]at E;unfold yZ at E;refine⟨nbl rfl,L0,ag _,?_⟩;unfold ae f348;try unfold rl
 exact zq2
@[go_sem] def mm (b:Int)(c:Nat)(a:Int×Int):(Int×Int)⊕(Int×Int):=(bif(decide (a.2< (-1)))then .inr (a.2,(Int.tmod a.1 a.2))else .inl (a.1,a.2))
def o9 (b:Int)(c:Nat)(a:Int×Int):Prop:=((decide (a.2< (-1)))=true->a.2≠0)
def rq (f b:Int):api×Int:=letI c:=bif(decide (f > 0))then(i64.wrap (0 - f))else f;letI e:=bif(decide (b > 0))then(i64.wrap (0 - b))else b;letI g:=i64.wrap (Int.tdiv c (-1));letI h:=i64.wrap (Int.tdiv e (-1));letI i:=(decide (f<0)) !=(decide (b<0));letI j:=decide (c< (-1073741824));letI k:=decide (e< (-1073741824));(bif(b==0)then(({ n:=0,d:=0}:api),120)else(match aj (mm b) (Int.natAbs b+2) 0 (c,e)with| .inl a=>(bif(a.2==(-1))then(bif(j||k)then(({ n:=0,d:=0}:api),2)else(bif((decide (g > 1073741824)) ||(decide (h > 1073741824)))then(({ n:=0,d:=0}:api),2)else(bif i then(({ n:=(i64.wrap (0 - g)),d:=h}:api),0)else(({ n:=g,d:=h}:api),0))))else(bif((a.1==(-1))&&(j||k))then(({ n:=0,d:=0}:api),2)else(bif((decide ((i64.wrap (Int.tdiv c a.1)) > 1073741824)) ||(decide ((i64.wrap (Int.tdiv e a.1)) > 1073741824)))then(({ n:=0,d:=0}:api),2)else(bif i then(({ n:=(i64.wrap (0 - (i64.wrap (Int.tdiv c a.1)))),d:=(i64.wrap (Int.tdiv e a.1))}:api),0)else(({ n:=(i64.wrap (Int.tdiv c a.1)),d:=(i64.wrap (Int.tdiv e a.1))}:api),0))))) | .inr l=>default))
def qp (b a:Int):Prop:=letI f:=bif(decide (b > 0))then(i64.wrap (0 - b))else b;letI g:=bif(decide (a > 0))then(i64.wrap (0 - a))else a;letI c:=(f,g);letI d:=Int.natAbs a+2;letI e:=mm a;letI h:=decide (f< (-1073741824));letI i:=decide (g< (-1073741824));((a==0)=false->(okI e (o9 a) d 0 c/\(∀ z_,aj e d 0 c≠ .inr z_)/\(∀ u0,aj e d 0 c=.inl u0->(((u0.2==(-1))=true->((h||i)=false->((-1)≠0/\(-1)≠0)))/\((u0.2==(-1))=false->(((u0.1==(-1))&&(h||i))=false->(u0.1≠0/\u0.1≠0)))))))
@[go_sem] def Mw:m0:=(pI λa=>(pI λb=>(pE (.det (qp a b) (.tup [.agg (cellsOf .ratio ((rq a b).1)),.i ((rq a b).2)])))))
theorem Jo:X1 prog 335 Mw:=by
 have hG:=mG Y1 Y1;refine fN hG f335 [.st .ratio,.o] (aG λa0=>(aG λa1=>(am (λX=>?_))));dsimp only[an]at X;unfold qp at X;refine⟨nbl rfl,(λid st=>bif Nat.beq id 1000016 then some (JC (⟨[(0,.i a0),(1,.i a1),(4,.ptr 0 0),(6,.i (bif(decide (a0 > 0))then(i64.wrap (0 - a0))else a0))],[.cells [.i 0,.i 0]]⟩))else bif Nat.beq id 1000021 then some (JC (⟨[(0,.i a0),(1,.i a1),(4,.ptr 0 0),(6,.i (bif(decide (a0 > 0))then(i64.wrap (0 - a0))else a0)),(7,.i (bif(decide (a1 > 0))then(i64.wrap (0 - a1))else a1))],[.cells [.i 0,.i 0]]⟩))else bif Nat.beq id 0 then some (LCV (ρ:=(Int×Int)) (σ:=(Int×Int)) 1 [] [0] (λV O=>⟨[(0,.i a0),(1,.i a1),(4,.ptr 0 0),(6,.i (bif(decide (a0 > 0))then(i64.wrap (0 - a0))else a0)),(7,.i (bif(decide (a1 > 0))then(i64.wrap (0 - a1))else a1)),(8,.i O.1),(9,.i O.2)],[.cells [.i 0,.i 0]]⟩) (mm a1) (o9 a1) (Int.natAbs a1+2) ((bif(decide (a0 > 0))then(i64.wrap (0 - a0))else a0),(bif(decide (a1 > 0))then(i64.wrap (0 - a1))else a1)) (λ_=>.normal) (λE=>⟨[(0,.i a0),(1,.i a1),(4,.ptr 0 0),(6,.i (bif(decide (a0 > 0))then(i64.wrap (0 - a0))else a0)),(7,.i (bif(decide (a1 > 0))then(i64.wrap (0 - a1))else a1)),(8,.i E.1),(9,.i E.2)],[.cells [.i 0,.i 0]]⟩) st)else none),?_,?_⟩;unfold ae f335;simp only[ak,true_and,and_true];refine fw mixed aB hG kr (λ_=>rfl) λV O W=>⟨L0,ag _,?_⟩;unfold o9 at W;exact cJ (jl [0]);unfold ae f335;try unfold rq
 exact zq2
def t6 (a b:api):api×Int:=letI c:=rq (i64.wrap ((i64.wrap (a.n*b.d))+(i64.wrap (b.n*a.d)))) (i64.wrap (a.d*b.d));(bif(!(lO a b))then(({ n:=0,d:=0}:api),120)else((c.1),c.2))
def sB (a b:api):Prop:=((qo a b)/\((!(lO a b))=false->(qp (i64.wrap ((i64.wrap (a.n*b.d))+(i64.wrap (b.n*a.d)))) (i64.wrap (a.d*b.d)))))
@[go_sem] def Pc:m0:=(pD .ratio λa=>(pD .ratio λb=>(pE (.det (sB a b) (.tup [.agg (cellsOf .ratio ((t6 a b).1)),.i ((t6 a b).2)])))))
theorem Mx:X1 prog 304 Pc:=by
 have hG:=mG (cp At (cp Jo Y1)) Y1;refine fN hG f304 [.st .ratio,.o] (ax λa=>(ax λb=>(am (λE=>?_))));dsimp only[an]at E;unfold sB at E;refine⟨nbl rfl,L0,ag _,?_⟩;unfold ae f304;try unfold t6
 exact zq2
def py (n d:Int):Int:=(bif(decide ((Int.tmod n d) <0))then(i64.wrap ((i64.wrap (Int.tdiv n d)) - 1))else(i64.wrap (Int.tdiv n d)))
def rN (n d:Int):Prop:=(d≠0/\d≠0)
@[go_sem] def Jp:m0:=(pI λn=>(pI λd=>(pE (.det (rN n d) (.i (py n d))))))
theorem Hh:X1 prog 305 Jp:=by
 have hG:=mG Y1 Y1;refine fN hG f305 [.o] (aG λn=>(aG λd=>(am (λE=>?_))));dsimp only[an]at E;unfold rN at E;refine⟨nbl rfl,L0,ag _,?_⟩;unfold ae f305;try unfold py
 exact zq2
def ib (a:api)(n:Int):Int×Int×Int:=(bif(!(eY a))then(0,0,120)else(bif((decide (n< (-1073741824))) ||(decide (n > 1073741824)))then(0,0,1)else((py (i64.wrap (a.n*n)) a.d),(i64.wrap (0 - (py (i64.wrap ((i64.wrap (0 - a.n))*n)) a.d))),0)))
def oI (a:api)(n:Int):Prop:=((jI a)/\((!(eY a))=false->(((decide (n< (-1073741824))) ||(decide (n > 1073741824)))=false->((rN (i64.wrap (a.n*n)) a.d)/\(rN (i64.wrap ((i64.wrap (0 - a.n))*n)) a.d)))))
@[go_sem] def Jq:m0:=(pD .ratio λa=>(pI λn=>(pE (.det (oI a n) (.tup [.i ((ib a n).1),.i ((ib a n).2.1),.i ((ib a n).2.2)])))))
theorem Hi:X1 prog 258 Jq:=by
 have hG:=mG (cp qn (cp Hh Y1)) Y1;refine fN hG f258 [.o,.o,.o] (ax λa=>(aG λn=>(am (λE=>?_))));dsimp only[an]at E;unfold oI at E;refine⟨nbl rfl,L0,ag _,?_⟩;unfold ae f258;try unfold ib
 exact zq2
def kC (x:api×api):Bool:=(bif(((kB x.1) !=0) ||((kB x.2) !=0))then false else(((decide (x.1.n>=0))&&(decide ((rl x.1 x.2).1<=0)))&&(decide (x.2.n<=x.2.d))))
def qq (x:api×api):Prop:=((rM x.1)/\((((kB x.1) !=0)=false->(rM x.2))/\((((kB x.1) !=0) ||((kB x.2) !=0))=false->(yZ x.1 x.2))))
@[go_sem] def Hj:m0:=(pD .ast λx=>(pE (.det (qq x) (.v (.bool (kC x))))))
theorem E5:X1 prog 344 Hj:=by
 have hG:=mG (cp Hg (cp Mv Y1)) Y1;refine fN hG f344 [.o] (ax λx=>(am (λE=>?_)));dsimp only[an]at E;unfold qq at E;refine⟨nbl rfl,L0,ag _,?_⟩;unfold ae f344;try unfold kC
 exact zq2
def sC (x:Reach):Bool:=(bif(((!(aQ x.delay 1 16)) ||(!(aQ x.cap 0 1073741824))) ||(!(aQ x.ar6 0 1099511627776)))then false else(bif(((!(aQ x.arR 0 (if x.ar6<x.cap then x.ar6 else x.cap))) ||(!(aQ x.asu.lo 0 x.asu.hi))) ||(decide (x.asu.hi > 1073741824)))then false else(kC x.ar3)))
def rO (x:Reach):Prop:=((((!(aQ x.delay 1 16)) ||(!(aQ x.cap 0 1073741824))) ||(!(aQ x.ar6 0 1099511627776)))=false->((((!(aQ x.arR 0 (if x.ar6<x.cap then x.ar6 else x.cap))) ||(!(aQ x.asu.lo 0 x.asu.hi))) ||(decide (x.asu.hi > 1073741824)))=false->(qq x.ar3)))
@[go_sem] def Jr:m0:=(pD .reach λx=>(pE (.det (rO x) (.v (.bool (sC x))))))
theorem Hk:X1 prog 331 Jr:=by
 have hG:=mG (cp lZ (cp E5 Y1)) Y1;refine fN hG f331 [.o] (ax λx=>(am (λE=>?_)));dsimp only[an]at E;unfold rO at E;refine⟨nbl rfl,L0,ag _,?_⟩;unfold ae f331;try unfold sC
 exact zq2
@[go_sem] def jK (d:List Reach)(c:Nat)(e:Unit):Unit⊕Unit:=letI a:=d.getD c default;letI b:=(c:Int);(bif(((b==0)&&(a.up !=(-1))) ||((decide (b > 0))&&(!(aQ (a.up) 0 (i64.wrap (b - 1))))))then .inl ()else(bif(!(sC a))then .inl ()else .inr ()))
def ph (b:List Reach)(a:Nat)(c:Unit):Prop:=(b.length<=aI->(((((a:Int) ==0)&&((b.getD a default).up !=(-1))) ||((decide ((a:Int) > 0))&&(!(aQ ((b.getD a default).up) 0 (i64.wrap ((a:Int) - 1))))))=false->(rO (b.getD a default))))
def oJ (a:List Reach):Bool:=(match aj (jK a) a.length 0 ()with| .inl b=>false| .inr c=>(decide ((a.length:Int) > 0)))
def sZ (a:List Reach):Prop:=okI (jK a) (ph a) a.length 0 ()
@[go_sem] def E6:m0:=(pR .reach λa=>(pE (.det (sZ a) (.v (.bool (oJ a))))))
theorem Dv:X1 prog 300 E6:=by
 have hG:=mG (cp lZ (cp Hk Y1)) Y1;refine fN hG f300 [.o] (bG λV=>(am (λhp=>?_)));dsimp only[an]at hp;unfold sZ at hp;refine⟨nbl rfl,(λid st=>bif Nat.beq id 0 then some (LCR (ρ:=Unit) (σ:=Unit) 0 [] [] (λE O=>⟨[(0,.rs .reach V),(3,.i E)],[]⟩) (jK V) (ph V) V.length () (True) (λ_=>.ret) (λX=>⟨[(2,.v (.bool false))],[]⟩) st)else none),?_,?_⟩;unfold ae f300;simp only[ak,true_and,and_true];refine fj (V.length<=aI) mixed aB hG kr (λ_=>rfl) (V.length:Int) rfl fO (λhb0 E O Y W hw hc=>⟨L0,ag _,?_⟩) (λhb0 O hc=>?_) λhb0 E O=>?_;unfold ph at W;try simp only[hw,aol]at W
 exact bC (jl []);exact bD (jl []);exact zq8;unfold ae f300;try unfold oJ
 exact zq2
@[go_sem] def nt (a:ah)(b:Nat)(c:Unit):Unit⊕Unit:=(bif(!(aQ ((a.arU.getD b default).need) 0 1048576))then .inl ()else .inr ())
@[go_sem] def nu (b:ah)(c:Nat)(d:Unit):Unit⊕Unit:=letI a:=b.zs.getD c default;(bif((!(aQ (a.reach) 0 (i64.wrap ((b.reaches.length:Int) - 1)))) ||(!(aQ (a.ati) 0 1048576)))then .inl ()else(bif(((a.ati==0)&&(a.asn !=(-1))) ||((decide (a.ati > 0))&&(!(aQ (a.asn) 0 (i64.wrap ((b.arU.length:Int) - 1))))))then .inl ()else .inr ()))
def sD (a:ah):Bool:=(match aj (nt a) a.arU.length 0 ()with| .inl b=>false| .inr c=>(match aj (nu a) a.zs.length 0 ()with| .inl d=>false| .inr e=>true))
@[go_sem] def Js:m0:=(pD .al λa=>(pE (.det True (.v (.bool (sD a))))))
theorem RU(h:p:=by simp only[go_sem,hb1]):p:=h
theorem Hl:X1 prog 301 Js:=by
 have hG:=mG (cp lZ Y1) Y1;refine fN hG f301 [.o] (ax λa0=>(am (λhp=>?_)));dsimp only[an]at hp;refine⟨nbl rfl,(λid st=>bif Nat.beq id 0 then some (LCR (ρ:=Unit) (σ:=Unit) 1 [] [0] (λV E=>⟨[(1,.ptr 0 0),(3,.i V)],[.cells (cellsOf .al a0)]⟩) (nt a0) pT a0.arU.length () (True) (λ_=>.ret) (λX=>⟨[(2,.v (.bool false))],[.dead]⟩) st)else bif Nat.beq id 2 then some (LCR (ρ:=Unit) (σ:=Unit) 1 [] [0] (λW O=>⟨[(1,.ptr 0 0),(4,.i W)],[.cells (cellsOf .al a0)]⟩) (nu a0) pT a0.zs.length () (True) (λ_=>.ret) (λY=>⟨[(2,.v (.bool false))],[.dead]⟩) st)else none),?_,?_⟩;unfold ae f301;simp only[ak,true_and,and_true];refine⟨?_,?_⟩;refine fj (a0.arU.length<=aI) mixed aB hG kr (λ_=>rfl) (a0.arU.length:Int) rfl fO (λhb0 V E asO _ hw hc=>⟨L0,ag _,?_⟩) (λhb0 E hc=>?_) λhb0 V E=>?_;exact bC (jl [0]);exact bD (jl [0]);exact zq8;refine fj (a0.zs.length<=aI) mixed aB hG kr (λ_=>rfl) (a0.zs.length:Int) rfl fO (λhb1 W O as6 _ hw hc=>⟨L0,ag _,?_⟩) (λhb1 O hc=>?_) λhb1 W O=>?_;exact bC (jl [0]);exact bD (jl [0]);exact RU;unfold ae f301;try unfold sD
 exact zq2
def sE (b:ah)(a:ar4):Bool:=letI c:=(((a.arM==0)&&(a.bl==0))&&(a.every==0))&&(a.length==0);(bif((((!(aQ a.dd 0 (i64.wrap ((b.zs.length:Int) - 1)))) ||(!(aQ a.reach 0 (i64.wrap ((b.reaches.length:Int) - 1))))) ||(!(aQ a.since 0 a.to))) ||(decide (a.to>=b.hours)))then false else(bif(a.kind==1)then(((((a.reach==0)&&(aQ a.arM 0 1048576))&&(aQ a.bl 1 1073741824))&&(aQ a.length 1 a.every))&&(decide (a.every<=b.hours)))else(bif(a.kind==2)then((c&&(a.since==0))&&(a.to==(i64.wrap (b.hours - 1))))else(bif(a.kind==3)then c else false))))
@[go_sem] def Jt:m0:=(pD .al λa=>(pD .right λb=>(pE (.det True (.v (.bool (sE a b)))))))
theorem Hm:X1 prog 302 Jt:=by
 have hG:=mG (cp lZ Y1) Y1;refine fN hG f302 [.o] (ax λa0=>(ax λa1=>(am (λE=>?_))));dsimp only[an]at E;refine⟨nbl rfl,L0,ag _,?_⟩;unfold ae f302;try unfold sE
 exact zq2
@[go_sem] def nv (a:ah)(b:Nat)(c:Unit):Unit⊕Unit:=(bif(!(sE a (a.bh.getD b default)))then .inl ()else .inr ())
@[go_sem] def ny (a:ah)(c:Nat)(d:Unit):Unit⊕Unit:=letI b:=a.arL.getD c default;(bif(((!(aQ (b.dd) 0 (i64.wrap ((a.zs.length:Int) - 1)))) ||(!(aQ (b.reach) 0 (i64.wrap ((a.reaches.length:Int) - 1))))) ||(!(aQ (b.due) 0 a.hours)))then .inl ()else .inr ())
def pz (a:ah):Bool:=(bif(((!(aQ a.hours 1 4096)) ||(!(aQ a.arJ.start 0 a.arJ.cap))) ||(decide (a.arJ.cap > 1099511627776)))then false else(bif((!(oJ a.reaches)) ||(!(sD a)))then false else(match aj (nv a) a.bh.length 0 ()with| .inl b=>false| .inr c=>(match aj (ny a) a.arL.length 0 ()with| .inl d=>false| .inr e=>true))))
def rP (a:ah):Prop:=((((!(aQ a.hours 1 4096)) ||(!(aQ a.arJ.start 0 a.arJ.cap))) ||(decide (a.arJ.cap > 1099511627776)))=false->(sZ a.reaches))
@[go_sem] def Ju:m0:=(pD .al λa=>(pE (.det (rP a) (.v (.bool (pz a))))))
theorem Hn:X1 prog 252 Ju:=by
 have hG:=mG (cp lZ (cn [.sl .reach] Dv (cn [.st .al] Hl (cn [.st .al,.st .right] Hm Y1)))) Y1;refine fN hG f252 [.o] (ax λa0=>(am (λhp=>?_)));dsimp only[an]at hp;unfold rP at hp;refine⟨nbl rfl,(λid st=>bif Nat.beq id 0 then some (LCR (ρ:=Unit) (σ:=Unit) 1 [] [0] (λV E=>⟨[(1,.ptr 0 0),(3,.i V)],[.cells (cellsOf .al a0)]⟩) (nv a0) pT a0.bh.length () (True) (λ_=>.ret) (λX=>⟨[(2,.v (.bool false))],[.dead]⟩) st)else bif Nat.beq id 2 then some (LCR (ρ:=Unit) (σ:=Unit) 1 [] [0] (λW O=>⟨[(1,.ptr 0 0),(4,.i W)],[.cells (cellsOf .al a0)]⟩) (ny a0) pT a0.arL.length () (True) (λ_=>.ret) (λY=>⟨[(2,.v (.bool false))],[.dead]⟩) st)else none),?_,?_⟩;unfold ae f252;simp only[ak,true_and,and_true];refine⟨?_,?_⟩;refine fj (a0.bh.length<=aI) mixed aB hG kr (λ_=>rfl) (a0.bh.length:Int) rfl fO (λhb0 V E asO _ hw hc=>⟨L0,ag _,?_⟩) (λhb0 E hc=>?_) λhb0 V E=>?_;exact bC (jl [0]);exact bD (jl [0]);exact zq8;refine fj (a0.arL.length<=aI) mixed aB hG kr (λ_=>rfl) (a0.arL.length:Int) rfl fO (λhb1 W O as6 _ hw hc=>⟨L0,ag _,?_⟩) (λhb1 O hc=>?_) λhb1 W O=>?_;exact bC (jl [0]);exact bD (jl [0]);exact RU;unfold ae f252;try unfold pz
 exact zq2
def nz (d:ah):Int:=(bif(((((decide ((d.reaches.length:Int) > 64)) ||(decide ((d.zs.length:Int) > 600))) ||(decide ((d.arU.length:Int) > 32))) ||(decide ((d.bh.length:Int) > 256))) ||(decide ((d.arL.length:Int) > 256)))then 2 else(bif(!(pz d))then 191 else 0))
def rQ (d:ah):Prop:=(d.reaches.length<=aI->((((((decide ((d.reaches.length:Int) > 64)) ||(decide ((d.zs.length:Int) > 600))) ||(decide ((d.arU.length:Int) > 32))) ||(decide ((d.bh.length:Int) > 256))) ||(decide ((d.arL.length:Int) > 256)))=false->(rP d)))
@[go_sem] def Jv:m0:=(pD .al λd=>(pE (.det (rQ d) (.i (nz d)))))
theorem Ho:X1 prog 182 Jv:=by
 have hG:=mG (cn [.st .al] Hn Y1) Y1;refine fN hG f182 [.o] (ax λd=>(am (λE=>?_)));dsimp only[an]at E;unfold rQ at E;refine⟨nbl rfl,L0,ag _,?_⟩;unfold ae f182;try unfold nz
 exact zq2
@[go_sem] def Au (a:List Int)(b:Nat)(c:Unit):Int⊕Unit:=(bif((a.getD b 0) !=0)then .inl (a.getD b 0)else .inr ())
def kQ (a:List Int):Int:=(match aj (Au a) a.length 0 ()with| .inl b=>b| .inr c=>0)
@[go_sem] def My:m0:=(pR .int λa=>(pE (.det True (.i (kQ a)))))
theorem Av:X1 prog 81 My:=by
 have hG:=mG Y1 Y1;refine fN hG f81 [.o] (bG λdO=>(am (λX=>?_)));dsimp only[an]at X;refine⟨nbl rfl,(λid st=>bif Nat.beq id 0 then some (LCR (ρ:=Int) (σ:=Unit) 0 [] [] (λO V=>⟨[(3,.i 0),(6,.rs .int dO),(7,.i (dO.length:Int)),(8,.i O)],[]⟩) (Au dO) pT dO.length () (dO.length<=aI) (λ_=>.ret) (λE=>⟨[(2,.i E)],[]⟩) st)else none),?_,?_⟩;unfold ae f81;simp only[ak,true_and,and_true];refine bu mixed aB hG kr (λ_=>rfl) (dO.length:Int) rfl fO (λhb0 O V W _ hw hc=>⟨L0,ag _,?_⟩) (λhb0 V hc=>?_);exact bC (jl []);exact bD (jl []);unfold ae f81;try unfold kQ
 exact zq2
def dm (x y:arI):Int:=(kQ ([(bv x.right y.right),(bv x.dd y.dd)]))
@[go_sem] def xU:m0:=(pD .holding λx=>(pD .holding λy=>(pE (.det True (.i (dm x y))))))
theorem Dw:X1 prog 232 xU:=by
 have hG:=mG (cn [.sl .int] Av (cp fA Y1)) Y1;refine fN hG f232 [.o] (ax λx=>(ax λy=>(am (λE=>?_))));dsimp only[an]at E;refine⟨nbl rfl,L0,ag _,?_⟩;unfold ae f232;try unfold dm
 exact zq2
theorem kD (x y:Int):bv x y=if x<y then -1 else if x > y then 1 else 0:=by
 unfold bv mj;simp[aoR]
theorem RV (x:Int)(l:List Int):kQ (x::l)=if x=0 then kQ l else x:=by
 have key:∀ l:List Int,kQ l=match cG (ρ:=Int) (λ(x:Int) (_:Unit) =>bif(x !=0)then .inl x else .inr ()) l ()with| .inl y=>y| .inr _=>0:=λl=>by
  unfold kQ;have:=tD (ρ:=Int) (λ(x:Int) (_:Unit) =>bif(x !=0)then .inl x else .inr ()) 0 l ();rw[<-this];rfl
 rw[key,key];simp only[cG];by_cases h:x=0
 subst h;rfl;have:(x !=0)=true:=by simpa using h
 rw[if_neg h,this];rfl
def U_:kQ []=0:=rfl
def pO:List (Int×Int)->Prop
 | [] =>False|(a,b)::r=>a<b\/a=b/\pO r
theorem Dx:∀ l:List (Int×Int),(kQ (l.map λp=>bv p.1 p.2) <0↔pO l)
 | [] =>by simp[U_,pO]
 |(a,b)::r=>by
  have hc:=kD a b;simp only[aoO,RV,hc,pO];rcases aqQ a b with h|h|h;simp[h];subst h;simp only[arj,if_false,if_true,true_and,false_or,gt_iff_lt];exact Dx r;have h1:¬a<b:=g5
  have h2:a≠b:=g5
  simp[h1,h2,h]
def hlt (a b:arI):Prop:=pO [(a.right,b.right),(a.dd,b.dd)]
def Hq (a b:arI):dm a b<0↔hlt a b:=Dx [(a.right,b.right),(a.dd,b.dd)]
open Go.Shelf Go.Sort in
theorem Mz {α:Type}{f:α->α->Int}{r:α->α->Prop}(e:∀ x y,f x y<0↔r x y)(h1:∀ x,¬r x x)(h2:∀ x y z,r x y->r y z->r x z)(V:∀ x y z,¬r x y->¬r y z->¬r x z):SWO (ltOf f):=by
 have E:∀ x y,ltOf f x y=true↔r x y:=λx y=>by unfold ltOf;rw[decide_eq_true_eq,e]
 have O:∀ x y,ltOf f x y=false↔¬r x y:=λx y=>by rw[<-E];simp
 exact⟨λx=>(O x x).2 (h1 x),λx y z a b=>(E x z).2 (h2 x y z ((E x y).1 a) ((E y z).1 b)),λx y z a b=>(O x z).2 (V x y z ((O x y).1 a) ((O y z).1 b))⟩
open Go.Shelf Go.Sort in
theorem Eo:SWO (ltOf dm):=Mz Hq (λx=>by simp only[hlt,pO,and_false,or_false];omega) (λx y z h1 h2=>by simp only[hlt,pO,and_false,or_false]at *;omega) (λx y z h1 h2=>by simp only[hlt,pO,and_false,or_false]at *;omega)
variable {n:Nat}
theorem n9{i:Nat}{step:Nat->Unit->Unit⊕Unit}{s:Unit}(h:aj step n i s=.inr s):∀ j,i<=j->j<i+n->step j ()=.inr ():=by
 induction n generalizing i with
 |zero=>omega
 |succ n E=>
  grind [aj]
theorem jt {b:Bool}{e:Int}:dS b e=b:=by
 cases b <;>rfl
variable {c:Int}
theorem xm{a b:Int}(h:aP [a,b,c]=true):a<=b/\b<=c:=by
 unfold aP at h;simp only[aon,aoI,aou,Nat.reduceAdd,Nat.reduceSub]at h;split at h
 cases h;rename_i s E;have O:=n9 E 0 g5 g5;have h1:=n9 E 1 g5 g5;grind [cO,IntKind.wrap,IntKind.bits,IntKind.signed]
theorem rR{a b d:Int}(h:aP [a,b,c,d]=true):a<=b/\b<=c/\c<=d:=by
 unfold aP at h;simp only[aon,aoI,aou,Nat.reduceAdd,Nat.reduceSub]at h;split at h
 cases h;rename_i s E;have O:=n9 E 0 g5 g5;have h1:=n9 E 1 g5 g5;have h2:=n9 E 2 g5 g5;simp[cO,IntKind.wrap,IntKind.bits,IntKind.signed]at O h1 h2;grind
structure arW (d:ah):Prop where
 reaches:d.reaches.length<=64
 one:0<d.reaches.length
 zs:d.zs.length<=600
 bh:d.bh.length<=256
 ar9:1<=d.hours
 hours:d.hours<=4096
 avc:0<=d.arJ.start
 start:d.arJ.start<=d.arJ.cap
 cap:d.arJ.cap<=1099511627776
 reach:∀ k,k<d.reaches.length->cH (k:Int) (d.reaches.getD k default)=true
 dd:∀ k,k<d.zs.length->0<=(d.zs.getD k default).reach/\(d.zs.getD k default).reach< (d.reaches.length:Int)
theorem kE {d:ah}(h:(av d !=0)=false):arW d:=by
 have h:av d=0:=by simpa using h
 unfold av at h;simp only[jt]at h;cases h1:(decide ((d.reaches.length:Int)<=64)&&decide ((d.zs.length:Int)<=600)&&decide ((d.arU.length:Int)<=32)&&decide ((d.bh.length:Int)<=256)&&decide ((d.arL.length:Int)<=256))with
 |false=>grind
 |true=>
  rw[h1]at h;simp only[cond_true]at h;cases h2:gL d 191 with
  |false=>grind
  |true=>
   unfold gL at h2;simp only[jt]at h2;cases E:(aP [1,d.hours,4096]&&aP [0,d.arJ.start,d.arJ.cap,1099511627776]&&decide ((d.reaches.length:Int) > 0))with
   |false=>grind
   |true=>
    rw[E]at h2;simp only[cond_true]at h2;simp only[aoj,decide_eq_true_eq]at h1 E;obtain⟨W,r2⟩:=xm E.1.1;obtain⟨r3,r4,Y⟩:=rR E.1.2;split at h2
    cases h2;rename_i s0 V;split at h2
    cases h2;rename_i s1 X;split at h2
    cases h2;rename_i s2 O;refine⟨g5,g5,g5,g5,W,r2,r3,r4,Y,λk hk=>?_,λk hk=>?_⟩;have:=n9 V k g5 g5;grind [eH,jt]
    have:=n9 O k g5 g5;grind [eI,jt,cU]
theorem pA {k:Nat}(h:k<9223372036854775807)(h1:0<k):i64.wrap ((k:Int) - 1)=((k - 1:Nat):Int):=by
 grind [aw]
theorem KF {step:Nat->Unit->Unit⊕Unit}:∀ {n i:Nat},(∀ j,i<=j->j<i+n->step j ()=.inr ())->aj step n i ()=.inr ()
 |0,_,_=>rfl
 |n+1,i,h=>by
  simp only[aj];rw[h i g5 g5];exact KF λj h1 h2=>h j g5 g5
theorem iM{step:Nat->Unit->Unit⊕Unit}:aj step n 0 ()=.inr ()↔∀ j,j<n->step j ()=.inr ():=
 ⟨λh j E=>n9 h j g5 g5,λh=>KF λj _ h2=>h j g5⟩
variable {ρ:Type}
theorem AZ{i:Nat}{step:Nat->Unit->ρ⊕Unit}{s:Unit}(h:aj step n i s=.inr s):∀ j,i<=j->j<i+n->step j ()=.inr ():=by
 induction n generalizing i with
 |zero=>omega
 |succ n E=>
  grind [aj]
variable {α:Type}
theorem ik(l:List α)(d:α)(h:n<l.length):l.getD n d=l[n]:=by
 grind
theorem lE {k:Tag}(l:List (k.T×Int))(x z:k.T)(y:Int):aC k .int (dF k .int l x y) z=if z=x then y else aC k .int l z:=by
 grind [aC,dF,wy]
theorem afN{step:Nat->Unit->Unit⊕Unit}{a b:α}:(match aj step n 0 ()with| .inl _=>a| .inr _=>b)=b\/∃ y,aj step n 0 ()=.inl y:=by
 grind
variable {a:Int}
theorem Hr{b:Int}(h1:a<=b)(h2:b<=c):aP [a,b,c]=true:=by
 have e:aj (cO [a,b,c]) 2 0 ()=.inr ():=iM.2 λj E=>by
  rcases(by omega:j=0\/j=1)with rfl|rfl;simp[cO,IntKind.wrap,IntKind.bits,IntKind.signed,aoR];omega;simp[cO,IntKind.wrap,IntKind.bits,IntKind.signed,aoR];omega
 simp_all [aP]
theorem Hs{b d:Int}(h1:a<=b)(h2:b<=c)(E:c<=d):aP [a,b,c,d]=true:=by
 have e:aj (cO [a,b,c,d]) 3 0 ()=.inr ():=iM.2 λj O=>by
  rcases(by omega:j=0\/j=1\/j=2)with rfl|rfl|rfl;simp[cO,IntKind.wrap,IntKind.bits,IntKind.signed,aoR];omega;simp[cO,IntKind.wrap,IntKind.bits,IntKind.signed,aoR];omega;simp[cO,IntKind.wrap,IntKind.bits,IntKind.signed,aoR];omega
 simp_all [aP]
theorem sF (d:ah):av d=0↔(d.reaches.length<=64/\d.zs.length<=600/\d.arU.length<=32/\d.bh.length<=256/\d.arL.length<=256)/\(1<=d.hours/\d.hours<=4096)/\(0<=d.arJ.start/\d.arJ.start<=d.arJ.cap/\d.arJ.cap<=1099511627776)/\0<d.reaches.length/\
  (∀ k,k<d.reaches.length->eH d 191 k ()=.inr ())/\(∀ k,k<d.arU.length->fl d 191 k ()=.inr ())/\(∀ k,k<d.zs.length->eI d 191 k ()=.inr ())/\(∀ k,k<d.bh.length->eJ d 191 k ()=.inr ())/\(∀ k,k<d.arL.length->fY d 191 k ()=.inr ()):=by
 have W:gL d 191=true↔(1<=d.hours/\d.hours<=4096)/\(0<=d.arJ.start/\d.arJ.start<=d.arJ.cap/\d.arJ.cap<=1099511627776)/\0<d.reaches.length/\
  (∀ k,k<d.reaches.length->eH d 191 k ()=.inr ())/\(∀ k,k<d.arU.length->fl d 191 k ()=.inr ())/\(∀ k,k<d.zs.length->eI d 191 k ()=.inr ())/\(∀ k,k<d.bh.length->eJ d 191 k ()=.inr ())/\(∀ k,k<d.arL.length->fY d 191 k ()=.inr ()):=by
  unfold gL;simp only[jt];cases E:(aP [1,d.hours,4096]&&aP [0,d.arJ.start,d.arJ.cap,1099511627776]&&decide ((d.reaches.length:Int) > 0))with
  |false=>
   simp_all [Hr,Hs]
  |true=>
   simp only[aoj,decide_eq_true_eq]at E;have V:=xm E.1.1;have X:=rR E.1.2;have O:=E.2;simp only[cond_true];grind [iM]
 unfold av;simp only[jt];grind
theorem Pd:∀ (f n d:Nat),1<=d->d<=f->1<=n->∀ x,(Dc f n d).getLastD x=Nat.gcd n d
 |0,n,d,h1,h2,_,x=>g5
 |f+1,n,d,h1,h2,h3,x=>by
  unfold Dc;have O:max d 1=d:=g5
  rw[if_neg g5,O];by_cases E:n % d=0
  rw[if_pos E];have:d ∣ n:=Nat.dvd_of_mod_eq_zero E;grind [Nat.gcd_eq_right]
  rw[if_neg E];have hlt:n % d<d:=aqq _ g5;have V:=Pd f d (n % d) g5 g5 g5 n;grind [Nat.gcd_comm,Nat.gcd_rec]
theorem Ht{d:Nat}(h:1<=d):OM n d=Nat.gcd n d:=by
 unfold OM;rw[if_neg g5];by_cases E:n=0
 subst E;cases d with
 |zero=>omega|succ d=>simp[Dc]
 exact Pd d n d h (aom _) g5 d
theorem MA (O:Int):∀ (n i:Nat) (a b:Int),0<=a->0<=b->b.toNat<n->aj (jJ O) n i (a,b)=.inl ((Nat.gcd a.toNat b.toNat:Nat):Int)
 |0,_,_,_,_,_,h=>g5
 |n+1,i,a,b,ha,hb,h=>by
  simp only[aj,jJ];by_cases E:b > 0
  rw[decide_eq_true E];simp only[cond_true];have V:=apP (b:=b) ha;have W:=aqm a (by omega:b≠0);have X:=ap6 a E;rw[V,MA O n (i+1) b (a % b) hb W g5];have Y:(a % b).toNat=a.toNat % b.toNat:=by
   grind
  grind [Nat.gcd_comm,Nat.gcd_rec]
  rw[decide_eq_false E];have:b=0:=g5
  subst this;grind
theorem Ep{b:Int}(O:0<=a)(E:0<=b):oH a b=((Nat.gcd a.toNat b.toNat:Nat):Int):=by
 grind [oH,MA]
theorem Va{b:Int}(O:0<=a)(E:0<=b):o8 a b:=by
 refine⟨iA _ _ _ λj s _ _ h=>?_,λz h=>?_⟩;grind
 grind [MA]
variable {n:Int}
theorem TF(E:0<=n)(h1:n<18446744073709551616):u64.wrap n=n:=by
 grind [IntKind.wrap,IntKind.bits,IntKind.signed]
theorem Jw(E: -1073741824<=n)(h1:n<=1073741824):dE n=(n.natAbs:Int):=by
 unfold dE;by_cases h:n<0
 rw[decide_eq_true h];simp only[cond_true,IntKind.wrap,IntKind.bits,IntKind.signed];grind
 rw[decide_eq_false h];simp only[cond_false];grind [TF]
theorem Hu(E: -1073741824<=n)(h1:n<=1073741824):rk n=(n.natAbs:Int):=by
 unfold rk;by_cases h:n<0
 rw[decide_eq_true h];simp only[cond_true];grind [aw]
 grind
structure ar5 (a:api):Prop where
 d1:1<=a.d
 d:a.d<=1073741824
 n0: -1073741824<=a.n
 n:a.n<=1073741824
 gcd:Nat.gcd a.n.natAbs a.d.toNat=1
theorem iw (a:api):aY a=0↔ar5 a:=by
 unfold aY;cases h:((((decide (a.d<1)) ||(decide (a.d > 1073741824))) ||(decide (a.n< (-1073741824)))) ||(decide (a.n > 1073741824)))with
 |true=>
  simp only[aq3,cond_true];simp only[aoN,decide_eq_true_eq]at h;refine⟨λe=>(by cases e),λr=>?_⟩;have:=r.d1;have:=r.d;have:=r.n0;have:=r.n;omega
 |false=>
  simp only[aoY,decide_eq_false_iff_not]at h;rw[Jw g5 g5,TF g5 g5,aol,Ht g5];simp only[apV];by_cases E:Nat.gcd a.n.natAbs a.d.toNat=1
  rw[E];exact⟨λ_=>⟨g5,g5,g5,g5,E⟩,λ_=>rfl⟩;have:((Nat.gcd a.n.natAbs a.d.toNat:Nat):Int)≠1:=g5
  rw[bne_iff_ne.2 this];exact⟨λe=>(by cases e),λr=>absurd r.gcd E⟩
theorem t7 (a:api):eY a=true↔ar5 a:=by
 unfold eY;constructor
 intro h;simp only[aoj,decide_eq_true_eq,beq_iff_eq]at h;obtain⟨⟨⟨⟨h1,h2⟩,O⟩,V⟩,E⟩:=h;rw[Hu g5 g5,Ep g5 g5,aol]at E;exact⟨h1,h2,O,V,g5⟩;intro r;have:=r.d1;have:=r.d;have:=r.n0;have:=r.n;simp only[aoj,decide_eq_true_eq,beq_iff_eq];rw[Hu g5 g5,Ep g5 g5,aol,r.gcd];omega
theorem Yq (a:api):aY a=0\/aY a=120:=by
 unfold aY;grind
theorem Pe (a:api):aY a=kB a:=by
 unfold kB;cases h:eY a with
 |true=>exact(iw a).2 ((t7 a).1 h)
 |false=>
  have:aY a≠0:=λe=>by
   have:=(t7 a).2 ((iw a).1 e);grind
  have:=Yq a;grind
theorem y3 (a:api):eY a=(aY a==0):=by
 grind [iw,t7]
theorem afO (a b:api):iU a b=rl a b:=by
 unfold iU rl lO uE;rw[y3,y3,kD];grind
theorem zG (a:api):jI a:=λh=>by
 simp only[aoj,decide_eq_true_eq]at h;rw[Hu g5 g5];exact Va g5 g5
def RW (a b:api):qo a b:=⟨zG a,λ_=>zG b⟩
theorem t8 (a b c:Int):aP [a,b,c]=(decide (a<=b)&&decide (b<=c)):=by
 cases h:aP [a,b,c]with
 |true=>have:=xm h;grind
 |false=>
  grind [Hr]
theorem wB (a b c d:Int):aP [a,b,c,d]=(decide (a<=b)&&decide (b<=c)&&decide (c<=d)):=by
 cases h:aP [a,b,c,d]with
 |true=>have:=rR h;grind
 |false=>
  grind [Hs]
theorem avh {a b:Bool}(h:a=true↔b=true):a=b:=g6
theorem Yr (x:api×api):ky x=kC x:=by
 unfold ky kC;rw[afO,<-Pe,<-Pe];unfold rl lO;rw[y3,y3];grind
theorem RX (i:Int)(x:Reach):cH i x=true↔((i > 0/\0<=x.up/\x.up<i)\/(¬i > 0/\x.up= -1))/\(1<=x.delay/\x.delay<=16)/\(0<=x.arR/\x.arR<=x.cap/\x.cap<=1073741824)/\(x.arR<=x.ar6/\x.ar6<=1099511627776)/\(0<=x.asu.lo/\x.asu.lo<=x.asu.hi/\x.asu.hi<=1073741824)/\kC x.ar3=true:=by
 unfold cH cU;rw[Yr,t8,wB,wB,wB];grind
theorem afP (x:Reach):sC x=true↔(1<=x.delay/\x.delay<=16)/\(0<=x.arR/\x.arR<=x.cap/\x.cap<=1073741824)/\(x.arR<=x.ar6/\x.ar6<=1099511627776)/\(0<=x.asu.lo/\x.asu.lo<=x.asu.hi/\x.asu.hi<=1073741824)/\kC x.ar3=true:=by
 unfold sC aQ;grind
theorem Hv (l:List Reach)(k:Nat)(O:k<4096):jK l k ()=.inr ()↔cH (k:Int) (l.getD k default)=true:=by
 unfold jK aQ;rw[RX];have E:∀ A B:Bool,((bif A then Sum.inl ()else bif B then Sum.inl ()else Sum.inr ()):Unit⊕Unit)=.inr ()↔A=false/\B=false:=λA B=>g6
 rw[E,apC,afP];generalize l.getD k default=x;generalize kC x.ar3=q;by_cases h:0<k
 rw[pA g5 h];grind
 grind
theorem Vb {n:Nat}(h:n<=4096):i64.wrap ((n:Int) - 1)=(n:Int) - 1:=aw g5 g5
theorem abC (x:ByteArray):(x==x)=true:=by
 cases x with
 |mk d=>
  show(d==d)=true;simp
theorem Ys (d:ah)(x:ar4)(h1:d.zs.length<=600)(h2:d.reaches.length<=64)(E:1<=d.hours)(O:d.hours<=4096):jA d x=sE d x:=by
 unfold jA sE cU aQ;rw[wB,t8,t8,wB,Vb g5,Vb g5,aw (by omega: -9223372036854775808<=d.hours - 1) g5];rw[abC];grind
theorem ux (A:Bool):((bif A then Sum.inr ()else Sum.inl ()):Unit⊕Unit)=.inr ()↔A=true:=g6
theorem uy (A:Bool):((bif A then Sum.inl ()else Sum.inr ()):Unit⊕Unit)=.inr ()↔A=false:=g6
theorem KG (d:ah)(k:Nat):nt d k ()=.inr ()↔fl d 191 k ()=.inr ():=by
 unfold nt fl aQ;simp_all [jt,uy,ux,t8]
theorem KH (d:ah)(k:Nat)(h1:d.reaches.length<=64)(h2:d.arU.length<=32):nu d k ()=.inr ()↔eI d 191 k ()=.inr ():=by
 unfold nu eI aQ cU;simp only[jt];rw[t8,Vb g5,Vb g5];grind
theorem KI (d:ah)(k:Nat)(h1:d.reaches.length<=64)(h2:d.zs.length<=600):ny d k ()=.inr ()↔fY d 191 k ()=.inr ():=by
 unfold ny fY aQ cU;simp only[jt];rw[t8,Vb g5,Vb g5,ux,uy];grind
theorem Er (d:ah)(k:Nat)(h1:d.zs.length<=600)(h2:d.reaches.length<=64)(E:1<=d.hours)(O:d.hours<=4096):nv d k ()=.inr ()↔eJ d 191 k ()=.inr ():=by
 simp_all [nv,eJ,jt,Ys]
theorem m1 {r:Unit⊕Unit}{a b:Bool}:(match r with| .inl _=>a| .inr _=>b)=true↔(r=.inr ()/\b=true)\/((∃ y,r=.inl y)/\a=true):=by
 grind
theorem Pf (d:ah)(h1:d.reaches.length<=64)(h2:d.zs.length<=600)(h3:d.arU.length<=32):pz d=true↔(1<=d.hours/\d.hours<=4096)/\(0<=d.arJ.start/\d.arJ.start<=d.arJ.cap/\d.arJ.cap<=1099511627776)/\0<d.reaches.length/\
  (∀ k,k<d.reaches.length->eH d 191 k ()=.inr ())/\(∀ k,k<d.arU.length->fl d 191 k ()=.inr ())/\(∀ k,k<d.zs.length->eI d 191 k ()=.inr ())/\(∀ k,k<d.bh.length->eJ d 191 k ()=.inr ())/\(∀ k,k<d.arL.length->fY d 191 k ()=.inr ()):=by
 have hR:oJ d.reaches=true↔(∀ k,k<d.reaches.length->eH d 191 k ()=.inr ())/\0<d.reaches.length:=by
  unfold oJ;refine arh (m1 (r:=aj (jK d.reaches) d.reaches.length 0 ()) (a:=false) (b:=decide ((d.reaches.length:Int) > 0))) ?_;simp only[aot,and_false,or_false,decide_eq_true_eq];rw[iM];refine and_congr ⟨λh k E=>?_,λh k E=>?_⟩ g5;unfold eH;rw[jt,ux];exact(Hv _ k g5).1 (h k E);have:=h k E;unfold eH at this;rw[jt,ux]at this;exact(Hv _ k g5).2 this
 have hF:sD d=true↔(∀ k,k<d.arU.length->fl d 191 k ()=.inr ())/\(∀ k,k<d.zs.length->eI d 191 k ()=.inr ()):=by
  unfold sD;refine arh (m1 (r:=aj (nt d) d.arU.length 0 ()) (a:=false) (b:=match aj (nu d) d.zs.length 0 ()with| .inl _=>false| .inr _=>true)) ?_;simp only[aot,and_false,or_false];rw[iM];refine arh (and_congr_right λ_=>m1) ?_;simp only[aot,and_false,or_false,and_true];rw[iM];exact and_congr ⟨λh k E=>(KG d k).1 (h k E),λh k E=>(KG d k).2 (h k E)⟩ ⟨λh k E=>(KH d k h1 h3).1 (h k E),λh k E=>(KH d k h1 h3).2 (h k E)⟩
 unfold pz;have hb:∀ A B q:Bool,(bif A then false else bif B then false else q)=true↔A=false/\B=false/\q=true:=λA B q=>g6
 rw[hb];refine arh (and_congr_right λ_=>and_congr_right λ_=>arh (m1 (r:=aj (nv d) d.bh.length 0 ()) (a:=false) (b:=match aj (ny d) d.arL.length 0 ()with| .inl _=>false| .inr _=>true)) (or_congr_left (and_congr_right λ_=>m1))) ?_;simp only[aot,and_false,or_false,and_true];rw[iM,iM];simp only[aoY,apC,hR,hF,aQ,aoj,decide_eq_true_eq,decide_eq_false_iff_not];constructor
 rintro⟨⟨⟨a1,a2⟩,a3⟩,⟨⟨X,W⟩,V,O⟩,Y,b6⟩;refine⟨g5,g5,W,X,V,O,λk E=>(Er d k h2 h1 g5 g5).1 (Y k E),λk E=>(KI d k h1 h2).1 (b6 k E)⟩;rintro⟨a1,a2,a3,X,W,V,O,Y⟩;refine⟨⟨⟨g5,g5⟩,g5⟩,⟨⟨X,a3⟩,W,V⟩,λk E=>(Er d k h2 h1 g5 g5).2 (O k E),λk E=>(KI d k h1 h2).2 (Y k E)⟩
theorem Yt (d:ah):av d=nz d:=by
 have W:=sF d;unfold nz;by_cases E:d.reaches.length<=64/\d.zs.length<=600/\d.arU.length<=32/\d.bh.length<=256/\d.arL.length<=256
 have O:(((((decide ((d.reaches.length:Int) > 64)) ||(decide ((d.zs.length:Int) > 600))) ||(decide ((d.arU.length:Int) > 32))) ||(decide ((d.bh.length:Int) > 256))) ||(decide ((d.arL.length:Int) > 256)))=false:=by
  grind
 rw[O];simp only[cond_false];have X:=Pf d E.1 E.2.1 E.2.2.1;cases h:pz d with
 |true=>grind
 |false=>
  have V:av d≠0:=λe=>by
   grind
  unfold av at V |-;simp only[jt]at V |-;grind
 have O:(((((decide ((d.reaches.length:Int) > 64)) ||(decide ((d.zs.length:Int) > 600))) ||(decide ((d.arU.length:Int) > 32))) ||(decide ((d.bh.length:Int) > 256))) ||(decide ((d.arL.length:Int) > 256)))=true:=by
  grind
 grind [av,jt]
def Yu (x:api×api):qq x:=⟨zG _,λ_=>zG _,λ_=>RW _ _⟩
def abD (x:Reach):rO x:=λ_ _=>Yu _
def Vc (d:ah):rP d:=λ_=>iA _ _ _ λ_ _ _ _ _ _=>abD _
def Vd (d:ah):rQ d:=λ_ _=>Vc d
theorem rS(E: -4611686018427387904<=n)(h1:n<=4611686018427387904):dE n=(n.natAbs:Int):=by
 unfold dE;by_cases h:n<0
 rw[decide_eq_true h];simp only[cond_true,IntKind.wrap,IntKind.bits,IntKind.signed];grind
 rw[decide_eq_false h];simp only[cond_false];grind [TF]
def mkR (n d:Int):api×Int:=
 if d=0 then({ n:=0,d:=0},120)else
 if 1073741824<n.natAbs / Nat.gcd n.natAbs d.natAbs\/1073741824<d.natAbs / Nat.gcd n.natAbs d.natAbs then({ n:=0,d:=0},2)else
 ({ n:=if(decide (n<0)) !=(decide (d<0))then -((n.natAbs / Nat.gcd n.natAbs d.natAbs:Nat):Int)else((n.natAbs / Nat.gcd n.natAbs d.natAbs:Nat):Int),d:=((d.natAbs / Nat.gcd n.natAbs d.natAbs:Nat):Int)},0)
variable {d:Int}
theorem abE(O: -4611686018427387904<=n)(h1:n<=4611686018427387904)(h2: -4611686018427387904<=d)(E:d<=4611686018427387904):pd n d=mkR n d:=by
 unfold pd mkR;by_cases hd:d=0
 subst hd;rfl;have e:(d==0)=false:=g6
 rw[e,cond_false,if_neg hd,rS O h1,rS h2 E,aol,aol,Ht g5];have W:0<Nat.gcd n.natAbs d.natAbs:=aqR _ g5;have V:Int.tdiv (n.natAbs:Int) ((Nat.gcd n.natAbs d.natAbs:Nat):Int)=((n.natAbs / Nat.gcd n.natAbs d.natAbs:Nat):Int):=by rfl
 have t2:Int.tdiv (d.natAbs:Int) ((Nat.gcd n.natAbs d.natAbs:Nat):Int)=((d.natAbs / Nat.gcd n.natAbs d.natAbs:Nat):Int):=by rfl
 have l1:n.natAbs / Nat.gcd n.natAbs d.natAbs<=n.natAbs:=aqH _ _;have X:d.natAbs / Nat.gcd n.natAbs d.natAbs<=d.natAbs:=aqH _ _;grind [TF,aw]
theorem afQ (n d:Int)(O: -4611686018427387904<=n)(h1:n<=4611686018427387904)(h2: -4611686018427387904<=d)(E:d<=4611686018427387904):tG n d:=λhd=>by
 have hd:d≠0:=g6
 rw[rS O h1,rS h2 E,aol,aol,Ht g5];simp_all
def rv (a:api):Rat:=(a.n:Rat) / (a.d:Rat)
def Pg {a b:Nat}(E:0<b):a / Nat.gcd a b*Nat.gcd a b=a/\b / Nat.gcd a b*Nat.gcd a b=b/\Nat.gcd (a / Nat.gcd a b) (b / Nat.gcd a b)=1:=
 ⟨arn (Nat.gcd_dvd_left _ _),arn (Nat.gcd_dvd_right _ _),Nat.gcd_div_gcd_div_gcd_of_pos_right E⟩
theorem sG(h:d≠0):(d:Rat)≠0:=λe=>h (by simp_all)
theorem afR(hd:1<=d){r:api}(h:mkR n d=(r,0)):ar5 r/\rv r*(d:Rat)=(n:Rat):=by
 unfold mkR at h;rw[if_neg g5]at h;split at h
 simp at h;rename_i hb;obtain⟨rfl,-⟩:=Prod.mk.inj h;obtain⟨V,g2,g3⟩:=Pg (a:=n.natAbs) (b:=d.natAbs) g5;have E:¬d<0:=g5
 have hx:(if(decide (n<0)) !=(decide (d<0))then -((n.natAbs / Nat.gcd n.natAbs d.natAbs:Nat):Int)else((n.natAbs / Nat.gcd n.natAbs d.natAbs:Nat):Int))*((Nat.gcd n.natAbs d.natAbs:Nat):Int)=n:=by
  rw[decide_eq_false E];by_cases hn:n<0
  rw[decide_eq_true hn,if_pos (by rfl),Int.neg_mul,<-Int.natCast_mul,V];omega;rw[decide_eq_false hn,if_neg (by simp),<-Int.natCast_mul,V];omega
 have hxa:(if(decide (n<0)) !=(decide (d<0))then -((n.natAbs / Nat.gcd n.natAbs d.natAbs:Nat):Int)else((n.natAbs / Nat.gcd n.natAbs d.natAbs:Nat):Int)).natAbs=n.natAbs / Nat.gcd n.natAbs d.natAbs:=by
  grind
 have O:((d.natAbs / Nat.gcd n.natAbs d.natAbs:Nat):Int)*((Nat.gcd n.natAbs d.natAbs:Nat):Int)=d:=g5
 generalize hX:(if(decide (n<0)) !=(decide (d<0))then -((n.natAbs / Nat.gcd n.natAbs d.natAbs:Nat):Int)else((n.natAbs / Nat.gcd n.natAbs d.natAbs:Nat):Int))=X at *;have W:1<=d.natAbs / Nat.gcd n.natAbs d.natAbs:=by
  grind
 refine⟨⟨g6,g6,g6,g6,g6⟩,?_⟩;unfold rv;simp only;have Y:(d:Rat)=(((d.natAbs / Nat.gcd n.natAbs d.natAbs:Nat):Int):Rat)*(((Nat.gcd n.natAbs d.natAbs:Nat):Int):Rat):=by exact_mod_cast O.symm
 have e2:(n:Rat)=(X:Rat)*(((Nat.gcd n.natAbs d.natAbs:Nat):Int):Rat):=by exact_mod_cast hx.symm
 rw[Y,e2];have h1:(((d.natAbs / Nat.gcd n.natAbs d.natAbs:Nat):Int):Rat)≠0:=sG g5;grind
theorem E7{b:Int}(O: -1073741824<=a)(h1:a<=1073741824)(h2:1<=b)(E:b<=1073741824): -1152921504606846976<=a*b/\a*b<=1152921504606846976:=by
 have:(a*b).natAbs<=1073741824*1073741824:=by rw[ard];exact aqz g5 g5
 omega
theorem avg{b:Int}(E:1<=a)(h1:1<=b):1<=a*b:=Int.mul_pos g5 g5
variable {a:api}
theorem TG{b:api}(O:ar5 a)(E:ar5 b):iI a b=(a.n*b.d+b.n*a.d,a.d*b.d):=by
 have m1:=E7 O.n0 O.n E.d1 E.d;have V:=E7 E.n0 E.n O.d1 O.d;have h1:=O.d1;have h2:=O.d;have W:=E7 (a:=a.d) g5 h2 E.d1 E.d;grind [iI,aw]
theorem RY (a b:api):iV a b=if aY a=0/\aY b=0 then mkR (a.n*b.d+b.n*a.d) (a.d*b.d)else({ n:=0,d:=0},120):=by
 unfold iV iv;by_cases h:aY a=0/\aY b=0
 rw[if_pos h,h.1,h.2,TG ((iw a).1 h.1) ((iw b).1 h.2)];have O:=(iw a).1 h.1;have E:=(iw b).1 h.2;have m1:=E7 O.n0 O.n E.d1 E.d;have V:=E7 E.n0 E.n O.d1 O.d;have h1:=O.d1;have h2:=O.d;have W:=E7 (a:=a.d) g5 h2 E.d1 E.d;simp only[bne_self_eq_false,apW,cond_false];grind [abE]
 grind
theorem akD (a b:api):vB a b:=λh=>by
 simp only[aoY,bne_eq_false_iff_eq]at h;have O:=(iw a).1 h.1;have E:=(iw b).1 h.2;rw[TG O E];have m1:=E7 O.n0 O.n E.d1 E.d;have V:=E7 E.n0 E.n O.d1 O.d;have h1:=O.d1;have h2:=O.d;have W:=E7 (a:=a.d) g5 h2 E.d1 E.d;exact afQ _ _ g5 g5 g5 g5
theorem Yv{b:api}(O:ar5 a)(E:ar5 b):(rv a+rv b)*((a.d*b.d:Int):Rat)=((a.n*b.d+b.n*a.d:Int):Rat):=by
 have h1:=O.d1;have h2:=E.d1;have d1:(a.d:Rat)≠0:=sG g5;have V:(b.d:Rat)≠0:=sG g5;grind [rv]
theorem Yw{b r:api}(h:iV a b=(r,0)):ar5 a/\ar5 b/\ar5 r/\rv r=rv a+rv b:=by
 rw[RY]at h;split at h
 rename_i hc;have O:=(iw a).1 hc.1;have E:=(iw b).1 hc.2;have hd:=avg O.d1 E.d1;obtain⟨h1,h2⟩:=afR hd h;refine⟨O,E,h1,?_⟩;rw[<-Yv O E]at h2;have V:((a.d*b.d:Int):Rat)≠0:=sG g5;grind
 simp at h
theorem pC {kk E:Tag}(l:List (kk.T×E.T))(x z:kk.T)(y:E.T):aC kk E (dF kk E l x y) z=if z=x then y else aC kk E l z:=by
 grind [aC,dF,wy]
theorem Ve {kk E:Tag}(l:List (kk.T×E.T))(x z:kk.T)(y:E.T):yq kk E (dF kk E l x y) z=(decide (z=x) ||yq kk E l z):=by
 unfold yq dF;rw[wy];grind
variable {k:Nat}
theorem cw(l:List α)(d:α)(h:k<l.length):l.take (k+1)=l.take k++[l.getD k d]:=by
 simp_all
theorem k_{σ:Type}{step:Nat->σ->ρ⊕σ}(J:Nat->σ->Prop)(n i:Nat)(s:σ)(E:J i s)(h:∀ j s,i<=j->j<i+n->J j s->∃ s',step j s=.inr s'/\J (j+1) s'):∃ r,aj step n i s=.inr r/\J (i+n) r:=by
 induction n generalizing i s with
 |zero=>exact⟨s,rfl,E⟩
 |succ n O=>
  grind [aj]
theorem Ph {ρ σ:Type}{step:Nat->σ->ρ⊕σ}(S:Nat->σ)(n:Nat)(C:Nat->Prop)(hc:∀ k,k<n->(∀ j,j<k->C j)->(C k->step k (S k)=.inr (S (k+1)))/\(¬C k->∃ r,step k (S k)=.inl r)):
  ∀ m i,i+m=n->(∀ j,j<i->C j)->((∀ k,i<=k->k<n->C k)->aj step m i (S i)=.inr (S n))/\(¬ (∀ k,i<=k->k<n->C k)->∃ r,aj step m i (S i)=.inl r)
 |0,i,h,hi=>⟨λ_=>by rw[show i=n by omega];rfl,λhn=>absurd (λk h1 h2=>g5) hn⟩
 |m+1,i,h,hi=>by
  obtain⟨h1,h2⟩:=hc i g5 hi;by_cases O:C i
  have E:∀ j,j<i+1->C j:=λj X=>by
   grind
  obtain⟨W,V⟩:=Ph S n C hc m (i+1) g5 E;simp only[aj,h1 O];grind
  grind [aj]
theorem xn (n lo hi:Int):aU n lo hi=true↔lo<=n/\n<=hi:=by
 unfold aU;simp
theorem A0(n:Int)(h:k<=4096):aU n 0 (i64.wrap ((k:Int) - 1))=true↔0<=n/\n< (k:Int):=by
 grind [xn,aw]
def Dy:List Part->Rat
 | [] =>0|x::r=>rv x.share+Dy r
theorem Yx (a b:List Part):Dy (a++b)=Dy a+Dy b:=by
 induction a with
 |nil=>simp[Dy,Rat.zero_add]|cons x r E=>grind [Dy]
structure atQ (d:ah)(x:Part):Prop where
 f0:0<=x.dd
 f1:x.dd< (d.zs.length:Int)
 share:ar5 x.share
 pos:0<x.share.n
structure asT (d:ah)(l:List Part):Prop where
 avr:1<=l.length
 len:l.length<=16
 part:∀ x∈l,atQ d x
 apart:(l.map λx=>x.dd).Nodup
 sum:Dy l=1
variable {d:ah}
theorem Yy{l:List Part}(hf:d.zs.length<=600)(h:jS d l=true):asT d l:=by
 unfold jS at h;cases hr:aj (gM d l) l.length 0 (0,1,[])with
 |inl x=>grind
 |inr s=>
  rw[hr]at h;have hJ:=il (λk s=>rv { n:=s.1,d:=s.2.1} =Dy (l.take k)/\(∀ x∈l.take k,atQ d x)/\((l.take k).map λx=>x.dd).Nodup/\∀ f:Int,aC .int .bool s.2.2 f=decide (f∈(l.take k).map λx=>x.dd)) l.length 0 (0,1,([]:List (Int×Bool))) ⟨by show((0:Int):Rat) / ((1:Int):Rat)=0;grind,by simp,by simp,λf=>by rfl⟩ (λj s _ Y ⟨V,W,X,j4⟩ s' E=>by
   rw[aou]at Y;unfold gM at E;cases hc:(((!(aU ((l.getD j (default:Part)).dd) 0 (i64.wrap ((d.zs.length:Int) - 1)))) ||(aC .int .bool s.2.2 ((l.getD j (default:Part)).dd))) ||(decide ((l.getD j (default:Part)).share.n<=0)))with
   |true=>grind
   |false=>
    rw[hc]at E;simp only[aoY,apC,decide_eq_false_iff_not]at hc;obtain⟨⟨c1,c2⟩,c3⟩:=hc;rw[A0 _ g5]at c1;cases O:((iV ({ n:=s.1,d:=s.2.1}:api) ((l.getD j (default:Part)).share)).2 !=0)with
    |true=>grind
    |false=>
     rw[O]at E;simp only[cond_false,aoK]at E;subst E;have O:(iV ({ n:=s.1,d:=s.2.1}:api) ((l.getD j (default:Part)).share)).2=0:=g6
     obtain⟨a1,a2,a3,a4⟩:=Yw (r:=(iV ({ n:=s.1,d:=s.2.1}:api) ((l.getD j (default:Part)).share)).1) (by rw[<-O]);rw[cw l default Y];rw[j4,decide_eq_false_iff_not]at c2;refine⟨?_,λx hx=>?_,?_,λf=>?_⟩;rw[Yx,<-V];simp_all [Dy,Rat.add_zero];rcases aoQ.1 hx with hx|hx;exact W x hx;simp only[ao6]at hx;subst hx;exact⟨c1.1,c1.2,a2,g5⟩;grind
     rw[pC,apT];grind) s hr
  rw[aou,apD]at hJ;obtain⟨V,W,X,_⟩:=hJ;simp only[aoj,beq_iff_eq]at h;obtain⟨h1,h2,h3⟩:=h;rw[xn]at h1;refine⟨g5,g5,W,X,?_⟩;rw[<-V,h2,h3];show((1:Int):Rat) / ((1:Int):Rat)=1;grind
def abF (d:ah)(l:List Part):n8 d l:=λ_=>iA _ _ _ λj s _ _ _ _=>akD _ _
theorem afS (d:ah)(m:List (Int×bn))(x:bn):o7 d m x:=λ_ E hr=>⟨λh=>by
  grind [xn,aw,aI],λ_ _ _=>abF _ _⟩
theorem wC (d:ah)(l:List bn):ll d l:=λ_ _ _ E=>iA _ _ _ λj s _ O=>⟨λh=>by
  rw[decide_eq_true_eq]at h;grind [aw],λ_=>afS _ _ _⟩
def wD (l:List bn):List (Int×bn):=l.foldl (λm x=>dF .int .M1 m x.no x) []
theorem zH (l:List bn)(x:bn):wD (l++[x])=dF .int .M1 (wD l) x.no x:=by
 grind [wD]
def Asc (l:List bn):Prop:=l.Pairwise λx y=>x.no<y.no
def Chk (d:ah):List bn->List bn->Prop
 |_,[] =>True|b,x::r=>(∀ y∈b,y.no<x.no)/\dQ d (wD b) x=true/\Chk d (b++[x]) r
theorem Chk.asc:∀ {r b:List bn},Asc b->Chk d b r->Asc (b++r)
 | [],b,h,_=>by simpa using h
 |x::r,b,h,⟨h1,_,E⟩ =>by
  have:Asc (b++[x]):=aoG.2 ⟨h,ao1 _ _,λy hy z O=>g6⟩;simpa using Chk.asc this E
theorem rT (l:List bn):aS l=false↔∀ x∈l,x.parts.length<=16:=by
 unfold aS eP;have key:∀ l:List bn,(match cG (ρ:=Unit) (λ(x:bn) (_:Unit) =>bif fP x then .inl ()else .inr ()) l ()with| .inl _=>False| .inr _=>True)↔∀ x∈l,x.parts.length<=16:=λl=>by
  induction l with
  |nil=>simp[cG]
  |cons x r E=>
   simp only[cG];unfold fP at E |-;grind
 have X:∀ (n i:Nat),i+n=l.length->((∃ j,i<=j/\j<l.length/\fP (l.getD j default)=true)/\(∃ q:Nat,aj (c9 l) n i ()=.inl (q:Int)))\/((∀ j,i<=j->j<l.length->fP (l.getD j default)=false)/\aj (c9 l) n i ()=.inr ()):=λn=>by
  induction n with
  |zero=>exact λi h=>.inr ⟨λj h1 h2=>g5,rfl⟩
  |succ n E=>
   intro i h;simp only[aj,c9];grind
 rcases X l.length 0 (g5)with⟨⟨j,_,h2,V⟩,q,O⟩ | ⟨h1,h2⟩;rw[O];simp only[decide_eq_false_iff_not];refine⟨λh=>g5,λh=>?_⟩;have:=h (l.getD j default) g6;unfold fP at V;grind
 rw[h2];simp only;refine⟨λ_ x W=>?_,λ_=>by decide⟩;obtain⟨j,Y,rfl⟩:=ao0.1 W;grind [fP]
theorem Vf (d:ah)(l:List bn)(hl:l.length<=4096):(∀ k,k<l.length->((0<k->(l.getD (k - 1) default).no< (l.getD k default).no)/\dQ d (wD (l.take k)) (l.getD k default)=true))↔Chk d [] l:=by
 have key:∀ (r b:List bn),l=b++r->Asc b->((∀ k,b.length<=k->k<l.length->((0<k->(l.getD (k - 1) default).no< (l.getD k default).no)/\dQ d (wD (l.take k)) (l.getD k default)=true))↔Chk d b r):=λr=>by
  induction r with
  |nil=>exact λb h _=>⟨λ_=>trivial,λ_ k h1 h2=>g6⟩
  |cons x r Y=>
   intro b h W;have X:b.length<l.length:=by rw[h];simp
   have g:l.getD b.length default=x:=g6
   have t:l.take b.length=b:=by rw[h];simp
   have E:(∀ y∈b,y.no<x.no)↔(0<b.length->(l.getD (b.length - 1) default).no<x.no):=by
    rcases ap7 b with rfl| ⟨b',y,rfl⟩;simp;rw[ap8]at h W X g t |-;have g2:l.getD ((b'++[y]).length - 1) default=y:=by simp_all
    rw[g2];refine⟨λO _=>O y (by simp),λO z hz=>?_⟩;have hy:=O (by simp);rcases aoQ.1 hz with hz|hz;exact Int.lt_trans ((aoG.1 W).2.2 z hz y (by simp)) hy;grind
   constructor
   intro O;have h1:=O b.length (aom _) X;rw[g,t]at h1;have h2:=E.2 h1.1;have V:Asc (b++[x]):=aoG.2 ⟨W,ao1 _ _,λy hy z hz=>g6⟩;exact⟨h2,h1.2,(Y (b++[x]) (by rw[h];simp) V).1 λk hk1 hk2=>O k g6 hk2⟩;rintro⟨h2,h3,h4⟩ k hk1 hk2;have V:Asc (b++[x]):=aoG.2 ⟨W,ao1 _ _,λy hy z hz=>g6⟩;rcases aro hk1 with rfl|hk1 <;>grind
 have:=key l [] rfl List.Pairwise.nil;grind
theorem zI (d:ah)(l:List bn):ba d l=0↔av d=0/\l.length<=512/\(∀ x∈l,x.parts.length<=16)/\Chk d [] l:=by
 unfold ba;cases h1:(av d !=0)with
 |true=>
  grind
 |false=>
  have h1:av d=0:=g6
  simp only[cond_false,h1,true_and];by_cases O:l.length<=512
  have:decide ((l.length:Int) > 512)=false:=g6
  rw[this,apV];cases h2:aS l with
  |true=>
   simp only[cond_true,O,true_and];refine⟨(λh=>by cases h),λh=>?_⟩;have:=(rT l).2 h.1;grind
  |false=>
   have W:=(rT l).1 h2;simp only[cond_false,O,true_and,and_iff_right W];rw[<-Vf d l g5];obtain⟨V,Y⟩:=Ph (step:=fm d l) (λk=>wD (l.take k)) l.length (λk=>(0<k->(l.getD (k - 1) default).no< (l.getD k default).no)/\dQ d (wD (l.take k)) (l.getD k default)=true) (λk hk _=>by
    unfold fm;have e0:(decide ((k:Int) > 0)&&decide ((l.getD k (default:bn)).no<=(l.getD (Int.toNat (i64.wrap ((k:Int) - 1))) (default:bn)).no))= !decide (0<k->(l.getD (k - 1) default).no< (l.getD k default).no):=by
     by_cases X:0<k
     rw[pA g5 X,aol];by_cases h4:(l.getD (k - 1) default).no< (l.getD k default).no <;>grind
     grind
    rw[e0];constructor
    rintro⟨a,b⟩;rw[decide_eq_true a,b];simp only[aoH,apW,cond_false];grind [cw,zH]
    intro hn;refine⟨(),?_⟩;have:(!decide (0<k->(l.getD (k - 1) default).no< (l.getD k default).no) || !dQ d (wD (l.take k)) (l.getD k default))=true:=by
     grind
    grind) l.length 0 g5 (λj hj=>g5)
   by_cases E:∀ k,0<=k->k<l.length->(0<k->(l.getD (k - 1) default).no< (l.getD k default).no)/\dQ d (wD (l.take k)) (l.getD k default)=true
   have e:=V E;rw[ap3]at e;have e':aj (fm d l) l.length 0 []=.inr (wD (l.take l.length)):=e;grind
   obtain⟨r,e⟩:=Y E;rw[ap3]at e;have e':aj (fm d l) l.length 0 []=.inl r:=e;grind
  grind
theorem Ac {ρ σ:Type}{step:Nat->σ->ρ⊕σ}{p:Nat->σ->Prop}(m:σ->Nat)(J:σ->Prop)(Q:ρ->Prop)(h:∀ k s,J s->p k s/\((∃ r,step k s=.inl r/\Q r)\/∃ s',step k s=.inr s'/\m s'<m s/\J s')):∀ (n i:Nat) (s:σ),J s->m s<n->okI step p n i s/\∃ r,aj step n i s=.inl r/\Q r
 |0,_,_,_,hm=>absurd hm (Nat.not_lt_zero _)
 |n+1,i,s,hJ,hm=>by
  obtain⟨h1,h2⟩:=h i s hJ;rcases h2 with⟨r,e,V⟩ | ⟨s',e,hlt,E⟩;refine⟨⟨h1,λO e'=>?_⟩,r,?_,V⟩;grind
  grind [aj]
  obtain⟨X,W⟩:=Ac m J Q h n (i+1) s' E g5;refine⟨⟨h1,λO e'=>?_⟩,?_⟩;grind
  grind [aj]
theorem Pi{σ:Type}{x:ρ⊕σ}{Q:ρ->Prop}(h:∃ r,x=.inl r/\Q r):∀ z,x≠ .inr z:=λz e=>by
 grind
theorem TH (a b:bn):decide (eB a b<0)=decide (a.at_<b.at_):=by
 grind [eB,kD]
theorem zJ(A:List α)(x d:α)(T:List α){i:Nat}(h:i=A.length):(A++x::T).getD i d=x:=by
 grind
theorem MB(A:List α)(x y:α)(T:List α){i:Nat}(h:i=A.length):(A++x::T).set i y=A++y::T:=by
 subst h;simp
def arG (l a:List bn):Prop:= ∀ t:Int,l.filter (λx=>x.at_==t)=a.filter λx=>x.at_==t
theorem arG.refl (l:List bn):arG l l:=λ_=>rfl
variable {a c:List bn}
theorem arG.trans{b:List bn}(h1:arG a b)(h2:arG b c):arG a c:=λt=>(h1 t).trans (h2 t)
theorem arG.app{b d:List bn}(h1:arG a b)(h2:arG c d):arG (a++c) (b++d):=λt=>by rw[aqM,aqM,h1 t,h2 t]
theorem arG.swap{b:List bn}(h:∀ x∈a,∀ y∈b,x.at_≠y.at_):arG (a++b) (b++a):=λt=>by
 grind [List.filter_eq_nil_iff]
def Srt (l:List bn):Prop:=l.Pairwise λx y=>x.at_<=y.at_
theorem Vg (A S R:List bn)(x:bn)(X:List bn)(hl:(A++S++x::R).length<2 ^ 62)(W:(A++S++x::R).length=X.length):
  okI (bL A.length X) (bU A.length X) (X.length+1) 0 (A++S++x::R,((A.length+S.length:Nat):Int))/\
  ∃ r,aj (bL A.length X) (X.length+1) 0 (A++S++x::R,((A.length+S.length:Nat):Int))=.inl r/\
   ∃ V O,S=V++O/\r=A++V++x::(O++R)/\(∀ y∈O,x.at_<y.at_)/\∀ y,V.getLast? =some y->y.at_<=x.at_:=by
 refine Ac (λs:List bn×Int=>(s.2 - (A.length:Int)).toNat) (λs:List bn×Int=>∃ V O,S=V++O/\s=(A++V++x::(O++R),((A.length+V.length:Nat):Int))/\∀ y∈O,x.at_<y.at_) (λr=>∃ V O,S=V++O/\r=A++V++x::(O++R)/\(∀ y∈O,x.at_<y.at_)/\∀ y,V.getLast? =some y->y.at_<=x.at_) ?_ _ _ _ ⟨S,[],by simp,by simp,by simp⟩ g6;rintro k s ⟨V,O,hS,rfl,hlt⟩;simp only[aoq,aon]at hl W;have Y:S.length=V.length+O.length:=g6
 rcases ap7 V with rfl| ⟨E,y,rfl⟩;unfold bU bL;have e:decide (((A.length+([]:List bn).length:Nat):Int) > A.length)=false:=by simp
 refine⟨⟨λh=>?_,λh=>?_,λh=>?_⟩,.inl ⟨_,?_,[],O,hS,rfl,hlt,λy hy=>by simp at hy⟩⟩ <;>grind;simp only[ap8,aoq,aon,aoI]at Y |-;have w:i64.wrap (((A.length+(E.length+(0+1)):Nat):Int) - 1)=((A.length+E.length:Nat):Int):=by grind [aw]
 have e:decide (((A.length+(E.length+(0+1)):Nat):Int) > A.length)=true:=g6
 have g1:(A++(E++[y])++x::(O++R)).getD (A.length+(E.length+(0+1))) default=x:=zJ _ _ _ _ (by simp);have hr:A++(E++[y])++x::(O++R)=(A++E)++y::x::(O++R):=by simp
 have g2:(A++(E++[y])++x::(O++R)).getD (A.length+E.length) default=y:=g6
 have hL:(A++(E++[y])++x::(O++R)).length=A.length+(E.length+1)+(O.length+R.length+1):=by simp;omega
 unfold bU bL;simp only[w,aol,g1,g2,TH,e,apX,aqn,hL];refine⟨⟨λ_=>g5,λ_=>g5,λ_=>g5⟩,?_⟩;by_cases h:x.at_<y.at_
 right;rw[decide_eq_true h,cond_true];refine⟨_,rfl,by simp only;omega,E,y::O,by rw[hS];simp,?_,λz hz=>?_⟩ <;>grind;left;rw[decide_eq_false h,cond_false];exact⟨_,rfl,E++[y],O,hS.trans (by simp),by simp,hlt,λz hz=>g6⟩
variable {l:List bn}
theorem Yz{c:Int}(h:Srt l)(E:∀ y,l.getLast? =some y->y.at_<=c):∀ z∈l,z.at_<=c:=λz hz=>by
 rcases ap7 l with rfl| ⟨l',y,rfl⟩;cases hz;rw[ap8]at h hz E;have hy:=E y (by simp);unfold Srt at h;rw[aoG]at h;rcases aoQ.1 hz with hz|hz;exact aq4 (h.2.2 z hz y (by simp)) hy;grind
variable {x:bn}
theorem abG{E O:List bn}(h:Srt (E++O))(h2:∀ y∈O,x.at_<y.at_)(h1:∀ z∈E,z.at_<=x.at_):Srt (E++x::O):=by
 unfold Srt at h |-;rw[aoG]at h |-;refine⟨h.1,apc.2 ⟨λy hy=>Int.le_of_lt (h2 y hy),h.2.1⟩,λz V y hy=>?_⟩;grind
theorem KJ (A M R:List bn)(hl:(A++M++R).length<2 ^ 62):
  be A.length ((A.length+M.length:Nat):Int) (A++M++R)/\
  ∃ E,aL A.length ((A.length+M.length:Nat):Int) (A++M++R)=A++E++R/\arG M E/\Srt E:=by
 have hlen:(A++M++R).length=A.length+M.length+R.length:=g6
 have w0:i64.wrap ((A.length:Int)+1)=((A.length+1:Nat):Int):=by grind [aw]
 have key:okI (bb A.length ((A.length+M.length:Nat):Int) (A++M++R)) (bw A.length ((A.length+M.length:Nat):Int) (A++M++R)) ((A++M++R).length+1) 0 (A++M++R,((A.length+1:Nat):Int))/\
   ∃ r,aj (bb A.length ((A.length+M.length:Nat):Int) (A++M++R)) ((A++M++R).length+1) 0 (A++M++R,((A.length+1:Nat):Int))=.inl r/\∃ E,r=A++E++R/\arG M E/\Srt E:=by
  refine Ac (λs:List bn×Int=>(((A.length+M.length:Nat):Int) - s.2).toNat) (λs:List bn×Int=>(M=[]/\s=(A++M++R,((A.length+1:Nat):Int)))\/∃ S T,s=(A++S++(T++R),((A.length+S.length:Nat):Int))/\arG M (S++T)/\Srt S/\M.length=S.length+T.length) (λr=>∃ E,r=A++E++R/\arG M E/\Srt E) ?_ _ _ _ ?_ g5
  ·rintro k s (⟨rfl,rfl⟩ | ⟨S,T,rfl,hF,hS,W⟩);unfold bw bb;have e:decide (((A.length+1:Nat):Int) < ((A.length+([]:List bn).length:Nat):Int))=false:=g6
   refine⟨λh=>?_,.inl ⟨_,?_,[],rfl,arG.refl _,List.Pairwise.nil⟩⟩ <;>grind
   ·cases T with
    |nil=>
     simp_all [bw,bb]
    |cons x T=>
     simp only[aon]at W;have e:decide (((A.length+S.length:Nat):Int) < ((A.length+M.length:Nat):Int))=true:=g6
     have X:(A++S++x::(T++R)).length=(A++M++R).length:=by simp;omega
     obtain⟨i1,r,i2,V,O,rfl,rfl,i3,i4⟩:=Vg A S (T++R) x (A++M++R) g5 X;have Y:Srt V:=(aoG.1 hS).1;have w:i64.wrap (((A.length+(V++O).length:Nat):Int)+1)=((A.length+(V++x::O).length:Nat):Int):=by
      grind [aw]
     unfold bw bb;refine⟨λ_=>⟨i1,Pi (Q:=λ_=>True) ⟨_,i2,trivial⟩⟩,.inr ⟨_,?_,?_,.inr ⟨V++x::O,T,rfl,?_,abG hS i3 (Yz Y i4),g6⟩⟩⟩;grind
     grind
     ·refine hF.trans ?_;have h0:arG (O++[x]) ([x]++O):=arG.swap λy hy z hz=>g6
      have:=((arG.refl V).app h0).app (arG.refl T);grind
  cases M with
  |nil=>grind
  |cons x T=>exact .inr ⟨[x],T,by simp,by simpa using arG.refl _,ao1 _ _,by simp;omega⟩
 grind [be,aL]
theorem MC (A X B Y C:List bn)(hxy:X.length=Y.length)(hl:(A++X++B++Y++C).length<2 ^ 62):
  bj A.length ((A.length+X.length+B.length:Nat):Int) X.length (A++X++B++Y++C)/\
  bH A.length ((A.length+X.length+B.length:Nat):Int) X.length (A++X++B++Y++C)=A++Y++B++X++C:=by
 have hlen:(A++X++B++Y++C).length=A.length+X.length+B.length+Y.length+C.length:=g6
 have step:∀ j s,0<=j->j<0+Int.toNat (X.length:Int)->(∃ O V E W,X=O++V/\Y=E++W/\O.length=j/\E.length=j/\s=A++E++V++B++O++W++C)->
   da A.length ((A.length+X.length+B.length:Nat):Int) X.length j s/\∀ s',cF A.length ((A.length+X.length+B.length:Nat):Int) X.length j s=.inr s'->∃ O V E W,X=O++V/\Y=E++W/\O.length=j+1/\E.length=j+1/\s'=A++E++V++B++O++W++C:=by
  rintro j s _ hj ⟨O,V,E,W,hX,hY,h1,h2,rfl⟩;rw[aol,aou]at hj;have l1:X.length=O.length+V.length:=g6
  have l2:Y.length=E.length+W.length:=g6
  match V,W,l1,l2,hX,hY with
  | [],_,l1,_,_,_=>grind|_::_,[],_,l2,_,_=>grind
  |x::V,y::W,l1,l2,hX,hY=>
   simp only[aon]at l1 l2;have w1:i64.wrap ((A.length:Int)+(j:Int))=((A.length+j:Nat):Int):=by grind [aw]
   have w2:i64.wrap (((A.length+X.length+B.length:Nat):Int)+(j:Int))=((A.length+X.length+B.length+j:Nat):Int):=by grind [aw]
   have r1:A++E++x::V++B++O++y::W++C=(A++E)++x::(V++B++O++y::(W++C)):=by simp
   have r2:A++E++x::V++B++O++y::W++C=(A++E++x::V++B++O)++y::(W++C):=by simp
   have g1:(A++E++x::V++B++O++y::W++C).getD (A.length+j) default=x:=by rw[r1];exact zJ _ _ _ _ (by simp;omega)
   have g2:(A++E++x::V++B++O++y::W++C).getD (A.length+X.length+B.length+j) default=y:=by rw[r2];exact zJ _ _ _ _ (by simp;omega)
   have hL:(A++E++x::V++B++O++y::W++C).length=A.length+X.length+B.length+Y.length+C.length:=by simp;omega
   unfold da cF;simp only[w1,w2,aol,g1,g2,aqn,hL];refine⟨g5,λs' e=>?_⟩;cases e;refine⟨O++[x],V,E++[y],W,by rw[hX];simp,by rw[hY];simp,by simp[h1],by simp[h2],?_⟩;rw[r1,MB (A++E) x y _ (by simp;omega)];have r3:A++E++y::(V++B++O++y::(W++C))=(A++E++y::V++B++O)++y::(W++C):=by simp
   grind [MB]
 have h0:∃ O V E W,X=O++V/\Y=E++W/\O.length=0/\E.length=0/\A++X++B++Y++C=A++E++V++B++O++W++C:=⟨[],X,[],Y,rfl,rfl,rfl,rfl,by simp⟩;have hJ:=il (λk s=>∃ O V E W,X=O++V/\Y=E++W/\O.length=k/\E.length=k/\s=A++E++V++B++O++W++C) (Int.toNat (X.length:Int)) 0 _ h0 (λj s a b c=>(step j s a b c).2);unfold bj bH;refine⟨⟨g5,ij (λk s=>∃ O V E W,X=O++V/\Y=E++W/\O.length=k/\E.length=k/\s=A++E++V++B++O++W++C) _ 0 _ h0 step⟩,?_⟩;cases hr:aj (cF A.length ((A.length+X.length+B.length:Nat):Int) X.length) (Int.toNat (X.length:Int)) 0 (A++X++B++Y++C)with
 |inl x=>exact x.elim
 |inr r=>
  obtain⟨O,V,E,W,rfl,rfl,h1,h2,rfl⟩:=hJ r hr;rw[aol,aou]at h1 h2;have e1:V=[]:=aoE g6;simp_all
theorem Vh (A U V C:List bn)(hU:U≠[])(hV:V≠[])(hl:(A++U++V++C).length<2 ^ 62):
  b8 A.length ((A.length+U.length:Nat):Int) ((A.length+U.length+V.length:Nat):Int) (A++U++V++C)/\
  aJ A.length ((A.length+U.length:Nat):Int) ((A.length+U.length+V.length:Nat):Int) (A++U++V++C)=A++V++U++C:=by
 have hlen:(A++U++V++C).length=A.length+U.length+V.length+C.length:=g6
 have w1:i64.wrap (((A.length+U.length:Nat):Int) - (A.length:Int))=(U.length:Int):=by grind [aw]
 have w2:i64.wrap (((A.length+U.length+V.length:Nat):Int) - ((A.length+U.length:Nat):Int))=(V.length:Int):=by grind [aw]
 have hm:∀ {M:Nat},M=A.length+U.length->∀ {F:List bn},F=A++V++U++C->okI (db A.length (M:Int) ((A.length+U.length+V.length:Nat):Int)) (dG A.length (M:Int) ((A.length+U.length+V.length:Nat):Int)) (Int.toNat (((A.length+U.length+V.length:Nat):Int) - (A.length:Int))+1) 0 (A++U++V++C,(U.length:Int),(V.length:Int))/\
   ∃ r,aj (db A.length (M:Int) ((A.length+U.length+V.length:Nat):Int)) (Int.toNat (((A.length+U.length+V.length:Nat):Int) - (A.length:Int))+1) 0 (A++U++V++C,(U.length:Int),(V.length:Int))=.inl r/\∃ W O E X,r=((O.length:Int),W++O++E++X)/\O.length=E.length/\W.length+O.length=M/\W++E++O++X=F:=by
  intro M hM F hF;refine Ac (λs:List bn×Int×Int=>(s.2.1+s.2.2).toNat) (λs:List bn×Int×Int=>∃ W O E X,s=(W++O++E++X,(O.length:Int),(E.length:Int))/\O≠[]/\E≠[]/\W.length+O.length=M/\W++E++O++X=F) _ ?_ _ _ _ ⟨A,U,V,C,rfl,hU,hV,hM.symm,hF.symm⟩ g6;rintro k s ⟨W,O,E,X,rfl,hU1,hV1,hM1,hF1⟩;have hFl:W.length+E.length+O.length+X.length<2 ^ 62:=by
   grind [List.length_append]
  have pU:0<O.length:=ao8.2 hU1;have pV:0<E.length:=ao8.2 hV1;unfold dG db;have v1:i64.wrap ((M:Int) - (O.length:Int))=(W.length:Int):=by grind [aw]
  by_cases he:O.length=E.length
  grind
  have b1:(((O.length:Int)) !=((E.length:Int)))=true:=g6
  by_cases hgt:E.length<O.length
  have b2:decide (((O.length:Int)) > ((E.length:Int)))=true:=g6
  have v2:i64.wrap ((O.length:Int) - (E.length:Int))=((O.drop E.length).length:Int):=by grind [aw]
  have hsp:O=O.take E.length++O.drop E.length:=(apr _ _).symm;have ht:(O.take E.length).length=E.length:=g6
  have hd:(O.drop E.length).length=O.length - E.length:=apB;have Y:=MC W (O.take E.length) (O.drop E.length) E X ht g6;have e1:W++O.take E.length++O.drop E.length++E++X=W++O++E++X:=g6
  have e2:((W.length+(O.take E.length).length+(O.drop E.length).length:Nat):Int)=(M:Int):=g5
  rw[e1,e2,ht]at Y;simp only[b1,b2,v1,v2,cond_true];refine⟨λ_=>⟨λ_=>Y.1,λh=>by cases h⟩,.inr ⟨_,rfl,by simp only[hd];omega,W++E,O.drop E.length,O.take E.length,X,?_,λh=>?_,λh=>?_,?_,?_⟩⟩ <;>grind;have b2:decide (((O.length:Int)) > ((E.length:Int)))=false:=g6
  have v2:i64.wrap ((E.length:Int) - (O.length:Int))=((E.take (E.length - O.length)).length:Int):=by grind [aw]
  have v3:i64.wrap (i64.wrap ((M:Int)+(E.length:Int)) - (O.length:Int))=((W.length+O.length+(E.take (E.length - O.length)).length:Nat):Int):=by
   grind [aw]
  have ht:(E.take (E.length - O.length)).length=E.length - O.length:=g6
  have hd:(E.drop (E.length - O.length)).length=O.length:=g6
  have Y:=MC W O (E.take (E.length - O.length)) (E.drop (E.length - O.length)) X hd.symm g6;have e1:W++O++E.take (E.length - O.length)++E.drop (E.length - O.length)++X=W++O++E++X:=by simp_all
  rw[e1]at Y;simp only[b1,b2,v1,v2,v3,cond_true,cond_false];refine⟨λ_=>⟨(λh=>by cases h),λ_=>Y.1⟩,.inr ⟨_,rfl,g6,W,E.drop (E.length - O.length),E.take (E.length - O.length),O++X,?_,λh=>?_,λh=>?_,g5,?_⟩⟩;grind
  grind
  grind
  simp_all
 obtain⟨k1,r,k2,W,O,E,X,rfl,q1,q2,q3⟩:=hm rfl rfl;have hFl:W.length+E.length+O.length+X.length<2 ^ 62:=by
  grind [List.length_append]
 have v1:i64.wrap (((A.length+U.length:Nat):Int) - (O.length:Int))=(W.length:Int):=by grind [aw]
 have Y:=MC W O [] E X q1 g6;grind [b8,aJ]
theorem half {i j:Int}(O:0<=i)(h1:i<=j)(h2:j<=2305843009213693952):i64.wrap (ol .u64 (u64.wrap (i64.wrap (i+j))) 1)=(i+j) / 2:=by
 have E:i64.wrap (i+j)=i+j:=aw g5 g5;have e:u64.wrap (i+j)=i+j:=by
  grind [IntKind.wrap,IntKind.bits]
 have V:ol .u64 (i+j) 1=(i+j) / 2:=by
  show Int.fdiv (i+j) ((2:Int) ^ min (Int.toNat 1) u64.bits)=_;have:(2:Int) ^ min (Int.toNat 1) u64.bits=2:=by decide
  grind
 grind [aw]
theorem TJ {i j:Nat}(h1:i<=j)(h2:j<2 ^ 61):i64.wrap (ol .u64 (u64.wrap (i64.wrap ((i:Int)+(j:Int)))) 1)=(((i+j) / 2:Nat):Int):=by
 rw[half g5 g5 g5];omega
theorem RZ {step:Nat->Int×Int->Int⊕(Int×Int)}{p:Nat->Int×Int->Prop}(P:Nat->Bool)(lo hi:Nat)(Y:lo<=hi)(W:∀ x y,lo<=x->x<=y->y<hi->P y=true->P x=true)
  (hstep:∀ k (i j:Nat),lo<=i->i<j->j<=hi->p k ((i:Int),(j:Int))/\step k ((i:Int),(j:Int))=bif P ((i+j) / 2)then .inr ((((i+j) / 2+1:Nat):Int),(j:Int))else .inr ((i:Int),(((i+j) / 2:Nat):Int)))
  (X:∀ k (i:Nat),p k ((i:Int),(i:Int))/\step k ((i:Int),(i:Int))=.inl (i:Int)) (n k:Nat) (hn:hi - lo<n):
  okI step p n k ((lo:Int),(hi:Int))/\∃ r,aj step n k ((lo:Int),(hi:Int))=.inl r/\∃ q:Nat,r=(q:Int)/\lo<=q/\q<=hi/\(∀ x,lo<=x->x<q->P x=true)/\∀ x,q<=x->x<hi->P x=false:=by
 refine Ac (λs:Int×Int=>(s.2 - s.1).toNat) (λs:Int×Int=>∃ i j:Nat,s=((i:Int),(j:Int))/\lo<=i/\i<=j/\j<=hi/\(∀ x,lo<=x->x<i->P x=true)/\∀ x,j<=x->x<hi->P x=false) _ ?_ n k _ ⟨lo,hi,rfl,aom _,Y,aom _,λx h1 h2=>g5,λx h1 h2=>g5⟩ g5;rintro k s ⟨i,j,rfl,h1,h2,h3,h4,h5⟩;by_cases h:i<j
 obtain⟨q1,E⟩:=hstep k i j h1 h h3;refine⟨q1,.inr ?_⟩;have V:i<=(i+j) / 2:=g5
 have hm2:(i+j) / 2<j:=g5
 cases hP:P ((i+j) / 2)with
 |true=>
  rw[hP]at E;refine⟨_,E,g5,(i+j) / 2+1,j,rfl,g5,g5,h3,λx O hx2=>?_,h5⟩;grind
 |false=>
  rw[hP]at E;refine⟨_,E,g5,i,(i+j) / 2,rfl,h1,V,g5,h4,λx O hx2=>?_⟩;grind
 grind
theorem YA (A V C:List bn)(x:bn)(W:List bn)(hl:(A++x::V++C).length<2 ^ 62)(Y:(A++x::V++C).length=W.length):
  okI (xc W ((A.length+1+V.length:Nat):Int)) (wv W ((A.length+1+V.length:Nat):Int)) (W.length+1) 0 (A++x::V++C,(A.length:Int))/\
  ∃ r,aj (xc W ((A.length+1+V.length:Nat):Int)) (W.length+1) 0 (A++x::V++C,(A.length:Int))=.inl r/\r=A++V++x::C:=by
 have hlen:(A++x::V++C).length=A.length+V.length+C.length+1:=by simp;omega
 have w0:i64.wrap (((A.length+1+V.length:Nat):Int) - 1)=((A.length+V.length:Nat):Int):=by grind [aw]
 refine Ac (λs:List bn×Int=>(((A.length+V.length:Nat):Int) - s.2).toNat) (λs:List bn×Int=>∃ E O,V=E++O/\s=(A++E++x::(O++C),((A.length+E.length:Nat):Int))) (λr=>r=A++V++x::C) ?_ _ _ _ ⟨[],V,rfl,by simp⟩ g5;rintro k s ⟨E,O,hV,rfl⟩;have X:V.length=E.length+O.length:=g6
 unfold wv xc;rw[w0];cases O with
 |nil=>
  grind
 |cons y O=>
  simp only[aon]at X;have e:decide (((A.length+E.length:Nat):Int) < ((A.length+V.length:Nat):Int))=true:=g6
  have w1:i64.wrap (((A.length+E.length:Nat):Int)+1)=((A.length+E.length+1:Nat):Int):=by grind [aw]
  have g1:(A++E++x::(y::O++C)).getD (A.length+E.length) default=x:=zJ _ _ _ _ (by simp);have r1:A++E++x::(y::O++C)=(A++E++[x])++y::(O++C):=by simp
  have g2:(A++E++x::(y::O++C)).getD (A.length+E.length+1) default=y:=by rw[r1];exact zJ _ _ _ _ (by simp;omega)
  have hL:(A++E++x::(y::O++C)).length=A.length+V.length+C.length+1:=by simp;omega
  simp only[e,w1,aol,g1,g2,aqn,hL,cond_true];refine⟨λ_=>g5,.inr ⟨_,rfl,g5,E++[y],O,by rw[hV];simp,?_⟩⟩;simp_all [apI]
theorem R7 (A U C:List bn)(x:bn)(V:List bn)(hl:(A++U++x::C).length<2 ^ 62)(W:(A++U++x::C).length=V.length):
  okI (xd V (A.length:Int)) (ww V (A.length:Int)) (V.length+1) 0 (A++U++x::C,((A.length+U.length:Nat):Int))/\
  ∃ r,aj (xd V (A.length:Int)) (V.length+1) 0 (A++U++x::C,((A.length+U.length:Nat):Int))=.inl r/\r=A++x::(U++C):=by
 have Y:(A++U++x::C).length=A.length+U.length+C.length+1:=by simp;omega
 refine Ac (λs:List bn×Int=>(s.2 - (A.length:Int)).toNat) (λs:List bn×Int=>∃ E O,U=E++O/\s=(A++E++x::(O++C),((A.length+E.length:Nat):Int))) (λr=>r=A++x::(U++C)) ?_ _ _ _ ⟨U,[],by simp,by simp⟩ g5;rintro k s ⟨E,O,hU,rfl⟩;have X:U.length=E.length+O.length:=g6
 unfold ww xd;rcases ap7 E with rfl| ⟨E,y,rfl⟩;simp_all;simp only[ap8,aoq,aon,aoI]at X hU |-;have e:decide (((A.length+(E.length+(0+1)):Nat):Int) > (A.length:Int))=true:=g6
 have w1:i64.wrap (((A.length+(E.length+(0+1)):Nat):Int) - 1)=((A.length+E.length:Nat):Int):=by grind [aw]
 have g1:(A++(E++[y])++x::(O++C)).getD (A.length+(E.length+(0+1))) default=x:=zJ _ _ _ _ (by simp);have r1:A++(E++[y])++x::(O++C)=(A++E)++y::x::(O++C):=by simp
 have g2:(A++(E++[y])++x::(O++C)).getD (A.length+E.length) default=y:=g6
 have hL:(A++(E++[y])++x::(O++C)).length=A.length+U.length+C.length+1:=by simp;omega
 simp only[e,w1,aol,g1,g2,aqn,hL,cond_true];refine⟨λ_=>g5,.inr ⟨_,rfl,g5,E,y::O,by rw[hU];simp,?_⟩⟩;grind
theorem TK(l:List α)(d:α){n:Nat}(h:n<l.length):l.getD n d=l[n]:=by
 grind
variable {V:List bn}
theorem sH(h:Srt V){i j:Nat}(h1:i<=j)(h2:j<V.length):(V.getD i default).at_<=(V.getD j default).at_:=by
 rcases aro h1 with rfl|h1;omega;rw[TK V _ g5,TK V _ h2];exact ao3.1 h i j g5 h2 h1
theorem B_{y:bn}(h:y∈V.take k):∃ i,i<k/\i<V.length/\y=V.getD i default:=by
 obtain⟨i,hi,e⟩:=ao0.1 h;rw[aph]at hi;refine⟨i,g5,g5,?_⟩;grind
theorem Ca{y:bn}(h:y∈V.drop k):∃ i,k<=i/\i<V.length/\y=V.getD i default:=by
 obtain⟨i,hi,e⟩:=ao0.1 h;rw[apB]at hi;refine⟨k+i,g5,g5,?_⟩;grind
def FH{b:List bn}(h:Srt (a++b)):Srt a/\Srt b/\∀ x∈a,∀ y∈b,x.at_<=y.at_:=aoG.1 h
def Dz{b:List bn}(c:Srt a)(d:Srt b)(E:∀ x∈a,∀ y∈b,x.at_<=y.at_):Srt (a++b):=aoG.2 ⟨c,d,E⟩
def adn (n:Nat)(asL:Int->Int->Int->List bn->List bn)(asA:Int->Int->Int->List bn->Prop):Prop:=
 ∀ A U V C:List bn,U≠[]->V≠[]->U.length+V.length<=n->(A++U++V++C).length<2 ^ 60->Srt U->Srt V->
  asA (A.length:Int) ((A.length+U.length:Nat):Int) ((A.length+U.length+V.length:Nat):Int) (A++U++V++C)/\
  ∃ M,asL (A.length:Int) ((A.length+U.length:Nat):Int) ((A.length+U.length+V.length:Nat):Int) (A++U++V++C)=A++M++C/\arG (U++V) M/\Srt M/\M.length=U.length+V.length
theorem R8 (O:Int->Int->Int->List bn->List bn)(E:Int->Int->Int->List bn->Prop)(A V C:List bn)(x:bn)(hl:(A++[x]++V++C).length<2 ^ 60)(hV:Srt V):
  xe O E (A.length:Int) ((A.length+1:Nat):Int) ((A.length+1+V.length:Nat):Int) (A++[x]++V++C)/\
  ∃ M,Mq O E (A.length:Int) ((A.length+1:Nat):Int) ((A.length+1+V.length:Nat):Int) (A++[x]++V++C)=A++M++C/\arG ([x]++V) M/\Srt M/\M.length=1+V.length:=by
 have hL:(A++[x]++V++C).length=A.length+V.length+C.length+1:=by simp;omega
 have w:i64.wrap (((A.length+1:Nat):Int) - (A.length:Int))=1:=by grind [aw]
 have gx:(A++[x]++V++C).getD A.length default=x:=by
  grind
 have gV:∀ h,A.length+1<=h->h<A.length+1+V.length->(A++[x]++V++C).getD h default=V.getD (h - (A.length+1)) default:=λh h1 h2=>by
  grind
 have s:=RZ (step:=tH (A.length:Int) (A++[x]++V++C)) (p:=tY (A.length:Int) (A++[x]++V++C)) (λh=>decide ((V.getD (h - (A.length+1)) default).at_<x.at_)) (A.length+1) (A.length+1+V.length) g5
  (λi j h1 h2 h3 h4=>by
   have:=sH hV (i:=i - (A.length+1)) (j:=j - (A.length+1)) g5 g5;grind)
  (λk i j h1 h2 h3=>by
   have e:decide ((i:Int) < (j:Int))=true:=g6
   unfold tY tH;simp only[TJ (i:=i) (j:=j) g5 g5,e,cond_true,aol,gx,gV ((i+j) / 2) g5 g5,TH,hL];grind [aw])
  (λk i=>by
   simp_all [tY,tH]) ((A++[x]++V++C).length+1) 0 g5
 obtain⟨s1,r,s2,q,rfl,q1,q2,q3,q4⟩:=s;have ht:(V.take (q - (A.length+1))).length=q - (A.length+1):=by rw[aph];omega
 have W:V.take (q - (A.length+1))++V.drop (q - (A.length+1))=V:=apr _ _;have hd1:∀ y∈V.take (q - (A.length+1)),y.at_<x.at_:=λy hy=>by
  obtain⟨i,i1,i2,rfl⟩:=B_ hy;have:=q3 (A.length+1+i) g5 g5;simp_all
 have hd2:∀ y∈V.drop (q - (A.length+1)),x.at_<=y.at_:=λy hy=>by
  obtain⟨i,i1,i2,rfl⟩:=Ca hy;have:=q4 (A.length+1+i) g5 g5;simp_all
 generalize hV1:V.take (q - (A.length+1))=V1 at *;generalize hV2:V.drop (q - (A.length+1))=V2 at *;subst W;have eq:A++[x]++(V1++V2)++C=A++x::V1++(V2++C):=by simp
 obtain⟨c1,r,c2,rfl⟩:=YA A V1 (V2++C) x (A++[x]++(V1++V2)++C) g6 (by rw[eq]);have X:((A.length+1+V1.length:Nat):Int)=(q:Int):=g5
 rw[<-eq,X]at c1 c2;unfold xe Mq;rw[w];refine⟨⟨λ_=>⟨s1,Pi (Q:=λ_=>True) ⟨_,s2,trivial⟩,λz Y=>?_⟩,λh=>by cases h⟩,V1++[x]++V2,?_,?_,?_,?_⟩;grind
 grind
 ·have h0:arG ([x]++V1) (V1++[x]):=arG.swap λa ha b hb=>g6
  simpa using h0.app (arG.refl V2)
 obtain⟨a1,a2,a3⟩:=FH hV;refine Dz (Dz a1 (ao1 _ _) λy hy z Y=>?_) a2 λy hy z Y=>?_ <;>grind;grind
theorem Pj (O:Int->Int->Int->List bn->List bn)(E:Int->Int->Int->List bn->Prop)(A U C:List bn)(x:bn)(hU2:2<=U.length)(hl:(A++U++[x]++C).length<2 ^ 60)(hU:Srt U):
  xe O E (A.length:Int) ((A.length+U.length:Nat):Int) ((A.length+U.length+1:Nat):Int) (A++U++[x]++C)/\
  ∃ M,Mq O E (A.length:Int) ((A.length+U.length:Nat):Int) ((A.length+U.length+1:Nat):Int) (A++U++[x]++C)=A++M++C/\arG (U++[x]) M/\Srt M/\M.length=U.length+1:=by
 have hL:(A++U++[x]++C).length=A.length+U.length+C.length+1:=by simp;omega
 have w1:i64.wrap (((A.length+U.length:Nat):Int) - (A.length:Int))=(U.length:Int):=by grind [aw]
 have w:i64.wrap (((A.length+U.length+1:Nat):Int) - ((A.length+U.length:Nat):Int))=1:=by grind [aw]
 have b1:((U.length:Int) ==1)=false:=by simp;omega
 have gx:(A++U++[x]++C).getD (A.length+U.length) default=x:=by
  grind
 have gU:∀ h,A.length<=h->h<A.length+U.length->(A++U++[x]++C).getD h default=U.getD (h - A.length) default:=λh h1 h2=>by
  grind
 have s:=RZ (step:=tI ((A.length+U.length:Nat):Int) (A++U++[x]++C)) (p:=tZ ((A.length+U.length:Nat):Int) (A++U++[x]++C)) (λh=>!decide (x.at_< (U.getD (h - A.length) default).at_)) A.length (A.length+U.length) g5
  (λi j h1 h2 h3 h4=>by
   have:=sH hU (i:=i - A.length) (j:=j - A.length) g5 g5;grind)
  (λk i j h1 h2 h3=>by
   have e:decide ((i:Int) < (j:Int))=true:=g6
   unfold tZ tI;simp only[TJ (i:=i) (j:=j) g5 g5,e,cond_true,aol,gx,gU ((i+j) / 2) g5 g5,TH,hL];grind [aw])
  (λk i=>by
   simp_all [tZ,tI]) ((A++U++[x]++C).length+1) 0 g5
 obtain⟨s1,r,s2,q,rfl,q1,q2,q3,q4⟩:=s;have ht:(U.take (q - A.length)).length=q - A.length:=g6
 have hd:(U.drop (q - A.length)).length=U.length - (q - A.length):=apB;have V:U.take (q - A.length)++U.drop (q - A.length)=U:=apr _ _;have hd1:∀ y∈U.take (q - A.length),y.at_<=x.at_:=λy hy=>by
  obtain⟨i,i1,i2,rfl⟩:=B_ hy;have:=q3 (A.length+i) g5 g5;simp_all
 have hd2:∀ y∈U.drop (q - A.length),x.at_<y.at_:=λy hy=>by
  obtain⟨i,i1,i2,rfl⟩:=Ca hy;have:=q4 (A.length+i) g5 g5;simp_all
 generalize hV1:U.take (q - A.length)=V1 at *;generalize hV2:U.drop (q - A.length)=V2 at *;subst V;have eq:A++(V1++V2)++[x]++C=(A++V1)++V2++x::C:=by simp
 obtain⟨c1,r,c2,rfl⟩:=R7 (A++V1) V2 C x (A++(V1++V2)++[x]++C) g6 (by rw[eq]);have W:(((A++V1).length:Nat):Int)=(q:Int):=g6
 have X:(((A++V1).length+V2.length:Nat):Int)=((A.length+(V1++V2).length:Nat):Int):=g5
 rw[<-eq,X,W]at c1 c2;unfold xe Mq;rw[w1,w];refine⟨⟨λh=>g6,λ_=>⟨λ_=>⟨s1,Pi (Q:=λ_=>True) ⟨_,s2,trivial⟩,λz Y=>?_⟩,λh=>by cases h⟩⟩,V1++[x]++V2,?_,?_,?_,?_⟩;grind
 grind
 ·have h0:arG (V2++[x]) ([x]++V2):=arG.swap λa ha b hb=>g6
  simpa using (arG.refl V1).app h0
 obtain⟨a1,a2,a3⟩:=FH hU;refine Dz (Dz a1 (ao1 _ _) λy hy z Y=>?_) a2 λy hy z Y=>?_ <;>grind;grind
def stI (x:bn):List bn->List bn
 | [] =>[x]|y::r=>if x.at_<=y.at_ then x::y::r else y::stI x r
def stS:List bn->List bn
 | [] =>[]|x::r=>stI x (stS r)
theorem Hw (x:bn):∀ l,arG (x::l) (stI x l)
 | [] =>arG.refl _
 |y::r=>by
  unfold stI;by_cases h:x.at_<=y.at_
  rw[if_pos h];exact arG.refl _
  ·rw[if_neg h];have h1:arG ([x]++[y]++r) ([y]++[x]++r):=(arG.swap λa O b E=>g6).app (arG.refl r);exact h1.trans ((arG.refl [y]).app (Hw x r))
theorem arG.symm{b:List bn}(h:arG a b):arG b a:=λt=>(h t).symm
theorem arG.mem{b:List bn}(h:arG a b)(E:x∈a):x∈b:=by
 have:x∈a.filter λy=>y.at_==x.at_:=g6
 rw[h x.at_]at this;grind
theorem arG.mem_iff{b:List bn}(h:arG a b):x∈a↔x∈b:=⟨h.mem,h.symm.mem⟩
theorem TL (x:bn):∀ l,Srt l->Srt (stI x l)
 | [],_=>ao1 _ _
 |y::r,h=>by
  unfold stI;have h':=apc.1 h;by_cases hc:x.at_<=y.at_
  rw[if_pos hc];exact apc.2 ⟨λz E=>by
   grind,h⟩
  rw[if_neg hc];refine apc.2 ⟨λz E=>?_,TL x r h'.2⟩;have:=(Hw x r).symm.mem E;grind
def y4:∀ l,arG l (stS l)
 | [] =>arG.refl _|x::r=>((arG.refl [x]).app (y4 r)).trans (Hw x _)
def MD:∀ l,Srt (stS l)
 | [] =>List.Pairwise.nil|x::r=>TL x _ (MD r)
theorem Es:∀ {a b:List bn},Srt a->Srt b->arG a b->a=b
 | [],[],_,_,_=>rfl
 | [],y::b,_,_,h=>absurd (h.symm.mem (aow)) (by simp)
 |x::a,[],_,_,h=>absurd (h.mem (aow)) (by simp)
 |x::a,y::b,Y,X,h=>by
  have O:=apc.1 Y;have E:=apc.1 X;have e:x.at_=y.at_:=by
   have h1:=h.mem (aow (a:=x) (l:=a));have h2:=h.symm.mem (aow (a:=y) (l:=b));grind
  have W:=h x.at_;have ey:(y.at_==x.at_)=true:=by simp[e]
  have ex:(x.at_==x.at_)=true:=by simp
  simp only[List.filter_cons,ex,ey,if_true]at W;obtain⟨V,htl⟩:=List.cons.inj W;subst V;have:arG a b:=λt=>by
   have ht:=h t;grind
  rw[Es O.2 E.2 this]
def A2{b:List bn}(h:arG a b)(E:Srt b):b=stS a:=Es E (MD a) (h.symm.trans (y4 a))
def abH:x∈stS l↔x∈l:=(y4 l).symm.mem_iff
end Go.Sx
end
