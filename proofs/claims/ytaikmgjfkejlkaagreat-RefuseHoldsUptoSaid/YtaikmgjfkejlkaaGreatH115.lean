/- Part of the proof that the law RefuseHolds returns true and leaves its arguments as they were, for all arguments of bulk at most 1048576 (the Upto form). -/
import Derived.Test.YtaikmgjfkejlkaaGreatH114
import Derived.Test.YtaikmgjfkejlkaaGreatH107
import Derived.Test.YtaikmgjfkejlkaaGreatH108
import Derived.Test.YtaikmgjfkejlkaaGreatH110
import Derived.Test.YtaikmgjfkejlkaaGreatH106
import Derived.Deep.Slices
import Derived.OpenShut
import Derived.ChangeSame
import Derived.WideKeyArgs
import Derived.Below
import Derived.Test.YtaikmgjfkejlkaaGreatRows
set_option linter.all false
set_option maxHeartbeats 4000000
set_option maxRecDepth 100000
section
namespace Go.Sx
open Go.Proofs Tryz
open IntKind (i64)
@[go_sem] def dW (c:C1)(a:Int×Int)(e:List B1):Empty⊕(List B1):=letI b:=c.d.reaches.getD (Int.toNat a.2) default;letI f:=c.ass.getD (Int.toNat a.2) (default:List Int);letI g:=i64.wrap (a.1+1);letI h:=i64.wrap (g - b.delay);letI i:=i64.wrap ((f.getD (Int.toNat g) 0) - (f.getD (Int.toNat (if 0<h then h else 0)) 0));(bif(decide (i > b.ar6))then .inr (dh ({ kind:=3,hour:=a.1,index:=a.2,bl:=i,limit:=b.ar6}:B1) e)else .inr e)
def gn (b:C1)(a:Int×Int)(l:List B1):Prop:=letI f:=b.d.reaches.getD (Int.toNat a.2) default;letI c:=b.ass.getD (Int.toNat a.2) (default:List Int);letI e:=i64.wrap (a.1+1);letI i:=i64.wrap (e - f.delay);letI g:=if 0<i then i else 0;letI j:=i64.wrap ((c.getD (Int.toNat e) 0) - (c.getD (Int.toNat g) 0));letI k:=0<=a.2/\a.2< (b.ass.length:Int);letI h:=decide (j > f.ar6);((0<=a.2/\a.2< (b.d.reaches.length:Int))/\(k/\((0<=e/\e< (c.length:Int))/\(k/\((0<=g/\g< (c.length:Int))/\((h=true->(cy ({ kind:=3,hour:=a.1,index:=a.2,bl:=j,limit:=f.ar6}:B1) l))/\(h=false->(h=false))))))))
def eZ (a:C1)(b:List B1):List B1:=(match cG (dW a) (bK a) b with| .inl x=>x.elim| .inr c=>c)
def j8 (a:C1)(b:List B1):Prop:=((a.d.hours<9223372036854775808)/\okL (dW a) (gn a) (bK a) b)
@[go_sem] noncomputable def qX:List SV->List Ob->Option arV:=λl h=>hCR .fault (λl_=>(pD .A1 λt_=>((pQ (.fn 119 [] [.ptr 0 0]) (pE (fM (j8 t_ l_) (.tup []) [.cells [.os 2],.dead,.row .fault (eZ t_ l_)]))))) l) h
variable {p:Prop}
def adz(h:p:=by simp only[go_sem,e0_0,e0_1,e0_2]):p:=h
variable {l0 l1:List Nat}
def ala(a0:JL l0)(a1:JL l1)(h:JL l0->JL l1->p:=by intro ja jb;simp only[go_sem,ff,dW,psT,Lk,aoJ,aos];all_goals exact fU ja jb):p:=h a0 a1
def Uc(a0:JL l0)(a1:JL l1)(h:JL l0->JL l1->p:=by intro ja jb;simp only[go_sem,ff];all_goals exact fU ja jb):p:=h a0 a1
theorem adA(a0:JL l0)(h:JL l0->p:=by intro ja;simp only[go_sem,ff];all_goals exact uz ja):p:=h a0
theorem xJ:arT prog 121 qX:=by
 have hG:=mG (cp qP Y1) (co jw Y1);refine fR hG f121 (λl o con h=>?_);unfold qX at h;obtain⟨X,rfl,h⟩:=zz h;obtain⟨E,r0,rfl,h0⟩:=ut h;obtain⟨r1,rfl,h1⟩:=uu h0;obtain⟨rfl,rfl⟩:=nc h1;clear h h0 h1;refine⟨_,_,_,rfl,λW=>?_⟩;unfold j8 at W;refine⟨nbl rfl,(λid st=>bif Nat.beq id 0 then some (LC (ρ:=Empty) (σ:=List B1) (lk 2 st.t=.ptr 2 0/\lk 3 st.t=.ptr 3 0/\lk 9 st.t=.fn 251 [] [.ep (cellsOf .A1 E) 0]/\st.h=[.cells [.os 1],.row .fault X,.cells (cellsOf .A1 E),.cells [.fn 119 [] [.ptr 0 0]]]/\E.d.hours<9223372036854775808/\okL (dW E) (gn E) (bK E) X) (cG (dW E) (bK E) X) (λx=>x.elim) (λx=>x.elim) (λO=>⟨[(2,.ptr 2 0),(3,.ptr 3 0)],[.cells [.os 4],.dead,.cells (cellsOf .A1 E),.cells [.fn 119 [] [.ptr 0 0]],.row .fault O]⟩))else none),?_,?_⟩
 ·unfold ae f121;simp only[ak,true_and,and_true]
  ·refine pw mixed aB hG (by decide) (by decide) kr kr λst lc hC W=>?_;simp only[go_sem,Nat.reduceBEq,aoo]at hC;subst hC;obtain⟨t,h⟩:=st;dsimp only[LC]at W;obtain⟨e0_0,e0_1,e0_2,rfl,hb0,V⟩:=W;refine⟨251,[.ep (cellsOf .A1 E) 0],Int×Int,_,_,(bK E),Lk,(dW E),(gn E),_,X,_,_,_,[(2,.ptr 2 0),(3,.ptr 3 0)],(λO=>[.cells [.os 4],.dead,.cells (cellsOf .A1 E),.cells [.fn 119 [] [.ptr 0 0]],.row .fault O]),(λx=>x.elim),[0,1,2,3,1],?_,rfl,V,nbl rfl,?_,EH E hb0,λz_0 O Y=>⟨rfl,L0,λl=>?_,λl=>?_,?_⟩,λO=>?_,λy=>?_⟩;exact adz
   ·simp only[go_sem,sp,kg,aoF,apf,aos,aoC,aoZ,e0_0,e0_1,e0_2];all_goals (first|done|decide|(repeat' (first|refine And.intro ?_ ?_|rfl|decide)))
   simp only[ak,and_self,true_and,and_true];simp only[ak,and_self,true_and,and_true];unfold gn at Y;exact ala (jl [0,1,2,3,6]) (jl [0,1,2,3,4]);exact Uc (jl [0,1,2,3,6]) (jl [0,1,2,3,4]);exact Uc (jl [0,1,2,3,6]) (jl [0,1,2,3,4])
 unfold ae f121;try unfold eZ
 exact adA (jl [0,1,4])
@[go_sem] def dX (b:C1)(a:Int×Int)(c:List B1):Empty⊕(List B1):=letI d:=(b.drawn.getD (Int.toNat a.2) (default:List Int)).getD (Int.toNat a.1) 0;letI e:=fe b a.2 a.1;(bif(decide (d > e))then .inr (dh ({ kind:=5,hour:=a.1,index:=a.2,bl:=d,limit:=e}:B1) c)else .inr c)
def gq (b:C1)(a:Int×Int)(g:List B1):Prop:=letI d:=b.drawn.getD (Int.toNat a.2) (default:List Int);letI e:=fe b a.2 a.1;letI f:=d.getD (Int.toNat a.1) 0;letI c:=decide (f > e);((0<=a.2/\a.2< (b.drawn.length:Int))/\((0<=a.1/\a.1< (d.length:Int))/\((jg b a.2 a.1)/\((c=true->(cy ({ kind:=5,hour:=a.1,index:=a.2,bl:=f,limit:=e}:B1) g))/\(c=false->(c=false))))))
def g_ (a:C1)(b:List B1):List B1:=(match cG (dX a) (bK a) b with| .inl x=>x.elim| .inr c=>c)
def j9 (a:C1)(b:List B1):Prop:=((a.d.hours<9223372036854775808)/\okL (dX a) (gq a) (bK a) b)
@[go_sem] noncomputable def qY:List SV->List Ob->Option arV:=λl h=>hCR .fault (λl_=>(pD .A1 λt_=>((pQ (.fn 119 [] [.ptr 0 0]) (pE (fM (j9 t_ l_) (.tup []) [.cells [.os 2],.dead,.row .fault (g_ t_ l_)]))))) l) h
def alb(a0:JL l0)(a1:JL l1)(h:JL l0->JL l1->p:=by intro ja jb;simp only[go_sem,ff,dX,psT,Lk,aoJ,aos];all_goals exact fU ja jb):p:=h a0 a1
theorem xK:arT prog 123 qY:=by
 have hG:=mG (cp qP (cn [.st .A1,.o,.o] vU Y1)) (co jw Y1);refine fR hG f123 (λl o con h=>?_);unfold qY at h;obtain⟨X,rfl,h⟩:=zz h;obtain⟨E,r0,rfl,h0⟩:=ut h;obtain⟨r1,rfl,h1⟩:=uu h0;obtain⟨rfl,rfl⟩:=nc h1;clear h h0 h1;refine⟨_,_,_,rfl,λW=>?_⟩;unfold j9 at W;refine⟨nbl rfl,(λid st=>bif Nat.beq id 0 then some (LC (ρ:=Empty) (σ:=List B1) (lk 2 st.t=.ptr 2 0/\lk 3 st.t=.ptr 3 0/\lk 9 st.t=.fn 251 [] [.ep (cellsOf .A1 E) 0]/\st.h=[.cells [.os 1],.row .fault X,.cells (cellsOf .A1 E),.cells [.fn 119 [] [.ptr 0 0]]]/\E.d.hours<9223372036854775808/\okL (dX E) (gq E) (bK E) X) (cG (dX E) (bK E) X) (λx=>x.elim) (λx=>x.elim) (λO=>⟨[(2,.ptr 2 0),(3,.ptr 3 0)],[.cells [.os 4],.dead,.cells (cellsOf .A1 E),.cells [.fn 119 [] [.ptr 0 0]],.row .fault O]⟩))else none),?_,?_⟩
 ·unfold ae f123;simp only[ak,true_and,and_true]
  ·refine pw mixed aB hG (by decide) (by decide) kr kr λst lc hC W=>?_;simp only[go_sem,Nat.reduceBEq,aoo]at hC;subst hC;obtain⟨t,h⟩:=st;dsimp only[LC]at W;obtain⟨e0_0,e0_1,e0_2,rfl,hb0,V⟩:=W;refine⟨251,[.ep (cellsOf .A1 E) 0],Int×Int,_,_,(bK E),Lk,(dX E),(gq E),_,X,_,_,_,[(2,.ptr 2 0),(3,.ptr 3 0)],(λO=>[.cells [.os 4],.dead,.cells (cellsOf .A1 E),.cells [.fn 119 [] [.ptr 0 0]],.row .fault O]),(λx=>x.elim),[0,1,2,3,1],?_,rfl,V,nbl rfl,?_,EH E hb0,λz_0 O Y=>⟨rfl,L0,λl=>?_,λl=>?_,?_⟩,λO=>?_,λy=>?_⟩;exact adz
   ·simp only[go_sem,sp,kg,aoF,apf,aos,aoC,aoZ,e0_0,e0_1,e0_2];all_goals (first|done|decide|(repeat' (first|refine And.intro ?_ ?_|rfl|decide)))
   simp only[ak,and_self,true_and,and_true];simp only[ak,and_self,true_and,and_true];unfold gq at Y;exact alb (jl [0,1,2,3,5]) (jl [0,1,2,3,4]);exact Uc (jl [0,1,2,3,5]) (jl [0,1,2,3,4]);exact Uc (jl [0,1,2,3,5]) (jl [0,1,2,3,4])
 unfold ae f123;try unfold g_
 exact adA (jl [0,1,4])
@[go_sem] def fZ (d:ah)(c:List Claim)(f:List Order)(e:Nat)(a:List B1):Empty⊕(List B1):=letI b:=(az d f).1;(bif(Nat.beq e 0)then .inr (bZ b 1 a)else(bif(Nat.beq e 1)then .inr (bZ b 2 a)else(bif(Nat.beq e 2)then .inr (eZ b a)else(bif(Nat.beq e 3)then .inr (fI b a)else(bif(Nat.beq e 4)then .inr (g_ b a)else .inr (eu c b a))))))
def jx (d:ah)(c:List Claim)(f:List Order)(a:Nat)(b:List B1):Prop:=letI e:=(az d f).1;(((Nat.beq a 0)=true->(gE e 1 b))/\((Nat.beq a 0)=false->(((Nat.beq a 1)=true->(gE e 2 b))/\((Nat.beq a 1)=false->(((Nat.beq a 2)=true->(j8 e b))/\((Nat.beq a 2)=false->(((Nat.beq a 3)=true->(kO e b))/\((Nat.beq a 3)=false->(((Nat.beq a 4)=true->(j9 e b))/\((Nat.beq a 4)=false->(ji c e b)))))))))))
def dL (d:ah)(c:List Claim)(a:List Order):List B1×Int:=(bif((bX d c) !=0)then([],(bX d c))else(bif((az d a).2 !=0)then([],(az d a).2)else(match aj (fZ d c a) 6 0 ([])with| .inl x=>x.elim| .inr b=>(b,0))))
def og (d:ah)(c:List Claim)(a:List Order):Prop:=((nA d c)/\(((bX d c) !=0)=false->((qO d a)/\(((az d a).2 !=0)=false->okI (fZ d c a) (jx d c a) 6 0 ([])))))
@[go_sem] def D6:m0:=(pD .al λd=>(pR .W2 λc=>(pR .order λa=>(pE (.det (og d c a) (.tup [.nw .fault ((dL d c a).1),.i ((dL d c a).2)]))))))
theorem alc(h:p:=by simp only[go_sem,iq,ir];all_goals exact cl):p:=h
theorem CN:X1 prog 63 D6:=by
 have hG:=mG (cn [.st .al,.sl .W2] xW (cn [.st .al,.sl .order] Fq (cn [.st .A1,.o] xH (cn [.st .A1,.sl .W2] xI Y1)))) (co xJ (co yk (co xK (co vV (co vW Y1)))));refine fW hG f63 [(.cell 6 0,.fault)] (ax λd=>(bG λc=>(bG λE=>(am (λW=>?_)))));dsimp only[an]at W;unfold og at W;refine⟨nbl rfl,(λid st=>bif Nat.beq id 0 then some (LC (ρ:=Empty) (σ:=List B1) (lk 6 st.t=.ptr 1 0/\lk 9 st.t=.fn 119 [] [.ptr 1 0]/\lk 41 st.t=.ls 1 [.fn 178 [] [.ep (cellsOf .A1 ((az d E).1)) 0,.ep [.i 1] 0],.fn 178 [] [.ep (cellsOf .A1 ((az d E).1)) 0,.ep [.i 2] 0],.fn 121 [.agg (cellsOf .A1 ((az d E).1))] [],.fn 122 [.agg (cellsOf .A1 ((az d E).1))] [],.fn 123 [.agg (cellsOf .A1 ((az d E).1))] [],.fn 181 [] [.ep [.rs .W2 c] 0,.ep (cellsOf .A1 ((az d E).1)) 0]]/\lk 42 st.t=.i 6/\lk 43 st.t=.i 0/\st.h=[.cells (cellsOf .al d),.cells [.v (.slice none 0 0)],.cells (cellsOf .A1 ((az d E).1))]/\okI (fZ d c E) (jx d c E) 6 0 ([])) (aj (fZ d c E) 6 0 ([])) (λx=>x.elim) (λx=>x.elim) (λV=>⟨[(6,.ptr 1 0)],[.dead,.cells [.os 3],.dead,.row .fault V]⟩))else none),?_,?_⟩
 ·unfold ae f63;simp only[ak,true_and,and_true]
  ·refine Ky mixed aB hG kr λst lc hC W=>?_;simp only[go_sem,Nat.reduceBEq,aoo]at hC;subst hC;obtain⟨t,h⟩:=st;dsimp only[LC]at W;obtain⟨e0_0,e0_1,e0_2,e0_3,e0_4,rfl,X⟩:=W;refine⟨_,_,_,(fZ d c E),(jx d c E),6,[],_,_,_,(λO V=>⟨[(6,.ptr 1 0),(9,.fn 119 [] [.ptr 1 0]),(41,.ls 1 [.fn 178 [] [.ep (cellsOf .A1 ((az d E).1)) 0,.ep [.i 1] 0],.fn 178 [] [.ep (cellsOf .A1 ((az d E).1)) 0,.ep [.i 2] 0],.fn 121 [.agg (cellsOf .A1 ((az d E).1))] [],.fn 122 [.agg (cellsOf .A1 ((az d E).1))] [],.fn 123 [.agg (cellsOf .A1 ((az d E).1))] [],.fn 181 [] [.ep [.rs .W2 c] 0,.ep (cellsOf .A1 ((az d E).1)) 0]]),(42,.i 6),(43,.i O)],[.dead,.cells [.os 3],.dead,.row .fault V]⟩),⟨t,[.cells (cellsOf .al d),.cells [.os 3],.cells (cellsOf .A1 ((az d E).1)),.row .fault ([])]⟩,[0,1,2,3],rfl,X,asv.cell (h:=[.cells (cellsOf .al d),.cells [.v (.slice none 0 0)],.cells (cellsOf .A1 ((az d E).1))]) (i:=1) (j:=0) (.row .fault ([])) (asv.refl _) rfl rfl (.inl ⟨_,rfl⟩),nbl rfl,?_,λO V hk0 hp0=>?_⟩
   ·simp only[go_sem,e0_0,e0_1,e0_2,e0_3,e0_4];all_goals (first|done|decide|(repeat' (first|refine And.intro ?_ ?_|rfl|decide)))
   refine⟨L0,?_,?_⟩;simp only[ak,and_self,true_and,and_true]
   ·have hkk:O=0\/O=1\/O=2\/O=3\/O=4\/O=5\/O=6:=g5
    have hw0_0:i64.wrap ((0:Int)+1)=((0+1:Nat):Int):=by decide
    have hw0_1:i64.wrap ((1:Int)+1)=((1+1:Nat):Int):=by decide
    have hw0_2:i64.wrap ((2:Int)+1)=((2+1:Nat):Int):=by decide
    have hw0_3:i64.wrap ((3:Int)+1)=((3+1:Nat):Int):=by decide
    have hw0_4:i64.wrap ((4:Int)+1)=((4+1:Nat):Int):=by decide
    have hw0_5:i64.wrap ((5:Int)+1)=((5+1:Nat):Int):=by decide
    rcases hkk with rfl|rfl|rfl|rfl|rfl|rfl|rfl;all_goals try (have Y:=hp0 (by decide))
    all_goals try unfold jx at Y
    all_goals try simp only[go_sem,Nat.reduceBEq,Nat.reduceEqDiff,cond_true,cond_false,true_imp_iff,false_imp_iff,aot,true_and,and_true,reduceCtorEq]at Y
    all_goals simp only[go_sem,iq,ir,fZ,aqO,Nat.reduceLT,Nat.reduceEqDiff]
    all_goals exact fU (jl [0,1,2,4]) (jl [0,1,2,3])
 unfold ae f63;try unfold dL
 exact alc
def fL (d:ah)(c:List Claim)(a:List Order):Bool×Int:=((((dL d c a).2==0)&&((((dL d c a).1).length:Int) ==0)),(dL d c a).2)
def mO (d:ah)(c:List Claim)(a:List Order):Prop:=(og d c a)
@[go_sem] def CO:m0:=(pD .al λd=>(pR .W2 λc=>(pR .order λa=>(pE (.det (mO d c a) (.tup [.v (.bool ((fL d c a).1)),.i ((fL d c a).2)]))))))
theorem Bj:X1 prog 23 CO:=by
 have hG:=mG (cn [.st .al,.sl .W2,.sl .order] CN Y1) Y1;refine fN hG f23 [.o,.o] (ax λd=>(bG λc=>(bG λO=>(am (λE=>?_)))));dsimp only[an]at E;unfold mO at E;refine⟨nbl rfl,L0,ag _,?_⟩;unfold ae f23;try unfold fL
 exact zq2
variable {d:ah}{l:List Order}
theorem xL(ho:arS d l)(k:Nat)(hk:k<l.length)(s:List (Q1×Int)×List (List Int)×List (List Int))
  (h1:ar8 s.2.1 d.reaches.length d.hours.toNat) (h2:ar8 s.2.2 d.reaches.length (d.hours+1).toNat):
  kK d l k s/\∀ s',bA d l k s=.inr s'->ar8 s'.2.1 d.reaches.length d.hours.toNat/\ar8 s'.2.2 d.reaches.length (d.hours+1).toNat:=by
 have E:=ho.one k hk;have hr:=ho.right;have a1:=hr.ar9;have a2:=hr.hours;constructor
 unfold kK;generalize l.getD k default=x at E |-;have b1:=E.as5;have b2:=E.hour;have W:=E.asP;have hw:i64.wrap (x.hour+1)=x.hour+1:=aw g5 g5;refine⟨λe=>?_,λe=>?_⟩;have V:=E.dd e;have Y:=hr.dd x.index.toNat g5;have X:=h1.row (i:=(d.zs.getD x.index.toNat default).reach.toNat) g5;grind
 have V:=E.reach e;have Y:=hr.atv W V;have hu:=Y.up;have X:=h2.row (i:=x.index.toNat) g5;rw[X,h1.1,h2.1,hw];refine⟨⟨W,V⟩,⟨W,V⟩,⟨g5,g5⟩,λhd=>?_⟩;have hd:=of_decide_eq_true hd;have hg1:=h1.row (i:=(d.reaches.getD x.index.toNat default).up.toNat) g5;omega
 ·intro s' O;unfold bA at O;simp only[aoR]at O
  repeat' split at O
  all_goals (simp only[aoK]at O;subst O;exact⟨by first|exact h1|exact h1.atY,by first|exact h2|exact h2.atY⟩)
theorem IR(hr:arW d)(k:Nat)(O:k<d.reaches.length)(j:Nat)(X:j<d.hours.toNat)(s:List (List Int))(h:ar8 s d.reaches.length (d.hours+1).toNat):
  kL d k j s/\∀ s',jp d k j s=.inr s'->ar8 s' d.reaches.length (d.hours+1).toNat:=by
 have a1:=hr.ar9;have W:=hr.hours;have hw:i64.wrap ((j:Int)+1)=(j:Int)+1:=aw g5 g5;have V:=h.row O;constructor
 grind [kL]
 intro s' E;simp only[jp,aoK]at E;subst E;exact h.atY
theorem IS(hr:arW d)(t:List (Q1×Int)×List (List Int)×List (List Int))(k:Nat)(W:k<d.reaches.length)(s:List (List Int))(h:ar8 s d.reaches.length (d.hours+1).toNat):
  kM d t k s/\∀ s',ig d t k s=.inr s'->ar8 s' d.reaches.length (d.hours+1).toNat:=by
 have a1:=hr.ar9;have a2:=hr.hours;constructor
 unfold kM;refine⟨⟨g5,by rw[h.1];omega⟩,g5,ij (λ_ s=>ar8 s d.reaches.length (d.hours+1).toNat) _ _ _ h λj s _ Y O=>IR hr k W j g5 s O⟩;intro s' E;unfold ig at E;split at E
 grind
 rename_i s3 X;simp only[aoK]at E;subst E;exact il (λ_ s=>ar8 s d.reaches.length (d.hours+1).toNat) _ _ _ h (λj s _ Y O s' V=>(IR hr k W j g5 s O).2 s' V) _ X
theorem agl (d:ah)(l:List Order):qO d l:=by
 intro h1 h2;refine⟨Ih d l,λh3 _=>?_⟩;have ho:=uS h3;have hr:=ho.right;have a1:=hr.ar9;have a2:=hr.hours;have a3:=hr.reaches;have hw:i64.wrap (d.hours+1)=d.hours+1:=aw g5 g5;have J0:∀ j (s:List (List Int)×List (List Int)),(ar8 s.1 j (d.hours+1).toNat/\ar8 s.2 j d.hours.toNat)->j<d.reaches.length->kJ d j s/\∀ s',aF d j s=.inr s'->(ar8 s'.1 (j+1) (d.hours+1).toNat/\ar8 s'.2 (j+1) d.hours.toNat):=by
  intro j s E W;constructor
  unfold kJ;have e1:=E.1.1;have e2:=E.2.1;simp only[hw,aoq,aon,aoI,true_and,dT,aI];omega;intro s' hs;simp only[aF,aoK]at hs;subst hs;simp only[hw];exact⟨E.1.app (by simp),E.2.app (by simp)⟩
 refine⟨ij (λj s=>ar8 s.1 j (d.hours+1).toNat/\ar8 s.2 j d.hours.toNat) _ _ _ ⟨⟨rfl,λi hi=>absurd hi g5⟩,⟨rfl,λi hi=>absurd hi g5⟩⟩ λj s _ W E=>J0 j s E g5,λs0 hs0 _=>?_⟩;have O:=il (λj s=>ar8 s.1 j (d.hours+1).toNat/\ar8 s.2 j d.hours.toNat) _ _ _ ⟨⟨rfl,λi hi=>absurd hi g5⟩,⟨rfl,λi hi=>absurd hi g5⟩⟩ (λj s _ W E s' V=>(J0 j s E g5).2 s' V) s0 hs0;simp only[aou]at O;refine⟨ij (λ_ s=>ar8 s.2.1 d.reaches.length d.hours.toNat/\ar8 s.2.2 d.reaches.length (d.hours+1).toNat) _ _ _ ⟨O.2,O.1⟩ λj s _ W E=>xL ho j g5 s E.1 E.2,λs1 Y _=>?_⟩;have X:=il (λ_ s=>ar8 s.2.1 d.reaches.length d.hours.toNat/\ar8 s.2.2 d.reaches.length (d.hours+1).toNat) _ _ _ ⟨O.2,O.1⟩ (λj s _ W E s' V=>(xL ho j g5 s E.1 E.2).2 s' V) _ Y;exact ij (λ_ s=>ar8 s d.reaches.length (d.hours+1).toNat) _ _ _ X.2 λj s _ W E=>IS hr s1 j (by rw[X.2.1]at W;omega) s E
structure as1 (d:ah)(l:List Order)(t:C1):Prop where
 td:t.d=d
 tl:t.l=l
 ass:ar8 t.ass d.reaches.length (d.hours+1).toNat
 drawn:ar8 t.drawn d.reaches.length d.hours.toNat
 ate:arS d l
theorem u4(h:((az d l).2 !=0)=false):as1 d l (az d l).1:=by
 have h:(az d l).2=0:=by simpa using h
 unfold az at h |-;cases h1:(decide (i64.wrap ((d.reaches.length:Int)*d.hours) > 1024) ||decide ((l.length:Int) > 4096))with
 |true=>grind
 |false=>
  rw[h1]at h;simp only[cond_false]at h |-;cases h2:(dp d l !=0)with
  |true=>grind
  |false=>
   rw[h2]at h;simp only[cond_false]at h |-;have ho:=uS h2;have hr:=ho.right;have a1:=hr.ar9;have a2:=hr.hours;have hw:i64.wrap (d.hours+1)=d.hours+1:=aw g5 g5;cases hs0:aj (aF d) d.reaches.length 0 ([],[])with
   |inl x=>exact x.elim
   |inr s0=>
    have W:=il (λj s=>ar8 s.1 j (d.hours+1).toNat/\ar8 s.2 j d.hours.toNat) _ _ _ ⟨⟨rfl,λi hi=>absurd hi g5⟩,⟨rfl,λi hi=>absurd hi g5⟩⟩ (λj s _ hj O s' hs=>by
     simp only[aF,aoK]at hs;subst hs;simp only[hw];exact⟨O.1.app (by simp),O.2.app (by simp)⟩) s0 hs0
    simp only[aou]at W;dsimp only;cases hs1:aj (bA d l) l.length 0 ([],s0.2,s0.1)with
    |inl x=>exact x.elim
    |inr s1=>
     have E:=il (λ_ s=>ar8 s.2.1 d.reaches.length d.hours.toNat/\ar8 s.2.2 d.reaches.length (d.hours+1).toNat) _ _ _ ⟨W.2,W.1⟩ (λj s _ hj O s' V=>(xL ho j g5 s O.1 O.2).2 s' V) _ hs1;dsimp only;cases X:aj (ig d s1) s1.2.2.length 0 s1.2.2 with
     |inl x=>exact x.elim
     |inr s2=>
      have Y:=il (λ_ s=>ar8 s d.reaches.length (d.hours+1).toNat) _ _ _ E.2 (λj s _ hj O s' V=>(IS hr s1 j (by rw[E.2.1]at hj;omega) s O).2 s' V) _ X;exact⟨rfl,rfl,Y,E.1,ho⟩
def gF (t:C1)(kind:Int)(k:Nat):List B1:=
 bif(t.l.getD k default).S2 then []else
 bif kind==2 then
  bif decide ((t.l.getD k default).bl< (t.d.reaches.getD (t.l.getD k default).index.toNat default).arR)then
   [{ kind:=kind,hour:=(t.l.getD k default).hour,index:=(t.l.getD k default).index,bl:=(t.l.getD k default).bl,limit:=(t.d.reaches.getD (t.l.getD k default).index.toNat default).arR}]else []
 else
  bif decide ((t.l.getD k default).bl > (t.d.reaches.getD (t.l.getD k default).index.toNat default).cap)then
   [{ kind:=kind,hour:=(t.l.getD k default).hour,index:=(t.l.getD k default).index,bl:=(t.l.getD k default).bl,limit:=(t.d.reaches.getD (t.l.getD k default).index.toNat default).cap}]else []
theorem IT (t:C1)(kind:Int)(j:Nat)(s:List B1):gj t kind j s=.inr (s++gF t kind j):=by
 unfold gj gF dh;grind
theorem D7 (t:C1)(kind:Int)(s:List B1):bZ t kind s=s++(List.range' 0 t.l.length).flatMap (gF t kind):=by
 grind [bZ,zd,IT]
theorem ZT (t:C1)(kind:Int)(k:Nat):(gF t kind k).length<=1:=by
 unfold gF;grind
theorem Qz {x:B1}{s:List B1}(h:s.length<=1000000000):cy x s:=by
 grind [cy,dT]
variable {t:C1}
theorem Ud(h:as1 d l t)(kind:Int){s:List B1}(W:s.length<=100000000):gE t kind s:=λ_=>by
 refine Nf (IT t kind) 1 (ZT t kind) λj s' O V=>?_;have X:=h.ate.len;rw[h.tl]at O;have E:=h.ate.one j O;unfold g7;rw[h.tl,h.td];generalize l.getD j default=x at E |-;have h1:∀ x,cy x s':=λx=>Qz g5;exact λe=>⟨⟨E.asP,E.reach e⟩,λ_=>⟨⟨E.asP,E.reach e⟩,λ_=>h1 _,λe=>e⟩,λ_=>⟨λ_=>h1 _,λe=>e⟩⟩
theorem Ll{z:Int×Int}(h:z∈bK t):0<=z.1/\z.1< (t.d.hours.toNat:Int)/\0<=z.2/\z.2< (t.d.reaches.length:Int):=by
 grind [bK]
theorem VS (t:C1):(bK t).length=t.d.hours.toNat*t.d.reaches.length:=by
 unfold bK;simp[List.length_flatMap,List.map_const',Nat.mul_comm]
def IU (t:C1)(z:Int×Int):Int:=
 i64.wrap ((t.ass.getD z.2.toNat default).getD (i64.wrap (z.1+1)).toNat 0 - (t.ass.getD z.2.toNat default).getD (if 0<i64.wrap (i64.wrap (z.1+1) - (t.d.reaches.getD z.2.toNat default).delay)then i64.wrap (i64.wrap (z.1+1) - (t.d.reaches.getD z.2.toNat default).delay)else 0).toNat 0)
def bF (t:C1)(z:Int×Int):List B1:=
 bif decide (IU t z > (t.d.reaches.getD z.2.toNat default).ar6)then [{ kind:=3,hour:=z.1,index:=z.2,bl:=IU t z,limit:=(t.d.reaches.getD z.2.toNat default).ar6}]else []
theorem IV (t:C1)(z:Int×Int)(s:List B1):dW t z s=.inr (s++bF t z):=by
 unfold dW bF dh IU;grind
theorem Lm (t:C1)(s:List B1):eZ t s=s++(bK t).flatMap (bF t):=by
 grind [eZ,Ip,IV]
theorem ZU (t:C1)(z:Int×Int):(bF t z).length<=1:=by
 unfold bF;grind
def wF (t:C1)(z:Int×Int):List B1:=
 bif decide ((t.drawn.getD z.2.toNat default).getD z.1.toNat 0 > fe t z.2 z.1)then [{ kind:=5,hour:=z.1,index:=z.2,bl:=(t.drawn.getD z.2.toNat default).getD z.1.toNat 0,limit:=fe t z.2 z.1}]else []
theorem IW (t:C1)(z:Int×Int)(s:List B1):dX t z s=.inr (s++wF t z):=by
 unfold dX wF dh;grind
theorem Ln (t:C1)(s:List B1):g_ t s=s++(bK t).flatMap (wF t):=by
 grind [g_,Ip,IW]
theorem ZV (t:C1)(z:Int×Int):(wF t z).length<=1:=by
 unfold wF;grind
def uF (t:C1)(m:List (Q1×Int))(h f:Nat):List B1:=
 bif decide (aC Tag.W1 Tag.int t.bl { hour:=(h:Int),index:=(f:Int),S2:=true} <aC Tag.W1 Tag.int m { hour:=(h:Int),index:=(f:Int),S2:=true})then
  [{ kind:=6,hour:=(h:Int),index:=(f:Int),bl:=aC Tag.W1 Tag.int t.bl { hour:=(h:Int),index:=(f:Int),S2:=true},limit:=aC Tag.W1 Tag.int m { hour:=(h:Int),index:=(f:Int),S2:=true}}]else []
theorem EI (t:C1)(m:List (Q1×Int))(h f:Nat)(s:List B1):gk t m h f s=.inr (s++uF t m h f):=by
 unfold gk uF dh;grind
theorem zo (t:C1)(m:List (Q1×Int))(h:Nat)(s:List B1):gm t m h s=.inr (s++(List.range' 0 t.d.zs.length).flatMap (uF t m h)):=by
 grind [gm,zd,EI]
theorem SG (t:C1)(m:List (Q1×Int))(h f:Nat):(uF t m h f).length<=1:=by
 unfold uF;grind
theorem zp(hr:arW d)(E:t.d=d):(bK t).length<=262144:=by
 rw[VS,E];have h1:d.hours.toNat<=4096:=by have:=hr.hours;omega
 exact aqz h1 hr.reaches
theorem acj(h:as1 d l t){s:List B1}(hs:s.length<=100000000):j8 t s:=by
 have hr:=h.ate.right;have a1:=hr.ar9;have Y:=hr.hours;have hc:=zp hr h.td;refine⟨by rw[h.td];omega,Ng (IV t) 1 (ZU t) _ _ λz E s' X=>?_⟩;have E:=Ll E;rw[h.td]at E;have h1:∀ x,cy x s':=λx=>Qz g5;have V:=hr.atv E.2.2.1 E.2.2.2;have b1:=V.atf;have b2:=V.delay;have hw:i64.wrap (z.1+1)=z.1+1:=aw g5 g5;have O:i64.wrap (z.1+1 - (d.reaches.getD z.2.toNat default).delay)=z.1+1 - (d.reaches.getD z.2.toNat default).delay:=aw g5 g5;have W:(t.ass.getD z.2.toNat default).length=(d.hours+1).toNat:=h.ass.row g5;unfold gn;rw[h.td,hw,O,W,h.ass.1];grind
theorem ack(h:as1 d l t){s:List B1}(W:s.length<=100000000):j9 t s:=by
 have hr:=h.ate.right;have a1:=hr.ar9;have X:=hr.hours;have hc:=zp hr h.td;refine⟨by rw[h.td];omega,Ng (IW t) 1 (ZV t) _ _ λz E s' V=>?_⟩;have E:=Ll E;rw[h.td]at E;have h1:∀ x,cy x s':=λx=>Qz g5;have O:(t.drawn.getD z.2.toNat default).length=d.hours.toNat:=h.drawn.row g5;unfold gq jg;rw[O,h.drawn.1,h.td];grind
theorem agm(h:as1 d l t){s:List B1}(W:s.length<=100000000):kO t s:=by
 have hr:=h.ate.right;have a1:=hr.ar9;have X:=hr.hours;have E:=hr.one;refine⟨by rw[h.td];omega,iA _ _ _ λj _ _ V=>?_⟩;rw[h.td]at V;have hw:i64.wrap ((j:Int)+1)=(j:Int)+1:=aw g5 g5;have O:(t.ass.getD 0 default).length=(d.hours+1).toNat:=h.ass.row E;unfold jh;rw[hw,O,h.ass.1];exact⟨⟨g5,g5⟩,⟨g5,g5⟩,λ_=>Qz g5⟩
theorem acl(h:as1 d l t)(c:List Claim){s:List B1}(hs:s.length<=100000000):ji c t s:=λ_ m _=>by
 have hr:=h.ate.right;have a1:=hr.ar9;have a2:=hr.hours;have Y:=hr.zs;have O:∀ j,((List.range' 0 t.d.zs.length).flatMap (uF t m j)).length<=600:=λj=>by
  have:=wL (uF t m j) (SG t m j) (List.range' 0 t.d.zs.length);rw[aqt]at this;rw[h.td]at *;omega
 refine⟨by rw[h.td];omega,Nf (zo t m) 600 O λj s' V X=>λ_=>?_⟩;rw[h.td]at V;have:j*600<=4096*600:=aoz _ g5;refine Nf (EI t m j) 1 (SG t m j) λi W hi E=>?_;rw[h.td]at hi;have h1:∀ x,cy x W:=λx=>Qz g5;grind [g8]
theorem QA (t:C1)(s:List B1):∃ T:List B1,fI t s=s++T/\(T=[]\/∃ x,T=[x]/\x.kind=4/\x.bl > x.limit):=by
 unfold fI;split
 rename_i y hy;obtain⟨j,_,_,h⟩:=Iq hy;unfold ef dh at h;grind
 grind
theorem VT (c:List Claim)(t:C1):∃ m,∀ s,eu c t s=s++(List.range' 0 t.d.hours.toNat).flatMap λh=>(List.range' 0 t.d.zs.length).flatMap (uF t m h):=by
 unfold eu;cases E:aj (bB c) c.length 0 []with
 |inl x=>exact x.elim
 |inr m=>
  refine⟨m,λs=>?_⟩;grind [zd,zo]
def acm(h:as1 d l (az d l).1)(c:List Claim)(j:Nat)(s:List B1)(E:s.length<=100000000):jx d c l j s:=
 ⟨λ_=>Ud h 1 E,λ_=>⟨λ_=>Ud h 2 E,λ_=>⟨λ_=>acj h E,λ_=>⟨λ_=>agm h E,λ_=>⟨λ_=>ack h E,λ_=>acl h c E⟩⟩⟩⟩⟩
theorem VU(h:as1 d l (az d l).1)(c:List Claim)(j:Nat)(s s':List B1)(E:fZ d c l j s=.inr s'):s'.length<=s.length+3000000:=by
 have hr:=h.ate.right;have hc:=zp hr h.td;have V:=h.ate.len;unfold fZ at E;generalize (az d l).1=t at h hc E;have g:∀ k,(bZ t k s).length<=s.length+3000000:=λk=>by
  have:=wL _ (ZT t k) (List.range' 0 t.l.length);rw[aqt,h.tl]at this;rw[D7,aoq,h.tl];omega
 simp only[aoR]at E
 repeat' split at E
 all_goals (simp only[aoK]at E;subst E)
 exact g 1;exact g 2;have:=wL _ (ZU t) (bK t);rw[Lm,aoq];omega;obtain⟨T,e,W⟩:=QA t s;grind
 have:=wL _ (ZV t) (bK t);rw[Ln,aoq];omega;obtain⟨m,O⟩:=VT c t;have h1:=K8 (λh=>(List.range' 0 t.d.zs.length).flatMap (uF t m h)) 600 (λx=>by
  have:=wL _ (SG t m x) (List.range' 0 t.d.zs.length);have:=hr.zs;rw[aqt]at *;rw[h.td]at *;omega) (List.range' 0 t.d.hours.toNat)
 have h2:=hr.hours;rw[aqt,h.td]at h1;rw[O,aoq,h.td];omega
theorem VV (d:ah)(c:List Claim)(l:List Order):og d c l:=by
 refine⟨K7 d c,λ_=>⟨agl d l,λh2=>?_⟩⟩;have h:=u4 h2;exact ij (λk s=>s.length<=k*3000000) _ _ _ (by simp) λj s _ O E=>⟨acm h c j s g5,λs' e=>by
  have:=VU h c j s s' e;omega⟩
def SH (d:ah)(c:List Claim)(l:List Order):mO d c l:=VV d c l
variable {c:List Claim}
theorem VW(h:((dL d c l).2 !=0)=false):
  ((az d l).2 !=0)=false/\(av d !=0)=false/\(dL d c l).1=eu c (az d l).1 (g_ (az d l).1 (fI (az d l).1 (eZ (az d l).1 (bZ (az d l).1 2 (bZ (az d l).1 1 []))))):=by
 have h:(dL d c l).2=0:=by simpa using h
 unfold dL at h |-;cases h1:(bX d c !=0)with
 |true=>grind
 |false=>
  rw[h1]at h;simp only[cond_false]at h |-;cases h2:((az d l).2 !=0)with
  |true=>grind
  |false=>
   refine⟨rfl,?_,?_⟩;grind [bX]
   rfl
def zq (c:List Claim):List (Q1×Int):=match aj (bB c) c.length 0 []with| .inl x=>x.elim| .inr m=>m
theorem SI (c:List Claim)(t:C1)(s:List B1):eu c t s=s++(List.range' 0 t.d.hours.toNat).flatMap λh=>(List.range' 0 t.d.zs.length).flatMap (uF t (zq c) h):=by
 grind [eu,zq,zd,zo]
structure Quiet (t:C1)(c:List Claim):Prop where
 gate:∀ k,k<t.l.length->gF t 1 k=[]
 auJ:∀ k,k<t.l.length->gF t 2 k=[]
 ar6:∀ z∈bK t,bF t z=[]
 arJ:∀ j,j<t.d.hours.toNat->¬ ((t.ass.getD 0 (default:List Int)).getD (i64.wrap ((j:Int)+1)).toNat 0 > t.d.arJ.start)
 atD:∀ z∈bK t,wF t z=[]
 atE:∀ h,h<t.d.hours.toNat->∀ f,f<t.d.zs.length->uF t (zq c) h f=[]
theorem SJ (t:C1)(s:List B1):(fI t s=s)↔∀ j,j<t.d.hours.toNat->¬ ((t.ass.getD 0 (default:List Int)).getD (i64.wrap ((j:Int)+1)).toNat 0 > t.d.arJ.start):=by
 unfold fI;cases O:aj (ef t s) t.d.hours.toNat 0 ()with
 |inl y=>
  obtain⟨j,_,V,hy⟩:=Iq O;simp only[ef,aoR,decide_eq_true_eq]at hy;split at hy
  rename_i hd;refine⟨λe=>?_,λh=>absurd hd (h j g5)⟩;simp_all [dh];cases hy
 |inr y=>
  refine⟨λ_ j V=>?_,λ_=>rfl⟩;have E:aj (ef t s) t.d.hours.toNat 0 ()=.inr ():=O;have:=AZ E j g5 g5;simp_all [ef,aoR]
theorem NH(h:((dL d c l).2 !=0)=false):(dL d c l).1=[]↔Quiet (az d l).1 c:=by
 obtain⟨_,_,e⟩:=VW h;rw[e];generalize (az d l).1=t;obtain⟨T,hT,hT'⟩:=QA t (eZ t (bZ t 2 (bZ t 1 [])));have E:=SJ t (eZ t (bZ t 2 (bZ t 1 [])));rw[SI,Ln];rw[hT]at E |-;rw[Lm,D7,D7,aos]at *;rw[List.append_right_eq_self]at E;simp only[aqy,E,ap2,List.mem_range'_1];constructor
 rintro⟨⟨⟨⟨⟨Y,g2⟩,g3⟩,g4⟩,X⟩,W⟩;exact⟨λk O=>Y k g5,λk O=>g2 k g5,g3,g4,X,λa ha b V=>W a g5 b g5⟩;intro q;exact⟨⟨⟨⟨⟨λk O=>q.gate k g5,λk O=>q.auJ k g5⟩,q.ar6⟩,q.arJ⟩,q.atD⟩,λa ha b V=>q.atE a g5 b g5⟩
theorem EJ (d:ah)(c:List Claim)(l:List Order):fL d c l=(true,0)↔bX d c=0/\(az d l).2=0/\Quiet (az d l).1 c:=by
 unfold fL;have E:(dL d c l).2=0↔bX d c=0/\(az d l).2=0:=by
  unfold dL;grind
 by_cases h:(dL d c l).2=0
 simp_all [NH];grind
variable {k:Nat}
theorem acn:gF t 1 k=[]↔((t.l.getD k default).S2=true\/(t.l.getD k default).bl<=(t.d.reaches.getD (t.l.getD k default).index.toNat default).cap):=by
 grind [gF]
theorem aco:gF t 2 k=[]↔((t.l.getD k default).S2=true\/(t.d.reaches.getD (t.l.getD k default).index.toNat default).arR<=(t.l.getD k default).bl):=by
 grind [gF]
theorem NI(hl:c.length<=4096)(h:∀ a∈c,1<=a.bl/\a.bl<=1073741824)(p:Q1):aC .W1 .int (zq c) p=eV p c:=by
 unfold zq;cases W:aj (bB c) c.length 0 []with
 |inl x=>exact x.elim
 |inr m=>
  have:=il (λj s=>∀ p,aC .W1 .int s p=eV p (c.take j)) _ _ _ (λp=>by rfl) (λj s _ O Y s' E p=>by
   have O:j<c.length:=g5
   unfold bB at E;simp only[aoK]at E;subst E;rw[ik _ _ O];have e:∀ q,eV q (c.take (j+1))=eV q (c.take j)+(if q=nN c[j]then c[j].bl else 0):=λq=>by
    rw[aoX O,EC];simp[eV]
   have X:=AB (nN c[j]) (c.take j) λa V=>h a (apm V);grind [lE,nN,aw]) m W
  grind
variable {h:Nat}
theorem agn{m:List (Q1×Int)}{f:Nat}:uF t m h f=[]↔¬ (aC .W1 .int t.bl { hour:=(h:Int),index:=(f:Int),S2:=true} <aC .W1 .int m { hour:=(h:Int),index:=(f:Int),S2:=true}):=by
 simp_all [uF,aoR]
structure T1 (d:ah)(pre:List Order)(s:List (Q1×Int)×List (List Int)×List (List Int)):Prop where
 lit:∀ h i o,aC .W1 .int s.1 { hour:=h,index:=i,S2:=o} =b7 (qH h i o) pre
 gd:ar8 s.2.1 d.reaches.length d.hours.toNat
 gs:ar8 s.2.2 d.reaches.length (d.hours+1).toNat
 drawn:∀ r h,r<d.reaches.length->h<d.hours.toNat->cell s.2.1 r h=b7 (jv d r h) pre
 ass:∀ r t,r<d.reaches.length->t< (d.hours+1).toNat->cell s.2.2 r t=b7 (bO r ((t:Int) - 1) ((t:Int) - 1)) pre
theorem acp(ho:arS d l){j:Nat}(Y:j<l.length){s s':List (Q1×Int)×List (List Int)×List (List Int)}(h:T1 d (l.take j) s)(X:bA d l j s=.inr s'):T1 d (l.take (j+1)) s':=by
 have hR:=ho.right;have a1:=hR.ar9;have a2:=hR.hours;have V:=ho.one j Y;rw[ik _ _ Y]at V;have hgd:=(xL ho j Y s h.gd h.gs).2 s' X;have x0:=V.as5;have x1:=V.hour;have x2:=V.asP;have x3:=V.asS;have x4:=V.bl;have hlit:s'.1=dF .W1 .int s.1 { hour:=l[j].hour,index:=l[j].index,S2:=l[j].S2} l[j].bl:=by
  unfold bA at X;grind
 refine⟨λhh i o=>?_,hgd.1,hgd.2,λr t hr ht=>?_,λr t hr ht=>?_⟩;rw[hlit,lE,rG Y,h.lit];by_cases hp:({ hour:=hh,index:=i,S2:=o}:Q1)= { hour:=l[j].hour,index:=l[j].index,S2:=l[j].S2}
 rw[if_pos hp];simp only[Q1.mk.injEq]at hp;obtain⟨e1,e2,e3⟩:=hp;have hpp:qH hh i o l[j]=true:=by grind [qH]
 rw[hpp,DS ho Y λx V=>?_];grind
 simp_all [qH];rw[if_neg hp];have hpp:qH hh i o l[j]=false:=by
  cases hq:qH hh i o l[j]with
  |false=>rfl
  |true=>
   simp_all [qH]
 grind
 have hb:=Nj ho (jv d r t) j;have O:=h.drawn r t hr ht;rw[rG Y];have hd:jv d r t l[j]=((l[j].hour==(t:Int))&&((l[j].S2&&(d.zs.getD l[j].index.toNat default).reach==(r:Int)) ||(!l[j].S2&&(d.reaches.getD l[j].index.toNat default).up==(r:Int)))):=rfl;unfold bA at X;rw[ik _ _ Y]at X;have key:∀ (E:Int),0<=E->E< (d.reaches.length:Int)->(jv d r t l[j]=((l[j].hour==(t:Int))&&(E==(r:Int))))->
   cell (s.2.1.set E.toNat ((s.2.1.getD E.toNat []).set l[j].hour.toNat (i64.wrap (((s.2.1.getD E.toNat []).getD l[j].hour.toNat 0)+l[j].bl)))) r t=b7 (jv d r t) (l.take j)+(bif jv d r t l[j]then l[j].bl else 0):=λE q0 q1 q2=>by
  rw[zQ h.gd g5 g5];by_cases hc:r=E.toNat/\t=l[j].hour.toNat
  obtain⟨rfl,rfl⟩:=hc;have:jv d E.toNat l[j].hour.toNat l[j]=true:=g6
  rw[if_pos ⟨rfl,rfl⟩,this];have O:(s.2.1.getD E.toNat []).getD l[j].hour.toNat 0=_:=O;grind [aw]
  grind
 cases W:l[j].S2 with
 |true=>
  have hf:=hR.dd l[j].index.toNat (by have:=V.dd W;omega);grind
 |false=>
  have hf:=hR.atv V.asP (V.reach W);rw[W]at X;simp only[cond_false]at X;by_cases hu:(d.reaches.getD l[j].index.toNat default).up>=0
  rw[decide_eq_true hu]at X;simp only[cond_true,aoK]at X;subst X;have:=hf.up;have:=V.reach W;grind
  grind
 have O:=h.ass r t hr ht;rw[rG Y];unfold bA at X;rw[ik _ _ Y]at X;cases W:l[j].S2 with
 |true=>
  have e:s'.2.2=s.2.2:=by
   grind
  grind [bO]
 |false=>
  have hxr:=V.reach W;have hw:i64.wrap (l[j].hour+1)=l[j].hour+1:=aw g5 g5;have e:s'.2.2=s.2.2.set l[j].index.toNat ((s.2.2.getD l[j].index.toNat []).set (l[j].hour+1).toNat l[j].bl):=by
   grind
  rw[e,zQ h.gs g5 g5];by_cases hc:r=l[j].index.toNat/\t=(l[j].hour+1).toNat
  obtain⟨rfl,rfl⟩:=hc;rw[if_pos ⟨rfl,rfl⟩];have e2:(((l[j].hour+1).toNat:Int) - 1)=l[j].hour:=g5
  have e3:((l[j].index.toNat:Nat):Int)=l[j].index:=g5
  rw[e2,e3];have:bO l[j].index l[j].hour l[j].hour l[j]=true:=by grind [bO]
  rw[this,DS ho Y λx V=>?_];grind
  unfold bO at V;grind
  rw[if_neg hc,O];have:bO r ((t:Int) - 1) ((t:Int) - 1) l[j]=false:=by
   cases hq:bO r ((t:Int) - 1) ((t:Int) - 1) l[j]with
   |false=>rfl
   |true=>
    unfold bO at hq;grind
  grind
theorem ZW(V:arS d l)(hk:k<d.reaches.length){g W:List (List Int)}(hg:ar8 g d.reaches.length (d.hours+1).toNat)
  (O:∀ t,t< (d.hours+1).toNat->cell g k t=b7 (bO k ((t:Int) - 1) ((t:Int) - 1)) l) (hr:aj (jp d k) d.hours.toNat 0 g=.inr W):
  ar8 W d.reaches.length (d.hours+1).toNat/\(∀ t,t< (d.hours+1).toNat->cell W k t=b7 (bO k 0 ((t:Int) - 1)) l)/\∀ a t,a≠k->cell W a t=cell g a t:=by
 have hR:=V.right;have a1:=hR.ar9;have a2:=hR.hours;have:=il (λj s=>ar8 s d.reaches.length (d.hours+1).toNat/\(∀ t,t< (d.hours+1).toNat->cell s k t=if t<=j then b7 (bO k 0 ((t:Int) - 1)) l else b7 (bO k ((t:Int) - 1) ((t:Int) - 1)) l)/\∀ a t,a≠k->cell s a t=cell g a t) _ _ _
  ⟨hg,λt ht=>by
   rw[O t ht];by_cases h:t<=0
   have:t=0:=g5
   subst this;rw[if_pos h];rw[pH λx hx=>?_,pH λx hx=>?_];unfold bO;grind
   obtain⟨i,hi,rfl⟩:=aoM hx;have h0:=(V.one i hi).as5;rw[ik _ _ hi]at h0;unfold bO;grind
   omega,λ_ _ _=>rfl⟩
  (λj s _ hj ⟨i1,i2,i3⟩ s' E=>by
   simp only[jp,aoK]at E;have hw:i64.wrap ((j:Int)+1)=(j:Int)+1:=aw g5 g5;rw[hw]at E;have e1:((j:Int)+1).toNat=j+1:=g5
   rw[e1]at E;have c1:=i2 (j+1) g5;have c2:=i2 j g5;rw[if_neg g5]at c1;rw[if_pos g5]at c2;have e2:(((j+1:Nat):Int) - 1)=(j:Int):=g5
   rw[e2]at c1;have b1:=DT V (bO k j j);have b2:=DT V (bO k 0 ((j:Int) - 1));have Y:(s.getD k []).getD (j+1) 0=b7 (bO k j j) l:=c1;have X:(s.getD k []).getD j 0=b7 (bO k 0 ((j:Int) - 1)) l:=c2;rw[Y,X,aw g5 g5]at E;have hsp:=Ss V k j;subst E;refine⟨i1.atY,λt ht=>?_,λa t ha=>?_⟩;rw[zQ i1 hk g5];grind
   rw[zQ i1 hk g5,if_neg (λe=>ha e.1)];grind) W hr
 grind
structure atO (d:ah)(l:List Order)(t:C1):Prop where
 lit:∀ h i o,aC .W1 .int t.bl { hour:=h,index:=i,S2:=o} =b7 (qH h i o) l
 drawn:∀ r h,r<d.reaches.length->h<d.hours.toNat->cell t.drawn r h=b7 (jv d r h) l
 ass:∀ r j,r<d.reaches.length->j< (d.hours+1).toNat->cell t.ass r j=b7 (bO r 0 ((j:Int) - 1)) l
theorem ago(h:(az d l).2=0):atO d l (az d l).1:=by
 have ht:=u4 (d:=d) (l:=l) (by simp[h]);have ho:=ht.ate;have hR:=ho.right;have a1:=hR.ar9;have a2:=hR.hours;unfold az at h |-;cases h1:(decide (i64.wrap ((d.reaches.length:Int)*d.hours) > 1024) ||decide ((l.length:Int) > 4096))with
 |true=>grind
 |false=>
  rw[h1]at h;simp only[cond_false]at h |-;cases h2:(dp d l !=0)with
  |true=>grind
  |false=>
   simp only[cond_false];have hw:i64.wrap (d.hours+1)=d.hours+1:=aw g5 g5;cases hs0:aj (aF d) d.reaches.length 0 ([],[])with
   |inl x=>exact x.elim
   |inr s0=>
    have O:=il (λj s=>(s.1.length=j/\∀ k,k<j->s.1.getD k []=List.replicate (d.hours+1).toNat 0)/\(s.2.length=j/\∀ k,k<j->s.2.getD k []=List.replicate d.hours.toNat 0)) _ _ _ ⟨⟨rfl,λk hk=>g5⟩,⟨rfl,λk hk=>g5⟩⟩ (λj s _ X hg s' hs=>by
     simp only[aF,aoK]at hs;grind) s0 hs0
    simp only[aou]at O;dsimp only;cases hs1:aj (bA d l) l.length 0 ([],s0.2,s0.1)with
    |inl x=>exact x.elim
    |inr s1=>
     have Y:T1 d (l.take 0) ([],s0.2,s0.1):=by
      refine⟨λ_ _ _=>by rfl,⟨O.2.1,λi hi=>g6⟩,⟨O.1.1,λi hi=>g6⟩,λr h hr _=>?_,λr t hr _=>?_⟩;simp only[ap3,b7];exact K9 _ _ r h hr _ O.2.2;simp only[ap3,b7];exact K9 _ _ r t hr _ O.1.2
     have V:=il (λj s=>T1 d (l.take j) s) _ _ _ Y (λj s _ X hg s' E=>acp ho g5 hg E) s1 hs1;rw[aou,apD]at V;dsimp only;cases hs2:aj (ig d s1) s1.2.2.length 0 s1.2.2 with
     |inl x=>exact x.elim
     |inr s2=>
      have hlen:=V.gs.1;have W:=il (λj s=>ar8 s d.reaches.length (d.hours+1).toNat/\(∀ a t,a<j->a<d.reaches.length->t< (d.hours+1).toNat->cell s a t=b7 (bO a 0 ((t:Int) - 1)) l)/\∀ a t,j<=a->cell s a t=cell s1.2.2 a t) _ _ _
       ⟨V.gs,λa t ha=>g5,λ_ _ _=>rfl⟩ (λj s _ X ⟨i1,i2,i3⟩ s' E=>by
        unfold ig at E;split at E
        grind
        rename_i s3 W;simp only[aoK]at E;subst E;obtain⟨q1,q2,q3⟩:=ZW ho g5 i1 (λt ht=>by rw[i3 j t (aom _)];exact V.ass j t g5 ht) W;grind) s2 hs2
      rw[aou]at W;exact⟨V.lit,V.drawn,λr j hr X=>W.2.1 r j g5 hr X⟩
theorem ZX(E:arS d l)(ht:t.d=d)(h2:atO d l t){r:Nat}(hh:h<d.hours.toNat)(hr:r<d.reaches.length):
  IU t ((h:Int),(r:Int))=b7 (bO r ((h:Int) - (d.reaches.getD r default).delay+1) h) l:=by
 have O:=E.right;have a1:=O.ar9;have a2:=O.hours;have W:=O.asY hr;have d1:=W.atf;have d2:=W.delay;unfold IU;rw[ht];simp only[aol];generalize hdl:(d.reaches.getD r default).delay=dl at d1 d2;have w1:i64.wrap ((h:Int)+1)=(h:Int)+1:=aw g5 g5;have w2:i64.wrap ((h:Int)+1 - dl)=(h:Int)+1 - dl:=aw g5 g5;rw[w1,w2];generalize hm:(if 0< (h:Int)+1 - dl then(h:Int)+1 - dl else 0)=m;have V:0<=m/\m<=h/\(m=(h:Int)+1 - dl\/m=0/\(h:Int)+1 - dl<=0):=by
  omega
 have c1:=h2.ass r (h+1) hr g5;have c2:=h2.ass r m.toNat hr g5;have e1:((h:Int)+1).toNat=h+1:=g5
 rw[e1];show i64.wrap (cell t.ass r (h+1) - cell t.ass r m.toNat)=_;rw[c1,c2];have e2:(((h+1:Nat):Int) - 1)=(h:Int):=g5
 have Y:((m.toNat:Nat):Int)=m:=g5
 rw[e2,Y];have b1:=DT E (bO r 0 h);have b2:=DT E (bO r 0 (m - 1));have X:=Qg E r (a:=0) (m:=m) (b:=h) V.1 g5;have hz:b7 (bO r ((h:Int) - dl+1) h) l=b7 (bO r m h) l:=by
  rcases V.2.2 with e| ⟨e,e'⟩;grind
  rw[e];exact Zg E r g5
 grind [aw]
theorem QB{r:Nat}(E:h<t.d.hours.toNat)(hr:r<t.d.reaches.length):((h:Int),(r:Int))∈bK t:=by
 unfold bK;simp only[apJ,apN,apb];grind
theorem sure(h:fL d c l=(true,0)):auN d c l:=by
 obtain⟨h1,h2,q⟩:=(EJ d c l).1 h;have hc:=(jW d c).1 h1;have ht:=u4 (d:=d) (l:=l) (by simp[h2]);have Y:=ht.ate;have O:=ago h2;have E:=ht.td;have htl:=ht.tl;have V:=Y.right;have a1:=V.ar9;have a2:=V.hours;generalize (az d l).1=t at q O E htl;refine⟨Y,hc.2.1,hc.2.2.1,λr h hr=>?_,λr h hr W=>?_,λh W=>?_,λr h hr W=>?_,λh f W hf=>?_⟩;have X:=V.asY hr;have:=X.atW;have:=X.arR;rcases Qf Y (r:Int) (h:Int)with e| ⟨j,hj,e1,e2,e3,e⟩;omega;have:=acn.1 (q.gate j g6);grind
 have:=q.ar6 _ (QB (t:=t) (h:=h) (r:=r) g6 g6);unfold bF at this;rw[aoR,ZX Y E O W hr,E]at this;grind
 have:=q.arJ h g6;have w1:i64.wrap ((h:Int)+1)=(h:Int)+1:=aw g5 g5;have c1:=O.ass 0 (h+1) V.one g5;have e1:((h:Int)+1).toNat=h+1:=g5
 have e2:(((h+1:Nat):Int) - 1)=(h:Int):=g5
 rw[e2]at c1;have c1:(t.ass.getD 0 default).getD (h+1) 0=b7 (bO (0:Nat) 0 h) l:=c1;grind
 have:=q.atD _ (QB (t:=t) (h:=h) (r:=r) g6 g6);unfold wF at this;rw[aoR]at this;simp only[aol,decide_eq_true_eq]at this;split at this
 cases this;rename_i hw;have X:=V.asY hr;have d1:=X.atf;have d2:=X.delay;have c1:(t.drawn.getD r default).getD h 0=b7 (jv d r h) l:=O.drawn r h hr W;unfold fe at hw;rw[c1,E]at hw;simp only[aol]at hw;have eg:∀ r h:Int,b7 (qH h r false) l=b7 (bO r h h) l:=λr h=>uT λx _=>Sv r h x;rw[aw g5 g5,O.lit,eg]at hw;omega;have:=agn.1 (q.atE h g6 f g6);have eo:b7 (qH (h:Int) (f:Int) true) l=b7 (Cv f h) l:=uT λx _=>VA _ _ x;rw[O.lit,NI hc.2.1 (λa ha=>Bb (hc.2.2.1 a ha)),eo]at this;grind
section
variable {d:ah}{c:List Claim}{l:List Order}
theorem VX:(az d l).2=0↔dp d l=0/\l.length<=4096/\(d.reaches.length:Int)*d.hours<=1024:=by
 constructor
 intro h;have E:=(u4 (d:=d) (l:=l) (by rw[h];rfl)).ate.right;have O:=zP E;have hw:i64.wrap ((d.reaches.length:Int)*d.hours)=(d.reaches.length:Int)*d.hours:=aw g5 g5;unfold az at h;grind
 rintro⟨h1,h2,V⟩;have E:=(M_ h1).right;have O:=zP E;have hw:i64.wrap ((d.reaches.length:Int)*d.hours)=(d.reaches.length:Int)*d.hours:=aw g5 g5;unfold az;grind
theorem VY (r h:Int):Qe l r h=b7 (bO r h h) l:=uT λx _=>by
 unfold gP bO;grind
theorem agp (E:asG d l):b7 (bO (0:Nat) 0 ((d.hours.toNat - 1:Nat):Int)) l=b7 g0P l:=uT λx O=>by
 have h1:=E.one x O;have h2:=h1.as5;have V:=h1.hour;unfold g0P bO;grind
theorem acq {p q:Order->Bool}(E:∀ x∈l,1<=x.bl)(h:∀ x,p x=true->q x=true):b7 p l<=b7 q l:=by
 induction l with
 |nil=>exact ao7 _
 |cons x r O=>
  have h1:=O λy hy=>E y (aor _ hy);have h2:=E x aow;simp only[b7];grind
theorem ZY (hc:bX d c=0){f h:Int}(hn:tQ c f h≠0):0<=f/\f< (d.zs.length:Int)/\0<=h/\h<d.hours:=by
 obtain⟨a,E,e⟩:=Bd hn;have O:=((jW d c).1 hc).2.2.1 a E;simp_all [okC,oP,nN]
theorem IX (h:fL d c l=(true,0)):Srv d c l:=by
 have Y:=sure h;obtain⟨h1,h2,q⟩:=(EJ d c l).1 h;obtain⟨r1,r2,r3⟩:=VX.1 h2;have O:=M_ r1;have ho:=O.asB;have hR:=O.right;have a1:=hR.ar9;have ht:=u4 (d:=d) (l:=l) (by rw[h2];rfl);have htl:=ht.tl;have htd:=ht.td;have E:akR d l:=λr t X hd=>by
  obtain⟨b1,b2,b3⟩:=Nb (r:=r) (h:=t) O X g5;obtain⟨r,rfl⟩:=apy X;obtain⟨t,rfl⟩:=apy b2;have V:=hR.reach (k:=r) g5;have W:=Su ho (r:Int) ((t:Int) - (rch d (r:Int)).delay);have e4:d.reaches.getD r (default:Reach)=rch d (r:Int):=by rfl
  rw[e4]at V;have hw:=oe V W.1 W.2;refine⟨_,by rw[VY];exact hw,?_⟩;have:=Y.atD r t g5 g5;rw[e4,hw]at this;exact this
 refine⟨⟨O,λx V ho=>?_,E⟩,r3,⟨λt i ht hi=>?_,λt i ht hi=>?_,?_⟩,λf t=>?_⟩;obtain⟨i,hi,rfl⟩:=aoM V;have:=aco.1 (q.auJ i g6);grind
 have:=Y.cap i t hi;grind
 have:=Y.ar6 i t hi ht;grind
 rw[<-agp O];exact Y.arJ _ g5;by_cases h0:tQ c f t=0
 rw[h0];exact Nc λx V=>by have:=(O.one x V).asS;omega
 obtain⟨b1,b2,b3,b4⟩:=ZY h1 h0;have:=Y.atE t.toNat f.toNat g5 g5;rw[apq b1,apq b3]at this;exact this
end
theorem ald {α ρ:Type}{step:Nat->Unit->ρ⊕Unit}(d:α)(P:α->Bool):∀ (L K:List α),(∀ k,∃ r,step k ()=bif P ((K++L).getD k d)then .inl r else .inr ())->(match aj step L.length K.length ()with| .inl _=>true| .inr _=>false)=L.any P
 | [],K,_=>rfl
 |x::L,K,h=>by
  have E:=h K.length;have g:(K++x::L).getD K.length d=x:=by simp
  rw[g]at E;obtain⟨r,e⟩:=E;have O:=ald d P L (K++[x]) (by simpa using h);rw[aoq,aon,aoI,aou]at O;rw[aon,aj,e,List.any_cons];grind
theorem ZZ {step:Nat->List Claim->Empty⊕List Claim}{p:Nat->List Claim->Prop}(P:Claim->Bool):∀ (L K:List Claim) (t:List Claim),(∀ k s,step k s=bif P ((K++L).getD k default)then .inr (s++[(K++L).getD k default])else .inr s)->(∀ k s,s.length<4096->p k s)->t.length+L.length<=4096->aj step L.length K.length t=.inr (t++L.filter P)/\okI step p L.length K.length t
 | [],K,t,_,_,_=>by simp[aj,okI]
 |x::L,K,t,h,E,hn=>by
  have g:(K++x::L).getD K.length default=x:=by simp
  have e:=h K.length t;rw[g]at e;simp only[aon]at hn;have O:=λt' (V:t'.length+L.length<=4096) =>ZZ P L (K++[x]) t' (by simpa using h) E V;simp only[aoq,aon,aoI,aou]at O;rw[aon,aj,okI,e];grind
section
variable {d:ah}{c:List Claim}{P:List Y2}
structure MJ (d:ah)(c:List Claim)(S:List Y2)(t:Mp×UP):Prop where
 one:∀ x∈S,(0<=x.reach/\x.reach< (d.reaches.length:Int))/\(0<=x.hour/\x.hour<d.hours)/\1<=x.bl/\x.bl<=1073741824
 uni:S.Pairwise λx y=>¬ (x.reach=y.reach/\x.hour=y.hour)
 sum:∀ a b,aC .arQ .int t.1 (a,b)=drw d (c.map toC++S.map toG) a b
 seen:∀ x∈S,aC .arQ .bool t.2 (x.reach,x.hour)=true
theorem VZ (hr:arW d)(hc:∀ a∈c,1<=a.bl/\a.bl<=1073741824)(hn:c.length<=4096)(hl:P.length<=1024){j:Nat}(E:j<P.length){t t':Mp×UP}(h:MJ d c (P.take j) t)(e:c7 { d:=d,c:=c} P j t=.inr t'):MJ d c (P.take (j+1)) t':=by
 have V:=hr.reaches;have X:=hr.one;have hH:=hr.hours;have W:=hr.ar9;have O:=ach (d:=d) hc hn (S:=P.take j) (λx hx=>(h.one x hx).2.2) g6 (rch d P[j].reach).up P[j].hour;have g:P.getD j default=P[j]:=ik P default E;unfold c7 at e;simp only[g]at e;rw[aw (n:=(d.reaches.length:Int) - 1) g5 g5,aw (n:=d.hours - 1) g5 g5,aoR]at e;split at e
 cases e;rename_i q;simp only[aoN,aox,not_or,Bool.not_eq_false,apK,xE]at q;obtain⟨⟨⟨q1,Y⟩,q3⟩,q4⟩:=q;cases e;rw[aoX E];refine⟨λx hx=>?_,aoG.2 ⟨h.uni,ao1 _ _,λx hx y hy k=>?_⟩,λa b=>?_,λx hx=>?_⟩;rcases aoQ.1 hx with hx|hx;exact h.one x hx;grind
 rw[ao6.1 hy]at k;have:=h.seen x hx;grind
 rw[ZR];unfold rch at O |-;rw[Ub (k:=.arQ),h.sum (d.reaches.getD P[j].reach.toNat default).up P[j].hour,aw g5 g5];have:=h.sum a b;grind
 rcases aoQ.1 hx with hx|hx;have:=h.seen x hx;grind [Ub]
 grind [Ub]
theorem Z0 (hr:arW d)(hc:∀ a∈c,1<=a.bl/\a.bl<=1073741824)(hn:c.length<=4096)(hl:P.length<=1024)(h:(cL { d:=d,c:=c} P).2=true):
  (∀ x∈P,MP d c P x)/\P.Pairwise (λx y=>¬ (x.reach=y.reach/\x.hour=y.hour))/\∀ a b,aC .arQ .int (cL { d:=d,c:=c} P).1 (a,b)=drw d (c.map toC++P.map toG) a b:=by
 unfold cL at h |-;cases X:aj (c7 { d:=d,c:=c} P) P.length 0 (bP { d:=d,c:=c},[])with
 |inl y=>grind
 |inr t=>
  have O:=il (step:=c7 { d:=d,c:=c} P) (λj t=>MJ d c (P.take j) t) P.length 0 (bP { d:=d,c:=c},[]) ⟨λ_ h=>(by cases h),.nil,λa b=>by rw[VQ hc hn,ap3,aoZ,aoC],λ_ h=>(by cases h)⟩ (λj t _ V h t' e=>VZ hr hc hn hl g5 h e) t X;rw[aou,apD]at O;rw[X]at h;simp only at h |-;cases e2:aj (iP { d:=d,c:=c} P t) P.length 0 ()with
  |inl y=>grind
  |inr u=>
   refine⟨λx Y=>?_,O.uni,O.sum⟩;obtain⟨j,V,rfl⟩:=aoM Y;have e:=AZ e2 j (aoV _) g5;have g:P.getD j default=P[j]:=ik P default V;obtain⟨⟨W,x2⟩,⟨x3,x4⟩,x5,x6⟩:=O.one _ Y;have hk:P[j].reach.toNat<d.reaches.length:=g5
   have E:=wK hr hk;rw[apq W]at E;have hH:=hr.hours;have hw:i64.wrap (P[j].hour+(rch d P[j].reach).delay)=P[j].hour+(rch d P[j].reach).delay:=aw g5 g5;have hW:(gS (rch d P[j].reach) (i64.wrap (P[j].bl - 1))).1=wst (rch d P[j].reach) (P[j].bl - 1):=by
    rw[aw g5 g5,oe (hr.reach _ hk) g5 g5]
   unfold iP at e;simp only[g]at e;unfold rch at hw hW E;rw[hw,hW,O.sum,aoR]at e;split at e
   cases e;rename_i q;simp only[aoN,aoj,not_or,not_and,decide_eq_true_eq,bne_iff_ne,Decidable.not_not]at q;obtain⟨⟨q1,q2⟩,q3⟩:=q;refine⟨W,x2,x3,x4,x5,x6,g5,q2,?_⟩;grind
end
@[go_sem] def rJ (n:Int)(a:List Int)(b:Nat)(c:Unit):Unit⊕Unit:=(bif((a.getD b 0) ==n)then .inl ()else .inr ())
def kY (n:Int)(a:List Int):Bool:=(match aj (rJ n a) a.length 0 ()with| .inl b=>true| .inr c=>false)
@[go_sem] noncomputable def Ft:m0:=(pI λn=>(pXR .int λl_=>(pE (.det True (.v (.bool (kY n l_)))))))
theorem D8:X1 prog 58 Ft:=by
 have hG:=mG Y1 Y1;refine fN hG f58 [.o] (aG λn=>(xb λE=>(am (λY=>?_))));dsimp only[an]at Y;refine⟨nbl rfl,(λid st=>bif Nat.beq id 0 then some (LCR (ρ:=Unit) (σ:=Unit) 0 [] [] (λO V=>⟨[(0,.i n),(6,.rs .int E),(7,.i (E.length:Int)),(8,.i O)],[]⟩) (rJ n E) pT E.length () (E.length<=aI) (λ_=>.ret) (λW=>⟨[(3,.v (.bool true))],[]⟩) st)else none),?_,?_⟩;unfold ae f58;simp only[ak,true_and,and_true];refine bu mixed aB hG kr (λ_=>rfl) (E.length:Int) rfl fO (λhb0 O V X _ hw hc=>⟨L0,ag _,?_⟩) (λhb0 V hc=>?_);exact bC (jl []);exact bD (jl []);unfold ae f58;try unfold kY
 exact zq2
@[go_sem] def J1:m0:=(pR .int λa=>(pE (.det True (.fn 58 [] [.ep [.rs .int a] 0]))))
theorem IY:X1 prog 20 J1:=by
 have hG:=mG Y1 Y1;refine fN hG f20 [.o] (bG λE=>(am (λO=>?_)));refine⟨nbl rfl,L0,ag _,?_⟩;unfold ae f20;simp only[go_sem,sq,sr,Nat.reduceBEq,Nat.reduceLeDiff,Nat.reduceAdd,Nat.reduceSub,Nat.reduceMul]
@[go_sem] def vL (c:List Claim)(d:List Int)(a:Nat)(b:List Claim):Empty⊕(List Claim):=(bif(kY ((c.getD a default).right) d)then .inr (b++([(c.getD a default)]))else .inr b)
def r9 (c:List Claim)(b:List Int)(a:Nat)(d:List Claim):Prop:=((kY ((c.getD a default).right) b)=true->((d++([(c.getD a default)])).length*40<=dT))
def wR (c:List Claim)(a:List Int):List Claim:=(match aj (vL c a) c.length 0 ([])with| .inl x=>x.elim| .inr b=>b)
def xM (c:List Claim)(a:List Int):Prop:=(c.length<=aI->okI (vL c a) (r9 c a) c.length 0 ([]))
@[go_sem] noncomputable def SK:m0:=(pR .W2 λc=>(pFn 58 (pXR .int λl_=>(pE ((pE (.det (xM c l_) (.rs .W2 (wR c l_)))))))))
theorem QC:X1 prog 19 SK:=by
 have hG:=mG (cp D8 Y1) Y1;refine fN hG f19 [.sl .W2] (bG λc=>(o5 (xb λW=>(am ((am (λY=>?_)))))));dsimp only[an]at Y;unfold xM at Y;refine⟨nbl rfl,(λid st=>bif Nat.beq id 0 then some (LCR (ρ:=Empty) (σ:=(List Claim)) 0 [.slot 4 (.row .W2 ([]))] [0] (λO E=>⟨[(1,.fn 58 [] [.ep [.rs .int W] 0]),(4,.os 0),(7,.rs .W2 c),(8,.i (c.length:Int)),(9,.i O)],[.row .W2 E]⟩) (vL c W) (r9 c W) c.length ([]) (c.length<=aI) ((·.elim)) ((·.elim)) st)else none),?_,?_⟩;unfold ae f19;simp only[ak,true_and,and_true];refine bu mixed aB hG kr (λ_=>rfl) (c.length:Int) rfl fO (λhb0 O E X V hw hc=>⟨L0,ag _,?_⟩) (λhb0 E hc=>?_);unfold r9 at V;try simp only[hw,aol]at V
 exact lm (jl [3]) (jl [0]);exact ln (jl [3]) (jl [0]);unfold ae f19;try unfold wR
 exact zq2
def kP (a:ah)(b:List bn)(c d e:Int)(f:arO)(i:List Order):Bool:=letI g:=bS a b c d e f;letI j:=aN a b c d e;letI k:=wR (j.1) f.bh;letI h:=aT a k;letI l:=fL a k i;(bif(!rI)then false else(bif(((!(rH a b c d e)) ||(!(uc f))) ||(decide ((i.length:Int) > 300)))then true else(bif((g.2 !=0) ||(!g.1))then(!g.1)else(((((j.2==0)&&(h.2.2==0))&&(!h.2.1))&&(((h.1).length:Int) ==0))&&((l.2 !=0) ||(!l.1))))))
def lg (a:ah)(b:List bn)(c d e:Int)(f:arO)(g:List Order):Prop:=letI h:=(aN a b c d e).1;letI i:=bS a b c d e f;letI j:=wR h f.bh;((tR)/\((!rI)=false->((vK a b c d e)/\((((!(rH a b c d e)) ||(!(uc f))) ||(decide ((g.length:Int) > 300)))=false->((iQ a b c d e f)/\(((i.2 !=0) ||(!i.1))=false->((sN a b c d e)/\((xM h f.bh)/\((jN a j)/\(mO a j g))))))))))
@[go_sem] def oy:m0:=(pD .al λa=>(pR .M1 λb=>(pI λc=>(pI λd=>(pI λe=>(pD .refusal λf=>(pR .order λg=>(pE (.det (lg a b c d e f g) (.v (.bool (kP a b c d e f g))))))))))))
theorem zr:X1 prog 8 oy:=by
 have hG:=mG (cp JZ (cn [.st .al,.sl .M1,.o,.o,.o] NA (cn [.st .refusal] Ny (cn [.st .al,.sl .M1,.o,.o,.o,.st .refusal] xZ (cn [.st .al,.sl .M1,.o,.o,.o] Ci (cn [.st .al,.sl .W2] vH (cn [.sl .W2,.o] QC (cn [.sl .int] IY (cn [.st .al,.sl .W2,.sl .order] Bj Y1))))))))) Y1;refine fN hG f8 [.o] (ax λa0=>(bG λa1=>(aG λX=>(aG λO=>(aG λY=>(ax λV=>(bG λW=>(am (λE=>?_)))))))));dsimp only[an]at E;unfold lg at E;refine⟨nbl rfl,L0,ag _,?_⟩;unfold ae f8;try unfold kP
 exact zq2
section
variable {d:ah}{c:List Claim}{P:List Y2}
variable {l:List Order}
theorem acr{o:List Order}(hr:arW d)(hk:(o++P.map toG).Pairwise λx y=>¬K x y)(V:∀ x∈P,MP d c P x)(he:∀ r h,drw d o r h=drw d (c.map toC) r h)(hout:∀ x∈o,∃ z∈l,K z x/\x.bl<=z.bl)(W:atI d l):
  ∀ (n:Nat) (x:Y2),x∈P->(d.reaches.length:Int) - x.reach<=n->∃ z∈l,K z (toG x)/\x.bl<=z.bl:=by
 intro n;induction n with
 |zero=>intro x O hn;have:=(V x O).i1;omega
 |succ n ih=>
  intro x O hn;have g:=V x O;have hD:drw d (c.map toC++P.map toG) x.reach (x.hour+(rch d x.reach).delay)<=drw d l x.reach (x.hour+(rch d x.reach).delay):=by
   rw[vF,<-he,<-vF];refine zc (K5 d _ _) _ _ hk (λy hy hp=>?_) λz E=>by have:=W.good.asB.lit z E;omega
   rcases aoQ.1 hy with hy|hy;grind
   obtain⟨y,X,rfl⟩:=apb.1 hy;have Y:=V y X;refine ih y X ?_;unfold jv toG at hp;simp only[are,aoS,apX,apV,aoj,beq_iff_eq]at hp;have i0:=Y.i0;have i1:=Y.i1;have:=Y_ hr (r:=y.reach.toNat) g5;grind
  have h1:=g.w;have h2:=g.w1;obtain⟨z,E,z1,z2,z3,z4,z5,z6,z7,_⟩:=K6 W g.i0 (by omega:1<=drw d l x.reach (x.hour+(rch d x.reach).delay));refine⟨z,E,⟨by show z.hour=x.hour;omega,z2,by rw[z1];rfl⟩,?_⟩;rcases g.s with s|s;omega;by_cases q:x.bl<=z.bl
  exact q;have i0:=g.i0;have i1:=g.i1;have l1:=g.l1;have:wst (rch d x.reach) z.bl<=wst (rch d x.reach) (x.bl - 1):=Cs (hr.reach x.reach.toNat g5) g5 g5 g5;omega
theorem agq(hA:asI d c)(r:arO)(hl:r.arz.length<=1024)(hm:(cL { d:=d,c:=c} r.arz).2=true)(hi:0<=r.reach/\r.reach< (d.reaches.length:Int))(hh:0<=r.hour/\r.hour<d.hours)
  (hB:(r.kind=1/\nP r r (d.reaches.getD r.reach.toNat default)=true)\/(r.kind=3/\nQ r r (d.reaches.getD r.reach.toNat default)=true)\/(r.kind=4/\nR r r d=true)\/
   (r.kind=7/\nS (cL { d:=d,c:=c} r.arz).1 r (d.reaches.getD r.reach.toNat default)=true))  (V:Srv d c l):False:=by
 have hN:=hA.nar;have hr:=hN.good.right;have ho:=hA.outs;obtain⟨X,hln⟩:=ZS hA.chk;obtain⟨hM,hU,hm⟩:=Z0 hr X hln hl hm;have he:=λa b=>VP (d:=d) ho (λa ha=>(X a ha).1) hN.good.keys a b;have E:(aq c++r.arz.map toG).Pairwise λx y=>¬K x y:=by
  refine aoG.2 ⟨hN.good.keys,aqb.2 (hU.imp λh k=>h ⟨k.2.1,k.1⟩),λx O y hy k=>?_⟩;obtain⟨z,_,rfl⟩:=apb.1 hy;have:=ho.out x O;rw[k.2.2]at this;cases this
 have hdom:=V.dom hA.chk;have hP:∀ x∈r.arz.map toG,∃ z∈l,K z x/\x.bl<=z.bl:=λx O=>by
  obtain⟨y,hy,rfl⟩:=apb.1 O;exact acr hr E hM he hdom V.kp d.reaches.length y hy (by have:=(hM y hy).i0;omega)
 have W:∀ z∈l,0<=z.bl:=λz hz=>by have:=V.kp.good.asB.lit z hz;omega
 have key:∀ p:Order->Bool,(∀ x y,K x y->p x=p y)->b7 p (r.arz.map toG)<=b7 p l:=λp hp=>zc hp _ _ (aoG.1 E).2.1 (λx O _=>hP x O) W;have PW:=λfr to=>aci r fr to (λx O=>⟨(hM x O).l0,(hM x O).l1⟩) hl;obtain⟨i,ei⟩:=apy hi.1;obtain⟨t,et⟩:=apy hh.1;have hH:=hr.hours;have hdl:=wK hr (r:=i) g5;have Y:d.reaches.getD r.reach.toNat default=rch d (i:Int):=by rw[ei]
 rw[Y]at hB;rcases hB with⟨_,b⟩ | ⟨_,b⟩ | ⟨_,b⟩ | ⟨_,b⟩;unfold nP at b;rw[PW,decide_eq_true_eq,ei,et]at b;have h1:=key _ (ND (i:Int) (t:Int) (t:Int));have h2:=V.lim.cap t i g5 g5;omega;unfold nQ at b;rw[PW,decide_eq_true_eq,ei,et,aw (n:=(t:Int) - _) g5 g5,aw g5 g5]at b;have h1:=key _ (ND (i:Int) ((t:Int) - (rch d i).delay+1) (t:Int));have h2:=V.lim.ar6 t i g5 g5;omega;unfold nR at b;rw[PW]at b;simp only[aoj,beq_iff_eq,decide_eq_true_eq]at b;obtain⟨⟨b1,b2⟩,b3⟩:=b;rw[b1]at b3;have h1:=key _ (ND 0 0 d.hours);have h2:=V.lim.arJ;have h3:b7 (bO 0 0 d.hours) l<=b7 g0P l:=acq (λx O=>(V.kp.good.asB.lit x O).1) λx O=>by
  simp_all [bO,g0P]
 omega;unfold nS at b;rw[hm,ei,et]at b;have h1:drw d (c.map toC++r.arz.map toG) i t<=drw d l i t:=by
  rw[vF,<-he,<-vF];refine zc (K5 d _ _) _ _ E (λy hy _=>?_) W;grind
 have O:cH (i:Int) (rch d (i:Int))=true:=hr.reach i g5;have hw:=Sm O (v:=1073741824) g5 g5;rw[oe O g5 g5]at b;simp only[aoN,aoj,decide_eq_true_eq]at b;have b:((0:Int) <drw d (c.map toC++r.arz.map toG) i t/\(t:Int) < (rch d i).delay)\/wst (rch d i) 1073741824<drw d (c.map toC++r.arz.map toG) i t:=b;obtain⟨z,hz,z1,z2,z3,z4,z5,z6,z7,_⟩:=K6 V.kp (by omega:(0:Int)<=i) (by omega:1<=drw d l i t);have z8:=(V.kp.good.one z hz).as5;have:=Cs O (a:=z.bl) (b:=1073741824) g5 z6 g5;omega
end
section
variable {d:ah}{l:List bn}{fr to k:Int}
variable {r:arO}
theorem IZ(h:bS d l fr to k r=(true,0)):Opn d l fr to k:=by
 refine(Nt d l fr to k).1 ?_;grind [bS]
theorem V0(h:(bS d l fr to k r).2≠0):(bS d l fr to k r).1=false:=by
 grind [bS]
theorem Z1(hl:r.arz.length<=1024)(h:bS d l fr to k r=(true,0)){L:List Order}(hS:Srv d (flt (aN d l fr to k).1 r.bh) L):False:=by
 have E:=IZ h;have W:=EG E.ask λx=>!bq x r.bh;have hr:=W.nar.good.right;have h64:=hr.reaches;have hH:=hr.hours;have hH1:=hr.ar9;have O:dw { d:=d,c:=(aN d l fr to k).1} r.bh= { d:=d,c:=flt (aN d l fr to k).1 r.bh}:=(xp { d:=d,c:=(aN d l fr to k).1} r.bh (zl d l fr to k)).2;unfold bS at h;rw[D4 E]at h;simp only[bne_self_eq_false,cond_false,O]at h;cases e1:aj (eU d l fr to k r) r.bh.length 0 ()with
 |inl y=>grind
 |inr u=>
  rw[e1]at h;simp only at h;rw[aoR]at h;split at h
  cases h;rename_i q;rw[aw (n:=(d.reaches.length:Int) - 1) g5 g5,aw (n:=d.hours - 1) g5 g5]at q;simp only[aoN,aox,not_or,Bool.not_eq_false,xE]at q;obtain⟨⟨Y,q2⟩,q3⟩:=q;refine agq W r hl Y g5 g5 ?_ hS;simp only[aj,jo,D4 E,O]at h;by_cases k1:r.kind=1
  simp_all;by_cases V:r.kind=3
  exact .inr (.inl ⟨V,by rw[V]at h;exact(Prod.mk.inj h).1⟩);by_cases X:r.kind=4
  exact .inr (.inr (.inl ⟨X,by rw[X]at h;grind⟩));by_cases k7:r.kind=7
  exact .inr (.inr (.inr ⟨k7,by rw[k7]at h;grind⟩));have Y:(1==r.kind)=false:=g6
  have q3:(3==r.kind)=false:=g6
  have q4:(4==r.kind)=false:=g6
  have q7:(7==r.kind)=false:=g6
  simp_all
end
theorem Z2 (n:Int)(l:List Int):kY n l=l.any λx=>x==n:=by
 have:=ald (step:=rJ n l) (0:Int) (λx=>x==n) l [] λk=>⟨(),rfl⟩;grind [kY]
variable {c:List Claim}
theorem Z3(hc:c.length<=4096)(l:List Int):xM c l/\wR c l=flt c l:=by
 have:=ZZ (step:=vL c l) (p:=r9 c l) (λx=>kY x.right l) c [] [] (λk s=>rfl) (λk s E _=>by grind [dT]) g6;refine⟨λ_=>this.2,?_⟩;unfold wR;rw[aoI]at this;rw[this.1];simp only[aos];refine List.filter_congr λx _=>?_;rw[Z2,ZM,Bool.not_not];grind
theorem acs{d:ah}(E:asI d c)(hn:c.length<=60)(h:(aT d c).2.1=false):aT d c=([],false,0):=by
 have hol:=E.outs.len;have hw:d.reaches.length*d.hours.toNat<=1024:=by
  have Y:=E.nar.good.right.ar9;have:((d.reaches.length*d.hours.toNat:Nat):Int)=(d.reaches.length:Int)*d.hours:=g6
  have:=E.wide;omega
 unfold aT at h |-;rcases Iw d c with⟨q,_⟩ | ⟨_,⟨V,hF,O⟩,_⟩ | ⟨_,_,h1,e⟩ | ⟨_,V,X,W,f,hf,e⟩ | ⟨_,V,X,W,e⟩;grind
 have:=hF.len;grind
 grind
 grind
 grind
theorem V3 (a0:ah)(a1:List bn)(V E W:Int)(O:arO)(Y:List Order)(_: -9223372036854775808<=V/\V<=9223372036854775807)(_: -9223372036854775808<=E/\E<=9223372036854775807)(_: -9223372036854775808<=W/\W<=9223372036854775807):kP a0 a1 V E W O Y=true:=by
 unfold kP;rw[ZJ];simp only[aoH,cond_false];cases hF:(!(rH a0 a1 V E W) || !(uc O)) ||decide ((Y.length:Int) > 300)with
 |true=>rfl
 |false=>
  simp only[aoY,apC]at hF;cases q:((bS a0 a1 V E W O).2 !=0) || !(bS a0 a1 V E W O).1 with
  |true=>
   rw[cond_false,cond_true];by_cases z:(bS a0 a1 V E W O).2=0
   grind
   rw[V0 z];rfl
  |false=>
   have h:bS a0 a1 V E W O=(true,0):=by
    grind
   have hO:=IZ h;have hl:O.arz.length<=1024:=by
    grind [uc]
   have hA:=EG hO.ask λx=>!bq x O.bh;have X:=λL=>Z1 hl h (L:=L);have hM:(aT a0 (flt (aN a0 a1 V E W).1 O.bh)).2.1=false:=by
    cases m:(aT a0 (flt (aN a0 a1 V E W).1 O.bh)).2.1 with
    |false=>rfl|true=>exact(X _ (ZQ (Zo _ _ (ZN m) m))).elim
   rw[(Z3 (zl a0 a1 V E W) O.bh).2,acs hA (aoA (apa _ _) (VR hO hF.1.1)) hM,hO.err];have hC:fL a0 (flt (aN a0 a1 V E W).1 O.bh) Y≠(true,0):=λe=>X _ (IX e);cases e:fL a0 (flt (aN a0 a1 V E W).1 O.bh) Y with
   |mk x y=>
    cases x <;>simp_all
def V4 (a0:ah)(a1:List bn)(O E V:Int)(W:arO)(X:List Order)(_: -9223372036854775808<=O/\O<=9223372036854775807)(_: -9223372036854775808<=E/\E<=9223372036854775807)(_: -9223372036854775808<=V/\V<=9223372036854775807):lg a0 a1 O E V W X:=
 ⟨ZO,λ_=>⟨acb _ _ _ _ _,λ_=>⟨CJ _ _ _ _ _ _,λ_=>⟨(Ib _ _ _ _ _).1,(Z3 (zl _ _ _ _ _) _).1,No _ _,SH _ _ _⟩⟩⟩⟩
end Go.Sx
end
section
namespace Go.Sx
open Go.Deep Go.RowKit
section
variable {F:Nat->Prop}{own:Own}{w:World}
def RC (F:Nat->Prop)(own:Own)(w:World)(ks:List Kd)(cs:List Value):Prop:=
 ∃ l:List SV,vZ ks l=true/\l.length=cs.length/\∀ (j:Nat) (s:SV) (v:Value),l[j]? =some s->cs[j]? =some v->Rel F own w s v
theorem QD:∀ {a b:List Kd} {l m:List SV},vZ a l=true->vZ b m=true->vZ (a++b) (l++m)=true
 | [],b,l,m,h1,h2=>by grind [we]
 |k::a,b,l,m,h1,h2=>by
  obtain⟨x,r,rfl,E,O⟩:=ra h1;simp only[aoJ,vZ,E,QD O h2,Bool.and_self]
theorem RC.nil:RC F own w [] []:=⟨[],rfl,rfl,λj s v h=>by cases h⟩
theorem RC.app {a b:List Kd}{c d:List Value}(h1:RC F own w a c)(h2:RC F own w b d):RC F own w (a++b) (c++d):=by
 obtain⟨l,O,E,X⟩:=h1;obtain⟨m,W,V,r2⟩:=h2;refine⟨l++m,QD O W,by simp[E,V],λj s v Y hv=>?_⟩;grind
theorem RC.one {k:Kd}{s:SV}{v:Value}(h1:fit k s=true)(h2:Rel F own w s v):RC F own w [k] [v]:=
 ⟨[s],by simp[vZ,h1],rfl,λj s' V E O=>by
  grind⟩
end
def agr:Kd->Kd->Bool
 | .s,.s=>true| .b,.b=>true| .n a,.n b=>decide (a=b)| .r a,.r b=>decide (a=b)| .m a c,.m b d=>decide (a=b)&&decide (c=d)|_,_=>false
def act:∀ {a b:Kd},agr a b=true->a=b:=by
 intro a b h;cases a <;>cases b <;>simp_all [agr]
def Z4:List Kd->List Kd->Bool
 | [],[] =>true|a::l,b::m=>agr a b&&Z4 l m|_,_=>false
def Ue:∀ {a b:List Kd},Z4 a b=true->a=b
 | [],[],_=>rfl
 |a::l,b::m,h=>by
  simp only[Z4,aoj]at h;rw[act h.1,Ue h.2]
def I0 (P:Program)(g:TypeId->Option (List Kd)):List Field->Nat->Nat->Option (List Kd)
 | [],off,tot=>bif Nat.beq off tot then some []else none
 |f::r,off,tot=>match g f.type with
  |some a=>bif Nat.beq f.offset off&&Nat.beq a.length (P.cellsOf f.type)then(I0 P g r (off+a.length) tot).map (a++ ·)else none|none=>none
def SL (a:List Kd):Nat->List Kd
 |0=>[]|n+1=>a++SL a n
def I1 (P:Program):Nat->TypeId->Option (List Kd)
 |0,_=>none
 |n+1,t=>match P.underlying t with
  |some .bool=>some [.b]|some (.int k) =>some [.n k]|some .string=>some [.s]
  |some (.slice e) =>match NN P e,I1 P n e with
   |some k,some ks=>bif Z4 ks (ez k)&&Nat.beq (P.cellsOf e) (aa k)&&Nat.ble 1 (aa k)then some [.r k]else none|_,_=>none
  |some (.struct fs) =>I0 P (I1 P n) fs.toList 0 (P.cellsOf t)
  |some (.array m e) =>match I1 P n e with
   |some a=>bif Nat.beq a.length (P.cellsOf e)&&Nat.beq (P.cellsOf t) (m*a.length)then some (SL a m)else none|none=>none
  |_=>none
section
variable {H:Type}{enc:TypeId×Value->H}{P:Program}{F:Nat->Prop}{own:Own}{w:World}{base:Nat}{spare:Nat->Bool}{held:Bool}{S:DataW H->Prop}
def Uf {g:TypeId->Option (List Kd)}(Y:∀ t ks,g t=some ks->∀ (E:Nat) (cs:List Value) (x:DataW H×List MemPlace),DataW.trod enc P w base spare held E t cs=some x->S x.1->RC F own w ks cs)
  (E:Nat) (cs:List Value):∀ (fs:List Field) (off:Nat) (ks:List Kd),I0 P g fs off cs.length=some ks->(∀ f∈fs,∃ x,DataW.trod enc P w base spare held E f.type ((cs.drop f.offset).take (P.cellsOf f.type))=some x/\S x.1)->RC F own w ks (cs.drop off)
 | [],off,ks,h,_=>by
  unfold I0 at h;cases O:Nat.beq off cs.length with
  |false=>grind
  |true=>
   rw[O]at h;have:off=cs.length:=aok O;subst this;cases h;rw[aqY];exact RC.nil
 |f::r,off,ks,h,hx=>by
  unfold I0 at h;cases ha:g f.type with
  |none=>grind
  |some a=>
   rw[ha]at h;dsimp only at h;cases O:Nat.beq f.offset off&&Nat.beq a.length (P.cellsOf f.type)with
   |false=>grind
   |true=>
    rw[O]at h;simp only[cond_true,apz]at h;obtain⟨W,h2,rfl⟩:=h;rw[aoj]at O;have e1:f.offset=off:=aok O.1;have e2:a.length=P.cellsOf f.type:=aok O.2;obtain⟨x,V,X⟩:=hx f (by simp);have h3:=Y _ _ ha _ _ _ V X;have h4:=Uf Y E cs r (off+a.length) W h2 λf hf=>hx f (by simp[hf]);have:=h3.app h4;grind [List.drop_drop,List.take_append_drop]
def Ug {e:TypeId}{a:List Kd}(W:∀ (E:Nat) (cs:List Value) (x:DataW H×List MemPlace),DataW.trod enc P w base spare held E e cs=some x->S x.1->RC F own w a cs)
  (E:Nat):∀ (m:Nat) (cs:List Value),cs.length=m*a.length->(∀ i,i<m->∃ x,DataW.trod enc P w base spare held E e ((cs.drop (i*a.length)).take a.length)=some x/\S x.1)->RC F own w (SL a m) cs
 |0,cs,h,_=>by
  have:cs=[]:=by simpa using h
  subst this;exact RC.nil
 |m+1,cs,h,hx=>by
  obtain⟨x,O,V⟩:=hx 0 g5;rw[ary,List.drop_zero]at O;have Y:=W _ _ _ O V;have X:=Ug W E m (cs.drop a.length) g6 λi hi=>by
   grind [List.drop_drop]
  have:=Y.app X
  rwa[apr]at this
structure Small (S:DataW H->Prop):Prop where
 agg:∀ l,S (.agg l)->∀ d∈l,S d
 slice:∀ l m,S (.slice l m)->l.length<=aI/\∀ d∈l,S d
def pl (hS:Small S)(O:∀ b,¬dA F own b):∀ (n:Nat) (t:TypeId) (ks:List Kd),I1 P n t=some ks->∀ (fuel:Nat) (cs:List Value) (x:DataW H×List MemPlace),DataW.trod enc P w base spare held fuel t cs=some x->S x.1->RC F own w ks cs
 |0,_,_,h,_,_,_,_,_=>by cases h
 |n+1,t,ks,h,fuel,cs,x,hx,hs=>by
  unfold I1 at h;split at h
  rename_i W;cases h;obtain⟨b,rfl,rfl⟩:=DataW.trod_bool W hx;exact RC.one (s:=.v (.bool b)) rfl (.v _);rename_i k W;cases h;obtain⟨m,rfl,rfl,_⟩:=DataW.trod_int W hx;exact RC.one (s:=.v (.int k m)) (by simp[fit]) (.v _);rename_i W;cases h;obtain⟨b,rfl,rfl,_⟩:=DataW.trod_string W hx;exact RC.one (s:=.v (.string b)) rfl (.v _)
  ·rename_i e W;split at h
   ·rename_i k ks2 hk hks;cases V:Z4 ks2 (ez k)&&Nat.beq (P.cellsOf e) (aa k)&&Nat.ble 1 (aa k)with
    |false=>rw[V]at h;cases h
    |true=>
     rw[V]at h;cases h;simp only[aoj]at V;have e1:=Ue V.1.1;have e2:P.cellsOf e=aa k:=aok V.1.2;have e3:1<=aa k:=nbl V.2;subst e1;rcases open_slice W hx with⟨rfl,rfl⟩ | ⟨a,len,cap,m,f2,D,Pl,rfl,hb1,hl,hm,hmm,rfl,hel⟩;exact RC.one (s:=.rs k []) (by simp[fit]) .rs0
     ·have hlm:len<=m:=by subst hmm;split <;>omega
      obtain⟨hs1,hs2⟩:=hS.slice _ _ hs;simp only[apd,apU]at hs1;have helt:∀ i,i<len->∃ E,E.length=aa k/\(∀ j v,E[j]? =some v->w.cell? ((a.add (i*aa k)).add j)=some v)/\RC F own w (ez k) E:=λi hi=>by
       obtain⟨E,h1,h2⟩:=hel i g5;have h3:=pl hS O n e (ez k) hks f2 E _ h2 (hs2 _ (apZ (apN.2 hi)));unfold World.cells? at h1;split at h1
       refine⟨E,by rw[mapM_some_length h1,apU,e2],λj v Y=>?_,h3⟩;have hlt:j<P.cellsOf e:=by
        have:=(aop.1 Y).1
        rwa[mapM_some_length h1,apU]at this
       have:=mapM_some_get h1 j j (by simp[hlt]);rw[e2]at this;rw[this,Y];cases h1
      by_cases h0:len=0
      subst h0;exact RC.one (s:=.rs k []) (by simp[fit]) .rs0
      ·have hsp:a.spot=none:=by
        obtain⟨E,h1,h2,_⟩:=helt 0 g5;have:=h2 0 (E[0]'(g5)) (by rw[aov]);rw[ary]at this;simp only[Addr.add,if_true]at this;unfold World.cell? at this;split at this
        cases hsp:a.spot with
        |none=>rfl|some q=>rw[hsp]at this;simp at this
        cases this
       obtain⟨ab,ao,asp⟩:=a;dsimp only at hsp;subst hsp
       haveI:Inhabited k.T:=⟨fg k⟩
       obtain⟨X,hX⟩:=choose_lt (p:=λi (x:k.T) =>∀ (j:Nat) (s:SV),(cellsOf k x)[j]? =some s->∃ v,w.cell? ⟨ab,ao+i*aa k+j,none⟩=some v/\Rel F own w s v) (n:=len) λi hi=>by
        obtain⟨E,h1,h2,l,h3,h4,h5⟩:=helt i hi;refine⟨mkE k l,λj s Y=>?_⟩;rw[sg (k:=k) (l:=l) (x:=mkE k l) (by unfold xN;rw[h3];rfl)]at Y;have hlt:j<E.length:=by
         have:=(aop.1 Y).1;omega
        refine⟨E[j],?_,h5 j s _ Y (aov hlt)⟩;have:=h2 j E[j] (aov hlt);have hadd:∀ p q,((⟨ab,ao,none⟩:Addr).add p).add q=⟨ab,ao+p+q,none⟩:=λp q=>by
         unfold Addr.add;by_cases hp:p=0 <;>by_cases hq:q=0 <;>simp[hp,hq]
        rwa[hadd]at this
       have hL:((List.range len).map X).length=len:=by simp
       refine RC.one (s:=.rs k ((List.range len).map X)) (by simp[fit]) ?_;have hget:∀ (i:Nat) (x:k.T),((List.range len).map X)[i]? =some x->i<len/\x=X i:=λi x hi=>by
        obtain⟨h1,h2⟩:=aop.1 hi;rw[hL]at h1;simp only[List.getElem_map,List.getElem_range]at h2;subst h2;exact⟨h1,rfl⟩
       have:=Rel.rs (F:=F) (own:=own) (w:=w) (k:=k) (l:=(List.range len).map X) (b:=ab) (o:=ao) (cap:=cap) (λi j=>(w.cell? ⟨ab,ao+i*aa k+j,none⟩).getD undef) (by rw[hL];exact hl) (by rw[hL];exact hs1)
        (λi x hi j s Y=>by
         obtain⟨h1,rfl⟩:=hget i x hi;obtain⟨v,h2,_⟩:=hX i h1 j s Y;exact⟨O _,by rw[h2];rfl⟩)
        (λi x hi j s Y=>by
         obtain⟨h1,rfl⟩:=hget i x hi;obtain⟨v,h2,h3⟩:=hX i h1 j s Y;rw[h2];exact h3)
       rwa[hL]at this
   cases h
  rename_i fs W;obtain⟨xs,m,rfl,rfl,hl,hlen,hf⟩:=DataW.trod_struct W hx;rw[<-hl]at h;have:=Uf (pl hS O n) m cs fs.toList 0 ks h λf hfm=>by
   obtain⟨i,hi,rfl⟩:=aoM hfm;have hi':i<fs.size:=by simpa using hi
   have h1:=hf i fs[i] (by simp[hi']);rw[aov g5]at h1;refine⟨_,by simpa using h1,hS.agg _ hs _ (apZ (apg _))⟩
  simpa using this;rename_i m e W;split at h
  rename_i a ha;cases V:Nat.beq a.length (P.cellsOf e)&&Nat.beq (P.cellsOf t) (m*a.length)with
  |false=>rw[V]at h;cases h
  |true=>
   rw[V]at h;cases h;rw[aoj]at V;have e1:a.length=P.cellsOf e:=aok V.1;have e2:P.cellsOf t=m*a.length:=aok V.2;obtain⟨xs,f2,rfl,rfl,hl,hlen,hf⟩:=DataW.trod_array W hx;refine Ug (pl hS O n e a ha) f2 m cs (by rw[hl,e2]) λi hi=>?_;have h1:=hf i hi;rw[aov g5,<-e1]at h1;exact⟨_,h1,hS.agg _ hs _ (apZ (apg _))⟩
  cases h;cases h
end
end Go.Sx
end
section
namespace Go.Sx
open Go.Proofs
section
variable {F:Nat->Prop}{own:Own}{w:World}
def Uh {k:Tag}{cs:Array Value}(h:RC F own w (ez k) cs.toList):∃ x:k.T,Rel F own w (.agg (cellsOf k x)) (.agg cs):=by
 obtain⟨l,V,E,W⟩:=h;refine⟨mkE k l,?_⟩;rw[sg (k:=k) (l:=l) (x:=mkE k l) (by unfold xN;rw[V];rfl)];refine .agg (by simpa using E.symm) λj s O=>?_;have hlt:j<cs.size:=by
  have:=(aop.1 O).1;simpa[E]using this
 exact W j s _ O (by simp[Array.getD,hlt])
def Z5 {k:Tag}{v:Value}(h:RC F own w [.r k] [v]):∃ l:List k.T,Rel F own w (.rs k l) v:=by
 obtain⟨l,O,X,V⟩:=h;obtain⟨x,r,rfl,E,Y⟩:=ra O;have W:=V 0 x v rfl rfl;cases x with
 |rs k' l'=>
  have:k=k':=by
   simp only[fit]at E;exact wc E
  subst this;exact⟨l',W⟩
 |_=>simp[fit]at E
end
end Go.Sx
end
section
namespace Go.Sx
open Go.ChangeShapes Go.RowKit Go.WideShapes
section
variable {H:Type}{enc:TypeId×Value->H}{P:Program}
def acu (P:Program):List TypeId->Bool
 | [] =>true|t::r=>P.readableRec t&&Nat.blt t P.types.size&&acu P r
theorem Lo (hl:laidOutB P=true){W Y:World}(X:Below W.heap.size W Y):∀ {ts:List TypeId} {vs:List Value} {ds:List (DataW H)} {E:List MemPlace},acu P ts=true->
  DataW.TrodAll enc P W 0 (λ_=>true) true ts vs ds E->(∀ x∈E,x.block<W.heap.size)->DataW.TrodAll enc P Y 0 (λb=>decide (b<W.heap.size)) true ts vs ds E
 | [],vs,ds,E,_,h,_=>by
  obtain⟨rfl,rfl,rfl⟩:=trodAll_nil h;exact trodAll_mk0
 |t::ts,vs,ds,E,V,h,hlt=>by
  unfold acu at V;rw[aoj,aoj]at V;obtain⟨v,vs',d,ds',p,q,rfl,rfl,rfl,h1,h2⟩:=trodAll_cons h;refine trodAll_cons_mk (WideElems.Trod_stays hl V.1.1 (by simpa[Nat.blt_eq]using V.1.2) h1 (λx O=>X.same (hlt x (aqG _ O))) (λx O=>by simpa using hlt x (aqG _ O))) ?_;exact Lo hl X V.2 h2 λx O=>hlt x (apQ _ O)
theorem Z6 (hl:laidOutB P=true){f:Func}{s:ChangeSpec}{W W':World}{args:Array Value}{ds O:List (DataW H)}{E:List MemPlace}{t:TypeId}
  (hk:acu P f.params.toList=true) (X:DataW.Whole enc P f.params.toList s.vars false W args.toList ds O E)
  (hr:f.resultTypes= #[t]) (ht:P.underlying t=some .bool) (hv:s.vars=[]) (h1:(s.fn H (ds++O)).results=[.lit (.bool true)]) (h2:(s.fn H (ds++O)).args=ds) (h3:(s.fn H (ds++O)).vars=[])
  (hg:Below W.heap.size W W'):s.post enc P f false true false false W args (.bool true) W':=by
 have hlt:=X.lt;have Y:=X;obtain⟨p,q,hA,hV,rfl,_,_⟩:=X;rw[hv]at hV;obtain⟨rfl,rfl⟩:=trodVars_none hV;refine⟨ds,[],p++[],[],p,[],Y,?_,?_,?_,?_,λh=>by cases h⟩;rw[h1,hr];exact trodAll_cons_mk (shut_bool ht _) trodAll_mk0;rw[h2];exact Lo hl hg hk hA λx V=>hlt x (by simpa using V);rw[h3,hv];rfl;exact World.keptBut_mono (λx V=>⟨V,.inr (.inl (by simpa using V))⟩) (hg.frame (· ∈p++[]))
end
end Go.Sx
end
section
namespace Go.Proofs.YtaikmgjfkejlkaaGreat.bulks
variable {H:Type}
theorem one_le(d:DataW H):1<=Rows.uptoBulk d:=by
 cases d with
 |lit l=>cases l <;>simp[Rows.uptoBulk]|nil=>simp[Rows.uptoBulk]|ptr d=>simp[Rows.uptoBulk]|slice tt spare=>simp[Rows.uptoBulk]|agg O=>simp[Rows.uptoBulk]|iface t d=>simp[Rows.uptoBulk]|map E=>simp[Rows.uptoBulk]|held h=>simp[Rows.uptoBulk]
variable {l:List (DataW H)}
theorem atJ{d:DataW H}(h:d∈l):Rows.uptoBulk d<=Rows.uptoBulkAll l:=by
 induction l with
 |nil=>cases h
 |cons x r E=>
  simp only[Rows.uptoBulkAll];cases List.mem_cons.1 h with
  |inl e=>subst e;omega|inr e=>have:=E e;omega
theorem append(l r:List (DataW H)):Rows.uptoBulkAll (l++r)=Rows.uptoBulkAll l+Rows.uptoBulkAll r:=by
 induction l with
 |nil=>simp[Rows.uptoBulkAll]|cons x l E=>simp only[List.cons_append,Rows.uptoBulkAll,E];omega
theorem length_le(l:List (DataW H)):l.length<=Rows.uptoBulkAll l:=by
 induction l with
 |nil=>simp[Rows.uptoBulkAll]|cons x r E=>have:=one_le x;simp only[Rows.uptoBulkAll,List.length_cons];omega
theorem atT(tt spare:List (DataW H)):tt.length+spare.length+1<=Rows.uptoBulk (.slice tt spare):=by
 have h1:=length_le tt;have h2:=length_le spare;simp only[Rows.uptoBulk];omega
theorem atr(tt spare:List (DataW H)):Rows.uptoBulkAll tt+1<=Rows.uptoBulk (.slice tt spare):=by
 simp only[Rows.uptoBulk];omega
theorem bound(E:Rows.uptoSmall H l=true):Rows.uptoBulkAll l<=1048576:=by
 simpa[Rows.uptoSmall]using E
theorem room {n b:Nat}(hn:n<=2097152)(E:b<=4096):(n+n / 4+192)*b<=281474976710656:=by
 have h:(n+n / 4+192)*b<=2621632*4096:=Nat.mul_le_mul (by omega) E;omega
end Go.Proofs.YtaikmgjfkejlkaaGreat.bulks
end
