/- Part of the proof of the law RefuseHoldsSpec (the Upto form). -/
import Derived.Test.YtaikmgjfkejlkaaGreatT108
import Derived.Sort.Statements
import Derived.Shelf.SlSortCmp.Insertion
set_option linter.all false
set_option maxHeartbeats 4000000
set_option maxRecDepth 100000
section
namespace Go.Sx
open Go.Proofs Tryz
def Vf:atA prog 72 TD:=TE Tryz.av5
@[go_sem] def dc (d:ai)(a:Nat)(b:List (A1×Int)):Empty⊕(List (A1×Int)):=(bif((d.bl.getD a default).kind==1)then .inr (cy .u0 .int b ({ right:=(a:Int),gl:=(d.bl.getD a default).gl}:A1) ((d.bl.getD a default).bn))else .inr b)
@[go_sem] def df (f:List bo)(a:bo)(b:List Int×List (A1×Int)):Empty⊕(List Int×List (A1×Int)):=letI e:=({ right:=a.right,gl:=a.since}:A1);letI c:=aF .u0 .int b.2 e;letI d:=u6 .u0 .int b.2 e;(bif(c==0)then .inr ((b.1++([a.no])),b.2)else(bif(a.kind==1)then .inr (b.1,(f7 a c d))else(bif(a.kind==2)then .inr (b.1,(dG a c d))else(bif(a.kind==3)then .inr (b.1,d)else .inr default))))
def fh (e:List bo)(a:bo)(b:List Int×List (A1×Int)):Prop:=letI d:=({ right:=a.right,gl:=a.since}:A1);letI c:=aF .u0 .int b.2 d;(((c==0)=true->((b.1++([a.no])).length*8<=dh))/\((c==0)=false->((a.kind==1)=false->(((a.kind==2)=true->(fJ a c (u6 .u0 .int b.2 d)))/\((a.kind==2)=false->((a.kind==3)=false->False))))))
def fo (d:ai)(a:List bo):List (A1×Int)×List Int:=(match aj (dc d) d.bl.length 0 ([])with| .inl x=>x.elim| .inr c=>(match cS (df a) (a8 a) ([],c)with| .inl x=>x.elim| .inr b=>(b.2,(yc b.1))))
def mH (d:ai)(a:List bo):Prop:=letI b:=a8 a;(d.bl.length<=aD->(∀ ee,aj (dc d) d.bl.length 0 ([])=.inr ee->((dq a (b.map Fj))/\okL (df a) (fh a) b ([],ee))))
@[go_sem] noncomputable def CY:FI:=(pD .al λd=>(pFn 318 (pXR .C1 λds=>(pE ((pE (.det (mH d ds) (.tup [.nm .u0 .int ((fo d ds).1),.nw .int ((fo d ds).2)]))))))))
variable {p:Prop}
def awI(h:p:=by simp only[go_sem,e1_0,e1_1,e1_2,e1_3]):p:=h
variable {l0 l1:List Nat}
def awL(a0:JL l0)(a1:JL l1)(h:JL l0->JL l1->p:=by intro ja jb;simp only[go_sem,xA,df,psT,Fj,aqB,aqs,hk0];all_goals exact fM ja jb):p:=h a0 a1
def awB(a0:JL l0)(a1:JL l1)(h:JL l0->JL l1->p:=by intro ja jb;simp only[go_sem,xA,df,psT,Fj,aqB,aqs,hk0,hk1];all_goals exact fM ja jb):p:=h a0 a1
def ami(a0:JL l0)(a1:JL l1)(h:JL l0->JL l1->p:=by intro ja jb;simp only[go_sem,xA,df,psT,Fj,aqB,aqs,hk0,hk1,hk2];all_goals exact fM ja jb):p:=h a0 a1
def amj(a0:JL l0)(a1:JL l1)(h:JL l0->JL l1->p:=by intro ja jb;simp only[go_sem,xA];all_goals exact fM ja jb):p:=h a0 a1
theorem awE(h:p:=by simp only[go_sem,xA];all_goals exact cl):p:=h
theorem BP:P0 prog 229 CY:=by
 have hG:=mG (cp CX Q1) (co Vf (co zi (co yg (co yh Q1))));refine fW hG f229 [(.cell 5 0,.int)] (ap λd=>(qH (CO λds=>(am ((am (λX=>?_)))))));dsimp only[an,mH]at X;refine⟨nbl rfl,(XO 0 (LCR (ρ:=Empty) (σ:=(List (A1×Int))) 4 [] [0,1,2,3] (λW O=>⟨[(1,.fn 318 [] [.ep [.rs .C1 ds] 0]),(4,.ptr 1 0),(5,.ptr 2 0),(14,.rs .right d.bl),(15,.i (d.bl.length:Int)),(16,.i W)],[.dead,.cells [.os 3],.cells [.v (.slice none 0 0)],.mp .u0 .int O none]⟩) (dc d) pT d.bl.length ([]) (d.bl.length<=aD) ((·.elim)) ((·.elim))) (XO 2 (λst=>LC (ρ:=Empty) (σ:=List Int×List (A1×Int)) (lk 4 st.t=.ptr 1 0/\lk 5 st.t=.ptr 2 0/\lk 8 st.t=.ptr 5 0/\lk 33 st.t=.fn 318 [] [.ep [.rs .C1 ds] 0]/\st.h=[.dead,.cells [.os 3],.cells [.v (.slice none 0 0)],.mp .u0 .int (cB (aj (dc d) d.bl.length 0 ([]))) none,.mp .int .fnc gz none,.cells [.os 4]]/\dq ds ((a8 ds).map Fj)/\okL (df ds) (fh ds) (a8 ds) ([],(cB (aj (dc d) d.bl.length 0 ([]))))) (cS (df ds) (a8 ds) ([],(cB (aj (dc d) d.bl.length 0 ([]))))) (λx=>x.elim) (λx=>x.elim) (λE=>⟨[(4,.ptr 1 0),(5,.ptr 2 0),(8,.ptr 5 0)],[.dead,.cells [.os 3],.cells [.os 7],.mp .u0 .int E.2 none,.mp .int .fnc gz none,.cells [.os 4],.dead,.row .int E.1]⟩)) L0)),?_,?_⟩
 ·unfold aa f229;simp only[ak,true_and,and_true];refine⟨?_,?_⟩;refine bG aC hG (λ_=>rfl) (d.bl.length:Int) eE (λhb0 W O aue _ hw hc=>⟨L0,ag _,aW (jl [0,1,2,3])⟩) λhb0 O hc=>aV (jl [0,1,2,3])
  ·refine BK mixed aC hG (by decide) (by decide) kr kr λst lc hC X=>?_;simp only[go_sem,Nat.reduceBEq,aqd]at hC;subst hC;obtain⟨t,h⟩:=st;dsimp only[LC]at X;obtain⟨e1_0,e1_1,e1_2,e1_3,rfl,hb1,Y⟩:=X;refine⟨⟨t,[.dead,.cells [.os 3],.cells [.os 6],.mp .u0 .int (cB (aj (dc d) d.bl.length 0 ([]))) none,.mp .int .fnc gz none,.cells [.os 4],.row .int ([])]⟩,aud.cell (h:=[.dead,.cells [.os 3],.cells [.v (.slice none 0 0)],.mp .u0 .int (cB (aj (dc d) d.bl.length 0 ([]))) none,.mp .int .fnc gz none,.cells [.os 4]]) (i:=2) (j:=0) (.row .int ([])) (aud.refl _) rfl rfl (.inl ⟨_,rfl⟩),318,[.ep [.rs .C1 ds] 0],bo,_,_,(a8 ds),Fj,(df ds),(fh ds),_,([],(cB (aj (dc d) d.bl.length 0 ([])))),_,_,_,[(4,.ptr 1 0),(5,.ptr 2 0),(8,.ptr 5 0)],(λE=>[.dead,.cells [.os 3],.cells [.os 7],.mp .u0 .int E.2 none,.mp .int .fnc gz none,.cells [.os 4],.dead,.row .int E.1]),(λx=>x.elim),[0,1,2,3,4,5,6,6],?_,rfl,Y,nbl rfl,?_,oD ds _ hb1,λV E hq1=>⟨rfl,L0,λl=>?_,λl=>?_,?_⟩,λE=>?_,λy=>?_⟩;exact awI
   ·simp only[go_sem,ww,lB,aqx,arp,aqs,aqo,aq4,e1_0,e1_1,e1_2,e1_3];all_goals (first|done|decide|(repeat' (first|refine And.intro ?_ ?_|rfl|decide)))
   simp only[ak,and_self,true_and,and_true];simp only[ak,and_self,true_and,and_true];unfold fh at hq1;rcases ar5 (V.kind==1)with hk0|hk0;exact awL (jl [0,1,2,3,4,5,6,11]) (jl [0,1,2,3,4,5,6,7]);rcases ar5 (V.kind==2)with hk1|hk1;exact awB (jl [0,1,2,3,4,5,6,11]) (jl [0,1,2,3,4,5,6,7]);rcases ar5 (V.kind==3)with hk2|hk2;exact ami (jl [0,1,2,3,4,5,6,11]) (jl [0,1,2,3,4,5,6,7]);exact ami (jl [0,1,2,3,4,5,6,11]) (jl [0,1,2,3,4,5,6,7]);exact amj (jl [0,1,2,3,4,5,6,11]) (jl [0,1,2,3,4,5,6,7]);exact amj (jl [0,1,2,3,4,5,6,11]) (jl [0,1,2,3,4,5,6,7])
 unfold aa f229;try unfold fo
 exact awE
end Go.Sx
end
section
namespace Go.Sx
@[go_sem ↓]def aj_ (x:Reach):mkE .reach [.v (.string x.name),.i x.up,.i x.delay,.i x.cap,.i x.at2,.i x.atz,.i x.at5.lo,.i x.at5.hi,.i x.atL.1.n,.i x.atL.1.d,.i x.atL.2.n,.i x.atL.2.d]=x:=(rfl)
@[go_sem ↓]def amk (x:auF):mkE .atx [.i x.cap,.i x.start]=x:=(rfl)
@[go_sem ↓]def aml (x:auy):mkE .gl [.v (.string x.name),.i x.reach,.i x.au4,.i x.at9]=x:=(rfl)
@[go_sem ↓]def aka (x:atN):mkE .right [.v (.string x.name),.i x.kind,.i x.gl,.i x.reach,.i x.att,.i x.bn,.i x.since,.i x.to,.i x.every,.i x.length]=x:=(rfl)
@[go_sem ↓]def amm (x:bo):mkE .C1 [.i x.no,.i x.kind,.i x.right,.i x.since,.i x.to,.rs .part x.parts,.i x.of_,.i x.at_,.i x.known]=x:=(rfl)
@[go_sem ↓]def amn (x:Part):mkE .part [.i x.gl,.i x.share.n,.i x.share.d]=x:=(rfl)
@[go_sem ↓]def aeY (x:atr):mkE .holding [.i x.right,.i x.gl,.i x.bn,.i x.att]=x:=(rfl)
@[go_sem ↓]def akb (x:W2):mkE .ratio [.i x.n,.i x.d]=x:=(rfl)
@[go_sem ↓]def Vg (x:A1):mkE .u0 [.i x.right,.i x.gl]=x:=(rfl)
@[go_sem ↓]def akc (x:Claim):mkE .B1 [.i x.right,.i x.gl,.i x.hour,.i x.bn,.i x.att]=x:=(rfl)
@[go_sem ↓]def abU (x:atk):mkE .X2 [.i x.gl,.i x.reach]=x:=(rfl)
@[go_sem ↓]def XK (x:Y1):mkE .ate [.i x.B1.right,.i x.B1.gl,.i x.B1.hour,.i x.B1.bn,.i x.B1.att,.i x.reach]=x:=(rfl)
@[go_sem ↓]def akd (x:Order):mkE .order [.i x.hour,.i x.index,.i x.bn,.v (.bool x.S2)]=x:=(rfl)
@[go_sem ↓]def ake (x:G2):mkE .fault [.i x.kind,.i x.hour,.i x.index,.i x.bn,.i x.limit]=x:=(rfl)
@[go_sem ↓]def aht (x:S1):mkE .ath [.i x.reach,.i x.hour,.i x.bn,.i x.wanted]=x:=(rfl)
@[go_sem ↓]def aeZ (x:atp):mkE .refusal [.rs .int x.bl,.i x.kind,.i x.reach,.i x.hour,.rs .ath x.atf]=x:=(rfl)
@[go_sem ↓]def XL (x:M1):mkE .P1 [.v (.string x.d.name),.i x.d.hours,.i x.d.atx.cap,.i x.d.atx.start,.rs .reach x.d.reaches,.rs .gl x.d.zs,.rs .at9 x.d.atE,.rs .right x.d.bl,.rs .aul x.d.aty,.rs .auq x.d.auc,.rs .B1 x.c]=x:=(rfl)
@[go_sem ↓]def adc (x:ai):mkE .al [.v (.string x.name),.i x.hours,.i x.atx.cap,.i x.atx.start,.rs .reach x.reaches,.rs .gl x.zs,.rs .at9 x.atE,.rs .right x.bl,.rs .aul x.aty,.rs .auq x.auc]=x:=(rfl)
end Go.Sx
end
section
namespace Go.Sx
open Go.Proofs Tryz
open IntKind (i64 u64)
variable {l0 l1:List Nat}{p:Prop}
def lZ(a0:JL l0)(a1:JL l1)(h:JL l0->JL l1->p:=by intro ja jb;simp only[go_sem,hc,hw];all_goals exact fM ja jb):p:=h a0 a1
def kP(a0:JL l0)(a1:JL l1)(h:JL l0->JL l1->p:=by intro ja jb;simp only[go_sem,hc];all_goals exact fM ja jb):p:=h a0 a1
@[go_sem] def kQ (b:List Int)(v:Int)(a:Nat)(c:Unit):Int⊕Unit:=(bif(v==(b.getD a 0))then .inl (a:Int)else .inr ())
def j8 (a:List Int)(v:Int):Int:=(match aj (kQ a v) a.length 0 ()with| .inl b=>b| .inr c=>(-1))
@[go_sem] def yi:FI:=(pR .int λa=>(pI λv=>(pE (.det True (.i (j8 a v))))))
theorem xB:P0 prog 91 yi:=by
 have hG:=mG Q1 Q1;refine fN hG f91 [.o] (aZ λO=>(ax λv=>(am (λY=>?_))));dsimp only[an]at Y;refine⟨nbl rfl,(XO 0 (LCR (ρ:=Int) (σ:=Unit) 0 [] [] (λV W=>⟨[(0,.rs .int O),(1,.i v),(7,.i (O.length:Int)),(8,.i V)],[]⟩) (kQ O v) pT O.length () (O.length<=aD) (λ_=>.ret) (λE=>⟨[(4,.i E)],[]⟩)) L0),?_,?_⟩;unfold aa f91;simp only[ak,true_and,and_true];refine bG aC hG (λ_=>rfl) (O.length:Int) eE (λhb0 V W X _ hw hc=>⟨L0,ag _,aW (jl [])⟩) λhb0 W hc=>aV (jl []);exact Ce @j8.eq_1
def ef (a:List Int)(v:Int):Bool:=(decide ((j8 a v)>=0))
@[go_sem] def wb:FI:=(pR .int λa=>(pI λv=>(pE (.det True (.v (.bool (ef a v)))))))
theorem nk:P0 prog 44 wb:=fN (mG (cn [.sl .int,.o] xB Q1) Q1) f44 [.o] (aZ λO=>ax λv=>am λE=>Ko @ef.eq_1)
def bf (n a b:Int):Bool:=((decide (n>=a))&&(decide (n<=b)))
@[go_sem] def F4:FI:=(pI λn=>(pI λa=>(pI λb=>(pE (.det True (.v (.bool (bf n a b))))))))
theorem r6:P0 prog 46 F4:=fN (mG Q1 Q1) f46 [.o] (ax λn=>ax λlo=>ax λhi=>am λE=>Ko @bf.eq_1)
@[go_sem] def ft (a:M1)(b:Nat)(d:List Int):Empty⊕(List Int):=.inr (d++([(a.c.getD b default).right]))
def g_ (a:M1)(b:Nat)(d:List Int):Prop:=((d++([(a.c.getD b default).right])).length*8<=dh)
def ay (a:M1):List Int:=(match aj (ft a) a.c.length 0 ([])with| .inl x=>x.elim| .inr b=>(cpI (yc b)))
def fK (a:M1):Prop:=(a.c.length<=aD->okI (ft a) (g_ a) a.c.length 0 ([]))
@[go_sem] def zj:FI:=(pD .P1 λa=>(pE (.det (fK a) (.rs .int (ay a)))))
theorem lF:P0 prog 31 zj:=by
 have hG:=mG Q1 (co Vf (co ahr Q1));refine fN hG f31 [.sl .int] (ap λE=>(am (λX=>?_)));dsimp only[an,fK]at X;refine⟨nbl rfl,(XO 0 (LCR (ρ:=Empty) (σ:=(List Int)) 1 [.slot 2 (.row .int ([]))] [0,1] (λV O=>⟨[(2,.os 1),(6,.rs .B1 E.c),(7,.i (E.c.length:Int)),(8,.i V)],[.dead,.row .int O]⟩) (ft E) (g_ E) E.c.length ([]) (E.c.length<=aD) ((·.elim)) ((·.elim))) L0),?_,?_⟩;unfold aa f31;simp only[ak,true_and,and_true];refine bG aC hG (λ_=>rfl) (E.c.length:Int) eE (λhb0 V O Y W hw hc=>⟨L0,ag _,?_⟩) (λhb0 O hc=>?_);simp only[g_,hw,aqa]at W
 exact lZ (jl [0,4]) (jl [0,1]);exact kP (jl [0,4]) (jl [0,1]);exact Ce @ay.eq_1
@[go_sem] def zT:FI:=pR .B1 λl=>pE (.det (l.length*40<=dh) (.nw .B1 l))
theorem zk:P0 prog 75 zT:=by
 refine fW (mG Q1 Q1) f75 [(.tmp 2,.B1)] (aZ λl=>am λE=>?_);dsimp only[an]at E;refine⟨nbl rfl,L0,ag _,?_⟩;unfold aa f75;simp only[go_sem];intro b V;refine⟨λh=>?_,λ_=>?_⟩;have O:=V h;subst O;rfl;first|exact E|exact⟨E,λ_=>rfl⟩
def br (x:Claim)(a:List Int):Bool:=(!(ef a x.right))
@[go_sem] noncomputable def A2:FI:=(pD .B1 λx=>(pXR .int λrs_=>(pE (.det True (.v (.bool (br x rs_)))))))
theorem tN:P0 prog 76 A2:=fN (mG (cn [.sl .int,.o] nk Q1) Q1) f76 [.o] (ap λx=>CO λE=>am λE=>Ko @br.eq_1)
@[go_sem] def ff (b:List Claim)(c:List Int)(a:Nat)(d:Unit):Int⊕Unit:=(bif(br (b.getD a default) c)then .inl (a:Int)else .inr ())
def a_ (a:List Claim)(b:List Int):Int:=(match aj (ff a b) a.length 0 ()with| .inl c=>c| .inr d=>(-1))
@[go_sem] noncomputable def ir:FI:=(pR .B1 λs_=>(pFn 76 (pXR .int λrs_=>(pE ((pE (.det True (.i (a_ s_ rs_)))))))))
theorem mV:P0 prog 134 ir:=by
 have hG:=mG (cp tN Q1) Q1;refine fN hG f134 [.o] (aZ λO=>(qH (CO λX=>(am ((am (λhp=>?_)))))));dsimp only[an]at hp;refine⟨nbl rfl,(XO 0 (LCR (ρ:=Int) (σ:=Unit) 0 [] [] (λV W=>⟨[(0,.rs .B1 O),(1,.fn 76 [] [.ep [.rs .int X] 0]),(7,.i (O.length:Int)),(8,.i V)],[]⟩) (ff O X) pT O.length () (O.length<=aD) (λ_=>.ret) (λE=>⟨[(4,.i E)],[]⟩)) L0),?_,?_⟩;unfold aa f134;simp only[ak,true_and,and_true];refine bG aC hG (λ_=>rfl) (O.length:Int) eE (λhb0 V W Y _ hw hc=>⟨L0,ag _,aW (jl [])⟩) λhb0 W hc=>aV (jl []);exact Ce @a_.eq_1
@[go_sem] noncomputable def g7:FI:=λl=>(ir l)
def mD:P0 prog 134 g7:=mV
@[go_sem] def bP (e:List Claim)(d:List Int)(f:Nat)(a:List Claim×Int×Int):(Int×List Claim)⊕(List Claim×Int×Int):=letI b:=a.1.getD (Int.toNat a.2.2) default;letI c:=i64.wrap (a.2.2+1);(bif(decide (a.2.2< (a.1.length:Int)))then(bif(!(br b d))then .inr ((a.1.set (Int.toNat a.2.1) b),(i64.wrap (a.2.1+1)),c)else .inr (a.1,a.2.1,c))else .inl (a.2.1,a.1))
def ci (d:List Claim)(c:List Int)(e:Nat)(a:List Claim×Int×Int):Prop:=letI b:=(a.1.length:Int);(a.1.length<=aD->((decide (a.2.2<b))=true->((0<=a.2.2/\a.2.2<b)/\((!(br (a.1.getD (Int.toNat a.2.2) default) c))=true->(0<=a.2.1/\a.2.1<b)))))
def bI (a:List Claim)(d:List Int):List Claim:=letI c:=a_ a d;(bif(c==(-1))then a else(match aj (bP a d) (a.length+1) 0 (a,c,(i64.wrap (c+1)))with| .inl b=>(((zq .B1 b.2 b.1 (b.2.length:Int)).take (Int.toNat b.1)).drop 0) | .inr e=>default))
def bF (a:List Claim)(b:List Int):Prop:=letI c:=a_ a b;letI d:=bP a b;letI e:=(a,c,(i64.wrap (c+1)));letI f:=a.length+1;((c==(-1))=false->(okI d (ci a b) f 0 e/\(∀ z_,aj d f 0 e≠ .inr z_)/\(∀ lx,aj d f 0 e=.inl lx->((0<=lx.1/\lx.1<=(lx.2.length:Int))/\(0<=0/\0<=lx.1/\lx.1<=((zq .B1 lx.2 lx.1 (lx.2.length:Int)).length:Int))))))
noncomputable def g8:List SV->List Ob->Option atB:=jR (λx_:(List Claim)×(List Int) =>[.os 0,.fn 76 [] [.ptr 1 0]]) (λx_=>[.row .B1 x_.1,.cells [.rs .int x_.2]]) (λx_=>fZ (bF x_.1 x_.2) (.os 2) [.dead,.cells [.rs .int x_.2],.row .B1 (bI x_.1 x_.2)])
@[go_sem]def yj (c:List Claim)(b:List Int):g8 ([.os 0,.fn (76:Nat) [] [.ptr 1 0]]) ([.row .B1 c,.cells [.rs .int b]])=some (fZ (bF c b) (.os 2) [.dead,.cells [.rs .int b],.row .B1 (bI c b)]):=gb (A:=λa:(List Claim)×(List Int) =>[.os 0,.fn 76 [] [.ptr 1 0]]) (H:=λa=>[.row .B1 a.1,.cells [.rs .int a.2]]) (K:=λa=>fZ (bF a.1 a.2) (.os 2) [.dead,.cells [.rs .int a.2],.row .B1 (bI a.1 a.2)]) (x:=(c,b))
def awm(a0:JL l0)(a1:JL l1)(h:JL l0->JL l1->p:=by intro ja jb;simp only[go_sem,g7];all_goals exact fM ja jb):p:=h a0 a1
theorem mE:atA prog 74 (g8):=by
 have hG:=mG (cp tN (cn [.sl .B1,.o] mD Q1)) Q1;refine fR hG f74 (λl o con h=>?_);obtain⟨⟨W,E⟩,rfl,rfl,rfl⟩:=ed h;clear h;try dsimp only
 refine⟨_,_,_,rfl,λhp=>?_⟩;unfold bF at hp;refine⟨nbl rfl,(XO 0 (LCV (ρ:=(Int×List Claim)) (σ:=(List Claim×Int×Int)) 2 [] [0,1] (λX V=>⟨[(0,.os 0),(1,.fn 76 [] [.ptr 1 0]),(5,.i V.2.1),(6,.i V.2.2)],[.row .B1 V.1,.cells [.rs .int E]]⟩) (bP W E) (ci W E) (W.length+1) (W,(a_ W E),(i64.wrap ((a_ W E)+1))) (λ_=>.normal) (λO=>⟨[(0,.os 0),(5,.i O.1)],[.row .B1 O.2,.cells [.rs .int E]]⟩)) L0),?_,?_⟩;unfold aa f74;simp only[ak,true_and,and_true,and_assoc];refine dH aC hG (λ_=>rfl) λX V Y=>⟨L0,ag _,?_⟩;unfold ci at Y;exact cD (jl [0,1]);unfold aa f74;try unfold bI
 exact awm (jl [0,1,0]) (jl [0,1,2])
def dg (a:M1)(b:List Int):M1:=({ d:=a.d,c:=(bI a.c b)}:M1)
def j9 (a:M1)(b:List Int):Prop:=((a.c.length*40<=dh)/\(bF a.c b))
@[go_sem] def CZ:FI:=(pD .P1 λa=>(pR .int λb=>(pE (.det (j9 a b) (.agg (cellsOf .P1 (dg a b)))))))
theorem vE:P0 prog 32 CZ:=fN (mG (cn [.sl .B1] zk Q1) (co mE Q1)) f32 [.st .P1] (ap λO=>aZ λbl=>am λE=>Pq @dg.eq_1 @j9.eq_1)
def AA (d:ai):Bool:=((((((decide ((d.reaches.length:Int)<=100))&&(decide ((d.zs.length:Int)<=700)))&&(decide ((d.atE.length:Int)<=100)))&&(decide ((d.bl.length:Int)<=300)))&&(decide ((d.aty.length:Int)<=300)))&&(decide ((d.auc.length:Int)<=100)))
@[go_sem] def QV:FI:=(pD .al λd=>(pE (.det True (.v (.bool (AA d))))))
theorem N6:P0 prog 125 QV:=fN (mG Q1 Q1) f125 [.o] (ap λd=>am λE=>Ko @AA.eq_1)
def aT (n a b:Int):Bool:=((decide (n>=a))&&(decide (n<=b)))
@[go_sem] def Il:FI:=(pI λn=>(pI λa=>(pI λb=>(pE (.det True (.v (.bool (aT n a b))))))))
theorem l7:P0 prog 299 Il:=fN (mG Q1 Q1) f299 [.o] (ax λn=>ax λlo=>ax λhi=>am λE=>Ko @aT.eq_1)
@[go_sem] def jr (b:Int)(c:Nat)(a:Int×Int):Int⊕(Int×Int):=(bif(decide (a.2 > 0))then .inr (a.2,(Int.tmod a.1 a.2))else .inl a.1)
def pC (b:Int)(c:Nat)(a:Int×Int):Prop:=((decide (a.2 > 0))=true->a.2≠0)
def oO (a b:Int):Int:=(match aj (jr b) (Int.toNat b+1) 0 (a,b)with| .inl c=>c| .inr d=>default)
def pf (a b:Int):Prop:=(okI (jr b) (pC b) (Int.toNat b+1) 0 (a,b)/\(∀ z_,aj (jr b) (Int.toNat b+1) 0 (a,b)≠ .inr z_))
@[go_sem] def F5:FI:=(pI λa=>(pI λb=>(pE (.det (pf a b) (.i (oO a b))))))
theorem Ef:P0 prog 332 F5:=by
 have hG:=mG Q1 Q1;refine fN hG f332 [.o] (ax λa=>(ax λb=>(am (λX=>?_))));dsimp only[an,pf]at X;refine⟨nbl rfl,(XO 0 (LCV (ρ:=Int) (σ:=(Int×Int)) 0 [] [] (λV O=>⟨[(0,.i O.1),(1,.i O.2)],[]⟩) (jr b) (pC b) (Int.toNat b+1) (a,b) (λ_=>.normal) (λE=>⟨[(0,.i E)],[]⟩)) L0),?_,?_⟩;unfold aa f332;simp only[ak,true_and,and_true];refine dH aC hG (λ_=>rfl) λV O W=>⟨L0,ag _,?_⟩;unfold pC at W;exact cD (jl []);exact Ce @oO.eq_1
def r7 (n:Int):Int:=(bif(decide (n<0))then(i64.wrap (0 - n))else n)
@[go_sem] def N7:FI:=(pI λn=>(pE (.det True (.i (r7 n)))))
theorem KH:P0 prog 333 N7:=fN (mG Q1 Q1) f333 [.o] (ax λn=>am λE=>Ko @r7.eq_1)
def eG (a:W2):Bool:=(((((decide (a.d>=1))&&(decide (a.d<=1073741824)))&&(decide (a.n>=(-1073741824))))&&(decide (a.n<=1073741824)))&&((oO (r7 a.n) a.d) ==1))
def ia (a:W2):Prop:=(((((decide (a.d>=1))&&(decide (a.d<=1073741824)))&&(decide (a.n>=(-1073741824))))&&(decide (a.n<=1073741824)))=true->(pf (r7 a.n) a.d))
@[go_sem] def KI:FI:=(pD .ratio λa=>(pE (.det (ia a) (.v (.bool (eG a))))))
theorem nq:P0 prog 303 KI:=fN (mG (cp Ef (cp KH Q1)) Q1) f303 [.o] (ap λa=>am λE=>Pq @eG.eq_1 @ia.eq_1)
def j_ (a:W2):Int:=(bif(!(eG a))then 120 else 0)
def sK (a:W2):Prop:=(ia a)
@[go_sem] def KJ:FI:=(pD .ratio λa=>(pE (.det (sK a) (.i (j_ a)))))
theorem Im:P0 prog 347 KJ:=fN (mG (cp nq Q1) Q1) f347 [.o] (ap λa=>am λE=>Pq @j_.eq_1 @sK.eq_1)
def lG (a b:W2):Bool:=(decide ((i64.wrap (a.n*b.d)) < (i64.wrap (b.n*a.d))))
@[go_sem] def N8:FI:=(pD .ratio λa=>(pD .ratio λb=>(pE (.det True (.v (.bool (lG a b)))))))
theorem Bk:P0 prog 311 N8:=fN (mG Q1 Q1) f311 [.o] (ap λa=>ap λb=>am λE=>Ko @lG.eq_1)
def ko (a b:W2):Bool:=((eG a)&&(eG b))
def qS (a b:W2):Prop:=((ia a)/\((eG a)=true->(ia b)))
@[go_sem] def N9:FI:=(pD .ratio λa=>(pD .ratio λb=>(pE (.det (qS a b) (.v (.bool (ko a b)))))))
theorem Bl:P0 prog 334 N9:=fN (mG (cp nq Q1) Q1) f334 [.o] (ap λa=>ap λb=>am λE=>Pq @ko.eq_1 @qS.eq_1)
def qi (a b:W2):Int×Int:=(bif(!(ko a b))then(0,120)else(bif(lG a b)then((-1),0)else(bif(lG b a)then(1,0)else(0,0))))
def zU (a b:W2):Prop:=(qS a b)
@[go_sem] def QW:FI:=(pD .ratio λa=>(pD .ratio λb=>(pE (.det (zU a b) (.tup [.i ((qi a b).1),.i ((qi a b).2)])))))
theorem N_:P0 prog 348 QW:=fN (mG (cp Bk (cp Bl Q1)) Q1) f348 [.o,.o] (ap λa=>ap λb=>am λE=>Pq @qi.eq_1 @zU.eq_1)
@[go_sem] def mo (b:Int)(c:Nat)(a:Int×Int):(Int×Int)⊕(Int×Int):=(bif(decide (a.2< (-1)))then .inr (a.2,(Int.tmod a.1 a.2))else .inl (a.1,a.2))
def pg (b:Int)(c:Nat)(a:Int×Int):Prop:=((decide (a.2< (-1)))=true->a.2≠0)
def r8 (f b:Int):W2×Int:=letI c:=bif(decide (f > 0))then(i64.wrap (0 - f))else f;letI e:=bif(decide (b > 0))then(i64.wrap (0 - b))else b;letI g:=i64.wrap (Int.tdiv c (-1));letI h:=i64.wrap (Int.tdiv e (-1));letI i:=(decide (f<0)) !=(decide (b<0));letI j:=decide (c< (-1073741824));letI k:=decide (e< (-1073741824));(bif(b==0)then(({ n:=0,d:=0}:W2),120)else(match aj (mo b) (Int.natAbs b+2) 0 (c,e)with| .inl a=>(bif(a.2==(-1))then(bif(j||k)then(({ n:=0,d:=0}:W2),2)else(bif((decide (g > 1073741824)) ||(decide (h > 1073741824)))then(({ n:=0,d:=0}:W2),2)else(bif i then(({ n:=(i64.wrap (0 - g)),d:=h}:W2),0)else(({ n:=g,d:=h}:W2),0))))else(bif((a.1==(-1))&&(j||k))then(({ n:=0,d:=0}:W2),2)else(bif((decide ((i64.wrap (Int.tdiv c a.1)) > 1073741824)) ||(decide ((i64.wrap (Int.tdiv e a.1)) > 1073741824)))then(({ n:=0,d:=0}:W2),2)else(bif i then(({ n:=(i64.wrap (0 - (i64.wrap (Int.tdiv c a.1)))),d:=(i64.wrap (Int.tdiv e a.1))}:W2),0)else(({ n:=(i64.wrap (Int.tdiv c a.1)),d:=(i64.wrap (Int.tdiv e a.1))}:W2),0))))) | .inr l=>default))
def qT (b a:Int):Prop:=letI f:=bif(decide (b > 0))then(i64.wrap (0 - b))else b;letI g:=bif(decide (a > 0))then(i64.wrap (0 - a))else a;letI c:=(f,g);letI d:=Int.natAbs a+2;letI e:=mo a;letI h:=decide (f< (-1073741824));letI i:=decide (g< (-1073741824));((a==0)=false->(okI e (pg a) d 0 c/\(∀ z_,aj e d 0 c≠ .inr z_)/\(∀ lx,aj e d 0 c=.inl lx->(((lx.2==(-1))=true->((h||i)=false->((-1)≠0/\(-1)≠0)))/\((lx.2==(-1))=false->(((lx.1==(-1))&&(h||i))=false->(lx.1≠0/\lx.1≠0)))))))
@[go_sem] def Oa:FI:=(pI λa=>(pI λb=>(pE (.det (qT a b) (.tup [.agg (cellsOf .ratio ((r8 a b).1)),.i ((r8 a b).2)])))))
theorem KK:P0 prog 335 Oa:=by
 have hG:=mG Q1 Q1;refine fN hG f335 [.st .ratio,.o] (ax λa0=>(ax λa1=>(am (λX=>?_))));dsimp only[an,qT]at X;refine⟨nbl rfl,(XO 1000016 (λ_=>JC (⟨[(0,.i a0),(1,.i a1),(4,.ptr 0 0),(6,.i (bif(decide (a0 > 0))then(i64.wrap (0 - a0))else a0))],[.cells [.i 0,.i 0]]⟩)) (XO 1000021 (λ_=>JC (⟨[(0,.i a0),(1,.i a1),(4,.ptr 0 0),(6,.i (bif(decide (a0 > 0))then(i64.wrap (0 - a0))else a0)),(7,.i (bif(decide (a1 > 0))then(i64.wrap (0 - a1))else a1))],[.cells [.i 0,.i 0]]⟩)) (XO 0 (LCV (ρ:=(Int×Int)) (σ:=(Int×Int)) 1 [] [0] (λV O=>⟨[(0,.i a0),(1,.i a1),(4,.ptr 0 0),(6,.i (bif(decide (a0 > 0))then(i64.wrap (0 - a0))else a0)),(7,.i (bif(decide (a1 > 0))then(i64.wrap (0 - a1))else a1)),(8,.i O.1),(9,.i O.2)],[.cells [.i 0,.i 0]]⟩) (mo a1) (pg a1) (Int.natAbs a1+2) ((bif(decide (a0 > 0))then(i64.wrap (0 - a0))else a0),(bif(decide (a1 > 0))then(i64.wrap (0 - a1))else a1)) (λ_=>.normal) (λE=>⟨[(0,.i a0),(1,.i a1),(4,.ptr 0 0),(6,.i (bif(decide (a0 > 0))then(i64.wrap (0 - a0))else a0)),(7,.i (bif(decide (a1 > 0))then(i64.wrap (0 - a1))else a1)),(8,.i E.1),(9,.i E.2)],[.cells [.i 0,.i 0]]⟩)) L0))),?_,?_⟩;unfold aa f335;simp only[ak,true_and,and_true];refine dH aC hG (λ_=>rfl) λV O W=>⟨L0,ag _,?_⟩;unfold pg at W;exact cD (jl [0]);exact Ce @r8.eq_1
def uW (a b:W2):W2×Int:=letI c:=r8 (i64.wrap ((i64.wrap (a.n*b.d))+(i64.wrap (b.n*a.d)))) (i64.wrap (a.d*b.d));(bif(!(ko a b))then(({ n:=0,d:=0}:W2),120)else((c.1),c.2))
def tO (a b:W2):Prop:=((qS a b)/\((!(ko a b))=false->(qT (i64.wrap ((i64.wrap (a.n*b.d))+(i64.wrap (b.n*a.d)))) (i64.wrap (a.d*b.d)))))
@[go_sem] def QX:FI:=(pD .ratio λa=>(pD .ratio λb=>(pE (.det (tO a b) (.tup [.agg (cellsOf .ratio ((uW a b).1)),.i ((uW a b).2)])))))
theorem Oc:P0 prog 304 QX:=fN (mG (cp Bl (cp KK Q1)) Q1) f304 [.st .ratio,.o] (ap λa=>ap λb=>am λE=>Pq @uW.eq_1 @tO.eq_1)
def qj (n d:Int):Int:=(bif(decide ((Int.tmod n d) <0))then(i64.wrap ((i64.wrap (Int.tdiv n d)) - 1))else(i64.wrap (Int.tdiv n d)))
def sL (n d:Int):Prop:=(d≠0/\d≠0)
@[go_sem] def KL:FI:=(pI λn=>(pI λd=>(pE (.det (sL n d) (.i (qj n d))))))
theorem In:P0 prog 305 KL:=fN (mG Q1 Q1) f305 [.o] (ax λn=>ax λd=>am λE=>Pq @qj.eq_1 @sL.eq_1)
def gM (a:W2)(n:Int):Int×Int×Int:=(bif(!(eG a))then(0,0,120)else(bif((decide (n< (-1073741824))) ||(decide (n > 1073741824)))then(0,0,1)else((qj (i64.wrap (a.n*n)) a.d),(i64.wrap (0 - (qj (i64.wrap ((i64.wrap (0 - a.n))*n)) a.d))),0)))
def oQ (a:W2)(n:Int):Prop:=((ia a)/\((!(eG a))=false->(((decide (n< (-1073741824))) ||(decide (n > 1073741824)))=false->((sL (i64.wrap (a.n*n)) a.d)/\(sL (i64.wrap ((i64.wrap (0 - a.n))*n)) a.d)))))
@[go_sem] def KM:FI:=(pD .ratio λa=>(pI λn=>(pE (.det (oQ a n) (.tup [.i ((gM a n).1),.i ((gM a n).2.1),.i ((gM a n).2.2)])))))
theorem Io:P0 prog 258 KM:=fN (mG (cp nq (cp In Q1)) Q1) f258 [.o,.o,.o] (ap λa=>ax λn=>am λE=>Pq @gM.eq_1 @oQ.eq_1)
def lH (x:W2×W2):Bool:=(bif(((j_ x.1) !=0) ||((j_ x.2) !=0))then false else(((decide (x.1.n>=0))&&(decide ((qi x.1 x.2).1<=0)))&&(decide (x.2.n<=x.2.d))))
def qU (x:W2×W2):Prop:=((sK x.1)/\((((j_ x.1) !=0)=false->(sK x.2))/\((((j_ x.1) !=0) ||((j_ x.2) !=0))=false->(zU x.1 x.2))))
@[go_sem] def Ip:FI:=(pD .at6 λx=>(pE (.det (qU x) (.v (.bool (lH x))))))
theorem F6:P0 prog 344 Ip:=fN (mG (cp Im (cp N_ Q1)) Q1) f344 [.o] (ap λx=>am λE=>Pq @lH.eq_1 @qU.eq_1)
def tP (x:Reach):Bool:=(bif(((!(aT x.delay 1 16)) ||(!(aT x.cap 0 1073741824))) ||(!(aT x.at2 0 1099511627776)))then false else(bif(((!(aT x.atz 0 (if x.at2<x.cap then x.at2 else x.cap))) ||(!(aT x.at5.lo 0 x.at5.hi))) ||(decide (x.at5.hi > 1073741824)))then false else(lH x.atL)))
def sM (x:Reach):Prop:=((((!(aT x.delay 1 16)) ||(!(aT x.cap 0 1073741824))) ||(!(aT x.at2 0 1099511627776)))=false->((((!(aT x.atz 0 (if x.at2<x.cap then x.at2 else x.cap))) ||(!(aT x.at5.lo 0 x.at5.hi))) ||(decide (x.at5.hi > 1073741824)))=false->(qU x.atL)))
@[go_sem] def KN:FI:=(pD .reach λx=>(pE (.det (sM x) (.v (.bool (tP x))))))
theorem Iq:P0 prog 331 KN:=fN (mG (cp l7 (cp F6 Q1)) Q1) f331 [.o] (ap λx=>am λE=>Pq @tP.eq_1 @sM.eq_1)
@[go_sem] def jt (d:List Reach)(c:Nat)(e:Unit):Unit⊕Unit:=letI a:=d.getD c default;letI b:=(c:Int);(bif(((b==0)&&(a.up !=(-1))) ||((decide (b > 0))&&(!(aT (a.up) 0 (i64.wrap (b - 1))))))then .inl ()else(bif(!(tP a))then .inl ()else .inr ()))
def pF (b:List Reach)(a:Nat)(c:Unit):Prop:=(b.length<=aD->(((((a:Int) ==0)&&((b.getD a default).up !=(-1))) ||((decide ((a:Int) > 0))&&(!(aT ((b.getD a default).up) 0 (i64.wrap ((a:Int) - 1))))))=false->(sM (b.getD a default))))
def sN (a:List Reach):Bool:=(match aj (jt a) a.length 0 ()with| .inl b=>false| .inr c=>(decide ((a.length:Int) > 0)))
def ub (a:List Reach):Prop:=okI (jt a) (pF a) a.length 0 ()
@[go_sem] def F7:FI:=(pR .reach λa=>(pE (.det (ub a) (.v (.bool (sN a))))))
theorem Eg:P0 prog 300 F7:=by
 have hG:=mG (cp l7 (cp Iq Q1)) Q1;refine fN hG f300 [.o] (aZ λV=>(am (λY=>?_)));dsimp only[an,ub]at Y;refine⟨nbl rfl,(XO 0 (LCR (ρ:=Unit) (σ:=Unit) 0 [] [] (λE O=>⟨[(0,.rs .reach V),(3,.i E)],[]⟩) (jt V) (pF V) V.length () (True) (λ_=>.ret) (λX=>⟨[(2,.v (.bool false))],[]⟩)) L0),?_,?_⟩;unfold aa f300;simp only[ak,true_and,and_true];refine bX (V.length<=aD) aC hG (λ_=>rfl) (V.length:Int) eE (λhb0 E O aue W hw hc=>⟨L0,ag _,?_⟩) (λhb0 O hc=>?_) λhb0 E O=>?_;simp only[pF,hw,aqa]at W
 exact aW (jl []);exact aV (jl []);exact zq7;exact Ce @sN.eq_1
@[go_sem] def nr (a:ai)(b:Nat)(c:Unit):Unit⊕Unit:=(bif(!(aT ((a.atE.getD b default).need) 0 1048576))then .inl ()else .inr ())
@[go_sem] def nt (b:ai)(c:Nat)(d:Unit):Unit⊕Unit:=letI a:=b.zs.getD c default;(bif((!(aT (a.reach) 0 (i64.wrap ((b.reaches.length:Int) - 1)))) ||(!(aT (a.au4) 0 1048576)))then .inl ()else(bif(((a.au4==0)&&(a.at9 !=(-1))) ||((decide (a.au4 > 0))&&(!(aT (a.at9) 0 (i64.wrap ((b.atE.length:Int) - 1))))))then .inl ()else .inr ()))
def wA (a:ai):Bool:=(match aj (nr a) a.atE.length 0 ()with| .inl b=>false| .inr c=>(match aj (nt a) a.zs.length 0 ()with| .inl d=>false| .inr e=>true))
@[go_sem] def KO:FI:=(pD .al λa=>(pE (.det True (.v (.bool (wA a))))))
theorem Ir(h:p:=by simp only[go_sem,hb1]):p:=h
theorem Is:P0 prog 301 KO:=by
 have hG:=mG (cp l7 Q1) Q1;refine fN hG f301 [.o] (ap λa0=>(am (λhp=>?_)));dsimp only[an]at hp;refine⟨nbl rfl,(XO 0 (LCR (ρ:=Unit) (σ:=Unit) 1 [] [0] (λE O=>⟨[(1,.ptr 0 0),(3,.i E)],[.cells (cellsOf .al a0)]⟩) (nr a0) pT a0.atE.length () (True) (λ_=>.ret) (λX=>⟨[(2,.v (.bool false))],[.dead]⟩)) (XO 2 (LCR (ρ:=Unit) (σ:=Unit) 1 [] [0] (λV W=>⟨[(1,.ptr 0 0),(4,.i V)],[.cells (cellsOf .al a0)]⟩) (nt a0) pT a0.zs.length () (True) (λ_=>.ret) (λY=>⟨[(2,.v (.bool false))],[.dead]⟩)) L0)),?_,?_⟩;unfold aa f301;simp only[ak,true_and,and_true];refine⟨?_,?_⟩;refine bX (a0.atE.length<=aD) aC hG (λ_=>rfl) (a0.atE.length:Int) eE (λhb0 E O aue _ hw hc=>⟨L0,ag _,aW (jl [0])⟩) (λhb0 O hc=>aV (jl [0])) λhb0 E O=>zq7;refine bX (a0.zs.length<=aD) aC hG (λ_=>rfl) (a0.zs.length:Int) eE (λhb1 V W auI _ hw hc=>⟨L0,ag _,aW (jl [0])⟩) (λhb1 W hc=>aV (jl [0])) λhb1 V W=>Ir;exact Ce @wA.eq_1
def tQ (b:ai)(a:atN):Bool:=letI c:=(((a.att==0)&&(a.bn==0))&&(a.every==0))&&(a.length==0);(bif((((!(aT a.gl 0 (i64.wrap ((b.zs.length:Int) - 1)))) ||(!(aT a.reach 0 (i64.wrap ((b.reaches.length:Int) - 1))))) ||(!(aT a.since 0 a.to))) ||(decide (a.to>=b.hours)))then false else(bif(a.kind==1)then(((((a.reach==0)&&(aT a.att 0 1048576))&&(aT a.bn 1 1073741824))&&(aT a.length 1 a.every))&&(decide (a.every<=b.hours)))else(bif(a.kind==2)then((c&&(a.since==0))&&(a.to==(i64.wrap (b.hours - 1))))else(bif(a.kind==3)then c else false))))
@[go_sem] def KP:FI:=(pD .al λa=>(pD .right λb=>(pE (.det True (.v (.bool (tQ a b)))))))
theorem It:P0 prog 302 KP:=fN (mG (cp l7 Q1) Q1) f302 [.o] (ap λa0=>ap λa1=>am λE=>Ko @tQ.eq_1)
@[go_sem] def nu (a:ai)(b:Nat)(c:Unit):Unit⊕Unit:=(bif(!(tQ a (a.bl.getD b default)))then .inl ()else .inr ())
@[go_sem] def nv (a:ai)(c:Nat)(d:Unit):Unit⊕Unit:=letI b:=a.aty.getD c default;(bif(((!(aT (b.gl) 0 (i64.wrap ((a.zs.length:Int) - 1)))) ||(!(aT (b.reach) 0 (i64.wrap ((a.reaches.length:Int) - 1))))) ||(!(aT (b.due) 0 a.hours)))then .inl ()else .inr ())
def qk (a:ai):Bool:=(bif(((!(aT a.hours 1 4096)) ||(!(aT a.atx.start 0 a.atx.cap))) ||(decide (a.atx.cap > 1099511627776)))then false else(bif((!(sN a.reaches)) ||(!(wA a)))then false else(match aj (nu a) a.bl.length 0 ()with| .inl b=>false| .inr c=>(match aj (nv a) a.aty.length 0 ()with| .inl d=>false| .inr e=>true))))
def sO (a:ai):Prop:=((((!(aT a.hours 1 4096)) ||(!(aT a.atx.start 0 a.atx.cap))) ||(decide (a.atx.cap > 1099511627776)))=false->(ub a.reaches))
@[go_sem] def KQ:FI:=(pD .al λa=>(pE (.det (sO a) (.v (.bool (qk a))))))
theorem Iu:P0 prog 252 KQ:=by
 have hG:=mG (cp l7 (cn [.sl .reach] Eg (cn [.st .al] Is (cn [.st .al,.st .right] It Q1)))) Q1;refine fN hG f252 [.o] (ap λa0=>(am (λhp=>?_)));dsimp only[an,sO]at hp;refine⟨nbl rfl,(XO 0 (LCR (ρ:=Unit) (σ:=Unit) 1 [] [0] (λE O=>⟨[(1,.ptr 0 0),(3,.i E)],[.cells (cellsOf .al a0)]⟩) (nu a0) pT a0.bl.length () (True) (λ_=>.ret) (λX=>⟨[(2,.v (.bool false))],[.dead]⟩)) (XO 2 (LCR (ρ:=Unit) (σ:=Unit) 1 [] [0] (λV W=>⟨[(1,.ptr 0 0),(4,.i V)],[.cells (cellsOf .al a0)]⟩) (nv a0) pT a0.aty.length () (True) (λ_=>.ret) (λY=>⟨[(2,.v (.bool false))],[.dead]⟩)) L0)),?_,?_⟩;unfold aa f252;simp only[ak,true_and,and_true];refine⟨?_,?_⟩;refine bX (a0.bl.length<=aD) aC hG (λ_=>rfl) (a0.bl.length:Int) eE (λhb0 E O aue _ hw hc=>⟨L0,ag _,aW (jl [0])⟩) (λhb0 O hc=>aV (jl [0])) λhb0 E O=>zq7;refine bX (a0.aty.length<=aD) aC hG (λ_=>rfl) (a0.aty.length:Int) eE (λhb1 V W auI _ hw hc=>⟨L0,ag _,aW (jl [0])⟩) (λhb1 W hc=>aV (jl [0])) λhb1 V W=>Ir;exact Ce @qk.eq_1
def fj (d:ai):Int:=(bif(((((decide ((d.reaches.length:Int) > 64)) ||(decide ((d.zs.length:Int) > 600))) ||(decide ((d.atE.length:Int) > 32))) ||(decide ((d.bl.length:Int) > 256))) ||(decide ((d.aty.length:Int) > 256)))then 2 else(bif(!(qk d))then 191 else 0))
def mq (d:ai):Prop:=(d.reaches.length<=aD->((((((decide ((d.reaches.length:Int) > 64)) ||(decide ((d.zs.length:Int) > 600))) ||(decide ((d.atE.length:Int) > 32))) ||(decide ((d.bl.length:Int) > 256))) ||(decide ((d.aty.length:Int) > 256)))=false->(sO d)))
@[go_sem] def KR:FI:=(pD .al λd=>(pE (.det (mq d) (.i (fj d)))))
theorem vF:P0 prog 182 KR:=fN (mG (cn [.st .al] Iu Q1) Q1) f182 [.o] (ap λd=>am λE=>Pq @fj.eq_1 @mq.eq_1)
@[go_sem] def Bm (a:List Int)(b:Nat)(c:Unit):Int⊕Unit:=(bif((a.getD b 0) !=0)then .inl (a.getD b 0)else .inr ())
def lI (a:List Int):Int:=(match aj (Bm a) a.length 0 ()with| .inl b=>b| .inr c=>0)
@[go_sem] def Od:FI:=(pR .int λa=>(pE (.det True (.i (lI a)))))
theorem Bn:P0 prog 81 Od:=by
 have hG:=mG Q1 Q1;refine fN hG f81 [.o] (aZ λdE=>(am (λX=>?_)));dsimp only[an]at X;refine⟨nbl rfl,(XO 0 (LCR (ρ:=Int) (σ:=Unit) 0 [] [] (λO V=>⟨[(3,.i 0),(6,.rs .int dE),(7,.i (dE.length:Int)),(8,.i O)],[]⟩) (Bm dE) pT dE.length () (dE.length<=aD) (λ_=>.ret) (λE=>⟨[(2,.i E)],[]⟩)) L0),?_,?_⟩;unfold aa f81;simp only[ak,true_and,and_true];refine bG aC hG (λ_=>rfl) (dE.length:Int) eE (λhb0 O V W _ hw hc=>⟨L0,ag _,aW (jl [])⟩) λhb0 V hc=>aV (jl []);exact Ce @lI.eq_1
def da (x y:atr):Int:=(lI ([(bv x.right y.right),(bv x.gl y.gl)]))
@[go_sem] def yX:FI:=(pD .holding λx=>(pD .holding λy=>(pE (.det True (.i (da x y))))))
theorem Eh:P0 prog 232 yX:=fN (mG (cn [.sl .int] Bn (cp fg Q1)) Q1) f232 [.o] (ap λx=>ap λy=>am λE=>Ko @da.eq_1)
theorem ka (x y:Int):bv x y=if x<y then -1 else if x > y then 1 else 0:=by
 unfold bv mm;simp[aqV]
theorem TH (x:Int)(l:List Int):lI (x::l)=if x=0 then lI l else x:=by
 have key:∀ l:List Int,lI l=match cS (ρ:=Int) (λ(x:Int) (_:Unit) =>bif(x !=0)then .inl x else .inr ()) l ()with| .inl y=>y| .inr _=>0:=λl=>by
  have:=uu (ρ:=Int) (λ(x:Int) (_:Unit) =>bif(x !=0)then .inl x else .inr ()) 0 l ();rw[<-this];rfl
 rw[key,key];simp[cS];by_cases h:x=0
 subst h;rfl;have:(x !=0)=true:=by simpa using h
 rw[if_neg h,this];rfl
def WO:lI []=0:=rfl
def qw:List (Int×Int)->Prop
 | [] =>False|(a,b)::r=>a<b\/a=b/\qw r
theorem Ei:∀ l:List (Int×Int),(lI (l.map λp=>bv p.1 p.2) <0↔qw l)
 | [] =>by simp[WO,qw]
 |(a,b)::r=>by
  have hc:=ka a b;simp[aqZ,TH,hc,qw];rcases asf a b with h|h|h;simp[h];subst h;simp[as7,true_and,false_or];exact Ei r;have h1:¬a<b:=XM
  have h2:a≠b:=XM
  simp[h1,h2,h]
def hlt (a b:atr):Prop:=qw [(a.right,b.right),(a.gl,b.gl)]
def Iv (a b:atr):da a b<0↔hlt a b:=Ei [(a.right,b.right),(a.gl,b.gl)]
open Go.Shelf Go.Sort in
theorem Oe {α:Type}{f:α->α->Int}{r:α->α->Prop}(e:∀ x y,f x y<0↔r x y)(h1:∀ x,¬r x x)(h2:∀ x y z,r x y->r y z->r x z)(V:∀ x y z,¬r x y->¬r y z->¬r x z):SWO (ltOf f):=by
 have E:∀ x y,ltOf f x y=true↔r x y:=λx y=>by unfold ltOf;rw[decide_eq_true_eq,e]
 have O:∀ x y,ltOf f x y=false↔¬r x y:=λx y=>by rw[<-E];simp
 exact⟨λx=>(O x x).2 (h1 x),λx y z a b=>(E x z).2 (h2 x y z ((E x y).1 a) ((E y z).1 b)),λx y z a b=>(O x z).2 (V x y z ((O x y).1 a) ((O y z).1 b))⟩
open Go.Shelf Go.Sort in
theorem Fk:SWO (ltOf da):=Oe Iv (λx=>by simp only[hlt,qw,and_false,or_false];omega) (λx y z h1 h2=>by simp[hlt,qw,and_false,or_false]at *;omega) (λx y z h1 h2=>by simp[hlt,qw,and_false,or_false]at *;omega)
variable {n:Nat}
theorem oa{i:Nat}{step:Nat->Unit->Unit⊕Unit}{s:Unit}(h:aj step n i s=.inr s):∀ j,i<=j->j<i+n->step j ()=.inr ():=by
 induction n generalizing i with
 |zero=>omega
 |succ n E=>
  grind [aj]
theorem iY {b:Bool}{e:Int}:dJ b e=b:=by
 cases b <;>rfl
variable {c:Int}
theorem yk{a b:Int}(h:aS [a,b,c]=true):a<=b/\b<=c:=by
 unfold aS at h;simp[aqc]at h;split at h
 cases h;rename_i s E;have O:=oa E 0 XM XM;have h1:=oa E 1 XM XM;grind [cH,IntKind.wrap,IntKind.bits,IntKind.signed]
theorem sP{a b d:Int}(h:aS [a,b,c,d]=true):a<=b/\b<=c/\c<=d:=by
 unfold aS at h;simp[aqc]at h;split at h
 cases h;rename_i s E;have O:=oa E 0 XM XM;have h1:=oa E 1 XM XM;have h2:=oa E 2 XM XM;simp[cH,IntKind.wrap,IntKind.bits]at O h1 h2;grind
structure atq (d:ai):Prop where
 reaches:d.reaches.length<=64
 one:0<d.reaches.length
 zs:d.zs.length<=600
 bl:d.bl.length<=256
 aua:1<=d.hours
 hours:d.hours<=4096
 awy:0<=d.atx.start
 start:d.atx.start<=d.atx.cap
 cap:d.atx.cap<=1099511627776
 reach:∀ k,k<d.reaches.length->be (k:Int) (d.reaches.getD k default)=true
 gl:∀ k,k<d.zs.length->0<=(d.zs.getD k default).reach/\(d.zs.getD k default).reach< (d.reaches.length:Int)
theorem kc {d:ai}(h:(aB d !=0)=false):atq d:=by
 unfold aB at h;simp[iY]at h;cases h1:(decide ((d.reaches.length:Int)<=64)&&decide ((d.zs.length:Int)<=600)&&decide ((d.atE.length:Int)<=32)&&decide ((d.bl.length:Int)<=256)&&decide ((d.aty.length:Int)<=256))with
 |false=>grind
 |true=>
  cases h2:gu d 191 with
  |false=>grind
  |true=>
   unfold gu at h2;simp only[iY]at h2;cases E:(aS [1,d.hours,4096]&&aS [0,d.atx.start,d.atx.cap,1099511627776]&&decide ((d.reaches.length:Int) > 0))with
   |false=>grind
   |true=>
    rw[E]at h2;simp[ap9,decide_eq_true_eq]at h1 E;have⟨r1,r2⟩:=yk E.1.1;have⟨r3,r4,r5⟩:=sP E.1.2;split at h2
    cases h2;rename_i s0 V;split at h2
    cases h2;split at h2
    cases h2;rename_i s2 O;refine⟨XM,XM,XM,XM,r1,r2,r3,r4,r5,λk W=>?_,λk W=>?_⟩;have:=oa V k XM XM;grind [ez,iY]
    have:=oa O k XM XM;grind [eA,iY,cK]
theorem oc {k:Nat}(h:k<9223372036854775807)(h1:0<k):i64.wrap ((k:Int) - 1)=((k - 1:Nat):Int):=by
 grind [ar]
theorem r9 {step:Nat->Unit->Unit⊕Unit}:∀ {n i:Nat},(∀ j,i<=j->j<i+n->step j ()=.inr ())->aj step n i ()=.inr ()
 |0,_,_=>rfl
 |n+1,i,h=>by
  simp only[aj];rw[h i XM XM];exact r9 λj h1 h2=>h j XM XM
theorem gf{step:Nat->Unit->Unit⊕Unit}:aj step n 0 ()=.inr ()↔∀ j,j<n->step j ()=.inr ():=
 ⟨λh j E=>oa h j XM XM,λh=>r9 λj _ h2=>h j XM⟩
variable {ρ:Type}
theorem ny{i:Nat}{step:Nat->Unit->ρ⊕Unit}{s:Unit}(h:aj step n i s=.inr s):∀ j,i<=j->j<i+n->step j ()=.inr ():=by
 induction n generalizing i with
 |zero=>omega
 |succ n E=>
  grind [aj]
variable {α:Type}
theorem ib(l:List α)(d:α)(h:n<l.length):l.getD n d=l[n]:=by
 grind
theorem nz {k:Tag}(l:List (k.T×Int))(x z:k.T)(y:Int):aF k .int (cy k .int l x y) z=if z=x then y else aF k .int l z:=by
 grind [aF,cy,uV]
theorem ahu{step:Nat->Unit->Unit⊕Unit}{a b:α}:(match aj step n 0 ()with| .inl _=>a| .inr _=>b)=b\/∃ y,aj step n 0 ()=.inl y:=by
 grind
variable {a:Int}
theorem Iw{b:Int}(h1:a<=b)(h2:b<=c):aS [a,b,c]=true:=by
 have e:aj (cH [a,b,c]) 2 0 ()=.inr ():=gf.2 λj E=>by
  rcases(by omega:j=0\/j=1)with rfl|rfl;simp[cH,IntKind.wrap,IntKind.bits,aqV];omega;simp[cH,IntKind.wrap,IntKind.bits,aqV];omega
 simp_all [aS]
theorem Ix{b d:Int}(h1:a<=b)(h2:b<=c)(O:c<=d):aS [a,b,c,d]=true:=by
 have e:aj (cH [a,b,c,d]) 3 0 ()=.inr ():=gf.2 λj E=>by
  rcases(by omega:j=0\/j=1\/j=2)with rfl|rfl|rfl;simp[cH,IntKind.wrap,IntKind.bits,aqV];omega;simp[cH,IntKind.wrap,IntKind.bits,aqV];omega;simp[cH,IntKind.wrap,IntKind.bits,aqV];omega
 simp_all [aS]
theorem ql (d:ai):aB d=0↔(d.reaches.length<=64/\d.zs.length<=600/\d.atE.length<=32/\d.bl.length<=256/\d.aty.length<=256)/\(1<=d.hours/\d.hours<=4096)/\(0<=d.atx.start/\d.atx.start<=d.atx.cap/\d.atx.cap<=1099511627776)/\0<d.reaches.length/\
  (∀ k,k<d.reaches.length->ez d 191 k ()=.inr ())/\(∀ k,k<d.atE.length->eV d 191 k ()=.inr ())/\(∀ k,k<d.zs.length->eA d 191 k ()=.inr ())/\(∀ k,k<d.bl.length->eB d 191 k ()=.inr ())/\(∀ k,k<d.aty.length->fG d 191 k ()=.inr ()):=by
 have W:gu d 191=true↔(1<=d.hours/\d.hours<=4096)/\(0<=d.atx.start/\d.atx.start<=d.atx.cap/\d.atx.cap<=1099511627776)/\0<d.reaches.length/\
  (∀ k,k<d.reaches.length->ez d 191 k ()=.inr ())/\(∀ k,k<d.atE.length->eV d 191 k ()=.inr ())/\(∀ k,k<d.zs.length->eA d 191 k ()=.inr ())/\(∀ k,k<d.bl.length->eB d 191 k ()=.inr ())/\(∀ k,k<d.aty.length->fG d 191 k ()=.inr ()):=by
  unfold gu;simp only[iY];cases E:(aS [1,d.hours,4096]&&aS [0,d.atx.start,d.atx.cap,1099511627776]&&decide ((d.reaches.length:Int) > 0))with
  |false=>
   simp_all [Iw,Ix]
  |true=>
   simp[ap9]at E;have V:=yk E.1.1;have O:=sP E.1.2;grind [gf]
 unfold aB;simp[iY];grind
theorem QY:∀ (f n d:Nat),1<=d->d<=f->1<=n->∀ x,(D1 f n d).getLastD x=Nat.gcd n d
 |0,n,d,h1,h2,_,x=>XM
 |f+1,n,d,h1,h2,h3,x=>by
  unfold D1;by_cases E:n % d=0
  have:d ∣ n:=Nat.dvd_of_mod_eq_zero E;grind [Nat.gcd_eq_right]
  have hlt:n % d<d:=ar8 _ XM;have O:=QY f d (n % d) XM XM XM n;grind [Nat.gcd_comm,Nat.gcd_rec]
theorem Iy{d:Nat}(h:1<=d):Qw n d=Nat.gcd n d:=by
 unfold Qw;rw[if_neg XM];by_cases E:n=0
 subst E;cases d with
 |zero=>omega|succ d=>simp[D1]
 exact QY d n d h (aqb _) XM d
theorem Of (O:Int):∀ (n i:Nat) (a b:Int),0<=a->0<=b->b.toNat<n->aj (jr O) n i (a,b)=.inl ((Nat.gcd a.toNat b.toNat:Nat):Int)
 |0,_,_,_,_,_,h=>XM
 |n+1,i,a,b,ha,hb,h=>by
  simp[aj,jr];by_cases E:b > 0
  rw[decide_eq_true E];simp[cond_true];have V:=arA (b:=b) ha;have W:=arF a (by omega:b≠0);have X:=arq a E;rw[V,Of O n (i+1) b (a % b) hb W XM];have Y:(a % b).toNat=a.toNat % b.toNat:=by
   grind
  grind [Nat.gcd_comm,Nat.gcd_rec]
  have:b=0:=XM
  subst this;grind
theorem Fl{b:Int}(E:0<=a)(O:0<=b):oO a b=((Nat.gcd a.toNat b.toNat:Nat):Int):=by
 grind [oO,Of]
theorem WP{b:Int}(E:0<=a)(O:0<=b):pf a b:=by
 refine⟨eu _ _ _ λj s _ _ h=>?_,λz h=>?_⟩;grind
 grind [Of]
variable {n:Int}
theorem Vh(E:0<=n)(h1:n<18446744073709551616):u64.wrap n=n:=by
 grind [IntKind.wrap,IntKind.bits,IntKind.signed]
theorem KS(E: -1073741824<=n)(h1:n<=1073741824):dw n=(n.natAbs:Int):=by
 unfold dw;by_cases h:n<0
 simp[IntKind.wrap,IntKind.bits];grind
 grind [Vh]
theorem Iz(E: -1073741824<=n)(h1:n<=1073741824):r7 n=(n.natAbs:Int):=by
 unfold r7;by_cases h:n<0
 grind [ar]
 grind
structure atM (a:W2):Prop where
 d1:1<=a.d
 d:a.d<=1073741824
 n0: -1073741824<=a.n
 n:a.n<=1073741824
 gcd:Nat.gcd a.n.natAbs a.d.toNat=1
theorem gK (a:W2):aX a=0↔atM a:=by
 unfold aX;cases h:((((decide (a.d<1)) ||(decide (a.d > 1073741824))) ||(decide (a.n< (-1073741824)))) ||(decide (a.n > 1073741824)))with
 |true=>
  simp[aqG,decide_eq_true_eq]at h;refine⟨λe=>(by cases e),λr=>?_⟩;have:=r.d1;have:=r.d;have:=r.n0;have:=r.n;omega
 |false=>
  simp[aqt,decide_eq_false_iff_not]at h;rw[KS XM XM,Vh XM XM,aqa,Iy XM];by_cases E:Nat.gcd a.n.natAbs a.d.toNat=1
  rw[E];exact⟨λ_=>⟨XM,XM,XM,XM,E⟩,λ_=>rfl⟩;have:((Nat.gcd a.n.natAbs a.d.toNat:Nat):Int)≠1:=XM
  rw[bne_iff_ne.2 this];exact⟨λe=>(by cases e),λr=>absurd r.gcd E⟩
theorem sa (a:W2):eG a=true↔atM a:=by
 unfold eG;constructor
 intro h;simp[ap9,decide_eq_true_eq,beq_iff_eq]at h;have⟨⟨⟨⟨h1,h2⟩,h3⟩,h4⟩,h5⟩:=h;rw[Iz XM XM,Fl XM XM,aqa]at h5;exact⟨h1,h2,h3,h4,XM⟩;intro r;have:=r.d1;have:=r.d;have:=r.n0;have:=r.n;simp[ap9,decide_eq_true_eq,beq_iff_eq];rw[Iz XM XM,Fl XM XM,aqa,r.gcd];omega
theorem Z0 (a:W2):aX a=0\/aX a=120:=by
 unfold aX;grind
theorem QZ (a:W2):aX a=j_ a:=by
 unfold j_;cases h:eG a with
 |true=>exact(gK a).2 ((sa a).1 h)
 |false=>
  have:aX a≠0:=λe=>by
   have:=(sa a).2 ((gK a).1 e);grind
  have:=Z0 a;grind
theorem vG (a:W2):eG a=(aX a==0):=by
 grind [gK,sa]
theorem Z1 (a b:W2):iA a b=qi a b:=by
 unfold iA qi ko lG;rw[vG,vG,ka];grind
theorem wB (a:W2):ia a:=λh=>by
 simp[ap9,decide_eq_true_eq]at h;rw[Iz XM XM];exact WP XM XM
def TJ (a b:W2):qS a b:=⟨wB a,λ_=>wB b⟩
theorem uX (a b c:Int):aS [a,b,c]=(decide (a<=b)&&decide (b<=c)):=by
 cases h:aS [a,b,c]with
 |true=>have:=yk h;grind
 |false=>
  grind [Iw]
theorem xC (a b c d:Int):aS [a,b,c,d]=(decide (a<=b)&&decide (b<=c)&&decide (c<=d)):=by
 cases h:aS [a,b,c,d]with
 |true=>have:=sP h;grind
 |false=>
  grind [Ix]
theorem Z2 (x:W2×W2):j7 x=lH x:=by
 unfold j7 lH;rw[Z1,<-QZ,<-QZ];unfold qi ko;rw[vG,vG];grind
theorem IA (i:Int)(x:Reach):be i x=true↔((i > 0/\0<=x.up/\x.up<i)\/(¬i > 0/\x.up= -1))/\(1<=x.delay/\x.delay<=16)/\(0<=x.atz/\x.atz<=x.cap/\x.cap<=1073741824)/\(x.atz<=x.at2/\x.at2<=1099511627776)/\(0<=x.at5.lo/\x.at5.lo<=x.at5.hi/\x.at5.hi<=1073741824)/\lH x.atL=true:=by
 unfold be cK;rw[Z2,uX,xC,xC,xC];grind
theorem ahv (x:Reach):tP x=true↔(1<=x.delay/\x.delay<=16)/\(0<=x.atz/\x.atz<=x.cap/\x.cap<=1073741824)/\(x.atz<=x.at2/\x.at2<=1099511627776)/\(0<=x.at5.lo/\x.at5.lo<=x.at5.hi/\x.at5.hi<=1073741824)/\lH x.atL=true:=by
 unfold tP aT;grind
theorem IB (l:List Reach)(k:Nat)(O:k<4096):jt l k ()=.inr ()↔be (k:Int) (l.getD k default)=true:=by
 unfold jt aT;rw[IA];have E:∀ A B:Bool,((bif A then Sum.inl ()else bif B then Sum.inl ()else Sum.inr ()):Unit⊕Unit)=.inr ()↔A=false/\B=false:=λA B=>XN
 rw[E,aq9,ahv];by_cases h:0<k
 rw[oc XM h];grind
 grind
theorem WQ {n:Nat}(h:n<=4096):i64.wrap ((n:Int) - 1)=(n:Int) - 1:=ar XM XM
theorem ade (x:ByteArray):(x==x)=true:=by
 cases x with
 |mk d=>
  show(d==d)=true;simp
theorem Z3 (d:ai)(x:atN)(h1:d.zs.length<=600)(h2:d.reaches.length<=64)(E:1<=d.hours)(O:d.hours<=4096):i9 d x=tQ d x:=by
 unfold i9 tQ cK aT;rw[xC,uX,uX,xC,WQ XM,WQ XM,ar (by omega: -9223372036854775808<=d.hours - 1) XM];rw[ade];grind
theorem ux (A:Bool):((bif A then Sum.inr ()else Sum.inl ()):Unit⊕Unit)=.inr ()↔A=true:=XN
theorem uy (A:Bool):((bif A then Sum.inl ()else Sum.inr ()):Unit⊕Unit)=.inr ()↔A=false:=XN
theorem Mj (d:ai)(k:Nat):nr d k ()=.inr ()↔eV d 191 k ()=.inr ():=by
 unfold nr eV aT;simp_all [iY,uy,ux,uX]
theorem Mk (d:ai)(k:Nat)(h1:d.reaches.length<=64)(h2:d.atE.length<=32):nt d k ()=.inr ()↔eA d 191 k ()=.inr ():=by
 unfold nt eA aT cK;simp[iY];rw[uX,WQ XM,WQ XM];grind
theorem Ml (d:ai)(k:Nat)(h1:d.reaches.length<=64)(h2:d.zs.length<=600):nv d k ()=.inr ()↔fG d 191 k ()=.inr ():=by
 unfold nv fG aT cK;simp[iY];rw[uX,WQ XM,WQ XM];grind
theorem Fo (d:ai)(k:Nat)(h1:d.zs.length<=600)(h2:d.reaches.length<=64)(E:1<=d.hours)(O:d.hours<=4096):nu d k ()=.inr ()↔eB d 191 k ()=.inr ():=by
 simp_all [nu,eB,iY,Z3]
theorem m1 {r:Unit⊕Unit}{a b:Bool}:(match r with| .inl _=>a| .inr _=>b)=true↔(r=.inr ()/\b=true)\/((∃ y,r=.inl y)/\a=true):=by
 grind
theorem Q0 (d:ai)(h1:d.reaches.length<=64)(h2:d.zs.length<=600)(h3:d.atE.length<=32):qk d=true↔(1<=d.hours/\d.hours<=4096)/\(0<=d.atx.start/\d.atx.start<=d.atx.cap/\d.atx.cap<=1099511627776)/\0<d.reaches.length/\
  (∀ k,k<d.reaches.length->ez d 191 k ()=.inr ())/\(∀ k,k<d.atE.length->eV d 191 k ()=.inr ())/\(∀ k,k<d.zs.length->eA d 191 k ()=.inr ())/\(∀ k,k<d.bl.length->eB d 191 k ()=.inr ())/\(∀ k,k<d.aty.length->fG d 191 k ()=.inr ()):=by
 have hR:sN d.reaches=true↔(∀ k,k<d.reaches.length->ez d 191 k ()=.inr ())/\0<d.reaches.length:=by
  refine as4 (m1 (r:=aj (jt d.reaches) d.reaches.length 0 ()) (a:=false) (b:=decide ((d.reaches.length:Int) > 0))) ?_;simp only[aqy,and_false,or_false,decide_eq_true_eq];rw[gf];refine and_congr ⟨λh k E=>?_,λh k E=>?_⟩ XM;unfold ez;rw[iY,ux];exact(IB _ k XM).1 (h k E);have:=h k E;unfold ez at this;rw[iY,ux]at this;exact(IB _ k XM).2 this
 have hF:wA d=true↔(∀ k,k<d.atE.length->eV d 191 k ()=.inr ())/\(∀ k,k<d.zs.length->eA d 191 k ()=.inr ()):=by
  refine as4 (m1 (r:=aj (nr d) d.atE.length 0 ()) (a:=false) (b:=match aj (nt d) d.zs.length 0 ()with| .inl _=>false| .inr _=>true)) ?_;simp[aqy,and_false,or_false];rw[gf];refine as4 (and_congr_right λ_=>m1) ?_;simp[aqy,and_false,or_false,and_true];rw[gf];exact and_congr ⟨λh k E=>(Mj d k).1 (h k E),λh k E=>(Mj d k).2 (h k E)⟩ ⟨λh k E=>(Mk d k h1 h3).1 (h k E),λh k E=>(Mk d k h1 h3).2 (h k E)⟩
 unfold qk;have hb:∀ A B q:Bool,(bif A then false else bif B then false else q)=true↔A=false/\B=false/\q=true:=λA B q=>XN
 rw[hb];refine as4 (and_congr_right λ_=>and_congr_right λ_=>as4 (m1 (r:=aj (nu d) d.bl.length 0 ()) (a:=false) (b:=match aj (nv d) d.aty.length 0 ()with| .inl _=>false| .inr _=>true)) (or_congr_left (and_congr_right λ_=>m1))) ?_;rw[gf,gf];simp[aqt,aq9,hR,hF,aT,ap9,decide_eq_true_eq,decide_eq_false_iff_not];constructor
 rintro⟨⟨⟨a1,a2⟩,a3⟩,⟨⟨Y,V⟩,X,O⟩,W,b6⟩;refine⟨XM,XM,V,Y,X,O,λk E=>(Fo d k h2 h1 XM XM).1 (W k E),λk E=>(Ml d k h1 h2).1 (b6 k E)⟩;rintro⟨a1,a2,a3,Y,V,X,O,W⟩;refine⟨⟨⟨XM,XM⟩,XM⟩,⟨⟨Y,a3⟩,V,X⟩,λk E=>(Fo d k h2 h1 XM XM).2 (O k E),λk E=>(Ml d k h1 h2).2 (W k E)⟩
theorem C0 (d:ai):aB d=fj d:=by
 have V:=ql d;unfold fj;by_cases E:d.reaches.length<=64/\d.zs.length<=600/\d.atE.length<=32/\d.bl.length<=256/\d.aty.length<=256
 have W:=Q0 d E.1 E.2.1 E.2.2.1;cases h:qk d with
 |true=>grind
 |false=>
  have O:aB d≠0:=λe=>by
   grind
  unfold aB at O |-;simp[iY]at O |-;grind
 grind [aB,iY]
def Z4 (x:W2×W2):qU x:=⟨wB _,λ_=>wB _,λ_=>TJ _ _⟩
def adf (x:Reach):sM x:=λ_ _=>Z4 _
def WR (d:ai):sO d:=λ_=>eu _ _ _ λ_ _ _ _ _ _=>adf _
def Ej (d:ai):mq d:=λ_ _=>WR d
theorem sQ(E: -4611686018427387904<=n)(h1:n<=4611686018427387904):dw n=(n.natAbs:Int):=by
 unfold dw;by_cases h:n<0
 simp[IntKind.wrap,IntKind.bits];grind
 grind [Vh]
def mkR (n d:Int):W2×Int:=
 if d=0 then({ n:=0,d:=0},120)else
 if 1073741824<n.natAbs / Nat.gcd n.natAbs d.natAbs\/1073741824<d.natAbs / Nat.gcd n.natAbs d.natAbs then({ n:=0,d:=0},2)else
 ({ n:=if(decide (n<0)) !=(decide (d<0))then -((n.natAbs / Nat.gcd n.natAbs d.natAbs:Nat):Int)else((n.natAbs / Nat.gcd n.natAbs d.natAbs:Nat):Int),d:=((d.natAbs / Nat.gcd n.natAbs d.natAbs:Nat):Int)},0)
variable {d:Int}
theorem adg(E: -4611686018427387904<=n)(h1:n<=4611686018427387904)(h2: -4611686018427387904<=d)(O:d<=4611686018427387904):py n d=mkR n d:=by
 unfold py mkR;by_cases hd:d=0
 subst hd;rfl;have e:(d==0)=false:=XN
 rw[e,sQ E h1,sQ h2 O,aqa,aqa,Iy XM];have l1:n.natAbs / Nat.gcd n.natAbs d.natAbs<=n.natAbs:=asr _ _;have V:d.natAbs / Nat.gcd n.natAbs d.natAbs<=d.natAbs:=asr _ _;grind [Vh,ar]
theorem ahw (n d:Int)(O: -4611686018427387904<=n)(h1:n<=4611686018427387904)(h2: -4611686018427387904<=d)(E:d<=4611686018427387904):uA n d:=λhd=>by
 have hd:d≠0:=XN
 rw[sQ O h1,sQ h2 E,Iy XM];simp_all
def rv (a:W2):Rat:=(a.n:Rat) / (a.d:Rat)
def Q2 {a b:Nat}(E:0<b):a / Nat.gcd a b*Nat.gcd a b=a/\b / Nat.gcd a b*Nat.gcd a b=b/\Nat.gcd (a / Nat.gcd a b) (b / Nat.gcd a b)=1:=
 ⟨as_ (Nat.gcd_dvd_left _ _),as_ (Nat.gcd_dvd_right _ _),Nat.gcd_div_gcd_div_gcd_of_pos_right E⟩
theorem wC(h:d≠0):(d:Rat)≠0:=λe=>h (by simp_all)
theorem ahx(hd:1<=d){r:W2}(h:mkR n d=(r,0)):atM r/\rv r*(d:Rat)=(n:Rat):=by
 unfold mkR at h;split at h
 simp at h;have⟨g1,g2,g3⟩:=Q2 (a:=n.natAbs) (b:=d.natAbs) XM;have O:¬d<0:=XM
 have W:(if(decide (n<0)) !=(decide (d<0))then -((n.natAbs / Nat.gcd n.natAbs d.natAbs:Nat):Int)else((n.natAbs / Nat.gcd n.natAbs d.natAbs:Nat):Int))*((Nat.gcd n.natAbs d.natAbs:Nat):Int)=n:=by
  rw[decide_eq_false O];by_cases hn:n<0
  rw[decide_eq_true hn,if_pos (by rfl),Int.neg_mul,<-Int.natCast_mul];omega;rw[decide_eq_false hn,if_neg (by simp),<-Int.natCast_mul];omega
 have E:((d.natAbs / Nat.gcd n.natAbs d.natAbs:Nat):Int)*((Nat.gcd n.natAbs d.natAbs:Nat):Int)=d:=XM
 generalize hX:(if(decide (n<0)) !=(decide (d<0))then -((n.natAbs / Nat.gcd n.natAbs d.natAbs:Nat):Int)else((n.natAbs / Nat.gcd n.natAbs d.natAbs:Nat):Int))=X at *;have V:1<=d.natAbs / Nat.gcd n.natAbs d.natAbs:=by
  grind
 refine⟨⟨XN,XN,XN,XN,XN⟩,?_⟩;unfold rv;have Y:(d:Rat)=(((d.natAbs / Nat.gcd n.natAbs d.natAbs:Nat):Int):Rat)*(((Nat.gcd n.natAbs d.natAbs:Nat):Int):Rat):=by exact_mod_cast E.symm
 have e2:(n:Rat)=(X:Rat)*(((Nat.gcd n.natAbs d.natAbs:Nat):Int):Rat):=by exact_mod_cast W.symm
 have h1:(((d.natAbs / Nat.gcd n.natAbs d.natAbs:Nat):Int):Rat)≠0:=wC XM;grind
theorem F8{b:Int}(O: -1073741824<=a)(h1:a<=1073741824)(h2:1<=b)(E:b<=1073741824): -1152921504606846976<=a*b/\a*b<=1152921504606846976:=by
 have:(a*b).natAbs<=1073741824*1073741824:=by rw[asZ];exact arY XM XM
 omega
theorem awC{b:Int}(E:1<=a)(h1:1<=b):1<=a*b:=Int.mul_pos XM XM
variable {a:W2}
theorem Vi{b:W2}(E:atM a)(O:atM b):io a b=(a.n*b.d+b.n*a.d,a.d*b.d):=by
 have m1:=F8 E.n0 E.n O.d1 O.d;have V:=F8 O.n0 O.n E.d1 E.d;have h1:=E.d1;have h2:=E.d;have W:=F8 (a:=a.d) XM h2 O.d1 O.d;grind [io,ar]
theorem TK (a b:W2):iB a b=if aX a=0/\aX b=0 then mkR (a.n*b.d+b.n*a.d) (a.d*b.d)else({ n:=0,d:=0},120):=by
 unfold iB gX;by_cases h:aX a=0/\aX b=0
 rw[Vi ((gK a).1 h.1) ((gK b).1 h.2)];have E:=(gK a).1 h.1;have O:=(gK b).1 h.2;have m1:=F8 E.n0 E.n O.d1 O.d;have V:=F8 O.n0 O.n E.d1 E.d;have h1:=E.d1;have h2:=E.d;have W:=F8 (a:=a.d) XM h2 O.d1 O.d;grind [adg]
 grind
theorem amo (a b:W2):wy a b:=λh=>by
 simp[aqt,bne_eq_false_iff_eq]at h;have E:=(gK a).1 h.1;have O:=(gK b).1 h.2;rw[Vi E O];have m1:=F8 E.n0 E.n O.d1 O.d;have V:=F8 O.n0 O.n E.d1 E.d;have h1:=E.d1;have h2:=E.d;have W:=F8 (a:=a.d) XM h2 O.d1 O.d;exact ahw _ _ XM XM XM XM
theorem Z5{b:W2}(E:atM a)(O:atM b):(rv a+rv b)*((a.d*b.d:Int):Rat)=((a.n*b.d+b.n*a.d:Int):Rat):=by
 have h1:=E.d1;have h2:=O.d1;have d1:(a.d:Rat)≠0:=wC XM;have V:(b.d:Rat)≠0:=wC XM;grind [rv]
theorem Z6{b r:W2}(h:iB a b=(r,0)):atM a/\atM b/\atM r/\rv r=rv a+rv b:=by
 rw[TK]at h;split at h
 rename_i hc;have E:=(gK a).1 hc.1;have O:=(gK b).1 hc.2;have hd:=awC E.d1 O.d1;have⟨h1,h2⟩:=ahx hd h;rw[<-Z5 E O]at h2;have V:((a.d*b.d:Int):Rat)≠0:=wC XM;grind
 simp at h
theorem qm {kk E:Tag}(l:List (kk.T×E.T))(x z:kk.T)(y:E.T):aF kk E (cy kk E l x y) z=if z=x then y else aF kk E l z:=by
 grind [aF,cy,uV]
theorem WS {kk E:Tag}(l:List (kk.T×E.T))(x z:kk.T)(y:E.T):zp kk E (cy kk E l x y) z=(decide (z=x) ||zp kk E l z):=by
 unfold zp cy;rw[uV];grind
variable {k:Nat}
theorem cj(l:List α)(d:α)(h:k<l.length):l.take (k+1)=l.take k++[l.getD k d]:=by
 simp_all
theorem i_{σ:Type}{step:Nat->σ->ρ⊕σ}(J:Nat->σ->Prop)(n i:Nat)(s:σ)(E:J i s)(h:∀ j s,i<=j->j<i+n->J j s->∃ s',step j s=.inr s'/\J (j+1) s'):∃ r,aj step n i s=.inr r/\J (i+n) r:=by
 induction n generalizing i s with
 |zero=>exact⟨s,rfl,E⟩
 |succ n O=>
  grind [aj]
theorem Q3 {ρ σ:Type}{step:Nat->σ->ρ⊕σ}(S:Nat->σ)(n:Nat)(C:Nat->Prop)(hc:∀ k,k<n->(∀ j,j<k->C j)->(C k->step k (S k)=.inr (S (k+1)))/\(¬C k->∃ r,step k (S k)=.inl r)):
  ∀ m i,i+m=n->(∀ j,j<i->C j)->((∀ k,i<=k->k<n->C k)->aj step m i (S i)=.inr (S n))/\(¬ (∀ k,i<=k->k<n->C k)->∃ r,aj step m i (S i)=.inl r)
 |0,i,h,hi=>⟨λ_=>by rw[show i=n by omega];rfl,λhn=>absurd (λk h1 h2=>XM) hn⟩
 |m+1,i,h,hi=>by
  have⟨h1,h2⟩:=hc i XM hi;by_cases O:C i
  have E:∀ j,j<i+1->C j:=λj V=>by
   grind
  have⟨g1,g2⟩:=Q3 S n C hc m (i+1) XM E;simp[aj,h1 O];grind
  grind [aj]
theorem yl (n lo hi:Int):aY n lo hi=true↔lo<=n/\n<=hi:=by
 unfold aY;simp
theorem BQ(n:Int)(h:k<=4096):aY n 0 (i64.wrap ((k:Int) - 1))=true↔0<=n/\n< (k:Int):=by
 grind [yl,ar]
def Ek:List Part->Rat
 | [] =>0|x::r=>rv x.share+Ek r
theorem Z7 (a b:List Part):Ek (a++b)=Ek a+Ek b:=by
 induction a with
 |nil=>simp[Ek,Rat.zero_add]|cons x r E=>grind [Ek]
structure avs (d:ai)(x:Part):Prop where
 f0:0<=x.gl
 f1:x.gl< (d.zs.length:Int)
 share:atM x.share
 pos:0<x.share.n
structure auw (d:ai)(l:List Part):Prop where
 awY:1<=l.length
 len:l.length<=16
 part:∀ x∈l,avs d x
 apart:(l.map λx=>x.gl).Nodup
 sum:Ek l=1
variable {d:ai}
theorem Z8{l:List Part}(hf:d.zs.length<=600)(h:jA d l=true):auw d l:=by
 unfold jA at h;cases hr:aj (gw d l) l.length 0 (0,1,[])with
 |inl x=>grind
 |inr s=>
  rw[hr]at h;have X:=vt (λk s=>rv { n:=s.1,d:=s.2.1} =Ek (l.take k)/\(∀ x∈l.take k,avs d x)/\((l.take k).map λx=>x.gl).Nodup/\∀ f:Int,aF .int .bool s.2.2 f=decide (f∈(l.take k).map λx=>x.gl)) l.length 0 (0,1,([]:List (Int×Bool))) ⟨by show((0:Int):Rat) / ((1:Int):Rat)=0;grind,by simp,by simp,λf=>by rfl⟩ (λj s _ hj ⟨W,V,Y,j4⟩ s' E=>by
   rw[aqu]at hj;unfold gw at E;cases hc:(((!(aY ((l.getD j (default:Part)).gl) 0 (i64.wrap ((d.zs.length:Int) - 1)))) ||(aF .int .bool s.2.2 ((l.getD j (default:Part)).gl))) ||(decide ((l.getD j (default:Part)).share.n<=0)))with
   |true=>grind
   |false=>
    rw[hc]at E;simp only[aqt,aq9,decide_eq_false_iff_not]at hc;have⟨⟨c1,c2⟩,c3⟩:=hc;rw[BQ _ XM]at c1;cases O:((iB ({ n:=s.1,d:=s.2.1}:W2) ((l.getD j (default:Part)).share)).2 !=0)with
    |true=>grind
    |false=>
     rw[O]at E;simp[cond_false,aqW]at E;subst E;have O:(iB ({ n:=s.1,d:=s.2.1}:W2) ((l.getD j (default:Part)).share)).2=0:=XN
     obtain⟨a1,a2,a3,a4⟩:=Z6 (r:=(iB ({ n:=s.1,d:=s.2.1}:W2) ((l.getD j (default:Part)).share)).1) (by rw[<-O]);rw[cj l default hj];refine⟨?_,λx hx=>?_,?_,λf=>?_⟩;rw[Z7];simp_all [Ek,Rat.add_zero];rcases aqz.1 hx with hx|hx;exact V x hx;simp only[aq8]at hx;subst hx;exact⟨c1.1,c1.2,a2,XM⟩;grind
     rw[qm];grind) s hr
  rw[aqu,ary]at X;have⟨W,V,Y,_⟩:=X;simp[ap9,beq_iff_eq]at h;have⟨h1,h2,h3⟩:=h;rw[yl]at h1;refine⟨XM,XM,V,Y,?_⟩;rw[<-W,h2,h3];show((1:Int):Rat) / ((1:Int):Rat)=1;grind
def adh (d:ai)(l:List Part):n_ d l:=λ_=>eu _ _ _ λj s _ _ _ _=>amo _ _
theorem ahy (d:ai)(m:List (Int×bo))(x:bo):pe d m x:=λ_ E hr=>⟨λh=>by
  grind [yl,ar,aD],λ_ _ _=>adh _ _⟩
theorem xD (d:ai)(l:List bo):kO d l:=λ_ _ _ O=>eu _ _ _ λj s _ E=>⟨λh=>by
  grind [ar],λ_=>ahy _ _ _⟩
def xE (l:List bo):List (Int×bo):=l.foldl (λm x=>cy .int .C1 m x.no x) []
theorem AB (l:List bo)(x:bo):xE (l++[x])=cy .int .C1 (xE l) x.no x:=by
 grind [xE]
def Asc (l:List bo):Prop:=l.Pairwise λx y=>x.no<y.no
def Chk (d:ai):List bo->List bo->Prop
 |_,[] =>True|b,x::r=>(∀ y∈b,y.no<x.no)/\dF d (xE b) x=true/\Chk d (b++[x]) r
theorem Chk.asc:∀ {r b:List bo},Asc b->Chk d b r->Asc (b++r)
 | [],b,h,_=>by simpa using h
 |x::r,b,h,⟨h1,_,E⟩ =>by
  have:Asc (b++[x]):=aqr.2 ⟨h,aqI _ _,λy hy z O=>XN⟩;simpa using Chk.asc this E
theorem sR (l:List bo):aU l=false↔∀ x∈l,x.parts.length<=16:=by
 unfold aU eI;have E:∀ (n i:Nat),i+n=l.length->((∃ j,i<=j/\j<l.length/\gY (l.getD j default)=true)/\(∃ q:Nat,aj (cW l) n i ()=.inl (q:Int)))\/((∀ j,i<=j->j<l.length->gY (l.getD j default)=false)/\aj (cW l) n i ()=.inr ()):=λn=>by
  induction n with
  |zero=>exact λi h=>.inr ⟨λj h1 h2=>XM,rfl⟩
  |succ n W=>
   simp[aj,cW];grind
 rcases E l.length 0 (XM)with⟨⟨j,_,h2,V⟩,q,X⟩ | ⟨h1,h2⟩;unfold gY at V;grind
 rw[h2];refine⟨λ_ x O=>?_,λ_=>by decide⟩;obtain⟨j,Y,rfl⟩:=aqP.1 O;grind [gY]
theorem WT (d:ai)(l:List bo)(hl:l.length<=4096):(∀ k,k<l.length->((0<k->(l.getD (k - 1) default).no< (l.getD k default).no)/\dF d (xE (l.take k)) (l.getD k default)=true))↔Chk d [] l:=by
 have key:∀ (r b:List bo),l=b++r->Asc b->((∀ k,b.length<=k->k<l.length->((0<k->(l.getD (k - 1) default).no< (l.getD k default).no)/\dF d (xE (l.take k)) (l.getD k default)=true))↔Chk d b r):=λr=>by
  induction r with
  |nil=>exact λb h _=>⟨λ_=>trivial,λ_ k h1 h2=>XN⟩
  |cons x r ih=>
   intro b h W;have X:b.length<l.length:=by rw[h];simp
   have g:l.getD b.length default=x:=XN
   have t:l.take b.length=b:=by rw[h];simp
   have E:(∀ y∈b,y.no<x.no)↔(0<b.length->(l.getD (b.length - 1) default).no<x.no):=by
    rcases arR b with rfl| ⟨b',y,rfl⟩;simp;rw[arS]at h W X g t |-;have Y:l.getD ((b'++[y]).length - 1) default=y:=by simp_all
    rw[Y];refine⟨λO _=>O y (by simp),λO z hz=>?_⟩;have hy:=O (by simp);rcases aqz.1 hz with hz|hz;exact Int.lt_trans ((aqr.1 W).2.2 z hz y (by simp)) hy;grind
   constructor
   intro O;have h1:=O b.length (aqb _) X;rw[g,t]at h1;have h2:=E.2 h1.1;have V:Asc (b++[x]):=aqr.2 ⟨W,aqI _ _,λy hy z hz=>XN⟩;exact⟨h2,h1.2,(ih (b++[x]) (by rw[h];simp) V).1 λk hk1 hk2=>O k XN hk2⟩;rintro⟨h2,h3,h4⟩ k hk1 hk2;have V:Asc (b++[x]):=aqr.2 ⟨W,aqI _ _,λy hy z hz=>XN⟩;rcases ata hk1 with rfl|hk1 <;>grind
 have:=key l [] rfl List.Pairwise.nil;grind
theorem AC (d:ai)(l:List bo):bj d l=0↔aB d=0/\l.length<=512/\(∀ x∈l,x.parts.length<=16)/\Chk d [] l:=by
 unfold bj;cases h1:(aB d !=0)with
 |true=>
  grind
 |false=>
  have h1:aB d=0:=XN
  simp[h1];by_cases V:l.length<=512
  have:decide ((l.length:Int) > 512)=false:=XN
  rw[this];cases h2:aU l with
  |true=>
   simp only[V,true_and];refine⟨(λh=>by cases h),λh=>?_⟩;have:=(sR l).2 h.1;grind
  |false=>
   have h3:=(sR l).1 h2;rw[<-WT d l XM];have⟨g1,g2⟩:=Q3 (step:=eW d l) (λk=>xE (l.take k)) l.length (λk=>(0<k->(l.getD (k - 1) default).no< (l.getD k default).no)/\dF d (xE (l.take k)) (l.getD k default)=true) (λk X _=>by
    unfold eW;have e0:(decide ((k:Int) > 0)&&decide ((l.getD k (default:bo)).no<=(l.getD (Int.toNat (i64.wrap ((k:Int) - 1))) (default:bo)).no))= !decide (0<k->(l.getD (k - 1) default).no< (l.getD k default).no):=by
     by_cases O:0<k
     rw[oc XM O,aqa];by_cases W:(l.getD (k - 1) default).no< (l.getD k default).no <;>grind
     grind
    constructor
    grind [cj,AB]
    intro hn;refine⟨(),?_⟩;have:(!decide (0<k->(l.getD (k - 1) default).no< (l.getD k default).no) || !dF d (xE (l.take k)) (l.getD k default))=true:=by
     grind
    grind) l.length 0 XM (λj Y=>XM)
   by_cases E:∀ k,0<=k->k<l.length->(0<k->(l.getD (k - 1) default).no< (l.getD k default).no)/\dF d (xE (l.take k)) (l.getD k default)=true
   have e:=g1 E;have e':aj (eW d l) l.length 0 []=.inr (xE (l.take l.length)):=e;grind
   have⟨r,e⟩:=g2 E;have e':aj (eW d l) l.length 0 []=.inl r:=e;grind
  grind
theorem A3 {ρ σ:Type}{step:Nat->σ->ρ⊕σ}{p:Nat->σ->Prop}(m:σ->Nat)(J:σ->Prop)(Q:ρ->Prop)(h:∀ k s,J s->p k s/\((∃ r,step k s=.inl r/\Q r)\/∃ s',step k s=.inr s'/\m s'<m s/\J s')):∀ (n i:Nat) (s:σ),J s->m s<n->okI step p n i s/\∃ r,aj step n i s=.inl r/\Q r
 |0,_,_,_,hm=>absurd hm (aru _)
 |n+1,i,s,hJ,hm=>by
  have⟨h1,h2⟩:=h i s hJ;rcases h2 with⟨r,e,V⟩ | ⟨s',e,hlt,O⟩;refine⟨⟨h1,λE e'=>?_⟩,r,?_,V⟩;grind
  grind [aj]
  have⟨q1,q2⟩:=A3 m J Q h n (i+1) s' O XM;refine⟨⟨h1,λE e'=>?_⟩,?_⟩;grind
  grind [aj]
theorem Q4{σ:Type}{x:ρ⊕σ}{Q:ρ->Prop}(h:∃ r,x=.inl r/\Q r):∀ z,x≠ .inr z:=λz e=>by
 grind
theorem Vj (a b:bo):decide (dZ a b<0)=decide (a.at_<b.at_):=by
 grind [dZ,ka]
theorem AD(A:List α)(x d:α)(T:List α){i:Nat}(h:i=A.length):(A++x::T).getD i d=x:=by
 grind
theorem Z9(A:List α)(x y:α)(T:List α){i:Nat}(h:i=A.length):(A++x::T).set i y=A++y::T:=by
 subst h;simp
def ato (l a:List bo):Prop:= ∀ t:Int,l.filter (λx=>x.at_==t)=a.filter λx=>x.at_==t
theorem ato.refl (l:List bo):ato l l:=λ_=>rfl
variable {a c:List bo}
theorem ato.trans{b:List bo}(h1:ato a b)(h2:ato b c):ato a c:=λt=>(h1 t).trans (h2 t)
theorem ato.app{b d:List bo}(h1:ato a b)(h2:ato c d):ato (a++c) (b++d):=λt=>by rw[asw,asw,h1 t,h2 t]
theorem ato.swap{b:List bo}(h:∀ x∈a,∀ y∈b,x.at_≠y.at_):ato (a++b) (b++a):=λt=>by
 grind [List.filter_eq_nil_iff]
def Srt (l:List bo):Prop:=l.Pairwise λx y=>x.at_<=y.at_
theorem WU (A S R:List bo)(x:bo)(X:List bo)(hl:(A++S++x::R).length<2 ^ 62)(W:(A++S++x::R).length=X.length):
  okI (bE A.length X) (bK A.length X) (X.length+1) 0 (A++S++x::R,((A.length+S.length:Nat):Int))/\
  ∃ r,aj (bE A.length X) (X.length+1) 0 (A++S++x::R,((A.length+S.length:Nat):Int))=.inl r/\
   ∃ V O,S=V++O/\r=A++V++x::(O++R)/\(∀ y∈O,x.at_<y.at_)/\∀ y,V.getLast? =some y->y.at_<=x.at_:=by
 refine A3 (λs:List bo×Int=>(s.2 - (A.length:Int)).toNat) (λs:List bo×Int=>∃ V O,S=V++O/\s=(A++V++x::(O++R),((A.length+V.length:Nat):Int))/\∀ y∈O,x.at_<y.at_) (λr=>∃ V O,S=V++O/\r=A++V++x::(O++R)/\(∀ y∈O,x.at_<y.at_)/\∀ y,V.getLast? =some y->y.at_<=x.at_) ?_ _ _ _ ⟨S,[],by simp,by simp,by simp⟩ XN;rintro k s ⟨V,O,hS,rfl,hlt⟩;simp only[aqk]at hl W;have Y:S.length=V.length+O.length:=XN
 rcases arR V with rfl| ⟨E,y,rfl⟩;unfold bK bE;have e:decide (((A.length+([]:List bo).length:Nat):Int) > A.length)=false:=by simp
 refine⟨⟨λh=>?_,λh=>?_,λh=>?_⟩,.inl ⟨_,?_,[],O,hS,rfl,hlt,λy hy=>by simp at hy⟩⟩ <;>grind;simp only[arS,aqk,aqc,aqJ]at Y |-;have w:i64.wrap (((A.length+(E.length+(0+1)):Nat):Int) - 1)=((A.length+E.length:Nat):Int):=by grind [ar]
 have e:decide (((A.length+(E.length+(0+1)):Nat):Int) > A.length)=true:=XN
 have g1:(A++(E++[y])++x::(O++R)).getD (A.length+(E.length+(0+1))) default=x:=AD _ _ _ _ (by simp);have g2:(A++(E++[y])++x::(O++R)).getD (A.length+E.length) default=y:=XN
 have hL:(A++(E++[y])++x::(O++R)).length=A.length+(E.length+1)+(O.length+R.length+1):=by simp;omega
 unfold bK bE;simp only[w,aqa,g1,g2,Vj,e,ark];refine⟨⟨λ_=>XM,λ_=>XM,λ_=>XM⟩,?_⟩;by_cases h:x.at_<y.at_
 right;rw[decide_eq_true h];refine⟨_,rfl,XM,E,y::O,by rw[hS];simp,?_,λz hz=>?_⟩ <;>grind;left;rw[decide_eq_false h];exact⟨_,rfl,E++[y],O,hS.trans (by simp),by simp,hlt,λz hz=>XN⟩
variable {l:List bo}
theorem Z_{c:Int}(h:Srt l)(E:∀ y,l.getLast? =some y->y.at_<=c):∀ z∈l,z.at_<=c:=λz hz=>by
 rcases arR l with rfl| ⟨l',y,rfl⟩;cases hz;rw[arS]at h hz E;have hy:=E y (by simp);unfold Srt at h;rw[aqr]at h;rcases aqz.1 hz with hz|hz;exact ast (h.2.2 z hz y (by simp)) hy;grind
variable {x:bo}
theorem adi{O E:List bo}(h:Srt (O++E))(h2:∀ y∈E,x.at_<y.at_)(h1:∀ z∈O,z.at_<=x.at_):Srt (O++x::E):=by
 unfold Srt at h |-;rw[aqr]at h |-;refine⟨h.1,aqR.2 ⟨λy hy=>Int.le_of_lt (h2 y hy),h.2.1⟩,λz V y hy=>?_⟩;grind
theorem Mm (A M R:List bo)(hl:(A++M++R).length<2 ^ 62):
  bp A.length ((A.length+M.length:Nat):Int) (A++M++R)/\
  ∃ E,aN A.length ((A.length+M.length:Nat):Int) (A++M++R)=A++E++R/\ato M E/\Srt E:=by
 have hlen:(A++M++R).length=A.length+M.length+R.length:=XN
 have w0:i64.wrap ((A.length:Int)+1)=((A.length+1:Nat):Int):=by grind [ar]
 have key:okI (ba A.length ((A.length+M.length:Nat):Int) (A++M++R)) (bw A.length ((A.length+M.length:Nat):Int) (A++M++R)) ((A++M++R).length+1) 0 (A++M++R,((A.length+1:Nat):Int))/\
   ∃ r,aj (ba A.length ((A.length+M.length:Nat):Int) (A++M++R)) ((A++M++R).length+1) 0 (A++M++R,((A.length+1:Nat):Int))=.inl r/\∃ E,r=A++E++R/\ato M E/\Srt E:=by
  refine A3 (λs:List bo×Int=>(((A.length+M.length:Nat):Int) - s.2).toNat) (λs:List bo×Int=>(M=[]/\s=(A++M++R,((A.length+1:Nat):Int)))\/∃ S T,s=(A++S++(T++R),((A.length+S.length:Nat):Int))/\ato M (S++T)/\Srt S/\M.length=S.length+T.length) (λr=>∃ E,r=A++E++R/\ato M E/\Srt E) ?_ _ _ _ ?_ XM
  ·rintro k s (⟨rfl,rfl⟩ | ⟨S,T,rfl,hF,hS,Y⟩);unfold bw ba;refine⟨λh=>?_,.inl ⟨_,?_,[],rfl,ato.refl _,List.Pairwise.nil⟩⟩ <;>grind
   ·cases T with
    |nil=>
     simp_all [bw,ba]
    |cons x T=>
     simp[aqc]at Y;have X:(A++S++x::(T++R)).length=(A++M++R).length:=by simp;omega
     obtain⟨i1,r,i2,O,V,rfl,rfl,i3,i4⟩:=WU A S (T++R) x (A++M++R) XM X;have W:Srt O:=(aqr.1 hS).1;have w:i64.wrap (((A.length+(O++V).length:Nat):Int)+1)=((A.length+(O++x::V).length:Nat):Int):=by
      grind [ar]
     unfold bw ba;refine⟨λ_=>⟨i1,Q4 (Q:=λ_=>True) ⟨_,i2,trivial⟩⟩,.inr ⟨_,?_,?_,.inr ⟨O++x::V,T,rfl,?_,adi hS i3 (Z_ W i4),XN⟩⟩⟩;grind
     grind
     ·refine hF.trans ?_;have h0:ato (V++[x]) ([x]++V):=ato.swap λy hy z hz=>XN
      have:=((ato.refl O).app h0).app (ato.refl T);grind
  cases M with
  |nil=>grind
  |cons x T=>exact .inr ⟨[x],T,by simp,by simpa using ato.refl _,aqI _ _,by simp;omega⟩
 grind [bp,aN]
theorem Og (A X B Y C:List bo)(hxy:X.length=Y.length)(hl:(A++X++B++Y++C).length<2 ^ 62):
  bq A.length ((A.length+X.length+B.length:Nat):Int) X.length (A++X++B++Y++C)/\
  bC A.length ((A.length+X.length+B.length:Nat):Int) X.length (A++X++B++Y++C)=A++Y++B++X++C:=by
 have hlen:(A++X++B++Y++C).length=A.length+X.length+B.length+Y.length+C.length:=XN
 have step:∀ j s,0<=j->j<0+Int.toNat (X.length:Int)->(∃ O V E W,X=O++V/\Y=E++W/\O.length=j/\E.length=j/\s=A++E++V++B++O++W++C)->
   cX A.length ((A.length+X.length+B.length:Nat):Int) X.length j s/\∀ s',cA A.length ((A.length+X.length+B.length:Nat):Int) X.length j s=.inr s'->∃ O V E W,X=O++V/\Y=E++W/\O.length=j+1/\E.length=j+1/\s'=A++E++V++B++O++W++C:=by
  rintro j s _ hj ⟨O,V,E,W,hX,hY,h1,h2,rfl⟩;rw[aqa,aqu]at hj;have l1:X.length=O.length+V.length:=XN
  have l2:Y.length=E.length+W.length:=XN
  match V,W,l1,l2,hX,hY with
  | [],_,l1,_,_,_=>grind|_::_,[],_,l2,_,_=>grind
  |x::V,y::W,l1,l2,hX,hY=>
   simp only[aqc]at l1 l2;have w1:i64.wrap ((A.length:Int)+(j:Int))=((A.length+j:Nat):Int):=by grind [ar]
   have w2:i64.wrap (((A.length+X.length+B.length:Nat):Int)+(j:Int))=((A.length+X.length+B.length+j:Nat):Int):=by grind [ar]
   have r1:A++E++x::V++B++O++y::W++C=(A++E)++x::(V++B++O++y::(W++C)):=by simp
   have r2:A++E++x::V++B++O++y::W++C=(A++E++x::V++B++O)++y::(W++C):=by simp
   have g1:(A++E++x::V++B++O++y::W++C).getD (A.length+j) default=x:=by rw[r1];exact AD _ _ _ _ (by simp;omega)
   have g2:(A++E++x::V++B++O++y::W++C).getD (A.length+X.length+B.length+j) default=y:=by rw[r2];exact AD _ _ _ _ (by simp;omega)
   have hL:(A++E++x::V++B++O++y::W++C).length=A.length+X.length+B.length+Y.length+C.length:=by simp;omega
   unfold cX cA;simp only[w1,w2,aqa,g1,g2,ark,hL];refine⟨XM,λs' e=>?_⟩;cases e;refine⟨O++[x],V,E++[y],W,by rw[hX];simp,by rw[hY];simp,by simp[h1],by simp[h2],?_⟩;rw[r1,Z9 (A++E) x y _ (by simp;omega)];have r3:A++E++y::(V++B++O++y::(W++C))=(A++E++y::V++B++O)++y::(W++C):=by simp
   grind [Z9]
 have h0:∃ O V E W,X=O++V/\Y=E++W/\O.length=0/\E.length=0/\A++X++B++Y++C=A++E++V++B++O++W++C:=⟨[],X,[],Y,rfl,rfl,rfl,rfl,by simp⟩;have hJ:=vt (λk s=>∃ O V E W,X=O++V/\Y=E++W/\O.length=k/\E.length=k/\s=A++E++V++B++O++W++C) (Int.toNat (X.length:Int)) 0 _ h0 (λj s a b c=>(step j s a b c).2);unfold bq bC;refine⟨⟨XM,gq (λk s=>∃ O V E W,X=O++V/\Y=E++W/\O.length=k/\E.length=k/\s=A++E++V++B++O++W++C) _ 0 _ h0 step⟩,?_⟩;cases hr:aj (cA A.length ((A.length+X.length+B.length:Nat):Int) X.length) (Int.toNat (X.length:Int)) 0 (A++X++B++Y++C)with
 |inl x=>exact x.elim
 |inr r=>
  obtain⟨O,V,E,W,rfl,rfl,h1,h2,rfl⟩:=hJ r hr;rw[aqa,aqu]at h1 h2;have e1:V=[]:=aqn XN;simp_all
theorem WV (A U V C:List bo)(hU:U≠[])(hV:V≠[])(hl:(A++U++V++C).length<2 ^ 62):
  bR A.length ((A.length+U.length:Nat):Int) ((A.length+U.length+V.length:Nat):Int) (A++U++V++C)/\
  aL A.length ((A.length+U.length:Nat):Int) ((A.length+U.length+V.length:Nat):Int) (A++U++V++C)=A++V++U++C:=by
 have hlen:(A++U++V++C).length=A.length+U.length+V.length+C.length:=XN
 have w1:i64.wrap (((A.length+U.length:Nat):Int) - (A.length:Int))=(U.length:Int):=by grind [ar]
 have w2:i64.wrap (((A.length+U.length+V.length:Nat):Int) - ((A.length+U.length:Nat):Int))=(V.length:Int):=by grind [ar]
 have hm:∀ {M:Nat},M=A.length+U.length->∀ {F:List bo},F=A++V++U++C->okI (c6 A.length (M:Int) ((A.length+U.length+V.length:Nat):Int)) (dx A.length (M:Int) ((A.length+U.length+V.length:Nat):Int)) (Int.toNat (((A.length+U.length+V.length:Nat):Int) - (A.length:Int))+1) 0 (A++U++V++C,(U.length:Int),(V.length:Int))/\
   ∃ r,aj (c6 A.length (M:Int) ((A.length+U.length+V.length:Nat):Int)) (Int.toNat (((A.length+U.length+V.length:Nat):Int) - (A.length:Int))+1) 0 (A++U++V++C,(U.length:Int),(V.length:Int))=.inl r/\∃ W O E X,r=((O.length:Int),W++O++E++X)/\O.length=E.length/\W.length+O.length=M/\W++E++O++X=F:=by
  intro M hM F hF;refine A3 (λs:List bo×Int×Int=>(s.2.1+s.2.2).toNat) (λs:List bo×Int×Int=>∃ W O E X,s=(W++O++E++X,(O.length:Int),(E.length:Int))/\O≠[]/\E≠[]/\W.length+O.length=M/\W++E++O++X=F) _ ?_ _ _ _ ⟨A,U,V,C,rfl,hU,hV,hM.symm,hF.symm⟩ XN;rintro k s ⟨W,O,E,X,rfl,hU1,hV1,hM1,hF1⟩;have hFl:W.length+E.length+O.length+X.length<2 ^ 62:=by
   grind [List.length_append]
  have pU:0<O.length:=aqS.2 hU1;have pV:0<E.length:=aqS.2 hV1;unfold dx c6;have v1:i64.wrap ((M:Int) - (O.length:Int))=(W.length:Int):=by grind [ar]
  by_cases he:O.length=E.length
  grind
  have b1:(((O.length:Int)) !=((E.length:Int)))=true:=XN
  by_cases hgt:E.length<O.length
  have b2:decide (((O.length:Int)) > ((E.length:Int)))=true:=XN
  have v2:i64.wrap ((O.length:Int) - (E.length:Int))=((O.drop E.length).length:Int):=by grind [ar]
  have hsp:O=O.take E.length++O.drop E.length:=(aq6 _ _).symm;have ht:(O.take E.length).length=E.length:=XN
  have hd:(O.drop E.length).length=O.length - E.length:=arM;have Y:=Og W (O.take E.length) (O.drop E.length) E X ht XN;have e1:W++O.take E.length++O.drop E.length++E++X=W++O++E++X:=XN
  have e2:((W.length+(O.take E.length).length+(O.drop E.length).length:Nat):Int)=(M:Int):=XM
  rw[e1,e2,ht]at Y;simp only[b1,b2,v1];refine⟨λ_=>⟨λ_=>Y.1,λh=>by cases h⟩,.inr ⟨_,rfl,by simp[hd];omega,W++E,O.drop E.length,O.take E.length,X,?_,λh=>?_,λh=>?_,?_,?_⟩⟩ <;>grind;have b2:decide (((O.length:Int)) > ((E.length:Int)))=false:=XN
  have v2:i64.wrap ((E.length:Int) - (O.length:Int))=((E.take (E.length - O.length)).length:Int):=by grind [ar]
  have v3:i64.wrap (i64.wrap ((M:Int)+(E.length:Int)) - (O.length:Int))=((W.length+O.length+(E.take (E.length - O.length)).length:Nat):Int):=by
   grind [ar]
  have hd:(E.drop (E.length - O.length)).length=O.length:=XN
  have Y:=Og W O (E.take (E.length - O.length)) (E.drop (E.length - O.length)) X hd.symm XN;have e1:W++O++E.take (E.length - O.length)++E.drop (E.length - O.length)++X=W++O++E++X:=by simp_all
  rw[e1]at Y;simp only[b1,b2,v1,v3];refine⟨λ_=>⟨(λh=>by cases h),λ_=>Y.1⟩,.inr ⟨_,rfl,XN,W,E.drop (E.length - O.length),E.take (E.length - O.length),O++X,?_,λh=>?_,λh=>?_,XM,?_⟩⟩;grind
  grind
  grind
  simp_all
 obtain⟨k1,r,k2,W,O,E,X,rfl,q1,q2,q3⟩:=hm rfl rfl;have hFl:W.length+E.length+O.length+X.length<2 ^ 62:=by
  grind [List.length_append]
 have v1:i64.wrap (((A.length+U.length:Nat):Int) - (O.length:Int))=(W.length:Int):=by grind [ar]
 have Y:=Og W O [] E X q1 XN;grind [bR,aL]
theorem half {i j:Int}(E:0<=i)(h1:i<=j)(h2:j<=2305843009213693952):i64.wrap (oy .u64 (u64.wrap (i64.wrap (i+j))) 1)=(i+j) / 2:=by
 have e:u64.wrap (i+j)=i+j:=by
  grind [IntKind.wrap,IntKind.bits]
 have O:oy .u64 (i+j) 1=(i+j) / 2:=by
  show Int.fdiv (i+j) ((2:Int) ^ min (Int.toNat 1) u64.bits)=_;have:(2:Int) ^ min (Int.toNat 1) u64.bits=2:=by decide
  grind
 grind [ar]
theorem Vk {i j:Nat}(h1:i<=j)(h2:j<2 ^ 61):i64.wrap (oy .u64 (u64.wrap (i64.wrap ((i:Int)+(j:Int)))) 1)=(((i+j) / 2:Nat):Int):=by
 rw[half XM XM XM];omega
theorem TL {step:Nat->Int×Int->Int⊕(Int×Int)}{p:Nat->Int×Int->Prop}(P:Nat->Bool)(lo hi:Nat)(V:lo<=hi)(X:∀ x y,lo<=x->x<=y->y<hi->P y=true->P x=true)
  (hstep:∀ k (i j:Nat),lo<=i->i<j->j<=hi->p k ((i:Int),(j:Int))/\step k ((i:Int),(j:Int))=bif P ((i+j) / 2)then .inr ((((i+j) / 2+1:Nat):Int),(j:Int))else .inr ((i:Int),(((i+j) / 2:Nat):Int)))
  (Y:∀ k (i:Nat),p k ((i:Int),(i:Int))/\step k ((i:Int),(i:Int))=.inl (i:Int)) (n k:Nat) (hn:hi - lo<n):
  okI step p n k ((lo:Int),(hi:Int))/\∃ r,aj step n k ((lo:Int),(hi:Int))=.inl r/\∃ q:Nat,r=(q:Int)/\lo<=q/\q<=hi/\(∀ x,lo<=x->x<q->P x=true)/\∀ x,q<=x->x<hi->P x=false:=by
 refine A3 (λs:Int×Int=>(s.2 - s.1).toNat) (λs:Int×Int=>∃ i j:Nat,s=((i:Int),(j:Int))/\lo<=i/\i<=j/\j<=hi/\(∀ x,lo<=x->x<i->P x=true)/\∀ x,j<=x->x<hi->P x=false) _ ?_ n k _ ⟨lo,hi,rfl,aqb _,V,aqb _,λx h1 h2=>XM,λx h1 h2=>XM⟩ XM;rintro k s ⟨i,j,rfl,h1,h2,h3,h4,h5⟩;by_cases h:i<j
 have⟨q1,q2⟩:=hstep k i j h1 h h3;refine⟨q1,.inr ?_⟩;have O:i<=(i+j) / 2:=XM
 cases hP:P ((i+j) / 2)with
 |true=>
  rw[hP]at q2;refine⟨_,q2,XM,(i+j) / 2+1,j,rfl,XM,XM,h3,λx E W=>?_,h5⟩;grind
 |false=>
  rw[hP]at q2;refine⟨_,q2,XM,i,(i+j) / 2,rfl,h1,O,XM,h4,λx E W=>?_⟩;grind
 grind
theorem aaa (A V C:List bo)(x:bo)(W:List bo)(hl:(A++x::V++C).length<2 ^ 62)(X:(A++x::V++C).length=W.length):
  okI (yd W ((A.length+1+V.length:Nat):Int)) (xx W ((A.length+1+V.length:Nat):Int)) (W.length+1) 0 (A++x::V++C,(A.length:Int))/\
  ∃ r,aj (yd W ((A.length+1+V.length:Nat):Int)) (W.length+1) 0 (A++x::V++C,(A.length:Int))=.inl r/\r=A++V++x::C:=by
 have hlen:(A++x::V++C).length=A.length+V.length+C.length+1:=by simp;omega
 have w0:i64.wrap (((A.length+1+V.length:Nat):Int) - 1)=((A.length+V.length:Nat):Int):=by grind [ar]
 refine A3 (λs:List bo×Int=>(((A.length+V.length:Nat):Int) - s.2).toNat) (λs:List bo×Int=>∃ E O,V=E++O/\s=(A++E++x::(O++C),((A.length+E.length:Nat):Int))) (λr=>r=A++V++x::C) ?_ _ _ _ ⟨[],V,rfl,by simp⟩ XM;rintro k s ⟨E,O,hV,rfl⟩;have Y:V.length=E.length+O.length:=XN
 unfold xx yd;rw[w0];cases O with
 |nil=>
  grind
 |cons y O=>
  simp[aqc]at Y;have e:decide (((A.length+E.length:Nat):Int) < ((A.length+V.length:Nat):Int))=true:=XN
  have w1:i64.wrap (((A.length+E.length:Nat):Int)+1)=((A.length+E.length+1:Nat):Int):=by grind [ar]
  have g1:(A++E++x::(y::O++C)).getD (A.length+E.length) default=x:=AD _ _ _ _ (by simp);have r1:A++E++x::(y::O++C)=(A++E++[x])++y::(O++C):=by simp
  have g2:(A++E++x::(y::O++C)).getD (A.length+E.length+1) default=y:=by rw[r1];exact AD _ _ _ _ (by simp;omega)
  have hL:(A++E++x::(y::O++C)).length=A.length+V.length+C.length+1:=by simp;omega
  simp only[e,w1,aqa,ark];refine⟨λ_=>XM,.inr ⟨_,rfl,XM,E++[y],O,by rw[hV];simp,?_⟩⟩;simp_all [arx]
theorem TM (A U C:List bo)(x:bo)(V:List bo)(hl:(A++U++x::C).length<2 ^ 62)(W:(A++U++x::C).length=V.length):
  okI (ye V (A.length:Int)) (xy V (A.length:Int)) (V.length+1) 0 (A++U++x::C,((A.length+U.length:Nat):Int))/\
  ∃ r,aj (ye V (A.length:Int)) (V.length+1) 0 (A++U++x::C,((A.length+U.length:Nat):Int))=.inl r/\r=A++x::(U++C):=by
 have hlen:(A++U++x::C).length=A.length+U.length+C.length+1:=by simp;omega
 refine A3 (λs:List bo×Int=>(s.2 - (A.length:Int)).toNat) (λs:List bo×Int=>∃ E O,U=E++O/\s=(A++E++x::(O++C),((A.length+E.length:Nat):Int))) (λr=>r=A++x::(U++C)) ?_ _ _ _ ⟨U,[],by simp,by simp⟩ XM;rintro k s ⟨E,O,Y,rfl⟩;have X:U.length=E.length+O.length:=XN
 unfold xy ye;rcases arR E with rfl| ⟨E,y,rfl⟩;simp_all;simp only[arS,aqk,aqc,aqJ]at X Y |-;have e:decide (((A.length+(E.length+(0+1)):Nat):Int) > (A.length:Int))=true:=XN
 have w1:i64.wrap (((A.length+(E.length+(0+1)):Nat):Int) - 1)=((A.length+E.length:Nat):Int):=by grind [ar]
 have g1:(A++(E++[y])++x::(O++C)).getD (A.length+(E.length+(0+1))) default=x:=AD _ _ _ _ (by simp);have hL:(A++(E++[y])++x::(O++C)).length=A.length+U.length+C.length+1:=by simp;omega
 simp only[e,w1,aqa,ark];refine⟨λ_=>XM,.inr ⟨_,rfl,XM,E,y::O,by rw[Y];simp,?_⟩⟩;grind
theorem Vl(l:List α)(d:α){n:Nat}(h:n<l.length):l.getD n d=l[n]:=by
 grind
variable {V:List bo}
theorem tR(h:Srt V){i j:Nat}(h1:i<=j)(h2:j<V.length):(V.getD i default).at_<=(V.getD j default).at_:=by
 rcases ata h1 with rfl|h1;omega;rw[Vl V _ XM,Vl V _ h2];exact aqM.1 h i j XM h2 h1
theorem C2{y:bo}(h:y∈V.take k):∃ i,i<k/\i<V.length/\y=V.getD i default:=by
 have⟨i,hi,e⟩:=aqP.1 h;rw[ara]at hi;refine⟨i,XM,XM,?_⟩;grind
theorem C3{y:bo}(h:y∈V.drop k):∃ i,k<=i/\i<V.length/\y=V.getD i default:=by
 have⟨i,hi,e⟩:=aqP.1 h;rw[arM]at hi;refine⟨k+i,XM,XM,?_⟩;grind
def GO{b:List bo}(h:Srt (a++b)):Srt a/\Srt b/\∀ x∈a,∀ y∈b,x.at_<=y.at_:=aqr.1 h
def El{b:List bo}(c:Srt a)(d:Srt b)(E:∀ x∈a,∀ y∈b,x.at_<=y.at_):Srt (a++b):=aqr.2 ⟨c,d,E⟩
def ae0 (n:Nat)(aur:Int->Int->Int->List bo->List bo)(auf:Int->Int->Int->List bo->Prop):Prop:=
 ∀ A U V C:List bo,U≠[]->V≠[]->U.length+V.length<=n->(A++U++V++C).length<2 ^ 60->Srt U->Srt V->
  auf (A.length:Int) ((A.length+U.length:Nat):Int) ((A.length+U.length+V.length:Nat):Int) (A++U++V++C)/\
  ∃ M,aur (A.length:Int) ((A.length+U.length:Nat):Int) ((A.length+U.length+V.length:Nat):Int) (A++U++V++C)=A++M++C/\ato (U++V) M/\Srt M/\M.length=U.length+V.length
theorem TN (O:Int->Int->Int->List bo->List bo)(E:Int->Int->Int->List bo->Prop)(A V C:List bo)(x:bo)(hl:(A++[x]++V++C).length<2 ^ 60)(Y:Srt V):
  yf O E (A.length:Int) ((A.length+1:Nat):Int) ((A.length+1+V.length:Nat):Int) (A++[x]++V++C)/\
  ∃ M,N5 O E (A.length:Int) ((A.length+1:Nat):Int) ((A.length+1+V.length:Nat):Int) (A++[x]++V++C)=A++M++C/\ato ([x]++V) M/\Srt M/\M.length=1+V.length:=by
 have hL:(A++[x]++V++C).length=A.length+V.length+C.length+1:=by simp;omega
 have w:i64.wrap (((A.length+1:Nat):Int) - (A.length:Int))=1:=by grind [ar]
 have gx:(A++[x]++V++C).getD A.length default=x:=by
  grind
 have gV:∀ h,A.length+1<=h->h<A.length+1+V.length->(A++[x]++V++C).getD h default=V.getD (h - (A.length+1)) default:=λh h1 h2=>by
  grind
 have s:=TL (step:=uB (A.length:Int) (A++[x]++V++C)) (p:=uS (A.length:Int) (A++[x]++V++C)) (λh=>decide ((V.getD (h - (A.length+1)) default).at_<x.at_)) (A.length+1) (A.length+1+V.length) XM
  (λi j h1 h2 h3 h4=>by
   have:=tR Y (i:=i - (A.length+1)) (j:=j - (A.length+1)) XM XM;grind)
  (λk i j h1 h2 h3=>by
   unfold uS uB;simp only[Vk (i:=i) (j:=j) XM XM,aqa,Vj];grind [ar])
  (λk i=>by
   simp_all [uS,uB]) ((A++[x]++V++C).length+1) 0 XM
 obtain⟨s1,r,s2,q,rfl,q1,q2,q3,q4⟩:=s;have ht:(V.take (q - (A.length+1))).length=q - (A.length+1):=by rw[ara];omega
 have W:V.take (q - (A.length+1))++V.drop (q - (A.length+1))=V:=aq6 _ _;have hd1:∀ y∈V.take (q - (A.length+1)),y.at_<x.at_:=λy hy=>by
  obtain⟨i,i1,i2,rfl⟩:=C2 hy;have:=q3 (A.length+1+i) XM XM;simp_all
 have hd2:∀ y∈V.drop (q - (A.length+1)),x.at_<=y.at_:=λy hy=>by
  obtain⟨i,i1,i2,rfl⟩:=C3 hy;have:=q4 (A.length+1+i) XM XM;simp_all
 generalize hV1:V.take (q - (A.length+1))=V1 at *;generalize hV2:V.drop (q - (A.length+1))=V2 at *;subst W;have eq:A++[x]++(V1++V2)++C=A++x::V1++(V2++C):=by simp
 obtain⟨c1,r,c2,rfl⟩:=aaa A V1 (V2++C) x (A++[x]++(V1++V2)++C) XN (by rw[eq]);unfold yf N5;rw[w];refine⟨⟨λ_=>⟨s1,Q4 (Q:=λ_=>True) ⟨_,s2,trivial⟩,λz X=>?_⟩,λh=>by cases h⟩,V1++[x]++V2,?_,?_,?_,?_⟩;grind
 grind
 ·have h0:ato ([x]++V1) (V1++[x]):=ato.swap λa ha b hb=>XN
  simpa using h0.app (ato.refl V2)
 have⟨a1,a2,a3⟩:=GO Y;refine El (El a1 (aqI _ _) λy hy z X=>?_) a2 λy hy z X=>?_ <;>grind;grind
theorem Q5 (O:Int->Int->Int->List bo->List bo)(E:Int->Int->Int->List bo->Prop)(A U C:List bo)(x:bo)(hU2:2<=U.length)(hl:(A++U++[x]++C).length<2 ^ 60)(X:Srt U):
  yf O E (A.length:Int) ((A.length+U.length:Nat):Int) ((A.length+U.length+1:Nat):Int) (A++U++[x]++C)/\
  ∃ M,N5 O E (A.length:Int) ((A.length+U.length:Nat):Int) ((A.length+U.length+1:Nat):Int) (A++U++[x]++C)=A++M++C/\ato (U++[x]) M/\Srt M/\M.length=U.length+1:=by
 have hL:(A++U++[x]++C).length=A.length+U.length+C.length+1:=by simp;omega
 have w1:i64.wrap (((A.length+U.length:Nat):Int) - (A.length:Int))=(U.length:Int):=by grind [ar]
 have w:i64.wrap (((A.length+U.length+1:Nat):Int) - ((A.length+U.length:Nat):Int))=1:=by grind [ar]
 have b1:((U.length:Int) ==1)=false:=by simp;omega
 have gx:(A++U++[x]++C).getD (A.length+U.length) default=x:=by
  grind
 have gU:∀ h,A.length<=h->h<A.length+U.length->(A++U++[x]++C).getD h default=U.getD (h - A.length) default:=λh h1 h2=>by
  grind
 have s:=TL (step:=uC ((A.length+U.length:Nat):Int) (A++U++[x]++C)) (p:=uT ((A.length+U.length:Nat):Int) (A++U++[x]++C)) (λh=>!decide (x.at_< (U.getD (h - A.length) default).at_)) A.length (A.length+U.length) XM
  (λi j h1 h2 h3 h4=>by
   have:=tR X (i:=i - A.length) (j:=j - A.length) XM XM;grind)
  (λk i j h1 h2 h3=>by
   unfold uT uC;simp only[Vk (i:=i) (j:=j) XM XM,aqa,Vj];grind [ar])
  (λk i=>by
   simp_all [uT,uC]) ((A++U++[x]++C).length+1) 0 XM
 obtain⟨s1,r,s2,q,rfl,q1,q2,Y,q4⟩:=s;have ht:(U.take (q - A.length)).length=q - A.length:=XN
 have hd:(U.drop (q - A.length)).length=U.length - (q - A.length):=arM;have V:U.take (q - A.length)++U.drop (q - A.length)=U:=aq6 _ _;have hd1:∀ y∈U.take (q - A.length),y.at_<=x.at_:=λy hy=>by
  obtain⟨i,i1,i2,rfl⟩:=C2 hy;have:=Y (A.length+i) XM XM;simp_all
 have hd2:∀ y∈U.drop (q - A.length),x.at_<y.at_:=λy hy=>by
  obtain⟨i,i1,i2,rfl⟩:=C3 hy;have:=q4 (A.length+i) XM XM;simp_all
 generalize hV1:U.take (q - A.length)=V1 at *;generalize hV2:U.drop (q - A.length)=V2 at *;subst V;have eq:A++(V1++V2)++[x]++C=(A++V1)++V2++x::C:=by simp
 obtain⟨c1,r,c2,rfl⟩:=TM (A++V1) V2 C x (A++(V1++V2)++[x]++C) XN (by rw[eq]);have eqq:(((A++V1).length:Nat):Int)=(q:Int):=XN
 have eqm:(((A++V1).length+V2.length:Nat):Int)=((A.length+(V1++V2).length:Nat):Int):=XM
 unfold yf N5;rw[w];refine⟨⟨λh=>XN,λ_=>⟨λ_=>⟨s1,Q4 (Q:=λ_=>True) ⟨_,s2,trivial⟩,λz W=>?_⟩,λh=>by cases h⟩⟩,V1++[x]++V2,?_,?_,?_,?_⟩;grind
 grind
 ·have h0:ato (V2++[x]) ([x]++V2):=ato.swap λa ha b hb=>XN
  simpa using (ato.refl V1).app h0
 have⟨a1,a2,a3⟩:=GO X;refine El (El a1 (aqI _ _) λy hy z W=>?_) a2 λy hy z W=>?_ <;>grind;grind
def stI (x:bo):List bo->List bo
 | [] =>[x]|y::r=>if x.at_<=y.at_ then x::y::r else y::stI x r
def stS:List bo->List bo
 | [] =>[]|x::r=>stI x (stS r)
theorem IC (x:bo):∀ l,ato (x::l) (stI x l)
 | [] =>ato.refl _
 |y::r=>by
  unfold stI;by_cases h:x.at_<=y.at_
  rw[if_pos h];exact ato.refl _
  ·rw[if_neg h];have h1:ato ([x]++[y]++r) ([y]++[x]++r):=(ato.swap λa E b O=>XN).app (ato.refl r);exact h1.trans ((ato.refl [y]).app (IC x r))
theorem ato.symm{b:List bo}(h:ato a b):ato b a:=λt=>(h t).symm
theorem ato.mem{b:List bo}(h:ato a b)(E:x∈a):x∈b:=by
 have:x∈a.filter λy=>y.at_==x.at_:=XN
 rw[h x.at_]at this;grind
theorem ato.mem_iff{b:List bo}(h:ato a b):x∈a↔x∈b:=⟨h.mem,h.symm.mem⟩
theorem Vm (x:bo):∀ l,Srt l->Srt (stI x l)
 | [],_=>aqI _ _
 |y::r,h=>by
  unfold stI;have h':=aqR.1 h;by_cases hc:x.at_<=y.at_
  rw[if_pos hc];exact aqR.2 ⟨λz E=>by
   grind,h⟩
  rw[if_neg hc];refine aqR.2 ⟨λz E=>?_,Vm x r h'.2⟩;have:=(IC x r).symm.mem E;grind
def zV:∀ l,ato l (stS l)
 | [] =>ato.refl _|x::r=>((ato.refl [x]).app (zV r)).trans (IC x _)
def Oh:∀ l,Srt (stS l)
 | [] =>List.Pairwise.nil|x::r=>Vm x _ (Oh r)
theorem Fq:∀ {a b:List bo},Srt a->Srt b->ato a b->a=b
 | [],[],_,_,_=>rfl
 | [],y::b,_,_,h=>absurd (h.symm.mem (aqh)) (by simp)
 |x::a,[],_,_,h=>absurd (h.mem (aqh)) (by simp)
 |x::a,y::b,W,X,h=>by
  have O:=aqR.1 W;have E:=aqR.1 X;have e:x.at_=y.at_:=by
   have h1:=h.mem (aqh (a:=x) (l:=a));have h2:=h.symm.mem (aqh (a:=y) (l:=b));grind
  have V:=h x.at_;have Y:(y.at_==x.at_)=true:=by simp[e]
  have ex:(x.at_==x.at_)=true:=by simp
  simp only[List.filter_cons,ex,Y]at V;have⟨exy,htl⟩:=List.cons.inj V;subst exy;have:ato a b:=λt=>by
   have ht:=h t;grind
  rw[Fq O.2 E.2 this]
def BR{b:List bo}(h:ato a b)(E:Srt b):b=stS a:=Fq E (Oh a) (h.symm.trans (zV a))
def adj:x∈stS l↔x∈l:=(zV l).symm.mem_iff
end Go.Sx
end
