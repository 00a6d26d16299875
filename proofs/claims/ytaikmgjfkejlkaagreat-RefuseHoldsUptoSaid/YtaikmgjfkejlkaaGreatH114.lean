/- Part of the proof that the law RefuseHolds returns true and leaves its arguments as they were, for all arguments of bulk at most 1048576 (the Upto form). -/
import Derived.Test.YtaikmgjfkejlkaaGreatH113
import Derived.Test.YtaikmgjfkejlkaaGreatH107
import Derived.Test.YtaikmgjfkejlkaaGreatH108
import Derived.Test.YtaikmgjfkejlkaaGreatH110
import Derived.Test.YtaikmgjfkejlkaaGreatH112
import Derived.Test.YtaikmgjfkejlkaaGreatH111
import Derived.Test.YtaikmgjfkejlkaaGreatH109
import Derived.Test.YtaikmgjfkejlkaaGreatH106
set_option linter.all false
set_option maxHeartbeats 4000000
set_option maxRecDepth 100000
section
namespace Go.Sx
open Go.Proofs Tryz
open IntKind (i64)
@[go_sem] def Bh:m0:=pR .int λl=>pE (.det (l.length*8<=dT) (.nw .int l))
def Ai:X1 prog 33 Bh:=by
 refine fW (mG Y1 Y1) f33 [(.tmp 2,.int)] (bG λl=>am λE=>?_);dsimp only[an]at E;refine⟨nbl rfl,L0,ag _,?_⟩;unfold ae f33;simp only[go_sem];intro b V;refine⟨λh=>?_,λ_=>?_⟩;have O:=V h;subst O;rfl;first|exact E|exact⟨E,λ_=>rfl⟩
@[go_sem] def d9 (b:ah)(f:List bn)(g h i:Int)(e:List Int)(j:Unit):(ByteArray×Int×Int×Int×List Reach×List asR×List atj×List ar4×List atl×List atm×List Claim×List Int)⊕Unit:=letI a:=dw ((aK b f g h i).1) e;(bif(!(aT b (a.c)).2.1)then .inl (a.d.name,a.d.hours,a.d.arJ.cap,a.d.arJ.start,a.d.reaches,a.d.zs,a.d.arU,a.d.bh,a.d.arL,a.d.asl,a.c,e)else .inr ())
def mg (a:ah)(f:List bn)(g h i:Int)(b:List Int)(j:Unit):Prop:=letI d:=(aK a f g h i).1;letI e:=(dw d b).c;((kA d b)/\((jN a e)/\((!(aT a e).2.1)=true->(b.length*8<=dT))))
def gY (b:ah)(f:List bn)(g h i:Int):arO×Bool×Int:=letI e:=aK b f g h i;(bif(e.2 !=0)then(({ bh:=[],kind:=0,reach:=0,hour:=0,arz:=[]}:arO),false,e.2)else(bif(aT b ((e.1).c)).2.1 then(({ bh:=[],kind:=0,reach:=0,hour:=0,arz:=[]}:arO),false,0)else(match cG (d9 b f g h i) (eX (ay (e.1))) ()with| .inl a=>(({ bh:=a.2.2.2.2.2.2.2.2.2.2.2,kind:=((cj b a.2.2.2.2.2.2.2.2.2.2.1).1).kind,reach:=((cj b a.2.2.2.2.2.2.2.2.2.2.1).1).index,hour:=((cj b a.2.2.2.2.2.2.2.2.2.2.1).1).hour,arz:=(gD ({ d:=({ name:=a.1,hours:=a.2.1,arJ:=({ cap:=a.2.2.1,start:=a.2.2.2.1}:asW),reaches:=a.2.2.2.2.1,zs:=a.2.2.2.2.2.1,arU:=a.2.2.2.2.2.2.1,bh:=a.2.2.2.2.2.2.2.1,arL:=a.2.2.2.2.2.2.2.2.1,asl:=a.2.2.2.2.2.2.2.2.2.1}:ah),c:=a.2.2.2.2.2.2.2.2.2.2.1}:P1) (ed ({ d:=({ name:=a.1,hours:=a.2.1,arJ:=({ cap:=a.2.2.1,start:=a.2.2.2.1}:asW),reaches:=a.2.2.2.2.1,zs:=a.2.2.2.2.2.1,arU:=a.2.2.2.2.2.2.1,bh:=a.2.2.2.2.2.2.2.1,arL:=a.2.2.2.2.2.2.2.2.1,asl:=a.2.2.2.2.2.2.2.2.2.1}:ah),c:=a.2.2.2.2.2.2.2.2.2.2.1}:P1)) ((cj b a.2.2.2.2.2.2.2.2.2.2.1).1))}:arO),true,0) | .inr j=>default)))
def qL (a:ah)(b:List bn)(e f g:Int):Prop:=letI j:=d9 a b e f g;letI k:=aK a b e f g;letI h:=k.1;letI l:=ay h;letI i:=eX l;((oS a b e f g)/\((k.2 !=0)=false->((jN a (h.c))/\((aT a (h.c)).2.1=false->((gb h)/\((mf l (i.map Zv))/\okL j (mg a b e f g) i ()/\(∀ z_,cG j i ()≠ .inr z_)/\(∀ u0,cG j i ()=.inl u0->((mK a u0.2.2.2.2.2.2.2.2.2.2.1)/\((jf ({ d:=({ name:=u0.1,hours:=u0.2.1,arJ:=({ cap:=u0.2.2.1,start:=u0.2.2.2.1}:asW),reaches:=u0.2.2.2.2.1,zs:=u0.2.2.2.2.2.1,arU:=u0.2.2.2.2.2.2.1,bh:=u0.2.2.2.2.2.2.2.1,arL:=u0.2.2.2.2.2.2.2.2.1,asl:=u0.2.2.2.2.2.2.2.2.2.1}:ah),c:=u0.2.2.2.2.2.2.2.2.2.2.1}:P1))/\(jH ({ d:=({ name:=u0.1,hours:=u0.2.1,arJ:=({ cap:=u0.2.2.1,start:=u0.2.2.2.1}:asW),reaches:=u0.2.2.2.2.1,zs:=u0.2.2.2.2.2.1,arU:=u0.2.2.2.2.2.2.1,bh:=u0.2.2.2.2.2.2.2.1,arL:=u0.2.2.2.2.2.2.2.2.1,asl:=u0.2.2.2.2.2.2.2.2.2.1}:ah),c:=u0.2.2.2.2.2.2.2.2.2.2.1}:P1) (ed ({ d:=({ name:=u0.1,hours:=u0.2.1,arJ:=({ cap:=u0.2.2.1,start:=u0.2.2.2.1}:asW),reaches:=u0.2.2.2.2.1,zs:=u0.2.2.2.2.2.1,arU:=u0.2.2.2.2.2.2.1,bh:=u0.2.2.2.2.2.2.2.1,arL:=u0.2.2.2.2.2.2.2.2.1,asl:=u0.2.2.2.2.2.2.2.2.2.1}:ah),c:=u0.2.2.2.2.2.2.2.2.2.2.1}:P1)) ((cj a u0.2.2.2.2.2.2.2.2.2.2.1).1)))))))))))
@[go_sem] def Ns:m0:=(pD .al λa=>(pR .M1 λb=>(pI λc=>(pI λd=>(pI λe=>(pE (.det (qL a b c d e) (.tup [.agg [.nw .int (((gY a b c d e).1).bh),.i (((gY a b c d e).1).kind),.i (((gY a b c d e).1).reach),.i (((gY a b c d e).1).hour),.nw .arH (((gY a b c d e).1).arz)],.v (.bool ((gY a b c d e).2.1)),.i ((gY a b c d e).2.2)]))))))))
variable {p:Prop}
def ak1(h:p:=by simp only[go_sem,e0_0,e0_1,e0_2,e0_3,e0_4,e0_5,e0_6]):p:=h
def ak2{l0 l1:List Nat}(a0:JL l0)(a1:JL l1)(h:JL l0->JL l1->p:=by intro ja jb;simp only[go_sem,d9,psT,Zv,aoJ,aos];all_goals exact fU ja jb):p:=h a0 a1
def ak3(h:p:=by simp only[go_sem];all_goals exact auR):p:=h
theorem JW:X1 prog 11 Ns:=by
 have hG:=mG (cn [.st .al,.sl .W2] vH (cn [.st .al,.sl .M1,.o,.o,.o] zk (cn [.sl .int] Iz (cn [.st .S1] lN (cn [.st .S1,.sl .int] uD (cn [.sl .int] Ai (cn [.st .al,.sl .W2] uY (cn [.st .S1,.sl .arH,.st .fault] wO (cn [.st .S1] vS Y1))))))))) Y1;refine fW hG f11 [(.cell 10 0,.int),(.cell 10 4,.arH)] (ax λa0=>(bG λa1=>(aG λV=>(aG λO=>(aG λW=>(am (λY=>?_)))))));dsimp only[an]at Y;unfold qL at Y;refine⟨nbl rfl,(λid st=>bif Nat.beq id 0 then some (LC (ρ:=ByteArray×Int×Int×Int×List Reach×List asR×List atj×List ar4×List atl×List atm×List Claim×List Int) (σ:=Unit) (lk 5 st.t=.ptr 0 0/\lk 10 st.t=.ptr 1 0/\lk 11 st.t=.v (.bool false)/\lk 12 st.t=.i ((aK a0 a1 V O W).2)/\lk 13 st.t=.ptr 2 0/\lk 17 st.t=.ptr 3 0/\lk 50 st.t=.fn 69 [] [.ep [.rs .int (ay ((aK a0 a1 V O W).1))] 0]/\st.h=[.cells (cellsOf .al a0),.cells [.v (.slice none 0 0),.i 0,.i 0,.i 0,.v (.slice none 0 0)],.cells (cellsOf .S1 ((aK a0 a1 V O W).1)),.cells [.v (.string (ByteArray.mk #[])),.i 0,.i 0,.i 0,.v (.slice none 0 0),.v (.slice none 0 0),.v (.slice none 0 0),.v (.slice none 0 0),.v (.slice none 0 0),.v (.slice none 0 0),.v (.slice none 0 0)]]/\mf (ay ((aK a0 a1 V O W).1)) ((eX (ay ((aK a0 a1 V O W).1))).map Zv)/\okL (d9 a0 a1 V O W) (mg a0 a1 V O W) (eX (ay ((aK a0 a1 V O W).1))) ()/\(∀ z_,cG (d9 a0 a1 V O W) (eX (ay ((aK a0 a1 V O W).1))) ()≠ .inr z_)) (cG (d9 a0 a1 V O W) (eX (ay ((aK a0 a1 V O W).1))) ()) (λ_=>.normal) (λE=>⟨[(5,.ptr 0 0),(10,.ptr 1 0),(11,.v (.bool false)),(12,.i ((aK a0 a1 V O W).2)),(13,.ptr 2 0),(17,.ptr 3 0)],[.cells (cellsOf .al a0),.cells [.os 5,.i 0,.i 0,.i 0,.v (.slice none 0 0)],.cells (cellsOf .S1 ((aK a0 a1 V O W).1)),.cells [.v (.string E.1),.i E.2.1,.i E.2.2.1,.i E.2.2.2.1,.rs .reach E.2.2.2.2.1,.rs .dd E.2.2.2.2.2.1,.rs .asn E.2.2.2.2.2.2.1,.rs .right E.2.2.2.2.2.2.2.1,.rs .asy E.2.2.2.2.2.2.2.2.1,.rs .asz E.2.2.2.2.2.2.2.2.2.1,.rs .W2 E.2.2.2.2.2.2.2.2.2.2.1],.dead,.row .int E.2.2.2.2.2.2.2.2.2.2.2]⟩) (λX=>⟨[(5,.ptr 0 0),(10,.ptr 1 0),(11,.v (.bool false)),(12,.i ((aK a0 a1 V O W).2)),(13,.ptr 2 0),(17,.ptr 3 0)],[.cells (cellsOf .al a0),.cells [.os 5,.i 0,.i 0,.i 0,.v (.slice none 0 0)],.cells (cellsOf .S1 ((aK a0 a1 V O W).1)),.cells [.any,.any,.any,.any,.any,.any,.any,.any,.any,.any,.any],.dead,.row .int ([])]⟩))else none),?_,?_⟩
 ·unfold ae f11;simp only[ak,true_and,and_true]
  ·refine AU mixed aB hG (by decide) (by decide) kr kr λst lc hC Y=>?_;simp only[go_sem,Nat.reduceBEq,aoo]at hC;subst hC;obtain⟨t,h⟩:=st;dsimp only[LC]at Y;obtain⟨e0_0,e0_1,e0_2,e0_3,e0_4,e0_5,e0_6,rfl,hb0,hok0,hno0⟩:=Y;refine⟨⟨t,[.cells (cellsOf .al a0),.cells [.os 4,.i 0,.i 0,.i 0,.v (.slice none 0 0)],.cells (cellsOf .S1 ((aK a0 a1 V O W).1)),.cells [.v (.string (ByteArray.mk #[])),.i 0,.i 0,.i 0,.v (.slice none 0 0),.v (.slice none 0 0),.v (.slice none 0 0),.v (.slice none 0 0),.v (.slice none 0 0),.v (.slice none 0 0),.v (.slice none 0 0)],.row .int ([])]⟩,asv.cell (h:=[.cells (cellsOf .al a0),.cells [.v (.slice none 0 0),.i 0,.i 0,.i 0,.v (.slice none 0 0)],.cells (cellsOf .S1 ((aK a0 a1 V O W).1)),.cells [.v (.string (ByteArray.mk #[])),.i 0,.i 0,.i 0,.v (.slice none 0 0),.v (.slice none 0 0),.v (.slice none 0 0),.v (.slice none 0 0),.v (.slice none 0 0),.v (.slice none 0 0),.v (.slice none 0 0)]]) (i:=1) (j:=0) (.row .int ([])) (asv.refl _) rfl rfl (.inl ⟨_,rfl⟩),69,[.ep [.rs .int (ay ((aK a0 a1 V O W).1))] 0],List Int,_,_,(eX (ay ((aK a0 a1 V O W).1))),Zv,(d9 a0 a1 V O W),(mg a0 a1 V O W),_,(),_,_,_,[(5,.ptr 0 0),(10,.ptr 1 0),(11,.v (.bool false)),(12,.i ((aK a0 a1 V O W).2)),(13,.ptr 2 0),(17,.ptr 3 0)],(λX=>[.cells (cellsOf .al a0),.cells [.os 5,.i 0,.i 0,.i 0,.v (.slice none 0 0)],.cells (cellsOf .S1 ((aK a0 a1 V O W).1)),.cells [.any,.any,.any,.any,.any,.any,.any,.any,.any,.any,.any],.dead,.row .int ([])]),(λE=>[.cells (cellsOf .al a0),.cells [.os 5,.i 0,.i 0,.i 0,.v (.slice none 0 0)],.cells (cellsOf .S1 ((aK a0 a1 V O W).1)),.cells [.v (.string E.1),.i E.2.1,.i E.2.2.1,.i E.2.2.2.1,.rs .reach E.2.2.2.2.1,.rs .dd E.2.2.2.2.2.1,.rs .asn E.2.2.2.2.2.2.1,.rs .right E.2.2.2.2.2.2.2.1,.rs .asy E.2.2.2.2.2.2.2.2.1,.rs .asz E.2.2.2.2.2.2.2.2.2.1,.rs .W2 E.2.2.2.2.2.2.2.2.2.2.1],.dead,.row .int E.2.2.2.2.2.2.2.2.2.2.2]),[0,1,2,3,4,4],?_,rfl,hok0,nbl rfl,?_,DY (ay ((aK a0 a1 V O W).1)) _ hb0,λz_0 X hq0=>⟨rfl,L0,λl=>?_,λl=>?_,?_⟩,λX=>?_,λy=>?_⟩;exact ak1
   ·simp only[go_sem,sp,kg,aoF,apf,aos,aoC,aoZ,e0_0,e0_1,e0_2,e0_3,e0_4,e0_5,e0_6];all_goals (first|done|decide|(repeat' (first|refine And.intro ?_ ?_|rfl|decide)))
   simp only[ak,and_self,true_and,and_true];simp only[ak,and_self,true_and,and_true];unfold mg at hq0;exact ak2 (jl [0,1,2,3,4,6]) (jl [0,1,2,3,4,5]);exact sI (jl [0,1,2,3,4,6]) (jl [0,1,2,3,4,5]);exact sI (jl [0,1,2,3,4,6]) (jl [0,1,2,3,4,5])
 unfold ae f11;try unfold gY
 exact ak3
theorem zl (d:ah)(l:List bn)(fr to k:Int):(aN d l fr to k).1.length<=4096:=by
 rw[(Ib d l fr to k).2];grind [lim]
def T9 {α:Type}{step:Nat->List α->Empty⊕List α}{p:Nat->List α->Prop}(f:Nat->α)(h:∀ k s,step k s=.inr (s++[f k])):∀ (n i:Nat) (s:List α),s.length=i->(∀ k s,k<i+n->s.length=k->p k s)->okI step p n i s
 |0,_,_,_,_=>trivial
 |n+1,i,s,hs,hp=>⟨hp i s g5 hs,λs' e=>T9 f h n (i+1) s' g6 λk s h1 h2=>hp k s g5 h2⟩
theorem Bi (s:P1)(h:s.c.length<=4096):gb s:=λ_=>
 T9 (λk=>(s.c.getD k (default:Claim)).right) (λ_ _=>rfl) _ _ _ rfl λk t h1 h2=>by
  grind [iB,dT]
def adv (d:ah)(l:List bn)(fr to k:Int):oS d l fr to k:=
 ⟨(Ib d l fr to k).1,λ_=>⟨Ix d _,λ_=>Bi _ (zl d l fr to k)⟩⟩
theorem Lg (d:ah)(c:List Claim):(cj d c).2.2=0↔asI d c/\(aX d (aq c)).2.2=0:=by
 unfold cj bI;by_cases E:asI d c
 rw[DX E];grind
 have h1:(aV d c).2≠0:=λq=>E (wM.1 q);grind
structure Opn (d:ah)(l:List bn)(fr to k:Int):Prop where
 err:(aN d l fr to k).2=0
 ask:asI d (aN d l fr to k).1
 plan:(aX d (aq (aN d l fr to k).1)).2.2=0
 ten:((ay { d:=d,c:=(aN d l fr to k).1}).length:Int)<=10
theorem Nt (d:ah)(l:List bn)(fr to k:Int):(aK d l fr to k).2=0↔Opn d l fr to k:=by
 have O:=Lg d (aN d l fr to k).1;unfold aK;by_cases h1:(aN d l fr to k).2=0
 by_cases h2:(cj d (aN d l fr to k).1).2.2=0
 by_cases X:((ay { d:=d,c:=(aN d l fr to k).1}).length:Int)<=10
 have E:decide (((ay { d:=d,c:=(aN d l fr to k).1}).length:Int) > 10)=false:=by simp;omega
 simp only[h1,h2,E,bne_self_eq_false,cond_false];exact⟨λ_=>⟨h1,(O.1 h2).1,(O.1 h2).2,X⟩,λ_=>trivial⟩;have E:decide (((ay { d:=d,c:=(aN d l fr to k).1}).length:Int) > 10)=true:=by simp;omega
 simp only[h1,h2,E,bne_self_eq_false,cond_false,cond_true];exact⟨λh=>(by cases h),λh=>absurd h.ten X⟩;have W:((cj d (aN d l fr to k).1).2.2 !=0)=true:=g6
 simp only[h1,W,bne_self_eq_false,cond_false,cond_true];exact⟨λh=>absurd h h2,λh=>absurd (O.2 ⟨h.ask,h.plan⟩) h2⟩;have V:((aN d l fr to k).2 !=0)=true:=g6
 simp only[V,cond_true];exact⟨λh=>absurd h h1,λh=>absurd h.err h1⟩
variable {d:ah}
theorem D4{l:List bn}{fr to k:Int}(h:Opn d l fr to k):aK d l fr to k=({ d:=d,c:=(aN d l fr to k).1},0):=by
 have h2:=(Lg d (aN d l fr to k).1).2 ⟨h.ask,h.plan⟩;have E:decide (((ay { d:=d,c:=(aN d l fr to k).1}).length:Int) > 10)=false:=by have:=h.ten;simp;omega
 unfold aK;simp only[h.err,h2,E,bne_self_eq_false,cond_false]
theorem IG{c:List Claim}(h:asI d c):∀ x∈c,0<=x.dd/\x.dd< (d.zs.length:Int):=λx E=>by
 have:=((jW d c).1 h.chk).2.2.1 x E;grind [okC]
theorem Qk {s:P1}(h:∀ x∈s.c,0<=x.dd/\x.dd< (s.d.zs.length:Int)):ip s:=λ_=>
 iA _ _ _ λj t _ E=>by
  grind [iF]
theorem Lh {ρ σ:Type}{step:Nat->σ->ρ⊕σ}:∀ (n i:Nat) (s:σ) {r:σ},aj step n i s=.inr r->∀ j,i<=j->j<i+n->∃ t t',step j t=.inr t'
 |0,_,_,_,_,j,h1,h2=>g5
 |n+1,i,s,r,h,j,h1,h2=>by
  rw[aj]at h;cases e:step i s with
  |inl x=>grind
  |inr s'=>
   rw[e]at h;by_cases E:j=i
   grind
   exact Lh n (i+1) s' h j g5 g5
theorem xE (n lo hi:Int):di n lo hi=true↔lo<=n/\n<=hi:=by
 unfold di;simp
theorem agf {s:P1}(h:∀ x∈s.c,0<=x.dd/\x.dd< (s.d.zs.length:Int))(V:s.d.reaches.length<=64)(l:List Y2):ld s l:=by
 have hw:∀ n:Int,di n 0 (i64.wrap ((s.d.reaches.length:Int) - 1))=true->0<=n/\n< (s.d.reaches.length:Int):=λn h=>by
  grind [xE,aw]
 refine⟨Qk h,λ_=>⟨iA _ _ _ λj t _ E=>?_,λt O _=>iA _ _ _ λj u _ E=>?_⟩⟩;grind [jE]
 obtain⟨v,W,e⟩:=Lh _ _ _ O j (aoV _) E;grind [jF,c7]
theorem CJ (d:ah)(l:List bn)(fr to k:Int)(r:arO):iQ d l fr to k r:=by
 refine⟨adv d l fr to k,λY=>?_⟩;have E:=(Nt d l fr to k).1 g6;have hc:=zl d l fr to k;have hr:=Iv E.ask.chk;have O:d.reaches.length<=64:=by
  have:=((sF d).1 ((jW d _).1 E.ask.chk).1).1;omega
 rw[D4 E];refine⟨Bi _ hc,λhm=>⟨iA _ _ _ λj t _ X=>?_,λs hs=>?_⟩⟩;grind [mM,aI,aw]
 obtain⟨h1,h2⟩:=xp { d:=d,c:=(aN d l fr to k).1} r.bh hc;refine⟨h1,?_⟩;rw[h2];refine⟨agf (λx V=>IG E.ask x ((aqp.1 V).1)) O _,λW=>?_⟩;grind [xE,aw]
theorem Nu {α:Type}{step:Nat->List α->Empty⊕List α}(f:Nat->List α)(h:∀ k s,step k s=.inr (s++f k)):∀ n i s,aj step n i s=.inr (s++(List.range' i n).flatMap f)
 |0,i,s=>by simp[aj]
 |n+1,i,s=>by
  rw[aj,h];dsimp only;rw[Nu f h n (i+1),apA,aoF,ao_]
theorem ZA {α:Type}{step:Nat->List α->Empty⊕List α}{p:Nat->List α->Prop}(f:Nat->List α)(h:∀ k s,step k s=.inr (s++f k)):∀ n i s,(∀ j,j<n->p (i+j) (s++(List.range' i j).flatMap f))->okI step p n i s
 |0,_,_,_=>trivial
 |n+1,i,s,hp=>by
  refine⟨by simpa using hp 0 g5,λs' e=>?_⟩;rw[h]at e;cases e;refine ZA f h n (i+1) _ λj E=>?_;grind [List.range'_succ]
def CK (l:List Int):List (List Int):=(List.range' 0 (l.length+1)).flatMap λn=>chz n [] l
variable {l:List Int}
theorem Nv(h:l.length<=900):eX l=CK l:=by
 unfold eX;rw[aw g5 g5,Nu (step:=lA l) (λn=>chz n [] l) λ_ _=>rfl];rfl
theorem agh(h:l.length<=900):mf l ((eX l).map Zv):=by
 intro _;rw[Nv h,aw g5 g5,show(((l.length:Int)+1).toNat)=l.length+1 by omega];refine⟨g5,ZA (λn=>chz n [] l) (λ_ _=>rfl) _ _ _ λj O=>?_,λs E=>?_⟩;unfold lT chP;rw[aos,aou];refine⟨g6,g6,λi y hy=>?_⟩;have e:CK l=(List.range' 0 j).flatMap (λn=>chz n [] l)++(chz j [] l++(List.range' (j+1) (l.length - j)).flatMap λn=>chz n [] l):=by
  unfold CK;rw[show l.length+1=j+(l.length - j+1) by omega,<-List.range'_append_1,ap0,apA,aoF,aou]
 rw[apj,e,apM g6];simp only[aq1];rw[aqh (aop.1 hy).1,hy];rfl;rw[Nu (step:=lA l) (λn=>chz n [] l) λ_ _=>rfl]at E;cases E;rw[apd];rfl
theorem Nw:∀ (n:Nat) (s l:List Int) (z:List Int),z∈chz n s l->z.length=s.length+n
 |0,s,l,z,h=>by grind [CE]
 |n+1,s,[],z,h=>by simp[chz]at h
 |n+1,s,x::l,z,h=>by
  simp only[chz]at h;split at h
  cases h;rw[aoQ]at h;rcases h with h|h;rw[Nw n _ _ _ h];simp;omega;exact Nw (n+1) _ _ _ h
theorem VH{z:List Int}(h:z∈CK l):z.length<=l.length:=by
 grind [CK,Nw,List.length_nil]
def pJ (l:List Y2):List (Int×Y2):=(List.range l.length).map λk=>(((l.length - 1 - k:Nat):Int),l.getD (l.length - 1 - k) default)
theorem Ql {l:List Y2}(h:l.length<=aI):∀ m k,m+k=l.length+1->okI (aM l) (ci l ((pJ l).map xC)) m k ((pJ l).take k,(l.length:Int) - 1 - k)/\aj (aM l) m k ((pJ l).take k,(l.length:Int) - 1 - k)=.inl (pJ l)\/l.length<k
 |0,k,hk=>.inr g5
 |m+1,k,hk=>by
  have X:(pJ l).length=l.length:=by unfold pJ;simp
  by_cases hn:k<l.length
  unfold aI at h;have V:decide (((l.length:Int) - 1 - k)>=0)=true:=by simp;omega
  have e2:((l.length:Int) - 1 - k).toNat=l.length - 1 - k:=g5
  have O:(pJ l)[k]? =some ((l.length:Int) - 1 - k,l.getD (l.length - 1 - k) default):=by
   grind [pJ]
  have e4:(pJ l).take (k+1)=(pJ l).take k++[((l.length:Int) - 1 - k,l.getD (l.length - 1 - k) default)]:=by
   rw[List.take_add_one,O];rfl
  have Y:i64.wrap ((l.length:Int) - 1 - k - 1)=(l.length:Int) - 1 - ((k+1:Nat):Int):=by
   grind [aw]
  have E:aM l k ((pJ l).take k,(l.length:Int) - 1 - k)=.inr ((pJ l).take (k+1),(l.length:Int) - 1 - ((k+1:Nat):Int)):=by
   simp_all [aM]
  rcases Ql h m (k+1) (g5)with⟨h1,h2⟩ |hx;refine .inl ⟨⟨?_,λs' e=>?_⟩,?_⟩;grind [ci]
  grind
  grind [aj]
  omega;by_cases W:k=l.length
  subst W;have V:decide (((l.length:Int) - 1 - (l.length:Int))>=0)=false:=by simp;omega
  have E:aM l l.length ((pJ l).take l.length,(l.length:Int) - 1 - (l.length:Int))=.inl (pJ l):=by
   unfold aM;grind
  refine .inl ⟨⟨λq=>?_,λs' e=>?_⟩,?_⟩;grind
  grind
  rw[aj,E];omega
variable {l:List Y2}
theorem ab7(h:l.length<=4611686):aH l=pJ l/\cC l ((aH l).map xC):=by
 have E:(pJ l).length=l.length:=by unfold pJ;simp
 have key:=Ql (l:=l) (by unfold aI;omega) (l.length+1) 0 rfl;rw[ap3,show((l.length:Int) - 1 - ((0:Nat):Int))=(l.length:Int) - 1 by omega]at key;rcases key with⟨h1,h2⟩ |hx;have e:aH l=pJ l:=by
  grind [aH,aw]
 refine⟨e,λ_=>?_⟩;grind [aw]
 omega
def plI (R:Nat)(a b:Int)(B:Nat)(l:List Y2):Prop:=l.Pairwise plt/\(∀ x∈l,(a<x.reach\/x.reach=a/\x.hour<b)/\0<=x.reach/\x.reach< (R:Int))/\l.length<=B
theorem ab8{R:Nat}{a b:Int}{B:Nat}{x:Y2}(h:plI R a b B l)(h1:x.reach=a)(h2:x.hour=b)(O:0<=a)(E:a< (R:Int)):plI R a (b+1) (B+1) (l++[x]):=by
 obtain⟨p,q,n⟩:=h;refine⟨aoG.2 ⟨p,by simp,λy hy z V=>?_⟩,λy hy=>?_,g6⟩;grind [plt,pO]
 grind
theorem ZB{R:Nat}{a b:Int}{B:Nat}(h:plI R a b B l){O:Int}{E:Nat}(X:b<=O)(W:B<=E):plI R a O E l:=
 ⟨h.1,λx V=>by have:=h.2.1 x V;omega,aoA h.2.2 W⟩
theorem Sz {s:P1}{t:List Y2×List ((Int×Int)×Int)×List ((Int×Int)×Bool)×Int}{k:Nat}{u v:List Y2×List ((Int×Int)×Int)×List ((Int×Int)×Bool)}(h:d8 s t k u=.inr v):v.1=u.1\/∃ x:Y2,v.1=u.1++[x]/\x.reach=t.2.2.2/\x.hour=i64.wrap ((k:Int) - (s.d.reaches.getD t.2.2.2.toNat default).delay):=by
 grind [d8]
theorem ZC {s:P1}(hr:arW s.d)(hw:(s.d.reaches.length:Int)*s.d.hours<=1024)(hf:∀ x∈s.c,0<=x.dd/\x.dd< (s.d.zs.length:Int)):jf s/\plI s.d.reaches.length (-1) 0 1024 (ed s):=by
 have h1:=hr.one;have h64:=hr.reaches;have hH1:=hr.ar9;have hH:=hr.hours;have hm:s.d.reaches.length*s.d.hours.toNat<=1024:=by
  grind
 have key:=Ac (step:=gi s) (p:=fH s) (λt:List Y2×List ((Int×Int)×Int)×List ((Int×Int)×Bool)×Int=>(t.2.2.2+1).toNat) (λt=>∃ i:Nat,t.2.2.2=(i:Int) - 1/\i<=s.d.reaches.length/\plI s.d.reaches.length t.2.2.2 (s.d.hours+1) ((s.d.reaches.length - i)*s.d.hours.toNat) t.1/\∀ x∈t.1,t.2.2.2<x.reach) (plI s.d.reaches.length (-1) 0 1024) (λk t ⟨i,hi,hin,V,hl⟩ =>?_) (s.d.reaches.length+1) 0 ([],bP s,[],i64.wrap ((s.d.reaches.length:Int) - 1)) ⟨s.d.reaches.length,by grind [aw],aom _,⟨List.Pairwise.nil,λx E=>(by cases E),aoV _⟩,λx E=>(by cases E)⟩ (by grind [aw]);obtain⟨k1,r,k2,k3⟩:=key;refine⟨⟨Qk hf,λ_=>⟨k1,λz hz=>g6⟩⟩,?_⟩;grind [ed]
 unfold fH gi;rw[hi];cases i with
 |zero=>
  refine⟨λh=>by simp at h,.inl ⟨t.1,rfl,?_⟩⟩;refine⟨V.1,λx E=>?_,aoA V.2.2 g5⟩;have:=V.2.1 x E;omega
 |succ i=>
  have e0:decide ((((i+1:Nat):Int) - 1)>=0)=true:=decide_eq_true g5;have hd:=(RX _ _).1 (hr.reach i g5);have hJ:∀ (j:Nat) (u:List Y2×List ((Int×Int)×Int)×List ((Int×Int)×Bool)),0<=j->j<0+s.d.hours.toNat->plI s.d.reaches.length (i:Int) ((j:Int) - (s.d.reaches.getD i default).delay) ((s.d.reaches.length - (i+1))*s.d.hours.toNat+j) u.1->gX s t j u/\∀ v,d8 s t j u=.inr v->plI s.d.reaches.length (i:Int) (((j+1:Nat):Int) - (s.d.reaches.getD i default).delay) ((s.d.reaches.length - (i+1))*s.d.hours.toNat+(j+1)) v.1:=λj u _ hj h=>by
   have hlen:(s.d.reaches.length - (i+1))*s.d.hours.toNat+(j+1)<=1024:=by
    have:(s.d.reaches.length - (i+1)+1)*s.d.hours.toNat<=s.d.reaches.length*s.d.hours.toNat:=aoz _ g5;grind
   refine⟨λ_ _=>⟨M6 _ _,λ_=>?_⟩,λv O=>?_⟩;have:=h.2.2;grind [dT]
   rcases Sz O with e| ⟨x,e,X,W⟩;rw[e];exact ZB h g5 g5;rw[e];rw[hi]at X W;rw[show(((i+1:Nat):Int) - 1)=(i:Int) by omega]at X W;rw[aol,aw g5 g5]at W;rw[show(((j+1:Nat):Int) - (s.d.reaches.getD i default).delay)=((j:Int) - (s.d.reaches.getD i default).delay)+1 by omega];exact ab8 h X W g5 g5
  have Y:plI s.d.reaches.length (i:Int) (((0:Nat):Int) - (s.d.reaches.getD i default).delay) ((s.d.reaches.length - (i+1))*s.d.hours.toNat+0) t.1:=⟨V.1,λx E=>by
   have:=hl x E;have:=(V.2.1 x E).2;omega,V.2.2⟩
  refine⟨λ_=>⟨g5,g5,ij (λj u=>plI s.d.reaches.length (i:Int) ((j:Int) - (s.d.reaches.getD i default).delay) ((s.d.reaches.length - (i+1))*s.d.hours.toNat+j) u.1) _ _ (t.1,t.2.1,t.2.2.1) Y hJ⟩,.inr ?_⟩;rw[e0,cond_true];cases q:aj (d8 s t) s.d.hours.toNat 0 (t.1,t.2.1,t.2.2.1)with
  |inl x=>exact x.elim
  |inr v=>
   have O:=il (λj (u:List Y2×List ((Int×Int)×Int)×List ((Int×Int)×Bool)) =>plI s.d.reaches.length (i:Int) ((j:Int) - (s.d.reaches.getD i default).delay) ((s.d.reaches.length - (i+1))*s.d.hours.toNat+j) u.1) _ _ _ Y (λj u a b c=>(hJ j u a b c).2) v q;have ew:i64.wrap (((i+1:Nat):Int) - 1 - 1)=(i:Int) - 1:=by grind [aw]
   simp only[ew];refine⟨_,rfl,g6,i,rfl,g5,⟨O.1,λx E=>?_,?_⟩,λx E=>?_⟩;have:=O.2.1 x E;grind;refine aoA O.2.2 (Nat.le_of_eq ?_);rw[show s.d.reaches.length - i=s.d.reaches.length - (i+1)+1 by omega,aqP];omega;have:=O.2.1 x E;grind
theorem VI (l:List Y2):(pJ l).map (·.2)=l.reverse:=by
 unfold pJ;refine aqZ (by simp) λk h1 h2=>?_;grind
def blJ (R:Nat)(L:List (Int×Y2))(t:List ((Int×Int)×Bool)×List Y2):Prop:=(t.2++L.map (·.2)).Pairwise (λx y=>plt y x)/\(∀ y∈t.2++L.map (·.2),0<=y.reach/\y.reach< (R:Int))/\(t.2++L.map (·.2)).length<=1024
theorem SA{s:P1}{f:B1}(h:plI s.d.reaches.length (-1) 0 1024 l):jH s l f:=by
 obtain⟨b1,Y⟩:=ab7 (l:=l) (by have:=h.2.2;omega);have O:blJ s.d.reaches.length (aH l) ([],[]):=by
  unfold blJ;rw[b1,aos,VI];exact⟨aq_.2 h.1,λx E=>(h.2.1 x (List.mem_reverse.1 E)).2,by rw[List.length_reverse];exact h.2.2⟩
 have V:∀ x L t,blJ s.d.reaches.length (x::L) t->fV s l f x t/\∀ t',dN s l f x t=.inr t'->blJ s.d.reaches.length L t':=λx L t ⟨g1,X,g3⟩ =>by
  have E:=X x.2 (by simp);have hl:t.2.length<1024:=g6
  refine⟨⟨λ_=>⟨λ_ _=>E,λ_ _=>E⟩,λ_=>E,λ_=>⟨E,by grind [dT]⟩⟩,λt' e=>?_⟩;grind [dN,blJ]
 refine⟨Y,M8 _ V _ _ O,λt W=>?_⟩;have:=((Il _ (λx L t h=>(V x L t h).2) _ _ O).1 t W).1;rw[aoZ,aoC]at this;exact(HV IE (List.reverse_perm _).symm ((aq_.2 this).imp λh=>(Lf _ _).2 h)).1
theorem SB (a b:Claim):qt a b=decide (df a b<0):=by
 rw[ape,decide_eq_true_eq,Ch];unfold qt;simp only[tO,pO,and_false,or_false];grind
theorem adw {α:Type}(P:α->Bool)(d:α):∀ (l:List α) (n:Nat),n<=l.length->(∀ i,i<n->P (l.getD i d)=true)->(n<l.length->P (l.getD n d)=false)->l.takeWhile P=l.take n/\l.dropWhile P=l.drop n
 | [],n,h,_,_=>by simp
 |x::l,0,_,_,h2=>by
  simp_all
 |x::l,n+1,h,h1,h2=>by
  have:=h1 0 g5;rw[aqJ]at this;rw[aon]at h h2;obtain⟨a,b⟩:=adw P d l n g5 (λi hi=>g6) (λhn=>g6);simp_all
theorem ZD (l:List Claim)(x:Claim)(hl:l.length<=153600):vD l x/\rF l x=vR l x:=by
 obtain⟨a,r,b,⟨c1,c2⟩,E,X⟩:=Ac (step:=qu l x) (p:=qw l x) (λs=>l.length - s.toNat) (λs=>(0<=s/\s<=(l.length:Int))/\∀ i:Nat,(i:Int) <s->decide (df (l.getD i default) x<0)=true)
  (λr=>(0<=r/\r<=(l.length:Int))/\(∀ i:Nat,(i:Int) <r->decide (df (l.getD i default) x<0)=true)/\(r< (l.length:Int)->decide (df (l.getD r.toNat default) x<0)=false)) (λk s W=>by
   obtain⟨⟨O,h1⟩,h2⟩:=W;refine⟨λ_ h=>⟨O,of_decide_eq_true h⟩,?_⟩;unfold qu;rw[SB];by_cases V:s< (l.length:Int)
   rw[decide_eq_true V,apX];cases hq:decide (df (l.getD s.toNat default) x<0)with
   |true=>
    refine .inr ⟨_,rfl,?_⟩;grind [aw]
   |false=>grind
   grind) 200000 0 0 ⟨⟨ao7 _,g5⟩,λi hi=>g5⟩ g5
 obtain⟨Y,t2⟩:=adw (λy=>decide (df y x<0)) default l r.toNat g5 (λi hi=>E i g5) (λhn=>X g5);have tk:l.take (Int.toNat (l.length:Int))=l:=g6
 refine⟨⟨a,(λz hz=>g6),λy hy=>?_⟩,?_⟩;rw[b]at hy;cases hy;grind [dT]
 grind [rF,vR]
theorem ZE (l:List Claim)(x:Claim):(vR l x).length=l.length+1:=by rw[(KU l x).length_eq,aon]
theorem Qm:∀ (r s:List Claim),(r.foldl vR s).length=s.length+r.length
 | [],s=>by simp
 |x::r,s=>by rw[List.foldl_cons,Qm r,ZE,aon];omega
variable {h:Int}
theorem ab9{x:ar4}(E:atF d x)(V:x.kind=1)(O:0<=h)(h1:h<4096):rD x h=YS x h:=by
 have:=DJ E O h1;unfold rD;grind
theorem IH (d:ah)(l:List bn)(h k:Int):tN d l h k/\ix d l h k=uM d l h k:=by
 have V:=au3 d l h k;have X:=(@YU d l h k).2;have hstep:∀ j s,j< (aD d l h k).1.length->mq d l h k j s=(.inr (match opn d h ((aD d l h k).1.getD j default)with|some c=>rF s c|none=>s):Empty⊕List Claim):=λj s O=>by
  obtain⟨⟨⟨a,b⟩,c,e⟩,Y,hk⟩:=FJ O;grind [mq,ab9,opn]
 have hJ0:∀ j,(((aD d l h k).1.take j).filterMap (opn d h)).foldl vR []=(((aD d l h k).1.take j).filterMap (opn d h)).foldl vR []:=λ_=>rfl;have hlj:∀ j,((((aD d l h k).1.take j).filterMap (opn d h)).foldl vR []).length<=153600:=λj=>by
  grind [Qm]
 have E:∀ j s,j< (aD d l h k).1.length->s=(((aD d l h k).1.take j).filterMap (opn d h)).foldl vR []->(match opn d h ((aD d l h k).1.getD j default)with|some c=>rF s c|none=>s)=(((aD d l h k).1.take (j+1)).filterMap (opn d h)).foldl vR []:=λj s O W=>by
  rw[cw _ default O,aqC,List.foldl_append,<-W];cases hc:opn d h ((aD d l h k).1.getD j default)with
  |none=>grind
  |some c=>
   simp_all [ZD]
 refine⟨⟨V.1,?_⟩,?_⟩;rw[V.2];refine ij (λj s=>s=(((aD d l h k).1.take j).filterMap (opn d h)).foldl vR []) _ _ _ rfl λj s _ O W=>?_;have O:j< (aD d l h k).1.length:=g5
 obtain⟨⟨⟨a,b⟩,c,e⟩,Y,hk⟩:=FJ O;refine⟨?_,λs' e=>?_⟩;intro _;rw[V.2];exact⟨⟨a,b⟩,λ_=>by have:=Y.every;omega,λ_=>(ZD s _ g6).1⟩;grind
 obtain⟨r,h1,h2⟩:=k_ (step:=mq d l h k) (λj s=>s=(((aD d l h k).1.take j).filterMap (opn d h)).foldl vR []) (aD d l h k).1.length 0 [] rfl (λj s _ O W=>⟨_,hstep j s g5,E j s g5 W⟩);unfold ix;rw[V.2,h1];simp only;rw[h2,aou,apD];rfl
theorem ZF{f:Int}(X:av d=0)(E:0<=f)(h1:f< (d.zs.length:Int)):mI d f h/\kn d f h=M3 d f h:=by
 obtain⟨W,V⟩:=afW (KV X E h1);refine⟨⟨⟨E,h1⟩,W⟩,?_⟩;have key:∀ (L:List Int) (i:Nat) (step:Nat->Unit->Int⊕Unit),(∀ k,k<L.length->step (i+k) ()=bif(P5 d f h (L.getD k 0))then .inl (L.getD k 0)else .inr ())->(match aj step L.length i ()with| .inl x=>x| .inr _=>(-1))=(L.find? (P5 d f h)).getD (-1):=by
  intro L;induction L with
  |nil=>intro i step _;rfl
  |cons x L ih=>
   intro i step O;have E:=O 0 (by simp);rw[aqJ]at E;rw[aon,aj];simp only[apE]at E;rw[E,List.find?_cons];cases P5 d f h x with
   |true=>rfl
   |false=>
    simp only[cond_false];exact ih (i+1) step λk Y=>by
     have:=O (k+1) g6;grind
 unfold kn M3 TV;rw[V];exact key _ 0 _ λk Y=>by
  unfold pi;rw[V,aou];rfl
theorem ab_ (d:ah)(l:List bn)(fr to k:Int):rW d l fr to k/\nH d l fr to k=yh d l fr to k:=by
 refine⟨zM d l,?_⟩;unfold nH yh;rw[TQ,YX];by_cases hc:ba d l=0
 rw[hc];simp only[bne_self_eq_false,cond_false,ne_eq,not_true,if_false];by_cases E:uN d fr to k
 rw[YY (uG hc).right E,decide_eq_true E,if_neg (not_not_intro E)];grind
 grind
 grind
variable {l:List bn}{k:Int}
theorem zR{fr to:Int}(h:yh d l fr to k=0):ba d l=0/\uN d fr to k/\¬4096< (to - fr+1)*(d.bh.length:Int):=by
 grind [yh]
theorem Li (d:ah)(l:List bn)(h k:Int):(uM d l h k).length<=600*d.bh.length:=by rw[(A6 d l h k).length_eq];exact(KT d l h k).1
theorem VJ{β:Type}{fr to:Int}{G:Int->List β}(E:yh d l fr to k=0)(hG:∀ h,(G h).length<=(uM d l h k).length)(h1:fr<=h)(h2:h<=to):((hrs fr (h - 1)).flatMap G).length+(uM d l h k).length<=2457600:=by
 obtain⟨_,W,O⟩:=zR E;have V:=wH G (600*d.bh.length) (hrs fr (h - 1)) λa _=>aoA (hG a) (Li d l a k);rw[TO]at V;have X:=Li d l h k;refine th W O (aoA (m:=(h - 1+1 - fr).toNat*(600*d.bh.length)+600*d.bh.length) g5 ?_);rw[<-aqf];exact aoz _ g5
theorem agi (d:ah)(l:List bn)(fr to k:Int):xu d l fr to k/\nJ d l fr to k=lim (yh d l fr to k) (ofL d l k fr to):=by
 obtain⟨c1,c2⟩:=ab_ d l fr to k;by_cases Y:yh d l fr to k=0
 obtain⟨hc,X,hb⟩:=zR Y;have hR:=(uG hc).right;have W:∀ (h:Int) (s0:List Claim×Int),s0.2=h->∀ j s,j< (uM d l h k).length->sL d l k s0 j s=.inr (s++((λc:Claim=>if M3 d c.dd h<0 then some c else none) ((uM d l h k).getD j default)).toList):=λh s0 hs j s hj=>by
  have E:=Ck (H9 _ default hj);unfold sL;rw[hs,(IH d l h k).2,(ZF E.exp E.f0 E.f1).2];grind
 have V:=TU (step:=nI d l to k) (p:=oN d l to k) fr to (ofH d l k) X.1.1 (by have:=X.1.2.2;have:=hR.hours;omega) (by have:=X.1.2.1;omega)
  (λj s h h1 h2=>by
   unfold nI;simp only;rw[decide_eq_true h2,(IH d l h k).2];simp only[cond_true];rw[H8 (uM d l h k) default (λc:Claim=>if M3 d c.dd h<0 then some c else none) s (W h (s,h) rfl)];rfl)
  (λj s h h1=>by grind [nI])
  (λj h h1 h2=>by
   unfold oN;simp only;intro O;have O:h<=to:=of_decide_eq_true O;rw[(IH d l h k).2];refine⟨(IH d l h k).1,?_⟩;refine MZ (uM d l h k) default (λc:Claim=>if M3 d c.dd h<0 then some c else none) _ (W h (_,h) rfl) λi hi=>?_;intro _;simp only;rw[(IH d l h k).2];have E:=Ck (H9 _ default hi);refine⟨(ZF E.exp E.f0 E.f1).1,λ_=>?_⟩;have h3:=VJ (G:=ofH d l k) Y (λh=>by grind [ofH]) h1 O;grind [dT])
 obtain⟨r1,r2⟩:=V;rw[<-af4]at r2;refine⟨⟨c1,λ_=>⟨r1,λz hz=>g6⟩⟩,?_⟩;unfold nJ lim;grind
 have hne:(nH d l fr to k !=0)=true:=g6
 refine⟨⟨c1,λh=>g6⟩,?_⟩;unfold nJ lim;grind
def SC (d:ah)(l:List bn)(k a b:Int):List arv:=(hrs a b).flatMap λh=>(((sO d (ke d l h k)).filterMap (opn d h)).foldl vR []).map (fnd d h)
theorem ZG{fr to:Int}(h:yh d l fr to k=0):tg d l k fr to=SC d l k fr to:=by
 obtain⟨hc,⟨⟨a,b,c⟩,e,f⟩,_⟩:=zR h;unfold tg SC;have:∀ L:List Int,(∀ x∈L,fr<=x/\x<=to)->(L.flatMap λh=>(uM d l h k).map (fnd d h))=L.flatMap λh=>(((sO d (ke d l h k)).filterMap (opn d h)).foldl vR []).map (fnd d h):=λL=>by
  induction L with
  |nil=>intro _;rfl
  |cons x L V=>
   intro E;have O:=E x (by simp);rw[aoF,aoF,V λy hy=>E y (by simp[hy])];congr 2
   unfold uM nL;rw[(KR d l x k).2,if_neg (by simp[hc]),if_pos g5]
 exact this _ λx O=>abL.1 O
theorem T_{fr to:Int}{F:List arv}(h:yh d l fr to k=0)(E:SC d l k fr to=F)(h1:decide (4096< (F.filterMap ofF).length)=false):aN d l fr to k=(F.filterMap ofF,0):=by
 rw[(Ib d l fr to k).2];unfold lim ofL;rw[ZG h,E,if_pos h,if_neg (of_decide_eq_false h1)]
def zS (a:ah)(d:List Claim):Bool:=letI b:=(a.reaches.length:Int);letI c:=(a.zs.length:Int);(bif((((((((decide (b > 8))&&(decide (b<=64))) ||(decide (b > 100))) ||((decide (c > 8))&&(decide (c<=600)))) ||(decide (c > 700))) ||(decide ((a.bh.length:Int) > 300))) ||(decide ((a.arL.length:Int) > 300))) ||(decide ((a.arU.length:Int) > 100)))then false else(((decide (a.hours<=30)) ||(decide (a.hours > 1024)))&&(decide ((d.length:Int)<=60))))
@[go_sem] def Qn:m0:=(pD .al λa=>(pR .W2 λb=>(pE (.det True (.v (.bool (zS a b)))))))
theorem Nx:X1 prog 26 Qn:=by
 have hG:=mG Y1 Y1;refine fN hG f26 [.o] (ax λa0=>(bG λa1=>(am (λE=>?_))));dsimp only[an]at E;refine⟨nbl rfl,L0,ag _,?_⟩;unfold ae f26;try unfold zS
 exact zq2
end Go.Sx
end
section
namespace Go.Sx
open Go.Lib Go.Proofs Go.Shelf Go.Sort
open IntKind (i64)
def xF {α:Type}{cf:α->α->Int}(V:SWO (ltOf cf)){l m:List α}(Y:m.Perm l)(W:m.Pairwise λx y=>ltOf cf x y=true):srt cf l=m:=by
 have h1:(srt cf l).Pairwise λx y=>(!(ltOf cf y x))=true:=by
  refine apk (λa b c h1 h2=>?_) (λa b=>?_) l;simp only[aox]at h1 h2 |-;exact V.ntrans _ _ _ h2 h1;cases q:ltOf cf b a with
  |false=>rfl
  |true=>
   cases E:ltOf cf a b with
   |false=>rfl|true=>have:=V.trans _ _ _ q E;rw[V.irrefl]at this;cases this
 have h2:m.Pairwise λx y=>(!(ltOf cf y x))=true:=W.imp λ{x y} q=>by
  cases E:ltOf cf y x with
  |false=>rfl|true=>have:=V.trans _ _ _ q E;rw[V.irrefl]at this;cases this
 have O:(srt cf l).Perm l:=apo _ _;refine apu (λa b X hb q1 E=>?_) h1 h2 (O.trans Y.symm);have X:a∈m:=Y.mem_iff.2 (O.mem_iff.1 X);obtain⟨i,hi,rfl⟩:=aoM X;obtain⟨j,hj,rfl⟩:=aoM hb;rw[ao3]at W;rcases Nat.lt_trichotomy i j with q|q|q;have:=W i j hi hj q;rw[this]at E;cases E;subst q;rfl;have:=W j i hj hi q;rw[this]at q1;cases q1
def zm {d:ah}{c:List Claim}{out l:List Order}{B:List B1}(h1:bX d c=0)(h2:decide ((i64.wrap ((d.reaches.length:Int)*d.hours)) > 1024)=false)(O:aq c=out)
  (E:bN out=false) (V:aX d out=(l,true,0)) (X:d7 l d=B):
  bI d c=match B with| [] =>(l,({ kind:=0,hour:=0,index:=0,bl:=0,limit:=0}:B1),0) |f::_=>([],f,0):=by
 have W:aV d c=(out,0):=by
  unfold aV;rw[h1,h2,O,E];rfl
 unfold bI;simp only[W,V,X,bne_self_eq_false,cond_false,aoH];cases B <;>rfl
abbrev ft (h i n:Int)(o:Bool):Order:= { hour:=h,index:=i,bl:=n,S2:=o}
end Go.Sx
end
section
namespace Go.Sx
open Go.Proofs Tryz
def vJ (a:Int):ar4:=({ name:=(ByteArray.mk #[]),kind:=1,dd:=a,reach:=0,arM:=0,bl:=6,since:=1,to:=3,every:=1,length:=1}:ar4)
@[go_sem] def JX:m0:=(pI λa=>(pE (.det True (.agg (cellsOf .right (vJ a))))))
def II:X1 prog 64 JX:=by
 have hG:=mG Y1 Y1;refine fN hG f64 [.st .right] (aG λdd=>(am (λE=>?_)));dsimp only[an]at E;refine⟨nbl rfl,L0,ag _,?_⟩;unfold ae f64;try unfold vJ
 exact zq2
def b9:ah:=({ name:=(ByteArray.mk #[]),hours:=4,arJ:=({ cap:=99,start:=99}:asW),reaches:=[({ name:=(ByteArray.mk #[]),up:=(-1),delay:=1,cap:=10,ar6:=50,arR:=0,asu:=({ lo:=0,hi:=0}:Range),ar3:=(({ n:=0,d:=1}:api),({ n:=0,d:=1}:api))}:Reach)],zs:=[({ name:=(ByteArray.mk #[]),reach:=0,ati:=0,asn:=(-1)}:asR),({ name:=(ByteArray.mk #[]),reach:=0,ati:=0,asn:=(-1)}:asR)],arU:=[],bh:=[(vJ 0),(vJ 1)],arL:=[],asl:=[]}:ah)
@[go_sem] def JY:m0:=(pE (.det True (.agg [.v (.string ((b9).name)),.i ((b9).hours),.i ((b9).arJ.cap),.i ((b9).arJ.start),.nw .reach ((b9).reaches),.nw .dd ((b9).zs),.v (.slice none 0 0),.nw .right ((b9).bh),.v (.slice none 0 0),.v (.slice none 0 0)])))
def IJ:X1 prog 24 JY:=by
 have hG:=mG (cp II Y1) Y1;refine fE hG f24 (am (λE=>?_));dsimp only[an]at E;refine⟨nbl rfl,L0,ag _,?_⟩;unfold ae f24;try unfold b9
 exact zq2
def uc (r:arO):Bool:=((decide ((r.bh.length:Int)<=60))&&(decide ((r.arz.length:Int)<=300)))
@[go_sem] def Qo:m0:=(pD .refusal λr=>(pE (.det True (.v (.bool (uc r))))))
def Ny:X1 prog 14 Qo:=by
 have hG:=mG Y1 Y1;refine fN hG f14 [.o] (ax λr=>(am (λE=>?_)));dsimp only[an]at E;refine⟨nbl rfl,L0,ag _,?_⟩;unfold ae f14;try unfold uc
 exact zq2
@[go_sem] def CL (a:List Int)(n:Int)(b:Nat)(c:Unit):Unit⊕Unit:=(bif((a.getD b 0) ==n)then .inl ()else .inr ())
def wP (a:List Int)(n:Int):Bool:=(match aj (CL a n) a.length 0 ()with| .inl b=>true| .inr c=>false)
@[go_sem] def Qp:m0:=(pR .int λa=>(pI λn=>(pE (.det True (.v (.bool (wP a n)))))))
def Nz:X1 prog 53 Qp:=by
 have hG:=mG Y1 Y1;refine fN hG f53 [.o] (bG λV=>(aG λn=>(am (λY=>?_))));dsimp only[an]at Y;refine⟨nbl rfl,(λid st=>bif Nat.beq id 0 then some (LCR (ρ:=Unit) (σ:=Unit) 0 [] [] (λE O=>⟨[(0,.rs .int V),(1,.i n),(5,.i E)],[]⟩) (CL V n) pT V.length () (True) (λ_=>.ret) (λW=>⟨[(4,.v (.bool true))],[]⟩) st)else none),?_,?_⟩;unfold ae f53;simp only[ak,true_and,and_true];refine fj (V.length<=aI) mixed aB hG kr (λ_=>rfl) (V.length:Int) rfl fO (λhb0 E O X _ hw hc=>⟨L0,ag _,?_⟩) (λhb0 O hc=>?_) λhb0 E O=>?_;exact bC (jl []);exact bD (jl []);exact zq8;unfold ae f53;try unfold wP
 exact zq2
@[go_sem] def ic (c:List Claim)(a d:Nat)(b:List Int):Empty⊕(List Int):=(bif(((c.getD d default).right==(a:Int))&&(!(wP b (a:Int))))then .inr (b++([(a:Int)]))else .inr b)
def mN (c:List Claim)(a d:Nat)(b:List Int):Prop:=(c.length<=aI->((((c.getD d default).right==(a:Int))&&(!(wP b (a:Int))))=true->((b++([(a:Int)])).length*8<=dT)))
@[go_sem] def pa (d:ah)(c:List Claim)(a:Nat)(b:List Int):Empty⊕(List Int):=(match aj (ic c a) c.length 0 b with| .inl x=>x.elim| .inr e=>.inr e)
def qM (d:ah)(c:List Claim)(a:Nat)(b:List Int):Prop:=(d.bh.length<=aI->okI (ic c a) (mN c a) c.length 0 b)
def xG (d:ah)(c:List Claim):List Int:=(match aj (pa d c) d.bh.length 0 ([])with| .inl x=>x.elim| .inr a=>a)
def qN (d:ah)(c:List Claim):Prop:=okI (pa d c) (qM d c) d.bh.length 0 ([])
@[go_sem] def IK:m0:=(pD .al λd=>(pR .W2 λc=>(pE (.det (qN d c) (.rs .int (xG d c))))))
def Fo:X1 prog 28 IK:=by
 have hG:=mG (cn [.sl .int,.o] Nz Y1) Y1;refine fN hG f28 [.sl .int] (ax λd=>(bG λc=>(am (λY=>?_))));dsimp only[an]at Y;unfold qN at Y;refine⟨nbl rfl,(λid st=>bif Nat.beq id 0 then some (LCR (ρ:=Empty) (σ:=(List Int)) 1 [.slot 5 (.row .int ([]))] [0,1] (λE O=>⟨[(1,.rs .W2 c),(2,.ptr 0 0),(5,.os 1),(6,.i E)],[.cells (cellsOf .al d),.row .int O]⟩) (pa d c) (qM d c) d.bh.length ([]) (True) ((·.elim)) ((·.elim)) st)else none),?_,?_⟩;unfold ae f28;simp only[ak,true_and,and_true];refine fj (d.bh.length<=aI) mixed aB hG kr (λ_=>rfl) (d.bh.length:Int) rfl fO (λhb0 E O asO X hw hc=>⟨(λid st=>bif Nat.beq id 2 then some (LCR (ρ:=Empty) (σ:=(List Int)) 2 [] [0,1,1] (λW V=>⟨[(1,.rs .W2 c),(2,.ptr 0 0),(5,.os 2),(6,.i E),(7,.i W)],[.cells (cellsOf .al d),.dead,.row .int V]⟩) (ic c E) (mN c E) c.length O (True) ((·.elim)) ((·.elim)) st)else none),?_,?_⟩) (λhb0 O hc=>?_) λhb0 E O=>?_;simp only[ak,true_and,and_true];refine fj (c.length<=aI) mixed aB hG kr (λ_=>rfl) (c.length:Int) rfl fO (λhb1 W V as6 hq1 hw hc=>⟨L0,ag _,?_⟩) (λhb1 V hc=>?_) λhb1 W V=>?_;unfold mN at hq1;try simp only[hw,aol]at hq1
 exact lm (jl [0,1,4]) (jl [0,1,2]);exact ln (jl [0,1,4]) (jl [0,1,2]);exact RU;unfold qM at X;try simp only[hw,aol]at X
 exact lm (jl [0,2]) (jl [0,1]);exact ln (jl [0,2]) (jl [0,1]);exact zq8;unfold ae f28;try unfold xG
 exact zq2
def rH (d:ah)(b:List bn)(c e g:Int):Bool:=letI a:=nJ d b c e g;letI f:=((xG d (a.1)).length:Int);(bif((!(zL d b c e)) ||(!(zS d ([]))))then false else(bif(a.2 !=0)then true else((decide (((a.1).length:Int)<=60))&&((decide (f<=6)) ||(decide (f > 10))))))
def vK (d:ah)(a:List bn)(b c e:Int):Prop:=(((!(zL d a b c)) ||(!(zS d ([]))))=false->((xu d a b c e)/\(((nJ d a b c e).2 !=0)=false->(qN d ((nJ d a b c e).1)))))
@[go_sem] def Qq:m0:=(pD .al λd=>(pR .M1 λa=>(pI λb=>(pI λc=>(pI λe=>(pE (.det (vK d a b c e) (.v (.bool (rH d a b c e))))))))))
def NA:X1 prog 10 Qq:=by
 have hG:=mG (cn [.st .al,.sl .M1,.o,.o] MI (cn [.st .al,.sl .W2] Nx (cn [.st .al,.sl .M1,.o,.o,.o] Pz (cn [.st .al,.sl .W2] Fo Y1)))) Y1;refine fN hG f10 [.o] (ax λd=>(bG λO=>(aG λfr=>(aG λto=>(aG λknown=>(am (λE=>?_)))))));dsimp only[an]at E;unfold vK at E;refine⟨nbl rfl,L0,ag _,?_⟩;unfold ae f10;try unfold rH
 exact zq2
def iR:=({ bh:=[],kind:=0,reach:=0,hour:=0,arz:=[]}:arO)
def iS:=({ bh:=[2],kind:=0,reach:=0,hour:=0,arz:=[]}:arO)
def eG:=({ name:=b9.name,hours:=b9.hours,arJ:=b9.arJ,reaches:=b9.reaches,zs:=b9.zs,arU:=[],bh:=b9.bh,arL:=[],asl:=[]}:ah)
def iT:=(gY eG ([]) 2 3 0)
def dK:=(iT.1)
def jZ:=(dK.bh)
def nT:=(dK.arz)
def gZ:=(jZ.length:Int)
def mu:=(nT.length:Int)
def oU:=(jZ.getD 1 (0:Int))
def mv:=(jZ.getD 0 (0:Int))
def kU:=(nT.getD 0 (default:Y2))
def kV:=(bS eG ([]) 2 3 0 iR)
def oV:=(bS eG ([]) 2 3 0 iS)
def oW:=(bS eG ([]) 3 2 0 dK)
def kW:=(bS eG ([]) 2 3 0 dK)
def oX:=({ name:=b9.name,hours:=b9.hours,arJ:=b9.arJ,reaches:=(b9.reaches.set 0 ({ name:=(b9.reaches.getD 0 (default:Reach)).name,up:=(b9.reaches.getD 0 (default:Reach)).up,delay:=(b9.reaches.getD 0 (default:Reach)).delay,cap:=12,ar6:=(b9.reaches.getD 0 (default:Reach)).ar6,arR:=(b9.reaches.getD 0 (default:Reach)).arR,asu:=(b9.reaches.getD 0 (default:Reach)).asu,ar3:=(b9.reaches.getD 0 (default:Reach)).ar3}:Reach)),zs:=b9.zs,arU:=[],bh:=b9.bh,arL:=[],asl:=[]}:ah)
def kX:=(gY oX ([]) 2 3 0)
def rI:Bool:=(bif((((((((((iT.2.2 !=0) ||(kW.2 !=0)) ||(kV.2 !=0)) ||(oV.2 !=290)) ||(oW.2 !=1)) ||(kX.2.2 !=0)) ||(!iT.2.1)) ||(!kW.1)) ||kV.1) ||kX.2.1)then false else((((((((gZ==2)&&(mv==0))&&(oU==1))&&(dK.kind==1))&&(dK.reach==0))&&(dK.hour==1))&&(mu==1))&&((kU.reach==0)&&((kU.hour==1)&&((kU.bl==12)&&(kU.wanted==12))))))
def tR:Prop:=((qL eG ([]) 2 3 0)/\((iQ eG ([]) 2 3 0 dK)/\((iQ eG ([]) 2 3 0 iR)/\((iQ eG ([]) 2 3 0 iS)/\((iQ eG ([]) 3 2 0 dK)/\((0<=0/\0< (b9.reaches.length:Int))/\((qL oX ([]) 2 3 0)/\(((((((((((iT.2.2 !=0) ||(kW.2 !=0)) ||(kV.2 !=0)) ||(oV.2 !=290)) ||(oW.2 !=1)) ||(kX.2.2 !=0)) ||(!iT.2.1)) ||(!kW.1)) ||kV.1) ||kX.2.1)=false->(jZ.length<=aI->(((gZ==2)=true->(0<=0/\0<gZ))/\((((gZ==2)&&(mv==0))=true->(0<=1/\1<gZ))/\((((((((gZ==2)&&(mv==0))&&(oU==1))&&(dK.kind==1))&&(dK.reach==0))&&(dK.hour==1))&&(mu==1))=true->(0<=0/\0<mu)))))))))))))
@[go_sem] def NB:m0:=(pE (.det (tR) (.v (.bool (rI)))))
def JZ:X1 prog 9 NB:=by
 have hG:=mG (cn [.st .al,.sl .M1,.o,.o,.o] JW (cn [.st .al,.sl .M1,.o,.o,.o,.st .refusal] xZ (cp IJ Y1))) Y1;refine fN hG f9 [.o] (am (λE=>?_));dsimp only[an]at E;unfold tR at E;try simp only[iR,iS,eG,iT,dK,jZ,nT,gZ,mu,oU,mv,kU,kV,oV,oW,kW,oX,kX]at E
 refine⟨nbl rfl,L0,ag _,?_⟩
 ·unfold ae f9;try unfold rI
  simp (maxSteps:=1000000) only[go_sem,iR,iS,eG,iT,dK,jZ,nT,gZ,mu,oU,mv,kU,kV,oV,oW,kW,oX,kX];all_goals exact cl
end Go.Sx
end
section
namespace Go.Sx
open Go.Proofs Go.Shelf Go.Sort
abbrev tU (f h:Int):Claim:= { right:=f,dd:=f,hour:=h,bl:=6,arM:=0}
abbrev x7:List Claim:=[tU 0 2,tU 1 2,tU 0 3,tU 1 3]
abbrev F29:B1:= { kind:=0,hour:=0,index:=0,bl:=0,limit:=0}
abbrev D29:ah:=eG
abbrev E29:ah:=oX
def aca {l m:List Int}(O:m.Perm l)(E:m.Pairwise (· <= ·)):yR l=m:=by
 unfold yR;refine apu (le:=(· <= ·)) (λa b _ _=>Int.le_antisymm) ?_ E ((apo _ _).trans O.symm);have:=apk (le:=λx y:Int=>decide (x<=y)) (λa b c h1 h2=>g6) (λa b=>by simp;omega) l;grind
theorem au4:aN D29 [] 2 3 0=(x7,0):=(T_ (F:=[{ W2:=tU 0 2,reach:= -1},{ W2:=tU 1 2,reach:= -1},{ W2:=tU 0 3,reach:= -1},{ W2:=tU 1 3,reach:= -1}]) kr kr kr).trans kr
theorem ak4:aN E29 [] 2 3 0=(x7,0):=(T_ (F:=[{ W2:=tU 0 2,reach:= -1},{ W2:=tU 1 2,reach:= -1},{ W2:=tU 0 3,reach:= -1},{ W2:=tU 1 3,reach:= -1}]) kr kr kr).trans kr
def ev0:bI D29 []=([],F29,0):=by
 have E:aq []=srt ar []:=by kernel_rfl
 rw[xF (m:=[]) lG (by decide) (by decide)]at E;have O:aX D29 []=(srt aA [],true,0):=by kernel_rfl
 rw[xF (m:=[]) xz (by decide) (by decide)]at O;exact zm (B:=[]) kr kr E kr O kr
def ev1:bI D29 [tU 0 2,tU 0 3]=([ft 1 0 6 false,ft 2 0 6 false,ft 2 0 6 true,ft 3 0 6 true],F29,0):=by
 have E:aq [tU 0 2,tU 0 3]=srt ar [ft 2 0 6 true,ft 3 0 6 true]:=by kernel_rfl
 rw[xF (m:=[ft 2 0 6 true,ft 3 0 6 true]) lG (by decide) (by decide)]at E;have O:aX D29 [ft 2 0 6 true,ft 3 0 6 true]=(srt aA [ft 2 0 6 true,ft 3 0 6 true,ft 1 0 6 false,ft 2 0 6 false],true,0):=by kernel_rfl
 rw[xF (m:=[ft 1 0 6 false,ft 2 0 6 false,ft 2 0 6 true,ft 3 0 6 true]) xz (by decide) (by decide)]at O;exact zm (B:=[]) kr kr E kr O kr
def ev2:bI D29 [tU 1 2,tU 1 3]=([ft 1 0 6 false,ft 2 0 6 false,ft 2 1 6 true,ft 3 1 6 true],F29,0):=by
 have E:aq [tU 1 2,tU 1 3]=srt ar [ft 2 1 6 true,ft 3 1 6 true]:=by kernel_rfl
 rw[xF (m:=[ft 2 1 6 true,ft 3 1 6 true]) lG (by decide) (by decide)]at E;have O:aX D29 [ft 2 1 6 true,ft 3 1 6 true]=(srt aA [ft 2 1 6 true,ft 3 1 6 true,ft 1 0 6 false,ft 2 0 6 false],true,0):=by kernel_rfl
 rw[xF (m:=[ft 1 0 6 false,ft 2 0 6 false,ft 2 1 6 true,ft 3 1 6 true]) xz (by decide) (by decide)]at O;exact zm (B:=[]) kr kr E kr O kr
def adx:aq x7=[ft 2 0 6 true,ft 2 1 6 true,ft 3 0 6 true,ft 3 1 6 true]:=by
 have E:aq x7=srt ar [ft 2 0 6 true,ft 2 1 6 true,ft 3 0 6 true,ft 3 1 6 true]:=by kernel_rfl
 rwa[xF (m:=[ft 2 0 6 true,ft 2 1 6 true,ft 3 0 6 true,ft 3 1 6 true]) lG (by decide) (by decide)]at E
abbrev SD:List Order:=[ft 1 0 12 false,ft 2 0 12 false,ft 2 0 6 true,ft 2 1 6 true,ft 3 0 6 true,ft 3 1 6 true]
theorem ev3:bI D29 x7=([],({ kind:=1,hour:=1,index:=0,bl:=12,limit:=10}:B1),0):=by
 have E:aX D29 [ft 2 0 6 true,ft 2 1 6 true,ft 3 0 6 true,ft 3 1 6 true]=(srt aA [ft 2 0 6 true,ft 2 1 6 true,ft 3 0 6 true,ft 3 1 6 true,ft 1 0 12 false,ft 2 0 12 false],true,0):=by kernel_rfl
 rw[xF (m:=SD) xz (by decide) (by decide)]at E;exact zm (B:=[{ kind:=1,hour:=1,index:=0,bl:=12,limit:=10},{ kind:=1,hour:=2,index:=0,bl:=12,limit:=10}]) kr kr adx kr E kr
theorem ev4:bI E29 x7=(SD,F29,0):=by
 have E:aX E29 [ft 2 0 6 true,ft 2 1 6 true,ft 3 0 6 true,ft 3 1 6 true]=(srt aA [ft 2 0 6 true,ft 2 1 6 true,ft 3 0 6 true,ft 3 1 6 true,ft 1 0 12 false,ft 2 0 12 false],true,0):=by kernel_rfl
 rw[xF (m:=SD) xz (by decide) (by decide)]at E;exact zm (B:=[]) kr kr adx kr E kr
theorem ZH (d:ah):ay { d:=d,c:=x7} =[0,1]:=by
 have e:ay { d:=d,c:=x7} =cpI (yR [0,1,0,1]):=by kernel_rfl
 rw[e,aca (m:=[0,0,1,1]) (by decide) (by decide)];decide
theorem Qr:aK D29 [] 2 3 0=({ d:=D29,c:=x7},0):=by
 grind [aK,cj,au4,ev3,ZH]
theorem ak5:aK E29 [] 2 3 0=({ d:=E29,c:=x7},0):=by
 grind [aK,cj,ak4,ev4,ZH]
abbrev ZI:List Y2:=[{ reach:=0,hour:=1,bl:=12,wanted:=12},{ reach:=0,hour:=2,bl:=12,wanted:=12}]
abbrev NC:P1:= { d:=D29,c:=x7}
def ak6:ed NC=ZI:=by kernel_rfl
abbrev f29:B1:= { kind:=1,hour:=1,index:=0,bl:=12,limit:=10}
def ak7:gD NC ZI f29=[{ reach:=0,hour:=1,bl:=12,wanted:=12}]:=by
 have e:gD NC ZI f29=srt ca [{ reach:=0,hour:=1,bl:=12,wanted:=12}]:=by kernel_rfl
 simp_all [srt]
abbrev W29 (z:List Int):ByteArray×Int×Int×Int×List Reach×List asR×List atj×List ar4×List atl×List atm×List Claim×List Int:=(D29.name,D29.hours,D29.arJ.cap,D29.arJ.start,D29.reaches,D29.zs,D29.arU,D29.bh,D29.arL,D29.asl,x7,z)
def agj (z:List Int)(c:List Claim)(h:dw NC z= { d:=D29,c:=c})(h2:(bI D29 c).2=(F29,0)):d9 D29 [] 2 3 0 z ()=.inr ():=by
 grind [d9,aT,Qr]
def ak8:d9 D29 [] 2 3 0 [0,1] ()=.inl (W29 [0,1]):=by
 have h:dw NC [0,1]=NC:=by kernel_rfl
 grind [d9,aT,Qr,ev3]
def ak9:cG (d9 D29 [] 2 3 0) (eX (ay NC)) ()=.inl (W29 [0,1]):=by
 have e:eX [0,1]=[[],[0],[1],[0,1]]:=by kernel_rfl
 rw[ZH,e];simp only[cG,agj [] [] kr (by rw[ev0]),agj [0] [tU 0 2,tU 0 3] kr (by rw[ev1]),agj [1] [tU 1 2,tU 1 3] kr (by rw[ev2]),ak8]
abbrev r29:arO:= { bh:=[0,1],kind:=1,reach:=0,hour:=1,arz:=[{ reach:=0,hour:=1,bl:=12,wanted:=12}]}
def ak_:gY D29 [] 2 3 0=(r29,true,0):=by
 unfold gY aT cj;simp only[Qr,ak9,ev3];show(({ bh:=[0,1],kind:=1,reach:=0,hour:=1,arz:=gD NC (ed NC) f29}:arO),true,(0:Int))=_;rw[ak6,ak7]
def agk:gY E29 [] 2 3 0=(({ bh:=[],kind:=0,reach:=0,hour:=0,arz:=[]}:arO),false,0):=by
 grind [gY,aT,ak5,ev4]
def VK:bS D29 [] 2 3 0 r29=(true,0):=by
 unfold bS;have:aj (eU D29 [] 2 3 0 r29) r29.bh.length 0 ()=.inr ():=by
  show aj (eU D29 [] 2 3 0 r29) 2 0 ()=.inr ();simp only[aj,eU,Qr,ZH];rfl
 have h2:aj (jo D29 [] 2 3 0 r29) 4 0 ()=.inl true:=by
  rfl
 rw[this,h2,Qr];rfl
def VL:bS D29 [] 2 3 0 iR=(false,0):=by
 unfold bS;have:aj (eU D29 [] 2 3 0 iR) iR.bh.length 0 ()=.inr ():=by
  rfl
 have h2:aj (jo D29 [] 2 3 0 iR) 4 0 ()=.inr ():=by
  rfl
 grind [Qr]
def VM:bS D29 [] 2 3 0 iS=(false,290):=by
 unfold bS;have:aj (eU D29 [] 2 3 0 iS) iS.bh.length 0 ()=.inl ():=by
  show aj (eU D29 [] 2 3 0 iS) 1 0 ()=.inl ();simp only[aj,eU,Qr,ZH];rfl
 grind [Qr]
def VN (r:arO):(bS D29 [] 3 2 0 r).2=1:=by
 rfl
def ZJ:rI=true:=by
 unfold rI kX kU mv oU mu gZ nT jZ kW oW oV kV dK iT;simp_all [ak_,agk,VK,VN,VM,VL]
end Go.Sx
end
section
namespace Go.Sx
open Go.Proofs Tryz
open IntKind (i64)
structure Lsr (d:ah)(T:asW)(R:List Reach):Prop where
 d0:av d=0
 x0:av { d with arJ:=T,reaches:=R} =0
 len:R.length=d.reaches.length
 at_:∀ i,∃ c b,R.getD i default= { d.reaches.getD i default with cap:=c,ar6:=b}/\c<=(d.reaches.getD i default).cap/\b<=(d.reaches.getD i default).ar6
 start:T.start<=d.arJ.start
section
variable {d:ah}{T:asW}{R:List Reach}(h:Lsr d T R)
include h
end
def Qs (c:List Claim)(E:Nat)(hc:c.length<=4096)(s:List Int)(X:s.length<=E*4096)(Y:E<256):okI (ic c E) (mN c E) c.length 0 s/\∀ r,aj (ic c E) c.length 0 s=.inr r->r.length<=(E+1)*4096:=by
 have O:∀ j (t:List Int),t.length<=E*4096+j->∀ t',ic c E j t=.inr t'->t'.length<=E*4096+(j+1):=λj t V t' e=>by
  unfold ic at e;cases q:(((c.getD j (default:Claim)).right==(E:Int))&&(!(wP t (E:Int))))with
  |true=>rw[q]at e;cases e;rw[aoq];simp only[aon,aoI];omega|false=>rw[q]at e;cases e;omega
 constructor
 refine ij (λj t=>t.length<=E*4096+j) _ _ _ g5 λj t _ W V=>⟨λ_ _=>?_,O j t V⟩;rw[aoq];simp only[aon,aoI];unfold dT;omega;intro r hr;have:=il (λj t=>t.length<=E*4096+j) _ _ _ g5 (λj t _ W V=>O j t V) r hr;omega
def auP (d:ah)(c:List Claim)(hc:c.length<=4096)(hd:d.bh.length<=256):qN d c:=by
 refine ij (λj (t:List Int) =>t.length<=j*4096) _ _ _ (by simp) λj t _ O E=>⟨λ_=>(Qs c j hc t E g5).1,λt' e=>?_⟩;unfold pa at e;cases q:aj (ic c j) c.length 0 t with
 |inl x=>exact x.elim
 |inr r=>rw[q]at e;cases e;exact(Qs c j hc t E g5).2 _ q
def acb (d:ah)(l:List bn)(fr to k:Int):vK d l fr to k:=by
 intro _;refine⟨(agi d l fr to k).1,λh=>?_⟩;have e:nJ d l fr to k=aN d l fr to k:=(agi d l fr to k).2.trans (Ib d l fr to k).2.symm;rw[e]at h |-;refine auP _ _ (zl d l fr to k) ?_;have h:(lim (yh d l fr to k) (ofL d l k fr to)).2=0:=by rw[<-(Ib d l fr to k).2];simpa using h
 have E:yh d l fr to k=0:=by
  unfold lim at h;split at h
  assumption
  exact h
 have O:av d=0:=by
  have:=(zR E).1;unfold ba at this;cases q:(av d !=0)with
  |true=>rw[q]at this;exact this|false=>simpa using q
 have:=((sF d).1 O).1;omega
def bt {c X:Bool}(h:c=false->X=true):(bif c then true else X)=true:=by
 cases c with
 |true=>rfl|false=>exact h rfl
def FQ:∀ (n:Nat) (s l z:List Int),z∈chz n s l↔∃ y,y.Sublist l/\y.length=n/\z=s++y
 |0,s,l,z=>by
  rw[CE,ao6];exact⟨λh=>⟨[],List.nil_sublist _,rfl,g6⟩,λ⟨y,_,hy,e⟩ =>g6⟩
 |n+1,s,[],z=>by
  grind [chz]
 |n+1,s,x::l,z=>by
  simp only[chz];split
  exact⟨λh=>(by cases h),λ⟨y,h,hy,_⟩ =>by have:=h.length_le;simp only[aon]at this;omega⟩;rw[aoQ,FQ n,FQ (n+1)];constructor
  rintro (⟨y,h,hy,e⟩ | ⟨y,h,hy,e⟩);exact⟨x::y,h.cons_cons x,by rw[aon,hy],by rw[e,ao_];rfl⟩;exact⟨y,h.cons x,hy,e⟩;rintro⟨y,h,hy,e⟩;cases h with
  |cons _ h=>exact .inr ⟨y,h,hy,e⟩
  | @cons_cons E _ _ h=>exact .inl ⟨E,h,by simpa using hy,by rw[e,ao_];rfl⟩
def ZK {l z:List Int}:z∈CK l↔z.Sublist l:=by
 unfold CK;rw[apJ];constructor
 rintro⟨n,_,h⟩;obtain⟨y,h1,_,rfl⟩:=(FQ _ _ _ _).1 h;exact h1;exact λh=>⟨z.length,g6,(FQ _ _ _ _).2 ⟨z,h,rfl,rfl⟩⟩
def Ua {S:List Int}{j:Nat}(h:j<S.length)(E:Lib.keeps S.toArray j=true):S[j]∈cpI S:=by
 unfold cpI Lib.compact Lib.compactUpTo;exact apb.2 ⟨j,aqp.2 ⟨apN.2 h,E⟩,by simp[h]⟩
def ZL {S:List Int}:∀ (j:Nat) (h:j<S.length),S[j]∈cpI S
 |0,h=>Ua h (by rfl)
 |j+1,h=>by
  by_cases E:Lib.keeps S.toArray (j+1)=true
  exact Ua h E;have h2:j<S.length:=g5
  have e:S[j+1]=S[j]:=by
   grind [Lib.keeps]
  rw[e];exact ZL j h2
def SE (s:P1):ay s=cpI (yR (s.c.map λx=>x.right)):=by
 have key:∀ (L K:List Claim) (t:List Int),s.c=K++L->aj (fQ s) L.length K.length t=.inr (t++L.map λx=>x.right):=λL=>by
  induction L with
  |nil=>grind [aj]
  |cons x L E=>
   intro K t h;have g:s.c.getD K.length default=x:=by rw[h];simp
   rw[aon,aj];unfold fQ;simp only[g];have:=E (K++[x]) (t++[x.right]) g6;rw[aoq]at this;unfold fQ at this;grind
 have:=key s.c [] [] rfl;grind [ay]
def SF {s:P1}{x:Claim}(h:x∈s.c):x.right∈ay s:=by
 rw[SE];have:x.right∈yR (s.c.map λx=>x.right):=by unfold yR;exact List.mem_mergeSort.2 (apb.2 ⟨x,h,rfl⟩)
 obtain⟨j,E,e⟩:=ao0.1 this;rw[<-e];exact ZL j E
def Qt (n:Int)(l:List Int):eE l n=l.any λy=>n==y:=by
 unfold eE kz;rcases y5 (step:=lp l n) l (0:Int) (λy=>n==y) (λk _=>rfl)with⟨e,h⟩ | ⟨K,y,R,E,e,h,_⟩ <;>grind
def ZM (x:Claim)(l:List Int):bq x l= !l.any λy=>x.right==y:=by
 unfold bq;rw[Qt]
def ZN {d:ah}{c:List Claim}(h:(aT d c).2.1=true):(aT d c).2.2=0:=by
 simp_all [aT]
def IL {α ρ:Type}{step:α->Unit->ρ⊕Unit}(E:α->Bool)(f:α->ρ)(h:∀ z,step z ()=bif E z then .inl (f z)else .inr ()):∀ L,(∃ z∈L,E z=true)->∃ A z B,L=A++z::B/\(∀ y∈A,E y=false)/\E z=true/\cG step L ()=.inl (f z)
 | [],⟨z,O,_⟩ =>by cases O
 |x::L,⟨z,O,W⟩ =>by
  rw[cG,h];cases V:E x with
  |true=>exact⟨[],x,L,rfl,λy hy=>(by cases hy),V,rfl⟩
  |false=>
   obtain⟨A,w,B,e,h1,h2,X⟩:=IL E f h L ⟨z,by
    grind,W⟩
   grind
abbrev flt (c:List Claim)(z:List Int):List Claim:=c.filter λx=>!bq x z
abbrev acd (d:ah)(c:List Claim):Bool:=(aT d c).2.1
abbrev rts (d:ah)(c:List Claim):List Int:=ay { d:=d,c:=c}
def ace (d:ah)(c:List Claim):flt c (rts d c)=c:=by
 refine aqI.2 λx E=>?_;rw[ZM,Bool.not_not,apx];exact⟨x.right,SF (s:= { d:=d,c:=c}) E,by simp⟩
section
variable {d:ah}{l:List bn}{fr to k:Int}
def acf (E:Opn d l fr to k)(O:acd d (aN d l fr to k).1=false):∃ A z B,CK (rts d (aN d l fr to k).1)=A++z::B/\(∀ y∈A,acd d (flt (aN d l fr to k).1 y)=true)/\acd d (flt (aN d l fr to k).1 z)=false/\cG (d9 d l fr to k) (eX (rts d (aN d l fr to k).1)) ()=.inl (d.name,d.hours,d.arJ.cap,d.arJ.start,d.reaches,d.zs,d.arU,d.bh,d.arL,d.asl,flt (aN d l fr to k).1 z,z):=by
 have hc:=zl d l fr to k;have V:(rts d (aN d l fr to k).1).length<=10:=by have:=E.ten;grind
 obtain⟨A,z,B,h1,h2,X,W⟩:=IL (step:=d9 d l fr to k) (λz=>!acd d (flt (aN d l fr to k).1 z)) (λz=>(d.name,d.hours,d.arJ.cap,d.arJ.start,d.reaches,d.zs,d.arU,d.bh,d.arL,d.asl,flt (aN d l fr to k).1 z,z)) (λz=>by
  simp_all [d9,D4,xp]) (CK (rts d (aN d l fr to k).1)) ⟨rts d (aN d l fr to k).1,ZK.2 (List.Sublist.refl _),by rw[ace,O];rfl⟩
 rw[Nv (show(rts d (aN d l fr to k).1).length<=900 by omega)];grind
def ady (d:ah)(l:List bn)(fr to k:Int):qL d l fr to k:=by
 refine⟨adv d l fr to k,λh0=>?_⟩;have E:=(Nt d l fr to k).1 g6;have hc:=zl d l fr to k;have W:(ay { d:=d,c:=(aN d l fr to k).1}).length<=10:=by have:=E.ten;omega
 rw[D4 E];dsimp only;refine⟨No _ _,λY=>⟨Bi _ hc,agh g5,FE _ _ λz V _=>?_,?_⟩⟩;rw[Nv g5]at V;have:=VH V;unfold mg;rw[D4 E];exact⟨(xp _ _ hc).1,No _ _,λ_=>by unfold dT;omega⟩;obtain⟨A,z,B,_,_,_,e⟩:=acf E Y;refine⟨λw hw=>g6,λw hw=>?_⟩;rw[e]at hw;cases hw;have O:=ZC (s:= { d:=d,c:=flt (aN d l fr to k).1 z}) (Iv E.ask.chk) E.ask.wide λx X=>IG E.ask x (aqp.1 X).1;exact⟨Ix _ _,O.1,SA (s:= { d:=d,c:=flt (aN d l fr to k).1 z}) O.2⟩
end
def ZO:tR:=by
 refine⟨ady _ _ _ _ _,CJ _ _ _ _ _ _,CJ _ _ _ _ _ _,CJ _ _ _ _ _ _,CJ _ _ _ _ _ _,⟨by decide,by decide⟩,ady _ _ _ _ _,λ_ _=>⟨λh=>?_,λh=>?_,λh=>?_⟩⟩;all_goals
  simp only[aoj,beq_iff_eq]at h;omega
section
variable {d:ah}{c:List Claim}{l:List Order}
structure Srv (d:ah)(c:List Claim)(l:List Order):Prop where
 kp:atI d l
 wide:(d.reaches.length:Int)*d.hours<=1024
 lim:Lim d l
 met:∀ f h:Int,tQ c f h<=b7 (Cv f h) l
variable {x:Order}
theorem Qu{f h:Int}{y:Order}(E:Cv f h x=true)(hy:Cv f h y=true):K x y:=by
 unfold Cv at E hy;simp only[aoj,beq_iff_eq]at E hy;exact⟨g5,g5,g6⟩
theorem VO(h:x.S2=true):Cv x.index x.hour x=true:=by grind [Cv]
def acg(O:l.Pairwise λx y=>¬K x y)(E:x∈l)(h:x.S2=true):b7 (Cv x.index x.hour) l=x.bl:=
 vG O (λ_ _ h1 h2=>Qu h1 h2) E (VO h)
theorem ZP(O:asI d c){E:List Order}:x∈srt aA (aq c++E)↔x∈aq c\/x∈E:=by
 grind [zb]
theorem ZQ (h:Made d c l):Srv d c l:=by
 obtain⟨V,⟨gs,W,rfl⟩,Y⟩:=h;have hN:=V.nar;have O:=V.outs;refine⟨Sq hN.good O.out W,V.wide,Y,λf t=>?_⟩;by_cases X:tQ c f t=0
 rw[X];exact Nc λx E=>by have:=(W.good.one x E).asS;omega
 obtain⟨x,E,rfl,rfl⟩:=O.all f t X;rw[acg W.good.keys ((ZP V).2 (.inl E)) (O.out x E),(O.lit x E).1];omega
theorem Srv.dom (h:Srv d c l)(hc:bX d c=0):∀ x∈aq c,∃ z∈l,K z x/\x.bl<=z.bl:=λx W=>by
 have O:=outs (FP hc);have h1:=O.lit x W;have h2:=h.met x.index x.hour;obtain⟨z,V,E⟩:=Na (p:=Cv x.index x.hour) (l:=l) g5;have e:b7 (Cv x.index x.hour) l=z.bl:=vG h.kp.good.keys (λ_ _ h1 h2=>Qu h1 h2) V E;refine⟨z,V,?_,g5⟩;unfold Cv at E;simp only[aoj,beq_iff_eq]at E;exact⟨E.2,E.1.2,by rw[E.1.1,O.out x W]⟩
theorem ND (r a b:Int)(x y:Order)(E:K x y):bO r a b x=bO r a b y:=by
 unfold bO;rw[E.1,E.2.1,E.2.2]
end
def toG (y:Y2):Order:= { hour:=y.hour,index:=y.reach,bl:=y.bl,S2:=false}
def toC (a:Claim):Order:= { hour:=a.hour,index:=a.dd,bl:=a.bl,S2:=true}
abbrev UP:=List ((Int×Int)×Bool)
theorem Ub {k v:Tag}(l:List (k.T×v.T))(x z:k.T)(y:v.T):aC k v (dF k v l x y) z=if z=x then y else aC k v l z:=by
 grind [aC,dF,wy]
section
variable {s:P1}{t:List Y2×Mp×UP×Int}{k:Nat}{S:List Y2}{m:Mp}{u:UP}
end
section
variable {d:ah}{s1:List B1×WM×UM×Int}{k:Nat}{u:UM}{F:List B1}{w:WM}
end
variable {d:ah}{c:List Claim}{S:List Y2}
def ZR{x:Y2}(a b:Int):drw d (c.map toC++(S++[x]).map toG) a b=drw d (c.map toC++S.map toG) a b+(if a=(rch d x.reach).up/\b=x.hour then x.bl else 0):=by
 rw[apT,<-ao_,vF,aoO,aoZ,FL];grind [jv,toG]
def ach(hc:∀ a∈c,1<=a.bl/\a.bl<=1073741824)(hn:c.length<=4096)(V:∀ x∈S,1<=x.bl/\x.bl<=1073741824)(W:S.length<=1024)(a b:Int):0<=drw d (c.map toC++S.map toG) a b/\drw d (c.map toC++S.map toG) a b<=5497558138880:=by
 have:=wJ (d:=d) (l:=c.map toC++S.map toG) (λx O=>by
  rcases aoQ.1 O with q|q;obtain⟨z,E,rfl⟩:=apb.1 q;exact hc z E;obtain⟨z,E,rfl⟩:=apb.1 q;exact V z E) a b
 grind
section
variable {d:ah}{c:List Claim}{r h:Int}{N:Nat}{S:List Y2}{m:Mp}{u:UP}{U:UM}{F:List B1}{w:WM}
end
section
variable {d:ah}{c:List Claim}{out:List Order}(hr:arW d)(hc:∀ a∈c,1<=a.bl/\a.bl<=1073741824)(hn:c.length<=4096)
include hr hc hn
end
theorem Lj {p:Order->Bool}{g:Order->Int}:∀ {l:List Order},(∀ x∈l,p x=true->x.bl=g x)->b7 p l=(l.map λx=>if p x=true then g x else 0).sum
 | [],_=>rfl
 |x::l,h=>by
  have E:=Lj (p:=p) (g:=g) (l:=l) λy hy=>h y (aor _ hy);grind [b7]
theorem Qv (g k:Order->Int):∀ l:List Order,(l.map λx=>g x+k x).sum=(l.map g).sum+(l.map k).sum
 | [] =>rfl
 |x::l=>by simp only[aoO,arl,Qv g k l];omega
theorem D5 {g:Order->Int}:∀ {l:List Order},(∀ x∈l,g x=0)->(l.map g).sum=0
 | [],_=>rfl
 |x::l,h=>by simp only[aoO,arl,D5 λy hy=>h y (aor _ hy),h x aow];rfl
theorem Qw {g:Order->Int}{z:Order}:∀ {l:List Order},l.Pairwise (λx y=>¬K x y)->z∈l->(∀ x∈l,¬K x z->g x=0)->(l.map g).sum=g z
 |x::l,E,hz,h=>by
  obtain⟨h1,h2⟩:=apc.1 E;simp only[aoO,arl];rcases aoD.1 hz with rfl|hz;rw[D5 λy hy=>h y (aor _ hy) λq=>h1 y hy q.symm];omega;rw[Qw h2 hz λy hy=>h y (aor _ hy),h x aow (h1 z hz)];omega
theorem IM {p:Q1}:∀ {c:List Claim},(∀ a∈c,1<=a.bl)->0<=eV p c
 | [],_=>ao7 _
 |a::c,h=>by
  have:=IM (p:=p) λb E=>h b (aor _ E);grind [eV]
theorem IN {y:Claim}:∀ {c:List Claim},(∀ a∈c,1<=a.bl)->y∈c->1<=eV (nN y) c
 |a::c,h,hy=>by
  have V:0<=eV (nN y) c:=IM λa O=>h a (aor _ O);have h1:=h a aow;unfold eV;rcases aoD.1 hy with rfl|hy;grind
  have:=IN (λb E=>h b (aor _ E)) hy;omega
section
variable {d:ah}{c:List Claim}
theorem IP {r h:Int}{x:Order}(E:x.S2=true):jv d r h x=((x.hour==h)&&((d.zs.getD x.index.toNat default).reach==r)):=by
 grind [jv]
theorem VP {o:List Order}(V:aua c o)(hl:∀ a∈c,1<=a.bl)(hk:o.Pairwise λx y=>¬K x y)(r h:Int):drw d o r h=drw d (c.map toC) r h:=by
 unfold drw;rw[Lj λx Y _=>(V.lit x Y).1];have key:∀ E:List Claim,(∀ a∈E,∃ z∈o,z.index=a.dd/\z.hour=a.hour)->(o.map λx=>if jv d r h x=true then tQ E x.index x.hour else 0).sum=b7 (jv d r h) (E.map toC):=λE=>by
  induction E with
  |nil=>intro _;exact D5 λx _=>by split <;>rfl
  |cons a E ih=>
   intro O;have e1:∀ x:Order,(if jv d r h x=true then tQ (a::E) x.index x.hour else 0)=(if jv d r h x=true then(if oP x.index x.hour=nN a then a.bl else 0)else 0)+(if jv d r h x=true then tQ E x.index x.hour else 0):=λx=>by
    split
    rfl;rfl
   rw[show(λx:Order=>if jv d r h x=true then tQ (a::E) x.index x.hour else 0)=λx=>(if jv d r h x=true then(if oP x.index x.hour=nN a then a.bl else 0)else 0)+(if jv d r h x=true then tQ E x.index x.hour else 0)from funext e1,Qv,ih λb hb=>O b (aor _ hb)];obtain⟨z,W,z1,X⟩:=O a aow;rw[Qw hk W λx Y hn=>by
    split
    rw[if_neg λq=>hn ?_];unfold oP nN at q;simp only[Q1.mk.injEq]at q;exact⟨g5,g5,by rw[V.out x Y,V.out z W]⟩;rfl]
   have e2:oP a.dd a.hour=nN a:=rfl;have e3:jv d r h (toC a)=jv d r h z:=by rw[IP (V.out z W),IP rfl,z1,X];rfl
   rw[z1,X,if_pos e2,aoO,b7,e3];cases jv d r h z <;>rfl
 refine key c λa ha=>?_;have:=IN hl ha;obtain⟨z,W,z1,X⟩:=V.all a.dd a.hour (by
  show eV (oP a.dd a.hour) c≠0;have e:oP a.dd a.hour=nN a:=rfl;rw[e];omega)
 grind
theorem VQ (hc:∀ a∈c,1<=a.bl/\a.bl<=1073741824)(hn:c.length<=4096)(a b:Int):aC .arQ .int (bP { d:=d,c:=c}) (a,b)=drw d (c.map toC) a b:=by
 obtain⟨m,e,h⟩:=k_ (step:=jD { d:=d,c:=c}) (λj m=>∀ a b,aC .arQ .int m (a,b)=drw d ((c.take j).map toC) a b) c.length 0 [] (λa b=>rfl) (λj m _ E h=>by
  rw[aou]at E;refine⟨_,rfl,λa b=>?_⟩;have g:c.getD j default=c[j]:=ik c default E;have O:=wJ (d:=d) (l:=(c.take j).map toC) (λx X=>by
   obtain⟨z,W,rfl⟩:=apb.1 X;exact hc z (apm W))
  have Y:=hc c[j] (apg E);rw[apd,aph]at O;have V:=O (d.zs.getD c[j].dd.toNat default).reach c[j].hour;have hm:(((min j c.length:Nat)):Int)<=4096:=g5
  simp only[g];rw[Ub (k:=.arQ),aoX E,apT,vF,aoO,aoZ,FL,IP rfl,h,h,aw g5 g5];show _=_+(bif(c[j].hour==b)&&((d.zs.getD c[j].dd.toNat default).reach==a)then c[j].bl else 0);grind)
 simp_all [bP]
def ZS (h:bX d c=0):(∀ a∈c,1<=a.bl/\a.bl<=1073741824)/\c.length<=4096:=
 ⟨λa E=>Bb (((jW d c).1 h).2.2.1 a E),((jW d c).1 h).2.1⟩
end

structure MP (d:ah)(c:List Claim)(P:List Y2)(x:Y2):Prop where
 i0:0<=x.reach
 i1:x.reach< (d.reaches.length:Int)
 h0:0<=x.hour
 h1:x.hour<d.hours
 l0:1<=x.bl
 l1:x.bl<=1073741824
 w1:1<=x.wanted
 w:x.wanted=drw d (c.map toC++P.map toG) x.reach (x.hour+(rch d x.reach).delay)
 s:x.bl=(rch d x.reach).arR\/wst (rch d x.reach) (x.bl - 1) <x.wanted
section
variable {d:ah}{c:List Claim}{P:List Y2}
theorem aci (r:arO)(fr to:Int)(O:∀ x∈r.arz,1<=x.bl/\x.bl<=1073741824)(hn:r.arz.length<=1024):jY fr to r=b7 (bO r.reach fr to) (r.arz.map toG):=by
 obtain⟨v,e,h⟩:=k_ (step:=mL fr to r) (λj v=>v=b7 (bO r.reach fr to) ((r.arz.take j).map toG)) r.arz.length 0 0 rfl (λj v _ E h=>by
  rw[aou]at E;have g:r.arz.getD j default=r.arz[j]:=ik _ default E;have V:=O _ (apg E);have W:=A8 (p:=bO r.reach fr to) (l:=(r.arz.take j).map toG) (λx V=>by
   obtain⟨z,X,rfl⟩:=apb.1 V;exact O z (apm X))
  rw[<-h,apd,aph]at W;have Y:(((min j r.arz.length:Nat)):Int)<=1024:=g5
  have ep:((r.arz[j].reach==r.reach)&&di r.arz[j].hour fr to)=bO r.reach fr to (toG r.arz[j]):=by
   unfold bO toG di;grind
  unfold mL;rw[g,ep,aoX E,apT,Cr,<-h];simp only[aoO,aoZ,b7];cases bO r.reach fr to (toG r.arz[j])with
  |true=>
   grind [aw,toG]
  |false=>grind)
 simp_all [jY]
end
theorem EF (p:Q1)(q:Claim->Bool):∀ {c:List Claim},(∀ a∈c,1<=a.bl)->eV p (c.filter q)<=eV p c
 | [],_=>ao7 _
 |a::c,h=>by
  have O:=EF p q (c:=c) λb E=>h b (aor _ E);grind [eV]
theorem EG {d:ah}{c:List Claim}(h:asI d c)(q:Claim->Bool):asI d (c.filter q):=by
 obtain⟨h1,h2,X,V⟩:=(jW d c).1 h.chk;have O:bX d (c.filter q)=0:=(jW d _).2 ⟨h1,aoA (apa _ _) h2,λa E=>X a (aqp.1 E).1,V.filter _⟩;have W:=(ZS h.chk).1;refine⟨O,h.wide,λx Y=>?_⟩;obtain⟨e,e1⟩:=(outs (FP O)).lit x Y;have hle:tQ (c.filter q) x.index x.hour<=tQ c x.index x.hour:=EF _ q λa E=>(W a E).1;obtain⟨y,hy,e2,e3⟩:=h.outs.all x.index x.hour g5;have:=(h.outs.lit y hy).1;have:=h.lit y hy;grind
section
variable {d:ah}{c:List Claim}{S P:List Y2}{f:B1}
end
section
variable {d:ah}{l:List bn}{fr to k:Int}
theorem VR (E:Opn d l fr to k)(h:rH d l fr to k=true):(aN d l fr to k).1.length<=60:=by
 have e:nJ d l fr to k=aN d l fr to k:=(agi d l fr to k).2.trans (Ib d l fr to k).2.symm;unfold rH at h;rw[e,E.err]at h;grind
end
def fe (t:C1)(a b:Int):Int:=(gS (t.d.reaches.getD (Int.toNat a) default) (aC .W1 .int t.bl ({ hour:=(i64.wrap (b - (t.d.reaches.getD (Int.toNat a) default).delay)),index:=a,S2:=false}:Q1))).1
def jg (t:C1)(a b:Int):Prop:=((0<=a/\a< (t.d.reaches.length:Int))/\(0<=a/\a< (t.d.reaches.length:Int)))
@[go_sem] def wQ:m0:=(pD .A1 λt=>(pI λa=>(pI λb=>(pE (.det (jg t a b) (.i (fe t a b)))))))
theorem vU:X1 prog 180 wQ:=by
 have hG:=mG (cp tj Y1) Y1;refine fN hG f180 [.o] (ax λt=>(aG λreach=>(aG λhour=>(am (λE=>?_)))));dsimp only[an]at E;unfold jg at E;refine⟨nbl rfl,L0,ag _,?_⟩;unfold ae f180;try unfold fe
 exact zq2
@[go_sem] def aF (a:ah)(c:Nat)(b:List (List Int)×List (List Int)):Empty⊕(List (List Int)×List (List Int)):=.inr ((b.1++[(List.replicate (Int.toNat (i64.wrap (a.hours+1))) (0:Int))]),(b.2++[(List.replicate (Int.toNat a.hours) (0:Int))]))
def kJ (a:ah)(e:Nat)(c:List (List Int)×List (List Int)):Prop:=letI b:=i64.wrap (a.hours+1);letI d:=c.1++[(List.replicate (Int.toNat b) (0:Int))];((b=b/\0<=b/\b*((8:Nat):Int)<=((dT:Nat):Int))/\(b<=((aI:Nat):Int)->((d.length*24<=dT)/\(d.length<=aI->((a.hours=a.hours/\0<=a.hours/\a.hours*((8:Nat):Int)<=((dT:Nat):Int))/\(a.hours<=((aI:Nat):Int)->((c.2++[(List.replicate (Int.toNat a.hours) (0:Int))]).length*24<=dT)))))))
@[go_sem] def bA (f:ah)(n:List Order)(o:Nat)(a:List (Q1×Int)×List (List Int)×List (List Int)):Empty⊕(List (Q1×Int)×List (List Int)×List (List Int)):=letI b:=n.getD o default;letI c:=dF .W1 .int a.1 ({ hour:=b.hour,index:=b.index,S2:=b.S2}:Q1) (b.bl);letI d:=Int.toNat (b.index);letI g:=a.2.2.set d ((a.2.2.getD d []).set (Int.toNat (i64.wrap (b.hour+1))) b.bl);letI e:=Int.toNat (b.hour);letI h:=f.reaches.getD d default;letI i:=Int.toNat (h.up);letI j:=f.zs.getD d default;letI k:=Int.toNat (j.reach);letI l:=a.2.1.getD k [];letI m:=a.2.1.getD i [];(bif b.S2 then(bif(decide (j.reach>=0))then .inr (c,(a.2.1.set k (l.set e (i64.wrap ((l.getD e 0)+b.bl)))),a.2.2)else .inr (c,a.2.1,a.2.2))else(bif(decide (h.up>=0))then .inr (c,(a.2.1.set i (m.set e (i64.wrap ((m.getD e 0)+b.bl)))),g)else .inr (c,a.2.1,g)))
def kK (c:ah)(k:List Order)(l:Nat)(b:List (Q1×Int)×List (List Int)×List (List Int)):Prop:=letI a:=k.getD l default;letI f:=Int.toNat (a.index);letI d:=c.reaches.getD f default;letI g:=0<=a.hour/\a.hour< ((b.2.1.getD (Int.toNat (d.up)) []).length:Int);letI e:=c.zs.getD f default;letI h:=0<=a.hour/\a.hour< ((b.2.1.getD (Int.toNat (e.reach)) []).length:Int);letI i:=i64.wrap (a.hour+1);letI j:=(b.2.1.length:Int);((a.S2=true->((0<=a.index/\a.index< (c.zs.length:Int))/\((decide (e.reach>=0))=true->((0<=e.reach/\e.reach<j)/\(h/\h)))))/\(a.S2=false->((0<=a.index/\a.index< (c.reaches.length:Int))/\((0<=a.index/\a.index< (b.2.2.length:Int))/\((0<=i/\i< ((b.2.2.getD f []).length:Int))/\((decide (d.up>=0))=true->((0<=d.up/\d.up<j)/\(g/\g))))))))
@[go_sem] def jp (d:ah)(a c:Nat)(b:List (List Int)):Empty⊕(List (List Int)):=.inr (b.set a ((b.getD a []).set (Int.toNat (i64.wrap ((c:Int)+1))) (i64.wrap (((b.getD a []).getD (Int.toNat (i64.wrap ((c:Int)+1))) 0)+((b.getD a []).getD c 0)))))
def kL (h:ah)(e f:Nat)(g:List (List Int)):Prop:=letI b:=((g.getD e []).length:Int);letI a:=(f:Int);letI c:=i64.wrap (a+1);letI d:=0<=c/\c<b;(d/\((0<=a/\a<b)/\d))
@[go_sem] def ig (a:ah)(e:List (Q1×Int)×List (List Int)×List (List Int))(b:Nat)(c:List (List Int)):Empty⊕(List (List Int)):=(match aj (jp a b) (Int.toNat a.hours) 0 c with| .inl x=>x.elim| .inr d=>.inr d)
def kM (a:ah)(d:List (Q1×Int)×List (List Int)×List (List Int))(b:Nat)(c:List (List Int)):Prop:=((0<=(b:Int)/\(b:Int) < (c.length:Int))/\((a.hours<9223372036854775808)/\okI (jp a b) (kL a b) (Int.toNat a.hours) 0 c))
def az (a:ah)(b:List Order):C1×Int:=(bif((decide ((i64.wrap ((a.reaches.length:Int)*a.hours)) > 1024)) ||(decide ((b.length:Int) > 4096)))then(({ d:=({ name:=(ByteArray.mk #[]),hours:=0,arJ:=({ cap:=0,start:=0}:asW),reaches:=[],zs:=[],arU:=[],bh:=[],arL:=[],asl:=[]}:ah),l:=[],bl:=[],ass:=[],drawn:=[]}:C1),2)else(bif((dp a b) !=0)then(({ d:=({ name:=(ByteArray.mk #[]),hours:=0,arJ:=({ cap:=0,start:=0}:asW),reaches:=[],zs:=[],arU:=[],bh:=[],arL:=[],asl:=[]}:ah),l:=[],bl:=[],ass:=[],drawn:=[]}:C1),280)else(match aj (aF a) a.reaches.length 0 ([],[])with| .inl x=>x.elim| .inr e=>(match aj (bA a b) b.length 0 ([],e.2,e.1)with| .inl x=>x.elim| .inr c=>(match aj (ig a c) c.2.2.length 0 c.2.2 with| .inl x=>x.elim| .inr f=>(({ d:=a,l:=b,bl:=c.1,ass:=f,drawn:=c.2.1}:C1),0))))))
def qO (a:ah)(b:List Order):Prop:=letI c:=bA a b;letI d:=aF a;(a.reaches.length<=aI->(((decide ((i64.wrap ((a.reaches.length:Int)*a.hours)) > 1024)) ||(decide ((b.length:Int) > 4096)))=false->((mb a b)/\(((dp a b) !=0)=false->(a.reaches.length<=aI->(okI d (kJ a) a.reaches.length 0 ([],[])/\(∀ l5,aj d a.reaches.length 0 ([],[])=.inr l5->(b.length<=aI->(okI c (kK a b) b.length 0 ([],l5.2,l5.1)/\(∀ s_1,aj c b.length 0 ([],l5.2,l5.1)=.inr s_1->(s_1.2.2.length<=aI->okI (ig a s_1) (kM a s_1) s_1.2.2.length 0 s_1.2.2)))))))))))
@[go_sem] def IQ:m0:=(pD .al λa=>(pR .order λb=>(pE (.det (qO a b) (.tup [.agg (cellsOf .A1 ((az a b).1)),.i ((az a b).2)])))))
theorem Fq:X1 prog 118 IQ:=by
 have hG:=mG (cn [.st .al,.sl .order] wI Y1) Y1;refine fN hG f118 [.st .A1,.o] (ax λa0=>(bG λa1=>(am (λhp=>?_))));dsimp only[an]at hp;unfold qO at hp;refine⟨nbl rfl,(λid st=>bif Nat.beq id 0 then some (LCR (ρ:=Empty) (σ:=(List (List Int)×List (List Int))) 3 [.cell 1 12 (.ar2 .int ([])),.cell 1 13 (.ar2 .int ([]))] [0,1,2,3,4] (λk_0 W=>⟨[(1,.rs .order a1),(2,.ptr 0 0),(4,.ptr 1 0),(36,.i (a0.reaches.length:Int)),(37,.i k_0)],[.cells (cellsOf .al a0),.cells [.v (.string a0.name),.i a0.hours,.i a0.arJ.cap,.i a0.arJ.start,.rs .reach a0.reaches,.rs .dd a0.zs,.rs .asn a0.arU,.rs .right a0.bh,.rs .asy a0.arL,.rs .asz a0.asl,.rs .order a1,.os 2,.os 3,.os 4],.mp .W1 .int ([]) none,.ar2 .int W.1,.ar2 .int W.2]⟩) (aF a0) (kJ a0) a0.reaches.length ([],[]) (a0.reaches.length<=aI) ((·.elim)) ((·.elim)) st)else bif Nat.beq id 2 then some (LCR (ρ:=Empty) (σ:=(List (Q1×Int)×List (List Int)×List (List Int))) 5 [] [0,1,2,3,4] (λk_1 O=>⟨[(2,.ptr 0 0),(4,.ptr 1 0),(57,.rs .order a1),(58,.i (a1.length:Int)),(59,.i k_1)],[.cells (cellsOf .al a0),.cells [.v (.string a0.name),.i a0.hours,.i a0.arJ.cap,.i a0.arJ.start,.rs .reach a0.reaches,.rs .dd a0.zs,.rs .asn a0.arU,.rs .right a0.bh,.rs .asy a0.arL,.rs .asz a0.asl,.rs .order a1,.os 2,.os 3,.os 4],.mp .W1 .int O.1 none,.ar2 .int O.2.2,.ar2 .int O.2.1]⟩) (bA a0 a1) (kK a0 a1) a1.length ([],(bp (aj (aF a0) a0.reaches.length 0 ([],[]))).2,(bp (aj (aF a0) a0.reaches.length 0 ([],[]))).1) (a1.length<=aI) ((·.elim)) ((·.elim)) st)else bif Nat.beq id 4 then some (LCR (ρ:=Empty) (σ:=(List (List Int))) 5 [] [0,1,2,3,4] (λE V=>⟨[(2,.ptr 0 0),(4,.ptr 1 0),(119,.os 3),(120,.i ((bp (aj (bA a0 a1) a1.length 0 ([],(bp (aj (aF a0) a0.reaches.length 0 ([],[]))).2,(bp (aj (aF a0) a0.reaches.length 0 ([],[]))).1))).2.2.length:Int)),(121,.i E)],[.cells (cellsOf .al a0),.cells [.v (.string a0.name),.i a0.hours,.i a0.arJ.cap,.i a0.arJ.start,.rs .reach a0.reaches,.rs .dd a0.zs,.rs .asn a0.arU,.rs .right a0.bh,.rs .asy a0.arL,.rs .asz a0.asl,.rs .order a1,.os 2,.os 3,.os 4],.mp .W1 .int (bp (aj (bA a0 a1) a1.length 0 ([],(bp (aj (aF a0) a0.reaches.length 0 ([],[]))).2,(bp (aj (aF a0) a0.reaches.length 0 ([],[]))).1))).1 none,.ar2 .int V,.ar2 .int (bp (aj (bA a0 a1) a1.length 0 ([],(bp (aj (aF a0) a0.reaches.length 0 ([],[]))).2,(bp (aj (aF a0) a0.reaches.length 0 ([],[]))).1))).2.1]⟩) (ig a0 (bp (aj (bA a0 a1) a1.length 0 ([],(bp (aj (aF a0) a0.reaches.length 0 ([],[]))).2,(bp (aj (aF a0) a0.reaches.length 0 ([],[]))).1)))) (kM a0 (bp (aj (bA a0 a1) a1.length 0 ([],(bp (aj (aF a0) a0.reaches.length 0 ([],[]))).2,(bp (aj (aF a0) a0.reaches.length 0 ([],[]))).1)))) ((bp (aj (bA a0 a1) a1.length 0 ([],(bp (aj (aF a0) a0.reaches.length 0 ([],[]))).2,(bp (aj (aF a0) a0.reaches.length 0 ([],[]))).1))).2.2.length) ((bp (aj (bA a0 a1) a1.length 0 ([],(bp (aj (aF a0) a0.reaches.length 0 ([],[]))).2,(bp (aj (aF a0) a0.reaches.length 0 ([],[]))).1))).2.2) ((bp (aj (bA a0 a1) a1.length 0 ([],(bp (aj (aF a0) a0.reaches.length 0 ([],[]))).2,(bp (aj (aF a0) a0.reaches.length 0 ([],[]))).1))).2.2.length<=aI) ((·.elim)) ((·.elim)) st)else none),?_,?_⟩;unfold ae f118;simp only[ak,true_and,and_true];refine⟨?_,?_,?_⟩;refine bu mixed aB hG kr (λ_=>rfl) (a0.reaches.length:Int) rfl fO (λhb0 k_0 W asO hq0 hw hc=>⟨L0,ag _,?_⟩) (λhb0 W hc=>?_);unfold kJ at hq0;try simp only[hw,aol]at hq0
 exact lm (jl [0,1,2,6,8]) (jl [0,1,2,3,4]);exact ln (jl [0,1,2,6,8]) (jl [0,1,2,3,4]);refine bu mixed aB hG kr (λ_=>rfl) (a1.length:Int) rfl fO (λhb1 k_1 O as6 hq1 hw hc=>⟨L0,ag _,?_⟩) (λhb1 O hc=>?_);unfold kK at hq1;try simp only[hw,aol]at hq1
 exact bC (jl [0,1,2,3,4]);exact bD (jl [0,1,2,3,4]);refine bu mixed aB hG kr (λ_=>rfl) ((bp (aj (bA a0 a1) a1.length 0 ([],(bp (aj (aF a0) a0.reaches.length 0 ([],[]))).2,(bp (aj (aF a0) a0.reaches.length 0 ([],[]))).1))).2.2.length:Int) rfl fO (λhb2 E V hlt2 hq2 hw hc=>⟨(λid st=>bif Nat.beq id 6 then some (LCR (ρ:=Empty) (σ:=(List (List Int))) 5 [] [0,1,2,3,4] (λY X=>⟨[(2,.ptr 0 0),(4,.ptr 1 0),(10,.gr 3 (E:Int)),(119,.os 3),(120,.i ((bp (aj (bA a0 a1) a1.length 0 ([],(bp (aj (aF a0) a0.reaches.length 0 ([],[]))).2,(bp (aj (aF a0) a0.reaches.length 0 ([],[]))).1))).2.2.length:Int)),(121,.i E),(126,.i a0.hours),(127,.i Y)],[.cells (cellsOf .al a0),.cells [.v (.string a0.name),.i a0.hours,.i a0.arJ.cap,.i a0.arJ.start,.rs .reach a0.reaches,.rs .dd a0.zs,.rs .asn a0.arU,.rs .right a0.bh,.rs .asy a0.arL,.rs .asz a0.asl,.rs .order a1,.os 2,.os 3,.os 4],.mp .W1 .int (bp (aj (bA a0 a1) a1.length 0 ([],(bp (aj (aF a0) a0.reaches.length 0 ([],[]))).2,(bp (aj (aF a0) a0.reaches.length 0 ([],[]))).1))).1 none,.ar2 .int X,.ar2 .int (bp (aj (bA a0 a1) a1.length 0 ([],(bp (aj (aF a0) a0.reaches.length 0 ([],[]))).2,(bp (aj (aF a0) a0.reaches.length 0 ([],[]))).1))).2.1]⟩) (jp a0 E) (kL a0 E) (Int.toNat a0.hours) V (a0.hours<9223372036854775808) ((·.elim)) ((·.elim)) st)else none),?_,?_⟩) (λhb2 V hc=>?_);simp only[ak,true_and,and_true];refine bu mixed aB hG kr (λ_=>rfl) a0.hours rfl id (λhb3 Y X hlt3 hq3 hw hc=>⟨L0,ag _,?_⟩) (λhb3 X hc=>?_);unfold kL at hq3;try simp only[hw,aol]at hq3
 exact bC (jl [0,1,2,3,4]);exact bD (jl [0,1,2,3,4]);unfold kM at hq2;try simp only[hw,aol]at hq2
 exact bC (jl [0,1,2,3,4]);exact bD (jl [0,1,2,3,4]);unfold ae f118;try unfold az
 exact zq2
def bK (t:C1):List (Int×Int):=(List.range t.d.hours.toNat).flatMap λ(h:Nat) =>(List.range t.d.reaches.length).map λ(r:Nat) =>((h:Int),(r:Int))
def Lk (x:Int×Int):List SV:=[.i x.1,.i x.2]
theorem zn (R:Nat)(f:Nat->Nat->List SV):∀ (H:Nat),((List.range H).flatMap λh=>(List.range R).map λr=>f h r).length=H*R
 |0=>by simp
 |H+1=>by
  rw[aqo,ap0,aoq,zn R f H];simp[aqf]
theorem Qy (R:Nat)(f:Nat->Nat->List SV):∀ (H h r:Nat),h<H->r<R->((List.range H).flatMap λh=>(List.range R).map λr=>f h r)[h*R+r]? =some (f h r)
 |0,_,_,h1,_=>g5
 |H+1,h,r,h1,h2=>by
  rw[aqo,ap0];by_cases E:h<H
  rw[aqh];exact Qy R f H h r E h2;rw[zn]
  calc h*R+r<h*R+R:=g5
   _=(h+1)*R:=by rw[aqf]
   _<=H*R:=aoz R E
  have:h=H:=g5
  subst this;rw[apM (by rw[zn];omega),zn];simp[h2]
theorem NE (t:C1):(bK t).map Lk=(List.range t.d.hours.toNat).flatMap λ(h:Nat) =>(List.range t.d.reaches.length).map λ(r:Nat) =>[SV.i (h:Int),SV.i (r:Int)]:=by
 unfold bK;rw[List.map_flatMap];congr 1
 funext h
 rw[List.map_map];rfl
open Classical in
theorem EH (tb:C1)(hH:tb.d.hours<9223372036854775808):AQ prog 251 (λy=>[y,.ep (cellsOf .A1 tb) 0]) [] ((bK tb).map Lk):=by
 rw[NE];generalize Y:((List.range tb.d.hours.toNat).flatMap λ(h:Nat) =>(List.range tb.d.reaches.length).map λ(r:Nat) =>[SV.i (h:Int),SV.i (r:Int)])=items;have V:items.length=tb.d.hours.toNat*tb.d.reaches.length:=by rw[<-Y];exact zn _ (λh r=>[SV.i (h:Int),SV.i (r:Int)]) _
 have W:∀ h r,h<tb.d.hours.toNat->r<tb.d.reaches.length->items[h*tb.d.reaches.length+r]? =some [.i (h:Int),.i (r:Int)]:=λh r h1 h2=>by rw[<-Y];exact Qy _ (λh r=>[SV.i (h:Int),SV.i (r:Int)]) _ h r h1 h2
 clear Y;generalize hRe:tb.d.reaches.length=R at V W;refine OD (λr hr hy=>?_) (λargs w=>by kernel_rfl);have hG:arD prog (AS [] [] (itY items r)):=BT (by simp) (by simp) hy;refine⟨λl h=>if l=[.os 0,.ep (cellsOf .A1 tb) 0]/\h=[.ab (r 1)]then some { α:=Nat,pre:=True,post:=λj=>j=0\/j=items.length+1,res:=λj=>.ret (.tup []) [.ab (r j)]}else none,
  ?_,_,if_pos ⟨rfl,rfl⟩,trivial,λj hj=>⟨_,j,_,rfl,hj⟩⟩
 refine oE mixed aB hG (fn:=f251) (c:=ae f251) kr kr kr kr λl o con h hp=>?_;split at h
 rotate_left
 cases h;rename_i hlo;obtain⟨rfl,rfl⟩:=hlo;cases h;have hcl:cellsOf .A1 tb=cellsOf .A1 tb:=rfl;refine⟨nbl rfl,λid st=>bif Nat.beq id 0 then some { α:=Bool,pre:=lk 0 st.t=.os 0/\lk 1 st.t=.ep (cellsOf .A1 tb) 0/\lk 7 st.t=.i tb.d.hours/\lk 8 st.t=.i 0/\st.h=[.ab (r 1)],post:=λ_=>True,ex:=λb=>bif b then .normal else .ret,out:=λb=>⟨[],[.ab (r (bif b then items.length+1 else 0))]⟩:asq}else none,?_,?_⟩
 ·unfold ae f251;simp only[ak,true_and,and_true];refine ur mixed aB hG kr λst lc hC hp=>?_;simp only[go_sem,Nat.reduceBEq,aoo]at hC;subst hC;obtain⟨t,h⟩:=st;dsimp only at hp;obtain⟨h0,h1,h7,h8,rfl⟩:=hp;refine⟨Nat,λk=>⟨[(0,.os 0),(1,.ep (cellsOf .A1 tb) 0),(7,.i tb.d.hours),(8,.i (k:Int))],[.ab (r (k*R+1))]⟩,λk=>k<=tb.d.hours.toNat,λk=>tb.d.hours.toNat - k,0,[0],aoV _,aom _,?_,?_⟩
  ·simp only[go_sem,h0,h1,h7,h8,ary,aou,Nat.reduceBEq,Nat.reduceLeDiff,Nat.reduceAdd,true_and,and_true];all_goals (first|done|(repeat' (first|refine And.intro ?_ ?_|rfl|decide)))
  ·intro k hk;refine⟨λid st=>bif Nat.beq id 2 then some { α:=Bool,pre:=lk 0 st.t=.os 0/\lk 1 st.t=.ep (cellsOf .A1 tb) 0/\lk 3 st.t=.i (k:Int)/\lk 7 st.t=.i tb.d.hours/\lk 8 st.t=.i (k:Int)/\lk 14 st.t=.i (R:Int)/\lk 15 st.t=.i 0/\st.h=[.ab (r (k*R+1))]/\k<tb.d.hours.toNat/\R<=aI,post:=λ_=>True,ex:=λb=>bif b then .normal else .ret,out:=λb=>⟨[(0,.os 0),(1,.ep (cellsOf .A1 tb) 0),(7,.i tb.d.hours),(8,.i (k:Int))],[.ab (r (bif b then k*R+R+1 else 0))]⟩:asq}else none,_,?_,λ_ _ q=>q,?_⟩
   ·simp only[ak,true_and,and_true];refine ur mixed aB hG kr λst lc hC hp=>?_;simp only[go_sem,Nat.reduceBEq,aoo]at hC;subst hC;obtain⟨t,h⟩:=st;dsimp only at hp;obtain⟨i0,i1,i3,i7,i8,i14,i15,rfl,hkH,X⟩:=hp;refine⟨Nat,λj=>⟨[(0,.os 0),(1,.ep (cellsOf .A1 tb) 0),(3,.i (k:Int)),(7,.i tb.d.hours),(8,.i (k:Int)),(14,.i (R:Int)),(15,.i (j:Int))],[.ab (r (k*R+j+1))]⟩,λj=>j<=R,λj=>R - j,0,[0],aoV _,aom _,?_,?_⟩
    ·simp only[go_sem,i0,i1,i3,i7,i8,i14,i15,apE,Nat.reduceBEq,Nat.reduceLeDiff,Nat.reduceAdd,true_and,and_true];all_goals (first|done|(repeat' (first|refine And.intro ?_ ?_|rfl|decide)))
    ·intro j hj;refine⟨L0,_,by simp only[ak,and_self,true_and,and_true],λ_ _ q=>q,?_⟩;simp only[go_sem,Da hr,true_imp_iff,aot,false_imp_iff,Nat.reduceBEq,Nat.reduceLeDiff,Nat.reduceAdd,Nat.reduceSub,Nat.reduceMul,true_and,and_true,implies_true,reduceCtorEq];refine⟨λhlt=>?_,λhge=>?_⟩
     ·have E:j<R:=by have:=of_decide_eq_true hlt;omega
      have hw:i64.wrap ((j:Int)+1)=((j+1:Nat):Int):=ajR E X;refine⟨W k j hkH E,⟨j+1,[0],?_⟩,⟨false,[0],?_⟩⟩;all_goals simp only[go_sem,hw,Nat.reduceBEq,Nat.reduceLeDiff,Nat.reduceAdd,true_and,and_true]
      all_goals (first|done|decide|(repeat' (first|refine And.intro ?_ ?_|rfl|omega|decide)))
     ·have O:j=R:=by have:=of_decide_eq_false hge;omega
      subst O;refine⟨true,[0],?_⟩;all_goals simp only[go_sem,Nat.reduceBEq,Nat.reduceLeDiff,Nat.reduceAdd,true_and,and_true]
      all_goals (first|done|decide|(repeat' (first|refine And.intro ?_ ?_|rfl|omega|decide)))
   ·simp only[go_sem,hRe,true_imp_iff,aot,false_imp_iff,Nat.reduceBEq,Nat.reduceLeDiff,Nat.reduceAdd,Nat.reduceSub,Nat.reduceMul,true_and,and_true,implies_true,reduceCtorEq];refine⟨λhlt X=>?_,λhge=>?_⟩
    ·have E:k<tb.d.hours.toNat:=by have:=of_decide_eq_true hlt;omega
     have hw:i64.wrap ((k:Int)+1)=((k+1:Nat):Int):=OH E hH;refine⟨⟨E,X⟩,λb=>?_⟩;cases b with
     |true=>
      simp only[go_sem,hw,Nat.reduceBEq,Nat.reduceLeDiff,Nat.reduceAdd,true_and,and_true];have e:(k+1)*R+1=k*R+R+1:=by rw[aqf]
      refine⟨k+1,[0],?_⟩;all_goals simp only[go_sem,e,Nat.reduceBEq,Nat.reduceLeDiff,Nat.reduceAdd,true_and,and_true]
      all_goals (first|done|decide|(repeat' (first|refine And.intro ?_ ?_|rfl|omega|decide)))
     |false=>
      simp only[go_sem,Nat.reduceBEq,Nat.reduceLeDiff,Nat.reduceAdd,true_and,and_true];refine⟨false,[0],?_⟩;all_goals simp only[go_sem,Nat.reduceBEq,Nat.reduceLeDiff,Nat.reduceAdd,true_and,and_true]
      all_goals (first|done|decide|(repeat' (first|refine And.intro ?_ ?_|rfl|omega|decide)))
    ·have O:k=tb.d.hours.toNat:=by have:=of_decide_eq_false hge;omega
     have e:items.length+1=k*R+1:=by rw[V,O]
     refine⟨true,[0],?_⟩;all_goals simp only[go_sem,e,Nat.reduceBEq,Nat.reduceLeDiff,Nat.reduceAdd,true_and,and_true]
     all_goals (first|done|decide|(repeat' (first|refine And.intro ?_ ?_|rfl|omega|decide)))
 ·unfold ae f251;simp only[go_sem,true_imp_iff,aot,false_imp_iff,Nat.reduceBEq,Nat.reduceLeDiff,Nat.reduceAdd,Nat.reduceSub,Nat.reduceMul,true_and,and_true,implies_true,reduceCtorEq];intro b;cases b with
  |true=>
   simp only[go_sem];exact⟨items.length+1,_,_,[0],.inr rfl,rfl,aom 1,by simp only[go_sem,Nat.reduceBEq,Nat.reduceLeDiff,Nat.reduceAdd,true_and,and_true];first|done|decide⟩
  |false=>
   simp only[go_sem];exact⟨0,_,_,[0],.inl rfl,rfl,aom 1,by simp only[go_sem,Nat.reduceBEq,Nat.reduceLeDiff,Nat.reduceAdd,true_and,and_true];first|done|decide⟩
def ff:m0:=pD .A1 λt=>pE (.det True (.fn 251 [] [.ep (cellsOf .A1 t) 0]))
def iq:m0:=pD .A1 λt=>pI λk=>pE (.det True (.fn 178 [] [.ep (cellsOf .A1 t) 0,.ep [.i k] 0]))
def ir:m0:=pD .A1 λt=>pR .W2 λc=>pE (.det True (.fn 181 [] [.ep [.rs .W2 c] 0,.ep (cellsOf .A1 t) 0]))
variable {f:FuncId}{a:List SV}
def NF{p:Pk}{b:List SV}:yJ [p] (.fn f a b)=AF p (.fn f a b):=(rfl)
def NG{b:List SV}:AF .o (.fn f a b)=.fn f a b:=(rfl)
theorem qP:X1 prog 179 ff:=by
 have hG:arD prog (mkG [] []):=na (by simp) (by simp);refine xa [.o] mixed aB hG (fn:=f179) (c:=ae f179) kr kr kr kr λl E h V=>?_;unfold ff at h;obtain⟨t,l0,rfl,O⟩:=ut h;obtain⟨rfl,rfl⟩:=nc O;refine⟨nbl rfl,L0,by unfold ae f179;simp only[ak,and_self],?_⟩;unfold ae f179;simp only[go_sem,NF,NG,true_imp_iff,Nat.reduceBEq,Nat.reduceLeDiff,Nat.reduceAdd,Nat.reduceSub,Nat.reduceMul,true_and,and_true,implies_true,aoO,aoZ]
theorem xH:X1 prog 120 iq:=by
 have hG:arD prog (mkG [] []):=na (by simp) (by simp);refine xa [.o] mixed aB hG (fn:=f120) (c:=ae f120) kr kr kr kr λl E h V=>?_;unfold iq at h;obtain⟨t,l0,rfl,O⟩:=ut h;obtain⟨k,l1,rfl,h1⟩:=RD O;obtain⟨rfl,rfl⟩:=nc h1;refine⟨nbl rfl,L0,by unfold ae f120;simp only[ak,and_self],?_⟩;unfold ae f120;simp only[go_sem,NF,NG,true_imp_iff,Nat.reduceBEq,Nat.reduceLeDiff,Nat.reduceAdd,Nat.reduceSub,Nat.reduceMul,true_and,and_true,implies_true,aoO,aoZ]
theorem xI:X1 prog 124 ir:=by
 have hG:arD prog (mkG [] []):=na (by simp) (by simp);refine xa [.o] mixed aB hG (fn:=f124) (c:=ae f124) kr kr kr kr λl E h V=>?_;unfold ir at h;obtain⟨t,l0,rfl,O⟩:=ut h;obtain⟨k,l1,rfl,h1⟩:=Xk O;obtain⟨rfl,rfl⟩:=nc h1;refine⟨nbl rfl,L0,by unfold ae f124;simp only[ak,and_self],?_⟩;unfold ae f124;simp only[go_sem,NF,NG,true_imp_iff,Nat.reduceBEq,Nat.reduceLeDiff,Nat.reduceAdd,Nat.reduceSub,Nat.reduceMul,true_and,and_true,implies_true,aoO,aoZ]
attribute [go_sem] ff iq ir
def dh (x:B1)(a:List B1):List B1:=(a++([x]))
def cy (x:B1)(a:List B1):Prop:=((a++([x])).length*40<=dT)
@[go_sem] noncomputable def uZ:List SV->List Ob->Option arV:=λl h=>hCR .fault (λl_=>(pD .fault λx=>((pQ (.ptr 0 0) (pE (fM (cy x l_) (.v (.bool true)) [.cells [.os 2],.dead,.row .fault (dh x l_)]))))) l) h
theorem jw:arT prog 119 uZ:=by
 have hG:=mG Y1 Y1;refine fR hG f119 (λl o V h=>?_);unfold uZ at h;obtain⟨W,rfl,h⟩:=zz h;obtain⟨x,X,rfl,E⟩:=ut h;obtain⟨Y,rfl,h1⟩:=uu E;obtain⟨rfl,rfl⟩:=nc h1;clear h E h1;refine⟨_,_,_,rfl,λO=>?_⟩;unfold cy at O;refine⟨nbl rfl,L0,?_,?_⟩;unfold ae f119;simp only[ak,and_self,true_and,and_true];unfold ae f119;try unfold dh
 exact cJ (jl [0,1,4])
@[go_sem] def ef (a:C1)(e:List B1)(b:Nat)(f:Unit):(List B1)⊕Unit:=letI c:=(a.ass.getD 0 (default:List Int)).getD (Int.toNat (i64.wrap ((b:Int)+1))) 0;(bif(decide (c > a.d.arJ.start))then .inl (dh ({ kind:=4,hour:=(b:Int),index:=0,bl:=c,limit:=a.d.arJ.start}:B1) e)else .inr ())
def jh (a:C1)(g:List B1)(c:Nat)(h:Unit):Prop:=letI b:=i64.wrap ((c:Int)+1);letI e:=a.ass.getD 0 (default:List Int);letI f:=e.getD (Int.toNat b) 0;((0<=0/\0< (a.ass.length:Int))/\((0<=b/\b< (e.length:Int))/\((decide (f > a.d.arJ.start))=true->(cy ({ kind:=4,hour:=(c:Int),index:=0,bl:=f,limit:=a.d.arJ.start}:B1) g))))
def fI (a:C1)(b:List B1):List B1:=(match aj (ef a b) (Int.toNat a.d.hours) 0 ()with| .inl c=>c| .inr e=>b)
def kO (a:C1)(b:List B1):Prop:=((a.d.hours<9223372036854775808)/\okI (ef a b) (jh a b) (Int.toNat a.d.hours) 0 ())
@[go_sem] noncomputable def sP:List SV->List Ob->Option arV:=λl h=>hCR .fault (λl_=>(pD .A1 λt_=>((pQ (.fn 119 [] [.ptr 0 0]) (pE (fM (kO t_ l_) (.tup []) [.cells [.os 2],.dead,.row .fault (fI t_ l_)]))))) l) h
theorem yk:arT prog 122 sP:=by
 have hG:=mG Y1 (co jw Y1);refine fR hG f122 (λl o con h=>?_);unfold sP at h;obtain⟨Y,rfl,h⟩:=zz h;obtain⟨E,r0,rfl,h0⟩:=ut h;obtain⟨r1,rfl,h1⟩:=uu h0;obtain⟨rfl,rfl⟩:=nc h1;clear h h0 h1;refine⟨_,_,_,rfl,λhp=>?_⟩;unfold kO at hp;refine⟨nbl rfl,(λid st=>bif Nat.beq id 0 then some (LCR (ρ:=(List B1)) (σ:=Unit) 3 [] [0,1,2,1] (λW V=>⟨[(1,.fn 119 [] [.ptr 0 0]),(2,.ptr 2 0),(8,.i E.d.hours),(9,.i W)],[.cells [.os 3],.dead,.cells (cellsOf .A1 E),.row .fault Y]⟩) (ef E Y) (jh E Y) (Int.toNat E.d.hours) () (E.d.hours<9223372036854775808) (λ_=>.ret) (λO=>⟨[],[.cells [.os 3],.dead,.dead,.row .fault O]⟩) st)else none),?_,?_⟩;unfold ae f122;simp only[ak,true_and,and_true];refine bu mixed aB hG kr (λ_=>rfl) E.d.hours rfl id (λhb0 W V asO X hw hc=>⟨L0,ag _,?_⟩) (λhb0 V hc=>?_);unfold jh at X;try simp only[hw,aol]at X
 exact lm (jl [0,1,2,3]) (jl [0,1,2,4]);exact ln (jl [0,1,2,3]) (jl [0,1,2,4]);unfold ae f122;try unfold fI
 exact cJ (jl [0,1,3])
@[go_sem] def gj (f:C1)(b:Int)(g:Nat)(c:List B1):Empty⊕(List B1):=letI a:=f.l.getD g default;letI e:=f.d.reaches.getD (Int.toNat (a.index)) default;(bif a.S2 then .inr c else(bif(b==2)then(bif(decide (a.bl<e.arR))then .inr (dh ({ kind:=b,hour:=a.hour,index:=a.index,bl:=a.bl,limit:=e.arR}:B1) c)else .inr c)else(bif(decide (a.bl > e.cap))then .inr (dh ({ kind:=b,hour:=a.hour,index:=a.index,bl:=a.bl,limit:=e.cap}:B1) c)else .inr c)))
def g7 (e:C1)(b:Int)(j:Nat)(h:List B1):Prop:=letI a:=e.l.getD j default;letI c:=e.d.reaches.getD (Int.toNat (a.index)) default;letI f:=decide (a.bl<c.arR);letI g:=decide (a.bl > c.cap);letI i:=0<=a.index/\a.index< (e.d.reaches.length:Int);(a.S2=false->(i/\(((b==2)=true->(i/\((f=true->(cy ({ kind:=b,hour:=a.hour,index:=a.index,bl:=a.bl,limit:=c.arR}:B1) h))/\(f=false->(f=false)))))/\((b==2)=false->((g=true->(cy ({ kind:=b,hour:=a.hour,index:=a.index,bl:=a.bl,limit:=c.cap}:B1) h))/\(g=false->(g=false)))))))
def bZ (a:C1)(b:Int)(c:List B1):List B1:=(match aj (gj a b) a.l.length 0 c with| .inl x=>x.elim| .inr d=>d)
def gE (a:C1)(b:Int)(c:List B1):Prop:=(a.l.length<=aI->okI (gj a b) (g7 a b) a.l.length 0 c)
@[go_sem] noncomputable def pK:List SV->List Ob->Option arV:=λl h=>hCR .fault (λl_=>(pQ (.fn 119 [] [.ptr 0 0]) ((pX .A1 λt_=>((pX .int λkind=>(pE (fM (gE t_ kind l_) (.tup []) [.cells [.os 2],.dead,.row .fault (bZ t_ kind l_)]))))))) l) h
theorem vV:arT prog 178 pK:=by
 have hG:=mG Y1 (co jw Y1);refine fR hG f178 (λl o con h=>?_);unfold pK at h;obtain⟨l_,rfl,h⟩:=zz h;obtain⟨r0,rfl,X⟩:=uu h;obtain⟨E,r1,rfl,h1⟩:=GS X;obtain⟨kind,r2,rfl,h2⟩:=GS h1;obtain⟨rfl,rfl⟩:=nc h2;clear h X h1 h2;refine⟨_,_,_,rfl,λhp=>?_⟩;unfold gE at hp;refine⟨nbl rfl,(λid st=>bif Nat.beq id 0 then some (LCR (ρ:=Empty) (σ:=(List B1)) 2 [] [0,1,1] (λV O=>⟨[(0,.fn 119 [] [.ptr 0 0]),(1,.ep (cellsOf .A1 E) 0),(2,.ep [.i kind] 0),(9,.rs .order E.l),(10,.i (E.l.length:Int)),(11,.i V)],[.cells [.os 2],.dead,.row .fault O]⟩) (gj E kind) (g7 E kind) E.l.length l_ (E.l.length<=aI) ((·.elim)) ((·.elim)) st)else none),?_,?_⟩;unfold ae f178;simp only[ak,true_and,and_true];refine bu mixed aB hG kr (λ_=>rfl) (E.l.length:Int) rfl fO (λhb0 V O Y W hw hc=>⟨L0,ag _,?_⟩) (λhb0 O hc=>?_);unfold g7 at W;try simp only[hw,aol]at W
 exact lm (jl [0,1,2]) (jl [0,1,5]);exact ln (jl [0,1,2]) (jl [0,1,5]);unfold ae f178;try unfold bZ
 exact cJ (jl [0,1,2])
@[go_sem] def bB (d:List Claim)(e:Nat)(b:List (Q1×Int)):Empty⊕(List (Q1×Int)):=letI a:=d.getD e default;letI c:=({ hour:=a.hour,index:=a.dd,S2:=true}:Q1);.inr (dF .W1 .int b c (i64.wrap ((aC .W1 .int b c)+a.bl)))
@[go_sem] def gk (g:C1)(h:List (Q1×Int))(a b:Nat)(c:List B1):Empty⊕(List B1):=letI d:=({ hour:=(a:Int),index:=(b:Int),S2:=true}:Q1);letI e:=aC .W1 .int g.bl d;letI f:=aC .W1 .int h d;(bif(decide (e<f))then .inr (dh ({ kind:=6,hour:=(a:Int),index:=(b:Int),bl:=e,limit:=f}:B1) c)else .inr c)
def g8 (g:C1)(h:List (Q1×Int))(b c:Nat)(i:List B1):Prop:=letI d:=({ hour:=(b:Int),index:=(c:Int),S2:=true}:Q1);letI e:=aC .W1 .int g.bl d;letI f:=aC .W1 .int h d;letI a:=decide (e<f);((a=true->(cy ({ kind:=6,hour:=(b:Int),index:=(c:Int),bl:=e,limit:=f}:B1) i))/\(a=false->(a=false)))
@[go_sem] def gm (a:C1)(b:List (Q1×Int))(c:Nat)(e:List B1):Empty⊕(List B1):=(match aj (gk a b c) a.d.zs.length 0 e with| .inl x=>x.elim| .inr f=>.inr f)
def j5 (a:C1)(b:List (Q1×Int))(c:Nat)(e:List B1):Prop:=(a.d.zs.length<=aI->okI (gk a b c) (g8 a b c) a.d.zs.length 0 e)
def eu (a:List Claim)(b:C1)(c:List B1):List B1:=(match aj (bB a) a.length 0 ([])with| .inl x=>x.elim| .inr e=>(match aj (gm b e) (Int.toNat b.d.hours) 0 c with| .inl x=>x.elim| .inr f=>f))
def ji (b:List Claim)(a:C1)(c:List B1):Prop:=(b.length<=aI->(∀ l5,aj (bB b) b.length 0 ([])=.inr l5->((a.d.hours<9223372036854775808)/\okI (gm a l5) (j5 a l5) (Int.toNat a.d.hours) 0 c)))
@[go_sem] noncomputable def pL:List SV->List Ob->Option arV:=λl h=>hCR .fault (λl_=>(pQ (.fn 119 [] [.ptr 0 0]) ((pXR .W2 λc_=>((pX .A1 λt_=>(pE (fM (ji c_ t_ l_) (.tup []) [.cells [.os 2],.dead,.row .fault (eu c_ t_ l_)]))))))) l) h
theorem vW:arT prog 181 pL:=by
 have hG:=mG Y1 (co jw Y1);refine fR hG f181 (λl o con h=>?_);unfold pL at h;obtain⟨l_,rfl,h⟩:=zz h;obtain⟨r0,rfl,h0⟩:=uu h;obtain⟨E,r1,rfl,h1⟩:=Tv h0;obtain⟨O,r2,rfl,h2⟩:=GS h1;obtain⟨rfl,rfl⟩:=nc h2;clear h h0 h1 h2;refine⟨_,_,_,rfl,λhp=>?_⟩;unfold ji at hp;refine⟨nbl rfl,(λid st=>bif Nat.beq id 0 then some (LCR (ρ:=Empty) (σ:=(List (Q1×Int))) 3 [] [0,1,2] (λk_0 Y=>⟨[(0,.fn 119 [] [.ptr 0 0]),(2,.ep (cellsOf .A1 O) 0),(4,.os 2),(11,.rs .W2 E),(12,.i (E.length:Int)),(13,.i k_0)],[.cells [.os 1],.row .fault l_,.mp .W1 .int Y none]⟩) (bB E) pT E.length ([]) (E.length<=aI) ((·.elim)) ((·.elim)) st)else bif Nat.beq id 2 then some (LCR (ρ:=Empty) (σ:=(List B1)) 3 [] [0,1,2,1] (λV W=>⟨[(0,.fn 119 [] [.ptr 0 0]),(2,.ep (cellsOf .A1 O) 0),(4,.os 2),(32,.i O.d.hours),(33,.i V)],[.cells [.os 3],.dead,.mp .W1 .int (bp (aj (bB E) E.length 0 ([]))) none,.row .fault W]⟩) (gm O (bp (aj (bB E) E.length 0 ([])))) (j5 O (bp (aj (bB E) E.length 0 ([])))) (Int.toNat O.d.hours) l_ (O.d.hours<9223372036854775808) ((·.elim)) ((·.elim)) st)else none),?_,?_⟩;unfold ae f181;simp only[ak,true_and,and_true];refine⟨?_,?_⟩;refine bu mixed aB hG kr (λ_=>rfl) (E.length:Int) rfl fO (λhb0 k_0 Y asO _ hw hc=>⟨L0,ag _,?_⟩) (λhb0 Y hc=>?_);exact bC (jl [0,1,2]);exact bD (jl [0,1,2]);refine bu mixed aB hG kr (λ_=>rfl) O.d.hours rfl id (λhb1 V W as6 hq1 hw hc=>⟨(λid st=>bif Nat.beq id 4 then some (LCR (ρ:=Empty) (σ:=(List B1)) 4 [] [0,1,2,3,3] (λk_2 X=>⟨[(0,.fn 119 [] [.ptr 0 0]),(2,.ep (cellsOf .A1 O) 0),(4,.os 2),(7,.i V),(32,.i O.d.hours),(33,.i V),(39,.i (O.d.zs.length:Int)),(40,.i k_2)],[.cells [.os 4],.dead,.mp .W1 .int (bp (aj (bB E) E.length 0 ([]))) none,.dead,.row .fault X]⟩) (gk O (bp (aj (bB E) E.length 0 ([]))) V) (g8 O (bp (aj (bB E) E.length 0 ([]))) V) O.d.zs.length W (O.d.zs.length<=aI) ((·.elim)) ((·.elim)) st)else none),?_,?_⟩) (λhb1 W hc=>?_);simp only[ak,true_and,and_true];refine bu mixed aB hG kr (λ_=>rfl) (O.d.zs.length:Int) rfl fO (λhb2 k_2 X hlt2 hq2 hw hc=>⟨L0,ag _,?_⟩) (λhb2 X hc=>?_);unfold g8 at hq2;try simp only[hw,aol]at hq2
 exact lm (jl [0,1,2,3,6]) (jl [0,1,2,3,4]);exact ln (jl [0,1,2,3,6]) (jl [0,1,2,3,4]);unfold j5 at hq1;try simp only[hw,aol]at hq1
 exact lm (jl [0,1,2,4]) (jl [0,1,2,3]);exact ln (jl [0,1,2,4]) (jl [0,1,2,3]);unfold ae f181;try unfold eu
 exact cJ (jl [0,1,3])
end Go.Sx
end
