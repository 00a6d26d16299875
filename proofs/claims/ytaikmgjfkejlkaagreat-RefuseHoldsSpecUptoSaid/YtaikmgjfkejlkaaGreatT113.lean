/- Part of the proof of the law RefuseHoldsSpec (the Upto form). -/
import Derived.Test.YtaikmgjfkejlkaaGreatT112
set_option linter.all false
set_option maxHeartbeats 4000000
set_option maxRecDepth 100000
section
namespace Go.Sx
open Go.Proofs Tryz
open IntKind (i64)
@[go_sem] def je (x:G2):List SV:=[.agg (cellsOf .fault x)]
@[go_sem] def EH:FI:=(pD .al λd=>(pR .order λa=>(pE (.det True (.fn 174 [] [.ep [.rs .order a] 0,.ep (cellsOf .al d) 0])))))
def Dn:P0 prog 111 EH:=by
 have hG:=mG Q1 Q1;refine fN hG f111 [.o] (ap λd=>(aZ λout=>(am (λE=>?_))));refine⟨nbl rfl,L0,ag _,?_⟩;unfold aa f111;simp only[go_sem,vz,xp,Nat.reduceBEq,Nat.reduceLeDiff,Nat.reduceAdd,Nat.reduceSub,Nat.reduceMul]
@[go_sem] def d8 (e:List Order)(d:ai)(f:Nat)(b:List (pq×Int)):Empty⊕(List (pq×Int)):=letI a:=e.getD f default;letI c:=({ index:=(d.zs.getD (Int.toNat (a.index)) default).reach,hour:=a.hour}:pq);.inr (cy .dd .int b c (i64.wrap ((aF .dd .int b c)+a.bn)))
def jL (a:List Order)(d:ai)(b:Nat)(c:List (pq×Int)):Prop:=(0<=(a.getD b default).index/\(a.getD b default).index< (d.zs.length:Int))
@[go_sem] def az (d:ai)(h:List G2×List (pq×Int)×List (pq×Bool)×Int)(o:Nat)(a:List (pq×Bool)×List G2×List (pq×Int)):Empty⊕(List (pq×Bool)×List G2×List (pq×Int)):=letI b:=d.reaches.getD (Int.toNat h.2.2.2) default;letI e:=(o:Int);letI c:=({ index:=b.up,hour:=(i64.wrap (e - b.delay))}:pq);letI j:=({ index:=h.2.2.2,hour:=e}:pq);letI f:=aF .dd .int a.2.2 j;letI k:=a.2.1++[({ kind:=7,hour:=e,index:=h.2.2.2,bn:=f,limit:=0}:G2)];letI g:=dV b f;letI i:=decide (f<=1073741824);letI l:=aF .dd .int a.2.2 c;letI m:=aF .dd .bool a.1 c;letI n:=decide (e<b.delay);(bif(aF .dd .bool a.1 j)then .inr ((cy .dd .bool a.1 c true),a.2.1,a.2.2)else(bif(f==0)then .inr (a.1,a.2.1,a.2.2)else(bif i then(bif((!g.2.1) ||n)then .inr ((cy .dd .bool a.1 c (m||(!g.2.1))),k,a.2.2)else .inr (a.1,a.2.1,(cy .dd .int a.2.2 c (i64.wrap (l+(if g.1<b.atz then b.atz else g.1))))))else(bif((!i) ||n)then .inr ((cy .dd .bool a.1 c (m||(!i))),k,a.2.2)else .inr (a.1,a.2.1,(cy .dd .int a.2.2 c (i64.wrap (l+(if 0<b.atz then b.atz else 0)))))))))
def gQ (d:ai)(k:List (List SV))(b:List G2×List (pq×Int)×List (pq×Bool)×Int)(l:Nat)(c:List (pq×Bool)×List G2×List (pq×Int)):Prop:=letI e:=d.reaches.getD (Int.toNat b.2.2.2) default;letI f:=(l:Int);letI h:=({ index:=b.2.2.2,hour:=f}:pq);letI a:=aF .dd .int c.2.2 h;letI i:=k[c.2.1.length]? =some (je ({ kind:=7,hour:=f,index:=b.2.2.2,bn:=a,limit:=0}:G2));letI g:=decide (a<=1073741824);letI j:=decide (f<e.delay);((aF .dd .bool c.1 h)=false->((a==0)=false->((g=true->((mw e a)/\(((!(dV e a).2.1) ||j)=true->i)))/\(g=false->(((!g) ||j)=true->i)))))
@[go_sem] def cm (d:ai)(c:Nat)(a:List G2×List (pq×Int)×List (pq×Bool)×Int):(List G2)⊕(List G2×List (pq×Int)×List (pq×Bool)×Int):=(bif(decide (a.2.2.2>=0))then(match aj (az d a) (Int.toNat d.hours) 0 (a.2.2.1,a.1,a.2.1)with| .inl x=>x.elim| .inr b=>.inr (b.2.1,b.2.2,b.1,(i64.wrap (a.2.2.2 - 1))))else .inl a.1)
def jM (d:ai)(b:List (List SV))(c:Nat)(a:List G2×List (pq×Int)×List (pq×Bool)×Int):Prop:=((decide (a.2.2.2>=0))=true->((0<=a.2.2.2/\a.2.2.2< (d.reaches.length:Int))/\((d.hours<9223372036854775808)/\okI (az d a) (gQ d b a) (Int.toNat d.hours) 0 (a.2.2.1,a.1,a.2.1))))
def c9 (a:List Order)(d:ai):List G2:=(match aj (d8 a d) a.length 0 ([])with| .inl x=>x.elim| .inr b=>(match aj (cm d) (d.reaches.length+1) 0 (([]:List G2),b,[],(i64.wrap ((d.reaches.length:Int) - 1)))with| .inl c=>c| .inr e=>default))
def jE (a:List Order)(d:ai)(f:List (List SV)):Prop:=letI b:=i64.wrap ((d.reaches.length:Int) - 1);letI c:=cm d;letI e:=d.reaches.length+1;letI g:=d8 a d;(a.length<=aD->(okI g (jL a d) a.length 0 ([])/\(∀ ee,aj g a.length 0 ([])=.inr ee->(d.reaches.length<=aD->(okI c (jM d f) e 0 (([]:List G2),ee,[],b)/\(∀ z_,aj c e 0 (([]:List G2),ee,[],b)≠ .inr z_)/\(∀ atG,aj c e 0 (([]:List G2),ee,[],b)=.inl atG->(f.length=atG.length)))))))
def A7 (out:List Order)(d:ai)(E:List (List SV))(hp:jE out d E):CK prog 174 (λy=>[y,.ep [.rs .order out] 0,.ep (cellsOf .al d) 0]) [] E:=by
 unfold jE at hp;refine D3 mixed aC (fn:=f174) (c:=aa f174) kr kr kr kr rfl (n:=0) rfl (G:=λW=>CL [(84,Br)] [] (FP E W)) (λW hy=>?_) (λargs w=>by kernel_rfl);have hG:=mGY (cp vS Q1) Q1 hy;refine⟨hG,nbl rfl,(XO 0 (LCR (ρ:=Empty) (σ:=(List (pq×Int))) 3 [] [0,1,2] (λW1 X=>⟨[(0,.os 0),(2,.ep (cellsOf .al d) 0),(4,.os 1),(5,.os 2),(18,.rs .order out),(19,.i (out.length:Int)),(20,.i W1)],[.ab (W.1 (([]:List G2).length+1)),.mp .dd .int X none,.mp .dd .bool ([]) none]⟩) (d8 out d) (jL out d) out.length ([]) (out.length<=aD) ((·.elim)) ((·.elim))) (XO 2 (acX (ρ:=(List G2)) (σ:=(List G2×List (pq×Int)×List (pq×Bool)×Int)) 3 [] [0,1,2] (λk_1 O=>⟨[(0,.os 0),(2,.ep (cellsOf .al d) 0),(4,.os 1),(5,.os 2),(8,.i O.2.2.2)],[.ab (W.1 (O.1.length+1)),.mp .dd .int O.2.1 none,.mp .dd .bool O.2.2.1 none]⟩) (cm d) (jM d E) (d.reaches.length+1) (([]:List G2),(cB (aj (d8 out d) out.length 0 ([]))),[],(i64.wrap ((d.reaches.length:Int) - 1))) (λ_=>.normal) (λY=>⟨[],[.ab (W.1 (Y.length+1)),.dead,.dead]⟩) ⟨[],[.ab (W.1 0),.dead,.dead]⟩) L0)),?_,?_⟩;unfold aa f174;simp only[ak,true_and,and_true];refine⟨?_,?_⟩;refine bG aC hG (λ_=>rfl) (out.length:Int) eE (λhb0 W1 X aue hq0 hw hc=>⟨L0,ag _,?_⟩) (λhb0 X hc=>?_);simp only[jL,hw,aqa]at hq0
 exact qQ (jl [0,1,2]);exact qR (jl [0,1,2]);refine Me aC hG (λ_=>rfl) λk_1 O hq1=>⟨(XO 4 (LCY (ρ:=Empty) (σ:=(List (pq×Bool)×List G2×List (pq×Int))) 4 [] [0,1,2,3] (λk_2 V=>⟨[(0,.os 0),(2,.ep (cellsOf .al d) 0),(4,.os 1),(5,.os 2),(8,.i O.2.2.2),(9,.ptr 3 0),(56,.i d.hours),(57,.i k_2)],[.ab (W.1 (V.2.1.length+1)),.mp .dd .int V.2.2 none,.mp .dd .bool V.1 none,.cells (cellsOf .reach (d.reaches.getD (Int.toNat O.2.2.2) (default:Reach)))]⟩) (az d O) (gQ d E O) (Int.toNat d.hours) (O.2.2.1,O.1,O.2.1) (d.hours<9223372036854775808) ((·.elim)) ((·.elim)) ⟨[],[.ab (W.1 0),.dead,.dead,.dead]⟩) L0),?_,?_⟩;simp only[ak,true_and,and_true];refine vA aC hG (λ_=>rfl) d.hours id (λhb2 k_2 V hlt2 hq2 hw hc=>⟨L0,ag _,?_⟩) (λhb2 V hc=>?_);simp only[gQ,hw,aqa]at hq2
 exact qQ (jl [0,1,2,3]);exact qR (jl [0,1,2,3]);unfold jM at hq1;exact QU (jl [0,1,2]);unfold aa f174;exact QU (jl [0])
@[go_sem] def B3:FI:=(pD .al λd=>(pR .order λa=>(pE (.det True (.fn 175 [] [.ep [.rs .order a] 0,.ep (cellsOf .al d) 0])))))
def A8:P0 prog 112 B3:=by
 have hG:=mG Q1 Q1;refine fN hG f112 [.o] (ap λd=>(aZ λE=>(am (λO=>?_))));refine⟨nbl rfl,L0,ag _,?_⟩;unfold aa f112;simp only[go_sem,vz,xp,Nat.reduceBEq,Nat.reduceLeDiff,Nat.reduceAdd,Nat.reduceSub,Nat.reduceMul]
@[go_sem] def a7 (d:List Order)(e:Nat)(b:List (pq×Int)×Int):Empty⊕(List (pq×Int)×Int):=letI a:=d.getD e default;letI c:=cy .dd .int b.1 ({ index:=a.index,hour:=a.hour}:pq) (a.bn);(bif(!a.S2)then(bif(a.index==0)then .inr (c,(i64.wrap (b.2+a.bn)))else .inr (c,b.2))else .inr (b.1,b.2))
@[go_sem] def gR (d:ai)(a:List (pq×Int)×Int)(b c e:Nat)(f:Int):Empty⊕Int:=.inr (i64.wrap (f+(aF .dd .int a.1 ({ index:=(c:Int),hour:=(i64.wrap ((b:Int) - (e:Int)))}:pq))))
@[go_sem] def fL (d:ai)(h:List (pq×Int)×Int)(i f:Nat)(g:List G2):Empty⊕(List G2):=letI a:=d.reaches.getD f default;letI b:=(i:Int);letI c:=(f:Int);letI j:=aF .dd .int h.1 ({ index:=c,hour:=b}:pq);letI k:=g++[({ kind:=1,hour:=b,index:=c,bn:=j,limit:=a.cap}:G2)];(match aj (gR d h i f) (Int.toNat (a.delay)) 0 0 with| .inl x=>x.elim| .inr e=>(bif(decide (j > a.cap))then(bif(decide (e > a.at2))then .inr (k++[({ kind:=3,hour:=b,index:=c,bn:=e,limit:=a.at2}:G2)])else .inr k)else(bif(decide (e > a.at2))then .inr (g++[({ kind:=3,hour:=b,index:=c,bn:=e,limit:=a.at2}:G2)])else .inr g)))
def iI (d:ai)(e:List (List SV))(i:List (pq×Int)×Int)(j f:Nat)(g:List G2):Prop:=letI a:=d.reaches.getD f default;letI b:=(j:Int);letI c:=(f:Int);letI k:=aF .dd .int i.1 ({ index:=c,hour:=b}:pq);letI l:=({ kind:=1,hour:=b,index:=c,bn:=k,limit:=a.cap}:G2);letI h:=decide (k > a.cap);((a.delay<9223372036854775808)/\(∀ s_3,aj (gR d i j f) (Int.toNat (a.delay)) 0 0=.inr s_3->((h=true->((e[g.length]? =some (je l))/\(((decide (s_3 > a.at2))=true->(e[(g++[l]).length]? =some (je ({ kind:=3,hour:=b,index:=c,bn:=s_3,limit:=a.at2}:G2))))/\((decide (s_3 > a.at2))=false->((decide (s_3 > a.at2))=false)))))/\(h=false->((h=false)/\(((decide (s_3 > a.at2))=true->(e[g.length]? =some (je ({ kind:=3,hour:=b,index:=c,bn:=s_3,limit:=a.at2}:G2))))/\((decide (s_3 > a.at2))=false->((decide (s_3 > a.at2))=false))))))))
@[go_sem] def eS (d:ai)(a:List (pq×Int)×Int)(b:Nat)(c:List G2):Empty⊕(List G2):=(match aj (fL d a b) d.reaches.length 0 c with| .inl x=>x.elim| .inr e=>.inr e)
def iJ (d:ai)(c:List (List SV))(a:List (pq×Int)×Int)(b:Nat)(e:List G2):Prop:=(d.reaches.length<=aD->okI (fL d a b) (iI d c a b) d.reaches.length 0 e)
def dQ (b:List Order)(d:ai):List G2:=(match aj (a7 b) b.length 0 ([],0)with| .inl x=>x.elim| .inr a=>(match aj (eS d a) (Int.toNat d.hours) 0 ([]:List G2)with| .inl x=>x.elim| .inr c=>(bif(decide (a.2 > d.atx.start))then(c++[({ kind:=4,hour:=0,index:=0,bn:=a.2,limit:=d.atx.start}:G2)])else c)))
def iu (b:List Order)(d:ai)(a:List (List SV)):Prop:=letI c:=Int.toNat d.hours;(b.length<=aD->(∀ ee,aj (a7 b) b.length 0 ([],0)=.inr ee->((d.hours<9223372036854775808)/\okI (eS d ee) (iJ d a ee) c 0 ([]:List G2)/\(∀ s_1,aj (eS d ee) c 0 ([]:List G2)=.inr s_1->(((decide (ee.2 > d.atx.start))=true->((a[s_1.length]? =some (je ({ kind:=4,hour:=0,index:=0,bn:=ee.2,limit:=d.atx.start}:G2)))/\(a.length=(s_1++[({ kind:=4,hour:=0,index:=0,bn:=ee.2,limit:=d.atx.start}:G2)]).length)))/\((decide (ee.2 > d.atx.start))=false->(a.length=s_1.length)))))))
def zm (E:List Order)(d:ai)(O:List (List SV))(hp:iu E d O):CK prog 175 (λy=>[y,.ep [.rs .order E] 0,.ep (cellsOf .al d) 0]) [] O:=by
 unfold iu at hp;refine D3 mixed aC (fn:=f175) (c:=aa f175) kr kr kr kr rfl (n:=0) rfl (G:=λr_=>CL [] [] (FP O r_)) (λr_ hy=>?_) (λargs w=>by kernel_rfl);have hG:=mGY Q1 Q1 hy;refine⟨hG,nbl rfl,(XO 0 (LCR (ρ:=Empty) (σ:=(List (pq×Int)×Int)) 2 [] [0,1] (λW1 X=>⟨[(0,.os 0),(2,.ep (cellsOf .al d) 0),(4,.os 1),(5,.i X.2),(15,.rs .order E),(16,.i (E.length:Int)),(17,.i W1)],[.ab (r_.1 (([]:List G2).length+1)),.mp .dd .int X.1 none]⟩) (a7 E) pT E.length ([],0) (E.length<=aD) ((·.elim)) ((·.elim))) (XO 2 (LCY (ρ:=Empty) (σ:=(List G2)) 2 [] [0,1] (λW s_1=>⟨[(0,.os 0),(2,.ep (cellsOf .al d) 0),(4,.os 1),(5,.v (.int .i64 (cB (aj (a7 E) E.length 0 ([],0))).2)),(41,.i d.hours),(42,.i W)],[.ab (r_.1 (s_1.length+1)),.mp .dd .int (cB (aj (a7 E) E.length 0 ([],0))).1 none]⟩) (eS d (cB (aj (a7 E) E.length 0 ([],0)))) (iJ d O (cB (aj (a7 E) E.length 0 ([],0)))) (Int.toNat d.hours) ([]:List G2) (d.hours<9223372036854775808) ((·.elim)) ((·.elim)) ⟨[],[.ab (r_.1 0),.dead]⟩) L0)),?_,?_⟩;unfold aa f175;simp only[ak,true_and,and_true];refine⟨?_,?_⟩;refine bG aC hG (λ_=>rfl) (E.length:Int) eE (λhb0 W1 X aue _ hw hc=>⟨L0,ag _,qQ (jl [0,1])⟩) λhb0 X hc=>qR (jl [0,1]);refine vA aC hG (λ_=>rfl) d.hours id (λhb1 W s_1 auI hq1 hw hc=>⟨(XO 4 (LCY (ρ:=Empty) (σ:=(List G2)) 2 [] [0,1] (λV Y=>⟨[(0,.os 0),(2,.ep (cellsOf .al d) 0),(4,.os 1),(5,.v (.int .i64 (cB (aj (a7 E) E.length 0 ([],0))).2)),(8,.i W),(41,.i d.hours),(42,.i W),(46,.rs .reach d.reaches),(47,.i (d.reaches.length:Int)),(48,.i V)],[.ab (r_.1 (Y.length+1)),.mp .dd .int (cB (aj (a7 E) E.length 0 ([],0))).1 none]⟩) (fL d (cB (aj (a7 E) E.length 0 ([],0))) W) (iI d O (cB (aj (a7 E) E.length 0 ([],0))) W) d.reaches.length s_1 (d.reaches.length<=aD) ((·.elim)) ((·.elim)) ⟨[],[.ab (r_.1 0),.dead]⟩) L0),?_,?_⟩) (λhb1 s_1 hc=>?_);simp only[ak,true_and,and_true];refine vA aC hG (λ_=>rfl) (d.reaches.length:Int) eE (λhb2 V Y hlt2 hq2 hw hc=>⟨(XO 6 (LCR (ρ:=Empty) (σ:=Int) 3 [] [0,1,2] (λk_3 s_3=>⟨[(0,.os 0),(2,.ep (cellsOf .al d) 0),(4,.os 1),(5,.v (.int .i64 (cB (aj (a7 E) E.length 0 ([],0))).2)),(8,.i W),(9,.i V),(10,.ptr 2 0),(11,.i s_3),(41,.i d.hours),(42,.i W),(46,.rs .reach d.reaches),(47,.i (d.reaches.length:Int)),(48,.i V),(54,.i ((d.reaches.getD V (default:Reach)).delay)),(55,.i k_3)],[.ab (r_.1 (Y.length+1)),.mp .dd .int (cB (aj (a7 E) E.length 0 ([],0))).1 none,.cells (cellsOf .reach (d.reaches.getD V (default:Reach)))]⟩) (gR d (cB (aj (a7 E) E.length 0 ([],0))) W V) pT (Int.toNat ((d.reaches.getD V (default:Reach)).delay)) 0 ((d.reaches.getD V (default:Reach)).delay<9223372036854775808) ((·.elim)) ((·.elim))) L0),?_,?_⟩) (λhb2 Y hc=>?_);simp only[ak,true_and,and_true];refine bG aC hG (λ_=>rfl) ((d.reaches.getD V (default:Reach)).delay) id (λhb3 k_3 s_3 hlt3 _ hw hc=>⟨L0,ag _,qQ (jl [0,1,2])⟩) λhb3 s_3 hc=>qR (jl [0,1,2]);simp only[iI,hw,aqa]at hq2
 exact qQ (jl [0,1]);exact qR (jl [0,1]);simp only[iJ,hw,aqa]at hq1
 exact qQ (jl [0,1]);exact qR (jl [0,1]);unfold aa f175;exact QU (jl [0])
@[go_sem] def lL (c:List Order)(d:ai)(b:G2)(a:Int×Int×Int×Int×Int):Empty⊕(Int×Int×Int×Int×Int):=(bif(((a.1==0)&&((a.2.1==0)&&((a.2.2.1==0)&&((a.2.2.2.1==0)&&(a.2.2.2.2==0))))) ||(decide ((fY ([(bv b.hour a.2.1),(bv a.2.2.1 b.index)])) <0)))then .inr (b.kind,b.hour,b.index,b.bn,b.limit)else .inr (a.1,a.2.1,a.2.2.1,a.2.2.2.1,a.2.2.2.2))
def Ac (a:List Order)(d:ai)(b:G2)(c:Int×Int×Int×Int×Int):Prop:=True
def uh (b:List Order)(d:ai):G2:=(match cS (lL b d) (c9 b d) (0,0,0,0,0)with| .inl x=>x.elim| .inr a=>({ kind:=a.1,hour:=a.2.1,index:=a.2.2.1,bn:=a.2.2.2.1,limit:=a.2.2.2.2}:G2))
def rk (a:List Order)(d:ai):Prop:=(jE a d ((c9 a d).map je))
@[go_sem] noncomputable def Do:FI:=(pFn 174 (pXR .order λout=>(pX .al λd=>(pE ((pE (.det (rk out d) (.agg (cellsOf .fault (uh out d))))))))))
variable {p:Prop}
def amD(h:p:=by simp only[go_sem,e0_0,e0_1]):p:=h
variable {l0:List Nat}
def amE(a0:JL l0)(h:JL l0->p:=by intro ja;simp only[go_sem,lL,psT,je,aqB,aqs];all_goals exact tK ja):p:=h a0
theorem B4:P0 prog 110 Do:=by
 have hG:=mG (cp fg (cn [.sl .int] vW Q1)) Q1;refine fN hG f110 [.st .fault] (qH (CO λout=>(gO λd=>(am ((am (λO=>?_)))))));dsimp only[an,rk]at O;refine⟨nbl rfl,(XO 0 (λst=>LC (ρ:=Empty) (σ:=Int×Int×Int×Int×Int) (lk 2 st.t=.ptr 0 0/\lk 4 st.t=.fn 174 [] [.ep [.rs .order out] 0,.ep (cellsOf .al d) 0]/\st.h=[.cells [.i 0,.i 0,.i 0,.i 0,.i 0]]/\jE out d ((c9 out d).map je)) (cS (lL out d) (c9 out d) (0,0,0,0,0)) (λx=>x.elim) (λx=>x.elim) (λE=>⟨[(2,.ptr 0 0)],[.cells [.i E.1,.i E.2.1,.i E.2.2.1,.i E.2.2.2.1,.i E.2.2.2.2]]⟩)) L0),?_,?_⟩
 ·unfold aa f110;simp only[ak,true_and,and_true]
  ·refine uR mixed aC hG (by decide) (by decide) kr kr λst Y V O=>?_;simp only[go_sem,Nat.reduceBEq,aqd]at V;subst V;obtain⟨t,h⟩:=st;dsimp only[LC]at O;obtain⟨e0_0,e0_1,rfl,hb0⟩:=O;refine⟨174,[.ep [.rs .order out] 0,.ep (cellsOf .al d) 0],G2,_,_,(c9 out d),je,(lL out d),(Ac out d),_,(0,0,0,0,0),_,_,_,[(2,.ptr 0 0)],(λE=>[.cells [.i E.1,.i E.2.1,.i E.2.2.1,.i E.2.2.2.1,.i E.2.2.2.2]]),(λx=>x.elim),[0],?_,rfl,GL _ _ λ_ _ _=>trivial,nbl rfl,?_,A7 out d _ hb0,λW E X=>⟨rfl,L0,λl=>?_,λl=>?_,?_⟩,λE=>?_,λy=>?_⟩;exact amD
   ·simp only[go_sem,ww,lB,aqx,arp,aqs,aqo,aq4,e0_0,e0_1];all_goals (first|done|decide|(repeat' (first|refine And.intro ?_ ?_|rfl|decide)))
   simp only[ak,and_self,true_and,and_true];simp only[ak,and_self,true_and,and_true]
   skip
   exact amE (jl [0]);exact cD (jl [0]);exact cD (jl [0])
 unfold aa f110;try unfold uh
 exact zq1
@[go_sem] def lM (d:ai)(c:List Claim)(a:G2)(b:Unit):(Int×Int×Int×Int×Int)⊕Unit:=.inl (a.kind,a.hour,a.index,a.bn,a.limit)
def Ad (d:ai)(c:List Claim)(a:G2)(b:Unit):Prop:=True
def b_ (d:ai)(c:List Claim):List Order×G2×Int:=letI e:=aO d c;letI a:=aH d (e.1);(bif(e.2 !=0)then([],({ kind:=0,hour:=0,index:=0,bn:=0,limit:=0}:G2),e.2)else(bif(a.2.2 !=0)then([],({ kind:=0,hour:=0,index:=0,bn:=0,limit:=0}:G2),a.2.2)else(bif(!a.2.1)then([],(uh (e.1) d),0)else(match cS (lM d c) (dQ (a.1) d) ()with| .inl b=>([],({ kind:=b.1,hour:=b.2.1,index:=b.2.2.1,bn:=b.2.2.2.1,limit:=b.2.2.2.2}:G2),0) | .inr f=>(a.1,({ kind:=0,hour:=0,index:=0,bn:=0,limit:=0}:G2),0)))))
def kl (d:ai)(c:List Claim):Prop:=letI b:=aO d c;letI a:=aH d (b.1);((mL d c)/\((b.2 !=0)=false->((ri d (b.1))/\((a.2.2 !=0)=false->(((!a.2.1)=true->(rk (b.1) d))/\((!a.2.1)=false->(iu (a.1) d ((dQ (a.1) d).map je))))))))
@[go_sem] def Dp:FI:=(pD .al λd=>(pR .B1 λc=>(pE (.det (kl d c) (.tup [.rs .order ((b_ d c).1),.agg (cellsOf .fault ((b_ d c).2.1)),.i ((b_ d c).2.2)])))))
theorem amF(h:p:=by simp only[go_sem,e0_0,e0_1,e0_2,e0_3]):p:=h
def amG(a0:JL l0)(h:JL l0->p:=by intro ja;simp only[go_sem,lM,psT,je,aqB,aqs];all_goals exact tK ja):p:=h a0
theorem vZ:P0 prog 57 Dp:=by
 have hG:=mG (cn [.st .al,.sl .B1] BY (cn [.st .al,.sl .order] Gl (cp B4 (cn [.st .al,.sl .order] Dn (cn [.st .al,.sl .order] A8 Q1))))) Q1;refine fN hG f57 [.sl .order,.st .fault,.o] (ap λd=>(aZ λc=>(am (λV=>?_))));dsimp only[an,kl]at V;refine⟨nbl rfl,(XO 0 (λst=>LC (ρ:=Int×Int×Int×Int×Int) (σ:=Unit) (lk 4 st.t=.ptr 1 0/\lk 5 st.t=.ptr 2 0/\lk 6 st.t=.ptr 3 0/\lk 39 st.t=.fn 175 [] [.ep [.rs .order ((aH d ((aO d c).1)).1)] 0,.ep (cellsOf .al d) 0]/\st.h=[.cells (cellsOf .al d),.cells [.rs .order ((aH d ((aO d c).1)).1)],.cells [.i 0,.i 0,.i 0,.i 0,.i 0],.cells [.i ((aH d ((aO d c).1)).2.2)]]/\iu ((aH d ((aO d c).1)).1) d ((dQ ((aH d ((aO d c).1)).1) d).map je)) (cS (lM d c) (dQ ((aH d ((aO d c).1)).1) d) ()) (λ_=>.ret) (λE=>⟨[(4,.ptr 1 0),(5,.ptr 2 0),(6,.ptr 3 0)],[.dead,.cells [.v (.slice none 0 0)],.cells [.i E.1,.i E.2.1,.i E.2.2.1,.i E.2.2.2.1,.i E.2.2.2.2],.cells [.i 0]]⟩) (λO=>⟨[(4,.ptr 1 0),(5,.ptr 2 0),(6,.ptr 3 0)],[.dead,.cells [.rs .order ((aH d ((aO d c).1)).1)],.cells [.i 0,.i 0,.i 0,.i 0,.i 0],.cells [.i ((aH d ((aO d c).1)).2.2)]]⟩)) L0),?_,?_⟩
 ·unfold aa f57;simp only[ak,true_and,and_true]
  ·refine uR mixed aC hG (by decide) (by decide) kr kr λst lc W V=>?_;simp only[go_sem,Nat.reduceBEq,aqd]at W;subst W;obtain⟨t,h⟩:=st;dsimp only[LC]at V;obtain⟨e0_0,e0_1,e0_2,e0_3,rfl,hb0⟩:=V;refine⟨175,[.ep [.rs .order ((aH d ((aO d c).1)).1)] 0,.ep (cellsOf .al d) 0],G2,_,_,(dQ ((aH d ((aO d c).1)).1) d),je,(lM d c),(Ad d c),_,(),_,_,_,[(4,.ptr 1 0),(5,.ptr 2 0),(6,.ptr 3 0)],(λO=>[.dead,.cells [.rs .order ((aH d ((aO d c).1)).1)],.cells [.i 0,.i 0,.i 0,.i 0,.i 0],.cells [.i ((aH d ((aO d c).1)).2.2)]]),(λE=>[.dead,.cells [.v (.slice none 0 0)],.cells [.i E.1,.i E.2.1,.i E.2.2.1,.i E.2.2.2.1,.i E.2.2.2.2],.cells [.i 0]]),[0,1,2,3],?_,rfl,GL _ _ λ_ _ _=>trivial,nbl rfl,?_,zm ((aH d ((aO d c).1)).1) d _ hb0,λX O Y=>⟨rfl,L0,λl=>?_,λl=>?_,?_⟩,λO=>?_,λy=>?_⟩;exact amF
   ·simp only[go_sem,ww,lB,aqx,arp,aqs,aqo,aq4,e0_0,e0_1,e0_2,e0_3];all_goals (first|done|decide|(repeat' (first|refine And.intro ?_ ?_|rfl|decide)))
   simp only[ak,and_self,true_and,and_true];simp only[ak,and_self,true_and,and_true]
   skip
   exact amG (jl [0,1,2,3]);exact cD (jl [0,1,2,3]);exact cD (jl [0,1,2,3])
 unfold aa f57;try unfold b_
 exact zq1
def ei (d:ai)(c:List Claim):List Order×Bool×Int:=letI a:=b_ d c;(a.1,((a.2.2==0)&&(((a.2.1).kind==0)&&(((a.2.1).hour==0)&&(((a.2.1).index==0)&&(((a.2.1).bn==0)&&((a.2.1).limit==0)))))),a.2.2)
def kY (d:ai)(c:List Claim):Prop:=(kl d c)
@[go_sem] def EI:FI:=(pD .al λd=>(pR .B1 λc=>(pE (.det (kY d c) (.tup [.rs .order ((ei d c).1),.v (.bool ((ei d c).2.1)),.i ((ei d c).2.2)])))))
theorem Dq:P0 prog 18 EI:=fN (mG (cn [.st .al,.sl .B1] vZ Q1) Q1) f18 [.sl .order,.o,.o] (ap λd=>aZ λc=>am λE=>Pq @ei.eq_1 @kY.eq_1)
def bM (d:ai)(c:List Claim):G2×Bool×Int:=letI b:=b_ d c;letI a:=b.2.1;(a,(!((a.kind==0)&&((a.hour==0)&&((a.index==0)&&((a.bn==0)&&(a.limit==0)))))),b.2.2)
def mM (d:ai)(c:List Claim):Prop:=(kl d c)
@[go_sem] def Dt:FI:=(pD .al λd=>(pR .B1 λc=>(pE (.det (mM d c) (.tup [.agg (cellsOf .fault ((bM d c).1)),.v (.bool ((bM d c).2.1)),.i ((bM d c).2.2)])))))
theorem v6:P0 prog 34 Dt:=fN (mG (cn [.st .al,.sl .B1] vZ Q1) Q1) f34 [.st .fault,.o,.o] (ap λd=>aZ λc=>am λE=>Pq @bM.eq_1 @mM.eq_1)
abbrev UM:=List (pq×Bool)
abbrev WM:=List (pq×Int)
def sl (a b:Int):pq:= { index:=a,hour:=b}
def ltF (k:Nat)(r n:Int):G2:= { kind:=7,hour:=(k:Int),index:=r,bn:=n,limit:=0}
section
variable {d:ai}{s1:List G2×WM×UM×Int}{k:Nat}{u:UM}{F:List G2}{w:WM}
theorem Xi (O:aF .dd .bool u (sl s1.2.2.2 k)=true):∃ E,az d s1 k (u,F,w)=.inr (E,F,w):=by
 simp_all [az,sl]
theorem EJ (E:aF .dd .bool u (sl s1.2.2.2 k)=false)(hn:aF .dd .int w (sl s1.2.2.2 k)=0):az d s1 k (u,F,w)=.inr (u,F,w):=by
 simp_all [az,sl]
theorem RN (O:aF .dd .bool u (sl s1.2.2.2 k)=false)(hn:aF .dd .int w (sl s1.2.2.2 k)≠0)
  (E:(aw (rch d s1.2.2.2) (aF .dd .int w (sl s1.2.2.2 k))).2=false\/(k:Int) < (rch d s1.2.2.2).delay):
  ∃ X,az d s1 k (u,F,w)=.inr (X,F++[ltF k s1.2.2.2 (aF .dd .int w (sl s1.2.2.2 k))],w):=by
 unfold az ltF;unfold sl at O hn E |-;simp only[O];generalize Y:aF .dd .int w ({ index:=s1.2.2.2,hour:=(k:Int)}:pq)=n at hn E |-;have V:(n==0)=false:=XN
 rw[V];unfold aw at E;by_cases W:n<=1073741824
 rw[decide_eq_true W];have h2:((!(dV (d.reaches.getD (Int.toNat s1.2.2.2) (default:Reach)) n).2.1) ||(decide ((k:Int) < (d.reaches.getD (Int.toNat s1.2.2.2) (default:Reach)).delay)))=true:=by
  grind
 rw[h2];grind
 simp_all [decide_eq_false]
theorem EK (O:aF .dd .bool u (sl s1.2.2.2 k)=false)(hn:aF .dd .int w (sl s1.2.2.2 k)≠0)
  (E:(aw (rch d s1.2.2.2) (aF .dd .int w (sl s1.2.2.2 k))).2=true) (V:¬ (k:Int) < (rch d s1.2.2.2).delay):
  az d s1 k (u,F,w)=.inr (u,F,cy .dd .int w (sl (rch d s1.2.2.2).up (i64.wrap ((k:Int) - (rch d s1.2.2.2).delay))) (i64.wrap (aF .dd .int w (sl (rch d s1.2.2.2).up (i64.wrap ((k:Int) - (rch d s1.2.2.2).delay)))+(aw (rch d s1.2.2.2) (aF .dd .int w (sl s1.2.2.2 k))).1))):=by
 unfold az;unfold sl at O hn E |-;unfold aw at E |-;grind
theorem aaU:∃ E T w',az d s1 k (u,F,w)=.inr (E,F++T,w')/\∀ f∈T,f.kind=7:=by
 cases O:aF .dd .bool u (sl s1.2.2.2 k)with
 |true=>obtain⟨E,e⟩:=Xi (F:=F) (w:=w) O;exact⟨E,[],w,by rw[e,aqo],by simp⟩
 |false=>
  by_cases hn:aF .dd .int w (sl s1.2.2.2 k)=0
  exact⟨u,[],w,by rw[EJ O hn,aqo],by simp⟩;by_cases V:(aw (rch d s1.2.2.2) (aF .dd .int w (sl s1.2.2.2 k))).2=false\/(k:Int) < (rch d s1.2.2.2).delay
  have⟨E,e⟩:=RN (F:=F) O hn V;grind [ltF]
  have h1:(aw (rch d s1.2.2.2) (aF .dd .int w (sl s1.2.2.2 k))).2=true:=by
   grind
  exact⟨u,[],_,by rw[EK O hn h1 (λq=>V (.inr q)),aqo],by simp⟩
end
section
variable {d:ai}{s1:List G2×WM×UM×Int}{items:List (List SV)}
theorem Du:∀ (n k:Nat) (u:UM) (F:List G2) (w:WM),∃ E T w',aj (az d s1) n k (u,F,w)=.inr (E,F++T,w')/\∀ f∈T,f.kind=7
 |0,k,u,F,w=>⟨u,[],w,by rw[aqo];rfl,by simp⟩
 |n+1,k,u,F,w=>by
  have⟨u1,T1,w1,e1,h1⟩:=aaU (d:=d) (s1:=s1) (k:=k) (u:=u) (F:=F) (w:=w);have⟨u2,T2,w2,e2,h2⟩:=Du n (k+1) u1 (F++T1) w1;grind [aj]
variable {F:List G2}
theorem GU{f:G2}(h:(F++[f]).map je<+:items):items[F.length]? =some (je f):=by
 obtain⟨t,rfl⟩:=h;simp
theorem adF{k:Nat}{u:UM}{w:WM}(h:∀ f,(∃ V w',az d s1 k (u,F,w)=.inr (V,F++[f],w'))->items[F.length]? =some (je f)):gQ d items s1 k (u,F,w):=by
 intro W hn;refine⟨λE=>⟨OJ _ _,λO=>h _ ?_⟩,λE O=>h _ ?_⟩;unfold az;simp only[W,hn,E,O];grind
 unfold az;simp[hn,E];simp_all
theorem aaV:∀ (n k:Nat) (u:UM) (F:List G2) (w:WM),(∀ E V O,aj (az d s1) n k (u,F,w)=.inr (E,V,O)->V.map je<+:items)->okI (az d s1) (gQ d items s1) n k (u,F,w)
 |0,_,_,_,_,_=>trivial
 |n+1,k,u,F,w,h=>by
  refine⟨adF λf ⟨W,w',e⟩ =>?_,λs' e=>?_⟩;have⟨E,T2,O,X,_⟩:=Du (d:=d) (s1:=s1) n (k+1) W (F++[f]) w';have:=h E (F++[f]++T2) O (by grind [aj]);refine GU (ar2 ?_ this);grind
  have⟨W,F',w'⟩:=s';exact aaV n (k+1) W F' w' λE V O X=>h E V O (by grind [aj])
end
section
variable {d:ai}{items:List (List SV)}
variable {F:List G2}{w:WM}
theorem aaW{j:Nat}{u:UM}{i:Int}(h:i<0):cm d j (F,w,u,i)=.inl F:=by
 simp_all [cm,decide_eq_false]
theorem RO{j:Nat}{F':List G2}{w':WM}{u E:UM}{i:Int}(O:0<=i)(h1:i<=1000000)(e:aj (az d (F,w,u,i)) (Int.toNat d.hours) 0 (u,F,w)=.inr (E,F',w')):
  cm d j (F,w,u,i)=.inr (F',w',E,i - 1):=by
 unfold cm;grind [ar]
theorem GV:∀ (m n j:Nat) (F:List G2) (w:WM) (u:UM),m<n->m<=1000000->∃ T,aj (cm d) n j (F,w,u,(m:Int) - 1)=.inl (F++T)/\∀ f∈T,f.kind=7
 |0,n+1,j,F,w,u,_,_=>⟨[],by grind [aj,aaW],by simp⟩
 |m+1,n+1,j,F,w,u,h,hm=>by
  have⟨u1,T1,w1,e1,h1⟩:=Du (d:=d) (s1:=(F,w,u,((m+1:Nat):Int) - 1)) (Int.toNat d.hours) 0 u F w;have⟨T2,e2,h2⟩:=GV m n (j+1) (F++T1) w1 u1 XM XM;simp[aj];grind [RO]
theorem VD (O:d.hours<=4096):∀ (m n j:Nat) (F:List G2) (w:WM) (u:UM),m<n->m<=1000000->m<=d.reaches.length->(∀ x,aj (cm d) n j (F,w,u,(m:Int) - 1)=.inl x->x.map je<+:items)->
  okI (cm d) (jM d items) n j (F,w,u,(m:Int) - 1)
 |0,n+1,j,F,w,u,_,_,_,h=>by
  refine⟨λq=>?_,λs' e=>?_⟩;grind
  grind [aaW]
 |m+1,n+1,j,F,w,u,hmn,hm,hR,h=>by
  have⟨u1,T1,w1,e1,h1⟩:=Du (d:=d) (s1:=(F,w,u,((m+1:Nat):Int) - 1)) (Int.toNat d.hours) 0 u F w;have E:=RO (j:=j) (d:=d) XM XM e1;rw[show((m+1:Nat):Int) - 1 - 1=(m:Int) - 1 by omega]at E;refine⟨λq=>⟨XN,XM,aaV _ _ _ _ _ λV X w2 W=>?_⟩,λs' e=>?_⟩;have⟨T2,e4,_⟩:=GV (d:=d) m n (j+1) (F++T1) w1 u1 XM XM;have:=h _ (by simp only[aj];rw[E];exact e4);refine ar2 ?_ this;grind
  rw[E]at e;simp[aqW]at e;subst e;exact VD O m n (j+1) (F++T1) w1 u1 XM XM XM λx Y=>h x (by grind [aj])
end
def Eqv (w:WM)(m:Mp):Prop:= ∀ a b,aF .dd .int w (sl a b)=aF .atv .int m (a,b)
theorem aaX {a b x y:Int}:(sl x y=sl a b)=((x,y)=(a,b)):=by
 grind [sl]
theorem Eqv.put {w:WM}{m:Mp}(h:Eqv w m)(a b v:Int):Eqv (cy .dd .int w (sl a b) v) (cy .atv .int m (a,b) v):=λx y=>by
 rw[nz,nz,h];simp_all [aaX]
theorem Ae {ρ σ τ:Type}(step:τ->σ->ρ⊕σ):∀ (A B:List τ) (s:σ),cS step (A++B) s=match cS step A s with| .inl y=>.inl y| .inr s'=>cS step B s'
 | [],B,s=>rfl
 |x::A,B,s=>by
  simp[aqB,cS];cases h:step x s with
  |inl y=>rfl|inr s'=>exact Ae step A B s'
section
variable {d:ai}{out:List Order}
theorem ae6:∀ (n k:Nat) (w:WM) (m E:Mp),Eqv w m->aj (bT d out) n k m=.inr E->∃ w',aj (d8 out d) n k w=.inr w'/\Eqv w' E
 |0,k,w,m,E,h,e=>by
  grind [aj]
 |n+1,k,w,m,E,h,e=>by
  simp[aj]at e |-;cases O:bT d out k m with
  |inl x=>grind
  |inr m1=>
   rw[O]at e;refine ae6 n (k+1) _ m1 E ?_ e;unfold bT at O;cases V:(out.getD k (default:Order)).S2 with
   |false=>grind
   |true=>
    rw[V]at O;simp only[aqE,cond_false,aqW]at O;subst O;have h1:=h (d.zs.getD (Int.toNat ((out.getD k (default:Order)).index)) (default:auy)).reach (out.getD k (default:Order)).hour;have:=h.put (d.zs.getD (Int.toNat ((out.getD k (default:Order)).index)) (default:auy)).reach (out.getD k (default:Order)).hour (i64.wrap ((aF .atv .int m ((d.zs.getD (Int.toNat ((out.getD k (default:Order)).index)) (default:auy)).reach,(out.getD k (default:Order)).hour))+(out.getD k (default:Order)).bn));rw[<-h1]at this |-;exact this
def OV (s:pq):aF .dd .bool [] s=false:=rfl
theorem JB {s1:List G2×WM×UM×Int}{r:Nat}(O:s1.2.2.2=(r:Int)){H:Nat}:∀ (n k:Nat) (l:List Order) (m:Mp) (w:WM),k+n=H->Eqv w m->
  (∃ l' Y w',cS (aI d) (CQ r H k) (l,m)=.inr (l',Y)/\aj (az d s1) n k ([],[],w)=.inr ([],[],w')/\Eqv w' Y)\/
  ((∃ y,cS (aI d) (CQ r H k) (l,m)=.inl y)/\∃ W F' w',aj (az d s1) n k ([],[],w)=.inr (W,F',w')/\F'≠[])
 |0,k,l,m,w,hk,h=>by
  have:k=H:=XM
  subst this;rw[xr];exact .inl ⟨l,m,w,rfl,rfl,h⟩
 |n+1,k,l,m,w,hk,h=>by
  rw[rX (by omega:k<H)];have hg:=h (r:Int) (k:Int);rw[<-O]at hg;simp only[cS,aj];by_cases E:aF .dd .int w (sl s1.2.2.2 k)=0
  have V:aI d ((r:Int),(k:Int)) (l,m)=.inr (l,m):=by
   simp_all [aI]
  rw[V,EJ (OV _) E];exact JB O n (k+1) l m w XM h;by_cases hb:(aw (rch d s1.2.2.2) (aF .dd .int w (sl s1.2.2.2 k))).2=false\/(k:Int) < (rch d s1.2.2.2).delay
  refine .inr ⟨?_,?_⟩;have V:aI d ((r:Int),(k:Int)) (l,m)=.inl m:=by
   unfold aI;grind
  grind
  have⟨W,e⟩:=RN (F:=[]) (OV _) E hb;have⟨u2,T2,w2,e2,_⟩:=Du (d:=d) (s1:=s1) n (k+1) W ([]++[ltF k s1.2.2.2 (aF .dd .int w (sl s1.2.2.2 k))]) w;grind
  have X:(aw (rch d s1.2.2.2) (aF .dd .int w (sl s1.2.2.2 k))).2=true:=by
   grind
  have hk2:¬ (k:Int) < (rch d s1.2.2.2).delay:=λq=>hb (.inr q);rw[EK (OV _) E X hk2];rw[hg]at E X |-;rw[O]at E X hk2 |-;have V:aI d ((r:Int),(k:Int)) (l,m)=.inr (l++[({ hour:=(i64.wrap ((k:Int) - (rch d (r:Int)).delay)),index:=(r:Int),bn:=(aw (rch d (r:Int)) (aF .atv .int m ((r:Int),(k:Int)))).1,S2:=false}:Order)],cy .atv .int m ((rch d (r:Int)).up,i64.wrap ((k:Int) - (rch d (r:Int)).delay)) (i64.wrap ((aF .atv .int m ((rch d (r:Int)).up,i64.wrap ((k:Int) - (rch d (r:Int)).delay)))+(aw (rch d (r:Int)) (aF .atv .int m ((r:Int),(k:Int)))).1))):=by
   unfold aI;grind
  rw[V,h];exact JB O n (k+1) _ _ _ XM (h.put _ _ _)
theorem RP:∀ (m n j:Nat) (l:List Order) (md:Mp) (w:WM),m<n->m<=1000000->Eqv w md->(∃ y,cS (aI d) (yb d.hours.toNat m) (l,md)=.inl y)->
  ∃ T,aj (cm d) n j ([],w,[],(m:Int) - 1)=.inl T/\T≠[]
 |0,n,j,l,md,w,_,_,_,⟨y,e⟩ =>by simp[yb,cS]at e
 |m+1,n+1,j,l,md,w,hmn,hm,h,⟨y,e⟩ =>by
  rw[xu]at e;have O:(([],w,[],((m+1:Nat):Int) - 1):List G2×WM×UM×Int).2.2.2=(m:Int):=XN
  rcases JB (d:=d) O (H:=d.hours.toNat) d.hours.toNat 0 l md w XM h with⟨l',E,w',X,W,h'⟩ | ⟨_,Y,F',w',W,V⟩;rw[Ae,X]at e;have⟨T,e3,hT⟩:=RP m n (j+1) l' E w' XM XM h' ⟨y,e⟩;simp[aj];grind [RO]
  have⟨T,e3,_⟩:=GV (d:=d) m n (j+1) F' w' Y XM XM;refine⟨F'++T,?_,by simp[V]⟩;simp[aj];grind [RO]
theorem JD (hr:atq d)(O:atC d out)(E:∀ x∈out,x.S2=true):∃ w0,aj (d8 out d) out.length 0 []=.inr w0/\(∃ m,aj (bT d out) out.length 0 []=.inr m/\Eqv w0 m)/\
  aj (cm d) (d.reaches.length+1) 0 ([],w0,[],i64.wrap ((d.reaches.length:Int) - 1))=.inl (c9 out d)/\∀ f∈c9 out d,f.kind=7:=by
 have⟨m,hm⟩:=(AM hr O).2.2 E;have⟨w0,e0,h0⟩:=ae6 out.length 0 [] [] m (λ_ _=>rfl) hm;have V:=hr.reaches;have⟨T,e1,h1⟩:=GV (d:=d) d.reaches.length (d.reaches.length+1) 0 [] w0 [] XM XM;have hw:i64.wrap ((d.reaches.length:Int) - 1)=(d.reaches.length:Int) - 1:=ar XM XM;grind [c9]
theorem ahP (hr:atq d)(V:atC d out)(E:∀ x∈out,x.S2=true):jE out d ((c9 out d).map je):=by
 have⟨w0,e0,_,e1,_⟩:=JD hr V E;intro _;have hR:=hr.reaches;have Y:=hr.hours;refine⟨?_,λW hs _=>?_⟩;have O:∀ j s,0<=j->j<0+out.length->jL out d j s:=λj s _ hj=>by
  have h1:=V.one j XM;have h2:(out.getD j (default:Order)).S2=true:=E _ (AJ _ _ XM);exact⟨h1.auM,h1.gl h2⟩
 exact gq (λ_ _=>True) _ _ _ trivial λj s h1 h2 _=>⟨O j s h1 h2,λ_ _=>trivial⟩;have hw:i64.wrap ((d.reaches.length:Int) - 1)=(d.reaches.length:Int) - 1:=ar XM XM;refine⟨?_,λz hz=>?_,λx X=>?_⟩;rw[hw]at e1 |-;exact VD Y _ _ _ _ _ _ XM XM (aqb _) λx X=>by
  grind
 grind
 grind
theorem adG (hr:atq d)(W:atC d out)(E:∀ x∈out,x.S2=true)(V:(aH d out).2.1=false)(O:(aH d out).2.2=0):c9 out d≠[]:=by
 have⟨w0,e0,⟨m,hm,h0⟩,e1,_⟩:=JD hr W E;have X:=hr.reaches;have hw:i64.wrap ((d.reaches.length:Int) - 1)=(d.reaches.length:Int) - 1:=ar XM XM;have hy:∃ y,cS (aI d) (cd d) (out,m)=.inl y:=by
  cases q:cS (aI d) (cd d) (out,m)with
  |inl y=>grind
  |inr s=>
   unfold aH at V O;grind
 have⟨T,e3,hT⟩:=RP (d:=d) d.reaches.length (d.reaches.length+1) 0 out m w0 XM XM h0 hy;grind
end
theorem EL {f:Nat->List G2}{step:Nat->List G2->Empty⊕List G2}:∀ (n i:Nat) (s:List G2),(∀ j s,i<=j->j<i+n->step j s=.inr (s++f j))->aj step n i s=.inr (s++(List.range' i n).flatMap f)
 |0,i,s,_=>by simp[aj]
 |n+1,i,s,h=>by
  simp[aj,h i s (aqb _) XM];rw[EL n (i+1) (s++f i) λj s h1 h2=>h j s XM XM];simp[arJ]
theorem JE {f:Nat->List G2}{step:Nat->List G2->Empty⊕List G2}{p:Nat->List G2->Prop}{items:List (List SV)}:∀ (n i:Nat) (s:List G2),(∀ j s,i<=j->j<i+n->step j s=.inr (s++f j))->
  (∀ j s,i<=j->j<i+n->(s++f j).map je<+:items->p j s)->(s++(List.range' i n).flatMap f).map je<+:items->okI step p n i s
 |0,_,_,_,_,_=>trivial
 |n+1,i,s,h,hp,hi=>by
  rw[arJ,aqx,<-aqY]at hi;refine⟨hp i s (aqb _) XM (ar2 XN hi),λs' e=>?_⟩;rw[h i s (aqb _) XM]at e;simp[aqW]at e;subst e;exact JE n (i+1) (s++f i) (λj s h1 h2=>h j s XM XM) (λj s h1 h2=>hp j s XM XM) hi
def g0P (x:Order):Bool:= !x.S2&&x.index==0
section
variable {d:ai}{l:List Order}
theorem T8 (O:atC d l):∃ s0,aj (a7 l) l.length 0 ([],0)=.inr s0/\(∀ r h,aF .dd .int s0.1 (sl r h)=fS (g9 r h h) l)/\s0.2=fS g0P l:=by
 have⟨s,e,h1,h2⟩:=OO (step:=a7 l) (λj s=>(∀ r h,aF .dd .int s.1 (sl r h)=fS (g9 r h h) (l.take j))/\s.2=fS g0P (l.take j)) l.length 0 ([],0) ⟨λ_ _=>rfl,rfl⟩ (λj s _ E ⟨h1,h2⟩ =>by
  have E:j<l.length:=XM
  have hb:=VB O g0P j;have V:=O.lit _ (aqL E);unfold a7;rw[ib _ _ E];cases W:l[j].S2 with
  |true=>
   grind [xJ,g9,g0P]
  |false=>
   have Y:∀ r h,aF .dd .int (cy .dd .int s.1 (sl l[j].index l[j].hour) l[j].bn) (sl r h)=fS (g9 r h h) (l.take (j+1)):=λr h=>by
    rw[nz,xJ E];by_cases q:r=l[j].index/\h=l[j].hour
    obtain⟨rfl,rfl⟩:=q;have X:g9 l[j].index l[j].hour l[j].hour l[j]=true:=by grind [g9]
    rw[X,Xg O E (λx hx=>?_)];simp;unfold g9 at hx;grind
    have X:g9 r h h l[j]=false:=by
     cases hc:g9 r h h l[j]with
     |false=>rfl
     |true=>
      unfold g9 at hc;grind
    simp_all [aaX]
   by_cases h0:l[j].index=0
   have hb0:(l[j].index==0)=true:=by rw[h0];rfl
   simp only[hb0];refine⟨_,rfl,Y,?_⟩;have:g0P l[j]=true:=by grind [g0P]
   rw[xJ E,this,h2,ar XM XM,cond_true];have hb0:(l[j].index==0)=false:=XN
   simp only[hb0];refine⟨_,rfl,Y,?_⟩;grind [g0P,xJ])
 grind
theorem aaY (E:atC d l){s0:WM×Int}(W:∀ r h,aF .dd .int s0.1 (sl r h)=fS (g9 r h h) l)(h i:Nat)(hh:h<=1000000)(n:Nat)(hn:n<=1000000):
  aj (gR d s0 h i) n 0 0=.inr (fS (g9 i ((h:Int) - n+1) h) l):=by
 have⟨s,e,h1⟩:=OO (step:=gR d s0 h i) (λj s=>s=fS (g9 i ((h:Int) - j+1) h) l) n 0 0 (oj (λx _=>by
   cases hc:g9 i ((h:Int) - (0:Nat)+1) h x with
   |false=>rfl
   |true=>
    unfold g9 at hc;grind)).symm (λj s _ hj X=>by
  refine⟨_,rfl,?_⟩;have O:=W (i:Int) ((h:Int) - (j:Int));unfold sl at O;have V:=aaS E (i:Int) (a:=(h:Int) - j) (m:=(h:Int) - j+1) (b:=(h:Int)) XM XM;have e3:=aaR E (g9 i ((h:Int) - j) ((h:Int) - j));have Y:=aaR E (g9 i ((h:Int) - j+1) h);rw[show(h:Int) - j+1 - 1=(h:Int) - j by omega]at V;rw[ar (n:=(h:Int) - (j:Int)) XM XM,O,ar XM XM,show(h:Int) - ((j+1:Nat):Int)+1=(h:Int) - j by omega];omega)
 grind
def bkV (d:ai)(l:List Order)(h i:Nat):List G2:=
 (if fS (g9 i h h) l > (rch d i).cap then [{ kind:=1,hour:=(h:Int),index:=(i:Int),bn:=fS (g9 i h h) l,limit:=(rch d i).cap}]else [])++
 (if fS (g9 i ((h:Int) - (rch d i).delay+1) h) l > (rch d i).at2 then [{ kind:=3,hour:=(h:Int),index:=(i:Int),bn:=fS (g9 i ((h:Int) - (rch d i).delay+1) h) l,limit:=(rch d i).at2}]else [])
variable {items:List (List SV)}
theorem VE(Y:atC d l){s0:WM×Int}(hg:∀ r h,aF .dd .int s0.1 (sl r h)=fS (g9 r h h) l){h i:Nat}(hh:h<=1000000)(hi:i<d.reaches.length)(s:List G2):
  fL d s0 h i s=.inr (s++bkV d l h i)/\((s++bkV d l h i).map je<+:items->iI d items s0 h i s):=by
 have hx:=Y.right.auU hi;have hd1:=hx.auT;have hd2:=hx.delay;have e1:=aaY Y hg h i hh (Int.toNat (d.reaches.getD i (default:Reach)).delay) XM;have e2:=hg (i:Int) (h:Int);unfold sl at e2;have e3:((Int.toNat (d.reaches.getD i (default:Reach)).delay:Nat):Int)=(rch d (i:Int)).delay:=by
  grind
 rw[e3]at e1;have e4:d.reaches.getD i (default:Reach)=rch d (i:Int):=by rfl
 have X:(d.reaches.getD i (default:Reach)).delay<9223372036854775808:=XM
 refine⟨?_,λE=>⟨X,λs3 W=>?_⟩⟩;grind [fL,bkV]
 rw[e1]at W;simp only[aqW]at W;subst W;simp only[e2];rw[e4];unfold bkV at E;refine⟨λO=>⟨?_,λV=>?_,λq=>q⟩,λO=>⟨O,λV=>?_,λq=>q⟩⟩;refine GU (ar2 ?_ E);grind
 rw[if_pos (of_decide_eq_true O),if_pos (of_decide_eq_true V),<-aqY]at E;exact GU E;rw[if_neg (of_decide_eq_false O),if_pos (of_decide_eq_true V)]at E;exact GU E
def bkH (d:ai)(l:List Order)(h:Nat):List G2:=(List.range' 0 d.reaches.length).flatMap (bkV d l h)
theorem VF(E:atC d l){s0:WM×Int}(O:∀ r h,aF .dd .int s0.1 (sl r h)=fS (g9 r h h) l){h:Nat}(V:h<=1000000)(s:List G2):
  eS d s0 h s=.inr (s++bkH d l h)/\((s++bkH d l h).map je<+:items->iJ d items s0 h s):=by
 have key:∀ j s,0<=j->j<0+d.reaches.length->fL d s0 h j s=.inr (s++bkV d l h j):=λj s _ Y=>(VE E O V XM s (items:=items)).1;refine⟨?_,λW _=>?_⟩;unfold eS;rw[EL d.reaches.length 0 s key];rfl;exact JE d.reaches.length 0 s key (λj s _ Y X=>(VE E O V XM s).2 X) W
def RQ (d:ai)(l:List Order):List G2:=(List.range' 0 d.hours.toNat).flatMap (bkH d l)++(if fS g0P l > d.atx.start then [{ kind:=4,hour:=0,index:=0,bn:=fS g0P l,limit:=d.atx.start}]else [])
theorem Xj (E:atC d l):dQ l d=RQ d l/\iu l d ((dQ l d).map je):=by
 have⟨s0,e0,hg,h0⟩:=T8 E;have hh:=E.right.hours;have key:∀ j s,0<=j->j<0+d.hours.toNat->eS d s0 j s=.inr (s++bkH d l j):=λj s _ X=>(VF E hg XM s (items:=[])).1;have e1:=EL d.hours.toNat 0 [] key;have W:dQ l d=RQ d l:=by
  unfold dQ RQ;grind
 refine⟨W,?_⟩;intro _ s O;rw[e0]at O;simp[aqW]at O;subst O;refine⟨XM,?_,λs1 Y=>?_⟩;refine JE d.hours.toNat 0 [] key (λj s _ X V=>(VF E hg XM s).2 V) ?_;grind [RQ]
 simp_all [RQ]
end
section
variable {d:ai}{c:List Claim}
theorem ta (s:List Order):bb s=true↔∃ x∈s,x.bn > 1073741824:=by
 unfold bb d7;have W:∀ j,bW s j ()=bif decide ((s.getD j default).bn > 1073741824)then .inl (j:Int)else .inr ():=λj=>rfl;have key:∀ n i,(∀ j,i<=j->j<i+n->¬ (s.getD j default).bn > 1073741824)->aj (bW s) n i ()=.inr ():=by
  intro n;induction n with
  |zero=>intro i _;rfl
  |succ n V=>
   simp[aj];grind
 have E:∀ n i x,aj (bW s) n i ()=.inl x->0<=x/\∃ j,i<=j/\j<i+n/\(s.getD j default).bn > 1073741824:=by
  intro n;induction n with
  |zero=>grind
  |succ n V=>
   intro i x h;simp[aj]at h;grind
 constructor
 grind
 rintro⟨x,O,X⟩;obtain⟨j,Y,rfl⟩:=aqw O;cases hr:aj (bW s) s.length 0 ()with
 |inl x=>grind
 |inr u=>
  have h1:=ny hr j (aqq _) XM;grind
structure auJ (d:ai)(c:List Claim):Prop where
 chk:b9 d c=0
 wide:(d.reaches.length:Int)*d.hours<=1024
 lit:∀ x∈aA c,x.bn<=1073741824
theorem GW (h:b9 d c=0):auY c:=by
 have⟨_,h2,h3,_⟩:=(iS d c).1 h;exact⟨h2,λa E=>Jy (h3 a E)⟩
theorem JF (h:b9 d c=0):atq d:=kc (by grind [iS])
theorem VG (h:b9 d c=0):i64.wrap ((d.reaches.length:Int)*d.hours)=(d.reaches.length:Int)*d.hours:=by
 have:=AN (JF h);exact ar XM XM
theorem AO:(aO d c).2=0↔auJ d c:=by
 unfold aO;by_cases h1:b9 d c=0
 rw[h1];simp[bne_self_eq_false,cond_false];rw[VG h1];by_cases h2:(d.reaches.length:Int)*d.hours > 1024
 rw[decide_eq_true h2,cond_true];constructor
 omega;intro h;have:=h.wide;omega;rw[decide_eq_false h2,cond_false];cases O:bb (aA c)with
 |true=>
  rw[cond_true];have⟨x,E,hl⟩:=(ta _).1 O;constructor
  omega;intro h;have:=h.lit x E;omega
 |false=>
  refine⟨λ_=>⟨h1,XM,λx E=>?_⟩,λ_=>rfl⟩;by_cases q:x.bn > 1073741824
  have:=(ta _).2 ⟨x,E,q⟩;grind
  omega
 have:(b9 d c !=0)=true:=XN
 rw[this];exact⟨λh=>absurd h h1,λh=>absurd h.chk h1⟩
theorem EM (h:auJ d c):aO d c=(aA c,0):=by
 have h2:=AO.2 h;unfold aO at h2 |-;grind
theorem aaZ (d:ai)(c:List Claim):mL d c:=by
 refine⟨Xe d c,λh _ _=>Xh (GW (d:=d) ?_)⟩;simpa using h
theorem auJ.outs (h:auJ d c):av0 c (aA c):=Sx.outs (GW h.chk)
theorem auJ.nar (h:auJ d c):Nar d (aA c):=by
 have⟨h1,h2,h3,_⟩:=(iS d c).1 h.chk;have E:=h.outs;refine⟨⟨h1,aqp E.len h2,λx O=>?_,E.asc⟩,h.wide⟩;have⟨a,ha,e1,e2⟩:=E.src x O;have W:=h3 a ha;unfold okC at W;simp[ap9,decide_eq_true_eq]at W;have X:=E.out x O;have Y:=E.lit x O;have V:=h.lit x O;exact⟨XM,XM,XM,λ_=>XM,λq=>XN,Y.2,V⟩
theorem JG (d:ai)(c:List Claim):kl d c:=by
 refine⟨aaZ d c,λh=>?_⟩;have O:auJ d c:=AO.1 (by simpa using h);have W:=EM O;rw[W];have V:=O.nar;have E:=O.outs.out;refine⟨ahL _ _,λh2=>⟨λ_=>?_,λY=>?_⟩⟩;exact ahP V.good.right V.good.auD E;rcases BX d (aA c)with⟨_,e⟩ | ⟨_,_,e⟩ | ⟨_,_,_,e⟩ | ⟨_,_,gs,_,_,e⟩ | ⟨_,_,gs,X,e⟩;grind
 grind
 grind
 grind
 rw[e];exact(Xj X.good.auD).2
def VH (d:ai)(c:List Claim):kY d c:=JG d c
end
end Go.Sx
end
section
namespace Go.Sx
open Go.Proofs Go.RowKit Tryz
open IntKind (i64)
@[go_sem] noncomputable def adH:FI:=(pR .int λl=>(pE (.det True (.rc .int l))))
def aa0:P0 prog 71 adH:=by
 refine fE (mG Q1 Q1) f71 (aZ λl=>(am (λE=>?_)));refine⟨nbl rfl,L0,ag _,?_⟩
 ·unfold aa f71;all_goals exact cl
def chz:Nat->List Int->List Int->List (List Int)
 |0,s,_=>[s]|_+1,_,[] =>[]|n+1,s,x::l=>if l.length<n then []else chz n (s++[x]) l++chz (n+1) s l
theorem Dv (s l:List Int):chz 0 s l=[s]:=by cases l <;>rfl
theorem ML:∀ (n:Nat) (s l:List Int),l.length<n->chz n s l=[]
 |0,_,_,h=>XM
 |_+1,_,[],_=>rfl
 |n+1,s,x::l,h=>by
  simp_all [chz]
theorem JH (n:Nat)(s l:List Int)(k:Nat)(E:k<l.length):chz (n+1) s (l.drop k)=if l.length - k<n+1 then []else chz n (s++[l.getD k 0]) (l.drop (k+1))++chz (n+1) s (l.drop (k+1)):=by
 have e:l.drop k=l.getD k 0::l.drop (k+1):=by
  simp_all
 rw[e];simp[chz];grind
def chc (n:Nat)(s l:List Int)(k:Nat):Nat:=(chz (n+1) s l).length - (chz (n+1) s (l.drop k)).length
def OW (n:Nat)(s l:List Int):∀ k,k<=l.length->chz (n+1) s (l.drop k) <:+chz (n+1) s l
 |0,_=>by simp
 |k+1,h=>by
  refine List.IsSuffix.trans ?_ (OW n s l k XM);grind [JH,ML]
def aa1 (n:Nat)(s l:List Int):chc n s l 0=0:=by simp[chc]
def aa2 (n:Nat)(s l:List Int)(k:Nat)(E:k<l.length)(h:¬l.length - k<n+1):chc n s l (k+1)=chc n s l k+(chz n (s++[l.getD k 0]) (l.drop (k+1))).length:=by
 have h1:=(OW n s l k XM).length_le;unfold chc;rw[JH n s l k E]at h1 |-;grind
def VI (n:Nat)(s l:List Int)(k:Nat)(h:l.length - k<n+1):chc n s l k=(chz (n+1) s l).length:=by
 grind [chc,ML]
def adI (n:Nat)(s l:List Int)(k:Nat)(E:k<l.length)(h:¬l.length - k<n+1)(j:Nat)(y:List Int)(hy:(chz n (s++[l.getD k 0]) (l.drop (k+1)))[j]? =some y):(chz (n+1) s l)[chc n s l k+j]? =some y:=by
 have⟨p,hp⟩:=OW n s l k XM;have hc:chc n s l k=p.length:=by grind [chc]
 rw[hc,<-hp,arV XM,asN,JH n s l k E,if_neg h,asz (aqe.1 hy).1];exact hy
def chK (p:Prop)(r:RF)(k m:Nat)(a c:Ob):atB:= { α:=Bool,pre:=p,post:=λ_=>True,res:=λb=>.ret (.v (.bool b)) [a,.ab (r.1 (if b then k+m+1 else 0)),c]}
def Xk {ids:List Nat}{d:Option Nat}{st:St}{K:St->Prop}{Z:Value->St->Prop}{p:Prop}{r:RF}{k m:Nat}{h0 h2:Ob}:Cq ids d st K Z (some (chK p r k m h0 h2))=(p/\Nk ids d st K Z (.ret (.v (.bool true)) [h0,.ab (r.1 (k+m+1)),h2])/\Nk ids d st K Z (.ret (.v (.bool false)) [h0,.ab (r.1 0),h2])):=by
 apply propext;constructor
 rintro⟨h1,h2⟩;exact⟨h1,h2 true trivial,h2 false trivial⟩;rintro⟨h1,h2,h3⟩;refine⟨h1,λb _=>?_⟩;cases b;exact h3;exact h2
attribute [go_sem] Xk
abbrev chF:Ob:=.cells [.fn 70 [] [.ptr 0 0,.ptr 2 0]]
@[go_sem high]def amH {x:Res}:reach [.cells [.os 1],.ab x,.cells [.fn 70 [] [.ptr 0 0,.ptr 2 0]]] 64 [0,2] []=[0,1,2]:=(rfl)
def chP (a:List (List SV))(n:Nat)(x:List Int×List Int×Nat):Prop:=x.1.length+n<=1000/\x.2.1.length<=1000/\∀ j y,(chz n x.1 x.2.1)[j]? =some y->a[x.2.2+j]? =some [.rs .int y]
noncomputable def aa3 (items:List (List SV))(r:RF)(n:Nat):List SV->List Ob->Option atB:=jR (λx:List Int×List Int×Nat=>[.rs .int x.1,.rs .int x.2.1,.i n,.ptr 0 0,.ptr 2 0]) (λx=>[.cells [.os 1],.ab (r.1 (x.2.2+1)),chF]) (λx=>chK (chP items n x) r x.2.2 (chz n x.1 x.2.1).length (.cells [.os 1]) chF)
def VJ (items:List (List SV))(r:RF)(n:Nat)(s l:List Int)(k:Nat):aa3 items r n ([.rs .int s,.rs .int l,.i n,.ptr 0 0,.ptr 2 0]) ([.cells [.os 1],.ab (r.1 (k+1)),chF])=some (chK (chP items n (s,l,k)) r k (chz n s l).length (.cells [.os 1]) chF):=
 gb (A:=λx:List Int×List Int×Nat=>[.rs .int x.1,.rs .int x.2.1,.i n,.ptr 0 0,.ptr 2 0]) (H:=λx=>[.cells [.os 1],.ab (r.1 (x.2.2+1)),chF]) (K:=λx=>chK (chP items n x) r x.2.2 (chz n x.1 x.2.1).length (.cells [.os 1]) chF) (x:=(s,l,k)) (by
  grind)
def ahQ (items:List (List SV))(r:RF)(hy:YOk prog (FP items r)):atA prog 70 (aa3 items r 0):=by
 have hG:=mGY Q1 Q1 hy;refine qE mixed aC hG (fn:=f70) (c:=aa f70) kr kr kr kr λl o V h E=>?_;obtain⟨⟨s,l,k⟩,rfl,rfl,rfl⟩:=ed h;refine⟨nbl rfl,L0,ag _,?_⟩;unfold aa f70;have O:=E.2.2 0 s (by grind [Dv]);simp only[go_sem];refine⟨λ_=>⟨XM,?_,?_⟩,λh=>absurd h (by decide)⟩;refine⟨true,_,_,[0,1,2],trivial,rfl,?_⟩;simp[go_sem,Dv];refine⟨false,_,_,[0,1,2],trivial,rfl,?_⟩;simp[go_sem,if_false]
def aa4 {c:Nat->Bool}{x:Nat}:∀ (m k:Nat),aj (λj (_:Unit) =>bif c j then(.inl j:Nat⊕Unit)else .inr ()) m k ()=.inl x->x<k+m/\c x=true
 |0,_,h=>by cases h
 |m+1,k,h=>by
  simp[aj]at h;cases hc:c k with
  |true=>grind|false=>rw[hc]at h;have:=aa4 m (k+1) h;grind
def ahR (items:List (List SV))(r:RF)(hy:YOk prog (FP items r))(n:Nat)(ih:atA prog 70 (aa3 items r n)):atA prog 70 (aa3 items r (n+1)):=by
 have hG:=mGY (cp aa0 Q1) (co ih Q1) hy;refine qE mixed aC hG (fn:=f70) (c:=aa f70) kr kr kr kr λl o con h E=>?_;obtain⟨⟨s,l,k⟩,rfl,rfl,rfl⟩:=ed h;clear h;have hz:(((n+1:Nat):Int) ==0)=false:=by simp;omega
 obtain⟨Y,hl,E⟩:=E;simp only at Y hl E;have hl2:l.length<=aD:=by unfold aD;omega
 have V:i64.wrap (((n+1:Nat):Int) - 1)=(n:Int):=by grind [ar]
 refine⟨nbl rfl,λid st=>bif Nat.beq id 0 then some (LCY (ρ:=Nat) (σ:=Unit) 3 [] [0,1,2] (λj _=>⟨[(0,.rs .int s),(1,.rs .int l),(2,.i ((n+1:Nat):Int)),(3,.ptr 0 0),(4,.ptr 2 0),(16,.i (l.length:Int)),(17,.i j)],[.cells [.os 1],.ab (r.1 (k+chc n s l j+1)),chF]⟩) (λj _=>bif decide (i64.wrap ((l.length:Int) - (j:Int)) < ((n+1:Nat):Int))then .inl j else .inr ()) (λ_ _=>True) l.length () True (λ_=>.normal) (λj=>⟨[],[.cells [.os 1],.ab (r.1 (k+chc n s l j+1)),chF]⟩) ⟨[(8,.v (.bool false))],[.cells [.os 1],.ab (r.1 0),chF]⟩ st)else none,?_,?_⟩;unfold aa f70;simp only[ak,true_and,and_true];refine vA aC hG (λ_=>rfl) l.length (λ_=>XM) (λ_ j _ hlt _ hw hc=>⟨L0,ag _,?_⟩) (λ_ _ hc=>?_);simp only[go_sem,hc,hw,V,VJ,ary];intro hb;have hwj:i64.wrap ((l.length:Int) - (j:Int))=(l.length:Int) - (j:Int):=by grind [ar]
 refine⟨λh1=>?_,λh2=>?_⟩;rw[h1];simp[go_sem];exact fk (jl [0,1,2]);have hn:¬l.length - j<n+1:=by
  grind
 have O:=aa2 n s l j hlt hn;refine⟨⟨XM,XM⟩,by grind [dh],λ_=>⟨⟨XM,XM,XM⟩,by rfl,⟨?_,?_,?_⟩,?_,?_⟩⟩;grind
 grind
 intro i y hy;have:=E _ _ (adI n s l j hlt hn i y hy);grind
 rw[h2];simp[go_sem,O,<-arx];exact fk (jl [0,1,2]);exact .inr (fk (jl [0,1,2]));simp only[go_sem,hc];exact fk (jl [0,1,2]);unfold aa f70;simp only[go_sem,hz];intro _;refine⟨⟨⟨rfl,by rw[aa1]⟩,eu _ _ _ λ_ _ _ _=>trivial⟩,λx X=>?_,λ_ X=>?_,?_⟩;have⟨hx1,hx2⟩:=aa4 (c:=λj=>decide (i64.wrap ((l.length:Int) - (j:Int)) < ((n+1:Nat):Int))) _ _ X;have W:=of_decide_eq_true hx2;rw[ar XM XM]at W;refine⟨true,_,_,[0,1,2],trivial,rfl,?_⟩;rw[VI n s l x XM];simp[go_sem];refine⟨true,_,_,[0,1,2],trivial,rfl,?_⟩;rw[VI n s l l.length XM];simp[go_sem];refine⟨false,_,_,[0,1,2],trivial,rfl,?_⟩;simp[go_sem,if_false]
def ae7 (items:List (List SV))(r:RF)(hy:YOk prog (FP items r)):∀ n,atA prog 70 (aa3 items r n)
 |0=>ahQ items r hy|n+1=>ahR items r hy n (ae7 items r hy n)
noncomputable def aa5 (items:List (List SV))(r:RF):List SV->List Ob->Option atB:=jR (λx:List Int×Nat×Nat=>[.v (.slice none 0 0),.rs .int x.1,.i (x.2.1:Int),.ptr 0 0,.ptr 2 0]) (λx=>[.cells [.os 1],.ab (r.1 (x.2.2+1)),chF]) (λx=>chK (chP items x.2.1 ([],x.1,x.2.2)) r x.2.2 (chz x.2.1 [] x.1).length (.cells [.os 1]) chF)
@[go_sem]def amI {items:List (List SV)}{r:RF}{n k:Nat}{l:List Int}:aa5 items r ([.v (.slice none 0 0),.rs .int l,.i n,.ptr 0 0,.ptr 2 0]) ([.cells [.os 1],.ab (r.1 (k+1)),.cells [.fn 70 [] [.ptr 0 0,.ptr 2 0]]])=some (chK (chP items n ([],l,k)) r k (chz n [] l).length (.cells [.os 1]) chF):=
 gb (A:=λx:List Int×Nat×Nat=>[.v (.slice none 0 0),.rs .int x.1,.i (x.2.1:Int),.ptr 0 0,.ptr 2 0]) (H:=λx=>[.cells [.os 1],.ab (r.1 (x.2.2+1)),chF]) (K:=λx=>chK (chP items x.2.1 ([],x.1,x.2.2)) r x.2.2 (chz x.2.1 [] x.1).length (.cells [.os 1]) chF) (x:=(l,n,k)) (by
  grind)
def ahS (items:List (List SV))(r:RF)(hy:YOk prog (FP items r)):atA prog 70 (aa5 items r) where
 enter:=λl h c hc=>by
  simp_all
 calls:=λl h c hc W F own w vs V O=>by
  obtain⟨⟨a,n,k⟩,rfl,rfl,rfl⟩:=ed hc;refine(ae7 items r hy n).calls _ _ _ (VJ items r n [] a k) W F own w vs V ⟨O.1,λj s E=>?_⟩;match j,E with
  |0,E=>
   cases E;have h:=O.2 0 _ rfl;generalize vs.getD 0 undef=u at h |-;cases h;exact .rs0
  |j+1,E=>exact O.2 (j+1) s E
@[go_sem high]def akf {x:Res}:reach [.ab x,.cells [.os 0],.cells [.fn 70 [] [.ptr 1 0,.ptr 2 0]]] 64 [1,2] []=[1,0,2]:=(rfl)
end Go.Sx
end
section
namespace Go.Sx
open Go.Proofs Tryz
open IntKind (i64)
@[go_sem] def aa6 (x:List Int):List SV:=[.rs .int x]
@[go_sem] def Lh:FI:=(pR .int λa=>(pE (.det True (.fn 69 [] [.ep [.rs .int a] 0]))))
def JI:P0 prog 30 Lh:=by
 have hG:=mG Q1 Q1;refine fN hG f30 [.o] (aZ λE=>(am (λO=>?_)));refine⟨nbl rfl,L0,ag _,?_⟩;unfold aa f30;simp only[go_sem,vz,xp,Nat.reduceBEq,Nat.reduceLeDiff,Nat.reduceAdd,Nat.reduceSub,Nat.reduceMul]
@[go_sem] def kZ (a:List Int)(b:Nat)(c:List (List Int)):Empty⊕(List (List Int)):=.inr (c++(chz b [] a))
def pJ (a:List Int)(b:List (List SV))(c:Nat)(d:List (List Int)):Prop:=(chP b c ([],a,d.length))
def eP (a:List Int):List (List Int):=(match aj (kZ a) (Int.toNat (i64.wrap ((a.length:Int)+1))) 0 ([]:List (List Int))with| .inl x=>x.elim| .inr b=>b)
def mc (a:List Int)(c:List (List SV)):Prop:=letI b:=i64.wrap ((a.length:Int)+1);letI d:=kZ a;(a.length<=aD->((b<9223372036854775808)/\okI d (pJ a c) (Int.toNat b) 0 ([]:List (List Int))/\(∀ ee,aj d (Int.toNat b) 0 ([]:List (List Int))=.inr ee->(c.length=ee.length))))
def EN (O:List Int)(E:List (List SV))(hp:mc O E):CK prog 69 (λy=>[y,.ep [.rs .int O] 0]) [] E:=by
 unfold mc at hp;refine D3 mixed aC (fn:=f69) (c:=aa f69) kr kr kr kr rfl (n:=0) rfl (G:=λW=>CL [] [(70,(aa5 E W))] (FP E W)) (λW hy=>?_) (λargs w=>by kernel_rfl);have hG:=mGY Q1 (co (ahS E W hy) Q1) hy;refine⟨hG,nbl rfl,(XO 0 (LCY (ρ:=Empty) (σ:=(List (List Int))) 3 [] [0,1,2] (λX V=>⟨[(1,.ep [.rs .int O] 0),(3,.ptr 2 0),(8,.i (i64.wrap ((O.length:Int)+1))),(9,.i X)],[.ab (W.1 (V.length+1)),.cells [.os 0],.cells [.fn 70 [] [.ptr 1 0,.ptr 2 0]]]⟩) (kZ O) (pJ O E) (Int.toNat (i64.wrap ((O.length:Int)+1))) ([]:List (List Int)) ((i64.wrap ((O.length:Int)+1)) <9223372036854775808) ((·.elim)) ((·.elim)) ⟨[],[.ab (W.1 0),.dead,.dead]⟩) L0),?_,?_⟩;unfold aa f69;simp only[ak,true_and,and_true];refine vA aC hG (λ_=>rfl) (i64.wrap ((O.length:Int)+1)) id (λhb0 X V aue Y hw hc=>⟨L0,ag _,?_⟩) (λhb0 V hc=>?_);simp only[pJ,hw,aqa]at Y
 exact qQ (jl [0,1,2]);exact qR (jl [0,1,2]);unfold aa f69;exact QU (jl [0])
variable {l0:List Nat}{p:Prop}
def RR(a0:JL l0)(h:JL l0->p:=by intro ja;(first|done|(repeat' (first|with_reducible refine And.intro ?_ ?_|exact V0 |with_reducible intro _)) <;>(first|done|with_reducible exact Empty.elim ‹Empty› |with_reducible assumption|rfl|omega|assumption|decide|exact fk ja|(simp only[*,cond_true,cond_false,aqE,aqN,go_sem];done) |(simp only[*,cond_true,cond_false,aqE,aqN,go_sem];(repeat' (first|with_reducible refine And.intro ?_ ?_|exact V0 |with_reducible intro _)) <;>(first|done|assumption|rfl|omega|decide|exact fk ja|(simp_all [cB,dY];done))) |(simp_all [okI,cB,dY];done) |(simp_all [cB,dY];(first|done|exact fk2 ja)) |exact fk2 ja|(simp_all only[cB,dY,cond_true,cond_false,asF,asq];(first|done|exact fk ja|exact fk2 ja|(simp only[go_sem];((repeat' (first|with_reducible refine And.intro ?_ ?_|exact V0 |with_reducible intro _)) <;>(first|done|rfl|exact fk ja|exact fk2 ja)))))))):p:=h a0
variable {l1:List Nat}
def JJ(a0:JL l0)(a1:JL l1)(h:JL l0->JL l1->p:=by intro ja jb;(first|done|(repeat' (first|with_reducible refine And.intro ?_ ?_|exact V0 |with_reducible intro _)) <;>(first|done|with_reducible exact Empty.elim ‹Empty› |with_reducible assumption|rfl|omega|assumption|decide|exact fk ja|exact fk jb|(simp only[*,cond_true,cond_false,aqE,aqN,go_sem];done) |(simp only[*,cond_true,cond_false,aqE,aqN,go_sem];(repeat' (first|with_reducible refine And.intro ?_ ?_|exact V0 |with_reducible intro _)) <;>(first|done|assumption|rfl|omega|decide|exact fk ja|exact fk jb|(simp_all [cB,dY];done))) |(simp_all [okI,cB,dY];done) |(simp_all [cB,dY];(first|done|exact fk2 ja|exact fk2 jb)) |exact fk2 ja|exact fk2 jb|(simp_all only[cB,dY,cond_true,cond_false,asF,asq];(first|done|exact fk ja|exact fk jb|exact fk2 ja|exact fk2 jb|(simp only[go_sem];((repeat' (first|with_reducible refine And.intro ?_ ?_|exact V0 |with_reducible intro _)) <;>(first|done|rfl|exact fk ja|exact fk jb|exact fk2 ja|exact fk2 jb)))))))):p:=h a0 a1
theorem JK(a0:JL l0)(h:JL l0->p:=by intro ja;simp only[go_sem,hc,hw];all_goals exact RR ja):p:=h a0
theorem JM(a0:JL l0)(h:JL l0->p:=by intro ja;simp only[go_sem,hc];all_goals exact RR ja):p:=h a0
def aa7(a0:JL l0)(a1:JL l1)(h:JL l0->JL l1->p:=by intro ja jb;simp only[go_sem];all_goals exact JJ ja jb):p:=h a0 a1
def aa8(a0:JL l0)(a1:JL l1)(h:JL l0->JL l1->p:=by intro ja jb;simp only[go_sem,hc,hw];all_goals exact JJ ja jb):p:=h a0 a1
def aa9(a0:JL l0)(a1:JL l1)(h:JL l0->JL l1->p:=by intro ja jb;simp only[go_sem,hc];all_goals exact JJ ja jb):p:=h a0 a1
@[go_sem] def jf (b:M1)(g:Nat)(e:List ((Int×Int)×Int)):Empty⊕(List ((Int×Int)×Int)):=letI a:=b.c.getD g default;letI f:=((b.d.zs.getD (Int.toNat (a.gl)) default).reach,a.hour);.inr (cy .atv .int e f (i64.wrap ((aF .atv .int e f)+a.bn)))
def ij (a:M1)(b:Nat)(e:List ((Int×Int)×Int)):Prop:=(0<=(a.c.getD b default).gl/\(a.c.getD b default).gl< (a.d.zs.length:Int))
def bB (a:M1):List ((Int×Int)×Int):=(match aj (jf a) a.c.length 0 ([])with| .inl x=>x.elim| .inr b=>b)
def gS (a:M1):Prop:=(a.c.length<=aD->okI (jf a) (ij a) a.c.length 0 ([]))
@[go_sem] def zn:FI:=(pD .P1 λa=>(pE (.det (gS a) (.nm .atv .int (bB a)))))
theorem rl:P0 prog 83 zn:=by
 have hG:=mG Q1 Q1;refine fE hG f83 (ap λE=>(am (λX=>?_)));dsimp only[an,gS]at X;refine⟨nbl rfl,(XO 0 (LCR (ρ:=Empty) (σ:=(List ((Int×Int)×Int))) 2 [] [0,1] (λV O=>⟨[(1,.ptr 0 0),(3,.os 1),(8,.rs .B1 E.c),(9,.i (E.c.length:Int)),(10,.i V)],[.cells (cellsOf .P1 E),.mp .atv .int O none]⟩) (jf E) (ij E) E.c.length ([]) (E.c.length<=aD) ((·.elim)) ((·.elim))) L0),?_,?_⟩;unfold aa f83;simp only[ak,true_and,and_true];refine bG aC hG (λ_=>rfl) (E.c.length:Int) eE (λhb0 V O Y W hw hc=>⟨L0,ag _,?_⟩) (λhb0 O hc=>?_);simp only[ij,hw,aqa]at W
 exact JK (jl [0,1]);exact JM (jl [0,1]);exact Ce @bB.eq_1
@[go_sem] def dR (q:M1)(f:List S1×List ((Int×Int)×Int)×List ((Int×Int)×Bool)×Int)(i:Nat)(a:List S1×List ((Int×Int)×Int)×List ((Int×Int)×Bool)):Empty⊕(List S1×List ((Int×Int)×Int)×List ((Int×Int)×Bool)):=letI b:=q.d.reaches.getD (Int.toNat f.2.2.2) default;letI g:=i64.wrap ((i:Int) - b.delay);letI j:=(f.2.2.2,(i:Int));letI e:=aF .atv .int a.2.1 j;letI c:=dV b e;letI k:=if c.1<b.atz then b.atz else c.1;letI l:=a.1++([({ reach:=f.2.2.2,hour:=g,bn:=k,wanted:=e}:S1)]);letI m:= !(aF .atv .bool a.2.2 j);letI h:=(b.up,g);letI n:=cy .atv .int a.2.1 h (i64.wrap ((aF .atv .int a.2.1 h)+k));letI o:=cy .atv .bool a.2.2 h true;letI p:=(a.1,a.2.1,o);(bif((e==0)&&m)then .inr (a.1,a.2.1,a.2.2)else(bif(m&&(decide (e<=1073741824)))then(bif(c.2.1&&(decide (g>=0)))then(bif c.2.1 then .inr (l,n,a.2.2)else .inr (l,a.2.1,o))else(bif c.2.1 then .inr (a.1,n,a.2.2)else .inr p))else .inr p))
def gF (k:M1)(c:List S1×List ((Int×Int)×Int)×List ((Int×Int)×Bool)×Int)(g:Nat)(e:List S1×List ((Int×Int)×Int)×List ((Int×Int)×Bool)):Prop:=letI a:=k.d.reaches.getD (Int.toNat c.2.2.2) default;letI h:=i64.wrap ((g:Int) - a.delay);letI i:=(c.2.2.2,(g:Int));letI b:=aF .atv .int e.2.1 i;letI j:= !(aF .atv .bool e.2.2 i);letI f:=dV a b;(((b==0)&&j)=false->((j&&(decide (b<=1073741824)))=true->((mw a b)/\((f.2.1&&(decide (h>=0)))=true->((e.1++([({ reach:=c.2.2.2,hour:=h,bn:=(if f.1<a.atz then a.atz else f.1),wanted:=b}:S1)])).length*32<=dh)))))
@[go_sem] def fT (c:M1)(e:Nat)(a:List S1×List ((Int×Int)×Int)×List ((Int×Int)×Bool)×Int):(List S1)⊕(List S1×List ((Int×Int)×Int)×List ((Int×Int)×Bool)×Int):=(bif(decide (a.2.2.2>=0))then(match aj (dR c a) (Int.toNat c.d.hours) 0 (a.1,a.2.1,a.2.2.1)with| .inl x=>x.elim| .inr b=>.inr (b.1,b.2.1,b.2.2,(i64.wrap (a.2.2.2 - 1))))else .inl a.1)
def fl (b:M1)(c:Nat)(a:List S1×List ((Int×Int)×Int)×List ((Int×Int)×Bool)×Int):Prop:=((decide (a.2.2.2>=0))=true->((0<=a.2.2.2/\a.2.2.2< (b.d.reaches.length:Int))/\((b.d.hours<9223372036854775808)/\okI (dR b a) (gF b a) (Int.toNat b.d.hours) 0 (a.1,a.2.1,a.2.2.1))))
def dW (a:M1):List S1:=(match aj (fT a) (a.d.reaches.length+1) 0 ([],(bB a),[],(i64.wrap ((a.d.reaches.length:Int) - 1)))with| .inl b=>b| .inr c=>default)
def iK (a:M1):Prop:=letI b:=i64.wrap ((a.d.reaches.length:Int) - 1);letI c:=fT a;letI e:=a.d.reaches.length+1;letI f:=bB a;((gS a)/\(a.d.reaches.length<=aD->(okI c (fl a) e 0 ([],f,[],b)/\(∀ z_,aj c e 0 ([],f,[],b)≠ .inr z_))))
@[go_sem] def xK:FI:=(pD .P1 λa=>(pE (.det (iK a) (.rs .ath (dW a)))))
theorem wU:P0 prog 36 xK:=by
 have hG:=mG (cn [.st .P1] rl (cp vS Q1)) Q1;refine fN hG f36 [.sl .ath] (ap λa0=>(am (λhp=>?_)));dsimp only[an,iK]at hp;refine⟨nbl rfl,(XO 0 (LCV (ρ:=(List S1)) (σ:=(List S1×List ((Int×Int)×Int)×List ((Int×Int)×Bool)×Int)) 3 [.slot 2 (.row .ath ([]))] [0,1,2,3] (λX E=>⟨[(1,.ptr 0 0),(2,.os 3),(3,.os 1),(4,.os 2),(5,.i E.2.2.2)],[.cells (cellsOf .P1 a0),.mp .atv .int E.2.1 none,.mp .atv .bool E.2.2.1 none,.row .ath E.1]⟩) (fT a0) (fl a0) (a0.d.reaches.length+1) ([],(bB a0),[],(i64.wrap ((a0.d.reaches.length:Int) - 1))) (λ_=>.normal) (λV=>⟨[(2,.os 3)],[.dead,.dead,.dead,.row .ath V]⟩)) L0),?_,?_⟩;unfold aa f36;simp only[ak,true_and,and_true];refine dH aC hG (λ_=>rfl) λX E Y=>⟨(XO 2 (LCR (ρ:=Empty) (σ:=(List S1×List ((Int×Int)×Int)×List ((Int×Int)×Bool))) 5 [] [0,1,2,3,4,3] (λW O=>⟨[(1,.ptr 0 0),(2,.os 5),(3,.os 1),(4,.os 2),(5,.i E.2.2.2),(6,.ptr 4 0),(32,.i a0.d.hours),(33,.i W)],[.cells (cellsOf .P1 a0),.mp .atv .int O.2.1 none,.mp .atv .bool O.2.2 none,.dead,.cells (cellsOf .reach (a0.d.reaches.getD (Int.toNat E.2.2.2) (default:Reach))),.row .ath O.1]⟩) (dR a0 E) (gF a0 E) (Int.toNat a0.d.hours) (E.1,E.2.1,E.2.2.1) (a0.d.hours<9223372036854775808) ((·.elim)) ((·.elim))) L0),?_,?_⟩;simp only[ak,true_and,and_true];refine bG aC hG (λ_=>rfl) a0.d.hours id (λhb1 W O auI hq1 hw hc=>⟨L0,ag _,?_⟩) (λhb1 O hc=>?_);simp only[gF,hw,aqa]at hq1
 exact aa8 (jl [0,1,2,3,4,5]) (jl [0,1,2,3,4,9]);exact aa9 (jl [0,1,2,3,4,5]) (jl [0,1,2,3,4,9]);unfold fl at Y;exact aa7 (jl [0,1,2,5]) (jl [0,1,2,3]);exact Ce @dW.eq_1
@[go_sem] def b7 (c:M1)(g:List S1)(h:Nat)(b:List ((Int×Int)×Int)×List ((Int×Int)×Bool)):Unit⊕(List ((Int×Int)×Int)×List ((Int×Int)×Bool)):=letI a:=g.getD h default;letI e:=((c.d.reaches.getD (Int.toNat (a.reach)) default).up,a.hour);letI f:=(a.reach,a.hour);(bif((((!(bf (a.reach) 0 (i64.wrap ((c.d.reaches.length:Int) - 1)))) ||(!(bf (a.hour) 0 (i64.wrap (c.d.hours - 1))))) ||(!(bf (a.bn) 1 1073741824))) ||(aF .atv .bool b.2 f))then .inl ()else .inr ((cy .atv .int b.1 e (i64.wrap ((aF .atv .int b.1 e)+a.bn))),(cy .atv .bool b.2 f true)))
def jg (b:M1)(e:List S1)(f:Nat)(g:List ((Int×Int)×Int)×List ((Int×Int)×Bool)):Prop:=letI a:=e.getD f default;letI c:=(b.d.reaches.length:Int);(b.d.reaches.length<=aD->(((((!(bf (a.reach) 0 (i64.wrap (c - 1)))) ||(!(bf (a.hour) 0 (i64.wrap (b.d.hours - 1))))) ||(!(bf (a.bn) 1 1073741824))) ||(aF .atv .bool g.2 (a.reach,a.hour)))=false->(0<=a.reach/\a.reach<c)))
@[go_sem] def fm (c:M1)(e:List S1)(f:List ((Int×Int)×Int)×List ((Int×Int)×Bool))(g:Nat)(h:Unit):Unit⊕Unit:=letI a:=e.getD g default;letI b:=c.d.reaches.getD (Int.toNat (a.reach)) default;(bif(((decide (a.wanted<=0)) ||(a.wanted !=(aF .atv .int f.1 (a.reach,(i64.wrap (a.hour+b.delay)))))) ||((a.bn !=b.atz)&&(decide ((jc b (i64.wrap (a.bn - 1))).1>=a.wanted))))then .inl ()else .inr ())
def jh (c:M1)(a:List S1)(e:List ((Int×Int)×Int)×List ((Int×Int)×Bool))(b:Nat)(f:Unit):Prop:=(0<=(a.getD b default).reach/\(a.getD b default).reach< (c.d.reaches.length:Int))
def bO (b:M1)(a:List S1):List ((Int×Int)×Int)×Bool:=(match aj (b7 b a) a.length 0 ((bB b),[])with| .inl d=>([],false) | .inr c=>(match aj (fm b a c) a.length 0 ()with| .inl e=>([],false) | .inr f=>(c.1,true)))
def kJ (b:M1)(a:List S1):Prop:=letI c:=((bB b),[]);letI d:=b7 b a;((gS b)/\(a.length<=aD->(okI d (jg b a) a.length 0 c/\(∀ ee,aj d a.length 0 c=.inr ee->(a.length<=aD->okI (fm b a ee) (jh b a ee) a.length 0 ())))))
@[go_sem] def A9:FI:=(pD .P1 λa=>(pR .ath λb=>(pE (.det (kJ a b) (.tup [.rm .atv .int ((bO a b).1),.v (.bool ((bO a b).2))])))))
theorem Af:P0 prog 45 A9:=by
 have hG:=mG (cp r6 (cp y4 (cn [.st .P1] rl Q1))) Q1;refine fN hG f45 [.mp .atv .int,.o] (ap λa0=>(aZ λa1=>(am (λhp=>?_))));dsimp only[an,kJ]at hp;refine⟨nbl rfl,(XO 0 (LCR (ρ:=Unit) (σ:=(List ((Int×Int)×Int)×List ((Int×Int)×Bool))) 3 [] [0,1,2] (λO E=>⟨[(1,.rs .ath a1),(2,.ptr 0 0),(4,.os 1),(6,.os 2),(17,.rs .ath a1),(18,.i (a1.length:Int)),(19,.i O)],[.cells (cellsOf .P1 a0),.mp .atv .int E.1 none,.mp .atv .bool E.2 none]⟩) (b7 a0 a1) (jg a0 a1) a1.length ((bB a0),[]) (a1.length<=aD) (λ_=>.ret) (λY=>⟨[(4,.v (.map none)),(5,.v (.bool false))],[.dead,.dead,.dead]⟩)) (XO 2 (LCR (ρ:=Unit) (σ:=Unit) 3 [] [0,1,2] (λW X=>⟨[(2,.ptr 0 0),(4,.os 1),(82,.rs .ath a1),(83,.i (a1.length:Int)),(84,.i W)],[.cells (cellsOf .P1 a0),.mp .atv .int (cB (aj (b7 a0 a1) a1.length 0 ((bB a0),[]))).1 none,.dead]⟩) (fm a0 a1 (cB (aj (b7 a0 a1) a1.length 0 ((bB a0),[])))) (jh a0 a1 (cB (aj (b7 a0 a1) a1.length 0 ((bB a0),[])))) a1.length () (a1.length<=aD) (λ_=>.ret) (λatG=>⟨[(4,.v (.map none)),(5,.v (.bool false))],[.dead,.dead,.dead]⟩)) L0)),?_,?_⟩;unfold aa f45;simp only[ak,true_and,and_true];refine⟨?_,?_⟩;refine bG aC hG (λ_=>rfl) (a1.length:Int) eE (λhb0 O E aue V hw hc=>⟨L0,ag _,?_⟩) (λhb0 E hc=>?_);simp only[jg,hw,aqa]at V
 exact JK (jl [0,1,2]);exact JM (jl [0,1,2]);refine bG aC hG (λ_=>rfl) (a1.length:Int) eE (λhb1 W X auI hq1 hw hc=>⟨L0,ag _,?_⟩) (λhb1 X hc=>?_);simp only[jh,hw,aqa]at hq1
 exact JK (jl [0,1,2]);exact JM (jl [0,1,2]);exact Ce @bO.eq_1
def aG (d:ai)(g:List bo)(h i j:Int):M1×Int:=letI b:=({ d:=({ name:=(ByteArray.mk #[]),hours:=0,atx:=({ cap:=0,start:=0}:auF),reaches:=[],zs:=[],atE:=[],bl:=[],aty:=[],auc:=[]}:ai),c:=[]}:M1);letI a:=aQ d g h i j;letI e:=({ d:=d,c:=a.1}:M1);letI f:=bM d (a.1);(bif(a.2 !=0)then(b,a.2)else(bif(f.2.2 !=0)then(b,f.2.2)else(bif(decide (((ay e).length:Int) > 10))then(b,2)else(e,0))))
def oY (d:ai)(b:List bo)(e f g:Int):Prop:=letI a:=aQ d b e f g;((wE d b e f g)/\((a.2 !=0)=false->((mM d (a.1))/\(((bM d (a.1)).2.2 !=0)=false->(fK ({ d:=d,c:=a.1}:M1))))))
@[go_sem] def Li:FI:=(pD .al λd=>(pR .C1 λa=>(pI λb=>(pI λc=>(pI λe=>(pE (.det (oY d a b c e) (.tup [.agg (cellsOf .P1 ((aG d a b c e).1)),.i ((aG d a b c e).2)]))))))))
theorem Ag:P0 prog 29 Li:=fN (mG (cn [.st .al,.sl .C1,.o,.o,.o] Oz (cn [.st .P1] lF (cn [.st .al,.sl .B1] v6 Q1))) Q1) f29 [.st .P1,.o] (ap λd=>aZ λO=>ax λfr=>ax λto=>ax λknown=>am λE=>Pq @aG.eq_1 @oY.eq_1)
@[go_sem] def mN (c d:Int)(r:atp)(a:Nat)(b:Int):Empty⊕Int:=(bif(((r.atf.getD a default).reach==r.reach)&&(bf ((r.atf.getD a default).hour) c d))then .inr (i64.wrap (b+(r.atf.getD a default).bn))else .inr b)
def jF (a b:Int)(r:atp):Int:=(match aj (mN a b r) r.atf.length 0 0 with| .inl x=>x.elim| .inr c=>c)
@[go_sem] def EO:FI:=(pI λa=>(pI λb=>(pX .refusal λr=>(pE (.det True (.i (jF a b r)))))))
theorem rq:P0 prog 47 EO:=by
 have hG:=mG (cp r6 Q1) Q1;refine fN hG f47 [.o] (ax λfr=>(ax λto=>(gO λr=>(am (λW=>?_)))));dsimp only[an]at W;refine⟨nbl rfl,(XO 0 (LCR (ρ:=Empty) (σ:=Int) 0 [] [] (λO E=>⟨[(0,.i fr),(1,.i to),(2,.ep (cellsOf .refusal r) 0),(5,.i E),(9,.rs .ath r.atf),(10,.i (r.atf.length:Int)),(11,.i O)],[]⟩) (mN fr to r) pT r.atf.length 0 (r.atf.length<=aD) ((·.elim)) ((·.elim))) L0),?_,?_⟩;unfold aa f47;simp only[ak,true_and,and_true];refine bG aC hG (λ_=>rfl) (r.atf.length:Int) eE (λhb0 O E V _ hw hc=>⟨L0,ag _,aW (jl [])⟩) λhb0 E hc=>aV (jl []);exact Ce @jF.eq_1
def nN (a r:atp)(x:Reach):Bool:=(decide ((jF r.hour r.hour a) > x.cap))
@[go_sem] def EP:FI:=(pXF 47 (pX .refusal λa=>(pE ((pX .refusal λr=>(pX .reach λx=>(pE (.det True (.v (.bool (nN a r x)))))))))))
theorem Dw:P0 prog 48 EP:=by
 have hG:=mG (cp rq Q1) Q1;refine fN hG f48 [.o] (CN (gO λO=>(am ((gO λr=>(gO λx=>(am (λE=>?_))))))));dsimp only[an]at E;refine⟨nbl rfl,L0,ag _,?_⟩;exact Ce @nN.eq_1
def nO (a r:atp)(x:Reach):Bool:=(decide ((jF (i64.wrap ((i64.wrap (r.hour - x.delay))+1)) r.hour a) > x.at2))
@[go_sem] def EQ:FI:=(pXF 47 (pX .refusal λa=>(pE ((pX .refusal λr=>(pX .reach λx=>(pE (.det True (.v (.bool (nO a r x)))))))))))
theorem Dx:P0 prog 49 EQ:=by
 have hG:=mG (cp rq Q1) Q1;refine fN hG f49 [.o] (CN (gO λO=>(am ((gO λr=>(gO λx=>(am (λE=>?_))))))));dsimp only[an]at E;refine⟨nbl rfl,L0,ag _,?_⟩;exact Ce @nO.eq_1
def nP (r a:atp)(d:ai):Bool:=(((r.reach==0)&&(r.hour==0))&&(decide ((jF 0 d.hours a) > d.atx.start)))
@[go_sem] def ER:FI:=(pX .refusal λr=>(pXF 47 (pX .refusal λa=>(pE ((pX .al λd=>(pE (.det True (.v (.bool (nP r a d)))))))))))
theorem Dy:P0 prog 50 ER:=by
 have hG:=mG (cp rq Q1) Q1;refine fN hG f50 [.o] (gO λr=>(CN (gO λO=>(am ((gO λd=>(am (λE=>?_))))))));dsimp only[an]at E;refine⟨nbl rfl,L0,ag _,?_⟩;exact Ce @nP.eq_1
def nQ (m:List ((Int×Int)×Int))(r:atp)(x:Reach):Bool:=(((decide ((aF .atv .int m (r.reach,r.hour)) > 0))&&(decide (r.hour<x.delay))) ||(decide ((aF .atv .int m (r.reach,r.hour)) > (jc x 1073741824).1)))
@[go_sem] def ES:FI:=(pXM .atv .int λm=>(pX .refusal λr=>(pX .reach λx=>(pE (.det True (.v (.bool (nQ m r x))))))))
theorem Dz:P0 prog 51 ES:=fN (mG (cp y4 Q1) Q1) f51 [.o] (NV λm=>gO λr=>gO λx=>am λE=>Ko @nQ.eq_1)
@[go_sem] def d9 (d:ai)(e:List bo)(f g h:Int)(b:atp)(a:Nat)(i:Unit):Unit⊕Unit:=letI c:=b.bl.getD a 0;(bif((!(ef (ay ((aG d e f g h).1)) c)) ||((decide ((a:Int) > 0))&&(decide (c<=(b.bl.getD (Int.toNat (i64.wrap ((a:Int) - 1))) 0)))))then .inl ()else .inr ())
def mO (d:ai)(e:List bo)(f g h:Int)(b:atp)(a:Nat)(i:Unit):Prop:=letI c:=i64.wrap ((a:Int) - 1);((!(ef (ay ((aG d e f g h).1)) (b.bl.getD a 0)))=false->((decide ((a:Int) > 0))=true->(0<=c/\c< (b.bl.length:Int))))
@[go_sem] def jU (b:ai)(e:List bo)(f g h:Int)(a:atp)(c:Nat)(i:Unit):Bool⊕Unit:=letI d:=b.reaches.getD (Int.toNat a.reach) default;(bif(Nat.beq c 0)then(bif(1==a.kind)then .inl (nN a a d)else .inr ())else(bif(Nat.beq c 1)then(bif(3==a.kind)then .inl (nO a a d)else .inr ())else(bif(Nat.beq c 2)then(bif(4==a.kind)then .inl (nP a a b)else .inr ())else(bif(7==a.kind)then .inl (nQ ((bO (dg ((aG b e f g h).1) a.bl) a.atf).1) a d)else .inr ()))))
def wG (a:ai)(b:List bo)(c d e:Int)(f:atp)(g:Nat)(h:Unit):Prop:=True
def dO (b:ai)(c:List bo)(d e f:Int)(a:atp):Bool×Int:=letI g:=aG b c d e f;(bif(g.2 !=0)then(false,g.2)else(match aj (d9 b c d e f a) a.bl.length 0 ()with| .inl i=>(false,290) | .inr j=>(bif(((!(bO (dg (g.1) a.bl) a.atf).2) ||(!(bf a.reach 0 (i64.wrap ((b.reaches.length:Int) - 1))))) ||(!(bf a.hour 0 (i64.wrap (b.hours - 1)))))then(false,0)else(match aj (jU b c d e f a) 4 0 ()with| .inl h=>(h,0) | .inr k=>(false,0)))))
def iv (b:ai)(c:List bo)(d e f:Int)(a:atp):Prop:=letI g:=aG b c d e f;letI h:=d9 b c d e f a;letI i:=dg (g.1) a.bl;letI j:=(b.reaches.length:Int);((oY b c d e f)/\((g.2 !=0)=false->((fK (g.1))/\(a.bl.length<=aD->(okI h (mO b c d e f a) a.bl.length 0 ()/\(∀ ee,aj h a.bl.length 0 ()=.inr ee->((j9 (g.1) a.bl)/\((kJ i a.atf)/\((((!(bO i a.atf).2) ||(!(bf a.reach 0 (i64.wrap (j - 1))))) ||(!(bf a.hour 0 (i64.wrap (b.hours - 1)))))=false->(0<=a.reach/\a.reach<j))))))))))
@[go_sem] def JN:FI:=(pD .al λa=>(pR .C1 λb=>(pI λc=>(pI λd=>(pI λe=>(pD .refusal λf=>(pE (.det (iv a b c d e f) (.tup [.v (.bool ((dO a b c d e f).1)),.i ((dO a b c d e f).2)])))))))))
theorem y6:P0 prog 15 JN:=by
 have hG:=mG (cn [.st .al,.sl .C1,.o,.o,.o] Ag (cn [.st .P1] lF (cn [.st .P1,.sl .int] vE (cn [.sl .int,.o] nk (cn [.st .P1,.sl .ath] Af (cp r6 (cp Dw (cp Dx (cp Dy (cp Dz Q1)))))))))) Q1;refine fN hG f15 [.o,.o] (ap λa0=>(aZ λa1=>(ax λW=>(ax λX=>(ax λV=>(ap λE=>(am (λhp=>?_))))))));dsimp only[an,iv]at hp;refine⟨nbl rfl,(XO 0 (LCR (ρ:=Unit) (σ:=Unit) 3 [] [0,1,2] (λW1 ee=>⟨[(6,.ptr 0 0),(11,.ptr 1 0),(14,.ptr 2 0),(15,.rs .int (ay ((aG a0 a1 W X V).1))),(40,.rs .int E.bl),(41,.i (E.bl.length:Int)),(42,.i W1)],[.cells (cellsOf .al a0),.cells (cellsOf .refusal E),.cells (cellsOf .P1 ((aG a0 a1 W X V).1))]⟩) (d9 a0 a1 W X V E) (mO a0 a1 W X V E) E.bl.length () (E.bl.length<=aD) (λ_=>.ret) (λlx=>⟨[(12,.v (.bool false)),(13,.i 290)],[.dead,.dead,.dead]⟩)) (XO 2 (λst=>LC (ρ:=Bool) (σ:=Unit) (lk 11 st.t=.ptr 1 0/\lk 113 st.t=.ls 2 [.i 1,.fn 48 [] [.ptr 5 0,.ptr 1 0,.ptr 4 0],.i 3,.fn 49 [] [.ptr 5 0,.ptr 1 0,.ptr 4 0],.i 4,.fn 50 [] [.ptr 1 0,.ptr 5 0,.ptr 0 0],.i 7,.fn 51 [] [.ptr 3 0,.ptr 1 0,.ptr 4 0]]/\lk 114 st.t=.i 4/\lk 115 st.t=.i 0/\st.h=[.cells (cellsOf .al a0),.cells (cellsOf .refusal E),.cells (cellsOf .P1 ((aG a0 a1 W X V).1)),.cells [.rm .atv .int ((bO (dg ((aG a0 a1 W X V).1) E.bl) E.atf).1)],.cells (cellsOf .reach (a0.reaches.getD (Int.toNat E.reach) (default:Reach))),.cells [.fn 47 [] [.ptr 1 0]]]) (aj (jU a0 a1 W X V E) 4 0 ()) (λ_=>.ret) (λY=>⟨[(12,.v (.bool Y)),(13,.i 0)],[.dead,.dead,.dead,.dead,.dead,.dead]⟩) (λs_1=>⟨[],[.dead,.dead,.dead,.dead,.dead,.dead]⟩)) L0)),?_,?_⟩
 ·unfold aa f15;simp only[ak,true_and,and_true];refine⟨?_,?_⟩;refine bG aC hG (λ_=>rfl) (E.bl.length:Int) eE (λhb0 W1 ee aue hq0 hw hc=>⟨L0,ag _,?_⟩) (λhb0 ee hc=>?_);simp only[mO,hw,aqa]at hq0
  exact aW (jl [0,1,2]);exact aV (jl [0,1,2])
  ·refine WI mixed aC hG kr λst lc hC hp=>?_;simp only[go_sem,Nat.reduceBEq,aqd]at hC;subst hC;obtain⟨t,h⟩:=st;dsimp only[LC]at hp;obtain⟨e1_0,e1_1,e1_2,e1_3,rfl⟩:=hp;refine⟨_,_,_,(jU a0 a1 W X V E),(wG a0 a1 W X V E),4,(),_,_,_,(λO s_1=>⟨[(11,.ptr 1 0),(113,.ls 2 [.i 1,.fn 48 [] [.ptr 5 0,.ptr 1 0,.ptr 4 0],.i 3,.fn 49 [] [.ptr 5 0,.ptr 1 0,.ptr 4 0],.i 4,.fn 50 [] [.ptr 1 0,.ptr 5 0,.ptr 0 0],.i 7,.fn 51 [] [.ptr 3 0,.ptr 1 0,.ptr 4 0]]),(114,.i 4),(115,.i O)],[.cells (cellsOf .al a0),.cells (cellsOf .refusal E),.dead,.cells [.rm .atv .int ((bO (dg ((aG a0 a1 W X V).1) E.bl) E.atf).1)],.cells (cellsOf .reach (a0.reaches.getD (Int.toNat E.reach) (default:Reach))),.cells [.fn 47 [] [.ptr 1 0]]]⟩),⟨t,[.cells (cellsOf .al a0),.cells (cellsOf .refusal E),.cells (cellsOf .P1 ((aG a0 a1 W X V).1)),.cells [.rm .atv .int ((bO (dg ((aG a0 a1 W X V).1) E.bl) E.atf).1)],.cells (cellsOf .reach (a0.reaches.getD (Int.toNat E.reach) (default:Reach))),.cells [.fn 47 [] [.ptr 1 0]]]⟩,[0,1,2,3,4,5],rfl,eu _ _ _ λ_ _ _ _=>trivial,aud.refl _,nbl rfl,?_,λO s_1 hk1 hp1=>?_⟩
   ·simp only[go_sem,e1_0,e1_1,e1_2,e1_3];all_goals (first|done|decide|(repeat' (first|refine And.intro ?_ ?_|rfl|decide)))
   refine⟨L0,?_,?_⟩;simp only[ak,and_self,true_and,and_true]
   ·have hkk:O=0\/O=1\/O=2\/O=3\/O=4:=XM
    have hw1_0:i64.wrap ((0:Int)+1)=((0+1:Nat):Int):=by decide
    have hw1_1:i64.wrap ((1:Int)+1)=((1+1:Nat):Int):=by decide
    have hw1_2:i64.wrap ((2:Int)+1)=((2+1:Nat):Int):=by decide
    have hw1_3:i64.wrap ((3:Int)+1)=((3+1:Nat):Int):=by decide
    rcases hkk with rfl|rfl|rfl|rfl|rfl;all_goals try (have hq1:=hp1 (by decide))
    all_goals try unfold wG at hq1
    all_goals try simp only[go_sem,Nat.reduceBEq,Nat.reduceEqDiff,cond_true,cond_false,true_imp_iff,false_imp_iff,aqy,true_and,and_true,reduceCtorEq]at hq1
    all_goals simp only[go_sem,jU,atd,Nat.reduceLT,Nat.reduceEqDiff]
    all_goals exact tK (jl [0,1,2,3,4,5])
 unfold aa f15;try unfold dO
 exact zq1
def ji (b:S1)(a:G2)(f:List Reach):Bool:=letI c:=f.getD (Int.toNat b.reach) default;letI d:=b.reach==a.index;letI e:=b.hour==a.hour;(bif(a.kind==1)then(d&&e)else(bif(a.kind==3)then((d&&(decide (b.hour<=a.hour)))&&(decide (b.hour > (i64.wrap (a.hour - c.delay)))))else(bif(a.kind==4)then(b.reach==0)else((c.up==a.index)&&e))))
def kv (b:S1)(a:G2)(d:List Reach):Prop:=letI c:=0<=b.reach/\b.reach< (d.length:Int);((a.kind==1)=false->(((a.kind==3)=true->(((b.reach==a.index)&&(decide (b.hour<=a.hour)))=true->c))/\((a.kind==3)=false->((a.kind==4)=false->c))))
@[go_sem] noncomputable def wV:FI:=(pD .ath λa0=>(pX .fault λf_=>(pXR .reach λrs_=>(pE (.det (kv a0 f_ rs_) (.v (.bool (ji a0 f_ rs_))))))))
theorem wd:P0 prog 77 wV:=fN (mG Q1 Q1) f77 [.o] (ap λa0=>gO λV=>CO λO=>am λE=>Pq @ji.eq_1 @kv.eq_1)
def bU (a b:S1):Int:=(lI ([(bv b.reach a.reach),(bv a.hour b.hour)]))
@[go_sem] def oZ:FI:=(pD .ath λa=>(pD .ath λb=>(pE (.det True (.i (bU a b))))))
theorem we:P0 prog 80 oZ:=fN (mG (cn [.sl .int] Bn (cp fg Q1)) Q1) f80 [.o] (ap λa=>ap λb=>am λE=>Ko @bU.eq_1)
@[go_sem] def yE (x:Int×S1):List SV:=[.i x.1,.agg (cellsOf .ath x.2)]
@[go_sem] def mX:FI:=(pR .ath λa=>(pE (.det True (.fn 135 [] [.ep [.rs .ath a] 0]))))
theorem mF:P0 prog 78 mX:=by
 have hG:=mG Q1 Q1;refine fN hG f78 [.o] (aZ λE=>(am (λO=>?_)));refine⟨nbl rfl,L0,ag _,?_⟩;unfold aa f78;simp only[go_sem,vz,xp,Nat.reduceBEq,Nat.reduceLeDiff,Nat.reduceAdd,Nat.reduceSub,Nat.reduceMul]
@[go_sem] def aP (b:List S1)(c:Nat)(a:List (Int×S1)×Int):(List (Int×S1))⊕(List (Int×S1)×Int):=(bif(decide (a.2>=0))then .inr ((a.1++[(a.2,(b.getD (Int.toNat a.2) default))]),(i64.wrap (a.2 - 1)))else .inl a.1)
def b8 (b:List S1)(c:List (List SV))(d:Nat)(a:List (Int×S1)×Int):Prop:=((decide (a.2>=0))=true->((0<=a.2/\a.2< (b.length:Int))/\(c[a.1.length]? =some (yE (a.2,(b.getD (Int.toNat a.2) default))))))
def aK (a:List S1):List (Int×S1):=(match aj (aP a) (a.length+1) 0 (([]:List (Int×S1)),(i64.wrap ((a.length:Int) - 1)))with| .inl b=>b| .inr c=>default)
def ct (a:List S1)(e:List (List SV)):Prop:=letI b:=(([]:List (Int×S1)),(i64.wrap ((a.length:Int) - 1)));letI c:=aP a;letI d:=a.length+1;(a.length<=aD->(okI c (b8 a e) d 0 b/\(∀ z_,aj c d 0 b≠ .inr z_)/\(∀ lx,aj c d 0 b=.inl lx->(e.length=lx.length))))
theorem lN (O:List S1)(E:List (List SV))(hp:ct O E):CK prog 135 (λy=>[y,.ep [.rs .ath O] 0]) [] E:=by
 unfold ct at hp;refine D3 mixed aC (fn:=f135) (c:=aa f135) kr kr kr kr rfl (n:=0) rfl (G:=λX=>CL [] [] (FP E X)) (λX hy=>?_) (λargs w=>by kernel_rfl);have hG:=mGY Q1 Q1 hy;refine⟨hG,nbl rfl,(XO 0 (acX (ρ:=(List (Int×S1))) (σ:=(List (Int×S1)×Int)) 1 [] [0] (λY W=>⟨[(0,.os 0),(1,.ep [.rs .ath O] 0),(3,.i W.2)],[.ab (X.1 (W.1.length+1))]⟩) (aP O) (b8 O E) (O.length+1) (([]:List (Int×S1)),(i64.wrap ((O.length:Int) - 1))) (λ_=>.normal) (λV=>⟨[],[.ab (X.1 (V.length+1))]⟩) ⟨[],[.ab (X.1 0)]⟩) L0),?_,?_⟩;unfold aa f135;simp only[ak,true_and,and_true];refine Me aC hG (λ_=>rfl) λY W hq0=>⟨L0,ag _,?_⟩;unfold b8 at hq0;exact QU (jl [0]);unfold aa f135;exact QU (jl [0])
end Go.Sx
end
section
namespace Go.Proofs
open Go.Shelf Go.Sx
def Tryz.avd:Go.Shelf.Ren:=⟨λ|6=>79|15=>133|14=>136|28=>199|29=>200|20=>201|21=>202|22=>203|23=>204|24=>205|25=>206|26=>207|27=>208|46=>264|47=>260|48=>261|49=>265|50=>266|57=>307|n=>n,λ|22=>36|24=>75|25=>150|3=>3|39=>229|0=>0|53=>294|55=>296|4=>4|46=>288|45=>287|50=>267|5=>5|9=>9|66=>342|70=>60|76=>375|77=>376|n=>n,λ|n=>n⟩
theorem Tryz.avH:Go.Proofs.SlLaysF0.n6 Tryz.prog Tryz.avd:=⟨kr,⟨Tryz.f79.name,by decide,kr⟩,⟨Tryz.f136.name,by decide,kr⟩,kr,⟨Tryz.f201.name,by decide,kr⟩,⟨Tryz.f202.name,by decide,kr⟩,⟨Tryz.f203.name,by decide,kr⟩,⟨Tryz.f204.name,by decide,kr⟩,⟨Tryz.f205.name,by decide,kr⟩,⟨Tryz.f206.name,by decide,kr⟩,⟨Tryz.f207.name,by decide,kr⟩,⟨Tryz.f208.name,by decide,kr⟩,kr,kr,⟨Tryz.f264.name,by decide,kr⟩,kr,kr,⟨Tryz.f265.name,by decide,kr⟩,⟨Tryz.f266.name,by decide,kr⟩,⟨Tryz.f307.name,by decide,kr⟩,kr,λ_=>kr,λ_=>kr,λ_=>kr,kr,λ_=>kr,λ_=>kr,λ_=>kr,kr,λ_=>kr,λ_=>kr,λ_=>kr,kr,λ_=>kr,λ_=>kr,λ_=>kr,kr,λ_=>kr,λ_=>kr,λ_=>kr,kr,λ_=>kr,λ_=>kr,λ_=>kr,kr,λ_=>kr,λ_=>kr,λ_=>kr,kr,λ_=>kr,λ_=>kr,λ_=>kr,kr,λ_=>kr,λ_=>kr,λ_=>kr,kr,λ_=>kr,λ_=>kr,λ_=>kr,kr,λ_=>kr,λ_=>kr,λ_=>kr,kr,λ_=>kr,λ_=>kr,λ_=>kr,kr,λ_=>kr,λ_=>kr,λ_=>kr,kr,λ_=>kr,λ_=>kr,λ_=>kr,kr,λ_=>kr,λ_=>kr,λ_=>kr,kr,λ_=>kr,λ_=>kr,λ_=>kr,kr,λ_=>kr,λ_=>kr,λ_=>kr⟩
end Go.Proofs
end
section
namespace Go.Sx
open Go.Lib Go.Proofs Go.RowKit Go.Shelf Go.Sort Tryz
def plt (a b:S1):Prop:=qw [(b.reach,a.reach),(a.hour,b.hour)]
def MM (a b:S1):bU a b<0↔plt a b:=Ei [(b.reach,a.reach),(a.hour,b.hour)]
def JO:SWO (ltOf bU):=Oe MM (λx=>by simp only[plt,qw,and_false,or_false];omega) (λx y z h1 h2=>by simp[plt,qw,and_false,or_false]at *;omega) (λx y z h1 h2=>by simp[plt,qw,and_false,or_false]at *;omega)
noncomputable def FD:List SV->List Ob->Option atB:=jz .ath 80 [] bU
@[go_sem]def aa_ {a:List S1}:FD [.os 0,.fn 80 [] []] [.row .ath a]=some (fZ (apart bU a) (.tup []) [.row .ath (srt bU a)]):=oM
def OX:zM .ath:=λx s E=>by
 simp[cellsOf,aqg,aq_,or_false]at E;rcases E with rfl|rfl|rfl|rfl;all_goals exact⟨_,rfl,rfl⟩
def JP (x y:S1):oZ (.agg (cellsOf .ath x):: .agg (cellsOf .ath y)::[])=some (.det True (.i (bU x y))):=by
 simp[go_sem]
def OY:atA prog 79 FD:=
 tJ (k:=.ath) Tryz.avH (λw=>by kernel_rfl) (λw=>by kernel_rfl) OX (by decide) (g:=80) (caps:=[]) we (cf:=bU) JP JO (λs E=>by cases E) ⟨default,default,JP _ _⟩
end Go.Sx
end
section
namespace Go.Sx
open Go.Proofs Tryz
open IntKind (i64)
@[go_sem] def dD (c:M1)(g:List S1)(f:G2)(a:Int×S1)(b:List ((Int×Int)×Bool)×List S1):Empty⊕(List ((Int×Int)×Bool)×List S1):=letI e:=c.d.reaches.getD (Int.toNat a.2.reach) default;(bif((ji a.2 f c.d.reaches) ||(aF .atv .bool b.1 (e.up,a.2.hour)))then .inr ((cy .atv .bool b.1 (a.2.reach,(i64.wrap (a.2.hour+e.delay))) true),(b.2++([a.2])))else .inr (b.1,b.2))
def fC (b:M1)(h:List S1)(f:G2)(a:Int×S1)(c:List ((Int×Int)×Bool)×List S1):Prop:=letI e:=0<=a.2.reach/\a.2.reach< (b.d.reaches.length:Int);letI g:=ji a.2 f b.d.reaches;((kv a.2 f b.d.reaches)/\((g=false->e)/\((g||(aF .atv .bool c.1 ((b.d.reaches.getD (Int.toNat a.2.reach) default).up,a.2.hour)))=true->(e/\((c.2++([a.2])).length*32<=dh)))))
def gi (b:M1)(a:List S1)(f:G2):List S1:=(match cS (dD b a f) (aK a) ([],[])with| .inl x=>x.elim| .inr c=>(srt bU c.2))
def jk (c:M1)(a:List S1)(f:G2):Prop:=letI b:=aK a;letI d:=dD c a f;((ct a (b.map yE))/\okL d (fC c a f) b ([],[])/\(∀ ee,cS d b ([],[])=.inr ee->(apart bU ee.2)))
@[go_sem] def yF:FI:=(pD .P1 λa=>(pR .ath λb=>(pD .fault λf=>(pE (.det (jk a b f) (.nw .ath (gi a b f)))))))
def amJ {p:Prop}(h:p:=by simp only[go_sem,e0_0,e0_1,e0_2,e0_3,e0_4,e0_5]):p:=h
def amK {l0 l1:List Nat}(a0:JL l0)(a1:JL l1){p:Prop}(h:JL l0->JL l1->p:=by intro ja jb;simp only[go_sem,dD,psT,yE,aqB,aqs];all_goals exact fM ja jb):p:=h a0 a1
def xL:P0 prog 35 yF:=by
 have hG:=mG (cp wd (cn [.sl .ath] mF Q1)) (co OY Q1);refine fE hG f35 (ap λV=>(aZ λO=>(ap λf=>(am (λW=>?_)))));dsimp only[an,jk]at W;refine⟨nbl rfl,(XO 0 (λst=>LC (ρ:=Empty) (σ:=List ((Int×Int)×Bool)×List S1) (lk 6 st.t=.v (.slice none 0 0)/\lk 7 st.t=.ptr 2 0/\lk 8 st.t=.ptr 3 0/\lk 9 st.t=.ptr 5 0/\lk 10 st.t=.ptr 6 0/\lk 19 st.t=.fn 135 [] [.ep [.rs .ath O] 0]/\st.h=[.cells (cellsOf .P1 V),.cells (cellsOf .fault f),.cells [.rs .reach V.d.reaches],.cells [.fn 77 [] [.ptr 1 0,.ptr 2 0]],.mp .atv .bool ([]) none,.cells [.os 4],.cells [.v (.slice none 0 0)]]/\ct O ((aK O).map yE)/\okL (dD V O f) (fC V O f) (aK O) ([],[])) (cS (dD V O f) (aK O) ([],[])) (λx=>x.elim) (λx=>x.elim) (λE=>⟨[(6,.v (.slice none 0 0)),(7,.ptr 2 0),(8,.ptr 3 0),(9,.ptr 5 0),(10,.ptr 6 0)],[.dead,.cells (cellsOf .fault f),.cells [.rs .reach V.d.reaches],.cells [.fn 77 [] [.ptr 1 0,.ptr 2 0]],.mp .atv .bool E.1 none,.cells [.os 4],.cells [.os 8],.dead,.row .ath E.2]⟩)) L0),?_,?_⟩
 ·unfold aa f35;simp only[ak,true_and,and_true]
  ·refine BK mixed aC hG (by decide) (by decide) kr kr λst lc hC W=>?_;simp only[go_sem,Nat.reduceBEq,aqd]at hC;subst hC;obtain⟨t,h⟩:=st;dsimp only[LC]at W;obtain⟨e0_0,e0_1,e0_2,e0_3,e0_4,e0_5,rfl,hb0,X⟩:=W;refine⟨⟨t,[.cells (cellsOf .P1 V),.cells (cellsOf .fault f),.cells [.rs .reach V.d.reaches],.cells [.fn 77 [] [.ptr 1 0,.ptr 2 0]],.mp .atv .bool ([]) none,.cells [.os 4],.cells [.os 7],.row .ath ([])]⟩,aud.cell (h:=[.cells (cellsOf .P1 V),.cells (cellsOf .fault f),.cells [.rs .reach V.d.reaches],.cells [.fn 77 [] [.ptr 1 0,.ptr 2 0]],.mp .atv .bool ([]) none,.cells [.os 4],.cells [.v (.slice none 0 0)]]) (i:=6) (j:=0) (.row .ath ([])) (aud.refl _) rfl rfl (.inl ⟨_,rfl⟩),135,[.ep [.rs .ath O] 0],Int×S1,_,_,(aK O),yE,(dD V O f),(fC V O f),_,([],[]),_,_,_,[(6,.v (.slice none 0 0)),(7,.ptr 2 0),(8,.ptr 3 0),(9,.ptr 5 0),(10,.ptr 6 0)],(λE=>[.dead,.cells (cellsOf .fault f),.cells [.rs .reach V.d.reaches],.cells [.fn 77 [] [.ptr 1 0,.ptr 2 0]],.mp .atv .bool E.1 none,.cells [.os 4],.cells [.os 8],.dead,.row .ath E.2]),(λx=>x.elim),[0,1,2,3,4,5,6,7,7],?_,rfl,X,nbl rfl,?_,lN O _ hb0,λz_0 E Y=>⟨rfl,L0,λl=>?_,λl=>?_,?_⟩,λE=>?_,λy=>?_⟩;exact amJ
   ·simp only[go_sem,ww,lB,aqx,arp,aqs,aqo,aq4,e0_0,e0_1,e0_2,e0_3,e0_4,e0_5];all_goals (first|done|decide|(repeat' (first|refine And.intro ?_ ?_|rfl|decide)))
   simp only[ak,and_self,true_and,and_true];simp only[ak,and_self,true_and,and_true];unfold fC at Y;exact amK (jl [0,1,2,3,4,5,6,7,11]) (jl [0,1,2,3,4,5,6,7,8]);exact oR (jl [0,1,2,3,4,5,6,7,11]) (jl [0,1,2,3,4,5,6,7,8]);exact oR (jl [0,1,2,3,4,5,6,7,11]) (jl [0,1,2,3,4,5,6,7,8])
 unfold aa f35;try unfold gi
 exact zq1
end Go.Sx
end
section
namespace Go.Sx
def awF {p:Prop}(h:p:=by(first|done|(repeat' (first|with_reducible refine And.intro ?_ ?_|with_reducible intro _)) <;>(first|done|with_reducible assumption|(exfalso;simp_all only[ne_eq];done) |exact cl))):p:=h
end Go.Sx
end
section
namespace Go.Sx
open Go.Proofs Tryz
open IntKind (i64)
@[go_sem] def B5:FI:=pR .int λl=>pE (.det (l.length*8<=dh) (.nw .int l))
def A_:P0 prog 33 B5:=by
 refine fW (mG Q1 Q1) f33 [(.tmp 2,.int)] (aZ λl=>am λE=>?_);dsimp only[an]at E;refine⟨nbl rfl,L0,ag _,?_⟩;unfold aa f33;simp only[go_sem];intro b V;refine⟨λh=>?_,λ_=>?_⟩;have O:=V h;subst O;rfl;first|exact E|exact⟨E,λ_=>rfl⟩
@[go_sem] def dS (b:ai)(f:List bo)(g h i:Int)(e:List Int)(j:Unit):(ByteArray×Int×Int×Int×List Reach×List auy×List au0×List atN×List au1×List au2×List Claim×List Int)⊕Unit:=letI a:=dg ((aG b f g h i).1) e;(bif(!(ei b (a.c)).2.1)then .inl (a.d.name,a.d.hours,a.d.atx.cap,a.d.atx.start,a.d.reaches,a.d.zs,a.d.atE,a.d.bl,a.d.aty,a.d.auc,a.c,e)else .inr ())
def mf (a:ai)(f:List bo)(g h i:Int)(b:List Int)(j:Unit):Prop:=letI d:=(aG a f g h i).1;letI e:=(dg d b).c;((j9 d b)/\((kY a e)/\((!(ei a e).2.1)=true->(b.length*8<=dh))))
def gG (b:ai)(f:List bo)(g h i:Int):atp×Bool×Int:=letI e:=aG b f g h i;(bif(e.2 !=0)then(({ bl:=[],kind:=0,reach:=0,hour:=0,atf:=[]}:atp),false,e.2)else(bif(ei b ((e.1).c)).2.1 then(({ bl:=[],kind:=0,reach:=0,hour:=0,atf:=[]}:atp),false,0)else(match cS (dS b f g h i) (eP (ay (e.1))) ()with| .inl a=>(({ bl:=a.2.2.2.2.2.2.2.2.2.2.2,kind:=((bM b a.2.2.2.2.2.2.2.2.2.2.1).1).kind,reach:=((bM b a.2.2.2.2.2.2.2.2.2.2.1).1).index,hour:=((bM b a.2.2.2.2.2.2.2.2.2.2.1).1).hour,atf:=(gi ({ d:=({ name:=a.1,hours:=a.2.1,atx:=({ cap:=a.2.2.1,start:=a.2.2.2.1}:auF),reaches:=a.2.2.2.2.1,zs:=a.2.2.2.2.2.1,atE:=a.2.2.2.2.2.2.1,bl:=a.2.2.2.2.2.2.2.1,aty:=a.2.2.2.2.2.2.2.2.1,auc:=a.2.2.2.2.2.2.2.2.2.1}:ai),c:=a.2.2.2.2.2.2.2.2.2.2.1}:M1) (dW ({ d:=({ name:=a.1,hours:=a.2.1,atx:=({ cap:=a.2.2.1,start:=a.2.2.2.1}:auF),reaches:=a.2.2.2.2.1,zs:=a.2.2.2.2.2.1,atE:=a.2.2.2.2.2.2.1,bl:=a.2.2.2.2.2.2.2.1,aty:=a.2.2.2.2.2.2.2.2.1,auc:=a.2.2.2.2.2.2.2.2.2.1}:ai),c:=a.2.2.2.2.2.2.2.2.2.2.1}:M1)) ((bM b a.2.2.2.2.2.2.2.2.2.2.1).1))}:atp),true,0) | .inr j=>default)))
def rt (a:ai)(b:List bo)(e f g:Int):Prop:=letI j:=dS a b e f g;letI k:=aG a b e f g;letI h:=k.1;letI l:=ay h;letI i:=eP l;((oY a b e f g)/\((k.2 !=0)=false->((kY a (h.c))/\((ei a (h.c)).2.1=false->((fK h)/\((mc l (i.map aa6))/\okL j (mf a b e f g) i ()/\(∀ z_,cS j i ()≠ .inr z_)/\(∀ lx,cS j i ()=.inl lx->((mM a lx.2.2.2.2.2.2.2.2.2.2.1)/\((iK ({ d:=({ name:=lx.1,hours:=lx.2.1,atx:=({ cap:=lx.2.2.1,start:=lx.2.2.2.1}:auF),reaches:=lx.2.2.2.2.1,zs:=lx.2.2.2.2.2.1,atE:=lx.2.2.2.2.2.2.1,bl:=lx.2.2.2.2.2.2.2.1,aty:=lx.2.2.2.2.2.2.2.2.1,auc:=lx.2.2.2.2.2.2.2.2.2.1}:ai),c:=lx.2.2.2.2.2.2.2.2.2.2.1}:M1))/\(jk ({ d:=({ name:=lx.1,hours:=lx.2.1,atx:=({ cap:=lx.2.2.1,start:=lx.2.2.2.1}:auF),reaches:=lx.2.2.2.2.1,zs:=lx.2.2.2.2.2.1,atE:=lx.2.2.2.2.2.2.1,bl:=lx.2.2.2.2.2.2.2.1,aty:=lx.2.2.2.2.2.2.2.2.1,auc:=lx.2.2.2.2.2.2.2.2.2.1}:ai),c:=lx.2.2.2.2.2.2.2.2.2.2.1}:M1) (dW ({ d:=({ name:=lx.1,hours:=lx.2.1,atx:=({ cap:=lx.2.2.1,start:=lx.2.2.2.1}:auF),reaches:=lx.2.2.2.2.1,zs:=lx.2.2.2.2.2.1,atE:=lx.2.2.2.2.2.2.1,bl:=lx.2.2.2.2.2.2.2.1,aty:=lx.2.2.2.2.2.2.2.2.1,auc:=lx.2.2.2.2.2.2.2.2.2.1}:ai),c:=lx.2.2.2.2.2.2.2.2.2.2.1}:M1)) ((bM a lx.2.2.2.2.2.2.2.2.2.2.1).1)))))))))))
@[go_sem] def OZ:FI:=(pD .al λa=>(pR .C1 λb=>(pI λc=>(pI λd=>(pI λe=>(pE (.det (rt a b c d e) (.tup [.agg [.nw .int (((gG a b c d e).1).bl),.i (((gG a b c d e).1).kind),.i (((gG a b c d e).1).reach),.i (((gG a b c d e).1).hour),.nw .ath (((gG a b c d e).1).atf)],.v (.bool ((gG a b c d e).2.1)),.i ((gG a b c d e).2.2)]))))))))
variable {p:Prop}
def amL(h:p:=by simp only[go_sem,e0_0,e0_1,e0_2,e0_3,e0_4,e0_5,e0_6]):p:=h
def amM{l0 l1:List Nat}(a0:JL l0)(a1:JL l1)(h:JL l0->JL l1->p:=by intro ja jb;simp only[go_sem,dS,psT,aa6,aqB,aqs];all_goals exact fM ja jb):p:=h a0 a1
def amN(h:p:=by simp only[go_sem];all_goals exact awF):p:=h
theorem Lj:P0 prog 11 OZ:=by
 have hG:=mG (cn [.st .al,.sl .B1] Dq (cn [.st .al,.sl .C1,.o,.o,.o] Ag (cn [.sl .int] JI (cn [.st .P1] lF (cn [.st .P1,.sl .int] vE (cn [.sl .int] A_ (cn [.st .al,.sl .B1] v6 (cn [.st .P1,.sl .ath,.st .fault] xL (cn [.st .P1] wU Q1))))))))) Q1;refine fW hG f11 [(.cell 10 0,.int),(.cell 10 4,.ath)] (ap λa0=>(aZ λa1=>(ax λV=>(ax λW=>(ax λO=>(am (λY=>?_)))))));dsimp only[an,rt]at Y;refine⟨nbl rfl,(XO 0 (λst=>LC (ρ:=ByteArray×Int×Int×Int×List Reach×List auy×List au0×List atN×List au1×List au2×List Claim×List Int) (σ:=Unit) (lk 5 st.t=.ptr 0 0/\lk 10 st.t=.ptr 1 0/\lk 11 st.t=.v (.bool false)/\lk 12 st.t=.i ((aG a0 a1 V W O).2)/\lk 13 st.t=.ptr 2 0/\lk 17 st.t=.ptr 3 0/\lk 50 st.t=.fn 69 [] [.ep [.rs .int (ay ((aG a0 a1 V W O).1))] 0]/\st.h=[.cells (cellsOf .al a0),.cells [.v (.slice none 0 0),.i 0,.i 0,.i 0,.v (.slice none 0 0)],.cells (cellsOf .P1 ((aG a0 a1 V W O).1)),.cells [.v (.string (ByteArray.mk #[])),.i 0,.i 0,.i 0,.v (.slice none 0 0),.v (.slice none 0 0),.v (.slice none 0 0),.v (.slice none 0 0),.v (.slice none 0 0),.v (.slice none 0 0),.v (.slice none 0 0)]]/\mc (ay ((aG a0 a1 V W O).1)) ((eP (ay ((aG a0 a1 V W O).1))).map aa6)/\okL (dS a0 a1 V W O) (mf a0 a1 V W O) (eP (ay ((aG a0 a1 V W O).1))) ()/\(∀ z_,cS (dS a0 a1 V W O) (eP (ay ((aG a0 a1 V W O).1))) ()≠ .inr z_)) (cS (dS a0 a1 V W O) (eP (ay ((aG a0 a1 V W O).1))) ()) (λ_=>.normal) (λE=>⟨[(5,.ptr 0 0),(10,.ptr 1 0),(11,.v (.bool false)),(12,.i ((aG a0 a1 V W O).2)),(13,.ptr 2 0),(17,.ptr 3 0)],[.cells (cellsOf .al a0),.cells [.os 5,.i 0,.i 0,.i 0,.v (.slice none 0 0)],.cells (cellsOf .P1 ((aG a0 a1 V W O).1)),.cells [.v (.string E.1),.i E.2.1,.i E.2.2.1,.i E.2.2.2.1,.rs .reach E.2.2.2.2.1,.rs .gl E.2.2.2.2.2.1,.rs .at9 E.2.2.2.2.2.2.1,.rs .right E.2.2.2.2.2.2.2.1,.rs .aul E.2.2.2.2.2.2.2.2.1,.rs .auq E.2.2.2.2.2.2.2.2.2.1,.rs .B1 E.2.2.2.2.2.2.2.2.2.2.1],.dead,.row .int E.2.2.2.2.2.2.2.2.2.2.2]⟩) (λX=>⟨[(5,.ptr 0 0),(10,.ptr 1 0),(11,.v (.bool false)),(12,.i ((aG a0 a1 V W O).2)),(13,.ptr 2 0),(17,.ptr 3 0)],[.cells (cellsOf .al a0),.cells [.os 5,.i 0,.i 0,.i 0,.v (.slice none 0 0)],.cells (cellsOf .P1 ((aG a0 a1 V W O).1)),.cells [.any,.any,.any,.any,.any,.any,.any,.any,.any,.any,.any],.dead,.row .int ([])]⟩)) L0),?_,?_⟩
 ·unfold aa f11;simp only[ak,true_and,and_true]
  ·refine BK mixed aC hG (by decide) (by decide) kr kr λst lc hC Y=>?_;simp only[go_sem,Nat.reduceBEq,aqd]at hC;subst hC;obtain⟨t,h⟩:=st;dsimp only[LC]at Y;obtain⟨e0_0,e0_1,e0_2,e0_3,e0_4,e0_5,e0_6,rfl,hb0,hok0,hno0⟩:=Y;refine⟨⟨t,[.cells (cellsOf .al a0),.cells [.os 4,.i 0,.i 0,.i 0,.v (.slice none 0 0)],.cells (cellsOf .P1 ((aG a0 a1 V W O).1)),.cells [.v (.string (ByteArray.mk #[])),.i 0,.i 0,.i 0,.v (.slice none 0 0),.v (.slice none 0 0),.v (.slice none 0 0),.v (.slice none 0 0),.v (.slice none 0 0),.v (.slice none 0 0),.v (.slice none 0 0)],.row .int ([])]⟩,aud.cell (h:=[.cells (cellsOf .al a0),.cells [.v (.slice none 0 0),.i 0,.i 0,.i 0,.v (.slice none 0 0)],.cells (cellsOf .P1 ((aG a0 a1 V W O).1)),.cells [.v (.string (ByteArray.mk #[])),.i 0,.i 0,.i 0,.v (.slice none 0 0),.v (.slice none 0 0),.v (.slice none 0 0),.v (.slice none 0 0),.v (.slice none 0 0),.v (.slice none 0 0),.v (.slice none 0 0)]]) (i:=1) (j:=0) (.row .int ([])) (aud.refl _) rfl rfl (.inl ⟨_,rfl⟩),69,[.ep [.rs .int (ay ((aG a0 a1 V W O).1))] 0],List Int,_,_,(eP (ay ((aG a0 a1 V W O).1))),aa6,(dS a0 a1 V W O),(mf a0 a1 V W O),_,(),_,_,_,[(5,.ptr 0 0),(10,.ptr 1 0),(11,.v (.bool false)),(12,.i ((aG a0 a1 V W O).2)),(13,.ptr 2 0),(17,.ptr 3 0)],(λX=>[.cells (cellsOf .al a0),.cells [.os 5,.i 0,.i 0,.i 0,.v (.slice none 0 0)],.cells (cellsOf .P1 ((aG a0 a1 V W O).1)),.cells [.any,.any,.any,.any,.any,.any,.any,.any,.any,.any,.any],.dead,.row .int ([])]),(λE=>[.cells (cellsOf .al a0),.cells [.os 5,.i 0,.i 0,.i 0,.v (.slice none 0 0)],.cells (cellsOf .P1 ((aG a0 a1 V W O).1)),.cells [.v (.string E.1),.i E.2.1,.i E.2.2.1,.i E.2.2.2.1,.rs .reach E.2.2.2.2.1,.rs .gl E.2.2.2.2.2.1,.rs .at9 E.2.2.2.2.2.2.1,.rs .right E.2.2.2.2.2.2.2.1,.rs .aul E.2.2.2.2.2.2.2.2.1,.rs .auq E.2.2.2.2.2.2.2.2.2.1,.rs .B1 E.2.2.2.2.2.2.2.2.2.2.1],.dead,.row .int E.2.2.2.2.2.2.2.2.2.2.2]),[0,1,2,3,4,4],?_,rfl,hok0,nbl rfl,?_,EN (ay ((aG a0 a1 V W O).1)) _ hb0,λz_0 X hq0=>⟨rfl,L0,λl=>?_,λl=>?_,?_⟩,λX=>?_,λy=>?_⟩;exact amL
   ·simp only[go_sem,ww,lB,aqx,arp,aqs,aqo,aq4,e0_0,e0_1,e0_2,e0_3,e0_4,e0_5,e0_6];all_goals (first|done|decide|(repeat' (first|refine And.intro ?_ ?_|rfl|decide)))
   simp only[ak,and_self,true_and,and_true];simp only[ak,and_self,true_and,and_true];unfold mf at hq0;exact amM (jl [0,1,2,3,4,6]) (jl [0,1,2,3,4,5]);exact oR (jl [0,1,2,3,4,6]) (jl [0,1,2,3,4,5]);exact oR (jl [0,1,2,3,4,6]) (jl [0,1,2,3,4,5])
 unfold aa f11;try unfold gG
 exact amN
theorem yG (d:ai)(l:List bo)(fr to k:Int):(aQ d l fr to k).1.length<=4096:=by
 rw[(MB d l fr to k).2];grind [lim]
def VK {α:Type}{step:Nat->List α->Empty⊕List α}{p:Nat->List α->Prop}(f:Nat->α)(h:∀ k s,step k s=.inr (s++[f k])):∀ (n i:Nat) (s:List α),s.length=i->(∀ k s,k<i+n->s.length=k->p k s)->okI step p n i s
 |0,_,_,_,_=>trivial
 |n+1,i,s,hs,hp=>⟨hp i s XM hs,λs' e=>VK f h n (i+1) s' XN λk s h1 h2=>hp k s XM h2⟩
theorem B6 (s:M1)(h:s.c.length<=4096):fK s:=λ_=>
 VK (λk=>(s.c.getD k (default:Claim)).right) (λ_ _=>rfl) _ _ _ rfl λk t h1 h2=>by
  grind [g_,dh]
def ae8 (d:ai)(l:List bo)(fr to k:Int):oY d l fr to k:=
 ⟨(MB d l fr to k).1,λ_=>⟨JG d _,λ_=>B6 _ (yG d l fr to k)⟩⟩
theorem AP (d:ai)(c:List Claim):(bM d c).2.2=0↔auJ d c/\(aH d (aA c)).2.2=0:=by
 unfold bM b_;by_cases E:auJ d c
 rw[EM E];grind
 have h1:(aO d c).2≠0:=λq=>E (AO.1 q);grind
structure Opn (d:ai)(l:List bo)(fr to k:Int):Prop where
 err:(aQ d l fr to k).2=0
 ask:auJ d (aQ d l fr to k).1
 plan:(aH d (aA (aQ d l fr to k).1)).2.2=0
 ten:((ay { d:=d,c:=(aQ d l fr to k).1}).length:Int)<=10
theorem GX (d:ai)(l:List bo)(fr to k:Int):(aG d l fr to k).2=0↔Opn d l fr to k:=by
 have O:=AP d (aQ d l fr to k).1;unfold aG;by_cases h1:(aQ d l fr to k).2=0
 by_cases h2:(bM d (aQ d l fr to k).1).2.2=0
 by_cases X:((ay { d:=d,c:=(aQ d l fr to k).1}).length:Int)<=10
 have E:decide (((ay { d:=d,c:=(aQ d l fr to k).1}).length:Int) > 10)=false:=by simp;omega
 simp only[h1,h2,E,bne_self_eq_false,cond_false];exact⟨λ_=>⟨h1,(O.1 h2).1,(O.1 h2).2,X⟩,λ_=>trivial⟩;have E:decide (((ay { d:=d,c:=(aQ d l fr to k).1}).length:Int) > 10)=true:=by simp;omega
 simp only[h1,h2,E];exact⟨λh=>(by cases h),λh=>absurd h.ten X⟩;have W:((bM d (aQ d l fr to k).1).2.2 !=0)=true:=XN
 simp[h1,W];exact⟨λh=>absurd h h2,λh=>absurd (O.2 ⟨h.ask,h.plan⟩) h2⟩;have V:((aQ d l fr to k).2 !=0)=true:=XN
 simp[V];exact⟨λh=>absurd h h1,λh=>absurd h.err h1⟩
variable {d:ai}
theorem B7{l:List bo}{fr to k:Int}(h:Opn d l fr to k):aG d l fr to k=({ d:=d,c:=(aQ d l fr to k).1},0):=by
 have h2:=(AP d (aQ d l fr to k).1).2 ⟨h.ask,h.plan⟩;have E:decide (((ay { d:=d,c:=(aQ d l fr to k).1}).length:Int) > 10)=false:=by have:=h.ten;simp;omega
 unfold aG;simp[h.err,h2,E,bne_self_eq_false,cond_false]
theorem yH{c:List Claim}(h:auJ d c):∀ x∈c,0<=x.gl/\x.gl< (d.zs.length:Int):=λx E=>by
 have:=((iS d c).1 h.chk).2.2.1 x E;grind [okC]
theorem RS {s:M1}(h:∀ x∈s.c,0<=x.gl/\x.gl< (s.d.zs.length:Int)):gS s:=λ_=>
 eu _ _ _ λj t _ E=>by
  grind [ij]
theorem MN {ρ σ:Type}{step:Nat->σ->ρ⊕σ}:∀ (n i:Nat) (s:σ) {r:σ},aj step n i s=.inr r->∀ j,i<=j->j<i+n->∃ t t',step j t=.inr t'
 |0,_,_,_,_,j,h1,h2=>XM
 |n+1,i,s,r,h,j,h1,h2=>by
  rw[aj]at h;cases e:step i s with
  |inl x=>grind
  |inr s'=>
   rw[e]at h;by_cases E:j=i
   grind
   exact MN n (i+1) s' h j XM XM
theorem nR (n lo hi:Int):bf n lo hi=true↔lo<=n/\n<=hi:=by
 unfold bf;simp
theorem ahT {s:M1}(h:∀ x∈s.c,0<=x.gl/\x.gl< (s.d.zs.length:Int))(V:s.d.reaches.length<=64)(l:List S1):kJ s l:=by
 have hw:∀ n:Int,bf n 0 (i64.wrap ((s.d.reaches.length:Int) - 1))=true->0<=n/\n< (s.d.reaches.length:Int):=λn h=>by
  grind [nR,ar]
 refine⟨RS h,λ_=>⟨eu _ _ _ λj t _ E=>?_,λt O _=>eu _ _ _ λj u _ E=>?_⟩⟩;grind [jg]
 have⟨v,v',e⟩:=MN _ _ _ O j (aqq _) E;grind [jh,b7]
theorem DA (d:ai)(l:List bo)(fr to k:Int)(r:atp):iv d l fr to k r:=by
 refine⟨ae8 d l fr to k,λX=>?_⟩;have E:=(GX d l fr to k).1 XN;have hc:=yG d l fr to k;have O:d.reaches.length<=64:=by
  have:=((ql d).1 ((iS d _).1 E.ask.chk).1).1;omega
 rw[B7 E];refine⟨B6 _ hc,λY=>⟨eu _ _ _ λj t _ hj=>?_,λs W=>?_⟩⟩;grind [mO,aD,ar]
 have⟨h1,h2⟩:=ym { d:=d,c:=(aQ d l fr to k).1} r.bl hc;refine⟨h1,?_⟩;rw[h2];refine⟨ahT (λx V=>yH E.ask x ((arQ.1 V).1)) O _,λhg=>?_⟩;grind [nR,ar]
end Go.Sx
end
