/- Part of the proof that the law RefuseHolds returns true and leaves its arguments as they were, for all arguments of bulk at most 1048576 (the Upto form). -/
import Derived.Test.YtaikmgjfkejlkaaGreatH112
import Derived.Test.YtaikmgjfkejlkaaGreatH107
import Derived.Test.YtaikmgjfkejlkaaGreatH108
import Derived.Test.YtaikmgjfkejlkaaGreatH109
import Derived.Test.YtaikmgjfkejlkaaGreatH111
import Derived.Shelf.SlSortCmp.NoneTotal
import Derived.Ground.SlsfProg
import Derived.Test.YtaikmgjfkejlkaaGreatH103
import Derived.Test.YtaikmgjfkejlkaaGreatProg
set_option linter.all false
set_option maxHeartbeats 4000000
set_option maxRecDepth 100000
section
namespace Go.Sx
open Go.Lib Go.Proofs Go.Shelf Go.Sort
def oP (f h:Int):Q1:= { hour:=h,index:=f,S2:=true}
def tQ (c:List Claim)(f h:Int):Int:=eV (oP f h) c
def ats (c:List Claim):Prop:=c.length<=4096/\∀ a∈c,1<=a.bl/\a.bl<=1073741824
variable {c:List Claim}
def VB{j:Nat}(E:j<c.length)(f h:Int):tQ (c.take (j+1)) f h=tQ (c.take j) f h+(if oP f h=nN c[j]then c[j].bl else 0):=by
 unfold tQ;rw[aoX E,EC];simp[eV]
def ab0(h:ats c)(f t:Int):0<=tQ c f t/\tQ c f t<=4398046511104:=by
 have h1:=AB (oP f t) c h.2;have h2:=h.1;grind [tQ]
theorem ats.take(h:ats c)(j:Nat):ats (c.take j):=⟨by rw[aph];have:=h.1;omega,λa E=>h.2 a (apm E)⟩
theorem Zh {k:Tag}(m:List (k.T×Int))(x:k.T)(y:Int):(dF k .int m x y).length<=m.length+1:=by
 have:=congrArg List.length (A9 m x y);rw[apd]at this;show(u5 m x y).length<=_;grind
def T0(h:ats c):∃ m,aj (dD c) c.length 0 []=.inr m/\SM .bo (λp=>tQ c p.index p.hour) m/\m.length<=c.length:=by
 obtain⟨m,e,O,hn⟩:=Nd (step:=dD c) (λj m=>SM .bo (λp=>tQ (c.take j) p.index p.hour) m/\m.length<=j) c.length 0 [] ⟨by simpa[tQ,eV]using SM.nil,aom _⟩ (λj m _ E ⟨O,hn⟩ =>by
  have E:j<c.length:=g5
  refine⟨_,rfl,?_,aoA (Zh _ _ _) g5⟩;rw[ik _ _ E];have h1:=ab0 (h.take j) c[j].dd c[j].hour;have h2:=h.2 _ (apg E);have W:=O.get ({ index:=c[j].dd,hour:=c[j].hour}:tm);simp only at W;refine O.put _ (v:=_) ?_ λp=>?_;grind [aw]
  rw[W,aw g5 g5,VB E];by_cases V:p=({ index:=c[j].dd,hour:=c[j].hour}:tm)
  subst V;rw[if_pos rfl,if_pos (by rfl)];rw[if_neg V,if_neg (λq=>V (by
   unfold oP nN at q;simp only[Q1.mk.injEq]at q;obtain⟨a,b⟩:=p;grind))]
  omega)
 simp_all
def toO (e:tm×Int):Order:= { hour:=e.1.hour,index:=e.1.index,bl:=e.2,S2:=true}
theorem Cy (m:List (tm×Int)):∀ (L:List (tm×Int)) (s:List Order),cG (eO m) L s=.inr (s++L.map toO)
 | [],s=>by simp[cG]
 |x::L,s=>by
  have e:eO m x s=.inr (s++[toO x]):=rfl;simp only[cG,e];rw[Cy m L];simp
theorem K_ (m:List (tm×Int)):∀ (L:List (tm×Int)) (s:List Order),s.length+L.length<=100000->okL (eO m) (gW m) L s
 | [],s,_=>trivial
 |x::L,s,h=>by
  have e:eO m x s=.inr (s++[toO x]):=rfl;rw[aon]at h;refine⟨?_,λs' E=>?_⟩;grind [gW,dT]
  rw[e]at E;simp only[aoK]at E;subst E;exact K_ m L _ (by simp;omega)
theorem Ir {m:List (tm×Int)}(h:(m.map Prod.fst).Nodup):(m.map toO).Pairwise λx y=>¬K x y:=by
 rw[aqb];unfold List.Nodup at h;rw[aqb]at h;refine h.imp λ{a b} q k=>q ?_;obtain⟨⟨a1,O⟩,X⟩:=a;obtain⟨⟨V,E⟩,W⟩:=b;have h1:O=E:=k.1;have h2:a1=V:=k.2.1;rw[h1,h2]
theorem Is {x y:Order}(E:x.S2=true)(hy:y.S2=true):Vy x y↔olt x y:=by
 grind [Vy,olt,Cq,M7]
theorem ub (l:List Order):(srt ar l).Perm l:=apo _ _
variable {l:List Order}
theorem Nk(Y:∀ x∈l,x.S2=true)(h:l.Pairwise λx y=>¬K x y):(srt ar l).Pairwise olt:=by
 have h1:(srt ar l).Pairwise λx y=>(!(ltOf ar y x))=true:=by
  refine apk (λa b c h1 h2=>?_) (λa b=>?_) l;simp only[aox]at h1 h2 |-;exact lG.ntrans _ _ _ h2 h1;cases q:ltOf ar b a with
  |false=>rfl
  |true=>
   cases O:ltOf ar a b with
   |false=>rfl|true=>have:=lG.trans _ _ _ q O;rw[lG.irrefl]at this;cases this
 have h2:=r8 (ub l) h;have V:∀ x∈srt ar l,x.S2=true:=λx hx=>Y x ((ub l).mem_iff.1 hx);rw[ao3]at h1 h2 |-;intro i j hi W E;have q1:=h1 i j hi W E;have O:=h2 i j hi W E;have X:¬olt (srt ar l)[j] (srt ar l)[i]:=λq=>by
  have:ltOf ar (srt ar l)[j] (srt ar l)[i]=true:=by
   unfold ltOf;rw[decide_eq_true_eq];exact(xB _ _).2 ((Is (V _ (apg _)) (V _ (apg _))).2 q)
  grind
 exact aoU λq4=>O (FM q4 X)
theorem ab1{m:List Order}(O:∀ x∈l,x.S2=true)(h:l.Pairwise λx y=>¬K x y)(E:m.Perm l):srt ar m=srt ar l:=by
 have W:∀ x∈m,x.S2=true:=λx V=>O x (E.mem_iff.1 V);exact apu (λa b _ _ h1 h2=>absurd h2 (λh2=>by grind [olt])) (Nk W (r8 E h)) (Nk O h) ((ub m).trans (E.trans (ub l).symm))
theorem af_(E:∀ x∈l,x.S2=true)(h:l.Pairwise λx y=>¬K x y):apart ar l:=λx O y hy h1 h2=>by
 refine TY h O hy (FM (λq=>?_) λq=>?_);unfold ltOf at h1;rw[decide_eq_false_iff_not]at h1;exact h1 ((xB _ _).2 ((Is (E x O) (E y hy)).2 q));unfold ltOf at h2;rw[decide_eq_false_iff_not]at h2;exact h2 ((xB _ _).2 ((Is (E y hy) (E x O)).2 q))
theorem Nl (m:List (tm×Int)):∀ x∈m.map toO,x.S2=true:=λx E=>by
 obtain⟨e,_,rfl⟩:=apb.1 E;rfl
theorem Bd {p:Q1}:∀ {c:List Claim},eV p c≠0->∃ a∈c,p=nN a
 | [],h=>absurd rfl h
 |a::r,h=>by
  by_cases q:p=nN a
  grind
  simp only[eV,if_neg q,Int.zero_add]at h;obtain⟨b,E,e⟩:=Bd h;grind
structure aua (c:List Claim)(o:List Order):Prop where
 out:∀ x∈o,x.S2=true
 asc:o.Pairwise olt
 lit:∀ x∈o,x.bl=tQ c x.index x.hour/\1<=x.bl
 all:∀ f h,tQ c f h≠0->∃ x∈o,x.index=f/\x.hour=h
 src:∀ x∈o,∃ a∈c,a.dd=x.index/\a.hour=x.hour
 len:o.length<=c.length
theorem outs(h:ats c):aua c (aq c):=by
 obtain⟨m,e,V,hn⟩:=T0 h;have Y:aq c=srt ar (m.map toO):=by
  grind [aq,Cy]
 rw[Y];have E:∀ x,x∈srt ar (m.map toO)↔∃ q∈m,toO q=x:=λx=>by grind [ub]
 have lit:∀ x∈srt ar (m.map toO),x.bl=tQ c x.index x.hour/\1<=x.bl:=λx O=>by
  obtain⟨q,W,rfl⟩:=(E x).1 O;have:=V.entry W;exact⟨this.1,V.pos q W⟩
 refine⟨λx O=>?_,Nk (Nl m) (Ir V.nd),lit,λf t X=>?_,λx O=>?_,?_⟩;obtain⟨q,W,rfl⟩:=(E x).1 O;rfl;exact⟨_,(E _).2 ⟨_,V.mem (p:= { index:=f,hour:=t}) X,rfl⟩,rfl,rfl⟩;have h1:=lit x O;obtain⟨a,ha,ea⟩:=Bd (p:=oP x.index x.hour) (c:=c) (by show tQ c _ _≠0;omega);grind [oP,nN]
 rw[(ub _).length_eq,apd];exact hn
theorem VC(h:ats c):la c:=by
 intro _ m V L W;obtain⟨m',e,E,hn⟩:=T0 h;rw[e]at V;simp only[aoK]at V;subst V;have X:=W.length_eq;have h1:=h.1;refine⟨K_ _ L [] (by simp;omega),λs O=>?_⟩;rw[Cy]at O;simp only[aos,aoK]at O;subst O;have Y:(L.map toO).Perm (m'.map toO):=W.map _;refine⟨af_ (Nl L) (r8 Y (Ir E.nd)),?_⟩;rw[ab1 (Nl m') (Ir E.nd) Y];grind [aq,Cy]
end Go.Sx
end
section
namespace Go.Sx
open Go.Proofs Tryz
open IntKind (i64)
@[go_sem] def jC (x:B1):List SV:=[.agg (cellsOf .fault x)]
@[go_sem] def DU:m0:=(pD .al λd=>(pR .order λa=>(pE (.det True (.fn 174 [] [.ep [.rs .order a] 0,.ep (cellsOf .al d) 0])))))
def Cz:X1 prog 111 DU:=by
 have hG:=mG Y1 Y1;refine fN hG f111 [.o] (ax λd=>(bG λout=>(am (λE=>?_))));refine⟨nbl rfl,L0,ag _,?_⟩;unfold ae f111;simp only[go_sem,sq,sr,Nat.reduceBEq,Nat.reduceLeDiff,Nat.reduceAdd,Nat.reduceSub,Nat.reduceMul]
@[go_sem] def g9 (e:List Order)(d:ah)(f:Nat)(b:List (tm×Int)):Empty⊕(List (tm×Int)):=letI a:=e.getD f default;letI c:=({ index:=(d.zs.getD (Int.toNat (a.index)) default).reach,hour:=a.hour}:tm);.inr (dF .bo .int b c (i64.wrap ((aC .bo .int b c)+a.bl)))
def j6 (a:List Order)(d:ah)(b:Nat)(c:List (tm×Int)):Prop:=(0<=(a.getD b default).index/\(a.getD b default).index< (d.zs.length:Int))
@[go_sem] def aW (d:ah)(h:List B1×List (tm×Int)×List (tm×Bool)×Int)(o:Nat)(a:List (tm×Bool)×List B1×List (tm×Int)):Empty⊕(List (tm×Bool)×List B1×List (tm×Int)):=letI b:=d.reaches.getD (Int.toNat h.2.2.2) default;letI e:=(o:Int);letI c:=({ index:=b.up,hour:=(i64.wrap (e - b.delay))}:tm);letI j:=({ index:=h.2.2.2,hour:=e}:tm);letI f:=aC .bo .int a.2.2 j;letI k:=a.2.1++[({ kind:=7,hour:=e,index:=h.2.2.2,bl:=f,limit:=0}:B1)];letI g:=gC b f;letI i:=decide (f<=1073741824);letI l:=aC .bo .int a.2.2 c;letI m:=aC .bo .bool a.1 c;letI n:=decide (e<b.delay);(bif(aC .bo .bool a.1 j)then .inr ((dF .bo .bool a.1 c true),a.2.1,a.2.2)else(bif(f==0)then .inr (a.1,a.2.1,a.2.2)else(bif i then(bif((!g.2.1) ||n)then .inr ((dF .bo .bool a.1 c (m||(!g.2.1))),k,a.2.2)else .inr (a.1,a.2.1,(dF .bo .int a.2.2 c (i64.wrap (l+(if g.1<b.arR then b.arR else g.1))))))else(bif((!i) ||n)then .inr ((dF .bo .bool a.1 c (m||(!i))),k,a.2.2)else .inr (a.1,a.2.1,(dF .bo .int a.2.2 c (i64.wrap (l+(if 0<b.arR then b.arR else 0)))))))))
def im (d:ah)(k:List (List SV))(b:List B1×List (tm×Int)×List (tm×Bool)×Int)(l:Nat)(c:List (tm×Bool)×List B1×List (tm×Int)):Prop:=letI e:=d.reaches.getD (Int.toNat b.2.2.2) default;letI f:=(l:Int);letI h:=({ index:=b.2.2.2,hour:=f}:tm);letI a:=aC .bo .int c.2.2 h;letI i:=k[c.2.1.length]? =some (jC ({ kind:=7,hour:=f,index:=b.2.2.2,bl:=a,limit:=0}:B1));letI g:=decide (a<=1073741824);letI j:=decide (f<e.delay);((aC .bo .bool c.1 h)=false->((a==0)=false->((g=true->((mr e a)/\(((!(gC e a).2.1) ||j)=true->i)))/\(g=false->(((!g) ||j)=true->i)))))
@[go_sem] def cS (d:ah)(c:Nat)(a:List B1×List (tm×Int)×List (tm×Bool)×Int):(List B1)⊕(List B1×List (tm×Int)×List (tm×Bool)×Int):=(bif(decide (a.2.2.2>=0))then(match aj (aW d a) (Int.toNat d.hours) 0 (a.2.2.1,a.1,a.2.1)with| .inl x=>x.elim| .inr b=>.inr (b.2.1,b.2.2,b.1,(i64.wrap (a.2.2.2 - 1))))else .inl a.1)
def j7 (d:ah)(b:List (List SV))(c:Nat)(a:List B1×List (tm×Int)×List (tm×Bool)×Int):Prop:=((decide (a.2.2.2>=0))=true->((0<=a.2.2.2/\a.2.2.2< (d.reaches.length:Int))/\((d.hours<9223372036854775808)/\okI (aW d a) (im d b a) (Int.toNat d.hours) 0 (a.2.2.1,a.1,a.2.1))))
def dg (a:List Order)(d:ah):List B1:=(match aj (g9 a d) a.length 0 ([])with| .inl x=>x.elim| .inr b=>(match aj (cS d) (d.reaches.length+1) 0 (([]:List B1),b,[],(i64.wrap ((d.reaches.length:Int) - 1)))with| .inl c=>c| .inr e=>default))
def jX (a:List Order)(d:ah)(f:List (List SV)):Prop:=letI b:=i64.wrap ((d.reaches.length:Int) - 1);letI c:=cS d;letI e:=d.reaches.length+1;letI g:=g9 a d;(a.length<=aI->(okI g (j6 a d) a.length 0 ([])/\(∀ l5,aj g a.length 0 ([])=.inr l5->(d.reaches.length<=aI->(okI c (j7 d f) e 0 (([]:List B1),l5,[],b)/\(∀ z_,aj c e 0 (([]:List B1),l5,[],b)≠ .inr z_)/\(∀ asw,aj c e 0 (([]:List B1),l5,[],b)=.inl asw->(f.length=asw.length)))))))
def Af (out:List Order)(d:ah)(E:List (List SV))(hp:jX out d E):AQ prog 174 (λy=>[y,.ep [.rs .order out] 0,.ep (cellsOf .al d) 0]) [] E:=by
 unfold jX at hp;refine Df mixed aB (fn:=f174) (c:=ae f174) kr kr kr kr rfl (n:=0) rfl (G:=λW=>AS [(84,Az)] [] (ER E W)) (λW hy=>?_) (λargs w=>by kernel_rfl);have hG:=mGY (cp uP Y1) Y1 hy;refine⟨hG,nbl rfl,(λid st=>bif Nat.beq id 0 then some (LCR (ρ:=Empty) (σ:=(List (tm×Int))) 3 [] [0,1,2] (λk_0 X=>⟨[(0,.os 0),(2,.ep (cellsOf .al d) 0),(4,.os 1),(5,.os 2),(18,.rs .order out),(19,.i (out.length:Int)),(20,.i k_0)],[.ab (W.1 (([]:List B1).length+1)),.mp .bo .int X none,.mp .bo .bool ([]) none]⟩) (g9 out d) (j6 out d) out.length ([]) (out.length<=aI) ((·.elim)) ((·.elim)) st)else bif Nat.beq id 2 then some (abj (ρ:=(List B1)) (σ:=(List B1×List (tm×Int)×List (tm×Bool)×Int)) 3 [] [0,1,2] (λk_1 O=>⟨[(0,.os 0),(2,.ep (cellsOf .al d) 0),(4,.os 1),(5,.os 2),(8,.i O.2.2.2)],[.ab (W.1 (O.1.length+1)),.mp .bo .int O.2.1 none,.mp .bo .bool O.2.2.1 none]⟩) (cS d) (j7 d E) (d.reaches.length+1) (([]:List B1),(bp (aj (g9 out d) out.length 0 ([]))),[],(i64.wrap ((d.reaches.length:Int) - 1))) (λ_=>.normal) (λY=>⟨[],[.ab (W.1 (Y.length+1)),.dead,.dead]⟩) ⟨[],[.ab (W.1 0),.dead,.dead]⟩ st)else none),?_,?_⟩;unfold ae f174;simp only[ak,true_and,and_true];refine⟨?_,?_⟩;refine bu mixed aB hG kr (λ_=>rfl) (out.length:Int) rfl fO (λhb0 k_0 X asO hq0 hw hc=>⟨L0,ag _,?_⟩) (λhb0 X hc=>?_);unfold j6 at hq0;try simp only[hw,aol]at hq0
 exact ql (jl [0,1,2]);exact qm (jl [0,1,2]);refine KA mixed aB hG kr (λ_=>rfl) λk_1 O hq1=>⟨(λid st=>bif Nat.beq id 4 then some (LCY (ρ:=Empty) (σ:=(List (tm×Bool)×List B1×List (tm×Int))) 4 [] [0,1,2,3] (λk_2 V=>⟨[(0,.os 0),(2,.ep (cellsOf .al d) 0),(4,.os 1),(5,.os 2),(8,.i O.2.2.2),(9,.ptr 3 0),(56,.i d.hours),(57,.i k_2)],[.ab (W.1 (V.2.1.length+1)),.mp .bo .int V.2.2 none,.mp .bo .bool V.1 none,.cells (cellsOf .reach (d.reaches.getD (Int.toNat O.2.2.2) (default:Reach)))]⟩) (aW d O) (im d E O) (Int.toNat d.hours) (O.2.2.1,O.1,O.2.1) (d.hours<9223372036854775808) ((·.elim)) ((·.elim)) ⟨[],[.ab (W.1 0),.dead,.dead,.dead]⟩ st)else none),?_,?_⟩;simp only[ak,true_and,and_true];refine uw mixed aB hG kr (λ_=>rfl) d.hours rfl id (λhb2 k_2 V hlt2 hq2 hw hc=>⟨L0,ag _,?_⟩) (λhb2 V hc=>?_);unfold im at hq2;try simp only[hw,aol]at hq2
 exact ql (jl [0,1,2,3]);exact qm (jl [0,1,2,3]);unfold j7 at hq1;exact O_ (jl [0,1,2]);unfold ae f174;exact O_ (jl [0])
@[go_sem] def Be:m0:=(pD .al λd=>(pR .order λa=>(pE (.det True (.fn 175 [] [.ep [.rs .order a] 0,.ep (cellsOf .al d) 0])))))
def Ag:X1 prog 112 Be:=by
 have hG:=mG Y1 Y1;refine fN hG f112 [.o] (ax λd=>(bG λE=>(am (λO=>?_))));refine⟨nbl rfl,L0,ag _,?_⟩;unfold ae f112;simp only[go_sem,sq,sr,Nat.reduceBEq,Nat.reduceLeDiff,Nat.reduceAdd,Nat.reduceSub,Nat.reduceMul]
@[go_sem] def a7 (d:List Order)(e:Nat)(b:List (tm×Int)×Int):Empty⊕(List (tm×Int)×Int):=letI a:=d.getD e default;letI c:=dF .bo .int b.1 ({ index:=a.index,hour:=a.hour}:tm) (a.bl);(bif(!a.S2)then(bif(a.index==0)then .inr (c,(i64.wrap (b.2+a.bl)))else .inr (c,b.2))else .inr (b.1,b.2))
@[go_sem] def io (d:ah)(a:List (tm×Int)×Int)(b c e:Nat)(f:Int):Empty⊕Int:=.inr (i64.wrap (f+(aC .bo .int a.1 ({ index:=(c:Int),hour:=(i64.wrap ((b:Int) - (e:Int)))}:tm))))
@[go_sem] def gc (d:ah)(h:List (tm×Int)×Int)(i f:Nat)(g:List B1):Empty⊕(List B1):=letI a:=d.reaches.getD f default;letI b:=(i:Int);letI c:=(f:Int);letI j:=aC .bo .int h.1 ({ index:=c,hour:=b}:tm);letI k:=g++[({ kind:=1,hour:=b,index:=c,bl:=j,limit:=a.cap}:B1)];(match aj (io d h i f) (Int.toNat (a.delay)) 0 0 with| .inl x=>x.elim| .inr e=>(bif(decide (j > a.cap))then(bif(decide (e > a.ar6))then .inr (k++[({ kind:=3,hour:=b,index:=c,bl:=e,limit:=a.ar6}:B1)])else .inr k)else(bif(decide (e > a.ar6))then .inr (g++[({ kind:=3,hour:=b,index:=c,bl:=e,limit:=a.ar6}:B1)])else .inr g)))
def jc (d:ah)(e:List (List SV))(i:List (tm×Int)×Int)(j f:Nat)(g:List B1):Prop:=letI a:=d.reaches.getD f default;letI b:=(j:Int);letI c:=(f:Int);letI k:=aC .bo .int i.1 ({ index:=c,hour:=b}:tm);letI l:=({ kind:=1,hour:=b,index:=c,bl:=k,limit:=a.cap}:B1);letI h:=decide (k > a.cap);((a.delay<9223372036854775808)/\(∀ s_3,aj (io d i j f) (Int.toNat (a.delay)) 0 0=.inr s_3->((h=true->((e[g.length]? =some (jC l))/\(((decide (s_3 > a.ar6))=true->(e[(g++[l]).length]? =some (jC ({ kind:=3,hour:=b,index:=c,bl:=s_3,limit:=a.ar6}:B1))))/\((decide (s_3 > a.ar6))=false->((decide (s_3 > a.ar6))=false)))))/\(h=false->((h=false)/\(((decide (s_3 > a.ar6))=true->(e[g.length]? =some (jC ({ kind:=3,hour:=b,index:=c,bl:=s_3,limit:=a.ar6}:B1))))/\((decide (s_3 > a.ar6))=false->((decide (s_3 > a.ar6))=false))))))))
@[go_sem] def e_ (d:ah)(a:List (tm×Int)×Int)(b:Nat)(c:List B1):Empty⊕(List B1):=(match aj (gc d a b) d.reaches.length 0 c with| .inl x=>x.elim| .inr e=>.inr e)
def je (d:ah)(c:List (List SV))(a:List (tm×Int)×Int)(b:Nat)(e:List B1):Prop:=(d.reaches.length<=aI->okI (gc d a b) (jc d c a b) d.reaches.length 0 e)
def d7 (b:List Order)(d:ah):List B1:=(match aj (a7 b) b.length 0 ([],0)with| .inl x=>x.elim| .inr a=>(match aj (e_ d a) (Int.toNat d.hours) 0 ([]:List B1)with| .inl x=>x.elim| .inr c=>(bif(decide (a.2 > d.arJ.start))then(c++[({ kind:=4,hour:=0,index:=0,bl:=a.2,limit:=d.arJ.start}:B1)])else c)))
def iO (b:List Order)(d:ah)(a:List (List SV)):Prop:=letI c:=Int.toNat d.hours;(b.length<=aI->(∀ l5,aj (a7 b) b.length 0 ([],0)=.inr l5->((d.hours<9223372036854775808)/\okI (e_ d l5) (je d a l5) c 0 ([]:List B1)/\(∀ s_1,aj (e_ d l5) c 0 ([]:List B1)=.inr s_1->(((decide (l5.2 > d.arJ.start))=true->((a[s_1.length]? =some (jC ({ kind:=4,hour:=0,index:=0,bl:=l5.2,limit:=d.arJ.start}:B1)))/\(a.length=(s_1++[({ kind:=4,hour:=0,index:=0,bl:=l5.2,limit:=d.arJ.start}:B1)]).length)))/\((decide (l5.2 > d.arJ.start))=false->(a.length=s_1.length)))))))
def yi (E:List Order)(d:ah)(O:List (List SV))(hp:iO E d O):AQ prog 175 (λy=>[y,.ep [.rs .order E] 0,.ep (cellsOf .al d) 0]) [] O:=by
 unfold iO at hp;refine Df mixed aB (fn:=f175) (c:=ae f175) kr kr kr kr rfl (n:=0) rfl (G:=λr_=>AS [] [] (ER O r_)) (λr_ hy=>?_) (λargs w=>by kernel_rfl);have hG:=mGY Y1 Y1 hy;refine⟨hG,nbl rfl,(λid st=>bif Nat.beq id 0 then some (LCR (ρ:=Empty) (σ:=(List (tm×Int)×Int)) 2 [] [0,1] (λk_0 Y=>⟨[(0,.os 0),(2,.ep (cellsOf .al d) 0),(4,.os 1),(5,.i Y.2),(15,.rs .order E),(16,.i (E.length:Int)),(17,.i k_0)],[.ab (r_.1 (([]:List B1).length+1)),.mp .bo .int Y.1 none]⟩) (a7 E) pT E.length ([],0) (E.length<=aI) ((·.elim)) ((·.elim)) st)else bif Nat.beq id 2 then some (LCY (ρ:=Empty) (σ:=(List B1)) 2 [] [0,1] (λW s_1=>⟨[(0,.os 0),(2,.ep (cellsOf .al d) 0),(4,.os 1),(5,.v (.int .i64 (bp (aj (a7 E) E.length 0 ([],0))).2)),(41,.i d.hours),(42,.i W)],[.ab (r_.1 (s_1.length+1)),.mp .bo .int (bp (aj (a7 E) E.length 0 ([],0))).1 none]⟩) (e_ d (bp (aj (a7 E) E.length 0 ([],0)))) (je d O (bp (aj (a7 E) E.length 0 ([],0)))) (Int.toNat d.hours) ([]:List B1) (d.hours<9223372036854775808) ((·.elim)) ((·.elim)) ⟨[],[.ab (r_.1 0),.dead]⟩ st)else none),?_,?_⟩;unfold ae f175;simp only[ak,true_and,and_true];refine⟨?_,?_⟩;refine bu mixed aB hG kr (λ_=>rfl) (E.length:Int) rfl fO (λhb0 k_0 Y asO _ hw hc=>⟨L0,ag _,?_⟩) (λhb0 Y hc=>?_);exact ql (jl [0,1]);exact qm (jl [0,1]);refine uw mixed aB hG kr (λ_=>rfl) d.hours rfl id (λhb1 W s_1 as6 hq1 hw hc=>⟨(λid st=>bif Nat.beq id 4 then some (LCY (ρ:=Empty) (σ:=(List B1)) 2 [] [0,1] (λV X=>⟨[(0,.os 0),(2,.ep (cellsOf .al d) 0),(4,.os 1),(5,.v (.int .i64 (bp (aj (a7 E) E.length 0 ([],0))).2)),(8,.i W),(41,.i d.hours),(42,.i W),(46,.rs .reach d.reaches),(47,.i (d.reaches.length:Int)),(48,.i V)],[.ab (r_.1 (X.length+1)),.mp .bo .int (bp (aj (a7 E) E.length 0 ([],0))).1 none]⟩) (gc d (bp (aj (a7 E) E.length 0 ([],0))) W) (jc d O (bp (aj (a7 E) E.length 0 ([],0))) W) d.reaches.length s_1 (d.reaches.length<=aI) ((·.elim)) ((·.elim)) ⟨[],[.ab (r_.1 0),.dead]⟩ st)else none),?_,?_⟩) (λhb1 s_1 hc=>?_);simp only[ak,true_and,and_true];refine uw mixed aB hG kr (λ_=>rfl) (d.reaches.length:Int) rfl fO (λhb2 V X hlt2 hq2 hw hc=>⟨(λid st=>bif Nat.beq id 6 then some (LCR (ρ:=Empty) (σ:=Int) 3 [] [0,1,2] (λk_3 s_3=>⟨[(0,.os 0),(2,.ep (cellsOf .al d) 0),(4,.os 1),(5,.v (.int .i64 (bp (aj (a7 E) E.length 0 ([],0))).2)),(8,.i W),(9,.i V),(10,.ptr 2 0),(11,.i s_3),(41,.i d.hours),(42,.i W),(46,.rs .reach d.reaches),(47,.i (d.reaches.length:Int)),(48,.i V),(54,.i ((d.reaches.getD V (default:Reach)).delay)),(55,.i k_3)],[.ab (r_.1 (X.length+1)),.mp .bo .int (bp (aj (a7 E) E.length 0 ([],0))).1 none,.cells (cellsOf .reach (d.reaches.getD V (default:Reach)))]⟩) (io d (bp (aj (a7 E) E.length 0 ([],0))) W V) pT (Int.toNat ((d.reaches.getD V (default:Reach)).delay)) 0 ((d.reaches.getD V (default:Reach)).delay<9223372036854775808) ((·.elim)) ((·.elim)) st)else none),?_,?_⟩) (λhb2 X hc=>?_);simp only[ak,true_and,and_true];refine bu mixed aB hG kr (λ_=>rfl) ((d.reaches.getD V (default:Reach)).delay) rfl id (λhb3 k_3 s_3 hlt3 _ hw hc=>⟨L0,ag _,?_⟩) (λhb3 s_3 hc=>?_);exact ql (jl [0,1,2]);exact qm (jl [0,1,2]);unfold jc at hq2;try simp only[hw,aol]at hq2
 exact ql (jl [0,1]);exact qm (jl [0,1]);unfold je at hq1;try simp only[hw,aol]at hq1
 exact ql (jl [0,1]);exact qm (jl [0,1]);unfold ae f175;exact O_ (jl [0])
@[go_sem] def eQ (c:List Order)(d:ah)(b:B1)(a:Int×Int×Int×Int×Int):Empty⊕(Int×Int×Int×Int×Int):=(bif(((a.1==0)&&((a.2.1==0)&&((a.2.2.1==0)&&((a.2.2.2.1==0)&&(a.2.2.2.2==0))))) ||(decide ((fK ([(bv b.hour a.2.1),(bv a.2.2.1 b.index)])) <0)))then .inr (b.kind,b.hour,b.index,b.bl,b.limit)else .inr (a.1,a.2.1,a.2.2.1,a.2.2.2.1,a.2.2.2.2))
def zg (a:List Order)(d:ah)(b:B1)(c:Int×Int×Int×Int×Int):Prop:=True
def ko (b:List Order)(d:ah):B1:=(match cG (eQ b d) (dg b d) (0,0,0,0,0)with| .inl x=>x.elim| .inr a=>({ kind:=a.1,hour:=a.2.1,index:=a.2.2.1,bl:=a.2.2.2.1,limit:=a.2.2.2.2}:B1))
def qI (a:List Order)(d:ah):Prop:=(jX a d ((dg a d).map jC))
@[go_sem] noncomputable def CA:m0:=(pFn 174 (pXR .order λout=>(pX .al λd=>(pE ((pE (.det (qI out d) (.agg (cellsOf .fault (ko out d))))))))))
variable {p:Prop}
def akT(h:p:=by simp only[go_sem,e0_0,e0_1]):p:=h
variable {l0:List Nat}
def akU(a0:JL l0)(h:JL l0->p:=by intro ja;simp only[go_sem,eQ,psT,jC,aoJ,aos];all_goals exact uz ja):p:=h a0
theorem Bf:X1 prog 110 CA:=by
 have hG:=mG (cp fA (cn [.sl .int] uV Y1)) Y1;refine fN hG f110 [.st .fault] (o5 (xb λout=>(ii λd=>(am ((am (λO=>?_)))))));dsimp only[an]at O;unfold qI at O;refine⟨nbl rfl,(λid st=>bif Nat.beq id 0 then some (LC (ρ:=Empty) (σ:=Int×Int×Int×Int×Int) (lk 2 st.t=.ptr 0 0/\lk 4 st.t=.fn 174 [] [.ep [.rs .order out] 0,.ep (cellsOf .al d) 0]/\st.h=[.cells [.i 0,.i 0,.i 0,.i 0,.i 0]]/\jX out d ((dg out d).map jC)) (cG (eQ out d) (dg out d) (0,0,0,0,0)) (λx=>x.elim) (λx=>x.elim) (λE=>⟨[(2,.ptr 0 0)],[.cells [.i E.1,.i E.2.1,.i E.2.2.1,.i E.2.2.2.1,.i E.2.2.2.2]]⟩))else none),?_,?_⟩
 ·unfold ae f110;simp only[ak,true_and,and_true]
  ·refine pw mixed aB hG (by decide) (by decide) kr kr λst Y V O=>?_;simp only[go_sem,Nat.reduceBEq,aoo]at V;subst V;obtain⟨t,h⟩:=st;dsimp only[LC]at O;obtain⟨e0_0,e0_1,rfl,hb0⟩:=O;refine⟨174,[.ep [.rs .order out] 0,.ep (cellsOf .al d) 0],B1,_,_,(dg out d),jC,(eQ out d),(zg out d),_,(0,0,0,0,0),_,_,_,[(2,.ptr 0 0)],(λE=>[.cells [.i E.1,.i E.2.1,.i E.2.2.1,.i E.2.2.2.1,.i E.2.2.2.2]]),(λx=>x.elim),[0],?_,rfl,FE _ _ λ_ _ _=>trivial,nbl rfl,?_,Af out d _ hb0,λW E X=>⟨rfl,L0,λl=>?_,λl=>?_,?_⟩,λE=>?_,λy=>?_⟩;exact akT
   ·simp only[go_sem,sp,kg,aoF,apf,aos,aoC,aoZ,e0_0,e0_1];all_goals (first|done|decide|(repeat' (first|refine And.intro ?_ ?_|rfl|decide)))
   simp only[ak,and_self,true_and,and_true];simp only[ak,and_self,true_and,and_true]
   skip
   exact akU (jl [0]);exact cJ (jl [0]);exact cJ (jl [0])
 unfold ae f110;try unfold ko
 exact zq2
@[go_sem] def lR (d:ah)(c:List Claim)(a:B1)(b:Unit):(Int×Int×Int×Int×Int)⊕Unit:=.inl (a.kind,a.hour,a.index,a.bl,a.limit)
def zh (d:ah)(c:List Claim)(a:B1)(b:Unit):Prop:=True
def bI (d:ah)(c:List Claim):List Order×B1×Int:=letI e:=aV d c;letI a:=aX d (e.1);(bif(e.2 !=0)then([],({ kind:=0,hour:=0,index:=0,bl:=0,limit:=0}:B1),e.2)else(bif(a.2.2 !=0)then([],({ kind:=0,hour:=0,index:=0,bl:=0,limit:=0}:B1),a.2.2)else(bif(!a.2.1)then([],(ko (e.1) d),0)else(match cG (lR d c) (d7 (a.1) d) ()with| .inl b=>([],({ kind:=b.1,hour:=b.2.1,index:=b.2.2.1,bl:=b.2.2.2.1,limit:=b.2.2.2.2}:B1),0) | .inr f=>(a.1,({ kind:=0,hour:=0,index:=0,bl:=0,limit:=0}:B1),0)))))
def kI (d:ah)(c:List Claim):Prop:=letI b:=aV d c;letI a:=aX d (b.1);((mJ d c)/\((b.2 !=0)=false->((qG d (b.1))/\((a.2.2 !=0)=false->(((!a.2.1)=true->(qI (b.1) d))/\((!a.2.1)=false->(iO (a.1) d ((d7 (a.1) d).map jC))))))))
@[go_sem] def CB:m0:=(pD .al λd=>(pR .W2 λc=>(pE (.det (kI d c) (.tup [.rs .order ((bI d c).1),.agg (cellsOf .fault ((bI d c).2.1)),.i ((bI d c).2.2)])))))
theorem akV(h:p:=by simp only[go_sem,e0_0,e0_1,e0_2,e0_3]):p:=h
def akW(a0:JL l0)(h:JL l0->p:=by intro ja;simp only[go_sem,lR,psT,jC,aoJ,aos];all_goals exact uz ja):p:=h a0
theorem uX:X1 prog 57 CB:=by
 have hG:=mG (cn [.st .al,.sl .W2] Bc (cn [.st .al,.sl .order] Fl (cp Bf (cn [.st .al,.sl .order] Cz (cn [.st .al,.sl .order] Ag Y1))))) Y1;refine fN hG f57 [.sl .order,.st .fault,.o] (ax λd=>(bG λc=>(am (λV=>?_))));dsimp only[an]at V;unfold kI at V;refine⟨nbl rfl,(λid st=>bif Nat.beq id 0 then some (LC (ρ:=Int×Int×Int×Int×Int) (σ:=Unit) (lk 4 st.t=.ptr 1 0/\lk 5 st.t=.ptr 2 0/\lk 6 st.t=.ptr 3 0/\lk 39 st.t=.fn 175 [] [.ep [.rs .order ((aX d ((aV d c).1)).1)] 0,.ep (cellsOf .al d) 0]/\st.h=[.cells (cellsOf .al d),.cells [.rs .order ((aX d ((aV d c).1)).1)],.cells [.i 0,.i 0,.i 0,.i 0,.i 0],.cells [.i ((aX d ((aV d c).1)).2.2)]]/\iO ((aX d ((aV d c).1)).1) d ((d7 ((aX d ((aV d c).1)).1) d).map jC)) (cG (lR d c) (d7 ((aX d ((aV d c).1)).1) d) ()) (λ_=>.ret) (λE=>⟨[(4,.ptr 1 0),(5,.ptr 2 0),(6,.ptr 3 0)],[.dead,.cells [.v (.slice none 0 0)],.cells [.i E.1,.i E.2.1,.i E.2.2.1,.i E.2.2.2.1,.i E.2.2.2.2],.cells [.i 0]]⟩) (λO=>⟨[(4,.ptr 1 0),(5,.ptr 2 0),(6,.ptr 3 0)],[.dead,.cells [.rs .order ((aX d ((aV d c).1)).1)],.cells [.i 0,.i 0,.i 0,.i 0,.i 0],.cells [.i ((aX d ((aV d c).1)).2.2)]]⟩))else none),?_,?_⟩
 ·unfold ae f57;simp only[ak,true_and,and_true]
  ·refine pw mixed aB hG (by decide) (by decide) kr kr λst lc W V=>?_;simp only[go_sem,Nat.reduceBEq,aoo]at W;subst W;obtain⟨t,h⟩:=st;dsimp only[LC]at V;obtain⟨e0_0,e0_1,e0_2,e0_3,rfl,hb0⟩:=V;refine⟨175,[.ep [.rs .order ((aX d ((aV d c).1)).1)] 0,.ep (cellsOf .al d) 0],B1,_,_,(d7 ((aX d ((aV d c).1)).1) d),jC,(lR d c),(zh d c),_,(),_,_,_,[(4,.ptr 1 0),(5,.ptr 2 0),(6,.ptr 3 0)],(λO=>[.dead,.cells [.rs .order ((aX d ((aV d c).1)).1)],.cells [.i 0,.i 0,.i 0,.i 0,.i 0],.cells [.i ((aX d ((aV d c).1)).2.2)]]),(λE=>[.dead,.cells [.v (.slice none 0 0)],.cells [.i E.1,.i E.2.1,.i E.2.2.1,.i E.2.2.2.1,.i E.2.2.2.2],.cells [.i 0]]),[0,1,2,3],?_,rfl,FE _ _ λ_ _ _=>trivial,nbl rfl,?_,yi ((aX d ((aV d c).1)).1) d _ hb0,λX O Y=>⟨rfl,L0,λl=>?_,λl=>?_,?_⟩,λO=>?_,λy=>?_⟩;exact akV
   ·simp only[go_sem,sp,kg,aoF,apf,aos,aoC,aoZ,e0_0,e0_1,e0_2,e0_3];all_goals (first|done|decide|(repeat' (first|refine And.intro ?_ ?_|rfl|decide)))
   simp only[ak,and_self,true_and,and_true];simp only[ak,and_self,true_and,and_true]
   skip
   exact akW (jl [0,1,2,3]);exact cJ (jl [0,1,2,3]);exact cJ (jl [0,1,2,3])
 unfold ae f57;try unfold bI
 exact zq2
def aT (d:ah)(c:List Claim):List Order×Bool×Int:=letI a:=bI d c;(a.1,((a.2.2==0)&&(((a.2.1).kind==0)&&(((a.2.1).hour==0)&&(((a.2.1).index==0)&&(((a.2.1).bl==0)&&((a.2.1).limit==0)))))),a.2.2)
def jN (d:ah)(c:List Claim):Prop:=(kI d c)
@[go_sem] def DV:m0:=(pD .al λd=>(pR .W2 λc=>(pE (.det (jN d c) (.tup [.rs .order ((aT d c).1),.v (.bool ((aT d c).2.1)),.i ((aT d c).2.2)])))))
theorem vH:X1 prog 18 DV:=by
 have hG:=mG (cn [.st .al,.sl .W2] uX Y1) Y1;refine fN hG f18 [.sl .order,.o,.o] (ax λd=>(bG λc=>(am (λE=>?_))));dsimp only[an]at E;unfold jN at E;refine⟨nbl rfl,L0,ag _,?_⟩;unfold ae f18;try unfold aT
 exact zq2
def cj (d:ah)(c:List Claim):B1×Bool×Int:=letI b:=bI d c;letI a:=b.2.1;(a,(!((a.kind==0)&&((a.hour==0)&&((a.index==0)&&((a.bl==0)&&(a.limit==0)))))),b.2.2)
def mK (d:ah)(c:List Claim):Prop:=(kI d c)
@[go_sem] def CC:m0:=(pD .al λd=>(pR .W2 λc=>(pE (.det (mK d c) (.tup [.agg (cellsOf .fault ((cj d c).1)),.v (.bool ((cj d c).2.1)),.i ((cj d c).2.2)])))))
theorem uY:X1 prog 34 CC:=by
 have hG:=mG (cn [.st .al,.sl .W2] uX Y1) Y1;refine fN hG f34 [.st .fault,.o,.o] (ax λd=>(bG λc=>(am (λE=>?_))));dsimp only[an]at E;unfold mK at E;refine⟨nbl rfl,L0,ag _,?_⟩;unfold ae f34;try unfold cj
 exact zq2
abbrev UM:=List (tm×Bool)
abbrev WM:=List (tm×Int)
def sl (a b:Int):tm:= { index:=a,hour:=b}
def ltF (k:Nat)(r n:Int):B1:= { kind:=7,hour:=(k:Int),index:=r,bl:=n,limit:=0}
section
variable {d:ah}{s1:List B1×WM×UM×Int}{k:Nat}{u:UM}{F:List B1}{w:WM}
theorem VD (O:aC .bo .bool u (sl s1.2.2.2 k)=true):∃ E,aW d s1 k (u,F,w)=.inr (E,F,w):=by
 simp_all [aW,sl]
theorem La (E:aC .bo .bool u (sl s1.2.2.2 k)=false)(hn:aC .bo .int w (sl s1.2.2.2 k)=0):aW d s1 k (u,F,w)=.inr (u,F,w):=by
 simp_all [aW,sl]
theorem Qh (O:aC .bo .bool u (sl s1.2.2.2 k)=false)(hn:aC .bo .int w (sl s1.2.2.2 k)≠0)
  (E:(bf (rch d s1.2.2.2) (aC .bo .int w (sl s1.2.2.2 k))).2=false\/(k:Int) < (rch d s1.2.2.2).delay):
  ∃ W,aW d s1 k (u,F,w)=.inr (W,F++[ltF k s1.2.2.2 (aC .bo .int w (sl s1.2.2.2 k))],w):=by
 unfold aW ltF;unfold sl at O hn E |-;simp only[O,cond_false];generalize Y:aC .bo .int w ({ index:=s1.2.2.2,hour:=(k:Int)}:tm)=n at hn E |-;have X:(n==0)=false:=g6
 rw[X,cond_false];unfold bf at E;by_cases V:n<=1073741824
 rw[decide_eq_true V,cond_true];have h1:((n==0) ||decide (n > 1073741824))=false:=g6
 rw[h1,cond_false]at E;have h2:((!(gC (d.reaches.getD (Int.toNat s1.2.2.2) (default:Reach)) n).2.1) ||(decide ((k:Int) < (d.reaches.getD (Int.toNat s1.2.2.2) (default:Reach)).delay)))=true:=by
  grind
 rw[h2,cond_true];grind
 simp_all [decide_eq_false]
theorem Lb (O:aC .bo .bool u (sl s1.2.2.2 k)=false)(hn:aC .bo .int w (sl s1.2.2.2 k)≠0)
  (E:(bf (rch d s1.2.2.2) (aC .bo .int w (sl s1.2.2.2 k))).2=true) (W:¬ (k:Int) < (rch d s1.2.2.2).delay):
  aW d s1 k (u,F,w)=.inr (u,F,dF .bo .int w (sl (rch d s1.2.2.2).up (i64.wrap ((k:Int) - (rch d s1.2.2.2).delay))) (i64.wrap (aC .bo .int w (sl (rch d s1.2.2.2).up (i64.wrap ((k:Int) - (rch d s1.2.2.2).delay)))+(bf (rch d s1.2.2.2) (aC .bo .int w (sl s1.2.2.2 k))).1))):=by
 unfold aW;unfold sl at O hn E |-;simp only[O,cond_false];generalize X:aC .bo .int w ({ index:=s1.2.2.2,hour:=(k:Int)}:tm)=n at hn E |-;have V:(n==0)=false:=g6
 rw[V,cond_false];unfold bf at E |-;grind
theorem Zi:∃ O T w',aW d s1 k (u,F,w)=.inr (O,F++T,w')/\∀ f∈T,f.kind=7:=by
 cases E:aC .bo .bool u (sl s1.2.2.2 k)with
 |true=>obtain⟨O,e⟩:=VD (F:=F) (w:=w) E;exact⟨O,[],w,by rw[e,aoC],by simp⟩
 |false=>
  by_cases hn:aC .bo .int w (sl s1.2.2.2 k)=0
  exact⟨u,[],w,by rw[La E hn,aoC],by simp⟩;by_cases V:(bf (rch d s1.2.2.2) (aC .bo .int w (sl s1.2.2.2 k))).2=false\/(k:Int) < (rch d s1.2.2.2).delay
  obtain⟨O,e⟩:=Qh (F:=F) E hn V;grind [ltF]
  have h1:(bf (rch d s1.2.2.2) (aC .bo .int w (sl s1.2.2.2 k))).2=true:=by
   grind
  exact⟨u,[],_,by rw[Lb E hn h1 (λq=>V (.inr q)),aoC],by simp⟩
end
section
variable {d:ah}{s1:List B1×WM×UM×Int}{items:List (List SV)}
theorem CD:∀ (n k:Nat) (u:UM) (F:List B1) (w:WM),∃ E T w',aj (aW d s1) n k (u,F,w)=.inr (E,F++T,w')/\∀ f∈T,f.kind=7
 |0,k,u,F,w=>⟨u,[],w,by rw[aoC];rfl,by simp⟩
 |n+1,k,u,F,w=>by
  obtain⟨O,T1,w1,X,h1⟩:=Zi (d:=d) (s1:=s1) (k:=k) (u:=u) (F:=F) (w:=w);obtain⟨Y,V,W,e2,h2⟩:=CD n (k+1) O (F++T1) w1;grind [aj]
variable {F:List B1}
theorem FN{f:B1}(h:(F++[f]).map jC<+:items):items[F.length]? =some (jC f):=by
 obtain⟨t,rfl⟩:=h;simp
theorem ab2{k:Nat}{u:UM}{w:WM}(h:∀ f,(∃ W w',aW d s1 k (u,F,w)=.inr (W,F++[f],w'))->items[F.length]? =some (jC f)):im d items s1 k (u,F,w):=by
 intro V hn;simp only at V hn;refine⟨λO=>⟨M6 _ _,λE=>h _ ?_⟩,λO E=>h _ ?_⟩;unfold aW;simp only at O E;simp only[V,hn,O,E,cond_false,cond_true];grind
 unfold aW;simp only at O E;simp only[V,hn,O,E,cond_false,cond_true];simp_all
theorem Zj:∀ (n k:Nat) (u:UM) (F:List B1) (w:WM),(∀ O V E,aj (aW d s1) n k (u,F,w)=.inr (O,V,E)->V.map jC<+:items)->okI (aW d s1) (im d items s1) n k (u,F,w)
 |0,_,_,_,_,_=>trivial
 |n+1,k,u,F,w,h=>by
  refine⟨ab2 λf ⟨W,w',e⟩ =>?_,λs' e=>?_⟩;obtain⟨O,X,E,Y,_⟩:=CD (d:=d) (s1:=s1) n (k+1) W (F++[f]) w';have:=h O (F++[f]++X) E (by grind [aj]);refine FN (aqi ?_ this);grind
  obtain⟨W,F',w'⟩:=s';exact Zj n (k+1) W F' w' λO V E Y=>h O V E (by grind [aj])
end
section
variable {d:ah}{items:List (List SV)}
variable {F:List B1}{w:WM}
theorem Zk{j:Nat}{u:UM}{i:Int}(h:i<0):cS d j (F,w,u,i)=.inl F:=by
 simp_all [cS,decide_eq_false]
theorem T3{j:Nat}{F':List B1}{w':WM}{u E:UM}{i:Int}(O:0<=i)(h1:i<=1000000)(e:aj (aW d (F,w,u,i)) (Int.toNat d.hours) 0 (u,F,w)=.inr (E,F',w')):
  cS d j (F,w,u,i)=.inr (F',w',E,i - 1):=by
 unfold cS;simp only;rw[decide_eq_true g5,cond_true,e];grind [aw]
theorem FO:∀ (m n j:Nat) (F:List B1) (w:WM) (u:UM),m<n->m<=1000000->∃ T,aj (cS d) n j (F,w,u,(m:Int) - 1)=.inl (F++T)/\∀ f∈T,f.kind=7
 |0,n+1,j,F,w,u,_,_=>⟨[],by grind [aj,Zk],by simp⟩
 |m+1,n+1,j,F,w,u,h,hm=>by
  obtain⟨O,T1,w1,W,h1⟩:=CD (d:=d) (s1:=(F,w,u,((m+1:Nat):Int) - 1)) (Int.toNat d.hours) 0 u F w;obtain⟨E,X,h2⟩:=FO m n (j+1) (F++T1) w1 O g5 g5;refine⟨T1++E,?_,λf V=>(aoQ.1 V).elim (h1 f) (h2 f)⟩;simp only[aj];grind [T3]
theorem T4 (Y:d.hours<=4096):∀ (m n j:Nat) (F:List B1) (w:WM) (u:UM),m<n->m<=1000000->m<=d.reaches.length->(∀ x,aj (cS d) n j (F,w,u,(m:Int) - 1)=.inl x->x.map jC<+:items)->
  okI (cS d) (j7 d items) n j (F,w,u,(m:Int) - 1)
 |0,n+1,j,F,w,u,_,_,_,h=>by
  refine⟨λq=>?_,λs' e=>?_⟩;grind
  grind [Zk]
 |m+1,n+1,j,F,w,u,hmn,hm,hR,h=>by
  obtain⟨W,T1,w1,V,h1⟩:=CD (d:=d) (s1:=(F,w,u,((m+1:Nat):Int) - 1)) (Int.toNat d.hours) 0 u F w;have O:=T3 (j:=j) (d:=d) g5 g5 V;rw[show((m+1:Nat):Int) - 1 - 1=(m:Int) - 1 by omega]at O;refine⟨λq=>⟨g6,g5,Zj _ _ _ _ _ λu2 F2 w2 E=>?_⟩,λs' e=>?_⟩;simp only at E;rw[V]at E;simp only[aoK,Prod.mk.injEq]at E;obtain⟨rfl,rfl,rfl⟩:=E;obtain⟨T2,X,_⟩:=FO (d:=d) m n (j+1) (F++T1) w1 W g5 g5;have:=h _ (by simp only[aj];rw[O];exact X);refine aqi ?_ this;grind
  rw[O]at e;simp only[aoK]at e;subst e;exact T4 Y m n (j+1) (F++T1) w1 W g5 g5 g5 λx hx=>h x (by grind [aj])
end
def Eqv (w:WM)(m:Mp):Prop:= ∀ a b,aC .bo .int w (sl a b)=aC .arQ .int m (a,b)
theorem Zl {a b x y:Int}:(sl x y=sl a b)=((x,y)=(a,b)):=by
 grind [sl]
theorem Eqv.put {w:WM}{m:Mp}(h:Eqv w m)(a b v:Int):Eqv (dF .bo .int w (sl a b) v) (dF .arQ .int m (a,b) v):=λx y=>by
 rw[lE,lE,h];simp_all [Zl]
theorem ED {ρ σ τ:Type}(step:τ->σ->ρ⊕σ):∀ (A B:List τ) (s:σ),cG step (A++B) s=match cG step A s with| .inl y=>.inl y| .inr s'=>cG step B s'
 | [],B,s=>rfl
 |x::A,B,s=>by
  simp only[aoJ,cG];cases h:step x s with
  |inl y=>rfl|inr s'=>exact ED step A B s'
section
variable {d:ah}{out:List Order}
theorem ads:∀ (n k:Nat) (w:WM) (m O:Mp),Eqv w m->aj (b_ d out) n k m=.inr O->∃ w',aj (g9 out d) n k w=.inr w'/\Eqv w' O
 |0,k,w,m,O,h,e=>by
  grind [aj]
 |n+1,k,w,m,O,h,e=>by
  simp only[aj]at e |-;cases E:b_ d out k m with
  |inl x=>grind
  |inr m1=>
   rw[E]at e;simp only at e;refine ads n (k+1) _ m1 O ?_ e;unfold b_ at E;cases V:(out.getD k (default:Order)).S2 with
   |false=>grind
   |true=>
    rw[V]at E;simp only[aoH,cond_false,aoK]at E;subst E;have h1:=h (d.zs.getD (Int.toNat ((out.getD k (default:Order)).index)) (default:asR)).reach (out.getD k (default:Order)).hour;have:=h.put (d.zs.getD (Int.toNat ((out.getD k (default:Order)).index)) (default:asR)).reach (out.getD k (default:Order)).hour (i64.wrap ((aC .arQ .int m ((d.zs.getD (Int.toNat ((out.getD k (default:Order)).index)) (default:asR)).reach,(out.getD k (default:Order)).hour))+(out.getD k (default:Order)).bl));rw[<-h1]at this |-;exact this
def Nm (s:tm):aC .bo .bool [] s=false:=rfl
theorem It {s1:List B1×WM×UM×Int}{r:Nat}(V:s1.2.2.2=(r:Int)){H:Nat}:∀ (n k:Nat) (l:List Order) (m:Mp) (w:WM),k+n=H->Eqv w m->
  (∃ l' m' w',cG (aR d) (ES r H k) (l,m)=.inr (l',m')/\aj (aW d s1) n k ([],[],w)=.inr ([],[],w')/\Eqv w' m')\/
  ((∃ y,cG (aR d) (ES r H k) (l,m)=.inl y)/\∃ W F' w',aj (aW d s1) n k ([],[],w)=.inr (W,F',w')/\F'≠[])
 |0,k,l,m,w,hk,h=>by
  have:k=H:=g5
  subst this;rw[BX];exact .inl ⟨l,m,w,rfl,rfl,h⟩
 |n+1,k,l,m,w,hk,h=>by
  rw[tX (by omega:k<H)];have hg:=h (r:Int) (k:Int);rw[<-V]at hg;simp only[cG,aj];by_cases E:aC .bo .int w (sl s1.2.2.2 k)=0
  have O:aR d ((r:Int),(k:Int)) (l,m)=.inr (l,m):=by
   simp_all [aR]
  rw[O,La (Nm _) E];exact It V n (k+1) l m w g5 h;by_cases Y:(bf (rch d s1.2.2.2) (aC .bo .int w (sl s1.2.2.2 k))).2=false\/(k:Int) < (rch d s1.2.2.2).delay
  refine .inr ⟨?_,?_⟩;have O:aR d ((r:Int),(k:Int)) (l,m)=.inl m:=by
   unfold aR;grind
  grind
  obtain⟨W,e⟩:=Qh (F:=[]) (Nm _) E Y;rw[e];obtain⟨u2,T2,w2,e2,_⟩:=CD (d:=d) (s1:=s1) n (k+1) W ([]++[ltF k s1.2.2.2 (aC .bo .int w (sl s1.2.2.2 k))]) w;grind
  have X:(bf (rch d s1.2.2.2) (aC .bo .int w (sl s1.2.2.2 k))).2=true:=by
   grind
  have hk2:¬ (k:Int) < (rch d s1.2.2.2).delay:=λq=>Y (.inr q);rw[Lb (Nm _) E X hk2];rw[hg]at E X |-;rw[V]at E X hk2 |-;have O:aR d ((r:Int),(k:Int)) (l,m)=.inr (l++[({ hour:=(i64.wrap ((k:Int) - (rch d (r:Int)).delay)),index:=(r:Int),bl:=(bf (rch d (r:Int)) (aC .arQ .int m ((r:Int),(k:Int)))).1,S2:=false}:Order)],dF .arQ .int m ((rch d (r:Int)).up,i64.wrap ((k:Int) - (rch d (r:Int)).delay)) (i64.wrap ((aC .arQ .int m ((rch d (r:Int)).up,i64.wrap ((k:Int) - (rch d (r:Int)).delay)))+(bf (rch d (r:Int)) (aC .arQ .int m ((r:Int),(k:Int)))).1))):=by
   unfold aR;grind
  rw[O,h];exact It V n (k+1) _ _ _ g5 (h.put _ _ _)
theorem Qi:∀ (m n j:Nat) (l:List Order) (md:Mp) (w:WM),m<n->m<=1000000->Eqv w md->(∃ y,cG (aR d) (zU d.hours.toNat m) (l,md)=.inl y)->
  ∃ T,aj (cS d) n j ([],w,[],(m:Int) - 1)=.inl T/\T≠[]
 |0,n,j,l,md,w,_,_,_,⟨y,e⟩ =>by simp[zU,cG]at e
 |m+1,n+1,j,l,md,w,hmn,hm,h,⟨y,e⟩ =>by
  rw[yM]at e;have X:(([],w,[],((m+1:Nat):Int) - 1):List B1×WM×UM×Int).2.2.2=(m:Int):=g6
  rcases It (d:=d) X (H:=d.hours.toNat) d.hours.toNat 0 l md w g5 h with⟨l',O,w',W,e2,h'⟩ | ⟨_,V,F',w',e2,Y⟩;rw[ED,W]at e;obtain⟨T,E,hT⟩:=Qi m n (j+1) l' O w' g5 g5 h' ⟨y,e⟩;refine⟨T,?_,hT⟩;simp only[aj];grind [T3]
  obtain⟨T,E,_⟩:=FO (d:=d) m n (j+1) F' w' V g5 g5;refine⟨F'++T,?_,by simp[Y]⟩;simp only[aj];grind [T3]
theorem Bg (hr:arW d)(O:arS d out)(E:∀ x∈out,x.S2=true):∃ w0,aj (g9 out d) out.length 0 []=.inr w0/\(∃ m,aj (b_ d out) out.length 0 []=.inr m/\Eqv w0 m)/\
  aj (cS d) (d.reaches.length+1) 0 ([],w0,[],i64.wrap ((d.reaches.length:Int) - 1))=.inl (dg out d)/\∀ f∈dg out d,f.kind=7:=by
 obtain⟨m,V⟩:=(DR hr O).2.2 E;obtain⟨w0,W,h0⟩:=ads out.length 0 [] [] m (λ_ _=>rfl) V;have X:=hr.reaches;obtain⟨T,Y,h1⟩:=FO (d:=d) d.reaches.length (d.reaches.length+1) 0 [] w0 [] g5 g5;have hw:i64.wrap ((d.reaches.length:Int) - 1)=(d.reaches.length:Int) - 1:=aw g5 g5;grind [dg]
theorem aga (hr:arW d)(W:arS d out)(E:∀ x∈out,x.S2=true):jX out d ((dg out d).map jC):=by
 obtain⟨w0,e0,_,Y,_⟩:=Bg hr W E;intro _;have hR:=hr.reaches;have hh:=hr.hours;refine⟨?_,λX O _=>?_⟩;have V:∀ j s,0<=j->j<0+out.length->j6 out d j s:=λj s _ hj=>by
  have h1:=W.one j g5;have h2:(out.getD j (default:Order)).S2=true:=E _ (DQ _ _ g5);exact⟨h1.asP,h1.dd h2⟩
 exact ij (λ_ _=>True) _ _ _ trivial λj s h1 h2 _=>⟨V j s h1 h2,λ_ _=>trivial⟩;rw[e0]at O;simp only[aoK]at O;subst O;have hw:i64.wrap ((d.reaches.length:Int) - 1)=(d.reaches.length:Int) - 1:=aw g5 g5;refine⟨?_,λz hz=>?_,λx hx=>?_⟩;rw[hw]at Y |-;exact T4 hh _ _ _ _ _ _ g5 g5 (aom _) λx hx=>by
  grind
 grind
 grind
theorem ab3 (hr:arW d)(W:arS d out)(E:∀ x∈out,x.S2=true)(X:(aX d out).2.1=false)(O:(aX d out).2.2=0):dg out d≠[]:=by
 obtain⟨w0,e0,⟨m,hm,V⟩,e1,_⟩:=Bg hr W E;have hR:=hr.reaches;have hw:i64.wrap ((d.reaches.length:Int) - 1)=(d.reaches.length:Int) - 1:=aw g5 g5;have hy:∃ y,cG (aR d) (dx d) (out,m)=.inl y:=by
  cases q:cG (aR d) (dx d) (out,m)with
  |inl y=>grind
  |inr s=>
   exfalso;unfold aX at X O;grind
 obtain⟨T,Y,hT⟩:=Qi (d:=d) d.reaches.length (d.reaches.length+1) 0 out m w0 g5 g5 V hy;grind
end
abbrev F5:=Int×Int×Int×Int×Int
def VE (f:B1):F5:=(f.kind,f.hour,f.index,f.bl,f.limit)
theorem Nn (out:List Order)(d:ah):∀ (L:List B1) (s:F5),∃ s',cG (eQ out d) L s=.inr s'/\(s'=s\/∃ f∈L,s'=VE f)
 | [],s=>⟨s,rfl,.inl rfl⟩
 |f::L,s=>by
  have h1:eQ out d f s=.inr (VE f)\/eQ out d f s=.inr s:=by
   grind [eQ,VE]
  simp only[cG];rcases h1 with h1|h1;rw[h1];obtain⟨s',e,h⟩:=Nn out d L (VE f);grind
  rw[h1];obtain⟨s',e,h⟩:=Nn out d L s;grind
theorem VF {out:List Order}{d:ah}(h:dg out d≠[]):ko out d∈dg out d:=by
 unfold ko;cases O:dg out d with
 |nil=>grind
 |cons f L=>
  have h1:eQ out d f (0,0,0,0,0)=.inr (VE f):=by
   rfl
  obtain⟨s',e,h⟩:=Nn out d L (VE f);simp only[cG,h1,e];rcases h with rfl| ⟨g,E,rfl⟩;exact aow;exact aor _ E
theorem DW {f:Nat->List B1}{step:Nat->List B1->Empty⊕List B1}:∀ (n i:Nat) (s:List B1),(∀ j s,i<=j->j<i+n->step j s=.inr (s++f j))->aj step n i s=.inr (s++(List.range' i n).flatMap f)
 |0,i,s,_=>by simp[aj]
 |n+1,i,s,h=>by
  simp only[aj,h i s (aom _) g5];rw[DW n (i+1) (s++f i) λj s h1 h2=>h j s g5 g5];simp[apA]
theorem Iu {f:Nat->List B1}{step:Nat->List B1->Empty⊕List B1}{p:Nat->List B1->Prop}{items:List (List SV)}:∀ (n i:Nat) (s:List B1),(∀ j s,i<=j->j<i+n->step j s=.inr (s++f j))->
  (∀ j s,i<=j->j<i+n->(s++f j).map jC<+:items->p j s)->(s++(List.range' i n).flatMap f).map jC<+:items->okI step p n i s
 |0,_,_,_,_,_=>trivial
 |n+1,i,s,h,hp,hi=>by
  rw[apA,aoF,<-ao_]at hi;refine⟨hp i s (aom _) g5 (aqi g6 hi),λs' e=>?_⟩;rw[h i s (aom _) g5]at e;simp only[aoK]at e;subst e;exact Iu n (i+1) (s++f i) (λj s h1 h2=>h j s g5 g5) (λj s h1 h2=>hp j s g5 g5) hi
def g0P (x:Order):Bool:= !x.S2&&x.index==0
section
variable {d:ah}{l:List Order}
theorem Sw (O:arS d l):∃ s0,aj (a7 l) l.length 0 ([],0)=.inr s0/\(∀ r h,aC .bo .int s0.1 (sl r h)=b7 (bO r h h) l)/\s0.2=b7 g0P l:=by
 obtain⟨s,e,h1,h2⟩:=Nd (step:=a7 l) (λj s=>(∀ r h,aC .bo .int s.1 (sl r h)=b7 (bO r h h) (l.take j))/\s.2=b7 g0P (l.take j)) l.length 0 ([],0) ⟨λ_ _=>rfl,rfl⟩ (λj s _ E ⟨h1,h2⟩ =>by
  have E:j<l.length:=g5
  have hb:=Nj O g0P j;have Y:=O.lit _ (apg E);unfold a7;rw[ik _ _ E];cases V:l[j].S2 with
  |true=>
   grind [rG,bO,g0P]
  |false=>
   have W:∀ r h,aC .bo .int (dF .bo .int s.1 (sl l[j].index l[j].hour) l[j].bl) (sl r h)=b7 (bO r h h) (l.take (j+1)):=λr h=>by
    rw[lE,rG E,h1];by_cases q:r=l[j].index/\h=l[j].hour
    obtain⟨rfl,rfl⟩:=q;have X:bO l[j].index l[j].hour l[j].hour l[j]=true:=by grind [bO]
    rw[if_pos rfl,X,DS O E (λx hx=>?_)];simp;unfold bO at hx;grind
    have X:bO r h h l[j]=false:=by
     cases hc:bO r h h l[j]with
     |false=>rfl
     |true=>
      unfold bO at hc;grind
    simp_all [Zl]
   by_cases h0:l[j].index=0
   have hb0:(l[j].index==0)=true:=by rw[h0];rfl
   simp only[aoS,cond_true,hb0];refine⟨_,rfl,W,?_⟩;have:g0P l[j]=true:=by grind [g0P]
   rw[rG E,this,h2,aw g5 g5,cond_true];have hb0:(l[j].index==0)=false:=g6
   simp only[aoS,cond_true,hb0,cond_false];refine⟨_,rfl,W,?_⟩;grind [g0P,rG])
 grind
theorem Zm (E:arS d l){s0:WM×Int}(V:∀ r h,aC .bo .int s0.1 (sl r h)=b7 (bO r h h) l)(h i:Nat)(hh:h<=1000000)(n:Nat)(hn:n<=1000000):
  aj (io d s0 h i) n 0 0=.inr (b7 (bO i ((h:Int) - n+1) h) l):=by
 obtain⟨s,e,h1⟩:=Nd (step:=io d s0 h i) (λj s=>s=b7 (bO i ((h:Int) - j+1) h) l) n 0 0 (pH (λx _=>by
   cases hc:bO i ((h:Int) - (0:Nat)+1) h x with
   |false=>rfl
   |true=>
    unfold bO at hc;grind)).symm (λj s _ hj W=>by
  refine⟨_,rfl,?_⟩;have O:=V (i:Int) ((h:Int) - (j:Int));unfold sl at O;have X:=Qg E (i:Int) (a:=(h:Int) - j) (m:=(h:Int) - j+1) (b:=(h:Int)) g5 g5;have Y:=DT E (bO i ((h:Int) - j) ((h:Int) - j));have e4:=DT E (bO i ((h:Int) - j+1) h);rw[show(h:Int) - j+1 - 1=(h:Int) - j by omega]at X;rw[aw (n:=(h:Int) - (j:Int)) g5 g5,O,W,aw g5 g5,show(h:Int) - ((j+1:Nat):Int)+1=(h:Int) - j by omega];omega)
 grind
def bkV (d:ah)(l:List Order)(h i:Nat):List B1:=
 (if b7 (bO i h h) l > (rch d i).cap then [{ kind:=1,hour:=(h:Int),index:=(i:Int),bl:=b7 (bO i h h) l,limit:=(rch d i).cap}]else [])++
 (if b7 (bO i ((h:Int) - (rch d i).delay+1) h) l > (rch d i).ar6 then [{ kind:=3,hour:=(h:Int),index:=(i:Int),bl:=b7 (bO i ((h:Int) - (rch d i).delay+1) h) l,limit:=(rch d i).ar6}]else [])
variable {h:Nat}{items:List (List SV)}
theorem T5(ho:arS d l){s0:WM×Int}(Y:∀ r h,aC .bo .int s0.1 (sl r h)=b7 (bO r h h) l){i:Nat}(hh:h<=1000000)(hi:i<d.reaches.length)(s:List B1):
  gc d s0 h i s=.inr (s++bkV d l h i)/\((s++bkV d l h i).map jC<+:items->jc d items s0 h i s):=by
 have hx:=ho.right.asY hi;have hd1:=hx.atf;have hd2:=hx.delay;have e1:=Zm ho Y h i hh (Int.toNat (d.reaches.getD i (default:Reach)).delay) g5;have e2:=Y (i:Int) (h:Int);unfold sl at e2;have e3:((Int.toNat (d.reaches.getD i (default:Reach)).delay:Nat):Int)=(rch d (i:Int)).delay:=by
  grind
 rw[e3]at e1;have e4:d.reaches.getD i (default:Reach)=rch d (i:Int):=by rfl
 have V:(d.reaches.getD i (default:Reach)).delay<9223372036854775808:=g5
 refine⟨?_,λE=>⟨V,λs3 X=>?_⟩⟩;grind [gc,bkV]
 rw[e1]at X;simp only[aoK]at X;subst X;simp only[e2];rw[e4];unfold bkV at E;generalize b7 (bO i ((h:Int) - (rch d (i:Int)).delay+1) h) l=B at E |-;generalize b7 (bO i h h) l=A at E |-;generalize rch d (i:Int)=x at E |-;refine⟨λO=>⟨?_,λW=>?_,λq=>q⟩,λO=>⟨O,λW=>?_,λq=>q⟩⟩;rw[if_pos (of_decide_eq_true O),<-ao_]at E;refine FN (aqi ?_ E);grind
 rw[if_pos (of_decide_eq_true O),if_pos (of_decide_eq_true W),<-ao_]at E;exact FN E;rw[if_neg (of_decide_eq_false O),if_pos (of_decide_eq_true W),aos]at E;exact FN E
def bkH (d:ah)(l:List Order)(h:Nat):List B1:=(List.range' 0 d.reaches.length).flatMap (bkV d l h)
theorem T6(E:arS d l){s0:WM×Int}(O:∀ r h,aC .bo .int s0.1 (sl r h)=b7 (bO r h h) l)(V:h<=1000000)(s:List B1):
  e_ d s0 h s=.inr (s++bkH d l h)/\((s++bkH d l h).map jC<+:items->je d items s0 h s):=by
 have key:∀ j s,0<=j->j<0+d.reaches.length->gc d s0 h j s=.inr (s++bkV d l h j):=λj s _ Y=>(T5 E O V g5 s (items:=items)).1;refine⟨?_,λX _=>?_⟩;unfold e_;rw[DW d.reaches.length 0 s key];rfl;exact Iu d.reaches.length 0 s key (λj s _ Y W=>(T5 E O V g5 s).2 W) X
def zi (d:ah)(l:List Order):List B1:=(List.range' 0 d.hours.toNat).flatMap (bkH d l)++(if b7 g0P l > d.arJ.start then [{ kind:=4,hour:=0,index:=0,bl:=b7 g0P l,limit:=d.arJ.start}]else [])
theorem Lc (E:arS d l):d7 l d=zi d l/\iO l d ((d7 l d).map jC):=by
 obtain⟨s0,Y,V,h0⟩:=Sw E;have hh:=E.right.hours;have key:∀ j s,0<=j->j<0+d.hours.toNat->e_ d s0 j s=.inr (s++bkH d l j):=λj s _ hj=>(T6 E V g5 s (items:=[])).1;have e1:=DW d.hours.toNat 0 [] key;have W:d7 l d=zi d l:=by
  unfold d7 zi;grind
 refine⟨W,?_⟩;rw[W];intro _ s O;rw[Y]at O;simp only[aoK]at O;subst O;refine⟨g5,?_,λs1 hs1=>?_⟩;refine Iu d.hours.toNat 0 [] key (λj s _ hj X=>(T6 E V g5 s).2 X) ?_;grind [zi]
 simp_all [zi]
structure Lim (d:ah)(l:List Order):Prop where
 cap:∀ h i:Nat,h<d.hours.toNat->i<d.reaches.length->b7 (bO i h h) l<=(rch d i).cap
 ar6:∀ h i:Nat,h<d.hours.toNat->i<d.reaches.length->b7 (bO i ((h:Int) - (rch d i).delay+1) h) l<=(rch d i).ar6
 arJ:b7 g0P l<=d.arJ.start
theorem agb{i:Nat}:bkV d l h i=[]↔b7 (bO i h h) l<=(rch d i).cap/\b7 (bO i ((h:Int) - (rch d i).delay+1) h) l<=(rch d i).ar6:=by
 unfold bkV;simp_all
theorem Ld:zi d l=[]↔Lim d l:=by
 unfold zi bkH;simp only[aqy,ap2,List.mem_range',agb];constructor
 rintro⟨h1,h2⟩;refine⟨λh i E hi=>(h1 h ⟨h,E,g5⟩ i ⟨i,hi,g5⟩).1,λh i E hi=>(h1 h ⟨h,E,g5⟩ i ⟨i,hi,g5⟩).2,?_⟩;grind
 intro h;refine⟨?_,if_neg (by have:=h.arJ;omega)⟩;rintro a ⟨h',E,rfl⟩ b ⟨i,hi,rfl⟩;exact⟨h.cap _ _ g5 g5,h.ar6 _ _ g5 g5⟩
theorem Sy:∀ f∈zi d l,f.kind≠0/\f.limit<f.bl:=by
 intro f E;unfold zi bkH bkV at E;grind
end
section
variable {d:ah}{c:List Claim}
theorem AC (s:List Order):bN s=true↔∃ x∈s,x.bl > 1073741824:=by
 unfold bN eC;have E:∀ j,cd s j ()=bif decide ((s.getD j default).bl > 1073741824)then .inl (j:Int)else .inr ():=λj=>rfl;have key:∀ n i,(∀ j,i<=j->j<i+n->¬ (s.getD j default).bl > 1073741824)->aj (cd s) n i ()=.inr ():=by
  intro n;induction n with
  |zero=>intro i _;rfl
  |succ n V=>
   intro i h;simp only[aj,E];grind
 have O:∀ n i x,aj (cd s) n i ()=.inl x->0<=x/\∃ j,i<=j/\j<i+n/\(s.getD j default).bl > 1073741824:=by
  intro n;induction n with
  |zero=>grind
  |succ n V=>
   intro i x h;simp only[aj,E]at h;grind
 constructor
 grind
 rintro⟨x,W,X⟩;obtain⟨j,Y,rfl⟩:=aoM W;cases hr:aj (cd s) s.length 0 ()with
 |inl x=>grind
 |inr u=>
  have h1:=AZ hr j (aoV _) g5;grind
structure asI (d:ah)(c:List Claim):Prop where
 chk:bX d c=0
 wide:(d.reaches.length:Int)*d.hours<=1024
 lit:∀ x∈aq c,x.bl<=1073741824
theorem FP (h:bX d c=0):ats c:=by
 obtain⟨_,h2,E,_⟩:=(jW d c).1 h;exact⟨h2,λa O=>Bb (E a O)⟩
theorem Iv (h:bX d c=0):arW d:=kE (by grind [jW])
theorem ab4 (h:bX d c=0):i64.wrap ((d.reaches.length:Int)*d.hours)=(d.reaches.length:Int)*d.hours:=by
 have:=zP (Iv h);exact aw g5 g5
theorem wM:(aV d c).2=0↔asI d c:=by
 unfold aV;by_cases h1:bX d c=0
 rw[h1];simp only[bne_self_eq_false,cond_false];rw[ab4 h1];by_cases h2:(d.reaches.length:Int)*d.hours > 1024
 rw[decide_eq_true h2,cond_true];constructor
 omega;intro h;have:=h.wide;omega;rw[decide_eq_false h2,cond_false];cases O:bN (aq c)with
 |true=>
  rw[cond_true];obtain⟨x,E,V⟩:=(AC _).1 O;constructor
  omega;intro h;have:=h.lit x E;omega
 |false=>
  rw[cond_false];refine⟨λ_=>⟨h1,g5,λx E=>?_⟩,λ_=>rfl⟩;by_cases q:x.bl > 1073741824
  have:=(AC _).2 ⟨x,E,q⟩;grind
  omega
 have:(bX d c !=0)=true:=g6
 rw[this,cond_true];exact⟨λh=>absurd h h1,λh=>absurd h.chk h1⟩
theorem DX (h:asI d c):aV d c=(aq c,0):=by
 have h2:=wM.2 h;unfold aV at h2 |-;grind
theorem Zn (d:ah)(c:List Claim):mJ d c:=by
 refine⟨K7 d c,λh _ _=>VC (FP (d:=d) ?_)⟩;simpa using h
theorem asI.outs (h:asI d c):aua c (aq c):=Sx.outs (FP h.chk)
theorem asI.nar (h:asI d c):Nar d (aq c):=by
 obtain⟨h1,h2,Y,_⟩:=(jW d c).1 h.chk;have E:=h.outs;refine⟨⟨h1,aoA E.len h2,λx O=>?_,E.asc⟩,h.wide⟩;obtain⟨a,ha,e1,e2⟩:=E.src x O;have X:=Y a ha;unfold okC at X;simp only[aoj,decide_eq_true_eq]at X;have W:=E.out x O;have hl:=E.lit x O;have V:=h.lit x O;exact⟨g5,g5,g5,λ_=>g5,λq=>g6,hl.2,V⟩
theorem Iw (d:ah)(c:List Claim):
  (¬asI d c/\(aV d c).2≠0/\bI d c=([],({ kind:=0,hour:=0,index:=0,bl:=0,limit:=0}:B1),(aV d c).2))\/
  (asI d c/\(∃ E,atA d (aq c) E/\4096< (aq c++E).length)/\bI d c=([],({ kind:=0,hour:=0,index:=0,bl:=0,limit:=0}:B1),2))\/
  (asI d c/\(∃ E r h,PX d (aq c) E r h)/\dg (aq c) d≠[]/\bI d c=([],ko (aq c) d,0))\/
  (asI d c/\∃ E,PL d (aq c) E/\¬Lim d (srt aA (aq c++E))/\∃ f∈zi d (srt aA (aq c++E)),bI d c=([],f,0))\/
  (asI d c/\∃ E,PL d (aq c) E/\Lim d (srt aA (aq c++E))/\bI d c=(srt aA (aq c++E),({ kind:=0,hour:=0,index:=0,bl:=0,limit:=0}:B1),0)):=by
 by_cases O:asI d c
 refine .inr ?_;have ha:=DX O;have Y:=O.nar;have V:=O.outs.out;unfold bI;simp only[ha,bne_self_eq_false,cond_false];rcases Io d (aq c)with⟨q,_⟩ | ⟨_,q,_⟩ | ⟨_,_,hx,e⟩ | ⟨_,_,E,hF,hlen,e⟩ | ⟨_,_,E,X,e⟩;exact absurd ((Ba _ _).2 Y) q;grind
 refine .inr (.inl ⟨O,hx,?_,?_⟩);exact ab3 Y.good.right Y.good.asB V (by rw[e]) (by rw[e]);grind
 grind
 have hg:=X.good;have hb:=(Lc hg.asB).1;rw[e];simp only[bne_self_eq_false,cond_false,aoH];rw[hb];cases W:zi d (srt aA (aq c++E))with
 |nil=>exact .inr (.inr (.inr ⟨O,E,X,Ld.1 W,rfl⟩))
 |cons f r=>
  refine .inr (.inr (.inl ⟨O,E,X,λq=>?_,f,?_,?_⟩));rw[Ld.2 q]at W;cases W;grind
  rfl
 refine .inl ⟨O,λq=>O (wM.1 q),?_⟩;have:((aV d c).2 !=0)=true:=by
  rw[bne_iff_ne];exact λq=>O (wM.1 q)
 unfold bI;grind
theorem Ix (d:ah)(c:List Claim):kI d c:=by
 refine⟨Zn d c,λh=>?_⟩;have O:asI d c:=wM.1 (by simpa using h);have Y:=DX O;rw[Y];have V:=O.nar;have E:=O.outs.out;refine⟨af8 _ _,λh2=>⟨λ_=>?_,λh3=>?_⟩⟩;exact aga V.good.right V.good.asB E;rcases Io d (aq c)with⟨_,e⟩ | ⟨_,_,e⟩ | ⟨_,_,_,e⟩ | ⟨_,_,X,_,_,e⟩ | ⟨_,_,X,W,e⟩;grind
 grind
 grind
 grind
 rw[e];exact(Lc W.good.asB).2
def No (d:ah)(c:List Claim):jN d c:=Ix d c
theorem adt {f:B1}(h:f.kind≠0)(e:Int):((e==0)&&((f.kind==0)&&((f.hour==0)&&((f.index==0)&&((f.bl==0)&&(f.limit==0))))))=false:=by
 grind
structure Made (d:ah)(c:List Claim)(l:List Order):Prop where
 ask:asI d c
 plan:∃ gs,PL d (aq c) gs/\l=srt aA (aq c++gs)
 lim:Lim d l
theorem Zo (d:ah)(c:List Claim)(h:(aT d c).2.2=0)(h2:(aT d c).2.1=true):Made d c (aT d c).1:=by
 rcases Iw d c with⟨_,h1,e⟩ | ⟨_,_,e⟩ | ⟨E,_,Y,e⟩ | ⟨E,O,V,_,f,hf,e⟩ | ⟨E,O,V,X,e⟩;unfold aT at h;rw[e]at h;exact absurd h h1;unfold aT at h;rw[e]at h;cases h;unfold aT at h2;rw[e]at h2;have W:=E.nar;have:=(Bg W.good.right W.good.asB E.outs.out).choose_spec.2.2.2 _ (VF Y);rw[adt (by rw[this];decide)]at h2;cases h2;unfold aT at h2;rw[e]at h2;rw[adt (Sy f hf).1]at h2;cases h2;have e1:(aT d c).1=srt aA (aq c++O):=by unfold aT;rw[e]
 rw[e1];exact⟨E,⟨O,V,rfl⟩,X⟩
end
end Go.Sx
end
section
namespace Go.Sx
open Go.Proofs Go.RowKit Tryz
open IntKind (i64)
@[go_sem] noncomputable def ab5:m0:=(pR .int λl=>(pE (.det True (.rc .int l))))
def Zp:X1 prog 71 ab5:=by
 refine fE (mG Y1 Y1) f71 (bG λl=>(am (λE=>?_)));dsimp only[an]at E;refine⟨nbl rfl,L0,ag _,?_⟩;unfold ae f71;exact zq2
def chz:Nat->List Int->List Int->List (List Int)
 |0,s,_=>[s]|_+1,_,[] =>[]|n+1,s,x::l=>if l.length<n then []else chz n (s++[x]) l++chz (n+1) s l
theorem CE (s l:List Int):chz 0 s l=[s]:=by cases l <;>rfl
theorem Le:∀ (n:Nat) (s l:List Int),l.length<n->chz n s l=[]
 |0,_,_,h=>g5
 |_+1,_,[],_=>rfl
 |n+1,s,x::l,h=>by
  simp_all [chz]
theorem Iy (n:Nat)(s l:List Int)(k:Nat)(E:k<l.length):chz (n+1) s (l.drop k)=if l.length - k<n+1 then []else chz n (s++[l.getD k 0]) (l.drop (k+1))++chz (n+1) s (l.drop (k+1)):=by
 have e:l.drop k=l.getD k 0::l.drop (k+1):=by
  simp_all
 rw[e];simp only[chz,apB];grind
def chc (n:Nat)(s l:List Int)(k:Nat):Nat:=(chz (n+1) s l).length - (chz (n+1) s (l.drop k)).length
def Np (n:Nat)(s l:List Int):∀ k,k<=l.length->chz (n+1) s (l.drop k) <:+chz (n+1) s l
 |0,_=>by simp
 |k+1,h=>by
  refine List.IsSuffix.trans ?_ (Np n s l k g5);grind [Iy,Le]
def Zq (n:Nat)(s l:List Int):chc n s l 0=0:=by simp[chc]
def Zr (n:Nat)(s l:List Int)(k:Nat)(E:k<l.length)(h:¬l.length - k<n+1):chc n s l (k+1)=chc n s l k+(chz n (s++[l.getD k 0]) (l.drop (k+1))).length:=by
 have h1:=(Np n s l k g5).length_le;unfold chc;rw[Iy n s l k E,if_neg h]at h1 |-;grind
def T7 (n:Nat)(s l:List Int)(k:Nat)(h:l.length - k<n+1):chc n s l k=(chz (n+1) s l).length:=by
 grind [chc,Le]
def ab6 (n:Nat)(s l:List Int)(k:Nat)(O:k<l.length)(h:¬l.length - k<n+1)(j:Nat)(y:List Int)(hy:(chz n (s++[l.getD k 0]) (l.drop (k+1)))[j]? =some y):(chz (n+1) s l)[chc n s l k+j]? =some y:=by
 obtain⟨p,E⟩:=Np n s l k g5;have hc:chc n s l k=p.length:=by grind [chc]
 rw[hc,<-E,apM g5,aq1,Iy n s l k O,if_neg h,aqh (aop.1 hy).1];exact hy
def chK (p:Prop)(r:RF)(k m:Nat)(a c:Ob):arV:= { α:=Bool,pre:=p,post:=λ_=>True,res:=λb=>.ret (.v (.bool b)) [a,.ab (r.1 (if b then k+m+1 else 0)),c]}
def VG {ids:List Nat}{d:Option Nat}{st:St}{K:St->Prop}{Z:Value->St->Prop}{p:Prop}{r:RF}{k m:Nat}{h0 h2:Ob}:BA ids d st K Z (some (chK p r k m h0 h2))=(p/\LF ids d st K Z (.ret (.v (.bool true)) [h0,.ab (r.1 (k+m+1)),h2])/\LF ids d st K Z (.ret (.v (.bool false)) [h0,.ab (r.1 0),h2])):=by
 apply propext;constructor
 rintro⟨h1,h2⟩;exact⟨h1,h2 true trivial,h2 false trivial⟩;rintro⟨h1,h2,h3⟩;refine⟨h1,λb _=>?_⟩;cases b;exact h3;exact h2
attribute [go_sem] VG
abbrev chF:Ob:=.cells [.fn 70 [] [.ptr 0 0,.ptr 2 0]]
@[go_sem high]def akX {x:Res}:reach [.cells [.os 1],.ab x,.cells [.fn 70 [] [.ptr 0 0,.ptr 2 0]]] 64 [0,2] []=[0,1,2]:=(rfl)
def chP (a:List (List SV))(n:Nat)(x:List Int×List Int×Nat):Prop:=x.1.length+n<=1000/\x.2.1.length<=1000/\∀ j y,(chz n x.1 x.2.1)[j]? =some y->a[x.2.2+j]? =some [.rs .int y]
noncomputable def Zs (items:List (List SV))(r:RF)(n:Nat):List SV->List Ob->Option arV:=kh (λx:List Int×List Int×Nat=>[.rs .int x.1,.rs .int x.2.1,.i n,.ptr 0 0,.ptr 2 0]) (λx=>[.cells [.os 1],.ab (r.1 (x.2.2+1)),chF]) (λx=>chK (chP items n x) r x.2.2 (chz n x.1 x.2.1).length (.cells [.os 1]) chF)
def T8 (items:List (List SV))(r:RF)(n:Nat)(s l:List Int)(k:Nat):Zs items r n ([.rs .int s,.rs .int l,.i n,.ptr 0 0,.ptr 2 0]) ([.cells [.os 1],.ab (r.1 (k+1)),chF])=some (chK (chP items n (s,l,k)) r k (chz n s l).length (.cells [.os 1]) chF):=
 gA (A:=λx:List Int×List Int×Nat=>[.rs .int x.1,.rs .int x.2.1,.i n,.ptr 0 0,.ptr 2 0]) (H:=λx=>[.cells [.os 1],.ab (r.1 (x.2.2+1)),chF]) (K:=λx=>chK (chP items n x) r x.2.2 (chz n x.1 x.2.1).length (.cells [.os 1]) chF) (x:=(s,l,k)) (by
  grind)
def agc (items:List (List SV))(r:RF)(hy:YOk prog (ER items r)):arT prog 70 (Zs items r 0):=by
 have hG:=mGY Y1 Y1 hy;refine oE mixed aB hG (fn:=f70) (c:=ae f70) kr kr kr kr λl o V h O=>?_;obtain⟨⟨s,l,k⟩,rfl,rfl,rfl⟩:=eD h;clear h;refine⟨nbl rfl,L0,ag _,?_⟩;unfold ae f70;have E:=O.2.2 0 s (by grind [CE]);simp only[go_sem];refine⟨λ_=>⟨g5,?_,?_⟩,λh=>absurd h (by decide)⟩;refine⟨true,_,_,[0,1,2],trivial,rfl,?_⟩;simp only[go_sem,CE,aon,aoI,if_true,aou];refine⟨false,_,_,[0,1,2],trivial,rfl,?_⟩;simp only[go_sem,aot,if_false]
def Zt {c:Nat->Bool}{x:Nat}:∀ (m k:Nat),aj (λj (_:Unit) =>bif c j then(.inl j:Nat⊕Unit)else .inr ()) m k ()=.inl x->x<k+m/\c x=true
 |0,_,h=>by cases h
 |m+1,k,h=>by
  simp only[aj]at h;cases hc:c k with
  |true=>grind|false=>rw[hc]at h;have:=Zt m (k+1) h;grind
def agd (items:List (List SV))(r:RF)(hy:YOk prog (ER items r))(n:Nat)(ih:arT prog 70 (Zs items r n)):arT prog 70 (Zs items r (n+1)):=by
 have hG:=mGY (cp Zp Y1) (co ih Y1) hy;refine oE mixed aB hG (fn:=f70) (c:=ae f70) kr kr kr kr λl o con h E=>?_;obtain⟨⟨s,l,k⟩,rfl,rfl,rfl⟩:=eD h;clear h;have hz:(((n+1:Nat):Int) ==0)=false:=by simp;omega
 obtain⟨hs,hl,E⟩:=E;simp only at hs hl E;have hl2:l.length<=aI:=by unfold aI;omega
 have V:i64.wrap (((n+1:Nat):Int) - 1)=(n:Int):=by grind [aw]
 refine⟨nbl rfl,λid st=>bif Nat.beq id 0 then some (LCY (ρ:=Nat) (σ:=Unit) 3 [] [0,1,2] (λj _=>⟨[(0,.rs .int s),(1,.rs .int l),(2,.i ((n+1:Nat):Int)),(3,.ptr 0 0),(4,.ptr 2 0),(16,.i (l.length:Int)),(17,.i j)],[.cells [.os 1],.ab (r.1 (k+chc n s l j+1)),chF]⟩) (λj _=>bif decide (i64.wrap ((l.length:Int) - (j:Int)) < ((n+1:Nat):Int))then .inl j else .inr ()) (λ_ _=>True) l.length () True (λ_=>.normal) (λj=>⟨[],[.cells [.os 1],.ab (r.1 (k+chc n s l j+1)),chF]⟩) ⟨[(8,.v (.bool false))],[.cells [.os 1],.ab (r.1 0),chF]⟩ st)else none,?_,?_⟩;unfold ae f70;simp only[ak,true_and,and_true];refine uw mixed aB hG kr (λ_=>rfl) l.length rfl (λ_=>g5) (λ_ j _ hlt _ hw hc=>⟨L0,ag _,?_⟩) (λ_ _ hc=>?_);simp only[go_sem,hc,hw,V,T8,apD];intro hb;have hwj:i64.wrap ((l.length:Int) - (j:Int))=(l.length:Int) - (j:Int):=by grind [aw]
 refine⟨λh1=>?_,λh2=>?_⟩;rw[h1];simp only[go_sem];exact fk (jl [0,1,2]);have hn:¬l.length - j<n+1:=by
  grind
 have W:=Zr n s l j hlt hn;refine⟨⟨g5,g5⟩,by grind [dT],λ_=>⟨⟨g5,g5,g5⟩,by rfl,⟨?_,?_,?_⟩,?_,?_⟩⟩;grind
 grind
 intro i y hy;have:=E _ _ (ab6 n s l j hlt hn i y hy);grind
 rw[h2];simp only[go_sem,W,<-apI];exact fk (jl [0,1,2]);exact .inr (fk (jl [0,1,2]));simp only[go_sem,hc];exact fk (jl [0,1,2]);unfold ae f70;simp only[go_sem,hz];intro _;refine⟨⟨⟨rfl,by rw[Zq]⟩,iA _ _ _ λ_ _ _ _=>trivial⟩,λx Y=>?_,λ_ Y=>?_,?_⟩;obtain⟨hx1,X⟩:=Zt (c:=λj=>decide (i64.wrap ((l.length:Int) - (j:Int)) < ((n+1:Nat):Int))) _ _ Y;have O:=of_decide_eq_true X;rw[aw g5 g5]at O;refine⟨true,_,_,[0,1,2],trivial,rfl,?_⟩;rw[T7 n s l x g5];simp only[go_sem,if_true];refine⟨true,_,_,[0,1,2],trivial,rfl,?_⟩;rw[T7 n s l l.length g5];simp only[go_sem,if_true];refine⟨false,_,_,[0,1,2],trivial,rfl,?_⟩;simp only[go_sem,aot,if_false]
def adu (items:List (List SV))(r:RF)(hy:YOk prog (ER items r)):∀ n,arT prog 70 (Zs items r n)
 |0=>agc items r hy|n+1=>agd items r hy n (adu items r hy n)
noncomputable def Zu (items:List (List SV))(r:RF):List SV->List Ob->Option arV:=kh (λx:List Int×Nat×Nat=>[.v (.slice none 0 0),.rs .int x.1,.i (x.2.1:Int),.ptr 0 0,.ptr 2 0]) (λx=>[.cells [.os 1],.ab (r.1 (x.2.2+1)),chF]) (λx=>chK (chP items x.2.1 ([],x.1,x.2.2)) r x.2.2 (chz x.2.1 [] x.1).length (.cells [.os 1]) chF)
@[go_sem]def akY {items:List (List SV)}{r:RF}{n k:Nat}{l:List Int}:Zu items r ([.v (.slice none 0 0),.rs .int l,.i n,.ptr 0 0,.ptr 2 0]) ([.cells [.os 1],.ab (r.1 (k+1)),.cells [.fn 70 [] [.ptr 0 0,.ptr 2 0]]])=some (chK (chP items n ([],l,k)) r k (chz n [] l).length (.cells [.os 1]) chF):=
 gA (A:=λx:List Int×Nat×Nat=>[.v (.slice none 0 0),.rs .int x.1,.i (x.2.1:Int),.ptr 0 0,.ptr 2 0]) (H:=λx=>[.cells [.os 1],.ab (r.1 (x.2.2+1)),chF]) (K:=λx=>chK (chP items x.2.1 ([],x.1,x.2.2)) r x.2.2 (chz x.2.1 [] x.1).length (.cells [.os 1]) chF) (x:=(l,n,k)) (by
  grind)
def age (items:List (List SV))(r:RF)(hy:YOk prog (ER items r)):arT prog 70 (Zu items r) where
 enter:=λl h c hc=>by
  simp_all
 calls:=λl h c hc W F own w vs V O=>by
  obtain⟨⟨a,n,k⟩,rfl,rfl,rfl⟩:=eD hc;refine(adu items r hy n).calls _ _ _ (T8 items r n [] a k) W F own w vs V ⟨O.1,λj s E=>?_⟩;match j,E with
  |0,E=>
   cases E;have h:=O.2 0 _ rfl;generalize vs.getD 0 undef=u at h |-;cases h;exact .rs0
  |j+1,E=>exact O.2 (j+1) s E
@[go_sem high]def aiv {x:Res}:reach [.ab x,.cells [.os 0],.cells [.fn 70 [] [.ptr 1 0,.ptr 2 0]]] 64 [1,2] []=[1,0,2]:=(rfl)
end Go.Sx
end
section
namespace Go.Sx
open Go.Proofs Tryz
open IntKind (i64)
@[go_sem] def Zv (x:List Int):List SV:=[.rs .int x]
@[go_sem] def JU:m0:=(pR .int λa=>(pE (.det True (.fn 69 [] [.ep [.rs .int a] 0]))))
def Iz:X1 prog 30 JU:=by
 have hG:=mG Y1 Y1;refine fN hG f30 [.o] (bG λE=>(am (λO=>?_)));refine⟨nbl rfl,L0,ag _,?_⟩;unfold ae f30;simp only[go_sem,sq,sr,Nat.reduceBEq,Nat.reduceLeDiff,Nat.reduceAdd,Nat.reduceSub,Nat.reduceMul]
@[go_sem] def lA (a:List Int)(b:Nat)(c:List (List Int)):Empty⊕(List (List Int)):=.inr (c++(chz b [] a))
def lT (a:List Int)(b:List (List SV))(c:Nat)(d:List (List Int)):Prop:=(chP b c ([],a,d.length))
def eX (a:List Int):List (List Int):=(match aj (lA a) (Int.toNat (i64.wrap ((a.length:Int)+1))) 0 ([]:List (List Int))with| .inl x=>x.elim| .inr b=>b)
def mf (a:List Int)(c:List (List SV)):Prop:=letI b:=i64.wrap ((a.length:Int)+1);letI d:=lA a;(a.length<=aI->((b<9223372036854775808)/\okI d (lT a c) (Int.toNat b) 0 ([]:List (List Int))/\(∀ l5,aj d (Int.toNat b) 0 ([]:List (List Int))=.inr l5->(c.length=l5.length))))
def DY (O:List Int)(E:List (List SV))(hp:mf O E):AQ prog 69 (λy=>[y,.ep [.rs .int O] 0]) [] E:=by
 unfold mf at hp;refine Df mixed aB (fn:=f69) (c:=ae f69) kr kr kr kr rfl (n:=0) rfl (G:=λW=>AS [] [(70,(Zu E W))] (ER E W)) (λW hy=>?_) (λargs w=>by kernel_rfl);have hG:=mGY Y1 (co (age E W hy) Y1) hy;refine⟨hG,nbl rfl,(λid st=>bif Nat.beq id 0 then some (LCY (ρ:=Empty) (σ:=(List (List Int))) 3 [] [0,1,2] (λX V=>⟨[(1,.ep [.rs .int O] 0),(3,.ptr 2 0),(8,.i (i64.wrap ((O.length:Int)+1))),(9,.i X)],[.ab (W.1 (V.length+1)),.cells [.os 0],.cells [.fn 70 [] [.ptr 1 0,.ptr 2 0]]]⟩) (lA O) (lT O E) (Int.toNat (i64.wrap ((O.length:Int)+1))) ([]:List (List Int)) ((i64.wrap ((O.length:Int)+1)) <9223372036854775808) ((·.elim)) ((·.elim)) ⟨[],[.ab (W.1 0),.dead,.dead]⟩ st)else none),?_,?_⟩;unfold ae f69;simp only[ak,true_and,and_true];refine uw mixed aB hG kr (λ_=>rfl) (i64.wrap ((O.length:Int)+1)) rfl id (λhb0 X V asO Y hw hc=>⟨L0,ag _,?_⟩) (λhb0 V hc=>?_);unfold lT at Y;try simp only[hw,aol]at Y
 exact ql (jl [0,1,2]);exact qm (jl [0,1,2]);unfold ae f69;exact O_ (jl [0])
variable {l0:List Nat}{p:Prop}
def Qj(a0:JL l0)(h:JL l0->p:=by intro ja;(first|done|(repeat' (first|with_reducible refine And.intro ?_ ?_|((with_reducible show _≠_);first|assumption|omega|(simp_all [bp,eS];done) |grind) |with_reducible intro _)) <;>(first|done|with_reducible exact Empty.elim ‹Empty› |with_reducible assumption|rfl|omega|assumption|decide|exact fk ja|(simp only[*,cond_true,cond_false,aoH,aoS,go_sem];done) |(simp only[*,cond_true,cond_false,aoH,aoS,go_sem];(repeat' (first|with_reducible refine And.intro ?_ ?_|((with_reducible show _≠_);first|assumption|omega|(simp_all [bp,eS];done) |grind) |with_reducible intro _)) <;>(first|done|assumption|rfl|omega|decide|exact fk ja|(simp_all [bp,eS];done))) |(simp_all [okI,bp,eS];done) |(simp_all [bp,eS];(first|done|exact fk2 ja)) |exact fk2 ja|(simp_all only[bp,eS,cond_true,cond_false,apX,ark];(first|done|exact fk ja|exact fk2 ja|(simp only[go_sem];((repeat' (first|with_reducible refine And.intro ?_ ?_|((with_reducible show _≠_);first|assumption|omega|(simp_all [bp,eS];done) |grind) |with_reducible intro _)) <;>(first|done|rfl|exact fk ja|exact fk2 ja)))))))):p:=h a0
variable {l1:List Nat}
def IA(a0:JL l0)(a1:JL l1)(h:JL l0->JL l1->p:=by intro ja jb;(first|done|(repeat' (first|with_reducible refine And.intro ?_ ?_|((with_reducible show _≠_);first|assumption|omega|(simp_all [bp,eS];done) |grind) |with_reducible intro _)) <;>(first|done|with_reducible exact Empty.elim ‹Empty› |with_reducible assumption|rfl|omega|assumption|decide|exact fk ja|exact fk jb|(simp only[*,cond_true,cond_false,aoH,aoS,go_sem];done) |(simp only[*,cond_true,cond_false,aoH,aoS,go_sem];(repeat' (first|with_reducible refine And.intro ?_ ?_|((with_reducible show _≠_);first|assumption|omega|(simp_all [bp,eS];done) |grind) |with_reducible intro _)) <;>(first|done|assumption|rfl|omega|decide|exact fk ja|exact fk jb|(simp_all [bp,eS];done))) |(simp_all [okI,bp,eS];done) |(simp_all [bp,eS];(first|done|exact fk2 ja|exact fk2 jb)) |exact fk2 ja|exact fk2 jb|(simp_all only[bp,eS,cond_true,cond_false,apX,ark];(first|done|exact fk ja|exact fk jb|exact fk2 ja|exact fk2 jb|(simp only[go_sem];((repeat' (first|with_reducible refine And.intro ?_ ?_|((with_reducible show _≠_);first|assumption|omega|(simp_all [bp,eS];done) |grind) |with_reducible intro _)) <;>(first|done|rfl|exact fk ja|exact fk jb|exact fk2 ja|exact fk2 jb)))))))):p:=h a0 a1
theorem IB(a0:JL l0)(h:JL l0->p:=by intro ja;simp only[go_sem,hc,hw];all_goals exact Qj ja):p:=h a0
theorem IC(a0:JL l0)(h:JL l0->p:=by intro ja;simp only[go_sem,hc];all_goals exact Qj ja):p:=h a0
def Zw(a0:JL l0)(a1:JL l1)(h:JL l0->JL l1->p:=by intro ja jb;simp only[go_sem];all_goals exact IA ja jb):p:=h a0 a1
def Zx(a0:JL l0)(a1:JL l1)(h:JL l0->JL l1->p:=by intro ja jb;simp only[go_sem,hc,hw];all_goals exact IA ja jb):p:=h a0 a1
def Zy(a0:JL l0)(a1:JL l1)(h:JL l0->JL l1->p:=by intro ja jb;simp only[go_sem,hc];all_goals exact IA ja jb):p:=h a0 a1
@[go_sem] def jD (b:P1)(g:Nat)(e:List ((Int×Int)×Int)):Empty⊕(List ((Int×Int)×Int)):=letI a:=b.c.getD g default;letI f:=((b.d.zs.getD (Int.toNat (a.dd)) default).reach,a.hour);.inr (dF .arQ .int e f (i64.wrap ((aC .arQ .int e f)+a.bl)))
def iF (a:P1)(b:Nat)(e:List ((Int×Int)×Int)):Prop:=(0<=(a.c.getD b default).dd/\(a.c.getD b default).dd< (a.d.zs.length:Int))
def bP (a:P1):List ((Int×Int)×Int):=(match aj (jD a) a.c.length 0 ([])with| .inl x=>x.elim| .inr b=>b)
def ip (a:P1):Prop:=(a.c.length<=aI->okI (jD a) (iF a) a.c.length 0 ([]))
@[go_sem] def yj:m0:=(pD .S1 λa=>(pE (.det (ip a) (.nm .arQ .int (bP a)))))
theorem qJ:X1 prog 83 yj:=by
 have hG:=mG Y1 Y1;refine fE hG f83 (ax λE=>(am (λY=>?_)));dsimp only[an]at Y;unfold ip at Y;refine⟨nbl rfl,(λid st=>bif Nat.beq id 0 then some (LCR (ρ:=Empty) (σ:=(List ((Int×Int)×Int))) 2 [] [0,1] (λV O=>⟨[(1,.ptr 0 0),(3,.os 1),(8,.rs .W2 E.c),(9,.i (E.c.length:Int)),(10,.i V)],[.cells (cellsOf .S1 E),.mp .arQ .int O none]⟩) (jD E) (iF E) E.c.length ([]) (E.c.length<=aI) ((·.elim)) ((·.elim)) st)else none),?_,?_⟩;unfold ae f83;simp only[ak,true_and,and_true];refine bu mixed aB hG kr (λ_=>rfl) (E.c.length:Int) rfl fO (λhb0 V O X W hw hc=>⟨L0,ag _,?_⟩) (λhb0 O hc=>?_);unfold iF at W;try simp only[hw,aol]at W
 exact IB (jl [0,1]);exact IC (jl [0,1]);unfold ae f83;try unfold bP
 exact zq2
@[go_sem] def d8 (q:P1)(f:List Y2×List ((Int×Int)×Int)×List ((Int×Int)×Bool)×Int)(i:Nat)(a:List Y2×List ((Int×Int)×Int)×List ((Int×Int)×Bool)):Empty⊕(List Y2×List ((Int×Int)×Int)×List ((Int×Int)×Bool)):=letI b:=q.d.reaches.getD (Int.toNat f.2.2.2) default;letI g:=i64.wrap ((i:Int) - b.delay);letI j:=(f.2.2.2,(i:Int));letI e:=aC .arQ .int a.2.1 j;letI c:=gC b e;letI k:=if c.1<b.arR then b.arR else c.1;letI l:=a.1++([({ reach:=f.2.2.2,hour:=g,bl:=k,wanted:=e}:Y2)]);letI m:= !(aC .arQ .bool a.2.2 j);letI h:=(b.up,g);letI n:=dF .arQ .int a.2.1 h (i64.wrap ((aC .arQ .int a.2.1 h)+k));letI o:=dF .arQ .bool a.2.2 h true;letI p:=(a.1,a.2.1,o);(bif((e==0)&&m)then .inr (a.1,a.2.1,a.2.2)else(bif(m&&(decide (e<=1073741824)))then(bif(c.2.1&&(decide (g>=0)))then(bif c.2.1 then .inr (l,n,a.2.2)else .inr (l,a.2.1,o))else(bif c.2.1 then .inr (a.1,n,a.2.2)else .inr p))else .inr p))
def gX (k:P1)(c:List Y2×List ((Int×Int)×Int)×List ((Int×Int)×Bool)×Int)(g:Nat)(e:List Y2×List ((Int×Int)×Int)×List ((Int×Int)×Bool)):Prop:=letI a:=k.d.reaches.getD (Int.toNat c.2.2.2) default;letI h:=i64.wrap ((g:Int) - a.delay);letI i:=(c.2.2.2,(g:Int));letI b:=aC .arQ .int e.2.1 i;letI j:= !(aC .arQ .bool e.2.2 i);letI f:=gC a b;(((b==0)&&j)=false->((j&&(decide (b<=1073741824)))=true->((mr a b)/\((f.2.1&&(decide (h>=0)))=true->((e.1++([({ reach:=c.2.2.2,hour:=h,bl:=(if f.1<a.arR then a.arR else f.1),wanted:=b}:Y2)])).length*32<=dT)))))
@[go_sem] def gi (c:P1)(e:Nat)(a:List Y2×List ((Int×Int)×Int)×List ((Int×Int)×Bool)×Int):(List Y2)⊕(List Y2×List ((Int×Int)×Int)×List ((Int×Int)×Bool)×Int):=(bif(decide (a.2.2.2>=0))then(match aj (d8 c a) (Int.toNat c.d.hours) 0 (a.1,a.2.1,a.2.2.1)with| .inl x=>x.elim| .inr b=>.inr (b.1,b.2.1,b.2.2,(i64.wrap (a.2.2.2 - 1))))else .inl a.1)
def fH (b:P1)(c:Nat)(a:List Y2×List ((Int×Int)×Int)×List ((Int×Int)×Bool)×Int):Prop:=((decide (a.2.2.2>=0))=true->((0<=a.2.2.2/\a.2.2.2< (b.d.reaches.length:Int))/\((b.d.hours<9223372036854775808)/\okI (d8 b a) (gX b a) (Int.toNat b.d.hours) 0 (a.1,a.2.1,a.2.2.1))))
def ed (a:P1):List Y2:=(match aj (gi a) (a.d.reaches.length+1) 0 ([],(bP a),[],(i64.wrap ((a.d.reaches.length:Int) - 1)))with| .inl b=>b| .inr c=>default)
def jf (a:P1):Prop:=letI b:=i64.wrap ((a.d.reaches.length:Int) - 1);letI c:=gi a;letI e:=a.d.reaches.length+1;letI f:=bP a;((ip a)/\(a.d.reaches.length<=aI->(okI c (fH a) e 0 ([],f,[],b)/\(∀ z_,aj c e 0 ([],f,[],b)≠ .inr z_))))
@[go_sem] def wN:m0:=(pD .S1 λa=>(pE (.det (jf a) (.rs .arH (ed a)))))
theorem vS:X1 prog 36 wN:=by
 have hG:=mG (cn [.st .S1] qJ (cp uP Y1)) Y1;refine fN hG f36 [.sl .arH] (ax λa0=>(am (λhp=>?_)));dsimp only[an]at hp;unfold jf at hp;refine⟨nbl rfl,(λid st=>bif Nat.beq id 0 then some (LCV (ρ:=(List Y2)) (σ:=(List Y2×List ((Int×Int)×Int)×List ((Int×Int)×Bool)×Int)) 3 [.slot 2 (.row .arH ([]))] [0,1,2,3] (λX E=>⟨[(1,.ptr 0 0),(2,.os 3),(3,.os 1),(4,.os 2),(5,.i E.2.2.2)],[.cells (cellsOf .S1 a0),.mp .arQ .int E.2.1 none,.mp .arQ .bool E.2.2.1 none,.row .arH E.1]⟩) (gi a0) (fH a0) (a0.d.reaches.length+1) ([],(bP a0),[],(i64.wrap ((a0.d.reaches.length:Int) - 1))) (λ_=>.normal) (λV=>⟨[(2,.os 3)],[.dead,.dead,.dead,.row .arH V]⟩) st)else none),?_,?_⟩;unfold ae f36;simp only[ak,true_and,and_true];refine fw mixed aB hG kr (λ_=>rfl) λX E Y=>⟨(λid st=>bif Nat.beq id 2 then some (LCR (ρ:=Empty) (σ:=(List Y2×List ((Int×Int)×Int)×List ((Int×Int)×Bool))) 5 [] [0,1,2,3,4,3] (λW O=>⟨[(1,.ptr 0 0),(2,.os 5),(3,.os 1),(4,.os 2),(5,.i E.2.2.2),(6,.ptr 4 0),(32,.i a0.d.hours),(33,.i W)],[.cells (cellsOf .S1 a0),.mp .arQ .int O.2.1 none,.mp .arQ .bool O.2.2 none,.dead,.cells (cellsOf .reach (a0.d.reaches.getD (Int.toNat E.2.2.2) (default:Reach))),.row .arH O.1]⟩) (d8 a0 E) (gX a0 E) (Int.toNat a0.d.hours) (E.1,E.2.1,E.2.2.1) (a0.d.hours<9223372036854775808) ((·.elim)) ((·.elim)) st)else none),?_,?_⟩;simp only[ak,true_and,and_true];refine bu mixed aB hG kr (λ_=>rfl) a0.d.hours rfl id (λhb1 W O as6 hq1 hw hc=>⟨L0,ag _,?_⟩) (λhb1 O hc=>?_);unfold gX at hq1;try simp only[hw,aol]at hq1
 exact Zx (jl [0,1,2,3,4,5]) (jl [0,1,2,3,4,9]);exact Zy (jl [0,1,2,3,4,5]) (jl [0,1,2,3,4,9]);unfold fH at Y;exact Zw (jl [0,1,2,5]) (jl [0,1,2,3]);unfold ae f36;try unfold ed
 exact zq2
@[go_sem] def c7 (c:P1)(g:List Y2)(h:Nat)(b:List ((Int×Int)×Int)×List ((Int×Int)×Bool)):Unit⊕(List ((Int×Int)×Int)×List ((Int×Int)×Bool)):=letI a:=g.getD h default;letI e:=((c.d.reaches.getD (Int.toNat (a.reach)) default).up,a.hour);letI f:=(a.reach,a.hour);(bif((((!(di (a.reach) 0 (i64.wrap ((c.d.reaches.length:Int) - 1)))) ||(!(di (a.hour) 0 (i64.wrap (c.d.hours - 1))))) ||(!(di (a.bl) 1 1073741824))) ||(aC .arQ .bool b.2 f))then .inl ()else .inr ((dF .arQ .int b.1 e (i64.wrap ((aC .arQ .int b.1 e)+a.bl))),(dF .arQ .bool b.2 f true)))
def jE (b:P1)(e:List Y2)(f:Nat)(g:List ((Int×Int)×Int)×List ((Int×Int)×Bool)):Prop:=letI a:=e.getD f default;letI c:=(b.d.reaches.length:Int);(b.d.reaches.length<=aI->(((((!(di (a.reach) 0 (i64.wrap (c - 1)))) ||(!(di (a.hour) 0 (i64.wrap (b.d.hours - 1))))) ||(!(di (a.bl) 1 1073741824))) ||(aC .arQ .bool g.2 (a.reach,a.hour)))=false->(0<=a.reach/\a.reach<c)))
@[go_sem] def iP (c:P1)(e:List Y2)(f:List ((Int×Int)×Int)×List ((Int×Int)×Bool))(g:Nat)(h:Unit):Unit⊕Unit:=letI a:=e.getD g default;letI b:=c.d.reaches.getD (Int.toNat (a.reach)) default;(bif(((decide (a.wanted<=0)) ||(a.wanted !=(aC .arQ .int f.1 (a.reach,(i64.wrap (a.hour+b.delay)))))) ||((a.bl !=b.arR)&&(decide ((gS b (i64.wrap (a.bl - 1))).1>=a.wanted))))then .inl ()else .inr ())
def jF (c:P1)(a:List Y2)(e:List ((Int×Int)×Int)×List ((Int×Int)×Bool))(b:Nat)(f:Unit):Prop:=(0<=(a.getD b default).reach/\(a.getD b default).reach< (c.d.reaches.length:Int))
def cL (b:P1)(a:List Y2):List ((Int×Int)×Int)×Bool:=(match aj (c7 b a) a.length 0 ((bP b),[])with| .inl d=>([],false) | .inr c=>(match aj (iP b a c) a.length 0 ()with| .inl e=>([],false) | .inr f=>(c.1,true)))
def ld (b:P1)(a:List Y2):Prop:=letI c:=((bP b),[]);letI d:=c7 b a;((ip b)/\(a.length<=aI->(okI d (jE b a) a.length 0 c/\(∀ l5,aj d a.length 0 c=.inr l5->(a.length<=aI->okI (iP b a l5) (jF b a l5) a.length 0 ())))))
@[go_sem] def Ah:m0:=(pD .S1 λa=>(pR .arH λb=>(pE (.det (ld a b) (.tup [.rm .arQ .int ((cL a b).1),.v (.bool ((cL a b).2))])))))
theorem zj:X1 prog 45 Ah:=by
 have hG:=mG (cp rj (cp tj (cn [.st .S1] qJ Y1))) Y1;refine fN hG f45 [.mp .arQ .int,.o] (ax λa0=>(bG λa1=>(am (λhp=>?_))));dsimp only[an]at hp;unfold ld at hp;refine⟨nbl rfl,(λid st=>bif Nat.beq id 0 then some (LCR (ρ:=Unit) (σ:=(List ((Int×Int)×Int)×List ((Int×Int)×Bool))) 3 [] [0,1,2] (λV E=>⟨[(1,.rs .arH a1),(2,.ptr 0 0),(4,.os 1),(6,.os 2),(17,.rs .arH a1),(18,.i (a1.length:Int)),(19,.i V)],[.cells (cellsOf .S1 a0),.mp .arQ .int E.1 none,.mp .arQ .bool E.2 none]⟩) (c7 a0 a1) (jE a0 a1) a1.length ((bP a0),[]) (a1.length<=aI) (λ_=>.ret) (λu0=>⟨[(4,.v (.map none)),(5,.v (.bool false))],[.dead,.dead,.dead]⟩) st)else bif Nat.beq id 2 then some (LCR (ρ:=Unit) (σ:=Unit) 3 [] [0,1,2] (λW O=>⟨[(2,.ptr 0 0),(4,.os 1),(82,.rs .arH a1),(83,.i (a1.length:Int)),(84,.i W)],[.cells (cellsOf .S1 a0),.mp .arQ .int (bp (aj (c7 a0 a1) a1.length 0 ((bP a0),[]))).1 none,.dead]⟩) (iP a0 a1 (bp (aj (c7 a0 a1) a1.length 0 ((bP a0),[])))) (jF a0 a1 (bp (aj (c7 a0 a1) a1.length 0 ((bP a0),[])))) a1.length () (a1.length<=aI) (λ_=>.ret) (λY=>⟨[(4,.v (.map none)),(5,.v (.bool false))],[.dead,.dead,.dead]⟩) st)else none),?_,?_⟩;unfold ae f45;simp only[ak,true_and,and_true];refine⟨?_,?_⟩;refine bu mixed aB hG kr (λ_=>rfl) (a1.length:Int) rfl fO (λhb0 V E asO X hw hc=>⟨L0,ag _,?_⟩) (λhb0 E hc=>?_);unfold jE at X;try simp only[hw,aol]at X
 exact IB (jl [0,1,2]);exact IC (jl [0,1,2]);refine bu mixed aB hG kr (λ_=>rfl) (a1.length:Int) rfl fO (λhb1 W O as6 hq1 hw hc=>⟨L0,ag _,?_⟩) (λhb1 O hc=>?_);unfold jF at hq1;try simp only[hw,aol]at hq1
 exact IB (jl [0,1,2]);exact IC (jl [0,1,2]);unfold ae f45;try unfold cL
 exact zq2
def aK (d:ah)(g:List bn)(h i j:Int):P1×Int:=letI b:=({ d:=({ name:=(ByteArray.mk #[]),hours:=0,arJ:=({ cap:=0,start:=0}:asW),reaches:=[],zs:=[],arU:=[],bh:=[],arL:=[],asl:=[]}:ah),c:=[]}:P1);letI a:=aN d g h i j;letI e:=({ d:=d,c:=a.1}:P1);letI f:=cj d (a.1);(bif(a.2 !=0)then(b,a.2)else(bif(f.2.2 !=0)then(b,f.2.2)else(bif(decide (((ay e).length:Int) > 10))then(b,2)else(e,0))))
def oS (d:ah)(b:List bn)(e f g:Int):Prop:=letI a:=aN d b e f g;((sN d b e f g)/\((a.2 !=0)=false->((mK d (a.1))/\(((cj d (a.1)).2.2 !=0)=false->(gb ({ d:=d,c:=a.1}:P1))))))
@[go_sem] def JV:m0:=(pD .al λd=>(pR .M1 λa=>(pI λb=>(pI λc=>(pI λe=>(pE (.det (oS d a b c e) (.tup [.agg (cellsOf .S1 ((aK d a b c e).1)),.i ((aK d a b c e).2)]))))))))
theorem zk:X1 prog 29 JV:=by
 have hG:=mG (cn [.st .al,.sl .M1,.o,.o,.o] Ci (cn [.st .S1] lN (cn [.st .al,.sl .W2] uY Y1))) Y1;refine fN hG f29 [.st .S1,.o] (ax λd=>(bG λO=>(aG λfr=>(aG λto=>(aG λknown=>(am (λE=>?_)))))));dsimp only[an]at E;unfold oS at E;refine⟨nbl rfl,L0,ag _,?_⟩;unfold ae f29;try unfold aK
 exact zq2
@[go_sem] def mL (c d:Int)(r:arO)(a:Nat)(b:Int):Empty⊕Int:=(bif(((r.arz.getD a default).reach==r.reach)&&(di ((r.arz.getD a default).hour) c d))then .inr (i64.wrap (b+(r.arz.getD a default).bl))else .inr b)
def jY (a b:Int)(r:arO):Int:=(match aj (mL a b r) r.arz.length 0 0 with| .inl x=>x.elim| .inr c=>c)
@[go_sem] def DZ:m0:=(pI λa=>(pI λb=>(pX .refusal λr=>(pE (.det True (.i (jY a b r)))))))
theorem qK:X1 prog 47 DZ:=by
 have hG:=mG (cp rj Y1) Y1;refine fN hG f47 [.o] (aG λfr=>(aG λto=>(ii λr=>(am (λW=>?_)))));dsimp only[an]at W;refine⟨nbl rfl,(λid st=>bif Nat.beq id 0 then some (LCR (ρ:=Empty) (σ:=Int) 0 [] [] (λO E=>⟨[(0,.i fr),(1,.i to),(2,.ep (cellsOf .refusal r) 0),(5,.i E),(9,.rs .arH r.arz),(10,.i (r.arz.length:Int)),(11,.i O)],[]⟩) (mL fr to r) pT r.arz.length 0 (r.arz.length<=aI) ((·.elim)) ((·.elim)) st)else none),?_,?_⟩;unfold ae f47;simp only[ak,true_and,and_true];refine bu mixed aB hG kr (λ_=>rfl) (r.arz.length:Int) rfl fO (λhb0 O E V _ hw hc=>⟨L0,ag _,?_⟩) (λhb0 E hc=>?_);exact bC (jl []);exact bD (jl []);unfold ae f47;try unfold jY
 exact zq2
def nP (a r:arO)(x:Reach):Bool:=(decide ((jY r.hour r.hour a) > x.cap))
@[go_sem] def D0:m0:=(pXF 47 (pX .refusal λa=>(pE ((pX .refusal λr=>(pX .reach λx=>(pE (.det True (.v (.bool (nP a r x)))))))))))
theorem CF:X1 prog 48 D0:=by
 have hG:=mG (cp qK Y1) Y1;refine fN hG f48 [.o] (BV (ii λO=>(am ((ii λr=>(ii λx=>(am (λE=>?_))))))));dsimp only[an]at E;refine⟨nbl rfl,L0,ag _,?_⟩;unfold ae f48;try unfold nP
 exact zq2
def nQ (a r:arO)(x:Reach):Bool:=(decide ((jY (i64.wrap ((i64.wrap (r.hour - x.delay))+1)) r.hour a) > x.ar6))
@[go_sem] def D1:m0:=(pXF 47 (pX .refusal λa=>(pE ((pX .refusal λr=>(pX .reach λx=>(pE (.det True (.v (.bool (nQ a r x)))))))))))
theorem CG:X1 prog 49 D1:=by
 have hG:=mG (cp qK Y1) Y1;refine fN hG f49 [.o] (BV (ii λO=>(am ((ii λr=>(ii λx=>(am (λE=>?_))))))));dsimp only[an]at E;refine⟨nbl rfl,L0,ag _,?_⟩;unfold ae f49;try unfold nQ
 exact zq2
def nR (r a:arO)(d:ah):Bool:=(((r.reach==0)&&(r.hour==0))&&(decide ((jY 0 d.hours a) > d.arJ.start)))
@[go_sem] def D2:m0:=(pX .refusal λr=>(pXF 47 (pX .refusal λa=>(pE ((pX .al λd=>(pE (.det True (.v (.bool (nR r a d)))))))))))
theorem CH:X1 prog 50 D2:=by
 have hG:=mG (cp qK Y1) Y1;refine fN hG f50 [.o] (ii λr=>(BV (ii λO=>(am ((ii λd=>(am (λE=>?_))))))));dsimp only[an]at E;refine⟨nbl rfl,L0,ag _,?_⟩;unfold ae f50;try unfold nR
 exact zq2
def nS (m:List ((Int×Int)×Int))(r:arO)(x:Reach):Bool:=(((decide ((aC .arQ .int m (r.reach,r.hour)) > 0))&&(decide (r.hour<x.delay))) ||(decide ((aC .arQ .int m (r.reach,r.hour)) > (gS x 1073741824).1)))
@[go_sem] def D3:m0:=(pXM .arQ .int λm=>(pX .refusal λr=>(pX .reach λx=>(pE (.det True (.v (.bool (nS m r x))))))))
theorem CI:X1 prog 51 D3:=by
 have hG:=mG (cp tj Y1) Y1;refine fN hG f51 [.o] (Mf λm=>(ii λr=>(ii λx=>(am (λE=>?_)))));dsimp only[an]at E;refine⟨nbl rfl,L0,ag _,?_⟩;unfold ae f51;try unfold nS
 exact zq2
@[go_sem] def eU (d:ah)(e:List bn)(f g h:Int)(b:arO)(a:Nat)(i:Unit):Unit⊕Unit:=letI c:=b.bh.getD a 0;(bif((!(eE (ay ((aK d e f g h).1)) c)) ||((decide ((a:Int) > 0))&&(decide (c<=(b.bh.getD (Int.toNat (i64.wrap ((a:Int) - 1))) 0)))))then .inl ()else .inr ())
def mM (d:ah)(e:List bn)(f g h:Int)(b:arO)(a:Nat)(i:Unit):Prop:=letI c:=i64.wrap ((a:Int) - 1);((!(eE (ay ((aK d e f g h).1)) (b.bh.getD a 0)))=false->((decide ((a:Int) > 0))=true->(0<=c/\c< (b.bh.length:Int))))
@[go_sem] def jo (b:ah)(e:List bn)(f g h:Int)(a:arO)(c:Nat)(i:Unit):Bool⊕Unit:=letI d:=b.reaches.getD (Int.toNat a.reach) default;(bif(Nat.beq c 0)then(bif(1==a.kind)then .inl (nP a a d)else .inr ())else(bif(Nat.beq c 1)then(bif(3==a.kind)then .inl (nQ a a d)else .inr ())else(bif(Nat.beq c 2)then(bif(4==a.kind)then .inl (nR a a b)else .inr ())else(bif(7==a.kind)then .inl (nS ((cL (dw ((aK b e f g h).1) a.bh) a.arz).1) a d)else .inr ()))))
def vI (a:ah)(b:List bn)(c d e:Int)(f:arO)(g:Nat)(h:Unit):Prop:=True
def bS (b:ah)(c:List bn)(d e f:Int)(a:arO):Bool×Int:=letI g:=aK b c d e f;(bif(g.2 !=0)then(false,g.2)else(match aj (eU b c d e f a) a.bh.length 0 ()with| .inl i=>(false,290) | .inr j=>(bif(((!(cL (dw (g.1) a.bh) a.arz).2) ||(!(di a.reach 0 (i64.wrap ((b.reaches.length:Int) - 1))))) ||(!(di a.hour 0 (i64.wrap (b.hours - 1)))))then(false,0)else(match aj (jo b c d e f a) 4 0 ()with| .inl h=>(h,0) | .inr k=>(false,0)))))
def iQ (b:ah)(c:List bn)(d e f:Int)(a:arO):Prop:=letI g:=aK b c d e f;letI h:=eU b c d e f a;letI i:=dw (g.1) a.bh;letI j:=(b.reaches.length:Int);((oS b c d e f)/\((g.2 !=0)=false->((gb (g.1))/\(a.bh.length<=aI->(okI h (mM b c d e f a) a.bh.length 0 ()/\(∀ l5,aj h a.bh.length 0 ()=.inr l5->((kA (g.1) a.bh)/\((ld i a.arz)/\((((!(cL i a.arz).2) ||(!(di a.reach 0 (i64.wrap (j - 1))))) ||(!(di a.hour 0 (i64.wrap (b.hours - 1)))))=false->(0<=a.reach/\a.reach<j))))))))))
@[go_sem] def ID:m0:=(pD .al λa=>(pR .M1 λb=>(pI λc=>(pI λd=>(pI λe=>(pD .refusal λf=>(pE (.det (iQ a b c d e f) (.tup [.v (.bool ((bS a b c d e f).1)),.i ((bS a b c d e f).2)])))))))))
theorem xZ:X1 prog 15 ID:=by
 have hG:=mG (cn [.st .al,.sl .M1,.o,.o,.o] zk (cn [.st .S1] lN (cn [.st .S1,.sl .int] uD (cn [.sl .int,.o] nr (cn [.st .S1,.sl .arH] zj (cp rj (cp CF (cp CG (cp CH (cp CI Y1)))))))))) Y1;refine fN hG f15 [.o,.o] (ax λa0=>(bG λa1=>(aG λW=>(aG λV=>(aG λX=>(ax λE=>(am (λhp=>?_))))))));dsimp only[an]at hp;unfold iQ at hp;refine⟨nbl rfl,(λid st=>bif Nat.beq id 0 then some (LCR (ρ:=Unit) (σ:=Unit) 3 [] [0,1,2] (λk_0 l5=>⟨[(6,.ptr 0 0),(11,.ptr 1 0),(14,.ptr 2 0),(15,.rs .int (ay ((aK a0 a1 W V X).1))),(40,.rs .int E.bh),(41,.i (E.bh.length:Int)),(42,.i k_0)],[.cells (cellsOf .al a0),.cells (cellsOf .refusal E),.cells (cellsOf .S1 ((aK a0 a1 W V X).1))]⟩) (eU a0 a1 W V X E) (mM a0 a1 W V X E) E.bh.length () (E.bh.length<=aI) (λ_=>.ret) (λu0=>⟨[(12,.v (.bool false)),(13,.i 290)],[.dead,.dead,.dead]⟩) st)else bif Nat.beq id 2 then some (LC (ρ:=Bool) (σ:=Unit) (lk 11 st.t=.ptr 1 0/\lk 113 st.t=.ls 2 [.i 1,.fn 48 [] [.ptr 5 0,.ptr 1 0,.ptr 4 0],.i 3,.fn 49 [] [.ptr 5 0,.ptr 1 0,.ptr 4 0],.i 4,.fn 50 [] [.ptr 1 0,.ptr 5 0,.ptr 0 0],.i 7,.fn 51 [] [.ptr 3 0,.ptr 1 0,.ptr 4 0]]/\lk 114 st.t=.i 4/\lk 115 st.t=.i 0/\st.h=[.cells (cellsOf .al a0),.cells (cellsOf .refusal E),.cells (cellsOf .S1 ((aK a0 a1 W V X).1)),.cells [.rm .arQ .int ((cL (dw ((aK a0 a1 W V X).1) E.bh) E.arz).1)],.cells (cellsOf .reach (a0.reaches.getD (Int.toNat E.reach) (default:Reach))),.cells [.fn 47 [] [.ptr 1 0]]]) (aj (jo a0 a1 W V X E) 4 0 ()) (λ_=>.ret) (λY=>⟨[(12,.v (.bool Y)),(13,.i 0)],[.dead,.dead,.dead,.dead,.dead,.dead]⟩) (λs_1=>⟨[],[.dead,.dead,.dead,.dead,.dead,.dead]⟩))else none),?_,?_⟩
 ·unfold ae f15;simp only[ak,true_and,and_true];refine⟨?_,?_⟩;refine bu mixed aB hG kr (λ_=>rfl) (E.bh.length:Int) rfl fO (λhb0 k_0 l5 asO hq0 hw hc=>⟨L0,ag _,?_⟩) (λhb0 l5 hc=>?_);unfold mM at hq0;try simp only[hw,aol]at hq0
  exact bC (jl [0,1,2]);exact bD (jl [0,1,2])
  ·refine Ky mixed aB hG kr λst lc hC hp=>?_;simp only[go_sem,Nat.reduceBEq,aoo]at hC;subst hC;obtain⟨t,h⟩:=st;dsimp only[LC]at hp;obtain⟨e1_0,e1_1,e1_2,e1_3,rfl⟩:=hp;refine⟨_,_,_,(jo a0 a1 W V X E),(vI a0 a1 W V X E),4,(),_,_,_,(λO s_1=>⟨[(11,.ptr 1 0),(113,.ls 2 [.i 1,.fn 48 [] [.ptr 5 0,.ptr 1 0,.ptr 4 0],.i 3,.fn 49 [] [.ptr 5 0,.ptr 1 0,.ptr 4 0],.i 4,.fn 50 [] [.ptr 1 0,.ptr 5 0,.ptr 0 0],.i 7,.fn 51 [] [.ptr 3 0,.ptr 1 0,.ptr 4 0]]),(114,.i 4),(115,.i O)],[.cells (cellsOf .al a0),.cells (cellsOf .refusal E),.dead,.cells [.rm .arQ .int ((cL (dw ((aK a0 a1 W V X).1) E.bh) E.arz).1)],.cells (cellsOf .reach (a0.reaches.getD (Int.toNat E.reach) (default:Reach))),.cells [.fn 47 [] [.ptr 1 0]]]⟩),⟨t,[.cells (cellsOf .al a0),.cells (cellsOf .refusal E),.cells (cellsOf .S1 ((aK a0 a1 W V X).1)),.cells [.rm .arQ .int ((cL (dw ((aK a0 a1 W V X).1) E.bh) E.arz).1)],.cells (cellsOf .reach (a0.reaches.getD (Int.toNat E.reach) (default:Reach))),.cells [.fn 47 [] [.ptr 1 0]]]⟩,[0,1,2,3,4,5],rfl,iA _ _ _ λ_ _ _ _=>trivial,asv.refl _,nbl rfl,?_,λO s_1 hk1 hp1=>?_⟩
   ·simp only[go_sem,e1_0,e1_1,e1_2,e1_3];all_goals (first|done|decide|(repeat' (first|refine And.intro ?_ ?_|rfl|decide)))
   refine⟨L0,?_,?_⟩;simp only[ak,and_self,true_and,and_true]
   ·have hkk:O=0\/O=1\/O=2\/O=3\/O=4:=g5
    have hw1_0:i64.wrap ((0:Int)+1)=((0+1:Nat):Int):=by decide
    have hw1_1:i64.wrap ((1:Int)+1)=((1+1:Nat):Int):=by decide
    have hw1_2:i64.wrap ((2:Int)+1)=((2+1:Nat):Int):=by decide
    have hw1_3:i64.wrap ((3:Int)+1)=((3+1:Nat):Int):=by decide
    rcases hkk with rfl|rfl|rfl|rfl|rfl;all_goals try (have hq1:=hp1 (by decide))
    all_goals try unfold vI at hq1
    all_goals try simp only[go_sem,Nat.reduceBEq,Nat.reduceEqDiff,cond_true,cond_false,true_imp_iff,false_imp_iff,aot,true_and,and_true,reduceCtorEq]at hq1
    all_goals simp only[go_sem,jo,aqO,Nat.reduceLT,Nat.reduceEqDiff]
    all_goals exact uz (jl [0,1,2,3,4,5])
 unfold ae f15;try unfold bS
 exact zq2
def jG (b:Y2)(a:B1)(f:List Reach):Bool:=letI c:=f.getD (Int.toNat b.reach) default;letI d:=b.reach==a.index;letI e:=b.hour==a.hour;(bif(a.kind==1)then(d&&e)else(bif(a.kind==3)then((d&&(decide (b.hour<=a.hour)))&&(decide (b.hour > (i64.wrap (a.hour - c.delay)))))else(bif(a.kind==4)then(b.reach==0)else((c.up==a.index)&&e))))
def kT (b:Y2)(a:B1)(d:List Reach):Prop:=letI c:=0<=b.reach/\b.reach< (d.length:Int);((a.kind==1)=false->(((a.kind==3)=true->(((b.reach==a.index)&&(decide (b.hour<=a.hour)))=true->c))/\((a.kind==3)=false->((a.kind==4)=false->c))))
@[go_sem] noncomputable def vT:m0:=(pD .arH λa0=>(pX .fault λf_=>(pXR .reach λrs_=>(pE (.det (kT a0 f_ rs_) (.v (.bool (jG a0 f_ rs_))))))))
theorem va:X1 prog 77 vT:=by
 have hG:=mG Y1 Y1;refine fN hG f77 [.o] (ax λa0=>(ii λV=>(xb λO=>(am (λE=>?_)))));dsimp only[an]at E;unfold kT at E;refine⟨nbl rfl,L0,ag _,?_⟩;unfold ae f77;try unfold jG
 exact zq2
def ca (a b:Y2):Int:=(kQ ([(bv b.reach a.reach),(bv a.hour b.hour)]))
@[go_sem] def oT:m0:=(pD .arH λa=>(pD .arH λb=>(pE (.det True (.i (ca a b))))))
theorem vb:X1 prog 80 oT:=by
 have hG:=mG (cn [.sl .int] Av (cp fA Y1)) Y1;refine fN hG f80 [.o] (ax λa=>(ax λb=>(am (λE=>?_))));dsimp only[an]at E;refine⟨nbl rfl,L0,ag _,?_⟩;unfold ae f80;try unfold ca
 exact zq2
@[go_sem] def xC (x:Int×Y2):List SV:=[.i x.1,.agg (cellsOf .arH x.2)]
@[go_sem] def mW:m0:=(pR .arH λa=>(pE (.det True (.fn 135 [] [.ep [.rs .arH a] 0]))))
theorem mC:X1 prog 78 mW:=by
 have hG:=mG Y1 Y1;refine fN hG f78 [.o] (bG λE=>(am (λO=>?_)));refine⟨nbl rfl,L0,ag _,?_⟩;unfold ae f78;simp only[go_sem,sq,sr,Nat.reduceBEq,Nat.reduceLeDiff,Nat.reduceAdd,Nat.reduceSub,Nat.reduceMul]
@[go_sem] def aM (b:List Y2)(c:Nat)(a:List (Int×Y2)×Int):(List (Int×Y2))⊕(List (Int×Y2)×Int):=(bif(decide (a.2>=0))then .inr ((a.1++[(a.2,(b.getD (Int.toNat a.2) default))]),(i64.wrap (a.2 - 1)))else .inl a.1)
def ci (b:List Y2)(c:List (List SV))(d:Nat)(a:List (Int×Y2)×Int):Prop:=((decide (a.2>=0))=true->((0<=a.2/\a.2< (b.length:Int))/\(c[a.1.length]? =some (xC (a.2,(b.getD (Int.toNat a.2) default))))))
def aH (a:List Y2):List (Int×Y2):=(match aj (aM a) (a.length+1) 0 (([]:List (Int×Y2)),(i64.wrap ((a.length:Int) - 1)))with| .inl b=>b| .inr c=>default)
def cC (a:List Y2)(e:List (List SV)):Prop:=letI b:=(([]:List (Int×Y2)),(i64.wrap ((a.length:Int) - 1)));letI c:=aM a;letI d:=a.length+1;(a.length<=aI->(okI c (ci a e) d 0 b/\(∀ z_,aj c d 0 b≠ .inr z_)/\(∀ u0,aj c d 0 b=.inl u0->(e.length=u0.length))))
theorem lU (O:List Y2)(E:List (List SV))(hp:cC O E):AQ prog 135 (λy=>[y,.ep [.rs .arH O] 0]) [] E:=by
 unfold cC at hp;refine Df mixed aB (fn:=f135) (c:=ae f135) kr kr kr kr rfl (n:=0) rfl (G:=λX=>AS [] [] (ER E X)) (λX hy=>?_) (λargs w=>by kernel_rfl);have hG:=mGY Y1 Y1 hy;refine⟨hG,nbl rfl,(λid st=>bif Nat.beq id 0 then some (abj (ρ:=(List (Int×Y2))) (σ:=(List (Int×Y2)×Int)) 1 [] [0] (λY W=>⟨[(0,.os 0),(1,.ep [.rs .arH O] 0),(3,.i W.2)],[.ab (X.1 (W.1.length+1))]⟩) (aM O) (ci O E) (O.length+1) (([]:List (Int×Y2)),(i64.wrap ((O.length:Int) - 1))) (λ_=>.normal) (λV=>⟨[],[.ab (X.1 (V.length+1))]⟩) ⟨[],[.ab (X.1 0)]⟩ st)else none),?_,?_⟩;unfold ae f135;simp only[ak,true_and,and_true];refine KA mixed aB hG kr (λ_=>rfl) λY W hq0=>⟨L0,ag _,?_⟩;unfold ci at hq0;exact O_ (jl [0]);unfold ae f135;exact O_ (jl [0])
end Go.Sx
end
section
namespace Go.Proofs
open Go.Shelf Go.Sx
def Tryz.atx:Go.Shelf.Ren:=⟨λ|6=>79|15=>133|14=>136|28=>199|29=>200|20=>201|21=>202|22=>203|23=>204|24=>205|25=>206|26=>207|27=>208|46=>264|47=>260|48=>261|49=>265|50=>266|57=>307|n=>n,λ|22=>36|24=>75|25=>150|3=>3|39=>229|0=>0|53=>294|55=>296|4=>4|46=>288|45=>287|50=>267|5=>5|9=>9|66=>342|70=>60|76=>375|77=>376|n=>n,λ|n=>n⟩
theorem Tryz.aub:Go.Proofs.SlLaysF0.n6 Tryz.prog Tryz.atx:=⟨kr,⟨Tryz.f79.name,by decide,kr⟩,⟨Tryz.f136.name,by decide,kr⟩,kr,⟨Tryz.f201.name,by decide,kr⟩,⟨Tryz.f202.name,by decide,kr⟩,⟨Tryz.f203.name,by decide,kr⟩,⟨Tryz.f204.name,by decide,kr⟩,⟨Tryz.f205.name,by decide,kr⟩,⟨Tryz.f206.name,by decide,kr⟩,⟨Tryz.f207.name,by decide,kr⟩,⟨Tryz.f208.name,by decide,kr⟩,kr,kr,⟨Tryz.f264.name,by decide,kr⟩,kr,kr,⟨Tryz.f265.name,by decide,kr⟩,⟨Tryz.f266.name,by decide,kr⟩,⟨Tryz.f307.name,by decide,kr⟩,kr,λ_=>kr,λ_=>kr,λ_=>kr,kr,λ_=>kr,λ_=>kr,λ_=>kr,kr,λ_=>kr,λ_=>kr,λ_=>kr,kr,λ_=>kr,λ_=>kr,λ_=>kr,kr,λ_=>kr,λ_=>kr,λ_=>kr,kr,λ_=>kr,λ_=>kr,λ_=>kr,kr,λ_=>kr,λ_=>kr,λ_=>kr,kr,λ_=>kr,λ_=>kr,λ_=>kr,kr,λ_=>kr,λ_=>kr,λ_=>kr,kr,λ_=>kr,λ_=>kr,λ_=>kr,kr,λ_=>kr,λ_=>kr,λ_=>kr,kr,λ_=>kr,λ_=>kr,λ_=>kr,kr,λ_=>kr,λ_=>kr,λ_=>kr,kr,λ_=>kr,λ_=>kr,λ_=>kr,kr,λ_=>kr,λ_=>kr,λ_=>kr,kr,λ_=>kr,λ_=>kr,λ_=>kr,kr,λ_=>kr,λ_=>kr,λ_=>kr⟩
end Go.Proofs
end
section
namespace Go.Sx
open Go.Lib Go.Proofs Go.RowKit Go.Shelf Go.Sort Tryz
def plt (a b:Y2):Prop:=pO [(b.reach,a.reach),(a.hour,b.hour)]
def Lf (a b:Y2):ca a b<0↔plt a b:=Dx [(b.reach,a.reach),(a.hour,b.hour)]
def IE:SWO (ltOf ca):=Mz Lf (λx=>by simp only[plt,pO,and_false,or_false];omega) (λx y z h1 h2=>by simp only[plt,pO,and_false,or_false]at *;omega) (λx y z h1 h2=>by simp only[plt,pO,and_false,or_false]at *;omega)
noncomputable def EE:List SV->List Ob->Option arV:=jR .arH 80 [] ca
@[go_sem]def Zz {a:List Y2}:EE [.os 0,.fn 80 [] []] [.row .arH a]=some (fM (apart ca a) (.tup []) [.row .arH (srt ca a)]):=oF
def Nq:yQ .arH:=λx s E=>by
 simp only[cellsOf,aoD,apn,or_false]at E;rcases E with rfl|rfl|rfl|rfl;all_goals exact⟨_,rfl,rfl⟩
def IF (x y:Y2):oT (.agg (cellsOf .arH x):: .agg (cellsOf .arH y)::[])=some (.det True (.i (ca x y))):=by
 simp only[go_sem]
def Nr:arT prog 79 EE:=
 su (k:=.arH) Tryz.aub (λw=>by kernel_rfl) (λw=>by kernel_rfl) Nq (by decide) (g:=80) (caps:=[]) vb (cf:=ca) IF IE (λs E=>by cases E) ⟨default,default,IF _ _⟩
end Go.Sx
end
section
namespace Go.Sx
open Go.Proofs Tryz
open IntKind (i64)
@[go_sem] def dN (c:P1)(g:List Y2)(f:B1)(a:Int×Y2)(b:List ((Int×Int)×Bool)×List Y2):Empty⊕(List ((Int×Int)×Bool)×List Y2):=letI e:=c.d.reaches.getD (Int.toNat a.2.reach) default;(bif((jG a.2 f c.d.reaches) ||(aC .arQ .bool b.1 (e.up,a.2.hour)))then .inr ((dF .arQ .bool b.1 (a.2.reach,(i64.wrap (a.2.hour+e.delay))) true),(b.2++([a.2])))else .inr (b.1,b.2))
def fV (b:P1)(h:List Y2)(f:B1)(a:Int×Y2)(c:List ((Int×Int)×Bool)×List Y2):Prop:=letI e:=0<=a.2.reach/\a.2.reach< (b.d.reaches.length:Int);letI g:=jG a.2 f b.d.reaches;((kT a.2 f b.d.reaches)/\((g=false->e)/\((g||(aC .arQ .bool c.1 ((b.d.reaches.getD (Int.toNat a.2.reach) default).up,a.2.hour)))=true->(e/\((c.2++([a.2])).length*32<=dT)))))
def gD (b:P1)(a:List Y2)(f:B1):List Y2:=(match cG (dN b a f) (aH a) ([],[])with| .inl x=>x.elim| .inr c=>(srt ca c.2))
def jH (c:P1)(a:List Y2)(f:B1):Prop:=letI b:=aH a;letI d:=dN c a f;((cC a (b.map xC))/\okL d (fV c a f) b ([],[])/\(∀ l5,cG d b ([],[])=.inr l5->(apart ca l5.2)))
@[go_sem] def xD:m0:=(pD .S1 λa=>(pR .arH λb=>(pD .fault λf=>(pE (.det (jH a b f) (.nw .arH (gD a b f)))))))
def akZ {p:Prop}(h:p:=by simp only[go_sem,e0_0,e0_1,e0_2,e0_3,e0_4,e0_5]):p:=h
def ak0 {l0 l1:List Nat}(a0:JL l0)(a1:JL l1){p:Prop}(h:JL l0->JL l1->p:=by intro ja jb;simp only[go_sem,dN,psT,xC,aoJ,aos];all_goals exact fU ja jb):p:=h a0 a1
def wO:X1 prog 35 xD:=by
 have hG:=mG (cp va (cn [.sl .arH] mC Y1)) (co Nr Y1);refine fE hG f35 (ax λO=>(bG λV=>(ax λf=>(am (λW=>?_)))));dsimp only[an]at W;unfold jH at W;refine⟨nbl rfl,(λid st=>bif Nat.beq id 0 then some (LC (ρ:=Empty) (σ:=List ((Int×Int)×Bool)×List Y2) (lk 6 st.t=.v (.slice none 0 0)/\lk 7 st.t=.ptr 2 0/\lk 8 st.t=.ptr 3 0/\lk 9 st.t=.ptr 5 0/\lk 10 st.t=.ptr 6 0/\lk 19 st.t=.fn 135 [] [.ep [.rs .arH V] 0]/\st.h=[.cells (cellsOf .S1 O),.cells (cellsOf .fault f),.cells [.rs .reach O.d.reaches],.cells [.fn 77 [] [.ptr 1 0,.ptr 2 0]],.mp .arQ .bool ([]) none,.cells [.os 4],.cells [.v (.slice none 0 0)]]/\cC V ((aH V).map xC)/\okL (dN O V f) (fV O V f) (aH V) ([],[])) (cG (dN O V f) (aH V) ([],[])) (λx=>x.elim) (λx=>x.elim) (λE=>⟨[(6,.v (.slice none 0 0)),(7,.ptr 2 0),(8,.ptr 3 0),(9,.ptr 5 0),(10,.ptr 6 0)],[.dead,.cells (cellsOf .fault f),.cells [.rs .reach O.d.reaches],.cells [.fn 77 [] [.ptr 1 0,.ptr 2 0]],.mp .arQ .bool E.1 none,.cells [.os 4],.cells [.os 8],.dead,.row .arH E.2]⟩))else none),?_,?_⟩
 ·unfold ae f35;simp only[ak,true_and,and_true]
  ·refine AU mixed aB hG (by decide) (by decide) kr kr λst lc hC W=>?_;simp only[go_sem,Nat.reduceBEq,aoo]at hC;subst hC;obtain⟨t,h⟩:=st;dsimp only[LC]at W;obtain⟨e0_0,e0_1,e0_2,e0_3,e0_4,e0_5,rfl,hb0,X⟩:=W;refine⟨⟨t,[.cells (cellsOf .S1 O),.cells (cellsOf .fault f),.cells [.rs .reach O.d.reaches],.cells [.fn 77 [] [.ptr 1 0,.ptr 2 0]],.mp .arQ .bool ([]) none,.cells [.os 4],.cells [.os 7],.row .arH ([])]⟩,asv.cell (h:=[.cells (cellsOf .S1 O),.cells (cellsOf .fault f),.cells [.rs .reach O.d.reaches],.cells [.fn 77 [] [.ptr 1 0,.ptr 2 0]],.mp .arQ .bool ([]) none,.cells [.os 4],.cells [.v (.slice none 0 0)]]) (i:=6) (j:=0) (.row .arH ([])) (asv.refl _) rfl rfl (.inl ⟨_,rfl⟩),135,[.ep [.rs .arH V] 0],Int×Y2,_,_,(aH V),xC,(dN O V f),(fV O V f),_,([],[]),_,_,_,[(6,.v (.slice none 0 0)),(7,.ptr 2 0),(8,.ptr 3 0),(9,.ptr 5 0),(10,.ptr 6 0)],(λE=>[.dead,.cells (cellsOf .fault f),.cells [.rs .reach O.d.reaches],.cells [.fn 77 [] [.ptr 1 0,.ptr 2 0]],.mp .arQ .bool E.1 none,.cells [.os 4],.cells [.os 8],.dead,.row .arH E.2]),(λx=>x.elim),[0,1,2,3,4,5,6,7,7],?_,rfl,X,nbl rfl,?_,lU V _ hb0,λz_0 E Y=>⟨rfl,L0,λl=>?_,λl=>?_,?_⟩,λE=>?_,λy=>?_⟩;exact akZ
   ·simp only[go_sem,sp,kg,aoF,apf,aos,aoC,aoZ,e0_0,e0_1,e0_2,e0_3,e0_4,e0_5];all_goals (first|done|decide|(repeat' (first|refine And.intro ?_ ?_|rfl|decide)))
   simp only[ak,and_self,true_and,and_true];simp only[ak,and_self,true_and,and_true];unfold fV at Y;exact ak0 (jl [0,1,2,3,4,5,6,7,11]) (jl [0,1,2,3,4,5,6,7,8]);exact sI (jl [0,1,2,3,4,5,6,7,11]) (jl [0,1,2,3,4,5,6,7,8]);exact sI (jl [0,1,2,3,4,5,6,7,11]) (jl [0,1,2,3,4,5,6,7,8])
 unfold ae f35;try unfold gD
 exact zq2
end Go.Sx
end
section
namespace Go.Sx
def auR {p:Prop}(h:p:=by(first|done|(repeat' (first|with_reducible refine And.intro ?_ ?_|with_reducible intro _)) <;>(first|done|with_reducible assumption|(exfalso;simp_all only[ne_eq];done) |exact cl))):p:=h
end Go.Sx
end
