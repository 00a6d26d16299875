/- Part of the proof that the law RefuseHolds returns true and leaves its arguments as they were, for all arguments of bulk at most 1048576 (the Upto form). -/
import Derived.Test.YtaikmgjfkejlkaaGreatH109
import Derived.Test.YtaikmgjfkejlkaaGreatH108
import Derived.Test.YtaikmgjfkejlkaaGreatH107
set_option linter.all false
set_option maxHeartbeats 4000000
set_option maxRecDepth 100000
section
namespace Go.Sx
open Go.Proofs Tryz
open IntKind (i64 u64)
variable {l E:List bn}
theorem akE{c1 X W:Bool}(O V:List bn->List bn):
  (bif c1 then(bif X then(bif W then V (O E)else O E)else(bif W then V E else E))else(bif X then(bif W then V (O l)else O l)else(bif W then V l else l)))=(bif W then V (bif X then O (bif c1 then E else l)else(bif c1 then E else l))else(bif X then O (bif c1 then E else l)else(bif c1 then E else l))):=by
 grind
def afT{c1 O V:Bool}{rp:Prop}(Y:List bn->List bn)(X W:List bn->Prop)(h1:c1=true->rp)(h2:O=true->X (bif c1 then E else l))(h3:V=true->W (bif O then Y (bif c1 then E else l)else(bif c1 then E else l))):
  ((c1=true->(rp/\((O=true->(X E/\(V=true->W (Y E))))/\(O=false->V=true->W E))))/\(c1=false->((O=true->(X l/\(V=true->W (Y l))))/\(O=false->V=true->W l)))):=by
 grind
theorem R9 {N:Nat}{O:Int->Int->Int->List bn->List bn}{E:Int->Int->Int->List bn->Prop}(hr:adn N O E)(A U V C:List bn)(hU2:2<=U.length)(hV2:2<=V.length)(hN:U.length+V.length<=N+1)(hl:(A++U++V++C).length<2 ^ 60)(hU:Srt U)(hV:Srt V):
  xe O E (A.length:Int) ((A.length+U.length:Nat):Int) ((A.length+U.length+V.length:Nat):Int) (A++U++V++C)/\
  ∃ M,Mq O E (A.length:Int) ((A.length+U.length:Nat):Int) ((A.length+U.length+V.length:Nat):Int) (A++U++V++C)=A++M++C/\arG (U++V) M/\Srt M/\M.length=U.length+V.length:=by
 have hL:(A++U++V++C).length=A.length+U.length+V.length+C.length:=g6
 have gU:∀ h,A.length<=h->h<A.length+U.length->(A++U++V++C).getD h default=U.getD (h - A.length) default:=λh h1 h2=>by
  grind
 have gV:∀ h,A.length+U.length<=h->h<A.length+U.length+V.length->(A++U++V++C).getD h default=V.getD (h - (A.length+U.length)) default:=λh h1 h2=>by
  grind
 have Y:i64.wrap (ol .u64 (u64.wrap (i64.wrap ((A.length:Int)+((A.length+U.length+V.length:Nat):Int)))) 1)=((A.length+(U.length+V.length) / 2:Nat):Int):=by
  rw[TJ g5 g5];omega
 generalize hmd:A.length+(U.length+V.length) / 2=mid at *;have hn:i64.wrap ((mid:Int)+((A.length+U.length:Nat):Int))=((mid+(A.length+U.length):Nat):Int):=by grind [aw]
 have hp1:i64.wrap (((mid+(A.length+U.length):Nat):Int) - 1)=((mid+(A.length+U.length) - 1:Nat):Int):=by grind [aw]
 have w1:i64.wrap (((A.length+U.length:Nat):Int) - (A.length:Int))=(U.length:Int):=by grind [aw]
 have w2:i64.wrap (((A.length+U.length+V.length:Nat):Int) - ((A.length+U.length:Nat):Int))=(V.length:Int):=by grind [aw]
 have b1:((U.length:Int) ==1)=false:=by simp;omega
 have b2:((V.length:Int) ==1)=false:=by simp;omega
 obtain⟨lo,elo,hlo⟩:∃ lo:Nat,(bif decide (((A.length+U.length:Nat):Int) > (mid:Int))then i64.wrap (((mid+(A.length+U.length):Nat):Int) - ((A.length+U.length+V.length:Nat):Int))else(A.length:Int))=(lo:Int)/\((mid<A.length+U.length/\lo+V.length=mid)\/(A.length+U.length<=mid/\lo=A.length)):=by
  by_cases h:mid<A.length+U.length
  refine⟨mid - V.length,?_,.inl ⟨h,g5⟩⟩;rw[decide_eq_true g5,cond_true,aw g5 g5];omega;grind
 obtain⟨hi,ehi,hhi⟩:∃ hi:Nat,(bif decide (((A.length+U.length:Nat):Int) > (mid:Int))then(mid:Int)else((A.length+U.length:Nat):Int))=(hi:Int)/\((mid<A.length+U.length/\hi=mid)\/(A.length+U.length<=mid/\hi=A.length+U.length)):=by
  grind
 have s:=RZ (step:=zD (A.length:Int) ((A.length+U.length:Nat):Int) ((A.length+U.length+V.length:Nat):Int) (A++U++V++C)) (p:=t5 (A.length:Int) ((A.length+U.length:Nat):Int) ((A.length+U.length+V.length:Nat):Int) (A++U++V++C)) (λc=>!decide ((V.getD (mid - 1 - c) default).at_< (U.getD (c - A.length) default).at_)) lo hi g5
  (λi j h1 h2 h3 h4=>by
   have q1:=sH hU (i:=i - A.length) (j:=j - A.length) g5 g5;have q2:=sH hV (i:=mid - 1 - j) (j:=mid - 1 - i) g5 g5;grind)
  (λk i j h1 h2 h3=>by
   have e:decide ((i:Int) < (j:Int))=true:=g6
   have hc:i64.wrap (((mid+(A.length+U.length) - 1:Nat):Int) - (((i+j) / 2:Nat):Int))=((mid+(A.length+U.length) - 1 - (i+j) / 2:Nat):Int):=by grind [aw]
   have e2:mid+(A.length+U.length) - 1 - (i+j) / 2 - (A.length+U.length)=mid - 1 - (i+j) / 2:=g5
   unfold t5 zD;simp only[Y,hn,hp1,TJ (i:=i) (j:=j) g5 g5,e,cond_true,hc,aol,gU ((i+j) / 2) g5 g5,gV (mid+(A.length+U.length) - 1 - (i+j) / 2) g5 g5,e2,TH,hL];grind [aw])
  (λk i=>by
   simp_all [t5,zD]) ((A++U++V++C).length+1) 0 g5
 obtain⟨s1,r,s2,q,rfl,q1,q2,q3,q4⟩:=s;have X:i64.wrap (((mid+(A.length+U.length):Nat):Int) - (q:Int))=((mid+(A.length+U.length) - q:Nat):Int):=by grind [aw]
 have hUs:U.take (q - A.length)++U.drop (q - A.length)=U:=apr _ _;have hVs:V.take (mid - q)++V.drop (mid - q)=V:=apr _ _;have lU1:(U.take (q - A.length)).length=q - A.length:=by rw[aph];omega
 have lU2:(U.drop (q - A.length)).length=A.length+U.length - q:=by rw[apB];omega
 have lV1:(V.take (mid - q)).length=mid - q:=by rw[aph];omega
 have lV2:(V.drop (mid - q)).length=V.length+q - mid:=by rw[apB];omega
 have k1:∀ x∈U.take (q - A.length),∀ y∈V.drop (mid - q),x.at_<=y.at_:=λx hx y hy=>by
  obtain⟨i,i1,i2,rfl⟩:=B_ hx;obtain⟨j,j1,j2,rfl⟩:=Ca hy;have:=q3 (q - 1) g5 g5;have p1:=sH hU (i:=i) (j:=q - 1 - A.length) g5 g5;have p2:=sH hV (i:=mid - 1 - (q - 1)) (j:=j) g5 g5;grind
 have k2:∀ x∈U.drop (q - A.length),∀ y∈V.take (mid - q),y.at_<x.at_:=λx hx y hy=>by
  obtain⟨i,i1,i2,rfl⟩:=Ca hx;obtain⟨j,j1,j2,rfl⟩:=B_ hy;have:=q4 q g5 g5;have p1:=sH hU (i:=q - A.length) (j:=i) g5 g5;have p2:=sH hV (i:=j) (j:=mid - 1 - q) g5 g5;grind
 generalize hE1:U.take (q - A.length)=U1 at *;generalize hE2:U.drop (q - A.length)=U2 at *;generalize hE3:V.take (mid - q)=V1 at *;generalize hE4:V.drop (mid - q)=V2 at *;have lenU:U.length=U1.length+U2.length:=g6
 have lenV:V.length=V1.length+V2.length:=g5
 have hlist:A++U++V++C=A++U1++U2++V1++(V2++C):=g6
 obtain⟨sU1,sU2,sU⟩:=FH (by grind:Srt (U1++U2));obtain⟨sV1,sV2,sV⟩:=FH (by grind:Srt (V1++V2));have hrot:(decide ((q:Int) < ((A.length+U.length:Nat):Int))&&decide (((A.length+U.length:Nat):Int) < ((mid+(A.length+U.length) - q:Nat):Int)))=true->b8 (q:Int) ((A.length+U.length:Nat):Int) ((mid+(A.length+U.length) - q:Nat):Int) (A++U++V++C)/\aJ (q:Int) ((A.length+U.length:Nat):Int) ((mid+(A.length+U.length) - q:Nat):Int) (A++U++V++C)=A++U1++V1++(U2++V2++C):=λh=>by
  simp only[aoj,decide_eq_true_eq]at h;have:=Vh (A++U1) U2 V1 (V2++C) g6 (by rw[<-ao8];omega) g6;have e1:(((A++U1).length:Nat):Int)=(q:Int):=g6
  have e2:(((A++U1).length+U2.length:Nat):Int)=((A.length+U.length:Nat):Int):=g5
  have e3:(((A++U1).length+U2.length+V1.length:Nat):Int)=((mid+(A.length+U.length) - q:Nat):Int):=g5
  grind
 have hl1:(bif(decide ((q:Int) < ((A.length+U.length:Nat):Int))&&decide (((A.length+U.length:Nat):Int) < ((mid+(A.length+U.length) - q:Nat):Int)))then aJ (q:Int) ((A.length+U.length:Nat):Int) ((mid+(A.length+U.length) - q:Nat):Int) (A++U++V++C)else A++U++V++C)=A++U1++V1++(U2++V2++C):=by
  cases hc:(decide ((q:Int) < ((A.length+U.length:Nat):Int))&&decide (((A.length+U.length:Nat):Int) < ((mid+(A.length+U.length) - q:Nat):Int)))with
  |true=>grind
  |false=>
   rw[cond_false,hlist];simp only[aps,decide_eq_false_iff_not]at hc;have:U2=[]\/V1=[]:=by
    rcases hc with hc|hc;exact .inl (aoE g5);exact .inr (aoE g5)
   rcases this with rfl|rfl <;>simp
 obtain⟨W,hM1p,hM1,f1,t1,l1⟩:∃ W,((decide ((A.length:Int) < (q:Int))&&decide ((q:Int) < (mid:Int)))=true->E (A.length:Int) (q:Int) (mid:Int) (A++U1++V1++(U2++V2++C)))/\(bif(decide ((A.length:Int) < (q:Int))&&decide ((q:Int) < (mid:Int)))then O (A.length:Int) (q:Int) (mid:Int) (A++U1++V1++(U2++V2++C))else A++U1++V1++(U2++V2++C))=A++W++(U2++V2++C)/\arG (U1++V1) W/\Srt W/\W.length=U1.length+V1.length:=by
  cases hc:(decide ((A.length:Int) < (q:Int))&&decide ((q:Int) < (mid:Int)))with
  |true=>
   simp only[aoj,decide_eq_true_eq]at hc;obtain⟨h1,W,h2,h3,h4,h5⟩:=hr A U1 V1 (U2++V2++C) g6 g6 g5 g6 sU1 sV1;grind
  |false=>
   simp only[aps,decide_eq_false_iff_not]at hc;refine⟨U1++V1,(λh=>by cases h),by simp,arG.refl _,?_,aoq⟩;have:U1=[]\/V1=[]:=by
    rcases hc with hc|hc;exact .inl (aoE g5);exact .inr (aoE g5)
   rcases this with rfl|rfl <;>grind
 obtain⟨M2,hM2p,hM2,f2,t2,l2⟩:∃ M2,((decide ((mid:Int) < ((mid+(A.length+U.length) - q:Nat):Int))&&decide (((mid+(A.length+U.length) - q:Nat):Int) < ((A.length+U.length+V.length:Nat):Int)))=true->E (mid:Int) ((mid+(A.length+U.length) - q:Nat):Int) ((A.length+U.length+V.length:Nat):Int) (A++W++(U2++V2++C)))/\(bif(decide ((mid:Int) < ((mid+(A.length+U.length) - q:Nat):Int))&&decide (((mid+(A.length+U.length) - q:Nat):Int) < ((A.length+U.length+V.length:Nat):Int)))then O (mid:Int) ((mid+(A.length+U.length) - q:Nat):Int) ((A.length+U.length+V.length:Nat):Int) (A++W++(U2++V2++C))else A++W++(U2++V2++C))=A++W++M2++C/\arG (U2++V2) M2/\Srt M2/\M2.length=U2.length+V2.length:=by
  cases hc:(decide ((mid:Int) < ((mid+(A.length+U.length) - q:Nat):Int))&&decide (((mid+(A.length+U.length) - q:Nat):Int) < ((A.length+U.length+V.length:Nat):Int)))with
  |true=>
   simp only[aoj,decide_eq_true_eq]at hc;obtain⟨h1,M2,h2,h3,h4,h5⟩:=hr (A++W) U2 V2 C (by rw[<-ao8];omega) (by rw[<-ao8];omega) g5 g6 sU2 sV2;have e0:(((A++W).length:Nat):Int)=(mid:Int):=by rw[aoq];omega
   have e1:(((A++W).length+U2.length:Nat):Int)=((mid+(A.length+U.length) - q:Nat):Int):=g5
   grind
  |false=>
   simp only[aps,decide_eq_false_iff_not]at hc;refine⟨U2++V2,(λh=>by cases h),by simp,arG.refl _,?_,aoq⟩;have:U2=[]\/V2=[]:=by
    rcases hc with hc|hc;exact .inl (aoE g5);exact .inr (aoE g5)
   rcases this with rfl|rfl <;>grind
 unfold xe Mq;simp only[w1,w2,b1,b2,Y,hn,elo,ehi,s2,X,cond_false];refine⟨⟨(λh=>by cases h),λ_=>⟨(λh=>by cases h),λ_=>⟨s1,(λz h=>by cases h),λz hz=>?_⟩⟩⟩,W++M2,?_,?_,?_,?_⟩;cases hz;simp only[X];exact afT (λl=>O (A.length:Int) (q:Int) (mid:Int) l) (λl=>E (A.length:Int) (q:Int) (mid:Int) l) (λl=>E (mid:Int) ((mid+(A.length+U.length) - q:Nat):Int) ((A.length+U.length+V.length:Nat):Int) l) (λh=>(hrot h).1) (λh=>g6) (λh=>by rw[hl1];grind);refine(akE (λl=>O (A.length:Int) (q:Int) (mid:Int) l) (λl=>O (mid:Int) ((mid+(A.length+U.length) - q:Nat):Int) ((A.length+U.length+V.length:Nat):Int) l)).trans ?_;rw[hl1];simp only[hM1];grind
 ·have h0:arG (U2++V1) (V1++U2):=arG.swap λa ha b hb=>g6
  have h1:arG (U++V) (U1++V1++(U2++V2)):=by
   rw[<-hUs,<-hVs];have:=((arG.refl U1).app h0).app (arG.refl V2);grind
  exact h1.trans (f1.app f2)
 refine Dz t1 t2 λx hx y hy=>?_;have hx:=f1.symm.mem hx;have hy:=f2.symm.mem hy;rcases aoQ.1 hx with hx|hx <;>rcases aoQ.1 hy with hy|hy <;>grind;grind
theorem Pm:∀ n,adn n (rL n).1 (rL n).2
 |0=>λA U V C O W h=>absurd (ao8.2 O) g5
 |n+1=>λA U V C O W hN E X Y=>by
  have pU:=ao8.2 O;have pV:=ao8.2 W;by_cases h1:U.length=1
  obtain⟨x,rfl⟩:=aq5.1 h1;exact R8 _ _ A V C x E Y;by_cases h2:V.length=1
  obtain⟨x,rfl⟩:=aq5.1 h2;exact Pj _ _ A U C x g5 E X;exact R9 (Pm n) A U V C g5 g5 hN E X Y
theorem YB (A U V C:List bn)(Y:U≠[])(O:V≠[])(X:(A++U++V++C).length<2 ^ 60)(W:Srt U)(E:Srt V):
  cX (A.length:Int) ((A.length+U.length:Nat):Int) ((A.length+U.length+V.length:Nat):Int) (A++U++V++C)/\
  ∃ M,dz (A.length:Int) ((A.length+U.length:Nat):Int) ((A.length+U.length+V.length:Nat):Int) (A++U++V++C)=A++M++C/\arG (U++V) M/\Srt M/\M.length=U.length+V.length:=
 Pm ((A++U++V++C).length+1) A U V C Y O g6 X W E
inductive Blk (n:Nat):List bn->Prop
 |last {l:List bn}:l.length<=n->Srt l->Blk n l
 |cons {b l:List bn}:b.length=n->Srt b->Blk n l->Blk n (b++l)
inductive Full (n:Nat):List bn->Prop
 |nil:Full n []
 |snoc {l b:List bn}:Full n l->b.length=n->Srt b->Full n (l++b)
variable {n:Nat}{a:List bn}
theorem Full.app(h:Full n a):∀ {l:List bn},Blk n l->Blk n (a++l):=by
 induction h with
 |nil=>grind
 |snoc _ O E V=>exact λh=>by rw[ao_];exact V (.cons O E h)
theorem Blk.srt(h:Blk n l)(O:l.length<=n):Srt l:=by
 cases h with
 |last _ E=>exact E
 | @cons b r V E h=>
  rw[aoq]at O;have:=aoE (show r.length=0 by omega);grind
theorem Blk.split(h:Blk n l)(V:n<=l.length):∃ b r,l=b++r/\b.length=n/\Srt b/\Blk n r:=by
 cases h with
 |last h1 E=>exact⟨l,[],by simp,g5,E,.last (aoV _) List.Pairwise.nil⟩
 |cons O E h=>grind
theorem wE{b:List bn}(h:arG a b):a.length=b.length:=by
 have e:∀ {l:List bn},stS l=l\/True:=λ{_} =>.inr trivial;have h1:∀ l:List bn,(stS l).length=l.length:=λl=>by
  induction l with
  |nil=>rfl
  |cons x r O=>
   have:∀ l:List bn,(stI x l).length=l.length+1:=λl=>by
    induction l with
    |nil=>rfl
    |cons y l E=>
     unfold stI;grind
   show(stI x (stS r)).length=_;grind
 rw[<-h1 a,<-h1 b,A2 (h.trans (y4 b)) (MD b)]
theorem KK (l:List bn)(hl:l.length<2 ^ 58):cD (l.length:Int) l/\c5 (l.length:Int) l=stS l:=by
 obtain⟨k1,r,k2,D,R,rfl,k3,k4,k5,k6⟩:okI (bW (l.length:Int)) (dH (l.length:Int)) (Int.toNat (l.length:Int)+1) 0 (l,0,20)/\∃ r,aj (bW (l.length:Int)) (Int.toNat (l.length:Int)+1) 0 (l,0,20)=.inl r/\∃ D R,r=(((D.length:Nat):Int),D++R)/\Full 20 D/\arG l (D++R)/\R.length<20/\l.length=D.length+R.length:=by
  refine Ac (λs:List bn×Int×Int=>((l.length:Int) - s.2.1).toNat) (λs:List bn×Int×Int=>∃ D R,s=(D++R,((D.length:Nat):Int),((D.length+20:Nat):Int))/\Full 20 D/\arG l (D++R)/\l.length=D.length+R.length) _ ?_ _ _ _ ⟨[],l,rfl,.nil,arG.refl _,by simp⟩ g6;rintro k s ⟨D,R,rfl,hD,Y,O⟩;unfold dH bW;by_cases h:20<=R.length
  have e:decide (((D.length+20:Nat):Int)<=(l.length:Int))=true:=g6
  have hRs:R.take 20++R.drop 20=R:=apr _ _;have hRt:(R.take 20).length=20:=g6
  have hRd:(R.drop 20).length=R.length - 20:=apB;have hi:=KJ D (R.take 20) (R.drop 20) g6;rw[ao_ D,hRs,hRt]at hi;obtain⟨i1,M,W,V,X⟩:=hi;have hM:=wE V;have w:i64.wrap (((D.length+20:Nat):Int)+20)=(((D++M).length+20:Nat):Int):=by grind [aw]
  simp only[e,cond_true,w];refine⟨λ_=>i1,.inr ⟨_,rfl,g6,D++M,R.drop 20,?_,hD.snoc g5 X,?_,g6⟩⟩;grind
  refine Y.trans ?_;have:=((arG.refl D).app (V.app (arG.refl (R.drop 20))));grind
  grind
 have hi:=KJ D R [] g6;have eN:((D.length+R.length:Nat):Int)=(l.length:Int):=g5
 rw[aoC,eN]at hi;obtain⟨i1,M,W,V,X⟩:=hi;rw[aoC]at W;have hM:=wE V;have hB0:Blk 20 (D++M):=k3.app (.last g5 X);have hF0:arG l (D++M):=k4.trans ((arG.refl D).app V);obtain⟨m1,r,m2,m3,m4⟩:okI (cq (l.length:Int)) (cP (l.length:Int)) (Int.toNat (l.length:Int)+1) 0 (D++M,20)/\∃ r,aj (cq (l.length:Int)) (Int.toNat (l.length:Int)+1) 0 (D++M,20)=.inl r/\arG l r/\Srt r:=by
  refine Ac (λs:List bn×Int=>((l.length:Int) - s.2).toNat) (λs:List bn×Int=>∃ (L:List bn) (n:Nat),s=(L,(n:Int))/\20<=n/\n<2 ^ 59/\Blk n L/\arG l L) _ ?_ _ _ _ ⟨D++M,20,rfl,aom _,g5,hB0,hF0⟩ g5;rintro k s ⟨L,n,rfl,hn,hn2,hB,Y⟩;have hLl:=wE Y;by_cases h:n<l.length
  have e:decide ((n:Int) < (l.length:Int))=true:=g6
  have w2:i64.wrap (2*(n:Int))=((2*n:Nat):Int):=by grind [aw]
  have w2':i64.wrap ((n:Int)*2)=((2*n:Nat):Int):=g6
  obtain⟨p1,r,p2,D,R,rfl,p3,p4,p5,p6,p7⟩:okI (dc (l.length:Int) (L,(n:Int))) (dI (l.length:Int) (L,(n:Int))) (Int.toNat (l.length:Int)+1) 0 (L,0,((2*n:Nat):Int))/\∃ r,aj (dc (l.length:Int) (L,(n:Int))) (Int.toNat (l.length:Int)+1) 0 (L,0,((2*n:Nat):Int))=.inl r/\∃ D R,r=(((D.length:Nat):Int),D++R)/\Full (2*n) D/\Blk n R/\arG l (D++R)/\R.length<2*n/\l.length=D.length+R.length:=by
   refine Ac (λs:List bn×Int×Int=>((l.length:Int) - s.2.1).toNat) (λs:List bn×Int×Int=>∃ D R,s=(D++R,((D.length:Nat):Int),((D.length+2*n:Nat):Int))/\Full (2*n) D/\Blk n R/\arG l (D++R)/\l.length=D.length+R.length) _ ?_ _ _ _ ⟨[],L,by simp,.nil,hB,Y,g6⟩ g6;rintro k s ⟨D,R,rfl,hD,hR,Y,O⟩;unfold dI dc;by_cases h:2*n<=R.length
   have e:decide (((D.length+2*n:Nat):Int)<=(l.length:Int))=true:=g6
   obtain⟨E,R1,rfl,b1,b2,b3⟩:=hR.split g5;rw[aoq]at h O;obtain⟨B2,R2,rfl,c1,c2,c3⟩:=b3.split g5;rw[aoq]at h O;obtain⟨i1,M,W,V,X,i5⟩:=YB D E B2 R2 g6 g6 g6 b2 c2;have e0:D++E++B2++R2=D++(E++(B2++R2)):=by simp
   have e1:((D.length+E.length+B2.length:Nat):Int)=((D.length+2*n:Nat):Int):=g5
   have e2:i64.wrap ((D.length:Int)+(n:Int))=((D.length+E.length:Nat):Int):=by grind [aw]
   rw[e0,e1]at i1 W;have w:i64.wrap (((D.length+2*n:Nat):Int)+((2*n:Nat):Int))=(((D++M).length+2*n:Nat):Int):=by grind [aw]
   simp only[e,cond_true,e2,w2,w];refine⟨λ_=>i1,.inr ⟨_,rfl,g6,D++M,R2,?_,hD.snoc g5 X,c3,?_,g6⟩⟩;grind
   refine Y.trans ?_;have:=(arG.refl D).app (V.app (arG.refl R2));grind
   grind
  have wm:i64.wrap ((D.length:Int)+(n:Int))=((D.length+n:Nat):Int):=by grind [aw]
  unfold cP cq;simp only[e,cond_true,w2,w2',p2,wm];by_cases hm:n<R.length
  have em:decide (((D.length+n:Nat):Int) < (l.length:Int))=true:=g6
  obtain⟨E,R1,rfl,b1,b2,b3⟩:=p4.split g5;rw[aoq]at hm p6 p7;have b4:=b3.srt g5;obtain⟨i1,M,W,V,X,i5⟩:=YB D E R1 [] g6 g6 g6 b2 b4;have e0:D++E++R1++[]=D++(E++R1):=by simp
  have e1:((D.length+E.length+R1.length:Nat):Int)=(l.length:Int):=g5
  have e2:((D.length+E.length:Nat):Int)=((D.length+n:Nat):Int):=g5
  rw[e0,e1,e2]at i1 W;rw[aoC]at W;refine⟨λ_=>⟨p1,(λz h=>by cases h),λx hx=>g6⟩,.inr ⟨(D++M,((2*n:Nat):Int)),g6,g5,D++M,2*n,rfl,g5,g5,p3.app (.last g5 X),p5.trans ((arG.refl D).app V)⟩⟩;have em:decide (((D.length+n:Nat):Int) < (l.length:Int))=false:=g6
  refine⟨λ_=>⟨p1,(λz h=>by cases h),λx hx=>g6⟩,.inr ⟨(D++R,((2*n:Nat):Int)),g6,g5,D++R,2*n,rfl,g5,g5,p3.app (.last g5 (p4.srt g5)),p5⟩⟩;have e:decide ((n:Int) < (l.length:Int))=false:=g6
  unfold cP cq;simp only[e,cond_false];exact⟨(λh=>by cases h),.inl ⟨_,rfl,Y,hB.srt g5⟩⟩
 unfold cD c5;rw[k2];simp only[W,m2];exact⟨⟨k1,(λz h=>by cases h),λx hx=>g6⟩,A2 m3 m4⟩
def Pn (l:List bn)(E:l.length<2 ^ 58):bV l/\cb l=stS l:=⟨λ_=>(KK l E).1,(KK l E).2⟩
theorem Po:∀ (l:List bn) (n:Int),yq .int .M1 (wD l) n=l.any λy=>y.no==n:=λl n=>by
 have:∀ (r:List bn),yq .int .M1 (wD r.reverse) n=r.reverse.any λy=>y.no==n:=λr=>by
  induction r with
  |nil=>rfl
  |cons x r E=>
   rw[List.reverse_cons,zH,Ve,E,List.any_append];grind
 simpa using this l.reverse
theorem Hz(h:Asc l){y:bn}(hy:y∈l):aC .int .M1 (wD l) y.no=y:=by
 have:∀ (r:List bn),Asc r.reverse->∀ y∈r,aC .int .M1 (wD r.reverse) y.no=y:=λr=>by
  induction r with
  |nil=>simp
  |cons x r V=>
   intro E y hy;rw[List.reverse_cons]at E |-;obtain⟨a1,_,O⟩:=aoG.1 E;rw[zH,pC];rcases aoD.1 hy with rfl|hy;grind
   have:=O y g6 x (by simp);rw[if_neg (show ¬y.no=x.no by omega)];exact V a1 y hy
 simpa using this l.reverse (by simpa using h) y g6
structure Fit (d:ah)(x:bn):Prop where
 no0:0<=x.no
 no1:x.no<=1048576
 at0:0<=x.at_
 at1:x.at_<=4096
 kn0:0<=x.known
 kn1:x.known<=1048576
 kind:x.kind=1\/x.kind=2\/x.kind=3\/x.kind=4
 held:x.kind≠4->0<=x.right/\x.right< (d.bh.length:Int)/\(d.bh.getD (Int.toNat x.right) default).kind=1/\0<=x.since/\x.since< (d.zs.length:Int)
 pass:x.kind=1->0<=x.to/\x.to< (d.zs.length:Int)/\x.to≠x.since
 split:x.kind=2->asT d x.parts
variable {d:ah}
theorem YC{m:List (Int×bn)}{x:bn}(hf:d.zs.length<=600)(hr:d.bh.length<=256)(h:dQ d m x=true):Fit d x/\(x.kind=4->yq .int .M1 m x.of_=true/\(aC .int .M1 m x.of_).kind≠4/\(aC .int .M1 m x.of_).known<=x.known):=by
 unfold dQ at h;cases h0:((((!(aU x.no 0 1048576)) ||(!(aU x.at_ 0 4096))) ||(!(aU x.known 0 1048576))) ||(!(ml x)))with
 |true=>grind
 |false=>
  rw[h0]at h;simp only[aoY,apC]at h0;obtain⟨⟨⟨a1,W⟩,V⟩,a4⟩:=h0;rw[xn]at a1 W V;simp only[cond_false]at h;by_cases k1:x.kind=1
  rw[show(x.kind==1)=true by simp[k1]]at h;simp only[cond_true,aoj,beq_iff_eq,bne_iff_ne]at h;obtain⟨⟨⟨⟨O,X⟩,E⟩,Y⟩,b5⟩:=h;rw[A0 _ g5]at O E Y;exact⟨⟨a1.1,a1.2,W.1,W.2,V.1,V.2,.inl k1,λ_=>⟨O.1,O.2,X,E.1,E.2⟩,λ_=>⟨Y.1,Y.2,b5⟩,λe=>g5⟩,λe=>g5⟩;rw[show(x.kind==1)=false by grind]at h;by_cases k2:x.kind=2
  rw[show(x.kind==2)=true by simp[k2]]at h;simp only[cond_true,cond_false,aoj,beq_iff_eq]at h;obtain⟨⟨⟨O,X⟩,E⟩,Y⟩:=h;rw[A0 _ g5]at O E;exact⟨⟨a1.1,a1.2,W.1,W.2,V.1,V.2,.inr (.inl k2),λ_=>⟨O.1,O.2,X,E.1,E.2⟩,λe=>g5,λ_=>Yy hf Y⟩,λe=>g5⟩;rw[show(x.kind==2)=false by grind]at h;by_cases k3:x.kind=3
  rw[show(x.kind==3)=true by simp[k3]]at h;simp only[cond_true,cond_false,aoj,beq_iff_eq]at h;obtain⟨⟨O,X⟩,E⟩:=h;rw[A0 _ g5]at O E;exact⟨⟨a1.1,a1.2,W.1,W.2,V.1,V.2,.inr (.inr (.inl k3)),λ_=>⟨O.1,O.2,X,E.1,E.2⟩,λe=>g5,λe=>g5⟩,λe=>g5⟩;rw[show(x.kind==3)=false by grind]at h;by_cases k4:x.kind=4
  rw[show(x.kind==4)=true by simp[k4]]at h;simp only[cond_true,cond_false,aoj,bne_iff_ne,decide_eq_true_eq]at h;obtain⟨⟨O,X⟩,E⟩:=h;exact⟨⟨a1.1,a1.2,W.1,W.2,V.1,V.2,.inr (.inr (.inr k4)),λe=>absurd k4 e,λe=>g5,λe=>g5⟩,λ_=>⟨O,X,E⟩⟩;grind
structure atC (d:ah)(l:List bn):Prop where
 right:arW d
 len:l.length<=512
 asc:Asc l
 fit:∀ x∈l,Fit d x
 void:∀ x∈l,x.kind=4->∃ y∈l,y.no=x.of_/\y.kind≠4/\y.known<=x.known/\y.no<x.no
theorem TM {d:ah}:∀ {r b:List bn},Chk d b r->∀ x∈r,∃ E,(∃ t,b++r=E++x::t)/\dQ d (wD E) x=true
 | [],_,_,x,hx=>by cases hx
 |y::r,b,⟨h1,h2,O⟩,x,hx=>by
  rcases aoD.1 hx with rfl|hx;grind
  obtain⟨E,⟨t,e⟩,h⟩:=TM O x hx;grind
theorem uG(h:ba d l=0):atC d l:=by
 obtain⟨h1,h2,_,Y⟩:=(zI d l).1 h;have hr:=kE (d:=d) (by rw[h1];rfl);have E:=Chk.asc List.Pairwise.nil Y;rw[aos]at E;have hf:∀ x∈l,∃ b',(∃ t,l=b'++x::t)/\dQ d (wD b') x=true:=λx O=>by
  have:=TM Y x O;grind
 refine⟨hr,h2,E,λx O=>?_,λx O hk=>?_⟩;obtain⟨b,_,h⟩:=hf x O;exact(YC hr.zs hr.bh h).1;obtain⟨b,⟨t,e⟩,h⟩:=hf x O;obtain⟨q1,W,X⟩:=(YC hr.zs hr.bh h).2 hk;rw[Po,apx]at q1;obtain⟨y,hy,hn⟩:=q1;have hn:y.no=x.of_:=g6
 rw[e]at E;have V:Asc b:=(aoG.1 E).1;rw[<-hn,Hz V hy]at W X;exact⟨y,g6,hn,W,X,(aoG.1 E).2.2 y hy x aow⟩
def rt (l:List bn)(a n:Int):Bool:=l.any λv=>v.kind==4&&decide (v.known<=a)&&v.of_==n
def Cb (l:List bn)(b a:Int):List bn:=l.filter λx=>!((((x.kind==4) ||(decide (x.known > a))) ||(decide (x.at_ > b))) ||rt l a x.no)
theorem YD (l:List bn)(known:Int):∃ m,aj (gB l known) l.length 0 []=.inr m/\∀ n,aC .int .bool m n=rt l known n:=by
 obtain⟨r,h1,h2⟩:=k_ (step:=gB l known) (λk m=>∀ n,aC .int .bool m n=rt (l.take k) known n) l.length 0 ([]:List (Int×Bool)) (λn=>by rfl) (λj s _ O E=>by
  rw[aou]at O;unfold gB;rw[cw l default O];cases hc:(((l.getD j (default:bn)).kind==4)&&(decide ((l.getD j (default:bn)).known<=known)))with
  |true=>
   refine⟨_,rfl,λn=>?_⟩;rw[pC];unfold rt at E |-;grind
  |false=>
   refine⟨_,rfl,λn=>?_⟩;rw[E];unfold rt;grind)
 grind
theorem YE (K G:List bn):((yr .M1 (K++G) (K.length:Int) ((K++G).length:Int)).take K.length)=K:=by
 grind [yr]
variable {α:Type}
theorem y5{step:Nat->Unit->Int⊕Unit}(l:List α)(d:α)(P:α->Bool)(h:∀ k,k<l.length->step k ()=bif P (l.getD k d)then .inl (k:Int)else .inr ()):(aj step l.length 0 ()=.inr ()/\∀ x∈l,P x=false)\/∃ K x R,l=K++x::R/\aj step l.length 0 ()=.inl (K.length:Int)/\P x=true/\∀ y∈K,P y=false:=by
 have key:∀ (R K:List α),l=K++R->(∀ y∈K,P y=false)->(aj step R.length K.length ()=.inr ()/\∀ x∈l,P x=false)\/∃ E x W,l=E++x::W/\aj step R.length K.length ()=.inl (E.length:Int)/\P x=true/\∀ y∈E,P y=false:=λR=>by
  induction R with
  |nil=>exact λK h V=>.inl ⟨rfl,λx Y=>V x g6⟩
  |cons x R X=>
   intro K O V;have e:=h K.length (by rw[O];simp);have g:l.getD K.length d=x:=g6
   rw[g]at e;simp only[aon,aj,e];cases Y:P x with
   |true=>grind
   |false=>
    simp only[cond_false];have:=X (K++[x]) (by rw[O];simp) (λy hy=>by
     grind)
    simp_all
 exact key l [] rfl (by simp)
theorem Vi (l:List bn)(known hour:Int)(v:List (Int×Bool))(hl:l.length<2 ^ 47):bQ l known hour v/\bJ l known hour v=l.filter λx=>!bE x known hour v:=by
 have hI:(a9 l known hour v= -1/\∀ x∈l,bE x known hour v=false)\/∃ K x R,l=K++x::R/\a9 l known hour v=(K.length:Int)/\bE x known hour v=true/\∀ y∈K,bE y known hour v=false:=by
  unfold a9;rcases y5 (step:=fu l known hour v) l default (λx=>bE x known hour v) (λk _=>rfl)with⟨e,h⟩ | ⟨K,x,R,h1,e,h2,h3⟩ <;>grind
 unfold bQ bJ;rcases hI with⟨e,h⟩ | ⟨K,x,R,hl0,e,h2,h3⟩;rw[e];refine⟨(λh=>by cases h),?_⟩;simp only[BEq.rfl,cond_true];exact(aqI.2 λx hx=>g6).symm;have b:((K.length:Int) == -1)=false:=by rfl
 have hlen:l.length=K.length+(R.length+1):=g6
 have w:i64.wrap ((K.length:Int)+1)=((K.length+1:Nat):Int):=by grind [aw]
 rw[e,w];simp only[b,cond_false];obtain⟨k1,r,k2,E,O,rfl,k3⟩:okI (cg l known hour v) (cK l known hour v) (l.length+1) 0 (l,(K.length:Int),((K.length+1:Nat):Int))/\∃ r,aj (cg l known hour v) (l.length+1) 0 (l,(K.length:Int),((K.length+1:Nat):Int))=.inl r/\∃ E O,r=((E.length:Int),E++O)/\E=l.filter λx=>!bE x known hour v:=by
  refine Ac (λs:List bn×Int×Int=>((l.length:Int) - s.2.2).toNat) (λs:List bn×Int×Int=>∃ E g O V,s=(E++g::(O++V),(E.length:Int),((E.length+(O.length+1):Nat):Int))/\E.length+(O.length+1)+V.length=l.length/\(l.filter λx=>!bE x known hour v)=E++V.filter λx=>!bE x known hour v) _ ?_ _ _ _ ⟨K,x,[],R,g6,g6,?_⟩ g6;rintro k s ⟨E,g,O,V,rfl,hn,hF⟩;have hL:(E++g::(O++V)).length=l.length:=g6
  unfold cK cg;simp only[hL];cases V with
  |nil=>
   grind
  |cons y V=>
   simp only[aon]at hn;have e1:decide (((E.length+(O.length+1):Nat):Int) < (l.length:Int))=true:=g6
   have gy:(E++g::(O++y::V)).getD (E.length+(O.length+1)) default=y:=by
    grind
   have w1:i64.wrap (((E.length+(O.length+1):Nat):Int)+1)=((E.length+(O.length+1)+1:Nat):Int):=by grind [aw]
   have w2:i64.wrap ((E.length:Int)+1)=((E.length+1:Nat):Int):=by grind [aw]
   simp only[e1,cond_true,aol,gy,w1,w2];refine⟨λ_ _=>⟨g5,λ_=>g5⟩,.inr ?_⟩;cases hy:bE y known hour v with
   |false=>
    obtain⟨X,W,hG⟩:∃ X W,O++[y]=X::W:=by
     cases O <;>grind
    have hGl:O.length+1=W.length+1:=by have:=congrArg List.length hG;grind
    refine⟨_,rfl,g6,E++[y],X,W,V,?_,?_,?_⟩;rw[MB E g y _ rfl];grind [Prod.mk.injEq]
    grind
    grind
   |true=>
    refine⟨_,rfl,by simp only;omega,E,g,O++[y],V,?_,by rw[aoq];simp only[aon,aoI];omega,?_⟩ <;>grind
  simp_all
 refine⟨λ_=>⟨k1,Pi (Q:=λ_=>True) ⟨_,k2,trivial⟩,λz Y=>?_⟩,?_⟩;rw[k2]at Y;cases Y;have:(yr .M1 (E++O) (E.length:Int) ((E++O).length:Int)).length=(E++O).length:=by
  grind [yr]
 grind
 grind [YE]
theorem Pp (l:List bn)(hour known:Int)(hl:l.length<=512):jr l hour known/\fo l hour known=stS (Cb l hour known):=by
 obtain⟨m,e,W⟩:=YD l known;have X:∀ x,bE x known hour m=((((x.kind==4) ||(decide (x.known > known))) ||(decide (x.at_ > hour))) ||rt l known x.no):=λx=>by
  grind [bE]
 obtain⟨Y,V⟩:=Vi l known hour m g5;have O:(l.filter λx=>!bE x known hour m)=Cb l hour known:=by grind [Cb]
 rw[O]at V;have E:(Cb l hour known).length<=l.length:=apa _ _;obtain⟨s1,s2⟩:=Pn (Cb l hour known) g5;grind [jr,fo,dT]
theorem zK (l:List bn):a8 l=l:=by
 obtain⟨r,h1,h2⟩:=k_ (step:=dy l) (λk s=>s=l.take k) l.length 0 ([]:List bn) (by simp) (λj s _ O E=>⟨_,rfl,by simp_all⟩);simp_all [a8]
theorem YF (l:List bn):dC l ((a8 l).map En):=λ_=>by
 rw[zK];refine⟨ij (λk s=>s=l.take k) _ _ _ (by simp) (λj s _ E O=>⟨?_,λs' h=>?_⟩),λs h=>?_⟩;rw[aou]at E;grind [dV]
 simp_all [dy];have:=zK l;grind [a8]
theorem Vj (K G:List Claim):((yr .W2 (K++G) (K.length:Int) ((K++G).length:Int)).take K.length)=K:=by
 grind [yr]
theorem R_ (l:List Claim)(rs:List Int)(hl:l.length<2 ^ 47):bM l rs/\bR l rs=l.filter λx=>!bq x rs:=by
 have hI:(a_ l rs= -1/\∀ x∈l,bq x rs=false)\/∃ K x R,l=K++x::R/\a_ l rs=(K.length:Int)/\bq x rs=true/\∀ y∈K,bq y rs=false:=by
  unfold a_;rcases y5 (step:=fv l rs) l default (λx=>bq x rs) (λk _=>rfl)with⟨e,h⟩ | ⟨K,x,R,h1,e,h2,h3⟩ <;>grind
 unfold bM bR;rcases hI with⟨e,h⟩ | ⟨K,x,R,hl0,e,h2,h3⟩;rw[e];refine⟨(λh=>by cases h),?_⟩;simp only[BEq.rfl,cond_true];exact(aqI.2 λx hx=>g6).symm;have b:((K.length:Int) == -1)=false:=by rfl
 have hlen:l.length=K.length+(R.length+1):=g6
 have w:i64.wrap ((K.length:Int)+1)=((K.length+1:Nat):Int):=by grind [aw]
 rw[e,w];simp only[b,cond_false];obtain⟨k1,r,k2,E,O,rfl,k3⟩:okI (bY l rs) (ct l rs) (l.length+1) 0 (l,(K.length:Int),((K.length+1:Nat):Int))/\∃ r,aj (bY l rs) (l.length+1) 0 (l,(K.length:Int),((K.length+1:Nat):Int))=.inl r/\∃ E O,r=((E.length:Int),E++O)/\E=l.filter λx=>!bq x rs:=by
  refine Ac (λs:List Claim×Int×Int=>((l.length:Int) - s.2.2).toNat) (λs:List Claim×Int×Int=>∃ E g O V,s=(E++g::(O++V),(E.length:Int),((E.length+(O.length+1):Nat):Int))/\E.length+(O.length+1)+V.length=l.length/\(l.filter λx=>!bq x rs)=E++V.filter λx=>!bq x rs) _ ?_ _ _ _ ⟨K,x,[],R,g6,g6,?_⟩ g6;rintro k s ⟨E,g,O,V,rfl,hn,hF⟩;have hL:(E++g::(O++V)).length=l.length:=g6
  unfold ct bY;simp only[hL];cases V with
  |nil=>
   grind
  |cons y V=>
   simp only[aon]at hn;have e1:decide (((E.length+(O.length+1):Nat):Int) < (l.length:Int))=true:=g6
   have gy:(E++g::(O++y::V)).getD (E.length+(O.length+1)) default=y:=by
    grind
   have w1:i64.wrap (((E.length+(O.length+1):Nat):Int)+1)=((E.length+(O.length+1)+1:Nat):Int):=by grind [aw]
   have w2:i64.wrap ((E.length:Int)+1)=((E.length+1:Nat):Int):=by grind [aw]
   simp only[e1,cond_true,aol,gy,w1,w2];refine⟨λ_ _=>⟨g5,λ_=>g5⟩,.inr ?_⟩;cases hy:bq y rs with
   |false=>
    obtain⟨X,W,hG⟩:∃ X W,O++[y]=X::W:=by
     cases O <;>grind
    have hGl:O.length+1=W.length+1:=by have:=congrArg List.length hG;grind
    refine⟨_,rfl,g6,E++[y],X,W,V,?_,?_,?_⟩;rw[MB E g y _ rfl];grind [Prod.mk.injEq]
    grind
    grind
   |true=>
    refine⟨_,rfl,by simp only;omega,E,g,O++[y],V,?_,by rw[aoq];simp only[aon,aoI];omega,?_⟩ <;>grind
  simp_all
 refine⟨λ_=>⟨k1,Pi (Q:=λ_=>True) ⟨_,k2,trivial⟩,λz Y=>?_⟩,?_⟩;rw[k2]at Y;cases Y;have:(yr .W2 (E++O) (E.length:Int) ((E++O).length:Int)).length=(E++O).length:=by
  grind [yr]
 grind
 grind [Vj]
theorem xp (s:P1)(rs:List Int)(E:s.c.length<=4096):kA s rs/\dw s rs= { d:=s.d,c:=s.c.filter λx=>!bq x rs}:=by
 obtain⟨h1,h2⟩:=R_ s.c rs g5;exact⟨⟨by unfold dT;omega,h1⟩,by unfold dw;rw[h2]⟩
@[go_sem] def s4 (a:List Int)(b:Nat)(c:Unit):Int⊕Unit:=(bif((a.getD b 0) !=0)then .inl (a.getD b 0)else .inr ())
def gO (a:List Int):Int:=(match aj (s4 a) a.length 0 ()with| .inl b=>b| .inr c=>0)
@[go_sem] def HA:m0:=(pR .int λa=>(pE (.det True (.i (gO a)))))
theorem E8:X1 prog 163 HA:=by
 have hG:=mG Y1 Y1;refine fN hG f163 [.o] (bG λO=>(am (λY=>?_)));dsimp only[an]at Y;refine⟨nbl rfl,(λid st=>bif Nat.beq id 0 then some (LCR (ρ:=Int) (σ:=Unit) 0 [] [] (λV W=>⟨[(5,.rs .int O),(6,.i (O.length:Int)),(7,.i V)],[]⟩) (s4 O) pT O.length () (O.length<=aI) (λ_=>.ret) (λE=>⟨[(2,.i E)],[]⟩) st)else none),?_,?_⟩;unfold ae f163;simp only[ak,true_and,and_true];refine bu mixed aB hG kr (λ_=>rfl) (O.length:Int) rfl fO (λhb0 V W X _ hw hc=>⟨L0,ag _,?_⟩) (λhb0 W hc=>?_);exact bC (jl []);exact bD (jl []);unfold ae f163;try unfold gO
 exact zq2
def df (a b:Claim):Int:=(gO ([(bv a.hour b.hour),(bv a.arM b.arM),(bv a.right b.right),(bv a.dd b.dd)]))
@[go_sem] def HB:m0:=(pD .W2 λa=>(pD .W2 λb=>(pE (.det True (.i (df a b))))))
theorem xV:X1 prog 107 HB:=by
 have hG:=mG (cp fA (cn [.sl .int] E8 Y1)) Y1;refine fN hG f107 [.o] (ax λa=>(ax λb=>(am (λE=>?_))));dsimp only[an]at E;refine⟨nbl rfl,L0,ag _,?_⟩;unfold ae f107;try unfold df
 exact zq2
@[go_sem] def kl (b:ah)(d:List Claim)(c:Nat)(f:Unit):Unit⊕Unit:=letI a:=d.getD c default;letI e:=b.bh.getD (Int.toNat (a.right)) default;(bif((((!((((((((decide (a.right>=0))&&(decide (a.right< (b.bh.length:Int))))&&(decide (a.dd>=0)))&&(decide (a.dd< (b.zs.length:Int))))&&(decide (a.hour>=0)))&&(decide (a.hour<b.hours)))&&(decide (a.bl>=1)))&&(decide (a.bl<=1073741824)))) ||(e.kind !=1)) ||(e.arM !=a.arM)) ||((decide ((c:Int) > 0))&&(decide ((df (d.getD (Int.toNat (i64.wrap ((c:Int) - 1))) default) a)>=0))))then .inl ()else .inr ())
def mE (b:ah)(f:List Claim)(c:Nat)(j:Unit):Prop:=letI a:=f.getD c default;letI d:=b.bh.getD (Int.toNat (a.right)) default;letI g:=i64.wrap ((c:Int) - 1);letI h:=(b.bh.length:Int);letI e:= !((((((((decide (a.right>=0))&&(decide (a.right<h)))&&(decide (a.dd>=0)))&&(decide (a.dd< (b.zs.length:Int))))&&(decide (a.hour>=0)))&&(decide (a.hour<b.hours)))&&(decide (a.bl>=1)))&&(decide (a.bl<=1073741824)));letI i:=0<=a.right/\a.right<h;((e=false->i)/\(((e||(d.kind !=1))=false->i)/\(((e||(d.kind !=1)) ||(d.arM !=a.arM))=false->((decide ((c:Int) > 0))=true->(0<=g/\g< (f.length:Int))))))
def bX (a:ah)(b:List Claim):Int:=(bif((av a) !=0)then(av a)else(bif(decide ((b.length:Int) > 4096))then 2 else(match aj (kl a b) b.length 0 ()with| .inl c=>260| .inr d=>0)))
def nA (b:ah)(a:List Claim):Prop:=(((av b) !=0)=false->(a.length<=aI->((decide ((a.length:Int) > 4096))=false->(a.length<=aI->okI (kl b a) (mE b a) a.length 0 ()))))
@[go_sem] def HC:m0:=(pD .al λa=>(pR .W2 λb=>(pE (.det (nA a b) (.i (bX a b))))))
theorem xW:X1 prog 117 HC:=by
 have hG:=mG (cn [.st .al] o6 (cp xV Y1)) Y1;refine fN hG f117 [.o] (ax λa0=>(bG λa1=>(am (λY=>?_))));dsimp only[an]at Y;unfold nA at Y;refine⟨nbl rfl,(λid st=>bif Nat.beq id 0 then some (LCR (ρ:=Unit) (σ:=Unit) 1 [] [0] (λE V=>⟨[(1,.rs .W2 a1),(2,.ptr 0 0),(16,.rs .W2 a1),(17,.i (a1.length:Int)),(18,.i E)],[.cells (cellsOf .al a0)]⟩) (kl a0 a1) (mE a0 a1) a1.length () (a1.length<=aI) (λ_=>.ret) (λW=>⟨[(4,.i 260)],[.dead]⟩) st)else none),?_,?_⟩;unfold ae f117;simp only[ak,true_and,and_true];refine bu mixed aB hG kr (λ_=>rfl) (a1.length:Int) rfl fO (λhb0 E V X O hw hc=>⟨L0,ag _,?_⟩) (λhb0 V hc=>?_);unfold mE at O;try simp only[hw,aol]at O
 exact bC (jl [0]);exact bD (jl [0]);unfold ae f117;try unfold bX
 exact zq2
@[go_sem] def l7 (f:ah)(d:Int)(g:Nat)(a:List (arF×Bool)×List (Int×Int)×List (arF×Bool)):Empty⊕(List (arF×Bool)×List (Int×Int)×List (arF×Bool)):=letI b:=f.bh.getD g default;letI c:=({ dd:=b.dd,reach:=b.reach}:arF);letI e:=(a.1,a.2.1,a.2.2);(bif((decide (d<b.since)) ||(decide (d > b.to)))then .inr e else(bif(b.kind==3)then .inr ((dF .art .bool a.1 c true),a.2.1,a.2.2)else(bif((b.kind==2)&&(!(aC .art .bool a.2.2 c)))then .inr (a.1,(dF .int .int a.2.1 (b.reach) (i64.wrap ((aC .int .int a.2.1 (b.reach))+1))),(dF .art .bool a.2.2 c true))else .inr e)))
def cV (b:ah)(c:Int):asf:=(match aj (l7 b c) b.bh.length 0 ([],[],[])with| .inl x=>x.elim| .inr a=>({ asV:=a.2.1,owned:=a.2.2,asM:=a.1}:asf))
@[go_sem] def HD:m0:=(pD .al λa=>(pI λb=>(pE (.det True (.agg [.nm .int .int ((cV a b).asV),.nm .art .bool ((cV a b).owned),.nm .art .bool ((cV a b).asM)])))))
theorem E9:X1 prog 99 HD:=by
 have hG:=mG Y1 Y1;refine fE hG f99 (ax λa0=>(aG λa1=>(am (λW=>?_))));dsimp only[an]at W;refine⟨nbl rfl,(λid st=>bif Nat.beq id 0 then some (LCR (ρ:=Empty) (σ:=(List (arF×Bool)×List (Int×Int)×List (arF×Bool))) 6 [] [0,1,2,3,4,5] (λO E=>⟨[(1,.i a1),(4,.ptr 1 0),(5,.ptr 5 0),(14,.rs .right a0.bh),(15,.i (a0.bh.length:Int)),(16,.i O)],[.dead,.cells [.v (.map none),.v (.map none),.v (.map none)],.mp .int .int E.2.1 none,.mp .art .bool E.2.2 none,.mp .art .bool E.1 none,.cells [.os 2,.os 3,.os 4]]⟩) (l7 a0 a1) pT a0.bh.length ([],[],[]) (a0.bh.length<=aI) ((·.elim)) ((·.elim)) st)else none),?_,?_⟩;unfold ae f99;simp only[ak,true_and,and_true];refine bu mixed aB hG kr (λ_=>rfl) (a0.bh.length:Int) rfl fO (λhb0 O E V _ hw hc=>⟨L0,ag _,?_⟩) (λhb0 E hc=>?_);exact bC (jl [0,1,2,3,4,5]);exact bD (jl [0,1,2,3,4,5]);unfold ae f99;try unfold cV
 exact zq2
def nB (x:asf)(u:arF):Bool:=(bif(aC .art .bool x.owned u)then(((i64.wrap ((aC .int .int x.asV u.reach) - 1)) ==0) ||(aC .art .bool x.asM u))else(((aC .int .int x.asV u.reach) ==0) ||(aC .art .bool x.asM u)))
@[go_sem] def DA:m0:=(pD .ar0 λx=>(pD .art λu=>(pE (.det True (.v (.bool (nB x u)))))))
theorem Cc:X1 prog 104 DA:=by
 have hG:=mG Y1 Y1;refine fN hG f104 [.o] (ax λx=>(ax λu=>(am (λE=>?_))));dsimp only[an]at E;refine⟨nbl rfl,L0,ag _,?_⟩;unfold ae f104;try unfold nB
 exact zq2
def tJ (r:Int)(a:asf)(b:Claim):Bool:=(!(nB a ({ dd:=b.dd,reach:=r}:arF)))
@[go_sem] def HE:m0:=(pI λr=>(pX .ar0 λa=>(pX .W2 λb=>(pE (.det True (.v (.bool (tJ r a b))))))))
theorem E_:X1 prog 103 HE:=by
 have hG:=mG (cn [.st .ar0,.st .art] Cc Y1) Y1;refine fN hG f103 [.o] (aG λr=>(ii λV=>(ii λO=>(am (λE=>?_)))));dsimp only[an]at E;refine⟨nbl rfl,L0,ag _,?_⟩;unfold ae f103;try unfold tJ
 exact zq2
def gw (a b:arv):Int:=(df a.W2 b.W2)
@[go_sem] def y6:m0:=(pD .arx λa=>(pD .arx λb=>(pE (.det True (.i (gw a b))))))
theorem Fa:X1 prog 106 y6:=by
 have hG:=mG (cp xV Y1) Y1;refine fN hG f106 [.o] (ax λa=>(ax λb=>(am (λE=>?_))));dsimp only[an]at E;refine⟨nbl rfl,L0,ag _,?_⟩;unfold ae f106;try unfold gw
 exact zq2
@[go_sem] def gG (b:List Int)(c:asf)(d:Claim)(a:Nat)(e:Unit):Int⊕Unit:=(bif(tJ (b.getD a 0) c d)then .inl (a:Int)else .inr ())
def dZ (a:List Int)(b:asf)(c:Claim):Int:=(match aj (gG a b c) a.length 0 ()with| .inl d=>d| .inr e=>(-1))
@[go_sem] def nC:m0:=(pR .int λa=>(pFn 103 (pX .ar0 λb=>(pX .W2 λc=>(pE ((pE (.det True (.i (dZ a b c))))))))))
theorem tK:X1 prog 102 nC:=by
 have hG:=mG (cp E_ Y1) Y1;refine fN hG f102 [.o] (bG λO=>(o5 (ii λY=>(ii λc_=>(am ((am (λhp=>?_))))))));dsimp only[an]at hp;refine⟨nbl rfl,(λid st=>bif Nat.beq id 0 then some (LCR (ρ:=Int) (σ:=Unit) 0 [] [] (λV W=>⟨[(0,.rs .int O),(1,.fn 103 [] [.ep (cellsOf .ar0 Y) 0,.ep (cellsOf .W2 c_) 0]),(7,.i (O.length:Int)),(8,.i V)],[]⟩) (gG O Y c_) pT O.length () (O.length<=aI) (λ_=>.ret) (λE=>⟨[(4,.i E)],[]⟩) st)else none),?_,?_⟩;unfold ae f102;simp only[ak,true_and,and_true];refine bu mixed aB hG kr (λ_=>rfl) (O.length:Int) rfl fO (λhb0 V W X _ hw hc=>⟨L0,ag _,?_⟩) (λhb0 W hc=>?_);exact bC (jl []);exact bD (jl []);unfold ae f102;try unfold dZ
 exact zq2
@[go_sem] noncomputable def gH:m0:=λl=>(nC l)
def s6:X1 prog 102 gH:=tK
variable {l0 l1:List Nat}{p:Prop}
theorem sI(a0:JL l0)(a1:JL l1)(h:JL l0->JL l1->p:=by intro ja jb;simp only[go_sem];all_goals exact fU ja jb):p:=h a0 a1
def jU (x:bn)(a e b c d:Bool):Bool:=(((((a||(x.right==0))&&(e||(x.since==0)))&&(b||(x.to==0)))&&(c||((x.parts.length:Int) ==0)))&&(d||(x.of_==0)))
@[go_sem] def ME:m0:=(pD .M1 λx=>(pB λa=>(pB λb=>(pB λc=>(pB λd=>(pB λe=>(pE (.det True (.v (.bool (jU x a b c d e)))))))))))
theorem Jx:X1 prog 253 ME:=by
 have hG:=mG Y1 Y1;refine fN hG f253 [.o] (ax λx=>(De λright=>(De λfr=>(De λto=>(De λE=>(De λV=>(am (λO=>?_))))))));dsimp only[an]at O;refine⟨nbl rfl,L0,ag _,?_⟩;unfold ae f253;try unfold jU
 exact zq2
def n_ (d:ah)(x:bn):Bool:=(((((decide (x.right>=0))&&(decide (x.right< (d.bh.length:Int))))&&((d.bh.getD (Int.toNat x.right) default).kind==1))&&(decide (x.since>=0)))&&(decide (x.since< (d.zs.length:Int))))
def qr (d:ah)(x:bn):Prop:=(((decide (x.right>=0))&&(decide (x.right< (d.bh.length:Int))))=true->(0<=x.right/\x.right< (d.bh.length:Int)))
@[go_sem] def HF:m0:=(pD .al λd=>(pD .M1 λx=>(pE (.det (qr d x) (.v (.bool (n_ d x)))))))
theorem Fb:X1 prog 254 HF:=by
 have hG:=mG Y1 Y1;refine fN hG f254 [.o] (ax λd=>(ax λx=>(am (λE=>?_))));dsimp only[an]at E;unfold qr at E;refine⟨nbl rfl,L0,ag _,?_⟩;unfold ae f254;try unfold n_
 exact zq2
@[go_sem] def lq (a:List Part)(b c:Nat)(d:Unit):Unit⊕Unit:=(bif((a.getD c default).dd==(a.getD b default).dd)then .inl ()else .inr ())
def ru (b:List Part)(c a:Nat)(d:Unit):Prop:=(0<=(a:Int)/\(a:Int) < (b.length:Int))
@[go_sem] def nD (g:ah)(e:List Part)(b:Nat)(f:Int×Int):Unit⊕(Int×Int):=letI a:=e.getD b default;letI c:=t6 ({ n:=f.1,d:=f.2}:api) (a.share);(bif((((decide (a.dd<0)) ||(decide (a.dd>=(g.zs.length:Int)))) ||(!(eY (a.share)))) ||(decide (a.share.n<=0)))then .inl ()else(match aj (lq e b) (Int.toNat (b:Int)) 0 ()with| .inl h=>.inl () | .inr i=>(bif(c.2 !=0)then .inl ()else .inr ((c.1).n,(c.1).d))))
def rz (j:ah)(c:List Part)(b:Nat)(e:Int×Int):Prop:=letI a:=c.getD b default;letI f:=decide (a.dd>=(j.zs.length:Int));letI g:=lq c b;letI h:=Int.toNat (b:Int);letI i:=decide (a.dd<0);(c.length<=aI->(((i||f)=false->(jI (a.share)))/\((((i||f) ||(!(eY (a.share)))) ||(decide (a.share.n<=0)))=false->(((b:Int) <9223372036854775808)/\okI g (ru c b) h 0 ()/\(∀ s_1,aj g h 0 ()=.inr s_1->(sB ({ n:=e.1,d:=e.2}:api) (a.share)))))))
def sJ (c:ah)(a:List Part):Bool:=(bif((decide ((a.length:Int) <1)) ||(decide ((a.length:Int) > 16)))then false else(match aj (nD c a) a.length 0 (0,1)with| .inl d=>false| .inr b=>(b.1==b.2)))
def rU (b:ah)(a:List Part):Prop:=(a.length<=aI->(((decide ((a.length:Int) <1)) ||(decide ((a.length:Int) > 16)))=false->okI (nD b a) (rz b a) a.length 0 (0,1)))
@[go_sem] def Jy:m0:=(pD .al λa=>(pR .part λb=>(pE (.det (rU a b) (.v (.bool (sJ a b)))))))
theorem HG:X1 prog 255 Jy:=by
 have hG:=mG (cp qn (cp Mx Y1)) Y1;refine fN hG f255 [.o] (ax λa0=>(bG λa1=>(am (λhp=>?_))));dsimp only[an]at hp;unfold rU at hp;refine⟨nbl rfl,(λid st=>bif Nat.beq id 0 then some (LCR (ρ:=Unit) (σ:=(Int×Int)) 2 [] [0,1] (λE O=>⟨[(1,.rs .part a1),(2,.ptr 0 0),(5,.ptr 1 0),(6,.i E)],[.cells (cellsOf .al a0),.cells [.i O.1,.i O.2]]⟩) (nD a0 a1) (rz a0 a1) a1.length (0,1) (True) (λ_=>.ret) (λu0=>⟨[(4,.v (.bool false))],[.dead,.dead]⟩) st)else none),?_,?_⟩;unfold ae f255;simp only[ak,true_and,and_true];refine fj (a1.length<=aI) mixed aB hG kr (λ_=>rfl) (a1.length:Int) rfl fO (λhb0 E O asO X hw hc=>⟨(λid st=>bif Nat.beq id 2 then some (LCR (ρ:=Unit) (σ:=Unit) 3 [] [0,1,2] (λW V=>⟨[(1,.rs .part a1),(2,.ptr 0 0),(5,.ptr 1 0),(6,.i E),(7,.ptr 2 0),(8,.i W)],[.cells (cellsOf .al a0),.cells [.i O.1,.i O.2],.cells (cellsOf .part (a1.getD E (default:Part)))]⟩) (lq a1 E) (ru a1 E) (Int.toNat (E:Int)) () ((E:Int) <9223372036854775808) (λ_=>.ret) (λY=>⟨[(4,.v (.bool false))],[.dead,.dead,.dead]⟩) st)else none),?_,?_⟩) (λhb0 O hc=>?_) λhb0 E O=>?_;simp only[ak,true_and,and_true];refine bu mixed aB hG kr (λ_=>rfl) (E:Int) rfl id (λhb1 W V as6 hq1 hw hc=>⟨L0,ag _,?_⟩) (λhb1 V hc=>?_);unfold ru at hq1;try simp only[hw,aol]at hq1
 exact bC (jl [0,1,2]);exact bD (jl [0,1,2]);unfold rz at X;try simp only[hw,aol]at X
 exact bC (jl [0,1]);exact bD (jl [0,1]);exact zq8;unfold ae f255;try unfold sJ
 exact zq2
@[go_sem] def uH (b:List bn)(c:Int)(a:Nat)(d:Unit):Int⊕Unit:=(bif(((b.getD a default).no==c)&&((b.getD a default).kind !=4))then .inl (a:Int)else .inr ())
def nE (a:List bn)(b:Int):Int:=(match aj (uH a b) a.length 0 ()with| .inl c=>c| .inr d=>(-1))
@[go_sem] def Jz:m0:=(pR .M1 λa=>(pI λb=>(pE (.det True (.i (nE a b))))))
theorem HH:X1 prog 256 Jz:=by
 have hG:=mG Y1 Y1;refine fN hG f256 [.o] (bG λW=>(aG λX=>(am (λhp=>?_))));dsimp only[an]at hp;refine⟨nbl rfl,(λid st=>bif Nat.beq id 0 then some (LCR (ρ:=Int) (σ:=Unit) 0 [] [] (λE V=>⟨[(0,.rs .M1 W),(1,.i X),(5,.i E)],[]⟩) (uH W X) pT W.length () (True) (λ_=>.ret) (λO=>⟨[(4,.i O)],[]⟩) st)else none),?_,?_⟩;unfold ae f256;simp only[ak,true_and,and_true];refine fj (W.length<=aI) mixed aB hG kr (λ_=>rfl) (W.length:Int) rfl fO (λhb0 E V Y _ hw hc=>⟨L0,ag _,?_⟩) (λhb0 V hc=>?_) λhb0 E V=>?_;exact bC (jl []);exact bD (jl []);exact zq8;unfold ae f256;try unfold nE
 exact zq2
def sK (b:ah)(d:List bn)(a:bn):Bool:=letI c:=n_ b a;letI e:=nE d a.of_;(bif((((((decide (a.no<0)) ||(decide (a.no > 1048576))) ||(decide (a.at_<0))) ||(decide (a.at_ > 4096))) ||(decide (a.known<0))) ||(decide (a.known > 1048576)))then false else(bif(a.kind==1)then(((((jU a true true true false false)&&c)&&(decide (a.to>=0)))&&(decide (a.to< (b.zs.length:Int))))&&(a.to !=a.since))else(bif(a.kind==2)then(((jU a true true false true false)&&c)&&(sJ b a.parts))else(bif(a.kind==3)then((jU a true true false false false)&&c)else(bif(a.kind==4)then(((jU a false false false false true)&&(decide (e>=0)))&&(decide (a.known>=(d.getD (Int.toNat e) default).known)))else false)))))
def rV (b:ah)(e:List bn)(a:bn):Prop:=letI c:=nE e a.of_;letI d:=qr b a;letI f:=jU a true true false true false;(((((((decide (a.no<0)) ||(decide (a.no > 1048576))) ||(decide (a.at_<0))) ||(decide (a.at_ > 4096))) ||(decide (a.known<0))) ||(decide (a.known > 1048576)))=false->(((a.kind==1)=true->((jU a true true true false false)=true->d))/\((a.kind==1)=false->(((a.kind==2)=true->((f=true->d)/\((f&&(n_ b a))=true->(rU b a.parts))))/\((a.kind==2)=false->(((a.kind==3)=true->((jU a true true false false false)=true->d))/\((a.kind==3)=false->((a.kind==4)=true->(((jU a false false false false true)&&(decide (c>=0)))=true->(0<=c/\c< (e.length:Int)))))))))))
@[go_sem] def JA:m0:=(pD .al λa=>(pR .M1 λb=>(pD .M1 λc=>(pE (.det (rV a b c) (.v (.bool (sK a b c))))))))
theorem HI:X1 prog 184 JA:=by
 have hG:=mG (cn [.st .M1,.o,.o,.o,.o,.o] Jx (cn [.st .al,.st .M1] Fb (cn [.st .al,.sl .part] HG (cn [.sl .M1,.o] HH Y1)))) Y1;refine fN hG f184 [.o] (ax λa0=>(bG λa1=>(ax λO=>(am (λE=>?_)))));dsimp only[an]at E;unfold rV at E;refine⟨nbl rfl,L0,ag _,?_⟩;unfold ae f184;try unfold sK
 exact zq2
@[go_sem] def mn (a:List bn)(b:Nat)(c:Unit):Unit⊕Unit:=(bif(decide ((((a.getD b default).parts).length:Int) > 16))then .inl ()else .inr ())
def rA (a:List bn):Bool:=(bif(decide ((a.length:Int) > 512))then true else(match aj (mn a) a.length 0 ()with| .inl b=>true| .inr c=>false))
@[go_sem] def MF:m0:=(pR .M1 λa=>(pE (.det True (.v (.bool (rA a))))))
theorem JB:X1 prog 183 MF:=by
 have hG:=mG Y1 Y1;refine fN hG f183 [.o] (bG λV=>(am (λY=>?_)));dsimp only[an]at Y;refine⟨nbl rfl,(λid st=>bif Nat.beq id 0 then some (LCR (ρ:=Unit) (σ:=Unit) 0 [] [] (λE O=>⟨[(0,.rs .M1 V),(3,.i E)],[]⟩) (mn V) pT V.length () (True) (λ_=>.ret) (λW=>⟨[(2,.v (.bool true))],[]⟩) st)else none),?_,?_⟩;unfold ae f183;simp only[ak,true_and,and_true];refine fj (V.length<=aI) mixed aB hG kr (λ_=>rfl) (V.length:Int) rfl fO (λhb0 E O X _ hw hc=>⟨L0,ag _,?_⟩) (λhb0 O hc=>?_) λhb0 E O=>?_;exact bC (jl []);exact bD (jl []);exact zq8;unfold ae f183;try unfold rA
 exact zq2
@[go_sem] def nF (d:ah)(b:List bn)(a:Nat)(c:Unit):Unit⊕Unit:=(bif(((decide ((a:Int) > 0))&&(decide ((b.getD a default).no<=(b.getD (Int.toNat (i64.wrap ((a:Int) - 1))) default).no))) ||(!(sK d ((b.take a).drop 0) (b.getD a default))))then .inl ()else .inr ())
def rB (d:ah)(a:List bn)(c:Nat)(h:Unit):Prop:=letI b:=(c:Int);letI e:=i64.wrap (b - 1);letI f:=a.getD c default;letI g:=(decide (b > 0))&&(decide (f.no<=(a.getD (Int.toNat e) default).no));(a.length<=aI->(((decide (b > 0))=true->(0<=e/\e< (a.length:Int)))/\((g=false->(0<=0/\0<=b/\b<=(a.length:Int)))/\(g=false->(rV d ((a.take c).drop 0) f)))))
def lF (d:ah)(a:List bn):Int:=(bif((nz d) !=0)then(nz d)else(bif(rA a)then 2 else(match aj (nF d a) a.length 0 ()with| .inl b=>250| .inr c=>0)))
def oK (d:ah)(a:List bn):Prop:=((rQ d)/\(((nz d) !=0)=false->((rA a)=false->okI (nF d a) (rB d a) a.length 0 ())))
@[go_sem] def JD:m0:=(pD .al λd=>(pR .M1 λa=>(pE (.det (oK d a) (.i (lF d a))))))
theorem y7:X1 prog 126 JD:=by
 have hG:=mG (cn [.st .al] Ho (cn [.sl .M1] JB (cn [.st .al,.sl .M1,.st .M1] HI Y1))) Y1;refine fN hG f126 [.o] (ax λd=>(bG λV=>(am (λhp=>?_))));dsimp only[an]at hp;unfold oK at hp;refine⟨nbl rfl,(λid st=>bif Nat.beq id 0 then some (LCR (ρ:=Unit) (σ:=Unit) 1 [] [0] (λE O=>⟨[(1,.rs .M1 V),(2,.ptr 0 0),(6,.i E)],[.cells (cellsOf .al d)]⟩) (nF d V) (rB d V) V.length () (True) (λ_=>.ret) (λX=>⟨[(4,.i 250)],[.dead]⟩) st)else none),?_,?_⟩;unfold ae f126;simp only[ak,true_and,and_true];refine fj (V.length<=aI) mixed aB hG kr (λ_=>rfl) (V.length:Int) rfl fO (λhb0 E O Y W hw hc=>⟨L0,ag _,?_⟩) (λhb0 O hc=>?_) λhb0 E O=>?_;unfold rB at W;try simp only[hw,aol]at W
 exact bC (jl [0]);exact bD (jl [0]);exact zq8;unfold ae f126;try unfold lF
 exact zq2
@[go_sem] def mo (a:List bn)(x:bn)(c:Int)(b:Nat)(d:Unit):Unit⊕Unit:=(bif((((a.getD b default).kind==4)&&((a.getD b default).of_==x.no))&&(decide ((a.getD b default).known<=c)))then .inl ()else .inr ())
def rC (a:List bn)(x:bn)(b:Int):Bool:=(match aj (mo a x b) a.length 0 ()with| .inl c=>true| .inr d=>false)
@[go_sem] def MG:m0:=(pR .M1 λa=>(pD .M1 λx=>(pI λb=>(pE (.det True (.v (.bool (rC a x b))))))))
theorem JE:X1 prog 257 MG:=by
 have hG:=mG Y1 Y1;refine fN hG f257 [.o] (bG λV=>(ax λx=>(aG λknown=>(am (λY=>?_)))));dsimp only[an]at Y;refine⟨nbl rfl,(λid st=>bif Nat.beq id 0 then some (LCR (ρ:=Unit) (σ:=Unit) 1 [] [0] (λE O=>⟨[(0,.rs .M1 V),(2,.i known),(4,.ptr 0 0),(7,.i E)],[.cells (cellsOf .M1 x)]⟩) (mo V x known) pT V.length () (True) (λ_=>.ret) (λW=>⟨[(6,.v (.bool true))],[.dead]⟩) st)else none),?_,?_⟩;unfold ae f257;simp only[ak,true_and,and_true];refine fj (V.length<=aI) mixed aB hG kr (λ_=>rfl) (V.length:Int) rfl fO (λhb0 E O X _ hw hc=>⟨L0,ag _,?_⟩) (λhb0 O hc=>?_) λhb0 E O=>?_;exact bC (jl [0]);exact bD (jl [0]);exact zq8;unfold ae f257;try unfold rC
 exact zq2
@[go_sem] def i6 (a:List bn)(c:Int)(e:List bn×Int)(b:Nat)(d:List bn):Empty⊕(List bn):=(bif(((((a.getD b default).at_==e.2)&&((a.getD b default).kind !=4))&&(decide ((a.getD b default).known<=c)))&&(!(rC a (a.getD b default) c)))then .inr (d++([(a.getD b default)]))else .inr d)
def ow (b:List bn)(c:Int)(d:List bn×Int)(e:Nat)(f:List bn):Prop:=letI a:=b.getD e default;(b.length<=aI->(((((a.at_==d.2)&&(a.kind !=4))&&(decide (a.known<=c)))&&(!(rC b a c)))=true->((f++([a])).length*88<=dT)))
@[go_sem] def gQ (b:List bn)(c d:Int)(f:Nat)(a:List bn×Int):(List bn)⊕(List bn×Int):=(bif((decide (a.2<=4096))&&(decide (a.2<=c)))then(match aj (i6 b d a) b.length 0 a.1 with| .inl x=>x.elim| .inr e=>.inr (e,(i64.wrap (a.2+1))))else .inl a.1)
def ju (b:List bn)(d c:Int)(e:Nat)(a:List bn×Int):Prop:=(((decide (a.2<=4096))&&(decide (a.2<=d)))=true->okI (i6 b c a) (ow b c a) b.length 0 a.1)
def dJ (b:List bn)(a c:Int):List bn:=(match aj (gQ b a c) (Int.toNat a+2) 0 ([],0)with| .inl d=>d| .inr e=>default)
def lr (b:List bn)(a c:Int):Prop:=(okI (gQ b a c) (ju b a c) (Int.toNat a+2) 0 ([],0)/\(∀ z_,aj (gQ b a c) (Int.toNat a+2) 0 ([],0)≠ .inr z_))
@[go_sem] def DB:m0:=(pR .M1 λa=>(pI λb=>(pI λc=>(pE (.det (lr a b c) (.nw .M1 (dJ a b c)))))))
theorem Cd:X1 prog 185 DB:=by
 have hG:=mG (cn [.sl .M1,.st .M1,.o] JE Y1) Y1;refine fW hG f185 [(.tmp 6,.M1)] (bG λV=>(aG λhour=>(aG λknown=>(am (λhp=>?_)))));dsimp only[an]at hp;unfold lr at hp;refine⟨nbl rfl,(λid st=>bif Nat.beq id 0 then some (LCV (ρ:=(List bn)) (σ:=(List bn×Int)) 0 [.slot 7 (.row .M1 ([]))] [0] (λY E=>⟨[(0,.rs .M1 V),(1,.i hour),(2,.i known),(7,.os 0),(8,.i E.2)],[.row .M1 E.1]⟩) (gQ V hour known) (ju V hour known) (Int.toNat hour+2) ([],0) (λ_=>.normal) (λW=>⟨[(7,.os 0)],[.row .M1 W]⟩) st)else none),?_,?_⟩;unfold ae f185;simp only[ak,true_and,and_true];refine fw mixed aB hG kr (λ_=>rfl) λY E hq0=>⟨(λid st=>bif Nat.beq id 2 then some (LCR (ρ:=Empty) (σ:=(List bn)) 1 [] [0,0] (λX O=>⟨[(0,.rs .M1 V),(1,.i hour),(2,.i known),(7,.os 1),(8,.i E.2),(9,.i X)],[.dead,.row .M1 O]⟩) (i6 V known E) (ow V known E) V.length E.1 (True) ((·.elim)) ((·.elim)) st)else none),?_,?_⟩;simp only[ak,true_and,and_true];refine fj (V.length<=aI) mixed aB hG kr (λ_=>rfl) (V.length:Int) rfl fO (λhb1 X O as6 hq1 hw hc=>⟨L0,ag _,?_⟩) (λhb1 O hc=>?_) λhb1 X O=>?_;unfold ow at hq1;try simp only[hw,aol]at hq1
 exact lm (jl [0,4]) (jl [0,1]);exact ln (jl [0,4]) (jl [0,1]);exact RU;unfold ju at hq0;exact sI (jl [1]) (jl [0]);unfold ae f185;try unfold dJ
 exact zq2
theorem Pq(a0:JL l0)(a1:JL l1)(h:JL l0->JL l1->p:=by intro ja jb;(first|done|(repeat' (first|with_reducible refine And.intro ?_ ?_|((with_reducible show _≠_);first|assumption|omega|(simp_all [bp,eS];done) |grind) |with_reducible intro _)) <;>(first|done|with_reducible exact Empty.elim ‹Empty› |with_reducible assumption|rfl|omega|assumption|decide|exact fk ja|exact fk jb|(simp only[*,cond_true,cond_false,aoH,aoS,go_sem];done) |(simp only[*,cond_true,cond_false,aoH,aoS,go_sem];(repeat' (first|with_reducible refine And.intro ?_ ?_|((with_reducible show _≠_);first|assumption|omega|(simp_all [bp,eS];done) |grind) |with_reducible intro _)) <;>(first|done|assumption|rfl|omega|decide|exact fk ja|exact fk jb|(simp_all [bp,eS];done))) |(simp_all [okI,bp,eS];done) |(simp_all [bp,eS];(first|done|exact fk2 ja|exact fk2 jb)) |exact fk2 ja|exact fk2 jb|(simp_all only[bp,eS,cond_true,cond_false];(first|done|exact fk ja|exact fk jb|exact fk2 ja|exact fk2 jb|(simp only[go_sem];((repeat' (first|with_reducible refine And.intro ?_ ?_|((with_reducible show _≠_);first|assumption|omega|(simp_all [bp,eS];done) |grind) |with_reducible intro _)) <;>(first|done|rfl|exact fk ja|exact fk jb|exact fk2 ja|exact fk2 jb)))))))):p:=h a0 a1
theorem Pr(a0:JL l0)(h:JL l0->p:=by intro ja;(first|done|(repeat' (first|with_reducible refine And.intro ?_ ?_|((with_reducible show _≠_);first|assumption|omega|(simp_all [bp,eS];done) |grind) |with_reducible intro _)) <;>(first|done|with_reducible exact Empty.elim ‹Empty› |with_reducible assumption|rfl|omega|assumption|decide|exact fk ja|(simp only[*,cond_true,cond_false,aoH,aoS,go_sem];done) |(simp only[*,cond_true,cond_false,aoH,aoS,go_sem];(repeat' (first|with_reducible refine And.intro ?_ ?_|((with_reducible show _≠_);first|assumption|omega|(simp_all [bp,eS];done) |grind) |with_reducible intro _)) <;>(first|done|assumption|rfl|omega|decide|exact fk ja|(simp_all [bp,eS];done))) |(simp_all [okI,bp,eS];done) |(simp_all [bp,eS];(first|done|exact fk2 ja)) |exact fk2 ja|(simp_all only[bp,eS,cond_true,cond_false];(first|done|exact fk ja|exact fk2 ja|(simp only[go_sem];((repeat' (first|with_reducible refine And.intro ?_ ?_|((with_reducible show _≠_);first|assumption|omega|(simp_all [bp,eS];done) |grind) |with_reducible intro _)) <;>(first|done|rfl|exact fk ja|exact fk2 ja)))))))):p:=h a0
theorem HJ(a0:JL l0)(a1:JL l1)(h:JL l0->JL l1->p:=by intro ja jb;simp only[go_sem,hc,hw];all_goals exact Pq ja jb):p:=h a0 a1
theorem HK(a0:JL l0)(a1:JL l1)(h:JL l0->JL l1->p:=by intro ja jb;simp only[go_sem,hc];all_goals exact Pq ja jb):p:=h a0 a1
theorem Ps(a0:JL l0)(h:JL l0->p:=by intro ja;simp only[go_sem,hc,hw];all_goals exact Pr ja):p:=h a0
theorem Pt(a0:JL l0)(h:JL l0->p:=by intro ja;simp only[go_sem,hc];all_goals exact Pr ja):p:=h a0
@[go_sem] def eT (f:List bn)(g:Nat)(h:List Int×List Int)(i:Nat)(a:List Int×Int):Empty⊕(List Int×Int):=letI b:=f.getD g default;letI c:=(b.parts).getD i default;letI d:=ib (c.share) (h.2.getD (Int.toNat (b.since)) 0);letI e:=Int.toNat (c.dd);.inr ((a.1.set e (i64.wrap ((a.1.getD e 0)+d.1))),(i64.wrap (a.2 - d.1)))
def mF (d:List bn)(e:Nat)(f:List Int×List Int)(g:Nat)(h:List Int×Int):Prop:=letI a:=d.getD e default;letI b:=(a.parts).getD g default;letI c:=0<=b.dd/\b.dd< (h.1.length:Int);((a.parts).length<=aI->((oI (b.share) (f.2.getD (Int.toNat (a.since)) 0))/\(c/\c)))
@[go_sem] def o_ (a:List bn)(b:Nat)(e:List Int×Int)(c:Nat)(d:List Int):Empty⊕(List Int):=.inr (d.set (Int.toNat ((((a.getD b default).parts).getD c default).dd)) (i64.wrap ((d.getD (Int.toNat ((((a.getD b default).parts).getD c default).dd)) 0)+1)))
def mH (e:List bn)(f:Nat)(h:List Int×Int)(a:Nat)(g:List Int):Prop:=letI b:=(e.getD f default).parts;letI c:=b.getD a default;letI d:=0<=c.dd/\c.dd< (g.length:Int);((0<=(a:Int)/\(a:Int) < (b.length:Int))/\(d/\d))
@[go_sem] def jm (c:List bn)(k:Int)(d:Nat)(a:List Int×List Int):Empty⊕(List Int×List Int):=letI b:=c.getD d default;letI h:=Int.toNat (b.since);letI e:=a.2.getD h 0;letI f:=a.2.set h 0;letI i:=Int.toNat (b.to);letI j:=bif(b.kind==1)then(f.set i (i64.wrap ((f.getD i 0)+e)))else f;(bif(b.right !=k)then .inr (a.1,a.2)else(bif(e==0)then .inr ((a.1++([b.no])),a.2)else(bif(b.kind==2)then(match aj (eT c d a) ((b.parts).length) 0 (j,e)with| .inl x=>x.elim| .inr g=>(match aj (o_ c d g) (Int.toNat g.2) 0 g.1 with| .inl x=>x.elim| .inr l=>.inr (a.1,l)))else .inr (a.1,j))))
def i9 (b:List bn)(n:Int)(d:Nat)(c:List Int×List Int):Prop:=letI a:=b.getD d default;letI g:=Int.toNat (a.since);letI e:=c.2.set g 0;letI h:=0<=a.since/\a.since< (c.2.length:Int);letI f:=c.2.getD g 0;letI i:=0<=a.to/\a.to< (e.length:Int);letI j:=eT b d c;letI k:=(a.parts).length;letI l:=Int.toNat (a.to);letI m:=((bif(a.kind==1)then(e.set l (i64.wrap ((e.getD l 0)+f)))else e),f);(b.length<=aI->((a.right !=n)=false->(h/\(((f==0)=true->((c.1++([a.no])).length*8<=dT))/\((f==0)=false->(h/\(((a.kind==1)=true->(i/\i))/\((a.kind==2)=true->(okI j (mF b d c) k 0 m/\(∀ s_1,aj j k 0 m=.inr s_1->((s_1.2<9223372036854775808)/\okI (o_ b d s_1) (mH b d s_1) (Int.toNat s_1.2) 0 s_1.1)))))))))))
def fq (a:ah)(b:List bn)(c:Int):List Int×List Int:=letI d:=a.bh.getD (Int.toNat c) default;(match aj (jm b c) b.length 0 ([],((List.replicate (Int.toNat (a.zs.length:Int)) (0:Int)).set (Int.toNat (d.dd)) d.bl))with| .inl x=>x.elim| .inr e=>(e.2,e.1))
def qs (c:ah)(e:List bn)(b:Int):Prop:=letI a:=(c.zs.length:Int);letI d:=c.bh.getD (Int.toNat b) default;letI f:=List.replicate (Int.toNat a) (0:Int);letI g:=0<=b/\b< (c.bh.length:Int);(c.zs.length<=aI->((a=a/\0<=a/\a*((8:Nat):Int)<=((dT:Nat):Int))/\(a<=((aI:Nat):Int)->(g/\(g/\((0<=d.dd/\d.dd< (f.length:Int))/\okI (jm e b) (i9 e b) e.length 0 ([],(f.set (Int.toNat (d.dd)) d.bl))))))))
@[go_sem] def HL:m0:=(pD .al λa=>(pR .M1 λb=>(pI λc=>(pE (.det (qs a b c) (.tup [.nw .int ((fq a b c).1),.nw .int ((fq a b c).2)]))))))
theorem Fc:X1 prog 186 HL:=by
 have hG:=mG (cp Hi Y1) Y1;refine fW hG f186 [(.tmp 6,.int),(.tmp 7,.int)] (ax λa0=>(bG λa1=>(aG λW=>(am (λhp=>?_)))));dsimp only[an]at hp;unfold qs at hp;refine⟨nbl rfl,(λid st=>bif Nat.beq id 0 then some (LCR (ρ:=Empty) (σ:=(List Int×List Int)) 2 [.slot 9 (.row .int ([]))] [0,1,2] (λE O=>⟨[(1,.rs .M1 a1),(2,.i W),(8,.os 1),(9,.os 2),(10,.i E)],[.dead,.row .int O.2,.row .int O.1]⟩) (jm a1 W) (i9 a1 W) a1.length ([],((List.replicate (Int.toNat (a0.zs.length:Int)) (0:Int)).set (Int.toNat ((a0.bh.getD (Int.toNat W) (default:ar4)).dd)) (a0.bh.getD (Int.toNat W) (default:ar4)).bl)) (True) ((·.elim)) ((·.elim)) st)else none),?_,?_⟩;unfold ae f186;simp only[ak,true_and,and_true];refine fj (a1.length<=aI) mixed aB hG kr (λ_=>rfl) (a1.length:Int) rfl fO (λhb0 E O asO hq0 hw hc=>⟨(λid st=>bif Nat.beq id 1000069 then some (JC (⟨[(1,.rs .M1 a1),(2,.i W),(8,.os 1),(9,.os 2),(10,.i E),(11,.ptr 3 0),(12,.i (O.2.getD (Int.toNat ((a1.getD E (default:bn)).since)) (0:Int)))],[.dead,.row .int (bif((a1.getD E (default:bn)).kind==1)then((O.2.set (Int.toNat ((a1.getD E (default:bn)).since)) 0).set (Int.toNat ((a1.getD E (default:bn)).to)) (i64.wrap (((O.2.set (Int.toNat ((a1.getD E (default:bn)).since)) 0).getD (Int.toNat ((a1.getD E (default:bn)).to)) (0:Int))+(O.2.getD (Int.toNat ((a1.getD E (default:bn)).since)) (0:Int)))))else(O.2.set (Int.toNat ((a1.getD E (default:bn)).since)) 0)),.row .int O.1,.cells (cellsOf .M1 (a1.getD E (default:bn)))]⟩))else bif Nat.beq id 2 then some (LCR (ρ:=Empty) (σ:=(List Int×Int)) 4 [] [0,1,2,3] (λY V=>⟨[(1,.rs .M1 a1),(2,.i W),(8,.os 1),(9,.os 2),(10,.i E),(11,.ptr 3 0),(12,.i (O.2.getD (Int.toNat ((a1.getD E (default:bn)).since)) (0:Int))),(13,.i V.2),(14,.i Y)],[.dead,.row .int V.1,.row .int O.1,.cells (cellsOf .M1 (a1.getD E (default:bn)))]⟩) (eT a1 E O) (mF a1 E O) (((a1.getD E (default:bn)).parts).length) ((bif((a1.getD E (default:bn)).kind==1)then((O.2.set (Int.toNat ((a1.getD E (default:bn)).since)) 0).set (Int.toNat ((a1.getD E (default:bn)).to)) (i64.wrap (((O.2.set (Int.toNat ((a1.getD E (default:bn)).since)) 0).getD (Int.toNat ((a1.getD E (default:bn)).to)) (0:Int))+(O.2.getD (Int.toNat ((a1.getD E (default:bn)).since)) (0:Int)))))else(O.2.set (Int.toNat ((a1.getD E (default:bn)).since)) 0)),(O.2.getD (Int.toNat ((a1.getD E (default:bn)).since)) (0:Int))) (True) ((·.elim)) ((·.elim)) st)else bif Nat.beq id 4 then some (LCR (ρ:=Empty) (σ:=(List Int)) 4 [] [0,1,2,3] (λk_2 X=>⟨[(1,.rs .M1 a1),(2,.i W),(8,.os 1),(9,.os 2),(10,.i E),(11,.ptr 3 0),(13,.v (.int .i64 (bp (aj (eT a1 E O) (((a1.getD E (default:bn)).parts).length) 0 ((bif((a1.getD E (default:bn)).kind==1)then((O.2.set (Int.toNat ((a1.getD E (default:bn)).since)) 0).set (Int.toNat ((a1.getD E (default:bn)).to)) (i64.wrap (((O.2.set (Int.toNat ((a1.getD E (default:bn)).since)) 0).getD (Int.toNat ((a1.getD E (default:bn)).to)) (0:Int))+(O.2.getD (Int.toNat ((a1.getD E (default:bn)).since)) (0:Int)))))else(O.2.set (Int.toNat ((a1.getD E (default:bn)).since)) 0)),(O.2.getD (Int.toNat ((a1.getD E (default:bn)).since)) (0:Int))))).2)),(18,.i k_2)],[.dead,.row .int X,.row .int O.1,.cells (cellsOf .M1 (a1.getD E (default:bn)))]⟩) (o_ a1 E (bp (aj (eT a1 E O) (((a1.getD E (default:bn)).parts).length) 0 ((bif((a1.getD E (default:bn)).kind==1)then((O.2.set (Int.toNat ((a1.getD E (default:bn)).since)) 0).set (Int.toNat ((a1.getD E (default:bn)).to)) (i64.wrap (((O.2.set (Int.toNat ((a1.getD E (default:bn)).since)) 0).getD (Int.toNat ((a1.getD E (default:bn)).to)) (0:Int))+(O.2.getD (Int.toNat ((a1.getD E (default:bn)).since)) (0:Int)))))else(O.2.set (Int.toNat ((a1.getD E (default:bn)).since)) 0)),(O.2.getD (Int.toNat ((a1.getD E (default:bn)).since)) (0:Int)))))) (mH a1 E (bp (aj (eT a1 E O) (((a1.getD E (default:bn)).parts).length) 0 ((bif((a1.getD E (default:bn)).kind==1)then((O.2.set (Int.toNat ((a1.getD E (default:bn)).since)) 0).set (Int.toNat ((a1.getD E (default:bn)).to)) (i64.wrap (((O.2.set (Int.toNat ((a1.getD E (default:bn)).since)) 0).getD (Int.toNat ((a1.getD E (default:bn)).to)) (0:Int))+(O.2.getD (Int.toNat ((a1.getD E (default:bn)).since)) (0:Int)))))else(O.2.set (Int.toNat ((a1.getD E (default:bn)).since)) 0)),(O.2.getD (Int.toNat ((a1.getD E (default:bn)).since)) (0:Int)))))) (Int.toNat (bp (aj (eT a1 E O) (((a1.getD E (default:bn)).parts).length) 0 ((bif((a1.getD E (default:bn)).kind==1)then((O.2.set (Int.toNat ((a1.getD E (default:bn)).since)) 0).set (Int.toNat ((a1.getD E (default:bn)).to)) (i64.wrap (((O.2.set (Int.toNat ((a1.getD E (default:bn)).since)) 0).getD (Int.toNat ((a1.getD E (default:bn)).to)) (0:Int))+(O.2.getD (Int.toNat ((a1.getD E (default:bn)).since)) (0:Int)))))else(O.2.set (Int.toNat ((a1.getD E (default:bn)).since)) 0)),(O.2.getD (Int.toNat ((a1.getD E (default:bn)).since)) (0:Int))))).2) ((bp (aj (eT a1 E O) (((a1.getD E (default:bn)).parts).length) 0 ((bif((a1.getD E (default:bn)).kind==1)then((O.2.set (Int.toNat ((a1.getD E (default:bn)).since)) 0).set (Int.toNat ((a1.getD E (default:bn)).to)) (i64.wrap (((O.2.set (Int.toNat ((a1.getD E (default:bn)).since)) 0).getD (Int.toNat ((a1.getD E (default:bn)).to)) (0:Int))+(O.2.getD (Int.toNat ((a1.getD E (default:bn)).since)) (0:Int)))))else(O.2.set (Int.toNat ((a1.getD E (default:bn)).since)) 0)),(O.2.getD (Int.toNat ((a1.getD E (default:bn)).since)) (0:Int))))).1) ((bp (aj (eT a1 E O) (((a1.getD E (default:bn)).parts).length) 0 ((bif((a1.getD E (default:bn)).kind==1)then((O.2.set (Int.toNat ((a1.getD E (default:bn)).since)) 0).set (Int.toNat ((a1.getD E (default:bn)).to)) (i64.wrap (((O.2.set (Int.toNat ((a1.getD E (default:bn)).since)) 0).getD (Int.toNat ((a1.getD E (default:bn)).to)) (0:Int))+(O.2.getD (Int.toNat ((a1.getD E (default:bn)).since)) (0:Int)))))else(O.2.set (Int.toNat ((a1.getD E (default:bn)).since)) 0)),(O.2.getD (Int.toNat ((a1.getD E (default:bn)).since)) (0:Int))))).2<9223372036854775808) ((·.elim)) ((·.elim)) st)else none),?_,?_⟩) (λhb0 O hc=>?_) λhb0 E O=>?_;simp only[ak,true_and,and_true];refine⟨?_,?_⟩;refine fj (((a1.getD E (default:bn)).parts).length<=aI) mixed aB hG kr (λ_=>rfl) (((a1.getD E (default:bn)).parts).length:Int) rfl fO (λhb1 Y V as6 hq1 hw hc=>⟨L0,ag _,?_⟩) (λhb1 V hc=>?_) λhb1 Y V=>?_;unfold mF at hq1;try simp only[hw,aol]at hq1
 exact Ps (jl [0,1,2,3]);exact Pt (jl [0,1,2,3]);exact RU;refine bu mixed aB hG kr (λ_=>rfl) ((bp (aj (eT a1 E O) (((a1.getD E (default:bn)).parts).length) 0 ((bif((a1.getD E (default:bn)).kind==1)then((O.2.set (Int.toNat ((a1.getD E (default:bn)).since)) 0).set (Int.toNat ((a1.getD E (default:bn)).to)) (i64.wrap (((O.2.set (Int.toNat ((a1.getD E (default:bn)).since)) 0).getD (Int.toNat ((a1.getD E (default:bn)).to)) (0:Int))+(O.2.getD (Int.toNat ((a1.getD E (default:bn)).since)) (0:Int)))))else(O.2.set (Int.toNat ((a1.getD E (default:bn)).since)) 0)),(O.2.getD (Int.toNat ((a1.getD E (default:bn)).since)) (0:Int))))).2) rfl id (λhb2 k_2 X hlt2 hq2 hw hc=>⟨L0,ag _,?_⟩) (λhb2 X hc=>?_);unfold mH at hq2;try simp only[hw,aol]at hq2
 exact Ps (jl [0,1,2,3]);exact Pt (jl [0,1,2,3]);unfold i9 at hq0;try simp only[hw,aol]at hq0
 exact HJ (jl [0,1,2]) (jl [0,1,5]);exact HK (jl [0,1,2]) (jl [0,1,5]);exact zq8;unfold ae f186;try unfold fq
 exact zq2
@[go_sem] def pF (b:ah)(f:List bn)(g h:Int)(a c:Nat)(d:List arI):Empty⊕(List arI):=letI e:=((fq b (dJ f g h) (a:Int)).1).getD c 0;(bif(decide (e > 0))then .inr (d++([({ right:=(a:Int),dd:=(c:Int),bl:=e,arM:=(b.bh.getD a default).arM}:arI)]))else .inr d)
def oL (d:ah)(e:List bn)(f g:Int)(a b:Nat)(h:List arI):Prop:=letI c:=(fq d (dJ e f g) (a:Int)).1;(c.length<=aI->((decide ((c.getD b 0) > 0))=true->((h++([({ right:=(a:Int),dd:=(b:Int),bl:=(c.getD b 0),arM:=(d.bh.getD a default).arM}:arI)])).length*32<=dT)))
@[go_sem] def pG (a:ah)(c:List bn)(d e:Int)(b:Nat)(f:List arI):Empty⊕(List arI):=(bif((a.bh.getD b default).kind !=1)then .inr f else(match aj (pF a c d e b) (((fq a (dJ c d e) (b:Int)).1).length) 0 f with| .inl x=>x.elim| .inr g=>.inr g))
def oM (a:ah)(c:List bn)(d e:Int)(b:Nat)(g:List arI):Prop:=letI f:=dJ c d e;(a.bh.length<=aI->(((a.bh.getD b default).kind !=1)=false->((qs a f (b:Int))/\okI (pF a c d e b) (oL a c d e b) (((fq a f (b:Int)).1).length) 0 g)))
def lu (a:ah)(d:List bn)(b c:Int):List arI×Int:=letI e:=lF a d;(bif(e !=0)then([],e)else(bif((((decide (b<0)) ||(decide (b>=a.hours))) ||(decide (c<0))) ||(decide (c > 1048576)))then([],1)else(match aj (pG a d b c) a.bh.length 0 ([])with| .inl x=>x.elim| .inr f=>(f,0))))
def uI (a:ah)(b:List bn)(c d:Int):Prop:=((oK a b)/\(((lF a b) !=0)=false->(((((decide (c<0)) ||(decide (c>=a.hours))) ||(decide (d<0))) ||(decide (d > 1048576)))=false->((lr b c d)/\okI (pG a b c d) (oM a b c d) a.bh.length 0 ([])))))
@[go_sem] def Sa:m0:=(pD .al λa=>(pR .M1 λb=>(pI λc=>(pI λd=>(pE (.det (uI a b c d) (.tup [.nw .holding ((lu a b c d).1),.i ((lu a b c d).2)])))))))
theorem Pu:X1 prog 127 Sa:=by
 have hG:=mG (cn [.st .al,.sl .M1] y7 (cn [.sl .M1,.o,.o] Cd (cn [.st .al,.sl .M1,.o] Fc Y1))) Y1;refine fW hG f127 [(.tmp 8,.holding)] (ax λa0=>(bG λa1=>(aG λW=>(aG λV=>(am (λhp=>?_))))));dsimp only[an]at hp;unfold uI at hp;refine⟨nbl rfl,(λid st=>bif Nat.beq id 0 then some (LCR (ρ:=Empty) (σ:=(List arI)) 2 [.slot 12 (.row .holding ([]))] [0,1,2] (λE O=>⟨[(4,.ptr 0 0),(11,.os 1),(12,.os 2),(13,.i E)],[.cells (cellsOf .al a0),.row .M1 (dJ a1 W V),.row .holding O]⟩) (pG a0 a1 W V) (oM a0 a1 W V) a0.bh.length ([]) (True) ((·.elim)) ((·.elim)) st)else none),?_,?_⟩;unfold ae f127;simp only[ak,true_and,and_true];refine fj (a0.bh.length<=aI) mixed aB hG kr (λ_=>rfl) (a0.bh.length:Int) rfl fO (λhb0 E O asO hq0 hw hc=>⟨(λid st=>bif Nat.beq id 2 then some (LCR (ρ:=Empty) (σ:=(List arI)) 5 [] [0,1,2,3,4,2] (λY X=>⟨[(4,.ptr 0 0),(11,.os 1),(12,.os 5),(13,.i E),(14,.os 3),(16,.i Y)],[.cells (cellsOf .al a0),.row .M1 (dJ a1 W V),.dead,.row .int ((fq a0 (dJ a1 W V) (E:Int)).1),.dead,.row .holding X]⟩) (pF a0 a1 W V E) (oL a0 a1 W V E) (((fq a0 (dJ a1 W V) (E:Int)).1).length) O (True) ((·.elim)) ((·.elim)) st)else none),?_,?_⟩) (λhb0 O hc=>?_) λhb0 E O=>?_;simp only[ak,true_and,and_true];refine fj (((fq a0 (dJ a1 W V) (E:Int)).1).length<=aI) mixed aB hG kr (λ_=>rfl) (((fq a0 (dJ a1 W V) (E:Int)).1).length:Int) rfl fO (λhb1 Y X as6 hq1 hw hc=>⟨L0,ag _,?_⟩) (λhb1 X hc=>?_) λhb1 Y X=>?_;unfold oL at hq1;try simp only[hw,aol]at hq1
 exact HJ (jl [0,1,2,3,4,7]) (jl [0,1,2,3,4,5]);exact HK (jl [0,1,2,3,4,7]) (jl [0,1,2,3,4,5]);exact RU;unfold oM at hq0;try simp only[hw,aol]at hq0
 exact HJ (jl [0,1,2]) (jl [0,1,5]);exact HK (jl [0,1,2]) (jl [0,1,5]);exact zq8;unfold ae f127;try unfold lu
 exact zq2
@[go_sem] def Ce (a b:List Int)(c:Nat)(d:Unit):Unit⊕Unit:=(bif((a.getD c 0) !=(b.getD c 0))then .inl ()else .inr ())
def YG (a b:List Int):Bool:=(bif((a.length:Int) !=(b.length:Int))then false else(match aj (Ce a b) a.length 0 ()with| .inl c=>false| .inr d=>true))
@[go_sem] def Cf (a:List bn)(b:Nat)(c:Unit):Unit⊕Unit:=(bif(decide ((((a.getD b default).parts).length:Int) > 100))then .inl ()else .inr ())
def DC (d:ah)(a:List bn):Bool:=letI b:=(a.length:Int);letI c:=(d.bh.length:Int);letI e:=(d.zs.length:Int);(bif((decide (b > 512))&&(decide (b<=700)))then(zF d)else(bif((((decide (b > 60)) ||(!(zF d))) ||((decide (c > 40))&&(decide (c<=256)))) ||((decide (e > 60))&&(decide (e<=600))))then false else(match aj (Cf a) a.length 0 ()with| .inl f=>false| .inr g=>true)))
@[go_sem] def Pv:m0:=(pD .al λd=>(pR .M1 λa=>(pE (.det True (.v (.bool (DC d a)))))))
theorem MH:X1 prog 65 Pv:=by
 have hG:=mG (cn [.st .al] Mr Y1) Y1;refine fN hG f65 [.o] (ax λd=>(bG λV=>(am (λY=>?_))));dsimp only[an]at Y;refine⟨nbl rfl,(λid st=>bif Nat.beq id 0 then some (LCR (ρ:=Unit) (σ:=Unit) 1 [] [0] (λE O=>⟨[(1,.rs .M1 V),(5,.i E)],[.dead]⟩) (Cf V) pT V.length () (True) (λ_=>.ret) (λW=>⟨[(4,.v (.bool false))],[.dead]⟩) st)else none),?_,?_⟩;unfold ae f65;simp only[ak,true_and,and_true];refine fj (V.length<=aI) mixed aB hG kr (λ_=>rfl) (V.length:Int) rfl fO (λhb0 E O X _ hw hc=>⟨L0,ag _,?_⟩) (λhb0 O hc=>?_) λhb0 E O=>?_;exact bC (jl [0]);exact bD (jl [0]);exact zq8;unfold ae f65;try unfold DC
 exact zq2
def qt (a b:Claim):Bool:=(bif(a.hour !=b.hour)then(decide (a.hour<b.hour))else(bif(a.arM !=b.arM)then(decide (a.arM<b.arM))else(bif(a.right !=b.right)then(decide (a.right<b.right))else(decide (a.dd<b.dd)))))
@[go_sem] def HM:m0:=(pD .W2 λa=>(pD .W2 λb=>(pE (.det True (.v (.bool (qt a b)))))))
theorem Fd:X1 prog 187 HM:=by
 have hG:=mG Y1 Y1;refine fN hG f187 [.o] (ax λa=>(ax λb=>(am (λE=>?_))));dsimp only[an]at E;refine⟨nbl rfl,L0,ag _,?_⟩;unfold ae f187;try unfold qt
 exact zq2
def zL (d:ah)(e:List bn)(a b:Int):Bool:=letI c:=(d.bh.length:Int);(bif((!(DC d e)) ||((decide (c > 40))&&(decide (c<=256))))then false else(((((decide (a<0)) ||(decide (a > b))) ||(decide (b>=d.hours))) ||(decide (d.hours > 4096))) ||(decide ((i64.wrap (b - a)) <60))))
@[go_sem] def Pw:m0:=(pD .al λd=>(pR .M1 λa=>(pI λb=>(pI λc=>(pE (.det True (.v (.bool (zL d a b c)))))))))
theorem MI:X1 prog 25 Pw:=by
 have hG:=mG (cn [.st .al,.sl .M1] MH Y1) Y1;refine fN hG f25 [.o] (ax λd=>(bG λO=>(aG λfr=>(aG λto=>(am (λE=>?_))))));dsimp only[an]at E;refine⟨nbl rfl,L0,ag _,?_⟩;unfold ae f25;try unfold zL
 exact zq2
def rD (x:ar4)(a:Int):Bool:=(bif(((x.kind !=1) ||(decide (a<x.since))) ||(decide (a > x.to)))then false else(decide ((Int.tmod (i64.wrap (a - x.since)) x.every) <x.length)))
def xq (x:ar4)(a:Int):Prop:=((((x.kind !=1) ||(decide (a<x.since))) ||(decide (a > x.to)))=false->x.every≠0)
@[go_sem] def MK:m0:=(pD .right λx=>(pI λa=>(pE (.det (xq x a) (.v (.bool (rD x a)))))))
theorem JF:X1 prog 128 MK:=by
 have hG:=mG Y1 Y1;refine fN hG f128 [.o] (ax λx=>(aG λhour=>(am (λE=>?_))));dsimp only[an]at E;unfold xq at E;refine⟨nbl rfl,L0,ag _,?_⟩;unfold ae f128;try unfold rD
 exact zq2
def cB (x:ar4)(a b c d:Int):Bool:=(((((x.kind==a)&&(x.dd==b))&&(x.reach==c))&&(decide (x.since<=d)))&&(decide (d<=x.to)))
@[go_sem] def JG:m0:=(pD .right λx=>(pI λa=>(pI λb=>(pI λc=>(pI λd=>(pE (.det True (.v (.bool (cB x a b c d))))))))))
theorem y8:X1 prog 188 JG:=by
 have hG:=mG Y1 Y1;refine fN hG f188 [.o] (ax λx=>(aG λkind=>(aG λdd=>(aG λreach=>(aG λhour=>(am (λE=>?_)))))));dsimp only[an]at E;refine⟨nbl rfl,L0,ag _,?_⟩;unfold ae f188;try unfold cB
 exact zq2
@[go_sem] def uJ (d:ah)(a b c:Int)(e:Nat)(f:Unit):Unit⊕Unit:=(bif(cB (d.bh.getD e default) 3 a b c)then .inl ()else .inr ())
def nG (d:ah)(a b c:Int):Bool:=(match aj (uJ d a b c) d.bh.length 0 ()with| .inl e=>true| .inr f=>false)
@[go_sem] def JH:m0:=(pD .al λd=>(pI λa=>(pI λb=>(pI λc=>(pE (.det True (.v (.bool (nG d a b c)))))))))
theorem HN:X1 prog 189 JH:=by
 have hG:=mG (cp y8 Y1) Y1;refine fN hG f189 [.o] (ax λd=>(aG λdd=>(aG λreach=>(aG λhour=>(am (λX=>?_))))));dsimp only[an]at X;refine⟨nbl rfl,(λid st=>bif Nat.beq id 0 then some (LCR (ρ:=Unit) (σ:=Unit) 1 [] [0] (λE O=>⟨[(1,.i dd),(2,.i reach),(3,.i hour),(4,.ptr 0 0),(9,.i E)],[.cells (cellsOf .al d)]⟩) (uJ d dd reach hour) pT d.bh.length () (True) (λ_=>.ret) (λV=>⟨[(8,.v (.bool true))],[.dead]⟩) st)else none),?_,?_⟩;unfold ae f189;simp only[ak,true_and,and_true];refine fj (d.bh.length<=aI) mixed aB hG kr (λ_=>rfl) (d.bh.length:Int) rfl fO (λhb0 E O W _ hw hc=>⟨L0,ag _,?_⟩) (λhb0 O hc=>?_) λhb0 E O=>?_;exact bC (jl [0]);exact bD (jl [0]);exact zq8;unfold ae f189;try unfold nG
 exact zq2
@[go_sem] def xr (d:ah)(a c e:Int)(b:Nat)(f:Unit):Unit⊕Unit:=(bif(((d.bh.getD b default).dd !=a)&&(cB (d.bh.getD b default) 2 ((d.bh.getD b default).dd) c e))then .inl ()else .inr ())
def rE (d:ah)(a b c:Int):Bool:=(match aj (xr d a b c) d.bh.length 0 ()with| .inl e=>(nG d a b c) | .inr f=>true)
@[go_sem] def Px:m0:=(pD .al λd=>(pI λa=>(pI λb=>(pI λc=>(pE (.det True (.v (.bool (rE d a b c)))))))))
theorem ML:X1 prog 131 Px:=by
 have hG:=mG (cp y8 (cn [.st .al,.o,.o,.o] HN Y1)) Y1;refine fN hG f131 [.o] (ax λd=>(aG λdd=>(aG λreach=>(aG λhour=>(am (λX=>?_))))));dsimp only[an]at X;refine⟨nbl rfl,(λid st=>bif Nat.beq id 0 then some (LCR (ρ:=Unit) (σ:=Unit) 1 [] [0] (λE O=>⟨[(1,.i dd),(2,.i reach),(3,.i hour),(4,.ptr 0 0),(9,.i E)],[.cells (cellsOf .al d)]⟩) (xr d dd reach hour) pT d.bh.length () (True) (λ_=>.ret) (λV=>⟨[(8,.v (.bool (nG d dd reach hour)))],[.dead]⟩) st)else none),?_,?_⟩;unfold ae f131;simp only[ak,true_and,and_true];refine fj (d.bh.length<=aI) mixed aB hG kr (λ_=>rfl) (d.bh.length:Int) rfl fO (λhb0 E O W _ hw hc=>⟨L0,ag _,?_⟩) (λhb0 O hc=>?_) λhb0 E O=>?_;exact bC (jl [0]);exact bD (jl [0]);exact zq8;unfold ae f131;try unfold rE
 exact zq2
@[go_sem] def iC (d:ah)(b:Nat)(a:List Int):(List Int)⊕(List Int):=(bif(decide ((a.getD 0 0) > 0))then .inr (([(d.reaches.getD (Int.toNat (a.getD 0 0)) default).up])++a)else .inl a)
def km (d:ah)(e:Nat)(b:List Int):Prop:=letI a:=b.getD 0 0;letI c:=0<=0/\0< (b.length:Int);(c/\((decide (a > 0))=true->(c/\((0<=a/\a< (d.reaches.length:Int))/\((([(d.reaches.getD (Int.toNat a) default).up])++b).length*8<=dT)))))
def jV (d:ah)(a:Int):List Int:=(match aj (iC d) 66 0 ([a])with| .inl b=>b| .inr c=>default)
def tL (d:ah)(a:Int):Prop:=(okI (iC d) (km d) 66 0 ([a])/\(∀ z_,aj (iC d) 66 0 ([a])≠ .inr z_))
@[go_sem] def MM:m0:=(pD .al λd=>(pI λa=>(pE (.det (tL d a) (.nw .int (jV d a))))))
theorem JI:X1 prog 130 MM:=by
 have hG:=mG Y1 Y1;refine fW hG f130 [(.tmp 4,.int)] (ax λd=>(aG λreach=>(am (λX=>?_))));dsimp only[an]at X;unfold tL at X;refine⟨nbl rfl,(λid st=>bif Nat.beq id 0 then some (LCV (ρ:=(List Int)) (σ:=(List Int)) 2 [] [0,1,1] (λV O=>⟨[(2,.ptr 0 0),(5,.os 2)],[.cells (cellsOf .al d),.dead,.row .int O]⟩) (iC d) (km d) 66 ([reach]) (λ_=>.normal) (λE=>⟨[(5,.os 2)],[.dead,.dead,.row .int E]⟩) st)else none),?_,?_⟩;unfold ae f130;simp only[ak,true_and,and_true];refine fw mixed aB hG kr (λ_=>rfl) λV O W=>⟨L0,ag _,?_⟩;unfold km at W;exact sI (jl [0,1,4]) (jl [0,1,2]);unfold ae f130;try unfold jV
 exact zq2
@[go_sem] def pi (d:ah)(a c:Int)(b:Nat)(e:Unit):Int⊕Unit:=(bif(!(rE d a ((jV d ((d.zs.getD (Int.toNat a) default).reach)).getD b 0) c))then .inl ((jV d ((d.zs.getD (Int.toNat a) default).reach)).getD b 0)else .inr ())
def kn (d:ah)(a b:Int):Int:=(match aj (pi d a b) ((jV d ((d.zs.getD (Int.toNat a) default).reach)).length) 0 ()with| .inl c=>c| .inr e=>(-1))
def mI (d:ah)(a b:Int):Prop:=((0<=a/\a< (d.zs.length:Int))/\(tL d ((d.zs.getD (Int.toNat a) default).reach)))
@[go_sem] def Cg:m0:=(pD .al λd=>(pI λa=>(pI λb=>(pE (.det (mI d a b) (.i (kn d a b)))))))
theorem A3:X1 prog 68 Cg:=by
 have hG:=mG (cn [.st .al,.o] JI (cn [.st .al,.o,.o,.o] ML Y1)) Y1;refine fN hG f68 [.o] (ax λd=>(aG λdd=>(aG λhour=>(am (λX=>?_)))));dsimp only[an]at X;unfold mI at X;refine⟨nbl rfl,(λid st=>bif Nat.beq id 0 then some (LCR (ρ:=Int) (σ:=Unit) 2 [] [0,1] (λO V=>⟨[(1,.i dd),(2,.i hour),(3,.ptr 0 0),(7,.os 1),(8,.i O)],[.cells (cellsOf .al d),.row .int (jV d ((d.zs.getD (Int.toNat dd) (default:asR)).reach))]⟩) (pi d dd hour) pT ((jV d ((d.zs.getD (Int.toNat dd) (default:asR)).reach)).length) () (True) (λ_=>.ret) (λE=>⟨[(6,.i E)],[.dead,.dead]⟩) st)else none),?_,?_⟩;unfold ae f68;simp only[ak,true_and,and_true];refine fj ((jV d ((d.zs.getD (Int.toNat dd) (default:asR)).reach)).length<=aI) mixed aB hG kr (λ_=>rfl) ((jV d ((d.zs.getD (Int.toNat dd) (default:asR)).reach)).length:Int) rfl fO (λhb0 O V W _ hw hc=>⟨L0,ag _,?_⟩) (λhb0 V hc=>?_) λhb0 O V=>?_;exact bC (jl [0,1]);exact bD (jl [0,1]);exact zq8;unfold ae f68;try unfold kn
 exact zq2
@[go_sem] def qu (b:List Claim)(x:Claim)(c:Nat)(a:Int):Int⊕Int:=(bif((decide (a< (b.length:Int)))&&(qt (b.getD (Int.toNat a) default) x))then .inr (i64.wrap (a+1))else .inl a)
def qw (a:List Claim)(x:Claim)(c:Nat)(b:Int):Prop:=(a.length<=aI->((decide (b< (a.length:Int)))=true->(0<=b/\b< (a.length:Int))))
def rF (a:List Claim)(x:Claim):List Claim:=(match aj (qu a x) 200000 0 0 with| .inl b=>(((([])++((a.take (Int.toNat b)).drop 0))++([x]))++((a.take (Int.toNat (a.length:Int))).drop (Int.toNat b))) | .inr c=>default)
def vD (a:List Claim)(x:Claim):Prop:=letI b:=(a.length:Int);letI c:=qu a x;(okI c (qw a x) 200000 0 0/\(∀ z_,aj c 200000 0 0≠ .inr z_)/\(∀ u0,aj c 200000 0 0=.inl u0->((0<=0/\0<=u0/\u0<=b)/\(((([])++((a.take (Int.toNat u0)).drop 0)).length*40<=dT)/\((([])++((a.take (Int.toNat u0)).drop 0)).length<=aI->((((([])++((a.take (Int.toNat u0)).drop 0))++([x])).length*40<=dT)/\(((([])++((a.take (Int.toNat u0)).drop 0))++([x])).length<=aI->((0<=u0/\u0<=b/\b<=b)/\((((([])++((a.take (Int.toNat u0)).drop 0))++([x]))++((a.take (Int.toNat b)).drop (Int.toNat u0))).length*40<=dT)))))))))
@[go_sem] def Py:m0:=(pR .W2 λa=>(pD .W2 λx=>(pE (.det (vD a x) (.nw .W2 (rF a x))))))
theorem MN:X1 prog 129 Py:=by
 have hG:=mG (cp Fd Y1) Y1;refine fW hG f129 [(.tmp 4,.W2)] (bG λV=>(ax λx=>(am (λY=>?_))));dsimp only[an]at Y;unfold vD at Y;refine⟨nbl rfl,(λid st=>bif Nat.beq id 0 then some (LCV (ρ:=Int) (σ:=Int) 1 [] [0] (λW O=>⟨[(0,.rs .W2 V),(3,.ptr 0 0),(5,.i O)],[.cells (cellsOf .W2 x)]⟩) (qu V x) (qw V x) 200000 0 (λ_=>.normal) (λE=>⟨[(0,.rs .W2 V),(3,.ptr 0 0),(5,.i E)],[.cells (cellsOf .W2 x)]⟩) st)else none),?_,?_⟩;unfold ae f129;simp only[ak,true_and,and_true];refine fw mixed aB hG kr (λ_=>rfl) λW O X=>⟨L0,ag _,?_⟩;unfold qw at X;exact cJ (jl [0]);unfold ae f129;try unfold rF
 exact zq2
@[go_sem] def mq (d:ah)(e:List bn)(b f:Int)(g:Nat)(c:List Claim):Empty⊕(List Claim):=letI a:=((lu d e b f).1).getD g default;(bif(rD (d.bh.getD (Int.toNat (a.right)) default) b)then .inr (rF c ({ right:=a.right,dd:=a.dd,hour:=b,bl:=a.bl,arM:=a.arM}:Claim))else .inr c)
def s7 (d:ah)(f:List bn)(b g:Int)(h:Nat)(i:List Claim):Prop:=letI c:=(lu d f b g).1;letI a:=c.getD h default;letI e:=d.bh.getD (Int.toNat (a.right)) default;(c.length<=aI->((0<=a.right/\a.right< (d.bh.length:Int))/\((xq e b)/\((rD e b)=true->(vD i ({ right:=a.right,dd:=a.dd,hour:=b,bl:=a.bl,arM:=a.arM}:Claim))))))
def ix (d:ah)(a:List bn)(b c:Int):List Claim:=(match aj (mq d a b c) (((lu d a b c).1).length) 0 ([])with| .inl x=>x.elim| .inr e=>e)
def tN (d:ah)(a:List bn)(b c:Int):Prop:=((uI d a b c)/\okI (mq d a b c) (s7 d a b c) (((lu d a b c).1).length) 0 ([]))
@[go_sem] def MO:m0:=(pD .al λd=>(pR .M1 λa=>(pI λb=>(pI λc=>(pE (.det (tN d a b c) (.nw .W2 (ix d a b c))))))))
theorem JJ:X1 prog 67 MO:=by
 have hG:=mG (cn [.st .al,.sl .M1,.o,.o] Pu (cp JF (cn [.sl .W2,.st .W2] MN Y1))) Y1;refine fW hG f67 [(.tmp 8,.W2)] (ax λd=>(bG λW=>(aG λV=>(aG λknown=>(am (λhp=>?_))))));dsimp only[an]at hp;unfold tN at hp;refine⟨nbl rfl,(λid st=>bif Nat.beq id 0 then some (LCR (ρ:=Empty) (σ:=(List Claim)) 2 [.slot 11 (.row .W2 ([]))] [0,1,2] (λO E=>⟨[(2,.i V),(4,.ptr 0 0),(9,.os 1),(11,.os 2),(12,.i O)],[.cells (cellsOf .al d),.row .holding ((lu d W V known).1),.row .W2 E]⟩) (mq d W V known) (s7 d W V known) (((lu d W V known).1).length) ([]) (True) ((·.elim)) ((·.elim)) st)else none),?_,?_⟩;unfold ae f67;simp only[ak,true_and,and_true];refine fj (((lu d W V known).1).length<=aI) mixed aB hG kr (λ_=>rfl) (((lu d W V known).1).length:Int) rfl fO (λhb0 O E Y X hw hc=>⟨L0,ag _,?_⟩) (λhb0 E hc=>?_) λhb0 O E=>?_;unfold s7 at X;try simp only[hw,aol]at X
 exact lm (jl [0,1,4]) (jl [0,1,2]);exact ln (jl [0,1,4]) (jl [0,1,2]);exact zq8;unfold ae f67;try unfold ix
 exact zq2
def nH (d:ah)(c:List bn)(a b e:Int):Int:=(bif((lF d c) !=0)then(lF d c)else(bif(((((decide (a<0)) ||(decide (a > b))) ||(decide (b>=d.hours))) ||(decide (e<0))) ||(decide (e > 1048576)))then 1 else(bif(decide ((i64.wrap ((i64.wrap ((i64.wrap (b - a))+1))*(d.bh.length:Int))) > 4096))then 2 else 0)))
def rW (d:ah)(a:List bn)(b c e:Int):Prop:=(oK d a)
@[go_sem] def JK:m0:=(pD .al λd=>(pR .M1 λa=>(pI λb=>(pI λc=>(pI λe=>(pE (.det (rW d a b c e) (.i (nH d a b c e)))))))))
theorem HO:X1 prog 66 JK:=by
 have hG:=mG (cn [.st .al,.sl .M1] y7 Y1) Y1;refine fN hG f66 [.o] (ax λd=>(bG λO=>(aG λfr=>(aG λto=>(aG λknown=>(am (λE=>?_)))))));dsimp only[an]at E;unfold rW at E;refine⟨nbl rfl,L0,ag _,?_⟩;unfold ae f66;try unfold nH
 exact zq2
@[go_sem] def sL (d:ah)(b:List bn)(c:Int)(a:List Claim×Int)(e:Nat)(f:List Claim):Empty⊕(List Claim):=(bif(decide ((kn d (((ix d b a.2 c).getD e default).dd) a.2) <0))then .inr (f++([((ix d b a.2 c).getD e default)]))else .inr f)
def vQ (d:ah)(e:List bn)(f:Int)(a:List Claim×Int)(g:Nat)(h:List Claim):Prop:=letI c:=ix d e a.2 f;letI b:=c.getD g default;(c.length<=aI->((mI d (b.dd) a.2)/\((decide ((kn d (b.dd) a.2) <0))=true->((h++([b])).length*40<=dT))))
@[go_sem] def nI (d:ah)(b:List bn)(e c:Int)(g:Nat)(a:List Claim×Int):(List Claim)⊕(List Claim×Int):=(bif(decide (a.2<=e))then(match aj (sL d b c a) ((ix d b a.2 c).length) 0 a.1 with| .inl x=>x.elim| .inr f=>.inr (f,(i64.wrap (a.2+1))))else .inl a.1)
def oN (d:ah)(b:List bn)(e c:Int)(f:Nat)(a:List Claim×Int):Prop:=((decide (a.2<=e))=true->((tN d b a.2 c)/\okI (sL d b c a) (vQ d b c a) ((ix d b a.2 c).length) 0 a.1))
def nJ (d:ah)(a:List bn)(b c e:Int):List Claim×Int:=letI f:=nH d a b c e;(bif(f !=0)then([],f)else(match aj (nI d a c e) 4098 0 ([],b)with| .inl g=>(bif(decide ((g.length:Int) > 4096))then([],2)else(g,0)) | .inr h=>default))
def xu (d:ah)(a:List bn)(e b c:Int):Prop:=((rW d a e b c)/\(((nH d a e b c) !=0)=false->(okI (nI d a b c) (oN d a b c) 4098 0 ([],e)/\(∀ z_,aj (nI d a b c) 4098 0 ([],e)≠ .inr z_))))
@[go_sem] def Sb:m0:=(pD .al λd=>(pR .M1 λa=>(pI λb=>(pI λc=>(pI λe=>(pE (.det (xu d a b c e) (.tup [.rs .W2 ((nJ d a b c e).1),.i ((nJ d a b c e).2)]))))))))
theorem Pz:X1 prog 27 Sb:=by
 have hG:=mG (cn [.st .al,.sl .M1,.o,.o,.o] HO (cn [.st .al,.sl .M1,.o,.o] JJ (cn [.st .al,.o,.o] A3 Y1))) Y1;refine fN hG f27 [.sl .W2,.o] (ax λd=>(bG λO=>(aG λfr=>(aG λto=>(aG λknown=>(am (λhp=>?_)))))));dsimp only[an]at hp;unfold xu at hp;refine⟨nbl rfl,(λid st=>bif Nat.beq id 0 then some (LCV (ρ:=(List Claim)) (σ:=(List Claim×Int)) 1 [.slot 13 (.row .W2 ([]))] [0,1] (λY E=>⟨[(1,.rs .M1 O),(3,.i to),(4,.i known),(5,.ptr 0 0),(13,.os 1),(14,.i E.2)],[.cells (cellsOf .al d),.row .W2 E.1]⟩) (nI d O to known) (oN d O to known) 4098 ([],fr) (λ_=>.normal) (λW=>⟨[(13,.os 1)],[.dead,.row .W2 W]⟩) st)else none),?_,?_⟩;unfold ae f27;simp only[ak,true_and,and_true];refine fw mixed aB hG kr (λ_=>rfl) λY E hq0=>⟨(λid st=>bif Nat.beq id 2 then some (LCR (ρ:=Empty) (σ:=(List Claim)) 3 [] [0,1,2,1] (λX V=>⟨[(1,.rs .M1 O),(3,.i to),(4,.i known),(5,.ptr 0 0),(13,.os 3),(14,.i E.2),(15,.os 2),(16,.i X)],[.cells (cellsOf .al d),.dead,.row .W2 (ix d O E.2 known),.row .W2 V]⟩) (sL d O known E) (vQ d O known E) ((ix d O E.2 known).length) E.1 (True) ((·.elim)) ((·.elim)) st)else none),?_,?_⟩;simp only[ak,true_and,and_true];refine fj ((ix d O E.2 known).length<=aI) mixed aB hG kr (λ_=>rfl) ((ix d O E.2 known).length:Int) rfl fO (λhb1 X V as6 hq1 hw hc=>⟨L0,ag _,?_⟩) (λhb1 V hc=>?_) λhb1 X V=>?_;unfold vQ at hq1;try simp only[hw,aol]at hq1
 exact lm (jl [0,1,2,5]) (jl [0,1,2,3]);exact ln (jl [0,1,2,5]) (jl [0,1,2,3]);exact RU;unfold oN at hq0;exact sI (jl [0,3]) (jl [0,1]);unfold ae f27;try unfold nJ
 exact zq2
theorem TN{β:Type}(l:List α)(d:α)(P:α->Bool){step:Nat->Unit->Unit⊕Unit}(h:∀ k,k<l.length->step k ()=bif P (l.getD k d)then .inl ()else .inr ())(a b:β):
  (match aj step l.length 0 ()with| .inl _=>a| .inr _=>b)=bif l.any P then a else b:=by
 cases V:l.any P with
 |false=>
  have:aj step l.length 0 ()=.inr ():=iM.2 λj E=>by
   grind
  grind
 |true=>
  obtain⟨x,O,W⟩:=apx.1 V;obtain⟨j,E,e⟩:=ao0.1 O;have hn:aj step l.length 0 ()≠ .inr ():=λhr=>by
   have:=iM.1 hr j E;grind
  grind
theorem Vk (d:ah)(f r h:Int):nG d f r h=d.bh.any λy=>cB y 3 f r h:=by
 unfold nG;have:=TN d.bh default (λy=>cB y 3 f r h) (step:=uJ d f r h) (λk E=>rfl) true false;grind
theorem abI (d:ah)(f r h:Int):rE d f r h=(!(d.bh.any λy=>(y.dd !=f)&&cB y 2 y.dd r h) ||d.bh.any λy=>cB y 3 f r h):=by
 unfold rE;have:=TN d.bh default (λy=>(y.dd !=f)&&cB y 2 y.dd r h) (step:=xr d f r h) (λk E=>rfl) (nG d f r h) true;grind [Vk]
theorem lw (y:ar4)(k f r h:Int):cB y k f r h=true↔y.kind=k/\y.dd=f/\y.reach=r/\y.since<=h/\h<=y.to:=by
 simp_all [cB,and_assoc]
structure Seen (R:List ar4)(h:Int)(s:List (arF×Bool)×List (Int×Int)×List (arF×Bool))(own:List arF):Prop where
 asM:∀ u,aC .art .bool s.1 u=R.any λy=>cB y 3 u.dd u.reach h
 owned:∀ u,aC .art .bool s.2.2 u=decide (u∈own)
 mem:∀ u,u∈own↔(R.any λy=>cB y 2 u.dd u.reach h)=true
 nodup:own.Nodup
 count:∀ r:Int,aC .int .int s.2.1 r=((own.filter λu=>u.reach==r).length:Int)
 len:own.length<=R.length
theorem sM(l:List α)(x:α)(P:α->Bool):(l++[x]).any P=(l.any P||P x):=by simp
theorem Vl (d:ah)(h:Int)(hl:d.bh.length<=256):∃ s own,aj (l7 d h) d.bh.length 0 ([],[],[])=.inr s/\Seen d.bh h s own:=by
 have key:=k_ (step:=l7 d h) (λk s=>∃ own,Seen (d.bh.take k) h s own) d.bh.length 0 ([],[],[]) ⟨[],⟨λu=>rfl,λu=>rfl,λu=>by simp,apL,λr=>rfl,aom _⟩⟩ (λj s _ hj ⟨own,E⟩ =>by
  have hj:j<d.bh.length:=g5
  have V:=cw d.bh (default:ar4) hj;obtain⟨s1,s2,X⟩:=s;generalize ey:d.bh.getD j (default:ar4)=y at V;simp only[l7,ey];have hlen:=E.len;rw[aph]at hlen;by_cases W:y.since<=h/\h<=y.to
  ·have e1:((decide (h<y.since)) ||(decide (h > y.to)))=false:=by
    grind
   rw[e1,cond_false];by_cases hk:y.kind=3
   ·have e2:(y.kind==3)=true:=g6
    rw[e2,cond_true];refine⟨_,rfl,own,⟨λu=>?_,E.owned,λu=>?_,E.nodup,E.count,g6⟩⟩;rw[pC,V,sM,<-E.asM u];by_cases hu:u= { dd:=y.dd,reach:=y.reach}
    simp_all [lw];have:cB y 3 u.dd u.reach h=false:=by
     cases hq:cB y 3 u.dd u.reach h with
     |false=>rfl
     |true=>
      obtain⟨_,q1,q2,_⟩:=(lw _ _ _ _ _).1 hq;simp_all
    grind
    ·rw[E.mem u,V,sM];have:cB y 2 u.dd u.reach h=false:=by
      cases hq:cB y 2 u.dd u.reach h with
      |false=>rfl|true=>have:=((lw _ _ _ _ _).1 hq).1;omega
     grind
   ·have e2:(y.kind==3)=false:=g6
    rw[e2,cond_false];have hea:∀ u:arF,cB y 3 u.dd u.reach h=false:=λu=>by
     cases hq:cB y 3 u.dd u.reach h with
     |false=>rfl|true=>exact absurd ((lw _ _ _ _ _).1 hq).1 hk
    have O:∀ u,aC .art .bool s1 u=(d.bh.take (j+1)).any λy=>cB y 3 u.dd u.reach h:=λu=>by
     rw[V,sM,hea,apW];exact E.asM u
    by_cases h2:y.kind=2
    by_cases hm:({ dd:=y.dd,reach:=y.reach}:arF)∈own
    have Y:((y.kind==2)&&(!(aC .art .bool X ({ dd:=y.dd,reach:=y.reach}:arF))))=false:=by
     rw[show aC .art .bool X ({ dd:=y.dd,reach:=y.reach}:arF)=true from(E.owned _).trans (decide_eq_true hm)];simp
    rw[Y,cond_false];refine⟨_,rfl,own,⟨O,E.owned,λu=>?_,E.nodup,E.count,g6⟩⟩;rw[V,sM,aoN,<-E.mem u];refine⟨.inl,λhq=>hq.elim id λhq=>?_⟩;obtain⟨_,q1,q2,_⟩:=(lw _ _ _ _ _).1 hq;simp_all;have Y:((y.kind==2)&&(!(aC .art .bool X ({ dd:=y.dd,reach:=y.reach}:arF))))=true:=by
     rw[show aC .art .bool X ({ dd:=y.dd,reach:=y.reach}:arF)=false from(E.owned _).trans (decide_eq_false hm),h2];rfl
    rw[Y,cond_true];refine⟨_,rfl,{ dd:=y.dd,reach:=y.reach}::own,⟨O,λu=>?_,λu=>?_,ao2.2 ⟨hm,E.nodup⟩,λr=>?_,g6⟩⟩;rw[pC];by_cases hu:u= { dd:=y.dd,reach:=y.reach}
    grind
    rw[if_neg hu,show aC .art .bool X u=_ from E.owned u];grind
    rw[V,sM,aoN,<-E.mem u,aoD];constructor
    rintro (hu|hu);exact .inr ((lw _ _ _ _ _).2 ⟨h2,by rw[hu],by rw[hu],W.1,W.2⟩);grind
    rintro (hu|hq);exact .inr hu;obtain⟨_,q1,q2,_⟩:=(lw _ _ _ _ _).1 hq;simp_all;rw[pC,List.filter_cons];have hc:=E.count;by_cases hr:r=y.reach
    have e4:(({ dd:=y.dd,reach:=y.reach}:arF).reach==r)=true:=by simp[hr]
    have hb:(own.filter λu=>u.reach==r).length<=own.length:=apa _ _;rw[if_pos hr,e4,if_pos rfl,<-hr,show aC .int .int s2 r=_ from hc r,aw g5 g5];simp;grind
    ·have Y:((y.kind==2)&&(!(aC .art .bool X ({ dd:=y.dd,reach:=y.reach}:arF))))=false:=by
      grind
     rw[Y,cond_false];refine⟨_,rfl,own,⟨O,E.owned,λu=>?_,E.nodup,E.count,g6⟩⟩;have:cB y 2 u.dd u.reach h=false:=by
      cases hq:cB y 2 u.dd u.reach h with
      |false=>rfl|true=>exact absurd ((lw _ _ _ _ _).1 hq).1 h2
     rw[V,sM,this,apW];exact E.mem u
  ·have e1:((decide (h<y.since)) ||(decide (h > y.to)))=true:=by
    grind
   rw[e1,cond_true];have hno:∀ k f r,cB y k f r h=false:=λk f r=>by
    cases hq:cB y k f r h with
    |false=>rfl|true=>exact absurd ((lw _ _ _ _ _).1 hq).2.2.2 W
   refine⟨_,rfl,own,⟨λu=>?_,E.owned,λu=>?_,E.nodup,E.count,g6⟩⟩;rw[V,sM,hno,apW];exact E.asM u;rw[V,sM,hno,apW];exact E.mem u)
 grind
theorem abJ {F:List arF}(hn:F.Nodup){u:arF}(E:u∈F):F.length=1↔∀ v∈F,v=u:=by
 match F,hn,E with
 | [a],_,E=>
  grind
 |a::b::t,hn,E=>
  refine⟨λh=>by simp at h,λh=>?_⟩;simp_all
theorem afU (d:ah)(h f r:Int)(hl:d.bh.length<=256):nB (cV d h) { dd:=f,reach:=r} =rE d f r h:=by
 obtain⟨s,own,e,E⟩:=Vl d h hl;have V:cV d h=({ asV:=s.2.1,owned:=s.2.2,asM:=s.1}:asf):=by grind [cV]
 rw[V,abI];unfold nB;simp only;rw[show aC .art .bool s.1 ({ dd:=f,reach:=r}:arF)=_ from E.asM _,show aC .art .bool s.2.2 ({ dd:=f,reach:=r}:arF)=_ from E.owned _,show aC .int .int s.2.1 r=_ from E.count r];have hlen:=E.len;have hb:(own.filter λu=>u.reach==r).length<=own.length:=apa _ _;have hn:(own.filter λu=>u.reach==r).Nodup:=E.nodup.filter _;have hF:∀ v,v∈(own.filter λu=>u.reach==r)↔v∈own/\v.reach=r:=λv=>g6
 have hA:(d.bh.any λy=>(y.dd !=f)&&cB y 2 y.dd r h)=true↔∃ v,v∈(own.filter λu=>u.reach==r)/\v≠{ dd:=f,reach:=r}:=by
  rw[apx];constructor
  rintro⟨y,hy,O⟩;rw[aoj,bne_iff_ne]at O;refine⟨{ dd:=y.dd,reach:=r},(hF _).2 ⟨(E.mem _).2 (apx.2 ⟨y,hy,O.2⟩),rfl⟩,λe=>O.1 ?_⟩;injection e;rintro⟨v,V,Y⟩;obtain⟨h1,h2⟩:=(hF v).1 V;obtain⟨y,hy,O⟩:=apx.1 ((E.mem v).1 h1);obtain⟨q0,q1,q2,q3⟩:=(lw _ _ _ _ _).1 O;refine⟨y,hy,?_⟩;rw[aoj,bne_iff_ne];exact⟨λe=>Y (by cases v;grind),(lw _ _ _ _ _).2 ⟨q0,rfl,by rw[q2,h2],q3⟩⟩
 by_cases X:({ dd:=f,reach:=r}:arF)∈own
 have W:({ dd:=f,reach:=r}:arF)∈(own.filter λu=>u.reach==r):=(hF _).2 ⟨X,rfl⟩;rw[decide_eq_true X,cond_true];congr 1
 have h1:=abJ hn W;have hpos:0< (own.filter λu=>u.reach==r).length:=List.length_pos_of_mem W;rw[aw g5 g5,ape,beq_iff_eq,aox,<-apK,hA];grind
 rw[decide_eq_false X,cond_false];congr 1
 rw[ape,beq_iff_eq,aox,<-apK,hA];constructor
 grind
 intro h0;have:(own.filter λu=>u.reach==r)=[]:=aqE.2 λv V=>h0 ⟨v,V,λe=>X g6⟩;grind
@[go_sem] def cI (d:List Int)(e:Nat)(a:List Int×Int×Int):(List Int)⊕(List Int×Int×Int):=letI b:=Int.toNat a.2.1;letI c:=Int.toNat a.2.2;(bif(decide (a.2.1<a.2.2))then .inr (((a.1.set b (a.1.getD c 0)).set c (a.1.getD b 0)),(i64.wrap (a.2.1+1)),(i64.wrap (a.2.2 - 1)))else .inl a.1)
def dB (d:List Int)(e:Nat)(a:List Int×Int×Int):Prop:=letI b:=(a.1.length:Int);letI c:=0<=a.2.1/\a.2.1<b;((decide (a.2.1<a.2.2))=true->((0<=a.2.2/\a.2.2<b)/\(c/\(c/\(0<=a.2.2/\a.2.2< ((a.1.set (Int.toNat a.2.1) (a.1.getD (Int.toNat a.2.2) 0)).length:Int))))))
def gR (a:List Int):List Int:=(match aj (cI a) (a.length+1) 0 (a,0,(i64.wrap ((a.length:Int) - 1)))with| .inl b=>b| .inr c=>default)
def iD (a:List Int):Prop:=letI b:=(a,0,(i64.wrap ((a.length:Int) - 1)));letI c:=cI a;(a.length<=aI->(okI c (dB a) (a.length+1) 0 b/\(∀ z_,aj c (a.length+1) 0 b≠ .inr z_)))
@[go_sem] noncomputable def oO:List SV->List Ob->Option arV:=λl h=>OW .int (λl_=>(pQ (.os 0) (pE (fM (iD l_) (.tup []) [.row .int (gR l_)]))) l) h
theorem u_:arT prog 161 oO:=by
 have hG:=mG Y1 Y1;refine fR hG f161 (λl o con h=>?_);unfold oO at h;obtain⟨V,rfl,h⟩:=OX h;obtain⟨r0,rfl,Y⟩:=uu h;obtain⟨rfl,rfl⟩:=nc Y;clear h Y;refine⟨_,_,_,rfl,λhp=>?_⟩;unfold iD at hp;refine⟨nbl rfl,(λid st=>bif Nat.beq id 0 then some (LCV (ρ:=(List Int)) (σ:=(List Int×Int×Int)) 1 [] [0] (λW E=>⟨[(0,.os 0),(2,.i E.2.1),(3,.i E.2.2)],[.row .int E.1]⟩) (cI V) (dB V) (V.length+1) (V,0,(i64.wrap ((V.length:Int) - 1))) (λ_=>.normal) (λO=>⟨[],[.row .int O]⟩) st)else none),?_,?_⟩;unfold ae f161;simp only[ak,true_and,and_true];refine fw mixed aB hG kr (λ_=>rfl) λW E X=>⟨L0,ag _,?_⟩;unfold dB at X;exact cJ (jl [0]);unfold ae f161;try unfold gR
 exact cJ (jl [0])
@[go_sem] def ta (d:ah)(a:List Int)(b:Nat)(c:Unit):Unit⊕Unit:=(bif((decide ((a.getD b 0) <0)) ||(decide ((a.getD b 0)>=(d.reaches.length:Int))))then .inl ()else .inr ())
def kF (d:ah)(a:List Int):Int:=(bif((av d) !=0)then(av d)else(match aj (ta d a) a.length 0 ()with| .inl b=>1| .inr c=>0))
@[go_sem] def HP:m0:=(pD .al λd=>(pR .int λa=>(pE (.det True (.i (kF d a))))))
theorem Fe:X1 prog 158 HP:=by
 have hG:=mG (cn [.st .al] o6 Y1) Y1;refine fN hG f158 [.o] (ax λd=>(bG λE=>(am (λY=>?_))));dsimp only[an]at Y;refine⟨nbl rfl,(λid st=>bif Nat.beq id 0 then some (LCR (ρ:=Unit) (σ:=Unit) 1 [] [0] (λO V=>⟨[(2,.ptr 0 0),(13,.rs .int E),(14,.i (E.length:Int)),(15,.i O)],[.cells (cellsOf .al d)]⟩) (ta d E) pT E.length () (E.length<=aI) (λ_=>.ret) (λW=>⟨[(4,.i 1)],[.dead]⟩) st)else none),?_,?_⟩;unfold ae f158;simp only[ak,true_and,and_true];refine bu mixed aB hG kr (λ_=>rfl) (E.length:Int) rfl fO (λhb0 O V X _ hw hc=>⟨L0,ag _,?_⟩) (λhb0 V hc=>?_);exact bC (jl [0]);exact bD (jl [0]);unfold ae f158;try unfold kF
 exact zq2
def nK (d:ah)(a:Int):List Int×Int:=(bif((kF d ([a])) !=0)then([],(kF d ([a])))else((gR (eW d a)),0))
def rX (d:ah)(a:Int):Prop:=(((kF d ([a])) !=0)=false->((0<=a/\px d a/\(eW d a).length*8<=dT)/\(iD (eW d a))))
@[go_sem] def JM:m0:=(pD .al λd=>(pI λa=>(pE (.det (rX d a) (.tup [.nw .int ((nK d a).1),.i ((nK d a).2)])))))
theorem HQ:X1 prog 101 JM:=by
 have hG:=mG (cn [.st .al,.sl .int] Fe Y1) (co BY (co Me (co u_ Y1)));refine fW hG f101 [(.tmp 4,.int)] (ax λd=>(aG λreach=>(am (λE=>?_))));dsimp only[an]at E;unfold rX at E;refine⟨nbl rfl,L0,ag _,?_⟩;unfold ae f101;try unfold nK
 exact zq2
end Go.Sx
end
