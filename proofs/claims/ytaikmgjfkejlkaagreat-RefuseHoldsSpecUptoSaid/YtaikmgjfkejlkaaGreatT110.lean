/- Part of the proof of the law RefuseHoldsSpec (the Upto form). -/
import Derived.Test.YtaikmgjfkejlkaaGreatT109
set_option linter.all false
set_option maxHeartbeats 4000000
set_option maxRecDepth 100000
section
namespace Go.Sx
open Go.Proofs Tryz
open IntKind (i64 u64)
variable {l E:List bo}
theorem amp{c1 X W:Bool}(O V:List bo->List bo):
  (bif c1 then(bif X then(bif W then V (O E)else O E)else(bif W then V E else E))else(bif X then(bif W then V (O l)else O l)else(bif W then V l else l)))=(bif W then V (bif X then O (bif c1 then E else l)else(bif c1 then E else l))else(bif X then O (bif c1 then E else l)else(bif c1 then E else l))):=by
 grind
def ahz{c1 O V:Bool}{rp:Prop}(Y:List bo->List bo)(X W:List bo->Prop)(h1:c1=true->rp)(h2:O=true->X (bif c1 then E else l))(h3:V=true->W (bif O then Y (bif c1 then E else l)else(bif c1 then E else l))):
  ((c1=true->(rp/\((O=true->(X E/\(V=true->W (Y E))))/\(O=false->V=true->W E))))/\(c1=false->((O=true->(X l/\(V=true->W (Y l))))/\(O=false->V=true->W l)))):=by
 grind
theorem TO {N:Nat}{O:Int->Int->Int->List bo->List bo}{E:Int->Int->Int->List bo->Prop}(hr:ae0 N O E)(A U V C:List bo)(hU2:2<=U.length)(hV2:2<=V.length)(hN:U.length+V.length<=N+1)(hl:(A++U++V++C).length<2 ^ 60)(hU:Srt U)(hV:Srt V):
  yf O E (A.length:Int) ((A.length+U.length:Nat):Int) ((A.length+U.length+V.length:Nat):Int) (A++U++V++C)/\
  ∃ M,N5 O E (A.length:Int) ((A.length+U.length:Nat):Int) ((A.length+U.length+V.length:Nat):Int) (A++U++V++C)=A++M++C/\ato (U++V) M/\Srt M/\M.length=U.length+V.length:=by
 have hL:(A++U++V++C).length=A.length+U.length+V.length+C.length:=XN
 have gU:∀ h,A.length<=h->h<A.length+U.length->(A++U++V++C).getD h default=U.getD (h - A.length) default:=λh h1 h2=>by
  grind
 have gV:∀ h,A.length+U.length<=h->h<A.length+U.length+V.length->(A++U++V++C).getD h default=V.getD (h - (A.length+U.length)) default:=λh h1 h2=>by
  grind
 have Y:i64.wrap (oy .u64 (u64.wrap (i64.wrap ((A.length:Int)+((A.length+U.length+V.length:Nat):Int)))) 1)=((A.length+(U.length+V.length) / 2:Nat):Int):=by
  rw[Vk XM XM];omega
 generalize hmd:A.length+(U.length+V.length) / 2=mid at *;have hn:i64.wrap ((mid:Int)+((A.length+U.length:Nat):Int))=((mid+(A.length+U.length):Nat):Int):=by grind [ar]
 have hp1:i64.wrap (((mid+(A.length+U.length):Nat):Int) - 1)=((mid+(A.length+U.length) - 1:Nat):Int):=by grind [ar]
 have w1:i64.wrap (((A.length+U.length:Nat):Int) - (A.length:Int))=(U.length:Int):=by grind [ar]
 have w2:i64.wrap (((A.length+U.length+V.length:Nat):Int) - ((A.length+U.length:Nat):Int))=(V.length:Int):=by grind [ar]
 have b1:((U.length:Int) ==1)=false:=by simp;omega
 have b2:((V.length:Int) ==1)=false:=by simp;omega
 obtain⟨lo,elo,hlo⟩:∃ lo:Nat,(bif decide (((A.length+U.length:Nat):Int) > (mid:Int))then i64.wrap (((mid+(A.length+U.length):Nat):Int) - ((A.length+U.length+V.length:Nat):Int))else(A.length:Int))=(lo:Int)/\((mid<A.length+U.length/\lo+V.length=mid)\/(A.length+U.length<=mid/\lo=A.length)):=by
  by_cases h:mid<A.length+U.length
  refine⟨mid - V.length,?_,.inl ⟨h,XM⟩⟩;rw[decide_eq_true XM,cond_true,ar XM XM];omega;grind
 obtain⟨hi,ehi,hhi⟩:∃ hi:Nat,(bif decide (((A.length+U.length:Nat):Int) > (mid:Int))then(mid:Int)else((A.length+U.length:Nat):Int))=(hi:Int)/\((mid<A.length+U.length/\hi=mid)\/(A.length+U.length<=mid/\hi=A.length+U.length)):=by
  grind
 have s:=TL (step:=Az (A.length:Int) ((A.length+U.length:Nat):Int) ((A.length+U.length+V.length:Nat):Int) (A++U++V++C)) (p:=uU (A.length:Int) ((A.length+U.length:Nat):Int) ((A.length+U.length+V.length:Nat):Int) (A++U++V++C)) (λc=>!decide ((V.getD (mid - 1 - c) default).at_< (U.getD (c - A.length) default).at_)) lo hi XM
  (λi j h1 h2 h3 h4=>by
   have q1:=tR hU (i:=i - A.length) (j:=j - A.length) XM XM;have q2:=tR hV (i:=mid - 1 - j) (j:=mid - 1 - i) XM XM;grind)
  (λk i j h1 h2 h3=>by
   have e:decide ((i:Int) < (j:Int))=true:=XN
   have hc:i64.wrap (((mid+(A.length+U.length) - 1:Nat):Int) - (((i+j) / 2:Nat):Int))=((mid+(A.length+U.length) - 1 - (i+j) / 2:Nat):Int):=by grind [ar]
   have e2:mid+(A.length+U.length) - 1 - (i+j) / 2 - (A.length+U.length)=mid - 1 - (i+j) / 2:=XM
   unfold uU Az;simp only[Y,hn,hp1,Vk (i:=i) (j:=j) XM XM,e,cond_true,hc,aqa,gU ((i+j) / 2) XM XM,gV (mid+(A.length+U.length) - 1 - (i+j) / 2) XM XM,e2,Vj,hL];grind [ar])
  (λk i=>by
   simp_all [uU,Az]) ((A++U++V++C).length+1) 0 XM
 obtain⟨s1,r,s2,q,rfl,q1,q2,q3,q4⟩:=s;have X:i64.wrap (((mid+(A.length+U.length):Nat):Int) - (q:Int))=((mid+(A.length+U.length) - q:Nat):Int):=by grind [ar]
 have hUs:U.take (q - A.length)++U.drop (q - A.length)=U:=aq6 _ _;have hVs:V.take (mid - q)++V.drop (mid - q)=V:=aq6 _ _;have lU1:(U.take (q - A.length)).length=q - A.length:=by rw[ara];omega
 have lU2:(U.drop (q - A.length)).length=A.length+U.length - q:=by rw[arM];omega
 have lV1:(V.take (mid - q)).length=mid - q:=by rw[ara];omega
 have lV2:(V.drop (mid - q)).length=V.length+q - mid:=by rw[arM];omega
 have k1:∀ x∈U.take (q - A.length),∀ y∈V.drop (mid - q),x.at_<=y.at_:=λx hx y hy=>by
  obtain⟨i,i1,i2,rfl⟩:=C2 hx;obtain⟨j,j1,j2,rfl⟩:=C3 hy;have:=q3 (q - 1) XM XM;have p1:=tR hU (i:=i) (j:=q - 1 - A.length) XM XM;have p2:=tR hV (i:=mid - 1 - (q - 1)) (j:=j) XM XM;grind
 have k2:∀ x∈U.drop (q - A.length),∀ y∈V.take (mid - q),y.at_<x.at_:=λx hx y hy=>by
  obtain⟨i,i1,i2,rfl⟩:=C3 hx;obtain⟨j,j1,j2,rfl⟩:=C2 hy;have:=q4 q XM XM;have p1:=tR hU (i:=q - A.length) (j:=i) XM XM;have p2:=tR hV (i:=j) (j:=mid - 1 - q) XM XM;grind
 generalize hE1:U.take (q - A.length)=U1 at *;generalize hE2:U.drop (q - A.length)=U2 at *;generalize hE3:V.take (mid - q)=V1 at *;generalize hE4:V.drop (mid - q)=V2 at *;have lenU:U.length=U1.length+U2.length:=XN
 have lenV:V.length=V1.length+V2.length:=XM
 have hlist:A++U++V++C=A++U1++U2++V1++(V2++C):=XN
 obtain⟨sU1,sU2,sU⟩:=GO (by grind:Srt (U1++U2));obtain⟨sV1,sV2,sV⟩:=GO (by grind:Srt (V1++V2));have hrot:(decide ((q:Int) < ((A.length+U.length:Nat):Int))&&decide (((A.length+U.length:Nat):Int) < ((mid+(A.length+U.length) - q:Nat):Int)))=true->bR (q:Int) ((A.length+U.length:Nat):Int) ((mid+(A.length+U.length) - q:Nat):Int) (A++U++V++C)/\aL (q:Int) ((A.length+U.length:Nat):Int) ((mid+(A.length+U.length) - q:Nat):Int) (A++U++V++C)=A++U1++V1++(U2++V2++C):=λh=>by
  simp only[ap9,decide_eq_true_eq]at h;have:=WV (A++U1) U2 V1 (V2++C) XN (by rw[<-aqS];omega) XN;have e1:(((A++U1).length:Nat):Int)=(q:Int):=XN
  have e3:(((A++U1).length+U2.length+V1.length:Nat):Int)=((mid+(A.length+U.length) - q:Nat):Int):=XM
  grind
 have hl1:(bif(decide ((q:Int) < ((A.length+U.length:Nat):Int))&&decide (((A.length+U.length:Nat):Int) < ((mid+(A.length+U.length) - q:Nat):Int)))then aL (q:Int) ((A.length+U.length:Nat):Int) ((mid+(A.length+U.length) - q:Nat):Int) (A++U++V++C)else A++U++V++C)=A++U1++V1++(U2++V2++C):=by
  cases hc:(decide ((q:Int) < ((A.length+U.length:Nat):Int))&&decide (((A.length+U.length:Nat):Int) < ((mid+(A.length+U.length) - q:Nat):Int)))with
  |true=>grind
  |false=>
   rw[hlist];simp only[arB,decide_eq_false_iff_not]at hc;have:U2=[]\/V1=[]:=by
    rcases hc with hc|hc;exact .inl (aqn XM);exact .inr (aqn XM)
   rcases this with rfl|rfl <;>simp
 obtain⟨W,hM1p,hM1,f1,t1,l1⟩:∃ W,((decide ((A.length:Int) < (q:Int))&&decide ((q:Int) < (mid:Int)))=true->E (A.length:Int) (q:Int) (mid:Int) (A++U1++V1++(U2++V2++C)))/\(bif(decide ((A.length:Int) < (q:Int))&&decide ((q:Int) < (mid:Int)))then O (A.length:Int) (q:Int) (mid:Int) (A++U1++V1++(U2++V2++C))else A++U1++V1++(U2++V2++C))=A++W++(U2++V2++C)/\ato (U1++V1) W/\Srt W/\W.length=U1.length+V1.length:=by
  cases hc:(decide ((A.length:Int) < (q:Int))&&decide ((q:Int) < (mid:Int)))with
  |true=>
   have⟨h1,W,h2,h3,h4,h5⟩:=hr A U1 V1 (U2++V2++C) XN XN XM XN sU1 sV1;grind
  |false=>
   simp only[arB,decide_eq_false_iff_not]at hc;refine⟨U1++V1,(λh=>by cases h),by simp,ato.refl _,?_,aqk⟩;have:U1=[]\/V1=[]:=by
    rcases hc with hc|hc;exact .inl (aqn XM);exact .inr (aqn XM)
   rcases this with rfl|rfl <;>grind
 obtain⟨M2,hM2p,hM2,f2,t2,l2⟩:∃ M2,((decide ((mid:Int) < ((mid+(A.length+U.length) - q:Nat):Int))&&decide (((mid+(A.length+U.length) - q:Nat):Int) < ((A.length+U.length+V.length:Nat):Int)))=true->E (mid:Int) ((mid+(A.length+U.length) - q:Nat):Int) ((A.length+U.length+V.length:Nat):Int) (A++W++(U2++V2++C)))/\(bif(decide ((mid:Int) < ((mid+(A.length+U.length) - q:Nat):Int))&&decide (((mid+(A.length+U.length) - q:Nat):Int) < ((A.length+U.length+V.length:Nat):Int)))then O (mid:Int) ((mid+(A.length+U.length) - q:Nat):Int) ((A.length+U.length+V.length:Nat):Int) (A++W++(U2++V2++C))else A++W++(U2++V2++C))=A++W++M2++C/\ato (U2++V2) M2/\Srt M2/\M2.length=U2.length+V2.length:=by
  cases hc:(decide ((mid:Int) < ((mid+(A.length+U.length) - q:Nat):Int))&&decide (((mid+(A.length+U.length) - q:Nat):Int) < ((A.length+U.length+V.length:Nat):Int)))with
  |true=>
   simp only[ap9,decide_eq_true_eq]at hc;obtain⟨h1,M2,h2,h3,h4,h5⟩:=hr (A++W) U2 V2 C (by rw[<-aqS];omega) (by rw[<-aqS];omega) XM XN sU2 sV2;have e0:(((A++W).length:Nat):Int)=(mid:Int):=by rw[aqk];omega
   have e1:(((A++W).length+U2.length:Nat):Int)=((mid+(A.length+U.length) - q:Nat):Int):=XM
   grind
  |false=>
   simp only[arB,decide_eq_false_iff_not]at hc;refine⟨U2++V2,(λh=>by cases h),by simp,ato.refl _,?_,aqk⟩;have:U2=[]\/V2=[]:=by
    rcases hc with hc|hc;exact .inl (aqn XM);exact .inr (aqn XM)
   rcases this with rfl|rfl <;>grind
 unfold yf N5;simp only[w1,w2,b1,b2,Y,hn,elo,ehi,s2,X,cond_false];refine⟨⟨(λh=>by cases h),λ_=>⟨(λh=>by cases h),λ_=>⟨s1,(λz h=>by cases h),λz hz=>?_⟩⟩⟩,W++M2,?_,?_,?_,?_⟩;cases hz;simp only[X];exact ahz (λl=>O (A.length:Int) (q:Int) (mid:Int) l) (λl=>E (A.length:Int) (q:Int) (mid:Int) l) (λl=>E (mid:Int) ((mid+(A.length+U.length) - q:Nat):Int) ((A.length+U.length+V.length:Nat):Int) l) (λh=>(hrot h).1) (λh=>XN) (λh=>by rw[hl1];grind);refine(amp (λl=>O (A.length:Int) (q:Int) (mid:Int) l) (λl=>O (mid:Int) ((mid+(A.length+U.length) - q:Nat):Int) ((A.length+U.length+V.length:Nat):Int) l)).trans ?_;rw[hl1];simp only[hM1];grind
 ·have h0:ato (U2++V1) (V1++U2):=ato.swap λa ha b hb=>XN
  have h1:ato (U++V) (U1++V1++(U2++V2)):=by
   have:=((ato.refl U1).app h0).app (ato.refl V2);grind
  exact h1.trans (f1.app f2)
 refine El t1 t2 λx hx y hy=>?_;have hx:=f1.symm.mem hx;have hy:=f2.symm.mem hy;rcases aqz.1 hx with hx|hx <;>rcases aqz.1 hy with hy|hy <;>grind;grind
theorem Q6:∀ n,ae0 n (sJ n).1 (sJ n).2
 |0=>λA U V C O Y h=>absurd (aqS.2 O) XM
 |n+1=>λA U V C O Y hN E W X=>by
  have pU:=aqS.2 O;have pV:=aqS.2 Y;by_cases h1:U.length=1
  obtain⟨x,rfl⟩:=asQ.1 h1;exact TN _ _ A V C x E X;by_cases h2:V.length=1
  obtain⟨x,rfl⟩:=asQ.1 h2;exact Q5 _ _ A U C x XM E W;exact TO (Q6 n) A U V C XM XM hN E W X
theorem aab (A U V C:List bo)(X:U≠[])(Y:V≠[])(W:(A++U++V++C).length<2 ^ 60)(E:Srt U)(O:Srt V):
  cP (A.length:Int) ((A.length+U.length:Nat):Int) ((A.length+U.length+V.length:Nat):Int) (A++U++V++C)/\
  ∃ M,dl (A.length:Int) ((A.length+U.length:Nat):Int) ((A.length+U.length+V.length:Nat):Int) (A++U++V++C)=A++M++C/\ato (U++V) M/\Srt M/\M.length=U.length+V.length:=
 Q6 ((A++U++V++C).length+1) A U V C X Y XN W E O
inductive Blk (n:Nat):List bo->Prop
 |last {l:List bo}:l.length<=n->Srt l->Blk n l
 |cons {b l:List bo}:b.length=n->Srt b->Blk n l->Blk n (b++l)
inductive Full (n:Nat):List bo->Prop
 |nil:Full n []
 |snoc {l b:List bo}:Full n l->b.length=n->Srt b->Full n (l++b)
variable {n:Nat}{a:List bo}
theorem Full.app(h:Full n a):∀ {l:List bo},Blk n l->Blk n (a++l):=by
 induction h with
 |nil=>grind
 |snoc _ O E V=>exact λh=>by rw[aqY];exact V (.cons O E h)
theorem Blk.srt(h:Blk n l)(O:l.length<=n):Srt l:=by
 cases h with
 |last _ E=>exact E
 | @cons b r V E h=>
  rw[aqk]at O;have:=aqn (show r.length=0 by omega);grind
theorem Blk.split(h:Blk n l)(O:n<=l.length):∃ b r,l=b++r/\b.length=n/\Srt b/\Blk n r:=by
 cases h with
 |last h1 E=>exact⟨l,[],by simp,XM,E,.last (aqq _) List.Pairwise.nil⟩
 |cons V E h=>grind
theorem xF{b:List bo}(h:ato a b):a.length=b.length:=by
 have h1:∀ l:List bo,(stS l).length=l.length:=λl=>by
  induction l with
  |nil=>rfl
  |cons x r O=>
   have:∀ l:List bo,(stI x l).length=l.length+1:=λl=>by
    induction l with
    |nil=>rfl
    |cons y l E=>
     unfold stI;grind
   show(stI x (stS r)).length=_;grind
 rw[<-h1 a,<-h1 b,BR (h.trans (zV b)) (Oh b)]
theorem Mn (l:List bo)(hl:l.length<2 ^ 58):cw (l.length:Int) l/\cT (l.length:Int) l=stS l:=by
 obtain⟨k1,r,k2,D,R,rfl,k3,k4,k5,k6⟩:okI (bN (l.length:Int)) (dy (l.length:Int)) (Int.toNat (l.length:Int)+1) 0 (l,0,20)/\∃ r,aj (bN (l.length:Int)) (Int.toNat (l.length:Int)+1) 0 (l,0,20)=.inl r/\∃ D R,r=(((D.length:Nat):Int),D++R)/\Full 20 D/\ato l (D++R)/\R.length<20/\l.length=D.length+R.length:=by
  refine A3 (λs:List bo×Int×Int=>((l.length:Int) - s.2.1).toNat) (λs:List bo×Int×Int=>∃ D R,s=(D++R,((D.length:Nat):Int),((D.length+20:Nat):Int))/\Full 20 D/\ato l (D++R)/\l.length=D.length+R.length) _ ?_ _ _ _ ⟨[],l,rfl,.nil,ato.refl _,by simp⟩ XN;rintro k s ⟨D,R,rfl,hD,W,O⟩;unfold dy bN;by_cases h:20<=R.length
  have e:decide (((D.length+20:Nat):Int)<=(l.length:Int))=true:=XN
  have hRs:R.take 20++R.drop 20=R:=aq6 _ _;have hRt:(R.take 20).length=20:=XN
  have hi:=Mm D (R.take 20) (R.drop 20) XN;rw[aqY D,hRs,hRt]at hi;have⟨i1,M,Y,E,V⟩:=hi;have hM:=xF E;have w:i64.wrap (((D.length+20:Nat):Int)+20)=(((D++M).length+20:Nat):Int):=by grind [ar]
  simp only[e];refine⟨λ_=>i1,.inr ⟨_,rfl,XN,D++M,R.drop 20,?_,hD.snoc XM V,?_,XN⟩⟩;grind
  refine W.trans ?_;have:=((ato.refl D).app (E.app (ato.refl (R.drop 20))));grind
  grind
 have hi:=Mm D R [] XN;have eN:((D.length+R.length:Nat):Int)=(l.length:Int):=XM
 rw[aqo,eN]at hi;obtain⟨i1,M,Y,E,V⟩:=hi;rw[aqo]at Y;have hM:=xF E;have hB0:Blk 20 (D++M):=k3.app (.last XM V);have hF0:ato l (D++M):=k4.trans ((ato.refl D).app E);obtain⟨m1,r,m2,m3,m4⟩:okI (ce (l.length:Int)) (cI (l.length:Int)) (Int.toNat (l.length:Int)+1) 0 (D++M,20)/\∃ r,aj (ce (l.length:Int)) (Int.toNat (l.length:Int)+1) 0 (D++M,20)=.inl r/\ato l r/\Srt r:=by
  refine A3 (λs:List bo×Int=>((l.length:Int) - s.2).toNat) (λs:List bo×Int=>∃ (L:List bo) (n:Nat),s=(L,(n:Int))/\20<=n/\n<2 ^ 59/\Blk n L/\ato l L) _ ?_ _ _ _ ⟨D++M,20,rfl,aqb _,XM,hB0,hF0⟩ XM;rintro k s ⟨L,n,rfl,hn,hn2,hB,W⟩;have hLl:=xF W;by_cases h:n<l.length
  have e:decide ((n:Int) < (l.length:Int))=true:=XN
  have w2:i64.wrap (2*(n:Int))=((2*n:Nat):Int):=by grind [ar]
  have w2':i64.wrap ((n:Int)*2)=((2*n:Nat):Int):=XN
  obtain⟨p1,r,p2,D,R,rfl,p3,p4,p5,p6,p7⟩:okI (c7 (l.length:Int) (L,(n:Int))) (dz (l.length:Int) (L,(n:Int))) (Int.toNat (l.length:Int)+1) 0 (L,0,((2*n:Nat):Int))/\∃ r,aj (c7 (l.length:Int) (L,(n:Int))) (Int.toNat (l.length:Int)+1) 0 (L,0,((2*n:Nat):Int))=.inl r/\∃ D R,r=(((D.length:Nat):Int),D++R)/\Full (2*n) D/\Blk n R/\ato l (D++R)/\R.length<2*n/\l.length=D.length+R.length:=by
   refine A3 (λs:List bo×Int×Int=>((l.length:Int) - s.2.1).toNat) (λs:List bo×Int×Int=>∃ D R,s=(D++R,((D.length:Nat):Int),((D.length+2*n:Nat):Int))/\Full (2*n) D/\Blk n R/\ato l (D++R)/\l.length=D.length+R.length) _ ?_ _ _ _ ⟨[],L,by simp,.nil,hB,W,XN⟩ XN;rintro k s ⟨D,R,rfl,hD,hR,W,O⟩;unfold dz c7;by_cases h:2*n<=R.length
   have e:decide (((D.length+2*n:Nat):Int)<=(l.length:Int))=true:=XN
   obtain⟨X,R1,rfl,b1,b2,b3⟩:=hR.split XM;rw[aqk]at h O;obtain⟨B2,R2,rfl,c1,c2,c3⟩:=b3.split XM;have⟨i1,M,Y,E,V,i5⟩:=aab D X B2 R2 XN XN XN b2 c2;have e0:D++X++B2++R2=D++(X++(B2++R2)):=by simp
   have e1:((D.length+X.length+B2.length:Nat):Int)=((D.length+2*n:Nat):Int):=XM
   have e2:i64.wrap ((D.length:Int)+(n:Int))=((D.length+X.length:Nat):Int):=by grind [ar]
   rw[e0,e1]at i1 Y;have w:i64.wrap (((D.length+2*n:Nat):Int)+((2*n:Nat):Int))=(((D++M).length+2*n:Nat):Int):=by grind [ar]
   simp only[e,e2];refine⟨λ_=>i1,.inr ⟨_,rfl,XN,D++M,R2,?_,hD.snoc XM V,c3,?_,XN⟩⟩;grind
   refine W.trans ?_;have:=(ato.refl D).app (E.app (ato.refl R2));grind
   grind
  have wm:i64.wrap ((D.length:Int)+(n:Int))=((D.length+n:Nat):Int):=by grind [ar]
  unfold cI ce;simp only[w2,p2];by_cases hm:n<R.length
  obtain⟨X,R1,rfl,b1,b2,b3⟩:=p4.split XM;rw[aqk]at hm p6 p7;have b4:=b3.srt XM;have⟨i1,M,Y,E,V,i5⟩:=aab D X R1 [] XN XN XN b2 b4;refine⟨λ_=>⟨p1,(λz h=>by cases h),λx hx=>XN⟩,.inr ⟨(D++M,((2*n:Nat):Int)),XN,XM,D++M,2*n,rfl,XM,XM,p3.app (.last XM V),p5.trans ((ato.refl D).app E)⟩⟩;refine⟨λ_=>⟨p1,(λz h=>by cases h),λx hx=>XN⟩,.inr ⟨(D++R,((2*n:Nat):Int)),XN,XM,D++R,2*n,rfl,XM,XM,p3.app (.last XM (p4.srt XM)),p5⟩⟩;have e:decide ((n:Int) < (l.length:Int))=false:=XN
  unfold cI ce;simp only[e];exact⟨(λh=>by cases h),.inl ⟨_,rfl,W,hB.srt XM⟩⟩
 unfold cw cT;rw[k2];simp only[Y,m2];exact⟨⟨k1,(λz h=>by cases h),λx hx=>XN⟩,BR m3 m4⟩
def Q7 (l:List bo)(E:l.length<2 ^ 58):bL l/\bV l=stS l:=⟨λ_=>(Mn l E).1,(Mn l E).2⟩
theorem Q8:∀ (l:List bo) (n:Int),zp .int .C1 (xE l) n=l.any λy=>y.no==n:=λl n=>by
 have:∀ (r:List bo),zp .int .C1 (xE r.reverse) n=r.reverse.any λy=>y.no==n:=λr=>by
  induction r with
  |nil=>rfl
  |cons x r E=>
   rw[List.reverse_cons,AB,WS];grind
 simpa using this l.reverse
theorem ID(h:Asc l){y:bo}(hy:y∈l):aF .int .C1 (xE l) y.no=y:=by
 have:∀ (r:List bo),Asc r.reverse->∀ y∈r,aF .int .C1 (xE r.reverse) y.no=y:=λr=>by
  induction r with
  |nil=>simp
  |cons x r O=>
   intro E y hy;rw[List.reverse_cons]at E |-;have⟨a1,_,a3⟩:=aqr.1 E;rw[AB,qm];rcases aqg.1 hy with rfl|hy;grind
   have:=a3 y XN x (by simp);rw[if_neg (show ¬y.no=x.no by omega)];exact O a1 y hy
 simpa using this l.reverse (by simpa using h) y XN
structure Fit (d:ai)(x:bo):Prop where
 no0:0<=x.no
 no1:x.no<=1048576
 at0:0<=x.at_
 at1:x.at_<=4096
 kn0:0<=x.known
 kn1:x.known<=1048576
 kind:x.kind=1\/x.kind=2\/x.kind=3\/x.kind=4
 held:x.kind≠4->0<=x.right/\x.right< (d.bl.length:Int)/\(d.bl.getD (Int.toNat x.right) default).kind=1/\0<=x.since/\x.since< (d.zs.length:Int)
 pass:x.kind=1->0<=x.to/\x.to< (d.zs.length:Int)/\x.to≠x.since
 split:x.kind=2->auw d x.parts
variable {d:ai}
theorem aac{m:List (Int×bo)}{x:bo}(X:d.zs.length<=600)(hr:d.bl.length<=256)(h:dF d m x=true):Fit d x/\(x.kind=4->zp .int .C1 m x.of_=true/\(aF .int .C1 m x.of_).kind≠4/\(aF .int .C1 m x.of_).known<=x.known):=by
 unfold dF at h;cases E:((((!(aY x.no 0 1048576)) ||(!(aY x.at_ 0 4096))) ||(!(aY x.known 0 1048576))) ||(!(mn x)))with
 |true=>grind
 |false=>
  rw[E]at h;simp[aqt,aq9]at E;have⟨⟨⟨a1,a2⟩,a3⟩,a4⟩:=E;rw[yl]at a1 a2 a3;by_cases W:x.kind=1
  rw[show(x.kind==1)=true by simp[W]]at h;simp[cond_true,ap9,beq_iff_eq,bne_iff_ne]at h;have⟨⟨⟨⟨b1,b2⟩,b3⟩,b4⟩,b5⟩:=h;rw[BQ _ XM]at b1 b3 b4;exact⟨⟨a1.1,a1.2,a2.1,a2.2,a3.1,a3.2,.inl W,λ_=>⟨b1.1,b1.2,b2,b3.1,b3.2⟩,λ_=>⟨b4.1,b4.2,b5⟩,λe=>XM⟩,λe=>XM⟩;rw[show(x.kind==1)=false by grind]at h;by_cases k2:x.kind=2
  rw[show(x.kind==2)=true by simp[k2]]at h;simp[cond_true,cond_false,ap9,beq_iff_eq]at h;have⟨⟨⟨b1,b2⟩,b3⟩,b4⟩:=h;rw[BQ _ XM]at b1 b3;exact⟨⟨a1.1,a1.2,a2.1,a2.2,a3.1,a3.2,.inr (.inl k2),λ_=>⟨b1.1,b1.2,b2,b3.1,b3.2⟩,λe=>XM,λ_=>Z8 X b4⟩,λe=>XM⟩;rw[show(x.kind==2)=false by grind]at h;by_cases V:x.kind=3
  rw[show(x.kind==3)=true by simp[V]]at h;simp[cond_true,cond_false,ap9,beq_iff_eq]at h;have⟨⟨b1,b2⟩,b3⟩:=h;rw[BQ _ XM]at b1 b3;exact⟨⟨a1.1,a1.2,a2.1,a2.2,a3.1,a3.2,.inr (.inr (.inl V)),λ_=>⟨b1.1,b1.2,b2,b3.1,b3.2⟩,λe=>XM,λe=>XM⟩,λe=>XM⟩;rw[show(x.kind==3)=false by grind]at h;by_cases O:x.kind=4
  rw[show(x.kind==4)=true by simp[O]]at h;simp[cond_true,cond_false,ap9,bne_iff_ne,decide_eq_true_eq]at h;have⟨⟨b1,b2⟩,b3⟩:=h;exact⟨⟨a1.1,a1.2,a2.1,a2.2,a3.1,a3.2,.inr (.inr (.inr O)),λe=>absurd O e,λe=>XM,λe=>XM⟩,λ_=>⟨b1,b2,b3⟩⟩;grind
structure avj (d:ai)(l:List bo):Prop where
 right:atq d
 len:l.length<=512
 asc:Asc l
 fit:∀ x∈l,Fit d x
 void:∀ x∈l,x.kind=4->∃ y∈l,y.no=x.of_/\y.kind≠4/\y.known<=x.known/\y.no<x.no
theorem Vn {d:ai}:∀ {r b:List bo},Chk d b r->∀ x∈r,∃ E,(∃ t,b++r=E++x::t)/\dF d (xE E) x=true
 | [],_,_,x,hx=>by cases hx
 |y::r,b,⟨h1,h2,O⟩,x,hx=>by
  rcases aqg.1 hx with rfl|hx;grind
  have⟨E,⟨t,e⟩,h⟩:=Vn O x hx;grind
theorem vH(h:bj d l=0):avj d l:=by
 have⟨h1,h2,_,h4⟩:=(AC d l).1 h;have hr:=kc (d:=d) (by rw[h1];rfl);have O:=Chk.asc List.Pairwise.nil h4;rw[aqs]at O;have W:∀ x∈l,∃ X,(∃ t,l=X++x::t)/\dF d (xE X) x=true:=λx E=>by
  have:=Vn h4 x E;grind
 refine⟨hr,h2,O,λx E=>?_,λx E Y=>?_⟩;have⟨b,_,h⟩:=W x E;exact(aac hr.zs hr.bl h).1;have⟨b,⟨t,e⟩,h⟩:=W x E;have⟨q1,q2,q3⟩:=(aac hr.zs hr.bl h).2 Y;rw[Q8,arm]at q1;have⟨y,hy,hn⟩:=q1;have hn:y.no=x.of_:=XN
 rw[e]at O;have V:Asc b:=(aqr.1 O).1;rw[<-hn,ID V hy]at q2 q3;exact⟨y,XN,hn,q2,q3,(aqr.1 O).2.2 y hy x aqh⟩
def sb (l:List bo)(a n:Int):Bool:=l.any λv=>v.kind==4&&decide (v.known<=a)&&v.of_==n
def Em (l:List bo)(b a:Int):List bo:=l.filter λx=>!((((x.kind==4) ||(decide (x.known > a))) ||(decide (x.at_ > b))) ||sb l a x.no)
theorem aad (l:List bo)(known:Int):∃ m,aj (gc l known) l.length 0 []=.inr m/\∀ n,aF .int .bool m n=sb l known n:=by
 have⟨r,h1,h2⟩:=i_ (step:=gc l known) (λk m=>∀ n,aF .int .bool m n=sb (l.take k) known n) l.length 0 ([]:List (Int×Bool)) (λn=>by rfl) (λj s _ O E=>by
  rw[aqu]at O;unfold gc;rw[cj l default O];cases hc:(((l.getD j (default:bo)).kind==4)&&(decide ((l.getD j (default:bo)).known<=known)))with
  |true=>
   refine⟨_,rfl,λn=>?_⟩;rw[qm];unfold sb at E |-;grind
  |false=>
   refine⟨_,rfl,λn=>?_⟩;rw[E];unfold sb;grind)
 grind
theorem aae (K G:List bo):((zq .C1 (K++G) (K.length:Int) ((K++G).length:Int)).take K.length)=K:=by
 grind [zq]
variable {α:Type}
theorem zW{step:Nat->Unit->Int⊕Unit}(l:List α)(d:α)(P:α->Bool)(h:∀ k,k<l.length->step k ()=bif P (l.getD k d)then .inl (k:Int)else .inr ()):(aj step l.length 0 ()=.inr ()/\∀ x∈l,P x=false)\/∃ K x R,l=K++x::R/\aj step l.length 0 ()=.inl (K.length:Int)/\P x=true/\∀ y∈K,P y=false:=by
 have key:∀ (R K:List α),l=K++R->(∀ y∈K,P y=false)->(aj step R.length K.length ()=.inr ()/\∀ x∈l,P x=false)\/∃ E x V,l=E++x::V/\aj step R.length K.length ()=.inl (E.length:Int)/\P x=true/\∀ y∈E,P y=false:=λR=>by
  induction R with
  |nil=>exact λK h O=>.inl ⟨rfl,λx X=>O x XN⟩
  |cons x R Y=>
   intro K W O;simp[aqc,aj];cases X:P x with
   |true=>grind
   |false=>
    have:=Y (K++[x]) (by rw[W];simp) (λy hy=>by
     grind)
    simp_all
 exact key l [] rfl (by simp)
theorem WW (l:List bo)(known hour:Int)(v:List (Int×Bool))(hl:l.length<2 ^ 47):bH l known hour v/\bD l known hour v=l.filter λx=>!bA x known hour v:=by
 have hI:(a9 l known hour v= -1/\∀ x∈l,bA x known hour v=false)\/∃ K x R,l=K++x::R/\a9 l known hour v=(K.length:Int)/\bA x known hour v=true/\∀ y∈K,bA y known hour v=false:=by
  unfold a9;rcases zW (step:=fe l known hour v) l default (λx=>bA x known hour v) (λk _=>rfl)with⟨e,h⟩ | ⟨K,x,R,h1,e,h2,h3⟩ <;>grind
 unfold bH bD;rcases hI with⟨e,h⟩ | ⟨K,x,R,hl0,e,h2,h3⟩;rw[e];refine⟨(λh=>by cases h),?_⟩;exact(ass.2 λx hx=>XN).symm;have b:((K.length:Int) == -1)=false:=by rfl
 have Y:l.length=K.length+(R.length+1):=XN
 have w:i64.wrap ((K.length:Int)+1)=((K.length+1:Nat):Int):=by grind [ar]
 rw[e,w];simp only[b,cond_false];obtain⟨k1,r,k2,E,O,rfl,k3⟩:okI (bZ l known hour v) (cF l known hour v) (l.length+1) 0 (l,(K.length:Int),((K.length+1:Nat):Int))/\∃ r,aj (bZ l known hour v) (l.length+1) 0 (l,(K.length:Int),((K.length+1:Nat):Int))=.inl r/\∃ E O,r=((E.length:Int),E++O)/\E=l.filter λx=>!bA x known hour v:=by
  refine A3 (λs:List bo×Int×Int=>((l.length:Int) - s.2.2).toNat) (λs:List bo×Int×Int=>∃ E g O V,s=(E++g::(O++V),(E.length:Int),((E.length+(O.length+1):Nat):Int))/\E.length+(O.length+1)+V.length=l.length/\(l.filter λx=>!bA x known hour v)=E++V.filter λx=>!bA x known hour v) _ ?_ _ _ _ ⟨K,x,[],R,XN,XN,?_⟩ XN;rintro k s ⟨E,g,O,V,rfl,hn,hF⟩;have hL:(E++g::(O++V)).length=l.length:=XN
  unfold cF bZ;simp only[hL];cases V with
  |nil=>
   grind
  |cons y V=>
   simp only[aqc]at hn;have e1:decide (((E.length+(O.length+1):Nat):Int) < (l.length:Int))=true:=XN
   have gy:(E++g::(O++y::V)).getD (E.length+(O.length+1)) default=y:=by
    grind
   have w1:i64.wrap (((E.length+(O.length+1):Nat):Int)+1)=((E.length+(O.length+1)+1:Nat):Int):=by grind [ar]
   have w2:i64.wrap ((E.length:Int)+1)=((E.length+1:Nat):Int):=by grind [ar]
   simp only[e1,cond_true,aqa,gy,w1,w2];refine⟨λ_ _=>⟨XM,λ_=>XM⟩,.inr ?_⟩;cases hy:bA y known hour v with
   |false=>
    have⟨X,W,hG⟩:∃ X W,O++[y]=X::W:=by
     cases O <;>grind
    have hGl:O.length+1=W.length+1:=by have:=congrArg List.length hG;grind
    refine⟨_,rfl,XN,E++[y],X,W,V,?_,?_,?_⟩;grind [Prod.mk.injEq]
    grind
    grind
   |true=>
    refine⟨_,rfl,by simp;omega,E,g,O++[y],V,?_,by simp[aqc,aqJ];omega,?_⟩ <;>grind
  simp_all
 refine⟨λ_=>⟨k1,Q4 (Q:=λ_=>True) ⟨_,k2,trivial⟩,λz hz=>?_⟩,?_⟩;have:(zq .C1 (E++O) (E.length:Int) ((E++O).length:Int)).length=(E++O).length:=by
  grind [zq]
 grind
 grind [aae]
theorem Q9 (l:List bo)(hour known:Int)(W:l.length<=512):iX l hour known/\eX l hour known=stS (Em l hour known):=by
 have⟨m,e,hm⟩:=aad l known;have O:∀ x,bA x known hour m=((((x.kind==4) ||(decide (x.known > known))) ||(decide (x.at_ > hour))) ||sb l known x.no):=λx=>by
  grind [bA]
 have⟨d1,d2⟩:=WW l known hour m XM;have V:(l.filter λx=>!bA x known hour m)=Em l hour known:=by grind [Em]
 have E:(Em l hour known).length<=l.length:=arg _ _;have⟨s1,s2⟩:=Q7 (Em l hour known) XM;grind [iX,eX,dh]
theorem AE (l:List bo):a8 l=l:=by
 have⟨r,h1,h2⟩:=i_ (step:=di l) (λk s=>s=l.take k) l.length 0 ([]:List bo) (by simp) (λj s _ E O=>⟨_,rfl,by simp_all⟩);simp_all [a8]
theorem aaf (l:List bo):dq l ((a8 l).map Fj):=λ_=>by
 rw[AE];refine⟨gq (λk s=>s=l.take k) _ _ _ (by simp) (λj s _ E O=>⟨?_,λs' h=>?_⟩),λs h=>?_⟩;grind [dN]
 simp_all [di];have:=AE l;grind [a8]
theorem WX (K G:List Claim):((zq .B1 (K++G) (K.length:Int) ((K++G).length:Int)).take K.length)=K:=by
 grind [zq]
theorem TP (l:List Claim)(rs:List Int)(hl:l.length<2 ^ 47):bF l rs/\bI l rs=l.filter λx=>!br x rs:=by
 have hI:(a_ l rs= -1/\∀ x∈l,br x rs=false)\/∃ K x R,l=K++x::R/\a_ l rs=(K.length:Int)/\br x rs=true/\∀ y∈K,br y rs=false:=by
  unfold a_;rcases zW (step:=ff l rs) l default (λx=>br x rs) (λk _=>rfl)with⟨e,h⟩ | ⟨K,x,R,h1,e,h2,h3⟩ <;>grind
 unfold bF bI;rcases hI with⟨e,h⟩ | ⟨K,x,R,hl0,e,h2,h3⟩;rw[e];refine⟨(λh=>by cases h),?_⟩;exact(ass.2 λx hx=>XN).symm;have b:((K.length:Int) == -1)=false:=by rfl
 have Y:l.length=K.length+(R.length+1):=XN
 have w:i64.wrap ((K.length:Int)+1)=((K.length+1:Nat):Int):=by grind [ar]
 rw[e,w];simp only[b,cond_false];obtain⟨k1,r,k2,E,O,rfl,k3⟩:okI (bP l rs) (ci l rs) (l.length+1) 0 (l,(K.length:Int),((K.length+1:Nat):Int))/\∃ r,aj (bP l rs) (l.length+1) 0 (l,(K.length:Int),((K.length+1:Nat):Int))=.inl r/\∃ E O,r=((E.length:Int),E++O)/\E=l.filter λx=>!br x rs:=by
  refine A3 (λs:List Claim×Int×Int=>((l.length:Int) - s.2.2).toNat) (λs:List Claim×Int×Int=>∃ E g O V,s=(E++g::(O++V),(E.length:Int),((E.length+(O.length+1):Nat):Int))/\E.length+(O.length+1)+V.length=l.length/\(l.filter λx=>!br x rs)=E++V.filter λx=>!br x rs) _ ?_ _ _ _ ⟨K,x,[],R,XN,XN,?_⟩ XN;rintro k s ⟨E,g,O,V,rfl,hn,hF⟩;have hL:(E++g::(O++V)).length=l.length:=XN
  unfold ci bP;simp only[hL];cases V with
  |nil=>
   grind
  |cons y V=>
   simp only[aqc]at hn;have e1:decide (((E.length+(O.length+1):Nat):Int) < (l.length:Int))=true:=XN
   have gy:(E++g::(O++y::V)).getD (E.length+(O.length+1)) default=y:=by
    grind
   have w1:i64.wrap (((E.length+(O.length+1):Nat):Int)+1)=((E.length+(O.length+1)+1:Nat):Int):=by grind [ar]
   have w2:i64.wrap ((E.length:Int)+1)=((E.length+1:Nat):Int):=by grind [ar]
   simp only[e1,cond_true,aqa,gy,w1,w2];refine⟨λ_ _=>⟨XM,λ_=>XM⟩,.inr ?_⟩;cases hy:br y rs with
   |false=>
    have⟨X,W,hG⟩:∃ X W,O++[y]=X::W:=by
     cases O <;>grind
    have hGl:O.length+1=W.length+1:=by have:=congrArg List.length hG;grind
    refine⟨_,rfl,XN,E++[y],X,W,V,?_,?_,?_⟩;grind [Prod.mk.injEq]
    grind
    grind
   |true=>
    refine⟨_,rfl,by simp;omega,E,g,O++[y],V,?_,by simp[aqc,aqJ];omega,?_⟩ <;>grind
  simp_all
 refine⟨λ_=>⟨k1,Q4 (Q:=λ_=>True) ⟨_,k2,trivial⟩,λz hz=>?_⟩,?_⟩;have:(zq .B1 (E++O) (E.length:Int) ((E++O).length:Int)).length=(E++O).length:=by
  grind [zq]
 grind
 grind [WX]
theorem ym (s:M1)(rs:List Int)(E:s.c.length<=4096):j9 s rs/\dg s rs= { d:=s.d,c:=s.c.filter λx=>!br x rs}:=by
 have⟨h1,h2⟩:=TP s.c rs XM;exact⟨⟨by unfold dh;omega,h1⟩,by unfold dg;rw[h2]⟩
@[go_sem] def uc (a:List Int)(b:Nat)(c:Unit):Int⊕Unit:=(bif((a.getD b 0) !=0)then .inl (a.getD b 0)else .inr ())
def ic (a:List Int):Int:=(match aj (uc a) a.length 0 ()with| .inl b=>b| .inr c=>0)
@[go_sem] def IE:FI:=(pR .int λa=>(pE (.det True (.i (ic a)))))
theorem F9:P0 prog 163 IE:=by
 have hG:=mG Q1 Q1;refine fN hG f163 [.o] (aZ λO=>(am (λY=>?_)));dsimp only[an]at Y;refine⟨nbl rfl,(XO 0 (LCR (ρ:=Int) (σ:=Unit) 0 [] [] (λV W=>⟨[(5,.rs .int O),(6,.i (O.length:Int)),(7,.i V)],[]⟩) (uc O) pT O.length () (O.length<=aD) (λ_=>.ret) (λE=>⟨[(2,.i E)],[]⟩)) L0),?_,?_⟩;unfold aa f163;simp only[ak,true_and,and_true];refine bG aC hG (λ_=>rfl) (O.length:Int) eE (λhb0 V W X _ hw hc=>⟨L0,ag _,aW (jl [])⟩) λhb0 W hc=>aV (jl []);exact Ce @ic.eq_1
def c8 (a b:Claim):Int:=(ic ([(bv a.hour b.hour),(bv a.att b.att),(bv a.right b.right),(bv a.gl b.gl)]))
@[go_sem] def IF:FI:=(pD .B1 λa=>(pD .B1 λb=>(pE (.det True (.i (c8 a b))))))
theorem yY:P0 prog 107 IF:=fN (mG (cp fg (cn [.sl .int] F9 Q1)) Q1) f107 [.o] (ap λa=>ap λb=>am λE=>Ko @c8.eq_1)
@[go_sem] def iP (b:ai)(d:List Claim)(c:Nat)(f:Unit):Unit⊕Unit:=letI a:=d.getD c default;letI e:=b.bl.getD (Int.toNat (a.right)) default;(bif((((!((((((((decide (a.right>=0))&&(decide (a.right< (b.bl.length:Int))))&&(decide (a.gl>=0)))&&(decide (a.gl< (b.zs.length:Int))))&&(decide (a.hour>=0)))&&(decide (a.hour<b.hours)))&&(decide (a.bn>=1)))&&(decide (a.bn<=1073741824)))) ||(e.kind !=1)) ||(e.att !=a.att)) ||((decide ((c:Int) > 0))&&(decide ((c8 (d.getD (Int.toNat (i64.wrap ((c:Int) - 1))) default) a)>=0))))then .inl ()else .inr ())
def qV (b:ai)(f:List Claim)(c:Nat)(j:Unit):Prop:=letI a:=f.getD c default;letI d:=b.bl.getD (Int.toNat (a.right)) default;letI g:=i64.wrap ((c:Int) - 1);letI h:=(b.bl.length:Int);letI e:= !((((((((decide (a.right>=0))&&(decide (a.right<h)))&&(decide (a.gl>=0)))&&(decide (a.gl< (b.zs.length:Int))))&&(decide (a.hour>=0)))&&(decide (a.hour<b.hours)))&&(decide (a.bn>=1)))&&(decide (a.bn<=1073741824)));letI i:=0<=a.right/\a.right<h;((e=false->i)/\(((e||(d.kind !=1))=false->i)/\(((e||(d.kind !=1)) ||(d.att !=a.att))=false->((decide ((c:Int) > 0))=true->(0<=g/\g< (f.length:Int))))))
def b9 (a:ai)(b:List Claim):Int:=(bif((aB a) !=0)then(aB a)else(bif(decide ((b.length:Int) > 4096))then 2 else(match aj (iP a b) b.length 0 ()with| .inl c=>260| .inr d=>0)))
def qW (b:ai)(a:List Claim):Prop:=(((aB b) !=0)=false->(a.length<=aD->((decide ((a.length:Int) > 4096))=false->(a.length<=aD->okI (iP b a) (qV b a) a.length 0 ()))))
@[go_sem] def IG:FI:=(pD .al λa=>(pR .B1 λb=>(pE (.det (qW a b) (.i (b9 a b))))))
theorem F_:P0 prog 117 IG:=by
 have hG:=mG (cn [.st .al] pd (cp yY Q1)) Q1;refine fN hG f117 [.o] (ap λa0=>(aZ λa1=>(am (λX=>?_))));dsimp only[an,qW]at X;refine⟨nbl rfl,(XO 0 (LCR (ρ:=Unit) (σ:=Unit) 1 [] [0] (λE O=>⟨[(1,.rs .B1 a1),(2,.ptr 0 0),(16,.rs .B1 a1),(17,.i (a1.length:Int)),(18,.i E)],[.cells (cellsOf .al a0)]⟩) (iP a0 a1) (qV a0 a1) a1.length () (a1.length<=aD) (λ_=>.ret) (λW=>⟨[(4,.i 260)],[.dead]⟩)) L0),?_,?_⟩;unfold aa f117;simp only[ak,true_and,and_true];refine bG aC hG (λ_=>rfl) (a1.length:Int) eE (λhb0 E O Y V hw hc=>⟨L0,ag _,?_⟩) (λhb0 O hc=>?_);simp only[qV,hw,aqa]at V
 exact aW (jl [0]);exact aV (jl [0]);exact Ce @b9.eq_1
@[go_sem] def l8 (f:ai)(d:Int)(g:Nat)(a:List (atk×Bool)×List (Int×Int)×List (atk×Bool)):Empty⊕(List (atk×Bool)×List (Int×Int)×List (atk×Bool)):=letI b:=f.bl.getD g default;letI c:=({ gl:=b.gl,reach:=b.reach}:atk);letI e:=(a.1,a.2.1,a.2.2);(bif((decide (d<b.since)) ||(decide (d > b.to)))then .inr e else(bif(b.kind==3)then .inr ((cy .X2 .bool a.1 c true),a.2.1,a.2.2)else(bif((b.kind==2)&&(!(aF .X2 .bool a.2.2 c)))then .inr (a.1,(cy .int .int a.2.1 (b.reach) (i64.wrap ((aF .int .int a.2.1 (b.reach))+1))),(cy .X2 .bool a.2.2 c true))else .inr e)))
def cL (b:ai)(c:Int):atW:=(match aj (l8 b c) b.bl.length 0 ([],[],[])with| .inl x=>x.elim| .inr a=>({ auz:=a.2.1,owned:=a.2.2,aus:=a.1}:atW))
@[go_sem] def IH:FI:=(pD .al λa=>(pI λb=>(pE (.det True (.agg [.nm .int .int ((cL a b).auz),.nm .X2 .bool ((cL a b).owned),.nm .X2 .bool ((cL a b).aus)])))))
theorem Ga:P0 prog 99 IH:=by
 have hG:=mG Q1 Q1;refine fE hG f99 (ap λa0=>(ax λa1=>(am (λW=>?_))));dsimp only[an]at W;refine⟨nbl rfl,(XO 0 (LCR (ρ:=Empty) (σ:=(List (atk×Bool)×List (Int×Int)×List (atk×Bool))) 6 [] [0,1,2,3,4,5] (λO E=>⟨[(1,.i a1),(4,.ptr 1 0),(5,.ptr 5 0),(14,.rs .right a0.bl),(15,.i (a0.bl.length:Int)),(16,.i O)],[.dead,.cells [.v (.map none),.v (.map none),.v (.map none)],.mp .int .int E.2.1 none,.mp .X2 .bool E.2.2 none,.mp .X2 .bool E.1 none,.cells [.os 2,.os 3,.os 4]]⟩) (l8 a0 a1) pT a0.bl.length ([],[],[]) (a0.bl.length<=aD) ((·.elim)) ((·.elim))) L0),?_,?_⟩;unfold aa f99;simp only[ak,true_and,and_true];refine bG aC hG (λ_=>rfl) (a0.bl.length:Int) eE (λhb0 O E V _ hw hc=>⟨L0,ag _,aW (jl [0,1,2,3,4,5])⟩) λhb0 E hc=>aV (jl [0,1,2,3,4,5]);exact Ce @cL.eq_1
def nA (x:atW)(u:atk):Bool:=(bif(aF .X2 .bool x.owned u)then(((i64.wrap ((aF .int .int x.auz u.reach) - 1)) ==0) ||(aF .X2 .bool x.aus u))else(((aF .int .int x.auz u.reach) ==0) ||(aF .X2 .bool x.aus u)))
@[go_sem] def En:FI:=(pD .atI λx=>(pD .X2 λu=>(pE (.det True (.v (.bool (nA x u)))))))
theorem C4:P0 prog 104 En:=fN (mG Q1 Q1) f104 [.o] (ap λx=>ap λu=>am λE=>Ko @nA.eq_1)
def uD (r:Int)(a:atW)(b:Claim):Bool:=(!(nA a ({ gl:=b.gl,reach:=r}:atk)))
@[go_sem] def II:FI:=(pI λr=>(pX .atI λa=>(pX .B1 λb=>(pE (.det True (.v (.bool (uD r a b))))))))
theorem Gb:P0 prog 103 II:=fN (mG (cn [.st .atI,.st .X2] C4 Q1) Q1) f103 [.o] (ax λr=>gO λO=>gO λV=>am λE=>Ko @uD.eq_1)
def fX (a b:Y1):Int:=(c8 a.B1 b.B1)
@[go_sem] def zX:FI:=(pD .ate λa=>(pD .ate λb=>(pE (.det True (.i (fX a b))))))
theorem Gc:P0 prog 106 zX:=fN (mG (cp yY Q1) Q1) f106 [.o] (ap λa=>ap λb=>am λE=>Ko @fX.eq_1)
@[go_sem] def gj (b:List Int)(c:atW)(d:Claim)(a:Nat)(e:Unit):Int⊕Unit:=(bif(uD (b.getD a 0) c d)then .inl (a:Int)else .inr ())
def dP (a:List Int)(b:atW)(c:Claim):Int:=(match aj (gj a b c) a.length 0 ()with| .inl d=>d| .inr e=>(-1))
@[go_sem] def nB:FI:=(pR .int λa=>(pFn 103 (pX .atI λb=>(pX .B1 λc=>(pE ((pE (.det True (.i (dP a b c))))))))))
theorem uE:P0 prog 102 nB:=by
 have hG:=mG (cp Gb Q1) Q1;refine fN hG f102 [.o] (aZ λO=>(qH (gO λx_=>(gO λX=>(am ((am (λhp=>?_))))))));dsimp only[an]at hp;refine⟨nbl rfl,(XO 0 (LCR (ρ:=Int) (σ:=Unit) 0 [] [] (λV W=>⟨[(0,.rs .int O),(1,.fn 103 [] [.ep (cellsOf .atI x_) 0,.ep (cellsOf .B1 X) 0]),(7,.i (O.length:Int)),(8,.i V)],[]⟩) (gj O x_ X) pT O.length () (O.length<=aD) (λ_=>.ret) (λE=>⟨[(4,.i E)],[]⟩)) L0),?_,?_⟩;unfold aa f102;simp only[ak,true_and,and_true];refine bG aC hG (λ_=>rfl) (O.length:Int) eE (λhb0 V W Y _ hw hc=>⟨L0,ag _,aW (jl [])⟩) λhb0 W hc=>aV (jl []);exact Ce @dP.eq_1
@[go_sem] noncomputable def gk:FI:=λl=>(nB l)
def ud:P0 prog 102 gk:=uE
variable {l0 l1:List Nat}{p:Prop}
theorem oR(a0:JL l0)(a1:JL l1)(h:JL l0->JL l1->p:=by intro ja jb;simp only[go_sem];all_goals exact fM ja jb):p:=h a0 a1
def jC (x:bo)(a e b c d:Bool):Bool:=(((((a||(x.right==0))&&(e||(x.since==0)))&&(b||(x.to==0)))&&(c||((x.parts.length:Int) ==0)))&&(d||(x.of_==0)))
@[go_sem] def Oi:FI:=(pD .C1 λx=>(pB λa=>(pB λb=>(pB λc=>(pB λd=>(pB λe=>(pE (.det True (.v (.bool (jC x a b c d e)))))))))))
theorem KT:P0 prog 253 Oi:=fN (mG Q1 Q1) f253 [.o] (ap λx=>ya λright=>ya λfr=>ya λto=>ya λE=>ya λV=>am λE=>Ko @jC.eq_1)
def od (d:ai)(x:bo):Bool:=(((((decide (x.right>=0))&&(decide (x.right< (d.bl.length:Int))))&&((d.bl.getD (Int.toNat x.right) default).kind==1))&&(decide (x.since>=0)))&&(decide (x.since< (d.zs.length:Int))))
def qX (d:ai)(x:bo):Prop:=(((decide (x.right>=0))&&(decide (x.right< (d.bl.length:Int))))=true->(0<=x.right/\x.right< (d.bl.length:Int)))
@[go_sem] def IJ:FI:=(pD .al λd=>(pD .C1 λx=>(pE (.det (qX d x) (.v (.bool (od d x)))))))
theorem Gd:P0 prog 254 IJ:=fN (mG Q1 Q1) f254 [.o] (ap λd=>ap λx=>am λE=>Pq @od.eq_1 @qX.eq_1)
@[go_sem] def kR (a:List Part)(b c:Nat)(d:Unit):Unit⊕Unit:=(bif((a.getD c default).gl==(a.getD b default).gl)then .inl ()else .inr ())
def sd (b:List Part)(c a:Nat)(d:Unit):Prop:=(0<=(a:Int)/\(a:Int) < (b.length:Int))
@[go_sem] def nC (g:ai)(e:List Part)(b:Nat)(f:Int×Int):Unit⊕(Int×Int):=letI a:=e.getD b default;letI c:=uW ({ n:=f.1,d:=f.2}:W2) (a.share);(bif((((decide (a.gl<0)) ||(decide (a.gl>=(g.zs.length:Int)))) ||(!(eG (a.share)))) ||(decide (a.share.n<=0)))then .inl ()else(match aj (kR e b) (Int.toNat (b:Int)) 0 ()with| .inl h=>.inl () | .inr i=>(bif(c.2 !=0)then .inl ()else .inr ((c.1).n,(c.1).d))))
def se (j:ai)(c:List Part)(b:Nat)(e:Int×Int):Prop:=letI a:=c.getD b default;letI f:=decide (a.gl>=(j.zs.length:Int));letI g:=kR c b;letI h:=Int.toNat (b:Int);letI i:=decide (a.gl<0);(c.length<=aD->(((i||f)=false->(ia (a.share)))/\((((i||f) ||(!(eG (a.share)))) ||(decide (a.share.n<=0)))=false->(((b:Int) <9223372036854775808)/\okI g (sd c b) h 0 ()/\(∀ s_1,aj g h 0 ()=.inr s_1->(tO ({ n:=e.1,d:=e.2}:W2) (a.share)))))))
def tU (c:ai)(a:List Part):Bool:=(bif((decide ((a.length:Int) <1)) ||(decide ((a.length:Int) > 16)))then false else(match aj (nC c a) a.length 0 (0,1)with| .inl d=>false| .inr b=>(b.1==b.2)))
def sS (b:ai)(a:List Part):Prop:=(a.length<=aD->(((decide ((a.length:Int) <1)) ||(decide ((a.length:Int) > 16)))=false->okI (nC b a) (se b a) a.length 0 (0,1)))
@[go_sem] def KU:FI:=(pD .al λa=>(pR .part λb=>(pE (.det (sS a b) (.v (.bool (tU a b)))))))
theorem IK:P0 prog 255 KU:=by
 have hG:=mG (cp nq (cp Oc Q1)) Q1;refine fN hG f255 [.o] (ap λa0=>(aZ λa1=>(am (λhp=>?_))));dsimp only[an,sS]at hp;refine⟨nbl rfl,(XO 0 (LCR (ρ:=Unit) (σ:=(Int×Int)) 2 [] [0,1] (λE O=>⟨[(1,.rs .part a1),(2,.ptr 0 0),(5,.ptr 1 0),(6,.i E)],[.cells (cellsOf .al a0),.cells [.i O.1,.i O.2]]⟩) (nC a0 a1) (se a0 a1) a1.length (0,1) (True) (λ_=>.ret) (λY=>⟨[(4,.v (.bool false))],[.dead,.dead]⟩)) L0),?_,?_⟩;unfold aa f255;simp only[ak,true_and,and_true];refine bX (a1.length<=aD) aC hG (λ_=>rfl) (a1.length:Int) eE (λhb0 E O aue V hw hc=>⟨(XO 2 (LCR (ρ:=Unit) (σ:=Unit) 3 [] [0,1,2] (λW X=>⟨[(1,.rs .part a1),(2,.ptr 0 0),(5,.ptr 1 0),(6,.i E),(7,.ptr 2 0),(8,.i W)],[.cells (cellsOf .al a0),.cells [.i O.1,.i O.2],.cells (cellsOf .part (a1.getD E (default:Part)))]⟩) (kR a1 E) (sd a1 E) (Int.toNat (E:Int)) () ((E:Int) <9223372036854775808) (λ_=>.ret) (λatG=>⟨[(4,.v (.bool false))],[.dead,.dead,.dead]⟩)) L0),?_,?_⟩) (λhb0 O hc=>?_) λhb0 E O=>?_;simp only[ak,true_and,and_true];refine bG aC hG (λ_=>rfl) (E:Int) id (λhb1 W X auI hq1 hw hc=>⟨L0,ag _,?_⟩) (λhb1 X hc=>?_);simp only[sd,hw,aqa]at hq1
 exact aW (jl [0,1,2]);exact aV (jl [0,1,2]);simp only[se,hw,aqa]at V
 exact aW (jl [0,1]);exact aV (jl [0,1]);exact zq7;exact Ce @tU.eq_1
@[go_sem] def vI (b:List bo)(c:Int)(a:Nat)(d:Unit):Int⊕Unit:=(bif(((b.getD a default).no==c)&&((b.getD a default).kind !=4))then .inl (a:Int)else .inr ())
def nD (a:List bo)(b:Int):Int:=(match aj (vI a b) a.length 0 ()with| .inl c=>c| .inr d=>(-1))
@[go_sem] def KV:FI:=(pR .C1 λa=>(pI λb=>(pE (.det True (.i (nD a b))))))
theorem IL:P0 prog 256 KV:=by
 have hG:=mG Q1 Q1;refine fN hG f256 [.o] (aZ λX=>(ax λW=>(am (λhp=>?_))));dsimp only[an]at hp;refine⟨nbl rfl,(XO 0 (LCR (ρ:=Int) (σ:=Unit) 0 [] [] (λE V=>⟨[(0,.rs .C1 X),(1,.i W),(5,.i E)],[]⟩) (vI X W) pT X.length () (True) (λ_=>.ret) (λO=>⟨[(4,.i O)],[]⟩)) L0),?_,?_⟩;unfold aa f256;simp only[ak,true_and,and_true];refine bX (X.length<=aD) aC hG (λ_=>rfl) (X.length:Int) eE (λhb0 E V Y _ hw hc=>⟨L0,ag _,aW (jl [])⟩) (λhb0 V hc=>aV (jl [])) λhb0 E V=>zq7;exact Ce @nD.eq_1
def tV (b:ai)(d:List bo)(a:bo):Bool:=letI c:=od b a;letI e:=nD d a.of_;(bif((((((decide (a.no<0)) ||(decide (a.no > 1048576))) ||(decide (a.at_<0))) ||(decide (a.at_ > 4096))) ||(decide (a.known<0))) ||(decide (a.known > 1048576)))then false else(bif(a.kind==1)then(((((jC a true true true false false)&&c)&&(decide (a.to>=0)))&&(decide (a.to< (b.zs.length:Int))))&&(a.to !=a.since))else(bif(a.kind==2)then(((jC a true true false true false)&&c)&&(tU b a.parts))else(bif(a.kind==3)then((jC a true true false false false)&&c)else(bif(a.kind==4)then(((jC a false false false false true)&&(decide (e>=0)))&&(decide (a.known>=(d.getD (Int.toNat e) default).known)))else false)))))
def sT (b:ai)(e:List bo)(a:bo):Prop:=letI c:=nD e a.of_;letI d:=qX b a;letI f:=jC a true true false true false;(((((((decide (a.no<0)) ||(decide (a.no > 1048576))) ||(decide (a.at_<0))) ||(decide (a.at_ > 4096))) ||(decide (a.known<0))) ||(decide (a.known > 1048576)))=false->(((a.kind==1)=true->((jC a true true true false false)=true->d))/\((a.kind==1)=false->(((a.kind==2)=true->((f=true->d)/\((f&&(od b a))=true->(sS b a.parts))))/\((a.kind==2)=false->(((a.kind==3)=true->((jC a true true false false false)=true->d))/\((a.kind==3)=false->((a.kind==4)=true->(((jC a false false false false true)&&(decide (c>=0)))=true->(0<=c/\c< (e.length:Int)))))))))))
@[go_sem] def KW:FI:=(pD .al λa=>(pR .C1 λb=>(pD .C1 λc=>(pE (.det (sT a b c) (.v (.bool (tV a b c))))))))
theorem IM:P0 prog 184 KW:=fN (mG (cn [.st .C1,.o,.o,.o,.o,.o] KT (cn [.st .al,.st .C1] Gd (cn [.st .al,.sl .part] IK (cn [.sl .C1,.o] IL Q1)))) Q1) f184 [.o] (ap λa0=>aZ λa1=>ap λO=>am λE=>Pq @tV.eq_1 @sT.eq_1)
@[go_sem] def mr (a:List bo)(b:Nat)(c:Unit):Unit⊕Unit:=(bif(decide ((((a.getD b default).parts).length:Int) > 16))then .inl ()else .inr ())
def sf (a:List bo):Bool:=(bif(decide ((a.length:Int) > 512))then true else(match aj (mr a) a.length 0 ()with| .inl b=>true| .inr c=>false))
@[go_sem] def Oj:FI:=(pR .C1 λa=>(pE (.det True (.v (.bool (sf a))))))
theorem KX:P0 prog 183 Oj:=by
 have hG:=mG Q1 Q1;refine fN hG f183 [.o] (aZ λV=>(am (λY=>?_)));dsimp only[an]at Y;refine⟨nbl rfl,(XO 0 (LCR (ρ:=Unit) (σ:=Unit) 0 [] [] (λE O=>⟨[(0,.rs .C1 V),(3,.i E)],[]⟩) (mr V) pT V.length () (True) (λ_=>.ret) (λW=>⟨[(2,.v (.bool true))],[]⟩)) L0),?_,?_⟩;unfold aa f183;simp only[ak,true_and,and_true];refine bX (V.length<=aD) aC hG (λ_=>rfl) (V.length:Int) eE (λhb0 E O X _ hw hc=>⟨L0,ag _,aW (jl [])⟩) (λhb0 O hc=>aV (jl [])) λhb0 E O=>zq7;exact Ce @sf.eq_1
@[go_sem] def nE (d:ai)(b:List bo)(a:Nat)(c:Unit):Unit⊕Unit:=(bif(((decide ((a:Int) > 0))&&(decide ((b.getD a default).no<=(b.getD (Int.toNat (i64.wrap ((a:Int) - 1))) default).no))) ||(!(tV d ((b.take a).drop 0) (b.getD a default))))then .inl ()else .inr ())
def sg (d:ai)(a:List bo)(c:Nat)(h:Unit):Prop:=letI b:=(c:Int);letI e:=i64.wrap (b - 1);letI f:=a.getD c default;letI g:=(decide (b > 0))&&(decide (f.no<=(a.getD (Int.toNat e) default).no));(a.length<=aD->(((decide (b > 0))=true->(0<=e/\e< (a.length:Int)))/\((g=false->(0<=0/\0<=b/\b<=(a.length:Int)))/\(g=false->(sT d ((a.take c).drop 0) f)))))
def ll (d:ai)(a:List bo):Int:=(bif((fj d) !=0)then(fj d)else(bif(sf a)then 2 else(match aj (nE d a) a.length 0 ()with| .inl b=>250| .inr c=>0)))
def oS (d:ai)(a:List bo):Prop:=((mq d)/\(((fj d) !=0)=false->((sf a)=false->okI (nE d a) (sg d a) a.length 0 ())))
@[go_sem] def KY:FI:=(pD .al λd=>(pR .C1 λa=>(pE (.det (oS d a) (.i (ll d a))))))
theorem zY:P0 prog 126 KY:=by
 have hG:=mG (cn [.st .al] vF (cn [.sl .C1] KX (cn [.st .al,.sl .C1,.st .C1] IM Q1))) Q1;refine fN hG f126 [.o] (ap λd=>(aZ λV=>(am (λY=>?_))));dsimp only[an,oS]at Y;refine⟨nbl rfl,(XO 0 (LCR (ρ:=Unit) (σ:=Unit) 1 [] [0] (λE O=>⟨[(1,.rs .C1 V),(2,.ptr 0 0),(6,.i E)],[.cells (cellsOf .al d)]⟩) (nE d V) (sg d V) V.length () (True) (λ_=>.ret) (λX=>⟨[(4,.i 250)],[.dead]⟩)) L0),?_,?_⟩;unfold aa f126;simp only[ak,true_and,and_true];refine bX (V.length<=aD) aC hG (λ_=>rfl) (V.length:Int) eE (λhb0 E O aue W hw hc=>⟨L0,ag _,?_⟩) (λhb0 O hc=>?_) λhb0 E O=>?_;simp only[sg,hw,aqa]at W
 exact aW (jl [0]);exact aV (jl [0]);exact zq7;exact Ce @ll.eq_1
@[go_sem] def mu (a:List bo)(x:bo)(c:Int)(b:Nat)(d:Unit):Unit⊕Unit:=(bif((((a.getD b default).kind==4)&&((a.getD b default).of_==x.no))&&(decide ((a.getD b default).known<=c)))then .inl ()else .inr ())
def sh (a:List bo)(x:bo)(b:Int):Bool:=(match aj (mu a x b) a.length 0 ()with| .inl c=>true| .inr d=>false)
@[go_sem] def Ok:FI:=(pR .C1 λa=>(pD .C1 λx=>(pI λb=>(pE (.det True (.v (.bool (sh a x b))))))))
theorem KZ:P0 prog 257 Ok:=by
 have hG:=mG Q1 Q1;refine fN hG f257 [.o] (aZ λV=>(ap λx=>(ax λknown=>(am (λY=>?_)))));dsimp only[an]at Y;refine⟨nbl rfl,(XO 0 (LCR (ρ:=Unit) (σ:=Unit) 1 [] [0] (λE O=>⟨[(0,.rs .C1 V),(2,.i known),(4,.ptr 0 0),(7,.i E)],[.cells (cellsOf .C1 x)]⟩) (mu V x known) pT V.length () (True) (λ_=>.ret) (λW=>⟨[(6,.v (.bool true))],[.dead]⟩)) L0),?_,?_⟩;unfold aa f257;simp only[ak,true_and,and_true];refine bX (V.length<=aD) aC hG (λ_=>rfl) (V.length:Int) eE (λhb0 E O X _ hw hc=>⟨L0,ag _,aW (jl [0])⟩) (λhb0 O hc=>aV (jl [0])) λhb0 E O=>zq7;exact Ce @sh.eq_1
@[go_sem] def iG (a:List bo)(c:Int)(e:List bo×Int)(b:Nat)(d:List bo):Empty⊕(List bo):=(bif(((((a.getD b default).at_==e.2)&&((a.getD b default).kind !=4))&&(decide ((a.getD b default).known<=c)))&&(!(sh a (a.getD b default) c)))then .inr (d++([(a.getD b default)]))else .inr d)
def oE (b:List bo)(c:Int)(d:List bo×Int)(e:Nat)(f:List bo):Prop:=letI a:=b.getD e default;(b.length<=aD->(((((a.at_==d.2)&&(a.kind !=4))&&(decide (a.known<=c)))&&(!(sh b a c)))=true->((f++([a])).length*88<=dh)))
@[go_sem] def gA (b:List bo)(c d:Int)(f:Nat)(a:List bo×Int):(List bo)⊕(List bo×Int):=(bif((decide (a.2<=4096))&&(decide (a.2<=c)))then(match aj (iG b d a) b.length 0 a.1 with| .inl x=>x.elim| .inr e=>.inr (e,(i64.wrap (a.2+1))))else .inl a.1)
def iZ (b:List bo)(d c:Int)(e:Nat)(a:List bo×Int):Prop:=(((decide (a.2<=4096))&&(decide (a.2<=d)))=true->okI (iG b c a) (oE b c a) b.length 0 a.1)
def dA (b:List bo)(a c:Int):List bo:=(match aj (gA b a c) (Int.toNat a+2) 0 ([],0)with| .inl d=>d| .inr e=>default)
def kS (b:List bo)(a c:Int):Prop:=(okI (gA b a c) (iZ b a c) (Int.toNat a+2) 0 ([],0)/\(∀ z_,aj (gA b a c) (Int.toNat a+2) 0 ([],0)≠ .inr z_))
@[go_sem] def Eo:FI:=(pR .C1 λa=>(pI λb=>(pI λc=>(pE (.det (kS a b c) (.nw .C1 (dA a b c)))))))
theorem C5:P0 prog 185 Eo:=by
 have hG:=mG (cn [.sl .C1,.st .C1,.o] KZ Q1) Q1;refine fW hG f185 [(.tmp 6,.C1)] (aZ λO=>(ax λhour=>(ax λknown=>(am (λhp=>?_)))));dsimp only[an,kS]at hp;refine⟨nbl rfl,(XO 0 (LCV (ρ:=(List bo)) (σ:=(List bo×Int)) 0 [.slot 7 (.row .C1 ([]))] [0] (λY E=>⟨[(0,.rs .C1 O),(1,.i hour),(2,.i known),(7,.os 0),(8,.i E.2)],[.row .C1 E.1]⟩) (gA O hour known) (iZ O hour known) (Int.toNat hour+2) ([],0) (λ_=>.normal) (λW=>⟨[(7,.os 0)],[.row .C1 W]⟩)) L0),?_,?_⟩;unfold aa f185;simp only[ak,true_and,and_true];refine dH aC hG (λ_=>rfl) λY E hq0=>⟨(XO 2 (LCR (ρ:=Empty) (σ:=(List bo)) 1 [] [0,0] (λX V=>⟨[(0,.rs .C1 O),(1,.i hour),(2,.i known),(7,.os 1),(8,.i E.2),(9,.i X)],[.dead,.row .C1 V]⟩) (iG O known E) (oE O known E) O.length E.1 (True) ((·.elim)) ((·.elim))) L0),?_,?_⟩;simp only[ak,true_and,and_true];refine bX (O.length<=aD) aC hG (λ_=>rfl) (O.length:Int) eE (λhb1 X V auI hq1 hw hc=>⟨L0,ag _,?_⟩) (λhb1 V hc=>?_) λhb1 X V=>?_;simp only[oE,hw,aqa]at hq1
 exact lZ (jl [0,4]) (jl [0,1]);exact kP (jl [0,4]) (jl [0,1]);exact Ir;unfold iZ at hq0;exact oR (jl [1]) (jl [0]);exact Ce @dA.eq_1
theorem Q_(a0:JL l0)(a1:JL l1)(h:JL l0->JL l1->p:=by intro ja jb;(first|done|(repeat' (first|with_reducible refine And.intro ?_ ?_|exact V0 |with_reducible intro _)) <;>(first|done|with_reducible exact Empty.elim ‹Empty› |with_reducible assumption|rfl|omega|assumption|decide|exact fk ja|exact fk jb|(simp only[*,cond_true,cond_false,aqE,aqN,go_sem];done) |(simp only[*,cond_true,cond_false,aqE,aqN,go_sem];(repeat' (first|with_reducible refine And.intro ?_ ?_|exact V0 |with_reducible intro _)) <;>(first|done|assumption|rfl|omega|decide|exact fk ja|exact fk jb|(simp_all [cB,dY];done))) |(simp_all [okI,cB,dY];done) |(simp_all [cB,dY];(first|done|exact fk2 ja|exact fk2 jb)) |exact fk2 ja|exact fk2 jb|(simp_all only[cB,dY,cond_true,cond_false];(first|done|exact fk ja|exact fk jb|exact fk2 ja|exact fk2 jb|(simp only[go_sem];((repeat' (first|with_reducible refine And.intro ?_ ?_|exact V0 |with_reducible intro _)) <;>(first|done|rfl|exact fk ja|exact fk jb|exact fk2 ja|exact fk2 jb)))))))):p:=h a0 a1
theorem Ra(a0:JL l0)(h:JL l0->p:=by intro ja;(first|done|(repeat' (first|with_reducible refine And.intro ?_ ?_|exact V0 |with_reducible intro _)) <;>(first|done|with_reducible exact Empty.elim ‹Empty› |with_reducible assumption|rfl|omega|assumption|decide|exact fk ja|(simp only[*,cond_true,cond_false,aqE,aqN,go_sem];done) |(simp only[*,cond_true,cond_false,aqE,aqN,go_sem];(repeat' (first|with_reducible refine And.intro ?_ ?_|exact V0 |with_reducible intro _)) <;>(first|done|assumption|rfl|omega|decide|exact fk ja|(simp_all [cB,dY];done))) |(simp_all [okI,cB,dY];done) |(simp_all [cB,dY];(first|done|exact fk2 ja)) |exact fk2 ja|(simp_all only[cB,dY,cond_true,cond_false];(first|done|exact fk ja|exact fk2 ja|(simp only[go_sem];((repeat' (first|with_reducible refine And.intro ?_ ?_|exact V0 |with_reducible intro _)) <;>(first|done|rfl|exact fk ja|exact fk2 ja)))))))):p:=h a0
theorem IN(a0:JL l0)(a1:JL l1)(h:JL l0->JL l1->p:=by intro ja jb;simp only[go_sem,hc,hw];all_goals exact Q_ ja jb):p:=h a0 a1
theorem IP(a0:JL l0)(a1:JL l1)(h:JL l0->JL l1->p:=by intro ja jb;simp only[go_sem,hc];all_goals exact Q_ ja jb):p:=h a0 a1
theorem Rb(a0:JL l0)(h:JL l0->p:=by intro ja;simp only[go_sem,hc,hw];all_goals exact Ra ja):p:=h a0
theorem Rc(a0:JL l0)(h:JL l0->p:=by intro ja;simp only[go_sem,hc];all_goals exact Ra ja):p:=h a0
@[go_sem] def eK (f:List bo)(g:Nat)(h:List Int×List Int)(i:Nat)(a:List Int×Int):Empty⊕(List Int×Int):=letI b:=f.getD g default;letI c:=(b.parts).getD i default;letI d:=gM (c.share) (h.2.getD (Int.toNat (b.since)) 0);letI e:=Int.toNat (c.gl);.inr ((a.1.set e (i64.wrap ((a.1.getD e 0)+d.1))),(i64.wrap (a.2 - d.1)))
def mI (d:List bo)(e:Nat)(f:List Int×List Int)(g:Nat)(h:List Int×Int):Prop:=letI a:=d.getD e default;letI b:=(a.parts).getD g default;letI c:=0<=b.gl/\b.gl< (h.1.length:Int);((a.parts).length<=aD->((oQ (b.share) (f.2.getD (Int.toNat (a.since)) 0))/\(c/\c)))
@[go_sem] def ph (a:List bo)(b:Nat)(e:List Int×Int)(c:Nat)(d:List Int):Empty⊕(List Int):=.inr (d.set (Int.toNat ((((a.getD b default).parts).getD c default).gl)) (i64.wrap ((d.getD (Int.toNat ((((a.getD b default).parts).getD c default).gl)) 0)+1)))
def mJ (e:List bo)(f:Nat)(h:List Int×Int)(a:Nat)(g:List Int):Prop:=letI b:=(e.getD f default).parts;letI c:=b.getD a default;letI d:=0<=c.gl/\c.gl< (g.length:Int);((0<=(a:Int)/\(a:Int) < (b.length:Int))/\(d/\d))
@[go_sem] def iQ (c:List bo)(k:Int)(d:Nat)(a:List Int×List Int):Empty⊕(List Int×List Int):=letI b:=c.getD d default;letI h:=Int.toNat (b.since);letI e:=a.2.getD h 0;letI f:=a.2.set h 0;letI i:=Int.toNat (b.to);letI j:=bif(b.kind==1)then(f.set i (i64.wrap ((f.getD i 0)+e)))else f;(bif(b.right !=k)then .inr (a.1,a.2)else(bif(e==0)then .inr ((a.1++([b.no])),a.2)else(bif(b.kind==2)then(match aj (eK c d a) ((b.parts).length) 0 (j,e)with| .inl x=>x.elim| .inr g=>(match aj (ph c d g) (Int.toNat g.2) 0 g.1 with| .inl x=>x.elim| .inr l=>.inr (a.1,l)))else .inr (a.1,j))))
def iH (b:List bo)(n:Int)(d:Nat)(c:List Int×List Int):Prop:=letI a:=b.getD d default;letI g:=Int.toNat (a.since);letI e:=c.2.set g 0;letI h:=0<=a.since/\a.since< (c.2.length:Int);letI f:=c.2.getD g 0;letI i:=0<=a.to/\a.to< (e.length:Int);letI j:=eK b d c;letI k:=(a.parts).length;letI l:=Int.toNat (a.to);letI m:=((bif(a.kind==1)then(e.set l (i64.wrap ((e.getD l 0)+f)))else e),f);(b.length<=aD->((a.right !=n)=false->(h/\(((f==0)=true->((c.1++([a.no])).length*8<=dh))/\((f==0)=false->(h/\(((a.kind==1)=true->(i/\i))/\((a.kind==2)=true->(okI j (mI b d c) k 0 m/\(∀ s_1,aj j k 0 m=.inr s_1->((s_1.2<9223372036854775808)/\okI (ph b d s_1) (mJ b d s_1) (Int.toNat s_1.2) 0 s_1.1)))))))))))
def eY (a:ai)(b:List bo)(c:Int):List Int×List Int:=letI d:=a.bl.getD (Int.toNat c) default;(match aj (iQ b c) b.length 0 ([],((List.replicate (Int.toNat (a.zs.length:Int)) (0:Int)).set (Int.toNat (d.gl)) d.bn))with| .inl x=>x.elim| .inr e=>(e.2,e.1))
def qY (c:ai)(e:List bo)(b:Int):Prop:=letI a:=(c.zs.length:Int);letI d:=c.bl.getD (Int.toNat b) default;letI f:=List.replicate (Int.toNat a) (0:Int);letI g:=0<=b/\b< (c.bl.length:Int);(c.zs.length<=aD->((a=a/\0<=a/\a*((8:Nat):Int)<=((dh:Nat):Int))/\(a<=((aD:Nat):Int)->(g/\(g/\((0<=d.gl/\d.gl< (f.length:Int))/\okI (iQ e b) (iH e b) e.length 0 ([],(f.set (Int.toNat (d.gl)) d.bn))))))))
@[go_sem] def IQ:FI:=(pD .al λa=>(pR .C1 λb=>(pI λc=>(pE (.det (qY a b c) (.tup [.nw .int ((eY a b c).1),.nw .int ((eY a b c).2)]))))))
theorem Ge:P0 prog 186 IQ:=by
 have hG:=mG (cp Io Q1) Q1;refine fW hG f186 [(.tmp 6,.int),(.tmp 7,.int)] (ap λa0=>(aZ λa1=>(ax λW=>(am (λhp=>?_)))));dsimp only[an,qY]at hp;refine⟨nbl rfl,(XO 0 (LCR (ρ:=Empty) (σ:=(List Int×List Int)) 2 [.slot 9 (.row .int ([]))] [0,1,2] (λE O=>⟨[(1,.rs .C1 a1),(2,.i W),(8,.os 1),(9,.os 2),(10,.i E)],[.dead,.row .int O.2,.row .int O.1]⟩) (iQ a1 W) (iH a1 W) a1.length ([],((List.replicate (Int.toNat (a0.zs.length:Int)) (0:Int)).set (Int.toNat ((a0.bl.getD (Int.toNat W) (default:atN)).gl)) (a0.bl.getD (Int.toNat W) (default:atN)).bn)) (True) ((·.elim)) ((·.elim))) L0),?_,?_⟩;unfold aa f186;simp only[ak,true_and,and_true];refine bX (a1.length<=aD) aC hG (λ_=>rfl) (a1.length:Int) eE (λhb0 E O aue hq0 hw hc=>⟨(XO 1000069 (λ_=>JC (⟨[(1,.rs .C1 a1),(2,.i W),(8,.os 1),(9,.os 2),(10,.i E),(11,.ptr 3 0),(12,.i (O.2.getD (Int.toNat ((a1.getD E (default:bo)).since)) (0:Int)))],[.dead,.row .int (bif((a1.getD E (default:bo)).kind==1)then((O.2.set (Int.toNat ((a1.getD E (default:bo)).since)) 0).set (Int.toNat ((a1.getD E (default:bo)).to)) (i64.wrap (((O.2.set (Int.toNat ((a1.getD E (default:bo)).since)) 0).getD (Int.toNat ((a1.getD E (default:bo)).to)) (0:Int))+(O.2.getD (Int.toNat ((a1.getD E (default:bo)).since)) (0:Int)))))else(O.2.set (Int.toNat ((a1.getD E (default:bo)).since)) 0)),.row .int O.1,.cells (cellsOf .C1 (a1.getD E (default:bo)))]⟩)) (XO 2 (LCR (ρ:=Empty) (σ:=(List Int×Int)) 4 [] [0,1,2,3] (λY V=>⟨[(1,.rs .C1 a1),(2,.i W),(8,.os 1),(9,.os 2),(10,.i E),(11,.ptr 3 0),(12,.i (O.2.getD (Int.toNat ((a1.getD E (default:bo)).since)) (0:Int))),(13,.i V.2),(14,.i Y)],[.dead,.row .int V.1,.row .int O.1,.cells (cellsOf .C1 (a1.getD E (default:bo)))]⟩) (eK a1 E O) (mI a1 E O) (((a1.getD E (default:bo)).parts).length) ((bif((a1.getD E (default:bo)).kind==1)then((O.2.set (Int.toNat ((a1.getD E (default:bo)).since)) 0).set (Int.toNat ((a1.getD E (default:bo)).to)) (i64.wrap (((O.2.set (Int.toNat ((a1.getD E (default:bo)).since)) 0).getD (Int.toNat ((a1.getD E (default:bo)).to)) (0:Int))+(O.2.getD (Int.toNat ((a1.getD E (default:bo)).since)) (0:Int)))))else(O.2.set (Int.toNat ((a1.getD E (default:bo)).since)) 0)),(O.2.getD (Int.toNat ((a1.getD E (default:bo)).since)) (0:Int))) (True) ((·.elim)) ((·.elim))) (XO 4 (LCR (ρ:=Empty) (σ:=(List Int)) 4 [] [0,1,2,3] (λk_2 X=>⟨[(1,.rs .C1 a1),(2,.i W),(8,.os 1),(9,.os 2),(10,.i E),(11,.ptr 3 0),(13,.v (.int .i64 (cB (aj (eK a1 E O) (((a1.getD E (default:bo)).parts).length) 0 ((bif((a1.getD E (default:bo)).kind==1)then((O.2.set (Int.toNat ((a1.getD E (default:bo)).since)) 0).set (Int.toNat ((a1.getD E (default:bo)).to)) (i64.wrap (((O.2.set (Int.toNat ((a1.getD E (default:bo)).since)) 0).getD (Int.toNat ((a1.getD E (default:bo)).to)) (0:Int))+(O.2.getD (Int.toNat ((a1.getD E (default:bo)).since)) (0:Int)))))else(O.2.set (Int.toNat ((a1.getD E (default:bo)).since)) 0)),(O.2.getD (Int.toNat ((a1.getD E (default:bo)).since)) (0:Int))))).2)),(18,.i k_2)],[.dead,.row .int X,.row .int O.1,.cells (cellsOf .C1 (a1.getD E (default:bo)))]⟩) (ph a1 E (cB (aj (eK a1 E O) (((a1.getD E (default:bo)).parts).length) 0 ((bif((a1.getD E (default:bo)).kind==1)then((O.2.set (Int.toNat ((a1.getD E (default:bo)).since)) 0).set (Int.toNat ((a1.getD E (default:bo)).to)) (i64.wrap (((O.2.set (Int.toNat ((a1.getD E (default:bo)).since)) 0).getD (Int.toNat ((a1.getD E (default:bo)).to)) (0:Int))+(O.2.getD (Int.toNat ((a1.getD E (default:bo)).since)) (0:Int)))))else(O.2.set (Int.toNat ((a1.getD E (default:bo)).since)) 0)),(O.2.getD (Int.toNat ((a1.getD E (default:bo)).since)) (0:Int)))))) (mJ a1 E (cB (aj (eK a1 E O) (((a1.getD E (default:bo)).parts).length) 0 ((bif((a1.getD E (default:bo)).kind==1)then((O.2.set (Int.toNat ((a1.getD E (default:bo)).since)) 0).set (Int.toNat ((a1.getD E (default:bo)).to)) (i64.wrap (((O.2.set (Int.toNat ((a1.getD E (default:bo)).since)) 0).getD (Int.toNat ((a1.getD E (default:bo)).to)) (0:Int))+(O.2.getD (Int.toNat ((a1.getD E (default:bo)).since)) (0:Int)))))else(O.2.set (Int.toNat ((a1.getD E (default:bo)).since)) 0)),(O.2.getD (Int.toNat ((a1.getD E (default:bo)).since)) (0:Int)))))) (Int.toNat (cB (aj (eK a1 E O) (((a1.getD E (default:bo)).parts).length) 0 ((bif((a1.getD E (default:bo)).kind==1)then((O.2.set (Int.toNat ((a1.getD E (default:bo)).since)) 0).set (Int.toNat ((a1.getD E (default:bo)).to)) (i64.wrap (((O.2.set (Int.toNat ((a1.getD E (default:bo)).since)) 0).getD (Int.toNat ((a1.getD E (default:bo)).to)) (0:Int))+(O.2.getD (Int.toNat ((a1.getD E (default:bo)).since)) (0:Int)))))else(O.2.set (Int.toNat ((a1.getD E (default:bo)).since)) 0)),(O.2.getD (Int.toNat ((a1.getD E (default:bo)).since)) (0:Int))))).2) ((cB (aj (eK a1 E O) (((a1.getD E (default:bo)).parts).length) 0 ((bif((a1.getD E (default:bo)).kind==1)then((O.2.set (Int.toNat ((a1.getD E (default:bo)).since)) 0).set (Int.toNat ((a1.getD E (default:bo)).to)) (i64.wrap (((O.2.set (Int.toNat ((a1.getD E (default:bo)).since)) 0).getD (Int.toNat ((a1.getD E (default:bo)).to)) (0:Int))+(O.2.getD (Int.toNat ((a1.getD E (default:bo)).since)) (0:Int)))))else(O.2.set (Int.toNat ((a1.getD E (default:bo)).since)) 0)),(O.2.getD (Int.toNat ((a1.getD E (default:bo)).since)) (0:Int))))).1) ((cB (aj (eK a1 E O) (((a1.getD E (default:bo)).parts).length) 0 ((bif((a1.getD E (default:bo)).kind==1)then((O.2.set (Int.toNat ((a1.getD E (default:bo)).since)) 0).set (Int.toNat ((a1.getD E (default:bo)).to)) (i64.wrap (((O.2.set (Int.toNat ((a1.getD E (default:bo)).since)) 0).getD (Int.toNat ((a1.getD E (default:bo)).to)) (0:Int))+(O.2.getD (Int.toNat ((a1.getD E (default:bo)).since)) (0:Int)))))else(O.2.set (Int.toNat ((a1.getD E (default:bo)).since)) 0)),(O.2.getD (Int.toNat ((a1.getD E (default:bo)).since)) (0:Int))))).2<9223372036854775808) ((·.elim)) ((·.elim))) L0))),?_,?_⟩) (λhb0 O hc=>?_) λhb0 E O=>?_;simp only[ak,true_and,and_true];refine⟨?_,?_⟩;refine bX (((a1.getD E (default:bo)).parts).length<=aD) aC hG (λ_=>rfl) (((a1.getD E (default:bo)).parts).length:Int) eE (λhb1 Y V auI hq1 hw hc=>⟨L0,ag _,?_⟩) (λhb1 V hc=>?_) λhb1 Y V=>?_;simp only[mI,hw,aqa]at hq1
 exact Rb (jl [0,1,2,3]);exact Rc (jl [0,1,2,3]);exact Ir;refine bG aC hG (λ_=>rfl) ((cB (aj (eK a1 E O) (((a1.getD E (default:bo)).parts).length) 0 ((bif((a1.getD E (default:bo)).kind==1)then((O.2.set (Int.toNat ((a1.getD E (default:bo)).since)) 0).set (Int.toNat ((a1.getD E (default:bo)).to)) (i64.wrap (((O.2.set (Int.toNat ((a1.getD E (default:bo)).since)) 0).getD (Int.toNat ((a1.getD E (default:bo)).to)) (0:Int))+(O.2.getD (Int.toNat ((a1.getD E (default:bo)).since)) (0:Int)))))else(O.2.set (Int.toNat ((a1.getD E (default:bo)).since)) 0)),(O.2.getD (Int.toNat ((a1.getD E (default:bo)).since)) (0:Int))))).2) id (λhb2 k_2 X hlt2 hq2 hw hc=>⟨L0,ag _,?_⟩) (λhb2 X hc=>?_);simp only[mJ,hw,aqa]at hq2
 exact Rb (jl [0,1,2,3]);exact Rc (jl [0,1,2,3]);simp only[iH,hw,aqa]at hq0
 exact IN (jl [0,1,2]) (jl [0,1,5]);exact IP (jl [0,1,2]) (jl [0,1,5]);exact zq7;exact Ce @eY.eq_1
@[go_sem] def qn (b:ai)(f:List bo)(g h:Int)(a c:Nat)(d:List atr):Empty⊕(List atr):=letI e:=((eY b (dA f g h) (a:Int)).1).getD c 0;(bif(decide (e > 0))then .inr (d++([({ right:=(a:Int),gl:=(c:Int),bn:=e,att:=(b.bl.getD a default).att}:atr)]))else .inr d)
def oT (d:ai)(e:List bo)(f g:Int)(a b:Nat)(h:List atr):Prop:=letI c:=(eY d (dA e f g) (a:Int)).1;(c.length<=aD->((decide ((c.getD b 0) > 0))=true->((h++([({ right:=(a:Int),gl:=(b:Int),bn:=(c.getD b 0),att:=(d.bl.getD a default).att}:atr)])).length*32<=dh)))
@[go_sem] def qo (a:ai)(c:List bo)(d e:Int)(b:Nat)(f:List atr):Empty⊕(List atr):=(bif((a.bl.getD b default).kind !=1)then .inr f else(match aj (qn a c d e b) (((eY a (dA c d e) (b:Int)).1).length) 0 f with| .inl x=>x.elim| .inr g=>.inr g))
def oU (a:ai)(c:List bo)(d e:Int)(b:Nat)(g:List atr):Prop:=letI f:=dA c d e;(a.bl.length<=aD->(((a.bl.getD b default).kind !=1)=false->((qY a f (b:Int))/\okI (qn a c d e b) (oT a c d e b) (((eY a f (b:Int)).1).length) 0 g)))
def kT (a:ai)(d:List bo)(b c:Int):List atr×Int:=letI e:=ll a d;(bif(e !=0)then([],e)else(bif((((decide (b<0)) ||(decide (b>=a.hours))) ||(decide (c<0))) ||(decide (c > 1048576)))then([],1)else(match aj (qo a d b c) a.bl.length 0 ([])with| .inl x=>x.elim| .inr f=>(f,0))))
def vJ (a:ai)(b:List bo)(c d:Int):Prop:=((oS a b)/\(((ll a b) !=0)=false->(((((decide (c<0)) ||(decide (c>=a.hours))) ||(decide (d<0))) ||(decide (d > 1048576)))=false->((kS b c d)/\okI (qo a b c d) (oU a b c d) a.bl.length 0 ([])))))
@[go_sem] def TQ:FI:=(pD .al λa=>(pR .C1 λb=>(pI λc=>(pI λd=>(pE (.det (vJ a b c d) (.tup [.nw .holding ((kT a b c d).1),.i ((kT a b c d).2)])))))))
theorem Rd:P0 prog 127 TQ:=by
 have hG:=mG (cn [.st .al,.sl .C1] zY (cn [.sl .C1,.o,.o] C5 (cn [.st .al,.sl .C1,.o] Ge Q1))) Q1;refine fW hG f127 [(.tmp 8,.holding)] (ap λa0=>(aZ λa1=>(ax λV=>(ax λW=>(am (λhp=>?_))))));dsimp only[an,vJ]at hp;refine⟨nbl rfl,(XO 0 (LCR (ρ:=Empty) (σ:=(List atr)) 2 [.slot 12 (.row .holding ([]))] [0,1,2] (λE O=>⟨[(4,.ptr 0 0),(11,.os 1),(12,.os 2),(13,.i E)],[.cells (cellsOf .al a0),.row .C1 (dA a1 V W),.row .holding O]⟩) (qo a0 a1 V W) (oU a0 a1 V W) a0.bl.length ([]) (True) ((·.elim)) ((·.elim))) L0),?_,?_⟩;unfold aa f127;simp only[ak,true_and,and_true];refine bX (a0.bl.length<=aD) aC hG (λ_=>rfl) (a0.bl.length:Int) eE (λhb0 E O aue hq0 hw hc=>⟨(XO 2 (LCR (ρ:=Empty) (σ:=(List atr)) 5 [] [0,1,2,3,4,2] (λY X=>⟨[(4,.ptr 0 0),(11,.os 1),(12,.os 5),(13,.i E),(14,.os 3),(16,.i Y)],[.cells (cellsOf .al a0),.row .C1 (dA a1 V W),.dead,.row .int ((eY a0 (dA a1 V W) (E:Int)).1),.dead,.row .holding X]⟩) (qn a0 a1 V W E) (oT a0 a1 V W E) (((eY a0 (dA a1 V W) (E:Int)).1).length) O (True) ((·.elim)) ((·.elim))) L0),?_,?_⟩) (λhb0 O hc=>?_) λhb0 E O=>?_;simp only[ak,true_and,and_true];refine bX (((eY a0 (dA a1 V W) (E:Int)).1).length<=aD) aC hG (λ_=>rfl) (((eY a0 (dA a1 V W) (E:Int)).1).length:Int) eE (λhb1 Y X auI hq1 hw hc=>⟨L0,ag _,?_⟩) (λhb1 X hc=>?_) λhb1 Y X=>?_;simp only[oT,hw,aqa]at hq1
 exact IN (jl [0,1,2,3,4,7]) (jl [0,1,2,3,4,5]);exact IP (jl [0,1,2,3,4,7]) (jl [0,1,2,3,4,5]);exact Ir;simp only[oU,hw,aqa]at hq0
 exact IN (jl [0,1,2]) (jl [0,1,5]);exact IP (jl [0,1,2]) (jl [0,1,5]);exact zq7;exact Ce @kT.eq_1
@[go_sem] def C6 (a b:List Int)(c:Nat)(d:Unit):Unit⊕Unit:=(bif((a.getD c 0) !=(b.getD c 0))then .inl ()else .inr ())
def aag (a b:List Int):Bool:=(bif((a.length:Int) !=(b.length:Int))then false else(match aj (C6 a b) a.length 0 ()with| .inl c=>false| .inr d=>true))
@[go_sem] def C7 (a:List bo)(b:Nat)(c:Unit):Unit⊕Unit:=(bif(decide ((((a.getD b default).parts).length:Int) > 100))then .inl ()else .inr ())
def Ep (d:ai)(a:List bo):Bool:=letI b:=(a.length:Int);letI c:=(d.bl.length:Int);letI e:=(d.zs.length:Int);(bif((decide (b > 512))&&(decide (b<=700)))then(AA d)else(bif((((decide (b > 60)) ||(!(AA d))) ||((decide (c > 40))&&(decide (c<=256)))) ||((decide (e > 60))&&(decide (e<=600))))then false else(match aj (C7 a) a.length 0 ()with| .inl f=>false| .inr g=>true)))
@[go_sem] def Re:FI:=(pD .al λd=>(pR .C1 λa=>(pE (.det True (.v (.bool (Ep d a)))))))
theorem Ol:P0 prog 65 Re:=by
 have hG:=mG (cn [.st .al] N6 Q1) Q1;refine fN hG f65 [.o] (ap λd=>(aZ λV=>(am (λY=>?_))));dsimp only[an]at Y;refine⟨nbl rfl,(XO 0 (LCR (ρ:=Unit) (σ:=Unit) 1 [] [0] (λE O=>⟨[(1,.rs .C1 V),(5,.i E)],[.dead]⟩) (C7 V) pT V.length () (True) (λ_=>.ret) (λW=>⟨[(4,.v (.bool false))],[.dead]⟩)) L0),?_,?_⟩;unfold aa f65;simp only[ak,true_and,and_true];refine bX (V.length<=aD) aC hG (λ_=>rfl) (V.length:Int) eE (λhb0 E O X _ hw hc=>⟨L0,ag _,aW (jl [0])⟩) (λhb0 O hc=>aV (jl [0])) λhb0 E O=>zq7;exact Ce @Ep.eq_1
def qp (b:ai)(a:Claim):Bool:=letI c:=b.bl.getD (Int.toNat a.right) default;(bif((((((((decide (a.right<0)) ||(decide (a.right>=(b.bl.length:Int)))) ||(decide (a.gl<0))) ||(decide (a.gl>=(b.zs.length:Int)))) ||(decide (a.hour<0))) ||(decide (a.hour>=b.hours))) ||(decide (a.bn<1))) ||(decide (a.bn > 1073741824)))then false else((c.kind==1)&&(c.att==a.att)))
def wP (b:ai)(a:Claim):Prop:=letI c:=(b.bl.length:Int);letI d:=0<=a.right/\a.right<c;(((((((((decide (a.right<0)) ||(decide (a.right>=c))) ||(decide (a.gl<0))) ||(decide (a.gl>=(b.zs.length:Int)))) ||(decide (a.hour<0))) ||(decide (a.hour>=b.hours))) ||(decide (a.bn<1))) ||(decide (a.bn > 1073741824)))=false->(d/\(((b.bl.getD (Int.toNat a.right) default).kind==1)=true->d)))
@[go_sem] def K1:FI:=(pD .al λa=>(pD .B1 λb=>(pE (.det (wP a b) (.v (.bool (qp a b)))))))
theorem IR:P0 prog 267 K1:=fN (mG Q1 Q1) f267 [.o] (ap λa0=>ap λa1=>am λE=>Pq @qp.eq_1 @wP.eq_1)
def ke (a b:Claim):Bool:=(bif(a.hour !=b.hour)then(decide (a.hour<b.hour))else(bif(a.att !=b.att)then(decide (a.att<b.att))else(bif(a.right !=b.right)then(decide (a.right<b.right))else(decide (a.gl<b.gl)))))
@[go_sem] def IS:FI:=(pD .B1 λa=>(pD .B1 λb=>(pE (.det True (.v (.bool (ke a b)))))))
theorem yZ:P0 prog 187 IS:=fN (mG Q1 Q1) f187 [.o] (ap λa=>ap λb=>am λE=>Ko @ke.eq_1)
@[go_sem] def nF (d:ai)(c:List Claim)(a:Nat)(b:Unit):Unit⊕Unit:=(bif((!(qp d (c.getD a default))) ||((decide ((a:Int) > 0))&&(!(ke (c.getD (Int.toNat (i64.wrap ((a:Int) - 1))) default) (c.getD a default)))))then .inl ()else .inr ())
def sj (d:ai)(c:List Claim)(a:Nat)(f:Unit):Prop:=letI b:=i64.wrap ((a:Int) - 1);letI e:=c.getD a default;(c.length<=aD->((wP d e)/\((!(qp d e))=false->((decide ((a:Int) > 0))=true->(0<=b/\b< (c.length:Int))))))
def lm (d:ai)(c:List Claim):Int:=(bif((fj d) !=0)then(fj d)else(bif(decide ((c.length:Int) > 4096))then 2 else(match aj (nF d c) c.length 0 ()with| .inl a=>260| .inr b=>0)))
def sW (d:ai)(c:List Claim):Prop:=((mq d)/\(((fj d) !=0)=false->(c.length<=aD->((decide ((c.length:Int) > 4096))=false->okI (nF d c) (sj d c) c.length 0 ()))))
@[go_sem] def K2:FI:=(pD .al λd=>(pR .B1 λc=>(pE (.det (sW d c) (.i (lm d c))))))
theorem IT:P0 prog 211 K2:=by
 have hG:=mG (cn [.st .al] vF (cp yZ (cn [.st .al,.st .B1] IR Q1))) Q1;refine fN hG f211 [.o] (ap λd=>(aZ λc=>(am (λX=>?_))));dsimp only[an,sW]at X;refine⟨nbl rfl,(XO 0 (LCR (ρ:=Unit) (σ:=Unit) 1 [] [0] (λE O=>⟨[(1,.rs .B1 c),(2,.ptr 0 0),(6,.i E)],[.cells (cellsOf .al d)]⟩) (nF d c) (sj d c) c.length () (True) (λ_=>.ret) (λW=>⟨[(4,.i 260)],[.dead]⟩)) L0),?_,?_⟩;unfold aa f211;simp only[ak,true_and,and_true];refine bX (c.length<=aD) aC hG (λ_=>rfl) (c.length:Int) eE (λhb0 E O Y V hw hc=>⟨L0,ag _,?_⟩) (λhb0 O hc=>?_) λhb0 E O=>?_;simp only[sj,hw,aqa]at V
 exact aW (jl [0]);exact aV (jl [0]);exact zq7;exact Ce @lm.eq_1
def AF (d:ai)(e:List bo)(a b:Int):Bool:=letI c:=(d.bl.length:Int);(bif((!(Ep d e)) ||((decide (c > 40))&&(decide (c<=256))))then false else(((((decide (a<0)) ||(decide (a > b))) ||(decide (b>=d.hours))) ||(decide (d.hours > 4096))) ||(decide ((i64.wrap (b - a)) <60))))
@[go_sem] def Rf:FI:=(pD .al λd=>(pR .C1 λa=>(pI λb=>(pI λc=>(pE (.det True (.v (.bool (AF d a b c)))))))))
theorem Om:P0 prog 25 Rf:=fN (mG (cn [.st .al,.sl .C1] Ol Q1) Q1) f25 [.o] (ap λd=>aZ λO=>ax λfr=>ax λto=>am λE=>Ko @AF.eq_1)
def sn (x:atN)(a:Int):Bool:=(bif(((x.kind !=1) ||(decide (a<x.since))) ||(decide (a > x.to)))then false else(decide ((Int.tmod (i64.wrap (a - x.since)) x.every) <x.length)))
def yn (x:atN)(a:Int):Prop:=((((x.kind !=1) ||(decide (a<x.since))) ||(decide (a > x.to)))=false->x.every≠0)
@[go_sem] def On:FI:=(pD .right λx=>(pI λa=>(pE (.det (yn x a) (.v (.bool (sn x a)))))))
theorem K3:P0 prog 128 On:=fN (mG Q1 Q1) f128 [.o] (ap λx=>ax λhour=>am λE=>Pq @sn.eq_1 @yn.eq_1)
def cr (x:atN)(a b c d:Int):Bool:=(((((x.kind==a)&&(x.gl==b))&&(x.reach==c))&&(decide (x.since<=d)))&&(decide (d<=x.to)))
@[go_sem] def K4:FI:=(pD .right λx=>(pI λa=>(pI λb=>(pI λc=>(pI λd=>(pE (.det True (.v (.bool (cr x a b c d))))))))))
theorem zZ:P0 prog 188 K4:=fN (mG Q1 Q1) f188 [.o] (ap λx=>ax λkind=>ax λgl=>ax λreach=>ax λhour=>am λE=>Ko @cr.eq_1)
@[go_sem] def vK (d:ai)(a b c:Int)(e:Nat)(f:Unit):Unit⊕Unit:=(bif(cr (d.bl.getD e default) 3 a b c)then .inl ()else .inr ())
def nG (d:ai)(a b c:Int):Bool:=(match aj (vK d a b c) d.bl.length 0 ()with| .inl e=>true| .inr f=>false)
@[go_sem] def K5:FI:=(pD .al λd=>(pI λa=>(pI λb=>(pI λc=>(pE (.det True (.v (.bool (nG d a b c)))))))))
theorem IU:P0 prog 189 K5:=by
 have hG:=mG (cp zZ Q1) Q1;refine fN hG f189 [.o] (ap λd=>(ax λgl=>(ax λreach=>(ax λhour=>(am (λX=>?_))))));dsimp only[an]at X;refine⟨nbl rfl,(XO 0 (LCR (ρ:=Unit) (σ:=Unit) 1 [] [0] (λE O=>⟨[(1,.i gl),(2,.i reach),(3,.i hour),(4,.ptr 0 0),(9,.i E)],[.cells (cellsOf .al d)]⟩) (vK d gl reach hour) pT d.bl.length () (True) (λ_=>.ret) (λV=>⟨[(8,.v (.bool true))],[.dead]⟩)) L0),?_,?_⟩;unfold aa f189;simp only[ak,true_and,and_true];refine bX (d.bl.length<=aD) aC hG (λ_=>rfl) (d.bl.length:Int) eE (λhb0 E O W _ hw hc=>⟨L0,ag _,aW (jl [0])⟩) (λhb0 O hc=>aV (jl [0])) λhb0 E O=>zq7;exact Ce @nG.eq_1
@[go_sem] def yo (d:ai)(a c e:Int)(b:Nat)(f:Unit):Unit⊕Unit:=(bif(((d.bl.getD b default).gl !=a)&&(cr (d.bl.getD b default) 2 ((d.bl.getD b default).gl) c e))then .inl ()else .inr ())
def so (d:ai)(a b c:Int):Bool:=(match aj (yo d a b c) d.bl.length 0 ()with| .inl e=>(nG d a b c) | .inr f=>true)
@[go_sem] def Rg:FI:=(pD .al λd=>(pI λa=>(pI λb=>(pI λc=>(pE (.det True (.v (.bool (so d a b c)))))))))
theorem Oo:P0 prog 131 Rg:=by
 have hG:=mG (cp zZ (cn [.st .al,.o,.o,.o] IU Q1)) Q1;refine fN hG f131 [.o] (ap λd=>(ax λgl=>(ax λreach=>(ax λhour=>(am (λX=>?_))))));dsimp only[an]at X;refine⟨nbl rfl,(XO 0 (LCR (ρ:=Unit) (σ:=Unit) 1 [] [0] (λE O=>⟨[(1,.i gl),(2,.i reach),(3,.i hour),(4,.ptr 0 0),(9,.i E)],[.cells (cellsOf .al d)]⟩) (yo d gl reach hour) pT d.bl.length () (True) (λ_=>.ret) (λV=>⟨[(8,.v (.bool (nG d gl reach hour)))],[.dead]⟩)) L0),?_,?_⟩;unfold aa f131;simp only[ak,true_and,and_true];refine bX (d.bl.length<=aD) aC hG (λ_=>rfl) (d.bl.length:Int) eE (λhb0 E O W _ hw hc=>⟨L0,ag _,aW (jl [0])⟩) (λhb0 O hc=>aV (jl [0])) λhb0 E O=>zq7;exact Ce @so.eq_1
@[go_sem] def ig (d:ai)(b:Nat)(a:List Int):(List Int)⊕(List Int):=(bif(decide ((a.getD 0 0) > 0))then .inr (([(d.reaches.getD (Int.toNat (a.getD 0 0)) default).up])++a)else .inl a)
def jS (d:ai)(e:Nat)(b:List Int):Prop:=letI a:=b.getD 0 0;letI c:=0<=0/\0< (b.length:Int);(c/\((decide (a > 0))=true->(c/\((0<=a/\a< (d.reaches.length:Int))/\((([(d.reaches.getD (Int.toNat a) default).up])++b).length*8<=dh)))))
def jD (d:ai)(a:Int):List Int:=(match aj (ig d) 66 0 ([a])with| .inl b=>b| .inr c=>default)
def uF (d:ai)(a:Int):Prop:=(okI (ig d) (jS d) 66 0 ([a])/\(∀ z_,aj (ig d) 66 0 ([a])≠ .inr z_))
@[go_sem] def Oq:FI:=(pD .al λd=>(pI λa=>(pE (.det (uF d a) (.nw .int (jD d a))))))
theorem K6:P0 prog 130 Oq:=by
 have hG:=mG Q1 Q1;refine fW hG f130 [(.tmp 4,.int)] (ap λd=>(ax λreach=>(am (λX=>?_))));dsimp only[an,uF]at X;refine⟨nbl rfl,(XO 0 (LCV (ρ:=(List Int)) (σ:=(List Int)) 2 [] [0,1,1] (λV O=>⟨[(2,.ptr 0 0),(5,.os 2)],[.cells (cellsOf .al d),.dead,.row .int O]⟩) (ig d) (jS d) 66 ([reach]) (λ_=>.normal) (λE=>⟨[(5,.os 2)],[.dead,.dead,.row .int E]⟩)) L0),?_,?_⟩;unfold aa f130;simp only[ak,true_and,and_true];refine dH aC hG (λ_=>rfl) λV O W=>⟨L0,ag _,?_⟩;unfold jS at W;exact oR (jl [0,1,4]) (jl [0,1,2]);exact Ce @jD.eq_1
@[go_sem] def pG (d:ai)(a c:Int)(b:Nat)(e:Unit):Int⊕Unit:=(bif(!(so d a ((jD d ((d.zs.getD (Int.toNat a) default).reach)).getD b 0) c))then .inl ((jD d ((d.zs.getD (Int.toNat a) default).reach)).getD b 0)else .inr ())
def jT (d:ai)(a b:Int):Int:=(match aj (pG d a b) ((jD d ((d.zs.getD (Int.toNat a) default).reach)).length) 0 ()with| .inl c=>c| .inr e=>(-1))
def mK (d:ai)(a b:Int):Prop:=((0<=a/\a< (d.zs.length:Int))/\(uF d ((d.zs.getD (Int.toNat a) default).reach)))
@[go_sem] def C8:FI:=(pD .al λd=>(pI λa=>(pI λb=>(pE (.det (mK d a b) (.i (jT d a b)))))))
theorem BS:P0 prog 68 C8:=by
 have hG:=mG (cn [.st .al,.o] K6 (cn [.st .al,.o,.o,.o] Oo Q1)) Q1;refine fN hG f68 [.o] (ap λd=>(ax λgl=>(ax λhour=>(am (λW=>?_)))));dsimp only[an,mK]at W;refine⟨nbl rfl,(XO 0 (LCR (ρ:=Int) (σ:=Unit) 2 [] [0,1] (λE V=>⟨[(1,.i gl),(2,.i hour),(3,.ptr 0 0),(7,.os 1),(8,.i E)],[.cells (cellsOf .al d),.row .int (jD d ((d.zs.getD (Int.toNat gl) (default:auy)).reach))]⟩) (pG d gl hour) pT ((jD d ((d.zs.getD (Int.toNat gl) (default:auy)).reach)).length) () (True) (λ_=>.ret) (λO=>⟨[(6,.i O)],[.dead,.dead]⟩)) L0),?_,?_⟩;unfold aa f68;simp only[ak,true_and,and_true];refine bX ((jD d ((d.zs.getD (Int.toNat gl) (default:auy)).reach)).length<=aD) aC hG (λ_=>rfl) ((jD d ((d.zs.getD (Int.toNat gl) (default:auy)).reach)).length:Int) eE (λhb0 E V X _ hw hc=>⟨L0,ag _,aW (jl [0,1])⟩) (λhb0 V hc=>aV (jl [0,1])) λhb0 E V=>zq7;exact Ce @jT.eq_1
@[go_sem] def qZ (b:List Claim)(x:Claim)(c:Nat)(a:Int):Int⊕Int:=(bif((decide (a< (b.length:Int)))&&(ke (b.getD (Int.toNat a) default) x))then .inr (i64.wrap (a+1))else .inl a)
def q_ (a:List Claim)(x:Claim)(c:Nat)(b:Int):Prop:=(a.length<=aD->((decide (b< (a.length:Int)))=true->(0<=b/\b< (a.length:Int))))
def sp (a:List Claim)(x:Claim):List Claim:=(match aj (qZ a x) 200000 0 0 with| .inl b=>(((([])++((a.take (Int.toNat b)).drop 0))++([x]))++((a.take (Int.toNat (a.length:Int))).drop (Int.toNat b))) | .inr c=>default)
def wD (a:List Claim)(x:Claim):Prop:=letI b:=(a.length:Int);letI c:=qZ a x;(okI c (q_ a x) 200000 0 0/\(∀ z_,aj c 200000 0 0≠ .inr z_)/\(∀ lx,aj c 200000 0 0=.inl lx->((0<=0/\0<=lx/\lx<=b)/\(((([])++((a.take (Int.toNat lx)).drop 0)).length*40<=dh)/\((([])++((a.take (Int.toNat lx)).drop 0)).length<=aD->((((([])++((a.take (Int.toNat lx)).drop 0))++([x])).length*40<=dh)/\(((([])++((a.take (Int.toNat lx)).drop 0))++([x])).length<=aD->((0<=lx/\lx<=b/\b<=b)/\((((([])++((a.take (Int.toNat lx)).drop 0))++([x]))++((a.take (Int.toNat b)).drop (Int.toNat lx))).length*40<=dh)))))))))
@[go_sem] def Rh:FI:=(pR .B1 λa=>(pD .B1 λx=>(pE (.det (wD a x) (.nw .B1 (sp a x))))))
theorem Ot:P0 prog 129 Rh:=by
 have hG:=mG (cp yZ Q1) Q1;refine fW hG f129 [(.tmp 4,.B1)] (aZ λV=>(ap λx=>(am (λY=>?_))));dsimp only[an,wD]at Y;refine⟨nbl rfl,(XO 0 (LCV (ρ:=Int) (σ:=Int) 1 [] [0] (λW O=>⟨[(0,.rs .B1 V),(3,.ptr 0 0),(5,.i O)],[.cells (cellsOf .B1 x)]⟩) (qZ V x) (q_ V x) 200000 0 (λ_=>.normal) (λE=>⟨[(0,.rs .B1 V),(3,.ptr 0 0),(5,.i E)],[.cells (cellsOf .B1 x)]⟩)) L0),?_,?_⟩;unfold aa f129;simp only[ak,true_and,and_true];refine dH aC hG (λ_=>rfl) λW O X=>⟨L0,ag _,?_⟩;unfold q_ at X;exact cD (jl [0]);exact Ce @sp.eq_1
@[go_sem] def mv (d:ai)(e:List bo)(b f:Int)(g:Nat)(c:List Claim):Empty⊕(List Claim):=letI a:=((kT d e b f).1).getD g default;(bif(sn (d.bl.getD (Int.toNat (a.right)) default) b)then .inr (sp c ({ right:=a.right,gl:=a.gl,hour:=b,bn:=a.bn,att:=a.att}:Claim))else .inr c)
def ue (d:ai)(f:List bo)(b g:Int)(h:Nat)(i:List Claim):Prop:=letI c:=(kT d f b g).1;letI a:=c.getD h default;letI e:=d.bl.getD (Int.toNat (a.right)) default;(c.length<=aD->((0<=a.right/\a.right< (d.bl.length:Int))/\((yn e b)/\((sn e b)=true->(wD i ({ right:=a.right,gl:=a.gl,hour:=b,bn:=a.bn,att:=a.att}:Claim))))))
def gZ (d:ai)(a:List bo)(b c:Int):List Claim:=(match aj (mv d a b c) (((kT d a b c).1).length) 0 ([])with| .inl x=>x.elim| .inr e=>e)
def uG (d:ai)(a:List bo)(b c:Int):Prop:=((vJ d a b c)/\okI (mv d a b c) (ue d a b c) (((kT d a b c).1).length) 0 ([]))
@[go_sem] def Ou:FI:=(pD .al λd=>(pR .C1 λa=>(pI λb=>(pI λc=>(pE (.det (uG d a b c) (.nw .B1 (gZ d a b c))))))))
theorem K7:P0 prog 67 Ou:=by
 have hG:=mG (cn [.st .al,.sl .C1,.o,.o] Rd (cp K3 (cn [.sl .B1,.st .B1] Ot Q1))) Q1;refine fW hG f67 [(.tmp 8,.B1)] (ap λd=>(aZ λW=>(ax λV=>(ax λknown=>(am (λY=>?_))))));dsimp only[an,uG]at Y;refine⟨nbl rfl,(XO 0 (LCR (ρ:=Empty) (σ:=(List Claim)) 2 [.slot 11 (.row .B1 ([]))] [0,1,2] (λO E=>⟨[(2,.i V),(4,.ptr 0 0),(9,.os 1),(11,.os 2),(12,.i O)],[.cells (cellsOf .al d),.row .holding ((kT d W V known).1),.row .B1 E]⟩) (mv d W V known) (ue d W V known) (((kT d W V known).1).length) ([]) (True) ((·.elim)) ((·.elim))) L0),?_,?_⟩;unfold aa f67;simp only[ak,true_and,and_true];refine bX (((kT d W V known).1).length<=aD) aC hG (λ_=>rfl) (((kT d W V known).1).length:Int) eE (λhb0 O E aue X hw hc=>⟨L0,ag _,?_⟩) (λhb0 E hc=>?_) λhb0 O E=>?_;simp only[ue,hw,aqa]at X
 exact lZ (jl [0,1,4]) (jl [0,1,2]);exact kP (jl [0,1,4]) (jl [0,1,2]);exact zq7;exact Ce @gZ.eq_1
def qq (d:ai)(c:List bo)(a b e:Int):Int:=(bif((ll d c) !=0)then(ll d c)else(bif(((((decide (a<0)) ||(decide (a > b))) ||(decide (b>=d.hours))) ||(decide (e<0))) ||(decide (e > 1048576)))then 1 else(bif(decide ((i64.wrap ((i64.wrap ((i64.wrap (b - a))+1))*(d.bl.length:Int))) > 4096))then 2 else 0)))
def sX (d:ai)(a:List bo)(b c e:Int):Prop:=(oS d a)
@[go_sem] def K8:FI:=(pD .al λd=>(pR .C1 λa=>(pI λb=>(pI λc=>(pI λe=>(pE (.det (sX d a b c e) (.i (qq d a b c e)))))))))
theorem IV:P0 prog 66 K8:=fN (mG (cn [.st .al,.sl .C1] zY Q1) Q1) f66 [.o] (ap λd=>aZ λO=>ax λfr=>ax λto=>ax λknown=>am λE=>Pq @qq.eq_1 @sX.eq_1)
@[go_sem] def tW (d:ai)(b:List bo)(c:Int)(a:List Claim×Int)(e:Nat)(f:List Claim):Empty⊕(List Claim):=(bif(decide ((jT d (((gZ d b a.2 c).getD e default).gl) a.2) <0))then .inr (f++([((gZ d b a.2 c).getD e default)]))else .inr f)
def wQ (d:ai)(e:List bo)(f:Int)(a:List Claim×Int)(g:Nat)(h:List Claim):Prop:=letI c:=gZ d e a.2 f;letI b:=c.getD g default;(c.length<=aD->((mK d (b.gl) a.2)/\((decide ((jT d (b.gl) a.2) <0))=true->((h++([b])).length*40<=dh))))
@[go_sem] def nH (d:ai)(b:List bo)(e c:Int)(g:Nat)(a:List Claim×Int):(List Claim)⊕(List Claim×Int):=(bif(decide (a.2<=e))then(match aj (tW d b c a) ((gZ d b a.2 c).length) 0 a.1 with| .inl x=>x.elim| .inr f=>.inr (f,(i64.wrap (a.2+1))))else .inl a.1)
def sY (d:ai)(b:List bo)(e c:Int)(f:Nat)(a:List Claim×Int):Prop:=((decide (a.2<=e))=true->((uG d b a.2 c)/\okI (tW d b c a) (wQ d b c a) ((gZ d b a.2 c).length) 0 a.1))
def kU (d:ai)(a:List bo)(b c e:Int):List Claim×Int:=letI f:=qq d a b c e;(bif(f !=0)then([],f)else(match aj (nH d a c e) 4098 0 ([],b)with| .inl g=>(bif(decide ((g.length:Int) > 4096))then([],2)else(g,0)) | .inr h=>default))
def vL (d:ai)(a:List bo)(e b c:Int):Prop:=((sX d a e b c)/\(((qq d a e b c) !=0)=false->(okI (nH d a b c) (sY d a b c) 4098 0 ([],e)/\(∀ z_,aj (nH d a b c) 4098 0 ([],e)≠ .inr z_))))
@[go_sem] def TR:FI:=(pD .al λd=>(pR .C1 λa=>(pI λb=>(pI λc=>(pI λe=>(pE (.det (vL d a b c e) (.tup [.rs .B1 ((kU d a b c e).1),.i ((kU d a b c e).2)]))))))))
theorem Ft:P0 prog 27 TR:=by
 have hG:=mG (cn [.st .al,.sl .C1,.o,.o,.o] IV (cn [.st .al,.sl .C1,.o,.o] K7 (cn [.st .al,.o,.o] BS Q1))) Q1;refine fN hG f27 [.sl .B1,.o] (ap λd=>(aZ λO=>(ax λfr=>(ax λto=>(ax λknown=>(am (λhp=>?_)))))));dsimp only[an,vL]at hp;refine⟨nbl rfl,(XO 0 (LCV (ρ:=(List Claim)) (σ:=(List Claim×Int)) 1 [.slot 13 (.row .B1 ([]))] [0,1] (λY E=>⟨[(1,.rs .C1 O),(3,.i to),(4,.i known),(5,.ptr 0 0),(13,.os 1),(14,.i E.2)],[.cells (cellsOf .al d),.row .B1 E.1]⟩) (nH d O to known) (sY d O to known) 4098 ([],fr) (λ_=>.normal) (λW=>⟨[(13,.os 1)],[.dead,.row .B1 W]⟩)) L0),?_,?_⟩;unfold aa f27;simp only[ak,true_and,and_true];refine dH aC hG (λ_=>rfl) λY E hq0=>⟨(XO 2 (LCR (ρ:=Empty) (σ:=(List Claim)) 3 [] [0,1,2,1] (λX V=>⟨[(1,.rs .C1 O),(3,.i to),(4,.i known),(5,.ptr 0 0),(13,.os 3),(14,.i E.2),(15,.os 2),(16,.i X)],[.cells (cellsOf .al d),.dead,.row .B1 (gZ d O E.2 known),.row .B1 V]⟩) (tW d O known E) (wQ d O known E) ((gZ d O E.2 known).length) E.1 (True) ((·.elim)) ((·.elim))) L0),?_,?_⟩;simp only[ak,true_and,and_true];refine bX ((gZ d O E.2 known).length<=aD) aC hG (λ_=>rfl) ((gZ d O E.2 known).length:Int) eE (λhb1 X V auI hq1 hw hc=>⟨L0,ag _,?_⟩) (λhb1 V hc=>?_) λhb1 X V=>?_;simp only[wQ,hw,aqa]at hq1
 exact lZ (jl [0,1,2,5]) (jl [0,1,2,3]);exact kP (jl [0,1,2,5]) (jl [0,1,2,3]);exact Ir;unfold sY at hq0;exact oR (jl [0,3]) (jl [0,1]);exact Ce @kU.eq_1
theorem Vo{β:Type}(l:List α)(d:α)(P:α->Bool){step:Nat->Unit->Unit⊕Unit}(h:∀ k,k<l.length->step k ()=bif P (l.getD k d)then .inl ()else .inr ())(a b:β):
  (match aj step l.length 0 ()with| .inl _=>a| .inr _=>b)=bif l.any P then a else b:=by
 cases O:l.any P with
 |false=>
  have:aj step l.length 0 ()=.inr ():=gf.2 λj E=>by
   grind
  grind
 |true=>
  have⟨x,hx,hq⟩:=arm.1 O;have⟨j,E,e⟩:=aqP.1 hx;have hn:aj step l.length 0 ()≠ .inr ():=λhr=>by
   have:=gf.1 hr j E;grind
  grind
theorem WY (d:ai)(f r h:Int):nG d f r h=d.bl.any λy=>cr y 3 f r h:=by
 unfold nG;have:=Vo d.bl default (λy=>cr y 3 f r h) (step:=vK d f r h) (λk E=>rfl) true false;grind
theorem adk (d:ai)(f r h:Int):so d f r h=(!(d.bl.any λy=>(y.gl !=f)&&cr y 2 y.gl r h) ||d.bl.any λy=>cr y 3 f r h):=by
 unfold so;have:=Vo d.bl default (λy=>(y.gl !=f)&&cr y 2 y.gl r h) (step:=yo d f r h) (λk E=>rfl) (nG d f r h) true;grind [WY]
theorem kV (y:atN)(k f r h:Int):cr y k f r h=true↔y.kind=k/\y.gl=f/\y.reach=r/\y.since<=h/\h<=y.to:=by
 simp_all [cr,and_assoc]
structure Seen (R:List atN)(h:Int)(s:List (atk×Bool)×List (Int×Int)×List (atk×Bool))(own:List atk):Prop where
 aus:∀ u,aF .X2 .bool s.1 u=R.any λy=>cr y 3 u.gl u.reach h
 owned:∀ u,aF .X2 .bool s.2.2 u=decide (u∈own)
 mem:∀ u,u∈own↔(R.any λy=>cr y 2 u.gl u.reach h)=true
 nodup:own.Nodup
 count:∀ r:Int,aF .int .int s.2.1 r=((own.filter λu=>u.reach==r).length:Int)
 len:own.length<=R.length
theorem vM(l:List α)(x:α)(P:α->Bool):(l++[x]).any P=(l.any P||P x):=by simp
theorem WZ (d:ai)(h:Int)(hl:d.bl.length<=256):∃ s own,aj (l8 d h) d.bl.length 0 ([],[],[])=.inr s/\Seen d.bl h s own:=by
 have key:=i_ (step:=l8 d h) (λk s=>∃ own,Seen (d.bl.take k) h s own) d.bl.length 0 ([],[],[]) ⟨[],⟨λu=>rfl,λu=>rfl,λu=>by simp,arz,λr=>rfl,aqb _⟩⟩ (λj s _ hj ⟨own,E⟩ =>by
  have hj:j<d.bl.length:=XM
  have V:=cj d.bl (default:atN) hj;obtain⟨s1,s2,X⟩:=s;generalize ey:d.bl.getD j (default:atN)=y at V;simp only[l8,ey];have hlen:=E.len;rw[ara]at hlen;by_cases W:y.since<=h/\h<=y.to
  ·have e1:((decide (h<y.since)) ||(decide (h > y.to)))=false:=by
    grind
   rw[e1,cond_false];by_cases hk:y.kind=3
   ·have e2:(y.kind==3)=true:=XN
    rw[e2];refine⟨_,rfl,own,⟨λu=>?_,E.owned,λu=>?_,E.nodup,E.count,XN⟩⟩;rw[qm,V,vM,<-E.aus u];by_cases hu:u= { gl:=y.gl,reach:=y.reach}
    simp_all [kV];have:cr y 3 u.gl u.reach h=false:=by
     cases hq:cr y 3 u.gl u.reach h with
     |false=>rfl
     |true=>
      have⟨_,q1,q2,_⟩:=(kV _ _ _ _ _).1 hq;simp_all
    grind
    ·rw[E.mem u,V];have:cr y 2 u.gl u.reach h=false:=by
      cases hq:cr y 2 u.gl u.reach h with
      |false=>rfl|true=>have:=((kV _ _ _ _ _).1 hq).1;omega
     grind
   ·have e2:(y.kind==3)=false:=XN
    rw[e2];have hea:∀ u:atk,cr y 3 u.gl u.reach h=false:=λu=>by
     cases hq:cr y 3 u.gl u.reach h with
     |false=>rfl|true=>exact absurd ((kV _ _ _ _ _).1 hq).1 hk
    have O:∀ u,aF .X2 .bool s1 u=(d.bl.take (j+1)).any λy=>cr y 3 u.gl u.reach h:=λu=>by
     rw[V,vM,hea,aso];exact E.aus u
    by_cases h2:y.kind=2
    by_cases hm:({ gl:=y.gl,reach:=y.reach}:atk)∈own
    have Y:((y.kind==2)&&(!(aF .X2 .bool X ({ gl:=y.gl,reach:=y.reach}:atk))))=false:=by
     rw[show aF .X2 .bool X ({ gl:=y.gl,reach:=y.reach}:atk)=true from(E.owned _).trans (decide_eq_true hm)];simp
    rw[Y];refine⟨_,rfl,own,⟨O,E.owned,λu=>?_,E.nodup,E.count,XN⟩⟩;rw[V,vM,aqG,<-E.mem u];refine⟨.inl,λhq=>hq.elim id λhq=>?_⟩;have⟨_,q1,q2,_⟩:=(kV _ _ _ _ _).1 hq;simp_all;have Y:((y.kind==2)&&(!(aF .X2 .bool X ({ gl:=y.gl,reach:=y.reach}:atk))))=true:=by
     rw[show aF .X2 .bool X ({ gl:=y.gl,reach:=y.reach}:atk)=false from(E.owned _).trans (decide_eq_false hm),h2];rfl
    rw[Y];refine⟨_,rfl,{ gl:=y.gl,reach:=y.reach}::own,⟨O,λu=>?_,λu=>?_,aqQ.2 ⟨hm,E.nodup⟩,λr=>?_,XN⟩⟩;rw[qm];by_cases hu:u= { gl:=y.gl,reach:=y.reach}
    grind
    rw[show aF .X2 .bool X u=_ from E.owned u];grind
    rw[V,vM,aqG,<-E.mem u,aqg];constructor
    rintro (hu|hu);exact .inr ((kV _ _ _ _ _).2 ⟨h2,by rw[hu],by rw[hu],W.1,W.2⟩);grind
    rintro (hu|hq);exact .inr hu;have⟨_,q1,q2,_⟩:=(kV _ _ _ _ _).1 hq;simp_all;rw[qm,List.filter_cons];have hc:=E.count;by_cases hr:r=y.reach
    have e4:(({ gl:=y.gl,reach:=y.reach}:atk).reach==r)=true:=by simp[hr]
    have hb:(own.filter λu=>u.reach==r).length<=own.length:=arg _ _;rw[e4,<-hr,show aF .int .int s2 r=_ from hc r,ar XM XM];simp;grind
    ·have Y:((y.kind==2)&&(!(aF .X2 .bool X ({ gl:=y.gl,reach:=y.reach}:atk))))=false:=by
      grind
     rw[Y];refine⟨_,rfl,own,⟨O,E.owned,λu=>?_,E.nodup,E.count,XN⟩⟩;have:cr y 2 u.gl u.reach h=false:=by
      cases hq:cr y 2 u.gl u.reach h with
      |false=>rfl|true=>exact absurd ((kV _ _ _ _ _).1 hq).1 h2
     rw[V,vM,this,aso];exact E.mem u
  ·have e1:((decide (h<y.since)) ||(decide (h > y.to)))=true:=by
    grind
   rw[e1];have hno:∀ k f r,cr y k f r h=false:=λk f r=>by
    cases hq:cr y k f r h with
    |false=>rfl|true=>exact absurd ((kV _ _ _ _ _).1 hq).2.2.2 W
   refine⟨_,rfl,own,⟨λu=>?_,E.owned,λu=>?_,E.nodup,E.count,XN⟩⟩;rw[V,vM,hno,aso];exact E.aus u;rw[V,vM,hno,aso];exact E.mem u)
 grind
theorem adl {F:List atk}(hn:F.Nodup){u:atk}(E:u∈F):F.length=1↔∀ v∈F,v=u:=by
 match F,hn,E with
 | [a],_,E=>
  grind
 |a::b::t,hn,E=>
  refine⟨λh=>by simp at h,λh=>?_⟩;simp_all
theorem ahA (d:ai)(h f r:Int)(hl:d.bl.length<=256):nA (cL d h) { gl:=f,reach:=r} =so d f r h:=by
 have⟨s,own,e,hs⟩:=WZ d h hl;have E:cL d h=({ auz:=s.2.1,owned:=s.2.2,aus:=s.1}:atW):=by grind [cL]
 rw[E,adk];unfold nA;rw[show aF .X2 .bool s.1 ({ gl:=f,reach:=r}:atk)=_ from hs.aus _,show aF .X2 .bool s.2.2 ({ gl:=f,reach:=r}:atk)=_ from hs.owned _,show aF .int .int s.2.1 r=_ from hs.count r];have hlen:=hs.len;have hb:(own.filter λu=>u.reach==r).length<=own.length:=arg _ _;have hn:(own.filter λu=>u.reach==r).Nodup:=hs.nodup.filter _;have W:∀ v,v∈(own.filter λu=>u.reach==r)↔v∈own/\v.reach=r:=λv=>XN
 have hA:(d.bl.any λy=>(y.gl !=f)&&cr y 2 y.gl r h)=true↔∃ v,v∈(own.filter λu=>u.reach==r)/\v≠{ gl:=f,reach:=r}:=by
  rw[arm];constructor
  rintro⟨y,hy,O⟩;rw[ap9,bne_iff_ne]at O;refine⟨{ gl:=y.gl,reach:=r},(W _).2 ⟨(hs.mem _).2 (arm.2 ⟨y,hy,O.2⟩),rfl⟩,λe=>O.1 ?_⟩;injection e;rintro⟨v,E,Y⟩;have⟨h1,h2⟩:=(W v).1 E;have⟨y,hy,O⟩:=arm.1 ((hs.mem v).1 h1);have⟨q0,q1,q2,q3⟩:=(kV _ _ _ _ _).1 O;refine⟨y,hy,?_⟩;rw[ap9,bne_iff_ne];exact⟨λe=>Y (by cases v;grind),(kV _ _ _ _ _).2 ⟨q0,rfl,by rw[q2,h2],q3⟩⟩
 by_cases V:({ gl:=f,reach:=r}:atk)∈own
 have X:({ gl:=f,reach:=r}:atk)∈(own.filter λu=>u.reach==r):=(W _).2 ⟨V,rfl⟩;rw[decide_eq_true V,cond_true];congr 1
 have h1:=adl hn X;rw[ar XM XM,arj,aqA,<-arN];grind
 rw[decide_eq_false V,cond_false];congr 1
 rw[arj,aqA,<-arN,hA];constructor
 grind
 intro h0;have:(own.filter λu=>u.reach==r)=[]:=asl.2 λv E=>h0 ⟨v,E,λe=>V XN⟩;grind
@[go_sem] def cC (d:List Int)(e:Nat)(a:List Int×Int×Int):(List Int)⊕(List Int×Int×Int):=letI b:=Int.toNat a.2.1;letI c:=Int.toNat a.2.2;(bif(decide (a.2.1<a.2.2))then .inr (((a.1.set b (a.1.getD c 0)).set c (a.1.getD b 0)),(i64.wrap (a.2.1+1)),(i64.wrap (a.2.2 - 1)))else .inl a.1)
def dp (d:List Int)(e:Nat)(a:List Int×Int×Int):Prop:=letI b:=(a.1.length:Int);letI c:=0<=a.2.1/\a.2.1<b;((decide (a.2.1<a.2.2))=true->((0<=a.2.2/\a.2.2<b)/\(c/\(c/\(0<=a.2.2/\a.2.2< ((a.1.set (Int.toNat a.2.1) (a.1.getD (Int.toNat a.2.2) 0)).length:Int))))))
def gB (a:List Int):List Int:=(match aj (cC a) (a.length+1) 0 (a,0,(i64.wrap ((a.length:Int) - 1)))with| .inl b=>b| .inr c=>default)
def ii (a:List Int):Prop:=letI b:=(a,0,(i64.wrap ((a.length:Int) - 1)));letI c:=cC a;(a.length<=aD->(okI c (dp a) (a.length+1) 0 b/\(∀ z_,aj c (a.length+1) 0 b≠ .inr z_)))
@[go_sem] noncomputable def oV:List SV->List Ob->Option atB:=λl h=>QF .int (λl_=>(pQ (.os 0) (pE (fZ (ii l_) (.tup []) [.row .int (gB l_)]))) l) h
theorem wc:atA prog 161 oV:=by
 have hG:=mG Q1 Q1;refine fR hG f161 (λl o con h=>?_);unfold oV at h;obtain⟨V,rfl,h⟩:=QG h;obtain⟨r0,rfl,Y⟩:=H5 h;obtain⟨rfl,rfl⟩:=zH Y;clear h Y;refine⟨_,_,_,rfl,λhp=>?_⟩;unfold ii at hp;refine⟨nbl rfl,(XO 0 (LCV (ρ:=(List Int)) (σ:=(List Int×Int×Int)) 1 [] [0] (λW E=>⟨[(0,.os 0),(2,.i E.2.1),(3,.i E.2.2)],[.row .int E.1]⟩) (cC V) (dp V) (V.length+1) (V,0,(i64.wrap ((V.length:Int) - 1))) (λ_=>.normal) (λO=>⟨[],[.row .int O]⟩)) L0),?_,?_⟩;unfold aa f161;simp only[ak,true_and,and_true];refine dH aC hG (λ_=>rfl) λW E X=>⟨L0,ag _,?_⟩;unfold dp at X;exact cD (jl [0]);unfold aa f161;try unfold gB
 exact cD (jl [0])
@[go_sem] def uf (d:ai)(a:List Int)(b:Nat)(c:Unit):Unit⊕Unit:=(bif((decide ((a.getD b 0) <0)) ||(decide ((a.getD b 0)>=(d.reaches.length:Int))))then .inl ()else .inr ())
def kf (d:ai)(a:List Int):Int:=(bif((aB d) !=0)then(aB d)else(match aj (uf d a) a.length 0 ()with| .inl b=>1| .inr c=>0))
@[go_sem] def IW:FI:=(pD .al λd=>(pR .int λa=>(pE (.det True (.i (kf d a))))))
theorem Gf:P0 prog 158 IW:=by
 have hG:=mG (cn [.st .al] pd Q1) Q1;refine fN hG f158 [.o] (ap λd=>(aZ λE=>(am (λY=>?_))));dsimp only[an]at Y;refine⟨nbl rfl,(XO 0 (LCR (ρ:=Unit) (σ:=Unit) 1 [] [0] (λO V=>⟨[(2,.ptr 0 0),(13,.rs .int E),(14,.i (E.length:Int)),(15,.i O)],[.cells (cellsOf .al d)]⟩) (uf d E) pT E.length () (E.length<=aD) (λ_=>.ret) (λW=>⟨[(4,.i 1)],[.dead]⟩)) L0),?_,?_⟩;unfold aa f158;simp only[ak,true_and,and_true];refine bG aC hG (λ_=>rfl) (E.length:Int) eE (λhb0 O V X _ hw hc=>⟨L0,ag _,aW (jl [0])⟩) λhb0 V hc=>aV (jl [0]);exact Ce @kf.eq_1
def nI (d:ai)(a:Int):List Int×Int:=(bif((kf d ([a])) !=0)then([],(kf d ([a])))else((gB (eO d a)),0))
def sZ (d:ai)(a:Int):Prop:=(((kf d ([a])) !=0)=false->((0<=a/\tI d a/\(eO d a).length*8<=dh)/\(ii (eO d a))))
@[go_sem] def K9:FI:=(pD .al λd=>(pI λa=>(pE (.det (sZ d a) (.tup [.nw .int ((nI d a).1),.i ((nI d a).2)])))))
theorem IX:P0 prog 101 K9:=by
 have hG:=mG (cn [.st .al,.sl .int] Gf Q1) (co CR (co NU (co wc Q1)));refine fW hG f101 [(.tmp 4,.int)] (ap λd=>(ax λreach=>(am (λE=>?_))));dsimp only[an,sZ]at E;refine⟨nbl rfl,L0,ag _,?_⟩;exact Ce @nI.eq_1
end Go.Sx
end
