/- Part of the proof that the law RefuseEither returns true and leaves its arguments as they were, for all arguments of bulk at most 1048576 (the Upto form). -/
import Derived.Test.YtaikmgjfkejlkaaGreatE111
import Derived.Test.YtaikmgjfkejlkaaGreatE108
import Derived.Test.YtaikmgjfkejlkaaGreatE107
import Derived.Test.YtaikmgjfkejlkaaGreatE109
import Derived.Sort.Statements
import Derived.Shelf.SlSortCmp.Insertion
import Derived.Shelf.SlSortCmp.NoneTotal
import Derived.Ground.SlsfProg
import Derived.Test.YtaikmgjfkejlkaaGreatE103
import Derived.Test.YtaikmgjfkejlkaaGreatProg
set_option linter.all false
set_option maxHeartbeats 4000000
set_option maxRecDepth 100000
section
namespace Go.Sx
open Go.Proofs
open IntKind (i64 u64)
def rC (l:List Part)(n:Int)(g:Int->Int):Int->Int:=l.foldl (λg p=>jJ g p.gl (g p.gl+loP p n)) g
def o5 (l:List Part)(g:Int->Int):Int->Int:=l.foldl (λg p=>jJ g p.gl (g p.gl+1)) g
def B_ (l:List Part)(n:Int)(g:Int->Int):Int->Int:=o5 (l.take (n - d_ l n).toNat) (rC l n g)
def zv (x:bn)(g:Int->Int):Int->Int:=
 if g x.since=0 then g else
 if x.kind=1 then jJ (jJ g x.since 0) x.to (jJ g x.since 0 x.to+g x.since)else
 if x.kind=2 then B_ x.parts (g x.since) (jJ g x.since 0)else jJ g x.since 0
theorem I7 (l:List Part)(p:Part)(n:Int)(g:Int->Int):rC (l++[p]) n g=jJ (rC l n g) p.gl (rC l n g p.gl+loP p n):=by
 unfold rC;grind
theorem Gr (l:List Part)(p:Part)(g:Int->Int):o5 (l++[p]) g=jJ (o5 l g) p.gl (o5 l g p.gl+1):=by
 unfold o5;grind
theorem vS (l:List Part)(p:Part)(n:Int):d_ (l++[p]) n=d_ l n+loP p n:=by
 unfold d_;simp
def aqd (F:Nat)(l:List Part):Prop:= ∀ p∈l,0<=p.gl/\p.gl< (F:Int)/\aoW p.share/\0<p.share.n
variable {d:ah}{l:List Part}
theorem apF.fit(h:apF d l):aqd d.zs.length l:=λp E=>⟨(h.part p E).f0,(h.part p E).f1,(h.part p E).share,(h.part p E).pos⟩
theorem sn {F:Nat}{n:Int}(O:0<=n):∀ (l:List Part) (g:Int->Int) (M:Int),aqd F l->Good F M g->Good F (M+d_ l n) (rC l n g)/\tot F (rC l n g)=tot F g+d_ l n
 | [],g,M,_,E=>by grind [rC,d_]
 |p::l,g,M,V,E=>by
  obtain⟨a,b,c,e⟩:=V p alc;have Y:=NC c e O;have hgf:=E.nn p.gl;have h1:Good F (M+loP p n) (jJ g p.gl (g p.gl+loP p n)):=E.put a b (by omega) (by have:=E.tot;omega);obtain⟨q1,X⟩:=sn O l _ _ (λq hq=>V q (ak6 _ hq)) h1;have W:d_ (p::l) n=loP p n+d_ l n:=by simp[d_]
  rw[vR g p.gl _ F a b]at X;rw[W];refine⟨by rw[show M+(loP p n+d_ l n)=M+loP p n+d_ l n by omega];exact q1,?_⟩;show tot F (rC l n (jJ g p.gl (g p.gl+loP p n)))=_;omega
theorem vT {F:Nat}:∀ (l:List Part) (g:Int->Int) (M:Int),aqd F l->Good F M g->Good F (M+l.length) (o5 l g)/\tot F (o5 l g)=tot F g+l.length
 | [],g,M,_,E=>by grind [o5]
 |p::l,g,M,O,E=>by
  obtain⟨a,b,c,e⟩:=O p alc;have V:=E.nn p.gl;have h1:Good F (M+1) (jJ g p.gl (g p.gl+1)):=E.put a b (by omega) (by have:=E.tot;omega);obtain⟨X,W⟩:=vT l _ _ (λq Y=>O q (ak6 _ Y)) h1;rw[vR g p.gl _ F a b]at W;simp only[ak5];refine⟨by rw[show M+((l.length+1:Nat):Int)=M+1+(l.length:Int) by omega];exact X,?_⟩;show tot F (o5 l (jJ g p.gl (g p.gl+1)))=_;omega
theorem aqd.take{F:Nat}(h:aqd F l)(k:Nat):aqd F (l.take k):=λp E=>h p (alX E)
variable {g:Int->Int}
theorem PY(h:apF d l){n M:Int}(X:0<=n)(O:Good d.zs.length M g):Good d.zs.length (M+n) (B_ l n g)/\tot d.zs.length (B_ l n g)=tot d.zs.length g+n:=by
 obtain⟨V,Y⟩:=sn X l g M h.fit O;obtain⟨E,W⟩:=vT (l.take (n - d_ l n).toNat) _ _ (h.fit.take _) V;obtain⟨l1,l2⟩:=K1 h n;have e:((l.take (n - d_ l n).toNat).length:Int)=n - d_ l n:=by grind
 rw[e]at E W;refine⟨by rw[show M+n=M+d_ l n+(n - d_ l n) by omega];exact E,?_⟩;show tot _ (o5 _ _)=_;omega
variable {x:bn}{L:Int}
theorem NF(O:Fit d x)(Y:x.kind≠4)(X:Good d.zs.length L g):Good d.zs.length L (zv x g)/\(x.kind≠3->tot d.zs.length (zv x g)=tot d.zs.length g):=by
 obtain⟨_,_,_,s0,s1⟩:=O.held Y;unfold zv;by_cases hn:g x.since=0
 grind
 rw[if_neg hn];have V:=X.nn x.since;have hT:=X.tot;have E:Good d.zs.length (L - g x.since) (jJ g x.since 0):=X.put s0 s1 (alJ _) (by omega);have t1:=vR g x.since 0 d.zs.length s0 s1;by_cases W:x.kind=1
 rw[if_pos W];obtain⟨a,b,c⟩:=O.pass W;have h1:=E.nn x.to;have t2:=vR (jJ g x.since 0) x.to (jJ g x.since 0 x.to+g x.since) d.zs.length a b;exact⟨E.put a b (by omega) (by omega),λ_=>by omega⟩;rw[if_neg W];by_cases k2:x.kind=2
 rw[if_pos k2];obtain⟨q1,q2⟩:=PY (O.split k2) V E;grind
 rw[if_neg k2];refine⟨⟨E.nn,E.sup,by omega⟩,λk3=>?_⟩;rcases O.kind with e|e|e|e <;>omega
abbrev BM:=List (A1×Int)
abbrev RT (r f:Int):A1:= { right:=r,gl:=f}
def bk (m:BM):Int->Int->Int:=λr f=>aq .pq .int m (RT r f)
theorem K2 (m:BM)(r f v:Int):bk (cH .pq .int m (RT r f) v)=λE=>if E=r then jJ (bk m r) f v else bk m E:=by
 funext E f'
 unfold bk;rw[og];by_cases h:E=r
 simp_all [jJ];simp_all
theorem ac1 (m:BM)(O:(kJ m).Nodup)(r f:Int):bk (sq .pq .int m (RT r f))=λE=>if E=r then jJ (bk m r) f 0 else bk m E:=by
 funext E f'
 unfold bk aq sq;have e:=(B9 (RT r f) m O).2.2 (RT E f');have e':iy (Bf m (RT r f)) (RT E f')=if RT E f'=RT r f then none else iy m (RT E f'):=e;by_cases h:E=r
 subst h;rw[if_pos rfl];unfold jJ;by_cases h2:f'=f
 subst h2;rw[e',if_pos rfl,if_pos rfl];rfl;grind
 simp_all
theorem Good.aqg{F:Nat}(h:Good F L g)(E:L<=2147483648)(f:Int):0<=g f/\g f<=2147483648:=by
 have h1:=h.nn f;by_cases e:g f=0
 omega;obtain⟨a,b⟩:=h.sup f e;have:=Gm h.nn F f a b;have:=h.tot;omega
variable {m:BM}
theorem S7(V:apF d x.parts){n:Int}(Y:0<=n)(h1:n<=1073741824)(hN:(kJ m).Nodup){M:Int}(hM:M+n<=2147483648)(hg:Good d.zs.length M (bk m x.right)):
  fA x n m/\(kJ (dC x n m)).Nodup/\bk (dC x n m)=λr=>if r=x.right then B_ x.parts n (bk m r)else bk m r:=by
 obtain⟨l1,l2⟩:=K1 V n;obtain⟨⟨m1,E⟩,e1,a1,a2,a3⟩:=jA (step:=cb x n) (λk (s:BM×Int) =>(kJ s.1).Nodup/\(bk s.1=λr=>if r=x.right then rC (x.parts.take k) n (bk m r)else bk m r)/\s.2=n - d_ (x.parts.take k) n) x.parts.length 0 (m,n) ⟨hN,by grind [rC],by simp[d_]⟩ (λj s _ hj ⟨j1,X,j3⟩ =>by
  rw[ak8]at hj;have hm:x.parts.getD j default∈x.parts:=by grind
  obtain⟨f0,f1,f2,f3⟩:=V.fit _ hm;have elo:(eY (x.parts.getD j default).share n).1=loP (x.parts.getD j default) n:=(Wf f2 Y h1).1;have hlo:=NC f2 f3 Y;obtain⟨q1,q2⟩:=sn Y (x.parts.take j) _ _ (V.fit.take _) hg;have hs:∀ k,0<=d_ (x.parts.take k) n/\d_ (x.parts.take k) n<=d_ x.parts n:=λk=>by
   have key:∀ l:List Part,aqd d.zs.length l->0<=d_ l n:=λl=>by
    induction l with
    |nil=>grind [d_]
    |cons p r ih=>
     intro hp;obtain⟨_,_,c,e⟩:=hp p alc;have:=NC c e Y;have:=ih λq hq=>hp q (ak6 _ hq);grind [d_]
   have h1:=key _ (V.fit.take k);have h2:=key (x.parts.drop k) λp hp=>V.fit p (an6 hp);grind [List.take_append_drop,d_]
  have hsj:=hs j;have W:=hs (j+1);rw[ce _ default hj,vS]at W;have hv:=q1.aqg (by omega) (x.parts.getD j default).gl;have O:aq .pq .int s.1 (RT x.right (x.parts.getD j default).gl)=rC (x.parts.take j) n (bk m x.right) (x.parts.getD j default).gl:=by
   have:=congrFun (congrFun X x.right) (x.parts.getD j default).gl;grind [bk]
  refine⟨_,rfl,?_,?_,?_⟩;exact(uY _ _ _ j1).1;simp only[elo];rw[O,aA (by omega) (by omega),K2,X];funext r
  by_cases h:r=x.right
  subst h;simp only[if_true];grind [ce,I7];grind
  grind [aA,ce,vS])
 rw[ak8,amw]at a2 a3;simp only at a1 a2 a3;have hlf:0<=E/\E<=(x.parts.length:Int):=by omega
 obtain⟨q1,q2⟩:=sn Y x.parts _ _ V.fit hg;have tk:(x.parts.take E.toNat).drop 0=x.parts.take E.toNat:=by simp
 have tkl:(x.parts.take E.toNat).length=E.toNat:=by grind
 obtain⟨m2,e2,b1,b2⟩:=jA (step:=iB x (m1,E)) (λk (s:BM) =>(kJ s).Nodup/\(bk s=λr=>if r=x.right then o5 ((x.parts.take E.toNat).take k) (rC x.parts n (bk m r))else bk m r)) E.toNat 0 m1 ⟨a1,by grind [o5]⟩ (λj s _ hj ⟨j1,X⟩ =>by
  rw[ak8]at hj;have hj':j< (x.parts.take E.toNat).length:=by omega
  have hm:(x.parts.take E.toNat).getD j default∈x.parts.take E.toNat:=by grind
  obtain⟨r1,r2⟩:=vT ((x.parts.take E.toNat).take j) _ _ ((V.fit.take _).take _) q1;have hlen:((x.parts.take E.toNat).take j).length=j:=by grind
  have hv:=r1.aqg (by omega) ((x.parts.take E.toNat).getD j default).gl;have O:aq .pq .int s (RT x.right ((x.parts.take E.toNat).getD j default).gl)=o5 ((x.parts.take E.toNat).take j) (rC x.parts n (bk m x.right)) ((x.parts.take E.toNat).getD j default).gl:=by
   have:=congrFun (congrFun X x.right) ((x.parts.take E.toNat).getD j default).gl;grind [bk]
  refine⟨_,rfl,?_,?_⟩;exact(uY _ _ _ j1).1;simp only[tk];rw[O,aA (by omega) (by omega),K2,X];funext r
  by_cases h:r=x.right
  subst h;simp only[if_true];grind [ce,Gr];grind)
 rw[ak8]at b2;have e2':aj (iB x (m1,E)) ((x.parts.take E.toNat).drop 0).length 0 m1=.inr m2:=by grind
 have eR:dC x n m=m2:=by
  grind [dC]
 refine⟨λ_ z hz=>?_,?_,?_⟩;grind
 grind
 simp_all [B_,List.take_take]
def nu (x:bn)(B:Int->Int->Int):Int->Int->Int:=λr=>if r=x.right then zv x (B r)else B r
def o6 (ds:List bn)(B:Int->Int->Int):Int->Int->Int:=ds.foldl (λB x=>nu x B) B
def Y8:List bn->(Int->Int->Int)->List Int
 | [],_=>[]|x::r,B=>(if B x.right x.since=0 then [x.no]else [])++Y8 r (nu x B)
structure apN (d:ah)(m:BM):Prop where
 nodup:(kJ m).Nodup
 good:∀ r,∃ L,L<=1073741824/\Good d.zs.length L (bk m r)
theorem apN.le(h:apN d m)(r f:Int):0<=bk m r f/\bk m r f<=1073741824:=by
 obtain⟨L,h1,h2⟩:=h.good r;have:=h2.nn f;by_cases e:bk m r f=0
 omega;obtain⟨a,b⟩:=h2.sup f e;have:=Gm h2.nn _ f a b;have:=h2.tot;omega
theorem Y9{ds:List bn}(hx:Fit d x)(hk:x.kind≠4){e:List Int}(X:apN d m)(he:(e.length+1)*8<=d8):
  e_ ds x (e,m)/\∃ W,c9 ds x (e,m)=.inr (e++(if bk m x.right x.since=0 then [x.no]else []),W)/\apN d W/\bk W=nu x (bk m):=by
 obtain⟨r0,r1,r2,s0,s1⟩:=hx.held hk;have hv:=X.le x.right x.since;have ebk:aq .pq .int m (RT x.right x.since)=bk m x.right x.since:=rfl;have hdel:=B9 (RT x.right x.since) m X.nodup;have hstep:∀ W:BM,(kJ W).Nodup->bk W=nu x (bk m)->apN d W:=λW hN Y=>by
  refine⟨hN,λr=>?_⟩;obtain⟨L,h1,h2⟩:=X.good r;refine⟨L,h1,?_⟩;rw[Y];show Good _ _ (if r=x.right then zv x (bk m r)else bk m r);split
  exact(NF hx hk h2).1;exact h2
 have hlen:(e++[x.no]).length=e.length+1:=by simp
 unfold e_ c9;simp only[ebk,hlen];by_cases hn:bk m x.right x.since=0
 have b0:(bk m x.right x.since==0)=true:=by simp[hn]
 rw[b0,if_pos hn];refine⟨⟨λ_=>he,(λh=>by cases h)⟩,m,rfl,X,?_⟩;funext r
 simp_all [nu,zv];have b0:(bk m x.right x.since==0)=false:=by grind
 rw[b0,if_neg hn,ali];simp only[cond_false];have E:=ac1 m X.nodup x.right x.since;have V:(kJ (sq .pq .int m (RT x.right x.since))).Nodup:=hdel.1;have O:Good d.zs.length (1073741824 - bk m x.right x.since) (bk (sq .pq .int m (RT x.right x.since)) x.right):=by
  obtain⟨L,h1,h2⟩:=X.good x.right;rw[E];simp only[if_true];exact h2.put s0 s1 (alJ _) (by have:=h2.tot;omega)
 by_cases k1:x.kind=1
 have b1:(x.kind==1)=true:=by simp[k1]
 rw[b1];simp only[cond_true];obtain⟨a,b,c⟩:=hx.pass k1;have hto:=O.aqg (by omega) x.to;have e2:aq .pq .int (sq .pq .int m (RT x.right x.since)) (RT x.right x.to)=jJ (bk m x.right) x.since 0 x.to:=by
  grind [bk]
 have hto':0<=jJ (bk m x.right) x.since 0 x.to/\jJ (bk m x.right) x.since 0 x.to<=2147483648:=by
  grind
 refine⟨⟨(λh=>by cases h),(λ_ h=>by cases h)⟩,_,rfl,?_⟩;have Y:bk (eZ x (bk m x.right x.since) (sq .pq .int m (RT x.right x.since)))=nu x (bk m):=by
  unfold eZ;rw[e2,aA (by omega) (by omega),K2,E];funext r
  simp_all [nu,zv]
 exact⟨hstep _ (by unfold eZ;exact(uY _ _ _ V).1) Y,Y⟩;have b1:(x.kind==1)=false:=by grind
 rw[b1];simp only[cond_false];by_cases k2:x.kind=2
 have b2:(x.kind==2)=true:=by simp[k2]
 rw[b2];simp only[cond_true];obtain⟨p1,p2,p3⟩:=S7 (hx.split k2) hv.1 hv.2 V (M:=1073741824 - bk m x.right x.since) (by omega) O;refine⟨⟨(λh=>by cases h),λ_ _=>⟨λ_=>p1,(λh=>by cases h)⟩⟩,_,rfl,?_⟩;have Y:bk (dC x (bk m x.right x.since) (sq .pq .int m (RT x.right x.since)))=nu x (bk m):=by
  rw[p3,E];funext r
  simp_all [nu,zv]
 grind
 have b2:(x.kind==2)=false:=by grind
 rw[b2];simp only[cond_false];have k3:x.kind=3:=by rcases hx.kind with h|h|h|h <;>omega
 have b3:(x.kind==3)=true:=by simp[k3]
 rw[b3];simp only[cond_true];refine⟨⟨(λh=>by cases h),λ_ _=>⟨(λh=>by cases h),(λ_ h=>by cases h)⟩⟩,_,rfl,?_⟩;have Y:bk (sq .pq .int m (RT x.right x.since))=nu x (bk m):=by
  rw[E];funext r
  simp_all [nu,zv]
 grind
theorem I8 {d:ah}(ds:List bn):∀ (l:List bn),(∀ x∈l,Fit d x/\x.kind≠4)->∀ (e:List Int) (m:BM),apN d m->(e.length+l.length)*8<=d8->
  okL (c9 ds) (e_ ds) l (e,m)/\∃ E,cB (c9 ds) l (e,m)=.inr (e++Y8 l (bk m),E)/\apN d E/\bk E=o6 l (bk m)
 | [],_,e,m,O,_=>⟨trivial,m,by simp[cB,Y8],O,rfl⟩
 |x::l,h,e,m,O,hB=>by
  simp only[ak5]at hB;obtain⟨h1,h2⟩:=h x alc;obtain⟨q1,m1,X,q3,V⟩:=Y9 (ds:=ds) h1 h2 (e:=e) O (by omega);have W:(e++(if bk m x.right x.since=0 then [x.no]else [])).length<=e.length+1:=by grind
  obtain⟨r1,m2,Y,r3,r4⟩:=I8 ds l (λy hy=>h y (ak6 _ hy)) (e++(if bk m x.right x.since=0 then [x.no]else [])) m1 q3 (by omega);refine⟨⟨q1,λs hs=>by grind⟩,m2,?_,r3,?_⟩;simp only[cB,X];rw[Y,V,alG];rfl;rw[r4,V];rfl
def B0 (d:ah):Int->Int->Int:=λr f=>if 0<=r/\r< (d.ai.length:Int)/\(d.ai.getD r.toNat default).kind=1/\(d.ai.getD r.toNat default).gl=f then(d.ai.getD r.toNat default).dd else 0
structure aqK (d:ah)(x:aoU):Prop where
 f0:0<=x.gl
 f1:x.gl< (d.zs.length:Int)
 l0:1<=x.dd
 l1:x.dd<=1073741824
theorem D1(h:aw d=0){k:Nat}(W:k<d.ai.length)(V:(d.ai.getD k default).kind=1):aqK d (d.ai.getD k default):=by
 have:=((qT d).1 h).2.2.2.2.2.2.2.1 k W;unfold d7 at this;rw[iw]at this;have h2:iA d (d.ai.getD k default)=true:=by
  grind
 unfold iA at h2;cases E:((!(cJ (d.ai.getD k default).gl (d.zs.length:Int))) ||(!(cJ (d.ai.getD k default).reach (d.reaches.length:Int)))) ||(!(aR ([0,(d.ai.getD k default).since,(d.ai.getD k default).to,(i64.wrap (d.hours - 1))])))with
 |true=>grind
 |false=>
  rw[E,show((d.ai.getD k default).kind==1)=true by rw[V];rfl]at h2;simp only[cond_true,cond_false,akZ]at h2;simp only[alC,amz]at E;have O:=E.1.1;unfold cJ at O;simp only[akZ,decide_eq_true_eq]at O;have X:=vL h2.1.2;exact⟨by omega,by omega,by omega,by omega⟩
theorem ac2(h:aw d=0)(r:Int):∃ L,L<=1073741824/\Good d.zs.length L (B0 d r):=by
 by_cases hr:0<=r/\r< (d.ai.length:Int)/\(d.ai.getD r.toNat default).kind=1
 ·have E:=D1 h (k:=r.toNat) (by omega) hr.2.2;have W:=E.l0;refine⟨(d.ai.getD r.toNat default).dd,E.l1,?_⟩;have e:B0 d r=jJ (λ_=>0) (d.ai.getD r.toNat default).gl (d.ai.getD r.toNat default).dd:=by
   funext f
   unfold B0 jJ;grind
  have t0:∀ n,tot n (λ_=>0)=0:=λn=>by
   induction n with
   |zero=>rfl|succ n V=>grind [tot]
  rw[e];exact Good.put (L:=0) ⟨λ_=>alJ _,λf O=>absurd rfl O,by grind⟩ E.f0 E.f1 (by omega) (by grind)
 ·refine⟨0,by omega,?_⟩;have e:B0 d r=λ_=>0:=by
   funext f
   unfold B0;omega
  have t0:∀ n,tot n (λ_=>0)=0:=λn=>by
   induction n with
   |zero=>rfl|succ n V=>grind [tot]
  rw[e];exact⟨λ_=>alJ _,λf O=>absurd rfl O,by grind⟩
theorem Wl(h:aw d=0):∃ m,aj (c8 d) d.ai.length 0 []=.inr m/\apN d m/\bk m=B0 d:=by
 obtain⟨m,h1,h2,X⟩:=jA (step:=c8 d) (λk (m:BM) =>(kJ m).Nodup/\bk m=λr f=>if r< (k:Int)then B0 d r f else 0) d.ai.length 0 ([]:BM) ⟨by simp[kJ],by
   funext r f
   by_cases hr:r< ((0:Nat):Int)
   rw[if_pos hr];unfold B0 bk;rw[if_neg (by omega)];rfl;rw[if_neg hr];rfl⟩ (λj m _ W ⟨O,E⟩ =>by
  rw[ak8]at W;unfold c8;by_cases V:(d.ai.getD j default).kind=1
  rw[show((d.ai.getD j default).kind==1)=true by rw[V];rfl];refine⟨_,rfl,(uY _ _ _ O).1,?_⟩;rw[K2,E];funext r f
  by_cases hr:r=(j:Int)
  subst hr;simp only[if_true];unfold jJ B0;grind
  simp only[if_neg hr];omega;rw[show((d.ai.getD j default).kind==1)=false by grind];refine⟨_,rfl,O,?_⟩;rw[E];funext r f
  by_cases hr:r=(j:Int)
  simp_all [B0];omega)
 have e:bk m=B0 d:=by
  rw[X];funext r f
  split
  rfl;unfold B0;omega
 refine⟨m,h1,⟨h2,λr=>?_⟩,e⟩;rw[e];exact ac2 h r
theorem S8(h:aw d=0){ds:List bn}(hd:∀ x∈ds,Fit d x/\x.kind≠4)(hl:ds.length<=512):
  lh d ds/\∃ m,fh d ds=(m,wu (Y8 ds (B0 d)))/\apN d m/\bk m=o6 ds (B0 d):=by
 obtain⟨m0,W,Y,b0⟩:=Wl h;obtain⟨q1,m1,E,X,O⟩:=I8 (d:=d) ds ds hd [] m0 Y (by grind [d8]);rw[ak_]at E;rw[b0]at E O;refine⟨λ_ z V=>?_,m1,?_,X,O⟩;rw[W]at V;cases V;refine⟨Wb ds,?_⟩;grind [x6]
 grind [fh,x6]
def je (d:ah)(l:List bn)(hour known:Int):Int->Int->Int:=o6 (stS (AB l hour known)) (B0 d)
def xz (d:ah)(B:Int->Int->Int)(r f:Nat):Option aox:=if 0<B r f then some { right:=(r:Int),gl:=(f:Int),dd:=B r f,aoA:=(d.ai.getD r default).aoA}else none
def jC (d:ah)(B:Int->Int->Int)(r:Nat):List aox:=(List.range d.zs.length).filterMap (xz d B r)
def rb (d:ah)(B:Int->Int->Int):List aox:=(List.range d.ai.length).flatMap (jC d B)
variable {B:Int->Int->Int}{x:aox}
theorem o7{r:Nat}:x∈jC d B r↔∃ f:Nat,f<d.zs.length/\0<B r f/\x= { right:=(r:Int),gl:=(f:Int),dd:=B r f,aoA:=(d.ai.getD r default).aoA}:=by
 unfold jC xz;grind
theorem x9:x∈rb d B↔0<=x.right/\x.right< (d.ai.length:Int)/\0<=x.gl/\x.gl< (d.zs.length:Int)/\0<x.dd/\x.dd=B x.right x.gl/\x.aoA=(d.ai.getD x.right.toNat default).aoA:=by
 unfold rb;rw[amk];constructor
 rintro⟨r,hr,O⟩;rw[amy]at hr;obtain⟨f,V,E,rfl⟩:=o7.1 O;grind
 rintro⟨a,b,c,e,E,h1,h2⟩;refine⟨x.right.toNat,amy.2 (by omega),o7.2 ⟨x.gl.toNat,by omega,?_,?_⟩⟩;grind
 rw[alQ a,alQ c,<-h1,<-h2]
def NG:∀ n:Nat,(List.range n).Pairwise (· < ·):=λn=>List.pairwise_lt_range
theorem vU (d:ah)(B:Int->Int->Int):(rb d B).Pairwise hlt:=by
 unfold rb;rw[an1];refine⟨λr _=>?_,?_⟩;unfold jC;rw[am_];refine(NG _).imp λ{a b} O x E y hy=>?_;unfold xz at E hy;split at E
 split at hy
 cases E;cases hy;exact Or.inr ⟨rfl,Or.inl (by grind)⟩;cases hy;cases E;refine(NG _).imp λ{a b} O x E y hy=>?_;obtain⟨f,_,_,rfl⟩:=o7.1 E;obtain⟨g,_,_,rfl⟩:=o7.1 hy;simp only[hlt,mD,and_false,or_false];omega
theorem Y_ (x:aox):¬hlt x x:=by simp only[hlt,mD,and_false,or_false];omega
theorem S9 {l:List aox}(h:l.Pairwise hlt):l.Nodup:=h.imp λ{a b} E e=>by subst e;exact Y_ _ E
theorem uZ {α β:Type}(f:α->List β)(k:Nat):∀ l:List α,(∀ a∈l,(f a).length<=k)->(l.flatMap f).length<=l.length*k
 | [],_=>by simp
 |a::l,h=>by
  have h1:=h a alc;have h2:=uZ f k l λb E=>h b (ak6 _ E);rw[alp,ak9,ak5,anx,Nat.one_mul];omega
theorem Ca(hr:aoL d)(B:Int->Int->Int):(rb d B).length<=153600:=by
 have h1:=uZ (jC d B) 600 (List.range d.ai.length) λr _=>ald (amE _ _) (by rw[amD];exact hr.zs);rw[amD]at h1;have:=hr.ai;show((List.range d.ai.length).flatMap (jC d B)).length<=_;omega
def s5 (d:ah)(k:A1×Int):Option aox:=if 0<k.2 then some { right:=k.1.right,gl:=k.1.gl,dd:=k.2,aoA:=(d.ai.getD (Int.toNat k.1.right) default).aoA}else none
theorem K3 (d:ah)(l:List bn)(h n:Int):∀ (L:BM) (s:List aox),cB (fe d l h n) L s=.inr (s++L.filterMap (s5 d))
 | [],s=>by simp[cB]
 |k::L,s=>by
  by_cases E:0<k.2
  have e:s5 d k=some { right:=k.1.right,gl:=k.1.gl,dd:=k.2,aoA:=(d.ai.getD (Int.toNat k.1.right) (default:aoU)).aoA}:=by unfold s5;grind
  rw[anE e];simp only[cB];unfold fe;rw[decide_eq_true (show k.2 > 0 from E)];simp only[cond_true];have:=K3 d l h n L (s++[{ right:=k.1.right,gl:=k.1.gl,dd:=k.2,aoA:=(d.ai.getD (Int.toNat k.1.right) (default:aoU)).aoA}]);unfold fe at this;grind
  have e:s5 d k=none:=by unfold s5;grind
  rw[anF e];simp only[cB];unfold fe;rw[decide_eq_false (show ¬k.2 > 0 from E)];simp only[cond_false];have:=K3 d l h n L s;unfold fe at this;exact this
theorem PZ (d:ah)(l:List bn)(h n:Int):∀ (L:BM) (s:List aox),(∀ k∈L,0<k.2->0<=k.1.right/\k.1.right< (d.ai.length:Int))->(s.length+(L.filterMap (s5 d)).length)*32<=d8->okL (fe d l h n) (mH d l h n) L s
 | [],_,_,_=>trivial
 |k::L,s,V,X=>by
  by_cases O:0<k.2
  have e:s5 d k=some { right:=k.1.right,gl:=k.1.gl,dd:=k.2,aoA:=(d.ai.getD (Int.toNat k.1.right) (default:aoU)).aoA}:=by unfold s5;grind
  rw[anE e,ak5]at X;refine⟨λ_=>⟨V k alc O,by grind⟩,λs' E=>?_⟩;unfold fe at E;rw[decide_eq_true (show k.2 > 0 from O)]at E;cases E;exact PZ d l h n L _ (λq W=>V q (ak6 _ W)) (by grind);have e:s5 d k=none:=by unfold s5;grind
  rw[anF e]at X;refine⟨λh=>absurd (of_decide_eq_true h) O,λs' E=>?_⟩;unfold fe at E;rw[decide_eq_false (show ¬k.2 > 0 from O)]at E;cases E;exact PZ d l h n L _ (λq W=>V q (ak6 _ W)) X
theorem Rp {d:ah}{r:Int}(hr:¬ (0<=r/\r< (d.ai.length:Int))):∀ (ds:List bn) (B:Int->Int->Int),(∀ x∈ds,Fit d x/\x.kind≠4)->o6 ds B r=B r
 | [],B,_=>rfl
 |x::ds,B,h=>by
  have h1:=h x alc;have h2:=h1.1.held h1.2;show o6 ds (nu x B) r=_;rw[Rp hr ds _ λy hy=>h y (ak6 _ hy)];unfold nu;grind
variable {l:List bn}
theorem AJ(h:aqo d l)(hour known:Int):∀ x∈stS (AB l hour known),Fit d x/\x.kind≠4:=λx E=>by
 have E:=YX.1 E;unfold AB at E;rw[amC]at E;refine⟨h.fit x E.1,λe=>?_⟩;grind
def Rq (l:List bn):(stS l).length=l.length:=(uX (xu l)).symm
def Za {α:Type}{a b:List α}(O:a.Nodup)(E:b.Nodup)(h:∀ x,x∈a↔x∈b):a.Perm b:=(List.perm_ext_iff_of_nodup O E).2 h
theorem S_(h:aqo d l)(W:apN d m){hour known:Int}(hb:bk m=je d l hour known):
  (m.filterMap (s5 d)).Perm (rb d (je d l hour known))/\∀ k∈m,0<k.2->0<=k.1.right/\k.1.right< (d.ai.length:Int):=by
 have V:∀ (t:A1) (v:Int),(t,v)∈m->bk m t.right t.gl=v:=λt v htv=>by
  have:=(Gl W.nodup).2 htv;show(iy m { right:=t.right,gl:=t.gl}).getD _=v;grind
 have O:∀ k∈m,0<k.2->0<=k.1.right/\k.1.right< (d.ai.length:Int):=λk X Y=>by
  rcases anV (0<=k.1.right/\k.1.right< (d.ai.length:Int))with hr|hr;exact hr;have e:=V k.1 k.2 X;rw[hb]at e;unfold je at e;rw[Rp hr _ _ (AJ h hour known)]at e;unfold B0 at e;omega
 refine⟨Za ?_ (S9 (vU _ _)) λx=>?_,O⟩;rw[List.Nodup,am_];have:m.Pairwise λa b=>a.1≠b.1:=by
  have:=W.nodup;grind [kJ]
 refine this.imp λ{a b} hab x E y hy=>?_;unfold s5 at E hy;split at E
 split at hy
 cases E;cases hy;intro e;simp only[aox.mk.injEq]at e;refine hab ?_;obtain⟨⟨a1,a2⟩,a3⟩:=a;simp_all;cases hy;cases E;rw[aof,x9];constructor
 rintro⟨k,X,E⟩;unfold s5 at E;split at E
 rename_i Y;cases E;have e:=V k.1 k.2 X;obtain⟨a,b⟩:=O k X Y;obtain⟨L,_,hg⟩:=W.good k.1.right;obtain⟨c,f⟩:=hg.sup k.1.gl (by rw[e];omega);simp_all;cases E;rintro⟨a,b,c,f,Y,h1,h2⟩;rw[<-hb]at h1;have h3:iy m (RT x.right x.gl)=some x.dd:=by
  have e:bk m x.right x.gl=(iy m (RT x.right x.gl)).getD 0:=rfl;cases hg:iy m (RT x.right x.gl) <;>grind
 refine⟨(RT x.right x.gl,x.dd),(Gl W.nodup).1 h3,?_⟩;unfold s5;rw[if_pos Y];simp only[ak3];rw[<-h2]
open Go.Shelf Go.Sort in
variable {d:ah}{B:Int->Int->Int}
theorem I9{s:List aox}(h:s.Perm (rb d B)):apart c6 s/\srt c6 s=rb d B:=by
 have e1:∀ x y,ltOf c6 x y=true↔hlt x y:=λx y=>by unfold ltOf;rw[decide_eq_true_eq,FM]
 have E:∀ x y,ltOf c6 x y=false↔¬hlt x y:=λx y=>by grind
 have O:∀ x∈rb d B,∀ y∈rb d B,¬hlt x y->¬hlt y x->x=y:=λx X y hy h1 h2=>by
  obtain⟨_,_,_,_,_,x1,x2⟩:=x9.1 X;obtain⟨_,_,_,_,_,y1,y2⟩:=x9.1 hy;simp only[hlt,mD,and_false,or_false]at h1 h2;have q1:x.right=y.right:=by omega
  have q2:x.gl=y.gl:=by omega
  obtain⟨a,b,c,e⟩:=x;obtain⟨a',b',c',e'⟩:=y;grind
 refine⟨λx X y hy h1 h2=>O x (h.subset X) y (h.subset hy) ((E x y).1 h1) ((E y x).1 h2),?_⟩;unfold srt;have Y:(s.mergeSort λx y=>!(ltOf c6 y x)).Perm (rb d B):=(al5 _ _).trans h;refine al9 (le:=λx y=>(!ltOf c6 y x)=true) ?_ ?_ ?_ Y;grind
 refine alW ?_ ?_ s;intro a b c h1 h2;simp only[alm]at h1 h2 |-;exact CV.3 c b a h2 h1;intro a b;simp only[alx,alm];rcases anV (hlt b a)with hh|hh;refine .inr ((E _ _).2 λW=>?_);simp only[hlt,mD,and_false,or_false]at hh W;omega;grind
 refine(vU d B).imp λ{a b} V=>?_;simp only[alm];refine(E _ _).2 λW=>?_;simp only[hlt,mD,and_false,or_false]at V W;omega
theorem I_ (d:ah)(l:List bn)(hour known:Int):qw d l hour known/\
  aD d l hour known=if a_ d l≠0 then([],a_ d l)else if 0<=hour/\hour<d.hours/\0<=known/\known<=1048576 then(rb d (je d l hour known),0)else([],1):=by
 by_cases hc:a_ d l=0
 have E:=sT hc;have hE:=((xZ d l).1 hc).1;have hh:=E.right.hours;have hh1:=E.right.apz;have hw:((!(aU hour 0 (i64.wrap (d.hours - 1)))) ||(!(aU known 0 1048576)))= !decide (0<=hour/\hour<d.hours/\0<=known/\known<=1048576):=by
  rw[aA (by omega) (by omega),<-Bool.not_and];congr 1
  rw[alZ,akZ,vM,vM,decide_eq_true_eq];omega
 obtain⟨c1,c2⟩:=Nj l hour known E.len;have O:(stS (AB l hour known)).length<=512:=by rw[Rq];exact ald (alT _ _) E.len
 obtain⟨f1,m,Y,f3,f4⟩:=S8 hE (AJ E hour known) O;obtain⟨p1,p2⟩:=S_ E f3 (hour:=hour) (known:=known) f4;have key:∀ L:BM,L.Perm m->(L.filterMap (s5 d)).Perm (rb d (je d l hour known)):=λL W=>(W.filterMap _).trans p1;have val:aD d l hour known=if 0<=hour/\hour<d.hours/\0<=known/\known<=1048576 then(rb d (je d l hour known),0)else([],1):=by
  unfold aD;rw[hc,hw,c2,Y];simp only[bne_self_eq_false,cond_false];by_cases X:0<=hour/\hour<d.hours/\0<=known/\known<=1048576
  rw[decide_eq_true X,if_pos X];simp only[alj,cond_false];rw[K3,ak_];simp only;rw[(I9 (key m (List.Perm.refl _))).2];grind
 refine⟨⟨uV d l,(λh=>by grind),λ_=>⟨λh=>?_,λh=>?_⟩⟩,by grind⟩;grind
 rw[hw]at h;have X:0<=hour/\hour<d.hours/\0<=known/\known<=1048576:=by simpa using h
 rw[c2,Y];refine⟨c1,f1,λL W=>?_⟩;have V:=key L W;refine⟨PZ d l hour known L [] (λk V=>p2 k (W.subset V)) ?_,λs hs=>?_⟩;have h1:=V.length_eq;have h2:=Ca E.right (je d l hour known);grind [d8]
 rw[K3,ak_]at hs;cases hs;obtain⟨s1,s2⟩:=I9 V;grind
 have hne:(a_ d l !=0)=true:=by grind
 have val:aD d l hour known=([],a_ d l):=by grind [aD]
 refine⟨⟨uV d l,(λ_=>val.symm),λh=>?_⟩,by grind⟩;grind
variable {l:List bn}
theorem Gs{known n:Int}:pO l known n=true↔∃ u∈l,u.kind=4/\u.known<=known/\u.of_=n:=by
 simp_all [pO,and_assoc]
def lv (l:List bn)(hour known:Int)(x:bn):Bool:= !((((x.kind==4) ||(decide (x.known > known))) ||(decide (x.at_ > hour))) ||pO l known x.no)
def NH (r:Int):List aox->Int
 | [] =>0|x::l=>(if x.right=r then x.dd else 0)+NH r l
theorem K4 {d:ah}{r:Int}{L:Int}:∀ (ds:List bn) (B:Int->Int->Int),(∀ x∈ds,Fit d x/\x.kind≠4)->Good d.zs.length L (B r)->Good d.zs.length L (o6 ds B r)/\((∀ x∈ds,x.right=r->x.kind≠3)->tot d.zs.length (o6 ds B r)=tot d.zs.length (B r))
 | [],B,_,E=>⟨E,λ_=>rfl⟩
 |x::ds,B,h,E=>by
  have X:=h x alc;have h1:Good d.zs.length L (nu x B r)/\((x.right=r->x.kind≠3)->tot d.zs.length (nu x B r)=tot d.zs.length (B r)):=by
   unfold nu;by_cases e:r=x.right
   rw[if_pos e];obtain⟨W,O⟩:=NF X.1 X.2 E;grind
   grind
  obtain⟨W,O⟩:=K4 ds (nu x B) (λy hy=>h y (ak6 _ hy)) h1.1;exact⟨W,λV=>(O λy hy=>V y (ak6 _ hy)).trans (h1.2 (V x alc))⟩
theorem NI {d:ah}{r:Int}(hr:¬ (0<=r/\r< (d.ai.length:Int)/\(d.ai.getD r.toNat default).kind=1)):∀ (ds:List bn) (B:Int->Int->Int),(∀ x∈ds,Fit d x/\x.kind≠4)->o6 ds B r=B r
 | [],B,_=>rfl
 |x::ds,B,h=>by
  have h1:=h x alc;have h2:=h1.1.held h1.2;show o6 ds (nu x B) r=_;rw[NI hr ds _ λy hy=>h y (ak6 _ hy)];unfold nu;grind
theorem t0:∀ n,tot n (λ_=>0)=0:=λn=>by
 induction n with
 |zero=>rfl|succ n E=>grind [tot]
theorem Rr(h:aw d=0){k:Nat}(V:k<d.ai.length)(O:(d.ai.getD k default).kind=1):Good d.zs.length (d.ai.getD k default).dd (B0 d k)/\tot d.zs.length (B0 d k)=(d.ai.getD k default).dd:=by
 have E:=D1 h V O;have X:=E.l0;have e:B0 d k=jJ (λ_=>0) (d.ai.getD k default).gl (d.ai.getD k default).dd:=by
  funext f
  unfold B0 jJ;grind
 rw[e];refine⟨Good.put (L:=0) ⟨λ_=>alJ _,λf W=>absurd rfl W,by grind [t0]⟩ E.f0 E.f1 (by omega) (by rw[t0];omega),?_⟩;rw[vR _ _ _ _ E.f0 E.f1,t0];omega
theorem Zb{r:Int}(hr:¬ (0<=r/\r< (d.ai.length:Int)/\(d.ai.getD r.toNat default).kind=1)):B0 d r=λ_=>0:=by
 funext f
 unfold B0;omega
structure aqN (d:ah)(B:Int->Int->Int):Prop where
 nn:∀ r f,0<=B r f
 take:∀ k,k<d.ai.length->(d.ai.getD k default).kind=1->Good d.zs.length (d.ai.getD k default).dd (B k)
 other:∀ r:Int,¬ (0<=r/\r< (d.ai.length:Int)/\(d.ai.getD r.toNat default).kind=1)->B r=λ_=>0
theorem NJ(h:aw d=0){ds:List bn}(hd:∀ x∈ds,Fit d x/\x.kind≠4):aqN d (o6 ds (B0 d)):=by
 have O:∀ k,k<d.ai.length->(d.ai.getD k default).kind=1->Good d.zs.length (d.ai.getD k default).dd (o6 ds (B0 d) k):=λk W E=>(K4 ds _ hd (Rr h W E).1).1;have V:∀ r:Int,¬ (0<=r/\r< (d.ai.length:Int)/\(d.ai.getD r.toNat default).kind=1)->o6 ds (B0 d) r=λ_=>0:=λr hr=>(NI hr ds _ hd).trans (Zb hr);refine⟨λr f=>?_,O,V⟩;by_cases hr:0<=r/\r< (d.ai.length:Int)/\(d.ai.getD r.toNat default).kind=1
 have:=(O r.toNat (by omega) hr.2.2).nn f;grind
 grind
theorem aqN.le(h:aqN d B)(O:aw d=0)(r f:Int):B r f<=1073741824:=by
 by_cases hr:0<=r/\r< (d.ai.length:Int)/\(d.ai.getD r.toNat default).kind=1
 have V:=h.take r.toNat (by omega) hr.2.2;have E:=D1 O (k:=r.toNat) (by omega) hr.2.2;have:=V.le (by have:=E.l0;omega) f;rw[alQ hr.1]at this;have:=E.l1;omega;rw[h.other r hr];simp
variable {α:Type}
theorem NK{step:Nat->List α->Empty⊕List α}(l:List α)(d:α)(P:α->Bool)(s0:List α)(h:∀ k s,k<l.length->step k s=bif P (l.getD k d)then .inr (s++[l.getD k d])else .inr s):aj step l.length 0 s0=.inr (s0++l.filter P):=by
 obtain⟨r,h1,h2⟩:=jA (step:=step) (λk s=>s=s0++(l.take k).filter P) l.length 0 s0 (by simp) (λj s _ E O=>by
  rw[ak8]at E;grind [ce])
 grind
theorem NL{step:Nat->List α->Empty⊕List α}{p:Nat->List α->Prop}(l:List α)(d:α)(P:α->Bool)(s0:List α)(h:∀ k s,k<l.length->step k s=bif P (l.getD k d)then .inr (s++[l.getD k d])else .inr s)(E:∀ k s,k<l.length->s.length<=s0.length+k->p k s):okI step p l.length 0 s0:=by
 refine jS (λk s=>s.length<=s0.length+k) _ _ _ (ak2 _) λj s _ V O=>⟨E j s (by omega) O,λs' e=>?_⟩;grind
theorem ac3 (l:List bn)(x:bn)(known:Int):p9 l x known=pO l known x.no:=by
 unfold p9;cases hr:aj (kT l x known) l.length 0 ()with
 |inr s=>
  have h:=gT.1 hr
  symm
  rw[<-amH,Gs];rintro⟨u,E,a,b,c⟩;obtain⟨j,O,rfl⟩:=alE.1 E;grind [kT]
 |inl y=>
  cases hc:pO l known x.no with
  |true=>rfl
  |false=>
   have:aj (kT l x known) l.length 0 ()=.inr ():=gT.2 λj O=>by
    unfold kT;have h2:¬ ((l.getD j default).kind=4/\(l.getD j default).of_=x.no/\(l.getD j default).known<=known):=λ⟨a,b,c⟩ =>by
     have:pO l known x.no=true:=Gs.2 ⟨l.getD j default,by grind,a,c,b⟩;grind
    grind
   grind
def qv (l:List bn)(known:Int)(x:bn):Bool:=(x.kind !=4)&&(decide (x.known<=known))&& !pO l known x.no
theorem ahF (l:List bn)(hour known:Int)(x:bn):lv l hour known x=(qv l known x&&decide (x.at_<=hour)):=by
 grind [lv,qv]
theorem P2(V:aqo d l)(hour known:Int):j7 l hour known/\dw l hour known=stS (AB l hour known):=by
 have hl:=V.len;have stp:∀ (s:List bn×Int) k (t:List bn),k<l.length->ii l known s k t=bif((l.getD k default).at_==s.2)&&qv l known (l.getD k default)then .inr (t++[l.getD k default])else .inr t:=λs k t hk=>by
  grind [ii,qv,ac3]
 obtain⟨Y,r,k2,k3,k4⟩:okI (f7 l hour known) (ix l hour known) (Int.toNat hour+2) 0 ([],0)/\∃ r,aj (f7 l hour known) (Int.toNat hour+2) 0 ([],0)=.inl r/\aov (AB l hour known) r/\Srt r:=by
  refine yw (λs:List bn×Int=>((Int.toNat hour+1:Nat):Int).toNat - s.2.toNat) (λs:List bn×Int=>∃ k:Nat,s.2=(k:Int)/\k<=4097/\(k=0\/(k:Int)<=hour+1)/\Srt s.1/\(∀ x∈s.1,x.at_< (k:Int))/\aov (l.filter λx=>qv l known x&&decide (x.at_< (k:Int))) s.1/\s.1.length<=512) _ ?_ _ _ _ ⟨0,rfl,by omega,.inl rfl,List.Pairwise.nil,by simp,?_,by simp⟩ (by omega);rintro j ⟨o,a⟩ ⟨k,rfl,h1,h1b,h2,h3,h4,h5⟩;unfold ix f7;by_cases hc:(k:Int)<=4096/\(k:Int)<=hour
  have e:((decide ((k:Int)<=4096))&&(decide ((k:Int)<=hour)))=true:=by grind
  simp only[e];have er:=NK (step:=ii l known (o,(k:Int))) l default (λx=>(x.at_==(k:Int))&&qv l known x) o (stp _);rw[er];simp only[cond_true];have E:aov (l.filter λx=>qv l known x&&decide (x.at_< ((k+1:Nat):Int))) (o++l.filter λx=>(x.at_==(k:Int))&&qv l known x):=λt=>by
   rw[anu,<-h4 t,am8,am8,am8];by_cases ht:t< (k:Int)
   have X:l.filter (λa=>(a.at_==t)&&((a.at_==(k:Int))&&qv l known a))=[]:=by
    grind [List.filter_eq_nil_iff]
   grind
   have X:l.filter (λa=>(a.at_==t)&&(qv l known a&&decide (a.at_< (k:Int))))=[]:=by
    simp_all
   grind
  have O:(o++l.filter λx=>(x.at_==(k:Int))&&qv l known x).length<=512:=by
   rw[<-uX E];grind
  have hf2:=alT (λx=>(x.at_==(k:Int))&&qv l known x) l;refine⟨λ_=>NL l default (λx=>(x.at_==(k:Int))&&qv l known x) o (stp _) λi s hi hs=>λ_ _=>by grind [d8],.inr ⟨_,rfl,?_,k+1,?_,by omega,.inr (by omega),?_,?_,E,O⟩⟩;grind [aA]
  grind [aA]
  refine BY h2 (List.pairwise_of_forall_mem_list λx W y hy=>?_) λx W y hy=>?_ <;>grind;grind
  have e:((decide ((k:Int)<=4096))&&(decide ((k:Int)<=hour)))=false:=by grind
  simp only[e,cond_false];refine⟨(λh=>by cases h),.inl ⟨_,rfl,?_,h2⟩⟩;have:AB l hour known=l.filter λx=>qv l known x&&decide (x.at_< (k:Int)):=by
   show l.filter (lv l hour known)=_;refine List.filter_congr λx W=>?_;rw[ahF];have:=(V.fit x W).at0;have:=(V.fit x W).at1;grind
  grind
  intro t;rw[am8];show l.filter _=[];rw[List.filter_eq_nil_iff];intro a ha;have:=(V.fit a ha).at0;grind
 unfold j7 dw;rw[k2];exact⟨⟨Y,λz h=>by cases h⟩,zr k3 k4⟩
def apt (F:Nat)(s:List Int)(g:Int->Int):Prop:=s.length=F/\∀ f:Nat,f<F->s.getD f 0=g (f:Int)
variable {g:Int->Int}{f:Int}
theorem apt.set{F:Nat}{s:List Int}(h:apt F s g){v:Int}(E:0<=f)(h1:f< (F:Int)):apt F (s.set f.toNat v) (jJ g f v):=by
 refine⟨by rw[am4];exact h.1,λi hi=>?_⟩;have O:=h.1;unfold jJ;by_cases e:i=f.toNat
 grind
 rw[if_neg (by omega),anw,List.getElem?_set_ne (λh=>e h.symm),<-anw,h.2 i hi]
theorem apt.get{F:Nat}{s:List Int}(h:apt F s g)(E:0<=f)(h1:f< (F:Int)):s.getD f.toNat 0=g f:=by
 rw[h.2 f.toNat (by omega),alQ E]
def zw (r:Int):List bn->(Int->Int->Int)->List Int
 | [],_=>[]|x::ds,B=>(if x.right=r/\B x.right x.since=0 then [x.no]else [])++zw r ds (nu x B)
variable {j:Nat}
theorem Ja(ds:List bn)(B:Int->Int->Int)(E:j<ds.length):o6 (ds.take (j+1)) B=nu (ds.getD j default) (o6 (ds.take j) B):=by
 grind [ce,o6]
variable {r:Nat}
theorem Wm{ds:List bn}{x:bn}(ex:ds.getD j default=x)(hx:Fit d x)(hk:x.kind≠4){L:Int}(hL:L<=1073741824){e s:List Int}(Y:Good d.zs.length L g)(hs:apt d.zs.length s g)(he:(e.length+1)*8<=d8):
  ij ds r j (e,s)/\∃ s',iq ds r j (e,s)=.inr (e++(if x.right=(r:Int)/\g x.since=0 then [x.no]else []),s')/\apt d.zs.length s' (if x.right=(r:Int)then zv x g else g):=by
 obtain⟨_,_,_,s0,s1⟩:=hx.held hk;have hsl:=hs.1;have gs:=hs.get s0 s1;unfold ij iq lj eo ll nM;rw[ex];by_cases hr:x.right=(r:Int)
 have b0:(x.right !=(r:Int))=false:=by grind
 simp only[hr,bne_self_eq_false,cond_false,true_and,if_true];simp only[gs];have hlen:(e++[x.no]).length=e.length+1:=by simp
 by_cases hn:g x.since=0
 simp_all [zv];have b1:(g x.since==0)=false:=by grind
 rw[b1,if_neg hn];simp only[cond_false,ali];have hnn:=Y.nn x.since;have hle:=Y.aqg (by omega) x.since;have r1:=hs.set (v:=0) s0 s1;have g1:Good d.zs.length (L - g x.since) (jJ g x.since 0):=Y.put s0 s1 (alJ _) (by have:=Y.tot;omega);have hgl:g x.since<=L:=anT (Gm Y.nn _ _ s0 s1) Y.tot;have hl1:(s.set x.since.toNat 0).length=d.zs.length:=r1.1;by_cases k1:x.kind=1
 have c1:(x.kind==1)=true:=by rw[k1];rfl
 have c2:(x.kind==2)=false:=by rw[k1];rfl
 obtain⟨a,b,c⟩:=hx.pass k1;simp only[c1,c2,cond_true,cond_false,hl1];have gt:=r1.get a b;have hto:=g1.aqg (by omega) x.to;rw[gt,aA (n:=jJ g x.since 0 x.to+g x.since) (by omega) (by omega)];refine⟨λ_ _=>⟨by omega,(λh=>by cases h),λ_=>⟨by omega,λ_=>⟨by omega,by omega⟩,(λh=>by cases h)⟩⟩,_,rfl,?_⟩;unfold zv;rw[if_neg hn,if_pos k1];exact r1.set a b;have c1:(x.kind==1)=false:=by grind
 by_cases k2:x.kind=2
 have c2:(x.kind==2)=true:=by rw[k2];rfl
 simp only[c1,c2,cond_true,cond_false];have E:=hx.split k2;have h0:=hnn;obtain⟨l1,l2⟩:=K1 E (g x.since);generalize hn':g x.since=n at *;generalize hG:jJ g x.since 0=g0 at *;generalize hS:s.set x.since.toNat 0=q0 at *;have W:∀ (i:Nat) (t:List Int×Int),i<x.parts.length->apt d.zs.length t.1 (rC (x.parts.take i) n g0)->t.2=n - d_ (x.parts.take i) n->
   ((nh (x.parts.getD i default).share n)/\((0<=(x.parts.getD i default).gl/\(x.parts.getD i default).gl< (t.1.length:Int))/\(0<=(x.parts.getD i default).gl/\(x.parts.getD i default).gl< (t.1.length:Int))))/\
   apt d.zs.length (t.1.set (x.parts.getD i default).gl.toNat (i64.wrap ((t.1.getD (x.parts.getD i default).gl.toNat 0)+(gk (x.parts.getD i default).share n).1))) (rC (x.parts.take (i+1)) n g0)/\i64.wrap (t.2 - (gk (x.parts.getD i default).share n).1)=n - d_ (x.parts.take (i+1)) n:=λi t hi q1 q2=>by
  have hm:x.parts.getD i default∈x.parts:=by grind
  obtain⟨f0,f1,f2,f3⟩:=E.fit _ hm;obtain⟨tp,tv⟩:=PW f2 h0 (by omega:n<=1073741824);have elo:(gk (x.parts.getD i default).share n).1=loP (x.parts.getD i default) n:=tv;have hlo:=NC f2 f3 h0;obtain⟨w1,w2⟩:=sn h0 (x.parts.take i) _ _ (E.fit.take _) g1;have key:∀ l:List Part,aqd d.zs.length l->0<=d_ l n:=λl=>by
   induction l with
   |nil=>grind [d_]
   |cons p r ih=>
    intro hp;obtain⟨_,_,c,e⟩:=hp p alc;have:=NC c e h0;have:=ih λq hq=>hp q (ak6 _ hq);grind [d_]
  have NH:∀ k,0<=d_ (x.parts.take k) n/\d_ (x.parts.take k) n<=d_ x.parts n:=λk=>by
   have h1:=key _ (E.fit.take k);have h2:=key (x.parts.drop k) λp hp=>E.fit p (an6 hp);grind [List.take_append_drop,d_]
  have u1:=NH i;have u2:=NH (i+1);rw[ce _ default hi,vS]at u2;have hv:=w1.aqg (by omega) (x.parts.getD i default).gl;have gv:=q1.get f0 f1;have hl:=q1.1;rw[elo,gv,aA (n:=rC (x.parts.take i) n g0 (x.parts.getD i default).gl+loP (x.parts.getD i default) n) (by omega) (by omega),q2,aA (by omega) (by omega),ce _ default hi,vS,I7];exact⟨⟨tp,by omega,by omega⟩,q1.set f0 f1,by omega⟩
 have eL:=jA (step:=λ(O:Nat) (V:List Int×Int) =>(.inr ((V.1.set (Int.toNat ((x.parts.getD O (default:Part)).gl)) (i64.wrap ((V.1.getD (Int.toNat ((x.parts.getD O (default:Part)).gl)) (0:Int))+(gk ((x.parts.getD O (default:Part)).share) n).1))),(i64.wrap (V.2 - (gk ((x.parts.getD O (default:Part)).share) n).1))):Empty⊕(List Int×Int))) (λi t=>apt d.zs.length t.1 (rC (x.parts.take i) n g0)/\t.2=n - d_ (x.parts.take i) n) x.parts.length 0 (q0,n) ⟨by grind [rC],by simp[d_]⟩ (λi t _ hi ⟨q1,q2⟩ =>by
  grind)
 obtain⟨⟨t1,lf⟩,e1,a1,a2⟩:=eL;rw[ak8,amw]at a1 a2;simp only at a1 a2;obtain⟨q1,q2⟩:=sn h0 x.parts _ _ E.fit g1;have X:∀ (i:Nat) (t:List Int),i<lf.toNat->apt d.zs.length t (o5 (x.parts.take i) (rC x.parts n g0))->
   (((0<=(i:Int)/\(i:Int) < ((x.parts).length:Int))/\((0<=(x.parts.getD i (default:Part)).gl/\(x.parts.getD i (default:Part)).gl< (t.length:Int))/\(0<=(x.parts.getD i (default:Part)).gl/\(x.parts.getD i (default:Part)).gl< (t.length:Int)))))/\
   apt d.zs.length (t.set (x.parts.getD i default).gl.toNat (i64.wrap ((t.getD (x.parts.getD i default).gl.toNat 0)+1))) (o5 (x.parts.take (i+1)) (rC x.parts n g0)):=λi t hi p1=>by
  have hi':i<x.parts.length:=by omega
  have hm:x.parts.getD i default∈x.parts:=by grind
  obtain⟨f0,f1,f2,f3⟩:=E.fit _ hm;obtain⟨w1,w2⟩:=vT (x.parts.take i) _ _ (E.fit.take _) q1;have hlen:(x.parts.take i).length=i:=by grind
  have hv:=w1.aqg (by omega) (x.parts.getD i default).gl;have gv:=p1.get f0 f1;have hl:=p1.1;rw[gv,aA (by omega) (by omega),ce _ default hi',Gr];exact⟨⟨⟨by omega,by omega⟩,⟨by omega,by omega⟩⟩,p1.set f0 f1⟩
 obtain⟨t2,e2,b1⟩:=jA (step:=λ(k_2:Nat) (s_2:List Int) =>(.inr (s_2.set (Int.toNat ((x.parts.getD k_2 (default:Part)).gl)) (i64.wrap ((s_2.getD (Int.toNat ((x.parts.getD k_2 (default:Part)).gl)) (0:Int))+1))):Empty⊕(List Int))) (λi t=>apt d.zs.length t (o5 (x.parts.take i) (rC x.parts n g0))) lf.toNat 0 t1 (by grind [o5]) (λi t _ hi q=>by
  grind)
 rw[ak8]at b1;rw[e1];simp only[e2];refine⟨λ_ _=>⟨by omega,(λh=>by cases h),λ_=>⟨by omega,(λh=>by cases h),λ_=>⟨?_,λz hz=>?_⟩⟩⟩,t2,rfl,?_⟩;refine jS (λi t=>apt d.zs.length t.1 (rC (x.parts.take i) n g0)/\t.2=n - d_ (x.parts.take i) n) _ _ _ ⟨by grind [rC],by simp[d_]⟩ λi t _ hi q=>⟨λ_=>(W i t (by omega) q.1 q.2).1,λt' ht=>by grind⟩;cases hz;have hpl:=E.len;refine⟨by omega,jS (λi t=>apt d.zs.length t (o5 (x.parts.take i) (rC x.parts n g0))) _ _ _ (by grind [o5]) λi t _ hi q=>⟨(X i t (by omega) q).1,λt' ht=>by grind⟩⟩;simp_all [zv,B_];have c2:(x.kind==2)=false:=by grind
 simp only[c1,c2,cond_false];simp_all [zv];grind
theorem ahG(h:aw d=0)(Y:aoL d){ds:List bn}(hd:∀ x∈ds,Fit d x/\x.kind≠4)(hl:ds.length<=512)(hr:r<d.ai.length)(hk:(d.ai.getD r default).kind=1):
  oU d ds (r:Int)/\∃ s,eQ d ds (r:Int)=(s,zw r ds (B0 d))/\apt d.zs.length s (o6 ds (B0 d) r):=by
 have O:=D1 h hr hk;have hfl:=Y.zs;have hrl:=Y.ai;obtain⟨bg,bt⟩:=Rr h hr hk;have hg:∀ j,Good d.zs.length (d.ai.getD r default).dd (o6 (ds.take j) (B0 d) r):=λj=>(K4 (ds.take j) _ (λx hx=>hd x (alX hx)) bg).1;have h0:apt d.zs.length ((List.replicate (Int.toNat (d.zs.length:Int)) (0:Int)).set (Int.toNat ((d.ai.getD (Int.toNat (r:Int)) (default:aoU)).gl)) (d.ai.getD (Int.toNat (r:Int)) (default:aoU)).dd) (B0 d r):=by
  rw[ak1,ak1];have h1:apt d.zs.length (List.replicate d.zs.length 0) (λ_=>0):=⟨by simp,λf hf=>by grind⟩;have h2:=h1.set (v:=(d.ai.getD r default).dd) O.f0 O.f1;have e:B0 d r=jJ (λ_=>0) (d.ai.getD r default).gl (d.ai.getD r default).dd:=by
   funext f
   unfold B0 jJ;grind
  grind
 have E:∀ j,j<ds.length->ds.drop j=ds.getD j default::ds.drop (j+1):=λj V=>by simp_all
 have elen:∀ (l:List bn) (B:Int->Int->Int),(zw r l B).length<=l.length:=λl=>by
  induction l with
  |nil=>grind [zw]
  |cons x l ih=>
   grind [zw]
 have step:∀ j (s:List Int×List Int),j<ds.length->s.1++zw r (ds.drop j) (o6 (ds.take j) (B0 d))=zw r ds (B0 d)->apt d.zs.length s.2 (o6 (ds.take j) (B0 d) r)->
   ij ds r j s/\∃ s',iq ds r j s=.inr s'/\s'.1++zw r (ds.drop (j+1)) (o6 (ds.take (j+1)) (B0 d))=zw r ds (B0 d)/\apt d.zs.length s'.2 (o6 (ds.take (j+1)) (B0 d) r):=λj s V j1 j2=>by
  obtain⟨e,s⟩:=s;have hm:ds.getD j default∈ds:=by grind
  have hlen:e.length<=512:=by
   grind
  obtain⟨q1,s',q2,q3⟩:=Wm (ds:=ds) (j:=j) (r:=r) rfl (hd _ hm).1 (hd _ hm).2 O.l1 (e:=e) (hg j) j2 (by unfold d8;omega);refine⟨q1,_,q2,?_,?_⟩;rw[<-j1,E j V,Ja ds (B0 d) V];simp only[zw];grind
  rw[Ja ds (B0 d) V];show apt _ s' (if(r:Int)=(ds.getD j default).right then zv _ (o6 (ds.take j) (B0 d) r)else _);grind
 obtain⟨⟨e,s⟩,r1,X,W⟩:=jA (step:=iq ds r) (λj s=>s.1++zw r (ds.drop j) (o6 (ds.take j) (B0 d))=zw r ds (B0 d)/\apt d.zs.length s.2 (o6 (ds.take j) (B0 d) r)) ds.length 0 ([],_) ⟨by simp[o6],h0⟩ (λj s _ V ⟨j1,j2⟩ =>by
  grind)
 rw[ak8,amw]at X W;rw[anL]at X;simp only[zw,ali]at X W;refine⟨λ_=>⟨⟨rfl,by omega,by unfold d8;omega⟩,λ_=>⟨by omega,by omega,?_,?_⟩⟩,s,?_,W⟩;rw[ak1];simp only[List.length_replicate,ak1];exact⟨O.f0,O.f1⟩;exact jS (λj s=>s.1++zw r (ds.drop j) (o6 (ds.take j) (B0 d))=zw r ds (B0 d)/\apt d.zs.length s.2 (o6 (ds.take j) (B0 d) r)) _ _ _ ⟨by simp[o6],h0⟩ λj s _ V hs=>⟨(step j s (by omega) hs.1 hs.2).1,λs' h=>by
  grind⟩
 grind [eQ]
theorem H8(h:B r=λ_=>0):jC d B r=[]:=by
 rw[ang];intro x E;obtain⟨f,_,O,_⟩:=o7.1 E;grind
theorem arB (d:ah)(l:List bn)(hour known:Int):sX d l hour known/\j8 d l hour known=aD d l hour known:=by
 rw[(I_ d l hour known).2];unfold sX j8;rw[Ro];cases hc:(a_ d l !=0)with
 |true=>
  refine⟨⟨x8 d l,(λh=>by cases h)⟩,?_⟩;grind
 |false=>
  have hc:a_ d l=0:=by grind
  have E:=sT hc;have hE:=((xZ d l).1 hc).1;rw[if_neg (by simp[hc])];simp only[cond_false];by_cases hg:0<=hour/\hour<d.hours/\0<=known/\known<=1048576
  have e:((((decide (hour<0)) ||(decide (hour>=d.hours))) ||(decide (known<0))) ||(decide (known > 1048576)))=false:=by
   grind
  rw[e,if_pos hg];simp only[cond_false];obtain⟨c1,c2⟩:=P2 E hour known;have Y:=AJ E hour known;have V:(stS (AB l hour known)).length<=512:=by rw[Rq];exact ald (alT _ _) E.len
  have hH:=NJ hE Y;have hB:je d l hour known=o6 (stS (AB l hour known)) (B0 d):=rfl;have hcl:=Ca E.right (je d l hour known);have hfl:=E.right.zs;have hrl:=E.right.ai;have row:∀ (j:Nat) (s:List aox),j<d.ai.length->s=(List.range j).flatMap (jC d (je d l hour known))->nq d l hour known j s/\oi d l hour known j s=.inr ((List.range (j+1)).flatMap (jC d (je d l hour known))):=λj s hj O=>by
   rw[anX,ann,alp,ame,ali,<-O];have hslen:s.length<=j*600:=by
    rw[O];have:=uZ (jC d (je d l hour known)) 600 (List.range j) λr _=>ald (amE _ _) (by grind);grind
   unfold nq oi;by_cases hk:(d.ai.getD j default).kind=1
   have b:((d.ai.getD j default).kind !=1)=false:=by rw[hk];rfl
   rw[b];simp only[cond_false];obtain⟨p1,q,p2,p3⟩:=ahG hE E.right Y V hj hk;have X:∀ (i:Nat) (t:List aox),i<d.zs.length->t=s++(List.range i).filterMap (xz d (je d l hour known) j)->nk d l hour known j i t/\oh d l hour known j i t=.inr (s++(List.range (i+1)).filterMap (xz d (je d l hour known) j)):=λi t hi W=>by
    unfold nk oh;rw[c2,p2];have hq:q.getD i 0=je d l hour known j i:=p3.2 i hi;simp only[hq];have htl:t.length<=s.length+i:=by grind
    refine⟨λ_ _=>by grind [d8],?_⟩;rw[anX,anc,<-alG,<-W];by_cases h0:0<je d l hour known j i
    rw[decide_eq_true (show je d l hour known j i > 0 from h0)];have e:xz d (je d l hour known) j i=some { right:=(j:Int),gl:=(i:Int),dd:=je d l hour known j i,aoA:=(d.ai.getD j default).aoA}:=by unfold xz;grind
    grind
    rw[decide_eq_false (show ¬je d l hour known j i > 0 from h0)];have e:xz d (je d l hour known) j i=none:=by unfold xz;grind
    grind
   have hql:((eQ d (dw l hour known) (j:Int)).1).length=d.zs.length:=by rw[c2,p2];exact p3.1
   obtain⟨t,u1,u2⟩:=jA (step:=oh d l hour known j) (λi t=>t=s++(List.range i).filterMap (xz d (je d l hour known) j)) d.zs.length 0 s (by simp) (λi t _ hi W=>⟨_,(X i t (by omega) W).2,rfl⟩);rw[hql,u1];refine⟨λ_ _=>⟨by grind,jS (λi t=>t=s++(List.range i).filterMap (xz d (je d l hour known) j)) _ _ _ (by simp) λi t _ hi W=>⟨(X i t (by omega) W).1,λt' h=>?_⟩⟩,?_⟩;grind
   simp only[u2,ak8];rfl;have b:((d.ai.getD j default).kind !=1)=true:=by grind
   rw[b];have e0:je d l hour known j=λ_=>0:=hH.other j λhr=>hk (by grind);grind [H8]
  obtain⟨s,v1,v2⟩:=jA (step:=oi d l hour known) (λj s=>s=(List.range j).flatMap (jC d (je d l hour known))) d.ai.length 0 [] (by simp) (λj s _ hj O=>⟨_,(row j s (by omega) O).2,rfl⟩);refine⟨⟨x8 d l,λ_ _=>⟨c1,jS (λj s=>s=(List.range j).flatMap (jC d (je d l hour known))) _ _ _ (by simp) λj s _ hj O=>⟨(row j s (by omega) O).1,λs' h=>?_⟩⟩⟩,?_⟩;grind
  rw[v1,v2,ak8];rfl;have e:((((decide (hour<0)) ||(decide (hour>=d.hours))) ||(decide (known<0))) ||(decide (known > 1048576)))=true:=by
   grind
  rw[e,if_neg hg];exact⟨⟨x8 d l,(λ_ h=>by cases h)⟩,rfl⟩
def Wn (x:aoU)(h:Int):Bool:=decide (x.since<=h)&&decide (h<=x.to)&&decide (Int.tmod (h - x.since) x.every<x.length)
def opn (d:ah)(h:Int)(x:aox):Option Claim:=if Wn (d.ai.getD (Int.toNat x.right) default) h=true then some { right:=x.right,gl:=x.gl,hour:=h,dd:=x.dd,aoA:=x.aoA}else none
def mg (d:ah)(l:List bn)(h k:Int):List Claim:=(aD d l h k).1.filterMap (opn d h)
structure aql (d:ah)(x:aoU):Prop where
 aqL:0<=x.since
 every:1<=x.every
 arX:0<=x.aoA
 ar1:0<=x.gl
theorem P3(h:aw d=0){k:Nat}(W:k<d.ai.length)(V:(d.ai.getD k default).kind=1):aql d (d.ai.getD k default):=by
 have:=((qT d).1 h).2.2.2.2.2.2.2.1 k W;unfold d7 at this;rw[iw]at this;have h2:iA d (d.ai.getD k default)=true:=by
  grind
 unfold iA at h2;cases E:((!(cJ (d.ai.getD k default).gl (d.zs.length:Int))) ||(!(cJ (d.ai.getD k default).reach (d.reaches.length:Int)))) ||(!(aR ([0,(d.ai.getD k default).since,(d.ai.getD k default).to,(i64.wrap (d.hours - 1))])))with
 |true=>grind
 |false=>
  rw[E,show((d.ai.getD k default).kind==1)=true by rw[V];rfl]at h2;simp only[cond_true,cond_false,akZ]at h2;simp only[alC,amz]at E;have O:=E.1.1;unfold cJ at O;simp only[akZ,decide_eq_true_eq]at O;have X:=vL h2.1.1.2;have h7:=qo h2.2;have Y:=qo E.2;exact⟨by omega,by omega,by omega,by omega⟩
variable {h k:Int}{x:aox}
theorem Wo(E:x∈(aD d l h k).1):aw d=0/\(0<=h/\h<d.hours)/\0<=x.right/\x.right< (d.ai.length:Int)/\0<=x.gl/\x.gl< (d.zs.length:Int)/\0<x.dd/\x.dd<=1073741824/\x.aoA=(d.ai.getD x.right.toNat default).aoA/\(d.ai.getD x.right.toNat default).kind=1:=by
 rw[(I_ d l h k).2]at E;by_cases hc:a_ d l=0
 rw[if_neg (by simp[hc])]at E;by_cases V:0<=h/\h<d.hours/\0<=k/\k<=1048576
 rw[if_pos V]at E;have O:=((xZ d l).1 hc).1;obtain⟨a,b,c,e,f,g,i⟩:=x9.1 E;have W:=NJ O (AJ (sT hc) h k);refine⟨O,⟨V.1,V.2.1⟩,a,b,c,e,f,?_,i,?_⟩;rw[g];exact W.le O _ _;rcases anV ((d.ai.getD x.right.toNat default).kind=1)with hk|hk;exact hk;have:=W.other x.right (λX=>hk X.2.2);rw[g]at f;unfold je at f;grind
 grind
 grind
theorem Wp {d:ah}{l:List bn}{h k:Int}:(aD d l h k).1.length<=600*d.ai.length/\(aD d l h k).1.length<=153600:=by
 rw[(I_ d l h k).2];by_cases hc:a_ d l=0
 rw[if_neg (by simp[hc])];by_cases O:0<=h/\h<d.hours/\0<=k/\k<=1048576
 rw[if_pos O];have E:=(sT hc).right;refine⟨?_,Ca E _⟩;have:=uZ (jC d (je d l h k)) 600 (List.range d.ai.length) λr _=>by
  unfold jC;refine ald (amE _ _) ?_;rw[amD];exact E.zs
 grind [rb]
 grind
 grind
theorem Ta (d:ah)(l:List bn)(h k:Int):(aD d l h k).1.Pairwise hlt:=by
 rw[(I_ d l h k).2];split
 simp_all;split
 exact vU _ _;simp_all
theorem Jb (d:ah)(l:List bn)(h k:Int):(mg d l h k).length<=600*d.ai.length/\(mg d l h k).length<=153600:=by
 have:= @Wp d l h k;have h2:=amE (opn d h) (aD d l h k).1;unfold mg;omega
variable {c:Claim}
theorem Gt(e:opn d h x=some c):Wn (d.ai.getD (Int.toNat x.right) (default:aoU)) h=true/\c= { right:=x.right,gl:=x.gl,hour:=h,dd:=x.dd,aoA:=x.aoA}:=by
 grind [opn]
structure apY (d:ah)(h:Int)(c:Claim):Prop where
 exp:aw d=0
 hour:c.hour=h
 h0:0<=h
 h1:h<d.hours
 r0:0<=c.right
 r1:c.right< (d.ai.length:Int)
 f0:0<=c.gl
 f1:c.gl< (d.zs.length:Int)
 l0:0<c.dd
 l1:c.dd<=1073741824
 aoA:c.aoA=(d.ai.getD c.right.toNat default).aoA
 kind:(d.ai.getD c.right.toNat default).kind=1
theorem Gu(hc:c∈mg d l h k):apY d h c:=by
 unfold mg at hc;rw[aof]at hc;obtain⟨x,E,e⟩:=hc;obtain⟨_,rfl⟩:=Gt e;obtain⟨a0,⟨a,b⟩,c,e,f,g,i,j,m,n⟩:=Wo E;exact⟨a0,rfl,a,b,c,e,f,g,i,j,m,n⟩
theorem C3 (d:ah)(l:List bn)(h k:Int):(mg d l h k).Pairwise λa b=>¬ (a.right=b.right/\a.gl=b.gl):=by
 unfold mg;rw[am_];refine(Ta d l h k).imp λ{a b} E x O y hy=>?_;obtain⟨_,rfl⟩:=Gt O;obtain⟨_,rfl⟩:=Gt hy;simp only[hlt,mD,and_false,or_false]at E |-;omega
theorem Wq {a b:Claim}(h:¬ (a.right=b.right/\a.gl=b.gl)):rZ a b\/rZ b a:=by
 simp only[rZ,mD,and_false,or_false];omega
theorem P4{a b:Claim}(h1:rZ a b)(h2:rZ b c):rZ a c:=by simp only[rZ,mD,and_false,or_false]at *;omega
def ud (l:List Claim)(x:Claim):List Claim:=l.takeWhile (λy=>decide (c5 y x<0))++x::l.dropWhile (λy=>decide (c5 y x<0))
def s6 (d:ah)(l:List bn)(h k:Int):List Claim:=(mg d l h k).foldl ud []
theorem Jc (l:List Claim)(x:Claim):(ud l x).Perm (x::l):=by
 grind [ud,List.takeWhile_append_dropWhile]
variable {l:List Claim}{x:Claim}
theorem Tb(O:l.Pairwise rZ):∀ y∈l.dropWhile (λy=>decide (c5 y x<0)),¬rZ y x:=by
 induction l with
 |nil=>simp_all
 |cons z l V=>
  rw[alL]at O;intro y hy;rw[List.dropWhile_cons]at hy;split at hy
  grind
  rename_i E;have E:¬rZ z x:=λh=>E (decide_eq_true ((AH z x).2 h));rcases ala.1 hy with rfl|hy;exact E;exact λh=>E (P4 (O.1 y hy) h)
theorem Wr:∀ y∈l.takeWhile (λy=>decide (c5 y x<0)),rZ y x:=by
 induction l with
 |nil=>simp_all
 |cons z l O=>
  intro y hy;rw[List.takeWhile_cons]at hy;split at hy
  rename_i E;rcases ala.1 hy with rfl|hy;exact(AH y x).1 (of_decide_eq_true E);grind
  cases hy
theorem NM(O:l.Pairwise rZ)(V:∀ y∈l,¬ (x.right=y.right/\x.gl=y.gl)):(ud l x).Pairwise rZ:=by
 have X:=List.takeWhile_append_dropWhile (p:=λy=>decide (c5 y x<0)) (l:=l);unfold ud;have h1:=Wr (l:=l) (x:=x);have h2:=Tb (x:=x) O;have E:∀ y∈l.dropWhile (λy=>decide (c5 y x<0)),y∈l:=λy hy=>(List.dropWhile_sublist _).subset hy;have W:∀ y∈l.dropWhile (λy=>decide (c5 y x<0)),rZ x y:=λy hy=>by
  rcases Wq (V y (E y hy))with h|h <;>grind
 grind [List.pairwise_cons]
theorem Gv:∀ (r s:List Claim),s.Pairwise rZ->(r.Pairwise λa b=>¬ (a.right=b.right/\a.gl=b.gl))->(∀ a∈s,∀ b∈r,¬ (a.right=b.right/\a.gl=b.gl))->(r.foldl ud s).Perm (s++r)/\(r.foldl ud s).Pairwise rZ
 | [],s,O,_,_=>⟨by simp,O⟩
 |x::r,s,O,hr,E=>by
  rw[alL]at hr;have V:=Jc s x;obtain⟨h1,h2⟩:=Gv r (ud s x) (NM O λy hy h=>E y hy x (by simp) ⟨h.1.symm,h.2.symm⟩) hr.2 λa W b X=>by
   grind
  grind
theorem zx (d:ah)(l:List bn)(h k:Int):(s6 d l h k).Perm (mg d l h k):=by
 have:=(Gv (mg d l h k) [] List.Pairwise.nil (C3 d l h k) (λa E=>by cases E)).1;rw[ak_]at this;exact this
theorem K5 (d:ah)(l:List bn)(h k:Int):(s6 d l h k).Pairwise rZ:=(Gv (mg d l h k) [] List.Pairwise.nil (C3 d l h k) (λa E=>by cases E)).2
variable {l:List bn}
def AK(hc:c∈s6 d l h k):apY d h c:=Gu ((zx d l h k).subset hc)
variable {β:Type}
theorem Gw{ρ:Type}{step:Nat->List β->ρ⊕List β}(l:List α)(d:α)(f:α->Option β)(s0:List β)(h:∀ k s,k<l.length->step k s=.inr (s++(f (l.getD k d)).toList)):aj step l.length 0 s0=.inr (s0++l.filterMap f):=by
 obtain⟨r,h1,h2⟩:=jA (step:=step) (λk s=>s=s0++(l.take k).filterMap f) l.length 0 s0 (by simp) (λj s _ E O=>by
  rw[ak8]at E;grind [ce])
 grind
theorem K6{ρ:Type}{step:Nat->List β->ρ⊕List β}{p:Nat->List β->Prop}(l:List α)(d:α)(f:α->Option β)(s0:List β)(h:∀ k s,k<l.length->step k s=.inr (s++(f (l.getD k d)).toList))(E:∀ k,k<l.length->p k (s0++(l.take k).filterMap f)):okI step p l.length 0 s0:=by
 refine jS (λk s=>s=s0++(l.take k).filterMap f) _ _ _ (by simp) λj s _ V O=>⟨by grind,λs' e=>?_⟩;grind [ce]
theorem XB(l:List α)(f:α->Option β)(k:Nat):((l.take k).filterMap f).length<=(l.filterMap f).length:=by
 have:=congrArg List.length (congrArg (List.filterMap f) (alU k l));grind
theorem Zc(l:List α)(d:α)(f:α->Option β){k:Nat}(E:k<l.length){c:β}(hc:f (l.getD k d)=some c):(l.filterMap f)[((l.take k).filterMap f).length]? =some c:=by
 grind [List.drop_eq_getElem_cons,List.take_append_drop]
theorem Rt{step:Nat->List β×Int->List β⊕(List β×Int)}{p:Nat->List β×Int->Prop}(fr to:Int)(G:Int->List β)(h0:0<=fr)(h1:to<4096)(E:fr<=to+1)
  (hs:∀ k s h,fr<=h->h<=to->step k (s,h)=.inr (s++G h,i64.wrap (h+1))) (he:∀ k s h,to<h->step k (s,h)=.inl s)
  (X:∀ k h,fr<=h->h<=to+1->p k ((hrs fr (h - 1)).flatMap G,h)):okI step p 4098 0 ([],fr)/\aj step 4098 0 ([],fr)=.inl ((hrs fr to).flatMap G):=by
 obtain⟨a,r,b,c⟩:=yw (step:=step) (p:=p) (λs=>(to+1 - s.2).toNat) (λs=>(fr<=s.2/\s.2<=to+1)/\s.1=(hrs fr (s.2 - 1)).flatMap G) (λr=>r=(hrs fr to).flatMap G) (λk s hJ=>by
  obtain⟨s,h⟩:=s;obtain⟨⟨O,W⟩,V⟩:=hJ;simp only at O W V;subst V;refine⟨X k h O W,?_⟩;by_cases Y:h<=to
  refine .inr ⟨_,hs k _ h O Y,?_⟩;simp only;rw[aA (by omega) (by omega)];refine⟨by omega,⟨by omega,by omega⟩,?_⟩;rw[show h+1 - 1=(h - 1)+1 by omega,Ny (by omega),ann,show h - 1+1=h by omega];simp;grind) 4098 0 ([],fr) ⟨⟨alJ _,E⟩,by rw[Y0 (by omega)];rfl⟩ (by omega)
 grind
theorem Cb{x:aoU}(E:aql d x)(V:0<=h)(h1:h<4096):(((decide (h<x.since)) ||(decide (h > x.to))) ||(decide ((Int.tmod (i64.wrap (h - x.since)) x.every)>=x.length)))= !Wn x h:=by
 have:=E.aqL;unfold Wn;by_cases O:x.since<=h
 rw[aA (by omega) (by omega),decide_eq_true O,decide_eq_false (show ¬h<x.since by omega)];grind
 grind
theorem Gx(l:List α)(d:α){k:Nat}(E:k<l.length):l.getD k d∈l:=by grind
theorem D2(O:j< (aD d l h k).1.length):((0<=((aD d l h k).1.getD j default).right/\((aD d l h k).1.getD j default).right< (d.ai.length:Int))/\(0<=h/\h<4096))/\aql d (d.ai.getD (Int.toNat ((aD d l h k).1.getD j default).right) default)/\(d.ai.getD (Int.toNat ((aD d l h k).1.getD j default).right) default).kind=1:=by
 obtain⟨a,⟨E,V⟩,c,e,f,g,i,m,n,o⟩:=Wo (Gx _ default O);have:=(jz (by rw[a];rfl)).hours;exact⟨⟨⟨c,e⟩,E,by omega⟩,P3 a (by omega) o,o⟩
theorem K7 (d:ah)(l:List bn)(h k:Int):fD d l h k=mg d l h k/\kH d l h k ((fD d l h k).map B7):=by
 have hstep:∀ j s,j< (aD d l h k).1.length->iM d l h k j s=.inr (s++(opn d h ((aD d l h k).1.getD j default)).toList):=λj s O=>by
  obtain⟨⟨⟨a,b⟩,c,e⟩,E,_⟩:=D2 O;unfold iM opn;rw[Cb E c e];grind
 have W:aj (iM d l h k) ((aD d l h k).1).length 0 []=.inr (mg d l h k):=by
  rw[Gw _ default (opn d h) [] hstep];rfl
 have e:fD d l h k=mg d l h k:=by unfold fD;rw[W]
 refine⟨e,(I_ d l h k).1,λ_=>⟨K6 _ default (opn d h) [] hstep λj O=>?_,λs X=>?_⟩⟩;obtain⟨⟨⟨a,b⟩,c,f⟩,E,_⟩:=D2 O;refine⟨⟨a,b⟩,λ_=>by have:=E.every;omega,λhc=>?_⟩;rw[Cb E c f]at hc;have V:opn d h ((aD d l h k).1.getD j default)=some { right:=((aD d l h k).1.getD j default).right,gl:=((aD d l h k).1.getD j default).gl,hour:=h,dd:=((aD d l h k).1.getD j default).dd,aoA:=((aD d l h k).1.getD j default).aoA}:=by
  simp_all [opn]
 rw[e,ak_,al1];unfold mg;grind [Zc]
 grind
def NN (d:ah)(f h r:Int):Bool:= !(qd d f r h)
def Ru (d:ah)(f:Int):List Int:=(ez d (d.zs.getD (Int.toNat f) default).reach).reverse
def K8 (d:ah)(f h:Int):Int:=((Ru d f).find? (NN d f h)).getD (-1)
def fnd (d:ah)(h:Int)(c:Claim):Y2:= { Q1:=c,reach:=K8 d c.gl h}
theorem Jd(E:aw d=0)(V:0<=f)(h1:f< (d.zs.length:Int)):apI d (d.zs.getD (Int.toNat f) default).reach:=by
 have O:=jz (by rw[E];rfl);have:=O.gl f.toNat (by omega);exact⟨E,this.1,this.2⟩
theorem P5(O:d.ai.length<=256)(l:List Int):(dM l (cK d h) c<0/\l.find? (NN d c.gl h)=none)\/∃ j:Nat,j<l.length/\dM l (cK d h) c=(j:Int)/\l.find? (NN d c.gl h)=some (l.getD j 0):=by
 have:=xv (step:=fP l (cK d h) c) l 0 (NN d c.gl h) (λk E=>by
  grind [fP,rV,NN,acV])
 unfold dM;grind
def zy (d:ah)(l:List bn)(k fr to:Int):List Y2:=(hrs fr to).flatMap λh=>(mg d l h k).map (fnd d h)
def rD (d:ah)(l:List bn)(k fr to:Int):List Y2:=(hrs fr to).flatMap λh=>(s6 d l h k).map (fnd d h)
theorem Zd(l:List bn)(k:Int)(s0:List Y2×Int)(hc:apY d s0.2 c)(s:List Y2):fU d l k s0 c s=.inr (s++[fnd d s0.2 c])/\((s.length+1)*48<=d8->ir d l k s0 c s):=by
 have V:=jz (by rw[hc.exp];rfl);have W:=Jd hc.exp hc.f0 hc.f1;have E:=Gf W;unfold fU ir;rw[E];simp only;rcases P5 (d:=d) (h:=s0.2) (c:=c) V.ai (ez d (d.zs.getD (Int.toNat c.gl) default).reach).reverse with⟨hi,O⟩ | ⟨j,Y,hi,O⟩;rw[decide_eq_false (show ¬_>=(0:Int) by omega)];refine⟨?_,λX=>⟨⟨hc.f0,hc.f1⟩,yT _ _,λh=>by grind,λ_=>by grind⟩⟩;simp only[cond_false,fnd,K8,Ru,O,Option.getD_none];rw[hi,decide_eq_true (show(j:Int)>=0 by omega)];refine⟨?_,λX=>⟨⟨hc.f0,hc.f1⟩,yT _ _,λ_=>⟨⟨by omega,by omega⟩,by grind⟩,λh=>by grind⟩⟩;simp only[cond_true,fnd,K8,Ru,O,anf,ak1]
theorem P6 {d:ah}(l:List bn)(k:Int)(s0:List Y2×Int):∀ (L:List Claim) (s:List Y2),(∀ c∈L,apY d s0.2 c)->cB (fU d l k s0) L s=.inr (s++L.map (fnd d s0.2))/\((s.length+L.length)*48<=d8->okL (fU d l k s0) (ir d l k s0) L s)
 | [],s,_=>⟨by simp[cB],λ_=>trivial⟩
 |c::L,s,h=>by
  obtain⟨h1,h2⟩:=Zd l k s0 (h c (by simp)) s;obtain⟨W,V⟩:=P6 l k s0 L (s++[fnd d s0.2 c]) λx O=>h x (by simp[O]);refine⟨?_,λE=>?_⟩;grind [cB]
  rw[ak5]at E;refine⟨h2 (by omega),λs' e=>?_⟩;grind
theorem Gy{fr to:Int}:(zy d l k fr to).length<=(to+1 - fr).toNat*(600*d.ai.length):=by
 unfold zy;have:=uZ (λh=>(mg d l h k).map (fnd d h)) (600*d.ai.length) (hrs fr to) λh _=>by rw[alY];exact(Jb d l h k).1
 rwa[Rl]at this
def Gz (d:ah)(l:List bn)(k fr to:Int):(zy d l k fr to).Perm (rD d l k fr to):=S0 λh _=>(zx d l h k).symm.map _
theorem K9 (d:ah)(l:List bn)(k fr to:Int):(rD d l k fr to).Pairwise λx y=>fI x y<0:=by
 unfold rD;refine Y4 (acY fr to) (λh _=>?_) λa _ b _ W x X y hy=>?_;rw[amS];exact(K5 d l h k).imp λ{x y} V=>(Gi _ _).2 V;obtain⟨Y,O,rfl⟩:=al3.1 X;obtain⟨y',E,rfl⟩:=al3.1 hy;have h1:=(AK O).hour;have h2:=(AK E).hour;refine(Gi _ _).2 ?_;simp_all [fnd,rZ,mD]
def s7 (d:ah)(fr to k:Int):Prop:=(0<=fr/\fr<=to/\to<d.hours)/\0<=k/\k<=1048576
instance (d:ah)(fr to k:Int):Decidable (s7 d fr to k):=by unfold s7;infer_instance
def wC (d:ah)(l:List bn)(fr to k:Int):Int:=if a_ d l≠0 then a_ d l else if ¬s7 d fr to k then 1 else if 4096< (to - fr+1)*(d.ai.length:Int)then 2 else 0
theorem Ws (d:ah)(fr to k:Int):(((((decide (fr<0)) ||(decide (fr > to))) ||(decide (to>=d.hours))) ||(decide (k<0))) ||(decide (k > 1048576)))= !decide (s7 d fr to k):=by
 rw[alZ,alm,decide_eq_false_iff_not];simp only[alx,decide_eq_true_eq];grind [s7]
theorem Wt{fr to:Int}(E:aoL d)(h:s7 d fr to k):i64.wrap ((i64.wrap ((i64.wrap (to - fr))+1))*(d.ai.length:Int))=(to - fr+1)*(d.ai.length:Int):=by
 obtain⟨⟨a,b,c⟩,e,f⟩:=h;have h1:=E.hours;have h2:=E.ai;rw[aA (n:=to - fr) (by omega) (by omega),aA (n:=to - fr+1) (by omega) (by omega)];have V:(to - fr+1)*(d.ai.length:Int)<=4096*256:=Int.mul_le_mul (by omega) (by omega) (by omega) (by omega);have O:0<=(to - fr+1)*(d.ai.length:Int):=amW (by omega) (by omega);exact aA (by omega) (by omega)
theorem rE{fr to:Int}(h:s7 d fr to k)(E:¬4096< (to - fr+1)*(d.ai.length:Int)){n:Nat}(hn:n<=(to+1 - fr).toNat*(600*d.ai.length)):n<=2457600:=by
 grind [Int.mul_comm]
theorem ac4 (d:ah)(l:List bn)(fr to k:Int):oZ d l fr to k/\ff d l fr to k=if wC d l fr to k=0 then(rD d l k fr to,0)else([],wC d l fr to k):=by
 unfold oZ ff wC;rw[Ws];by_cases hc:a_ d l=0
 rw[hc];simp only[bne_self_eq_false,cond_false,ne_eq,not_true,if_false];have hD:=sT hc;have hR:=hD.right;by_cases E:s7 d fr to k
 rw[Wt hR E,decide_eq_true E];simp only[alj,cond_false,not_true,if_false];by_cases O:4096< (to - fr+1)*(d.ai.length:Int)
 rw[decide_eq_true O,if_pos O];exact⟨⟨uV d l,λ_ _ _ h=>by cases h⟩,by grind⟩;rw[decide_eq_false O,if_neg O];simp only[cond_false,if_true];have W:=Rt (step:=jI d l to k) (p:=kI d l to k) fr to (λh=>(mg d l h k).map (fnd d h)) E.1.1 (by have:=E.1.2.2;have:=hR.hours;omega) (by have:=E.1.2.1;omega)
  (λj s h h1 h2=>by
   unfold jI;simp only;rw[decide_eq_true h2,(K7 d l h k).1];simp only[cond_true];rw[(P6 l k (s,h) (mg d l h k) s λc hc=>Gu hc).1])
  (λj s h h1=>by grind [jI])
  (λj h h1 h2=>by
   unfold kI;simp only;intro V;have V:h<=to:=of_decide_eq_true V;refine⟨(K7 d l h k).2,?_⟩;rw[(K7 d l h k).1];refine(P6 l k (_,h) (mg d l h k) _ λc hc=>Gu hc).2 ?_;have h3:((hrs fr (h - 1)).flatMap λh=>(mg d l h k).map (fnd d h)).length+(mg d l h k).length=(zy d l k fr h).length:=by
    unfold zy;have:=Ny (a:=fr) (b:=h - 1) (by omega);grind
   have h4:(zy d l k fr h).length<=(to+1 - fr).toNat*(600*d.ai.length):=ald Gy (alg _ (by omega));have h5:=rE E O h4;grind [d8])
 obtain⟨r1,r2⟩:=W;have hS:=zu I4 (Gz d l k fr to) (K9 d l k fr to);have Y:aj (jI d l to k) 4098 0 ([],fr)=.inl (zy d l k fr to):=r2;rw[Y];simp only;rw[hS.2];refine⟨⟨uV d l,λ_ _ _ _=>⟨r1,λz hz=>by grind,λx hx=>?_⟩⟩,by grind⟩;grind
 rw[decide_eq_false E,if_pos E];simp only[als,cond_true];exact⟨⟨uV d l,λ_ h=>by cases h⟩,rfl⟩;have X:(a_ d l !=0)=true:=by grind
 rw[X];simp only[cond_true,ne_eq,hc,not_false_eq_true,if_true,if_false];exact⟨⟨uV d l,λh=>by cases h⟩,trivial⟩
def ofF (x:Y2):Option Claim:=if x.reach<0 then some x.Q1 else none
def ofL (d:ah)(l:List bn)(k fr to:Int):List Claim:=(rD d l k fr to).filterMap ofF
def lim {α:Type}(e:Int)(l:List α):List α×Int:=if e=0 then(if 4096<l.length then([],2)else(l,0))else([],e)
theorem P7{fr to:Int}(h:wC d l fr to k=0):(rD d l k fr to).length<=2457600:=by
 rw[<-(Gz d l k fr to).length_eq];unfold wC at h;split at h
 omega;split at h
 cases h;rename_i h2;have h2:s7 d fr to k:=Classical.not_not.1 h2;split at h
 cases h;rename_i E;exact rE h2 E Gy
theorem GA (d:ah)(l:List bn)(fr to k:Int):ra d l fr to k/\aB d l fr to k=lim (wC d l fr to k) (ofL d l k fr to):=by
 obtain⟨h1,h2⟩:=ac4 d l fr to k;by_cases O:wC d l fr to k=0
 rw[if_pos O]at h2;have V:=P7 O;have hstep:∀ j s,j< (rD d l k fr to).length->o4 d l fr to k j s=.inr (s++(ofF ((rD d l k fr to).getD j default)).toList):=λj s W=>by
  unfold o4 ofF;grind
 refine⟨⟨h1,λ_ _=>?_⟩,?_⟩;rw[h2];refine K6 (rD d l k fr to) default ofF [] hstep λj W=>?_;intro _;grind [d8]
 unfold aB lim;have E:=Gw _ default ofF [] hstep;rw[h2];simp only[bne_self_eq_false,cond_false];rw[E,if_pos O,ak_];show(bif decide (((ofL d l k fr to).length:Int) > 4096)then([],2)else(ofL d l k fr to,0))=_;grind
 rw[if_neg O]at h2;have X:((ff d l fr to k).2 !=0)=true:=by grind
 refine⟨⟨h1,λh=>by grind⟩,?_⟩;unfold aB lim;grind
theorem Rv {α β γ:Type}(f:α->List β)(g:β->Option γ):∀ l:List α,(l.flatMap f).filterMap g=l.flatMap λa=>(f a).filterMap g
 | [] =>rfl
 |a::l=>by rw[alp,alp,anc,Rv f g l]
def ofH (d:ah)(l:List bn)(k h:Int):List Claim:=(s6 d l h k).filterMap λc=>if K8 d c.gl h<0 then some c else none
theorem ac5 (d:ah)(l:List bn)(k fr to:Int):ofL d l k fr to=(hrs fr to).flatMap (ofH d l k):=by
 unfold ofL rD;rw[Rv];congr 1
 funext h
 rw[List.filterMap_map];rfl
def o8 (x:Range)(most:Int):Bool:=(((decide (x.lo>=0))&&(decide (x.lo<=x.hi)))&&(decide (x.hi<=most)))
@[go_sem] def Cc:List SV->Option Con:=(pD .range λx=>(pI λmost=>(pE (.det True (.v (.bool (o8 x most)))))))
theorem AL:P1 Tryz.prog 148 Cc:=by
 have hG:=mG W2 W2;refine fN hG Tryz.f148 [.o] (az λx=>(aG λE=>(am (λO=>?_))));dsimp only[an]at O;refine⟨nbl rfl,L0,ag _,?_⟩;unfold ae Tryz.f148;try unfold o8
 exact zq2
def so (n:Int)(lo:Int)(hi:Int):Bool:=((decide (n>=lo))&&(decide (n<=hi)))
@[go_sem] def NO:List SV->Option Con:=(pI λn=>(pI λlo=>(pI λhi=>(pE (.det True (.v (.bool (so n lo hi))))))))
theorem AM:P1 Tryz.prog 150 NO:=by
 have hG:=mG W2 W2;refine fN hG Tryz.f150 [.o] (aG λn=>(aG λlo=>(aG λhi=>(am (λE=>?_)))));dsimp only[an]at E;refine⟨nbl rfl,L0,ag _,?_⟩;unfold ae Tryz.f150;try unfold so
 exact zq2
def o9 (a:W1):Bool:=(((aV a) ==0)&&(so a.n 0 a.d))
@[go_sem] def GB:List SV->Option Con:=(pD .ratio λa=>(pE (.det True (.v (.bool (o9 a))))))
theorem DH:P1 Tryz.prog 220 GB:=by
 have hG:=mG (cp AM (cp oE W2)) W2;refine fN hG Tryz.f220 [.o] (az λa=>(am (λE=>?_)));dsimp only[an]at E;refine⟨nbl rfl,L0,ag _,?_⟩;unfold ae Tryz.f220;try unfold o9
 exact zq2
def nv (a:W1×W1):Bool:=(bif((!(o9 a.1)) ||(!(o9 a.2)))then false else(((g9 a.1 a.2).2==0)&&(decide ((g9 a.1 a.2).1<=0))))
@[go_sem] def DI:List SV->Option Con:=(pD .ao9 λa=>(pE (.det True (.v (.bool (nv a))))))
theorem Cd:P1 Tryz.prog 149 DI:=by
 have hG:=mG (cp DH (cp As W2)) W2;refine fN hG Tryz.f149 [.o] (az λa=>(am (λE=>?_)));dsimp only[an]at E;refine⟨nbl rfl,L0,ag _,?_⟩;unfold ae Tryz.f149;try unfold nv
 exact zq2
def gL (r:Reach)(n:Int):Int:=(bif((!(o8 r.apd 1073741824)) ||(!(nv r.aoT)))then 210 else(bif(!(so n 0 1073741824))then 1 else 0))
@[go_sem] def GC:List SV->Option Con:=(pD .reach λr=>(pI λn=>(pE (.det True (.v (.int .i64 (gL r n)))))))
theorem wj:P1 Tryz.prog 92 GC:=by
 have hG:=mG (cp AL (cp Cd (cp AM W2))) W2;refine fN hG Tryz.f92 [.o] (az λr=>(aG λn=>(am (λE=>?_))));dsimp only[an]at E;refine⟨nbl rfl,L0,ag _,?_⟩;unfold ae Tryz.f92;try unfold gL
 exact zq2
def gW (r:Reach)(v:Int):Range:=letI q0:=i64.wrap (r.apd.hi+(eY r.aoT.2 v).2.1);letI q1:=i64.wrap (r.apd.lo+(eY r.aoT.1 v).1);(bif(v==0)then({ lo:=0,hi:=0}:Range)else({ lo:=(if q1<v then q1 else v),hi:=(if q0<v then q0 else v)}:Range))
@[go_sem] def H9:List SV->Option Con:=(pD .reach λr=>(pI λv=>(pE (.det True (.agg (cellsOf .range (gW r v)))))))
theorem xA:P1 Tryz.prog 93 H9:=by
 have hG:=mG (cp xj W2) W2;refine fN hG Tryz.f93 [.st .range] (az λr=>(aG λv=>(am (λE=>?_))));dsimp only[an]at E;refine⟨nbl rfl,L0,ag _,?_⟩;unfold ae Tryz.f93;try unfold gW
 exact zq2
def jD (r:Reach)(v:Int):Int×Int:=(bif((gL r v) !=0)then(0,(gL r v))else((i64.wrap (v - (gW r v).hi)),0))
@[go_sem] def GD:List SV->Option Con:=(pD .reach λr=>(pI λv=>(pE (.det True (.tup [.v (.int .i64 ((jD r v).1)),.v (.int .i64 ((jD r v).2))])))))
theorem wl:P1 Tryz.prog 52 GD:=by
 have hG:=mG (cp wj (cp xA W2)) W2;refine fN hG Tryz.f52 [.o,.o] (az λr=>(aG λv=>(am (λE=>?_))));dsimp only[an]at E;refine⟨nbl rfl,L0,ag _,?_⟩;unfold ae Tryz.f52;try unfold jD
 exact zq2
def qx (v:Int)(r:Reach):Int:=(i64.wrap (v - (gW r v).hi))
@[go_sem] def DJ:List SV->Option Con:=(pI λv=>(pX .reach λr=>(pE (.det True (.v (.int .i64 (qx v r)))))))
theorem Ce:P1 Tryz.prog 139 DJ:=by
 have hG:=mG (cp xA W2) W2;refine fN hG Tryz.f139 [.o] (aG λv=>(gu λr=>(am (λE=>?_))));dsimp only[an]at E;refine⟨nbl rfl,L0,ag _,?_⟩;unfold ae Tryz.f139;try unfold qx
 exact zq2
def fF (v:Int)(r:Reach)(w:Int):Bool:=(decide ((qx v r) > w))
@[go_sem] def Cf:List SV->Option Con:=(pI λv=>(pXF 139 (pX .reach λr=>(pE ((pX .int λw=>(pE (.det True (.v (.bool (fF v r w)))))))))))
theorem AN:P1 Tryz.prog 210 Cf:=by
 have hG:=mG (cp Ce W2) W2;refine fN hG Tryz.f210 [.o] (aG λv=>(An (gu λr=>(am ((gu λw=>(am (λE=>?_))))))));dsimp only[an]at E;refine⟨nbl rfl,L0,ag _,?_⟩;unfold ae Tryz.f210;try unfold fF
 exact zq2
@[go_sem] def j_ (r:Reach)(w:Int)(k_0:Nat)(x4:Int×Int):Int⊕(Int×Int):=letI q0:=i64.wrap (mu .u64 (u64.wrap (i64.wrap (x4.1+x4.2))) 1);(bif(decide (x4.1<x4.2))then(bif(!(fF q0 r w))then .inr ((i64.wrap (q0+1)),x4.2)else .inr (x4.1,q0))else .inl x4.1)
def tZ (n:Int)(r:Reach)(w:Int):Int:=(match aj (j_ r w) 64 0 (0,n)with| .inl u0=>u0| .inr x4=>default)
def qy (n:Int)(r:Reach)(w:Int):Prop:=(∀ z_,aj (j_ r w) 64 0 (0,n)≠ .inr z_)
@[go_sem] def H_:List SV->Option Con:=(pI λn=>(pFn 210 (pXF 139 (pX .reach λr=>(pE ((pX .int λw=>(pE ((pE (.det (qy n r w) (.v (.int .i64 (tZ n r w))))))))))))))
theorem GF:P1 Tryz.prog 209 H_:=by
 have hG:=mG (cp AN W2) W2;refine fN hG Tryz.f209 [.o] (aG λn=>(oC (An (gu λr=>(am ((gu λw=>(am ((am (λW=>?_)))))))))));dsimp only[an]at W;unfold qy at W;refine⟨nbl rfl,(λid st=>bif Nat.beq id 0 then some (LCV (ρ:=Int) (σ:=(Int×Int)) 0 [] [] (λV O=>⟨[(1,.fn 210 [] [.ep [.fn 139 [] [.ep (cellsOf .reach r) 0]] 0,.ep [.v (.int .i64 w)] 0]),(5,.v (.int .i64 O.1)),(6,.v (.int .i64 O.2))],[]⟩) (j_ r w) pT 64 (0,n) (λ_=>.normal) (λE=>⟨[(5,.v (.int .i64 E))],[]⟩) st)else none),?_,?_⟩;unfold ae Tryz.f209;simp only[ak,true_and,and_true];refine eW mixed aJ hG kr (λ_=>rfl) λV O _=>⟨L0,ag _,?_⟩;exact db (jl []);unfold ae Tryz.f209;try unfold tZ
 exact zq2
def fJ (w:Int)(r:Reach):Int:=(tZ 1073741825 r w)
def ta (w:Int)(r:Reach):Prop:=(qy 1073741825 r w)
@[go_sem] def GG:List SV->Option Con:=(pI λw=>(pFn 139 (pX .reach λr=>(pE ((pE (.det (ta w r) (.v (.int .i64 (fJ w r))))))))))
theorem DK:P1 Tryz.prog 138 GG:=by
 have hG:=mG (cp GF W2) W2;refine fN hG Tryz.f138 [.o] (aG λw=>(oC (gu λr=>(am ((am (λE=>?_)))))));dsimp only[an]at E;unfold ta at E;refine⟨nbl rfl,L0,ag _,?_⟩;unfold ae Tryz.f138;try unfold fJ
 exact zq2
def fO (r:Reach)(w:Int):Int×Bool×Int:=(bif((gL r w) !=0)then(0,false,(gL r w))else(bif(decide ((fJ (i64.wrap (w - 1)) r) > 1073741824))then(0,false,0)else((fJ (i64.wrap (w - 1)) r),true,0)))
def kV (r:Reach)(w:Int):Prop:=(((gL r w) !=0)=false->(ta (i64.wrap (w - 1)) r))
@[go_sem] def yV:List SV->Option Con:=(pD .reach λr=>(pI λw=>(pE (.det (kV r w) (.tup [.v (.int .i64 ((fO r w).1)),.v (.bool ((fO r w).2.1)),.v (.int .i64 ((fO r w).2.2))])))))
theorem td:P1 Tryz.prog 84 yV:=by
 have hG:=mG (cp wj (cp DK W2)) W2;refine fN hG Tryz.f84 [.o,.o,.o] (az λr=>(aG λw=>(am (λE=>?_))));dsimp only[an]at E;unfold kV at E;refine⟨nbl rfl,L0,ag _,?_⟩;unfold ae Tryz.f84;try unfold fO
 exact zq2
def ax (x:Reach)(w:Int):Int×Bool:=(bif((w==0) ||(decide (w > 1073741824)))then(0,(w==0))else(bif(!(fO x w).2.1)then(0,false)else((if(fO x w).1<x.aoI then x.aoI else(fO x w).1),true)))
def mI (x:Reach)(w:Int):Prop:=(((w==0) ||(decide (w > 1073741824)))=false->(kV x w))
@[go_sem] def Cg:List SV->Option Con:=(pD .reach λx=>(pI λw=>(pE (.det (mI x w) (.tup [.v (.int .i64 ((ax x w).1)),.v (.bool ((ax x w).2))])))))
theorem AO:P1 Tryz.prog 170 Cg:=by
 have hG:=mG (cp td W2) W2;refine fN hG Tryz.f170 [.o,.o] (az λx=>(aG λw=>(am (λE=>?_))));dsimp only[an]at E;unfold mI at E;refine⟨nbl rfl,L0,ag _,?_⟩;unfold ae Tryz.f170;try unfold ax
 exact zq2
abbrev mV:SV:=.ls 1 [.fn 248 [] [],.fn 249 [] [],.fn 250 [] []]
open Classical in
noncomputable def r6:List SV->Option Con:=λl=>if l=[mV]then some (.det True (.fn 298 [] [.ep [mV] 0]))else none
theorem Ia:P1 Tryz.prog 247 r6:=by
 have hG:aot Tryz.prog (mkG [] []):=oA (by simp) (by simp);refine By [.o] mixed aJ hG (fn:=Tryz.f247) (c:=ae Tryz.f247) kr kr kr kr λl E h V=>?_;unfold r6 at h;split at h
 rename_i O;subst O;cases h;refine⟨nbl rfl,L0,by simp_all [ae,Tryz.f247,ak],?_⟩;unfold ae Tryz.f247;simp only[go_sem,mV,true_imp_iff,Nat.reduceBEq,Nat.reduceLeDiff,Nat.reduceAdd,Nat.reduceSub,Nat.reduceMul,true_and,and_true,implies_true,alt,alM];rfl;cases h
def ga:List SV->Option Con:=pE (.det True (.fn 298 [] [.ep [mV] 0]))
theorem tf:P1 Tryz.prog 172 ga:=by
 have hG:aot Tryz.prog (mkG [(247,r6)] []):=oA (by
  intro x E;simp only[ala,alV,or_false]at E;rcases E with rfl;exact Ia) (by simp)
 refine By [.o] mixed aJ hG (fn:=Tryz.f172) (c:=ae Tryz.f172) kr kr kr kr λl O h V=>?_;unfold ga at h;obtain⟨rfl,rfl⟩:=w8 h;refine⟨nbl rfl,L0,by simp_all [ae,Tryz.f172,ak],?_⟩;unfold ae Tryz.f172;simp only[go_sem,r6,mV,true_imp_iff,Nat.reduceBEq,Nat.reduceLeDiff,Nat.reduceAdd,Nat.reduceSub,Nat.reduceMul,true_and,and_true,implies_true,alt,alM,if_true];rfl
def tg (k:Nat)(x:Order):Int:=match k with|0=>oF x|1=>sN x|_=>oG x
def ya (a b:Order):Nat->Unit->Int⊕Unit:=λk _=>bif(bj (tg k a) (tg k b) !=0)then .inl (bj (tg k a) (tg k b))else .inr ()
def aL (a b:Order):Int:=match aj (ya a b) 3 0 ()with| .inl x=>x| .inr _=>0
open Classical in
noncomputable def mh:List SV->Option Con:=pD .order λa=>pD .order λb=>λl=>if l=[.ep [mV] 0]then some (.det True (.i (aL a b)))else none
theorem wn:P1 Tryz.prog 298 mh:=by
 have hG:aot Tryz.prog (mkG [(82,oD),(248,mO),(249,pH),(250,mP)] []):=oA (by
  intro x hx;simp only[ala,alV,or_false]at hx;rcases hx with rfl|rfl|rfl|rfl;exact eX;exact xf;exact Au;exact xg) (by simp)
 refine By [.o] mixed aJ hG (fn:=Tryz.f298) (c:=ae Tryz.f298) kr kr kr kr λl con h hp=>?_;unfold mh at h;obtain⟨a,l0,rfl,h0⟩:=Kh h;obtain⟨b,l1,rfl,h1⟩:=Kh h0;split at h1
 rotate_left
 cases h1;rename_i hl;subst hl;cases h1;clear h h0;obtain⟨V,W,O,E⟩:=a;obtain⟨bh,Y,bl,X⟩:=b;refine⟨nbl rfl,(λid st=>bif Nat.beq id 0 then some (LC (ρ:=Int) (σ:=Unit) (lk 3 st.t=.ptr 0 0/\lk 4 st.t=.ptr 1 0/\lk 9 st.t=mV/\lk 10 st.t=.i 3/\lk 11 st.t=.i 0/\st.h=[.cells (cellsOf .order ⟨V,W,O,E⟩),.cells (cellsOf .order ⟨bh,Y,bl,X⟩)]) (aj (ya ⟨V,W,O,E⟩ ⟨bh,Y,bl,X⟩) 3 0 ()) (λ_=>.ret) (λx=>⟨[(5,.i x)],[.dead,.dead]⟩) (λ_=>⟨[],[.dead,.dead]⟩))else none),?_,?_⟩
 ·unfold ae Tryz.f298;simp only[ak,true_and,and_true];refine IR mixed aJ hG kr λst lc hC hp=>?_;simp only[go_sem,Nat.reduceBEq,ak3]at hC;subst hC;obtain⟨t,h⟩:=st;dsimp only[LC]at hp;obtain⟨e1,e2,e3,e4,e5,rfl⟩:=hp;refine⟨_,_,_,ya ⟨V,W,O,E⟩ ⟨bh,Y,bl,X⟩,λ_ _=>True,3,(),_,_,_,(λk _=>⟨[(3,.ptr 0 0),(4,.ptr 1 0),(9,mV),(10,.i 3),(11,.i (k:Int))],[.cells (cellsOf .order ⟨V,W,O,E⟩),.cells (cellsOf .order ⟨bh,Y,bl,X⟩)]⟩),[0,1],rfl,g8 _ _ _ λ_ _ _ _=>trivial,ak2 _,?_,λk s hk hpk=>⟨L0,?_,?_⟩⟩;simp only[go_sem,e1,e2,e3,e4,e5,mV,Nat.reduceBEq,Nat.reduceLeDiff,Nat.reduceAdd,true_and,and_true];grind
  simp only[ak,and_self,true_and,and_true]
  ·have hk4:k=0\/k=1\/k=2\/k=3:=by omega
   have hw0:i64.wrap ((0:Int)+1)=((0+1:Nat):Int):=by decide
   have hw1:i64.wrap ((1:Int)+1)=((1+1:Nat):Int):=by decide
   have hw2:i64.wrap ((2:Int)+1)=((2+1:Nat):Int):=by decide
   rcases hk4 with rfl|rfl|rfl|rfl;all_goals
    simp only[go_sem,oD,mO,pH,mP,mV,ya,tg,true_imp_iff,false_imp_iff,ak7,ak1,amU,Nat.reduceBEq,Nat.reduceLeDiff,Nat.reduceAdd,Nat.reduceSub,Nat.reduceMul,Nat.reduceLT,Int.reduceLE,Int.reduceLT,Int.reduceToNat,Int.reduceNeg,true_and,and_true,and_self,implies_true,forall_const,reduceCtorEq,aog]
   all_goals (first|done|(repeat' (first|with_reducible refine And.intro ?_ ?_|((with_reducible show _≠_);first|assumption|omega|(simp_all;done) |grind) |with_reducible intro _)) <;>(first|done|assumption|rfl|omega|decide|(simp only[*,cond_true,cond_false,go_sem,true_imp_iff,false_imp_iff,ak7,ak1,amU,Nat.reduceBEq,Nat.reduceLeDiff,Nat.reduceAdd,Nat.reduceSub,Nat.reduceMul,Int.reduceLE,Int.reduceLT,Int.reduceToNat,Int.reduceNeg,true_and,and_true,and_self,implies_true,forall_const,reduceCtorEq];done) |(simp only[*,cond_true,cond_false,go_sem,true_imp_iff,false_imp_iff,ak7,ak1,amU,Nat.reduceBEq,Nat.reduceLeDiff,Nat.reduceAdd,Nat.reduceSub,Nat.reduceMul,Int.reduceLE,Int.reduceLT,Int.reduceToNat,Int.reduceNeg,true_and,and_true,and_self,implies_true,forall_const,reduceCtorEq];(repeat' (first|with_reducible refine And.intro ?_ ?_|((with_reducible show _≠_);first|assumption|omega|(simp_all;done) |grind) |with_reducible intro _)) <;>(first|done|assumption|rfl|omega|decide))))
   all_goals trace_state
 unfold ae Tryz.f298;unfold aL;simp only[go_sem,mV,true_imp_iff,false_imp_iff,ak7,Nat.reduceBEq,Nat.reduceLeDiff,Nat.reduceAdd,Nat.reduceSub,Nat.reduceMul,true_and,and_true,implies_true,sz,alt,alM];grind
attribute [go_sem] ga mh
@[go_sem] def iN (a0:ah)(a1:List Order)(k_0:Nat)(x4:Unit):Unit⊕Unit:=letI q0:=a1.getD k_0 default;letI q1:=(decide ((k_0:Int) > 0))&&(decide ((aL (a1.getD (Int.toNat (i64.wrap ((k_0:Int) - 1))) default) q0)>=0));letI q2:=decide (q0.dd > 1073741824);letI q3:=decide (q0.hour>=a0.hours);letI q4:=decide (q0.dd<1);letI q5:=decide (q0.index<0);letI q6:=decide (q0.hour<0);(bif q0.aol then(bif((((((q6||q3) ||q5) ||(decide (q0.index>=(a0.zs.length:Int)))) ||q4) ||q2) ||q1)then .inl ()else .inr ())else(bif((((((q6||q3) ||q5) ||(decide (q0.index>=(a0.reaches.length:Int)))) ||q4) ||q2) ||q1)then .inl ()else .inr ()))
def ku (a0:ah)(a1:List Order)(k_0:Nat)(x4:Unit):Prop:=letI q0:=a1.getD k_0 default;letI q2:=i64.wrap ((k_0:Int) - 1);letI q1:=(decide ((k_0:Int) > 0))=true->(0<=q2/\q2< (a1.length:Int));letI q3:=decide (q0.dd > 1073741824);letI q4:=decide (q0.hour>=a0.hours);letI q5:=decide (q0.dd<1);letI q6:=decide (q0.index<0);letI q7:=decide (q0.hour<0);(a0.reaches.length<=aN->((q0.aol=true->(a0.zs.length<=aN->((((((q7||q4) ||q6) ||(decide (q0.index>=(a0.zs.length:Int)))) ||q5) ||q3)=false->q1)))/\(q0.aol=false->((((((q7||q4) ||q6) ||(decide (q0.index>=(a0.reaches.length:Int)))) ||q5) ||q3)=false->q1))))
def eA (a0:ah)(a1:List Order):Int:=(bif((aw a0) !=0)then(aw a0)else(bif(decide ((a1.length:Int) > 4096))then 2 else(match aj (iN a0 a1) a1.length 0 ()with| .inl u0=>220| .inr x4=>0)))
def nN (a0:ah)(a1:List Order):Prop:=(((aw a0) !=0)=false->(a1.length<=aN->((decide ((a1.length:Int) > 4096))=false->(a1.length<=aN->okI (iN a0 a1) (ku a0 a1) a1.length 0 ()))))
@[go_sem] def DL:List SV->Option Con:=(pD .al λa0=>(pR .order λa1=>(pE (.det (nN a0 a1) (.v (.int .i64 (eA a0 a1)))))))
theorem ahH {p:Prop}(h:p:=by simp only[go_sem,ga,mh,if_true];all_goals exact cl):p:=h
theorem Ch:P1 Tryz.prog 177 DL:=by
 have hG:=mG (cn [.st .al] nI (cp tf (cp wn W2))) W2;refine fN hG Tryz.f177 [.o] (az λa0=>(bM λa1=>(am (λX=>?_))));dsimp only[an]at X;unfold nN at X;refine⟨nbl rfl,(λid st=>bif Nat.beq id 0 then some (LCR (ρ:=Unit) (σ:=Unit) 1 [] [0] (λE V=>⟨[(1,.rs .order a1),(2,.ptr 0 0),(5,.fn 298 [] [.ep [.ls 1 [.fn 248 [] [],.fn 249 [] [],.fn 250 [] []]] 0]),(18,.rs .order a1),(19,.v (.int .i64 (a1.length:Int))),(20,.v (.int .i64 (E:Int)))],[.cells (cellsOf .al a0)]⟩) (iN a0 a1) (ku a0 a1) a1.length () (a1.length<=aN) (λ_=>.ret) (λW=>⟨[(4,.v (.int .i64 220))],[.dead]⟩) st)else none),?_,?_⟩;unfold ae Tryz.f177;simp only[ak,true_and,and_true];refine b_ mixed aJ hG kr (λ_=>rfl) (a1.length:Int) rfl fH (λhb0 E V Y O hw hc=>⟨L0,ag _,?_⟩) (λhb0 V hc=>?_);unfold ku at O;try simp only[hw,ak1]at O
 exact bE (jl [0]);exact bF (jl [0]);unfold ae Tryz.f177;try unfold eA
 exact ahH
def dX (d:ah)(l_:List Order):Int:=(bif(((eA d l_) ==0)&&(decide ((i64.wrap ((d.reaches.length:Int)*d.hours)) > 1024)))then 2 else(eA d l_))
def mJ (d:ah)(l_:List Order):Prop:=(nN d l_)
@[go_sem] def Ci:List SV->Option Con:=(pD .al λd=>(pR .order λl_=>(pE (.det (mJ d l_) (.v (.int .i64 (dX d l_)))))))
theorem AP:P1 Tryz.prog 167 Ci:=by
 have hG:=mG (cn [.st .al,.sl .order] Ch W2) W2;refine fN hG Tryz.f167 [.o] (az λd=>(bM λO=>(am (λE=>?_))));dsimp only[an]at E;unfold mJ at E;refine⟨nbl rfl,L0,ag _,?_⟩;unfold ae Tryz.f167;try unfold dX
 exact zq2
def AQ (a:Order):Int:=bif a.aol then 1 else 0
def olt (a b:Order):Prop:=a.hour<b.hour\/a.hour=b.hour/\(AQ a<AQ b\/AQ a=AQ b/\a.index<b.index)
theorem Je {a b:Order}(h:aL a b<0):olt a b:=by
 unfold aL at h;unfold olt;have O:∀ x,tg 0 x=x.hour:=λ_=>rfl;have E:∀ x,tg 1 x=AQ x:=λ_=>rfl;have k2:∀ x,tg 2 x=x.index:=λ_=>rfl;simp only[aj,ya,ak8,Nat.reduceAdd,O,E,k2,jy]at h;grind
theorem Jf {a b c:Order}(h1:olt a b)(h2:olt b c):olt a c:=by
 grind [olt]
theorem NP (a b:Order):aL a b<0↔olt a b:=by
 refine⟨Je,λh=>?_⟩;unfold aL;have O:∀ x,tg 0 x=x.hour:=λ_=>rfl;have E:∀ x,tg 1 x=AQ x:=λ_=>rfl;have k2:∀ x,tg 2 x=x.index:=λ_=>rfl;simp only[aj,ya,ak8,Nat.reduceAdd,O,E,k2,jy];grind [olt]
open Go.Shelf Go.Sort in
theorem vV:SWO (ltOf aL):=by
 have e:∀ x y,ltOf aL x y=true↔olt x y:=λx y=>by unfold ltOf;rw[decide_eq_true_eq,NP]
 have e':∀ x y,ltOf aL x y=false↔¬olt x y:=λx y=>by grind
 refine⟨λx=>(e' x x).2 (by unfold olt;omega),λx y z h1 h2=>(e x z).2 (Jf ((e x y).1 h1) ((e y z).1 h2)),λx y z h1 h2=>(e' x z).2 ?_⟩;grind [olt]
structure ap9 (d:ah)(x:Order):Prop where
 aqE:0<=x.hour
 hour:x.hour<d.hours
 ap2:0<=x.index
 gl:x.aol=true->x.index< (d.zs.length:Int)
 reach:x.aol=false->x.index< (d.reaches.length:Int)
 apX:1<=x.dd
 dd:x.dd<=1073741824
theorem P8 (d:ah)(l:List Order):nN d l:=λ_ h1 _ _=>g8 _ _ _ λj s h2 E=>by
 unfold aN at h1;unfold ku;have e:decide ((j:Int) > 0)=true->(0<=i64.wrap ((j:Int) - 1)/\i64.wrap ((j:Int) - 1) < (l.length:Int)):=λh=>by
  simp only[decide_eq_true_eq]at h;grind [od]
 grind
structure aoR (d:ah)(l:List Order):Prop where
 right:aoL d
 len:l.length<=4096
 one:∀ k,k<l.length->ap9 d (l.getD k default)
 asc:∀ k,k+1<l.length->aL (l.getD k default) (l.getD (k+1) default) <0
variable {d:ah}{l:List Order}
theorem GH(h:(eA d l !=0)=false):aoR d l:=by
 have h:eA d l=0:=by simpa using h
 unfold eA at h;cases h1:aw d !=0 with
 |true=>grind
 |false=>
  rw[h1]at h;simp only[cond_false]at h;cases h2:decide ((l.length:Int) > 4096)with
  |true=>grind
  |false=>
   rw[h2]at h;simp only[cond_false]at h;have W:l.length<=4096:=by grind
   split at h
   cases h;rename_i s V;have key:∀ k,k<l.length->ap9 d (l.getD k default)/\(0<k->aL (l.getD (k - 1) default) (l.getD k default) <0):=by
    intro k E;have:=mE V k (by omega) (by omega);have X:((k:Int) > 0)->(i64.wrap ((k:Int) - 1)).toNat=k - 1:=λh=>by
     grind [od]
    unfold iN at this;generalize Y:l.getD k default=x at this |-;cases O:x.aol with
    |true=>
     rw[O]at this;simp only[cond_true]at this;rw[amf]at this;split at this
     cases this;rename_i hc;simp only[amH,alC,al7,decide_eq_false_iff_not]at hc;refine⟨⟨by omega,by omega,by omega,λ_=>by omega,λh=>by grind,by omega,by omega⟩,λhk0=>?_⟩;grind
    |false=>
     rw[O]at this;simp only[cond_false]at this;rw[amf]at this;split at this
     cases this;rename_i hc;simp only[amH,alC,al7,decide_eq_false_iff_not]at hc;refine⟨⟨by omega,by omega,by omega,λh=>by grind,λ_=>by omega,by omega,by omega⟩,λhk0=>?_⟩;grind
   exact⟨jz h1,W,λk E=>(key k E).1,λk E=>(key (k+1) E).2 (by omega)⟩
structure aqA (i:Int)(x:Reach):Prop where
 up:x.up<i
 aqv:1<=x.delay
 delay:x.delay<=16
 arn:0<=x.aoI
 aoI:x.aoI<=x.cap
 cap:x.cap<=1073741824
 ao7:x.aoI<=x.ao7
 arZ:x.ao7<=1099511627776
theorem Jg {i:Int}{x:Reach}(hi:0<=i)(h:dy i x=true):aqA i x:=by
 unfold dy at h;cases hd:decide (i > 0)with
 |true=>
  rw[hd]at h;simp only[cond_true,akZ,cJ,decide_eq_true_eq]at h hd;obtain⟨⟨⟨⟨⟨V,h1⟩,h2⟩,E⟩,O⟩,W⟩:=h;have:=vL h1;have:=qo h2;have:=qo E;constructor <;>omega
 |false=>
  rw[hd]at h;simp only[cond_false,akZ,beq_iff_eq,decide_eq_false_iff_not]at h hd;obtain⟨⟨⟨⟨⟨V,h1⟩,h2⟩,E⟩,O⟩,W⟩:=h;have:=vL h1;have:=qo h2;have:=qo E;constructor <;>omega
theorem aoL.ap4(h:aoL d){k:Nat}(E:k<d.reaches.length):aqA k (d.reaches.getD k default):=Jg (by omega) (h.reach k E)
theorem yW (d:ah)(l:List Order):eA d l=0↔aw d=0/\l.length<=4096/\∀ k,k<l.length->iN d l k ()=.inr ():=by
 unfold eA;cases h1:(aw d !=0)with
 |true=>grind
 |false=>
  simp at h1;simp only[cond_false,h1,true_and];grind [gT]
theorem aoR.lt(h:aoR d l):∀ (k j:Nat),j<k->k<l.length->olt (l.getD j default) (l.getD k default)
 |k+1,j,h1,h2=>by
  have E:=Je (h.asc k (by omega));by_cases e:j=k
  grind
  exact Jf (h.lt k j (by omega) (by omega)) E
def eB (p:Order->Bool):List Order->Int
 | [] =>0|x::r=>(bif p x then x.dd else 0)+eB p r
theorem xB (p:Order->Bool)(a b:List Order):eB p (a++b)=eB p a+eB p b:=by
 induction a with
 |nil=>simp[eB]|cons x r E=>grind [eB]
variable {p:Order->Bool}
theorem zz(h:∀ x∈l,1<=x.dd/\x.dd<=1073741824):0<=eB p l/\eB p l<=l.length*1073741824:=by
 induction l with
 |nil=>simp[eB]
 |cons x r O=>
  have h1:=O λa E=>h a (ak6 _ E);have h2:=h x alc;simp only[eB,ak5];grind
theorem u4(h:∀ x∈l,p x=false):eB p l=0:=by
 induction l with
 |nil=>rfl
 |cons x r E=>
  grind [eB]
variable {q:Order->Bool}
theorem P9(h:∀ x∈l,p x=q x):eB p l=eB q l:=by
 induction l with
 |nil=>rfl
 |cons x r E=>
  grind [eB]
theorem Wu{r:Order->Bool}(h:∀ x∈l,(r x=(p x||q x))/\(p x&&q x)=false):eB p l+eB q l=eB r l:=by
 induction l with
 |nil=>rfl
 |cons x t E=>
  simp only[eB];grind
variable {j:Nat}
theorem ahI(O:j<l.length)(h:p l[j]=true)(hn:∀ i (hi:i<l.length),i≠j->p l[i]=false):eB p l=l[j].dd:=by
 have e:l=l.take j++l[j]::l.drop (j+1):=by simp_all
 conv=>lhs;rw[e,xB]
 rw[u4 λx E=>?_];simp only[eB,h,cond_true];rw[u4 λx E=>?_];omega;obtain⟨i,hi,rfl⟩:=alI E;grind
 obtain⟨i,hi,rfl⟩:=alI E;grind
theorem aoR.lit(h:aoR d l):∀ x∈l,1<=x.dd/\x.dd<=1073741824:=λx O=>by
 obtain⟨k,E,rfl⟩:=alI O;have:=h.one k E;rw[iC _ _ E]at this;exact⟨this.apX,this.dd⟩
theorem aoR.uniq(h:aoR d l){i:Nat}(hi:i<l.length)(hj:j<l.length)(V:l[i].hour=l[j].hour)(Y:l[i].index=l[j].index)(X:l[i].aol=l[j].aol):i=j:=by
 have key:∀ a b (W:a<l.length) (O:b<l.length),a<b->l[a].hour=l[b].hour->l[a].index=l[b].index->l[a].aol=l[b].aol->False:=λa b W O E V Y X=>by
  have:=h.lt b a E O;grind [olt,AQ]
 grind
theorem yb(E:j<l.length):eB p (l.take (j+1))=eB p (l.take j)+(bif p l[j]then l[j].dd else 0):=by
 rw[alF E,xB];simp[eB]
theorem zA {κ υ:Type}[DecidableEq κ]:∀ (l:List (κ×υ)) (x:κ) (y:υ),(tx l x y).map Prod.fst=if x∈l.map Prod.fst then l.map Prod.fst else l.map Prod.fst++[x]
 | [],x,y=>by simp[tx]
 |(a,b)::r,x,y=>by
  unfold tx;by_cases h:x=a
  subst h;simp;rw[if_neg h,alt,zA r x y];grind
theorem NQ {κ υ:Type}[DecidableEq κ]:∀ (l:List (κ×υ)) (e:κ×υ),(l.map Prod.fst).Nodup->e∈l->iy l e.1=some e.2
 |(a,b)::r,e,hn,he=>by
  simp only[alt,alH]at hn;unfold iy;rcases ala.1 he with rfl|he;simp;have:e.1≠a:=λh=>hn.1 (h▸amF he);rw[if_neg this];exact NQ r e hn.2 he
theorem Cj {α:Type}(l:List α)(d:α){k:Nat}(h:k<l.length):l.getD k d∈l:=by
 grind
theorem NR {n d:Int}(hd:1<=d)(V:d<=1073741824)(h1: -1152921504606846976<=n)(h2:n<=1152921504606846976):lL n d=n / d:=by
 unfold lL;have E:Int.tmod (Int.tmod n d+d) d=n % d:=by
  have a1: -d<Int.tmod n d:=am7 n (by omega);rw[amj (by omega),aod];rw[anO];split
  simp_all;have:n % d - (d.natAbs:Int)=n % d+d*(-1):=by omega
  simp_all
 have a1: -d<Int.tmod n d:=am7 n (by omega);have X:Int.tmod n d<d:=aoe n (by omega);rw[aA (by omega: -9223372036854775808<=Int.tmod n d+d) (by omega),E];have W:=am3 n (by omega:d≠0);have Y:=amK n (by omega:0<d);rw[aA (by omega: -9223372036854775808<=n - n % d) (by omega)];have O:n - n % d=d*(n / d):=by have:=amP n d;omega
 rw[O,anD _ (by omega)];have c1:n / d<=1152921504606846976:=by
  have:=amI (by omega:0<d) h2;have:=anh (b:=d) (by omega:(0:Int)<=1152921504606846976);omega
 have c2: -1152921504606846976<=n / d:=by
  rw[amr (by omega)];omega
 exact aA (by omega) (by omega)
structure Rat (a:W1):Prop where
 d1:1<=a.d
 d:a.d<=1073741824
 n0: -1073741824<=a.n
 n:a.n<=1073741824
theorem Wv {a:W1}(h:aV a=0):Rat a:=by
 unfold aV at h;rw[amf]at h;split at h
 cases h;rename_i h1;simp only[alx,decide_eq_true_eq,not_or]at h1;constructor <;>omega
theorem zB {i:Int}{x:Reach}(h:dy i x=true):jt x.aoT=true/\0<=x.apd.lo/\x.apd.lo<=x.apd.hi/\x.apd.hi<=1073741824:=by
 unfold dy at h;cases hd:decide (i > 0) <;>rw[hd]at h <;>simp only[cond_true,cond_false,akZ]at h;all_goals
  have E:=qo h.1.2;exact⟨h.2,E.1,E.2.1,E.2.2⟩
theorem Ww {a b:Int}(E: -1073741824<=a)(h1:a<=1073741824)(h2:0<=b)(V:b<=1073741824): -1152921504606846976<=a*b/\a*b<=1152921504606846976:=by
 have O:=alK E h2;have W:=alK h1 h2;omega
structure ara (x:W1×W1):Prop where
 r1:Rat x.1
 r2:Rat x.2
 c1:aV x.1=0
 c2:aV x.2=0
 cmp:g9 x.1 x.2=((g9 x.1 x.2).1,0)/\(g9 x.1 x.2).1<=0
 le:x.1.n*x.2.d<=x.2.n*x.1.d
 n1:0<=x.1.n
 n2:x.2.n<=x.2.d
 m1:x.1.n<=x.1.d
 m2:0<=x.2.n
variable {x:W1×W1}
theorem K_(h:jt x=true):ara x:=by
 unfold jt at h;simp only[akZ,beq_iff_eq,decide_eq_true_eq]at h;obtain⟨⟨⟨h1,h2⟩,V⟩,Y⟩:=h;have hc:aV x.1=0/\aV x.2=0:=by
  unfold g9 at h1;grind
 have E:=Wv hc.1;have O:=Wv hc.2;have b1:=Ww E.n0 E.n (by have:=O.d1;omega) O.d;have b2:=Ww O.n0 O.n (by have:=E.d1;omega) E.d;have X:x.1.n*x.2.d<=x.2.n*x.1.d:=by
  unfold g9 at V;rw[hc.1,hc.2]at V;simp only[bne_self_eq_false,Bool.or_self,cond_false]at V;grind [aA,jy]
 have e1:=E.d1;have e2:=O.d1;have m1:x.1.n<=x.1.d:=by
  have:=alK Y (by omega:0<=x.1.d);have W:x.1.n*x.2.d<=x.1.d*x.2.d:=by grind
  exact amX W (by omega)
 have m2:0<=x.2.n:=by
  have:=amW h2 (by omega:0<=x.2.d);have W:0*x.1.d<=x.2.n*x.1.d:=by omega
  exact amX W (by omega)
 exact⟨E,O,hc.1,hc.2,⟨by rw[<-h1],V⟩,X,h2,Y,m1,m2⟩
theorem Tc(h:ara x):nv x=true:=by
 unfold nv o9 so;have:=h.n1;have:=h.n2;have:=h.m1;have:=h.m2;rw[h.c1,h.c2,decide_eq_true (by omega:x.1.n>=0),decide_eq_true (by omega:x.1.n<=x.1.d),decide_eq_true (by omega:x.2.n>=0),decide_eq_true (by omega:x.2.n<=x.2.d)];have h2:=congrArg Prod.snd h.cmp.1;dsimp only at h2;rw[h2,decide_eq_true h.cmp.2];rfl
variable {v:Int}
theorem GI{a:W1}(h:Rat a)(hc:aV a=0)(X:0<=a.n)(E:0<=v)(Y:v<=1073741824):(eY a v).1=a.n*v / a.d/\(eY a v).2.1= -(-(a.n*v) / a.d)/\ -(-(a.n*v) / a.d)<=1152921504606846976/\0<= -(-(a.n*v) / a.d):=by
 have:=h.d1;have:=h.d;have:=h.n;have hm:=Ww (by omega) h.n E Y;have W:=amW X E;unfold eY;have O:(decide (v< (-1073741824)) ||decide (v > 1073741824))=false:=by grind
 rw[hc,O];simp only[bne_self_eq_false,cond_false];rw[aA (by omega: -9223372036854775808<=0 - a.n) (by omega)];have V:(0 - a.n)*v= -(a.n*v):=by grind
 rw[V,aA (by omega: -9223372036854775808<= -(a.n*v)) (by omega),aA (by omega: -9223372036854775808<=a.n*v) (by omega)];rw[NR h.d1 h.d (by omega) (by omega),NR h.d1 h.d (by omega) (by omega)];have c1: -1152921504606846976<= -(a.n*v) / a.d:=by
  rw[amr (by omega)];omega
 have c2: -(a.n*v) / a.d<=0:=by
  have:=amI (by omega:0<a.d) (by omega: -(a.n*v)<=0);simp_all
 grind [aA]
variable {x:Reach}
theorem D3{i:Int}(h:dy i x=true)(O:0<=v)(W:v<=1073741824):gL x v=0/\0<=(gW x v).lo/\(gW x v).lo<=(gW x v).hi/\(gW x v).hi<=v:=by
 obtain⟨h1,h2,h3,h4⟩:=zB h;have E:=K_ h1;refine⟨?_,?_⟩;grind [gL,o8,so,Tc]
 unfold gW;cases hv:(v==0)with
 |true=>
  grind
 |false=>
  simp only[beq_eq_false_iff_ne,ne_eq]at hv;simp only[cond_false];obtain⟨a1,_,_,_⟩:=GI E.r1 E.c1 E.n1 O W;obtain⟨_,b1,b2,b3⟩:=GI E.r2 E.c2 E.m2 O W;rw[a1,b1];have d1:=E.r1.d1;have d2:=E.r2.d1;have P0:0<=x.aoT.1.n*v / x.aoT.1.d:=Int.ediv_nonneg (amW E.n1 O) (by omega);have Y:x.aoT.1.n*v / x.aoT.1.d*x.aoT.1.d<=x.aoT.1.n*v:=Int.ediv_mul_le _ (by omega);have V: -(x.aoT.2.n*v) / x.aoT.2.d*x.aoT.2.d<= -(x.aoT.2.n*v):=Int.ediv_mul_le _ (by omega);generalize x.aoT.1.n*v / x.aoT.1.d=P at P0 Y;generalize -(x.aoT.2.n*v) / x.aoT.2.d=Q at b2 b3 V;have PV:P<=v:=by
   have:=alK E.m1 O;have X:P*x.aoT.1.d<=v*x.aoT.1.d:=by grind
   exact amX X (by omega)
  have PQ:P<= -Q:=by
   have e1:=alK Y (by omega:0<=x.aoT.2.d);have e2:=alK E.le O;have e3:=alK V (by omega:0<=x.aoT.1.d);have X:P*(x.aoT.1.d*x.aoT.2.d)<= -Q*(x.aoT.1.d*x.aoT.2.d):=by
    grind
   have hp:0<x.aoT.1.d*x.aoT.2.d:=Int.mul_pos (by omega) (by omega);simp_all
  grind [aA]
def wst (x:Reach)(v:Int):Int:=v - (gW x v).hi
theorem AR{i:Int}(h:dy i x=true)(O:0<=v)(E:v<=1073741824):jD x v=(wst x v,0):=by
 obtain⟨e,h1,h2,V⟩:=D3 h O E;grind [jD,wst,aA]
theorem Wx{i:Int}(h:dy i x=true)(X:0<=v)(Y:v<=1073741824):wst x v=max 0 ((x.aoT.2.d - x.aoT.2.n)*v / x.aoT.2.d - x.apd.hi):=by
 obtain⟨W,g2,g3,g4⟩:=zB h;have E:=K_ W;have d1:=E.r2.d1;have V:(x.aoT.2.d - x.aoT.2.n)*v / x.aoT.2.d=v+ -(x.aoT.2.n*v) / x.aoT.2.d:=by
  grind [Int.add_mul_ediv_left]
 rw[V];unfold wst gW;cases O:(v==0)with
 |true=>
  simp only[beq_iff_eq]at O;subst O;simp only[cond_true,Int.mul_zero,Int.neg_zero,Int.zero_ediv];omega
 |false=>
  simp only[cond_false];obtain⟨_,b1,b2,b3⟩:=GI E.r2 E.c2 E.m2 X Y;grind [aA]
theorem Ze {k d a b:Int}(E:0<=k)(hd:1<=d)(h:a<=b):k*a / d<=k*b / d:=amI (by omega) (amJ h E)
section
variable {i:Int}{x:Reach}
theorem Wy (h:dy i x=true){v:Int}(O:0<=v)(E:v<=1073741824):0<=wst x v/\wst x v<=v:=by
 have:=D3 h O E;unfold wst;omega
theorem NS (h:dy i x=true){a b:Int}(a0:0<=a)(E:a<=b)(V:b<=1073741824):wst x a<=wst x b:=by
 have O:=K_ (zB h).1;have:=O.r2.d1;rw[Wx h a0 (by omega),Wx h (by omega) V];have:=Ze (k:=x.aoT.2.d - x.aoT.2.n) (d:=x.aoT.2.d) (by have:=O.n2;omega) O.r2.d1 E;omega
end
theorem ahJ {i j:Int}(V:0<=i)(h1:i<=j)(h2:j<=2305843009213693952):i64.wrap (mu .u64 (u64.wrap (i64.wrap (i+j))) 1)=(i+j) / 2:=by
 have O:i64.wrap (i+j)=i+j:=aA (by omega) (by omega);have e:u64.wrap (i+j)=i+j:=by
  grind [IntKind.wrap,IntKind.bits]
 have E:mu .u64 (i+j) 1=(i+j) / 2:=by
  show Int.fdiv (i+j) ((2:Int) ^ min (Int.toNat 1) u64.bits)=_;have:(2:Int) ^ min (Int.toNat 1) u64.bits=2:=by decide
  grind
 grind [aA]
theorem P_ {f:Int->Bool}{N:Int}{step:Nat->Int×Int->Int⊕(Int×Int)}(hN:N<=2305843009213693952)
  (hs:∀ k i j,0<=i->i<j->j<=N->step k (i,j)=if f ((i+j) / 2)=true then .inr (i,(i+j) / 2)else .inr ((i+j) / 2+1,j)) (he:∀ k i j,¬i<j->step k (i,j)=.inl i):
  ∀ (E k:Nat) (i j:Int),0<=i->i<=j->j<=N->j - i<2 ^ E->∃ v,aj step (E+1) k (i,j)=.inl v/\i<=v/\v<=j/\
   ((∀ a b,0<=a->a<=b->b<N->f a=true->f b=true)->(∀ u,i<=u->u<v->f u=false)/\(v<j->f v=true)):=by
 intro E;induction E with
 |zero=>
  intro k i j X h1 h2 h3;have:j=i:=by omega
  subst this;exact⟨j,by grind [aj],alJ _,alJ _,λ_=>⟨λu h4 h5=>by omega,λh=>by omega⟩⟩
 |succ E ih=>
  intro k i j X h1 h2 h3;by_cases hlt:i<j
  have hp:(2:Int) ^ (E+1)=2 ^ E+2 ^ E:=by omega
  rw[show E+1+1=(E+1)+1 from rfl];simp only[aj,hs k i j X hlt h2];by_cases hf:f ((i+j) / 2)=true
  rw[if_pos hf];obtain⟨v,O,e2,Y,W⟩:=ih (k+1) i ((i+j) / 2) X (by omega) (by omega) (by omega);refine⟨v,O,e2,by omega,λV=>⟨(W V).1,λ_=>?_⟩⟩;grind
  rw[if_neg hf];obtain⟨v,O,e2,Y,W⟩:=ih (k+1) ((i+j) / 2+1) j (by omega) (by omega) h2 (by omega);refine⟨v,O,by omega,Y,λV=>⟨λu h4 h5=>?_,(W V).2⟩⟩;grind
  have:j=i:=by omega
  subst this;exact⟨j,by grind [aj],alJ _,alJ _,λ_=>⟨λu h4 h5=>by omega,λh=>by omega⟩⟩
theorem Jh (w:Int)(x:Reach):∃ v,aj (j_ x w) 64 0 (0,1073741825)=.inl v/\0<=v/\v<=1073741825/\
  ((∀ a b,0<=a->a<=b->b<1073741825->fF a x w=true->fF b x w=true)->(∀ u,0<=u->u<v->fF u x w=false)/\(v<1073741825->fF v x w=true)):=by
 refine P_ (f:=λv=>fF v x w) (N:=1073741825) (by omega) (λk i j E h1 h2=>?_) (λk i j h=>?_) 63 0 0 1073741825 (by omega) (by omega) (by omega) (by decide);unfold j_;simp only;rw[ahJ E (by omega) (by omega),decide_eq_true h1,aA (by omega) (by omega)];grind
 grind [j_]
theorem Wz (w:Int)(x:Reach):qy 1073741825 x w:=λz E=>by
 obtain⟨v,h,_⟩:=Jh w x;grind
def La (x:Reach)(w:Int):kV x w:=λ_=>Wz _ x
def WA (x:Reach)(w:Int):mI x w:=λ_=>La x w
section
variable {i:Int}{x:Reach}
theorem WB (h:dy i x=true){w:Int}(hw:1<=w)(X:w<=1073741824):0<=fJ (w - 1) x/\fJ (w - 1) x<=1073741825/\(∀ u,0<=u->u<fJ (w - 1) x->wst x u<w)/\(fJ (w - 1) x<=1073741824->w<=wst x (fJ (w - 1) x)):=by
 obtain⟨v,e1,e2,e3,Y⟩:=Jh (w - 1) x;have ev:fJ (w - 1) x=v:=by grind [fJ,tZ]
 have O:∀ u,0<=u->u<=1073741824->(fF u x (w - 1)=true↔w<=wst x u):=λu W V=>by
  have:=D3 h W V;unfold fF qx wst;rw[aA (by omega) (by omega),decide_eq_true_eq];omega
 obtain⟨e5,e6⟩:=Y λa b a0 E hb ha=>(O b (by omega) (by omega)).2 (by
  have:=NS h a0 E (by omega);grind)
 grind
theorem yc (h0:0<=i)(h:dy i x=true){w:Int}(hw:1<=w):(∃ v,ax x w=(v,true)/\1<=v/\v<=1073741824/\x.aoI<=v/\w<=wst x v/\∀ u,0<=u->u<=1073741824->x.aoI<=u->w<=wst x u->v<=u)\/
  ((ax x w).2=false/\∀ u,0<=u->u<=1073741824->wst x u<w):=by
 have hr:=Jg h0 h;unfold ax;have hw0:(w==0)=false:=by grind
 by_cases E:w<=1073741824
 have hc:(w==0||decide (w > 1073741824))=false:=by grind
 rw[hc,hw0];simp only[cond_false];obtain⟨l1,l2,l3,Y⟩:=WB h hw E;unfold fO;have hv:(gL x w !=0)=false:=by grind [D3]
 rw[hv,aA (by omega) (by omega)];simp only[cond_false];by_cases X:fJ (w - 1) x<=1073741824
 rw[decide_eq_false (by omega)];simp only[cond_false,alj];have O:=Y X;have l6:=Wy h l1 X;refine .inl ⟨_,rfl,?_,?_,?_,?_,λu W V u2 u3=>?_⟩;omega;have:=hr.aoI;have:=hr.cap;omega;omega;have:=hr.aoI;have:=hr.cap;split
 exact anT O (NS h l1 (by omega) (by omega));exact O;grind
 grind
 have hc:(w==0||decide (w > 1073741824))=true:=by grind
 rw[hc];refine .inr ⟨by grind,λu W V=>?_⟩;have:=Wy h W V;omega
end
end Go.Sx
end
section
namespace Go.Proofs
open Go.Shelf Go.Sx
def Tryz.aqs:Go.Shelf.Ren:=⟨λ|6=>171|15=>133|14=>246|28=>199|29=>200|20=>290|21=>291|22=>292|23=>293|24=>294|25=>295|26=>296|27=>297|46=>328|47=>260|48=>261|49=>329|50=>330|57=>343|n=>n,λ|22=>50|24=>259|25=>270|3=>3|39=>229|0=>0|53=>294|55=>296|4=>4|46=>288|45=>287|50=>267|5=>5|9=>9|66=>342|70=>60|76=>375|77=>376|n=>n,λ|n=>n⟩
theorem Tryz.aqD:Go.Proofs.SlLaysF0.n6 Tryz.prog Tryz.aqs:=⟨kr,⟨Tryz.f171.name,by decide,kr⟩,⟨Tryz.f246.name,by decide,kr⟩,kr,⟨Tryz.f290.name,by decide,kr⟩,⟨Tryz.f291.name,by decide,kr⟩,⟨Tryz.f292.name,by decide,kr⟩,⟨Tryz.f293.name,by decide,kr⟩,⟨Tryz.f294.name,by decide,kr⟩,⟨Tryz.f295.name,by decide,kr⟩,⟨Tryz.f296.name,by decide,kr⟩,⟨Tryz.f297.name,by decide,kr⟩,kr,kr,⟨Tryz.f328.name,by decide,kr⟩,kr,kr,⟨Tryz.f329.name,by decide,kr⟩,⟨Tryz.f330.name,by decide,kr⟩,⟨Tryz.f343.name,by decide,kr⟩,kr,λ_=>kr,λ_=>kr,λ_=>kr,kr,λ_=>kr,λ_=>kr,λ_=>kr,kr,λ_=>kr,λ_=>kr,λ_=>kr,kr,λ_=>kr,λ_=>kr,λ_=>kr,kr,λ_=>kr,λ_=>kr,λ_=>kr,kr,λ_=>kr,λ_=>kr,λ_=>kr,kr,λ_=>kr,λ_=>kr,λ_=>kr,kr,λ_=>kr,λ_=>kr,λ_=>kr,kr,λ_=>kr,λ_=>kr,λ_=>kr,kr,λ_=>kr,λ_=>kr,λ_=>kr,kr,λ_=>kr,λ_=>kr,λ_=>kr,kr,λ_=>kr,λ_=>kr,λ_=>kr,kr,λ_=>kr,λ_=>kr,λ_=>kr,kr,λ_=>kr,λ_=>kr,λ_=>kr,kr,λ_=>kr,λ_=>kr,λ_=>kr,kr,λ_=>kr,λ_=>kr,λ_=>kr,kr,λ_=>kr,λ_=>kr,λ_=>kr⟩
end Go.Proofs
end
section
namespace Go.Sx
open Go.Proofs
@[go_sem] def th (l_:List Int)(k_0:Nat)(x4:Unit):Int⊕Unit:=(bif((l_.getD k_0 0) !=0)then .inl (l_.getD k_0 0)else .inr ())
def fj (l_:List Int):Int:=(match aj (th l_) l_.length 0 ()with| .inl u0=>u0| .inr x4=>0)
@[go_sem] def AS:List SV->Option Con:=(pR .int λl_=>(pE (.det True (.v (.int .i64 (fj l_))))))
theorem tj:P1 Tryz.prog 173 AS:=by
 have hG:=mG W2 W2;refine fN hG Tryz.f173 [.o] (bM λO=>(am (λY=>?_)));dsimp only[an]at Y;refine⟨nbl rfl,(λid st=>bif Nat.beq id 0 then some (LCR (ρ:=Int) (σ:=Unit) 0 [] [] (λV W=>⟨[(5,.rs .int O),(6,.v (.int .i64 (O.length:Int))),(7,.v (.int .i64 (V:Int)))],[]⟩) (th O) pT O.length () (O.length<=aN) (λ_=>.ret) (λE=>⟨[(2,.v (.int .i64 E))],[]⟩) st)else none),?_,?_⟩;unfold ae Tryz.f173;simp only[ak,true_and,and_true];refine b_ mixed aJ hG kr (λ_=>rfl) (O.length:Int) rfl fH (λhb0 V W X _ hw hc=>⟨L0,ag _,?_⟩) (λhb0 W hc=>?_);exact bE (jl []);exact bF (jl []);unfold ae Tryz.f173;try unfold fj
 exact zq2
def ar (a:Order)(b:Order):Int:=(fj ([(bj a.hour b.hour),(bj a.index b.index)]))
@[go_sem] def pr:List SV->Option Con:=(pD .order λa=>(pD .order λb=>(pE (.det True (.v (.int .i64 (ar a b)))))))
theorem vW:P1 Tryz.prog 243 pr:=by
 have hG:=mG (cp eX (cn [.sl .int] tj W2)) W2;refine fN hG Tryz.f243 [.o] (az λa=>(az λb=>(am (λE=>?_))));dsimp only[an]at E;refine⟨nbl rfl,L0,ag _,?_⟩;unfold ae Tryz.f243;try unfold ar
 exact zq2
def o_ (x:Order):Bool:=(decide (x.dd > 1073741824))
@[go_sem] def yx:List SV->Option Con:=(pD .order λx=>(pE (.det True (.v (.bool (o_ x))))))
theorem xC:P1 Tryz.prog 166 yx:=by
 have hG:=mG W2 W2;refine fN hG Tryz.f166 [.o] (az λx=>(am (λE=>?_)));dsimp only[an]at E;refine⟨nbl rfl,L0,ag _,?_⟩;unfold ae Tryz.f166;try unfold o_
 exact zq2
theorem NT (x:Int)(l:List Int):fj (x::l)=if x=0 then fj l else x:=by
 have key:∀ l:List Int,fj l=match cB (ρ:=Int) (λ(x:Int) (_:Unit) =>bif(x !=0)then .inl x else .inr ()) l ()with| .inl y=>y| .inr _=>0:=λl=>by
  unfold fj;have:=rP (ρ:=Int) (λ(x:Int) (_:Unit) =>bif(x !=0)then .inl x else .inr ()) 0 l ();rw[<-this];rfl
 rw[key,key];simp only[cB];grind
def Qa:fj []=0:=rfl
def Lb:List (Int×Int)->Prop
 | [] =>False|(a,b)::r=>a<b\/a=b/\Lb r
theorem GJ:∀ l:List (Int×Int),(fj (l.map λp=>bj p.1 p.2) <0↔Lb l)
 | [] =>by simp[Qa,Lb]
 |(a,b)::r=>by
  have hc:=jy a b;simp only[alt,NT,hc,Lb];rcases anz a b with h|h|h;simp[h];subst h;simp only[an9,if_false,if_true,true_and,false_or,gt_iff_lt];exact GJ r;omega
def Td (a b:Order):Prop:=Lb [(a.hour,b.hour),(a.index,b.index)]
def vX (a b:Order):ar a b<0↔Td a b:=GJ [(a.hour,b.hour),(a.index,b.index)]
open Go.Shelf Go.Sort in
theorem kg:SWO (ltOf ar):=KG vX (λx=>by simp_all [Td,Lb]) (λx y z h1 h2=>by simp only[Td,Lb,and_false,or_false]at *;omega) (λx y z h1 h2=>by simp only[Td,Lb,and_false,or_false]at *;omega)
end Go.Sx
end
section
namespace Go.Sx
open Go.Lib Go.Proofs Go.RowKit Go.Shelf Go.Sort
noncomputable def tq:List SV->List Ob->Option aoJ:=λl h=>orC (iS .order 298 [.ep [mV] 0] aL l h) (iS .order 243 [] ar l h)
variable {l0:List Order}
@[go_sem] theorem XC:tq [.os 0,.fn 298 [] [.ep [mV] 0]] [.row .order l0]=some (fK (apart aL l0) (.tup []) [.row .order (srt aL l0)]):=by
 unfold tq;rw[na];rfl
@[go_sem] theorem WC:tq [.os 0,.fn 243 [] []] [.row .order l0]=some (fK (apart ar l0) (.tup []) [.row .order (srt ar l0)]):=by
 unfold tq;rw[na];have:iS .order 298 [.ep [mV] 0] aL [.os 0,.fn 243 [] []] [.row .order l0]=none:=by simp[iS,MO]
 rw[this];rfl
theorem C4:xe .order:=λx s E=>by
 simp only[cellsOf,ala,alV,or_false]at E;rcases E with rfl|rfl|rfl|rfl;all_goals exact⟨_,rfl,rfl⟩
theorem WD (x y:Order):mh (.agg (cellsOf .order x):: .agg (cellsOf .order y)::[.ep [mV] 0])=some (.det True (.v (.int .i64 (aL x y)))):=by
 simp only[go_sem,Nat.reduceBEq]
theorem C5 (x y:Order):pr (.agg (cellsOf .order x):: .agg (cellsOf .order y)::[])=some (.det True (.v (.int .i64 (ar x y)))):=by
 rfl
theorem C6:aoH Tryz.prog 171 tq:=by
 refine aoH.or ?_ ?_;refine qM (k:=.order) Tryz.aqD (λw=>by kernel_rfl) (λw=>by kernel_rfl) C4 (by decide) (g:=298) (caps:=[.ep [mV] 0]) wn (cf:=aL) WD vV (λs E=>?_) ⟨default,default,WD _ _⟩;simp only[ala,alV,or_false]at E;subst E;exact gO 5 _ rfl;exact qM (k:=.order) Tryz.aqD (λw=>by kernel_rfl) (λw=>by kernel_rfl) C4 (by decide) (g:=243) (caps:=[]) vW (cf:=ar) C5 kg (λs E=>by cases E) ⟨default,default,C5 _ _⟩
end Go.Sx
end
