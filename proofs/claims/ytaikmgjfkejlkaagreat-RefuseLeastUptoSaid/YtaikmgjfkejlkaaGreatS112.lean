/- Part of the proof that the law RefuseLeast returns true and leaves its arguments as they were, for all arguments of bulk at most 1048576 (the Upto form). -/
import Derived.Test.YtaikmgjfkejlkaaGreatS111
import Derived.Test.YtaikmgjfkejlkaaGreatS108
import Derived.Test.YtaikmgjfkejlkaaGreatS107
import Derived.Test.YtaikmgjfkejlkaaGreatS109
import Derived.Sort.Statements
import Derived.Shelf.SlSortCmp.Insertion
import Derived.Test.YtaikmgjfkejlkaaGreatS110
set_option linter.all false
set_option maxHeartbeats 4000000
set_option maxRecDepth 100000
section
namespace Go.Sx
open Go.Proofs
open IntKind (i64 u64)
def Gk {ρ ρ' σ σ':Type}{f:Nat->σ->ρ⊕σ}{g:Nat->σ'->ρ'⊕σ'}(R:Nat->σ->σ'->Prop):∀ (n i:Nat) (s:σ) (t:σ'),R i s t->(∀ j s t,i<=j->j<i+n->R j s t->(∃ a b,f j s=.inl a/\g j t=.inl b)\/∃ s' t',f j s=.inr s'/\g j t=.inr t'/\R (j+1) s' t')->
  (∃ a b,aj f n i s=.inl a/\aj g n i t=.inl b)\/∃ s' t',aj f n i s=.inr s'/\aj g n i t=.inr t'/\R (i+n) s' t'
 |0,i,s,t,h,_=>.inr ⟨s,t,rfl,rfl,h⟩
 |n+1,i,s,t,h,hs=>by
  rcases hs i s t (alJ _) (by omega) h with⟨a,b,O,E⟩ | ⟨s',t',O,E,h'⟩;grind [aj]
  simp only[aj,O,E];have:=Gk R n (i+1) s' t' h' λj s t h1 h2=>hs j s t (by omega) (by omega);grind
def Zf (l:List Part)(k:Nat):aj (jU l k) k 0 ()=.inr ()↔∀ i,i<k->(l.getD i default).dd≠(l.getD k default).dd:=by
 rw[gP];refine forall_congr' λi=>forall_congr' λ_=>?_;unfold jU;grind
def S6 (l:List Part)(k:Nat)(O:k<=l.length)(f:Int):f∈(l.take k).map (λx=>x.dd)↔∃ i,i<k/\(l.getD i default).dd=f:=by
 rw[anh];constructor
 rintro⟨x,E,rfl⟩;obtain⟨i,hi,rfl⟩:=amk.1 E;rw[amT]at hi;exact⟨i,by omega,by grind⟩;rintro⟨i,hi,rfl⟩;refine⟨l.getD i default,?_,rfl⟩;rw[my l _ (by omega)];exact amk.2 ⟨i,by grind,by grind⟩
def S7 {a:B1}(h:apv a):(a.n==a.d)=((a.n==1)&&(a.d==1)):=by
 rw[amo,alG,beq_iff_eq,beq_iff_eq,beq_iff_eq];constructor
 intro e;have h1:=h.gcd;rw[e]at h1 |-;have h2:=h.d1;have:a.d.natAbs=a.d.toNat:=by omega
 grind
 omega
def Zg (d:ah)(l:List Part):qp d l:=λU _=>gX _ _ _ λj s _ O E=>⟨λ_=>xT _,λ_=>⟨by grind,gX _ _ _ λi s _ hi=>by rw[alI]at hi;exact⟨by omega,by omega⟩,λ_ _=>(NA _ _).1⟩⟩
variable {d:ah}
theorem Wn(hf:d.l5.length<=600)(l:List Part):qY d l=iO d l:=by
 unfold qY iO;have h01:apv { n:=0,d:=1}:=⟨by decide,by decide,by decide,by decide,by decide⟩;have key:=Gk (f:=fS d l) (g:=lW d l) (λj s t=>t=(s.1,s.2.1)/\apv { n:=s.1,d:=s.2.1}/\∀ f:Int,aL .int .bool s.2.2 f=decide (f∈(l.take j).map λx=>x.dd)) l.length 0 (0,1,[]) (0,1) ⟨rfl,h01,λf=>by rfl⟩ (λj s t _ hj ⟨j1,j2,j3⟩ =>by
  rw[alQ]at hj;subst j1;unfold fS lW;rw[alI];have hin:=zn (l.getD j default).dd (k:=d.l5.length) (by omega);have hm:=j3 (l.getD j default).dd;have E:=NA { n:=s.1,d:=s.2.1} (l.getD j default).share;have hd:=Zf l j;rw[E.2];have W:=b9 l default hj;have X:=S6 l j (by omega) (l.getD j default).dd;generalize hp:l.getD j default=p at *;by_cases hA:0<=p.dd/\p.dd< (d.l5.length:Int)
  ·have V:=hin.2 hA;have Y:((decide (p.dd<0)) ||(decide (p.dd>=(d.l5.length:Int))))=false:=by
    grind
   rw[V,Y,hm];by_cases hC:p.share.n<=0
   grind
   ·rw[decide_eq_false hC];simp only[alZ,am8,am1];by_cases hV:apv p.share
    rw[(sn _).2 hV];simp only[alZ,cond_false];by_cases hB:p.dd∈(l.take j).map λx=>x.dd
    grind
    rw[decide_eq_false hB];simp only[cond_false];have hn:aj (jU l j) j 0 ()=.inr ():=hd.2 λi hi e=>hB (X.2 ⟨i,hi,e⟩);rw[hn];simp only;cases he:((gZ { n:=s.1,d:=s.2.1} p.share).2 !=0)with
    |true=>simp_all
    |false=>
     have he:(gZ { n:=s.1,d:=s.2.1} p.share).2=0:=by grind
     obtain⟨_,_,a3,_⟩:=V6 (r:=(gZ { n:=s.1,d:=s.2.1} p.share).1) (by rw[<-he]);refine .inr ⟨_,_,rfl,rfl,rfl,a3,λf=>?_⟩;rw[og,W,an4];grind
    ·have hV2:ei p.share=false:=by
      cases h:ei p.share with
      |true=>exact absurd ((sn _).1 h) hV|false=>rfl
     simp_all [Px,gz]
  grind)
 by_cases hl:1<=l.length/\l.length<=16
 have e1:((decide ((l.length:Int) <1)) ||(decide ((l.length:Int) > 16)))=false:=by
  grind
 have e2:aP (l.length:Int) 1 16=true:=(vG _ _ _).2 (by omega);rw[e1,e2];simp only[cond_false,ant];rcases key with⟨a,b,O,U⟩ | ⟨s,t,O,U,q3,q4,_⟩;rw[O,U];rw[O,U];subst q3;exact S7 q4
 ·have e1:((decide ((l.length:Int) <1)) ||(decide ((l.length:Int) > 16)))=true:=by
   grind
  have e2:aP (l.length:Int) 1 16=false:=by
   cases h:aP (l.length:Int) 1 16 with
   |true=>have:=(vG _ _ _).1 h;omega|false=>rfl
  grind
theorem NB (b:List bh)(n:Int):(lX b n= -1/\∀ y∈b,¬ (y.no=n/\y.kind≠4))\/∃ K y R,b=K++y::R/\lX b n=(K.length:Int)/\y.no=n/\y.kind≠4:=by
 unfold lX;have E:∀ y:bh,((y.no==n)&&(y.kind !=4))=true↔(y.no=n/\y.kind≠4):=λy=>by grind
 rcases xp (step:=sS b n) b default (λy=>(y.no==n)&&(y.kind !=4)) (λk _=>rfl)with⟨e,h⟩ | ⟨K,x,R,h1,e,h2,O⟩ <;>grind
theorem Zh(hf:d.l5.length<=600)(hr:d.ai.length<=256){b:List bh}(hb:Asc b)(x:bh):qZ d b x=dp d (uU b) x:=by
 unfold qZ dp;have O:mz d x=((aP x.right 0 (i64.wrap ((d.ai.length:Int) - 1)))&&((d.ai.getD (Int.toNat x.right) (default:apu)).kind==1)&&(aP x.since 0 (i64.wrap ((d.l5.length:Int) - 1)))):=by
  unfold mz;rw[amo];simp only[alG,decide_eq_true_eq];grind [zn]
 have U:((decide (x.to>=0))&&(decide (x.to< (d.l5.length:Int))))=aP x.to 0 (i64.wrap ((d.l5.length:Int) - 1)):=by
  rw[amo,zn _ (by omega),alG,decide_eq_true_eq,decide_eq_true_eq]
 have E:(((((((decide (x.no<0)) ||(decide (x.no > 1048576))) ||(decide (x.at_<0))) ||(decide (x.at_ > 4096))) ||(decide (x.known<0))) ||(decide (x.known > 1048576))))=(((!(aP x.no 0 1048576)) ||(!(aP x.at_ 0 4096))) ||(!(aP x.known 0 1048576))):=by
  rw[amo];simp only[ama,decide_eq_true_eq,al0,<-anp,vG];omega
 rw[E,O];cases hg:(((!(aP x.no 0 1048576)) ||(!(aP x.at_ 0 4096))) ||(!(aP x.known 0 1048576)))with
 |true=>simp
 |false=>
  simp only[am8,cond_false];unfold kM iQ;simp only[aox,am8,ant];by_cases k1:x.kind=1
  grind
  rw[show(x.kind==1)=false by grind];by_cases k2:x.kind=2
  rw[show(x.kind==2)=true by rw[k2];rfl];simp only[cond_true,cond_false];grind [Wn]
  rw[show(x.kind==2)=false by grind];by_cases k3:x.kind=3
  grind
  rw[show(x.kind==3)=false by grind];by_cases V:x.kind=4
  rw[show(x.kind==4)=true by rw[V];rfl];simp only[cond_true,cond_false,Bool.or_true,aoh];cases hz:((((x.right==0)&&(x.since==0))&&(x.to==0))&&((x.parts.length:Int) ==0))with
  |false=>simp
  |true=>
   simp only[ant,alZ,cond_false];rw[Nf];rcases NB b x.of_ with⟨e,W⟩ | ⟨K,y,R,Y,e2,e3,e4⟩;rw[e];simp only[show decide ((-1:Int)>=0)=false by decide,Bool.false_and];grind [FP]
   have hy:y∈b:=by rw[Y];simp
   have X:b.getD (Int.toNat (K.length:Int)) default=y:=by grind
   grind [FP]
  grind
theorem Gl (d:ah)(x:bh):oS d x:=λh=>by
 grind
theorem S8 (d:ah)(b:List bh)(x:bh):qq d b x:=λ_=>⟨λ_ _=>Gl _ _,λ_=>⟨λ_=>⟨λ_=>Gl _ _,λ_=>Zg _ _⟩,λ_=>⟨λ_ _=>Gl _ _,λ_ _ h=>by
 simp only[alG,decide_eq_true_eq]at h;rcases NB b x.of_ with⟨e,_⟩ | ⟨K,y,R,O,E,_⟩ <;>grind⟩⟩⟩
theorem Wo (l:List bh):pY l=((decide ((l.length:Int) > 512)) ||aN l):=by
 unfold pY;cases decide ((l.length:Int) > 512)with
 |true=>rfl
 |false=>
  simp only[cond_false,am8];cases U:aj (kP l) l.length 0 ()with
  |inr s=>
   have h:=gP.1 U
   symm
   refine(qo l).2 λx E=>?_;obtain⟨j,O,rfl⟩:=amk.1 E;grind [kP]
  |inl y=>
   cases hc:aN l with
   |true=>rfl
   |false=>
    have h:=(qo l).1 hc;have:aj (kP l) l.length 0 ()=.inr ():=gP.2 λj O=>by
     grind [kP]
    grind
theorem xZ (d:ah)(l:List bh):nf d l:=⟨SR d,λ_ _=>gX _ _ _ λj s _ E O=>⟨λh=>by
  rw[decide_eq_true_eq]at h;grind [aA,aH],λ_=>⟨by omega,by omega,by omega⟩,λ_=>S8 _ _ _⟩⟩
theorem Rj (d:ah)(l:List bh):j8 d l=a8 d l:=by
 unfold j8 a8;rw[<-V3 d,Wo];cases h1:(aw d !=0)with
 |true=>rfl
 |false=>
  simp only[cond_false];cases h2:((decide ((l.length:Int) > 512)) ||aN l)with
  |true=>rfl
  |false=>
   simp only[cond_false];have U:=jt (d:=d) h1;rw[amf,decide_eq_false_iff_not]at h2;have key:=Gk (f:=lY d l) (g:=eB d l) (λj _ t=>t=uU (l.take j)/\Asc (l.take j)) l.length 0 () [] ⟨rfl,by rw[aod];exact List.Pairwise.nil⟩ (λj s t _ O ⟨X,E⟩ =>by
    rw[alQ]at O;subst X;unfold lY eB;rw[List.drop_zero,Zh U.l5 U.ai E];cases hc:(((decide ((j:Int) > 0))&&(decide ((l.getD j (default:bh)).no<=(l.getD (Int.toNat (i64.wrap ((j:Int) - 1))) (default:bh)).no))) ||(!(dp d (uU (l.take j)) (l.getD j (default:bh)))))with
    |true=>simp_all
    |false=>
     refine .inr ⟨(),_,rfl,rfl,by grind [b9,xU],?_⟩;rw[b9 l default O];refine al8.2 ⟨E,amp _ _,λy hy z V=>?_⟩;simp only[aml]at V;subst V;rw[amf,amH,decide_eq_false_iff_not,decide_eq_false_iff_not]at hc;obtain⟨i,hi,rfl⟩:=amk.1 hy;rw[amT]at hi;have W:0<j:=by omega
     rw[od (by omega) W,alI]at hc;have Y:(l.getD (j - 1) default).no< (l.getD j default).no:=by omega
     have h4:(l.take j)[i].no<=(l.getD (j - 1) default).no:=by
      rcases amN i (j - 1)with h5|h5;have:=amh.1 E i (j - 1) (by omega) (by grind) h5;grind
      grind
     omega)
   grind
def rC (l:List Part)(n:Int)(g:Int->Int):Int->Int:=l.foldl (λg p=>jB g p.dd (g p.dd+loP p n)) g
def oZ (l:List Part)(g:Int->Int):Int->Int:=l.foldl (λg p=>jB g p.dd (g p.dd+1)) g
def BX (l:List Part)(n:Int)(g:Int->Int):Int->Int:=oZ (l.take (n - dW l n).toNat) (rC l n g)
def zr (x:bh)(g:Int->Int):Int->Int:=
 if g x.since=0 then g else
 if x.kind=1 then jB (jB g x.since 0) x.to (jB g x.since 0 x.to+g x.since)else
 if x.kind=2 then BX x.parts (g x.since) (jB g x.since 0)else jB g x.since 0
theorem I6 (l:List Part)(p:Part)(n:Int)(g:Int->Int):rC (l++[p]) n g=jB (rC l n g) p.dd (rC l n g p.dd+loP p n):=by
 unfold rC;grind
theorem Gm (l:List Part)(p:Part)(g:Int->Int):oZ (l++[p]) g=jB (oZ l g) p.dd (oZ l g p.dd+1):=by
 unfold oZ;grind
theorem vL (l:List Part)(p:Part)(n:Int):dW (l++[p]) n=dW l n+loP p n:=by
 unfold dW;simp
def aqM (F:Nat)(l:List Part):Prop:= ∀ p∈l,0<=p.dd/\p.dd< (F:Int)/\apv p.share/\0<p.share.n
variable {l:List Part}
theorem aqb.fit(h:aqb d l):aqM d.l5.length l:=λp E=>⟨(h.part p E).f0,(h.part p E).f1,(h.part p E).share,(h.part p E).pos⟩
theorem sp {F:Nat}{n:Int}(O:0<=n):∀ (l:List Part) (g:Int->Int) (M:Int),aqM F l->Good F M g->Good F (M+dW l n) (rC l n g)/\tot F (rC l n g)=tot F g+dW l n
 | [],g,M,_,E=>by grind [rC,dW]
 |p::l,g,M,U,E=>by
  obtain⟨a,b,c,e⟩:=U p al4;have hlo:=Nz c e O;have W:=E.nn p.dd;have h1:Good F (M+loP p n) (jB g p.dd (g p.dd+loP p n)):=E.put a b (by omega) (by have:=E.tot;omega);obtain⟨V,Y⟩:=sp O l _ _ (λq X=>U q (al2 _ X)) h1;have e1:dW (p::l) n=loP p n+dW l n:=by simp[dW]
  rw[vK g p.dd _ F a b]at Y;rw[e1];refine⟨by rw[show M+(loP p n+dW l n)=M+loP p n+dW l n by omega];exact V,?_⟩;show tot F (rC l n (jB g p.dd (g p.dd+loP p n)))=_;omega
theorem vM {F:Nat}:∀ (l:List Part) (g:Int->Int) (M:Int),aqM F l->Good F M g->Good F (M+l.length) (oZ l g)/\tot F (oZ l g)=tot F g+l.length
 | [],g,M,_,E=>by grind [oZ]
 |p::l,g,M,O,E=>by
  obtain⟨a,b,c,e⟩:=O p al4;have V:=E.nn p.dd;have h1:Good F (M+1) (jB g p.dd (g p.dd+1)):=E.put a b (by omega) (by have:=E.tot;omega);obtain⟨U,X⟩:=vM l _ _ (λq W=>O q (al2 _ W)) h1;rw[vK g p.dd _ F a b]at X;simp only[alL];refine⟨by rw[show M+((l.length+1:Nat):Int)=M+1+(l.length:Int) by omega];exact U,?_⟩;show tot F (oZ l (jB g p.dd (g p.dd+1)))=_;omega
theorem aqM.take{F:Nat}(h:aqM F l)(k:Nat):aqM F (l.take k):=λp E=>h p (ani E)
variable {g:Int->Int}
theorem PM(h:aqb d l){n M:Int}(W:0<=n)(O:Good d.l5.length M g):Good d.l5.length (M+n) (BX l n g)/\tot d.l5.length (BX l n g)=tot d.l5.length g+n:=by
 obtain⟨U,Y⟩:=sp W l g M h.fit O;obtain⟨E,V⟩:=vM (l.take (n - dW l n).toNat) _ _ (h.fit.take _) U;obtain⟨l1,X⟩:=K1 h n;have e:((l.take (n - dW l n).toNat).length:Int)=n - dW l n:=by grind
 rw[e]at E V;refine⟨by rw[show M+n=M+dW l n+(n - dW l n) by omega];exact E,?_⟩;show tot _ (oZ _ _)=_;omega
variable {x:bh}{L:Int}
theorem NC(O:Fit d x)(X:x.kind≠4)(U:Good d.l5.length L g):Good d.l5.length L (zr x g)/\(x.kind≠3->tot d.l5.length (zr x g)=tot d.l5.length g):=by
 obtain⟨_,_,_,s0,s1⟩:=O.held X;unfold zr;by_cases Y:g x.since=0
 grind
 rw[if_neg Y];have W:=U.nn x.since;have hT:=U.tot;have E:Good d.l5.length (L - g x.since) (jB g x.since 0):=U.put s0 s1 (amD _) (by omega);have t1:=vK g x.since 0 d.l5.length s0 s1;by_cases V:x.kind=1
 rw[if_pos V];obtain⟨a,b,c⟩:=O.pass V;have h1:=E.nn x.to;have t2:=vK (jB g x.since 0) x.to (jB g x.since 0 x.to+g x.since) d.l5.length a b;exact⟨E.put a b (by omega) (by omega),λ_=>by omega⟩;rw[if_neg V];by_cases k2:x.kind=2
 rw[if_pos k2];obtain⟨q1,q2⟩:=PM (O.split k2) W E;grind
 rw[if_neg k2];refine⟨⟨E.nn,E.sup,by omega⟩,λk3=>?_⟩;rcases O.kind with e|e|e|e <;>omega
abbrev BM:=List (pq×Int)
abbrev RT (r f:Int):pq:= { right:=r,dd:=f}
def bk (m:BM):Int->Int->Int:=λr f=>aL .dn .int m (RT r f)
theorem K2 (m:BM)(r f v:Int):bk (dH .dn .int m (RT r f) v)=λE=>if E=r then jB (bk m r) f v else bk m E:=by
 funext E f'
 unfold bk;rw[og];by_cases h:E=r
 simp_all [jB];simp_all
theorem adi (m:BM)(O:(kG m).Nodup)(r f:Int):bk (su .dn .int m (RT r f))=λE=>if E=r then jB (bk m r) f 0 else bk m E:=by
 funext E f'
 unfold bk aL su;have e:=(BW (RT r f) m O).2.2 (RT E f');have e':iv (A8 m (RT r f)) (RT E f')=if RT E f'=RT r f then none else iv m (RT E f'):=e;by_cases h:E=r
 subst h;rw[if_pos rfl];unfold jB;by_cases h2:f'=f
 subst h2;rw[e',if_pos rfl,if_pos rfl];rfl;grind
 simp_all
theorem Good.aqQ{F:Nat}(h:Good F L g)(E:L<=2147483648)(f:Int):0<=g f/\g f<=2147483648:=by
 have h1:=h.nn f;by_cases e:g f=0
 omega;obtain⟨a,b⟩:=h.sup f e;have:=Gi h.nn F f a b;have:=h.tot;omega
variable {m:BM}
theorem S9(O:aqb d x.parts){n:Int}(W:0<=n)(h1:n<=1073741824)(hN:(kG m).Nodup){M:Int}(hM:M+n<=2147483648)(hg:Good d.l5.length M (bk m x.right)):
  fm x n m/\(kG (dq x n m)).Nodup/\bk (dq x n m)=λr=>if r=x.right then BX x.parts n (bk m r)else bk m r:=by
 obtain⟨l1,l2⟩:=K1 O n;obtain⟨⟨m1,E⟩,e1,a1,a2,a3⟩:=la (step:=b7 x n) (λk (s:BM×Int) =>(kG s.1).Nodup/\(bk s.1=λr=>if r=x.right then rC (x.parts.take k) n (bk m r)else bk m r)/\s.2=n - dW (x.parts.take k) n) x.parts.length 0 (m,n) ⟨hN,by grind [rC],by simp[dW]⟩ (λj s _ Y ⟨j1,V,j3⟩ =>by
  rw[alQ]at Y;have hm:x.parts.getD j default∈x.parts:=by grind
  obtain⟨f0,f1,f2,f3⟩:=O.fit _ hm;have elo:(eM (x.parts.getD j default).share n).1=loP (x.parts.getD j default) n:=(Wj f2 W h1).1;have hlo:=Nz f2 f3 W;obtain⟨q1,q2⟩:=sp W (x.parts.take j) _ _ (O.fit.take _) hg;have hs:∀ k,0<=dW (x.parts.take k) n/\dW (x.parts.take k) n<=dW x.parts n:=λk=>by
   have key:∀ l:List Part,aqM d.l5.length l->0<=dW l n:=λl=>by
    induction l with
    |nil=>grind [dW]
    |cons p r ih=>
     intro hp;obtain⟨_,_,c,e⟩:=hp p al4;have:=Nz c e W;have:=ih λq hq=>hp q (al2 _ hq);grind [dW]
   have h1:=key _ (O.fit.take k);have h2:=key (x.parts.drop k) λp hp=>O.fit p (aoM hp);grind [List.take_append_drop,dW]
  have hsj:=hs j;have X:=hs (j+1);rw[b9 _ default Y,vL]at X;have hv:=q1.aqQ (by omega) (x.parts.getD j default).dd;have U:aL .dn .int s.1 (RT x.right (x.parts.getD j default).dd)=rC (x.parts.take j) n (bk m x.right) (x.parts.getD j default).dd:=by
   have:=congrFun (congrFun V x.right) (x.parts.getD j default).dd;grind [bk]
  refine⟨_,rfl,?_,?_,?_⟩;exact(uW _ _ _ j1).1;simp only[elo];rw[U,aA (by omega) (by omega),K2,V];funext r
  by_cases h:r=x.right
  subst h;simp only[if_true];grind [b9,I6];grind
  grind [aA,b9,vL])
 rw[alQ,ano]at a2 a3;simp only at a1 a2 a3;have hlf:0<=E/\E<=(x.parts.length:Int):=by omega
 obtain⟨q1,q2⟩:=sp W x.parts _ _ O.fit hg;have tk:(x.parts.take E.toNat).drop 0=x.parts.take E.toNat:=by simp
 have tkl:(x.parts.take E.toNat).length=E.toNat:=by grind
 obtain⟨m2,e2,b1,b2⟩:=la (step:=ix x (m1,E)) (λk (s:BM) =>(kG s).Nodup/\(bk s=λr=>if r=x.right then oZ ((x.parts.take E.toNat).take k) (rC x.parts n (bk m r))else bk m r)) E.toNat 0 m1 ⟨a1,by grind [oZ]⟩ (λj s _ Y ⟨j1,V⟩ =>by
  rw[alQ]at Y;have hj':j< (x.parts.take E.toNat).length:=by omega
  have hm:(x.parts.take E.toNat).getD j default∈x.parts.take E.toNat:=by grind
  obtain⟨r1,r2⟩:=vM ((x.parts.take E.toNat).take j) _ _ ((O.fit.take _).take _) q1;have hlen:((x.parts.take E.toNat).take j).length=j:=by grind
  have hv:=r1.aqQ (by omega) ((x.parts.take E.toNat).getD j default).dd;have U:aL .dn .int s (RT x.right ((x.parts.take E.toNat).getD j default).dd)=oZ ((x.parts.take E.toNat).take j) (rC x.parts n (bk m x.right)) ((x.parts.take E.toNat).getD j default).dd:=by
   have:=congrFun (congrFun V x.right) ((x.parts.take E.toNat).getD j default).dd;grind [bk]
  refine⟨_,rfl,?_,?_⟩;exact(uW _ _ _ j1).1;simp only[tk];rw[U,aA (by omega) (by omega),K2,V];funext r
  by_cases h:r=x.right
  subst h;simp only[if_true];grind [b9,Gm];grind)
 rw[alQ]at b2;have e2':aj (ix x (m1,E)) ((x.parts.take E.toNat).drop 0).length 0 m1=.inr m2:=by grind
 have eR:dq x n m=m2:=by
  grind [dq]
 refine⟨λ_ z hz=>?_,?_,?_⟩;grind
 grind
 simp_all [BX,List.take_take]
def nr (x:bh)(B:Int->Int->Int):Int->Int->Int:=λr=>if r=x.right then zr x (B r)else B r
def o4 (ds:List bh)(B:Int->Int->Int):Int->Int->Int:=ds.foldl (λB x=>nr x B) B
def Zi:List bh->(Int->Int->Int)->List Int
 | [],_=>[]|x::r,B=>(if B x.right x.since=0 then [x.no]else [])++Zi r (nr x B)
structure aqj (d:ah)(m:BM):Prop where
 nodup:(kG m).Nodup
 good:∀ r,∃ L,L<=1073741824/\Good d.l5.length L (bk m r)
theorem aqj.le(h:aqj d m)(r f:Int):0<=bk m r f/\bk m r f<=1073741824:=by
 obtain⟨L,h1,h2⟩:=h.good r;have:=h2.nn f;by_cases e:bk m r f=0
 omega;obtain⟨a,b⟩:=h2.sup f e;have:=Gi h2.nn _ f a b;have:=h2.tot;omega
theorem Zj{ds:List bh}(hx:Fit d x)(hk:x.kind≠4){e:List Int}(X:aqj d m)(he:(e.length+1)*8<=dI):
  eP ds x (e,m)/\∃ V,cT ds x (e,m)=.inr (e++(if bk m x.right x.since=0 then [x.no]else []),V)/\aqj d V/\bk V=nr x (bk m):=by
 obtain⟨r0,r1,r2,s0,s1⟩:=hx.held hk;have hv:=X.le x.right x.since;have ebk:aL .dn .int m (RT x.right x.since)=bk m x.right x.since:=rfl;have Y:=BW (RT x.right x.since) m X.nodup;have hstep:∀ V:BM,(kG V).Nodup->bk V=nr x (bk m)->aqj d V:=λV hN W=>by
  refine⟨hN,λr=>?_⟩;obtain⟨L,h1,h2⟩:=X.good r;refine⟨L,h1,?_⟩;rw[W];show Good _ _ (if r=x.right then zr x (bk m r)else bk m r);split
  exact(NC hx hk h2).1;exact h2
 have hlen:(e++[x.no]).length=e.length+1:=by simp
 unfold eP cT;simp only[ebk,hlen];by_cases hn:bk m x.right x.since=0
 have b0:(bk m x.right x.since==0)=true:=by simp[hn]
 rw[b0,if_pos hn];refine⟨⟨λ_=>he,(λh=>by cases h)⟩,m,rfl,X,?_⟩;funext r
 simp_all [nr,zr];have b0:(bk m x.right x.since==0)=false:=by grind
 rw[b0,if_neg hn,al3];simp only[cond_false];have E:=adi m X.nodup x.right x.since;have U:(kG (su .dn .int m (RT x.right x.since))).Nodup:=Y.1;have O:Good d.l5.length (1073741824 - bk m x.right x.since) (bk (su .dn .int m (RT x.right x.since)) x.right):=by
  obtain⟨L,h1,h2⟩:=X.good x.right;rw[E];simp only[if_true];exact h2.put s0 s1 (amD _) (by have:=h2.tot;omega)
 by_cases k1:x.kind=1
 have b1:(x.kind==1)=true:=by simp[k1]
 rw[b1];simp only[cond_true];obtain⟨a,b,c⟩:=hx.pass k1;have hto:=O.aqQ (by omega) x.to;have e2:aL .dn .int (su .dn .int m (RT x.right x.since)) (RT x.right x.to)=jB (bk m x.right) x.since 0 x.to:=by
  grind [bk]
 have hto':0<=jB (bk m x.right) x.since 0 x.to/\jB (bk m x.right) x.since 0 x.to<=2147483648:=by
  grind
 refine⟨⟨(λh=>by cases h),(λ_ h=>by cases h)⟩,_,rfl,?_⟩;have W:bk (eO x (bk m x.right x.since) (su .dn .int m (RT x.right x.since)))=nr x (bk m):=by
  unfold eO;rw[e2,aA (by omega) (by omega),K2,E];funext r
  simp_all [nr,zr]
 exact⟨hstep _ (by unfold eO;exact(uW _ _ _ U).1) W,W⟩;have b1:(x.kind==1)=false:=by grind
 rw[b1];simp only[cond_false];by_cases k2:x.kind=2
 have b2:(x.kind==2)=true:=by simp[k2]
 rw[b2];simp only[cond_true];obtain⟨p1,p2,p3⟩:=S9 (hx.split k2) hv.1 hv.2 U (M:=1073741824 - bk m x.right x.since) (by omega) O;refine⟨⟨(λh=>by cases h),λ_ _=>⟨λ_=>p1,(λh=>by cases h)⟩⟩,_,rfl,?_⟩;have W:bk (dq x (bk m x.right x.since) (su .dn .int m (RT x.right x.since)))=nr x (bk m):=by
  rw[p3,E];funext r
  simp_all [nr,zr]
 grind
 have b2:(x.kind==2)=false:=by grind
 rw[b2];simp only[cond_false];have k3:x.kind=3:=by rcases hx.kind with h|h|h|h <;>omega
 have b3:(x.kind==3)=true:=by simp[k3]
 rw[b3];simp only[cond_true];refine⟨⟨(λh=>by cases h),λ_ _=>⟨(λh=>by cases h),(λ_ h=>by cases h)⟩⟩,_,rfl,?_⟩;have W:bk (su .dn .int m (RT x.right x.since))=nr x (bk m):=by
  rw[E];funext r
  simp_all [nr,zr]
 grind
theorem I7 {d:ah}(ds:List bh):∀ (l:List bh),(∀ x∈l,Fit d x/\x.kind≠4)->∀ (e:List Int) (m:BM),aqj d m->(e.length+l.length)*8<=dI->
  okL (cT ds) (eP ds) l (e,m)/\∃ E,di (cT ds) l (e,m)=.inr (e++Zi l (bk m),E)/\aqj d E/\bk E=o4 l (bk m)
 | [],_,e,m,O,_=>⟨trivial,m,by simp[di,Zi],O,rfl⟩
 |x::l,h,e,m,O,hB=>by
  simp only[alL]at hB;obtain⟨h1,h2⟩:=h x al4;obtain⟨X,m1,q2,q3,V⟩:=Zj (ds:=ds) h1 h2 (e:=e) O (by omega);have U:(e++(if bk m x.right x.since=0 then [x.no]else [])).length<=e.length+1:=by grind
  obtain⟨r1,W,r2,Y,r4⟩:=I7 ds l (λy hy=>h y (al2 _ hy)) (e++(if bk m x.right x.since=0 then [x.no]else [])) m1 q3 (by omega);refine⟨⟨X,λs hs=>by grind⟩,W,?_,Y,?_⟩;simp only[di,q2];rw[r2,V,amt];rfl;rw[r4,V];rfl
def B0 (d:ah):Int->Int->Int:=λr f=>if 0<=r/\r< (d.ai.length:Int)/\(d.ai.getD r.toNat default).kind=1/\(d.ai.getD r.toNat default).dd=f then(d.ai.getD r.toNat default).bo else 0
structure arq (d:ah)(x:apu):Prop where
 f0:0<=x.dd
 f1:x.dd< (d.l5.length:Int)
 l0:1<=x.bo
 l1:x.bo<=1073741824
theorem DV(h:aw d=0){k:Nat}(V:k<d.ai.length)(U:(d.ai.getD k default).kind=1):arq d (d.ai.getD k default):=by
 have:=((qU d).1 h).2.2.2.2.2.2.2.1 k V;unfold dV at this;rw[ip]at this;have h2:iw d (d.ai.getD k default)=true:=by
  grind
 unfold iw at h2;cases E:((!(cB (d.ai.getD k default).dd (d.l5.length:Int))) ||(!(cB (d.ai.getD k default).reach (d.reaches.length:Int)))) ||(!(aK ([0,(d.ai.getD k default).since,(d.ai.getD k default).to,(i64.wrap (d.hours - 1))])))with
 |true=>grind
 |false=>
  rw[E,show((d.ai.getD k default).kind==1)=true by rw[U];rfl]at h2;simp only[cond_true,cond_false,alG]at h2;simp only[amf,anb]at E;have O:=E.1.1;unfold cB at O;simp only[alG,decide_eq_true_eq]at O;have W:=vF h2.1.2;exact⟨by omega,by omega,by omega,by omega⟩
theorem adj(h:aw d=0)(r:Int):∃ L,L<=1073741824/\Good d.l5.length L (B0 d r):=by
 by_cases V:0<=r/\r< (d.ai.length:Int)/\(d.ai.getD r.toNat default).kind=1
 ·have E:=DV h (k:=r.toNat) (by omega) V.2.2;have W:=E.l0;refine⟨(d.ai.getD r.toNat default).bo,E.l1,?_⟩;have e:B0 d r=jB (λ_=>0) (d.ai.getD r.toNat default).dd (d.ai.getD r.toNat default).bo:=by
   funext f
   unfold B0 jB;grind
  have t0:∀ n,tot n (λ_=>0)=0:=λn=>by
   induction n with
   |zero=>rfl|succ n U=>grind [tot]
  rw[e];exact Good.put (L:=0) ⟨λ_=>amD _,λf O=>absurd rfl O,by grind⟩ E.f0 E.f1 (by omega) (by grind)
 ·refine⟨0,by omega,?_⟩;have e:B0 d r=λ_=>0:=by
   funext f
   unfold B0;omega
  have t0:∀ n,tot n (λ_=>0)=0:=λn=>by
   induction n with
   |zero=>rfl|succ n U=>grind [tot]
  rw[e];exact⟨λ_=>amD _,λf O=>absurd rfl O,by grind⟩
theorem Wp(h:aw d=0):∃ m,aj (cS d) d.ai.length 0 []=.inr m/\aqj d m/\bk m=B0 d:=by
 obtain⟨m,h1,h2,V⟩:=la (step:=cS d) (λk (m:BM) =>(kG m).Nodup/\bk m=λr f=>if r< (k:Int)then B0 d r f else 0) d.ai.length 0 ([]:BM) ⟨by simp[kG],by
   funext r f
   by_cases E:r< ((0:Nat):Int)
   rw[if_pos E];unfold B0 bk;rw[if_neg (by omega)];rfl;rw[if_neg E];rfl⟩ (λj m _ W ⟨U,O⟩ =>by
  rw[alQ]at W;unfold cS;by_cases X:(d.ai.getD j default).kind=1
  rw[show((d.ai.getD j default).kind==1)=true by rw[X];rfl];refine⟨_,rfl,(uW _ _ _ U).1,?_⟩;rw[K2,O];funext r f
  by_cases E:r=(j:Int)
  subst E;simp only[if_true];unfold jB B0;grind
  simp only[if_neg E];omega;rw[show((d.ai.getD j default).kind==1)=false by grind];refine⟨_,rfl,U,?_⟩;rw[O];funext r f
  by_cases E:r=(j:Int)
  simp_all [B0];omega)
 have e:bk m=B0 d:=by
  rw[V];funext r f
  split
  rfl;unfold B0;omega
 refine⟨m,h1,⟨h2,λr=>?_⟩,e⟩;rw[e];exact adj h r
theorem S_(h:aw d=0){ds:List bh}(hd:∀ x∈ds,Fit d x/\x.kind≠4)(hl:ds.length<=512):
  k_ d ds/\∃ m,eV d ds=(m,wj (Zi ds (B0 d)))/\aqj d m/\bk m=o4 ds (B0 d):=by
 obtain⟨X,W,V,b0⟩:=Wp h;obtain⟨q1,m1,E,Y,U⟩:=I7 (d:=d) ds ds hd [] X V (by grind [dI]);rw[alR]at E;rw[b0]at E U;refine⟨λ_ z O=>?_,m1,?_,Y,U⟩;rw[W]at O;cases O;refine⟨We ds,?_⟩;grind [xX]
 grind [eV,xX]
def iZ (d:ah)(l:List bh)(hour known:Int):Int->Int->Int:=o4 (stS (Ax l hour known)) (B0 d)
def xv (d:ah)(B:Int->Int->Int)(r f:Nat):Option ao0:=if 0<B r f then some { right:=(r:Int),dd:=(f:Int),bo:=B r f,ao8:=(d.ai.getD r default).ao8}else none
def jv (d:ah)(B:Int->Int->Int)(r:Nat):List ao0:=(List.range d.l5.length).filterMap (xv d B r)
def re (d:ah)(B:Int->Int->Int):List ao0:=(List.range d.ai.length).flatMap (jv d B)
variable {B:Int->Int->Int}{x:ao0}
theorem o5{r:Nat}:x∈jv d B r↔∃ f:Nat,f<d.l5.length/\0<B r f/\x= { right:=(r:Int),dd:=(f:Int),bo:=B r f,ao8:=(d.ai.getD r default).ao8}:=by
 unfold jv xv;grind
theorem x7:x∈re d B↔0<=x.right/\x.right< (d.ai.length:Int)/\0<=x.dd/\x.dd< (d.l5.length:Int)/\0<x.bo/\x.bo=B x.right x.dd/\x.ao8=(d.ai.getD x.right.toNat default).ao8:=by
 unfold re;rw[am0];constructor
 rintro⟨r,U,E⟩;rw[am_]at U;obtain⟨f,V,O,rfl⟩:=o5.1 E;grind
 rintro⟨a,b,c,e,O,h1,h2⟩;refine⟨x.right.toNat,am_.2 (by omega),o5.2 ⟨x.dd.toNat,by omega,?_,?_⟩⟩;grind
 rw[anm a,anm c,<-h1,<-h2]
def ND:∀ n:Nat,(List.range n).Pairwise (· < ·):=λn=>List.pairwise_lt_range
theorem vN (d:ah)(B:Int->Int->Int):(re d B).Pairwise hlt:=by
 unfold re;rw[aoH];refine⟨λr _=>?_,?_⟩;unfold jv;rw[anT];refine(ND _).imp λ{a b} O x E y hy=>?_;unfold xv at E hy;split at E
 split at hy
 cases E;cases hy;exact Or.inr ⟨rfl,Or.inl (by grind)⟩;cases hy;cases E;refine(ND _).imp λ{a b} O x E y hy=>?_;obtain⟨f,_,_,rfl⟩:=o5.1 E;obtain⟨g,_,_,rfl⟩:=o5.1 hy;simp only[hlt,oq,and_false,or_false];omega
theorem Zk (x:ao0):¬hlt x x:=by simp only[hlt,oq,and_false,or_false];omega
theorem Ta {l:List ao0}(h:l.Pairwise hlt):l.Nodup:=h.imp λ{a b} E e=>by subst e;exact Zk _ E
theorem uX {α β:Type}(f:α->List β)(k:Nat):∀ l:List α,(∀ a∈l,(f a).length<=k)->(l.flatMap f).length<=l.length*k
 | [],_=>by simp
 |a::l,h=>by
  have h1:=h a al4;have h2:=uX f k l λb E=>h b (al2 _ E);rw[al5,alN,alL,aof,Nat.one_mul];omega
theorem BY(E:aps d)(B:Int->Int->Int):(re d B).length<=153600:=by
 have h1:=uX (jv d B) 600 (List.range d.ai.length) λr _=>alW (ank _ _) (by rw[anj];exact E.l5);rw[anj]at h1;have:=E.ai;show((List.range d.ai.length).flatMap (jv d B)).length<=_;omega
def sY (d:ah)(k:pq×Int):Option ao0:=if 0<k.2 then some { right:=k.1.right,dd:=k.1.dd,bo:=k.2,ao8:=(d.ai.getD (Int.toNat k.1.right) default).ao8}else none
theorem K3 (d:ah)(l:List bh)(h n:Int):∀ (L:BM) (s:List ao0),di (eQ d l h n) L s=.inr (s++L.filterMap (sY d))
 | [],s=>by simp[di]
 |k::L,s=>by
  by_cases E:0<k.2
  have e:sY d k=some { right:=k.1.right,dd:=k.1.dd,bo:=k.2,ao8:=(d.ai.getD (Int.toNat k.1.right) (default:apu)).ao8}:=by unfold sY;grind
  rw[aok e];simp only[di];unfold eQ;rw[decide_eq_true (show k.2 > 0 from E)];simp only[cond_true];have:=K3 d l h n L (s++[{ right:=k.1.right,dd:=k.1.dd,bo:=k.2,ao8:=(d.ai.getD (Int.toNat k.1.right) (default:apu)).ao8}]);unfold eQ at this;grind
  have e:sY d k=none:=by unfold sY;grind
  rw[aol e];simp only[di];unfold eQ;rw[decide_eq_false (show ¬k.2 > 0 from E)];simp only[cond_false];have:=K3 d l h n L s;unfold eQ at this;exact this
theorem PN (d:ah)(l:List bh)(h n:Int):∀ (L:BM) (s:List ao0),(∀ k∈L,0<k.2->0<=k.1.right/\k.1.right< (d.ai.length:Int))->(s.length+(L.filterMap (sY d)).length)*32<=dI->okL (eQ d l h n) (mA d l h n) L s
 | [],_,_,_=>trivial
 |k::L,s,V,U=>by
  by_cases O:0<k.2
  have e:sY d k=some { right:=k.1.right,dd:=k.1.dd,bo:=k.2,ao8:=(d.ai.getD (Int.toNat k.1.right) (default:apu)).ao8}:=by unfold sY;grind
  rw[aok e,alL]at U;refine⟨λ_=>⟨V k al4 O,by grind⟩,λs' E=>?_⟩;unfold eQ at E;rw[decide_eq_true (show k.2 > 0 from O)]at E;cases E;exact PN d l h n L _ (λq W=>V q (al2 _ W)) (by grind);have e:sY d k=none:=by unfold sY;grind
  rw[aol e]at U;refine⟨λh=>absurd (of_decide_eq_true h) O,λs' E=>?_⟩;unfold eQ at E;rw[decide_eq_false (show ¬k.2 > 0 from O)]at E;cases E;exact PN d l h n L _ (λq W=>V q (al2 _ W)) U
theorem Rk {d:ah}{r:Int}(E:¬ (0<=r/\r< (d.ai.length:Int))):∀ (ds:List bh) (B:Int->Int->Int),(∀ x∈ds,Fit d x/\x.kind≠4)->o4 ds B r=B r
 | [],B,_=>rfl
 |x::ds,B,h=>by
  have h1:=h x al4;have h2:=h1.1.held h1.2;show o4 ds (nr x B) r=_;rw[Rk E ds _ λy hy=>h y (al2 _ hy)];unfold nr;grind
variable {l:List bh}
theorem AF(h:aqW d l)(hour known:Int):∀ x∈stS (Ax l hour known),Fit d x/\x.kind≠4:=λx E=>by
 have E:=Y_.1 E;unfold Ax at E;rw[ang]at E;refine⟨h.fit x E.1,λe=>?_⟩;grind
def Rl (l:List bh):(stS l).length=l.length:=(uV (xn l)).symm
def Zl {α:Type}{a b:List α}(O:a.Nodup)(E:b.Nodup)(h:∀ x,x∈a↔x∈b):a.Perm b:=(List.perm_ext_iff_of_nodup O E).2 h
theorem Tb(h:aqW d l)(V:aqj d m){hour known:Int}(hb:bk m=iZ d l hour known):
  (m.filterMap (sY d)).Perm (re d (iZ d l hour known))/\∀ k∈m,0<k.2->0<=k.1.right/\k.1.right< (d.ai.length:Int):=by
 have O:∀ (t:pq) (v:Int),(t,v)∈m->bk m t.right t.dd=v:=λt v Y=>by
  have:=(Gh V.nodup).2 Y;show(iv m { right:=t.right,dd:=t.dd}).getD _=v;grind
 have U:∀ k∈m,0<k.2->0<=k.1.right/\k.1.right< (d.ai.length:Int):=λk W X=>by
  rcases aoA (0<=k.1.right/\k.1.right< (d.ai.length:Int))with hr|hr;exact hr;have e:=O k.1 k.2 W;rw[hb]at e;unfold iZ at e;rw[Rk hr _ _ (AF h hour known)]at e;unfold B0 at e;omega
 refine⟨Zl ?_ (Ta (vN _ _)) λx=>?_,U⟩;rw[List.Nodup,anT];have:m.Pairwise λa b=>a.1≠b.1:=by
  have:=V.nodup;grind [kG]
 refine this.imp λ{a b} hab x E y hy=>?_;unfold sY at E hy;split at E
 split at hy
 cases E;cases hy;intro e;simp only[ao0.mk.injEq]at e;refine hab ?_;obtain⟨⟨a1,a2⟩,a3⟩:=a;simp_all;cases hy;cases E;rw[aoW,x7];constructor
 rintro⟨k,W,E⟩;unfold sY at E;split at E
 rename_i X;cases E;have e:=O k.1 k.2 W;obtain⟨a,b⟩:=U k W X;obtain⟨L,_,hg⟩:=V.good k.1.right;obtain⟨c,f⟩:=hg.sup k.1.dd (by rw[e];omega);simp_all;cases E;rintro⟨a,b,c,f,X,h1,h2⟩;rw[<-hb]at h1;have h3:iv m (RT x.right x.dd)=some x.bo:=by
  have e:bk m x.right x.dd=(iv m (RT x.right x.dd)).getD 0:=rfl;cases hg:iv m (RT x.right x.dd) <;>grind
 refine⟨(RT x.right x.dd,x.bo),(Gh V.nodup).1 h3,?_⟩;unfold sY;rw[if_pos X];simp only[alK];rw[<-h2]
open Go.Shelf Go.Sort in
variable {d:ah}{B:Int->Int->Int}
theorem I8{s:List ao0}(h:s.Perm (re d B)):apart cO s/\srt cO s=re d B:=by
 have e1:∀ x y,ltOf cO x y=true↔hlt x y:=λx y=>by unfold ltOf;rw[decide_eq_true_eq,FH]
 have E:∀ x y,ltOf cO x y=false↔¬hlt x y:=λx y=>by grind
 have W:∀ x∈re d B,∀ y∈re d B,¬hlt x y->¬hlt y x->x=y:=λx O y hy h1 h2=>by
  obtain⟨_,_,_,_,_,x1,x2⟩:=x7.1 O;obtain⟨_,_,_,_,_,y1,y2⟩:=x7.1 hy;simp only[hlt,oq,and_false,or_false]at h1 h2;have q1:x.right=y.right:=by omega
  have q2:x.dd=y.dd:=by omega
  obtain⟨a,b,c,e⟩:=x;obtain⟨a',Y,c',e'⟩:=y;grind
 refine⟨λx O y hy h1 h2=>W x (h.subset O) y (h.subset hy) ((E x y).1 h1) ((E y x).1 h2),?_⟩;unfold srt;have X:(s.mergeSort λx y=>!(ltOf cO y x)).Perm (re d B):=(amE _ _).trans h;refine amJ (le:=λx y=>(!ltOf cO y x)=true) ?_ ?_ ?_ X;grind
 refine amz ?_ ?_ s;intro a b c h1 h2;simp only[al0]at h1 h2 |-;exact CK.3 c b a h2 h1;intro a b;simp only[ama,al0];rcases aoA (hlt b a)with hh|hh;refine .inr ((E _ _).2 λU=>?_);simp only[hlt,oq,and_false,or_false]at hh U;omega;grind
 refine(vN d B).imp λ{a b} V=>?_;simp only[al0];refine(E _ _).2 λU=>?_;simp only[hlt,oq,and_false,or_false]at V U;omega
theorem I9 (d:ah)(l:List bh)(hour known:Int):qt d l hour known/\
  ay d l hour known=if a8 d l≠0 then([],a8 d l)else if 0<=hour/\hour<d.hours/\0<=known/\known<=1048576 then(re d (iZ d l hour known),0)else([],1):=by
 by_cases hc:a8 d l=0
 have E:=sR hc;have hE:=((xV d l).1 hc).1;have hh:=E.right.hours;have hh1:=E.right.aqx;have hw:((!(aP hour 0 (i64.wrap (d.hours - 1)))) ||(!(aP known 0 1048576)))= !decide (0<=hour/\hour<d.hours/\0<=known/\known<=1048576):=by
  rw[aA (by omega) (by omega),<-Bool.not_and];congr 1
  rw[amo,alG,vG,vG,decide_eq_true_eq];omega
 obtain⟨c1,Y⟩:=Ng l hour known E.len;have O:(stS (Ax l hour known)).length<=512:=by rw[Rl];exact alW (amv _ _) E.len
 obtain⟨f1,m,f2,f3,f4⟩:=S_ hE (AF E hour known) O;obtain⟨p1,p2⟩:=Tb E f3 (hour:=hour) (known:=known) f4;have key:∀ L:BM,L.Perm m->(L.filterMap (sY d)).Perm (re d (iZ d l hour known)):=λL V=>(V.filterMap _).trans p1;have val:ay d l hour known=if 0<=hour/\hour<d.hours/\0<=known/\known<=1048576 then(re d (iZ d l hour known),0)else([],1):=by
  unfold ay;rw[hc,hw,Y,f2];simp only[bne_self_eq_false,cond_false];by_cases W:0<=hour/\hour<d.hours/\0<=known/\known<=1048576
  rw[decide_eq_true W,if_pos W];simp only[alZ,cond_false];rw[K3,alR];simp only;rw[(I8 (key m (List.Perm.refl _))).2];grind
 refine⟨⟨uT d l,(λh=>by grind),λ_=>⟨λh=>?_,λh=>?_⟩⟩,by grind⟩;grind
 rw[hw]at h;have W:0<=hour/\hour<d.hours/\0<=known/\known<=1048576:=by simpa using h
 rw[Y,f2];refine⟨c1,f1,λL V=>?_⟩;have U:=key L V;refine⟨PN d l hour known L [] (λk U=>p2 k (V.subset U)) ?_,λs X=>?_⟩;have h1:=U.length_eq;have h2:=BY E.right (iZ d l hour known);grind [dI]
 rw[K3,alR]at X;cases X;obtain⟨s1,s2⟩:=I8 U;grind
 have hne:(a8 d l !=0)=true:=by grind
 have val:ay d l hour known=([],a8 d l):=by grind [ay]
 refine⟨⟨uT d l,(λ_=>val.symm),λh=>?_⟩,by grind⟩;grind
variable {l:List bh}
theorem Gn{known n:Int}:pN l known n=true↔∃ u∈l,u.kind=4/\u.known<=known/\u.of_=n:=by
 simp_all [pN,and_assoc]
def lv (l:List bh)(hour known:Int)(x:bh):Bool:= !((((x.kind==4) ||(decide (x.known > known))) ||(decide (x.at_ > hour))) ||pN l known x.no)
def Zm (r:Int):List ao0->Int
 | [] =>0|x::l=>(if x.right=r then x.bo else 0)+Zm r l
theorem K4 {d:ah}{r:Int}{L:Int}:∀ (ds:List bh) (B:Int->Int->Int),(∀ x∈ds,Fit d x/\x.kind≠4)->Good d.l5.length L (B r)->Good d.l5.length L (o4 ds B r)/\((∀ x∈ds,x.right=r->x.kind≠3)->tot d.l5.length (o4 ds B r)=tot d.l5.length (B r))
 | [],B,_,E=>⟨E,λ_=>rfl⟩
 |x::ds,B,h,E=>by
  have O:=h x al4;have h1:Good d.l5.length L (nr x B r)/\((x.right=r->x.kind≠3)->tot d.l5.length (nr x B r)=tot d.l5.length (B r)):=by
   unfold nr;by_cases e:r=x.right
   rw[if_pos e];obtain⟨U,W⟩:=NC O.1 O.2 E;grind
   grind
  obtain⟨U,W⟩:=K4 ds (nr x B) (λy hy=>h y (al2 _ hy)) h1.1;exact⟨U,λV=>(W λy hy=>V y (al2 _ hy)).trans (h1.2 (V x al4))⟩
theorem NE {d:ah}{r:Int}(E:¬ (0<=r/\r< (d.ai.length:Int)/\(d.ai.getD r.toNat default).kind=1)):∀ (ds:List bh) (B:Int->Int->Int),(∀ x∈ds,Fit d x/\x.kind≠4)->o4 ds B r=B r
 | [],B,_=>rfl
 |x::ds,B,h=>by
  have h1:=h x al4;have h2:=h1.1.held h1.2;show o4 ds (nr x B) r=_;rw[NE E ds _ λy hy=>h y (al2 _ hy)];unfold nr;grind
theorem t0:∀ n,tot n (λ_=>0)=0:=λn=>by
 induction n with
 |zero=>rfl|succ n E=>grind [tot]
theorem Rm(h:aw d=0){k:Nat}(V:k<d.ai.length)(O:(d.ai.getD k default).kind=1):Good d.l5.length (d.ai.getD k default).bo (B0 d k)/\tot d.l5.length (B0 d k)=(d.ai.getD k default).bo:=by
 have E:=DV h V O;have W:=E.l0;have e:B0 d k=jB (λ_=>0) (d.ai.getD k default).dd (d.ai.getD k default).bo:=by
  funext f
  unfold B0 jB;grind
 rw[e];refine⟨Good.put (L:=0) ⟨λ_=>amD _,λf U=>absurd rfl U,by grind [t0]⟩ E.f0 E.f1 (by omega) (by rw[t0];omega),?_⟩;rw[vK _ _ _ _ E.f0 E.f1,t0];omega
theorem Zn{r:Int}(E:¬ (0<=r/\r< (d.ai.length:Int)/\(d.ai.getD r.toNat default).kind=1)):B0 d r=λ_=>0:=by
 funext f
 unfold B0;omega
structure arj (d:ah)(B:Int->Int->Int):Prop where
 nn:∀ r f,0<=B r f
 take:∀ k,k<d.ai.length->(d.ai.getD k default).kind=1->Good d.l5.length (d.ai.getD k default).bo (B k)
 other:∀ r:Int,¬ (0<=r/\r< (d.ai.length:Int)/\(d.ai.getD r.toNat default).kind=1)->B r=λ_=>0
theorem NF(h:aw d=0){ds:List bh}(hd:∀ x∈ds,Fit d x/\x.kind≠4):arj d (o4 ds (B0 d)):=by
 have U:∀ k,k<d.ai.length->(d.ai.getD k default).kind=1->Good d.l5.length (d.ai.getD k default).bo (o4 ds (B0 d) k):=λk W O=>(K4 ds _ hd (Rm h W O).1).1;have V:∀ r:Int,¬ (0<=r/\r< (d.ai.length:Int)/\(d.ai.getD r.toNat default).kind=1)->o4 ds (B0 d) r=λ_=>0:=λr E=>(NE E ds _ hd).trans (Zn E);refine⟨λr f=>?_,U,V⟩;by_cases E:0<=r/\r< (d.ai.length:Int)/\(d.ai.getD r.toNat default).kind=1
 have:=(U r.toNat (by omega) E.2.2).nn f;grind
 grind
theorem arj.le(h:arj d B)(V:aw d=0)(r f:Int):B r f<=1073741824:=by
 by_cases E:0<=r/\r< (d.ai.length:Int)/\(d.ai.getD r.toNat default).kind=1
 have U:=h.take r.toNat (by omega) E.2.2;have O:=DV V (k:=r.toNat) (by omega) E.2.2;have:=U.le (by have:=O.l0;omega) f;rw[anm E.1]at this;have:=O.l1;omega;rw[h.other r E];simp
variable {α:Type}
theorem NG{step:Nat->List α->Empty⊕List α}(l:List α)(d:α)(P:α->Bool)(s0:List α)(h:∀ k s,k<l.length->step k s=bif P (l.getD k d)then .inr (s++[l.getD k d])else .inr s):aj step l.length 0 s0=.inr (s0++l.filter P):=by
 obtain⟨r,h1,h2⟩:=la (step:=step) (λk s=>s=s0++(l.take k).filter P) l.length 0 s0 (by simp) (λj s _ E O=>by
  rw[alQ]at E;grind [b9])
 grind
theorem NH{step:Nat->List α->Empty⊕List α}{p:Nat->List α->Prop}(l:List α)(d:α)(P:α->Bool)(s0:List α)(h:∀ k s,k<l.length->step k s=bif P (l.getD k d)then .inr (s++[l.getD k d])else .inr s)(O:∀ k s,k<l.length->s.length<=s0.length+k->p k s):okI step p l.length 0 s0:=by
 refine jk (λk s=>s.length<=s0.length+k) _ _ _ (alJ _) λj s _ U E=>⟨O j s (by omega) E,λs' e=>?_⟩;grind
theorem adk (l:List bh)(x:bh)(known:Int):p8 l x known=pN l known x.no:=by
 unfold p8;cases U:aj (kQ l x known) l.length 0 ()with
 |inr s=>
  have h:=gP.1 U
  symm
  rw[<-anp,Gn];rintro⟨u,E,a,b,c⟩;obtain⟨j,O,rfl⟩:=amk.1 E;grind [kQ]
 |inl y=>
  cases hc:pN l known x.no with
  |true=>rfl
  |false=>
   have:aj (kQ l x known) l.length 0 ()=.inr ():=gP.2 λj O=>by
    unfold kQ;have h2:¬ ((l.getD j default).kind=4/\(l.getD j default).of_=x.no/\(l.getD j default).known<=known):=λ⟨a,b,c⟩ =>by
     have:pN l known x.no=true:=Gn.2 ⟨l.getD j default,by grind,a,c,b⟩;grind
    grind
   grind
def qv (l:List bh)(known:Int)(x:bh):Bool:=(x.kind !=4)&&(decide (x.known<=known))&& !pN l known x.no
theorem ah2 (l:List bh)(hour known:Int)(x:bh):lv l hour known x=(qv l known x&&decide (x.at_<=hour)):=by
 grind [lv,qv]
theorem PO(V:aqW d l)(hour known:Int):jV l hour known/\dg l hour known=stS (Ax l hour known):=by
 have hl:=V.len;have stp:∀ (s:List bh×Int) k (t:List bh),k<l.length->g9 l known s k t=bif((l.getD k default).at_==s.2)&&qv l known (l.getD k default)then .inr (t++[l.getD k default])else .inr t:=λs k t hk=>by
  grind [g9,qv,adk]
 obtain⟨Y,r,k2,k3,W⟩:okI (fV l hour known) (iq l hour known) (Int.toNat hour+2) 0 ([],0)/\∃ r,aj (fV l hour known) (Int.toNat hour+2) 0 ([],0)=.inl r/\Y1 (Ax l hour known) r/\Srt r:=by
  refine yp (λs:List bh×Int=>((Int.toNat hour+1:Nat):Int).toNat - s.2.toNat) (λs:List bh×Int=>∃ k:Nat,s.2=(k:Int)/\k<=4097/\(k=0\/(k:Int)<=hour+1)/\Srt s.1/\(∀ x∈s.1,x.at_< (k:Int))/\Y1 (l.filter λx=>qv l known x&&decide (x.at_< (k:Int))) s.1/\s.1.length<=512) _ ?_ _ _ _ ⟨0,rfl,by omega,.inl rfl,List.Pairwise.nil,by simp,?_,by simp⟩ (by omega);rintro j ⟨o,a⟩ ⟨k,rfl,h1,X,h2,h3,h4,h5⟩;unfold iq fV;by_cases hc:(k:Int)<=4096/\(k:Int)<=hour
  have e:((decide ((k:Int)<=4096))&&(decide ((k:Int)<=hour)))=true:=by grind
  simp only[e];have er:=NG (step:=g9 l known (o,(k:Int))) l default (λx=>(x.at_==(k:Int))&&qv l known x) o (stp _);rw[er];simp only[cond_true];have E:Y1 (l.filter λx=>qv l known x&&decide (x.at_< ((k+1:Nat):Int))) (o++l.filter λx=>(x.at_==(k:Int))&&qv l known x):=λt=>by
   rw[aoe,<-h4 t,ans,ans,ans];by_cases ht:t< (k:Int)
   have e2:l.filter (λa=>(a.at_==t)&&((a.at_==(k:Int))&&qv l known a))=[]:=by
    grind [List.filter_eq_nil_iff]
   grind
   have e2:l.filter (λa=>(a.at_==t)&&(qv l known a&&decide (a.at_< (k:Int))))=[]:=by
    simp_all
   grind
  have O:(o++l.filter λx=>(x.at_==(k:Int))&&qv l known x).length<=512:=by
   rw[<-uV E];grind
  have hf2:=amv (λx=>(x.at_==(k:Int))&&qv l known x) l;refine⟨λ_=>NH l default (λx=>(x.at_==(k:Int))&&qv l known x) o (stp _) λi s hi hs=>λ_ _=>by grind [dI],.inr ⟨_,rfl,?_,k+1,?_,by omega,.inr (by omega),?_,?_,E,O⟩⟩;grind [aA]
  grind [aA]
  refine BP h2 (List.pairwise_of_forall_mem_list λx U y hy=>?_) λx U y hy=>?_ <;>grind;grind
  have e:((decide ((k:Int)<=4096))&&(decide ((k:Int)<=hour)))=false:=by grind
  simp only[e,cond_false];refine⟨(λh=>by cases h),.inl ⟨_,rfl,?_,h2⟩⟩;have:Ax l hour known=l.filter λx=>qv l known x&&decide (x.at_< (k:Int)):=by
   show l.filter (lv l hour known)=_;refine anV λx U=>?_;rw[ah2];have:=(V.fit x U).at0;have:=(V.fit x U).at1;grind
  grind
  intro t;rw[ans];show l.filter _=[];rw[aoB];intro a ha;have:=(V.fit a ha).at0;grind
 unfold jV dg;rw[k2];exact⟨⟨Y,λz h=>by cases h⟩,zo k3 W⟩
def ap4 (F:Nat)(s:List Int)(g:Int->Int):Prop:=s.length=F/\∀ f:Nat,f<F->s.getD f 0=g (f:Int)
variable {g:Int->Int}{f:Int}
theorem ap4.set{F:Nat}{s:List Int}(h:ap4 F s g){v:Int}(E:0<=f)(h1:f< (F:Int)):ap4 F (s.set f.toNat v) (jB g f v):=by
 refine⟨by rw[anO];exact h.1,λi hi=>?_⟩;have O:=h.1;unfold jB;by_cases e:i=f.toNat
 grind
 rw[if_neg (by omega),amZ,List.getElem?_set_ne (λh=>e h.symm),<-amZ,h.2 i hi]
theorem ap4.get{F:Nat}{s:List Int}(h:ap4 F s g)(E:0<=f)(h1:f< (F:Int)):s.getD f.toNat 0=g f:=by
 rw[h.2 f.toNat (by omega),anm E]
def zt (r:Int):List bh->(Int->Int->Int)->List Int
 | [],_=>[]|x::ds,B=>(if x.right=r/\B x.right x.since=0 then [x.no]else [])++zt r ds (nr x B)
variable {j:Nat}
theorem I_(ds:List bh)(B:Int->Int->Int)(E:j<ds.length):o4 (ds.take (j+1)) B=nr (ds.getD j default) (o4 (ds.take j) B):=by
 grind [b9,o4]
variable {r:Nat}
theorem Wq{ds:List bh}{x:bh}(ex:ds.getD j default=x)(hx:Fit d x)(hk:x.kind≠4){L:Int}(hL:L<=1073741824){e s:List Int}(Y:Good d.l5.length L g)(hs:ap4 d.l5.length s g)(he:(e.length+1)*8<=dI):
  g_ ds r j (e,s)/\∃ s',ik ds r j (e,s)=.inr (e++(if x.right=(r:Int)/\g x.since=0 then [x.no]else []),s')/\ap4 d.l5.length s' (if x.right=(r:Int)then zr x g else g):=by
 obtain⟨_,_,_,s0,s1⟩:=hx.held hk;have hsl:=hs.1;have gs:=hs.get s0 s1;unfold g_ ik lg d9 lh nJ;rw[ex];by_cases hr:x.right=(r:Int)
 have b0:(x.right !=(r:Int))=false:=by grind
 simp only[hr,bne_self_eq_false,cond_false,true_and,if_true];simp only[gs];have hlen:(e++[x.no]).length=e.length+1:=by simp
 by_cases hn:g x.since=0
 simp_all [zr];have b1:(g x.since==0)=false:=by grind
 rw[b1,if_neg hn];simp only[cond_false,al3];have hnn:=Y.nn x.since;have hle:=Y.aqQ (by omega) x.since;have r1:=hs.set (v:=0) s0 s1;have g1:Good d.l5.length (L - g x.since) (jB g x.since 0):=Y.put s0 s1 (amD _) (by have:=Y.tot;omega);have hgl:g x.since<=L:=aoy (Gi Y.nn _ _ s0 s1) Y.tot;have hl1:(s.set x.since.toNat 0).length=d.l5.length:=r1.1;by_cases k1:x.kind=1
 have c1:(x.kind==1)=true:=by rw[k1];rfl
 have c2:(x.kind==2)=false:=by rw[k1];rfl
 obtain⟨a,b,c⟩:=hx.pass k1;simp only[c1,c2,cond_true,cond_false,hl1];have gt:=r1.get a b;have hto:=g1.aqQ (by omega) x.to;rw[gt,aA (n:=jB g x.since 0 x.to+g x.since) (by omega) (by omega)];refine⟨λ_ _=>⟨by omega,(λh=>by cases h),λ_=>⟨by omega,λ_=>⟨by omega,by omega⟩,(λh=>by cases h)⟩⟩,_,rfl,?_⟩;unfold zr;rw[if_neg hn,if_pos k1];exact r1.set a b;have c1:(x.kind==1)=false:=by grind
 by_cases k2:x.kind=2
 have c2:(x.kind==2)=true:=by rw[k2];rfl
 simp only[c1,c2,cond_true,cond_false];have E:=hx.split k2;have h0:=hnn;obtain⟨l1,l2⟩:=K1 E (g x.since);generalize hn':g x.since=n at *;generalize hG:jB g x.since 0=g0 at *;generalize hS:s.set x.since.toNat 0=q0 at *;have V:∀ (i:Nat) (t:List Int×Int),i<x.parts.length->ap4 d.l5.length t.1 (rC (x.parts.take i) n g0)->t.2=n - dW (x.parts.take i) n->
   ((na (x.parts.getD i default).share n)/\((0<=(x.parts.getD i default).dd/\(x.parts.getD i default).dd< (t.1.length:Int))/\(0<=(x.parts.getD i default).dd/\(x.parts.getD i default).dd< (t.1.length:Int))))/\
   ap4 d.l5.length (t.1.set (x.parts.getD i default).dd.toNat (i64.wrap ((t.1.getD (x.parts.getD i default).dd.toNat 0)+(gf (x.parts.getD i default).share n).1))) (rC (x.parts.take (i+1)) n g0)/\i64.wrap (t.2 - (gf (x.parts.getD i default).share n).1)=n - dW (x.parts.take (i+1)) n:=λi t hi X q2=>by
  have hm:x.parts.getD i default∈x.parts:=by grind
  obtain⟨f0,f1,f2,f3⟩:=E.fit _ hm;obtain⟨tp,tv⟩:=PK f2 h0 (by omega:n<=1073741824);have elo:(gf (x.parts.getD i default).share n).1=loP (x.parts.getD i default) n:=tv;have hlo:=Nz f2 f3 h0;obtain⟨w1,w2⟩:=sp h0 (x.parts.take i) _ _ (E.fit.take _) g1;have key:∀ l:List Part,aqM d.l5.length l->0<=dW l n:=λl=>by
   induction l with
   |nil=>grind [dW]
   |cons p r ih=>
    intro hp;obtain⟨_,_,c,e⟩:=hp p al4;have:=Nz c e h0;have:=ih λq hq=>hp q (al2 _ hq);grind [dW]
  have Zm:∀ k,0<=dW (x.parts.take k) n/\dW (x.parts.take k) n<=dW x.parts n:=λk=>by
   have h1:=key _ (E.fit.take k);have h2:=key (x.parts.drop k) λp hp=>E.fit p (aoM hp);grind [List.take_append_drop,dW]
  have u1:=Zm i;have u2:=Zm (i+1);rw[b9 _ default hi,vL]at u2;have hv:=w1.aqQ (by omega) (x.parts.getD i default).dd;have gv:=X.get f0 f1;have hl:=X.1;rw[elo,gv,aA (n:=rC (x.parts.take i) n g0 (x.parts.getD i default).dd+loP (x.parts.getD i default) n) (by omega) (by omega),q2,aA (by omega) (by omega),b9 _ default hi,vL,I6];exact⟨⟨tp,by omega,by omega⟩,X.set f0 f1,by omega⟩
 have eL:=la (step:=λ(O:Nat) (W:List Int×Int) =>(.inr ((W.1.set (Int.toNat ((x.parts.getD O (default:Part)).dd)) (i64.wrap ((W.1.getD (Int.toNat ((x.parts.getD O (default:Part)).dd)) (0:Int))+(gf ((x.parts.getD O (default:Part)).share) n).1))),(i64.wrap (W.2 - (gf ((x.parts.getD O (default:Part)).share) n).1))):Empty⊕(List Int×Int))) (λi t=>ap4 d.l5.length t.1 (rC (x.parts.take i) n g0)/\t.2=n - dW (x.parts.take i) n) x.parts.length 0 (q0,n) ⟨by grind [rC],by simp[dW]⟩ (λi t _ hi ⟨X,q2⟩ =>by
  grind)
 obtain⟨⟨t1,lf⟩,e1,a1,a2⟩:=eL;rw[alQ,ano]at a1 a2;simp only at a1 a2;obtain⟨X,q2⟩:=sp h0 x.parts _ _ E.fit g1;have U:∀ (i:Nat) (t:List Int),i<lf.toNat->ap4 d.l5.length t (oZ (x.parts.take i) (rC x.parts n g0))->
   (((0<=(i:Int)/\(i:Int) < ((x.parts).length:Int))/\((0<=(x.parts.getD i (default:Part)).dd/\(x.parts.getD i (default:Part)).dd< (t.length:Int))/\(0<=(x.parts.getD i (default:Part)).dd/\(x.parts.getD i (default:Part)).dd< (t.length:Int)))))/\
   ap4 d.l5.length (t.set (x.parts.getD i default).dd.toNat (i64.wrap ((t.getD (x.parts.getD i default).dd.toNat 0)+1))) (oZ (x.parts.take (i+1)) (rC x.parts n g0)):=λi t hi p1=>by
  have hi':i<x.parts.length:=by omega
  have hm:x.parts.getD i default∈x.parts:=by grind
  obtain⟨f0,f1,f2,f3⟩:=E.fit _ hm;obtain⟨w1,w2⟩:=vM (x.parts.take i) _ _ (E.fit.take _) X;have hlen:(x.parts.take i).length=i:=by grind
  have hv:=w1.aqQ (by omega) (x.parts.getD i default).dd;have gv:=p1.get f0 f1;have hl:=p1.1;rw[gv,aA (by omega) (by omega),b9 _ default hi',Gm];exact⟨⟨⟨by omega,by omega⟩,⟨by omega,by omega⟩⟩,p1.set f0 f1⟩
 obtain⟨t2,e2,b1⟩:=la (step:=λ(k_2:Nat) (s_2:List Int) =>(.inr (s_2.set (Int.toNat ((x.parts.getD k_2 (default:Part)).dd)) (i64.wrap ((s_2.getD (Int.toNat ((x.parts.getD k_2 (default:Part)).dd)) (0:Int))+1))):Empty⊕(List Int))) (λi t=>ap4 d.l5.length t (oZ (x.parts.take i) (rC x.parts n g0))) lf.toNat 0 t1 (by grind [oZ]) (λi t _ hi q=>by
  grind)
 rw[alQ]at b1;rw[e1];simp only[e2];refine⟨λ_ _=>⟨by omega,(λh=>by cases h),λ_=>⟨by omega,(λh=>by cases h),λ_=>⟨?_,λz hz=>?_⟩⟩⟩,t2,rfl,?_⟩;refine jk (λi t=>ap4 d.l5.length t.1 (rC (x.parts.take i) n g0)/\t.2=n - dW (x.parts.take i) n) _ _ _ ⟨by grind [rC],by simp[dW]⟩ λi t _ hi q=>⟨λ_=>(V i t (by omega) q.1 q.2).1,λt' ht=>by grind⟩;cases hz;have hpl:=E.len;refine⟨by omega,jk (λi t=>ap4 d.l5.length t (oZ (x.parts.take i) (rC x.parts n g0))) _ _ _ (by grind [oZ]) λi t _ hi q=>⟨(U i t (by omega) q).1,λt' ht=>by grind⟩⟩;simp_all [zr,BX];have c2:(x.kind==2)=false:=by grind
 simp only[c1,c2,cond_false];simp_all [zr];grind
theorem ah3(h:aw d=0)(hR:aps d){ds:List bh}(hd:∀ x∈ds,Fit d x/\x.kind≠4)(hl:ds.length<=512)(Y:r<d.ai.length)(hk:(d.ai.getD r default).kind=1):
  oT d ds (r:Int)/\∃ s,eD d ds (r:Int)=(s,zt r ds (B0 d))/\ap4 d.l5.length s (o4 ds (B0 d) r):=by
 have O:=DV h Y hk;have hfl:=hR.l5;have hrl:=hR.ai;obtain⟨bg,bt⟩:=Rm h Y hk;have hg:∀ j,Good d.l5.length (d.ai.getD r default).bo (o4 (ds.take j) (B0 d) r):=λj=>(K4 (ds.take j) _ (λx hx=>hd x (ani hx)) bg).1;have h0:ap4 d.l5.length ((List.replicate (Int.toNat (d.l5.length:Int)) (0:Int)).set (Int.toNat ((d.ai.getD (Int.toNat (r:Int)) (default:apu)).dd)) (d.ai.getD (Int.toNat (r:Int)) (default:apu)).bo) (B0 d r):=by
  rw[alI,alI];have h1:ap4 d.l5.length (List.replicate d.l5.length 0) (λ_=>0):=⟨by simp,λf hf=>by grind⟩;have h2:=h1.set (v:=(d.ai.getD r default).bo) O.f0 O.f1;have e:B0 d r=jB (λ_=>0) (d.ai.getD r default).dd (d.ai.getD r default).bo:=by
   funext f
   unfold B0 jB;grind
  grind
 have E:∀ j,j<ds.length->ds.drop j=ds.getD j default::ds.drop (j+1):=λj U=>by simp_all
 have elen:∀ (l:List bh) (B:Int->Int->Int),(zt r l B).length<=l.length:=λl=>by
  induction l with
  |nil=>grind [zt]
  |cons x l ih=>
   grind [zt]
 have step:∀ j (s:List Int×List Int),j<ds.length->s.1++zt r (ds.drop j) (o4 (ds.take j) (B0 d))=zt r ds (B0 d)->ap4 d.l5.length s.2 (o4 (ds.take j) (B0 d) r)->
   g_ ds r j s/\∃ s',ik ds r j s=.inr s'/\s'.1++zt r (ds.drop (j+1)) (o4 (ds.take (j+1)) (B0 d))=zt r ds (B0 d)/\ap4 d.l5.length s'.2 (o4 (ds.take (j+1)) (B0 d) r):=λj s U j1 X=>by
  obtain⟨e,s⟩:=s;have hm:ds.getD j default∈ds:=by grind
  have hlen:e.length<=512:=by
   grind
  obtain⟨q1,s',q2,q3⟩:=Wq (ds:=ds) (j:=j) (r:=r) rfl (hd _ hm).1 (hd _ hm).2 O.l1 (e:=e) (hg j) X (by unfold dI;omega);refine⟨q1,_,q2,?_,?_⟩;rw[<-j1,E j U,I_ ds (B0 d) U];simp only[zt];grind
  rw[I_ ds (B0 d) U];show ap4 _ s' (if(r:Int)=(ds.getD j default).right then zr _ (o4 (ds.take j) (B0 d) r)else _);grind
 obtain⟨⟨e,s⟩,r1,W,V⟩:=la (step:=ik ds r) (λj s=>s.1++zt r (ds.drop j) (o4 (ds.take j) (B0 d))=zt r ds (B0 d)/\ap4 d.l5.length s.2 (o4 (ds.take j) (B0 d) r)) ds.length 0 ([],_) ⟨by simp[o4],h0⟩ (λj s _ U ⟨j1,X⟩ =>by
  grind)
 rw[alQ,ano]at W V;rw[aoq]at W;simp only[zt,al3]at W V;refine⟨λ_=>⟨⟨rfl,by omega,by unfold dI;omega⟩,λ_=>⟨by omega,by omega,?_,?_⟩⟩,s,?_,V⟩;rw[alI];simp only[List.length_replicate,alI];exact⟨O.f0,O.f1⟩;exact jk (λj s=>s.1++zt r (ds.drop j) (o4 (ds.take j) (B0 d))=zt r ds (B0 d)/\ap4 d.l5.length s.2 (o4 (ds.take j) (B0 d) r)) _ _ _ ⟨by simp[o4],h0⟩ λj s _ U hs=>⟨(step j s (by omega) hs.1 hs.2).1,λs' h=>by
  grind⟩
 grind [eD]
theorem H7(h:B r=λ_=>0):jv d B r=[]:=by
 rw[an0];intro x E;obtain⟨f,_,O,_⟩:=o5.1 E;grind
theorem ar_ (d:ah)(l:List bh)(hour known:Int):sT d l hour known/\jW d l hour known=ay d l hour known:=by
 rw[(I9 d l hour known).2];unfold sT jW;rw[Rj];cases hc:(a8 d l !=0)with
 |true=>
  refine⟨⟨xZ d l,(λh=>by cases h)⟩,?_⟩;grind
 |false=>
  have hc:a8 d l=0:=by grind
  have E:=sR hc;have hE:=((xV d l).1 hc).1;rw[if_neg (by simp[hc])];simp only[cond_false];by_cases hg:0<=hour/\hour<d.hours/\0<=known/\known<=1048576
  have e:((((decide (hour<0)) ||(decide (hour>=d.hours))) ||(decide (known<0))) ||(decide (known > 1048576)))=false:=by
   grind
  rw[e,if_pos hg];simp only[cond_false];obtain⟨c1,c2⟩:=PO E hour known;have V:=AF E hour known;have W:(stS (Ax l hour known)).length<=512:=by rw[Rl];exact alW (amv _ _) E.len
  have hH:=NF hE V;have hB:iZ d l hour known=o4 (stS (Ax l hour known)) (B0 d):=rfl;have hcl:=BY E.right (iZ d l hour known);have hfl:=E.right.l5;have hrl:=E.right.ai;have row:∀ (j:Nat) (s:List ao0),j<d.ai.length->s=(List.range j).flatMap (jv d (iZ d l hour known))->ni d l hour known j s/\oi d l hour known j s=.inr ((List.range (j+1)).flatMap (jv d (iZ d l hour known))):=λj s hj O=>by
   rw[aoD,anK,al5,amR,al3,<-O];have Y:s.length<=j*600:=by
    rw[O];have:=uX (jv d (iZ d l hour known)) 600 (List.range j) λr _=>alW (ank _ _) (by grind);grind
   unfold ni oi;by_cases hk:(d.ai.getD j default).kind=1
   have b:((d.ai.getD j default).kind !=1)=false:=by rw[hk];rfl
   rw[b];simp only[cond_false];obtain⟨p1,q,p2,p3⟩:=ah3 hE E.right V W hj hk;have X:∀ (i:Nat) (t:List ao0),i<d.l5.length->t=s++(List.range i).filterMap (xv d (iZ d l hour known) j)->nh d l hour known j i t/\oh d l hour known j i t=.inr (s++(List.range (i+1)).filterMap (xv d (iZ d l hour known) j)):=λi t hi U=>by
    unfold nh oh;rw[c2,p2];have hq:q.getD i 0=iZ d l hour known j i:=p3.2 i hi;simp only[hq];have htl:t.length<=s.length+i:=by grind
    refine⟨λ_ _=>by grind [dI],?_⟩;rw[aoD,anX,<-amt,<-U];by_cases h0:0<iZ d l hour known j i
    rw[decide_eq_true (show iZ d l hour known j i > 0 from h0)];have e:xv d (iZ d l hour known) j i=some { right:=(j:Int),dd:=(i:Int),bo:=iZ d l hour known j i,ao8:=(d.ai.getD j default).ao8}:=by unfold xv;grind
    grind
    rw[decide_eq_false (show ¬iZ d l hour known j i > 0 from h0)];have e:xv d (iZ d l hour known) j i=none:=by unfold xv;grind
    grind
   have hql:((eD d (dg l hour known) (j:Int)).1).length=d.l5.length:=by rw[c2,p2];exact p3.1
   obtain⟨t,u1,u2⟩:=la (step:=oh d l hour known j) (λi t=>t=s++(List.range i).filterMap (xv d (iZ d l hour known) j)) d.l5.length 0 s (by simp) (λi t _ hi U=>⟨_,(X i t (by omega) U).2,rfl⟩);rw[hql,u1];refine⟨λ_ _=>⟨by grind,jk (λi t=>t=s++(List.range i).filterMap (xv d (iZ d l hour known) j)) _ _ _ (by simp) λi t _ hi U=>⟨(X i t (by omega) U).1,λt' h=>?_⟩⟩,?_⟩;grind
   simp only[u2,alQ];rfl;have b:((d.ai.getD j default).kind !=1)=true:=by grind
   rw[b];have e0:iZ d l hour known j=λ_=>0:=hH.other j λhr=>hk (by grind);grind [H7]
  obtain⟨s,v1,v2⟩:=la (step:=oi d l hour known) (λj s=>s=(List.range j).flatMap (jv d (iZ d l hour known))) d.ai.length 0 [] (by simp) (λj s _ hj O=>⟨_,(row j s (by omega) O).2,rfl⟩);refine⟨⟨xZ d l,λ_ _=>⟨c1,jk (λj s=>s=(List.range j).flatMap (jv d (iZ d l hour known))) _ _ _ (by simp) λj s _ hj O=>⟨(row j s (by omega) O).1,λs' h=>?_⟩⟩⟩,?_⟩;grind
  rw[v1,v2,alQ];rfl;have e:((((decide (hour<0)) ||(decide (hour>=d.hours))) ||(decide (known<0))) ||(decide (known > 1048576)))=true:=by
   grind
  rw[e,if_neg hg];exact⟨⟨xZ d l,(λ_ h=>by cases h)⟩,rfl⟩
def Wr (x:apu)(h:Int):Bool:=decide (x.since<=h)&&decide (h<=x.to)&&decide (Int.tmod (h - x.since) x.every<x.length)
def opn (d:ah)(h:Int)(x:ao0):Option Claim:=if Wr (d.ai.getD (Int.toNat x.right) default) h=true then some { right:=x.right,dd:=x.dd,hour:=h,bo:=x.bo,ao8:=x.ao8}else none
def ma (d:ah)(l:List bh)(h k:Int):List Claim:=(ay d l h k).1.filterMap (opn d h)
structure aqU (d:ah)(x:apu):Prop where
 arh:0<=x.since
 every:1<=x.every
 asE:0<=x.ao8
 asC:0<=x.dd
theorem PS(h:aw d=0){k:Nat}(V:k<d.ai.length)(U:(d.ai.getD k default).kind=1):aqU d (d.ai.getD k default):=by
 have:=((qU d).1 h).2.2.2.2.2.2.2.1 k V;unfold dV at this;rw[ip]at this;have h2:iw d (d.ai.getD k default)=true:=by
  grind
 unfold iw at h2;cases E:((!(cB (d.ai.getD k default).dd (d.l5.length:Int))) ||(!(cB (d.ai.getD k default).reach (d.reaches.length:Int)))) ||(!(aK ([0,(d.ai.getD k default).since,(d.ai.getD k default).to,(i64.wrap (d.hours - 1))])))with
 |true=>grind
 |false=>
  rw[E,show((d.ai.getD k default).kind==1)=true by rw[U];rfl]at h2;simp only[cond_true,cond_false,alG]at h2;simp only[amf,anb]at E;have O:=E.1.1;unfold cB at O;simp only[alG,decide_eq_true_eq]at O;have Y:=vF h2.1.1.2;have W:=qm h2.2;have X:=qm E.2;exact⟨by omega,by omega,by omega,by omega⟩
variable {h k:Int}{x:ao0}
theorem Ws(E:x∈(ay d l h k).1):aw d=0/\(0<=h/\h<d.hours)/\0<=x.right/\x.right< (d.ai.length:Int)/\0<=x.dd/\x.dd< (d.l5.length:Int)/\0<x.bo/\x.bo<=1073741824/\x.ao8=(d.ai.getD x.right.toNat default).ao8/\(d.ai.getD x.right.toNat default).kind=1:=by
 rw[(I9 d l h k).2]at E;by_cases hc:a8 d l=0
 rw[if_neg (by simp[hc])]at E;by_cases O:0<=h/\h<d.hours/\0<=k/\k<=1048576
 rw[if_pos O]at E;have U:=((xV d l).1 hc).1;obtain⟨a,b,c,e,f,g,i⟩:=x7.1 E;have V:=NF U (AF (sR hc) h k);refine⟨U,⟨O.1,O.2.1⟩,a,b,c,e,f,?_,i,?_⟩;rw[g];exact V.le U _ _;rcases aoA ((d.ai.getD x.right.toNat default).kind=1)with hk|hk;exact hk;have:=V.other x.right (λW=>hk W.2.2);rw[g]at f;unfold iZ at f;grind
 grind
 grind
theorem Wt {d:ah}{l:List bh}{h k:Int}:(ay d l h k).1.length<=600*d.ai.length/\(ay d l h k).1.length<=153600:=by
 rw[(I9 d l h k).2];by_cases hc:a8 d l=0
 rw[if_neg (by simp[hc])];by_cases O:0<=h/\h<d.hours/\0<=k/\k<=1048576
 rw[if_pos O];have E:=(sR hc).right;refine⟨?_,BY E _⟩;have:=uX (jv d (iZ d l h k)) 600 (List.range d.ai.length) λr _=>by
  unfold jv;refine alW (ank _ _) ?_;rw[anj];exact E.l5
 grind [re]
 grind
 grind
theorem Tc (d:ah)(l:List bh)(h k:Int):(ay d l h k).1.Pairwise hlt:=by
 rw[(I9 d l h k).2];split
 simp_all;split
 exact vN _ _;simp_all
theorem Ja (d:ah)(l:List bh)(h k:Int):(ma d l h k).length<=600*d.ai.length/\(ma d l h k).length<=153600:=by
 have:= @Wt d l h k;have h2:=ank (opn d h) (ay d l h k).1;unfold ma;omega
variable {c:Claim}
theorem Gp(e:opn d h x=some c):Wr (d.ai.getD (Int.toNat x.right) (default:apu)) h=true/\c= { right:=x.right,dd:=x.dd,hour:=h,bo:=x.bo,ao8:=x.ao8}:=by
 grind [opn]
structure aqu (d:ah)(h:Int)(c:Claim):Prop where
 exp:aw d=0
 hour:c.hour=h
 h0:0<=h
 h1:h<d.hours
 r0:0<=c.right
 r1:c.right< (d.ai.length:Int)
 f0:0<=c.dd
 f1:c.dd< (d.l5.length:Int)
 l0:0<c.bo
 l1:c.bo<=1073741824
 ao8:c.ao8=(d.ai.getD c.right.toNat default).ao8
 kind:(d.ai.getD c.right.toNat default).kind=1
theorem Gq(hc:c∈ma d l h k):aqu d h c:=by
 unfold ma at hc;rw[aoW]at hc;obtain⟨x,E,e⟩:=hc;obtain⟨_,rfl⟩:=Gp e;obtain⟨a0,⟨a,b⟩,c,e,f,g,i,j,m,n⟩:=Ws E;exact⟨a0,rfl,a,b,c,e,f,g,i,j,m,n⟩
theorem CS (d:ah)(l:List bh)(h k:Int):(ma d l h k).Pairwise λa b=>¬ (a.right=b.right/\a.dd=b.dd):=by
 unfold ma;rw[anT];refine(Tc d l h k).imp λ{a b} E x O y hy=>?_;obtain⟨_,rfl⟩:=Gp O;obtain⟨_,rfl⟩:=Gp hy;simp only[hlt,oq,and_false,or_false]at E |-;omega
theorem Wu {a b:Claim}(h:¬ (a.right=b.right/\a.dd=b.dd)):rZ a b\/rZ b a:=by
 simp only[rZ,oq,and_false,or_false];omega
theorem PT{a b:Claim}(h1:rZ a b)(h2:rZ b c):rZ a c:=by simp only[rZ,oq,and_false,or_false]at *;omega
def ue (l:List Claim)(x:Claim):List Claim:=l.takeWhile (λy=>decide (cN y x<0))++x::l.dropWhile (λy=>decide (cN y x<0))
def sZ (d:ah)(l:List bh)(h k:Int):List Claim:=(ma d l h k).foldl ue []
theorem Jb (l:List Claim)(x:Claim):(ue l x).Perm (x::l):=by
 grind [ue,List.takeWhile_append_dropWhile]
variable {l:List Claim}{x:Claim}
theorem Td(O:l.Pairwise rZ):∀ y∈l.dropWhile (λy=>decide (cN y x<0)),¬rZ y x:=by
 induction l with
 |nil=>simp_all
 |cons z l U=>
  rw[amO]at O;intro y hy;rw[List.dropWhile_cons]at hy;split at hy
  grind
  rename_i E;have E:¬rZ z x:=λh=>E (decide_eq_true ((AD z x).2 h));rcases alV.1 hy with rfl|hy;exact E;exact λh=>E (PT (O.1 y hy) h)
theorem Wv:∀ y∈l.takeWhile (λy=>decide (cN y x<0)),rZ y x:=by
 induction l with
 |nil=>simp_all
 |cons z l O=>
  intro y hy;rw[List.takeWhile_cons]at hy;split at hy
  rename_i E;rcases alV.1 hy with rfl|hy;exact(AD y x).1 (of_decide_eq_true E);grind
  cases hy
theorem NI(O:l.Pairwise rZ)(E:∀ y∈l,¬ (x.right=y.right/\x.dd=y.dd)):(ue l x).Pairwise rZ:=by
 have W:=List.takeWhile_append_dropWhile (p:=λy=>decide (cN y x<0)) (l:=l);unfold ue;have h1:=Wv (l:=l) (x:=x);have h2:=Td (x:=x) O;have U:∀ y∈l.dropWhile (λy=>decide (cN y x<0)),y∈l:=λy hy=>(List.dropWhile_sublist _).subset hy;have V:∀ y∈l.dropWhile (λy=>decide (cN y x<0)),rZ x y:=λy hy=>by
  rcases Wu (E y (U y hy))with h|h <;>grind
 grind [List.pairwise_cons]
theorem Gr:∀ (r s:List Claim),s.Pairwise rZ->(r.Pairwise λa b=>¬ (a.right=b.right/\a.dd=b.dd))->(∀ a∈s,∀ b∈r,¬ (a.right=b.right/\a.dd=b.dd))->(r.foldl ue s).Perm (s++r)/\(r.foldl ue s).Pairwise rZ
 | [],s,E,_,_=>⟨by simp,E⟩
 |x::r,s,E,U,O=>by
  rw[amO]at U;have W:=Jb s x;obtain⟨h1,h2⟩:=Gr r (ue s x) (NI E λy hy h=>O y hy x (by simp) ⟨h.1.symm,h.2.symm⟩) U.2 λa X b V=>by
   grind
  grind
theorem zu (d:ah)(l:List bh)(h k:Int):(sZ d l h k).Perm (ma d l h k):=by
 have:=(Gr (ma d l h k) [] List.Pairwise.nil (CS d l h k) (λa E=>by cases E)).1;rw[alR]at this;exact this
theorem K5 (d:ah)(l:List bh)(h k:Int):(sZ d l h k).Pairwise rZ:=(Gr (ma d l h k) [] List.Pairwise.nil (CS d l h k) (λa E=>by cases E)).2
variable {l:List bh}
def AG(hc:c∈sZ d l h k):aqu d h c:=Gq ((zu d l h k).subset hc)
variable {β:Type}
theorem Gs{ρ:Type}{step:Nat->List β->ρ⊕List β}(l:List α)(d:α)(f:α->Option β)(s0:List β)(h:∀ k s,k<l.length->step k s=.inr (s++(f (l.getD k d)).toList)):aj step l.length 0 s0=.inr (s0++l.filterMap f):=by
 obtain⟨r,h1,h2⟩:=la (step:=step) (λk s=>s=s0++(l.take k).filterMap f) l.length 0 s0 (by simp) (λj s _ E O=>by
  rw[alQ]at E;grind [b9])
 grind
theorem K6{ρ:Type}{step:Nat->List β->ρ⊕List β}{p:Nat->List β->Prop}(l:List α)(d:α)(f:α->Option β)(s0:List β)(h:∀ k s,k<l.length->step k s=.inr (s++(f (l.getD k d)).toList))(U:∀ k,k<l.length->p k (s0++(l.take k).filterMap f)):okI step p l.length 0 s0:=by
 refine jk (λk s=>s=s0++(l.take k).filterMap f) _ _ _ (by simp) λj s _ O E=>⟨by grind,λs' e=>?_⟩;grind [b9]
theorem Zo(l:List α)(d:α)(f:α->Option β){k:Nat}(E:k<l.length){c:β}(hc:f (l.getD k d)=some c):(l.filterMap f)[((l.take k).filterMap f).length]? =some c:=by
 grind [List.drop_eq_getElem_cons,List.take_append_drop]
theorem Ro{step:Nat->List β×Int->List β⊕(List β×Int)}{p:Nat->List β×Int->Prop}(fr to:Int)(G:Int->List β)(h0:0<=fr)(h1:to<4096)(E:fr<=to+1)
  (X:∀ k s h,fr<=h->h<=to->step k (s,h)=.inr (s++G h,i64.wrap (h+1))) (he:∀ k s h,to<h->step k (s,h)=.inl s)
  (hp:∀ k h,fr<=h->h<=to+1->p k ((hrs fr (h - 1)).flatMap G,h)):okI step p 4098 0 ([],fr)/\aj step 4098 0 ([],fr)=.inl ((hrs fr to).flatMap G):=by
 obtain⟨a,r,b,c⟩:=yp (step:=step) (p:=p) (λs=>(to+1 - s.2).toNat) (λs=>(fr<=s.2/\s.2<=to+1)/\s.1=(hrs fr (s.2 - 1)).flatMap G) (λr=>r=(hrs fr to).flatMap G) (λk s Y=>by
  obtain⟨s,h⟩:=s;obtain⟨⟨O,U⟩,V⟩:=Y;simp only at O U V;subst V;refine⟨hp k h O U,?_⟩;by_cases W:h<=to
  refine .inr ⟨_,X k _ h O W,?_⟩;simp only;rw[aA (by omega) (by omega)];refine⟨by omega,⟨by omega,by omega⟩,?_⟩;rw[show h+1 - 1=(h - 1)+1 by omega,Nv (by omega),anK,show h - 1+1=h by omega];simp;grind) 4098 0 ([],fr) ⟨⟨amD _,E⟩,by rw[Zc (by omega)];rfl⟩ (by omega)
 grind
theorem BZ{x:apu}(E:aqU d x)(U:0<=h)(h1:h<4096):(((decide (h<x.since)) ||(decide (h > x.to))) ||(decide ((Int.tmod (i64.wrap (h - x.since)) x.every)>=x.length)))= !Wr x h:=by
 have:=E.arh;unfold Wr;by_cases O:x.since<=h
 rw[aA (by omega) (by omega),decide_eq_true O,decide_eq_false (show ¬h<x.since by omega)];grind
 grind
theorem Gt(l:List α)(d:α){k:Nat}(E:k<l.length):l.getD k d∈l:=by grind
theorem DW(O:j< (ay d l h k).1.length):((0<=((ay d l h k).1.getD j default).right/\((ay d l h k).1.getD j default).right< (d.ai.length:Int))/\(0<=h/\h<4096))/\aqU d (d.ai.getD (Int.toNat ((ay d l h k).1.getD j default).right) default)/\(d.ai.getD (Int.toNat ((ay d l h k).1.getD j default).right) default).kind=1:=by
 obtain⟨a,⟨E,U⟩,c,e,f,g,i,m,n,o⟩:=Ws (Gt _ default O);have:=(jt (by rw[a];rfl)).hours;exact⟨⟨⟨c,e⟩,E,by omega⟩,PS a (by omega) o,o⟩
theorem K7 (d:ah)(l:List bh)(h k:Int):fu d l h k=ma d l h k/\kE d l h k ((fu d l h k).map BU):=by
 have hstep:∀ j s,j< (ay d l h k).1.length->iI d l h k j s=.inr (s++(opn d h ((ay d l h k).1.getD j default)).toList):=λj s O=>by
  obtain⟨⟨⟨a,b⟩,c,e⟩,E,_⟩:=DW O;unfold iI opn;rw[BZ E c e];grind
 have U:aj (iI d l h k) ((ay d l h k).1).length 0 []=.inr (ma d l h k):=by
  rw[Gs _ default (opn d h) [] hstep];rfl
 have e:fu d l h k=ma d l h k:=by unfold fu;rw[U]
 refine⟨e,(I9 d l h k).1,λ_=>⟨K6 _ default (opn d h) [] hstep λj O=>?_,λs W=>?_⟩⟩;obtain⟨⟨⟨a,b⟩,c,f⟩,E,_⟩:=DW O;refine⟨⟨a,b⟩,λ_=>by have:=E.every;omega,λhc=>?_⟩;rw[BZ E c f]at hc;have V:opn d h ((ay d l h k).1.getD j default)=some { right:=((ay d l h k).1.getD j default).right,dd:=((ay d l h k).1.getD j default).dd,hour:=h,bo:=((ay d l h k).1.getD j default).bo,ao8:=((ay d l h k).1.getD j default).ao8}:=by
  simp_all [opn]
 rw[e,alR,amB];unfold ma;grind [Zo]
 grind
def NJ (d:ah)(f h r:Int):Bool:= !(p_ d f r h)
def Rp (d:ah)(f:Int):List Int:=(eb d (d.l5.getD (Int.toNat f) default).reach).reverse
def K8 (d:ah)(f h:Int):Int:=((Rp d f).find? (NJ d f h)).getD (-1)
def fnd (d:ah)(h:Int)(c:Claim):M1:= { x6:=c,reach:=K8 d c.dd h}
theorem Jc(E:aw d=0)(U:0<=f)(h1:f< (d.l5.length:Int)):aqf d (d.l5.getD (Int.toNat f) default).reach:=by
 have O:=jt (by rw[E];rfl);have:=O.dd f.toNat (by omega);exact⟨E,this.1,this.2⟩
theorem PU(O:d.ai.length<=256)(l:List Int):(dC l (cC d h) c<0/\l.find? (NJ d c.dd h)=none)\/∃ j:Nat,j<l.length/\dC l (cC d h) c=(j:Int)/\l.find? (NJ d c.dd h)=some (l.getD j 0):=by
 have:=xp (step:=fK l (cC d h) c) l 0 (NJ d c.dd h) (λk E=>by
  grind [fK,rV,NJ,adb])
 unfold dC;grind
def zv (d:ah)(l:List bh)(k fr to:Int):List M1:=(hrs fr to).flatMap λh=>(ma d l h k).map (fnd d h)
def rD (d:ah)(l:List bh)(k fr to:Int):List M1:=(hrs fr to).flatMap λh=>(sZ d l h k).map (fnd d h)
theorem Zp(l:List bh)(k:Int)(s0:List M1×Int)(hc:aqu d s0.2 c)(s:List M1):fP d l k s0 c s=.inr (s++[fnd d s0.2 c])/\((s.length+1)*48<=dI->il d l k s0 c s):=by
 have U:=jt (by rw[hc.exp];rfl);have V:=Jc hc.exp hc.f0 hc.f1;have E:=Ga V;unfold fP il;rw[E];simp only;rcases PU (d:=d) (h:=s0.2) (c:=c) U.ai (eb d (d.l5.getD (Int.toNat c.dd) default).reach).reverse with⟨hi,O⟩ | ⟨j,X,hi,O⟩;rw[decide_eq_false (show ¬_>=(0:Int) by omega)];refine⟨?_,λW=>⟨⟨hc.f0,hc.f1⟩,yP _ _,λh=>by grind,λ_=>by grind⟩⟩;simp only[cond_false,fnd,K8,Rp,O,Option.getD_none];rw[hi,decide_eq_true (show(j:Int)>=0 by omega)];refine⟨?_,λW=>⟨⟨hc.f0,hc.f1⟩,yP _ _,λ_=>⟨⟨by omega,by omega⟩,by grind⟩,λh=>by grind⟩⟩;simp only[cond_true,fnd,K8,Rp,O,anZ,alI]
theorem PW {d:ah}(l:List bh)(k:Int)(s0:List M1×Int):∀ (L:List Claim) (s:List M1),(∀ c∈L,aqu d s0.2 c)->di (fP d l k s0) L s=.inr (s++L.map (fnd d s0.2))/\((s.length+L.length)*48<=dI->okL (fP d l k s0) (il d l k s0) L s)
 | [],s,_=>⟨by simp[di],λ_=>trivial⟩
 |c::L,s,h=>by
  obtain⟨h1,h2⟩:=Zp l k s0 (h c (by simp)) s;obtain⟨U,V⟩:=PW l k s0 L (s++[fnd d s0.2 c]) λx E=>h x (by simp[E]);refine⟨?_,λO=>?_⟩;grind [di]
  rw[alL]at O;refine⟨h2 (by omega),λs' e=>?_⟩;grind
theorem Gu{fr to:Int}:(zv d l k fr to).length<=(to+1 - fr).toNat*(600*d.ai.length):=by
 unfold zv;have:=uX (λh=>(ma d l h k).map (fnd d h)) (600*d.ai.length) (hrs fr to) λh _=>by rw[amM];exact(Ja d l h k).1
 rwa[Rh]at this
def Gv (d:ah)(l:List bh)(k fr to:Int):(zv d l k fr to).Perm (rD d l k fr to):=S4 λh _=>(zu d l h k).symm.map _
theorem K9 (d:ah)(l:List bh)(k fr to:Int):(rD d l k fr to).Pairwise λx y=>fB x y<0:=by
 unfold rD;refine Ze (adf fr to) (λh _=>?_) λa _ b _ W x V y hy=>?_;rw[anC];exact(K5 d l h k).imp λ{x y} O=>(Gd _ _).2 O;obtain⟨Y,E,rfl⟩:=anh.1 V;obtain⟨X,U,rfl⟩:=anh.1 hy;have h1:=(AG E).hour;have h2:=(AG U).hour;refine(Gd _ _).2 ?_;simp_all [fnd,rZ,oq]
def s4 (d:ah)(fr to k:Int):Prop:=(0<=fr/\fr<=to/\to<d.hours)/\0<=k/\k<=1048576
instance (d:ah)(fr to k:Int):Decidable (s4 d fr to k):=by unfold s4;infer_instance
def wv (d:ah)(l:List bh)(fr to k:Int):Int:=if a8 d l≠0 then a8 d l else if ¬s4 d fr to k then 1 else if 4096< (to - fr+1)*(d.ai.length:Int)then 2 else 0
theorem Ww (d:ah)(fr to k:Int):(((((decide (fr<0)) ||(decide (fr > to))) ||(decide (to>=d.hours))) ||(decide (k<0))) ||(decide (k > 1048576)))= !decide (s4 d fr to k):=by
 rw[amo,al0,decide_eq_false_iff_not];simp only[ama,decide_eq_true_eq];grind [s4]
theorem Wx{fr to:Int}(E:aps d)(h:s4 d fr to k):i64.wrap ((i64.wrap ((i64.wrap (to - fr))+1))*(d.ai.length:Int))=(to - fr+1)*(d.ai.length:Int):=by
 obtain⟨⟨a,b,c⟩,e,f⟩:=h;have h1:=E.hours;have h2:=E.ai;rw[aA (n:=to - fr) (by omega) (by omega),aA (n:=to - fr+1) (by omega) (by omega)];have O:(to - fr+1)*(d.ai.length:Int)<=4096*256:=Int.mul_le_mul (by omega) (by omega) (by omega) (by omega);have U:0<=(to - fr+1)*(d.ai.length:Int):=anG (by omega) (by omega);exact aA (by omega) (by omega)
theorem rE{fr to:Int}(h:s4 d fr to k)(O:¬4096< (to - fr+1)*(d.ai.length:Int)){n:Nat}(E:n<=(to+1 - fr).toNat*(600*d.ai.length)):n<=2457600:=by
 grind [Int.mul_comm]
theorem adl (d:ah)(l:List bh)(fr to k:Int):oX d l fr to k/\eS d l fr to k=if wv d l fr to k=0 then(rD d l k fr to,0)else([],wv d l fr to k):=by
 unfold oX eS wv;rw[Ww];by_cases hc:a8 d l=0
 rw[hc];simp only[bne_self_eq_false,cond_false,ne_eq,not_true,if_false];have hD:=sR hc;have Y:=hD.right;by_cases E:s4 d fr to k
 rw[Wx Y E,decide_eq_true E];simp only[alZ,cond_false,not_true,if_false];by_cases O:4096< (to - fr+1)*(d.ai.length:Int)
 rw[decide_eq_true O,if_pos O];exact⟨⟨uT d l,λ_ _ _ h=>by cases h⟩,by grind⟩;rw[decide_eq_false O,if_neg O];simp only[cond_false,if_true];have V:=Ro (step:=jA d l to k) (p:=kF d l to k) fr to (λh=>(ma d l h k).map (fnd d h)) E.1.1 (by have:=E.1.2.2;have:=Y.hours;omega) (by have:=E.1.2.1;omega)
  (λj s h h1 h2=>by
   unfold jA;simp only;rw[decide_eq_true h2,(K7 d l h k).1];simp only[cond_true];rw[(PW l k (s,h) (ma d l h k) s λc hc=>Gq hc).1])
  (λj s h h1=>by grind [jA])
  (λj h h1 h2=>by
   unfold kF;simp only;intro U;have U:h<=to:=of_decide_eq_true U;refine⟨(K7 d l h k).2,?_⟩;rw[(K7 d l h k).1];refine(PW l k (_,h) (ma d l h k) _ λc hc=>Gq hc).2 ?_;have h3:((hrs fr (h - 1)).flatMap λh=>(ma d l h k).map (fnd d h)).length+(ma d l h k).length=(zv d l k fr h).length:=by
    unfold zv;have:=Nv (a:=fr) (b:=h - 1) (by omega);grind
   have h4:(zv d l k fr h).length<=(to+1 - fr).toNat*(600*d.ai.length):=alW Gu (alX _ (by omega));have h5:=rE E O h4;grind [dI])
 obtain⟨r1,r2⟩:=V;have hS:=Ge I3 (Gv d l k fr to) (K9 d l k fr to);have W:aj (jA d l to k) 4098 0 ([],fr)=.inl (zv d l k fr to):=r2;rw[W];simp only;rw[hS.2];refine⟨⟨uT d l,λ_ _ _ _=>⟨r1,λz hz=>by grind,λx hx=>?_⟩⟩,by grind⟩;grind
 rw[decide_eq_false E,if_pos E];simp only[amd,cond_true];exact⟨⟨uT d l,λ_ h=>by cases h⟩,rfl⟩;have X:(a8 d l !=0)=true:=by grind
 rw[X];simp only[cond_true,ne_eq,hc,not_false_eq_true,if_true,if_false];exact⟨⟨uT d l,λh=>by cases h⟩,trivial⟩
def ofF (x:M1):Option Claim:=if x.reach<0 then some x.x6 else none
def ofL (d:ah)(l:List bh)(k fr to:Int):List Claim:=(rD d l k fr to).filterMap ofF
def lim {α:Type}(e:Int)(l:List α):List α×Int:=if e=0 then(if 4096<l.length then([],2)else(l,0))else([],e)
theorem PY{fr to:Int}(h:wv d l fr to k=0):(rD d l k fr to).length<=2457600:=by
 rw[<-(Gv d l k fr to).length_eq];unfold wv at h;split at h
 omega;split at h
 cases h;rename_i h2;have h2:s4 d fr to k:=Classical.not_not.1 h2;split at h
 cases h;rename_i E;exact rE h2 E Gu
theorem Jd (d:ah)(l:List bh)(fr to k:Int):rb d l fr to k/\av d l fr to k=lim (wv d l fr to k) (ofL d l k fr to):=by
 obtain⟨h1,h2⟩:=adl d l fr to k;by_cases O:wv d l fr to k=0
 rw[if_pos O]at h2;have U:=PY O;have hstep:∀ j s,j< (rD d l k fr to).length->oY d l fr to k j s=.inr (s++(ofF ((rD d l k fr to).getD j default)).toList):=λj s W=>by
  unfold oY ofF;grind
 refine⟨⟨h1,λ_ _=>?_⟩,?_⟩;rw[h2];refine K6 (rD d l k fr to) default ofF [] hstep λj W=>?_;intro _;grind [dI]
 unfold av lim;have E:=Gs _ default ofF [] hstep;rw[h2];simp only[bne_self_eq_false,cond_false];rw[E,if_pos O,alR];show(bif decide (((ofL d l k fr to).length:Int) > 4096)then([],2)else(ofL d l k fr to,0))=_;grind
 rw[if_neg O]at h2;have V:((eS d l fr to k).2 !=0)=true:=by grind
 refine⟨⟨h1,λh=>by grind⟩,?_⟩;unfold av lim;grind
theorem Rq {α β γ:Type}(f:α->List β)(g:β->Option γ):∀ l:List α,(l.flatMap f).filterMap g=l.flatMap λa=>(f a).filterMap g
 | [] =>rfl
 |a::l=>by rw[al5,al5,anX,Rq f g l]
def ofH (d:ah)(l:List bh)(k h:Int):List Claim:=(sZ d l h k).filterMap λc=>if K8 d c.dd h<0 then some c else none
theorem adm (d:ah)(l:List bh)(k fr to:Int):ofL d l k fr to=(hrs fr to).flatMap (ofH d l k):=by
 unfold ofL rD;rw[Rq];congr 1
 funext h
 rw[List.filterMap_map];rfl
def o6 (x:Range)(most:Int):Bool:=(((decide (x.lo>=0))&&(decide (x.lo<=x.hi)))&&(decide (x.hi<=most)))
@[go_sem] def B3:List SV->Option Con:=(pD .range λx=>(pI λmost=>(pE (.det True (.v (.bool (o6 x most)))))))
theorem AH:zs Tryz.prog 148 B3:=by
 have hG:=mG C1 C1;refine fN hG Tryz.f148 [.o] (ax λx=>(az λE=>(am (λO=>?_))));dsimp only[an]at O;refine⟨Y2 rfl,L0,ag _,?_⟩;unfold ae Tryz.f148;try unfold o6
 exact zq2
def sq (n:Int)(lo:Int)(hi:Int):Bool:=((decide (n>=lo))&&(decide (n<=hi)))
@[go_sem] def NK:List SV->Option Con:=(pI λn=>(pI λlo=>(pI λhi=>(pE (.det True (.v (.bool (sq n lo hi))))))))
theorem AI:zs Tryz.prog 150 NK:=by
 have hG:=mG C1 C1;refine fN hG Tryz.f150 [.o] (az λn=>(az λlo=>(az λhi=>(am (λE=>?_)))));dsimp only[an]at E;refine⟨Y2 rfl,L0,ag _,?_⟩;unfold ae Tryz.f150;try unfold sq
 exact zq2
def o7 (a:B1):Bool:=(((aQ a) ==0)&&(sq a.n 0 a.d))
@[go_sem] def Gw:List SV->Option Con:=(pD .ratio λa=>(pE (.det True (.v (.bool (o7 a))))))
theorem Dy:zs Tryz.prog 220 Gw:=by
 have hG:=mG (cp AI (cp oD C1)) C1;refine fN hG Tryz.f220 [.o] (ax λa=>(am (λE=>?_)));dsimp only[an]at E;refine⟨Y2 rfl,L0,ag _,?_⟩;unfold ae Tryz.f220;try unfold o7
 exact zq2
def nt (a:B1×B1):Bool:=(bif((!(o7 a.1)) ||(!(o7 a.2)))then false else(((gY a.1 a.2).2==0)&&(decide ((gY a.1 a.2).1<=0))))
@[go_sem] def Dz:List SV->Option Con:=(pD .apJ λa=>(pE (.det True (.v (.bool (nt a))))))
theorem B4:zs Tryz.prog 149 Dz:=by
 have hG:=mG (cp Dy (cp Ao C1)) C1;refine fN hG Tryz.f149 [.o] (ax λa=>(am (λE=>?_)));dsimp only[an]at E;refine⟨Y2 rfl,L0,ag _,?_⟩;unfold ae Tryz.f149;try unfold nt
 exact zq2
def gH (r:Reach)(n:Int):Int:=(bif((!(o6 r.apP 1073741824)) ||(!(nt r.apt)))then 210 else(bif(!(sq n 0 1073741824))then 1 else 0))
@[go_sem] def Gx:List SV->Option Con:=(pD .reach λr=>(pI λn=>(pE (.det True (.v (.int .i64 (gH r n)))))))
theorem wb:zs Tryz.prog 92 Gx:=by
 have hG:=mG (cp AH (cp B4 (cp AI C1))) C1;refine fN hG Tryz.f92 [.o] (ax λr=>(az λn=>(am (λE=>?_))));dsimp only[an]at E;refine⟨Y2 rfl,L0,ag _,?_⟩;unfold ae Tryz.f92;try unfold gH
 exact zq2
def gQ (r:Reach)(v:Int):Range:=letI q0:=i64.wrap (r.apP.hi+(eM r.apt.2 v).2.1);letI q1:=i64.wrap (r.apP.lo+(eM r.apt.1 v).1);(bif(v==0)then({ lo:=0,hi:=0}:Range)else({ lo:=(if q1<v then q1 else v),hi:=(if q0<v then q0 else v)}:Range))
@[go_sem] def H8:List SV->Option Con:=(pD .reach λr=>(pI λv=>(pE (.det True (.agg (cellsOf .range (gQ r v)))))))
theorem xw:zs Tryz.prog 93 H8:=by
 have hG:=mG (cp xd C1) C1;refine fN hG Tryz.f93 [.st .range] (ax λr=>(az λv=>(am (λE=>?_))));dsimp only[an]at E;refine⟨Y2 rfl,L0,ag _,?_⟩;unfold ae Tryz.f93;try unfold gQ
 exact zq2
def o8 (r:Reach)(v:Int):Int×Int:=(bif((gH r v) !=0)then(0,(gH r v))else((i64.wrap (v - (gQ r v).hi)),0))
@[go_sem] def Gy:List SV->Option Con:=(pD .reach λr=>(pI λv=>(pE (.det True (.tup [.v (.int .i64 ((o8 r v).1)),.v (.int .i64 ((o8 r v).2))])))))
theorem wc:zs Tryz.prog 52 Gy:=by
 have hG:=mG (cp wb (cp xw C1)) C1;refine fN hG Tryz.f52 [.o,.o] (ax λr=>(az λv=>(am (λE=>?_))));dsimp only[an]at E;refine⟨Y2 rfl,L0,ag _,?_⟩;unfold ae Tryz.f52;try unfold o8
 exact zq2
def qu (v:Int)(r:Reach):Int:=(i64.wrap (v - (gQ r v).hi))
@[go_sem] def DA:List SV->Option Con:=(pI λv=>(pX .reach λr=>(pE (.det True (.v (.int .i64 (qu v r)))))))
theorem B5:zs Tryz.prog 139 DA:=by
 have hG:=mG (cp xw C1) C1;refine fN hG Tryz.f139 [.o] (az λv=>(fO λr=>(am (λE=>?_))));dsimp only[an]at E;refine⟨Y2 rfl,L0,ag _,?_⟩;unfold ae Tryz.f139;try unfold qu
 exact zq2
def fv (v:Int)(r:Reach)(w:Int):Bool:=(decide ((qu v r) > w))
@[go_sem] def B6:List SV->Option Con:=(pI λv=>(pXF 139 (pX .reach λr=>(pE ((pX .int λw=>(pE (.det True (.v (.bool (fv v r w)))))))))))
theorem AJ:zs Tryz.prog 210 B6:=by
 have hG:=mG (cp B5 C1) C1;refine fN hG Tryz.f210 [.o] (az λv=>(Ai (fO λr=>(am ((fO λw=>(am (λE=>?_))))))));dsimp only[an]at E;refine⟨Y2 rfl,L0,ag _,?_⟩;unfold ae Tryz.f210;try unfold fv
 exact zq2
@[go_sem] def jY (r:Reach)(w:Int)(Q1:Nat)(ly:Int×Int):Int⊕(Int×Int):=letI q0:=i64.wrap (lp .u64 (u64.wrap (i64.wrap (ly.1+ly.2))) 1);(bif(decide (ly.1<ly.2))then(bif(!(fv q0 r w))then .inr ((i64.wrap (q0+1)),ly.2)else .inr (ly.1,q0))else .inl ly.1)
def t5 (n:Int)(r:Reach)(w:Int):Int:=(match aj (jY r w) 64 0 (0,n)with| .inl gl=>gl| .inr ly=>default)
def qw (n:Int)(r:Reach)(w:Int):Prop:=(∀ z_,aj (jY r w) 64 0 (0,n)≠ .inr z_)
@[go_sem] def H9:List SV->Option Con:=(pI λn=>(pFn 210 (pXF 139 (pX .reach λr=>(pE ((pX .int λw=>(pE ((pE (.det (qw n r w) (.v (.int .i64 (t5 n r w))))))))))))))
theorem Gz:zs Tryz.prog 209 H9:=by
 have hG:=mG (cp AJ C1) C1;refine fN hG Tryz.f209 [.o] (az λn=>(mr (Ai (fO λr=>(am ((fO λw=>(am ((am (λV=>?_)))))))))));dsimp only[an]at V;unfold qw at V;refine⟨Y2 rfl,(λid st=>bif Nat.beq id 0 then some (LCV (ρ:=Int) (σ:=(Int×Int)) 0 [] [] (λU E=>⟨[(1,.fn 210 [] [.ep [.fn 139 [] [.ep (cellsOf .reach r) 0]] 0,.ep [.v (.int .i64 w)] 0]),(5,.v (.int .i64 E.1)),(6,.v (.int .i64 E.2))],[]⟩) (jY r w) pT 64 (0,n) (λ_=>.normal) (λO=>⟨[(5,.v (.int .i64 O))],[]⟩) st)else none),?_,?_⟩;unfold ae Tryz.f209;simp only[ak,true_and,and_true];refine eJ mixed aB hG kr (λ_=>rfl) λU E _=>⟨L0,ag _,?_⟩;exact cU (jl []);unfold ae Tryz.f209;try unfold t5
 exact zq2
def fC (w:Int)(r:Reach):Int:=(t5 1073741825 r w)
def s5 (w:Int)(r:Reach):Prop:=(qw 1073741825 r w)
@[go_sem] def GA:List SV->Option Con:=(pI λw=>(pFn 139 (pX .reach λr=>(pE ((pE (.det (s5 w r) (.v (.int .i64 (fC w r))))))))))
theorem DB:zs Tryz.prog 138 GA:=by
 have hG:=mG (cp Gz C1) C1;refine fN hG Tryz.f138 [.o] (az λw=>(mr (fO λr=>(am ((am (λE=>?_)))))));dsimp only[an]at E;unfold s5 at E;refine⟨Y2 rfl,L0,ag _,?_⟩;unfold ae Tryz.f138;try unfold fC
 exact zq2
def fH (r:Reach)(w:Int):Int×Bool×Int:=(bif((gH r w) !=0)then(0,false,(gH r w))else(bif(decide ((fC (i64.wrap (w - 1)) r) > 1073741824))then(0,false,0)else((fC (i64.wrap (w - 1)) r),true,0)))
def kS (r:Reach)(w:Int):Prop:=(((gH r w) !=0)=false->(s5 (i64.wrap (w - 1)) r))
@[go_sem] def yR:List SV->Option Con:=(pD .reach λr=>(pI λw=>(pE (.det (kS r w) (.tup [.v (.int .i64 ((fH r w).1)),.v (.bool ((fH r w).2.1)),.v (.int .i64 ((fH r w).2.2))])))))
theorem s6:zs Tryz.prog 84 yR:=by
 have hG:=mG (cp wb (cp DB C1)) C1;refine fN hG Tryz.f84 [.o,.o,.o] (ax λr=>(az λw=>(am (λE=>?_))));dsimp only[an]at E;unfold kS at E;refine⟨Y2 rfl,L0,ag _,?_⟩;unfold ae Tryz.f84;try unfold fH
 exact zq2
def bI (x:Reach)(w:Int):Int×Bool:=(bif((w==0) ||(decide (w > 1073741824)))then(0,(w==0))else(bif(!(fH x w).2.1)then(0,false)else((if(fH x w).1<x.apl then x.apl else(fH x w).1),true)))
def mB (x:Reach)(w:Int):Prop:=(((w==0) ||(decide (w > 1073741824)))=false->(kS x w))
@[go_sem] def B7:List SV->Option Con:=(pD .reach λx=>(pI λw=>(pE (.det (mB x w) (.tup [.v (.int .i64 ((bI x w).1)),.v (.bool ((bI x w).2))])))))
theorem AK:zs Tryz.prog 170 B7:=by
 have hG:=mG (cp s6 C1) C1;refine fN hG Tryz.f170 [.o,.o] (ax λx=>(az λw=>(am (λE=>?_))));dsimp only[an]at E;unfold mB at E;refine⟨Y2 rfl,L0,ag _,?_⟩;unfold ae Tryz.f170;try unfold bI
 exact zq2
abbrev mO:SV:=.ls 1 [.fn 248 [] [],.fn 249 [] [],.fn 250 [] []]
open Classical in
noncomputable def r7:List SV->Option Con:=λl=>if l=[mO]then some (.det True (.fn 298 [] [.ep [mO] 0]))else none
theorem H_:zs Tryz.prog 247 r7:=by
 have hG:X2 Tryz.prog (mkG [] []):=oz (by simp) (by simp);refine Bq [.o] mixed aB hG (fn:=Tryz.f247) (c:=ae Tryz.f247) kr kr kr kr λl O h U=>?_;unfold r7 at h;split at h
 rename_i E;subst E;cases h;refine⟨Y2 rfl,L0,by simp_all [ae,Tryz.f247,ak],?_⟩;unfold ae Tryz.f247;simp only[go_sem,mO,true_imp_iff,Nat.reduceBEq,Nat.reduceLeDiff,Nat.reduceAdd,Nat.reduceSub,Nat.reduceMul,true_and,and_true,implies_true,amu,amL];rfl;cases h
def fY:List SV->Option Con:=pE (.det True (.fn 298 [] [.ep [mO] 0]))
theorem s7:zs Tryz.prog 172 fY:=by
 have hG:X2 Tryz.prog (mkG [(247,r7)] []):=oz (by
  intro x E;simp only[alV,amw,or_false]at E;rcases E with rfl;exact H_) (by simp)
 refine Bq [.o] mixed aB hG (fn:=Tryz.f172) (c:=ae Tryz.f172) kr kr kr kr λl O h U=>?_;unfold fY at h;obtain⟨rfl,rfl⟩:=wW h;refine⟨Y2 rfl,L0,by simp_all [ae,Tryz.f172,ak],?_⟩;unfold ae Tryz.f172;simp only[go_sem,r7,mO,true_imp_iff,Nat.reduceBEq,Nat.reduceLeDiff,Nat.reduceAdd,Nat.reduceSub,Nat.reduceMul,true_and,and_true,implies_true,amu,amL,if_true];rfl
def ta (k:Nat)(x:Order):Int:=match k with|0=>oE x|1=>sN x|_=>oF x
def x8 (a b:Order):Nat->Unit->Int⊕Unit:=λk _=>bif(be (ta k a) (ta k b) !=0)then .inl (be (ta k a) (ta k b))else .inr ()
def aO (a b:Order):Int:=match aj (x8 a b) 3 0 ()with| .inl x=>x| .inr _=>0
open Classical in
noncomputable def mb:List SV->Option Con:=pD .order λa=>pD .order λb=>λl=>if l=[.ep [mO] 0]then some (.det True (.i (aO a b)))else none
theorem wd:zs Tryz.prog 298 mb:=by
 have hG:X2 Tryz.prog (mkG [(82,oC),(248,mI),(249,pG),(250,mJ)] []):=oz (by
  intro x hx;simp only[alV,amw,or_false]at hx;rcases hx with rfl|rfl|rfl|rfl;exact eK;exact xb;exact Aq;exact xc) (by simp)
 refine Bq [.o] mixed aB hG (fn:=Tryz.f298) (c:=ae Tryz.f298) kr kr kr kr λl con h hp=>?_;unfold mb at h;obtain⟨a,l0,rfl,h0⟩:=Kh h;obtain⟨b,l1,rfl,h1⟩:=Kh h0;split at h1
 rotate_left
 cases h1;rename_i hl;subst hl;cases h1;clear h h0;obtain⟨O,U,E,ao⟩:=a;obtain⟨X,Y,V,W⟩:=b;refine⟨Y2 rfl,(λid st=>bif Nat.beq id 0 then some (LC (ρ:=Int) (σ:=Unit) (lk 3 st.t=.ptr 0 0/\lk 4 st.t=.ptr 1 0/\lk 9 st.t=mO/\lk 10 st.t=.i 3/\lk 11 st.t=.i 0/\st.h=[.cells (cellsOf .order ⟨O,U,E,ao⟩),.cells (cellsOf .order ⟨X,Y,V,W⟩)]) (aj (x8 ⟨O,U,E,ao⟩ ⟨X,Y,V,W⟩) 3 0 ()) (λ_=>.ret) (λx=>⟨[(5,.i x)],[.dead,.dead]⟩) (λ_=>⟨[],[.dead,.dead]⟩))else none),?_,?_⟩
 ·unfold ae Tryz.f298;simp only[ak,true_and,and_true];refine IP mixed aB hG kr λst lc hC hp=>?_;simp only[go_sem,Nat.reduceBEq,alK]at hC;subst hC;obtain⟨t,h⟩:=st;dsimp only[LC]at hp;obtain⟨e1,e2,e3,e4,e5,rfl⟩:=hp;refine⟨_,_,_,x8 ⟨O,U,E,ao⟩ ⟨X,Y,V,W⟩,λ_ _=>True,3,(),_,_,_,(λk _=>⟨[(3,.ptr 0 0),(4,.ptr 1 0),(9,mO),(10,.i 3),(11,.i (k:Int))],[.cells (cellsOf .order ⟨O,U,E,ao⟩),.cells (cellsOf .order ⟨X,Y,V,W⟩)]⟩),[0,1],rfl,gX _ _ _ λ_ _ _ _=>trivial,alJ _,?_,λk s hk hpk=>⟨L0,?_,?_⟩⟩;simp only[go_sem,e1,e2,e3,e4,e5,mO,Nat.reduceBEq,Nat.reduceLeDiff,Nat.reduceAdd,true_and,and_true];grind
  simp only[ak,and_self,true_and,and_true]
  ·have hk4:k=0\/k=1\/k=2\/k=3:=by omega
   have hw0:i64.wrap ((0:Int)+1)=((0+1:Nat):Int):=by decide
   have hw1:i64.wrap ((1:Int)+1)=((1+1:Nat):Int):=by decide
   have hw2:i64.wrap ((2:Int)+1)=((2+1:Nat):Int):=by decide
   rcases hk4 with rfl|rfl|rfl|rfl;all_goals
    simp only[go_sem,oC,mI,pG,mJ,mO,x8,ta,true_imp_iff,false_imp_iff,alO,alI,anE,Nat.reduceBEq,Nat.reduceLeDiff,Nat.reduceAdd,Nat.reduceSub,Nat.reduceMul,Nat.reduceLT,Int.reduceLE,Int.reduceLT,Int.reduceToNat,Int.reduceNeg,true_and,and_true,and_self,implies_true,forall_const,reduceCtorEq,aoX]
   all_goals (first|done|(repeat' (first|with_reducible refine And.intro ?_ ?_|((with_reducible show _≠_);first|assumption|omega|(simp_all;done) |grind) |with_reducible intro _)) <;>(first|done|assumption|rfl|omega|decide|(simp only[*,cond_true,cond_false,go_sem,true_imp_iff,false_imp_iff,alO,alI,anE,Nat.reduceBEq,Nat.reduceLeDiff,Nat.reduceAdd,Nat.reduceSub,Nat.reduceMul,Int.reduceLE,Int.reduceLT,Int.reduceToNat,Int.reduceNeg,true_and,and_true,and_self,implies_true,forall_const,reduceCtorEq];done) |(simp only[*,cond_true,cond_false,go_sem,true_imp_iff,false_imp_iff,alO,alI,anE,Nat.reduceBEq,Nat.reduceLeDiff,Nat.reduceAdd,Nat.reduceSub,Nat.reduceMul,Int.reduceLE,Int.reduceLT,Int.reduceToNat,Int.reduceNeg,true_and,and_true,and_self,implies_true,forall_const,reduceCtorEq];(repeat' (first|with_reducible refine And.intro ?_ ?_|((with_reducible show _≠_);first|assumption|omega|(simp_all;done) |grind) |with_reducible intro _)) <;>(first|done|assumption|rfl|omega|decide))))
   all_goals trace_state
 unfold ae Tryz.f298;unfold aO;simp only[go_sem,mO,true_imp_iff,false_imp_iff,alO,Nat.reduceBEq,Nat.reduceLeDiff,Nat.reduceAdd,Nat.reduceSub,Nat.reduceMul,true_and,and_true,implies_true,sz,amu,amL];grind
attribute [go_sem] fY mb
@[go_sem] def iJ (a0:ah)(a1:List Order)(Q1:Nat)(ly:Unit):Unit⊕Unit:=letI q0:=a1.getD Q1 default;letI q1:=(decide ((Q1:Int) > 0))&&(decide ((aO (a1.getD (Int.toNat (i64.wrap ((Q1:Int) - 1))) default) q0)>=0));letI q2:=decide (q0.bo > 1073741824);letI q3:=decide (q0.hour>=a0.hours);letI q4:=decide (q0.bo<1);letI q5:=decide (q0.index<0);letI q6:=decide (q0.hour<0);(bif q0.W1 then(bif((((((q6||q3) ||q5) ||(decide (q0.index>=(a0.l5.length:Int)))) ||q4) ||q2) ||q1)then .inl ()else .inr ())else(bif((((((q6||q3) ||q5) ||(decide (q0.index>=(a0.reaches.length:Int)))) ||q4) ||q2) ||q1)then .inl ()else .inr ()))
def km (a0:ah)(a1:List Order)(Q1:Nat)(ly:Unit):Prop:=letI q0:=a1.getD Q1 default;letI q2:=i64.wrap ((Q1:Int) - 1);letI q1:=(decide ((Q1:Int) > 0))=true->(0<=q2/\q2< (a1.length:Int));letI q3:=decide (q0.bo > 1073741824);letI q4:=decide (q0.hour>=a0.hours);letI q5:=decide (q0.bo<1);letI q6:=decide (q0.index<0);letI q7:=decide (q0.hour<0);(a0.reaches.length<=aH->((q0.W1=true->(a0.l5.length<=aH->((((((q7||q4) ||q6) ||(decide (q0.index>=(a0.l5.length:Int)))) ||q5) ||q3)=false->q1)))/\(q0.W1=false->((((((q7||q4) ||q6) ||(decide (q0.index>=(a0.reaches.length:Int)))) ||q5) ||q3)=false->q1))))
def ed (a0:ah)(a1:List Order):Int:=(bif((aw a0) !=0)then(aw a0)else(bif(decide ((a1.length:Int) > 4096))then 2 else(match aj (iJ a0 a1) a1.length 0 ()with| .inl gl=>220| .inr ly=>0)))
def nK (a0:ah)(a1:List Order):Prop:=(((aw a0) !=0)=false->(a1.length<=aH->((decide ((a1.length:Int) > 4096))=false->(a1.length<=aH->okI (iJ a0 a1) (km a0 a1) a1.length 0 ()))))
@[go_sem] def DC:List SV->Option Con:=(pD .al λa0=>(pR .order λa1=>(pE (.det (nK a0 a1) (.v (.int .i64 (ed a0 a1)))))))
theorem ah4 {p:Prop}(h:p:=by simp only[go_sem,fY,mb,if_true];all_goals exact cl):p:=h
theorem B8:zs Tryz.prog 177 DC:=by
 have hG:=mG (cn [.st .al] nF (cp s7 (cp wd C1))) C1;refine fN hG Tryz.f177 [.o] (ax λa0=>(bD λa1=>(am (λX=>?_))));dsimp only[an]at X;unfold nK at X;refine⟨Y2 rfl,(λid st=>bif Nat.beq id 0 then some (LCR (ρ:=Unit) (σ:=Unit) 1 [] [0] (λO U=>⟨[(1,.rs .order a1),(2,.ptr 0 0),(5,.fn 298 [] [.ep [.ls 1 [.fn 248 [] [],.fn 249 [] [],.fn 250 [] []]] 0]),(18,.rs .order a1),(19,.v (.int .i64 (a1.length:Int))),(20,.v (.int .i64 (O:Int)))],[.cells (cellsOf .al a0)]⟩) (iJ a0 a1) (km a0 a1) a1.length () (a1.length<=aH) (λ_=>.ret) (λV=>⟨[(4,.v (.int .i64 220))],[.dead]⟩) st)else none),?_,?_⟩;unfold ae Tryz.f177;simp only[ak,true_and,and_true];refine bL mixed aB hG kr (λ_=>rfl) (a1.length:Int) rfl fj (λhb0 O U W E hw hc=>⟨L0,ag _,?_⟩) (λhb0 U hc=>?_);unfold km at E;try simp only[hw,alI]at E
 exact bB (jl [0]);exact bC (jl [0]);unfold ae Tryz.f177;try unfold ed
 exact ah4
def dR (d:ah)(l_:List Order):Int:=(bif(((ed d l_) ==0)&&(decide ((i64.wrap ((d.reaches.length:Int)*d.hours)) > 1024)))then 2 else(ed d l_))
def mC (d:ah)(l_:List Order):Prop:=(nK d l_)
@[go_sem] def B9:List SV->Option Con:=(pD .al λd=>(pR .order λl_=>(pE (.det (mC d l_) (.v (.int .i64 (dR d l_)))))))
theorem AL:zs Tryz.prog 167 B9:=by
 have hG:=mG (cn [.st .al,.sl .order] B8 C1) C1;refine fN hG Tryz.f167 [.o] (ax λd=>(bD λO=>(am (λE=>?_))));dsimp only[an]at E;unfold mC at E;refine⟨Y2 rfl,L0,ag _,?_⟩;unfold ae Tryz.f167;try unfold dR
 exact zq2
def AM (a:Order):Int:=bif a.W1 then 1 else 0
def olt (a b:Order):Prop:=a.hour<b.hour\/a.hour=b.hour/\(AM a<AM b\/AM a=AM b/\a.index<b.index)
theorem Je {a b:Order}(h:aO a b<0):olt a b:=by
 unfold aO at h;unfold olt;have E:∀ x,ta 0 x=x.hour:=λ_=>rfl;have O:∀ x,ta 1 x=AM x:=λ_=>rfl;have k2:∀ x,ta 2 x=x.index:=λ_=>rfl;simp only[aj,x8,alQ,Nat.reduceAdd,E,O,k2,jr]at h;grind
theorem Jf {a b c:Order}(h1:olt a b)(h2:olt b c):olt a c:=by
 grind [olt]
theorem NL (a b:Order):aO a b<0↔olt a b:=by
 refine⟨Je,λh=>?_⟩;unfold aO;have E:∀ x,ta 0 x=x.hour:=λ_=>rfl;have O:∀ x,ta 1 x=AM x:=λ_=>rfl;have k2:∀ x,ta 2 x=x.index:=λ_=>rfl;simp only[aj,x8,alQ,Nat.reduceAdd,E,O,k2,jr];grind [olt]
open Go.Shelf Go.Sort in
theorem vO:SWO (ltOf aO):=by
 have e:∀ x y,ltOf aO x y=true↔olt x y:=λx y=>by unfold ltOf;rw[decide_eq_true_eq,NL]
 have e':∀ x y,ltOf aO x y=false↔¬olt x y:=λx y=>by grind
 refine⟨λx=>(e' x x).2 (by unfold olt;omega),λx y z h1 h2=>(e x z).2 (Jf ((e x y).1 h1) ((e y z).1 h2)),λx y z h1 h2=>(e' x z).2 ?_⟩;grind [olt]
structure aqA (d:ah)(x:Order):Prop where
 arb:0<=x.hour
 hour:x.hour<d.hours
 aqB:0<=x.index
 dd:x.W1=true->x.index< (d.l5.length:Int)
 reach:x.W1=false->x.index< (d.reaches.length:Int)
 aqv:1<=x.bo
 bo:x.bo<=1073741824
theorem PZ (d:ah)(l:List Order):nK d l:=λ_ h1 _ _=>gX _ _ _ λj s h2 E=>by
 unfold aH at h1;unfold km;have e:decide ((j:Int) > 0)=true->(0<=i64.wrap ((j:Int) - 1)/\i64.wrap ((j:Int) - 1) < (l.length:Int)):=λh=>by
  simp only[decide_eq_true_eq]at h;grind [od]
 grind
structure apq (d:ah)(l:List Order):Prop where
 right:aps d
 len:l.length<=4096
 one:∀ k,k<l.length->aqA d (l.getD k default)
 asc:∀ k,k+1<l.length->aO (l.getD k default) (l.getD (k+1) default) <0
variable {d:ah}{l:List Order}
theorem GB(h:(ed d l !=0)=false):apq d l:=by
 have h:ed d l=0:=by simpa using h
 unfold ed at h;cases h1:aw d !=0 with
 |true=>grind
 |false=>
  rw[h1]at h;simp only[cond_false]at h;cases h2:decide ((l.length:Int) > 4096)with
  |true=>grind
  |false=>
   rw[h2]at h;simp only[cond_false]at h;have V:l.length<=4096:=by grind
   split at h
   cases h;rename_i s U;have key:∀ k,k<l.length->aqA d (l.getD k default)/\(0<k->aO (l.getD (k - 1) default) (l.getD k default) <0):=by
    intro k E;have:=mw U k (by omega) (by omega);have X:((k:Int) > 0)->(i64.wrap ((k:Int) - 1)).toNat=k - 1:=λh=>by
     grind [od]
    unfold iJ at this;generalize W:l.getD k default=x at this |-;cases O:x.W1 with
    |true=>
     rw[O]at this;simp only[cond_true]at this;rw[amS]at this;split at this
     cases this;rename_i hc;simp only[anp,amf,amH,decide_eq_false_iff_not]at hc;refine⟨⟨by omega,by omega,by omega,λ_=>by omega,λh=>by grind,by omega,by omega⟩,λhk0=>?_⟩;grind
    |false=>
     rw[O]at this;simp only[cond_false]at this;rw[amS]at this;split at this
     cases this;rename_i hc;simp only[anp,amf,amH,decide_eq_false_iff_not]at hc;refine⟨⟨by omega,by omega,by omega,λh=>by grind,λ_=>by omega,by omega,by omega⟩,λhk0=>?_⟩;grind
   exact⟨jt h1,V,λk E=>(key k E).1,λk E=>(key (k+1) E).2 (by omega)⟩
structure aq9 (i:Int)(x:Reach):Prop where
 up:x.up<i
 aq8:1<=x.delay
 delay:x.delay<=16
 ar1:0<=x.apl
 apl:x.apl<=x.cap
 cap:x.cap<=1073741824
 apH:x.apl<=x.apH
 asA:x.apH<=1099511627776
theorem Jg {i:Int}{x:Reach}(hi:0<=i)(h:dA i x=true):aq9 i x:=by
 unfold dA at h;cases hd:decide (i > 0)with
 |true=>
  rw[hd]at h;simp only[cond_true,alG,cB,decide_eq_true_eq]at h hd;obtain⟨⟨⟨⟨⟨U,h1⟩,h2⟩,E⟩,O⟩,V⟩:=h;have:=vF h1;have:=qm h2;have:=qm E;constructor <;>omega
 |false=>
  rw[hd]at h;simp only[cond_false,alG,beq_iff_eq,decide_eq_false_iff_not]at h hd;obtain⟨⟨⟨⟨⟨U,h1⟩,h2⟩,E⟩,O⟩,V⟩:=h;have:=vF h1;have:=qm h2;have:=qm E;constructor <;>omega
theorem aps.aqG(h:aps d){k:Nat}(E:k<d.reaches.length):aq9 k (d.reaches.getD k default):=Jg (by omega) (h.reach k E)
theorem yS (d:ah)(l:List Order):ed d l=0↔aw d=0/\l.length<=4096/\∀ k,k<l.length->iJ d l k ()=.inr ():=by
 unfold ed;cases h1:(aw d !=0)with
 |true=>grind
 |false=>
  simp at h1;simp only[cond_false,h1,true_and];grind [gP]
theorem apq.lt(h:apq d l):∀ (k j:Nat),j<k->k<l.length->olt (l.getD j default) (l.getD k default)
 |k+1,j,h1,h2=>by
  have E:=Je (h.asc k (by omega));by_cases e:j=k
  grind
  exact Jf (h.lt k j (by omega) (by omega)) E
def gk (p:Order->Bool):List Order->Int
 | [] =>0|x::r=>(bif p x then x.bo else 0)+gk p r
theorem GC (p:Order->Bool)(a b:List Order):gk p (a++b)=gk p a+gk p b:=by
 induction a with
 |nil=>simp[gk]|cons x r E=>grind [gk]
variable {p:Order->Bool}
theorem GD(h:∀ x∈l,1<=x.bo/\x.bo<=1073741824):0<=gk p l/\gk p l<=l.length*1073741824:=by
 induction l with
 |nil=>simp[gk]
 |cons x r E=>
  have h1:=E λa O=>h a (al2 _ O);have h2:=h x al4;simp only[gk,alL];grind
theorem x9(h:∀ x∈l,p x=false):gk p l=0:=by
 induction l with
 |nil=>rfl
 |cons x r E=>
  grind [gk]
theorem Wy{q r:Order->Bool}(h:∀ x∈l,(r x=(p x||q x))/\(p x&&q x)=false):gk p l+gk q l=gk r l:=by
 induction l with
 |nil=>rfl
 |cons x t E=>
  simp only[gk];grind
variable {j:Nat}
theorem ah5(O:j<l.length)(h:p l[j]=true)(U:∀ i (hi:i<l.length),i≠j->p l[i]=false):gk p l=l[j].bo:=by
 have e:l=l.take j++l[j]::l.drop (j+1):=by simp_all
 conv=>lhs;rw[e,GC]
 rw[x9 λx E=>?_];simp only[gk,h,cond_true];rw[x9 λx E=>?_];omega;obtain⟨i,hi,rfl⟩:=amm E;grind
 obtain⟨i,hi,rfl⟩:=amm E;grind
theorem apq.lit(h:apq d l):∀ x∈l,1<=x.bo/\x.bo<=1073741824:=λx O=>by
 obtain⟨k,E,rfl⟩:=amm O;have:=h.one k E;rw[my _ _ E]at this;exact⟨this.aqv,this.bo⟩
theorem apq.uniq(h:apq d l){i:Nat}(hi:i<l.length)(Y:j<l.length)(X:l[i].hour=l[j].hour)(U:l[i].index=l[j].index)(W:l[i].W1=l[j].W1):i=j:=by
 have key:∀ a b (V:a<l.length) (O:b<l.length),a<b->l[a].hour=l[b].hour->l[a].index=l[b].index->l[a].W1=l[b].W1->False:=λa b V O E X U W=>by
  have:=h.lt b a E O;grind [olt,AM]
 grind
theorem ya(E:j<l.length):gk p (l.take (j+1))=gk p (l.take j)+(bif p l[j]then l[j].bo else 0):=by
 rw[amY E,GC];simp[gk]
theorem zw {κ υ:Type}[DecidableEq κ]:∀ (l:List (κ×υ)) (x:κ) (y:υ),(tA l x y).map Prod.fst=if x∈l.map Prod.fst then l.map Prod.fst else l.map Prod.fst++[x]
 | [],x,y=>by simp[tA]
 |(a,b)::r,x,y=>by
  unfold tA;by_cases h:x=a
  subst h;simp;rw[if_neg h,amu,zw r x y];grind
theorem NM {κ υ:Type}[DecidableEq κ]:∀ (l:List (κ×υ)) (e:κ×υ),(l.map Prod.fst).Nodup->e∈l->iv l e.1=some e.2
 |(a,b)::r,e,E,he=>by
  simp only[amu,ami]at E;unfold iv;rcases alV.1 he with rfl|he;simp;have:e.1≠a:=λh=>E.1 (h▸anl he);rw[if_neg this];exact NM r e E.2 he
theorem B_ {α:Type}(l:List α)(d:α){k:Nat}(h:k<l.length):l.getD k d∈l:=by
 grind
theorem NN {n d:Int}(hd:1<=d)(E:d<=1073741824)(h1: -1152921504606846976<=n)(h2:n<=1152921504606846976):lI n d=n / d:=by
 unfold lI;have U:Int.tmod (Int.tmod n d+d) d=n % d:=by
  have a1: -d<Int.tmod n d:=anQ n (by omega);rw[amy (by omega),aoU];rw[aos];split
  simp_all;have:n % d - (d.natAbs:Int)=n % d+d*(-1):=by omega
  simp_all
 have a1: -d<Int.tmod n d:=anQ n (by omega);have W:Int.tmod n d<d:=aoV n (by omega);rw[aA (by omega: -9223372036854775808<=Int.tmod n d+d) (by omega),U];have X:=anf n (by omega:d≠0);have V:=ana n (by omega:0<d);rw[aA (by omega: -9223372036854775808<=n - n % d) (by omega)];have O:n - n % d=d*(n / d):=by have:=anz n d;omega
 rw[O,aoj _ (by omega)];have c1:n / d<=1152921504606846976:=by
  have:=anq (by omega:0<d) h2;have:=an1 (b:=d) (by omega:(0:Int)<=1152921504606846976);omega
 have Y: -1152921504606846976<=n / d:=by
  rw[am5 (by omega)];omega
 exact aA (by omega) (by omega)
structure Rat (a:B1):Prop where
 d1:1<=a.d
 d:a.d<=1073741824
 n0: -1073741824<=a.n
 n:a.n<=1073741824
theorem Wz {a:B1}(h:aQ a=0):Rat a:=by
 unfold aQ at h;rw[amS]at h;split at h
 cases h;rename_i h1;simp only[ama,decide_eq_true_eq,not_or]at h1;constructor <;>omega
theorem zx {i:Int}{x:Reach}(h:dA i x=true):jm x.apt=true/\0<=x.apP.lo/\x.apP.lo<=x.apP.hi/\x.apP.hi<=1073741824:=by
 unfold dA at h;cases hd:decide (i > 0) <;>rw[hd]at h <;>simp only[cond_true,cond_false,alG]at h;all_goals
  have E:=qm h.1.2;exact⟨h.2,E.1,E.2.1,E.2.2⟩
theorem WA {a b:Int}(E: -1073741824<=a)(h1:a<=1073741824)(h2:0<=b)(O:b<=1073741824): -1152921504606846976<=a*b/\a*b<=1152921504606846976:=by
 have U:=amn E h2;have V:=amn h1 h2;omega
structure arY (x:B1×B1):Prop where
 r1:Rat x.1
 r2:Rat x.2
 c1:aQ x.1=0
 c2:aQ x.2=0
 cmp:gY x.1 x.2=((gY x.1 x.2).1,0)/\(gY x.1 x.2).1<=0
 le:x.1.n*x.2.d<=x.2.n*x.1.d
 n1:0<=x.1.n
 n2:x.2.n<=x.2.d
 m1:x.1.n<=x.1.d
 m2:0<=x.2.n
variable {x:B1×B1}
theorem K_(h:jm x=true):arY x:=by
 unfold jm at h;simp only[alG,beq_iff_eq,decide_eq_true_eq]at h;obtain⟨⟨⟨h1,h2⟩,U⟩,X⟩:=h;have hc:aQ x.1=0/\aQ x.2=0:=by
  unfold gY at h1;grind
 have O:=Wz hc.1;have E:=Wz hc.2;have b1:=WA O.n0 O.n (by have:=E.d1;omega) E.d;have b2:=WA E.n0 E.n (by have:=O.d1;omega) O.d;have W:x.1.n*x.2.d<=x.2.n*x.1.d:=by
  unfold gY at U;rw[hc.1,hc.2]at U;simp only[bne_self_eq_false,Bool.or_self,cond_false]at U;grind [aA,jr]
 have e1:=O.d1;have e2:=E.d1;have m1:x.1.n<=x.1.d:=by
  have:=amn X (by omega:0<=x.1.d);have V:x.1.n*x.2.d<=x.1.d*x.2.d:=by grind
  exact anH V (by omega)
 have Y:0<=x.2.n:=by
  have:=anG h2 (by omega:0<=x.2.d);have V:0*x.1.d<=x.2.n*x.1.d:=by omega
  exact anH V (by omega)
 exact⟨O,E,hc.1,hc.2,⟨by rw[<-h1],U⟩,W,h2,X,m1,Y⟩
theorem Te(h:arY x):nt x=true:=by
 unfold nt o7 sq;have:=h.n1;have:=h.n2;have:=h.m1;have:=h.m2;rw[h.c1,h.c2,decide_eq_true (by omega:x.1.n>=0),decide_eq_true (by omega:x.1.n<=x.1.d),decide_eq_true (by omega:x.2.n>=0),decide_eq_true (by omega:x.2.n<=x.2.d)];have h2:=congrArg Prod.snd h.cmp.1;dsimp only at h2;rw[h2,decide_eq_true h.cmp.2];rfl
theorem GF {a:B1}(h:Rat a)(hc:aQ a=0)(V:0<=a.n){v:Int}(E:0<=v)(U:v<=1073741824):(eM a v).1=a.n*v / a.d/\(eM a v).2.1= -(-(a.n*v) / a.d)/\ -(-(a.n*v) / a.d)<=1152921504606846976/\0<= -(-(a.n*v) / a.d):=by
 have:=h.d1;have:=h.d;have:=h.n;have Y:=WA (by omega) h.n E U;have O:=anG V E;unfold eM;have X:(decide (v< (-1073741824)) ||decide (v > 1073741824))=false:=by grind
 rw[hc,X];simp only[bne_self_eq_false,cond_false];rw[aA (by omega: -9223372036854775808<=0 - a.n) (by omega)];have W:(0 - a.n)*v= -(a.n*v):=by grind
 rw[W,aA (by omega: -9223372036854775808<= -(a.n*v)) (by omega),aA (by omega: -9223372036854775808<=a.n*v) (by omega)];rw[NN h.d1 h.d (by omega) (by omega),NN h.d1 h.d (by omega) (by omega)];have c1: -1152921504606846976<= -(a.n*v) / a.d:=by
  rw[am5 (by omega)];omega
 have c2: -(a.n*v) / a.d<=0:=by
  have:=anq (by omega:0<a.d) (by omega: -(a.n*v)<=0);simp_all
 grind [aA]
theorem La {i:Int}{x:Reach}(h:dA i x=true){v:Int}(O:0<=v)(V:v<=1073741824):gH x v=0/\0<=(gQ x v).lo/\(gQ x v).lo<=(gQ x v).hi/\(gQ x v).hi<=v:=by
 obtain⟨h1,h2,h3,h4⟩:=zx h;have E:=K_ h1;refine⟨?_,?_⟩;grind [gH,o6,sq,Te]
 unfold gQ;cases hv:(v==0)with
 |true=>
  grind
 |false=>
  simp only[beq_eq_false_iff_ne,ne_eq]at hv;simp only[cond_false];obtain⟨a1,_,_,_⟩:=GF E.r1 E.c1 E.n1 O V;obtain⟨_,b1,Y,b3⟩:=GF E.r2 E.c2 E.m2 O V;rw[a1,b1];have d1:=E.r1.d1;have d2:=E.r2.d1;have P0:0<=x.apt.1.n*v / x.apt.1.d:=Int.ediv_nonneg (anG E.n1 O) (by omega);have W:x.apt.1.n*v / x.apt.1.d*x.apt.1.d<=x.apt.1.n*v:=Int.ediv_mul_le _ (by omega);have X: -(x.apt.2.n*v) / x.apt.2.d*x.apt.2.d<= -(x.apt.2.n*v):=Int.ediv_mul_le _ (by omega);generalize x.apt.1.n*v / x.apt.1.d=P at P0 W;generalize -(x.apt.2.n*v) / x.apt.2.d=Q at Y b3 X;have PV:P<=v:=by
   have:=amn E.m1 O;have U:P*x.apt.1.d<=v*x.apt.1.d:=by grind
   exact anH U (by omega)
  have PQ:P<= -Q:=by
   have e1:=amn W (by omega:0<=x.apt.2.d);have e2:=amn E.le O;have e3:=amn X (by omega:0<=x.apt.1.d);have U:P*(x.apt.1.d*x.apt.2.d)<= -Q*(x.apt.1.d*x.apt.2.d):=by
    grind
   have hp:0<x.apt.1.d*x.apt.2.d:=Int.mul_pos (by omega) (by omega);simp_all
  grind [aA]
end Go.Sx
end
