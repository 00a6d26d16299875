/- Part of the proof that the law RefuseLess returns true and leaves its arguments as they were, for all arguments of bulk at most 1048576 (the Upto form). -/
import Derived.Test.YtaikmgjfkejlkaaGreatF111
import Derived.Test.YtaikmgjfkejlkaaGreatF108
import Derived.Test.YtaikmgjfkejlkaaGreatF107
import Derived.Test.YtaikmgjfkejlkaaGreatF110
import Derived.Sort.Statements
import Derived.Shelf.SlSortCmp.Insertion
set_option linter.all false
set_option maxHeartbeats 4000000
set_option maxRecDepth 100000
section
namespace Go.Sx
open Go.Proofs
open IntKind (i64 u64)
def Wm {p q:Nat}(E:0<q):Int.tmod (-(p:Int)) (-(q:Int))= -((p % q:Nat):Int):=by
 simp_all [amg]
def FO (a1:Int):∀ (n i:Nat) (p q:Nat),q<n->∃ a b,aj (kS a1) n i (-(p:Int),-(q:Int))=.inl (a,b)/\((b= -1/\Nat.gcd p q=1)\/(b=0/\a= -((Nat.gcd p q:Nat):Int)))
 |0,_,_,_,h=>by omega
 |n+1,i,p,q,h=>by
  simp only[aj,kS];by_cases h1:1<q
  rw[decide_eq_true (by omega)];simp only[cond_true];rw[Wm (by omega)];have hlt:p % q<q:=anz _ (by omega);obtain⟨a,b,e,h2⟩:=FO a1 n (i+1) q (p % q) (by omega);grind [Nat.gcd_comm,Nat.gcd_rec]
  rw[decide_eq_false (by omega)];simp only[cond_false];refine⟨_,_,rfl,?_⟩;by_cases E:q=0
  grind
  have:q=1:=by omega
  simp_all
variable {n d:Int}
theorem SR(h0: -4611686018427387904<=n)(h1:n<=4611686018427387904)(h2: -4611686018427387904<=d)(h3:d<=4611686018427387904):oM n d/\pK n d=mkR n d:=by
 unfold oM pK;by_cases hd:d=0
 grind [mkR]
 have e:(d==0)=false:=by grind
 rw[e];simp only[cond_false];have ex:(bif(decide (n > 0))then(i64.wrap (0 - n))else n)= -((n.natAbs:Nat):Int):=by
  by_cases h:n > 0
  rw[decide_eq_true h,cond_true,az (by omega) (by omega)];omega;grind
 have X:(bif(decide (d > 0))then(i64.wrap (0 - d))else d)= -((d.natAbs:Nat):Int):=by
  by_cases h:d > 0
  rw[decide_eq_true h,cond_true,az (by omega) (by omega)];omega;grind
 rw[ex,X];obtain⟨a,b,er,hr⟩:=FO d (Int.natAbs d+2) 0 n.natAbs d.natAbs (by omega);rw[er];have g0:0<Nat.gcd n.natAbs d.natAbs:=an6 _ (by omega);have E:okI (kS d) (nH d) (Int.natAbs d+2) 0 (-((n.natAbs:Nat):Int),-((d.natAbs:Nat):Int)):=ic _ _ _ λj s _ _ h=>by grind
 simp only;have l1:n.natAbs / Nat.gcd n.natAbs d.natAbs<=n.natAbs:=anQ _ _;have l2:d.natAbs / Nat.gcd n.natAbs d.natAbs<=d.natAbs:=anQ _ _;rcases hr with⟨rfl,W⟩ | ⟨rfl,rfl⟩
 ·
  have t:∀ m:Nat,Int.tdiv (-(m:Int)) (-1)=(m:Int):=λm=>by grind
  refine⟨λ_=>⟨E,(λz h=>by cases h),λx V=>by grind⟩,?_⟩;unfold mkR;rw[if_neg hd,W,Nat.div_one,Nat.div_one,t,t];simp only[BEq.rfl,cond_true];by_cases O:1073741824<n.natAbs\/1073741824<d.natAbs
  grind
  rw[if_neg O];have U:((decide (-((n.natAbs:Nat):Int) < (-1073741824))) ||(decide (-((d.natAbs:Nat):Int) < (-1073741824))))=false:=by
   grind
  rw[U,az (n:=((n.natAbs:Nat):Int)) (by omega) (by omega),az (n:=((d.natAbs:Nat):Int)) (by omega) (by omega),az (n:=0 - ((n.natAbs:Nat):Int)) (by omega) (by omega)];grind
 have t:∀ m:Nat,Int.tdiv (-(m:Int)) (-((Nat.gcd n.natAbs d.natAbs:Nat):Int))=((m / Nat.gcd n.natAbs d.natAbs:Nat):Int):=λm=>by simp_all
 refine⟨λ_=>⟨E,(λz h=>by cases h),λx V=>by grind⟩,?_⟩;unfold mkR;rw[if_neg hd,t,t];have b0:((0:Int) == -1)=false:=by decide
 rw[b0];simp only[cond_false];generalize V:n.natAbs / Nat.gcd n.natAbs d.natAbs=x at *;generalize hy:d.natAbs / Nat.gcd n.natAbs d.natAbs=y at *;by_cases O:1073741824<x\/1073741824<y
 rw[if_pos O];have U:((decide (i64.wrap (x:Int) > 1073741824)) ||(decide (i64.wrap (y:Int) > 1073741824)))=true:=by
  rw[az (by omega) (by omega),az (by omega) (by omega),alY,decide_eq_true_eq,decide_eq_true_eq];omega
 grind
 rw[if_neg O];have U:((-((Nat.gcd n.natAbs d.natAbs:Nat):Int) == -1)&&((decide (-((n.natAbs:Nat):Int) < (-1073741824))) ||(decide (-((d.natAbs:Nat):Int) < (-1073741824)))))=false:=by
  grind
 have Y:((decide (i64.wrap (x:Int) > 1073741824)) ||(decide (i64.wrap (y:Int) > 1073741824)))=false:=by
  grind [az]
 rw[U,Y,az (n:=(x:Int)) (by omega) (by omega),az (n:=(y:Int)) (by omega) (by omega),az (n:=0 - (x:Int)) (by omega) (by omega)];grind
theorem MS (a b:G2):qM a b/\sb a b=ii a b:=by
 rw[OQ];unfold qM sb;have U:kp a b=((aR a==0)&&(aR b==0)):=by grind [kp,wZ]
 rw[U];by_cases h:aR a=0/\aR b=0
 have O:=(gJ a).1 h.1;have E:=(gJ b).1 h.2;have m1:=CZ O.n0 O.n E.d1 E.d;have V:=CZ E.n0 E.n O.d1 O.d;have h1:=O.d1;have h2:=O.d;have W:=CZ (a:=a.d) (by omega) h2 E.d1 E.d;rw[if_pos h,h.1,h.2,az (n:=a.n*b.d) (by omega) (by omega),az (n:=b.n*a.d) (by omega) (by omega),az (n:=a.d*b.d) (by omega) (by omega),az (n:=a.n*b.d+b.n*a.d) (by omega) (by omega)];obtain⟨p,e⟩:=SR (n:=a.n*b.d+b.n*a.d) (d:=a.d*b.d) (by omega) (by omega) (by omega) (by omega);rw[e];exact⟨⟨OO a b,λ_=>p⟩,rfl⟩;have:((aR a==0)&&(aR b==0))=false:=by
  grind
 rw[if_neg h,this];exact⟨⟨OO a b,(λh=>by cases h)⟩,rfl⟩
theorem Wn(hd:1<=d)(V:d<=1073741824)(h1: -1152921504606846976<=n)(h2:n<=1152921504606846976):n9 n d=n / d:=by
 unfold n9;have q:=anj n d;have Y:=anc n (by omega:d≠0);have q2:=amY n (by omega:0<d);have c1:n / d<=1152921504606846976:=by
  have:=am9 (by omega:0<d) h2;have:=anM (b:=d) (by omega:(0:Int)<=1152921504606846976);omega
 have c2: -1152921504606846976<=n / d:=by
  rw[amS (by omega)];omega
 have X:d.sign=1:=Int.sign_eq_one_of_pos (by omega);have O:=Int.tdiv_eq_ediv (a:=n) (b:=d);have E:=aog (a:=n) (b:=d);by_cases U:0<=n\/d ∣ n
 rw[if_pos U]at O E;rw[O,E,decide_eq_false (by omega),cond_false,az (by omega) (by omega)];omega;rw[if_neg U]at O E;have W:n % d≠0:=λe=>U (.inr (Int.dvd_of_emod_eq_zero e));rw[O,E,X,decide_eq_true (by omega),cond_true,az (n:=n / d+1) (by omega) (by omega),az (by omega) (by omega)];omega
theorem O1{a:G2}(h:apf a)(O:0<=n)(h1:n<=1073741824):na a n/\(gA a n).1=a.n*n / a.d:=by
 have U: -1152921504606846976<=a.n*n/\a.n*n<=1152921504606846976:=by
  have:(a.n*n).natAbs<=1073741824*1073741824:=by rw[aov];exact anZ (by have:=h.n0;have:=h.n;omega) (by omega)
  omega
 have hd:=h.d1;have E:=h.d;refine⟨⟨xD a,λ_ _=>⟨⟨by omega,by omega⟩,⟨by omega,by omega⟩⟩⟩,?_⟩;unfold gA;rw[(sd a).2 h];have e:(decide (n< -1073741824) ||decide (n > 1073741824))=false:=by simp;omega
 simp only[alN,cond_false,e];grind [az,Wn]
theorem FP {ρ ρ' σ σ':Type}{f:Nat->σ->ρ⊕σ}{g:Nat->σ'->ρ'⊕σ'}(R:Nat->σ->σ'->Prop):∀ (n i:Nat) (s:σ) (t:σ'),R i s t->(∀ j s t,i<=j->j<i+n->R j s t->(∃ a b,f j s=.inl a/\g j t=.inl b)\/∃ s' t',f j s=.inr s'/\g j t=.inr t'/\R (j+1) s' t')->
  (∃ a b,aj f n i s=.inl a/\aj g n i t=.inl b)\/∃ s' t',aj f n i s=.inr s'/\aj g n i t=.inr t'/\R (i+n) s' t'
 |0,i,s,t,h,_=>.inr ⟨s,t,rfl,rfl,h⟩
 |n+1,i,s,t,h,hs=>by
  rcases hs i s t (alw _) (by omega) h with⟨a,b,E,O⟩ | ⟨s',t',E,O,h'⟩;grind [aj]
  simp only[aj,E,O];have:=FP R n (i+1) s' t' h' λj s t h1 h2=>hs j s t (by omega) (by omega);grind
theorem ZY (l:List Part)(k:Nat):aj (jV l k) k 0 ()=.inr ()↔∀ i,i<k->(l.getD i default).ee≠(l.getD k default).ee:=by
 rw[g5];refine forall_congr' λi=>forall_congr' λ_=>?_;unfold jV;grind
theorem SS (l:List Part)(k:Nat)(O:k<=l.length)(f:Int):f∈(l.take k).map (λx=>x.ee)↔∃ i,i<k/\(l.getD i default).ee=f:=by
 rw[anq];constructor
 rintro⟨x,E,rfl⟩;obtain⟨i,hi,rfl⟩:=al9.1 E;rw[amq]at hi;exact⟨i,by omega,by grind⟩;rintro⟨i,hi,rfl⟩;refine⟨l.getD i default,?_,rfl⟩;rw[mC l _ (by omega)];exact al9.2 ⟨i,by grind,by grind⟩
theorem SU {a:G2}(h:apf a):(a.n==a.d)=((a.n==1)&&(a.d==1)):=by
 rw[amj,alt,beq_iff_eq,beq_iff_eq,beq_iff_eq];constructor
 intro e;have h1:=h.gcd;rw[e]at h1 |-;have h2:=h.d1;have:a.d.natAbs=a.d.toNat:=by omega
 grind
 omega
theorem ZZ (d:ah)(l:List Part):qp d l:=λO _=>ic _ _ _ λj s _ U E=>⟨λ_=>xD _,λ_=>⟨by grind,ic _ _ _ λi s _ hi=>by rw[alv]at hi;exact⟨by omega,by omega⟩,λ_ _=>(MS _ _).1⟩⟩
variable {d:ah}
theorem Wo(hf:d.u0.length<=600)(l:List Part):qU d l=iV d l:=by
 unfold qU iV;have U:apf { n:=0,d:=1}:=⟨by decide,by decide,by decide,by decide,by decide⟩;have key:=FP (f:=ga d l) (g:=l8 d l) (λj s t=>t=(s.1,s.2.1)/\apf { n:=s.1,d:=s.2.1}/\∀ f:Int,ax .int .bool s.2.2 f=decide (f∈(l.take j).map λx=>x.ee)) l.length 0 (0,1,[]) (0,1) ⟨rfl,U,λf=>by rfl⟩ (λj s t _ hj ⟨j1,j2,j3⟩ =>by
  rw[alF]at hj;subst j1;unfold ga l8;rw[alv];have O:=y7 (l.getD j default).ee (k:=d.u0.length) (by omega);have hm:=j3 (l.getD j default).ee;have E:=MS { n:=s.1,d:=s.2.1} (l.getD j default).share;have hd:=ZY l j;rw[E.2];have Y:=b_ l default hj;have W:=SS l j (by omega) (l.getD j default).ee;generalize hp:l.getD j default=p at *;by_cases hA:0<=p.ee/\p.ee< (d.u0.length:Int)
  ·have hA1:=O.2 hA;have X:((decide (p.ee<0)) ||(decide (p.ee>=(d.u0.length:Int))))=false:=by
    grind
   rw[hA1,X,hm];by_cases hC:p.share.n<=0
   grind
   ·rw[decide_eq_false hC];simp only[alN,am3,amU];by_cases hV:apf p.share
    rw[(sd _).2 hV];simp only[alN,cond_false];by_cases hB:p.ee∈(l.take j).map λx=>x.ee
    grind
    rw[decide_eq_false hB];simp only[cond_false];have hn:aj (jV l j) j 0 ()=.inr ():=hd.2 λi hi e=>hB (W.2 ⟨i,hi,e⟩);rw[hn];simp only;cases he:((ii { n:=s.1,d:=s.2.1} p.share).2 !=0)with
    |true=>simp_all
    |false=>
     have he:(ii { n:=s.1,d:=s.2.1} p.share).2=0:=by grind
     obtain⟨_,_,a3,_⟩:=V6 (r:=(ii { n:=s.1,d:=s.2.1} p.share).1) (by rw[<-he]);refine .inr ⟨_,_,rfl,rfl,rfl,a3,λf=>?_⟩;rw[od,Y,anP];grind
    ·have hV2:ew p.share=false:=by
      cases h:ew p.share with
      |true=>exact absurd ((sd _).1 h) hV|false=>rfl
     simp_all [OQ,gJ]
  grind)
 by_cases hl:1<=l.length/\l.length<=16
 have e1:((decide ((l.length:Int) <1)) ||(decide ((l.length:Int) > 16)))=false:=by
  grind
 have e2:aO (l.length:Int) 1 16=true:=(vo _ _ _).2 (by omega);rw[e1,e2];simp only[cond_false,ane];rcases key with⟨a,b,q1,V⟩ | ⟨s,t,q1,V,q3,q4,_⟩;rw[q1,V];rw[q1,V];subst q3;exact SU q4
 ·have e1:((decide ((l.length:Int) <1)) ||(decide ((l.length:Int) > 16)))=true:=by
   grind
  have e2:aO (l.length:Int) 1 16=false:=by
   cases h:aO (l.length:Int) 1 16 with
   |true=>have:=(vo _ _ _).1 h;omega|false=>rfl
  grind
theorem MT (b:List bl)(n:Int):(l9 b n= -1/\∀ y∈b,¬ (y.no=n/\y.kind≠4))\/∃ K y R,b=K++y::R/\l9 b n=(K.length:Int)/\y.no=n/\y.kind≠4:=by
 unfold l9;have E:∀ y:bl,((y.no==n)&&(y.kind !=4))=true↔(y.no=n/\y.kind≠4):=λy=>by grind
 rcases Aj (step:=sR b n) b default (λy=>(y.no==n)&&(y.kind !=4)) (λk _=>rfl)with⟨e,h⟩ | ⟨K,x,R,h1,e,h2,O⟩ <;>grind
theorem Z0(hf:d.u0.length<=600)(hr:d.al.length<=256){b:List bl}(hb:Asc b)(x:bl):qV d b x=dy d (uK b) x:=by
 unfold qV dy;have O:mD d x=((aO x.right 0 (i64.wrap ((d.al.length:Int) - 1)))&&((d.al.getD (Int.toNat x.right) (default:ape)).kind==1)&&(aO x.since 0 (i64.wrap ((d.u0.length:Int) - 1)))):=by
  unfold mD;rw[amj];simp only[alt,decide_eq_true_eq];grind [y7]
 have V:((decide (x.to>=0))&&(decide (x.to< (d.u0.length:Int))))=aO x.to 0 (i64.wrap ((d.u0.length:Int) - 1)):=by
  rw[amj,y7 _ (by omega),alt,decide_eq_true_eq,decide_eq_true_eq]
 have E:(((((((decide (x.no<0)) ||(decide (x.no > 1048576))) ||(decide (x.at_<0))) ||(decide (x.at_ > 4096))) ||(decide (x.known<0))) ||(decide (x.known > 1048576))))=(((!(aO x.no 0 1048576)) ||(!(aO x.at_ 0 4096))) ||(!(aO x.known 0 1048576))):=by
  rw[amj];simp only[alY,decide_eq_true_eq,alL,<-am8,vo];omega
 rw[E,O];cases hg:(((!(aO x.no 0 1048576)) ||(!(aO x.at_ 0 4096))) ||(!(aO x.known 0 1048576)))with
 |true=>simp
 |false=>
  simp only[am3,cond_false];unfold kR iX;simp only[aok,am3,ane];by_cases k1:x.kind=1
  grind
  rw[show(x.kind==1)=false by grind];by_cases k2:x.kind=2
  rw[show(x.kind==2)=true by rw[k2];rfl];simp only[cond_true,cond_false];grind [Wo]
  rw[show(x.kind==2)=false by grind];by_cases k3:x.kind=3
  grind
  rw[show(x.kind==3)=false by grind];by_cases U:x.kind=4
  rw[show(x.kind==4)=true by rw[U];rfl];simp only[cond_true,cond_false,Bool.or_true,an5];cases hz:((((x.right==0)&&(x.since==0))&&(x.to==0))&&((x.parts.length:Int) ==0))with
  |false=>simp
  |true=>
   simp only[ane,alN,cond_false];rw[Mx];rcases MT b x.of_ with⟨e,X⟩ | ⟨K,y,R,Y,e2,e3,e4⟩;rw[e];simp only[show decide ((-1:Int)>=0)=false by decide,Bool.false_and];grind [Fi]
   have hy:y∈b:=by rw[Y];simp
   have W:b.getD (Int.toNat (K.length:Int)) default=y:=by grind
   grind [Fi]
  grind
theorem FQ (d:ah)(x:bl):oR d x:=λh=>by
 grind
theorem SW (d:ah)(b:List bl)(x:bl):qq d b x:=λ_=>⟨λ_ _=>FQ _ _,λ_=>⟨λ_=>⟨λ_=>FQ _ _,λ_=>ZZ _ _⟩,λ_=>⟨λ_ _=>FQ _ _,λ_ _ h=>by
 simp only[alt,decide_eq_true_eq]at h;rcases MT b x.of_ with⟨e,_⟩ | ⟨K,y,R,E,O,_⟩ <;>grind⟩⟩⟩
theorem Wp (l:List bl):pP l=((decide ((l.length:Int) > 512)) ||aM l):=by
 unfold pP;cases decide ((l.length:Int) > 512)with
 |true=>rfl
 |false=>
  simp only[cond_false,am3];cases O:aj (kT l) l.length 0 ()with
  |inr s=>
   have h:=g5.1 O
   symm
   refine(qo l).2 λx U=>?_;obtain⟨j,E,rfl⟩:=al9.1 U;grind [kT]
  |inl y=>
   cases hc:aM l with
   |true=>rfl
   |false=>
    have h:=(qo l).1 hc;have:aj (kT l) l.length 0 ()=.inr ():=g5.2 λj E=>by
     grind [kT]
    grind
theorem xI (d:ah)(l:List bl):nf d l:=⟨SG d,λ_ _=>ic _ _ _ λj s _ E O=>⟨λh=>by
  rw[decide_eq_true_eq]at h;grind [az,aK],λ_=>⟨by omega,by omega,by omega⟩,λ_=>SW _ _ _⟩⟩
theorem Q7 (d:ah)(l:List bl):ka d l=aP d l:=by
 unfold ka aP;rw[<-V3 d,Wp];cases h1:(ap d !=0)with
 |true=>rfl
 |false=>
  simp only[cond_false];cases h2:((decide ((l.length:Int) > 512)) ||aM l)with
  |true=>rfl
  |false=>
   simp only[cond_false];have V:=jw (d:=d) h1;rw[al1,decide_eq_false_iff_not]at h2;have key:=FP (f:=ma d l) (g:=eH d l) (λj _ t=>t=uK (l.take j)/\Asc (l.take j)) l.length 0 () [] ⟨rfl,by rw[an0];exact List.Pairwise.nil⟩ (λj s t _ U ⟨X,E⟩ =>by
    rw[alF]at U;subst X;unfold ma eH;rw[List.drop_zero,Z0 V.u0 V.al E];cases hc:(((decide ((j:Int) > 0))&&(decide ((l.getD j (default:bl)).no<=(l.getD (Int.toNat (i64.wrap ((j:Int) - 1))) (default:bl)).no))) ||(!(dy d (uK (l.take j)) (l.getD j (default:bl)))))with
    |true=>simp_all
    |false=>
     refine .inr ⟨(),_,rfl,rfl,by grind [b_,xE],?_⟩;rw[b_ l default U];refine alX.2 ⟨E,ama _ _,λy hy z O=>?_⟩;simp only[ami]at O;subst O;rw[al1,amv,decide_eq_false_iff_not,decide_eq_false_iff_not]at hc;obtain⟨i,hi,rfl⟩:=al9.1 hy;rw[amq]at hi;have W:0<j:=by omega
     rw[oa (by omega) W,alv]at hc;have Y:(l.getD (j - 1) default).no< (l.getD j default).no:=by omega
     have h4:(l.take j)[i].no<=(l.getD (j - 1) default).no:=by
      rcases amz i (j - 1)with h5|h5;have:=al3.1 E i (j - 1) (by omega) (by grind) h5;grind
      grind
     omega)
   grind
def rt (l:List Part)(n:Int)(g:Int->Int):Int->Int:=l.foldl (λg p=>jD g p.ee (g p.ee+loP p n)) g
def oY (l:List Part)(g:Int->Int):Int->Int:=l.foldl (λg p=>jD g p.ee (g p.ee+1)) g
def BD (l:List Part)(n:Int)(g:Int->Int):Int->Int:=oY (l.take (n - d_ l n).toNat) (rt l n g)
def za (x:bl)(g:Int->Int):Int->Int:=
 if g x.since=0 then g else
 if x.kind=1 then jD (jD g x.since 0) x.to (jD g x.since 0 x.to+g x.since)else
 if x.kind=2 then BD x.parts (g x.since) (jD g x.since 0)else jD g x.since 0
theorem IA (l:List Part)(p:Part)(n:Int)(g:Int->Int):rt (l++[p]) n g=jD (rt l n g) p.ee (rt l n g p.ee+loP p n):=by
 unfold rt;grind
theorem FR (l:List Part)(p:Part)(g:Int->Int):oY (l++[p]) g=jD (oY l g) p.ee (oY l g p.ee+1):=by
 unfold oY;grind
theorem vB (l:List Part)(p:Part)(n:Int):d_ (l++[p]) n=d_ l n+loP p n:=by
 unfold d_;simp
def aqz (F:Nat)(l:List Part):Prop:= ∀ p∈l,0<=p.ee/\p.ee< (F:Int)/\apf p.share/\0<p.share.n
variable {l:List Part}
theorem ap0.fit(h:ap0 d l):aqz d.u0.length l:=λp E=>⟨(h.part p E).f0,(h.part p E).f1,(h.part p E).share,(h.part p E).pos⟩
theorem sf {F:Nat}{n:Int}(O:0<=n):∀ (l:List Part) (g:Int->Int) (M:Int),aqz F l->Good F M g->Good F (M+d_ l n) (rt l n g)/\tot F (rt l n g)=tot F g+d_ l n
 | [],g,M,_,E=>by grind [rt,d_]
 |p::l,g,M,U,E=>by
  obtain⟨a,b,c,e⟩:=U p alR;have V:=MR c e O;have hgf:=E.nn p.ee;have h1:Good F (M+loP p n) (jD g p.ee (g p.ee+loP p n)):=E.put a b (by omega) (by have:=E.tot;omega);obtain⟨Y,W⟩:=sf O l _ _ (λq hq=>U q (alP _ hq)) h1;have X:d_ (p::l) n=loP p n+d_ l n:=by simp[d_]
  rw[vA g p.ee _ F a b]at W;rw[X];refine⟨by rw[show M+(loP p n+d_ l n)=M+loP p n+d_ l n by omega];exact Y,?_⟩;show tot F (rt l n (jD g p.ee (g p.ee+loP p n)))=_;omega
theorem vC {F:Nat}:∀ (l:List Part) (g:Int->Int) (M:Int),aqz F l->Good F M g->Good F (M+l.length) (oY l g)/\tot F (oY l g)=tot F g+l.length
 | [],g,M,_,E=>by grind [oY]
 |p::l,g,M,O,E=>by
  obtain⟨a,b,c,e⟩:=O p alR;have W:=E.nn p.ee;have h1:Good F (M+1) (jD g p.ee (g p.ee+1)):=E.put a b (by omega) (by have:=E.tot;omega);obtain⟨U,V⟩:=vC l _ _ (λq X=>O q (alP _ X)) h1;rw[vA g p.ee _ F a b]at V;simp only[aly];refine⟨by rw[show M+((l.length+1:Nat):Int)=M+1+(l.length:Int) by omega];exact U,?_⟩;show tot F (oY l (jD g p.ee (g p.ee+1)))=_;omega
theorem aqz.take{F:Nat}(h:aqz F l)(k:Nat):aqz F (l.take k):=λp E=>h p (am0 E)
variable {g:Int->Int}
theorem O2(h:ap0 d l){M:Int}(U:0<=n)(W:Good d.u0.length M g):Good d.u0.length (M+n) (BD l n g)/\tot d.u0.length (BD l n g)=tot d.u0.length g+n:=by
 obtain⟨O,X⟩:=sf U l g M h.fit W;obtain⟨E,V⟩:=vC (l.take (n - d_ l n).toNat) _ _ (h.fit.take _) O;obtain⟨l1,Y⟩:=Kt h n;have e:((l.take (n - d_ l n).toNat).length:Int)=n - d_ l n:=by grind
 rw[e]at E V;refine⟨by rw[show M+n=M+d_ l n+(n - d_ l n) by omega];exact E,?_⟩;show tot _ (oY _ _)=_;omega
variable {x:bl}{L:Int}
theorem MU(O:Fit d x)(X:x.kind≠4)(W:Good d.u0.length L g):Good d.u0.length L (za x g)/\(x.kind≠3->tot d.u0.length (za x g)=tot d.u0.length g):=by
 obtain⟨_,_,_,s0,s1⟩:=O.held X;unfold za;by_cases Y:g x.since=0
 grind
 rw[if_neg Y];have U:=W.nn x.since;have hT:=W.tot;have E:Good d.u0.length (L - g x.since) (jD g x.since 0):=W.put s0 s1 (al5 _) (by omega);have t1:=vA g x.since 0 d.u0.length s0 s1;by_cases V:x.kind=1
 rw[if_pos V];obtain⟨a,b,c⟩:=O.pass V;have h1:=E.nn x.to;have t2:=vA (jD g x.since 0) x.to (jD g x.since 0 x.to+g x.since) d.u0.length a b;exact⟨E.put a b (by omega) (by omega),λ_=>by omega⟩;rw[if_neg V];by_cases k2:x.kind=2
 rw[if_pos k2];obtain⟨q1,q2⟩:=O2 (O.split k2) U E;grind
 rw[if_neg k2];refine⟨⟨E.nn,E.sup,by omega⟩,λk3=>?_⟩;rcases O.kind with e|e|e|e <;>omega
abbrev BM:=List (x4×Int)
abbrev RT (r f:Int):x4:= { right:=r,ee:=f}
def bk (m:BM):Int->Int->Int:=λr f=>ax .gl .int m (RT r f)
theorem Ku (m:BM)(r f v:Int):bk (dD .gl .int m (RT r f) v)=λE=>if E=r then jD (bk m r) f v else bk m E:=by
 funext E f'
 unfold bk;rw[od];by_cases h:E=r
 simp_all [jD];simp_all
theorem adD (m:BM)(O:(kK m).Nodup)(r f:Int):bk (sj .gl .int m (RT r f))=λE=>if E=r then jD (bk m r) f 0 else bk m E:=by
 funext E f'
 unfold bk ax sj;have e:=(BC (RT r f) m O).2.2 (RT E f');have e':iC (AP m (RT r f)) (RT E f')=if RT E f'=RT r f then none else iC m (RT E f'):=e;by_cases h:E=r
 subst h;rw[if_pos rfl];unfold jD;by_cases h2:f'=f
 subst h2;rw[e',if_pos rfl,if_pos rfl];rfl;grind
 simp_all
theorem Good.aqJ{F:Nat}(h:Good F L g)(E:L<=2147483648)(f:Int):0<=g f/\g f<=2147483648:=by
 have h1:=h.nn f;by_cases e:g f=0
 omega;obtain⟨a,b⟩:=h.sup f e;have:=FN h.nn F f a b;have:=h.tot;omega
variable {m:BM}
theorem SX(U:ap0 d x.parts)(V:0<=n)(h1:n<=1073741824)(hN:(kK m).Nodup){M:Int}(hM:M+n<=2147483648)(hg:Good d.u0.length M (bk m x.right)):
  fw x n m/\(kK (dz x n m)).Nodup/\bk (dz x n m)=λr=>if r=x.right then BD x.parts n (bk m r)else bk m r:=by
 obtain⟨l1,l2⟩:=Kt U n;obtain⟨⟨m1,E⟩,e1,a1,a2,a3⟩:=li (step:=b8 x n) (λk (s:BM×Int) =>(kK s.1).Nodup/\(bk s.1=λr=>if r=x.right then rt (x.parts.take k) n (bk m r)else bk m r)/\s.2=n - d_ (x.parts.take k) n) x.parts.length 0 (m,n) ⟨hN,by grind [rt],by simp[d_]⟩ (λj s _ hj ⟨j1,X,j3⟩ =>by
  rw[alF]at hj;have hm:x.parts.getD j default∈x.parts:=by grind
  obtain⟨f0,f1,f2,f3⟩:=U.fit _ hm;have elo:(eT (x.parts.getD j default).share n).1=loP (x.parts.getD j default) n:=(Wk f2 V h1).1;have hlo:=MR f2 f3 V;obtain⟨q1,q2⟩:=sf V (x.parts.take j) _ _ (U.fit.take _) hg;have hs:∀ k,0<=d_ (x.parts.take k) n/\d_ (x.parts.take k) n<=d_ x.parts n:=λk=>by
   have key:∀ l:List Part,aqz d.u0.length l->0<=d_ l n:=λl=>by
    induction l with
    |nil=>grind [d_]
    |cons p r ih=>
     intro Y;obtain⟨_,_,c,e⟩:=Y p alR;have:=MR c e V;have:=ih λq hq=>Y q (alP _ hq);grind [d_]
   have h1:=key _ (U.fit.take k);have h2:=key (x.parts.drop k) λp Y=>U.fit p (aow Y);grind [List.take_append_drop,d_]
  have hsj:=hs j;have W:=hs (j+1);rw[b_ _ default hj,vB]at W;have hv:=q1.aqJ (by omega) (x.parts.getD j default).ee;have O:ax .gl .int s.1 (RT x.right (x.parts.getD j default).ee)=rt (x.parts.take j) n (bk m x.right) (x.parts.getD j default).ee:=by
   have:=congrFun (congrFun X x.right) (x.parts.getD j default).ee;grind [bk]
  refine⟨_,rfl,?_,?_,?_⟩;exact(uM _ _ _ j1).1;simp only[elo];rw[O,az (by omega) (by omega),Ku,X];funext r
  by_cases h:r=x.right
  subst h;simp only[if_true];grind [b_,IA];grind
  grind [az,b_,vB])
 rw[alF,am7]at a2 a3;simp only at a1 a2 a3;have hlf:0<=E/\E<=(x.parts.length:Int):=by omega
 obtain⟨q1,q2⟩:=sf V x.parts _ _ U.fit hg;have tk:(x.parts.take E.toNat).drop 0=x.parts.take E.toNat:=by simp
 have tkl:(x.parts.take E.toNat).length=E.toNat:=by grind
 obtain⟨m2,e2,b1,b2⟩:=li (step:=iF x (m1,E)) (λk (s:BM) =>(kK s).Nodup/\(bk s=λr=>if r=x.right then oY ((x.parts.take E.toNat).take k) (rt x.parts n (bk m r))else bk m r)) E.toNat 0 m1 ⟨a1,by grind [oY]⟩ (λj s _ hj ⟨j1,X⟩ =>by
  rw[alF]at hj;have hj':j< (x.parts.take E.toNat).length:=by omega
  have hm:(x.parts.take E.toNat).getD j default∈x.parts.take E.toNat:=by grind
  obtain⟨r1,r2⟩:=vC ((x.parts.take E.toNat).take j) _ _ ((U.fit.take _).take _) q1;have hlen:((x.parts.take E.toNat).take j).length=j:=by grind
  have hv:=r1.aqJ (by omega) ((x.parts.take E.toNat).getD j default).ee;have O:ax .gl .int s (RT x.right ((x.parts.take E.toNat).getD j default).ee)=oY ((x.parts.take E.toNat).take j) (rt x.parts n (bk m x.right)) ((x.parts.take E.toNat).getD j default).ee:=by
   have:=congrFun (congrFun X x.right) ((x.parts.take E.toNat).getD j default).ee;grind [bk]
  refine⟨_,rfl,?_,?_⟩;exact(uM _ _ _ j1).1;simp only[tk];rw[O,az (by omega) (by omega),Ku,X];funext r
  by_cases h:r=x.right
  subst h;simp only[if_true];grind [b_,FR];grind)
 rw[alF]at b2;have e2':aj (iF x (m1,E)) ((x.parts.take E.toNat).drop 0).length 0 m1=.inr m2:=by grind
 have eR:dz x n m=m2:=by
  grind [dz]
 refine⟨λ_ z hz=>?_,?_,?_⟩;grind
 grind
 simp_all [BD,List.take_take]
def nr (x:bl)(B:Int->Int->Int):Int->Int->Int:=λr=>if r=x.right then za x (B r)else B r
def oZ (ds:List bl)(B:Int->Int->Int):Int->Int->Int:=ds.foldl (λB x=>nr x B) B
def Z1:List bl->(Int->Int->Int)->List Int
 | [],_=>[]|x::r,B=>(if B x.right x.since=0 then [x.no]else [])++Z1 r (nr x B)
structure ap5 (d:ah)(m:BM):Prop where
 nodup:(kK m).Nodup
 good:∀ r,∃ L,L<=1073741824/\Good d.u0.length L (bk m r)
theorem ap5.le(h:ap5 d m)(r f:Int):0<=bk m r f/\bk m r f<=1073741824:=by
 obtain⟨L,h1,h2⟩:=h.good r;have:=h2.nn f;by_cases e:bk m r f=0
 omega;obtain⟨a,b⟩:=h2.sup f e;have:=FN h2.nn _ f a b;have:=h2.tot;omega
theorem Z2{ds:List bl}(hx:Fit d x)(hk:x.kind≠4){e:List Int}(W:ap5 d m)(he:(e.length+1)*8<=d9):
  eV ds x (e,m)/\∃ V,cX ds x (e,m)=.inr (e++(if bk m x.right x.since=0 then [x.no]else []),V)/\ap5 d V/\bk V=nr x (bk m):=by
 obtain⟨r0,r1,r2,s0,s1⟩:=hx.held hk;have hv:=W.le x.right x.since;have ebk:ax .gl .int m (RT x.right x.since)=bk m x.right x.since:=rfl;have Y:=BC (RT x.right x.since) m W.nodup;have hstep:∀ V:BM,(kK V).Nodup->bk V=nr x (bk m)->ap5 d V:=λV hN X=>by
  refine⟨hN,λr=>?_⟩;obtain⟨L,h1,h2⟩:=W.good r;refine⟨L,h1,?_⟩;rw[X];show Good _ _ (if r=x.right then za x (bk m r)else bk m r);split
  exact(MU hx hk h2).1;exact h2
 have hlen:(e++[x.no]).length=e.length+1:=by simp
 unfold eV cX;simp only[ebk,hlen];by_cases hn:bk m x.right x.since=0
 have b0:(bk m x.right x.since==0)=true:=by simp[hn]
 rw[b0,if_pos hn];refine⟨⟨λ_=>he,(λh=>by cases h)⟩,m,rfl,W,?_⟩;funext r
 simp_all [nr,za];have b0:(bk m x.right x.since==0)=false:=by grind
 rw[b0,if_neg hn,alT];simp only[cond_false];have E:=adD m W.nodup x.right x.since;have U:(kK (sj .gl .int m (RT x.right x.since))).Nodup:=Y.1;have O:Good d.u0.length (1073741824 - bk m x.right x.since) (bk (sj .gl .int m (RT x.right x.since)) x.right):=by
  obtain⟨L,h1,h2⟩:=W.good x.right;rw[E];simp only[if_true];exact h2.put s0 s1 (al5 _) (by have:=h2.tot;omega)
 by_cases k1:x.kind=1
 have b1:(x.kind==1)=true:=by simp[k1]
 rw[b1];simp only[cond_true];obtain⟨a,b,c⟩:=hx.pass k1;have hto:=O.aqJ (by omega) x.to;have e2:ax .gl .int (sj .gl .int m (RT x.right x.since)) (RT x.right x.to)=jD (bk m x.right) x.since 0 x.to:=by
  grind [bk]
 have hto':0<=jD (bk m x.right) x.since 0 x.to/\jD (bk m x.right) x.since 0 x.to<=2147483648:=by
  grind
 refine⟨⟨(λh=>by cases h),(λ_ h=>by cases h)⟩,_,rfl,?_⟩;have X:bk (eU x (bk m x.right x.since) (sj .gl .int m (RT x.right x.since)))=nr x (bk m):=by
  unfold eU;rw[e2,az (by omega) (by omega),Ku,E];funext r
  simp_all [nr,za]
 exact⟨hstep _ (by unfold eU;exact(uM _ _ _ U).1) X,X⟩;have b1:(x.kind==1)=false:=by grind
 rw[b1];simp only[cond_false];by_cases k2:x.kind=2
 have b2:(x.kind==2)=true:=by simp[k2]
 rw[b2];simp only[cond_true];obtain⟨p1,p2,p3⟩:=SX (hx.split k2) hv.1 hv.2 U (M:=1073741824 - bk m x.right x.since) (by omega) O;refine⟨⟨(λh=>by cases h),λ_ _=>⟨λ_=>p1,(λh=>by cases h)⟩⟩,_,rfl,?_⟩;have X:bk (dz x (bk m x.right x.since) (sj .gl .int m (RT x.right x.since)))=nr x (bk m):=by
  rw[p3,E];funext r
  simp_all [nr,za]
 grind
 have b2:(x.kind==2)=false:=by grind
 rw[b2];simp only[cond_false];have k3:x.kind=3:=by rcases hx.kind with h|h|h|h <;>omega
 have b3:(x.kind==3)=true:=by simp[k3]
 rw[b3];simp only[cond_true];refine⟨⟨(λh=>by cases h),λ_ _=>⟨(λh=>by cases h),(λ_ h=>by cases h)⟩⟩,_,rfl,?_⟩;have X:bk (sj .gl .int m (RT x.right x.since))=nr x (bk m):=by
  rw[E];funext r
  simp_all [nr,za]
 grind
theorem IB {d:ah}(ds:List bl):∀ (l:List bl),(∀ x∈l,Fit d x/\x.kind≠4)->∀ (e:List Int) (m:BM),ap5 d m->(e.length+l.length)*8<=d9->
  okL (cX ds) (eV ds) l (e,m)/\∃ E,dC (cX ds) l (e,m)=.inr (e++Z1 l (bk m),E)/\ap5 d E/\bk E=oZ l (bk m)
 | [],_,e,m,O,_=>⟨trivial,m,by simp[dC,Z1],O,rfl⟩
 |x::l,h,e,m,O,X=>by
  simp only[aly]at X;obtain⟨h1,h2⟩:=h x alR;obtain⟨q1,m1,q2,W,V⟩:=Z2 (ds:=ds) h1 h2 (e:=e) O (by omega);have U:(e++(if bk m x.right x.since=0 then [x.no]else [])).length<=e.length+1:=by grind
  obtain⟨r1,Y,r2,r3,r4⟩:=IB ds l (λy hy=>h y (alP _ hy)) (e++(if bk m x.right x.since=0 then [x.no]else [])) m1 W (by omega);refine⟨⟨q1,λs hs=>by grind⟩,Y,?_,r3,?_⟩;simp only[dC,q2];rw[r2,V,amt];rfl;rw[r4,V];rfl
def B0 (d:ah):Int->Int->Int:=λr f=>if 0<=r/\r< (d.al.length:Int)/\(d.al.getD r.toNat default).kind=1/\(d.al.getD r.toNat default).ee=f then(d.al.getD r.toNat default).dd else 0
structure ard (d:ah)(x:ape):Prop where
 f0:0<=x.ee
 f1:x.ee< (d.u0.length:Int)
 l0:1<=x.dd
 l1:x.dd<=1073741824
theorem Dw(h:ap d=0){k:Nat}(U:k<d.al.length)(V:(d.al.getD k default).kind=1):ard d (d.al.getD k default):=by
 have:=((qQ d).1 h).2.2.2.2.2.2.2.1 k U;unfold dZ at this;rw[iA]at this;have h2:iE d (d.al.getD k default)=true:=by
  grind
 unfold iE at h2;cases E:((!(cC (d.al.getD k default).ee (d.u0.length:Int))) ||(!(cC (d.al.getD k default).reach (d.reaches.length:Int)))) ||(!(aJ ([0,(d.al.getD k default).since,(d.al.getD k default).to,(i64.wrap (d.hours - 1))])))with
 |true=>grind
 |false=>
  rw[E,show((d.al.getD k default).kind==1)=true by rw[V];rfl]at h2;simp only[cond_true,cond_false,alt]at h2;simp only[al1,amN]at E;have O:=E.1.1;unfold cC at O;simp only[alt,decide_eq_true_eq]at O;have W:=vn h2.1.2;exact⟨by omega,by omega,by omega,by omega⟩
theorem adE(h:ap d=0)(r:Int):∃ L,L<=1073741824/\Good d.u0.length L (B0 d r):=by
 by_cases V:0<=r/\r< (d.al.length:Int)/\(d.al.getD r.toNat default).kind=1
 ·have E:=Dw h (k:=r.toNat) (by omega) V.2.2;have W:=E.l0;refine⟨(d.al.getD r.toNat default).dd,E.l1,?_⟩;have e:B0 d r=jD (λ_=>0) (d.al.getD r.toNat default).ee (d.al.getD r.toNat default).dd:=by
   funext f
   unfold B0 jD;grind
  have t0:∀ n,tot n (λ_=>0)=0:=λn=>by
   induction n with
   |zero=>rfl|succ n U=>grind [tot]
  rw[e];exact Good.put (L:=0) ⟨λ_=>al5 _,λf O=>absurd rfl O,by grind⟩ E.f0 E.f1 (by omega) (by grind)
 ·refine⟨0,by omega,?_⟩;have e:B0 d r=λ_=>0:=by
   funext f
   unfold B0;omega
  have t0:∀ n,tot n (λ_=>0)=0:=λn=>by
   induction n with
   |zero=>rfl|succ n U=>grind [tot]
  rw[e];exact⟨λ_=>al5 _,λf O=>absurd rfl O,by grind⟩
theorem Wq(h:ap d=0):∃ m,aj (cW d) d.al.length 0 []=.inr m/\ap5 d m/\bk m=B0 d:=by
 obtain⟨m,h1,h2,V⟩:=li (step:=cW d) (λk (m:BM) =>(kK m).Nodup/\bk m=λr f=>if r< (k:Int)then B0 d r f else 0) d.al.length 0 ([]:BM) ⟨by simp[kK],by
   funext r f
   by_cases E:r< ((0:Nat):Int)
   rw[if_pos E];unfold B0 bk;rw[if_neg (by omega)];rfl;rw[if_neg E];rfl⟩ (λj m _ W ⟨O,U⟩ =>by
  rw[alF]at W;unfold cW;by_cases X:(d.al.getD j default).kind=1
  rw[show((d.al.getD j default).kind==1)=true by rw[X];rfl];refine⟨_,rfl,(uM _ _ _ O).1,?_⟩;rw[Ku,U];funext r f
  by_cases E:r=(j:Int)
  subst E;simp only[if_true];unfold jD B0;grind
  simp only[if_neg E];omega;rw[show((d.al.getD j default).kind==1)=false by grind];refine⟨_,rfl,O,?_⟩;rw[U];funext r f
  by_cases E:r=(j:Int)
  simp_all [B0];omega)
 have e:bk m=B0 d:=by
  rw[V];funext r f
  split
  rfl;unfold B0;omega
 refine⟨m,h1,⟨h2,λr=>?_⟩,e⟩;rw[e];exact adE h r
theorem SY(h:ap d=0){ds:List bl}(hd:∀ x∈ds,Fit d x/\x.kind≠4)(hl:ds.length<=512):
  lh d ds/\∃ m,ff d ds=(m,xW (Z1 ds (B0 d)))/\ap5 d m/\bk m=oZ ds (B0 d):=by
 obtain⟨W,X,Y,b0⟩:=Wq h;obtain⟨q1,m1,O,V,U⟩:=IB (d:=d) ds ds hd [] W Y (by grind [d9]);rw[alC]at O;rw[b0]at O U;refine⟨λ_ z E=>?_,m1,?_,V,U⟩;rw[X]at E;cases E;refine⟨Wf ds,?_⟩;grind [xG]
 grind [ff,xG]
def je (d:ah)(l:List bl)(hour known:Int):Int->Int->Int:=oZ (stS (Ai l hour known)) (B0 d)
def xc (d:ah)(B:Int->Int->Int)(r f:Nat):Option aoS:=if 0<B r f then some { right:=(r:Int),ee:=(f:Int),dd:=B r f,aoX:=(d.al.getD r default).aoX}else none
def jy (d:ah)(B:Int->Int->Int)(r:Nat):List aoS:=(List.range d.u0.length).filterMap (xc d B r)
def qY (d:ah)(B:Int->Int->Int):List aoS:=(List.range d.al.length).flatMap (jy d B)
variable {B:Int->Int->Int}{x:aoS}
theorem o4{r:Nat}:x∈jy d B r↔∃ f:Nat,f<d.u0.length/\0<B r f/\x= { right:=(r:Int),ee:=(f:Int),dd:=B r f,aoX:=(d.al.getD r default).aoX}:=by
 unfold jy xc;grind
theorem xJ:x∈qY d B↔0<=x.right/\x.right< (d.al.length:Int)/\0<=x.ee/\x.ee< (d.u0.length:Int)/\0<x.dd/\x.dd=B x.right x.ee/\x.aoX=(d.al.getD x.right.toNat default).aoX:=by
 unfold qY;rw[ans];constructor
 rintro⟨r,O,U⟩;rw[amX]at O;obtain⟨f,V,E,rfl⟩:=o4.1 U;grind
 rintro⟨a,b,c,e,E,h1,h2⟩;refine⟨x.right.toNat,amX.2 (by omega),o4.2 ⟨x.ee.toNat,by omega,?_,?_⟩⟩;grind
 rw[am5 a,am5 c,<-h1,<-h2]
def MV:∀ n:Nat,(List.range n).Pairwise (· < ·):=λn=>List.pairwise_lt_range
theorem vD (d:ah)(B:Int->Int->Int):(qY d B).Pairwise hlt:=by
 unfold qY;rw[aor];refine⟨λr _=>?_,?_⟩;unfold jy;rw[anE];refine(MV _).imp λ{a b} O x E y hy=>?_;unfold xc at E hy;split at E
 split at hy
 cases E;cases hy;exact Or.inr ⟨rfl,Or.inl (by grind)⟩;cases hy;cases E;refine(MV _).imp λ{a b} O x E y hy=>?_;obtain⟨f,_,_,rfl⟩:=o4.1 E;obtain⟨g,_,_,rfl⟩:=o4.1 hy;simp only[hlt,oO,and_false,or_false];omega
theorem Z3 (x:aoS):¬hlt x x:=by simp only[hlt,oO,and_false,or_false];omega
theorem SZ {l:List aoS}(h:l.Pairwise hlt):l.Nodup:=h.imp λ{a b} E e=>by subst e;exact Z3 _ E
theorem uN {α β:Type}(f:α->List β)(k:Nat):∀ l:List α,(∀ a∈l,(f a).length<=k)->(l.flatMap f).length<=l.length*k
 | [],_=>by simp
 |a::l,h=>by
  have h1:=h a alR;have h2:=uN f k l λb E=>h b (alP _ E);rw[alO,alA,aly,aos,Nat.one_mul];omega
theorem BE(E:apd d)(B:Int->Int->Int):(qY d B).length<=153600:=by
 have h1:=uN (jy d B) 600 (List.range d.al.length) λr _=>alQ (amO _ _) (by rw[am1];exact E.u0);rw[am1]at h1;have:=E.al;show((List.range d.al.length).flatMap (jy d B)).length<=_;omega
def sX (d:ah)(k:x4×Int):Option aoS:=if 0<k.2 then some { right:=k.1.right,ee:=k.1.ee,dd:=k.2,aoX:=(d.al.getD (Int.toNat k.1.right) default).aoX}else none
theorem Kv (d:ah)(l:List bl)(h n:Int):∀ (L:BM) (s:List aoS),dC (eW d l h n) L s=.inr (s++L.filterMap (sX d))
 | [],s=>by simp[dC]
 |k::L,s=>by
  by_cases E:0<k.2
  have e:sX d k=some { right:=k.1.right,ee:=k.1.ee,dd:=k.2,aoX:=(d.al.getD (Int.toNat k.1.right) (default:ape)).aoX}:=by unfold sX;grind
  rw[an8 e];simp only[dC];unfold eW;rw[decide_eq_true (show k.2 > 0 from E)];simp only[cond_true];have:=Kv d l h n L (s++[{ right:=k.1.right,ee:=k.1.ee,dd:=k.2,aoX:=(d.al.getD (Int.toNat k.1.right) (default:ape)).aoX}]);unfold eW at this;grind
  have e:sX d k=none:=by unfold sX;grind
  rw[an9 e];simp only[dC];unfold eW;rw[decide_eq_false (show ¬k.2 > 0 from E)];simp only[cond_false];have:=Kv d l h n L s;unfold eW at this;exact this
theorem O3 (d:ah)(l:List bl)(h n:Int):∀ (L:BM) (s:List aoS),(∀ k∈L,0<k.2->0<=k.1.right/\k.1.right< (d.al.length:Int))->(s.length+(L.filterMap (sX d)).length)*32<=d9->okL (eW d l h n) (mE d l h n) L s
 | [],_,_,_=>trivial
 |k::L,s,V,U=>by
  by_cases O:0<k.2
  have e:sX d k=some { right:=k.1.right,ee:=k.1.ee,dd:=k.2,aoX:=(d.al.getD (Int.toNat k.1.right) (default:ape)).aoX}:=by unfold sX;grind
  rw[an8 e,aly]at U;refine⟨λ_=>⟨V k alR O,by grind⟩,λs' E=>?_⟩;unfold eW at E;rw[decide_eq_true (show k.2 > 0 from O)]at E;cases E;exact O3 d l h n L _ (λq W=>V q (alP _ W)) (by grind);have e:sX d k=none:=by unfold sX;grind
  rw[an9 e]at U;refine⟨λh=>absurd (of_decide_eq_true h) O,λs' E=>?_⟩;unfold eW at E;rw[decide_eq_false (show ¬k.2 > 0 from O)]at E;cases E;exact O3 d l h n L _ (λq W=>V q (alP _ W)) U
theorem Q8 {d:ah}{r:Int}(E:¬ (0<=r/\r< (d.al.length:Int))):∀ (ds:List bl) (B:Int->Int->Int),(∀ x∈ds,Fit d x/\x.kind≠4)->oZ ds B r=B r
 | [],B,_=>rfl
 |x::ds,B,h=>by
  have h1:=h x alR;have h2:=h1.1.held h1.2;show oZ ds (nr x B) r=_;rw[Q8 E ds _ λy hy=>h y (alP _ hy)];unfold nr;grind
variable {l:List bl}
theorem Aq(h:aqO d l)(hour known:Int):∀ x∈stS (Ai l hour known),Fit d x/\x.kind≠4:=λx E=>by
 have E:=ZS.1 E;unfold Ai at E;rw[anR]at E;refine⟨h.fit x E.1,λe=>?_⟩;grind
def Q9 (l:List bl):(stS l).length=l.length:=(uL (w8 l)).symm
def Z4 {α:Type}{a b:List α}(O:a.Nodup)(E:b.Nodup)(h:∀ x,x∈a↔x∈b):a.Perm b:=(List.perm_ext_iff_of_nodup O E).2 h
theorem S0(h:aqO d l)(X:ap5 d m){hour known:Int}(hb:bk m=je d l hour known):
  (m.filterMap (sX d)).Perm (qY d (je d l hour known))/\∀ k∈m,0<k.2->0<=k.1.right/\k.1.right< (d.al.length:Int):=by
 have U:∀ (t:x4) (v:Int),(t,v)∈m->bk m t.right t.ee=v:=λt v Y=>by
  have:=(FM X.nodup).2 Y;show(iC m { right:=t.right,ee:=t.ee}).getD _=v;grind
 have O:∀ k∈m,0<k.2->0<=k.1.right/\k.1.right< (d.al.length:Int):=λk W V=>by
  rcases aom (0<=k.1.right/\k.1.right< (d.al.length:Int))with hr|hr;exact hr;have e:=U k.1 k.2 W;rw[hb]at e;unfold je at e;rw[Q8 hr _ _ (Aq h hour known)]at e;unfold B0 at e;omega
 refine⟨Z4 ?_ (SZ (vD _ _)) λx=>?_,O⟩;rw[List.Nodup,anE];have:m.Pairwise λa b=>a.1≠b.1:=by
  have:=X.nodup;grind [kK]
 refine this.imp λ{a b} hab x E y hy=>?_;unfold sX at E hy;split at E
 split at hy
 cases E;cases hy;intro e;simp only[aoS.mk.injEq]at e;refine hab ?_;obtain⟨⟨a1,a2⟩,a3⟩:=a;simp_all;cases hy;cases E;rw[aoG,xJ];constructor
 rintro⟨k,W,E⟩;unfold sX at E;split at E
 rename_i V;cases E;have e:=U k.1 k.2 W;obtain⟨a,b⟩:=O k W V;obtain⟨L,_,hg⟩:=X.good k.1.right;obtain⟨c,f⟩:=hg.sup k.1.ee (by rw[e];omega);simp_all;cases E;rintro⟨a,b,c,f,V,h1,h2⟩;rw[<-hb]at h1;have h3:iC m (RT x.right x.ee)=some x.dd:=by
  have e:bk m x.right x.ee=(iC m (RT x.right x.ee)).getD 0:=rfl;cases hg:iC m (RT x.right x.ee) <;>grind
 refine⟨(RT x.right x.ee,x.dd),(FM X.nodup).1 h3,?_⟩;unfold sX;rw[if_pos V];simp only[alx];rw[<-h2]
open Go.Shelf Go.Sort in
variable {d:ah}{B:Int->Int->Int}
theorem IC{s:List aoS}(h:s.Perm (qY d B)):apart cU s/\srt cU s=qY d B:=by
 have e1:∀ x y,ltOf cU x y=true↔hlt x y:=λx y=>by unfold ltOf;rw[decide_eq_true_eq,E_]
 have E:∀ x y,ltOf cU x y=false↔¬hlt x y:=λx y=>by grind
 have U:∀ x∈qY d B,∀ y∈qY d B,¬hlt x y->¬hlt y x->x=y:=λx V y hy h1 h2=>by
  obtain⟨_,_,_,_,_,x1,Y⟩:=xJ.1 V;obtain⟨_,_,_,_,_,y1,y2⟩:=xJ.1 hy;simp only[hlt,oO,and_false,or_false]at h1 h2;have q1:x.right=y.right:=by omega
  have q2:x.ee=y.ee:=by omega
  obtain⟨a,b,c,e⟩:=x;obtain⟨a',b',c',e'⟩:=y;grind
 refine⟨λx V y hy h1 h2=>U x (h.subset V) y (h.subset hy) ((E x y).1 h1) ((E y x).1 h2),?_⟩;unfold srt;have X:(s.mergeSort λx y=>!(ltOf cU y x)).Perm (qY d B):=(amr _ _).trans h;refine amx (le:=λx y=>(!ltOf cU y x)=true) ?_ ?_ ?_ X;grind
 refine amm ?_ ?_ s;intro a b c h1 h2;simp only[alL]at h1 h2 |-;exact Cq.3 c b a h2 h1;intro a b;simp only[alY,alL];rcases aom (hlt b a)with hh|hh;refine .inr ((E _ _).2 λO=>?_);simp only[hlt,oO,and_false,or_false]at hh O;omega;grind
 refine(vD d B).imp λ{a b} W=>?_;simp only[alL];refine(E _ _).2 λO=>?_;simp only[hlt,oO,and_false,or_false]at W O;omega
theorem ID (d:ah)(l:List bl)(hour known:Int):qt d l hour known/\
  aw d l hour known=if aP d l≠0 then([],aP d l)else if 0<=hour/\hour<d.hours/\0<=known/\known<=1048576 then(qY d (je d l hour known),0)else([],1):=by
 by_cases hc:aP d l=0
 have E:=sQ hc;have hE:=((xF d l).1 hc).1;have hh:=E.right.hours;have hh1:=E.right.aqt;have hw:((!(aO hour 0 (i64.wrap (d.hours - 1)))) ||(!(aO known 0 1048576)))= !decide (0<=hour/\hour<d.hours/\0<=known/\known<=1048576):=by
  rw[az (by omega) (by omega),<-Bool.not_and];congr 1
  rw[amj,alt,vo,vo,decide_eq_true_eq];omega
 obtain⟨c1,c2⟩:=My l hour known E.len;have O:(stS (Ai l hour known)).length<=512:=by rw[Q9];exact alQ (amu _ _) E.len
 obtain⟨f1,m,X,f3,f4⟩:=SY hE (Aq E hour known) O;obtain⟨p1,p2⟩:=S0 E f3 (hour:=hour) (known:=known) f4;have key:∀ L:BM,L.Perm m->(L.filterMap (sX d)).Perm (qY d (je d l hour known)):=λL V=>(V.filterMap _).trans p1;have val:aw d l hour known=if 0<=hour/\hour<d.hours/\0<=known/\known<=1048576 then(qY d (je d l hour known),0)else([],1):=by
  unfold aw;rw[hc,hw,c2,X];simp only[bne_self_eq_false,cond_false];by_cases W:0<=hour/\hour<d.hours/\0<=known/\known<=1048576
  rw[decide_eq_true W,if_pos W];simp only[alN,cond_false];rw[Kv,alC];simp only;rw[(IC (key m (List.Perm.refl _))).2];grind
 refine⟨⟨uJ d l,(λh=>by grind),λ_=>⟨λh=>?_,λh=>?_⟩⟩,by grind⟩;grind
 rw[hw]at h;have W:0<=hour/\hour<d.hours/\0<=known/\known<=1048576:=by simpa using h
 rw[c2,X];refine⟨c1,f1,λL V=>?_⟩;have U:=key L V;refine⟨O3 d l hour known L [] (λk U=>p2 k (V.subset U)) ?_,λs Y=>?_⟩;have h1:=U.length_eq;have h2:=BE E.right (je d l hour known);grind [d9]
 rw[Kv,alC]at Y;cases Y;obtain⟨s1,s2⟩:=IC U;grind
 have hne:(aP d l !=0)=true:=by grind
 have val:aw d l hour known=([],aP d l):=by grind [aw]
 refine⟨⟨uJ d l,(λ_=>val.symm),λh=>?_⟩,by grind⟩;grind
variable {l:List bl}
theorem FT{known n:Int}:pL l known n=true↔∃ u∈l,u.kind=4/\u.known<=known/\u.of_=n:=by
 unfold pL;rw[amC];simp only[alt,beq_iff_eq,decide_eq_true_eq,and_assoc]
def lv (l:List bl)(hour known:Int)(x:bl):Bool:= !((((x.kind==4) ||(decide (x.known > known))) ||(decide (x.at_ > hour))) ||pL l known x.no)
def Z5 (r:Int):List aoS->Int
 | [] =>0|x::l=>(if x.right=r then x.dd else 0)+Z5 r l
theorem Kw {d:ah}{r:Int}{L:Int}:∀ (ds:List bl) (B:Int->Int->Int),(∀ x∈ds,Fit d x/\x.kind≠4)->Good d.u0.length L (B r)->Good d.u0.length L (oZ ds B r)/\((∀ x∈ds,x.right=r->x.kind≠3)->tot d.u0.length (oZ ds B r)=tot d.u0.length (B r))
 | [],B,_,E=>⟨E,λ_=>rfl⟩
 |x::ds,B,h,E=>by
  have U:=h x alR;have h1:Good d.u0.length L (nr x B r)/\((x.right=r->x.kind≠3)->tot d.u0.length (nr x B r)=tot d.u0.length (B r)):=by
   unfold nr;by_cases e:r=x.right
   rw[if_pos e];obtain⟨O,V⟩:=MU U.1 U.2 E;grind
   grind
  obtain⟨O,V⟩:=Kw ds (nr x B) (λy hy=>h y (alP _ hy)) h1.1;exact⟨O,λW=>(V λy hy=>W y (alP _ hy)).trans (h1.2 (W x alR))⟩
theorem MW {d:ah}{r:Int}(E:¬ (0<=r/\r< (d.al.length:Int)/\(d.al.getD r.toNat default).kind=1)):∀ (ds:List bl) (B:Int->Int->Int),(∀ x∈ds,Fit d x/\x.kind≠4)->oZ ds B r=B r
 | [],B,_=>rfl
 |x::ds,B,h=>by
  have h1:=h x alR;have h2:=h1.1.held h1.2;show oZ ds (nr x B) r=_;rw[MW E ds _ λy hy=>h y (alP _ hy)];unfold nr;grind
theorem t0:∀ n,tot n (λ_=>0)=0:=λn=>by
 induction n with
 |zero=>rfl|succ n E=>grind [tot]
theorem Q_(h:ap d=0){k:Nat}(V:k<d.al.length)(O:(d.al.getD k default).kind=1):Good d.u0.length (d.al.getD k default).dd (B0 d k)/\tot d.u0.length (B0 d k)=(d.al.getD k default).dd:=by
 have E:=Dw h V O;have W:=E.l0;have e:B0 d k=jD (λ_=>0) (d.al.getD k default).ee (d.al.getD k default).dd:=by
  funext f
  unfold B0 jD;grind
 rw[e];refine⟨Good.put (L:=0) ⟨λ_=>al5 _,λf U=>absurd rfl U,by grind [t0]⟩ E.f0 E.f1 (by omega) (by rw[t0];omega),?_⟩;rw[vA _ _ _ _ E.f0 E.f1,t0];omega
theorem Z6{r:Int}(E:¬ (0<=r/\r< (d.al.length:Int)/\(d.al.getD r.toNat default).kind=1)):B0 d r=λ_=>0:=by
 funext f
 unfold B0;omega
structure arh (d:ah)(B:Int->Int->Int):Prop where
 nn:∀ r f,0<=B r f
 take:∀ k,k<d.al.length->(d.al.getD k default).kind=1->Good d.u0.length (d.al.getD k default).dd (B k)
 other:∀ r:Int,¬ (0<=r/\r< (d.al.length:Int)/\(d.al.getD r.toNat default).kind=1)->B r=λ_=>0
theorem MX(h:ap d=0){ds:List bl}(hd:∀ x∈ds,Fit d x/\x.kind≠4):arh d (oZ ds (B0 d)):=by
 have U:∀ k,k<d.al.length->(d.al.getD k default).kind=1->Good d.u0.length (d.al.getD k default).dd (oZ ds (B0 d) k):=λk W O=>(Kw ds _ hd (Q_ h W O).1).1;have V:∀ r:Int,¬ (0<=r/\r< (d.al.length:Int)/\(d.al.getD r.toNat default).kind=1)->oZ ds (B0 d) r=λ_=>0:=λr E=>(MW E ds _ hd).trans (Z6 E);refine⟨λr f=>?_,U,V⟩;by_cases E:0<=r/\r< (d.al.length:Int)/\(d.al.getD r.toNat default).kind=1
 have:=(U r.toNat (by omega) E.2.2).nn f;grind
 grind
theorem arh.le(h:arh d B)(U:ap d=0)(r f:Int):B r f<=1073741824:=by
 by_cases E:0<=r/\r< (d.al.length:Int)/\(d.al.getD r.toNat default).kind=1
 have V:=h.take r.toNat (by omega) E.2.2;have O:=Dw U (k:=r.toNat) (by omega) E.2.2;have:=V.le (by have:=O.l0;omega) f;rw[am5 E.1]at this;have:=O.l1;omega;rw[h.other r E];simp
variable {α:Type}
theorem MY{step:Nat->List α->Empty⊕List α}(l:List α)(d:α)(P:α->Bool)(s0:List α)(h:∀ k s,k<l.length->step k s=bif P (l.getD k d)then .inr (s++[l.getD k d])else .inr s):aj step l.length 0 s0=.inr (s0++l.filter P):=by
 obtain⟨r,h1,h2⟩:=li (step:=step) (λk s=>s=s0++(l.take k).filter P) l.length 0 s0 (by simp) (λj s _ E O=>by
  rw[alF]at E;grind [b_])
 grind
theorem MZ{step:Nat->List α->Empty⊕List α}{p:Nat->List α->Prop}(l:List α)(d:α)(P:α->Bool)(s0:List α)(h:∀ k s,k<l.length->step k s=bif P (l.getD k d)then .inr (s++[l.getD k d])else .inr s)(O:∀ k s,k<l.length->s.length<=s0.length+k->p k s):okI step p l.length 0 s0:=by
 refine kh (λk s=>s.length<=s0.length+k) _ _ _ (alw _) λj s _ U E=>⟨O j s (by omega) E,λs' e=>?_⟩;grind
theorem adF (l:List bl)(x:bl)(known:Int):pZ l x known=pL l known x.no:=by
 unfold pZ;cases O:aj (kU l x known) l.length 0 ()with
 |inr s=>
  have h:=g5.1 O
  symm
  rw[<-am8,FT];rintro⟨u,U,a,b,c⟩;obtain⟨j,E,rfl⟩:=al9.1 U;grind [kU]
 |inl y=>
  cases hc:pL l known x.no with
  |true=>rfl
  |false=>
   have:aj (kU l x known) l.length 0 ()=.inr ():=g5.2 λj E=>by
    unfold kU;have h2:¬ ((l.getD j default).kind=4/\(l.getD j default).of_=x.no/\(l.getD j default).known<=known):=λ⟨a,b,c⟩ =>by
     have:pL l known x.no=true:=FT.2 ⟨l.getD j default,by grind,a,c,b⟩;grind
    grind
   grind
def qv (l:List bl)(known:Int)(x:bl):Bool:=(x.kind !=4)&&(decide (x.known<=known))&& !pL l known x.no
theorem aid (l:List bl)(hour known:Int)(x:bl):lv l hour known x=(qv l known x&&decide (x.at_<=hour)):=by
 grind [lv,qv]
theorem O4(V:aqO d l)(hour known:Int):jW l hour known/\dw l hour known=stS (Ai l hour known):=by
 have hl:=V.len;have stp:∀ (s:List bl×Int) k (t:List bl),k<l.length->io l known s k t=bif((l.getD k default).at_==s.2)&&qv l known (l.getD k default)then .inr (t++[l.getD k default])else .inr t:=λs k t hk=>by
  grind [io,qv,adF]
 obtain⟨X,r,k2,k3,W⟩:okI (gf l hour known) (iB l hour known) (Int.toNat hour+2) 0 ([],0)/\∃ r,aj (gf l hour known) (Int.toNat hour+2) 0 ([],0)=.inl r/\aoP (Ai l hour known) r/\Srt r:=by
  refine y8 (λs:List bl×Int=>((Int.toNat hour+1:Nat):Int).toNat - s.2.toNat) (λs:List bl×Int=>∃ k:Nat,s.2=(k:Int)/\k<=4097/\(k=0\/(k:Int)<=hour+1)/\Srt s.1/\(∀ x∈s.1,x.at_< (k:Int))/\aoP (l.filter λx=>qv l known x&&decide (x.at_< (k:Int))) s.1/\s.1.length<=512) _ ?_ _ _ _ ⟨0,rfl,by omega,.inl rfl,List.Pairwise.nil,by simp,?_,by simp⟩ (by omega);rintro j ⟨o,a⟩ ⟨k,rfl,h1,Y,h2,h3,h4,h5⟩;unfold iB gf;by_cases hc:(k:Int)<=4096/\(k:Int)<=hour
  have e:((decide ((k:Int)<=4096))&&(decide ((k:Int)<=hour)))=true:=by grind
  simp only[e];have er:=MY (step:=io l known (o,(k:Int))) l default (λx=>(x.at_==(k:Int))&&qv l known x) o (stp _);rw[er];simp only[cond_true];have E:aoP (l.filter λx=>qv l known x&&decide (x.at_< ((k+1:Nat):Int))) (o++l.filter λx=>(x.at_==(k:Int))&&qv l known x):=λt=>by
   rw[an1,<-h4 t,anC,anC,anC];by_cases ht:t< (k:Int)
   have e2:l.filter (λa=>(a.at_==t)&&((a.at_==(k:Int))&&qv l known a))=[]:=by
    grind [List.filter_eq_nil_iff]
   grind
   have e2:l.filter (λa=>(a.at_==t)&&(qv l known a&&decide (a.at_< (k:Int))))=[]:=by
    simp_all
   grind
  have O:(o++l.filter λx=>(x.at_==(k:Int))&&qv l known x).length<=512:=by
   rw[<-uL E];grind
  have hf2:=amu (λx=>(x.at_==(k:Int))&&qv l known x) l;refine⟨λ_=>MZ l default (λx=>(x.at_==(k:Int))&&qv l known x) o (stp _) λi s hi hs=>λ_ _=>by grind [d9],.inr ⟨_,rfl,?_,k+1,?_,by omega,.inr (by omega),?_,?_,E,O⟩⟩;grind [az]
  grind [az]
  refine Bv h2 (List.pairwise_of_forall_mem_list λx U y hy=>?_) λx U y hy=>?_ <;>grind;grind
  have e:((decide ((k:Int)<=4096))&&(decide ((k:Int)<=hour)))=false:=by grind
  simp only[e,cond_false];refine⟨(λh=>by cases h),.inl ⟨_,rfl,?_,h2⟩⟩;have:Ai l hour known=l.filter λx=>qv l known x&&decide (x.at_< (k:Int)):=by
   show l.filter (lv l hour known)=_;refine List.filter_congr λx U=>?_;rw[aid];have:=(V.fit x U).at0;have:=(V.fit x U).at1;grind
  grind
  intro t;rw[anC];show l.filter _=[];rw[List.filter_eq_nil_iff];intro a ha;have:=(V.fit a ha).at0;grind
 unfold jW dw;rw[k2];exact⟨⟨X,λz h=>by cases h⟩,y9 k3 W⟩
def apN (F:Nat)(s:List Int)(g:Int->Int):Prop:=s.length=F/\∀ f:Nat,f<F->s.getD f 0=g (f:Int)
variable {g:Int->Int}{f:Int}
theorem apN.set{F:Nat}{s:List Int}(h:apN F s g){v:Int}(E:0<=f)(h1:f< (F:Int)):apN F (s.set f.toNat v) (jD g f v):=by
 refine⟨by rw[anx];exact h.1,λi hi=>?_⟩;have O:=h.1;unfold jD;by_cases e:i=f.toNat
 grind
 rw[if_neg (by omega),amZ,aox (λh=>e h.symm),<-amZ,h.2 i hi]
theorem apN.get{F:Nat}{s:List Int}(h:apN F s g)(E:0<=f)(h1:f< (F:Int)):s.getD f.toNat 0=g f:=by
 rw[h.2 f.toNat (by omega),am5 E]
def zb (r:Int):List bl->(Int->Int->Int)->List Int
 | [],_=>[]|x::ds,B=>(if x.right=r/\B x.right x.since=0 then [x.no]else [])++zb r ds (nr x B)
variable {j:Nat}
theorem IE(ds:List bl)(B:Int->Int->Int)(E:j<ds.length):oZ (ds.take (j+1)) B=nr (ds.getD j default) (oZ (ds.take j) B):=by
 grind [b_,oZ]
variable {r:Nat}
theorem Wr{ds:List bl}{x:bl}(ex:ds.getD j default=x)(hx:Fit d x)(hk:x.kind≠4){L:Int}(hL:L<=1073741824){e s:List Int}(X:Good d.u0.length L g)(hs:apN d.u0.length s g)(he:(e.length+1)*8<=d9):
  ip ds r j (e,s)/\∃ s',iw ds r j (e,s)=.inr (e++(if x.right=(r:Int)/\g x.since=0 then [x.no]else []),s')/\apN d.u0.length s' (if x.right=(r:Int)then za x g else g):=by
 obtain⟨_,_,_,s0,s1⟩:=hx.held hk;have hsl:=hs.1;have gs:=hs.get s0 s1;unfold ip iw ll et lm nI;rw[ex];by_cases hr:x.right=(r:Int)
 have b0:(x.right !=(r:Int))=false:=by grind
 simp only[hr,bne_self_eq_false,cond_false,true_and,if_true];simp only[gs];have hlen:(e++[x.no]).length=e.length+1:=by simp
 by_cases hn:g x.since=0
 simp_all [za];have b1:(g x.since==0)=false:=by grind
 rw[b1,if_neg hn];simp only[cond_false,alT];have hnn:=X.nn x.since;have hle:=X.aqJ (by omega) x.since;have r1:=hs.set (v:=0) s0 s1;have g1:Good d.u0.length (L - g x.since) (jD g x.since 0):=X.put s0 s1 (al5 _) (by have:=X.tot;omega);have hgl:g x.since<=L:=anW (FN X.nn _ _ s0 s1) X.tot;have hl1:(s.set x.since.toNat 0).length=d.u0.length:=r1.1;by_cases k1:x.kind=1
 have c1:(x.kind==1)=true:=by rw[k1];rfl
 have c2:(x.kind==2)=false:=by rw[k1];rfl
 obtain⟨a,b,c⟩:=hx.pass k1;simp only[c1,c2,cond_true,cond_false,hl1];have gt:=r1.get a b;have hto:=g1.aqJ (by omega) x.to;rw[gt,az (n:=jD g x.since 0 x.to+g x.since) (by omega) (by omega)];refine⟨λ_ _=>⟨by omega,(λh=>by cases h),λ_=>⟨by omega,λ_=>⟨by omega,by omega⟩,(λh=>by cases h)⟩⟩,_,rfl,?_⟩;unfold za;rw[if_neg hn,if_pos k1];exact r1.set a b;have c1:(x.kind==1)=false:=by grind
 by_cases k2:x.kind=2
 have c2:(x.kind==2)=true:=by rw[k2];rfl
 simp only[c1,c2,cond_true,cond_false];have E:=hx.split k2;have h0:=hnn;obtain⟨l1,l2⟩:=Kt E (g x.since);generalize hn':g x.since=n at *;generalize hG:jD g x.since 0=g0 at *;generalize hS:s.set x.since.toNat 0=q0 at *;have W:∀ (i:Nat) (t:List Int×Int),i<x.parts.length->apN d.u0.length t.1 (rt (x.parts.take i) n g0)->t.2=n - d_ (x.parts.take i) n->
   ((na (x.parts.getD i default).share n)/\((0<=(x.parts.getD i default).ee/\(x.parts.getD i default).ee< (t.1.length:Int))/\(0<=(x.parts.getD i default).ee/\(x.parts.getD i default).ee< (t.1.length:Int))))/\
   apN d.u0.length (t.1.set (x.parts.getD i default).ee.toNat (i64.wrap ((t.1.getD (x.parts.getD i default).ee.toNat 0)+(gA (x.parts.getD i default).share n).1))) (rt (x.parts.take (i+1)) n g0)/\i64.wrap (t.2 - (gA (x.parts.getD i default).share n).1)=n - d_ (x.parts.take (i+1)) n:=λi t hi Y q2=>by
  have hm:x.parts.getD i default∈x.parts:=by grind
  obtain⟨f0,f1,f2,f3⟩:=E.fit _ hm;obtain⟨tp,tv⟩:=O1 f2 h0 (by omega:n<=1073741824);have elo:(gA (x.parts.getD i default).share n).1=loP (x.parts.getD i default) n:=tv;have hlo:=MR f2 f3 h0;obtain⟨w1,w2⟩:=sf h0 (x.parts.take i) _ _ (E.fit.take _) g1;have key:∀ l:List Part,aqz d.u0.length l->0<=d_ l n:=λl=>by
   induction l with
   |nil=>grind [d_]
   |cons p r ih=>
    intro hp;obtain⟨_,_,c,e⟩:=hp p alR;have:=MR c e h0;have:=ih λq hq=>hp q (alP _ hq);grind [d_]
  have Z5:∀ k,0<=d_ (x.parts.take k) n/\d_ (x.parts.take k) n<=d_ x.parts n:=λk=>by
   have h1:=key _ (E.fit.take k);have h2:=key (x.parts.drop k) λp hp=>E.fit p (aow hp);grind [List.take_append_drop,d_]
  have u1:=Z5 i;have u2:=Z5 (i+1);rw[b_ _ default hi,vB]at u2;have hv:=w1.aqJ (by omega) (x.parts.getD i default).ee;have gv:=Y.get f0 f1;have hl:=Y.1;rw[elo,gv,az (n:=rt (x.parts.take i) n g0 (x.parts.getD i default).ee+loP (x.parts.getD i default) n) (by omega) (by omega),q2,az (by omega) (by omega),b_ _ default hi,vB,IA];exact⟨⟨tp,by omega,by omega⟩,Y.set f0 f1,by omega⟩
 have eL:=li (step:=λ(O:Nat) (V:List Int×Int) =>(.inr ((V.1.set (Int.toNat ((x.parts.getD O (default:Part)).ee)) (i64.wrap ((V.1.getD (Int.toNat ((x.parts.getD O (default:Part)).ee)) (0:Int))+(gA ((x.parts.getD O (default:Part)).share) n).1))),(i64.wrap (V.2 - (gA ((x.parts.getD O (default:Part)).share) n).1))):Empty⊕(List Int×Int))) (λi t=>apN d.u0.length t.1 (rt (x.parts.take i) n g0)/\t.2=n - d_ (x.parts.take i) n) x.parts.length 0 (q0,n) ⟨by grind [rt],by simp[d_]⟩ (λi t _ hi ⟨Y,q2⟩ =>by
  grind)
 obtain⟨⟨t1,lf⟩,e1,a1,a2⟩:=eL;rw[alF,am7]at a1 a2;simp only at a1 a2;obtain⟨Y,q2⟩:=sf h0 x.parts _ _ E.fit g1;have U:∀ (i:Nat) (t:List Int),i<lf.toNat->apN d.u0.length t (oY (x.parts.take i) (rt x.parts n g0))->
   (((0<=(i:Int)/\(i:Int) < ((x.parts).length:Int))/\((0<=(x.parts.getD i (default:Part)).ee/\(x.parts.getD i (default:Part)).ee< (t.length:Int))/\(0<=(x.parts.getD i (default:Part)).ee/\(x.parts.getD i (default:Part)).ee< (t.length:Int)))))/\
   apN d.u0.length (t.set (x.parts.getD i default).ee.toNat (i64.wrap ((t.getD (x.parts.getD i default).ee.toNat 0)+1))) (oY (x.parts.take (i+1)) (rt x.parts n g0)):=λi t hi p1=>by
  have hi':i<x.parts.length:=by omega
  have hm:x.parts.getD i default∈x.parts:=by grind
  obtain⟨f0,f1,f2,f3⟩:=E.fit _ hm;obtain⟨w1,w2⟩:=vC (x.parts.take i) _ _ (E.fit.take _) Y;have hlen:(x.parts.take i).length=i:=by grind
  have hv:=w1.aqJ (by omega) (x.parts.getD i default).ee;have gv:=p1.get f0 f1;have hl:=p1.1;rw[gv,az (by omega) (by omega),b_ _ default hi',FR];exact⟨⟨⟨by omega,by omega⟩,⟨by omega,by omega⟩⟩,p1.set f0 f1⟩
 obtain⟨t2,e2,b1⟩:=li (step:=λ(k_2:Nat) (s_2:List Int) =>(.inr (s_2.set (Int.toNat ((x.parts.getD k_2 (default:Part)).ee)) (i64.wrap ((s_2.getD (Int.toNat ((x.parts.getD k_2 (default:Part)).ee)) (0:Int))+1))):Empty⊕(List Int))) (λi t=>apN d.u0.length t (oY (x.parts.take i) (rt x.parts n g0))) lf.toNat 0 t1 (by grind [oY]) (λi t _ hi q=>by
  grind)
 rw[alF]at b1;rw[e1];simp only[e2];refine⟨λ_ _=>⟨by omega,(λh=>by cases h),λ_=>⟨by omega,(λh=>by cases h),λ_=>⟨?_,λz hz=>?_⟩⟩⟩,t2,rfl,?_⟩;refine kh (λi t=>apN d.u0.length t.1 (rt (x.parts.take i) n g0)/\t.2=n - d_ (x.parts.take i) n) _ _ _ ⟨by grind [rt],by simp[d_]⟩ λi t _ hi q=>⟨λ_=>(W i t (by omega) q.1 q.2).1,λt' ht=>by grind⟩;cases hz;have hpl:=E.len;refine⟨by omega,kh (λi t=>apN d.u0.length t (oY (x.parts.take i) (rt x.parts n g0))) _ _ _ (by grind [oY]) λi t _ hi q=>⟨(U i t (by omega) q).1,λt' ht=>by grind⟩⟩;simp_all [za,BD];have c2:(x.kind==2)=false:=by grind
 simp only[c1,c2,cond_false];simp_all [za];grind
theorem aie(h:ap d=0)(hR:apd d){ds:List bl}(hd:∀ x∈ds,Fit d x/\x.kind≠4)(hl:ds.length<=512)(hr:r<d.al.length)(hk:(d.al.getD r default).kind=1):
  oS d ds (r:Int)/\∃ s,eJ d ds (r:Int)=(s,zb r ds (B0 d))/\apN d.u0.length s (oZ ds (B0 d) r):=by
 have O:=Dw h hr hk;have hfl:=hR.u0;have hrl:=hR.al;obtain⟨bg,bt⟩:=Q_ h hr hk;have hg:∀ j,Good d.u0.length (d.al.getD r default).dd (oZ (ds.take j) (B0 d) r):=λj=>(Kw (ds.take j) _ (λx hx=>hd x (am0 hx)) bg).1;have X:apN d.u0.length ((List.replicate (Int.toNat (d.u0.length:Int)) (0:Int)).set (Int.toNat ((d.al.getD (Int.toNat (r:Int)) (default:ape)).ee)) (d.al.getD (Int.toNat (r:Int)) (default:ape)).dd) (B0 d r):=by
  rw[alv,alv];have h1:apN d.u0.length (List.replicate d.u0.length 0) (λ_=>0):=⟨by simp,λf hf=>by grind⟩;have h2:=h1.set (v:=(d.al.getD r default).dd) O.f0 O.f1;have e:B0 d r=jD (λ_=>0) (d.al.getD r default).ee (d.al.getD r default).dd:=by
   funext f
   unfold B0 jD;grind
  grind
 have E:∀ j,j<ds.length->ds.drop j=ds.getD j default::ds.drop (j+1):=λj U=>by simp_all
 have elen:∀ (l:List bl) (B:Int->Int->Int),(zb r l B).length<=l.length:=λl=>by
  induction l with
  |nil=>grind [zb]
  |cons x l ih=>
   grind [zb]
 have step:∀ j (s:List Int×List Int),j<ds.length->s.1++zb r (ds.drop j) (oZ (ds.take j) (B0 d))=zb r ds (B0 d)->apN d.u0.length s.2 (oZ (ds.take j) (B0 d) r)->
   ip ds r j s/\∃ s',iw ds r j s=.inr s'/\s'.1++zb r (ds.drop (j+1)) (oZ (ds.take (j+1)) (B0 d))=zb r ds (B0 d)/\apN d.u0.length s'.2 (oZ (ds.take (j+1)) (B0 d) r):=λj s U Y j2=>by
  obtain⟨e,s⟩:=s;have hm:ds.getD j default∈ds:=by grind
  have hlen:e.length<=512:=by
   grind
  obtain⟨q1,s',q2,q3⟩:=Wr (ds:=ds) (j:=j) (r:=r) rfl (hd _ hm).1 (hd _ hm).2 O.l1 (e:=e) (hg j) j2 (by unfold d9;omega);refine⟨q1,_,q2,?_,?_⟩;rw[<-Y,E j U,IE ds (B0 d) U];simp only[zb];grind
  rw[IE ds (B0 d) U];show apN _ s' (if(r:Int)=(ds.getD j default).right then za _ (oZ (ds.take j) (B0 d) r)else _);grind
 obtain⟨⟨e,s⟩,r1,W,V⟩:=li (step:=iw ds r) (λj s=>s.1++zb r (ds.drop j) (oZ (ds.take j) (B0 d))=zb r ds (B0 d)/\apN d.u0.length s.2 (oZ (ds.take j) (B0 d) r)) ds.length 0 ([],_) ⟨by simp[oZ],X⟩ (λj s _ U ⟨Y,j2⟩ =>by
  grind)
 rw[alF,am7]at W V;rw[aoe]at W;simp only[zb,alT]at W V;refine⟨λ_=>⟨⟨rfl,by omega,by unfold d9;omega⟩,λ_=>⟨by omega,by omega,?_,?_⟩⟩,s,?_,V⟩;rw[alv];simp only[List.length_replicate,alv];exact⟨O.f0,O.f1⟩;exact kh (λj s=>s.1++zb r (ds.drop j) (oZ (ds.take j) (B0 d))=zb r ds (B0 d)/\apN d.u0.length s.2 (oZ (ds.take j) (B0 d) r)) _ _ _ ⟨by simp[oZ],X⟩ λj s _ U hs=>⟨(step j s (by omega) hs.1 hs.2).1,λs' h=>by
  grind⟩
 grind [eJ]
theorem HB(h:B r=λ_=>0):jy d B r=[]:=by
 rw[anL];intro x E;obtain⟨f,_,O,_⟩:=o4.1 E;grind
theorem asv (d:ah)(l:List bl)(hour known:Int):sS d l hour known/\jX d l hour known=aw d l hour known:=by
 rw[(ID d l hour known).2];unfold sS jX;rw[Q7];cases hc:(aP d l !=0)with
 |true=>
  refine⟨⟨xI d l,(λh=>by cases h)⟩,?_⟩;grind
 |false=>
  have hc:aP d l=0:=by grind
  have E:=sQ hc;have hE:=((xF d l).1 hc).1;rw[if_neg (by simp[hc])];simp only[cond_false];by_cases hg:0<=hour/\hour<d.hours/\0<=known/\known<=1048576
  have e:((((decide (hour<0)) ||(decide (hour>=d.hours))) ||(decide (known<0))) ||(decide (known > 1048576)))=false:=by
   grind
  rw[e,if_pos hg];simp only[cond_false];obtain⟨c1,c2⟩:=O4 E hour known;have V:=Aq E hour known;have W:(stS (Ai l hour known)).length<=512:=by rw[Q9];exact alQ (amu _ _) E.len
  have hH:=MX hE V;have hB:je d l hour known=oZ (stS (Ai l hour known)) (B0 d):=rfl;have hcl:=BE E.right (je d l hour known);have hfl:=E.right.u0;have hrl:=E.right.al;have row:∀ (j:Nat) (s:List aoS),j<d.al.length->s=(List.range j).flatMap (jy d (je d l hour known))->ni d l hour known j s/\og d l hour known j s=.inr ((List.range (j+1)).flatMap (jy d (je d l hour known))):=λj s hj O=>by
   rw[aoo,anT,alO,amD,alT,<-O];have hslen:s.length<=j*600:=by
    rw[O];have:=uN (jy d (je d l hour known)) 600 (List.range j) λr _=>alQ (amO _ _) (by grind);grind
   unfold ni og;by_cases Y:(d.al.getD j default).kind=1
   have b:((d.al.getD j default).kind !=1)=false:=by rw[Y];rfl
   rw[b];simp only[cond_false];obtain⟨p1,q,p2,p3⟩:=aie hE E.right V W hj Y;have U:∀ (i:Nat) (t:List aoS),i<d.u0.length->t=s++(List.range i).filterMap (xc d (je d l hour known) j)->nh d l hour known j i t/\oe d l hour known j i t=.inr (s++(List.range (i+1)).filterMap (xc d (je d l hour known) j)):=λi t hi X=>by
    unfold nh oe;rw[c2,p2];have hq:q.getD i 0=je d l hour known j i:=p3.2 i hi;simp only[hq];have htl:t.length<=s.length+i:=by grind
    refine⟨λ_ _=>by grind [d9],?_⟩;rw[aoo,anI,<-amt,<-X];by_cases h0:0<je d l hour known j i
    rw[decide_eq_true (show je d l hour known j i > 0 from h0)];have e:xc d (je d l hour known) j i=some { right:=(j:Int),ee:=(i:Int),dd:=je d l hour known j i,aoX:=(d.al.getD j default).aoX}:=by unfold xc;grind
    grind
    rw[decide_eq_false (show ¬je d l hour known j i > 0 from h0)];have e:xc d (je d l hour known) j i=none:=by unfold xc;grind
    grind
   have hql:((eJ d (dw l hour known) (j:Int)).1).length=d.u0.length:=by rw[c2,p2];exact p3.1
   obtain⟨t,u1,u2⟩:=li (step:=oe d l hour known j) (λi t=>t=s++(List.range i).filterMap (xc d (je d l hour known) j)) d.u0.length 0 s (by simp) (λi t _ hi X=>⟨_,(U i t (by omega) X).2,rfl⟩);rw[hql,u1];refine⟨λ_ _=>⟨by grind,kh (λi t=>t=s++(List.range i).filterMap (xc d (je d l hour known) j)) _ _ _ (by simp) λi t _ hi X=>⟨(U i t (by omega) X).1,λt' h=>?_⟩⟩,?_⟩;grind
   simp only[u2,alF];rfl;have b:((d.al.getD j default).kind !=1)=true:=by grind
   rw[b];have e0:je d l hour known j=λ_=>0:=hH.other j λhr=>Y (by grind);grind [HB]
  obtain⟨s,v1,v2⟩:=li (step:=og d l hour known) (λj s=>s=(List.range j).flatMap (jy d (je d l hour known))) d.al.length 0 [] (by simp) (λj s _ hj O=>⟨_,(row j s (by omega) O).2,rfl⟩);refine⟨⟨xI d l,λ_ _=>⟨c1,kh (λj s=>s=(List.range j).flatMap (jy d (je d l hour known))) _ _ _ (by simp) λj s _ hj O=>⟨(row j s (by omega) O).1,λs' h=>?_⟩⟩⟩,?_⟩;grind
  rw[v1,v2,alF];rfl;have e:((((decide (hour<0)) ||(decide (hour>=d.hours))) ||(decide (known<0))) ||(decide (known > 1048576)))=true:=by
   grind
  rw[e,if_neg hg];exact⟨⟨xI d l,(λ_ h=>by cases h)⟩,rfl⟩
def Ws (x:ape)(h:Int):Bool:=decide (x.since<=h)&&decide (h<=x.to)&&decide (Int.tmod (h - x.since) x.every<x.length)
def opn (d:ah)(h:Int)(x:aoS):Option Claim:=if Ws (d.al.getD (Int.toNat x.right) default) h=true then some { right:=x.right,ee:=x.ee,hour:=h,dd:=x.dd,aoX:=x.aoX}else none
def lp (d:ah)(l:List bl)(h k:Int):List Claim:=(aw d l h k).1.filterMap (opn d h)
structure aqL (d:ah)(x:ape):Prop where
 ari:0<=x.since
 every:1<=x.every
 asF:0<=x.aoX
 asH:0<=x.ee
theorem O5(h:ap d=0){k:Nat}(U:k<d.al.length)(V:(d.al.getD k default).kind=1):aqL d (d.al.getD k default):=by
 have:=((qQ d).1 h).2.2.2.2.2.2.2.1 k U;unfold dZ at this;rw[iA]at this;have h2:iE d (d.al.getD k default)=true:=by
  grind
 unfold iE at h2;cases E:((!(cC (d.al.getD k default).ee (d.u0.length:Int))) ||(!(cC (d.al.getD k default).reach (d.reaches.length:Int)))) ||(!(aJ ([0,(d.al.getD k default).since,(d.al.getD k default).to,(i64.wrap (d.hours - 1))])))with
 |true=>grind
 |false=>
  rw[E,show((d.al.getD k default).kind==1)=true by rw[V];rfl]at h2;simp only[cond_true,cond_false,alt]at h2;simp only[al1,amN]at E;have O:=E.1.1;unfold cC at O;simp only[alt,decide_eq_true_eq]at O;have Y:=vn h2.1.1.2;have W:=qm h2.2;have X:=qm E.2;exact⟨by omega,by omega,by omega,by omega⟩
variable {h k:Int}{x:aoS}
theorem Wt(E:x∈(aw d l h k).1):ap d=0/\(0<=h/\h<d.hours)/\0<=x.right/\x.right< (d.al.length:Int)/\0<=x.ee/\x.ee< (d.u0.length:Int)/\0<x.dd/\x.dd<=1073741824/\x.aoX=(d.al.getD x.right.toNat default).aoX/\(d.al.getD x.right.toNat default).kind=1:=by
 rw[(ID d l h k).2]at E;by_cases hc:aP d l=0
 rw[if_neg (by simp[hc])]at E;by_cases U:0<=h/\h<d.hours/\0<=k/\k<=1048576
 rw[if_pos U]at E;have O:=((xF d l).1 hc).1;obtain⟨a,b,c,e,f,g,i⟩:=xJ.1 E;have V:=MX O (Aq (sQ hc) h k);refine⟨O,⟨U.1,U.2.1⟩,a,b,c,e,f,?_,i,?_⟩;rw[g];exact V.le O _ _;rcases aom ((d.al.getD x.right.toNat default).kind=1)with hk|hk;exact hk;have:=V.other x.right (λW=>hk W.2.2);rw[g]at f;unfold je at f;grind
 grind
 grind
theorem Wu {d:ah}{l:List bl}{h k:Int}:(aw d l h k).1.length<=600*d.al.length/\(aw d l h k).1.length<=153600:=by
 rw[(ID d l h k).2];by_cases hc:aP d l=0
 rw[if_neg (by simp[hc])];by_cases O:0<=h/\h<d.hours/\0<=k/\k<=1048576
 rw[if_pos O];have E:=(sQ hc).right;refine⟨?_,BE E _⟩;have:=uN (jy d (je d l h k)) 600 (List.range d.al.length) λr _=>by
  unfold jy;refine alQ (amO _ _) ?_;rw[am1];exact E.u0
 grind [qY]
 grind
 grind
theorem S3 (d:ah)(l:List bl)(h k:Int):(aw d l h k).1.Pairwise hlt:=by
 rw[(ID d l h k).2];split
 simp_all;split
 exact vD _ _;simp_all
theorem IF (d:ah)(l:List bl)(h k:Int):(lp d l h k).length<=600*d.al.length/\(lp d l h k).length<=153600:=by
 have:= @Wu d l h k;have h2:=amO (opn d h) (aw d l h k).1;unfold lp;omega
variable {c:Claim}
theorem FU(e:opn d h x=some c):Ws (d.al.getD (Int.toNat x.right) (default:ape)) h=true/\c= { right:=x.right,ee:=x.ee,hour:=h,dd:=x.dd,aoX:=x.aoX}:=by
 grind [opn]
structure aqg (d:ah)(h:Int)(c:Claim):Prop where
 exp:ap d=0
 hour:c.hour=h
 h0:0<=h
 h1:h<d.hours
 r0:0<=c.right
 r1:c.right< (d.al.length:Int)
 f0:0<=c.ee
 f1:c.ee< (d.u0.length:Int)
 l0:0<c.dd
 l1:c.dd<=1073741824
 aoX:c.aoX=(d.al.getD c.right.toNat default).aoX
 kind:(d.al.getD c.right.toNat default).kind=1
theorem FV(hc:c∈lp d l h k):aqg d h c:=by
 unfold lp at hc;rw[aoG]at hc;obtain⟨x,E,e⟩:=hc;obtain⟨_,rfl⟩:=FU e;obtain⟨a0,⟨a,b⟩,c,e,f,g,i,j,m,n⟩:=Wt E;exact⟨a0,rfl,a,b,c,e,f,g,i,j,m,n⟩
theorem Cy (d:ah)(l:List bl)(h k:Int):(lp d l h k).Pairwise λa b=>¬ (a.right=b.right/\a.ee=b.ee):=by
 unfold lp;rw[anE];refine(S3 d l h k).imp λ{a b} E x O y hy=>?_;obtain⟨_,rfl⟩:=FU O;obtain⟨_,rfl⟩:=FU hy;simp only[hlt,oO,and_false,or_false]at E |-;omega
theorem Wv {a b:Claim}(h:¬ (a.right=b.right/\a.ee=b.ee)):rU a b\/rU b a:=by
 simp only[rU,oO,and_false,or_false];omega
theorem O6{a b:Claim}(h1:rU a b)(h2:rU b c):rU a c:=by simp only[rU,oO,and_false,or_false]at *;omega
def tY (l:List Claim)(x:Claim):List Claim:=l.takeWhile (λy=>decide (cS y x<0))++x::l.dropWhile (λy=>decide (cS y x<0))
def rD (d:ah)(l:List bl)(h k:Int):List Claim:=(lp d l h k).foldl tY []
theorem IG (l:List Claim)(x:Claim):(tY l x).Perm (x::l):=by
 grind [tY,List.takeWhile_append_dropWhile]
variable {l:List Claim}{x:Claim}
theorem S4(O:l.Pairwise rU):∀ y∈l.dropWhile (λy=>decide (cS y x<0)),¬rU y x:=by
 induction l with
 |nil=>simp_all
 |cons z l U=>
  rw[amA]at O;intro y hy;rw[List.dropWhile_cons]at hy;split at hy
  grind
  rename_i E;have E:¬rU z x:=λh=>E (decide_eq_true ((Ap z x).2 h));rcases alD.1 hy with rfl|hy;exact E;exact λh=>E (O6 (O.1 y hy) h)
theorem Ww:∀ y∈l.takeWhile (λy=>decide (cS y x<0)),rU y x:=by
 induction l with
 |nil=>simp_all
 |cons z l O=>
  intro y hy;rw[List.takeWhile_cons]at hy;split at hy
  rename_i E;rcases alD.1 hy with rfl|hy;exact(Ap y x).1 (of_decide_eq_true E);grind
  cases hy
theorem M0(O:l.Pairwise rU)(U:∀ y∈l,¬ (x.right=y.right/\x.ee=y.ee)):(tY l x).Pairwise rU:=by
 have V:=List.takeWhile_append_dropWhile (p:=λy=>decide (cS y x<0)) (l:=l);unfold tY;have h1:=Ww (l:=l) (x:=x);have h2:=S4 (x:=x) O;have E:∀ y∈l.dropWhile (λy=>decide (cS y x<0)),y∈l:=λy hy=>(List.dropWhile_sublist _).subset hy;have W:∀ y∈l.dropWhile (λy=>decide (cS y x<0)),rU x y:=λy hy=>by
  rcases Wv (U y (E y hy))with h|h <;>grind
 grind [List.pairwise_cons]
theorem FW:∀ (r s:List Claim),s.Pairwise rU->(r.Pairwise λa b=>¬ (a.right=b.right/\a.ee=b.ee))->(∀ a∈s,∀ b∈r,¬ (a.right=b.right/\a.ee=b.ee))->(r.foldl tY s).Perm (s++r)/\(r.foldl tY s).Pairwise rU
 | [],s,E,_,_=>⟨by simp,E⟩
 |x::r,s,E,U,O=>by
  rw[amA]at U;have V:=IG s x;obtain⟨h1,h2⟩:=FW r (tY s x) (M0 E λy hy h=>O y hy x (by simp) ⟨h.1.symm,h.2.symm⟩) U.2 λa W b X=>by
   grind
  grind
theorem zc (d:ah)(l:List bl)(h k:Int):(rD d l h k).Perm (lp d l h k):=by
 have:=(FW (lp d l h k) [] List.Pairwise.nil (Cy d l h k) (λa E=>by cases E)).1;rw[alC]at this;exact this
theorem Kx (d:ah)(l:List bl)(h k:Int):(rD d l h k).Pairwise rU:=(FW (lp d l h k) [] List.Pairwise.nil (Cy d l h k) (λa E=>by cases E)).2
variable {l:List bl}
def Ar(hc:c∈rD d l h k):aqg d h c:=FV ((zc d l h k).subset hc)
variable {β:Type}
theorem FX{ρ:Type}{step:Nat->List β->ρ⊕List β}(l:List α)(d:α)(f:α->Option β)(s0:List β)(h:∀ k s,k<l.length->step k s=.inr (s++(f (l.getD k d)).toList)):aj step l.length 0 s0=.inr (s0++l.filterMap f):=by
 obtain⟨r,h1,h2⟩:=li (step:=step) (λk s=>s=s0++(l.take k).filterMap f) l.length 0 s0 (by simp) (λj s _ E O=>by
  rw[alF]at E;grind [b_])
 grind
theorem Ky{ρ:Type}{step:Nat->List β->ρ⊕List β}{p:Nat->List β->Prop}(l:List α)(d:α)(f:α->Option β)(s0:List β)(h:∀ k s,k<l.length->step k s=.inr (s++(f (l.getD k d)).toList))(U:∀ k,k<l.length->p k (s0++(l.take k).filterMap f)):okI step p l.length 0 s0:=by
 refine kh (λk s=>s=s0++(l.take k).filterMap f) _ _ _ (by simp) λj s _ O E=>⟨by grind,λs' e=>?_⟩;grind [b_]
theorem HC(l:List α)(f:α->Option β)(k:Nat):((l.take k).filterMap f).length<=(l.filterMap f).length:=by
 have:=congrArg List.length (congrArg (List.filterMap f) (amk k l));grind
theorem Z7(l:List α)(d:α)(f:α->Option β){k:Nat}(E:k<l.length){c:β}(hc:f (l.getD k d)=some c):(l.filterMap f)[((l.take k).filterMap f).length]? =some c:=by
 grind [List.drop_eq_getElem_cons,List.take_append_drop]
theorem Ra{step:Nat->List β×Int->List β⊕(List β×Int)}{p:Nat->List β×Int->Prop}(fr to:Int)(G:Int->List β)(h0:0<=fr)(h1:to<4096)(O:fr<=to+1)
  (hs:∀ k s h,fr<=h->h<=to->step k (s,h)=.inr (s++G h,i64.wrap (h+1))) (he:∀ k s h,to<h->step k (s,h)=.inl s)
  (Y:∀ k h,fr<=h->h<=to+1->p k ((hrs fr (h - 1)).flatMap G,h)):okI step p 4098 0 ([],fr)/\aj step 4098 0 ([],fr)=.inl ((hrs fr to).flatMap G):=by
 obtain⟨a,r,b,c⟩:=y8 (step:=step) (p:=p) (λs=>(to+1 - s.2).toNat) (λs=>(fr<=s.2/\s.2<=to+1)/\s.1=(hrs fr (s.2 - 1)).flatMap G) (λr=>r=(hrs fr to).flatMap G) (λk s W=>by
  obtain⟨s,h⟩:=s;obtain⟨⟨E,V⟩,U⟩:=W;simp only at E V U;subst U;refine⟨Y k h E V,?_⟩;by_cases X:h<=to
  refine .inr ⟨_,hs k _ h E X,?_⟩;simp only;rw[az (by omega) (by omega)];refine⟨by omega,⟨by omega,by omega⟩,?_⟩;rw[show h+1 - 1=(h - 1)+1 by omega,MN (by omega),anT,show h - 1+1=h by omega];simp;grind) 4098 0 ([],fr) ⟨⟨al5 _,O⟩,by rw[ZV (by omega)];rfl⟩ (by omega)
 grind
theorem BF{x:ape}(E:aqL d x)(U:0<=h)(h1:h<4096):(((decide (h<x.since)) ||(decide (h > x.to))) ||(decide ((Int.tmod (i64.wrap (h - x.since)) x.every)>=x.length)))= !Ws x h:=by
 have:=E.ari;unfold Ws;by_cases O:x.since<=h
 rw[az (by omega) (by omega),decide_eq_true O,decide_eq_false (show ¬h<x.since by omega)];grind
 grind
theorem FY(l:List α)(d:α){k:Nat}(E:k<l.length):l.getD k d∈l:=by grind
theorem Dx(E:j< (aw d l h k).1.length):((0<=((aw d l h k).1.getD j default).right/\((aw d l h k).1.getD j default).right< (d.al.length:Int))/\(0<=h/\h<4096))/\aqL d (d.al.getD (Int.toNat ((aw d l h k).1.getD j default).right) default)/\(d.al.getD (Int.toNat ((aw d l h k).1.getD j default).right) default).kind=1:=by
 obtain⟨a,⟨O,U⟩,c,e,f,g,i,m,n,o⟩:=Wt (FY _ default E);have:=(jw (by rw[a];rfl)).hours;exact⟨⟨⟨c,e⟩,O,by omega⟩,O5 a (by omega) o,o⟩
theorem Kz (d:ah)(l:List bl)(h k:Int):fC d l h k=lp d l h k/\kI d l h k ((fC d l h k).map BA):=by
 have hstep:∀ j s,j< (aw d l h k).1.length->iQ d l h k j s=.inr (s++(opn d h ((aw d l h k).1.getD j default)).toList):=λj s O=>by
  obtain⟨⟨⟨a,b⟩,c,e⟩,E,_⟩:=Dx O;unfold iQ opn;rw[BF E c e];grind
 have U:aj (iQ d l h k) ((aw d l h k).1).length 0 []=.inr (lp d l h k):=by
  rw[FX _ default (opn d h) [] hstep];rfl
 have e:fC d l h k=lp d l h k:=by unfold fC;rw[U]
 refine⟨e,(ID d l h k).1,λ_=>⟨Ky _ default (opn d h) [] hstep λj O=>?_,λs W=>?_⟩⟩;obtain⟨⟨⟨a,b⟩,c,f⟩,E,_⟩:=Dx O;refine⟨⟨a,b⟩,λ_=>by have:=E.every;omega,λhc=>?_⟩;rw[BF E c f]at hc;have V:opn d h ((aw d l h k).1.getD j default)=some { right:=((aw d l h k).1.getD j default).right,ee:=((aw d l h k).1.getD j default).ee,hour:=h,dd:=((aw d l h k).1.getD j default).dd,aoX:=((aw d l h k).1.getD j default).aoX}:=by
  simp_all [opn]
 rw[e,alC,aml];unfold lp;grind [Z7]
 grind
def M3 (d:ah)(f h r:Int):Bool:= !(p9 d f r h)
def M4 (d:ah)(f:Int):List Int:=(ed d (d.u0.getD (Int.toNat f) default).reach).reverse
def C_ (d:ah)(f h:Int):Int:=((M4 d f).find? (M3 d f h)).getD (-1)
def fnd (d:ah)(h:Int)(c:Claim):T1:= { C1:=c,reach:=C_ d c.ee h}
theorem IH(E:ap d=0)(U:0<=f)(h1:f< (d.u0.length:Int)):ap2 d (d.u0.getD (Int.toNat f) default).reach:=by
 have O:=jw (by rw[E];rfl);have:=O.ee f.toNat (by omega);exact⟨E,this.1,this.2⟩
theorem O7(E:d.al.length<=256)(l:List Int):(dJ l (cD d h) c<0/\l.find? (M3 d c.ee h)=none)\/∃ j:Nat,j<l.length/\dJ l (cD d h) c=(j:Int)/\l.find? (M3 d c.ee h)=some (l.getD j 0):=by
 have:=Aj (step:=fU l (cD d h) c) l 0 (M3 d c.ee h) (λk O=>by
  grind [fU,rQ,M3,adx])
 unfold dJ;grind
def zd (d:ah)(l:List bl)(k fr to:Int):List T1:=(hrs fr to).flatMap λh=>(lp d l h k).map (fnd d h)
def ld (d:ah)(l:List bl)(k fr to:Int):List T1:=(hrs fr to).flatMap λh=>(rD d l h k).map (fnd d h)
theorem Z8(l:List bl)(k:Int)(s0:List T1×Int)(hc:aqg d s0.2 c)(s:List T1):fY d l k s0 c s=.inr (s++[fnd d s0.2 c])/\((s.length+1)*48<=d9->ix d l k s0 c s):=by
 have W:=jw (by rw[hc.exp];rfl);have V:=IH hc.exp hc.f0 hc.f1;have E:=FG V;unfold fY ix;rw[E];simp only;rcases O7 (d:=d) (h:=s0.2) (c:=c) W.al (ed d (d.u0.getD (Int.toNat c.ee) default).reach).reverse with⟨hi,O⟩ | ⟨j,X,hi,O⟩;rw[decide_eq_false (show ¬_>=(0:Int) by omega)];refine⟨?_,λU=>⟨⟨hc.f0,hc.f1⟩,yC _ _,λh=>by grind,λ_=>by grind⟩⟩;simp only[cond_false,fnd,C_,M4,O,Option.getD_none];rw[hi,decide_eq_true (show(j:Int)>=0 by omega)];refine⟨?_,λU=>⟨⟨hc.f0,hc.f1⟩,yC _ _,λ_=>⟨⟨by omega,by omega⟩,by grind⟩,λh=>by grind⟩⟩;simp only[cond_true,fnd,C_,M4,O,anK,alv]
theorem O8 {d:ah}(l:List bl)(k:Int)(s0:List T1×Int):∀ (L:List Claim) (s:List T1),(∀ c∈L,aqg d s0.2 c)->dC (fY d l k s0) L s=.inr (s++L.map (fnd d s0.2))/\((s.length+L.length)*48<=d9->okL (fY d l k s0) (ix d l k s0) L s)
 | [],s,_=>⟨by simp[dC],λ_=>trivial⟩
 |c::L,s,h=>by
  obtain⟨h1,h2⟩:=Z8 l k s0 (h c (by simp)) s;obtain⟨V,U⟩:=O8 l k s0 L (s++[fnd d s0.2 c]) λx O=>h x (by simp[O]);refine⟨?_,λE=>?_⟩;grind [dC]
  rw[aly]at E;refine⟨h2 (by omega),λs' e=>?_⟩;grind
variable {to:Int}
theorem FZ{fr:Int}:(zd d l k fr to).length<=(to+1 - fr).toNat*(600*d.al.length):=by
 unfold zd;have:=uN (λh=>(lp d l h k).map (fnd d h)) (600*d.al.length) (hrs fr to) λh _=>by rw[amo];exact(IF d l h k).1
 rwa[Q5]at this
def F0 (d:ah)(l:List bl)(k fr to:Int):(zd d l k fr to).Perm (ld d l k fr to):=SQ λh _=>(zc d l h k).symm.map _
theorem KA (d:ah)(l:List bl)(k fr to:Int):(ld d l k fr to).Pairwise λx y=>fI x y<0:=by
 unfold ld;refine ZX (adA fr to) (λh _=>?_) λa _ b _ W x V y hy=>?_;rw[anF];exact(Kx d l h k).imp λ{x y} E=>(FJ _ _).2 E;obtain⟨Y,O,rfl⟩:=anq.1 V;obtain⟨X,U,rfl⟩:=anq.1 hy;have h1:=(Ar O).hour;have h2:=(Ar U).hour;refine(FJ _ _).2 ?_;simp_all [fnd,rU,oO]
def sY (d:ah)(fr to k:Int):Prop:=(0<=fr/\fr<=to/\to<d.hours)/\0<=k/\k<=1048576
instance (d:ah)(fr to k:Int):Decidable (sY d fr to k):=by unfold sY;infer_instance
def vE (d:ah)(l:List bl)(fr to k:Int):Int:=if aP d l≠0 then aP d l else if ¬sY d fr to k then 1 else if 4096< (to - fr+1)*(d.al.length:Int)then 2 else 0
theorem Wx (d:ah)(fr to k:Int):(((((decide (fr<0)) ||(decide (fr > to))) ||(decide (to>=d.hours))) ||(decide (k<0))) ||(decide (k > 1048576)))= !decide (sY d fr to k):=by
 rw[amj,alL,decide_eq_false_iff_not];simp only[alY,decide_eq_true_eq];grind [sY]
theorem Wy{fr:Int}(E:apd d)(h:sY d fr to k):i64.wrap ((i64.wrap ((i64.wrap (to - fr))+1))*(d.al.length:Int))=(to - fr+1)*(d.al.length:Int):=by
 obtain⟨⟨a,b,c⟩,e,f⟩:=h;have h1:=E.hours;have h2:=E.al;rw[az (n:=to - fr) (by omega) (by omega),az (n:=to - fr+1) (by omega) (by omega)];have U:(to - fr+1)*(d.al.length:Int)<=4096*256:=Int.mul_le_mul (by omega) (by omega) (by omega) (by omega);have O:0<=(to - fr+1)*(d.al.length:Int):=ano (by omega) (by omega);exact az (by omega) (by omega)
theorem ru{fr:Int}(h:sY d fr to k)(E:¬4096< (to - fr+1)*(d.al.length:Int)){n:Nat}(O:n<=(to+1 - fr).toNat*(600*d.al.length)):n<=2457600:=by
 grind [Int.mul_comm]
theorem adG (d:ah)(l:List bl)(fr to k:Int):oW d l fr to k/\eX d l fr to k=if vE d l fr to k=0 then(ld d l k fr to,0)else([],vE d l fr to k):=by
 unfold oW eX vE;rw[Wx];by_cases hc:aP d l=0
 rw[hc];simp only[bne_self_eq_false,cond_false,ne_eq,not_true,if_false];have hD:=sQ hc;have Y:=hD.right;by_cases E:sY d fr to k
 rw[Wy Y E,decide_eq_true E];simp only[alN,cond_false,not_true,if_false];by_cases U:4096< (to - fr+1)*(d.al.length:Int)
 rw[decide_eq_true U,if_pos U];exact⟨⟨uJ d l,λ_ _ _ h=>by cases h⟩,by grind⟩;rw[decide_eq_false U,if_neg U];simp only[cond_false,if_true];have V:=Ra (step:=jC d l to k) (p:=kJ d l to k) fr to (λh=>(lp d l h k).map (fnd d h)) E.1.1 (by have:=E.1.2.2;have:=Y.hours;omega) (by have:=E.1.2.1;omega)
  (λj s h h1 h2=>by
   unfold jC;simp only;rw[decide_eq_true h2,(Kz d l h k).1];simp only[cond_true];rw[(O8 l k (s,h) (lp d l h k) s λc hc=>FV hc).1])
  (λj s h h1=>by grind [jC])
  (λj h h1 h2=>by
   unfold kJ;simp only;intro O;have O:h<=to:=of_decide_eq_true O;refine⟨(Kz d l h k).2,?_⟩;rw[(Kz d l h k).1];refine(O8 l k (_,h) (lp d l h k) _ λc hc=>FV hc).2 ?_;have h3:((hrs fr (h - 1)).flatMap λh=>(lp d l h k).map (fnd d h)).length+(lp d l h k).length=(zd d l k fr h).length:=by
    unfold zd;have:=MN (a:=fr) (b:=h - 1) (by omega);grind
   have h4:(zd d l k fr h).length<=(to+1 - fr).toNat*(600*d.al.length):=alQ FZ (alM _ (by omega));have h5:=ru E U h4;grind [d9])
 obtain⟨r1,r2⟩:=V;have hS:=O0 Ix (F0 d l k fr to) (KA d l k fr to);have X:aj (jC d l to k) 4098 0 ([],fr)=.inl (zd d l k fr to):=r2;rw[X];simp only;rw[hS.2];refine⟨⟨uJ d l,λ_ _ _ _=>⟨r1,λz hz=>by grind,λx hx=>?_⟩⟩,by grind⟩;grind
 rw[decide_eq_false E,if_pos E];simp only[alZ,cond_true];exact⟨⟨uJ d l,λ_ h=>by cases h⟩,rfl⟩;have W:(aP d l !=0)=true:=by grind
 rw[W];simp only[cond_true,ne_eq,hc,not_false_eq_true,if_true,if_false];exact⟨⟨uJ d l,λh=>by cases h⟩,trivial⟩
def ofF (x:T1):Option Claim:=if x.reach<0 then some x.C1 else none
def ofL (d:ah)(l:List bl)(k fr to:Int):List Claim:=(ld d l k fr to).filterMap ofF
def lim {α:Type}(e:Int)(l:List α):List α×Int:=if e=0 then(if 4096<l.length then([],2)else(l,0))else([],e)
theorem O9{fr:Int}(h:vE d l fr to k=0):(ld d l k fr to).length<=2457600:=by
 rw[<-(F0 d l k fr to).length_eq];unfold vE at h;split at h
 rename_i h1;exact absurd h h1;split at h
 cases h;rename_i h2;have h2:sY d fr to k:=Classical.not_not.1 h2;split at h
 cases h;rename_i E;exact ru h2 E FZ
theorem F4 (d:ah)(l:List bl)(fr to k:Int):tN d l fr to k/\bX d l fr to k=lim (vE d l fr to k) (ofL d l k fr to):=by
 obtain⟨h1,h2⟩:=adG d l fr to k;by_cases O:vE d l fr to k=0
 rw[if_pos O]at h2;have W:=O9 O;have hstep:∀ j s,j< (ld d l k fr to).length->oX d l fr to k j s=.inr (s++(ofF ((ld d l k fr to).getD j default)).toList):=λj s X=>by
  unfold oX ofF;rw[h2];simp only;by_cases E:((ld d l k fr to).getD j default).reach<0
  rw[if_pos E,decide_eq_true E];rfl;rw[if_neg E,decide_eq_false E];simp
 refine⟨⟨h1,λ_ _=>?_⟩,?_⟩;rw[h2];refine Ky (ld d l k fr to) default ofF [] hstep λj X=>?_;intro _;rw[h2];have:=HC (ld d l k fr to) ofF j;have Y:=amO ofF (ld d l k fr to);rw[alA,alC,List.length_singleton];unfold d9;omega;unfold bX lim;have V:=FX _ default ofF [] hstep;rw[h2];simp only[bne_self_eq_false,cond_false];rw[V,if_pos O,alC];show(bif decide (((ofL d l k fr to).length:Int) > 4096)then([],2)else(ofL d l k fr to,0))=_;by_cases E:4096< (ofL d l k fr to).length
 rw[if_pos E,decide_eq_true (by omega)];rfl;rw[if_neg E,decide_eq_false (by omega)];rfl;rw[if_neg O]at h2;have U:((eX d l fr to k).2 !=0)=true:=by rw[h2];simpa using O
 refine⟨⟨h1,λh=>by rw[U]at h;cases h⟩,?_⟩;unfold bX lim;rw[U,h2,if_neg O];rfl
theorem Rb {α β γ:Type}(f:α->List β)(g:β->Option γ):∀ l:List α,(l.flatMap f).filterMap g=l.flatMap λa=>(f a).filterMap g
 | [] =>rfl
 |a::l=>by rw[alO,alO,anI,Rb f g l]
def ofH (d:ah)(l:List bl)(k h:Int):List Claim:=(rD d l h k).filterMap λc=>if C_ d c.ee h<0 then some c else none
theorem adH (d:ah)(l:List bl)(k fr to:Int):ofL d l k fr to=(hrs fr to).flatMap (ofH d l k):=by
 unfold ofL ld;rw[Rb];congr 1
 funext h
 rw[List.filterMap_map];rfl
def o5 (x:Range)(most:Int):Bool:=(((decide (x.lo>=0))&&(decide (x.lo<=x.hi)))&&(decide (x.hi<=most)))
@[go_sem] def BG:List SV->Option Con:=(pD .range λx=>(pI λmost=>(pE (.det True (.v (.bool (o5 x most)))))))
theorem As:B1 Tryz.prog 148 BG:=by
 have hG:=mG P0 P0;refine fN hG Tryz.f148 [.o] (av λx=>(ay λE=>(am (λO=>?_))));dsimp only[an]at O;refine⟨nbl rfl,L0,ag _,?_⟩;unfold ae Tryz.f148;try unfold o5
 exact zq2
def sg (n:Int)(lo:Int)(hi:Int):Bool:=((decide (n>=lo))&&(decide (n<=hi)))
@[go_sem] def M5:List SV->Option Con:=(pI λn=>(pI λlo=>(pI λhi=>(pE (.det True (.v (.bool (sg n lo hi))))))))
theorem At:B1 Tryz.prog 150 M5:=by
 have hG:=mG P0 P0;refine fN hG Tryz.f150 [.o] (ay λn=>(ay λlo=>(ay λhi=>(am (λE=>?_)))));dsimp only[an]at E;refine⟨nbl rfl,L0,ag _,?_⟩;unfold ae Tryz.f150;try unfold sg
 exact zq2
def o6 (a:G2):Bool:=(((aR a) ==0)&&(sg a.n 0 a.d))
@[go_sem] def F5:List SV->Option Con:=(pD .ratio λa=>(pE (.det True (.v (.bool (o6 a))))))
theorem Da:B1 Tryz.prog 220 F5:=by
 have hG:=mG (cp At (cp oB P0)) P0;refine fN hG Tryz.f220 [.o] (av λa=>(am (λE=>?_)));dsimp only[an]at E;refine⟨nbl rfl,L0,ag _,?_⟩;unfold ae Tryz.f220;try unfold o6
 exact zq2
def nt (a:G2×G2):Bool:=(bif((!(o6 a.1)) ||(!(o6 a.2)))then false else(((ig a.1 a.2).2==0)&&(decide ((ig a.1 a.2).1<=0))))
@[go_sem] def Db:List SV->Option Con:=(pD .apw λa=>(pE (.det True (.v (.bool (nt a))))))
theorem BH:B1 Tryz.prog 149 Db:=by
 have hG:=mG (cp Da (cp z8 P0)) P0;refine fN hG Tryz.f149 [.o] (av λa=>(am (λE=>?_)));dsimp only[an]at E;refine⟨nbl rfl,L0,ag _,?_⟩;unfold ae Tryz.f149;try unfold nt
 exact zq2
def gR (r:Reach)(n:Int):Int:=(bif((!(o5 r.apu 1073741824)) ||(!(nt r.apc)))then 210 else(bif(!(sg n 0 1073741824))then 1 else 0))
@[go_sem] def F6:List SV->Option Con:=(pD .reach λr=>(pI λn=>(pE (.det True (.v (.int .i64 (gR r n)))))))
theorem vV:B1 Tryz.prog 92 F6:=by
 have hG:=mG (cp As (cp BH (cp At P0))) P0;refine fN hG Tryz.f92 [.o] (av λr=>(ay λn=>(am (λE=>?_))));dsimp only[an]at E;refine⟨nbl rfl,L0,ag _,?_⟩;unfold ae Tryz.f92;try unfold gR
 exact zq2
def g6 (r:Reach)(v:Int):Range:=letI q0:=i64.wrap (r.apu.hi+(eT r.apc.2 v).2.1);letI q1:=i64.wrap (r.apu.lo+(eT r.apc.1 v).1);(bif(v==0)then({ lo:=0,hi:=0}:Range)else({ lo:=(if q1<v then q1 else v),hi:=(if q0<v then q0 else v)}:Range))
@[go_sem] def HD:List SV->Option Con:=(pD .reach λr=>(pI λv=>(pE (.det True (.agg (cellsOf .range (g6 r v)))))))
theorem xd:B1 Tryz.prog 93 HD:=by
 have hG:=mG (cp wT P0) P0;refine fN hG Tryz.f93 [.st .range] (av λr=>(ay λv=>(am (λE=>?_))));dsimp only[an]at E;refine⟨nbl rfl,L0,ag _,?_⟩;unfold ae Tryz.f93;try unfold g6
 exact zq2
def iG (r:Reach)(v:Int):Int×Int:=(bif((gR r v) !=0)then(0,(gR r v))else((i64.wrap (v - (g6 r v).hi)),0))
@[go_sem] def F7:List SV->Option Con:=(pD .reach λr=>(pI λv=>(pE (.det True (.tup [.v (.int .i64 ((iG r v).1)),.v (.int .i64 ((iG r v).2))])))))
theorem vW:B1 Tryz.prog 52 F7:=by
 have hG:=mG (cp vV (cp xd P0)) P0;refine fN hG Tryz.f52 [.o,.o] (av λr=>(ay λv=>(am (λE=>?_))));dsimp only[an]at E;refine⟨nbl rfl,L0,ag _,?_⟩;unfold ae Tryz.f52;try unfold iG
 exact zq2
def qu (v:Int)(r:Reach):Int:=(i64.wrap (v - (g6 r v).hi))
@[go_sem] def Dc:List SV->Option Con:=(pI λv=>(pX .reach λr=>(pE (.det True (.v (.int .i64 (qu v r)))))))
theorem BI:B1 Tryz.prog 139 Dc:=by
 have hG:=mG (cp xd P0) P0;refine fN hG Tryz.f139 [.o] (ay λv=>(gD λr=>(am (λE=>?_))));dsimp only[an]at E;refine⟨nbl rfl,L0,ag _,?_⟩;unfold ae Tryz.f139;try unfold qu
 exact zq2
def fD (v:Int)(r:Reach)(w:Int):Bool:=(decide ((qu v r) > w))
@[go_sem] def BJ:List SV->Option Con:=(pI λv=>(pXF 139 (pX .reach λr=>(pE ((pX .int λw=>(pE (.det True (.v (.bool (fD v r w)))))))))))
theorem Au:B1 Tryz.prog 210 BJ:=by
 have hG:=mG (cp BI P0) P0;refine fN hG Tryz.f210 [.o] (ay λv=>(zV (gD λr=>(am ((gD λw=>(am (λE=>?_))))))));dsimp only[an]at E;refine⟨nbl rfl,L0,ag _,?_⟩;unfold ae Tryz.f210;try unfold fD
 exact zq2
@[go_sem] def jZ (r:Reach)(w:Int)(S2:Nat)(ly:Int×Int):Int⊕(Int×Int):=letI q0:=i64.wrap (mr .u64 (u64.wrap (i64.wrap (ly.1+ly.2))) 1);(bif(decide (ly.1<ly.2))then(bif(!(fD q0 r w))then .inr ((i64.wrap (q0+1)),ly.2)else .inr (ly.1,q0))else .inl ly.1)
def tO (n:Int)(r:Reach)(w:Int):Int:=(match aj (jZ r w) 64 0 (0,n)with| .inl pq=>pq| .inr ly=>default)
def kW (n:Int)(r:Reach)(w:Int):Prop:=(∀ z_,aj (jZ r w) 64 0 (0,n)≠ .inr z_)
@[go_sem] def HE:List SV->Option Con:=(pI λn=>(pFn 210 (pXF 139 (pX .reach λr=>(pE ((pX .int λw=>(pE ((pE (.det (kW n r w) (.v (.int .i64 (tO n r w))))))))))))))
theorem F8:B1 Tryz.prog 209 HE:=by
 have hG:=mG (cp Au P0) P0;refine fN hG Tryz.f209 [.o] (ay λn=>(oz (zV (gD λr=>(am ((gD λw=>(am ((am (λV=>?_)))))))))));dsimp only[an]at V;unfold kW at V;refine⟨nbl rfl,(λid st=>bif Nat.beq id 0 then some (LCV (ρ:=Int) (σ:=(Int×Int)) 0 [] [] (λU O=>⟨[(1,.fn 210 [] [.ep [.fn 139 [] [.ep (cellsOf .reach r) 0]] 0,.ep [.v (.int .i64 w)] 0]),(5,.v (.int .i64 O.1)),(6,.v (.int .i64 O.2))],[]⟩) (jZ r w) pT 64 (0,n) (λ_=>.normal) (λE=>⟨[(5,.v (.int .i64 E))],[]⟩) st)else none),?_,?_⟩;unfold ae Tryz.f209;simp only[ak,true_and,and_true];refine eQ mixed aD hG kr (λ_=>rfl) λU O _=>⟨L0,ag _,?_⟩;exact c7 (jl []);unfold ae Tryz.f209;try unfold tO
 exact zq2
def fJ (w:Int)(r:Reach):Int:=(tO 1073741825 r w)
def mh (w:Int)(r:Reach):Prop:=(kW 1073741825 r w)
@[go_sem] def F9:List SV->Option Con:=(pI λw=>(pFn 139 (pX .reach λr=>(pE ((pE (.det (mh w r) (.v (.int .i64 (fJ w r))))))))))
theorem Dd:B1 Tryz.prog 138 F9:=by
 have hG:=mG (cp F8 P0) P0;refine fN hG Tryz.f138 [.o] (ay λw=>(oz (gD λr=>(am ((am (λE=>?_)))))));dsimp only[an]at E;unfold mh at E;refine⟨nbl rfl,L0,ag _,?_⟩;unfold ae Tryz.f138;try unfold fJ
 exact zq2
def ce (r:Reach)(w:Int):Int×Bool×Int:=(bif((gR r w) !=0)then(0,false,(gR r w))else(bif(decide ((fJ (i64.wrap (w - 1)) r) > 1073741824))then(0,false,0)else((fJ (i64.wrap (w - 1)) r),true,0)))
def iM (r:Reach)(w:Int):Prop:=(((gR r w) !=0)=false->(mh (i64.wrap (w - 1)) r))
@[go_sem] def yE:List SV->Option Con:=(pD .reach λr=>(pI λw=>(pE (.det (iM r w) (.tup [.v (.int .i64 ((ce r w).1)),.v (.bool ((ce r w).2.1)),.v (.int .i64 ((ce r w).2.2))])))))
theorem sZ:B1 Tryz.prog 84 yE:=by
 have hG:=mG (cp vV (cp Dd P0)) P0;refine fN hG Tryz.f84 [.o,.o,.o] (av λr=>(ay λw=>(am (λE=>?_))));dsimp only[an]at E;unfold iM at E;refine⟨nbl rfl,L0,ag _,?_⟩;unfold ae Tryz.f84;try unfold ce
 exact zq2
def a8 (x:Reach)(w:Int):Int×Bool:=(bif((w==0) ||(decide (w > 1073741824)))then(0,(w==0))else(bif(!(ce x w).2.1)then(0,false)else((if(ce x w).1<x.aoU then x.aoU else(ce x w).1),true)))
def mF (x:Reach)(w:Int):Prop:=(((w==0) ||(decide (w > 1073741824)))=false->(iM x w))
@[go_sem] def BK:List SV->Option Con:=(pD .reach λx=>(pI λw=>(pE (.det (mF x w) (.tup [.v (.int .i64 ((a8 x w).1)),.v (.bool ((a8 x w).2))])))))
theorem Av:B1 Tryz.prog 170 BK:=by
 have hG:=mG (cp sZ P0) P0;refine fN hG Tryz.f170 [.o,.o] (av λx=>(ay λw=>(am (λE=>?_))));dsimp only[an]at E;unfold mF at E;refine⟨nbl rfl,L0,ag _,?_⟩;unfold ae Tryz.f170;try unfold a8
 exact zq2
abbrev mS:SV:=.ls 1 [.fn 248 [] [],.fn 249 [] [],.fn 250 [] []]
open Classical in
noncomputable def rV:List SV->Option Con:=λl=>if l=[mS]then some (.det True (.fn 298 [] [.ep [mS] 0]))else none
theorem HF:B1 Tryz.prog 247 rV:=by
 have hG:aoI Tryz.prog (mkG [] []):=ox (by simp) (by simp);refine A8 [.o] mixed aD hG (fn:=Tryz.f247) (c:=ae Tryz.f247) kr kr kr kr λl O h U=>?_;unfold rV at h;split at h
 rename_i E;subst E;cases h;refine⟨nbl rfl,L0,by simp_all [ae,Tryz.f247,ak],?_⟩;unfold ae Tryz.f247;simp only[go_sem,mS,true_imp_iff,Nat.reduceBEq,Nat.reduceLeDiff,Nat.reduceAdd,Nat.reduceSub,Nat.reduceMul,true_and,and_true,implies_true,amh,amG];rfl;cases h
def gi:List SV->Option Con:=pE (.det True (.fn 298 [] [.ep [mS] 0]))
theorem s4:B1 Tryz.prog 172 gi:=by
 have hG:aoI Tryz.prog (mkG [(247,rV)] []):=ox (by
  intro x E;simp only[alD,amf,or_false]at E;rcases E with rfl;exact HF) (by simp)
 refine A8 [.o] mixed aD hG (fn:=Tryz.f172) (c:=ae Tryz.f172) kr kr kr kr λl O h U=>?_;unfold gi at h;obtain⟨rfl,rfl⟩:=wK h;refine⟨nbl rfl,L0,by simp_all [ae,Tryz.f172,ak],?_⟩;unfold ae Tryz.f172;simp only[go_sem,rV,mS,true_imp_iff,Nat.reduceBEq,Nat.reduceLeDiff,Nat.reduceAdd,Nat.reduceSub,Nat.reduceMul,true_and,and_true,implies_true,amh,amG,if_true];rfl
def s6 (k:Nat)(x:Order):Int:=match k with|0=>oC x|1=>sK x|_=>oD x
def xK (a b:Order):Nat->Unit->Int⊕Unit:=λk _=>bif(bj (s6 k a) (s6 k b) !=0)then .inl (bj (s6 k a) (s6 k b))else .inr ()
def aN (a b:Order):Int:=match aj (xK a b) 3 0 ()with| .inl x=>x| .inr _=>0
open Classical in
noncomputable def mj:List SV->Option Con:=pD .order λa=>pD .order λb=>λl=>if l=[.ep [mS] 0]then some (.det True (.i (aN a b)))else none
theorem vX:B1 Tryz.prog 298 mj:=by
 have hG:aoI Tryz.prog (mkG [(82,oA),(248,mM),(249,pF),(250,mN)] []):=ox (by
  intro x hx;simp only[alD,amf,or_false]at hx;rcases hx with rfl|rfl|rfl|rfl;exact eS;exact wR;exact Ab;exact wS) (by simp)
 refine A8 [.o] mixed aD hG (fn:=Tryz.f298) (c:=ae Tryz.f298) kr kr kr kr λl con h hp=>?_;unfold mj at h;obtain⟨a,l0,rfl,h0⟩:=JK h;obtain⟨b,l1,rfl,h1⟩:=JK h0;split at h1
 rotate_left
 cases h1;rename_i hl;subst hl;cases h1;clear h h0;obtain⟨Y,ai,W,X⟩:=a;obtain⟨V,U,O,E⟩:=b;refine⟨nbl rfl,(λid st=>bif Nat.beq id 0 then some (LC (ρ:=Int) (σ:=Unit) (lk 3 st.t=.ptr 0 0/\lk 4 st.t=.ptr 1 0/\lk 9 st.t=mS/\lk 10 st.t=.i 3/\lk 11 st.t=.i 0/\st.h=[.cells (cellsOf .order ⟨Y,ai,W,X⟩),.cells (cellsOf .order ⟨V,U,O,E⟩)]) (aj (xK ⟨Y,ai,W,X⟩ ⟨V,U,O,E⟩) 3 0 ()) (λ_=>.ret) (λx=>⟨[(5,.i x)],[.dead,.dead]⟩) (λ_=>⟨[],[.dead,.dead]⟩))else none),?_,?_⟩
 ·unfold ae Tryz.f298;simp only[ak,true_and,and_true];refine Ij mixed aD hG kr λst lc hC hp=>?_;simp only[go_sem,Nat.reduceBEq,alx]at hC;subst hC;obtain⟨t,h⟩:=st;dsimp only[LC]at hp;obtain⟨e1,e2,e3,e4,e5,rfl⟩:=hp;refine⟨_,_,_,xK ⟨Y,ai,W,X⟩ ⟨V,U,O,E⟩,λ_ _=>True,3,(),_,_,_,(λk _=>⟨[(3,.ptr 0 0),(4,.ptr 1 0),(9,mS),(10,.i 3),(11,.i (k:Int))],[.cells (cellsOf .order ⟨Y,ai,W,X⟩),.cells (cellsOf .order ⟨V,U,O,E⟩)]⟩),[0,1],rfl,ic _ _ _ λ_ _ _ _=>trivial,alw _,?_,λk s hk hpk=>⟨L0,?_,?_⟩⟩;simp only[go_sem,e1,e2,e3,e4,e5,mS,Nat.reduceBEq,Nat.reduceLeDiff,Nat.reduceAdd,true_and,and_true];grind
  simp only[ak,and_self,true_and,and_true]
  ·have hk4:k=0\/k=1\/k=2\/k=3:=by omega
   have hw0:i64.wrap ((0:Int)+1)=((0+1:Nat):Int):=by decide
   have hw1:i64.wrap ((1:Int)+1)=((1+1:Nat):Int):=by decide
   have hw2:i64.wrap ((2:Int)+1)=((2+1:Nat):Int):=by decide
   rcases hk4 with rfl|rfl|rfl|rfl;all_goals
    simp only[go_sem,oA,mM,pF,mN,mS,xK,s6,true_imp_iff,false_imp_iff,alB,alv,anm,Nat.reduceBEq,Nat.reduceLeDiff,Nat.reduceAdd,Nat.reduceSub,Nat.reduceMul,Nat.reduceLT,Int.reduceLE,Int.reduceLT,Int.reduceToNat,Int.reduceNeg,true_and,and_true,and_self,implies_true,forall_const,reduceCtorEq,aoH]
   all_goals (first|done|(repeat' (first|with_reducible refine And.intro ?_ ?_|((with_reducible show _≠_);first|assumption|omega|(simp_all;done) |grind) |with_reducible intro _)) <;>(first|done|assumption|rfl|omega|decide|(simp only[*,cond_true,cond_false,go_sem,true_imp_iff,false_imp_iff,alB,alv,anm,Nat.reduceBEq,Nat.reduceLeDiff,Nat.reduceAdd,Nat.reduceSub,Nat.reduceMul,Int.reduceLE,Int.reduceLT,Int.reduceToNat,Int.reduceNeg,true_and,and_true,and_self,implies_true,forall_const,reduceCtorEq];done) |(simp only[*,cond_true,cond_false,go_sem,true_imp_iff,false_imp_iff,alB,alv,anm,Nat.reduceBEq,Nat.reduceLeDiff,Nat.reduceAdd,Nat.reduceSub,Nat.reduceMul,Int.reduceLE,Int.reduceLT,Int.reduceToNat,Int.reduceNeg,true_and,and_true,and_self,implies_true,forall_const,reduceCtorEq];(repeat' (first|with_reducible refine And.intro ?_ ?_|((with_reducible show _≠_);first|assumption|omega|(simp_all;done) |grind) |with_reducible intro _)) <;>(first|done|assumption|rfl|omega|decide))))
   all_goals trace_state
 unfold ae Tryz.f298;unfold aN;simp only[go_sem,mS,true_imp_iff,false_imp_iff,alB,Nat.reduceBEq,Nat.reduceLeDiff,Nat.reduceAdd,Nat.reduceSub,Nat.reduceMul,true_and,and_true,implies_true,sz,amh,amG];grind
attribute [go_sem] gi mj
@[go_sem] def fm (a0:ah)(a1:List Order)(S2:Nat)(ly:Unit):Unit⊕Unit:=letI q0:=a1.getD S2 default;letI q1:=(decide ((S2:Int) > 0))&&(decide ((aN (a1.getD (Int.toNat (i64.wrap ((S2:Int) - 1))) default) q0)>=0));letI q2:=decide (q0.dd > 1073741824);letI q3:=decide (q0.hour>=a0.hours);letI q4:=decide (q0.dd<1);letI q5:=decide (q0.index<0);letI q6:=decide (q0.hour<0);(bif q0.X2 then(bif((((((q6||q3) ||q5) ||(decide (q0.index>=(a0.u0.length:Int)))) ||q4) ||q2) ||q1)then .inl ()else .inr ())else(bif((((((q6||q3) ||q5) ||(decide (q0.index>=(a0.reaches.length:Int)))) ||q4) ||q2) ||q1)then .inl ()else .inr ()))
def kq (a0:ah)(a1:List Order)(S2:Nat)(ly:Unit):Prop:=letI q0:=a1.getD S2 default;letI q2:=i64.wrap ((S2:Int) - 1);letI q1:=(decide ((S2:Int) > 0))=true->(0<=q2/\q2< (a1.length:Int));letI q3:=decide (q0.dd > 1073741824);letI q4:=decide (q0.hour>=a0.hours);letI q5:=decide (q0.dd<1);letI q6:=decide (q0.index<0);letI q7:=decide (q0.hour<0);(a0.reaches.length<=aK->((q0.X2=true->(a0.u0.length<=aK->((((((q7||q4) ||q6) ||(decide (q0.index>=(a0.u0.length:Int)))) ||q5) ||q3)=false->q1)))/\(q0.X2=false->((((((q7||q4) ||q6) ||(decide (q0.index>=(a0.reaches.length:Int)))) ||q5) ||q3)=false->q1))))
def d8 (a0:ah)(a1:List Order):Int:=(bif((ap a0) !=0)then(ap a0)else(bif(decide ((a1.length:Int) > 4096))then 2 else(match aj (fm a0 a1) a1.length 0 ()with| .inl pq=>220| .inr ly=>0)))
def nJ (a0:ah)(a1:List Order):Prop:=(((ap a0) !=0)=false->(a1.length<=aK->((decide ((a1.length:Int) > 4096))=false->(a1.length<=aK->okI (fm a0 a1) (kq a0 a1) a1.length 0 ()))))
@[go_sem] def De:List SV->Option Con:=(pD .bh λa0=>(pR .order λa1=>(pE (.det (nJ a0 a1) (.v (.int .i64 (d8 a0 a1)))))))
theorem aif {p:Prop}(h:p:=by simp only[go_sem,gi,mj,if_true];all_goals exact cl):p:=h
theorem BL:B1 Tryz.prog 177 De:=by
 have hG:=mG (cn [.st .bh] kF (cp s4 (cp vX P0))) P0;refine fN hG Tryz.f177 [.o] (av λa0=>(bN λa1=>(am (λX=>?_))));dsimp only[an]at X;unfold nJ at X;refine⟨nbl rfl,(λid st=>bif Nat.beq id 0 then some (LCR (ρ:=Unit) (σ:=Unit) 1 [] [0] (λO U=>⟨[(1,.rs .order a1),(2,.ptr 0 0),(5,.fn 298 [] [.ep [.ls 1 [.fn 248 [] [],.fn 249 [] [],.fn 250 [] []]] 0]),(18,.rs .order a1),(19,.v (.int .i64 (a1.length:Int))),(20,.v (.int .i64 (O:Int)))],[.cells (cellsOf .bh a0)]⟩) (fm a0 a1) (kq a0 a1) a1.length () (a1.length<=aK) (λ_=>.ret) (λV=>⟨[(4,.v (.int .i64 220))],[.dead]⟩) st)else none),?_,?_⟩;unfold ae Tryz.f177;simp only[ak,true_and,and_true];refine bZ mixed aD hG kr (λ_=>rfl) (a1.length:Int) rfl fM (λhb0 O U W E hw hc=>⟨L0,ag _,?_⟩) (λhb0 U hc=>?_);unfold kq at E;try simp only[hw,alv]at E
 exact bG (jl [0]);exact bH (jl [0]);unfold ae Tryz.f177;try unfold d8
 exact aif
def c9 (d:ah)(l_:List Order):Int:=(bif(((d8 d l_) ==0)&&(decide ((i64.wrap ((d.reaches.length:Int)*d.hours)) > 1024)))then 2 else(d8 d l_))
def mH (d:ah)(l_:List Order):Prop:=(nJ d l_)
@[go_sem] def BN:List SV->Option Con:=(pD .bh λd=>(pR .order λl_=>(pE (.det (mH d l_) (.v (.int .i64 (c9 d l_)))))))
theorem Aw:B1 Tryz.prog 167 BN:=by
 have hG:=mG (cn [.st .bh,.sl .order] BL P0) P0;refine fN hG Tryz.f167 [.o] (av λd=>(bN λO=>(am (λE=>?_))));dsimp only[an]at E;unfold mH at E;refine⟨nbl rfl,L0,ag _,?_⟩;unfold ae Tryz.f167;try unfold c9
 exact zq2
def Ax (a:Order):Int:=bif a.X2 then 1 else 0
def olt (a b:Order):Prop:=a.hour<b.hour\/a.hour=b.hour/\(Ax a<Ax b\/Ax a=Ax b/\a.index<b.index)
theorem II {a b:Order}(h:aN a b<0):olt a b:=by
 unfold aN at h;unfold olt;have O:∀ x,s6 0 x=x.hour:=λ_=>rfl;have E:∀ x,s6 1 x=Ax x:=λ_=>rfl;have k2:∀ x,s6 2 x=x.index:=λ_=>rfl;simp only[aj,xK,alF,Nat.reduceAdd,O,E,k2,jv]at h;grind
theorem IJ {a b c:Order}(h1:olt a b)(h2:olt b c):olt a c:=by
 grind [olt]
theorem M6 (a b:Order):aN a b<0↔olt a b:=by
 refine⟨II,λh=>?_⟩;unfold aN;have O:∀ x,s6 0 x=x.hour:=λ_=>rfl;have E:∀ x,s6 1 x=Ax x:=λ_=>rfl;have k2:∀ x,s6 2 x=x.index:=λ_=>rfl;simp only[aj,xK,alF,Nat.reduceAdd,O,E,k2,jv];grind [olt]
open Go.Shelf Go.Sort in
theorem vF:SWO (ltOf aN):=by
 have e:∀ x y,ltOf aN x y=true↔olt x y:=λx y=>by unfold ltOf;rw[decide_eq_true_eq,M6]
 have e':∀ x y,ltOf aN x y=false↔¬olt x y:=λx y=>by grind
 refine⟨λx=>(e' x x).2 (by unfold olt;omega),λx y z h1 h2=>(e x z).2 (IJ ((e x y).1 h1) ((e y z).1 h2)),λx y z h1 h2=>(e' x z).2 ?_⟩;grind [olt]
end Go.Sx
end
