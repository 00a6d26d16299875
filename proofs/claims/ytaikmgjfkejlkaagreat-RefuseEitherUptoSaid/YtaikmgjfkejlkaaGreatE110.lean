/- Part of the proof that the law RefuseEither returns true and leaves its arguments as they were, for all arguments of bulk at most 1048576 (the Upto form). -/
import Derived.Test.YtaikmgjfkejlkaaGreatE109
import Derived.Test.YtaikmgjfkejlkaaGreatE108
import Derived.Test.YtaikmgjfkejlkaaGreatE107
set_option linter.all false
set_option maxHeartbeats 4000000
set_option maxRecDepth 100000
section
namespace Go.Sx
open Go.Proofs
open IntKind (i64 u64)
variable {n:Int}
theorem qp(E: -4611686018427387904<=n)(h1:n<=4611686018427387904):dp n=(n.natAbs:Int):=by
 unfold dp;by_cases h:n<0
 rw[decide_eq_true h];simp only[cond_true,IntKind.wrap,IntKind.bits,IntKind.signed];grind
 rw[decide_eq_false h];simp only[cond_false];grind [Rd]
def mkR (n d:Int):W1×Int:=
 if d=0 then({ n:=0,d:=0},120)else
 if 1073741824<n.natAbs / Nat.gcd n.natAbs d.natAbs\/1073741824<d.natAbs / Nat.gcd n.natAbs d.natAbs then({ n:=0,d:=0},2)else
 ({ n:=if(decide (n<0)) !=(decide (d<0))then -((n.natAbs / Nat.gcd n.natAbs d.natAbs:Nat):Int)else((n.natAbs / Nat.gcd n.natAbs d.natAbs:Nat):Int),d:=((d.natAbs / Nat.gcd n.natAbs d.natAbs:Nat):Int)},0)
variable {d:Int}
theorem YU(E: -4611686018427387904<=n)(h1:n<=4611686018427387904)(h2: -4611686018427387904<=d)(O:d<=4611686018427387904):nQ n d=mkR n d:=by
 unfold nQ mkR;by_cases hd:d=0
 subst hd;rfl;have e:(d==0)=false:=by grind
 rw[e,cond_false,if_neg hd,qp E h1,qp h2 O,ak1,ak1,FP (by omega)];have W:0<Nat.gcd n.natAbs d.natAbs:=anC _ (by omega);have V:Int.tdiv (n.natAbs:Int) ((Nat.gcd n.natAbs d.natAbs:Nat):Int)=((n.natAbs / Nat.gcd n.natAbs d.natAbs:Nat):Int):=by rfl
 have t2:Int.tdiv (d.natAbs:Int) ((Nat.gcd n.natAbs d.natAbs:Nat):Int)=((d.natAbs / Nat.gcd n.natAbs d.natAbs:Nat):Int):=by rfl
 have l1:n.natAbs / Nat.gcd n.natAbs d.natAbs<=n.natAbs:=ank _ _;have X:d.natAbs / Nat.gcd n.natAbs d.natAbs<=d.natAbs:=ank _ _;grind [Rd,aA]
theorem acR (n d:Int)(E: -4611686018427387904<=n)(h1:n<=4611686018427387904)(h2: -4611686018427387904<=d)(O:d<=4611686018427387904):rS n d:=λhd=>by
 have hd:d≠0:=by grind
 rw[qp E h1,qp h2 O,ak1,ak1,FP (by omega)];simp_all
def rv (a:W1):Rat:=(a.n:Rat) / (a.d:Rat)
def Nb {a b:Nat}(E:0<b):a / Nat.gcd a b*Nat.gcd a b=a/\b / Nat.gcd a b*Nat.gcd a b=b/\Nat.gcd (a / Nat.gcd a b) (b / Nat.gcd a b)=1:=
 ⟨aob (Nat.gcd_dvd_left _ _),aob (Nat.gcd_dvd_right _ _),Nat.gcd_div_gcd_div_gcd_of_pos_right E⟩
theorem qU(h:d≠0):(d:Rat)≠0:=λe=>h (by simp_all)
theorem acS(hd:1<=d){r:W1}(h:mkR n d=(r,0)):aoW r/\rv r*(d:Rat)=(n:Rat):=by
 unfold mkR at h;rw[if_neg (by omega)]at h;split at h
 simp at h;rename_i hb;obtain⟨rfl,-⟩:=Prod.mk.inj h;obtain⟨V,g2,g3⟩:=Nb (a:=n.natAbs) (b:=d.natAbs) (by omega);have E:¬d<0:=by omega
 have hx:(if(decide (n<0)) !=(decide (d<0))then -((n.natAbs / Nat.gcd n.natAbs d.natAbs:Nat):Int)else((n.natAbs / Nat.gcd n.natAbs d.natAbs:Nat):Int))*((Nat.gcd n.natAbs d.natAbs:Nat):Int)=n:=by
  rw[decide_eq_false E];by_cases hn:n<0
  rw[decide_eq_true hn,if_pos (by rfl),Int.neg_mul,<-Int.natCast_mul,V];omega;rw[decide_eq_false hn,if_neg (by simp),<-Int.natCast_mul,V];omega
 have Y:(if(decide (n<0)) !=(decide (d<0))then -((n.natAbs / Nat.gcd n.natAbs d.natAbs:Nat):Int)else((n.natAbs / Nat.gcd n.natAbs d.natAbs:Nat):Int)).natAbs=n.natAbs / Nat.gcd n.natAbs d.natAbs:=by
  grind
 have O:((d.natAbs / Nat.gcd n.natAbs d.natAbs:Nat):Int)*((Nat.gcd n.natAbs d.natAbs:Nat):Int)=d:=by omega
 generalize hX:(if(decide (n<0)) !=(decide (d<0))then -((n.natAbs / Nat.gcd n.natAbs d.natAbs:Nat):Int)else((n.natAbs / Nat.gcd n.natAbs d.natAbs:Nat):Int))=X at *;have hy0:1<=d.natAbs / Nat.gcd n.natAbs d.natAbs:=by
  grind
 refine⟨⟨by grind,by grind,by grind,by grind,by grind⟩,?_⟩;unfold rv;simp only;have W:(d:Rat)=(((d.natAbs / Nat.gcd n.natAbs d.natAbs:Nat):Int):Rat)*(((Nat.gcd n.natAbs d.natAbs:Nat):Int):Rat):=by exact_mod_cast O.symm
 have e2:(n:Rat)=(X:Rat)*(((Nat.gcd n.natAbs d.natAbs:Nat):Int):Rat):=by exact_mod_cast hx.symm
 rw[W,e2];have h1:(((d.natAbs / Nat.gcd n.natAbs d.natAbs:Nat):Int):Rat)≠0:=qU (by omega);grind
theorem Dx {a b:Int}(E: -1073741824<=a)(h1:a<=1073741824)(h2:1<=b)(O:b<=1073741824): -1152921504606846976<=a*b/\a*b<=1152921504606846976:=by
 have:(a*b).natAbs<=1073741824*1073741824:=by rw[an5];exact ant (by omega) (by omega)
 omega
theorem arS {a b:Int}(E:1<=a)(h1:1<=b):1<=a*b:=Int.mul_pos (by omega) (by omega)
variable {a:W1}
theorem Re{b:W1}(E:aoW a)(O:aoW b):gP a b=(a.n*b.d+b.n*a.d,a.d*b.d):=by
 have m1:=Dx E.n0 E.n O.d1 O.d;have V:=Dx O.n0 O.n E.d1 E.d;have h1:=E.d1;have h2:=E.d;have W:=Dx (a:=a.d) (by omega) h2 O.d1 O.d;grind [gP,aA]
theorem PD (a b:W1):g_ a b=if aV a=0/\aV b=0 then mkR (a.n*b.d+b.n*a.d) (a.d*b.d)else({ n:=0,d:=0},120):=by
 unfold g_ gD;by_cases h:aV a=0/\aV b=0
 rw[if_pos h,h.1,h.2,Re ((gE a).1 h.1) ((gE b).1 h.2)];have E:=(gE a).1 h.1;have O:=(gE b).1 h.2;have m1:=Dx E.n0 E.n O.d1 O.d;have V:=Dx O.n0 O.n E.d1 E.d;have h1:=E.d1;have h2:=E.d;have W:=Dx (a:=a.d) (by omega) h2 O.d1 O.d;simp only[bne_self_eq_false,amu,cond_false];grind [YU]
 grind
theorem ahx (a b:W1):tW a b:=λh=>by
 simp only[alC,bne_eq_false_iff_eq]at h;have E:=(gE a).1 h.1;have O:=(gE b).1 h.2;rw[Re E O];have m1:=Dx E.n0 E.n O.d1 O.d;have V:=Dx O.n0 O.n E.d1 E.d;have h1:=E.d1;have h2:=E.d;have W:=Dx (a:=a.d) (by omega) h2 O.d1 O.d;exact acR _ _ (by omega) (by omega) (by omega) (by omega)
theorem V0{b:W1}(E:aoW a)(O:aoW b):(rv a+rv b)*((a.d*b.d:Int):Rat)=((a.n*b.d+b.n*a.d:Int):Rat):=by
 have h1:=E.d1;have h2:=O.d1;have d1:(a.d:Rat)≠0:=qU (by omega);have V:(b.d:Rat)≠0:=qU (by omega);grind [rv]
theorem V3{b r:W1}(h:g_ a b=(r,0)):aoW a/\aoW b/\aoW r/\rv r=rv a+rv b:=by
 rw[PD]at h;split at h
 rename_i hc;have E:=(gE a).1 hc.1;have O:=(gE b).1 hc.2;have hd:=arS E.d1 O.d1;obtain⟨h1,h2⟩:=acS hd h;refine⟨E,O,h1,?_⟩;rw[<-V0 E O]at h2;have V:((a.d*b.d:Int):Rat)≠0:=qU (by omega);grind
 simp at h
theorem og {kk E:Tag}(l:List (kk.T×E.T))(x z:kk.T)(y:E.T):aq kk E (cH kk E l x y) z=if z=x then y else aq kk E l z:=by
 grind [aq,cH,uR]
theorem SQ {kk E:Tag}(l:List (kk.T×E.T))(x z:kk.T)(y:E.T):wL kk E (cH kk E l x y) z=(decide (z=x) ||wL kk E l z):=by
 unfold wL cH;rw[uR];grind
variable {α:Type}{k:Nat}
theorem ce(l:List α)(d:α)(h:k<l.length):l.take (k+1)=l.take k++[l.getD k d]:=by
 simp_all
theorem jA {ρ σ:Type}{step:Nat->σ->ρ⊕σ}(J:Nat->σ->Prop)(n i:Nat)(s:σ)(E:J i s)(h:∀ j s,i<=j->j<i+n->J j s->∃ s',step j s=.inr s'/\J (j+1) s'):∃ r,aj step n i s=.inr r/\J (i+n) r:=by
 induction n generalizing i s with
 |zero=>exact⟨s,rfl,E⟩
 |succ n O=>
  grind [aj]
theorem Nc {ρ σ:Type}{step:Nat->σ->ρ⊕σ}(S:Nat->σ)(n:Nat)(C:Nat->Prop)(hc:∀ k,k<n->(∀ j,j<k->C j)->(C k->step k (S k)=.inr (S (k+1)))/\(¬C k->∃ r,step k (S k)=.inl r)):
  ∀ m i,i+m=n->(∀ j,j<i->C j)->((∀ k,i<=k->k<n->C k)->aj step m i (S i)=.inr (S n))/\(¬ (∀ k,i<=k->k<n->C k)->∃ r,aj step m i (S i)=.inl r)
 |0,i,h,hi=>⟨λ_=>by rw[show i=n by omega];rfl,λhn=>absurd (λk h1 h2=>by omega) hn⟩
 |m+1,i,h,hi=>by
  obtain⟨h1,h2⟩:=hc i (by omega) hi;by_cases O:C i
  have E:∀ j,j<i+1->C j:=λj W=>by
   grind
  obtain⟨V,X⟩:=Nc S n C hc m (i+1) (by omega) E;simp only[aj,h1 O];grind
  grind [aj]
theorem vM (n lo hi:Int):aU n lo hi=true↔lo<=n/\n<=hi:=by
 unfold aU;simp
theorem zq(n:Int)(h:k<=4096):aU n 0 (i64.wrap ((k:Int) - 1))=true↔0<=n/\n< (k:Int):=by
 grind [vM,aA]
def BX:List Part->Rat
 | [] =>0|x::r=>rv x.share+BX r
theorem V4 (a b:List Part):BX (a++b)=BX a+BX b:=by
 induction a with
 |nil=>simp[BX,Rat.zero_add]|cons x r E=>grind [BX]
structure aqy (d:ah)(x:Part):Prop where
 f0:0<=x.gl
 f1:x.gl< (d.zs.length:Int)
 share:aoW x.share
 pos:0<x.share.n
structure apF (d:ah)(l:List Part):Prop where
 ar4:1<=l.length
 len:l.length<=16
 part:∀ x∈l,aqy d x
 apart:(l.map λx=>x.gl).Nodup
 sum:BX l=1
variable {d:ah}
theorem V5{l:List Part}(hf:d.zs.length<=600)(h:iT d l=true):apF d l:=by
 unfold iT at h;cases hr:aj (fX d l) l.length 0 (0,1,[])with
 |inl x=>grind
 |inr s=>
  rw[hr]at h;have Y:=uI (λk s=>rv { n:=s.1,d:=s.2.1} =BX (l.take k)/\(∀ x∈l.take k,aqy d x)/\((l.take k).map λx=>x.gl).Nodup/\∀ f:Int,aq .int .bool s.2.2 f=decide (f∈(l.take k).map λx=>x.gl)) l.length 0 (0,1,([]:List (Int×Bool))) ⟨by show((0:Int):Rat) / ((1:Int):Rat)=0;grind,by simp,by simp,λf=>by rfl⟩ (λj s _ hj ⟨W,V,X,j4⟩ s' E=>by
   rw[ak8]at hj;unfold fX at E;cases hc:(((!(aU ((l.getD j (default:Part)).gl) 0 (i64.wrap ((d.zs.length:Int) - 1)))) ||(aq .int .bool s.2.2 ((l.getD j (default:Part)).gl))) ||(decide ((l.getD j (default:Part)).share.n<=0)))with
   |true=>grind
   |false=>
    rw[hc]at E;simp only[alC,amz,decide_eq_false_iff_not]at hc;obtain⟨⟨c1,c2⟩,c3⟩:=hc;rw[zq _ (by omega)]at c1;cases O:((g_ ({ n:=s.1,d:=s.2.1}:W1) ((l.getD j (default:Part)).share)).2 !=0)with
    |true=>grind
    |false=>
     rw[O]at E;simp only[cond_false,alP]at E;subst E;have O:(g_ ({ n:=s.1,d:=s.2.1}:W1) ((l.getD j (default:Part)).share)).2=0:=by grind
     obtain⟨a1,a2,a3,a4⟩:=V3 (r:=(g_ ({ n:=s.1,d:=s.2.1}:W1) ((l.getD j (default:Part)).share)).1) (by rw[<-O]);rw[ce l default hj];rw[j4,decide_eq_false_iff_not]at c2;refine⟨?_,λx hx=>?_,?_,λf=>?_⟩;rw[V4,<-W];simp_all [BX,Rat.add_zero];rcases alu.1 hx with hx|hx;exact V x hx;simp only[alz]at hx;subst hx;exact⟨c1.1,c1.2,a2,by omega⟩;grind
     rw[og,amo];grind) s hr
  rw[ak8,amw]at Y;obtain⟨W,V,X,_⟩:=Y;simp only[akZ,beq_iff_eq]at h;obtain⟨h1,h2,h3⟩:=h;rw[vM]at h1;refine⟨by omega,by omega,V,X,?_⟩;rw[<-W,h2,h3];show((1:Int):Rat) / ((1:Int):Rat)=1;grind
def YV (d:ah)(l:List Part):mC d l:=λ_=>g8 _ _ _ λj s _ _ _ _=>ahx _ _
theorem acT (d:ah)(m:List (Int×bn))(x:bn):nJ d m x:=λ_ E hr=>⟨λh=>by
  grind [vM,aA,aN],λ_ _ _=>YV _ _⟩
theorem uV (d:ah)(l:List bn):jZ d l:=λ_ _ _ O=>g8 _ _ _ λj s _ E=>⟨λh=>by
  rw[decide_eq_true_eq]at h;grind [aA],λ_=>acT _ _ _⟩
def uW (l:List bn):List (Int×bn):=l.foldl (λm x=>cH .int .B1 m x.no x) []
theorem xY (l:List bn)(x:bn):uW (l++[x])=cH .int .B1 (uW l) x.no x:=by
 grind [uW]
def Asc (l:List bn):Prop:=l.Pairwise λx y=>x.no<y.no
def Chk (d:ah):List bn->List bn->Prop
 |_,[] =>True|b,x::r=>(∀ y∈b,y.no<x.no)/\dB d (uW b) x=true/\Chk d (b++[x]) r
theorem Chk.asc:∀ {r b:List bn},Asc b->Chk d b r->Asc (b++r)
 | [],b,h,_=>by simpa using h
 |x::r,b,h,⟨h1,_,E⟩ =>by
  have:Asc (b++[x]):=aln.2 ⟨h,alN _ _,λy hy z O=>by grind⟩;simpa using Chk.asc this E
theorem qq (l:List bn):aT l=false↔∀ x∈l,x.parts.length<=16:=by
 unfold aT ed;have key:∀ l:List bn,(match cB (ρ:=Unit) (λ(x:bn) (_:Unit) =>bif fl x then .inl ()else .inr ()) l ()with| .inl _=>False| .inr _=>True)↔∀ x∈l,x.parts.length<=16:=λl=>by
  induction l with
  |nil=>simp[cB]
  |cons x r E=>
   simp only[cB];unfold fl at E |-;grind
 have V:∀ (n i:Nat),i+n=l.length->((∃ j,i<=j/\j<l.length/\fl (l.getD j default)=true)/\(∃ q:Nat,aj (cU l) n i ()=.inl (q:Int)))\/((∀ j,i<=j->j<l.length->fl (l.getD j default)=false)/\aj (cU l) n i ()=.inr ()):=λn=>by
  induction n with
  |zero=>exact λi h=>.inr ⟨λj h1 h2=>by omega,rfl⟩
  |succ n E=>
   intro i h;simp only[aj,cU];grind
 rcases V l.length 0 (by omega)with⟨⟨j,_,h2,O⟩,q,W⟩ | ⟨h1,h2⟩;rw[W];simp only[decide_eq_false_iff_not];refine⟨λh=>by omega,λh=>?_⟩;have:=h (l.getD j default) (by grind);unfold fl at O;grind
 rw[h2];simp only;refine⟨λ_ x X=>?_,λ_=>by decide⟩;obtain⟨j,Y,rfl⟩:=alE.1 X;grind [fl]
theorem SR (d:ah)(l:List bn)(hl:l.length<=4096):(∀ k,k<l.length->((0<k->(l.getD (k - 1) default).no< (l.getD k default).no)/\dB d (uW (l.take k)) (l.getD k default)=true))↔Chk d [] l:=by
 have key:∀ (r b:List bn),l=b++r->Asc b->((∀ k,b.length<=k->k<l.length->((0<k->(l.getD (k - 1) default).no< (l.getD k default).no)/\dB d (uW (l.take k)) (l.getD k default)=true))↔Chk d b r):=λr=>by
  induction r with
  |nil=>exact λb h _=>⟨λ_=>trivial,λ_ k h1 h2=>by grind⟩
  |cons x r ih=>
   intro b h W;have X:b.length<l.length:=by rw[h];simp
   have g:l.getD b.length default=x:=by grind
   have t:l.take b.length=b:=by rw[h];simp
   have E:(∀ y∈b,y.no<x.no)↔(0<b.length->(l.getD (b.length - 1) default).no<x.no):=by
    rcases amN b with rfl| ⟨Y,y,rfl⟩;simp;rw[amO]at h W X g t |-;have g2:l.getD ((Y++[y]).length - 1) default=y:=by simp_all
    rw[g2];refine⟨λO _=>O y (by simp),λO z hz=>?_⟩;have hy:=O (by simp);rcases alu.1 hz with hz|hz;exact Int.lt_trans ((aln.1 W).2.2 z hz y (by simp)) hy;grind
   constructor
   intro O;have h1:=O b.length (ak2 _) X;rw[g,t]at h1;have h2:=E.2 h1.1;have V:Asc (b++[x]):=aln.2 ⟨W,alN _ _,λy hy z hz=>by grind⟩;exact⟨h2,h1.2,(ih (b++[x]) (by rw[h];simp) V).1 λk hk1 hk2=>O k (by grind) hk2⟩;rintro⟨h2,h3,h4⟩ k hk1 hk2;have V:Asc (b++[x]):=aln.2 ⟨W,alN _ _,λy hy z hz=>by grind⟩;rcases aoc hk1 with rfl|hk1 <;>grind
 have:=key l [] rfl List.Pairwise.nil;grind
theorem xZ (d:ah)(l:List bn):a_ d l=0↔aw d=0/\l.length<=512/\(∀ x∈l,x.parts.length<=16)/\Chk d [] l:=by
 unfold a_;cases h1:(aw d !=0)with
 |true=>
  grind
 |false=>
  have h1:aw d=0:=by grind
  simp only[cond_false,h1,true_and];by_cases O:l.length<=512
  have:decide ((l.length:Int) > 512)=false:=by grind
  rw[this,aml];cases h2:aT l with
  |true=>
   simp only[cond_true,O,true_and];refine⟨(λh=>by cases h),λh=>?_⟩;have:=(qq l).2 h.1;grind
  |false=>
   have Y:=(qq l).1 h2;simp only[cond_false,O,true_and,and_iff_right Y];rw[<-SR d l (by omega)];obtain⟨W,g2⟩:=Nc (step:=eM d l) (λk=>uW (l.take k)) l.length (λk=>(0<k->(l.getD (k - 1) default).no< (l.getD k default).no)/\dB d (uW (l.take k)) (l.getD k default)=true) (λk hk _=>by
    unfold eM;have V:(decide ((k:Int) > 0)&&decide ((l.getD k (default:bn)).no<=(l.getD (Int.toNat (i64.wrap ((k:Int) - 1))) (default:bn)).no))= !decide (0<k->(l.getD (k - 1) default).no< (l.getD k default).no):=by
     by_cases X:0<k
     rw[od (by omega) X,ak1];by_cases h4:(l.getD (k - 1) default).no< (l.getD k default).no <;>grind
     grind
    rw[V];constructor
    rintro⟨a,b⟩;rw[decide_eq_true a,b];simp only[alj,amu,cond_false];grind [ce,xY]
    intro hn;refine⟨(),?_⟩;have:(!decide (0<k->(l.getD (k - 1) default).no< (l.getD k default).no) || !dB d (uW (l.take k)) (l.getD k default))=true:=by
     grind
    grind) l.length 0 (by omega) (λj hj=>by omega)
   by_cases E:∀ k,0<=k->k<l.length->(0<k->(l.getD (k - 1) default).no< (l.getD k default).no)/\dB d (uW (l.take k)) (l.getD k default)=true
   have e:=W E;rw[ana]at e;have e':aj (eM d l) l.length 0 []=.inr (uW (l.take l.length)):=e;grind
   obtain⟨r,e⟩:=g2 E;rw[ana]at e;have e':aj (eM d l) l.length 0 []=.inl r:=e;grind
  grind
theorem yw {ρ σ:Type}{step:Nat->σ->ρ⊕σ}{p:Nat->σ->Prop}(m:σ->Nat)(J:σ->Prop)(Q:ρ->Prop)(h:∀ k s,J s->p k s/\((∃ r,step k s=.inl r/\Q r)\/∃ s',step k s=.inr s'/\m s'<m s/\J s')):∀ (n i:Nat) (s:σ),J s->m s<n->okI step p n i s/\∃ r,aj step n i s=.inl r/\Q r
 |0,_,_,_,hm=>absurd hm (Nat.not_lt_zero _)
 |n+1,i,s,hJ,hm=>by
  obtain⟨h1,h2⟩:=h i s hJ;rcases h2 with⟨r,e,V⟩ | ⟨s',e,hlt,E⟩;refine⟨⟨h1,λO e'=>?_⟩,r,?_,V⟩;grind
  grind [aj]
  obtain⟨X,W⟩:=yw m J Q h n (i+1) s' E (by omega);refine⟨⟨h1,λO e'=>?_⟩,?_⟩;grind
  grind [aj]
theorem Nd {ρ σ:Type}{x:ρ⊕σ}{Q:ρ->Prop}(h:∃ r,x=.inl r/\Q r):∀ z,x≠ .inr z:=λz e=>by
 grind
theorem Rf (a b:bn):decide (dR a b<0)=decide (a.at_<b.at_):=by
 grind [dR,jy]
theorem x5(A:List α)(x d:α)(T:List α){i:Nat}(h:i=A.length):(A++x::T).getD i d=x:=by
 grind
theorem KJ(A:List α)(x y:α)(T:List α){i:Nat}(h:i=A.length):(A++x::T).set i y=A++y::T:=by
 subst h;simp
def aov (l l':List bn):Prop:= ∀ t:Int,l.filter (λx=>x.at_==t)=l'.filter λx=>x.at_==t
theorem aov.refl (l:List bn):aov l l:=λ_=>rfl
variable {a c:List bn}
theorem aov.trans{b:List bn}(h1:aov a b)(h2:aov b c):aov a c:=λt=>(h1 t).trans (h2 t)
theorem aov.app{b d:List bn}(h1:aov a b)(h2:aov c d):aov (a++c) (b++d):=λt=>by rw[anu,anu,h1 t,h2 t]
theorem aov.swap{b:List bn}(h:∀ x∈a,∀ y∈b,x.at_≠y.at_):aov (a++b) (b++a):=λt=>by
 grind [List.filter_eq_nil_iff]
def Srt (l:List bn):Prop:=l.Pairwise λx y=>x.at_<=y.at_
theorem SS (A S R:List bn)(x:bn)(X:List bn)(hl:(A++S++x::R).length<2 ^ 62)(W:(A++S++x::R).length=X.length):
  okI (bA A.length X) (bN A.length X) (X.length+1) 0 (A++S++x::R,((A.length+S.length:Nat):Int))/\
  ∃ r,aj (bA A.length X) (X.length+1) 0 (A++S++x::R,((A.length+S.length:Nat):Int))=.inl r/\
   ∃ V O,S=V++O/\r=A++V++x::(O++R)/\(∀ y∈O,x.at_<y.at_)/\∀ y,V.getLast? =some y->y.at_<=x.at_:=by
 refine yw (λs:List bn×Int=>(s.2 - (A.length:Int)).toNat) (λs:List bn×Int=>∃ V O,S=V++O/\s=(A++V++x::(O++R),((A.length+V.length:Nat):Int))/\∀ y∈O,x.at_<y.at_) (λr=>∃ V O,S=V++O/\r=A++V++x::(O++R)/\(∀ y∈O,x.at_<y.at_)/\∀ y,V.getLast? =some y->y.at_<=x.at_) ?_ _ _ _ ⟨S,[],by simp,by simp,by simp⟩ (by grind);rintro k s ⟨V,O,hS,rfl,hlt⟩;simp only[ak9,ak5]at hl W;have Y:S.length=V.length+O.length:=by grind
 rcases amN V with rfl| ⟨E,y,rfl⟩;unfold bN bA;have e:decide (((A.length+([]:List bn).length:Nat):Int) > A.length)=false:=by simp
 refine⟨⟨λh=>?_,λh=>?_,λh=>?_⟩,.inl ⟨_,?_,[],O,hS,rfl,hlt,λy hy=>by simp at hy⟩⟩ <;>grind;simp only[amO,ak9,ak5,alo]at Y |-;have w:i64.wrap (((A.length+(E.length+(0+1)):Nat):Int) - 1)=((A.length+E.length:Nat):Int):=by grind [aA]
 have e:decide (((A.length+(E.length+(0+1)):Nat):Int) > A.length)=true:=by grind
 have g1:(A++(E++[y])++x::(O++R)).getD (A.length+(E.length+(0+1))) default=x:=x5 _ _ _ _ (by simp);have hr:A++(E++[y])++x::(O++R)=(A++E)++y::x::(O++R):=by simp
 have g2:(A++(E++[y])++x::(O++R)).getD (A.length+E.length) default=y:=by grind
 have hL:(A++(E++[y])++x::(O++R)).length=A.length+(E.length+1)+(O.length+R.length+1):=by simp;omega
 unfold bN bA;simp only[w,ak1,g1,g2,Rf,e,amg,am4,hL];refine⟨⟨λ_=>by omega,λ_=>by omega,λ_=>by omega⟩,?_⟩;by_cases h:x.at_<y.at_
 right;rw[decide_eq_true h,cond_true];refine⟨_,rfl,by simp only;omega,E,y::O,by rw[hS];simp,?_,λz hz=>?_⟩ <;>grind;left;rw[decide_eq_false h,cond_false];exact⟨_,rfl,E++[y],O,hS.trans (by simp),by simp,hlt,λz hz=>by grind⟩
variable {l:List bn}
theorem V6{c:Int}(h:Srt l)(E:∀ y,l.getLast? =some y->y.at_<=c):∀ z∈l,z.at_<=c:=λz hz=>by
 rcases amN l with rfl| ⟨l',y,rfl⟩;cases hz;rw[amO]at h hz E;have hy:=E y (by simp);unfold Srt at h;rw[aln]at h;rcases alu.1 hz with hz|hz;exact anT (h.2.2 z hz y (by simp)) hy;grind
variable {E:List bn}{x:bn}
theorem YW{O:List bn}(h:Srt (O++E))(h2:∀ y∈E,x.at_<y.at_)(h1:∀ z∈O,z.at_<=x.at_):Srt (O++x::E):=by
 unfold Srt at h |-;rw[aln]at h |-;refine⟨h.1,alL.2 ⟨λy hy=>Int.le_of_lt (h2 y hy),h.2.1⟩,λz V y hy=>?_⟩;grind
theorem I2 (A M R:List bn)(hl:(A++M++R).length<2 ^ 62):
  bb A.length ((A.length+M.length:Nat):Int) (A++M++R)/\
  ∃ E,aM A.length ((A.length+M.length:Nat):Int) (A++M++R)=A++E++R/\aov M E/\Srt E:=by
 have hlen:(A++M++R).length=A.length+M.length+R.length:=by grind
 have w0:i64.wrap ((A.length:Int)+1)=((A.length+1:Nat):Int):=by grind [aA]
 have key:okI (ba A.length ((A.length+M.length:Nat):Int) (A++M++R)) (bp A.length ((A.length+M.length:Nat):Int) (A++M++R)) ((A++M++R).length+1) 0 (A++M++R,((A.length+1:Nat):Int))/\
   ∃ r,aj (ba A.length ((A.length+M.length:Nat):Int) (A++M++R)) ((A++M++R).length+1) 0 (A++M++R,((A.length+1:Nat):Int))=.inl r/\∃ E,r=A++E++R/\aov M E/\Srt E:=by
  refine yw (λs:List bn×Int=>(((A.length+M.length:Nat):Int) - s.2).toNat) (λs:List bn×Int=>(M=[]/\s=(A++M++R,((A.length+1:Nat):Int)))\/∃ S T,s=(A++S++(T++R),((A.length+S.length:Nat):Int))/\aov M (S++T)/\Srt S/\M.length=S.length+T.length) (λr=>∃ E,r=A++E++R/\aov M E/\Srt E) ?_ _ _ _ ?_ (by omega)
  ·rintro k s (⟨rfl,rfl⟩ | ⟨S,T,rfl,hF,hS,W⟩);unfold bp ba;have e:decide (((A.length+1:Nat):Int) < ((A.length+([]:List bn).length:Nat):Int))=false:=by grind
   refine⟨λh=>?_,.inl ⟨_,?_,[],rfl,aov.refl _,List.Pairwise.nil⟩⟩ <;>grind
   ·cases T with
    |nil=>
     simp_all [bp,ba]
    |cons x T=>
     simp only[ak5]at W;have e:decide (((A.length+S.length:Nat):Int) < ((A.length+M.length:Nat):Int))=true:=by grind
     have Y:(A++S++x::(T++R)).length=(A++M++R).length:=by simp;omega
     obtain⟨i1,r,i2,V,O,rfl,rfl,i3,i4⟩:=SS A S (T++R) x (A++M++R) (by omega) Y;have X:Srt V:=(aln.1 hS).1;have w:i64.wrap (((A.length+(V++O).length:Nat):Int)+1)=((A.length+(V++x::O).length:Nat):Int):=by
      grind [aA]
     unfold bp ba;refine⟨λ_=>⟨i1,Nd (Q:=λ_=>True) ⟨_,i2,trivial⟩⟩,.inr ⟨_,?_,?_,.inr ⟨V++x::O,T,rfl,?_,YW hS i3 (V6 X i4),by grind⟩⟩⟩;grind
     grind
     ·refine hF.trans ?_;have h0:aov (O++[x]) ([x]++O):=aov.swap λy hy z hz=>by grind
      have:=((aov.refl V).app h0).app (aov.refl T);grind
  cases M with
  |nil=>grind
  |cons x T=>exact .inr ⟨[x],T,by simp,by simpa using aov.refl _,alN _ _,by simp;omega⟩
 grind [bb,aM]
theorem KK (A X B Y C:List bn)(hxy:X.length=Y.length)(hl:(A++X++B++Y++C).length<2 ^ 62):
  be A.length ((A.length+X.length+B.length:Nat):Int) X.length (A++X++B++Y++C)/\
  br A.length ((A.length+X.length+B.length:Nat):Int) X.length (A++X++B++Y++C)=A++Y++B++X++C:=by
 have hlen:(A++X++B++Y++C).length=A.length+X.length+B.length+Y.length+C.length:=by grind
 have step:∀ j s,0<=j->j<0+Int.toNat (X.length:Int)->(∃ O V E W,X=O++V/\Y=E++W/\O.length=j/\E.length=j/\s=A++E++V++B++O++W++C)->
   cV A.length ((A.length+X.length+B.length:Nat):Int) X.length j s/\∀ s',cr A.length ((A.length+X.length+B.length:Nat):Int) X.length j s=.inr s'->∃ O V E W,X=O++V/\Y=E++W/\O.length=j+1/\E.length=j+1/\s'=A++E++V++B++O++W++C:=by
  rintro j s _ hj ⟨O,V,E,W,hX,hY,h1,h2,rfl⟩;rw[ak1,ak8]at hj;have l1:X.length=O.length+V.length:=by grind
  have l2:Y.length=E.length+W.length:=by grind
  match V,W,l1,l2,hX,hY with
  | [],_,l1,_,_,_=>grind|_::_,[],_,l2,_,_=>grind
  |x::V,y::W,l1,l2,hX,hY=>
   simp only[ak5]at l1 l2;have w1:i64.wrap ((A.length:Int)+(j:Int))=((A.length+j:Nat):Int):=by grind [aA]
   have w2:i64.wrap (((A.length+X.length+B.length:Nat):Int)+(j:Int))=((A.length+X.length+B.length+j:Nat):Int):=by grind [aA]
   have r1:A++E++x::V++B++O++y::W++C=(A++E)++x::(V++B++O++y::(W++C)):=by simp
   have r2:A++E++x::V++B++O++y::W++C=(A++E++x::V++B++O)++y::(W++C):=by simp
   have g1:(A++E++x::V++B++O++y::W++C).getD (A.length+j) default=x:=by rw[r1];exact x5 _ _ _ _ (by simp;omega)
   have g2:(A++E++x::V++B++O++y::W++C).getD (A.length+X.length+B.length+j) default=y:=by rw[r2];exact x5 _ _ _ _ (by simp;omega)
   have hL:(A++E++x::V++B++O++y::W++C).length=A.length+X.length+B.length+Y.length+C.length:=by simp;omega
   unfold cV cr;simp only[w1,w2,ak1,g1,g2,am4,hL];refine⟨by omega,λs' e=>?_⟩;cases e;refine⟨O++[x],V,E++[y],W,by rw[hX];simp,by rw[hY];simp,by simp[h1],by simp[h2],?_⟩;rw[r1,KJ (A++E) x y _ (by simp;omega)];have r3:A++E++y::(V++B++O++y::(W++C))=(A++E++y::V++B++O)++y::(W++C):=by simp
   grind [KJ]
 have h0:∃ O V E W,X=O++V/\Y=E++W/\O.length=0/\E.length=0/\A++X++B++Y++C=A++E++V++B++O++W++C:=⟨[],X,[],Y,rfl,rfl,rfl,rfl,by simp⟩;have hJ:=uI (λk s=>∃ O V E W,X=O++V/\Y=E++W/\O.length=k/\E.length=k/\s=A++E++V++B++O++W++C) (Int.toNat (X.length:Int)) 0 _ h0 (λj s a b c=>(step j s a b c).2);unfold be br;refine⟨⟨by omega,jS (λk s=>∃ O V E W,X=O++V/\Y=E++W/\O.length=k/\E.length=k/\s=A++E++V++B++O++W++C) _ 0 _ h0 step⟩,?_⟩;cases hr:aj (cr A.length ((A.length+X.length+B.length:Nat):Int) X.length) (Int.toNat (X.length:Int)) 0 (A++X++B++Y++C)with
 |inl x=>exact x.elim
 |inr r=>
  obtain⟨O,V,E,W,rfl,rfl,h1,h2,rfl⟩:=hJ r hr;rw[ak1,ak8]at h1 h2;have e1:V=[]:=alk (by grind);simp_all
theorem SU (A U V C:List bn)(hU:U≠[])(hV:V≠[])(hl:(A++U++V++C).length<2 ^ 62):
  bR A.length ((A.length+U.length:Nat):Int) ((A.length+U.length+V.length:Nat):Int) (A++U++V++C)/\
  aK A.length ((A.length+U.length:Nat):Int) ((A.length+U.length+V.length:Nat):Int) (A++U++V++C)=A++V++U++C:=by
 have hlen:(A++U++V++C).length=A.length+U.length+V.length+C.length:=by grind
 have w1:i64.wrap (((A.length+U.length:Nat):Int) - (A.length:Int))=(U.length:Int):=by grind [aA]
 have w2:i64.wrap (((A.length+U.length+V.length:Nat):Int) - ((A.length+U.length:Nat):Int))=(V.length:Int):=by grind [aA]
 have hm:∀ {M:Nat},M=A.length+U.length->∀ {F:List bn},F=A++V++U++C->okI (cW A.length (M:Int) ((A.length+U.length+V.length:Nat):Int)) (dq A.length (M:Int) ((A.length+U.length+V.length:Nat):Int)) (Int.toNat (((A.length+U.length+V.length:Nat):Int) - (A.length:Int))+1) 0 (A++U++V++C,(U.length:Int),(V.length:Int))/\
   ∃ r,aj (cW A.length (M:Int) ((A.length+U.length+V.length:Nat):Int)) (Int.toNat (((A.length+U.length+V.length:Nat):Int) - (A.length:Int))+1) 0 (A++U++V++C,(U.length:Int),(V.length:Int))=.inl r/\∃ W O E X,r=((O.length:Int),W++O++E++X)/\O.length=E.length/\W.length+O.length=M/\W++E++O++X=F:=by
  intro M hM F hF;refine yw (λs:List bn×Int×Int=>(s.2.1+s.2.2).toNat) (λs:List bn×Int×Int=>∃ W O E X,s=(W++O++E++X,(O.length:Int),(E.length:Int))/\O≠[]/\E≠[]/\W.length+O.length=M/\W++E++O++X=F) _ ?_ _ _ _ ⟨A,U,V,C,rfl,hU,hV,hM.symm,hF.symm⟩ (by grind);rintro k s ⟨W,O,E,X,rfl,hU1,hV1,hM1,hF1⟩;have hFl:W.length+E.length+O.length+X.length<2 ^ 62:=by
   grind [List.length_append]
  have pU:0<O.length:=alO.2 hU1;have pV:0<E.length:=alO.2 hV1;unfold dq cW;have v1:i64.wrap ((M:Int) - (O.length:Int))=(W.length:Int):=by grind [aA]
  by_cases he:O.length=E.length
  grind
  have b1:(((O.length:Int)) !=((E.length:Int)))=true:=by grind
  by_cases hgt:E.length<O.length
  have b2:decide (((O.length:Int)) > ((E.length:Int)))=true:=by grind
  have v2:i64.wrap ((O.length:Int) - (E.length:Int))=((O.drop E.length).length:Int):=by grind [aA]
  have hsp:O=O.take E.length++O.drop E.length:=(alU _ _).symm;have ht:(O.take E.length).length=E.length:=by grind
  have hd:(O.drop E.length).length=O.length - E.length:=amd;have Y:=KK W (O.take E.length) (O.drop E.length) E X ht (by grind);have e1:W++O.take E.length++O.drop E.length++E++X=W++O++E++X:=by grind
  have e2:((W.length+(O.take E.length).length+(O.drop E.length).length:Nat):Int)=(M:Int):=by omega
  rw[e1,e2,ht]at Y;simp only[b1,b2,v1,v2,cond_true];refine⟨λ_=>⟨λ_=>Y.1,λh=>by cases h⟩,.inr ⟨_,rfl,by simp only[hd];omega,W++E,O.drop E.length,O.take E.length,X,?_,λh=>?_,λh=>?_,?_,?_⟩⟩ <;>grind;have b2:decide (((O.length:Int)) > ((E.length:Int)))=false:=by grind
  have v2:i64.wrap ((E.length:Int) - (O.length:Int))=((E.take (E.length - O.length)).length:Int):=by grind [aA]
  have v3:i64.wrap (i64.wrap ((M:Int)+(E.length:Int)) - (O.length:Int))=((W.length+O.length+(E.take (E.length - O.length)).length:Nat):Int):=by
   grind [aA]
  have ht:(E.take (E.length - O.length)).length=E.length - O.length:=by grind
  have hd:(E.drop (E.length - O.length)).length=O.length:=by grind
  have Y:=KK W O (E.take (E.length - O.length)) (E.drop (E.length - O.length)) X hd.symm (by grind);have e1:W++O++E.take (E.length - O.length)++E.drop (E.length - O.length)++X=W++O++E++X:=by simp_all
  rw[e1]at Y;simp only[b1,b2,v1,v2,v3,cond_true,cond_false];refine⟨λ_=>⟨(λh=>by cases h),λ_=>Y.1⟩,.inr ⟨_,rfl,by grind,W,E.drop (E.length - O.length),E.take (E.length - O.length),O++X,?_,λh=>?_,λh=>?_,by omega,?_⟩⟩;grind
  grind
  grind
  simp_all
 obtain⟨k1,r,k2,W,O,E,X,rfl,q1,q2,q3⟩:=hm rfl rfl;have hFl:W.length+E.length+O.length+X.length<2 ^ 62:=by
  grind [List.length_append]
 have v1:i64.wrap (((A.length+U.length:Nat):Int) - (O.length:Int))=(W.length:Int):=by grind [aA]
 have Y:=KK W O [] E X q1 (by grind);grind [bR,aK]
theorem half {i j:Int}(V:0<=i)(h1:i<=j)(h2:j<=2305843009213693952):i64.wrap (mu .u64 (u64.wrap (i64.wrap (i+j))) 1)=(i+j) / 2:=by
 have O:i64.wrap (i+j)=i+j:=aA (by omega) (by omega);have e:u64.wrap (i+j)=i+j:=by
  grind [IntKind.wrap,IntKind.bits]
 have E:mu .u64 (i+j) 1=(i+j) / 2:=by
  show Int.fdiv (i+j) ((2:Int) ^ min (Int.toNat 1) u64.bits)=_;have:(2:Int) ^ min (Int.toNat 1) u64.bits=2:=by decide
  grind
 grind [aA]
theorem Rg {i j:Nat}(h1:i<=j)(h2:j<2 ^ 61):i64.wrap (mu .u64 (u64.wrap (i64.wrap ((i:Int)+(j:Int)))) 1)=(((i+j) / 2:Nat):Int):=by
 rw[half (by omega) (by omega) (by omega)];omega
theorem PE {step:Nat->Int×Int->Int⊕(Int×Int)}{p:Nat->Int×Int->Prop}(P:Nat->Bool)(lo hi:Nat)(X:lo<=hi)(V:∀ x y,lo<=x->x<=y->y<hi->P y=true->P x=true)
  (hstep:∀ k (i j:Nat),lo<=i->i<j->j<=hi->p k ((i:Int),(j:Int))/\step k ((i:Int),(j:Int))=bif P ((i+j) / 2)then .inr ((((i+j) / 2+1:Nat):Int),(j:Int))else .inr ((i:Int),(((i+j) / 2:Nat):Int)))
  (hstop:∀ k (i:Nat),p k ((i:Int),(i:Int))/\step k ((i:Int),(i:Int))=.inl (i:Int)) (n k:Nat) (hn:hi - lo<n):
  okI step p n k ((lo:Int),(hi:Int))/\∃ r,aj step n k ((lo:Int),(hi:Int))=.inl r/\∃ q:Nat,r=(q:Int)/\lo<=q/\q<=hi/\(∀ x,lo<=x->x<q->P x=true)/\∀ x,q<=x->x<hi->P x=false:=by
 refine yw (λs:Int×Int=>(s.2 - s.1).toNat) (λs:Int×Int=>∃ i j:Nat,s=((i:Int),(j:Int))/\lo<=i/\i<=j/\j<=hi/\(∀ x,lo<=x->x<i->P x=true)/\∀ x,j<=x->x<hi->P x=false) _ ?_ n k _ ⟨lo,hi,rfl,ak2 _,X,ak2 _,λx h1 h2=>by omega,λx h1 h2=>by omega⟩ (by omega);rintro k s ⟨i,j,rfl,h1,h2,h3,h4,h5⟩;by_cases h:i<j
 obtain⟨q1,E⟩:=hstep k i j h1 h h3;refine⟨q1,.inr ?_⟩;have W:i<=(i+j) / 2:=by omega
 have hm2:(i+j) / 2<j:=by omega
 cases hP:P ((i+j) / 2)with
 |true=>
  rw[hP]at E;refine⟨_,E,by omega,(i+j) / 2+1,j,rfl,by omega,by omega,h3,λx O Y=>?_,h5⟩;grind
 |false=>
  rw[hP]at E;refine⟨_,E,by omega,i,(i+j) / 2,rfl,h1,W,by omega,h4,λx O Y=>?_⟩;grind
 grind
theorem V7 (A V C:List bn)(x:bn)(W:List bn)(hl:(A++x::V++C).length<2 ^ 62)(Y:(A++x::V++C).length=W.length):
  okI (vE W ((A.length+1+V.length:Nat):Int)) (uO W ((A.length+1+V.length:Nat):Int)) (W.length+1) 0 (A++x::V++C,(A.length:Int))/\
  ∃ r,aj (vE W ((A.length+1+V.length:Nat):Int)) (W.length+1) 0 (A++x::V++C,(A.length:Int))=.inl r/\r=A++V++x::C:=by
 have hlen:(A++x::V++C).length=A.length+V.length+C.length+1:=by simp;omega
 have w0:i64.wrap (((A.length+1+V.length:Nat):Int) - 1)=((A.length+V.length:Nat):Int):=by grind [aA]
 refine yw (λs:List bn×Int=>(((A.length+V.length:Nat):Int) - s.2).toNat) (λs:List bn×Int=>∃ E O,V=E++O/\s=(A++E++x::(O++C),((A.length+E.length:Nat):Int))) (λr=>r=A++V++x::C) ?_ _ _ _ ⟨[],V,rfl,by simp⟩ (by omega);rintro k s ⟨E,O,hV,rfl⟩;have X:V.length=E.length+O.length:=by grind
 unfold uO vE;rw[w0];cases O with
 |nil=>
  grind
 |cons y O=>
  simp only[ak5]at X;have e:decide (((A.length+E.length:Nat):Int) < ((A.length+V.length:Nat):Int))=true:=by grind
  have w1:i64.wrap (((A.length+E.length:Nat):Int)+1)=((A.length+E.length+1:Nat):Int):=by grind [aA]
  have g1:(A++E++x::(y::O++C)).getD (A.length+E.length) default=x:=x5 _ _ _ _ (by simp);have r1:A++E++x::(y::O++C)=(A++E++[x])++y::(O++C):=by simp
  have g2:(A++E++x::(y::O++C)).getD (A.length+E.length+1) default=y:=by rw[r1];exact x5 _ _ _ _ (by simp;omega)
  have hL:(A++E++x::(y::O++C)).length=A.length+V.length+C.length+1:=by simp;omega
  simp only[e,w1,ak1,g1,g2,am4,hL,cond_true];refine⟨λ_=>by omega,.inr ⟨_,rfl,by omega,E++[y],O,by rw[hV];simp,?_⟩⟩;simp_all [amt]
theorem PH (A U C:List bn)(x:bn)(V:List bn)(hl:(A++U++x::C).length<2 ^ 62)(X:(A++U++x::C).length=V.length):
  okI (vF V (A.length:Int)) (uP V (A.length:Int)) (V.length+1) 0 (A++U++x::C,((A.length+U.length:Nat):Int))/\
  ∃ r,aj (vF V (A.length:Int)) (V.length+1) 0 (A++U++x::C,((A.length+U.length:Nat):Int))=.inl r/\r=A++x::(U++C):=by
 have hlen:(A++U++x::C).length=A.length+U.length+C.length+1:=by simp;omega
 refine yw (λs:List bn×Int=>(s.2 - (A.length:Int)).toNat) (λs:List bn×Int=>∃ E O,U=E++O/\s=(A++E++x::(O++C),((A.length+E.length:Nat):Int))) (λr=>r=A++x::(U++C)) ?_ _ _ _ ⟨U,[],by simp,by simp⟩ (by omega);rintro k s ⟨E,O,Y,rfl⟩;have W:U.length=E.length+O.length:=by grind
 unfold uP vF;rcases amN E with rfl| ⟨E,y,rfl⟩;simp_all;simp only[amO,ak9,ak5,alo]at W Y |-;have e:decide (((A.length+(E.length+(0+1)):Nat):Int) > (A.length:Int))=true:=by grind
 have w1:i64.wrap (((A.length+(E.length+(0+1)):Nat):Int) - 1)=((A.length+E.length:Nat):Int):=by grind [aA]
 have g1:(A++(E++[y])++x::(O++C)).getD (A.length+(E.length+(0+1))) default=x:=x5 _ _ _ _ (by simp);have r1:A++(E++[y])++x::(O++C)=(A++E)++y::x::(O++C):=by simp
 have g2:(A++(E++[y])++x::(O++C)).getD (A.length+E.length) default=y:=by grind
 have hL:(A++(E++[y])++x::(O++C)).length=A.length+U.length+C.length+1:=by simp;omega
 simp only[e,w1,ak1,g1,g2,am4,hL,cond_true];refine⟨λ_=>by omega,.inr ⟨_,rfl,by omega,E,y::O,by rw[Y];simp,?_⟩⟩;grind
theorem ahy(A V C:List α)(d:α){h:Nat}(h1:A.length<=h)(h2:h<A.length+V.length):(A++V++C).getD h d=V.getD (h - A.length) d:=by
 grind
variable {n:Nat}
theorem Rh(l:List α)(d:α)(h:n<l.length):l.getD n d=l[n]:=by
 grind
variable {V:List bn}
theorem qV(h:Srt V){i j:Nat}(h1:i<=j)(h2:j<V.length):(V.getD i default).at_<=(V.getD j default).at_:=by
 rcases aoc h1 with rfl|h1;omega;rw[Rh V _ (by omega),Rh V _ h2];exact aly.1 h i j (by omega) h2 h1
variable {y:bn}
theorem Az(h:y∈V.take k):∃ i,i<k/\i<V.length/\y=V.getD i default:=by
 obtain⟨i,hi,e⟩:=alE.1 h;rw[al0]at hi;refine⟨i,by omega,by omega,?_⟩;grind
theorem AA(h:y∈V.drop k):∃ i,k<=i/\i<V.length/\y=V.getD i default:=by
 obtain⟨i,hi,e⟩:=alE.1 h;rw[amd]at hi;refine⟨k+i,by omega,by omega,?_⟩;grind
def D0{b:List bn}(h:Srt (a++b)):Srt a/\Srt b/\∀ x∈a,∀ y∈b,x.at_<=y.at_:=aln.1 h
def BY{b:List bn}(h1:Srt a)(h2:Srt b)(E:∀ x∈a,∀ y∈b,x.at_<=y.at_):Srt (a++b):=aln.2 ⟨h1,h2,E⟩
def aap (n:Nat)(apx:Int->Int->Int->List bn->List bn)(apk:Int->Int->Int->List bn->Prop):Prop:=
 ∀ A U V C:List bn,U≠[]->V≠[]->U.length+V.length<=n->(A++U++V++C).length<2 ^ 60->Srt U->Srt V->
  apk (A.length:Int) ((A.length+U.length:Nat):Int) ((A.length+U.length+V.length:Nat):Int) (A++U++V++C)/\
  ∃ M,apx (A.length:Int) ((A.length+U.length:Nat):Int) ((A.length+U.length+V.length:Nat):Int) (A++U++V++C)=A++M++C/\aov (U++V) M/\Srt M/\M.length=U.length+V.length
theorem PK (O:Int->Int->Int->List bn->List bn)(E:Int->Int->Int->List bn->Prop)(A V C:List bn)(x:bn)(hl:(A++[x]++V++C).length<2 ^ 60)(hV:Srt V):
  vG O E (A.length:Int) ((A.length+1:Nat):Int) ((A.length+1+V.length:Nat):Int) (A++[x]++V++C)/\
  ∃ M,Kx O E (A.length:Int) ((A.length+1:Nat):Int) ((A.length+1+V.length:Nat):Int) (A++[x]++V++C)=A++M++C/\aov ([x]++V) M/\Srt M/\M.length=1+V.length:=by
 have hL:(A++[x]++V++C).length=A.length+V.length+C.length+1:=by simp;omega
 have w:i64.wrap (((A.length+1:Nat):Int) - (A.length:Int))=1:=by grind [aA]
 have gx:(A++[x]++V++C).getD A.length default=x:=by
  grind
 have gV:∀ h,A.length+1<=h->h<A.length+1+V.length->(A++[x]++V++C).getD h default=V.getD (h - (A.length+1)) default:=λh h1 h2=>by
  grind
 have s:=PE (step:=rT (A.length:Int) (A++[x]++V++C)) (p:=sd (A.length:Int) (A++[x]++V++C)) (λh=>decide ((V.getD (h - (A.length+1)) default).at_<x.at_)) (A.length+1) (A.length+1+V.length) (by omega)
  (λi j h1 h2 h3 h4=>by
   have:=qV hV (i:=i - (A.length+1)) (j:=j - (A.length+1)) (by omega) (by omega);grind)
  (λk i j h1 h2 h3=>by
   have e:decide ((i:Int) < (j:Int))=true:=by grind
   unfold sd rT;simp only[Rg (i:=i) (j:=j) (by omega) (by omega),e,cond_true,ak1,gx,gV ((i+j) / 2) (by omega) (by omega),Rf,hL];grind [aA])
  (λk i=>by
   simp_all [sd,rT]) ((A++[x]++V++C).length+1) 0 (by omega)
 obtain⟨s1,r,s2,q,rfl,q1,q2,q3,q4⟩:=s;have ht:(V.take (q - (A.length+1))).length=q - (A.length+1):=by rw[al0];omega
 have W:V.take (q - (A.length+1))++V.drop (q - (A.length+1))=V:=alU _ _;have hd1:∀ y∈V.take (q - (A.length+1)),y.at_<x.at_:=λy hy=>by
  obtain⟨i,i1,i2,rfl⟩:=Az hy;have:=q3 (A.length+1+i) (by omega) (by omega);simp_all
 have hd2:∀ y∈V.drop (q - (A.length+1)),x.at_<=y.at_:=λy hy=>by
  obtain⟨i,i1,i2,rfl⟩:=AA hy;have:=q4 (A.length+1+i) (by omega) (by omega);simp_all
 generalize hV1:V.take (q - (A.length+1))=V1 at *;generalize hV2:V.drop (q - (A.length+1))=V2 at *;subst W;have eq:A++[x]++(V1++V2)++C=A++x::V1++(V2++C):=by simp
 obtain⟨c1,r,c2,rfl⟩:=V7 A V1 (V2++C) x (A++[x]++(V1++V2)++C) (by grind) (by rw[eq]);have X:((A.length+1+V1.length:Nat):Int)=(q:Int):=by omega
 rw[<-eq,X]at c1 c2;unfold vG Kx;rw[w];refine⟨⟨λ_=>⟨s1,Nd (Q:=λ_=>True) ⟨_,s2,trivial⟩,λz Y=>?_⟩,λh=>by cases h⟩,V1++[x]++V2,?_,?_,?_,?_⟩;grind
 grind
 ·have h0:aov ([x]++V1) (V1++[x]):=aov.swap λa ha b hb=>by grind
  simpa using h0.app (aov.refl V2)
 obtain⟨a1,a2,a3⟩:=D0 hV;refine BY (BY a1 (alN _ _) λy hy z Y=>?_) a2 λy hy z Y=>?_ <;>grind;grind
theorem Nf (O:Int->Int->Int->List bn->List bn)(E:Int->Int->Int->List bn->Prop)(A U C:List bn)(x:bn)(hU2:2<=U.length)(hl:(A++U++[x]++C).length<2 ^ 60)(Y:Srt U):
  vG O E (A.length:Int) ((A.length+U.length:Nat):Int) ((A.length+U.length+1:Nat):Int) (A++U++[x]++C)/\
  ∃ M,Kx O E (A.length:Int) ((A.length+U.length:Nat):Int) ((A.length+U.length+1:Nat):Int) (A++U++[x]++C)=A++M++C/\aov (U++[x]) M/\Srt M/\M.length=U.length+1:=by
 have hL:(A++U++[x]++C).length=A.length+U.length+C.length+1:=by simp;omega
 have w1:i64.wrap (((A.length+U.length:Nat):Int) - (A.length:Int))=(U.length:Int):=by grind [aA]
 have w:i64.wrap (((A.length+U.length+1:Nat):Int) - ((A.length+U.length:Nat):Int))=1:=by grind [aA]
 have b1:((U.length:Int) ==1)=false:=by simp;omega
 have gx:(A++U++[x]++C).getD (A.length+U.length) default=x:=by
  grind
 have gU:∀ h,A.length<=h->h<A.length+U.length->(A++U++[x]++C).getD h default=U.getD (h - A.length) default:=λh h1 h2=>by
  grind
 have s:=PE (step:=rU ((A.length+U.length:Nat):Int) (A++U++[x]++C)) (p:=se ((A.length+U.length:Nat):Int) (A++U++[x]++C)) (λh=>!decide (x.at_< (U.getD (h - A.length) default).at_)) A.length (A.length+U.length) (by omega)
  (λi j h1 h2 h3 h4=>by
   have:=qV Y (i:=i - A.length) (j:=j - A.length) (by omega) (by omega);grind)
  (λk i j h1 h2 h3=>by
   have e:decide ((i:Int) < (j:Int))=true:=by grind
   unfold se rU;simp only[Rg (i:=i) (j:=j) (by omega) (by omega),e,cond_true,ak1,gx,gU ((i+j) / 2) (by omega) (by omega),Rf,hL];grind [aA])
  (λk i=>by
   simp_all [se,rU]) ((A++U++[x]++C).length+1) 0 (by omega)
 obtain⟨s1,r,s2,q,rfl,q1,q2,q3,q4⟩:=s;have ht:(U.take (q - A.length)).length=q - A.length:=by grind
 have hd:(U.drop (q - A.length)).length=U.length - (q - A.length):=amd;have W:U.take (q - A.length)++U.drop (q - A.length)=U:=alU _ _;have hd1:∀ y∈U.take (q - A.length),y.at_<=x.at_:=λy hy=>by
  obtain⟨i,i1,i2,rfl⟩:=Az hy;have:=q3 (A.length+i) (by omega) (by omega);simp_all
 have hd2:∀ y∈U.drop (q - A.length),x.at_<y.at_:=λy hy=>by
  obtain⟨i,i1,i2,rfl⟩:=AA hy;have:=q4 (A.length+i) (by omega) (by omega);simp_all
 generalize hV1:U.take (q - A.length)=V1 at *;generalize hV2:U.drop (q - A.length)=V2 at *;subst W;have eq:A++(V1++V2)++[x]++C=(A++V1)++V2++x::C:=by simp
 obtain⟨c1,r,c2,rfl⟩:=PH (A++V1) V2 C x (A++(V1++V2)++[x]++C) (by grind) (by rw[eq]);have X:(((A++V1).length:Nat):Int)=(q:Int):=by grind
 have V:(((A++V1).length+V2.length:Nat):Int)=((A.length+(V1++V2).length:Nat):Int):=by omega
 rw[<-eq,V,X]at c1 c2;unfold vG Kx;rw[w1,w];refine⟨⟨λh=>(by grind),λ_=>⟨λ_=>⟨s1,Nd (Q:=λ_=>True) ⟨_,s2,trivial⟩,λz hz=>?_⟩,λh=>by cases h⟩⟩,V1++[x]++V2,?_,?_,?_,?_⟩;grind
 grind
 ·have h0:aov (V2++[x]) ([x]++V2):=aov.swap λa ha b hb=>by grind
  simpa using (aov.refl V1).app h0
 obtain⟨a1,a2,a3⟩:=D0 Y;refine BY (BY a1 (alN _ _) λy hy z hz=>?_) a2 λy hy z hz=>?_ <;>grind;grind
def stI (x:bn):List bn->List bn
 | [] =>[x]|y::r=>if x.at_<=y.at_ then x::y::r else y::stI x r
def stS:List bn->List bn
 | [] =>[]|x::r=>stI x (stS r)
theorem FT (x:bn):∀ l,aov (x::l) (stI x l)
 | [] =>aov.refl _
 |y::r=>by
  unfold stI;by_cases h:x.at_<=y.at_
  rw[if_pos h];exact aov.refl _
  ·rw[if_neg h];have h1:aov ([x]++[y]++r) ([y]++[x]++r):=(aov.swap λa E b O=>by grind).app (aov.refl r);exact h1.trans ((aov.refl [y]).app (FT x r))
theorem aov.symm{b:List bn}(h:aov a b):aov b a:=λt=>(h t).symm
theorem aov.mem{b:List bn}(h:aov a b)(E:x∈a):x∈b:=by
 have:x∈a.filter λy=>y.at_==x.at_:=by grind
 rw[h x.at_]at this;grind
theorem aov.mem_iff{b:List bn}(h:aov a b):x∈a↔x∈b:=⟨h.mem,h.symm.mem⟩
theorem Ri (x:bn):∀ l,Srt l->Srt (stI x l)
 | [],_=>alN _ _
 |y::r,h=>by
  unfold stI;have h':=alL.1 h;by_cases hc:x.at_<=y.at_
  rw[if_pos hc];exact alL.2 ⟨λz E=>by
   grind,h⟩
  rw[if_neg hc];refine alL.2 ⟨λz E=>?_,Ri x r h'.2⟩;have:=(FT x r).symm.mem E;grind
def xu:∀ l,aov l (stS l)
 | [] =>aov.refl _|x::r=>((aov.refl [x]).app (xu r)).trans (FT x _)
def KL:∀ l,Srt (stS l)
 | [] =>List.Pairwise.nil|x::r=>Ri x _ (KL r)
theorem CY:∀ {a b:List bn},Srt a->Srt b->aov a b->a=b
 | [],[],_,_,_=>rfl
 | [],y::b,_,_,h=>absurd (h.symm.mem (alc)) (by simp)
 |x::a,[],_,_,h=>absurd (h.mem (alc)) (by simp)
 |x::a,y::b,Y,hb,h=>by
  have V:=alL.1 Y;have E:=alL.1 hb;have e:x.at_=y.at_:=by
   have h1:=h.mem (alc (a:=x) (l:=a));have h2:=h.symm.mem (alc (a:=y) (l:=b));grind
  have W:=h x.at_;have ey:(y.at_==x.at_)=true:=by simp[e]
  have ex:(x.at_==x.at_)=true:=by simp
  simp only[anN,ex,ey,if_true]at W;obtain⟨O,X⟩:=List.cons.inj W;subst O;have:aov a b:=λt=>by
   have ht:=h t;grind
  rw[CY V.2 E.2 this]
def zr{b:List bn}(h:aov a b)(E:Srt b):b=stS a:=CY E (KL a) (h.symm.trans (xu a))
def YX:x∈stS l↔x∈l:=(xu l).symm.mem_iff
theorem ahz{c1 X W:Bool}(O V:List bn->List bn):
  (bif c1 then(bif X then(bif W then V (O E)else O E)else(bif W then V E else E))else(bif X then(bif W then V (O l)else O l)else(bif W then V l else l)))=(bif W then V (bif X then O (bif c1 then E else l)else(bif c1 then E else l))else(bif X then O (bif c1 then E else l)else(bif c1 then E else l))):=by
 grind
theorem acU{c1 O V:Bool}{rp:Prop}(X:List bn->List bn)(Y W:List bn->Prop)(h1:c1=true->rp)(h2:O=true->Y (bif c1 then E else l))(h3:V=true->W (bif O then X (bif c1 then E else l)else(bif c1 then E else l))):
  ((c1=true->(rp/\((O=true->(Y E/\(V=true->W (X E))))/\(O=false->V=true->W E))))/\(c1=false->((O=true->(Y l/\(V=true->W (X l))))/\(O=false->V=true->W l)))):=by
 grind
theorem PM {N:Nat}{O:Int->Int->Int->List bn->List bn}{E:Int->Int->Int->List bn->Prop}(hr:aap N O E)(A U V C:List bn)(hU2:2<=U.length)(hV2:2<=V.length)(hN:U.length+V.length<=N+1)(hl:(A++U++V++C).length<2 ^ 60)(hU:Srt U)(hV:Srt V):
  vG O E (A.length:Int) ((A.length+U.length:Nat):Int) ((A.length+U.length+V.length:Nat):Int) (A++U++V++C)/\
  ∃ M,Kx O E (A.length:Int) ((A.length+U.length:Nat):Int) ((A.length+U.length+V.length:Nat):Int) (A++U++V++C)=A++M++C/\aov (U++V) M/\Srt M/\M.length=U.length+V.length:=by
 have hL:(A++U++V++C).length=A.length+U.length+V.length+C.length:=by grind
 have gU:∀ h,A.length<=h->h<A.length+U.length->(A++U++V++C).getD h default=U.getD (h - A.length) default:=λh h1 h2=>by
  grind
 have gV:∀ h,A.length+U.length<=h->h<A.length+U.length+V.length->(A++U++V++C).getD h default=V.getD (h - (A.length+U.length)) default:=λh h1 h2=>by
  grind
 have X:i64.wrap (mu .u64 (u64.wrap (i64.wrap ((A.length:Int)+((A.length+U.length+V.length:Nat):Int)))) 1)=((A.length+(U.length+V.length) / 2:Nat):Int):=by
  rw[Rg (by omega) (by omega)];omega
 generalize hmd:A.length+(U.length+V.length) / 2=mid at *;have hn:i64.wrap ((mid:Int)+((A.length+U.length:Nat):Int))=((mid+(A.length+U.length):Nat):Int):=by grind [aA]
 have hp1:i64.wrap (((mid+(A.length+U.length):Nat):Int) - 1)=((mid+(A.length+U.length) - 1:Nat):Int):=by grind [aA]
 have w1:i64.wrap (((A.length+U.length:Nat):Int) - (A.length:Int))=(U.length:Int):=by grind [aA]
 have w2:i64.wrap (((A.length+U.length+V.length:Nat):Int) - ((A.length+U.length:Nat):Int))=(V.length:Int):=by grind [aA]
 have b1:((U.length:Int) ==1)=false:=by simp;omega
 have b2:((V.length:Int) ==1)=false:=by simp;omega
 obtain⟨lo,elo,hlo⟩:∃ lo:Nat,(bif decide (((A.length+U.length:Nat):Int) > (mid:Int))then i64.wrap (((mid+(A.length+U.length):Nat):Int) - ((A.length+U.length+V.length:Nat):Int))else(A.length:Int))=(lo:Int)/\((mid<A.length+U.length/\lo+V.length=mid)\/(A.length+U.length<=mid/\lo=A.length)):=by
  by_cases h:mid<A.length+U.length
  refine⟨mid - V.length,?_,.inl ⟨h,by omega⟩⟩;rw[decide_eq_true (by omega),cond_true,aA (by omega) (by omega)];omega;grind
 obtain⟨hi,ehi,hhi⟩:∃ hi:Nat,(bif decide (((A.length+U.length:Nat):Int) > (mid:Int))then(mid:Int)else((A.length+U.length:Nat):Int))=(hi:Int)/\((mid<A.length+U.length/\hi=mid)\/(A.length+U.length<=mid/\hi=A.length+U.length)):=by
  grind
 have s:=PE (step:=xU (A.length:Int) ((A.length+U.length:Nat):Int) ((A.length+U.length+V.length:Nat):Int) (A++U++V++C)) (p:=sf (A.length:Int) ((A.length+U.length:Nat):Int) ((A.length+U.length+V.length:Nat):Int) (A++U++V++C)) (λc=>!decide ((V.getD (mid - 1 - c) default).at_< (U.getD (c - A.length) default).at_)) lo hi (by omega)
  (λi j h1 h2 h3 h4=>by
   have q1:=qV hU (i:=i - A.length) (j:=j - A.length) (by omega) (by omega);have q2:=qV hV (i:=mid - 1 - j) (j:=mid - 1 - i) (by omega) (by omega);grind)
  (λk i j h1 h2 h3=>by
   have e:decide ((i:Int) < (j:Int))=true:=by grind
   have hc:i64.wrap (((mid+(A.length+U.length) - 1:Nat):Int) - (((i+j) / 2:Nat):Int))=((mid+(A.length+U.length) - 1 - (i+j) / 2:Nat):Int):=by grind [aA]
   have e2:mid+(A.length+U.length) - 1 - (i+j) / 2 - (A.length+U.length)=mid - 1 - (i+j) / 2:=by omega
   unfold sf xU;simp only[X,hn,hp1,Rg (i:=i) (j:=j) (by omega) (by omega),e,cond_true,hc,ak1,gU ((i+j) / 2) (by omega) (by omega),gV (mid+(A.length+U.length) - 1 - (i+j) / 2) (by omega) (by omega),e2,Rf,hL];grind [aA])
  (λk i=>by
   simp_all [sf,xU]) ((A++U++V++C).length+1) 0 (by omega)
 obtain⟨s1,r,s2,q,rfl,q1,q2,q3,q4⟩:=s;have Y:i64.wrap (((mid+(A.length+U.length):Nat):Int) - (q:Int))=((mid+(A.length+U.length) - q:Nat):Int):=by grind [aA]
 have hUs:U.take (q - A.length)++U.drop (q - A.length)=U:=alU _ _;have hVs:V.take (mid - q)++V.drop (mid - q)=V:=alU _ _;have lU1:(U.take (q - A.length)).length=q - A.length:=by rw[al0];omega
 have lU2:(U.drop (q - A.length)).length=A.length+U.length - q:=by rw[amd];omega
 have lV1:(V.take (mid - q)).length=mid - q:=by rw[al0];omega
 have lV2:(V.drop (mid - q)).length=V.length+q - mid:=by rw[amd];omega
 have k1:∀ x∈U.take (q - A.length),∀ y∈V.drop (mid - q),x.at_<=y.at_:=λx hx y hy=>by
  obtain⟨i,i1,i2,rfl⟩:=Az hx;obtain⟨j,j1,j2,rfl⟩:=AA hy;have:=q3 (q - 1) (by omega) (by omega);have p1:=qV hU (i:=i) (j:=q - 1 - A.length) (by omega) (by omega);have p2:=qV hV (i:=mid - 1 - (q - 1)) (j:=j) (by omega) (by omega);grind
 have k2:∀ x∈U.drop (q - A.length),∀ y∈V.take (mid - q),y.at_<x.at_:=λx hx y hy=>by
  obtain⟨i,i1,i2,rfl⟩:=AA hx;obtain⟨j,j1,j2,rfl⟩:=Az hy;have:=q4 q (by omega) (by omega);have p1:=qV hU (i:=q - A.length) (j:=i) (by omega) (by omega);have p2:=qV hV (i:=j) (j:=mid - 1 - q) (by omega) (by omega);grind
 generalize hE1:U.take (q - A.length)=U1 at *;generalize hE2:U.drop (q - A.length)=U2 at *;generalize hE3:V.take (mid - q)=V1 at *;generalize hE4:V.drop (mid - q)=V2 at *;have lenU:U.length=U1.length+U2.length:=by grind
 have lenV:V.length=V1.length+V2.length:=by omega
 have hlist:A++U++V++C=A++U1++U2++V1++(V2++C):=by grind
 obtain⟨sU1,sU2,sU⟩:=D0 (by grind:Srt (U1++U2));obtain⟨sV1,sV2,sV⟩:=D0 (by grind:Srt (V1++V2));have hrot:(decide ((q:Int) < ((A.length+U.length:Nat):Int))&&decide (((A.length+U.length:Nat):Int) < ((mid+(A.length+U.length) - q:Nat):Int)))=true->bR (q:Int) ((A.length+U.length:Nat):Int) ((mid+(A.length+U.length) - q:Nat):Int) (A++U++V++C)/\aK (q:Int) ((A.length+U.length:Nat):Int) ((mid+(A.length+U.length) - q:Nat):Int) (A++U++V++C)=A++U1++V1++(U2++V2++C):=λh=>by
  simp only[akZ,decide_eq_true_eq]at h;have:=SU (A++U1) U2 V1 (V2++C) (by grind) (by rw[<-alO];omega) (by grind);have e1:(((A++U1).length:Nat):Int)=(q:Int):=by grind
  have e2:(((A++U1).length+U2.length:Nat):Int)=((A.length+U.length:Nat):Int):=by omega
  have e3:(((A++U1).length+U2.length+V1.length:Nat):Int)=((mid+(A.length+U.length) - q:Nat):Int):=by omega
  grind
 have hl1:(bif(decide ((q:Int) < ((A.length+U.length:Nat):Int))&&decide (((A.length+U.length:Nat):Int) < ((mid+(A.length+U.length) - q:Nat):Int)))then aK (q:Int) ((A.length+U.length:Nat):Int) ((mid+(A.length+U.length) - q:Nat):Int) (A++U++V++C)else A++U++V++C)=A++U1++V1++(U2++V2++C):=by
  cases hc:(decide ((q:Int) < ((A.length+U.length:Nat):Int))&&decide (((A.length+U.length:Nat):Int) < ((mid+(A.length+U.length) - q:Nat):Int)))with
  |true=>grind
  |false=>
   rw[cond_false,hlist];simp only[al7,decide_eq_false_iff_not]at hc;have:U2=[]\/V1=[]:=by
    rcases hc with hc|hc;exact .inl (alk (by omega));exact .inr (alk (by omega))
   rcases this with rfl|rfl <;>simp
 obtain⟨W,hM1p,hM1,f1,t1,l1⟩:∃ W,((decide ((A.length:Int) < (q:Int))&&decide ((q:Int) < (mid:Int)))=true->E (A.length:Int) (q:Int) (mid:Int) (A++U1++V1++(U2++V2++C)))/\(bif(decide ((A.length:Int) < (q:Int))&&decide ((q:Int) < (mid:Int)))then O (A.length:Int) (q:Int) (mid:Int) (A++U1++V1++(U2++V2++C))else A++U1++V1++(U2++V2++C))=A++W++(U2++V2++C)/\aov (U1++V1) W/\Srt W/\W.length=U1.length+V1.length:=by
  cases hc:(decide ((A.length:Int) < (q:Int))&&decide ((q:Int) < (mid:Int)))with
  |true=>
   simp only[akZ,decide_eq_true_eq]at hc;obtain⟨h1,W,h2,h3,h4,h5⟩:=hr A U1 V1 (U2++V2++C) (by grind) (by grind) (by omega) (by grind) sU1 sV1;grind
  |false=>
   simp only[al7,decide_eq_false_iff_not]at hc;refine⟨U1++V1,(λh=>by cases h),by simp,aov.refl _,?_,ak9⟩;have:U1=[]\/V1=[]:=by
    rcases hc with hc|hc;exact .inl (alk (by omega));exact .inr (alk (by omega))
   rcases this with rfl|rfl <;>grind
 obtain⟨M2,hM2p,hM2,f2,t2,l2⟩:∃ M2,((decide ((mid:Int) < ((mid+(A.length+U.length) - q:Nat):Int))&&decide (((mid+(A.length+U.length) - q:Nat):Int) < ((A.length+U.length+V.length:Nat):Int)))=true->E (mid:Int) ((mid+(A.length+U.length) - q:Nat):Int) ((A.length+U.length+V.length:Nat):Int) (A++W++(U2++V2++C)))/\(bif(decide ((mid:Int) < ((mid+(A.length+U.length) - q:Nat):Int))&&decide (((mid+(A.length+U.length) - q:Nat):Int) < ((A.length+U.length+V.length:Nat):Int)))then O (mid:Int) ((mid+(A.length+U.length) - q:Nat):Int) ((A.length+U.length+V.length:Nat):Int) (A++W++(U2++V2++C))else A++W++(U2++V2++C))=A++W++M2++C/\aov (U2++V2) M2/\Srt M2/\M2.length=U2.length+V2.length:=by
  cases hc:(decide ((mid:Int) < ((mid+(A.length+U.length) - q:Nat):Int))&&decide (((mid+(A.length+U.length) - q:Nat):Int) < ((A.length+U.length+V.length:Nat):Int)))with
  |true=>
   simp only[akZ,decide_eq_true_eq]at hc;obtain⟨h1,M2,h2,h3,h4,h5⟩:=hr (A++W) U2 V2 C (by rw[<-alO];omega) (by rw[<-alO];omega) (by omega) (by grind) sU2 sV2;have e0:(((A++W).length:Nat):Int)=(mid:Int):=by rw[ak9];omega
   have e1:(((A++W).length+U2.length:Nat):Int)=((mid+(A.length+U.length) - q:Nat):Int):=by omega
   grind
  |false=>
   simp only[al7,decide_eq_false_iff_not]at hc;refine⟨U2++V2,(λh=>by cases h),by simp,aov.refl _,?_,ak9⟩;have:U2=[]\/V2=[]:=by
    rcases hc with hc|hc;exact .inl (alk (by omega));exact .inr (alk (by omega))
   rcases this with rfl|rfl <;>grind
 unfold vG Kx;simp only[w1,w2,b1,b2,X,hn,elo,ehi,s2,Y,cond_false];refine⟨⟨(λh=>by cases h),λ_=>⟨(λh=>by cases h),λ_=>⟨s1,(λz h=>by cases h),λz hz=>?_⟩⟩⟩,W++M2,?_,?_,?_,?_⟩;cases hz;simp only[Y];exact acU (λl=>O (A.length:Int) (q:Int) (mid:Int) l) (λl=>E (A.length:Int) (q:Int) (mid:Int) l) (λl=>E (mid:Int) ((mid+(A.length+U.length) - q:Nat):Int) ((A.length+U.length+V.length:Nat):Int) l) (λh=>(hrot h).1) (λh=>by grind) (λh=>by rw[hl1];grind);refine(ahz (λl=>O (A.length:Int) (q:Int) (mid:Int) l) (λl=>O (mid:Int) ((mid+(A.length+U.length) - q:Nat):Int) ((A.length+U.length+V.length:Nat):Int) l)).trans ?_;rw[hl1];simp only[hM1];grind
 ·have h0:aov (U2++V1) (V1++U2):=aov.swap λa ha b hb=>by grind
  have h1:aov (U++V) (U1++V1++(U2++V2)):=by
   rw[<-hUs,<-hVs];have:=((aov.refl U1).app h0).app (aov.refl V2);grind
  exact h1.trans (f1.app f2)
 refine BY t1 t2 λx hx y hy=>?_;have hx:=f1.symm.mem hx;have hy:=f2.symm.mem hy;rcases alu.1 hx with hx|hx <;>rcases alu.1 hy with hy|hy <;>grind;grind
theorem Ng:∀ n,aap n (qi n).1 (qi n).2
 |0=>λA U V C E Y h=>absurd (alO.2 E) (by omega)
 |n+1=>λA U V C E Y hN O X W=>by
  have pU:=alO.2 E;have pV:=alO.2 Y;by_cases h1:U.length=1
  obtain⟨x,rfl⟩:=anU.1 h1;exact PK _ _ A V C x O W;by_cases h2:V.length=1
  obtain⟨x,rfl⟩:=anU.1 h2;exact Nf _ _ A U C x (by omega) O X;exact PM (Ng n) A U V C (by omega) (by omega) hN O X W
theorem V8 (A U V C:List bn)(E:U≠[])(W:V≠[])(Y:(A++U++V++C).length<2 ^ 60)(X:Srt U)(O:Srt V):
  cN (A.length:Int) ((A.length+U.length:Nat):Int) ((A.length+U.length+V.length:Nat):Int) (A++U++V++C)/\
  ∃ M,df (A.length:Int) ((A.length+U.length:Nat):Int) ((A.length+U.length+V.length:Nat):Int) (A++U++V++C)=A++M++C/\aov (U++V) M/\Srt M/\M.length=U.length+V.length:=
 Ng ((A++U++V++C).length+1) A U V C E W (by grind) Y X O
inductive Blk (n:Nat):List bn->Prop
 |last {l:List bn}:l.length<=n->Srt l->Blk n l
 |cons {b l:List bn}:b.length=n->Srt b->Blk n l->Blk n (b++l)
inductive Full (n:Nat):List bn->Prop
 |nil:Full n []
 |snoc {l b:List bn}:Full n l->b.length=n->Srt b->Full n (l++b)
theorem Full.app(h:Full n a):∀ {l:List bn},Blk n l->Blk n (a++l):=by
 induction h with
 |nil=>grind
 |snoc _ E V O=>exact λh=>by rw[alG];exact O (.cons E V h)
theorem Blk.srt(h:Blk n l)(O:l.length<=n):Srt l:=by
 cases h with
 |last _ E=>exact E
 | @cons b r V E h=>
  rw[ak9]at O;have:=alk (show r.length=0 by omega);grind
theorem Blk.split(h:Blk n l)(V:n<=l.length):∃ b r,l=b++r/\b.length=n/\Srt b/\Blk n r:=by
 cases h with
 |last h1 E=>exact⟨l,[],by simp,by omega,E,.last (alB _) List.Pairwise.nil⟩
 |cons O E h=>grind
theorem uX{b:List bn}(h:aov a b):a.length=b.length:=by
 have e:∀ {l:List bn},stS l=l\/True:=λ{_} =>.inr trivial;have h1:∀ l:List bn,(stS l).length=l.length:=λl=>by
  induction l with
  |nil=>rfl
  |cons x r O=>
   have:∀ l:List bn,(stI x l).length=l.length+1:=λl=>by
    induction l with
    |nil=>rfl
    |cons y l E=>
     unfold stI;grind
   show(stI x (stS r)).length=_;grind
 rw[<-h1 a,<-h1 b,zr (h.trans (xu b)) (KL b)]
theorem I3 (l:List bn)(hl:l.length<2 ^ 58):cq (l.length:Int) l/\cP (l.length:Int) l=stS l:=by
 obtain⟨k1,r,k2,D,R,rfl,k3,k4,k5,k6⟩:okI (bP (l.length:Int)) (du (l.length:Int)) (Int.toNat (l.length:Int)+1) 0 (l,0,20)/\∃ r,aj (bP (l.length:Int)) (Int.toNat (l.length:Int)+1) 0 (l,0,20)=.inl r/\∃ D R,r=(((D.length:Nat):Int),D++R)/\Full 20 D/\aov l (D++R)/\R.length<20/\l.length=D.length+R.length:=by
  refine yw (λs:List bn×Int×Int=>((l.length:Int) - s.2.1).toNat) (λs:List bn×Int×Int=>∃ D R,s=(D++R,((D.length:Nat):Int),((D.length+20:Nat):Int))/\Full 20 D/\aov l (D++R)/\l.length=D.length+R.length) _ ?_ _ _ _ ⟨[],l,rfl,.nil,aov.refl _,by simp⟩ (by grind);rintro k s ⟨D,R,rfl,hD,Y,E⟩;unfold du bP;by_cases h:20<=R.length
  have e:decide (((D.length+20:Nat):Int)<=(l.length:Int))=true:=by grind
  have hRs:R.take 20++R.drop 20=R:=alU _ _;have hRt:(R.take 20).length=20:=by grind
  have hRd:(R.drop 20).length=R.length - 20:=amd;have hi:=I2 D (R.take 20) (R.drop 20) (by grind);rw[alG D,hRs,hRt]at hi;obtain⟨i1,M,W,V,X⟩:=hi;have hM:=uX V;have w:i64.wrap (((D.length+20:Nat):Int)+20)=(((D++M).length+20:Nat):Int):=by grind [aA]
  simp only[e,cond_true,w];refine⟨λ_=>i1,.inr ⟨_,rfl,by grind,D++M,R.drop 20,?_,hD.snoc (by omega) X,?_,by grind⟩⟩;grind
  refine Y.trans ?_;have:=((aov.refl D).app (V.app (aov.refl (R.drop 20))));grind
  grind
 have hi:=I2 D R [] (by grind);have eN:((D.length+R.length:Nat):Int)=(l.length:Int):=by omega
 rw[ali,eN]at hi;obtain⟨i1,M,W,V,X⟩:=hi;rw[ali]at W;have hM:=uX V;have hB0:Blk 20 (D++M):=k3.app (.last (by omega) X);have hF0:aov l (D++M):=k4.trans ((aov.refl D).app V);obtain⟨m1,r,m2,m3,m4⟩:okI (ca (l.length:Int)) (cF (l.length:Int)) (Int.toNat (l.length:Int)+1) 0 (D++M,20)/\∃ r,aj (ca (l.length:Int)) (Int.toNat (l.length:Int)+1) 0 (D++M,20)=.inl r/\aov l r/\Srt r:=by
  refine yw (λs:List bn×Int=>((l.length:Int) - s.2).toNat) (λs:List bn×Int=>∃ (L:List bn) (n:Nat),s=(L,(n:Int))/\20<=n/\n<2 ^ 59/\Blk n L/\aov l L) _ ?_ _ _ _ ⟨D++M,20,rfl,ak2 _,by omega,hB0,hF0⟩ (by omega);rintro k s ⟨L,n,rfl,hn,hn2,hB,Y⟩;have hLl:=uX Y;by_cases h:n<l.length
  have e:decide ((n:Int) < (l.length:Int))=true:=by grind
  have w2:i64.wrap (2*(n:Int))=((2*n:Nat):Int):=by grind [aA]
  have w2':i64.wrap ((n:Int)*2)=((2*n:Nat):Int):=by grind
  obtain⟨p1,r,p2,D,R,rfl,p3,p4,p5,p6,p7⟩:okI (cX (l.length:Int) (L,(n:Int))) (dv (l.length:Int) (L,(n:Int))) (Int.toNat (l.length:Int)+1) 0 (L,0,((2*n:Nat):Int))/\∃ r,aj (cX (l.length:Int) (L,(n:Int))) (Int.toNat (l.length:Int)+1) 0 (L,0,((2*n:Nat):Int))=.inl r/\∃ D R,r=(((D.length:Nat):Int),D++R)/\Full (2*n) D/\Blk n R/\aov l (D++R)/\R.length<2*n/\l.length=D.length+R.length:=by
   refine yw (λs:List bn×Int×Int=>((l.length:Int) - s.2.1).toNat) (λs:List bn×Int×Int=>∃ D R,s=(D++R,((D.length:Nat):Int),((D.length+2*n:Nat):Int))/\Full (2*n) D/\Blk n R/\aov l (D++R)/\l.length=D.length+R.length) _ ?_ _ _ _ ⟨[],L,by simp,.nil,hB,Y,by grind⟩ (by grind);rintro k s ⟨D,R,rfl,hD,hR,Y,E⟩;unfold dv cX;by_cases h:2*n<=R.length
   have e:decide (((D.length+2*n:Nat):Int)<=(l.length:Int))=true:=by grind
   obtain⟨O,R1,rfl,b1,b2,b3⟩:=hR.split (by omega);rw[ak9]at h E;obtain⟨B2,R2,rfl,c1,c2,c3⟩:=b3.split (by omega);rw[ak9]at h E;obtain⟨i1,M,W,V,X,i5⟩:=V8 D O B2 R2 (by grind) (by grind) (by grind) b2 c2;have e0:D++O++B2++R2=D++(O++(B2++R2)):=by simp
   have e1:((D.length+O.length+B2.length:Nat):Int)=((D.length+2*n:Nat):Int):=by omega
   have e2:i64.wrap ((D.length:Int)+(n:Int))=((D.length+O.length:Nat):Int):=by grind [aA]
   rw[e0,e1]at i1 W;have w:i64.wrap (((D.length+2*n:Nat):Int)+((2*n:Nat):Int))=(((D++M).length+2*n:Nat):Int):=by grind [aA]
   simp only[e,cond_true,e2,w2,w];refine⟨λ_=>i1,.inr ⟨_,rfl,by grind,D++M,R2,?_,hD.snoc (by omega) X,c3,?_,by grind⟩⟩;grind
   refine Y.trans ?_;have:=(aov.refl D).app (V.app (aov.refl R2));grind
   grind
  have wm:i64.wrap ((D.length:Int)+(n:Int))=((D.length+n:Nat):Int):=by grind [aA]
  unfold cF ca;simp only[e,cond_true,w2,w2',p2,wm];by_cases hm:n<R.length
  have em:decide (((D.length+n:Nat):Int) < (l.length:Int))=true:=by grind
  obtain⟨O,R1,rfl,b1,b2,b3⟩:=p4.split (by omega);rw[ak9]at hm p6 p7;have b4:=b3.srt (by omega);obtain⟨i1,M,W,V,X,i5⟩:=V8 D O R1 [] (by grind) (by grind) (by grind) b2 b4;have e0:D++O++R1++[]=D++(O++R1):=by simp
  have e1:((D.length+O.length+R1.length:Nat):Int)=(l.length:Int):=by omega
  have e2:((D.length+O.length:Nat):Int)=((D.length+n:Nat):Int):=by omega
  rw[e0,e1,e2]at i1 W;rw[ali]at W;refine⟨λ_=>⟨p1,(λz h=>by cases h),λx hx=>by grind⟩,.inr ⟨(D++M,((2*n:Nat):Int)),by grind,by omega,D++M,2*n,rfl,by omega,by omega,p3.app (.last (by omega) X),p5.trans ((aov.refl D).app V)⟩⟩;have em:decide (((D.length+n:Nat):Int) < (l.length:Int))=false:=by grind
  refine⟨λ_=>⟨p1,(λz h=>by cases h),λx hx=>by grind⟩,.inr ⟨(D++R,((2*n:Nat):Int)),by grind,by omega,D++R,2*n,rfl,by omega,by omega,p3.app (.last (by omega) (p4.srt (by omega))),p5⟩⟩;have e:decide ((n:Int) < (l.length:Int))=false:=by grind
  unfold cF ca;simp only[e,cond_false];exact⟨(λh=>by cases h),.inl ⟨_,rfl,Y,hB.srt (by omega)⟩⟩
 unfold cq cP;rw[k2];simp only[W,m2];exact⟨⟨k1,(λz h=>by cases h),λx hx=>by grind⟩,zr m3 m4⟩
def Nh (l:List bn)(E:l.length<2 ^ 58):bO l/\bW l=stS l:=⟨λ_=>(I3 l E).1,(I3 l E).2⟩
theorem Ni:∀ (l:List bn) (n:Int),wL .int .B1 (uW l) n=l.any λy=>y.no==n:=λl n=>by
 have:∀ (r:List bn),wL .int .B1 (uW r.reverse) n=r.reverse.any λy=>y.no==n:=λr=>by
  induction r with
  |nil=>rfl
  |cons x r E=>
   rw[anA,xY,SQ,E,List.any_append];grind
 simpa using this l.reverse
theorem FU(h:Asc l)(hy:y∈l):aq .int .B1 (uW l) y.no=y:=by
 have:∀ (r:List bn),Asc r.reverse->∀ y∈r,aq .int .B1 (uW r.reverse) y.no=y:=λr=>by
  induction r with
  |nil=>simp
  |cons x r V=>
   intro E y hy;rw[anA]at E |-;obtain⟨a1,_,O⟩:=aln.1 E;rw[xY,og];rcases ala.1 hy with rfl|hy;grind
   have:=O y (by grind) x (by simp);rw[if_neg (show ¬y.no=x.no by omega)];exact V a1 y hy
 simpa using this l.reverse (by simpa using h) y (by grind)
structure Fit (d:ah)(x:bn):Prop where
 no0:0<=x.no
 no1:x.no<=1048576
 at0:0<=x.at_
 at1:x.at_<=4096
 kn0:0<=x.known
 kn1:x.known<=1048576
 kind:x.kind=1\/x.kind=2\/x.kind=3\/x.kind=4
 held:x.kind≠4->0<=x.right/\x.right< (d.ai.length:Int)/\(d.ai.getD (Int.toNat x.right) default).kind=1/\0<=x.since/\x.since< (d.zs.length:Int)
 pass:x.kind=1->0<=x.to/\x.to< (d.zs.length:Int)/\x.to≠x.since
 split:x.kind=2->apF d x.parts
theorem V9{m:List (Int×bn)}(hf:d.zs.length<=600)(hr:d.ai.length<=256)(h:dB d m x=true):Fit d x/\(x.kind=4->wL .int .B1 m x.of_=true/\(aq .int .B1 m x.of_).kind≠4/\(aq .int .B1 m x.of_).known<=x.known):=by
 unfold dB at h;cases h0:((((!(aU x.no 0 1048576)) ||(!(aU x.at_ 0 4096))) ||(!(aU x.known 0 1048576))) ||(!(kQ x)))with
 |true=>grind
 |false=>
  rw[h0]at h;simp only[alC,amz]at h0;obtain⟨⟨⟨a1,V⟩,W⟩,a4⟩:=h0;rw[vM]at a1 V W;simp only[cond_false]at h;by_cases k1:x.kind=1
  rw[show(x.kind==1)=true by simp[k1]]at h;simp only[cond_true,akZ,beq_iff_eq,bne_iff_ne]at h;obtain⟨⟨⟨⟨O,X⟩,E⟩,Y⟩,b5⟩:=h;rw[zq _ (by omega)]at O E Y;exact⟨⟨a1.1,a1.2,V.1,V.2,W.1,W.2,.inl k1,λ_=>⟨O.1,O.2,X,E.1,E.2⟩,λ_=>⟨Y.1,Y.2,b5⟩,λe=>by omega⟩,λe=>by omega⟩;rw[show(x.kind==1)=false by grind]at h;by_cases k2:x.kind=2
  rw[show(x.kind==2)=true by simp[k2]]at h;simp only[cond_true,cond_false,akZ,beq_iff_eq]at h;obtain⟨⟨⟨O,X⟩,E⟩,Y⟩:=h;rw[zq _ (by omega)]at O E;exact⟨⟨a1.1,a1.2,V.1,V.2,W.1,W.2,.inr (.inl k2),λ_=>⟨O.1,O.2,X,E.1,E.2⟩,λe=>by omega,λ_=>V5 hf Y⟩,λe=>by omega⟩;rw[show(x.kind==2)=false by grind]at h;by_cases k3:x.kind=3
  rw[show(x.kind==3)=true by simp[k3]]at h;simp only[cond_true,cond_false,akZ,beq_iff_eq]at h;obtain⟨⟨O,X⟩,E⟩:=h;rw[zq _ (by omega)]at O E;exact⟨⟨a1.1,a1.2,V.1,V.2,W.1,W.2,.inr (.inr (.inl k3)),λ_=>⟨O.1,O.2,X,E.1,E.2⟩,λe=>by omega,λe=>by omega⟩,λe=>by omega⟩;rw[show(x.kind==3)=false by grind]at h;by_cases k4:x.kind=4
  rw[show(x.kind==4)=true by simp[k4]]at h;simp only[cond_true,cond_false,akZ,bne_iff_ne,decide_eq_true_eq]at h;obtain⟨⟨O,X⟩,E⟩:=h;exact⟨⟨a1.1,a1.2,V.1,V.2,W.1,W.2,.inr (.inr (.inr k4)),λe=>absurd k4 e,λe=>by omega,λe=>by omega⟩,λ_=>⟨O,X,E⟩⟩;grind
structure aqo (d:ah)(l:List bn):Prop where
 right:aoL d
 len:l.length<=512
 asc:Asc l
 fit:∀ x∈l,Fit d x
 void:∀ x∈l,x.kind=4->∃ y∈l,y.no=x.of_/\y.kind≠4/\y.known<=x.known/\y.no<x.no
theorem Rj {d:ah}:∀ {r b:List bn},Chk d b r->∀ x∈r,∃ E,(∃ t,b++r=E++x::t)/\dB d (uW E) x=true
 | [],_,_,x,hx=>by cases hx
 |y::r,b,⟨h1,h2,O⟩,x,hx=>by
  rcases ala.1 hx with rfl|hx;grind
  obtain⟨E,⟨t,e⟩,h⟩:=Rj O x hx;grind
theorem sT(h:a_ d l=0):aqo d l:=by
 obtain⟨h1,h2,_,h4⟩:=(xZ d l).1 h;have hr:=jz (d:=d) (by rw[h1];rfl);have E:=Chk.asc List.Pairwise.nil h4;rw[ak_]at E;have hf:∀ x∈l,∃ X,(∃ t,l=X++x::t)/\dB d (uW X) x=true:=λx O=>by
  have:=Rj h4 x O;grind
 refine⟨hr,h2,E,λx O=>?_,λx O hk=>?_⟩;obtain⟨b,_,h⟩:=hf x O;exact(V9 hr.zs hr.ai h).1;obtain⟨b,⟨t,e⟩,h⟩:=hf x O;obtain⟨q1,W,Y⟩:=(V9 hr.zs hr.ai h).2 hk;rw[Ni,al4]at q1;obtain⟨y,hy,hn⟩:=q1;have hn:y.no=x.of_:=by grind
 rw[e]at E;have V:Asc b:=(aln.1 E).1;rw[<-hn,FU V hy]at W Y;exact⟨y,by grind,hn,W,Y,(aln.1 E).2.2 y hy x alc⟩
def pO (l:List bn)(known n:Int):Bool:=l.any λv=>v.kind==4&&decide (v.known<=known)&&v.of_==n
def AB (l:List bn)(hour known:Int):List bn:=l.filter λx=>!((((x.kind==4) ||(decide (x.known > known))) ||(decide (x.at_ > hour))) ||pO l known x.no)
theorem V_ (l:List bn)(known:Int):∃ m,aj (fM l known) l.length 0 []=.inr m/\∀ n,aq .int .bool m n=pO l known n:=by
 obtain⟨r,h1,h2⟩:=jA (step:=fM l known) (λk m=>∀ n,aq .int .bool m n=pO (l.take k) known n) l.length 0 ([]:List (Int×Bool)) (λn=>by rfl) (λj s _ O E=>by
  rw[ak8]at O;unfold fM;rw[ce l default O];cases hc:(((l.getD j (default:bn)).kind==4)&&(decide ((l.getD j (default:bn)).known<=known)))with
  |true=>
   refine⟨_,rfl,λn=>?_⟩;rw[og];unfold pO at E |-;grind
  |false=>
   refine⟨_,rfl,λn=>?_⟩;rw[E];unfold pO;grind)
 grind
theorem Wa (K G:List bn):((wM .B1 (K++G) (K.length:Int) ((K++G).length:Int)).take K.length)=K:=by
 grind [wM]
theorem xv{step:Nat->Unit->Int⊕Unit}(l:List α)(d:α)(P:α->Bool)(h:∀ k,k<l.length->step k ()=bif P (l.getD k d)then .inl (k:Int)else .inr ()):(aj step l.length 0 ()=.inr ()/\∀ x∈l,P x=false)\/∃ K x R,l=K++x::R/\aj step l.length 0 ()=.inl (K.length:Int)/\P x=true/\∀ y∈K,P y=false:=by
 have key:∀ (R K:List α),l=K++R->(∀ y∈K,P y=false)->(aj step R.length K.length ()=.inr ()/\∀ x∈l,P x=false)\/∃ E x X,l=E++x::X/\aj step R.length K.length ()=.inl (E.length:Int)/\P x=true/\∀ y∈E,P y=false:=λR=>by
  induction R with
  |nil=>exact λK h O=>.inl ⟨rfl,λx Y=>O x (by grind)⟩
  |cons x R W=>
   intro K V O;have e:=h K.length (by rw[V];simp);have g:l.getD K.length d=x:=by grind
   rw[g]at e;simp only[ak5,aj,e];cases Y:P x with
   |true=>grind
   |false=>
    simp only[cond_false];have:=W (K++[x]) (by rw[V];simp) (λy hy=>by
     grind)
    simp_all
 exact key l [] rfl (by simp)
theorem SW (l:List bn)(known hour:Int)(v:List (Int×Bool))(hl:l.length<2 ^ 47):bH l known hour v/\bw l known hour v=l.filter λx=>!bq x known hour v:=by
 have hI:(a7 l known hour v= -1/\∀ x∈l,bq x known hour v=false)\/∃ K x R,l=K++x::R/\a7 l known hour v=(K.length:Int)/\bq x known hour v=true/\∀ y∈K,bq y known hour v=false:=by
  unfold a7;rcases xv (step:=eU l known hour v) l default (λx=>bq x known hour v) (λk _=>rfl)with⟨e,h⟩ | ⟨K,x,R,h1,e,h2,h3⟩ <;>grind
 unfold bH bw;rcases hI with⟨e,h⟩ | ⟨K,x,R,hl0,e,h2,h3⟩;rw[e];refine⟨(λh=>by cases h),?_⟩;simp only[BEq.rfl,cond_true];exact(anm.2 λx hx=>by grind).symm;have b:((K.length:Int) == -1)=false:=by rfl
 have Y:l.length=K.length+(R.length+1):=by grind
 have w:i64.wrap ((K.length:Int)+1)=((K.length+1:Nat):Int):=by grind [aA]
 rw[e,w];simp only[b,cond_false];obtain⟨k1,r,k2,E,O,rfl,k3⟩:okI (bZ l known hour v) (cA l known hour v) (l.length+1) 0 (l,(K.length:Int),((K.length+1:Nat):Int))/\∃ r,aj (bZ l known hour v) (l.length+1) 0 (l,(K.length:Int),((K.length+1:Nat):Int))=.inl r/\∃ E O,r=((E.length:Int),E++O)/\E=l.filter λx=>!bq x known hour v:=by
  refine yw (λs:List bn×Int×Int=>((l.length:Int) - s.2.2).toNat) (λs:List bn×Int×Int=>∃ E g O V,s=(E++g::(O++V),(E.length:Int),((E.length+(O.length+1):Nat):Int))/\E.length+(O.length+1)+V.length=l.length/\(l.filter λx=>!bq x known hour v)=E++V.filter λx=>!bq x known hour v) _ ?_ _ _ _ ⟨K,x,[],R,by grind,by grind,?_⟩ (by grind);rintro k s ⟨E,g,O,V,rfl,hn,hF⟩;have hL:(E++g::(O++V)).length=l.length:=by grind
  unfold cA bZ;simp only[hL];cases V with
  |nil=>
   grind
  |cons y V=>
   simp only[ak5]at hn;have e1:decide (((E.length+(O.length+1):Nat):Int) < (l.length:Int))=true:=by grind
   have gy:(E++g::(O++y::V)).getD (E.length+(O.length+1)) default=y:=by
    grind
   have w1:i64.wrap (((E.length+(O.length+1):Nat):Int)+1)=((E.length+(O.length+1)+1:Nat):Int):=by grind [aA]
   have w2:i64.wrap ((E.length:Int)+1)=((E.length+1:Nat):Int):=by grind [aA]
   simp only[e1,cond_true,ak1,gy,w1,w2];refine⟨λ_ _=>⟨by omega,λ_=>by omega⟩,.inr ?_⟩;cases hy:bq y known hour v with
   |false=>
    obtain⟨X,W,hG⟩:∃ X W,O++[y]=X::W:=by
     cases O <;>grind
    have hGl:O.length+1=W.length+1:=by have:=congrArg List.length hG;grind
    refine⟨_,rfl,by grind,E++[y],X,W,V,?_,?_,?_⟩;rw[KJ E g y _ rfl];grind [Prod.mk.injEq]
    grind
    grind
   |true=>
    refine⟨_,rfl,by simp only;omega,E,g,O++[y],V,?_,by rw[ak9];simp only[ak5,alo];omega,?_⟩ <;>grind
  simp_all
 refine⟨λ_=>⟨k1,Nd (Q:=λ_=>True) ⟨_,k2,trivial⟩,λz hz=>?_⟩,?_⟩;rw[k2]at hz;cases hz;have:(wM .B1 (E++O) (E.length:Int) ((E++O).length:Int)).length=(E++O).length:=by
  grind [wM]
 grind
 grind [Wa]
theorem Nj (l:List bn)(hour known:Int)(hl:l.length<=512):iv l hour known/\eO l hour known=stS (AB l hour known):=by
 obtain⟨m,e,X⟩:=V_ l known;have W:∀ x,bq x known hour m=((((x.kind==4) ||(decide (x.known > known))) ||(decide (x.at_ > hour))) ||pO l known x.no):=λx=>by
  grind [bq]
 obtain⟨Y,O⟩:=SW l known hour m (by omega);have V:(l.filter λx=>!bq x known hour m)=AB l hour known:=by grind [AB]
 rw[V]at O;have E:(AB l hour known).length<=l.length:=alT _ _;obtain⟨s1,s2⟩:=Nh (AB l hour known) (by omega);grind [iv,eO,d8]
theorem x6 (l:List bn):aZ l=l:=by
 obtain⟨r,h1,h2⟩:=jA (step:=dc l) (λk s=>s=l.take k) l.length 0 ([]:List bn) (by simp) (λj s _ O E=>⟨_,rfl,by simp_all⟩);simp_all [aZ]
theorem Wb (l:List bn):di l ((aZ l).map CU):=λ_=>by
 rw[x6];refine⟨jS (λk s=>s=l.take k) _ _ _ (by simp) (λj s _ E O=>⟨?_,λs' h=>?_⟩),λs h=>?_⟩;rw[ak8]at E;grind [dH]
 simp_all [dc];have:=x6 l;grind [aZ]
theorem SX (K G:List Claim):((wM .Q1 (K++G) (K.length:Int) ((K++G).length:Int)).take K.length)=K:=by
 grind [wM]
theorem PN (l:List Claim)(rs:List Int)(hl:l.length<2 ^ 47):bB l rs/\bI l rs=l.filter λx=>!bu x rs:=by
 have hI:(a8 l rs= -1/\∀ x∈l,bu x rs=false)\/∃ K x R,l=K++x::R/\a8 l rs=(K.length:Int)/\bu x rs=true/\∀ y∈K,bu y rs=false:=by
  unfold a8;rcases xv (step:=eV l rs) l default (λx=>bu x rs) (λk _=>rfl)with⟨e,h⟩ | ⟨K,x,R,h1,e,h2,h3⟩ <;>grind
 unfold bB bI;rcases hI with⟨e,h⟩ | ⟨K,x,R,hl0,e,h2,h3⟩;rw[e];refine⟨(λh=>by cases h),?_⟩;simp only[BEq.rfl,cond_true];exact(anm.2 λx hx=>by grind).symm;have b:((K.length:Int) == -1)=false:=by rfl
 have Y:l.length=K.length+(R.length+1):=by grind
 have w:i64.wrap ((K.length:Int)+1)=((K.length+1:Nat):Int):=by grind [aA]
 rw[e,w];simp only[b,cond_false];obtain⟨k1,r,k2,E,O,rfl,k3⟩:okI (bQ l rs) (cd l rs) (l.length+1) 0 (l,(K.length:Int),((K.length+1:Nat):Int))/\∃ r,aj (bQ l rs) (l.length+1) 0 (l,(K.length:Int),((K.length+1:Nat):Int))=.inl r/\∃ E O,r=((E.length:Int),E++O)/\E=l.filter λx=>!bu x rs:=by
  refine yw (λs:List Claim×Int×Int=>((l.length:Int) - s.2.2).toNat) (λs:List Claim×Int×Int=>∃ E g O V,s=(E++g::(O++V),(E.length:Int),((E.length+(O.length+1):Nat):Int))/\E.length+(O.length+1)+V.length=l.length/\(l.filter λx=>!bu x rs)=E++V.filter λx=>!bu x rs) _ ?_ _ _ _ ⟨K,x,[],R,by grind,by grind,?_⟩ (by grind);rintro k s ⟨E,g,O,V,rfl,hn,hF⟩;have hL:(E++g::(O++V)).length=l.length:=by grind
  unfold cd bQ;simp only[hL];cases V with
  |nil=>
   grind
  |cons y V=>
   simp only[ak5]at hn;have e1:decide (((E.length+(O.length+1):Nat):Int) < (l.length:Int))=true:=by grind
   have gy:(E++g::(O++y::V)).getD (E.length+(O.length+1)) default=y:=by
    grind
   have w1:i64.wrap (((E.length+(O.length+1):Nat):Int)+1)=((E.length+(O.length+1)+1:Nat):Int):=by grind [aA]
   have w2:i64.wrap ((E.length:Int)+1)=((E.length+1:Nat):Int):=by grind [aA]
   simp only[e1,cond_true,ak1,gy,w1,w2];refine⟨λ_ _=>⟨by omega,λ_=>by omega⟩,.inr ?_⟩;cases hy:bu y rs with
   |false=>
    obtain⟨X,W,hG⟩:∃ X W,O++[y]=X::W:=by
     cases O <;>grind
    have hGl:O.length+1=W.length+1:=by have:=congrArg List.length hG;grind
    refine⟨_,rfl,by grind,E++[y],X,W,V,?_,?_,?_⟩;rw[KJ E g y _ rfl];grind [Prod.mk.injEq]
    grind
    grind
   |true=>
    refine⟨_,rfl,by simp only;omega,E,g,O++[y],V,?_,by rw[ak9];simp only[ak5,alo];omega,?_⟩ <;>grind
  simp_all
 refine⟨λ_=>⟨k1,Nd (Q:=λ_=>True) ⟨_,k2,trivial⟩,λz hz=>?_⟩,?_⟩;rw[k2]at hz;cases hz;have:(wM .Q1 (E++O) (E.length:Int) ((E++O).length:Int)).length=(E++O).length:=by
  grind [wM]
 grind
 grind [SX]
theorem vN (s:C1)(rs:List Int)(E:s.c.length<=4096):jv s rs/\da s rs= { d:=s.d,c:=s.c.filter λx=>!bu x rs}:=by
 obtain⟨h1,h2⟩:=PN s.c rs (by omega);exact⟨⟨by unfold d8;omega,h1⟩,by unfold da;rw[h2]⟩
@[go_sem] def rt (l_:List Int)(k_0:Nat)(x4:Unit):Int⊕Unit:=(bif((l_.getD k_0 0) !=0)then .inl (l_.getD k_0 0)else .inr ())
def fZ (l_:List Int):Int:=(match aj (rt l_) l_.length 0 ()with| .inl u0=>u0| .inr x4=>0)
@[go_sem] def FV:List SV->Option Con:=(pR .int λl_=>(pE (.det True (.v (.int .i64 (fZ l_))))))
theorem Dy:P1 Tryz.prog 163 FV:=by
 have hG:=mG W2 W2;refine fN hG Tryz.f163 [.o] (bM λO=>(am (λY=>?_)));dsimp only[an]at Y;refine⟨nbl rfl,(λid st=>bif Nat.beq id 0 then some (LCR (ρ:=Int) (σ:=Unit) 0 [] [] (λV W=>⟨[(5,.rs .int O),(6,.v (.int .i64 (O.length:Int))),(7,.v (.int .i64 (V:Int)))],[]⟩) (rt O) pT O.length () (O.length<=aN) (λ_=>.ret) (λE=>⟨[(2,.v (.int .i64 E))],[]⟩) st)else none),?_,?_⟩;unfold ae Tryz.f163;simp only[ak,true_and,and_true];refine b_ mixed aJ hG kr (λ_=>rfl) (O.length:Int) rfl fH (λhb0 V W X _ hw hc=>⟨L0,ag _,?_⟩) (λhb0 W hc=>?_);exact bE (jl []);exact bF (jl []);unfold ae Tryz.f163;try unfold fZ
 exact zq2
def c5 (a:Claim)(b:Claim):Int:=(fZ ([(bj a.hour b.hour),(bj a.aoA b.aoA),(bj a.right b.right),(bj a.gl b.gl)]))
@[go_sem] def FW:List SV->Option Con:=(pD .Q1 λa=>(pD .Q1 λb=>(pE (.det True (.v (.int .i64 (c5 a b)))))))
theorem wi:P1 Tryz.prog 107 FW:=by
 have hG:=mG (cp eX (cn [.sl .int] Dy W2)) W2;refine fN hG Tryz.f107 [.o] (az λa=>(az λb=>(am (λE=>?_))));dsimp only[an]at E;refine⟨nbl rfl,L0,ag _,?_⟩;unfold ae Tryz.f107;try unfold c5
 exact zq2
@[go_sem] def jg (a0:ah)(a1:List Claim)(k_0:Nat)(x4:Unit):Unit⊕Unit:=letI q0:=a1.getD k_0 default;letI q1:=a0.ai.getD (Int.toNat (q0.right)) default;(bif((((!((((((((decide (q0.right>=0))&&(decide (q0.right< (a0.ai.length:Int))))&&(decide (q0.gl>=0)))&&(decide (q0.gl< (a0.zs.length:Int))))&&(decide (q0.hour>=0)))&&(decide (q0.hour<a0.hours)))&&(decide (q0.dd>=1)))&&(decide (q0.dd<=1073741824)))) ||(q1.kind !=1)) ||(q1.aoA !=q0.aoA)) ||((decide ((k_0:Int) > 0))&&(decide ((c5 (a1.getD (Int.toNat (i64.wrap ((k_0:Int) - 1))) default) q0)>=0))))then .inl ()else .inr ())
def li (a0:ah)(a1:List Claim)(k_0:Nat)(x4:Unit):Prop:=letI q1:=a1.getD k_0 default;letI q2:=a0.ai.getD (Int.toNat (q1.right)) default;letI q4:=i64.wrap ((k_0:Int) - 1);letI q5:=(a0.ai.length:Int);letI q0:= !((((((((decide (q1.right>=0))&&(decide (q1.right<q5)))&&(decide (q1.gl>=0)))&&(decide (q1.gl< (a0.zs.length:Int))))&&(decide (q1.hour>=0)))&&(decide (q1.hour<a0.hours)))&&(decide (q1.dd>=1)))&&(decide (q1.dd<=1073741824)));letI q3:=0<=q1.right/\q1.right<q5;((q0=false->q3)/\(((q0||(q2.kind !=1))=false->q3)/\(((q0||(q2.kind !=1)) ||(q2.aoA !=q1.aoA))=false->((decide ((k_0:Int) > 0))=true->(0<=q4/\q4< (a1.length:Int))))))
def dI (a0:ah)(a1:List Claim):Int:=(bif((aw a0) !=0)then(aw a0)else(bif(decide ((a1.length:Int) > 4096))then 2 else(match aj (jg a0 a1) a1.length 0 ()with| .inl u0=>260| .inr x4=>0)))
def oS (a0:ah)(a1:List Claim):Prop:=(((aw a0) !=0)=false->(a1.length<=aN->((decide ((a1.length:Int) > 4096))=false->(a1.length<=aN->okI (jg a0 a1) (li a0 a1) a1.length 0 ()))))
@[go_sem] def FX:List SV->Option Con:=(pD .al λa0=>(pR .Q1 λa1=>(pE (.det (oS a0 a1) (.v (.int .i64 (dI a0 a1)))))))
theorem Dz:P1 Tryz.prog 117 FX:=by
 have hG:=mG (cn [.st .al] nI (cp wi W2)) W2;refine fN hG Tryz.f117 [.o] (az λa0=>(bM λa1=>(am (λX=>?_))));dsimp only[an]at X;unfold oS at X;refine⟨nbl rfl,(λid st=>bif Nat.beq id 0 then some (LCR (ρ:=Unit) (σ:=Unit) 1 [] [0] (λE V=>⟨[(1,.rs .Q1 a1),(2,.ptr 0 0),(16,.rs .Q1 a1),(17,.v (.int .i64 (a1.length:Int))),(18,.v (.int .i64 (E:Int)))],[.cells (cellsOf .al a0)]⟩) (jg a0 a1) (li a0 a1) a1.length () (a1.length<=aN) (λ_=>.ret) (λW=>⟨[(4,.v (.int .i64 260))],[.dead]⟩) st)else none),?_,?_⟩;unfold ae Tryz.f117;simp only[ak,true_and,and_true];refine b_ mixed aJ hG kr (λ_=>rfl) (a1.length:Int) rfl fH (λhb0 E V Y O hw hc=>⟨L0,ag _,?_⟩) (λhb0 V hc=>?_);unfold li at O;try simp only[hw,ak1]at O
 exact bE (jl [0]);exact bF (jl [0]);unfold ae Tryz.f117;try unfold dI
 exact zq2
@[go_sem] def kG (a0:ah)(a1:Int)(k_0:Nat)(x4:List (aou×Bool)×List (Int×Int)×List (aou×Bool)):Empty⊕(List (aou×Bool)×List (Int×Int)×List (aou×Bool)):=letI q0:=a0.ai.getD k_0 default;letI q1:=({ gl:=q0.gl,reach:=q0.reach}:aou);letI q2:=(x4.1,x4.2.1,x4.2.2);(bif((decide (a1<q0.since)) ||(decide (a1 > q0.to)))then .inr q2 else(bif(q0.kind==3)then .inr ((cH .X1 .bool x4.1 q1 true),x4.2.1,x4.2.2)else(bif((q0.kind==2)&&(!(aq .X1 .bool x4.2.2 q1)))then .inr (x4.1,(cH .int .int x4.2.1 (q0.reach) (i64.wrap ((aq .int .int x4.2.1 (q0.reach))+1))),(cH .X1 .bool x4.2.2 q1 true))else .inr q2)))
def cK (a0:ah)(a1:Int):ao4:=(match aj (kG a0 a1) a0.ai.length 0 ([],[],[])with| .inl x=>x.elim| .inr x4=>({ apD:=x4.2.1,owned:=x4.2.2,apy:=x4.1}:ao4))
@[go_sem] def FY:List SV->Option Con:=(pD .al λa0=>(pI λa1=>(pE (.det True (.agg [.nm .int .int ((cK a0 a1).apD),.nm .X1 .bool ((cK a0 a1).owned),.nm .X1 .bool ((cK a0 a1).apy)])))))
theorem DA:P1 Tryz.prog 99 FY:=by
 have hG:=mG W2 W2;refine fE hG Tryz.f99 (az λa0=>(aG λa1=>(am (λW=>?_))));dsimp only[an]at W;refine⟨nbl rfl,(λid st=>bif Nat.beq id 0 then some (LCR (ρ:=Empty) (σ:=(List (aou×Bool)×List (Int×Int)×List (aou×Bool))) 6 [] [0,1,2,3,4,5] (λO E=>⟨[(1,.v (.int .i64 a1)),(4,.ptr 1 0),(5,.ptr 5 0),(14,.rs .right a0.ai),(15,.v (.int .i64 (a0.ai.length:Int))),(16,.v (.int .i64 (O:Int)))],[.dead,.cells [.v (.map none),.v (.map none),.v (.map none)],.mp .int .int E.2.1 none,.mp .X1 .bool E.2.2 none,.mp .X1 .bool E.1 none,.cells [.os 2,.os 3,.os 4]]⟩) (kG a0 a1) pT a0.ai.length ([],[],[]) (a0.ai.length<=aN) ((·.elim)) ((·.elim)) st)else none),?_,?_⟩;unfold ae Tryz.f99;simp only[ak,true_and,and_true];refine b_ mixed aJ hG kr (λ_=>rfl) (a0.ai.length:Int) rfl fH (λhb0 O E V _ hw hc=>⟨L0,ag _,?_⟩) (λhb0 E hc=>?_);exact bE (jl [0,1,2,3,4,5]);exact bF (jl [0,1,2,3,4,5]);unfold ae Tryz.f99;try unfold cK
 exact zq2
def lX (x:ao4)(u:aou):Bool:=(bif(aq .X1 .bool x.owned u)then(((i64.wrap ((aq .int .int x.apD u.reach) - 1)) ==0) ||(aq .X1 .bool x.apy u))else(((aq .int .int x.apD u.reach) ==0) ||(aq .X1 .bool x.apy u)))
@[go_sem] def BZ:List SV->Option Con:=(pD .aoP λx=>(pD .X1 λu=>(pE (.det True (.v (.bool (lX x u)))))))
theorem AC:P1 Tryz.prog 104 BZ:=by
 have hG:=mG W2 W2;refine fN hG Tryz.f104 [.o] (az λx=>(az λu=>(am (λE=>?_))));dsimp only[an]at E;refine⟨nbl rfl,L0,ag _,?_⟩;unfold ae Tryz.f104;try unfold lX
 exact zq2
def rV (r:Int)(x_:ao4)(c_:Claim):Bool:=(!(lX x_ ({ gl:=c_.gl,reach:=r}:aou)))
@[go_sem] def FZ:List SV->Option Con:=(pI λr=>(pX .aoP λx_=>(pX .Q1 λc_=>(pE (.det True (.v (.bool (rV r x_ c_))))))))
theorem DB:P1 Tryz.prog 103 FZ:=by
 have hG:=mG (cn [.st .aoP,.st .X1] AC W2) W2;refine fN hG Tryz.f103 [.o] (aG λr=>(gu λV=>(gu λO=>(am (λE=>?_)))));dsimp only[an]at E;refine⟨nbl rfl,L0,ag _,?_⟩;unfold ae Tryz.f103;try unfold rV
 exact zq2
def fI (a:Y2)(b:Y2):Int:=(c5 a.Q1 b.Q1)
@[go_sem] def xw:List SV->Option Con:=(pD .aom λa=>(pD .aom λb=>(pE (.det True (.v (.int .i64 (fI a b)))))))
theorem DC:P1 Tryz.prog 106 xw:=by
 have hG:=mG (cp wi W2) W2;refine fN hG Tryz.f106 [.o] (az λa=>(az λb=>(am (λE=>?_))));dsimp only[an]at E;refine⟨nbl rfl,L0,ag _,?_⟩;unfold ae Tryz.f106;try unfold fI
 exact zq2
@[go_sem] def fP (s_:List Int)(x_:ao4)(c_:Claim)(k_0:Nat)(x4:Unit):Int⊕Unit:=(bif(rV (s_.getD k_0 0) x_ c_)then .inl (k_0:Int)else .inr ())
def dM (s_:List Int)(x_:ao4)(c_:Claim):Int:=(match aj (fP s_ x_ c_) s_.length 0 ()with| .inl u0=>u0| .inr x4=>(-1))
@[go_sem] def lY:List SV->Option Con:=(pR .int λs_=>(pFn 103 (pX .aoP λx_=>(pX .Q1 λc_=>(pE ((pE (.det True (.v (.int .i64 (dM s_ x_ c_)))))))))))
theorem rW:P1 Tryz.prog 102 lY:=by
 have hG:=mG (cp DB W2) W2;refine fN hG Tryz.f102 [.o] (bM λO=>(oC (gu λY=>(gu λX=>(am ((am (λhp=>?_))))))));dsimp only[an]at hp;refine⟨nbl rfl,(λid st=>bif Nat.beq id 0 then some (LCR (ρ:=Int) (σ:=Unit) 0 [] [] (λV W=>⟨[(0,.rs .int O),(1,.fn 103 [] [.ep (cellsOf .aoP Y) 0,.ep (cellsOf .Q1 X) 0]),(7,.v (.int .i64 (O.length:Int))),(8,.v (.int .i64 (V:Int)))],[]⟩) (fP O Y X) pT O.length () (O.length<=aN) (λ_=>.ret) (λE=>⟨[(4,.v (.int .i64 E))],[]⟩) st)else none),?_,?_⟩;unfold ae Tryz.f102;simp only[ak,true_and,and_true];refine b_ mixed aJ hG kr (λ_=>rfl) (O.length:Int) rfl fH (λhb0 V W apq _ hw hc=>⟨L0,ag _,?_⟩) (λhb0 W hc=>?_);exact bE (jl []);exact bF (jl []);unfold ae Tryz.f102;try unfold dM
 exact zq2
@[go_sem] noncomputable def fQ:List SV->Option Con:=λl=>(lY l)
def rz:P1 Tryz.prog 102 fQ:=rW
theorem qW {l0 l1:List Nat}(a0:JL l0)(a1:JL l1){p:Prop}(h:JL l0->JL l1->p:=by intro ja jb;simp only[go_sem];all_goals exact gw ja jb):p:=h a0 a1
def iV (x:bn)(right:Bool)(fr:Bool)(to:Bool)(parts:Bool)(of_:Bool):Bool:=(((((right||(x.right==0))&&(fr||(x.since==0)))&&(to||(x.to==0)))&&(parts||((x.parts.length:Int) ==0)))&&(of_||(x.of_==0)))
@[go_sem] def KM:List SV->Option Con:=(pD .B1 λx=>(pB λright=>(pB λfr=>(pB λto=>(pB λparts=>(pB λof_=>(pE (.det True (.v (.bool (iV x right fr to parts of_)))))))))))
theorem HR:P1 Tryz.prog 253 KM:=by
 have hG:=mG W2 W2;refine fN hG Tryz.f253 [.o] (az λx=>(BC λright=>(BC λfr=>(BC λto=>(BC λE=>(BC λV=>(am (λO=>?_))))))));dsimp only[an]at O;refine⟨nbl rfl,L0,ag _,?_⟩;unfold ae Tryz.f253;try unfold iV
 exact zq2
def mF (d:ah)(x:bn):Bool:=(((((decide (x.right>=0))&&(decide (x.right< (d.ai.length:Int))))&&((d.ai.getD (Int.toNat x.right) default).kind==1))&&(decide (x.since>=0)))&&(decide (x.since< (d.zs.length:Int))))
def oT (d:ah)(x:bn):Prop:=(((decide (x.right>=0))&&(decide (x.right< (d.ai.length:Int))))=true->(0<=x.right/\x.right< (d.ai.length:Int)))
@[go_sem] def F0:List SV->Option Con:=(pD .al λd=>(pD .B1 λx=>(pE (.det (oT d x) (.v (.bool (mF d x)))))))
theorem DD:P1 Tryz.prog 254 F0:=by
 have hG:=mG W2 W2;refine fN hG Tryz.f254 [.o] (az λd=>(az λx=>(am (λE=>?_))));dsimp only[an]at E;unfold oT at E;refine⟨nbl rfl,L0,ag _,?_⟩;unfold ae Tryz.f254;try unfold mF
 exact zq2
@[go_sem] def j6 (a1:List Part)(k_0:Nat)(k_1:Nat)(s_1:Unit):Unit⊕Unit:=(bif((a1.getD k_1 default).gl==(a1.getD k_0 default).gl)then .inl ()else .inr ())
def pP (a1:List Part)(k_0:Nat)(k_1:Nat)(s_1:Unit):Prop:=(0<=(k_1:Int)/\(k_1:Int) < (a1.length:Int))
@[go_sem] def lZ (a0:ah)(a1:List Part)(k_0:Nat)(x4:Int×Int):Unit⊕(Int×Int):=letI q1:=a1.getD k_0 default;letI q0:=sg ({ n:=x4.1,d:=x4.2}:W1) (q1.share);(bif((((decide (q1.gl<0)) ||(decide (q1.gl>=(a0.zs.length:Int)))) ||(!(eD (q1.share)))) ||(decide (q1.share.n<=0)))then .inl ()else(match aj (j6 a1 k_0) (Int.toNat (k_0:Int)) 0 ()with| .inl ape=>.inl () | .inr s_1=>(bif(q0.2 !=0)then .inl ()else .inr ((q0.1).n,(q0.1).d))))
def pY (a0:ah)(a1:List Part)(k_0:Nat)(x4:Int×Int):Prop:=letI q0:=a1.getD k_0 default;letI q1:=decide (q0.gl>=(a0.zs.length:Int));letI q2:=j6 a1 k_0;letI q3:=Int.toNat (k_0:Int);letI q4:=decide (q0.gl<0);(a1.length<=aN->(((q4||q1)=false->(iJ (q0.share)))/\((((q4||q1) ||(!(eD (q0.share)))) ||(decide (q0.share.n<=0)))=false->(((k_0:Int) <9223372036854775808)/\okI q2 (pP a1 k_0) q3 0 ()/\(∀ s_1,aj q2 q3 0 ()=.inr s_1->(qP ({ n:=x4.1,d:=x4.2}:W1) (q0.share)))))))
def qX (a0:ah)(a1:List Part):Bool:=(bif((decide ((a1.length:Int) <1)) ||(decide ((a1.length:Int) > 16)))then false else(match aj (lZ a0 a1) a1.length 0 (0,1)with| .inl u0=>false| .inr x4=>(x4.1==x4.2)))
def qr (a0:ah)(a1:List Part):Prop:=(a1.length<=aN->(((decide ((a1.length:Int) <1)) ||(decide ((a1.length:Int) > 16)))=false->okI (lZ a0 a1) (pY a0 a1) a1.length 0 (0,1)))
@[go_sem] def HS:List SV->Option Con:=(pD .al λa0=>(pR .part λa1=>(pE (.det (qr a0 a1) (.v (.bool (qX a0 a1)))))))
theorem F4:P1 Tryz.prog 255 HS:=by
 have hG:=mG (cp oN (cp KE W2)) W2;refine fN hG Tryz.f255 [.o] (az λa0=>(bM λa1=>(am (λhp=>?_))));dsimp only[an]at hp;unfold qr at hp;refine⟨nbl rfl,(λid st=>bif Nat.beq id 0 then some (LCR (ρ:=Unit) (σ:=(Int×Int)) 2 [] [0,1] (λE O=>⟨[(1,.rs .part a1),(2,.ptr 0 0),(5,.ptr 1 0),(6,.v (.int .i64 (E:Int)))],[.cells (cellsOf .al a0),.cells [.v (.int .i64 O.1),.v (.int .i64 O.2)]]⟩) (lZ a0 a1) (pY a0 a1) a1.length (0,1) (True) (λ_=>.ret) (λu0=>⟨[(4,.v (.bool false))],[.dead,.dead]⟩) st)else none),?_,?_⟩;unfold ae Tryz.f255;simp only[ak,true_and,and_true];refine d9 (a1.length<=aN) mixed aJ hG kr (λ_=>rfl) (a1.length:Int) rfl fH (λhb0 E O apq W hw hc=>⟨(λid st=>bif Nat.beq id 2 then some (LCR (ρ:=Unit) (σ:=Unit) 3 [] [0,1,2] (λX V=>⟨[(1,.rs .part a1),(2,.ptr 0 0),(5,.ptr 1 0),(6,.v (.int .i64 (E:Int))),(7,.ptr 2 0),(8,.v (.int .i64 (X:Int)))],[.cells (cellsOf .al a0),.cells [.v (.int .i64 O.1),.v (.int .i64 O.2)],.cells (cellsOf .part (a1.getD E (default:Part)))]⟩) (j6 a1 E) (pP a1 E) (Int.toNat (E:Int)) () ((E:Int) <9223372036854775808) (λ_=>.ret) (λY=>⟨[(4,.v (.bool false))],[.dead,.dead,.dead]⟩) st)else none),?_,?_⟩) (λhb0 O hc=>?_) λhb0 E O=>?_;simp only[ak,true_and,and_true];refine b_ mixed aJ hG kr (λ_=>rfl) (E:Int) rfl id (λhb1 X V apU hq1 hw hc=>⟨L0,ag _,?_⟩) (λhb1 V hc=>?_);unfold pP at hq1;try simp only[hw,ak1]at hq1
 exact bE (jl [0,1,2]);exact bF (jl [0,1,2]);unfold pY at W;try simp only[hw,ak1]at W
 exact bE (jl [0,1]);exact bF (jl [0,1]);exact zq8;unfold ae Tryz.f255;try unfold qX
 exact zq2
@[go_sem] def sW (l_:List bn)(of_:Int)(k_0:Nat)(x4:Unit):Int⊕Unit:=(bif(((l_.getD k_0 default).no==of_)&&((l_.getD k_0 default).kind !=4))then .inl (k_0:Int)else .inr ())
def l7 (l_:List bn)(of_:Int):Int:=(match aj (sW l_ of_) l_.length 0 ()with| .inl u0=>u0| .inr x4=>(-1))
@[go_sem] def HT:List SV->Option Con:=(pR .B1 λl_=>(pI λof_=>(pE (.det True (.v (.int .i64 (l7 l_ of_)))))))
theorem F6:P1 Tryz.prog 256 HT:=by
 have hG:=mG W2 W2;refine fN hG Tryz.f256 [.o] (bM λW=>(aG λX=>(am (λhp=>?_))));dsimp only[an]at hp;refine⟨nbl rfl,(λid st=>bif Nat.beq id 0 then some (LCR (ρ:=Int) (σ:=Unit) 0 [] [] (λO V=>⟨[(0,.rs .B1 W),(1,.v (.int .i64 X)),(5,.v (.int .i64 (O:Int)))],[]⟩) (sW W X) pT W.length () (True) (λ_=>.ret) (λE=>⟨[(4,.v (.int .i64 E))],[]⟩) st)else none),?_,?_⟩;unfold ae Tryz.f256;simp only[ak,true_and,and_true];refine d9 (W.length<=aN) mixed aJ hG kr (λ_=>rfl) (W.length:Int) rfl fH (λhb0 O V Y _ hw hc=>⟨L0,ag _,?_⟩) (λhb0 V hc=>?_) λhb0 O V=>?_;exact bE (jl []);exact bF (jl []);exact zq8;unfold ae Tryz.f256;try unfold l7
 exact zq2
def qY (a0:ah)(a1:List bn)(a2:bn):Bool:=letI q0:=mF a0 a2;letI q1:=l7 a1 a2.of_;(bif((((((decide (a2.no<0)) ||(decide (a2.no > 1048576))) ||(decide (a2.at_<0))) ||(decide (a2.at_ > 4096))) ||(decide (a2.known<0))) ||(decide (a2.known > 1048576)))then false else(bif(a2.kind==1)then(((((iV a2 true true true false false)&&q0)&&(decide (a2.to>=0)))&&(decide (a2.to< (a0.zs.length:Int))))&&(a2.to !=a2.since))else(bif(a2.kind==2)then(((iV a2 true true false true false)&&q0)&&(qX a0 a2.parts))else(bif(a2.kind==3)then((iV a2 true true false false false)&&q0)else(bif(a2.kind==4)then(((iV a2 false false false false true)&&(decide (q1>=0)))&&(decide (a2.known>=(a1.getD (Int.toNat q1) default).known)))else false)))))
def qs (a0:ah)(a1:List bn)(a2:bn):Prop:=letI q0:=l7 a1 a2.of_;letI q1:=oT a0 a2;letI q2:=iV a2 true true false true false;(((((((decide (a2.no<0)) ||(decide (a2.no > 1048576))) ||(decide (a2.at_<0))) ||(decide (a2.at_ > 4096))) ||(decide (a2.known<0))) ||(decide (a2.known > 1048576)))=false->(((a2.kind==1)=true->((iV a2 true true true false false)=true->q1))/\((a2.kind==1)=false->(((a2.kind==2)=true->((q2=true->q1)/\((q2&&(mF a0 a2))=true->(qr a0 a2.parts))))/\((a2.kind==2)=false->(((a2.kind==3)=true->((iV a2 true true false false false)=true->q1))/\((a2.kind==3)=false->((a2.kind==4)=true->(((iV a2 false false false false true)&&(decide (q0>=0)))=true->(0<=q0/\q0< (a1.length:Int)))))))))))
@[go_sem] def HU:List SV->Option Con:=(pD .al λa0=>(pR .B1 λa1=>(pD .B1 λa2=>(pE (.det (qs a0 a1 a2) (.v (.bool (qY a0 a1 a2))))))))
theorem F7:P1 Tryz.prog 184 HU:=by
 have hG:=mG (cn [.st .B1,.o,.o,.o,.o,.o] HR (cn [.st .al,.st .B1] DD (cn [.st .al,.sl .part] F4 (cn [.sl .B1,.o] F6 W2)))) W2;refine fN hG Tryz.f184 [.o] (az λa0=>(bM λa1=>(az λO=>(am (λE=>?_)))));dsimp only[an]at E;unfold qs at E;refine⟨nbl rfl,L0,ag _,?_⟩;unfold ae Tryz.f184;try unfold qY
 exact zq2
@[go_sem] def kS (l_:List bn)(k_0:Nat)(x4:Unit):Unit⊕Unit:=(bif(decide ((((l_.getD k_0 default).parts).length:Int) > 16))then .inl ()else .inr ())
def pZ (l_:List bn):Bool:=(bif(decide ((l_.length:Int) > 512))then true else(match aj (kS l_) l_.length 0 ()with| .inl u0=>true| .inr x4=>false))
@[go_sem] def KN:List SV->Option Con:=(pR .B1 λl_=>(pE (.det True (.v (.bool (pZ l_))))))
theorem HV:P1 Tryz.prog 183 KN:=by
 have hG:=mG W2 W2;refine fN hG Tryz.f183 [.o] (bM λV=>(am (λY=>?_)));dsimp only[an]at Y;refine⟨nbl rfl,(λid st=>bif Nat.beq id 0 then some (LCR (ρ:=Unit) (σ:=Unit) 0 [] [] (λE O=>⟨[(0,.rs .B1 V),(3,.v (.int .i64 (E:Int)))],[]⟩) (kS V) pT V.length () (True) (λ_=>.ret) (λW=>⟨[(2,.v (.bool true))],[]⟩) st)else none),?_,?_⟩;unfold ae Tryz.f183;simp only[ak,true_and,and_true];refine d9 (V.length<=aN) mixed aJ hG kr (λ_=>rfl) (V.length:Int) rfl fH (λhb0 E O X _ hw hc=>⟨L0,ag _,?_⟩) (λhb0 O hc=>?_) λhb0 E O=>?_;exact bE (jl []);exact bF (jl []);exact zq8;unfold ae Tryz.f183;try unfold pZ
 exact zq2
@[go_sem] def l8 (d:ah)(l_:List bn)(k_0:Nat)(x4:Unit):Unit⊕Unit:=(bif(((decide ((k_0:Int) > 0))&&(decide ((l_.getD k_0 default).no<=(l_.getD (Int.toNat (i64.wrap ((k_0:Int) - 1))) default).no))) ||(!(qY d ((l_.take k_0).drop 0) (l_.getD k_0 default))))then .inl ()else .inr ())
def p8 (d:ah)(l_:List bn)(k_0:Nat)(x4:Unit):Prop:=letI q2:=(k_0:Int);letI q1:=i64.wrap (q2 - 1);letI q3:=l_.getD k_0 default;letI q0:=(decide (q2 > 0))&&(decide (q3.no<=(l_.getD (Int.toNat q1) default).no));(l_.length<=aN->(((decide (q2 > 0))=true->(0<=q1/\q1< (l_.length:Int)))/\((q0=false->(0<=0/\0<=q2/\q2<=(l_.length:Int)))/\(q0=false->(qs d ((l_.take k_0).drop 0) q3)))))
def kf (d:ah)(l_:List bn):Int:=(bif((lW d) !=0)then(lW d)else(bif(pZ l_)then 2 else(match aj (l8 d l_) l_.length 0 ()with| .inl u0=>250| .inr x4=>0)))
def nj (d:ah)(l_:List bn):Prop:=((qn d)/\(((lW d) !=0)=false->((pZ l_)=false->okI (l8 d l_) (p8 d l_) l_.length 0 ())))
@[go_sem] def HW:List SV->Option Con:=(pD .al λd=>(pR .B1 λl_=>(pE (.det (nj d l_) (.v (.int .i64 (kf d l_)))))))
theorem xx:P1 Tryz.prog 126 HW:=by
 have hG:=mG (cn [.st .al] FL (cn [.sl .B1] HV (cn [.st .al,.sl .B1,.st .B1] F7 W2))) W2;refine fN hG Tryz.f126 [.o] (az λd=>(bM λV=>(am (λY=>?_))));dsimp only[an]at Y;unfold nj at Y;refine⟨nbl rfl,(λid st=>bif Nat.beq id 0 then some (LCR (ρ:=Unit) (σ:=Unit) 1 [] [0] (λE O=>⟨[(1,.rs .B1 V),(2,.ptr 0 0),(6,.v (.int .i64 (E:Int)))],[.cells (cellsOf .al d)]⟩) (l8 d V) (p8 d V) V.length () (True) (λ_=>.ret) (λX=>⟨[(4,.v (.int .i64 250))],[.dead]⟩) st)else none),?_,?_⟩;unfold ae Tryz.f126;simp only[ak,true_and,and_true];refine d9 (V.length<=aN) mixed aJ hG kr (λ_=>rfl) (V.length:Int) rfl fH (λhb0 E O apq W hw hc=>⟨L0,ag _,?_⟩) (λhb0 O hc=>?_) λhb0 E O=>?_;unfold p8 at W;try simp only[hw,ak1]at W
 exact bE (jl [0]);exact bF (jl [0]);exact zq8;unfold ae Tryz.f126;try unfold kf
 exact zq2
@[go_sem] def kT (l_:List bn)(x:bn)(known:Int)(k_0:Nat)(x4:Unit):Unit⊕Unit:=(bif((((l_.getD k_0 default).kind==4)&&((l_.getD k_0 default).of_==x.no))&&(decide ((l_.getD k_0 default).known<=known)))then .inl ()else .inr ())
def p9 (l_:List bn)(x:bn)(known:Int):Bool:=(match aj (kT l_ x known) l_.length 0 ()with| .inl u0=>true| .inr x4=>false)
@[go_sem] def KO:List SV->Option Con:=(pR .B1 λl_=>(pD .B1 λx=>(pI λknown=>(pE (.det True (.v (.bool (p9 l_ x known))))))))
theorem HX:P1 Tryz.prog 257 KO:=by
 have hG:=mG W2 W2;refine fN hG Tryz.f257 [.o] (bM λV=>(az λx=>(aG λknown=>(am (λY=>?_)))));dsimp only[an]at Y;refine⟨nbl rfl,(λid st=>bif Nat.beq id 0 then some (LCR (ρ:=Unit) (σ:=Unit) 1 [] [0] (λE O=>⟨[(0,.rs .B1 V),(2,.v (.int .i64 known)),(4,.ptr 0 0),(7,.v (.int .i64 (E:Int)))],[.cells (cellsOf .B1 x)]⟩) (kT V x known) pT V.length () (True) (λ_=>.ret) (λW=>⟨[(6,.v (.bool true))],[.dead]⟩) st)else none),?_,?_⟩;unfold ae Tryz.f257;simp only[ak,true_and,and_true];refine d9 (V.length<=aN) mixed aJ hG kr (λ_=>rfl) (V.length:Int) rfl fH (λhb0 E O X _ hw hc=>⟨L0,ag _,?_⟩) (λhb0 O hc=>?_) λhb0 E O=>?_;exact bE (jl [0]);exact bF (jl [0]);exact zq8;unfold ae Tryz.f257;try unfold p9
 exact zq2
@[go_sem] def ii (l_:List bn)(known:Int)(x4:List bn×Int)(k_1:Nat)(s_1:List bn):Empty⊕(List bn):=(bif(((((l_.getD k_1 default).at_==x4.2)&&((l_.getD k_1 default).kind !=4))&&(decide ((l_.getD k_1 default).known<=known)))&&(!(p9 l_ (l_.getD k_1 default) known)))then .inr (s_1++([(l_.getD k_1 default)]))else .inr s_1)
def mT (l_:List bn)(known:Int)(x4:List bn×Int)(k_1:Nat)(s_1:List bn):Prop:=letI q0:=l_.getD k_1 default;(l_.length<=aN->(((((q0.at_==x4.2)&&(q0.kind !=4))&&(decide (q0.known<=known)))&&(!(p9 l_ q0 known)))=true->((s_1++([q0])).length*88<=d8)))
@[go_sem] def f7 (l_:List bn)(hour:Int)(known:Int)(k_0:Nat)(x4:List bn×Int):(List bn)⊕(List bn×Int):=(bif((decide (x4.2<=4096))&&(decide (x4.2<=hour)))then(match aj (ii l_ known x4) l_.length 0 x4.1 with| .inl x=>x.elim| .inr s_1=>.inr (s_1,(i64.wrap (x4.2+1))))else .inl x4.1)
def ix (l_:List bn)(hour:Int)(known:Int)(k_0:Nat)(x4:List bn×Int):Prop:=(((decide (x4.2<=4096))&&(decide (x4.2<=hour)))=true->okI (ii l_ known x4) (mT l_ known x4) l_.length 0 x4.1)
def dw (l_:List bn)(hour:Int)(known:Int):List bn:=(match aj (f7 l_ hour known) (Int.toNat hour+2) 0 ([],0)with| .inl u0=>u0| .inr x4=>default)
def j7 (l_:List bn)(hour:Int)(known:Int):Prop:=(okI (f7 l_ hour known) (ix l_ hour known) (Int.toNat hour+2) 0 ([],0)/\(∀ z_,aj (f7 l_ hour known) (Int.toNat hour+2) 0 ([],0)≠ .inr z_))
@[go_sem] def B3:List SV->Option Con:=(pR .B1 λl_=>(pI λhour=>(pI λknown=>(pE (.det (j7 l_ hour known) (.nw .B1 (dw l_ hour known)))))))
theorem AD:P1 Tryz.prog 185 B3:=by
 have hG:=mG (cn [.sl .B1,.st .B1,.o] HX W2) W2;refine fW hG Tryz.f185 [(.tmp 6,.B1)] (bM λO=>(aG λhour=>(aG λknown=>(am (λhp=>?_)))));dsimp only[an]at hp;unfold j7 at hp;refine⟨nbl rfl,(λid st=>bif Nat.beq id 0 then some (LCV (ρ:=(List bn)) (σ:=(List bn×Int)) 0 [.slot 7 (.row .B1 ([]))] [0] (λY E=>⟨[(0,.rs .B1 O),(1,.v (.int .i64 hour)),(2,.v (.int .i64 known)),(7,.os 0),(8,.v (.int .i64 E.2))],[.row .B1 E.1]⟩) (f7 O hour known) (ix O hour known) (Int.toNat hour+2) ([],0) (λ_=>.normal) (λW=>⟨[(7,.os 0)],[.row .B1 W]⟩) st)else none),?_,?_⟩;unfold ae Tryz.f185;simp only[ak,true_and,and_true];refine eW mixed aJ hG kr (λ_=>rfl) λY E hq0=>⟨(λid st=>bif Nat.beq id 2 then some (LCR (ρ:=Empty) (σ:=(List bn)) 1 [] [0,0] (λX V=>⟨[(0,.rs .B1 O),(1,.v (.int .i64 hour)),(2,.v (.int .i64 known)),(7,.os 1),(8,.v (.int .i64 E.2)),(9,.v (.int .i64 (X:Int)))],[.dead,.row .B1 V]⟩) (ii O known E) (mT O known E) O.length E.1 (True) ((·.elim)) ((·.elim)) st)else none),?_,?_⟩;simp only[ak,true_and,and_true];refine d9 (O.length<=aN) mixed aJ hG kr (λ_=>rfl) (O.length:Int) rfl fH (λhb1 X V apU hq1 hw hc=>⟨L0,ag _,?_⟩) (λhb1 V hc=>?_) λhb1 X V=>?_;unfold mT at hq1;try simp only[hw,ak1]at hq1
 exact sP (jl [0,4]) (jl [0,1]);exact sQ (jl [0,4]) (jl [0,1]);exact Pz;unfold ix at hq0;exact qW (jl [1]) (jl [0]);unfold ae Tryz.f185;try unfold dw
 exact zq2
end Go.Sx
end
