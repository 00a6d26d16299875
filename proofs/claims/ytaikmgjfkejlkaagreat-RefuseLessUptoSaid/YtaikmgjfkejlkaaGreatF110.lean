/- Part of the proof that the law RefuseLess returns true and leaves its arguments as they were, for all arguments of bulk at most 1048576 (the Upto form). -/
import Derived.Test.YtaikmgjfkejlkaaGreatF109
import Derived.Test.YtaikmgjfkejlkaaGreatF108
import Derived.Sort.Statements
import Derived.Shelf.SlSortCmp.Insertion
import Derived.Test.YtaikmgjfkejlkaaGreatF107
set_option linter.all false
set_option maxHeartbeats 4000000
set_option maxRecDepth 100000
section
namespace Go.Sx
open Go.Proofs
open IntKind (i64 u64)
theorem jv (x y:Int):bj x y=if x<y then -1 else if x > y then 1 else 0:=by
 unfold bj kQ;simp[amE]
def OM (x:Int)(l:List Int):jB (x::l)=if x=0 then jB l else x:=by
 have key:∀ l:List Int,jB l=match dC (ρ:=Int) (λ(x:Int) (_:Unit) =>bif(x !=0)then .inl x else .inr ()) l ()with| .inl y=>y| .inr _=>0:=λl=>by
  unfold jB;have:=rK (ρ:=Int) (λ(x:Int) (_:Unit) =>bif(x !=0)then .inl x else .inr ()) 0 l ();rw[<-this];rfl
 rw[key,key];simp only[dC];by_cases h:x=0
 subst h;rfl;have:(x !=0)=true:=by simpa using h
 rw[if_neg h,this];rfl
def SC:jB []=0:=rfl
def oO:List (Int×Int)->Prop
 | [] =>False|(a,b)::r=>a<b\/a=b/\oO r
def Bt:∀ l:List (Int×Int),(jB (l.map λp=>bj p.1 p.2) <0↔oO l)
 | [] =>by simp[SC,oO]
 |(a,b)::r=>by
  have hc:=jv a b;simp only[amh,OM,hc,oO];rcases an3 a b with h|h|h;simp[h];subst h;simp only[aoA,if_false,if_true,true_and,false_or,gt_iff_lt];exact Bt r;have h1:¬a<b:=by omega
  have h2:a≠b:=by omega
  simp[h1,h2,h]
def hlt (a b:aoS):Prop:=oO [(a.right,b.right),(a.ee,b.ee)]
def E_ (a b:aoS):cU a b<0↔hlt a b:=Bt [(a.right,b.right),(a.ee,b.ee)]
open Go.Shelf Go.Sort in
def J_ {α:Type}{f:α->α->Int}{r:α->α->Prop}(e:∀ x y,f x y<0↔r x y)(h1:∀ x,¬r x x)(h2:∀ x y z,r x y->r y z->r x z)(U:∀ x y z,¬r x y->¬r y z->¬r x z):SWO (ltOf f):=by
 have E:∀ x y,ltOf f x y=true↔r x y:=λx y=>by unfold ltOf;rw[decide_eq_true_eq,e]
 have O:∀ x y,ltOf f x y=false↔¬r x y:=λx y=>by rw[<-E];simp
 exact⟨λx=>(O x x).2 (h1 x),λx y z a b=>(E x z).2 (h2 x y z ((E x y).1 a) ((E y z).1 b)),λx y z a b=>(O x z).2 (U x y z ((O x y).1 a) ((O y z).1 b))⟩
open Go.Shelf Go.Sort in
def Cq:SWO (ltOf cU):=J_ E_ (λx=>by simp only[hlt,oO,and_false,or_false];omega) (λx y z h1 h2=>by simp only[hlt,oO,and_false,or_false]at *;omega) (λx y z h1 h2=>by simp only[hlt,oO,and_false,or_false]at *;omega)
variable {n:Nat}
theorem mB{i:Nat}{step:Nat->Unit->Unit⊕Unit}{s:Unit}(h:aj step n i s=.inr s):∀ j,i<=j->j<i+n->step j ()=.inr ():=by
 induction n generalizing i with
 |zero=>omega
 |succ n E=>
  grind [aj]
theorem iA {b:Bool}{e:Int}:dE b e=b:=by
 cases b <;>rfl
variable {c:Int}
theorem vn{a b:Int}(h:aJ [a,b,c]=true):a<=b/\b<=c:=by
 unfold aJ at h;simp only[aly,alJ,alF,Nat.reduceAdd,Nat.reduceSub]at h;split at h
 cases h;rename_i s E;have O:=mB E 0 (by omega) (by omega);have h1:=mB E 1 (by omega) (by omega);grind [cy,IntKind.wrap,IntKind.bits,IntKind.signed]
theorem qm{a b d:Int}(h:aJ [a,b,c,d]=true):a<=b/\b<=c/\c<=d:=by
 unfold aJ at h;simp only[aly,alJ,alF,Nat.reduceAdd,Nat.reduceSub]at h;split at h
 cases h;rename_i s E;have O:=mB E 0 (by omega) (by omega);have h1:=mB E 1 (by omega) (by omega);have h2:=mB E 2 (by omega) (by omega);simp[cy,IntKind.wrap,IntKind.bits,IntKind.signed]at O h1 h2;grind
structure apd (d:ah):Prop where
 reaches:d.reaches.length<=64
 one:0<d.reaches.length
 u0:d.u0.length<=600
 al:d.al.length<=256
 aqt:1<=d.hours
 hours:d.hours<=4096
 arc:0<=d.Y2.start
 start:d.Y2.start<=d.Y2.cap
 cap:d.Y2.cap<=1099511627776
 reach:∀ k,k<d.reaches.length->dG (k:Int) (d.reaches.getD k default)=true
 ee:∀ k,k<d.u0.length->0<=(d.u0.getD k default).reach/\(d.u0.getD k default).reach< (d.reaches.length:Int)
theorem jw {d:ah}(h:(ap d !=0)=false):apd d:=by
 have h:ap d=0:=by simpa using h
 unfold ap at h;simp only[iA]at h;cases h1:(decide ((d.reaches.length:Int)<=64)&&decide ((d.u0.length:Int)<=600)&&decide ((d.ao1.length:Int)<=32)&&decide ((d.al.length:Int)<=256)&&decide ((d.aoT.length:Int)<=256))with
 |false=>grind
 |true=>
  rw[h1]at h;simp only[cond_true]at h;cases h2:fZ d 191 with
  |false=>grind
  |true=>
   unfold fZ at h2;simp only[iA]at h2;cases E:(aJ [1,d.hours,4096]&&aJ [0,d.Y2.start,d.Y2.cap,1099511627776]&&decide ((d.reaches.length:Int) > 0))with
   |false=>grind
   |true=>
    rw[E]at h2;simp only[cond_true]at h2;simp only[alt,decide_eq_true_eq]at h1 E;obtain⟨V,r2⟩:=vn E.1.1;obtain⟨Y,r4,W⟩:=qm E.1.2;split at h2
    cases h2;rename_i s0 U;split at h2
    cases h2;rename_i s1 X;split at h2
    cases h2;rename_i s2 O;refine⟨by omega,by omega,by omega,by omega,V,r2,Y,r4,W,λk hk=>?_,λk hk=>?_⟩;have:=mB U k (by omega) (by omega);grind [dX,iA]
    have:=mB O k (by omega) (by omega);grind [dY,iA,cC]
theorem oa {k:Nat}(h:k<9223372036854775807)(h1:0<k):i64.wrap ((k:Int) - 1)=((k - 1:Nat):Int):=by
 grind [az]
theorem Ir {step:Nat->Unit->Unit⊕Unit}:∀ {n i:Nat},(∀ j,i<=j->j<i+n->step j ()=.inr ())->aj step n i ()=.inr ()
 |0,_,_=>rfl
 |n+1,i,h=>by
  simp only[aj];rw[h i (by omega) (by omega)];exact Ir λj h1 h2=>h j (by omega) (by omega)
theorem g5{step:Nat->Unit->Unit⊕Unit}:aj step n 0 ()=.inr ()↔∀ j,j<n->step j ()=.inr ():=
 ⟨λh j E=>mB h j (by omega) (by omega),λh=>Ir λj _ h2=>h j (by omega)⟩
variable {ρ:Type}
theorem ON{i:Nat}{step:Nat->Unit->ρ⊕Unit}{s:Unit}(h:aj step n i s=.inr s):∀ j,i<=j->j<i+n->step j ()=.inr ():=by
 induction n generalizing i with
 |zero=>omega
 |succ n E=>
  grind [aj]
variable {α:Type}
theorem mC(l:List α)(d:α)(h:n<l.length):l.getD n d=l[n]:=by
 grind
theorem oc {k:Tag}(l:List (k.T×Int))(x z:k.T)(y:Int):ax k .int (dD k .int l x y) z=if z=x then y else ax k .int l z:=by
 grind [ax,dD,xB]
theorem adq{step:Nat->Unit->Unit⊕Unit}{a b:α}:(match aj step n 0 ()with| .inl _=>a| .inr _=>b)=b\/∃ y,aj step n 0 ()=.inl y:=by
 grind
variable {a:Int}
theorem Fa{b:Int}(h1:a<=b)(h2:b<=c):aJ [a,b,c]=true:=by
 have e:aj (cy [a,b,c]) 2 0 ()=.inr ():=g5.2 λj E=>by
  rcases(by omega:j=0\/j=1)with rfl|rfl;simp[cy,IntKind.wrap,IntKind.bits,IntKind.signed,amE];omega;simp[cy,IntKind.wrap,IntKind.bits,IntKind.signed,amE];omega
 simp_all [aJ]
theorem Fb{b d:Int}(h1:a<=b)(h2:b<=c)(E:c<=d):aJ [a,b,c,d]=true:=by
 have e:aj (cy [a,b,c,d]) 3 0 ()=.inr ():=g5.2 λj O=>by
  rcases(by omega:j=0\/j=1\/j=2)with rfl|rfl|rfl;simp[cy,IntKind.wrap,IntKind.bits,IntKind.signed,amE];omega;simp[cy,IntKind.wrap,IntKind.bits,IntKind.signed,amE];omega;simp[cy,IntKind.wrap,IntKind.bits,IntKind.signed,amE];omega
 simp_all [aJ]
theorem qQ (d:ah):ap d=0↔(d.reaches.length<=64/\d.u0.length<=600/\d.ao1.length<=32/\d.al.length<=256/\d.aoT.length<=256)/\(1<=d.hours/\d.hours<=4096)/\(0<=d.Y2.start/\d.Y2.start<=d.Y2.cap/\d.Y2.cap<=1099511627776)/\0<d.reaches.length/\
  (∀ k,k<d.reaches.length->dX d 191 k ()=.inr ())/\(∀ k,k<d.ao1.length->eG d 191 k ()=.inr ())/\(∀ k,k<d.u0.length->dY d 191 k ()=.inr ())/\(∀ k,k<d.al.length->dZ d 191 k ()=.inr ())/\(∀ k,k<d.aoT.length->fu d 191 k ()=.inr ()):=by
 have O:fZ d 191=true↔(1<=d.hours/\d.hours<=4096)/\(0<=d.Y2.start/\d.Y2.start<=d.Y2.cap/\d.Y2.cap<=1099511627776)/\0<d.reaches.length/\
  (∀ k,k<d.reaches.length->dX d 191 k ()=.inr ())/\(∀ k,k<d.ao1.length->eG d 191 k ()=.inr ())/\(∀ k,k<d.u0.length->dY d 191 k ()=.inr ())/\(∀ k,k<d.al.length->dZ d 191 k ()=.inr ())/\(∀ k,k<d.aoT.length->fu d 191 k ()=.inr ()):=by
  unfold fZ;simp only[iA];cases E:(aJ [1,d.hours,4096]&&aJ [0,d.Y2.start,d.Y2.cap,1099511627776]&&decide ((d.reaches.length:Int) > 0))with
  |false=>
   simp_all [Fa,Fb]
  |true=>
   simp only[alt,decide_eq_true_eq]at E;have V:=vn E.1.1;have W:=qm E.1.2;have U:=E.2;simp only[cond_true];grind [g5]
 unfold ap;simp only[iA];grind
theorem Mo:∀ (f n d:Nat),1<=d->d<=f->1<=n->∀ x,(A_ f n d).getLastD x=Nat.gcd n d
 |0,n,d,h1,h2,_,x=>by omega
 |f+1,n,d,h1,h2,h3,x=>by
  unfold A_;have O:max d 1=d:=by omega
  rw[if_neg (by omega),O];by_cases E:n % d=0
  rw[if_pos E];have:d ∣ n:=Nat.dvd_of_mod_eq_zero E;grind [Nat.gcd_eq_right]
  rw[if_neg E];have hlt:n % d<d:=anz _ (by omega);have U:=Mo f d (n % d) (by omega) (by omega) (by omega) n;grind [Nat.gcd_comm,Nat.gcd_rec]
theorem Fc{d:Nat}(h:1<=d):LX n d=Nat.gcd n d:=by
 unfold LX;rw[if_neg (by omega)];by_cases E:n=0
 subst E;cases d with
 |zero=>omega|succ d=>simp[A_]
 exact Mo d n d h (alw _) (by omega) d
theorem Ka (O:Int):∀ (n i:Nat) (a b:Int),0<=a->0<=b->b.toNat<n->aj (iO O) n i (a,b)=.inl ((Nat.gcd a.toNat b.toNat:Nat):Int)
 |0,_,_,_,_,_,h=>by omega
 |n+1,i,a,b,ha,hb,h=>by
  simp only[aj,iO];by_cases E:b > 0
  rw[decide_eq_true E];simp only[cond_true];have U:=amg (b:=b) ha;have V:=anc a (by omega:b≠0);have X:=amY a E;rw[U,Ka O n (i+1) b (a % b) hb V (by omega)];have W:(a % b).toNat=a.toNat % b.toNat:=by
   grind
  grind [Nat.gcd_comm,Nat.gcd_rec]
  rw[decide_eq_false E];have:b=0:=by omega
  subst this;grind
theorem Cr{b:Int}(O:0<=a)(E:0<=b):mZ a b=((Nat.gcd a.toNat b.toNat:Nat):Int):=by
 grind [mZ,Ka]
theorem SD{b:Int}(E:0<=a)(O:0<=b):nG a b:=by
 refine⟨ic _ _ _ λj s _ _ h=>?_,λz h=>?_⟩;grind
 grind [Ka]
variable {n:Int}
theorem QW(E:0<=n)(h1:n<18446744073709551616):u64.wrap n=n:=by
 grind [IntKind.wrap,IntKind.bits,IntKind.signed]
theorem Hg(E: -1073741824<=n)(h1:n<=1073741824):dm n=(n.natAbs:Int):=by
 unfold dm;by_cases h:n<0
 rw[decide_eq_true h];simp only[cond_true,IntKind.wrap,IntKind.bits,IntKind.signed];grind
 rw[decide_eq_false h];simp only[cond_false];grind [QW]
theorem Fd(E: -1073741824<=n)(h1:n<=1073741824):pH n=(n.natAbs:Int):=by
 unfold pH;by_cases h:n<0
 rw[decide_eq_true h];simp only[cond_true];grind [az]
 grind
structure apf (a:G2):Prop where
 d1:1<=a.d
 d:a.d<=1073741824
 n0: -1073741824<=a.n
 n:a.n<=1073741824
 gcd:Nat.gcd a.n.natAbs a.d.toNat=1
theorem gJ (a:G2):aR a=0↔apf a:=by
 unfold aR;cases h:((((decide (a.d<1)) ||(decide (a.d > 1073741824))) ||(decide (a.n< (-1073741824)))) ||(decide (a.n > 1073741824)))with
 |true=>
  simp only[aok,cond_true];simp only[alY,decide_eq_true_eq]at h;refine⟨λe=>(by cases e),λr=>?_⟩;have:=r.d1;have:=r.d;have:=r.n0;have:=r.n;omega
 |false=>
  simp only[al1,decide_eq_false_iff_not]at h;rw[Hg (by omega) (by omega),QW (by omega) (by omega),alv,Fc (by omega)];simp only[am3];by_cases E:Nat.gcd a.n.natAbs a.d.toNat=1
  rw[E];exact⟨λ_=>⟨by omega,by omega,by omega,by omega,E⟩,λ_=>rfl⟩;have:((Nat.gcd a.n.natAbs a.d.toNat:Nat):Int)≠1:=by omega
  rw[bne_iff_ne.2 this];exact⟨λe=>(by cases e),λr=>absurd r.gcd E⟩
theorem sd (a:G2):ew a=true↔apf a:=by
 unfold ew;constructor
 intro h;simp only[alt,decide_eq_true_eq,beq_iff_eq]at h;obtain⟨⟨⟨⟨h1,h2⟩,U⟩,O⟩,E⟩:=h;rw[Fd (by omega) (by omega),Cr (by omega) (by omega),alv]at E;exact⟨h1,h2,U,O,by omega⟩;intro r;have:=r.d1;have:=r.d;have:=r.n0;have:=r.n;simp only[alt,decide_eq_true_eq,beq_iff_eq];rw[Fd (by omega) (by omega),Cr (by omega) (by omega),alv,r.gcd];omega
theorem VY (a:G2):aR a=0\/aR a=120:=by
 unfold aR;grind
theorem Mq (a:G2):aR a=jt a:=by
 unfold jt;cases h:ew a with
 |true=>exact(gJ a).2 ((sd a).1 h)
 |false=>
  have:aR a≠0:=λe=>by
   have:=(sd a).2 ((gJ a).1 e);grind
  have:=VY a;grind
theorem wZ (a:G2):ew a=(aR a==0):=by
 grind [gJ,sd]
theorem adr (a b:G2):ig a b=pJ a b:=by
 unfold ig pJ kp sP;rw[wZ,wZ,jv];grind
theorem xD (a:G2):iL a:=λh=>by
 simp only[alt,decide_eq_true_eq]at h;rw[Fd (by omega) (by omega)];exact SD (by omega) (by omega)
def OO (a b:G2):oL a b:=⟨xD a,λ_=>xD b⟩
theorem se (a b c:Int):aJ [a,b,c]=(decide (a<=b)&&decide (b<=c)):=by
 cases h:aJ [a,b,c]with
 |true=>have:=vn h;grind
 |false=>
  grind [Fa]
theorem uI (a b c d:Int):aJ [a,b,c,d]=(decide (a<=b)&&decide (b<=c)&&decide (c<=d)):=by
 cases h:aJ [a,b,c,d]with
 |true=>have:=qm h;grind
 |false=>
  grind [Fb]
theorem VZ (x:G2×G2):jq x=ju x:=by
 unfold jq ju;rw[adr,<-Mq,<-Mq];unfold pJ kp;rw[wZ,wZ];grind
theorem OP (i:Int)(x:Reach):dG i x=true↔((i > 0/\0<=x.up/\x.up<i)\/(¬i > 0/\x.up= -1))/\(1<=x.delay/\x.delay<=16)/\(0<=x.aoU/\x.aoU<=x.cap/\x.cap<=1073741824)/\(x.aoU<=x.aph/\x.aph<=1099511627776)/\(0<=x.apu.lo/\x.apu.lo<=x.apu.hi/\x.apu.hi<=1073741824)/\ju x.apc=true:=by
 unfold dG cC;rw[VZ,se,uI,uI,uI];grind
theorem ads (x:Reach):qN x=true↔(1<=x.delay/\x.delay<=16)/\(0<=x.aoU/\x.aoU<=x.cap/\x.cap<=1073741824)/\(x.aoU<=x.aph/\x.aph<=1099511627776)/\(0<=x.apu.lo/\x.apu.lo<=x.apu.hi/\x.apu.hi<=1073741824)/\ju x.apc=true:=by
 unfold qN aL;grind
theorem Fe (l:List Reach)(k:Nat)(O:k<4096):iP l k ()=.inr ()↔dG (k:Int) (l.getD k default)=true:=by
 unfold iP aL;rw[OP];have E:∀ A B:Bool,((bif A then Sum.inl ()else bif B then Sum.inl ()else Sum.inr ()):Unit⊕Unit)=.inr ()↔A=false/\B=false:=λA B=>by grind
 rw[E,amN,ads];generalize l.getD k default=x;generalize ju x.apc=q;by_cases h:0<k
 rw[oa (by omega) h];grind
 grind
theorem SE {n:Nat}(h:n<=4096):i64.wrap ((n:Int) - 1)=(n:Int) - 1:=az (by omega) (by omega)
theorem ZN (x:ByteArray):(x==x)=true:=by
 cases x with
 |mk d=>
  show(d==d)=true;simp
theorem V0 (d:ah)(x:ape)(h1:d.u0.length<=600)(h2:d.reaches.length<=64)(O:1<=d.hours)(E:d.hours<=4096):iE d x=qP d x:=by
 unfold iE qP cC aL;rw[uI,se,se,uI,SE (by omega),SE (by omega),az (by omega: -9223372036854775808<=d.hours - 1) (by omega)];rw[ZN];grind
theorem ux (A:Bool):((bif A then Sum.inr ()else Sum.inl ()):Unit⊕Unit)=.inr ()↔A=true:=by grind
theorem uy (A:Bool):((bif A then Sum.inl ()else Sum.inr ()):Unit⊕Unit)=.inr ()↔A=false:=by grind
theorem Is (d:ah)(k:Nat):lU d k ()=.inr ()↔eG d 191 k ()=.inr ():=by
 unfold lU eG aL;simp_all [iA,uy,ux,se]
theorem It (d:ah)(k:Nat)(h1:d.reaches.length<=64)(h2:d.ao1.length<=32):lV d k ()=.inr ()↔dY d 191 k ()=.inr ():=by
 unfold lV dY aL cC;simp only[iA];rw[se,SE (by omega),SE (by omega)];grind
theorem Iu (d:ah)(k:Nat)(h1:d.reaches.length<=64)(h2:d.u0.length<=600):lX d k ()=.inr ()↔fu d 191 k ()=.inr ():=by
 unfold lX fu aL cC;simp only[iA];rw[se,SE (by omega),SE (by omega),ux,uy];grind
theorem Cs (d:ah)(k:Nat)(h1:d.u0.length<=600)(h2:d.reaches.length<=64)(O:1<=d.hours)(E:d.hours<=4096):lW d k ()=.inr ()↔dZ d 191 k ()=.inr ():=by
 simp_all [lW,dZ,iA,V0]
theorem m1 {r:Unit⊕Unit}{a b:Bool}:(match r with| .inl _=>a| .inr _=>b)=true↔(r=.inr ()/\b=true)\/((∃ y,r=.inl y)/\a=true):=by
 grind
theorem Mr (d:ah)(h1:d.reaches.length<=64)(h2:d.u0.length<=600)(Y:d.ao1.length<=32):n_ d=true↔(1<=d.hours/\d.hours<=4096)/\(0<=d.Y2.start/\d.Y2.start<=d.Y2.cap/\d.Y2.cap<=1099511627776)/\0<d.reaches.length/\
  (∀ k,k<d.reaches.length->dX d 191 k ()=.inr ())/\(∀ k,k<d.ao1.length->eG d 191 k ()=.inr ())/\(∀ k,k<d.u0.length->dY d 191 k ()=.inr ())/\(∀ k,k<d.al.length->dZ d 191 k ()=.inr ())/\(∀ k,k<d.aoT.length->fu d 191 k ()=.inr ()):=by
 have hR:nc d.reaches=true↔(∀ k,k<d.reaches.length->dX d 191 k ()=.inr ())/\0<d.reaches.length:=by
  unfold nc;refine aoy (m1 (r:=aj (iP d.reaches) d.reaches.length 0 ()) (a:=false) (b:=decide ((d.reaches.length:Int) > 0))) ?_;simp only[alB,and_false,or_false,decide_eq_true_eq];rw[g5];refine and_congr ⟨λh k E=>?_,λh k E=>?_⟩ (by omega);unfold dX;rw[iA,ux];exact(Fe _ k (by omega)).1 (h k E);have:=h k E;unfold dX at this;rw[iA,ux]at this;exact(Fe _ k (by omega)).2 this
 have hF:qO d=true↔(∀ k,k<d.ao1.length->eG d 191 k ()=.inr ())/\(∀ k,k<d.u0.length->dY d 191 k ()=.inr ()):=by
  unfold qO;refine aoy (m1 (r:=aj (lU d) d.ao1.length 0 ()) (a:=false) (b:=match aj (lV d) d.u0.length 0 ()with| .inl _=>false| .inr _=>true)) ?_;simp only[alB,and_false,or_false];rw[g5];refine aoy (and_congr_right λ_=>m1) ?_;simp only[alB,and_false,or_false,and_true];rw[g5];exact and_congr ⟨λh k E=>(Is d k).1 (h k E),λh k E=>(Is d k).2 (h k E)⟩ ⟨λh k E=>(It d k h1 Y).1 (h k E),λh k E=>(It d k h1 Y).2 (h k E)⟩
 unfold n_;have hb:∀ A B q:Bool,(bif A then false else bif B then false else q)=true↔A=false/\B=false/\q=true:=λA B q=>by grind
 rw[hb];refine aoy (and_congr_right λ_=>and_congr_right λ_=>aoy (m1 (r:=aj (lW d) d.al.length 0 ()) (a:=false) (b:=match aj (lX d) d.aoT.length 0 ()with| .inl _=>false| .inr _=>true)) (or_congr_left (and_congr_right λ_=>m1))) ?_;simp only[alB,and_false,or_false,and_true];rw[g5,g5];simp only[al1,amN,hR,hF,aL,alt,decide_eq_true_eq,decide_eq_false_iff_not];constructor
 rintro⟨⟨⟨a1,a2⟩,a3⟩,⟨⟨X,V⟩,O,U⟩,W,b6⟩;refine⟨by omega,by omega,V,X,O,U,λk E=>(Cs d k h2 h1 (by omega) (by omega)).1 (W k E),λk E=>(Iu d k h1 h2).1 (b6 k E)⟩;rintro⟨a1,a2,a3,X,V,O,U,W⟩;refine⟨⟨⟨by omega,by omega⟩,by omega⟩,⟨⟨X,a3⟩,V,O⟩,λk E=>(Cs d k h2 h1 (by omega) (by omega)).2 (U k E),λk E=>(Iu d k h1 h2).2 (W k E)⟩
theorem V3 (d:ah):ap d=lY d:=by
 have W:=qQ d;unfold lY;by_cases E:d.reaches.length<=64/\d.u0.length<=600/\d.ao1.length<=32/\d.al.length<=256/\d.aoT.length<=256
 have O:(((((decide ((d.reaches.length:Int) > 64)) ||(decide ((d.u0.length:Int) > 600))) ||(decide ((d.ao1.length:Int) > 32))) ||(decide ((d.al.length:Int) > 256))) ||(decide ((d.aoT.length:Int) > 256)))=false:=by
  grind
 rw[O];simp only[cond_false];have V:=Mr d E.1 E.2.1 E.2.2.1;cases h:n_ d with
 |true=>grind
 |false=>
  have U:ap d≠0:=λe=>by
   grind
  unfold ap at U |-;simp only[iA]at U |-;grind
 have O:(((((decide ((d.reaches.length:Int) > 64)) ||(decide ((d.u0.length:Int) > 600))) ||(decide ((d.ao1.length:Int) > 32))) ||(decide ((d.al.length:Int) > 256))) ||(decide ((d.aoT.length:Int) > 256)))=true:=by
  grind
 grind [ap,iA]
def V4 (x:G2×G2):oN x:=⟨xD _,λ_=>xD _,λ_=>OO _ _⟩
def ZO (x:Reach):qj x:=λ_ _=>V4 _
def SF (d:ah):qk d:=λ_=>ic _ _ _ λ_ _ _ _ _ _=>ZO _
def SG (d:ah):ql d:=λ_ _=>SF d
theorem qn(E: -4611686018427387904<=n)(h1:n<=4611686018427387904):dm n=(n.natAbs:Int):=by
 unfold dm;by_cases h:n<0
 rw[decide_eq_true h];simp only[cond_true,IntKind.wrap,IntKind.bits,IntKind.signed];grind
 rw[decide_eq_false h];simp only[cond_false];grind [QW]
def mkR (n d:Int):G2×Int:=
 if d=0 then({ n:=0,d:=0},120)else
 if 1073741824<n.natAbs / Nat.gcd n.natAbs d.natAbs\/1073741824<d.natAbs / Nat.gcd n.natAbs d.natAbs then({ n:=0,d:=0},2)else
 ({ n:=if(decide (n<0)) !=(decide (d<0))then -((n.natAbs / Nat.gcd n.natAbs d.natAbs:Nat):Int)else((n.natAbs / Nat.gcd n.natAbs d.natAbs:Nat):Int),d:=((d.natAbs / Nat.gcd n.natAbs d.natAbs:Nat):Int)},0)
variable {d:Int}
theorem ZP(E: -4611686018427387904<=n)(h1:n<=4611686018427387904)(h2: -4611686018427387904<=d)(O:d<=4611686018427387904):nM n d=mkR n d:=by
 unfold nM mkR;by_cases hd:d=0
 subst hd;rfl;have e:(d==0)=false:=by grind
 rw[e,cond_false,if_neg hd,qn E h1,qn h2 O,alv,alv,Fc (by omega)];have U:0<Nat.gcd n.natAbs d.natAbs:=an6 _ (by omega);have V:Int.tdiv (n.natAbs:Int) ((Nat.gcd n.natAbs d.natAbs:Nat):Int)=((n.natAbs / Nat.gcd n.natAbs d.natAbs:Nat):Int):=by rfl
 have t2:Int.tdiv (d.natAbs:Int) ((Nat.gcd n.natAbs d.natAbs:Nat):Int)=((d.natAbs / Nat.gcd n.natAbs d.natAbs:Nat):Int):=by rfl
 have l1:n.natAbs / Nat.gcd n.natAbs d.natAbs<=n.natAbs:=anQ _ _;have W:d.natAbs / Nat.gcd n.natAbs d.natAbs<=d.natAbs:=anQ _ _;grind [QW,az]
theorem adt (n d:Int)(E: -4611686018427387904<=n)(h1:n<=4611686018427387904)(h2: -4611686018427387904<=d)(O:d<=4611686018427387904):rN n d:=λhd=>by
 have hd:d≠0:=by grind
 rw[qn E h1,qn h2 O,alv,alv,Fc (by omega)];simp_all
def rv (a:G2):Rat:=(a.n:Rat) / (a.d:Rat)
def Ms {a b:Nat}(E:0<b):a / Nat.gcd a b*Nat.gcd a b=a/\b / Nat.gcd a b*Nat.gcd a b=b/\Nat.gcd (a / Nat.gcd a b) (b / Nat.gcd a b)=1:=
 ⟨aoC (Nat.gcd_dvd_left _ _),aoC (Nat.gcd_dvd_right _ _),Nat.gcd_div_gcd_div_gcd_of_pos_right E⟩
theorem qR(h:d≠0):(d:Rat)≠0:=λe=>h (by simp_all)
theorem adu(hd:1<=d){r:G2}(h:mkR n d=(r,0)):apf r/\rv r*(d:Rat)=(n:Rat):=by
 unfold mkR at h;rw[if_neg (by omega)]at h;split at h
 simp at h;rename_i hb;obtain⟨rfl,-⟩:=Prod.mk.inj h;obtain⟨U,g2,g3⟩:=Ms (a:=n.natAbs) (b:=d.natAbs) (by omega);have E:¬d<0:=by omega
 have W:(if(decide (n<0)) !=(decide (d<0))then -((n.natAbs / Nat.gcd n.natAbs d.natAbs:Nat):Int)else((n.natAbs / Nat.gcd n.natAbs d.natAbs:Nat):Int))*((Nat.gcd n.natAbs d.natAbs:Nat):Int)=n:=by
  rw[decide_eq_false E];by_cases V:n<0
  rw[decide_eq_true V,if_pos (by rfl),Int.neg_mul,<-Int.natCast_mul,U];omega;rw[decide_eq_false V,if_neg (by simp),<-Int.natCast_mul,U];omega
 have hxa:(if(decide (n<0)) !=(decide (d<0))then -((n.natAbs / Nat.gcd n.natAbs d.natAbs:Nat):Int)else((n.natAbs / Nat.gcd n.natAbs d.natAbs:Nat):Int)).natAbs=n.natAbs / Nat.gcd n.natAbs d.natAbs:=by
  grind
 have O:((d.natAbs / Nat.gcd n.natAbs d.natAbs:Nat):Int)*((Nat.gcd n.natAbs d.natAbs:Nat):Int)=d:=by omega
 generalize hX:(if(decide (n<0)) !=(decide (d<0))then -((n.natAbs / Nat.gcd n.natAbs d.natAbs:Nat):Int)else((n.natAbs / Nat.gcd n.natAbs d.natAbs:Nat):Int))=X at *;have Y:1<=d.natAbs / Nat.gcd n.natAbs d.natAbs:=by
  grind
 refine⟨⟨by grind,by grind,by grind,by grind,by grind⟩,?_⟩;unfold rv;simp only;have e1:(d:Rat)=(((d.natAbs / Nat.gcd n.natAbs d.natAbs:Nat):Int):Rat)*(((Nat.gcd n.natAbs d.natAbs:Nat):Int):Rat):=by exact_mod_cast O.symm
 have e2:(n:Rat)=(X:Rat)*(((Nat.gcd n.natAbs d.natAbs:Nat):Int):Rat):=by exact_mod_cast W.symm
 rw[e1,e2];have h1:(((d.natAbs / Nat.gcd n.natAbs d.natAbs:Nat):Int):Rat)≠0:=qR (by omega);grind
theorem CZ{b:Int}(E: -1073741824<=a)(h1:a<=1073741824)(h2:1<=b)(O:b<=1073741824): -1152921504606846976<=a*b/\a*b<=1152921504606846976:=by
 have:(a*b).natAbs<=1073741824*1073741824:=by rw[aov];exact anZ (by omega) (by omega)
 omega
theorem ar7{b:Int}(E:1<=a)(h1:1<=b):1<=a*b:=Int.mul_pos (by omega) (by omega)
variable {a:G2}
theorem QX{b:G2}(O:apf a)(E:apf b):gW a b=(a.n*b.d+b.n*a.d,a.d*b.d):=by
 have m1:=CZ O.n0 O.n E.d1 E.d;have U:=CZ E.n0 E.n O.d1 O.d;have h1:=O.d1;have h2:=O.d;have V:=CZ (a:=a.d) (by omega) h2 E.d1 E.d;grind [gW,az]
theorem OQ (a b:G2):ii a b=if aR a=0/\aR b=0 then mkR (a.n*b.d+b.n*a.d) (a.d*b.d)else({ n:=0,d:=0},120):=by
 unfold ii gI;by_cases h:aR a=0/\aR b=0
 rw[if_pos h,h.1,h.2,QX ((gJ a).1 h.1) ((gJ b).1 h.2)];have O:=(gJ a).1 h.1;have E:=(gJ b).1 h.2;have m1:=CZ O.n0 O.n E.d1 E.d;have U:=CZ E.n0 E.n O.d1 O.d;have h1:=O.d1;have h2:=O.d;have V:=CZ (a:=a.d) (by omega) h2 E.d1 E.d;simp only[bne_self_eq_false,amU,cond_false];grind [ZP]
 grind
theorem ah7 (a b:G2):tJ a b:=λh=>by
 simp only[al1,bne_eq_false_iff_eq]at h;have O:=(gJ a).1 h.1;have E:=(gJ b).1 h.2;rw[QX O E];have m1:=CZ O.n0 O.n E.d1 E.d;have U:=CZ E.n0 E.n O.d1 O.d;have h1:=O.d1;have h2:=O.d;have V:=CZ (a:=a.d) (by omega) h2 E.d1 E.d;exact adt _ _ (by omega) (by omega) (by omega) (by omega)
theorem V5{b:G2}(O:apf a)(E:apf b):(rv a+rv b)*((a.d*b.d:Int):Rat)=((a.n*b.d+b.n*a.d:Int):Rat):=by
 have h1:=O.d1;have h2:=E.d1;have d1:(a.d:Rat)≠0:=qR (by omega);have U:(b.d:Rat)≠0:=qR (by omega);grind [rv]
theorem V6{b r:G2}(h:ii a b=(r,0)):apf a/\apf b/\apf r/\rv r=rv a+rv b:=by
 rw[OQ]at h;split at h
 rename_i hc;have O:=(gJ a).1 hc.1;have E:=(gJ b).1 hc.2;have hd:=ar7 O.d1 E.d1;obtain⟨h1,h2⟩:=adu hd h;refine⟨O,E,h1,?_⟩;rw[<-V5 O E]at h2;have U:((a.d*b.d:Int):Rat)≠0:=qR (by omega);grind
 simp at h
theorem od {kk E:Tag}(l:List (kk.T×E.T))(x z:kk.T)(y:E.T):ax kk E (dD kk E l x y) z=if z=x then y else ax kk E l z:=by
 grind [ax,dD,xB]
theorem SH {kk E:Tag}(l:List (kk.T×E.T))(x z:kk.T)(y:E.T):wq kk E (dD kk E l x y) z=(decide (z=x) ||wq kk E l z):=by
 unfold wq dD;rw[xB];grind
variable {k:Nat}
theorem b_(l:List α)(d:α)(h:k<l.length):l.take (k+1)=l.take k++[l.getD k d]:=by
 simp_all
theorem li{σ:Type}{step:Nat->σ->ρ⊕σ}(J:Nat->σ->Prop)(n i:Nat)(s:σ)(E:J i s)(h:∀ j s,i<=j->j<i+n->J j s->∃ s',step j s=.inr s'/\J (j+1) s'):∃ r,aj step n i s=.inr r/\J (i+n) r:=by
 induction n generalizing i s with
 |zero=>exact⟨s,rfl,E⟩
 |succ n O=>
  grind [aj]
theorem Mt {ρ σ:Type}{step:Nat->σ->ρ⊕σ}(S:Nat->σ)(n:Nat)(C:Nat->Prop)(hc:∀ k,k<n->(∀ j,j<k->C j)->(C k->step k (S k)=.inr (S (k+1)))/\(¬C k->∃ r,step k (S k)=.inl r)):
  ∀ m i,i+m=n->(∀ j,j<i->C j)->((∀ k,i<=k->k<n->C k)->aj step m i (S i)=.inr (S n))/\(¬ (∀ k,i<=k->k<n->C k)->∃ r,aj step m i (S i)=.inl r)
 |0,i,h,hi=>⟨λ_=>by rw[show i=n by omega];rfl,λO=>absurd (λk h1 h2=>by omega) O⟩
 |m+1,i,h,hi=>by
  obtain⟨h1,h2⟩:=hc i (by omega) hi;by_cases U:C i
  have E:∀ j,j<i+1->C j:=λj W=>by
   grind
  obtain⟨V,X⟩:=Mt S n C hc m (i+1) (by omega) E;simp only[aj,h1 U];grind
  grind [aj]
theorem vo (n lo hi:Int):aO n lo hi=true↔lo<=n/\n<=hi:=by
 unfold aO;simp
theorem y7(n:Int)(h:k<=4096):aO n 0 (i64.wrap ((k:Int) - 1))=true↔0<=n/\n< (k:Int):=by
 grind [vo,az]
def Bu:List Part->Rat
 | [] =>0|x::r=>rv x.share+Bu r
theorem V7 (a b:List Part):Bu (a++b)=Bu a+Bu b:=by
 induction a with
 |nil=>simp[Bu,Rat.zero_add]|cons x r E=>grind [Bu]
structure aq0 (d:ah)(x:Part):Prop where
 f0:0<=x.ee
 f1:x.ee< (d.u0.length:Int)
 share:apf x.share
 pos:0<x.share.n
structure ap0 (d:ah)(l:List Part):Prop where
 asK:1<=l.length
 len:l.length<=16
 part:∀ x∈l,aq0 d x
 apart:(l.map λx=>x.ee).Nodup
 sum:Bu l=1
variable {d:ah}
theorem V8{l:List Part}(hf:d.u0.length<=600)(h:iV d l=true):ap0 d l:=by
 unfold iV at h;cases hr:aj (ga d l) l.length 0 (0,1,[])with
 |inl x=>grind
 |inr s=>
  rw[hr]at h;have W:=wL (λk s=>rv { n:=s.1,d:=s.2.1} =Bu (l.take k)/\(∀ x∈l.take k,aq0 d x)/\((l.take k).map λx=>x.ee).Nodup/\∀ f:Int,ax .int .bool s.2.2 f=decide (f∈(l.take k).map λx=>x.ee)) l.length 0 (0,1,([]:List (Int×Bool))) ⟨by show((0:Int):Rat) / ((1:Int):Rat)=0;grind,by simp,by simp,λf=>by rfl⟩ (λj s _ Y ⟨U,V,X,j4⟩ s' E=>by
   rw[alF]at Y;unfold ga at E;cases hc:(((!(aO ((l.getD j (default:Part)).ee) 0 (i64.wrap ((d.u0.length:Int) - 1)))) ||(ax .int .bool s.2.2 ((l.getD j (default:Part)).ee))) ||(decide ((l.getD j (default:Part)).share.n<=0)))with
   |true=>grind
   |false=>
    rw[hc]at E;simp only[al1,amN,decide_eq_false_iff_not]at hc;obtain⟨⟨c1,c2⟩,c3⟩:=hc;rw[y7 _ (by omega)]at c1;cases O:((ii ({ n:=s.1,d:=s.2.1}:G2) ((l.getD j (default:Part)).share)).2 !=0)with
    |true=>grind
    |false=>
     rw[O]at E;simp only[cond_false,amd]at E;subst E;have O:(ii ({ n:=s.1,d:=s.2.1}:G2) ((l.getD j (default:Part)).share)).2=0:=by grind
     obtain⟨a1,a2,a3,a4⟩:=V6 (r:=(ii ({ n:=s.1,d:=s.2.1}:G2) ((l.getD j (default:Part)).share)).1) (by rw[<-O]);rw[b_ l default Y];rw[j4,decide_eq_false_iff_not]at c2;refine⟨?_,λx hx=>?_,?_,λf=>?_⟩;rw[V7,<-U];simp_all [Bu,Rat.add_zero];rcases al7.1 hx with hx|hx;exact V x hx;simp only[ami]at hx;subst hx;exact⟨c1.1,c1.2,a2,by omega⟩;grind
     rw[od,anP];grind) s hr
  rw[alF,am7]at W;obtain⟨U,V,X,_⟩:=W;simp only[alt,beq_iff_eq]at h;obtain⟨h1,h2,h3⟩:=h;rw[vo]at h1;refine⟨by omega,by omega,V,X,?_⟩;rw[<-U,h2,h3];show((1:Int):Rat) / ((1:Int):Rat)=1;grind
def ZQ (d:ah)(l:List Part):mA d l:=λ_=>ic _ _ _ λj s _ _ _ _=>ah7 _ _
theorem adv (d:ah)(m:List (Int×bl))(x:bl):nF d m x:=λ_ O E=>⟨λh=>by
  grind [vo,az,aK],λ_ _ _=>ZQ _ _⟩
theorem uJ (d:ah)(l:List bl):jU d l:=λ_ _ _ O=>ic _ _ _ λj s _ E=>⟨λh=>by
  rw[decide_eq_true_eq]at h;grind [az],λ_=>adv _ _ _⟩
def uK (l:List bl):List (Int×bl):=l.foldl (λm x=>dD .int .x6 m x.no x) []
theorem xE (l:List bl)(x:bl):uK (l++[x])=dD .int .x6 (uK l) x.no x:=by
 grind [uK]
def Asc (l:List bl):Prop:=l.Pairwise λx y=>x.no<y.no
def Chk (d:ah):List bl->List bl->Prop
 |_,[] =>True|b,x::r=>(∀ y∈b,y.no<x.no)/\dy d (uK b) x=true/\Chk d (b++[x]) r
theorem Chk.asc:∀ {r b:List bl},Asc b->Chk d b r->Asc (b++r)
 | [],b,h,_=>by simpa using h
 |x::r,b,h,⟨h1,_,E⟩ =>by
  have:Asc (b++[x]):=alX.2 ⟨h,ama _ _,λy hy z O=>by grind⟩;simpa using Chk.asc this E
theorem qo (l:List bl):aM l=false↔∀ x∈l,x.parts.length<=16:=by
 unfold aM ei;have key:∀ l:List bl,(match dC (ρ:=Unit) (λ(x:bl) (_:Unit) =>bif fl x then .inl ()else .inr ()) l ()with| .inl _=>False| .inr _=>True)↔∀ x∈l,x.parts.length<=16:=λl=>by
  induction l with
  |nil=>simp[dC]
  |cons x r E=>
   simp only[dC];unfold fl at E |-;grind
 have W:∀ (n i:Nat),i+n=l.length->((∃ j,i<=j/\j<l.length/\fl (l.getD j default)=true)/\(∃ q:Nat,aj (cL l) n i ()=.inl (q:Int)))\/((∀ j,i<=j->j<l.length->fl (l.getD j default)=false)/\aj (cL l) n i ()=.inr ()):=λn=>by
  induction n with
  |zero=>exact λi h=>.inr ⟨λj h1 h2=>by omega,rfl⟩
  |succ n E=>
   intro i h;simp only[aj,cL];grind
 rcases W l.length 0 (by omega)with⟨⟨j,_,h2,O⟩,q,V⟩ | ⟨h1,h2⟩;rw[V];simp only[decide_eq_false_iff_not];refine⟨λh=>by omega,λh=>?_⟩;have:=h (l.getD j default) (by grind);unfold fl at O;grind
 rw[h2];simp only;refine⟨λ_ x U=>?_,λ_=>by decide⟩;obtain⟨j,X,rfl⟩:=al9.1 U;grind [fl]
theorem SI (d:ah)(l:List bl)(hl:l.length<=4096):(∀ k,k<l.length->((0<k->(l.getD (k - 1) default).no< (l.getD k default).no)/\dy d (uK (l.take k)) (l.getD k default)=true))↔Chk d [] l:=by
 have key:∀ (r b:List bl),l=b++r->Asc b->((∀ k,b.length<=k->k<l.length->((0<k->(l.getD (k - 1) default).no< (l.getD k default).no)/\dy d (uK (l.take k)) (l.getD k default)=true))↔Chk d b r):=λr=>by
  induction r with
  |nil=>exact λb h _=>⟨λ_=>trivial,λ_ k h1 h2=>by grind⟩
  |cons x r X=>
   intro b h V;have W:b.length<l.length:=by rw[h];simp
   have g:l.getD b.length default=x:=by grind
   have t:l.take b.length=b:=by rw[h];simp
   have E:(∀ y∈b,y.no<x.no)↔(0<b.length->(l.getD (b.length - 1) default).no<x.no):=by
    rcases anh b with rfl| ⟨b',y,rfl⟩;simp;rw[ani]at h V W g t |-;have Y:l.getD ((b'++[y]).length - 1) default=y:=by simp_all
    rw[Y];refine⟨λO _=>O y (by simp),λO z hz=>?_⟩;have hy:=O (by simp);rcases al7.1 hz with hz|hz;exact Int.lt_trans ((alX.1 V).2.2 z hz y (by simp)) hy;grind
   constructor
   intro O;have h1:=O b.length (alw _) W;rw[g,t]at h1;have h2:=E.2 h1.1;have U:Asc (b++[x]):=alX.2 ⟨V,ama _ _,λy hy z hz=>by grind⟩;exact⟨h2,h1.2,(X (b++[x]) (by rw[h];simp) U).1 λk hk1 hk2=>O k (by grind) hk2⟩;rintro⟨h2,h3,h4⟩ k hk1 hk2;have U:Asc (b++[x]):=alX.2 ⟨V,ama _ _,λy hy z hz=>by grind⟩;rcases aoD hk1 with rfl|hk1 <;>grind
 have:=key l [] rfl List.Pairwise.nil;grind
theorem xF (d:ah)(l:List bl):aP d l=0↔ap d=0/\l.length<=512/\(∀ x∈l,x.parts.length<=16)/\Chk d [] l:=by
 unfold aP;cases h1:(ap d !=0)with
 |true=>
  grind
 |false=>
  have h1:ap d=0:=by grind
  simp only[cond_false,h1,true_and];by_cases O:l.length<=512
  have:decide ((l.length:Int) > 512)=false:=by grind
  rw[this,am3];cases h2:aM l with
  |true=>
   simp only[cond_true,O,true_and];refine⟨(λh=>by cases h),λh=>?_⟩;have:=(qo l).2 h.1;grind
  |false=>
   have V:=(qo l).1 h2;simp only[cond_false,O,true_and,and_iff_right V];rw[<-SI d l (by omega)];obtain⟨W,X⟩:=Mt (step:=eH d l) (λk=>uK (l.take k)) l.length (λk=>(0<k->(l.getD (k - 1) default).no< (l.getD k default).no)/\dy d (uK (l.take k)) (l.getD k default)=true) (λk hk _=>by
    unfold eH;have Y:(decide ((k:Int) > 0)&&decide ((l.getD k (default:bl)).no<=(l.getD (Int.toNat (i64.wrap ((k:Int) - 1))) (default:bl)).no))= !decide (0<k->(l.getD (k - 1) default).no< (l.getD k default).no):=by
     by_cases U:0<k
     rw[oa (by omega) U,alv];by_cases h4:(l.getD (k - 1) default).no< (l.getD k default).no <;>grind
     grind
    rw[Y];constructor
    rintro⟨a,b⟩;rw[decide_eq_true a,b];simp only[alN,amU,cond_false];grind [b_,xE]
    intro hn;refine⟨(),?_⟩;have:(!decide (0<k->(l.getD (k - 1) default).no< (l.getD k default).no) || !dy d (uK (l.take k)) (l.getD k default))=true:=by
     grind
    grind) l.length 0 (by omega) (λj hj=>by omega)
   by_cases E:∀ k,0<=k->k<l.length->(0<k->(l.getD (k - 1) default).no< (l.getD k default).no)/\dy d (uK (l.take k)) (l.getD k default)=true
   have e:=W E;rw[an0]at e;have e':aj (eH d l) l.length 0 []=.inr (uK (l.take l.length)):=e;grind
   obtain⟨r,e⟩:=X E;rw[an0]at e;have e':aj (eH d l) l.length 0 []=.inl r:=e;grind
  grind
theorem y8 {ρ σ:Type}{step:Nat->σ->ρ⊕σ}{p:Nat->σ->Prop}(m:σ->Nat)(J:σ->Prop)(Q:ρ->Prop)(h:∀ k s,J s->p k s/\((∃ r,step k s=.inl r/\Q r)\/∃ s',step k s=.inr s'/\m s'<m s/\J s')):∀ (n i:Nat) (s:σ),J s->m s<n->okI step p n i s/\∃ r,aj step n i s=.inl r/\Q r
 |0,_,_,_,hm=>absurd hm (Nat.not_lt_zero _)
 |n+1,i,s,hJ,hm=>by
  obtain⟨h1,h2⟩:=h i s hJ;rcases h2 with⟨r,e,U⟩ | ⟨s',e,hlt,O⟩;refine⟨⟨h1,λE e'=>?_⟩,r,?_,U⟩;grind
  grind [aj]
  obtain⟨W,V⟩:=y8 m J Q h n (i+1) s' O (by omega);refine⟨⟨h1,λE e'=>?_⟩,?_⟩;grind
  grind [aj]
theorem Fg{σ:Type}{x:ρ⊕σ}{Q:ρ->Prop}(h:∃ r,x=.inl r/\Q r):∀ z,x≠ .inr z:=λz e=>by
 grind
theorem QY (a b:bl):decide (dO a b<0)=decide (a.at_<b.at_):=by
 grind [dO,jv]
theorem tL(A:List α)(x d:α)(T:List α){i:Nat}(h:i=A.length):(A++x::T).getD i d=x:=by
 grind
theorem w5(A:List α)(x y:α)(T:List α){i:Nat}(h:i=A.length):(A++x::T).set i y=A++y::T:=by
 subst h;simp
def aoP (l l':List bl):Prop:= ∀ t:Int,l.filter (λx=>x.at_==t)=l'.filter λx=>x.at_==t
theorem aoP.refl (l:List bl):aoP l l:=λ_=>rfl
variable {a c:List bl}
theorem aoP.trans{b:List bl}(h1:aoP a b)(h2:aoP b c):aoP a c:=λt=>(h1 t).trans (h2 t)
theorem aoP.app{b d:List bl}(h1:aoP a b)(h2:aoP c d):aoP (a++c) (b++d):=λt=>by rw[an1,an1,h1 t,h2 t]
theorem aoP.swap{b:List bl}(h:∀ x∈a,∀ y∈b,x.at_≠y.at_):aoP (a++b) (b++a):=λt=>by
 grind [List.filter_eq_nil_iff]
def Srt (l:List bl):Prop:=l.Pairwise λx y=>x.at_<=y.at_
theorem SJ (A S R:List bl)(x:bl)(W:List bl)(hl:(A++S++x::R).length<2 ^ 62)(V:(A++S++x::R).length=W.length):
  okI (bv A.length W) (bI A.length W) (W.length+1) 0 (A++S++x::R,((A.length+S.length:Nat):Int))/\
  ∃ r,aj (bv A.length W) (W.length+1) 0 (A++S++x::R,((A.length+S.length:Nat):Int))=.inl r/\
   ∃ U O,S=U++O/\r=A++U++x::(O++R)/\(∀ y∈O,x.at_<y.at_)/\∀ y,U.getLast? =some y->y.at_<=x.at_:=by
 refine y8 (λs:List bl×Int=>(s.2 - (A.length:Int)).toNat) (λs:List bl×Int=>∃ U O,S=U++O/\s=(A++U++x::(O++R),((A.length+U.length:Nat):Int))/\∀ y∈O,x.at_<y.at_) (λr=>∃ U O,S=U++O/\r=A++U++x::(O++R)/\(∀ y∈O,x.at_<y.at_)/\∀ y,U.getLast? =some y->y.at_<=x.at_) ?_ _ _ _ ⟨S,[],by simp,by simp,by simp⟩ (by grind);rintro k s ⟨U,O,Y,rfl,hlt⟩;simp only[alA,aly]at hl V;have X:S.length=U.length+O.length:=by grind
 rcases anh U with rfl| ⟨E,y,rfl⟩;unfold bI bv;have e:decide (((A.length+([]:List bl).length:Nat):Int) > A.length)=false:=by simp
 refine⟨⟨λh=>?_,λh=>?_,λh=>?_⟩,.inl ⟨_,?_,[],O,Y,rfl,hlt,λy hy=>by simp at hy⟩⟩ <;>grind;simp only[ani,alA,aly,alJ]at X |-;have w:i64.wrap (((A.length+(E.length+(0+1)):Nat):Int) - 1)=((A.length+E.length:Nat):Int):=by grind [az]
 have e:decide (((A.length+(E.length+(0+1)):Nat):Int) > A.length)=true:=by grind
 have g1:(A++(E++[y])++x::(O++R)).getD (A.length+(E.length+(0+1))) default=x:=tL _ _ _ _ (by simp);have hr:A++(E++[y])++x::(O++R)=(A++E)++y::x::(O++R):=by simp
 have g2:(A++(E++[y])++x::(O++R)).getD (A.length+E.length) default=y:=by grind
 have hL:(A++(E++[y])++x::(O++R)).length=A.length+(E.length+1)+(O.length+R.length+1):=by simp;omega
 unfold bI bv;simp only[w,alv,g1,g2,QY,e,ane,anx,hL];refine⟨⟨λ_=>by omega,λ_=>by omega,λ_=>by omega⟩,?_⟩;by_cases h:x.at_<y.at_
 right;rw[decide_eq_true h,cond_true];refine⟨_,rfl,by simp only;omega,E,y::O,by rw[Y];simp,?_,λz hz=>?_⟩ <;>grind;left;rw[decide_eq_false h,cond_false];exact⟨_,rfl,E++[y],O,Y.trans (by simp),by simp,hlt,λz hz=>by grind⟩
variable {l:List bl}
theorem V9{c:Int}(h:Srt l)(E:∀ y,l.getLast? =some y->y.at_<=c):∀ z∈l,z.at_<=c:=λz hz=>by
 rcases anh l with rfl| ⟨l',y,rfl⟩;cases hz;rw[ani]at h hz E;have hy:=E y (by simp);unfold Srt at h;rw[alX]at h;rcases al7.1 hz with hz|hz;exact anW (h.2.2 z hz y (by simp)) hy;simp at hz;subst hz;exact hy
variable {E:List bl}{x:bl}
theorem ZR{O:List bl}(h:Srt (E++O))(h2:∀ y∈O,x.at_<y.at_)(h1:∀ z∈E,z.at_<=x.at_):Srt (E++x::O):=by
 unfold Srt at h |-;rw[alX]at h |-;refine⟨h.1,amA.2 ⟨λy hy=>Int.le_of_lt (h2 y hy),h.2.1⟩,λz U y hy=>?_⟩;rcases alD.1 hy with rfl|hy;exact h1 z U;exact h.2.2 z U y hy
theorem Iv (A M R:List bl)(hl:(A++M++R).length<2 ^ 62):
  bb A.length ((A.length+M.length:Nat):Int) (A++M++R)/\
  ∃ E,aG A.length ((A.length+M.length:Nat):Int) (A++M++R)=A++E++R/\aoP M E/\Srt E:=by
 have hlen:(A++M++R).length=A.length+M.length+R.length:=by simp[amF]
 have w0:i64.wrap ((A.length:Int)+1)=((A.length+1:Nat):Int):=by rw[az (by omega) (by omega)];omega
 have key:okI (a_ A.length ((A.length+M.length:Nat):Int) (A++M++R)) (bp A.length ((A.length+M.length:Nat):Int) (A++M++R)) ((A++M++R).length+1) 0 (A++M++R,((A.length+1:Nat):Int))/\
   ∃ r,aj (a_ A.length ((A.length+M.length:Nat):Int) (A++M++R)) ((A++M++R).length+1) 0 (A++M++R,((A.length+1:Nat):Int))=.inl r/\∃ E,r=A++E++R/\aoP M E/\Srt E:=by
  refine y8 (λs:List bl×Int=>(((A.length+M.length:Nat):Int) - s.2).toNat) (λs:List bl×Int=>(M=[]/\s=(A++M++R,((A.length+1:Nat):Int)))\/∃ S T,s=(A++S++(T++R),((A.length+S.length:Nat):Int))/\aoP M (S++T)/\Srt S/\M.length=S.length+T.length) (λr=>∃ E,r=A++E++R/\aoP M E/\Srt E) ?_ _ _ _ ?_ (by simp only;omega)
  ·rintro k s (⟨rfl,rfl⟩ | ⟨S,T,rfl,hF,X,U⟩);unfold bp a_;have e:decide (((A.length+1:Nat):Int) < ((A.length+([]:List bl).length:Nat):Int))=false:=by rw[decide_eq_false_iff_not];simp only[alJ];omega
   refine⟨λh=>?_,.inl ⟨_,?_,[],rfl,aoP.refl _,List.Pairwise.nil⟩⟩;rw[e]at h;cases h;simp only[e,cond_false]
   ·cases T with
    |nil=>
     unfold bp a_;have e:decide (((A.length+S.length:Nat):Int) < ((A.length+M.length:Nat):Int))=false:=by rw[decide_eq_false_iff_not];simp only[alJ]at U;omega
     refine⟨λh=>?_,.inl ⟨A++S++([]++R),?_,S,by simp,by simpa using hF,X⟩⟩;rw[e]at h;cases h;simp only[e,cond_false]
    |cons x T=>
     simp only[aly]at U;have e:decide (((A.length+S.length:Nat):Int) < ((A.length+M.length:Nat):Int))=true:=by rw[decide_eq_true_eq];omega
     have W:(A++S++x::(T++R)).length=(A++M++R).length:=by simp;omega
     obtain⟨i1,r,i2,O,V,rfl,rfl,i3,i4⟩:=SJ A S (T++R) x (A++M++R) (by omega) W;have Y:Srt O:=(alX.1 X).1;have w:i64.wrap (((A.length+(O++V).length:Nat):Int)+1)=((A.length+(O++x::V).length:Nat):Int):=by
      rw[az (by omega) (by simp only[alA]at *;omega)];simp only[alA,aly];omega
     unfold bp a_;refine⟨λ_=>⟨i1,Fg (Q:=λ_=>True) ⟨_,i2,trivial⟩⟩,.inr ⟨_,?_,?_,.inr ⟨O++x::V,T,rfl,?_,ZR X i3 (V9 Y i4),by simp only[alA,aly]at *;omega⟩⟩⟩;simp only[e,cond_true,alU];rw[i2];simp only[w];simp;simp only[alA,aly]at *;omega
     ·refine hF.trans ?_;have h0:aoP (V++[x]) ([x]++V):=aoP.swap λy hy z hz=>by simp at hz;subst hz;have:=i3 y hy;omega
      have:=((aoP.refl O).app h0).app (aoP.refl T);simpa using this
  cases M with
  |nil=>exact .inl ⟨rfl,rfl⟩
  |cons x T=>exact .inr ⟨[x],T,by simp,by simpa using aoP.refl _,ama _ _,by simp;omega⟩
 obtain⟨k1,r,k2,E,rfl,k3,k4⟩:=key;unfold bb aG;rw[w0];refine⟨⟨k1,Fg (Q:=λ_=>True) ⟨_,k2,trivial⟩⟩,E,?_,k3,k4⟩;rw[k2]
theorem Kb (A X B Y C:List bl)(hxy:X.length=Y.length)(hl:(A++X++B++Y++C).length<2 ^ 62):
  be A.length ((A.length+X.length+B.length:Nat):Int) X.length (A++X++B++Y++C)/\
  br A.length ((A.length+X.length+B.length:Nat):Int) X.length (A++X++B++Y++C)=A++Y++B++X++C:=by
 have hlen:(A++X++B++Y++C).length=A.length+X.length+B.length+Y.length+C.length:=by simp[amF]
 have step:∀ j s,0<=j->j<0+Int.toNat (X.length:Int)->(∃ O U E V,X=O++U/\Y=E++V/\O.length=j/\E.length=j/\s=A++E++U++B++O++V++C)->
   cN A.length ((A.length+X.length+B.length:Nat):Int) X.length j s/\∀ s',cj A.length ((A.length+X.length+B.length:Nat):Int) X.length j s=.inr s'->∃ O U E V,X=O++U/\Y=E++V/\O.length=j+1/\E.length=j+1/\s'=A++E++U++B++O++V++C:=by
  rintro j s _ hj ⟨O,U,E,V,hX,hY,h1,h2,rfl⟩;rw[alv,alF]at hj;have l1:X.length=O.length+U.length:=by rw[hX,alA]
  have W:Y.length=E.length+V.length:=by rw[hY,alA]
  match U,V,l1,W,hX,hY with
  | [],_,l1,_,_,_=>simp at l1;omega|_::_,[],_,W,_,_=>simp at W;omega
  |x::U,y::V,l1,W,hX,hY=>
   simp only[aly]at l1 W;have w1:i64.wrap ((A.length:Int)+(j:Int))=((A.length+j:Nat):Int):=by rw[az (by omega) (by omega)];omega
   have w2:i64.wrap (((A.length+X.length+B.length:Nat):Int)+(j:Int))=((A.length+X.length+B.length+j:Nat):Int):=by rw[az (by omega) (by omega)];omega
   have r1:A++E++x::U++B++O++y::V++C=(A++E)++x::(U++B++O++y::(V++C)):=by simp
   have r2:A++E++x::U++B++O++y::V++C=(A++E++x::U++B++O)++y::(V++C):=by simp
   have g1:(A++E++x::U++B++O++y::V++C).getD (A.length+j) default=x:=by rw[r1];exact tL _ _ _ _ (by simp;omega)
   have g2:(A++E++x::U++B++O++y::V++C).getD (A.length+X.length+B.length+j) default=y:=by rw[r2];exact tL _ _ _ _ (by simp;omega)
   have hL:(A++E++x::U++B++O++y::V++C).length=A.length+X.length+B.length+Y.length+C.length:=by simp;omega
   unfold cN cj;simp only[w1,w2,alv,g1,g2,anx,hL];refine⟨by omega,λs' e=>?_⟩;cases e;refine⟨O++[x],U,E++[y],V,by rw[hX];simp,by rw[hY];simp,by simp[h1],by simp[h2],?_⟩;rw[r1,w5 (A++E) x y _ (by simp;omega)];have r3:A++E++y::(U++B++O++y::(V++C))=(A++E++y::U++B++O)++y::(V++C):=by simp
   rw[r3,w5 _ y x _ (by simp;omega)];simp
 have h0:∃ O U E V,X=O++U/\Y=E++V/\O.length=0/\E.length=0/\A++X++B++Y++C=A++E++U++B++O++V++C:=⟨[],X,[],Y,rfl,rfl,rfl,rfl,by simp⟩;have hJ:=wL (λk s=>∃ O U E V,X=O++U/\Y=E++V/\O.length=k/\E.length=k/\s=A++E++U++B++O++V++C) (Int.toNat (X.length:Int)) 0 _ h0 (λj s a b c=>(step j s a b c).2);unfold be br;refine⟨⟨by omega,kh (λk s=>∃ O U E V,X=O++U/\Y=E++V/\O.length=k/\E.length=k/\s=A++E++U++B++O++V++C) _ 0 _ h0 step⟩,?_⟩;cases hr:aj (cj A.length ((A.length+X.length+B.length:Nat):Int) X.length) (Int.toNat (X.length:Int)) 0 (A++X++B++Y++C)with
 |inl x=>exact x.elim
 |inr r=>
  obtain⟨O,U,E,V,rfl,rfl,h1,h2,rfl⟩:=hJ r hr;rw[alv,alF]at h1 h2;have e1:U=[]:=alI (by rw[alA]at h1;omega);have e2:V=[]:=alI (by rw[hxy,alA]at h2;omega);subst e1;subst e2;simp
theorem SK (A U V C:List bl)(hU:U≠[])(hV:V≠[])(hl:(A++U++V++C).length<2 ^ 62):
  bP A.length ((A.length+U.length:Nat):Int) ((A.length+U.length+V.length:Nat):Int) (A++U++V++C)/\
  aF A.length ((A.length+U.length:Nat):Int) ((A.length+U.length+V.length:Nat):Int) (A++U++V++C)=A++V++U++C:=by
 have hlen:(A++U++V++C).length=A.length+U.length+V.length+C.length:=by grind
 have w1:i64.wrap (((A.length+U.length:Nat):Int) - (A.length:Int))=(U.length:Int):=by grind [az]
 have w2:i64.wrap (((A.length+U.length+V.length:Nat):Int) - ((A.length+U.length:Nat):Int))=(V.length:Int):=by grind [az]
 have hm:∀ {M:Nat},M=A.length+U.length->∀ {F:List bl},F=A++V++U++C->okI (cO A.length (M:Int) ((A.length+U.length+V.length:Nat):Int)) (dq A.length (M:Int) ((A.length+U.length+V.length:Nat):Int)) (Int.toNat (((A.length+U.length+V.length:Nat):Int) - (A.length:Int))+1) 0 (A++U++V++C,(U.length:Int),(V.length:Int))/\
   ∃ r,aj (cO A.length (M:Int) ((A.length+U.length+V.length:Nat):Int)) (Int.toNat (((A.length+U.length+V.length:Nat):Int) - (A.length:Int))+1) 0 (A++U++V++C,(U.length:Int),(V.length:Int))=.inl r/\∃ W O E X,r=((O.length:Int),W++O++E++X)/\O.length=E.length/\W.length+O.length=M/\W++E++O++X=F:=by
  intro M hM F hF;refine y8 (λs:List bl×Int×Int=>(s.2.1+s.2.2).toNat) (λs:List bl×Int×Int=>∃ W O E X,s=(W++O++E++X,(O.length:Int),(E.length:Int))/\O≠[]/\E≠[]/\W.length+O.length=M/\W++E++O++X=F) _ ?_ _ _ _ ⟨A,U,V,C,rfl,hU,hV,hM.symm,hF.symm⟩ (by grind);rintro k s ⟨W,O,E,X,rfl,hU1,hV1,hM1,hF1⟩;have hFl:W.length+E.length+O.length+X.length<2 ^ 62:=by
   grind [List.length_append]
  have pU:0<O.length:=amc.2 hU1;have pV:0<E.length:=amc.2 hV1;unfold dq cO;have v1:i64.wrap ((M:Int) - (O.length:Int))=(W.length:Int):=by grind [az]
  by_cases he:O.length=E.length
  grind
  have b1:(((O.length:Int)) !=((E.length:Int)))=true:=by grind
  by_cases hgt:E.length<O.length
  have b2:decide (((O.length:Int)) > ((E.length:Int)))=true:=by grind
  have v2:i64.wrap ((O.length:Int) - (E.length:Int))=((O.drop E.length).length:Int):=by grind [az]
  have hsp:O=O.take E.length++O.drop E.length:=(amk _ _).symm;have ht:(O.take E.length).length=E.length:=by grind
  have hd:(O.drop E.length).length=O.length - E.length:=amp;have Y:=Kb W (O.take E.length) (O.drop E.length) E X ht (by grind);have e1:W++O.take E.length++O.drop E.length++E++X=W++O++E++X:=by grind
  have e2:((W.length+(O.take E.length).length+(O.drop E.length).length:Nat):Int)=(M:Int):=by omega
  rw[e1,e2,ht]at Y;simp only[b1,b2,v1,v2,cond_true];refine⟨λ_=>⟨λ_=>Y.1,λh=>by cases h⟩,.inr ⟨_,rfl,by simp only[hd];omega,W++E,O.drop E.length,O.take E.length,X,?_,λh=>?_,λh=>?_,?_,?_⟩⟩ <;>grind;have b2:decide (((O.length:Int)) > ((E.length:Int)))=false:=by grind
  have v2:i64.wrap ((E.length:Int) - (O.length:Int))=((E.take (E.length - O.length)).length:Int):=by grind [az]
  have v3:i64.wrap (i64.wrap ((M:Int)+(E.length:Int)) - (O.length:Int))=((W.length+O.length+(E.take (E.length - O.length)).length:Nat):Int):=by
   grind [az]
  have ht:(E.take (E.length - O.length)).length=E.length - O.length:=by grind
  have hd:(E.drop (E.length - O.length)).length=O.length:=by grind
  have Y:=Kb W O (E.take (E.length - O.length)) (E.drop (E.length - O.length)) X hd.symm (by grind);have e1:W++O++E.take (E.length - O.length)++E.drop (E.length - O.length)++X=W++O++E++X:=by simp_all
  rw[e1]at Y;simp only[b1,b2,v1,v2,v3,cond_true,cond_false];refine⟨λ_=>⟨(λh=>by cases h),λ_=>Y.1⟩,.inr ⟨_,rfl,by grind,W,E.drop (E.length - O.length),E.take (E.length - O.length),O++X,?_,λh=>?_,λh=>?_,by omega,?_⟩⟩;grind
  grind
  grind
  simp_all
 obtain⟨k1,r,k2,W,O,E,X,rfl,q1,q2,q3⟩:=hm rfl rfl;have hFl:W.length+E.length+O.length+X.length<2 ^ 62:=by
  grind [List.length_append]
 have v1:i64.wrap (((A.length+U.length:Nat):Int) - (O.length:Int))=(W.length:Int):=by grind [az]
 have Y:=Kb W O [] E X q1 (by grind);grind [bP,aF]
theorem half {i j:Int}(U:0<=i)(h1:i<=j)(h2:j<=2305843009213693952):i64.wrap (mr .u64 (u64.wrap (i64.wrap (i+j))) 1)=(i+j) / 2:=by
 have O:i64.wrap (i+j)=i+j:=az (by omega) (by omega);have e:u64.wrap (i+j)=i+j:=by
  unfold IntKind.wrap;simp[IntKind.bits,IntKind.signed];omega
 have E:mr .u64 (i+j) 1=(i+j) / 2:=by
  show Int.fdiv (i+j) ((2:Int) ^ min (Int.toNat 1) u64.bits)=_;have:(2:Int) ^ min (Int.toNat 1) u64.bits=2:=by decide
  rw[this,Int.fdiv_eq_ediv_of_nonneg _ (by omega)]
 rw[O,e,E,az (by omega) (by omega)]
theorem QZ {i j:Nat}(h1:i<=j)(h2:j<2 ^ 61):i64.wrap (mr .u64 (u64.wrap (i64.wrap ((i:Int)+(j:Int)))) 1)=(((i+j) / 2:Nat):Int):=by
 rw[half (by omega) (by omega) (by omega)];omega
theorem OS {step:Nat->Int×Int->Int⊕(Int×Int)}{p:Nat->Int×Int->Prop}(P:Nat->Bool)(lo hi:Nat)(Y:lo<=hi)(E:∀ x y,lo<=x->x<=y->y<hi->P y=true->P x=true)
  (hstep:∀ k (i j:Nat),lo<=i->i<j->j<=hi->p k ((i:Int),(j:Int))/\step k ((i:Int),(j:Int))=bif P ((i+j) / 2)then .inr ((((i+j) / 2+1:Nat):Int),(j:Int))else .inr ((i:Int),(((i+j) / 2:Nat):Int)))
  (O:∀ k (i:Nat),p k ((i:Int),(i:Int))/\step k ((i:Int),(i:Int))=.inl (i:Int)) (n k:Nat) (hn:hi - lo<n):
  okI step p n k ((lo:Int),(hi:Int))/\∃ r,aj step n k ((lo:Int),(hi:Int))=.inl r/\∃ q:Nat,r=(q:Int)/\lo<=q/\q<=hi/\(∀ x,lo<=x->x<q->P x=true)/\∀ x,q<=x->x<hi->P x=false:=by
 refine y8 (λs:Int×Int=>(s.2 - s.1).toNat) (λs:Int×Int=>∃ i j:Nat,s=((i:Int),(j:Int))/\lo<=i/\i<=j/\j<=hi/\(∀ x,lo<=x->x<i->P x=true)/\∀ x,j<=x->x<hi->P x=false) _ ?_ n k _ ⟨lo,hi,rfl,alw _,Y,alw _,λx h1 h2=>by omega,λx h1 h2=>by omega⟩ (by simp only;omega);rintro k s ⟨i,j,rfl,h1,h2,h3,h4,h5⟩;by_cases h:i<j
 obtain⟨q1,V⟩:=hstep k i j h1 h h3;refine⟨q1,.inr ?_⟩;have hm1:i<=(i+j) / 2:=by omega
 have hm2:(i+j) / 2<j:=by omega
 cases W:P ((i+j) / 2)with
 |true=>
  rw[W]at V;refine⟨_,V,by simp only;omega,(i+j) / 2+1,j,rfl,by omega,by omega,h3,λx U X=>?_,h5⟩;exact E x _ U (by omega) (by omega) W
 |false=>
  rw[W]at V;refine⟨_,V,by simp only;omega,i,(i+j) / 2,rfl,h1,hm1,by omega,h4,λx U X=>?_⟩;cases hx:P x with
  |false=>rfl
  |true=>rw[E _ x (by omega) U X hx]at W;cases W
 have e:i=j:=by omega
 subst e;obtain⟨q1,V⟩:=O k i;exact⟨q1,.inl ⟨_,V,i,rfl,h1,h3,h4,h5⟩⟩
theorem V_ (A V C:List bl)(x:bl)(U:List bl)(hl:(A++x::V++C).length<2 ^ 62)(X:(A++x::V++C).length=U.length):
  okI (u_ U ((A.length+1+V.length:Nat):Int)) (uD U ((A.length+1+V.length:Nat):Int)) (U.length+1) 0 (A++x::V++C,(A.length:Int))/\
  ∃ r,aj (u_ U ((A.length+1+V.length:Nat):Int)) (U.length+1) 0 (A++x::V++C,(A.length:Int))=.inl r/\r=A++V++x::C:=by
 have hlen:(A++x::V++C).length=A.length+V.length+C.length+1:=by simp;omega
 have w0:i64.wrap (((A.length+1+V.length:Nat):Int) - 1)=((A.length+V.length:Nat):Int):=by rw[az (by omega) (by omega)];omega
 refine y8 (λs:List bl×Int=>(((A.length+V.length:Nat):Int) - s.2).toNat) (λs:List bl×Int=>∃ E O,V=E++O/\s=(A++E++x::(O++C),((A.length+E.length:Nat):Int))) (λr=>r=A++V++x::C) ?_ _ _ _ ⟨[],V,rfl,by simp⟩ (by simp only;omega);rintro k s ⟨E,O,Y,rfl⟩;have W:V.length=E.length+O.length:=by rw[Y,alA]
 unfold uD u_;rw[w0];cases O with
 |nil=>
  have e:decide (((A.length+E.length:Nat):Int) < ((A.length+V.length:Nat):Int))=false:=by rw[decide_eq_false_iff_not,W,alJ];omega
  refine⟨λh=>?_,.inl ⟨A++E++x::([]++C),?_,by rw[Y];simp⟩⟩;simp only[e]at h;cases h;simp only[e,cond_false]
 |cons y O=>
  simp only[aly]at W;have e:decide (((A.length+E.length:Nat):Int) < ((A.length+V.length:Nat):Int))=true:=by rw[decide_eq_true_eq];omega
  have w1:i64.wrap (((A.length+E.length:Nat):Int)+1)=((A.length+E.length+1:Nat):Int):=by rw[az (by omega) (by omega)];omega
  have g1:(A++E++x::(y::O++C)).getD (A.length+E.length) default=x:=tL _ _ _ _ (by simp);have r1:A++E++x::(y::O++C)=(A++E++[x])++y::(O++C):=by simp
  have g2:(A++E++x::(y::O++C)).getD (A.length+E.length+1) default=y:=by rw[r1];exact tL _ _ _ _ (by simp;omega)
  have hL:(A++E++x::(y::O++C)).length=A.length+V.length+C.length+1:=by simp;omega
  simp only[e,w1,alv,g1,g2,anx,hL,cond_true];refine⟨λ_=>by omega,.inr ⟨_,rfl,by simp only;omega,E++[y],O,by rw[Y];simp,?_⟩⟩;rw[w5 (A++E) x y _ (by simp)];have r2:A++E++y::(y::O++C)=(A++E++[y])++y::(O++C):=by simp
  rw[r2,w5 (A++E++[y]) y x _ (by simp;omega)];simp[amF]
theorem OT (A U C:List bl)(x:bl)(V:List bl)(hl:(A++U++x::C).length<2 ^ 62)(X:(A++U++x::C).length=V.length):
  okI (va V (A.length:Int)) (uE V (A.length:Int)) (V.length+1) 0 (A++U++x::C,((A.length+U.length:Nat):Int))/\
  ∃ r,aj (va V (A.length:Int)) (V.length+1) 0 (A++U++x::C,((A.length+U.length:Nat):Int))=.inl r/\r=A++x::(U++C):=by
 have hlen:(A++U++x::C).length=A.length+U.length+C.length+1:=by simp;omega
 refine y8 (λs:List bl×Int=>(s.2 - (A.length:Int)).toNat) (λs:List bl×Int=>∃ E O,U=E++O/\s=(A++E++x::(O++C),((A.length+E.length:Nat):Int))) (λr=>r=A++x::(U++C)) ?_ _ _ _ ⟨U,[],by simp,by simp⟩ (by simp only;omega);rintro k s ⟨E,O,W,rfl⟩;have Y:U.length=E.length+O.length:=by rw[W,alA]
 unfold uE va;rcases anh E with rfl| ⟨E,y,rfl⟩;have e:decide (((A.length+([]:List bl).length:Nat):Int) > (A.length:Int))=false:=by simp
 refine⟨λh=>?_,.inl ⟨A++[]++x::(O++C),?_,by rw[W];simp⟩⟩;simp only[e]at h;cases h;simp only[e,cond_false];simp only[ani,alA,aly,alJ]at Y W |-;have e:decide (((A.length+(E.length+(0+1)):Nat):Int) > (A.length:Int))=true:=by rw[decide_eq_true_eq];omega
 have w1:i64.wrap (((A.length+(E.length+(0+1)):Nat):Int) - 1)=((A.length+E.length:Nat):Int):=by rw[az (by omega) (by omega)];omega
 have g1:(A++(E++[y])++x::(O++C)).getD (A.length+(E.length+(0+1))) default=x:=tL _ _ _ _ (by simp);have r1:A++(E++[y])++x::(O++C)=(A++E)++y::x::(O++C):=by simp
 have g2:(A++(E++[y])++x::(O++C)).getD (A.length+E.length) default=y:=by rw[r1];exact tL _ _ _ _ (by simp)
 have hL:(A++(E++[y])++x::(O++C)).length=A.length+U.length+C.length+1:=by simp;omega
 simp only[e,w1,alv,g1,g2,anx,hL,cond_true];refine⟨λ_=>by omega,.inr ⟨_,rfl,by simp only;omega,E,y::O,by rw[W];simp,?_⟩⟩;rw[w5 (A++(E++[y])) x y _ (by simp)];have r2:A++(E++[y])++y::(O++C)=(A++E)++y::y::(O++C):=by simp
 rw[r2,w5 (A++E) y x _ (by simp)];simp
theorem Wa(A V C:List α)(d:α){h:Nat}(h1:A.length<=h)(h2:h<A.length+V.length):(A++V++C).getD h d=V.getD (h - A.length) d:=by
 grind
variable {n:Nat}
theorem Q0(l:List α)(d:α)(h:n<l.length):l.getD n d=l[n]:=by
 grind
variable {V:List bl}
theorem qS(h:Srt V){i j:Nat}(h1:i<=j)(h2:j<V.length):(V.getD i default).at_<=(V.getD j default).at_:=by
 rcases aoD h1 with rfl|h1;omega;rw[Q0 V _ (by omega),Q0 V _ h2];exact al3.1 h i j (by omega) h2 h1
variable {y:bl}
theorem Ag(h:y∈V.take k):∃ i,i<k/\i<V.length/\y=V.getD i default:=by
 obtain⟨i,hi,e⟩:=al9.1 h;rw[amq]at hi;refine⟨i,by omega,by omega,?_⟩;grind
theorem Ah(h:y∈V.drop k):∃ i,k<=i/\i<V.length/\y=V.getD i default:=by
 obtain⟨i,hi,e⟩:=al9.1 h;rw[amp]at hi;refine⟨k+i,by omega,by omega,?_⟩;grind
def Dv{b:List bl}(h:Srt (a++b)):Srt a/\Srt b/\∀ x∈a,∀ y∈b,x.at_<=y.at_:=alX.1 h
def Bv{b:List bl}(h1:Srt a)(h2:Srt b)(E:∀ x∈a,∀ y∈b,x.at_<=y.at_):Srt (a++b):=alX.2 ⟨h1,h2,E⟩
def abe (n:Nat)(apS:Int->Int->Int->List bl->List bl)(apF:Int->Int->Int->List bl->Prop):Prop:=
 ∀ A U V C:List bl,U≠[]->V≠[]->U.length+V.length<=n->(A++U++V++C).length<2 ^ 60->Srt U->Srt V->
  apF (A.length:Int) ((A.length+U.length:Nat):Int) ((A.length+U.length+V.length:Nat):Int) (A++U++V++C)/\
  ∃ M,apS (A.length:Int) ((A.length+U.length:Nat):Int) ((A.length+U.length+V.length:Nat):Int) (A++U++V++C)=A++M++C/\aoP (U++V) M/\Srt M/\M.length=U.length+V.length
theorem OU (O:Int->Int->Int->List bl->List bl)(E:Int->Int->Int->List bl->Prop)(A V C:List bl)(x:bl)(hl:(A++[x]++V++C).length<2 ^ 60)(hV:Srt V):
  vb O E (A.length:Int) ((A.length+1:Nat):Int) ((A.length+1+V.length:Nat):Int) (A++[x]++V++C)/\
  ∃ M,J1 O E (A.length:Int) ((A.length+1:Nat):Int) ((A.length+1+V.length:Nat):Int) (A++[x]++V++C)=A++M++C/\aoP ([x]++V) M/\Srt M/\M.length=1+V.length:=by
 have hL:(A++[x]++V++C).length=A.length+V.length+C.length+1:=by simp;omega
 have w:i64.wrap (((A.length+1:Nat):Int) - (A.length:Int))=1:=by grind [az]
 have gx:(A++[x]++V++C).getD A.length default=x:=by
  grind
 have gV:∀ h,A.length+1<=h->h<A.length+1+V.length->(A++[x]++V++C).getD h default=V.getD (h - (A.length+1)) default:=λh h1 h2=>by
  grind
 have s:=OS (step:=rO (A.length:Int) (A++[x]++V++C)) (p:=r8 (A.length:Int) (A++[x]++V++C)) (λh=>decide ((V.getD (h - (A.length+1)) default).at_<x.at_)) (A.length+1) (A.length+1+V.length) (by omega)
  (λi j h1 h2 h3 h4=>by
   have:=qS hV (i:=i - (A.length+1)) (j:=j - (A.length+1)) (by omega) (by omega);grind)
  (λk i j h1 h2 h3=>by
   have e:decide ((i:Int) < (j:Int))=true:=by grind
   unfold r8 rO;simp only[QZ (i:=i) (j:=j) (by omega) (by omega),e,cond_true,alv,gx,gV ((i+j) / 2) (by omega) (by omega),QY,hL];grind [az])
  (λk i=>by
   simp_all [r8,rO]) ((A++[x]++V++C).length+1) 0 (by omega)
 obtain⟨s1,r,s2,q,rfl,q1,q2,q3,q4⟩:=s;have ht:(V.take (q - (A.length+1))).length=q - (A.length+1):=by rw[amq];omega
 have W:V.take (q - (A.length+1))++V.drop (q - (A.length+1))=V:=amk _ _;have hd1:∀ y∈V.take (q - (A.length+1)),y.at_<x.at_:=λy hy=>by
  obtain⟨i,i1,i2,rfl⟩:=Ag hy;have:=q3 (A.length+1+i) (by omega) (by omega);simp_all
 have hd2:∀ y∈V.drop (q - (A.length+1)),x.at_<=y.at_:=λy hy=>by
  obtain⟨i,i1,i2,rfl⟩:=Ah hy;have:=q4 (A.length+1+i) (by omega) (by omega);simp_all
 generalize hV1:V.take (q - (A.length+1))=V1 at *;generalize hV2:V.drop (q - (A.length+1))=V2 at *;subst W;have X:A++[x]++(V1++V2)++C=A++x::V1++(V2++C):=by simp
 obtain⟨c1,r,c2,rfl⟩:=V_ A V1 (V2++C) x (A++[x]++(V1++V2)++C) (by grind) (by rw[X]);have U:((A.length+1+V1.length:Nat):Int)=(q:Int):=by omega
 rw[<-X,U]at c1 c2;unfold vb J1;rw[w];refine⟨⟨λ_=>⟨s1,Fg (Q:=λ_=>True) ⟨_,s2,trivial⟩,λz Y=>?_⟩,λh=>by cases h⟩,V1++[x]++V2,?_,?_,?_,?_⟩;grind
 grind
 ·have h0:aoP ([x]++V1) (V1++[x]):=aoP.swap λa ha b hb=>by grind
  simpa using h0.app (aoP.refl V2)
 obtain⟨a1,a2,a3⟩:=Dv hV;refine Bv (Bv a1 (ama _ _) λy hy z Y=>?_) a2 λy hy z Y=>?_ <;>grind;grind
theorem Mu (O:Int->Int->Int->List bl->List bl)(E:Int->Int->Int->List bl->Prop)(A U C:List bl)(x:bl)(hU2:2<=U.length)(hl:(A++U++[x]++C).length<2 ^ 60)(hU:Srt U):
  vb O E (A.length:Int) ((A.length+U.length:Nat):Int) ((A.length+U.length+1:Nat):Int) (A++U++[x]++C)/\
  ∃ M,J1 O E (A.length:Int) ((A.length+U.length:Nat):Int) ((A.length+U.length+1:Nat):Int) (A++U++[x]++C)=A++M++C/\aoP (U++[x]) M/\Srt M/\M.length=U.length+1:=by
 have hL:(A++U++[x]++C).length=A.length+U.length+C.length+1:=by simp;omega
 have w1:i64.wrap (((A.length+U.length:Nat):Int) - (A.length:Int))=(U.length:Int):=by rw[az (by omega) (by omega)];omega
 have w:i64.wrap (((A.length+U.length+1:Nat):Int) - ((A.length+U.length:Nat):Int))=1:=by rw[az (by omega) (by omega)];omega
 have b1:((U.length:Int) ==1)=false:=by simp;omega
 have gx:(A++U++[x]++C).getD (A.length+U.length) default=x:=by
  have:A++U++[x]++C=(A++U)++x::C:=by simp
  rw[this];exact tL _ _ _ _ (by simp)
 have gU:∀ h,A.length<=h->h<A.length+U.length->(A++U++[x]++C).getD h default=U.getD (h - A.length) default:=λh h1 h2=>by
  have:=Wa A U ([x]++C) default (h:=h) h1 h2;simpa using this
 have s:=OS (step:=rP ((A.length+U.length:Nat):Int) (A++U++[x]++C)) (p:=r9 ((A.length+U.length:Nat):Int) (A++U++[x]++C)) (λh=>!decide (x.at_< (U.getD (h - A.length) default).at_)) A.length (A.length+U.length) (by omega)
  (λi j h1 h2 h3 h4=>by
   have:=qS hU (i:=i - A.length) (j:=j - A.length) (by omega) (by omega);simp only[alL,decide_eq_false_iff_not]at h4 |-;omega)
  (λk i j h1 h2 h3=>by
   have e:decide ((i:Int) < (j:Int))=true:=by rw[decide_eq_true_eq];omega
   unfold r9 rP;simp only[QZ (i:=i) (j:=j) (by omega) (by omega),e,cond_true,alv,gx,gU ((i+j) / 2) (by omega) (by omega),QY,hL];have w2:i64.wrap ((((i+j) / 2:Nat):Int)+1)=(((i+j) / 2+1:Nat):Int):=by rw[az (by omega) (by omega)];omega
   rw[w2];exact⟨λ_=>by omega,rfl⟩)
  (λk i=>by
   have e:decide ((i:Int) < (i:Int))=false:=by simp
   unfold r9 rP;simp only[e,cond_false];exact⟨λh=>by simp at h,trivial⟩) ((A++U++[x]++C).length+1) 0 (by omega)
 obtain⟨s1,r,s2,q,rfl,q1,q2,q3,q4⟩:=s;have ht:(U.take (q - A.length)).length=q - A.length:=by rw[amq];omega
 have hd:(U.drop (q - A.length)).length=U.length - (q - A.length):=amp;have hUs:U.take (q - A.length)++U.drop (q - A.length)=U:=amk _ _;have hd1:∀ y∈U.take (q - A.length),y.at_<=x.at_:=λy hy=>by
  obtain⟨i,i1,i2,rfl⟩:=Ag hy;have:=q3 (A.length+i) (by omega) (by omega);simpa[show A.length+i - A.length=i by omega]using this
 have W:∀ y∈U.drop (q - A.length),x.at_<y.at_:=λy hy=>by
  obtain⟨i,i1,i2,rfl⟩:=Ah hy;have:=q4 (A.length+i) (by omega) (by omega);simpa[show A.length+i - A.length=i by omega]using this
 generalize hV1:U.take (q - A.length)=V1 at *;generalize hV2:U.drop (q - A.length)=V2 at *;subst hUs;have eq:A++(V1++V2)++[x]++C=(A++V1)++V2++x::C:=by simp
 obtain⟨c1,r,c2,rfl⟩:=OT (A++V1) V2 C x (A++(V1++V2)++[x]++C) (by rw[<-eq];omega) (by rw[eq]);have X:(((A++V1).length:Nat):Int)=(q:Int):=by rw[alA,ht];omega
 have Y:(((A++V1).length+V2.length:Nat):Int)=((A.length+(V1++V2).length:Nat):Int):=by simp only[alA];omega
 rw[<-eq,Y,X]at c1 c2;unfold vb J1;rw[w1,w];refine⟨⟨λh=>(by rw[b1]at h;cases h),λ_=>⟨λ_=>⟨s1,Fg (Q:=λ_=>True) ⟨_,s2,trivial⟩,λz V=>?_⟩,λh=>by cases h⟩⟩,V1++[x]++V2,?_,?_,?_,?_⟩;rw[s2]at V;cases V;exact⟨c1,Fg (Q:=λ_=>True) ⟨_,c2,trivial⟩⟩;rw[s2];simp only[b1,BEq.rfl,cond_true,cond_false];rw[c2];simp
 ·have h0:aoP (V2++[x]) ([x]++V2):=aoP.swap λa ha b hb=>by simp at hb;subst hb;have:=W a ha;omega
  simpa using (aoP.refl V1).app h0
 obtain⟨a1,a2,a3⟩:=Dv hU;refine Bv (Bv a1 (ama _ _) λy hy z V=>?_) a2 λy hy z V=>?_;simp at V;subst V;exact hd1 y hy;rcases al7.1 hy with hy|hy;exact a3 y hy z V;simp at hy;subst hy;exact Int.le_of_lt (W z V);simp;omega
def stI (x:bl):List bl->List bl
 | [] =>[x]|y::r=>if x.at_<=y.at_ then x::y::r else y::stI x r
def stS:List bl->List bl
 | [] =>[]|x::r=>stI x (stS r)
theorem Fh (x:bl):∀ l,aoP (x::l) (stI x l)
 | [] =>aoP.refl _
 |y::r=>by
  unfold stI;by_cases h:x.at_<=y.at_
  rw[if_pos h];exact aoP.refl _
  ·rw[if_neg h];have h1:aoP ([x]++[y]++r) ([y]++[x]++r):=(aoP.swap λa E b O=>by simp at E O;subst E;subst O;omega).app (aoP.refl r);exact h1.trans ((aoP.refl [y]).app (Fh x r))
theorem aoP.symm{b:List bl}(h:aoP a b):aoP b a:=λt=>(h t).symm
theorem aoP.mem{b:List bl}(h:aoP a b)(E:x∈a):x∈b:=by
 have:x∈a.filter λy=>y.at_==x.at_:=by rw[anR];exact⟨E,by simp⟩
 rw[h x.at_]at this;exact(anR.1 this).1
theorem aoP.mem_iff{b:List bl}(h:aoP a b):x∈a↔x∈b:=⟨h.mem,h.symm.mem⟩
theorem Q2 (x:bl):∀ l,Srt l->Srt (stI x l)
 | [],_=>ama _ _
 |y::r,h=>by
  unfold stI;have h':=amA.1 h;by_cases hc:x.at_<=y.at_
  rw[if_pos hc];exact amA.2 ⟨λz hz=>by
   rcases alD.1 hz with rfl|hz;exact hc;exact anW hc (h'.1 z hz),h⟩
  rw[if_neg hc];refine amA.2 ⟨λz hz=>?_,Q2 x r h'.2⟩;have:=(Fh x r).symm.mem hz;rcases alD.1 this with rfl|hz';omega;exact h'.1 z hz'
def w8:∀ l,aoP l (stS l)
 | [] =>aoP.refl _|x::r=>((aoP.refl [x]).app (w8 r)).trans (Fh x _)
def Kc:∀ l,Srt (stS l)
 | [] =>List.Pairwise.nil|x::r=>Q2 x _ (Kc r)
theorem Ct:∀ {a b:List bl},Srt a->Srt b->aoP a b->a=b
 | [],[],_,_,_=>rfl
 | [],y::b,_,_,h=>absurd (h.symm.mem (alR)) (by simp)
 |x::a,[],_,_,h=>absurd (h.mem (alR)) (by simp)
 |x::a,y::b,ha,Y,h=>by
  have U:=amA.1 ha;have O:=amA.1 Y;have e:x.at_=y.at_:=by
   have h1:=h.mem (alR (a:=x) (l:=a));have h2:=h.symm.mem (alR (a:=y) (l:=b));have q1:y.at_<=x.at_:=by
    rcases alD.1 h1 with e|h1;rw[e];exact al5 _;exact O.1 x h1
   have q2:x.at_<=y.at_:=by
    rcases alD.1 h2 with e|h2;rw[e];exact al5 _;exact U.1 y h2
   omega
  have W:=h x.at_;have X:(y.at_==x.at_)=true:=by simp[e]
  have ex:(x.at_==x.at_)=true:=by simp
  simp only[aof,ex,X,if_true]at W;obtain⟨V,htl⟩:=List.cons.inj W;subst V;have:aoP a b:=λt=>by
   have E:=h t;simp only[aof]at E;by_cases hc:(x.at_==t)=true
   rw[if_pos hc,if_pos hc]at E;exact(List.cons.inj E).2;rw[if_neg hc,if_neg hc]at E;exact E
  rw[Ct U.2 O.2 this]
def y9{b:List bl}(h:aoP a b)(E:Srt b):b=stS a:=Ct E (Kc a) (h.symm.trans (w8 a))
def ZS:x∈stS l↔x∈l:=(w8 l).symm.mem_iff
theorem ah8{c1 W U:Bool}(O V:List bl->List bl):
  (bif c1 then(bif W then(bif U then V (O E)else O E)else(bif U then V E else E))else(bif W then(bif U then V (O l)else O l)else(bif U then V l else l)))=(bif U then V (bif W then O (bif c1 then E else l)else(bif c1 then E else l))else(bif W then O (bif c1 then E else l)else(bif c1 then E else l))):=by
 grind
theorem adw{c1 O V:Bool}{Y:Prop}(W:List bl->List bl)(X U:List bl->Prop)(h1:c1=true->Y)(h2:O=true->X (bif c1 then E else l))(h3:V=true->U (bif O then W (bif c1 then E else l)else(bif c1 then E else l))):
  ((c1=true->(Y/\((O=true->(X E/\(V=true->U (W E))))/\(O=false->V=true->U E))))/\(c1=false->((O=true->(X l/\(V=true->U (W l))))/\(O=false->V=true->U l)))):=by
 grind
theorem OV {N:Nat}{O:Int->Int->Int->List bl->List bl}{E:Int->Int->Int->List bl->Prop}(hr:abe N O E)(A U V C:List bl)(hU2:2<=U.length)(hV2:2<=V.length)(hN:U.length+V.length<=N+1)(hl:(A++U++V++C).length<2 ^ 60)(hU:Srt U)(hV:Srt V):
  vb O E (A.length:Int) ((A.length+U.length:Nat):Int) ((A.length+U.length+V.length:Nat):Int) (A++U++V++C)/\
  ∃ M,J1 O E (A.length:Int) ((A.length+U.length:Nat):Int) ((A.length+U.length+V.length:Nat):Int) (A++U++V++C)=A++M++C/\aoP (U++V) M/\Srt M/\M.length=U.length+V.length:=by
 have hL:(A++U++V++C).length=A.length+U.length+V.length+C.length:=by grind
 have gU:∀ h,A.length<=h->h<A.length+U.length->(A++U++V++C).getD h default=U.getD (h - A.length) default:=λh h1 h2=>by
  grind
 have gV:∀ h,A.length+U.length<=h->h<A.length+U.length+V.length->(A++U++V++C).getD h default=V.getD (h - (A.length+U.length)) default:=λh h1 h2=>by
  grind
 have X:i64.wrap (mr .u64 (u64.wrap (i64.wrap ((A.length:Int)+((A.length+U.length+V.length:Nat):Int)))) 1)=((A.length+(U.length+V.length) / 2:Nat):Int):=by
  rw[QZ (by omega) (by omega)];omega
 generalize hmd:A.length+(U.length+V.length) / 2=mid at *;have hn:i64.wrap ((mid:Int)+((A.length+U.length:Nat):Int))=((mid+(A.length+U.length):Nat):Int):=by grind [az]
 have hp1:i64.wrap (((mid+(A.length+U.length):Nat):Int) - 1)=((mid+(A.length+U.length) - 1:Nat):Int):=by grind [az]
 have w1:i64.wrap (((A.length+U.length:Nat):Int) - (A.length:Int))=(U.length:Int):=by grind [az]
 have w2:i64.wrap (((A.length+U.length+V.length:Nat):Int) - ((A.length+U.length:Nat):Int))=(V.length:Int):=by grind [az]
 have b1:((U.length:Int) ==1)=false:=by simp;omega
 have b2:((V.length:Int) ==1)=false:=by simp;omega
 obtain⟨lo,elo,hlo⟩:∃ lo:Nat,(bif decide (((A.length+U.length:Nat):Int) > (mid:Int))then i64.wrap (((mid+(A.length+U.length):Nat):Int) - ((A.length+U.length+V.length:Nat):Int))else(A.length:Int))=(lo:Int)/\((mid<A.length+U.length/\lo+V.length=mid)\/(A.length+U.length<=mid/\lo=A.length)):=by
  by_cases h:mid<A.length+U.length
  refine⟨mid - V.length,?_,.inl ⟨h,by omega⟩⟩;rw[decide_eq_true (by omega),cond_true,az (by omega) (by omega)];omega;grind
 obtain⟨hi,ehi,hhi⟩:∃ hi:Nat,(bif decide (((A.length+U.length:Nat):Int) > (mid:Int))then(mid:Int)else((A.length+U.length:Nat):Int))=(hi:Int)/\((mid<A.length+U.length/\hi=mid)\/(A.length+U.length<=mid/\hi=A.length+U.length)):=by
  grind
 have s:=OS (step:=xA (A.length:Int) ((A.length+U.length:Nat):Int) ((A.length+U.length+V.length:Nat):Int) (A++U++V++C)) (p:=sa (A.length:Int) ((A.length+U.length:Nat):Int) ((A.length+U.length+V.length:Nat):Int) (A++U++V++C)) (λc=>!decide ((V.getD (mid - 1 - c) default).at_< (U.getD (c - A.length) default).at_)) lo hi (by omega)
  (λi j h1 h2 h3 h4=>by
   have q1:=qS hU (i:=i - A.length) (j:=j - A.length) (by omega) (by omega);have q2:=qS hV (i:=mid - 1 - j) (j:=mid - 1 - i) (by omega) (by omega);grind)
  (λk i j h1 h2 h3=>by
   have e:decide ((i:Int) < (j:Int))=true:=by grind
   have hc:i64.wrap (((mid+(A.length+U.length) - 1:Nat):Int) - (((i+j) / 2:Nat):Int))=((mid+(A.length+U.length) - 1 - (i+j) / 2:Nat):Int):=by grind [az]
   have e2:mid+(A.length+U.length) - 1 - (i+j) / 2 - (A.length+U.length)=mid - 1 - (i+j) / 2:=by omega
   unfold sa xA;simp only[X,hn,hp1,QZ (i:=i) (j:=j) (by omega) (by omega),e,cond_true,hc,alv,gU ((i+j) / 2) (by omega) (by omega),gV (mid+(A.length+U.length) - 1 - (i+j) / 2) (by omega) (by omega),e2,QY,hL];grind [az])
  (λk i=>by
   simp_all [sa,xA]) ((A++U++V++C).length+1) 0 (by omega)
 obtain⟨s1,r,s2,q,rfl,q1,q2,q3,q4⟩:=s;have Y:i64.wrap (((mid+(A.length+U.length):Nat):Int) - (q:Int))=((mid+(A.length+U.length) - q:Nat):Int):=by grind [az]
 have hUs:U.take (q - A.length)++U.drop (q - A.length)=U:=amk _ _;have hVs:V.take (mid - q)++V.drop (mid - q)=V:=amk _ _;have lU1:(U.take (q - A.length)).length=q - A.length:=by rw[amq];omega
 have lU2:(U.drop (q - A.length)).length=A.length+U.length - q:=by rw[amp];omega
 have lV1:(V.take (mid - q)).length=mid - q:=by rw[amq];omega
 have lV2:(V.drop (mid - q)).length=V.length+q - mid:=by rw[amp];omega
 have k1:∀ x∈U.take (q - A.length),∀ y∈V.drop (mid - q),x.at_<=y.at_:=λx hx y hy=>by
  obtain⟨i,i1,i2,rfl⟩:=Ag hx;obtain⟨j,j1,j2,rfl⟩:=Ah hy;have:=q3 (q - 1) (by omega) (by omega);have p1:=qS hU (i:=i) (j:=q - 1 - A.length) (by omega) (by omega);have p2:=qS hV (i:=mid - 1 - (q - 1)) (j:=j) (by omega) (by omega);grind
 have k2:∀ x∈U.drop (q - A.length),∀ y∈V.take (mid - q),y.at_<x.at_:=λx hx y hy=>by
  obtain⟨i,i1,i2,rfl⟩:=Ah hx;obtain⟨j,j1,j2,rfl⟩:=Ag hy;have:=q4 q (by omega) (by omega);have p1:=qS hU (i:=q - A.length) (j:=i) (by omega) (by omega);have p2:=qS hV (i:=j) (j:=mid - 1 - q) (by omega) (by omega);grind
 generalize hE1:U.take (q - A.length)=U1 at *;generalize hE2:U.drop (q - A.length)=U2 at *;generalize hE3:V.take (mid - q)=V1 at *;generalize hE4:V.drop (mid - q)=V2 at *;have lenU:U.length=U1.length+U2.length:=by grind
 have lenV:V.length=V1.length+V2.length:=by omega
 have hlist:A++U++V++C=A++U1++U2++V1++(V2++C):=by grind
 obtain⟨sU1,sU2,sU⟩:=Dv (by grind:Srt (U1++U2));obtain⟨sV1,sV2,sV⟩:=Dv (by grind:Srt (V1++V2));have hrot:(decide ((q:Int) < ((A.length+U.length:Nat):Int))&&decide (((A.length+U.length:Nat):Int) < ((mid+(A.length+U.length) - q:Nat):Int)))=true->bP (q:Int) ((A.length+U.length:Nat):Int) ((mid+(A.length+U.length) - q:Nat):Int) (A++U++V++C)/\aF (q:Int) ((A.length+U.length:Nat):Int) ((mid+(A.length+U.length) - q:Nat):Int) (A++U++V++C)=A++U1++V1++(U2++V2++C):=λh=>by
  simp only[alt,decide_eq_true_eq]at h;have:=SK (A++U1) U2 V1 (V2++C) (by grind) (by rw[<-amc];omega) (by grind);have e1:(((A++U1).length:Nat):Int)=(q:Int):=by grind
  have e2:(((A++U1).length+U2.length:Nat):Int)=((A.length+U.length:Nat):Int):=by omega
  have e3:(((A++U1).length+U2.length+V1.length:Nat):Int)=((mid+(A.length+U.length) - q:Nat):Int):=by omega
  grind
 have hl1:(bif(decide ((q:Int) < ((A.length+U.length:Nat):Int))&&decide (((A.length+U.length:Nat):Int) < ((mid+(A.length+U.length) - q:Nat):Int)))then aF (q:Int) ((A.length+U.length:Nat):Int) ((mid+(A.length+U.length) - q:Nat):Int) (A++U++V++C)else A++U++V++C)=A++U1++V1++(U2++V2++C):=by
  cases hc:(decide ((q:Int) < ((A.length+U.length:Nat):Int))&&decide (((A.length+U.length:Nat):Int) < ((mid+(A.length+U.length) - q:Nat):Int)))with
  |true=>grind
  |false=>
   rw[cond_false,hlist];simp only[amv,decide_eq_false_iff_not]at hc;have:U2=[]\/V1=[]:=by
    rcases hc with hc|hc;exact .inl (alI (by omega));exact .inr (alI (by omega))
   rcases this with rfl|rfl <;>simp
 obtain⟨W,hM1p,hM1,f1,t1,l1⟩:∃ W,((decide ((A.length:Int) < (q:Int))&&decide ((q:Int) < (mid:Int)))=true->E (A.length:Int) (q:Int) (mid:Int) (A++U1++V1++(U2++V2++C)))/\(bif(decide ((A.length:Int) < (q:Int))&&decide ((q:Int) < (mid:Int)))then O (A.length:Int) (q:Int) (mid:Int) (A++U1++V1++(U2++V2++C))else A++U1++V1++(U2++V2++C))=A++W++(U2++V2++C)/\aoP (U1++V1) W/\Srt W/\W.length=U1.length+V1.length:=by
  cases hc:(decide ((A.length:Int) < (q:Int))&&decide ((q:Int) < (mid:Int)))with
  |true=>
   simp only[alt,decide_eq_true_eq]at hc;obtain⟨h1,W,h2,h3,h4,h5⟩:=hr A U1 V1 (U2++V2++C) (by grind) (by grind) (by omega) (by grind) sU1 sV1;grind
  |false=>
   simp only[amv,decide_eq_false_iff_not]at hc;refine⟨U1++V1,(λh=>by cases h),by simp,aoP.refl _,?_,alA⟩;have:U1=[]\/V1=[]:=by
    rcases hc with hc|hc;exact .inl (alI (by omega));exact .inr (alI (by omega))
   rcases this with rfl|rfl <;>grind
 obtain⟨M2,hM2p,hM2,f2,t2,l2⟩:∃ M2,((decide ((mid:Int) < ((mid+(A.length+U.length) - q:Nat):Int))&&decide (((mid+(A.length+U.length) - q:Nat):Int) < ((A.length+U.length+V.length:Nat):Int)))=true->E (mid:Int) ((mid+(A.length+U.length) - q:Nat):Int) ((A.length+U.length+V.length:Nat):Int) (A++W++(U2++V2++C)))/\(bif(decide ((mid:Int) < ((mid+(A.length+U.length) - q:Nat):Int))&&decide (((mid+(A.length+U.length) - q:Nat):Int) < ((A.length+U.length+V.length:Nat):Int)))then O (mid:Int) ((mid+(A.length+U.length) - q:Nat):Int) ((A.length+U.length+V.length:Nat):Int) (A++W++(U2++V2++C))else A++W++(U2++V2++C))=A++W++M2++C/\aoP (U2++V2) M2/\Srt M2/\M2.length=U2.length+V2.length:=by
  cases hc:(decide ((mid:Int) < ((mid+(A.length+U.length) - q:Nat):Int))&&decide (((mid+(A.length+U.length) - q:Nat):Int) < ((A.length+U.length+V.length:Nat):Int)))with
  |true=>
   simp only[alt,decide_eq_true_eq]at hc;obtain⟨h1,M2,h2,h3,h4,h5⟩:=hr (A++W) U2 V2 C (by rw[<-amc];omega) (by rw[<-amc];omega) (by omega) (by grind) sU2 sV2;have e0:(((A++W).length:Nat):Int)=(mid:Int):=by rw[alA];omega
   have e1:(((A++W).length+U2.length:Nat):Int)=((mid+(A.length+U.length) - q:Nat):Int):=by omega
   grind
  |false=>
   simp only[amv,decide_eq_false_iff_not]at hc;refine⟨U2++V2,(λh=>by cases h),by simp,aoP.refl _,?_,alA⟩;have:U2=[]\/V2=[]:=by
    rcases hc with hc|hc;exact .inl (alI (by omega));exact .inr (alI (by omega))
   rcases this with rfl|rfl <;>grind
 unfold vb J1;simp only[w1,w2,b1,b2,X,hn,elo,ehi,s2,Y,cond_false];refine⟨⟨(λh=>by cases h),λ_=>⟨(λh=>by cases h),λ_=>⟨s1,(λz h=>by cases h),λz hz=>?_⟩⟩⟩,W++M2,?_,?_,?_,?_⟩;cases hz;simp only[Y];exact adw (λl=>O (A.length:Int) (q:Int) (mid:Int) l) (λl=>E (A.length:Int) (q:Int) (mid:Int) l) (λl=>E (mid:Int) ((mid+(A.length+U.length) - q:Nat):Int) ((A.length+U.length+V.length:Nat):Int) l) (λh=>(hrot h).1) (λh=>by grind) (λh=>by rw[hl1];grind);refine(ah8 (λl=>O (A.length:Int) (q:Int) (mid:Int) l) (λl=>O (mid:Int) ((mid+(A.length+U.length) - q:Nat):Int) ((A.length+U.length+V.length:Nat):Int) l)).trans ?_;rw[hl1];simp only[hM1];grind
 ·have h0:aoP (U2++V1) (V1++U2):=aoP.swap λa ha b hb=>by grind
  have h1:aoP (U++V) (U1++V1++(U2++V2)):=by
   rw[<-hUs,<-hVs];have:=((aoP.refl U1).app h0).app (aoP.refl V2);grind
  exact h1.trans (f1.app f2)
 refine Bv t1 t2 λx hx y hy=>?_;have hx:=f1.symm.mem hx;have hy:=f2.symm.mem hy;rcases al7.1 hx with hx|hx <;>rcases al7.1 hy with hy|hy <;>grind;grind
theorem Mv:∀ n,abe n (qg n).1 (qg n).2
 |0=>λA U V C E X h=>absurd (amc.2 E) (by omega)
 |n+1=>λA U V C E X hN O W Y=>by
  have pU:=amc.2 E;have pV:=amc.2 X;by_cases h1:U.length=1
  obtain⟨x,rfl⟩:=aol.1 h1;exact OU _ _ A V C x O Y;by_cases h2:V.length=1
  obtain⟨x,rfl⟩:=aol.1 h2;exact Mu _ _ A U C x (by omega) O W;exact OV (Mv n) A U V C (by omega) (by omega) hN O W Y
theorem Wb (A U V C:List bl)(E:U≠[])(O:V≠[])(W:(A++U++V++C).length<2 ^ 60)(Y:Srt U)(X:Srt V):
  cG (A.length:Int) ((A.length+U.length:Nat):Int) ((A.length+U.length+V.length:Nat):Int) (A++U++V++C)/\
  ∃ M,dc (A.length:Int) ((A.length+U.length:Nat):Int) ((A.length+U.length+V.length:Nat):Int) (A++U++V++C)=A++M++C/\aoP (U++V) M/\Srt M/\M.length=U.length+V.length:=
 Mv ((A++U++V++C).length+1) A U V C E O (by grind) W Y X
inductive Blk (n:Nat):List bl->Prop
 |last {l:List bl}:l.length<=n->Srt l->Blk n l
 |cons {b l:List bl}:b.length=n->Srt b->Blk n l->Blk n (b++l)
inductive Full (n:Nat):List bl->Prop
 |nil:Full n []
 |snoc {l b:List bl}:Full n l->b.length=n->Srt b->Full n (l++b)
theorem Full.app(h:Full n a):∀ {l:List bl},Blk n l->Blk n (a++l):=by
 induction h with
 |nil=>grind
 |snoc _ U O E=>exact λh=>by rw[amt];exact E (.cons U O h)
theorem Blk.srt(h:Blk n l)(O:l.length<=n):Srt l:=by
 cases h with
 |last _ E=>exact E
 | @cons b r U E h=>
  rw[alA]at O;have:=alI (show r.length=0 by omega);grind
theorem Blk.split(h:Blk n l)(O:n<=l.length):∃ b r,l=b++r/\b.length=n/\Srt b/\Blk n r:=by
 cases h with
 |last h1 E=>exact⟨l,[],by simp,by omega,E,.last (al4 _) List.Pairwise.nil⟩
 |cons U E h=>grind
theorem uL{b:List bl}(h:aoP a b):a.length=b.length:=by
 have e:∀ {l:List bl},stS l=l\/True:=λ{_} =>.inr trivial;have h1:∀ l:List bl,(stS l).length=l.length:=λl=>by
  induction l with
  |nil=>rfl
  |cons x r O=>
   have:∀ l:List bl,(stI x l).length=l.length+1:=λl=>by
    induction l with
    |nil=>rfl
    |cons y l E=>
     unfold stI;grind
   show(stI x (stS r)).length=_;grind
 rw[<-h1 a,<-h1 b,y9 (h.trans (w8 b)) (Kc b)]
theorem Iw (l:List bl)(hl:l.length<2 ^ 58):ci (l.length:Int) l/\cI (l.length:Int) l=stS l:=by
 obtain⟨k1,r,k2,D,R,rfl,k3,k4,k5,k6⟩:okI (bL (l.length:Int)) (du (l.length:Int)) (Int.toNat (l.length:Int)+1) 0 (l,0,20)/\∃ r,aj (bL (l.length:Int)) (Int.toNat (l.length:Int)+1) 0 (l,0,20)=.inl r/\∃ D R,r=(((D.length:Nat):Int),D++R)/\Full 20 D/\aoP l (D++R)/\R.length<20/\l.length=D.length+R.length:=by
  refine y8 (λs:List bl×Int×Int=>((l.length:Int) - s.2.1).toNat) (λs:List bl×Int×Int=>∃ D R,s=(D++R,((D.length:Nat):Int),((D.length+20:Nat):Int))/\Full 20 D/\aoP l (D++R)/\l.length=D.length+R.length) _ ?_ _ _ _ ⟨[],l,rfl,.nil,aoP.refl _,by simp⟩ (by grind);rintro k s ⟨D,R,rfl,hD,W,O⟩;unfold du bL;by_cases h:20<=R.length
  have e:decide (((D.length+20:Nat):Int)<=(l.length:Int))=true:=by grind
  have hRs:R.take 20++R.drop 20=R:=amk _ _;have hRt:(R.take 20).length=20:=by grind
  have hRd:(R.drop 20).length=R.length - 20:=amp;have hi:=Iv D (R.take 20) (R.drop 20) (by grind);rw[amt D,hRs,hRt]at hi;obtain⟨i1,M,V,U,X⟩:=hi;have hM:=uL U;have w:i64.wrap (((D.length+20:Nat):Int)+20)=(((D++M).length+20:Nat):Int):=by grind [az]
  simp only[e,cond_true,w];refine⟨λ_=>i1,.inr ⟨_,rfl,by grind,D++M,R.drop 20,?_,hD.snoc (by omega) X,?_,by grind⟩⟩;grind
  refine W.trans ?_;have:=((aoP.refl D).app (U.app (aoP.refl (R.drop 20))));grind
  grind
 have hi:=Iv D R [] (by grind);have eN:((D.length+R.length:Nat):Int)=(l.length:Int):=by omega
 rw[alT,eN]at hi;obtain⟨i1,M,V,U,X⟩:=hi;rw[alT]at V;have hM:=uL U;have hB0:Blk 20 (D++M):=k3.app (.last (by omega) X);have hF0:aoP l (D++M):=k4.trans ((aoP.refl D).app U);obtain⟨m1,r,m2,m3,m4⟩:okI (b7 (l.length:Int)) (cA (l.length:Int)) (Int.toNat (l.length:Int)+1) 0 (D++M,20)/\∃ r,aj (b7 (l.length:Int)) (Int.toNat (l.length:Int)+1) 0 (D++M,20)=.inl r/\aoP l r/\Srt r:=by
  refine y8 (λs:List bl×Int=>((l.length:Int) - s.2).toNat) (λs:List bl×Int=>∃ (L:List bl) (n:Nat),s=(L,(n:Int))/\20<=n/\n<2 ^ 59/\Blk n L/\aoP l L) _ ?_ _ _ _ ⟨D++M,20,rfl,alw _,by omega,hB0,hF0⟩ (by omega);rintro k s ⟨L,n,rfl,hn,hn2,hB,W⟩;have hLl:=uL W;by_cases h:n<l.length
  have e:decide ((n:Int) < (l.length:Int))=true:=by grind
  have w2:i64.wrap (2*(n:Int))=((2*n:Nat):Int):=by grind [az]
  have w2':i64.wrap ((n:Int)*2)=((2*n:Nat):Int):=by grind
  obtain⟨p1,r,p2,D,R,rfl,p3,p4,p5,p6,p7⟩:okI (cP (l.length:Int) (L,(n:Int))) (dv (l.length:Int) (L,(n:Int))) (Int.toNat (l.length:Int)+1) 0 (L,0,((2*n:Nat):Int))/\∃ r,aj (cP (l.length:Int) (L,(n:Int))) (Int.toNat (l.length:Int)+1) 0 (L,0,((2*n:Nat):Int))=.inl r/\∃ D R,r=(((D.length:Nat):Int),D++R)/\Full (2*n) D/\Blk n R/\aoP l (D++R)/\R.length<2*n/\l.length=D.length+R.length:=by
   refine y8 (λs:List bl×Int×Int=>((l.length:Int) - s.2.1).toNat) (λs:List bl×Int×Int=>∃ D R,s=(D++R,((D.length:Nat):Int),((D.length+2*n:Nat):Int))/\Full (2*n) D/\Blk n R/\aoP l (D++R)/\l.length=D.length+R.length) _ ?_ _ _ _ ⟨[],L,by simp,.nil,hB,W,by grind⟩ (by grind);rintro k s ⟨D,R,rfl,hD,hR,W,O⟩;unfold dv cP;by_cases h:2*n<=R.length
   have e:decide (((D.length+2*n:Nat):Int)<=(l.length:Int))=true:=by grind
   obtain⟨E,R1,rfl,b1,b2,b3⟩:=hR.split (by omega);rw[alA]at h O;obtain⟨B2,Y,rfl,c1,c2,c3⟩:=b3.split (by omega);rw[alA]at h O;obtain⟨i1,M,V,U,X,i5⟩:=Wb D E B2 Y (by grind) (by grind) (by grind) b2 c2;have e0:D++E++B2++Y=D++(E++(B2++Y)):=by simp
   have e1:((D.length+E.length+B2.length:Nat):Int)=((D.length+2*n:Nat):Int):=by omega
   have e2:i64.wrap ((D.length:Int)+(n:Int))=((D.length+E.length:Nat):Int):=by grind [az]
   rw[e0,e1]at i1 V;have w:i64.wrap (((D.length+2*n:Nat):Int)+((2*n:Nat):Int))=(((D++M).length+2*n:Nat):Int):=by grind [az]
   simp only[e,cond_true,e2,w2,w];refine⟨λ_=>i1,.inr ⟨_,rfl,by grind,D++M,Y,?_,hD.snoc (by omega) X,c3,?_,by grind⟩⟩;grind
   refine W.trans ?_;have:=(aoP.refl D).app (U.app (aoP.refl Y));grind
   grind
  have wm:i64.wrap ((D.length:Int)+(n:Int))=((D.length+n:Nat):Int):=by grind [az]
  unfold cA b7;simp only[e,cond_true,w2,w2',p2,wm];by_cases hm:n<R.length
  have em:decide (((D.length+n:Nat):Int) < (l.length:Int))=true:=by grind
  obtain⟨E,R1,rfl,b1,b2,b3⟩:=p4.split (by omega);rw[alA]at hm p6 p7;have b4:=b3.srt (by omega);obtain⟨i1,M,V,U,X,i5⟩:=Wb D E R1 [] (by grind) (by grind) (by grind) b2 b4;have e0:D++E++R1++[]=D++(E++R1):=by simp
  have e1:((D.length+E.length+R1.length:Nat):Int)=(l.length:Int):=by omega
  have e2:((D.length+E.length:Nat):Int)=((D.length+n:Nat):Int):=by omega
  rw[e0,e1,e2]at i1 V;rw[alT]at V;refine⟨λ_=>⟨p1,(λz h=>by cases h),λx hx=>by grind⟩,.inr ⟨(D++M,((2*n:Nat):Int)),by grind,by omega,D++M,2*n,rfl,by omega,by omega,p3.app (.last (by omega) X),p5.trans ((aoP.refl D).app U)⟩⟩;have em:decide (((D.length+n:Nat):Int) < (l.length:Int))=false:=by grind
  refine⟨λ_=>⟨p1,(λz h=>by cases h),λx hx=>by grind⟩,.inr ⟨(D++R,((2*n:Nat):Int)),by grind,by omega,D++R,2*n,rfl,by omega,by omega,p3.app (.last (by omega) (p4.srt (by omega))),p5⟩⟩;have e:decide ((n:Int) < (l.length:Int))=false:=by grind
  unfold cA b7;simp only[e,cond_false];exact⟨(λh=>by cases h),.inl ⟨_,rfl,W,hB.srt (by omega)⟩⟩
 unfold ci cI;rw[k2];simp only[V,m2];exact⟨⟨k1,(λz h=>by cases h),λx hx=>by grind⟩,y9 m3 m4⟩
def Mw (l:List bl)(E:l.length<2 ^ 58):bJ l/\bT l=stS l:=⟨λ_=>(Iw l E).1,(Iw l E).2⟩
theorem Mx:∀ (l:List bl) (n:Int),wq .int .x6 (uK l) n=l.any λy=>y.no==n:=λl n=>by
 have:∀ (r:List bl),wq .int .x6 (uK r.reverse) n=r.reverse.any λy=>y.no==n:=λr=>by
  induction r with
  |nil=>rfl
  |cons x r E=>
   rw[List.reverse_cons,xE,SH,E,List.any_append];grind
 simpa using this l.reverse
theorem Fi(h:Asc l)(hy:y∈l):ax .int .x6 (uK l) y.no=y:=by
 have:∀ (r:List bl),Asc r.reverse->∀ y∈r,ax .int .x6 (uK r.reverse) y.no=y:=λr=>by
  induction r with
  |nil=>simp
  |cons x r O=>
   intro E y hy;rw[List.reverse_cons]at E |-;obtain⟨a1,_,U⟩:=alX.1 E;rw[xE,od];rcases alD.1 hy with rfl|hy;grind
   have:=U y (by grind) x (by simp);rw[if_neg (show ¬y.no=x.no by omega)];exact O a1 y hy
 simpa using this l.reverse (by simpa using h) y (by grind)
structure Fit (d:ah)(x:bl):Prop where
 no0:0<=x.no
 no1:x.no<=1048576
 at0:0<=x.at_
 at1:x.at_<=4096
 kn0:0<=x.known
 kn1:x.known<=1048576
 kind:x.kind=1\/x.kind=2\/x.kind=3\/x.kind=4
 held:x.kind≠4->0<=x.right/\x.right< (d.al.length:Int)/\(d.al.getD (Int.toNat x.right) default).kind=1/\0<=x.since/\x.since< (d.u0.length:Int)
 pass:x.kind=1->0<=x.to/\x.to< (d.u0.length:Int)/\x.to≠x.since
 split:x.kind=2->ap0 d x.parts
theorem Wc{m:List (Int×bl)}(hf:d.u0.length<=600)(hr:d.al.length<=256)(h:dy d m x=true):Fit d x/\(x.kind=4->wq .int .x6 m x.of_=true/\(ax .int .x6 m x.of_).kind≠4/\(ax .int .x6 m x.of_).known<=x.known):=by
 unfold dy at h;cases Y:((((!(aO x.no 0 1048576)) ||(!(aO x.at_ 0 4096))) ||(!(aO x.known 0 1048576))) ||(!(kR x)))with
 |true=>grind
 |false=>
  rw[Y]at h;simp only[al1,amN]at Y;obtain⟨⟨⟨a1,U⟩,V⟩,a4⟩:=Y;rw[vo]at a1 U V;simp only[cond_false]at h;by_cases k1:x.kind=1
  rw[show(x.kind==1)=true by simp[k1]]at h;simp only[cond_true,alt,beq_iff_eq,bne_iff_ne]at h;obtain⟨⟨⟨⟨O,W⟩,E⟩,X⟩,b5⟩:=h;rw[y7 _ (by omega)]at O E X;exact⟨⟨a1.1,a1.2,U.1,U.2,V.1,V.2,.inl k1,λ_=>⟨O.1,O.2,W,E.1,E.2⟩,λ_=>⟨X.1,X.2,b5⟩,λe=>by omega⟩,λe=>by omega⟩;rw[show(x.kind==1)=false by grind]at h;by_cases k2:x.kind=2
  rw[show(x.kind==2)=true by simp[k2]]at h;simp only[cond_true,cond_false,alt,beq_iff_eq]at h;obtain⟨⟨⟨O,W⟩,E⟩,X⟩:=h;rw[y7 _ (by omega)]at O E;exact⟨⟨a1.1,a1.2,U.1,U.2,V.1,V.2,.inr (.inl k2),λ_=>⟨O.1,O.2,W,E.1,E.2⟩,λe=>by omega,λ_=>V8 hf X⟩,λe=>by omega⟩;rw[show(x.kind==2)=false by grind]at h;by_cases k3:x.kind=3
  rw[show(x.kind==3)=true by simp[k3]]at h;simp only[cond_true,cond_false,alt,beq_iff_eq]at h;obtain⟨⟨O,W⟩,E⟩:=h;rw[y7 _ (by omega)]at O E;exact⟨⟨a1.1,a1.2,U.1,U.2,V.1,V.2,.inr (.inr (.inl k3)),λ_=>⟨O.1,O.2,W,E.1,E.2⟩,λe=>by omega,λe=>by omega⟩,λe=>by omega⟩;rw[show(x.kind==3)=false by grind]at h;by_cases k4:x.kind=4
  rw[show(x.kind==4)=true by simp[k4]]at h;simp only[cond_true,cond_false,alt,bne_iff_ne,decide_eq_true_eq]at h;obtain⟨⟨O,W⟩,E⟩:=h;exact⟨⟨a1.1,a1.2,U.1,U.2,V.1,V.2,.inr (.inr (.inr k4)),λe=>absurd k4 e,λe=>by omega,λe=>by omega⟩,λ_=>⟨O,W,E⟩⟩;grind
structure aqO (d:ah)(l:List bl):Prop where
 right:apd d
 len:l.length<=512
 asc:Asc l
 fit:∀ x∈l,Fit d x
 void:∀ x∈l,x.kind=4->∃ y∈l,y.no=x.of_/\y.kind≠4/\y.known<=x.known/\y.no<x.no
theorem Q3 {d:ah}:∀ {r b:List bl},Chk d b r->∀ x∈r,∃ E,(∃ t,b++r=E++x::t)/\dy d (uK E) x=true
 | [],_,_,x,hx=>by cases hx
 |y::r,b,⟨h1,h2,O⟩,x,hx=>by
  rcases alD.1 hx with rfl|hx;grind
  obtain⟨E,⟨t,e⟩,h⟩:=Q3 O x hx;grind
theorem sQ(h:aP d l=0):aqO d l:=by
 obtain⟨h1,h2,_,h4⟩:=(xF d l).1 h;have O:=jw (d:=d) (by rw[h1];rfl);have U:=Chk.asc List.Pairwise.nil h4;rw[alC]at U;have hf:∀ x∈l,∃ b',(∃ t,l=b'++x::t)/\dy d (uK b') x=true:=λx E=>by
  have:=Q3 h4 x E;grind
 refine⟨O,h2,U,λx E=>?_,λx E hk=>?_⟩;obtain⟨b,_,h⟩:=hf x E;exact(Wc O.u0 O.al h).1;obtain⟨b,⟨t,e⟩,h⟩:=hf x E;obtain⟨q1,Y,X⟩:=(Wc O.u0 O.al h).2 hk;rw[Mx,amC]at q1;obtain⟨y,hy,V⟩:=q1;have V:y.no=x.of_:=by grind
 rw[e]at U;have W:Asc b:=(alX.1 U).1;rw[<-V,Fi W hy]at Y X;exact⟨y,by grind,V,Y,X,(alX.1 U).2.2 y hy x alR⟩
def pL (l:List bl)(known n:Int):Bool:=l.any λv=>v.kind==4&&decide (v.known<=known)&&v.of_==n
def Ai (l:List bl)(hour known:Int):List bl:=l.filter λx=>!((((x.kind==4) ||(decide (x.known > known))) ||(decide (x.at_ > hour))) ||pL l known x.no)
theorem Wd (l:List bl)(known:Int):∃ m,aj (fP l known) l.length 0 []=.inr m/\∀ n,ax .int .bool m n=pL l known n:=by
 obtain⟨r,h1,h2⟩:=li (step:=fP l known) (λk m=>∀ n,ax .int .bool m n=pL (l.take k) known n) l.length 0 ([]:List (Int×Bool)) (λn=>by rfl) (λj s _ O E=>by
  rw[alF]at O;unfold fP;rw[b_ l default O];cases hc:(((l.getD j (default:bl)).kind==4)&&(decide ((l.getD j (default:bl)).known<=known)))with
  |true=>
   refine⟨_,rfl,λn=>?_⟩;rw[od];unfold pL at E |-;grind
  |false=>
   refine⟨_,rfl,λn=>?_⟩;rw[E];unfold pL;grind)
 grind
theorem We (K G:List bl):((wr .x6 (K++G) (K.length:Int) ((K++G).length:Int)).take K.length)=K:=by
 grind [wr]
theorem Aj{step:Nat->Unit->Int⊕Unit}(l:List α)(d:α)(P:α->Bool)(h:∀ k,k<l.length->step k ()=bif P (l.getD k d)then .inl (k:Int)else .inr ()):(aj step l.length 0 ()=.inr ()/\∀ x∈l,P x=false)\/∃ K x R,l=K++x::R/\aj step l.length 0 ()=.inl (K.length:Int)/\P x=true/\∀ y∈K,P y=false:=by
 have key:∀ (R K:List α),l=K++R->(∀ y∈K,P y=false)->(aj step R.length K.length ()=.inr ()/\∀ x∈l,P x=false)\/∃ E x V,l=E++x::V/\aj step R.length K.length ()=.inl (E.length:Int)/\P x=true/\∀ y∈E,P y=false:=λR=>by
  induction R with
  |nil=>exact λK h U=>.inl ⟨rfl,λx X=>U x (by grind)⟩
  |cons x R W=>
   intro K O U;have e:=h K.length (by rw[O];simp);have g:l.getD K.length d=x:=by grind
   rw[g]at e;simp only[aly,aj,e];cases X:P x with
   |true=>grind
   |false=>
    simp only[cond_false];have:=W (K++[x]) (by rw[O];simp) (λy hy=>by
     grind)
    simp_all
 exact key l [] rfl (by simp)
theorem SL (l:List bl)(known hour:Int)(v:List (Int×Bool))(hl:l.length<2 ^ 47):bC l known hour v/\bu l known hour v=l.filter λx=>!bq x known hour v:=by
 have hI:(aW l known hour v= -1/\∀ x∈l,bq x known hour v=false)\/∃ K x R,l=K++x::R/\aW l known hour v=(K.length:Int)/\bq x known hour v=true/\∀ y∈K,bq y known hour v=false:=by
  unfold aW;rcases Aj (step:=eM l known hour v) l default (λx=>bq x known hour v) (λk _=>rfl)with⟨e,h⟩ | ⟨K,x,R,h1,e,h2,h3⟩ <;>grind
 unfold bC bu;rcases hI with⟨e,h⟩ | ⟨K,x,R,hl0,e,h2,h3⟩;rw[e];refine⟨(λh=>by cases h),?_⟩;simp only[BEq.rfl,cond_true];exact(aoz.2 λx hx=>by grind).symm;have b:((K.length:Int) == -1)=false:=by rfl
 have Y:l.length=K.length+(R.length+1):=by grind
 have w:i64.wrap ((K.length:Int)+1)=((K.length+1:Nat):Int):=by grind [az]
 rw[e,w];simp only[b,cond_false];obtain⟨k1,r,k2,E,O,rfl,k3⟩:okI (bW l known hour v) (cr l known hour v) (l.length+1) 0 (l,(K.length:Int),((K.length+1:Nat):Int))/\∃ r,aj (bW l known hour v) (l.length+1) 0 (l,(K.length:Int),((K.length+1:Nat):Int))=.inl r/\∃ E O,r=((E.length:Int),E++O)/\E=l.filter λx=>!bq x known hour v:=by
  refine y8 (λs:List bl×Int×Int=>((l.length:Int) - s.2.2).toNat) (λs:List bl×Int×Int=>∃ E g O U,s=(E++g::(O++U),(E.length:Int),((E.length+(O.length+1):Nat):Int))/\E.length+(O.length+1)+U.length=l.length/\(l.filter λx=>!bq x known hour v)=E++U.filter λx=>!bq x known hour v) _ ?_ _ _ _ ⟨K,x,[],R,by grind,by grind,?_⟩ (by grind);rintro k s ⟨E,g,O,U,rfl,hn,hF⟩;have hL:(E++g::(O++U)).length=l.length:=by grind
  unfold cr bW;simp only[hL];cases U with
  |nil=>
   grind
  |cons y U=>
   simp only[aly]at hn;have e1:decide (((E.length+(O.length+1):Nat):Int) < (l.length:Int))=true:=by grind
   have gy:(E++g::(O++y::U)).getD (E.length+(O.length+1)) default=y:=by
    grind
   have w1:i64.wrap (((E.length+(O.length+1):Nat):Int)+1)=((E.length+(O.length+1)+1:Nat):Int):=by grind [az]
   have w2:i64.wrap ((E.length:Int)+1)=((E.length+1:Nat):Int):=by grind [az]
   simp only[e1,cond_true,alv,gy,w1,w2];refine⟨λ_ _=>⟨by omega,λ_=>by omega⟩,.inr ?_⟩;cases hy:bq y known hour v with
   |false=>
    obtain⟨W,V,hG⟩:∃ W V,O++[y]=W::V:=by
     cases O <;>grind
    have hGl:O.length+1=V.length+1:=by have:=congrArg List.length hG;grind
    refine⟨_,rfl,by grind,E++[y],W,V,U,?_,?_,?_⟩;rw[w5 E g y _ rfl];grind [Prod.mk.injEq]
    grind
    grind
   |true=>
    refine⟨_,rfl,by simp only;omega,E,g,O++[y],U,?_,by rw[alA];simp only[aly,alJ];omega,?_⟩ <;>grind
  simp_all
 refine⟨λ_=>⟨k1,Fg (Q:=λ_=>True) ⟨_,k2,trivial⟩,λz X=>?_⟩,?_⟩;rw[k2]at X;cases X;have:(wr .x6 (E++O) (E.length:Int) ((E++O).length:Int)).length=(E++O).length:=by
  grind [wr]
 grind
 grind [We]
theorem My (l:List bl)(hour known:Int)(X:l.length<=512):iz l hour known/\eI l hour known=stS (Ai l hour known):=by
 obtain⟨m,e,W⟩:=Wd l known;have Y:∀ x,bq x known hour m=((((x.kind==4) ||(decide (x.known > known))) ||(decide (x.at_ > hour))) ||pL l known x.no):=λx=>by
  grind [bq]
 obtain⟨V,O⟩:=SL l known hour m (by omega);have U:(l.filter λx=>!bq x known hour m)=Ai l hour known:=by grind [Ai]
 rw[U]at O;have E:(Ai l hour known).length<=l.length:=amu _ _;obtain⟨s1,s2⟩:=Mw (Ai l hour known) (by omega);grind [iz,eI,d9]
theorem xG (l:List bl):aU l=l:=by
 obtain⟨r,h1,h2⟩:=li (step:=c8 l) (λk s=>s=l.take k) l.length 0 ([]:List bl) (by simp) (λj s _ O E=>⟨_,rfl,by simp_all⟩);simp_all [aU]
theorem Wf (l:List bl):dh l ((aU l).map Cp):=λ_=>by
 rw[xG];refine⟨kh (λk s=>s=l.take k) _ _ _ (by simp) (λj s _ E O=>⟨?_,λs' h=>?_⟩),λs h=>?_⟩;rw[alF]at E;grind [dH]
 simp_all [c8];have:=xG l;grind [aU]
theorem SN (K G:List Claim):((wr .C1 (K++G) (K.length:Int) ((K++G).length:Int)).take K.length)=K:=by
 grind [wr]
theorem OW (l:List Claim)(rs:List Int)(hl:l.length<2 ^ 47):bw l rs/\bD l rs=l.filter λx=>!bM x rs:=by
 have hI:(aX l rs= -1/\∀ x∈l,bM x rs=false)\/∃ K x R,l=K++x::R/\aX l rs=(K.length:Int)/\bM x rs=true/\∀ y∈K,bM y rs=false:=by
  unfold aX;rcases Aj (step:=eO l rs) l default (λx=>bM x rs) (λk _=>rfl)with⟨e,h⟩ | ⟨K,x,R,h1,e,h2,h3⟩ <;>grind
 unfold bw bD;rcases hI with⟨e,h⟩ | ⟨K,x,R,hl0,e,h2,h3⟩;rw[e];refine⟨(λh=>by cases h),?_⟩;simp only[BEq.rfl,cond_true];exact(aoz.2 λx hx=>by grind).symm;have b:((K.length:Int) == -1)=false:=by rfl
 have Y:l.length=K.length+(R.length+1):=by grind
 have w:i64.wrap ((K.length:Int)+1)=((K.length+1:Nat):Int):=by grind [az]
 rw[e,w];simp only[b,cond_false];obtain⟨k1,r,k2,E,O,rfl,k3⟩:okI (bO l rs) (b9 l rs) (l.length+1) 0 (l,(K.length:Int),((K.length+1:Nat):Int))/\∃ r,aj (bO l rs) (l.length+1) 0 (l,(K.length:Int),((K.length+1:Nat):Int))=.inl r/\∃ E O,r=((E.length:Int),E++O)/\E=l.filter λx=>!bM x rs:=by
  refine y8 (λs:List Claim×Int×Int=>((l.length:Int) - s.2.2).toNat) (λs:List Claim×Int×Int=>∃ E g O U,s=(E++g::(O++U),(E.length:Int),((E.length+(O.length+1):Nat):Int))/\E.length+(O.length+1)+U.length=l.length/\(l.filter λx=>!bM x rs)=E++U.filter λx=>!bM x rs) _ ?_ _ _ _ ⟨K,x,[],R,by grind,by grind,?_⟩ (by grind);rintro k s ⟨E,g,O,U,rfl,hn,hF⟩;have hL:(E++g::(O++U)).length=l.length:=by grind
  unfold b9 bO;simp only[hL];cases U with
  |nil=>
   grind
  |cons y U=>
   simp only[aly]at hn;have e1:decide (((E.length+(O.length+1):Nat):Int) < (l.length:Int))=true:=by grind
   have gy:(E++g::(O++y::U)).getD (E.length+(O.length+1)) default=y:=by
    grind
   have w1:i64.wrap (((E.length+(O.length+1):Nat):Int)+1)=((E.length+(O.length+1)+1:Nat):Int):=by grind [az]
   have w2:i64.wrap ((E.length:Int)+1)=((E.length+1:Nat):Int):=by grind [az]
   simp only[e1,cond_true,alv,gy,w1,w2];refine⟨λ_ _=>⟨by omega,λ_=>by omega⟩,.inr ?_⟩;cases hy:bM y rs with
   |false=>
    obtain⟨W,V,hG⟩:∃ W V,O++[y]=W::V:=by
     cases O <;>grind
    have hGl:O.length+1=V.length+1:=by have:=congrArg List.length hG;grind
    refine⟨_,rfl,by grind,E++[y],W,V,U,?_,?_,?_⟩;rw[w5 E g y _ rfl];grind [Prod.mk.injEq]
    grind
    grind
   |true=>
    refine⟨_,rfl,by simp only;omega,E,g,O++[y],U,?_,by rw[alA];simp only[aly,alJ];omega,?_⟩ <;>grind
  simp_all
 refine⟨λ_=>⟨k1,Fg (Q:=λ_=>True) ⟨_,k2,trivial⟩,λz X=>?_⟩,?_⟩;rw[k2]at X;cases X;have:(wr .C1 (E++O) (E.length:Int) ((E++O).length:Int)).length=(E++O).length:=by
  grind [wr]
 grind
 grind [SN]
theorem vp (s:x7)(rs:List Int)(E:s.c.length<=4096):jr s rs/\dp s rs= { d:=s.d,c:=s.c.filter λx=>!bM x rs}:=by
 obtain⟨h1,h2⟩:=OW s.c rs (by omega);exact⟨⟨by unfold d9;omega,h1⟩,by unfold dp;rw[h2]⟩
@[go_sem] def rj (l_:List Int)(S2:Nat)(ly:Unit):Int⊕Unit:=(bif((l_.getD S2 0) !=0)then .inl (l_.getD S2 0)else .inr ())
def gc (l_:List Int):Int:=(match aj (rj l_) l_.length 0 ()with| .inl pq=>pq| .inr ly=>0)
@[go_sem] def Fj:List SV->Option Con:=(pR .int λl_=>(pE (.det True (.v (.int .i64 (gc l_))))))
theorem C0:B1 Tryz.prog 163 Fj:=by
 have hG:=mG P0 P0;refine fN hG Tryz.f163 [.o] (bN λO=>(am (λX=>?_)));dsimp only[an]at X;refine⟨nbl rfl,(λid st=>bif Nat.beq id 0 then some (LCR (ρ:=Int) (σ:=Unit) 0 [] [] (λU V=>⟨[(5,.rs .int O),(6,.v (.int .i64 (O.length:Int))),(7,.v (.int .i64 (U:Int)))],[]⟩) (rj O) pT O.length () (O.length<=aK) (λ_=>.ret) (λE=>⟨[(2,.v (.int .i64 E))],[]⟩) st)else none),?_,?_⟩;unfold ae Tryz.f163;simp only[ak,true_and,and_true];refine bZ mixed aD hG kr (λ_=>rfl) (O.length:Int) rfl fM (λhb0 U V W _ hw hc=>⟨L0,ag _,?_⟩) (λhb0 V hc=>?_);exact bG (jl []);exact bH (jl []);unfold ae Tryz.f163;try unfold gc
 exact zq2
def cS (a:Claim)(b:Claim):Int:=(gc ([(bj a.hour b.hour),(bj a.aoX b.aoX),(bj a.right b.right),(bj a.ee b.ee)]))
@[go_sem] def Fk:List SV->Option Con:=(pD .C1 λa=>(pD .C1 λb=>(pE (.det True (.v (.int .i64 (cS a b)))))))
theorem vU:B1 Tryz.prog 107 Fk:=by
 have hG:=mG (cp eS (cn [.sl .int] C0 P0)) P0;refine fN hG Tryz.f107 [.o] (av λa=>(av λb=>(am (λE=>?_))));dsimp only[an]at E;refine⟨nbl rfl,L0,ag _,?_⟩;unfold ae Tryz.f107;try unfold cS
 exact zq2
@[go_sem] def jg (a0:ah)(a1:List Claim)(S2:Nat)(ly:Unit):Unit⊕Unit:=letI q0:=a1.getD S2 default;letI q1:=a0.al.getD (Int.toNat (q0.right)) default;(bif((((!((((((((decide (q0.right>=0))&&(decide (q0.right< (a0.al.length:Int))))&&(decide (q0.ee>=0)))&&(decide (q0.ee< (a0.u0.length:Int))))&&(decide (q0.hour>=0)))&&(decide (q0.hour<a0.hours)))&&(decide (q0.dd>=1)))&&(decide (q0.dd<=1073741824)))) ||(q1.kind !=1)) ||(q1.aoX !=q0.aoX)) ||((decide ((S2:Int) > 0))&&(decide ((cS (a1.getD (Int.toNat (i64.wrap ((S2:Int) - 1))) default) q0)>=0))))then .inl ()else .inr ())
def lj (a0:ah)(a1:List Claim)(S2:Nat)(ly:Unit):Prop:=letI q1:=a1.getD S2 default;letI q2:=a0.al.getD (Int.toNat (q1.right)) default;letI q4:=i64.wrap ((S2:Int) - 1);letI q5:=(a0.al.length:Int);letI q0:= !((((((((decide (q1.right>=0))&&(decide (q1.right<q5)))&&(decide (q1.ee>=0)))&&(decide (q1.ee< (a0.u0.length:Int))))&&(decide (q1.hour>=0)))&&(decide (q1.hour<a0.hours)))&&(decide (q1.dd>=1)))&&(decide (q1.dd<=1073741824)));letI q3:=0<=q1.right/\q1.right<q5;((q0=false->q3)/\(((q0||(q2.kind !=1))=false->q3)/\(((q0||(q2.kind !=1)) ||(q2.aoX !=q1.aoX))=false->((decide ((S2:Int) > 0))=true->(0<=q4/\q4< (a1.length:Int))))))
def dP (a0:ah)(a1:List Claim):Int:=(bif((ap a0) !=0)then(ap a0)else(bif(decide ((a1.length:Int) > 4096))then 2 else(match aj (jg a0 a1) a1.length 0 ()with| .inl pq=>260| .inr ly=>0)))
def oQ (a0:ah)(a1:List Claim):Prop:=(((ap a0) !=0)=false->(a1.length<=aK->((decide ((a1.length:Int) > 4096))=false->(a1.length<=aK->okI (jg a0 a1) (lj a0 a1) a1.length 0 ()))))
@[go_sem] def Fl:List SV->Option Con:=(pD .bh λa0=>(pR .C1 λa1=>(pE (.det (oQ a0 a1) (.v (.int .i64 (dP a0 a1)))))))
theorem C2:B1 Tryz.prog 117 Fl:=by
 have hG:=mG (cn [.st .bh] kF (cp vU P0)) P0;refine fN hG Tryz.f117 [.o] (av λa0=>(bN λa1=>(am (λX=>?_))));dsimp only[an]at X;unfold oQ at X;refine⟨nbl rfl,(λid st=>bif Nat.beq id 0 then some (LCR (ρ:=Unit) (σ:=Unit) 1 [] [0] (λO U=>⟨[(1,.rs .C1 a1),(2,.ptr 0 0),(16,.rs .C1 a1),(17,.v (.int .i64 (a1.length:Int))),(18,.v (.int .i64 (O:Int)))],[.cells (cellsOf .bh a0)]⟩) (jg a0 a1) (lj a0 a1) a1.length () (a1.length<=aK) (λ_=>.ret) (λV=>⟨[(4,.v (.int .i64 260))],[.dead]⟩) st)else none),?_,?_⟩;unfold ae Tryz.f117;simp only[ak,true_and,and_true];refine bZ mixed aD hG kr (λ_=>rfl) (a1.length:Int) rfl fM (λhb0 O U W E hw hc=>⟨L0,ag _,?_⟩) (λhb0 U hc=>?_);unfold lj at E;try simp only[hw,alv]at E
 exact bG (jl [0]);exact bH (jl [0]);unfold ae Tryz.f117;try unfold dP
 exact zq2
@[go_sem] def kH (a0:ah)(a1:Int)(S2:Nat)(ly:List (aoK×Bool)×List (Int×Int)×List (aoK×Bool)):Empty⊕(List (aoK×Bool)×List (Int×Int)×List (aoK×Bool)):=letI q0:=a0.al.getD S2 default;letI q1:=({ ee:=q0.ee,reach:=q0.reach}:aoK);letI q2:=(ly.1,ly.2.1,ly.2.2);(bif((decide (a1<q0.since)) ||(decide (a1 > q0.to)))then .inr q2 else(bif(q0.kind==3)then .inr ((dD .M1 .bool ly.1 q1 true),ly.2.1,ly.2.2)else(bif((q0.kind==2)&&(!(ax .M1 .bool ly.2.2 q1)))then .inr (ly.1,(dD .int .int ly.2.1 (q0.reach) (i64.wrap ((ax .int .int ly.2.1 (q0.reach))+1))),(dD .M1 .bool ly.2.2 q1 true))else .inr q2)))
def cD (a0:ah)(a1:Int):apq:=(match aj (kH a0 a1) a0.al.length 0 ([],[],[])with| .inl x=>x.elim| .inr ly=>({ apY:=ly.2.1,owned:=ly.2.2,apT:=ly.1}:apq))
@[go_sem] def Fo:List SV->Option Con:=(pD .bh λa0=>(pI λa1=>(pE (.det True (.agg [.nm .int .int ((cD a0 a1).apY),.nm .M1 .bool ((cD a0 a1).owned),.nm .M1 .bool ((cD a0 a1).apT)])))))
theorem C3:B1 Tryz.prog 99 Fo:=by
 have hG:=mG P0 P0;refine fE hG Tryz.f99 (av λa0=>(ay λa1=>(am (λV=>?_))));dsimp only[an]at V;refine⟨nbl rfl,(λid st=>bif Nat.beq id 0 then some (LCR (ρ:=Empty) (σ:=(List (aoK×Bool)×List (Int×Int)×List (aoK×Bool))) 6 [] [0,1,2,3,4,5] (λO E=>⟨[(1,.v (.int .i64 a1)),(4,.ptr 1 0),(5,.ptr 5 0),(14,.rs .right a0.al),(15,.v (.int .i64 (a0.al.length:Int))),(16,.v (.int .i64 (O:Int)))],[.dead,.cells [.v (.map none),.v (.map none),.v (.map none)],.mp .int .int E.2.1 none,.mp .M1 .bool E.2.2 none,.mp .M1 .bool E.1 none,.cells [.os 2,.os 3,.os 4]]⟩) (kH a0 a1) pT a0.al.length ([],[],[]) (a0.al.length<=aK) ((·.elim)) ((·.elim)) st)else none),?_,?_⟩;unfold ae Tryz.f99;simp only[ak,true_and,and_true];refine bZ mixed aD hG kr (λ_=>rfl) (a0.al.length:Int) rfl fM (λhb0 O E U _ hw hc=>⟨L0,ag _,?_⟩) (λhb0 E hc=>?_);exact bG (jl [0,1,2,3,4,5]);exact bH (jl [0,1,2,3,4,5]);unfold ae Tryz.f99;try unfold cD
 exact zq2
def lZ (x:apq)(u:aoK):Bool:=(bif(ax .M1 .bool x.owned u)then(((i64.wrap ((ax .int .int x.apY u.reach) - 1)) ==0) ||(ax .M1 .bool x.apT u))else(((ax .int .int x.apY u.reach) ==0) ||(ax .M1 .bool x.apT u)))
@[go_sem] def Bw:List SV->Option Con:=(pD .ao9 λx=>(pD .M1 λu=>(pE (.det True (.v (.bool (lZ x u)))))))
theorem Ak:B1 Tryz.prog 104 Bw:=by
 have hG:=mG P0 P0;refine fN hG Tryz.f104 [.o] (av λx=>(av λu=>(am (λE=>?_))));dsimp only[an]at E;refine⟨nbl rfl,L0,ag _,?_⟩;unfold ae Tryz.f104;try unfold lZ
 exact zq2
def rQ (r:Int)(x_:apq)(c_:Claim):Bool:=(!(lZ x_ ({ ee:=c_.ee,reach:=r}:aoK)))
@[go_sem] def Fq:List SV->Option Con:=(pI λr=>(pX .ao9 λx_=>(pX .C1 λc_=>(pE (.det True (.v (.bool (rQ r x_ c_))))))))
theorem C4:B1 Tryz.prog 103 Fq:=by
 have hG:=mG (cn [.st .ao9,.st .M1] Ak P0) P0;refine fN hG Tryz.f103 [.o] (ay λr=>(gD λO=>(gD λU=>(am (λE=>?_)))));dsimp only[an]at E;refine⟨nbl rfl,L0,ag _,?_⟩;unfold ae Tryz.f103;try unfold rQ
 exact zq2
def fI (a:T1)(b:T1):Int:=(cS a.C1 b.C1)
@[go_sem] def w_:List SV->Option Con:=(pD .X1 λa=>(pD .X1 λb=>(pE (.det True (.v (.int .i64 (fI a b)))))))
theorem C5:B1 Tryz.prog 106 w_:=by
 have hG:=mG (cp vU P0) P0;refine fN hG Tryz.f106 [.o] (av λa=>(av λb=>(am (λE=>?_))));dsimp only[an]at E;refine⟨nbl rfl,L0,ag _,?_⟩;unfold ae Tryz.f106;try unfold fI
 exact zq2
@[go_sem] def fU (s_:List Int)(x_:apq)(c_:Claim)(S2:Nat)(ly:Unit):Int⊕Unit:=(bif(rQ (s_.getD S2 0) x_ c_)then .inl (S2:Int)else .inr ())
def dJ (s_:List Int)(x_:apq)(c_:Claim):Int:=(match aj (fU s_ x_ c_) s_.length 0 ()with| .inl pq=>pq| .inr ly=>(-1))
@[go_sem] def l7:List SV->Option Con:=(pR .int λs_=>(pFn 103 (pX .ao9 λx_=>(pX .C1 λc_=>(pE ((pE (.det True (.v (.int .i64 (dJ s_ x_ c_)))))))))))
theorem rR:B1 Tryz.prog 102 l7:=by
 have hG:=mG (cp C4 P0) P0;refine fN hG Tryz.f102 [.o] (bN λO=>(oz (gD λY=>(gD λW=>(am ((am (λhp=>?_))))))));dsimp only[an]at hp;refine⟨nbl rfl,(λid st=>bif Nat.beq id 0 then some (LCR (ρ:=Int) (σ:=Unit) 0 [] [] (λU V=>⟨[(0,.rs .int O),(1,.fn 103 [] [.ep (cellsOf .ao9 Y) 0,.ep (cellsOf .C1 W) 0]),(7,.v (.int .i64 (O.length:Int))),(8,.v (.int .i64 (U:Int)))],[]⟩) (fU O Y W) pT O.length () (O.length<=aK) (λ_=>.ret) (λE=>⟨[(4,.v (.int .i64 E))],[]⟩) st)else none),?_,?_⟩;unfold ae Tryz.f102;simp only[ak,true_and,and_true];refine bZ mixed aD hG kr (λ_=>rfl) (O.length:Int) rfl fM (λhb0 U V X _ hw hc=>⟨L0,ag _,?_⟩) (λhb0 V hc=>?_);exact bG (jl []);exact bH (jl []);unfold ae Tryz.f102;try unfold dJ
 exact zq2
@[go_sem] noncomputable def fV:List SV->Option Con:=λl=>(l7 l)
def rk:B1 Tryz.prog 102 fV:=rR
end Go.Sx
end
