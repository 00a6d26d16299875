/- Part of the proof that the law RefuseLeast returns true and leaves its arguments as they were, for all arguments of bulk at most 1048576 (the Upto form). -/
import Derived.Test.YtaikmgjfkejlkaaGreatS108
import Derived.Test.YtaikmgjfkejlkaaGreatS109
import Derived.Test.YtaikmgjfkejlkaaGreatS107
set_option linter.all false
set_option maxHeartbeats 4000000
set_option maxRecDepth 100000
section
namespace Go.Sx
open Go.Proofs
open IntKind (i64 u64)
variable {n:Nat}
theorem mw{i:Nat}{step:Nat->Unit->Unit⊕Unit}{s:Unit}(h:aj step n i s=.inr s):∀ j,i<=j->j<i+n->step j ()=.inr ():=by
 induction n generalizing i with
 |zero=>omega
 |succ n E=>
  grind [aj]
theorem ip {b:Bool}{e:Int}:dw b e=b:=by
 cases b <;>rfl
variable {c:Int}
theorem vF{a b:Int}(h:aK [a,b,c]=true):a<=b/\b<=c:=by
 unfold aK at h;simp only[alL,alS,alQ,Nat.reduceAdd,Nat.reduceSub]at h;split at h
 cases h;rename_i s E;have O:=mw E 0 (by omega) (by omega);have h1:=mw E 1 (by omega) (by omega);grind [cr,IntKind.wrap,IntKind.bits,IntKind.signed]
theorem qm{a b d:Int}(h:aK [a,b,c,d]=true):a<=b/\b<=c/\c<=d:=by
 unfold aK at h;simp only[alL,alS,alQ,Nat.reduceAdd,Nat.reduceSub]at h;split at h
 cases h;rename_i s E;have O:=mw E 0 (by omega) (by omega);have h1:=mw E 1 (by omega) (by omega);have h2:=mw E 2 (by omega) (by omega);simp[cr,IntKind.wrap,IntKind.bits,IntKind.signed]at O h1 h2;grind
structure aps (d:ah):Prop where
 reaches:d.reaches.length<=64
 one:0<d.reaches.length
 l5:d.l5.length<=600
 ai:d.ai.length<=256
 aqx:1<=d.hours
 hours:d.hours<=4096
 arl:0<=d.apa.start
 start:d.apa.start<=d.apa.cap
 cap:d.apa.cap<=1099511627776
 reach:∀ k,k<d.reaches.length->dA (k:Int) (d.reaches.getD k default)=true
 dd:∀ k,k<d.l5.length->0<=(d.l5.getD k default).reach/\(d.l5.getD k default).reach< (d.reaches.length:Int)
theorem jt {d:ah}(h:(aw d !=0)=false):aps d:=by
 have h:aw d=0:=by simpa using h
 unfold aw at h;simp only[ip]at h;cases h1:(decide ((d.reaches.length:Int)<=64)&&decide ((d.l5.length:Int)<=600)&&decide ((d.apg.length:Int)<=32)&&decide ((d.ai.length:Int)<=256)&&decide ((d.apb.length:Int)<=256))with
 |false=>grind
 |true=>
  rw[h1]at h;simp only[cond_true]at h;cases h2:fQ d 191 with
  |false=>grind
  |true=>
   unfold fQ at h2;simp only[ip]at h2;cases E:(aK [1,d.hours,4096]&&aK [0,d.apa.start,d.apa.cap,1099511627776]&&decide ((d.reaches.length:Int) > 0))with
   |false=>grind
   |true=>
    rw[E]at h2;simp only[cond_true]at h2;simp only[alG,decide_eq_true_eq]at h1 E;obtain⟨r1,Y⟩:=vF E.1.1;obtain⟨V,r4,X⟩:=qm E.1.2;split at h2
    cases h2;rename_i s0 O;split at h2
    cases h2;rename_i s1 hs1;split at h2
    cases h2;rename_i s2 U;refine⟨by omega,by omega,by omega,by omega,r1,Y,V,r4,X,λk W=>?_,λk W=>?_⟩;have:=mw O k (by omega) (by omega);grind [dT,ip]
    have:=mw U k (by omega) (by omega);grind [dU,ip,cB]
theorem od {k:Nat}(h:k<9223372036854775807)(h1:0<k):i64.wrap ((k:Int) - 1)=((k - 1:Nat):Int):=by
 grind [aA]
theorem IX {step:Nat->Unit->Unit⊕Unit}:∀ {n i:Nat},(∀ j,i<=j->j<i+n->step j ()=.inr ())->aj step n i ()=.inr ()
 |0,_,_=>rfl
 |n+1,i,h=>by
  simp only[aj];rw[h i (by omega) (by omega)];exact IX λj h1 h2=>h j (by omega) (by omega)
theorem gP{step:Nat->Unit->Unit⊕Unit}:aj step n 0 ()=.inr ()↔∀ j,j<n->step j ()=.inr ():=
 ⟨λh j E=>mw h j (by omega) (by omega),λh=>IX λj _ h2=>h j (by omega)⟩
variable {ρ:Type}
theorem Pv{i:Nat}{step:Nat->Unit->ρ⊕Unit}{s:Unit}(h:aj step n i s=.inr s):∀ j,i<=j->j<i+n->step j ()=.inr ():=by
 induction n generalizing i with
 |zero=>omega
 |succ n E=>
  grind [aj]
variable {α:Type}
theorem my(l:List α)(d:α)(h:n<l.length):l.getD n d=l[n]:=by
 grind
theorem oe {k:Tag}(l:List (k.T×Int))(x z:k.T)(y:Int):aL k .int (dH k .int l x y) z=if z=x then y else aL k .int l z:=by
 grind [aL,dH,xR]
theorem ac5{step:Nat->Unit->Unit⊕Unit}{a b:α}:(match aj step n 0 ()with| .inl _=>a| .inr _=>b)=b\/∃ y,aj step n 0 ()=.inl y:=by
 grind
variable {a:Int}
theorem FI{b:Int}(h1:a<=b)(h2:b<=c):aK [a,b,c]=true:=by
 have e:aj (cr [a,b,c]) 2 0 ()=.inr ():=gP.2 λj E=>by
  rcases(by omega:j=0\/j=1)with rfl|rfl;simp[cr,IntKind.wrap,IntKind.bits,IntKind.signed,amS];omega;simp[cr,IntKind.wrap,IntKind.bits,IntKind.signed,amS];omega
 simp_all [aK]
theorem FJ{b d:Int}(h1:a<=b)(h2:b<=c)(E:c<=d):aK [a,b,c,d]=true:=by
 have e:aj (cr [a,b,c,d]) 3 0 ()=.inr ():=gP.2 λj O=>by
  rcases(by omega:j=0\/j=1\/j=2)with rfl|rfl|rfl;simp[cr,IntKind.wrap,IntKind.bits,IntKind.signed,amS];omega;simp[cr,IntKind.wrap,IntKind.bits,IntKind.signed,amS];omega;simp[cr,IntKind.wrap,IntKind.bits,IntKind.signed,amS];omega
 simp_all [aK]
theorem qU (d:ah):aw d=0↔(d.reaches.length<=64/\d.l5.length<=600/\d.apg.length<=32/\d.ai.length<=256/\d.apb.length<=256)/\(1<=d.hours/\d.hours<=4096)/\(0<=d.apa.start/\d.apa.start<=d.apa.cap/\d.apa.cap<=1099511627776)/\0<d.reaches.length/\
  (∀ k,k<d.reaches.length->dT d 191 k ()=.inr ())/\(∀ k,k<d.apg.length->eA d 191 k ()=.inr ())/\(∀ k,k<d.l5.length->dU d 191 k ()=.inr ())/\(∀ k,k<d.ai.length->dV d 191 k ()=.inr ())/\(∀ k,k<d.apb.length->fh d 191 k ()=.inr ()):=by
 have W:fQ d 191=true↔(1<=d.hours/\d.hours<=4096)/\(0<=d.apa.start/\d.apa.start<=d.apa.cap/\d.apa.cap<=1099511627776)/\0<d.reaches.length/\
  (∀ k,k<d.reaches.length->dT d 191 k ()=.inr ())/\(∀ k,k<d.apg.length->eA d 191 k ()=.inr ())/\(∀ k,k<d.l5.length->dU d 191 k ()=.inr ())/\(∀ k,k<d.ai.length->dV d 191 k ()=.inr ())/\(∀ k,k<d.apb.length->fh d 191 k ()=.inr ()):=by
  unfold fQ;simp only[ip];cases E:(aK [1,d.hours,4096]&&aK [0,d.apa.start,d.apa.cap,1099511627776]&&decide ((d.reaches.length:Int) > 0))with
  |false=>
   simp_all [FI,FJ]
  |true=>
   simp only[alG,decide_eq_true_eq]at E;have U:=vF E.1.1;have O:=qm E.1.2;have V:=E.2;simp only[cond_true];grind [gP]
 unfold aw;simp only[ip];grind
theorem M6:∀ (f n d:Nat),1<=d->d<=f->1<=n->∀ x,(Bt f n d).getLastD x=Nat.gcd n d
 |0,n,d,h1,h2,_,x=>by omega
 |f+1,n,d,h1,h2,h3,x=>by
  unfold Bt;have O:max d 1=d:=by omega
  rw[if_neg (by omega),O];by_cases E:n % d=0
  rw[if_pos E];have:d ∣ n:=Nat.dvd_of_mod_eq_zero E;grind [Nat.gcd_eq_right]
  rw[if_neg E];have hlt:n % d<d:=anP _ (by omega);have U:=M6 f d (n % d) (by omega) (by omega) (by omega) n;grind [Nat.gcd_comm,Nat.gcd_rec]
theorem FK{d:Nat}(h:1<=d):MC n d=Nat.gcd n d:=by
 unfold MC;rw[if_neg (by omega)];by_cases E:n=0
 subst E;cases d with
 |zero=>omega|succ d=>simp[Bt]
 exact M6 d n d h (alJ _) (by omega) d
theorem KI (O:Int):∀ (n i:Nat) (a b:Int),0<=a->0<=b->b.toNat<n->aj (iG O) n i (a,b)=.inl ((Nat.gcd a.toNat b.toNat:Nat):Int)
 |0,_,_,_,_,_,h=>by omega
 |n+1,i,a,b,ha,hb,h=>by
  simp only[aj,iG];by_cases E:b > 0
  rw[decide_eq_true E];simp only[cond_true];have V:=amy (b:=b) ha;have U:=anf a (by omega:b≠0);have X:=ana a E;rw[V,KI O n (i+1) b (a % b) hb U (by omega)];have W:(a % b).toNat=a.toNat % b.toNat:=by
   grind
  grind [Nat.gcd_comm,Nat.gcd_rec]
  rw[decide_eq_false E];have:b=0:=by omega
  subst this;grind
theorem CL{b:Int}(O:0<=a)(E:0<=b):mZ a b=((Nat.gcd a.toNat b.toNat:Nat):Int):=by
 grind [mZ,KI]
theorem SO{b:Int}(O:0<=a)(E:0<=b):nH a b:=by
 refine⟨gX _ _ _ λj s _ _ h=>?_,λz h=>?_⟩;grind
 grind [KI]
variable {n:Int}
theorem Q_(E:0<=n)(h1:n<18446744073709551616):u64.wrap n=n:=by
 grind [IntKind.wrap,IntKind.bits,IntKind.signed]
theorem HP(E: -1073741824<=n)(h1:n<=1073741824):c9 n=(n.natAbs:Int):=by
 unfold c9;by_cases h:n<0
 rw[decide_eq_true h];simp only[cond_true,IntKind.wrap,IntKind.bits,IntKind.signed];grind
 rw[decide_eq_false h];simp only[cond_false];grind [Q_]
theorem FL(E: -1073741824<=n)(h1:n<=1073741824):pJ n=(n.natAbs:Int):=by
 unfold pJ;by_cases h:n<0
 rw[decide_eq_true h];simp only[cond_true];grind [aA]
 grind
structure apv (a:B1):Prop where
 d1:1<=a.d
 d:a.d<=1073741824
 n0: -1073741824<=a.n
 n:a.n<=1073741824
 gcd:Nat.gcd a.n.natAbs a.d.toNat=1
theorem gz (a:B1):aQ a=0↔apv a:=by
 unfold aQ;cases h:((((decide (a.d<1)) ||(decide (a.d > 1073741824))) ||(decide (a.n< (-1073741824)))) ||(decide (a.n > 1073741824)))with
 |true=>
  simp only[aox,cond_true];simp only[ama,decide_eq_true_eq]at h;refine⟨λe=>(by cases e),λr=>?_⟩;have:=r.d1;have:=r.d;have:=r.n0;have:=r.n;omega
 |false=>
  simp only[amf,decide_eq_false_iff_not]at h;rw[HP (by omega) (by omega),Q_ (by omega) (by omega),alI,FK (by omega)];simp only[am8];by_cases E:Nat.gcd a.n.natAbs a.d.toNat=1
  rw[E];exact⟨λ_=>⟨by omega,by omega,by omega,by omega,E⟩,λ_=>rfl⟩;have:((Nat.gcd a.n.natAbs a.d.toNat:Nat):Int)≠1:=by omega
  rw[bne_iff_ne.2 this];exact⟨λe=>(by cases e),λr=>absurd r.gcd E⟩
theorem sn (a:B1):ei a=true↔apv a:=by
 unfold ei;constructor
 intro h;simp only[alG,decide_eq_true_eq,beq_iff_eq]at h;obtain⟨⟨⟨⟨h1,h2⟩,O⟩,E⟩,U⟩:=h;rw[FL (by omega) (by omega),CL (by omega) (by omega),alI]at U;exact⟨h1,h2,O,E,by omega⟩;intro r;have:=r.d1;have:=r.d;have:=r.n0;have:=r.n;simp only[alG,decide_eq_true_eq,beq_iff_eq];rw[FL (by omega) (by omega),CL (by omega) (by omega),alI,r.gcd];omega
theorem VY (a:B1):aQ a=0\/aQ a=120:=by
 unfold aQ;grind
theorem M7 (a:B1):aQ a=jp a:=by
 unfold jp;cases h:ei a with
 |true=>exact(gz a).2 ((sn a).1 h)
 |false=>
  have:aQ a≠0:=λe=>by
   have:=(sn a).2 ((gz a).1 e);grind
  have:=VY a;grind
theorem xm (a:B1):ei a=(aQ a==0):=by
 grind [gz,sn]
theorem ac6 (a b:B1):gY a b=pK a b:=by
 unfold gY pK kl sQ;rw[xm,xm,jr];grind
theorem xT (a:B1):iF a:=λh=>by
 simp only[alG,decide_eq_true_eq]at h;rw[FL (by omega) (by omega)];exact SO (by omega) (by omega)
def Pw (a b:B1):oN a b:=⟨xT a,λ_=>xT b⟩
theorem so (a b c:Int):aK [a,b,c]=(decide (a<=b)&&decide (b<=c)):=by
 cases h:aK [a,b,c]with
 |true=>have:=vF h;grind
 |false=>
  grind [FI]
theorem uS (a b c d:Int):aK [a,b,c,d]=(decide (a<=b)&&decide (b<=c)&&decide (c<=d)):=by
 cases h:aK [a,b,c,d]with
 |true=>have:=qm h;grind
 |false=>
  grind [FJ]
theorem VZ (x:B1×B1):jm x=jq x:=by
 unfold jm jq;rw[ac6,<-M7,<-M7];unfold pK kl;rw[xm,xm];grind
theorem FM (i:Int)(x:Reach):dA i x=true↔((i > 0/\0<=x.up/\x.up<i)\/(¬i > 0/\x.up= -1))/\(1<=x.delay/\x.delay<=16)/\(0<=x.apl/\x.apl<=x.cap/\x.cap<=1073741824)/\(x.apl<=x.apH/\x.apH<=1099511627776)/\(0<=x.apP.lo/\x.apP.lo<=x.apP.hi/\x.apP.hi<=1073741824)/\jq x.apt=true:=by
 unfold dA cB;rw[VZ,so,uS,uS,uS];grind
theorem ac7 (x:Reach):qR x=true↔(1<=x.delay/\x.delay<=16)/\(0<=x.apl/\x.apl<=x.cap/\x.cap<=1073741824)/\(x.apl<=x.apH/\x.apH<=1099511627776)/\(0<=x.apP.lo/\x.apP.lo<=x.apP.hi/\x.apP.hi<=1073741824)/\jq x.apt=true:=by
 unfold qR aM;grind
theorem FN (l:List Reach)(k:Nat)(O:k<4096):iH l k ()=.inr ()↔dA (k:Int) (l.getD k default)=true:=by
 unfold iH aM;rw[FM];have E:∀ A B:Bool,((bif A then Sum.inl ()else bif B then Sum.inl ()else Sum.inr ()):Unit⊕Unit)=.inr ()↔A=false/\B=false:=λA B=>by grind
 rw[E,anb,ac7];generalize l.getD k default=x;generalize jq x.apt=q;by_cases h:0<k
 rw[od (by omega) h];grind
 grind
theorem SP {n:Nat}(h:n<=4096):i64.wrap ((n:Int) - 1)=(n:Int) - 1:=aA (by omega) (by omega)
theorem Y5 (x:ByteArray):(x==x)=true:=by
 cases x with
 |mk d=>
  show(d==d)=true;simp
theorem V0 (d:ah)(x:apu)(h1:d.l5.length<=600)(h2:d.reaches.length<=64)(O:1<=d.hours)(E:d.hours<=4096):iw d x=qT d x:=by
 unfold iw qT cB aM;rw[uS,so,so,uS,SP (by omega),SP (by omega),aA (by omega: -9223372036854775808<=d.hours - 1) (by omega)];rw[Y5];grind
theorem ux (A:Bool):((bif A then Sum.inr ()else Sum.inl ()):Unit⊕Unit)=.inr ()↔A=true:=by grind
theorem uy (A:Bool):((bif A then Sum.inl ()else Sum.inr ()):Unit⊕Unit)=.inr ()↔A=false:=by grind
theorem IY (d:ah)(k:Nat):lO d k ()=.inr ()↔eA d 191 k ()=.inr ():=by
 unfold lO eA aM;simp_all [ip,uy,ux,so]
theorem IZ (d:ah)(k:Nat)(h1:d.reaches.length<=64)(h2:d.apg.length<=32):lP d k ()=.inr ()↔dU d 191 k ()=.inr ():=by
 unfold lP dU aM cB;simp only[ip];rw[so,SP (by omega),SP (by omega)];grind
theorem I0 (d:ah)(k:Nat)(h1:d.reaches.length<=64)(h2:d.l5.length<=600):lR d k ()=.inr ()↔fh d 191 k ()=.inr ():=by
 unfold lR fh aM cB;simp only[ip];rw[so,SP (by omega),SP (by omega),ux,uy];grind
theorem CN (d:ah)(k:Nat)(h1:d.l5.length<=600)(h2:d.reaches.length<=64)(O:1<=d.hours)(E:d.hours<=4096):lQ d k ()=.inr ()↔dV d 191 k ()=.inr ():=by
 simp_all [lQ,dV,ip,V0]
theorem m1 {r:Unit⊕Unit}{a b:Bool}:(match r with| .inl _=>a| .inr _=>b)=true↔(r=.inr ()/\b=true)\/((∃ y,r=.inl y)/\a=true):=by
 grind
theorem M8 (d:ah)(h1:d.reaches.length<=64)(h2:d.l5.length<=600)(h3:d.apg.length<=32):oc d=true↔(1<=d.hours/\d.hours<=4096)/\(0<=d.apa.start/\d.apa.start<=d.apa.cap/\d.apa.cap<=1099511627776)/\0<d.reaches.length/\
  (∀ k,k<d.reaches.length->dT d 191 k ()=.inr ())/\(∀ k,k<d.apg.length->eA d 191 k ()=.inr ())/\(∀ k,k<d.l5.length->dU d 191 k ()=.inr ())/\(∀ k,k<d.ai.length->dV d 191 k ()=.inr ())/\(∀ k,k<d.apb.length->fh d 191 k ()=.inr ()):=by
 have hR:nc d.reaches=true↔(∀ k,k<d.reaches.length->dT d 191 k ()=.inr ())/\0<d.reaches.length:=by
  unfold nc;refine aoO (m1 (r:=aj (iH d.reaches) d.reaches.length 0 ()) (a:=false) (b:=decide ((d.reaches.length:Int) > 0))) ?_;simp only[alO,and_false,or_false,decide_eq_true_eq];rw[gP];refine and_congr ⟨λh k E=>?_,λh k E=>?_⟩ (by omega);unfold dT;rw[ip,ux];exact(FN _ k (by omega)).1 (h k E);have:=h k E;unfold dT at this;rw[ip,ux]at this;exact(FN _ k (by omega)).2 this
 have hF:qS d=true↔(∀ k,k<d.apg.length->eA d 191 k ()=.inr ())/\(∀ k,k<d.l5.length->dU d 191 k ()=.inr ()):=by
  unfold qS;refine aoO (m1 (r:=aj (lO d) d.apg.length 0 ()) (a:=false) (b:=match aj (lP d) d.l5.length 0 ()with| .inl _=>false| .inr _=>true)) ?_;simp only[alO,and_false,or_false];rw[gP];refine aoO (and_congr_right λ_=>m1) ?_;simp only[alO,and_false,or_false,and_true];rw[gP];exact and_congr ⟨λh k E=>(IY d k).1 (h k E),λh k E=>(IY d k).2 (h k E)⟩ ⟨λh k E=>(IZ d k h1 h3).1 (h k E),λh k E=>(IZ d k h1 h3).2 (h k E)⟩
 unfold oc;have hb:∀ A B q:Bool,(bif A then false else bif B then false else q)=true↔A=false/\B=false/\q=true:=λA B q=>by grind
 rw[hb];refine aoO (and_congr_right λ_=>and_congr_right λ_=>aoO (m1 (r:=aj (lQ d) d.ai.length 0 ()) (a:=false) (b:=match aj (lR d) d.apb.length 0 ()with| .inl _=>false| .inr _=>true)) (or_congr_left (and_congr_right λ_=>m1))) ?_;simp only[alO,and_false,or_false,and_true];rw[gP,gP];simp only[amf,anb,hR,hF,aM,alG,decide_eq_true_eq,decide_eq_false_iff_not];constructor
 rintro⟨⟨⟨a1,a2⟩,Y⟩,⟨⟨V,O⟩,U,X⟩,W,b6⟩;refine⟨by omega,by omega,O,V,U,X,λk E=>(CN d k h2 h1 (by omega) (by omega)).1 (W k E),λk E=>(I0 d k h1 h2).1 (b6 k E)⟩;rintro⟨a1,a2,Y,V,O,U,X,W⟩;refine⟨⟨⟨by omega,by omega⟩,by omega⟩,⟨⟨V,Y⟩,O,U⟩,λk E=>(CN d k h2 h1 (by omega) (by omega)).2 (X k E),λk E=>(I0 d k h1 h2).2 (W k E)⟩
theorem V3 (d:ah):aw d=lT d:=by
 have W:=qU d;unfold lT;by_cases E:d.reaches.length<=64/\d.l5.length<=600/\d.apg.length<=32/\d.ai.length<=256/\d.apb.length<=256
 have U:(((((decide ((d.reaches.length:Int) > 64)) ||(decide ((d.l5.length:Int) > 600))) ||(decide ((d.apg.length:Int) > 32))) ||(decide ((d.ai.length:Int) > 256))) ||(decide ((d.apb.length:Int) > 256)))=false:=by
  grind
 rw[U];simp only[cond_false];have V:=M8 d E.1 E.2.1 E.2.2.1;cases h:oc d with
 |true=>grind
 |false=>
  have O:aw d≠0:=λe=>by
   grind
  unfold aw at O |-;simp only[ip]at O |-;grind
 have U:(((((decide ((d.reaches.length:Int) > 64)) ||(decide ((d.l5.length:Int) > 600))) ||(decide ((d.apg.length:Int) > 32))) ||(decide ((d.ai.length:Int) > 256))) ||(decide ((d.apb.length:Int) > 256)))=true:=by
  grind
 grind [aw,ip]
def V4 (x:B1×B1):oQ x:=⟨xT _,λ_=>xT _,λ_=>Pw _ _⟩
def Y6 (x:Reach):qj x:=λ_ _=>V4 _
def SQ (d:ah):qk d:=λ_=>gX _ _ _ λ_ _ _ _ _ _=>Y6 _
def SR (d:ah):ql d:=λ_ _=>SQ d
theorem qn(E: -4611686018427387904<=n)(h1:n<=4611686018427387904):c9 n=(n.natAbs:Int):=by
 unfold c9;by_cases h:n<0
 rw[decide_eq_true h];simp only[cond_true,IntKind.wrap,IntKind.bits,IntKind.signed];grind
 rw[decide_eq_false h];simp only[cond_false];grind [Q_]
def mkR (n d:Int):B1×Int:=
 if d=0 then({ n:=0,d:=0},120)else
 if 1073741824<n.natAbs / Nat.gcd n.natAbs d.natAbs\/1073741824<d.natAbs / Nat.gcd n.natAbs d.natAbs then({ n:=0,d:=0},2)else
 ({ n:=if(decide (n<0)) !=(decide (d<0))then -((n.natAbs / Nat.gcd n.natAbs d.natAbs:Nat):Int)else((n.natAbs / Nat.gcd n.natAbs d.natAbs:Nat):Int),d:=((d.natAbs / Nat.gcd n.natAbs d.natAbs:Nat):Int)},0)
variable {d:Int}
theorem Y7(O: -4611686018427387904<=n)(h1:n<=4611686018427387904)(h2: -4611686018427387904<=d)(E:d<=4611686018427387904):nQ n d=mkR n d:=by
 unfold nQ mkR;by_cases hd:d=0
 subst hd;rfl;have e:(d==0)=false:=by grind
 rw[e,cond_false,if_neg hd,qn O h1,qn h2 E,alI,alI,FK (by omega)];have U:0<Nat.gcd n.natAbs d.natAbs:=aoi _ (by omega);have V:Int.tdiv (n.natAbs:Int) ((Nat.gcd n.natAbs d.natAbs:Nat):Int)=((n.natAbs / Nat.gcd n.natAbs d.natAbs:Nat):Int):=by rfl
 have t2:Int.tdiv (d.natAbs:Int) ((Nat.gcd n.natAbs d.natAbs:Nat):Int)=((d.natAbs / Nat.gcd n.natAbs d.natAbs:Nat):Int):=by rfl
 have l1:n.natAbs / Nat.gcd n.natAbs d.natAbs<=n.natAbs:=an5 _ _;have W:d.natAbs / Nat.gcd n.natAbs d.natAbs<=d.natAbs:=an5 _ _;grind [Q_,aA]
theorem ac8 (n d:Int)(E: -4611686018427387904<=n)(h1:n<=4611686018427387904)(h2: -4611686018427387904<=d)(O:d<=4611686018427387904):rS n d:=λhd=>by
 have hd:d≠0:=by grind
 rw[qn E h1,qn h2 O,alI,alI,FK (by omega)];simp_all
def rv (a:B1):Rat:=(a.n:Rat) / (a.d:Rat)
def M9 {a b:Nat}(E:0<b):a / Nat.gcd a b*Nat.gcd a b=a/\b / Nat.gcd a b*Nat.gcd a b=b/\Nat.gcd (a / Nat.gcd a b) (b / Nat.gcd a b)=1:=
 ⟨aoS (Nat.gcd_dvd_left _ _),aoS (Nat.gcd_dvd_right _ _),Nat.gcd_div_gcd_div_gcd_of_pos_right E⟩
theorem qV(h:d≠0):(d:Rat)≠0:=λe=>h (by simp_all)
theorem ac9(hd:1<=d){r:B1}(h:mkR n d=(r,0)):apv r/\rv r*(d:Rat)=(n:Rat):=by
 unfold mkR at h;rw[if_neg (by omega)]at h;split at h
 simp at h;rename_i hb;obtain⟨rfl,-⟩:=Prod.mk.inj h;obtain⟨U,g2,g3⟩:=M9 (a:=n.natAbs) (b:=d.natAbs) (by omega);have O:¬d<0:=by omega
 have W:(if(decide (n<0)) !=(decide (d<0))then -((n.natAbs / Nat.gcd n.natAbs d.natAbs:Nat):Int)else((n.natAbs / Nat.gcd n.natAbs d.natAbs:Nat):Int))*((Nat.gcd n.natAbs d.natAbs:Nat):Int)=n:=by
  rw[decide_eq_false O];by_cases V:n<0
  rw[decide_eq_true V,if_pos (by rfl),Int.neg_mul,<-Int.natCast_mul,U];omega;rw[decide_eq_false V,if_neg (by simp),<-Int.natCast_mul,U];omega
 have hxa:(if(decide (n<0)) !=(decide (d<0))then -((n.natAbs / Nat.gcd n.natAbs d.natAbs:Nat):Int)else((n.natAbs / Nat.gcd n.natAbs d.natAbs:Nat):Int)).natAbs=n.natAbs / Nat.gcd n.natAbs d.natAbs:=by
  grind
 have E:((d.natAbs / Nat.gcd n.natAbs d.natAbs:Nat):Int)*((Nat.gcd n.natAbs d.natAbs:Nat):Int)=d:=by omega
 generalize hX:(if(decide (n<0)) !=(decide (d<0))then -((n.natAbs / Nat.gcd n.natAbs d.natAbs:Nat):Int)else((n.natAbs / Nat.gcd n.natAbs d.natAbs:Nat):Int))=X at *;have hy0:1<=d.natAbs / Nat.gcd n.natAbs d.natAbs:=by
  grind
 refine⟨⟨by grind,by grind,by grind,by grind,by grind⟩,?_⟩;unfold rv;simp only;have e1:(d:Rat)=(((d.natAbs / Nat.gcd n.natAbs d.natAbs:Nat):Int):Rat)*(((Nat.gcd n.natAbs d.natAbs:Nat):Int):Rat):=by exact_mod_cast E.symm
 have Y:(n:Rat)=(X:Rat)*(((Nat.gcd n.natAbs d.natAbs:Nat):Int):Rat):=by exact_mod_cast W.symm
 rw[e1,Y];have h1:(((d.natAbs / Nat.gcd n.natAbs d.natAbs:Nat):Int):Rat)≠0:=qV (by omega);grind
theorem Dm{b:Int}(O: -1073741824<=a)(h1:a<=1073741824)(h2:1<=b)(E:b<=1073741824): -1152921504606846976<=a*b/\a*b<=1152921504606846976:=by
 have:(a*b).natAbs<=1073741824*1073741824:=by rw[aoL];exact aoc (by omega) (by omega)
 omega
theorem asi{b:Int}(E:1<=a)(h1:1<=b):1<=a*b:=Int.mul_pos (by omega) (by omega)
variable {a:B1}
theorem Ra{b:B1}(O:apv a)(E:apv b):gL a b=(a.n*b.d+b.n*a.d,a.d*b.d):=by
 have m1:=Dm O.n0 O.n E.d1 E.d;have U:=Dm E.n0 E.n O.d1 O.d;have h1:=O.d1;have h2:=O.d;have V:=Dm (a:=a.d) (by omega) h2 E.d1 E.d;grind [gL,aA]
theorem Px (a b:B1):gZ a b=if aQ a=0/\aQ b=0 then mkR (a.n*b.d+b.n*a.d) (a.d*b.d)else({ n:=0,d:=0},120):=by
 unfold gZ gw;by_cases h:aQ a=0/\aQ b=0
 rw[if_pos h,h.1,h.2,Ra ((gz a).1 h.1) ((gz b).1 h.2)];have O:=(gz a).1 h.1;have E:=(gz b).1 h.2;have m1:=Dm O.n0 O.n E.d1 E.d;have U:=Dm E.n0 E.n O.d1 O.d;have h1:=O.d1;have h2:=O.d;have V:=Dm (a:=a.d) (by omega) h2 E.d1 E.d;simp only[bne_self_eq_false,am1,cond_false];grind [Y7]
 grind
theorem ahV (a b:B1):tX a b:=λh=>by
 simp only[amf,bne_eq_false_iff_eq]at h;have O:=(gz a).1 h.1;have E:=(gz b).1 h.2;rw[Ra O E];have m1:=Dm O.n0 O.n E.d1 E.d;have U:=Dm E.n0 E.n O.d1 O.d;have h1:=O.d1;have h2:=O.d;have V:=Dm (a:=a.d) (by omega) h2 E.d1 E.d;exact ac8 _ _ (by omega) (by omega) (by omega) (by omega)
theorem V5{b:B1}(O:apv a)(E:apv b):(rv a+rv b)*((a.d*b.d:Int):Rat)=((a.n*b.d+b.n*a.d:Int):Rat):=by
 have h1:=O.d1;have h2:=E.d1;have d1:(a.d:Rat)≠0:=qV (by omega);have U:(b.d:Rat)≠0:=qV (by omega);grind [rv]
theorem V6{b r:B1}(h:gZ a b=(r,0)):apv a/\apv b/\apv r/\rv r=rv a+rv b:=by
 rw[Px]at h;split at h
 rename_i hc;have O:=(gz a).1 hc.1;have E:=(gz b).1 hc.2;have hd:=asi O.d1 E.d1;obtain⟨h1,h2⟩:=ac9 hd h;refine⟨O,E,h1,?_⟩;rw[<-V5 O E]at h2;have U:((a.d*b.d:Int):Rat)≠0:=qV (by omega);grind
 simp at h
theorem og {kk E:Tag}(l:List (kk.T×E.T))(x z:kk.T)(y:E.T):aL kk E (dH kk E l x y) z=if z=x then y else aL kk E l z:=by
 grind [aL,dH,xR]
theorem SS {kk E:Tag}(l:List (kk.T×E.T))(x z:kk.T)(y:E.T):wE kk E (dH kk E l x y) z=(decide (z=x) ||wE kk E l z):=by
 unfold wE dH;rw[xR];grind
variable {k:Nat}
theorem b9(l:List α)(d:α)(h:k<l.length):l.take (k+1)=l.take k++[l.getD k d]:=by
 simp_all
theorem la{σ:Type}{step:Nat->σ->ρ⊕σ}(J:Nat->σ->Prop)(n i:Nat)(s:σ)(E:J i s)(h:∀ j s,i<=j->j<i+n->J j s->∃ s',step j s=.inr s'/\J (j+1) s'):∃ r,aj step n i s=.inr r/\J (i+n) r:=by
 induction n generalizing i s with
 |zero=>exact⟨s,rfl,E⟩
 |succ n O=>
  grind [aj]
theorem M_ {ρ σ:Type}{step:Nat->σ->ρ⊕σ}(S:Nat->σ)(n:Nat)(C:Nat->Prop)(hc:∀ k,k<n->(∀ j,j<k->C j)->(C k->step k (S k)=.inr (S (k+1)))/\(¬C k->∃ r,step k (S k)=.inl r)):
  ∀ m i,i+m=n->(∀ j,j<i->C j)->((∀ k,i<=k->k<n->C k)->aj step m i (S i)=.inr (S n))/\(¬ (∀ k,i<=k->k<n->C k)->∃ r,aj step m i (S i)=.inl r)
 |0,i,h,hi=>⟨λ_=>by rw[show i=n by omega];rfl,λO=>absurd (λk h1 h2=>by omega) O⟩
 |m+1,i,h,hi=>by
  obtain⟨h1,h2⟩:=hc i (by omega) hi;by_cases U:C i
  have E:∀ j,j<i+1->C j:=λj W=>by
   grind
  obtain⟨V,X⟩:=M_ S n C hc m (i+1) (by omega) E;simp only[aj,h1 U];grind
  grind [aj]
theorem vG (n lo hi:Int):aP n lo hi=true↔lo<=n/\n<=hi:=by
 unfold aP;simp
theorem zn(n:Int)(h:k<=4096):aP n 0 (i64.wrap ((k:Int) - 1))=true↔0<=n/\n< (k:Int):=by
 grind [vG,aA]
def BO:List Part->Rat
 | [] =>0|x::r=>rv x.share+BO r
theorem V7 (a b:List Part):BO (a++b)=BO a+BO b:=by
 induction a with
 |nil=>simp[BO,Rat.zero_add]|cons x r E=>grind [BO]
structure aq5 (d:ah)(x:Part):Prop where
 f0:0<=x.dd
 f1:x.dd< (d.l5.length:Int)
 share:apv x.share
 pos:0<x.share.n
structure aqb (d:ah)(l:List Part):Prop where
 asJ:1<=l.length
 len:l.length<=16
 part:∀ x∈l,aq5 d x
 apart:(l.map λx=>x.dd).Nodup
 sum:BO l=1
variable {d:ah}
theorem V8{l:List Part}(hf:d.l5.length<=600)(h:iO d l=true):aqb d l:=by
 unfold iO at h;cases X:aj (fS d l) l.length 0 (0,1,[])with
 |inl x=>grind
 |inr s=>
  rw[X]at h;have Y:=sJ (λk s=>rv { n:=s.1,d:=s.2.1} =BO (l.take k)/\(∀ x∈l.take k,aq5 d x)/\((l.take k).map λx=>x.dd).Nodup/\∀ f:Int,aL .int .bool s.2.2 f=decide (f∈(l.take k).map λx=>x.dd)) l.length 0 (0,1,([]:List (Int×Bool))) ⟨by show((0:Int):Rat) / ((1:Int):Rat)=0;grind,by simp,by simp,λf=>by rfl⟩ (λj s _ W ⟨V,U,j3,j4⟩ s' E=>by
   rw[alQ]at W;unfold fS at E;cases hc:(((!(aP ((l.getD j (default:Part)).dd) 0 (i64.wrap ((d.l5.length:Int) - 1)))) ||(aL .int .bool s.2.2 ((l.getD j (default:Part)).dd))) ||(decide ((l.getD j (default:Part)).share.n<=0)))with
   |true=>grind
   |false=>
    rw[hc]at E;simp only[amf,anb,decide_eq_false_iff_not]at hc;obtain⟨⟨c1,c2⟩,c3⟩:=hc;rw[zn _ (by omega)]at c1;cases O:((gZ ({ n:=s.1,d:=s.2.1}:B1) ((l.getD j (default:Part)).share)).2 !=0)with
    |true=>grind
    |false=>
     rw[O]at E;simp only[cond_false,amr]at E;subst E;have O:(gZ ({ n:=s.1,d:=s.2.1}:B1) ((l.getD j (default:Part)).share)).2=0:=by grind
     obtain⟨a1,a2,a3,a4⟩:=V6 (r:=(gZ ({ n:=s.1,d:=s.2.1}:B1) ((l.getD j (default:Part)).share)).1) (by rw[<-O]);rw[b9 l default W];rw[j4,decide_eq_false_iff_not]at c2;refine⟨?_,λx hx=>?_,?_,λf=>?_⟩;rw[V7,<-V];simp_all [BO,Rat.add_zero];rcases amj.1 hx with hx|hx;exact U x hx;simp only[aml]at hx;subst hx;exact⟨c1.1,c1.2,a2,by omega⟩;grind
     rw[og,an4];grind) s X
  rw[alQ,ano]at Y;obtain⟨V,U,j3,_⟩:=Y;simp only[alG,beq_iff_eq]at h;obtain⟨h1,h2,h3⟩:=h;rw[vG]at h1;refine⟨by omega,by omega,U,j3,?_⟩;rw[<-V,h2,h3];show((1:Int):Rat) / ((1:Int):Rat)=1;grind
def Y8 (d:ah)(l:List Part):mv d l:=λ_=>gX _ _ _ λj s _ _ _ _=>ahV _ _
theorem ac_ (d:ah)(m:List (Int×bh))(x:bh):nG d m x:=λ_ O E=>⟨λh=>by
  grind [vG,aA,aH],λ_ _ _=>Y8 _ _⟩
theorem uT (d:ah)(l:List bh):jS d l:=λ_ _ _ O=>gX _ _ _ λj s _ E=>⟨λh=>by
  rw[decide_eq_true_eq]at h;grind [aA],λ_=>ac_ _ _ _⟩
def uU (l:List bh):List (Int×bh):=l.foldl (λm x=>dH .int .u0 m x.no x) []
theorem xU (l:List bh)(x:bh):uU (l++[x])=dH .int .u0 (uU l) x.no x:=by
 grind [uU]
def Asc (l:List bh):Prop:=l.Pairwise λx y=>x.no<y.no
def Chk (d:ah):List bh->List bh->Prop
 |_,[] =>True|b,x::r=>(∀ y∈b,y.no<x.no)/\dp d (uU b) x=true/\Chk d (b++[x]) r
theorem Chk.asc:∀ {r b:List bh},Asc b->Chk d b r->Asc (b++r)
 | [],b,h,_=>by simpa using h
 |x::r,b,h,⟨h1,_,E⟩ =>by
  have:Asc (b++[x]):=al8.2 ⟨h,amp _ _,λy hy z O=>by grind⟩;simpa using Chk.asc this E
theorem qo (l:List bh):aN l=false↔∀ x∈l,x.parts.length<=16:=by
 unfold aN dZ;have key:∀ l:List bh,(match di (ρ:=Unit) (λ(x:bh) (_:Unit) =>bif eY x then .inl ()else .inr ()) l ()with| .inl _=>False| .inr _=>True)↔∀ x∈l,x.parts.length<=16:=λl=>by
  induction l with
  |nil=>simp[di]
  |cons x r E=>
   simp only[di];unfold eY at E |-;grind
 have U:∀ (n i:Nat),i+n=l.length->((∃ j,i<=j/\j<l.length/\eY (l.getD j default)=true)/\(∃ q:Nat,aj (cI l) n i ()=.inl (q:Int)))\/((∀ j,i<=j->j<l.length->eY (l.getD j default)=false)/\aj (cI l) n i ()=.inr ()):=λn=>by
  induction n with
  |zero=>exact λi h=>.inr ⟨λj h1 h2=>by omega,rfl⟩
  |succ n E=>
   intro i h;simp only[aj,cI];grind
 rcases U l.length 0 (by omega)with⟨⟨j,_,h2,V⟩,q,W⟩ | ⟨h1,h2⟩;rw[W];simp only[decide_eq_false_iff_not];refine⟨λh=>by omega,λh=>?_⟩;have:=h (l.getD j default) (by grind);unfold eY at V;grind
 rw[h2];simp only;refine⟨λ_ x O=>?_,λ_=>by decide⟩;obtain⟨j,X,rfl⟩:=amk.1 O;grind [eY]
theorem SU (d:ah)(l:List bh)(hl:l.length<=4096):(∀ k,k<l.length->((0<k->(l.getD (k - 1) default).no< (l.getD k default).no)/\dp d (uU (l.take k)) (l.getD k default)=true))↔Chk d [] l:=by
 have key:∀ (r b:List bh),l=b++r->Asc b->((∀ k,b.length<=k->k<l.length->((0<k->(l.getD (k - 1) default).no< (l.getD k default).no)/\dp d (uU (l.take k)) (l.getD k default)=true))↔Chk d b r):=λr=>by
  induction r with
  |nil=>exact λb h _=>⟨λ_=>trivial,λ_ k h1 h2=>by grind⟩
  |cons x r Y=>
   intro b h V;have W:b.length<l.length:=by rw[h];simp
   have g:l.getD b.length default=x:=by grind
   have t:l.take b.length=b:=by rw[h];simp
   have E:(∀ y∈b,y.no<x.no)↔(0<b.length->(l.getD (b.length - 1) default).no<x.no):=by
    rcases anw b with rfl| ⟨X,y,rfl⟩;simp;rw[anx]at h V W g t |-;have g2:l.getD ((X++[y]).length - 1) default=y:=by simp_all
    rw[g2];refine⟨λO _=>O y (by simp),λO z hz=>?_⟩;have hy:=O (by simp);rcases amj.1 hz with hz|hz;exact Int.lt_trans ((al8.1 V).2.2 z hz y (by simp)) hy;grind
   constructor
   intro O;have h1:=O b.length (alJ _) W;rw[g,t]at h1;have h2:=E.2 h1.1;have U:Asc (b++[x]):=al8.2 ⟨V,amp _ _,λy hy z hz=>by grind⟩;exact⟨h2,h1.2,(Y (b++[x]) (by rw[h];simp) U).1 λk hk1 hk2=>O k (by grind) hk2⟩;rintro⟨h2,h3,h4⟩ k hk1 hk2;have U:Asc (b++[x]):=al8.2 ⟨V,amp _ _,λy hy z hz=>by grind⟩;rcases aoT hk1 with rfl|hk1 <;>grind
 have:=key l [] rfl List.Pairwise.nil;grind
theorem xV (d:ah)(l:List bh):a8 d l=0↔aw d=0/\l.length<=512/\(∀ x∈l,x.parts.length<=16)/\Chk d [] l:=by
 unfold a8;cases h1:(aw d !=0)with
 |true=>
  grind
 |false=>
  have h1:aw d=0:=by grind
  simp only[cond_false,h1,true_and];by_cases O:l.length<=512
  have:decide ((l.length:Int) > 512)=false:=by grind
  rw[this,am8];cases h2:aN l with
  |true=>
   simp only[cond_true,O,true_and];refine⟨(λh=>by cases h),λh=>?_⟩;have:=(qo l).2 h.1;grind
  |false=>
   have W:=(qo l).1 h2;simp only[cond_false,O,true_and,and_iff_right W];rw[<-SU d l (by omega)];obtain⟨U,Y⟩:=M_ (step:=eB d l) (λk=>uU (l.take k)) l.length (λk=>(0<k->(l.getD (k - 1) default).no< (l.getD k default).no)/\dp d (uU (l.take k)) (l.getD k default)=true) (λk hk _=>by
    unfold eB;have V:(decide ((k:Int) > 0)&&decide ((l.getD k (default:bh)).no<=(l.getD (Int.toNat (i64.wrap ((k:Int) - 1))) (default:bh)).no))= !decide (0<k->(l.getD (k - 1) default).no< (l.getD k default).no):=by
     by_cases X:0<k
     rw[od (by omega) X,alI];by_cases h4:(l.getD (k - 1) default).no< (l.getD k default).no <;>grind
     grind
    rw[V];constructor
    rintro⟨a,b⟩;rw[decide_eq_true a,b];simp only[alZ,am1,cond_false];grind [b9,xU]
    intro hn;refine⟨(),?_⟩;have:(!decide (0<k->(l.getD (k - 1) default).no< (l.getD k default).no) || !dp d (uU (l.take k)) (l.getD k default))=true:=by
     grind
    grind) l.length 0 (by omega) (λj hj=>by omega)
   by_cases E:∀ k,0<=k->k<l.length->(0<k->(l.getD (k - 1) default).no< (l.getD k default).no)/\dp d (uU (l.take k)) (l.getD k default)=true
   have e:=U E;rw[aod]at e;have e':aj (eB d l) l.length 0 []=.inr (uU (l.take l.length)):=e;grind
   obtain⟨r,e⟩:=Y E;rw[aod]at e;have e':aj (eB d l) l.length 0 []=.inl r:=e;grind
  grind
theorem yp {ρ σ:Type}{step:Nat->σ->ρ⊕σ}{p:Nat->σ->Prop}(m:σ->Nat)(J:σ->Prop)(Q:ρ->Prop)(h:∀ k s,J s->p k s/\((∃ r,step k s=.inl r/\Q r)\/∃ s',step k s=.inr s'/\m s'<m s/\J s')):∀ (n i:Nat) (s:σ),J s->m s<n->okI step p n i s/\∃ r,aj step n i s=.inl r/\Q r
 |0,_,_,_,hm=>absurd hm (Nat.not_lt_zero _)
 |n+1,i,s,hJ,hm=>by
  obtain⟨h1,h2⟩:=h i s hJ;rcases h2 with⟨r,e,U⟩ | ⟨s',e,hlt,E⟩;refine⟨⟨h1,λO e'=>?_⟩,r,?_,U⟩;grind
  grind [aj]
  obtain⟨V,W⟩:=yp m J Q h n (i+1) s' E (by omega);refine⟨⟨h1,λO e'=>?_⟩,?_⟩;grind
  grind [aj]
theorem Na{σ:Type}{x:ρ⊕σ}{Q:ρ->Prop}(h:∃ r,x=.inl r/\Q r):∀ z,x≠ .inr z:=λz e=>by
 grind
theorem Rb (a b:bh):decide (dM a b<0)=decide (a.at_<b.at_):=by
 grind [dM,jr]
theorem xW(A:List α)(x d:α)(T:List α){i:Nat}(h:i=A.length):(A++x::T).getD i d=x:=by
 grind
theorem KJ(A:List α)(x y:α)(T:List α){i:Nat}(h:i=A.length):(A++x::T).set i y=A++y::T:=by
 subst h;simp
def Y1 (l l':List bh):Prop:= ∀ t:Int,l.filter (λx=>x.at_==t)=l'.filter λx=>x.at_==t
theorem Y1.refl (l:List bh):Y1 l l:=λ_=>rfl
variable {a c:List bh}
theorem Y1.trans{b:List bh}(h1:Y1 a b)(h2:Y1 b c):Y1 a c:=λt=>(h1 t).trans (h2 t)
theorem Y1.app{b d:List bh}(h1:Y1 a b)(h2:Y1 c d):Y1 (a++c) (b++d):=λt=>by rw[aoe,aoe,h1 t,h2 t]
theorem Y1.swap{b:List bh}(h:∀ x∈a,∀ y∈b,x.at_≠y.at_):Y1 (a++b) (b++a):=λt=>by
 grind [List.filter_eq_nil_iff]
def Srt (l:List bh):Prop:=l.Pairwise λx y=>x.at_<=y.at_
theorem SW (A S R:List bh)(x:bh)(W:List bh)(hl:(A++S++x::R).length<2 ^ 62)(V:(A++S++x::R).length=W.length):
  okI (bu A.length W) (bJ A.length W) (W.length+1) 0 (A++S++x::R,((A.length+S.length:Nat):Int))/\
  ∃ r,aj (bu A.length W) (W.length+1) 0 (A++S++x::R,((A.length+S.length:Nat):Int))=.inl r/\
   ∃ U O,S=U++O/\r=A++U++x::(O++R)/\(∀ y∈O,x.at_<y.at_)/\∀ y,U.getLast? =some y->y.at_<=x.at_:=by
 refine yp (λs:List bh×Int=>(s.2 - (A.length:Int)).toNat) (λs:List bh×Int=>∃ U O,S=U++O/\s=(A++U++x::(O++R),((A.length+U.length:Nat):Int))/\∀ y∈O,x.at_<y.at_) (λr=>∃ U O,S=U++O/\r=A++U++x::(O++R)/\(∀ y∈O,x.at_<y.at_)/\∀ y,U.getLast? =some y->y.at_<=x.at_) ?_ _ _ _ ⟨S,[],by simp,by simp,by simp⟩ (by grind);rintro k s ⟨U,O,Y,rfl,hlt⟩;simp only[alN,alL]at hl V;have X:S.length=U.length+O.length:=by grind
 rcases anw U with rfl| ⟨E,y,rfl⟩;unfold bJ bu;have e:decide (((A.length+([]:List bh).length:Nat):Int) > A.length)=false:=by simp
 refine⟨⟨λh=>?_,λh=>?_,λh=>?_⟩,.inl ⟨_,?_,[],O,Y,rfl,hlt,λy hy=>by simp at hy⟩⟩ <;>grind;simp only[anx,alN,alL,alS]at X |-;have w:i64.wrap (((A.length+(E.length+(0+1)):Nat):Int) - 1)=((A.length+E.length:Nat):Int):=by grind [aA]
 have e:decide (((A.length+(E.length+(0+1)):Nat):Int) > A.length)=true:=by grind
 have g1:(A++(E++[y])++x::(O++R)).getD (A.length+(E.length+(0+1))) default=x:=xW _ _ _ _ (by simp);have hr:A++(E++[y])++x::(O++R)=(A++E)++y::x::(O++R):=by simp
 have g2:(A++(E++[y])++x::(O++R)).getD (A.length+E.length) default=y:=by grind
 have hL:(A++(E++[y])++x::(O++R)).length=A.length+(E.length+1)+(O.length+R.length+1):=by simp;omega
 unfold bJ bu;simp only[w,alI,g1,g2,Rb,e,ant,anO,hL];refine⟨⟨λ_=>by omega,λ_=>by omega,λ_=>by omega⟩,?_⟩;by_cases h:x.at_<y.at_
 right;rw[decide_eq_true h,cond_true];refine⟨_,rfl,by simp only;omega,E,y::O,by rw[Y];simp,?_,λz hz=>?_⟩ <;>grind;left;rw[decide_eq_false h,cond_false];exact⟨_,rfl,E++[y],O,Y.trans (by simp),by simp,hlt,λz hz=>by grind⟩
variable {l:List bh}
theorem V9{c:Int}(h:Srt l)(E:∀ y,l.getLast? =some y->y.at_<=c):∀ z∈l,z.at_<=c:=λz hz=>by
 rcases anw l with rfl| ⟨l',y,rfl⟩;cases hz;rw[anx]at h hz E;have hy:=E y (by simp);unfold Srt at h;rw[al8]at h;rcases amj.1 hz with hz|hz;exact aoy (h.2.2 z hz y (by simp)) hy;grind
variable {E:List bh}{x:bh}
theorem Y9{O:List bh}(h:Srt (E++O))(h2:∀ y∈O,x.at_<y.at_)(h1:∀ z∈E,z.at_<=x.at_):Srt (E++x::O):=by
 unfold Srt at h |-;rw[al8]at h |-;refine⟨h.1,amO.2 ⟨λy hy=>Int.le_of_lt (h2 y hy),h.2.1⟩,λz U y hy=>?_⟩;grind
theorem I1 (A M R:List bh)(hl:(A++M++R).length<2 ^ 62):
  a_ A.length ((A.length+M.length:Nat):Int) (A++M++R)/\
  ∃ E,aG A.length ((A.length+M.length:Nat):Int) (A++M++R)=A++E++R/\Y1 M E/\Srt E:=by
 have hlen:(A++M++R).length=A.length+M.length+R.length:=by grind
 have w0:i64.wrap ((A.length:Int)+1)=((A.length+1:Nat):Int):=by grind [aA]
 have key:okI (a9 A.length ((A.length+M.length:Nat):Int) (A++M++R)) (bf A.length ((A.length+M.length:Nat):Int) (A++M++R)) ((A++M++R).length+1) 0 (A++M++R,((A.length+1:Nat):Int))/\
   ∃ r,aj (a9 A.length ((A.length+M.length:Nat):Int) (A++M++R)) ((A++M++R).length+1) 0 (A++M++R,((A.length+1:Nat):Int))=.inl r/\∃ E,r=A++E++R/\Y1 M E/\Srt E:=by
  refine yp (λs:List bh×Int=>(((A.length+M.length:Nat):Int) - s.2).toNat) (λs:List bh×Int=>(M=[]/\s=(A++M++R,((A.length+1:Nat):Int)))\/∃ S T,s=(A++S++(T++R),((A.length+S.length:Nat):Int))/\Y1 M (S++T)/\Srt S/\M.length=S.length+T.length) (λr=>∃ E,r=A++E++R/\Y1 M E/\Srt E) ?_ _ _ _ ?_ (by omega)
  ·rintro k s (⟨rfl,rfl⟩ | ⟨S,T,rfl,hF,Y,X⟩);unfold bf a9;have e:decide (((A.length+1:Nat):Int) < ((A.length+([]:List bh).length:Nat):Int))=false:=by grind
   refine⟨λh=>?_,.inl ⟨_,?_,[],rfl,Y1.refl _,List.Pairwise.nil⟩⟩ <;>grind
   ·cases T with
    |nil=>
     simp_all [bf,a9]
    |cons x T=>
     simp only[alL]at X;have e:decide (((A.length+S.length:Nat):Int) < ((A.length+M.length:Nat):Int))=true:=by grind
     have W:(A++S++x::(T++R)).length=(A++M++R).length:=by simp;omega
     obtain⟨i1,r,i2,O,U,rfl,rfl,i3,i4⟩:=SW A S (T++R) x (A++M++R) (by omega) W;have V:Srt O:=(al8.1 Y).1;have w:i64.wrap (((A.length+(O++U).length:Nat):Int)+1)=((A.length+(O++x::U).length:Nat):Int):=by
      grind [aA]
     unfold bf a9;refine⟨λ_=>⟨i1,Na (Q:=λ_=>True) ⟨_,i2,trivial⟩⟩,.inr ⟨_,?_,?_,.inr ⟨O++x::U,T,rfl,?_,Y9 Y i3 (V9 V i4),by grind⟩⟩⟩;grind
     grind
     ·refine hF.trans ?_;have h0:Y1 (U++[x]) ([x]++U):=Y1.swap λy hy z hz=>by grind
      have:=((Y1.refl O).app h0).app (Y1.refl T);grind
  cases M with
  |nil=>grind
  |cons x T=>exact .inr ⟨[x],T,by simp,by simpa using Y1.refl _,amp _ _,by simp;omega⟩
 grind [a_,aG]
theorem KK (A X B Y C:List bh)(hxy:X.length=Y.length)(hl:(A++X++B++Y++C).length<2 ^ 62):
  ba A.length ((A.length+X.length+B.length:Nat):Int) X.length (A++X++B++Y++C)/\
  bp A.length ((A.length+X.length+B.length:Nat):Int) X.length (A++X++B++Y++C)=A++Y++B++X++C:=by
 have hlen:(A++X++B++Y++C).length=A.length+X.length+B.length+Y.length+C.length:=by grind
 have step:∀ j s,0<=j->j<0+Int.toNat (X.length:Int)->(∃ O U E V,X=O++U/\Y=E++V/\O.length=j/\E.length=j/\s=A++E++U++B++O++V++C)->
   cJ A.length ((A.length+X.length+B.length:Nat):Int) X.length j s/\∀ s',ce A.length ((A.length+X.length+B.length:Nat):Int) X.length j s=.inr s'->∃ O U E V,X=O++U/\Y=E++V/\O.length=j+1/\E.length=j+1/\s'=A++E++U++B++O++V++C:=by
  rintro j s _ hj ⟨O,U,E,V,hX,hY,h1,h2,rfl⟩;rw[alI,alQ]at hj;have l1:X.length=O.length+U.length:=by grind
  have W:Y.length=E.length+V.length:=by grind
  match U,V,l1,W,hX,hY with
  | [],_,l1,_,_,_=>grind|_::_,[],_,W,_,_=>grind
  |x::U,y::V,l1,W,hX,hY=>
   simp only[alL]at l1 W;have w1:i64.wrap ((A.length:Int)+(j:Int))=((A.length+j:Nat):Int):=by grind [aA]
   have w2:i64.wrap (((A.length+X.length+B.length:Nat):Int)+(j:Int))=((A.length+X.length+B.length+j:Nat):Int):=by grind [aA]
   have r1:A++E++x::U++B++O++y::V++C=(A++E)++x::(U++B++O++y::(V++C)):=by simp
   have r2:A++E++x::U++B++O++y::V++C=(A++E++x::U++B++O)++y::(V++C):=by simp
   have g1:(A++E++x::U++B++O++y::V++C).getD (A.length+j) default=x:=by rw[r1];exact xW _ _ _ _ (by simp;omega)
   have g2:(A++E++x::U++B++O++y::V++C).getD (A.length+X.length+B.length+j) default=y:=by rw[r2];exact xW _ _ _ _ (by simp;omega)
   have hL:(A++E++x::U++B++O++y::V++C).length=A.length+X.length+B.length+Y.length+C.length:=by simp;omega
   unfold cJ ce;simp only[w1,w2,alI,g1,g2,anO,hL];refine⟨by omega,λs' e=>?_⟩;cases e;refine⟨O++[x],U,E++[y],V,by rw[hX];simp,by rw[hY];simp,by simp[h1],by simp[h2],?_⟩;rw[r1,KJ (A++E) x y _ (by simp;omega)];have r3:A++E++y::(U++B++O++y::(V++C))=(A++E++y::U++B++O)++y::(V++C):=by simp
   grind [KJ]
 have h0:∃ O U E V,X=O++U/\Y=E++V/\O.length=0/\E.length=0/\A++X++B++Y++C=A++E++U++B++O++V++C:=⟨[],X,[],Y,rfl,rfl,rfl,rfl,by simp⟩;have hJ:=sJ (λk s=>∃ O U E V,X=O++U/\Y=E++V/\O.length=k/\E.length=k/\s=A++E++U++B++O++V++C) (Int.toNat (X.length:Int)) 0 _ h0 (λj s a b c=>(step j s a b c).2);unfold ba bp;refine⟨⟨by omega,jk (λk s=>∃ O U E V,X=O++U/\Y=E++V/\O.length=k/\E.length=k/\s=A++E++U++B++O++V++C) _ 0 _ h0 step⟩,?_⟩;cases hr:aj (ce A.length ((A.length+X.length+B.length:Nat):Int) X.length) (Int.toNat (X.length:Int)) 0 (A++X++B++Y++C)with
 |inl x=>exact x.elim
 |inr r=>
  obtain⟨O,U,E,V,rfl,rfl,h1,h2,rfl⟩:=hJ r hr;rw[alI,alQ]at h1 h2;have e1:U=[]:=al1 (by grind);simp_all
theorem SX (A U V C:List bh)(hU:U≠[])(hV:V≠[])(hl:(A++U++V++C).length<2 ^ 62):
  bO A.length ((A.length+U.length:Nat):Int) ((A.length+U.length+V.length:Nat):Int) (A++U++V++C)/\
  aF A.length ((A.length+U.length:Nat):Int) ((A.length+U.length+V.length:Nat):Int) (A++U++V++C)=A++V++U++C:=by
 have hlen:(A++U++V++C).length=A.length+U.length+V.length+C.length:=by grind
 have w1:i64.wrap (((A.length+U.length:Nat):Int) - (A.length:Int))=(U.length:Int):=by grind [aA]
 have w2:i64.wrap (((A.length+U.length+V.length:Nat):Int) - ((A.length+U.length:Nat):Int))=(V.length:Int):=by grind [aA]
 have hm:∀ {M:Nat},M=A.length+U.length->∀ {F:List bh},F=A++V++U++C->okI (cK A.length (M:Int) ((A.length+U.length+V.length:Nat):Int)) (db A.length (M:Int) ((A.length+U.length+V.length:Nat):Int)) (Int.toNat (((A.length+U.length+V.length:Nat):Int) - (A.length:Int))+1) 0 (A++U++V++C,(U.length:Int),(V.length:Int))/\
   ∃ r,aj (cK A.length (M:Int) ((A.length+U.length+V.length:Nat):Int)) (Int.toNat (((A.length+U.length+V.length:Nat):Int) - (A.length:Int))+1) 0 (A++U++V++C,(U.length:Int),(V.length:Int))=.inl r/\∃ W O E X,r=((O.length:Int),W++O++E++X)/\O.length=E.length/\W.length+O.length=M/\W++E++O++X=F:=by
  intro M hM F hF;refine yp (λs:List bh×Int×Int=>(s.2.1+s.2.2).toNat) (λs:List bh×Int×Int=>∃ W O E X,s=(W++O++E++X,(O.length:Int),(E.length:Int))/\O≠[]/\E≠[]/\W.length+O.length=M/\W++E++O++X=F) _ ?_ _ _ _ ⟨A,U,V,C,rfl,hU,hV,hM.symm,hF.symm⟩ (by grind);rintro k s ⟨W,O,E,X,rfl,hU1,hV1,hM1,hF1⟩;have hFl:W.length+E.length+O.length+X.length<2 ^ 62:=by
   grind [List.length_append]
  have pU:0<O.length:=amq.2 hU1;have pV:0<E.length:=amq.2 hV1;unfold db cK;have v1:i64.wrap ((M:Int) - (O.length:Int))=(W.length:Int):=by grind [aA]
  by_cases he:O.length=E.length
  grind
  have b1:(((O.length:Int)) !=((E.length:Int)))=true:=by grind
  by_cases hgt:E.length<O.length
  have b2:decide (((O.length:Int)) > ((E.length:Int)))=true:=by grind
  have v2:i64.wrap ((O.length:Int) - (E.length:Int))=((O.drop E.length).length:Int):=by grind [aA]
  have hsp:O=O.take E.length++O.drop E.length:=(amG _ _).symm;have ht:(O.take E.length).length=E.length:=by grind
  have hd:(O.drop E.length).length=O.length - E.length:=amQ;have Y:=KK W (O.take E.length) (O.drop E.length) E X ht (by grind);have e1:W++O.take E.length++O.drop E.length++E++X=W++O++E++X:=by grind
  have e2:((W.length+(O.take E.length).length+(O.drop E.length).length:Nat):Int)=(M:Int):=by omega
  rw[e1,e2,ht]at Y;simp only[b1,b2,v1,v2,cond_true];refine⟨λ_=>⟨λ_=>Y.1,λh=>by cases h⟩,.inr ⟨_,rfl,by simp only[hd];omega,W++E,O.drop E.length,O.take E.length,X,?_,λh=>?_,λh=>?_,?_,?_⟩⟩ <;>grind;have b2:decide (((O.length:Int)) > ((E.length:Int)))=false:=by grind
  have v2:i64.wrap ((E.length:Int) - (O.length:Int))=((E.take (E.length - O.length)).length:Int):=by grind [aA]
  have v3:i64.wrap (i64.wrap ((M:Int)+(E.length:Int)) - (O.length:Int))=((W.length+O.length+(E.take (E.length - O.length)).length:Nat):Int):=by
   grind [aA]
  have ht:(E.take (E.length - O.length)).length=E.length - O.length:=by grind
  have hd:(E.drop (E.length - O.length)).length=O.length:=by grind
  have Y:=KK W O (E.take (E.length - O.length)) (E.drop (E.length - O.length)) X hd.symm (by grind);have e1:W++O++E.take (E.length - O.length)++E.drop (E.length - O.length)++X=W++O++E++X:=by simp_all
  rw[e1]at Y;simp only[b1,b2,v1,v2,v3,cond_true,cond_false];refine⟨λ_=>⟨(λh=>by cases h),λ_=>Y.1⟩,.inr ⟨_,rfl,by grind,W,E.drop (E.length - O.length),E.take (E.length - O.length),O++X,?_,λh=>?_,λh=>?_,by omega,?_⟩⟩;grind
  grind
  grind
  simp_all
 obtain⟨k1,r,k2,W,O,E,X,rfl,q1,q2,q3⟩:=hm rfl rfl;have hFl:W.length+E.length+O.length+X.length<2 ^ 62:=by
  grind [List.length_append]
 have v1:i64.wrap (((A.length+U.length:Nat):Int) - (O.length:Int))=(W.length:Int):=by grind [aA]
 have Y:=KK W O [] E X q1 (by grind);grind [bO,aF]
theorem half {i j:Int}(E:0<=i)(h1:i<=j)(h2:j<=2305843009213693952):i64.wrap (lp .u64 (u64.wrap (i64.wrap (i+j))) 1)=(i+j) / 2:=by
 have U:i64.wrap (i+j)=i+j:=aA (by omega) (by omega);have e:u64.wrap (i+j)=i+j:=by
  grind [IntKind.wrap,IntKind.bits]
 have O:lp .u64 (i+j) 1=(i+j) / 2:=by
  show Int.fdiv (i+j) ((2:Int) ^ min (Int.toNat 1) u64.bits)=_;have:(2:Int) ^ min (Int.toNat 1) u64.bits=2:=by decide
  grind
 grind [aA]
theorem Rc {i j:Nat}(h1:i<=j)(h2:j<2 ^ 61):i64.wrap (lp .u64 (u64.wrap (i64.wrap ((i:Int)+(j:Int)))) 1)=(((i+j) / 2:Nat):Int):=by
 rw[half (by omega) (by omega) (by omega)];omega
theorem Py {step:Nat->Int×Int->Int⊕(Int×Int)}{p:Nat->Int×Int->Prop}(P:Nat->Bool)(lo hi:Nat)(Y:lo<=hi)(W:∀ x y,lo<=x->x<=y->y<hi->P y=true->P x=true)
  (hstep:∀ k (i j:Nat),lo<=i->i<j->j<=hi->p k ((i:Int),(j:Int))/\step k ((i:Int),(j:Int))=bif P ((i+j) / 2)then .inr ((((i+j) / 2+1:Nat):Int),(j:Int))else .inr ((i:Int),(((i+j) / 2:Nat):Int)))
  (U:∀ k (i:Nat),p k ((i:Int),(i:Int))/\step k ((i:Int),(i:Int))=.inl (i:Int)) (n k:Nat) (hn:hi - lo<n):
  okI step p n k ((lo:Int),(hi:Int))/\∃ r,aj step n k ((lo:Int),(hi:Int))=.inl r/\∃ q:Nat,r=(q:Int)/\lo<=q/\q<=hi/\(∀ x,lo<=x->x<q->P x=true)/\∀ x,q<=x->x<hi->P x=false:=by
 refine yp (λs:Int×Int=>(s.2 - s.1).toNat) (λs:Int×Int=>∃ i j:Nat,s=((i:Int),(j:Int))/\lo<=i/\i<=j/\j<=hi/\(∀ x,lo<=x->x<i->P x=true)/\∀ x,j<=x->x<hi->P x=false) _ ?_ n k _ ⟨lo,hi,rfl,alJ _,Y,alJ _,λx h1 h2=>by omega,λx h1 h2=>by omega⟩ (by omega);rintro k s ⟨i,j,rfl,h1,h2,h3,h4,h5⟩;by_cases h:i<j
 obtain⟨q1,E⟩:=hstep k i j h1 h h3;refine⟨q1,.inr ?_⟩;have V:i<=(i+j) / 2:=by omega
 have hm2:(i+j) / 2<j:=by omega
 cases hP:P ((i+j) / 2)with
 |true=>
  rw[hP]at E;refine⟨_,E,by omega,(i+j) / 2+1,j,rfl,by omega,by omega,h3,λx X O=>?_,h5⟩;grind
 |false=>
  rw[hP]at E;refine⟨_,E,by omega,i,(i+j) / 2,rfl,h1,V,by omega,h4,λx X O=>?_⟩;grind
 grind
theorem V_ (A V C:List bh)(x:bh)(U:List bh)(hl:(A++x::V++C).length<2 ^ 62)(W:(A++x::V++C).length=U.length):
  okI (vt U ((A.length+1+V.length:Nat):Int)) (uN U ((A.length+1+V.length:Nat):Int)) (U.length+1) 0 (A++x::V++C,(A.length:Int))/\
  ∃ r,aj (vt U ((A.length+1+V.length:Nat):Int)) (U.length+1) 0 (A++x::V++C,(A.length:Int))=.inl r/\r=A++V++x::C:=by
 have Y:(A++x::V++C).length=A.length+V.length+C.length+1:=by simp;omega
 have w0:i64.wrap (((A.length+1+V.length:Nat):Int) - 1)=((A.length+V.length:Nat):Int):=by grind [aA]
 refine yp (λs:List bh×Int=>(((A.length+V.length:Nat):Int) - s.2).toNat) (λs:List bh×Int=>∃ E O,V=E++O/\s=(A++E++x::(O++C),((A.length+E.length:Nat):Int))) (λr=>r=A++V++x::C) ?_ _ _ _ ⟨[],V,rfl,by simp⟩ (by omega);rintro k s ⟨E,O,hV,rfl⟩;have X:V.length=E.length+O.length:=by grind
 unfold uN vt;rw[w0];cases O with
 |nil=>
  grind
 |cons y O=>
  simp only[alL]at X;have e:decide (((A.length+E.length:Nat):Int) < ((A.length+V.length:Nat):Int))=true:=by grind
  have w1:i64.wrap (((A.length+E.length:Nat):Int)+1)=((A.length+E.length+1:Nat):Int):=by grind [aA]
  have g1:(A++E++x::(y::O++C)).getD (A.length+E.length) default=x:=xW _ _ _ _ (by simp);have r1:A++E++x::(y::O++C)=(A++E++[x])++y::(O++C):=by simp
  have g2:(A++E++x::(y::O++C)).getD (A.length+E.length+1) default=y:=by rw[r1];exact xW _ _ _ _ (by simp;omega)
  have hL:(A++E++x::(y::O++C)).length=A.length+V.length+C.length+1:=by simp;omega
  simp only[e,w1,alI,g1,g2,anO,hL,cond_true];refine⟨λ_=>by omega,.inr ⟨_,rfl,by omega,E++[y],O,by rw[hV];simp,?_⟩⟩;simp_all [am7]
theorem Pz (A U C:List bh)(x:bh)(V:List bh)(hl:(A++U++x::C).length<2 ^ 62)(W:(A++U++x::C).length=V.length):
  okI (vz V (A.length:Int)) (uO V (A.length:Int)) (V.length+1) 0 (A++U++x::C,((A.length+U.length:Nat):Int))/\
  ∃ r,aj (vz V (A.length:Int)) (V.length+1) 0 (A++U++x::C,((A.length+U.length:Nat):Int))=.inl r/\r=A++x::(U++C):=by
 have hlen:(A++U++x::C).length=A.length+U.length+C.length+1:=by simp;omega
 refine yp (λs:List bh×Int=>(s.2 - (A.length:Int)).toNat) (λs:List bh×Int=>∃ E O,U=E++O/\s=(A++E++x::(O++C),((A.length+E.length:Nat):Int))) (λr=>r=A++x::(U++C)) ?_ _ _ _ ⟨U,[],by simp,by simp⟩ (by omega);rintro k s ⟨E,O,Y,rfl⟩;have X:U.length=E.length+O.length:=by grind
 unfold uO vz;rcases anw E with rfl| ⟨E,y,rfl⟩;simp_all;simp only[anx,alN,alL,alS]at X Y |-;have e:decide (((A.length+(E.length+(0+1)):Nat):Int) > (A.length:Int))=true:=by grind
 have w1:i64.wrap (((A.length+(E.length+(0+1)):Nat):Int) - 1)=((A.length+E.length:Nat):Int):=by grind [aA]
 have g1:(A++(E++[y])++x::(O++C)).getD (A.length+(E.length+(0+1))) default=x:=xW _ _ _ _ (by simp);have r1:A++(E++[y])++x::(O++C)=(A++E)++y::x::(O++C):=by simp
 have g2:(A++(E++[y])++x::(O++C)).getD (A.length+E.length) default=y:=by grind
 have hL:(A++(E++[y])++x::(O++C)).length=A.length+U.length+C.length+1:=by simp;omega
 simp only[e,w1,alI,g1,g2,anO,hL,cond_true];refine⟨λ_=>by omega,.inr ⟨_,rfl,by omega,E,y::O,by rw[Y];simp,?_⟩⟩;grind
variable {n:Nat}
theorem Rd(l:List α)(d:α)(h:n<l.length):l.getD n d=l[n]:=by
 grind
variable {V:List bh}
theorem qW(h:Srt V){i j:Nat}(h1:i<=j)(h2:j<V.length):(V.getD i default).at_<=(V.getD j default).at_:=by
 rcases aoT h1 with rfl|h1;omega;rw[Rd V _ (by omega),Rd V _ h2];exact amh.1 h i j (by omega) h2 h1
variable {y:bh}
theorem Av(h:y∈V.take k):∃ i,i<k/\i<V.length/\y=V.getD i default:=by
 obtain⟨i,hi,e⟩:=amk.1 h;rw[amT]at hi;refine⟨i,by omega,by omega,?_⟩;grind
theorem Aw(h:y∈V.drop k):∃ i,k<=i/\i<V.length/\y=V.getD i default:=by
 obtain⟨i,hi,e⟩:=amk.1 h;rw[amQ]at hi;refine⟨k+i,by omega,by omega,?_⟩;grind
def DU{b:List bh}(h:Srt (a++b)):Srt a/\Srt b/\∀ x∈a,∀ y∈b,x.at_<=y.at_:=al8.1 h
def BP{b:List bh}(h1:Srt a)(h2:Srt b)(E:∀ x∈a,∀ y∈b,x.at_<=y.at_):Srt (a++b):=al8.2 ⟨h1,h2,E⟩
def aaA (n:Nat)(ap5:Int->Int->Int->List bh->List bh)(apV:Int->Int->Int->List bh->Prop):Prop:=
 ∀ A U V C:List bh,U≠[]->V≠[]->U.length+V.length<=n->(A++U++V++C).length<2 ^ 60->Srt U->Srt V->
  apV (A.length:Int) ((A.length+U.length:Nat):Int) ((A.length+U.length+V.length:Nat):Int) (A++U++V++C)/\
  ∃ M,ap5 (A.length:Int) ((A.length+U.length:Nat):Int) ((A.length+U.length+V.length:Nat):Int) (A++U++V++C)=A++M++C/\Y1 (U++V) M/\Srt M/\M.length=U.length+V.length
theorem PA (O:Int->Int->Int->List bh->List bh)(E:Int->Int->Int->List bh->Prop)(A V C:List bh)(x:bh)(hl:(A++[x]++V++C).length<2 ^ 60)(X:Srt V):
  vA O E (A.length:Int) ((A.length+1:Nat):Int) ((A.length+1+V.length:Nat):Int) (A++[x]++V++C)/\
  ∃ M,Ky O E (A.length:Int) ((A.length+1:Nat):Int) ((A.length+1+V.length:Nat):Int) (A++[x]++V++C)=A++M++C/\Y1 ([x]++V) M/\Srt M/\M.length=1+V.length:=by
 have hL:(A++[x]++V++C).length=A.length+V.length+C.length+1:=by simp;omega
 have w:i64.wrap (((A.length+1:Nat):Int) - (A.length:Int))=1:=by grind [aA]
 have gx:(A++[x]++V++C).getD A.length default=x:=by
  grind
 have gV:∀ h,A.length+1<=h->h<A.length+1+V.length->(A++[x]++V++C).getD h default=V.getD (h - (A.length+1)) default:=λh h1 h2=>by
  grind
 have s:=Py (step:=rT (A.length:Int) (A++[x]++V++C)) (p:=sf (A.length:Int) (A++[x]++V++C)) (λh=>decide ((V.getD (h - (A.length+1)) default).at_<x.at_)) (A.length+1) (A.length+1+V.length) (by omega)
  (λi j h1 h2 h3 h4=>by
   have:=qW X (i:=i - (A.length+1)) (j:=j - (A.length+1)) (by omega) (by omega);grind)
  (λk i j h1 h2 h3=>by
   have e:decide ((i:Int) < (j:Int))=true:=by grind
   unfold sf rT;simp only[Rc (i:=i) (j:=j) (by omega) (by omega),e,cond_true,alI,gx,gV ((i+j) / 2) (by omega) (by omega),Rb,hL];grind [aA])
  (λk i=>by
   simp_all [sf,rT]) ((A++[x]++V++C).length+1) 0 (by omega)
 obtain⟨s1,r,s2,q,rfl,q1,q2,q3,q4⟩:=s;have ht:(V.take (q - (A.length+1))).length=q - (A.length+1):=by rw[amT];omega
 have W:V.take (q - (A.length+1))++V.drop (q - (A.length+1))=V:=amG _ _;have hd1:∀ y∈V.take (q - (A.length+1)),y.at_<x.at_:=λy hy=>by
  obtain⟨i,i1,i2,rfl⟩:=Av hy;have:=q3 (A.length+1+i) (by omega) (by omega);simp_all
 have hd2:∀ y∈V.drop (q - (A.length+1)),x.at_<=y.at_:=λy hy=>by
  obtain⟨i,i1,i2,rfl⟩:=Aw hy;have:=q4 (A.length+1+i) (by omega) (by omega);simp_all
 generalize hV1:V.take (q - (A.length+1))=V1 at *;generalize hV2:V.drop (q - (A.length+1))=V2 at *;subst W;have Y:A++[x]++(V1++V2)++C=A++x::V1++(V2++C):=by simp
 obtain⟨c1,r,c2,rfl⟩:=V_ A V1 (V2++C) x (A++[x]++(V1++V2)++C) (by grind) (by rw[Y]);have U:((A.length+1+V1.length:Nat):Int)=(q:Int):=by omega
 rw[<-Y,U]at c1 c2;unfold vA Ky;rw[w];refine⟨⟨λ_=>⟨s1,Na (Q:=λ_=>True) ⟨_,s2,trivial⟩,λz hz=>?_⟩,λh=>by cases h⟩,V1++[x]++V2,?_,?_,?_,?_⟩;grind
 grind
 ·have h0:Y1 ([x]++V1) (V1++[x]):=Y1.swap λa ha b hb=>by grind
  simpa using h0.app (Y1.refl V2)
 obtain⟨a1,a2,a3⟩:=DU X;refine BP (BP a1 (amp _ _) λy hy z hz=>?_) a2 λy hy z hz=>?_ <;>grind;grind
theorem Nb (O:Int->Int->Int->List bh->List bh)(E:Int->Int->Int->List bh->Prop)(A U C:List bh)(x:bh)(hU2:2<=U.length)(hl:(A++U++[x]++C).length<2 ^ 60)(hU:Srt U):
  vA O E (A.length:Int) ((A.length+U.length:Nat):Int) ((A.length+U.length+1:Nat):Int) (A++U++[x]++C)/\
  ∃ M,Ky O E (A.length:Int) ((A.length+U.length:Nat):Int) ((A.length+U.length+1:Nat):Int) (A++U++[x]++C)=A++M++C/\Y1 (U++[x]) M/\Srt M/\M.length=U.length+1:=by
 have hL:(A++U++[x]++C).length=A.length+U.length+C.length+1:=by simp;omega
 have w1:i64.wrap (((A.length+U.length:Nat):Int) - (A.length:Int))=(U.length:Int):=by grind [aA]
 have w:i64.wrap (((A.length+U.length+1:Nat):Int) - ((A.length+U.length:Nat):Int))=1:=by grind [aA]
 have b1:((U.length:Int) ==1)=false:=by simp;omega
 have gx:(A++U++[x]++C).getD (A.length+U.length) default=x:=by
  grind
 have gU:∀ h,A.length<=h->h<A.length+U.length->(A++U++[x]++C).getD h default=U.getD (h - A.length) default:=λh h1 h2=>by
  grind
 have s:=Py (step:=rU ((A.length+U.length:Nat):Int) (A++U++[x]++C)) (p:=sg ((A.length+U.length:Nat):Int) (A++U++[x]++C)) (λh=>!decide (x.at_< (U.getD (h - A.length) default).at_)) A.length (A.length+U.length) (by omega)
  (λi j h1 h2 h3 h4=>by
   have:=qW hU (i:=i - A.length) (j:=j - A.length) (by omega) (by omega);grind)
  (λk i j h1 h2 h3=>by
   have e:decide ((i:Int) < (j:Int))=true:=by grind
   unfold sg rU;simp only[Rc (i:=i) (j:=j) (by omega) (by omega),e,cond_true,alI,gx,gU ((i+j) / 2) (by omega) (by omega),Rb,hL];grind [aA])
  (λk i=>by
   simp_all [sg,rU]) ((A++U++[x]++C).length+1) 0 (by omega)
 obtain⟨s1,r,s2,q,rfl,q1,q2,q3,q4⟩:=s;have ht:(U.take (q - A.length)).length=q - A.length:=by grind
 have hd:(U.drop (q - A.length)).length=U.length - (q - A.length):=amQ;have X:U.take (q - A.length)++U.drop (q - A.length)=U:=amG _ _;have hd1:∀ y∈U.take (q - A.length),y.at_<=x.at_:=λy hy=>by
  obtain⟨i,i1,i2,rfl⟩:=Av hy;have:=q3 (A.length+i) (by omega) (by omega);simp_all
 have hd2:∀ y∈U.drop (q - A.length),x.at_<y.at_:=λy hy=>by
  obtain⟨i,i1,i2,rfl⟩:=Aw hy;have:=q4 (A.length+i) (by omega) (by omega);simp_all
 generalize hV1:U.take (q - A.length)=V1 at *;generalize hV2:U.drop (q - A.length)=V2 at *;subst X;have Y:A++(V1++V2)++[x]++C=(A++V1)++V2++x::C:=by simp
 obtain⟨c1,r,c2,rfl⟩:=Pz (A++V1) V2 C x (A++(V1++V2)++[x]++C) (by grind) (by rw[Y]);have V:(((A++V1).length:Nat):Int)=(q:Int):=by grind
 have W:(((A++V1).length+V2.length:Nat):Int)=((A.length+(V1++V2).length:Nat):Int):=by omega
 rw[<-Y,W,V]at c1 c2;unfold vA Ky;rw[w1,w];refine⟨⟨λh=>(by grind),λ_=>⟨λ_=>⟨s1,Na (Q:=λ_=>True) ⟨_,s2,trivial⟩,λz hz=>?_⟩,λh=>by cases h⟩⟩,V1++[x]++V2,?_,?_,?_,?_⟩;grind
 grind
 ·have h0:Y1 (V2++[x]) ([x]++V2):=Y1.swap λa ha b hb=>by grind
  simpa using (Y1.refl V1).app h0
 obtain⟨a1,a2,a3⟩:=DU hU;refine BP (BP a1 (amp _ _) λy hy z hz=>?_) a2 λy hy z hz=>?_ <;>grind;grind
def stI (x:bh):List bh->List bh
 | [] =>[x]|y::r=>if x.at_<=y.at_ then x::y::r else y::stI x r
def stS:List bh->List bh
 | [] =>[]|x::r=>stI x (stS r)
theorem FO (x:bh):∀ l,Y1 (x::l) (stI x l)
 | [] =>Y1.refl _
 |y::r=>by
  unfold stI;by_cases h:x.at_<=y.at_
  rw[if_pos h];exact Y1.refl _
  ·rw[if_neg h];have h1:Y1 ([x]++[y]++r) ([y]++[x]++r):=(Y1.swap λa O b E=>by grind).app (Y1.refl r);exact h1.trans ((Y1.refl [y]).app (FO x r))
theorem Y1.symm{b:List bh}(h:Y1 a b):Y1 b a:=λt=>(h t).symm
theorem Y1.mem{b:List bh}(h:Y1 a b)(E:x∈a):x∈b:=by
 have:x∈a.filter λy=>y.at_==x.at_:=by grind
 rw[h x.at_]at this;grind
theorem Y1.mem_iff{b:List bh}(h:Y1 a b):x∈a↔x∈b:=⟨h.mem,h.symm.mem⟩
theorem Re (x:bh):∀ l,Srt l->Srt (stI x l)
 | [],_=>amp _ _
 |y::r,h=>by
  unfold stI;have h':=amO.1 h;by_cases hc:x.at_<=y.at_
  rw[if_pos hc];exact amO.2 ⟨λz E=>by
   grind,h⟩
  rw[if_neg hc];refine amO.2 ⟨λz E=>?_,Re x r h'.2⟩;have:=(FO x r).symm.mem E;grind
def xn:∀ l,Y1 l (stS l)
 | [] =>Y1.refl _|x::r=>((Y1.refl [x]).app (xn r)).trans (FO x _)
def KL:∀ l,Srt (stS l)
 | [] =>List.Pairwise.nil|x::r=>Re x _ (KL r)
theorem CO:∀ {a b:List bh},Srt a->Srt b->Y1 a b->a=b
 | [],[],_,_,_=>rfl
 | [],y::b,_,_,h=>absurd (h.symm.mem (al4)) (by simp)
 |x::a,[],_,_,h=>absurd (h.mem (al4)) (by simp)
 |x::a,y::b,ha,X,h=>by
  have O:=amO.1 ha;have E:=amO.1 X;have e:x.at_=y.at_:=by
   have h1:=h.mem (al4 (a:=x) (l:=a));have h2:=h.symm.mem (al4 (a:=y) (l:=b));grind
  have V:=h x.at_;have W:(y.at_==x.at_)=true:=by simp[e]
  have ex:(x.at_==x.at_)=true:=by simp
  simp only[List.filter_cons,ex,W,if_true]at V;obtain⟨U,Y⟩:=List.cons.inj V;subst U;have:Y1 a b:=λt=>by
   have ht:=h t;grind
  rw[CO O.2 E.2 this]
def zo{b:List bh}(h:Y1 a b)(E:Srt b):b=stS a:=CO E (KL a) (h.symm.trans (xn a))
def Y_:x∈stS l↔x∈l:=(xn l).symm.mem_iff
theorem ahW{c1 W U:Bool}(O V:List bh->List bh):
  (bif c1 then(bif W then(bif U then V (O E)else O E)else(bif U then V E else E))else(bif W then(bif U then V (O l)else O l)else(bif U then V l else l)))=(bif U then V (bif W then O (bif c1 then E else l)else(bif c1 then E else l))else(bif W then O (bif c1 then E else l)else(bif c1 then E else l))):=by
 grind
theorem ada{c1 O U:Bool}{Y:Prop}(X:List bh->List bh)(W V:List bh->Prop)(h1:c1=true->Y)(h2:O=true->W (bif c1 then E else l))(h3:U=true->V (bif O then X (bif c1 then E else l)else(bif c1 then E else l))):
  ((c1=true->(Y/\((O=true->(W E/\(U=true->V (X E))))/\(O=false->U=true->V E))))/\(c1=false->((O=true->(W l/\(U=true->V (X l))))/\(O=false->U=true->V l)))):=by
 grind
theorem PB {N:Nat}{O:Int->Int->Int->List bh->List bh}{E:Int->Int->Int->List bh->Prop}(hr:aaA N O E)(A U V C:List bh)(hU2:2<=U.length)(hV2:2<=V.length)(hN:U.length+V.length<=N+1)(hl:(A++U++V++C).length<2 ^ 60)(hU:Srt U)(hV:Srt V):
  vA O E (A.length:Int) ((A.length+U.length:Nat):Int) ((A.length+U.length+V.length:Nat):Int) (A++U++V++C)/\
  ∃ M,Ky O E (A.length:Int) ((A.length+U.length:Nat):Int) ((A.length+U.length+V.length:Nat):Int) (A++U++V++C)=A++M++C/\Y1 (U++V) M/\Srt M/\M.length=U.length+V.length:=by
 have hL:(A++U++V++C).length=A.length+U.length+V.length+C.length:=by grind
 have gU:∀ h,A.length<=h->h<A.length+U.length->(A++U++V++C).getD h default=U.getD (h - A.length) default:=λh h1 h2=>by
  grind
 have gV:∀ h,A.length+U.length<=h->h<A.length+U.length+V.length->(A++U++V++C).getD h default=V.getD (h - (A.length+U.length)) default:=λh h1 h2=>by
  grind
 have X:i64.wrap (lp .u64 (u64.wrap (i64.wrap ((A.length:Int)+((A.length+U.length+V.length:Nat):Int)))) 1)=((A.length+(U.length+V.length) / 2:Nat):Int):=by
  rw[Rc (by omega) (by omega)];omega
 generalize hmd:A.length+(U.length+V.length) / 2=mid at *;have hn:i64.wrap ((mid:Int)+((A.length+U.length:Nat):Int))=((mid+(A.length+U.length):Nat):Int):=by grind [aA]
 have hp1:i64.wrap (((mid+(A.length+U.length):Nat):Int) - 1)=((mid+(A.length+U.length) - 1:Nat):Int):=by grind [aA]
 have w1:i64.wrap (((A.length+U.length:Nat):Int) - (A.length:Int))=(U.length:Int):=by grind [aA]
 have w2:i64.wrap (((A.length+U.length+V.length:Nat):Int) - ((A.length+U.length:Nat):Int))=(V.length:Int):=by grind [aA]
 have b1:((U.length:Int) ==1)=false:=by simp;omega
 have b2:((V.length:Int) ==1)=false:=by simp;omega
 obtain⟨lo,elo,hlo⟩:∃ lo:Nat,(bif decide (((A.length+U.length:Nat):Int) > (mid:Int))then i64.wrap (((mid+(A.length+U.length):Nat):Int) - ((A.length+U.length+V.length:Nat):Int))else(A.length:Int))=(lo:Int)/\((mid<A.length+U.length/\lo+V.length=mid)\/(A.length+U.length<=mid/\lo=A.length)):=by
  by_cases h:mid<A.length+U.length
  refine⟨mid - V.length,?_,.inl ⟨h,by omega⟩⟩;rw[decide_eq_true (by omega),cond_true,aA (by omega) (by omega)];omega;grind
 obtain⟨hi,ehi,hhi⟩:∃ hi:Nat,(bif decide (((A.length+U.length:Nat):Int) > (mid:Int))then(mid:Int)else((A.length+U.length:Nat):Int))=(hi:Int)/\((mid<A.length+U.length/\hi=mid)\/(A.length+U.length<=mid/\hi=A.length+U.length)):=by
  grind
 have s:=Py (step:=xQ (A.length:Int) ((A.length+U.length:Nat):Int) ((A.length+U.length+V.length:Nat):Int) (A++U++V++C)) (p:=sh (A.length:Int) ((A.length+U.length:Nat):Int) ((A.length+U.length+V.length:Nat):Int) (A++U++V++C)) (λc=>!decide ((V.getD (mid - 1 - c) default).at_< (U.getD (c - A.length) default).at_)) lo hi (by omega)
  (λi j h1 h2 h3 h4=>by
   have q1:=qW hU (i:=i - A.length) (j:=j - A.length) (by omega) (by omega);have q2:=qW hV (i:=mid - 1 - j) (j:=mid - 1 - i) (by omega) (by omega);grind)
  (λk i j h1 h2 h3=>by
   have e:decide ((i:Int) < (j:Int))=true:=by grind
   have hc:i64.wrap (((mid+(A.length+U.length) - 1:Nat):Int) - (((i+j) / 2:Nat):Int))=((mid+(A.length+U.length) - 1 - (i+j) / 2:Nat):Int):=by grind [aA]
   have e2:mid+(A.length+U.length) - 1 - (i+j) / 2 - (A.length+U.length)=mid - 1 - (i+j) / 2:=by omega
   unfold sh xQ;simp only[X,hn,hp1,Rc (i:=i) (j:=j) (by omega) (by omega),e,cond_true,hc,alI,gU ((i+j) / 2) (by omega) (by omega),gV (mid+(A.length+U.length) - 1 - (i+j) / 2) (by omega) (by omega),e2,Rb,hL];grind [aA])
  (λk i=>by
   simp_all [sh,xQ]) ((A++U++V++C).length+1) 0 (by omega)
 obtain⟨s1,r,s2,q,rfl,q1,q2,q3,q4⟩:=s;have Y:i64.wrap (((mid+(A.length+U.length):Nat):Int) - (q:Int))=((mid+(A.length+U.length) - q:Nat):Int):=by grind [aA]
 have hUs:U.take (q - A.length)++U.drop (q - A.length)=U:=amG _ _;have hVs:V.take (mid - q)++V.drop (mid - q)=V:=amG _ _;have lU1:(U.take (q - A.length)).length=q - A.length:=by rw[amT];omega
 have lU2:(U.drop (q - A.length)).length=A.length+U.length - q:=by rw[amQ];omega
 have lV1:(V.take (mid - q)).length=mid - q:=by rw[amT];omega
 have lV2:(V.drop (mid - q)).length=V.length+q - mid:=by rw[amQ];omega
 have k1:∀ x∈U.take (q - A.length),∀ y∈V.drop (mid - q),x.at_<=y.at_:=λx hx y hy=>by
  obtain⟨i,i1,i2,rfl⟩:=Av hx;obtain⟨j,j1,j2,rfl⟩:=Aw hy;have:=q3 (q - 1) (by omega) (by omega);have p1:=qW hU (i:=i) (j:=q - 1 - A.length) (by omega) (by omega);have p2:=qW hV (i:=mid - 1 - (q - 1)) (j:=j) (by omega) (by omega);grind
 have k2:∀ x∈U.drop (q - A.length),∀ y∈V.take (mid - q),y.at_<x.at_:=λx hx y hy=>by
  obtain⟨i,i1,i2,rfl⟩:=Aw hx;obtain⟨j,j1,j2,rfl⟩:=Av hy;have:=q4 q (by omega) (by omega);have p1:=qW hU (i:=q - A.length) (j:=i) (by omega) (by omega);have p2:=qW hV (i:=j) (j:=mid - 1 - q) (by omega) (by omega);grind
 generalize hE1:U.take (q - A.length)=U1 at *;generalize hE2:U.drop (q - A.length)=U2 at *;generalize hE3:V.take (mid - q)=V1 at *;generalize hE4:V.drop (mid - q)=V2 at *;have lenU:U.length=U1.length+U2.length:=by grind
 have lenV:V.length=V1.length+V2.length:=by omega
 have hlist:A++U++V++C=A++U1++U2++V1++(V2++C):=by grind
 obtain⟨sU1,sU2,sU⟩:=DU (by grind:Srt (U1++U2));obtain⟨sV1,sV2,sV⟩:=DU (by grind:Srt (V1++V2));have hrot:(decide ((q:Int) < ((A.length+U.length:Nat):Int))&&decide (((A.length+U.length:Nat):Int) < ((mid+(A.length+U.length) - q:Nat):Int)))=true->bO (q:Int) ((A.length+U.length:Nat):Int) ((mid+(A.length+U.length) - q:Nat):Int) (A++U++V++C)/\aF (q:Int) ((A.length+U.length:Nat):Int) ((mid+(A.length+U.length) - q:Nat):Int) (A++U++V++C)=A++U1++V1++(U2++V2++C):=λh=>by
  simp only[alG,decide_eq_true_eq]at h;have:=SX (A++U1) U2 V1 (V2++C) (by grind) (by rw[<-amq];omega) (by grind);have e1:(((A++U1).length:Nat):Int)=(q:Int):=by grind
  have e2:(((A++U1).length+U2.length:Nat):Int)=((A.length+U.length:Nat):Int):=by omega
  have e3:(((A++U1).length+U2.length+V1.length:Nat):Int)=((mid+(A.length+U.length) - q:Nat):Int):=by omega
  grind
 have hl1:(bif(decide ((q:Int) < ((A.length+U.length:Nat):Int))&&decide (((A.length+U.length:Nat):Int) < ((mid+(A.length+U.length) - q:Nat):Int)))then aF (q:Int) ((A.length+U.length:Nat):Int) ((mid+(A.length+U.length) - q:Nat):Int) (A++U++V++C)else A++U++V++C)=A++U1++V1++(U2++V2++C):=by
  cases hc:(decide ((q:Int) < ((A.length+U.length:Nat):Int))&&decide (((A.length+U.length:Nat):Int) < ((mid+(A.length+U.length) - q:Nat):Int)))with
  |true=>grind
  |false=>
   rw[cond_false,hlist];simp only[amH,decide_eq_false_iff_not]at hc;have:U2=[]\/V1=[]:=by
    rcases hc with hc|hc;exact .inl (al1 (by omega));exact .inr (al1 (by omega))
   rcases this with rfl|rfl <;>simp
 obtain⟨W,hM1p,hM1,f1,t1,l1⟩:∃ W,((decide ((A.length:Int) < (q:Int))&&decide ((q:Int) < (mid:Int)))=true->E (A.length:Int) (q:Int) (mid:Int) (A++U1++V1++(U2++V2++C)))/\(bif(decide ((A.length:Int) < (q:Int))&&decide ((q:Int) < (mid:Int)))then O (A.length:Int) (q:Int) (mid:Int) (A++U1++V1++(U2++V2++C))else A++U1++V1++(U2++V2++C))=A++W++(U2++V2++C)/\Y1 (U1++V1) W/\Srt W/\W.length=U1.length+V1.length:=by
  cases hc:(decide ((A.length:Int) < (q:Int))&&decide ((q:Int) < (mid:Int)))with
  |true=>
   simp only[alG,decide_eq_true_eq]at hc;obtain⟨h1,W,h2,h3,h4,h5⟩:=hr A U1 V1 (U2++V2++C) (by grind) (by grind) (by omega) (by grind) sU1 sV1;grind
  |false=>
   simp only[amH,decide_eq_false_iff_not]at hc;refine⟨U1++V1,(λh=>by cases h),by simp,Y1.refl _,?_,alN⟩;have:U1=[]\/V1=[]:=by
    rcases hc with hc|hc;exact .inl (al1 (by omega));exact .inr (al1 (by omega))
   rcases this with rfl|rfl <;>grind
 obtain⟨M2,hM2p,hM2,f2,t2,l2⟩:∃ M2,((decide ((mid:Int) < ((mid+(A.length+U.length) - q:Nat):Int))&&decide (((mid+(A.length+U.length) - q:Nat):Int) < ((A.length+U.length+V.length:Nat):Int)))=true->E (mid:Int) ((mid+(A.length+U.length) - q:Nat):Int) ((A.length+U.length+V.length:Nat):Int) (A++W++(U2++V2++C)))/\(bif(decide ((mid:Int) < ((mid+(A.length+U.length) - q:Nat):Int))&&decide (((mid+(A.length+U.length) - q:Nat):Int) < ((A.length+U.length+V.length:Nat):Int)))then O (mid:Int) ((mid+(A.length+U.length) - q:Nat):Int) ((A.length+U.length+V.length:Nat):Int) (A++W++(U2++V2++C))else A++W++(U2++V2++C))=A++W++M2++C/\Y1 (U2++V2) M2/\Srt M2/\M2.length=U2.length+V2.length:=by
  cases hc:(decide ((mid:Int) < ((mid+(A.length+U.length) - q:Nat):Int))&&decide (((mid+(A.length+U.length) - q:Nat):Int) < ((A.length+U.length+V.length:Nat):Int)))with
  |true=>
   simp only[alG,decide_eq_true_eq]at hc;obtain⟨h1,M2,h2,h3,h4,h5⟩:=hr (A++W) U2 V2 C (by rw[<-amq];omega) (by rw[<-amq];omega) (by omega) (by grind) sU2 sV2;have e0:(((A++W).length:Nat):Int)=(mid:Int):=by rw[alN];omega
   have e1:(((A++W).length+U2.length:Nat):Int)=((mid+(A.length+U.length) - q:Nat):Int):=by omega
   grind
  |false=>
   simp only[amH,decide_eq_false_iff_not]at hc;refine⟨U2++V2,(λh=>by cases h),by simp,Y1.refl _,?_,alN⟩;have:U2=[]\/V2=[]:=by
    rcases hc with hc|hc;exact .inl (al1 (by omega));exact .inr (al1 (by omega))
   rcases this with rfl|rfl <;>grind
 unfold vA Ky;simp only[w1,w2,b1,b2,X,hn,elo,ehi,s2,Y,cond_false];refine⟨⟨(λh=>by cases h),λ_=>⟨(λh=>by cases h),λ_=>⟨s1,(λz h=>by cases h),λz hz=>?_⟩⟩⟩,W++M2,?_,?_,?_,?_⟩;cases hz;simp only[Y];exact ada (λl=>O (A.length:Int) (q:Int) (mid:Int) l) (λl=>E (A.length:Int) (q:Int) (mid:Int) l) (λl=>E (mid:Int) ((mid+(A.length+U.length) - q:Nat):Int) ((A.length+U.length+V.length:Nat):Int) l) (λh=>(hrot h).1) (λh=>by grind) (λh=>by rw[hl1];grind);refine(ahW (λl=>O (A.length:Int) (q:Int) (mid:Int) l) (λl=>O (mid:Int) ((mid+(A.length+U.length) - q:Nat):Int) ((A.length+U.length+V.length:Nat):Int) l)).trans ?_;rw[hl1];simp only[hM1];grind
 ·have h0:Y1 (U2++V1) (V1++U2):=Y1.swap λa ha b hb=>by grind
  have h1:Y1 (U++V) (U1++V1++(U2++V2)):=by
   rw[<-hUs,<-hVs];have:=((Y1.refl U1).app h0).app (Y1.refl V2);grind
  exact h1.trans (f1.app f2)
 refine BP t1 t2 λx hx y hy=>?_;have hx:=f1.symm.mem hx;have hy:=f2.symm.mem hy;rcases amj.1 hx with hx|hx <;>rcases amj.1 hy with hy|hy <;>grind;grind
theorem Nc:∀ n,aaA n (qg n).1 (qg n).2
 |0=>λA U V C E W h=>absurd (amq.2 E) (by omega)
 |n+1=>λA U V C E W hN O X Y=>by
  have pU:=amq.2 E;have pV:=amq.2 W;by_cases h1:U.length=1
  obtain⟨x,rfl⟩:=aoz.1 h1;exact PA _ _ A V C x O Y;by_cases h2:V.length=1
  obtain⟨x,rfl⟩:=aoz.1 h2;exact Nb _ _ A U C x (by omega) O X;exact PB (Nc n) A U V C (by omega) (by omega) hN O X Y
theorem Wa (A U V C:List bh)(E:U≠[])(W:V≠[])(O:(A++U++V++C).length<2 ^ 60)(Y:Srt U)(X:Srt V):
  cD (A.length:Int) ((A.length+U.length:Nat):Int) ((A.length+U.length+V.length:Nat):Int) (A++U++V++C)/\
  ∃ M,cX (A.length:Int) ((A.length+U.length:Nat):Int) ((A.length+U.length+V.length:Nat):Int) (A++U++V++C)=A++M++C/\Y1 (U++V) M/\Srt M/\M.length=U.length+V.length:=
 Nc ((A++U++V++C).length+1) A U V C E W (by grind) O Y X
inductive Blk (n:Nat):List bh->Prop
 |last {l:List bh}:l.length<=n->Srt l->Blk n l
 |cons {b l:List bh}:b.length=n->Srt b->Blk n l->Blk n (b++l)
inductive Full (n:Nat):List bh->Prop
 |nil:Full n []
 |snoc {l b:List bh}:Full n l->b.length=n->Srt b->Full n (l++b)
theorem Full.app(h:Full n a):∀ {l:List bh},Blk n l->Blk n (a++l):=by
 induction h with
 |nil=>grind
 |snoc _ E U O=>exact λh=>by rw[amt];exact O (.cons E U h)
theorem Blk.srt(h:Blk n l)(O:l.length<=n):Srt l:=by
 cases h with
 |last _ E=>exact E
 | @cons b r U E h=>
  rw[alN]at O;have:=al1 (show r.length=0 by omega);grind
theorem Blk.split(h:Blk n l)(U:n<=l.length):∃ b r,l=b++r/\b.length=n/\Srt b/\Blk n r:=by
 cases h with
 |last h1 E=>exact⟨l,[],by simp,by omega,E,.last (ame _) List.Pairwise.nil⟩
 |cons O E h=>grind
theorem uV{b:List bh}(h:Y1 a b):a.length=b.length:=by
 have e:∀ {l:List bh},stS l=l\/True:=λ{_} =>.inr trivial;have h1:∀ l:List bh,(stS l).length=l.length:=λl=>by
  induction l with
  |nil=>rfl
  |cons x r O=>
   have:∀ l:List bh,(stI x l).length=l.length+1:=λl=>by
    induction l with
    |nil=>rfl
    |cons y l E=>
     unfold stI;grind
   show(stI x (stS r)).length=_;grind
 rw[<-h1 a,<-h1 b,zo (h.trans (xn b)) (KL b)]
theorem I2 (l:List bh)(hl:l.length<2 ^ 58):cd (l.length:Int) l/\cF (l.length:Int) l=stS l:=by
 obtain⟨k1,r,k2,D,R,rfl,k3,k4,k5,k6⟩:okI (bM (l.length:Int)) (dc (l.length:Int)) (Int.toNat (l.length:Int)+1) 0 (l,0,20)/\∃ r,aj (bM (l.length:Int)) (Int.toNat (l.length:Int)+1) 0 (l,0,20)=.inl r/\∃ D R,r=(((D.length:Nat):Int),D++R)/\Full 20 D/\Y1 l (D++R)/\R.length<20/\l.length=D.length+R.length:=by
  refine yp (λs:List bh×Int×Int=>((l.length:Int) - s.2.1).toNat) (λs:List bh×Int×Int=>∃ D R,s=(D++R,((D.length:Nat):Int),((D.length+20:Nat):Int))/\Full 20 D/\Y1 l (D++R)/\l.length=D.length+R.length) _ ?_ _ _ _ ⟨[],l,rfl,.nil,Y1.refl _,by simp⟩ (by grind);rintro k s ⟨D,R,rfl,hD,W,E⟩;unfold dc bM;by_cases h:20<=R.length
  have e:decide (((D.length+20:Nat):Int)<=(l.length:Int))=true:=by grind
  have hRs:R.take 20++R.drop 20=R:=amG _ _;have hRt:(R.take 20).length=20:=by grind
  have hRd:(R.drop 20).length=R.length - 20:=amQ;have hi:=I1 D (R.take 20) (R.drop 20) (by grind);rw[amt D,hRs,hRt]at hi;obtain⟨i1,M,V,U,X⟩:=hi;have hM:=uV U;have w:i64.wrap (((D.length+20:Nat):Int)+20)=(((D++M).length+20:Nat):Int):=by grind [aA]
  simp only[e,cond_true,w];refine⟨λ_=>i1,.inr ⟨_,rfl,by grind,D++M,R.drop 20,?_,hD.snoc (by omega) X,?_,by grind⟩⟩;grind
  refine W.trans ?_;have:=((Y1.refl D).app (U.app (Y1.refl (R.drop 20))));grind
  grind
 have hi:=I1 D R [] (by grind);have eN:((D.length+R.length:Nat):Int)=(l.length:Int):=by omega
 rw[al3,eN]at hi;obtain⟨i1,M,V,U,X⟩:=hi;rw[al3]at V;have hM:=uV U;have hB0:Blk 20 (D++M):=k3.app (.last (by omega) X);have hF0:Y1 l (D++M):=k4.trans ((Y1.refl D).app U);obtain⟨m1,r,m2,m3,m4⟩:okI (bZ (l.length:Int)) (ct (l.length:Int)) (Int.toNat (l.length:Int)+1) 0 (D++M,20)/\∃ r,aj (bZ (l.length:Int)) (Int.toNat (l.length:Int)+1) 0 (D++M,20)=.inl r/\Y1 l r/\Srt r:=by
  refine yp (λs:List bh×Int=>((l.length:Int) - s.2).toNat) (λs:List bh×Int=>∃ (L:List bh) (n:Nat),s=(L,(n:Int))/\20<=n/\n<2 ^ 59/\Blk n L/\Y1 l L) _ ?_ _ _ _ ⟨D++M,20,rfl,alJ _,by omega,hB0,hF0⟩ (by omega);rintro k s ⟨L,n,rfl,hn,hn2,hB,W⟩;have hLl:=uV W;by_cases h:n<l.length
  have e:decide ((n:Int) < (l.length:Int))=true:=by grind
  have w2:i64.wrap (2*(n:Int))=((2*n:Nat):Int):=by grind [aA]
  have w2':i64.wrap ((n:Int)*2)=((2*n:Nat):Int):=by grind
  obtain⟨p1,r,p2,D,R,rfl,p3,p4,p5,p6,p7⟩:okI (cL (l.length:Int) (L,(n:Int))) (df (l.length:Int) (L,(n:Int))) (Int.toNat (l.length:Int)+1) 0 (L,0,((2*n:Nat):Int))/\∃ r,aj (cL (l.length:Int) (L,(n:Int))) (Int.toNat (l.length:Int)+1) 0 (L,0,((2*n:Nat):Int))=.inl r/\∃ D R,r=(((D.length:Nat):Int),D++R)/\Full (2*n) D/\Blk n R/\Y1 l (D++R)/\R.length<2*n/\l.length=D.length+R.length:=by
   refine yp (λs:List bh×Int×Int=>((l.length:Int) - s.2.1).toNat) (λs:List bh×Int×Int=>∃ D R,s=(D++R,((D.length:Nat):Int),((D.length+2*n:Nat):Int))/\Full (2*n) D/\Blk n R/\Y1 l (D++R)/\l.length=D.length+R.length) _ ?_ _ _ _ ⟨[],L,by simp,.nil,hB,W,by grind⟩ (by grind);rintro k s ⟨D,R,rfl,hD,hR,W,E⟩;unfold df cL;by_cases h:2*n<=R.length
   have e:decide (((D.length+2*n:Nat):Int)<=(l.length:Int))=true:=by grind
   obtain⟨O,R1,rfl,b1,b2,b3⟩:=hR.split (by omega);rw[alN]at h E;obtain⟨B2,Y,rfl,c1,c2,c3⟩:=b3.split (by omega);rw[alN]at h E;obtain⟨i1,M,V,U,X,i5⟩:=Wa D O B2 Y (by grind) (by grind) (by grind) b2 c2;have e0:D++O++B2++Y=D++(O++(B2++Y)):=by simp
   have e1:((D.length+O.length+B2.length:Nat):Int)=((D.length+2*n:Nat):Int):=by omega
   have e2:i64.wrap ((D.length:Int)+(n:Int))=((D.length+O.length:Nat):Int):=by grind [aA]
   rw[e0,e1]at i1 V;have w:i64.wrap (((D.length+2*n:Nat):Int)+((2*n:Nat):Int))=(((D++M).length+2*n:Nat):Int):=by grind [aA]
   simp only[e,cond_true,e2,w2,w];refine⟨λ_=>i1,.inr ⟨_,rfl,by grind,D++M,Y,?_,hD.snoc (by omega) X,c3,?_,by grind⟩⟩;grind
   refine W.trans ?_;have:=(Y1.refl D).app (U.app (Y1.refl Y));grind
   grind
  have wm:i64.wrap ((D.length:Int)+(n:Int))=((D.length+n:Nat):Int):=by grind [aA]
  unfold ct bZ;simp only[e,cond_true,w2,w2',p2,wm];by_cases hm:n<R.length
  have em:decide (((D.length+n:Nat):Int) < (l.length:Int))=true:=by grind
  obtain⟨O,R1,rfl,b1,b2,b3⟩:=p4.split (by omega);rw[alN]at hm p6 p7;have b4:=b3.srt (by omega);obtain⟨i1,M,V,U,X,i5⟩:=Wa D O R1 [] (by grind) (by grind) (by grind) b2 b4;have e0:D++O++R1++[]=D++(O++R1):=by simp
  have e1:((D.length+O.length+R1.length:Nat):Int)=(l.length:Int):=by omega
  have e2:((D.length+O.length:Nat):Int)=((D.length+n:Nat):Int):=by omega
  rw[e0,e1,e2]at i1 V;rw[al3]at V;refine⟨λ_=>⟨p1,(λz h=>by cases h),λx hx=>by grind⟩,.inr ⟨(D++M,((2*n:Nat):Int)),by grind,by omega,D++M,2*n,rfl,by omega,by omega,p3.app (.last (by omega) X),p5.trans ((Y1.refl D).app U)⟩⟩;have em:decide (((D.length+n:Nat):Int) < (l.length:Int))=false:=by grind
  refine⟨λ_=>⟨p1,(λz h=>by cases h),λx hx=>by grind⟩,.inr ⟨(D++R,((2*n:Nat):Int)),by grind,by omega,D++R,2*n,rfl,by omega,by omega,p3.app (.last (by omega) (p4.srt (by omega))),p5⟩⟩;have e:decide ((n:Int) < (l.length:Int))=false:=by grind
  unfold ct bZ;simp only[e,cond_false];exact⟨(λh=>by cases h),.inl ⟨_,rfl,W,hB.srt (by omega)⟩⟩
 unfold cd cF;rw[k2];simp only[V,m2];exact⟨⟨k1,(λz h=>by cases h),λx hx=>by grind⟩,zo m3 m4⟩
def Nd (l:List bh)(E:l.length<2 ^ 58):bK l/\bT l=stS l:=⟨λ_=>(I2 l E).1,(I2 l E).2⟩
theorem Nf:∀ (l:List bh) (n:Int),wE .int .u0 (uU l) n=l.any λy=>y.no==n:=λl n=>by
 have:∀ (r:List bh),wE .int .u0 (uU r.reverse) n=r.reverse.any λy=>y.no==n:=λr=>by
  induction r with
  |nil=>rfl
  |cons x r E=>
   rw[List.reverse_cons,xU,SS,E,List.any_append];grind
 simpa using this l.reverse
theorem FP(h:Asc l)(hy:y∈l):aL .int .u0 (uU l) y.no=y:=by
 have:∀ (r:List bh),Asc r.reverse->∀ y∈r,aL .int .u0 (uU r.reverse) y.no=y:=λr=>by
  induction r with
  |nil=>simp
  |cons x r O=>
   intro E y hy;rw[List.reverse_cons]at E |-;obtain⟨a1,_,U⟩:=al8.1 E;rw[xU,og];rcases alV.1 hy with rfl|hy;grind
   have:=U y (by grind) x (by simp);rw[if_neg (show ¬y.no=x.no by omega)];exact O a1 y hy
 simpa using this l.reverse (by simpa using h) y (by grind)
structure Fit (d:ah)(x:bh):Prop where
 no0:0<=x.no
 no1:x.no<=1048576
 at0:0<=x.at_
 at1:x.at_<=4096
 kn0:0<=x.known
 kn1:x.known<=1048576
 kind:x.kind=1\/x.kind=2\/x.kind=3\/x.kind=4
 held:x.kind≠4->0<=x.right/\x.right< (d.ai.length:Int)/\(d.ai.getD (Int.toNat x.right) default).kind=1/\0<=x.since/\x.since< (d.l5.length:Int)
 pass:x.kind=1->0<=x.to/\x.to< (d.l5.length:Int)/\x.to≠x.since
 split:x.kind=2->aqb d x.parts
theorem Wb{m:List (Int×bh)}(hf:d.l5.length<=600)(hr:d.ai.length<=256)(h:dp d m x=true):Fit d x/\(x.kind=4->wE .int .u0 m x.of_=true/\(aL .int .u0 m x.of_).kind≠4/\(aL .int .u0 m x.of_).known<=x.known):=by
 unfold dp at h;cases h0:((((!(aP x.no 0 1048576)) ||(!(aP x.at_ 0 4096))) ||(!(aP x.known 0 1048576))) ||(!(kM x)))with
 |true=>grind
 |false=>
  rw[h0]at h;simp only[amf,anb]at h0;obtain⟨⟨⟨a1,V⟩,U⟩,a4⟩:=h0;rw[vG]at a1 V U;simp only[cond_false]at h;by_cases k1:x.kind=1
  rw[show(x.kind==1)=true by simp[k1]]at h;simp only[cond_true,alG,beq_iff_eq,bne_iff_ne]at h;obtain⟨⟨⟨⟨E,W⟩,O⟩,X⟩,b5⟩:=h;rw[zn _ (by omega)]at E O X;exact⟨⟨a1.1,a1.2,V.1,V.2,U.1,U.2,.inl k1,λ_=>⟨E.1,E.2,W,O.1,O.2⟩,λ_=>⟨X.1,X.2,b5⟩,λe=>by omega⟩,λe=>by omega⟩;rw[show(x.kind==1)=false by grind]at h;by_cases k2:x.kind=2
  rw[show(x.kind==2)=true by simp[k2]]at h;simp only[cond_true,cond_false,alG,beq_iff_eq]at h;obtain⟨⟨⟨E,W⟩,O⟩,X⟩:=h;rw[zn _ (by omega)]at E O;exact⟨⟨a1.1,a1.2,V.1,V.2,U.1,U.2,.inr (.inl k2),λ_=>⟨E.1,E.2,W,O.1,O.2⟩,λe=>by omega,λ_=>V8 hf X⟩,λe=>by omega⟩;rw[show(x.kind==2)=false by grind]at h;by_cases k3:x.kind=3
  rw[show(x.kind==3)=true by simp[k3]]at h;simp only[cond_true,cond_false,alG,beq_iff_eq]at h;obtain⟨⟨E,W⟩,O⟩:=h;rw[zn _ (by omega)]at E O;exact⟨⟨a1.1,a1.2,V.1,V.2,U.1,U.2,.inr (.inr (.inl k3)),λ_=>⟨E.1,E.2,W,O.1,O.2⟩,λe=>by omega,λe=>by omega⟩,λe=>by omega⟩;rw[show(x.kind==3)=false by grind]at h;by_cases Y:x.kind=4
  rw[show(x.kind==4)=true by simp[Y]]at h;simp only[cond_true,cond_false,alG,bne_iff_ne,decide_eq_true_eq]at h;obtain⟨⟨E,W⟩,O⟩:=h;exact⟨⟨a1.1,a1.2,V.1,V.2,U.1,U.2,.inr (.inr (.inr Y)),λe=>absurd Y e,λe=>by omega,λe=>by omega⟩,λ_=>⟨E,W,O⟩⟩;grind
structure aqW (d:ah)(l:List bh):Prop where
 right:aps d
 len:l.length<=512
 asc:Asc l
 fit:∀ x∈l,Fit d x
 void:∀ x∈l,x.kind=4->∃ y∈l,y.no=x.of_/\y.kind≠4/\y.known<=x.known/\y.no<x.no
theorem Rf {d:ah}:∀ {r b:List bh},Chk d b r->∀ x∈r,∃ E,(∃ t,b++r=E++x::t)/\dp d (uU E) x=true
 | [],_,_,x,hx=>by cases hx
 |y::r,b,⟨h1,h2,O⟩,x,hx=>by
  rcases alV.1 hx with rfl|hx;grind
  obtain⟨E,⟨t,e⟩,h⟩:=Rf O x hx;grind
theorem sR(h:a8 d l=0):aqW d l:=by
 obtain⟨h1,h2,_,h4⟩:=(xV d l).1 h;have U:=jt (d:=d) (by rw[h1];rfl);have O:=Chk.asc List.Pairwise.nil h4;rw[alR]at O;have Y:∀ x∈l,∃ X,(∃ t,l=X++x::t)/\dp d (uU X) x=true:=λx E=>by
  have:=Rf h4 x E;grind
 refine⟨U,h2,O,λx E=>?_,λx E hk=>?_⟩;obtain⟨b,_,h⟩:=Y x E;exact(Wb U.l5 U.ai h).1;obtain⟨b,⟨t,e⟩,h⟩:=Y x E;obtain⟨q1,q2,q3⟩:=(Wb U.l5 U.ai h).2 hk;rw[Nf,amx]at q1;obtain⟨y,hy,W⟩:=q1;have W:y.no=x.of_:=by grind
 rw[e]at O;have V:Asc b:=(al8.1 O).1;rw[<-W,FP V hy]at q2 q3;exact⟨y,by grind,W,q2,q3,(al8.1 O).2.2 y hy x al4⟩
def pN (l:List bh)(known n:Int):Bool:=l.any λv=>v.kind==4&&decide (v.known<=known)&&v.of_==n
def Ax (l:List bh)(hour known:Int):List bh:=l.filter λx=>!((((x.kind==4) ||(decide (x.known > known))) ||(decide (x.at_ > hour))) ||pN l known x.no)
theorem Wc (l:List bh)(known:Int):∃ m,aj (fG l known) l.length 0 []=.inr m/\∀ n,aL .int .bool m n=pN l known n:=by
 obtain⟨r,h1,h2⟩:=la (step:=fG l known) (λk m=>∀ n,aL .int .bool m n=pN (l.take k) known n) l.length 0 ([]:List (Int×Bool)) (λn=>by rfl) (λj s _ O E=>by
  rw[alQ]at O;unfold fG;rw[b9 l default O];cases hc:(((l.getD j (default:bh)).kind==4)&&(decide ((l.getD j (default:bh)).known<=known)))with
  |true=>
   refine⟨_,rfl,λn=>?_⟩;rw[og];unfold pN at E |-;grind
  |false=>
   refine⟨_,rfl,λn=>?_⟩;rw[E];unfold pN;grind)
 grind
theorem Wd (K G:List bh):((wF .u0 (K++G) (K.length:Int) ((K++G).length:Int)).take K.length)=K:=by
 grind [wF]
theorem xp{step:Nat->Unit->Int⊕Unit}(l:List α)(d:α)(P:α->Bool)(h:∀ k,k<l.length->step k ()=bif P (l.getD k d)then .inl (k:Int)else .inr ()):(aj step l.length 0 ()=.inr ()/\∀ x∈l,P x=false)\/∃ K x R,l=K++x::R/\aj step l.length 0 ()=.inl (K.length:Int)/\P x=true/\∀ y∈K,P y=false:=by
 have key:∀ (R K:List α),l=K++R->(∀ y∈K,P y=false)->(aj step R.length K.length ()=.inr ()/\∀ x∈l,P x=false)\/∃ E x W,l=E++x::W/\aj step R.length K.length ()=.inl (E.length:Int)/\P x=true/\∀ y∈E,P y=false:=λR=>by
  induction R with
  |nil=>exact λK h O=>.inl ⟨rfl,λx V=>O x (by grind)⟩
  |cons x R X=>
   intro K U O;have e:=h K.length (by rw[U];simp);have g:l.getD K.length d=x:=by grind
   rw[g]at e;simp only[alL,aj,e];cases V:P x with
   |true=>grind
   |false=>
    simp only[cond_false];have:=X (K++[x]) (by rw[U];simp) (λy hy=>by
     grind)
    simp_all
 exact key l [] rfl (by simp)
theorem SY (l:List bh)(known hour:Int)(v:List (Int×Bool))(hl:l.length<2 ^ 47):bE l known hour v/\br l known hour v=l.filter λx=>!bj x known hour v:=by
 have hI:(aX l known hour v= -1/\∀ x∈l,bj x known hour v=false)\/∃ K x R,l=K++x::R/\aX l known hour v=(K.length:Int)/\bj x known hour v=true/\∀ y∈K,bj y known hour v=false:=by
  unfold aX;rcases xp (step:=eH l known hour v) l default (λx=>bj x known hour v) (λk _=>rfl)with⟨e,h⟩ | ⟨K,x,R,h1,e,h2,h3⟩ <;>grind
 unfold bE br;rcases hI with⟨e,h⟩ | ⟨K,x,R,hl0,e,h2,h3⟩;rw[e];refine⟨(λh=>by cases h),?_⟩;simp only[BEq.rfl,cond_true];exact(an7.2 λx hx=>by grind).symm;have b:((K.length:Int) == -1)=false:=by rfl
 have Y:l.length=K.length+(R.length+1):=by grind
 have w:i64.wrap ((K.length:Int)+1)=((K.length+1:Nat):Int):=by grind [aA]
 rw[e,w];simp only[b,cond_false];obtain⟨k1,r,k2,E,O,rfl,k3⟩:okI (bW l known hour v) (cj l known hour v) (l.length+1) 0 (l,(K.length:Int),((K.length+1:Nat):Int))/\∃ r,aj (bW l known hour v) (l.length+1) 0 (l,(K.length:Int),((K.length+1:Nat):Int))=.inl r/\∃ E O,r=((E.length:Int),E++O)/\E=l.filter λx=>!bj x known hour v:=by
  refine yp (λs:List bh×Int×Int=>((l.length:Int) - s.2.2).toNat) (λs:List bh×Int×Int=>∃ E g O U,s=(E++g::(O++U),(E.length:Int),((E.length+(O.length+1):Nat):Int))/\E.length+(O.length+1)+U.length=l.length/\(l.filter λx=>!bj x known hour v)=E++U.filter λx=>!bj x known hour v) _ ?_ _ _ _ ⟨K,x,[],R,by grind,by grind,?_⟩ (by grind);rintro k s ⟨E,g,O,U,rfl,hn,hF⟩;have hL:(E++g::(O++U)).length=l.length:=by grind
  unfold cj bW;simp only[hL];cases U with
  |nil=>
   grind
  |cons y U=>
   simp only[alL]at hn;have e1:decide (((E.length+(O.length+1):Nat):Int) < (l.length:Int))=true:=by grind
   have gy:(E++g::(O++y::U)).getD (E.length+(O.length+1)) default=y:=by
    grind
   have w1:i64.wrap (((E.length+(O.length+1):Nat):Int)+1)=((E.length+(O.length+1)+1:Nat):Int):=by grind [aA]
   have w2:i64.wrap ((E.length:Int)+1)=((E.length+1:Nat):Int):=by grind [aA]
   simp only[e1,cond_true,alI,gy,w1,w2];refine⟨λ_ _=>⟨by omega,λ_=>by omega⟩,.inr ?_⟩;cases hy:bj y known hour v with
   |false=>
    obtain⟨W,V,hG⟩:∃ W V,O++[y]=W::V:=by
     cases O <;>grind
    have hGl:O.length+1=V.length+1:=by have:=congrArg List.length hG;grind
    refine⟨_,rfl,by grind,E++[y],W,V,U,?_,?_,?_⟩;rw[KJ E g y _ rfl];grind [Prod.mk.injEq]
    grind
    grind
   |true=>
    refine⟨_,rfl,by simp only;omega,E,g,O++[y],U,?_,by rw[alN];simp only[alL,alS];omega,?_⟩ <;>grind
  simp_all
 refine⟨λ_=>⟨k1,Na (Q:=λ_=>True) ⟨_,k2,trivial⟩,λz X=>?_⟩,?_⟩;rw[k2]at X;cases X;have:(wF .u0 (E++O) (E.length:Int) ((E++O).length:Int)).length=(E++O).length:=by
  grind [wF]
 grind
 grind [Wd]
theorem Ng (l:List bh)(hour known:Int)(hl:l.length<=512):io l hour known/\eC l hour known=stS (Ax l hour known):=by
 obtain⟨m,e,Y⟩:=Wc l known;have X:∀ x,bj x known hour m=((((x.kind==4) ||(decide (x.known > known))) ||(decide (x.at_ > hour))) ||pN l known x.no):=λx=>by
  grind [bj]
 obtain⟨W,U⟩:=SY l known hour m (by omega);have O:(l.filter λx=>!bj x known hour m)=Ax l hour known:=by grind [Ax]
 rw[O]at U;have E:(Ax l hour known).length<=l.length:=amv _ _;obtain⟨s1,V⟩:=Nd (Ax l hour known) (by omega);grind [io,eC,dI]
theorem xX (l:List bh):aW l=l:=by
 obtain⟨r,h1,h2⟩:=la (step:=cV l) (λk s=>s=l.take k) l.length 0 ([]:List bh) (by simp) (λj s _ O E=>⟨_,rfl,by simp_all⟩);simp_all [aW]
theorem We (l:List bh):c6 l ((aW l).map CJ):=λ_=>by
 rw[xX];refine⟨jk (λk s=>s=l.take k) _ _ _ (by simp) (λj s _ E O=>⟨?_,λs' h=>?_⟩),λs h=>?_⟩;rw[alQ]at E;grind [dB]
 simp_all [cV];have:=xX l;grind [aW]
theorem SZ (K G:List Claim):((wF .x6 (K++G) (K.length:Int) ((K++G).length:Int)).take K.length)=K:=by
 grind [wF]
theorem PC (l:List Claim)(rs:List Int)(hl:l.length<2 ^ 47):bv l rs/\bF l rs=l.filter λx=>!bA x rs:=by
 have hI:(aY l rs= -1/\∀ x∈l,bA x rs=false)\/∃ K x R,l=K++x::R/\aY l rs=(K.length:Int)/\bA x rs=true/\∀ y∈K,bA y rs=false:=by
  unfold aY;rcases xp (step:=eI l rs) l default (λx=>bA x rs) (λk _=>rfl)with⟨e,h⟩ | ⟨K,x,R,h1,e,h2,h3⟩ <;>grind
 unfold bv bF;rcases hI with⟨e,h⟩ | ⟨K,x,R,hl0,e,h2,h3⟩;rw[e];refine⟨(λh=>by cases h),?_⟩;simp only[BEq.rfl,cond_true];exact(an7.2 λx hx=>by grind).symm;have b:((K.length:Int) == -1)=false:=by rfl
 have Y:l.length=K.length+(R.length+1):=by grind
 have w:i64.wrap ((K.length:Int)+1)=((K.length+1:Nat):Int):=by grind [aA]
 rw[e,w];simp only[b,cond_false];obtain⟨k1,r,k2,E,O,rfl,k3⟩:okI (bN l rs) (b8 l rs) (l.length+1) 0 (l,(K.length:Int),((K.length+1:Nat):Int))/\∃ r,aj (bN l rs) (l.length+1) 0 (l,(K.length:Int),((K.length+1:Nat):Int))=.inl r/\∃ E O,r=((E.length:Int),E++O)/\E=l.filter λx=>!bA x rs:=by
  refine yp (λs:List Claim×Int×Int=>((l.length:Int) - s.2.2).toNat) (λs:List Claim×Int×Int=>∃ E g O U,s=(E++g::(O++U),(E.length:Int),((E.length+(O.length+1):Nat):Int))/\E.length+(O.length+1)+U.length=l.length/\(l.filter λx=>!bA x rs)=E++U.filter λx=>!bA x rs) _ ?_ _ _ _ ⟨K,x,[],R,by grind,by grind,?_⟩ (by grind);rintro k s ⟨E,g,O,U,rfl,hn,hF⟩;have hL:(E++g::(O++U)).length=l.length:=by grind
  unfold b8 bN;simp only[hL];cases U with
  |nil=>
   grind
  |cons y U=>
   simp only[alL]at hn;have e1:decide (((E.length+(O.length+1):Nat):Int) < (l.length:Int))=true:=by grind
   have gy:(E++g::(O++y::U)).getD (E.length+(O.length+1)) default=y:=by
    grind
   have w1:i64.wrap (((E.length+(O.length+1):Nat):Int)+1)=((E.length+(O.length+1)+1:Nat):Int):=by grind [aA]
   have w2:i64.wrap ((E.length:Int)+1)=((E.length+1:Nat):Int):=by grind [aA]
   simp only[e1,cond_true,alI,gy,w1,w2];refine⟨λ_ _=>⟨by omega,λ_=>by omega⟩,.inr ?_⟩;cases hy:bA y rs with
   |false=>
    obtain⟨W,V,hG⟩:∃ W V,O++[y]=W::V:=by
     cases O <;>grind
    have hGl:O.length+1=V.length+1:=by have:=congrArg List.length hG;grind
    refine⟨_,rfl,by grind,E++[y],W,V,U,?_,?_,?_⟩;rw[KJ E g y _ rfl];grind [Prod.mk.injEq]
    grind
    grind
   |true=>
    refine⟨_,rfl,by simp only;omega,E,g,O++[y],U,?_,by rw[alN];simp only[alL,alS];omega,?_⟩ <;>grind
  simp_all
 refine⟨λ_=>⟨k1,Na (Q:=λ_=>True) ⟨_,k2,trivial⟩,λz X=>?_⟩,?_⟩;rw[k2]at X;cases X;have:(wF .x6 (E++O) (E.length:Int) ((E++O).length:Int)).length=(E++O).length:=by
  grind [wF]
 grind
 grind [SZ]
theorem zp (s:x4)(rs:List Int)(E:s.c.length<=4096):jo s rs/\da s rs= { d:=s.d,c:=s.c.filter λx=>!bA x rs}:=by
 obtain⟨h1,h2⟩:=PC s.c rs (by omega);exact⟨⟨by unfold dI;omega,h1⟩,by unfold da;rw[h2]⟩
@[go_sem] def ru (l_:List Int)(Q1:Nat)(ly:Unit):Int⊕Unit:=(bif((l_.getD Q1 0) !=0)then .inl (l_.getD Q1 0)else .inr ())
def fU (l_:List Int):Int:=(match aj (ru l_) l_.length 0 ()with| .inl gl=>gl| .inr ly=>0)
@[go_sem] def FQ:List SV->Option Con:=(pR .int λl_=>(pE (.det True (.v (.int .i64 (fU l_))))))
theorem Dn:zs Tryz.prog 163 FQ:=by
 have hG:=mG C1 C1;refine fN hG Tryz.f163 [.o] (bD λO=>(am (λX=>?_)));dsimp only[an]at X;refine⟨Y2 rfl,(λid st=>bif Nat.beq id 0 then some (LCR (ρ:=Int) (σ:=Unit) 0 [] [] (λU V=>⟨[(5,.rs .int O),(6,.v (.int .i64 (O.length:Int))),(7,.v (.int .i64 (U:Int)))],[]⟩) (ru O) pT O.length () (O.length<=aH) (λ_=>.ret) (λE=>⟨[(2,.v (.int .i64 E))],[]⟩) st)else none),?_,?_⟩;unfold ae Tryz.f163;simp only[ak,true_and,and_true];refine bL mixed aB hG kr (λ_=>rfl) (O.length:Int) rfl fj (λhb0 U V W _ hw hc=>⟨L0,ag _,?_⟩) (λhb0 V hc=>?_);exact bB (jl []);exact bC (jl []);unfold ae Tryz.f163;try unfold fU
 exact zq2
def cN (a:Claim)(b:Claim):Int:=(fU ([(be a.hour b.hour),(be a.ao8 b.ao8),(be a.right b.right),(be a.dd b.dd)]))
@[go_sem] def FR:List SV->Option Con:=(pD .x6 λa=>(pD .x6 λb=>(pE (.det True (.v (.int .i64 (cN a b)))))))
theorem wa:zs Tryz.prog 107 FR:=by
 have hG:=mG (cp eK (cn [.sl .int] Dn C1)) C1;refine fN hG Tryz.f107 [.o] (ax λa=>(ax λb=>(am (λE=>?_))));dsimp only[an]at E;refine⟨Y2 rfl,L0,ag _,?_⟩;unfold ae Tryz.f107;try unfold cN
 exact zq2
@[go_sem] def i9 (a0:ah)(a1:List Claim)(Q1:Nat)(ly:Unit):Unit⊕Unit:=letI q0:=a1.getD Q1 default;letI q1:=a0.ai.getD (Int.toNat (q0.right)) default;(bif((((!((((((((decide (q0.right>=0))&&(decide (q0.right< (a0.ai.length:Int))))&&(decide (q0.dd>=0)))&&(decide (q0.dd< (a0.l5.length:Int))))&&(decide (q0.hour>=0)))&&(decide (q0.hour<a0.hours)))&&(decide (q0.bo>=1)))&&(decide (q0.bo<=1073741824)))) ||(q1.kind !=1)) ||(q1.ao8 !=q0.ao8)) ||((decide ((Q1:Int) > 0))&&(decide ((cN (a1.getD (Int.toNat (i64.wrap ((Q1:Int) - 1))) default) q0)>=0))))then .inl ()else .inr ())
def ld (a0:ah)(a1:List Claim)(Q1:Nat)(ly:Unit):Prop:=letI q1:=a1.getD Q1 default;letI q2:=a0.ai.getD (Int.toNat (q1.right)) default;letI q4:=i64.wrap ((Q1:Int) - 1);letI q5:=(a0.ai.length:Int);letI q0:= !((((((((decide (q1.right>=0))&&(decide (q1.right<q5)))&&(decide (q1.dd>=0)))&&(decide (q1.dd< (a0.l5.length:Int))))&&(decide (q1.hour>=0)))&&(decide (q1.hour<a0.hours)))&&(decide (q1.bo>=1)))&&(decide (q1.bo<=1073741824)));letI q3:=0<=q1.right/\q1.right<q5;((q0=false->q3)/\(((q0||(q2.kind !=1))=false->q3)/\(((q0||(q2.kind !=1)) ||(q2.ao8 !=q1.ao8))=false->((decide ((Q1:Int) > 0))=true->(0<=q4/\q4< (a1.length:Int))))))
def d7 (a0:ah)(a1:List Claim):Int:=(bif((aw a0) !=0)then(aw a0)else(bif(decide ((a1.length:Int) > 4096))then 2 else(match aj (i9 a0 a1) a1.length 0 ()with| .inl gl=>260| .inr ly=>0)))
def oR (a0:ah)(a1:List Claim):Prop:=(((aw a0) !=0)=false->(a1.length<=aH->((decide ((a1.length:Int) > 4096))=false->(a1.length<=aH->okI (i9 a0 a1) (ld a0 a1) a1.length 0 ()))))
@[go_sem] def FT:List SV->Option Con:=(pD .al λa0=>(pR .x6 λa1=>(pE (.det (oR a0 a1) (.v (.int .i64 (d7 a0 a1)))))))
theorem Do:zs Tryz.prog 117 FT:=by
 have hG:=mG (cn [.st .al] nF (cp wa C1)) C1;refine fN hG Tryz.f117 [.o] (ax λa0=>(bD λa1=>(am (λX=>?_))));dsimp only[an]at X;unfold oR at X;refine⟨Y2 rfl,(λid st=>bif Nat.beq id 0 then some (LCR (ρ:=Unit) (σ:=Unit) 1 [] [0] (λO U=>⟨[(1,.rs .x6 a1),(2,.ptr 0 0),(16,.rs .x6 a1),(17,.v (.int .i64 (a1.length:Int))),(18,.v (.int .i64 (O:Int)))],[.cells (cellsOf .al a0)]⟩) (i9 a0 a1) (ld a0 a1) a1.length () (a1.length<=aH) (λ_=>.ret) (λV=>⟨[(4,.v (.int .i64 260))],[.dead]⟩) st)else none),?_,?_⟩;unfold ae Tryz.f117;simp only[ak,true_and,and_true];refine bL mixed aB hG kr (λ_=>rfl) (a1.length:Int) rfl fj (λhb0 O U W E hw hc=>⟨L0,ag _,?_⟩) (λhb0 U hc=>?_);unfold ld at E;try simp only[hw,alI]at E
 exact bB (jl [0]);exact bC (jl [0]);unfold ae Tryz.f117;try unfold d7
 exact zq2
@[go_sem] def kD (a0:ah)(a1:Int)(Q1:Nat)(ly:List (X1×Bool)×List (Int×Int)×List (X1×Bool)):Empty⊕(List (X1×Bool)×List (Int×Int)×List (X1×Bool)):=letI q0:=a0.ai.getD Q1 default;letI q1:=({ dd:=q0.dd,reach:=q0.reach}:X1);letI q2:=(ly.1,ly.2.1,ly.2.2);(bif((decide (a1<q0.since)) ||(decide (a1 > q0.to)))then .inr q2 else(bif(q0.kind==3)then .inr ((dH .G2 .bool ly.1 q1 true),ly.2.1,ly.2.2)else(bif((q0.kind==2)&&(!(aL .G2 .bool ly.2.2 q1)))then .inr (ly.1,(dH .int .int ly.2.1 (q0.reach) (i64.wrap ((aL .int .int ly.2.1 (q0.reach))+1))),(dH .G2 .bool ly.2.2 q1 true))else .inr q2)))
def cC (a0:ah)(a1:Int):apE:=(match aj (kD a0 a1) a0.ai.length 0 ([],[],[])with| .inl x=>x.elim| .inr ly=>({ ap_:=ly.2.1,owned:=ly.2.2,ap7:=ly.1}:apE))
@[go_sem] def FU:List SV->Option Con:=(pD .al λa0=>(pI λa1=>(pE (.det True (.agg [.nm .int .int ((cC a0 a1).ap_),.nm .G2 .bool ((cC a0 a1).owned),.nm .G2 .bool ((cC a0 a1).ap7)])))))
theorem Dp:zs Tryz.prog 99 FU:=by
 have hG:=mG C1 C1;refine fE hG Tryz.f99 (ax λa0=>(az λa1=>(am (λV=>?_))));dsimp only[an]at V;refine⟨Y2 rfl,(λid st=>bif Nat.beq id 0 then some (LCR (ρ:=Empty) (σ:=(List (X1×Bool)×List (Int×Int)×List (X1×Bool))) 6 [] [0,1,2,3,4,5] (λO E=>⟨[(1,.v (.int .i64 a1)),(4,.ptr 1 0),(5,.ptr 5 0),(14,.rs .right a0.ai),(15,.v (.int .i64 (a0.ai.length:Int))),(16,.v (.int .i64 (O:Int)))],[.dead,.cells [.v (.map none),.v (.map none),.v (.map none)],.mp .int .int E.2.1 none,.mp .G2 .bool E.2.2 none,.mp .G2 .bool E.1 none,.cells [.os 2,.os 3,.os 4]]⟩) (kD a0 a1) pT a0.ai.length ([],[],[]) (a0.ai.length<=aH) ((·.elim)) ((·.elim)) st)else none),?_,?_⟩;unfold ae Tryz.f99;simp only[ak,true_and,and_true];refine bL mixed aB hG kr (λ_=>rfl) (a0.ai.length:Int) rfl fj (λhb0 O E U _ hw hc=>⟨L0,ag _,?_⟩) (λhb0 E hc=>?_);exact bB (jl [0,1,2,3,4,5]);exact bC (jl [0,1,2,3,4,5]);unfold ae Tryz.f99;try unfold cC
 exact zq2
def lU (x:apE)(u:X1):Bool:=(bif(aL .G2 .bool x.owned u)then(((i64.wrap ((aL .int .int x.ap_ u.reach) - 1)) ==0) ||(aL .G2 .bool x.ap7 u))else(((aL .int .int x.ap_ u.reach) ==0) ||(aL .G2 .bool x.ap7 u)))
@[go_sem] def BQ:List SV->Option Con:=(pD .apn λx=>(pD .G2 λu=>(pE (.det True (.v (.bool (lU x u)))))))
theorem Ay:zs Tryz.prog 104 BQ:=by
 have hG:=mG C1 C1;refine fN hG Tryz.f104 [.o] (ax λx=>(ax λu=>(am (λE=>?_))));dsimp only[an]at E;refine⟨Y2 rfl,L0,ag _,?_⟩;unfold ae Tryz.f104;try unfold lU
 exact zq2
def rV (r:Int)(x_:apE)(c_:Claim):Bool:=(!(lU x_ ({ dd:=c_.dd,reach:=r}:X1)))
@[go_sem] def FV:List SV->Option Con:=(pI λr=>(pX .apn λx_=>(pX .x6 λc_=>(pE (.det True (.v (.bool (rV r x_ c_))))))))
theorem Dq:zs Tryz.prog 103 FV:=by
 have hG:=mG (cn [.st .apn,.st .G2] Ay C1) C1;refine fN hG Tryz.f103 [.o] (az λr=>(fO λO=>(fO λU=>(am (λE=>?_)))));dsimp only[an]at E;refine⟨Y2 rfl,L0,ag _,?_⟩;unfold ae Tryz.f103;try unfold rV
 exact zq2
def fB (a:M1)(b:M1):Int:=(cN a.x6 b.x6)
@[go_sem] def xq:List SV->Option Con:=(pD .S2 λa=>(pD .S2 λb=>(pE (.det True (.v (.int .i64 (fB a b)))))))
theorem Dt:zs Tryz.prog 106 xq:=by
 have hG:=mG (cp wa C1) C1;refine fN hG Tryz.f106 [.o] (ax λa=>(ax λb=>(am (λE=>?_))));dsimp only[an]at E;refine⟨Y2 rfl,L0,ag _,?_⟩;unfold ae Tryz.f106;try unfold fB
 exact zq2
@[go_sem] def fK (s_:List Int)(x_:apE)(c_:Claim)(Q1:Nat)(ly:Unit):Int⊕Unit:=(bif(rV (s_.getD Q1 0) x_ c_)then .inl (Q1:Int)else .inr ())
def dC (s_:List Int)(x_:apE)(c_:Claim):Int:=(match aj (fK s_ x_ c_) s_.length 0 ()with| .inl gl=>gl| .inr ly=>(-1))
@[go_sem] def lV:List SV->Option Con:=(pR .int λs_=>(pFn 103 (pX .apn λx_=>(pX .x6 λc_=>(pE ((pE (.det True (.v (.int .i64 (dC s_ x_ c_)))))))))))
theorem rW:zs Tryz.prog 102 lV:=by
 have hG:=mG (cp Dq C1) C1;refine fN hG Tryz.f102 [.o] (bD λO=>(mr (fO λX=>(fO λY=>(am ((am (λhp=>?_))))))));dsimp only[an]at hp;refine⟨Y2 rfl,(λid st=>bif Nat.beq id 0 then some (LCR (ρ:=Int) (σ:=Unit) 0 [] [] (λU V=>⟨[(0,.rs .int O),(1,.fn 103 [] [.ep (cellsOf .apn X) 0,.ep (cellsOf .x6 Y) 0]),(7,.v (.int .i64 (O.length:Int))),(8,.v (.int .i64 (U:Int)))],[]⟩) (fK O X Y) pT O.length () (O.length<=aH) (λ_=>.ret) (λE=>⟨[(4,.v (.int .i64 E))],[]⟩) st)else none),?_,?_⟩;unfold ae Tryz.f102;simp only[ak,true_and,and_true];refine bL mixed aB hG kr (λ_=>rfl) (O.length:Int) rfl fj (λhb0 U V W _ hw hc=>⟨L0,ag _,?_⟩) (λhb0 V hc=>?_);exact bB (jl []);exact bC (jl []);unfold ae Tryz.f102;try unfold dC
 exact zq2
@[go_sem] noncomputable def fL:List SV->Option Con:=λl=>(lV l)
def rz:zs Tryz.prog 102 fL:=rW
end Go.Sx
end
