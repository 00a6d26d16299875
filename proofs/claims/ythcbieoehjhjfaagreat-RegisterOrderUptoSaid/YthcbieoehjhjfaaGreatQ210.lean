/- Part of the proof that the law RegisterOrder returns true and leaves its arguments as they were, for all arguments of bulk at most 1048576 (the Upto form). -/
import Derived.Test.YthcbieoehjhjfaaGreatQ208
import Derived.Test.YthcbieoehjhjfaaGreatQ209
import Derived.Calls
set_option linter.all false
set_option maxHeartbeats 4000000
set_option maxRecDepth 100000
section
namespace Go.Sx
open Go.Proofs
open IntKind (i64 u64)
theorem iF {n i:Nat}{step:Nat->Unit->Unit⊕Unit}{s:Unit}(h:aq step n i s=.inr s):∀ j,i<=j->j<i+n->step j ()=.inr ():=by
 induction n generalizing i with
 |zero=>intro j h1 h2;omega
 |succ n ih=>
  simp only[aq]at h;cases hs:step i s with
  |inl r=>rw[hs]at h;cases h
  |inr s'=>
   rw[hs]at h;intro j h1 h2;by_cases e:j=i
   ·subst e;cases s;exact hs
   ·exact ih h j (by omega) (by omega)
theorem kX {b:Bool}{e:Int}:cd b e=b:=by
 cases b <;>rfl
theorem wZ {a b c:Int}(h:aw [a,b,c]=true):a<=b/\b<=c:=by
 unfold aw at h;simp only[List.length_cons,List.length_nil,Nat.zero_add,Nat.reduceAdd,Nat.reduceSub]at h;split at h
 ·cases h
 ·rename_i s hs;have h0:=iF hs 0 (by omega) (by omega);have h1:=iF hs 1 (by omega) (by omega);simp[bt,IntKind.wrap,IntKind.bits,IntKind.signed]at h0 h1;constructor
  ·cases hd:decide (b<a) <;>simp_all <;>omega
  ·cases hd:decide (c<b) <;>simp_all <;>omega
theorem Bp {a b c d:Int}(h:aw [a,b,c,d]=true):a<=b/\b<=c/\c<=d:=by
 unfold aw at h;simp only[List.length_cons,List.length_nil,Nat.zero_add,Nat.reduceAdd,Nat.reduceSub]at h;split at h
 ·cases h
 ·rename_i s hs;have h0:=iF hs 0 (by omega) (by omega);have h1:=iF hs 1 (by omega) (by omega);have h2:=iF hs 2 (by omega) (by omega);simp[bt,IntKind.wrap,IntKind.bits,IntKind.signed]at h0 h1 h2;refine⟨?_,?_,?_⟩
  ·cases hd:decide (b<a) <;>simp_all <;>omega
  ·cases hd:decide (c<b) <;>simp_all <;>omega
  ·cases hd:decide (d<c) <;>simp_all <;>omega
structure Right1 (d:District):Prop where
 reaches:d.reaches.length<=64
 one:0<d.reaches.length
 farms:d.farms.length<=600
 rights:d.rights.length<=256
 hours1:1<=d.hours
 hours:d.hours<=4096
 start0:0<=d.tank.start
 start:d.tank.start<=d.tank.cap
 cap:d.tank.cap<=1099511627776
 reach:∀ k,k<d.reaches.length->iT (k:Int) (d.reaches.getD k default)=true
 farm:∀ k,k<d.farms.length->0<=(d.farms.getD k default).reach/\(d.farms.getD k default).reach< (d.reaches.length:Int)
theorem yB {d:District}(h:(bY d !=0)=false):Right1 d:=by
 have h:bY d=0:=by simpa using h
 unfold bY at h;simp only[kX]at h;cases h1:(decide ((d.reaches.length:Int)<=64)&&decide ((d.farms.length:Int)<=600)&&decide ((d.crops.length:Int)<=32)&&decide ((d.rights.length:Int)<=256)&&decide ((d.duties.length:Int)<=256))with
 |false=>rw[h1]at h;simp at h
 |true=>
  rw[h1]at h;simp only[cond_true]at h;cases h2:da d 191 with
  |false=>rw[h2]at h;simp at h
  |true=>
   unfold da at h2;simp only[kX]at h2;cases h3:(aw [1,d.hours,4096]&&aw [0,d.tank.start,d.tank.cap,1099511627776]&&decide ((d.reaches.length:Int) > 0))with
   |false=>rw[h3]at h2;simp at h2
   |true=>
    rw[h3]at h2;simp only[cond_true]at h2;simp only[Bool.and_eq_true,decide_eq_true_eq]at h1 h3;obtain⟨r1,r2⟩:=wZ h3.1.1;obtain⟨r3,r4,r5⟩:=Bp h3.1.2;split at h2
    ·cases h2
    rename_i s0 hs0;split at h2
    ·cases h2
    rename_i s1 hs1;split at h2
    ·cases h2
    rename_i s2 hs2;refine⟨by omega,by omega,by omega,by omega,r1,r2,r3,r4,r5,fun k hk=>?_,fun k hk=>?_⟩
    ·have:=iF hs0 k (by omega) (by omega);simp only[dY,kX]at this;cases he:iT (k:Int) (d.reaches.getD k default)with
     |false=>rw[he]at this;simp at this
     |true=>rfl
    ·have:=iF hs2 k (by omega) (by omega);simp only[dZ,kX]at this;have hx:cw (d.farms.getD k default).reach (d.reaches.length:Int)=true:=by
      cases he:cw (d.farms.getD k default).reach (d.reaches.length:Int)with
      |false=>rw[he]at this;cases hd:decide ((d.farms.getD k default).area > 0) <;>rw[hd]at this <;>simp at this
      |true=>rfl
     simpa[cw]using hx
theorem Cz {k:Nat}(h:k<9223372036854775807)(h1:0<k):i64.wrap ((k:Int) - 1)=((k - 1:Nat):Int):=by
 rw[bB (by omega) (by omega)];omega
theorem vE {step:Nat->Unit->Unit⊕Unit}:∀ {n i:Nat},(∀ j,i<=j->j<i+n->step j ()=.inr ())->aq step n i ()=.inr ()
 |0,_,_=>rfl
 |n+1,i,h=>by
  simp only[aq];rw[h i (by omega) (by omega)];exact vE fun j h1 h2=>h j (by omega) (by omega)
theorem i6 {step:Nat->Unit->Unit⊕Unit}{n:Nat}:aq step n 0 ()=.inr ()↔∀ j,j<n->step j ()=.inr ():=
 ⟨fun h j hj=>iF h j (by omega) (by omega),fun h=>vE fun j _ h2=>h j (by omega)⟩
theorem nY {α:Type}(l:List α)(d:α){n:Nat}(h:n<l.length):l.getD n d=l[n]:=by
 rw[List.getD_eq_getElem?_getD,List.getElem?_eq_getElem h];rfl
theorem Ah {a b c:Int}(h1:a<=b)(h2:b<=c):aw [a,b,c]=true:=by
 have e:aq (bt [a,b,c]) 2 0 ()=.inr ():=i6.2 fun j hj=>by
  rcases(by omega:j=0\/j=1)with rfl|rfl
  ·simp[bt,IntKind.wrap,IntKind.bits,IntKind.signed,Bool.cond_eq_ite];omega
  ·simp[bt,IntKind.wrap,IntKind.bits,IntKind.signed,Bool.cond_eq_ite];omega
 unfold aw;simp only[List.length_cons,List.length_nil,Nat.zero_add,Nat.reduceAdd,Nat.reduceSub,e]
theorem Ai {a b c d:Int}(h1:a<=b)(h2:b<=c)(h3:c<=d):aw [a,b,c,d]=true:=by
 have e:aq (bt [a,b,c,d]) 3 0 ()=.inr ():=i6.2 fun j hj=>by
  rcases(by omega:j=0\/j=1\/j=2)with rfl|rfl|rfl
  ·simp[bt,IntKind.wrap,IntKind.bits,IntKind.signed,Bool.cond_eq_ite];omega
  ·simp[bt,IntKind.wrap,IntKind.bits,IntKind.signed,Bool.cond_eq_ite];omega
  ·simp[bt,IntKind.wrap,IntKind.bits,IntKind.signed,Bool.cond_eq_ite];omega
 unfold aw;simp only[List.length_cons,List.length_nil,Nat.zero_add,Nat.reduceAdd,Nat.reduceSub,e]
theorem yC (d:District):bY d=0↔(d.reaches.length<=64/\d.farms.length<=600/\d.crops.length<=32/\d.rights.length<=256/\d.duties.length<=256)/\(1<=d.hours/\d.hours<=4096)/\(0<=d.tank.start/\d.tank.start<=d.tank.cap/\d.tank.cap<=1099511627776)/\0<d.reaches.length/\
  (∀ k,k<d.reaches.length->dY d 191 k ()=.inr ())/\(∀ k,k<d.crops.length->eU d 191 k ()=.inr ())/\(∀ k,k<d.farms.length->dZ d 191 k ()=.inr ())/\(∀ k,k<d.rights.length->d4 d 191 k ()=.inr ())/\(∀ k,k<d.duties.length->eV d 191 k ()=.inr ()):=by
 have hx:da d 191=true↔(1<=d.hours/\d.hours<=4096)/\(0<=d.tank.start/\d.tank.start<=d.tank.cap/\d.tank.cap<=1099511627776)/\0<d.reaches.length/\
  (∀ k,k<d.reaches.length->dY d 191 k ()=.inr ())/\(∀ k,k<d.crops.length->eU d 191 k ()=.inr ())/\(∀ k,k<d.farms.length->dZ d 191 k ()=.inr ())/\(∀ k,k<d.rights.length->d4 d 191 k ()=.inr ())/\(∀ k,k<d.duties.length->eV d 191 k ()=.inr ()):=by
  unfold da;simp only[kX];cases h3:(aw [1,d.hours,4096]&&aw [0,d.tank.start,d.tank.cap,1099511627776]&&decide ((d.reaches.length:Int) > 0))with
  |false=>
   simp only[cond_false,Bool.false_eq_true,false_iff];rintro⟨⟨a1,a2⟩,⟨a3,a4,a5⟩,a6,_⟩;rw[Ah a1 a2,Ai a3 a4 a5,decide_eq_true (by omega:(d.reaches.length:Int) > 0)]at h3;cases h3
  |true=>
   simp only[Bool.and_eq_true,decide_eq_true_eq]at h3;have b1:=wZ h3.1.1;have b2:=Bp h3.1.2;have b3:=h3.2;simp only[cond_true];rw[<-i6,<-i6,<-i6,<-i6,<-i6]
   repeat' split
   all_goals (rename_i e;first|simp_all;done|skip)
   all_goals simp_all
   all_goals omega
 unfold bY;simp only[kX];rw[<-hx];cases h1:(((((decide ((d.reaches.length:Int)<=64))&&(decide ((d.farms.length:Int)<=600)))&&(decide ((d.crops.length:Int)<=32)))&&(decide ((d.rights.length:Int)<=256)))&&(decide ((d.duties.length:Int)<=256)))with
 |false=>
  simp only[cond_false];simp only[Bool.and_eq_false_iff,decide_eq_false_iff_not]at h1;omega
 |true=>
  simp only[Bool.and_eq_true,decide_eq_true_eq]at h1;cases da d 191 <;>simp <;>omega
theorem yD:∀ (f n d:Nat),1<=d->d<=f->1<=n->∀ x,(qM f n d).getLastD x=Nat.gcd n d
 |0,n,d,h1,h2,_,x=>by omega
 |f+1,n,d,h1,h2,h3,x=>by
  unfold qM;have hm:max d 1=d:=by omega
  rw[if_neg (by omega),hm];by_cases h0:n % d=0
  ·rw[if_pos h0];have:d ∣ n:=Nat.dvd_of_mod_eq_zero h0;rw[Nat.gcd_eq_right this];rfl
  ·rw[if_neg h0];have hlt:n % d<d:=Nat.mod_lt _ (by omega);have ih:=yD f d (n % d) (by omega) (by omega) (by omega) n;have e:Nat.gcd n d=Nat.gcd d (n % d):=by rw[Nat.gcd_comm n d,Nat.gcd_rec d n,Nat.gcd_comm]
   rw[e,<-ih,List.getLastD_cons]
theorem tY {n d:Nat}(h:1<=d):yw n d=Nat.gcd n d:=by
 unfold yw;rw[if_neg (by omega)];by_cases h0:n=0
 ·subst h0;cases d with
  |zero=>omega
  |succ d=>simp[qM]
 ·exact yD d n d h (Nat.le_refl _) (by omega) d
theorem yE {n:Int}(h0:0<=n)(h1:n<18446744073709551616):u64.wrap n=n:=by
 simp only[IntKind.wrap,IntKind.bits,IntKind.signed];simp;omega
theorem uz {n:Int}(h0: -1073741824<=n)(h1:n<=1073741824):bS n=(n.natAbs:Int):=by
 unfold bS;by_cases h:n<0
 ·rw[decide_eq_true h];simp only[cond_true,IntKind.wrap,IntKind.bits,IntKind.signed];simp;omega
 ·rw[decide_eq_false h];simp only[cond_false];rw[yE (by omega) (by omega)];omega
structure RatioOk (a:Ratio):Prop where
 d1:1<=a.d
 d:a.d<=1073741824
 n0: -1073741824<=a.n
 n:a.n<=1073741824
 gcd:Nat.gcd a.n.natAbs a.d.toNat=1
theorem gL (a:Ratio):bp a=0↔RatioOk a:=by
 unfold bp;cases h:((((decide (a.d<1)) ||(decide (a.d > 1073741824))) ||(decide (a.n< (-1073741824)))) ||(decide (a.n > 1073741824)))with
 |true=>
  simp only[Bool.true_or,cond_true];simp only[Bool.or_eq_true,decide_eq_true_eq]at h;refine⟨fun e=>(by cases e),fun r=>?_⟩;have:=r.d1;have:=r.d;have:=r.n0;have:=r.n;omega
 |false=>
  simp only[Bool.or_eq_false_iff,decide_eq_false_iff_not]at h;rw[uz (by omega) (by omega),yE (by omega) (by omega),Int.toNat_natCast,tY (by omega)];simp only[Bool.false_or];by_cases hg:Nat.gcd a.n.natAbs a.d.toNat=1
  ·rw[hg];exact⟨fun _=>⟨by omega,by omega,by omega,by omega,hg⟩,fun _=>rfl⟩
  ·have:((Nat.gcd a.n.natAbs a.d.toNat:Nat):Int)≠1:=by omega
   rw[bne_iff_ne.2 this];exact⟨fun e=>(by cases e),fun r=>absurd r.gcd hg⟩
theorem yF (a:Ratio):bp a=0\/bp a=120:=by
 unfold bp;rw[Bool.cond_eq_ite];split <;>simp
theorem m1 {r:Unit⊕Unit}{a b:Bool}:(match r with| .inl _=>a| .inr _=>b)=true↔(r=.inr ()/\b=true)\/((∃ y,r=.inl y)/\a=true):=by
 cases r with
 |inl y=>simp
 |inr y=>simp
theorem jC {n:Int}(h0: -4611686018427387904<=n)(h1:n<=4611686018427387904):bS n=(n.natAbs:Int):=by
 unfold bS;by_cases h:n<0
 ·rw[decide_eq_true h];simp only[cond_true,IntKind.wrap,IntKind.bits,IntKind.signed];simp;omega
 ·rw[decide_eq_false h];simp only[cond_false];rw[yE (by omega) (by omega)];omega
def mkR (n d:Int):Ratio×Int:=
 if d=0 then({ n:=0,d:=0},120)else
 if 1073741824<n.natAbs / Nat.gcd n.natAbs d.natAbs\/1073741824<d.natAbs / Nat.gcd n.natAbs d.natAbs then({ n:=0,d:=0},2)else
 ({ n:=if(decide (n<0)) !=(decide (d<0))then -((n.natAbs / Nat.gcd n.natAbs d.natAbs:Nat):Int)else((n.natAbs / Nat.gcd n.natAbs d.natAbs:Nat):Int),d:=((d.natAbs / Nat.gcd n.natAbs d.natAbs:Nat):Int)},0)
theorem HF {n d:Int}(h0: -4611686018427387904<=n)(h1:n<=4611686018427387904)(h2: -4611686018427387904<=d)(h3:d<=4611686018427387904):iw n d=mkR n d:=by
 unfold iw mkR;by_cases hd:d=0
 ·subst hd;rfl
 ·have e:(d==0)=false:=by simpa using hd
  rw[e,cond_false,if_neg hd,jC h0 h1,jC h2 h3,Int.toNat_natCast,Int.toNat_natCast,tY (by omega)];have g0:0<Nat.gcd n.natAbs d.natAbs:=Nat.gcd_pos_of_pos_right _ (by omega);have t1:Int.tdiv (n.natAbs:Int) ((Nat.gcd n.natAbs d.natAbs:Nat):Int)=((n.natAbs / Nat.gcd n.natAbs d.natAbs:Nat):Int):=by rw[Int.tdiv_eq_ediv_of_nonneg (by omega)];rfl
  have t2:Int.tdiv (d.natAbs:Int) ((Nat.gcd n.natAbs d.natAbs:Nat):Int)=((d.natAbs / Nat.gcd n.natAbs d.natAbs:Nat):Int):=by rw[Int.tdiv_eq_ediv_of_nonneg (by omega)];rfl
  have l1:n.natAbs / Nat.gcd n.natAbs d.natAbs<=n.natAbs:=Nat.div_le_self _ _;have l2:d.natAbs / Nat.gcd n.natAbs d.natAbs<=d.natAbs:=Nat.div_le_self _ _;rw[t1,t2];generalize n.natAbs / Nat.gcd n.natAbs d.natAbs=x at *;generalize d.natAbs / Nat.gcd n.natAbs d.natAbs=y at *;rw[yE (n:=(x:Int)) (by omega) (by omega),yE (n:=(y:Int)) (by omega) (by omega),bB (n:=(x:Int)) (by omega) (by omega),bB (n:=(y:Int)) (by omega) (by omega),bB (n:=0 - (x:Int)) (by omega) (by omega)];by_cases hb:1073741824<x\/1073741824<y
  ·rw[if_pos hb];have:decide ((if(x:Int) < (y:Int)then(y:Int)else(x:Int)) > 1073741824)=true:=by
    rw[decide_eq_true_eq];split <;>omega
   rw[this,cond_true]
  ·rw[if_neg hb];have:decide ((if(x:Int) < (y:Int)then(y:Int)else(x:Int)) > 1073741824)=false:=by
    rw[decide_eq_false_iff_not];split <;>omega
   rw[this,cond_false];cases(decide (n<0)) !=(decide (d<0)) <;>simp
theorem Kz (n d:Int)(h0: -4611686018427387904<=n)(h1:n<=4611686018427387904)(h2: -4611686018427387904<=d)(h3:d<=4611686018427387904):kv n d:=fun hd=>by
 have hd:d≠0:=by simpa using hd
 rw[jC h0 h1,jC h2 h3,Int.toNat_natCast,Int.toNat_natCast,tY (by omega)];have g0:0<Nat.gcd n.natAbs d.natAbs:=Nat.gcd_pos_of_pos_right _ (by omega);exact⟨⟨by omega,by omega⟩,by omega,by omega⟩
def rv (a:Ratio):Rat:=(a.n:Rat) / (a.d:Rat)
theorem yG {a b:Nat}(hb:0<b):a / Nat.gcd a b*Nat.gcd a b=a/\b / Nat.gcd a b*Nat.gcd a b=b/\Nat.gcd (a / Nat.gcd a b) (b / Nat.gcd a b)=1:=
 ⟨Nat.div_mul_cancel (Nat.gcd_dvd_left _ _),Nat.div_mul_cancel (Nat.gcd_dvd_right _ _),Nat.gcd_div_gcd_div_gcd_of_pos_right hb⟩
theorem jW {d:Int}(h:d≠0):(d:Rat)≠0:=fun e=>h (by exact_mod_cast e)
theorem KA {n d:Int}(hd:1<=d){r:Ratio}(h:mkR n d=(r,0)):RatioOk r/\rv r*(d:Rat)=(n:Rat):=by
 unfold mkR at h;rw[if_neg (by omega)]at h;split at h
 ·simp at h
 ·rename_i hb;obtain⟨rfl,-⟩:=Prod.mk.inj h;obtain⟨g1,g2,g3⟩:=yG (a:=n.natAbs) (b:=d.natAbs) (by omega);have hdn:¬d<0:=by omega
  have hx:(if(decide (n<0)) !=(decide (d<0))then -((n.natAbs / Nat.gcd n.natAbs d.natAbs:Nat):Int)else((n.natAbs / Nat.gcd n.natAbs d.natAbs:Nat):Int))*((Nat.gcd n.natAbs d.natAbs:Nat):Int)=n:=by
   rw[decide_eq_false hdn];by_cases hn:n<0
   ·rw[decide_eq_true hn,if_pos (by rfl),Int.neg_mul,<-Int.natCast_mul,g1];omega
   ·rw[decide_eq_false hn,if_neg (by simp),<-Int.natCast_mul,g1];omega
  have hxa:(if(decide (n<0)) !=(decide (d<0))then -((n.natAbs / Nat.gcd n.natAbs d.natAbs:Nat):Int)else((n.natAbs / Nat.gcd n.natAbs d.natAbs:Nat):Int)).natAbs=n.natAbs / Nat.gcd n.natAbs d.natAbs:=by
   split
   ·rw[Int.natAbs_neg,Int.natAbs_natCast]
   ·rw[Int.natAbs_natCast]
  have hyd:((d.natAbs / Nat.gcd n.natAbs d.natAbs:Nat):Int)*((Nat.gcd n.natAbs d.natAbs:Nat):Int)=d:=by rw[<-Int.natCast_mul,g2];omega
  generalize hX:(if(decide (n<0)) !=(decide (d<0))then -((n.natAbs / Nat.gcd n.natAbs d.natAbs:Nat):Int)else((n.natAbs / Nat.gcd n.natAbs d.natAbs:Nat):Int))=X at *;have hy0:1<=d.natAbs / Nat.gcd n.natAbs d.natAbs:=by
   rcases Nat.eq_zero_or_pos (d.natAbs / Nat.gcd n.natAbs d.natAbs)with e|e
   ·rw[e]at g2;omega
   ·exact e
  refine⟨⟨by simp only;omega,by simp only;omega,by simp only;omega,by simp only;omega,by simp only;rw[hxa,Int.toNat_natCast];exact g3⟩,?_⟩;unfold rv;simp only;have e1:(d:Rat)=(((d.natAbs / Nat.gcd n.natAbs d.natAbs:Nat):Int):Rat)*(((Nat.gcd n.natAbs d.natAbs:Nat):Int):Rat):=by exact_mod_cast hyd.symm
  have e2:(n:Rat)=(X:Rat)*(((Nat.gcd n.natAbs d.natAbs:Nat):Int):Rat):=by exact_mod_cast hx.symm
  rw[e1,e2];have h1:(((d.natAbs / Nat.gcd n.natAbs d.natAbs:Nat):Int):Rat)≠0:=jW (by omega);generalize (((d.natAbs / Nat.gcd n.natAbs d.natAbs:Nat):Int):Rat)=y at *;rw[<-Rat.mul_assoc,Rat.div_mul_cancel h1]
theorem w5 {a b:Int}(h0: -1073741824<=a)(h1:a<=1073741824)(h2:1<=b)(h3:b<=1073741824): -1152921504606846976<=a*b/\a*b<=1152921504606846976:=by
 have:(a*b).natAbs<=1073741824*1073741824:=by rw[Int.natAbs_mul];exact Nat.mul_le_mul (by omega) (by omega)
 omega
theorem mul1 {a b:Int}(h0:1<=a)(h1:1<=b):1<=a*b:=Int.mul_pos (by omega) (by omega)
theorem Bq {a b:Ratio}(ha:RatioOk a)(hb:RatioOk b):dR a b=(a.n*b.d+b.n*a.d,a.d*b.d):=by
 have m1:=w5 ha.n0 ha.n hb.d1 hb.d;have m2:=w5 hb.n0 hb.n ha.d1 ha.d;have h1:=ha.d1;have h2:=ha.d;have m3:=w5 (a:=a.d) (by omega) h2 hb.d1 hb.d;unfold dR;rw[bB (n:=a.n*b.d) (by omega) (by omega),bB (n:=b.n*a.d) (by omega) (by omega),bB (n:=a.d*b.d) (by omega) (by omega),bB (by omega) (by omega)]
theorem KB (a b:Ratio):fW a b=if bp a=0/\bp b=0 then mkR (a.n*b.d+b.n*a.d) (a.d*b.d)else({ n:=0,d:=0},120):=by
 unfold fW dL;by_cases h:bp a=0/\bp b=0
 ·rw[if_pos h,h.1,h.2,Bq ((gL a).1 h.1) ((gL b).1 h.2)];have ha:=(gL a).1 h.1;have hb:=(gL b).1 h.2;have m1:=w5 ha.n0 ha.n hb.d1 hb.d;have m2:=w5 hb.n0 hb.n ha.d1 ha.d;have h1:=ha.d1;have h2:=ha.d;have m3:=w5 (a:=a.d) (by omega) h2 hb.d1 hb.d;simp only[bne_self_eq_false,Bool.or_false,cond_false];rw[HF (by omega) (by omega) (by omega) (by omega)]
 ·rw[if_neg h];have:((bp a !=0) ||(bp b !=0))=true:=by
   rcases yF a with e|e <;>rcases yF b with f|f <;>simp_all
  rw[this];rfl
theorem OO (a b:Ratio):lv a b:=fun h=>by
 simp only[Bool.or_eq_false_iff,bne_eq_false_iff_eq]at h;have ha:=(gL a).1 h.1;have hb:=(gL b).1 h.2;rw[Bq ha hb];have m1:=w5 ha.n0 ha.n hb.d1 hb.d;have m2:=w5 hb.n0 hb.n ha.d1 ha.d;have h1:=ha.d1;have h2:=ha.d;have m3:=w5 (a:=a.d) (by omega) h2 hb.d1 hb.d;exact Kz _ _ (by simp only;omega) (by simp only;omega) (by simp only;omega) (by simp only;omega)
theorem EL {a b:Ratio}(ha:RatioOk a)(hb:RatioOk b):(rv a+rv b)*((a.d*b.d:Int):Rat)=((a.n*b.d+b.n*a.d:Int):Rat):=by
 have h1:=ha.d1;have h2:=hb.d1;have d1:(a.d:Rat)≠0:=jW (by omega);have d2:(b.d:Rat)≠0:=jW (by omega);unfold rv;have e1:((a.d*b.d:Int):Rat)=(a.d:Rat)*(b.d:Rat):=by exact_mod_cast rfl
 have e2:((a.n*b.d+b.n*a.d:Int):Rat)=(a.n:Rat)*(b.d:Rat)+(b.n:Rat)*(a.d:Rat):=by exact_mod_cast rfl
 rw[e1,e2,Rat.add_mul,<-Rat.mul_assoc,Rat.div_mul_cancel d1,Rat.mul_comm (a.d:Rat),<-Rat.mul_assoc,Rat.div_mul_cancel d2]
theorem KC {a b r:Ratio}(h:fW a b=(r,0)):RatioOk a/\RatioOk b/\RatioOk r/\rv r=rv a+rv b:=by
 rw[KB]at h;split at h
 ·rename_i hc;have ha:=(gL a).1 hc.1;have hb:=(gL b).1 hc.2;have hd:=mul1 ha.d1 hb.d1;obtain⟨h1,h2⟩:=KA hd h;refine⟨ha,hb,h1,?_⟩;rw[<-EL ha hb]at h2;have hne:((a.d*b.d:Int):Rat)≠0:=jW (by omega);have:=congrArg (· / ((a.d*b.d:Int):Rat)) h2;simp only[Rat.mul_div_cancel hne]at this;exact this
 ·simp at h
theorem nZ {kk vk:Tag}(l:List (kk.T×vk.T))(x z:kk.T)(y:vk.T):dG kk vk (fe kk vk l x y) z=if z=x then y else dG kk vk l z:=by
 unfold dG fe;rw[qX];by_cases h:z=x <;>simp[h]
theorem CA {kk vk:Tag}(l:List (kk.T×vk.T))(x z:kk.T)(y:vk.T):mZ kk vk (fe kk vk l x y) z=(decide (z=x) ||mZ kk vk l z):=by
 unfold mZ fe;rw[qX];by_cases h:z=x <;>simp[h]
theorem dA {α:Type}(l:List α)(d:α){k:Nat}(h:k<l.length):l.take (k+1)=l.take k++[l.getD k d]:=by
 rw[List.take_succ_eq_append_getElem h,nY l d h]
theorem qa {ρ σ:Type}{step:Nat->σ->ρ⊕σ}(J:Nat->σ->Prop)(n i:Nat)(s:σ)(h0:J i s)(h:∀ j s,i<=j->j<i+n->J j s->∃ s',step j s=.inr s'/\J (j+1) s'):∃ r,aq step n i s=.inr r/\J (i+n) r:=by
 induction n generalizing i s with
 |zero=>exact⟨s,rfl,h0⟩
 |succ n ih=>
  obtain⟨s',e,hJ⟩:=h i s (Nat.le_refl _) (by omega) h0;obtain⟨r,e2,h2⟩:=ih (i+1) s' hJ fun j s h1 h2=>h j s (by omega) (by omega);refine⟨r,?_,by rw[show i+(n+1)=i+1+n by omega];exact h2⟩;simp only[aq,e];exact e2
theorem yH {ρ σ:Type}{step:Nat->σ->ρ⊕σ}(S:Nat->σ)(n:Nat)(C:Nat->Prop)(hc:∀ k,k<n->(∀ j,j<k->C j)->(C k->step k (S k)=.inr (S (k+1)))/\(¬C k->∃ r,step k (S k)=.inl r)):
  ∀ m i,i+m=n->(∀ j,j<i->C j)->((∀ k,i<=k->k<n->C k)->aq step m i (S i)=.inr (S n))/\(¬ (∀ k,i<=k->k<n->C k)->∃ r,aq step m i (S i)=.inl r)
 |0,i,h,hi=>⟨fun _=>by rw[show i=n by omega];rfl,fun hn=>absurd (fun k h1 h2=>by omega) hn⟩
 |m+1,i,h,hi=>by
  obtain⟨h1,h2⟩:=hc i (by omega) hi;by_cases hC:C i
  ·have hi':∀ j,j<i+1->C j:=fun j hj=>by
    rcases Nat.lt_or_ge j i with h'|h'
    ·exact hi j h'
    ·rw[show j=i by omega];exact hC
   obtain⟨g1,g2⟩:=yH S n C hc m (i+1) (by omega) hi';simp only[aq,h1 hC];refine⟨fun ha=>g1 fun k hk1 hk2=>ha k (by omega) hk2,fun hn=>g2 fun ha=>hn fun k hk1 hk2=>?_⟩;rcases Nat.lt_or_ge i k with h'|h'
   ·exact ha k h' hk2
   ·rw[show k=i by omega];exact hC
  ·obtain⟨r,hr⟩:=h2 hC;simp only[aq,hr];exact⟨fun ha=>absurd (ha i (Nat.le_refl _) (by omega)) hC,fun _=>⟨r,rfl⟩⟩
theorem o6 (n lo hi:Int):aJ n lo hi=true↔lo<=n/\n<=hi:=by
 unfold aJ;simp
theorem w6 (n:Int){k:Nat}(h:k<=4096):aJ n 0 (i64.wrap ((k:Int) - 1))=true↔0<=n/\n< (k:Int):=by
 rw[o6,bB (by omega) (by omega)];omega
def qb:List Part->Rat
 | [] =>0
 |x::r=>rv x.share+qb r
theorem EM (a b:List Part):qb (a++b)=qb a+qb b:=by
 induction a with
 |nil=>simp[qb,Rat.zero_add]
 |cons x r ih=>simp only[List.cons_append,qb,ih,Rat.add_assoc]
structure PartOk (d:District)(x:Part):Prop where
 f0:0<=x.farm
 f1:x.farm< (d.farms.length:Int)
 share:RatioOk x.share
 pos:0<x.share.n
structure PartsOk (d:District)(l:List Part):Prop where
 len1:1<=l.length
 len:l.length<=16
 part:∀ x∈l,PartOk d x
 apart:(l.map fun x=>x.farm).Nodup
 sum:qb l=1
theorem EN {d:District}{l:List Part}(hf:d.farms.length<=600)(h:gu d l=true):PartsOk d l:=by
 unfold gu at h;cases hr:aq (eW d l) l.length 0 (0,1,[])with
 |inl x=>rw[hr]at h;cases h
 |inr s=>
  rw[hr]at h;have hJ:=tK (fun k s=>rv { n:=s.1,d:=s.2.1} =qb (l.take k)/\(∀ x∈l.take k,PartOk d x)/\((l.take k).map fun x=>x.farm).Nodup/\∀ f:Int,dG .int .bool s.2.2 f=decide (f∈(l.take k).map fun x=>x.farm)) l.length 0 (0,1,([]:List (Int×Bool))) ⟨by show((0:Int):Rat) / ((1:Int):Rat)=0;first|rfl|grind,by simp,by simp,fun f=>by simp[dG,eI,di]⟩ (fun j s _ hj ⟨j1,j2,j3,j4⟩ s' hs=>by
   rw[Nat.zero_add]at hj;unfold eW at hs;cases hc:(((!(aJ ((l.getD j (default:Part)).farm) 0 (i64.wrap ((d.farms.length:Int) - 1)))) ||(dG .int .bool s.2.2 ((l.getD j (default:Part)).farm))) ||(decide ((l.getD j (default:Part)).share.n<=0)))with
   |true=>rw[hc]at hs;cases hs
   |false=>
    rw[hc]at hs;simp only[Bool.or_eq_false_iff,Bool.not_eq_false',decide_eq_false_iff_not]at hc;obtain⟨⟨c1,c2⟩,c3⟩:=hc;rw[w6 _ (by omega)]at c1;cases he:((fW ({ n:=s.1,d:=s.2.1}:Ratio) ((l.getD j (default:Part)).share)).2 !=0)with
    |true=>rw[he]at hs;cases hs
    |false=>
     rw[he]at hs;simp only[cond_false,Sum.inr.injEq]at hs;subst hs;have he:(fW ({ n:=s.1,d:=s.2.1}:Ratio) ((l.getD j (default:Part)).share)).2=0:=by simpa using he
     obtain⟨a1,a2,a3,a4⟩:=KC (r:=(fW ({ n:=s.1,d:=s.2.1}:Ratio) ((l.getD j (default:Part)).share)).1) (by rw[<-he]);rw[dA l default hj];rw[j4,decide_eq_false_iff_not]at c2;refine⟨?_,fun x hx=>?_,?_,fun f=>?_⟩
     ·rw[EM,<-j1];simp only[qb,Rat.add_zero];exact a4
     ·rcases List.mem_append.1 hx with hx|hx
      ·exact j2 x hx
      ·simp only[List.mem_singleton]at hx;subst hx;exact⟨c1.1,c1.2,a2,by omega⟩
     ·rw[List.map_append,List.nodup_append];refine⟨j3,by simp,fun a ha b hb=>?_⟩;simp only[List.map_cons,List.map_nil,List.mem_singleton]at hb;subst hb;rintro rfl;exact c2 ha
     ·rw[nZ,List.map_append];by_cases hf:f=(l.getD j (default:Part)).farm
      ·subst hf;simp
      ·rw[if_neg hf,j4,decide_eq_decide];simp only[List.mem_append,List.map_cons,List.map_nil,List.mem_singleton];exact⟨.inl,fun h=>h.elim id fun e=>absurd e hf⟩) s hr
  rw[Nat.zero_add,List.take_length]at hJ;obtain⟨j1,j2,j3,_⟩:=hJ;simp only[Bool.and_eq_true,beq_iff_eq]at h;obtain⟨h1,h2,h3⟩:=h;rw[o6]at h1;refine⟨by omega,by omega,j2,j3,?_⟩;rw[<-j1,h2,h3];show((1:Int):Rat) / ((1:Int):Rat)=1;first|rfl|grind
theorem HG (d:District)(l:List Part):gK d l:=fun _=>mB _ _ _ fun j s _ _ _ _=>OO _ _
theorem KD (d:District)(m:List (Int×Deed))(x:Deed):ip d m x:=fun _ hf hr=>⟨fun h=>by
  rw[o6,bB (by omega) (by unfold bR at *;omega)]at h;omega,fun _ _ _=>HG _ _⟩
theorem fT (d:District)(l:List Deed):cX d l:=fun _ _ _ hl=>mB _ _ _ fun j s _ hj=>⟨fun h=>by
  rw[decide_eq_true_eq]at h;rw[bB (by omega) (by unfold bR at *;omega)];omega,fun _=>KD _ _ _⟩
def mW (l:List Deed):List (Int×Deed):=l.foldl (fun m x=>fe .int .deed m x.no x) []
theorem qY (l:List Deed)(x:Deed):mW (l++[x])=fe .int .deed (mW l) x.no x:=by
 unfold mW;rw[List.foldl_append];rfl
def Asc (l:List Deed):Prop:=l.Pairwise fun x y=>x.no<y.no
def Chk (d:District):List Deed->List Deed->Prop
 |_,[] =>True
 |b,x::r=>(∀ y∈b,y.no<x.no)/\cp d (mW b) x=true/\Chk d (b++[x]) r
theorem Chk.asc {d:District}:∀ {r b:List Deed},Asc b->Chk d b r->Asc (b++r)
 | [],b,h,_=>by simpa using h
 |x::r,b,h,⟨h1,_,h3⟩ =>by
  have:Asc (b++[x]):=List.pairwise_append.2 ⟨h,List.pairwise_singleton _ _,fun y hy z hz=>by simp at hz;subst hz;exact h1 y hy⟩;simpa using Chk.asc this h3
theorem oF (l:List Deed):aM l=false↔∀ x∈l,x.parts.length<=16:=by
 unfold aM cy;have key:∀ l:List Deed,(match fg (ρ:=Unit) (fun(x:Deed) (_:Unit) =>bif cF x then .inl ()else .inr ()) l ()with| .inl _=>False| .inr _=>True)↔∀ x∈l,x.parts.length<=16:=fun l=>by
  induction l with
  |nil=>simp[fg]
  |cons x r ih=>
   simp only[fg];unfold cF at ih |-;by_cases hx:(x.parts.length:Int) > 16
   ·rw[decide_eq_true hx];simp only[cond_true,false_iff];intro h;have:=h x (by simp);omega
   ·rw[decide_eq_false hx];simp only[cond_false,ih,List.mem_cons,forall_eq_or_imp];constructor
    ·exact fun h=>⟨by omega,h⟩
    ·exact fun h=>h.2
 have hI:∀ (n i:Nat),i+n=l.length->((∃ j,i<=j/\j<l.length/\cF (l.getD j default)=true)/\(∃ q:Nat,aq (bE l) n i ()=.inl (q:Int)))\/((∀ j,i<=j->j<l.length->cF (l.getD j default)=false)/\aq (bE l) n i ()=.inr ()):=fun n=>by
  induction n with
  |zero=>exact fun i h=>.inr ⟨fun j h1 h2=>by omega,rfl⟩
  |succ n ih=>
   intro i h;simp only[aq,bE];cases hc:cF (l.getD i default)with
   |true=>exact .inl ⟨⟨i,Nat.le_refl _,by omega,hc⟩,i,rfl⟩
   |false=>
    simp only[cond_false];rcases ih (i+1) (by omega)with⟨⟨j,h1,h2,h3⟩,h4⟩ | ⟨h1,h2⟩
    ·exact .inl ⟨⟨j,by omega,h2,h3⟩,h4⟩
    ·refine .inr ⟨fun j h3 h4=>?_,h2⟩;rcases Nat.lt_or_ge i j with h5|h5
     ·exact h1 j h5 h4
     ·rw[show j=i by omega];exact hc
 rcases hI l.length 0 (by omega)with⟨⟨j,_,h2,h3⟩,q,h4⟩ | ⟨h1,h2⟩
 ·rw[h4];simp only[decide_eq_false_iff_not];refine⟨fun h=>by omega,fun h=>?_⟩;have:=h (l.getD j default) (by rw[nY l _ h2];exact List.getElem_mem _);unfold cF at h3;rw[decide_eq_true_eq]at h3;omega
 ·rw[h2];simp only;refine⟨fun _ x hx=>?_,fun _=>by decide⟩;obtain⟨j,hj,rfl⟩:=List.mem_iff_getElem.1 hx;have:=h1 j (Nat.zero_le _) hj;rw[nY l _ hj]at this;unfold cF at this;rw[decide_eq_false_iff_not]at this;omega
theorem CB (d:District)(l:List Deed)(hl:l.length<=4096):(∀ k,k<l.length->((0<k->(l.getD (k - 1) default).no< (l.getD k default).no)/\cp d (mW (l.take k)) (l.getD k default)=true))↔Chk d [] l:=by
 have key:∀ (r b:List Deed),l=b++r->Asc b->((∀ k,b.length<=k->k<l.length->((0<k->(l.getD (k - 1) default).no< (l.getD k default).no)/\cp d (mW (l.take k)) (l.getD k default)=true))↔Chk d b r):=fun r=>by
  induction r with
  |nil=>exact fun b h _=>⟨fun _=>trivial,fun _ k h1 h2=>by rw[h]at h2;simp at h2;omega⟩
  |cons x r ih=>
   intro b h hA;have hk:b.length<l.length:=by rw[h];simp
   have g:l.getD b.length default=x:=by rw[h];simp[List.getD_eq_getElem?_getD]
   have t:l.take b.length=b:=by rw[h];simp
   have hlast:(∀ y∈b,y.no<x.no)↔(0<b.length->(l.getD (b.length - 1) default).no<x.no):=by
    rcases List.eq_nil_or_concat b with rfl| ⟨b',y,rfl⟩
    ·simp
    ·rw[List.concat_eq_append]at h hA hk g t |-;have g2:l.getD ((b'++[y]).length - 1) default=y:=by rw[h];simp[List.getD_eq_getElem?_getD]
     rw[g2];refine⟨fun hh _=>hh y (by simp),fun hh z hz=>?_⟩;have hy:=hh (by simp);rcases List.mem_append.1 hz with hz|hz
     ·exact Int.lt_trans ((List.pairwise_append.1 hA).2.2 z hz y (by simp)) hy
     ·simp at hz;subst hz;exact hy
   constructor
   ·intro hh;have h1:=hh b.length (Nat.le_refl _) hk;rw[g,t]at h1;have h2:=hlast.2 h1.1;have hA':Asc (b++[x]):=List.pairwise_append.2 ⟨hA,List.pairwise_singleton _ _,fun y hy z hz=>by simp at hz;subst hz;exact h2 y hy⟩;exact⟨h2,h1.2,(ih (b++[x]) (by rw[h];simp) hA').1 fun k hk1 hk2=>hh k (by simp at hk1;omega) hk2⟩
   ·rintro⟨h2,h3,h4⟩ k hk1 hk2;have hA':Asc (b++[x]):=List.pairwise_append.2 ⟨hA,List.pairwise_singleton _ _,fun y hy z hz=>by simp at hz;subst hz;exact h2 y hy⟩;rcases Nat.eq_or_lt_of_le hk1 with rfl|hk1
    ·rw[g,t];exact⟨hlast.1 h2,h3⟩
    ·exact(ih (b++[x]) (by rw[h];simp) hA').2 h4 k (by simp;omega) hk2
 have:=key l [] rfl List.Pairwise.nil;simpa using this
theorem qZ (d:District)(l:List Deed):ah d l=0↔bY d=0/\l.length<=512/\(∀ x∈l,x.parts.length<=16)/\Chk d [] l:=by
 unfold ah;cases h1:(bY d !=0)with
 |true=>
  have:bY d≠0:=by simpa using h1
  simp[this]
 |false=>
  have h1:bY d=0:=by simpa using h1
  simp only[cond_false,h1,true_and];by_cases hl:l.length<=512
  ·have:decide ((l.length:Int) > 512)=false:=by rw[decide_eq_false_iff_not];omega
   rw[this,Bool.false_or];cases h2:aM l with
   |true=>
    simp only[cond_true,hl,true_and];refine⟨(fun h=>by cases h),fun h=>?_⟩;have:=(oF l).2 h.1;rw[h2]at this;cases this
   |false=>
    have h3:=(oF l).1 h2;simp only[cond_false,hl,true_and,and_iff_right h3];rw[<-CB d l (by omega)];obtain⟨g1,g2⟩:=yH (step:=dy d l) (fun k=>mW (l.take k)) l.length (fun k=>(0<k->(l.getD (k - 1) default).no< (l.getD k default).no)/\cp d (mW (l.take k)) (l.getD k default)=true) (fun k hk _=>by
     unfold dy;have e0:(decide ((k:Int) > 0)&&decide ((l.getD k (default:Deed)).no<=(l.getD (Int.toNat (i64.wrap ((k:Int) - 1))) (default:Deed)).no))= !decide (0<k->(l.getD (k - 1) default).no< (l.getD k default).no):=by
      by_cases h0:0<k
      ·rw[Cz (by omega) h0,Int.toNat_natCast];by_cases h4:(l.getD (k - 1) default).no< (l.getD k default).no
       ·rw[decide_eq_true (by omega:(k:Int) > 0),Bool.true_and,decide_eq_false (by omega),decide_eq_true (fun _=>h4)];rfl
       ·rw[decide_eq_true (by omega:(k:Int) > 0),Bool.true_and,decide_eq_true (by omega),decide_eq_false (fun h=>h4 (h h0))];rfl
      ·have:k=0:=by omega
       subst this;simp
     rw[e0];constructor
     ·rintro⟨a,b⟩;rw[decide_eq_true a,b];simp only[Bool.not_true,Bool.or_false,cond_false];rw[dA l default hk,qY]
     ·intro hn;refine⟨(),?_⟩;have:(!decide (0<k->(l.getD (k - 1) default).no< (l.getD k default).no) || !cp d (mW (l.take k)) (l.getD k default))=true:=by
       cases hd:decide (0<k->(l.getD (k - 1) default).no< (l.getD k default).no)with
       |false=>rfl
       |true=>
        cases hf:cp d (mW (l.take k)) (l.getD k default)with
        |false=>rfl
        |true=>exact absurd ⟨of_decide_eq_true hd,hf⟩ hn
      rw[this];rfl) l.length 0 (by omega) (fun j hj=>by omega)
    by_cases hall:∀ k,0<=k->k<l.length->(0<k->(l.getD (k - 1) default).no< (l.getD k default).no)/\cp d (mW (l.take k)) (l.getD k default)=true
    ·have e:=g1 hall;rw[List.take_zero]at e;have e':aq (dy d l) l.length 0 []=.inr (mW (l.take l.length)):=e;rw[e'];exact⟨fun _ k hk=>hall k (Nat.zero_le _) hk,fun _=>rfl⟩
    ·obtain⟨r,e⟩:=g2 hall;rw[List.take_zero]at e;have e':aq (dy d l) l.length 0 []=.inl r:=e;rw[e'];exact⟨(fun h=>by cases h),fun h=>absurd (fun k _ hk=>h k hk) hall⟩
  ·have:decide ((l.length:Int) > 512)=true:=by rw[decide_eq_true_eq];omega
   rw[this,Bool.true_or];simp[hl]
theorem tZ {ρ σ:Type}{step:Nat->σ->ρ⊕σ}{p:Nat->σ->Prop}(m:σ->Nat)(J:σ->Prop)(Q:ρ->Prop)(h:∀ k s,J s->p k s/\((∃ r,step k s=.inl r/\Q r)\/∃ s',step k s=.inr s'/\m s'<m s/\J s')):∀ (n i:Nat) (s:σ),J s->m s<n->okI step p n i s/\∃ r,aq step n i s=.inl r/\Q r
 |0,_,_,_,hm=>absurd hm (Nat.not_lt_zero _)
 |n+1,i,s,hJ,hm=>by
  obtain⟨h1,h2⟩:=h i s hJ;rcases h2 with⟨r,e,hq⟩ | ⟨s',e,hlt,hJ'⟩
  ·refine⟨⟨h1,fun s'' e'=>?_⟩,r,?_,hq⟩
   ·rw[e]at e';cases e'
   ·simp only[aq,e]
  ·obtain⟨q1,q2⟩:=tZ m J Q h n (i+1) s' hJ' (by omega);refine⟨⟨h1,fun s'' e'=>?_⟩,?_⟩
   ·rw[e]at e';cases e';exact q1
   ·simp only[aq,e];exact q2
theorem rG {ρ σ:Type}{x:ρ⊕σ}{Q:ρ->Prop}(h:∃ r,x=.inl r/\Q r):∀ z,x≠ .inr z:=fun z e=>by
 obtain⟨r,e1,_⟩:=h;rw[e1]at e;cases e
theorem Br (a b:Deed):decide (cn a b<0)=decide (a.at_<b.at_):=by
 unfold cn;rw[lw];by_cases h:a.at_<b.at_
 ·simp[h]
 ·by_cases h2:a.at_ > b.at_ <;>simp[h,h2]
theorem i7 {α:Type}(A:List α)(x d:α)(T:List α){i:Nat}(h:i=A.length):(A++x::T).getD i d=x:=by
 subst h;simp[List.getD_eq_getElem?_getD]
theorem mH {α:Type}(A:List α)(x y:α)(T:List α){i:Nat}(h:i=A.length):(A++x::T).set i y=A++y::T:=by
 subst h;simp
def SameF (l l':List Deed):Prop:= ∀ t:Int,l.filter (fun x=>x.at_==t)=l'.filter fun x=>x.at_==t
theorem SameF.refl (l:List Deed):SameF l l:=fun _=>rfl
theorem SameF.trans {a b c:List Deed}(h1:SameF a b)(h2:SameF b c):SameF a c:=fun t=>(h1 t).trans (h2 t)
theorem SameF.app {a b c d:List Deed}(h1:SameF a b)(h2:SameF c d):SameF (a++c) (b++d):=fun t=>by rw[List.filter_append,List.filter_append,h1 t,h2 t]
theorem SameF.swap {a b:List Deed}(h:∀ x∈a,∀ y∈b,x.at_≠y.at_):SameF (a++b) (b++a):=fun t=>by
 rw[List.filter_append,List.filter_append];by_cases ha:a.filter (fun x=>x.at_==t)=[]
 ·rw[ha];simp
 ·have hb:b.filter (fun x=>x.at_==t)=[]:=by
   rw[List.filter_eq_nil_iff];intro y hy hyt;obtain⟨x,hx⟩:=List.exists_mem_of_ne_nil _ ha;rw[List.mem_filter]at hx;have e1:x.at_=t:=by simpa using hx.2
   have e2:y.at_=t:=by simpa using hyt
   exact h x hx.1 y hy (by rw[e1,e2])
  rw[hb];simp
def Srt (l:List Deed):Prop:=l.Pairwise fun x y=>x.at_<=y.at_
theorem CC (A S R:List Deed)(x:Deed)(l_:List Deed)(hl:(A++S++x::R).length<2 ^ 62)(hfuel:(A++S++x::R).length=l_.length):
  okI (aL A.length l_) (aS A.length l_) (l_.length+1) 0 (A++S++x::R,((A.length+S.length:Nat):Int))/\
  ∃ r,aq (aL A.length l_) (l_.length+1) 0 (A++S++x::R,((A.length+S.length:Nat):Int))=.inl r/\
   ∃ S1 S2,S=S1++S2/\r=A++S1++x::(S2++R)/\(∀ y∈S2,x.at_<y.at_)/\∀ y,S1.getLast? =some y->y.at_<=x.at_:=by
 refine tZ (fun s:List Deed×Int=>(s.2 - (A.length:Int)).toNat) (fun s:List Deed×Int=>∃ S1 S2,S=S1++S2/\s=(A++S1++x::(S2++R),((A.length+S1.length:Nat):Int))/\∀ y∈S2,x.at_<y.at_) (fun r=>∃ S1 S2,S=S1++S2/\r=A++S1++x::(S2++R)/\(∀ y∈S2,x.at_<y.at_)/\∀ y,S1.getLast? =some y->y.at_<=x.at_) ?_ _ _ _ ⟨S,[],by simp,by simp,by simp⟩ (by simp only[List.length_append,List.length_cons]at hl hfuel;omega);rintro k s ⟨S1,S2,hS,rfl,hlt⟩;simp only[List.length_append,List.length_cons]at hl hfuel;have hlen:S.length=S1.length+S2.length:=by rw[hS,List.length_append]
 rcases List.eq_nil_or_concat S1 with rfl| ⟨S1',y,rfl⟩
 ·unfold aS aL;have e:decide (((A.length+([]:List Deed).length:Nat):Int) > A.length)=false:=by simp
  refine⟨⟨fun h=>?_,fun h=>?_,fun h=>?_⟩,.inl ⟨_,?_,[],S2,hS,rfl,hlt,fun y hy=>by simp at hy⟩⟩
  ·rw[e]at h;cases h
  ·rw[e]at h;cases h
  ·rw[e]at h;cases h
  ·simp only[e,Bool.false_and,cond_false]
 ·simp only[List.concat_eq_append,List.length_append,List.length_cons,List.length_nil]at hlen |-;have w:i64.wrap (((A.length+(S1'.length+(0+1)):Nat):Int) - 1)=((A.length+S1'.length:Nat):Int):=by rw[bB (by omega) (by omega)];omega
  have e:decide (((A.length+(S1'.length+(0+1)):Nat):Int) > A.length)=true:=by rw[decide_eq_true_eq];omega
  have g1:(A++(S1'++[y])++x::(S2++R)).getD (A.length+(S1'.length+(0+1))) default=x:=i7 _ _ _ _ (by simp);have hr:A++(S1'++[y])++x::(S2++R)=(A++S1')++y::x::(S2++R):=by simp
  have g2:(A++(S1'++[y])++x::(S2++R)).getD (A.length+S1'.length) default=y:=by rw[hr];exact i7 _ _ _ _ (by simp)
  have hL:(A++(S1'++[y])++x::(S2++R)).length=A.length+(S1'.length+1)+(S2.length+R.length+1):=by simp;omega
  unfold aS aL;simp only[w,Int.toNat_natCast,g1,g2,Br,e,Bool.true_and,List.length_set,hL];refine⟨⟨fun _=>by omega,fun _=>by omega,fun _=>by omega⟩,?_⟩;by_cases h:x.at_<y.at_
  ·right;rw[decide_eq_true h,cond_true];refine⟨_,rfl,by simp only;omega,S1',y::S2,by rw[hS];simp,?_,fun z hz=>?_⟩
   ·rw[mH (A++(S1'++[y])) x y (S2++R) (by simp)];have:A++(S1'++[y])++y::(S2++R)=(A++S1')++y::y::(S2++R):=by simp
    rw[this,mH (A++S1') y x _ (by simp)];simp
   ·rcases List.mem_cons.1 hz with rfl|hz
    ·exact h
    ·exact hlt z hz
  ·left;rw[decide_eq_false h,cond_false];exact⟨_,rfl,S1'++[y],S2,hS.trans (by simp),by simp,hlt,fun z hz=>by simp at hz;subst hz;omega⟩
theorem EO {l:List Deed}{c:Int}(h:Srt l)(hl:∀ y,l.getLast? =some y->y.at_<=c):∀ z∈l,z.at_<=c:=fun z hz=>by
 rcases List.eq_nil_or_concat l with rfl| ⟨l',y,rfl⟩
 ·cases hz
 ·rw[List.concat_eq_append]at h hz hl;have hy:=hl y (by simp);unfold Srt at h;rw[List.pairwise_append]at h;rcases List.mem_append.1 hz with hz|hz
  ·exact Int.le_trans (h.2.2 z hz y (by simp)) hy
  ·simp at hz;subst hz;exact hy
theorem HH {S1 S2:List Deed}{x:Deed}(h:Srt (S1++S2))(h2:∀ y∈S2,x.at_<y.at_)(h1:∀ z∈S1,z.at_<=x.at_):Srt (S1++x::S2):=by
 unfold Srt at h |-;rw[List.pairwise_append]at h |-;refine⟨h.1,List.pairwise_cons.2 ⟨fun y hy=>Int.le_of_lt (h2 y hy),h.2.1⟩,fun z hz y hy=>?_⟩;rcases List.mem_cons.1 hy with rfl|hy
 ·exact h1 z hz
 ·exact h.2.2 z hz y hy
theorem vF (A M R:List Deed)(hl:(A++M++R).length<2 ^ 62):
  aB A.length ((A.length+M.length:Nat):Int) (A++M++R)/\
  ∃ M',am A.length ((A.length+M.length:Nat):Int) (A++M++R)=A++M'++R/\SameF M M'/\Srt M':=by
 have hlen:(A++M++R).length=A.length+M.length+R.length:=by simp[Nat.add_assoc]
 have w0:i64.wrap ((A.length:Int)+1)=((A.length+1:Nat):Int):=by rw[bB (by omega) (by omega)];omega
 have key:okI (aA A.length ((A.length+M.length:Nat):Int) (A++M++R)) (aG A.length ((A.length+M.length:Nat):Int) (A++M++R)) ((A++M++R).length+1) 0 (A++M++R,((A.length+1:Nat):Int))/\
   ∃ r,aq (aA A.length ((A.length+M.length:Nat):Int) (A++M++R)) ((A++M++R).length+1) 0 (A++M++R,((A.length+1:Nat):Int))=.inl r/\∃ M',r=A++M'++R/\SameF M M'/\Srt M':=by
  refine tZ (fun s:List Deed×Int=>(((A.length+M.length:Nat):Int) - s.2).toNat) (fun s:List Deed×Int=>(M=[]/\s=(A++M++R,((A.length+1:Nat):Int)))\/∃ S T,s=(A++S++(T++R),((A.length+S.length:Nat):Int))/\SameF M (S++T)/\Srt S/\M.length=S.length+T.length) (fun r=>∃ M',r=A++M'++R/\SameF M M'/\Srt M') ?_ _ _ _ ?_ (by simp only;omega)
  ·rintro k s (⟨rfl,rfl⟩ | ⟨S,T,rfl,hF,hS,hMl⟩)
   ·unfold aG aA;have e:decide (((A.length+1:Nat):Int) < ((A.length+([]:List Deed).length:Nat):Int))=false:=by rw[decide_eq_false_iff_not];simp only[List.length_nil];omega
    refine⟨fun h=>?_,.inl ⟨_,?_,[],rfl,SameF.refl _,List.Pairwise.nil⟩⟩
    ·rw[e]at h;cases h
    ·simp only[e,cond_false]
   ·cases T with
    |nil=>
     unfold aG aA;have e:decide (((A.length+S.length:Nat):Int) < ((A.length+M.length:Nat):Int))=false:=by rw[decide_eq_false_iff_not];simp only[List.length_nil]at hMl;omega
     refine⟨fun h=>?_,.inl ⟨A++S++([]++R),?_,S,by simp,by simpa using hF,hS⟩⟩
     ·rw[e]at h;cases h
     ·simp only[e,cond_false]
    |cons x T=>
     simp only[List.length_cons]at hMl;have e:decide (((A.length+S.length:Nat):Int) < ((A.length+M.length:Nat):Int))=true:=by rw[decide_eq_true_eq];omega
     have hl2:(A++S++x::(T++R)).length=(A++M++R).length:=by simp;omega
     obtain⟨i1,r,i2,S1,S2,rfl,rfl,i3,i4⟩:=CC A S (T++R) x (A++M++R) (by omega) hl2;have hS1:Srt S1:=(List.pairwise_append.1 hS).1;have w:i64.wrap (((A.length+(S1++S2).length:Nat):Int)+1)=((A.length+(S1++x::S2).length:Nat):Int):=by
      rw[bB (by omega) (by simp only[List.length_append]at *;omega)];simp only[List.length_append,List.length_cons];omega
     unfold aG aA;refine⟨fun _=>⟨i1,rG (Q:=fun _=>True) ⟨_,i2,trivial⟩⟩,.inr ⟨_,?_,?_,.inr ⟨S1++x::S2,T,rfl,?_,HH hS i3 (EO hS1 i4),by simp only[List.length_append,List.length_cons]at *;omega⟩⟩⟩
     ·simp only[e,cond_true,List.cons_append];rw[i2];simp only[w];simp
     ·simp only[List.length_append,List.length_cons]at *;omega
     ·refine hF.trans ?_;have h0:SameF (S2++[x]) ([x]++S2):=SameF.swap fun y hy z hz=>by simp at hz;subst hz;have:=i3 y hy;omega
      have:=((SameF.refl S1).app h0).app (SameF.refl T);simpa using this
  ·cases M with
   |nil=>exact .inl ⟨rfl,rfl⟩
   |cons x T=>exact .inr ⟨[x],T,by simp,by simpa using SameF.refl _,List.pairwise_singleton _ _,by simp;omega⟩
 obtain⟨k1,r,k2,M',rfl,k3,k4⟩:=key;unfold aB am;rw[w0];refine⟨⟨k1,rG (Q:=fun _=>True) ⟨_,k2,trivial⟩⟩,M',?_,k3,k4⟩;rw[k2]
theorem w7 (A X B Y C:List Deed)(hxy:X.length=Y.length)(hl:(A++X++B++Y++C).length<2 ^ 62):
  aF A.length ((A.length+X.length+B.length:Nat):Int) X.length (A++X++B++Y++C)/\
  aI A.length ((A.length+X.length+B.length:Nat):Int) X.length (A++X++B++Y++C)=A++Y++B++X++C:=by
 have hlen:(A++X++B++Y++C).length=A.length+X.length+B.length+Y.length+C.length:=by simp[Nat.add_assoc]
 have step:∀ j s,0<=j->j<0+Int.toNat (X.length:Int)->(∃ X1 X2 Y1 Y2,X=X1++X2/\Y=Y1++Y2/\X1.length=j/\Y1.length=j/\s=A++Y1++X2++B++X1++Y2++C)->
   bF A.length ((A.length+X.length+B.length:Nat):Int) X.length j s/\∀ s',bg A.length ((A.length+X.length+B.length:Nat):Int) X.length j s=.inr s'->∃ X1 X2 Y1 Y2,X=X1++X2/\Y=Y1++Y2/\X1.length=j+1/\Y1.length=j+1/\s'=A++Y1++X2++B++X1++Y2++C:=by
  rintro j s _ hj ⟨X1,X2,Y1,Y2,hX,hY,h1,h2,rfl⟩;rw[Int.toNat_natCast,Nat.zero_add]at hj;have l1:X.length=X1.length+X2.length:=by rw[hX,List.length_append]
  have l2:Y.length=Y1.length+Y2.length:=by rw[hY,List.length_append]
  match X2,Y2,l1,l2,hX,hY with
  | [],_,l1,_,_,_=>simp at l1;omega
  |_::_,[],_,l2,_,_=>simp at l2;omega
  |x::X2,y::Y2,l1,l2,hX,hY=>
   simp only[List.length_cons]at l1 l2;have w1:i64.wrap ((A.length:Int)+(j:Int))=((A.length+j:Nat):Int):=by rw[bB (by omega) (by omega)];omega
   have w2:i64.wrap (((A.length+X.length+B.length:Nat):Int)+(j:Int))=((A.length+X.length+B.length+j:Nat):Int):=by rw[bB (by omega) (by omega)];omega
   have r1:A++Y1++x::X2++B++X1++y::Y2++C=(A++Y1)++x::(X2++B++X1++y::(Y2++C)):=by simp
   have r2:A++Y1++x::X2++B++X1++y::Y2++C=(A++Y1++x::X2++B++X1)++y::(Y2++C):=by simp
   have g1:(A++Y1++x::X2++B++X1++y::Y2++C).getD (A.length+j) default=x:=by rw[r1];exact i7 _ _ _ _ (by simp;omega)
   have g2:(A++Y1++x::X2++B++X1++y::Y2++C).getD (A.length+X.length+B.length+j) default=y:=by rw[r2];exact i7 _ _ _ _ (by simp;omega)
   have hL:(A++Y1++x::X2++B++X1++y::Y2++C).length=A.length+X.length+B.length+Y.length+C.length:=by simp;omega
   unfold bF bg;simp only[w1,w2,Int.toNat_natCast,g1,g2,List.length_set,hL];refine⟨by omega,fun s' e=>?_⟩;cases e;refine⟨X1++[x],X2,Y1++[y],Y2,by rw[hX];simp,by rw[hY];simp,by simp[h1],by simp[h2],?_⟩;rw[r1,mH (A++Y1) x y _ (by simp;omega)];have r3:A++Y1++y::(X2++B++X1++y::(Y2++C))=(A++Y1++y::X2++B++X1)++y::(Y2++C):=by simp
   rw[r3,mH _ y x _ (by simp;omega)];simp
 have h0:∃ X1 X2 Y1 Y2,X=X1++X2/\Y=Y1++Y2/\X1.length=0/\Y1.length=0/\A++X++B++Y++C=A++Y1++X2++B++X1++Y2++C:=⟨[],X,[],Y,rfl,rfl,rfl,rfl,by simp⟩;have hJ:=tK (fun k s=>∃ X1 X2 Y1 Y2,X=X1++X2/\Y=Y1++Y2/\X1.length=k/\Y1.length=k/\s=A++Y1++X2++B++X1++Y2++C) (Int.toNat (X.length:Int)) 0 _ h0 (fun j s a b c=>(step j s a b c).2);unfold aF aI;refine⟨⟨by omega,se (fun k s=>∃ X1 X2 Y1 Y2,X=X1++X2/\Y=Y1++Y2/\X1.length=k/\Y1.length=k/\s=A++Y1++X2++B++X1++Y2++C) _ 0 _ h0 step⟩,?_⟩;cases hr:aq (bg A.length ((A.length+X.length+B.length:Nat):Int) X.length) (Int.toNat (X.length:Int)) 0 (A++X++B++Y++C)with
 |inl x=>exact x.elim
 |inr r=>
  obtain⟨X1,X2,Y1,Y2,rfl,rfl,h1,h2,rfl⟩:=hJ r hr;rw[Int.toNat_natCast,Nat.zero_add]at h1 h2;have e1:X2=[]:=List.eq_nil_of_length_eq_zero (by rw[List.length_append]at h1;omega);have e2:Y2=[]:=List.eq_nil_of_length_eq_zero (by rw[hxy,List.length_append]at h2;omega);subst e1;subst e2;simp
theorem CD (A U V C:List Deed)(hU:U≠[])(hV:V≠[])(hl:(A++U++V++C).length<2 ^ 62):
  aW A.length ((A.length+U.length:Nat):Int) ((A.length+U.length+V.length:Nat):Int) (A++U++V++C)/\
  ai A.length ((A.length+U.length:Nat):Int) ((A.length+U.length+V.length:Nat):Int) (A++U++V++C)=A++V++U++C:=by
 have hlen:(A++U++V++C).length=A.length+U.length+V.length+C.length:=by simp[Nat.add_assoc]
 have w1:i64.wrap (((A.length+U.length:Nat):Int) - (A.length:Int))=(U.length:Int):=by rw[bB (by omega) (by omega)];omega
 have w2:i64.wrap (((A.length+U.length+V.length:Nat):Int) - ((A.length+U.length:Nat):Int))=(V.length:Int):=by rw[bB (by omega) (by omega)];omega
 have hm:∀ {M:Nat},M=A.length+U.length->∀ {F:List Deed},F=A++V++U++C->okI (bG A.length (M:Int) ((A.length+U.length+V.length:Nat):Int)) (bU A.length (M:Int) ((A.length+U.length+V.length:Nat):Int)) (Int.toNat (((A.length+U.length+V.length:Nat):Int) - (A.length:Int))+1) 0 (A++U++V++C,(U.length:Int),(V.length:Int))/\
   ∃ r,aq (bG A.length (M:Int) ((A.length+U.length+V.length:Nat):Int)) (Int.toNat (((A.length+U.length+V.length:Nat):Int) - (A.length:Int))+1) 0 (A++U++V++C,(U.length:Int),(V.length:Int))=.inl r/\∃ A1 U1 V1 C1,r=((U1.length:Int),A1++U1++V1++C1)/\U1.length=V1.length/\A1.length+U1.length=M/\A1++V1++U1++C1=F:=by
  intro M hM F hF;refine tZ (fun s:List Deed×Int×Int=>(s.2.1+s.2.2).toNat) (fun s:List Deed×Int×Int=>∃ A1 U1 V1 C1,s=(A1++U1++V1++C1,(U1.length:Int),(V1.length:Int))/\U1≠[]/\V1≠[]/\A1.length+U1.length=M/\A1++V1++U1++C1=F) _ ?_ _ _ _ ⟨A,U,V,C,rfl,hU,hV,hM.symm,hF.symm⟩ (by simp only;omega);rintro k s ⟨A1,U1,V1,C1,rfl,hU1,hV1,hM1,hF1⟩;have hFl:A1.length+V1.length+U1.length+C1.length<2 ^ 62:=by
   have:=congrArg List.length (hF1.trans hF);simp only[List.length_append]at this hl;omega
  have pU:0<U1.length:=List.length_pos_iff.2 hU1;have pV:0<V1.length:=List.length_pos_iff.2 hV1;unfold bU bG;have v1:i64.wrap ((M:Int) - (U1.length:Int))=(A1.length:Int):=by rw[bB (by omega) (by omega)];omega
  by_cases he:U1.length=V1.length
  ·have b1:(((U1.length:Int)) !=((V1.length:Int)))=false:=by simp[he]
   refine⟨fun h=>?_,.inl ⟨_,?_,A1,U1,V1,C1,rfl,he,hM1,hF1⟩⟩
   ·simp only[b1]at h;cases h
   ·simp only[b1,cond_false]
  ·have b1:(((U1.length:Int)) !=((V1.length:Int)))=true:=by simp only[bne_iff_ne,ne_eq];omega
   by_cases hgt:V1.length<U1.length
   ·have b2:decide (((U1.length:Int)) > ((V1.length:Int)))=true:=by rw[decide_eq_true_eq];omega
    have v2:i64.wrap ((U1.length:Int) - (V1.length:Int))=((U1.drop V1.length).length:Int):=by rw[bB (by omega) (by omega),List.length_drop];omega
    have hsp:U1=U1.take V1.length++U1.drop V1.length:=(List.take_append_drop _ _).symm;have ht:(U1.take V1.length).length=V1.length:=by rw[List.length_take];omega
    have hd:(U1.drop V1.length).length=U1.length - V1.length:=List.length_drop;have hsw:=w7 A1 (U1.take V1.length) (U1.drop V1.length) V1 C1 ht (by simp only[List.length_append,ht,hd];omega);have e1:A1++U1.take V1.length++U1.drop V1.length++V1++C1=A1++U1++V1++C1:=by rw[List.append_assoc A1,List.take_append_drop]
    have e2:((A1.length+(U1.take V1.length).length+(U1.drop V1.length).length:Nat):Int)=(M:Int):=by rw[ht,hd];omega
    rw[e1,e2,ht]at hsw;simp only[b1,b2,v1,v2,cond_true];refine⟨fun _=>⟨fun _=>hsw.1,fun h=>by cases h⟩,.inr ⟨_,rfl,by simp only[hd];omega,A1++V1,U1.drop V1.length,U1.take V1.length,C1,?_,fun h=>?_,fun h=>?_,?_,?_⟩⟩
    ·rw[hsw.2,ht]
    ·rw[h]at hd;simp at hd;omega
    ·rw[h]at ht;simp at ht;omega
    ·rw[List.length_append,hd];omega
    ·rw[<-hF1,List.append_assoc (A1++V1),List.take_append_drop]
   ·have b2:decide (((U1.length:Int)) > ((V1.length:Int)))=false:=by rw[decide_eq_false_iff_not];omega
    have v2:i64.wrap ((V1.length:Int) - (U1.length:Int))=((V1.take (V1.length - U1.length)).length:Int):=by rw[bB (by omega) (by omega),List.length_take];omega
    have v3:i64.wrap (i64.wrap ((M:Int)+(V1.length:Int)) - (U1.length:Int))=((A1.length+U1.length+(V1.take (V1.length - U1.length)).length:Nat):Int):=by
     rw[bB (n:=(M:Int)+(V1.length:Int)) (by omega) (by omega),bB (by omega) (by omega),List.length_take];omega
    have ht:(V1.take (V1.length - U1.length)).length=V1.length - U1.length:=by rw[List.length_take];omega
    have hd:(V1.drop (V1.length - U1.length)).length=U1.length:=by rw[List.length_drop];omega
    have hsw:=w7 A1 U1 (V1.take (V1.length - U1.length)) (V1.drop (V1.length - U1.length)) C1 hd.symm (by simp only[List.length_append,ht,hd];omega);have e1:A1++U1++V1.take (V1.length - U1.length)++V1.drop (V1.length - U1.length)++C1=A1++U1++V1++C1:=by rw[List.append_assoc (A1++U1),List.take_append_drop]
    rw[e1]at hsw;simp only[b1,b2,v1,v2,v3,cond_true,cond_false];refine⟨fun _=>⟨(fun h=>by cases h),fun _=>hsw.1⟩,.inr ⟨_,rfl,by simp only[ht];omega,A1,V1.drop (V1.length - U1.length),V1.take (V1.length - U1.length),U1++C1,?_,fun h=>?_,fun h=>?_,by rw[hd];exact hM1,?_⟩⟩
    ·rw[hsw.2,hd];simp
    ·rw[h]at hd;simp at hd;omega
    ·rw[h]at ht;simp at ht;omega
    ·rw[<-hF1,List.append_assoc A1,List.take_append_drop];simp
 obtain⟨k1,r,k2,A1,U1,V1,C1,rfl,q1,q2,q3⟩:=hm rfl rfl;have hFl:A1.length+V1.length+U1.length+C1.length<2 ^ 62:=by
  have:=congrArg List.length q3;simp only[List.length_append]at this hl;omega
 have v1:i64.wrap (((A.length+U.length:Nat):Int) - (U1.length:Int))=(A1.length:Int):=by rw[bB (by omega) (by omega)];omega
 have hsw:=w7 A1 U1 [] V1 C1 q1 (by simp only[List.length_append,List.length_nil];omega);have e2:((A1.length+U1.length+([]:List Deed).length:Nat):Int)=((A.length+U.length:Nat):Int):=by rw[List.length_nil];omega
 rw[e2]at hsw;simp only[List.append_nil]at hsw;unfold aW ai;rw[w1,w2];refine⟨⟨k1,rG (Q:=fun _=>True) ⟨_,k2,trivial⟩,fun x hx=>?_⟩,?_⟩
 ·rw[k2]at hx;cases hx;simp only[v1];exact hsw.1
 ·rw[k2];simp only[v1];rw[hsw.2,q3]
theorem half {i j:Int}(h0:0<=i)(h1:i<=j)(h2:j<=2305843009213693952):i64.wrap (gD .u64 (u64.wrap (i64.wrap (i+j))) 1)=(i+j) / 2:=by
 have e0:i64.wrap (i+j)=i+j:=bB (by omega) (by omega);have e:u64.wrap (i+j)=i+j:=by
  unfold IntKind.wrap;simp[IntKind.bits,IntKind.signed];omega
 have e2:gD .u64 (i+j) 1=(i+j) / 2:=by
  show Int.fdiv (i+j) ((2:Int) ^ min (Int.toNat 1) u64.bits)=_;have:(2:Int) ^ min (Int.toNat 1) u64.bits=2:=by decide
  rw[this,Int.fdiv_eq_ediv_of_nonneg _ (by omega)]
 rw[e0,e,e2,bB (by omega) (by omega)]
theorem yI {i j:Nat}(h1:i<=j)(h2:j<2 ^ 61):i64.wrap (gD .u64 (u64.wrap (i64.wrap ((i:Int)+(j:Int)))) 1)=(((i+j) / 2:Nat):Int):=by
 rw[half (by omega) (by omega) (by omega)];omega
theorem w8 {step:Nat->Int×Int->Int⊕(Int×Int)}{p:Nat->Int×Int->Prop}(P:Nat->Bool)(lo hi:Nat)(hlh:lo<=hi)(hmono:∀ x y,lo<=x->x<=y->y<hi->P y=true->P x=true)
  (hstep:∀ k (i j:Nat),lo<=i->i<j->j<=hi->p k ((i:Int),(j:Int))/\step k ((i:Int),(j:Int))=bif P ((i+j) / 2)then .inr ((((i+j) / 2+1:Nat):Int),(j:Int))else .inr ((i:Int),(((i+j) / 2:Nat):Int)))
  (hstop:∀ k (i:Nat),p k ((i:Int),(i:Int))/\step k ((i:Int),(i:Int))=.inl (i:Int)) (n k:Nat) (hn:hi - lo<n):
  okI step p n k ((lo:Int),(hi:Int))/\∃ r,aq step n k ((lo:Int),(hi:Int))=.inl r/\∃ q:Nat,r=(q:Int)/\lo<=q/\q<=hi/\(∀ x,lo<=x->x<q->P x=true)/\∀ x,q<=x->x<hi->P x=false:=by
 refine tZ (fun s:Int×Int=>(s.2 - s.1).toNat) (fun s:Int×Int=>∃ i j:Nat,s=((i:Int),(j:Int))/\lo<=i/\i<=j/\j<=hi/\(∀ x,lo<=x->x<i->P x=true)/\∀ x,j<=x->x<hi->P x=false) _ ?_ n k _ ⟨lo,hi,rfl,Nat.le_refl _,hlh,Nat.le_refl _,fun x h1 h2=>by omega,fun x h1 h2=>by omega⟩ (by simp only;omega);rintro k s ⟨i,j,rfl,h1,h2,h3,h4,h5⟩;by_cases h:i<j
 ·obtain⟨q1,q2⟩:=hstep k i j h1 h h3;refine⟨q1,.inr ?_⟩;have hm1:i<=(i+j) / 2:=by omega
  have hm2:(i+j) / 2<j:=by omega
  cases hP:P ((i+j) / 2)with
  |true=>
   rw[hP]at q2;refine⟨_,q2,by simp only;omega,(i+j) / 2+1,j,rfl,by omega,by omega,h3,fun x hx1 hx2=>?_,h5⟩;exact hmono x _ hx1 (by omega) (by omega) hP
  |false=>
   rw[hP]at q2;refine⟨_,q2,by simp only;omega,i,(i+j) / 2,rfl,h1,hm1,by omega,h4,fun x hx1 hx2=>?_⟩;cases hx:P x with
   |false=>rfl
   |true=>rw[hmono _ x (by omega) hx1 hx2 hx]at hP;cases hP
 ·have e:i=j:=by omega
  subst e;obtain⟨q1,q2⟩:=hstop k i;exact⟨q1,.inl ⟨_,q2,i,rfl,h1,h3,h4,h5⟩⟩
theorem EP (A V C:List Deed)(x:Deed)(l_:List Deed)(hl:(A++x::V++C).length<2 ^ 62)(hfuel:(A++x::V++C).length=l_.length):
  okI (mE l_ ((A.length+1+V.length:Nat):Int)) (l6 l_ ((A.length+1+V.length:Nat):Int)) (l_.length+1) 0 (A++x::V++C,(A.length:Int))/\
  ∃ r,aq (mE l_ ((A.length+1+V.length:Nat):Int)) (l_.length+1) 0 (A++x::V++C,(A.length:Int))=.inl r/\r=A++V++x::C:=by
 have hlen:(A++x::V++C).length=A.length+V.length+C.length+1:=by simp;omega
 have w0:i64.wrap (((A.length+1+V.length:Nat):Int) - 1)=((A.length+V.length:Nat):Int):=by rw[bB (by omega) (by omega)];omega
 refine tZ (fun s:List Deed×Int=>(((A.length+V.length:Nat):Int) - s.2).toNat) (fun s:List Deed×Int=>∃ V1 V2,V=V1++V2/\s=(A++V1++x::(V2++C),((A.length+V1.length:Nat):Int))) (fun r=>r=A++V++x::C) ?_ _ _ _ ⟨[],V,rfl,by simp⟩ (by simp only;omega);rintro k s ⟨V1,V2,hV,rfl⟩;have hVl:V.length=V1.length+V2.length:=by rw[hV,List.length_append]
 unfold l6 mE;rw[w0];cases V2 with
 |nil=>
  have e:decide (((A.length+V1.length:Nat):Int) < ((A.length+V.length:Nat):Int))=false:=by rw[decide_eq_false_iff_not,hVl,List.length_nil];omega
  refine⟨fun h=>?_,.inl ⟨A++V1++x::([]++C),?_,by rw[hV];simp⟩⟩
  ·simp only[e]at h;cases h
  ·simp only[e,cond_false]
 |cons y V2=>
  simp only[List.length_cons]at hVl;have e:decide (((A.length+V1.length:Nat):Int) < ((A.length+V.length:Nat):Int))=true:=by rw[decide_eq_true_eq];omega
  have w1:i64.wrap (((A.length+V1.length:Nat):Int)+1)=((A.length+V1.length+1:Nat):Int):=by rw[bB (by omega) (by omega)];omega
  have g1:(A++V1++x::(y::V2++C)).getD (A.length+V1.length) default=x:=i7 _ _ _ _ (by simp);have r1:A++V1++x::(y::V2++C)=(A++V1++[x])++y::(V2++C):=by simp
  have g2:(A++V1++x::(y::V2++C)).getD (A.length+V1.length+1) default=y:=by rw[r1];exact i7 _ _ _ _ (by simp;omega)
  have hL:(A++V1++x::(y::V2++C)).length=A.length+V.length+C.length+1:=by simp;omega
  simp only[e,w1,Int.toNat_natCast,g1,g2,List.length_set,hL,cond_true];refine⟨fun _=>by omega,.inr ⟨_,rfl,by simp only;omega,V1++[y],V2,by rw[hV];simp,?_⟩⟩;rw[mH (A++V1) x y _ (by simp)];have r2:A++V1++y::(y::V2++C)=(A++V1++[y])++y::(V2++C):=by simp
  rw[r2,mH (A++V1++[y]) y x _ (by simp;omega)];simp[Nat.add_assoc]
theorem Aj (A U C:List Deed)(x:Deed)(l_:List Deed)(hl:(A++U++x::C).length<2 ^ 62)(hfuel:(A++U++x::C).length=l_.length):
  okI (mF l_ (A.length:Int)) (l7 l_ (A.length:Int)) (l_.length+1) 0 (A++U++x::C,((A.length+U.length:Nat):Int))/\
  ∃ r,aq (mF l_ (A.length:Int)) (l_.length+1) 0 (A++U++x::C,((A.length+U.length:Nat):Int))=.inl r/\r=A++x::(U++C):=by
 have hlen:(A++U++x::C).length=A.length+U.length+C.length+1:=by simp;omega
 refine tZ (fun s:List Deed×Int=>(s.2 - (A.length:Int)).toNat) (fun s:List Deed×Int=>∃ W1 W2,U=W1++W2/\s=(A++W1++x::(W2++C),((A.length+W1.length:Nat):Int))) (fun r=>r=A++x::(U++C)) ?_ _ _ _ ⟨U,[],by simp,by simp⟩ (by simp only;omega);rintro k s ⟨W1,W2,hU,rfl⟩;have hUl:U.length=W1.length+W2.length:=by rw[hU,List.length_append]
 unfold l7 mF;rcases List.eq_nil_or_concat W1 with rfl| ⟨W1,y,rfl⟩
 ·have e:decide (((A.length+([]:List Deed).length:Nat):Int) > (A.length:Int))=false:=by simp
  refine⟨fun h=>?_,.inl ⟨A++[]++x::(W2++C),?_,by rw[hU];simp⟩⟩
  ·simp only[e]at h;cases h
  ·simp only[e,cond_false]
 ·simp only[List.concat_eq_append,List.length_append,List.length_cons,List.length_nil]at hUl hU |-;have e:decide (((A.length+(W1.length+(0+1)):Nat):Int) > (A.length:Int))=true:=by rw[decide_eq_true_eq];omega
  have w1:i64.wrap (((A.length+(W1.length+(0+1)):Nat):Int) - 1)=((A.length+W1.length:Nat):Int):=by rw[bB (by omega) (by omega)];omega
  have g1:(A++(W1++[y])++x::(W2++C)).getD (A.length+(W1.length+(0+1))) default=x:=i7 _ _ _ _ (by simp);have r1:A++(W1++[y])++x::(W2++C)=(A++W1)++y::x::(W2++C):=by simp
  have g2:(A++(W1++[y])++x::(W2++C)).getD (A.length+W1.length) default=y:=by rw[r1];exact i7 _ _ _ _ (by simp)
  have hL:(A++(W1++[y])++x::(W2++C)).length=A.length+U.length+C.length+1:=by simp;omega
  simp only[e,w1,Int.toNat_natCast,g1,g2,List.length_set,hL,cond_true];refine⟨fun _=>by omega,.inr ⟨_,rfl,by simp only;omega,W1,y::W2,by rw[hU];simp,?_⟩⟩;rw[mH (A++(W1++[y])) x y _ (by simp)];have r2:A++(W1++[y])++y::(W2++C)=(A++W1)++y::y::(W2++C):=by simp
  rw[r2,mH (A++W1) y x _ (by simp)];simp
theorem qc {α:Type}(A V C:List α)(d:α){h:Nat}(h1:A.length<=h)(h2:h<A.length+V.length):(A++V++C).getD h d=V.getD (h - A.length) d:=by
 simp only[List.getD_eq_getElem?_getD];rw[List.append_assoc,List.getElem?_append_right h1,List.getElem?_append_left (by omega)]
theorem i9 {α:Type}(l:List α)(d:α){n:Nat}(h:n<l.length):l.getD n d=l[n]:=by
 simp[List.getD_eq_getElem?_getD,List.getElem?_eq_getElem h]
theorem jX {V:List Deed}(h:Srt V){i j:Nat}(h1:i<=j)(h2:j<V.length):(V.getD i default).at_<=(V.getD j default).at_:=by
 rcases Nat.eq_or_lt_of_le h1 with rfl|h1
 ·exact Int.le_refl _
 ·rw[i9 V _ (by omega),i9 V _ h2];exact List.pairwise_iff_getElem.1 h i j (by omega) h2 h1
theorem qd {V:List Deed}{k:Nat}{y:Deed}(h:y∈V.take k):∃ i,i<k/\i<V.length/\y=V.getD i default:=by
 obtain⟨i,hi,e⟩:=List.mem_iff_getElem.1 h;rw[List.length_take]at hi;refine⟨i,by omega,by omega,?_⟩;rw[i9 V _ (by omega),<-e,List.getElem_take]
theorem qe {V:List Deed}{k:Nat}{y:Deed}(h:y∈V.drop k):∃ i,k<=i/\i<V.length/\y=V.getD i default:=by
 obtain⟨i,hi,e⟩:=List.mem_iff_getElem.1 h;rw[List.length_drop]at hi;refine⟨k+i,by omega,by omega,?_⟩;rw[i9 V _ (by omega),<-e,List.getElem_drop]
theorem sf {a b:List Deed}(h:Srt (a++b)):Srt a/\Srt b/\∀ x∈a,∀ y∈b,x.at_<=y.at_:=List.pairwise_append.1 h
theorem t6 {a b:List Deed}(h1:Srt a)(h2:Srt b)(h3:∀ x∈a,∀ y∈b,x.at_<=y.at_):Srt (a++b):=List.pairwise_append.2 ⟨h1,h2,h3⟩
def IH (n:Nat)(rec_:Int->Int->Int->List Deed->List Deed)(recp_:Int->Int->Int->List Deed->Prop):Prop:=
 ∀ A U V C:List Deed,U≠[]->V≠[]->U.length+V.length<=n->(A++U++V++C).length<2 ^ 60->Srt U->Srt V->
  recp_ (A.length:Int) ((A.length+U.length:Nat):Int) ((A.length+U.length+V.length:Nat):Int) (A++U++V++C)/\
  ∃ M,rec_ (A.length:Int) ((A.length+U.length:Nat):Int) ((A.length+U.length+V.length:Nat):Int) (A++U++V++C)=A++M++C/\SameF (U++V) M/\Srt M/\M.length=U.length+V.length
theorem Ak (rec_:Int->Int->Int->List Deed->List Deed)(recp_:Int->Int->Int->List Deed->Prop)(A V C:List Deed)(x:Deed)(hl:(A++[x]++V++C).length<2 ^ 60)(hV:Srt V):
  mG rec_ recp_ (A.length:Int) ((A.length+1:Nat):Int) ((A.length+1+V.length:Nat):Int) (A++[x]++V++C)/\
  ∃ M,wY rec_ recp_ (A.length:Int) ((A.length+1:Nat):Int) ((A.length+1+V.length:Nat):Int) (A++[x]++V++C)=A++M++C/\SameF ([x]++V) M/\Srt M/\M.length=1+V.length:=by
 have hL:(A++[x]++V++C).length=A.length+V.length+C.length+1:=by simp;omega
 have w:i64.wrap (((A.length+1:Nat):Int) - (A.length:Int))=1:=by rw[bB (by omega) (by omega)];omega
 have gx:(A++[x]++V++C).getD A.length default=x:=by
  have:A++[x]++V++C=A++x::(V++C):=by simp
  rw[this];exact i7 _ _ _ _ rfl
 have gV:∀ h,A.length+1<=h->h<A.length+1+V.length->(A++[x]++V++C).getD h default=V.getD (h - (A.length+1)) default:=fun h h1 h2=>by
  have:=qc (A++[x]) V C default (h:=h) (by simp;omega) (by simp;omega);simpa using this
 have s:=w8 (step:=kx (A.length:Int) (A++[x]++V++C)) (p:=kG (A.length:Int) (A++[x]++V++C)) (fun h=>decide ((V.getD (h - (A.length+1)) default).at_<x.at_)) (A.length+1) (A.length+1+V.length) (by omega)
  (fun i j h1 h2 h3 h4=>by
   have:=jX hV (i:=i - (A.length+1)) (j:=j - (A.length+1)) (by omega) (by omega);simp only[decide_eq_true_eq]at h4 |-;omega)
  (fun k i j h1 h2 h3=>by
   have e:decide ((i:Int) < (j:Int))=true:=by rw[decide_eq_true_eq];omega
   unfold kG kx;simp only[yI (i:=i) (j:=j) (by omega) (by omega),e,cond_true,Int.toNat_natCast,gx,gV ((i+j) / 2) (by omega) (by omega),Br,hL];have w2:i64.wrap ((((i+j) / 2:Nat):Int)+1)=(((i+j) / 2+1:Nat):Int):=by rw[bB (by omega) (by omega)];omega
   rw[w2];exact⟨fun _=>by omega,rfl⟩)
  (fun k i=>by
   have e:decide ((i:Int) < (i:Int))=false:=by simp
   unfold kG kx;simp only[e,cond_false];exact⟨fun h=>by simp at h,trivial⟩) ((A++[x]++V++C).length+1) 0 (by omega)
 obtain⟨s1,r,s2,q,rfl,q1,q2,q3,q4⟩:=s;have ht:(V.take (q - (A.length+1))).length=q - (A.length+1):=by rw[List.length_take];omega
 have hVs:V.take (q - (A.length+1))++V.drop (q - (A.length+1))=V:=List.take_append_drop _ _;have hd1:∀ y∈V.take (q - (A.length+1)),y.at_<x.at_:=fun y hy=>by
  obtain⟨i,i1,i2,rfl⟩:=qd hy;have:=q3 (A.length+1+i) (by omega) (by omega);simpa[show A.length+1+i - (A.length+1)=i by omega]using this
 have hd2:∀ y∈V.drop (q - (A.length+1)),x.at_<=y.at_:=fun y hy=>by
  obtain⟨i,i1,i2,rfl⟩:=qe hy;have:=q4 (A.length+1+i) (by omega) (by omega);simpa[show A.length+1+i - (A.length+1)=i by omega]using this
 generalize hV1:V.take (q - (A.length+1))=V1 at *;generalize hV2:V.drop (q - (A.length+1))=V2 at *;subst hVs;have eq:A++[x]++(V1++V2)++C=A++x::V1++(V2++C):=by simp
 obtain⟨c1,r,c2,rfl⟩:=EP A V1 (V2++C) x (A++[x]++(V1++V2)++C) (by rw[<-eq];omega) (by rw[eq]);have eqq:((A.length+1+V1.length:Nat):Int)=(q:Int):=by rw[ht];omega
 rw[<-eq,eqq]at c1 c2;unfold mG wY;rw[w];refine⟨⟨fun _=>⟨s1,rG (Q:=fun _=>True) ⟨_,s2,trivial⟩,fun z hz=>?_⟩,fun h=>by cases h⟩,V1++[x]++V2,?_,?_,?_,?_⟩
 ·rw[s2]at hz;cases hz;exact⟨c1,rG (Q:=fun _=>True) ⟨_,c2,trivial⟩⟩
 ·rw[s2];simp only[BEq.rfl,cond_true];rw[c2];simp
 ·have h0:SameF ([x]++V1) (V1++[x]):=SameF.swap fun a ha b hb=>by simp at ha;subst ha;have:=hd1 b hb;omega
  simpa using h0.app (SameF.refl V2)
 ·obtain⟨a1,a2,a3⟩:=sf hV;refine t6 (t6 a1 (List.pairwise_singleton _ _) fun y hy z hz=>?_) a2 fun y hy z hz=>?_
  ·simp at hz;subst hz;exact Int.le_of_lt (hd1 y hy)
  ·rcases List.mem_append.1 hy with hy|hy
   ·exact a3 y hy z hz
   ·simp at hy;subst hy;exact hd2 z hz
 ·simp;omega
theorem yJ (rec_:Int->Int->Int->List Deed->List Deed)(recp_:Int->Int->Int->List Deed->Prop)(A U C:List Deed)(x:Deed)(hU2:2<=U.length)(hl:(A++U++[x]++C).length<2 ^ 60)(hU:Srt U):
  mG rec_ recp_ (A.length:Int) ((A.length+U.length:Nat):Int) ((A.length+U.length+1:Nat):Int) (A++U++[x]++C)/\
  ∃ M,wY rec_ recp_ (A.length:Int) ((A.length+U.length:Nat):Int) ((A.length+U.length+1:Nat):Int) (A++U++[x]++C)=A++M++C/\SameF (U++[x]) M/\Srt M/\M.length=U.length+1:=by
 have hL:(A++U++[x]++C).length=A.length+U.length+C.length+1:=by simp;omega
 have w1:i64.wrap (((A.length+U.length:Nat):Int) - (A.length:Int))=(U.length:Int):=by rw[bB (by omega) (by omega)];omega
 have w:i64.wrap (((A.length+U.length+1:Nat):Int) - ((A.length+U.length:Nat):Int))=1:=by rw[bB (by omega) (by omega)];omega
 have b1:((U.length:Int) ==1)=false:=by simp;omega
 have gx:(A++U++[x]++C).getD (A.length+U.length) default=x:=by
  have:A++U++[x]++C=(A++U)++x::C:=by simp
  rw[this];exact i7 _ _ _ _ (by simp)
 have gU:∀ h,A.length<=h->h<A.length+U.length->(A++U++[x]++C).getD h default=U.getD (h - A.length) default:=fun h h1 h2=>by
  have:=qc A U ([x]++C) default (h:=h) h1 h2;simpa using this
 have s:=w8 (step:=ky ((A.length+U.length:Nat):Int) (A++U++[x]++C)) (p:=kH ((A.length+U.length:Nat):Int) (A++U++[x]++C)) (fun h=>!decide (x.at_< (U.getD (h - A.length) default).at_)) A.length (A.length+U.length) (by omega)
  (fun i j h1 h2 h3 h4=>by
   have:=jX hU (i:=i - A.length) (j:=j - A.length) (by omega) (by omega);simp only[Bool.not_eq_true',decide_eq_false_iff_not]at h4 |-;omega)
  (fun k i j h1 h2 h3=>by
   have e:decide ((i:Int) < (j:Int))=true:=by rw[decide_eq_true_eq];omega
   unfold kH ky;simp only[yI (i:=i) (j:=j) (by omega) (by omega),e,cond_true,Int.toNat_natCast,gx,gU ((i+j) / 2) (by omega) (by omega),Br,hL];have w2:i64.wrap ((((i+j) / 2:Nat):Int)+1)=(((i+j) / 2+1:Nat):Int):=by rw[bB (by omega) (by omega)];omega
   rw[w2];exact⟨fun _=>by omega,rfl⟩)
  (fun k i=>by
   have e:decide ((i:Int) < (i:Int))=false:=by simp
   unfold kH ky;simp only[e,cond_false];exact⟨fun h=>by simp at h,trivial⟩) ((A++U++[x]++C).length+1) 0 (by omega)
 obtain⟨s1,r,s2,q,rfl,q1,q2,q3,q4⟩:=s;have ht:(U.take (q - A.length)).length=q - A.length:=by rw[List.length_take];omega
 have hd:(U.drop (q - A.length)).length=U.length - (q - A.length):=List.length_drop;have hUs:U.take (q - A.length)++U.drop (q - A.length)=U:=List.take_append_drop _ _;have hd1:∀ y∈U.take (q - A.length),y.at_<=x.at_:=fun y hy=>by
  obtain⟨i,i1,i2,rfl⟩:=qd hy;have:=q3 (A.length+i) (by omega) (by omega);simpa[show A.length+i - A.length=i by omega]using this
 have hd2:∀ y∈U.drop (q - A.length),x.at_<y.at_:=fun y hy=>by
  obtain⟨i,i1,i2,rfl⟩:=qe hy;have:=q4 (A.length+i) (by omega) (by omega);simpa[show A.length+i - A.length=i by omega]using this
 generalize hV1:U.take (q - A.length)=V1 at *;generalize hV2:U.drop (q - A.length)=V2 at *;subst hUs;have eq:A++(V1++V2)++[x]++C=(A++V1)++V2++x::C:=by simp
 obtain⟨c1,r,c2,rfl⟩:=Aj (A++V1) V2 C x (A++(V1++V2)++[x]++C) (by rw[<-eq];omega) (by rw[eq]);have eqq:(((A++V1).length:Nat):Int)=(q:Int):=by rw[List.length_append,ht];omega
 have eqm:(((A++V1).length+V2.length:Nat):Int)=((A.length+(V1++V2).length:Nat):Int):=by simp only[List.length_append];omega
 rw[<-eq,eqm,eqq]at c1 c2;unfold mG wY;rw[w1,w];refine⟨⟨fun h=>(by rw[b1]at h;cases h),fun _=>⟨fun _=>⟨s1,rG (Q:=fun _=>True) ⟨_,s2,trivial⟩,fun z hz=>?_⟩,fun h=>by cases h⟩⟩,V1++[x]++V2,?_,?_,?_,?_⟩
 ·rw[s2]at hz;cases hz;exact⟨c1,rG (Q:=fun _=>True) ⟨_,c2,trivial⟩⟩
 ·rw[s2];simp only[b1,BEq.rfl,cond_true,cond_false];rw[c2];simp
 ·have h0:SameF (V2++[x]) ([x]++V2):=SameF.swap fun a ha b hb=>by simp at hb;subst hb;have:=hd2 a ha;omega
  simpa using (SameF.refl V1).app h0
 ·obtain⟨a1,a2,a3⟩:=sf hU;refine t6 (t6 a1 (List.pairwise_singleton _ _) fun y hy z hz=>?_) a2 fun y hy z hz=>?_
  ·simp at hz;subst hz;exact hd1 y hy
  ·rcases List.mem_append.1 hy with hy|hy
   ·exact a3 y hy z hz
   ·simp at hy;subst hy;exact Int.le_of_lt (hd2 z hz)
 ·simp;omega
def stI (x:Deed):List Deed->List Deed
 | [] =>[x]
 |y::r=>if x.at_<=y.at_ then x::y::r else y::stI x r
def stS:List Deed->List Deed
 | [] =>[]
 |x::r=>stI x (stS r)
theorem t7 (x:Deed):∀ l,SameF (x::l) (stI x l)
 | [] =>SameF.refl _
 |y::r=>by
  unfold stI;by_cases h:x.at_<=y.at_
  ·rw[if_pos h];exact SameF.refl _
  ·rw[if_neg h];have h1:SameF ([x]++[y]++r) ([y]++[x]++r):=(SameF.swap fun a ha b hb=>by simp at ha hb;subst ha;subst hb;omega).app (SameF.refl r);exact h1.trans ((SameF.refl [y]).app (t7 x r))
theorem SameF.symm {a b:List Deed}(h:SameF a b):SameF b a:=fun t=>(h t).symm
theorem SameF.mem {a b:List Deed}(h:SameF a b){x:Deed}(hx:x∈a):x∈b:=by
 have:x∈a.filter fun y=>y.at_==x.at_:=by rw[List.mem_filter];exact⟨hx,by simp⟩
 rw[h x.at_]at this;exact(List.mem_filter.1 this).1
theorem SameF.mem_iff {a b:List Deed}(h:SameF a b){x:Deed}:x∈a↔x∈b:=⟨h.mem,h.symm.mem⟩
theorem Bt (x:Deed):∀ l,Srt l->Srt (stI x l)
 | [],_=>List.pairwise_singleton _ _
 |y::r,h=>by
  unfold stI;have h':=List.pairwise_cons.1 h;by_cases hc:x.at_<=y.at_
  ·rw[if_pos hc];exact List.pairwise_cons.2 ⟨fun z hz=>by
    rcases List.mem_cons.1 hz with rfl|hz
    ·exact hc
    ·exact Int.le_trans hc (h'.1 z hz),h⟩
  ·rw[if_neg hc];refine List.pairwise_cons.2 ⟨fun z hz=>?_,Bt x r h'.2⟩;have:=(t7 x r).symm.mem hz;rcases List.mem_cons.1 this with rfl|hz'
   ·omega
   ·exact h'.1 z hz'
theorem nG:∀ l,SameF l (stS l)
 | [] =>SameF.refl _
 |x::r=>((SameF.refl [x]).app (nG r)).trans (t7 x _)
theorem w_:∀ l,Srt (stS l)
 | [] =>List.Pairwise.nil
 |x::r=>Bt x _ (w_ r)
theorem rH:∀ {a b:List Deed},Srt a->Srt b->SameF a b->a=b
 | [],[],_,_,_=>rfl
 | [],y::b,_,_,h=>absurd (h.symm.mem (List.mem_cons_self)) (by simp)
 |x::a,[],_,_,h=>absurd (h.mem (List.mem_cons_self)) (by simp)
 |x::a,y::b,ha,hb,h=>by
  have ha':=List.pairwise_cons.1 ha;have hb':=List.pairwise_cons.1 hb;have e:x.at_=y.at_:=by
   have h1:=h.mem (List.mem_cons_self (a:=x) (l:=a));have h2:=h.symm.mem (List.mem_cons_self (a:=y) (l:=b));have q1:y.at_<=x.at_:=by
    rcases List.mem_cons.1 h1 with e|h1
    ·rw[e];exact Int.le_refl _
    ·exact hb'.1 x h1
   have q2:x.at_<=y.at_:=by
    rcases List.mem_cons.1 h2 with e|h2
    ·rw[e];exact Int.le_refl _
    ·exact ha'.1 y h2
   omega
  have h0:=h x.at_;have ey:(y.at_==x.at_)=true:=by simp[e]
  have ex:(x.at_==x.at_)=true:=by simp
  simp only[List.filter_cons,ex,ey,if_true]at h0;obtain⟨exy,htl⟩:=List.cons.inj h0;subst exy;have:SameF a b:=fun t=>by
   have ht:=h t;simp only[List.filter_cons]at ht;by_cases hc:(x.at_==t)=true
   ·rw[if_pos hc,if_pos hc]at ht;exact(List.cons.inj ht).2
   ·rw[if_neg hc,if_neg hc]at ht;exact ht
  rw[rH ha'.2 hb'.2 this]
theorem t8 {a b:List Deed}(h:SameF a b)(hb:Srt b):b=stS a:=rH hb (w_ a) (h.symm.trans (nG a))
theorem SameF.filter {a b:List Deed}(p:Deed->Bool)(h:SameF a b):SameF (a.filter p) (b.filter p):=fun t=>by
 rw[List.filter_filter,List.filter_filter,List.filter_congr (q:=fun x=>p x&&(x.at_==t)) fun x _=>Bool.and_comm _ _,<-List.filter_filter,h t,List.filter_filter,List.filter_congr (p:=fun x=>p x&&(x.at_==t)) (q:=fun x=>(x.at_==t)&&p x) fun x _=>Bool.and_comm _ _]
theorem HI {l:List Deed}{x:Deed}:x∈stS l↔x∈l:=(nG l).symm.mem_iff
theorem OP {c1 c2 c3:Bool}{l rot:List Deed}(f1 f2:List Deed->List Deed):
  (bif c1 then(bif c2 then(bif c3 then f2 (f1 rot)else f1 rot)else(bif c3 then f2 rot else rot))else(bif c2 then(bif c3 then f2 (f1 l)else f1 l)else(bif c3 then f2 l else l)))=(bif c3 then f2 (bif c2 then f1 (bif c1 then rot else l)else(bif c1 then rot else l))else(bif c2 then f1 (bif c1 then rot else l)else(bif c1 then rot else l))):=by
 cases c1 <;>cases c2 <;>cases c3 <;>rfl
theorem KE {c1 c2 c3:Bool}{l rot:List Deed}{rp:Prop}(f1:List Deed->List Deed)(p1 p2:List Deed->Prop)(h1:c1=true->rp)(h2:c2=true->p1 (bif c1 then rot else l))(h3:c3=true->p2 (bif c2 then f1 (bif c1 then rot else l)else(bif c1 then rot else l))):
  ((c1=true->(rp/\((c2=true->(p1 rot/\(c3=true->p2 (f1 rot))))/\(c2=false->c3=true->p2 rot))))/\(c1=false->((c2=true->(p1 l/\(c3=true->p2 (f1 l))))/\(c2=false->c3=true->p2 l)))):=by
 cases c1 <;>cases c2 <;>cases c3 <;>simp_all
theorem Al {N:Nat}{rec_:Int->Int->Int->List Deed->List Deed}{recp_:Int->Int->Int->List Deed->Prop}(hr:IH N rec_ recp_)(A U V C:List Deed)(hU2:2<=U.length)(hV2:2<=V.length)(hN:U.length+V.length<=N+1)(hl:(A++U++V++C).length<2 ^ 60)(hU:Srt U)(hV:Srt V):
  mG rec_ recp_ (A.length:Int) ((A.length+U.length:Nat):Int) ((A.length+U.length+V.length:Nat):Int) (A++U++V++C)/\
  ∃ M,wY rec_ recp_ (A.length:Int) ((A.length+U.length:Nat):Int) ((A.length+U.length+V.length:Nat):Int) (A++U++V++C)=A++M++C/\SameF (U++V) M/\Srt M/\M.length=U.length+V.length:=by
 have hL:(A++U++V++C).length=A.length+U.length+V.length+C.length:=by simp[Nat.add_assoc]
 have gU:∀ h,A.length<=h->h<A.length+U.length->(A++U++V++C).getD h default=U.getD (h - A.length) default:=fun h h1 h2=>by
  have:=qc A U (V++C) default (h:=h) h1 h2;simpa using this
 have gV:∀ h,A.length+U.length<=h->h<A.length+U.length+V.length->(A++U++V++C).getD h default=V.getD (h - (A.length+U.length)) default:=fun h h1 h2=>by
  have:=qc (A++U) V C default (h:=h) (by simp;omega) (by simp;omega);simpa using this
 have hmid:i64.wrap (gD .u64 (u64.wrap (i64.wrap ((A.length:Int)+((A.length+U.length+V.length:Nat):Int)))) 1)=((A.length+(U.length+V.length) / 2:Nat):Int):=by
  rw[yI (by omega) (by omega)];omega
 generalize hmd:A.length+(U.length+V.length) / 2=mid at *;have hn:i64.wrap ((mid:Int)+((A.length+U.length:Nat):Int))=((mid+(A.length+U.length):Nat):Int):=by rw[bB (by omega) (by omega)];omega
 have hp1:i64.wrap (((mid+(A.length+U.length):Nat):Int) - 1)=((mid+(A.length+U.length) - 1:Nat):Int):=by rw[bB (by omega) (by omega)];omega
 have w1:i64.wrap (((A.length+U.length:Nat):Int) - (A.length:Int))=(U.length:Int):=by rw[bB (by omega) (by omega)];omega
 have w2:i64.wrap (((A.length+U.length+V.length:Nat):Int) - ((A.length+U.length:Nat):Int))=(V.length:Int):=by rw[bB (by omega) (by omega)];omega
 have b1:((U.length:Int) ==1)=false:=by simp;omega
 have b2:((V.length:Int) ==1)=false:=by simp;omega
 obtain⟨lo,elo,hlo⟩:∃ lo:Nat,(bif decide (((A.length+U.length:Nat):Int) > (mid:Int))then i64.wrap (((mid+(A.length+U.length):Nat):Int) - ((A.length+U.length+V.length:Nat):Int))else(A.length:Int))=(lo:Int)/\((mid<A.length+U.length/\lo+V.length=mid)\/(A.length+U.length<=mid/\lo=A.length)):=by
  by_cases h:mid<A.length+U.length
  ·refine⟨mid - V.length,?_,.inl ⟨h,by omega⟩⟩;rw[decide_eq_true (by omega),cond_true,bB (by omega) (by omega)];omega
  ·refine⟨A.length,?_,.inr ⟨by omega,rfl⟩⟩;rw[decide_eq_false (by omega),cond_false]
 obtain⟨hi,ehi,hhi⟩:∃ hi:Nat,(bif decide (((A.length+U.length:Nat):Int) > (mid:Int))then(mid:Int)else((A.length+U.length:Nat):Int))=(hi:Int)/\((mid<A.length+U.length/\hi=mid)\/(A.length+U.length<=mid/\hi=A.length+U.length)):=by
  by_cases h:mid<A.length+U.length
  ·exact⟨mid,by rw[decide_eq_true (by omega),cond_true],.inl ⟨h,rfl⟩⟩
  ·exact⟨A.length+U.length,by rw[decide_eq_false (by omega),cond_false],.inr ⟨by omega,rfl⟩⟩
 have s:=w8 (step:=nX (A.length:Int) ((A.length+U.length:Nat):Int) ((A.length+U.length+V.length:Nat):Int) (A++U++V++C)) (p:=kI (A.length:Int) ((A.length+U.length:Nat):Int) ((A.length+U.length+V.length:Nat):Int) (A++U++V++C)) (fun c=>!decide ((V.getD (mid - 1 - c) default).at_< (U.getD (c - A.length) default).at_)) lo hi (by omega)
  (fun i j h1 h2 h3 h4=>by
   have q1:=jX hU (i:=i - A.length) (j:=j - A.length) (by omega) (by omega);have q2:=jX hV (i:=mid - 1 - j) (j:=mid - 1 - i) (by omega) (by omega);simp only[Bool.not_eq_true',decide_eq_false_iff_not]at h4 |-;omega)
  (fun k i j h1 h2 h3=>by
   have e:decide ((i:Int) < (j:Int))=true:=by rw[decide_eq_true_eq];omega
   have hc:i64.wrap (((mid+(A.length+U.length) - 1:Nat):Int) - (((i+j) / 2:Nat):Int))=((mid+(A.length+U.length) - 1 - (i+j) / 2:Nat):Int):=by rw[bB (by omega) (by omega)];omega
   have e2:mid+(A.length+U.length) - 1 - (i+j) / 2 - (A.length+U.length)=mid - 1 - (i+j) / 2:=by omega
   unfold kI nX;simp only[hmid,hn,hp1,yI (i:=i) (j:=j) (by omega) (by omega),e,cond_true,hc,Int.toNat_natCast,gU ((i+j) / 2) (by omega) (by omega),gV (mid+(A.length+U.length) - 1 - (i+j) / 2) (by omega) (by omega),e2,Br,hL];have w2:i64.wrap ((((i+j) / 2:Nat):Int)+1)=(((i+j) / 2+1:Nat):Int):=by rw[bB (by omega) (by omega)];omega
   rw[w2];exact⟨fun _=>by omega,rfl⟩)
  (fun k i=>by
   have e:decide ((i:Int) < (i:Int))=false:=by simp
   unfold kI nX;simp only[e,cond_false];exact⟨fun h=>by simp at h,trivial⟩) ((A++U++V++C).length+1) 0 (by omega)
 obtain⟨s1,r,s2,q,rfl,q1,q2,q3,q4⟩:=s;have hend:i64.wrap (((mid+(A.length+U.length):Nat):Int) - (q:Int))=((mid+(A.length+U.length) - q:Nat):Int):=by rw[bB (by omega) (by omega)];omega
 have hUs:U.take (q - A.length)++U.drop (q - A.length)=U:=List.take_append_drop _ _;have hVs:V.take (mid - q)++V.drop (mid - q)=V:=List.take_append_drop _ _;have lU1:(U.take (q - A.length)).length=q - A.length:=by rw[List.length_take];omega
 have lU2:(U.drop (q - A.length)).length=A.length+U.length - q:=by rw[List.length_drop];omega
 have lV1:(V.take (mid - q)).length=mid - q:=by rw[List.length_take];omega
 have lV2:(V.drop (mid - q)).length=V.length+q - mid:=by rw[List.length_drop];omega
 have k1:∀ x∈U.take (q - A.length),∀ y∈V.drop (mid - q),x.at_<=y.at_:=fun x hx y hy=>by
  obtain⟨i,i1,i2,rfl⟩:=qd hx;obtain⟨j,j1,j2,rfl⟩:=qe hy;have:=q3 (q - 1) (by omega) (by omega);have p1:=jX hU (i:=i) (j:=q - 1 - A.length) (by omega) (by omega);have p2:=jX hV (i:=mid - 1 - (q - 1)) (j:=j) (by omega) (by omega);simp only[Bool.not_eq_true',decide_eq_false_iff_not]at this;omega
 have k2:∀ x∈U.drop (q - A.length),∀ y∈V.take (mid - q),y.at_<x.at_:=fun x hx y hy=>by
  obtain⟨i,i1,i2,rfl⟩:=qe hx;obtain⟨j,j1,j2,rfl⟩:=qd hy;have:=q4 q (by omega) (by omega);have p1:=jX hU (i:=q - A.length) (j:=i) (by omega) (by omega);have p2:=jX hV (i:=j) (j:=mid - 1 - q) (by omega) (by omega);simp only[Bool.not_eq_false',decide_eq_true_eq]at this;omega
 generalize hE1:U.take (q - A.length)=U1 at *;generalize hE2:U.drop (q - A.length)=U2 at *;generalize hE3:V.take (mid - q)=V1 at *;generalize hE4:V.drop (mid - q)=V2 at *;have lenU:U.length=U1.length+U2.length:=by rw[<-hUs,List.length_append]
 have lenV:V.length=V1.length+V2.length:=by rw[<-hVs,List.length_append]
 have hlist:A++U++V++C=A++U1++U2++V1++(V2++C):=by rw[<-hUs,<-hVs];simp
 obtain⟨sU1,sU2,sU⟩:=sf (by rw[hUs];exact hU:Srt (U1++U2));obtain⟨sV1,sV2,sV⟩:=sf (by rw[hVs];exact hV:Srt (V1++V2));have hrot:(decide ((q:Int) < ((A.length+U.length:Nat):Int))&&decide (((A.length+U.length:Nat):Int) < ((mid+(A.length+U.length) - q:Nat):Int)))=true->aW (q:Int) ((A.length+U.length:Nat):Int) ((mid+(A.length+U.length) - q:Nat):Int) (A++U++V++C)/\ai (q:Int) ((A.length+U.length:Nat):Int) ((mid+(A.length+U.length) - q:Nat):Int) (A++U++V++C)=A++U1++V1++(U2++V2++C):=fun h=>by
  simp only[Bool.and_eq_true,decide_eq_true_eq]at h;have:=CD (A++U1) U2 V1 (V2++C) (by rw[<-List.length_pos_iff];omega) (by rw[<-List.length_pos_iff];omega) (by rw[<-hlist];omega);have e1:(((A++U1).length:Nat):Int)=(q:Int):=by rw[List.length_append];omega
  have e2:(((A++U1).length+U2.length:Nat):Int)=((A.length+U.length:Nat):Int):=by rw[List.length_append];omega
  have e3:(((A++U1).length+U2.length+V1.length:Nat):Int)=((mid+(A.length+U.length) - q:Nat):Int):=by rw[List.length_append];omega
  rw[<-hlist,e1,e2,e3]at this;refine⟨this.1,this.2.trans (by simp)⟩
 have hl1:(bif(decide ((q:Int) < ((A.length+U.length:Nat):Int))&&decide (((A.length+U.length:Nat):Int) < ((mid+(A.length+U.length) - q:Nat):Int)))then ai (q:Int) ((A.length+U.length:Nat):Int) ((mid+(A.length+U.length) - q:Nat):Int) (A++U++V++C)else A++U++V++C)=A++U1++V1++(U2++V2++C):=by
  cases hc:(decide ((q:Int) < ((A.length+U.length:Nat):Int))&&decide (((A.length+U.length:Nat):Int) < ((mid+(A.length+U.length) - q:Nat):Int)))with
  |true=>rw[cond_true,(hrot hc).2]
  |false=>
   rw[cond_false,hlist];simp only[Bool.and_eq_false_iff,decide_eq_false_iff_not]at hc;have:U2=[]\/V1=[]:=by
    rcases hc with hc|hc
    ·exact .inl (List.eq_nil_of_length_eq_zero (by omega))
    ·exact .inr (List.eq_nil_of_length_eq_zero (by omega))
   rcases this with rfl|rfl <;>simp
 obtain⟨M1,hM1p,hM1,f1,t1,l1⟩:∃ M1,((decide ((A.length:Int) < (q:Int))&&decide ((q:Int) < (mid:Int)))=true->recp_ (A.length:Int) (q:Int) (mid:Int) (A++U1++V1++(U2++V2++C)))/\(bif(decide ((A.length:Int) < (q:Int))&&decide ((q:Int) < (mid:Int)))then rec_ (A.length:Int) (q:Int) (mid:Int) (A++U1++V1++(U2++V2++C))else A++U1++V1++(U2++V2++C))=A++M1++(U2++V2++C)/\SameF (U1++V1) M1/\Srt M1/\M1.length=U1.length+V1.length:=by
  cases hc:(decide ((A.length:Int) < (q:Int))&&decide ((q:Int) < (mid:Int)))with
  |true=>
   simp only[Bool.and_eq_true,decide_eq_true_eq]at hc;obtain⟨h1,M1,h2,h3,h4,h5⟩:=hr A U1 V1 (U2++V2++C) (by rw[<-List.length_pos_iff];omega) (by rw[<-List.length_pos_iff];omega) (by omega) (by simp only[List.length_append]at hl |-;omega) sU1 sV1;have e1:((A.length+U1.length:Nat):Int)=(q:Int):=by omega
   have e2:((A.length+U1.length+V1.length:Nat):Int)=(mid:Int):=by omega
   rw[e1,e2]at h1 h2;exact⟨M1,fun _=>h1,h2,h3,h4,h5⟩
  |false=>
   simp only[Bool.and_eq_false_iff,decide_eq_false_iff_not]at hc;refine⟨U1++V1,(fun h=>by cases h),by simp,SameF.refl _,?_,List.length_append⟩;have:U1=[]\/V1=[]:=by
    rcases hc with hc|hc
    ·exact .inl (List.eq_nil_of_length_eq_zero (by omega))
    ·exact .inr (List.eq_nil_of_length_eq_zero (by omega))
   rcases this with rfl|rfl
   ·exact sV1
   ·simpa using sU1
 obtain⟨M2,hM2p,hM2,f2,t2,l2⟩:∃ M2,((decide ((mid:Int) < ((mid+(A.length+U.length) - q:Nat):Int))&&decide (((mid+(A.length+U.length) - q:Nat):Int) < ((A.length+U.length+V.length:Nat):Int)))=true->recp_ (mid:Int) ((mid+(A.length+U.length) - q:Nat):Int) ((A.length+U.length+V.length:Nat):Int) (A++M1++(U2++V2++C)))/\(bif(decide ((mid:Int) < ((mid+(A.length+U.length) - q:Nat):Int))&&decide (((mid+(A.length+U.length) - q:Nat):Int) < ((A.length+U.length+V.length:Nat):Int)))then rec_ (mid:Int) ((mid+(A.length+U.length) - q:Nat):Int) ((A.length+U.length+V.length:Nat):Int) (A++M1++(U2++V2++C))else A++M1++(U2++V2++C))=A++M1++M2++C/\SameF (U2++V2) M2/\Srt M2/\M2.length=U2.length+V2.length:=by
  cases hc:(decide ((mid:Int) < ((mid+(A.length+U.length) - q:Nat):Int))&&decide (((mid+(A.length+U.length) - q:Nat):Int) < ((A.length+U.length+V.length:Nat):Int)))with
  |true=>
   simp only[Bool.and_eq_true,decide_eq_true_eq]at hc;obtain⟨h1,M2,h2,h3,h4,h5⟩:=hr (A++M1) U2 V2 C (by rw[<-List.length_pos_iff];omega) (by rw[<-List.length_pos_iff];omega) (by omega) (by simp only[List.length_append]at hl |-;omega) sU2 sV2;have e0:(((A++M1).length:Nat):Int)=(mid:Int):=by rw[List.length_append];omega
   have e1:(((A++M1).length+U2.length:Nat):Int)=((mid+(A.length+U.length) - q:Nat):Int):=by rw[List.length_append];omega
   have e2:(((A++M1).length+U2.length+V2.length:Nat):Int)=((A.length+U.length+V.length:Nat):Int):=by rw[List.length_append];omega
   have e3:A++M1++U2++V2++C=A++M1++(U2++V2++C):=by simp
   rw[e0,e1,e2,e3]at h1 h2;exact⟨M2,fun _=>h1,h2,h3,h4,h5⟩
  |false=>
   simp only[Bool.and_eq_false_iff,decide_eq_false_iff_not]at hc;refine⟨U2++V2,(fun h=>by cases h),by simp,SameF.refl _,?_,List.length_append⟩;have:U2=[]\/V2=[]:=by
    rcases hc with hc|hc
    ·exact .inl (List.eq_nil_of_length_eq_zero (by omega))
    ·exact .inr (List.eq_nil_of_length_eq_zero (by omega))
   rcases this with rfl|rfl
   ·exact sV2
   ·simpa using sU2
 unfold mG wY;simp only[w1,w2,b1,b2,hmid,hn,elo,ehi,s2,hend,cond_false];refine⟨⟨(fun h=>by cases h),fun _=>⟨(fun h=>by cases h),fun _=>⟨s1,(fun z h=>by cases h),fun z hz=>?_⟩⟩⟩,M1++M2,?_,?_,?_,?_⟩
 ·cases hz;simp only[hend];exact KE (fun l=>rec_ (A.length:Int) (q:Int) (mid:Int) l) (fun l=>recp_ (A.length:Int) (q:Int) (mid:Int) l) (fun l=>recp_ (mid:Int) ((mid+(A.length+U.length) - q:Nat):Int) ((A.length+U.length+V.length:Nat):Int) l) (fun h=>(hrot h).1) (fun h=>by rw[hl1];exact hM1p h) (fun h=>by rw[hl1];simp only[hM1];exact hM2p h)
 ·refine(OP (fun l=>rec_ (A.length:Int) (q:Int) (mid:Int) l) (fun l=>rec_ (mid:Int) ((mid+(A.length+U.length) - q:Nat):Int) ((A.length+U.length+V.length:Nat):Int) l)).trans ?_;rw[hl1];simp only[hM1];rw[hM2];simp
 ·have h0:SameF (U2++V1) (V1++U2):=SameF.swap fun a ha b hb=>by have:=k2 a ha b hb;omega
  have h1:SameF (U++V) (U1++V1++(U2++V2)):=by
   rw[<-hUs,<-hVs];have:=((SameF.refl U1).app h0).app (SameF.refl V2);simpa using this
  exact h1.trans (f1.app f2)
 ·refine t6 t1 t2 fun x hx y hy=>?_;have hx:=f1.symm.mem hx;have hy:=f2.symm.mem hy;rcases List.mem_append.1 hx with hx|hx <;>rcases List.mem_append.1 hy with hy|hy
  ·exact sU x hx y hy
  ·exact k1 x hx y hy
  ·exact Int.le_of_lt (k2 y hy x hx)
  ·exact sV x hx y hy
 ·rw[List.length_append];omega
theorem yK:∀ n,IH n (jB n).1 (jB n).2
 |0=>fun A U V C hU hV h=>absurd (List.length_pos_iff.2 hU) (by omega)
 |n+1=>fun A U V C hU hV hN hl sU sV=>by
  have pU:=List.length_pos_iff.2 hU;have pV:=List.length_pos_iff.2 hV;by_cases h1:U.length=1
  ·obtain⟨x,rfl⟩:=List.length_eq_one_iff.1 h1;exact Ak _ _ A V C x hl sV
  ·by_cases h2:V.length=1
   ·obtain⟨x,rfl⟩:=List.length_eq_one_iff.1 h2;exact yJ _ _ A U C x (by omega) hl sU
   ·exact Al (yK n) A U V C (by omega) (by omega) hN hl sU sV
theorem EQ (A U V C:List Deed)(hU:U≠[])(hV:V≠[])(hl:(A++U++V++C).length<2 ^ 60)(sU:Srt U)(sV:Srt V):
  bA (A.length:Int) ((A.length+U.length:Nat):Int) ((A.length+U.length+V.length:Nat):Int) (A++U++V++C)/\
  ∃ M,bN (A.length:Int) ((A.length+U.length:Nat):Int) ((A.length+U.length+V.length:Nat):Int) (A++U++V++C)=A++M++C/\SameF (U++V) M/\Srt M/\M.length=U.length+V.length:=
 yK ((A++U++V++C).length+1) A U V C hU hV (by simp only[List.length_append];omega) hl sU sV
inductive Blk (n:Nat):List Deed->Prop
 |last {l:List Deed}:l.length<=n->Srt l->Blk n l
 |cons {b l:List Deed}:b.length=n->Srt b->Blk n l->Blk n (b++l)
inductive Full (n:Nat):List Deed->Prop
 |nil:Full n []
 |snoc {l b:List Deed}:Full n l->b.length=n->Srt b->Full n (l++b)
theorem Full.app {n:Nat}{a:List Deed}(h:Full n a):∀ {l:List Deed},Blk n l->Blk n (a++l):=by
 induction h with
 |nil=>exact fun h=>h
 |snoc _ hb hs ih=>exact fun h=>by rw[List.append_assoc];exact ih (.cons hb hs h)
theorem Blk.srt {n:Nat}{l:List Deed}(h:Blk n l)(hl:l.length<=n):Srt l:=by
 cases h with
 |last _ hs=>exact hs
 | @cons b r hb hs h=>
  rw[List.length_append]at hl;have:=List.eq_nil_of_length_eq_zero (show r.length=0 by omega);subst this;simpa using hs
theorem Blk.split {n:Nat}{l:List Deed}(h:Blk n l)(hl:n<=l.length):∃ b r,l=b++r/\b.length=n/\Srt b/\Blk n r:=by
 cases h with
 |last h1 hs=>exact⟨l,[],by simp,by omega,hs,.last (Nat.zero_le _) List.Pairwise.nil⟩
 |cons hb hs h=>exact⟨_,_,rfl,hb,hs,h⟩
theorem n8 {a b:List Deed}(h:SameF a b):a.length=b.length:=by
 have e:∀ {l:List Deed},stS l=l\/True:=fun {_} =>.inr trivial;have h1:∀ l:List Deed,(stS l).length=l.length:=fun l=>by
  induction l with
  |nil=>rfl
  |cons x r ih=>
   have:∀ l:List Deed,(stI x l).length=l.length+1:=fun l=>by
    induction l with
    |nil=>rfl
    |cons y l ih2=>
     unfold stI;by_cases hc:x.at_<=y.at_
     ·rw[if_pos hc];simp
     ·rw[if_neg hc];simp[ih2]
   show(stI x (stS r)).length=_;rw[this,ih];rfl
 rw[<-h1 a,<-h1 b,t8 (h.trans (nG b)) (w_ b)]
theorem vG (l:List Deed)(hl:l.length<2 ^ 58):be (l.length:Int) l/\bC (l.length:Int) l=stS l:=by
 obtain⟨k1,r,k2,D,R,rfl,k3,k4,k5,k6⟩:okI (aU (l.length:Int)) (bV (l.length:Int)) (Int.toNat (l.length:Int)+1) 0 (l,0,20)/\∃ r,aq (aU (l.length:Int)) (Int.toNat (l.length:Int)+1) 0 (l,0,20)=.inl r/\∃ D R,r=(((D.length:Nat):Int),D++R)/\Full 20 D/\SameF l (D++R)/\R.length<20/\l.length=D.length+R.length:=by
  refine tZ (fun s:List Deed×Int×Int=>((l.length:Int) - s.2.1).toNat) (fun s:List Deed×Int×Int=>∃ D R,s=(D++R,((D.length:Nat):Int),((D.length+20:Nat):Int))/\Full 20 D/\SameF l (D++R)/\l.length=D.length+R.length) _ ?_ _ _ _ ⟨[],l,rfl,.nil,SameF.refl _,by simp⟩ (by simp only[Int.toNat_natCast];omega);rintro k s ⟨D,R,rfl,hD,hF,hlen⟩;unfold bV aU;by_cases h:20<=R.length
  ·have e:decide (((D.length+20:Nat):Int)<=(l.length:Int))=true:=by rw[decide_eq_true_eq];omega
   have hRs:R.take 20++R.drop 20=R:=List.take_append_drop _ _;have hRt:(R.take 20).length=20:=by rw[List.length_take];omega
   have hRd:(R.drop 20).length=R.length - 20:=List.length_drop;have hi:=vF D (R.take 20) (R.drop 20) (by simp only[List.length_append];omega);rw[List.append_assoc D,hRs,hRt]at hi;obtain⟨i1,M,i2,i3,i4⟩:=hi;have hM:=n8 i3;have w:i64.wrap (((D.length+20:Nat):Int)+20)=(((D++M).length+20:Nat):Int):=by rw[bB (by omega) (by omega),List.length_append];omega
   simp only[e,cond_true,w];refine⟨fun _=>i1,.inr ⟨_,rfl,by simp only;omega,D++M,R.drop 20,?_,hD.snoc (by omega) i4,?_,by rw[List.length_append];omega⟩⟩
   ·rw[i2];have:((D.length+20:Nat):Int)=(((D++M).length:Nat):Int):=by rw[List.length_append];omega
    rw[this]
   ·refine hF.trans ?_;have:=((SameF.refl D).app (i3.app (SameF.refl (R.drop 20))));rw[hRs]at this;simpa using this
  ·have e:decide (((D.length+20:Nat):Int)<=(l.length:Int))=false:=by rw[decide_eq_false_iff_not];omega
   simp only[e,cond_false];exact⟨(fun h=>by cases h),.inl ⟨_,rfl,D,R,rfl,hD,hF,by omega,hlen⟩⟩
 have hi:=vF D R [] (by simp only[List.length_append,List.length_nil];omega);have eN:((D.length+R.length:Nat):Int)=(l.length:Int):=by omega
 rw[List.append_nil,eN]at hi;obtain⟨i1,M,i2,i3,i4⟩:=hi;rw[List.append_nil]at i2;have hM:=n8 i3;have hB0:Blk 20 (D++M):=k3.app (.last (by omega) i4);have hF0:SameF l (D++M):=k4.trans ((SameF.refl D).app i3);obtain⟨m1,r,m2,m3,m4⟩:okI (a7 (l.length:Int)) (bu (l.length:Int)) (Int.toNat (l.length:Int)+1) 0 (D++M,20)/\∃ r,aq (a7 (l.length:Int)) (Int.toNat (l.length:Int)+1) 0 (D++M,20)=.inl r/\SameF l r/\Srt r:=by
  refine tZ (fun s:List Deed×Int=>((l.length:Int) - s.2).toNat) (fun s:List Deed×Int=>∃ (L:List Deed) (n:Nat),s=(L,(n:Int))/\20<=n/\n<2 ^ 59/\Blk n L/\SameF l L) _ ?_ _ _ _ ⟨D++M,20,rfl,Nat.le_refl _,by omega,hB0,hF0⟩ (by simp only[Int.toNat_natCast];omega);rintro k s ⟨L,n,rfl,hn,hn2,hB,hF⟩;have hLl:=n8 hF;by_cases h:n<l.length
  ·have e:decide ((n:Int) < (l.length:Int))=true:=by rw[decide_eq_true_eq];omega
   have w2:i64.wrap (2*(n:Int))=((2*n:Nat):Int):=by rw[bB (by omega) (by omega)];omega
   have w2':i64.wrap ((n:Int)*2)=((2*n:Nat):Int):=by rw[bB (by omega) (by omega)];omega
   obtain⟨p1,r,p2,D,R,rfl,p3,p4,p5,p6,p7⟩:okI (bH (l.length:Int) (L,(n:Int))) (bW (l.length:Int) (L,(n:Int))) (Int.toNat (l.length:Int)+1) 0 (L,0,((2*n:Nat):Int))/\∃ r,aq (bH (l.length:Int) (L,(n:Int))) (Int.toNat (l.length:Int)+1) 0 (L,0,((2*n:Nat):Int))=.inl r/\∃ D R,r=(((D.length:Nat):Int),D++R)/\Full (2*n) D/\Blk n R/\SameF l (D++R)/\R.length<2*n/\l.length=D.length+R.length:=by
    refine tZ (fun s:List Deed×Int×Int=>((l.length:Int) - s.2.1).toNat) (fun s:List Deed×Int×Int=>∃ D R,s=(D++R,((D.length:Nat):Int),((D.length+2*n:Nat):Int))/\Full (2*n) D/\Blk n R/\SameF l (D++R)/\l.length=D.length+R.length) _ ?_ _ _ _ ⟨[],L,by simp,.nil,hB,hF,by simpa using hLl⟩ (by simp only[Int.toNat_natCast];omega);rintro k s ⟨D,R,rfl,hD,hR,hF,hlen⟩;unfold bW bH;by_cases h:2*n<=R.length
    ·have e:decide (((D.length+2*n:Nat):Int)<=(l.length:Int))=true:=by rw[decide_eq_true_eq];omega
     obtain⟨B1,R1,rfl,b1,b2,b3⟩:=hR.split (by omega);rw[List.length_append]at h hlen;obtain⟨B2,R2,rfl,c1,c2,c3⟩:=b3.split (by omega);rw[List.length_append]at h hlen;obtain⟨i1,M,i2,i3,i4,i5⟩:=EQ D B1 B2 R2 (by rw[<-List.length_pos_iff];omega) (by rw[<-List.length_pos_iff];omega) (by simp only[List.length_append];omega) b2 c2;have e0:D++B1++B2++R2=D++(B1++(B2++R2)):=by simp
     have e1:((D.length+B1.length+B2.length:Nat):Int)=((D.length+2*n:Nat):Int):=by omega
     have e2:i64.wrap ((D.length:Int)+(n:Int))=((D.length+B1.length:Nat):Int):=by rw[bB (by omega) (by omega)];omega
     rw[e0,e1]at i1 i2;have w:i64.wrap (((D.length+2*n:Nat):Int)+((2*n:Nat):Int))=(((D++M).length+2*n:Nat):Int):=by rw[bB (by omega) (by omega),List.length_append];omega
     simp only[e,cond_true,e2,w2,w];refine⟨fun _=>i1,.inr ⟨_,rfl,by simp only;omega,D++M,R2,?_,hD.snoc (by omega) i4,c3,?_,by rw[List.length_append];omega⟩⟩
     ·rw[i2];have:((D.length+2*n:Nat):Int)=(((D++M).length:Nat):Int):=by rw[List.length_append];omega
      rw[this]
     ·refine hF.trans ?_;have:=(SameF.refl D).app (i3.app (SameF.refl R2));simpa using this
    ·have e:decide (((D.length+2*n:Nat):Int)<=(l.length:Int))=false:=by rw[decide_eq_false_iff_not];omega
     simp only[e,cond_false];exact⟨(fun h=>by cases h),.inl ⟨_,rfl,D,R,rfl,hD,hR,hF,by omega,hlen⟩⟩
   have wm:i64.wrap ((D.length:Int)+(n:Int))=((D.length+n:Nat):Int):=by rw[bB (by omega) (by omega)];omega
   unfold bu a7;simp only[e,cond_true,w2,w2',p2,wm];by_cases hm:n<R.length
   ·have em:decide (((D.length+n:Nat):Int) < (l.length:Int))=true:=by rw[decide_eq_true_eq];omega
    obtain⟨B1,R1,rfl,b1,b2,b3⟩:=p4.split (by omega);rw[List.length_append]at hm p6 p7;have b4:=b3.srt (by omega);obtain⟨i1,M,i2,i3,i4,i5⟩:=EQ D B1 R1 [] (by rw[<-List.length_pos_iff];omega) (by rw[<-List.length_pos_iff];omega) (by simp only[List.length_append,List.length_nil];omega) b2 b4;have e0:D++B1++R1++[]=D++(B1++R1):=by simp
    have e1:((D.length+B1.length+R1.length:Nat):Int)=(l.length:Int):=by omega
    have e2:((D.length+B1.length:Nat):Int)=((D.length+n:Nat):Int):=by omega
    rw[e0,e1,e2]at i1 i2;rw[List.append_nil]at i2;refine⟨fun _=>⟨p1,(fun z h=>by cases h),fun x hx=>by cases hx;simp only[wm];exact fun _=>i1⟩,.inr ⟨(D++M,((2*n:Nat):Int)),by simp only[em,cond_true];rw[i2],by simp only;omega,D++M,2*n,rfl,by omega,by omega,p3.app (.last (by omega) i4),p5.trans ((SameF.refl D).app i3)⟩⟩
   ·have em:decide (((D.length+n:Nat):Int) < (l.length:Int))=false:=by rw[decide_eq_false_iff_not];omega
    refine⟨fun _=>⟨p1,(fun z h=>by cases h),fun x hx=>by cases hx;simp only[wm,em];exact fun h=>by cases h⟩,.inr ⟨(D++R,((2*n:Nat):Int)),by simp only[em,cond_false],by simp only;omega,D++R,2*n,rfl,by omega,by omega,p3.app (.last (by omega) (p4.srt (by omega))),p5⟩⟩
  ·have e:decide ((n:Int) < (l.length:Int))=false:=by rw[decide_eq_false_iff_not];omega
   unfold bu a7;simp only[e,cond_false];exact⟨(fun h=>by cases h),.inl ⟨_,rfl,hF,hB.srt (by omega)⟩⟩
 unfold be bC;rw[k2];simp only[i2,m2];exact⟨⟨k1,(fun z h=>by cases h),fun x hx=>by cases hx;simp only[i2];exact⟨i1,m1,fun z h=>by rw[m2]at h;cases h⟩⟩,t8 m3 m4⟩
theorem yL (l:List Deed)(hl:l.length<2 ^ 58):aT l/\aX l=stS l:=⟨fun _=>(vG l hl).1,(vG l hl).2⟩
def cL (x:Deed)(n:Int)(m_:List (RegisterTitle×Int)):List (RegisterTitle×Int):=(fe .registerTitle .int m_ ({ right:=x.right,farm:=x.to}:RegisterTitle) (i64.wrap ((dG .registerTitle .int m_ ({ right:=x.right,farm:=x.to}:RegisterTitle))+n)))
noncomputable def gB:List SV->List Ob->Option HCon:=fq (fun x_:Deed×Int×(List (RegisterTitle×Int)) =>[.os 0,.agg (cellsOf .deed x_.1),.v (.int .i64 x_.2.1)]) (fun x_=>[.mp .registerTitle .int x_.2.2 none]) (fun x_=>dK True (.tup []) [.mp .registerTitle .int (cL x_.1 x_.2.1 x_.2.2) none])
@[go_sem] theorem vH (x:Deed)(n:Int)(m_:List (RegisterTitle×Int)){p0_:Option (Nat×Option Tag.registerTitle.T)}(hp0_:p0_=none):gB ([.os 0,.agg [.v (.int .i64 x.no),.v (.int .i64 x.kind),.v (.int .i64 x.right),.v (.int .i64 x.since),.v (.int .i64 x.to),.rs .part x.parts,.v (.int .i64 x.of_),.v (.int .i64 x.at_),.v (.int .i64 x.known)],.v (.int .i64 n)]) ([.mp .registerTitle .int m_ p0_])=some (dK True (.tup []) [.mp .registerTitle .int (cL x n m_) none]):=by
 subst hp0_;exact dM (A:=fun x_:Deed×Int×(List (RegisterTitle×Int)) =>[.os 0,.agg (cellsOf .deed x_.1),.v (.int .i64 x_.2.1)]) (H:=fun x_=>[.mp .registerTitle .int x_.2.2 none]) (K:=fun x_=>dK True (.tup []) [.mp .registerTitle .int (cL x_.1 x_.2.1 x_.2.2) none]) (x:=(x,n,m_))
theorem mX:FnOkO Tryz.prog 98 (gB):=by
 have hG:ConsOk Tryz.prog (mkG [] []):=aV cg0 cg0;refine fo mixed aC hG (fn:=Tryz.f98) (c:=ag Tryz.f98) kr kr kr kr fun l o con h=>?_;obtain⟨⟨x,n,m_⟩,rfl,rfl,rfl⟩:=cG h;clear h;try dsimp only
 refine⟨_,_,_,rfl,fun hp=>?_⟩;refine⟨nbl rfl,L0,?_,?_⟩
 ·unfold ag Tryz.f98;simp only[ap,and_self,true_and,and_true]
 ·unfold ag Tryz.f98;try unfold cL
  exact cI (jl [0])
@[go_sem] def a8 (x:Deed)(n:Int)(k_0:Nat)(s_0:List (RegisterTitle×Int)×Int):Empty⊕(List (RegisterTitle×Int)×Int):=letI q1:=x.parts.getD k_0 default;letI q0:=({ right:=x.right,farm:=q1.farm}:RegisterTitle);letI q2:=ef (q1.share) n;.inr ((fe .registerTitle .int s_0.1 q0 (i64.wrap ((dG .registerTitle .int s_0.1 q0)+q2.1))),(i64.wrap (s_0.2 - q2.1)))
@[go_sem] def eb (x:Deed)(s_0:List (RegisterTitle×Int)×Int)(k_1:Nat)(s_1:List (RegisterTitle×Int)):Empty⊕(List (RegisterTitle×Int)):=letI q0:=({ right:=x.right,farm:=(((x.parts.take (Int.toNat s_0.2)).drop 0).getD k_1 default).farm}:RegisterTitle);.inr (fe .registerTitle .int s_1 q0 (i64.wrap ((dG .registerTitle .int s_1 q0)+1)))
def b6 (x:Deed)(n:Int)(m_:List (RegisterTitle×Int)):List (RegisterTitle×Int):=(match aq (a8 x n) x.parts.length 0 (m_,n)with| .inl x=>x.elim| .inr s_0=>(match aq (eb x s_0) (((x.parts.take (Int.toNat s_0.2)).drop 0).length) 0 s_0.1 with| .inl x=>x.elim| .inr s_1=>s_1))
def dg (x:Deed)(n:Int)(m_:List (RegisterTitle×Int)):Prop:=(x.parts.length<=bR->(∀ s_0,aq (a8 x n) x.parts.length 0 (m_,n)=.inr s_0->(0<=0/\0<=s_0.2/\s_0.2<=(x.parts.length:Int))))
noncomputable def ga:List SV->List Ob->Option HCon:=fq (fun x_:Deed×Int×(List (RegisterTitle×Int)) =>[.os 0,.agg (cellsOf .deed x_.1),.v (.int .i64 x_.2.1)]) (fun x_=>[.mp .registerTitle .int x_.2.2 none]) (fun x_=>dK (dg x_.1 x_.2.1 x_.2.2) (.tup []) [.mp .registerTitle .int (b6 x_.1 x_.2.1 x_.2.2) none])
@[go_sem] theorem uA (x:Deed)(n:Int)(m_:List (RegisterTitle×Int)){p0_:Option (Nat×Option Tag.registerTitle.T)}(hp0_:p0_=none):ga ([.os 0,.agg [.v (.int .i64 x.no),.v (.int .i64 x.kind),.v (.int .i64 x.right),.v (.int .i64 x.since),.v (.int .i64 x.to),.rs .part x.parts,.v (.int .i64 x.of_),.v (.int .i64 x.at_),.v (.int .i64 x.known)],.v (.int .i64 n)]) ([.mp .registerTitle .int m_ p0_])=some (dK (dg x n m_) (.tup []) [.mp .registerTitle .int (b6 x n m_) none]):=by
 subst hp0_;exact dM (A:=fun x_:Deed×Int×(List (RegisterTitle×Int)) =>[.os 0,.agg (cellsOf .deed x_.1),.v (.int .i64 x_.2.1)]) (H:=fun x_=>[.mp .registerTitle .int x_.2.2 none]) (K:=fun x_=>dK (dg x_.1 x_.2.1 x_.2.2) (.tup []) [.mp .registerTitle .int (b6 x_.1 x_.2.1 x_.2.2) none]) (x:=(x,n,m_))
theorem mI:FnOkO Tryz.prog 99 (ga):=by
 have hG:ConsOk Tryz.prog (mkG [(32,oC)] []):=aV (cgc tT cg0) cg0;refine fo mixed aC hG (fn:=Tryz.f99) (c:=ag Tryz.f99) kr kr kr kr fun l o con h=>?_;obtain⟨⟨x,n,m_⟩,rfl,rfl,rfl⟩:=cG h;clear h;try dsimp only
 refine⟨_,_,_,rfl,fun hp=>?_⟩;unfold dg at hp;refine⟨nbl rfl,(fun id st=>bif Nat.beq id 0 then some (LCR (ρ:=Empty) (σ:=(List (RegisterTitle×Int)×Int)) 2 [] [0,1] (fun k_0 s_0=>⟨[(0,.os 0),(2,.v (.int .i64 n)),(4,.ptr 1 0),(6,.v (.int .i64 s_0.2)),(16,.rs .part x.parts),(17,.v (.int .i64 (x.parts.length:Int))),(18,.v (.int .i64 (k_0:Int)))],[.mp .registerTitle .int s_0.1 none,.cells (cellsOf .deed x)]⟩) (a8 x n) pT x.parts.length (m_,n) (x.parts.length<=bR) ((·.elim)) ((·.elim)) st)else bif Nat.beq id 2 then some (LCR (ρ:=Empty) (σ:=(List (RegisterTitle×Int))) 2 [] [0,1] (fun k_1 s_1=>⟨[(0,.os 0),(4,.ptr 1 0),(48,.rs .part ((x.parts.take (Int.toNat (d7 (aq (a8 x n) x.parts.length 0 (m_,n))).2)).drop 0)),(49,.v (.int .i64 (((x.parts.take (Int.toNat (d7 (aq (a8 x n) x.parts.length 0 (m_,n))).2)).drop 0).length:Int))),(50,.v (.int .i64 (k_1:Int)))],[.mp .registerTitle .int s_1 none,.cells (cellsOf .deed x)]⟩) (eb x (d7 (aq (a8 x n) x.parts.length 0 (m_,n)))) pT (((x.parts.take (Int.toNat (d7 (aq (a8 x n) x.parts.length 0 (m_,n))).2)).drop 0).length) ((d7 (aq (a8 x n) x.parts.length 0 (m_,n))).1) (((x.parts.take (Int.toNat (d7 (aq (a8 x n) x.parts.length 0 (m_,n))).2)).drop 0).length<=bR) ((·.elim)) ((·.elim)) st)else none),?_,?_⟩
 ·unfold ag Tryz.f99;simp only[ap,true_and,and_true,and_assoc];refine⟨?_,?_⟩
  ·refine ew mixed aC hG kr (fun _=>rfl) (x.parts.length:Int) rfl mT (fun hb0 k_0 s_0 hlt0 _ hw hc=>⟨L0,ak _,?_⟩) (fun hb0 s_0 hc=>?_)
   ·exact dH (jl [0,1])
   ·exact dI (jl [0,1])
  ·refine ew mixed aC hG kr (fun _=>rfl) (((x.parts.take (Int.toNat (d7 (aq (a8 x n) x.parts.length 0 (m_,n))).2)).drop 0).length:Int) rfl mT (fun hb1 k_1 s_1 hlt1 _ hw hc=>⟨L0,ak _,?_⟩) (fun hb1 s_1 hc=>?_)
   ·exact dH (jl [0,1])
   ·exact dI (jl [0,1])
 ·unfold ag Tryz.f99;try unfold b6
  exact cI (jl [0])
def ol (x:Deed)(n:Int)(m_:List (RegisterTitle×Int)):Unit:=()
noncomputable def gb:List SV->List Ob->Option HCon:=fq (fun x_:Deed×Int×(List (RegisterTitle×Int)) =>[.os 0,.agg (cellsOf .deed x_.1),.v (.int .i64 x_.2.1)]) (fun x_=>[.mp .registerTitle .int x_.2.2 none]) (fun x_=>dK True (.tup []) [.mp .registerTitle .int x_.2.2 none])
@[go_sem] theorem uB (x:Deed)(n:Int)(m_:List (RegisterTitle×Int)){p0_:Option (Nat×Option Tag.registerTitle.T)}(hp0_:p0_=none):gb ([.os 0,.agg [.v (.int .i64 x.no),.v (.int .i64 x.kind),.v (.int .i64 x.right),.v (.int .i64 x.since),.v (.int .i64 x.to),.rs .part x.parts,.v (.int .i64 x.of_),.v (.int .i64 x.at_),.v (.int .i64 x.known)],.v (.int .i64 n)]) ([.mp .registerTitle .int m_ p0_])=some (dK True (.tup []) [.mp .registerTitle .int m_ none]):=by
 subst hp0_;exact dM (A:=fun x_:Deed×Int×(List (RegisterTitle×Int)) =>[.os 0,.agg (cellsOf .deed x_.1),.v (.int .i64 x_.2.1)]) (H:=fun x_=>[.mp .registerTitle .int x_.2.2 none]) (K:=fun x_=>dK True (.tup []) [.mp .registerTitle .int x_.2.2 none]) (x:=(x,n,m_))
theorem mJ:FnOkO Tryz.prog 100 (gb):=by
 have hG:ConsOk Tryz.prog (mkG [] []):=aV cg0 cg0;refine fo mixed aC hG (fn:=Tryz.f100) (c:=ag Tryz.f100) kr kr kr kr fun l o con h=>?_;obtain⟨⟨x,n,m_⟩,rfl,rfl,rfl⟩:=cG h;clear h;try dsimp only
 refine⟨_,_,_,rfl,fun hp=>?_⟩;refine⟨nbl rfl,L0,?_,?_⟩
 ·unfold ag Tryz.f100;simp only[ap,and_self,true_and,and_true]
 ·unfold ag Tryz.f100;try unfold ol
  exact cI (jl [0])
end Go.Sx
end
section
namespace Go.Sx
def KF {α:Type}:Result α->World
 | .ok _ w=>w
 | .halt _ w=>w
theorem Am {α:Type}:∀ (a:Ask α) (w:World),w.drawn<=(w.ask a).2.drawn
 | .done a,w=>Nat.le_refl _
 | .ask what range k,w=>by
  unfold World.ask;dsimp only;split
  ·exact Am _ w
  ·exact Nat.le_trans (Nat.le_succ _) (Am _ { w with drawn:=w.drawn+1})
theorem KG (w:World)(c:Sys):w.drawn<=(w.sys c).2.drawn:=by
 unfold World.sys;have:=Am (Kernel.perform c w.os) w;split
 ·exact Nat.le_refl _
 ·rename_i h;rw[h]at this;exact this
theorem yM {p:Program}{w w':World}{a:Addr}{v:Value}{b:Bool}{l:List Addr}(h:w.farStore p a v b=.ok (w',l)):w'.drawn=w.drawn:=by
 unfold World.farStore at h;split at h
 ·split at h
  ·rename_i r hr;cases h;unfold World.viewStore at hr;simp only[bind,Except.bind,pure,Except.pure]at hr
   repeat' split at hr
   all_goals (first|(cases hr;done) |skip)
   all_goals (cases hr;rfl)
  ·cases h
 ·cases h
theorem xa {α:Type}(p:Program):∀ (s:Sem α) (w:World),w.drawn<=(KF (s.run p w)).drawn:=by
 intro s;induction s with
 |pure a=>intro w;exact Nat.le_refl _
 |load m a k ih=>
  intro w;unfold Sem.run;split
  ·exact ih _ w
  ·split
   ·exact ih _ w
   ·exact Nat.le_refl _
 |store m a v k ih=>
  intro w;cases v
  case agg=>exact Nat.le_refl _
  case tuple=>exact Nat.le_refl _
  all_goals
   simp only[Sem.run];split
   ·split
    ·exact Nat.le_refl _
    ·exact ih (w.setCell a _)
   ·split
    ·rename_i h;rw[<-yM h];exact ih _
    ·exact Nat.le_refl _
 |new o k ih=>intro w;exact ih w.heap.size { w with heap:=w.heap.push o}
 |shape r k ih=>intro w;exact ih _ _
 |freeze a n k ih=>
  intro w;have:(w.freeze a n).drawn=w.drawn:=by unfold World.freeze;split <;>rfl
  rw[<-this];exact ih _
 |frozen a k ih=>intro w;exact ih _ _
 |getObj r k ih=>
  intro w;unfold Sem.run;split
  ·exact Nat.le_refl _
  ·exact ih _ _
  ·exact Nat.le_refl _
 |setObj r o k ih=>
  intro w;unfold Sem.run;split
  ·exact Nat.le_refl _
  ·exact ih { w with heap:=w.heap.setIfInBounds r o}
  ·exact Nat.le_refl _
 |choose q k ih=>
  intro w;unfold Sem.run;split
  ·exact ih _ _
  ·exact Nat.le_trans (Nat.le_succ _) (ih _ { w with drawn:=w.drawn+1})
 |sys c k ih=>intro w;exact Nat.le_trans (KG w c) (ih _ _)
 |program k ih=>intro w;exact ih _ _
 |mark m k ih=>intro w;exact ih _
 |halt h=>intro w;exact Nat.le_refl _
theorem ER {α:Type}(p:Program):∀ (s:Sem α) (w:World) (es:Array Event),(s.runT p w es).1=s.run p w:=by
 intro s;induction s with
 |store m a v k ih=>
  intro w es;cases v
  case agg=>rfl
  case tuple=>rfl
  all_goals
   simp only[Sem.runT,Sem.run];split
   ·split
    ·rfl
    ·exact ih _ _
   ·split
    ·exact ih _ _
    ·rfl
 |load m a k ih=>
  intro w es;simp only[Sem.runT,Sem.run];split
  ·exact ih _ _ _
  ·split
   ·exact ih _ _ _
   ·rfl
 |getObj r k ih=>
  intro w es;simp only[Sem.runT,Sem.run];split
  ·rfl
  ·exact ih _ _ _
  ·rfl
 |setObj r o k ih=>
  intro w es;simp only[Sem.runT,Sem.run];split
  ·rfl
  ·exact ih _ _
  ·rfl
 |choose q k ih=>
  intro w es;simp only[Sem.runT,Sem.run];split
  ·exact ih _ _ _
  ·exact ih _ _ _
 |pure a=>intro w es;rfl
 |new o k ih=>intro w es;exact ih _ _ _
 |shape r k ih=>intro w es;exact ih _ _ _
 |freeze a n k ih=>intro w es;exact ih _ _
 |frozen a k ih=>intro w es;exact ih _ _ _
 |sys c k ih=>intro w es;exact ih _ _ _
 |program k ih=>intro w es;exact ih _ _ _
 |mark m k ih=>intro w es;exact ih _ _
 |halt h=>intro w es;rfl
theorem gC {α:Type}{p:Program}{s:Sem α}{w w':World}{a:α}(h:s.run p w=.ok a w'):w.drawn<=w'.drawn:=by have:=xa p s w;rw[h]at this;exact this
theorem ES {α:Type}{p:Program}{s:Sem α}{w w':World}{a:Halt}(h:s.run p w=.halt a w'):w.drawn<=w'.drawn:=by have:=xa p s w;rw[h]at this;exact this
theorem kz {α:Type}{p:Program}{s:Sem α}{w:World}{es es':Array Event}{r:Result α}(h:s.runT p w es=(r,es')):w.drawn<=(KF r).drawn:=by
 have:=ER p s w es;rw[h]at this;have h2:=xa p s w;rw[<-this]at h2;exact h2
def gLe (w:World):GStep->Prop
 | .ended .. =>True
 | .go _ w' _| .comm _ _ _ _ w' _| .spawn _ _ w' _| .count _ w' _| .timer _ _ w' _| .alone _ _ w' _| .newcoro _ _ _ w' _| .coroswitch _ _ _ w' _| .collect _ w' _| .watch _ w' _=>w.drawn<=w'.drawn
theorem gLe.after {w:World}{es:Array Event}{s:GStep}(h:gLe w s):gLe w (s.after es):=by cases s <;>exact h
theorem gLe.trans {w w':World}{s:GStep}(h1:w.drawn<=w'.drawn)(h:gLe w' s):gLe w s:=by cases s <;>first|trivial|exact Nat.le_trans h1 h
theorem qf {c:Prop}[Decidable c]{w:World}{a b:GStep}(h1:gLe w a)(h2:gLe w b):gLe w (if c then a else b):=by split <;>assumption
theorem lz (fr:Frame)(m:String)(w:World):gLe w (endThrow fr m w):=Nat.le_refl _
theorem nH (p:Program)(fr:Frame)(v:Value)(w:World):gLe w (endPrinting p fr v w):=by
 unfold endPrinting;dsimp only;split
 ·exact lz _ _ _
 ·trivial
theorem rI (p:Program)(fr:Frame)(callers:List Frame)(dying:Option Dying)(m:String)(w:World):gLe w (endFatal p fr callers dying m w):=by
 unfold endFatal
 extract_lets
 split
 ·rename_i h;exact gC h
 ·trivial
 ·trivial
theorem An (p:Program)(fr:Frame)(d:Dying)(f:Fatal)(w:World):gLe w (writeOn p fr d f w):=by
 unfold writeOn
 extract_lets
 split
 ·trivial
 ·extract_lets
  generalize h:Sem.runT _ _ _ _=rr;obtain⟨r,es⟩:=rr;have h:=kz h;split
  ·rename_i e;cases e;exact h
  ·rename_i e;cases e;exact h
  ·trivial
  ·trivial
theorem Ao (w w':World)(fd:Nat)(t:ByteArray)(o:Outcome):gLe w (endWith w' fd t o):=by
 unfold endWith
 extract_lets
 split
 ·split <;>trivial
 ·trivial
 ·trivial
theorem KH (p:Program)(fr:Frame)(d:Dying)(w:World):gLe w (die p fr d w):=by
 unfold die;split
 ·exact An _ _ _ _ _
 ·split
  ·split
   ·exact Nat.le_refl _
   ·exact Ao _ _ _ _ _
  ·extract_lets
   split
   ·exact Nat.le_refl _
   ·split
    ·rename_i h;exact gC h
    ·trivial
   ·split
    rename_i h;have h:=kz h;refine gLe.after ?_;split
    all_goals first|exact h|trivial|exact gLe.trans h (nH _ _ _ _)
   ·trivial
theorem nI (p:Program)(main:Bool)(fr:Frame)(callers:List Frame)(dying:Option Dying)(v:Value)(w:World):gLe w (doReturn p main fr callers dying v w):=by
 unfold doReturn;split
 ·split
  all_goals exact Nat.le_refl _
 ·split
  ·exact Nat.le_refl _
  ·trivial
  ·split
   ·exact Nat.le_refl _
   ·split
    ·exact Nat.le_refl _
    ·trivial
theorem rW (p:Program)(fr:Frame)(callers:List Frame)(dying:Option Dying)(d:Deferred)(w:World):gLe w (callDeferred p fr callers dying d w):=by
 unfold callDeferred;refine qf trivial ?_;rcases h:(invoke d.target d.args).runT p w #[]with⟨r,es⟩;have h:=kz h;dsimp only;refine gLe.after ?_;split
 all_goals first|exact h|trivial|exact gLe.trans h (rI _ _ _ _ _ _) |exact gLe.trans h (lz _ _ _) |skip
 split <;>exact h
theorem CE (p:Program)(main:Bool)(fr:Frame)(callers:List Frame)(dying:Option Dying)(w:World):gLe w (unwind p main fr callers dying w):=by
 unfold unwind;split
 ·split
  rename_i h;have h:=kz h;refine gLe.after ?_;split
  ·exact h
  ·trivial
 ·exact rW _ _ _ _ _ _
 ·split
  ·trivial
  ·split
   ·trivial
   ·split
    ·exact Nat.le_refl _
    ·split
     ·split
      ·exact Nat.le_refl _
      ·split
       ·rename_i h;exact gC h
       ·trivial
       ·trivial
     ·split
      ·exact nH _ _ _ _
      ·trivial
  ·split
   ·exact nI _ _ _ _ _ _ _
   ·split
    rename_i h;have h:=kz h;refine gLe.after ?_;split
    ·exact gLe.trans h (nI _ _ _ _ _ _ _)
    ·trivial
    ·trivial
theorem ET (p:Program)(fr:Frame)(callers:List Frame)(dying:Option Dying)(g:Nat)(w:World):gLe w (early p fr callers dying g w):=by
 unfold early
 extract_lets refuse notYet there
 have hn:∀ w0:World,w.drawn<=w0.drawn->gLe w (notYet w0):=fun w0 h0=>by
  show gLe w (match w0.heap[g]? with|some (.pending c elem) =>_|_=>_);split
  ·exact h0
  ·trivial
 split
 ·exact hn w (Nat.le_refl _)
 ·split
  ·trivial
  ·extract_lets there
   have ht:∀ w0:World,w.drawn<=w0.drawn->gLe w (there w0):=fun w0 h0=>h0;split
   ·exact hn w (Nat.le_refl _)
   ·split
    ·exact hn w (Nat.le_refl _)
    ·split
     ·trivial
     ·exact ht w (Nat.le_refl _)
     ·trivial
     ·exact hn w (Nat.le_refl _)
     ·split
      ·exact ht w (Nat.le_refl _)
      ·split
       ·exact hn w (Nat.le_refl _)
       ·split
        ·rename_i h;exact hn _ (gC h)
        ·rename_i h;exact ht _ (gC h)
        ·trivial
end Go.Sx
end
