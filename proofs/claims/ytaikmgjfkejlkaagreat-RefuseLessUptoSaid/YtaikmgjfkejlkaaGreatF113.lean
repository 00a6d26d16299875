/- Part of the proof that the law RefuseLess returns true and leaves its arguments as they were, for all arguments of bulk at most 1048576 (the Upto form). -/
import Derived.Test.YtaikmgjfkejlkaaGreatF110
import Derived.Test.YtaikmgjfkejlkaaGreatF112
import Derived.Test.YtaikmgjfkejlkaaGreatF107
import Derived.Shelf.SlSortCmp.NoneTotal
import Derived.Ground.SlsfProg
import Derived.Test.YtaikmgjfkejlkaaGreatProg
import Derived.Test.YtaikmgjfkejlkaaGreatF108
set_option linter.all false
set_option maxHeartbeats 4000000
set_option maxRecDepth 100000
section
namespace Go.Sx
open Go.Proofs
open IntKind (i64 u64)
structure aqw (d:ah)(x:Order):Prop where
 aq7:0<=x.hour
 hour:x.hour<d.hours
 aqx:0<=x.index
 ee:x.X2=true->x.index< (d.u0.length:Int)
 reach:x.X2=false->x.index< (d.reaches.length:Int)
 aqh:1<=x.dd
 dd:x.dd<=1073741824
def O_ (d:ah)(l:List Order):nJ d l:=λ_ h1 _ _=>ic _ _ _ λj s h2 E=>by
 unfold aK at h1;unfold kq;have e:decide ((j:Int) > 0)=true->(0<=i64.wrap ((j:Int) - 1)/\i64.wrap ((j:Int) - 1) < (l.length:Int)):=λh=>by
  simp only[decide_eq_true_eq]at h;grind [oa]
 grind
structure apa (d:ah)(l:List Order):Prop where
 right:apd d
 len:l.length<=4096
 one:∀ k,k<l.length->aqw d (l.getD k default)
 asc:∀ k,k+1<l.length->aN (l.getD k default) (l.getD (k+1) default) <0
variable {d:ah}{l:List Order}
theorem F_(h:(d8 d l !=0)=false):apa d l:=by
 have h:d8 d l=0:=by simpa using h
 unfold d8 at h;cases h1:ap d !=0 with
 |true=>grind
 |false=>
  rw[h1]at h;simp only[cond_false]at h;cases h2:decide ((l.length:Int) > 4096)with
  |true=>grind
  |false=>
   rw[h2]at h;simp only[cond_false]at h;have V:l.length<=4096:=by grind
   split at h
   cases h;rename_i s U;have key:∀ k,k<l.length->aqw d (l.getD k default)/\(0<k->aN (l.getD (k - 1) default) (l.getD k default) <0):=by
    intro k E;have:=mB U k (by omega) (by omega);have W:((k:Int) > 0)->(i64.wrap ((k:Int) - 1)).toNat=k - 1:=λh=>by
     grind [oa]
    unfold fm at this;generalize X:l.getD k default=x at this |-;cases O:x.X2 with
    |true=>
     rw[O]at this;simp only[cond_true]at this;rw[amE]at this;split at this
     cases this;rename_i hc;simp only[am8,al1,amv,decide_eq_false_iff_not]at hc;refine⟨⟨by omega,by omega,by omega,λ_=>by omega,λh=>by grind,by omega,by omega⟩,λhk0=>?_⟩;grind
    |false=>
     rw[O]at this;simp only[cond_false]at this;rw[amE]at this;split at this
     cases this;rename_i hc;simp only[am8,al1,amv,decide_eq_false_iff_not]at hc;refine⟨⟨by omega,by omega,by omega,λh=>by grind,λ_=>by omega,by omega,by omega⟩,λhk0=>?_⟩;grind
   exact⟨jw h1,V,λk E=>(key k E).1,λk E=>(key (k+1) E).2 (by omega)⟩
structure aqZ (i:Int)(x:Reach):Prop where
 up:x.up<i
 aq2:1<=x.delay
 delay:x.delay<=16
 arV:0<=x.aoU
 aoU:x.aoU<=x.cap
 cap:x.cap<=1073741824
 aph:x.aoU<=x.aph
 asB:x.aph<=1099511627776
theorem IK {i:Int}{x:Reach}(hi:0<=i)(h:dG i x=true):aqZ i x:=by
 unfold dG at h;cases hd:decide (i > 0)with
 |true=>
  rw[hd]at h;simp only[cond_true,alt,cC,decide_eq_true_eq]at h hd;obtain⟨⟨⟨⟨⟨U,h1⟩,h2⟩,E⟩,V⟩,O⟩:=h;have:=vn h1;have:=qm h2;have:=qm E;constructor <;>omega
 |false=>
  rw[hd]at h;simp only[cond_false,alt,beq_iff_eq,decide_eq_false_iff_not]at h hd;obtain⟨⟨⟨⟨⟨U,h1⟩,h2⟩,E⟩,V⟩,O⟩:=h;have:=vn h1;have:=qm h2;have:=qm E;constructor <;>omega
theorem apd.aqu(h:apd d){k:Nat}(E:k<d.reaches.length):aqZ k (d.reaches.getD k default):=IK (by omega) (h.reach k E)
theorem yF (d:ah)(l:List Order):d8 d l=0↔ap d=0/\l.length<=4096/\∀ k,k<l.length->fm d l k ()=.inr ():=by
 unfold d8;cases h1:(ap d !=0)with
 |true=>grind
 |false=>
  simp at h1;simp only[cond_false,h1,true_and];grind [g5]
theorem apa.lt(h:apa d l):∀ (k j:Nat),j<k->k<l.length->olt (l.getD j default) (l.getD k default)
 |k+1,j,h1,h2=>by
  have E:=II (h.asc k (by omega));by_cases e:j=k
  grind
  exact IJ (h.lt k j (by omega) (by omega)) E
def gj (p:Order->Bool):List Order->Int
 | [] =>0|x::r=>(bif p x then x.dd else 0)+gj p r
theorem Ga (p:Order->Bool)(a b:List Order):gj p (a++b)=gj p a+gj p b:=by
 induction a with
 |nil=>simp[gj]|cons x r E=>grind [gj]
variable {p:Order->Bool}
theorem Gb(h:∀ x∈l,1<=x.dd/\x.dd<=1073741824):0<=gj p l/\gj p l<=l.length*1073741824:=by
 induction l with
 |nil=>simp[gj]
 |cons x r E=>
  have h1:=E λa O=>h a (alP _ O);have h2:=h x alR;simp only[gj,aly];grind
theorem xL(h:∀ x∈l,p x=false):gj p l=0:=by
 induction l with
 |nil=>rfl
 |cons x r E=>
  grind [gj]
theorem Wz{q r:Order->Bool}(h:∀ x∈l,(r x=(p x||q x))/\(p x&&q x)=false):gj p l+gj q l=gj r l:=by
 induction l with
 |nil=>rfl
 |cons x t E=>
  simp only[gj];grind
variable {j:Nat}
theorem aig(O:j<l.length)(h:p l[j]=true)(U:∀ i (hi:i<l.length),i≠j->p l[i]=false):gj p l=l[j].dd:=by
 have e:l=l.take j++l[j]::l.drop (j+1):=by simp_all
 conv=>lhs;rw[e,Ga]
 rw[xL λx E=>?_];simp only[gj,h,cond_true];rw[xL λx E=>?_];omega;obtain⟨i,hi,rfl⟩:=al8 E;grind
 obtain⟨i,hi,rfl⟩:=al8 E;grind
theorem apa.lit(h:apa d l):∀ x∈l,1<=x.dd/\x.dd<=1073741824:=λx O=>by
 obtain⟨k,E,rfl⟩:=al8 O;have:=h.one k E;rw[mC _ _ E]at this;exact⟨this.aqh,this.dd⟩
theorem apa.uniq(h:apa d l){i:Nat}(hi:i<l.length)(Y:j<l.length)(U:l[i].hour=l[j].hour)(V:l[i].index=l[j].index)(W:l[i].X2=l[j].X2):i=j:=by
 have key:∀ a b (X:a<l.length) (O:b<l.length),a<b->l[a].hour=l[b].hour->l[a].index=l[b].index->l[a].X2=l[b].X2->False:=λa b X O E U V W=>by
  have:=h.lt b a E O;grind [olt,Ax]
 grind
theorem xM(E:j<l.length):gj p (l.take (j+1))=gj p (l.take j)+(bif p l[j]then l[j].dd else 0):=by
 rw[amJ E,Ga];simp[gj]
theorem zf {κ υ:Type}[DecidableEq κ]:∀ (l:List (κ×υ)) (x:κ) (y:υ),(tg l x y).map Prod.fst=if x∈l.map Prod.fst then l.map Prod.fst else l.map Prod.fst++[x]
 | [],x,y=>by simp[tg]
 |(a,b)::r,x,y=>by
  unfold tg;by_cases h:x=a
  subst h;simp;rw[if_neg h,amh,zf r x y];grind
theorem M7 {κ υ:Type}[DecidableEq κ]:∀ (l:List (κ×υ)) (e:κ×υ),(l.map Prod.fst).Nodup->e∈l->iC l e.1=some e.2
 |(a,b)::r,e,E,he=>by
  simp only[amh,al6]at E;unfold iC;rcases alD.1 he with rfl|he;simp;have:e.1≠a:=λh=>E.1 (h▸am4 he);rw[if_neg this];exact M7 r e E.2 he
theorem BO {α:Type}(l:List α)(d:α){k:Nat}(h:k<l.length):l.getD k d∈l:=by
 grind
theorem M8 {n d:Int}(hd:1<=d)(O:d<=1073741824)(h1: -1152921504606846976<=n)(h2:n<=1152921504606846976):lM n d=n / d:=by
 unfold lM;have E:Int.tmod (Int.tmod n d+d) d=n % d:=by
  have a1: -d<Int.tmod n d:=anB n (by omega);rw[amg (by omega),aoE];rw[aog];split
  simp_all;have:n % d - (d.natAbs:Int)=n % d+d*(-1):=by omega
  simp_all
 have a1: -d<Int.tmod n d:=anB n (by omega);have X:Int.tmod n d<d:=aoF n (by omega);rw[az (by omega: -9223372036854775808<=Int.tmod n d+d) (by omega),E];have Y:=anc n (by omega:d≠0);have W:=amY n (by omega:0<d);rw[az (by omega: -9223372036854775808<=n - n % d) (by omega)];have U:n - n % d=d*(n / d):=by have:=anj n d;omega
 rw[U,an7 _ (by omega)];have c1:n / d<=1152921504606846976:=by
  have:=am9 (by omega:0<d) h2;have:=anM (b:=d) (by omega:(0:Int)<=1152921504606846976);omega
 have V: -1152921504606846976<=n / d:=by
  rw[amS (by omega)];omega
 exact az (by omega) (by omega)
structure Rat (a:G2):Prop where
 d1:1<=a.d
 d:a.d<=1073741824
 n0: -1073741824<=a.n
 n:a.n<=1073741824
theorem WA {a:G2}(h:aR a=0):Rat a:=by
 unfold aR at h;rw[amE]at h;split at h
 cases h;rename_i h1;simp only[alY,decide_eq_true_eq,not_or]at h1;constructor <;>omega
theorem zg {i:Int}{x:Reach}(h:dG i x=true):jq x.apc=true/\0<=x.apu.lo/\x.apu.lo<=x.apu.hi/\x.apu.hi<=1073741824:=by
 unfold dG at h;cases hd:decide (i > 0) <;>rw[hd]at h <;>simp only[cond_true,cond_false,alt]at h;all_goals
  have E:=qm h.1.2;exact⟨h.2,E.1,E.2.1,E.2.2⟩
theorem WB {a b:Int}(E: -1073741824<=a)(h1:a<=1073741824)(h2:0<=b)(V:b<=1073741824): -1152921504606846976<=a*b/\a*b<=1152921504606846976:=by
 have U:=al_ E h2;have O:=al_ h1 h2;omega
structure arF (x:G2×G2):Prop where
 r1:Rat x.1
 r2:Rat x.2
 c1:aR x.1=0
 c2:aR x.2=0
 cmp:ig x.1 x.2=((ig x.1 x.2).1,0)/\(ig x.1 x.2).1<=0
 le:x.1.n*x.2.d<=x.2.n*x.1.d
 n1:0<=x.1.n
 n2:x.2.n<=x.2.d
 m1:x.1.n<=x.1.d
 m2:0<=x.2.n
variable {x:G2×G2}
theorem KB(h:jq x=true):arF x:=by
 unfold jq at h;simp only[alt,beq_iff_eq,decide_eq_true_eq]at h;obtain⟨⟨⟨h1,h2⟩,U⟩,X⟩:=h;have hc:aR x.1=0/\aR x.2=0:=by
  unfold ig at h1;grind
 have E:=WA hc.1;have O:=WA hc.2;have b1:=WB E.n0 E.n (by have:=O.d1;omega) O.d;have b2:=WB O.n0 O.n (by have:=E.d1;omega) E.d;have W:x.1.n*x.2.d<=x.2.n*x.1.d:=by
  unfold ig at U;rw[hc.1,hc.2]at U;simp only[bne_self_eq_false,Bool.or_self,cond_false]at U;grind [az,jv]
 have e1:=E.d1;have e2:=O.d1;have m1:x.1.n<=x.1.d:=by
  have:=al_ X (by omega:0<=x.1.d);have V:x.1.n*x.2.d<=x.1.d*x.2.d:=by grind
  exact anp V (by omega)
 have Y:0<=x.2.n:=by
  have:=ano h2 (by omega:0<=x.2.d);have V:0*x.1.d<=x.2.n*x.1.d:=by omega
  exact anp V (by omega)
 exact⟨E,O,hc.1,hc.2,⟨by rw[<-h1],U⟩,W,h2,X,m1,Y⟩
theorem S5(h:arF x):nt x=true:=by
 unfold nt o6 sg;have:=h.n1;have:=h.n2;have:=h.m1;have:=h.m2;rw[h.c1,h.c2,decide_eq_true (by omega:x.1.n>=0),decide_eq_true (by omega:x.1.n<=x.1.d),decide_eq_true (by omega:x.2.n>=0),decide_eq_true (by omega:x.2.n<=x.2.d)];have h2:=congrArg Prod.snd h.cmp.1;dsimp only at h2;rw[h2,decide_eq_true h.cmp.2];rfl
variable {v:Int}
theorem Gc{a:G2}(h:Rat a)(hc:aR a=0)(V:0<=a.n)(E:0<=v)(X:v<=1073741824):(eT a v).1=a.n*v / a.d/\(eT a v).2.1= -(-(a.n*v) / a.d)/\ -(-(a.n*v) / a.d)<=1152921504606846976/\0<= -(-(a.n*v) / a.d):=by
 have:=h.d1;have:=h.d;have:=h.n;have Y:=WB (by omega) h.n E X;have U:=ano V E;unfold eT;have O:(decide (v< (-1073741824)) ||decide (v > 1073741824))=false:=by grind
 rw[hc,O];simp only[bne_self_eq_false,cond_false];rw[az (by omega: -9223372036854775808<=0 - a.n) (by omega)];have W:(0 - a.n)*v= -(a.n*v):=by grind
 rw[W,az (by omega: -9223372036854775808<= -(a.n*v)) (by omega),az (by omega: -9223372036854775808<=a.n*v) (by omega)];rw[M8 h.d1 h.d (by omega) (by omega),M8 h.d1 h.d (by omega) (by omega)];have c1: -1152921504606846976<= -(a.n*v) / a.d:=by
  rw[amS (by omega)];omega
 have c2: -(a.n*v) / a.d<=0:=by
  have:=am9 (by omega:0<a.d) (by omega: -(a.n*v)<=0);simp_all
 grind [az]
theorem KC{i:Int}{x:Reach}(h:dG i x=true)(O:0<=v)(V:v<=1073741824):gR x v=0/\0<=(g6 x v).lo/\(g6 x v).lo<=(g6 x v).hi/\(g6 x v).hi<=v:=by
 obtain⟨h1,h2,h3,h4⟩:=zg h;have E:=KB h1;refine⟨?_,?_⟩;grind [gR,o5,sg,S5]
 unfold g6;cases hv:(v==0)with
 |true=>
  grind
 |false=>
  simp only[beq_eq_false_iff_ne,ne_eq]at hv;simp only[cond_false];obtain⟨a1,_,_,_⟩:=Gc E.r1 E.c1 E.n1 O V;obtain⟨_,b1,b2,b3⟩:=Gc E.r2 E.c2 E.m2 O V;rw[a1,b1];have d1:=E.r1.d1;have d2:=E.r2.d1;have Y:0<=x.apc.1.n*v / x.apc.1.d:=Int.ediv_nonneg (ano E.n1 O) (by omega);have X:x.apc.1.n*v / x.apc.1.d*x.apc.1.d<=x.apc.1.n*v:=Int.ediv_mul_le _ (by omega);have W: -(x.apc.2.n*v) / x.apc.2.d*x.apc.2.d<= -(x.apc.2.n*v):=Int.ediv_mul_le _ (by omega);generalize x.apc.1.n*v / x.apc.1.d=P at Y X;generalize -(x.apc.2.n*v) / x.apc.2.d=Q at b2 b3 W;have PV:P<=v:=by
   have:=al_ E.m1 O;have U:P*x.apc.1.d<=v*x.apc.1.d:=by grind
   exact anp U (by omega)
  have PQ:P<= -Q:=by
   have e1:=al_ X (by omega:0<=x.apc.2.d);have e2:=al_ E.le O;have e3:=al_ W (by omega:0<=x.apc.1.d);have U:P*(x.apc.1.d*x.apc.2.d)<= -Q*(x.apc.1.d*x.apc.2.d):=by
    grind
   have hp:0<x.apc.1.d*x.apc.2.d:=Int.mul_pos (by omega) (by omega);simp_all
  grind [az]
def wst (x:Reach)(v:Int):Int:=v - (g6 x v).hi
theorem WC{i:Int}{x:Reach}(h:dG i x=true)(W:0<=v)(V:v<=1073741824):wst x v=max 0 ((x.apc.2.d - x.apc.2.n)*v / x.apc.2.d - x.apu.hi):=by
 obtain⟨U,g2,g3,g4⟩:=zg h;have E:=KB U;have d1:=E.r2.d1;have X:(x.apc.2.d - x.apc.2.n)*v / x.apc.2.d=v+ -(x.apc.2.n*v) / x.apc.2.d:=by
  grind [Int.add_mul_ediv_left]
 rw[X];unfold wst g6;cases O:(v==0)with
 |true=>
  simp only[beq_iff_eq]at O;subst O;simp only[cond_true,Int.mul_zero,Int.neg_zero,Int.zero_ediv];omega
 |false=>
  simp only[cond_false];obtain⟨_,Y,b2,b3⟩:=Gc E.r2 E.c2 E.m2 W V;grind [az]
theorem Z9 {k d a b:Int}(E:0<=k)(hd:1<=d)(h:a<=b):k*a / d<=k*b / d:=am9 (by omega) (ana h E)
section
variable {i:Int}{x:Reach}
theorem WD (h:dG i x=true){v:Int}(E:0<=v)(O:v<=1073741824):0<=wst x v/\wst x v<=v:=by
 have:=KC h E O;unfold wst;omega
theorem M9 (h:dG i x=true){a b:Int}(a0:0<=a)(O:a<=b)(U:b<=1073741824):wst x a<=wst x b:=by
 have E:=KB (zg h).1;have:=E.r2.d1;rw[WC h a0 (by omega),WC h (by omega) U];have:=Z9 (k:=x.apc.2.d - x.apc.2.n) (d:=x.apc.2.d) (by have:=E.n2;omega) E.r2.d1 O;omega
end
theorem aih {i j:Int}(E:0<=i)(h1:i<=j)(h2:j<=2305843009213693952):i64.wrap (mr .u64 (u64.wrap (i64.wrap (i+j))) 1)=(i+j) / 2:=by
 have U:i64.wrap (i+j)=i+j:=az (by omega) (by omega);have e:u64.wrap (i+j)=i+j:=by
  grind [IntKind.wrap,IntKind.bits]
 have O:mr .u64 (i+j) 1=(i+j) / 2:=by
  show Int.fdiv (i+j) ((2:Int) ^ min (Int.toNat 1) u64.bits)=_;have:(2:Int) ^ min (Int.toNat 1) u64.bits=2:=by decide
  grind
 grind [az]
theorem Pa {f:Int->Bool}{N:Int}{step:Nat->Int×Int->Int⊕(Int×Int)}(hN:N<=2305843009213693952)
  (hs:∀ k i j,0<=i->i<j->j<=N->step k (i,j)=if f ((i+j) / 2)=true then .inr (i,(i+j) / 2)else .inr ((i+j) / 2+1,j)) (he:∀ k i j,¬i<j->step k (i,j)=.inl i):
  ∀ (E k:Nat) (i j:Int),0<=i->i<=j->j<=N->j - i<2 ^ E->∃ v,aj step (E+1) k (i,j)=.inl v/\i<=v/\v<=j/\
   ((∀ a b,0<=a->a<=b->b<N->f a=true->f b=true)->(∀ u,i<=u->u<v->f u=false)/\(v<j->f v=true)):=by
 intro E;induction E with
 |zero=>
  intro k i j O h1 h2 h3;have:j=i:=by omega
  subst this;exact⟨j,by grind [aj],al5 _,al5 _,λ_=>⟨λu h4 X=>by omega,λh=>by omega⟩⟩
 |succ E Y=>
  intro k i j O h1 h2 h3;by_cases hlt:i<j
  have hp:(2:Int) ^ (E+1)=2 ^ E+2 ^ E:=by omega
  rw[show E+1+1=(E+1)+1 from rfl];simp only[aj,hs k i j O hlt h2];by_cases hf:f ((i+j) / 2)=true
  rw[if_pos hf];obtain⟨v,V,e2,e3,U⟩:=Y (k+1) i ((i+j) / 2) O (by omega) (by omega) (by omega);refine⟨v,V,e2,by omega,λW=>⟨(U W).1,λ_=>?_⟩⟩;grind
  rw[if_neg hf];obtain⟨v,V,e2,e3,U⟩:=Y (k+1) ((i+j) / 2+1) j (by omega) (by omega) h2 (by omega);refine⟨v,V,by omega,e3,λW=>⟨λu h4 X=>?_,(U W).2⟩⟩;grind
  have:j=i:=by omega
  subst this;exact⟨j,by grind [aj],al5 _,al5 _,λ_=>⟨λu h4 X=>by omega,λh=>by omega⟩⟩
theorem IL (w:Int)(x:Reach):∃ v,aj (jZ x w) 64 0 (0,1073741825)=.inl v/\0<=v/\v<=1073741825/\
  ((∀ a b,0<=a->a<=b->b<1073741825->fD a x w=true->fD b x w=true)->(∀ u,0<=u->u<v->fD u x w=false)/\(v<1073741825->fD v x w=true)):=by
 refine Pa (f:=λv=>fD v x w) (N:=1073741825) (by omega) (λk i j E h1 h2=>?_) (λk i j h=>?_) 63 0 0 1073741825 (by omega) (by omega) (by omega) (by decide);unfold jZ;simp only;rw[aih E (by omega) (by omega),decide_eq_true h1,az (by omega) (by omega)];grind
 grind [jZ]
theorem WE (w:Int)(x:Reach):kW 1073741825 x w:=λz E=>by
 obtain⟨v,h,_⟩:=IL w x;grind
def Rc (x:Reach)(w:Int):iM x w:=λ_=>WE _ x
def WF (x:Reach)(w:Int):mF x w:=λ_=>Rc x w
section
variable {i:Int}{x:Reach}
theorem WG (h:dG i x=true){w:Int}(hw:1<=w)(V:w<=1073741824):0<=fJ (w - 1) x/\fJ (w - 1) x<=1073741825/\(∀ u,0<=u->u<fJ (w - 1) x->wst x u<w)/\(fJ (w - 1) x<=1073741824->w<=wst x (fJ (w - 1) x)):=by
 obtain⟨v,e1,e2,e3,O⟩:=IL (w - 1) x;have ev:fJ (w - 1) x=v:=by grind [fJ,tO]
 have X:∀ u,0<=u->u<=1073741824->(fD u x (w - 1)=true↔w<=wst x u):=λu W U=>by
  have:=KC h W U;unfold fD qu wst;rw[az (by omega) (by omega),decide_eq_true_eq];omega
 obtain⟨e5,e6⟩:=O λa b a0 E hb Y=>(X b (by omega) (by omega)).2 (by
  have:=M9 h a0 E (by omega);grind)
 grind
theorem IM (h0:0<=i)(h:dG i x=true){w:Int}(hw:1<=w):(∃ v,a8 x w=(v,true)/\1<=v/\v<=1073741824/\x.aoU<=v/\w<=wst x v/\∀ u,0<=u->u<=1073741824->x.aoU<=u->w<=wst x u->v<=u)\/
  ((a8 x w).2=false/\∀ u,0<=u->u<=1073741824->wst x u<w):=by
 have E:=IK h0 h;unfold a8;have hw0:(w==0)=false:=by grind
 by_cases O:w<=1073741824
 have hc:(w==0||decide (w > 1073741824))=false:=by grind
 rw[hc,hw0];simp only[cond_false];obtain⟨l1,l2,l3,Y⟩:=WG h hw O;unfold ce;have hv:(gR x w !=0)=false:=by grind [KC]
 rw[hv,az (by omega) (by omega)];simp only[cond_false];by_cases U:fJ (w - 1) x<=1073741824
 rw[decide_eq_false (by omega)];simp only[cond_false,alN];have W:=Y U;have l6:=WD h l1 U;refine .inl ⟨_,rfl,?_,?_,?_,?_,λu X V u2 u3=>?_⟩;omega;have:=E.aoU;have:=E.cap;omega;omega;have:=E.aoU;have:=E.cap;split
 exact anW W (M9 h l1 (by omega) (by omega));exact W;grind
 grind
 have hc:(w==0||decide (w > 1073741824))=true:=by grind
 rw[hc];refine .inr ⟨by grind,λu X V=>?_⟩;have:=WD h X V;omega
end
end Go.Sx
end
section
namespace Go.Proofs
open Go.Shelf
def Tryz.aqV:Go.Shelf.Ren:=⟨λ|6=>171|15=>133|14=>246|28=>199|29=>200|20=>290|21=>291|22=>292|23=>293|24=>294|25=>295|26=>296|27=>297|46=>328|47=>260|48=>261|49=>329|50=>330|57=>343|n=>n,λ|22=>50|24=>259|25=>270|3=>3|39=>229|0=>0|53=>294|55=>296|4=>4|46=>288|45=>287|50=>267|5=>5|9=>9|66=>342|70=>60|76=>375|77=>376|n=>n,λ|n=>n⟩
theorem Tryz.aq8:Go.Proofs.SlLaysF0.n6 Tryz.prog Tryz.aqV:= {
 mixed:=by kernel_rfl
 f6:=⟨Tryz.f171.name,by decide,Tryz.func171.trans (congrArg some (by kernel_rfl))⟩
 f14:=⟨Tryz.f246.name,by decide,Tryz.func246.trans (congrArg some (by kernel_rfl))⟩
 f15:=Tryz.func133.trans (congrArg some (by kernel_rfl))
 f20:=⟨Tryz.f290.name,by decide,Tryz.func290.trans (congrArg some (by kernel_rfl))⟩
 f21:=⟨Tryz.f291.name,by decide,Tryz.func291.trans (congrArg some (by kernel_rfl))⟩
 f22:=⟨Tryz.f292.name,by decide,Tryz.func292.trans (congrArg some (by kernel_rfl))⟩
 f23:=⟨Tryz.f293.name,by decide,Tryz.func293.trans (congrArg some (by kernel_rfl))⟩
 f24:=⟨Tryz.f294.name,by decide,Tryz.func294.trans (congrArg some (by kernel_rfl))⟩
 f25:=⟨Tryz.f295.name,by decide,Tryz.func295.trans (congrArg some (by kernel_rfl))⟩
 f26:=⟨Tryz.f296.name,by decide,Tryz.func296.trans (congrArg some (by kernel_rfl))⟩
 f27:=⟨Tryz.f297.name,by decide,Tryz.func297.trans (congrArg some (by kernel_rfl))⟩
 f28:=Tryz.func199.trans (congrArg some (by kernel_rfl))
 f29:=Tryz.func200.trans (congrArg some (by kernel_rfl))
 f46:=⟨Tryz.f328.name,by decide,Tryz.func328.trans (congrArg some (by kernel_rfl))⟩
 f47:=Tryz.func260.trans (congrArg some (by kernel_rfl))
 f48:=Tryz.func261.trans (congrArg some (by kernel_rfl))
 f49:=⟨Tryz.f329.name,by decide,Tryz.func329.trans (congrArg some (by kernel_rfl))⟩
 f50:=⟨Tryz.f330.name,by decide,Tryz.func330.trans (congrArg some (by kernel_rfl))⟩
 f57:=⟨Tryz.f343.name,by decide,Tryz.func343.trans (congrArg some (by kernel_rfl))⟩
 t0:=Tryz.underlying0
 a0:=Tryz.isAgg0
 z0:=Tryz.sizeOf0
 v0:=Tryz.zeroValue0
 t3:=Tryz.underlying3
 a3:=Tryz.isAgg3
 z3:=Tryz.sizeOf3
 v3:=Tryz.zeroValue3
 t4:=Tryz.underlying4
 a4:=Tryz.isAgg4
 z4:=Tryz.sizeOf4
 v4:=Tryz.zeroValue4
 t5:=Tryz.underlying5
 a5:=Tryz.isAgg5
 z5:=Tryz.sizeOf5
 v5:=Tryz.zeroValue5
 t9:=Tryz.underlying9
 a9:=Tryz.isAgg9
 z9:=Tryz.sizeOf9
 v9:=Tryz.zeroValue9
 t22:=Tryz.underlying50
 a22:=Tryz.isAgg50
 z22:=Tryz.sizeOf50
 v22:=Tryz.zeroValue50
 t25:=Tryz.underlying270
 a25:=Tryz.isAgg270
 z25:=Tryz.sizeOf270
 v25:=Tryz.zeroValue270
 t39:=Tryz.underlying229
 a39:=Tryz.isAgg229
 z39:=Tryz.sizeOf229
 v39:=Tryz.zeroValue229
 t45:=Tryz.underlying287
 a45:=Tryz.isAgg287
 z45:=Tryz.sizeOf287
 v45:=Tryz.zeroValue287
 t46:=Tryz.underlying288
 a46:=Tryz.isAgg288
 z46:=Tryz.sizeOf288
 v46:=Tryz.zeroValue288
 t50:=Tryz.underlying267
 a50:=Tryz.isAgg267
 z50:=Tryz.sizeOf267
 v50:=Tryz.zeroValue267
 t53:=Tryz.underlying294
 a53:=Tryz.isAgg294
 z53:=Tryz.sizeOf294
 v53:=Tryz.zeroValue294
 t55:=Tryz.underlying296
 a55:=Tryz.isAgg296
 z55:=Tryz.sizeOf296
 v55:=Tryz.zeroValue296
 t66:=Tryz.underlying342
 a66:=Tryz.isAgg342
 z66:=Tryz.sizeOf342
 v66:=Tryz.zeroValue342
 t70:=Tryz.underlying60
 a70:=Tryz.isAgg60
 z70:=Tryz.sizeOf60
 v70:=Tryz.zeroValue60
 t76:=Tryz.underlying375
 a76:=Tryz.isAgg375
 z76:=Tryz.sizeOf375
 v76:=Tryz.zeroValue375
 t77:=Tryz.underlying376
 a77:=Tryz.isAgg376
 z77:=Tryz.sizeOf376
 v77:=Tryz.zeroValue376}
end Go.Proofs
end
section
namespace Go.Sx
open Go.Proofs
@[go_sem] def s7 (l_:List Int)(S2:Nat)(ly:Unit):Int⊕Unit:=(bif((l_.getD S2 0) !=0)then .inl (l_.getD S2 0)else .inr ())
def fg (l_:List Int):Int:=(match aj (s7 l_) l_.length 0 ()with| .inl pq=>pq| .inr ly=>0)
@[go_sem] def Ay:List SV->Option Con:=(pR .int λl_=>(pE (.det True (.v (.int .i64 (fg l_))))))
theorem ta:B1 Tryz.prog 173 Ay:=by
 have hG:=mG P0 P0;refine fN hG Tryz.f173 [.o] (bN λO=>(am (λX=>?_)));dsimp only[an]at X;refine⟨nbl rfl,(λid st=>bif Nat.beq id 0 then some (LCR (ρ:=Int) (σ:=Unit) 0 [] [] (λU V=>⟨[(5,.rs .int O),(6,.v (.int .i64 (O.length:Int))),(7,.v (.int .i64 (U:Int)))],[]⟩) (s7 O) pT O.length () (O.length<=aK) (λ_=>.ret) (λE=>⟨[(2,.v (.int .i64 E))],[]⟩) st)else none),?_,?_⟩;unfold ae Tryz.f173;simp only[ak,true_and,and_true];refine bZ mixed aD hG kr (λ_=>rfl) (O.length:Int) rfl fM (λhb0 U V W _ hw hc=>⟨L0,ag _,?_⟩) (λhb0 V hc=>?_);exact bG (jl []);exact bH (jl []);unfold ae Tryz.f173;try unfold fg
 exact zq2
def ar (a:Order)(b:Order):Int:=(fg ([(bj a.hour b.hour),(bj a.index b.index)]))
@[go_sem] def pm:List SV->Option Con:=(pD .order λa=>(pD .order λb=>(pE (.det True (.v (.int .i64 (ar a b)))))))
theorem vG:B1 Tryz.prog 243 pm:=by
 have hG:=mG (cp eS (cn [.sl .int] ta P0)) P0;refine fN hG Tryz.f243 [.o] (av λa=>(av λb=>(am (λE=>?_))));dsimp only[an]at E;refine⟨nbl rfl,L0,ag _,?_⟩;unfold ae Tryz.f243;try unfold ar
 exact zq2
def o7 (x:Order):Bool:=(decide (x.dd > 1073741824))
@[go_sem] def yc:List SV->Option Con:=(pD .order λx=>(pE (.det True (.v (.bool (o7 x))))))
theorem xe:B1 Tryz.prog 166 yc:=by
 have hG:=mG P0 P0;refine fN hG Tryz.f166 [.o] (av λx=>(am (λE=>?_)));dsimp only[an]at E;refine⟨nbl rfl,L0,ag _,?_⟩;unfold ae Tryz.f166;try unfold o7
 exact zq2
theorem M_ (x:Int)(l:List Int):fg (x::l)=if x=0 then fg l else x:=by
 have key:∀ l:List Int,fg l=match dC (ρ:=Int) (λ(x:Int) (_:Unit) =>bif(x !=0)then .inl x else .inr ()) l ()with| .inl y=>y| .inr _=>0:=λl=>by
  unfold fg;have:=rK (ρ:=Int) (λ(x:Int) (_:Unit) =>bif(x !=0)then .inl x else .inr ()) 0 l ();rw[<-this];rfl
 rw[key,key];simp only[dC];grind
def Pb:fg []=0:=rfl
def KD:List (Int×Int)->Prop
 | [] =>False|(a,b)::r=>a<b\/a=b/\KD r
theorem Gd:∀ l:List (Int×Int),(fg (l.map λp=>bj p.1 p.2) <0↔KD l)
 | [] =>by simp[Pb,KD]
 |(a,b)::r=>by
  have hc:=jv a b;simp only[amh,M_,hc,KD];rcases an3 a b with h|h|h;simp[h];subst h;simp only[aoA,if_false,if_true,true_and,false_or,gt_iff_lt];exact Gd r;omega
def S6 (a b:Order):Prop:=KD [(a.hour,b.hour),(a.index,b.index)]
def vH (a b:Order):ar a b<0↔S6 a b:=Gd [(a.hour,b.hour),(a.index,b.index)]
open Go.Shelf Go.Sort in
theorem kc:SWO (ltOf ar):=J_ vH (λx=>by simp_all [S6,KD]) (λx y z h1 h2=>by simp only[S6,KD,and_false,or_false]at *;omega) (λx y z h1 h2=>by simp only[S6,KD,and_false,or_false]at *;omega)
end Go.Sx
end
section
namespace Go.Sx
open Go.Lib Go.Proofs Go.RowKit Go.Shelf Go.Sort
noncomputable def tb:List SV->List Ob->Option ao3:=λl h=>orC (iU .order 298 [.ep [mS] 0] aN l h) (iU .order 243 [] ar l h)
variable {l0:List Order}
@[go_sem] theorem XI:tb [.os 0,.fn 298 [] [.ep [mS] 0]] [.row .order l0]=some (fL (apart aN l0) (.tup []) [.row .order (srt aN l0)]):=by
 unfold tb;rw[mX];rfl
@[go_sem] theorem WH:tb [.os 0,.fn 243 [] []] [.row .order l0]=some (fL (apart ar l0) (.tup []) [.row .order (srt ar l0)]):=by
 unfold tb;rw[mX];have:iU .order 298 [.ep [mS] 0] aN [.os 0,.fn 243 [] []] [.row .order l0]=none:=by simp[iU,L7]
 rw[this];rfl
theorem Cz:wQ .order:=λx s E=>by
 simp only[cellsOf,alD,amf,or_false]at E;rcases E with rfl|rfl|rfl|rfl;all_goals exact⟨_,rfl,rfl⟩
theorem WI (x y:Order):mj (.agg (cellsOf .order x):: .agg (cellsOf .order y)::[.ep [mS] 0])=some (.det True (.v (.int .i64 (aN x y)))):=by
 simp only[go_sem,Nat.reduceBEq]
theorem CA (x y:Order):pm (.agg (cellsOf .order x):: .agg (cellsOf .order y)::[])=some (.det True (.v (.int .i64 (ar x y)))):=by
 rfl
theorem CB:ao2 Tryz.prog 171 tb:=by
 refine ao2.or ?_ ?_;refine qJ (k:=.order) Tryz.aq8 (λw=>by kernel_rfl) (λw=>by kernel_rfl) Cz (by decide) (g:=298) (caps:=[.ep [mS] 0]) vX (cf:=aN) WI vF (λs E=>?_) ⟨default,default,WI _ _⟩;simp only[alD,amf,or_false]at E;subst E;exact gT 5 _ rfl;exact qJ (k:=.order) Tryz.aq8 (λw=>by kernel_rfl) (λw=>by kernel_rfl) Cz (by decide) (g:=243) (caps:=[]) vG (cf:=ar) CA kc (λs E=>by cases E) ⟨default,default,CA _ _⟩
end Go.Sx
end
section
namespace Go.Sx
open Go.Proofs
open IntKind (i64)
@[go_sem] def bR (a0:ah)(a1:List Order)(S2:Nat)(ly:List ((Int×Int)×Int)):Unit⊕(List ((Int×Int)×Int)):=(bif(!(a1.getD S2 (default:Order)).X2)then .inl ()else .inr (dD .aoQ .int ly ((a0.u0.getD (Int.toNat ((a1.getD S2 (default:Order)).index)) (default:apQ)).reach,(a1.getD S2 (default:Order)).hour) (i64.wrap ((ax .aoQ .int ly ((a0.u0.getD (Int.toNat ((a1.getD S2 (default:Order)).index)) (default:apQ)).reach,(a1.getD S2 (default:Order)).hour))+(a1.getD S2 (default:Order)).dd))))
def jz (a0:ah)(a1:List Order)(S2:Nat)(ly:List ((Int×Int)×Int)):Prop:=((!(a1.getD S2 (default:Order)).X2)=false->(0<=(a1.getD S2 (default:Order)).index/\(a1.getD S2 (default:Order)).index< (a0.u0.length:Int)))
@[go_sem] def bB (a0:ah)(z_1:Int×Int)(s_1:List Order×List ((Int×Int)×Int)):(List ((Int×Int)×Int))⊕(List Order×List ((Int×Int)×Int)):=(bif((ax .aoQ .int s_1.2 (z_1.1,z_1.2)) ==0)then .inr (s_1.1,s_1.2)else(bif((!(a8 (a0.reaches.getD (Int.toNat z_1.1) (default:Reach)) (ax .aoQ .int s_1.2 (z_1.1,z_1.2))).2) ||(decide (z_1.2< (a0.reaches.getD (Int.toNat z_1.1) (default:Reach)).delay)))then .inl s_1.2 else .inr ((s_1.1++([({ hour:=(i64.wrap (z_1.2 - (a0.reaches.getD (Int.toNat z_1.1) (default:Reach)).delay)),index:=z_1.1,dd:=(a8 (a0.reaches.getD (Int.toNat z_1.1) (default:Reach)) (ax .aoQ .int s_1.2 (z_1.1,z_1.2))).1,X2:=false}:Order)])),(dD .aoQ .int s_1.2 ((a0.reaches.getD (Int.toNat z_1.1) (default:Reach)).up,(i64.wrap (z_1.2 - (a0.reaches.getD (Int.toNat z_1.1) (default:Reach)).delay))) (i64.wrap ((ax .aoQ .int s_1.2 ((a0.reaches.getD (Int.toNat z_1.1) (default:Reach)).up,(i64.wrap (z_1.2 - (a0.reaches.getD (Int.toNat z_1.1) (default:Reach)).delay))))+(a8 (a0.reaches.getD (Int.toNat z_1.1) (default:Reach)) (ax .aoQ .int s_1.2 (z_1.1,z_1.2))).1))))))
def iq (a0:ah)(z_1:Int×Int)(s_1:List Order×List ((Int×Int)×Int)):Prop:=(((ax .aoQ .int s_1.2 (z_1.1,z_1.2)) ==0)=false->((0<=z_1.1/\z_1.1< (a0.reaches.length:Int))/\((mF (a0.reaches.getD (Int.toNat z_1.1) (default:Reach)) (ax .aoQ .int s_1.2 (z_1.1,z_1.2)))/\(((!(a8 (a0.reaches.getD (Int.toNat z_1.1) (default:Reach)) (ax .aoQ .int s_1.2 (z_1.1,z_1.2))).2) ||(decide (z_1.2< (a0.reaches.getD (Int.toNat z_1.1) (default:Reach)).delay)))=false->((s_1.1++([({ hour:=(i64.wrap (z_1.2 - (a0.reaches.getD (Int.toNat z_1.1) (default:Reach)).delay)),index:=z_1.1,dd:=(a8 (a0.reaches.getD (Int.toNat z_1.1) (default:Reach)) (ax .aoQ .int s_1.2 (z_1.1,z_1.2))).1,X2:=false}:Order)])).length*32<=d9)))))
def aQ (a0:ah)(a1:List Order):List Order×Bool×Int:=letI q0:=c9 a0 a1;(bif(q0 !=0)then([],false,q0)else(match aj (bR a0 a1) a1.length 0 ([])with| .inl pq=>([],false,220) | .inr ly=>(match dC (bB a0) (cH a0) (a1,ly)with| .inl apA=>([],false,0) | .inr s_1=>(bif(decide ((s_1.1.length:Int) > 4096))then([],false,2)else((srt aN s_1.1),true,0)))))
def o8 (a0:ah)(a1:List Order):Prop:=letI q0:=bR a0 a1;letI q1:=bB a0;letI q2:=cH a0;((mH a0 a1)/\(((c9 a0 a1) !=0)=false->(a1.length<=aK->(okI q0 (jz a0 a1) a1.length 0 ([])/\(∀ ly,aj q0 a1.length 0 ([])=.inr ly->((a1.length*32<=d9)/\((a0.hours<9223372036854775808)/\okL q1 (iq a0) q2 (a1,ly)/\(∀ s_1,dC q1 q2 (a1,ly)=.inr s_1->(s_1.1.length<=aK->((decide ((s_1.1.length:Int) > 4096))=false->(apart aN s_1.1)))))))))))
@[go_sem] def Ge:List SV->Option Con:=(pD .bh λa0=>(pR .order λa1=>(pE (.det (o8 a0 a1) (.tup [.rs .order ((aQ a0 a1).1),.v (.bool ((aQ a0 a1).2.1)),.v (.int .i64 ((aQ a0 a1).2.2))])))))
variable {p:Prop}
theorem aii(h:p:=by simp only[go_sem,e1_0,e1_1,e1_2,e1_3,e1_4,e1_5]):p:=h
variable {l0 l1:List Nat}
theorem aij(a0:JL l0)(a1:JL l1)(h:JL l0->JL l1->p:=by intro ja jb;simp only[go_sem,mz,gi,bB,psT,EK,alU,alC];all_goals exact gE ja jb):p:=h a0 a1
theorem abi(a0:JL l0)(a1:JL l1)(h:JL l0->JL l1->p:=by intro ja jb;simp only[go_sem,mz,gi];all_goals exact gE ja jb):p:=h a0 a1
theorem aik(h:p:=by simp only[go_sem,mz,gi];all_goals exact cl3):p:=h
theorem Df:B1 Tryz.prog 109 Ge:=by
 have hG:=mG (cn [.st .bh,.sl .order] Aw (cn [.sl .order] CK (cn [.st .bh] zY (cp Av (cp s4 P0))))) (co CB P0);refine fN hG Tryz.f109 [.sl .order,.o,.o] (av λa0=>(bN λa1=>(am (λW=>?_))));dsimp only[an]at W;unfold o8 at W;refine⟨nbl rfl,(λid st=>bif Nat.beq id 0 then some (LCR (ρ:=Unit) (σ:=(List ((Int×Int)×Int))) 6 [] [0,1,2,3,4,5] (λY U=>⟨[(1,.rs .order a1),(2,.ptr 0 0),(4,.ptr 1 0),(5,.ptr 2 0),(6,.ptr 3 0),(7,.ptr 5 0),(23,.rs .order a1),(24,.v (.int .i64 (a1.length:Int))),(25,.v (.int .i64 (Y:Int)))],[.cells (cellsOf .bh a0),.cells [.v (.slice none 0 0)],.cells [.v (.bool false)],.cells [.v (.int .i64 (c9 a0 a1))],.mp .aoQ .int U none,.cells [.os 4]]⟩) (bR a0 a1) (jz a0 a1) a1.length ([]) (a1.length<=aK) (λ_=>.ret) (λpq=>⟨[(4,.ptr 1 0),(5,.ptr 2 0),(6,.ptr 3 0)],[.dead,.cells [.v (.slice none 0 0)],.cells [.v (.bool false)],.cells [.v (.int .i64 220)],.dead,.dead]⟩) st)else bif Nat.beq id 2 then some (LC (ρ:=List ((Int×Int)×Int)) (σ:=List Order×List ((Int×Int)×Int)) (lk 2 st.t=.ptr 0 0/\lk 4 st.t=.ptr 1 0/\lk 5 st.t=.ptr 2 0/\lk 6 st.t=.ptr 3 0/\lk 7 st.t=.ptr 5 0/\lk 53 st.t=.fn 245 [] [.ep (cellsOf .bh a0) 0]/\st.h=[.cells (cellsOf .bh a0),.cells [.os 6],.cells [.v (.bool false)],.cells [.v (.int .i64 (c9 a0 a1))],.mp .aoQ .int (cq (aj (bR a0 a1) a1.length 0 ([]))) none,.cells [.os 4],.row .order a1]/\a0.hours<9223372036854775808/\okL (bB a0) (iq a0) (cH a0) (a1,(cq (aj (bR a0 a1) a1.length 0 ([]))))) (dC (bB a0) (cH a0) (a1,(cq (aj (bR a0 a1) a1.length 0 ([]))))) (λ_=>.ret) (λO=>⟨[(2,.ptr 0 0),(4,.ptr 1 0),(5,.ptr 2 0),(6,.ptr 3 0),(7,.ptr 5 0)],[.cells (cellsOf .bh a0),.cells [.v (.slice none 0 0)],.cells [.v (.bool false)],.cells [.v (.int .i64 0)],.mp .aoQ .int O none,.cells [.os 4],.dead,.dead]⟩) (λE=>⟨[(2,.ptr 0 0),(4,.ptr 1 0),(5,.ptr 2 0),(6,.ptr 3 0),(7,.ptr 5 0)],[.cells (cellsOf .bh a0),.cells [.os 7],.cells [.v (.bool false)],.cells [.v (.int .i64 (c9 a0 a1))],.mp .aoQ .int E.2 none,.cells [.os 4],.dead,.row .order E.1]⟩))else none),?_,?_⟩
 ·unfold ae Tryz.f109;simp only[ak,true_and,and_true];refine⟨?_,?_⟩;refine bZ mixed aD hG kr (λ_=>rfl) (a1.length:Int) rfl fM (λhb0 Y U aqm X hw hc=>⟨L0,ag _,?_⟩) (λhb0 U hc=>?_);unfold jz at X;try simp only[hw,alv]at X
  exact bG (jl [0,1,2,3,4,5]);exact bH (jl [0,1,2,3,4,5])
  ·refine rZ mixed aD hG (by decide) (by decide) kr kr λst lc hC W=>?_;simp only[go_sem,Nat.reduceBEq,alx]at hC;subst hC;obtain⟨t,h⟩:=st;dsimp only[LC]at W;obtain⟨e1_0,e1_1,e1_2,e1_3,e1_4,e1_5,rfl,hb1,V⟩:=W;refine⟨245,[.ep (cellsOf .bh a0) 0],Int×Int,_,_,(cH a0),EK,(bB a0),(iq a0),_,(a1,(cq (aj (bR a0 a1) a1.length 0 ([])))),_,_,_,[(2,.ptr 0 0),(4,.ptr 1 0),(5,.ptr 2 0),(6,.ptr 3 0),(7,.ptr 5 0)],(λE=>[.cells (cellsOf .bh a0),.cells [.os 7],.cells [.v (.bool false)],.cells [.v (.int .i64 (c9 a0 a1))],.mp .aoQ .int E.2 none,.cells [.os 4],.dead,.row .order E.1]),(λO=>[.cells (cellsOf .bh a0),.cells [.v (.slice none 0 0)],.cells [.v (.bool false)],.cells [.v (.int .i64 0)],.mp .aoQ .int O none,.cells [.os 4],.dead,.dead]),[0,1,2,3,4,5,6,6],?_,rfl,V,nbl rfl,?_,Sy a0 hb1,λz_1 E hq1=>⟨rfl,L0,λl=>?_,λl=>?_,?_⟩,λE=>?_,λy=>?_⟩;exact aii
   ·simp only[go_sem,sD,jT,alO,amD,alC,alT,amG,e1_0,e1_1,e1_2,e1_3,e1_4,e1_5];all_goals (first|done|decide|(repeat' (first|refine And.intro ?_ ?_|rfl|decide)))
   simp only[ak,and_self,true_and,and_true];simp only[ak,and_self,true_and,and_true];unfold iq at hq1;exact aij (jl [0,1,2,3,4,5,6,7]) (jl [0,1,2,3,4,5,6,10]);exact abi (jl [0,1,2,3,4,5,6,7]) (jl [0,1,2,3,4,5,6,10]);exact abi (jl [0,1,2,3,4,5,6,7]) (jl [0,1,2,3,4,5,6,10])
 unfold ae Tryz.f109;try unfold aQ
 exact aik
def Na (d:ah)(reach hour:Int)(x:Order):Bool:=(x.hour==hour)&&((x.X2&&(d.u0.getD x.index.toNat default).reach==reach) ||(!x.X2&&(d.reaches.getD x.index.toNat default).up==reach))
abbrev rch (d:ah)(r:Int):Reach:=d.reaches.getD r.toNat default
def drw (d:ah)(l:List Order)(r h:Int):Int:=gj (Na d r h) l
theorem Nb {ρ σ τ:Type}{step:τ->σ->ρ⊕σ}(J:List τ->σ->Prop)(E:∀ x L s,J (x::L) s->∀ s',step x s=.inr s'->J L s'):∀ (L:List τ) (s:σ),J L s->(∀ s',dC step L s=.inr s'->J [] s')/\∀ y,dC step L s=.inl y->∃ x O s',J (x::O) s'/\step x s'=.inl y
 | [],s,h=>⟨λs' e=>by grind [dC],λy e=>by simp[dC]at e⟩
 |x::L,s,h=>by
  cases U:step x s with
  |inl y=>
   grind [dC]
  |inr s1=>
   obtain⟨h1,h2⟩:=Nb J E L s1 (E x L s h s1 U);grind [dC]
def Rd {ρ σ τ:Type}{step:τ->σ->ρ⊕σ}{p:τ->σ->Prop}(J:List τ->σ->Prop)(E:∀ x L s,J (x::L) s->p x s/\∀ s',step x s=.inr s'->J L s'):∀ (L:List τ) (s:σ),J L s->okL step p L s
 | [],_,_=>trivial
 |x::L,s,h=>⟨(E x L s h).1,λs' e=>Rd J E L s' ((E x L s h).2 s' e)⟩
def PR (r h:Nat)(a b:Int):Prop:=(r:Int) <a\/a=r/\b< (h:Int)
abbrev Mp:=List ((Int×Int)×Int)
structure PG (d:ah)(l:List Order)(x:Order):Prop where
 out:x.X2=false
 i0:0<=x.index
 i1:x.index< (d.reaches.length:Int)
 h0:0<=x.hour
 h1:x.hour+(rch d x.index).delay<d.hours
 w:1<=drw d l x.index (x.hour+(rch d x.index).delay)
 v:a8 (rch d x.index) (drw d l x.index (x.hour+(rch d x.index).delay))=(x.dd,true)
structure PI (d:ah)(out gs:List Order)(m:Mp)(r h:Nat):Prop where
 aqE:∀ a b,ax .aoQ .int m (a,b)=drw d (out++gs) a b
 gate:∀ x∈gs,PG d (out++gs) x/\PR r h x.index (x.hour+(rch d x.index).delay)
 all:∀ a b,0<=a->a< (d.reaches.length:Int)->0<=b->b<d.hours->PR r h a b->drw d (out++gs) a b≠0->∃ x∈gs,x.index=a/\x.hour+(rch d a).delay=b
 uniq:gs.Pairwise λx y=>¬ (x.index=y.index/\x.hour=y.hour)
 len:gs.length<=(d.reaches.length - 1 - r)*d.hours.toNat+h
def Re (d:ah)(a b:List Order)(r h:Int):drw d (a++b) r h=drw d a r h+drw d b r h:=Ga _ _ _
theorem Rf (d:ah)(x:Order)(r h:Int):drw d [x] r h=bif Na d r h x then x.dd else 0:=by unfold drw;simp[gj]
variable {d:ah}{l:List Order}
theorem Nc(E:apd d){x:Order}(h:PG d l x):1<=x.dd/\x.dd<=1073741824/\(rch d x.index).aoU<=x.dd/\drw d l x.index (x.hour+(rch d x.index).delay)<=wst (rch d x.index) x.dd/\∀ u,0<=u->u<=1073741824->(rch d x.index).aoU<=u->drw d l x.index (x.hour+(rch d x.index).delay)<=wst (rch d x.index) u->x.dd<=u:=by
 have O:x.index.toNat<d.reaches.length:=by have:=h.i0;have:=h.i1;omega
 rcases IM (i:=(x.index.toNat:Int)) (by omega) (E.reach _ O) h.w with⟨v,e,U,V,Y,X,W⟩ | ⟨e,_⟩;have:=h.v;grind
 rw[h.v]at e;cases e
variable {E:List Order}{m:Mp}{r h:Nat}
theorem PI.lit{out:List Order}(U:apd d)(O:apa d out)(p:PI d out E m r h):∀ x∈out++E,1<=x.dd/\x.dd<=1073741824:=λx hx=>by
 rcases al7.1 hx with hx|hx;exact O.lit x hx;have:=Nc U (p.gate x hx).1;omega
def BP(h:∀ x∈l,1<=x.dd/\x.dd<=1073741824)(a b:Int):0<=drw d l a b/\drw d l a b<=l.length*1073741824:=Gb h
variable {O:List Order}
theorem PI.arA{out:List Order}(E:apd d)(U:apa d out)(p:PI d out O m r h)(V:h<=d.hours.toNat):(out++O).length<=266240+4096:=by
 have h1:=p.len;have h2:(d.reaches.length - 1 - r)*d.hours.toNat<=64*4096:=anZ (by have:=E.reaches;omega) (by have:=E.hours;omega);have:=U.len;have:=E.hours;grind
theorem PI.row{out:List Order}(p:PI d out O m (r+1) d.hours.toNat)(V:r+1<d.reaches.length)(X:1<=d.hours):PI d out O m r 0:=by
 refine⟨p.aqE,λx E=>⟨(p.gate x E).1,?_⟩,λa b a0 a1 U W Y=>p.all a b a0 a1 U W ?_,p.uniq,?_⟩;have:=(p.gate x E).2;grind [PR]
 grind [PR]
 have:=p.len;rw[show d.reaches.length - 1 - r=(d.reaches.length - 1 - (r+1))+1 by omega,anV];omega
theorem PI.skip{out:List Order}(p:PI d out O m r h)(Y:drw d (out++O) r h=0):PI d out O m r (h+1):=by
 refine⟨p.aqE,λx U=>⟨(p.gate x U).1,?_⟩,λa b a0 a1 V W hp E=>?_,p.uniq,?_⟩;have:=(p.gate x U).2;grind [PR]
 by_cases X:PR r h a b
 exact p.all a b a0 a1 V W X E;grind [PR]
 have:=p.len;omega
def ail(E:apd d)(h:r<d.reaches.length):(rch d r).up<r:=(E.aqu h).up
def BQ(E:apd d)(h:r<d.reaches.length):1<=(rch d r).delay/\(rch d r).delay<=16:=⟨(E.aqu h).aq2,(E.aqu h).delay⟩
theorem PI.add{out U:List Order}(Y:apd d)(ho:apa d out)(p:PI d out U m r h)(V:r<d.reaches.length)(hhl:h<d.hours.toNat)(h1:1<=drw d (out++U) r h){v:Int}(hv:a8 (rch d r) (drw d (out++U) r h)=(v,true))(hd:(rch d r).delay<=h)(v0:1<=v)(v1:v<=1073741824):
  PI d out (U++[{ hour:=(h:Int) - (rch d r).delay,index:=r,dd:=v,X2:=false}]) (dD .aoQ .int m ((rch d r).up,(h:Int) - (rch d r).delay) (i64.wrap (ax .aoQ .int m ((rch d r).up,(h:Int) - (rch d r).delay)+v))) r (h+1):=by
 generalize hx:({ hour:=(h:Int) - (rch d r).delay,index:=(r:Int),dd:=v,X2:=false}:Order)=x;have xo:x.X2=false:=by rw[<-hx]
 have xi:x.index=r:=by rw[<-hx]
 have xh:x.hour=(h:Int) - (rch d r).delay:=by rw[<-hx]
 have xl:x.dd=v:=by rw[<-hx]
 have hup:=ail Y V;have hdl:=BQ Y V;have X:∀ a b,drw d (out++(U++[x])) a b=drw d (out++U) a b+(if a=(rch d r).up/\b=(h:Int) - (rch d r).delay then v else 0):=λa b=>by
  rw[<-amt,Re,Rf];congr 1
  unfold Na;grind
 have E:∀ a b,(r:Int)<=a->drw d (out++(U++[x])) a b=drw d (out++U) a b:=λa b ha=>by
  grind
 have hb:=BP (d:=d) (p.lit Y ho);have hlen:=p.arA Y ho (by omega);refine⟨λa b=>?_,λy hy=>?_,λa b a0 a1 b0 b1 hp W=>?_,?_,?_⟩;rw[oc (k:=.aoQ),X,p.aqE,p.aqE];have:=hb (rch d r).up ((h:Int) - (rch d r).delay);by_cases e:a=(rch d r).up/\b=(h:Int) - (rch d r).delay
 rw[if_pos e,if_pos (by rw[e.1,e.2]),e.1,e.2,az (by omega) (by omega)];grind
 rcases al7.1 hy with hy|hy;obtain⟨g,gp⟩:=p.gate y hy;have O:(r:Int)<=y.index:=by grind [PR]
 refine⟨⟨g.out,g.i0,g.i1,g.h0,g.h1,by rw[E _ _ O];exact g.w,by rw[E _ _ O];exact g.v⟩,?_⟩;grind [PR]
 rw[ami]at hy;subst hy;have eh:y.hour+(rch d y.index).delay=h:=by grind
 refine⟨⟨xo,by omega,by omega,by omega,by omega,?_,?_⟩,?_⟩;grind
 grind
 grind [PR]
 have O:(r:Int)<=a:=by grind [PR]
 rw[E _ _ O]at W;by_cases hq:PR r h a b
 obtain⟨y,hy,e⟩:=p.all a b a0 a1 b0 b1 hq W;grind
 grind [PR]
 rw[alX];refine⟨p.uniq,ama _ _,λy hy z hz=>?_⟩;rw[ami]at hz;subst hz;rintro⟨e1,e2⟩;have:=(p.gate y hy).2;grind [PR]
 have:=p.len;grind
theorem BR{out:List Order}(hr:apd d)(Y:apa d out):
  (∀ m,aj (bR d out) out.length 0 []=.inr m->(∀ x∈out,x.X2=true)/\∀ a b,ax .aoQ .int m (a,b)=drw d out a b)/\okI (bR d out) (jz d out) out.length 0 []/\((∀ x∈out,x.X2=true)->∃ m,aj (bR d out) out.length 0 []=.inr m):=by
 let J:Nat->Mp->Prop:=λk m=>k<=out.length->(∀ x∈out.take k,x.X2=true)/\∀ a b,ax .aoQ .int m (a,b)=drw d (out.take k) a b
 have V:J 0 []:=λ_=>⟨by simp,λa b=>by rfl⟩;have hstep:∀ j s,0<=j->j<0+out.length->J j s->jz d out j s/\∀ s',bR d out j s=.inr s'->J (j+1) s':=λj s _ X hJ=>by
  have X:j<out.length:=by omega
  obtain⟨h1,h2⟩:=hJ (by omega);have O:=Y.one j X;refine⟨λhe=>?_,λs' W _=>?_⟩;have:(out.getD j default).X2=true:=by grind
  have:=O.ee this;have:=O.aqx;omega;unfold bR at W;cases E:(out.getD j default).X2 with
  |false=>grind
  |true=>
   rw[E]at W;simp only[alN,cond_false,amd]at W;have hel:=mC out default X;rw[amJ X];refine⟨λx O=>?_,λa b=>?_⟩;grind
   subst W;rw[Re,Rf,oc (k:=.aoQ),h2,h2,<-hel];have hb:=BP (d:=d) (l:=out.take j) (λx O=>Y.lit x (am0 O)) (d.u0.getD (out.getD j default).index.toNat default).reach (out.getD j default).hour;have hl:(out.take j).length<=4096:=by have:=Y.len;grind
   have hl1:=O.aqh;have hl2:=O.dd;rw[az (by omega) (by omega)];unfold Na;grind
 refine⟨λm hm=>?_,kh J _ _ _ V hstep,λU=>?_⟩;have:=wL J _ _ _ V (λj s h1 h2 h3=>(hstep j s h1 h2 h3).2) m hm (by omega);grind
 cases hrun:aj (bR d out) out.length 0 []with
 |inr m=>grind
 |inl y=>
  exfalso;have key:∀ n i s,i+n<=out.length->∀ y,aj (bR d out) n i s≠ .inl y:=by
   intro n;induction n with
   |zero=>grind [aj]
   |succ n ih=>
    intro i s hi y h;simp only[aj]at h;have E:(out.getD i default).X2=true:=U _ (BO _ _ (by omega));unfold bR at h;rw[E]at h;simp only[alN,cond_false]at h;exact ih (i+1) _ (by omega) y h
  grind
def PJ (d:ah)(out:List Order)(L:List (Int×Int))(s:List Order×Mp):Prop:= ∃ gs r h,r<d.reaches.length/\h<=d.hours.toNat/\s.1=out++gs/\L=GQ r d.hours.toNat h++zX d.hours.toNat r/\PI d out gs s.2 r h
theorem KE{out:List Order}(X:apd d){x:Int×Int}{L:List (Int×Int)}{s:List Order×Mp}(h:PJ d out (x::L) s):∃ (O:List Order) (r h:Nat),r<d.reaches.length/\h<d.hours.toNat/\s.1=out++O/\x=((r:Int),(h:Int))/\L=GQ r d.hours.toNat (h+1)++zX d.hours.toNat r/\PI d out O s.2 r h:=by
 obtain⟨O,r,h,h1,h2,V,E,U⟩:=h;have W:=X.aqt;by_cases Y:h<d.hours.toNat
 grind [uA]
 have:h=d.hours.toNat:=by omega
 subst this;rw[EL,alC]at E;cases r with
 |zero=>simp[zX]at E
 |succ r=>
  rw[zZ,uA (by omega),alU]at E;cases E;exact⟨O,r,0,by omega,by omega,V,rfl,rfl,U.row h1 W⟩
theorem IN{out:List Order}(U:apd d)(X:apa d out)(O:r<d.reaches.length)(W:h<d.hours.toNat){s:List Order×Mp}(hs:s.1=out++E)(p:PI d out E s.2 r h):
  (drw d (out++E) r h=0/\bB d ((r:Int),(h:Int)) s=.inr s)\/
  (1<=drw d (out++E) r h/\((a8 (rch d r) (drw d (out++E) r h)).2=false\/(h:Int) < (rch d r).delay)/\bB d ((r:Int),(h:Int)) s=.inl s.2)\/
  ∃ v,1<=drw d (out++E) r h/\a8 (rch d r) (drw d (out++E) r h)=(v,true)/\(rch d r).delay<=h/\1<=v/\v<=1073741824/\
   bB d ((r:Int),(h:Int)) s=.inr (out++(E++[{ hour:=(h:Int) - (rch d r).delay,index:=r,dd:=v,X2:=false}]),dD .aoQ .int s.2 ((rch d r).up,(h:Int) - (rch d r).delay) (i64.wrap (ax .aoQ .int s.2 ((rch d r).up,(h:Int) - (rch d r).delay)+v))):=by
 have hb:=(BP (d:=d) (p.lit U X) r h).1;have hm:=p.aqE r h;have hdl:=BQ U O;have hH:=U.hours;by_cases h0:drw d (out++E) r h=0
 grind [bB]
 have h1:1<=drw d (out++E) r h:=by omega
 have V:(ax .aoQ .int s.2 ((r:Int),(h:Int)) ==0)=false:=by grind
 have hw:i64.wrap ((h:Int) - (rch d r).delay)=(h:Int) - (rch d r).delay:=az (by omega) (by omega);by_cases hd:(h:Int) < (rch d r).delay
 refine .inr (.inl ⟨h1,.inr hd,?_⟩);unfold bB;grind
 rcases IM (i:=(r:Int)) (by omega) (U.reach r O) h1 with⟨v,e,Y,e2,e3,e4,e5⟩ | ⟨e,_⟩;refine .inr (.inr ⟨v,h1,e,by omega,Y,e2,?_⟩);have e':a8 (d.reaches.getD r default) (ax .aoQ .int s.2 ((r:Int),(h:Int)))=(v,true):=by grind
 unfold bB;grind
 refine .inr (.inl ⟨h1,.inl e,?_⟩);have e':(a8 (d.reaches.getD r default) (ax .aoQ .int s.2 ((r:Int),(h:Int)))).2=false:=by grind
 unfold bB;grind
theorem Rg{out:List Order}(W:apd d)(ho:apa d out)(x:Int×Int)(L:List (Int×Int))(s:List Order×Mp)(X:PJ d out (x::L) s):∀ s',bB d x s=.inr s'->PJ d out L s':=by
 obtain⟨gs,r,h,h1,h2,h3,rfl,Y,V⟩:=KE W X;intro s' O;rcases IN W ho h1 h2 h3 V with⟨U,E⟩ | ⟨U,E,q2⟩ | ⟨v,U,E,q2,q3,q4,q5⟩;rw[E]at O;cases O;exact⟨gs,r,h+1,h1,h2,h3,Y,V.skip U⟩;grind
 rw[q5]at O;cases O;exact⟨_,r,h+1,h1,h2,rfl,Y,V.add W ho h1 h2 U E q2 q3 q4⟩
theorem Nd{out:List Order}(E:apd d)(O:∀ a b,ax .aoQ .int m (a,b)=drw d out a b):PJ d out (cH d) (out,m):=by
 have h1:=E.one;refine⟨[],d.reaches.length - 1,0,by omega,al4 _,by simp,?_,⟨by grind,by simp,λa b a0 a1 V W U=>?_,List.Pairwise.nil,by simp⟩⟩;unfold cH;rw[<-zZ,show d.reaches.length - 1+1=d.reaches.length by omega];grind [PR]
structure aqR (d:ah)(out gs:List Order):Prop where
 gate:∀ x∈gs,PG d (out++gs) x
 all:∀ a b,0<=a->a< (d.reaches.length:Int)->0<=b->b<d.hours->drw d (out++gs) a b≠0->∃ x∈gs,x.index=a/\x.hour+(rch d a).delay=b
 uniq:gs.Pairwise λx y=>¬ (x.index=y.index/\x.hour=y.hour)
 len:gs.length<=d.reaches.length*d.hours.toNat
theorem adI{out:List Order}(hr:apd d){s:List Order×Mp}(h:PJ d out [] s):∃ O,s.1=out++O/\aqR d out O:=by
 obtain⟨O,r,h,h1,h2,V,h4,E⟩:=h;have hH:=hr.aqt;have W:h=d.hours.toNat:=by
  grind [uA]
 subst W;rw[EL,alC]at h4;have X:r=0:=by
  cases r with
  |zero=>rfl|succ r=>grind [zZ,uA]
 subst X;refine⟨O,V,⟨λx Y=>(E.gate x Y).1,λa b a0 a1 b0 b1 U=>E.all a b a0 a1 b0 b1 ?_ U,E.uniq,?_⟩⟩;unfold PR;omega;have:=E.len;have e:d.reaches.length=(d.reaches.length - 1 - 0)+1:=by omega
 grind [Nat.succ_mul]
structure PX (d:ah)(out gs:List Order)(r h:Nat):Prop where
 part:∃ m,PI d out gs m r h
 r1:r<d.reaches.length
 h1:h<d.hours.toNat
 w:1<=drw d (out++gs) r h
 no:(a8 (rch d r) (drw d (out++gs) r h)).2=false\/(h:Int) < (rch d r).delay
theorem Gf{out:List Order}(E:apd d)(W:apa d out)(hm:∀ a b,ax .aoQ .int m (a,b)=drw d out a b):
  ((∃ s,dC (bB d) (cH d) (out,m)=.inr s/\∃ U,s.1=out++U/\aqR d out U)\/∃ y,dC (bB d) (cH d) (out,m)=.inl y/\∃ U r h,PX d out U r h)/\
  okL (bB d) (iq d) (cH d) (out,m):=by
 obtain⟨h1,h2⟩:=Nb (PJ d out) (λx L s h=>Rg E W x L s h) (cH d) (out,m) (Nd E hm);refine⟨?_,Rd (PJ d out) (λx L s h=>⟨?_,Rg E W x L s h⟩) _ _ (Nd E hm)⟩;cases O:dC (bB d) (cH d) (out,m)with
 |inr s=>exact .inl ⟨s,rfl,adI E (h1 s O)⟩
 |inl y=>
  refine .inr ⟨y,rfl,?_⟩;obtain⟨x,L,s,g1,g2⟩:=h2 y O;obtain⟨U,r,h,Y,X,q3,rfl,q5,V⟩:=KE E g1;rcases IN E W Y X q3 V with⟨_,e⟩ | ⟨e0,e1,_⟩ | ⟨v,_,_,_,_,_,e⟩;grind
  exact⟨U,r,h,⟨_,V⟩,Y,X,e0,e1⟩;grind
 obtain⟨U,r,h,Y,X,q3,rfl,q5,V⟩:=KE E h;unfold iq;simp only;refine λ_=>⟨⟨by omega,by omega⟩,WF _ _,λ_=>?_⟩;have:=V.arA E W (by omega);grind [d9]
end Go.Sx
end
section
namespace Go.Sx
open Go.Lib Go.Proofs Go.Shelf Go.Sort
open IntKind (i64)
def K (x y:Order):Prop:=x.hour=y.hour/\x.index=y.index/\x.X2=y.X2
variable {x y:Order}
theorem K.symm(h:K x y):K y x:=⟨h.1.symm,h.2.1.symm,h.2.2.symm⟩
theorem WJ(h:Ax x=Ax y):x.X2=y.X2:=by
 grind [Ax]
theorem Dy(h1:¬olt x y)(h2:¬olt y x):K x y:=by
 have e:x.hour=y.hour/\x.index=y.index/\Ax x=Ax y:=by grind [olt]
 exact⟨e.1,e.2.1,WJ e.2.2⟩
theorem adJ(h:olt x y):¬K x y:=λ⟨h1,h2,E⟩ =>by
 grind [Ax,olt]
variable {l:List Order}
theorem Rh(h:l.Pairwise λx y=>¬K x y)(U:x∈l)(hy:y∈l)(O:K x y):x=y:=by
 obtain⟨i,hi,rfl⟩:=al8 U;obtain⟨j,E,rfl⟩:=al8 hy;rw[al3]at h;rcases an4 i j with q|q|q;grind
 subst q;rfl;exact absurd O.symm (h j i E hi q)
theorem WK(h:l.Pairwise λx y=>¬K x y):apart aN l:=λx E y hy h1 h2=>by
 refine Rh h E hy (Dy (λq=>?_) λq=>?_);unfold ltOf at h1;rw[decide_eq_false_iff_not]at h1;exact h1 ((M6 _ _).2 q);unfold ltOf at h2;rw[decide_eq_false_iff_not]at h2;exact h2 ((M6 _ _).2 q)
def Gg (l:List Order):(srt aN l).Perm l:=amr _ _
def qw{m:List Order}(h:l.Perm m)(E:m.Pairwise λx y=>¬K x y):l.Pairwise λx y=>¬K x y:=
 (h.pairwise_iff (λ{x y} (h:¬K x y) (k:K y x) =>h k.symm)).2 E
theorem adK(h:l.Pairwise λx y=>¬K x y):(srt aN l).Pairwise olt:=by
 have h1:(srt aN l).Pairwise λx y=>(!(ltOf aN y x))=true:=by
  refine amm (λa b c h1 h2=>?_) (λa b=>?_) l;simp only[alL]at h1 h2 |-;exact vF.ntrans _ _ _ h2 h1;cases q:ltOf aN b a with
  |false=>rfl
  |true=>
   cases E:ltOf aN a b with
   |false=>rfl|true=>have:=vF.trans _ _ _ q E;rw[vF.irrefl]at this;cases this
 have h2:=qw (Gg l) h;refine(h1.and h2).imp λ{x y} ⟨V,E⟩ =>?_;have O:¬olt y x:=λq=>by
  have:ltOf aN y x=true:=by unfold ltOf;rw[decide_eq_true_eq];exact(M6 _ _).2 q
  grind
 exact al2 λU=>E (Dy U O)
structure apW (d:ah)(l:List Order):Prop where
 chk:ap d=0
 len:l.length<=4096
 one:∀ x∈l,aqw d x
 asc:l.Pairwise olt
variable {d:ah}
theorem apW.right(h:apW d l):apd d:=jw (by rw[h.chk];rfl)
theorem Z_(h:d8 d l=0):apW d l:=by
 have E:=F_ (d:=d) (l:=l) (by rw[h];rfl);refine⟨((yF d l).1 h).1,E.len,λx V=>?_,al3.2 λi j hi U O=>?_⟩;obtain⟨i,hi,rfl⟩:=al8 V;have:=E.one i hi;grind
 have:=E.lt j i O U;grind
theorem apW.aqj(h:apW d l):apa d l:=by
 refine⟨h.right,h.len,λk E=>?_,λk E=>?_⟩;rw[mC _ _ E];exact h.one _ (amM _);rw[mC _ _ E,mC _ _ (by omega:k<l.length)];exact(M6 _ _).2 (al3.1 h.asc _ _ _ _ (by omega))
theorem apW.keys(h:apW d l):l.Pairwise λx y=>¬K x y:=h.asc.imp λ{_ _} q=>adJ q
theorem WL(h:apW d l):d8 d l=0:=by
 refine(yF d l).2 ⟨h.chk,h.len,λk V=>?_⟩;have E:=h.one _ (BO l default V);have O:(decide ((k:Int) > 0)&&decide (aN (l.getD (i64.wrap ((k:Int) - 1)).toNat default) (l.getD k default)>=0))=false:=by
  rw[amv,decide_eq_false_iff_not,decide_eq_false_iff_not];by_cases hk0:0<k
  right;have W:=h.len;rw[oa (by omega) hk0,alv];have:=h.aqj.asc (k - 1) (by omega);grind
  omega
 unfold fm;rw[O];generalize l.getD k default=x at E;cases U:x.X2 with
 |true=>
  have:=E.ee U;simp only[cond_true];have e:(decide (x.hour<0) ||decide (x.hour>=d.hours) ||decide (x.index<0) ||decide (x.index>=(d.u0.length:Int)) ||decide (x.dd<1) ||decide (x.dd > 1073741824) ||false)=false:=by
   have:=E.aq7;have:=E.hour;have:=E.aqx;have:=E.aqh;have:=E.dd;grind
  rw[e];rfl
 |false=>
  have:=E.reach U;simp only[cond_false];have e:(decide (x.hour<0) ||decide (x.hour>=d.hours) ||decide (x.index<0) ||decide (x.index>=(d.reaches.length:Int)) ||decide (x.dd<1) ||decide (x.dd > 1073741824) ||false)=false:=by
   have:=E.aq7;have:=E.hour;have:=E.aqx;have:=E.aqh;have:=E.dd;grind
  rw[e];rfl
structure Nar (d:ah)(l:List Order):Prop where
 good:apW d l
 wide:(d.reaches.length:Int)*d.hours<=1024
theorem IP(E:apd d):0<=(d.reaches.length:Int)*d.hours/\(d.reaches.length:Int)*d.hours<=262144:=by
 have:=E.reaches;have:=E.hours;have:=E.aqt;have h1:=Int.mul_le_mul (by omega:(d.reaches.length:Int)<=64) E.hours (by omega) (by omega);have h2:=ano (by omega:0<=(d.reaches.length:Int)) (by omega:0<=d.hours);omega
theorem Gh (d:ah)(l:List Order):c9 d l=0↔Nar d l:=by
 unfold c9;by_cases h:d8 d l=0
 have E:=Z_ h;have O:=IP E.right;rw[az (by omega) (by omega),h];by_cases hw:(d.reaches.length:Int)*d.hours > 1024
 rw[decide_eq_true hw];simp only[beq_self_eq_true,Bool.and_self,cond_true];exact⟨λe=>(by cases e),λe=>(by have:=e.wide;omega)⟩;rw[decide_eq_false hw];simp only[Bool.and_false,cond_false];exact⟨λ_=>⟨E,by omega⟩,λ_=>trivial⟩;have:(d8 d l==0)=false:=by grind
 rw[this];simp only[Bool.false_and,cond_false];exact⟨λe=>absurd e h,λe=>absurd (WL e.good) h⟩
structure PL (d:ah)(out gs:List Order):Prop where
 good:apW d (srt aN (out++gs))
 fin:aqR d out gs
theorem Nf{out O:List Order}(U:apW d out)(E:∀ x∈out,x.X2=true)(h:aqR d out O):(out++O).Pairwise λx y=>¬K x y:=by
 rw[alX];refine⟨U.keys,h.uniq.imp λ{x y} q k=>q ⟨k.2.1,k.1⟩,λx V y hy k=>?_⟩;have:=k.2.2;rw[E x V,(h.gate y hy).out]at this;cases this
theorem aaa{out U:List Order}(E:apW d out)(h:aqR d out U):∀ x∈out++U,aqw d x:=λx hx=>by
 rcases al7.1 hx with hx|hx;exact E.one x hx;have g:=h.gate x hx;have O:=Nc E.right g;have hd:=BQ E.right (r:=x.index.toNat) (by have:=g.i0;have:=g.i1;omega);rw[show((x.index.toNat:Nat):Int)=x.index from am5 g.i0]at hd;have:=g.h1;exact⟨g.h0,by omega,g.i0,λe=>(by rw[g.out]at e;cases e),λ_=>g.i1,O.1,O.2.1⟩
theorem Pc (d:ah)(out:List Order):
  (c9 d out≠0/\aQ d out=([],false,c9 d out))\/
  (Nar d out/\¬ (∀ x∈out,x.X2=true)/\aQ d out=([],false,220))\/
  (Nar d out/\(∀ x∈out,x.X2=true)/\(∃ O r h,PX d out O r h)/\aQ d out=([],false,0))\/
  (Nar d out/\(∀ x∈out,x.X2=true)/\∃ O,aqR d out O/\4096< (out++O).length/\aQ d out=([],false,2))\/
  (Nar d out/\(∀ x∈out,x.X2=true)/\∃ O,PL d out O/\aQ d out=(srt aN (out++O),true,0)):=by
 unfold aQ;by_cases hn:c9 d out=0
 have U:=(Gh d out).1 hn;have hr:=U.good.right;have X:=U.good.aqj;rw[hn];simp only[bne_self_eq_false,cond_false];obtain⟨f1,_,f3⟩:=BR hr X;by_cases E:∀ x∈out,x.X2=true
 obtain⟨m,Y⟩:=f3 E;rw[Y];simp only;obtain⟨h1,_⟩:=Gf hr X (f1 m Y).2;rcases h1 with⟨s,hs,O,e1,V⟩ | ⟨y,hy,W⟩;rw[hs];simp only[e1];by_cases hl:(out++O).length<=4096
 rw[decide_eq_false (by omega)];refine .inr (.inr (.inr (.inr ⟨U,E,O,⟨⟨U.good.chk,?_,λx W=>aaa U.good V x ((Gg _).mem_iff.1 W),adK (Nf U.good E V)⟩,V⟩,rfl⟩)));rw[(Gg _).length_eq];exact hl;grind
 grind
 grind
 grind
def WN (d:ah)(l:List Order):mH d l:=O_ d l
theorem adL (d:ah)(out:List Order):o8 d out:=by
 refine⟨WN _ _,λhn=>?_⟩;have O:=(Gh d out).1 (by grind);have V:=O.good.right;have E:=O.good.aqj;obtain⟨W,f2,f3⟩:=BR V E;refine λ_=>⟨f2,λm X=>⟨?_,?_,?_⟩⟩;have:=E.len;unfold d9;omega;have:=V.hours;omega;obtain⟨h1,h2⟩:=Gf V E (W m X).2;refine⟨h2,λs Y _ _=>?_⟩;rcases h1 with⟨s',U,gs,e1,e2⟩ | ⟨y,hy,_⟩;rw[U]at Y;cases Y;rw[e1];exact WK (Nf O.good (W m X).1 e2);grind
end Go.Sx
end
section
namespace Go.Sx
open Go.Proofs
variable {κ υ:Type}[DecidableEq κ]in
theorem Ng:∀ (l:List (κ×υ)) (x:κ) (y:υ) (e:κ×υ),e∈tg l x y->e=(x,y)\/e∈l
 | [],x,y,e,h=>by grind [tg]
 |(a,b)::r,x,y,e,h=>by
  unfold tg at h;by_cases q:x=a
  grind
  rw[if_neg q]at h;rcases alD.1 h with h|h;grind
  rcases Ng r x y e h with h|h <;>grind
variable {κ υ:Type}[DecidableEq κ]in
theorem IQ:∀ (l:List (κ×υ)) (x:κ) (y:υ),iC l x=some y->(x,y)∈l
 |(a,b)::r,x,y,h=>by
  unfold iC at h;by_cases q:x=a
  grind
  rw[if_neg q]at h;exact alP _ (IQ r x y h)
variable {κ υ:Type}[DecidableEq κ]in
theorem Pd {l:List (κ×υ)}(h:(l.map Prod.fst).Nodup)(x:κ)(y:υ):((tg l x y).map Prod.fst).Nodup:=by
 grind [zf]
structure SM (k:Tag)(f:k.T->Int)(m:List (k.T×Int)):Prop where
 get:∀ p,ax k .int m p=f p
 nd:(m.map Prod.fst).Nodup
 pos:∀ e∈m,1<=e.2
variable {k:Tag}
theorem SM.nil:SM k (λ_=>0) []:=⟨λ_=>rfl,amW,λ_ h=>by cases h⟩
variable {f:k.T->Int}{m:List (k.T×Int)}
theorem SM.put(h:SM k f m)(x:k.T){v:Int}(E:1<=v){g:k.T->Int}(O:∀ p,g p=if p=x then v else f p):SM k g (dD k .int m x v):=by
 refine⟨λp=>?_,Pd h.nd x v,λe he=>?_⟩;rw[oc,h.get,O];rcases Ng (υ:=Int) m x v e he with rfl|he;exact E;exact h.pos e he
theorem SM.entry(h:SM k f m){e:k.T×Int}(E:e∈m):e.2=f e.1/\1<=f e.1:=by
 have h1:=M7 m e h.nd E;have h2:=h.get e.1;unfold ax at h2;rw[h1]at h2;have O:e.2=f e.1:=h2;exact⟨O,O▸h.pos e E⟩
theorem SM.mem(h:SM k f m){p:k.T}(U:f p≠0):(p,f p)∈m:=by
 have h2:=h.get p;unfold ax at h2;cases E:iC m p with
 |none=>rw[E]at h2;exact absurd h2.symm U
 |some v=>
  rw[E]at h2;have O:v=f p:=h2;exact O▸IQ m p v E
def gP (r h:Int)(x:Order):Bool:= !x.X2&&x.index==r&&x.hour==h
def arW (l:List Order)(r h:Int):Int:=gj (gP r h) l
def Kept (d:ah)(l:List Order):Prop:= ∀ r h:Int,0<=r->1<=drw d l r h->∃ w,iG (rch d r) (arW l r (h - (rch d r).delay))=(w,0)/\drw d l r h<=w
structure asE (d:ah)(l:List Order):Prop where
 good:apW d l
 sip:∀ x∈l,x.X2=false->(rch d x.index).aoU<=x.dd
 kept:Kept d l
theorem KF {ρ σ:Type}{step:Nat->σ->ρ⊕σ}(J:Nat->σ->Prop):∀ (n i:Nat) (s:σ),J i s->(∀ j s,i<=j->j<i+n->J j s->∃ s',step j s=.inr s'/\J (j+1) s')->∃ s',aj step n i s=.inr s'/\J (i+n) s'
 |0,i,s,h,_=>⟨s,rfl,h⟩
 |n+1,i,s,h,hs=>by
  obtain⟨s1,E,h1⟩:=hs i s (alw _) (by omega) h;obtain⟨U,O,h2⟩:=KF J n (i+1) s1 h1 λj s a b=>hs j s (by omega) (by omega);grind [aj]
end Go.Sx
end
section
namespace Go.Sx
open Go.Proofs
open IntKind (i64)
theorem S7 (d:ah)(c:List Claim):oQ d c:=λ_ h1 _ _=>ic _ _ _ λj s h2 E=>by
 unfold aK at h1;unfold lj;refine⟨λh=>?_,λh=>?_,λ_ h=>?_⟩;grind
 grind
 simp only[decide_eq_true_eq]at h;grind [oa]
theorem KG (d:ah)(c:List Claim):dP d c=0↔ap d=0/\c.length<=4096/\∀ k,k<c.length->jg d c k ()=.inr ():=by
 unfold dP;cases h1:(ap d !=0)with
 |true=>grind
 |false=>
  simp at h1;simp only[cond_false,h1,true_and];grind [g5]
def KH (a b:Claim):Prop:=a.hour<b.hour\/a.hour=b.hour/\(a.aoX<b.aoX\/a.aoX=b.aoX/\(a.right<b.right\/a.right=b.right/\a.ee<b.ee))
theorem Pe {a b c:Claim}(h1:KH a b)(h2:KH b c):KH a c:=by
 grind [KH]
theorem adM (a b c d:Int):gc [a,b,c,d]=if a≠0 then a else if b≠0 then b else if c≠0 then c else d:=by
 unfold gc;simp only[aly,alJ,alF,Nat.reduceAdd,aj,rj,anU,List.getD_cons_succ];grind
theorem S8 (a b:Claim):cS a b<0↔KH a b:=by
 grind [cS,KH,adM,jv]
def okC (d:ah)(a:Claim):Bool:=letI q0:=d.al.getD a.right.toNat default;(((((((((decide (a.right>=0))&&(decide (a.right< (d.al.length:Int))))&&(decide (a.ee>=0)))&&(decide (a.ee< (d.u0.length:Int))))&&(decide (a.hour>=0)))&&(decide (a.hour<d.hours)))&&(decide (a.dd>=1)))&&(decide (a.dd<=1073741824))))&&(q0.kind==1)&&(q0.aoX==a.aoX)
variable {d:ah}
theorem CC{c:List Claim}{k:Nat}(V:k<4096):jg d c k ()=.inr ()↔okC d (c.getD k default)=true/\(0<k->KH (c.getD (k - 1) default) (c.getD k default)):=by
 have hw:k > 0->(i64.wrap ((k:Int) - 1)).toNat=k - 1:=λh=>by grind [oa]
 have O:∀ X:Bool,((bif X then Sum.inl ()else Sum.inr ()):Unit⊕Unit)=.inr ()↔X=false:=λX=>by grind
 unfold jg okC;rw[O];generalize U:((((((((decide ((c.getD k default).right>=0))&&(decide ((c.getD k default).right< (d.al.length:Int))))&&(decide ((c.getD k default).ee>=0)))&&(decide ((c.getD k default).ee< (d.u0.length:Int))))&&(decide ((c.getD k default).hour>=0)))&&(decide ((c.getD k default).hour<d.hours)))&&(decide ((c.getD k default).dd>=1)))&&(decide ((c.getD k default).dd<=1073741824)))=q;clear U;by_cases E:0<k
 rw[hw E,<-S8];grind
 simp_all
theorem qc (d:ah)(c:List Claim):dP d c=0↔ap d=0/\c.length<=4096/\(∀ a∈c,okC d a=true)/\c.Pairwise KH:=by
 rw[KG];refine and_congr_right λ_=>and_congr_right λY=>?_;constructor
 intro h;have V:=λk E=>(CC (by omega)).1 (h k E);refine⟨λa W=>?_,?_⟩;obtain⟨k,E,rfl⟩:=al8 W;grind
 have key:∀ (k j:Nat),j<k->k<c.length->KH (c.getD j default) (c.getD k default):=by
  intro k;induction k with
  |zero=>omega
  |succ k U=>
   intro j h1 h2;have O:=(V (k+1) h2).2 (by omega);rw[anY]at O;by_cases e:j=k
   grind
   exact Pe (U j (by omega) (by omega)) O
 grind [List.pairwise_iff_getElem]
 rintro⟨h1,h2⟩ k E;refine(CC (by omega)).2 ⟨?_,λX=>?_⟩;grind
 rw[mC _ _ E,mC _ _ (by omega:k - 1<c.length)];exact al3.1 h2 _ _ _ _ (by omega)
def BS (a:Claim):ao6:= { hour:=a.hour,index:=a.ee,X2:=true}
def jN (p:ao6):List Claim->Int
 | [] =>0|a::r=>(if p=BS a then a.dd else 0)+jN p r
theorem Nh (p:ao6)(a b:List Claim):jN p (a++b)=jN p a+jN p b:=by
 induction a with
 |nil=>simp[jN]|cons x r E=>grind [jN]
theorem HG (p:ao6)(c:List Claim)(h:∀ a∈c,1<=a.dd/\a.dd<=1073741824):0<=jN p c/\jN p c<=c.length*1073741824:=by
 induction c with
 |nil=>simp[jN]
 |cons x r E=>
  have h1:=E λa O=>h a (alP _ O);grind [jN]
theorem Pf{a:Claim}(h:okC d a=true):1<=a.dd/\a.dd<=1073741824:=by
 simp_all [okC]
def g8 (reach a b:Int)(x:Order):Bool:=(!x.X2&&x.index==reach)&&decide (x.hour>=a)&&decide (x.hour<=b)
def asj (ee hour:Int)(x:Order):Bool:=(x.X2&&x.index==ee)&&x.hour==hour
def cell (g:List (List Int))(i j:Nat):Int:=(g.getD i []).getD j 0
variable {l:List Order}
theorem S9(E:apa d l){j:Nat}(W:j<l.length){p:Order->Bool}(V:∀ x,p x=true->x.hour=l[j].hour/\x.index=l[j].index/\x.X2=l[j].X2):gj p (l.take j)=0:=
 xL λx X=>by
  obtain⟨i,hi,rfl⟩:=al8 X;rw[amq]at hi;rw[List.getElem_take];cases h:p l[i]with
  |false=>rfl
  |true=>
   obtain⟨O,U,Y⟩:=V _ h;have:=E.uniq (by omega) W O U Y;omega
theorem Ri(E:apa d l)(p:Order->Bool)(j:Nat):0<=gj p (l.take j)/\gj p (l.take j)<=4398046511104:=by
 have V:=Gb (p:=p) λa O=>E.lit a (am0 (i:=j) O);have U:=E.len;grind
theorem WO(E:apa d l)(p:Order->Bool):0<=gj p l/\gj p l<=4398046511104:=by
 have:=Ri E p l.length;grind
structure asR (d:ah)(c:List Claim)(l:List Order):Prop where
 ho:apa d l
 asN:c.length<=4096
 okc:∀ a∈c,okC d a=true
 cap:∀ r h:Nat,r<d.reaches.length->gj (g8 r h h) l<=(d.reaches.getD r default).cap
 aph:∀ r h:Nat,r<d.reaches.length->h<d.hours.toNat->gj (g8 r ((h:Int) - (d.reaches.getD r default).delay+1) h) l<=(d.reaches.getD r default).aph
 Y2:∀ h:Nat,h<d.hours.toNat->gj (g8 (0:Nat) 0 h) l<=d.Y2.start
 asz:∀ r h:Nat,r<d.reaches.length->h<d.hours.toNat->gj (Na d r h) l<=(iG (d.reaches.getD r default) (gj (g8 r ((h:Int) - (d.reaches.getD r default).delay) ((h:Int) - (d.reaches.getD r default).delay)) l)).1
 asC:∀ h f:Nat,h<d.hours.toNat->f<d.u0.length->jN { hour:=(h:Int),index:=(f:Int),X2:=true} c<=gj (asj f h) l
theorem WP(E:apa d l)(r:Int){a m b:Int}(h1:a<=m)(h2:m<=b+1):gj (g8 r a (m - 1)) l+gj (g8 r m b) l=gj (g8 r a b) l:=Wz λx _=>by
 unfold g8;grind
@[go_sem] def di (c:List Claim)(S2:Nat)(ly:List (l5×Int)):Empty⊕(List (l5×Int)):=letI q1:=c.getD S2 default;letI q0:=({ index:=q1.ee,hour:=q1.hour}:l5);.inr (dD .bn .int ly q0 (i64.wrap ((ax .bn .int ly q0)+q1.dd)))
@[go_sem] def eb (ly:List (l5×Int))(k_1:l5×Int)(s_1:List Order):Empty⊕(List Order):=.inr (s_1++([({ hour:=k_1.1.hour,index:=k_1.1.index,dd:=k_1.2,X2:=true}:Order)]))
def gk (ly:List (l5×Int))(k_1:l5×Int)(s_1:List Order):Prop:=((s_1++([({ hour:=k_1.1.hour,index:=k_1.1.index,dd:=k_1.2,X2:=true}:Order)])).length*32<=d9)
def aS (c:List Claim):List Order:=(match aj (di c) c.length 0 ([])with| .inl x=>x.elim| .inr ly=>(match dC (eb ly) ly ([])with| .inl x=>x.elim| .inr s_1=>(srt ar s_1)))
def jO (c:List Claim):Prop:=(c.length<=aK->(∀ ly,aj (di c) c.length 0 ([])=.inr ly->(∀ L_1,L_1.Perm ly->(okL (eb ly) (gk ly) L_1 ([])/\(∀ s_1,dC (eb ly) L_1 ([])=.inr s_1->((apart ar s_1)/\((srt ar s_1)=(aS c))))))))
@[go_sem] def yd:List SV->Option Con:=(pR .C1 λc=>(pE (.det (jO c) (.nw .order (aS c)))))
theorem aim {p:Prop}(h:p:=by simp only[go_sem];all_goals exact clP):p:=h
theorem xf:B1 Tryz.prog 164 yd:=by
 have hG:=mG P0 (co CB P0);refine fE hG Tryz.f164 (bN λc=>(am (λhp=>?_)));dsimp only[an]at hp;unfold jO at hp;refine⟨nbl rfl,(λid st=>bif Nat.beq id 0 then some (LCR (ρ:=Empty) (σ:=(List (l5×Int))) 1 [] [0] (λX V=>⟨[(2,.v (.slice none 0 0)),(3,.os 0),(9,.rs .C1 c),(10,.v (.int .i64 (c.length:Int))),(11,.v (.int .i64 (X:Int)))],[.mp .bn .int V none]⟩) (di c) pT c.length ([]) (c.length<=aK) ((·.elim)) ((·.elim)) st)else bif Nat.beq id 2 then some (LCP (τ:=l5×Int) (ρ:=Empty) (σ:=(List Order)) 2 [.slot 2 (.row .order ([]))] [0,1,2] (λE O U=>⟨[(2,.os 2),(29,.ptr 1 0)],[.mp .bn .int (cq (aj (di c) c.length 0 ([]))) (some (1,none)),.mi (some 0) (cq (aj (di c) c.length 0 ([]))).length E O,.row .order U]⟩) (eb (cq (aj (di c) c.length 0 ([])))) (gk (cq (aj (di c) c.length 0 ([])))) (cq (aj (di c) c.length 0 ([]))) ([]) ((·.elim)) ((·.elim)) (λU=>⟨[(2,.os 2)],[.dead,.dead,.row .order U]⟩) st)else none),?_,?_⟩
 ·unfold ae Tryz.f164;simp only[ak,true_and,and_true];refine⟨?_,?_⟩;refine bZ mixed aD hG kr (λ_=>rfl) (c.length:Int) rfl fM (λhb0 X V aqm _ hw hc=>⟨L0,ag _,?_⟩) (λhb0 V hc=>?_);exact bG (jl [0]);exact bH (jl [0])
  ·refine L4 (eC .bn,eC .int) 1 mixed aD hG kr (λ_=>rfl) λE O U hp1=>⟨L0,ag _,?_⟩
   ·by_cases W:E=[]
    subst W;exact abg (jl [0,1,5]) (jl [0,1,2])
    ·simp only[go_sem,W];intro j Y;obtain⟨aqc,hq1⟩:=hp1 j Y;unfold gk at hq1;all_goals exact gE (jl [0,1,5]) (jl [0,1,2])
 unfold ae Tryz.f164;exact aim
@[go_sem] def bU (s_:List Order)(S2:Nat)(ly:Unit):Int⊕Unit:=(bif(o7 (s_.getD S2 default))then .inl (S2:Int)else .inr ())
def dQ (s_:List Order):Int:=(match aj (bU s_) s_.length 0 ()with| .inl pq=>pq| .inr ly=>(-1))
@[go_sem] def ml:List SV->Option Con:=(pR .order λs_=>(pFn 166 (pE ((pE (.det True (.v (.int .i64 (dQ s_)))))))))
theorem lF:B1 Tryz.prog 244 ml:=by
 have hG:=mG (cp xe P0) P0;refine fN hG Tryz.f244 [.o] (bN λO=>(oz (am ((am (λX=>?_))))));dsimp only[an]at X;refine⟨nbl rfl,(λid st=>bif Nat.beq id 0 then some (LCR (ρ:=Int) (σ:=Unit) 0 [] [] (λU V=>⟨[(0,.rs .order O),(1,.fn 166 [] []),(7,.v (.int .i64 (O.length:Int))),(8,.v (.int .i64 (U:Int)))],[]⟩) (bU O) pT O.length () (O.length<=aK) (λ_=>.ret) (λE=>⟨[(4,.v (.int .i64 E))],[]⟩) st)else none),?_,?_⟩;unfold ae Tryz.f244;simp only[ak,true_and,and_true];refine bZ mixed aD hG kr (λ_=>rfl) (O.length:Int) rfl fM (λhb0 U V W _ hw hc=>⟨L0,ag _,?_⟩) (λhb0 V hc=>?_);exact bG (jl []);exact bH (jl []);unfold ae Tryz.f244;try unfold dQ
 exact zq2
def bA (s_:List Order):Bool:=(decide ((dQ s_)>=0))
@[go_sem] def kL:List SV->Option Con:=(pR .order λs_=>(pFn 166 (pE ((pE (.det True (.v (.bool (bA s_)))))))))
theorem ku:B1 Tryz.prog 165 kL:=by
 have hG:=mG (cn [.sl .order,.o] lF P0) P0;refine fN hG Tryz.f165 [.o] (bN λO=>(oz (am ((am (λE=>?_))))));dsimp only[an]at E;refine⟨nbl rfl,L0,ag _,?_⟩;unfold ae Tryz.f165;try unfold bA
 exact zq2
def aZ (d:ah)(c:List Claim):List Order×Int:=letI q0:=aS c;(bif((dP d c) !=0)then([],(dP d c))else(bif(decide ((i64.wrap ((d.reaches.length:Int)*d.hours)) > 1024))then([],2)else(bif(bA q0)then([],270)else(q0,0))))
def lq (d:ah)(c:List Claim):Prop:=((oQ d c)/\(((dP d c) !=0)=false->(d.reaches.length<=aK->((decide ((i64.wrap ((d.reaches.length:Int)*d.hours)) > 1024))=false->(jO c)))))
@[go_sem] def Az:List SV->Option Con:=(pD .bh λd=>(pR .C1 λc=>(pE (.det (lq d c) (.tup [.rs .order ((aZ d c).1),.v (.int .i64 ((aZ d c).2))])))))
theorem zh:B1 Tryz.prog 108 Az:=by
 have hG:=mG (cn [.st .bh,.sl .C1] C2 (cn [.sl .C1] xf (cn [.sl .order,.o] ku P0))) P0;refine fN hG Tryz.f108 [.sl .order,.o] (av λd=>(bN λc=>(am (λE=>?_))));dsimp only[an]at E;unfold lq at E;refine⟨nbl rfl,L0,ag _,?_⟩;unfold ae Tryz.f108;try unfold aZ
 exact zq2
end Go.Sx
end
section
namespace Go.Sx
open Go.Lib Go.Proofs Go.Shelf Go.Sort
def oP (f h:Int):ao6:= { hour:=h,index:=f,X2:=true}
def BT (c:List Claim)(f h:Int):Int:=jN (oP f h) c
def aqB (c:List Claim):Prop:=c.length<=4096/\∀ a∈c,1<=a.dd/\a.dd<=1073741824
variable {c:List Claim}
theorem S_{j:Nat}(E:j<c.length)(f h:Int):BT (c.take (j+1)) f h=BT (c.take j) f h+(if oP f h=BS c[j]then c[j].dd else 0):=by
 unfold BT;rw[amJ E,Nh];simp[jN]
theorem aab(h:aqB c)(f t:Int):0<=BT c f t/\BT c f t<=4398046511104:=by
 have h1:=HG (oP f t) c h.2;have h2:=h.1;grind [BT]
theorem aqB.take(h:aqB c)(j:Nat):aqB (c.take j):=⟨by rw[amq];have:=h.1;omega,λa E=>h.2 a (am0 E)⟩
theorem WQ {k:Tag}(m:List (k.T×Int))(x:k.T)(y:Int):(dD k .int m x y).length<=m.length+1:=by
 have:=congrArg List.length (zf m x y);rw[amo]at this;show(tg m x y).length<=_;grind
theorem Rj(h:aqB c):∃ m,aj (di c) c.length 0 []=.inr m/\SM .bn (λp=>BT c p.index p.hour) m/\m.length<=c.length:=by
 obtain⟨m,e,O,W⟩:=KF (step:=di c) (λj m=>SM .bn (λp=>BT (c.take j) p.index p.hour) m/\m.length<=j) c.length 0 [] ⟨by simpa[BT,jN]using SM.nil,alw _⟩ (λj m _ E ⟨O,W⟩ =>by
  have E:j<c.length:=by omega
  refine⟨_,rfl,?_,alQ (WQ _ _ _) (by omega)⟩;rw[mC _ _ E];have h1:=aab (h.take j) c[j].ee c[j].hour;have h2:=h.2 _ (amM E);have V:=O.get ({ index:=c[j].ee,hour:=c[j].hour}:l5);simp only at V;refine O.put _ (v:=_) ?_ λp=>?_;grind [az]
  rw[V,az (by omega) (by omega),S_ E];by_cases U:p=({ index:=c[j].ee,hour:=c[j].hour}:l5)
  subst U;rw[if_pos rfl,if_pos (by rfl)];rw[if_neg U,if_neg (λq=>U (by
   unfold oP BS at q;simp only[ao6.mk.injEq]at q;obtain⟨a,b⟩:=p;grind))]
  omega)
 simp_all
def toO (e:l5×Int):Order:= { hour:=e.1.hour,index:=e.1.index,dd:=e.2,X2:=true}
theorem AA (m:List (l5×Int)):∀ (L:List (l5×Int)) (s:List Order),dC (eb m) L s=.inr (s++L.map toO)
 | [],s=>by simp[dC]
 |x::L,s=>by
  have e:eb m x s=.inr (s++[toO x]):=rfl;simp only[dC,e];rw[AA m L];simp
theorem IR (m:List (l5×Int)):∀ (L:List (l5×Int)) (s:List Order),s.length+L.length<=100000->okL (eb m) (gk m) L s
 | [],s,_=>trivial
 |x::L,s,h=>by
  have e:eb m x s=.inr (s++[toO x]):=rfl;rw[aly]at h;refine⟨?_,λs' E=>?_⟩;grind [gk,d9]
  rw[e]at E;simp only[amd]at E;subst E;exact IR m L _ (by simp;omega)
theorem Gi {m:List (l5×Int)}(h:(m.map Prod.fst).Nodup):(m.map toO).Pairwise λx y=>¬K x y:=by
 rw[anF];unfold List.Nodup at h;rw[anF]at h;refine h.imp λ{a b} q k=>q ?_;obtain⟨⟨a1,O⟩,V⟩:=a;obtain⟨⟨U,E⟩,W⟩:=b;have h1:O=E:=k.1;have h2:a1=U:=k.2.1;rw[h1,h2]
theorem Gj {x y:Order}(E:x.X2=true)(hy:y.X2=true):S6 x y↔olt x y:=by
 grind [S6,olt,Ax,KD]
theorem sh (l:List Order):(srt ar l).Perm l:=amr _ _
variable {l:List Order}
theorem KI(Y:∀ x∈l,x.X2=true)(h:l.Pairwise λx y=>¬K x y):(srt ar l).Pairwise olt:=by
 have h1:(srt ar l).Pairwise λx y=>(!(ltOf ar y x))=true:=by
  refine amm (λa b c h1 h2=>?_) (λa b=>?_) l;simp only[alL]at h1 h2 |-;exact kc.ntrans _ _ _ h2 h1;cases q:ltOf ar b a with
  |false=>rfl
  |true=>
   cases O:ltOf ar a b with
   |false=>rfl|true=>have:=kc.trans _ _ _ q O;rw[kc.irrefl]at this;cases this
 have h2:=qw (sh l) h;have U:∀ x∈srt ar l,x.X2=true:=λx X=>Y x ((sh l).mem_iff.1 X);rw[al3]at h1 h2 |-;intro i j hi V E;have q1:=h1 i j hi V E;have O:=h2 i j hi V E;have W:¬olt (srt ar l)[j] (srt ar l)[i]:=λq=>by
  have:ltOf ar (srt ar l)[j] (srt ar l)[i]=true:=by
   unfold ltOf;rw[decide_eq_true_eq];exact(vH _ _).2 ((Gj (U _ (amM _)) (U _ (amM _))).2 q)
  grind
 exact al2 λq4=>O (Dy q4 W)
theorem aac{m:List Order}(O:∀ x∈l,x.X2=true)(h:l.Pairwise λx y=>¬K x y)(E:m.Perm l):srt ar m=srt ar l:=by
 have U:∀ x∈m,x.X2=true:=λx V=>O x (E.mem_iff.1 V);exact amx (λa b _ _ h1 h2=>absurd h2 (λh2=>by grind [olt])) (KI U (qw E h)) (KI O h) ((sh m).trans (E.trans (sh l).symm))
theorem adN(E:∀ x∈l,x.X2=true)(h:l.Pairwise λx y=>¬K x y):apart ar l:=λx O y hy h1 h2=>by
 refine Rh h O hy (Dy (λq=>?_) λq=>?_);unfold ltOf at h1;rw[decide_eq_false_iff_not]at h1;exact h1 ((vH _ _).2 ((Gj (E x O) (E y hy)).2 q));unfold ltOf at h2;rw[decide_eq_false_iff_not]at h2;exact h2 ((vH _ _).2 ((Gj (E y hy) (E x O)).2 q))
theorem KJ (m:List (l5×Int)):∀ x∈m.map toO,x.X2=true:=λx E=>by
 obtain⟨e,_,rfl⟩:=anq.1 E;rfl
theorem Gk {p:ao6}:∀ {c:List Claim},jN p c≠0->∃ a∈c,p=BS a
 | [],h=>absurd rfl h
 |a::r,h=>by
  by_cases q:p=BS a
  grind
  simp only[jN,if_neg q,Int.zero_add]at h;obtain⟨b,E,e⟩:=Gk h;grind
structure arN (c:List Claim)(o:List Order):Prop where
 out:∀ x∈o,x.X2=true
 asc:o.Pairwise olt
 lit:∀ x∈o,x.dd=BT c x.index x.hour/\1<=x.dd
 all:∀ f h,BT c f h≠0->∃ x∈o,x.index=f/\x.hour=h
 src:∀ x∈o,∃ a∈c,a.ee=x.index/\a.hour=x.hour
 len:o.length<=c.length
theorem outs(h:aqB c):arN c (aS c):=by
 obtain⟨m,e,U,X⟩:=Rj h;have W:aS c=srt ar (m.map toO):=by
  grind [aS,AA]
 rw[W];have E:∀ x,x∈srt ar (m.map toO)↔∃ q∈m,toO q=x:=λx=>by grind [sh]
 have lit:∀ x∈srt ar (m.map toO),x.dd=BT c x.index x.hour/\1<=x.dd:=λx O=>by
  obtain⟨q,V,rfl⟩:=(E x).1 O;have:=U.entry V;exact⟨this.1,U.pos q V⟩
 refine⟨λx O=>?_,KI (KJ m) (Gi U.nd),lit,λf t Y=>?_,λx O=>?_,?_⟩;obtain⟨q,V,rfl⟩:=(E x).1 O;rfl;exact⟨_,(E _).2 ⟨_,U.mem (p:= { index:=f,hour:=t}) Y,rfl⟩,rfl,rfl⟩;have h1:=lit x O;obtain⟨a,ha,ea⟩:=Gk (p:=oP x.index x.hour) (c:=c) (by show BT c _ _≠0;omega);grind [oP,BS]
 rw[(sh _).length_eq,amo];exact X
theorem Ta(h:aqB c):jO c:=by
 intro _ m O L X;obtain⟨W,e,E,hn⟩:=Rj h;rw[e]at O;simp only[amd]at O;subst O;have Y:=X.length_eq;have h1:=h.1;refine⟨IR _ L [] (by simp;omega),λs U=>?_⟩;rw[AA]at U;simp only[alC,amd]at U;subst U;have V:(L.map toO).Perm (W.map toO):=X.map _;refine⟨adN (KJ L) (qw V (Gi E.nd)),?_⟩;rw[aac (KJ W) (Gi E.nd) V];grind [aS,AA]
end Go.Sx
end
section
namespace Go.Sx
open Go.Proofs
open IntKind (i64)
@[go_sem] def iH (x:W2):List SV:=[.agg (cellsOf .fault x)]
@[go_sem] def BU:List SV->Option Con:=(pD .bh λd=>(pR .order λout=>(pE (.det True (.fn 174 [] [.ep [.rs .order out] 0,.ep (cellsOf .bh d) 0])))))
theorem AB:B1 Tryz.prog 111 BU:=by
 have hG:=mG P0 P0;refine fN hG Tryz.f111 [.o] (av λd=>(bN λout=>(am (λE=>?_))));refine⟨nbl rfl,L0,ag _,?_⟩;unfold ae Tryz.f111;simp only[go_sem,sF,sG,Nat.reduceBEq,Nat.reduceLeDiff,Nat.reduceAdd,Nat.reduceSub,Nat.reduceMul]
@[go_sem] def gu (out:List Order)(d:ah)(S2:Nat)(ly:List (l5×Int)):Empty⊕(List (l5×Int)):=letI q1:=out.getD S2 default;letI q0:=({ index:=(d.u0.getD (Int.toNat (q1.index)) default).reach,hour:=q1.hour}:l5);.inr (dD .bn .int ly q0 (i64.wrap ((ax .bn .int ly q0)+q1.dd)))
def i7 (out:List Order)(d:ah)(S2:Nat)(ly:List (l5×Int)):Prop:=(0<=(out.getD S2 default).index/\(out.getD S2 default).index< (d.u0.length:Int))
@[go_sem] def aY (d:ah)(s_1:List W2×List (l5×Int)×List (l5×Bool)×Int)(k_2:Nat)(s_2:List (l5×Bool)×List W2×List (l5×Int)):Empty⊕(List (l5×Bool)×List W2×List (l5×Int)):=letI q2:=d.reaches.getD (Int.toNat s_1.2.2.2) default;letI q7:=(k_2:Int);letI q0:=({ index:=q2.up,hour:=(i64.wrap (q7 - q2.delay))}:l5);letI q4:=({ index:=s_1.2.2.2,hour:=q7}:l5);letI q1:=ax .bn .int s_2.2.2 q4;letI q3:=s_2.2.1++[({ kind:=7,hour:=q7,index:=s_1.2.2.2,dd:=q1,limit:=0}:W2)];letI q5:=ce q2 q1;letI q6:=decide (q1<=1073741824);letI q8:=ax .bn .int s_2.2.2 q0;letI q9:=ax .bn .bool s_2.1 q0;letI qa:=decide (q7<q2.delay);(bif(ax .bn .bool s_2.1 q4)then .inr ((dD .bn .bool s_2.1 q0 true),s_2.2.1,s_2.2.2)else(bif(q1==0)then .inr (s_2.1,s_2.2.1,s_2.2.2)else(bif q6 then(bif((!q5.2.1) ||qa)then .inr ((dD .bn .bool s_2.1 q0 (q9||(!q5.2.1))),q3,s_2.2.2)else .inr (s_2.1,s_2.2.1,(dD .bn .int s_2.2.2 q0 (i64.wrap (q8+(if q5.1<q2.aoU then q2.aoU else q5.1))))))else(bif((!q6) ||qa)then .inr ((dD .bn .bool s_2.1 q0 (q9||(!q6))),q3,s_2.2.2)else .inr (s_2.1,s_2.2.1,(dD .bn .int s_2.2.2 q0 (i64.wrap (q8+(if 0<q2.aoU then q2.aoU else 0)))))))))
def gF (d:ah)(ao5:List (List SV))(s_1:List W2×List (l5×Int)×List (l5×Bool)×Int)(k_2:Nat)(s_2:List (l5×Bool)×List W2×List (l5×Int)):Prop:=letI q1:=d.reaches.getD (Int.toNat s_1.2.2.2) default;letI q6:=(k_2:Int);letI q3:=({ index:=s_1.2.2.2,hour:=q6}:l5);letI q0:=ax .bn .int s_2.2.2 q3;letI q2:=ao5[s_2.2.1.length]? =some (iH ({ kind:=7,hour:=q6,index:=s_1.2.2.2,dd:=q0,limit:=0}:W2));letI q4:=decide (q0<=1073741824);letI q5:=decide (q6<q1.delay);((ax .bn .bool s_2.1 q3)=false->((q0==0)=false->((q4=true->((iM q1 q0)/\(((!(ce q1 q0).2.1) ||q5)=true->q2)))/\(q4=false->(((!q4) ||q5)=true->q2)))))
@[go_sem] def da (d:ah)(k_1:Nat)(s_1:List W2×List (l5×Int)×List (l5×Bool)×Int):(List W2)⊕(List W2×List (l5×Int)×List (l5×Bool)×Int):=(bif(decide (s_1.2.2.2>=0))then(match aj (aY d s_1) (Int.toNat d.hours) 0 (s_1.2.2.1,s_1.1,s_1.2.1)with| .inl x=>x.elim| .inr s_2=>.inr (s_2.2.1,s_2.2.2,s_2.1,(i64.wrap (s_1.2.2.2 - 1))))else .inl s_1.1)
def i9 (d:ah)(ao5:List (List SV))(k_1:Nat)(s_1:List W2×List (l5×Int)×List (l5×Bool)×Int):Prop:=((decide (s_1.2.2.2>=0))=true->((0<=s_1.2.2.2/\s_1.2.2.2< (d.reaches.length:Int))/\((d.hours<9223372036854775808)/\okI (aY d s_1) (gF d ao5 s_1) (Int.toNat d.hours) 0 (s_1.2.2.1,s_1.1,s_1.2.1))))
def fo (out:List Order)(d:ah):List W2:=(match aj (gu out d) out.length 0 ([])with| .inl x=>x.elim| .inr ly=>(match aj (da d) (d.reaches.length+1) 0 (([]:List W2),ly,[],(i64.wrap ((d.reaches.length:Int) - 1)))with| .inl apA=>apA| .inr s_1=>default))
def iZ (out:List Order)(d:ah)(ao5:List (List SV)):Prop:=letI q0:=i64.wrap ((d.reaches.length:Int) - 1);letI q1:=da d;letI q2:=d.reaches.length+1;letI q3:=gu out d;(out.length<=aK->(okI q3 (i7 out d) out.length 0 ([])/\(∀ ly,aj q3 out.length 0 ([])=.inr ly->(d.reaches.length<=aK->(okI q1 (i9 d ao5) q2 0 (([]:List W2),ly,[],q0)/\(∀ z_,aj q1 q2 0 (([]:List W2),ly,[],q0)≠ .inr z_)/\(∀ apA,aj q1 q2 0 (([]:List W2),ly,[],q0)=.inl apA->(ao5.length=apA.length)))))))
theorem ye (out:List Order)(d:ah)(E:List (List SV))(hp:iZ out d E):zS Tryz.prog 174 (λy=>[y,.ep [.rs .order out] 0,.ep (cellsOf .bh d) 0]) [] E:=by
 unfold iZ at hp;refine Bc mixed aD (fn:=Tryz.f174) (c:=ae Tryz.f174) kr kr kr kr rfl (n:=0) rfl (G:=λV=>zT [(84,yE)] [] (CJ E V)) (λV hy=>?_) (λargs w=>by kernel_rfl);have hG:=mGY (cp sZ P0) P0 hy;refine⟨hG,nbl rfl,(λid st=>bif Nat.beq id 0 then some (LCR (ρ:=Empty) (σ:=(List (l5×Int))) 3 [] [0,1,2] (λS2 X=>⟨[(0,.os 0),(2,.ep (cellsOf .bh d) 0),(4,.os 1),(5,.os 2),(18,.rs .order out),(19,.v (.int .i64 (out.length:Int))),(20,.v (.int .i64 (S2:Int)))],[.ab (V.1 (([]:List W2).length+1)),.mp .bn .int X none,.mp .bn .bool ([]) none]⟩) (gu out d) (i7 out d) out.length ([]) (out.length<=aK) ((·.elim)) ((·.elim)) st)else bif Nat.beq id 2 then some (Zv (ρ:=(List W2)) (σ:=(List W2×List (l5×Int)×List (l5×Bool)×Int)) 3 [] [0,1,2] (λk_1 O=>⟨[(0,.os 0),(2,.ep (cellsOf .bh d) 0),(4,.os 1),(5,.os 2),(8,.v (.int .i64 O.2.2.2))],[.ab (V.1 (O.1.length+1)),.mp .bn .int O.2.1 none,.mp .bn .bool O.2.2.1 none]⟩) (da d) (i9 d E) (d.reaches.length+1) (([]:List W2),(cq (aj (gu out d) out.length 0 ([]))),[],(i64.wrap ((d.reaches.length:Int) - 1))) (λ_=>.normal) (λW=>⟨[],[.ab (V.1 (W.length+1)),.dead,.dead]⟩) ⟨[],[.ab (V.1 0),.dead,.dead]⟩ st)else none),?_,?_⟩;unfold ae Tryz.f174;simp only[ak,true_and,and_true];refine⟨?_,?_⟩;refine bZ mixed aD hG kr (λ_=>rfl) (out.length:Int) rfl fM (λhb0 S2 X aqm hq0 hw hc=>⟨L0,ag _,?_⟩) (λhb0 X hc=>?_);unfold i7 at hq0;try simp only[hw,alv]at hq0
 exact oI (jl [0,1,2]);exact oJ (jl [0,1,2]);refine Im mixed aD hG kr (λ_=>rfl) λk_1 O hq1=>⟨(λid st=>bif Nat.beq id 4 then some (LCY (ρ:=Empty) (σ:=(List (l5×Bool)×List W2×List (l5×Int))) 4 [] [0,1,2,3] (λY U=>⟨[(0,.os 0),(2,.ep (cellsOf .bh d) 0),(4,.os 1),(5,.os 2),(8,.v (.int .i64 O.2.2.2)),(9,.ptr 3 0),(56,.v (.int .i64 d.hours)),(57,.v (.int .i64 (Y:Int)))],[.ab (V.1 (U.2.1.length+1)),.mp .bn .int U.2.2 none,.mp .bn .bool U.1 none,.cells (cellsOf .reach (d.reaches.getD (Int.toNat O.2.2.2) (default:Reach)))]⟩) (aY d O) (gF d E O) (Int.toNat d.hours) (O.2.2.1,O.1,O.2.1) (d.hours<9223372036854775808) ((·.elim)) ((·.elim)) ⟨[],[.ab (V.1 0),.dead,.dead,.dead]⟩ st)else none),?_,?_⟩;simp only[ak,true_and,and_true];refine sH mixed aD hG kr (λ_=>rfl) d.hours rfl id (λhb2 Y U hlt2 hq2 hw hc=>⟨L0,ag _,?_⟩) (λhb2 U hc=>?_);unfold gF at hq2;try simp only[hw,alv]at hq2
 exact oI (jl [0,1,2,3]);exact oJ (jl [0,1,2,3]);unfold i9 at hq1;exact Mk (jl [0,1,2]);unfold ae Tryz.f174;exact Mk (jl [0])
@[go_sem] def zi:List SV->Option Con:=(pD .bh λd=>(pR .order λl_=>(pE (.det True (.fn 175 [] [.ep [.rs .order l_] 0,.ep (cellsOf .bh d) 0])))))
theorem yf:B1 Tryz.prog 112 zi:=by
 have hG:=mG P0 P0;refine fN hG Tryz.f112 [.o] (av λd=>(bN λE=>(am (λO=>?_))));refine⟨nbl rfl,L0,ag _,?_⟩;unfold ae Tryz.f112;simp only[go_sem,sF,sG,Nat.reduceBEq,Nat.reduceLeDiff,Nat.reduceAdd,Nat.reduceSub,Nat.reduceMul]
@[go_sem] def aT (l_:List Order)(S2:Nat)(ly:List (l5×Int)×Int):Empty⊕(List (l5×Int)×Int):=letI q1:=l_.getD S2 default;letI q0:=dD .bn .int ly.1 ({ index:=q1.index,hour:=q1.hour}:l5) (q1.dd);(bif(!q1.X2)then(bif(q1.index==0)then .inr (q0,(i64.wrap (ly.2+q1.dd)))else .inr (q0,ly.2))else .inr (ly.1,ly.2))
@[go_sem] def gG (d:ah)(ly:List (l5×Int)×Int)(k_1:Nat)(k_2:Nat)(k_3:Nat)(s_3:Int):Empty⊕Int:=.inr (i64.wrap (s_3+(ax .bn .int ly.1 ({ index:=(k_2:Int),hour:=(i64.wrap ((k_1:Int) - (k_3:Int)))}:l5))))
@[go_sem] def fB (d:ah)(ly:List (l5×Int)×Int)(k_1:Nat)(k_2:Nat)(s_2:List W2):Empty⊕(List W2):=letI q1:=d.reaches.getD k_2 default;letI q3:=(k_1:Int);letI q4:=(k_2:Int);letI q2:=ax .bn .int ly.1 ({ index:=q4,hour:=q3}:l5);letI q0:=s_2++[({ kind:=1,hour:=q3,index:=q4,dd:=q2,limit:=q1.cap}:W2)];(match aj (gG d ly k_1 k_2) (Int.toNat (q1.delay)) 0 0 with| .inl x=>x.elim| .inr s_3=>(bif(decide (q2 > q1.cap))then(bif(decide (s_3 > q1.aph))then .inr (q0++[({ kind:=3,hour:=q3,index:=q4,dd:=s_3,limit:=q1.aph}:W2)])else .inr q0)else(bif(decide (s_3 > q1.aph))then .inr (s_2++[({ kind:=3,hour:=q3,index:=q4,dd:=s_3,limit:=q1.aph}:W2)])else .inr s_2)))
def ir (d:ah)(ao5:List (List SV))(ly:List (l5×Int)×Int)(k_1:Nat)(k_2:Nat)(s_2:List W2):Prop:=letI q1:=d.reaches.getD k_2 default;letI q4:=(k_1:Int);letI q5:=(k_2:Int);letI q0:=ax .bn .int ly.1 ({ index:=q5,hour:=q4}:l5);letI q2:=({ kind:=1,hour:=q4,index:=q5,dd:=q0,limit:=q1.cap}:W2);letI q3:=decide (q0 > q1.cap);((q1.delay<9223372036854775808)/\(∀ s_3,aj (gG d ly k_1 k_2) (Int.toNat (q1.delay)) 0 0=.inr s_3->((q3=true->((ao5[s_2.length]? =some (iH q2))/\(((decide (s_3 > q1.aph))=true->(ao5[(s_2++[q2]).length]? =some (iH ({ kind:=3,hour:=q4,index:=q5,dd:=s_3,limit:=q1.aph}:W2))))/\((decide (s_3 > q1.aph))=false->((decide (s_3 > q1.aph))=false)))))/\(q3=false->((q3=false)/\(((decide (s_3 > q1.aph))=true->(ao5[s_2.length]? =some (iH ({ kind:=3,hour:=q4,index:=q5,dd:=s_3,limit:=q1.aph}:W2))))/\((decide (s_3 > q1.aph))=false->((decide (s_3 > q1.aph))=false))))))))
@[go_sem] def ez (d:ah)(ly:List (l5×Int)×Int)(k_1:Nat)(s_1:List W2):Empty⊕(List W2):=(match aj (fB d ly k_1) d.reaches.length 0 s_1 with| .inl x=>x.elim| .inr s_2=>.inr s_2)
def iu (d:ah)(ao5:List (List SV))(ly:List (l5×Int)×Int)(k_1:Nat)(s_1:List W2):Prop:=(d.reaches.length<=aK->okI (fB d ly k_1) (ir d ao5 ly k_1) d.reaches.length 0 s_1)
def dK (l_:List Order)(d:ah):List W2:=(match aj (aT l_) l_.length 0 ([],0)with| .inl x=>x.elim| .inr ly=>(match aj (ez d ly) (Int.toNat d.hours) 0 ([]:List W2)with| .inl x=>x.elim| .inr s_1=>(bif(decide (ly.2 > d.Y2.start))then(s_1++[({ kind:=4,hour:=0,index:=0,dd:=ly.2,limit:=d.Y2.start}:W2)])else s_1)))
def g9 (l_:List Order)(d:ah)(ao5:List (List SV)):Prop:=letI q0:=Int.toNat d.hours;(l_.length<=aK->(∀ ly,aj (aT l_) l_.length 0 ([],0)=.inr ly->((d.hours<9223372036854775808)/\okI (ez d ly) (iu d ao5 ly) q0 0 ([]:List W2)/\(∀ s_1,aj (ez d ly) q0 0 ([]:List W2)=.inr s_1->(((decide (ly.2 > d.Y2.start))=true->((ao5[s_1.length]? =some (iH ({ kind:=4,hour:=0,index:=0,dd:=ly.2,limit:=d.Y2.start}:W2)))/\(ao5.length=(s_1++[({ kind:=4,hour:=0,index:=0,dd:=ly.2,limit:=d.Y2.start}:W2)]).length)))/\((decide (ly.2 > d.Y2.start))=false->(ao5.length=s_1.length)))))))
theorem wh (E:List Order)(d:ah)(O:List (List SV))(hp:g9 E d O):zS Tryz.prog 175 (λy=>[y,.ep [.rs .order E] 0,.ep (cellsOf .bh d) 0]) [] O:=by
 unfold g9 at hp;refine Bc mixed aD (fn:=Tryz.f175) (c:=ae Tryz.f175) kr kr kr kr rfl (n:=0) rfl (G:=λr_=>zT [] [] (CJ O r_)) (λr_ hy=>?_) (λargs w=>by kernel_rfl);have hG:=mGY P0 P0 hy;refine⟨hG,nbl rfl,(λid st=>bif Nat.beq id 0 then some (LCR (ρ:=Empty) (σ:=(List (l5×Int)×Int)) 2 [] [0,1] (λS2 Y=>⟨[(0,.os 0),(2,.ep (cellsOf .bh d) 0),(4,.os 1),(5,.v (.int .i64 Y.2)),(15,.rs .order E),(16,.v (.int .i64 (E.length:Int))),(17,.v (.int .i64 (S2:Int)))],[.ab (r_.1 (([]:List W2).length+1)),.mp .bn .int Y.1 none]⟩) (aT E) pT E.length ([],0) (E.length<=aK) ((·.elim)) ((·.elim)) st)else bif Nat.beq id 2 then some (LCY (ρ:=Empty) (σ:=(List W2)) 2 [] [0,1] (λV X=>⟨[(0,.os 0),(2,.ep (cellsOf .bh d) 0),(4,.os 1),(5,.v (.int .i64 (cq (aj (aT E) E.length 0 ([],0))).2)),(41,.v (.int .i64 d.hours)),(42,.v (.int .i64 (V:Int)))],[.ab (r_.1 (X.length+1)),.mp .bn .int (cq (aj (aT E) E.length 0 ([],0))).1 none]⟩) (ez d (cq (aj (aT E) E.length 0 ([],0)))) (iu d O (cq (aj (aT E) E.length 0 ([],0)))) (Int.toNat d.hours) ([]:List W2) (d.hours<9223372036854775808) ((·.elim)) ((·.elim)) ⟨[],[.ab (r_.1 0),.dead]⟩ st)else none),?_,?_⟩;unfold ae Tryz.f175;simp only[ak,true_and,and_true];refine⟨?_,?_⟩;refine bZ mixed aD hG kr (λ_=>rfl) (E.length:Int) rfl fM (λhb0 S2 Y aqm _ hw hc=>⟨L0,ag _,?_⟩) (λhb0 Y hc=>?_);exact oI (jl [0,1]);exact oJ (jl [0,1]);refine sH mixed aD hG kr (λ_=>rfl) d.hours rfl id (λhb1 V X aqc hq1 hw hc=>⟨(λid st=>bif Nat.beq id 4 then some (LCY (ρ:=Empty) (σ:=(List W2)) 2 [] [0,1] (λU W=>⟨[(0,.os 0),(2,.ep (cellsOf .bh d) 0),(4,.os 1),(5,.v (.int .i64 (cq (aj (aT E) E.length 0 ([],0))).2)),(8,.v (.int .i64 (V:Int))),(41,.v (.int .i64 d.hours)),(42,.v (.int .i64 (V:Int))),(46,.rs .reach d.reaches),(47,.v (.int .i64 (d.reaches.length:Int))),(48,.v (.int .i64 (U:Int)))],[.ab (r_.1 (W.length+1)),.mp .bn .int (cq (aj (aT E) E.length 0 ([],0))).1 none]⟩) (fB d (cq (aj (aT E) E.length 0 ([],0))) V) (ir d O (cq (aj (aT E) E.length 0 ([],0))) V) d.reaches.length X (d.reaches.length<=aK) ((·.elim)) ((·.elim)) ⟨[],[.ab (r_.1 0),.dead]⟩ st)else none),?_,?_⟩) (λhb1 X hc=>?_);simp only[ak,true_and,and_true];refine sH mixed aD hG kr (λ_=>rfl) (d.reaches.length:Int) rfl fM (λhb2 U W hlt2 hq2 hw hc=>⟨(λid st=>bif Nat.beq id 6 then some (LCR (ρ:=Empty) (σ:=Int) 3 [] [0,1,2] (λk_3 s_3=>⟨[(0,.os 0),(2,.ep (cellsOf .bh d) 0),(4,.os 1),(5,.v (.int .i64 (cq (aj (aT E) E.length 0 ([],0))).2)),(8,.v (.int .i64 (V:Int))),(9,.v (.int .i64 (U:Int))),(10,.ptr 2 0),(11,.v (.int .i64 s_3)),(41,.v (.int .i64 d.hours)),(42,.v (.int .i64 (V:Int))),(46,.rs .reach d.reaches),(47,.v (.int .i64 (d.reaches.length:Int))),(48,.v (.int .i64 (U:Int))),(54,.v (.int .i64 ((d.reaches.getD U (default:Reach)).delay))),(55,.v (.int .i64 (k_3:Int)))],[.ab (r_.1 (W.length+1)),.mp .bn .int (cq (aj (aT E) E.length 0 ([],0))).1 none,.cells (cellsOf .reach (d.reaches.getD U (default:Reach)))]⟩) (gG d (cq (aj (aT E) E.length 0 ([],0))) V U) pT (Int.toNat ((d.reaches.getD U (default:Reach)).delay)) 0 ((d.reaches.getD U (default:Reach)).delay<9223372036854775808) ((·.elim)) ((·.elim)) st)else none),?_,?_⟩) (λhb2 W hc=>?_);simp only[ak,true_and,and_true];refine bZ mixed aD hG kr (λ_=>rfl) ((d.reaches.getD U (default:Reach)).delay) rfl id (λhb3 k_3 s_3 hlt3 _ hw hc=>⟨L0,ag _,?_⟩) (λhb3 s_3 hc=>?_);exact oI (jl [0,1,2]);exact oJ (jl [0,1,2]);unfold ir at hq2;try simp only[hw,alv]at hq2
 exact oI (jl [0,1]);exact oJ (jl [0,1]);unfold iu at hq1;try simp only[hw,alv]at hq1
 exact oI (jl [0,1]);exact oJ (jl [0,1]);unfold ae Tryz.f175;exact Mk (jl [0])
@[go_sem] def kv (out:List Order)(d:ah)(z_0:W2)(ly:Int×Int×Int×Int×Int):Empty⊕(Int×Int×Int×Int×Int):=(bif(((ly.1==0)&&((ly.2.1==0)&&((ly.2.2.1==0)&&((ly.2.2.2.1==0)&&(ly.2.2.2.2==0))))) ||(decide ((fg ([(bj z_0.hour ly.2.1),(bj ly.2.2.1 z_0.index)])) <0)))then .inr (z_0.kind,z_0.hour,z_0.index,z_0.dd,z_0.limit)else .inr (ly.1,ly.2.1,ly.2.2.1,ly.2.2.2.1,ly.2.2.2.2))
def xg (out:List Order)(d:ah)(z_0:W2)(ly:Int×Int×Int×Int×Int):Prop:=True
def rz (out:List Order)(d:ah):W2:=(match dC (kv out d) (fo out d) (0,0,0,0,0)with| .inl x=>x.elim| .inr ly=>({ kind:=ly.1,hour:=ly.2.1,index:=ly.2.2.1,dd:=ly.2.2.2.1,limit:=ly.2.2.2.2}:W2))
def o9 (out:List Order)(d:ah):Prop:=(iZ out d ((fo out d).map iH))
@[go_sem] noncomputable def AC:List SV->Option Con:=(pFn 174 (pXR .order λout=>(pX .bh λd=>(pE ((pE (.det (o9 out d) (.agg (cellsOf .fault (rz out d))))))))))
variable {p:Prop}
theorem ain(h:p:=by simp only[go_sem,e0_0,e0_1]):p:=h
variable {l0:List Nat}
theorem aio(a0:JL l0)(h:JL l0->p:=by intro ja;simp only[go_sem,kv,psT,iH,alU,alC];all_goals exact uB ja):p:=h a0
theorem zj:B1 Tryz.prog 110 AC:=by
 have hG:=mG (cp eS (cn [.sl .int] ta P0)) P0;refine fN hG Tryz.f110 [.st .fault] (oz (zW λout=>(gD λd=>(am ((am (λO=>?_)))))));dsimp only[an]at O;unfold o9 at O;refine⟨nbl rfl,(λid st=>bif Nat.beq id 0 then some (LC (ρ:=Empty) (σ:=Int×Int×Int×Int×Int) (lk 2 st.t=.ptr 0 0/\lk 4 st.t=.fn 174 [] [.ep [.rs .order out] 0,.ep (cellsOf .bh d) 0]/\st.h=[.cells [.v (.int .i64 0),.v (.int .i64 0),.v (.int .i64 0),.v (.int .i64 0),.v (.int .i64 0)]]/\iZ out d ((fo out d).map iH)) (dC (kv out d) (fo out d) (0,0,0,0,0)) (λx=>x.elim) (λx=>x.elim) (λE=>⟨[(2,.ptr 0 0)],[.cells [.v (.int .i64 E.1),.v (.int .i64 E.2.1),.v (.int .i64 E.2.2.1),.v (.int .i64 E.2.2.2.1),.v (.int .i64 E.2.2.2.2)]]⟩))else none),?_,?_⟩
 ·unfold ae Tryz.f110;simp only[ak,true_and,and_true]
  ·refine rZ mixed aD hG (by decide) (by decide) kr kr λst X U O=>?_;simp only[go_sem,Nat.reduceBEq,alx]at U;subst U;obtain⟨t,h⟩:=st;dsimp only[LC]at O;obtain⟨e0_0,e0_1,rfl,hb0⟩:=O;refine⟨174,[.ep [.rs .order out] 0,.ep (cellsOf .bh d) 0],W2,_,_,(fo out d),iH,(kv out d),(xg out d),_,(0,0,0,0,0),_,_,_,[(2,.ptr 0 0)],(λE=>[.cells [.v (.int .i64 E.1),.v (.int .i64 E.2.1),.v (.int .i64 E.2.2.1),.v (.int .i64 E.2.2.2.1),.v (.int .i64 E.2.2.2.2)]]),(λx=>x.elim),[0],?_,rfl,Dq _ _ λ_ _ _=>trivial,nbl rfl,?_,ye out d _ hb0,λV E W=>⟨rfl,L0,λl=>?_,λl=>?_,?_⟩,λE=>?_,λy=>?_⟩;exact ain
   ·simp only[go_sem,sD,jT,alO,amD,alC,alT,amG,e0_0,e0_1];all_goals (first|done|decide|(repeat' (first|refine And.intro ?_ ?_|rfl|decide)))
   simp only[ak,and_self,true_and,and_true];simp only[ak,and_self,true_and,and_true]
   skip
   exact aio (jl [0]);exact c7 (jl [0]);exact c7 (jl [0])
 unfold ae Tryz.f110;try unfold rz
 exact zq2
@[go_sem] def kw (d:ah)(c:List Claim)(z_0:W2)(ly:Unit):(Int×Int×Int×Int×Int)⊕Unit:=.inl (z_0.kind,z_0.hour,z_0.index,z_0.dd,z_0.limit)
def xj (d:ah)(c:List Claim)(z_0:W2)(ly:Unit):Prop:=True
def c5 (d:ah)(c:List Claim):List Order×W2×Int:=letI q1:=aZ d c;letI q0:=aQ d (q1.1);(bif(q1.2 !=0)then([],({ kind:=0,hour:=0,index:=0,dd:=0,limit:=0}:W2),q1.2)else(bif(q0.2.2 !=0)then([],({ kind:=0,hour:=0,index:=0,dd:=0,limit:=0}:W2),q0.2.2)else(bif(!q0.2.1)then([],(rz (q1.1) d),0)else(match dC (kw d c) (dK (q0.1) d) ()with| .inl pq=>([],({ kind:=pq.1,hour:=pq.2.1,index:=pq.2.2.1,dd:=pq.2.2.2.1,limit:=pq.2.2.2.2}:W2),0) | .inr ly=>(q0.1,({ kind:=0,hour:=0,index:=0,dd:=0,limit:=0}:W2),0)))))
def jA (d:ah)(c:List Claim):Prop:=letI q1:=aZ d c;letI q0:=aQ d (q1.1);((lq d c)/\((q1.2 !=0)=false->((o8 d (q1.1))/\((q0.2.2 !=0)=false->(((!q0.2.1)=true->(o9 (q1.1) d))/\((!q0.2.1)=false->(g9 (q0.1) d ((dK (q0.1) d).map iH))))))))
@[go_sem] def AD:List SV->Option Con:=(pD .bh λd=>(pR .C1 λc=>(pE (.det (jA d c) (.tup [.rs .order ((c5 d c).1),.agg (cellsOf .fault ((c5 d c).2.1)),.v (.int .i64 ((c5 d c).2.2))])))))
theorem aip(h:p:=by simp only[go_sem,e0_0,e0_1,e0_2,e0_3]):p:=h
theorem aiq(a0:JL l0)(h:JL l0->p:=by intro ja;simp only[go_sem,kw,psT,iH,alU,alC];all_goals exact uB ja):p:=h a0
theorem td:B1 Tryz.prog 57 AD:=by
 have hG:=mG (cn [.st .bh,.sl .C1] zh (cn [.st .bh,.sl .order] Df (cp zj (cn [.st .bh,.sl .order] AB (cn [.st .bh,.sl .order] yf P0))))) P0;refine fN hG Tryz.f57 [.sl .order,.st .fault,.o] (av λd=>(bN λc=>(am (λU=>?_))));dsimp only[an]at U;unfold jA at U;refine⟨nbl rfl,(λid st=>bif Nat.beq id 0 then some (LC (ρ:=Int×Int×Int×Int×Int) (σ:=Unit) (lk 4 st.t=.ptr 1 0/\lk 5 st.t=.ptr 2 0/\lk 6 st.t=.ptr 3 0/\lk 39 st.t=.fn 175 [] [.ep [.rs .order ((aQ d ((aZ d c).1)).1)] 0,.ep (cellsOf .bh d) 0]/\st.h=[.cells (cellsOf .bh d),.cells [.rs .order ((aQ d ((aZ d c).1)).1)],.cells [.v (.int .i64 0),.v (.int .i64 0),.v (.int .i64 0),.v (.int .i64 0),.v (.int .i64 0)],.cells [.v (.int .i64 ((aQ d ((aZ d c).1)).2.2))]]/\g9 ((aQ d ((aZ d c).1)).1) d ((dK ((aQ d ((aZ d c).1)).1) d).map iH)) (dC (kw d c) (dK ((aQ d ((aZ d c).1)).1) d) ()) (λ_=>.ret) (λE=>⟨[(4,.ptr 1 0),(5,.ptr 2 0),(6,.ptr 3 0)],[.dead,.cells [.v (.slice none 0 0)],.cells [.v (.int .i64 E.1),.v (.int .i64 E.2.1),.v (.int .i64 E.2.2.1),.v (.int .i64 E.2.2.2.1),.v (.int .i64 E.2.2.2.2)],.cells [.v (.int .i64 0)]]⟩) (λO=>⟨[(4,.ptr 1 0),(5,.ptr 2 0),(6,.ptr 3 0)],[.dead,.cells [.rs .order ((aQ d ((aZ d c).1)).1)],.cells [.v (.int .i64 0),.v (.int .i64 0),.v (.int .i64 0),.v (.int .i64 0),.v (.int .i64 0)],.cells [.v (.int .i64 ((aQ d ((aZ d c).1)).2.2))]]⟩))else none),?_,?_⟩
 ·unfold ae Tryz.f57;simp only[ak,true_and,and_true]
  ·refine rZ mixed aD hG (by decide) (by decide) kr kr λst Y V U=>?_;simp only[go_sem,Nat.reduceBEq,alx]at V;subst V;obtain⟨t,h⟩:=st;dsimp only[LC]at U;obtain⟨e0_0,e0_1,e0_2,e0_3,rfl,hb0⟩:=U;refine⟨175,[.ep [.rs .order ((aQ d ((aZ d c).1)).1)] 0,.ep (cellsOf .bh d) 0],W2,_,_,(dK ((aQ d ((aZ d c).1)).1) d),iH,(kw d c),(xj d c),_,(),_,_,_,[(4,.ptr 1 0),(5,.ptr 2 0),(6,.ptr 3 0)],(λO=>[.dead,.cells [.rs .order ((aQ d ((aZ d c).1)).1)],.cells [.v (.int .i64 0),.v (.int .i64 0),.v (.int .i64 0),.v (.int .i64 0),.v (.int .i64 0)],.cells [.v (.int .i64 ((aQ d ((aZ d c).1)).2.2))]]),(λE=>[.dead,.cells [.v (.slice none 0 0)],.cells [.v (.int .i64 E.1),.v (.int .i64 E.2.1),.v (.int .i64 E.2.2.1),.v (.int .i64 E.2.2.2.1),.v (.int .i64 E.2.2.2.2)],.cells [.v (.int .i64 0)]]),[0,1,2,3],?_,rfl,Dq _ _ λ_ _ _=>trivial,nbl rfl,?_,wh ((aQ d ((aZ d c).1)).1) d _ hb0,λW O X=>⟨rfl,L0,λl=>?_,λl=>?_,?_⟩,λO=>?_,λy=>?_⟩;exact aip
   ·simp only[go_sem,sD,jT,alO,amD,alC,alT,amG,e0_0,e0_1,e0_2,e0_3];all_goals (first|done|decide|(repeat' (first|refine And.intro ?_ ?_|rfl|decide)))
   simp only[ak,and_self,true_and,and_true];simp only[ak,and_self,true_and,and_true]
   skip
   exact aiq (jl [0,1,2,3]);exact c7 (jl [0,1,2,3]);exact c7 (jl [0,1,2,3])
 unfold ae Tryz.f57;try unfold c5
 exact zq2
def dT (d:ah)(c:List Claim):List Order×Bool×Int:=letI q0:=c5 d c;(q0.1,((q0.2.2==0)&&(((q0.2.1).kind==0)&&(((q0.2.1).hour==0)&&(((q0.2.1).index==0)&&(((q0.2.1).dd==0)&&((q0.2.1).limit==0)))))),q0.2.2)
def j5 (d:ah)(c:List Claim):Prop:=(jA d c)
@[go_sem] def BV:List SV->Option Con:=(pD .bh λd=>(pR .C1 λc=>(pE (.det (j5 d c) (.tup [.rs .order ((dT d c).1),.v (.bool ((dT d c).2.1)),.v (.int .i64 ((dT d c).2.2))])))))
theorem AE:B1 Tryz.prog 18 BV:=by
 have hG:=mG (cn [.st .bh,.sl .C1] td P0) P0;refine fN hG Tryz.f18 [.sl .order,.o,.o] (av λd=>(bN λc=>(am (λE=>?_))));dsimp only[an]at E;unfold j5 at E;refine⟨nbl rfl,L0,ag _,?_⟩;unfold ae Tryz.f18;try unfold dT
 exact zq2
def bK (d:ah)(c:List Claim):W2×Bool×Int:=letI q1:=c5 d c;letI q0:=q1.2.1;(q0,(!((q0.kind==0)&&((q0.hour==0)&&((q0.index==0)&&((q0.dd==0)&&(q0.limit==0)))))),q1.2.2)
def lr (d:ah)(c:List Claim):Prop:=(jA d c)
@[go_sem] def AF:List SV->Option Con:=(pD .bh λd=>(pR .C1 λc=>(pE (.det (lr d c) (.tup [.agg (cellsOf .fault ((bK d c).1)),.v (.bool ((bK d c).2.1)),.v (.int .i64 ((bK d c).2.2))])))))
theorem tf:B1 Tryz.prog 34 AF:=by
 have hG:=mG (cn [.st .bh,.sl .C1] td P0) P0;refine fN hG Tryz.f34 [.st .fault,.o,.o] (av λd=>(bN λc=>(am (λE=>?_))));dsimp only[an]at E;unfold lr at E;refine⟨nbl rfl,L0,ag _,?_⟩;unfold ae Tryz.f34;try unfold bK
 exact zq2
abbrev UM:=List (l5×Bool)
abbrev WM:=List (l5×Int)
def sl (a b:Int):l5:= { index:=a,hour:=b}
def ltF (k:Nat)(r n:Int):W2:= { kind:=7,hour:=(k:Int),index:=r,dd:=n,limit:=0}
section
variable {d:ah}{s1:List W2×WM×UM×Int}{k:Nat}{u:UM}{F:List W2}{w:WM}
theorem Tb (O:ax .bn .bool u (sl s1.2.2.2 k)=true):∃ E,aY d s1 k (u,F,w)=.inr (E,F,w):=by
 simp_all [aY,sl]
theorem Tc (O:ax .bn .bool u (sl s1.2.2.2 k)=false)(E:ax .bn .int w (sl s1.2.2.2 k)=0):aY d s1 k (u,F,w)=.inr (u,F,w):=by
 simp_all [aY,sl]
theorem WR (O:ax .bn .bool u (sl s1.2.2.2 k)=false)(U:ax .bn .int w (sl s1.2.2.2 k)≠0)
  (E:(a8 (rch d s1.2.2.2) (ax .bn .int w (sl s1.2.2.2 k))).2=false\/(k:Int) < (rch d s1.2.2.2).delay):
  ∃ X,aY d s1 k (u,F,w)=.inr (X,F++[ltF k s1.2.2.2 (ax .bn .int w (sl s1.2.2.2 k))],w):=by
 unfold aY ltF;unfold sl at O U E |-;simp only[O,cond_false];generalize Y:ax .bn .int w ({ index:=s1.2.2.2,hour:=(k:Int)}:l5)=n at U E |-;have V:(n==0)=false:=by grind
 rw[V,cond_false];unfold a8 at E;by_cases W:n<=1073741824
 rw[decide_eq_true W,cond_true];have h1:((n==0) ||decide (n > 1073741824))=false:=by grind
 rw[h1,cond_false]at E;have h2:((!(ce (d.reaches.getD (Int.toNat s1.2.2.2) (default:Reach)) n).2.1) ||(decide ((k:Int) < (d.reaches.getD (Int.toNat s1.2.2.2) (default:Reach)).delay)))=true:=by
  grind
 rw[h2,cond_true];grind
 simp_all [decide_eq_false]
theorem Td (O:ax .bn .bool u (sl s1.2.2.2 k)=false)(U:ax .bn .int w (sl s1.2.2.2 k)≠0)
  (E:(a8 (rch d s1.2.2.2) (ax .bn .int w (sl s1.2.2.2 k))).2=true) (W:¬ (k:Int) < (rch d s1.2.2.2).delay):
  aY d s1 k (u,F,w)=.inr (u,F,dD .bn .int w (sl (rch d s1.2.2.2).up (i64.wrap ((k:Int) - (rch d s1.2.2.2).delay))) (i64.wrap (ax .bn .int w (sl (rch d s1.2.2.2).up (i64.wrap ((k:Int) - (rch d s1.2.2.2).delay)))+(a8 (rch d s1.2.2.2) (ax .bn .int w (sl s1.2.2.2 k))).1))):=by
 unfold aY;unfold sl at O U E |-;simp only[O,cond_false];generalize X:ax .bn .int w ({ index:=s1.2.2.2,hour:=(k:Int)}:l5)=n at U E |-;have V:(n==0)=false:=by grind
 rw[V,cond_false];unfold a8 at E |-;grind
theorem WS:∃ E T w',aY d s1 k (u,F,w)=.inr (E,F++T,w')/\∀ f∈T,f.kind=7:=by
 cases O:ax .bn .bool u (sl s1.2.2.2 k)with
 |true=>obtain⟨E,e⟩:=Tb (F:=F) (w:=w) O;exact⟨E,[],w,by rw[e,alT],by simp⟩
 |false=>
  by_cases U:ax .bn .int w (sl s1.2.2.2 k)=0
  exact⟨u,[],w,by rw[Tc O U,alT],by simp⟩;by_cases V:(a8 (rch d s1.2.2.2) (ax .bn .int w (sl s1.2.2.2 k))).2=false\/(k:Int) < (rch d s1.2.2.2).delay
  obtain⟨E,e⟩:=WR (F:=F) O U V;grind [ltF]
  have h1:(a8 (rch d s1.2.2.2) (ax .bn .int w (sl s1.2.2.2 k))).2=true:=by
   grind
  exact⟨u,[],_,by rw[Td O U h1 (λq=>V (.inr q)),alT],by simp⟩
end
section
variable {d:ah}{s1:List W2×WM×UM×Int}{items:List (List SV)}
theorem Dz:∀ (n k:Nat) (u:UM) (F:List W2) (w:WM),∃ U T w',aj (aY d s1) n k (u,F,w)=.inr (U,F++T,w')/\∀ f∈T,f.kind=7
 |0,k,u,F,w=>⟨u,[],w,by rw[alT];rfl,by simp⟩
 |n+1,k,u,F,w=>by
  obtain⟨O,E,w1,X,h1⟩:=WS (d:=d) (s1:=s1) (k:=k) (u:=u) (F:=F) (w:=w);obtain⟨W,T2,V,Y,h2⟩:=Dz n (k+1) O (F++E) w1;grind [aj]
variable {F:List W2}
theorem DA{f:W2}(h:(F++[f]).map iH<+:items):items[F.length]? =some (iH f):=by
 obtain⟨t,rfl⟩:=h;simp
theorem aad{k:Nat}{u:UM}{w:WM}(h:∀ f,(∃ W w',aY d s1 k (u,F,w)=.inr (W,F++[f],w'))->items[F.length]? =some (iH f)):gF d items s1 k (u,F,w):=by
 intro U V;simp only at U V;refine⟨λE=>⟨Rc _ _,λO=>h _ ?_⟩,λE O=>h _ ?_⟩;unfold aY;simp only at E O;simp only[U,V,E,O,cond_false,cond_true];grind
 unfold aY;simp only at E O;simp only[U,V,E,O,cond_false,cond_true];simp_all
theorem WT:∀ (n k:Nat) (u:UM) (F:List W2) (w:WM),(∀ O U E,aj (aY d s1) n k (u,F,w)=.inr (O,U,E)->U.map iH<+:items)->okI (aY d s1) (gF d items s1) n k (u,F,w)
 |0,_,_,_,_,_=>trivial
 |n+1,k,u,F,w,h=>by
  refine⟨aad λf ⟨V,w',e⟩ =>?_,λs' e=>?_⟩;obtain⟨O,X,E,W,_⟩:=Dz (d:=d) (s1:=s1) n (k+1) V (F++[f]) w';have:=h O (F++[f]++X) E (by grind [aj]);refine DA (anu ?_ this);grind
  obtain⟨V,F',w'⟩:=s';exact WT n (k+1) V F' w' λO U E W=>h O U E (by grind [aj])
end
section
variable {d:ah}{items:List (List SV)}
variable {F:List W2}{w:WM}
theorem WU{j:Nat}{u:UM}{i:Int}(h:i<0):da d j (F,w,u,i)=.inl F:=by
 simp_all [da,decide_eq_false]
theorem abj{j:Nat}{F':List W2}{w':WM}{u E:UM}{i:Int}(O:0<=i)(h1:i<=1000000)(e:aj (aY d (F,w,u,i)) (Int.toNat d.hours) 0 (u,F,w)=.inr (E,F',w')):
  da d j (F,w,u,i)=.inr (F',w',E,i - 1):=by
 unfold da;simp only;rw[decide_eq_true (by omega),cond_true,e];grind [az]
theorem KK:∀ (m n j:Nat) (F:List W2) (w:WM) (u:UM),m<n->m<=1000000->∃ T,aj (da d) n j (F,w,u,(m:Int) - 1)=.inl (F++T)/\∀ f∈T,f.kind=7
 |0,n+1,j,F,w,u,_,_=>⟨[],by grind [aj,WU],by simp⟩
 |m+1,n+1,j,F,w,u,h,hm=>by
  obtain⟨O,E,w1,W,h1⟩:=Dz (d:=d) (s1:=(F,w,u,((m+1:Nat):Int) - 1)) (Int.toNat d.hours) 0 u F w;obtain⟨U,X,h2⟩:=KK m n (j+1) (F++E) w1 O (by omega) (by omega);refine⟨E++U,?_,λf V=>(al7.1 V).elim (h1 f) (h2 f)⟩;simp only[aj];grind [abj]
theorem Rk (X:d.hours<=4096):∀ (m n j:Nat) (F:List W2) (w:WM) (u:UM),m<n->m<=1000000->m<=d.reaches.length->(∀ x,aj (da d) n j (F,w,u,(m:Int) - 1)=.inl x->x.map iH<+:items)->
  okI (da d) (i9 d items) n j (F,w,u,(m:Int) - 1)
 |0,n+1,j,F,w,u,_,_,_,h=>by
  refine⟨λq=>?_,λs' e=>?_⟩;grind
  grind [WU]
 |m+1,n+1,j,F,w,u,hmn,hm,hR,h=>by
  obtain⟨V,U,w1,W,h1⟩:=Dz (d:=d) (s1:=(F,w,u,((m+1:Nat):Int) - 1)) (Int.toNat d.hours) 0 u F w;have O:=abj (j:=j) (d:=d) (by omega) (by omega) W;rw[show((m+1:Nat):Int) - 1 - 1=(m:Int) - 1 by omega]at O;refine⟨λq=>⟨by grind,by omega,WT _ _ _ _ _ λu2 F2 w2 E=>?_⟩,λs' e=>?_⟩;simp only at E;rw[W]at E;simp only[amd,am2]at E;obtain⟨rfl,rfl,rfl⟩:=E;obtain⟨T2,Y,_⟩:=KK (d:=d) m n (j+1) (F++U) w1 V (by omega) (by omega);have:=h _ (by simp only[aj];rw[O];exact Y);refine anu ?_ this;grind
  rw[O]at e;simp only[amd]at e;subst e;exact Rk X m n (j+1) (F++U) w1 V (by omega) (by omega) (by omega) λx hx=>h x (by grind [aj])
end
def Eqv (w:WM)(m:Mp):Prop:= ∀ a b,ax .bn .int w (sl a b)=ax .aoQ .int m (a,b)
theorem WV {a b x y:Int}:(sl x y=sl a b)=((x,y)=(a,b)):=by
 grind [sl]
theorem Eqv.put {w:WM}{m:Mp}(h:Eqv w m)(a b v:Int):Eqv (dD .bn .int w (sl a b) v) (dD .aoQ .int m (a,b) v):=λx y=>by
 rw[oc,oc,h];simp_all [WV]
section
variable {d:ah}{out:List Order}
theorem abk:∀ (n k:Nat) (w:WM) (m O:Mp),Eqv w m->aj (bR d out) n k m=.inr O->∃ w',aj (gu out d) n k w=.inr w'/\Eqv w' O
 |0,k,w,m,O,h,e=>by
  grind [aj]
 |n+1,k,w,m,O,h,e=>by
  simp only[aj]at e |-;cases E:bR d out k m with
  |inl x=>grind
  |inr m1=>
   rw[E]at e;simp only at e;refine abk n (k+1) _ m1 O ?_ e;unfold bR at E;cases U:(out.getD k (default:Order)).X2 with
   |false=>grind
   |true=>
    rw[U]at E;simp only[alN,cond_false,amd]at E;subst E;have h1:=h (d.u0.getD (Int.toNat ((out.getD k (default:Order)).index)) (default:apQ)).reach (out.getD k (default:Order)).hour;have:=h.put (d.u0.getD (Int.toNat ((out.getD k (default:Order)).index)) (default:apQ)).reach (out.getD k (default:Order)).hour (i64.wrap ((ax .aoQ .int m ((d.u0.getD (Int.toNat ((out.getD k (default:Order)).index)) (default:apQ)).reach,(out.getD k (default:Order)).hour))+(out.getD k (default:Order)).dd));rw[<-h1]at this |-;exact this
theorem Pg (O:apd d)(U:apa d out)(E:∀ x∈out,x.X2=true):∃ w0,aj (gu out d) out.length 0 []=.inr w0/\(∃ m,aj (bR d out) out.length 0 []=.inr m/\Eqv w0 m)/\
  aj (da d) (d.reaches.length+1) 0 ([],w0,[],i64.wrap ((d.reaches.length:Int) - 1))=.inl (fo out d)/\∀ f∈fo out d,f.kind=7:=by
 obtain⟨m,V⟩:=(BR O U).2.2 E;obtain⟨w0,Y,X⟩:=abk out.length 0 [] [] m (λ_ _=>rfl) V;have hR:=O.reaches;obtain⟨T,W,h1⟩:=KK (d:=d) d.reaches.length (d.reaches.length+1) 0 [] w0 [] (by omega) (by omega);have hw:i64.wrap ((d.reaches.length:Int) - 1)=(d.reaches.length:Int) - 1:=az (by omega) (by omega);grind [fo]
theorem adO (U:apd d)(W:apa d out)(E:∀ x∈out,x.X2=true):iZ out d ((fo out d).map iH):=by
 obtain⟨w0,e0,_,e1,_⟩:=Pg U W E;intro _;have hR:=U.reaches;have X:=U.hours;refine⟨?_,λly O _=>?_⟩;have V:∀ j s,0<=j->j<0+out.length->i7 out d j s:=λj s _ hj=>by
  have h1:=W.one j (by omega);have h2:(out.getD j (default:Order)).X2=true:=E _ (BO _ _ (by omega));exact⟨h1.aqx,h1.ee h2⟩
 exact kh (λ_ _=>True) _ _ _ trivial λj s h1 h2 _=>⟨V j s h1 h2,λ_ _=>trivial⟩;rw[e0]at O;simp only[amd]at O;subst O;have hw:i64.wrap ((d.reaches.length:Int) - 1)=(d.reaches.length:Int) - 1:=az (by omega) (by omega);refine⟨?_,λz hz=>?_,λx Y=>?_⟩;rw[hw]at e1 |-;exact Rk X _ _ _ _ _ _ (by omega) (by omega) (alw _) λx Y=>by
  grind
 grind
 grind
end
end Go.Sx
end
