/- Part of the proof of the law RefuseHoldsSpec (the Upto form). -/
import Derived.Test.YtaikmgjfkejlkaaGreatT113
set_option linter.all false
set_option maxHeartbeats 4000000
set_option maxRecDepth 100000
section
namespace Go.Sx
open Go.Proofs Tryz
open IntKind (i64)
def O0 {α:Type}{step:Nat->List α->Empty⊕List α}(f:Nat->List α)(h:∀ k s,step k s=.inr (s++f k)):∀ n i s,aj step n i s=.inr (s++(List.range' i n).flatMap f)
 |0,i,s=>by simp[aj]
 |n+1,i,s=>by
  rw[aj,h];dsimp only;rw[O0 f h n (i+1),arJ,aqx,aqY]
def aba {α:Type}{step:Nat->List α->Empty⊕List α}{p:Nat->List α->Prop}(f:Nat->List α)(h:∀ k s,step k s=.inr (s++f k)):∀ n i s,(∀ j,j<n->p (i+j) (s++(List.range' i j).flatMap f))->okI step p n i s
 |0,_,_,_=>trivial
 |n+1,i,s,hp=>by
  refine⟨by simpa using hp 0 XM,λs' e=>?_⟩;refine aba f h n (i+1) _ λj E=>?_;grind [List.range'_succ]
def DB (l:List Int):List (List Int):=(List.range' 0 (l.length+1)).flatMap λn=>chz n [] l
variable {l:List Int}
def O1(h:l.length<=900):eP l=DB l:=by
 unfold eP;rw[ar XM XM,O0 (step:=kZ l) (λn=>chz n [] l) λ_ _=>rfl];rfl
def ahU(h:l.length<=900):mc l ((eP l).map aa6):=by
 intro _;rw[O1 h,ar XM XM];refine⟨XM,aba (λn=>chz n [] l) (λ_ _=>rfl) _ _ _ λj O=>?_,λs E=>?_⟩;rw[aqs,aqu];refine⟨XN,XN,λi y hy=>?_⟩;have e:DB l=(List.range' 0 j).flatMap (λn=>chz n [] l)++(chz j [] l++(List.range' (j+1) (l.length - j)).flatMap λn=>chz n [] l):=by
  unfold DB;rw[show l.length+1=j+(l.length - j+1) by omega,<-List.range'_append_1,as5,arJ,aqx,aqu]
 rw[are,e,arV XN];simp only[asN];rw[asz (aqe.1 hy).1,hy];rfl;rw[O0 (step:=kZ l) (λn=>chz n [] l) λ_ _=>rfl]at E;cases E;rw[aq5];rfl
theorem O2:∀ (n:Nat) (s l:List Int) (z:List Int),z∈chz n s l->z.length=s.length+n
 |0,s,l,z,h=>by grind [Dv]
 |n+1,s,[],z,h=>by simp[chz]at h
 |n+1,s,x::l,z,h=>by
  simp only[chz]at h;split at h
  cases h;rw[aqz]at h;rcases h with h|h;rw[O2 n _ _ _ h];simp;omega;exact O2 (n+1) _ _ _ h
def Xl{z:List Int}(h:z∈DB l):z.length<=l.length:=by
 grind [DB,O2,List.length_nil]
def rQ (l:List S1):List (Int×S1):=(List.range l.length).map λk=>(((l.length - 1 - k:Nat):Int),l.getD (l.length - 1 - k) default)
def RU {l:List S1}(h:l.length<=aD):∀ m k,m+k=l.length+1->okI (aP l) (b8 l ((rQ l).map yE)) m k ((rQ l).take k,(l.length:Int) - 1 - k)/\aj (aP l) m k ((rQ l).take k,(l.length:Int) - 1 - k)=.inl (rQ l)\/l.length<k
 |0,k,hk=>.inr XM
 |m+1,k,hk=>by
  have hB:(rQ l).length=l.length:=by unfold rQ;simp
  by_cases hn:k<l.length
  unfold aD at h;have Y:decide (((l.length:Int) - 1 - k)>=0)=true:=by simp;omega
  have X:((l.length:Int) - 1 - k).toNat=l.length - 1 - k:=XM
  have V:(rQ l)[k]? =some ((l.length:Int) - 1 - k,l.getD (l.length - 1 - k) default):=by
   grind [rQ]
  have W:(rQ l).take (k+1)=(rQ l).take k++[((l.length:Int) - 1 - k,l.getD (l.length - 1 - k) default)]:=by
   rw[List.take_add_one,V];rfl
  have e5:i64.wrap ((l.length:Int) - 1 - k - 1)=(l.length:Int) - 1 - ((k+1:Nat):Int):=by
   grind [ar]
  have E:aP l k ((rQ l).take k,(l.length:Int) - 1 - k)=.inr ((rQ l).take (k+1),(l.length:Int) - 1 - ((k+1:Nat):Int)):=by
   simp_all [aP]
  rcases RU h m (k+1) (XM)with⟨h1,h2⟩ |hx;refine .inl ⟨⟨?_,λs' e=>?_⟩,?_⟩;grind [b8]
  grind
  grind [aj]
  omega;by_cases O:k=l.length
  subst O;have E:aP l l.length ((rQ l).take l.length,(l.length:Int) - 1 - (l.length:Int))=.inl (rQ l):=by
   unfold aP;grind
  refine .inl ⟨⟨λq=>?_,λs' e=>?_⟩,?_⟩;grind
  grind
  rw[aj,E];omega
variable {l:List S1}
def adJ(h:l.length<=4611686):aK l=rQ l/\ct l ((aK l).map yE):=by
 have key:=RU (l:=l) (by unfold aD;omega) (l.length+1) 0 rfl;rcases key with⟨h1,h2⟩ |hx;have e:aK l=rQ l:=by
  grind [aK,ar]
 refine⟨e,λ_=>?_⟩;grind [ar]
 omega
def plI (R:Nat)(a b:Int)(B:Nat)(l:List S1):Prop:=l.Pairwise plt/\(∀ x∈l,(a<x.reach\/x.reach=a/\x.hour<b)/\0<=x.reach/\x.reach< (R:Int))/\l.length<=B
def adK{R:Nat}{a b:Int}{B:Nat}{x:S1}(h:plI R a b B l)(h1:x.reach=a)(h2:x.hour=b)(E:0<=a)(V:a< (R:Int)):plI R a (b+1) (B+1) (l++[x]):=by
 have⟨p,q,n⟩:=h;refine⟨aqr.2 ⟨p,by simp,λy hy z O=>?_⟩,λy hy=>?_,XN⟩;grind [plt,qw]
 grind
def abb{R:Nat}{a b:Int}{B:Nat}(h:plI R a b B l){E:Int}{B':Nat}(W:b<=E)(V:B<=B'):plI R a E B' l:=
 ⟨h.1,λx O=>by have:=h.2.1 x O;omega,aqp h.2.2 V⟩
theorem T9 {s:M1}{t:List S1×List ((Int×Int)×Int)×List ((Int×Int)×Bool)×Int}{k:Nat}{u v:List S1×List ((Int×Int)×Int)×List ((Int×Int)×Bool)}(h:dR s t k u=.inr v):v.1=u.1\/∃ x:S1,v.1=u.1++[x]/\x.reach=t.2.2.2/\x.hour=i64.wrap ((k:Int) - (s.d.reaches.getD t.2.2.2.toNat default).delay):=by
 grind [dR]
theorem abc {s:M1}(hr:atq s.d)(hw:(s.d.reaches.length:Int)*s.d.hours<=1024)(hf:∀ x∈s.c,0<=x.gl/\x.gl< (s.d.zs.length:Int)):iK s/\plI s.d.reaches.length (-1) 0 1024 (dW s):=by
 have h64:=hr.reaches;have hH:=hr.hours;have hm:s.d.reaches.length*s.d.hours.toNat<=1024:=by
  grind
 have key:=A3 (step:=fT s) (p:=fl s) (λt:List S1×List ((Int×Int)×Int)×List ((Int×Int)×Bool)×Int=>(t.2.2.2+1).toNat) (λt=>∃ i:Nat,t.2.2.2=(i:Int) - 1/\i<=s.d.reaches.length/\plI s.d.reaches.length t.2.2.2 (s.d.hours+1) ((s.d.reaches.length - i)*s.d.hours.toNat) t.1/\∀ x∈t.1,t.2.2.2<x.reach) (plI s.d.reaches.length (-1) 0 1024) (λk t ⟨i,hi,hin,O,hl⟩ =>?_) (s.d.reaches.length+1) 0 ([],bB s,[],i64.wrap ((s.d.reaches.length:Int) - 1)) ⟨s.d.reaches.length,by grind [ar],aqb _,⟨List.Pairwise.nil,λx E=>(by cases E),aqq _⟩,λx E=>(by cases E)⟩ (by grind [ar]);have⟨k1,r,k2,k3⟩:=key;refine⟨⟨RS hf,λ_=>⟨k1,λz hz=>XN⟩⟩,?_⟩;grind [dW]
 unfold fl fT;rw[hi];cases i with
 |zero=>
  refine⟨λh=>by simp at h,.inl ⟨t.1,rfl,?_⟩⟩;refine⟨O.1,λx E=>?_,aqp O.2.2 XM⟩;have:=O.2.1 x E;omega
 |succ i=>
  have e0:decide ((((i+1:Nat):Int) - 1)>=0)=true:=decide_eq_true XM;have hd:=(IA _ _).1 (hr.reach i XM);have hJ:∀ (j:Nat) (u:List S1×List ((Int×Int)×Int)×List ((Int×Int)×Bool)),0<=j->j<0+s.d.hours.toNat->plI s.d.reaches.length (i:Int) ((j:Int) - (s.d.reaches.getD i default).delay) ((s.d.reaches.length - (i+1))*s.d.hours.toNat+j) u.1->gF s t j u/\∀ v,dR s t j u=.inr v->plI s.d.reaches.length (i:Int) (((j+1:Nat):Int) - (s.d.reaches.getD i default).delay) ((s.d.reaches.length - (i+1))*s.d.hours.toNat+(j+1)) v.1:=λj u _ hj h=>by
   have hlen:(s.d.reaches.length - (i+1))*s.d.hours.toNat+(j+1)<=1024:=by
    have:(s.d.reaches.length - (i+1)+1)*s.d.hours.toNat<=s.d.reaches.length*s.d.hours.toNat:=aqm _ XM;grind
   refine⟨λ_ _=>⟨OJ _ _,λ_=>?_⟩,λv V=>?_⟩;have:=h.2.2;grind [dh]
   rcases T9 V with e| ⟨x,e,X,W⟩;rw[e];exact abb h XM XM;rw[e];rw[hi]at X W;rw[show(((i+1:Nat):Int) - 1)=(i:Int) by omega]at X W;rw[aqa,ar XM XM]at W;rw[show(((j+1:Nat):Int) - (s.d.reaches.getD i default).delay)=((j:Int) - (s.d.reaches.getD i default).delay)+1 by omega];exact adK h X W XM XM
  have Y:plI s.d.reaches.length (i:Int) (((0:Nat):Int) - (s.d.reaches.getD i default).delay) ((s.d.reaches.length - (i+1))*s.d.hours.toNat+0) t.1:=⟨O.1,λx E=>by
   have:=hl x E;have:=(O.2.1 x E).2;omega,O.2.2⟩
  refine⟨λ_=>⟨XM,XM,gq (λj u=>plI s.d.reaches.length (i:Int) ((j:Int) - (s.d.reaches.getD i default).delay) ((s.d.reaches.length - (i+1))*s.d.hours.toNat+j) u.1) _ _ (t.1,t.2.1,t.2.2.1) Y hJ⟩,.inr ?_⟩;rw[e0];cases q:aj (dR s t) s.d.hours.toNat 0 (t.1,t.2.1,t.2.2.1)with
  |inl x=>exact x.elim
  |inr v=>
   have V:=vt (λj (u:List S1×List ((Int×Int)×Int)×List ((Int×Int)×Bool)) =>plI s.d.reaches.length (i:Int) ((j:Int) - (s.d.reaches.getD i default).delay) ((s.d.reaches.length - (i+1))*s.d.hours.toNat+j) u.1) _ _ _ Y (λj u a b c=>(hJ j u a b c).2) v q;have ew:i64.wrap (((i+1:Nat):Int) - 1 - 1)=(i:Int) - 1:=by grind [ar]
   simp only[ew];refine⟨_,rfl,XN,i,rfl,XM,⟨V.1,λx E=>?_,?_⟩,λx E=>?_⟩;have:=V.2.1 x E;grind;refine aqp V.2.2 (Nat.le_of_eq ?_);rw[show s.d.reaches.length - i=s.d.reaches.length - (i+1)+1 by omega,asB];omega;have:=V.2.1 x E;grind
def Xm (l:List S1):(rQ l).map (·.2)=l.reverse:=by
 unfold rQ;refine asL (by simp) λk h1 h2=>?_;grind
def blJ (R:Nat)(L:List (Int×S1))(t:List ((Int×Int)×Bool)×List S1):Prop:=(t.2++L.map (·.2)).Pairwise (λx y=>plt y x)/\(∀ y∈t.2++L.map (·.2),0<=y.reach/\y.reach< (R:Int))/\(t.2++L.map (·.2)).length<=1024
def T_{s:M1}{f:G2}(h:plI s.d.reaches.length (-1) 0 1024 l):jk s l f:=by
 have⟨b1,b2⟩:=adJ (l:=l) (by have:=h.2.2;omega);have V:blJ s.d.reaches.length (aK l) ([],[]):=by
  unfold blJ;rw[b1,aqs,Xm];exact⟨asW.2 h.1,λx E=>(h.2.1 x (List.mem_reverse.1 E)).2,by rw[List.length_reverse];exact h.2.2⟩
 have O:∀ x L t,blJ s.d.reaches.length (x::L) t->fC s l f x t/\∀ t',dD s l f x t=.inr t'->blJ s.d.reaches.length L t':=λx L t ⟨Y,W,g3⟩ =>by
  have E:=W x.2 (by simp);refine⟨⟨λ_=>⟨λ_ _=>E,λ_ _=>E⟩,λ_=>E,λ_=>⟨E,by grind [dh]⟩⟩,λt' e=>?_⟩;grind [dD,blJ]
 refine⟨b2,OL _ O _ _ V,λt X=>?_⟩;have:=((Ju _ (λx L t h=>(O x L t h).2) _ _ V).1 t X).1;rw[aq4,aqo]at this;exact(I2 JO (List.reverse_perm _).symm ((asW.2 this).imp λh=>(MM _ _).2 h)).1
theorem Ua (a b:Claim):ke a b=decide (c8 a b<0):=by
 rw[arj,decide_eq_true_eq,C9];unfold ke;simp[uH,qw];grind
def ae9 {α:Type}(P:α->Bool)(d:α):∀ (l:List α) (n:Nat),n<=l.length->(∀ i,i<n->P (l.getD i d)=true)->(n<l.length->P (l.getD n d)=false)->l.takeWhile P=l.take n/\l.dropWhile P=l.drop n
 | [],n,h,_,_=>by simp
 |x::l,0,_,_,h2=>by
  simp_all
 |x::l,n+1,h,h1,h2=>by
  have:=h1 0 XM;rw[aqc]at h h2;have⟨a,b⟩:=ae9 P d l n XM (λi hi=>XN) (λhn=>XN);simp_all
def abd (l:List Claim)(x:Claim)(Y:l.length<=153600):wD l x/\sp l x=yw l x:=by
 have⟨a,r,b,⟨c1,c2⟩,c3,c4⟩:=A3 (step:=qZ l x) (p:=q_ l x) (λs=>l.length - s.toNat) (λs=>(0<=s/\s<=(l.length:Int))/\∀ i:Nat,(i:Int) <s->decide (c8 (l.getD i default) x<0)=true)
  (λr=>(0<=r/\r<=(l.length:Int))/\(∀ i:Nat,(i:Int) <r->decide (c8 (l.getD i default) x<0)=true)/\(r< (l.length:Int)->decide (c8 (l.getD r.toNat default) x<0)=false)) (λk s E=>by
   have⟨⟨h0,h1⟩,h2⟩:=E;refine⟨λ_ h=>⟨h0,of_decide_eq_true h⟩,?_⟩;unfold qZ;rw[Ua];by_cases O:s< (l.length:Int)
   rw[decide_eq_true O];cases W:decide (c8 (l.getD s.toNat default) x<0)with
   |true=>
    refine .inr ⟨_,rfl,?_⟩;grind [ar]
   |false=>grind
   grind) 200000 0 0 ⟨⟨aqO _,XM⟩,λi hi=>XM⟩ XM
 have⟨t1,t2⟩:=ae9 (λy=>decide (c8 y x<0)) default l r.toNat XM (λi hi=>c3 i XM) (λhn=>c4 XM);have X:l.take (Int.toNat (l.length:Int))=l:=XN
 refine⟨⟨a,(λz V=>XN),λy hy=>?_⟩,?_⟩;rw[b]at hy;cases hy;grind [dh]
 grind [sp,yw]
def abe (l:List Claim)(x:Claim):(yw l x).length=l.length+1:=by rw[(Mz l x).length_eq,aqc]
theorem RV:∀ (r s:List Claim),(r.foldl yw s).length=s.length+r.length
 | [],s=>by simp
 |x::r,s=>by rw[List.foldl_cons,RV r,abe,aqc];omega
variable {d:ai}{h:Int}
theorem adL{x:atN}(O:avl d x)(V:x.kind=1)(E:0<=h)(h1:h<4096):sn x h=aat x h:=by
 have:=Ew O E h1;unfold sn;grind
def JQ (d:ai)(l:List bo)(h k:Int):uG d l h k/\gZ d l h k=vP d l h k:=by
 have V:=awo d l h k;have X:=(@aav d l h k).2;have hstep:∀ j s,j< (aJ d l h k).1.length->mv d l h k j s=(.inr (match opn d h ((aJ d l h k).1.getD j default)with|some c=>sp s c|none=>s):Empty⊕List Claim):=λj s O=>by
  have⟨⟨⟨a,b⟩,c,e⟩,ht,hk⟩:=GQ O;grind [mv,adL,opn]
 have Y:∀ j,((((aJ d l h k).1.take j).filterMap (opn d h)).foldl yw []).length<=153600:=λj=>by
  grind [RV]
 have E:∀ j s,j< (aJ d l h k).1.length->s=(((aJ d l h k).1.take j).filterMap (opn d h)).foldl yw []->(match opn d h ((aJ d l h k).1.getD j default)with|some c=>sp s c|none=>s)=(((aJ d l h k).1.take (j+1)).filterMap (opn d h)).foldl yw []:=λj s O W=>by
  rw[cj _ default O,asi,List.foldl_append];cases hc:opn d h ((aJ d l h k).1.getD j default)with
  |none=>grind
  |some c=>
   simp_all [abd]
 refine⟨⟨V.1,?_⟩,?_⟩;rw[V.2];refine gq (λj s=>s=(((aJ d l h k).1.take j).filterMap (opn d h)).foldl yw []) _ _ _ rfl λj s _ O W=>?_;have O:j< (aJ d l h k).1.length:=XM
 have⟨⟨⟨a,b⟩,c,e⟩,ht,hk⟩:=GQ O;refine⟨?_,λs' e=>?_⟩;intro _;rw[V.2];exact⟨⟨a,b⟩,λ_=>by have:=ht.every;omega,λ_=>(abd s _ XN).1⟩;grind
 have⟨r,h1,h2⟩:=i_ (step:=mv d l h k) (λj s=>s=(((aJ d l h k).1.take j).filterMap (opn d h)).foldl yw []) (aJ d l h k).1.length 0 [] rfl (λj s _ O W=>⟨_,hstep j s XM,E j s XM W⟩);unfold gZ;rw[V.2,h1];rw[h2,aqu,ary];rfl
theorem abf{f:Int}(X:aB d=0)(E:0<=f)(h1:f< (d.zs.length:Int)):mK d f h/\jT d f h=OH d f h:=by
 have⟨p1,p2⟩:=ahC (MA X E h1);refine⟨⟨⟨E,h1⟩,p1⟩,?_⟩;have key:∀ (L:List Int) (i:Nat) (step:Nat->Unit->Int⊕Unit),(∀ k,k<L.length->step (i+k) ()=bif(RB d f h (L.getD k 0))then .inl (L.getD k 0)else .inr ())->(match aj step L.length i ()with| .inl x=>x| .inr _=>(-1))=(L.find? (RB d f h)).getD (-1):=by
  intro L;induction L with
  |nil=>intro i step _;rfl
  |cons x L V=>
   intro i step O;have E:=O 0 (by simp);rw[aqc,aj];simp[arv]at E;rw[E,List.find?_cons];cases RB d f h x with
   |true=>rfl
   |false=>
    exact V (i+1) step λk W=>by
     have:=O (k+1) XN;grind
 unfold jT OH Vw;rw[p2];exact key _ 0 _ λk W=>by
  unfold pG;rw[p2,aqu];rfl
theorem adM (d:ai)(l:List bo)(fr to k:Int):sX d l fr to k/\qq d l fr to k=zl d l fr to k:=by
 refine⟨AG d l,?_⟩;unfold qq zl;rw[Vr,aay];by_cases hc:bj d l=0
 by_cases E:vQ d fr to k
 rw[aaz (vH hc).right E];grind
 grind
 grind
variable {l:List bo}{k:Int}
def AQ{fr to:Int}(h:zl d l fr to k=0):bj d l=0/\vQ d fr to k/\¬4096< (to - fr+1)*(d.bl.length:Int):=by
 grind [zl]
def MO (d:ai)(l:List bo)(h k:Int):(vP d l h k).length<=600*d.bl.length:=by rw[(BV d l h k).length_eq];exact(My d l h k).1
def Xn{β:Type}{fr to:Int}{G:Int->List β}(O:zl d l fr to k=0)(hG:∀ h,(G h).length<=(vP d l h k).length)(h1:fr<=h)(h2:h<=to):((hrs fr (h - 1)).flatMap G).length+(vP d l h k).length<=2457600:=by
 have⟨_,ha,hb⟩:=AQ O;have E:=xH G (600*d.bl.length) (hrs fr (h - 1)) λa _=>aqp (hG a) (MO d l a k);rw[Vp]at E;have V:=MO d l h k;refine adA ha hb (aqp (m:=(h - 1+1 - fr).toNat*(600*d.bl.length)+600*d.bl.length) XM ?_);rw[<-asO];exact aqm _ XM
theorem adN (d:ai)(l:List bo)(fr to k:Int):vL d l fr to k/\kU d l fr to k=lim (zl d l fr to k) (ofL d l k fr to):=by
 have⟨c1,c2⟩:=adM d l fr to k;by_cases X:zl d l fr to k=0
 have⟨hc,ha,hb⟩:=AQ X;have hR:=(vH hc).right;have W:∀ (h:Int) (s0:List Claim×Int),s0.2=h->∀ j s,j< (vP d l h k).length->tW d l k s0 j s=.inr (s++((λc:Claim=>if OH d c.gl h<0 then some c else none) ((vP d l h k).getD j default)).toList):=λh s0 Y j s hj=>by
  have O:=Da (Jf _ default hj);unfold tW;rw[Y,(JQ d l h k).2,(abf O.exp O.f0 O.f1).2];grind
 have V:=Vv (step:=nH d l to k) (p:=sY d l to k) fr to (ofH d l k) ha.1.1 (by have:=ha.1.2.2;have:=hR.hours;omega) (by have:=ha.1.2.1;omega)
  (λj s h h1 h2=>by
   unfold nH;rw[decide_eq_true h2,(JQ d l h k).2];rw[Je (vP d l h k) default (λc:Claim=>if OH d c.gl h<0 then some c else none) s (W h (s,h) rfl)];rfl)
  (λj s h h1=>by grind [nH])
  (λj h h1 h2=>by
   intro E;have E:h<=to:=of_decide_eq_true E;rw[(JQ d l h k).2];refine⟨(JQ d l h k).1,?_⟩;refine OF (vP d l h k) default (λc:Claim=>if OH d c.gl h<0 then some c else none) _ (W h (_,h) rfl) λi hi=>?_;intro _;rw[(JQ d l h k).2];have O:=Da (Jf _ default hi);refine⟨(abf O.exp O.f0 O.f1).1,λ_=>?_⟩;have h3:=Xn (G:=ofH d l k) X (λh=>by grind [ofH]) h1 E;grind [dh])
 have⟨r1,r2⟩:=V;rw[<-ahK]at r2;refine⟨⟨c1,λ_=>⟨r1,λz hz=>XN⟩⟩,?_⟩;unfold kU lim;grind
 refine⟨⟨c1,λh=>XN⟩,?_⟩;unfold kU lim;grind
def abg (d:ai)(l:List bo)(k a b:Int):List Y1:=(hrs a b).flatMap λh=>(((tX d (ln d l h k)).filterMap (opn d h)).foldl yw []).map (fnd d h)
def abh{fr to:Int}(h:zl d l fr to k=0):wR d l k fr to=abg d l k fr to:=by
 have⟨hc,⟨⟨a,b,c⟩,e,f⟩,_⟩:=AQ h;have:∀ L:List Int,(∀ x∈L,fr<=x/\x<=to)->(L.flatMap λh=>(vP d l h k).map (fnd d h))=L.flatMap λh=>(((tX d (ln d l h k)).filterMap (opn d h)).foldl yw []).map (fnd d h):=λL=>by
  induction L with
  |nil=>intro _;rfl
  |cons x L V=>
   intro O;have E:=O x (by simp);rw[aqx,aqx,V λy hy=>O y (by simp[hy])];unfold vP nJ;rw[(Mw d l x k).2,if_neg (by simp[hc]),if_pos XM]
 exact this _ λx E=>adn.1 E
def VL{fr to:Int}{F:List Y1}(h:zl d l fr to k=0)(E:abg d l k fr to=F)(h1:decide (4096< (F.filterMap ofF).length)=false):aQ d l fr to k=(F.filterMap ofF,0):=by
 rw[(MB d l fr to k).2];unfold lim ofL;rw[abh h,E,if_pos h,if_neg (of_decide_eq_false h1)]
def AR (a:ai)(d:List Claim):Bool:=letI b:=(a.reaches.length:Int);letI c:=(a.zs.length:Int);(bif((((((((decide (b > 8))&&(decide (b<=64))) ||(decide (b > 100))) ||((decide (c > 8))&&(decide (c<=600)))) ||(decide (c > 700))) ||(decide ((a.bl.length:Int) > 300))) ||(decide ((a.aty.length:Int) > 300))) ||(decide ((a.atE.length:Int) > 100)))then false else(((decide (a.hours<=30)) ||(decide (a.hours > 1024)))&&(decide ((d.length:Int)<=60))))
@[go_sem] def RW:FI:=(pD .al λa=>(pR .B1 λb=>(pE (.det True (.v (.bool (AR a b)))))))
theorem O3:P0 prog 26 RW:=fN (mG Q1 Q1) f26 [.o] (ap λa0=>aZ λa1=>am λE=>Ko @AR.eq_1)
end Go.Sx
end
section
namespace Go.Sx
open Go.Lib Go.Proofs Go.Shelf Go.Sort
open IntKind (i64)
def yI {α:Type}{cf:α->α->Int}(V:SWO (ltOf cf)){l m:List α}(hp:m.Perm l)(W:m.Pairwise λx y=>ltOf cf x y=true):srt cf l=m:=by
 have h1:(srt cf l).Pairwise λx y=>(!(ltOf cf y x))=true:=by
  refine aq2 (λa b c h1 h2=>?_) (λa b=>?_) l;simp[aqA]at h1 h2 |-;exact V.ntrans _ _ _ h2 h1;cases q:ltOf cf b a with
  |false=>rfl
  |true=>
   cases E:ltOf cf a b with
   |false=>rfl|true=>have:=V.trans _ _ _ q E;rw[V.irrefl]at this;cases this
 have h2:m.Pairwise λx y=>(!(ltOf cf y x))=true:=W.imp λ{x y} q=>by
  cases E:ltOf cf y x with
  |false=>rfl|true=>have:=V.trans _ _ _ q E;rw[V.irrefl]at this;cases this
 have O:(srt cf l).Perm l:=arc _ _;refine aq0 (λa b X hb Y E=>?_) h1 h2 (O.trans hp.symm);have X:a∈m:=hp.mem_iff.2 (O.mem_iff.1 X);obtain⟨i,hi,rfl⟩:=aqw X;obtain⟨j,hj,rfl⟩:=aqw hb;rw[aqM]at W;rcases Nat.lt_trichotomy i j with q|q|q;have:=W i j hi hj q;rw[this]at E;cases E;subst q;rfl;have:=W j i hj hi q;rw[this]at Y;cases Y
def Ah {d:ai}{c:List Claim}{out l:List Order}{B:List G2}(h1:b9 d c=0)(h2:decide ((i64.wrap ((d.reaches.length:Int)*d.hours)) > 1024)=false)(X:aA c=out)
  (W:bb out=false) (O:aH d out=(l,true,0)) (V:dQ l d=B):
  b_ d c=match B with| [] =>(l,({ kind:=0,hour:=0,index:=0,bn:=0,limit:=0}:G2),0) |f::_=>([],f,0):=by
 have E:aO d c=(out,0):=by
  unfold aO;rw[h1,h2,X,W];rfl
 unfold b_;simp[E,O,V];cases B <;>rfl
abbrev e_ (h i n:Int)(o:Bool):Order:= { hour:=h,index:=i,bn:=n,S2:=o}
end Go.Sx
end
section
namespace Go.Sx
open Go.Proofs Tryz
def wH (a:Int):atN:=({ name:=(ByteArray.mk #[]),kind:=1,gl:=a,reach:=0,att:=0,bn:=6,since:=1,to:=3,every:=1,length:=1}:atN)
@[go_sem] def Lk:FI:=(pI λa=>(pE (.det True (.agg (cellsOf .right (wH a))))))
def JR:P0 prog 64 Lk:=fN (mG Q1 Q1) f64 [.st .right] (ax λgl=>am λE=>Ko @wH.eq_1)
def bS:ai:=({ name:=(ByteArray.mk #[]),hours:=4,atx:=({ cap:=99,start:=99}:auF),reaches:=[({ name:=(ByteArray.mk #[]),up:=(-1),delay:=1,cap:=10,at2:=50,atz:=0,at5:=({ lo:=0,hi:=0}:Range),atL:=(({ n:=0,d:=1}:W2),({ n:=0,d:=1}:W2))}:Reach)],zs:=[({ name:=(ByteArray.mk #[]),reach:=0,au4:=0,at9:=(-1)}:auy),({ name:=(ByteArray.mk #[]),reach:=0,au4:=0,at9:=(-1)}:auy)],atE:=[],bl:=[(wH 0),(wH 1)],aty:=[],auc:=[]}:ai)
@[go_sem] def Ll:FI:=(pE (.det True (.agg [.v (.string ((bS).name)),.i ((bS).hours),.i ((bS).atx.cap),.i ((bS).atx.start),.nw .reach ((bS).reaches),.nw .gl ((bS).zs),.v (.slice none 0 0),.nw .right ((bS).bl),.v (.slice none 0 0),.v (.slice none 0 0)])))
def JS:P0 prog 24 Ll:=by
 have hG:=mG (cp JR Q1) Q1;refine fE hG f24 (am (λE=>?_));dsimp only[an]at E;refine⟨nbl rfl,L0,ag _,?_⟩;exact Ce @bS.eq_1
def u4 (r:atp):Bool:=((decide ((r.bl.length:Int)<=60))&&(decide ((r.atf.length:Int)<=300)))
@[go_sem] def RX:FI:=(pD .refusal λr=>(pE (.det True (.v (.bool (u4 r))))))
def O4:P0 prog 14 RX:=fN (mG Q1 Q1) f14 [.o] (ap λr=>am λE=>Ko @u4.eq_1)
@[go_sem] def yJ (a:List Int)(n:Int)(b:Nat)(c:Unit):Unit⊕Unit:=(bif((a.getD b 0) ==n)then .inl ()else .inr ())
def jV (a:List Int)(n:Int):Bool:=(match aj (yJ a n) a.length 0 ()with| .inl b=>true| .inr c=>false)
@[go_sem] def RY:FI:=(pR .int λa=>(pI λn=>(pE (.det True (.v (.bool (jV a n)))))))
def yK:P0 prog 53 RY:=by
 have hG:=mG Q1 Q1;refine fN hG f53 [.o] (aZ λV=>(ax λn=>(am (λY=>?_))));dsimp only[an]at Y;refine⟨nbl rfl,(XO 0 (LCR (ρ:=Unit) (σ:=Unit) 0 [] [] (λE O=>⟨[(0,.rs .int V),(1,.i n),(5,.i E)],[]⟩) (yJ V n) pT V.length () (True) (λ_=>.ret) (λW=>⟨[(4,.v (.bool true))],[]⟩)) L0),?_,?_⟩;unfold aa f53;simp only[ak,true_and,and_true];refine bX (V.length<=aD) aC hG (λ_=>rfl) (V.length:Int) eE (λhb0 E O X _ hw hc=>⟨L0,ag _,aW (jl [])⟩) (λhb0 O hc=>aV (jl [])) λhb0 E O=>zq7;exact Ce @jV.eq_1
@[go_sem] def d_ (c:List Claim)(a d:Nat)(b:List Int):Empty⊕(List Int):=(bif(((c.getD d default).right==(a:Int))&&(!(jV b (a:Int))))then .inr (b++([(a:Int)]))else .inr b)
def mP (c:List Claim)(a d:Nat)(b:List Int):Prop:=(c.length<=aD->((((c.getD d default).right==(a:Int))&&(!(jV b (a:Int))))=true->((b++([(a:Int)])).length*8<=dh)))
@[go_sem] def iT (d:ai)(c:List Claim)(a:Nat)(b:List Int):Empty⊕(List Int):=(match aj (d_ c a) c.length 0 b with| .inl x=>x.elim| .inr e=>.inr e)
def ru (d:ai)(c:List Claim)(a:Nat)(b:List Int):Prop:=(d.bl.length<=aD->okI (d_ c a) (mP c a) c.length 0 b)
def gH (d:ai)(c:List Claim):List Int:=(match aj (iT d c) d.bl.length 0 ([])with| .inl x=>x.elim| .inr a=>a)
def jG (d:ai)(c:List Claim):Prop:=okI (iT d c) (ru d c) d.bl.length 0 ([])
@[go_sem] def JT:FI:=(pD .al λd=>(pR .B1 λc=>(pE (.det (jG d c) (.rs .int (gH d c))))))
def ui:P0 prog 28 JT:=by
 have hG:=mG (cn [.sl .int,.o] yK Q1) Q1;refine fN hG f28 [.sl .int] (ap λd=>(aZ λc=>(am (λhp=>?_))));dsimp only[an,jG]at hp;refine⟨nbl rfl,(XO 0 (LCR (ρ:=Empty) (σ:=(List Int)) 1 [.slot 5 (.row .int ([]))] [0,1] (λE O=>⟨[(1,.rs .B1 c),(2,.ptr 0 0),(5,.os 1),(6,.i E)],[.cells (cellsOf .al d),.row .int O]⟩) (iT d c) (ru d c) d.bl.length ([]) (True) ((·.elim)) ((·.elim))) L0),?_,?_⟩;unfold aa f28;simp only[ak,true_and,and_true];refine bX (d.bl.length<=aD) aC hG (λ_=>rfl) (d.bl.length:Int) eE (λhb0 E O aue X hw hc=>⟨(XO 2 (LCR (ρ:=Empty) (σ:=(List Int)) 2 [] [0,1,1] (λW V=>⟨[(1,.rs .B1 c),(2,.ptr 0 0),(5,.os 2),(6,.i E),(7,.i W)],[.cells (cellsOf .al d),.dead,.row .int V]⟩) (d_ c E) (mP c E) c.length O (True) ((·.elim)) ((·.elim))) L0),?_,?_⟩) (λhb0 O hc=>?_) λhb0 E O=>?_;simp only[ak,true_and,and_true];refine bX (c.length<=aD) aC hG (λ_=>rfl) (c.length:Int) eE (λhb1 W V Y hq1 hw hc=>⟨L0,ag _,?_⟩) (λhb1 V hc=>?_) λhb1 W V=>?_;simp only[mP,hw,aqa]at hq1
 exact lZ (jl [0,1,4]) (jl [0,1,2]);exact kP (jl [0,1,4]) (jl [0,1,2]);exact Ir;simp only[ru,hw,aqa]at X
 exact lZ (jl [0,2]) (jl [0,1]);exact kP (jl [0,2]) (jl [0,1]);exact zq7;exact Ce @gH.eq_1
def xM (d:ai)(b:List bo)(c e g:Int):Bool:=letI a:=kU d b c e g;letI f:=((gH d (a.1)).length:Int);(bif((!(AF d b c e)) ||(!(AR d ([]))))then false else(bif(a.2 !=0)then true else((decide (((a.1).length:Int)<=60))&&((decide (f<=6)) ||(decide (f > 10))))))
def wI (d:ai)(a:List bo)(b c e:Int):Prop:=(((!(AF d a b c)) ||(!(AR d ([]))))=false->((vL d a b c e)/\(((kU d a b c e).2 !=0)=false->(jG d ((kU d a b c e).1)))))
@[go_sem] def RZ:FI:=(pD .al λd=>(pR .C1 λa=>(pI λb=>(pI λc=>(pI λe=>(pE (.det (wI d a b c e) (.v (.bool (xM d a b c e))))))))))
def O5:P0 prog 10 RZ:=fN (mG (cn [.st .al,.sl .C1,.o,.o] Om (cn [.st .al,.sl .B1] O3 (cn [.st .al,.sl .C1,.o,.o,.o] Ft (cn [.st .al,.sl .B1] ui Q1)))) Q1) f10 [.o] (ap λd=>aZ λO=>ax λfr=>ax λto=>ax λknown=>am λE=>Pq @xM.eq_1 @wI.eq_1)
def iw:=({ bl:=[],kind:=0,reach:=0,hour:=0,atf:=[]}:atp)
def ix:=({ bl:=[2],kind:=0,reach:=0,hour:=0,atf:=[]}:atp)
def eo:=({ name:=bS.name,hours:=bS.hours,atx:=bS.atx,reaches:=bS.reaches,zs:=bS.zs,atE:=[],bl:=bS.bl,aty:=[],auc:=[]}:ai)
def iy:=(gG eo ([]) 2 3 0)
def dB:=(iy.1)
def jH:=(dB.bl)
def nS:=(dB.atf)
def gI:=(jH.length:Int)
def my:=(nS.length:Int)
def o4:=(jH.getD 1 (0:Int))
def mz:=(jH.getD 0 (0:Int))
def kw:=(nS.getD 0 (default:S1))
def kx:=(dO eo ([]) 2 3 0 iw)
def o5:=(dO eo ([]) 2 3 0 ix)
def o6:=(dO eo ([]) 3 2 0 dB)
def ky:=(dO eo ([]) 2 3 0 dB)
def o7:=({ name:=bS.name,hours:=bS.hours,atx:=bS.atx,reaches:=(bS.reaches.set 0 ({ name:=(bS.reaches.getD 0 (default:Reach)).name,up:=(bS.reaches.getD 0 (default:Reach)).up,delay:=(bS.reaches.getD 0 (default:Reach)).delay,cap:=12,at2:=(bS.reaches.getD 0 (default:Reach)).at2,atz:=(bS.reaches.getD 0 (default:Reach)).atz,at5:=(bS.reaches.getD 0 (default:Reach)).at5,atL:=(bS.reaches.getD 0 (default:Reach)).atL}:Reach)),zs:=bS.zs,atE:=[],bl:=bS.bl,aty:=[],auc:=[]}:ai)
def kz:=(gG o7 ([]) 2 3 0)
def sw:Bool:=(bif((((((((((iy.2.2 !=0) ||(ky.2 !=0)) ||(kx.2 !=0)) ||(o5.2 !=290)) ||(o6.2 !=1)) ||(kz.2.2 !=0)) ||(!iy.2.1)) ||(!ky.1)) ||kx.1) ||kz.2.1)then false else((((((((gI==2)&&(mz==0))&&(o4==1))&&(dB.kind==1))&&(dB.reach==0))&&(dB.hour==1))&&(my==1))&&((kw.reach==0)&&((kw.hour==1)&&((kw.bn==12)&&(kw.wanted==12))))))
def uJ:Prop:=((rt eo ([]) 2 3 0)/\((iv eo ([]) 2 3 0 dB)/\((iv eo ([]) 2 3 0 iw)/\((iv eo ([]) 2 3 0 ix)/\((iv eo ([]) 3 2 0 dB)/\((0<=0/\0< (bS.reaches.length:Int))/\((rt o7 ([]) 2 3 0)/\(((((((((((iy.2.2 !=0) ||(ky.2 !=0)) ||(kx.2 !=0)) ||(o5.2 !=290)) ||(o6.2 !=1)) ||(kz.2.2 !=0)) ||(!iy.2.1)) ||(!ky.1)) ||kx.1) ||kz.2.1)=false->(jH.length<=aD->(((gI==2)=true->(0<=0/\0<gI))/\((((gI==2)&&(mz==0))=true->(0<=1/\1<gI))/\((((((((gI==2)&&(mz==0))&&(o4==1))&&(dB.kind==1))&&(dB.reach==0))&&(dB.hour==1))&&(my==1))=true->(0<=0/\0<my)))))))))))))
@[go_sem] def O6:FI:=(pE (.det (uJ) (.v (.bool (sw)))))
def Lm:P0 prog 9 O6:=by
 have hG:=mG (cn [.st .al,.sl .C1,.o,.o,.o] Lj (cn [.st .al,.sl .C1,.o,.o,.o,.st .refusal] y6 (cp JS Q1))) Q1;refine fN hG f9 [.o] (am (λE=>?_));dsimp only[an,uJ]at E;try simp only[iw,ix,eo,iy,dB,jH,nS,gI,my,o4,mz,kw,kx,o5,o6,ky,o7,kz]at E
 refine⟨nbl rfl,L0,ag _,?_⟩
 ·unfold aa f9;try unfold sw
  simp (maxSteps:=1000000) only[go_sem,iw,ix,eo,iy,dB,jH,nS,gI,my,o4,mz,kw,kx,o5,o6,ky,o7,kz];all_goals exact cl
end Go.Sx
end
section
namespace Go.Sx
open Go.Proofs Go.Shelf Go.Sort
abbrev uK (f h:Int):Claim:= { right:=f,gl:=f,hour:=h,bn:=6,att:=0}
abbrev y7:List Claim:=[uK 0 2,uK 1 2,uK 0 3,uK 1 3]
abbrev F29:G2:= { kind:=0,hour:=0,index:=0,bn:=0,limit:=0}
abbrev D29:ai:=eo
abbrev E29:ai:=o7
def adO {l m:List Int}(O:m.Perm l)(E:m.Pairwise (· <= ·)):yc l=m:=by
 unfold yc;refine aq0 (le:=(· <= ·)) (λa b _ _=>Int.le_antisymm) ?_ E ((arc _ _).trans O.symm);have:=aq2 (le:=λx y:Int=>decide (x<=y)) (λa b c h1 h2=>XN) (λa b=>by simp;omega) l;grind
theorem awk:aQ D29 [] 2 3 0=(y7,0):=(VL (F:=[{ B1:=uK 0 2,reach:= -1},{ B1:=uK 1 2,reach:= -1},{ B1:=uK 0 3,reach:= -1},{ B1:=uK 1 3,reach:= -1}]) kr kr kr).trans kr
theorem amO:aQ E29 [] 2 3 0=(y7,0):=(VL (F:=[{ B1:=uK 0 2,reach:= -1},{ B1:=uK 1 2,reach:= -1},{ B1:=uK 0 3,reach:= -1},{ B1:=uK 1 3,reach:= -1}]) kr kr kr).trans kr
def ev0:b_ D29 []=([],F29,0):=by
 have E:aA []=srt av []:=by kernel_rfl
 rw[yI (m:=[]) lp (by decide) (by decide)]at E;have O:aH D29 []=(srt aM [],true,0):=by kernel_rfl
 rw[yI (m:=[]) yx (by decide) (by decide)]at O;exact Ah (B:=[]) kr kr E kr O kr
def ev1:b_ D29 [uK 0 2,uK 0 3]=([e_ 1 0 6 false,e_ 2 0 6 false,e_ 2 0 6 true,e_ 3 0 6 true],F29,0):=by
 have E:aA [uK 0 2,uK 0 3]=srt av [e_ 2 0 6 true,e_ 3 0 6 true]:=by kernel_rfl
 rw[yI (m:=[e_ 2 0 6 true,e_ 3 0 6 true]) lp (by decide) (by decide)]at E;have O:aH D29 [e_ 2 0 6 true,e_ 3 0 6 true]=(srt aM [e_ 2 0 6 true,e_ 3 0 6 true,e_ 1 0 6 false,e_ 2 0 6 false],true,0):=by kernel_rfl
 rw[yI (m:=[e_ 1 0 6 false,e_ 2 0 6 false,e_ 2 0 6 true,e_ 3 0 6 true]) yx (by decide) (by decide)]at O;exact Ah (B:=[]) kr kr E kr O kr
def ev2:b_ D29 [uK 1 2,uK 1 3]=([e_ 1 0 6 false,e_ 2 0 6 false,e_ 2 1 6 true,e_ 3 1 6 true],F29,0):=by
 have E:aA [uK 1 2,uK 1 3]=srt av [e_ 2 1 6 true,e_ 3 1 6 true]:=by kernel_rfl
 rw[yI (m:=[e_ 2 1 6 true,e_ 3 1 6 true]) lp (by decide) (by decide)]at E;have O:aH D29 [e_ 2 1 6 true,e_ 3 1 6 true]=(srt aM [e_ 2 1 6 true,e_ 3 1 6 true,e_ 1 0 6 false,e_ 2 0 6 false],true,0):=by kernel_rfl
 rw[yI (m:=[e_ 1 0 6 false,e_ 2 0 6 false,e_ 2 1 6 true,e_ 3 1 6 true]) yx (by decide) (by decide)]at O;exact Ah (B:=[]) kr kr E kr O kr
def ae_:aA y7=[e_ 2 0 6 true,e_ 2 1 6 true,e_ 3 0 6 true,e_ 3 1 6 true]:=by
 have E:aA y7=srt av [e_ 2 0 6 true,e_ 2 1 6 true,e_ 3 0 6 true,e_ 3 1 6 true]:=by kernel_rfl
 rwa[yI (m:=[e_ 2 0 6 true,e_ 2 1 6 true,e_ 3 0 6 true,e_ 3 1 6 true]) lp (by decide) (by decide)]at E
abbrev Ub:List Order:=[e_ 1 0 12 false,e_ 2 0 12 false,e_ 2 0 6 true,e_ 2 1 6 true,e_ 3 0 6 true,e_ 3 1 6 true]
theorem ev3:b_ D29 y7=([],({ kind:=1,hour:=1,index:=0,bn:=12,limit:=10}:G2),0):=by
 have E:aH D29 [e_ 2 0 6 true,e_ 2 1 6 true,e_ 3 0 6 true,e_ 3 1 6 true]=(srt aM [e_ 2 0 6 true,e_ 2 1 6 true,e_ 3 0 6 true,e_ 3 1 6 true,e_ 1 0 12 false,e_ 2 0 12 false],true,0):=by kernel_rfl
 rw[yI (m:=Ub) yx (by decide) (by decide)]at E;exact Ah (B:=[{ kind:=1,hour:=1,index:=0,bn:=12,limit:=10},{ kind:=1,hour:=2,index:=0,bn:=12,limit:=10}]) kr kr ae_ kr E kr
theorem ev4:b_ E29 y7=(Ub,F29,0):=by
 have E:aH E29 [e_ 2 0 6 true,e_ 2 1 6 true,e_ 3 0 6 true,e_ 3 1 6 true]=(srt aM [e_ 2 0 6 true,e_ 2 1 6 true,e_ 3 0 6 true,e_ 3 1 6 true,e_ 1 0 12 false,e_ 2 0 12 false],true,0):=by kernel_rfl
 rw[yI (m:=Ub) yx (by decide) (by decide)]at E;exact Ah (B:=[]) kr kr ae_ kr E kr
theorem abi (d:ai):ay { d:=d,c:=y7} =[0,1]:=by
 have e:ay { d:=d,c:=y7} =cpI (yc [0,1,0,1]):=by kernel_rfl
 rw[e,adO (m:=[0,0,1,1]) (by decide) (by decide)];decide
theorem R6:aG D29 [] 2 3 0=({ d:=D29,c:=y7},0):=by
 grind [aG,bM,awk,ev3,abi]
theorem amP:aG E29 [] 2 3 0=({ d:=E29,c:=y7},0):=by
 grind [aG,bM,amO,ev4,abi]
abbrev abj:List S1:=[{ reach:=0,hour:=1,bn:=12,wanted:=12},{ reach:=0,hour:=2,bn:=12,wanted:=12}]
abbrev O7:M1:= { d:=D29,c:=y7}
def amQ:dW O7=abj:=by kernel_rfl
abbrev f29:G2:= { kind:=1,hour:=1,index:=0,bn:=12,limit:=10}
def amR:gi O7 abj f29=[{ reach:=0,hour:=1,bn:=12,wanted:=12}]:=by
 have e:gi O7 abj f29=srt bU [{ reach:=0,hour:=1,bn:=12,wanted:=12}]:=by kernel_rfl
 simp_all [srt]
abbrev W29 (z:List Int):ByteArray×Int×Int×Int×List Reach×List auy×List au0×List atN×List au1×List au2×List Claim×List Int:=(D29.name,D29.hours,D29.atx.cap,D29.atx.start,D29.reaches,D29.zs,D29.atE,D29.bl,D29.aty,D29.auc,y7,z)
def ahV (z:List Int)(c:List Claim)(h:dg O7 z= { d:=D29,c:=c})(h2:(b_ D29 c).2=(F29,0)):dS D29 [] 2 3 0 z ()=.inr ():=by
 grind [dS,ei,R6]
def amS:dS D29 [] 2 3 0 [0,1] ()=.inl (W29 [0,1]):=by
 have h:dg O7 [0,1]=O7:=by kernel_rfl
 grind [dS,ei,R6,ev3]
def amT:cS (dS D29 [] 2 3 0) (eP (ay O7)) ()=.inl (W29 [0,1]):=by
 have e:eP [0,1]=[[],[0],[1],[0,1]]:=by kernel_rfl
 rw[abi,e];simp[cS,ahV [] [] kr (by rw[ev0]),ahV [0] [uK 0 2,uK 0 3] kr (by rw[ev1]),ahV [1] [uK 1 2,uK 1 3] kr (by rw[ev2]),amS]
abbrev r29:atp:= { bl:=[0,1],kind:=1,reach:=0,hour:=1,atf:=[{ reach:=0,hour:=1,bn:=12,wanted:=12}]}
def amU:gG D29 [] 2 3 0=(r29,true,0):=by
 unfold gG ei bM;simp only[R6,amT,ev3];show(({ bl:=[0,1],kind:=1,reach:=0,hour:=1,atf:=gi O7 (dW O7) f29}:atp),true,(0:Int))=_;rw[amQ,amR]
def ahW:gG E29 [] 2 3 0=(({ bl:=[],kind:=0,reach:=0,hour:=0,atf:=[]}:atp),false,0):=by
 grind [gG,ei,amP,ev4]
def Xo:dO D29 [] 2 3 0 r29=(true,0):=by
 unfold dO;have:aj (d9 D29 [] 2 3 0 r29) r29.bl.length 0 ()=.inr ():=by
  simp[aj,d9,R6,abi];rfl
 rw[this,R6];rfl
def Xp:dO D29 [] 2 3 0 iw=(false,0):=by
 unfold dO;have:aj (d9 D29 [] 2 3 0 iw) iw.bl.length 0 ()=.inr ():=by
  rfl
 have h2:aj (jU D29 [] 2 3 0 iw) 4 0 ()=.inr ():=by
  rfl
 grind [R6]
def Xq:dO D29 [] 2 3 0 ix=(false,290):=by
 unfold dO;have:aj (d9 D29 [] 2 3 0 ix) ix.bl.length 0 ()=.inl ():=by
  show aj (d9 D29 [] 2 3 0 ix) 1 0 ()=.inl ();simp[aj,d9,R6,abi];rfl
 grind [R6]
def Xr (r:atp):(dO D29 [] 3 2 0 r).2=1:=by
 rfl
def abk:sw=true:=by
 unfold sw kz kw mz o4 my gI nS jH ky o6 o5 kx dB iy;simp_all [amU,ahW,Xo,Xr,Xq,Xp]
end Go.Sx
end
section
namespace Go.Sx
open Go.Proofs Tryz
open IntKind (i64)
structure Lsr (d:ai)(T:auF)(R:List Reach):Prop where
 d0:aB d=0
 x0:aB { d with atx:=T,reaches:=R} =0
 len:R.length=d.reaches.length
 at_:∀ i,∃ c b,R.getD i default= { d.reaches.getD i default with cap:=c,at2:=b}/\c<=(d.reaches.getD i default).cap/\b<=(d.reaches.getD i default).at2
 start:T.start<=d.atx.start
section
variable {d:ai}{T:auF}{R:List Reach}(h:Lsr d T R)
include h
end
def R7 (c:List Claim)(E:Nat)(hc:c.length<=4096)(s:List Int)(X:s.length<=E*4096)(Y:E<256):okI (d_ c E) (mP c E) c.length 0 s/\∀ r,aj (d_ c E) c.length 0 s=.inr r->r.length<=(E+1)*4096:=by
 have O:∀ j (t:List Int),t.length<=E*4096+j->∀ t',d_ c E j t=.inr t'->t'.length<=E*4096+(j+1):=λj t V t' e=>by
  unfold d_ at e;cases q:(((c.getD j (default:Claim)).right==(E:Int))&&(!(jV t (E:Int))))with
  |true=>rw[q]at e;cases e;simp[aqc,aqJ];omega|false=>rw[q]at e;cases e;omega
 constructor
 refine gq (λj t=>t.length<=E*4096+j) _ _ _ XM λj t _ W V=>⟨λ_ _=>?_,O j t V⟩;simp[aqc,aqJ];unfold dh;omega;intro r hr;have:=vt (λj t=>t.length<=E*4096+j) _ _ _ XM (λj t _ W V=>O j t V) r hr;omega
def amV (d:ai)(c:List Claim)(hc:c.length<=4096)(hd:d.bl.length<=256):jG d c:=by
 refine gq (λj (t:List Int) =>t.length<=j*4096) _ _ _ (by simp) λj t _ O E=>⟨λ_=>(R7 c j hc t E XM).1,λt' e=>?_⟩;unfold iT at e;cases q:aj (d_ c j) c.length 0 t with
 |inl x=>exact x.elim
 |inr r=>rw[q]at e;cases e;exact(R7 c j hc t E XM).2 _ q
def adP (d:ai)(l:List bo)(fr to k:Int):wI d l fr to k:=by
 intro _;refine⟨(adN d l fr to k).1,λh=>?_⟩;have e:kU d l fr to k=aQ d l fr to k:=(adN d l fr to k).2.trans (MB d l fr to k).2.symm;rw[e]at h |-;refine amV _ _ (yG d l fr to k) ?_;have h:(lim (zl d l fr to k) (ofL d l k fr to)).2=0:=by rw[<-(MB d l fr to k).2];simpa using h
 have O:zl d l fr to k=0:=by
  unfold lim at h;split at h
  assumption
  exact h
 have E:aB d=0:=by
  have:=(AQ O).1;unfold bj at this;cases q:(aB d !=0)with
  |true=>rw[q]at this;exact this|false=>simpa using q
 have:=((ql d).1 E).1;omega
def bt {c X:Bool}(h:c=false->X=true):(bif c then true else X)=true:=by
 cases c with
 |true=>rfl|false=>exact h rfl
def GY:∀ (n:Nat) (s l z:List Int),z∈chz n s l↔∃ y,y.Sublist l/\y.length=n/\z=s++y
 |0,s,l,z=>by
  rw[Dv];exact⟨λh=>⟨[],List.nil_sublist _,rfl,XN⟩,λ⟨y,_,hy,e⟩ =>XN⟩
 |n+1,s,[],z=>by
  grind [chz]
 |n+1,s,x::l,z=>by
  simp only[chz];split
  exact⟨λh=>(by cases h),λ⟨y,h,hy,_⟩ =>by have:=h.length_le;simp[aqc]at this;omega⟩;rw[aqz,GY n,GY (n+1)];constructor
  rintro (⟨y,h,hy,e⟩ | ⟨y,h,hy,e⟩);exact⟨x::y,h.cons_cons x,by rw[aqc,hy],by rw[e,aqY];rfl⟩;exact⟨y,h.cons x,hy,e⟩;rintro⟨y,h,hy,e⟩;cases h with
  |cons _ h=>exact .inr ⟨y,h,hy,e⟩
  | @cons_cons E _ _ h=>exact .inl ⟨E,h,by simpa using hy,by rw[e,aqY];rfl⟩
def abl {l z:List Int}:z∈DB l↔z.Sublist l:=by
 unfold DB;rw[arL];constructor
 rintro⟨n,_,h⟩;obtain⟨y,h1,_,rfl⟩:=(GY _ _ _ _).1 h;exact h1;exact λh=>⟨z.length,XN,(GY _ _ _ _).2 ⟨z,h,rfl,rfl⟩⟩
variable {S:List Int}
def VM{j:Nat}(h:j<S.length)(E:Lib.keeps S.toArray j=true):S[j]∈cpI S:=by
 exact aq1.2 ⟨j,arQ.2 ⟨arW.2 h,E⟩,by simp[h]⟩
def abm {S:List Int}:∀ (j:Nat) (h:j<S.length),S[j]∈cpI S
 |0,h=>VM h (by rfl)
 |j+1,h=>by
  by_cases E:Lib.keeps S.toArray (j+1)=true
  exact VM h E;have h2:j<S.length:=XM
  have e:S[j+1]=S[j]:=by
   grind [Lib.keeps]
  rw[e];exact abm j h2
def amW(O:S.Pairwise (· <= ·)):(cpI S).Pairwise (· < ·):=by
 refine arU.2 (List.Pairwise.imp_of_mem ?_ (List.pairwise_lt_range.filter _));intro i j hi E V;have⟨h1,h2⟩:=arQ.1 E;unfold Lib.keeps at h2;have q:=aqM.1 O;grind
theorem B8 (s:M1):ay s=cpI (yc (s.c.map λx=>x.right)):=by
 have key:∀ (L K:List Claim) (t:List Int),s.c=K++L->aj (ft s) L.length K.length t=.inr (t++L.map λx=>x.right):=λL=>by
  induction L with
  |nil=>grind [aj]
  |cons x L E=>
   intro K t h;rw[aqc,aj];unfold ft;have:=E (K++[x]) (t++[x.right]) XN;unfold ft at this;grind
 have:=key s.c [] [] rfl;grind [ay]
theorem JU {s:M1}{x:Claim}(h:x∈s.c):x.right∈ay s:=by
 rw[B8];have:x.right∈yc (s.c.map λx=>x.right):=by exact List.mem_mergeSort.2 (aq1.2 ⟨x,h,rfl⟩)
 have⟨j,hj,e⟩:=aqP.1 this;rw[<-e];exact abm j hj
theorem Xs (s:M1):(ay s).Pairwise (· < ·):=by
 rw[B8];refine amW ?_;refine(aq2 (le:=λx y=>decide (x<=y)) (λa b c h1 h2=>?_) (λa b=>?_) _).imp λh=>of_decide_eq_true h <;>grind
theorem FE (n:Int)(l:List Int):ef l n=l.any λy=>n==y:=by
 unfold ef j8;rcases zW (step:=kQ l n) l (0:Int) (λy=>n==y) (λk _=>rfl)with⟨e,h⟩ | ⟨K,y,R,E,e,h,_⟩ <;>grind
theorem abn (x:Claim)(l:List Int):br x l= !l.any λy=>x.right==y:=by
 unfold br;rw[FE]
theorem JV {α ρ:Type}{step:α->Unit->ρ⊕Unit}(bad:α->Bool)(f:α->ρ)(h:∀ z,step z ()=bif bad z then .inl (f z)else .inr ()):∀ L,(∃ z∈L,bad z=true)->∃ A z B,L=A++z::B/\(∀ y∈A,bad y=false)/\bad z=true/\cS step L ()=.inl (f z)
 | [],⟨z,E,_⟩ =>by cases E
 |x::L,⟨z,E,V⟩ =>by
  rw[cS,h];cases O:bad x with
  |true=>exact⟨[],x,L,rfl,λy hy=>(by cases hy),O,rfl⟩
  |false=>
   have⟨A,w,B,e,h1,h2,h3⟩:=JV bad f h L ⟨z,by
    grind,V⟩
   grind
abbrev flt (c:List Claim)(z:List Int):List Claim:=c.filter λx=>!br x z
abbrev adQ (d:ai)(c:List Claim):Bool:=(ei d c).2.1
abbrev rts (d:ai)(c:List Claim):List Int:=ay { d:=d,c:=c}
theorem adR (d:ai)(c:List Claim):flt c (rts d c)=c:=by
 refine ass.2 λx E=>?_;rw[abn,Bool.not_not,arm];exact⟨x.right,JU (s:= { d:=d,c:=c}) E,by simp⟩
section
variable {d:ai}{l:List bo}{fr to k:Int}
theorem adS (O:Opn d l fr to k)(E:adQ d (aQ d l fr to k).1=false):∃ A z B,DB (rts d (aQ d l fr to k).1)=A++z::B/\(∀ y∈A,adQ d (flt (aQ d l fr to k).1 y)=true)/\adQ d (flt (aQ d l fr to k).1 z)=false/\cS (dS d l fr to k) (eP (rts d (aQ d l fr to k).1)) ()=.inl (d.name,d.hours,d.atx.cap,d.atx.start,d.reaches,d.zs,d.atE,d.bl,d.aty,d.auc,flt (aQ d l fr to k).1 z,z):=by
 have hc:=yG d l fr to k;have V:(rts d (aQ d l fr to k).1).length<=10:=by have:=O.ten;grind
 have⟨A,z,B,h1,h2,h3,h4⟩:=JV (step:=dS d l fr to k) (λz=>!adQ d (flt (aQ d l fr to k).1 z)) (λz=>(d.name,d.hours,d.atx.cap,d.atx.start,d.reaches,d.zs,d.atE,d.bl,d.aty,d.auc,flt (aQ d l fr to k).1 z,z)) (λz=>by
  simp_all [dS,B7,ym]) (DB (rts d (aQ d l fr to k).1)) ⟨rts d (aQ d l fr to k).1,abl.2 (List.Sublist.refl _),by rw[adR,E];rfl⟩
 rw[O1 (show(rts d (aQ d l fr to k).1).length<=900 by omega)];grind
theorem afa (d:ai)(l:List bo)(fr to k:Int):rt d l fr to k:=by
 refine⟨ae8 d l fr to k,λh0=>?_⟩;have E:=(GX d l fr to k).1 XN;have hc:=yG d l fr to k;have Y:(ay { d:=d,c:=(aQ d l fr to k).1}).length<=10:=by have:=E.ten;omega
 rw[B7 E];dsimp only;refine⟨VH _ _,λX=>⟨B6 _ hc,ahU XM,GL _ _ λz V _=>?_,?_⟩⟩;rw[O1 XM]at V;have:=Xl V;unfold mf;rw[B7 E];exact⟨(ym _ _ hc).1,VH _ _,λ_=>by unfold dh;omega⟩;have⟨A,z,B,_,_,_,e⟩:=adS E X;refine⟨λw hw=>XN,λw hw=>?_⟩;rw[e]at hw;cases hw;have O:=abc (s:= { d:=d,c:=flt (aQ d l fr to k).1 z}) (JF E.ask.chk) E.ask.wide λx W=>yH E.ask x (arQ.1 W).1;exact⟨JG _ _,O.1,T_ (s:= { d:=d,c:=flt (aQ d l fr to k).1 z}) O.2⟩
end
theorem abo:uJ:=by
 refine⟨afa _ _ _ _ _,DA _ _ _ _ _ _,DA _ _ _ _ _ _,DA _ _ _ _ _ _,DA _ _ _ _ _ _,⟨by decide,by decide⟩,afa _ _ _ _ _,λ_ _=>⟨λh=>?_,λh=>?_,λh=>?_⟩⟩;all_goals
  simp only[ap9,beq_iff_eq]at h;omega
section
variable {d:ai}{c:List Claim}{l:List Order}
end
def toG (y:S1):Order:= { hour:=y.hour,index:=y.reach,bn:=y.bn,S2:=false}
def toC (a:Claim):Order:= { hour:=a.hour,index:=a.gl,bn:=a.bn,S2:=true}
abbrev UP:=List ((Int×Int)×Bool)
theorem MQ {k v:Tag}(l:List (k.T×v.T))(x z:k.T)(y:v.T):aF k v (cy k v l x y) z=if z=x then y else aF k v l z:=by
 grind [aF,cy,uV]
section
variable {s:M1}{t:List S1×Mp×UP×Int}{k:Nat}{S:List S1}{m:Mp}{u:UP}
end
section
variable {d:ai}{s1:List G2×WM×UM×Int}{k:Nat}{u:UM}{F:List G2}{w:WM}
end
variable {d:ai}{c:List Claim}{S:List S1}
def R8{x:S1}(a b:Int):drw d (c.map toC++(S++[x]).map toG) a b=drw d (c.map toC++S.map toG) a b+(if a=(rch d x.reach).up/\b=x.hour then x.bn else 0):=by
 rw[ar7,<-aqY,yC,aqZ,aq4,Di];grind [nL,toG]
def O8(hc:∀ a∈c,1<=a.bn/\a.bn<=1073741824)(hn:c.length<=4096)(O:∀ x∈S,1<=x.bn/\x.bn<=1073741824)(W:S.length<=1024)(a b:Int):0<=drw d (c.map toC++S.map toG) a b/\drw d (c.map toC++S.map toG) a b<=5497558138880:=by
 have:=qr (d:=d) (l:=c.map toC++S.map toG) (λx V=>by
  rcases aqz.1 V with q|q;obtain⟨z,E,rfl⟩:=aq1.1 q;exact hc z E;obtain⟨z,E,rfl⟩:=aq1.1 q;exact O z E) a b
 grind
section
variable {d:ai}{c:List Claim}{r h:Int}{N:Nat}{S:List S1}{m:Mp}{u:UP}{U:UM}{F:List G2}{w:WM}
end
section
variable {d:ai}{c:List Claim}{out:List Order}(hr:atq d)(hc:∀ a∈c,1<=a.bn/\a.bn<=1073741824)(hn:c.length<=4096)
include hr hc hn
end
section
variable {d:ai}{c:List Claim}
theorem abp {r h:Int}{x:Order}(E:x.S2=true):nL d r h x=((x.hour==h)&&((d.zs.getD x.index.toNat default).reach==r)):=by
 grind [nL]
theorem MR (hc:∀ a∈c,1<=a.bn/\a.bn<=1073741824)(hn:c.length<=4096)(a b:Int):aF .atv .int (bB { d:=d,c:=c}) (a,b)=drw d (c.map toC) a b:=by
 have⟨m,e,h⟩:=i_ (step:=jf { d:=d,c:=c}) (λj m=>∀ a b,aF .atv .int m (a,b)=drw d ((c.take j).map toC) a b) c.length 0 [] (λa b=>rfl) (λj m _ E h=>by
  rw[aqu]at E;refine⟨_,rfl,λa b=>?_⟩;have g:c.getD j default=c[j]:=ib c default E;have O:=qr (d:=d) (l:=(c.take j).map toC) (λx W=>by
   obtain⟨z,V,rfl⟩:=aq1.1 W;exact hc z (aqT V))
  have Y:=hc c[j] (aqL E);rw[aq5,ara]at O;have X:=O (d.zs.getD c[j].gl.toNat default).reach c[j].hour;simp only[g];rw[MQ (k:=.atv),aqD E,ar7,yC,aqZ,aq4,Di,abp rfl,h,ar XM XM];show _=_+(bif(c[j].hour==b)&&((d.zs.getD c[j].gl.toNat default).reach==a)then c[j].bn else 0);grind)
 simp_all [bB]
def abq (h:b9 d c=0):(∀ a∈c,1<=a.bn/\a.bn<=1073741824)/\c.length<=4096:=
 ⟨λa E=>Jy (((iS d c).1 h).2.2.1 a E),((iS d c).1 h).2.1⟩
end

structure MP (d:ai)(c:List Claim)(P:List S1)(x:S1):Prop where
 i0:0<=x.reach
 i1:x.reach< (d.reaches.length:Int)
 h0:0<=x.hour
 h1:x.hour<d.hours
 l0:1<=x.bn
 l1:x.bn<=1073741824
 w1:1<=x.wanted
 w:x.wanted=drw d (c.map toC++P.map toG) x.reach (x.hour+(rch d x.reach).delay)
 s:x.bn=(rch d x.reach).atz\/wst (rch d x.reach) (x.bn - 1) <x.wanted
section
variable {d:ai}{c:List Claim}{P:List S1}
theorem adT (hr:atq d)(hc:∀ a∈c,1<=a.bn/\a.bn<=1073741824)(hn:c.length<=4096)(hP:P.Pairwise λx y=>¬ (x.reach=y.reach/\x.hour=y.hour))(hl:P.length<=1024)(hM:∀ x∈P,MP d c P x):∃ m,bO { d:=d,c:=c} P=(m,true)/\∀ a b,aF .atv .int m (a,b)=drw d (c.map toC++P.map toG) a b:=by
 have h64:=hr.reaches;have hH:=hr.hours;have hH1:=hr.aua;have ew1:i64.wrap ((d.reaches.length:Int) - 1)=(d.reaches.length:Int) - 1:=ar XM XM;have ew2:i64.wrap (d.hours - 1)=d.hours - 1:=ar XM XM;have X:∀ a b n:Int,a<=n->n<=b->bf n a b=true:=λa b n h1 h2=>(nR n a b).2 ⟨h1,h2⟩;have⟨t,e,h,_⟩:=i_ (step:=b7 { d:=d,c:=c} P) (λj t=>(∀ a b,aF .atv .int t.1 (a,b)=drw d (c.map toC++(P.take j).map toG) a b)/\∀ a b,aF .atv .bool t.2 (a,b)=true->∃ x∈P.take j,x.reach=a/\x.hour=b) P.length 0 (bB { d:=d,c:=c},[]) ⟨λa b=>by rw[MR hc hn,List.take_zero,aq4,aqo],λa b h=>(by cases h)⟩ (λj t _ O ⟨h,h2⟩ =>by
  rw[aqu]at O;have g:P.getD j default=P[j]:=ib P default O;have E:=hM P[j] (aqL O);have hbb:=O8 (d:=d) hc hn (S:=P.take j) (λx E=>⟨(hM x (aqT E)).l0,(hM x (aqT E)).l1⟩) XN (rch d P[j].reach).up P[j].hour;have W:aF .atv .bool t.2 (P[j].reach,P[j].hour)=false:=by
   cases q:aF .atv .bool t.2 (P[j].reach,P[j].hour)with
   |false=>rfl
   |true=>
    have⟨y,hy,e1,e2⟩:=h2 _ _ q;rw[<-aq6 j P,asA O]at hP;exact absurd ⟨e1,e2⟩ ((aqr.1 hP).2.2 y hy P[j] aqh)
  have V:=E.i0;have hx2:=E.i1;have hx3:=E.h0;have hx4:=E.h1;have Y:=E.l0;have hx6:=E.l1;unfold b7;simp only[g,ew1,ew2];rw[X 0 ((d.reaches.length:Int) - 1) P[j].reach V XM,X 0 (d.hours - 1) P[j].hour hx3 XM,X 1 1073741824 P[j].bn Y hx6,W];refine⟨_,rfl,λa b=>?_,λa b q=>?_⟩;rw[aqD O,R8];unfold rch at hbb |-;rw[MQ (k:=.atv),h (d.reaches.getD P[j].reach.toNat default).up P[j].hour,ar XM XM];grind
  grind [MQ,List.take_succ_eq_append_getElem])
 have e2:aj (fm { d:=d,c:=c} P t) P.length 0 ()=.inr ():=r9 λj _ O=>by
  rw[aqu]at O;have E:=hM P[j] (aqL O);have V:=E.i0;have hx2:=E.i1;have hx3:=E.h0;have hx4:=E.h1;have Y:=E.l0;have hx6:=E.l1;have hx7:=E.w1;have hk:P[j].reach.toNat<d.reaches.length:=XM
  have hdl:=qs hr hk;rw[ard V]at hdl;have hw:i64.wrap (P[j].hour+(rch d P[j].reach).delay)=P[j].hour+(rch d P[j].reach).delay:=ar XM XM;have hW:(jc (rch d P[j].reach) (i64.wrap (P[j].bn - 1))).1=wst (rch d P[j].reach) (P[j].bn - 1):=by
   rw[ar XM XM,yz (hr.reach _ hk) XM XM]
  have hs:=E.s;have hw2:=E.w;unfold fm;grind
 simp_all [bO]
theorem adU (r:atp)(fr to:Int)(W:∀ x∈r.atf,1<=x.bn/\x.bn<=1073741824)(hn:r.atf.length<=1024):jF fr to r=fS (g9 r.reach fr to) (r.atf.map toG):=by
 have⟨v,e,h⟩:=i_ (step:=mN fr to r) (λj v=>v=fS (g9 r.reach fr to) ((r.atf.take j).map toG)) r.atf.length 0 0 rfl (λj v _ E h=>by
  rw[aqu]at E;have g:r.atf.getD j default=r.atf[j]:=ib _ default E;have X:=su (p:=g9 r.reach fr to) (l:=(r.atf.take j).map toG) (λx O=>by
   obtain⟨z,V,rfl⟩:=aq1.1 O;exact W z (aqT V))
  have ep:((r.atf[j].reach==r.reach)&&bf r.atf[j].hour fr to)=g9 r.reach fr to (toG r.atf[j]):=by
   unfold g9 toG bf;grind
  unfold mN;rw[g,ep,aqD E,ar7,xI,<-h];simp[aqZ,aq4,fS];cases g9 r.reach fr to (toG r.atf[j])with
  |true=>
   grind [ar,toG]
  |false=>grind)
 simp_all [jF]
end
theorem FF (p:at3)(q:Claim->Bool):∀ {c:List Claim},(∀ a∈c,1<=a.bn)->jK p (c.filter q)<=jK p c
 | [],_=>aqO _
 |a::c,h=>by
  have O:=FF p q (c:=c) λb E=>h b (aqj _ E);grind [jK]
theorem FG {d:ai}{c:List Claim}(h:auJ d c)(q:Claim->Bool):auJ d (c.filter q):=by
 have⟨h1,h2,h3,h4⟩:=(iS d c).1 h.chk;have O:b9 d (c.filter q)=0:=(iS d _).2 ⟨h1,aqp (arg _ _) h2,λa E=>h3 a (arQ.1 E).1,h4.filter _⟩;have X:=(abq h.chk).1;refine⟨O,h.wide,λx V=>?_⟩;have⟨e,e1⟩:=(outs (GW O)).lit x V;have W:rj (c.filter q) x.index x.hour<=rj c x.index x.hour:=FF _ q λa E=>(X a E).1;have⟨y,hy,e2,e3⟩:=h.outs.all x.index x.hour XM;have:=(h.outs.lit y hy).1;have:=h.lit y hy;grind
section
variable {d:ai}{c:List Claim}{S P:List S1}{f:G2}
end
section
variable {d:ai}{l:List bo}{fr to k:Int}
end
theorem amX {α ρ:Type}{step:Nat->Unit->ρ⊕Unit}(d:α)(P:α->Bool):∀ (L K:List α),(∀ k,∃ r,step k ()=bif P ((K++L).getD k d)then .inl r else .inr ())->(match aj step L.length K.length ()with| .inl _=>true| .inr _=>false)=L.any P
 | [],K,_=>rfl
 |x::L,K,h=>by
  have E:=h K.length;have O:=amX d P L (K++[x]) (by simpa using h);rw[aqc,aj];grind
theorem abr {step:Nat->List Claim->Empty⊕List Claim}{p:Nat->List Claim->Prop}(P:Claim->Bool):∀ (L K:List Claim) (t:List Claim),(∀ k s,step k s=bif P ((K++L).getD k default)then .inr (s++[(K++L).getD k default])else .inr s)->(∀ k s,s.length<4096->p k s)->t.length+L.length<=4096->aj step L.length K.length t=.inr (t++L.filter P)/\okI step p L.length K.length t
 | [],K,t,_,_,_=>by simp[aj,okI]
 |x::L,K,t,h,E,hn=>by
  have V:=λt' (O:t'.length+L.length<=4096) =>abr P L (K++[x]) t' (by simpa using h) E O;rw[aqc,aj,okI];grind
section
variable {d:ai}{c:List Claim}{P:List S1}
structure MJ (d:ai)(c:List Claim)(S:List S1)(t:Mp×UP):Prop where
 one:∀ x∈S,(0<=x.reach/\x.reach< (d.reaches.length:Int))/\(0<=x.hour/\x.hour<d.hours)/\1<=x.bn/\x.bn<=1073741824
 uni:S.Pairwise λx y=>¬ (x.reach=y.reach/\x.hour=y.hour)
 sum:∀ a b,aF .atv .int t.1 (a,b)=drw d (c.map toC++S.map toG) a b
 seen:∀ x∈S,aF .atv .bool t.2 (x.reach,x.hour)=true
theorem Xt (hr:atq d)(hc:∀ a∈c,1<=a.bn/\a.bn<=1073741824)(hn:c.length<=4096)(X:P.length<=1024){j:Nat}(E:j<P.length){t t':Mp×UP}(h:MJ d c (P.take j) t)(e:b7 { d:=d,c:=c} P j t=.inr t'):MJ d c (P.take (j+1)) t':=by
 have V:=hr.reaches;have Y:=hr.hours;have O:=hr.aua;have W:=O8 (d:=d) hc hn (S:=P.take j) (λx hx=>(h.one x hx).2.2) XN (rch d P[j].reach).up P[j].hour;have g:P.getD j default=P[j]:=ib P default E;unfold b7 at e;simp only[g]at e;rw[ar (n:=(d.reaches.length:Int) - 1) XM XM,ar (n:=d.hours - 1) XM XM,aqV]at e;split at e
 cases e;rename_i q;simp[aqG,aqA,not_or,Bool.not_eq_false,nR]at q;cases e;rw[aqD E];refine⟨λx hx=>?_,aqr.2 ⟨h.uni,aqI _ _,λx hx y hy k=>?_⟩,λa b=>?_,λx hx=>?_⟩;rcases aqz.1 hx with hx|hx;exact h.one x hx;grind
 have:=h.seen x hx;grind
 rw[R8];unfold rch at W |-;rw[MQ (k:=.atv),h.sum (d.reaches.getD P[j].reach.toNat default).up P[j].hour,ar XM XM];have:=h.sum a b;grind
 rcases aqz.1 hx with hx|hx;have:=h.seen x hx;grind [MQ]
 grind [MQ]
theorem R9 (hr:atq d)(hc:∀ a∈c,1<=a.bn/\a.bn<=1073741824)(hn:c.length<=4096)(hl:P.length<=1024)(h:(bO { d:=d,c:=c} P).2=true):
  (∀ x∈P,MP d c P x)/\P.Pairwise (λx y=>¬ (x.reach=y.reach/\x.hour=y.hour))/\∀ a b,aF .atv .int (bO { d:=d,c:=c} P).1 (a,b)=drw d (c.map toC++P.map toG) a b:=by
 unfold bO at h |-;cases e1:aj (b7 { d:=d,c:=c} P) P.length 0 (bB { d:=d,c:=c},[])with
 |inl y=>grind
 |inr t=>
  have E:=vt (step:=b7 { d:=d,c:=c} P) (λj t=>MJ d c (P.take j) t) P.length 0 (bB { d:=d,c:=c},[]) ⟨λ_ h=>(by cases h),.nil,λa b=>by rw[MR hc hn,List.take_zero,aq4,aqo],λ_ h=>(by cases h)⟩ (λj t _ X h t' e=>Xt hr hc hn hl XM h e) t e1;rw[aqu,ary]at E;simp only at h |-;cases Y:aj (fm { d:=d,c:=c} P t) P.length 0 ()with
  |inl y=>grind
  |inr u=>
   refine⟨λx V=>?_,E.uni,E.sum⟩;obtain⟨j,X,rfl⟩:=aqw V;have e:=ny Y j (aqq _) XM;have g:P.getD j default=P[j]:=ib P default X;have⟨⟨x1,x2⟩,⟨x3,x4⟩,x5,x6⟩:=E.one _ V;have W:P[j].reach.toNat<d.reaches.length:=XM
   have O:=qs hr W;rw[ard x1]at O;have hH:=hr.hours;have hw:i64.wrap (P[j].hour+(rch d P[j].reach).delay)=P[j].hour+(rch d P[j].reach).delay:=ar XM XM;have hW:(jc (rch d P[j].reach) (i64.wrap (P[j].bn - 1))).1=wst (rch d P[j].reach) (P[j].bn - 1):=by
    rw[ar XM XM,yz (hr.reach _ W) XM XM]
   unfold fm at e;simp only[g]at e;rw[hw,E.sum,aqV]at e;split at e
   cases e;rename_i q;simp[aqG,not_or,decide_eq_true_eq,bne_iff_ne,Decidable.not_not]at q;have⟨⟨q1,q2⟩,q3⟩:=q;refine⟨x1,x2,x3,x4,x5,x6,XM,q2,?_⟩;grind
end
def rz (x:Range)(a:Int):Bool:=(((decide (x.lo>=0))&&(decide (x.lo<=x.hi)))&&(decide (x.hi<=a)))
@[go_sem] def JW:FI:=(pD .range λx=>(pI λa=>(pE (.det True (.v (.bool (rz x a)))))))
theorem Gm:P0 prog 276 JW:=fN (mG Q1 Q1) f276 [.o] (ap λx=>ax λE=>am λE=>Ko @rz.eq_1)
def lq (a:W2):Bool:=(((eG a)&&(decide (a.n>=0)))&&(decide (a.n<=a.d)))
def td (a:W2):Prop:=(ia a)
@[go_sem] def Ln:FI:=(pD .ratio λa=>(pE (.det (td a) (.v (.bool (lq a))))))
theorem JX:P0 prog 310 Ln:=fN (mG (cp nq Q1) Q1) f310 [.o] (ap λa=>am λE=>Pq @lq.eq_1 @td.eq_1)
def lO (a:W2×W2):Bool:=(((lq a.1)&&(lq a.2))&&(!(lG a.2 a.1)))
def v7 (a:W2×W2):Prop:=((td a.1)/\((lq a.1)=true->(td a.2)))
@[go_sem] def JY:FI:=(pD .at6 λa=>(pE (.det (v7 a) (.v (.bool (lO a))))))
theorem Gn:P0 prog 277 JY:=fN (mG (cp JX (cp Bk Q1)) Q1) f277 [.o] (ap λa=>am λE=>Pq @lO.eq_1 @v7.eq_1)
def jm (r:Reach):Bool:=((rz r.at5 1073741824)&&(lO r.atL))
def o8 (r:Reach):Prop:=((rz r.at5 1073741824)=true->(v7 r.atL))
@[go_sem] def Lo:FI:=(pD .reach λr=>(pE (.det (o8 r) (.v (.bool (jm r))))))
theorem Ai:P0 prog 224 Lo:=fN (mG (cp Gm (cp Gn Q1)) Q1) f224 [.o] (ap λr=>am λE=>Pq @jm.eq_1 @o8.eq_1)
def xN (a b:Int):Int:=(i64.wrap (Int.tdiv (i64.wrap ((i64.wrap (a+b)) - 1)) b))
def yL (a b:Int):Prop:=b≠0
@[go_sem] def Uc:FI:=(pI λa=>(pI λb=>(pE (.det (yL a b) (.i (xN a b))))))
theorem R_:P0 prog 273 Uc:=fN (mG Q1 Q1) f273 [.o] (ax λa=>ax λb=>am λE=>Pq @xN.eq_1 @yL.eq_1)
def pK (r:Reach)(v:Int):Range:=letI a:=i64.wrap (r.at5.lo+(i64.wrap (Int.tdiv (i64.wrap (v*r.atL.1.n)) r.atL.1.d)));letI b:=i64.wrap (r.at5.hi+(xN (i64.wrap (v*r.atL.2.n)) r.atL.2.d));(bif(v==0)then({ lo:=0,hi:=0}:Range)else({ lo:=(if a<v then a else v),hi:=(if b<v then b else v)}:Range))
def rA (r:Reach)(v:Int):Prop:=((v==0)=false->(r.atL.1.d≠0/\(yL (i64.wrap (v*r.atL.2.n)) r.atL.2.d)))
@[go_sem] def O9:FI:=(pD .reach λr=>(pI λv=>(pE (.det (rA r v) (.agg (cellsOf .range (pK r v)))))))
theorem Bt:P0 prog 219 O9:=fN (mG (cp R_ Q1) Q1) f219 [.st .range] (ap λr=>ax λv=>am λE=>Pq @pK.eq_1 @rA.eq_1)
def pL (r:Reach)(v:Int):Range×Int:=(bif(!(jm r))then(({ lo:=0,hi:=0}:Range),210)else(bif((decide (v<0)) ||(decide (v > 1073741824)))then(({ lo:=0,hi:=0}:Range),1)else((pK r v),0)))
def yM (r:Reach)(v:Int):Prop:=((o8 r)/\((!(jm r))=false->(((decide (v<0)) ||(decide (v > 1073741824)))=false->(rA r v))))
@[go_sem] def O_:FI:=(pD .reach λr=>(pI λv=>(pE (.det (yM r v) (.tup [.agg (cellsOf .range ((pL r v).1)),.i ((pL r v).2)])))))
theorem Lp:P0 prog 152 O_:=fN (mG (cp Bt (cp Ai Q1)) Q1) f152 [.st .range,.o] (ap λr=>ax λv=>am λE=>Pq @pL.eq_1 @yM.eq_1)
def lr (r:Reach)(v:Int):Int×Int:=(bif((pL r v).2 !=0)then(0,(pL r v).2)else((i64.wrap (v - ((pL r v).1).hi)),0))
def o9 (r:Reach)(v:Int):Prop:=(yM r v)
@[go_sem] def Lq:FI:=(pD .reach λr=>(pI λv=>(pE (.det (o9 r v) (.tup [.i ((lr r v).1),.i ((lr r v).2)])))))
theorem Aj:P0 prog 96 Lq:=fN (mG (cp Lp Q1) Q1) f96 [.o,.o] (ap λr=>ax λv=>am λE=>Pq @lr.eq_1 @o9.eq_1)
def eC (r:Reach)(v:Int)(a:Bool):Int:=(bif a then(i64.wrap (v - (pK r v).lo))else(i64.wrap (v - (pK r v).hi)))
def pl (r:Reach)(v:Int)(a:Bool):Prop:=(rA r v)
@[go_sem] def Gp:FI:=(pD .reach λr=>(pI λv=>(pB λa=>(pE (.det (pl r v a) (.i (eC r v a)))))))
theorem ET:P0 prog 147 Gp:=fN (mG (cp Bt Q1) Q1) f147 [.o] (ap λr=>ax λv=>ya λO=>am λE=>Pq @eC.eq_1 @pl.eq_1)
@[go_sem] def eM (r:Reach)(w:Int)(c:Bool)(d:Nat)(a:Int×Int):Int⊕(Int×Int):=letI b:=i64.wrap (Int.tdiv (i64.wrap (a.2+a.1)) 2);(bif(decide (a.2<a.1))then(bif(decide ((eC r b c)>=w))then .inr (b,a.2)else .inr (a.1,(i64.wrap (b+1))))else .inl a.2)
def sA (r:Reach)(w:Int)(b:Bool)(c:Nat)(a:Int×Int):Prop:=((decide (a.2<a.1))=true->(pl r (i64.wrap (Int.tdiv (i64.wrap (a.2+a.1)) 2)) b))
def jn (r:Reach)(w:Int)(a:Bool):Int:=(bif(decide ((eC r 1073741824 a) <w))then(-1)else(match aj (eM r w a) 64 0 (1073741824,0)with| .inl b=>b| .inr c=>default))
def tf (r:Reach)(w:Int)(a:Bool):Prop:=letI b:=eM r w a;((pl r 1073741824 a)/\((decide ((eC r 1073741824 a) <w))=false->(okI b (sA r w a) 64 0 (1073741824,0)/\(∀ z_,aj b 64 0 (1073741824,0)≠ .inr z_))))
@[go_sem] def Lr:FI:=(pD .reach λr=>(pI λw=>(pB λa=>(pE (.det (tf r w a) (.i (jn r w a)))))))
theorem JZ:P0 prog 90 Lr:=by
 have hG:=mG (cp ET Q1) Q1;refine fN hG f90 [.o] (ap λr=>(ax λw=>(ya λE=>(am (λY=>?_)))));dsimp only[an,tf]at Y;refine⟨nbl rfl,(XO 0 (LCV (ρ:=Int) (σ:=(Int×Int)) 1 [] [0] (λW V=>⟨[(1,.i w),(2,.v (.bool E)),(3,.ptr 0 0),(7,.i V.2),(8,.i V.1)],[.cells (cellsOf .reach r)]⟩) (eM r w E) (sA r w E) 64 (1073741824,0) (λ_=>.normal) (λO=>⟨[(7,.i O)],[.dead]⟩)) L0),?_,?_⟩;unfold aa f90;simp only[ak,true_and,and_true];refine dH aC hG (λ_=>rfl) λW V X=>⟨L0,ag _,?_⟩;unfold sA at X;exact cD (jl [0]);exact Ce @jn.eq_1
def nT (r:Reach)(w:Int)(a:Bool):Int×Bool×Int:=(bif(!(jm r))then(0,false,210)else(bif((decide (w<0)) ||(decide (w > 1073741824)))then(0,false,1)else(bif(decide ((jn r w a) <0))then(0,false,0)else((jn r w a),true,0))))
def yN (r:Reach)(w:Int)(a:Bool):Prop:=((o8 r)/\((!(jm r))=false->(((decide (w<0)) ||(decide (w > 1073741824)))=false->(tf r w a))))
@[go_sem] def Pa:FI:=(pD .reach λr=>(pI λw=>(pB λa=>(pE (.det (yN r w a) (.tup [.i ((nT r w a).1),.v (.bool ((nT r w a).2.1)),.i ((nT r w a).2.2)]))))))
theorem Ls:P0 prog 308 Pa:=fN (mG (cp JZ (cp Ai Q1)) Q1) f308 [.o,.o,.o] (ap λr=>ax λw=>ya λO=>am λE=>Pq @nT.eq_1 @yN.eq_1)
def gJ (r:Reach)(w:Int):Int×Bool×Int:=((nT r w false).1,(nT r w false).2.1,(nT r w false).2.2)
def rB (r:Reach)(w:Int):Prop:=(yN r w false)
@[go_sem] def Pb:FI:=(pD .reach λr=>(pI λw=>(pE (.det (rB r w) (.tup [.i ((gJ r w).1),.v (.bool ((gJ r w).2.1)),.i ((gJ r w).2.2)])))))
theorem Bu:P0 prog 272 Pb:=fN (mG (cp Ls Q1) Q1) f272 [.o,.o,.o] (ap λr=>ax λw=>am λE=>Pq @gJ.eq_1 @rB.eq_1)
def fv (x:Reach)(w:Int):Int×Bool:=(bif(w==0)then(0,true)else(bif(decide (w > 1073741824))then(0,false)else(bif(!(gJ x w).2.1)then(0,false)else((if(gJ x w).1<x.atz then x.atz else(gJ x w).1),true))))
def rC (x:Reach)(w:Int):Prop:=((w==0)=false->((decide (w > 1073741824))=false->(rB x w)))
@[go_sem] def J0:FI:=(pD .reach λx=>(pI λw=>(pE (.det (rC x w) (.tup [.i ((fv x w).1),.v (.bool ((fv x w).2))])))))
theorem Gq:P0 prog 271 J0:=fN (mG (cp Bu Q1) Q1) f271 [.o,.o] (ap λx=>ax λw=>am λE=>Pq @fv.eq_1 @rC.eq_1)
def tY (d:ai)(x:Order):Bool:=(bif(((((decide (x.hour<0)) ||(decide (x.hour>=d.hours))) ||(decide (x.bn<1))) ||(decide (x.bn > 1073741824))) ||(decide (x.index<0)))then false else(bif x.S2 then(decide (x.index< (d.zs.length:Int)))else(decide (x.index< (d.reaches.length:Int)))))
@[go_sem] def Lt:FI:=(pD .al λd=>(pD .order λx=>(pE (.det True (.v (.bool (tY d x)))))))
theorem J1:P0 prog 268 Lt:=fN (mG Q1 Q1) f268 [.o] (ap λd=>ap λx=>am λE=>Ko @tY.eq_1)
def eJ (a b:Order):Bool:=(bif(a.hour !=b.hour)then(decide (a.hour<b.hour))else(bif(a.S2 !=b.S2)then b.S2 else(decide (a.index<b.index))))
@[go_sem] def J2:FI:=(pD .order λa=>(pD .order λb=>(pE (.det True (.v (.bool (eJ a b)))))))
theorem y8:P0 prog 269 J2:=fN (mG Q1 Q1) f269 [.o] (ap λa=>ap λb=>am λE=>Ko @eJ.eq_1)
@[go_sem] def k9 (d:ai)(b:List Order)(a:Nat)(c:Unit):Unit⊕Unit:=(bif((!(tY d (b.getD a default))) ||((decide ((a:Int) > 0))&&(!(eJ (b.getD (Int.toNat (i64.wrap ((a:Int) - 1))) default) (b.getD a default)))))then .inl ()else .inr ())
def sB (d:ai)(b:List Order)(a:Nat)(c:Unit):Prop:=(b.length<=aD->((!(tY d (b.getD a default)))=false->((decide ((a:Int) > 0))=true->(0<=(i64.wrap ((a:Int) - 1))/\(i64.wrap ((a:Int) - 1)) < (b.length:Int)))))
def km (d:ai)(a:List Order):Int:=(bif((fj d) !=0)then(fj d)else(bif(decide ((a.length:Int) > 4096))then 2 else(match aj (k9 d a) a.length 0 ()with| .inl b=>220| .inr c=>0)))
def tg (d:ai)(a:List Order):Prop:=((mq d)/\(((fj d) !=0)=false->(a.length<=aD->((decide ((a.length:Int) > 4096))=false->okI (k9 d a) (sB d a) a.length 0 ()))))
@[go_sem] def Lu:FI:=(pD .al λd=>(pR .order λa=>(pE (.det (tg d a) (.i (km d a))))))
theorem J3:P0 prog 212 Lu:=by
 have hG:=mG (cn [.st .al] vF (cn [.st .al,.st .order] J1 (cp y8 Q1))) Q1;refine fN hG f212 [.o] (ap λd=>(aZ λV=>(am (λY=>?_))));dsimp only[an,tg]at Y;refine⟨nbl rfl,(XO 0 (LCR (ρ:=Unit) (σ:=Unit) 1 [] [0] (λE O=>⟨[(1,.rs .order V),(2,.ptr 0 0),(6,.i E)],[.cells (cellsOf .al d)]⟩) (k9 d V) (sB d V) V.length () (True) (λ_=>.ret) (λX=>⟨[(4,.i 220)],[.dead]⟩)) L0),?_,?_⟩;unfold aa f212;simp only[ak,true_and,and_true];refine bX (V.length<=aD) aC hG (λ_=>rfl) (V.length:Int) eE (λhb0 E O aue W hw hc=>⟨L0,ag _,?_⟩) (λhb0 O hc=>?_) λhb0 E O=>?_;simp only[sB,hw,aqa]at W
 exact aW (jl [0]);exact aV (jl [0]);exact zq7;exact Ce @km.eq_1
def sC (d:ai):Bool:=(decide ((i64.wrap ((d.reaches.length:Int)*d.hours)) > 1024))
@[go_sem] def Pc:FI:=(pD .al λd=>(pE (.det True (.v (.bool (sC d))))))
theorem Lv:P0 prog 213 Pc:=fN (mG Q1 Q1) f213 [.o] (ap λd=>am λE=>Ko @sC.eq_1)
@[go_sem] def g5 (d:ai)(f:List Order)(c:Int)(g:Nat)(b:List Int):Empty⊕(List Int):=letI a:=f.getD g default;letI e:=Int.toNat (a.hour);(bif(a.S2&&((d.zs.getD (Int.toNat (a.index)) default).reach==c))then .inr (b.set e (i64.wrap ((b.getD e 0)+a.bn)))else .inr b)
def pN (d:ai)(b:List Order)(c:Int)(f:Nat)(g:List Int):Prop:=letI a:=b.getD f default;letI e:=0<=a.hour/\a.hour< (g.length:Int);(b.length<=aD->((a.S2=true->(0<=a.index/\a.index< (d.zs.length:Int)))/\((a.S2&&((d.zs.getD (Int.toNat (a.index)) default).reach==c))=true->(e/\e))))
def fq (d:ai)(a:List Order)(b:Int):List Int:=(match aj (g5 d a b) a.length 0 (List.replicate (Int.toNat d.hours) (0:Int))with| .inl x=>x.elim| .inr c=>c)
def pm (d:ai)(a:List Order)(b:Int):Prop:=((d.hours=d.hours/\0<=d.hours/\d.hours*((8:Nat):Int)<=((dh:Nat):Int))/\(d.hours<=((aD:Nat):Int)->okI (g5 d a b) (pN d a b) a.length 0 (List.replicate (Int.toNat d.hours) (0:Int))))
@[go_sem] def Gr:FI:=(pD .al λd=>(pR .order λa=>(pI λb=>(pE (.det (pm d a b) (.nw .int (fq d a b)))))))
theorem EU:P0 prog 270 Gr:=by
 have hG:=mG Q1 Q1;refine fE hG f270 (ap λd=>(aZ λV=>(ax λreach=>(am (λX=>?_)))));dsimp only[an,pm]at X;refine⟨nbl rfl,(XO 0 (LCR (ρ:=Empty) (σ:=(List Int)) 2 [] [0,1] (λO E=>⟨[(1,.rs .order V),(2,.i reach),(3,.ptr 0 0),(7,.os 1),(8,.i O)],[.cells (cellsOf .al d),.row .int E]⟩) (g5 d V reach) (pN d V reach) V.length (List.replicate (Int.toNat d.hours) (0:Int)) (True) ((·.elim)) ((·.elim))) L0),?_,?_⟩;unfold aa f270;simp only[ak,true_and,and_true];refine bX (V.length<=aD) aC hG (λ_=>rfl) (V.length:Int) eE (λhb0 O E Y W hw hc=>⟨L0,ag _,?_⟩) (λhb0 E hc=>?_) λhb0 O E=>?_;simp only[pN,hw,aqa]at W
 exact aW (jl [0,1]);exact aV (jl [0,1]);exact zq7;exact Ce @fq.eq_1
@[go_sem] def ol (b:List Order)(x:Order)(c:Nat)(a:Int):Int⊕Int:=(bif((decide (a< (b.length:Int)))&&(eJ (b.getD (Int.toNat a) default) x))then .inr (i64.wrap (a+1))else .inl a)
def rD (a:List Order)(x:Order)(c:Nat)(b:Int):Prop:=(a.length<=aD->((decide (b< (a.length:Int)))=true->(0<=b/\b< (a.length:Int))))
def u5 (a:List Order)(x:Order):List Order:=(match aj (ol a x) (a.length+1) 0 0 with| .inl b=>(((([])++((a.take (Int.toNat b)).drop 0))++([x]))++((a.take (Int.toNat (a.length:Int))).drop (Int.toNat b))) | .inr c=>default)
def wJ (a:List Order)(x:Order):Prop:=letI b:=(a.length:Int);letI c:=ol a x;letI d:=a.length+1;(okI c (rD a x) d 0 0/\(∀ z_,aj c d 0 0≠ .inr z_)/\(∀ lx,aj c d 0 0=.inl lx->((0<=0/\0<=lx/\lx<=b)/\(((([])++((a.take (Int.toNat lx)).drop 0)).length*32<=dh)/\((([])++((a.take (Int.toNat lx)).drop 0)).length<=aD->((((([])++((a.take (Int.toNat lx)).drop 0))++([x])).length*32<=dh)/\(((([])++((a.take (Int.toNat lx)).drop 0))++([x])).length<=aD->((0<=lx/\lx<=b/\b<=b)/\((((([])++((a.take (Int.toNat lx)).drop 0))++([x]))++((a.take (Int.toNat b)).drop (Int.toNat lx))).length*32<=dh)))))))))
@[go_sem] def Sa:FI:=(pR .order λa=>(pD .order λx=>(pE (.det (wJ a x) (.nw .order (u5 a x))))))
theorem Pd:P0 prog 215 Sa:=by
 have hG:=mG (cp y8 Q1) Q1;refine fE hG f215 (aZ λV=>(ap λx=>(am (λY=>?_))));dsimp only[an,wJ]at Y;refine⟨nbl rfl,(XO 0 (LCV (ρ:=Int) (σ:=Int) 1 [] [0] (λW O=>⟨[(0,.rs .order V),(3,.ptr 0 0),(5,.i O)],[.cells (cellsOf .order x)]⟩) (ol V x) (rD V x) (V.length+1) 0 (λ_=>.normal) (λE=>⟨[(0,.rs .order V),(3,.ptr 0 0),(5,.i E)],[.cells (cellsOf .order x)]⟩)) L0),?_,?_⟩;unfold aa f215;simp only[ak,true_and,and_true];refine dH aC hG (λ_=>rfl) λW O X=>⟨L0,ag _,?_⟩;unfold rD at X;exact cD (jl [0]);exact Ce @u5.eq_1
@[go_sem] def eQ (b:ai)(c:List (List Int)×Int)(e:List Int×Int)(f:Nat)(a:List Int×Int):(List Int)⊕(List Int×Int):=letI d:=Int.toNat a.2;(bif((decide (a.2<b.hours))&&((b.reaches.getD (Int.toNat e.2) default).up==c.2))then .inr ((a.1.set d (i64.wrap ((a.1.getD d 0)+(((c.1.set (Int.toNat c.2) (List.replicate (Int.toNat b.hours) (0:Int))).getD (Int.toNat e.2) []).getD d 0)))),(i64.wrap (a.2+1)))else .inl a.1)
def lP (c:ai)(d:List (List Int)×Int)(a:List Int×Int)(h:Nat)(b:List Int×Int):Prop:=letI e:=d.1.set (Int.toNat d.2) (List.replicate (Int.toNat c.hours) (0:Int));letI f:=0<=b.2/\b.2< (b.1.length:Int);letI g:=decide (b.2<c.hours);((g=true->(0<=a.2/\a.2< (c.reaches.length:Int)))/\((g&&((c.reaches.getD (Int.toNat a.2) default).up==d.2))=true->(f/\((0<=a.2/\a.2< (e.length:Int))/\((0<=b.2/\b.2< ((e.getD (Int.toNat a.2) []).length:Int))/\f)))))
@[go_sem] def dv (b:ai)(c:List (List Int)×Int)(e:Nat)(a:List Int×Int):(List Int)⊕(List Int×Int):=(bif(decide (a.2< (b.reaches.length:Int)))then(match aj (eQ b c a) (Int.toNat b.hours+1) 0 (a.1,0)with| .inl d=>.inr (d,(i64.wrap (a.2+1))) | .inr f=>.inr default)else .inl a.1)
def lQ (a:ai)(c:List (List Int)×Int)(f:Nat)(b:List Int×Int):Prop:=letI d:=eQ a c b;letI e:=Int.toNat a.hours+1;(a.reaches.length<=aD->((decide (b.2< (a.reaches.length:Int)))=true->(okI d (lP a c b) e 0 (b.1,0)/\(∀ z_,aj d e 0 (b.1,0)≠ .inr z_))))
@[go_sem] def dK (h:ai)(i:List (List Int)×Int)(j:List Int)(d:Nat)(a:List (List Int)):Unit⊕(List (List Int)):=letI b:=Int.toNat i.2;letI e:=h.reaches.getD b default;letI c:=fv e (j.getD d 0);letI f:=i64.wrap ((d:Int) - e.delay);letI g:=decide (c.1 > 0);(bif((!c.2) ||(g&&(decide (f<0))))then .inl ()else(bif g then .inr (a.set b ((a.getD b []).set (Int.toNat f) c.1))else .inr a))
def f8 (g:ai)(a:List (List Int)×Int)(b:List Int)(c:Nat)(h:List (List Int)):Prop:=letI d:=g.reaches.getD (Int.toNat a.2) default;letI i:=fv d (b.getD c 0);letI j:=0<=a.2/\a.2< (g.reaches.length:Int);letI e:=(c:Int);letI f:=i64.wrap (e - d.delay);letI k:=decide (i.1 > 0);(j/\((0<=e/\e< (b.length:Int))/\((rC d (b.getD c 0))/\(j/\(((!i.2) ||(k&&(decide (f<0))))=false->(k=true->((0<=a.2/\a.2< (h.length:Int))/\(0<=f/\f< ((h.getD (Int.toNat a.2) []).length:Int)))))))))
@[go_sem] def dL (b:ai)(d:List Order)(g:Nat)(a:List (List Int)×Int):(Unit⊕(List (List Int)))⊕(List (List Int)×Int):=letI c:=Int.toNat b.hours;(bif(decide (a.2>=0))then(match aj (dv b a) (b.reaches.length+1) 0 ((fq b d a.2),(i64.wrap (a.2+1)))with| .inl e=>(match aj (dK b a e) c 0 (a.1.set (Int.toNat a.2) (List.replicate c (0:Int)))with| .inl h=>.inl (.inl ()) | .inr f=>.inr (f,(i64.wrap (a.2 - 1)))) | .inr i=>.inr default)else .inl (.inr a.1))
def ga (a:ai)(f:List Order)(h:Nat)(b:List (List Int)×Int):Prop:=letI c:=((fq a f b.2),(i64.wrap (b.2+1)));letI d:=dv a b;letI e:=a.reaches.length+1;letI g:=Int.toNat a.hours;((decide (b.2>=0))=true->((a.hours=a.hours/\0<=a.hours/\a.hours*((8:Nat):Int)<=((dh:Nat):Int))/\(a.hours<=((aD:Nat):Int)->((0<=b.2/\b.2< (b.1.length:Int))/\((pm a f b.2)/\(okI d (lQ a b) e 0 c/\(∀ z_,aj d e 0 c≠ .inr z_)/\(∀ atG,aj d e 0 c=.inl atG->((a.hours<9223372036854775808)/\okI (dK a b atG) (f8 a b atG) g 0 (b.1.set (Int.toNat b.2) (List.replicate g (0:Int)))))))))))
def ca (a:ai)(b:List Order):List (List Int)×Bool:=(match aj (dL a b) (a.reaches.length+1) 0 ((List.replicate a.reaches.length []),(i64.wrap ((a.reaches.length:Int) - 1)))with| .inl (.inl lx) =>([],false) | .inl (.inr x_0_1) =>(x_0_1,true) | .inr c=>default)
def pn (a:ai)(c:List Order):Prop:=letI b:=(a.reaches.length:Int);letI d:=((List.replicate a.reaches.length []),(i64.wrap (b - 1)));letI e:=dL a c;letI f:=a.reaches.length+1;(a.reaches.length<=aD->((b=b/\0<=b/\b*((24:Nat):Int)<=((dh:Nat):Int))/\(b<=((aD:Nat):Int)->(a.reaches.length<=aD->(okI e (ga a c) f 0 d/\(∀ z_,aj e f 0 d≠ .inr z_))))))
@[go_sem] def Gs:FI:=(pD .al λa=>(pR .order λb=>(pE (.det (pn a b) (.tup [.rs .ints ((ca a b).1),.v (.bool ((ca a b).2))])))))
theorem amY {p:Prop}(h:p:=by simp only[go_sem,Sum.forall];all_goals exact cl):p:=h
theorem EV:P0 prog 214 Gs:=by
 have hG:=mG (cn [.st .al,.sl .order,.o] EU (cp Gq Q1)) Q1;refine fN hG f214 [.sl .ints,.o] (ap λa0=>(aZ λa1=>(am (λhp=>?_))));dsimp only[an,pn]at hp;refine⟨nbl rfl,(XO 0 (LCV (ρ:=(Unit⊕(List (List Int)))) (σ:=(List (List Int)×Int)) 2 [] [0,1,1] (λW1 E=>⟨[(1,.rs .order a1),(2,.ptr 0 0),(6,.os 2),(7,.i E.2)],[.cells (cellsOf .al a0),.dead,.atH .int E.1]⟩) (dL a0 a1) (ga a0 a1) (a0.reaches.length+1) ((List.replicate a0.reaches.length []),(i64.wrap ((a0.reaches.length:Int) - 1))) (λx=>match x with|(.inl _) =>.ret|(.inr _) =>.normal) (λx=>match x with|(.inl lx) =>⟨[(4,.v (.slice none 0 0)),(5,.v (.bool false))],[.dead,.dead,.dead]⟩ |(.inr x_0_1) =>⟨[(6,.os 2)],[.dead,.dead,.atH .int x_0_1]⟩)) L0),?_,?_⟩
 ·unfold aa f214;simp only[ak,true_and,and_true]
  ·refine dH aC hG (λ_=>rfl) λW1 E hq0=>⟨(XO 2 (LCV (ρ:=(List Int)) (σ:=(List Int×Int)) 6 [] [0,1,2,3,4,5] (λk_1 O=>⟨[(1,.rs .order a1),(2,.ptr 0 0),(6,.os 4),(7,.i E.2),(8,.os 5),(9,.i O.2)],[.cells (cellsOf .al a0),.dead,.dead,.dead,.atH .int (E.1.set (Int.toNat E.2) (List.replicate (Int.toNat a0.hours) (0:Int))),.row .int O.1]⟩) (dv a0 E) (lQ a0 E) (a0.reaches.length+1) ((fq a0 a1 E.2),(i64.wrap (E.2+1))) (λ_=>.normal) (λatG=>⟨[(1,.rs .order a1),(2,.ptr 0 0),(6,.os 4),(7,.i E.2),(8,.os 5)],[.cells (cellsOf .al a0),.dead,.dead,.dead,.atH .int (E.1.set (Int.toNat E.2) (List.replicate (Int.toNat a0.hours) (0:Int))),.row .int atG]⟩)) (XO 6 (LCR (ρ:=Unit) (σ:=(List (List Int))) 6 [] [0,1,2,3,4,5] (λk_3 W=>⟨[(1,.rs .order a1),(2,.ptr 0 0),(6,.os 4),(7,.i E.2),(8,.os 5),(11,.i k_3)],[.cells (cellsOf .al a0),.dead,.dead,.dead,.atH .int W,.row .int (dY (aj (dv a0 E) (a0.reaches.length+1) 0 ((fq a0 a1 E.2),(i64.wrap (E.2+1)))))]⟩) (dK a0 E (dY (aj (dv a0 E) (a0.reaches.length+1) 0 ((fq a0 a1 E.2),(i64.wrap (E.2+1)))))) (f8 a0 E (dY (aj (dv a0 E) (a0.reaches.length+1) 0 ((fq a0 a1 E.2),(i64.wrap (E.2+1)))))) (Int.toNat a0.hours) (E.1.set (Int.toNat E.2) (List.replicate (Int.toNat a0.hours) (0:Int))) (a0.hours<9223372036854775808) (λ_=>.ret) (λauP=>⟨[(4,.v (.slice none 0 0)),(5,.v (.bool false))],[.dead,.dead,.dead,.dead,.dead,.dead]⟩)) L0)),?_,?_⟩
   ·simp only[ak,true_and,and_true];refine⟨?_,?_⟩;refine dH aC hG (λ_=>rfl) λk_1 O hq1=>⟨(XO 4 (LCV (ρ:=(List Int)) (σ:=(List Int×Int)) 6 [] [0,1,2,3,4,5] (λk_2 V=>⟨[(1,.rs .order a1),(2,.ptr 0 0),(6,.os 4),(7,.i E.2),(8,.os 5),(9,.i O.2),(10,.i V.2)],[.cells (cellsOf .al a0),.dead,.dead,.dead,.atH .int (E.1.set (Int.toNat E.2) (List.replicate (Int.toNat a0.hours) (0:Int))),.row .int V.1]⟩) (eQ a0 E O) (lP a0 E O) (Int.toNat a0.hours+1) (O.1,0) (λ_=>.normal) (λX=>⟨[(1,.rs .order a1),(2,.ptr 0 0),(6,.os 4),(7,.i E.2),(8,.os 5),(9,.i O.2)],[.cells (cellsOf .al a0),.dead,.dead,.dead,.atH .int (E.1.set (Int.toNat E.2) (List.replicate (Int.toNat a0.hours) (0:Int))),.row .int X]⟩)) L0),?_,?_⟩;simp only[ak,true_and,and_true];refine dH aC hG (λ_=>rfl) λk_2 V hq2=>⟨L0,ag _,?_⟩;unfold lP at hq2;exact cD (jl [0,1,2,3,4,5]);unfold lQ at hq1;exact cD (jl [0,1,2,3,4,5])
    ·refine bG aC hG (λ_=>rfl) a0.hours id (λhb3 k_3 W hlt3 Y hw hc=>⟨L0,ag _,?_⟩) (λhb3 W hc=>?_)
     ·unfold f8 at Y;try simp only[hw,aqa]at Y
      simp only[go_sem,hc,hw];all_goals (repeat' (first|with_reducible refine And.intro ?_ ?_|with_reducible intro _))
      all_goals first|exact tK (jl [0,1,2,3,4,5]) |(rename_i h1 h2;rw[h1,cond_false,h2];exact tK (jl [0,1,2,3,4,5])) |(rename_i h1 h2;have hq:=Y.2.2.2.2 h1 h2;omega)
     exact aV (jl [0,1,2,3,4,5])
   ·unfold ga at hq0;simp only[go_sem];all_goals (repeat' (first|with_reducible refine And.intro ?_ ?_|with_reducible intro _))
    all_goals first|exact fM (jl [0,1,4]) (jl [0,1,2]) |(rename_i h1 _ _ h3 _ h4;simp only[h3,dY]at h4;simp only[h1,h3,h4,dY,cond_true];exact fM (jl [0,1,4]) (jl [0,1,2]))
 unfold aa f214;try unfold ca
 exact amY
@[go_sem] def kA (a:List Order)(b:Nat)(c:Unit):Unit⊕Unit:=(bif(!(a.getD b default).S2)then .inl ()else .inr ())
@[go_sem] def kB (e:ai)(f:List Order)(a b:Nat)(c:List Order):Empty⊕(List Order):=letI d:=(((ca e f).1).getD a (default:List Int)).getD b 0;(bif(decide (d > 0))then .inr (u5 c ({ hour:=(b:Int),index:=(a:Int),bn:=d,S2:=false}:Order))else .inr c)
def mg (f:ai)(g:List Order)(d a:Nat)(h:List Order):Prop:=letI b:=((ca f g).1).getD d (default:List Int);letI c:=(a:Int);letI e:=0<=c/\c< (b.length:Int);(e/\((decide ((b.getD a 0) > 0))=true->(e/\(wJ h ({ hour:=c,index:=(d:Int),bn:=(b.getD a 0),S2:=false}:Order)))))
@[go_sem] def jo (a:ai)(b:List Order)(c:Nat)(d:List Order):Empty⊕(List Order):=(match aj (kB a b c) (Int.toNat a.hours) 0 d with| .inl x=>x.elim| .inr e=>.inr e)
def pr (a:ai)(b:List Order)(c:Nat)(d:List Order):Prop:=(((ca a b).1).length<=aD->((a.hours<9223372036854775808)/\okI (kB a b c) (mg a b c) (Int.toNat a.hours) 0 d))
def iU (b:ai)(a:List Order):List Order×Bool×Int:=letI c:=ca b a;letI d:=km b a;(bif(d !=0)then([],false,d)else(bif(sC b)then([],false,2)else(match aj (kA a) a.length 0 ()with| .inl f=>([],false,220) | .inr g=>(bif(!c.2)then([],false,0)else(match aj (jo b a) ((c.1).length) 0 (([])++a)with| .inl x=>x.elim| .inr e=>(bif(decide ((e.length:Int) > 4096))then([],false,2)else(e,true,0)))))))
def uL (b:ai)(a:List Order):Prop:=letI c:=([])++a;letI d:=ca b a;((tg b a)/\(((km b a) !=0)=false->((sC b)=false->(∀ ee,aj (kA a) a.length 0 ()=.inr ee->((pn b a)/\((!d.2)=false->((c.length*32<=dh)/\(c.length<=aD->okI (jo b a) (pr b a) ((d.1).length) 0 c))))))))
@[go_sem] def Pe:FI:=(pD .al λa=>(pR .order λb=>(pE (.det (uL a b) (.tup [.nw .order ((iU a b).1),.v (.bool ((iU a b).2.1)),.i ((iU a b).2.2)])))))
theorem Lw:P0 prog 142 Pe:=by
 have hG:=mG (cn [.st .al,.sl .order] J3 (cn [.st .al] Lv (cn [.st .al,.sl .order] EV (cn [.sl .order,.st .order] Pd Q1)))) Q1;refine fW hG f142 [(.tmp 4,.order)] (ap λa0=>(aZ λa1=>(am (λhp=>?_))));dsimp only[an,uL]at hp;refine⟨nbl rfl,(XO 0 (LCR (ρ:=Unit) (σ:=Unit) 1 [] [0] (λV W=>⟨[(1,.rs .order a1),(2,.ptr 0 0),(8,.i V)],[.cells (cellsOf .al a0)]⟩) (kA a1) pT a1.length () (True) (λ_=>.ret) (λlx=>⟨[(4,.v (.slice none 0 0)),(5,.v (.bool false)),(6,.i 220)],[.dead]⟩)) (XO 2 (LCR (ρ:=Empty) (σ:=(List Order)) 2 [] [0,1,1] (λE O=>⟨[(2,.ptr 0 0),(9,.rs .ints ((ca a0 a1).1)),(11,.os 2),(12,.i E)],[.cells (cellsOf .al a0),.dead,.row .order O]⟩) (jo a0 a1) (pr a0 a1) (((ca a0 a1).1).length) (([])++a1) (True) ((·.elim)) ((·.elim))) L0)),?_,?_⟩;unfold aa f142;simp only[ak,true_and,and_true];refine⟨?_,?_⟩;refine bX (a1.length<=aD) aC hG (λ_=>rfl) (a1.length:Int) eE (λhb0 V W aue _ hw hc=>⟨L0,ag _,aW (jl [0])⟩) (λhb0 W hc=>aV (jl [0])) λhb0 V W=>zq7;refine bX (((ca a0 a1).1).length<=aD) aC hG (λ_=>rfl) (((ca a0 a1).1).length:Int) eE (λhb1 E O auI hq1 hw hc=>⟨(XO 4 (LCR (ρ:=Empty) (σ:=(List Order)) 3 [] [0,1,2,2] (λY X=>⟨[(2,.ptr 0 0),(9,.rs .ints ((ca a0 a1).1)),(11,.os 3),(12,.i E),(13,.i Y)],[.cells (cellsOf .al a0),.dead,.dead,.row .order X]⟩) (kB a0 a1 E) (mg a0 a1 E) (Int.toNat a0.hours) O (a0.hours<9223372036854775808) ((·.elim)) ((·.elim))) L0),?_,?_⟩) (λhb1 O hc=>?_) λhb1 E O=>?_;simp only[ak,true_and,and_true];refine bG aC hG (λ_=>rfl) a0.hours id (λhb2 Y X hlt2 hq2 hw hc=>⟨L0,ag _,?_⟩) (λhb2 X hc=>?_);simp only[mg,hw,aqa]at hq2
 exact lZ (jl [0,1,2,4]) (jl [0,1,2,3]);exact kP (jl [0,1,2,4]) (jl [0,1,2,3]);simp only[pr,hw,aqa]at hq1
 exact lZ (jl [0,1,3]) (jl [0,1,2]);exact kP (jl [0,1,3]) (jl [0,1,2]);exact Ir;exact Ce @iU.eq_1
@[go_sem] def oo (c:List Claim)(b d:Int)(a:Nat)(e:Int):Empty⊕Int:=(bif(((c.getD a default).gl==b)&&((c.getD a default).hour==d))then .inr (i64.wrap (e+(c.getD a default).bn))else .inr e)
def kC (c:List Claim)(a b:Int):Int:=(match aj (oo c a b) c.length 0 0 with| .inl x=>x.elim| .inr d=>d)
@[go_sem] def Gt:FI:=(pR .B1 λc=>(pI λa=>(pI λb=>(pE (.det True (.i (kC c a b)))))))
theorem EW:P0 prog 216 Gt:=by
 have hG:=mG Q1 Q1;refine fN hG f216 [.o] (aZ λc=>(ax λgl=>(ax λhour=>(am (λW=>?_)))));dsimp only[an]at W;refine⟨nbl rfl,(XO 0 (LCR (ρ:=Empty) (σ:=Int) 0 [] [] (λO E=>⟨[(0,.rs .B1 c),(1,.i gl),(2,.i hour),(7,.i E),(8,.i O)],[]⟩) (oo c gl hour) pT c.length 0 (True) ((·.elim)) ((·.elim))) L0),?_,?_⟩;unfold aa f216;simp only[ak,true_and,and_true];refine bX (c.length<=aD) aC hG (λ_=>rfl) (c.length:Int) eE (λhb0 O E V _ hw hc=>⟨L0,ag _,aW (jl [])⟩) (λhb0 E hc=>aV (jl [])) λhb0 O E=>zq7;exact Ce @kC.eq_1
@[go_sem] def g6 (d:ai)(c:List Claim)(a b:Nat)(e:List Order):Empty⊕(List Order):=(bif(decide ((kC c (b:Int) (a:Int)) > 0))then .inr (e++([({ hour:=(a:Int),index:=(b:Int),bn:=(kC c (b:Int) (a:Int)),S2:=true}:Order)]))else .inr e)
def lR (d:ai)(c:List Claim)(a b:Nat)(f:List Order):Prop:=letI e:=kC c (b:Int) (a:Int);(d.zs.length<=aD->((decide (e > 0))=true->((f++([({ hour:=(a:Int),index:=(b:Int),bn:=e,S2:=true}:Order)])).length*32<=dh)))
@[go_sem] def jv (d:ai)(c:List Claim)(a:Nat)(b:List Order):Empty⊕(List Order):=(match aj (g6 d c a) d.zs.length 0 b with| .inl x=>x.elim| .inr e=>.inr e)
def pO (d:ai)(c:List Claim)(a:Nat)(b:List Order):Prop:=okI (g6 d c a) (lR d c a) d.zs.length 0 b
def bQ (d:ai)(c:List Claim):List Order:=(bif((c.length:Int) ==0)then []else(match aj (jv d c) (Int.toNat d.hours) 0 ([])with| .inl x=>x.elim| .inr a=>a))
def iV (d:ai)(c:List Claim):Prop:=(c.length<=aD->(((c.length:Int) ==0)=false->((d.hours<9223372036854775808)/\okI (jv d c) (pO d c) (Int.toNat d.hours) 0 ([]))))
@[go_sem] def Gu:FI:=(pD .al λd=>(pR .B1 λc=>(pE (.det (iV d c) (.nw .order (bQ d c))))))
theorem sD:P0 prog 143 Gu:=by
 have hG:=mG (cn [.sl .B1,.o,.o] EW Q1) Q1;refine fW hG f143 [(.tmp 4,.order)] (ap λd=>(aZ λc=>(am (λhp=>?_))));dsimp only[an,iV]at hp;refine⟨nbl rfl,(XO 0 (LCR (ρ:=Empty) (σ:=(List Order)) 1 [.slot 5 (.row .order ([]))] [0,1] (λE O=>⟨[(1,.rs .B1 c),(2,.ptr 0 0),(5,.os 1),(6,.i E)],[.cells (cellsOf .al d),.row .order O]⟩) (jv d c) (pO d c) (Int.toNat d.hours) ([]) (d.hours<9223372036854775808) ((·.elim)) ((·.elim))) L0),?_,?_⟩;unfold aa f143;simp only[ak,true_and,and_true];refine bG aC hG (λ_=>rfl) d.hours id (λhb0 E O aue X hw hc=>⟨(XO 2 (LCR (ρ:=Empty) (σ:=(List Order)) 2 [] [0,1,1] (λW V=>⟨[(1,.rs .B1 c),(2,.ptr 0 0),(5,.os 2),(6,.i E),(7,.i W)],[.cells (cellsOf .al d),.dead,.row .order V]⟩) (g6 d c E) (lR d c E) d.zs.length O (True) ((·.elim)) ((·.elim))) L0),?_,?_⟩) (λhb0 O hc=>?_);simp only[ak,true_and,and_true];refine bX (d.zs.length<=aD) aC hG (λ_=>rfl) (d.zs.length:Int) eE (λhb1 W V Y hq1 hw hc=>⟨L0,ag _,?_⟩) (λhb1 V hc=>?_) λhb1 W V=>?_;simp only[lR,hw,aqa]at hq1
 exact lZ (jl [0,1,4]) (jl [0,1,2]);exact kP (jl [0,1,4]) (jl [0,1,2]);exact Ir;simp only[pO,hw,aqa]at X
 exact lZ (jl [0,2]) (jl [0,1]);exact kP (jl [0,2]) (jl [0,1]);exact Ce @bQ.eq_1
@[go_sem] def k_ (d:ai)(c:List Claim)(a:Nat)(b:Unit):Unit⊕Unit:=(bif(decide (((bQ d c).getD a default).bn > 1073741824))then .inl ()else .inr ())
def kn (d:ai)(c:List Claim):Int:=(bif((lm d c) !=0)then(lm d c)else(bif(decide ((i64.wrap ((d.reaches.length:Int)*d.hours)) > 1024))then 2 else(match aj (k_ d c) ((bQ d c).length) 0 ()with| .inl a=>270| .inr b=>0)))
def th (d:ai)(c:List Claim):Prop:=((sW d c)/\(((lm d c) !=0)=false->(d.reaches.length<=aD->((decide ((i64.wrap ((d.reaches.length:Int)*d.hours)) > 1024))=false->(iV d c)))))
@[go_sem] def Lx:FI:=(pD .al λd=>(pR .B1 λc=>(pE (.det (th d c) (.i (kn d c))))))
theorem J4:P0 prog 141 Lx:=by
 have hG:=mG (cn [.st .al,.sl .B1] sD (cn [.st .al,.sl .B1] IT Q1)) Q1;refine fN hG f141 [.o] (ap λd=>(aZ λc=>(am (λW=>?_))));dsimp only[an,th]at W;refine⟨nbl rfl,(XO 0 (LCR (ρ:=Unit) (σ:=Unit) 2 [] [0,1] (λE O=>⟨[(6,.os 1),(7,.i E)],[.dead,.row .order (bQ d c)]⟩) (k_ d c) pT ((bQ d c).length) () (True) (λ_=>.ret) (λV=>⟨[(4,.i 270)],[.dead,.dead]⟩)) L0),?_,?_⟩;unfold aa f141;simp only[ak,true_and,and_true];refine bX ((bQ d c).length<=aD) aC hG (λ_=>rfl) ((bQ d c).length:Int) eE (λhb0 E O X _ hw hc=>⟨L0,ag _,aW (jl [0,1])⟩) (λhb0 O hc=>aV (jl [0,1])) λhb0 E O=>zq7;exact Ce @kn.eq_1
def fw (r:Reach)(a:Int):Int×Bool:=(bif(decide (a > 1073741824))then(0,false)else((if(gJ r a).1<r.atz then r.atz else(gJ r a).1),(gJ r a).2.1))
def rE (r:Reach)(a:Int):Prop:=((decide (a > 1073741824))=false->(rB r a))
@[go_sem] def J5:FI:=(pD .reach λr=>(pI λa=>(pE (.det (rE r a) (.tup [.i ((fw r a).1),.v (.bool ((fw r a).2))])))))
theorem Gv:P0 prog 217 J5:=fN (mG (cp Bu Q1) Q1) f217 [.o,.o] (ap λr=>ax λwanted=>am λE=>Pq @fw.eq_1 @rE.eq_1)
end Go.Sx
end
section
namespace Go.Sx
open IntKind (i64)
open Go.Proofs
theorem Ak (a b:Order):eJ a b=true↔olt a b:=by
 unfold eJ olt A4;grind
def J6 (d:ai)(l:List Order)(k:Nat)(O:k<4096):fu d l k ()=.inr ()↔k9 d l k ()=.inr ():=by
 unfold fu k9 tY;rw[uy];have E:∀ c A B:Bool,((bif c then(bif A then Sum.inl ()else Sum.inr ())else(bif B then Sum.inl ()else Sum.inr ())):Unit⊕Unit)=.inr ()↔(c=true/\A=false)\/(c=false/\B=false):=λc A B=>XN
 have hc:∀ A q Z:Bool,((!(bif A then false else q)) ||Z)=false↔A=false/\q=true/\Z=false:=λA q Z=>XN
 have hd:∀ c x y:Bool,(bif c then x else y)=true↔(c=true/\x=true)\/(c=false/\y=true):=λc x y=>XN
 rw[E,hc,hd];have hw:(decide ((k:Int) > 0)&&decide (aM (l.getD (i64.wrap ((k:Int) - 1)).toNat default) (l.getD k default)>=0))=false↔(decide ((k:Int) > 0)&& !eJ (l.getD (i64.wrap ((k:Int) - 1)).toNat default) (l.getD k default))=false:=by
  have h1:=MD (l.getD (i64.wrap ((k:Int) - 1)).toNat default) (l.getD k default);have h2:=Ak (l.getD (i64.wrap ((k:Int) - 1)).toNat default) (l.getD k default);simp_all
 simp only[aqt (y:=(decide ((k:Int) > 0)&&_)),hw];generalize (decide ((k:Int) > 0)&& !eJ (l.getD (i64.wrap ((k:Int) - 1)).toNat default) (l.getD k default))=q;generalize l.getD k default=x;simp only[aqt,decide_eq_false_iff_not,decide_eq_true_eq];cases q <;>cases x.S2 <;>simp only[aqy,Bool.true_eq_false,and_false,false_and,or_false,false_or,and_true,true_and] <;>omega
def abt (d:ai)(l:List Order):cN d l=0↔km d l=0:=by
 rw[wS,C0];unfold km;cases h1:(fj d !=0)with
 |true=>grind
 |false=>
  simp at h1;simp only[cond_false,h1,true_and];cases h2:decide ((l.length:Int) > 4096)with
  |true=>grind
  |false=>
   simp at h2;have e:(∀ k,k<l.length->fu d l k ()=.inr ())↔∀ k,k<l.length->k9 d l k ()=.inr ():=
    ⟨λh k E=>(J6 d l k XM).1 (h k E),λh k E=>(J6 d l k XM).2 (h k E)⟩
   grind [gf]
def xO (d:ai)(l:List Order):tg d l:=⟨Ej d,λ_ _ h2=>eu _ _ _ λj s O V=>λ_ _ E=>by
 simp only[decide_eq_true_eq,decide_eq_false_iff_not]at h2 E;grind [ar]⟩
variable {a:Int}
def Xu{d p:Int}(hd:0<d)(h1:d*p<=a)(h2:a<d*p+d):a / d=p:=by
 have V:=arC a d;have O:=arF a (by omega:d≠0);have E:=arq a hd;rcases asf (a / d) p with h|h|h;have:=arf (by omega:a / d+1<=p) (by omega:0<=d);grind
 exact h;have:=arf (by omega:p+1<=a / d) (by omega:0<=d);grind
def amZ{b:Int}(X:1<=b)(hb2:b<=1073741824)(h1:0<=a)(h2:a<=1152921504606846976):xN a b= -((-a) / b):=by
 unfold xN;rw[ar (by omega: -9223372036854775808<=a+b) XM,ar (by omega: -9223372036854775808<=a+b - 1) XM,Int.tdiv_eq_ediv_of_nonneg XM];have W:=arC (-a) b;have O:=arF (-a) (by omega:b≠0);have E:=arq (-a) (by omega:0<b);have e:(a+b - 1) / b= -((-a) / b):=Xu XM XN XN;rw[e];have c1: -((-a) / b)<=1152921504606846976:=by
  have: -1152921504606846976<=(-a) / b:=by
   rw[arb XM];omega
  omega
 have V:(-a) / b<=0:=by
  have:=ars (by omega:0<b) (by omega: -a<=0);simp_all
 exact ar XM XM
theorem Ud (x:W2×W2):ku x=lO x:=by
 unfold ku lO lq og sq;rw[Z1];unfold qi ko;rw[vG,vG];cases h1:(aX x.1==0) <;>cases h2:(aX x.2==0) <;>simp[h1,h2];cases O:lG x.1 x.2 <;>cases E:lG x.2 x.1 <;>simp;all_goals (try (by_cases X:0<=x.1.n <;>by_cases W:x.1.n<=x.1.d <;>by_cases V:0<=x.2.n <;>by_cases Y:x.2.n<=x.2.d <;>simp[X,W,V,Y]))
 all_goals (unfold lG at O E;simp only[decide_eq_true_eq]at O E;omega)
structure avy (a:W2):Prop where
 ok:atM a
 n0:0<=a.n
 nd:a.n<=a.d
def EX (a:W2):lq a=true↔avy a:=by
 unfold lq;simp only[ap9,decide_eq_true_eq,sa];exact⟨λh=>⟨h.1.1,h.1.2,h.2⟩,λh=>⟨⟨h.ok,h.n0⟩,h.nd⟩⟩
def Xv{b:Int}(O:0<=a)(h1:a<=1073741824)(h2:0<=b)(E:b<=1073741824):0<=a*b/\a*b<=1152921504606846976:=by
 refine⟨arO O h2,?_⟩;have:=as2 h1 E h2 (by omega:(0:Int)<=1073741824);omega
def abu {a:W2}(h:avy a){v:Int}(V:0<=v)(h1:v<=1073741824):(eF a v).2.1=xN (i64.wrap (v*a.n)) a.d:=by
 have r:=h.ok;have hr:=(gK a).2 r;have:=r.d1;have:=r.d;have:=r.n;have:=h.n0;have:=h.nd;have E:=Xv h.n0 r.n V h1;unfold eF;have O:(decide (v< (-1073741824)) ||decide (v > 1073741824))=false:=XN
 rw[hr,O];simp only[bne_self_eq_false,cond_false];rw[ar (by omega: -9223372036854775808<=0 - a.n) XM];have W:(0 - a.n)*v= -(a.n*v):=XN
 rw[W,ar (by omega: -9223372036854775808<= -(a.n*v)) XM,Int.mul_comm v a.n,ar (by omega: -9223372036854775808<=a.n*v) XM];rw[Jp r.d1 r.d XM XM,amZ r.d1 r.d E.1 E.2];have c1: -1152921504606846976<= -(a.n*v) / a.d:=by
  rw[arb XM];omega
 have X: -(a.n*v) / a.d<=0:=by
  have:=ars (by omega:0<a.d) (by omega: -(a.n*v)<=0);simp_all
 grind [ar]
theorem Ue (d:ai)(l:List Order):cN d l=km d l:=by
 have h:=abt d l;by_cases E:cN d l=0
 omega;have h1:km d l≠0:=λe=>E (h.2 e);unfold cN at E |-;unfold km at h1 |-;rw[C0]at E |-;grind
variable {i:Int}{x:Reach}in
theorem GZ (h:be i x=true):jm x=true:=by
 obtain⟨h1,h2,E,O⟩:=yy h;unfold jm rz;rw[<-Ud,MF (GS h1),asq];grind
def MS (r:Reach):o8 r:=λ_=>⟨wB _,λ_=>wB _⟩
variable {i:Int}{x:Reach}in
theorem J7 (h:be i x=true)(u:Int):rA x u:=λ_=>by
 have h1:=GZ h;unfold jm lO at h1;simp only[ap9]at h1;have a:=((EX _).1 h1.2.1.1).ok.d1;have b:=((EX _).1 h1.2.1.2).ok.d1;grind [yL]
variable {i:Int}{x:Reach}in
theorem sE (h:be i x=true){u:Int}(E:0<=u)(O:u<=1073741824):eC x u false=wst x u:=by
 have h1:=GZ h;unfold jm lO at h1;simp only[ap9]at h1;obtain⟨_,Y,W,X⟩:=AK h E O;have e:(pK x u).hi=(gh x u).hi:=by
  unfold gh pK;cases V:(u==0)with
  |true=>rfl
  |false=>
   simp_all [abu,EX]
 unfold eC wst;rw[cond_false,e,ar XM XM]
variable {i:Int}{x:Reach}in
def swp:Int⊕(Int×Int)->Int⊕(Int×Int)
 | .inl y=>.inl y| .inr s=>.inr (s.2,s.1)
variable {i:Int}{x:Reach}in
theorem MT {ρ σ τ:Type}{f:Nat->σ->ρ⊕σ}{g:Nat->τ->ρ⊕τ}(c:σ->τ)(h:∀ k s,g k (c s)=match f k s with| .inl y=>.inl y| .inr s'=>.inr (c s')):∀ (n i:Nat) (s:σ),aj g n i (c s)=match aj f n i s with| .inl y=>.inl y| .inr s'=>.inr (c s')
 |0,_,_=>rfl
 |n+1,i,s=>by
  simp only[aj,h];cases f i s with
  |inl y=>rfl|inr s'=>exact MT c h n (i+1) s'
variable {i:Int}{x:Reach}in
theorem mid {i j:Int}(E:0<=i)(h1:i<=j)(h2:j<=1073741824):i64.wrap (Int.tdiv (i64.wrap (i+j)) 2)=(i+j) / 2:=by
 grind [ar]
variable {i:Int}{x:Reach}in
theorem FH (w:Int):∃ v,aj (eM x w false) 64 0 (1073741824,0)=.inl v/\0<=v/\v<=1073741824/\
  ((∀ a b,0<=a->a<=b->b<1073741824->decide (eC x a false>=w)=true->decide (eC x b false>=w)=true)->(∀ u,0<=u->u<v->decide (eC x u false>=w)=false)/\(v<1073741824->decide (eC x v false>=w)=true)):=by
 let st:Nat->Int×Int->Int⊕(Int×Int):=λk s=>swp (eM x w false k (s.2,s.1))
 obtain⟨v,e1,V,X,O⟩:=Jr (f:=λu=>decide (eC x u false>=w)) (N:=1073741824) (step:=st) XM (λk i j E h1 h2=>by
  show swp (eM x w false k (j,i))=_;unfold eM;simp only;rw[decide_eq_true h1,mid E XM XM];have W:i64.wrap ((i+j) / 2+1)=(i+j) / 2+1:=ar XM XM;rw[W];cases decide (eC x ((i+j) / 2) false>=w) <;>rfl) (λk i j h=>by
  show swp (eM x w false k (j,i))=_;unfold eM;simp only;rw[decide_eq_false h];rfl) 63 0 0 1073741824 XM XM XM (by decide)
 refine⟨v,?_,V,X,O⟩;have:=MT (f:=st) (g:=eM x w false) (λs=>(s.2,s.1)) (λk s=>by
  have Y:st k s=swp (eM x w false k (s.2,s.1)):=rfl;rw[Y];cases eM x w false k (s.2,s.1) <;>rfl) 64 0 (0,1073741824)
 grind
variable {i:Int}{x:Reach}in
theorem Xw (h:be i x=true)(w:Int):tf x w false:=⟨J7 h _,λ_=>⟨eu _ _ _ λ_ _ _ _ _=>J7 h _,λz E=>by
 obtain⟨v,e,_⟩:=FH (x:=x) w;grind⟩⟩
variable {i:Int}{x:Reach}in
def Sb (h:be i x=true)(w:Int):rB x w:=⟨MS _,λ_ _=>Xw h w⟩
variable {i:Int}{x:Reach}in
theorem MU (h:be i x=true){w:Int}(hw:1<=w)(E:w<=1073741824):(∃ v,gJ x w=(v,true,0)/\dV x w=(v,true,0))\/(gJ x w=(0,false,0)/\dV x w=(0,false,0)):=by
 obtain⟨l1,l2,l3,l4⟩:=RH h hw E;have hval:gC x w=0:=(AK h (v:=w) XM E).1;have O:gJ x w=bif decide (jn x w false<0)then(0,false,0)else(jn x w false,true,0):=by
  unfold gJ nT;have e:(decide (w<0) ||decide (w > 1073741824))=false:=XN
  rw[GZ h,e];rfl
 have W:dV x w=bif decide (d6 (w - 1) x > 1073741824)then(0,false,0)else(d6 (w - 1) x,true,0):=by
  grind [dV,ar]
 by_cases Y:wst x 1073741824<w
 right;have hL:jn x w false= -1:=by
  unfold jn;rw[sE h XM (aqO _),decide_eq_true Y];rfl
 have hl:d6 (w - 1) x > 1073741824:=by
  by_cases q:d6 (w - 1) x<=1073741824
  have h1:=l4 q;have h2:=Dg h l1 q (aqO _);omega;omega
 grind
 left;obtain⟨v,e1,e2,e3,e4⟩:=FH (x:=x) w;have hL:jn x w false=v:=by
  unfold jn;rw[sE h XM (aqO _),decide_eq_false Y,e1];rfl
 obtain⟨f1,f2⟩:=e4 λa b a0 V hb X=>by
  rw[decide_eq_true_eq]at X |-;rw[sE h a0 XM]at X;rw[sE h XM XM];have:=Dg h a0 V XM;omega
 have g1:w<=wst x v:=by
  by_cases q:v<1073741824
  have:=f2 q;rw[decide_eq_true_eq,sE h e2 XM]at this;exact this;grind
 grind [sE]
variable {i:Int}{x:Reach}in
theorem Sc (h:be i x=true){w:Int}(hw:0<=w):fv x w=aw x w:=by
 unfold fv aw;by_cases O:w=0
 subst O;rfl;have W:(w==0)=false:=XN
 rw[W];simp only[cond_false,ar4];by_cases h1:w > 1073741824
 grind
 rw[decide_eq_false h1];simp only[cond_false];rcases MU h (w:=w) XM (XM)with⟨v,E,V⟩ | ⟨E,V⟩ <;>grind
theorem adV (d:ai)(a:Claim):qp d a=okC d a:=by
 unfold qp okC;grind
theorem abv (a b:Claim):ke a b=true↔Jx a b:=by
 unfold ke Jx;grind
theorem EY (d:ai)(c:List Claim):b9 d c=lm d c:=by
 unfold b9 lm;rw[C0];cases h1:(fj d !=0)with
 |true=>rfl
 |false=>
  simp only[cond_false];cases h2:decide ((c.length:Int) > 4096)with
  |true=>rfl
  |false=>
   simp only[cond_false];simp only[decide_eq_false_iff_not]at h2;have O:∀ k,k<c.length->(iP d c k ()=.inr ()↔nF d c k ()=.inr ()):=λk V=>by
    rw[Aa XM];unfold nF;rw[uy,adV,aqt,aq9];refine and_congr_right λ_=>?_;by_cases E:0<k
    rw[oc XM E,aqa,decide_eq_true (by omega:(k:Int) > 0),asF,aq9,abv];grind
    grind
   grind [gf]
theorem MV (d:ai)(c:List Claim):sW d c:=⟨Ej d,λ_ _ h2=>eu _ _ _ λj s O V _=>by
 simp only[decide_eq_false_iff_not]at h2;refine⟨λE=>?_,λ_ E=>?_⟩;grind
 simp only[decide_eq_true_eq]at E;grind [ar]⟩
end Go.Sx
end
section
namespace Go.Sx
open Go.Lib Go.Proofs Go.Shelf Go.Sort
open IntKind (i64)
section
variable {α:Type}
def ins (q:α->Bool)(x:α):List α->List α
 | [] =>[x]|a::l=>bif q a then a::ins q x l else x::a::l
def DC (q:α->Bool)(x:α):∀ l,(ins q x l).Perm (x::l)
 | [] =>.refl _
 |a::l=>by
  unfold ins;cases q a with
  |true=>exact((DC q x l).cons a).trans (.swap x a l)|false=>exact .refl _
def adW (q:α->Bool)(x:α)(l:List α):(ins q x l).length=l.length+1:=(DC q x l).length_eq
def VN (q:α->Bool)(x:α):∀ l,ins q x l=l.take (l.takeWhile q).length++x::l.drop (l.takeWhile q).length
 | [] =>rfl
 |a::l=>by
  unfold ins;cases h:q a with
  |true=>simp[cond_true,ar1,h,if_true,aqc,List.take_succ_cons,List.drop_succ_cons,aqB];rw[VN q x l]|false=>simp[h]
def Sd {R:α->α->Prop}(W:∀ a b c,R a b->R b c->R a c){q:α->Bool}{x:α}:∀ {l:List α},(∀ y∈l,(q y=true->R y x)/\(q y=false->R x y))->l.Pairwise R->(ins q x l).Pairwise R
 | [],_,_=>aqI _ _
 |a::l,h,O=>by
  unfold ins;have⟨h1,h2⟩:=aqR.1 O;cases V:q a with
  |true=>
   refine aqR.2 ⟨λb hb=>?_,Sd W (λy hy=>h y (aqj _ hy)) h2⟩;rcases aqg.1 ((DC q x l).mem_iff.1 hb)with rfl|hb;exact(h a aqh).1 V;exact h1 b hb
  |false=>
   have E:=(h a aqh).2 V;refine aqR.2 ⟨λb hb=>?_,O⟩;rcases aqg.1 hb with rfl|hb;exact E;exact W _ _ _ E (h1 b hb)
variable [Inhabited α]
theorem MW {step:Nat->Int->Int⊕Int}{l:List α}{q:α->Bool}(O:∀ j s,step j s=bif((decide (s< (l.length:Int)))&&q (l.getD (Int.toNat s) (default:α)))then .inr (i64.wrap (s+1))else .inl s)(W:l.length<=100000):
  ∀ (n i k:Nat),k<=l.length->l.length - k<n->aj step n i (k:Int)=.inl ((k+((l.drop k).takeWhile q).length:Nat):Int)
 |0,_,_,_,h=>absurd h (aru _)
 |n+1,i,k,hk,hn=>by
  rcases asa hk with E|rfl;have e:l.drop k=l[k]::l.drop (k+1):=asA E;have V:l.getD k (default:α)=l[k]:=ib l default E;unfold aj;rw[O,aqa,V,decide_eq_true (p:=(k:Int) < (l.length:Int)) XM];cases h:q l[k]with
  |true=>
   rw[ar XM XM];show aj step n (i+1) ((k+1:Nat):Int)=_;rw[MW O W n (i+1) (k+1) E XM,e,ar1,h,if_pos rfl,aqc];congr 2;omega
  |false=>
   rw[e,ar1,h];simp
  unfold aj;rw[O,decide_eq_false (p:=(l.length:Int) < (l.length:Int)) XM,Bool.false_and];simp
theorem abw {step:Nat->Int->Int⊕Int}{p:Nat->Int->Prop}{l:List α}{q:α->Bool}(O:∀ j s,step j s=bif((decide (s< (l.length:Int)))&&q (l.getD (Int.toNat s) (default:α)))then .inr (i64.wrap (s+1))else .inl s)(W:l.length<=100000)
  (V:∀ j s,p j s=(l.length<=aD->((decide (s< (l.length:Int)))=true->(0<=s/\s< (l.length:Int))))) (n:Nat):okI step p n 0 0:=by
 refine gq (λ_ s=>0<=s) n 0 0 (aqO _) λj s _ _ h=>⟨?_,λs' e=>?_⟩;rw[V];intro _ q;simp[decide_eq_true_eq]at q;omega;rw[O]at e;cases E:((decide (s< (l.length:Int)))&&q (l.getD (Int.toNat s) (default:α)))with
 |true=>
  rw[E]at e;simp[cond_true,aqW]at e;simp[ap9,decide_eq_true_eq]at E;rw[ar XM XM]at e;omega
 |false=>rw[E]at e;cases e
def am0 (q:α->Bool)(l:List α):(l.takeWhile q).length<=l.length:=(List.takeWhile_sublist q).length_le
end
end Go.Sx
end
