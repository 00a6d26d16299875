/- Part of the proof that the law JudgementDate returns true and leaves its arguments as they were, for all arguments of bulk at most 1048576 (the Upto form). -/
import Derived.Test.YtnanafpgfihjfaaGreatJ310
import Derived.Test.YtnanafpgfihjfaaGreatJ308
import Derived.Test.YtnanafpgfihjfaaGreatJ307
set_option linter.all false
set_option maxHeartbeats 4000000
set_option maxRecDepth 100000
section
namespace Go.Sx
open Go.Proofs
open IntKind (i64 u64)
theorem Yu {ρ σ:Type}{step:Nat→σ→ρ⊕σ}{p:Nat→σ→Prop}(m:σ→Nat)(J:σ→Prop)(Q:ρ→Prop)(h:∀ k s,J s→p k s∧((∃ r,step k s=.inl r∧Q r)∨∃ s',step k s=.inr s'∧m s'<m s∧J s')):∀ (n i:Nat) (s:σ),J s→m s<n→okI step p n i s∧∃ r,aq step n i s=.inl r∧Q r
 |0,_,_,_,hm=>absurd hm (Nat.not_lt_zero _)
 |n+1,i,s,hJ,hm=>by
  obtain⟨h1,h2⟩:=h i s hJ;rcases h2 with⟨r,e,hq⟩ | ⟨s',e,hlt,hJ'⟩
  ·refine⟨⟨h1,fun s'' e'=>?_⟩,r,?_,hq⟩
   ·rw[e]at e';cases e'
   ·simp only[aq,e]
  ·obtain⟨q1,q2⟩:=Yu m J Q h n (i+1) s' hJ' (by omega);refine⟨⟨h1,fun s'' e'=>?_⟩,?_⟩
   ·rw[e]at e';cases e';exact q1
   ·simp only[aq,e];exact q2
theorem Yv {ρ σ:Type}{x:ρ⊕σ}{Q:ρ→Prop}(h:∃ r,x=.inl r∧Q r):∀ z,x≠ .inr z:=fun z e=>by
 obtain⟨r,e1,_⟩:=h;rw[e1]at e;cases e
theorem gc {α:Type}(A:List α)(x d:α)(T:List α){i:Nat}(h:i=A.length):(A++x::T).getD i d=x:=by
 subst h;simp[List.getD_eq_getElem?_getD]
theorem N_ {α:Type}(A:List α)(x y:α)(T:List α){i:Nat}(h:i=A.length):(A++x::T).set i y=A++y::T:=by
 subst h;simp
theorem Oa (K G:List Claim):((Bm .claim (K++G) (K.length:Int) ((K++G).length:Int)).take K.length)=K:=by
 unfold Bm;simp only[Int.toNat_natCast];split
 ·rename_i h;rw[List.length_append]at h;have:G=[]:=List.eq_nil_of_length_eq_zero (by omega);subst this;simp
 ·simp
theorem y5 {α:Type}{step:Nat→Unit→Int⊕Unit}(l:List α)(d:α)(P:α→Bool)(h:∀ k,k<l.length→step k ()=bif P (l.getD k d)then .inl (k:Int)else .inr ()):(aq step l.length 0 ()=.inr ()∧∀ x∈l,P x=false)∨∃ K x R,l=K++x::R∧aq step l.length 0 ()=.inl (K.length:Int)∧P x=true∧∀ y∈K,P y=false:=by
 have key:∀ (R K:List α),l=K++R→(∀ y∈K,P y=false)→(aq step R.length K.length ()=.inr ()∧∀ x∈l,P x=false)∨∃ K' x R',l=K'++x::R'∧aq step R.length K.length ()=.inl (K'.length:Int)∧P x=true∧∀ y∈K',P y=false:=fun R=>by
  induction R with
  |nil=>exact fun K h hK=>.inl ⟨rfl,fun x hx=>hK x (by rw[h]at hx;simpa using hx)⟩
  |cons x R ih=>
   intro K hl hK;have e:=h K.length (by rw[hl];simp);have g:l.getD K.length d=x:=by rw[hl];simp[List.getD_eq_getElem?_getD]
   rw[g]at e;simp only[List.length_cons,aq,e];cases hx:P x with
   |true=>exact .inr ⟨K,x,R,hl,rfl,hx,hK⟩
   |false=>
    simp only[cond_false];have:=ih (K++[x]) (by rw[hl];simp) (fun y hy=>by
     rcases List.mem_append.1 hy with hy|hy
     ·exact hK y hy
     ·simp at hy;subst hy;exact hx)
    rw[List.length_append]at this;exact this
 exact key l [] rfl (by simp)
theorem Ly (l:List Claim)(hl:l.length<2 ^ 47):aK l∧aB l=l.filter fun x=>!ak x:=by
 have hI:(aw l= -1∧∀ x∈l,ak x=false)∨∃ K x R,l=K++x::R∧aw l=(K.length:Int)∧ak x=true∧∀ y∈K,ak y=false:=by
  unfold aw;rcases y5 (step:=cI l) l default (fun x=>ak x) (fun k _=>rfl)with⟨e,h⟩ | ⟨K,x,R,h1,e,h2,h3⟩
  ·rw[e];exact .inl ⟨rfl,h⟩
  ·rw[e];exact .inr ⟨K,x,R,h1,rfl,h2,h3⟩
 unfold aK aB;rcases hI with⟨e,h⟩ | ⟨K,x,R,hl0,e,h2,h3⟩
 ·rw[e];refine⟨(fun h=>by cases h),?_⟩;simp only[BEq.rfl,cond_true];exact(List.filter_eq_self.2 fun x hx=>by rw[h x hx];rfl).symm
 ·have b:((K.length:Int) == -1)=false:=by simp only[beq_eq_false_iff_ne];omega
  have hlen:l.length=K.length+(R.length+1):=by rw[hl0];simp
  have w:i64.wrap ((K.length:Int)+1)=((K.length+1:Nat):Int):=by rw[f8 (by omega) (by omega)];omega
  rw[e,w];simp only[b,cond_false];obtain⟨k1,r,k2,K',G',rfl,k3⟩:okI (aS l) (aY l) (l.length+1) 0 (l,(K.length:Int),((K.length+1:Nat):Int))∧∃ r,aq (aS l) (l.length+1) 0 (l,(K.length:Int),((K.length+1:Nat):Int))=.inl r∧∃ K' G',r=((K'.length:Int),K'++G')∧K'=l.filter fun x=>!ak x:=by
   refine Yu (fun s:List Claim×Int×Int=>((l.length:Int) - s.2.2).toNat) (fun s:List Claim×Int×Int=>∃ K' g G' R',s=(K'++g::(G'++R'),(K'.length:Int),((K'.length+(G'.length+1):Nat):Int))∧K'.length+(G'.length+1)+R'.length=l.length∧(l.filter fun x=>!ak x)=K'++R'.filter fun x=>!ak x) _ ?_ _ _ _ ⟨K,x,[],R,by rw[hl0];simp,by rw[hlen];simp;omega,?_⟩ (by simp only;omega)
   ·rintro k s ⟨K',g,G',R',rfl,hn,hF⟩;have hL:(K'++g::(G'++R')).length=l.length:=by rw[←hn];simp;omega
    unfold aY aS;simp only[hL];cases R' with
    |nil=>
     have e1:decide (((K'.length+(G'.length+1):Nat):Int) < (l.length:Int))=false:=by rw[decide_eq_false_iff_not];simp only[List.length_nil]at hn;omega
     simp only[e1,cond_false];exact⟨(fun _ h=>by cases h),.inl ⟨_,rfl,K',g::(G'++[]),rfl,by simpa using hF.symm⟩⟩
    |cons y R'=>
     simp only[List.length_cons]at hn;have e1:decide (((K'.length+(G'.length+1):Nat):Int) < (l.length:Int))=true:=by rw[decide_eq_true_eq];omega
     have gy:(K'++g::(G'++y::R')).getD (K'.length+(G'.length+1)) default=y:=by
      have:K'++g::(G'++y::R')=(K'++g::G')++y::R':=by simp
      rw[this];exact gc _ _ _ _ (by simp)
     have w1:i64.wrap (((K'.length+(G'.length+1):Nat):Int)+1)=((K'.length+(G'.length+1)+1:Nat):Int):=by rw[f8 (by omega) (by omega)];omega
     have w2:i64.wrap ((K'.length:Int)+1)=((K'.length+1:Nat):Int):=by rw[f8 (by omega) (by omega)];omega
     simp only[e1,cond_true,Int.toNat_natCast,gy,w1,w2];refine⟨fun _ _=>⟨by omega,fun _=>by omega⟩,.inr ?_⟩;cases hy:ak y with
     |false=>
      obtain⟨g',G2,hG⟩:∃ g' G2,G'++[y]=g'::G2:=by
       cases G' with
       |nil=>exact⟨y,[],rfl⟩
       |cons a b=>exact⟨a,b++[y],rfl⟩
      have hGl:G'.length+1=G2.length+1:=by have:=congrArg List.length hG;simpa using this
      refine⟨_,rfl,by simp only;omega,K'++[y],g',G2,R',?_,?_,?_⟩
      ·rw[N_ K' g y _ rfl];have h1:g'::(G2++R')=G'++y::R':=by rw[←List.cons_append,←hG];simp
       rw[List.append_assoc,h1,Prod.mk.injEq,Prod.mk.injEq];refine⟨by simp,by simp,?_⟩;rw[List.length_append];simp only[List.length_cons,List.length_nil];omega
      ·rw[List.length_append];simp only[List.length_cons,List.length_nil];omega
      ·rw[hF,List.filter_cons_of_pos (by rw[hy];rfl)];simp
     |true=>
      refine⟨_,rfl,by simp only;omega,K',g,G'++[y],R',?_,by rw[List.length_append];simp only[List.length_cons,List.length_nil];omega,?_⟩
      ·have:(G'++[y])++R'=G'++y::R':=by simp
       rw[this,List.length_append,Prod.mk.injEq,Prod.mk.injEq];exact⟨rfl,rfl,by simp only[List.length_cons,List.length_nil];omega⟩
      ·rw[hF,List.filter_cons_of_neg (by rw[hy];simp)]
   ·rw[hl0,List.filter_append,List.filter_cons_of_neg (by rw[h2];simp)];congr 1
    exact List.filter_eq_self.2 fun y hy=>by rw[h3 y hy];rfl
  refine⟨fun _=>⟨k1,Yv (Q:=fun _=>True) ⟨_,k2,trivial⟩,fun z hz=>?_⟩,?_⟩
  ·rw[k2]at hz;cases hz;have:(Bm .claim (K'++G') (K'.length:Int) ((K'++G').length:Int)).length=(K'++G').length:=by
    unfold Bm;simp only[Int.toNat_natCast];split
    ·rfl
    ·simp <;>omega
   simp only[this];simp only[List.length_append];omega
  ·rw[k2];simp only[Int.toNat_natCast,List.drop_zero];rw[Oa,k3]
open Go.Shelf Go.Sort in
theorem IQ {α:Type}{cf:α→α→Int}(hO:SWO (ltOf cf)){s m:List α}(hp:s.Perm m)(hm:m.Pairwise fun x y=>cf x y<0):apart cf s∧srt cf s=m:=by
 have e1:∀ x y,ltOf cf x y=true↔cf x y<0:=fun x y=>by unfold ltOf;rw[decide_eq_true_eq]
 have hex:∀ x∈m,∀ y∈m,ltOf cf x y=false→ltOf cf y x=false→x=y:=fun x hx y hy h1 h2=>by
  obtain⟨i,hi,rfl⟩:=List.mem_iff_getElem.1 hx;obtain⟨j,hj,rfl⟩:=List.mem_iff_getElem.1 hy;rw[List.pairwise_iff_getElem]at hm;rcases Nat.lt_trichotomy i j with h|h|h
  ·rw[(e1 _ _).2 (hm i j hi hj h)]at h1;cases h1
  ·subst h;rfl
  ·rw[(e1 _ _).2 (hm j i hj hi h)]at h2;cases h2
 refine⟨fun x hx y hy h1 h2=>hex x (hp.subset hx) y (hp.subset hy) h1 h2,?_⟩;unfold srt;have hq:(s.mergeSort fun x y=>!(ltOf cf y x)).Perm m:=(List.mergeSort_perm _ _).trans hp;refine List.Perm.eq_of_pairwise (le:=fun x y=>(!ltOf cf y x)=true) ?_ ?_ ?_ hq
 ·intro x y hx hy h1 h2;simp only[Bool.not_eq_true']at h1 h2;exact hex x (hq.subset hx) y hy h2 h1
 ·refine List.pairwise_mergeSort ?_ ?_ s
  ·intro a b c h1 h2;simp only[Bool.not_eq_true']at h1 h2 ⊢;exact hO.3 c b a h2 h1
  ·intro a b;simp only[Bool.or_eq_true,Bool.not_eq_true'];cases h1:ltOf cf b a with
   |false=>exact .inl rfl
   |true=>
    right;cases h2:ltOf cf a b with
    |false=>rfl
    |true=>have:=hO.2 _ _ _ h1 h2;rw[hO.1]at this;cases this
 ·refine hm.imp fun {a b} hab=>?_;simp only[Bool.not_eq_true'];cases h2:ltOf cf b a with
  |false=>rfl
  |true=>have:=hO.2 _ _ _ ((e1 _ _).2 hab) h2;rw[hO.1]at this;cases this
theorem Lz {n:Nat}(h:n<2 ^ 47):0≤((Go.Lib.bitLen n:Nat):Int)∧((Go.Lib.bitLen n:Nat):Int) <4611686018427387904:=by
 have:Go.Lib.bitLen n≤47:=Go.Lib.bitLen_le n 47 (by omega) h;omega
theorem Fg {l m:List Claim}(hl:l.length<2 ^ 46)(hp:(l.filter fun x=>!ak x).Perm m)(hm:m.Pairwise tlt):cq l∧cP l=m:=by
 obtain⟨h1,h2⟩:=Ly l (by omega);obtain⟨h3,h4⟩:=IQ GM hp (hm.imp fun {a b} h=>(JY a b).2 h);unfold cq cP aW aZ;rw[h2];refine⟨⟨h1,fun hL=>?_⟩,h4⟩;have hw:u64.wrap ((l.filter fun x=>!ak x).length:Int)=((l.filter fun x=>!ak x).length:Int):=NK (by omega) (by unfold aL at hL;omega);rw[hw];have hb:=Lz (n:=(l.filter fun x=>!ak x).length) (by have:=List.length_filter_le (fun x=>!ak x) l;omega);refine⟨⟨by omega,by unfold aL at hL;omega⟩,rfl,rfl,?_,?_,h3⟩
 ·rw[Int.toNat_natCast];exact hb.1
 ·rw[Int.toNat_natCast];exact hb.2
def mg (x:Claim)(n:Int):Claim:= { right:=x.right,farm:=x.farm,hour:=x.hour,litres:=n,rank:=x.rank}
def bB (a b:Int):Int:=if a<b then a else b
theorem pu {a b:Int}:bB a b≤a∧bB a b≤b∧(bB a b=a∨bB a b=b):=by unfold bB;split <;>omega
def n9 (f:Int):Int→List Claim→List Claim
 |_,[] =>[]
 |n,x::r=>if x.farm=f then mg x (bB n x.litres)::n9 f (n - bB n x.litres) r else x::n9 f n r
abbrev Lit (l:List Claim):Prop:= ∀ y∈l,0≤y.litres∧y.litres<4611686018427387904
theorem zV (x:Judgement)(l0:List Claim):∀ (R A:List Claim) (n:Int) (k:Nat),A.length=k→0≤n→n<4611686018427387904→Lit R→
  okI (cJ x l0) (er x l0) R.length k (A++R,n)∧∃ m,aq (cJ x l0) R.length k (A++R,n)=.inr (A++n9 x.farm n R,m)
 | [],A,n,k,hk,h0,h1,hR=>⟨trivial,n,by simp[aq,n9]⟩
 |y::R,A,n,k,hk,h0,h1,hR=>by
  have hy:=hR y (by simp);have hR':Lit R:=fun z hz=>hR z (by simp[hz]);have e:(A++y::R).getD k default=y:=gc A y default R hk.symm;have e2:∀ z:Claim,(A++y::R).set k z=A++z::R:=fun z=>N_ A y z R hk.symm;have e3:∀ z:Claim,(A++z::R).getD k default=z:=fun z=>gc A z default R hk.symm;have hm:=pu (a:=n) (b:=y.litres);have hlen:(k:Int) < ((A++y::R).length:Int):=by rw[List.length_append,List.length_cons];omega
  have hlen2:∀ z:Claim,(k:Int) < ((A++z::R).length:Int):=fun z=>by rw[List.length_append,List.length_cons];omega
  simp only[List.length_cons,okI,aq,cJ,er,e,e2,e3];by_cases hf:y.farm=x.farm
  ·rw[show(y.farm==x.farm)=true by simpa using hf];simp only[cond_true];have hw:i64.wrap (n - bB n y.litres)=n - bB n y.litres:=f8 (by omega) (by omega);change _∧∃ m,aq (cJ x l0) R.length (k+1) (A++mg y (bB n y.litres)::R,i64.wrap (n - bB n y.litres))=_;rw[hw];obtain⟨q1,m,q2⟩:=zV x l0 R (A++[mg y (bB n y.litres)]) (n - bB n y.litres) (k+1) (by simp[hk]) (by omega) (by omega) hR';rw[List.append_assoc,List.singleton_append]at q1 q2;refine⟨⟨⟨⟨by omega,hlen⟩,fun _=>⟨⟨by omega,hlen⟩,⟨by omega,hlen⟩,by omega,hlen2 _⟩⟩,fun s' hs=>?_⟩,m,?_⟩
   ·cases hs;change okI _ _ R.length (k+1) (A++mg y (bB n y.litres)::R,i64.wrap (n - bB n y.litres));rw[hw];exact q1
   ·rw[q2,n9,if_pos hf];simp
  ·rw[show(y.farm==x.farm)=false by simpa using hf];simp only[cond_false];obtain⟨q1,m,q2⟩:=zV x l0 R (A++[y]) n (k+1) (by simp[hk]) h0 h1 hR';rw[List.append_assoc,List.singleton_append]at q1 q2;refine⟨⟨⟨⟨by omega,hlen⟩,fun h=>(by cases h)⟩,fun s' hs=>?_⟩,m,?_⟩
   ·cases hs;exact q1
   ·rw[q2,n9,if_neg hf];simp
theorem Oc (x:Judgement)(l:List Claim)(h0:0≤x.n)(h1:x.n<4611686018427387904)(hl:Lit l):co x l∧bN x l=n9 x.farm x.n l:=by
 obtain⟨q1,m,q2⟩:=zV x l l [] x.n 0 rfl h0 h1 hl;rw[List.nil_append]at q1 q2;unfold co bN;rw[q2];exact⟨fun _=>q1,rfl⟩
theorem y6 (f:Int):∀ (l:List Claim) (n:Int),0≤n→Lit l→Lit (n9 f n l)∧(n9 f n l).length=l.length
 | [],n,h0,hl=>⟨(fun y hy=>by cases hy),rfl⟩
 |x::r,n,h0,hl=>by
  have hx:=hl x (by simp);have hm:=pu (a:=n) (b:=x.litres);unfold n9;by_cases hf:x.farm=f
  ·rw[if_pos hf];obtain⟨q1,q2⟩:=y6 f r (n - bB n x.litres) (by omega) fun z hz=>hl z (by simp[hz]);refine⟨fun y hy=>?_,by simp[q2]⟩;rcases List.mem_cons.1 hy with rfl|hy
   ·show 0≤bB n x.litres∧bB n x.litres<_;unfold bB;split <;>omega
   ·exact q1 y hy
  ·rw[if_neg hf];obtain⟨q1,q2⟩:=y6 f r n h0 fun z hz=>hl z (by simp[hz]);refine⟨fun y hy=>?_,by simp[q2]⟩;rcases List.mem_cons.1 hy with rfl|hy
   ·exact hx
   ·exact q1 y hy
theorem y7 (f:Int):∀ (l:List Claim) (n:Int),(n9 f n l).map (fun x=>mg x 0)=l.map fun x=>mg x 0
 | [],n=>rfl
 |x::r,n=>by
  unfold n9;by_cases hf:x.farm=f
  ·rw[if_pos hf,List.map_cons,List.map_cons,y7 f r];rfl
  ·rw[if_neg hf,List.map_cons,List.map_cons,y7 f r]
theorem G6 {l m:List Claim}(e:m.map (fun x=>mg x 0)=l.map fun x=>mg x 0)(h:l.Pairwise tlt):m.Pairwise tlt:=by
 have h1:(l.map fun x=>mg x 0).Pairwise tlt:=List.pairwise_map.2 (h.imp fun {a b} h=>h);rw[←e]at h1;exact(List.pairwise_map.1 h1).imp fun {a b} h=>h
theorem n_ (l:List Claim)(f:Int):∀ (R A:List Claim) (n:Int) (acc:List Claim) (k:Nat),l=A++R→A.length=k→0≤n→n<4611686018427387904→Lit R→(acc.length+R.length)*40≤cU→
  okI (mA l f) (ql l f) R.length k (n,acc)∧∃ m,aq (mA l f) R.length k (n,acc)=.inr (m,acc++(n9 f n R).filter fun x=>!ak x)
 | [],A,n,acc,k,hl,hk,h0,h1,hR,hb=>⟨trivial,n,by simp[aq,n9]⟩
 |y::R,A,n,acc,k,hl,hk,h0,h1,hR,hb=>by
  have hy:=hR y (by simp);have hR':Lit R:=fun z hz=>hR z (by simp[hz]);have e:l.getD k default=y:=by rw[hl];exact gc A y default R hk.symm
  have hm:=pu (a:=n) (b:=y.litres);simp only[List.length_cons]at hb;have hbd:∀ z:Claim,(acc++[z]).length*40≤cU:=fun z=>by rw[List.length_append];simp only[List.length_cons,List.length_nil];omega
  have hbn:∀ z:Claim,((acc++[z]).length+R.length)*40≤cU:=fun z=>by rw[List.length_append];simp only[List.length_cons,List.length_nil];omega
  have hl':l=(A++[y])++R:=by rw[hl];simp
  have e4:(if n<y.litres then n else y.litres)=bB n y.litres:=rfl;simp only[List.length_cons,okI,aq,mA,ql,e,e4];by_cases hf:y.farm=f
  ·rw[show(y.farm==f)=true by simpa using hf];simp only[cond_true];have hw:i64.wrap (n - bB n y.litres)=n - bB n y.litres:=f8 (by omega) (by omega);rw[hw,n9,if_pos hf];by_cases hp:bB n y.litres > 0
   ·rw[decide_eq_true hp];simp only[cond_true];obtain⟨q1,m,q2⟩:=n_ l f R (A++[y]) (n - bB n y.litres) (acc++[mg y (bB n y.litres)]) (k+1) hl' (by simp[hk]) (by omega) (by omega) hR' (hbn _);refine⟨⟨fun _=>⟨fun _ _=>hbd _,fun h=>(by cases h)⟩,fun s' hs=>?_⟩,m,?_⟩
    ·cases hs;exact q1
    ·rw[List.filter_cons_of_pos (by unfold ak mg;simp;omega)];refine Eq.trans q2 ?_;simp
   ·rw[decide_eq_false hp];simp only[cond_false];obtain⟨q1,m,q2⟩:=n_ l f R (A++[y]) (n - bB n y.litres) acc (k+1) hl' (by simp[hk]) (by omega) (by omega) hR' (by omega);refine⟨⟨fun _=>⟨fun _ h=>(by cases h),fun h=>(by cases h)⟩,fun s' hs=>?_⟩,m,?_⟩
    ·cases hs;exact q1
    ·rw[List.filter_cons_of_neg (by unfold ak mg;simp;omega)];exact q2
  ·rw[show(y.farm==f)=false by simpa using hf];simp only[cond_false];rw[n9,if_neg hf];by_cases hp:y.litres > 0
   ·rw[decide_eq_true hp];simp only[cond_true];obtain⟨q1,m,q2⟩:=n_ l f R (A++[y]) n (acc++[y]) (k+1) hl' (by simp[hk]) h0 h1 hR' (hbn _);refine⟨⟨fun _=>⟨fun h=>(by cases h),fun _ _=>hbd _⟩,fun s' hs=>?_⟩,m,?_⟩
    ·cases hs;exact q1
    ·rw[List.filter_cons_of_pos (by unfold ak;simp;omega)];refine Eq.trans q2 ?_;simp
   ·rw[decide_eq_false hp];simp only[cond_false];obtain⟨q1,m,q2⟩:=n_ l f R (A++[y]) n acc (k+1) hl' (by simp[hk]) h0 h1 hR' (by omega);refine⟨⟨fun _=>⟨fun h=>(by cases h),fun _ h=>(by cases h)⟩,fun s' hs=>?_⟩,m,?_⟩
    ·cases hs;exact q1
    ·rw[List.filter_cons_of_neg (by unfold ak;simp;omega)];exact q2
theorem sJ (x:Judgement)(l:List Claim)(h0:0≤x.n)(h1:x.n<4611686018427387904)(hl:Lit l)(hs:l.Pairwise tlt)(hb:l.length*40≤cU):
  (co x l∧cq (bN x l)∧tW l x.farm x.n)∧cP (bN x l)=eA l x.farm x.n∧eA l x.farm x.n=(n9 x.farm x.n l).filter fun y=>!ak y:=by
 obtain⟨q1,q2⟩:=Oc x l h0 h1 hl;obtain⟨r1,m,r2⟩:=n_ l x.farm l [] x.n [] 0 rfl rfl h0 h1 hl (by simpa using hb);have e:eA l x.farm x.n=(n9 x.farm x.n l).filter fun y=>!ak y:=by
  unfold eA;rw[r2,List.nil_append]
 obtain⟨t1,t2⟩:=Fg (l:=n9 x.farm x.n l) (by rw[(y6 x.farm l x.n h0 hl).2];unfold cU at hb;omega) (List.Perm.refl _) (List.Pairwise.filter _ (G6 (y7 x.farm l x.n) hs));rw[q2,e];exact⟨⟨q1,t1,r1⟩,t2,rfl⟩
def qZ (x:Claim):List Claim→List Claim
 | [] =>[x]
 |y::r=>if aH x y=true then x::y::r else mg x (x.litres+y.litres)::r
def gf (l:List Claim)(x:Claim):List Claim:=l.takeWhile (fun y=>aH y x)++qZ x (l.dropWhile fun y=>aH y x)
theorem J6 (l:List Claim)(x:Claim)(hb:(l.length+1)*40≤cU):∀ (R A:List Claim) (k:Nat),l=A++R→
  okI (jh l x) (mz l x) (R.length+1) k (A,(A.length:Int))∧aq (jh l x) (R.length+1) k (A,(A.length:Int))=.inl (((A++R.takeWhile fun y=>aH y x).length:Int),A++R.takeWhile fun y=>aH y x)
 | [],A,k,hl=>by
  have hA:l.length=A.length:=by rw[hl];simp
  have e:decide ((A.length:Int) < (l.length:Int))=false:=decide_eq_false (by omega);simp only[List.length_nil,okI,aq,jh,mz,e,Bool.false_and,cond_false,List.takeWhile_nil,List.append_nil];exact⟨⟨fun _=>⟨fun h=>(by cases h),fun h=>(by cases h)⟩,fun s h=>(by cases h)⟩,by simp⟩
 |y::R,A,k,hl=>by
  have hA:l.length=A.length+(R.length+1):=by rw[hl];simp
  have e:decide ((A.length:Int) < (l.length:Int))=true:=decide_eq_true (by omega);have g:l.getD (Int.toNat (A.length:Int)) default=y:=by rw[hl,Int.toNat_natCast];exact gc A y default R rfl
  have hw:i64.wrap ((A.length:Int)+1)=((A++[y]).length:Int):=by
   rw[f8 (by omega) (by unfold cU at hb;omega)];simp
  have hl2:(A++[y]).length*40≤cU:=by rw[List.length_append];simp only[List.length_cons,List.length_nil];omega
  simp only[List.length_cons];rw[okI,aq];simp only[jh,mz,e,g,Bool.true_and,hw];cases hB:aH y x with
  |false=>
   simp only[cond_false];rw[List.takeWhile_cons_of_neg (p:=fun y=>aH y x) (by rw[hB];simp),List.append_nil];exact⟨⟨fun _=>⟨fun _=>⟨by omega,by omega⟩,fun h=>(by cases h)⟩,fun s h=>(by cases h)⟩,by simp⟩
  |true=>
   simp only[cond_true];obtain⟨q1,q2⟩:=J6 l x hb R (A++[y]) (k+1) (by rw[hl];simp);rw[List.takeWhile_cons_of_pos (p:=fun y=>aH y x) hB];refine⟨⟨fun _=>⟨fun _=>⟨by omega,by omega⟩,fun _=>⟨⟨by omega,by omega⟩,hl2⟩⟩,fun s h=>?_⟩,?_⟩
   ·cases h;exact q1
   ·rw[q2];simp
theorem Od (l:List Claim)(x:Claim)(hb:(l.length+1)*40≤cU)(hx:0≤x.litres∧x.litres<4611686018427387904)(hl:Lit l):oS l x∧sg l x=gf l x:=by
 obtain⟨q1,q2⟩:=J6 l x hb l [] 0 rfl;simp only[List.length_nil,List.nil_append]at q1 q2;generalize hT:l.takeWhile (fun y=>aH y x)=T at q2;generalize hD:l.dropWhile (fun y=>aH y x)=D;have hTD:l=T++D:=by rw[←hT,←hD,List.takeWhile_append_dropWhile]
 have hlen:l.length=T.length+D.length:=by rw[hTD];simp
 have q2':aq (jh l x) (l.length+1) 0 ([],0)=.inl ((T.length:Int),T):=q2;have q1':okI (jh l x) (mz l x) (l.length+1) 0 ([],0):=q1;have hbT:∀ (z:Claim) (m:List Claim),T.length+1+m.length≤l.length+1→((T++[z])++m).length*40≤cU:=fun z m h=>by simp only[List.length_append,List.length_cons,List.length_nil];omega
 unfold oS sg gf;rw[hT,hD,q2'];have t1:l.take l.length=l:=List.take_length;have d1:l.drop T.length=D:=by rw[hTD];simp
 have hLD:Lit D:=fun y hy=>hl y (by rw[hTD];simp[hy]);cases D with
 |nil=>
  simp only[List.length_nil]at hlen;have e0:decide ((T.length:Int) < (l.length:Int))=false:=decide_eq_false (by omega);refine⟨⟨q1',fun z h=>(by cases h),fun r hr=>?_⟩,?_⟩
  ·cases hr;simp only[e0,Bool.false_and,Int.toNat_natCast,t1,d1];refine fun _=>⟨fun h=>(by cases h),fun h=>(by cases h),fun _=>⟨?_,fun _=>⟨⟨by omega,by omega,Int.le_refl _⟩,hbT x [] (by simp only[List.length_nil];omega)⟩⟩⟩;have:=hbT x [] (by simp only[List.length_nil];omega)
   rwa[List.append_nil]at this
  ·simp only[e0,Bool.false_and,cond_false,Int.toNat_natCast,t1,d1,qZ,List.append_nil]
 |cons y r=>
  simp only[List.length_cons]at hlen;have e1:decide ((T.length:Int) < (l.length:Int))=true:=decide_eq_true (by omega);have g:l.getD T.length default=y:=by rw[hTD];exact gc T y default r rfl
  have w1:i64.wrap ((T.length:Int)+1)=((T.length+1:Nat):Int):=by rw[f8 (by omega) (by unfold cU at hb;omega)];omega
  have d2:l.drop (T.length+1)=r:=by rw[←List.drop_drop,d1];rfl
  have hy:=hLD y (by simp);have w2:i64.wrap (x.litres+y.litres)=x.litres+y.litres:=f8 (by omega) (by omega);have b1:∀ z:Claim,(T++[z]).length*40≤cU:=fun z=>by
   have:=hbT z [] (by simp only[List.length_nil];omega)
   rwa[List.append_nil]at this
  refine⟨⟨q1',fun z h=>(by cases h),fun r' hr=>?_⟩,?_⟩
  ·cases hr;simp only[e1,g,Bool.true_and,w1,w2,Int.toNat_natCast,t1,d1,d2];exact fun _=>⟨fun _=>⟨by omega,by omega⟩,fun _=>⟨⟨by omega,by omega⟩,b1 _,fun _=>⟨⟨by omega,by omega,Int.le_refl _⟩,hbT _ r (by omega)⟩⟩,fun _=>⟨b1 _,fun _=>⟨⟨by omega,by omega,Int.le_refl _⟩,hbT _ (y::r) (by simp only[List.length_cons];omega)⟩⟩⟩
  ·simp only[e1,g,Bool.true_and,w1,w2,Int.toNat_natCast,t1,d1,d2,qZ];cases hB:aH x y with
   |false=>
    simp only[Bool.not_false,cond_true,Bool.false_eq_true,if_false];rw[List.append_assoc,List.singleton_append];rfl
   |true=>
    simp only[Bool.not_true,cond_false,if_true];rw[List.append_assoc,List.singleton_append]
def C_ (a b:Claim):Prop:=a.rank=b.rank∧a.right=b.right∧a.farm=b.farm
def amt:List Claim→Int→Int→Int
 | [],_,_=>0
 |x::l,r,p=>(if x.right=r∧x.farm=p then x.litres else 0)+amt l r p
theorem A3:∀ (l m:List Claim) (r p:Int),amt (l++m) r p=amt l r p+amt m r p
 | [],m,r,p=>by simp[amt]
 |x::l,m,r,p=>by rw[List.cons_append,amt,amt,A3 l m r p];omega
theorem qp {a b:Claim}(h:a.hour=b.hour):aH a b=true↔tlt a b:=by
 rw[yj,decide_eq_true_eq,y3];simp only[xo,tlt,s6,and_false,or_false];omega
theorem zW {a b c:Claim}(h1:tlt a b)(h2:tlt b c):tlt a c:=by simp only[tlt,s6,and_false,or_false]at *;omega
theorem Fh {a b:Claim}(h1:¬tlt a b)(h2:¬tlt b a):C_ a b:=by simp only[tlt,s6,and_false,or_false,C_]at *;omega
theorem G7 {a b c:Claim}(h1:tlt a b)(h2:C_ c b):tlt a c:=by simp only[tlt,s6,and_false,or_false,C_]at *;omega
theorem Oe {a b c:Claim}(h1:tlt a b)(h2:C_ c a):tlt c b:=by simp only[tlt,s6,and_false,or_false,C_]at *;omega
theorem sK (y:Claim)(l:List Claim)(x:Claim):gf (y::l) x=if aH y x=true then y::gf l x else qZ x (y::l):=by
 unfold gf;by_cases h:aH y x=true
 ·rw[if_pos h,List.takeWhile_cons_of_pos (p:=fun y=>aH y x) h,List.dropWhile_cons_of_pos (p:=fun y=>aH y x) h];rfl
 ·rw[if_neg h,List.takeWhile_cons_of_neg (p:=fun y=>aH y x) h,List.dropWhile_cons_of_neg (p:=fun y=>aH y x) h];rfl
theorem Cz (x:Claim):∀ (l:List Claim),l.Pairwise tlt→(∀ y∈l,y.hour=x.hour)→
  (gf l x).Pairwise tlt∧(∀ z∈gf l x,z.hour=x.hour∧(C_ z x∨∃ w∈l,C_ z w))∧∀ r p,amt (gf l x) r p=amt l r p+if x.right=r∧x.farm=p then x.litres else 0
 | [],_,_=>by
  refine⟨List.pairwise_singleton _ _,fun z hz=>?_,fun r p=>?_⟩
  ·have:z=x:=by simpa[gf,qZ]using hz
   subst this;exact⟨rfl,.inl ⟨rfl,rfl,rfl⟩⟩
  ·simp[gf,qZ,amt]
 |y::l,hs,hh=>by
  have hs':=List.pairwise_cons.1 hs;have hy:=hh y (by simp);have hh':∀ z∈l,z.hour=x.hour:=fun z hz=>hh z (by simp[hz]);rw[sK];by_cases h1:aH y x=true
  ·rw[if_pos h1];have t1:=(qp hy).1 h1;obtain⟨q1,q2,q3⟩:=Cz x l hs'.2 hh';refine⟨List.pairwise_cons.2 ⟨fun z hz=>?_,q1⟩,fun z hz=>?_,fun r p=>?_⟩
   ·rcases(q2 z hz).2 with h| ⟨w,hw,h⟩
    ·exact G7 t1 h
    ·exact G7 (hs'.1 w hw) h
   ·rcases List.mem_cons.1 hz with rfl|hz
    ·exact⟨hy,.inr ⟨z,by simp,rfl,rfl,rfl⟩⟩
    ·obtain⟨g1,g2⟩:=q2 z hz;refine⟨g1,?_⟩;rcases g2 with h| ⟨w,hw,h⟩
     ·exact .inl h
     ·exact .inr ⟨w,by simp[hw],h⟩
   ·rw[amt,amt,q3];omega
  ·rw[if_neg h1];have t1:¬tlt y x:=fun h=>h1 ((qp hy).2 h);by_cases h2:aH x y=true
   ·have t2:=(qp hy.symm).1 h2;rw[qZ,if_pos h2];refine⟨List.pairwise_cons.2 ⟨fun z hz=>?_,hs⟩,fun z hz=>?_,fun r p=>?_⟩
    ·rcases List.mem_cons.1 hz with rfl|hz
     ·exact t2
     ·exact zW t2 (hs'.1 z hz)
    ·rcases List.mem_cons.1 hz with rfl|hz
     ·exact⟨rfl,.inl ⟨rfl,rfl,rfl⟩⟩
     ·exact⟨hh z hz,.inr ⟨z,hz,rfl,rfl,rfl⟩⟩
    ·rw[amt];omega
   ·have t2:¬tlt x y:=fun h=>h2 ((qp hy.symm).2 h);have hk:=Fh t2 t1;rw[qZ,if_neg h2];refine⟨List.pairwise_cons.2 ⟨fun z hz=>Oe (hs'.1 z hz) hk,hs'.2⟩,fun z hz=>?_,fun r p=>?_⟩
    ·rcases List.mem_cons.1 hz with rfl|hz
     ·exact⟨rfl,.inl ⟨rfl,rfl,rfl⟩⟩
     ·exact⟨hh' z hz,.inr ⟨z,by simp[hz],rfl,rfl,rfl⟩⟩
    ·rw[amt,amt];obtain⟨_,k2,k3⟩:=hk;show(if x.right=r∧x.farm=p then x.litres+y.litres else 0)+_=_;rw[k2,k3];split <;>omega
theorem y8:∀ {l:List Claim} {r p:Int},(∀ y∈l,¬ (y.right=r∧y.farm=p))→amt l r p=0
 | [],_,_,_=>rfl
 |x::l,r,p,h=>by rw[amt,if_neg (h x (by simp)),y8 fun y hy=>h y (by simp[hy])];rfl
structure Dock (ρ:Int→Int)(h:Int)(l:List Claim):Prop where
 s:l.Pairwise tlt
 rk:∀ y∈l,y.rank=ρ y.right
 hr:∀ y∈l,y.hour=h
 pos:∀ y∈l,0<y.litres
section
variable {ρ:Int→Int}{h:Int}
theorem Dock.tail {x:Claim}{l:List Claim}(d:Dock ρ h (x::l)):Dock ρ h l:=⟨(List.pairwise_cons.1 d.s).2,fun y hy=>d.rk y (by simp[hy]),fun y hy=>d.hr y (by simp[hy]),fun y hy=>d.pos y (by simp[hy])⟩
theorem IR {x y:Claim}(h1:tlt x y)(hx:x.rank=ρ x.right)(hy:y.rank=ρ y.right):¬ (y.right=x.right∧y.farm=x.farm):=by
 rintro⟨e1,e2⟩;rw[e1]at hy;simp only[tlt,s6,and_false,or_false]at h1;omega
theorem Dock.head {x:Claim}{l:List Claim}(d:Dock ρ h (x::l)):amt (x::l) x.right x.farm=x.litres:=by
 rw[amt,if_pos ⟨rfl,rfl⟩,y8 fun y hy=>IR ((List.pairwise_cons.1 d.s).1 y hy) (d.rk x (by simp)) (d.rk y (by simp[hy]))];omega
theorem Dock.below {x:Claim}{l:List Claim}(d:Dock ρ h l)(hx:x.rank=ρ x.right)(hl:∀ y∈l,tlt x y):amt l x.right x.farm=0:=y8 fun y hy=>IR (hl y hy) hx (d.rk y hy)
theorem zX:∀ {l m:List Claim},Dock ρ h l→Dock ρ h m→(∀ r p,amt l r p=amt m r p)→l=m
 | [],[],_,_,_=>rfl
 | [],b::m,_,dm,e=>by
  have h1:=e b.right b.farm;rw[dm.head]at h1;have h2:=dm.pos b (by simp);simp only[amt]at h1;omega
 |a::l,[],dl,_,e=>by
  have h1:=e a.right a.farm;rw[dl.head]at h1;have h2:=dl.pos a (by simp);simp only[amt]at h1;omega
 |a::l,b::m,dl,dm,e=>by
  have ra:=dl.rk a (by simp);have rb:=dm.rk b (by simp);have la:=List.pairwise_cons.1 dl.s;have lb:=List.pairwise_cons.1 dm.s;by_cases h1:tlt a b
  ·have h2:=e a.right a.farm;rw[dl.head,dm.below ra fun y hy=>by
    rcases List.mem_cons.1 hy with rfl|hy
    ·exact h1
    ·exact zW h1 (lb.1 y hy)]at h2
   have:=dl.pos a (by simp);omega
  ·by_cases h2:tlt b a
   ·have h3:=e b.right b.farm;rw[dm.head,dl.below rb fun y hy=>by
     rcases List.mem_cons.1 hy with rfl|hy
     ·exact h2
     ·exact zW h2 (la.1 y hy)]at h3
    have:=dm.pos b (by simp);omega
   ·obtain⟨k1,k2,k3⟩:=Fh h1 h2;have h3:=e a.right a.farm;have h4:=dm.head;rw[dl.head,k2,k3,h4]at h3;have hab:a=b:=by
     have e1:=(dl.hr a (by simp)).trans (dm.hr b (by simp)).symm;cases a;cases b;simp only at k1 k2 k3 h3 e1;subst k1 k2 k3 h3 e1;rfl
    subst hab;rw[zX dl.tail dm.tail fun r p=>by have:=e r p;rw[amt,amt]at this;omega]
theorem yl:∀ (l:List Claim) (r p:Int),amt (l.filter fun x=>!ak x) r p=amt l r p
 | [],_,_=>rfl
 |x::l,r,p=>by
  by_cases hx:x.litres=0
  ·rw[List.filter_cons_of_neg (by unfold ak;simp[hx]),yl l,amt,hx];split <;>omega
  ·rw[List.filter_cons_of_pos (by unfold ak;simp[hx]),amt,amt,yl l]
theorem CA {l m:List Claim}(h:l.Perm m)(r p:Int):amt l r p=amt m r p:=by
 induction h with
 |nil=>rfl
 |cons x _ ih=>rw[amt,amt,ih]
 |swap x y l=>rw[amt,amt,amt,amt];omega
 |trans _ _ h1 h2=>rw[h1,h2]
end
abbrev nL (b:Int)(l:List Claim):Prop:= ∀ y∈l,0≤y.litres∧y.litres≤b
theorem G8 {b c:Int}{x:Claim}{l:List Claim}(hb:0≤b)(hl:nL b l)(hx:0≤x.litres∧x.litres≤c):nL (b+c) (qZ x l)∧(qZ x l).length≤l.length+1:=by
 cases l with
 |nil=>
  refine⟨fun y hy=>?_,by simp[qZ]⟩;have:y=x:=by simpa[qZ]using hy
  subst this;omega
 |cons y r=>
  have hy:=hl y (by simp);rw[qZ];by_cases h:aH x y=true
  ·rw[if_pos h];refine⟨fun z hz=>?_,by simp⟩;rcases List.mem_cons.1 hz with rfl|hz
   ·omega
   ·have:=hl z hz;omega
  ·rw[if_neg h];refine⟨fun z hz=>?_,by simp⟩;rcases List.mem_cons.1 hz with rfl|hz
   ·show 0≤x.litres+y.litres∧x.litres+y.litres≤b+c;omega
   ·have:=hl z (by simp[hz]);omega
theorem A4 {b c:Int}{x:Claim}(hb:0≤b)(hx:0≤x.litres∧x.litres≤c):∀ {l:List Claim},nL b l→nL (b+c) (gf l x)∧(gf l x).length≤l.length+1
 | [],hl=>G8 hb hl hx
 |y::l,hl=>by
  rw[sK];split
  ·obtain⟨q1,q2⟩:=A4 hb hx (l:=l) fun z hz=>hl z (by simp[hz]);have hy:=hl y (by simp);refine⟨fun z hz=>?_,by simp only[List.length_cons];omega⟩;rcases List.mem_cons.1 hz with rfl|hz
   ·omega
   ·exact q1 z hz
  ·exact G8 hb hl hx
def y9 (y:Claim)(o n:Int):Claim:= { right:=y.right,farm:=o,hour:=y.hour,litres:=n,rank:=y.rank}
def gv (f o:Int):List Claim→Int→List Claim→List Claim→List Claim×List Claim
 | [],_,K,G=>(K,G)
 |y::r,n,K,G=>if y.farm=f then gv f o r (n - bB n y.litres) (if y.litres - bB n y.litres > 0 then gf K (mg y (y.litres - bB n y.litres))else K) (if bB n y.litres > 0 then G++[y9 y o (bB n y.litres)]else G)
  else gv f o r n (if y.litres > 0 then gf K y else K) G
theorem Of (l:List Claim)(f o b0:Int)(hb0:0≤b0∧b0≤4398046511104)(hll:l.length≤8192)(hmB:(l.length+2)*40≤cU):∀ (R B:List Claim) (n:Int) (K G:List Claim) (k:Nat),l=R.reverse++B→0≤n→n<4611686018427387904→nL b0 R→
  nL ((B.length:Int)*b0) K→K.length≤B.length→G.length≤B.length→
  okI (iy l f o) (li l f o) (R.length+1) k (n,K,G,(R.length:Int) - 1)∧aq (iy l f o) (R.length+1) k (n,K,G,(R.length:Int) - 1)=.inl (gv f o R n K G)
 | [],B,n,K,G,k,hl,h0,h1,hR,hK,hKl,hGl=>by
  have e:decide (((0:Nat):Int) - 1≥0)=false:=decide_eq_false (by omega);simp only[List.length_nil,okI,aq,iy,li,e,cond_false,gv];exact⟨⟨fun h=>(by cases h),fun s h=>(by cases h)⟩,by simp⟩
 |y::R,B,n,K,G,k,hl,h0,h1,hR,hK,hKl,hGl=>by
  have hy:=hR y (by simp);have hR':nL b0 R:=fun z hz=>hR z (by simp[hz]);have hlen:l.length=R.length+1+B.length:=by rw[hl];simp;omega
  have hl':l=R.reverse++(y::B):=by rw[hl];simp
  have hi:(((y::R).length:Nat):Int) - 1=(R.length:Int):=by simp
  have g:l.getD (Int.toNat (R.length:Int)) default=y:=by rw[hl',Int.toNat_natCast];exact gc R.reverse y default B (by simp)
  have e:decide ((R.length:Int)≥0)=true:=decide_eq_true (by omega);have w1:i64.wrap ((R.length:Int) - 1)=(R.length:Int) - 1:=f8 (by omega) (by omega);have hm:=pu (a:=n) (b:=y.litres);have hm0:0≤bB n y.litres:=by omega
  have e4:(if n<y.litres then n else y.litres)=bB n y.litres:=rfl;have w2:i64.wrap (n - bB n y.litres)=n - bB n y.litres:=f8 (by omega) (by omega);have w3:i64.wrap (y.litres - bB n y.litres)=y.litres - bB n y.litres:=f8 (by omega) (by omega);have hBb:0≤(B.length:Int)*b0∧(B.length:Int)*b0≤36028797018963968:=by
   refine⟨Int.mul_nonneg (by omega) hb0.1,?_⟩;have h2:(B.length:Int)*b0≤8192*b0:=Int.mul_le_mul_of_nonneg_right (by omega) hb0.1;omega
  have hKL:Lit K:=fun z hz=>by have:=hK z hz;omega
  have hB1:(((y::B).length:Nat):Int)*b0=(B.length:Int)*b0+b0:=by rw[List.length_cons,Int.natCast_add,Int.add_mul];simp
  have hG:∀ z:Claim,(G++[z]).length*40≤cU∧(G++[z]).length≤(y::B).length:=fun z=>by
   rw[List.length_append];simp only[List.length_cons,List.length_nil];omega
  have hKm:nL ((((y::B).length:Nat):Int)*b0) K:=fun z hz=>by rw[hB1];have:=hK z hz;omega
  have P:∀ z:Claim,0≤z.litres∧z.litres≤b0→oS K z∧sg K z=gf K z∧nL ((((y::B).length:Nat):Int)*b0) (gf K z)∧(gf K z).length≤(y::B).length:=fun z hz=>by
   obtain⟨p1,p2⟩:=Od K z (by omega) (by omega) hKL;obtain⟨p3,p4⟩:=A4 hBb.1 hz hK;exact⟨p1,p2,by rw[hB1];exact p3,by simp only[List.length_cons];omega⟩
  rw[hi];simp only[List.length_cons];rw[okI,aq];simp only[iy,li,e,g,e4,w1,w2,w3,cond_true];have rec_:∀ (n':Int) (K' G':List Claim),0≤n'→n'≤n→nL ((((y::B).length:Nat):Int)*b0) K'→K'.length≤(y::B).length→G'.length≤(y::B).length→okI (iy l f o) (li l f o) (R.length+1) (k+1) (n',K',G',(R.length:Int) - 1)∧aq (iy l f o) (R.length+1) (k+1) (n',K',G',(R.length:Int) - 1)=.inl (gv f o R n' K' G'):=fun n' K' G' a1 a2 a3 a4 a5=>Of l f o b0 hb0 hll hmB R (y::B) n' K' G' (k+1) hl' a1 (by omega) hR' a3 a4 a5;have hKs:K.length≤(y::B).length:=by simp only[List.length_cons];omega
  have hGs:G.length≤(y::B).length:=by simp only[List.length_cons];omega
  have hidx:(0:Int)≤(R.length:Int)∧(R.length:Int) < (l.length:Int):=⟨by omega,by omega⟩;by_cases hf:y.farm=f
  ·rw[show(y.farm==f)=true by simpa using hf,gv,if_pos hf];simp only[cond_true];by_cases hg:bB n y.litres > 0
   ·rw[decide_eq_true hg,if_pos hg];simp only[cond_true];by_cases hr:y.litres - bB n y.litres > 0
    ·rw[decide_eq_true hr,if_pos hr];simp only[cond_true];obtain⟨p1,p2,p3,p4⟩:=P (mg y (y.litres - bB n y.litres)) ⟨by show 0≤y.litres - bB n y.litres;omega,by show y.litres - bB n y.litres≤b0;omega⟩;obtain⟨q1,q2⟩:=rec_ (n - bB n y.litres) (gf K (mg y (y.litres - bB n y.litres))) (G++[y9 y o (bB n y.litres)]) (by omega) (by omega) p3 p4 (hG _).2;rw[←p2]at q1 q2 ⊢;exact⟨⟨fun _=>⟨hidx,fun _=>⟨fun _=>⟨(hG _).1,fun _ _=>p1⟩,fun h=>(by cases h)⟩,fun h=>(by cases h)⟩,fun s h=>by cases h;exact q1⟩,q2⟩
    ·rw[decide_eq_false hr,if_neg hr];simp only[cond_false];obtain⟨q1,q2⟩:=rec_ (n - bB n y.litres) K (G++[y9 y o (bB n y.litres)]) (by omega) (by omega) hKm hKs (hG _).2;exact⟨⟨fun _=>⟨hidx,fun _=>⟨fun _=>⟨(hG _).1,fun _ h=>(by cases h)⟩,fun h=>(by cases h)⟩,fun h=>(by cases h)⟩,fun s h=>by cases h;exact q1⟩,q2⟩
   ·rw[decide_eq_false hg,if_neg hg];simp only[cond_false];by_cases hr:y.litres - bB n y.litres > 0
    ·rw[decide_eq_true hr,if_pos hr];simp only[cond_true];obtain⟨p1,p2,p3,p4⟩:=P (mg y (y.litres - bB n y.litres)) ⟨by show 0≤y.litres - bB n y.litres;omega,by show y.litres - bB n y.litres≤b0;omega⟩;obtain⟨q1,q2⟩:=rec_ (n - bB n y.litres) (gf K (mg y (y.litres - bB n y.litres))) G (by omega) (by omega) p3 p4 hGs;rw[←p2]at q1 q2 ⊢;exact⟨⟨fun _=>⟨hidx,fun _=>⟨fun h=>(by cases h),fun _ _=>p1⟩,fun h=>(by cases h)⟩,fun s h=>by cases h;exact q1⟩,q2⟩
    ·rw[decide_eq_false hr,if_neg hr];simp only[cond_false];obtain⟨q1,q2⟩:=rec_ (n - bB n y.litres) K G (by omega) (by omega) hKm hKs hGs;exact⟨⟨fun _=>⟨hidx,fun _=>⟨fun h=>(by cases h),fun _ h=>(by cases h)⟩,fun h=>(by cases h)⟩,fun s h=>by cases h;exact q1⟩,q2⟩
  ·rw[show(y.farm==f)=false by simpa using hf,gv,if_neg hf];simp only[cond_false];by_cases hr:y.litres > 0
   ·rw[decide_eq_true hr,if_pos hr];simp only[cond_true];obtain⟨p1,p2,p3,p4⟩:=P y hy;obtain⟨q1,q2⟩:=rec_ n (gf K y) G h0 (by omega) p3 p4 hGs;rw[←p2]at q1 q2 ⊢;exact⟨⟨fun _=>⟨hidx,fun h=>(by cases h),fun _ _=>p1⟩,fun s h=>by cases h;exact q1⟩,q2⟩
   ·rw[decide_eq_false hr,if_neg hr];simp only[cond_false];obtain⟨q1,q2⟩:=rec_ n K G h0 (by omega) hKm hKs hGs;exact⟨⟨fun _=>⟨hidx,fun h=>(by cases h),fun _ h=>(by cases h)⟩,fun s h=>by cases h;exact q1⟩,q2⟩
section
variable {ρ:Int→Int}{h:Int}
theorem J7 {x:Claim}(hx:0<x.litres):∀ {l:List Claim},(∀ y∈l,0<y.litres)→∀ z∈gf l x,0<z.litres
 | [],_,z,hz=>by
  have:z=x:=by simpa[gf,qZ]using hz
  subst this;exact hx
 |y::l,hl,z,hz=>by
  rw[sK]at hz;have hy:=hl y (by simp);by_cases h1:aH y x=true
  ·rw[if_pos h1]at hz;rcases List.mem_cons.1 hz with rfl|hz
   ·exact hy
   ·exact J7 hx (fun w hw=>hl w (by simp[hw])) z hz
  ·rw[if_neg h1,qZ]at hz;by_cases h2:aH x y=true
   ·rw[if_pos h2]at hz;rcases List.mem_cons.1 hz with rfl|hz
    ·exact hx
    ·exact hl z hz
   ·rw[if_neg h2]at hz;rcases List.mem_cons.1 hz with rfl|hz
    ·show 0<x.litres+y.litres;omega
    ·exact hl z (by simp[hz])
theorem Dock.put {l:List Claim}{x:Claim}(d:Dock ρ h l)(hx:0<x.litres)(hr:x.rank=ρ x.right)(hh:x.hour=h):Dock ρ h (gf l x)∧∀ r p,amt (gf l x) r p=amt l r p+if x.right=r∧x.farm=p then x.litres else 0:=by
 obtain⟨q1,q2,q3⟩:=Cz x l d.s fun y hy=>(d.hr y hy).trans hh.symm;refine⟨⟨q1,fun z hz=>?_,fun z hz=>(q2 z hz).1.trans hh,J7 hx d.pos⟩,q3⟩;rcases(q2 z hz).2 with⟨k1,k2,_⟩ | ⟨w,hw,k1,k2,_⟩
 ·rw[k1,k2];exact hr
 ·rw[k1,k2];exact d.rk w hw
structure Gift (ρ:Int→Int)(h o:Int)(l:List Claim):Prop where
 rk:∀ y∈l,y.rank=ρ y.right
 hr:∀ y∈l,y.hour=h
 pos:∀ y∈l,0<y.litres
 fm:∀ y∈l,y.farm=o
theorem Fi {f o:Int}:∀ (R:List Claim) (n:Int) (K G:List Claim),0≤n→(∀ y∈R,y.rank=ρ y.right∧y.hour=h∧0≤y.litres)→Dock ρ h K→Gift ρ h o G→
  Dock ρ h (gv f o R n K G).1∧Gift ρ h o (gv f o R n K G).2∧∀ r p,amt (gv f o R n K G).1 r p+(if p=f then amt (gv f o R n K G).2 r o else 0)=amt K r p+amt R r p+(if p=f then amt G r o else 0)
 | [],n,K,G,h0,hR,dK,dG=>⟨dK,dG,fun r p=>by simp only[gv,amt];omega⟩
 |y::R,n,K,G,h0,hR,dK,dG=>by
  have hy:=hR y (by simp);have hR':∀ z∈R,z.rank=ρ z.right∧z.hour=h∧0≤z.litres:=fun z hz=>hR z (by simp[hz]);have hm:=pu (a:=n) (b:=y.litres);have hm0:0≤bB n y.litres:=by omega
  by_cases hf:y.farm=f
  ·rw[gv,if_pos hf];have k1:Dock ρ h (if y.litres - bB n y.litres > 0 then gf K (mg y (y.litres - bB n y.litres))else K)∧∀ r p,amt (if y.litres - bB n y.litres > 0 then gf K (mg y (y.litres - bB n y.litres))else K) r p=amt K r p+if y.right=r∧y.farm=p then y.litres - bB n y.litres else 0:=by
    by_cases hr:y.litres - bB n y.litres > 0
    ·rw[if_pos hr];exact dK.put (x:=mg y (y.litres - bB n y.litres)) hr hy.1 hy.2.1
    ·rw[if_neg hr];exact⟨dK,fun r p=>by split <;>omega⟩
   have k2:Gift ρ h o (if bB n y.litres > 0 then G++[y9 y o (bB n y.litres)]else G)∧∀ r,amt (if bB n y.litres > 0 then G++[y9 y o (bB n y.litres)]else G) r o=amt G r o+if y.right=r then bB n y.litres else 0:=by
    by_cases hr:bB n y.litres > 0
    ·rw[if_pos hr];refine⟨⟨fun z hz=>?_,fun z hz=>?_,fun z hz=>?_,fun z hz=>?_⟩,fun r=>?_⟩
     ·rcases List.mem_append.1 hz with hz|hz
      ·exact dG.rk z hz
      ·rw[List.mem_singleton.1 hz];exact hy.1
     ·rcases List.mem_append.1 hz with hz|hz
      ·exact dG.hr z hz
      ·rw[List.mem_singleton.1 hz];exact hy.2.1
     ·rcases List.mem_append.1 hz with hz|hz
      ·exact dG.pos z hz
      ·rw[List.mem_singleton.1 hz];exact hr
     ·rcases List.mem_append.1 hz with hz|hz
      ·exact dG.fm z hz
      ·rw[List.mem_singleton.1 hz];rfl
     ·rw[A3,amt,amt];show _+((if y.right=r∧o=o then bB n y.litres else 0)+0)=_;simp
    ·rw[if_neg hr];exact⟨dG,fun r=>by split <;>omega⟩
   obtain⟨q1,q2,q3⟩:=Fi R (n - bB n y.litres) _ _ (by omega) hR' k1.1 k2.1;refine⟨q1,q2,fun r p=>?_⟩;rw[q3,k1.2,k2.2,amt];by_cases hp:p=f
   ·subst hp;by_cases hr:y.right=r
    ·simp only[hr,hf,and_self,if_true];omega
    ·simp only[hr,false_and,if_false,if_true];omega
   ·have:¬ (y.right=r∧y.farm=p):=fun e=>hp (by rw[←e.2,hf]);simp only[if_neg hp,if_neg this];omega
  ·rw[gv,if_neg hf];have k1:Dock ρ h (if y.litres > 0 then gf K y else K)∧∀ r p,amt (if y.litres > 0 then gf K y else K) r p=amt K r p+if y.right=r∧y.farm=p then y.litres else 0:=by
    by_cases hr:y.litres > 0
    ·rw[if_pos hr];exact dK.put hr hy.1 hy.2.1
    ·rw[if_neg hr];exact⟨dK,fun r p=>by split <;>omega⟩
   obtain⟨q1,q2,q3⟩:=Fi R n _ G h0 hR' k1.1 dG;refine⟨q1,q2,fun r p=>?_⟩;rw[q3,k1.2,amt];omega
theorem Fj {o:Int}:∀ (G K:List Claim),Dock ρ h K→Gift ρ h o G→Dock ρ h (G.foldl gf K)∧∀ r p,amt (G.foldl gf K) r p=amt K r p+amt G r p
 | [],K,dK,_=>⟨dK,fun r p=>by simp[amt]⟩
 |x::G,K,dK,dG=>by
  obtain⟨q1,q2⟩:=dK.put (dG.pos x (by simp)) (dG.rk x (by simp)) (dG.hr x (by simp));obtain⟨p1,p2⟩:=Fj G (gf K x) q1 ⟨fun y hy=>dG.rk y (by simp[hy]),fun y hy=>dG.hr y (by simp[hy]),fun y hy=>dG.pos y (by simp[hy]),fun y hy=>dG.fm y (by simp[hy])⟩;refine⟨p1,fun r p=>?_⟩;rw[List.foldl_cons,p2,q2,amt];omega
end
theorem Q4 (c b:Int):(c+1)*b=c*b+b:=by rw[Int.add_mul];simp
theorem IS {f o b0:Int}(hb0:0≤b0):∀ (R:List Claim) (n:Int) (K G:List Claim) (c:Nat),0≤n→nL b0 R→nL ((c:Int)*b0) K→nL b0 G→K.length≤c→G.length≤c→
  nL (((c+R.length:Nat):Int)*b0) (gv f o R n K G).1∧nL b0 (gv f o R n K G).2∧(gv f o R n K G).1.length≤c+R.length∧(gv f o R n K G).2.length≤c+R.length
 | [],n,K,G,c,h0,hR,hK,hG,hkl,hgl=>⟨hK,hG,hkl,hgl⟩
 |y::R,n,K,G,c,h0,hR,hK,hG,hkl,hgl=>by
  have hy:=hR y (by simp);have hR':nL b0 R:=fun z hz=>hR z (by simp[hz]);have hm:=pu (a:=n) (b:=y.litres);have hcb:0≤(c:Int)*b0:=Int.mul_nonneg (by omega) hb0;have e1:((c+1:Nat):Int)*b0=(c:Int)*b0+b0:=Q4 c b0;have e2:c+1+R.length=c+(y::R).length:=by simp only[List.length_cons];omega
  have hK1:nL (((c+1:Nat):Int)*b0) K:=fun z hz=>by have:=hK z hz;omega
  have P:∀ z:Claim,0≤z.litres∧z.litres≤b0→nL (((c+1:Nat):Int)*b0) (gf K z)∧(gf K z).length≤c+1:=fun z hz=>by
   obtain⟨p3,p4⟩:=A4 hcb hz hK;exact⟨by rw[e1];exact p3,by omega⟩
  by_cases hf:y.farm=f
  ·rw[gv,if_pos hf,←e2];have k1:nL (((c+1:Nat):Int)*b0) (if y.litres - bB n y.litres > 0 then gf K (mg y (y.litres - bB n y.litres))else K)∧(if y.litres - bB n y.litres > 0 then gf K (mg y (y.litres - bB n y.litres))else K).length≤c+1:=by
    by_cases hr:y.litres - bB n y.litres > 0
    ·rw[if_pos hr];exact P (mg y (y.litres - bB n y.litres)) ⟨by show 0≤y.litres - bB n y.litres;omega,by show y.litres - bB n y.litres≤b0;omega⟩
    ·rw[if_neg hr];exact⟨hK1,by omega⟩
   have k2:nL b0 (if bB n y.litres > 0 then G++[y9 y o (bB n y.litres)]else G)∧(if bB n y.litres > 0 then G++[y9 y o (bB n y.litres)]else G).length≤c+1:=by
    by_cases hr:bB n y.litres > 0
    ·rw[if_pos hr];refine⟨fun z hz=>?_,by rw[List.length_append];simp only[List.length_cons,List.length_nil];omega⟩;rcases List.mem_append.1 hz with hz|hz
     ·exact hG z hz
     ·rw[List.mem_singleton.1 hz];show 0≤bB n y.litres∧bB n y.litres≤b0;omega
    ·rw[if_neg hr];exact⟨hG,by omega⟩
   exact IS hb0 R (n - bB n y.litres) _ _ (c+1) (by omega) hR' k1.1 k2.1 k1.2 k2.2
  ·rw[gv,if_neg hf,←e2];have k1:nL (((c+1:Nat):Int)*b0) (if y.litres > 0 then gf K y else K)∧(if y.litres > 0 then gf K y else K).length≤c+1:=by
    by_cases hr:y.litres > 0
    ·rw[if_pos hr];exact P y hy
    ·rw[if_neg hr];exact⟨hK1,by omega⟩
   exact IS hb0 R n _ G (c+1) h0 hR' k1.1 hG k1.2 (by omega)
theorem G9 (K0:List Claim){b0:Int}(hb0:0≤b0∧b0≤4398046511104)(G:List Claim):∀ (R A K:List Claim) (k c:Nat),G=A++R→A.length=k→nL b0 R→nL ((c:Int)*b0) K→K.length≤c→c+R.length≤32768→
  okI (n8 (K0,G)) (rI (K0,G)) R.length k K∧aq (n8 (K0,G)) R.length k K=.inr (R.foldl gf K)
 | [],A,K,k,c,hG,hk,hR,hK,hKl,hc=>⟨trivial,rfl⟩
 |y::R,A,K,k,c,hG,hk,hR,hK,hKl,hc=>by
  have hy:=hR y (by simp);simp only[List.length_cons]at hc;have hm:(K.length+1)*40≤cU:=by unfold cU;omega
  have g:G.getD k default=y:=by rw[hG];exact gc A y default R hk.symm
  have hcb:0≤(c:Int)*b0∧(c:Int)*b0≤144115188075855872:=by
   refine⟨Int.mul_nonneg (by omega) hb0.1,?_⟩;have h2:(c:Int)*b0≤32768*b0:=Int.mul_le_mul_of_nonneg_right (by omega) hb0.1;omega
  have e1:((c+1:Nat):Int)*b0=(c:Int)*b0+b0:=Q4 c b0;obtain⟨p1,p2⟩:=Od K y hm (by omega) (fun z hz=>by have:=hK z hz;omega);obtain⟨p3,p4⟩:=A4 hcb.1 hy hK;obtain⟨q1,q2⟩:=G9 K0 hb0 G R (A++[y]) (gf K y) (k+1) (c+1) (by rw[hG];simp) (by simp[hk]) (fun z hz=>hR z (by simp[hz])) (by rw[e1];exact p3) (by omega) (by omega);simp only[List.length_cons,okI,aq,n8,rI,g,p2,List.foldl_cons];exact⟨⟨fun _=>p1,fun s h=>by cases h;exact q1⟩,q2⟩
theorem tJ (l:List Claim)(f o n:Int){b0:Int}(hb0:0≤b0∧b0≤4398046511104)(hll:l.length≤8192)(h0:0≤n)(h1:n<4611686018427387904)(hl:nL b0 l):
  r7 l f o n∧jw l f o n=(gv f o l.reverse n [] []).2.foldl gf (gv f o l.reverse n [] []).1:=by
 have hr:nL b0 l.reverse:=fun y hy=>hl y (by simpa using hy);obtain⟨q1,q2⟩:=Of l f o b0 hb0 hll (by unfold cU;omega) l.reverse [] n [] [] 0 (by simp) h0 h1 hr (fun y hy=>by cases hy) (by simp) (by simp);obtain⟨g1,g2,g3,g4⟩:=IS (f:=f) (o:=o) hb0.1 l.reverse n [] [] 0 h0 hr (fun y hy=>by cases hy) (fun y hy=>by cases hy) (by simp) (by simp);simp only[List.length_reverse,Nat.zero_add]at q1 q2 g1 g3 g4;obtain⟨r1,r2⟩:=G9 (gv f o l.reverse n [] []).1 hb0 (gv f o l.reverse n [] []).2 (gv f o l.reverse n [] []).2 [] (gv f o l.reverse n [] []).1 0 l.length rfl rfl g2 g1 g3 (by omega);have w:i64.wrap ((l.length:Int) - 1)=(l.length:Int) - 1:=f8 (by omega) (by omega);unfold r7 jw;rw[w,q2];refine⟨fun _=>⟨q1,fun z hz=>(by cases hz),fun r hr=>by cases hr;exact r1⟩,?_⟩;simp only;rw[r2]
abbrev G_ (l:List Claim):Prop:=l.Pairwise fun a b=>¬ (a.right=b.right∧a.farm=b.farm)
theorem J8:∀ (S:List Claim) (i:Nat) (z:Claim),i<S.length→z.right=(S.getD i default).right→z.farm=(S.getD i default).farm→∀ r p,amt (S.set i z) r p=amt S r p+if z.right=r∧z.farm=p then z.litres - (S.getD i default).litres else 0
 | [],i,z,h,_,_,_,_=>absurd h (Nat.not_lt_zero _)
 |x::S,0,z,_,h1,h2,r,p=>by
  have e:(x::S).getD 0 default=x:=rfl;rw[e]at h1 h2 ⊢;rw[List.set_cons_zero,amt,amt,←h1,←h2];split <;>omega
 |x::S,i+1,z,h,h1,h2,r,p=>by
  have e:(x::S).getD (i+1) default=S.getD i default:=rfl;rw[e]at h1 h2 ⊢;rw[List.set_cons_succ,amt,amt,J8 S i z (by simpa using h) h1 h2 r p];omega
theorem Og {S:List Claim}{i:Nat}{z:Claim}(hi:i<S.length)(h1:z.right=(S.getD i default).right)(h2:z.farm=(S.getD i default).farm)(hd:G_ S):G_ (S.set i z):=by
 rw[qF _ _ hi]at h1 h2;unfold G_ at hd ⊢;rw[List.pairwise_iff_getElem]at hd ⊢;intro a b ha hb hab;rw[List.length_set]at ha hb;rw[List.getElem_set,List.getElem_set];have h3:=hd a b ha hb hab;by_cases ea:i=a
 ·subst ea;rw[if_pos rfl,if_neg (by omega:¬i=b),h1,h2];exact h3
 ·by_cases eb:i=b
  ·subst eb;rw[if_neg ea,if_pos rfl,h1,h2];exact h3
  ·rw[if_neg ea,if_neg eb];exact h3
theorem Oh {S:List Claim}{z:Claim}(hd:G_ S)(h:∀ y∈S,¬ (y.right=z.right∧y.farm=z.farm)):G_ (S++[z]):=
 List.pairwise_append.2 ⟨hd,List.pairwise_singleton _ _,fun a ha b hb=>by rw[List.mem_singleton.1 hb];exact h a ha⟩
def gn (f:Int):List Claim→Int→Int→Int
 | [],_,_=>0
 |y::R,n,r=>if y.farm=f then(if y.right=r then bB n y.litres else 0)+gn f R (n - bB n y.litres) r else gn f R n r
theorem Oi {f o:Int}:∀ (R:List Claim) (n:Int) (K G:List Claim),0≤n→(∀ y∈R,0≤y.litres)→∀ r,amt (gv f o R n K G).2 r o=amt G r o+gn f R n r
 | [],n,K,G,_,_,r=>by simp[gv,gn]
 |y::R,n,K,G,h0,hR,r=>by
  have hy:=hR y (by simp);have hR':∀ z∈R,0≤z.litres:=fun z hz=>hR z (by simp[hz]);have hm:=pu (a:=n) (b:=y.litres);by_cases hf:y.farm=f
  ·rw[gv,if_pos hf,gn,if_pos hf,Oi R _ _ _ (by omega) hR'];by_cases hr:bB n y.litres > 0
   ·rw[if_pos hr,A3,amt,amt];show _+((if y.right=r∧o=o then bB n y.litres else 0)+0)+_=_;simp only[and_true];omega
   ·rw[if_neg hr];split <;>omega
  ·rw[gv,if_neg hf,gn,if_neg hf,Oi R _ _ _ h0 hR']
theorem LA {x:Claim}{l:List Claim}(h:∀ y∈l,y.hour=x.hour)(hk:∀ y∈l,¬C_ x y)(hn:∀ y∈l.head?,¬tlt y x):(qZ x l).Perm (x::l):=by
 cases l with
 |nil=>exact List.Perm.refl _
 |cons y r=>
  rw[qZ];by_cases h1:aH x y=true
  ·rw[if_pos h1]
  ·exact absurd (Fh (fun e=>h1 ((qp (h y (by simp)).symm).2 e)) (hn y (by simp))) (hk y (by simp))
theorem Ha {x:Claim}:∀ {l:List Claim},(∀ y∈l,y.hour=x.hour)→(∀ y∈l,¬C_ x y)→(gf l x).Perm (x::l)
 | [],_,_=>List.Perm.refl _
 |y::l,h,hk=>by
  rw[sK];by_cases h1:aH y x=true
  ·rw[if_pos h1];exact((Ha (fun z hz=>h z (by simp[hz])) fun z hz=>hk z (by simp[hz])).cons y).trans (List.Perm.swap x y l)
  ·rw[if_neg h1];refine LA h hk fun z hz=>?_;have:z=y:=by simpa using hz.symm
   subst this;exact fun e=>h1 ((qp (h z (by simp))).2 e)
theorem Au {α:Type}(S:List α)(d z:α){i j:Nat}(h:i≠j):(S.set i z).getD j d=S.getD j d:=by
 rw[List.getD_eq_getElem?_getD,List.getElem?_set_ne h,←List.getD_eq_getElem?_getD]
theorem Av {α:Type}(S:List α)(d z:α){i:Nat}(h:i<S.length):(S.set i z).getD i d=z:=by
 rw[List.getD_eq_getElem?_getD,List.getElem?_set_self h];rfl
structure Pile (ρ:Int→Int)(h b:Int)(S:List Claim):Prop where
 d:G_ S
 rk:∀ y∈S,y.rank=ρ y.right
 hr:∀ y∈S,y.hour=h
 lit:nL b S
section
variable {ρ:Int→Int}{h b b0:Int}
theorem Pile.set {S:List Claim}{i:Nat}{v:Int}(p:Pile ρ h b S)(hi:i<S.length)(hb:b≤b0)(hv:0≤v∧v≤b0):Pile ρ h b0 (S.set i (mg (S.getD i default) v))∧∀ r q,amt (S.set i (mg (S.getD i default) v)) r q=amt S r q+if(S.getD i default).right=r∧(S.getD i default).farm=q then v - (S.getD i default).litres else 0:=by
 have hm:S.getD i default∈S:=sI S default hi;refine⟨⟨Og hi rfl rfl p.d,fun y hy=>?_,fun y hy=>?_,fun y hy=>?_⟩,fun r q=>J8 S i (mg (S.getD i default) v) hi rfl rfl r q⟩
 ·rcases List.mem_or_eq_of_mem_set hy with hy|rfl
  ·exact p.rk y hy
  ·exact p.rk (S.getD i default) hm
 ·rcases List.mem_or_eq_of_mem_set hy with hy|rfl
  ·exact p.hr y hy
  ·exact p.hr (S.getD i default) hm
 ·rcases List.mem_or_eq_of_mem_set hy with hy|rfl
  ·have:=p.lit y hy;omega
  ·exact hv
theorem Pile.app {S:List Claim}{z:Claim}(p:Pile ρ h b S)(hb:b≤b0)(h1:z.rank=ρ z.right)(h2:z.hour=h)(h3:0≤z.litres∧z.litres≤b0)(hn:∀ y∈S,¬ (y.right=z.right∧y.farm=z.farm)):Pile ρ h b0 (S++[z])∧∀ r q,amt (S++[z]) r q=amt S r q+if z.right=r∧z.farm=q then z.litres else 0:=by
 refine⟨⟨Oh p.d hn,fun y hy=>?_,fun y hy=>?_,fun y hy=>?_⟩,fun r q=>by rw[A3,amt,amt];omega⟩
 ·rcases List.mem_append.1 hy with hy|hy
  ·exact p.rk y hy
  ·rw[List.mem_singleton.1 hy];exact h1
 ·rcases List.mem_append.1 hy with hy|hy
  ·exact p.hr y hy
  ·rw[List.mem_singleton.1 hy];exact h2
 ·rcases List.mem_append.1 hy with hy|hy
  ·have:=p.lit y hy;omega
  ·rw[List.mem_singleton.1 hy];exact h3
theorem D7:∀ {S:List Claim},Pile ρ h b S→(∀ y∈S,0<y.litres)→∃ m,S.Perm m∧Dock ρ h m
 | [],_,_=>⟨[],List.Perm.refl _,⟨List.Pairwise.nil,(fun y hy=>by cases hy),(fun y hy=>by cases hy),(fun y hy=>by cases hy)⟩⟩
 |x::S,p,hp=>by
  have hd:=List.pairwise_cons.1 p.d;obtain⟨m,q1,q2⟩:=D7 (S:=S) ⟨hd.2,fun y hy=>p.rk y (by simp[hy]),fun y hy=>p.hr y (by simp[hy]),fun y hy=>p.lit y (by simp[hy])⟩ fun y hy=>hp y (by simp[hy]);refine⟨gf m x,((q1.cons x).trans (Ha (fun y hy=>?_) fun y hy e=>?_).symm),(q2.put (hp x (by simp)) (p.rk x (by simp)) (p.hr x (by simp))).1⟩
  ·exact(q2.hr y hy).trans (p.hr x (by simp)).symm
  ·exact hd.1 y (q1.symm.subset hy) ⟨e.2.1,e.2.2⟩
theorem LB {S:List Claim}(p:Pile ρ h b S)(hl:S.length<2 ^ 46):cq S∧Dock ρ h (cP S)∧∀ r q,amt (cP S) r q=amt S r q:=by
 have hs:(S.filter fun x=>!ak x).Sublist S:=List.filter_sublist;obtain⟨m,q1,q2⟩:=D7 (S:=S.filter fun x=>!ak x) ⟨p.d.sublist hs,fun y hy=>p.rk y (hs.subset hy),fun y hy=>p.hr y (hs.subset hy),fun y hy=>p.lit y (hs.subset hy)⟩ fun y hy=>by
  have h1:=p.lit y (hs.subset hy);have h2:=(List.mem_filter.1 hy).2;have h3:y.litres≠0:=fun e=>by unfold ak at h2;rw[e]at h2;cases h2
  omega
 obtain⟨t1,t2⟩:=Fg hl q1 q2.s;rw[t2];exact⟨t1,q2,fun r q=>by rw[←CA q1,yl]⟩
end
section
variable {ρ:Int→Int}{h b b0:Int}
theorem CB {A g L:Int}{P:Prop}[Decidable P]{q f o:Int}(hfo:o≠f):A+(if P∧f=q then L - g - L else 0)+(if P∧o=q then g else 0)=A+(if P∧q=o then g else 0) - (if P∧q=f then g else 0):=by
 by_cases hP:P
 ·simp only[hP,true_and]
  repeat' split
  all_goals omega
 ·simp only[hP,false_and,if_false];omega
theorem IT (S1:List Claim)(x:Judgement)(i:Nat)(hi:i<S1.length):
  bD S1 x S1 (i:Int)∧
  ((aA S1 x S1 (i:Int)= -1∧∀ y∈S1,¬ (y.right=(S1.getD i default).right∧y.farm=x.other))∨
   ∃ j,j<S1.length∧aA S1 x S1 (i:Int)=(j:Int)∧(S1.getD j default).right=(S1.getD i default).right∧(S1.getD j default).farm=x.other):=by
 have eP:∀ y:Claim,eu y x S1 (i:Int)=(y.farm==x.other&&y.right==(S1.getD i default).right):=fun y=>by
  unfold eu;rw[Int.toNat_natCast]
 refine⟨fun _=>nr _ _ _ fun j s _ _=>?_,?_⟩
 ·unfold bh gF;exact fun _=>⟨by omega,by omega⟩
 ·unfold aA;rcases y5 (step:=bA S1 x S1 (i:Int)) S1 default (fun y=>eu y x S1 (i:Int)) (fun k _=>rfl)with⟨e,hN⟩ | ⟨K,z,T,h1,e,h2,h3⟩
  ·rw[e];refine .inl ⟨rfl,fun y hy hk=>?_⟩;have:=hN y hy;rw[eP,hk.1,hk.2]at this;simp at this
  ·rw[e];have g:S1.getD K.length default=z:=by rw[h1];exact gc K z default T rfl
   rw[eP]at h2;simp only[Bool.and_eq_true,beq_iff_eq]at h2;refine .inr ⟨K.length,by rw[h1];simp,rfl,by rw[g];exact h2.2,by rw[g];exact h2.1⟩
theorem LD (x:Judgement)(l:List Claim){S:List Claim}{i k:Nat}{n:Int}(hb:0≤b∧b+b0≤1152921504606846976)(hb0:0≤b0)(p:Pile ρ h b S)(hi:i<S.length)(hf:(S.getD i default).farm=x.farm)(hxo:x.other≠x.farm)(hn:0≤n∧n<4611686018427387904)(hy:(S.getD i default).litres≤b0)(hL:S.length≤32768):
  bQ x l k ((i:Int),S,n)∧∃ S2,bM x l k ((i:Int),S,n)=.inr ((i:Int) - 1,S2,n - bB n (S.getD i default).litres)∧Pile ρ h (b+b0) S2∧S.length≤S2.length∧S2.length≤S.length+1∧
   (∀ j,j<i→(S2.getD j default).right=(S.getD j default).right∧(S2.getD j default).farm=(S.getD j default).farm∧((S.getD j default).farm=x.farm→(S2.getD j default).litres=(S.getD j default).litres))∧
   ∀ r q,amt S2 r q=amt S r q+(if(S.getD i default).right=r∧q=x.other then bB n (S.getD i default).litres else 0) - (if(S.getD i default).right=r∧q=x.farm then bB n (S.getD i default).litres else 0):=by
 have hm:=pu (a:=n) (b:=(S.getD i default).litres);have hY:S.getD i default∈S:=sI S default hi;have hYl:=p.lit _ hY;generalize hg:bB n (S.getD i default).litres=g at *;have hg0:0≤g∧g≤b0:=by omega
 generalize hS1:S.set i (mg (S.getD i default) ((S.getD i default).litres - g))=S1;obtain⟨p1,a1⟩:=p.set (b0:=b) hi (Int.le_refl _) (v:=(S.getD i default).litres - g) (by omega);rw[hS1]at p1 a1;have hl1:S1.length=S.length:=by rw[←hS1,List.length_set]
 have g1:S1.getD i default=mg (S.getD i default) ((S.getD i default).litres - g):=by rw[←hS1];exact Av _ _ _ hi
 obtain⟨x1,x2⟩:=IT S1 x i (by omega);generalize hI:aA S1 x S1 (i:Int)=I at x2;have e:decide ((i:Int)≥0)=true:=decide_eq_true (by omega);have ef:((S.getD i default).farm !=x.farm)=false:=by rw[hf];simp
 have w1:i64.wrap ((i:Int) - 1)=(i:Int) - 1:=f8 (by omega) (by omega);have w2:i64.wrap (n - g)=n - g:=f8 (by omega) (by omega);have w3:i64.wrap ((S.getD i default).litres - g)=(S.getD i default).litres - g:=f8 (by omega) (by omega);have e4:(if n< (S.getD i default).litres then n else(S.getD i default).litres)=g:=hg;have hSS:S.set i ({ right:=(S.getD i default).right,farm:=(S.getD i default).farm,hour:=(S.getD i default).hour,litres:=(S.getD i default).litres - g,rank:=(S.getD i default).rank}:Claim)=S1:=hS1;have hother:∀ j,j<i→S1.getD j default=S.getD j default:=fun j hj=>by rw[←hS1];exact Au _ _ _ (by omega)
 unfold bQ bM;simp only[e,Int.toNat_natCast,ef,e4,w1,w2,w3,hSS,hI,cond_true,cond_false];rcases x2 with⟨hI1,hN⟩ | ⟨j,hj,hI2,hjr,hjf⟩
 ·have hd:decide (I≥0)=false:=decide_eq_false (by omega);simp only[hd,cond_false];obtain⟨p2,a2⟩:=p1.app (b0:=b+b0) (z:=y9 (S1.getD i default) x.other g) (by omega) (p1.rk (S1.getD i default) (sI S1 default (by omega))) (p1.hr (S1.getD i default) (sI S1 default (by omega))) (by show 0≤g∧g≤b+b0;omega) fun y hy'=>hN y hy';refine⟨fun _=>⟨⟨by omega,by omega⟩,fun _=>⟨⟨by omega,by omega⟩,⟨by omega,by omega⟩,⟨by omega,by omega⟩,x1,fun h=>(by cases h),fun _=>⟨⟨by omega,by omega⟩,?_⟩⟩⟩,S1++[y9 (S1.getD i default) x.other g],rfl,p2,?_,?_,fun q hq=>?_,fun r q=>?_⟩
  ·rw[List.length_append];simp only[List.length_cons,List.length_nil];unfold cU;omega
  ·rw[List.length_append];omega
  ·rw[List.length_append];simp only[List.length_cons,List.length_nil];omega
  ·have:(S1++[y9 (S1.getD i default) x.other g]).getD q default=S.getD q default:=by
    rw[List.getD_eq_getElem?_getD,List.getElem?_append_left (by omega),←List.getD_eq_getElem?_getD,hother q hq]
   rw[this];exact⟨rfl,rfl,fun _=>rfl⟩
  ·rw[a2,a1,g1];show _+(if(S.getD i default).right=r∧x.other=q then g else 0)=_;rw[hf];exact CB hxo
 ·have hd:decide (I≥0)=true:=decide_eq_true (by omega);have hz:=p1.lit _ (sI S1 default hj);have w4:i64.wrap ((S1.getD j default).litres+g)=(S1.getD j default).litres+g:=f8 (by omega) (by omega);subst hI2;simp only[hd,cond_true,Int.toNat_natCast,w4];obtain⟨p2,a2⟩:=p1.set (b0:=b+b0) hj (by omega) (v:=(S1.getD j default).litres+g) (by omega);refine⟨fun _=>⟨⟨by omega,by omega⟩,fun _=>⟨⟨by omega,by omega⟩,⟨by omega,by omega⟩,⟨by omega,by omega⟩,x1,fun _=>⟨⟨by omega,by omega⟩,by omega,by omega⟩,fun h=>(by cases h)⟩⟩,S1.set j (mg (S1.getD j default) ((S1.getD j default).litres+g)),rfl,p2,?_,?_,fun q hq=>?_,fun r q=>?_⟩
  ·rw[List.length_set];omega
  ·rw[List.length_set];omega
  ·by_cases hjq:j=q
   ·subst hjq;rw[Av _ _ _ hj,←hother j hq];exact⟨rfl,rfl,fun e=>absurd (hjf.symm.trans e) hxo⟩
   ·rw[Au _ _ _ hjq,hother q hq];exact⟨rfl,rfl,fun _=>rfl⟩
  ·rw[a2,a1,hjr,hjf,g1];show _+_+(if(S.getD i default).right=r∧x.other=q then(S1.getD j default).litres+g - (S1.getD j default).litres else 0)=_;rw[hf,show(S1.getD j default).litres+g - (S1.getD j default).litres=g by omega];exact CB hxo
end
section
variable {ρ:Int→Int}{h b0:Int}
theorem CC (x:Judgement)(l:List Claim)(hxo:x.other≠x.farm)(hb0:0≤b0∧b0≤4398046511104):∀ (R:List Claim) (c:Nat) (S:List Claim) (n:Int) (k:Nat),R.length≤S.length→
  (∀ j,j<R.length→(S.getD j default).right=(R.reverse.getD j default).right∧(S.getD j default).farm=(R.reverse.getD j default).farm∧((R.reverse.getD j default).farm=x.farm→(S.getD j default).litres=(R.reverse.getD j default).litres))→
  Pile ρ h ((c:Int)*b0) S→0≤n→n<4611686018427387904→nL b0 R→c+R.length≤16384→S.length+R.length≤32768→
  okI (bM x l) (bQ x l) (R.length+1) k ((R.length:Int) - 1,S,n)∧∃ S',aq (bM x l) (R.length+1) k ((R.length:Int) - 1,S,n)=.inl S'∧Pile ρ h (((c+R.length:Nat):Int)*b0) S'∧S'.length≤S.length+R.length∧
   ∀ r q,amt S' r q=amt S r q+(if q=x.other then gn x.farm R n r else 0) - (if q=x.farm then gn x.farm R n r else 0)
 | [],c,S,n,k,_,_,p,h0,h1,_,_,_=>by
  have e:decide (((0:Nat):Int) - 1≥0)=false:=decide_eq_false (by omega);simp only[List.length_nil,okI,aq,bM,bQ,e,cond_false];refine⟨⟨fun h=>(by cases h),fun s h=>(by cases h)⟩,S,rfl,p,Nat.le_refl _,fun r q=>?_⟩;simp[gn]
 |y::R,c,S,n,k,hl,hS,p,h0,h1,hR,hc,hL=>by
  simp only[List.length_cons]at hl hc hL;have hy:=hR y (by simp);have hR':nL b0 R:=fun z hz=>hR z (by simp[hz]);have hlast:(y::R).reverse.getD R.length default=y:=by rw[List.reverse_cons];exact gc R.reverse y default [] (by simp)
  have hprev:∀ j,j<R.length→(y::R).reverse.getD j default=R.reverse.getD j default:=fun j hj=>by
   rw[List.reverse_cons,List.getD_eq_getElem?_getD,List.getElem?_append_left (by simpa using hj),←List.getD_eq_getElem?_getD]
  obtain⟨s1,s2,s3⟩:=hS R.length (by simp);rw[hlast]at s1 s2 s3;have hi:(((y::R).length:Nat):Int) - 1=(R.length:Int):=by simp
  have e1:((c+1:Nat):Int)*b0=(c:Int)*b0+b0:=Q4 c b0;have hcb:0≤(c:Int)*b0∧(c:Int)*b0≤72057594037927936:=by
   refine⟨Int.mul_nonneg (by omega) hb0.1,?_⟩;have h2:(c:Int)*b0≤16384*b0:=Int.mul_le_mul_of_nonneg_right (by omega) hb0.1;omega
  rw[hi];simp only[List.length_cons];rw[okI,aq,show c+(R.length+1)=c+1+R.length by omega];by_cases hf:y.farm=x.farm
  ·obtain⟨t1,S2,t2,t3,t4,t5,t6,t7⟩:=LD (k:=k) x l (i:=R.length) (n:=n) ⟨hcb.1,by omega⟩ hb0.1 p (by omega) (by rw[s2,hf]) hxo ⟨h0,h1⟩ (by rw[s3 hf];exact hy.2) (by omega);have hm:=pu (a:=n) (b:=(S.getD R.length default).litres);have hyl:=s3 hf;rw[hyl]at t2 t7 hm;obtain⟨q1,S',q2,q3,q4,q5⟩:=CC x l hxo hb0 R (c+1) S2 (n - bB n y.litres) (k+1) (by omega) (fun j hj=>by
    obtain⟨u1,u2,u3⟩:=t6 j hj;obtain⟨v1,v2,v3⟩:=hS j (by simp only[List.length_cons];omega);rw[hprev j hj]at v1 v2 v3;exact⟨u1.trans v1,u2.trans v2,fun e=>(u3 (v2.trans e)).trans (v3 e)⟩) (by rw[e1];exact t3) (by omega) (by omega) hR' (by omega) (by omega)
   rw[t2];refine⟨⟨t1,fun s hs=>by cases hs;exact q1⟩,S',q2,q3,by omega,fun r q=>?_⟩;rw[q5,t7,gn,if_pos hf,s1];by_cases hr:y.right=r
   ·simp only[hr,true_and,if_true]
    repeat' split
    all_goals omega
   ·simp only[hr,false_and,if_false]
    repeat' split
    all_goals omega
  ·have e:decide ((R.length:Int)≥0)=true:=decide_eq_true (by omega);have ef:((S.getD R.length default).farm !=x.farm)=true:=by rw[s2];simpa using hf
   have w1:i64.wrap ((R.length:Int) - 1)=(R.length:Int) - 1:=f8 (by omega) (by omega);have hp2:Pile ρ h (((c+1:Nat):Int)*b0) S:=⟨p.d,p.rk,p.hr,fun z hz=>by rw[e1];have:=p.lit z hz;omega⟩;obtain⟨q1,S',q2,q3,q4,q5⟩:=CC x l hxo hb0 R (c+1) S n (k+1) (by omega) (fun j hj=>by
    have:=hS j (by simp only[List.length_cons];omega)
    rwa[hprev j hj]at this) hp2 h0 h1 hR' (by omega) (by omega)
   simp only[bM,bQ,e,Int.toNat_natCast,ef,w1,cond_true];refine⟨⟨fun _=>⟨⟨by omega,by omega⟩,fun h=>(by cases h)⟩,fun s hs=>by cases hs;exact q1⟩,S',q2,q3,by omega,fun r q=>?_⟩;rw[q5,gn,if_neg hf]
end
section
variable {ρ:Int→Int}{h b0:Int}
theorem Dock.pile {l:List Claim}(d:Dock ρ h l)(hb:nL b0 l):Pile ρ h b0 l:=by
 refine⟨?_,d.rk,d.hr,hb⟩;unfold G_;rw[List.pairwise_iff_getElem];intro i j hi hj hij e;have:=List.pairwise_iff_getElem.1 d.s i j hi hj hij;exact IR this (d.rk _ (List.getElem_mem hi)) (d.rk _ (List.getElem_mem hj)) ⟨e.1.symm,e.2.symm⟩
theorem J9 (x:Judgement)(l:List Claim)(hxo:x.other≠x.farm)(hb0:0≤b0∧b0≤4398046511104)(d:Dock ρ h l)(hb:nL b0 l)(hl:l.length≤8192)(h0:0≤x.n)(h1:x.n<4611686018427387904):
  (cD x l∧cq (bZ x l)∧r7 l x.farm x.other x.n)∧cP (bZ x l)=jw l x.farm x.other x.n∧Dock ρ h (jw l x.farm x.other x.n):=by
 have hbr:nL b0 l.reverse:=fun y hy=>hb y (by simpa using hy);have hp:Pile ρ h (((1:Nat):Int)*b0) l:=by
  have:=d.pile hb
  rwa[show((1:Nat):Int)*b0=b0 by simp]
 obtain⟨q1,S',q2,q3,q4,q5⟩:=CC x l hxo hb0 l.reverse 1 l x.n 0 (by simp) (fun j _=>by rw[List.reverse_reverse];exact⟨rfl,rfl,fun _=>rfl⟩) hp h0 h1 hbr (by rw[List.length_reverse];omega) (by rw[List.length_reverse];omega);rw[List.length_reverse]at q1 q2 q4;have w:i64.wrap ((l.length:Int) - 1)=(l.length:Int) - 1:=f8 (by omega) (by omega);have eG:bZ x l=S':=by unfold bZ;rw[w,q2]
 have gp:cD x l:=by
  unfold cD;rw[w,q2];exact fun _=>⟨q1,fun z hz=>by cases hz⟩
 obtain⟨t1,t2,t3⟩:=LB q3 (by omega);obtain⟨r1,r2⟩:=tJ l x.farm x.other x.n hb0 hl h0 h1 hb;have dn:Dock ρ h ([]:List Claim):=⟨List.Pairwise.nil,(fun y hy=>by cases hy),(fun y hy=>by cases hy),(fun y hy=>by cases hy)⟩;have gnil:Gift ρ h x.other ([]:List Claim):=⟨(fun y hy=>by cases hy),(fun y hy=>by cases hy),(fun y hy=>by cases hy),(fun y hy=>by cases hy)⟩;obtain⟨v1,v2,v3⟩:=Fi (f:=x.farm) (o:=x.other) l.reverse x.n [] [] h0 (fun y hy=>by
  have hy':y∈l:=by simpa using hy
  exact⟨d.rk y hy',d.hr y hy',(hb y hy').1⟩) dn gnil
 have v4:=Oi (f:=x.farm) (o:=x.other) l.reverse x.n [] [] h0 fun y hy=>(hbr y hy).1;obtain⟨z1,z2⟩:=Fj _ _ v1 v2;rw[eG,r2];refine⟨⟨gp,t1,r1⟩,zX t2 z1 fun r q=>?_,z1⟩;rw[t3,q5,z2];have a1:=v3 r q;rw[v4,CA l.reverse_perm]at a1;have a2:amt (gv x.farm x.other l.reverse x.n [] []).2 r q=if q=x.other then gn x.farm l.reverse x.n r else 0:=by
  by_cases hq:q=x.other
  ·subst hq;rw[if_pos rfl,v4];simp[amt]
  ·rw[if_neg hq];exact y8 fun y hy e=>hq (by rw[←e.2,v2.fm y hy])
 rw[a2];simp only[amt]at a1;by_cases hq:q=x.farm
 ·rw[if_pos hq]at a1 ⊢;omega
 ·rw[if_neg hq]at a1 ⊢;simp only[ite_self,if_neg hq]at a1;omega
end
def doJ (x:Judgement)(l:List Claim):List Claim:=if x.kind=1 then eA l x.farm 0 else if x.kind=2 then eA l x.farm x.n else if x.kind=3 then jw l x.farm x.other x.n else l
section
variable {ρ:Int→Int}{h b0:Int}
theorem Dock.tidy_id {l:List Claim}(d:Dock ρ h l)(hl:l.length<2 ^ 46):cq l∧cP l=l:=by
 have e:(l.filter fun x=>!ak x)=l:=List.filter_eq_self.2 fun y hy=>by
  have:=d.pos y hy;unfold ak;simp;omega
 exact Fg hl (by rw[e]) d.s
theorem wR (f:Int):∀ (l:List Claim) (n:Int),∀ z∈n9 f n l,∃ y∈l,z.rank=y.rank∧z.right=y.right∧z.hour=y.hour
 | [],_,z,hz=>by cases hz
 |x::r,n,z,hz=>by
  unfold n9 at hz;by_cases hf:x.farm=f
  ·rw[if_pos hf]at hz;rcases List.mem_cons.1 hz with rfl|hz
   ·exact⟨x,by simp,rfl,rfl,rfl⟩
   ·obtain⟨y,hy,e⟩:=wR f r _ z hz;exact⟨y,by simp[hy],e⟩
  ·rw[if_neg hf]at hz;rcases List.mem_cons.1 hz with rfl|hz
   ·exact⟨z,by simp,rfl,rfl,rfl⟩
   ·obtain⟨y,hy,e⟩:=wR f r _ z hz;exact⟨y,by simp[hy],e⟩
theorem CD {x:Judgement}{l:List Claim}(d:Dock ρ h l)(h0:0≤x.n)(h1:x.n<4611686018427387904)(hl:Lit l)(hb:l.length*40≤cU):Dock ρ h (eA l x.farm x.n):=by
 obtain⟨_,_,e⟩:=sJ x l h0 h1 hl d.s hb;have hs:((n9 x.farm x.n l).filter fun y=>!ak y).Sublist (n9 x.farm x.n l):=List.filter_sublist;have hL:=y6 x.farm l x.n h0 hl;rw[e];refine⟨(G6 (y7 x.farm l x.n) d.s).sublist hs,fun z hz=>?_,fun z hz=>?_,fun z hz=>?_⟩
 ·obtain⟨y,hy,e1,e2,_⟩:=wR x.farm l x.n z (hs.subset hz);rw[e1,e2];exact d.rk y hy
 ·obtain⟨y,hy,_,_,e3⟩:=wR x.farm l x.n z (hs.subset hz);rw[e3];exact d.hr y hy
 ·have h2:=hL.1 z (hs.subset hz);have h3:=(List.mem_filter.1 hz).2;have h4:z.litres≠0:=fun e=>by unfold ak at h3;rw[e]at h3;cases h3
  omega
theorem LF {dd:District}{x:Judgement}(hx:JOk dd x)(h0:x.of_=0){l:List Claim}(hb0:0≤b0∧b0≤4398046511104)(d:Dock ρ h l)(hb:nL b0 l)(hl:l.length≤8192)(a2:List Judgement)(s_0:List Claim×List Claim):
  aU a2 s_0 x l=.inr (doJ x l)∧cd a2 s_0 x l∧Dock ρ h (doJ x l):=by
 have hL:Lit l:=fun y hy=>by have:=hb y hy;omega
 have hmB:l.length*40≤cU:=by unfold cU;omega
 have hk:=hx.kind h0;have hn:0≤x.n∧x.n<4611686018427387904:=by
  by_cases hk1:x.kind=1
  ·rw[hx.none hk1];omega
  ·have:=hx.n hk1 h0;omega
 unfold aU cd doJ;by_cases k1:x.kind=1
 ·obtain⟨⟨p1,p2,p3⟩,e1,_⟩:=sJ x l hn.1 hn.2 hL d.s hmB;have d1:=CD d hn.1 hn.2 hL hmB;rw[show(x.kind==1)=true by simpa using k1,if_pos k1,e1];rw[hx.none k1]at d1 ⊢;exact⟨rfl,⟨fun _=>⟨p1,p2⟩,(fun h=>by cases h)⟩,d1⟩
 ·rw[show(x.kind==1)=false by simpa using k1,if_neg k1];by_cases k2:x.kind=2
  ·obtain⟨⟨p1,p2,p3⟩,e1,_⟩:=sJ x l hn.1 hn.2 hL d.s hmB;rw[show(x.kind==2)=true by simpa using k2,if_pos k2,e1];exact⟨rfl,⟨(fun h=>by cases h),fun _=>⟨fun _=>⟨p1,p2⟩,(fun h=>by cases h)⟩⟩,CD d hn.1 hn.2 hL hmB⟩
  ·rw[show(x.kind==2)=false by simpa using k2,if_neg k2];by_cases k3:x.kind=3
   ·obtain⟨⟨p1,p2,p3⟩,e1,d1⟩:=J9 x l (hx.other (by omega)).2.2 hb0 d hb hl hn.1 hn.2;rw[show(x.kind==3)=true by simpa using k3,if_pos k3,e1];exact⟨rfl,⟨(fun h=>by cases h),fun _=>⟨(fun h=>by cases h),fun _=>⟨fun _=>⟨p1,p2⟩,(fun h=>by cases h)⟩⟩⟩,d1⟩
   ·have k4:x.kind=4:=by omega
    obtain⟨t1,t2⟩:=d.tidy_id (by omega);rw[show(x.kind==3)=false by simpa using k3,if_neg k3,show(x.kind==4)=true by simpa using k4,t2];exact⟨rfl,⟨(fun h=>by cases h),fun _=>⟨(fun h=>by cases h),fun _=>⟨(fun h=>by cases h),fun _=>⟨fun _=>t1,(fun h=>by cases h)⟩⟩⟩⟩,d⟩
end
theorem zY (j:List Judgement)(x:Judgement)(h:Int):((((x.of_==0)&&(decide (x.hour≤h)))&&(aM h x.since x.to))&&(!(gA j x h)))=aG j x h:=by
 unfold aG;rw[NS,R7];cases(x.of_==0) <;>cases decide (x.hour≤h) <;>cases decide (x.since≤h) <;>cases decide (h≤x.to) <;>rfl
theorem tK (j:List Judgement)(h:Int):∀ (R A:List Judgement) (k:Nat) (s:List Judgement),j=A++R→A.length=k→aq (dP j h) R.length k s=.inr (s++R.filter fun x=>aG j x h)
 | [],A,k,s,_,_=>by simp[aq]
 |y::R,A,k,s,hj,hk=>by
  have g:j.getD k default=y:=by rw[hj];exact gc A y default R hk.symm
  simp only[List.length_cons,aq,dP,g,zY];have hj':j=(A++[y])++R:=by rw[hj];simp
  cases hc:aG j y h with
  |true=>
   simp only[cond_true];rw[tK j h R (A++[y]) (k+1) _ hj' (by simp[hk]),List.filter_cons_of_pos (by exact hc)];simp
  |false=>
   simp only[cond_false];rw[tK j h R (A++[y]) (k+1) _ hj' (by simp[hk]),List.filter_cons_of_neg (by rw[hc];simp)]
theorem kP (j:List Judgement)(h:Int):aC j h=j.filter fun x=>aG j x h:=by
 unfold aC;rw[tK j h j [] 0 [] rfl rfl];rfl
theorem vt {j:List Judgement}{x:Judgement}{h:Int}(hx:aG j x h=true):x.of_=0:=by
 unfold aG at hx;simp only[Bool.and_eq_true]at hx;simpa using hx.1.1.1.1
theorem D8 (j:List Judgement)(h:Int)(x:Judgement)(k:Nat)(s:List Claim)(g:j.getD k default=x):lv j h k s=.inr (if aG j x h=true then doJ x s else s):=by
 unfold lv doJ;rw[g];cases hc:aG j x h with
 |false=>rfl
 |true=>
  simp only[Bool.not_true,cond_false,if_true];by_cases k1:x.kind=1
  ·rw[show(x.kind==1)=true by simpa using k1,if_pos k1];rfl
  ·rw[show(x.kind==1)=false by simpa using k1,if_neg k1];by_cases k2:x.kind=2
   ·rw[show(x.kind==2)=true by simpa using k2,if_pos k2];rfl
   ·rw[show(x.kind==2)=false by simpa using k2,if_neg k2];by_cases k3:x.kind=3
    ·rw[show(x.kind==3)=true by simpa using k3,if_pos k3];rfl
    ·rw[show(x.kind==3)=false by simpa using k3,if_neg k3];rfl
theorem Hb (j:List Judgement)(h:Int):∀ (R A:List Judgement) (k:Nat) (s:List Claim),j=A++R→A.length=k→aq (lv j h) R.length k s=.inr ((R.filter fun x=>aG j x h).foldl (fun s x=>doJ x s) s)
 | [],A,k,s,_,_=>by simp[aq]
 |y::R,A,k,s,hj,hk=>by
  have g:j.getD k default=y:=by rw[hj];exact gc A y default R hk.symm
  have hj':j=(A++[y])++R:=by rw[hj];simp
  simp only[List.length_cons,aq,D8 j h y k s g];rw[Hb j h R (A++[y]) (k+1) _ hj' (by simp[hk])];cases hc:aG j y h with
  |true=>rw[List.filter_cons_of_pos (by exact hc)];rfl
  |false=>rw[List.filter_cons_of_neg (by rw[hc];simp)];rfl
theorem Q5 (l:List Claim)(j:List Judgement)(h:Int):qm l j h=(aC j h).foldl (fun s x=>doJ x s) l:=by
 unfold qm;rw[Hb j h j [] 0 l rfl rfl,kP]
def tot:List Claim→Int
 | [] =>0
 |x::l=>x.litres+tot l
theorem tL:∀ l m:List Claim,tot (l++m)=tot l+tot m
 | [],m=>by simp[tot]
 |x::l,m=>by rw[List.cons_append,tot,tot,tL l m];omega
theorem vv:∀ l:List Claim,tot (l.filter fun x=>!ak x)=tot l
 | [] =>rfl
 |x::l=>by
  by_cases hx:x.litres=0
  ·rw[List.filter_cons_of_neg (by unfold ak;simp[hx]),vv l,tot,hx];omega
  ·rw[List.filter_cons_of_pos (by unfold ak;simp[hx]),tot,tot,vv l]
theorem CE:∀ {l:List Claim},(∀ y∈l,0≤y.litres)→0≤tot l
 | [],_=>by simp[tot]
 |x::l,h=>by have:=h x (by simp);have:=CE fun y hy=>h y (List.mem_cons_of_mem _ hy);rw[tot];omega
theorem Oj:∀ {l:List Claim},(∀ y∈l,0≤y.litres)→∀ y∈l,y.litres≤tot l
 | [],_,y,hy=>by cases hy
 |x::l,h,y,hy=>by
  have hx:=h x (by simp);have hl:∀ y∈l,0≤y.litres:=fun y hy=>h y (List.mem_cons_of_mem _ hy);rw[tot];rcases List.mem_cons.1 hy with rfl|hy
  ·have:=CE hl;omega
  ·have:=Oj hl y hy;omega
theorem Hc (x:Claim):∀ l:List Claim,tot (qZ x l)=tot l+x.litres
 | [] =>by simp[qZ,tot]
 |y::r=>by
  rw[qZ];split
  ·simp only[tot];omega
  ·simp only[tot,mg];omega
theorem y_ (x:Claim):∀ l:List Claim,tot (gf l x)=tot l+x.litres
 | [] =>Hc x []
 |y::l=>by
  rw[sK];split
  ·rw[tot,y_ x l,tot];omega
  ·exact Hc x (y::l)
theorem He {x z:Claim}:∀ {l:List Claim},z∈qZ x l→(z.right=x.right∧z.farm=x.farm)∨z∈l
 | [],h=>by
  have:z=x:=by simpa[qZ]using h
  subst this;exact .inl ⟨rfl,rfl⟩
 |y::r,h=>by
  rw[qZ]at h;split at h
  ·rcases List.mem_cons.1 h with rfl|h
   ·exact .inl ⟨rfl,rfl⟩
   ·exact .inr h
  ·rcases List.mem_cons.1 h with rfl|h
   ·exact .inl ⟨rfl,rfl⟩
   ·exact .inr (List.mem_cons_of_mem _ h)
theorem wS {x z:Claim}:∀ {l:List Claim},z∈gf l x→(z.right=x.right∧z.farm=x.farm)∨z∈l
 | [],h=>He (l:=[]) h
 |y::l,h=>by
  rw[sK]at h;split at h
  ·rcases List.mem_cons.1 h with rfl|h
   ·exact .inr (by simp)
   ·rcases wS h with h|h
    ·exact .inl h
    ·exact .inr (List.mem_cons_of_mem _ h)
  ·exact He h
theorem Hf (x:Claim):∀ l:List Claim,(qZ x l).length≤l.length+1
 | [] =>by simp[qZ]
 |y::r=>by rw[qZ];split <;>simp
theorem za (x:Claim):∀ l:List Claim,(gf l x).length≤l.length+1
 | [] =>Hf x []
 |y::l=>by
  rw[sK];split
  ·have:=za x l;simp only[List.length_cons];omega
  ·exact Hf x (y::l)
def PlC (R F:Int)(y:Claim):Prop:=(0≤y.right∧y.right<R)∧0≤y.farm∧y.farm<F
theorem A5 {f o R F:Int}(ho:0≤o∧o<F):∀ (S:List Claim) (n:Int) (K G:List Claim),0≤n→(∀ y∈S,0≤y.litres∧PlC R F y)→(∀ y∈K,PlC R F y)→(∀ y∈G,PlC R F y)→
  tot (gv f o S n K G).1+tot (gv f o S n K G).2=tot K+tot S+tot G∧(∀ y∈(gv f o S n K G).1,PlC R F y)∧(∀ y∈(gv f o S n K G).2,PlC R F y)∧
  (gv f o S n K G).1.length≤K.length+S.length∧(gv f o S n K G).2.length≤G.length+(S.filter fun y=>y.farm==f).length
 | [],n,K,G,_,_,hK,hG=>by
  simp only[gv,tot];exact⟨by omega,hK,hG,by simp,by simp⟩
 |y::S,n,K,G,h0,hS,hK,hG=>by
  have hy:=hS y (by simp);have hS':∀ z∈S,0≤z.litres∧PlC R F z:=fun z hz=>hS z (by simp[hz]);have hm:=pu (a:=n) (b:=y.litres);have hm0:0≤bB n y.litres:=by omega
  have hput:∀ z:Claim,PlC R F z→∀ w∈gf K z,PlC R F w:=fun z hz w hw=>by
   rcases wS hw with⟨e1,e2⟩ |hw
   ·unfold PlC;rw[e1,e2];exact hz
   ·exact hK w hw
  by_cases hf:y.farm=f
  ·rw[gv,if_pos hf,List.filter_cons_of_pos (by simpa using hf)];have k1:tot (if y.litres - bB n y.litres > 0 then gf K (mg y (y.litres - bB n y.litres))else K)=tot K+(y.litres - bB n y.litres)∧(∀ z∈(if y.litres - bB n y.litres > 0 then gf K (mg y (y.litres - bB n y.litres))else K),PlC R F z)∧(if y.litres - bB n y.litres > 0 then gf K (mg y (y.litres - bB n y.litres))else K).length≤K.length+1:=by
    by_cases hr:y.litres - bB n y.litres > 0
    ·rw[if_pos hr];exact⟨y_ _ _,hput _ hy.2,za _ _⟩
    ·rw[if_neg hr];exact⟨by omega,hK,by omega⟩
   have k2:tot (if bB n y.litres > 0 then G++[y9 y o (bB n y.litres)]else G)=tot G+bB n y.litres∧(∀ z∈(if bB n y.litres > 0 then G++[y9 y o (bB n y.litres)]else G),PlC R F z)∧(if bB n y.litres > 0 then G++[y9 y o (bB n y.litres)]else G).length≤G.length+1:=by
    by_cases hr:bB n y.litres > 0
    ·rw[if_pos hr];refine⟨by rw[tL];simp[tot,y9],fun z hz=>?_,by simp⟩;rcases List.mem_append.1 hz with hz|hz
     ·exact hG z hz
     ·rw[List.mem_singleton.1 hz];exact⟨hy.2.1,ho⟩
    ·rw[if_neg hr];exact⟨by omega,hG,by omega⟩
   obtain⟨q1,q2,q3,q4,q5⟩:=A5 ho S (n - bB n y.litres) _ _ (by omega) hS' k1.2.1 k2.2.1;refine⟨?_,q2,q3,?_,?_⟩
   ·rw[q1,k1.1,k2.1,tot];omega
   ·have:=k1.2.2;simp only[List.length_cons];omega
   ·have:=k2.2.2;simp only[List.length_cons];omega
  ·rw[gv,if_neg hf,List.filter_cons_of_neg (by simpa using hf)];have k1:tot (if y.litres > 0 then gf K y else K)=tot K+y.litres∧(∀ z∈(if y.litres > 0 then gf K y else K),PlC R F z)∧(if y.litres > 0 then gf K y else K).length≤K.length+1:=by
    by_cases hr:y.litres > 0
    ·rw[if_pos hr];exact⟨y_ _ _,hput _ hy.2,za _ _⟩
    ·rw[if_neg hr];exact⟨by omega,hK,by omega⟩
   obtain⟨q1,q2,q3,q4,q5⟩:=A5 ho S n _ G h0 hS' k1.2.1 hG;refine⟨?_,q2,q3,?_,q5⟩
   ·rw[q1,k1.1,tot];omega
   ·have:=k1.2.2;simp only[List.length_cons];omega
theorem zZ {R F:Int}:∀ (G K:List Claim),(∀ y∈K,PlC R F y)→(∀ y∈G,PlC R F y)→tot (G.foldl gf K)=tot K+tot G∧(∀ y∈G.foldl gf K,PlC R F y)∧(G.foldl gf K).length≤K.length+G.length
 | [],K,hK,_=>⟨by simp[tot],hK,by simp⟩
 |x::G,K,hK,hG=>by
  obtain⟨p1,p2,p3⟩:=zZ G (gf K x) (fun w hw=>by
   rcases wS hw with⟨e1,e2⟩ |hw
   ·unfold PlC;rw[e1,e2];exact hG x (by simp)
   ·exact hK w hw) fun y hy=>hG y (by simp[hy])
  rw[List.foldl_cons];refine⟨?_,p2,?_⟩
  ·rw[p1,y_,tot];omega
  ·have:=za x K;simp only[List.length_cons];omega
theorem xi (f:Int){R F:Int}:∀ (l:List Claim) (n:Int),0≤n→(∀ y∈l,0≤y.litres∧PlC R F y)→tot (n9 f n l)≤tot l∧(∀ y∈n9 f n l,PlC R F y)∧(n9 f n l).length=l.length
 | [],n,_,_=>⟨by simp[n9],(fun y hy=>by simp[n9]at hy),rfl⟩
 |x::r,n,h0,hl=>by
  have hx:=hl x (by simp);have hm:=pu (a:=n) (b:=x.litres);have hl':∀ y∈r,0≤y.litres∧PlC R F y:=fun y hy=>hl y (by simp[hy]);unfold n9;by_cases hf:x.farm=f
  ·rw[if_pos hf];obtain⟨p1,p2,p3⟩:=xi f r (n - bB n x.litres) (by omega) hl';refine⟨?_,fun y hy=>?_,by simp[p3]⟩
   ·simp only[tot,mg];omega
   ·rcases List.mem_cons.1 hy with rfl|hy
    ·exact hx.2
    ·exact p2 y hy
  ·rw[if_neg hf];obtain⟨p1,p2,p3⟩:=xi f r n h0 hl';refine⟨?_,fun y hy=>?_,by simp[p3]⟩
   ·simp only[tot];omega
   ·rcases List.mem_cons.1 hy with rfl|hy
    ·exact hx.2
    ·exact p2 y hy
theorem Aw:∀ (N:Nat) (l:List Nat),l.Nodup→(∀ x∈l,x<N)→l.length≤N
 |0,[],_,_=>by simp
 |0,x::l,_,h=>absurd (h x (by simp)) (Nat.not_lt_zero _)
 |N+1,l,hn,h=>by
  have h2:=Aw N (l.erase N) (hn.erase N) fun x hx=>by
   have:=hn.mem_erase_iff.1 hx;have:=h x this.2;omega
  by_cases hm:N∈l
  ·rw[List.length_erase_of_mem hm]at h2;omega
  ·rw[List.erase_of_not_mem hm]at h2;omega
section
variable {ρ:Int→Int}{h:Int}
structure InvD (ρ:Int→Int)(h R F B:Int)(N:Nat)(l:List Claim):Prop where
 d:Dock ρ h l
 pl:∀ y∈l,PlC R F y
 tt:tot l≤B
 len:l.length≤N
variable {R F B:Int}{N:Nat}
theorem InvD.lit {l:List Claim}(i:InvD ρ h R F B N l):nL B l:=fun y hy=>by
 have h1:=i.d.pos y hy;have h2:=Oj (fun z hz=>by have:=i.d.pos z hz;omega) y hy;have h3:=i.tt;omega
theorem InvD.few {l:List Claim}(i:InvD ρ h R F B N l)(hR:R≤256)(f:Int):(l.filter fun y=>y.farm==f).length≤256:=by
 have hd:G_ l:=(i.d.pile i.lit).d;have h1:((l.filter fun y=>y.farm==f).map fun y=>y.right.toNat).Nodup:=by
  refine List.pairwise_map.2 ((List.Pairwise.sublist List.filter_sublist hd).imp_of_mem fun {a b} ha hb hab=>?_);have a1:=List.mem_filter.1 ha;have b1:=List.mem_filter.1 hb;have a2:a.farm=f:=by simpa using a1.2
  have b2:b.farm=f:=by simpa using b1.2
  have a3:=(i.pl a a1.1).1;have b3:=(i.pl b b1.1).1;intro e;exact hab ⟨by omega,by rw[a2,b2]⟩
 have h2:=Aw 256 _ h1 fun x hx=>by
  obtain⟨y,hy,rfl⟩:=List.mem_map.1 hx;have:=(i.pl y (List.mem_filter.1 hy).1).1;omega
 simpa using h2
theorem InvD.step {dd:District}{x:Judgement}(hx:JOk dd x)(h0:x.of_=0){l:List Claim}(i:InvD ρ h R F B N l)(hR:R≤256)(hF:(dd.farms.length:Int)=F)(hB:0≤B∧B≤4398046511104)(hN:N≤8192)(a2:List Judgement)(s_0:List Claim×List Claim):
  aU a2 s_0 x l=.inr (doJ x l)∧cd a2 s_0 x l∧InvD ρ h R F B (N+256) (doJ x l):=by
 have hlen:=i.len;obtain⟨e1,e2,e3⟩:=LF hx h0 hB i.d i.lit (by omega) a2 s_0;have hb:=i.lit;have hL:Lit l:=fun y hy=>by have:=hb y hy;omega
 have hmB:l.length*40≤cU:=by unfold cU;omega
 have hp:∀ y∈l,0≤y.litres∧PlC R F y:=fun y hy=>⟨(hb y hy).1,i.pl y hy⟩;have hk:=hx.kind h0;have hn:0≤x.n∧x.n<4611686018427387904:=by
  by_cases hk1:x.kind=1
  ·rw[hx.none hk1];omega
  ·have:=hx.n hk1 h0;omega
 refine⟨e1,e2,e3,?_,?_,?_⟩ <;>unfold doJ;all_goals
  have kl:∀ n:Int,n=x.n→tot (eA l x.farm n)≤B∧(∀ y∈eA l x.farm n,PlC R F y)∧(eA l x.farm n).length≤N+256:=fun n e=>by
   subst e;obtain⟨_,_,e⟩:=sJ x l hn.1 hn.2 hL i.d.s hmB;obtain⟨q1,q2,q3⟩:=xi x.farm l x.n hn.1 hp;rw[e];refine⟨?_,fun y hy=>q2 y (List.mem_filter.1 hy).1,?_⟩
   ·rw[vv];have:=i.tt;omega
   ·have:=List.length_filter_le (fun y=>!ak y) (n9 x.farm x.n l);omega
  have kg:x.kind=3→tot (jw l x.farm x.other x.n)≤B∧(∀ y∈jw l x.farm x.other x.n,PlC R F y)∧(jw l x.farm x.other x.n).length≤N+256:=fun hk3=>by
   have ho:=hx.other (by omega);obtain⟨_,e⟩:=tJ l x.farm x.other x.n hB (by omega) hn.1 hn.2 hb;obtain⟨q1,q2,q3,q4,q5⟩:=A5 (R:=R) (F:=F) (f:=x.farm) (o:=x.other) ⟨ho.1,by omega⟩ l.reverse x.n [] [] hn.1 (fun y hy=>hp y (by simpa using hy)) (fun y hy=>by cases hy) (fun y hy=>by cases hy);obtain⟨p1,p2,p3⟩:=zZ (R:=R) (F:=F) (gv x.farm x.other l.reverse x.n [] []).2 (gv x.farm x.other l.reverse x.n [] []).1 q2 q3;have hrv:∀ m:List Claim,tot m.reverse=tot m:=fun m=>by
    induction m with
    |nil=>rfl
    |cons a m ih=>rw[List.reverse_cons,tL,ih];simp only[tot];omega
   have hfw:=i.few hR x.farm;rw[e];refine⟨?_,p2,?_⟩
   ·rw[p1,q1,hrv];have:=i.tt;simp only[tot];omega
   ·rw[List.filter_reverse,List.length_reverse]at q5;rw[List.length_reverse]at q4;simp only[List.length_nil]at q4 q5;omega
  have kn:tot l≤B∧(∀ y∈l,PlC R F y)∧l.length≤N+256:=⟨i.tt,i.pl,by omega⟩
 ·split
  ·exact(kl 0 (hx.none (by assumption)).symm).2.1
  ·split
   ·exact(kl _ rfl).2.1
   ·split
    ·exact(kg (by assumption)).2.1
    ·exact kn.2.1
 ·split
  ·exact(kl 0 (hx.none (by assumption)).symm).1
  ·split
   ·exact(kl _ rfl).1
   ·split
    ·exact(kg (by assumption)).1
    ·exact kn.1
 ·split
  ·exact(kl 0 (hx.none (by assumption)).symm).2.2
  ·split
   ·exact(kl _ rfl).2.2
   ·split
    ·exact(kg (by assumption)).2.2
    ·exact kn.2.2
end
def doH (j:List Judgement)(h:Int)(l:List Claim):List Claim:=(j.filter fun x=>aG j x h).foldl (fun s x=>doJ x s) l
def exS (j:List Judgement):Nat→List Claim→List Claim
 |0,_=>[]
 |_+1,[] =>[]
 |n+1,y::r=>doH j y.hour (y::r.takeWhile fun z=>z.hour==y.hour)++exS j n (r.dropWhile fun z=>z.hour==y.hour)
def fj (c:List Claim)(h:Int):List Claim:=c.filter fun z=>z.hour==h
def vQ (f:Int→List Claim)(lo:Int):Nat→List Claim
 |0=>[]
 |n+1=>f lo++vQ f (lo+1) n
theorem vz {f g:Int→List Claim}:∀ (n:Nat) (lo:Int),(∀ h,lo≤h→h<lo+n→f h=g h)→vQ f lo n=vQ g lo n
 |0,_,_=>rfl
 |n+1,lo,h=>by rw[vQ,vQ,h lo (by omega) (by omega),vz n (lo+1) fun k h1 h2=>h k (by omega) (by omega)]
theorem q_ (p:Claim→Bool)(f:Int→List Claim):∀ (n:Nat) (lo:Int),(vQ f lo n).filter p=vQ (fun h=>(f h).filter p) lo n
 |0,_=>rfl
 |n+1,lo=>by rw[vQ,vQ,List.filter_append,q_ p f n (lo+1)]
theorem zb {f:Int→List Claim}{z:Claim}:∀ {n:Nat} {lo:Int},z∈vQ f lo n→∃ h,lo≤h∧h<lo+n∧z∈f h
 |0,_,hz=>by cases hz
 |n+1,lo,hz=>by
  rcases List.mem_append.1 hz with hz|hz
  ·exact⟨lo,by omega,by omega,hz⟩
  ·obtain⟨h,h1,h2,h3⟩:=zb hz;exact⟨h,by omega,by omega,h3⟩
def exR (j:List Judgement)(c:List Claim)(lo:Int)(n:Nat):List Claim:=vQ (fun h=>doH j h (fj c h)) lo n
theorem zc (j:List Judgement)(c:List Claim)(lo:Int)(n:Nat):exR j c lo (n+1)=doH j lo (fj c lo)++exR j c (lo+1) n:=rfl
theorem Q6 (x:Judgement):doJ x []=[]:=by
 unfold doJ;split
 ·rfl
 ·split
  ·rfl
  ·split <;>rfl
theorem J_ (j:List Judgement)(h:Int):doH j h []=[]:=by
 unfold doH;have:∀ L:List Judgement,L.foldl (fun s x=>doJ x s) []=[]:=fun L=>by
  induction L with
  |nil=>rfl
  |cons a L ih=>rw[List.foldl_cons,Q6,ih]
 exact this _
theorem Hg (j:List Judgement)(c:List Claim):∀ (m:Nat) (lo:Int) (n:Nat),(∀ z∈c,lo+m≤z.hour)→exR j c lo (m+n)=exR j c (lo+m) n
 |0,lo,n,_=>by simp
 |m+1,lo,n,h=>by
  have e:fj c lo=[]:=List.filter_eq_nil_iff.2 fun z hz=>by have:=h z hz;simp;omega
  rw[show m+1+n=(m+n)+1 by omega,zc,e,J_,List.nil_append,Hg j c m (lo+1) n (fun z hz=>by have:=h z hz;omega)];congr 1;omega
theorem LG (j:List Judgement){c c':List Claim}(n:Nat)(lo:Int)(h:∀ h,lo≤h→fj c h=fj c' h):exR j c lo n=exR j c' lo n:=vz n lo fun k h1 _=>by rw[h k h1]
abbrev Fk (c:List Claim):Prop:=c.Pairwise fun a b=>a.hour≤b.hour
theorem D9 {y:Claim}:∀ {r:List Claim},Fk (y::r)→(r.takeWhile fun z=>z.hour==y.hour)=fj r y.hour∧(r.dropWhile fun z=>z.hour==y.hour)=r.filter fun z=>decide (y.hour<z.hour)
 | [],_=>⟨rfl,rfl⟩
 |z::r,h=>by
  have h1:=List.pairwise_cons.1 h;have h2:=List.pairwise_cons.1 h1.2;have hz:=h1.1 z (by simp);by_cases e:z.hour=y.hour
  ·have hr:Fk (y::r):=List.pairwise_cons.2 ⟨fun w hw=>h1.1 w (by simp[hw]),h2.2⟩;obtain⟨p1,p2⟩:=D9 hr;have e1:(z.hour==y.hour)=true:=by simpa using e
   have e2:decide (y.hour<z.hour)=false:=by simp;omega
   unfold fj at p1 ⊢;rw[List.takeWhile_cons_of_pos (p:=fun z:Claim=>z.hour==y.hour) e1,List.dropWhile_cons_of_pos (p:=fun z:Claim=>z.hour==y.hour) e1,List.filter_cons_of_pos (p:=fun z:Claim=>z.hour==y.hour) e1,List.filter_cons_of_neg (p:=fun z:Claim=>decide (y.hour<z.hour)) (by rw[e2];simp),p1,p2];exact⟨rfl,rfl⟩
  ·have e1:¬ (z.hour==y.hour)=true:=by simpa using e
   have e3:∀ w∈z::r,y.hour<w.hour:=fun w hw=>by
    rcases List.mem_cons.1 hw with rfl|hw
    ·omega
    ·have:=h2.1 w hw;omega
   refine⟨?_,?_⟩
   ·rw[List.takeWhile_cons_of_neg (p:=fun z:Claim=>z.hour==y.hour) e1];exact(List.filter_eq_nil_iff.2 fun w hw=>by have:=e3 w hw;simp;omega).symm
   ·rw[List.dropWhile_cons_of_neg (p:=fun z:Claim=>z.hour==y.hour) e1];exact(List.filter_eq_self.2 fun w hw=>by have:=e3 w hw;simp;omega).symm
theorem IU (j:List Judgement):∀ (k:Nat) (c:List Claim) (lo:Int) (n:Nat),c.length<k→Fk c→(∀ z∈c,lo≤z.hour∧z.hour<lo+n)→exS j k c=exR j c lo n
 |0,_,_,_,hk,_,_=>absurd hk (Nat.not_lt_zero _)
 |k+1,[],lo,n,_,_,_=>by
  have:∀ (n:Nat) (lo:Int),exR j [] lo n=[]:=fun n=>by
   induction n with
   |zero=>intro _;rfl
   |succ n ih=>intro lo;rw[zc,ih,show fj [] lo=[]from rfl,J_];rfl
  rw[this];rfl
 |k+1,y::r,lo,n,hk,hs,hr=>by
  have hy:=hr y (by simp);have h1:=List.pairwise_cons.1 hs;obtain⟨m,hm⟩:∃ m:Nat,y.hour=lo+m:=⟨(y.hour - lo).toNat,by omega⟩;obtain⟨n',hn'⟩:∃ n':Nat,n=m+(n'+1):=⟨n - m - 1,by omega⟩;obtain⟨p1,p2⟩:=D9 hs;have hall:∀ z∈y::r,y.hour≤z.hour:=fun z hz=>by
   rcases List.mem_cons.1 hz with rfl|hz
   ·omega
   ·exact h1.1 z hz
  rw[hn',Hg j (y::r) m lo (n'+1) (fun z hz=>by have:=hall z hz;omega),zc,exS,←hm,p1,p2];have e1:fj (y::r) y.hour=y::fj r y.hour:=List.filter_cons_of_pos (by simp);rw[e1];congr 1
  have hlen:(r.filter fun z=>decide (y.hour<z.hour)).length<k:=by
   have:=List.length_filter_le (fun z:Claim=>decide (y.hour<z.hour)) r;simp only[List.length_cons]at hk;omega
  rw[IU j k _ (y.hour+1) n' hlen (List.Pairwise.sublist List.filter_sublist h1.2) (fun z hz=>by
   have hz':=List.mem_filter.1 hz;have h2:y.hour<z.hour:=by simpa using hz'.2
   have h3:=hr z (by simp[hz'.1]);omega)]
  refine LG j n' _ fun h hh=>?_;unfold fj;rw[List.filter_cons_of_neg (by simp;omega),List.filter_filter];refine List.filter_congr fun z _=>?_;by_cases e:z.hour=h
  ·simp[e];omega
  ·simp[e]
section
variable {ρ:Int→Int}{h R F B:Int}{N:Nat}
theorem Ka:∀ m:List Claim,tot m.reverse=tot m
 | [] =>rfl
 |a::m=>by rw[List.reverse_cons,tL,Ka m];simp only[tot];omega
theorem zd {nm:Int→Bool}{f:Int}(hf:nm f=true):∀ (l:List Claim) (n:Int),(n9 f n l).filter (fun y=>!nm y.farm)=l.filter fun y=>!nm y.farm
 | [],_=>rfl
 |x::r,n=>by
  unfold n9;by_cases e:x.farm=f
  ·rw[if_pos e,List.filter_cons_of_neg (by simp[mg,e,hf]),List.filter_cons_of_neg (by simp[e,hf]),zd hf]
  ·rw[if_neg e];by_cases e2:nm x.farm=true
   ·rw[List.filter_cons_of_neg (by simp[e2]),List.filter_cons_of_neg (by simp[e2]),zd hf]
   ·have e2:nm x.farm=false:=by simpa using e2
    rw[List.filter_cons_of_pos (by simp[e2]),List.filter_cons_of_pos (by simp[e2]),zd hf]
theorem Fl (nm:Int→Bool):∀ (l:List Claim) (r p:Int),amt (l.filter fun y=>!nm y.farm) r p=if nm p=true then 0 else amt l r p
 | [],r,p=>by simp[amt]
 |x::l,r,p=>by
  have ih:=Fl nm l r p;by_cases e:nm x.farm=true
  ·rw[List.filter_cons_of_neg (by simp[e]),ih];split
   ·rfl
   ·rename_i hp;have:¬ (x.right=r∧x.farm=p):=fun q=>hp (by rw[←q.2];exact e);rw[amt,if_neg this];omega
  ·have e':nm x.farm=false:=by simpa using e
   rw[List.filter_cons_of_pos (by simp[e']),amt,ih,amt];by_cases hp:nm p=true
   ·have:¬ (x.right=r∧x.farm=p):=fun q=>e (by rw[q.2];exact hp);rw[if_pos hp,if_pos hp,if_neg this];rfl
   ·rw[if_neg hp,if_neg hp]
theorem Dock.filter {l:List Claim}(d:Dock ρ h l)(p:Claim→Bool):Dock ρ h (l.filter p):=
 ⟨d.s.sublist List.filter_sublist,fun y hy=>d.rk y (List.mem_filter.1 hy).1,fun y hy=>d.hr y (List.mem_filter.1 hy).1,fun y hy=>d.pos y (List.mem_filter.1 hy).1⟩
theorem LH {dd:District}{x:Judgement}(hx:JOk dd x)(h0:x.of_=0){l:List Claim}(i:InvD ρ h R F B N l)(hB:0≤B∧B≤4398046511104)(hN:N≤8192)(hd:Dock ρ h (doJ x l)):
  (∀ nm:Int→Bool,nm x.farm=true→(3≤x.kind→nm x.other=true)→(doJ x l).filter (fun y=>!nm y.farm)=l.filter fun y=>!nm y.farm)∧tot (doJ x l)≤tot l∧(x.kind≠1→x.kind≠2→tot (doJ x l)=tot l):=by
 have hlen:=i.len;have hb:=i.lit;have hL:Lit l:=fun y hy=>by have:=hb y hy;omega
 have hmB:l.length*40≤cU:=by unfold cU;omega
 have hp:∀ y∈l,0≤y.litres∧PlC R F y:=fun y hy=>⟨(hb y hy).1,i.pl y hy⟩;have hk:=hx.kind h0;have hn:0≤x.n∧x.n<4611686018427387904:=by
  by_cases hk1:x.kind=1
  ·rw[hx.none hk1];omega
  ·have:=hx.n hk1 h0;omega
 have nz:(l.filter fun y=>!ak y)=l:=List.filter_eq_self.2 fun y hy=>by
  have:=i.d.pos y hy;unfold ak;simp;omega
 have kl:∀ n:Int,n=x.n→(∀ nm:Int→Bool,nm x.farm=true→(eA l x.farm n).filter (fun y=>!nm y.farm)=l.filter fun y=>!nm y.farm)∧tot (eA l x.farm n)≤tot l:=fun n e=>by
  subst e;obtain⟨_,_,e⟩:=sJ x l hn.1 hn.2 hL i.d.s hmB;refine⟨fun nm hf=>?_,?_⟩
  ·rw[e,List.filter_filter];have:(fun a=>(!nm a.farm&& !ak a))=fun a:Claim=>(!ak a&& !nm a.farm):=by funext a;exact Bool.and_comm _ _
   rw[this,←List.filter_filter,zd hf,List.filter_filter];have:(fun a=>(!ak a&& !nm a.farm))=fun a:Claim=>(!nm a.farm&& !ak a):=by funext a;exact Bool.and_comm _ _
   rw[this,←List.filter_filter,nz]
  ·rw[e,vv];exact(xi x.farm l x.n hn.1 hp).1
 unfold doJ at hd ⊢;by_cases k1:x.kind=1
 ·rw[if_pos k1];obtain⟨q1,q2⟩:=kl 0 (hx.none k1).symm;exact⟨fun nm a _=>q1 nm a,q2,fun a=>absurd k1 a⟩
 rw[if_neg k1]at hd ⊢;by_cases k2:x.kind=2
 ·rw[if_pos k2];obtain⟨q1,q2⟩:=kl x.n rfl;exact⟨fun nm a _=>q1 nm a,q2,fun _ a=>absurd k2 a⟩
 rw[if_neg k2]at hd ⊢;by_cases k3:x.kind=3
 ·rw[if_pos k3]at hd ⊢;have ho:=hx.other (by omega);obtain⟨_,e⟩:=tJ l x.farm x.other x.n hB (by omega) hn.1 hn.2 hb;have q:=A5 (R:=R) (F:=max F (x.other+1)) (f:=x.farm) (o:=x.other) ⟨ho.1,by omega⟩ l.reverse x.n [] [] hn.1 (fun y hy=>⟨(hp y (by simpa using hy)).1,(hp y (by simpa using hy)).2.1,(hp y (by simpa using hy)).2.2.1,by have:=(hp y (by simpa using hy)).2.2.2;omega⟩) (fun y hy=>by cases hy) (fun y hy=>by cases hy);have p1:=(zZ (R:=R) (F:=max F (x.other+1)) (gv x.farm x.other l.reverse x.n [] []).2 (gv x.farm x.other l.reverse x.n [] []).1 q.2.1 q.2.2.1).1;have hR:∀ y∈l.reverse,y.rank=ρ y.right∧y.hour=h∧0≤y.litres:=fun y hy=>by
   have hy:y∈l:=by simpa using hy
   have:=i.d.pos y hy;exact⟨i.d.rk y hy,i.d.hr y hy,by omega⟩
  obtain⟨g1,g2,g3⟩:=Fi (ρ:=ρ) (h:=h) (f:=x.farm) (o:=x.other) l.reverse x.n [] [] hn.1 hR ⟨List.Pairwise.nil,(fun y hy=>by cases hy),(fun y hy=>by cases hy),(fun y hy=>by cases hy)⟩ ⟨(fun y hy=>by cases hy),(fun y hy=>by cases hy),(fun y hy=>by cases hy),(fun y hy=>by cases hy)⟩;obtain⟨_,g5⟩:=Fj _ _ g1 g2;have ht:tot (jw l x.farm x.other x.n)=tot l:=by
   rw[e,p1,q.1,Ka];simp only[tot];omega
  refine⟨fun nm a1 a2=>?_,by omega,fun _ _=>ht⟩;refine zX (hd.filter _) (i.d.filter _) fun r p=>?_;rw[Fl,Fl];split
  ·rfl
  ·rename_i hnp;have n1:p≠x.farm:=fun q=>hnp (by rw[q];exact a1);have n2:p≠x.other:=fun q=>hnp (by rw[q];exact a2 (by omega));have g4:=g3 r p;rw[if_neg n1,if_neg n1]at g4;rw[e,g5,y8 (l:=(gv x.farm x.other l.reverse x.n [] []).2) (fun y hy q=>n2 (by rw[←q.2];exact g2.fm y hy))];have:amt l.reverse r p=amt l r p:=CA (List.reverse_perm l) r p;simp only[amt]at g4;omega
 ·rw[if_neg k3]at hd ⊢;exact⟨fun _ _ _=>rfl,Int.le_refl _,fun _ _=>rfl⟩
theorem Kb {dd:District}(a2:List Judgement)(s_0:List Claim×List Claim)(hR:R≤256)(hF:(dd.farms.length:Int)=F)(hB:0≤B∧B≤4398046511104):∀ (L:List Judgement) (N:Nat) (l:List Claim),(∀ x∈L,JOk dd x∧x.of_=0)→InvD ρ h R F B N l→N+256*L.length≤8192→
  (okL (aU a2 s_0) (cd a2 s_0) L l∧gD (aU a2 s_0) L l=.inr (L.foldl (fun s x=>doJ x s) l))∧InvD ρ h R F B (N+256*L.length) (L.foldl (fun s x=>doJ x s) l)∧
  (∀ nm:Int→Bool,(∀ x∈L,nm x.farm=true∧(3≤x.kind→nm x.other=true))→(L.foldl (fun s x=>doJ x s) l).filter (fun y=>!nm y.farm)=l.filter fun y=>!nm y.farm)∧tot (L.foldl (fun s x=>doJ x s) l)≤tot l∧((∀ x∈L,x.kind≠1∧x.kind≠2)→tot (L.foldl (fun s x=>doJ x s) l)=tot l)
 | [],N,l,_,i,_=>⟨⟨trivial,rfl⟩,by simpa using i,fun _ _=>rfl,Int.le_refl _,fun _=>rfl⟩
 |x::L,N,l,hx,i,hN=>by
  have h1:=hx x (by simp);simp only[List.length_cons]at hN ⊢;obtain⟨e1,e2,e3⟩:=i.step h1.1 h1.2 hR hF hB (by omega) a2 s_0;obtain⟨f1,f2,f3⟩:=LH h1.1 h1.2 i hB (by omega) e3.d;obtain⟨⟨q1,q2⟩,q3,q4,q5,q6⟩:=Kb a2 s_0 hR hF hB L (N+256) (doJ x l) (fun y hy=>hx y (by simp[hy])) e3 (by omega);rw[List.foldl_cons];refine⟨⟨⟨e2,fun s' e=>?_⟩,?_⟩,?_,fun nm hnm=>?_,by omega,fun hk=>?_⟩
  ·rw[e1]at e;cases e;exact q1
  ·simp only[gD,e1];exact q2
  ·rw[show N+256*(L.length+1)=N+256+256*L.length by omega];exact q3
  ·rw[q4 nm (fun y hy=>hnm y (by simp[hy]))];have:=hnm x (by simp);exact f1 nm this.1 this.2
  ·rw[q6 fun y hy=>hk y (by simp[hy])];have:=hk x (by simp);exact f3 this.1 this.2
end
theorem LI (j:List Judgement)(h:Int):gG j h ((aC j h).map tZ):=by
 have e:=kP j h;have key:∀ (R A:List Judgement) (k:Nat) (s:List Judgement),j=A++R→A.length=k→s=(A.filter fun x=>aG j x h)→
   okI (dP j h) (fh j h ((aC j h).map tZ)) R.length k s:=fun R=>by
  induction R with
  |nil=>exact fun A k s _ _ _=>trivial
  |cons y R ih=>
   intro A k s hj hk hs;have g:j.getD k default=y:=by rw[hj];exact gc A y default R hk.symm
   have hj':j=(A++[y])++R:=by rw[hj];simp
   refine⟨?_,fun s' e'=>?_⟩
   ·unfold fh;rw[g,zY];refine⟨fun hc=>?_,fun hc=>?_⟩
    ·rw[e];have hm:(j.filter fun x=>aG j x h)=s++y::(R.filter fun x=>aG j x h):=by
      have:(j.filter fun x=>aG j x h)=((A++y::R).filter fun x=>aG j x h):=by rw[←hj]
      rw[this,List.filter_append,List.filter_cons_of_pos (by exact hc),←hs]
     rw[hm];simp
    ·exact hc
   ·unfold dP at e';rw[g,zY]at e';refine ih (A++[y]) (k+1) s' hj' (by simp[hk]) ?_;cases hc:aG j y h with
    |true=>
     rw[hc]at e';simp only[cond_true,Sum.inr.injEq]at e';rw[List.filter_append,List.filter_cons_of_pos (by exact hc),←hs,←e'];rfl
    |false=>
     rw[hc]at e';simp only[cond_false,Sum.inr.injEq]at e';rw[List.filter_append,List.filter_cons_of_neg (by rw[hc];simp),←hs,←e'];simp
 intro _;refine⟨key j [] 0 [] rfl rfl rfl,fun s hs=>?_⟩;rw[tK j h j [] 0 [] rfl rfl]at hs;simp only[Sum.inr.injEq]at hs;rw[←hs,e];simp
structure Given (d:District)(j:List Judgement)(c:List Claim):Prop where
 js:∀ x∈j,JOk d x
 jl:j.length≤20
 cs:∀ x∈c,FineC d x
 st:c.Pairwise xo
 cl:c.length≤300
 rl:d.rights.length≤256
theorem Given.sub {d:District}{j:List Judgement}{c c':List Claim}(g:Given d j c)(h:c'.Sublist c):Given d j c':=
 ⟨g.js,g.jl,fun x hx=>g.cs x (h.subset hx),g.st.sublist h,Nat.le_trans h.length_le g.cl,g.rl⟩
def rho (d:District)(r:Int):Int:=(d.rights.getD r.toNat default).rank
def Fo:Int:=322122547200
theorem IV {b:Int}(hb:0≤b):∀ {l:List Claim},(∀ y∈l,y.litres≤b)→∀ {n:Nat},l.length≤n→tot l≤n*b
 | [],_,n,_=>by
  have:=Int.mul_nonneg (show 0≤(n:Int) by omega) hb;simpa[tot]using this
 |x::l,h,n,hn=>by
  have h1:=h x (by simp);obtain⟨m,rfl⟩:∃ m,n=m+1:=⟨n - 1,by simp only[List.length_cons]at hn;omega⟩;have:=IV hb (l:=l) (fun y hy=>h y (by simp[hy])) (n:=m) (by simp only[List.length_cons]at hn;omega);have e:((m+1:Nat):Int)*b=m*b+b:=Q4 m b;rw[tot,e];omega
theorem Ok {a b:Claim}(h:xo a b)(e:a.hour=b.hour):tlt a b:=by
 unfold xo s6 at h;rcases h with h|h
 ·omega
 ·exact h.2
theorem Given.start {d:District}{j:List Judgement}{c:List Claim}(g:Given d j c){h:Int}(hh:∀ x∈c,x.hour=h):InvD (rho d) h d.rights.length d.farms.length Fo 300 c:=by
 refine⟨⟨?_,fun y hy=>(g.cs y hy).rank.symm,hh,fun y hy=>by have:=(g.cs y hy).l0;omega⟩,fun y hy=>?_,?_,g.cl⟩
 ·exact g.st.imp_of_mem fun {a b} ha hb hab=>Ok hab (by rw[hh a ha,hh b hb])
 ·have:=g.cs y hy;exact⟨⟨this.r0,this.r1⟩,this.f0,this.f1⟩
 ·have:=IV (b:=1073741824) (by omega) (fun y hy=>(g.cs y hy).l1) g.cl;unfold Fo;omega
theorem Given.hour {d:District}{j:List Judgement}{c:List Claim}(g:Given d j c){h:Int}(hh:∀ x∈c,x.hour=h)(a2:List Judgement)(s_0:List Claim×List Claim):
  (okL (aU a2 s_0) (cd a2 s_0) (aC j h) c∧gD (aU a2 s_0) (aC j h) c=.inr (doH j h c))∧InvD (rho d) h d.rights.length d.farms.length Fo 5420 (doH j h c)∧
  (∀ nm:Int→Bool,(∀ x∈j,x.of_=0→nm x.farm=true∧(3≤x.kind→nm x.other=true))→(doH j h c).filter (fun y=>!nm y.farm)=c.filter fun y=>!nm y.farm)∧tot (doH j h c)≤tot c∧((∀ x∈j,x.of_=0→x.kind≠1∧x.kind≠2)→tot (doH j h c)=tot c):=by
 have hin:∀ x∈aC j h,x∈j∧x.of_=0:=fun x hx=>by
  rw[kP]at hx;have:=List.mem_filter.1 hx;exact⟨this.1,vt this.2⟩
 have hlen:(aC j h).length≤20:=by
  rw[kP];have:=List.length_filter_le (fun x=>aG j x h) j;have:=g.jl;omega
 obtain⟨q1,q2,q3,q4,q5⟩:=Kb a2 s_0 (by have:=g.rl;omega) rfl (by unfold Fo;omega) (aC j h) 300 c (fun x hx=>⟨g.js x (hin x hx).1,(hin x hx).2⟩) (g.start hh) (by omega);have e:doH j h c=(aC j h).foldl (fun s x=>doJ x s) c:=by rw[kP];rfl
 rw[e];refine⟨q1,⟨q2.d,q2.pl,q2.tt,?_⟩,fun nm hnm=>q3 nm fun x hx=>hnm x (hin x hx).1 (hin x hx).2,q4,fun hk=>q5 fun x hx=>hk x (hin x hx).1 (hin x hx).2⟩;have:=q2.len;omega
theorem Kc {q:Claim→Bool}:∀ {K:List Claim} {x:Claim} {R:List Claim},(∀ y∈K,q y=true)→q x=false→(K++x::R).takeWhile q=K∧(K++x::R).dropWhile q=x::R
 | [],x,R,_,hx=>by
  rw[List.nil_append,List.takeWhile_cons_of_neg (by rw[hx];simp),List.dropWhile_cons_of_neg (by rw[hx];simp)];exact⟨rfl,rfl⟩
 |y::K,x,R,h,hx=>by
  obtain⟨p1,p2⟩:=Kc (R:=R) (fun z hz=>h z (List.mem_cons_of_mem _ hz)) hx;rw[List.cons_append,List.takeWhile_cons_of_pos (h y (by simp)),List.dropWhile_cons_of_pos (h y (by simp)),p1,p2];exact⟨rfl,rfl⟩
theorem Hh {q:Claim→Bool}:∀ {K:List Claim},(∀ y∈K,q y=true)→K.takeWhile q=K∧K.dropWhile q=[]
 | [],_=>⟨rfl,rfl⟩
 |y::K,h=>by
  obtain⟨p1,p2⟩:=Hh fun z hz=>h z (List.mem_cons_of_mem _ hz);rw[List.takeWhile_cons_of_pos (h y (by simp)),List.dropWhile_cons_of_pos (h y (by simp)),p1,p2];exact⟨rfl,rfl⟩
theorem Yw (y:Claim)(r:List Claim):cB (y::r) (y::r)∧(bif(decide ((ah (y::r) (y::r)) <0))then((y::r).length:Int)else(ah (y::r) (y::r)))=((y::r.takeWhile fun z=>z.hour==y.hour).length:Int):=by
 refine⟨fun _=>nr _ _ _ fun k _ _ _=>⟨by omega,by simp only[List.length_cons];omega⟩,?_⟩;unfold ah;rcases y5 (step:=ct (y::r) (y::r)) (y::r) default (fun z=>!(z.hour==y.hour)) (fun k _=>rfl)with⟨e,h⟩ | ⟨K,x,T,h1,e,h2,h3⟩
 ·rw[e];obtain⟨p1,_⟩:=Hh (q:=fun z=>z.hour==y.hour) (K:=r) fun z hz=>by have:=h z (by simp[hz]);simpa using this
  rw[p1];rfl
 ·rw[e];have hd:decide ((K.length:Int) <0)=false:=decide_eq_false (by omega);simp only[hd,cond_false];cases K with
  |nil=>
   simp only[List.nil_append,List.cons.injEq]at h1;rw[←h1.1]at h2;simp at h2
  |cons k K=>
   simp only[List.cons_append,List.cons.injEq]at h1;obtain⟨p1,_⟩:=Kc (q:=fun z=>z.hour==y.hour) (K:=K) (x:=x) (R:=T) (fun z hz=>by have:=h3 z (by simp[hz]);simpa using this) (by simpa using h2);rw[h1.2,p1];simp
theorem z6 (q:Claim→Bool):∀ r:List Claim,r.take (r.takeWhile q).length=r.takeWhile q∧r.drop (r.takeWhile q).length=r.dropWhile q
 | [] =>⟨rfl,rfl⟩
 |x::r=>by
  obtain⟨p1,p2⟩:=z6 q r;by_cases h:q x=true
  ·rw[List.takeWhile_cons_of_pos h,List.dropWhile_cons_of_pos h];rw[List.length_cons,List.take_succ_cons,List.drop_succ_cons,p1,p2];exact⟨rfl,rfl⟩
  ·rw[List.takeWhile_cons_of_neg h,List.dropWhile_cons_of_neg h];exact⟨rfl,rfl⟩
theorem D_ (q:Claim→Bool):∀ (r:List Claim),∀ x∈r.takeWhile q,q x=true
 | [],x,hx=>by cases hx
 |y::r,x,hx=>by
  by_cases h:q y=true
  ·rw[List.takeWhile_cons_of_pos h]at hx;rcases List.mem_cons.1 hx with rfl|hx
   ·exact h
   ·exact D_ q r x hx
  ·rw[List.takeWhile_cons_of_neg h]at hx;cases hx
section
variable {d:District}{j:List Judgement}
theorem Given.head {y:Claim}{r:List Claim}(g:Given d j (y::r)):Given d j (y::r.takeWhile fun z=>z.hour==y.hour)∧(∀ x∈(y::r.takeWhile fun z=>z.hour==y.hour),x.hour=y.hour)∧Given d j (r.dropWhile fun z=>z.hour==y.hour)∧(r.takeWhile fun z=>z.hour==y.hour).length+(r.dropWhile fun z=>z.hour==y.hour).length=r.length:=by
 refine⟨g.sub (List.Sublist.cons_cons _ (List.takeWhile_sublist _)),fun x hx=>?_,g.sub ((List.dropWhile_sublist _).trans (List.sublist_cons_self _ _)),?_⟩
 ·rcases List.mem_cons.1 hx with rfl|hx
  ·rfl
  ·simpa using D_ _ r x hx
 ·rw[←List.length_append,List.takeWhile_append_dropWhile]
theorem Hi (a1:List Claim):∀ (k i:Nat) (R acc:List Claim),R.length<k→Given d j R→acc.length+5420*R.length≤1626000→
  okI (cp a1 j) (gb a1 j) k i (R,acc)∧aq (cp a1 j) k i (R,acc)=.inl (acc++exS j k R)
 |0,_,_,_,hk,_,_=>absurd hk (Nat.not_lt_zero _)
 |k+1,i,[],acc,_,_,_=>by
  refine⟨⟨fun _ h=>?_,fun s' e=>?_⟩,?_⟩
  ·have:=of_decide_eq_true h;simp at this
  ·cases e
  ·simp[aq,cp,exS]
 |k+1,i,y::r,acc,hk,g,hl=>by
  obtain⟨c1,c2⟩:=Yw y r;obtain⟨g1,g2,g3,g4⟩:=g.head;obtain⟨⟨q1,q2⟩,q3,_⟩:=g1.hour g2 j (y::r,acc);obtain⟨t1,t2⟩:=z6 (fun z=>z.hour==y.hour) r;have hd:decide (((y::r).length:Int) > 0)=true:=decide_eq_true (by simp only[List.length_cons];omega);have e1:((y::r).take (Int.toNat (((y::r.takeWhile fun z=>z.hour==y.hour).length:Nat):Int))).drop 0=y::r.takeWhile fun z=>z.hour==y.hour:=by
   rw[Int.toNat_natCast,List.length_cons,List.take_succ_cons,t1];rfl
  have e2:((y::r).take (Int.toNat ((y::r).length:Int))).drop (Int.toNat (((y::r.takeWhile fun z=>z.hour==y.hour).length:Nat):Int))=r.dropWhile fun z=>z.hour==y.hour:=by
   rw[Int.toNat_natCast,Int.toNat_natCast,List.take_length,List.length_cons,List.drop_succ_cons,t2]
  have g0:(y::r).getD 0 default=y:=rfl;have hstep:cp a1 j i (y::r,acc)=.inr (r.dropWhile (fun z=>z.hour==y.hour),acc++doH j y.hour (y::r.takeWhile fun z=>z.hour==y.hour)):=by
   simp only[cp,hd,cond_true,c2,e1,e2,g0,q2]
  have hlen:=q3.len;have hcl:=g.cl;simp only[List.length_cons]at hk hl hcl;obtain⟨r1,r2⟩:=Hi a1 k (i+1) (r.dropWhile fun z=>z.hour==y.hour) (acc++doH j y.hour (y::r.takeWhile fun z=>z.hour==y.hour)) (by omega) g3 (by rw[List.length_append];omega);refine⟨⟨fun _ _=>?_,fun s' e=>?_⟩,?_⟩
  ·rw[c2,e1,g0];refine⟨c1,⟨by omega,by omega,by simp only[List.length_cons];omega⟩,?_,⟨by omega,by simp only[List.length_cons];omega⟩,LI j y.hour,q1,fun s_1 hs=>?_⟩
   ·simp only[List.length_cons];unfold cU;omega
   ·rw[q2]at hs;simp only[Sum.inr.injEq]at hs;subst hs;refine⟨by show(acc++doH j y.hour (y::r.takeWhile fun z=>z.hour==y.hour)).length*40≤cU;rw[List.length_append];unfold cU;omega,fun _=>⟨by omega,by simp only[List.length_cons];omega,by omega⟩⟩
  ·rw[hstep]at e;simp only[Sum.inr.injEq]at e;subst e;exact r1
  ·simp only[aq,hstep];rw[r2,exS,List.append_assoc]
theorem CF (g:∀ x∈j,JOk d x)(hr:d.rights.length≤256)(h:Int)(l0:List Claim):∀ (R A:List Judgement) (k N:Nat) (s:List Claim),j=A++R→A.length=k→InvD (rho d) h d.rights.length d.farms.length Fo N s→N+256*R.length≤8192→okI (lv j h) (vI j h) R.length k s
 | [],_,_,_,_,_,_,_,_=>trivial
 |y::R,A,k,N,s,hj,hk,i,hN=>by
  have gd:j.getD k default=y:=by rw[hj];exact gc A y default R hk.symm
  have hj':j=(A++[y])++R:=by rw[hj];simp
  simp only[List.length_cons]at hN;have hy:=g y (by rw[hj];simp);have hb:=i.lit;have hlen:=i.len;have hB:(0:Int)≤Fo∧Fo≤4398046511104:=by unfold Fo;omega
  have hL:Lit s:=fun y hy=>by have:=hb y hy;omega
  have hmB:s.length*40≤cU:=by unfold cU;omega
  have hp:=fun(h0:y.of_=0) =>i.step hy h0 (by omega) rfl hB (by omega) j (s,s);refine⟨fun _ hc=>?_,fun s' e=>?_⟩
  ·rw[gd]at hc ⊢;have h0:y.of_=0:=vt (by simpa using hc);have hn:0≤y.n∧y.n<4611686018427387904:=by
    by_cases hk1:y.kind=1
    ·rw[hy.none hk1];omega
    ·have:=hy.n hk1 h0;omega
   have kl:=(sJ y s hn.1 hn.2 hL i.d.s hmB).1.2.2;refine⟨fun k1=>?_,fun _=>⟨fun _=>kl,fun _ k3=>?_⟩⟩
   ·have k1:y.kind=1:=by simpa using k1
    rw[hy.none k1]at kl;exact kl
   ·have k3:y.kind=3:=by simpa using k3
    exact(J9 y s (hy.other (by omega)).2.2 hB i.d hb (by omega) hn.1 hn.2).1.2.2
  ·rw[D8 j h y k s gd]at e;simp only[Sum.inr.injEq]at e;subst e;refine CF g hr h l0 R (A++[y]) (k+1) (N+256) _ hj' (by simp[hk]) ?_ (by omega);by_cases hc:aG j y h=true
   ·rw[if_pos hc];exact(hp (vt hc)).2.2
   ·rw[if_neg hc];exact⟨i.d,i.pl,i.tt,by omega⟩
theorem Fq (a1 acc A:List Claim)(y:Claim)(r:List Claim)(ha:a1=A++y::r)(hm:a1.length<1000):∀ (T K:List Claim) (n i:Nat),y::r=K++T→(∀ x∈K,x.hour=y.hour)→T.length<n→
  okI (cL a1 (acc,(A.length:Int))) (oB a1 (acc,(A.length:Int))) n i ((A.length+K.length:Nat):Int)∧aq (cL a1 (acc,(A.length:Int))) n i ((A.length+K.length:Nat):Int)=.inl ((A.length+(K++T.takeWhile fun z=>z.hour==y.hour).length:Nat):Int)
 |T,K,0,_,_,_,hn=>absurd hn (Nat.not_lt_zero _)
 |T,K,n+1,i,hT,hK,hn=>by
  have ga:a1.getD A.length default=y:=by rw[ha];exact gc A y default r rfl
  have hla:a1.length=A.length+(K.length+T.length):=by rw[ha,hT];simp
  have hpos:0< (K++T).length:=by rw[←hT];simp
  rw[List.length_append]at hpos;refine⟨⟨fun _=>⟨fun h=>?_,fun _=>⟨by omega,?_⟩⟩,fun s' e=>?_⟩,?_⟩
  ·have:=of_decide_eq_true h;exact⟨by omega,this⟩
  ·show(A.length:Int) <_;omega
  ·cases T with
   |nil=>
    have hd:decide (((A.length+K.length:Nat):Int) < (a1.length:Int))=false:=decide_eq_false (by simp only[List.length_nil]at hla;omega);simp only[cL,hd,Bool.false_and,cond_false]at e;cases e
   |cons x T=>
    have gx:a1.getD (A.length+K.length) default=x:=by
     rw[ha,hT,←List.append_assoc];exact gc (A++K) x default T (by simp)
    have hd:decide (((A.length+K.length:Nat):Int) < (a1.length:Int))=true:=decide_eq_true (by simp only[List.length_cons]at hla;omega);simp only[cL,hd,Bool.true_and,Int.toNat_natCast,gx,ga]at e;cases hx:x.hour==y.hour with
    |false=>rw[hx]at e;cases e
    |true=>
     rw[hx,f8 (by omega) (by omega)]at e;simp only[cond_true,Sum.inr.injEq]at e;have:=Fq a1 acc A y r ha hm T (K++[x]) n (i+1) (by rw[hT];simp) (fun z hz=>by
      rcases List.mem_append.1 hz with hz|hz
      ·exact hK z hz
      ·rw[List.mem_singleton.1 hz];simpa using hx) (by simp only[List.length_cons]at hn;omega)
     rw[List.length_append,List.length_singleton]at this;rw[←e,show((A.length+K.length:Nat):Int)+1=((A.length+(K.length+1):Nat):Int) by omega];exact this.1
  ·cases T with
   |nil=>
    have hd:decide (((A.length+K.length:Nat):Int) < (a1.length:Int))=false:=decide_eq_false (by simp only[List.length_nil]at hla;omega);simp only[aq,cL,hd,Bool.false_and,cond_false];simp
   |cons x T=>
    have gx:a1.getD (A.length+K.length) default=x:=by
     rw[ha,hT,←List.append_assoc];exact gc (A++K) x default T (by simp)
    have hd:decide (((A.length+K.length:Nat):Int) < (a1.length:Int))=true:=decide_eq_true (by simp only[List.length_cons]at hla;omega);simp only[aq,cL,hd,Bool.true_and,Int.toNat_natCast,gx,ga];cases hx:x.hour==y.hour with
    |false=>
     simp only[cond_false];rw[List.takeWhile_cons_of_neg (by rw[hx];simp)];simp
    |true=>
     simp only[cond_true];rw[f8 (by omega) (by omega)];have:=Fq a1 acc A y r ha hm T (K++[x]) n (i+1) (by rw[hT];simp) (fun z hz=>by
      rcases List.mem_append.1 hz with hz|hz
      ·exact hK z hz
      ·rw[List.mem_singleton.1 hz];simpa using hx) (by simp only[List.length_cons]at hn;omega)
     rw[List.length_append,List.length_singleton]at this;rw[show((A.length+K.length:Nat):Int)+1=((A.length+(K.length+1):Nat):Int) by omega];rw[this.2,List.takeWhile_cons_of_pos (by exact hx)];simp
theorem Ke (a1:List Claim)(hm:a1.length≤300):∀ (k i:Nat) (R A acc:List Claim),a1=A++R→R.length<k→Given d j R→acc.length+5420*R.length≤1626000→
  okI (dY a1 j) (oC a1 j) k i (acc,(A.length:Int))∧aq (dY a1 j) k i (acc,(A.length:Int))=.inl (acc++exS j k R)
 |0,_,_,_,_,_,hk,_,_=>absurd hk (Nat.not_lt_zero _)
 |k+1,i,[],A,acc,ha,_,_,_=>by
  have hd:decide ((A.length:Int) < (a1.length:Int))=false:=decide_eq_false (by rw[ha];simp);refine⟨⟨fun _ h=>?_,fun s' e=>?_⟩,?_⟩
  ·rw[hd]at h;cases h
  ·simp only[dY,hd,cond_false]at e;cases e
  ·simp only[aq,dY,hd,cond_false,exS];simp
 |k+1,i,y::r,A,acc,ha,hk,g,hl=>by
  obtain⟨g1,g2,g3,g4⟩:=g.head;obtain⟨⟨q1,q2⟩,q3,_⟩:=g1.hour g2 j (y::r,acc);have hla:a1.length=A.length+(r.length+1):=by rw[ha];simp
  have hd:decide ((A.length:Int) < (a1.length:Int))=true:=decide_eq_true (by omega);have hc:=Fq a1 acc A y r ha (by omega) (y::r) [] (a1.length+1) 0 rfl (fun x hx=>by cases hx) (by simp only[List.length_cons];omega);rw[List.nil_append,List.takeWhile_cons_of_pos (by simp)]at hc;have c1:okI (cL a1 (acc,(A.length:Int))) (oB a1 (acc,(A.length:Int))) (a1.length+1) 0 (A.length:Int):=hc.1;have c2:aq (cL a1 (acc,(A.length:Int))) (a1.length+1) 0 (A.length:Int)=.inl ((A.length+(y::r.takeWhile fun z=>z.hour==y.hour).length:Nat):Int):=hc.2;obtain⟨t1,t2⟩:=z6 (fun z=>z.hour==y.hour) r;have e1:(a1.take (Int.toNat ((A.length+(y::r.takeWhile fun z=>z.hour==y.hour).length:Nat):Int))).drop (Int.toNat (A.length:Int))=y::r.takeWhile fun z=>z.hour==y.hour:=by
   rw[Int.toNat_natCast,Int.toNat_natCast,ha,List.take_length_add_append,List.drop_left,List.length_cons,List.take_succ_cons,t1]
  have ga:a1.getD (Int.toNat (A.length:Int)) default=y:=by rw[Int.toNat_natCast,ha];exact gc A y default r rfl
  have hh:qm (y::r.takeWhile fun z=>z.hour==y.hour) j y.hour=doH j y.hour (y::r.takeWhile fun z=>z.hour==y.hour):=by
   rw[Q5,kP];rfl
  have hstep:dY a1 j i (acc,(A.length:Int))=.inr (acc++doH j y.hour (y::r.takeWhile fun z=>z.hour==y.hour),((A.length+(y::r.takeWhile fun z=>z.hour==y.hour).length:Nat):Int)):=by
   unfold dY;simp only[hd,cond_true];rw[c2];simp only[e1,ga,hh]
  have hlen:=q3.len;have hcl:=g.cl;simp only[List.length_cons]at hk hl hcl;have ha2:a1=(A++y::r.takeWhile fun z=>z.hour==y.hour)++r.dropWhile fun z=>z.hour==y.hour:=by
   rw[ha,List.append_assoc,List.cons_append,List.takeWhile_append_dropWhile]
  obtain⟨r1,r2⟩:=Ke a1 hm k (i+1) (r.dropWhile fun z=>z.hour==y.hour) (A++y::r.takeWhile fun z=>z.hour==y.hour) (acc++doH j y.hour (y::r.takeWhile fun z=>z.hour==y.hour)) ha2 (by omega) g3 (by rw[List.length_append];omega);rw[List.length_append]at r1 r2;refine⟨⟨fun _ _=>⟨c1,fun z hz=>?_,fun x hx=>?_⟩,fun s' e=>?_⟩,?_⟩
  ·have hz:aq (cL a1 (acc,(A.length:Int))) (a1.length+1) 0 (A.length:Int)=.inr z:=hz;rw[c2]at hz;cases hz
  ·have hx:aq (cL a1 (acc,(A.length:Int))) (a1.length+1) 0 (A.length:Int)=.inl x:=hx;rw[c2]at hx;simp only[Sum.inl.injEq]at hx;subst hx;show(0≤(A.length:Int)∧(A.length:Int)≤_∧_)∧(0≤(A.length:Int)∧(A.length:Int) <_)∧yX ((a1.take (Int.toNat _)).drop (Int.toNat (A.length:Int))) j (a1.getD (Int.toNat (A.length:Int)) default).hour∧(acc++qm ((a1.take (Int.toNat _)).drop (Int.toNat (A.length:Int))) j (a1.getD (Int.toNat (A.length:Int)) default).hour).length*40≤cU;rw[e1,ga];have hlj:=g.jl;refine⟨⟨by omega,by omega,?_⟩,⟨by omega,by omega⟩,?_,?_⟩
   ·simp only[List.length_cons];omega
   ·exact CF g.js g.rl y.hour [] j [] 0 300 _ rfl rfl (g1.start g2) (by omega)
   ·rw[hh,List.length_append];unfold cU;omega
  ·rw[hstep]at e;simp only[Sum.inr.injEq]at e;subst e;exact r1
  ·simp only[aq,hstep];rw[r2,exS,List.append_assoc]
end
def cT (n:Int)(most:Int):Bool:=((decide (n≥0))&&(decide (n≤most)))
@[go_sem] def nM:List SV→Option Con:=(pI fun n=>(pI fun most=>(pE (.det True (.v (.bool (cT n most)))))))
theorem re:FnOk Tryz.prog 129 nM:=by
 have hG:ConsOk Tryz.prog (mkG [] []):=ap cg0 cg0;refine av [.o] mixed al hG (fn:=Tryz.f129) (c:=ae Tryz.f129) kr kr kr kr (dh fun n=>(dh fun most=>(ai (fun hp=>?_))));dsimp only[ar]at hp;refine⟨nbl rfl,L0,ag _,?_⟩
 ·unfold ae Tryz.f129;try unfold cT
  exact zq1
def eX (s_:Int)(t:Int):Bool:=((yq .u64 s_ t) ==0)
@[go_sem] def nN:List SV→Option Con:=(pU fun s_=>(pU fun t=>(pE (.det True (.v (.bool (eX s_ t)))))))
theorem rf:FnOk Tryz.prog 81 nN:=by
 have hG:ConsOk Tryz.prog (mkG [] []):=ap cg0 cg0;refine av [.o] mixed al hG (fn:=Tryz.f81) (c:=ae Tryz.f81) kr kr kr kr (IA fun s_=>(IA fun t=>(ai (fun hp=>?_))));dsimp only[ar]at hp;refine⟨nbl rfl,L0,ag _,?_⟩
 ·unfold ae Tryz.f81;try unfold eX
  exact zq1
@[go_sem] def qq (l_:List Int)(many:Int)(k_0:Nat)(s_0:Int×Int):Unit⊕(Int×Int):=(bif((decide ((l_.getD k_0 0)≤s_0.2)) ||(decide ((l_.getD k_0 0)≥many)))then .inl ()else .inr ((orI .u64 s_0.1 (OZ .u64 1 (l_.getD k_0 0))),(l_.getD k_0 0)))
def iK (l_:List Int)(many:Int)(k_0:Nat)(s_0:Int×Int):Prop:=(((decide ((l_.getD k_0 0)≤s_0.2)) ||(decide ((l_.getD k_0 0)≥many)))=false→0≤(l_.getD k_0 0))
def iz (l_:List Int)(many:Int):Int×Bool:=(match aq (qq l_ many) l_.length 0 (0,(-1))with| .inl x_0_0=>(0,false) | .inr s_0=>(s_0.1,true))
def ic (l_:List Int)(many:Int):Prop:=(l_.length≤aL→okI (qq l_ many) (iK l_ many) l_.length 0 (0,(-1)))
@[go_sem] def rJ:List SV→Option Con:=(pR .int fun l_=>(pI fun many=>(pE (.det (ic l_ many) (.tup [.v (.int .u64 ((iz l_ many).1)),.v (.bool ((iz l_ many).2))])))))
theorem uJ:FnOk Tryz.prog 130 rJ:=by
 have hG:ConsOk Tryz.prog (mkG [] []):=ap cg0 cg0;refine av [.o,.o] mixed al hG (fn:=Tryz.f130) (c:=ae Tryz.f130) kr kr kr kr (bK fun l_=>(dh fun many=>(ai (fun hp=>?_))));dsimp only[ar]at hp;unfold ic at hp;refine⟨nbl rfl,(fun id st=>bif Nat.beq id 0 then some (LCR (ρ:=Unit) (σ:=(Int×Int)) 0 [] [] (fun k_0 s_0=>⟨[(1,.v (.int .i64 many)),(4,.v (.int .u64 s_0.1)),(6,.v (.int .i64 s_0.2)),(9,.rs .int l_),(10,.v (.int .i64 (l_.length:Int))),(11,.v (.int .i64 (k_0:Int)))],[]⟩) (qq l_ many) (iK l_ many) l_.length (0,(-1)) (l_.length≤aL) (fun _=>.ret) (fun x_0_0=>⟨[(4,.v (.int .u64 0)),(5,.v (.bool false))],[]⟩) st)else none),?_,?_⟩
 ·unfold ae Tryz.f130;simp only[am,true_and,and_true]
  ·refine aV mixed al hG kr (fun _=>rfl) (l_.length:Int) rfl ia (fun hb0 k_0 s_0 hlt0 hq0 hw hc=>⟨L0,ag _,?_⟩) (fun hb0 s_0 hc=>?_)
   ·unfold iK at hq0;try simp only[hw,Int.toNat_natCast]at hq0
    exact bX (jl [])
   ·exact bH (jl [])
 ·unfold ae Tryz.f130;try unfold iz
  exact zq1
end Go.Sx
end
section
namespace Go.Sx
@[go_sem] theorem LJ {ts:Tis}{G:Cons}{L:uk}{t:List (Nat×SV)}{h:List Ob}{Q:Ex→St→Prop}{id j:Nat}{c:Code}:exec ts G L (.block id (.block j c)) ⟨t,h⟩ Q=exec ts G L (.block j c) ⟨t,h⟩ (Ex.block id Q):=(rfl)
def pXU {α:Type 1}(k:Int→List SV→Option α):List SV→Option α
 | .ep [.v (.int .u64 n)] 0::r=>k n r
 |_=>none
@[go_sem] theorem abn {α:Type 1}{k:Int→List SV→Option α}{n:Int}{r:List SV}:pXU k (.ep [.v (.int .u64 n)] 0::r)=k n r:=(rfl)
theorem Kf {α:Type 1}{G:List SV→α→Prop}{k:Int→List SV→Option α}(h:∀ n l c,k n l=some c→G (.ep [.v (.int .u64 n)] 0::l) c):∀ l c,pXU k l=some c→G l c:=by
 intro l c hc;unfold pXU at hc;split at hc
 ·exact h _ _ _ hc
 ·cases hc
end Go.Sx
end
