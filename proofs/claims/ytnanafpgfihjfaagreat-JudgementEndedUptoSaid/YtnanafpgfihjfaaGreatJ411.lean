/- Part of the proof that the law JudgementEnded returns true and leaves its arguments as they were, for all arguments of bulk at most 1048576 (the Upto form). -/
import Derived.Test.YtnanafpgfihjfaaGreatJ410
import Derived.Test.YtnanafpgfihjfaaGreatJ408
import Derived.Test.YtnanafpgfihjfaaGreatJ407
set_option linter.all false
set_option maxHeartbeats 4000000
set_option maxRecDepth 100000
section
namespace Go.Sx
open Go.Proofs
open IntKind (i64)
def l6 (x:Claim)(n:Int):Claim:= { right:=x.right,farm:=x.farm,hour:=x.hour,litres:=n,rank:=x.rank}
def bA (a b:Int):Int:=if a<b then a else b
theorem ph {a b:Int}:bA a b≤a∧bA a b≤b∧(bA a b=a∨bA a b=b):=by unfold bA;split <;>omega
def nS (f:Int):Int→List Claim→List Claim
 |_,[] =>[]
 |n,x::r=>if x.farm=f then l6 x (bA n x.litres)::nS f (n - bA n x.litres) r else x::nS f n r
abbrev Lit (l:List Claim):Prop:= ∀ y∈l,0≤y.litres∧y.litres<4611686018427387904
theorem zM (x:Judgement)(l0:List Claim):∀ (R A:List Claim) (n:Int) (k:Nat),A.length=k→0≤n→n<4611686018427387904→Lit R→
  okI (cJ x l0) (ez x l0) R.length k (A++R,n)∧∃ m,aq (cJ x l0) R.length k (A++R,n)=.inr (A++nS x.farm n R,m)
 | [],A,n,k,hk,h0,h1,hR=>⟨trivial,n,by simp[aq,nS]⟩
 |y::R,A,n,k,hk,h0,h1,hR=>by
  have hy:=hR y (by simp);have hR':Lit R:=fun z hz=>hR z (by simp[hz]);have e:(A++y::R).getD k default=y:=gi A y default R hk.symm;have e2:∀ z:Claim,(A++y::R).set k z=A++z::R:=fun z=>N7 A y z R hk.symm;have e3:∀ z:Claim,(A++z::R).getD k default=z:=fun z=>gi A z default R hk.symm;have hm:=ph (a:=n) (b:=y.litres);have hlen:(k:Int) < ((A++y::R).length:Int):=by rw[List.length_append,List.length_cons];omega
  have hlen2:∀ z:Claim,(k:Int) < ((A++z::R).length:Int):=fun z=>by rw[List.length_append,List.length_cons];omega
  simp only[List.length_cons,okI,aq,cJ,ez,e,e2,e3];by_cases hf:y.farm=x.farm
  ·rw[show(y.farm==x.farm)=true by simpa using hf];simp only[cond_true];have hw:i64.wrap (n - bA n y.litres)=n - bA n y.litres:=fl (by omega) (by omega);change _∧∃ m,aq (cJ x l0) R.length (k+1) (A++l6 y (bA n y.litres)::R,i64.wrap (n - bA n y.litres))=_;rw[hw];obtain⟨q1,m,q2⟩:=zM x l0 R (A++[l6 y (bA n y.litres)]) (n - bA n y.litres) (k+1) (by simp[hk]) (by omega) (by omega) hR';rw[List.append_assoc,List.singleton_append]at q1 q2;refine⟨⟨⟨⟨by omega,hlen⟩,fun _=>⟨⟨by omega,hlen⟩,⟨by omega,hlen⟩,by omega,hlen2 _⟩⟩,fun s' hs=>?_⟩,m,?_⟩
   ·cases hs;change okI _ _ R.length (k+1) (A++l6 y (bA n y.litres)::R,i64.wrap (n - bA n y.litres));rw[hw];exact q1
   ·rw[q2,nS,if_pos hf];simp
  ·rw[show(y.farm==x.farm)=false by simpa using hf];simp only[cond_false];obtain⟨q1,m,q2⟩:=zM x l0 R (A++[y]) n (k+1) (by simp[hk]) h0 h1 hR';rw[List.append_assoc,List.singleton_append]at q1 q2;refine⟨⟨⟨⟨by omega,hlen⟩,fun h=>(by cases h)⟩,fun s' hs=>?_⟩,m,?_⟩
   ·cases hs;exact q1
   ·rw[q2,nS,if_neg hf];simp
theorem N9 (x:Judgement)(l:List Claim)(h0:0≤x.n)(h1:x.n<4611686018427387904)(hl:Lit l):cn x l∧bN x l=nS x.farm x.n l:=by
 obtain⟨q1,m,q2⟩:=zM x l l [] x.n 0 rfl h0 h1 hl;rw[List.nil_append]at q1 q2;unfold cn bN;rw[q2];exact⟨fun _=>q1,rfl⟩
theorem yW (f:Int):∀ (l:List Claim) (n:Int),0≤n→Lit l→Lit (nS f n l)∧(nS f n l).length=l.length
 | [],n,h0,hl=>⟨(fun y hy=>by cases hy),rfl⟩
 |x::r,n,h0,hl=>by
  have hx:=hl x (by simp);have hm:=ph (a:=n) (b:=x.litres);unfold nS;by_cases hf:x.farm=f
  ·rw[if_pos hf];obtain⟨q1,q2⟩:=yW f r (n - bA n x.litres) (by omega) fun z hz=>hl z (by simp[hz]);refine⟨fun y hy=>?_,by simp[q2]⟩;rcases List.mem_cons.1 hy with rfl|hy
   ·show 0≤bA n x.litres∧bA n x.litres<_;unfold bA;split <;>omega
   ·exact q1 y hy
  ·rw[if_neg hf];obtain⟨q1,q2⟩:=yW f r n h0 fun z hz=>hl z (by simp[hz]);refine⟨fun y hy=>?_,by simp[q2]⟩;rcases List.mem_cons.1 hy with rfl|hy
   ·exact hx
   ·exact q1 y hy
theorem yX (f:Int):∀ (l:List Claim) (n:Int),(nS f n l).map (fun x=>l6 x 0)=l.map fun x=>l6 x 0
 | [],n=>rfl
 |x::r,n=>by
  unfold nS;by_cases hf:x.farm=f
  ·rw[if_pos hf,List.map_cons,List.map_cons,yX f r];rfl
  ·rw[if_neg hf,List.map_cons,List.map_cons,yX f r]
theorem G1 {l m:List Claim}(e:m.map (fun x=>l6 x 0)=l.map fun x=>l6 x 0)(h:l.Pairwise tlt):m.Pairwise tlt:=by
 have h1:(l.map fun x=>l6 x 0).Pairwise tlt:=List.pairwise_map.2 (h.imp fun {a b} h=>h);rw[←e]at h1;exact(List.pairwise_map.1 h1).imp fun {a b} h=>h
theorem nT (l:List Claim)(f:Int):∀ (R A:List Claim) (n:Int) (acc:List Claim) (k:Nat),l=A++R→A.length=k→0≤n→n<4611686018427387904→Lit R→(acc.length+R.length)*40≤cW→
  okI (mr l f) (qf l f) R.length k (n,acc)∧∃ m,aq (mr l f) R.length k (n,acc)=.inr (m,acc++(nS f n R).filter fun x=>!ak x)
 | [],A,n,acc,k,hl,hk,h0,h1,hR,hb=>⟨trivial,n,by simp[aq,nS]⟩
 |y::R,A,n,acc,k,hl,hk,h0,h1,hR,hb=>by
  have hy:=hR y (by simp);have hR':Lit R:=fun z hz=>hR z (by simp[hz]);have e:l.getD k default=y:=by rw[hl];exact gi A y default R hk.symm
  have hm:=ph (a:=n) (b:=y.litres);simp only[List.length_cons]at hb;have hbd:∀ z:Claim,(acc++[z]).length*40≤cW:=fun z=>by rw[List.length_append];simp only[List.length_cons,List.length_nil];omega
  have hbn:∀ z:Claim,((acc++[z]).length+R.length)*40≤cW:=fun z=>by rw[List.length_append];simp only[List.length_cons,List.length_nil];omega
  have hl':l=(A++[y])++R:=by rw[hl];simp
  have e4:(if n<y.litres then n else y.litres)=bA n y.litres:=rfl;simp only[List.length_cons,okI,aq,mr,qf,e,e4];by_cases hf:y.farm=f
  ·rw[show(y.farm==f)=true by simpa using hf];simp only[cond_true];have hw:i64.wrap (n - bA n y.litres)=n - bA n y.litres:=fl (by omega) (by omega);rw[hw,nS,if_pos hf];by_cases hp:bA n y.litres > 0
   ·rw[decide_eq_true hp];simp only[cond_true];obtain⟨q1,m,q2⟩:=nT l f R (A++[y]) (n - bA n y.litres) (acc++[l6 y (bA n y.litres)]) (k+1) hl' (by simp[hk]) (by omega) (by omega) hR' (hbn _);refine⟨⟨fun _=>⟨fun _ _=>hbd _,fun h=>(by cases h)⟩,fun s' hs=>?_⟩,m,?_⟩
    ·cases hs;exact q1
    ·rw[List.filter_cons_of_pos (by unfold ak l6;simp;omega)];refine Eq.trans q2 ?_;simp
   ·rw[decide_eq_false hp];simp only[cond_false];obtain⟨q1,m,q2⟩:=nT l f R (A++[y]) (n - bA n y.litres) acc (k+1) hl' (by simp[hk]) (by omega) (by omega) hR' (by omega);refine⟨⟨fun _=>⟨fun _ h=>(by cases h),fun h=>(by cases h)⟩,fun s' hs=>?_⟩,m,?_⟩
    ·cases hs;exact q1
    ·rw[List.filter_cons_of_neg (by unfold ak l6;simp;omega)];exact q2
  ·rw[show(y.farm==f)=false by simpa using hf];simp only[cond_false];rw[nS,if_neg hf];by_cases hp:y.litres > 0
   ·rw[decide_eq_true hp];simp only[cond_true];obtain⟨q1,m,q2⟩:=nT l f R (A++[y]) n (acc++[y]) (k+1) hl' (by simp[hk]) h0 h1 hR' (hbn _);refine⟨⟨fun _=>⟨fun h=>(by cases h),fun _ _=>hbd _⟩,fun s' hs=>?_⟩,m,?_⟩
    ·cases hs;exact q1
    ·rw[List.filter_cons_of_pos (by unfold ak;simp;omega)];refine Eq.trans q2 ?_;simp
   ·rw[decide_eq_false hp];simp only[cond_false];obtain⟨q1,m,q2⟩:=nT l f R (A++[y]) n acc (k+1) hl' (by simp[hk]) h0 h1 hR' (by omega);refine⟨⟨fun _=>⟨fun h=>(by cases h),fun _ h=>(by cases h)⟩,fun s' hs=>?_⟩,m,?_⟩
    ·cases hs;exact q1
    ·rw[List.filter_cons_of_neg (by unfold ak;simp;omega)];exact q2
theorem sF (x:Judgement)(l:List Claim)(h0:0≤x.n)(h1:x.n<4611686018427387904)(hl:Lit l)(hs:l.Pairwise tlt)(hb:l.length*40≤cW):
  (cn x l∧cp (bN x l)∧tS l x.farm x.n)∧cT (bN x l)=eF l x.farm x.n∧eF l x.farm x.n=(nS x.farm x.n l).filter fun y=>!ak y:=by
 obtain⟨q1,q2⟩:=N9 x l h0 h1 hl;obtain⟨r1,m,r2⟩:=nT l x.farm l [] x.n [] 0 rfl rfl h0 h1 hl (by simpa using hb);have e:eF l x.farm x.n=(nS x.farm x.n l).filter fun y=>!ak y:=by
  unfold eF;rw[r2,List.nil_append]
 obtain⟨t1,t2⟩:=E_ (l:=nS x.farm x.n l) (by rw[(yW x.farm l x.n h0 hl).2];unfold cW at hb;omega) (List.Perm.refl _) (List.Pairwise.filter _ (G1 (yX x.farm l x.n) hs));rw[q2,e];exact⟨⟨q1,t1,r1⟩,t2,rfl⟩
def qS (x:Claim):List Claim→List Claim
 | [] =>[x]
 |y::r=>if aI x y=true then x::y::r else l6 x (x.litres+y.litres)::r
def gj (l:List Claim)(x:Claim):List Claim:=l.takeWhile (fun y=>aI y x)++qS x (l.dropWhile fun y=>aI y x)
theorem J5 (l:List Claim)(x:Claim)(hb:(l.length+1)*40≤cW):∀ (R A:List Claim) (k:Nat),l=A++R→
  okI (i0 l x) (mq l x) (R.length+1) k (A,(A.length:Int))∧aq (i0 l x) (R.length+1) k (A,(A.length:Int))=.inl (((A++R.takeWhile fun y=>aI y x).length:Int),A++R.takeWhile fun y=>aI y x)
 | [],A,k,hl=>by
  have hA:l.length=A.length:=by rw[hl];simp
  have e:decide ((A.length:Int) < (l.length:Int))=false:=decide_eq_false (by omega);simp only[List.length_nil,okI,aq,i0,mq,e,Bool.false_and,cond_false,List.takeWhile_nil,List.append_nil];exact⟨⟨fun _=>⟨fun h=>(by cases h),fun h=>(by cases h)⟩,fun s h=>(by cases h)⟩,by simp⟩
 |y::R,A,k,hl=>by
  have hA:l.length=A.length+(R.length+1):=by rw[hl];simp
  have e:decide ((A.length:Int) < (l.length:Int))=true:=decide_eq_true (by omega);have g:l.getD (Int.toNat (A.length:Int)) default=y:=by rw[hl,Int.toNat_natCast];exact gi A y default R rfl
  have hw:i64.wrap ((A.length:Int)+1)=((A++[y]).length:Int):=by
   rw[fl (by omega) (by unfold cW at hb;omega)];simp
  have hl2:(A++[y]).length*40≤cW:=by rw[List.length_append];simp only[List.length_cons,List.length_nil];omega
  simp only[List.length_cons];rw[okI,aq];simp only[i0,mq,e,g,Bool.true_and,hw];cases hB:aI y x with
  |false=>
   simp only[cond_false];rw[List.takeWhile_cons_of_neg (p:=fun y=>aI y x) (by rw[hB];simp),List.append_nil];exact⟨⟨fun _=>⟨fun _=>⟨by omega,by omega⟩,fun h=>(by cases h)⟩,fun s h=>(by cases h)⟩,by simp⟩
  |true=>
   simp only[cond_true];obtain⟨q1,q2⟩:=J5 l x hb R (A++[y]) (k+1) (by rw[hl];simp);rw[List.takeWhile_cons_of_pos (p:=fun y=>aI y x) hB];refine⟨⟨fun _=>⟨fun _=>⟨by omega,by omega⟩,fun _=>⟨⟨by omega,by omega⟩,hl2⟩⟩,fun s h=>?_⟩,?_⟩
   ·cases h;exact q1
   ·rw[q2];simp
theorem N_ (l:List Claim)(x:Claim)(hb:(l.length+1)*40≤cW)(hx:0≤x.litres∧x.litres<4611686018427387904)(hl:Lit l):oI l x∧sa l x=gj l x:=by
 obtain⟨q1,q2⟩:=J5 l x hb l [] 0 rfl;simp only[List.length_nil,List.nil_append]at q1 q2;generalize hT:l.takeWhile (fun y=>aI y x)=T at q2;generalize hD:l.dropWhile (fun y=>aI y x)=D;have hTD:l=T++D:=by rw[←hT,←hD,List.takeWhile_append_dropWhile]
 have hlen:l.length=T.length+D.length:=by rw[hTD];simp
 have q2':aq (i0 l x) (l.length+1) 0 ([],0)=.inl ((T.length:Int),T):=q2;have q1':okI (i0 l x) (mq l x) (l.length+1) 0 ([],0):=q1;have hbT:∀ (z:Claim) (m:List Claim),T.length+1+m.length≤l.length+1→((T++[z])++m).length*40≤cW:=fun z m h=>by simp only[List.length_append,List.length_cons,List.length_nil];omega
 unfold oI sa gj;rw[hT,hD,q2'];have t1:l.take l.length=l:=List.take_length;have d1:l.drop T.length=D:=by rw[hTD];simp
 have hLD:Lit D:=fun y hy=>hl y (by rw[hTD];simp[hy]);cases D with
 |nil=>
  simp only[List.length_nil]at hlen;have e0:decide ((T.length:Int) < (l.length:Int))=false:=decide_eq_false (by omega);refine⟨⟨q1',fun z h=>(by cases h),fun r hr=>?_⟩,?_⟩
  ·cases hr;simp only[e0,Bool.false_and,Int.toNat_natCast,t1,d1];refine fun _=>⟨fun h=>(by cases h),fun h=>(by cases h),fun _=>⟨?_,fun _=>⟨⟨by omega,by omega,Int.le_refl _⟩,hbT x [] (by simp only[List.length_nil];omega)⟩⟩⟩;have:=hbT x [] (by simp only[List.length_nil];omega)
   rwa[List.append_nil]at this
  ·simp only[e0,Bool.false_and,cond_false,Int.toNat_natCast,t1,d1,qS,List.append_nil]
 |cons y r=>
  simp only[List.length_cons]at hlen;have e1:decide ((T.length:Int) < (l.length:Int))=true:=decide_eq_true (by omega);have g:l.getD T.length default=y:=by rw[hTD];exact gi T y default r rfl
  have w1:i64.wrap ((T.length:Int)+1)=((T.length+1:Nat):Int):=by rw[fl (by omega) (by unfold cW at hb;omega)];omega
  have d2:l.drop (T.length+1)=r:=by rw[←List.drop_drop,d1];rfl
  have hy:=hLD y (by simp);have w2:i64.wrap (x.litres+y.litres)=x.litres+y.litres:=fl (by omega) (by omega);have b1:∀ z:Claim,(T++[z]).length*40≤cW:=fun z=>by
   have:=hbT z [] (by simp only[List.length_nil];omega)
   rwa[List.append_nil]at this
  refine⟨⟨q1',fun z h=>(by cases h),fun r' hr=>?_⟩,?_⟩
  ·cases hr;simp only[e1,g,Bool.true_and,w1,w2,Int.toNat_natCast,t1,d1,d2];exact fun _=>⟨fun _=>⟨by omega,by omega⟩,fun _=>⟨⟨by omega,by omega⟩,b1 _,fun _=>⟨⟨by omega,by omega,Int.le_refl _⟩,hbT _ r (by omega)⟩⟩,fun _=>⟨b1 _,fun _=>⟨⟨by omega,by omega,Int.le_refl _⟩,hbT _ (y::r) (by simp only[List.length_cons];omega)⟩⟩⟩
  ·simp only[e1,g,Bool.true_and,w1,w2,Int.toNat_natCast,t1,d1,d2,qS];cases hB:aI x y with
   |false=>
    simp only[Bool.not_false,cond_true,Bool.false_eq_true,if_false];rw[List.append_assoc,List.singleton_append];rfl
   |true=>
    simp only[Bool.not_true,cond_false,if_true];rw[List.append_assoc,List.singleton_append]
def C5 (a b:Claim):Prop:=a.rank=b.rank∧a.right=b.right∧a.farm=b.farm
def amt:List Claim→Int→Int→Int
 | [],_,_=>0
 |x::l,r,p=>(if x.right=r∧x.farm=p then x.litres else 0)+amt l r p
theorem A1:∀ (l m:List Claim) (r p:Int),amt (l++m) r p=amt l r p+amt m r p
 | [],m,r,p=>by simp[amt]
 |x::l,m,r,p=>by rw[List.cons_append,amt,amt,A1 l m r p];omega
theorem qj {a b:Claim}(h:a.hour=b.hour):aI a b=true↔tlt a b:=by
 rw[x9,decide_eq_true_eq,yT];simp only[x8,tlt,sX,and_false,or_false];omega
theorem zN {a b c:Claim}(h1:tlt a b)(h2:tlt b c):tlt a c:=by simp only[tlt,sX,and_false,or_false]at *;omega
theorem Fa {a b:Claim}(h1:¬tlt a b)(h2:¬tlt b a):C5 a b:=by simp only[tlt,sX,and_false,or_false,C5]at *;omega
theorem G3 {a b c:Claim}(h1:tlt a b)(h2:C5 c b):tlt a c:=by simp only[tlt,sX,and_false,or_false,C5]at *;omega
theorem Oa {a b c:Claim}(h1:tlt a b)(h2:C5 c a):tlt c b:=by simp only[tlt,sX,and_false,or_false,C5]at *;omega
theorem sG (y:Claim)(l:List Claim)(x:Claim):gj (y::l) x=if aI y x=true then y::gj l x else qS x (y::l):=by
 unfold gj;by_cases h:aI y x=true
 ·rw[if_pos h,List.takeWhile_cons_of_pos (p:=fun y=>aI y x) h,List.dropWhile_cons_of_pos (p:=fun y=>aI y x) h];rfl
 ·rw[if_neg h,List.takeWhile_cons_of_neg (p:=fun y=>aI y x) h,List.dropWhile_cons_of_neg (p:=fun y=>aI y x) h];rfl
theorem Cw (x:Claim):∀ (l:List Claim),l.Pairwise tlt→(∀ y∈l,y.hour=x.hour)→
  (gj l x).Pairwise tlt∧(∀ z∈gj l x,z.hour=x.hour∧(C5 z x∨∃ w∈l,C5 z w))∧∀ r p,amt (gj l x) r p=amt l r p+if x.right=r∧x.farm=p then x.litres else 0
 | [],_,_=>by
  refine⟨List.pairwise_singleton _ _,fun z hz=>?_,fun r p=>?_⟩
  ·have:z=x:=by simpa[gj,qS]using hz
   subst this;exact⟨rfl,.inl ⟨rfl,rfl,rfl⟩⟩
  ·simp[gj,qS,amt]
 |y::l,hs,hh=>by
  have hs':=List.pairwise_cons.1 hs;have hy:=hh y (by simp);have hh':∀ z∈l,z.hour=x.hour:=fun z hz=>hh z (by simp[hz]);rw[sG];by_cases h1:aI y x=true
  ·rw[if_pos h1];have t1:=(qj hy).1 h1;obtain⟨q1,q2,q3⟩:=Cw x l hs'.2 hh';refine⟨List.pairwise_cons.2 ⟨fun z hz=>?_,q1⟩,fun z hz=>?_,fun r p=>?_⟩
   ·rcases(q2 z hz).2 with h| ⟨w,hw,h⟩
    ·exact G3 t1 h
    ·exact G3 (hs'.1 w hw) h
   ·rcases List.mem_cons.1 hz with rfl|hz
    ·exact⟨hy,.inr ⟨z,by simp,rfl,rfl,rfl⟩⟩
    ·obtain⟨g1,g2⟩:=q2 z hz;refine⟨g1,?_⟩;rcases g2 with h| ⟨w,hw,h⟩
     ·exact .inl h
     ·exact .inr ⟨w,by simp[hw],h⟩
   ·rw[amt,amt,q3];omega
  ·rw[if_neg h1];have t1:¬tlt y x:=fun h=>h1 ((qj hy).2 h);by_cases h2:aI x y=true
   ·have t2:=(qj hy.symm).1 h2;rw[qS,if_pos h2];refine⟨List.pairwise_cons.2 ⟨fun z hz=>?_,hs⟩,fun z hz=>?_,fun r p=>?_⟩
    ·rcases List.mem_cons.1 hz with rfl|hz
     ·exact t2
     ·exact zN t2 (hs'.1 z hz)
    ·rcases List.mem_cons.1 hz with rfl|hz
     ·exact⟨rfl,.inl ⟨rfl,rfl,rfl⟩⟩
     ·exact⟨hh z hz,.inr ⟨z,hz,rfl,rfl,rfl⟩⟩
    ·rw[amt];omega
   ·have t2:¬tlt x y:=fun h=>h2 ((qj hy.symm).2 h);have hk:=Fa t2 t1;rw[qS,if_neg h2];refine⟨List.pairwise_cons.2 ⟨fun z hz=>Oa (hs'.1 z hz) hk,hs'.2⟩,fun z hz=>?_,fun r p=>?_⟩
    ·rcases List.mem_cons.1 hz with rfl|hz
     ·exact⟨rfl,.inl ⟨rfl,rfl,rfl⟩⟩
     ·exact⟨hh' z hz,.inr ⟨z,by simp[hz],rfl,rfl,rfl⟩⟩
    ·rw[amt,amt];obtain⟨_,k2,k3⟩:=hk;show(if x.right=r∧x.farm=p then x.litres+y.litres else 0)+_=_;rw[k2,k3];split <;>omega
theorem yY:∀ {l:List Claim} {r p:Int},(∀ y∈l,¬ (y.right=r∧y.farm=p))→amt l r p=0
 | [],_,_,_=>rfl
 |x::l,r,p,h=>by rw[amt,if_neg (h x (by simp)),yY fun y hy=>h y (by simp[hy])];rfl
structure Dock (ρ:Int→Int)(h:Int)(l:List Claim):Prop where
 s:l.Pairwise tlt
 rk:∀ y∈l,y.rank=ρ y.right
 hr:∀ y∈l,y.hour=h
 pos:∀ y∈l,0<y.litres
section
variable {ρ:Int→Int}{h:Int}
theorem Dock.tail {x:Claim}{l:List Claim}(d:Dock ρ h (x::l)):Dock ρ h l:=⟨(List.pairwise_cons.1 d.s).2,fun y hy=>d.rk y (by simp[hy]),fun y hy=>d.hr y (by simp[hy]),fun y hy=>d.pos y (by simp[hy])⟩
theorem IL {x y:Claim}(h1:tlt x y)(hx:x.rank=ρ x.right)(hy:y.rank=ρ y.right):¬ (y.right=x.right∧y.farm=x.farm):=by
 rintro⟨e1,e2⟩;rw[e1]at hy;simp only[tlt,sX,and_false,or_false]at h1;omega
theorem Dock.head {x:Claim}{l:List Claim}(d:Dock ρ h (x::l)):amt (x::l) x.right x.farm=x.litres:=by
 rw[amt,if_pos ⟨rfl,rfl⟩,yY fun y hy=>IL ((List.pairwise_cons.1 d.s).1 y hy) (d.rk x (by simp)) (d.rk y (by simp[hy]))];omega
theorem Dock.below {x:Claim}{l:List Claim}(d:Dock ρ h l)(hx:x.rank=ρ x.right)(hl:∀ y∈l,tlt x y):amt l x.right x.farm=0:=yY fun y hy=>IL (hl y hy) hx (d.rk y hy)
theorem zO:∀ {l m:List Claim},Dock ρ h l→Dock ρ h m→(∀ r p,amt l r p=amt m r p)→l=m
 | [],[],_,_,_=>rfl
 | [],b::m,_,dm,e=>by
  have h1:=e b.right b.farm;rw[dm.head]at h1;have h2:=dm.pos b (by simp);simp only[amt]at h1;omega
 |a::l,[],dl,_,e=>by
  have h1:=e a.right a.farm;rw[dl.head]at h1;have h2:=dl.pos a (by simp);simp only[amt]at h1;omega
 |a::l,b::m,dl,dm,e=>by
  have ra:=dl.rk a (by simp);have rb:=dm.rk b (by simp);have la:=List.pairwise_cons.1 dl.s;have lb:=List.pairwise_cons.1 dm.s;by_cases h1:tlt a b
  ·have h2:=e a.right a.farm;rw[dl.head,dm.below ra fun y hy=>by
    rcases List.mem_cons.1 hy with rfl|hy
    ·exact h1
    ·exact zN h1 (lb.1 y hy)]at h2
   have:=dl.pos a (by simp);omega
  ·by_cases h2:tlt b a
   ·have h3:=e b.right b.farm;rw[dm.head,dl.below rb fun y hy=>by
     rcases List.mem_cons.1 hy with rfl|hy
     ·exact h2
     ·exact zN h2 (la.1 y hy)]at h3
    have:=dm.pos b (by simp);omega
   ·obtain⟨k1,k2,k3⟩:=Fa h1 h2;have h3:=e a.right a.farm;have h4:=dm.head;rw[dl.head,k2,k3,h4]at h3;have hab:a=b:=by
     have e1:=(dl.hr a (by simp)).trans (dm.hr b (by simp)).symm;cases a;cases b;simp only at k1 k2 k3 h3 e1;subst k1 k2 k3 h3 e1;rfl
    subst hab;rw[zO dl.tail dm.tail fun r p=>by have:=e r p;rw[amt,amt]at this;omega]
theorem ya:∀ (l:List Claim) (r p:Int),amt (l.filter fun x=>!ak x) r p=amt l r p
 | [],_,_=>rfl
 |x::l,r,p=>by
  by_cases hx:x.litres=0
  ·rw[List.filter_cons_of_neg (by unfold ak;simp[hx]),ya l,amt,hx];split <;>omega
  ·rw[List.filter_cons_of_pos (by unfold ak;simp[hx]),amt,amt,ya l]
theorem Cy {l m:List Claim}(h:l.Perm m)(r p:Int):amt l r p=amt m r p:=by
 induction h with
 |nil=>rfl
 |cons x _ ih=>rw[amt,amt,ih]
 |swap x y l=>rw[amt,amt,amt,amt];omega
 |trans _ _ h1 h2=>rw[h1,h2]
end
abbrev nC (b:Int)(l:List Claim):Prop:= ∀ y∈l,0≤y.litres∧y.litres≤b
theorem G4 {b c:Int}{x:Claim}{l:List Claim}(hb:0≤b)(hl:nC b l)(hx:0≤x.litres∧x.litres≤c):nC (b+c) (qS x l)∧(qS x l).length≤l.length+1:=by
 cases l with
 |nil=>
  refine⟨fun y hy=>?_,by simp[qS]⟩;have:y=x:=by simpa[qS]using hy
  subst this;omega
 |cons y r=>
  have hy:=hl y (by simp);rw[qS];by_cases h:aI x y=true
  ·rw[if_pos h];refine⟨fun z hz=>?_,by simp⟩;rcases List.mem_cons.1 hz with rfl|hz
   ·omega
   ·have:=hl z hz;omega
  ·rw[if_neg h];refine⟨fun z hz=>?_,by simp⟩;rcases List.mem_cons.1 hz with rfl|hz
   ·show 0≤x.litres+y.litres∧x.litres+y.litres≤b+c;omega
   ·have:=hl z (by simp[hz]);omega
theorem A2 {b c:Int}{x:Claim}(hb:0≤b)(hx:0≤x.litres∧x.litres≤c):∀ {l:List Claim},nC b l→nC (b+c) (gj l x)∧(gj l x).length≤l.length+1
 | [],hl=>G4 hb hl hx
 |y::l,hl=>by
  rw[sG];split
  ·obtain⟨q1,q2⟩:=A2 hb hx (l:=l) fun z hz=>hl z (by simp[hz]);have hy:=hl y (by simp);refine⟨fun z hz=>?_,by simp only[List.length_cons];omega⟩;rcases List.mem_cons.1 hz with rfl|hz
   ·omega
   ·exact q1 z hz
  ·exact G4 hb hl hx
def yZ (y:Claim)(o n:Int):Claim:= { right:=y.right,farm:=o,hour:=y.hour,litres:=n,rank:=y.rank}
def gv (f o:Int):List Claim→Int→List Claim→List Claim→List Claim×List Claim
 | [],_,K,G=>(K,G)
 |y::r,n,K,G=>if y.farm=f then gv f o r (n - bA n y.litres) (if y.litres - bA n y.litres > 0 then gj K (l6 y (y.litres - bA n y.litres))else K) (if bA n y.litres > 0 then G++[yZ y o (bA n y.litres)]else G)
  else gv f o r n (if y.litres > 0 then gj K y else K) G
theorem Oc (l:List Claim)(f o b0:Int)(hb0:0≤b0∧b0≤4398046511104)(hll:l.length≤8192)(hmB:(l.length+2)*40≤cW):∀ (R B:List Claim) (n:Int) (K G:List Claim) (k:Nat),l=R.reverse++B→0≤n→n<4611686018427387904→nC b0 R→
  nC ((B.length:Int)*b0) K→K.length≤B.length→G.length≤B.length→
  okI (iv l f o) (kY l f o) (R.length+1) k (n,K,G,(R.length:Int) - 1)∧aq (iv l f o) (R.length+1) k (n,K,G,(R.length:Int) - 1)=.inl (gv f o R n K G)
 | [],B,n,K,G,k,hl,h0,h1,hR,hK,hKl,hGl=>by
  have e:decide (((0:Nat):Int) - 1≥0)=false:=decide_eq_false (by omega);simp only[List.length_nil,okI,aq,iv,kY,e,cond_false,gv];exact⟨⟨fun h=>(by cases h),fun s h=>(by cases h)⟩,by simp⟩
 |y::R,B,n,K,G,k,hl,h0,h1,hR,hK,hKl,hGl=>by
  have hy:=hR y (by simp);have hR':nC b0 R:=fun z hz=>hR z (by simp[hz]);have hlen:l.length=R.length+1+B.length:=by rw[hl];simp;omega
  have hl':l=R.reverse++(y::B):=by rw[hl];simp
  have hi:(((y::R).length:Nat):Int) - 1=(R.length:Int):=by simp
  have g:l.getD (Int.toNat (R.length:Int)) default=y:=by rw[hl',Int.toNat_natCast];exact gi R.reverse y default B (by simp)
  have e:decide ((R.length:Int)≥0)=true:=decide_eq_true (by omega);have w1:i64.wrap ((R.length:Int) - 1)=(R.length:Int) - 1:=fl (by omega) (by omega);have hm:=ph (a:=n) (b:=y.litres);have hm0:0≤bA n y.litres:=by omega
  have e4:(if n<y.litres then n else y.litres)=bA n y.litres:=rfl;have w2:i64.wrap (n - bA n y.litres)=n - bA n y.litres:=fl (by omega) (by omega);have w3:i64.wrap (y.litres - bA n y.litres)=y.litres - bA n y.litres:=fl (by omega) (by omega);have hBb:0≤(B.length:Int)*b0∧(B.length:Int)*b0≤36028797018963968:=by
   refine⟨Int.mul_nonneg (by omega) hb0.1,?_⟩;have h2:(B.length:Int)*b0≤8192*b0:=Int.mul_le_mul_of_nonneg_right (by omega) hb0.1;omega
  have hKL:Lit K:=fun z hz=>by have:=hK z hz;omega
  have hB1:(((y::B).length:Nat):Int)*b0=(B.length:Int)*b0+b0:=by rw[List.length_cons,Int.natCast_add,Int.add_mul];simp
  have hG:∀ z:Claim,(G++[z]).length*40≤cW∧(G++[z]).length≤(y::B).length:=fun z=>by
   rw[List.length_append];simp only[List.length_cons,List.length_nil];omega
  have hKm:nC ((((y::B).length:Nat):Int)*b0) K:=fun z hz=>by rw[hB1];have:=hK z hz;omega
  have P:∀ z:Claim,0≤z.litres∧z.litres≤b0→oI K z∧sa K z=gj K z∧nC ((((y::B).length:Nat):Int)*b0) (gj K z)∧(gj K z).length≤(y::B).length:=fun z hz=>by
   obtain⟨p1,p2⟩:=N_ K z (by omega) (by omega) hKL;obtain⟨p3,p4⟩:=A2 hBb.1 hz hK;exact⟨p1,p2,by rw[hB1];exact p3,by simp only[List.length_cons];omega⟩
  rw[hi];simp only[List.length_cons];rw[okI,aq];simp only[iv,kY,e,g,e4,w1,w2,w3,cond_true];have rec_:∀ (n':Int) (K' G':List Claim),0≤n'→n'≤n→nC ((((y::B).length:Nat):Int)*b0) K'→K'.length≤(y::B).length→G'.length≤(y::B).length→okI (iv l f o) (kY l f o) (R.length+1) (k+1) (n',K',G',(R.length:Int) - 1)∧aq (iv l f o) (R.length+1) (k+1) (n',K',G',(R.length:Int) - 1)=.inl (gv f o R n' K' G'):=fun n' K' G' a1 a2 a3 a4 a5=>Oc l f o b0 hb0 hll hmB R (y::B) n' K' G' (k+1) hl' a1 (by omega) hR' a3 a4 a5;have hKs:K.length≤(y::B).length:=by simp only[List.length_cons];omega
  have hGs:G.length≤(y::B).length:=by simp only[List.length_cons];omega
  have hidx:(0:Int)≤(R.length:Int)∧(R.length:Int) < (l.length:Int):=⟨by omega,by omega⟩;by_cases hf:y.farm=f
  ·rw[show(y.farm==f)=true by simpa using hf,gv,if_pos hf];simp only[cond_true];by_cases hg:bA n y.litres > 0
   ·rw[decide_eq_true hg,if_pos hg];simp only[cond_true];by_cases hr:y.litres - bA n y.litres > 0
    ·rw[decide_eq_true hr,if_pos hr];simp only[cond_true];obtain⟨p1,p2,p3,p4⟩:=P (l6 y (y.litres - bA n y.litres)) ⟨by show 0≤y.litres - bA n y.litres;omega,by show y.litres - bA n y.litres≤b0;omega⟩;obtain⟨q1,q2⟩:=rec_ (n - bA n y.litres) (gj K (l6 y (y.litres - bA n y.litres))) (G++[yZ y o (bA n y.litres)]) (by omega) (by omega) p3 p4 (hG _).2;rw[←p2]at q1 q2 ⊢;exact⟨⟨fun _=>⟨hidx,fun _=>⟨fun _=>⟨(hG _).1,fun _ _=>p1⟩,fun h=>(by cases h)⟩,fun h=>(by cases h)⟩,fun s h=>by cases h;exact q1⟩,q2⟩
    ·rw[decide_eq_false hr,if_neg hr];simp only[cond_false];obtain⟨q1,q2⟩:=rec_ (n - bA n y.litres) K (G++[yZ y o (bA n y.litres)]) (by omega) (by omega) hKm hKs (hG _).2;exact⟨⟨fun _=>⟨hidx,fun _=>⟨fun _=>⟨(hG _).1,fun _ h=>(by cases h)⟩,fun h=>(by cases h)⟩,fun h=>(by cases h)⟩,fun s h=>by cases h;exact q1⟩,q2⟩
   ·rw[decide_eq_false hg,if_neg hg];simp only[cond_false];by_cases hr:y.litres - bA n y.litres > 0
    ·rw[decide_eq_true hr,if_pos hr];simp only[cond_true];obtain⟨p1,p2,p3,p4⟩:=P (l6 y (y.litres - bA n y.litres)) ⟨by show 0≤y.litres - bA n y.litres;omega,by show y.litres - bA n y.litres≤b0;omega⟩;obtain⟨q1,q2⟩:=rec_ (n - bA n y.litres) (gj K (l6 y (y.litres - bA n y.litres))) G (by omega) (by omega) p3 p4 hGs;rw[←p2]at q1 q2 ⊢;exact⟨⟨fun _=>⟨hidx,fun _=>⟨fun h=>(by cases h),fun _ _=>p1⟩,fun h=>(by cases h)⟩,fun s h=>by cases h;exact q1⟩,q2⟩
    ·rw[decide_eq_false hr,if_neg hr];simp only[cond_false];obtain⟨q1,q2⟩:=rec_ (n - bA n y.litres) K G (by omega) (by omega) hKm hKs hGs;exact⟨⟨fun _=>⟨hidx,fun _=>⟨fun h=>(by cases h),fun _ h=>(by cases h)⟩,fun h=>(by cases h)⟩,fun s h=>by cases h;exact q1⟩,q2⟩
  ·rw[show(y.farm==f)=false by simpa using hf,gv,if_neg hf];simp only[cond_false];by_cases hr:y.litres > 0
   ·rw[decide_eq_true hr,if_pos hr];simp only[cond_true];obtain⟨p1,p2,p3,p4⟩:=P y hy;obtain⟨q1,q2⟩:=rec_ n (gj K y) G h0 (by omega) p3 p4 hGs;rw[←p2]at q1 q2 ⊢;exact⟨⟨fun _=>⟨hidx,fun h=>(by cases h),fun _ _=>p1⟩,fun s h=>by cases h;exact q1⟩,q2⟩
   ·rw[decide_eq_false hr,if_neg hr];simp only[cond_false];obtain⟨q1,q2⟩:=rec_ n K G h0 (by omega) hKm hKs hGs;exact⟨⟨fun _=>⟨hidx,fun h=>(by cases h),fun _ h=>(by cases h)⟩,fun s h=>by cases h;exact q1⟩,q2⟩
section
variable {ρ:Int→Int}{h:Int}
theorem J6 {x:Claim}(hx:0<x.litres):∀ {l:List Claim},(∀ y∈l,0<y.litres)→∀ z∈gj l x,0<z.litres
 | [],_,z,hz=>by
  have:z=x:=by simpa[gj,qS]using hz
  subst this;exact hx
 |y::l,hl,z,hz=>by
  rw[sG]at hz;have hy:=hl y (by simp);by_cases h1:aI y x=true
  ·rw[if_pos h1]at hz;rcases List.mem_cons.1 hz with rfl|hz
   ·exact hy
   ·exact J6 hx (fun w hw=>hl w (by simp[hw])) z hz
  ·rw[if_neg h1,qS]at hz;by_cases h2:aI x y=true
   ·rw[if_pos h2]at hz;rcases List.mem_cons.1 hz with rfl|hz
    ·exact hx
    ·exact hl z hz
   ·rw[if_neg h2]at hz;rcases List.mem_cons.1 hz with rfl|hz
    ·show 0<x.litres+y.litres;omega
    ·exact hl z (by simp[hz])
theorem Dock.put {l:List Claim}{x:Claim}(d:Dock ρ h l)(hx:0<x.litres)(hr:x.rank=ρ x.right)(hh:x.hour=h):Dock ρ h (gj l x)∧∀ r p,amt (gj l x) r p=amt l r p+if x.right=r∧x.farm=p then x.litres else 0:=by
 obtain⟨q1,q2,q3⟩:=Cw x l d.s fun y hy=>(d.hr y hy).trans hh.symm;refine⟨⟨q1,fun z hz=>?_,fun z hz=>(q2 z hz).1.trans hh,J6 hx d.pos⟩,q3⟩;rcases(q2 z hz).2 with⟨k1,k2,_⟩ | ⟨w,hw,k1,k2,_⟩
 ·rw[k1,k2];exact hr
 ·rw[k1,k2];exact d.rk w hw
structure Gift (ρ:Int→Int)(h o:Int)(l:List Claim):Prop where
 rk:∀ y∈l,y.rank=ρ y.right
 hr:∀ y∈l,y.hour=h
 pos:∀ y∈l,0<y.litres
 fm:∀ y∈l,y.farm=o
theorem Fb {f o:Int}:∀ (R:List Claim) (n:Int) (K G:List Claim),0≤n→(∀ y∈R,y.rank=ρ y.right∧y.hour=h∧0≤y.litres)→Dock ρ h K→Gift ρ h o G→
  Dock ρ h (gv f o R n K G).1∧Gift ρ h o (gv f o R n K G).2∧∀ r p,amt (gv f o R n K G).1 r p+(if p=f then amt (gv f o R n K G).2 r o else 0)=amt K r p+amt R r p+(if p=f then amt G r o else 0)
 | [],n,K,G,h0,hR,dK,dG=>⟨dK,dG,fun r p=>by simp only[gv,amt];omega⟩
 |y::R,n,K,G,h0,hR,dK,dG=>by
  have hy:=hR y (by simp);have hR':∀ z∈R,z.rank=ρ z.right∧z.hour=h∧0≤z.litres:=fun z hz=>hR z (by simp[hz]);have hm:=ph (a:=n) (b:=y.litres);have hm0:0≤bA n y.litres:=by omega
  by_cases hf:y.farm=f
  ·rw[gv,if_pos hf];have k1:Dock ρ h (if y.litres - bA n y.litres > 0 then gj K (l6 y (y.litres - bA n y.litres))else K)∧∀ r p,amt (if y.litres - bA n y.litres > 0 then gj K (l6 y (y.litres - bA n y.litres))else K) r p=amt K r p+if y.right=r∧y.farm=p then y.litres - bA n y.litres else 0:=by
    by_cases hr:y.litres - bA n y.litres > 0
    ·rw[if_pos hr];exact dK.put (x:=l6 y (y.litres - bA n y.litres)) hr hy.1 hy.2.1
    ·rw[if_neg hr];exact⟨dK,fun r p=>by split <;>omega⟩
   have k2:Gift ρ h o (if bA n y.litres > 0 then G++[yZ y o (bA n y.litres)]else G)∧∀ r,amt (if bA n y.litres > 0 then G++[yZ y o (bA n y.litres)]else G) r o=amt G r o+if y.right=r then bA n y.litres else 0:=by
    by_cases hr:bA n y.litres > 0
    ·rw[if_pos hr];refine⟨⟨fun z hz=>?_,fun z hz=>?_,fun z hz=>?_,fun z hz=>?_⟩,fun r=>?_⟩
     ·rcases List.mem_append.1 hz with hz|hz
      ·exact dG.rk z hz
      ·rw[List.mem_singleton.1 hz];exact hy.1
     ·rcases List.mem_append.1 hz with hz|hz
      ·exact dG.hr z hz
      ·rw[List.mem_singleton.1 hz];exact hy.2.1
     ·rcases List.mem_append.1 hz with hz|hz
      ·exact dG.pos z hz
      ·rw[List.mem_singleton.1 hz];exact hr
     ·rcases List.mem_append.1 hz with hz|hz
      ·exact dG.fm z hz
      ·rw[List.mem_singleton.1 hz];rfl
     ·rw[A1,amt,amt];show _+((if y.right=r∧o=o then bA n y.litres else 0)+0)=_;simp
    ·rw[if_neg hr];exact⟨dG,fun r=>by split <;>omega⟩
   obtain⟨q1,q2,q3⟩:=Fb R (n - bA n y.litres) _ _ (by omega) hR' k1.1 k2.1;refine⟨q1,q2,fun r p=>?_⟩;rw[q3,k1.2,k2.2,amt];by_cases hp:p=f
   ·subst hp;by_cases hr:y.right=r
    ·simp only[hr,hf,and_self,if_true];omega
    ·simp only[hr,false_and,if_false,if_true];omega
   ·have:¬ (y.right=r∧y.farm=p):=fun e=>hp (by rw[←e.2,hf]);simp only[if_neg hp,if_neg this];omega
  ·rw[gv,if_neg hf];have k1:Dock ρ h (if y.litres > 0 then gj K y else K)∧∀ r p,amt (if y.litres > 0 then gj K y else K) r p=amt K r p+if y.right=r∧y.farm=p then y.litres else 0:=by
    by_cases hr:y.litres > 0
    ·rw[if_pos hr];exact dK.put hr hy.1 hy.2.1
    ·rw[if_neg hr];exact⟨dK,fun r p=>by split <;>omega⟩
   obtain⟨q1,q2,q3⟩:=Fb R n _ G h0 hR' k1.1 dG;refine⟨q1,q2,fun r p=>?_⟩;rw[q3,k1.2,amt];omega
theorem Fc {o:Int}:∀ (G K:List Claim),Dock ρ h K→Gift ρ h o G→Dock ρ h (G.foldl gj K)∧∀ r p,amt (G.foldl gj K) r p=amt K r p+amt G r p
 | [],K,dK,_=>⟨dK,fun r p=>by simp[amt]⟩
 |x::G,K,dK,dG=>by
  obtain⟨q1,q2⟩:=dK.put (dG.pos x (by simp)) (dG.rk x (by simp)) (dG.hr x (by simp));obtain⟨p1,p2⟩:=Fc G (gj K x) q1 ⟨fun y hy=>dG.rk y (by simp[hy]),fun y hy=>dG.hr y (by simp[hy]),fun y hy=>dG.pos y (by simp[hy]),fun y hy=>dG.fm y (by simp[hy])⟩;refine⟨p1,fun r p=>?_⟩;rw[List.foldl_cons,p2,q2,amt];omega
end
theorem Q1 (c b:Int):(c+1)*b=c*b+b:=by rw[Int.add_mul];simp
theorem IM {f o b0:Int}(hb0:0≤b0):∀ (R:List Claim) (n:Int) (K G:List Claim) (c:Nat),0≤n→nC b0 R→nC ((c:Int)*b0) K→nC b0 G→K.length≤c→G.length≤c→
  nC (((c+R.length:Nat):Int)*b0) (gv f o R n K G).1∧nC b0 (gv f o R n K G).2∧(gv f o R n K G).1.length≤c+R.length∧(gv f o R n K G).2.length≤c+R.length
 | [],n,K,G,c,h0,hR,hK,hG,hkl,hgl=>⟨hK,hG,hkl,hgl⟩
 |y::R,n,K,G,c,h0,hR,hK,hG,hkl,hgl=>by
  have hy:=hR y (by simp);have hR':nC b0 R:=fun z hz=>hR z (by simp[hz]);have hm:=ph (a:=n) (b:=y.litres);have hcb:0≤(c:Int)*b0:=Int.mul_nonneg (by omega) hb0;have e1:((c+1:Nat):Int)*b0=(c:Int)*b0+b0:=Q1 c b0;have e2:c+1+R.length=c+(y::R).length:=by simp only[List.length_cons];omega
  have hK1:nC (((c+1:Nat):Int)*b0) K:=fun z hz=>by have:=hK z hz;omega
  have P:∀ z:Claim,0≤z.litres∧z.litres≤b0→nC (((c+1:Nat):Int)*b0) (gj K z)∧(gj K z).length≤c+1:=fun z hz=>by
   obtain⟨p3,p4⟩:=A2 hcb hz hK;exact⟨by rw[e1];exact p3,by omega⟩
  by_cases hf:y.farm=f
  ·rw[gv,if_pos hf,←e2];have k1:nC (((c+1:Nat):Int)*b0) (if y.litres - bA n y.litres > 0 then gj K (l6 y (y.litres - bA n y.litres))else K)∧(if y.litres - bA n y.litres > 0 then gj K (l6 y (y.litres - bA n y.litres))else K).length≤c+1:=by
    by_cases hr:y.litres - bA n y.litres > 0
    ·rw[if_pos hr];exact P (l6 y (y.litres - bA n y.litres)) ⟨by show 0≤y.litres - bA n y.litres;omega,by show y.litres - bA n y.litres≤b0;omega⟩
    ·rw[if_neg hr];exact⟨hK1,by omega⟩
   have k2:nC b0 (if bA n y.litres > 0 then G++[yZ y o (bA n y.litres)]else G)∧(if bA n y.litres > 0 then G++[yZ y o (bA n y.litres)]else G).length≤c+1:=by
    by_cases hr:bA n y.litres > 0
    ·rw[if_pos hr];refine⟨fun z hz=>?_,by rw[List.length_append];simp only[List.length_cons,List.length_nil];omega⟩;rcases List.mem_append.1 hz with hz|hz
     ·exact hG z hz
     ·rw[List.mem_singleton.1 hz];show 0≤bA n y.litres∧bA n y.litres≤b0;omega
    ·rw[if_neg hr];exact⟨hG,by omega⟩
   exact IM hb0 R (n - bA n y.litres) _ _ (c+1) (by omega) hR' k1.1 k2.1 k1.2 k2.2
  ·rw[gv,if_neg hf,←e2];have k1:nC (((c+1:Nat):Int)*b0) (if y.litres > 0 then gj K y else K)∧(if y.litres > 0 then gj K y else K).length≤c+1:=by
    by_cases hr:y.litres > 0
    ·rw[if_pos hr];exact P y hy
    ·rw[if_neg hr];exact⟨hK1,by omega⟩
   exact IM hb0 R n _ G (c+1) h0 hR' k1.1 hG k1.2 (by omega)
theorem G5 (K0:List Claim){b0:Int}(hb0:0≤b0∧b0≤4398046511104)(G:List Claim):∀ (R A K:List Claim) (k c:Nat),G=A++R→A.length=k→nC b0 R→nC ((c:Int)*b0) K→K.length≤c→c+R.length≤32768→
  okI (nR (K0,G)) (rC (K0,G)) R.length k K∧aq (nR (K0,G)) R.length k K=.inr (R.foldl gj K)
 | [],A,K,k,c,hG,hk,hR,hK,hKl,hc=>⟨trivial,rfl⟩
 |y::R,A,K,k,c,hG,hk,hR,hK,hKl,hc=>by
  have hy:=hR y (by simp);simp only[List.length_cons]at hc;have hm:(K.length+1)*40≤cW:=by unfold cW;omega
  have g:G.getD k default=y:=by rw[hG];exact gi A y default R hk.symm
  have hcb:0≤(c:Int)*b0∧(c:Int)*b0≤144115188075855872:=by
   refine⟨Int.mul_nonneg (by omega) hb0.1,?_⟩;have h2:(c:Int)*b0≤32768*b0:=Int.mul_le_mul_of_nonneg_right (by omega) hb0.1;omega
  have e1:((c+1:Nat):Int)*b0=(c:Int)*b0+b0:=Q1 c b0;obtain⟨p1,p2⟩:=N_ K y hm (by omega) (fun z hz=>by have:=hK z hz;omega);obtain⟨p3,p4⟩:=A2 hcb.1 hy hK;obtain⟨q1,q2⟩:=G5 K0 hb0 G R (A++[y]) (gj K y) (k+1) (c+1) (by rw[hG];simp) (by simp[hk]) (fun z hz=>hR z (by simp[hz])) (by rw[e1];exact p3) (by omega) (by omega);simp only[List.length_cons,okI,aq,nR,rC,g,p2,List.foldl_cons];exact⟨⟨fun _=>p1,fun s h=>by cases h;exact q1⟩,q2⟩
theorem tG (l:List Claim)(f o n:Int){b0:Int}(hb0:0≤b0∧b0≤4398046511104)(hll:l.length≤8192)(h0:0≤n)(h1:n<4611686018427387904)(hl:nC b0 l):
  rX l f o n∧jn l f o n=(gv f o l.reverse n [] []).2.foldl gj (gv f o l.reverse n [] []).1:=by
 have hr:nC b0 l.reverse:=fun y hy=>hl y (by simpa using hy);obtain⟨q1,q2⟩:=Oc l f o b0 hb0 hll (by unfold cW;omega) l.reverse [] n [] [] 0 (by simp) h0 h1 hr (fun y hy=>by cases hy) (by simp) (by simp);obtain⟨g1,g2,g3,g4⟩:=IM (f:=f) (o:=o) hb0.1 l.reverse n [] [] 0 h0 hr (fun y hy=>by cases hy) (fun y hy=>by cases hy) (by simp) (by simp);simp only[List.length_reverse,Nat.zero_add]at q1 q2 g1 g3 g4;obtain⟨r1,r2⟩:=G5 (gv f o l.reverse n [] []).1 hb0 (gv f o l.reverse n [] []).2 (gv f o l.reverse n [] []).2 [] (gv f o l.reverse n [] []).1 0 l.length rfl rfl g2 g1 g3 (by omega);have w:i64.wrap ((l.length:Int) - 1)=(l.length:Int) - 1:=fl (by omega) (by omega);unfold rX jn;rw[w,q2];refine⟨fun _=>⟨q1,fun z hz=>(by cases hz),fun r hr=>by cases hr;exact r1⟩,?_⟩;simp only;rw[r2]
abbrev G6 (l:List Claim):Prop:=l.Pairwise fun a b=>¬ (a.right=b.right∧a.farm=b.farm)
theorem J7:∀ (S:List Claim) (i:Nat) (z:Claim),i<S.length→z.right=(S.getD i default).right→z.farm=(S.getD i default).farm→∀ r p,amt (S.set i z) r p=amt S r p+if z.right=r∧z.farm=p then z.litres - (S.getD i default).litres else 0
 | [],i,z,h,_,_,_,_=>absurd h (Nat.not_lt_zero _)
 |x::S,0,z,_,h1,h2,r,p=>by
  have e:(x::S).getD 0 default=x:=rfl;rw[e]at h1 h2 ⊢;rw[List.set_cons_zero,amt,amt,←h1,←h2];split <;>omega
 |x::S,i+1,z,h,h1,h2,r,p=>by
  have e:(x::S).getD (i+1) default=S.getD i default:=rfl;rw[e]at h1 h2 ⊢;rw[List.set_cons_succ,amt,amt,J7 S i z (by simpa using h) h1 h2 r p];omega
theorem Od {S:List Claim}{i:Nat}{z:Claim}(hi:i<S.length)(h1:z.right=(S.getD i default).right)(h2:z.farm=(S.getD i default).farm)(hd:G6 S):G6 (S.set i z):=by
 rw[qz _ _ hi]at h1 h2;unfold G6 at hd ⊢;rw[List.pairwise_iff_getElem]at hd ⊢;intro a b ha hb hab;rw[List.length_set]at ha hb;rw[List.getElem_set,List.getElem_set];have h3:=hd a b ha hb hab;by_cases ea:i=a
 ·subst ea;rw[if_pos rfl,if_neg (by omega:¬i=b),h1,h2];exact h3
 ·by_cases eb:i=b
  ·subst eb;rw[if_neg ea,if_pos rfl,h1,h2];exact h3
  ·rw[if_neg ea,if_neg eb];exact h3
theorem Oe {S:List Claim}{z:Claim}(hd:G6 S)(h:∀ y∈S,¬ (y.right=z.right∧y.farm=z.farm)):G6 (S++[z]):=
 List.pairwise_append.2 ⟨hd,List.pairwise_singleton _ _,fun a ha b hb=>by rw[List.mem_singleton.1 hb];exact h a ha⟩
def gn (f:Int):List Claim→Int→Int→Int
 | [],_,_=>0
 |y::R,n,r=>if y.farm=f then(if y.right=r then bA n y.litres else 0)+gn f R (n - bA n y.litres) r else gn f R n r
theorem Of {f o:Int}:∀ (R:List Claim) (n:Int) (K G:List Claim),0≤n→(∀ y∈R,0≤y.litres)→∀ r,amt (gv f o R n K G).2 r o=amt G r o+gn f R n r
 | [],n,K,G,_,_,r=>by simp[gv,gn]
 |y::R,n,K,G,h0,hR,r=>by
  have hy:=hR y (by simp);have hR':∀ z∈R,0≤z.litres:=fun z hz=>hR z (by simp[hz]);have hm:=ph (a:=n) (b:=y.litres);by_cases hf:y.farm=f
  ·rw[gv,if_pos hf,gn,if_pos hf,Of R _ _ _ (by omega) hR'];by_cases hr:bA n y.litres > 0
   ·rw[if_pos hr,A1,amt,amt];show _+((if y.right=r∧o=o then bA n y.litres else 0)+0)+_=_;simp only[and_true];omega
   ·rw[if_neg hr];split <;>omega
  ·rw[gv,if_neg hf,gn,if_neg hf,Of R _ _ _ h0 hR']
theorem Ly {x:Claim}{l:List Claim}(h:∀ y∈l,y.hour=x.hour)(hk:∀ y∈l,¬C5 x y)(hn:∀ y∈l.head?,¬tlt y x):(qS x l).Perm (x::l):=by
 cases l with
 |nil=>exact List.Perm.refl _
 |cons y r=>
  rw[qS];by_cases h1:aI x y=true
  ·rw[if_pos h1]
  ·exact absurd (Fa (fun e=>h1 ((qj (h y (by simp)).symm).2 e)) (hn y (by simp))) (hk y (by simp))
theorem G7 {x:Claim}:∀ {l:List Claim},(∀ y∈l,y.hour=x.hour)→(∀ y∈l,¬C5 x y)→(gj l x).Perm (x::l)
 | [],_,_=>List.Perm.refl _
 |y::l,h,hk=>by
  rw[sG];by_cases h1:aI y x=true
  ·rw[if_pos h1];exact((G7 (fun z hz=>h z (by simp[hz])) fun z hz=>hk z (by simp[hz])).cons y).trans (List.Perm.swap x y l)
  ·rw[if_neg h1];refine Ly h hk fun z hz=>?_;have:z=y:=by simpa using hz.symm
   subst this;exact fun e=>h1 ((qj (h z (by simp))).2 e)
theorem Ap {α:Type}(S:List α)(d z:α){i j:Nat}(h:i≠j):(S.set i z).getD j d=S.getD j d:=by
 rw[List.getD_eq_getElem?_getD,List.getElem?_set_ne h,←List.getD_eq_getElem?_getD]
theorem Aq {α:Type}(S:List α)(d z:α){i:Nat}(h:i<S.length):(S.set i z).getD i d=z:=by
 rw[List.getD_eq_getElem?_getD,List.getElem?_set_self h];rfl
structure Pile (ρ:Int→Int)(h b:Int)(S:List Claim):Prop where
 d:G6 S
 rk:∀ y∈S,y.rank=ρ y.right
 hr:∀ y∈S,y.hour=h
 lit:nC b S
section
variable {ρ:Int→Int}{h b b0:Int}
theorem Pile.set {S:List Claim}{i:Nat}{v:Int}(p:Pile ρ h b S)(hi:i<S.length)(hb:b≤b0)(hv:0≤v∧v≤b0):Pile ρ h b0 (S.set i (l6 (S.getD i default) v))∧∀ r q,amt (S.set i (l6 (S.getD i default) v)) r q=amt S r q+if(S.getD i default).right=r∧(S.getD i default).farm=q then v - (S.getD i default).litres else 0:=by
 have hm:S.getD i default∈S:=pg S default hi;refine⟨⟨Od hi rfl rfl p.d,fun y hy=>?_,fun y hy=>?_,fun y hy=>?_⟩,fun r q=>J7 S i (l6 (S.getD i default) v) hi rfl rfl r q⟩
 ·rcases List.mem_or_eq_of_mem_set hy with hy|rfl
  ·exact p.rk y hy
  ·exact p.rk (S.getD i default) hm
 ·rcases List.mem_or_eq_of_mem_set hy with hy|rfl
  ·exact p.hr y hy
  ·exact p.hr (S.getD i default) hm
 ·rcases List.mem_or_eq_of_mem_set hy with hy|rfl
  ·have:=p.lit y hy;omega
  ·exact hv
theorem Pile.app {S:List Claim}{z:Claim}(p:Pile ρ h b S)(hb:b≤b0)(h1:z.rank=ρ z.right)(h2:z.hour=h)(h3:0≤z.litres∧z.litres≤b0)(hn:∀ y∈S,¬ (y.right=z.right∧y.farm=z.farm)):Pile ρ h b0 (S++[z])∧∀ r q,amt (S++[z]) r q=amt S r q+if z.right=r∧z.farm=q then z.litres else 0:=by
 refine⟨⟨Oe p.d hn,fun y hy=>?_,fun y hy=>?_,fun y hy=>?_⟩,fun r q=>by rw[A1,amt,amt];omega⟩
 ·rcases List.mem_append.1 hy with hy|hy
  ·exact p.rk y hy
  ·rw[List.mem_singleton.1 hy];exact h1
 ·rcases List.mem_append.1 hy with hy|hy
  ·exact p.hr y hy
  ·rw[List.mem_singleton.1 hy];exact h2
 ·rcases List.mem_append.1 hy with hy|hy
  ·have:=p.lit y hy;omega
  ·rw[List.mem_singleton.1 hy];exact h3
theorem D2:∀ {S:List Claim},Pile ρ h b S→(∀ y∈S,0<y.litres)→∃ m,S.Perm m∧Dock ρ h m
 | [],_,_=>⟨[],List.Perm.refl _,⟨List.Pairwise.nil,(fun y hy=>by cases hy),(fun y hy=>by cases hy),(fun y hy=>by cases hy)⟩⟩
 |x::S,p,hp=>by
  have hd:=List.pairwise_cons.1 p.d;obtain⟨m,q1,q2⟩:=D2 (S:=S) ⟨hd.2,fun y hy=>p.rk y (by simp[hy]),fun y hy=>p.hr y (by simp[hy]),fun y hy=>p.lit y (by simp[hy])⟩ fun y hy=>hp y (by simp[hy]);refine⟨gj m x,((q1.cons x).trans (G7 (fun y hy=>?_) fun y hy e=>?_).symm),(q2.put (hp x (by simp)) (p.rk x (by simp)) (p.hr x (by simp))).1⟩
  ·exact(q2.hr y hy).trans (p.hr x (by simp)).symm
  ·exact hd.1 y (q1.symm.subset hy) ⟨e.2.1,e.2.2⟩
theorem Lz {S:List Claim}(p:Pile ρ h b S)(hl:S.length<2 ^ 46):cp S∧Dock ρ h (cT S)∧∀ r q,amt (cT S) r q=amt S r q:=by
 have hs:(S.filter fun x=>!ak x).Sublist S:=List.filter_sublist;obtain⟨m,q1,q2⟩:=D2 (S:=S.filter fun x=>!ak x) ⟨p.d.sublist hs,fun y hy=>p.rk y (hs.subset hy),fun y hy=>p.hr y (hs.subset hy),fun y hy=>p.lit y (hs.subset hy)⟩ fun y hy=>by
  have h1:=p.lit y (hs.subset hy);have h2:=(List.mem_filter.1 hy).2;have h3:y.litres≠0:=fun e=>by unfold ak at h2;rw[e]at h2;cases h2
  omega
 obtain⟨t1,t2⟩:=E_ hl q1 q2.s;rw[t2];exact⟨t1,q2,fun r q=>by rw[←Cy q1,ya]⟩
end
section
variable {ρ:Int→Int}{h b b0:Int}
theorem Cz {A g L:Int}{P:Prop}[Decidable P]{q f o:Int}(hfo:o≠f):A+(if P∧f=q then L - g - L else 0)+(if P∧o=q then g else 0)=A+(if P∧q=o then g else 0) - (if P∧q=f then g else 0):=by
 by_cases hP:P
 ·simp only[hP,true_and]
  repeat' split
  all_goals omega
 ·simp only[hP,false_and,if_false];omega
theorem IN (S1:List Claim)(x:Judgement)(i:Nat)(hi:i<S1.length):
  bC S1 x S1 (i:Int)∧
  ((aB S1 x S1 (i:Int)= -1∧∀ y∈S1,¬ (y.right=(S1.getD i default).right∧y.farm=x.other))∨
   ∃ j,j<S1.length∧aB S1 x S1 (i:Int)=(j:Int)∧(S1.getD j default).right=(S1.getD i default).right∧(S1.getD j default).farm=x.other):=by
 have eP:∀ y:Claim,eC y x S1 (i:Int)=(y.farm==x.other&&y.right==(S1.getD i default).right):=fun y=>by
  unfold eC;rw[Int.toNat_natCast]
 refine⟨fun _=>lP _ _ _ fun j s _ _=>?_,?_⟩
 ·unfold bi gG;exact fun _=>⟨by omega,by omega⟩
 ·unfold aB;rcases yV (step:=bw S1 x S1 (i:Int)) S1 default (fun y=>eC y x S1 (i:Int)) (fun k _=>rfl)with⟨e,hN⟩ | ⟨K,z,T,h1,e,h2,h3⟩
  ·rw[e];refine .inl ⟨rfl,fun y hy hk=>?_⟩;have:=hN y hy;rw[eP,hk.1,hk.2]at this;simp at this
  ·rw[e];have g:S1.getD K.length default=z:=by rw[h1];exact gi K z default T rfl
   rw[eP]at h2;simp only[Bool.and_eq_true,beq_iff_eq]at h2;refine .inr ⟨K.length,by rw[h1];simp,rfl,by rw[g];exact h2.2,by rw[g];exact h2.1⟩
theorem LA (x:Judgement)(l:List Claim){S:List Claim}{i k:Nat}{n:Int}(hb:0≤b∧b+b0≤1152921504606846976)(hb0:0≤b0)(p:Pile ρ h b S)(hi:i<S.length)(hf:(S.getD i default).farm=x.farm)(hxo:x.other≠x.farm)(hn:0≤n∧n<4611686018427387904)(hy:(S.getD i default).litres≤b0)(hL:S.length≤32768):
  bQ x l k ((i:Int),S,n)∧∃ S2,bM x l k ((i:Int),S,n)=.inr ((i:Int) - 1,S2,n - bA n (S.getD i default).litres)∧Pile ρ h (b+b0) S2∧S.length≤S2.length∧S2.length≤S.length+1∧
   (∀ j,j<i→(S2.getD j default).right=(S.getD j default).right∧(S2.getD j default).farm=(S.getD j default).farm∧((S.getD j default).farm=x.farm→(S2.getD j default).litres=(S.getD j default).litres))∧
   ∀ r q,amt S2 r q=amt S r q+(if(S.getD i default).right=r∧q=x.other then bA n (S.getD i default).litres else 0) - (if(S.getD i default).right=r∧q=x.farm then bA n (S.getD i default).litres else 0):=by
 have hm:=ph (a:=n) (b:=(S.getD i default).litres);have hY:S.getD i default∈S:=pg S default hi;have hYl:=p.lit _ hY;generalize hg:bA n (S.getD i default).litres=g at *;have hg0:0≤g∧g≤b0:=by omega
 generalize hS1:S.set i (l6 (S.getD i default) ((S.getD i default).litres - g))=S1;obtain⟨p1,a1⟩:=p.set (b0:=b) hi (Int.le_refl _) (v:=(S.getD i default).litres - g) (by omega);rw[hS1]at p1 a1;have hl1:S1.length=S.length:=by rw[←hS1,List.length_set]
 have g1:S1.getD i default=l6 (S.getD i default) ((S.getD i default).litres - g):=by rw[←hS1];exact Aq _ _ _ hi
 obtain⟨x1,x2⟩:=IN S1 x i (by omega);generalize hI:aB S1 x S1 (i:Int)=I at x2;have e:decide ((i:Int)≥0)=true:=decide_eq_true (by omega);have ef:((S.getD i default).farm !=x.farm)=false:=by rw[hf];simp
 have w1:i64.wrap ((i:Int) - 1)=(i:Int) - 1:=fl (by omega) (by omega);have w2:i64.wrap (n - g)=n - g:=fl (by omega) (by omega);have w3:i64.wrap ((S.getD i default).litres - g)=(S.getD i default).litres - g:=fl (by omega) (by omega);have e4:(if n< (S.getD i default).litres then n else(S.getD i default).litres)=g:=hg;have hSS:S.set i ({ right:=(S.getD i default).right,farm:=(S.getD i default).farm,hour:=(S.getD i default).hour,litres:=(S.getD i default).litres - g,rank:=(S.getD i default).rank}:Claim)=S1:=hS1;have hother:∀ j,j<i→S1.getD j default=S.getD j default:=fun j hj=>by rw[←hS1];exact Ap _ _ _ (by omega)
 unfold bQ bM;simp only[e,Int.toNat_natCast,ef,e4,w1,w2,w3,hSS,hI,cond_true,cond_false];rcases x2 with⟨hI1,hN⟩ | ⟨j,hj,hI2,hjr,hjf⟩
 ·have hd:decide (I≥0)=false:=decide_eq_false (by omega);simp only[hd,cond_false];obtain⟨p2,a2⟩:=p1.app (b0:=b+b0) (z:=yZ (S1.getD i default) x.other g) (by omega) (p1.rk (S1.getD i default) (pg S1 default (by omega))) (p1.hr (S1.getD i default) (pg S1 default (by omega))) (by show 0≤g∧g≤b+b0;omega) fun y hy'=>hN y hy';refine⟨fun _=>⟨⟨by omega,by omega⟩,fun _=>⟨⟨by omega,by omega⟩,⟨by omega,by omega⟩,⟨by omega,by omega⟩,x1,fun h=>(by cases h),fun _=>⟨⟨by omega,by omega⟩,?_⟩⟩⟩,S1++[yZ (S1.getD i default) x.other g],rfl,p2,?_,?_,fun q hq=>?_,fun r q=>?_⟩
  ·rw[List.length_append];simp only[List.length_cons,List.length_nil];unfold cW;omega
  ·rw[List.length_append];omega
  ·rw[List.length_append];simp only[List.length_cons,List.length_nil];omega
  ·have:(S1++[yZ (S1.getD i default) x.other g]).getD q default=S.getD q default:=by
    rw[List.getD_eq_getElem?_getD,List.getElem?_append_left (by omega),←List.getD_eq_getElem?_getD,hother q hq]
   rw[this];exact⟨rfl,rfl,fun _=>rfl⟩
  ·rw[a2,a1,g1];show _+(if(S.getD i default).right=r∧x.other=q then g else 0)=_;rw[hf];exact Cz hxo
 ·have hd:decide (I≥0)=true:=decide_eq_true (by omega);have hz:=p1.lit _ (pg S1 default hj);have w4:i64.wrap ((S1.getD j default).litres+g)=(S1.getD j default).litres+g:=fl (by omega) (by omega);subst hI2;simp only[hd,cond_true,Int.toNat_natCast,w4];obtain⟨p2,a2⟩:=p1.set (b0:=b+b0) hj (by omega) (v:=(S1.getD j default).litres+g) (by omega);refine⟨fun _=>⟨⟨by omega,by omega⟩,fun _=>⟨⟨by omega,by omega⟩,⟨by omega,by omega⟩,⟨by omega,by omega⟩,x1,fun _=>⟨⟨by omega,by omega⟩,by omega,by omega⟩,fun h=>(by cases h)⟩⟩,S1.set j (l6 (S1.getD j default) ((S1.getD j default).litres+g)),rfl,p2,?_,?_,fun q hq=>?_,fun r q=>?_⟩
  ·rw[List.length_set];omega
  ·rw[List.length_set];omega
  ·by_cases hjq:j=q
   ·subst hjq;rw[Aq _ _ _ hj,←hother j hq];exact⟨rfl,rfl,fun e=>absurd (hjf.symm.trans e) hxo⟩
   ·rw[Ap _ _ _ hjq,hother q hq];exact⟨rfl,rfl,fun _=>rfl⟩
  ·rw[a2,a1,hjr,hjf,g1];show _+_+(if(S.getD i default).right=r∧x.other=q then(S1.getD j default).litres+g - (S1.getD j default).litres else 0)=_;rw[hf,show(S1.getD j default).litres+g - (S1.getD j default).litres=g by omega];exact Cz hxo
end
section
variable {ρ:Int→Int}{h b0:Int}
theorem CA (x:Judgement)(l:List Claim)(hxo:x.other≠x.farm)(hb0:0≤b0∧b0≤4398046511104):∀ (R:List Claim) (c:Nat) (S:List Claim) (n:Int) (k:Nat),R.length≤S.length→
  (∀ j,j<R.length→(S.getD j default).right=(R.reverse.getD j default).right∧(S.getD j default).farm=(R.reverse.getD j default).farm∧((R.reverse.getD j default).farm=x.farm→(S.getD j default).litres=(R.reverse.getD j default).litres))→
  Pile ρ h ((c:Int)*b0) S→0≤n→n<4611686018427387904→nC b0 R→c+R.length≤16384→S.length+R.length≤32768→
  okI (bM x l) (bQ x l) (R.length+1) k ((R.length:Int) - 1,S,n)∧∃ S',aq (bM x l) (R.length+1) k ((R.length:Int) - 1,S,n)=.inl S'∧Pile ρ h (((c+R.length:Nat):Int)*b0) S'∧S'.length≤S.length+R.length∧
   ∀ r q,amt S' r q=amt S r q+(if q=x.other then gn x.farm R n r else 0) - (if q=x.farm then gn x.farm R n r else 0)
 | [],c,S,n,k,_,_,p,h0,h1,_,_,_=>by
  have e:decide (((0:Nat):Int) - 1≥0)=false:=decide_eq_false (by omega);simp only[List.length_nil,okI,aq,bM,bQ,e,cond_false];refine⟨⟨fun h=>(by cases h),fun s h=>(by cases h)⟩,S,rfl,p,Nat.le_refl _,fun r q=>?_⟩;simp[gn]
 |y::R,c,S,n,k,hl,hS,p,h0,h1,hR,hc,hL=>by
  simp only[List.length_cons]at hl hc hL;have hy:=hR y (by simp);have hR':nC b0 R:=fun z hz=>hR z (by simp[hz]);have hlast:(y::R).reverse.getD R.length default=y:=by rw[List.reverse_cons];exact gi R.reverse y default [] (by simp)
  have hprev:∀ j,j<R.length→(y::R).reverse.getD j default=R.reverse.getD j default:=fun j hj=>by
   rw[List.reverse_cons,List.getD_eq_getElem?_getD,List.getElem?_append_left (by simpa using hj),←List.getD_eq_getElem?_getD]
  obtain⟨s1,s2,s3⟩:=hS R.length (by simp);rw[hlast]at s1 s2 s3;have hi:(((y::R).length:Nat):Int) - 1=(R.length:Int):=by simp
  have e1:((c+1:Nat):Int)*b0=(c:Int)*b0+b0:=Q1 c b0;have hcb:0≤(c:Int)*b0∧(c:Int)*b0≤72057594037927936:=by
   refine⟨Int.mul_nonneg (by omega) hb0.1,?_⟩;have h2:(c:Int)*b0≤16384*b0:=Int.mul_le_mul_of_nonneg_right (by omega) hb0.1;omega
  rw[hi];simp only[List.length_cons];rw[okI,aq,show c+(R.length+1)=c+1+R.length by omega];by_cases hf:y.farm=x.farm
  ·obtain⟨t1,S2,t2,t3,t4,t5,t6,t7⟩:=LA (k:=k) x l (i:=R.length) (n:=n) ⟨hcb.1,by omega⟩ hb0.1 p (by omega) (by rw[s2,hf]) hxo ⟨h0,h1⟩ (by rw[s3 hf];exact hy.2) (by omega);have hm:=ph (a:=n) (b:=(S.getD R.length default).litres);have hyl:=s3 hf;rw[hyl]at t2 t7 hm;obtain⟨q1,S',q2,q3,q4,q5⟩:=CA x l hxo hb0 R (c+1) S2 (n - bA n y.litres) (k+1) (by omega) (fun j hj=>by
    obtain⟨u1,u2,u3⟩:=t6 j hj;obtain⟨v1,v2,v3⟩:=hS j (by simp only[List.length_cons];omega);rw[hprev j hj]at v1 v2 v3;exact⟨u1.trans v1,u2.trans v2,fun e=>(u3 (v2.trans e)).trans (v3 e)⟩) (by rw[e1];exact t3) (by omega) (by omega) hR' (by omega) (by omega)
   rw[t2];refine⟨⟨t1,fun s hs=>by cases hs;exact q1⟩,S',q2,q3,by omega,fun r q=>?_⟩;rw[q5,t7,gn,if_pos hf,s1];by_cases hr:y.right=r
   ·simp only[hr,true_and,if_true]
    repeat' split
    all_goals omega
   ·simp only[hr,false_and,if_false]
    repeat' split
    all_goals omega
  ·have e:decide ((R.length:Int)≥0)=true:=decide_eq_true (by omega);have ef:((S.getD R.length default).farm !=x.farm)=true:=by rw[s2];simpa using hf
   have w1:i64.wrap ((R.length:Int) - 1)=(R.length:Int) - 1:=fl (by omega) (by omega);have hp2:Pile ρ h (((c+1:Nat):Int)*b0) S:=⟨p.d,p.rk,p.hr,fun z hz=>by rw[e1];have:=p.lit z hz;omega⟩;obtain⟨q1,S',q2,q3,q4,q5⟩:=CA x l hxo hb0 R (c+1) S n (k+1) (by omega) (fun j hj=>by
    have:=hS j (by simp only[List.length_cons];omega)
    rwa[hprev j hj]at this) hp2 h0 h1 hR' (by omega) (by omega)
   simp only[bM,bQ,e,Int.toNat_natCast,ef,w1,cond_true];refine⟨⟨fun _=>⟨⟨by omega,by omega⟩,fun h=>(by cases h)⟩,fun s hs=>by cases hs;exact q1⟩,S',q2,q3,by omega,fun r q=>?_⟩;rw[q5,gn,if_neg hf]
end
section
variable {ρ:Int→Int}{h b0:Int}
theorem Dock.pile {l:List Claim}(d:Dock ρ h l)(hb:nC b0 l):Pile ρ h b0 l:=by
 refine⟨?_,d.rk,d.hr,hb⟩;unfold G6;rw[List.pairwise_iff_getElem];intro i j hi hj hij e;have:=List.pairwise_iff_getElem.1 d.s i j hi hj hij;exact IL this (d.rk _ (List.getElem_mem hi)) (d.rk _ (List.getElem_mem hj)) ⟨e.1.symm,e.2.symm⟩
theorem J8 (x:Judgement)(l:List Claim)(hxo:x.other≠x.farm)(hb0:0≤b0∧b0≤4398046511104)(d:Dock ρ h l)(hb:nC b0 l)(hl:l.length≤8192)(h0:0≤x.n)(h1:x.n<4611686018427387904):
  (cC x l∧cp (bZ x l)∧rX l x.farm x.other x.n)∧cT (bZ x l)=jn l x.farm x.other x.n∧Dock ρ h (jn l x.farm x.other x.n):=by
 have hbr:nC b0 l.reverse:=fun y hy=>hb y (by simpa using hy);have hp:Pile ρ h (((1:Nat):Int)*b0) l:=by
  have:=d.pile hb
  rwa[show((1:Nat):Int)*b0=b0 by simp]
 obtain⟨q1,S',q2,q3,q4,q5⟩:=CA x l hxo hb0 l.reverse 1 l x.n 0 (by simp) (fun j _=>by rw[List.reverse_reverse];exact⟨rfl,rfl,fun _=>rfl⟩) hp h0 h1 hbr (by rw[List.length_reverse];omega) (by rw[List.length_reverse];omega);rw[List.length_reverse]at q1 q2 q4;have w:i64.wrap ((l.length:Int) - 1)=(l.length:Int) - 1:=fl (by omega) (by omega);have eG:bZ x l=S':=by unfold bZ;rw[w,q2]
 have gp:cC x l:=by
  unfold cC;rw[w,q2];exact fun _=>⟨q1,fun z hz=>by cases hz⟩
 obtain⟨t1,t2,t3⟩:=Lz q3 (by omega);obtain⟨r1,r2⟩:=tG l x.farm x.other x.n hb0 hl h0 h1 hb;have dn:Dock ρ h ([]:List Claim):=⟨List.Pairwise.nil,(fun y hy=>by cases hy),(fun y hy=>by cases hy),(fun y hy=>by cases hy)⟩;have gnil:Gift ρ h x.other ([]:List Claim):=⟨(fun y hy=>by cases hy),(fun y hy=>by cases hy),(fun y hy=>by cases hy),(fun y hy=>by cases hy)⟩;obtain⟨v1,v2,v3⟩:=Fb (f:=x.farm) (o:=x.other) l.reverse x.n [] [] h0 (fun y hy=>by
  have hy':y∈l:=by simpa using hy
  exact⟨d.rk y hy',d.hr y hy',(hb y hy').1⟩) dn gnil
 have v4:=Of (f:=x.farm) (o:=x.other) l.reverse x.n [] [] h0 fun y hy=>(hbr y hy).1;obtain⟨z1,z2⟩:=Fc _ _ v1 v2;rw[eG,r2];refine⟨⟨gp,t1,r1⟩,zO t2 z1 fun r q=>?_,z1⟩;rw[t3,q5,z2];have a1:=v3 r q;rw[v4,Cy l.reverse_perm]at a1;have a2:amt (gv x.farm x.other l.reverse x.n [] []).2 r q=if q=x.other then gn x.farm l.reverse x.n r else 0:=by
  by_cases hq:q=x.other
  ·subst hq;rw[if_pos rfl,v4];simp[amt]
  ·rw[if_neg hq];exact yY fun y hy e=>hq (by rw[←e.2,v2.fm y hy])
 rw[a2];simp only[amt]at a1;by_cases hq:q=x.farm
 ·rw[if_pos hq]at a1 ⊢;omega
 ·rw[if_neg hq]at a1 ⊢;simp only[ite_self,if_neg hq]at a1;omega
end
def doJ (x:Judgement)(l:List Claim):List Claim:=if x.kind=1 then eF l x.farm 0 else if x.kind=2 then eF l x.farm x.n else if x.kind=3 then jn l x.farm x.other x.n else l
section
variable {ρ:Int→Int}{h b0:Int}
theorem Dock.tidy_id {l:List Claim}(d:Dock ρ h l)(hl:l.length<2 ^ 46):cp l∧cT l=l:=by
 have e:(l.filter fun x=>!ak x)=l:=List.filter_eq_self.2 fun y hy=>by
  have:=d.pos y hy;unfold ak;simp;omega
 exact E_ hl (by rw[e]) d.s
theorem wJ (f:Int):∀ (l:List Claim) (n:Int),∀ z∈nS f n l,∃ y∈l,z.rank=y.rank∧z.right=y.right∧z.hour=y.hour
 | [],_,z,hz=>by cases hz
 |x::r,n,z,hz=>by
  unfold nS at hz;by_cases hf:x.farm=f
  ·rw[if_pos hf]at hz;rcases List.mem_cons.1 hz with rfl|hz
   ·exact⟨x,by simp,rfl,rfl,rfl⟩
   ·obtain⟨y,hy,e⟩:=wJ f r _ z hz;exact⟨y,by simp[hy],e⟩
  ·rw[if_neg hf]at hz;rcases List.mem_cons.1 hz with rfl|hz
   ·exact⟨z,by simp,rfl,rfl,rfl⟩
   ·obtain⟨y,hy,e⟩:=wJ f r _ z hz;exact⟨y,by simp[hy],e⟩
theorem CB {x:Judgement}{l:List Claim}(d:Dock ρ h l)(h0:0≤x.n)(h1:x.n<4611686018427387904)(hl:Lit l)(hb:l.length*40≤cW):Dock ρ h (eF l x.farm x.n):=by
 obtain⟨_,_,e⟩:=sF x l h0 h1 hl d.s hb;have hs:((nS x.farm x.n l).filter fun y=>!ak y).Sublist (nS x.farm x.n l):=List.filter_sublist;have hL:=yW x.farm l x.n h0 hl;rw[e];refine⟨(G1 (yX x.farm l x.n) d.s).sublist hs,fun z hz=>?_,fun z hz=>?_,fun z hz=>?_⟩
 ·obtain⟨y,hy,e1,e2,_⟩:=wJ x.farm l x.n z (hs.subset hz);rw[e1,e2];exact d.rk y hy
 ·obtain⟨y,hy,_,_,e3⟩:=wJ x.farm l x.n z (hs.subset hz);rw[e3];exact d.hr y hy
 ·have h2:=hL.1 z (hs.subset hz);have h3:=(List.mem_filter.1 hz).2;have h4:z.litres≠0:=fun e=>by unfold ak at h3;rw[e]at h3;cases h3
  omega
theorem LB {dd:District}{x:Judgement}(hx:JOk dd x)(h0:x.of_=0){l:List Claim}(hb0:0≤b0∧b0≤4398046511104)(d:Dock ρ h l)(hb:nC b0 l)(hl:l.length≤8192)(a2:List Judgement)(s_0:List Claim×List Claim):
  aU a2 s_0 x l=.inr (doJ x l)∧cd a2 s_0 x l∧Dock ρ h (doJ x l):=by
 have hL:Lit l:=fun y hy=>by have:=hb y hy;omega
 have hmB:l.length*40≤cW:=by unfold cW;omega
 have hk:=hx.kind h0;have hn:0≤x.n∧x.n<4611686018427387904:=by
  by_cases hk1:x.kind=1
  ·rw[hx.none hk1];omega
  ·have:=hx.n hk1 h0;omega
 unfold aU cd doJ;by_cases k1:x.kind=1
 ·obtain⟨⟨p1,p2,p3⟩,e1,_⟩:=sF x l hn.1 hn.2 hL d.s hmB;have d1:=CB d hn.1 hn.2 hL hmB;rw[show(x.kind==1)=true by simpa using k1,if_pos k1,e1];rw[hx.none k1]at d1 ⊢;exact⟨rfl,⟨fun _=>⟨p1,p2⟩,(fun h=>by cases h)⟩,d1⟩
 ·rw[show(x.kind==1)=false by simpa using k1,if_neg k1];by_cases k2:x.kind=2
  ·obtain⟨⟨p1,p2,p3⟩,e1,_⟩:=sF x l hn.1 hn.2 hL d.s hmB;rw[show(x.kind==2)=true by simpa using k2,if_pos k2,e1];exact⟨rfl,⟨(fun h=>by cases h),fun _=>⟨fun _=>⟨p1,p2⟩,(fun h=>by cases h)⟩⟩,CB d hn.1 hn.2 hL hmB⟩
  ·rw[show(x.kind==2)=false by simpa using k2,if_neg k2];by_cases k3:x.kind=3
   ·obtain⟨⟨p1,p2,p3⟩,e1,d1⟩:=J8 x l (hx.other (by omega)).2.2 hb0 d hb hl hn.1 hn.2;rw[show(x.kind==3)=true by simpa using k3,if_pos k3,e1];exact⟨rfl,⟨(fun h=>by cases h),fun _=>⟨(fun h=>by cases h),fun _=>⟨fun _=>⟨p1,p2⟩,(fun h=>by cases h)⟩⟩⟩,d1⟩
   ·have k4:x.kind=4:=by omega
    obtain⟨t1,t2⟩:=d.tidy_id (by omega);rw[show(x.kind==3)=false by simpa using k3,if_neg k3,show(x.kind==4)=true by simpa using k4,t2];exact⟨rfl,⟨(fun h=>by cases h),fun _=>⟨(fun h=>by cases h),fun _=>⟨(fun h=>by cases h),fun _=>⟨fun _=>t1,(fun h=>by cases h)⟩⟩⟩⟩,d⟩
end
theorem zP (j:List Judgement)(x:Judgement)(h:Int):((((x.of_==0)&&(decide (x.hour≤h)))&&(aO h x.since x.to))&&(!(gC j x h)))=aV j x h:=by
 unfold aV;rw[GL,R6];cases(x.of_==0) <;>cases decide (x.hour≤h) <;>cases decide (x.since≤h) <;>cases decide (h≤x.to) <;>rfl
theorem tH (j:List Judgement)(h:Int):∀ (R A:List Judgement) (k:Nat) (s:List Judgement),j=A++R→A.length=k→aq (dR j h) R.length k s=.inr (s++R.filter fun x=>aV j x h)
 | [],A,k,s,_,_=>by simp[aq]
 |y::R,A,k,s,hj,hk=>by
  have g:j.getD k default=y:=by rw[hj];exact gi A y default R hk.symm
  simp only[List.length_cons,aq,dR,g,zP];have hj':j=(A++[y])++R:=by rw[hj];simp
  cases hc:aV j y h with
  |true=>
   simp only[cond_true];rw[tH j h R (A++[y]) (k+1) _ hj' (by simp[hk]),List.filter_cons_of_pos (by exact hc)];simp
  |false=>
   simp only[cond_false];rw[tH j h R (A++[y]) (k+1) _ hj' (by simp[hk]),List.filter_cons_of_neg (by rw[hc];simp)]
theorem kF (j:List Judgement)(h:Int):aD j h=j.filter fun x=>aV j x h:=by
 unfold aD;rw[tH j h j [] 0 [] rfl rfl];rfl
theorem vj {j:List Judgement}{x:Judgement}{h:Int}(hx:aV j x h=true):x.of_=0:=by
 unfold aV at hx;simp only[Bool.and_eq_true]at hx;simpa using hx.1.1.1.1
theorem D3 (j:List Judgement)(h:Int)(x:Judgement)(k:Nat)(s:List Claim)(g:j.getD k default=x):lj j h k s=.inr (if aV j x h=true then doJ x s else s):=by
 unfold lj doJ;rw[g];cases hc:aV j x h with
 |false=>rfl
 |true=>
  simp only[Bool.not_true,cond_false,if_true];by_cases k1:x.kind=1
  ·rw[show(x.kind==1)=true by simpa using k1,if_pos k1];rfl
  ·rw[show(x.kind==1)=false by simpa using k1,if_neg k1];by_cases k2:x.kind=2
   ·rw[show(x.kind==2)=true by simpa using k2,if_pos k2];rfl
   ·rw[show(x.kind==2)=false by simpa using k2,if_neg k2];by_cases k3:x.kind=3
    ·rw[show(x.kind==3)=true by simpa using k3,if_pos k3];rfl
    ·rw[show(x.kind==3)=false by simpa using k3,if_neg k3];rfl
theorem G8 (j:List Judgement)(h:Int):∀ (R A:List Judgement) (k:Nat) (s:List Claim),j=A++R→A.length=k→aq (lj j h) R.length k s=.inr ((R.filter fun x=>aV j x h).foldl (fun s x=>doJ x s) s)
 | [],A,k,s,_,_=>by simp[aq]
 |y::R,A,k,s,hj,hk=>by
  have g:j.getD k default=y:=by rw[hj];exact gi A y default R hk.symm
  have hj':j=(A++[y])++R:=by rw[hj];simp
  simp only[List.length_cons,aq,D3 j h y k s g];rw[G8 j h R (A++[y]) (k+1) _ hj' (by simp[hk])];cases hc:aV j y h with
  |true=>rw[List.filter_cons_of_pos (by exact hc)];rfl
  |false=>rw[List.filter_cons_of_neg (by rw[hc];simp)];rfl
theorem Q2 (l:List Claim)(j:List Judgement)(h:Int):qg l j h=(aD j h).foldl (fun s x=>doJ x s) l:=by
 unfold qg;rw[G8 j h j [] 0 l rfl rfl,kF]
def tot:List Claim→Int
 | [] =>0
 |x::l=>x.litres+tot l
theorem A3:∀ l m:List Claim,tot (l++m)=tot l+tot m
 | [],m=>by simp[tot]
 |x::l,m=>by rw[List.cons_append,tot,tot,A3 l m];omega
theorem vn:∀ l:List Claim,tot (l.filter fun x=>!ak x)=tot l
 | [] =>rfl
 |x::l=>by
  by_cases hx:x.litres=0
  ·rw[List.filter_cons_of_neg (by unfold ak;simp[hx]),vn l,tot,hx];omega
  ·rw[List.filter_cons_of_pos (by unfold ak;simp[hx]),tot,tot,vn l]
theorem Og:∀ {l:List Claim},(∀ y∈l,0≤y.litres)→0≤tot l
 | [],_=>by simp[tot]
 |x::l,h=>by have:=h x (by simp);have:=Og fun y hy=>h y (List.mem_cons_of_mem _ hy);rw[tot];omega
theorem Oh:∀ {l:List Claim},(∀ y∈l,0≤y.litres)→∀ y∈l,y.litres≤tot l
 | [],_,y,hy=>by cases hy
 |x::l,h,y,hy=>by
  have hx:=h x (by simp);have hl:∀ y∈l,0≤y.litres:=fun y hy=>h y (List.mem_cons_of_mem _ hy);rw[tot];rcases List.mem_cons.1 hy with rfl|hy
  ·have:=Og hl;omega
  ·have:=Oh hl y hy;omega
theorem G9 (x:Claim):∀ l:List Claim,tot (qS x l)=tot l+x.litres
 | [] =>by simp[qS,tot]
 |y::r=>by
  rw[qS];split
  ·simp only[tot];omega
  ·simp only[tot,l6];omega
theorem y3 (x:Claim):∀ l:List Claim,tot (gj l x)=tot l+x.litres
 | [] =>G9 x []
 |y::l=>by
  rw[sG];split
  ·rw[tot,y3 x l,tot];omega
  ·exact G9 x (y::l)
theorem G_ {x z:Claim}:∀ {l:List Claim},z∈qS x l→(z.right=x.right∧z.farm=x.farm)∨z∈l
 | [],h=>by
  have:z=x:=by simpa[qS]using h
  subst this;exact .inl ⟨rfl,rfl⟩
 |y::r,h=>by
  rw[qS]at h;split at h
  ·rcases List.mem_cons.1 h with rfl|h
   ·exact .inl ⟨rfl,rfl⟩
   ·exact .inr h
  ·rcases List.mem_cons.1 h with rfl|h
   ·exact .inl ⟨rfl,rfl⟩
   ·exact .inr (List.mem_cons_of_mem _ h)
theorem wK {x z:Claim}:∀ {l:List Claim},z∈gj l x→(z.right=x.right∧z.farm=x.farm)∨z∈l
 | [],h=>G_ (l:=[]) h
 |y::l,h=>by
  rw[sG]at h;split at h
  ·rcases List.mem_cons.1 h with rfl|h
   ·exact .inr (by simp)
   ·rcases wK h with h|h
    ·exact .inl h
    ·exact .inr (List.mem_cons_of_mem _ h)
  ·exact G_ h
theorem Ha (x:Claim):∀ l:List Claim,(qS x l).length≤l.length+1
 | [] =>by simp[qS]
 |y::r=>by rw[qS];split <;>simp
theorem y4 (x:Claim):∀ l:List Claim,(gj l x).length≤l.length+1
 | [] =>Ha x []
 |y::l=>by
  rw[sG];split
  ·have:=y4 x l;simp only[List.length_cons];omega
  ·exact Ha x (y::l)
def PlC (R F:Int)(y:Claim):Prop:=(0≤y.right∧y.right<R)∧0≤y.farm∧y.farm<F
theorem A4 {f o R F:Int}(ho:0≤o∧o<F):∀ (S:List Claim) (n:Int) (K G:List Claim),0≤n→(∀ y∈S,0≤y.litres∧PlC R F y)→(∀ y∈K,PlC R F y)→(∀ y∈G,PlC R F y)→
  tot (gv f o S n K G).1+tot (gv f o S n K G).2=tot K+tot S+tot G∧(∀ y∈(gv f o S n K G).1,PlC R F y)∧(∀ y∈(gv f o S n K G).2,PlC R F y)∧
  (gv f o S n K G).1.length≤K.length+S.length∧(gv f o S n K G).2.length≤G.length+(S.filter fun y=>y.farm==f).length
 | [],n,K,G,_,_,hK,hG=>by
  simp only[gv,tot];exact⟨by omega,hK,hG,by simp,by simp⟩
 |y::S,n,K,G,h0,hS,hK,hG=>by
  have hy:=hS y (by simp);have hS':∀ z∈S,0≤z.litres∧PlC R F z:=fun z hz=>hS z (by simp[hz]);have hm:=ph (a:=n) (b:=y.litres);have hm0:0≤bA n y.litres:=by omega
  have hput:∀ z:Claim,PlC R F z→∀ w∈gj K z,PlC R F w:=fun z hz w hw=>by
   rcases wK hw with⟨e1,e2⟩ |hw
   ·unfold PlC;rw[e1,e2];exact hz
   ·exact hK w hw
  by_cases hf:y.farm=f
  ·rw[gv,if_pos hf,List.filter_cons_of_pos (by simpa using hf)];have k1:tot (if y.litres - bA n y.litres > 0 then gj K (l6 y (y.litres - bA n y.litres))else K)=tot K+(y.litres - bA n y.litres)∧(∀ z∈(if y.litres - bA n y.litres > 0 then gj K (l6 y (y.litres - bA n y.litres))else K),PlC R F z)∧(if y.litres - bA n y.litres > 0 then gj K (l6 y (y.litres - bA n y.litres))else K).length≤K.length+1:=by
    by_cases hr:y.litres - bA n y.litres > 0
    ·rw[if_pos hr];exact⟨y3 _ _,hput _ hy.2,y4 _ _⟩
    ·rw[if_neg hr];exact⟨by omega,hK,by omega⟩
   have k2:tot (if bA n y.litres > 0 then G++[yZ y o (bA n y.litres)]else G)=tot G+bA n y.litres∧(∀ z∈(if bA n y.litres > 0 then G++[yZ y o (bA n y.litres)]else G),PlC R F z)∧(if bA n y.litres > 0 then G++[yZ y o (bA n y.litres)]else G).length≤G.length+1:=by
    by_cases hr:bA n y.litres > 0
    ·rw[if_pos hr];refine⟨by rw[A3];simp[tot,yZ],fun z hz=>?_,by simp⟩;rcases List.mem_append.1 hz with hz|hz
     ·exact hG z hz
     ·rw[List.mem_singleton.1 hz];exact⟨hy.2.1,ho⟩
    ·rw[if_neg hr];exact⟨by omega,hG,by omega⟩
   obtain⟨q1,q2,q3,q4,q5⟩:=A4 ho S (n - bA n y.litres) _ _ (by omega) hS' k1.2.1 k2.2.1;refine⟨?_,q2,q3,?_,?_⟩
   ·rw[q1,k1.1,k2.1,tot];omega
   ·have:=k1.2.2;simp only[List.length_cons];omega
   ·have:=k2.2.2;simp only[List.length_cons];omega
  ·rw[gv,if_neg hf,List.filter_cons_of_neg (by simpa using hf)];have k1:tot (if y.litres > 0 then gj K y else K)=tot K+y.litres∧(∀ z∈(if y.litres > 0 then gj K y else K),PlC R F z)∧(if y.litres > 0 then gj K y else K).length≤K.length+1:=by
    by_cases hr:y.litres > 0
    ·rw[if_pos hr];exact⟨y3 _ _,hput _ hy.2,y4 _ _⟩
    ·rw[if_neg hr];exact⟨by omega,hK,by omega⟩
   obtain⟨q1,q2,q3,q4,q5⟩:=A4 ho S n _ G h0 hS' k1.2.1 hG;refine⟨?_,q2,q3,?_,q5⟩
   ·rw[q1,k1.1,tot];omega
   ·have:=k1.2.2;simp only[List.length_cons];omega
theorem zQ {R F:Int}:∀ (G K:List Claim),(∀ y∈K,PlC R F y)→(∀ y∈G,PlC R F y)→tot (G.foldl gj K)=tot K+tot G∧(∀ y∈G.foldl gj K,PlC R F y)∧(G.foldl gj K).length≤K.length+G.length
 | [],K,hK,_=>⟨by simp[tot],hK,by simp⟩
 |x::G,K,hK,hG=>by
  obtain⟨p1,p2,p3⟩:=zQ G (gj K x) (fun w hw=>by
   rcases wK hw with⟨e1,e2⟩ |hw
   ·unfold PlC;rw[e1,e2];exact hG x (by simp)
   ·exact hK w hw) fun y hy=>hG y (by simp[hy])
  rw[List.foldl_cons];refine⟨?_,p2,?_⟩
  ·rw[p1,y3,tot];omega
  ·have:=y4 x K;simp only[List.length_cons];omega
theorem w8 (f:Int){R F:Int}:∀ (l:List Claim) (n:Int),0≤n→(∀ y∈l,0≤y.litres∧PlC R F y)→tot (nS f n l)≤tot l∧(∀ y∈nS f n l,PlC R F y)∧(nS f n l).length=l.length
 | [],n,_,_=>⟨by simp[nS],(fun y hy=>by simp[nS]at hy),rfl⟩
 |x::r,n,h0,hl=>by
  have hx:=hl x (by simp);have hm:=ph (a:=n) (b:=x.litres);have hl':∀ y∈r,0≤y.litres∧PlC R F y:=fun y hy=>hl y (by simp[hy]);unfold nS;by_cases hf:x.farm=f
  ·rw[if_pos hf];obtain⟨p1,p2,p3⟩:=w8 f r (n - bA n x.litres) (by omega) hl';refine⟨?_,fun y hy=>?_,by simp[p3]⟩
   ·simp only[tot,l6];omega
   ·rcases List.mem_cons.1 hy with rfl|hy
    ·exact hx.2
    ·exact p2 y hy
  ·rw[if_neg hf];obtain⟨p1,p2,p3⟩:=w8 f r n h0 hl';refine⟨?_,fun y hy=>?_,by simp[p3]⟩
   ·simp only[tot];omega
   ·rcases List.mem_cons.1 hy with rfl|hy
    ·exact hx.2
    ·exact p2 y hy
theorem Ar:∀ (N:Nat) (l:List Nat),l.Nodup→(∀ x∈l,x<N)→l.length≤N
 |0,[],_,_=>by simp
 |0,x::l,_,h=>absurd (h x (by simp)) (Nat.not_lt_zero _)
 |N+1,l,hn,h=>by
  have h2:=Ar N (l.erase N) (hn.erase N) fun x hx=>by
   have:=hn.mem_erase_iff.1 hx;have:=h x this.2;omega
  by_cases hm:N∈l
  ·rw[List.length_erase_of_mem hm]at h2;omega
  ·rw[List.erase_of_not_mem hm]at h2;omega
section
variable {ρ:Int→Int}{h:Int}
structure InvD (ρ:Int→Int)(h R F B:Int)(N:Nat)(l:List Claim):Prop where
 d:Dock ρ h l
 pl:∀ y∈l,PlC R F y
 tt:tot l≤B
 len:l.length≤N
variable {R F B:Int}{N:Nat}
theorem InvD.lit {l:List Claim}(i:InvD ρ h R F B N l):nC B l:=fun y hy=>by
 have h1:=i.d.pos y hy;have h2:=Oh (fun z hz=>by have:=i.d.pos z hz;omega) y hy;have h3:=i.tt;omega
theorem InvD.few {l:List Claim}(i:InvD ρ h R F B N l)(hR:R≤256)(f:Int):(l.filter fun y=>y.farm==f).length≤256:=by
 have hd:G6 l:=(i.d.pile i.lit).d;have h1:((l.filter fun y=>y.farm==f).map fun y=>y.right.toNat).Nodup:=by
  refine List.pairwise_map.2 ((List.Pairwise.sublist List.filter_sublist hd).imp_of_mem fun {a b} ha hb hab=>?_);have a1:=List.mem_filter.1 ha;have b1:=List.mem_filter.1 hb;have a2:a.farm=f:=by simpa using a1.2
  have b2:b.farm=f:=by simpa using b1.2
  have a3:=(i.pl a a1.1).1;have b3:=(i.pl b b1.1).1;intro e;exact hab ⟨by omega,by rw[a2,b2]⟩
 have h2:=Ar 256 _ h1 fun x hx=>by
  obtain⟨y,hy,rfl⟩:=List.mem_map.1 hx;have:=(i.pl y (List.mem_filter.1 hy).1).1;omega
 simpa using h2
theorem InvD.step {dd:District}{x:Judgement}(hx:JOk dd x)(h0:x.of_=0){l:List Claim}(i:InvD ρ h R F B N l)(hR:R≤256)(hF:(dd.farms.length:Int)=F)(hB:0≤B∧B≤4398046511104)(hN:N≤8192)(a2:List Judgement)(s_0:List Claim×List Claim):
  aU a2 s_0 x l=.inr (doJ x l)∧cd a2 s_0 x l∧InvD ρ h R F B (N+256) (doJ x l):=by
 have hlen:=i.len;obtain⟨e1,e2,e3⟩:=LB hx h0 hB i.d i.lit (by omega) a2 s_0;have hb:=i.lit;have hL:Lit l:=fun y hy=>by have:=hb y hy;omega
 have hmB:l.length*40≤cW:=by unfold cW;omega
 have hp:∀ y∈l,0≤y.litres∧PlC R F y:=fun y hy=>⟨(hb y hy).1,i.pl y hy⟩;have hk:=hx.kind h0;have hn:0≤x.n∧x.n<4611686018427387904:=by
  by_cases hk1:x.kind=1
  ·rw[hx.none hk1];omega
  ·have:=hx.n hk1 h0;omega
 refine⟨e1,e2,e3,?_,?_,?_⟩ <;>unfold doJ;all_goals
  have kl:∀ n:Int,n=x.n→tot (eF l x.farm n)≤B∧(∀ y∈eF l x.farm n,PlC R F y)∧(eF l x.farm n).length≤N+256:=fun n e=>by
   subst e;obtain⟨_,_,e⟩:=sF x l hn.1 hn.2 hL i.d.s hmB;obtain⟨q1,q2,q3⟩:=w8 x.farm l x.n hn.1 hp;rw[e];refine⟨?_,fun y hy=>q2 y (List.mem_filter.1 hy).1,?_⟩
   ·rw[vn];have:=i.tt;omega
   ·have:=List.length_filter_le (fun y=>!ak y) (nS x.farm x.n l);omega
  have kg:x.kind=3→tot (jn l x.farm x.other x.n)≤B∧(∀ y∈jn l x.farm x.other x.n,PlC R F y)∧(jn l x.farm x.other x.n).length≤N+256:=fun hk3=>by
   have ho:=hx.other (by omega);obtain⟨_,e⟩:=tG l x.farm x.other x.n hB (by omega) hn.1 hn.2 hb;obtain⟨q1,q2,q3,q4,q5⟩:=A4 (R:=R) (F:=F) (f:=x.farm) (o:=x.other) ⟨ho.1,by omega⟩ l.reverse x.n [] [] hn.1 (fun y hy=>hp y (by simpa using hy)) (fun y hy=>by cases hy) (fun y hy=>by cases hy);obtain⟨p1,p2,p3⟩:=zQ (R:=R) (F:=F) (gv x.farm x.other l.reverse x.n [] []).2 (gv x.farm x.other l.reverse x.n [] []).1 q2 q3;have hrv:∀ m:List Claim,tot m.reverse=tot m:=fun m=>by
    induction m with
    |nil=>rfl
    |cons a m ih=>rw[List.reverse_cons,A3,ih];simp only[tot];omega
   have hfw:=i.few hR x.farm;rw[e];refine⟨?_,p2,?_⟩
   ·rw[p1,q1,hrv];have:=i.tt;simp only[tot];omega
   ·rw[List.filter_reverse,List.length_reverse]at q5;rw[List.length_reverse]at q4;simp only[List.length_nil]at q4 q5;omega
  have kn:tot l≤B∧(∀ y∈l,PlC R F y)∧l.length≤N+256:=⟨i.tt,i.pl,by omega⟩
 ·split
  ·exact(kl 0 (hx.none (by assumption)).symm).2.1
  ·split
   ·exact(kl _ rfl).2.1
   ·split
    ·exact(kg (by assumption)).2.1
    ·exact kn.2.1
 ·split
  ·exact(kl 0 (hx.none (by assumption)).symm).1
  ·split
   ·exact(kl _ rfl).1
   ·split
    ·exact(kg (by assumption)).1
    ·exact kn.1
 ·split
  ·exact(kl 0 (hx.none (by assumption)).symm).2.2
  ·split
   ·exact(kl _ rfl).2.2
   ·split
    ·exact(kg (by assumption)).2.2
    ·exact kn.2.2
end
def doH (j:List Judgement)(h:Int)(l:List Claim):List Claim:=(j.filter fun x=>aV j x h).foldl (fun s x=>doJ x s) l
def exS (j:List Judgement):Nat→List Claim→List Claim
 |0,_=>[]
 |_+1,[] =>[]
 |n+1,y::r=>doH j y.hour (y::r.takeWhile fun z=>z.hour==y.hour)++exS j n (r.dropWhile fun z=>z.hour==y.hour)
def qT (c:List Claim)(h:Int):List Claim:=c.filter fun z=>z.hour==h
def C6 (f:Int→List Claim)(lo:Int):Nat→List Claim
 |0=>[]
 |n+1=>f lo++C6 f (lo+1) n
theorem yb {f g:Int→List Claim}:∀ (n:Nat) (lo:Int),(∀ h,lo≤h→h<lo+n→f h=g h)→C6 f lo n=C6 g lo n
 |0,_,_=>rfl
 |n+1,lo,h=>by rw[C6,C6,h lo (by omega) (by omega),yb n (lo+1) fun k h1 h2=>h k (by omega) (by omega)]
theorem wL (p:Claim→Bool)(f:Int→List Claim):∀ (n:Nat) (lo:Int),(C6 f lo n).filter p=C6 (fun h=>(f h).filter p) lo n
 |0,_=>rfl
 |n+1,lo=>by rw[C6,C6,List.filter_append,wL p f n (lo+1)]
def exR (j:List Judgement)(c:List Claim)(lo:Int)(n:Nat):List Claim:=C6 (fun h=>doH j h (qT c h)) lo n
theorem CC (j:List Judgement)(c:List Claim)(lo:Int)(n:Nat):exR j c lo (n+1)=doH j lo (qT c lo)++exR j c (lo+1) n:=rfl
theorem Q3 (x:Judgement):doJ x []=[]:=by
 unfold doJ;split
 ·rfl
 ·split
  ·rfl
  ·split <;>rfl
theorem J9 (j:List Judgement)(h:Int):doH j h []=[]:=by
 unfold doH;have:∀ L:List Judgement,L.foldl (fun s x=>doJ x s) []=[]:=fun L=>by
  induction L with
  |nil=>rfl
  |cons a L ih=>rw[List.foldl_cons,Q3,ih]
 exact this _
theorem Hb (j:List Judgement)(c:List Claim):∀ (m:Nat) (lo:Int) (n:Nat),(∀ z∈c,lo+m≤z.hour)→exR j c lo (m+n)=exR j c (lo+m) n
 |0,lo,n,_=>by simp
 |m+1,lo,n,h=>by
  have e:qT c lo=[]:=List.filter_eq_nil_iff.2 fun z hz=>by have:=h z hz;simp;omega
  rw[show m+1+n=(m+n)+1 by omega,CC,e,J9,List.nil_append,Hb j c m (lo+1) n (fun z hz=>by have:=h z hz;omega)];congr 1;omega
theorem LD (j:List Judgement){c c':List Claim}(n:Nat)(lo:Int)(h:∀ h,lo≤h→qT c h=qT c' h):exR j c lo n=exR j c' lo n:=yb n lo fun k h1 _=>by rw[h k h1]
abbrev Fd (c:List Claim):Prop:=c.Pairwise fun a b=>a.hour≤b.hour
theorem D4 {y:Claim}:∀ {r:List Claim},Fd (y::r)→(r.takeWhile fun z=>z.hour==y.hour)=qT r y.hour∧(r.dropWhile fun z=>z.hour==y.hour)=r.filter fun z=>decide (y.hour<z.hour)
 | [],_=>⟨rfl,rfl⟩
 |z::r,h=>by
  have h1:=List.pairwise_cons.1 h;have h2:=List.pairwise_cons.1 h1.2;have hz:=h1.1 z (by simp);by_cases e:z.hour=y.hour
  ·have hr:Fd (y::r):=List.pairwise_cons.2 ⟨fun w hw=>h1.1 w (by simp[hw]),h2.2⟩;obtain⟨p1,p2⟩:=D4 hr;have e1:(z.hour==y.hour)=true:=by simpa using e
   have e2:decide (y.hour<z.hour)=false:=by simp;omega
   unfold qT at p1 ⊢;rw[List.takeWhile_cons_of_pos (p:=fun z:Claim=>z.hour==y.hour) e1,List.dropWhile_cons_of_pos (p:=fun z:Claim=>z.hour==y.hour) e1,List.filter_cons_of_pos (p:=fun z:Claim=>z.hour==y.hour) e1,List.filter_cons_of_neg (p:=fun z:Claim=>decide (y.hour<z.hour)) (by rw[e2];simp),p1,p2];exact⟨rfl,rfl⟩
  ·have e1:¬ (z.hour==y.hour)=true:=by simpa using e
   have e3:∀ w∈z::r,y.hour<w.hour:=fun w hw=>by
    rcases List.mem_cons.1 hw with rfl|hw
    ·omega
    ·have:=h2.1 w hw;omega
   refine⟨?_,?_⟩
   ·rw[List.takeWhile_cons_of_neg (p:=fun z:Claim=>z.hour==y.hour) e1];exact(List.filter_eq_nil_iff.2 fun w hw=>by have:=e3 w hw;simp;omega).symm
   ·rw[List.dropWhile_cons_of_neg (p:=fun z:Claim=>z.hour==y.hour) e1];exact(List.filter_eq_self.2 fun w hw=>by have:=e3 w hw;simp;omega).symm
theorem Oi (j:List Judgement):∀ (k:Nat) (c:List Claim) (lo:Int) (n:Nat),c.length<k→Fd c→(∀ z∈c,lo≤z.hour∧z.hour<lo+n)→exS j k c=exR j c lo n
 |0,_,_,_,hk,_,_=>absurd hk (Nat.not_lt_zero _)
 |k+1,[],lo,n,_,_,_=>by
  have:∀ (n:Nat) (lo:Int),exR j [] lo n=[]:=fun n=>by
   induction n with
   |zero=>intro _;rfl
   |succ n ih=>intro lo;rw[CC,ih,show qT [] lo=[]from rfl,J9];rfl
  rw[this];rfl
 |k+1,y::r,lo,n,hk,hs,hr=>by
  have hy:=hr y (by simp);have h1:=List.pairwise_cons.1 hs;obtain⟨m,hm⟩:∃ m:Nat,y.hour=lo+m:=⟨(y.hour - lo).toNat,by omega⟩;obtain⟨n',hn'⟩:∃ n':Nat,n=m+(n'+1):=⟨n - m - 1,by omega⟩;obtain⟨p1,p2⟩:=D4 hs;have hall:∀ z∈y::r,y.hour≤z.hour:=fun z hz=>by
   rcases List.mem_cons.1 hz with rfl|hz
   ·omega
   ·exact h1.1 z hz
  rw[hn',Hb j (y::r) m lo (n'+1) (fun z hz=>by have:=hall z hz;omega),CC,exS,←hm,p1,p2];have e1:qT (y::r) y.hour=y::qT r y.hour:=List.filter_cons_of_pos (by simp);rw[e1];congr 1
  have hlen:(r.filter fun z=>decide (y.hour<z.hour)).length<k:=by
   have:=List.length_filter_le (fun z:Claim=>decide (y.hour<z.hour)) r;simp only[List.length_cons]at hk;omega
  rw[Oi j k _ (y.hour+1) n' hlen (List.Pairwise.sublist List.filter_sublist h1.2) (fun z hz=>by
   have hz':=List.mem_filter.1 hz;have h2:y.hour<z.hour:=by simpa using hz'.2
   have h3:=hr z (by simp[hz'.1]);omega)]
  refine LD j n' _ fun h hh=>?_;unfold qT;rw[List.filter_cons_of_neg (by simp;omega),List.filter_filter];refine List.filter_congr fun z _=>?_;by_cases e:z.hour=h
  ·simp[e];omega
  ·simp[e]
section
variable {ρ:Int→Int}{h R F B:Int}{N:Nat}
theorem J_:∀ m:List Claim,tot m.reverse=tot m
 | [] =>rfl
 |a::m=>by rw[List.reverse_cons,A3,J_ m];simp only[tot];omega
theorem y5 {nm:Int→Bool}{f:Int}(hf:nm f=true):∀ (l:List Claim) (n:Int),(nS f n l).filter (fun y=>!nm y.farm)=l.filter fun y=>!nm y.farm
 | [],_=>rfl
 |x::r,n=>by
  unfold nS;by_cases e:x.farm=f
  ·rw[if_pos e,List.filter_cons_of_neg (by simp[l6,e,hf]),List.filter_cons_of_neg (by simp[e,hf]),y5 hf]
  ·rw[if_neg e];by_cases e2:nm x.farm=true
   ·rw[List.filter_cons_of_neg (by simp[e2]),List.filter_cons_of_neg (by simp[e2]),y5 hf]
   ·have e2:nm x.farm=false:=by simpa using e2
    rw[List.filter_cons_of_pos (by simp[e2]),List.filter_cons_of_pos (by simp[e2]),y5 hf]
theorem Fe (nm:Int→Bool):∀ (l:List Claim) (r p:Int),amt (l.filter fun y=>!nm y.farm) r p=if nm p=true then 0 else amt l r p
 | [],r,p=>by simp[amt]
 |x::l,r,p=>by
  have ih:=Fe nm l r p;by_cases e:nm x.farm=true
  ·rw[List.filter_cons_of_neg (by simp[e]),ih];split
   ·rfl
   ·rename_i hp;have:¬ (x.right=r∧x.farm=p):=fun q=>hp (by rw[←q.2];exact e);rw[amt,if_neg this];omega
  ·have e':nm x.farm=false:=by simpa using e
   rw[List.filter_cons_of_pos (by simp[e']),amt,ih,amt];by_cases hp:nm p=true
   ·have:¬ (x.right=r∧x.farm=p):=fun q=>e (by rw[q.2];exact hp);rw[if_pos hp,if_pos hp,if_neg this];rfl
   ·rw[if_neg hp,if_neg hp]
theorem Dock.filter {l:List Claim}(d:Dock ρ h l)(p:Claim→Bool):Dock ρ h (l.filter p):=
 ⟨d.s.sublist List.filter_sublist,fun y hy=>d.rk y (List.mem_filter.1 hy).1,fun y hy=>d.hr y (List.mem_filter.1 hy).1,fun y hy=>d.pos y (List.mem_filter.1 hy).1⟩
theorem LF {dd:District}{x:Judgement}(hx:JOk dd x)(h0:x.of_=0){l:List Claim}(i:InvD ρ h R F B N l)(hB:0≤B∧B≤4398046511104)(hN:N≤8192)(hd:Dock ρ h (doJ x l)):
  (∀ nm:Int→Bool,nm x.farm=true→(3≤x.kind→nm x.other=true)→(doJ x l).filter (fun y=>!nm y.farm)=l.filter fun y=>!nm y.farm)∧tot (doJ x l)≤tot l∧(x.kind≠1→x.kind≠2→tot (doJ x l)=tot l):=by
 have hlen:=i.len;have hb:=i.lit;have hL:Lit l:=fun y hy=>by have:=hb y hy;omega
 have hmB:l.length*40≤cW:=by unfold cW;omega
 have hp:∀ y∈l,0≤y.litres∧PlC R F y:=fun y hy=>⟨(hb y hy).1,i.pl y hy⟩;have hk:=hx.kind h0;have hn:0≤x.n∧x.n<4611686018427387904:=by
  by_cases hk1:x.kind=1
  ·rw[hx.none hk1];omega
  ·have:=hx.n hk1 h0;omega
 have nz:(l.filter fun y=>!ak y)=l:=List.filter_eq_self.2 fun y hy=>by
  have:=i.d.pos y hy;unfold ak;simp;omega
 have kl:∀ n:Int,n=x.n→(∀ nm:Int→Bool,nm x.farm=true→(eF l x.farm n).filter (fun y=>!nm y.farm)=l.filter fun y=>!nm y.farm)∧tot (eF l x.farm n)≤tot l:=fun n e=>by
  subst e;obtain⟨_,_,e⟩:=sF x l hn.1 hn.2 hL i.d.s hmB;refine⟨fun nm hf=>?_,?_⟩
  ·rw[e,List.filter_filter];have:(fun a=>(!nm a.farm&& !ak a))=fun a:Claim=>(!ak a&& !nm a.farm):=by funext a;exact Bool.and_comm _ _
   rw[this,←List.filter_filter,y5 hf,List.filter_filter];have:(fun a=>(!ak a&& !nm a.farm))=fun a:Claim=>(!nm a.farm&& !ak a):=by funext a;exact Bool.and_comm _ _
   rw[this,←List.filter_filter,nz]
  ·rw[e,vn];exact(w8 x.farm l x.n hn.1 hp).1
 unfold doJ at hd ⊢;by_cases k1:x.kind=1
 ·rw[if_pos k1];obtain⟨q1,q2⟩:=kl 0 (hx.none k1).symm;exact⟨fun nm a _=>q1 nm a,q2,fun a=>absurd k1 a⟩
 rw[if_neg k1]at hd ⊢;by_cases k2:x.kind=2
 ·rw[if_pos k2];obtain⟨q1,q2⟩:=kl x.n rfl;exact⟨fun nm a _=>q1 nm a,q2,fun _ a=>absurd k2 a⟩
 rw[if_neg k2]at hd ⊢;by_cases k3:x.kind=3
 ·rw[if_pos k3]at hd ⊢;have ho:=hx.other (by omega);obtain⟨_,e⟩:=tG l x.farm x.other x.n hB (by omega) hn.1 hn.2 hb;have q:=A4 (R:=R) (F:=max F (x.other+1)) (f:=x.farm) (o:=x.other) ⟨ho.1,by omega⟩ l.reverse x.n [] [] hn.1 (fun y hy=>⟨(hp y (by simpa using hy)).1,(hp y (by simpa using hy)).2.1,(hp y (by simpa using hy)).2.2.1,by have:=(hp y (by simpa using hy)).2.2.2;omega⟩) (fun y hy=>by cases hy) (fun y hy=>by cases hy);have p1:=(zQ (R:=R) (F:=max F (x.other+1)) (gv x.farm x.other l.reverse x.n [] []).2 (gv x.farm x.other l.reverse x.n [] []).1 q.2.1 q.2.2.1).1;have hR:∀ y∈l.reverse,y.rank=ρ y.right∧y.hour=h∧0≤y.litres:=fun y hy=>by
   have hy:y∈l:=by simpa using hy
   have:=i.d.pos y hy;exact⟨i.d.rk y hy,i.d.hr y hy,by omega⟩
  obtain⟨g1,g2,g3⟩:=Fb (ρ:=ρ) (h:=h) (f:=x.farm) (o:=x.other) l.reverse x.n [] [] hn.1 hR ⟨List.Pairwise.nil,(fun y hy=>by cases hy),(fun y hy=>by cases hy),(fun y hy=>by cases hy)⟩ ⟨(fun y hy=>by cases hy),(fun y hy=>by cases hy),(fun y hy=>by cases hy),(fun y hy=>by cases hy)⟩;obtain⟨_,g5⟩:=Fc _ _ g1 g2;have ht:tot (jn l x.farm x.other x.n)=tot l:=by
   rw[e,p1,q.1,J_];simp only[tot];omega
  refine⟨fun nm a1 a2=>?_,by omega,fun _ _=>ht⟩;refine zO (hd.filter _) (i.d.filter _) fun r p=>?_;rw[Fe,Fe];split
  ·rfl
  ·rename_i hnp;have n1:p≠x.farm:=fun q=>hnp (by rw[q];exact a1);have n2:p≠x.other:=fun q=>hnp (by rw[q];exact a2 (by omega));have g4:=g3 r p;rw[if_neg n1,if_neg n1]at g4;rw[e,g5,yY (l:=(gv x.farm x.other l.reverse x.n [] []).2) (fun y hy q=>n2 (by rw[←q.2];exact g2.fm y hy))];have:amt l.reverse r p=amt l r p:=Cy (List.reverse_perm l) r p;simp only[amt]at g4;omega
 ·rw[if_neg k3]at hd ⊢;exact⟨fun _ _ _=>rfl,Int.le_refl _,fun _ _=>rfl⟩
theorem Ka {dd:District}(a2:List Judgement)(s_0:List Claim×List Claim)(hR:R≤256)(hF:(dd.farms.length:Int)=F)(hB:0≤B∧B≤4398046511104):∀ (L:List Judgement) (N:Nat) (l:List Claim),(∀ x∈L,JOk dd x∧x.of_=0)→InvD ρ h R F B N l→N+256*L.length≤8192→
  (okL (aU a2 s_0) (cd a2 s_0) L l∧ny (aU a2 s_0) L l=.inr (L.foldl (fun s x=>doJ x s) l))∧InvD ρ h R F B (N+256*L.length) (L.foldl (fun s x=>doJ x s) l)∧
  (∀ nm:Int→Bool,(∀ x∈L,nm x.farm=true∧(3≤x.kind→nm x.other=true))→(L.foldl (fun s x=>doJ x s) l).filter (fun y=>!nm y.farm)=l.filter fun y=>!nm y.farm)∧tot (L.foldl (fun s x=>doJ x s) l)≤tot l∧((∀ x∈L,x.kind≠1∧x.kind≠2)→tot (L.foldl (fun s x=>doJ x s) l)=tot l)
 | [],N,l,_,i,_=>⟨⟨trivial,rfl⟩,by simpa using i,fun _ _=>rfl,Int.le_refl _,fun _=>rfl⟩
 |x::L,N,l,hx,i,hN=>by
  have h1:=hx x (by simp);simp only[List.length_cons]at hN ⊢;obtain⟨e1,e2,e3⟩:=i.step h1.1 h1.2 hR hF hB (by omega) a2 s_0;obtain⟨f1,f2,f3⟩:=LF h1.1 h1.2 i hB (by omega) e3.d;obtain⟨⟨q1,q2⟩,q3,q4,q5,q6⟩:=Ka a2 s_0 hR hF hB L (N+256) (doJ x l) (fun y hy=>hx y (by simp[hy])) e3 (by omega);rw[List.foldl_cons];refine⟨⟨⟨e2,fun s' e=>?_⟩,?_⟩,?_,fun nm hnm=>?_,by omega,fun hk=>?_⟩
  ·rw[e1]at e;cases e;exact q1
  ·simp only[ny,e1];exact q2
  ·rw[show N+256*(L.length+1)=N+256+256*L.length by omega];exact q3
  ·rw[q4 nm (fun y hy=>hnm y (by simp[hy]))];have:=hnm x (by simp);exact f1 nm this.1 this.2
  ·rw[q6 fun y hy=>hk y (by simp[hy])];have:=hk x (by simp);exact f3 this.1 this.2
end
theorem LG (j:List Judgement)(h:Int):gI j h ((aD j h).map tV):=by
 have e:=kF j h;have key:∀ (R A:List Judgement) (k:Nat) (s:List Judgement),j=A++R→A.length=k→s=(A.filter fun x=>aV j x h)→
   okI (dR j h) (fq j h ((aD j h).map tV)) R.length k s:=fun R=>by
  induction R with
  |nil=>exact fun A k s _ _ _=>trivial
  |cons y R ih=>
   intro A k s hj hk hs;have g:j.getD k default=y:=by rw[hj];exact gi A y default R hk.symm
   have hj':j=(A++[y])++R:=by rw[hj];simp
   refine⟨?_,fun s' e'=>?_⟩
   ·unfold fq;rw[g,zP];refine⟨fun hc=>?_,fun hc=>?_⟩
    ·rw[e];have hm:(j.filter fun x=>aV j x h)=s++y::(R.filter fun x=>aV j x h):=by
      have:(j.filter fun x=>aV j x h)=((A++y::R).filter fun x=>aV j x h):=by rw[←hj]
      rw[this,List.filter_append,List.filter_cons_of_pos (by exact hc),←hs]
     rw[hm];simp
    ·exact hc
   ·unfold dR at e';rw[g,zP]at e';refine ih (A++[y]) (k+1) s' hj' (by simp[hk]) ?_;cases hc:aV j y h with
    |true=>
     rw[hc]at e';simp only[cond_true,Sum.inr.injEq]at e';rw[List.filter_append,List.filter_cons_of_pos (by exact hc),←hs,←e'];rfl
    |false=>
     rw[hc]at e';simp only[cond_false,Sum.inr.injEq]at e';rw[List.filter_append,List.filter_cons_of_neg (by rw[hc];simp),←hs,←e'];simp
 intro _;refine⟨key j [] 0 [] rfl rfl rfl,fun s hs=>?_⟩;rw[tH j h j [] 0 [] rfl rfl]at hs;simp only[Sum.inr.injEq]at hs;rw[←hs,e];simp
structure Given (d:District)(j:List Judgement)(c:List Claim):Prop where
 js:∀ x∈j,JOk d x
 jl:j.length≤20
 cs:∀ x∈c,FineC d x
 st:c.Pairwise x8
 cl:c.length≤300
 rl:d.rights.length≤256
theorem Given.sub {d:District}{j:List Judgement}{c c':List Claim}(g:Given d j c)(h:c'.Sublist c):Given d j c':=
 ⟨g.js,g.jl,fun x hx=>g.cs x (h.subset hx),g.st.sublist h,Nat.le_trans h.length_le g.cl,g.rl⟩
def rho (d:District)(r:Int):Int:=(d.rights.getD r.toNat default).rank
def Fg:Int:=322122547200
theorem Oj {b:Int}(hb:0≤b):∀ {l:List Claim},(∀ y∈l,y.litres≤b)→∀ {n:Nat},l.length≤n→tot l≤n*b
 | [],_,n,_=>by
  have:=Int.mul_nonneg (show 0≤(n:Int) by omega) hb;simpa[tot]using this
 |x::l,h,n,hn=>by
  have h1:=h x (by simp);obtain⟨m,rfl⟩:∃ m,n=m+1:=⟨n - 1,by simp only[List.length_cons]at hn;omega⟩;have:=Oj hb (l:=l) (fun y hy=>h y (by simp[hy])) (n:=m) (by simp only[List.length_cons]at hn;omega);have e:((m+1:Nat):Int)*b=m*b+b:=Q1 m b;rw[tot,e];omega
theorem Ok {a b:Claim}(h:x8 a b)(e:a.hour=b.hour):tlt a b:=by
 unfold x8 sX at h;rcases h with h|h
 ·omega
 ·exact h.2
theorem Given.start {d:District}{j:List Judgement}{c:List Claim}(g:Given d j c){h:Int}(hh:∀ x∈c,x.hour=h):InvD (rho d) h d.rights.length d.farms.length Fg 300 c:=by
 refine⟨⟨?_,fun y hy=>(g.cs y hy).rank.symm,hh,fun y hy=>by have:=(g.cs y hy).l0;omega⟩,fun y hy=>?_,?_,g.cl⟩
 ·exact g.st.imp_of_mem fun {a b} ha hb hab=>Ok hab (by rw[hh a ha,hh b hb])
 ·have:=g.cs y hy;exact⟨⟨this.r0,this.r1⟩,this.f0,this.f1⟩
 ·have:=Oj (b:=1073741824) (by omega) (fun y hy=>(g.cs y hy).l1) g.cl;unfold Fg;omega
theorem Given.hour {d:District}{j:List Judgement}{c:List Claim}(g:Given d j c){h:Int}(hh:∀ x∈c,x.hour=h)(a2:List Judgement)(s_0:List Claim×List Claim):
  (okL (aU a2 s_0) (cd a2 s_0) (aD j h) c∧ny (aU a2 s_0) (aD j h) c=.inr (doH j h c))∧InvD (rho d) h d.rights.length d.farms.length Fg 5420 (doH j h c)∧
  (∀ nm:Int→Bool,(∀ x∈j,x.of_=0→nm x.farm=true∧(3≤x.kind→nm x.other=true))→(doH j h c).filter (fun y=>!nm y.farm)=c.filter fun y=>!nm y.farm)∧tot (doH j h c)≤tot c∧((∀ x∈j,x.of_=0→x.kind≠1∧x.kind≠2)→tot (doH j h c)=tot c):=by
 have hin:∀ x∈aD j h,x∈j∧x.of_=0:=fun x hx=>by
  rw[kF]at hx;have:=List.mem_filter.1 hx;exact⟨this.1,vj this.2⟩
 have hlen:(aD j h).length≤20:=by
  rw[kF];have:=List.length_filter_le (fun x=>aV j x h) j;have:=g.jl;omega
 obtain⟨q1,q2,q3,q4,q5⟩:=Ka a2 s_0 (by have:=g.rl;omega) rfl (by unfold Fg;omega) (aD j h) 300 c (fun x hx=>⟨g.js x (hin x hx).1,(hin x hx).2⟩) (g.start hh) (by omega);have e:doH j h c=(aD j h).foldl (fun s x=>doJ x s) c:=by rw[kF];rfl
 rw[e];refine⟨q1,⟨q2.d,q2.pl,q2.tt,?_⟩,fun nm hnm=>q3 nm fun x hx=>hnm x (hin x hx).1 (hin x hx).2,q4,fun hk=>q5 fun x hx=>hk x (hin x hx).1 (hin x hx).2⟩;have:=q2.len;omega
theorem Kb {q:Claim→Bool}:∀ {K:List Claim} {x:Claim} {R:List Claim},(∀ y∈K,q y=true)→q x=false→(K++x::R).takeWhile q=K∧(K++x::R).dropWhile q=x::R
 | [],x,R,_,hx=>by
  rw[List.nil_append,List.takeWhile_cons_of_neg (by rw[hx];simp),List.dropWhile_cons_of_neg (by rw[hx];simp)];exact⟨rfl,rfl⟩
 |y::K,x,R,h,hx=>by
  obtain⟨p1,p2⟩:=Kb (R:=R) (fun z hz=>h z (List.mem_cons_of_mem _ hz)) hx;rw[List.cons_append,List.takeWhile_cons_of_pos (h y (by simp)),List.dropWhile_cons_of_pos (h y (by simp)),p1,p2];exact⟨rfl,rfl⟩
theorem Hc {q:Claim→Bool}:∀ {K:List Claim},(∀ y∈K,q y=true)→K.takeWhile q=K∧K.dropWhile q=[]
 | [],_=>⟨rfl,rfl⟩
 |y::K,h=>by
  obtain⟨p1,p2⟩:=Hc fun z hz=>h z (List.mem_cons_of_mem _ hz);rw[List.takeWhile_cons_of_pos (h y (by simp)),List.dropWhile_cons_of_pos (h y (by simp)),p1,p2];exact⟨rfl,rfl⟩
theorem Yu (y:Claim)(r:List Claim):cA (y::r) (y::r)∧(bif(decide ((ah (y::r) (y::r)) <0))then((y::r).length:Int)else(ah (y::r) (y::r)))=((y::r.takeWhile fun z=>z.hour==y.hour).length:Int):=by
 refine⟨fun _=>lP _ _ _ fun k _ _ _=>⟨by omega,by simp only[List.length_cons];omega⟩,?_⟩;unfold ah;rcases yV (step:=cr (y::r) (y::r)) (y::r) default (fun z=>!(z.hour==y.hour)) (fun k _=>rfl)with⟨e,h⟩ | ⟨K,x,T,h1,e,h2,h3⟩
 ·rw[e];obtain⟨p1,_⟩:=Hc (q:=fun z=>z.hour==y.hour) (K:=r) fun z hz=>by have:=h z (by simp[hz]);simpa using this
  rw[p1];rfl
 ·rw[e];have hd:decide ((K.length:Int) <0)=false:=decide_eq_false (by omega);simp only[hd,cond_false];cases K with
  |nil=>
   simp only[List.nil_append,List.cons.injEq]at h1;rw[←h1.1]at h2;simp at h2
  |cons k K=>
   simp only[List.cons_append,List.cons.injEq]at h1;obtain⟨p1,_⟩:=Kb (q:=fun z=>z.hour==y.hour) (K:=K) (x:=x) (R:=T) (fun z hz=>by have:=h3 z (by simp[hz]);simpa using this) (by simpa using h2);rw[h1.2,p1];simp
theorem zR (q:Claim→Bool):∀ r:List Claim,r.take (r.takeWhile q).length=r.takeWhile q∧r.drop (r.takeWhile q).length=r.dropWhile q
 | [] =>⟨rfl,rfl⟩
 |x::r=>by
  obtain⟨p1,p2⟩:=zR q r;by_cases h:q x=true
  ·rw[List.takeWhile_cons_of_pos h,List.dropWhile_cons_of_pos h];rw[List.length_cons,List.take_succ_cons,List.drop_succ_cons,p1,p2];exact⟨rfl,rfl⟩
  ·rw[List.takeWhile_cons_of_neg h,List.dropWhile_cons_of_neg h];exact⟨rfl,rfl⟩
theorem D5 (q:Claim→Bool):∀ (r:List Claim),∀ x∈r.takeWhile q,q x=true
 | [],x,hx=>by cases hx
 |y::r,x,hx=>by
  by_cases h:q y=true
  ·rw[List.takeWhile_cons_of_pos h]at hx;rcases List.mem_cons.1 hx with rfl|hx
   ·exact h
   ·exact D5 q r x hx
  ·rw[List.takeWhile_cons_of_neg h]at hx;cases hx
section
variable {d:District}{j:List Judgement}
theorem Given.head {y:Claim}{r:List Claim}(g:Given d j (y::r)):Given d j (y::r.takeWhile fun z=>z.hour==y.hour)∧(∀ x∈(y::r.takeWhile fun z=>z.hour==y.hour),x.hour=y.hour)∧Given d j (r.dropWhile fun z=>z.hour==y.hour)∧(r.takeWhile fun z=>z.hour==y.hour).length+(r.dropWhile fun z=>z.hour==y.hour).length=r.length:=by
 refine⟨g.sub (List.Sublist.cons_cons _ (List.takeWhile_sublist _)),fun x hx=>?_,g.sub ((List.dropWhile_sublist _).trans (List.sublist_cons_self _ _)),?_⟩
 ·rcases List.mem_cons.1 hx with rfl|hx
  ·rfl
  ·simpa using D5 _ r x hx
 ·rw[←List.length_append,List.takeWhile_append_dropWhile]
theorem He (a1:List Claim):∀ (k i:Nat) (R acc:List Claim),R.length<k→Given d j R→acc.length+5420*R.length≤1626000→
  okI (co a1 j) (gh a1 j) k i (R,acc)∧aq (co a1 j) k i (R,acc)=.inl (acc++exS j k R)
 |0,_,_,_,hk,_,_=>absurd hk (Nat.not_lt_zero _)
 |k+1,i,[],acc,_,_,_=>by
  refine⟨⟨fun _ h=>?_,fun s' e=>?_⟩,?_⟩
  ·have:=of_decide_eq_true h;simp at this
  ·cases e
  ·simp[aq,co,exS]
 |k+1,i,y::r,acc,hk,g,hl=>by
  obtain⟨c1,c2⟩:=Yu y r;obtain⟨g1,g2,g3,g4⟩:=g.head;obtain⟨⟨q1,q2⟩,q3,_⟩:=g1.hour g2 j (y::r,acc);obtain⟨t1,t2⟩:=zR (fun z=>z.hour==y.hour) r;have hd:decide (((y::r).length:Int) > 0)=true:=decide_eq_true (by simp only[List.length_cons];omega);have e1:((y::r).take (Int.toNat (((y::r.takeWhile fun z=>z.hour==y.hour).length:Nat):Int))).drop 0=y::r.takeWhile fun z=>z.hour==y.hour:=by
   rw[Int.toNat_natCast,List.length_cons,List.take_succ_cons,t1];rfl
  have e2:((y::r).take (Int.toNat ((y::r).length:Int))).drop (Int.toNat (((y::r.takeWhile fun z=>z.hour==y.hour).length:Nat):Int))=r.dropWhile fun z=>z.hour==y.hour:=by
   rw[Int.toNat_natCast,Int.toNat_natCast,List.take_length,List.length_cons,List.drop_succ_cons,t2]
  have g0:(y::r).getD 0 default=y:=rfl;have hstep:co a1 j i (y::r,acc)=.inr (r.dropWhile (fun z=>z.hour==y.hour),acc++doH j y.hour (y::r.takeWhile fun z=>z.hour==y.hour)):=by
   simp only[co,hd,cond_true,c2,e1,e2,g0,q2]
  have hlen:=q3.len;have hcl:=g.cl;simp only[List.length_cons]at hk hl hcl;obtain⟨r1,r2⟩:=He a1 k (i+1) (r.dropWhile fun z=>z.hour==y.hour) (acc++doH j y.hour (y::r.takeWhile fun z=>z.hour==y.hour)) (by omega) g3 (by rw[List.length_append];omega);refine⟨⟨fun _ _=>?_,fun s' e=>?_⟩,?_⟩
  ·rw[c2,e1,g0];refine⟨c1,⟨by omega,by omega,by simp only[List.length_cons];omega⟩,?_,⟨by omega,by simp only[List.length_cons];omega⟩,LG j y.hour,q1,fun s_1 hs=>?_⟩
   ·simp only[List.length_cons];unfold cW;omega
   ·rw[q2]at hs;simp only[Sum.inr.injEq]at hs;subst hs;refine⟨by show(acc++doH j y.hour (y::r.takeWhile fun z=>z.hour==y.hour)).length*40≤cW;rw[List.length_append];unfold cW;omega,fun _=>⟨by omega,by simp only[List.length_cons];omega,by omega⟩⟩
  ·rw[hstep]at e;simp only[Sum.inr.injEq]at e;subst e;exact r1
  ·simp only[aq,hstep];rw[r2,exS,List.append_assoc]
theorem CD (g:∀ x∈j,JOk d x)(hr:d.rights.length≤256)(h:Int)(l0:List Claim):∀ (R A:List Judgement) (k N:Nat) (s:List Claim),j=A++R→A.length=k→InvD (rho d) h d.rights.length d.farms.length Fg N s→N+256*R.length≤8192→okI (lj j h) (vB j h) R.length k s
 | [],_,_,_,_,_,_,_,_=>trivial
 |y::R,A,k,N,s,hj,hk,i,hN=>by
  have gd:j.getD k default=y:=by rw[hj];exact gi A y default R hk.symm
  have hj':j=(A++[y])++R:=by rw[hj];simp
  simp only[List.length_cons]at hN;have hy:=g y (by rw[hj];simp);have hb:=i.lit;have hlen:=i.len;have hB:(0:Int)≤Fg∧Fg≤4398046511104:=by unfold Fg;omega
  have hL:Lit s:=fun y hy=>by have:=hb y hy;omega
  have hmB:s.length*40≤cW:=by unfold cW;omega
  have hp:=fun(h0:y.of_=0) =>i.step hy h0 (by omega) rfl hB (by omega) j (s,s);refine⟨fun _ hc=>?_,fun s' e=>?_⟩
  ·rw[gd]at hc ⊢;have h0:y.of_=0:=vj (by simpa using hc);have hn:0≤y.n∧y.n<4611686018427387904:=by
    by_cases hk1:y.kind=1
    ·rw[hy.none hk1];omega
    ·have:=hy.n hk1 h0;omega
   have kl:=(sF y s hn.1 hn.2 hL i.d.s hmB).1.2.2;refine⟨fun k1=>?_,fun _=>⟨fun _=>kl,fun _ k3=>?_⟩⟩
   ·have k1:y.kind=1:=by simpa using k1
    rw[hy.none k1]at kl;exact kl
   ·have k3:y.kind=3:=by simpa using k3
    exact(J8 y s (hy.other (by omega)).2.2 hB i.d hb (by omega) hn.1 hn.2).1.2.2
  ·rw[D3 j h y k s gd]at e;simp only[Sum.inr.injEq]at e;subst e;refine CD g hr h l0 R (A++[y]) (k+1) (N+256) _ hj' (by simp[hk]) ?_ (by omega);by_cases hc:aV j y h=true
   ·rw[if_pos hc];exact(hp (vj hc)).2.2
   ·rw[if_neg hc];exact⟨i.d,i.pl,i.tt,by omega⟩
theorem Fh (a1 acc A:List Claim)(y:Claim)(r:List Claim)(ha:a1=A++y::r)(hm:a1.length<1000):∀ (T K:List Claim) (n i:Nat),y::r=K++T→(∀ x∈K,x.hour=y.hour)→T.length<n→
  okI (cN a1 (acc,(A.length:Int))) (ot a1 (acc,(A.length:Int))) n i ((A.length+K.length:Nat):Int)∧aq (cN a1 (acc,(A.length:Int))) n i ((A.length+K.length:Nat):Int)=.inl ((A.length+(K++T.takeWhile fun z=>z.hour==y.hour).length:Nat):Int)
 |T,K,0,_,_,_,hn=>absurd hn (Nat.not_lt_zero _)
 |T,K,n+1,i,hT,hK,hn=>by
  have ga:a1.getD A.length default=y:=by rw[ha];exact gi A y default r rfl
  have hla:a1.length=A.length+(K.length+T.length):=by rw[ha,hT];simp
  have hpos:0< (K++T).length:=by rw[←hT];simp
  rw[List.length_append]at hpos;refine⟨⟨fun _=>⟨fun h=>?_,fun _=>⟨by omega,?_⟩⟩,fun s' e=>?_⟩,?_⟩
  ·have:=of_decide_eq_true h;exact⟨by omega,this⟩
  ·show(A.length:Int) <_;omega
  ·cases T with
   |nil=>
    have hd:decide (((A.length+K.length:Nat):Int) < (a1.length:Int))=false:=decide_eq_false (by simp only[List.length_nil]at hla;omega);simp only[cN,hd,Bool.false_and,cond_false]at e;cases e
   |cons x T=>
    have gx:a1.getD (A.length+K.length) default=x:=by
     rw[ha,hT,←List.append_assoc];exact gi (A++K) x default T (by simp)
    have hd:decide (((A.length+K.length:Nat):Int) < (a1.length:Int))=true:=decide_eq_true (by simp only[List.length_cons]at hla;omega);simp only[cN,hd,Bool.true_and,Int.toNat_natCast,gx,ga]at e;cases hx:x.hour==y.hour with
    |false=>rw[hx]at e;cases e
    |true=>
     rw[hx,fl (by omega) (by omega)]at e;simp only[cond_true,Sum.inr.injEq]at e;have:=Fh a1 acc A y r ha hm T (K++[x]) n (i+1) (by rw[hT];simp) (fun z hz=>by
      rcases List.mem_append.1 hz with hz|hz
      ·exact hK z hz
      ·rw[List.mem_singleton.1 hz];simpa using hx) (by simp only[List.length_cons]at hn;omega)
     rw[List.length_append,List.length_singleton]at this;rw[←e,show((A.length+K.length:Nat):Int)+1=((A.length+(K.length+1):Nat):Int) by omega];exact this.1
  ·cases T with
   |nil=>
    have hd:decide (((A.length+K.length:Nat):Int) < (a1.length:Int))=false:=decide_eq_false (by simp only[List.length_nil]at hla;omega);simp only[aq,cN,hd,Bool.false_and,cond_false];simp
   |cons x T=>
    have gx:a1.getD (A.length+K.length) default=x:=by
     rw[ha,hT,←List.append_assoc];exact gi (A++K) x default T (by simp)
    have hd:decide (((A.length+K.length:Nat):Int) < (a1.length:Int))=true:=decide_eq_true (by simp only[List.length_cons]at hla;omega);simp only[aq,cN,hd,Bool.true_and,Int.toNat_natCast,gx,ga];cases hx:x.hour==y.hour with
    |false=>
     simp only[cond_false];rw[List.takeWhile_cons_of_neg (by rw[hx];simp)];simp
    |true=>
     simp only[cond_true];rw[fl (by omega) (by omega)];have:=Fh a1 acc A y r ha hm T (K++[x]) n (i+1) (by rw[hT];simp) (fun z hz=>by
      rcases List.mem_append.1 hz with hz|hz
      ·exact hK z hz
      ·rw[List.mem_singleton.1 hz];simpa using hx) (by simp only[List.length_cons]at hn;omega)
     rw[List.length_append,List.length_singleton]at this;rw[show((A.length+K.length:Nat):Int)+1=((A.length+(K.length+1):Nat):Int) by omega];rw[this.2,List.takeWhile_cons_of_pos (by exact hx)];simp
theorem Kc (a1:List Claim)(hm:a1.length≤300):∀ (k i:Nat) (R A acc:List Claim),a1=A++R→R.length<k→Given d j R→acc.length+5420*R.length≤1626000→
  okI (d5 a1 j) (ou a1 j) k i (acc,(A.length:Int))∧aq (d5 a1 j) k i (acc,(A.length:Int))=.inl (acc++exS j k R)
 |0,_,_,_,_,_,hk,_,_=>absurd hk (Nat.not_lt_zero _)
 |k+1,i,[],A,acc,ha,_,_,_=>by
  have hd:decide ((A.length:Int) < (a1.length:Int))=false:=decide_eq_false (by rw[ha];simp);refine⟨⟨fun _ h=>?_,fun s' e=>?_⟩,?_⟩
  ·rw[hd]at h;cases h
  ·simp only[d5,hd,cond_false]at e;cases e
  ·simp only[aq,d5,hd,cond_false,exS];simp
 |k+1,i,y::r,A,acc,ha,hk,g,hl=>by
  obtain⟨g1,g2,g3,g4⟩:=g.head;obtain⟨⟨q1,q2⟩,q3,_⟩:=g1.hour g2 j (y::r,acc);have hla:a1.length=A.length+(r.length+1):=by rw[ha];simp
  have hd:decide ((A.length:Int) < (a1.length:Int))=true:=decide_eq_true (by omega);have hc:=Fh a1 acc A y r ha (by omega) (y::r) [] (a1.length+1) 0 rfl (fun x hx=>by cases hx) (by simp only[List.length_cons];omega);rw[List.nil_append,List.takeWhile_cons_of_pos (by simp)]at hc;have c1:okI (cN a1 (acc,(A.length:Int))) (ot a1 (acc,(A.length:Int))) (a1.length+1) 0 (A.length:Int):=hc.1;have c2:aq (cN a1 (acc,(A.length:Int))) (a1.length+1) 0 (A.length:Int)=.inl ((A.length+(y::r.takeWhile fun z=>z.hour==y.hour).length:Nat):Int):=hc.2;obtain⟨t1,t2⟩:=zR (fun z=>z.hour==y.hour) r;have e1:(a1.take (Int.toNat ((A.length+(y::r.takeWhile fun z=>z.hour==y.hour).length:Nat):Int))).drop (Int.toNat (A.length:Int))=y::r.takeWhile fun z=>z.hour==y.hour:=by
   rw[Int.toNat_natCast,Int.toNat_natCast,ha,List.take_length_add_append,List.drop_left,List.length_cons,List.take_succ_cons,t1]
  have ga:a1.getD (Int.toNat (A.length:Int)) default=y:=by rw[Int.toNat_natCast,ha];exact gi A y default r rfl
  have hh:qg (y::r.takeWhile fun z=>z.hour==y.hour) j y.hour=doH j y.hour (y::r.takeWhile fun z=>z.hour==y.hour):=by
   rw[Q2,kF];rfl
  have hstep:d5 a1 j i (acc,(A.length:Int))=.inr (acc++doH j y.hour (y::r.takeWhile fun z=>z.hour==y.hour),((A.length+(y::r.takeWhile fun z=>z.hour==y.hour).length:Nat):Int)):=by
   unfold d5;simp only[hd,cond_true];rw[c2];simp only[e1,ga,hh]
  have hlen:=q3.len;have hcl:=g.cl;simp only[List.length_cons]at hk hl hcl;have ha2:a1=(A++y::r.takeWhile fun z=>z.hour==y.hour)++r.dropWhile fun z=>z.hour==y.hour:=by
   rw[ha,List.append_assoc,List.cons_append,List.takeWhile_append_dropWhile]
  obtain⟨r1,r2⟩:=Kc a1 hm k (i+1) (r.dropWhile fun z=>z.hour==y.hour) (A++y::r.takeWhile fun z=>z.hour==y.hour) (acc++doH j y.hour (y::r.takeWhile fun z=>z.hour==y.hour)) ha2 (by omega) g3 (by rw[List.length_append];omega);rw[List.length_append]at r1 r2;refine⟨⟨fun _ _=>⟨c1,fun z hz=>?_,fun x hx=>?_⟩,fun s' e=>?_⟩,?_⟩
  ·have hz:aq (cN a1 (acc,(A.length:Int))) (a1.length+1) 0 (A.length:Int)=.inr z:=hz;rw[c2]at hz;cases hz
  ·have hx:aq (cN a1 (acc,(A.length:Int))) (a1.length+1) 0 (A.length:Int)=.inl x:=hx;rw[c2]at hx;simp only[Sum.inl.injEq]at hx;subst hx;show(0≤(A.length:Int)∧(A.length:Int)≤_∧_)∧(0≤(A.length:Int)∧(A.length:Int) <_)∧yQ ((a1.take (Int.toNat _)).drop (Int.toNat (A.length:Int))) j (a1.getD (Int.toNat (A.length:Int)) default).hour∧(acc++qg ((a1.take (Int.toNat _)).drop (Int.toNat (A.length:Int))) j (a1.getD (Int.toNat (A.length:Int)) default).hour).length*40≤cW;rw[e1,ga];have hlj:=g.jl;refine⟨⟨by omega,by omega,?_⟩,⟨by omega,by omega⟩,?_,?_⟩
   ·simp only[List.length_cons];omega
   ·exact CD g.js g.rl y.hour [] j [] 0 300 _ rfl rfl (g1.start g2) (by omega)
   ·rw[hh,List.length_append];unfold cW;omega
  ·rw[hstep]at e;simp only[Sum.inr.injEq]at e;subst e;exact r1
  ·simp only[aq,hstep];rw[r2,exS,List.append_assoc]
end
def cV (n:Int)(most:Int):Bool:=((decide (n≥0))&&(decide (n≤most)))
@[go_sem] def nD:List SV→Option Con:=(pI fun n=>(pI fun most=>(pE (.det True (.v (.bool (cV n most)))))))
theorem qU:FnOk Tryz.prog 129 nD:=by
 have hG:ConsOk Tryz.prog (mkG [] []):=ap cg0 cg0;refine aw [.o] mixed al hG (fn:=Tryz.f129) (c:=ae Tryz.f129) kr kr kr kr (dh fun n=>(dh fun most=>(ai (fun hp=>?_))));dsimp only[ar]at hp;refine⟨nbl rfl,L0,ag _,?_⟩
 ·unfold ae Tryz.f129;try unfold cV
  exact zq1
def ff (s_:Int)(t:Int):Bool:=((yi .u64 s_ t) ==0)
@[go_sem] def nE:List SV→Option Con:=(pU fun s_=>(pU fun t=>(pE (.det True (.v (.bool (ff s_ t)))))))
theorem qV:FnOk Tryz.prog 81 nE:=by
 have hG:ConsOk Tryz.prog (mkG [] []):=ap cg0 cg0;refine aw [.o] mixed al hG (fn:=Tryz.f81) (c:=ae Tryz.f81) kr kr kr kr (Iw fun s_=>(Iw fun t=>(ai (fun hp=>?_))));dsimp only[ar]at hp;refine⟨nbl rfl,L0,ag _,?_⟩
 ·unfold ae Tryz.f81;try unfold ff
  exact zq1
@[go_sem] def qk (l_:List Int)(many:Int)(k_0:Nat)(s_0:Int×Int):Unit⊕(Int×Int):=(bif((decide ((l_.getD k_0 0)≤s_0.2)) ||(decide ((l_.getD k_0 0)≥many)))then .inl ()else .inr ((orI .u64 s_0.1 (OW .u64 1 (l_.getD k_0 0))),(l_.getD k_0 0)))
def iG (l_:List Int)(many:Int)(k_0:Nat)(s_0:Int×Int):Prop:=(((decide ((l_.getD k_0 0)≤s_0.2)) ||(decide ((l_.getD k_0 0)≥many)))=false→0≤(l_.getD k_0 0))
def iw (l_:List Int)(many:Int):Int×Bool:=(match aq (qk l_ many) l_.length 0 (0,(-1))with| .inl x_0_0=>(0,false) | .inr s_0=>(s_0.1,true))
def hM (l_:List Int)(many:Int):Prop:=(l_.length≤aH→okI (qk l_ many) (iG l_ many) l_.length 0 (0,(-1)))
@[go_sem] def rD:List SV→Option Con:=(pR .int fun l_=>(pI fun many=>(pE (.det (hM l_ many) (.tup [.v (.int .u64 ((iw l_ many).1)),.v (.bool ((iw l_ many).2))])))))
theorem uC:FnOk Tryz.prog 130 rD:=by
 have hG:ConsOk Tryz.prog (mkG [] []):=ap cg0 cg0;refine aw [.o,.o] mixed al hG (fn:=Tryz.f130) (c:=ae Tryz.f130) kr kr kr kr (bJ fun l_=>(dh fun many=>(ai (fun hp=>?_))));dsimp only[ar]at hp;unfold hM at hp;refine⟨nbl rfl,(fun id st=>bif Nat.beq id 0 then some (LCR (ρ:=Unit) (σ:=(Int×Int)) 0 [] [] (fun k_0 s_0=>⟨[(1,.v (.int .i64 many)),(4,.v (.int .u64 s_0.1)),(6,.v (.int .i64 s_0.2)),(9,.rs .int l_),(10,.v (.int .i64 (l_.length:Int))),(11,.v (.int .i64 (k_0:Int)))],[]⟩) (qk l_ many) (iG l_ many) l_.length (0,(-1)) (l_.length≤aH) (fun _=>.ret) (fun x_0_0=>⟨[(4,.v (.int .u64 0)),(5,.v (.bool false))],[]⟩) st)else none),?_,?_⟩
 ·unfold ae Tryz.f130;simp only[am,true_and,and_true]
  ·refine aY mixed al hG kr (fun _=>rfl) (l_.length:Int) rfl ig (fun hb0 k_0 s_0 hlt0 hq0 hw hc=>⟨L0,ag _,?_⟩) (fun hb0 s_0 hc=>?_)
   ·unfold iG at hq0;try simp only[hw,Int.toNat_natCast]at hq0
    exact bX (jl [])
   ·exact bP (jl [])
 ·unfold ae Tryz.f130;try unfold iw
  exact zq1
end Go.Sx
end
section
namespace Go.Sx
@[go_sem] theorem LH {ts:Tis}{G:Cons}{L:ue}{t:List (Nat×SV)}{h:List Ob}{Q:Ex→St→Prop}{id j:Nat}{c:Code}:exec ts G L (.block id (.block j c)) ⟨t,h⟩ Q=exec ts G L (.block j c) ⟨t,h⟩ (Ex.block id Q):=(rfl)
def pXU {α:Type 1}(k:Int→List SV→Option α):List SV→Option α
 | .ep [.v (.int .u64 n)] 0::r=>k n r
 |_=>none
@[go_sem] theorem abl {α:Type 1}{k:Int→List SV→Option α}{n:Int}{r:List SV}:pXU k (.ep [.v (.int .u64 n)] 0::r)=k n r:=(rfl)
theorem Ke {α:Type 1}{G:List SV→α→Prop}{k:Int→List SV→Option α}(h:∀ n l c,k n l=some c→G (.ep [.v (.int .u64 n)] 0::l) c):∀ l c,pXU k l=some c→G l c:=by
 intro l c hc;unfold pXU at hc;split at hc
 ·exact h _ _ _ hc
 ·cases hc
end Go.Sx
end
