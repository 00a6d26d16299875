/- Part of the proof that the law JudgementClash returns true and leaves its arguments as they were, for all arguments of bulk at most 1048576 (the Upto form). -/
import Derived.Test.YtnanafpgfihjfaaGreatJ513
set_option linter.all false
set_option maxHeartbeats 4000000
set_option maxRecDepth 100000
section
namespace Go.Sx
open Go.Proofs
open IntKind (i64)
def doJ (x:Judgement)(l:List Claim):List Claim:=if x.kind=1 then fI l x.farm 0 else if x.kind=2 then fI l x.farm x.n else if x.kind=3 then jR l x.farm x.other x.n else l
section
variable {ρ:Int->Int}{h b0:Int}
theorem Dock.tidy_id {l:List Claim}(d:Dock ρ h l)(hl:l.length<2 ^ 46):cJ l/\du l=l:=by
 have e:(l.filter fun x=>!ap x)=l:=List.filter_eq_self.2 fun y hy=>by
  have:=d.pos y hy;unfold ap;simp;omega
 exact Gd hl (by rw[e]) d.s
theorem zR (f:Int):∀ (l:List Claim) (n:Int),∀ z∈oB f n l,∃ y∈l,z.rank=y.rank/\z.right=y.right/\z.hour=y.hour
 | [],_,z,hz=>by cases hz
 |x::r,n,z,hz=>by
  unfold oB at hz;by_cases hf:x.farm=f
  ·rw[if_pos hf]at hz;rcases List.mem_cons.1 hz with rfl|hz
   ·exact⟨x,by simp,rfl,rfl,rfl⟩
   ·obtain⟨y,hy,e⟩:=zR f r _ z hz;exact⟨y,by simp[hy],e⟩
  ·rw[if_neg hf]at hz;rcases List.mem_cons.1 hz with rfl|hz
   ·exact⟨z,by simp,rfl,rfl,rfl⟩
   ·obtain⟨y,hy,e⟩:=zR f r _ z hz;exact⟨y,by simp[hy],e⟩
theorem Dz {x:Judgement}{l:List Claim}(d:Dock ρ h l)(h0:0<=x.n)(h1:x.n<4611686018427387904)(hl:Lit l)(hb:l.length*40<=c6):Dock ρ h (fI l x.farm x.n):=by
 obtain⟨_,_,e⟩:=vg x l h0 h1 hl d.s hb;have hs:((oB x.farm x.n l).filter fun y=>!ap y).Sublist (oB x.farm x.n l):=List.filter_sublist;have hL:=zN x.farm l x.n h0 hl;rw[e];refine⟨(Ii (zO x.farm l x.n) d.s).sublist hs,fun z hz=>?_,fun z hz=>?_,fun z hz=>?_⟩
 ·obtain⟨y,hy,e1,e2,_⟩:=zR x.farm l x.n z (hs.subset hz);rw[e1,e2];exact d.rk y hy
 ·obtain⟨y,hy,_,_,e3⟩:=zR x.farm l x.n z (hs.subset hz);rw[e3];exact d.hr y hy
 ·have h2:=hL.1 z (hs.subset hz);have h3:=(List.mem_filter.1 hz).2;have h4:z.litres≠0:=fun e=>by unfold ap at h3;rw[e]at h3;cases h3
  omega
theorem MQ {dd:District}{x:Judgement}(hx:JOk dd x)(h0:x.of_=0){l:List Claim}(hb0:0<=b0/\b0<=4398046511104)(d:Dock ρ h l)(hb:ol b0 l)(hl:l.length<=8192)(a2:List Judgement)(s_0:List Claim×List Claim):
  aY a2 s_0 x l=.inr (doJ x l)/\ct a2 s_0 x l/\Dock ρ h (doJ x l):=by
 have hL:Lit l:=fun y hy=>by have:=hb y hy;omega
 have hmB:l.length*40<=c6:=by unfold c6;omega
 have hk:=hx.kind h0;have hn:0<=x.n/\x.n<4611686018427387904:=by
  by_cases hk1:x.kind=1
  ·rw[hx.none hk1];omega
  ·have:=hx.n hk1 h0;omega
 unfold aY ct doJ;by_cases k1:x.kind=1
 ·obtain⟨⟨p1,p2,p3⟩,e1,_⟩:=vg x l hn.1 hn.2 hL d.s hmB;have d1:=Dz d hn.1 hn.2 hL hmB;rw[show(x.kind==1)=true by simpa using k1,if_pos k1,e1];rw[hx.none k1]at d1 |-;exact⟨rfl,⟨fun _=>⟨p1,p2⟩,(fun h=>by cases h)⟩,d1⟩
 ·rw[show(x.kind==1)=false by simpa using k1,if_neg k1];by_cases k2:x.kind=2
  ·obtain⟨⟨p1,p2,p3⟩,e1,_⟩:=vg x l hn.1 hn.2 hL d.s hmB;rw[show(x.kind==2)=true by simpa using k2,if_pos k2,e1];exact⟨rfl,⟨(fun h=>by cases h),fun _=>⟨fun _=>⟨p1,p2⟩,(fun h=>by cases h)⟩⟩,Dz d hn.1 hn.2 hL hmB⟩
  ·rw[show(x.kind==2)=false by simpa using k2,if_neg k2];by_cases k3:x.kind=3
   ·obtain⟨⟨p1,p2,p3⟩,e1,d1⟩:=Lt x l (hx.other (by omega)).2.2 hb0 d hb hl hn.1 hn.2;rw[show(x.kind==3)=true by simpa using k3,if_pos k3,e1];exact⟨rfl,⟨(fun h=>by cases h),fun _=>⟨(fun h=>by cases h),fun _=>⟨fun _=>⟨p1,p2⟩,(fun h=>by cases h)⟩⟩⟩,d1⟩
   ·have k4:x.kind=4:=by omega
    obtain⟨t1,t2⟩:=d.tidy_id (by omega);rw[show(x.kind==3)=false by simpa using k3,if_neg k3,show(x.kind==4)=true by simpa using k4,t2];exact⟨rfl,⟨(fun h=>by cases h),fun _=>⟨(fun h=>by cases h),fun _=>⟨(fun h=>by cases h),fun _=>⟨fun _=>t1,(fun h=>by cases h)⟩⟩⟩⟩,d⟩
end
theorem AL (j:List Judgement)(x:Judgement)(h:Int):((((x.of_==0)&&(decide (x.hour<=h)))&&(aG h x.since x.to))&&(!(gZ j x h)))=br j x h:=by
 unfold br;rw[O1,OZ];cases(x.of_==0) <;>cases decide (x.hour<=h) <;>cases decide (x.since<=h) <;>cases decide (h<=x.to) <;>rfl
theorem uc (j:List Judgement)(h:Int):∀ (R A:List Judgement) (k:Nat) (s:List Judgement),j=A++R->A.length=k->an (ew j h) R.length k s=.inr (s++R.filter fun x=>br j x h)
 | [],A,k,s,_,_=>by simp[an]
 |y::R,A,k,s,hj,hk=>by
  have g:j.getD k default=y:=by rw[hj];exact fK A y default R hk.symm
  simp only[List.length_cons,an,ew,g,AL];have hj':j=(A++[y])++R:=by rw[hj];simp
  cases hc:br j y h with
  |true=>
   simp only[cond_true];rw[uc j h R (A++[y]) (k+1) _ hj' (by simp[hk]),List.filter_cons_of_pos (by exact hc)];simp
  |false=>
   simp only[cond_false];rw[uc j h R (A++[y]) (k+1) _ hj' (by simp[hk]),List.filter_cons_of_neg (by rw[hc];simp)]
theorem qK (j:List Judgement)(h:Int):aX j h=j.filter fun x=>br j x h:=by
 unfold aX;rw[uc j h j [] 0 [] rfl rfl];rfl
theorem yQ {j:List Judgement}{x:Judgement}{h:Int}(hx:br j x h=true):x.of_=0:=by
 unfold br at hx;simp only[Bool.and_eq_true]at hx;simpa using hx.1.1.1.1
theorem E3 (j:List Judgement)(h:Int)(x:Judgement)(k:Nat)(s:List Claim)(g:j.getD k default=x):lR j h k s=.inr (if br j x h=true then doJ x s else s):=by
 unfold lR doJ;rw[g];cases hc:br j x h with
 |false=>rfl
 |true=>
  simp only[Bool.not_true,cond_false,if_true];by_cases k1:x.kind=1
  ·rw[show(x.kind==1)=true by simpa using k1,if_pos k1];rfl
  ·rw[show(x.kind==1)=false by simpa using k1,if_neg k1];by_cases k2:x.kind=2
   ·rw[show(x.kind==2)=true by simpa using k2,if_pos k2];rfl
   ·rw[show(x.kind==2)=false by simpa using k2,if_neg k2];by_cases k3:x.kind=3
    ·rw[show(x.kind==3)=true by simpa using k3,if_pos k3];rfl
    ·rw[show(x.kind==3)=false by simpa using k3,if_neg k3];rfl
theorem Io (j:List Judgement)(h:Int):∀ (R A:List Judgement) (k:Nat) (s:List Claim),j=A++R->A.length=k->an (lR j h) R.length k s=.inr ((R.filter fun x=>br j x h).foldl (fun s x=>doJ x s) s)
 | [],A,k,s,_,_=>by simp[an]
 |y::R,A,k,s,hj,hk=>by
  have g:j.getD k default=y:=by rw[hj];exact fK A y default R hk.symm
  have hj':j=(A++[y])++R:=by rw[hj];simp
  simp only[List.length_cons,an,E3 j h y k s g];rw[Io j h R (A++[y]) (k+1) _ hj' (by simp[hk])];cases hc:br j y h with
  |true=>rw[List.filter_cons_of_pos (by exact hc)];rfl
  |false=>rw[List.filter_cons_of_neg (by rw[hc];simp)];rfl
theorem Sk (l:List Claim)(j:List Judgement)(h:Int):qy l j h=(aX j h).foldl (fun s x=>doJ x s) l:=by
 unfold qy;rw[Io j h j [] 0 l rfl rfl,qK]
def tot:List Claim->Int
 | [] =>0
 |x::l=>x.litres+tot l
theorem BP:∀ l m:List Claim,tot (l++m)=tot l+tot m
 | [],m=>by simp[tot]
 |x::l,m=>by rw[List.cons_append,tot,tot,BP l m];omega
theorem vZ:∀ l:List Claim,tot (l.filter fun x=>!ap x)=tot l
 | [] =>rfl
 |x::l=>by
  by_cases hx:x.litres=0
  ·rw[List.filter_cons_of_neg (by unfold ap;simp[hx]),vZ l,tot,hx];omega
  ·rw[List.filter_cons_of_pos (by unfold ap;simp[hx]),tot,tot,vZ l]
theorem PJ:∀ {l:List Claim},(∀ y∈l,0<=y.litres)->0<=tot l
 | [],_=>by simp[tot]
 |x::l,h=>by have:=h x (by simp);have:=PJ fun y hy=>h y (List.mem_cons_of_mem _ hy);rw[tot];omega
theorem PK:∀ {l:List Claim},(∀ y∈l,0<=y.litres)->∀ y∈l,y.litres<=tot l
 | [],_,y,hy=>by cases hy
 |x::l,h,y,hy=>by
  have hx:=h x (by simp);have hl:∀ y∈l,0<=y.litres:=fun y hy=>h y (List.mem_cons_of_mem _ hy);rw[tot];rcases List.mem_cons.1 hy with rfl|hy
  ·have:=PJ hl;omega
  ·have:=PK hl y hy;omega
theorem Ip (x:Claim):∀ l:List Claim,tot (rH x l)=tot l+x.litres
 | [] =>by simp[rH,tot]
 |y::r=>by
  rw[rH];split
  ·simp only[tot];omega
  ·simp only[tot,mD];omega
theorem zS (x:Claim):∀ l:List Claim,tot (ik l x)=tot l+x.litres
 | [] =>Ip x []
 |y::l=>by
  rw[tx];split
  ·rw[tot,zS x l,tot];omega
  ·exact Ip x (y::l)
theorem Iq {x z:Claim}:∀ {l:List Claim},z∈rH x l->(z.right=x.right/\z.farm=x.farm)\/z∈l
 | [],h=>by
  have:z=x:=by simpa[rH]using h
  subst this;exact .inl ⟨rfl,rfl⟩
 |y::r,h=>by
  rw[rH]at h;split at h
  ·rcases List.mem_cons.1 h with rfl|h
   ·exact .inl ⟨rfl,rfl⟩
   ·exact .inr h
  ·rcases List.mem_cons.1 h with rfl|h
   ·exact .inl ⟨rfl,rfl⟩
   ·exact .inr (List.mem_cons_of_mem _ h)
theorem DA {x z:Claim}:∀ {l:List Claim},z∈ik l x->(z.right=x.right/\z.farm=x.farm)\/z∈l
 | [],h=>Iq (l:=[]) h
 |y::l,h=>by
  rw[tx]at h;split at h
  ·rcases List.mem_cons.1 h with rfl|h
   ·exact .inr (by simp)
   ·rcases DA h with h|h
    ·exact .inl h
    ·exact .inr (List.mem_cons_of_mem _ h)
  ·exact Iq h
theorem Ir (x:Claim):∀ l:List Claim,(rH x l).length<=l.length+1
 | [] =>by simp[rH]
 |y::r=>by rw[rH];split <;>simp
theorem zT (x:Claim):∀ l:List Claim,(ik l x).length<=l.length+1
 | [] =>Ir x []
 |y::l=>by
  rw[tx];split
  ·have:=zT x l;simp only[List.length_cons];omega
  ·exact Ir x (y::l)
def PlC (R F:Int)(y:Claim):Prop:=(0<=y.right/\y.right<R)/\0<=y.farm/\y.farm<F
theorem BQ {f o R F:Int}(ho:0<=o/\o<F):∀ (S:List Claim) (n:Int) (K G:List Claim),0<=n->(∀ y∈S,0<=y.litres/\PlC R F y)->(∀ y∈K,PlC R F y)->(∀ y∈G,PlC R F y)->
  tot (gv f o S n K G).1+tot (gv f o S n K G).2=tot K+tot S+tot G/\(∀ y∈(gv f o S n K G).1,PlC R F y)/\(∀ y∈(gv f o S n K G).2,PlC R F y)/\
  (gv f o S n K G).1.length<=K.length+S.length/\(gv f o S n K G).2.length<=G.length+(S.filter fun y=>y.farm==f).length
 | [],n,K,G,_,_,hK,hG=>by
  simp only[gv,tot];exact⟨by omega,hK,hG,by simp,by simp⟩
 |y::S,n,K,G,h0,hS,hK,hG=>by
  have hy:=hS y (by simp);have hS':∀ z∈S,0<=z.litres/\PlC R F z:=fun z hz=>hS z (by simp[hz]);have hm:=p_ (a:=n) (b:=y.litres);have hm0:0<=bN n y.litres:=by omega
  have hput:∀ z:Claim,PlC R F z->∀ w∈ik K z,PlC R F w:=fun z hz w hw=>by
   rcases DA hw with⟨e1,e2⟩ |hw
   ·unfold PlC;rw[e1,e2];exact hz
   ·exact hK w hw
  by_cases hf:y.farm=f
  ·rw[gv,if_pos hf,List.filter_cons_of_pos (by simpa using hf)];have k1:tot (if y.litres - bN n y.litres > 0 then ik K (mD y (y.litres - bN n y.litres))else K)=tot K+(y.litres - bN n y.litres)/\(∀ z∈(if y.litres - bN n y.litres > 0 then ik K (mD y (y.litres - bN n y.litres))else K),PlC R F z)/\(if y.litres - bN n y.litres > 0 then ik K (mD y (y.litres - bN n y.litres))else K).length<=K.length+1:=by
    by_cases hr:y.litres - bN n y.litres > 0
    ·rw[if_pos hr];exact⟨zS _ _,hput _ hy.2,zT _ _⟩
    ·rw[if_neg hr];exact⟨by omega,hK,by omega⟩
   have k2:tot (if bN n y.litres > 0 then G++[zQ y o (bN n y.litres)]else G)=tot G+bN n y.litres/\(∀ z∈(if bN n y.litres > 0 then G++[zQ y o (bN n y.litres)]else G),PlC R F z)/\(if bN n y.litres > 0 then G++[zQ y o (bN n y.litres)]else G).length<=G.length+1:=by
    by_cases hr:bN n y.litres > 0
    ·rw[if_pos hr];refine⟨by rw[BP];simp[tot,zQ],fun z hz=>?_,by simp⟩;rcases List.mem_append.1 hz with hz|hz
     ·exact hG z hz
     ·rw[List.mem_singleton.1 hz];exact⟨hy.2.1,ho⟩
    ·rw[if_neg hr];exact⟨by omega,hG,by omega⟩
   obtain⟨q1,q2,q3,q4,q5⟩:=BQ ho S (n - bN n y.litres) _ _ (by omega) hS' k1.2.1 k2.2.1;refine⟨?_,q2,q3,?_,?_⟩
   ·rw[q1,k1.1,k2.1,tot];omega
   ·have:=k1.2.2;simp only[List.length_cons];omega
   ·have:=k2.2.2;simp only[List.length_cons];omega
  ·rw[gv,if_neg hf,List.filter_cons_of_neg (by simpa using hf)];have k1:tot (if y.litres > 0 then ik K y else K)=tot K+y.litres/\(∀ z∈(if y.litres > 0 then ik K y else K),PlC R F z)/\(if y.litres > 0 then ik K y else K).length<=K.length+1:=by
    by_cases hr:y.litres > 0
    ·rw[if_pos hr];exact⟨zS _ _,hput _ hy.2,zT _ _⟩
    ·rw[if_neg hr];exact⟨by omega,hK,by omega⟩
   obtain⟨q1,q2,q3,q4,q5⟩:=BQ ho S n _ G h0 hS' k1.2.1 hG;refine⟨?_,q2,q3,?_,q5⟩
   ·rw[q1,k1.1,tot];omega
   ·have:=k1.2.2;simp only[List.length_cons];omega
theorem AM {R F:Int}:∀ (G K:List Claim),(∀ y∈K,PlC R F y)->(∀ y∈G,PlC R F y)->tot (G.foldl ik K)=tot K+tot G/\(∀ y∈G.foldl ik K,PlC R F y)/\(G.foldl ik K).length<=K.length+G.length
 | [],K,hK,_=>⟨by simp[tot],hK,by simp⟩
 |x::G,K,hK,hG=>by
  obtain⟨p1,p2,p3⟩:=AM G (ik K x) (fun w hw=>by
   rcases DA hw with⟨e1,e2⟩ |hw
   ·unfold PlC;rw[e1,e2];exact hG x (by simp)
   ·exact hK w hw) fun y hy=>hG y (by simp[hy])
  rw[List.foldl_cons];refine⟨?_,p2,?_⟩
  ·rw[p1,zS,tot];omega
  ·have:=zT x K;simp only[List.length_cons];omega
theorem xI (f:Int){R F:Int}:∀ (l:List Claim) (n:Int),0<=n->(∀ y∈l,0<=y.litres/\PlC R F y)->tot (oB f n l)<=tot l/\(∀ y∈oB f n l,PlC R F y)/\(oB f n l).length=l.length
 | [],n,_,_=>⟨by simp[oB],(fun y hy=>by simp[oB]at hy),rfl⟩
 |x::r,n,h0,hl=>by
  have hx:=hl x (by simp);have hm:=p_ (a:=n) (b:=x.litres);have hl':∀ y∈r,0<=y.litres/\PlC R F y:=fun y hy=>hl y (by simp[hy]);unfold oB;by_cases hf:x.farm=f
  ·rw[if_pos hf];obtain⟨p1,p2,p3⟩:=xI f r (n - bN n x.litres) (by omega) hl';refine⟨?_,fun y hy=>?_,by simp[p3]⟩
   ·simp only[tot,mD];omega
   ·rcases List.mem_cons.1 hy with rfl|hy
    ·exact hx.2
    ·exact p2 y hy
  ·rw[if_neg hf];obtain⟨p1,p2,p3⟩:=xI f r n h0 hl';refine⟨?_,fun y hy=>?_,by simp[p3]⟩
   ·simp only[tot];omega
   ·rcases List.mem_cons.1 hy with rfl|hy
    ·exact hx.2
    ·exact p2 y hy
theorem Bb:∀ (N:Nat) (l:List Nat),l.Nodup->(∀ x∈l,x<N)->l.length<=N
 |0,[],_,_=>by simp
 |0,x::l,_,h=>absurd (h x (by simp)) (Nat.not_lt_zero _)
 |N+1,l,hn,h=>by
  have h2:=Bb N (l.erase N) (hn.erase N) fun x hx=>by
   have:=hn.mem_erase_iff.1 hx;have:=h x this.2;omega
  by_cases hm:N∈l
  ·rw[List.length_erase_of_mem hm]at h2;omega
  ·rw[List.erase_of_not_mem hm]at h2;omega
section
variable {ρ:Int->Int}{h:Int}
structure InvD (ρ:Int->Int)(h R F B:Int)(N:Nat)(l:List Claim):Prop where
 d:Dock ρ h l
 pl:∀ y∈l,PlC R F y
 tt:tot l<=B
 len:l.length<=N
variable {R F B:Int}{N:Nat}
theorem InvD.lit {l:List Claim}(i:InvD ρ h R F B N l):ol B l:=fun y hy=>by
 have h1:=i.d.pos y hy;have h2:=PK (fun z hz=>by have:=i.d.pos z hz;omega) y hy;have h3:=i.tt;omega
theorem InvD.few {l:List Claim}(i:InvD ρ h R F B N l)(hR:R<=256)(f:Int):(l.filter fun y=>y.farm==f).length<=256:=by
 have hd:Im l:=(i.d.pile i.lit).d;have h1:((l.filter fun y=>y.farm==f).map fun y=>y.right.toNat).Nodup:=by
  refine List.pairwise_map.2 ((List.Pairwise.sublist List.filter_sublist hd).imp_of_mem fun {a b} ha hb hab=>?_);have a1:=List.mem_filter.1 ha;have b1:=List.mem_filter.1 hb;have a2:a.farm=f:=by simpa using a1.2
  have b2:b.farm=f:=by simpa using b1.2
  have a3:=(i.pl a a1.1).1;have b3:=(i.pl b b1.1).1;intro e;exact hab ⟨by omega,by rw[a2,b2]⟩
 have h2:=Bb 256 _ h1 fun x hx=>by
  obtain⟨y,hy,rfl⟩:=List.mem_map.1 hx;have:=(i.pl y (List.mem_filter.1 hy).1).1;omega
 simpa using h2
theorem InvD.step {dd:District}{x:Judgement}(hx:JOk dd x)(h0:x.of_=0){l:List Claim}(i:InvD ρ h R F B N l)(hR:R<=256)(hF:(dd.farms.length:Int)=F)(hB:0<=B/\B<=4398046511104)(hN:N<=8192)(a2:List Judgement)(s_0:List Claim×List Claim):
  aY a2 s_0 x l=.inr (doJ x l)/\ct a2 s_0 x l/\InvD ρ h R F B (N+256) (doJ x l):=by
 have hlen:=i.len;obtain⟨e1,e2,e3⟩:=MQ hx h0 hB i.d i.lit (by omega) a2 s_0;have hb:=i.lit;have hL:Lit l:=fun y hy=>by have:=hb y hy;omega
 have hmB:l.length*40<=c6:=by unfold c6;omega
 have hp:∀ y∈l,0<=y.litres/\PlC R F y:=fun y hy=>⟨(hb y hy).1,i.pl y hy⟩;have hk:=hx.kind h0;have hn:0<=x.n/\x.n<4611686018427387904:=by
  by_cases hk1:x.kind=1
  ·rw[hx.none hk1];omega
  ·have:=hx.n hk1 h0;omega
 refine⟨e1,e2,e3,?_,?_,?_⟩ <;>unfold doJ;all_goals
  have kl:∀ n:Int,n=x.n->tot (fI l x.farm n)<=B/\(∀ y∈fI l x.farm n,PlC R F y)/\(fI l x.farm n).length<=N+256:=fun n e=>by
   subst e;obtain⟨_,_,e⟩:=vg x l hn.1 hn.2 hL i.d.s hmB;obtain⟨q1,q2,q3⟩:=xI x.farm l x.n hn.1 hp;rw[e];refine⟨?_,fun y hy=>q2 y (List.mem_filter.1 hy).1,?_⟩
   ·rw[vZ];have:=i.tt;omega
   ·have:=List.length_filter_le (fun y=>!ap y) (oB x.farm x.n l);omega
  have kg:x.kind=3->tot (jR l x.farm x.other x.n)<=B/\(∀ y∈jR l x.farm x.other x.n,PlC R F y)/\(jR l x.farm x.other x.n).length<=N+256:=fun hk3=>by
   have ho:=hx.other (by omega);obtain⟨_,e⟩:=xn l x.farm x.other x.n hB (by omega) hn.1 hn.2 hb;obtain⟨q1,q2,q3,q4,q5⟩:=BQ (R:=R) (F:=F) (f:=x.farm) (o:=x.other) ⟨ho.1,by omega⟩ l.reverse x.n [] [] hn.1 (fun y hy=>hp y (by simpa using hy)) (fun y hy=>by cases hy) (fun y hy=>by cases hy);obtain⟨p1,p2,p3⟩:=AM (R:=R) (F:=F) (gv x.farm x.other l.reverse x.n [] []).2 (gv x.farm x.other l.reverse x.n [] []).1 q2 q3;have hrv:∀ m:List Claim,tot m.reverse=tot m:=fun m=>by
    induction m with
    |nil=>rfl
    |cons a m ih=>rw[List.reverse_cons,BP,ih];simp only[tot];omega
   have hfw:=i.few hR x.farm;rw[e];refine⟨?_,p2,?_⟩
   ·rw[p1,q1,hrv];have:=i.tt;simp only[tot];omega
   ·rw[List.filter_reverse,List.length_reverse]at q5;rw[List.length_reverse]at q4;simp only[List.length_nil]at q4 q5;omega
  have kn:tot l<=B/\(∀ y∈l,PlC R F y)/\l.length<=N+256:=⟨i.tt,i.pl,by omega⟩
 ·split
  ·exact(kl 0 (hx.none (by assumption)).symm).2.1
  ·split
   ·exact(kl _ rfl).2.1
   ·split
    ·exact(kg (by assumption)).2.1
    ·exact kn.2.1
 ·split
  ·exact(kl 0 (hx.none (by assumption)).symm).1
  ·split
   ·exact(kl _ rfl).1
   ·split
    ·exact(kg (by assumption)).1
    ·exact kn.1
 ·split
  ·exact(kl 0 (hx.none (by assumption)).symm).2.2
  ·split
   ·exact(kl _ rfl).2.2
   ·split
    ·exact(kg (by assumption)).2.2
    ·exact kn.2.2
end
def doH (j:List Judgement)(h:Int)(l:List Claim):List Claim:=(j.filter fun x=>br j x h).foldl (fun s x=>doJ x s) l
def exS (j:List Judgement):Nat->List Claim->List Claim
 |0,_=>[]
 |_+1,[] =>[]
 |n+1,y::r=>doH j y.hour (y::r.takeWhile fun z=>z.hour==y.hour)++exS j n (r.dropWhile fun z=>z.hour==y.hour)
section
variable {ρ:Int->Int}{h R F B:Int}{N:Nat}
theorem Lu:∀ m:List Claim,tot m.reverse=tot m
 | [] =>rfl
 |a::m=>by rw[List.reverse_cons,BP,Lu m];simp only[tot];omega
theorem zU {nm:Int->Bool}{f:Int}(hf:nm f=true):∀ (l:List Claim) (n:Int),(oB f n l).filter (fun y=>!nm y.farm)=l.filter fun y=>!nm y.farm
 | [],_=>rfl
 |x::r,n=>by
  unfold oB;by_cases e:x.farm=f
  ·rw[if_pos e,List.filter_cons_of_neg (by simp[mD,e,hf]),List.filter_cons_of_neg (by simp[e,hf]),zU hf]
  ·rw[if_neg e];by_cases e2:nm x.farm=true
   ·rw[List.filter_cons_of_neg (by simp[e2]),List.filter_cons_of_neg (by simp[e2]),zU hf]
   ·have e2:nm x.farm=false:=by simpa using e2
    rw[List.filter_cons_of_pos (by simp[e2]),List.filter_cons_of_pos (by simp[e2]),zU hf]
theorem Gt (nm:Int->Bool):∀ (l:List Claim) (r p:Int),amt (l.filter fun y=>!nm y.farm) r p=if nm p=true then 0 else amt l r p
 | [],r,p=>by simp[amt]
 |x::l,r,p=>by
  have ih:=Gt nm l r p;by_cases e:nm x.farm=true
  ·rw[List.filter_cons_of_neg (by simp[e]),ih];split
   ·rfl
   ·rename_i hp;have:¬ (x.right=r/\x.farm=p):=fun q=>hp (by rw[<-q.2];exact e);rw[amt,if_neg this];omega
  ·have e':nm x.farm=false:=by simpa using e
   rw[List.filter_cons_of_pos (by simp[e']),amt,ih,amt];by_cases hp:nm p=true
   ·have:¬ (x.right=r/\x.farm=p):=fun q=>e (by rw[q.2];exact hp);rw[if_pos hp,if_pos hp,if_neg this];rfl
   ·rw[if_neg hp,if_neg hp]
theorem Dock.filter {l:List Claim}(d:Dock ρ h l)(p:Claim->Bool):Dock ρ h (l.filter p):=
 ⟨d.s.sublist List.filter_sublist,fun y hy=>d.rk y (List.mem_filter.1 hy).1,fun y hy=>d.hr y (List.mem_filter.1 hy).1,fun y hy=>d.pos y (List.mem_filter.1 hy).1⟩
theorem MR {dd:District}{x:Judgement}(hx:JOk dd x)(h0:x.of_=0){l:List Claim}(i:InvD ρ h R F B N l)(hB:0<=B/\B<=4398046511104)(hN:N<=8192)(hd:Dock ρ h (doJ x l)):
  (∀ nm:Int->Bool,nm x.farm=true->(3<=x.kind->nm x.other=true)->(doJ x l).filter (fun y=>!nm y.farm)=l.filter fun y=>!nm y.farm)/\tot (doJ x l)<=tot l/\(x.kind≠1->x.kind≠2->tot (doJ x l)=tot l):=by
 have hlen:=i.len;have hb:=i.lit;have hL:Lit l:=fun y hy=>by have:=hb y hy;omega
 have hmB:l.length*40<=c6:=by unfold c6;omega
 have hp:∀ y∈l,0<=y.litres/\PlC R F y:=fun y hy=>⟨(hb y hy).1,i.pl y hy⟩;have hk:=hx.kind h0;have hn:0<=x.n/\x.n<4611686018427387904:=by
  by_cases hk1:x.kind=1
  ·rw[hx.none hk1];omega
  ·have:=hx.n hk1 h0;omega
 have nz:(l.filter fun y=>!ap y)=l:=List.filter_eq_self.2 fun y hy=>by
  have:=i.d.pos y hy;unfold ap;simp;omega
 have kl:∀ n:Int,n=x.n->(∀ nm:Int->Bool,nm x.farm=true->(fI l x.farm n).filter (fun y=>!nm y.farm)=l.filter fun y=>!nm y.farm)/\tot (fI l x.farm n)<=tot l:=fun n e=>by
  subst e;obtain⟨_,_,e⟩:=vg x l hn.1 hn.2 hL i.d.s hmB;refine⟨fun nm hf=>?_,?_⟩
  ·rw[e,List.filter_filter];have:(fun a=>(!nm a.farm&& !ap a))=fun a:Claim=>(!ap a&& !nm a.farm):=by funext a;exact Bool.and_comm _ _
   rw[this,<-List.filter_filter,zU hf,List.filter_filter];have:(fun a=>(!ap a&& !nm a.farm))=fun a:Claim=>(!nm a.farm&& !ap a):=by funext a;exact Bool.and_comm _ _
   rw[this,<-List.filter_filter,nz]
  ·rw[e,vZ];exact(xI x.farm l x.n hn.1 hp).1
 unfold doJ at hd |-;by_cases k1:x.kind=1
 ·rw[if_pos k1];obtain⟨q1,q2⟩:=kl 0 (hx.none k1).symm;exact⟨fun nm a _=>q1 nm a,q2,fun a=>absurd k1 a⟩
 rw[if_neg k1]at hd |-;by_cases k2:x.kind=2
 ·rw[if_pos k2];obtain⟨q1,q2⟩:=kl x.n rfl;exact⟨fun nm a _=>q1 nm a,q2,fun _ a=>absurd k2 a⟩
 rw[if_neg k2]at hd |-;by_cases k3:x.kind=3
 ·rw[if_pos k3]at hd |-;have ho:=hx.other (by omega);obtain⟨_,e⟩:=xn l x.farm x.other x.n hB (by omega) hn.1 hn.2 hb;have q:=BQ (R:=R) (F:=max F (x.other+1)) (f:=x.farm) (o:=x.other) ⟨ho.1,by omega⟩ l.reverse x.n [] [] hn.1 (fun y hy=>⟨(hp y (by simpa using hy)).1,(hp y (by simpa using hy)).2.1,(hp y (by simpa using hy)).2.2.1,by have:=(hp y (by simpa using hy)).2.2.2;omega⟩) (fun y hy=>by cases hy) (fun y hy=>by cases hy);have p1:=(AM (R:=R) (F:=max F (x.other+1)) (gv x.farm x.other l.reverse x.n [] []).2 (gv x.farm x.other l.reverse x.n [] []).1 q.2.1 q.2.2.1).1;have hR:∀ y∈l.reverse,y.rank=ρ y.right/\y.hour=h/\0<=y.litres:=fun y hy=>by
   have hy:y∈l:=by simpa using hy
   have:=i.d.pos y hy;exact⟨i.d.rk y hy,i.d.hr y hy,by omega⟩
  obtain⟨g1,g2,g3⟩:=Gr (ρ:=ρ) (h:=h) (f:=x.farm) (o:=x.other) l.reverse x.n [] [] hn.1 hR ⟨List.Pairwise.nil,(fun y hy=>by cases hy),(fun y hy=>by cases hy),(fun y hy=>by cases hy)⟩ ⟨(fun y hy=>by cases hy),(fun y hy=>by cases hy),(fun y hy=>by cases hy),(fun y hy=>by cases hy)⟩;obtain⟨_,g5⟩:=Gs _ _ g1 g2;have ht:tot (jR l x.farm x.other x.n)=tot l:=by
   rw[e,p1,q.1,Lu];simp only[tot];omega
  refine⟨fun nm a1 a2=>?_,by omega,fun _ _=>ht⟩;refine AK (hd.filter _) (i.d.filter _) fun r p=>?_;rw[Gt,Gt];split
  ·rfl
  ·rename_i hnp;have n1:p≠x.farm:=fun q=>hnp (by rw[q];exact a1);have n2:p≠x.other:=fun q=>hnp (by rw[q];exact a2 (by omega));have g4:=g3 r p;rw[if_neg n1,if_neg n1]at g4;rw[e,g5,zP (l:=(gv x.farm x.other l.reverse x.n [] []).2) (fun y hy q=>n2 (by rw[<-q.2];exact g2.fm y hy))];have:amt l.reverse r p=amt l r p:=Dw (List.reverse_perm l) r p;simp only[amt]at g4;omega
 ·rw[if_neg k3]at hd |-;exact⟨fun _ _ _=>rfl,Int.le_refl _,fun _ _=>rfl⟩
theorem Lv {dd:District}(a2:List Judgement)(s_0:List Claim×List Claim)(hR:R<=256)(hF:(dd.farms.length:Int)=F)(hB:0<=B/\B<=4398046511104):∀ (L:List Judgement) (N:Nat) (l:List Claim),(∀ x∈L,JOk dd x/\x.of_=0)->InvD ρ h R F B N l->N+256*L.length<=8192->
  (okL (aY a2 s_0) (ct a2 s_0) L l/\jO (aY a2 s_0) L l=.inr (L.foldl (fun s x=>doJ x s) l))/\InvD ρ h R F B (N+256*L.length) (L.foldl (fun s x=>doJ x s) l)/\
  (∀ nm:Int->Bool,(∀ x∈L,nm x.farm=true/\(3<=x.kind->nm x.other=true))->(L.foldl (fun s x=>doJ x s) l).filter (fun y=>!nm y.farm)=l.filter fun y=>!nm y.farm)/\tot (L.foldl (fun s x=>doJ x s) l)<=tot l/\((∀ x∈L,x.kind≠1/\x.kind≠2)->tot (L.foldl (fun s x=>doJ x s) l)=tot l)
 | [],N,l,_,i,_=>⟨⟨trivial,rfl⟩,by simpa using i,fun _ _=>rfl,Int.le_refl _,fun _=>rfl⟩
 |x::L,N,l,hx,i,hN=>by
  have h1:=hx x (by simp);simp only[List.length_cons]at hN |-;obtain⟨e1,e2,e3⟩:=i.step h1.1 h1.2 hR hF hB (by omega) a2 s_0;obtain⟨f1,f2,f3⟩:=MR h1.1 h1.2 i hB (by omega) e3.d;obtain⟨⟨q1,q2⟩,q3,q4,q5,q6⟩:=Lv a2 s_0 hR hF hB L (N+256) (doJ x l) (fun y hy=>hx y (by simp[hy])) e3 (by omega);rw[List.foldl_cons];refine⟨⟨⟨e2,fun s' e=>?_⟩,?_⟩,?_,fun nm hnm=>?_,by omega,fun hk=>?_⟩
  ·rw[e1]at e;cases e;exact q1
  ·simp only[jO,e1];exact q2
  ·rw[show N+256*(L.length+1)=N+256+256*L.length by omega];exact q3
  ·rw[q4 nm (fun y hy=>hnm y (by simp[hy]))];have:=hnm x (by simp);exact f1 nm this.1 this.2
  ·rw[q6 fun y hy=>hk y (by simp[hy])];have:=hk x (by simp);exact f3 this.1 this.2
end
theorem MS (j:List Judgement)(h:Int):ib j h ((aX j h).map uu):=by
 have e:=qK j h;have key:∀ (R A:List Judgement) (k:Nat) (s:List Judgement),j=A++R->A.length=k->s=(A.filter fun x=>br j x h)->
   okI (ew j h) (fU j h ((aX j h).map uu)) R.length k s:=fun R=>by
  induction R with
  |nil=>exact fun A k s _ _ _=>trivial
  |cons y R ih=>
   intro A k s hj hk hs;have g:j.getD k default=y:=by rw[hj];exact fK A y default R hk.symm
   have hj':j=(A++[y])++R:=by rw[hj];simp
   refine⟨?_,fun s' e'=>?_⟩
   ·unfold fU;rw[g,AL];refine⟨fun hc=>?_,fun hc=>?_⟩
    ·rw[e];have hm:(j.filter fun x=>br j x h)=s++y::(R.filter fun x=>br j x h):=by
      have:(j.filter fun x=>br j x h)=((A++y::R).filter fun x=>br j x h):=by rw[<-hj]
      rw[this,List.filter_append,List.filter_cons_of_pos (by exact hc),<-hs]
     rw[hm];simp
    ·exact hc
   ·unfold ew at e';rw[g,AL]at e';refine ih (A++[y]) (k+1) s' hj' (by simp[hk]) ?_;cases hc:br j y h with
    |true=>
     rw[hc]at e';simp only[cond_true,Sum.inr.injEq]at e';rw[List.filter_append,List.filter_cons_of_pos (by exact hc),<-hs,<-e'];rfl
    |false=>
     rw[hc]at e';simp only[cond_false,Sum.inr.injEq]at e';rw[List.filter_append,List.filter_cons_of_neg (by rw[hc];simp),<-hs,<-e'];simp
 intro _;refine⟨key j [] 0 [] rfl rfl rfl,fun s hs=>?_⟩;rw[uc j h j [] 0 [] rfl rfl]at hs;simp only[Sum.inr.injEq]at hs;rw[<-hs,e];simp
structure Given (d:District)(j:List Judgement)(c:List Claim):Prop where
 js:∀ x∈j,JOk d x
 jl:j.length<=20
 cs:∀ x∈c,FineC d x
 st:c.Pairwise zz
 cl:c.length<=300
 rl:d.rights.length<=256
theorem Given.sub {d:District}{j:List Judgement}{c c':List Claim}(g:Given d j c)(h:c'.Sublist c):Given d j c':=
 ⟨g.js,g.jl,fun x hx=>g.cs x (h.subset hx),g.st.sublist h,Nat.le_trans h.length_le g.cl,g.rl⟩
def rho (d:District)(r:Int):Int:=(d.rights.getD r.toNat default).rank
def Is:Int:=322122547200
theorem PL {b:Int}(hb:0<=b):∀ {l:List Claim},(∀ y∈l,y.litres<=b)->∀ {n:Nat},l.length<=n->tot l<=n*b
 | [],_,n,_=>by
  have:=Int.mul_nonneg (show 0<=(n:Int) by omega) hb;simpa[tot]using this
 |x::l,h,n,hn=>by
  have h1:=h x (by simp);obtain⟨m,rfl⟩:∃ m,n=m+1:=⟨n - 1,by simp only[List.length_cons]at hn;omega⟩;have:=PL hb (l:=l) (fun y hy=>h y (by simp[hy])) (n:=m) (by simp only[List.length_cons]at hn;omega);have e:((m+1:Nat):Int)*b=m*b+b:=Sj m b;rw[tot,e];omega
theorem PM {a b:Claim}(h:zz a b)(e:a.hour=b.hour):tlt a b:=by
 unfold zz un at h;rcases h with h|h
 ·omega
 ·exact h.2
theorem Given.start {d:District}{j:List Judgement}{c:List Claim}(g:Given d j c){h:Int}(hh:∀ x∈c,x.hour=h):InvD (rho d) h d.rights.length d.farms.length Is 300 c:=by
 refine⟨⟨?_,fun y hy=>(g.cs y hy).rank.symm,hh,fun y hy=>by have:=(g.cs y hy).l0;omega⟩,fun y hy=>?_,?_,g.cl⟩
 ·exact g.st.imp_of_mem fun {a b} ha hb hab=>PM hab (by rw[hh a ha,hh b hb])
 ·have:=g.cs y hy;exact⟨⟨this.r0,this.r1⟩,this.f0,this.f1⟩
 ·have:=PL (b:=1073741824) (by omega) (fun y hy=>(g.cs y hy).l1) g.cl;unfold Is;omega
theorem Given.hour {d:District}{j:List Judgement}{c:List Claim}(g:Given d j c){h:Int}(hh:∀ x∈c,x.hour=h)(a2:List Judgement)(s_0:List Claim×List Claim):
  (okL (aY a2 s_0) (ct a2 s_0) (aX j h) c/\jO (aY a2 s_0) (aX j h) c=.inr (doH j h c))/\InvD (rho d) h d.rights.length d.farms.length Is 5420 (doH j h c)/\
  (∀ nm:Int->Bool,(∀ x∈j,x.of_=0->nm x.farm=true/\(3<=x.kind->nm x.other=true))->(doH j h c).filter (fun y=>!nm y.farm)=c.filter fun y=>!nm y.farm)/\tot (doH j h c)<=tot c/\((∀ x∈j,x.of_=0->x.kind≠1/\x.kind≠2)->tot (doH j h c)=tot c):=by
 have hin:∀ x∈aX j h,x∈j/\x.of_=0:=fun x hx=>by
  rw[qK]at hx;have:=List.mem_filter.1 hx;exact⟨this.1,yQ this.2⟩
 have hlen:(aX j h).length<=20:=by
  rw[qK];have:=List.length_filter_le (fun x=>br j x h) j;have:=g.jl;omega
 obtain⟨q1,q2,q3,q4,q5⟩:=Lv a2 s_0 (by have:=g.rl;omega) rfl (by unfold Is;omega) (aX j h) 300 c (fun x hx=>⟨g.js x (hin x hx).1,(hin x hx).2⟩) (g.start hh) (by omega);have e:doH j h c=(aX j h).foldl (fun s x=>doJ x s) c:=by rw[qK];rfl
 rw[e];refine⟨q1,⟨q2.d,q2.pl,q2.tt,?_⟩,fun nm hnm=>q3 nm fun x hx=>hnm x (hin x hx).1 (hin x hx).2,q4,fun hk=>q5 fun x hx=>hk x (hin x hx).1 (hin x hx).2⟩;have:=q2.len;omega
theorem Lw {q:Claim->Bool}:∀ {K:List Claim} {x:Claim} {R:List Claim},(∀ y∈K,q y=true)->q x=false->(K++x::R).takeWhile q=K/\(K++x::R).dropWhile q=x::R
 | [],x,R,_,hx=>by
  rw[List.nil_append,List.takeWhile_cons_of_neg (by rw[hx];simp),List.dropWhile_cons_of_neg (by rw[hx];simp)];exact⟨rfl,rfl⟩
 |y::K,x,R,h,hx=>by
  obtain⟨p1,p2⟩:=Lw (R:=R) (fun z hz=>h z (List.mem_cons_of_mem _ hz)) hx;rw[List.cons_append,List.takeWhile_cons_of_pos (h y (by simp)),List.dropWhile_cons_of_pos (h y (by simp)),p1,p2];exact⟨rfl,rfl⟩
theorem It {q:Claim->Bool}:∀ {K:List Claim},(∀ y∈K,q y=true)->K.takeWhile q=K/\K.dropWhile q=[]
 | [],_=>⟨rfl,rfl⟩
 |y::K,h=>by
  obtain⟨p1,p2⟩:=It fun z hz=>h z (List.mem_cons_of_mem _ hz);rw[List.takeWhile_cons_of_pos (h y (by simp)),List.dropWhile_cons_of_pos (h y (by simp)),p1,p2];exact⟨rfl,rfl⟩
theorem Z3 (y:Claim)(r:List Claim):cV (y::r) (y::r)/\(bif(decide ((ah (y::r) (y::r)) <0))then((y::r).length:Int)else(ah (y::r) (y::r)))=((y::r.takeWhile fun z=>z.hour==y.hour).length:Int):=by
 refine⟨fun _=>j7 _ _ _ fun k _ _ _=>⟨by omega,by simp only[List.length_cons];omega⟩,?_⟩;unfold ah;rcases zC (step:=cL (y::r) (y::r)) (y::r) default (fun z=>!(z.hour==y.hour)) (fun k _=>rfl)with⟨e,h⟩ | ⟨K,x,T,h1,e,h2,h3⟩
 ·rw[e];obtain⟨p1,_⟩:=It (q:=fun z=>z.hour==y.hour) (K:=r) fun z hz=>by have:=h z (by simp[hz]);simpa using this
  rw[p1];rfl
 ·rw[e];have hd:decide ((K.length:Int) <0)=false:=decide_eq_false (by omega);simp only[hd,cond_false];cases K with
  |nil=>
   simp only[List.nil_append,List.cons.injEq]at h1;rw[<-h1.1]at h2;simp at h2
  |cons k K=>
   simp only[List.cons_append,List.cons.injEq]at h1;obtain⟨p1,_⟩:=Lw (q:=fun z=>z.hour==y.hour) (K:=K) (x:=x) (R:=T) (fun z hz=>by have:=h3 z (by simp[hz]);simpa using this) (by simpa using h2);rw[h1.2,p1];simp
theorem AN (q:Claim->Bool):∀ r:List Claim,r.take (r.takeWhile q).length=r.takeWhile q/\r.drop (r.takeWhile q).length=r.dropWhile q
 | [] =>⟨rfl,rfl⟩
 |x::r=>by
  obtain⟨p1,p2⟩:=AN q r;by_cases h:q x=true
  ·rw[List.takeWhile_cons_of_pos h,List.dropWhile_cons_of_pos h];rw[List.length_cons,List.take_succ_cons,List.drop_succ_cons,p1,p2];exact⟨rfl,rfl⟩
  ·rw[List.takeWhile_cons_of_neg h,List.dropWhile_cons_of_neg h];exact⟨rfl,rfl⟩
theorem E4 (q:Claim->Bool):∀ (r:List Claim),∀ x∈r.takeWhile q,q x=true
 | [],x,hx=>by cases hx
 |y::r,x,hx=>by
  by_cases h:q y=true
  ·rw[List.takeWhile_cons_of_pos h]at hx;rcases List.mem_cons.1 hx with rfl|hx
   ·exact h
   ·exact E4 q r x hx
  ·rw[List.takeWhile_cons_of_neg h]at hx;cases hx
section
variable {d:District}{j:List Judgement}
theorem Given.head {y:Claim}{r:List Claim}(g:Given d j (y::r)):Given d j (y::r.takeWhile fun z=>z.hour==y.hour)/\(∀ x∈(y::r.takeWhile fun z=>z.hour==y.hour),x.hour=y.hour)/\Given d j (r.dropWhile fun z=>z.hour==y.hour)/\(r.takeWhile fun z=>z.hour==y.hour).length+(r.dropWhile fun z=>z.hour==y.hour).length=r.length:=by
 refine⟨g.sub (List.Sublist.cons_cons _ (List.takeWhile_sublist _)),fun x hx=>?_,g.sub ((List.dropWhile_sublist _).trans (List.sublist_cons_self _ _)),?_⟩
 ·rcases List.mem_cons.1 hx with rfl|hx
  ·rfl
  ·simpa using E4 _ r x hx
 ·rw[<-List.length_append,List.takeWhile_append_dropWhile]
theorem Iu (a1:List Claim):∀ (k i:Nat) (R acc:List Claim),R.length<k->Given d j R->acc.length+5420*R.length<=1626000->
  okI (cH a1 j) (gQ a1 j) k i (R,acc)/\an (cH a1 j) k i (R,acc)=.inl (acc++exS j k R)
 |0,_,_,_,hk,_,_=>absurd hk (Nat.not_lt_zero _)
 |k+1,i,[],acc,_,_,_=>by
  refine⟨⟨fun _ h=>?_,fun s' e=>?_⟩,?_⟩
  ·have:=of_decide_eq_true h;simp at this
  ·cases e
  ·simp[an,cH,exS]
 |k+1,i,y::r,acc,hk,g,hl=>by
  obtain⟨c1,c2⟩:=Z3 y r;obtain⟨g1,g2,g3,g4⟩:=g.head;obtain⟨⟨q1,q2⟩,q3,_⟩:=g1.hour g2 j (y::r,acc);obtain⟨t1,t2⟩:=AN (fun z=>z.hour==y.hour) r;have hd:decide (((y::r).length:Int) > 0)=true:=decide_eq_true (by simp only[List.length_cons];omega);have e1:((y::r).take (Int.toNat (((y::r.takeWhile fun z=>z.hour==y.hour).length:Nat):Int))).drop 0=y::r.takeWhile fun z=>z.hour==y.hour:=by
   rw[Int.toNat_natCast,List.length_cons,List.take_succ_cons,t1];rfl
  have e2:((y::r).take (Int.toNat ((y::r).length:Int))).drop (Int.toNat (((y::r.takeWhile fun z=>z.hour==y.hour).length:Nat):Int))=r.dropWhile fun z=>z.hour==y.hour:=by
   rw[Int.toNat_natCast,Int.toNat_natCast,List.take_length,List.length_cons,List.drop_succ_cons,t2]
  have g0:(y::r).getD 0 default=y:=rfl;have hstep:cH a1 j i (y::r,acc)=.inr (r.dropWhile (fun z=>z.hour==y.hour),acc++doH j y.hour (y::r.takeWhile fun z=>z.hour==y.hour)):=by
   simp only[cH,hd,cond_true,c2,e1,e2,g0,q2]
  have hlen:=q3.len;have hcl:=g.cl;simp only[List.length_cons]at hk hl hcl;obtain⟨r1,r2⟩:=Iu a1 k (i+1) (r.dropWhile fun z=>z.hour==y.hour) (acc++doH j y.hour (y::r.takeWhile fun z=>z.hour==y.hour)) (by omega) g3 (by rw[List.length_append];omega);refine⟨⟨fun _ _=>?_,fun s' e=>?_⟩,?_⟩
  ·rw[c2,e1,g0];refine⟨c1,⟨by omega,by omega,by simp only[List.length_cons];omega⟩,?_,⟨by omega,by simp only[List.length_cons];omega⟩,MS j y.hour,q1,fun s_1 hs=>?_⟩
   ·simp only[List.length_cons];unfold c6;omega
   ·rw[q2]at hs;simp only[Sum.inr.injEq]at hs;subst hs;refine⟨by show(acc++doH j y.hour (y::r.takeWhile fun z=>z.hour==y.hour)).length*40<=c6;rw[List.length_append];unfold c6;omega,fun _=>⟨by omega,by simp only[List.length_cons];omega,by omega⟩⟩
  ·rw[hstep]at e;simp only[Sum.inr.injEq]at e;subst e;exact r1
  ·simp only[an,hstep];rw[r2,exS,List.append_assoc]
theorem DB (g:∀ x∈j,JOk d x)(hr:d.rights.length<=256)(h:Int)(l0:List Claim):∀ (R A:List Judgement) (k N:Nat) (s:List Claim),j=A++R->A.length=k->InvD (rho d) h d.rights.length d.farms.length Is N s->N+256*R.length<=8192->okI (lR j h) (wd j h) R.length k s
 | [],_,_,_,_,_,_,_,_=>trivial
 |y::R,A,k,N,s,hj,hk,i,hN=>by
  have gd:j.getD k default=y:=by rw[hj];exact fK A y default R hk.symm
  have hj':j=(A++[y])++R:=by rw[hj];simp
  simp only[List.length_cons]at hN;have hy:=g y (by rw[hj];simp);have hb:=i.lit;have hlen:=i.len;have hB:(0:Int)<=Is/\Is<=4398046511104:=by unfold Is;omega
  have hL:Lit s:=fun y hy=>by have:=hb y hy;omega
  have hmB:s.length*40<=c6:=by unfold c6;omega
  have hp:=fun(h0:y.of_=0) =>i.step hy h0 (by omega) rfl hB (by omega) j (s,s);refine⟨fun _ hc=>?_,fun s' e=>?_⟩
  ·rw[gd]at hc |-;have h0:y.of_=0:=yQ (by simpa using hc);have hn:0<=y.n/\y.n<4611686018427387904:=by
    by_cases hk1:y.kind=1
    ·rw[hy.none hk1];omega
    ·have:=hy.n hk1 h0;omega
   have kl:=(vg y s hn.1 hn.2 hL i.d.s hmB).1.2.2;refine⟨fun k1=>?_,fun _=>⟨fun _=>kl,fun _ k3=>?_⟩⟩
   ·have k1:y.kind=1:=by simpa using k1
    rw[hy.none k1]at kl;exact kl
   ·have k3:y.kind=3:=by simpa using k3
    exact(Lt y s (hy.other (by omega)).2.2 hB i.d hb (by omega) hn.1 hn.2).1.2.2
  ·rw[E3 j h y k s gd]at e;simp only[Sum.inr.injEq]at e;subst e;refine DB g hr h l0 R (A++[y]) (k+1) (N+256) _ hj' (by simp[hk]) ?_ (by omega);by_cases hc:br j y h=true
   ·rw[if_pos hc];exact(hp (yQ hc)).2.2
   ·rw[if_neg hc];exact⟨i.d,i.pl,i.tt,by omega⟩
theorem Gu (a1 acc A:List Claim)(y:Claim)(r:List Claim)(ha:a1=A++y::r)(hm:a1.length<1000):∀ (T K:List Claim) (n i:Nat),y::r=K++T->(∀ x∈K,x.hour=y.hour)->T.length<n->
  okI (dh a1 (acc,(A.length:Int))) (oU a1 (acc,(A.length:Int))) n i ((A.length+K.length:Nat):Int)/\an (dh a1 (acc,(A.length:Int))) n i ((A.length+K.length:Nat):Int)=.inl ((A.length+(K++T.takeWhile fun z=>z.hour==y.hour).length:Nat):Int)
 |T,K,0,_,_,_,hn=>absurd hn (Nat.not_lt_zero _)
 |T,K,n+1,i,hT,hK,hn=>by
  have ga:a1.getD A.length default=y:=by rw[ha];exact fK A y default r rfl
  have hla:a1.length=A.length+(K.length+T.length):=by rw[ha,hT];simp
  have hpos:0< (K++T).length:=by rw[<-hT];simp
  rw[List.length_append]at hpos;refine⟨⟨fun _=>⟨fun h=>?_,fun _=>⟨by omega,?_⟩⟩,fun s' e=>?_⟩,?_⟩
  ·have:=of_decide_eq_true h;exact⟨by omega,this⟩
  ·show(A.length:Int) <_;omega
  ·cases T with
   |nil=>
    have hd:decide (((A.length+K.length:Nat):Int) < (a1.length:Int))=false:=decide_eq_false (by simp only[List.length_nil]at hla;omega);simp only[dh,hd,Bool.false_and,cond_false]at e;cases e
   |cons x T=>
    have gx:a1.getD (A.length+K.length) default=x:=by
     rw[ha,hT,<-List.append_assoc];exact fK (A++K) x default T (by simp)
    have hd:decide (((A.length+K.length:Nat):Int) < (a1.length:Int))=true:=decide_eq_true (by simp only[List.length_cons]at hla;omega);simp only[dh,hd,Bool.true_and,Int.toNat_natCast,gx,ga]at e;cases hx:x.hour==y.hour with
    |false=>rw[hx]at e;cases e
    |true=>
     rw[hx,fE (by omega) (by omega)]at e;simp only[cond_true,Sum.inr.injEq]at e;have:=Gu a1 acc A y r ha hm T (K++[x]) n (i+1) (by rw[hT];simp) (fun z hz=>by
      rcases List.mem_append.1 hz with hz|hz
      ·exact hK z hz
      ·rw[List.mem_singleton.1 hz];simpa using hx) (by simp only[List.length_cons]at hn;omega)
     rw[List.length_append,List.length_singleton]at this;rw[<-e,show((A.length+K.length:Nat):Int)+1=((A.length+(K.length+1):Nat):Int) by omega];exact this.1
  ·cases T with
   |nil=>
    have hd:decide (((A.length+K.length:Nat):Int) < (a1.length:Int))=false:=decide_eq_false (by simp only[List.length_nil]at hla;omega);simp only[an,dh,hd,Bool.false_and,cond_false];simp
   |cons x T=>
    have gx:a1.getD (A.length+K.length) default=x:=by
     rw[ha,hT,<-List.append_assoc];exact fK (A++K) x default T (by simp)
    have hd:decide (((A.length+K.length:Nat):Int) < (a1.length:Int))=true:=decide_eq_true (by simp only[List.length_cons]at hla;omega);simp only[an,dh,hd,Bool.true_and,Int.toNat_natCast,gx,ga];cases hx:x.hour==y.hour with
    |false=>
     simp only[cond_false];rw[List.takeWhile_cons_of_neg (by rw[hx];simp)];simp
    |true=>
     simp only[cond_true];rw[fE (by omega) (by omega)];have:=Gu a1 acc A y r ha hm T (K++[x]) n (i+1) (by rw[hT];simp) (fun z hz=>by
      rcases List.mem_append.1 hz with hz|hz
      ·exact hK z hz
      ·rw[List.mem_singleton.1 hz];simpa using hx) (by simp only[List.length_cons]at hn;omega)
     rw[List.length_append,List.length_singleton]at this;rw[show((A.length+K.length:Nat):Int)+1=((A.length+(K.length+1):Nat):Int) by omega];rw[this.2,List.takeWhile_cons_of_pos (by exact hx)];simp
theorem Lx (a1:List Claim)(hm:a1.length<=300):∀ (k i:Nat) (R A acc:List Claim),a1=A++R->R.length<k->Given d j R->acc.length+5420*R.length<=1626000->
  okI (eI a1 j) (oV a1 j) k i (acc,(A.length:Int))/\an (eI a1 j) k i (acc,(A.length:Int))=.inl (acc++exS j k R)
 |0,_,_,_,_,_,hk,_,_=>absurd hk (Nat.not_lt_zero _)
 |k+1,i,[],A,acc,ha,_,_,_=>by
  have hd:decide ((A.length:Int) < (a1.length:Int))=false:=decide_eq_false (by rw[ha];simp);refine⟨⟨fun _ h=>?_,fun s' e=>?_⟩,?_⟩
  ·rw[hd]at h;cases h
  ·simp only[eI,hd,cond_false]at e;cases e
  ·simp only[an,eI,hd,cond_false,exS];simp
 |k+1,i,y::r,A,acc,ha,hk,g,hl=>by
  obtain⟨g1,g2,g3,g4⟩:=g.head;obtain⟨⟨q1,q2⟩,q3,_⟩:=g1.hour g2 j (y::r,acc);have hla:a1.length=A.length+(r.length+1):=by rw[ha];simp
  have hd:decide ((A.length:Int) < (a1.length:Int))=true:=decide_eq_true (by omega);have hc:=Gu a1 acc A y r ha (by omega) (y::r) [] (a1.length+1) 0 rfl (fun x hx=>by cases hx) (by simp only[List.length_cons];omega);rw[List.nil_append,List.takeWhile_cons_of_pos (by simp)]at hc;have c1:okI (dh a1 (acc,(A.length:Int))) (oU a1 (acc,(A.length:Int))) (a1.length+1) 0 (A.length:Int):=hc.1;have c2:an (dh a1 (acc,(A.length:Int))) (a1.length+1) 0 (A.length:Int)=.inl ((A.length+(y::r.takeWhile fun z=>z.hour==y.hour).length:Nat):Int):=hc.2;obtain⟨t1,t2⟩:=AN (fun z=>z.hour==y.hour) r;have e1:(a1.take (Int.toNat ((A.length+(y::r.takeWhile fun z=>z.hour==y.hour).length:Nat):Int))).drop (Int.toNat (A.length:Int))=y::r.takeWhile fun z=>z.hour==y.hour:=by
   rw[Int.toNat_natCast,Int.toNat_natCast,ha,List.take_length_add_append,List.drop_left,List.length_cons,List.take_succ_cons,t1]
  have ga:a1.getD (Int.toNat (A.length:Int)) default=y:=by rw[Int.toNat_natCast,ha];exact fK A y default r rfl
  have hh:qy (y::r.takeWhile fun z=>z.hour==y.hour) j y.hour=doH j y.hour (y::r.takeWhile fun z=>z.hour==y.hour):=by
   rw[Sk,qK];rfl
  have hstep:eI a1 j i (acc,(A.length:Int))=.inr (acc++doH j y.hour (y::r.takeWhile fun z=>z.hour==y.hour),((A.length+(y::r.takeWhile fun z=>z.hour==y.hour).length:Nat):Int)):=by
   unfold eI;simp only[hd,cond_true];rw[c2];simp only[e1,ga,hh]
  have hlen:=q3.len;have hcl:=g.cl;simp only[List.length_cons]at hk hl hcl;have ha2:a1=(A++y::r.takeWhile fun z=>z.hour==y.hour)++r.dropWhile fun z=>z.hour==y.hour:=by
   rw[ha,List.append_assoc,List.cons_append,List.takeWhile_append_dropWhile]
  obtain⟨r1,r2⟩:=Lx a1 hm k (i+1) (r.dropWhile fun z=>z.hour==y.hour) (A++y::r.takeWhile fun z=>z.hour==y.hour) (acc++doH j y.hour (y::r.takeWhile fun z=>z.hour==y.hour)) ha2 (by omega) g3 (by rw[List.length_append];omega);rw[List.length_append]at r1 r2;refine⟨⟨fun _ _=>⟨c1,fun z hz=>?_,fun x hx=>?_⟩,fun s' e=>?_⟩,?_⟩
  ·have hz:an (dh a1 (acc,(A.length:Int))) (a1.length+1) 0 (A.length:Int)=.inr z:=hz;rw[c2]at hz;cases hz
  ·have hx:an (dh a1 (acc,(A.length:Int))) (a1.length+1) 0 (A.length:Int)=.inl x:=hx;rw[c2]at hx;simp only[Sum.inl.injEq]at hx;subst hx;show(0<=(A.length:Int)/\(A.length:Int)<=_/\_)/\(0<=(A.length:Int)/\(A.length:Int) <_)/\zv ((a1.take (Int.toNat _)).drop (Int.toNat (A.length:Int))) j (a1.getD (Int.toNat (A.length:Int)) default).hour/\(acc++qy ((a1.take (Int.toNat _)).drop (Int.toNat (A.length:Int))) j (a1.getD (Int.toNat (A.length:Int)) default).hour).length*40<=c6;rw[e1,ga];have hlj:=g.jl;refine⟨⟨by omega,by omega,?_⟩,⟨by omega,by omega⟩,?_,?_⟩
   ·simp only[List.length_cons];omega
   ·exact DB g.js g.rl y.hour [] j [] 0 300 _ rfl rfl (g1.start g2) (by omega)
   ·rw[hh,List.length_append];unfold c6;omega
  ·rw[hstep]at e;simp only[Sum.inr.injEq]at e;subst e;exact r1
  ·simp only[an,hstep];rw[r2,exS,List.append_assoc]
end
theorem PN (a b:List Claim):pL a b:=fun _ _ h=>j7 _ _ _ fun j _ _ hj _=>by
 have:(a.length:Int)=b.length:=by simpa using h
 omega
theorem DC {ρ:Type}{step:Nat->Unit->ρ⊕Unit}:∀ (n i:Nat),(∀ j,i<=j->j<i+n->step j ()=.inr ())->an step n i ()=.inr ()
 |0,_,_=>rfl
 |n+1,i,h=>by
  rw[an,h i (Nat.le_refl _) (by omega)];exact DC n (i+1) fun j h1 h2=>h j (by omega) (by omega)
theorem E5 (a:List Claim):qv a a=true:=by
 unfold qv;rw[show((a.length:Int) !=(a.length:Int))=false by simp,DC (ρ:=Unit) a.length 0 fun j _ _=>by unfold qP;simp];rfl
theorem DD (d:District)(j:List Judgement):iC d j:=fun _ _ h _=>j7 _ _ _ fun k s _ hk=>by
 rw[AC]at h;have h:=of_decide_eq_true h;have key:((k:Int) ==0)=false->(0<=(i64.wrap ((k:Int) - 1))/\(i64.wrap ((k:Int) - 1)) < (j.length:Int)):=fun hk0=>by
  have:(k:Int)≠0:=by simpa using hk0
  rw[fE (by omega) (by omega)];omega
 exact fun _=>⟨key,fun h1 _=>key h1⟩
theorem Iv (d:District)(j:List Judgement):uo d j:=⟨EQ d,fun hc _ h=>j7 _ _ _ fun k s _ hk=>by
 have h:=of_decide_eq_false h;have hf:d.farms.length<=600:=by
  have:gf d=0:=by simpa using hc
  rw[<-w7]at this;exact((rv d).1 this).1.2.1
 have hw:i64.wrap ((d.farms.length:Int) - 1)=(d.farms.length:Int) - 1:=fE (by omega) (by omega);intro _;refine⟨⟨by omega,by omega,by omega⟩,fun _=>?_⟩;have hl:((j.take k).drop 0).length=k:=by simp;omega
 have key:(decide ((((j.take k).drop 0).length:Int) > 0))=true->(0<=(i64.wrap ((((j.take k).drop 0).length:Int) - 1))/\(i64.wrap ((((j.take k).drop 0).length:Int) - 1)) < (((j.take k).drop 0).length:Int)):=fun h0=>by
  have h0:=of_decide_eq_true h0;rw[hl]at h0 |-;rw[fE (by omega) (by omega)];omega
 refine⟨fun _=>key,fun _ h0 _=>key h0,fun _ _ _ h1 _ _ h2=>?_⟩;rw[hw]at h1 h2;simp only[Bool.or_eq_false_iff,Bool.not_eq_false',HO,Bool.and_eq_true,decide_eq_true_eq]at h1 h2;exact⟨fun _=>by omega,fun _=>by omega⟩⟩
theorem Ly (d:District)(j:List Judgement)(h:Int)(hj:JR j):jG d j h/\DZ d j h:=by
 have key:iu d j=0->d.farms.length<=600/\∀ k,k<j.length->(j.getD k default).kind=4->(0<=(j.getD k default).farm/\(j.getD k default).farm< (d.farms.length:Int))/\(0<=(j.getD k default).other/\(j.getD k default).other< (d.farms.length:Int)):=fun hc=>by
  have h1:=Zp hc;obtain⟨h2,_,_⟩:=ES hc;rw[<-w7]at h2;refine⟨((rv d).1 h2).1.2.1,fun k hk hkd=>?_⟩;have h3:=h1 k hk;have h4:(j.getD k default).of_=0:=Decidable.byContradiction fun e=>by have:=h3.end_ e;omega
  exact⟨h3.farm h4,(h3.other (by omega)).1,(h3.other (by omega)).2.1⟩
 refine⟨⟨DD d j,fun hc _ _=>⟨⟨rfl,by omega,?_⟩,fun _ _=>?_⟩⟩,⟨Iv d j,fun hc _ _=>⟨⟨rfl,by omega,?_⟩,fun _=>?_⟩⟩⟩
 ·have hc:bw d j=0:=by simpa using hc
  rw[zw d j hj]at hc;have:=(key hc).1;unfold c6;omega
 ·have hc:bw d j=0:=by simpa using hc
  rw[zw d j hj]at hc;refine vO (fun _ s=>s.length=d.farms.length) _ _ _ (by simp) fun k s _ hk hs=>⟨fun hg=>?_,fun s' e=>?_⟩
  ·simp only[Bool.and_eq_true,beq_iff_eq]at hg;have:=(key hc).2 k (by omega) hg.1.1;rw[List.length_set,hs];exact⟨this.1,this.1,this.2,this.2⟩
  ·unfold ln at e;rw[Bool.cond_eq_ite]at e;split at e <;>simp only[Sum.inr.injEq]at e <;>subst e
   ·simp[hs]
   ·exact hs
 ·have hc:iu d j=0:=by simpa using hc
  have:=(key hc).1;unfold c6;omega
 ·have hc:iu d j=0:=by simpa using hc
  refine vO (fun _ s=>s.length=d.farms.length) _ _ _ (by simp) fun k s _ hk hs=>⟨fun _ hg=>?_,fun s' e=>?_⟩
  ·simp only[Bool.and_eq_true,beq_iff_eq]at hg;have:=(key hc).2 k (by omega) hg.1.1;rw[List.length_set,hs];exact⟨this.1,this.1,this.2,this.2⟩
  ·unfold w8 at e;rw[Bool.cond_eq_ite]at e;split at e <;>simp only[Sum.inr.injEq]at e <;>subst e
   ·simp[hs]
   ·exact hs
def PO (d:District)(c:List Claim)(j:List Judgement):List Claim×Int:=letI q0:=c.length+1;bif bw d j !=0 then([],bw d j)else bif di d c !=0 then([],di d c)else bif(decide (((exS j q0 c).length:Int) > 4096)) ||(exS j q0 c).any c8 then([],2)else(exS j q0 c,0)
theorem Vu (x:List Claim):bI x=x.any c8:=by
 unfold bI dv;rcases zC (step:=eC x) x default c8 (fun k _=>rfl)with⟨e,h⟩ | ⟨K,y,T,h1,e,h2,h3⟩
 ·rw[e,List.any_eq_false.2 fun z hz=>by rw[h z hz];simp];rfl
 ·rw[e,List.any_eq_true.2 ⟨y,by rw[h1];simp,h2⟩];exact decide_eq_true (show(K.length:Int)>=0 by omega)
theorem Z4 (x:List Claim):(match an (nS x) x.length 0 ()with| .inl _=>(([],2):List Claim×Int) | .inr _=>(x,0))=bif x.any c8 then([],2)else(x,0):=by
 have key:∀ (R A:List Claim) (k:Nat),x=A++R->A.length=k->an (nS x) R.length k ()=bif R.any c8 then .inl ()else .inr ():=fun R=>by
  induction R with
  |nil=>exact fun A k _ _=>rfl
  |cons y R ih=>
   intro A k hx hk;have g:x.getD k default=y:=by rw[hx];exact fK A y default R hk.symm
   simp only[List.length_cons,an,nS,g,List.any_cons];cases hy:c8 y with
   |true=>
    have:decide (y.litres > 1073741824)=true:=hy;rw[this];rfl
   |false=>
    have:decide (y.litres > 1073741824)=false:=hy;rw[this];exact ih (A++[y]) (k+1) (by rw[hx];simp) (by simp[hk])
 rw[key x [] 0 rfl rfl];cases x.any c8 <;>rfl
theorem PQ {d:District}{c:List Claim}{j:List Judgement}(h1:bw d j=0)(hj:JR j)(h2:di d c=0)(hjl:j.length<=20)(hcl:c.length<=300):Given d j c:=by
 obtain⟨a1,_,a3,a4⟩:=JQ h2;rw[zw d j hj]at h1;refine⟨fun x hx=>?_,hjl,a3,a4,hcl,((rv d).1 a1).1.2.2.2.1⟩;obtain⟨i,hi,rfl⟩:=List.getElem_of_mem hx;have:=Zp h1 i hi
 rwa[List.getD_eq_getElem?_getD,List.getElem?_eq_getElem hi]at this
theorem PR {d:District}{c:List Claim}{j:List Judgement}(hj:JR j)(hjl:bw d j=0->j.length<=20)(hcl:di d c=0->c.length<=300):
  (eJ d c j/\Bu d c j)/\dU d c j=PO d c j/\yf d c j=PO d c j:=by
 have run:bw d j=0->di d c=0->(okI (cH c j) (gQ c j) (c.length+1) 0 (c,[])/\an (cH c j) (c.length+1) 0 (c,[])=.inl ([]++exS j (c.length+1) c))/\
   okI (eI c j) (oV c j) (c.length+1) 0 ([],0)/\an (eI c j) (c.length+1) 0 ([],0)=.inl ([]++exS j (c.length+1) c):=fun h1 h2=>by
  have g:=PQ h1 hj h2 (hjl h1) (hcl h2);have:=g.cl;exact⟨Iu c (c.length+1) 0 c [] (by omega) g (by simp only[List.length_nil];omega),Lx c g.cl (c.length+1) 0 c [] [] rfl (by omega) g (by simp only[List.length_nil];omega)⟩
 refine⟨⟨⟨DD d j,fun h1=>⟨Pd d c,fun h2=>?_⟩⟩,⟨Iv d j,fun h1=>⟨MG d c,fun h2=>?_⟩⟩⟩,?_,?_⟩
 ·obtain⟨⟨r1,r2⟩,_⟩:=run (by simpa using h1) (by simpa using h2);exact⟨r1,fun z e=>by rw[r2]at e;cases e⟩
 ·rw[<-zw d j hj]at h1;rw[<-EY]at h2;obtain⟨_,r1,r2⟩:=run (by simpa using h1) (by simpa using h2);exact⟨r1,fun z e=>by rw[r2]at e;cases e⟩
 ·unfold dU PO;cases h1:bw d j !=0 with
  |true=>rfl
  |false=>
   simp only[cond_false];cases h2:di d c !=0 with
   |true=>rfl
   |false=>
    simp only[cond_false];obtain⟨⟨_,r2⟩,_⟩:=run (by simpa using h1) (by simpa using h2);rw[r2,List.nil_append];simp only[Vu]
 ·unfold yf PO;rw[<-zw d j hj,<-EY];cases h1:bw d j !=0 with
  |true=>rfl
  |false=>
   simp only[cond_false];cases h2:di d c !=0 with
   |true=>rfl
   |false=>
    simp only[cond_false];obtain⟨_,_,r2⟩:=run (by simpa using h1) (by simpa using h2);rw[r2,List.nil_append];cases hd:decide (((exS j (c.length+1) c).length:Int) > 4096)with
    |true=>simp only[hd,cond_true,Bool.true_or]
    |false=>
     simp only[hd,cond_false,Bool.false_or];exact Z4 _
end Go.Sx
end
