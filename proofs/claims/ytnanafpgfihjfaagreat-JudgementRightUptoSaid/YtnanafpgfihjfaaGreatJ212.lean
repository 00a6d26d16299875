/- Part of the proof that the law JudgementRight returns true and leaves its arguments as they were, for all arguments of bulk at most 1048576 (the Upto form). -/
import Derived.Test.YtnanafpgfihjfaaGreatJ211
import Derived.Test.YtnanafpgfihjfaaGreatJ208
import Derived.Test.YtnanafpgfihjfaaGreatJ207
import Derived.Test.YtnanafpgfihjfaaGreatJ210
import Derived.Test.YtnanafpgfihjfaaGreatJ209
set_option linter.all false
set_option maxHeartbeats 4000000
set_option maxRecDepth 100000
section
namespace Go.Sx
open Go.Proofs
section
variable {ρ:Int→Int}{h R F B:Int}{N:Nat}
theorem Jl:∀ m:List Claim,tot m.reverse=tot m
 | [] =>rfl
 |a::m=>by rw[List.reverse_cons,Al,Jl m];simp only[tot];omega
theorem yx {nm:Int→Bool}{f:Int}(hf:nm f=true):∀ (l:List Claim) (n:Int),(nG f n l).filter (fun y=>!nm y.farm)=l.filter fun y=>!nm y.farm
 | [],_=>rfl
 |x::r,n=>by
  unfold nG;by_cases e:x.farm=f
  ·rw[if_pos e,List.filter_cons_of_neg (by simp[lH,e,hf]),List.filter_cons_of_neg (by simp[e,hf]),yx hf]
  ·rw[if_neg e];by_cases e2:nm x.farm=true
   ·rw[List.filter_cons_of_neg (by simp[e2]),List.filter_cons_of_neg (by simp[e2]),yx hf]
   ·have e2:nm x.farm=false:=by simpa using e2
    rw[List.filter_cons_of_pos (by simp[e2]),List.filter_cons_of_pos (by simp[e2]),yx hf]
theorem Ew (nm:Int→Bool):∀ (l:List Claim) (r p:Int),amt (l.filter fun y=>!nm y.farm) r p=if nm p=true then 0 else amt l r p
 | [],r,p=>by simp[amt]
 |x::l,r,p=>by
  have ih:=Ew nm l r p;by_cases e:nm x.farm=true
  ·rw[List.filter_cons_of_neg (by simp[e]),ih];split
   ·rfl
   ·rename_i hp;have:¬ (x.right=r∧x.farm=p):=fun q=>hp (by rw[←q.2];exact e);rw[amt,if_neg this];omega
  ·have e':nm x.farm=false:=by simpa using e
   rw[List.filter_cons_of_pos (by simp[e']),amt,ih,amt];by_cases hp:nm p=true
   ·have:¬ (x.right=r∧x.farm=p):=fun q=>e (by rw[q.2];exact hp);rw[if_pos hp,if_pos hp,if_neg this];rfl
   ·rw[if_neg hp,if_neg hp]
theorem Dock.filter {l:List Claim}(d:Dock ρ h l)(p:Claim→Bool):Dock ρ h (l.filter p):=
 ⟨d.s.sublist List.filter_sublist,fun y hy=>d.rk y (List.mem_filter.1 hy).1,fun y hy=>d.hr y (List.mem_filter.1 hy).1,fun y hy=>d.pos y (List.mem_filter.1 hy).1⟩
theorem KP {dd:District}{x:Judgement}(hx:JOk dd x)(h0:x.of_=0){l:List Claim}(i:InvD ρ h R F B N l)(hB:0≤B∧B≤4398046511104)(hN:N≤8192)(hd:Dock ρ h (doJ x l)):
  (∀ nm:Int→Bool,nm x.farm=true→(3≤x.kind→nm x.other=true)→(doJ x l).filter (fun y=>!nm y.farm)=l.filter fun y=>!nm y.farm)∧tot (doJ x l)≤tot l∧(x.kind≠1→x.kind≠2→tot (doJ x l)=tot l):=by
 have hlen:=i.len;have hb:=i.lit;have hL:Lit l:=fun y hy=>by have:=hb y hy;omega
 have hmB:l.length*40≤dq:=by unfold dq;omega
 have hp:∀ y∈l,0≤y.litres∧PlC R F y:=fun y hy=>⟨(hb y hy).1,i.pl y hy⟩;have hk:=hx.kind h0;have hn:0≤x.n∧x.n<4611686018427387904:=by
  by_cases hk1:x.kind=1
  ·rw[hx.none hk1];omega
  ·have:=hx.n hk1 h0;omega
 have nz:(l.filter fun y=>!an y)=l:=List.filter_eq_self.2 fun y hy=>by
  have:=i.d.pos y hy;unfold an;simp;omega
 have kl:∀ n:Int,n=x.n→(∀ nm:Int→Bool,nm x.farm=true→(eI l x.farm n).filter (fun y=>!nm y.farm)=l.filter fun y=>!nm y.farm)∧tot (eI l x.farm n)≤tot l:=fun n e=>by
  subst e;obtain⟨_,_,e⟩:=r7 x l hn.1 hn.2 hL i.d.s hmB;refine⟨fun nm hf=>?_,?_⟩
  ·rw[e,List.filter_filter];have:(fun a=>(!nm a.farm&& !an a))=fun a:Claim=>(!an a&& !nm a.farm):=by funext a;exact Bool.and_comm _ _
   rw[this,←List.filter_filter,yx hf,List.filter_filter];have:(fun a=>(!an a&& !nm a.farm))=fun a:Claim=>(!nm a.farm&& !an a):=by funext a;exact Bool.and_comm _ _
   rw[this,←List.filter_filter,nz]
  ·rw[e,uP];exact(wB x.farm l x.n hn.1 hp).1
 unfold doJ at hd ⊢;by_cases k1:x.kind=1
 ·rw[if_pos k1];obtain⟨q1,q2⟩:=kl 0 (hx.none k1).symm;exact⟨fun nm a _=>q1 nm a,q2,fun a=>absurd k1 a⟩
 rw[if_neg k1]at hd ⊢;by_cases k2:x.kind=2
 ·rw[if_pos k2];obtain⟨q1,q2⟩:=kl x.n rfl;exact⟨fun nm a _=>q1 nm a,q2,fun _ a=>absurd k2 a⟩
 rw[if_neg k2]at hd ⊢;by_cases k3:x.kind=3
 ·rw[if_pos k3]at hd ⊢;have ho:=hx.other (by omega);obtain⟨_,e⟩:=sX l x.farm x.other x.n hB (by omega) hn.1 hn.2 hb;have q:=Am (R:=R) (F:=max F (x.other+1)) (f:=x.farm) (o:=x.other) ⟨ho.1,by omega⟩ l.reverse x.n [] [] hn.1 (fun y hy=>⟨(hp y (by simpa using hy)).1,(hp y (by simpa using hy)).2.1,(hp y (by simpa using hy)).2.2.1,by have:=(hp y (by simpa using hy)).2.2.2;omega⟩) (fun y hy=>by cases hy) (fun y hy=>by cases hy);have p1:=(zf (R:=R) (F:=max F (x.other+1)) (gv x.farm x.other l.reverse x.n [] []).2 (gv x.farm x.other l.reverse x.n [] []).1 q.2.1 q.2.2.1).1;have hR:∀ y∈l.reverse,y.rank=ρ y.right∧y.hour=h∧0≤y.litres:=fun y hy=>by
   have hy:y∈l:=by simpa using hy
   have:=i.d.pos y hy;exact⟨i.d.rk y hy,i.d.hr y hy,by omega⟩
  obtain⟨g1,g2,g3⟩:=Et (ρ:=ρ) (h:=h) (f:=x.farm) (o:=x.other) l.reverse x.n [] [] hn.1 hR ⟨List.Pairwise.nil,(fun y hy=>by cases hy),(fun y hy=>by cases hy),(fun y hy=>by cases hy)⟩ ⟨(fun y hy=>by cases hy),(fun y hy=>by cases hy),(fun y hy=>by cases hy),(fun y hy=>by cases hy)⟩;obtain⟨_,g5⟩:=Eu _ _ g1 g2;have ht:tot (i6 l x.farm x.other x.n)=tot l:=by
   rw[e,p1,q.1,Jl];simp only[tot];omega
  refine⟨fun nm a1 a2=>?_,by omega,fun _ _=>ht⟩;refine zc (hd.filter _) (i.d.filter _) fun r p=>?_;rw[Ew,Ew];split
  ·rfl
  ·rename_i hnp;have n1:p≠x.farm:=fun q=>hnp (by rw[q];exact a1);have n2:p≠x.other:=fun q=>hnp (by rw[q];exact a2 (by omega));have g4:=g3 r p;rw[if_neg n1,if_neg n1]at g4;rw[e,g5,yq (l:=(gv x.farm x.other l.reverse x.n [] []).2) (fun y hy q=>n2 (by rw[←q.2];exact g2.fm y hy))];have:amt l.reverse r p=amt l r p:=BP (List.reverse_perm l) r p;simp only[amt]at g4;omega
 ·rw[if_neg k3]at hd ⊢;exact⟨fun _ _ _=>rfl,Int.le_refl _,fun _ _=>rfl⟩
theorem Jm {dd:District}(a2:List Judgement)(s_0:List Claim×List Claim)(hR:R≤256)(hF:(dd.farms.length:Int)=F)(hB:0≤B∧B≤4398046511104):∀ (L:List Judgement) (N:Nat) (l:List Claim),(∀ x∈L,JOk dd x∧x.of_=0)→InvD ρ h R F B N l→N+256*L.length≤8192→
  (okL (aT a2 s_0) (co a2 s_0) L l∧mZ (aT a2 s_0) L l=.inr (L.foldl (fun s x=>doJ x s) l))∧InvD ρ h R F B (N+256*L.length) (L.foldl (fun s x=>doJ x s) l)∧
  (∀ nm:Int→Bool,(∀ x∈L,nm x.farm=true∧(3≤x.kind→nm x.other=true))→(L.foldl (fun s x=>doJ x s) l).filter (fun y=>!nm y.farm)=l.filter fun y=>!nm y.farm)∧tot (L.foldl (fun s x=>doJ x s) l)≤tot l∧((∀ x∈L,x.kind≠1∧x.kind≠2)→tot (L.foldl (fun s x=>doJ x s) l)=tot l)
 | [],N,l,_,i,_=>⟨⟨trivial,rfl⟩,by simpa using i,fun _ _=>rfl,Int.le_refl _,fun _=>rfl⟩
 |x::L,N,l,hx,i,hN=>by
  have h1:=hx x (by simp);simp only[List.length_cons]at hN ⊢;obtain⟨e1,e2,e3⟩:=i.step h1.1 h1.2 hR hF hB (by omega) a2 s_0;obtain⟨f1,f2,f3⟩:=KP h1.1 h1.2 i hB (by omega) e3.d;obtain⟨⟨q1,q2⟩,q3,q4,q5,q6⟩:=Jm a2 s_0 hR hF hB L (N+256) (doJ x l) (fun y hy=>hx y (by simp[hy])) e3 (by omega);rw[List.foldl_cons];refine⟨⟨⟨e2,fun s' e=>?_⟩,?_⟩,?_,fun nm hnm=>?_,by omega,fun hk=>?_⟩
  ·rw[e1]at e;cases e;exact q1
  ·simp only[mZ,e1];exact q2
  ·rw[show N+256*(L.length+1)=N+256+256*L.length by omega];exact q3
  ·rw[q4 nm (fun y hy=>hnm y (by simp[hy]))];have:=hnm x (by simp);exact f1 nm this.1 this.2
  ·rw[q6 fun y hy=>hk y (by simp[hy])];have:=hk x (by simp);exact f3 this.1 this.2
end
theorem KQ (j:List Judgement)(h:Int):gz j h ((az j h).map tq):=by
 have e:=kf j h;have key:∀ (R A:List Judgement) (k:Nat) (s:List Judgement),j=A++R→A.length=k→s=(A.filter fun x=>bh j x h)→
   okI (cV j h) (fj j h ((az j h).map tq)) R.length k s:=fun R=>by
  induction R with
  |nil=>exact fun A k s _ _ _=>trivial
  |cons y R ih=>
   intro A k s hj hk hs;have g:j.getD k default=y:=by rw[hj];exact gV A y default R hk.symm
   have hj':j=(A++[y])++R:=by rw[hj];simp
   refine⟨?_,fun s' e'=>?_⟩
   ·unfold fj;rw[g,zd];refine⟨fun hc=>?_,fun hc=>?_⟩
    ·rw[e];have hm:(j.filter fun x=>bh j x h)=s++y::(R.filter fun x=>bh j x h):=by
      have:(j.filter fun x=>bh j x h)=((A++y::R).filter fun x=>bh j x h):=by rw[←hj]
      rw[this,List.filter_append,List.filter_cons_of_pos (by exact hc),←hs]
     rw[hm];simp
    ·exact hc
   ·unfold cV at e';rw[g,zd]at e';refine ih (A++[y]) (k+1) s' hj' (by simp[hk]) ?_;cases hc:bh j y h with
    |true=>
     rw[hc]at e';simp only[cond_true,Sum.inr.injEq]at e';rw[List.filter_append,List.filter_cons_of_pos (by exact hc),←hs,←e'];rfl
    |false=>
     rw[hc]at e';simp only[cond_false,Sum.inr.injEq]at e';rw[List.filter_append,List.filter_cons_of_neg (by rw[hc];simp),←hs,←e'];simp
 intro _;refine⟨key j [] 0 [] rfl rfl rfl,fun s hs=>?_⟩;rw[sY j h j [] 0 [] rfl rfl]at hs;simp only[Sum.inr.injEq]at hs;rw[←hs,e];simp
structure Given (d:District)(j:List Judgement)(c:List Claim):Prop where
 js:∀ x∈j,JOk d x
 jl:j.length≤20
 cs:∀ x∈c,FineC d x
 st:c.Pairwise wG
 cl:c.length≤300
 rl:d.rights.length≤256
theorem Given.sub {d:District}{j:List Judgement}{c c':List Claim}(g:Given d j c)(h:c'.Sublist c):Given d j c':=
 ⟨g.js,g.jl,fun x hx=>g.cs x (h.subset hx),g.st.sublist h,Nat.le_trans h.length_le g.cl,g.rl⟩
def rho (d:District)(r:Int):Int:=(d.rights.getD r.toNat default).rank
def Ey:Int:=322122547200
theorem Ny {b:Int}(hb:0≤b):∀ {l:List Claim},(∀ y∈l,y.litres≤b)→∀ {n:Nat},l.length≤n→tot l≤n*b
 | [],_,n,_=>by
  have:=Int.mul_nonneg (show 0≤(n:Int) by omega) hb;simpa[tot]using this
 |x::l,h,n,hn=>by
  have h1:=h x (by simp);obtain⟨m,rfl⟩:∃ m,n=m+1:=⟨n - 1,by simp only[List.length_cons]at hn;omega⟩;have:=Ny hb (l:=l) (fun y hy=>h y (by simp[hy])) (n:=m) (by simp only[List.length_cons]at hn;omega);have e:((m+1:Nat):Int)*b=m*b+b:=Qd m b;rw[tot,e];omega
theorem Nz {a b:Claim}(h:wG a b)(e:a.hour=b.hour):tlt a b:=by
 unfold wG su at h;rcases h with h|h
 ·omega
 ·exact h.2
theorem Given.start {d:District}{j:List Judgement}{c:List Claim}(g:Given d j c){h:Int}(hh:∀ x∈c,x.hour=h):InvD (rho d) h d.rights.length d.farms.length Ey 300 c:=by
 refine⟨⟨?_,fun y hy=>(g.cs y hy).rank.symm,hh,fun y hy=>by have:=(g.cs y hy).l0;omega⟩,fun y hy=>?_,?_,g.cl⟩
 ·exact g.st.imp_of_mem fun {a b} ha hb hab=>Nz hab (by rw[hh a ha,hh b hb])
 ·have:=g.cs y hy;exact⟨⟨this.r0,this.r1⟩,this.f0,this.f1⟩
 ·have:=Ny (b:=1073741824) (by omega) (fun y hy=>(g.cs y hy).l1) g.cl;unfold Ey;omega
theorem Given.hour {d:District}{j:List Judgement}{c:List Claim}(g:Given d j c){h:Int}(hh:∀ x∈c,x.hour=h)(a2:List Judgement)(s_0:List Claim×List Claim):
  (okL (aT a2 s_0) (co a2 s_0) (az j h) c∧mZ (aT a2 s_0) (az j h) c=.inr (doH j h c))∧InvD (rho d) h d.rights.length d.farms.length Ey 5420 (doH j h c)∧
  (∀ nm:Int→Bool,(∀ x∈j,x.of_=0→nm x.farm=true∧(3≤x.kind→nm x.other=true))→(doH j h c).filter (fun y=>!nm y.farm)=c.filter fun y=>!nm y.farm)∧tot (doH j h c)≤tot c∧((∀ x∈j,x.of_=0→x.kind≠1∧x.kind≠2)→tot (doH j h c)=tot c):=by
 have hin:∀ x∈az j h,x∈j∧x.of_=0:=fun x hx=>by
  rw[kf]at hx;have:=List.mem_filter.1 hx;exact⟨this.1,uO this.2⟩
 have hlen:(az j h).length≤20:=by
  rw[kf];have:=List.length_filter_le (fun x=>bh j x h) j;have:=g.jl;omega
 obtain⟨q1,q2,q3,q4,q5⟩:=Jm a2 s_0 (by have:=g.rl;omega) rfl (by unfold Ey;omega) (az j h) 300 c (fun x hx=>⟨g.js x (hin x hx).1,(hin x hx).2⟩) (g.start hh) (by omega);have e:doH j h c=(az j h).foldl (fun s x=>doJ x s) c:=by rw[kf];rfl
 rw[e];refine⟨q1,⟨q2.d,q2.pl,q2.tt,?_⟩,fun nm hnm=>q3 nm fun x hx=>hnm x (hin x hx).1 (hin x hx).2,q4,fun hk=>q5 fun x hx=>hk x (hin x hx).1 (hin x hx).2⟩;have:=q2.len;omega
theorem Jn {q:Claim→Bool}:∀ {K:List Claim} {x:Claim} {R:List Claim},(∀ y∈K,q y=true)→q x=false→(K++x::R).takeWhile q=K∧(K++x::R).dropWhile q=x::R
 | [],x,R,_,hx=>by
  rw[List.nil_append,List.takeWhile_cons_of_neg (by rw[hx];simp),List.dropWhile_cons_of_neg (by rw[hx];simp)];exact⟨rfl,rfl⟩
 |y::K,x,R,h,hx=>by
  obtain⟨p1,p2⟩:=Jn (R:=R) (fun z hz=>h z (List.mem_cons_of_mem _ hz)) hx;rw[List.cons_append,List.takeWhile_cons_of_pos (h y (by simp)),List.dropWhile_cons_of_pos (h y (by simp)),p1,p2];exact⟨rfl,rfl⟩
theorem Gt {q:Claim→Bool}:∀ {K:List Claim},(∀ y∈K,q y=true)→K.takeWhile q=K∧K.dropWhile q=[]
 | [],_=>⟨rfl,rfl⟩
 |y::K,h=>by
  obtain⟨p1,p2⟩:=Gt fun z hz=>h z (List.mem_cons_of_mem _ hz);rw[List.takeWhile_cons_of_pos (h y (by simp)),List.dropWhile_cons_of_pos (h y (by simp)),p1,p2];exact⟨rfl,rfl⟩
theorem XA (y:Claim)(r:List Claim):cG (y::r) (y::r)∧(bif(decide ((ag (y::r) (y::r)) <0))then((y::r).length:Int)else(ag (y::r) (y::r)))=((y::r.takeWhile fun z=>z.hour==y.hour).length:Int):=by
 refine⟨fun _=>mL _ _ _ fun k _ _ _=>⟨by omega,by simp only[List.length_cons];omega⟩,?_⟩;unfold ag;rcases yn (step:=cA (y::r) (y::r)) (y::r) default (fun z=>!(z.hour==y.hour)) (fun k _=>rfl)with⟨e,h⟩ | ⟨K,x,T,h1,e,h2,h3⟩
 ·rw[e];obtain⟨p1,_⟩:=Gt (q:=fun z=>z.hour==y.hour) (K:=r) fun z hz=>by have:=h z (by simp[hz]);simpa using this
  rw[p1];rfl
 ·rw[e];have hd:decide ((K.length:Int) <0)=false:=decide_eq_false (by omega);simp only[hd,cond_false];cases K with
  |nil=>
   simp only[List.nil_append,List.cons.injEq]at h1;rw[←h1.1]at h2;simp at h2
  |cons k K=>
   simp only[List.cons_append,List.cons.injEq]at h1;obtain⟨p1,_⟩:=Jn (q:=fun z=>z.hour==y.hour) (K:=K) (x:=x) (R:=T) (fun z hz=>by have:=h3 z (by simp[hz]);simpa using this) (by simpa using h2);rw[h1.2,p1];simp
theorem zg (q:Claim→Bool):∀ r:List Claim,r.take (r.takeWhile q).length=r.takeWhile q∧r.drop (r.takeWhile q).length=r.dropWhile q
 | [] =>⟨rfl,rfl⟩
 |x::r=>by
  obtain⟨p1,p2⟩:=zg q r;by_cases h:q x=true
  ·rw[List.takeWhile_cons_of_pos h,List.dropWhile_cons_of_pos h];rw[List.length_cons,List.take_succ_cons,List.drop_succ_cons,p1,p2];exact⟨rfl,rfl⟩
  ·rw[List.takeWhile_cons_of_neg h,List.dropWhile_cons_of_neg h];exact⟨rfl,rfl⟩
theorem Dk (q:Claim→Bool):∀ (r:List Claim),∀ x∈r.takeWhile q,q x=true
 | [],x,hx=>by cases hx
 |y::r,x,hx=>by
  by_cases h:q y=true
  ·rw[List.takeWhile_cons_of_pos h]at hx;rcases List.mem_cons.1 hx with rfl|hx
   ·exact h
   ·exact Dk q r x hx
  ·rw[List.takeWhile_cons_of_neg h]at hx;cases hx
section
variable {d:District}{j:List Judgement}
theorem Given.head {y:Claim}{r:List Claim}(g:Given d j (y::r)):Given d j (y::r.takeWhile fun z=>z.hour==y.hour)∧(∀ x∈(y::r.takeWhile fun z=>z.hour==y.hour),x.hour=y.hour)∧Given d j (r.dropWhile fun z=>z.hour==y.hour)∧(r.takeWhile fun z=>z.hour==y.hour).length+(r.dropWhile fun z=>z.hour==y.hour).length=r.length:=by
 refine⟨g.sub (List.Sublist.cons_cons _ (List.takeWhile_sublist _)),fun x hx=>?_,g.sub ((List.dropWhile_sublist _).trans (List.sublist_cons_self _ _)),?_⟩
 ·rcases List.mem_cons.1 hx with rfl|hx
  ·rfl
  ·simpa using Dk _ r x hx
 ·rw[←List.length_append,List.takeWhile_append_dropWhile]
theorem Gu (a1:List Claim):∀ (k i:Nat) (R acc:List Claim),R.length<k→Given d j R→acc.length+5420*R.length≤1626000→
  okI (bS a1 j) (f_ a1 j) k i (R,acc)∧aw (bS a1 j) k i (R,acc)=.inl (acc++exS j k R)
 |0,_,_,_,hk,_,_=>absurd hk (Nat.not_lt_zero _)
 |k+1,i,[],acc,_,_,_=>by
  refine⟨⟨fun _ h=>?_,fun s' e=>?_⟩,?_⟩
  ·have:=of_decide_eq_true h;simp at this
  ·cases e
  ·simp[aw,bS,exS]
 |k+1,i,y::r,acc,hk,g,hl=>by
  obtain⟨c1,c2⟩:=XA y r;obtain⟨g1,g2,g3,g4⟩:=g.head;obtain⟨⟨q1,q2⟩,q3,_⟩:=g1.hour g2 j (y::r,acc);obtain⟨t1,t2⟩:=zg (fun z=>z.hour==y.hour) r;have hd:decide (((y::r).length:Int) > 0)=true:=decide_eq_true (by simp only[List.length_cons];omega);have e1:((y::r).take (Int.toNat (((y::r.takeWhile fun z=>z.hour==y.hour).length:Nat):Int))).drop 0=y::r.takeWhile fun z=>z.hour==y.hour:=by
   rw[Int.toNat_natCast,List.length_cons,List.take_succ_cons,t1];rfl
  have e2:((y::r).take (Int.toNat ((y::r).length:Int))).drop (Int.toNat (((y::r.takeWhile fun z=>z.hour==y.hour).length:Nat):Int))=r.dropWhile fun z=>z.hour==y.hour:=by
   rw[Int.toNat_natCast,Int.toNat_natCast,List.take_length,List.length_cons,List.drop_succ_cons,t2]
  have g0:(y::r).getD 0 default=y:=rfl;have hstep:bS a1 j i (y::r,acc)=.inr (r.dropWhile (fun z=>z.hour==y.hour),acc++doH j y.hour (y::r.takeWhile fun z=>z.hour==y.hour)):=by
   simp only[bS,hd,cond_true,c2,e1,e2,g0,q2]
  have hlen:=q3.len;have hcl:=g.cl;simp only[List.length_cons]at hk hl hcl;obtain⟨r1,r2⟩:=Gu a1 k (i+1) (r.dropWhile fun z=>z.hour==y.hour) (acc++doH j y.hour (y::r.takeWhile fun z=>z.hour==y.hour)) (by omega) g3 (by rw[List.length_append];omega);refine⟨⟨fun _ _=>?_,fun s' e=>?_⟩,?_⟩
  ·rw[c2,e1,g0];refine⟨c1,⟨by omega,by omega,by simp only[List.length_cons];omega⟩,?_,⟨by omega,by simp only[List.length_cons];omega⟩,KQ j y.hour,q1,fun s_1 hs=>?_⟩
   ·simp only[List.length_cons];unfold dq;omega
   ·rw[q2]at hs;simp only[Sum.inr.injEq]at hs;subst hs;refine⟨by show(acc++doH j y.hour (y::r.takeWhile fun z=>z.hour==y.hour)).length*40≤dq;rw[List.length_append];unfold dq;omega,fun _=>⟨by omega,by simp only[List.length_cons];omega,by omega⟩⟩
  ·rw[hstep]at e;simp only[Sum.inr.injEq]at e;subst e;exact r1
  ·simp only[aw,hstep];rw[r2,exS,List.append_assoc]
theorem BW (g:∀ x∈j,JOk d x)(hr:d.rights.length≤256)(h:Int)(l0:List Claim):∀ (R A:List Judgement) (k N:Nat) (s:List Claim),j=A++R→A.length=k→InvD (rho d) h d.rights.length d.farms.length Ey N s→N+256*R.length≤8192→okI (kP j h) (uY j h) R.length k s
 | [],_,_,_,_,_,_,_,_=>trivial
 |y::R,A,k,N,s,hj,hk,i,hN=>by
  have gd:j.getD k default=y:=by rw[hj];exact gV A y default R hk.symm
  have hj':j=(A++[y])++R:=by rw[hj];simp
  simp only[List.length_cons]at hN;have hy:=g y (by rw[hj];simp);have hb:=i.lit;have hlen:=i.len;have hB:(0:Int)≤Ey∧Ey≤4398046511104:=by unfold Ey;omega
  have hL:Lit s:=fun y hy=>by have:=hb y hy;omega
  have hmB:s.length*40≤dq:=by unfold dq;omega
  have hp:=fun(h0:y.of_=0) =>i.step hy h0 (by omega) rfl hB (by omega) j (s,s);refine⟨fun _ hc=>?_,fun s' e=>?_⟩
  ·rw[gd]at hc ⊢;have h0:y.of_=0:=uO (by simpa using hc);have hn:0≤y.n∧y.n<4611686018427387904:=by
    by_cases hk1:y.kind=1
    ·rw[hy.none hk1];omega
    ·have:=hy.n hk1 h0;omega
   have kl:=(r7 y s hn.1 hn.2 hL i.d.s hmB).1.2.2;refine⟨fun k1=>?_,fun _=>⟨fun _=>kl,fun _ k3=>?_⟩⟩
   ·have k1:y.kind=1:=by simpa using k1
    rw[hy.none k1]at kl;exact kl
   ·have k3:y.kind=3:=by simpa using k3
    exact(Jj y s (hy.other (by omega)).2.2 hB i.d hb (by omega) hn.1 hn.2).1.2.2
  ·rw[Di j h y k s gd]at e;simp only[Sum.inr.injEq]at e;subst e;refine BW g hr h l0 R (A++[y]) (k+1) (N+256) _ hj' (by simp[hk]) ?_ (by omega);by_cases hc:bh j y h=true
   ·rw[if_pos hc];exact(hp (uO hc)).2.2
   ·rw[if_neg hc];exact⟨i.d,i.pl,i.tt,by omega⟩
theorem Ez (a1 acc A:List Claim)(y:Claim)(r:List Claim)(ha:a1=A++y::r)(hm:a1.length<1000):∀ (T K:List Claim) (n i:Nat),y::r=K++T→(∀ x∈K,x.hour=y.hour)→T.length<n→
  okI (b7 a1 (acc,(A.length:Int))) (n8 a1 (acc,(A.length:Int))) n i ((A.length+K.length:Nat):Int)∧aw (b7 a1 (acc,(A.length:Int))) n i ((A.length+K.length:Nat):Int)=.inl ((A.length+(K++T.takeWhile fun z=>z.hour==y.hour).length:Nat):Int)
 |T,K,0,_,_,_,hn=>absurd hn (Nat.not_lt_zero _)
 |T,K,n+1,i,hT,hK,hn=>by
  have ga:a1.getD A.length default=y:=by rw[ha];exact gV A y default r rfl
  have hla:a1.length=A.length+(K.length+T.length):=by rw[ha,hT];simp
  have hpos:0< (K++T).length:=by rw[←hT];simp
  rw[List.length_append]at hpos;refine⟨⟨fun _=>⟨fun h=>?_,fun _=>⟨by omega,?_⟩⟩,fun s' e=>?_⟩,?_⟩
  ·have:=of_decide_eq_true h;exact⟨by omega,this⟩
  ·show(A.length:Int) <_;omega
  ·cases T with
   |nil=>
    have hd:decide (((A.length+K.length:Nat):Int) < (a1.length:Int))=false:=decide_eq_false (by simp only[List.length_nil]at hla;omega);simp only[b7,hd,Bool.false_and,cond_false]at e;cases e
   |cons x T=>
    have gx:a1.getD (A.length+K.length) default=x:=by
     rw[ha,hT,←List.append_assoc];exact gV (A++K) x default T (by simp)
    have hd:decide (((A.length+K.length:Nat):Int) < (a1.length:Int))=true:=decide_eq_true (by simp only[List.length_cons]at hla;omega);simp only[b7,hd,Bool.true_and,Int.toNat_natCast,gx,ga]at e;cases hx:x.hour==y.hour with
    |false=>rw[hx]at e;cases e
    |true=>
     rw[hx,f6 (by omega) (by omega)]at e;simp only[cond_true,Sum.inr.injEq]at e;have:=Ez a1 acc A y r ha hm T (K++[x]) n (i+1) (by rw[hT];simp) (fun z hz=>by
      rcases List.mem_append.1 hz with hz|hz
      ·exact hK z hz
      ·rw[List.mem_singleton.1 hz];simpa using hx) (by simp only[List.length_cons]at hn;omega)
     rw[List.length_append,List.length_singleton]at this;rw[←e,show((A.length+K.length:Nat):Int)+1=((A.length+(K.length+1):Nat):Int) by omega];exact this.1
  ·cases T with
   |nil=>
    have hd:decide (((A.length+K.length:Nat):Int) < (a1.length:Int))=false:=decide_eq_false (by simp only[List.length_nil]at hla;omega);simp only[aw,b7,hd,Bool.false_and,cond_false];simp
   |cons x T=>
    have gx:a1.getD (A.length+K.length) default=x:=by
     rw[ha,hT,←List.append_assoc];exact gV (A++K) x default T (by simp)
    have hd:decide (((A.length+K.length:Nat):Int) < (a1.length:Int))=true:=decide_eq_true (by simp only[List.length_cons]at hla;omega);simp only[aw,b7,hd,Bool.true_and,Int.toNat_natCast,gx,ga];cases hx:x.hour==y.hour with
    |false=>
     simp only[cond_false];rw[List.takeWhile_cons_of_neg (by rw[hx];simp)];simp
    |true=>
     simp only[cond_true];rw[f6 (by omega) (by omega)];have:=Ez a1 acc A y r ha hm T (K++[x]) n (i+1) (by rw[hT];simp) (fun z hz=>by
      rcases List.mem_append.1 hz with hz|hz
      ·exact hK z hz
      ·rw[List.mem_singleton.1 hz];simpa using hx) (by simp only[List.length_cons]at hn;omega)
     rw[List.length_append,List.length_singleton]at this;rw[show((A.length+K.length:Nat):Int)+1=((A.length+(K.length+1):Nat):Int) by omega];rw[this.2,List.takeWhile_cons_of_pos (by exact hx)];simp
theorem Jo (a1:List Claim)(hm:a1.length≤300):∀ (k i:Nat) (R A acc:List Claim),a1=A++R→R.length<k→Given d j R→acc.length+5420*R.length≤1626000→
  okI (dx a1 j) (n9 a1 j) k i (acc,(A.length:Int))∧aw (dx a1 j) k i (acc,(A.length:Int))=.inl (acc++exS j k R)
 |0,_,_,_,_,_,hk,_,_=>absurd hk (Nat.not_lt_zero _)
 |k+1,i,[],A,acc,ha,_,_,_=>by
  have hd:decide ((A.length:Int) < (a1.length:Int))=false:=decide_eq_false (by rw[ha];simp);refine⟨⟨fun _ h=>?_,fun s' e=>?_⟩,?_⟩
  ·rw[hd]at h;cases h
  ·simp only[dx,hd,cond_false]at e;cases e
  ·simp only[aw,dx,hd,cond_false,exS];simp
 |k+1,i,y::r,A,acc,ha,hk,g,hl=>by
  obtain⟨g1,g2,g3,g4⟩:=g.head;obtain⟨⟨q1,q2⟩,q3,_⟩:=g1.hour g2 j (y::r,acc);have hla:a1.length=A.length+(r.length+1):=by rw[ha];simp
  have hd:decide ((A.length:Int) < (a1.length:Int))=true:=decide_eq_true (by omega);have hc:=Ez a1 acc A y r ha (by omega) (y::r) [] (a1.length+1) 0 rfl (fun x hx=>by cases hx) (by simp only[List.length_cons];omega);rw[List.nil_append,List.takeWhile_cons_of_pos (by simp)]at hc;have c1:okI (b7 a1 (acc,(A.length:Int))) (n8 a1 (acc,(A.length:Int))) (a1.length+1) 0 (A.length:Int):=hc.1;have c2:aw (b7 a1 (acc,(A.length:Int))) (a1.length+1) 0 (A.length:Int)=.inl ((A.length+(y::r.takeWhile fun z=>z.hour==y.hour).length:Nat):Int):=hc.2;obtain⟨t1,t2⟩:=zg (fun z=>z.hour==y.hour) r;have e1:(a1.take (Int.toNat ((A.length+(y::r.takeWhile fun z=>z.hour==y.hour).length:Nat):Int))).drop (Int.toNat (A.length:Int))=y::r.takeWhile fun z=>z.hour==y.hour:=by
   rw[Int.toNat_natCast,Int.toNat_natCast,ha,List.take_length_add_append,List.drop_left,List.length_cons,List.take_succ_cons,t1]
  have ga:a1.getD (Int.toNat (A.length:Int)) default=y:=by rw[Int.toNat_natCast,ha];exact gV A y default r rfl
  have hh:pK (y::r.takeWhile fun z=>z.hour==y.hour) j y.hour=doH j y.hour (y::r.takeWhile fun z=>z.hour==y.hour):=by
   rw[Qe,kf];rfl
  have hstep:dx a1 j i (acc,(A.length:Int))=.inr (acc++doH j y.hour (y::r.takeWhile fun z=>z.hour==y.hour),((A.length+(y::r.takeWhile fun z=>z.hour==y.hour).length:Nat):Int)):=by
   unfold dx;simp only[hd,cond_true];rw[c2];simp only[e1,ga,hh]
  have hlen:=q3.len;have hcl:=g.cl;simp only[List.length_cons]at hk hl hcl;have ha2:a1=(A++y::r.takeWhile fun z=>z.hour==y.hour)++r.dropWhile fun z=>z.hour==y.hour:=by
   rw[ha,List.append_assoc,List.cons_append,List.takeWhile_append_dropWhile]
  obtain⟨r1,r2⟩:=Jo a1 hm k (i+1) (r.dropWhile fun z=>z.hour==y.hour) (A++y::r.takeWhile fun z=>z.hour==y.hour) (acc++doH j y.hour (y::r.takeWhile fun z=>z.hour==y.hour)) ha2 (by omega) g3 (by rw[List.length_append];omega);rw[List.length_append]at r1 r2;refine⟨⟨fun _ _=>⟨c1,fun z hz=>?_,fun x hx=>?_⟩,fun s' e=>?_⟩,?_⟩
  ·have hz:aw (b7 a1 (acc,(A.length:Int))) (a1.length+1) 0 (A.length:Int)=.inr z:=hz;rw[c2]at hz;cases hz
  ·have hx:aw (b7 a1 (acc,(A.length:Int))) (a1.length+1) 0 (A.length:Int)=.inl x:=hx;rw[c2]at hx;simp only[Sum.inl.injEq]at hx;subst hx;show(0≤(A.length:Int)∧(A.length:Int)≤_∧_)∧(0≤(A.length:Int)∧(A.length:Int) <_)∧yi ((a1.take (Int.toNat _)).drop (Int.toNat (A.length:Int))) j (a1.getD (Int.toNat (A.length:Int)) default).hour∧(acc++pK ((a1.take (Int.toNat _)).drop (Int.toNat (A.length:Int))) j (a1.getD (Int.toNat (A.length:Int)) default).hour).length*40≤dq;rw[e1,ga];have hlj:=g.jl;refine⟨⟨by omega,by omega,?_⟩,⟨by omega,by omega⟩,?_,?_⟩
   ·simp only[List.length_cons];omega
   ·exact BW g.js g.rl y.hour [] j [] 0 300 _ rfl rfl (g1.start g2) (by omega)
   ·rw[hh,List.length_append];unfold dq;omega
  ·rw[hstep]at e;simp only[Sum.inr.injEq]at e;subst e;exact r1
  ·simp only[aw,hstep];rw[r2,exS,List.append_assoc]
end
def cX (n:Int)(most:Int):Bool:=((decide (n≥0))&&(decide (n≤most)))
@[go_sem] def nf:List SV→Option Con:=(pI fun n=>(pI fun most=>(pE (.det True (.v (.bool (cX n most)))))))
theorem qy:FnOk Tryz.prog 129 nf:=by
 have hG:ConsOk Tryz.prog (mkG [] []):=av cg0 cg0;refine ay [.o] mixed ap hG (fn:=Tryz.f129) (c:=ae Tryz.f129) kr kr kr kr (dh fun n=>(dh fun most=>(ak (fun hp=>?_))));dsimp only[ax]at hp;refine⟨nbl rfl,L0,ah _,?_⟩
 ·unfold ae Tryz.f129;try unfold cX
  exact zq1
def fc (s_:Int)(t:Int):Bool:=((xJ .u64 s_ t) ==0)
@[go_sem] def nh:List SV→Option Con:=(pU fun s_=>(pU fun t=>(pE (.det True (.v (.bool (fc s_ t)))))))
theorem qz:FnOk Tryz.prog 81 nh:=by
 have hG:ConsOk Tryz.prog (mkG [] []):=av cg0 cg0;refine ay [.o] mixed ap hG (fn:=Tryz.f81) (c:=ae Tryz.f81) kr kr kr kr (HQ fun s_=>(HQ fun t=>(ak (fun hp=>?_))));dsimp only[ax]at hp;refine⟨nbl rfl,L0,ah _,?_⟩
 ·unfold ae Tryz.f81;try unfold fc
  exact zq1
@[go_sem] def pV (l_:List Int)(many:Int)(k_0:Nat)(s_0:Int×Int):Unit⊕(Int×Int):=(bif((decide ((l_.getD k_0 (0:Int))≤s_0.2)) ||(decide ((l_.getD k_0 (0:Int))≥many)))then .inl ()else .inr ((orI .u64 s_0.1 (K2 .u64 1 (l_.getD k_0 (0:Int)))),(l_.getD k_0 (0:Int))))
def ix (l_:List Int)(many:Int)(k_0:Nat)(s_0:Int×Int):Prop:=(((decide ((l_.getD k_0 (0:Int))≤s_0.2)) ||(decide ((l_.getD k_0 (0:Int))≥many)))=false→0≤(l_.getD k_0 (0:Int)))
def aS (l_:List Int)(many:Int):Int×Bool:=(match aw (pV l_ many) l_.length 0 (0,(-1))with| .inl x_0_0=>(0,false) | .inr s_0=>(s_0.1,true))
def g7 (l_:List Int)(many:Int):Prop:=(l_.length≤aQ→okI (pV l_ many) (ix l_ many) l_.length 0 (0,(-1)))
@[go_sem] def qS:List SV→Option Con:=(pR .int fun l_=>(pI fun many=>(pE (.det (g7 l_ many) (.tup [.v (.int .u64 ((aS l_ many).1)),.v (.bool ((aS l_ many).2))])))))
theorem ua:FnOk Tryz.prog 130 qS:=by
 have hG:ConsOk Tryz.prog (mkG [] []):=av cg0 cg0;refine ay [.o,.o] mixed ap hG (fn:=Tryz.f130) (c:=ae Tryz.f130) kr kr kr kr (bY fun l_=>(dh fun many=>(ak (fun hp=>?_))));dsimp only[ax]at hp;unfold g7 at hp;refine⟨nbl rfl,(fun id st=>bif Nat.beq id 0 then some (LCR (ρ:=Unit) (σ:=(Int×Int)) 0 [] [] (fun k_0 s_0=>⟨[(1,.v (.int .i64 many)),(4,.v (.int .u64 s_0.1)),(6,.v (.int .i64 s_0.2)),(9,.rs .int l_),(10,.v (.int .i64 (l_.length:Int))),(11,.v (.int .i64 (k_0:Int)))],[]⟩) (pV l_ many) (ix l_ many) l_.length (0,(-1)) (l_.length≤aQ) (fun _=>.ret) (fun x_0_0=>⟨[(4,.v (.int .u64 0)),(5,.v (.bool false))],[]⟩) st)else none),?_,?_⟩
 ·unfold ae Tryz.f130;simp only[aq,true_and,and_true]
  ·refine aY mixed ap hG kr (fun _=>rfl) (l_.length:Int) rfl im (fun hb0 k_0 s_0 hlt0 hq0 hw hc=>⟨L0,ah _,?_⟩) (fun hb0 s_0 hc=>?_)
   ·unfold ix at hq0;try simp only[hw,Int.toNat_natCast]at hq0
    exact bZ (jl [])
   ·exact bQ (jl [])
 ·unfold ae Tryz.f130;try unfold aS
  exact zq1
end Go.Sx
end
section
namespace Go.Sx
@[go_sem] theorem KR {ts:Tis}{G:Cons}{L:tF}{t:List (Nat×SV)}{h:List Ob}{Q:Ex→St→Prop}{id j:Nat}{c:Code}:exec ts G L (.block id (.block j c)) ⟨t,h⟩ Q=exec ts G L (.block j c) ⟨t,h⟩ (Ex.block id Q):=(rfl)
def pXU {α:Type 1}(k:Int→List SV→Option α):List SV→Option α
 | .ep [.v (.int .u64 n)] 0::r=>k n r
 |_=>none
@[go_sem] theorem aan {α:Type 1}{k:Int→List SV→Option α}{n:Int}{r:List SV}:pXU k (.ep [.v (.int .u64 n)] 0::r)=k n r:=(rfl)
theorem Jp {α:Type 1}{G:List SV→α→Prop}{k:Int→List SV→Option α}(h:∀ n l c,k n l=some c→G (.ep [.v (.int .u64 n)] 0::l) c):∀ l c,pXU k l=some c→G l c:=by
 intro l c hc;unfold pXU at hc;split at hc
 ·exact h _ _ _ hc
 ·cases hc
end Go.Sx
end
section
namespace Go.Sx
open Go.Proofs
open IntKind (i64)
@[go_sem] def c8 (a0:Cases)(k_0:Nat)(s_0:Int×Int):(Int×Int)⊕(Int×Int):=(bif(!(cX (a0.sides.getD k_0 (0:Int)) 1))then .inl (s_0.1,s_0.2)else(bif(decide ((a0.sides.getD k_0 (0:Int))=0))then .inr ((orI .u64 s_0.1 (K2 .u64 1 (k_0:Int))),s_0.2)else(bif(decide ((a0.sides.getD k_0 (0:Int))=1))then .inr (s_0.1,(orI .u64 s_0.2 (K2 .u64 1 (k_0:Int))))else .inr default)))
def gJ (a0:Cases)(k_0:Nat)(s_0:Int×Int):Prop:=((!(cX (a0.sides.getD k_0 (0:Int)) 1))=false→(((decide ((a0.sides.getD k_0 (0:Int))=0))=true→0≤(k_0:Int))∧((decide ((a0.sides.getD k_0 (0:Int))=0))=false→(((decide ((a0.sides.getD k_0 (0:Int))=1))=true→0≤(k_0:Int))∧((decide ((a0.sides.getD k_0 (0:Int))=1))=false→False)))))
@[go_sem] def oa (a0:Cases)(s_0:Int×Int)(k_1:Nat)(s_1:List PrecedentsDecided×Int×Int×Int):(List PrecedentsDecided)⊕(List PrecedentsDecided×Int×Int×Int):=(bif(((((decide ((a0.cases.getD k_1 (default:Case)).no≤s_1.2.1)) ||(!(cX ((a0.cases.getD k_1 (default:Case)).no) 1048576))) ||(decide ((a0.cases.getD k_1 (default:Case)).hour<s_1.2.2.1))) ||(!(cX ((a0.cases.getD k_1 (default:Case)).hour) 4096))) ||(!(cX ((a0.cases.getD k_1 (default:Case)).winner) 1)))then .inl s_1.1 else(bif(decide ((a0.cases.getD k_1 (default:Case)).winner=0))then(bif(((!(aS ((a0.cases.getD k_1 (default:Case)).facts) (a0.sides.length:Int)).2) ||(!(aS ((a0.cases.getD k_1 (default:Case)).reason) (a0.sides.length:Int)).2)) ||(!(fc ((aS ((a0.cases.getD k_1 (default:Case)).reason) (a0.sides.length:Int)).1) (EP .u64 ((aS ((a0.cases.getD k_1 (default:Case)).facts) (a0.sides.length:Int)).1) s_0.1))))then .inl s_1.1 else .inr ((s_1.1++([({ winner:=(a0.cases.getD k_1 (default:Case)).winner,facts:=(aS ((a0.cases.getD k_1 (default:Case)).facts) (a0.sides.length:Int)).1,reason:=(aS ((a0.cases.getD k_1 (default:Case)).reason) (a0.sides.length:Int)).1}:PrecedentsDecided)])),(a0.cases.getD k_1 (default:Case)).no,(a0.cases.getD k_1 (default:Case)).hour,(a0.cases.getD k_1 (default:Case)).winner))else(bif(decide ((a0.cases.getD k_1 (default:Case)).winner=1))then(bif(((!(aS ((a0.cases.getD k_1 (default:Case)).facts) (a0.sides.length:Int)).2) ||(!(aS ((a0.cases.getD k_1 (default:Case)).reason) (a0.sides.length:Int)).2)) ||(!(fc ((aS ((a0.cases.getD k_1 (default:Case)).reason) (a0.sides.length:Int)).1) (EP .u64 ((aS ((a0.cases.getD k_1 (default:Case)).facts) (a0.sides.length:Int)).1) s_0.2))))then .inl s_1.1 else .inr ((s_1.1++([({ winner:=(a0.cases.getD k_1 (default:Case)).winner,facts:=(aS ((a0.cases.getD k_1 (default:Case)).facts) (a0.sides.length:Int)).1,reason:=(aS ((a0.cases.getD k_1 (default:Case)).reason) (a0.sides.length:Int)).1}:PrecedentsDecided)])),(a0.cases.getD k_1 (default:Case)).no,(a0.cases.getD k_1 (default:Case)).hour,(a0.cases.getD k_1 (default:Case)).winner))else .inr default)))
def gK (a0:Cases)(s_0:Int×Int)(k_1:Nat)(s_1:List PrecedentsDecided×Int×Int×Int):Prop:=((((((decide ((a0.cases.getD k_1 (default:Case)).no≤s_1.2.1)) ||(!(cX ((a0.cases.getD k_1 (default:Case)).no) 1048576))) ||(decide ((a0.cases.getD k_1 (default:Case)).hour<s_1.2.2.1))) ||(!(cX ((a0.cases.getD k_1 (default:Case)).hour) 4096))) ||(!(cX ((a0.cases.getD k_1 (default:Case)).winner) 1)))=false→(a0.sides.length≤aQ→((g7 ((a0.cases.getD k_1 (default:Case)).facts) (a0.sides.length:Int))∧(a0.sides.length≤aQ→((g7 ((a0.cases.getD k_1 (default:Case)).reason) (a0.sides.length:Int))∧(((decide ((a0.cases.getD k_1 (default:Case)).winner=0))=true→((((!(aS ((a0.cases.getD k_1 (default:Case)).facts) (a0.sides.length:Int)).2) ||(!(aS ((a0.cases.getD k_1 (default:Case)).reason) (a0.sides.length:Int)).2)) ||(!(fc ((aS ((a0.cases.getD k_1 (default:Case)).reason) (a0.sides.length:Int)).1) (EP .u64 ((aS ((a0.cases.getD k_1 (default:Case)).facts) (a0.sides.length:Int)).1) s_0.1))))=false→((s_1.1++([({ winner:=(a0.cases.getD k_1 (default:Case)).winner,facts:=(aS ((a0.cases.getD k_1 (default:Case)).facts) (a0.sides.length:Int)).1,reason:=(aS ((a0.cases.getD k_1 (default:Case)).reason) (a0.sides.length:Int)).1}:PrecedentsDecided)])).length*24≤dq)))∧((decide ((a0.cases.getD k_1 (default:Case)).winner=0))=false→(((decide ((a0.cases.getD k_1 (default:Case)).winner=1))=true→((((!(aS ((a0.cases.getD k_1 (default:Case)).facts) (a0.sides.length:Int)).2) ||(!(aS ((a0.cases.getD k_1 (default:Case)).reason) (a0.sides.length:Int)).2)) ||(!(fc ((aS ((a0.cases.getD k_1 (default:Case)).reason) (a0.sides.length:Int)).1) (EP .u64 ((aS ((a0.cases.getD k_1 (default:Case)).facts) (a0.sides.length:Int)).1) s_0.2))))=false→((s_1.1++([({ winner:=(a0.cases.getD k_1 (default:Case)).winner,facts:=(aS ((a0.cases.getD k_1 (default:Case)).facts) (a0.sides.length:Int)).1,reason:=(aS ((a0.cases.getD k_1 (default:Case)).reason) (a0.sides.length:Int)).1}:PrecedentsDecided)])).length*24≤dq)))∧((decide ((a0.cases.getD k_1 (default:Case)).winner=1))=false→False)))))))))
def d4 (a0:Cases):PrecedentsCourt×Int:=(bif((decide ((a0.sides.length:Int) > 32)) ||(decide ((a0.cases.length:Int) > 64)))then(({ favour:=(0,0),cases:=[]}:PrecedentsCourt),2)else(match aw (c8 a0) a0.sides.length 0 (0,0)with| .inl x_0_0=>(({ favour:=(x_0_0.1,x_0_0.2),cases:=[]}:PrecedentsCourt),520) | .inr s_0=>(match aw (oa a0 s_0) a0.cases.length 0 ([],(-1),0,0)with| .inl x_1_0=>(({ favour:=(s_0.1,s_0.2),cases:=x_1_0}:PrecedentsCourt),520) | .inr s_1=>(({ favour:=(s_0.1,s_0.2),cases:=s_1.1}:PrecedentsCourt),0))))
def gW (a0:Cases):Prop:=(a0.sides.length≤aQ→(((decide ((a0.sides.length:Int) > 32)) ||(decide ((a0.cases.length:Int) > 64)))=false→(a0.sides.length≤aQ→(okI (c8 a0) (gJ a0) a0.sides.length 0 (0,0)∧(∀ s_0,aw (c8 a0) a0.sides.length 0 (0,0)=.inr s_0→(a0.cases.length≤aQ→okI (oa a0 s_0) (gK a0 s_0) a0.cases.length 0 ([],(-1),0,0)))))))
@[go_sem] def oX:List SV→Option Con:=(pD .cases fun a0=>(pE (.det (gW a0) (.tup [.agg (cellsOf .precedentsCourt ((d4 a0).1)),.v (.int .i64 ((d4 a0).2))]))))
theorem zq68 {l0:List Nat}(a0:JL l0){p:Prop}(h:JL l0→p:=by intro ja;simp only[go_sem,Nat.reduceBEq,Nat.reduceLeDiff,Nat.reduceLT,decide_true,Nat.reduceAdd,Nat.reduceSub,Nat.reduceMul,Int.reduceLE,Int.reduceLT,Int.reduceToNat,Int.reduceNeg,reduceCtorEq,hc,hw,hs0,Int.reduceEq,Int.reduceBEq,decide_false];all_goals exact kF ja):p:=h a0
theorem zq69 {l0:List Nat}(a0:JL l0){p:Prop}(h:JL l0→p:=by intro ja;simp only[go_sem,Nat.reduceBEq,Nat.reduceLeDiff,Nat.reduceLT,decide_true,Nat.reduceAdd,Nat.reduceSub,Nat.reduceMul,Int.reduceLE,Int.reduceLT,Int.reduceToNat,Int.reduceNeg,reduceCtorEq,hc,hw,hs1,Int.reduceEq,Int.reduceBEq,decide_false];all_goals exact kF ja):p:=h a0
theorem zq70 {l0 l1:List Nat}(a0:JL l0)(a1:JL l1){p:Prop}(h:JL l0→JL l1→p:=by intro ja jb;simp only[go_sem,Nat.reduceBEq,Nat.reduceLeDiff,Nat.reduceLT,decide_true,Nat.reduceAdd,Nat.reduceSub,Nat.reduceMul,Int.reduceLE,Int.reduceLT,Int.reduceToNat,Int.reduceNeg,reduceCtorEq,hc,hw,hs0,Int.reduceEq,Int.reduceBEq,decide_false];all_goals exact rU ja jb):p:=h a0 a1
theorem zq71 {l0 l1:List Nat}(a0:JL l0)(a1:JL l1){p:Prop}(h:JL l0→JL l1→p:=by intro ja jb;simp only[go_sem,Nat.reduceBEq,Nat.reduceLeDiff,Nat.reduceLT,decide_true,Nat.reduceAdd,Nat.reduceSub,Nat.reduceMul,Int.reduceLE,Int.reduceLT,Int.reduceToNat,Int.reduceNeg,reduceCtorEq,hc,hw,hs1,Int.reduceEq,Int.reduceBEq,decide_false];all_goals exact rU ja jb):p:=h a0 a1
theorem r9:FnOk Tryz.prog 75 oX:=by
 have hG:ConsOk Tryz.prog (mkG [(81,nh),(129,nf),(130,fun l=>qS (bA [.sl .int,.o] l))] []):=av (cgc qz (cgc qy (cgc (ua.norm [.sl .int,.o]) cg0))) cg0;refine ay [.st .precedentsCourt,.o] mixed ap hG (fn:=Tryz.f75) (c:=ae Tryz.f75) kr kr kr kr (bF fun a0=>(ak (fun hp=>?_)));dsimp only[ax]at hp;unfold gW at hp;refine⟨nbl rfl,(fun id st=>bif Nat.beq id 0 then some (LCR (ρ:=(Int×Int)) (σ:=(Int×Int)) 2 [] [0,1] (fun k_0 s_0=>⟨[(1,.ptr 0 0),(2,.ptr 1 0),(25,.rs .int a0.sides),(26,.v (.int .i64 (a0.sides.length:Int))),(27,.v (.int .i64 (k_0:Int)))],[.cells (cellsOf .cases a0),.cells [.v (.int .u64 s_0.1),.v (.int .u64 s_0.2),.v (.slice none 0 0)]]⟩) (c8 a0) (gJ a0) a0.sides.length (0,0) (a0.sides.length≤aQ) (fun _=>.ret) (fun x_0_0=>⟨[(2,.ptr 1 0),(3,.v (.int .i64 520))],[.dead,.cells [.v (.int .u64 x_0_0.1),.v (.int .u64 x_0_0.2),.v (.slice none 0 0)]]⟩) st)else bif Nat.beq id 2 then some (LCR (ρ:=(List PrecedentsDecided)) (σ:=(List PrecedentsDecided×Int×Int×Int)) 3 [.cell 1 2 (.row .precedentsDecided ([]))] [0,1,2,3] (fun k_1 s_1=>⟨[(1,.ptr 0 0),(2,.ptr 1 0),(6,.ptr 2 0),(48,.rs .case a0.cases),(49,.v (.int .i64 (a0.cases.length:Int))),(50,.v (.int .i64 (k_1:Int)))],[.cells (cellsOf .cases a0),.cells [.v (.int .u64 (d9 (aw (c8 a0) a0.sides.length 0 (0,0))).1),.v (.int .u64 (d9 (aw (c8 a0) a0.sides.length 0 (0,0))).2),.os 3],.cells [.v (.int .i64 s_1.2.1),.v (.int .i64 s_1.2.2.1),.v (.int .i64 s_1.2.2.2),.any,.any],.row .precedentsDecided s_1.1]⟩) (oa a0 (d9 (aw (c8 a0) a0.sides.length 0 (0,0)))) (gK a0 (d9 (aw (c8 a0) a0.sides.length 0 (0,0)))) a0.cases.length ([],(-1),0,0) (a0.cases.length≤aQ) (fun _=>.ret) (fun x_1_0=>⟨[(2,.ptr 1 0),(3,.v (.int .i64 520))],[.dead,.cells [.v (.int .u64 (d9 (aw (c8 a0) a0.sides.length 0 (0,0))).1),.v (.int .u64 (d9 (aw (c8 a0) a0.sides.length 0 (0,0))).2),.os 3],.dead,.row .precedentsDecided x_1_0]⟩) st)else none),?_,?_⟩
 ·unfold ae Tryz.f75;simp only[aq,true_and,and_true];refine⟨?_,?_⟩
  ·refine aY mixed ap hG kr (fun _=>rfl) (a0.sides.length:Int) rfl im (fun hb0 k_0 s_0 hlt0 hq0 hw hc=>⟨L0,ah _,?_⟩) (fun hb0 s_0 hc=>?_)
   ·unfold gJ at hq0;try simp only[hw,Int.toNat_natCast]at hq0
    by_cases hs0:(a0.sides.getD k_0 (0:Int))=0
    ·try simp only[hs0,decide_true,decide_false,Int.reduceEq,Bool.false_eq_true,Bool.true_eq_false,forall_const,true_imp_iff,false_imp_iff,and_true,true_and,reduceCtorEq]at hq0
     exact zq68 (jl [0,1])
    ·have hn0:=decide_eq_false hs0;by_cases hs1:(a0.sides.getD k_0 (0:Int))=1
     ·try simp only[hs1,decide_true,decide_false,Int.reduceEq,Bool.false_eq_true,Bool.true_eq_false,forall_const,true_imp_iff,false_imp_iff,and_true,true_and,reduceCtorEq]at hq0
      exact zq69 (jl [0,1])
     ·have hn1:=decide_eq_false hs1;simp only[go_sem,Nat.reduceBEq,Nat.reduceLeDiff,Nat.reduceLT,decide_true,Nat.reduceAdd,Nat.reduceSub,Nat.reduceMul,Int.reduceLE,Int.reduceLT,Int.reduceToNat,Int.reduceNeg,reduceCtorEq,hc,hw,hn0,hn1];all_goals (repeat' (first|with_reducible refine And.intro ?_ ?_|with_reducible intro _))
      all_goals first|exact kF (jl [0,1]) |(exfalso;simp_all;done)
   ·exact bQ (jl [0,1])
  ·refine aY mixed ap hG kr (fun _=>rfl) (a0.cases.length:Int) rfl im (fun hb1 k_1 s_1 hlt1 hq1 hw hc=>⟨L0,ah _,?_⟩) (fun hb1 s_1 hc=>?_)
   ·unfold gK at hq1;try simp only[hw,Int.toNat_natCast]at hq1
    by_cases hs0:(a0.cases.getD k_1 (default:Case)).winner=0
    ·try simp only[hs0,decide_true,decide_false,Int.reduceEq,Bool.false_eq_true,Bool.true_eq_false,forall_const,true_imp_iff,false_imp_iff,and_true,true_and,reduceCtorEq]at hq1
     exact zq70 (jl [0,1,2,6]) (jl [0,1,2,3])
    ·have hn0:=decide_eq_false hs0;by_cases hs1:(a0.cases.getD k_1 (default:Case)).winner=1
     ·try simp only[hs1,decide_true,decide_false,Int.reduceEq,Bool.false_eq_true,Bool.true_eq_false,forall_const,true_imp_iff,false_imp_iff,and_true,true_and,reduceCtorEq]at hq1
      exact zq71 (jl [0,1,2,6]) (jl [0,1,2,3])
     ·have hn1:=decide_eq_false hs1;simp only[go_sem,Nat.reduceBEq,Nat.reduceLeDiff,Nat.reduceLT,decide_true,Nat.reduceAdd,Nat.reduceSub,Nat.reduceMul,Int.reduceLE,Int.reduceLT,Int.reduceToNat,Int.reduceNeg,reduceCtorEq,hc,hw,hn0,hn1];all_goals (repeat' (first|with_reducible refine And.intro ?_ ?_|with_reducible intro _))
      all_goals first|exact rU (jl [0,1,2,6]) (jl [0,1,2,3]) |(exfalso;simp_all;done)
   ·exact lX (jl [0,1,2,6]) (jl [0,1,2,3])
 ·unfold ae Tryz.f75;try unfold d4
  exact zq1
def ci (b:Cases)(l_:List Int)(side:Int):PrecedentsCourt×Int×Int:=(bif((d4 b).2 !=0)then(((d4 b).1),0,(d4 b).2)else(bif(!(aS l_ (b.sides.length:Int)).2)then(((d4 b).1),0,520)else(bif(!(cX side 1))then(((d4 b).1),0,1)else(((d4 b).1),(aS l_ (b.sides.length:Int)).1,0))))
def jG (b:Cases)(l_:List Int)(side:Int):Prop:=((gW b)∧(((d4 b).2 !=0)=false→(b.sides.length≤aQ→(g7 l_ (b.sides.length:Int)))))
@[go_sem] def ub:List SV→Option Con:=(pD .cases fun b=>(pR .int fun l_=>(pI fun side=>(pE (.det (jG b l_ side) (.tup [.agg (cellsOf .precedentsCourt ((ci b l_ side).1)),.v (.int .u64 ((ci b l_ side).2.1)),.v (.int .i64 ((ci b l_ side).2.2))]))))))
theorem yy:FnOk Tryz.prog 79 ub:=by
 have hG:ConsOk Tryz.prog (mkG [(75,fun l=>oX (bA [.st .cases] l)),(129,nf),(130,fun l=>qS (bA [.sl .int,.o] l))] []):=av (cgc (r9.norm [.st .cases]) (cgc qy (cgc (ua.norm [.sl .int,.o]) cg0))) cg0;refine ay [.st .precedentsCourt,.o,.o] mixed ap hG (fn:=Tryz.f79) (c:=ae Tryz.f79) kr kr kr kr (bF fun b=>(bY fun l_=>(dh fun side=>(ak (fun hp=>?_)))));dsimp only[ax]at hp;unfold jG at hp;refine⟨nbl rfl,L0,ah _,?_⟩
 ·unfold ae Tryz.f79;try unfold ci
  exact zq1
def i9 (c:PrecedentsCourt)(x:PrecedentsDecided)(facts:Int):Int:=(bif(decide ((i64.wrap (1 - x.winner))=0))then(xJ .u64 (EP .u64 facts c.favour.1) x.facts)else(bif(decide ((i64.wrap (1 - x.winner))=1))then(xJ .u64 (EP .u64 facts c.favour.2) x.facts)else default))
def eJ (c:PrecedentsCourt)(x:PrecedentsDecided)(facts:Int):Prop:=((decide ((i64.wrap (1 - x.winner))=0))=false→((decide ((i64.wrap (1 - x.winner))=1))=false→False))
@[go_sem] def ma:List SV→Option Con:=(pD .precedentsCourt fun c=>(pD .precedentsDecided fun x=>(pU fun facts=>(pE (.det (eJ c x facts) (.v (.int .u64 (i9 c x facts))))))))
theorem zq74 {p:Prop}(h:p:=by simp only[go_sem,Nat.reduceBEq,Nat.reduceLeDiff,Nat.reduceLT,decide_true,Nat.reduceAdd,Nat.reduceSub,Nat.reduceMul,Int.reduceLE,Int.reduceLT,Int.reduceToNat,Int.reduceNeg,reduceCtorEq,hs0,Int.reduceEq,Int.reduceBEq,decide_false];all_goals exact cl):p:=h
theorem zq75 {p:Prop}(h:p:=by simp only[go_sem,Nat.reduceBEq,Nat.reduceLeDiff,Nat.reduceLT,decide_true,Nat.reduceAdd,Nat.reduceSub,Nat.reduceMul,Int.reduceLE,Int.reduceLT,Int.reduceToNat,Int.reduceNeg,reduceCtorEq,hs1,Int.reduceEq,Int.reduceBEq,decide_false];all_goals exact cl):p:=h
theorem rC:FnOk Tryz.prog 82 ma:=by
 have hG:ConsOk Tryz.prog (mkG [] []):=av cg0 cg0;refine ay [.o] mixed ap hG (fn:=Tryz.f82) (c:=ae Tryz.f82) kr kr kr kr (bF fun c=>(bF fun x=>(HQ fun facts=>(ak (fun hp=>?_)))));dsimp only[ax]at hp;unfold eJ at hp;refine⟨nbl rfl,L0,ah _,?_⟩
 ·unfold ae Tryz.f82;try unfold i9
  by_cases hs0:(i64.wrap (1 - x.winner))=0
  ·try simp only[hs0,decide_true,decide_false,Int.reduceEq,Bool.false_eq_true,Bool.true_eq_false,forall_const,true_imp_iff,false_imp_iff,and_true,true_and,reduceCtorEq]at hp
   exact zq74
  ·have hn0:=decide_eq_false hs0;by_cases hs1:(i64.wrap (1 - x.winner))=1
   ·try simp only[hs1,decide_true,decide_false,Int.reduceEq,Bool.false_eq_true,Bool.true_eq_false,forall_const,true_imp_iff,false_imp_iff,and_true,true_and,reduceCtorEq]at hp
    exact zq75
   ·have hn1:=decide_eq_false hs1;simp only[go_sem,Nat.reduceBEq,Nat.reduceLeDiff,Nat.reduceLT,decide_true,Nat.reduceAdd,Nat.reduceSub,Nat.reduceMul,Int.reduceLE,Int.reduceLT,Int.reduceToNat,Int.reduceNeg,reduceCtorEq,hn0,hn1];all_goals (repeat' (first|with_reducible refine And.intro ?_ ?_|with_reducible intro _))
    all_goals first|exact cl|(exfalso;simp_all;done)
def dA (b:Cases):Int:=(d4 b).2
def fw (b:Cases):Prop:=(gW b)
@[go_sem] def kh:List SV→Option Con:=(pD .cases fun b=>(pE (.det (fw b) (.v (.int .i64 (dA b))))))
theorem ni:FnOk Tryz.prog 64 kh:=by
 have hG:ConsOk Tryz.prog (mkG [(75,fun l=>oX (bA [.st .cases] l))] []):=av (cgc (r9.norm [.st .cases]) cg0) cg0;refine ay [.o] mixed ap hG (fn:=Tryz.f64) (c:=ae Tryz.f64) kr kr kr kr (bF fun b=>(ak (fun hp=>?_)));dsimp only[ax]at hp;unfold fw at hp;refine⟨nbl rfl,L0,ah _,?_⟩
 ·unfold ae Tryz.f64;try unfold dA
  exact zq1
def oc (x:PrecedentsDecided)(side_:Int)(facts_:Int)(c_:PrecedentsCourt):Bool:=(((x.winner==side_)&&(fc x.reason facts_))&&((i9 c_ x facts_) ==0))
def gL (x:PrecedentsDecided)(side_:Int)(facts_:Int)(c_:PrecedentsCourt):Prop:=(((x.winner==side_)&&(fc x.reason facts_))=true→(eJ c_ x facts_))
@[go_sem] def qA:List SV→Option Con:=(pD .precedentsDecided fun x=>(pX .int fun side_=>(pXU fun facts_=>(pX .precedentsCourt fun c_=>(pE (.det (gL x side_ facts_ c_) (.v (.bool (oc x side_ facts_ c_)))))))))
theorem u_:FnOk Tryz.prog 80 qA:=by
 have hG:ConsOk Tryz.prog (mkG [(81,nh),(82,fun l=>ma (bA [.st .precedentsCourt,.st .precedentsDecided,.o] l))] []):=av (cgc qz (cgc (rC.norm [.st .precedentsCourt,.st .precedentsDecided,.o]) cg0)) cg0;refine ay [.o] mixed ap hG (fn:=Tryz.f80) (c:=ae Tryz.f80) kr kr kr kr (bF fun x=>(aR fun side_=>(Jp fun facts_=>(aR fun c_=>(ak (fun hp=>?_))))));dsimp only[ax]at hp;unfold gL at hp;refine⟨nbl rfl,L0,ah _,?_⟩
 ·unfold ae Tryz.f80;try unfold oc
  exact zq1
theorem clW {p:Prop}(h:p:=by((repeat' (first|with_reducible refine And.intro ?_ ?_|with_reducible intro _)) <;>first|exact cl|(rename_i x hx;rcases x with x|x <;>simp only[go_sem,Nat.reduceBEq,Nat.reduceLeDiff,Nat.reduceLT,decide_true,Nat.reduceAdd,Nat.reduceSub,Nat.reduceMul,Int.reduceLE,Int.reduceLT,Int.reduceToNat,Int.reduceNeg,reduceCtorEq] <;>(simp only[*];done)))):p:=h
@[go_sem] def cH (l_:List PrecedentsDecided)(side_:Int)(facts_:Int)(c_:PrecedentsCourt)(k_0:Nat)(s_0:Int):(Int⊕Unit)⊕Int:=(bif(decide (s_0< (l_.length:Int)))then(bif(oc (l_.getD (Int.toNat s_0) (default:PrecedentsDecided)) side_ facts_ c_)then .inl (.inl s_0)else .inr (i64.wrap (s_0+1)))else .inl (.inr ()))
def br (l_:List PrecedentsDecided)(side_:Int)(facts_:Int)(c_:PrecedentsCourt)(k_0:Nat)(s_0:Int):Prop:=(l_.length≤aQ→((decide (s_0< (l_.length:Int)))=true→((0≤s_0∧s_0< (l_.length:Int))∧(gL (l_.getD (Int.toNat s_0) (default:PrecedentsDecided)) side_ facts_ c_))))
def b9 (l_:List PrecedentsDecided)(fr:Int)(side_:Int)(facts_:Int)(c_:PrecedentsCourt):Int×Bool:=(match aw (cH l_ side_ facts_ c_) (l_.length+1) 0 fr with| .inl (.inl x_0_0) =>(x_0_0,true) | .inl (.inr x_0_1) =>(0,false) | .inr s_0=>default)
def bK (l_:List PrecedentsDecided)(fr:Int)(side_:Int)(facts_:Int)(c_:PrecedentsCourt):Prop:=(okI (cH l_ side_ facts_ c_) (br l_ side_ facts_ c_) (l_.length+1) 0 fr∧(∀ z_,aw (cH l_ side_ facts_ c_) (l_.length+1) 0 fr≠ .inr z_))
@[go_sem] def gE:List SV→Option Con:=(pR .precedentsDecided fun l_=>(pI fun fr=>(pFn 80 (pX .int fun side_=>(pXU fun facts_=>(pX .precedentsCourt fun c_=>(pE ((pE (.det (bK l_ fr side_ facts_ c_) (.tup [.v (.int .i64 ((b9 l_ fr side_ facts_ c_).1)),.v (.bool ((b9 l_ fr side_ facts_ c_).2))])))))))))))
theorem zq78 {p:Prop}(h:p:=by simp only[go_sem,Nat.reduceBEq,Nat.reduceLeDiff,Nat.reduceLT,decide_true,Nat.reduceAdd,Nat.reduceSub,Nat.reduceMul,Int.reduceLE,Int.reduceLT,Int.reduceToNat,Int.reduceNeg,reduceCtorEq];all_goals exact clW):p:=h
theorem kW:FnOk Tryz.prog 77 gE:=by
 have hG:ConsOk Tryz.prog (mkG [(80,qA)] []):=av (cgc u_ cg0) cg0;refine ay [.o,.o] mixed ap hG (fn:=Tryz.f77) (c:=ae Tryz.f77) kr kr kr kr (bY fun l_=>(dh fun fr=>(bB (aR fun side_=>(Jp fun facts_=>(aR fun c_=>(ak ((ak (fun hp=>?_))))))))));dsimp only[ax]at hp;unfold bK at hp;refine⟨nbl rfl,(fun id st=>bif Nat.beq id 0 then some (LCV (ρ:=(Int⊕Unit)) (σ:=Int) 0 [] [] (fun k_0 s_0=>⟨[(0,.rs .precedentsDecided l_),(2,.fn 80 [] [.ep [.v (.int .i64 side_)] 0,.ep [.v (.int .u64 facts_)] 0,.ep (cellsOf .precedentsCourt c_) 0]),(8,.v (.int .i64 s_0))],[]⟩) (cH l_ side_ facts_ c_) (br l_ side_ facts_ c_) (l_.length+1) fr (fun x=>match x with|(.inl _) =>.ret|(.inr _) =>.normal) (fun x=>match x with|(.inl x_0_0) =>⟨[(6,.v (.int .i64 x_0_0)),(7,.v (.bool true))],[]⟩ |(.inr x_0_1) =>⟨[],[]⟩) st)else none),?_,?_⟩
 ·unfold ae Tryz.f77;simp only[aq,true_and,and_true]
  ·refine tT mixed ap hG kr (fun _=>rfl) fun k_0 s_0 hq0=>⟨L0,ah _,?_⟩
   ·unfold br at hq0;exact t8 (jl [])
 ·unfold ae Tryz.f77;try unfold b9
  exact zq78
@[go_sem] noncomputable def eK:List SV→Option Con:=fun l=>(gE l)
theorem lI:FnOk Tryz.prog 77 eK:=kW
def al (b:Cases)(l_:List Int)(side:Int):Int×Bool×Int:=(bif((ci b l_ side).2.2 !=0)then(0,false,(ci b l_ side).2.2)else((b9 (((ci b l_ side).1).cases) 0 side ((ci b l_ side).2.1) ((ci b l_ side).1)).1,(b9 (((ci b l_ side).1).cases) 0 side ((ci b l_ side).2.1) ((ci b l_ side).1)).2,0))
def eL (b:Cases)(l_:List Int)(side:Int):Prop:=((jG b l_ side)∧(((ci b l_ side).2.2 !=0)=false→(bK (((ci b l_ side).1).cases) 0 side ((ci b l_ side).2.1) ((ci b l_ side).1))))
@[go_sem] def od:List SV→Option Con:=(pD .cases fun b=>(pR .int fun l_=>(pI fun side=>(pE (.det (eL b l_ side) (.tup [.v (.int .i64 ((al b l_ side).1)),.v (.bool ((al b l_ side).2.1)),.v (.int .i64 ((al b l_ side).2.2))]))))))
theorem zq79 {p:Prop}(h:p:=by simp only[go_sem,Nat.reduceBEq,Nat.reduceLeDiff,Nat.reduceLT,decide_true,Nat.reduceAdd,Nat.reduceSub,Nat.reduceMul,Int.reduceLE,Int.reduceLT,Int.reduceToNat,Int.reduceNeg,reduceCtorEq,eK];all_goals exact cl):p:=h
theorem rj:FnOk Tryz.prog 34 od:=by
 have hG:ConsOk Tryz.prog (mkG [(77,fun l=>eK (bA [.sl .precedentsDecided,.o,.o] l)),(79,fun l=>ub (bA [.st .cases,.sl .int,.o] l))] []):=av (cgc (lI.norm [.sl .precedentsDecided,.o,.o]) (cgc (yy.norm [.st .cases,.sl .int,.o]) cg0)) cg0;refine ay [.o,.o,.o] mixed ap hG (fn:=Tryz.f34) (c:=ae Tryz.f34) kr kr kr kr (bF fun b=>(bY fun l_=>(dh fun side=>(ak (fun hp=>?_)))));dsimp only[ax]at hp;unfold eL at hp;refine⟨nbl rfl,L0,ah _,?_⟩
 ·unfold ae Tryz.f34;try unfold al
  exact zq79
def il (q:Int):Bool:=(((decide ((-32)≤q))&&(decide (q≤32)))&&(q !=0))
@[go_sem] def nQ:List SV→Option Con:=(pI fun q=>(pE (.det True (.v (.bool (il q))))))
theorem pW:FnOk Tryz.prog 83 nQ:=by
 have hG:ConsOk Tryz.prog (mkG [] []):=av cg0 cg0;refine ay [.o] mixed ap hG (fn:=Tryz.f83) (c:=ae Tryz.f83) kr kr kr kr (dh fun q=>(ak (fun hp=>?_)));dsimp only[ax]at hp;refine⟨nbl rfl,L0,ah _,?_⟩
 ·unfold ae Tryz.f83;try unfold il
  exact zq1
@[go_sem] def qT (l_:List Int)(k_0:Nat)(s_0:Unit):Unit⊕Unit:=(bif((!(il (l_.getD k_0 (0:Int)))) ||((decide ((k_0:Int) > 0))&&(decide ((l_.getD k_0 (0:Int))≤(l_.getD (Int.toNat (i64.wrap ((k_0:Int) - 1))) (0:Int))))))then .inl ()else .inr ())
def iX (l_:List Int)(k_0:Nat)(s_0:Unit):Prop:=((!(il (l_.getD k_0 (0:Int))))=false→((decide ((k_0:Int) > 0))=true→(0≤(i64.wrap ((k_0:Int) - 1))∧(i64.wrap ((k_0:Int) - 1)) < (l_.length:Int))))
def km (l_:List Int):Bool:=(match aw (qT l_) l_.length 0 ()with| .inl x_0_0=>false| .inr s_0=>true)
def jH (l_:List Int):Prop:=(l_.length≤aQ→okI (qT l_) (iX l_) l_.length 0 ())
@[go_sem] def wh:List SV→Option Con:=(pR .int fun l_=>(pE (.det (jH l_) (.v (.bool (km l_))))))
theorem zZ:FnOk Tryz.prog 117 wh:=by
 have hG:ConsOk Tryz.prog (mkG [(83,nQ)] []):=av (cgc pW cg0) cg0;refine ay [.o] mixed ap hG (fn:=Tryz.f117) (c:=ae Tryz.f117) kr kr kr kr (bY fun l_=>(ak (fun hp=>?_)));dsimp only[ax]at hp;unfold jH at hp;refine⟨nbl rfl,(fun id st=>bif Nat.beq id 0 then some (LCR (ρ:=Unit) (σ:=Unit) 0 [] [] (fun k_0 s_0=>⟨[(0,.rs .int l_),(5,.rs .int l_),(6,.v (.int .i64 (l_.length:Int))),(7,.v (.int .i64 (k_0:Int)))],[]⟩) (qT l_) (iX l_) l_.length () (l_.length≤aQ) (fun _=>.ret) (fun x_0_0=>⟨[(2,.v (.bool false))],[]⟩) st)else none),?_,?_⟩
 ·unfold ae Tryz.f117;simp only[aq,true_and,and_true]
  ·refine aY mixed ap hG kr (fun _=>rfl) (l_.length:Int) rfl im (fun hb0 k_0 s_0 hlt0 hq0 hw hc=>⟨L0,ah _,?_⟩) (fun hb0 s_0 hc=>?_)
   ·unfold iX at hq0;try simp only[hw,Int.toNat_natCast]at hq0
    exact bZ (jl [])
   ·exact bQ (jl [])
 ·unfold ae Tryz.f117;try unfold km
  exact zq1
def tu (c:Clause):Bool:=(decide ((c.if_.length:Int) > 8))
@[go_sem] def uZ:List SV→Option Con:=(pD .clause fun c=>(pE (.det True (.v (.bool (tu c))))))
theorem zh:FnOk Tryz.prog 115 uZ:=by
 have hG:ConsOk Tryz.prog (mkG [] []):=av cg0 cg0;refine ay [.o] mixed ap hG (fn:=Tryz.f115) (c:=ae Tryz.f115) kr kr kr kr (bF fun c=>(ak (fun hp=>?_)));dsimp only[ax]at hp;refine⟨nbl rfl,L0,ah _,?_⟩
 ·unfold ae Tryz.f115;try unfold tu
  exact zq1
def pY (q:Int)(k_:PleasCourt):Bool:=((fZ .int .int k_.known q) !=1)
@[go_sem] def sa:List SV→Option Con:=(pI fun q=>(pXX .pleasCourt fun k_=>(pE (.det True (.v (.bool (pY q k_)))))))
theorem wH:FnOk Tryz.prog 208 sa:=by
 have hG:ConsOk Tryz.prog (mkG [] []):=av cg0 cg0;refine ay [.o] mixed ap hG (fn:=Tryz.f208) (c:=ae Tryz.f208) kr kr kr kr (dh fun q=>(bC fun k_=>(ak (fun hp=>?_))));dsimp only[ax]at hp;refine⟨nbl rfl,L0,ah _,?_⟩
 ·unfold ae Tryz.f208;try unfold pY
  exact zq1
def oY (q:Int)(k_:PleasCourt):Bool:=((fZ .int .int k_.known q) ==2)
@[go_sem] def rq:List SV→Option Con:=(pI fun q=>(pXX .pleasCourt fun k_=>(pE (.det True (.v (.bool (oY q k_)))))))
theorem wi:FnOk Tryz.prog 209 rq:=by
 have hG:ConsOk Tryz.prog (mkG [] []):=av cg0 cg0;refine ay [.o] mixed ap hG (fn:=Tryz.f209) (c:=ae Tryz.f209) kr kr kr kr (dh fun q=>(bC fun k_=>(ak (fun hp=>?_))));dsimp only[ax]at hp;refine⟨nbl rfl,L0,ah _,?_⟩
 ·unfold ae Tryz.f209;try unfold oY
  exact zq1
@[go_sem] def lC (s_:List Int)(k_:PleasCourt)(k_0:Nat)(s_0:Unit):Int⊕Unit:=(bif(pY (s_.getD k_0 (0:Int)) k_)then .inl (k_0:Int)else .inr ())
def je (s_:List Int)(k_:PleasCourt):Int:=(match aw (lC s_ k_) s_.length 0 ()with| .inl x_0_0=>x_0_0| .inr s_0=>(-1))
@[go_sem] def iy:List SV→Option Con:=(pR .int fun s_=>(pFn 208 (pXX .pleasCourt fun k_=>(pE ((pE (.det True (.v (.int .i64 (je s_ k_))))))))))
theorem lD:FnOk Tryz.prog 203 iy:=by
 have hG:ConsOk Tryz.prog (mkG [(208,sa)] []):=av (cgc wH cg0) cg0;refine ay [.o] mixed ap hG (fn:=Tryz.f203) (c:=ae Tryz.f203) kr kr kr kr (bY fun s_=>(bB (bC fun k_=>(ak ((ak (fun hp=>?_)))))));dsimp only[ax]at hp;refine⟨nbl rfl,(fun id st=>bif Nat.beq id 0 then some (LCR (ρ:=Int) (σ:=Unit) 0 [] [] (fun k_0 s_0=>⟨[(0,.rs .int s_),(1,.fn 208 [] [.ep [.ep (cellsOf .pleasCourt k_) 0] 0]),(7,.v (.int .i64 (s_.length:Int))),(8,.v (.int .i64 (k_0:Int)))],[]⟩) (lC s_ k_) pT s_.length () (s_.length≤aQ) (fun _=>.ret) (fun x_0_0=>⟨[(4,.v (.int .i64 x_0_0))],[]⟩) st)else none),?_,?_⟩
 ·unfold ae Tryz.f203;simp only[aq,true_and,and_true]
  ·refine aY mixed ap hG kr (fun _=>rfl) (s_.length:Int) rfl im (fun hb0 k_0 s_0 hlt0 _ hw hc=>⟨L0,ah _,?_⟩) (fun hb0 s_0 hc=>?_)
   ·exact bZ (jl [])
   ·exact bQ (jl [])
 ·unfold ae Tryz.f203;try unfold je
  exact zq1
@[go_sem] def jZ (s_:List Int)(k_:PleasCourt)(k_0:Nat)(s_0:Unit):Int⊕Unit:=(bif(oY (s_.getD k_0 (0:Int)) k_)then .inl (k_0:Int)else .inr ())
def iz (s_:List Int)(k_:PleasCourt):Int:=(match aw (jZ s_ k_) s_.length 0 ()with| .inl x_0_0=>x_0_0| .inr s_0=>(-1))
@[go_sem] def g8:List SV→Option Con:=(pR .int fun s_=>(pFn 209 (pXX .pleasCourt fun k_=>(pE ((pE (.det True (.v (.int .i64 (iz s_ k_))))))))))
theorem j3:FnOk Tryz.prog 203 g8:=by
 have hG:ConsOk Tryz.prog (mkG [(209,rq)] []):=av (cgc wi cg0) cg0;refine ay [.o] mixed ap hG (fn:=Tryz.f203) (c:=ae Tryz.f203) kr kr kr kr (bY fun s_=>(bB (bC fun k_=>(ak ((ak (fun hp=>?_)))))));dsimp only[ax]at hp;refine⟨nbl rfl,(fun id st=>bif Nat.beq id 0 then some (LCR (ρ:=Int) (σ:=Unit) 0 [] [] (fun k_0 s_0=>⟨[(0,.rs .int s_),(1,.fn 209 [] [.ep [.ep (cellsOf .pleasCourt k_) 0] 0]),(7,.v (.int .i64 (s_.length:Int))),(8,.v (.int .i64 (k_0:Int)))],[]⟩) (jZ s_ k_) pT s_.length () (s_.length≤aQ) (fun _=>.ret) (fun x_0_0=>⟨[(4,.v (.int .i64 x_0_0))],[]⟩) st)else none),?_,?_⟩
 ·unfold ae Tryz.f203;simp only[aq,true_and,and_true]
  ·refine aY mixed ap hG kr (fun _=>rfl) (s_.length:Int) rfl im (fun hb0 k_0 s_0 hlt0 _ hw hc=>⟨L0,ah _,?_⟩) (fun hb0 s_0 hc=>?_)
   ·exact bZ (jl [])
   ·exact bQ (jl [])
 ·unfold ae Tryz.f203;try unfold iz
  exact zq1
@[go_sem] noncomputable def fJ:List SV→Option Con:=fun l=>(orC (iy l) (g8 l))
theorem kJ:FnOk Tryz.prog 203 fJ:=(FnOk.or lD j3)
def ib (s_:List Int)(k_:PleasCourt):Bool:=(decide ((je s_ k_)≥0))
@[go_sem] def gM:List SV→Option Con:=(pR .int fun s_=>(pFn 208 (pXX .pleasCourt fun k_=>(pE ((pE (.det True (.v (.bool (ib s_ k_))))))))))
theorem XB {p:Prop}(h:p:=by simp only[go_sem,Nat.reduceBEq,Nat.reduceLeDiff,Nat.reduceLT,decide_true,Nat.reduceAdd,Nat.reduceSub,Nat.reduceMul,Int.reduceLE,Int.reduceLT,Int.reduceToNat,Int.reduceNeg,reduceCtorEq,fJ];all_goals exact cl):p:=h
theorem jI:FnOk Tryz.prog 157 gM:=by
 have hG:ConsOk Tryz.prog (mkG [(203,fun l=>fJ (bA [.sl .int,.o] l))] []):=av (cgc (kJ.norm [.sl .int,.o]) cg0) cg0;refine ay [.o] mixed ap hG (fn:=Tryz.f157) (c:=ae Tryz.f157) kr kr kr kr (bY fun s_=>(bB (bC fun k_=>(ak ((ak (fun hp=>?_)))))));dsimp only[ax]at hp;refine⟨nbl rfl,L0,ah _,?_⟩
 ·unfold ae Tryz.f157;try unfold ib
  exact XB
def gN (s_:List Int)(k_:PleasCourt):Bool:=(decide ((iz s_ k_)≥0))
@[go_sem] def gu:List SV→Option Con:=(pR .int fun s_=>(pFn 209 (pXX .pleasCourt fun k_=>(pE ((pE (.det True (.v (.bool (gN s_ k_))))))))))
theorem iY:FnOk Tryz.prog 157 gu:=by
 have hG:ConsOk Tryz.prog (mkG [(203,fun l=>fJ (bA [.sl .int,.o] l))] []):=av (cgc (kJ.norm [.sl .int,.o]) cg0) cg0;refine ay [.o] mixed ap hG (fn:=Tryz.f157) (c:=ae Tryz.f157) kr kr kr kr (bY fun s_=>(bB (bC fun k_=>(ak ((ak (fun hp=>?_)))))));dsimp only[ax]at hp;refine⟨nbl rfl,L0,ah _,?_⟩
 ·unfold ae Tryz.f157;try unfold gN
  exact XB
@[go_sem] noncomputable def eT:List SV→Option Con:=fun l=>(orC (gM l) (gu l))
theorem jm:FnOk Tryz.prog 157 eT:=(FnOk.or jI iY)
def jJ (k_:PleasCourt)(c:Clause):Bool:=(!(ib c.if_ k_))
@[go_sem] def jK:List SV→Option Con:=(pX .pleasCourt fun k_=>(pD .clause fun c=>(pE (.det True (.v (.bool (jJ k_ c)))))))
theorem XC {p:Prop}(h:p:=by simp only[go_sem,Nat.reduceBEq,Nat.reduceLeDiff,Nat.reduceLT,decide_true,Nat.reduceAdd,Nat.reduceSub,Nat.reduceMul,Int.reduceLE,Int.reduceLT,Int.reduceToNat,Int.reduceNeg,reduceCtorEq,eT];all_goals exact cl):p:=h
theorem lE:FnOk Tryz.prog 165 jK:=by
 have hG:ConsOk Tryz.prog (mkG [(157,fun l=>eT (bA [.sl .int,.o] l))] []):=av (cgc (jm.norm [.sl .int,.o]) cg0) cg0;refine ay [.o] mixed ap hG (fn:=Tryz.f165) (c:=ae Tryz.f165) kr kr kr kr (aR fun k_=>(bF fun c=>(ak (fun hp=>?_))));dsimp only[ax]at hp;refine⟨nbl rfl,L0,ah _,?_⟩
 ·unfold ae Tryz.f165;try unfold jJ
  exact XC
def kK (k_:PleasCourt)(c:Clause):Bool:=(gN c.if_ k_)
@[go_sem] def lF:List SV→Option Con:=(pX .pleasCourt fun k_=>(pD .clause fun c=>(pE (.det True (.v (.bool (kK k_ c)))))))
theorem oe:FnOk Tryz.prog 167 lF:=by
 have hG:ConsOk Tryz.prog (mkG [(157,fun l=>eT (bA [.sl .int,.o] l))] []):=av (cgc (jm.norm [.sl .int,.o]) cg0) cg0;refine ay [.o] mixed ap hG (fn:=Tryz.f167) (c:=ae Tryz.f167) kr kr kr kr (aR fun k_=>(bF fun c=>(ak (fun hp=>?_))));dsimp only[ax]at hp;refine⟨nbl rfl,L0,ah _,?_⟩
 ·unfold ae Tryz.f167;try unfold kK
  exact XC
def mb (c:Clause)(q:Int)(k_:PleasCourt):Bool:=((c.then_==q)&&(jJ k_ c))
@[go_sem] def oZ:List SV→Option Con:=(pD .clause fun c=>(pX .int fun q=>(pXX .pleasCourt fun k_=>(pE (.det True (.v (.bool (mb c q k_))))))))
theorem uc:FnOk Tryz.prog 169 oZ:=by
 have hG:ConsOk Tryz.prog (mkG [(165,fun l=>jK (bA [.o,.st .clause] l))] []):=av (cgc (lE.norm [.o,.st .clause]) cg0) cg0;refine ay [.o] mixed ap hG (fn:=Tryz.f169) (c:=ae Tryz.f169) kr kr kr kr (bF fun c=>(aR fun q=>(bC fun k_=>(ak (fun hp=>?_)))));dsimp only[ax]at hp;refine⟨nbl rfl,L0,ah _,?_⟩
 ·unfold ae Tryz.f169;try unfold mb
  exact zq1
@[go_sem] def fN (s_:List Clause)(q:Int)(k_:PleasCourt)(k_0:Nat)(s_0:Unit):Int⊕Unit:=(bif(mb (s_.getD k_0 (default:Clause)) q k_)then .inl (k_0:Int)else .inr ())
def d_ (s_:List Clause)(q:Int)(k_:PleasCourt):Int:=(match aw (fN s_ q k_) s_.length 0 ()with| .inl x_0_0=>x_0_0| .inr s_0=>(-1))
@[go_sem] def bt:List SV→Option Con:=(pR .clause fun s_=>(pFn 169 (pX .int fun q=>(pXX .pleasCourt fun k_=>(pE ((pE (.det True (.v (.int .i64 (d_ s_ q k_)))))))))))
theorem cd:FnOk Tryz.prog 156 bt:=by
 have hG:ConsOk Tryz.prog (mkG [(169,fun l=>oZ (bA [.st .clause,.o,.o] l))] []):=av (cgc (uc.norm [.st .clause,.o,.o]) cg0) cg0;refine ay [.o] mixed ap hG (fn:=Tryz.f156) (c:=ae Tryz.f156) kr kr kr kr (bY fun s_=>(bB (aR fun q=>(bC fun k_=>(ak ((ak (fun hp=>?_))))))));dsimp only[ax]at hp;refine⟨nbl rfl,(fun id st=>bif Nat.beq id 0 then some (LCR (ρ:=Int) (σ:=Unit) 0 [] [] (fun k_0 s_0=>⟨[(0,.rs .clause s_),(1,.fn 169 [] [.ep [.v (.int .i64 q)] 0,.ep [.ep (cellsOf .pleasCourt k_) 0] 0]),(7,.v (.int .i64 (s_.length:Int))),(8,.v (.int .i64 (k_0:Int)))],[]⟩) (fN s_ q k_) pT s_.length () (s_.length≤aQ) (fun _=>.ret) (fun x_0_0=>⟨[(4,.v (.int .i64 x_0_0))],[]⟩) st)else none),?_,?_⟩
 ·unfold ae Tryz.f156;simp only[aq,true_and,and_true]
  ·refine aY mixed ap hG kr (fun _=>rfl) (s_.length:Int) rfl im (fun hb0 k_0 s_0 hlt0 _ hw hc=>⟨L0,ah _,?_⟩) (fun hb0 s_0 hc=>?_)
   ·exact bZ (jl [])
   ·exact bQ (jl [])
 ·unfold ae Tryz.f156;try unfold d_
  exact zq1
@[go_sem] noncomputable def d5:List SV→Option Con:=fun l=>(bt l)
theorem ko:FnOk Tryz.prog 156 d5:=cd
def kp (k_:PleasCourt)(q:Int):Int:=(i64.wrap (1+(d_ k_.plea.clauses q k_)))
@[go_sem] def qB:List SV→Option Con:=(pX .pleasCourt fun k_=>(pI fun q=>(pE (.det True (.v (.int .i64 (kp k_ q)))))))
theorem zq93 {p:Prop}(h:p:=by simp only[go_sem,Nat.reduceBEq,Nat.reduceLeDiff,Nat.reduceLT,decide_true,Nat.reduceAdd,Nat.reduceSub,Nat.reduceMul,Int.reduceLE,Int.reduceLT,Int.reduceToNat,Int.reduceNeg,reduceCtorEq,d5];all_goals exact cl):p:=h
theorem va:FnOk Tryz.prog 133 qB:=by
 have hG:ConsOk Tryz.prog (mkG [(156,fun l=>d5 (bA [.sl .clause,.o] l))] []):=av (cgc (ko.norm [.sl .clause,.o]) cg0) cg0;refine ay [.o] mixed ap hG (fn:=Tryz.f133) (c:=ae Tryz.f133) kr kr kr kr (aR fun k_=>(dh fun q=>(ak (fun hp=>?_))));dsimp only[ax]at hp;refine⟨nbl rfl,L0,ah _,?_⟩
 ·unfold ae Tryz.f133;try unfold kp
  exact zq93
def ku (c:Clause)(k_:PleasCourt)(w_:Clause):Bool:=((jJ k_ c)&&(decide (c.rank > w_.rank)))
@[go_sem] def nI:List SV→Option Con:=(pD .clause fun c=>(pXX .pleasCourt fun k_=>(pX .clause fun w_=>(pE (.det True (.v (.bool (ku c k_ w_))))))))
theorem sA:FnOk Tryz.prog 168 nI:=by
 have hG:ConsOk Tryz.prog (mkG [(165,fun l=>jK (bA [.o,.st .clause] l))] []):=av (cgc (lE.norm [.o,.st .clause]) cg0) cg0;refine ay [.o] mixed ap hG (fn:=Tryz.f168) (c:=ae Tryz.f168) kr kr kr kr (bF fun c=>(bC fun k_=>(aR fun w_=>(ak (fun hp=>?_)))));dsimp only[ax]at hp;refine⟨nbl rfl,L0,ah _,?_⟩
 ·unfold ae Tryz.f168;try unfold ku
  exact zq1
def jL (c:Clause)(k_:PleasCourt):Bool:=(!(kK k_ c))
@[go_sem] def mT:List SV→Option Con:=(pD .clause fun c=>(pXX .pleasCourt fun k_=>(pE (.det True (.v (.bool (jL c k_)))))))
theorem sb:FnOk Tryz.prog 172 mT:=by
 have hG:ConsOk Tryz.prog (mkG [(167,fun l=>lF (bA [.o,.st .clause] l))] []):=av (cgc (oe.norm [.o,.st .clause]) cg0) cg0;refine ay [.o] mixed ap hG (fn:=Tryz.f172) (c:=ae Tryz.f172) kr kr kr kr (bF fun c=>(bC fun k_=>(ak (fun hp=>?_))));dsimp only[ax]at hp;refine⟨nbl rfl,L0,ah _,?_⟩
 ·unfold ae Tryz.f172;try unfold jL
  exact zq1
def iL (c:Clause)(k_:PleasCourt)(w_:Clause):Bool:=((!(kK k_ c))&&(decide (c.rank > w_.rank)))
@[go_sem] def lG:List SV→Option Con:=(pD .clause fun c=>(pXX .pleasCourt fun k_=>(pX .clause fun w_=>(pE (.det True (.v (.bool (iL c k_ w_))))))))
theorem qU:FnOk Tryz.prog 175 lG:=by
 have hG:ConsOk Tryz.prog (mkG [(167,fun l=>lF (bA [.o,.st .clause] l))] []):=av (cgc (oe.norm [.o,.st .clause]) cg0) cg0;refine ay [.o] mixed ap hG (fn:=Tryz.f175) (c:=ae Tryz.f175) kr kr kr kr (bF fun c=>(bC fun k_=>(aR fun w_=>(ak (fun hp=>?_)))));dsimp only[ax]at hp;refine⟨nbl rfl,L0,ah _,?_⟩
 ·unfold ae Tryz.f175;try unfold iL
  exact zq1
def mc (c:Clause)(q0:Int)(k2:PleasCourt):Bool:=((c.then_==q0)&&(jJ k2 c))
@[go_sem] def kv:List SV→Option Con:=(pD .clause fun c=>(pX .int fun q0=>(HR 165 (pX .pleasCourt fun k2=>(pE ((pE (.det True (.v (.bool (mc c q0 k2)))))))))))
theorem ox:FnOk Tryz.prog 207 kv:=by
 have hG:ConsOk Tryz.prog (mkG [(165,fun l=>jK (bA [.o,.st .clause] l))] []):=av (cgc (lE.norm [.o,.st .clause]) cg0) cg0;refine ay [.o] mixed ap hG (fn:=Tryz.f207) (c:=ae Tryz.f207) kr kr kr kr (bF fun c=>(aR fun q0=>(Bu (aR fun k2=>(ak ((ak (fun hp=>?_))))))));dsimp only[ax]at hp;refine⟨nbl rfl,L0,ah _,?_⟩
 ·unfold ae Tryz.f207;try unfold mc
  exact zq1
def mf (c:Clause)(q0:Int)(k2:PleasCourt)(w_:Clause):Bool:=((c.then_==q0)&&(ku c k2 w_))
@[go_sem] def kw:List SV→Option Con:=(pD .clause fun c=>(pX .int fun q0=>(pXF 168 (pXX .pleasCourt fun k2=>(pX .clause fun w_=>(pE ((pE (.det True (.v (.bool (mf c q0 k2 w_))))))))))))
theorem oy:FnOk Tryz.prog 207 kw:=by
 have hG:ConsOk Tryz.prog (mkG [(168,fun l=>nI (bA [.st .clause,.o,.o] l))] []):=av (cgc (sA.norm [.st .clause,.o,.o]) cg0) cg0;refine ay [.o] mixed ap hG (fn:=Tryz.f207) (c:=ae Tryz.f207) kr kr kr kr (bF fun c=>(aR fun q0=>(j7 (bC fun k2=>(aR fun w_=>(ak ((ak (fun hp=>?_)))))))));dsimp only[ax]at hp;refine⟨nbl rfl,L0,ah _,?_⟩
 ·unfold ae Tryz.f207;try unfold mf
  exact zq1
def mg (c:Clause)(q0:Int)(k2:PleasCourt):Bool:=((c.then_==q0)&&(jL c k2))
@[go_sem] def kx:List SV→Option Con:=(pD .clause fun c=>(pX .int fun q0=>(pXF 172 (pXX .pleasCourt fun k2=>(pE ((pE (.det True (.v (.bool (mg c q0 k2)))))))))))
theorem oz:FnOk Tryz.prog 207 kx:=by
 have hG:ConsOk Tryz.prog (mkG [(172,fun l=>mT (bA [.st .clause,.o] l))] []):=av (cgc (sb.norm [.st .clause,.o]) cg0) cg0;refine ay [.o] mixed ap hG (fn:=Tryz.f207) (c:=ae Tryz.f207) kr kr kr kr (bF fun c=>(aR fun q0=>(j7 (bC fun k2=>(ak ((ak (fun hp=>?_))))))));dsimp only[ax]at hp;refine⟨nbl rfl,L0,ah _,?_⟩
 ·unfold ae Tryz.f207;try unfold mg
  exact zq1
def mh (c:Clause)(q0:Int)(k2:PleasCourt)(w_:Clause):Bool:=((c.then_==q0)&&(iL c k2 w_))
@[go_sem] def ky:List SV→Option Con:=(pD .clause fun c=>(pX .int fun q0=>(pXF 175 (pXX .pleasCourt fun k2=>(pX .clause fun w_=>(pE ((pE (.det True (.v (.bool (mh c q0 k2 w_))))))))))))
theorem oA:FnOk Tryz.prog 207 ky:=by
 have hG:ConsOk Tryz.prog (mkG [(175,fun l=>lG (bA [.st .clause,.o,.o] l))] []):=av (cgc (qU.norm [.st .clause,.o,.o]) cg0) cg0;refine ay [.o] mixed ap hG (fn:=Tryz.f207) (c:=ae Tryz.f207) kr kr kr kr (bF fun c=>(aR fun q0=>(j7 (bC fun k2=>(aR fun w_=>(ak ((ak (fun hp=>?_)))))))));dsimp only[ax]at hp;refine⟨nbl rfl,L0,ah _,?_⟩
 ·unfold ae Tryz.f207;try unfold mh
  exact zq1
@[go_sem] noncomputable def fg:List SV→Option Con:=fun l=>(orC (kv l) (orC (kw l) (orC (kx l) (ky l))))
theorem ic:FnOk Tryz.prog 207 fg:=(FnOk.or ox (FnOk.or oy (FnOk.or oz oA)))
@[go_sem] def fO (s_:List Clause)(q0:Int)(k2:PleasCourt)(k_0:Nat)(s_0:Unit):Int⊕Unit:=(bif(mc (s_.getD k_0 (default:Clause)) q0 k2)then .inl (k_0:Int)else .inr ())
def ed (s_:List Clause)(q0:Int)(k2:PleasCourt):Int:=(match aw (fO s_ q0 k2) s_.length 0 ()with| .inl x_0_0=>x_0_0| .inr s_0=>(-1))
@[go_sem] def cp:List SV→Option Con:=(pR .clause fun s_=>(pFn 207 (pX .int fun q0=>(HR 165 (pX .pleasCourt fun k2=>(pE ((pE ((pE (.det True (.v (.int .i64 (ed s_ q0 k2))))))))))))))
theorem Jq {p:Prop}(h:p:=by simp only[go_sem,Nat.reduceBEq,Nat.reduceLeDiff,Nat.reduceLT,decide_true,Nat.reduceAdd,Nat.reduceSub,Nat.reduceMul,Int.reduceLE,Int.reduceLT,Int.reduceToNat,Int.reduceNeg,reduceCtorEq,fg];all_goals exact cl):p:=h
theorem dD:FnOk Tryz.prog 156 cp:=by
 have hG:ConsOk Tryz.prog (mkG [(207,fun l=>fg (bA [.st .clause,.o,.o] l))] []):=av (cgc (ic.norm [.st .clause,.o,.o]) cg0) cg0;refine ay [.o] mixed ap hG (fn:=Tryz.f156) (c:=ae Tryz.f156) kr kr kr kr (bY fun s_=>(bB (aR fun q0=>(Bu (aR fun k2=>(ak ((ak ((ak (fun hp=>?_)))))))))));dsimp only[ax]at hp;refine⟨nbl rfl,(fun id st=>bif Nat.beq id 0 then some (LCR (ρ:=Int) (σ:=Unit) 0 [] [] (fun k_0 s_0=>⟨[(0,.rs .clause s_),(1,.fn 207 [] [.ep [.v (.int .i64 q0)] 0,.ep [.fn 165 [.ep (cellsOf .pleasCourt k2) 0] []] 0]),(7,.v (.int .i64 (s_.length:Int))),(8,.v (.int .i64 (k_0:Int)))],[]⟩) (fO s_ q0 k2) pT s_.length () (s_.length≤aQ) (fun _=>.ret) (fun x_0_0=>⟨[(4,.v (.int .i64 x_0_0))],[]⟩) st)else none),?_,?_⟩
 ·unfold ae Tryz.f156;simp only[aq,true_and,and_true]
  ·refine aY mixed ap hG kr (fun _=>rfl) (s_.length:Int) rfl im (fun hb0 k_0 s_0 hlt0 _ hw hc=>⟨L0,ah _,?_⟩) (fun hb0 s_0 hc=>?_)
   ·exact bZ (jl [])
   ·exact bQ (jl [])
 ·unfold ae Tryz.f156;try unfold ed
  exact Jq
@[go_sem] def fP (s_:List Clause)(q0:Int)(k2:PleasCourt)(w_:Clause)(k_0:Nat)(s_0:Unit):Int⊕Unit:=(bif(mf (s_.getD k_0 (default:Clause)) q0 k2 w_)then .inl (k_0:Int)else .inr ())
def ee (s_:List Clause)(q0:Int)(k2:PleasCourt)(w_:Clause):Int:=(match aw (fP s_ q0 k2 w_) s_.length 0 ()with| .inl x_0_0=>x_0_0| .inr s_0=>(-1))
@[go_sem] def cq:List SV→Option Con:=(pR .clause fun s_=>(pFn 207 (pX .int fun q0=>(pXF 168 (pXX .pleasCourt fun k2=>(pX .clause fun w_=>(pE ((pE ((pE (.det True (.v (.int .i64 (ee s_ q0 k2 w_)))))))))))))))
theorem dE:FnOk Tryz.prog 156 cq:=by
 have hG:ConsOk Tryz.prog (mkG [(207,fun l=>fg (bA [.st .clause,.o,.o] l))] []):=av (cgc (ic.norm [.st .clause,.o,.o]) cg0) cg0;refine ay [.o] mixed ap hG (fn:=Tryz.f156) (c:=ae Tryz.f156) kr kr kr kr (bY fun s_=>(bB (aR fun q0=>(j7 (bC fun k2=>(aR fun w_=>(ak ((ak ((ak (fun hp=>?_))))))))))));dsimp only[ax]at hp;refine⟨nbl rfl,(fun id st=>bif Nat.beq id 0 then some (LCR (ρ:=Int) (σ:=Unit) 0 [] [] (fun k_0 s_0=>⟨[(0,.rs .clause s_),(1,.fn 207 [] [.ep [.v (.int .i64 q0)] 0,.ep [.fn 168 [] [.ep [.ep (cellsOf .pleasCourt k2) 0] 0,.ep (cellsOf .clause w_) 0]] 0]),(7,.v (.int .i64 (s_.length:Int))),(8,.v (.int .i64 (k_0:Int)))],[]⟩) (fP s_ q0 k2 w_) pT s_.length () (s_.length≤aQ) (fun _=>.ret) (fun x_0_0=>⟨[(4,.v (.int .i64 x_0_0))],[]⟩) st)else none),?_,?_⟩
 ·unfold ae Tryz.f156;simp only[aq,true_and,and_true]
  ·refine aY mixed ap hG kr (fun _=>rfl) (s_.length:Int) rfl im (fun hb0 k_0 s_0 hlt0 _ hw hc=>⟨L0,ah _,?_⟩) (fun hb0 s_0 hc=>?_)
   ·exact bZ (jl [])
   ·exact bQ (jl [])
 ·unfold ae Tryz.f156;try unfold ee
  exact Jq
@[go_sem] def fQ (s_:List Clause)(q0:Int)(k2:PleasCourt)(k_0:Nat)(s_0:Unit):Int⊕Unit:=(bif(mg (s_.getD k_0 (default:Clause)) q0 k2)then .inl (k_0:Int)else .inr ())
def eh (s_:List Clause)(q0:Int)(k2:PleasCourt):Int:=(match aw (fQ s_ q0 k2) s_.length 0 ()with| .inl x_0_0=>x_0_0| .inr s_0=>(-1))
@[go_sem] def cr:List SV→Option Con:=(pR .clause fun s_=>(pFn 207 (pX .int fun q0=>(pXF 172 (pXX .pleasCourt fun k2=>(pE ((pE ((pE (.det True (.v (.int .i64 (eh s_ q0 k2))))))))))))))
theorem dF:FnOk Tryz.prog 156 cr:=by
 have hG:ConsOk Tryz.prog (mkG [(207,fun l=>fg (bA [.st .clause,.o,.o] l))] []):=av (cgc (ic.norm [.st .clause,.o,.o]) cg0) cg0;refine ay [.o] mixed ap hG (fn:=Tryz.f156) (c:=ae Tryz.f156) kr kr kr kr (bY fun s_=>(bB (aR fun q0=>(j7 (bC fun k2=>(ak ((ak ((ak (fun hp=>?_)))))))))));dsimp only[ax]at hp;refine⟨nbl rfl,(fun id st=>bif Nat.beq id 0 then some (LCR (ρ:=Int) (σ:=Unit) 0 [] [] (fun k_0 s_0=>⟨[(0,.rs .clause s_),(1,.fn 207 [] [.ep [.v (.int .i64 q0)] 0,.ep [.fn 172 [] [.ep [.ep (cellsOf .pleasCourt k2) 0] 0]] 0]),(7,.v (.int .i64 (s_.length:Int))),(8,.v (.int .i64 (k_0:Int)))],[]⟩) (fQ s_ q0 k2) pT s_.length () (s_.length≤aQ) (fun _=>.ret) (fun x_0_0=>⟨[(4,.v (.int .i64 x_0_0))],[]⟩) st)else none),?_,?_⟩
 ·unfold ae Tryz.f156;simp only[aq,true_and,and_true]
  ·refine aY mixed ap hG kr (fun _=>rfl) (s_.length:Int) rfl im (fun hb0 k_0 s_0 hlt0 _ hw hc=>⟨L0,ah _,?_⟩) (fun hb0 s_0 hc=>?_)
   ·exact bZ (jl [])
   ·exact bQ (jl [])
 ·unfold ae Tryz.f156;try unfold eh
  exact Jq
@[go_sem] def fR (s_:List Clause)(q0:Int)(k2:PleasCourt)(w_:Clause)(k_0:Nat)(s_0:Unit):Int⊕Unit:=(bif(mh (s_.getD k_0 (default:Clause)) q0 k2 w_)then .inl (k_0:Int)else .inr ())
def ei (s_:List Clause)(q0:Int)(k2:PleasCourt)(w_:Clause):Int:=(match aw (fR s_ q0 k2 w_) s_.length 0 ()with| .inl x_0_0=>x_0_0| .inr s_0=>(-1))
@[go_sem] def ct:List SV→Option Con:=(pR .clause fun s_=>(pFn 207 (pX .int fun q0=>(pXF 175 (pXX .pleasCourt fun k2=>(pX .clause fun w_=>(pE ((pE ((pE (.det True (.v (.int .i64 (ei s_ q0 k2 w_)))))))))))))))
theorem dH:FnOk Tryz.prog 156 ct:=by
 have hG:ConsOk Tryz.prog (mkG [(207,fun l=>fg (bA [.st .clause,.o,.o] l))] []):=av (cgc (ic.norm [.st .clause,.o,.o]) cg0) cg0;refine ay [.o] mixed ap hG (fn:=Tryz.f156) (c:=ae Tryz.f156) kr kr kr kr (bY fun s_=>(bB (aR fun q0=>(j7 (bC fun k2=>(aR fun w_=>(ak ((ak ((ak (fun hp=>?_))))))))))));dsimp only[ax]at hp;refine⟨nbl rfl,(fun id st=>bif Nat.beq id 0 then some (LCR (ρ:=Int) (σ:=Unit) 0 [] [] (fun k_0 s_0=>⟨[(0,.rs .clause s_),(1,.fn 207 [] [.ep [.v (.int .i64 q0)] 0,.ep [.fn 175 [] [.ep [.ep (cellsOf .pleasCourt k2) 0] 0,.ep (cellsOf .clause w_) 0]] 0]),(7,.v (.int .i64 (s_.length:Int))),(8,.v (.int .i64 (k_0:Int)))],[]⟩) (fR s_ q0 k2 w_) pT s_.length () (s_.length≤aQ) (fun _=>.ret) (fun x_0_0=>⟨[(4,.v (.int .i64 x_0_0))],[]⟩) st)else none),?_,?_⟩
 ·unfold ae Tryz.f156;simp only[aq,true_and,and_true]
  ·refine aY mixed ap hG kr (fun _=>rfl) (s_.length:Int) rfl im (fun hb0 k_0 s_0 hlt0 _ hw hc=>⟨L0,ah _,?_⟩) (fun hb0 s_0 hc=>?_)
   ·exact bZ (jl [])
   ·exact bQ (jl [])
 ·unfold ae Tryz.f156;try unfold ei
  exact Jq
@[go_sem] noncomputable def bb:List SV→Option Con:=fun l=>(orC (bt l) (orC (cp l) (orC (cq l) (orC (cr l) (ct l)))))
theorem cw:FnOk Tryz.prog 156 bb:=(FnOk.or cd (FnOk.or dD (FnOk.or dE (FnOk.or dF dH))))
def dI (s_:List Clause)(q0:Int)(k2:PleasCourt):Bool:=(decide ((ed s_ q0 k2)≥0))
@[go_sem] def bT:List SV→Option Con:=(pR .clause fun s_=>(pFn 207 (pX .int fun q0=>(HR 165 (pX .pleasCourt fun k2=>(pE ((pE ((pE (.det True (.v (.bool (dI s_ q0 k2))))))))))))))
theorem Jr {p:Prop}(h:p:=by simp only[go_sem,Nat.reduceBEq,Nat.reduceLeDiff,Nat.reduceLT,decide_true,Nat.reduceAdd,Nat.reduceSub,Nat.reduceMul,Int.reduceLE,Int.reduceLT,Int.reduceToNat,Int.reduceNeg,reduceCtorEq,bb];all_goals exact cl):p:=h
theorem c9:FnOk Tryz.prog 116 bT:=by
 have hG:ConsOk Tryz.prog (mkG [(156,fun l=>bb (bA [.sl .clause,.o] l))] []):=av (cgc (cw.norm [.sl .clause,.o]) cg0) cg0;refine ay [.o] mixed ap hG (fn:=Tryz.f116) (c:=ae Tryz.f116) kr kr kr kr (bY fun s_=>(bB (aR fun q0=>(Bu (aR fun k2=>(ak ((ak ((ak (fun hp=>?_)))))))))));dsimp only[ax]at hp;refine⟨nbl rfl,L0,ah _,?_⟩
 ·unfold ae Tryz.f116;try unfold dI
  exact Jr
def dJ (s_:List Clause)(q0:Int)(k2:PleasCourt)(w_:Clause):Bool:=(decide ((ee s_ q0 k2 w_)≥0))
@[go_sem] def bU:List SV→Option Con:=(pR .clause fun s_=>(pFn 207 (pX .int fun q0=>(pXF 168 (pXX .pleasCourt fun k2=>(pX .clause fun w_=>(pE ((pE ((pE (.det True (.v (.bool (dJ s_ q0 k2 w_)))))))))))))))
theorem da:FnOk Tryz.prog 116 bU:=by
 have hG:ConsOk Tryz.prog (mkG [(156,fun l=>bb (bA [.sl .clause,.o] l))] []):=av (cgc (cw.norm [.sl .clause,.o]) cg0) cg0;refine ay [.o] mixed ap hG (fn:=Tryz.f116) (c:=ae Tryz.f116) kr kr kr kr (bY fun s_=>(bB (aR fun q0=>(j7 (bC fun k2=>(aR fun w_=>(ak ((ak ((ak (fun hp=>?_))))))))))));dsimp only[ax]at hp;refine⟨nbl rfl,L0,ah _,?_⟩
 ·unfold ae Tryz.f116;try unfold dJ
  exact Jr
def dL (s_:List Clause)(q0:Int)(k2:PleasCourt):Bool:=(decide ((eh s_ q0 k2)≥0))
@[go_sem] def bV:List SV→Option Con:=(pR .clause fun s_=>(pFn 207 (pX .int fun q0=>(pXF 172 (pXX .pleasCourt fun k2=>(pE ((pE ((pE (.det True (.v (.bool (dL s_ q0 k2))))))))))))))
theorem db:FnOk Tryz.prog 116 bV:=by
 have hG:ConsOk Tryz.prog (mkG [(156,fun l=>bb (bA [.sl .clause,.o] l))] []):=av (cgc (cw.norm [.sl .clause,.o]) cg0) cg0;refine ay [.o] mixed ap hG (fn:=Tryz.f116) (c:=ae Tryz.f116) kr kr kr kr (bY fun s_=>(bB (aR fun q0=>(j7 (bC fun k2=>(ak ((ak ((ak (fun hp=>?_)))))))))));dsimp only[ax]at hp;refine⟨nbl rfl,L0,ah _,?_⟩
 ·unfold ae Tryz.f116;try unfold dL
  exact Jr
def dM (s_:List Clause)(q0:Int)(k2:PleasCourt)(w_:Clause):Bool:=(decide ((ei s_ q0 k2 w_)≥0))
@[go_sem] def bW:List SV→Option Con:=(pR .clause fun s_=>(pFn 207 (pX .int fun q0=>(pXF 175 (pXX .pleasCourt fun k2=>(pX .clause fun w_=>(pE ((pE ((pE (.det True (.v (.bool (dM s_ q0 k2 w_)))))))))))))))
theorem dc:FnOk Tryz.prog 116 bW:=by
 have hG:ConsOk Tryz.prog (mkG [(156,fun l=>bb (bA [.sl .clause,.o] l))] []):=av (cgc (cw.norm [.sl .clause,.o]) cg0) cg0;refine ay [.o] mixed ap hG (fn:=Tryz.f116) (c:=ae Tryz.f116) kr kr kr kr (bY fun s_=>(bB (aR fun q0=>(j7 (bC fun k2=>(aR fun w_=>(ak ((ak ((ak (fun hp=>?_))))))))))));dsimp only[ax]at hp;refine⟨nbl rfl,L0,ah _,?_⟩
 ·unfold ae Tryz.f116;try unfold dM
  exact Jr
@[go_sem] noncomputable def aW:List SV→Option Con:=fun l=>(orC (bT l) (orC (bU l) (orC (bV l) (bW l))))
theorem bX:FnOk Tryz.prog 116 aW:=(FnOk.or c9 (FnOk.or da (FnOk.or db dc)))
def og (k_:PleasCourt)(q:Int)(k2:PleasCourt):Bool:=(dI k_.plea.clauses q k2)
@[go_sem] def mj:List SV→Option Con:=(pX .pleasCourt fun k_=>(pI fun q=>(pFB 165 (pX .pleasCourt fun k2=>(pE ((pE (.det True (.v (.bool (og k_ q k2)))))))))))
theorem Js {p:Prop}(h:p:=by simp only[go_sem,Nat.reduceBEq,Nat.reduceLeDiff,Nat.reduceLT,decide_true,Nat.reduceAdd,Nat.reduceSub,Nat.reduceMul,Int.reduceLE,Int.reduceLT,Int.reduceToNat,Int.reduceNeg,reduceCtorEq,aW];all_goals exact cl):p:=h
theorem pj:FnOk Tryz.prog 164 mj:=by
 have hG:ConsOk Tryz.prog (mkG [(116,fun l=>aW (bA [.sl .clause,.o] l))] []):=av (cgc (bX.norm [.sl .clause,.o]) cg0) cg0;refine ay [.o] mixed ap hG (fn:=Tryz.f164) (c:=ae Tryz.f164) kr kr kr kr (aR fun k_=>(dh fun q=>(PV (aR fun k2=>(ak ((ak (fun hp=>?_))))))));dsimp only[ax]at hp;refine⟨nbl rfl,L0,ah _,?_⟩
 ·unfold ae Tryz.f164;try unfold og
  exact Js
def oh (k_:PleasCourt)(q:Int)(k2:PleasCourt)(w_:Clause):Bool:=(dJ k_.plea.clauses q k2 w_)
@[go_sem] def ml:List SV→Option Con:=(pX .pleasCourt fun k_=>(pI fun q=>(pFn 168 (pXX .pleasCourt fun k2=>(pX .clause fun w_=>(pE ((pE (.det True (.v (.bool (oh k_ q k2 w_))))))))))))
theorem pm:FnOk Tryz.prog 164 ml:=by
 have hG:ConsOk Tryz.prog (mkG [(116,fun l=>aW (bA [.sl .clause,.o] l))] []):=av (cgc (bX.norm [.sl .clause,.o]) cg0) cg0;refine ay [.o] mixed ap hG (fn:=Tryz.f164) (c:=ae Tryz.f164) kr kr kr kr (aR fun k_=>(dh fun q=>(bB (bC fun k2=>(aR fun w_=>(ak ((ak (fun hp=>?_)))))))));dsimp only[ax]at hp;refine⟨nbl rfl,L0,ah _,?_⟩
 ·unfold ae Tryz.f164;try unfold oh
  exact Js
def oi (k_:PleasCourt)(q:Int)(k2:PleasCourt):Bool:=(dL k_.plea.clauses q k2)
@[go_sem] def mm:List SV→Option Con:=(pX .pleasCourt fun k_=>(pI fun q=>(pFn 172 (pXX .pleasCourt fun k2=>(pE ((pE (.det True (.v (.bool (oi k_ q k2)))))))))))
theorem pn:FnOk Tryz.prog 164 mm:=by
 have hG:ConsOk Tryz.prog (mkG [(116,fun l=>aW (bA [.sl .clause,.o] l))] []):=av (cgc (bX.norm [.sl .clause,.o]) cg0) cg0;refine ay [.o] mixed ap hG (fn:=Tryz.f164) (c:=ae Tryz.f164) kr kr kr kr (aR fun k_=>(dh fun q=>(bB (bC fun k2=>(ak ((ak (fun hp=>?_))))))));dsimp only[ax]at hp;refine⟨nbl rfl,L0,ah _,?_⟩
 ·unfold ae Tryz.f164;try unfold oi
  exact Js
def oj (k_:PleasCourt)(q:Int)(k2:PleasCourt)(w_:Clause):Bool:=(dM k_.plea.clauses q k2 w_)
@[go_sem] def mn:List SV→Option Con:=(pX .pleasCourt fun k_=>(pI fun q=>(pFn 175 (pXX .pleasCourt fun k2=>(pX .clause fun w_=>(pE ((pE (.det True (.v (.bool (oj k_ q k2 w_))))))))))))
theorem pr:FnOk Tryz.prog 164 mn:=by
 have hG:ConsOk Tryz.prog (mkG [(116,fun l=>aW (bA [.sl .clause,.o] l))] []):=av (cgc (bX.norm [.sl .clause,.o]) cg0) cg0;refine ay [.o] mixed ap hG (fn:=Tryz.f164) (c:=ae Tryz.f164) kr kr kr kr (aR fun k_=>(dh fun q=>(bB (bC fun k2=>(aR fun w_=>(ak ((ak (fun hp=>?_)))))))));dsimp only[ax]at hp;refine⟨nbl rfl,L0,ah _,?_⟩
 ·unfold ae Tryz.f164;try unfold oj
  exact Js
@[go_sem] noncomputable def jr:List SV→Option Con:=fun l=>(orC (mj l) (orC (ml l) (orC (mm l) (mn l))))
theorem qC:FnOk Tryz.prog 164 jr:=(FnOk.or pj (FnOk.or pm (FnOk.or pn pr)))
def mo (s_:Clause)(k_:PleasCourt)(q:Int):Bool:=((!(kK k_ s_))&&(!(oh k_ q k_ s_)))
@[go_sem] def o4:List SV→Option Con:=(pD .clause fun s_=>(pXX .pleasCourt fun k_=>(pX .int fun q=>(pE (.det True (.v (.bool (mo s_ k_ q))))))))
theorem Q9 {p:Prop}(h:p:=by simp only[go_sem,Nat.reduceBEq,Nat.reduceLeDiff,Nat.reduceLT,decide_true,Nat.reduceAdd,Nat.reduceSub,Nat.reduceMul,Int.reduceLE,Int.reduceLT,Int.reduceToNat,Int.reduceNeg,reduceCtorEq,jr];all_goals exact cl):p:=h
theorem ud:FnOk Tryz.prog 166 o4:=by
 have hG:ConsOk Tryz.prog (mkG [(164,jr),(167,fun l=>lF (bA [.o,.st .clause] l))] []):=av (cgc qC (cgc (oe.norm [.o,.st .clause]) cg0)) cg0;refine ay [.o] mixed ap hG (fn:=Tryz.f166) (c:=ae Tryz.f166) kr kr kr kr (bF fun s_=>(bC fun k_=>(aR fun q=>(ak (fun hp=>?_)))));dsimp only[ax]at hp;refine⟨nbl rfl,L0,ah _,?_⟩
 ·unfold ae Tryz.f166;try unfold mo
  exact Q9
def jM (s_:Clause)(k_:PleasCourt)(q:Int):Bool:=((jJ k_ s_)&&(!(oj k_ q k_ s_)))
@[go_sem] def mU:List SV→Option Con:=(pD .clause fun s_=>(pXX .pleasCourt fun k_=>(pX .int fun q=>(pE (.det True (.v (.bool (jM s_ k_ q))))))))
theorem sd:FnOk Tryz.prog 174 mU:=by
 have hG:ConsOk Tryz.prog (mkG [(164,jr),(165,fun l=>jK (bA [.o,.st .clause] l))] []):=av (cgc qC (cgc (lE.norm [.o,.st .clause]) cg0)) cg0;refine ay [.o] mixed ap hG (fn:=Tryz.f174) (c:=ae Tryz.f174) kr kr kr kr (bF fun s_=>(bC fun k_=>(aR fun q=>(ak (fun hp=>?_)))));dsimp only[ax]at hp;refine⟨nbl rfl,L0,ah _,?_⟩
 ·unfold ae Tryz.f174;try unfold jM
  exact Q9
def mq (c:Clause)(q0:Int)(k2:PleasCourt)(q2:Int):Bool:=((c.then_==q0)&&(mo c k2 q2))
@[go_sem] def o5:List SV→Option Con:=(pD .clause fun c=>(pX .int fun q0=>(pXF 166 (pXX .pleasCourt fun k2=>(pX .int fun q2=>(pE ((pE (.det True (.v (.bool (mq c q0 k2 q2))))))))))))
theorem ue:FnOk Tryz.prog 207 o5:=by
 have hG:ConsOk Tryz.prog (mkG [(166,fun l=>o4 (bA [.st .clause,.o,.o] l))] []):=av (cgc (ud.norm [.st .clause,.o,.o]) cg0) cg0;refine ay [.o] mixed ap hG (fn:=Tryz.f207) (c:=ae Tryz.f207) kr kr kr kr (bF fun c=>(aR fun q0=>(j7 (bC fun k2=>(aR fun q2=>(ak ((ak (fun hp=>?_)))))))));dsimp only[ax]at hp;refine⟨nbl rfl,L0,ah _,?_⟩
 ·unfold ae Tryz.f207;try unfold mq
  exact zq1
def mr (c:Clause)(q0:Int)(k2:PleasCourt)(q2:Int):Bool:=((c.then_==q0)&&(jM c k2 q2))
@[go_sem] def o6:List SV→Option Con:=(pD .clause fun c=>(pX .int fun q0=>(pXF 174 (pXX .pleasCourt fun k2=>(pX .int fun q2=>(pE ((pE (.det True (.v (.bool (mr c q0 k2 q2))))))))))))
theorem uf:FnOk Tryz.prog 207 o6:=by
 have hG:ConsOk Tryz.prog (mkG [(174,fun l=>mU (bA [.st .clause,.o,.o] l))] []):=av (cgc (sd.norm [.st .clause,.o,.o]) cg0) cg0;refine ay [.o] mixed ap hG (fn:=Tryz.f207) (c:=ae Tryz.f207) kr kr kr kr (bF fun c=>(aR fun q0=>(j7 (bC fun k2=>(aR fun q2=>(ak ((ak (fun hp=>?_)))))))));dsimp only[ax]at hp;refine⟨nbl rfl,L0,ah _,?_⟩
 ·unfold ae Tryz.f207;try unfold mr
  exact zq1
@[go_sem] noncomputable def iI:List SV→Option Con:=fun l=>(orC (kv l) (orC (kw l) (orC (kx l) (orC (ky l) (orC (o5 l) (o6 l))))))
theorem o7:FnOk Tryz.prog 207 iI:=(FnOk.or ox (FnOk.or oy (FnOk.or oz (FnOk.or oA (FnOk.or ue uf)))))
@[go_sem] def fS (s_:List Clause)(q0:Int)(k2:PleasCourt)(q2:Int)(k_0:Nat)(s_0:Unit):Int⊕Unit:=(bif(mq (s_.getD k_0 (default:Clause)) q0 k2 q2)then .inl (k_0:Int)else .inr ())
def eo (s_:List Clause)(q0:Int)(k2:PleasCourt)(q2:Int):Int:=(match aw (fS s_ q0 k2 q2) s_.length 0 ()with| .inl x_0_0=>x_0_0| .inr s_0=>(-1))
@[go_sem] def dV:List SV→Option Con:=(pR .clause fun s_=>(pFn 207 (pX .int fun q0=>(pXF 166 (pXX .pleasCourt fun k2=>(pX .int fun q2=>(pE ((pE ((pE (.det True (.v (.int .i64 (eo s_ q0 k2 q2)))))))))))))))
theorem Q_ {p:Prop}(h:p:=by simp only[go_sem,Nat.reduceBEq,Nat.reduceLeDiff,Nat.reduceLT,decide_true,Nat.reduceAdd,Nat.reduceSub,Nat.reduceMul,Int.reduceLE,Int.reduceLT,Int.reduceToNat,Int.reduceNeg,reduceCtorEq,iI];all_goals exact cl):p:=h
theorem fT:FnOk Tryz.prog 156 dV:=by
 have hG:ConsOk Tryz.prog (mkG [(207,fun l=>iI (bA [.st .clause,.o,.o] l))] []):=av (cgc (o7.norm [.st .clause,.o,.o]) cg0) cg0;refine ay [.o] mixed ap hG (fn:=Tryz.f156) (c:=ae Tryz.f156) kr kr kr kr (bY fun s_=>(bB (aR fun q0=>(j7 (bC fun k2=>(aR fun q2=>(ak ((ak ((ak (fun hp=>?_))))))))))));dsimp only[ax]at hp;refine⟨nbl rfl,(fun id st=>bif Nat.beq id 0 then some (LCR (ρ:=Int) (σ:=Unit) 0 [] [] (fun k_0 s_0=>⟨[(0,.rs .clause s_),(1,.fn 207 [] [.ep [.v (.int .i64 q0)] 0,.ep [.fn 166 [] [.ep [.ep (cellsOf .pleasCourt k2) 0] 0,.ep [.v (.int .i64 q2)] 0]] 0]),(7,.v (.int .i64 (s_.length:Int))),(8,.v (.int .i64 (k_0:Int)))],[]⟩) (fS s_ q0 k2 q2) pT s_.length () (s_.length≤aQ) (fun _=>.ret) (fun x_0_0=>⟨[(4,.v (.int .i64 x_0_0))],[]⟩) st)else none),?_,?_⟩
 ·unfold ae Tryz.f156;simp only[aq,true_and,and_true]
  ·refine aY mixed ap hG kr (fun _=>rfl) (s_.length:Int) rfl im (fun hb0 k_0 s_0 hlt0 _ hw hc=>⟨L0,ah _,?_⟩) (fun hb0 s_0 hc=>?_)
   ·exact bZ (jl [])
   ·exact bQ (jl [])
 ·unfold ae Tryz.f156;try unfold eo
  exact Q_
@[go_sem] def fU (s_:List Clause)(q0:Int)(k2:PleasCourt)(q2:Int)(k_0:Nat)(s_0:Unit):Int⊕Unit:=(bif(mr (s_.getD k_0 (default:Clause)) q0 k2 q2)then .inl (k_0:Int)else .inr ())
def er (s_:List Clause)(q0:Int)(k2:PleasCourt)(q2:Int):Int:=(match aw (fU s_ q0 k2 q2) s_.length 0 ()with| .inl x_0_0=>x_0_0| .inr s_0=>(-1))
@[go_sem] def dW:List SV→Option Con:=(pR .clause fun s_=>(pFn 207 (pX .int fun q0=>(pXF 174 (pXX .pleasCourt fun k2=>(pX .int fun q2=>(pE ((pE ((pE (.det True (.v (.int .i64 (er s_ q0 k2 q2)))))))))))))))
theorem fV:FnOk Tryz.prog 156 dW:=by
 have hG:ConsOk Tryz.prog (mkG [(207,fun l=>iI (bA [.st .clause,.o,.o] l))] []):=av (cgc (o7.norm [.st .clause,.o,.o]) cg0) cg0;refine ay [.o] mixed ap hG (fn:=Tryz.f156) (c:=ae Tryz.f156) kr kr kr kr (bY fun s_=>(bB (aR fun q0=>(j7 (bC fun k2=>(aR fun q2=>(ak ((ak ((ak (fun hp=>?_))))))))))));dsimp only[ax]at hp;refine⟨nbl rfl,(fun id st=>bif Nat.beq id 0 then some (LCR (ρ:=Int) (σ:=Unit) 0 [] [] (fun k_0 s_0=>⟨[(0,.rs .clause s_),(1,.fn 207 [] [.ep [.v (.int .i64 q0)] 0,.ep [.fn 174 [] [.ep [.ep (cellsOf .pleasCourt k2) 0] 0,.ep [.v (.int .i64 q2)] 0]] 0]),(7,.v (.int .i64 (s_.length:Int))),(8,.v (.int .i64 (k_0:Int)))],[]⟩) (fU s_ q0 k2 q2) pT s_.length () (s_.length≤aQ) (fun _=>.ret) (fun x_0_0=>⟨[(4,.v (.int .i64 x_0_0))],[]⟩) st)else none),?_,?_⟩
 ·unfold ae Tryz.f156;simp only[aq,true_and,and_true]
  ·refine aY mixed ap hG kr (fun _=>rfl) (s_.length:Int) rfl im (fun hb0 k_0 s_0 hlt0 _ hw hc=>⟨L0,ah _,?_⟩) (fun hb0 s_0 hc=>?_)
   ·exact bZ (jl [])
   ·exact bQ (jl [])
 ·unfold ae Tryz.f156;try unfold er
  exact Q_
@[go_sem] noncomputable def cB:List SV→Option Con:=fun l=>(orC (bt l) (orC (cp l) (orC (cq l) (orC (cr l) (orC (ct l) (orC (dV l) (dW l)))))))
theorem gc:FnOk Tryz.prog 156 cB:=(FnOk.or cd (FnOk.or dD (FnOk.or dE (FnOk.or dF (FnOk.or dH (FnOk.or fT fV))))))
def dN (s_:List Clause)(q0:Int)(k2:PleasCourt)(q2:Int):Bool:=(decide ((eo s_ q0 k2 q2)≥0))
@[go_sem] def di:List SV→Option Con:=(pR .clause fun s_=>(pFn 207 (pX .int fun q0=>(pXF 166 (pXX .pleasCourt fun k2=>(pX .int fun q2=>(pE ((pE ((pE (.det True (.v (.bool (dN s_ q0 k2 q2)))))))))))))))
theorem Ra {p:Prop}(h:p:=by simp only[go_sem,Nat.reduceBEq,Nat.reduceLeDiff,Nat.reduceLT,decide_true,Nat.reduceAdd,Nat.reduceSub,Nat.reduceMul,Int.reduceLE,Int.reduceLT,Int.reduceToNat,Int.reduceNeg,reduceCtorEq,cB];all_goals exact cl):p:=h
theorem fl:FnOk Tryz.prog 116 di:=by
 have hG:ConsOk Tryz.prog (mkG [(156,fun l=>cB (bA [.sl .clause,.o] l))] []):=av (cgc (gc.norm [.sl .clause,.o]) cg0) cg0;refine ay [.o] mixed ap hG (fn:=Tryz.f116) (c:=ae Tryz.f116) kr kr kr kr (bY fun s_=>(bB (aR fun q0=>(j7 (bC fun k2=>(aR fun q2=>(ak ((ak ((ak (fun hp=>?_))))))))))));dsimp only[ax]at hp;refine⟨nbl rfl,L0,ah _,?_⟩
 ·unfold ae Tryz.f116;try unfold dN
  exact Ra
def dO (s_:List Clause)(q0:Int)(k2:PleasCourt)(q2:Int):Bool:=(decide ((er s_ q0 k2 q2)≥0))
@[go_sem] def dp:List SV→Option Con:=(pR .clause fun s_=>(pFn 207 (pX .int fun q0=>(pXF 174 (pXX .pleasCourt fun k2=>(pX .int fun q2=>(pE ((pE ((pE (.det True (.v (.bool (dO s_ q0 k2 q2)))))))))))))))
theorem fo:FnOk Tryz.prog 116 dp:=by
 have hG:ConsOk Tryz.prog (mkG [(156,fun l=>cB (bA [.sl .clause,.o] l))] []):=av (cgc (gc.norm [.sl .clause,.o]) cg0) cg0;refine ay [.o] mixed ap hG (fn:=Tryz.f116) (c:=ae Tryz.f116) kr kr kr kr (bY fun s_=>(bB (aR fun q0=>(j7 (bC fun k2=>(aR fun q2=>(ak ((ak ((ak (fun hp=>?_))))))))))));dsimp only[ax]at hp;refine⟨nbl rfl,L0,ah _,?_⟩
 ·unfold ae Tryz.f116;try unfold dO
  exact Ra
@[go_sem] noncomputable def b_:List SV→Option Con:=fun l=>(orC (bT l) (orC (bU l) (orC (bV l) (orC (bW l) (orC (di l) (dp l))))))
theorem fu:FnOk Tryz.prog 116 b_:=(FnOk.or c9 (FnOk.or da (FnOk.or db (FnOk.or dc (FnOk.or fl fo)))))
def ol (k_:PleasCourt)(q:Int)(k2:PleasCourt)(q2:Int):Bool:=(dN k_.plea.clauses q k2 q2)
@[go_sem] def qD:List SV→Option Con:=(pX .pleasCourt fun k_=>(pI fun q=>(pFn 166 (pXX .pleasCourt fun k2=>(pX .int fun q2=>(pE ((pE (.det True (.v (.bool (ol k_ q k2 q2))))))))))))
theorem Rb {p:Prop}(h:p:=by simp only[go_sem,Nat.reduceBEq,Nat.reduceLeDiff,Nat.reduceLT,decide_true,Nat.reduceAdd,Nat.reduceSub,Nat.reduceMul,Int.reduceLE,Int.reduceLT,Int.reduceToNat,Int.reduceNeg,reduceCtorEq,b_];all_goals exact cl):p:=h
theorem vb:FnOk Tryz.prog 164 qD:=by
 have hG:ConsOk Tryz.prog (mkG [(116,fun l=>b_ (bA [.sl .clause,.o] l))] []):=av (cgc (fu.norm [.sl .clause,.o]) cg0) cg0;refine ay [.o] mixed ap hG (fn:=Tryz.f164) (c:=ae Tryz.f164) kr kr kr kr (aR fun k_=>(dh fun q=>(bB (bC fun k2=>(aR fun q2=>(ak ((ak (fun hp=>?_)))))))));dsimp only[ax]at hp;refine⟨nbl rfl,L0,ah _,?_⟩
 ·unfold ae Tryz.f164;try unfold ol
  exact Rb
def oo (k_:PleasCourt)(q:Int)(k2:PleasCourt)(q2:Int):Bool:=(dO k_.plea.clauses q k2 q2)
@[go_sem] def qE:List SV→Option Con:=(pX .pleasCourt fun k_=>(pI fun q=>(pFn 174 (pXX .pleasCourt fun k2=>(pX .int fun q2=>(pE ((pE (.det True (.v (.bool (oo k_ q k2 q2))))))))))))
theorem ve:FnOk Tryz.prog 164 qE:=by
 have hG:ConsOk Tryz.prog (mkG [(116,fun l=>b_ (bA [.sl .clause,.o] l))] []):=av (cgc (fu.norm [.sl .clause,.o]) cg0) cg0;refine ay [.o] mixed ap hG (fn:=Tryz.f164) (c:=ae Tryz.f164) kr kr kr kr (aR fun k_=>(dh fun q=>(bB (bC fun k2=>(aR fun q2=>(ak ((ak (fun hp=>?_)))))))));dsimp only[ax]at hp;refine⟨nbl rfl,L0,ah _,?_⟩
 ·unfold ae Tryz.f164;try unfold oo
  exact Rb
@[go_sem] noncomputable def hM:List SV→Option Con:=fun l=>(orC (mj l) (orC (ml l) (orC (mm l) (orC (mn l) (orC (qD l) (qE l))))))
theorem mt:FnOk Tryz.prog 164 hM:=(FnOk.or pj (FnOk.or pm (FnOk.or pn (FnOk.or pr (FnOk.or vb ve)))))
def iA (k_:PleasCourt)(q:Int):Bool:=(bif(fZ .int .bool k_.strict q)then true else(bif((fZ .int .bool k_.strict (i64.wrap (0 - q))) ||(!(og k_ q k_)))then false else(!(ol k_ (i64.wrap (0 - q)) k_ q))))
@[go_sem] def qF:List SV→Option Con:=(pX .pleasCourt fun k_=>(pI fun q=>(pE (.det True (.v (.bool (iA k_ q)))))))
theorem NA {p:Prop}(h:p:=by simp only[go_sem,Nat.reduceBEq,Nat.reduceLeDiff,Nat.reduceLT,decide_true,Nat.reduceAdd,Nat.reduceSub,Nat.reduceMul,Int.reduceLE,Int.reduceLT,Int.reduceToNat,Int.reduceNeg,reduceCtorEq,hM];all_goals exact cl):p:=h
theorem vg:FnOk Tryz.prog 132 qF:=by
 have hG:ConsOk Tryz.prog (mkG [(164,hM)] []):=av (cgc mt cg0) cg0;refine ay [.o] mixed ap hG (fn:=Tryz.f132) (c:=ae Tryz.f132) kr kr kr kr (aR fun k_=>(dh fun q=>(ak (fun hp=>?_))));dsimp only[ax]at hp;refine⟨nbl rfl,L0,ah _,?_⟩
 ·unfold ae Tryz.f132;try unfold iA
  exact NA
def kX (k_:PleasCourt)(q:Int):Bool:=(fZ .int .bool k_.strict (i64.wrap (0 - q)))
@[go_sem] def oB:List SV→Option Con:=(pXX .pleasCourt fun k_=>(pX .int fun q=>(pE (.det True (.v (.bool (kX k_ q)))))))
theorem tv:FnOk Tryz.prog 170 oB:=by
 have hG:ConsOk Tryz.prog (mkG [] []):=av cg0 cg0;refine ay [.o] mixed ap hG (fn:=Tryz.f170) (c:=ae Tryz.f170) kr kr kr kr (bC fun k_=>(aR fun q=>(ak (fun hp=>?_))));dsimp only[ax]at hp;refine⟨nbl rfl,L0,ah _,?_⟩
 ·unfold ae Tryz.f170;try unfold kX
  exact zq1
def kY (k_:PleasCourt)(q:Int):Bool:=(!(oi k_ q k_))
@[go_sem] def oC:List SV→Option Con:=(pXX .pleasCourt fun k_=>(pX .int fun q=>(pE (.det True (.v (.bool (kY k_ q)))))))
theorem tw:FnOk Tryz.prog 171 oC:=by
 have hG:ConsOk Tryz.prog (mkG [(164,hM)] []):=av (cgc mt cg0) cg0;refine ay [.o] mixed ap hG (fn:=Tryz.f171) (c:=ae Tryz.f171) kr kr kr kr (bC fun k_=>(aR fun q=>(ak (fun hp=>?_))));dsimp only[ax]at hp;refine⟨nbl rfl,L0,ah _,?_⟩
 ·unfold ae Tryz.f171;try unfold kY
  exact NA
def kZ (k_:PleasCourt)(q:Int):Bool:=(oo k_ (i64.wrap (0 - q)) k_ q)
@[go_sem] def oD:List SV→Option Con:=(pXX .pleasCourt fun k_=>(pX .int fun q=>(pE (.det True (.v (.bool (kZ k_ q)))))))
theorem tx:FnOk Tryz.prog 173 oD:=by
 have hG:ConsOk Tryz.prog (mkG [(164,hM)] []):=av (cgc mt cg0) cg0;refine ay [.o] mixed ap hG (fn:=Tryz.f173) (c:=ae Tryz.f173) kr kr kr kr (bC fun k_=>(aR fun q=>(ak (fun hp=>?_))));dsimp only[ax]at hp;refine⟨nbl rfl,L0,ah _,?_⟩
 ·unfold ae Tryz.f173;try unfold kZ
  exact NA
@[go_sem] def BX (x:Int):List SV:=[.v (.int .i64 x)]
@[go_sem] def pZ:List SV→Option Con:=(pE (.det True (.fn 159 [] [])))
theorem s5:FnOk Tryz.prog 119 pZ:=by
 have hG:ConsOk Tryz.prog (mkG [] []):=av cg0 cg0;refine ay [.o] mixed ap hG (fn:=Tryz.f119) (c:=ae Tryz.f119) kr kr kr kr (ak (fun hp=>?_));refine⟨nbl rfl,L0,ah _,?_⟩;unfold ae Tryz.f119;simp only[go_sem,Gb,Gc,Nat.reduceBEq,Nat.reduceLeDiff,Nat.reduceAdd,Nat.reduceSub,Nat.reduceMul]
@[go_sem] def hU (k_0:Nat)(s_0:List Int×Int):(List Int)⊕(List Int×Int):=(bif(decide (s_0.2≤32))then(bif(s_0.2 !=0)then .inr ((s_0.1++[s_0.2]),(i64.wrap (s_0.2+1)))else .inr (s_0.1,(i64.wrap (s_0.2+1))))else .inl s_0.1)
def k9 (items_:List (List SV))(k_0:Nat)(s_0:List Int×Int):Prop:=((decide (s_0.2≤32))=true→(((s_0.2 !=0)=true→(items_[s_0.1.length]? =some (BX s_0.2)))∧((s_0.2 !=0)=false→((s_0.2 !=0)=false))))
def aP:List Int:=(match aw (hU) 66 0 (([]:List Int),(-32))with| .inl x_0_0=>x_0_0| .inr s_0=>default)
def eM (items_:List (List SV)):Prop:=(okI (hU) (k9 items_) 66 0 (([]:List Int),(-32))∧(∀ z_,aw (hU) 66 0 (([]:List Int),(-32))≠ .inr z_)∧(∀ x_0_0,aw (hU) 66 0 (([]:List Int),(-32))=.inl x_0_0→(items_.length=x_0_0.length)))
theorem rt (items_:List (List SV))(hp:eM items_):FM Tryz.prog 159 (fun y=>[y]) [] items_:=by
 unfold eM at hp;refine Ni mixed ap (fn:=Tryz.f159) (c:=ae Tryz.f159) kr kr kr kr rfl (n:=0) rfl (G:=fun r_=>D8 [] [] (KF items_ r_)) (fun r_ hy=>?_) (fun args w=>by kernel_rfl);have hG:ConsOk Tryz.prog (D8 [] [] (KF items_ r_)):=D9 cg0 cg0 hy;refine⟨hG,nbl rfl,(fun id st=>bif Nat.beq id 0 then some (Ti (ρ:=(List Int)) (σ:=(List Int×Int)) 1 [] [0] (fun k_0 s_0=>⟨[(0,.os 0),(2,.v (.int .i64 s_0.2))],[.ab (r_.1 (s_0.1.length+1))]⟩) (hU) (k9 items_) 66 (([]:List Int),(-32)) (fun _=>.normal) (fun x_0_0=>⟨[],[.ab (r_.1 (x_0_0.length+1))]⟩) ⟨[],[.ab (r_.1 0)]⟩ st)else none),?_,?_⟩
 ·unfold ae Tryz.f159;simp only[aq,true_and,and_true]
  ·refine KG mixed ap hG kr (fun _=>rfl) fun k_0 s_0 hq0=>⟨L0,ah _,?_⟩
   ·unfold k9 at hq0;exact Tn (jl [0])
 ·unfold ae Tryz.f159;exact Tn (jl [0])
def se (q:Int)(m:List (Int×Bool)):Bool:=(!(fZ .int .bool m q))
@[go_sem] def ug:List SV→Option Con:=(pI fun q=>(pXM .int .bool fun m=>(pE (.det True (.v (.bool (se q m)))))))
theorem yz:FnOk Tryz.prog 158 ug:=by
 have hG:ConsOk Tryz.prog (mkG [] []):=av cg0 cg0;refine ay [.o] mixed ap hG (fn:=Tryz.f158) (c:=ae Tryz.f158) kr kr kr kr (dh fun q=>(Ei fun m=>(ak (fun hp=>?_))));dsimp only[ax]at hp;refine⟨nbl rfl,L0,ah _,?_⟩
 ·unfold ae Tryz.f158;try unfold se
  exact zq1
@[go_sem] def j4 (s_:List Int)(m:List (Int×Bool))(k_0:Nat)(s_0:Unit):Int⊕Unit:=(bif(se (s_.getD k_0 (0:Int)) m)then .inl (k_0:Int)else .inr ())
def iB (s_:List Int)(m:List (Int×Bool)):Int:=(match aw (j4 s_ m) s_.length 0 ()with| .inl x_0_0=>x_0_0| .inr s_0=>(-1))
@[go_sem] def kL:List SV→Option Con:=(pR .int fun s_=>(pFn 158 (pXM .int .bool fun m=>(pE ((pE (.det True (.v (.int .i64 (iB s_ m))))))))))
theorem qG:FnOk Tryz.prog 203 kL:=by
 have hG:ConsOk Tryz.prog (mkG [(158,ug)] []):=av (cgc yz cg0) cg0;refine ay [.o] mixed ap hG (fn:=Tryz.f203) (c:=ae Tryz.f203) kr kr kr kr (bY fun s_=>(bB (Ei fun m=>(ak ((ak (fun hp=>?_)))))));dsimp only[ax]at hp;refine⟨nbl rfl,(fun id st=>bif Nat.beq id 0 then some (LCR (ρ:=Int) (σ:=Unit) 0 [] [] (fun k_0 s_0=>⟨[(0,.rs .int s_),(1,.fn 158 [] [.ep [.rm .int .bool m] 0]),(7,.v (.int .i64 (s_.length:Int))),(8,.v (.int .i64 (k_0:Int)))],[]⟩) (j4 s_ m) pT s_.length () (s_.length≤aQ) (fun _=>.ret) (fun x_0_0=>⟨[(4,.v (.int .i64 x_0_0))],[]⟩) st)else none),?_,?_⟩
 ·unfold ae Tryz.f203;simp only[aq,true_and,and_true]
  ·refine aY mixed ap hG kr (fun _=>rfl) (s_.length:Int) rfl im (fun hb0 k_0 s_0 hlt0 _ hw hc=>⟨L0,ah _,?_⟩) (fun hb0 s_0 hc=>?_)
   ·exact bZ (jl [])
   ·exact bQ (jl [])
 ·unfold ae Tryz.f203;try unfold iB
  exact zq1
@[go_sem] noncomputable def ig:List SV→Option Con:=fun l=>(orC (iy l) (orC (g8 l) (kL l)))
theorem qV:FnOk Tryz.prog 203 ig:=(FnOk.or lD (FnOk.or j3 qG))
def gO (s_:List Int)(m:List (Int×Bool)):Bool:=(decide ((iB s_ m)≥0))
@[go_sem] def jn:List SV→Option Con:=(pR .int fun s_=>(pFn 158 (pXM .int .bool fun m=>(pE ((pE (.det True (.v (.bool (gO s_ m))))))))))
theorem XD {p:Prop}(h:p:=by simp only[go_sem,Nat.reduceBEq,Nat.reduceLeDiff,Nat.reduceLT,decide_true,Nat.reduceAdd,Nat.reduceSub,Nat.reduceMul,Int.reduceLE,Int.reduceLT,Int.reduceToNat,Int.reduceNeg,reduceCtorEq,ig];all_goals exact cl):p:=h
theorem o8:FnOk Tryz.prog 157 jn:=by
 have hG:ConsOk Tryz.prog (mkG [(203,fun l=>ig (bA [.sl .int,.o] l))] []):=av (cgc (qV.norm [.sl .int,.o]) cg0) cg0;refine ay [.o] mixed ap hG (fn:=Tryz.f157) (c:=ae Tryz.f157) kr kr kr kr (bY fun s_=>(bB (Ei fun m=>(ak ((ak (fun hp=>?_)))))));dsimp only[ax]at hp;refine⟨nbl rfl,L0,ah _,?_⟩
 ·unfold ae Tryz.f157;try unfold gO
  exact XD
@[go_sem] noncomputable def gD:List SV→Option Con:=fun l=>(orC (gM l) (orC (gu l) (jn l)))
theorem pe:FnOk Tryz.prog 157 gD:=(FnOk.or jI (FnOk.or iY o8))
@[go_sem] def nR (p:Plea)(k_0:Nat)(s_0:List (Int×Bool)):Empty⊕(List (Int×Bool)):=.inr (lr .int .bool s_0 (p.facts.getD k_0 (0:Int)) true)
@[go_sem] def u0 (p:Plea)(s_1:List (Int×Bool))(k_2:Nat)(s_2:Unit):(List (Int×Bool))⊕Unit:=(bif(((p.clauses.getD k_2 (default:Clause)).strict&&(!(fZ .int .bool s_1 ((p.clauses.getD k_2 (default:Clause)).then_))))&&(!(gO ((p.clauses.getD k_2 (default:Clause)).if_) s_1)))then .inl (lr .int .bool s_1 ((p.clauses.getD k_2 (default:Clause)).then_) true)else .inr ())
@[go_sem] def qW (p:Plea)(k_1:Nat)(s_1:List (Int×Bool)):(List (Int×Bool))⊕(List (Int×Bool)):=(match aw (u0 p s_1) p.clauses.length 0 ()with| .inl x_2_0=>.inr x_2_0| .inr s_2=>.inl s_1)
def eU (p:Plea):List (Int×Bool):=(match aw (nR p) p.facts.length 0 ([])with| .inl x=>x.elim| .inr s_0=>(match aw (qW p) (p.clauses.length+1) 0 s_0 with| .inl x_1_0=>x_1_0| .inr s_1=>default))
def iC (p:Plea):Prop:=(p.facts.length≤aQ→(∀ s_0,aw (nR p) p.facts.length 0 ([])=.inr s_0→(∀ z_,aw (qW p) (p.clauses.length+1) 0 s_0≠ .inr z_)))
@[go_sem] def sf:List SV→Option Con:=(pD .plea fun p=>(pE (.det (iC p) (.nm .int .bool (eU p)))))
theorem XE {p:Prop}(h:p:=by simp only[go_sem,Nat.reduceBEq,Nat.reduceLeDiff,Nat.reduceLT,decide_true,Nat.reduceAdd,Nat.reduceSub,Nat.reduceMul,Int.reduceLE,Int.reduceLT,Int.reduceToNat,Int.reduceNeg,reduceCtorEq,gD];all_goals exact cl):p:=h
theorem u4:FnOk Tryz.prog 118 sf:=by
 have hG:ConsOk Tryz.prog (mkG [(157,fun l=>gD (bA [.sl .int,.o] l))] []):=av (cgc (pe.norm [.sl .int,.o]) cg0) cg0;refine L4 true mixed ap hG (fn:=Tryz.f118) (c:=ae Tryz.f118) kr kr kr kr (bF fun p=>(ak (fun hp=>?_)));dsimp only[ax]at hp;unfold iC at hp;refine⟨nbl rfl,(fun id st=>bif Nat.beq id 0 then some (LCR (ρ:=Empty) (σ:=(List (Int×Bool))) 3 [] [0,1,2] (fun k_0 s_0=>⟨[(1,.ptr 0 0),(3,.ptr 2 0),(11,.rs .int p.facts),(12,.v (.int .i64 (p.facts.length:Int))),(13,.v (.int .i64 (k_0:Int)))],[.cells (cellsOf .plea p),.mp .int .bool s_0 none,.cells [.os 1]]⟩) (nR p) pT p.facts.length ([]) (p.facts.length≤aQ) ((·.elim)) ((·.elim)) st)else bif Nat.beq id 2 then some (LCV (ρ:=(List (Int×Bool))) (σ:=(List (Int×Bool))) 3 [] [0,1,2] (fun k_1 s_1=>⟨[(1,.ptr 0 0),(3,.ptr 2 0)],[.cells (cellsOf .plea p),.mp .int .bool s_1 none,.cells [.os 1]]⟩) (qW p) pT (p.clauses.length+1) (d9 (aw (nR p) p.facts.length 0 ([]))) (fun _=>.ret) (fun x_1_0=>⟨[(2,.os 3)],[.dead,.dead,.dead,.mp .int .bool x_1_0 none]⟩) st)else none),?_,?_⟩
 ·unfold ae Tryz.f118;simp only[aq,true_and,and_true];refine⟨?_,?_⟩
  ·refine aY mixed ap hG kr (fun _=>rfl) (p.facts.length:Int) rfl im (fun hb0 k_0 s_0 hlt0 _ hw hc=>⟨L0,ah _,?_⟩) (fun hb0 s_0 hc=>?_)
   ·exact bZ (jl [0,1,2])
   ·exact bQ (jl [0,1,2])
  ·refine tT mixed ap hG kr (fun _=>rfl) fun k_1 s_1 _=>⟨(fun id st=>bif Nat.beq id 4 then some (LCR (ρ:=(List (Int×Bool))) (σ:=Unit) 3 [] [0,1,2] (fun k_2 s_2=>⟨[(1,.ptr 0 0),(3,.ptr 2 0),(21,.rs .clause p.clauses),(22,.v (.int .i64 (p.clauses.length:Int))),(23,.v (.int .i64 (k_2:Int)))],[.cells (cellsOf .plea p),.mp .int .bool s_1 none,.cells [.os 1]]⟩) (u0 p s_1) pT p.clauses.length () (p.clauses.length≤aQ) (fun _=>.exit 3) (fun x_2_0=>⟨[(1,.ptr 0 0),(3,.ptr 2 0)],[.cells (cellsOf .plea p),.mp .int .bool x_2_0 none,.cells [.os 1]]⟩) st)else none),?_,?_⟩
   ·simp only[aq,true_and,and_true]
    ·refine aY mixed ap hG kr (fun _=>rfl) (p.clauses.length:Int) rfl im (fun hb2 k_2 s_2 hlt2 _ hw hc=>⟨L0,ah _,?_⟩) (fun hb2 s_2 hc=>?_)
     ·exact bZ (jl [0,1,2])
     ·exact bQ (jl [0,1,2])
   ·exact Gd (jl [0,1,2]) (jl [0,1,2,1])
 ·unfold ae Tryz.f118;try unfold eU
  exact XE
end Go.Sx
end
