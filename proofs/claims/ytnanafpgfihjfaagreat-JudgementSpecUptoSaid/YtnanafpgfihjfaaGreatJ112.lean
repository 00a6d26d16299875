/- Part of the proof that the law JudgementSpec returns true and leaves its arguments as they were, for all arguments of bulk at most 1048576 (the Upto form). -/
import Derived.Test.YtnanafpgfihjfaaGreatJ111
import Derived.Test.YtnanafpgfihjfaaGreatJ108
import Derived.Test.YtnanafpgfihjfaaGreatJ107
import Derived.Test.YtnanafpgfihjfaaGreatJ110
set_option linter.all false
set_option maxHeartbeats 4000000
set_option maxRecDepth 100000
section
namespace Go.Sx
open Go.Proofs
open IntKind (i64)
abbrev nL (b:Int)(l:List Claim):Prop:= ∀ y∈l,0≤y.litres∧y.litres≤b
theorem G_ {b c:Int}{x:Claim}{l:List Claim}(hb:0≤b)(hl:nL b l)(hx:0≤x.litres∧x.litres≤c):nL (b+c) (rA x l)∧(rA x l).length≤l.length+1:=by
 cases l with
 |nil=>
  refine⟨fun y hy=>?_,by simp[rA]⟩;have:y=x:=by simpa[rA]using hy
  subst this;omega
 |cons y r=>
  have hy:=hl y (by simp);rw[rA];by_cases h:aG x y=true
  ·rw[if_pos h];refine⟨fun z hz=>?_,by simp⟩;rcases List.mem_cons.1 hz with rfl|hz
   ·omega
   ·have:=hl z hz;omega
  ·rw[if_neg h];refine⟨fun z hz=>?_,by simp⟩;rcases List.mem_cons.1 hz with rfl|hz
   ·show 0≤x.litres+y.litres∧x.litres+y.litres≤b+c;omega
   ·have:=hl z (by simp[hz]);omega
theorem A5 {b c:Int}{x:Claim}(hb:0≤b)(hx:0≤x.litres∧x.litres≤c):∀ {l:List Claim},nL b l→nL (b+c) (gD l x)∧(gD l x).length≤l.length+1
 | [],hl=>G_ hb hl hx
 |y::l,hl=>by
  rw[s4];split
  ·obtain⟨q1,q2⟩:=A5 hb hx (l:=l) fun z hz=>hl z (by simp[hz]);have hy:=hl y (by simp);refine⟨fun z hz=>?_,by simp only[List.length_cons];omega⟩;rcases List.mem_cons.1 hz with rfl|hz
   ·omega
   ·exact q1 z hz
  ·exact G_ hb hl hx
def zb (y:Claim)(o n:Int):Claim:= { right:=y.right,farm:=o,hour:=y.hour,litres:=n,rank:=y.rank}
def gv (f o:Int):List Claim→Int→List Claim→List Claim→List Claim×List Claim
 | [],_,K,G=>(K,G)
 |y::r,n,K,G=>if y.farm=f then gv f o r (n - bI n y.litres) (if y.litres - bI n y.litres > 0 then gD K (l9 y (y.litres - bI n y.litres))else K) (if bI n y.litres > 0 then G++[zb y o (bI n y.litres)]else G)
  else gv f o r n (if y.litres > 0 then gD K y else K) G
theorem N6 (l:List Claim)(f o b0:Int)(hb0:0≤b0∧b0≤4398046511104)(hll:l.length≤8192)(hmB:(l.length+2)*40≤dC):∀ (R B:List Claim) (n:Int) (K G:List Claim) (k:Nat),l=R.reverse++B→0≤n→n<4611686018427387904→nL b0 R→
  nL ((B.length:Int)*b0) K→K.length≤B.length→G.length≤B.length→
  okI (b_ l f o) (g_ l f o) (R.length+1) k (n,K,G,(R.length:Int) - 1)∧ay (b_ l f o) (R.length+1) k (n,K,G,(R.length:Int) - 1)=.inl (gv f o R n K G)
 | [],B,n,K,G,k,hl,h0,h1,hR,hK,hKl,hGl=>by
  have e:decide (((0:Nat):Int) - 1≥0)=false:=decide_eq_false (by omega);simp only[List.length_nil,okI,ay,b_,g_,e,cond_false,gv];exact⟨⟨fun h=>(by cases h),fun s h=>(by cases h)⟩,by simp⟩
 |y::R,B,n,K,G,k,hl,h0,h1,hR,hK,hKl,hGl=>by
  have hy:=hR y (by simp);have hR':nL b0 R:=fun z hz=>hR z (by simp[hz]);have hlen:l.length=R.length+1+B.length:=by rw[hl];simp;omega
  have hl':l=R.reverse++(y::B):=by rw[hl];simp
  have hi:(((y::R).length:Nat):Int) - 1=(R.length:Int):=by simp
  have g:l.getD (Int.toNat (R.length:Int)) default=y:=by rw[hl',Int.toNat_natCast];exact il R.reverse y default B (by simp)
  have e:decide ((R.length:Int)≥0)=true:=decide_eq_true (by omega);have w1:i64.wrap ((R.length:Int) - 1)=(R.length:Int) - 1:=gG (by omega) (by omega);have hm:=px (a:=n) (b:=y.litres);have hm0:0≤bI n y.litres:=by omega
  have e4:(if n<y.litres then n else y.litres)=bI n y.litres:=rfl;have w2:i64.wrap (n - bI n y.litres)=n - bI n y.litres:=gG (by omega) (by omega);have w3:i64.wrap (y.litres - bI n y.litres)=y.litres - bI n y.litres:=gG (by omega) (by omega);have hBb:0≤(B.length:Int)*b0∧(B.length:Int)*b0≤36028797018963968:=by
   refine⟨Int.mul_nonneg (by omega) hb0.1,?_⟩;have h2:(B.length:Int)*b0≤8192*b0:=Int.mul_le_mul_of_nonneg_right (by omega) hb0.1;omega
  have hKL:Lit K:=fun z hz=>by have:=hK z hz;omega
  have hB1:(((y::B).length:Nat):Int)*b0=(B.length:Int)*b0+b0:=by rw[List.length_cons,Int.natCast_add,Int.add_mul];simp
  have hG:∀ z:Claim,(G++[z]).length*40≤dC∧(G++[z]).length≤(y::B).length:=fun z=>by
   rw[List.length_append];simp only[List.length_cons,List.length_nil];omega
  have hKm:nL ((((y::B).length:Nat):Int)*b0) K:=fun z hz=>by rw[hB1];have:=hK z hz;omega
  have P:∀ z:Claim,0≤z.litres∧z.litres≤b0→i7 K z∧nt K z=gD K z∧nL ((((y::B).length:Nat):Int)*b0) (gD K z)∧(gD K z).length≤(y::B).length:=fun z hz=>by
   obtain⟨p1,p2⟩:=N4 K z (by omega) (by omega) hKL;obtain⟨p3,p4⟩:=A5 hBb.1 hz hK;exact⟨p1,p2,by rw[hB1];exact p3,by simp only[List.length_cons];omega⟩
  rw[hi];simp only[List.length_cons];rw[okI,ay];simp only[b_,g_,e,g,e4,w1,w2,w3,cond_true];have rec_:∀ (n':Int) (K' G':List Claim),0≤n'→n'≤n→nL ((((y::B).length:Nat):Int)*b0) K'→K'.length≤(y::B).length→G'.length≤(y::B).length→okI (b_ l f o) (g_ l f o) (R.length+1) (k+1) (n',K',G',(R.length:Int) - 1)∧ay (b_ l f o) (R.length+1) (k+1) (n',K',G',(R.length:Int) - 1)=.inl (gv f o R n' K' G'):=fun n' K' G' a1 a2 a3 a4 a5=>N6 l f o b0 hb0 hll hmB R (y::B) n' K' G' (k+1) hl' a1 (by omega) hR' a3 a4 a5;have hKs:K.length≤(y::B).length:=by simp only[List.length_cons];omega
  have hGs:G.length≤(y::B).length:=by simp only[List.length_cons];omega
  have hidx:(0:Int)≤(R.length:Int)∧(R.length:Int) < (l.length:Int):=⟨by omega,by omega⟩;by_cases hf:y.farm=f
  ·rw[show(y.farm==f)=true by simpa using hf,gv,if_pos hf];simp only[cond_true];by_cases hg:bI n y.litres > 0
   ·rw[decide_eq_true hg,if_pos hg];simp only[cond_true];by_cases hr:y.litres - bI n y.litres > 0
    ·rw[decide_eq_true hr,if_pos hr];simp only[cond_true];obtain⟨p1,p2,p3,p4⟩:=P (l9 y (y.litres - bI n y.litres)) ⟨by show 0≤y.litres - bI n y.litres;omega,by show y.litres - bI n y.litres≤b0;omega⟩;obtain⟨q1,q2⟩:=rec_ (n - bI n y.litres) (gD K (l9 y (y.litres - bI n y.litres))) (G++[zb y o (bI n y.litres)]) (by omega) (by omega) p3 p4 (hG _).2;rw[←p2]at q1 q2 ⊢;exact⟨⟨fun _=>⟨hidx,fun _=>⟨fun _=>⟨(hG _).1,fun _ _=>p1⟩,fun h=>(by cases h)⟩,fun h=>(by cases h)⟩,fun s h=>by cases h;exact q1⟩,q2⟩
    ·rw[decide_eq_false hr,if_neg hr];simp only[cond_false];obtain⟨q1,q2⟩:=rec_ (n - bI n y.litres) K (G++[zb y o (bI n y.litres)]) (by omega) (by omega) hKm hKs (hG _).2;exact⟨⟨fun _=>⟨hidx,fun _=>⟨fun _=>⟨(hG _).1,fun _ h=>(by cases h)⟩,fun h=>(by cases h)⟩,fun h=>(by cases h)⟩,fun s h=>by cases h;exact q1⟩,q2⟩
   ·rw[decide_eq_false hg,if_neg hg];simp only[cond_false];by_cases hr:y.litres - bI n y.litres > 0
    ·rw[decide_eq_true hr,if_pos hr];simp only[cond_true];obtain⟨p1,p2,p3,p4⟩:=P (l9 y (y.litres - bI n y.litres)) ⟨by show 0≤y.litres - bI n y.litres;omega,by show y.litres - bI n y.litres≤b0;omega⟩;obtain⟨q1,q2⟩:=rec_ (n - bI n y.litres) (gD K (l9 y (y.litres - bI n y.litres))) G (by omega) (by omega) p3 p4 hGs;rw[←p2]at q1 q2 ⊢;exact⟨⟨fun _=>⟨hidx,fun _=>⟨fun h=>(by cases h),fun _ _=>p1⟩,fun h=>(by cases h)⟩,fun s h=>by cases h;exact q1⟩,q2⟩
    ·rw[decide_eq_false hr,if_neg hr];simp only[cond_false];obtain⟨q1,q2⟩:=rec_ (n - bI n y.litres) K G (by omega) (by omega) hKm hKs hGs;exact⟨⟨fun _=>⟨hidx,fun _=>⟨fun h=>(by cases h),fun _ h=>(by cases h)⟩,fun h=>(by cases h)⟩,fun s h=>by cases h;exact q1⟩,q2⟩
  ·rw[show(y.farm==f)=false by simpa using hf,gv,if_neg hf];simp only[cond_false];by_cases hr:y.litres > 0
   ·rw[decide_eq_true hr,if_pos hr];simp only[cond_true];obtain⟨p1,p2,p3,p4⟩:=P y hy;obtain⟨q1,q2⟩:=rec_ n (gD K y) G h0 (by omega) p3 p4 hGs;rw[←p2]at q1 q2 ⊢;exact⟨⟨fun _=>⟨hidx,fun h=>(by cases h),fun _ _=>p1⟩,fun s h=>by cases h;exact q1⟩,q2⟩
   ·rw[decide_eq_false hr,if_neg hr];simp only[cond_false];obtain⟨q1,q2⟩:=rec_ n K G h0 (by omega) hKm hKs hGs;exact⟨⟨fun _=>⟨hidx,fun h=>(by cases h),fun _ h=>(by cases h)⟩,fun s h=>by cases h;exact q1⟩,q2⟩
section
variable {ρ:Int→Int}{h:Int}
theorem J5 {x:Claim}(hx:0<x.litres):∀ {l:List Claim},(∀ y∈l,0<y.litres)→∀ z∈gD l x,0<z.litres
 | [],_,z,hz=>by
  have:z=x:=by simpa[gD,rA]using hz
  subst this;exact hx
 |y::l,hl,z,hz=>by
  rw[s4]at hz;have hy:=hl y (by simp);by_cases h1:aG y x=true
  ·rw[if_pos h1]at hz;rcases List.mem_cons.1 hz with rfl|hz
   ·exact hy
   ·exact J5 hx (fun w hw=>hl w (by simp[hw])) z hz
  ·rw[if_neg h1,rA]at hz;by_cases h2:aG x y=true
   ·rw[if_pos h2]at hz;rcases List.mem_cons.1 hz with rfl|hz
    ·exact hx
    ·exact hl z hz
   ·rw[if_neg h2]at hz;rcases List.mem_cons.1 hz with rfl|hz
    ·show 0<x.litres+y.litres;omega
    ·exact hl z (by simp[hz])
theorem Dock.put {l:List Claim}{x:Claim}(d:Dock ρ h l)(hx:0<x.litres)(hr:x.rank=ρ x.right)(hh:x.hour=h):Dock ρ h (gD l x)∧∀ r p,amt (gD l x) r p=amt l r p+if x.right=r∧x.farm=p then x.litres else 0:=by
 obtain⟨q1,q2,q3⟩:=CN x l d.s fun y hy=>(d.hr y hy).trans hh.symm;refine⟨⟨q1,fun z hz=>?_,fun z hz=>(q2 z hz).1.trans hh,J5 hx d.pos⟩,q3⟩;rcases(q2 z hz).2 with⟨k1,k2,_⟩ | ⟨w,hw,k1,k2,_⟩
 ·rw[k1,k2];exact hr
 ·rw[k1,k2];exact d.rk w hw
structure Gift (ρ:Int→Int)(h o:Int)(l:List Claim):Prop where
 rk:∀ y∈l,y.rank=ρ y.right
 hr:∀ y∈l,y.hour=h
 pos:∀ y∈l,0<y.litres
 fm:∀ y∈l,y.farm=o
theorem Fq {f o:Int}:∀ (R:List Claim) (n:Int) (K G:List Claim),0≤n→(∀ y∈R,y.rank=ρ y.right∧y.hour=h∧0≤y.litres)→Dock ρ h K→Gift ρ h o G→
  Dock ρ h (gv f o R n K G).1∧Gift ρ h o (gv f o R n K G).2∧∀ r p,amt (gv f o R n K G).1 r p+(if p=f then amt (gv f o R n K G).2 r o else 0)=amt K r p+amt R r p+(if p=f then amt G r o else 0)
 | [],n,K,G,h0,hR,dK,dG=>⟨dK,dG,fun r p=>by simp only[gv,amt];omega⟩
 |y::R,n,K,G,h0,hR,dK,dG=>by
  have hy:=hR y (by simp);have hR':∀ z∈R,z.rank=ρ z.right∧z.hour=h∧0≤z.litres:=fun z hz=>hR z (by simp[hz]);have hm:=px (a:=n) (b:=y.litres);have hm0:0≤bI n y.litres:=by omega
  by_cases hf:y.farm=f
  ·rw[gv,if_pos hf];have k1:Dock ρ h (if y.litres - bI n y.litres > 0 then gD K (l9 y (y.litres - bI n y.litres))else K)∧∀ r p,amt (if y.litres - bI n y.litres > 0 then gD K (l9 y (y.litres - bI n y.litres))else K) r p=amt K r p+if y.right=r∧y.farm=p then y.litres - bI n y.litres else 0:=by
    by_cases hr:y.litres - bI n y.litres > 0
    ·rw[if_pos hr];exact dK.put (x:=l9 y (y.litres - bI n y.litres)) hr hy.1 hy.2.1
    ·rw[if_neg hr];exact⟨dK,fun r p=>by split <;>omega⟩
   have k2:Gift ρ h o (if bI n y.litres > 0 then G++[zb y o (bI n y.litres)]else G)∧∀ r,amt (if bI n y.litres > 0 then G++[zb y o (bI n y.litres)]else G) r o=amt G r o+if y.right=r then bI n y.litres else 0:=by
    by_cases hr:bI n y.litres > 0
    ·rw[if_pos hr];refine⟨⟨fun z hz=>?_,fun z hz=>?_,fun z hz=>?_,fun z hz=>?_⟩,fun r=>?_⟩
     ·rcases List.mem_append.1 hz with hz|hz
      ·exact dG.rk z hz
      ·rw[List.mem_singleton.1 hz];exact hy.1
     ·rcases List.mem_append.1 hz with hz|hz
      ·exact dG.hr z hz
      ·rw[List.mem_singleton.1 hz];exact hy.2.1
     ·rcases List.mem_append.1 hz with hz|hz
      ·exact dG.pos z hz
      ·rw[List.mem_singleton.1 hz];exact hr
     ·rcases List.mem_append.1 hz with hz|hz
      ·exact dG.fm z hz
      ·rw[List.mem_singleton.1 hz];rfl
     ·rw[A4,amt,amt];show _+((if y.right=r∧o=o then bI n y.litres else 0)+0)=_;simp
    ·rw[if_neg hr];exact⟨dG,fun r=>by split <;>omega⟩
   obtain⟨q1,q2,q3⟩:=Fq R (n - bI n y.litres) _ _ (by omega) hR' k1.1 k2.1;refine⟨q1,q2,fun r p=>?_⟩;rw[q3,k1.2,k2.2,amt];by_cases hp:p=f
   ·subst hp;by_cases hr:y.right=r
    ·simp only[hr,hf,and_self,if_true];omega
    ·simp only[hr,false_and,if_false,if_true];omega
   ·have:¬ (y.right=r∧y.farm=p):=fun e=>hp (by rw[←e.2,hf]);simp only[if_neg hp,if_neg this];omega
  ·rw[gv,if_neg hf];have k1:Dock ρ h (if y.litres > 0 then gD K y else K)∧∀ r p,amt (if y.litres > 0 then gD K y else K) r p=amt K r p+if y.right=r∧y.farm=p then y.litres else 0:=by
    by_cases hr:y.litres > 0
    ·rw[if_pos hr];exact dK.put hr hy.1 hy.2.1
    ·rw[if_neg hr];exact⟨dK,fun r p=>by split <;>omega⟩
   obtain⟨q1,q2,q3⟩:=Fq R n _ G h0 hR' k1.1 dG;refine⟨q1,q2,fun r p=>?_⟩;rw[q3,k1.2,amt];omega
theorem Ft {o:Int}:∀ (G K:List Claim),Dock ρ h K→Gift ρ h o G→Dock ρ h (G.foldl gD K)∧∀ r p,amt (G.foldl gD K) r p=amt K r p+amt G r p
 | [],K,dK,_=>⟨dK,fun r p=>by simp[amt]⟩
 |x::G,K,dK,dG=>by
  obtain⟨q1,q2⟩:=dK.put (dG.pos x (by simp)) (dG.rk x (by simp)) (dG.hr x (by simp));obtain⟨p1,p2⟩:=Ft G (gD K x) q1 ⟨fun y hy=>dG.rk y (by simp[hy]),fun y hy=>dG.hr y (by simp[hy]),fun y hy=>dG.pos y (by simp[hy]),fun y hy=>dG.fm y (by simp[hy])⟩;refine⟨p1,fun r p=>?_⟩;rw[List.foldl_cons,p2,q2,amt];omega
end
theorem QT (c b:Int):(c+1)*b=c*b+b:=by rw[Int.add_mul];simp
theorem IQ {f o b0:Int}(hb0:0≤b0):∀ (R:List Claim) (n:Int) (K G:List Claim) (c:Nat),0≤n→nL b0 R→nL ((c:Int)*b0) K→nL b0 G→K.length≤c→G.length≤c→
  nL (((c+R.length:Nat):Int)*b0) (gv f o R n K G).1∧nL b0 (gv f o R n K G).2∧(gv f o R n K G).1.length≤c+R.length∧(gv f o R n K G).2.length≤c+R.length
 | [],n,K,G,c,h0,hR,hK,hG,hkl,hgl=>⟨hK,hG,hkl,hgl⟩
 |y::R,n,K,G,c,h0,hR,hK,hG,hkl,hgl=>by
  have hy:=hR y (by simp);have hR':nL b0 R:=fun z hz=>hR z (by simp[hz]);have hm:=px (a:=n) (b:=y.litres);have hcb:0≤(c:Int)*b0:=Int.mul_nonneg (by omega) hb0;have e1:((c+1:Nat):Int)*b0=(c:Int)*b0+b0:=QT c b0;have e2:c+1+R.length=c+(y::R).length:=by simp only[List.length_cons];omega
  have hK1:nL (((c+1:Nat):Int)*b0) K:=fun z hz=>by have:=hK z hz;omega
  have P:∀ z:Claim,0≤z.litres∧z.litres≤b0→nL (((c+1:Nat):Int)*b0) (gD K z)∧(gD K z).length≤c+1:=fun z hz=>by
   obtain⟨p3,p4⟩:=A5 hcb hz hK;exact⟨by rw[e1];exact p3,by omega⟩
  by_cases hf:y.farm=f
  ·rw[gv,if_pos hf,←e2];have k1:nL (((c+1:Nat):Int)*b0) (if y.litres - bI n y.litres > 0 then gD K (l9 y (y.litres - bI n y.litres))else K)∧(if y.litres - bI n y.litres > 0 then gD K (l9 y (y.litres - bI n y.litres))else K).length≤c+1:=by
    by_cases hr:y.litres - bI n y.litres > 0
    ·rw[if_pos hr];exact P (l9 y (y.litres - bI n y.litres)) ⟨by show 0≤y.litres - bI n y.litres;omega,by show y.litres - bI n y.litres≤b0;omega⟩
    ·rw[if_neg hr];exact⟨hK1,by omega⟩
   have k2:nL b0 (if bI n y.litres > 0 then G++[zb y o (bI n y.litres)]else G)∧(if bI n y.litres > 0 then G++[zb y o (bI n y.litres)]else G).length≤c+1:=by
    by_cases hr:bI n y.litres > 0
    ·rw[if_pos hr];refine⟨fun z hz=>?_,by rw[List.length_append];simp only[List.length_cons,List.length_nil];omega⟩;rcases List.mem_append.1 hz with hz|hz
     ·exact hG z hz
     ·rw[List.mem_singleton.1 hz];show 0≤bI n y.litres∧bI n y.litres≤b0;omega
    ·rw[if_neg hr];exact⟨hG,by omega⟩
   exact IQ hb0 R (n - bI n y.litres) _ _ (c+1) (by omega) hR' k1.1 k2.1 k1.2 k2.2
  ·rw[gv,if_neg hf,←e2];have k1:nL (((c+1:Nat):Int)*b0) (if y.litres > 0 then gD K y else K)∧(if y.litres > 0 then gD K y else K).length≤c+1:=by
    by_cases hr:y.litres > 0
    ·rw[if_pos hr];exact P y hy
    ·rw[if_neg hr];exact⟨hK1,by omega⟩
   exact IQ hb0 R n _ G (c+1) h0 hR' k1.1 hG k1.2 (by omega)
theorem Ha (K0:List Claim){b0:Int}(hb0:0≤b0∧b0≤4398046511104)(G:List Claim):∀ (R A K:List Claim) (k c:Nat),G=A++R→A.length=k→nL b0 R→nL ((c:Int)*b0) K→K.length≤c→c+R.length≤32768→
  okI (lp (K0,G)) (k9 (K0,G)) R.length k K∧ay (lp (K0,G)) R.length k K=.inr (R.foldl gD K)
 | [],A,K,k,c,hG,hk,hR,hK,hKl,hc=>⟨trivial,rfl⟩
 |y::R,A,K,k,c,hG,hk,hR,hK,hKl,hc=>by
  have hy:=hR y (by simp);simp only[List.length_cons]at hc;have hm:(K.length+1)*40≤dC:=by unfold dC;omega
  have g:G.getD k default=y:=by rw[hG];exact il A y default R hk.symm
  have hcb:0≤(c:Int)*b0∧(c:Int)*b0≤144115188075855872:=by
   refine⟨Int.mul_nonneg (by omega) hb0.1,?_⟩;have h2:(c:Int)*b0≤32768*b0:=Int.mul_le_mul_of_nonneg_right (by omega) hb0.1;omega
  have e1:((c+1:Nat):Int)*b0=(c:Int)*b0+b0:=QT c b0;obtain⟨p1,p2⟩:=N4 K y hm (by omega) (fun z hz=>by have:=hK z hz;omega);obtain⟨p3,p4⟩:=A5 hcb.1 hy hK;obtain⟨q1,q2⟩:=Ha K0 hb0 G R (A++[y]) (gD K y) (k+1) (c+1) (by rw[hG];simp) (by simp[hk]) (fun z hz=>hR z (by simp[hz])) (by rw[e1];exact p3) (by omega) (by omega);simp only[List.length_cons,okI,ay,lp,k9,g,p2,List.foldl_cons];exact⟨⟨fun _=>p1,fun s h=>by cases h;exact q1⟩,q2⟩
theorem wU (l:List Claim)(f o n:Int){b0:Int}(hb0:0≤b0∧b0≤4398046511104)(hll:l.length≤8192)(h0:0≤n)(h1:n<4611686018427387904)(hl:nL b0 l):
  nu l f o n∧hM l f o n=(gv f o l.reverse n [] []).2.foldl gD (gv f o l.reverse n [] []).1:=by
 have hr:nL b0 l.reverse:=fun y hy=>hl y (by simpa using hy);obtain⟨q1,q2⟩:=N6 l f o b0 hb0 hll (by unfold dC;omega) l.reverse [] n [] [] 0 (by simp) h0 h1 hr (fun y hy=>by cases hy) (by simp) (by simp);obtain⟨g1,g2,g3,g4⟩:=IQ (f:=f) (o:=o) hb0.1 l.reverse n [] [] 0 h0 hr (fun y hy=>by cases hy) (fun y hy=>by cases hy) (by simp) (by simp);simp only[List.length_reverse,Nat.zero_add]at q1 q2 g1 g3 g4;obtain⟨r1,r2⟩:=Ha (gv f o l.reverse n [] []).1 hb0 (gv f o l.reverse n [] []).2 (gv f o l.reverse n [] []).2 [] (gv f o l.reverse n [] []).1 0 l.length rfl rfl g2 g1 g3 (by omega);have w:i64.wrap ((l.length:Int) - 1)=(l.length:Int) - 1:=gG (by omega) (by omega);unfold nu hM;rw[w,q2];refine⟨fun _=>⟨q1,fun z hz=>(by cases hz),fun r hr=>by cases hr;exact r1⟩,?_⟩;simp only;rw[r2]
abbrev Hb (l:List Claim):Prop:=l.Pairwise fun a b=>¬ (a.right=b.right∧a.farm=b.farm)
theorem J6:∀ (S:List Claim) (i:Nat) (z:Claim),i<S.length→z.right=(S.getD i default).right→z.farm=(S.getD i default).farm→∀ r p,amt (S.set i z) r p=amt S r p+if z.right=r∧z.farm=p then z.litres - (S.getD i default).litres else 0
 | [],i,z,h,_,_,_,_=>absurd h (Nat.not_lt_zero _)
 |x::S,0,z,_,h1,h2,r,p=>by
  have e:(x::S).getD 0 default=x:=rfl;rw[e]at h1 h2 ⊢;rw[List.set_cons_zero,amt,amt,←h1,←h2];split <;>omega
 |x::S,i+1,z,h,h1,h2,r,p=>by
  have e:(x::S).getD (i+1) default=S.getD i default:=rfl;rw[e]at h1 h2 ⊢;rw[List.set_cons_succ,amt,amt,J6 S i z (by simpa using h) h1 h2 r p];omega
theorem N7 {S:List Claim}{i:Nat}{z:Claim}(hi:i<S.length)(h1:z.right=(S.getD i default).right)(h2:z.farm=(S.getD i default).farm)(hd:Hb S):Hb (S.set i z):=by
 rw[qM _ _ hi]at h1 h2;unfold Hb at hd ⊢;rw[List.pairwise_iff_getElem]at hd ⊢;intro a b ha hb hab;rw[List.length_set]at ha hb;rw[List.getElem_set,List.getElem_set];have h3:=hd a b ha hb hab;by_cases ea:i=a
 ·subst ea;rw[if_pos rfl,if_neg (by omega:¬i=b),h1,h2];exact h3
 ·by_cases eb:i=b
  ·subst eb;rw[if_neg ea,if_pos rfl,h1,h2];exact h3
  ·rw[if_neg ea,if_neg eb];exact h3
theorem N8 {S:List Claim}{z:Claim}(hd:Hb S)(h:∀ y∈S,¬ (y.right=z.right∧y.farm=z.farm)):Hb (S++[z]):=
 List.pairwise_append.2 ⟨hd,List.pairwise_singleton _ _,fun a ha b hb=>by rw[List.mem_singleton.1 hb];exact h a ha⟩
def gn (f:Int):List Claim→Int→Int→Int
 | [],_,_=>0
 |y::R,n,r=>if y.farm=f then(if y.right=r then bI n y.litres else 0)+gn f R (n - bI n y.litres) r else gn f R n r
theorem N9 {f o:Int}:∀ (R:List Claim) (n:Int) (K G:List Claim),0≤n→(∀ y∈R,0≤y.litres)→∀ r,amt (gv f o R n K G).2 r o=amt G r o+gn f R n r
 | [],n,K,G,_,_,r=>by simp[gv,gn]
 |y::R,n,K,G,h0,hR,r=>by
  have hy:=hR y (by simp);have hR':∀ z∈R,0≤z.litres:=fun z hz=>hR z (by simp[hz]);have hm:=px (a:=n) (b:=y.litres);by_cases hf:y.farm=f
  ·rw[gv,if_pos hf,gn,if_pos hf,N9 R _ _ _ (by omega) hR'];by_cases hr:bI n y.litres > 0
   ·rw[if_pos hr,A4,amt,amt];show _+((if y.right=r∧o=o then bI n y.litres else 0)+0)+_=_;simp only[and_true];omega
   ·rw[if_neg hr];split <;>omega
  ·rw[gv,if_neg hf,gn,if_neg hf,N9 R _ _ _ h0 hR']
theorem Lv {x:Claim}{l:List Claim}(h:∀ y∈l,y.hour=x.hour)(hk:∀ y∈l,¬Dj x y)(hn:∀ y∈l.head?,¬tlt y x):(rA x l).Perm (x::l):=by
 cases l with
 |nil=>exact List.Perm.refl _
 |cons y r=>
  rw[rA];by_cases h1:aG x y=true
  ·rw[if_pos h1]
  ·exact absurd (Fo (fun e=>h1 ((qs (h y (by simp)).symm).2 e)) (hn y (by simp))) (hk y (by simp))
theorem Hc {x:Claim}:∀ {l:List Claim},(∀ y∈l,y.hour=x.hour)→(∀ y∈l,¬Dj x y)→(gD l x).Perm (x::l)
 | [],_,_=>List.Perm.refl _
 |y::l,h,hk=>by
  rw[s4];by_cases h1:aG y x=true
  ·rw[if_pos h1];exact((Hc (fun z hz=>h z (by simp[hz])) fun z hz=>hk z (by simp[hz])).cons y).trans (List.Perm.swap x y l)
  ·rw[if_neg h1];refine Lv h hk fun z hz=>?_;have:z=y:=by simpa using hz.symm
   subst this;exact fun e=>h1 ((qs (h z (by simp))).2 e)
theorem Ay {α:Type}(S:List α)(d z:α){i j:Nat}(h:i≠j):(S.set i z).getD j d=S.getD j d:=by
 rw[List.getD_eq_getElem?_getD,List.getElem?_set_ne h,←List.getD_eq_getElem?_getD]
theorem Az {α:Type}(S:List α)(d z:α){i:Nat}(h:i<S.length):(S.set i z).getD i d=z:=by
 rw[List.getD_eq_getElem?_getD,List.getElem?_set_self h];rfl
structure Pile (ρ:Int→Int)(h b:Int)(S:List Claim):Prop where
 d:Hb S
 rk:∀ y∈S,y.rank=ρ y.right
 hr:∀ y∈S,y.hour=h
 lit:nL b S
section
variable {ρ:Int→Int}{h b b0:Int}
theorem Pile.set {S:List Claim}{i:Nat}{v:Int}(p:Pile ρ h b S)(hi:i<S.length)(hb:b≤b0)(hv:0≤v∧v≤b0):Pile ρ h b0 (S.set i (l9 (S.getD i default) v))∧∀ r q,amt (S.set i (l9 (S.getD i default) v)) r q=amt S r q+if(S.getD i default).right=r∧(S.getD i default).farm=q then v - (S.getD i default).litres else 0:=by
 have hm:S.getD i default∈S:=uM S default hi;refine⟨⟨N7 hi rfl rfl p.d,fun y hy=>?_,fun y hy=>?_,fun y hy=>?_⟩,fun r q=>J6 S i (l9 (S.getD i default) v) hi rfl rfl r q⟩
 ·rcases List.mem_or_eq_of_mem_set hy with hy|rfl
  ·exact p.rk y hy
  ·exact p.rk (S.getD i default) hm
 ·rcases List.mem_or_eq_of_mem_set hy with hy|rfl
  ·exact p.hr y hy
  ·exact p.hr (S.getD i default) hm
 ·rcases List.mem_or_eq_of_mem_set hy with hy|rfl
  ·have:=p.lit y hy;omega
  ·exact hv
theorem Pile.app {S:List Claim}{z:Claim}(p:Pile ρ h b S)(hb:b≤b0)(h1:z.rank=ρ z.right)(h2:z.hour=h)(h3:0≤z.litres∧z.litres≤b0)(hn:∀ y∈S,¬ (y.right=z.right∧y.farm=z.farm)):Pile ρ h b0 (S++[z])∧∀ r q,amt (S++[z]) r q=amt S r q+if z.right=r∧z.farm=q then z.litres else 0:=by
 refine⟨⟨N8 p.d hn,fun y hy=>?_,fun y hy=>?_,fun y hy=>?_⟩,fun r q=>by rw[A4,amt,amt];omega⟩
 ·rcases List.mem_append.1 hy with hy|hy
  ·exact p.rk y hy
  ·rw[List.mem_singleton.1 hy];exact h1
 ·rcases List.mem_append.1 hy with hy|hy
  ·exact p.hr y hy
  ·rw[List.mem_singleton.1 hy];exact h2
 ·rcases List.mem_append.1 hy with hy|hy
  ·have:=p.lit y hy;omega
  ·rw[List.mem_singleton.1 hy];exact h3
theorem Ef:∀ {S:List Claim},Pile ρ h b S→(∀ y∈S,0<y.litres)→∃ m,S.Perm m∧Dock ρ h m
 | [],_,_=>⟨[],List.Perm.refl _,⟨List.Pairwise.nil,(fun y hy=>by cases hy),(fun y hy=>by cases hy),(fun y hy=>by cases hy)⟩⟩
 |x::S,p,hp=>by
  have hd:=List.pairwise_cons.1 p.d;obtain⟨m,q1,q2⟩:=Ef (S:=S) ⟨hd.2,fun y hy=>p.rk y (by simp[hy]),fun y hy=>p.hr y (by simp[hy]),fun y hy=>p.lit y (by simp[hy])⟩ fun y hy=>hp y (by simp[hy]);refine⟨gD m x,((q1.cons x).trans (Hc (fun y hy=>?_) fun y hy e=>?_).symm),(q2.put (hp x (by simp)) (p.rk x (by simp)) (p.hr x (by simp))).1⟩
  ·exact(q2.hr y hy).trans (p.hr x (by simp)).symm
  ·exact hd.1 y (q1.symm.subset hy) ⟨e.2.1,e.2.2⟩
theorem Lw {S:List Claim}(p:Pile ρ h b S)(hl:S.length<2 ^ 46):b7 S∧Dock ρ h (cH S)∧∀ r q,amt (cH S) r q=amt S r q:=by
 have hs:(S.filter fun x=>!av x).Sublist S:=List.filter_sublist;obtain⟨m,q1,q2⟩:=Ef (S:=S.filter fun x=>!av x) ⟨p.d.sublist hs,fun y hy=>p.rk y (hs.subset hy),fun y hy=>p.hr y (hs.subset hy),fun y hy=>p.lit y (hs.subset hy)⟩ fun y hy=>by
  have h1:=p.lit y (hs.subset hy);have h2:=(List.mem_filter.1 hy).2;have h3:y.litres≠0:=fun e=>by unfold av at h2;rw[e]at h2;cases h2
  omega
 obtain⟨t1,t2⟩:=Fl hl q1 q2.s;rw[t2];exact⟨t1,q2,fun r q=>by rw[←CO q1,yj]⟩
end
section
variable {ρ:Int→Int}{h b b0:Int}
theorem CP {A g L:Int}{P:Prop}[Decidable P]{q f o:Int}(hfo:o≠f):A+(if P∧f=q then L - g - L else 0)+(if P∧o=q then g else 0)=A+(if P∧q=o then g else 0) - (if P∧q=f then g else 0):=by
 by_cases hP:P
 ·simp only[hP,true_and]
  repeat' split
  all_goals omega
 ·simp only[hP,false_and,if_false];omega
theorem IR (S1:List Claim)(x:Judgement)(i:Nat)(hi:i<S1.length):
  bK S1 x S1 (i:Int)∧
  ((aj S1 x S1 (i:Int)= -1∧∀ y∈S1,¬ (y.right=(S1.getD i default).right∧y.farm=x.other))∨
   ∃ j,j<S1.length∧aj S1 x S1 (i:Int)=(j:Int)∧(S1.getD j default).right=(S1.getD i default).right∧(S1.getD j default).farm=x.other):=by
 have eP:∀ y:Claim,eH y x S1 (i:Int)=(y.farm==x.other&&y.right==(S1.getD i default).right):=fun y=>by
  unfold eH;rw[Int.toNat_natCast]
 refine⟨fun _=>lT _ _ _ fun j s _ _=>?_,?_⟩
 ·unfold bv gw;exact fun _=>⟨by omega,by omega⟩
 ·unfold aj;rcases y8 (step:=bH S1 x S1 (i:Int)) S1 default (fun y=>eH y x S1 (i:Int)) (fun k _=>rfl)with⟨e,hN⟩ | ⟨K,z,T,h1,e,h2,h3⟩
  ·rw[e];refine .inl ⟨rfl,fun y hy hk=>?_⟩;have:=hN y hy;rw[eP,hk.1,hk.2]at this;simp at this
  ·rw[e];have g:S1.getD K.length default=z:=by rw[h1];exact il K z default T rfl
   rw[eP]at h2;simp only[Bool.and_eq_true,beq_iff_eq]at h2;refine .inr ⟨K.length,by rw[h1];simp,rfl,by rw[g];exact h2.2,by rw[g];exact h2.1⟩
theorem Lx (x:Judgement)(l:List Claim){S:List Claim}{i k:Nat}{n:Int}(hb:0≤b∧b+b0≤1152921504606846976)(hb0:0≤b0)(p:Pile ρ h b S)(hi:i<S.length)(hf:(S.getD i default).farm=x.farm)(hxo:x.other≠x.farm)(hn:0≤n∧n<4611686018427387904)(hy:(S.getD i default).litres≤b0)(hL:S.length≤32768):
  bT x l k ((i:Int),S,n)∧∃ S2,bu x l k ((i:Int),S,n)=.inr ((i:Int) - 1,S2,n - bI n (S.getD i default).litres)∧Pile ρ h (b+b0) S2∧S.length≤S2.length∧S2.length≤S.length+1∧
   (∀ j,j<i→(S2.getD j default).right=(S.getD j default).right∧(S2.getD j default).farm=(S.getD j default).farm∧((S.getD j default).farm=x.farm→(S2.getD j default).litres=(S.getD j default).litres))∧
   ∀ r q,amt S2 r q=amt S r q+(if(S.getD i default).right=r∧q=x.other then bI n (S.getD i default).litres else 0) - (if(S.getD i default).right=r∧q=x.farm then bI n (S.getD i default).litres else 0):=by
 have hm:=px (a:=n) (b:=(S.getD i default).litres);have hY:S.getD i default∈S:=uM S default hi;have hYl:=p.lit _ hY;generalize hg:bI n (S.getD i default).litres=g at *;have hg0:0≤g∧g≤b0:=by omega
 generalize hS1:S.set i (l9 (S.getD i default) ((S.getD i default).litres - g))=S1;obtain⟨p1,a1⟩:=p.set (b0:=b) hi (Int.le_refl _) (v:=(S.getD i default).litres - g) (by omega);rw[hS1]at p1 a1;have hl1:S1.length=S.length:=by rw[←hS1,List.length_set]
 have g1:S1.getD i default=l9 (S.getD i default) ((S.getD i default).litres - g):=by rw[←hS1];exact Az _ _ _ hi
 obtain⟨x1,x2⟩:=IR S1 x i (by omega);generalize hI:aj S1 x S1 (i:Int)=I at x2;have e:decide ((i:Int)≥0)=true:=decide_eq_true (by omega);have ef:((S.getD i default).farm !=x.farm)=false:=by rw[hf];simp
 have w1:i64.wrap ((i:Int) - 1)=(i:Int) - 1:=gG (by omega) (by omega);have w2:i64.wrap (n - g)=n - g:=gG (by omega) (by omega);have w3:i64.wrap ((S.getD i default).litres - g)=(S.getD i default).litres - g:=gG (by omega) (by omega);have e4:(if n< (S.getD i default).litres then n else(S.getD i default).litres)=g:=hg;have hSS:S.set i ({ right:=(S.getD i default).right,farm:=(S.getD i default).farm,hour:=(S.getD i default).hour,litres:=(S.getD i default).litres - g,rank:=(S.getD i default).rank}:Claim)=S1:=hS1;have hother:∀ j,j<i→S1.getD j default=S.getD j default:=fun j hj=>by rw[←hS1];exact Ay _ _ _ (by omega)
 unfold bT bu;simp only[e,Int.toNat_natCast,ef,e4,w1,w2,w3,hSS,hI,cond_true,cond_false];rcases x2 with⟨hI1,hN⟩ | ⟨j,hj,hI2,hjr,hjf⟩
 ·have hd:decide (I≥0)=false:=decide_eq_false (by omega);simp only[hd,cond_false];obtain⟨p2,a2⟩:=p1.app (b0:=b+b0) (z:=zb (S1.getD i default) x.other g) (by omega) (p1.rk (S1.getD i default) (uM S1 default (by omega))) (p1.hr (S1.getD i default) (uM S1 default (by omega))) (by show 0≤g∧g≤b+b0;omega) fun y hy'=>hN y hy';refine⟨fun _=>⟨⟨by omega,by omega⟩,fun _=>⟨⟨by omega,by omega⟩,⟨by omega,by omega⟩,⟨by omega,by omega⟩,x1,fun h=>(by cases h),fun _=>⟨⟨by omega,by omega⟩,?_⟩⟩⟩,S1++[zb (S1.getD i default) x.other g],rfl,p2,?_,?_,fun q hq=>?_,fun r q=>?_⟩
  ·rw[List.length_append];simp only[List.length_cons,List.length_nil];unfold dC;omega
  ·rw[List.length_append];omega
  ·rw[List.length_append];simp only[List.length_cons,List.length_nil];omega
  ·have:(S1++[zb (S1.getD i default) x.other g]).getD q default=S.getD q default:=by
    rw[List.getD_eq_getElem?_getD,List.getElem?_append_left (by omega),←List.getD_eq_getElem?_getD,hother q hq]
   rw[this];exact⟨rfl,rfl,fun _=>rfl⟩
  ·rw[a2,a1,g1];show _+(if(S.getD i default).right=r∧x.other=q then g else 0)=_;rw[hf];exact CP hxo
 ·have hd:decide (I≥0)=true:=decide_eq_true (by omega);have hz:=p1.lit _ (uM S1 default hj);have w4:i64.wrap ((S1.getD j default).litres+g)=(S1.getD j default).litres+g:=gG (by omega) (by omega);subst hI2;simp only[hd,cond_true,Int.toNat_natCast,w4];obtain⟨p2,a2⟩:=p1.set (b0:=b+b0) hj (by omega) (v:=(S1.getD j default).litres+g) (by omega);refine⟨fun _=>⟨⟨by omega,by omega⟩,fun _=>⟨⟨by omega,by omega⟩,⟨by omega,by omega⟩,⟨by omega,by omega⟩,x1,fun _=>⟨⟨by omega,by omega⟩,by omega,by omega⟩,fun h=>(by cases h)⟩⟩,S1.set j (l9 (S1.getD j default) ((S1.getD j default).litres+g)),rfl,p2,?_,?_,fun q hq=>?_,fun r q=>?_⟩
  ·rw[List.length_set];omega
  ·rw[List.length_set];omega
  ·by_cases hjq:j=q
   ·subst hjq;rw[Az _ _ _ hj,←hother j hq];exact⟨rfl,rfl,fun e=>absurd (hjf.symm.trans e) hxo⟩
   ·rw[Ay _ _ _ hjq,hother q hq];exact⟨rfl,rfl,fun _=>rfl⟩
  ·rw[a2,a1,hjr,hjf,g1];show _+_+(if(S.getD i default).right=r∧x.other=q then(S1.getD j default).litres+g - (S1.getD j default).litres else 0)=_;rw[hf,show(S1.getD j default).litres+g - (S1.getD j default).litres=g by omega];exact CP hxo
end
section
variable {ρ:Int→Int}{h b0:Int}
theorem CQ (x:Judgement)(l:List Claim)(hxo:x.other≠x.farm)(hb0:0≤b0∧b0≤4398046511104):∀ (R:List Claim) (c:Nat) (S:List Claim) (n:Int) (k:Nat),R.length≤S.length→
  (∀ j,j<R.length→(S.getD j default).right=(R.reverse.getD j default).right∧(S.getD j default).farm=(R.reverse.getD j default).farm∧((R.reverse.getD j default).farm=x.farm→(S.getD j default).litres=(R.reverse.getD j default).litres))→
  Pile ρ h ((c:Int)*b0) S→0≤n→n<4611686018427387904→nL b0 R→c+R.length≤16384→S.length+R.length≤32768→
  okI (bu x l) (bT x l) (R.length+1) k ((R.length:Int) - 1,S,n)∧∃ S',ay (bu x l) (R.length+1) k ((R.length:Int) - 1,S,n)=.inl S'∧Pile ρ h (((c+R.length:Nat):Int)*b0) S'∧S'.length≤S.length+R.length∧
   ∀ r q,amt S' r q=amt S r q+(if q=x.other then gn x.farm R n r else 0) - (if q=x.farm then gn x.farm R n r else 0)
 | [],c,S,n,k,_,_,p,h0,h1,_,_,_=>by
  have e:decide (((0:Nat):Int) - 1≥0)=false:=decide_eq_false (by omega);simp only[List.length_nil,okI,ay,bu,bT,e,cond_false];refine⟨⟨fun h=>(by cases h),fun s h=>(by cases h)⟩,S,rfl,p,Nat.le_refl _,fun r q=>?_⟩;simp[gn]
 |y::R,c,S,n,k,hl,hS,p,h0,h1,hR,hc,hL=>by
  simp only[List.length_cons]at hl hc hL;have hy:=hR y (by simp);have hR':nL b0 R:=fun z hz=>hR z (by simp[hz]);have hlast:(y::R).reverse.getD R.length default=y:=by rw[List.reverse_cons];exact il R.reverse y default [] (by simp)
  have hprev:∀ j,j<R.length→(y::R).reverse.getD j default=R.reverse.getD j default:=fun j hj=>by
   rw[List.reverse_cons,List.getD_eq_getElem?_getD,List.getElem?_append_left (by simpa using hj),←List.getD_eq_getElem?_getD]
  obtain⟨s1,s2,s3⟩:=hS R.length (by simp);rw[hlast]at s1 s2 s3;have hi:(((y::R).length:Nat):Int) - 1=(R.length:Int):=by simp
  have e1:((c+1:Nat):Int)*b0=(c:Int)*b0+b0:=QT c b0;have hcb:0≤(c:Int)*b0∧(c:Int)*b0≤72057594037927936:=by
   refine⟨Int.mul_nonneg (by omega) hb0.1,?_⟩;have h2:(c:Int)*b0≤16384*b0:=Int.mul_le_mul_of_nonneg_right (by omega) hb0.1;omega
  rw[hi];simp only[List.length_cons];rw[okI,ay,show c+(R.length+1)=c+1+R.length by omega];by_cases hf:y.farm=x.farm
  ·obtain⟨t1,S2,t2,t3,t4,t5,t6,t7⟩:=Lx (k:=k) x l (i:=R.length) (n:=n) ⟨hcb.1,by omega⟩ hb0.1 p (by omega) (by rw[s2,hf]) hxo ⟨h0,h1⟩ (by rw[s3 hf];exact hy.2) (by omega);have hm:=px (a:=n) (b:=(S.getD R.length default).litres);have hyl:=s3 hf;rw[hyl]at t2 t7 hm;obtain⟨q1,S',q2,q3,q4,q5⟩:=CQ x l hxo hb0 R (c+1) S2 (n - bI n y.litres) (k+1) (by omega) (fun j hj=>by
    obtain⟨u1,u2,u3⟩:=t6 j hj;obtain⟨v1,v2,v3⟩:=hS j (by simp only[List.length_cons];omega);rw[hprev j hj]at v1 v2 v3;exact⟨u1.trans v1,u2.trans v2,fun e=>(u3 (v2.trans e)).trans (v3 e)⟩) (by rw[e1];exact t3) (by omega) (by omega) hR' (by omega) (by omega)
   rw[t2];refine⟨⟨t1,fun s hs=>by cases hs;exact q1⟩,S',q2,q3,by omega,fun r q=>?_⟩;rw[q5,t7,gn,if_pos hf,s1];by_cases hr:y.right=r
   ·simp only[hr,true_and,if_true]
    repeat' split
    all_goals omega
   ·simp only[hr,false_and,if_false]
    repeat' split
    all_goals omega
  ·have e:decide ((R.length:Int)≥0)=true:=decide_eq_true (by omega);have ef:((S.getD R.length default).farm !=x.farm)=true:=by rw[s2];simpa using hf
   have w1:i64.wrap ((R.length:Int) - 1)=(R.length:Int) - 1:=gG (by omega) (by omega);have hp2:Pile ρ h (((c+1:Nat):Int)*b0) S:=⟨p.d,p.rk,p.hr,fun z hz=>by rw[e1];have:=p.lit z hz;omega⟩;obtain⟨q1,S',q2,q3,q4,q5⟩:=CQ x l hxo hb0 R (c+1) S n (k+1) (by omega) (fun j hj=>by
    have:=hS j (by simp only[List.length_cons];omega)
    rwa[hprev j hj]at this) hp2 h0 h1 hR' (by omega) (by omega)
   simp only[bu,bT,e,Int.toNat_natCast,ef,w1,cond_true];refine⟨⟨fun _=>⟨⟨by omega,by omega⟩,fun h=>(by cases h)⟩,fun s hs=>by cases hs;exact q1⟩,S',q2,q3,by omega,fun r q=>?_⟩;rw[q5,gn,if_neg hf]
end
section
variable {ρ:Int→Int}{h b0:Int}
theorem Dock.pile {l:List Claim}(d:Dock ρ h l)(hb:nL b0 l):Pile ρ h b0 l:=by
 refine⟨?_,d.rk,d.hr,hb⟩;unfold Hb;rw[List.pairwise_iff_getElem];intro i j hi hj hij e;have:=List.pairwise_iff_getElem.1 d.s i j hi hj hij;exact IP this (d.rk _ (List.getElem_mem hi)) (d.rk _ (List.getElem_mem hj)) ⟨e.1.symm,e.2.symm⟩
theorem J7 (x:Judgement)(l:List Claim)(hxo:x.other≠x.farm)(hb0:0≤b0∧b0≤4398046511104)(d:Dock ρ h l)(hb:nL b0 l)(hl:l.length≤8192)(h0:0≤x.n)(h1:x.n<4611686018427387904):
  (cL x l∧b7 (ca x l)∧nu l x.farm x.other x.n)∧cH (ca x l)=hM l x.farm x.other x.n∧Dock ρ h (hM l x.farm x.other x.n):=by
 have hbr:nL b0 l.reverse:=fun y hy=>hb y (by simpa using hy);have hp:Pile ρ h (((1:Nat):Int)*b0) l:=by
  have:=d.pile hb
  rwa[show((1:Nat):Int)*b0=b0 by simp]
 obtain⟨q1,S',q2,q3,q4,q5⟩:=CQ x l hxo hb0 l.reverse 1 l x.n 0 (by simp) (fun j _=>by rw[List.reverse_reverse];exact⟨rfl,rfl,fun _=>rfl⟩) hp h0 h1 hbr (by rw[List.length_reverse];omega) (by rw[List.length_reverse];omega);rw[List.length_reverse]at q1 q2 q4;have w:i64.wrap ((l.length:Int) - 1)=(l.length:Int) - 1:=gG (by omega) (by omega);have eG:ca x l=S':=by unfold ca;rw[w,q2]
 have gp:cL x l:=by
  unfold cL;rw[w,q2];exact fun _=>⟨q1,fun z hz=>by cases hz⟩
 obtain⟨t1,t2,t3⟩:=Lw q3 (by omega);obtain⟨r1,r2⟩:=wU l x.farm x.other x.n hb0 hl h0 h1 hb;have dn:Dock ρ h ([]:List Claim):=⟨List.Pairwise.nil,(fun y hy=>by cases hy),(fun y hy=>by cases hy),(fun y hy=>by cases hy)⟩;have gnil:Gift ρ h x.other ([]:List Claim):=⟨(fun y hy=>by cases hy),(fun y hy=>by cases hy),(fun y hy=>by cases hy),(fun y hy=>by cases hy)⟩;obtain⟨v1,v2,v3⟩:=Fq (f:=x.farm) (o:=x.other) l.reverse x.n [] [] h0 (fun y hy=>by
  have hy':y∈l:=by simpa using hy
  exact⟨d.rk y hy',d.hr y hy',(hb y hy').1⟩) dn gnil
 have v4:=N9 (f:=x.farm) (o:=x.other) l.reverse x.n [] [] h0 fun y hy=>(hbr y hy).1;obtain⟨z1,z2⟩:=Ft _ _ v1 v2;rw[eG,r2];refine⟨⟨gp,t1,r1⟩,zY t2 z1 fun r q=>?_,z1⟩;rw[t3,q5,z2];have a1:=v3 r q;rw[v4,CO l.reverse_perm]at a1;have a2:amt (gv x.farm x.other l.reverse x.n [] []).2 r q=if q=x.other then gn x.farm l.reverse x.n r else 0:=by
  by_cases hq:q=x.other
  ·subst hq;rw[if_pos rfl,v4];simp[amt]
  ·rw[if_neg hq];exact za fun y hy e=>hq (by rw[←e.2,v2.fm y hy])
 rw[a2];simp only[amt]at a1;by_cases hq:q=x.farm
 ·rw[if_pos hq]at a1 ⊢;omega
 ·rw[if_neg hq]at a1 ⊢;simp only[ite_self,if_neg hq]at a1;omega
end
def doJ (x:Judgement)(l:List Claim):List Claim:=if x.kind=1 then ed l x.farm 0 else if x.kind=2 then ed l x.farm x.n else if x.kind=3 then hM l x.farm x.other x.n else l
section
variable {ρ:Int→Int}{h b0:Int}
theorem Dock.tidy_id {l:List Claim}(d:Dock ρ h l)(hl:l.length<2 ^ 46):b7 l∧cH l=l:=by
 have e:(l.filter fun x=>!av x)=l:=List.filter_eq_self.2 fun y hy=>by
  have:=d.pos y hy;unfold av;simp;omega
 exact Fl hl (by rw[e]) d.s
theorem zc (f:Int):∀ (l:List Claim) (n:Int),∀ z∈oe f n l,∃ y∈l,z.rank=y.rank∧z.right=y.right∧z.hour=y.hour
 | [],_,z,hz=>by cases hz
 |x::r,n,z,hz=>by
  unfold oe at hz;by_cases hf:x.farm=f
  ·rw[if_pos hf]at hz;rcases List.mem_cons.1 hz with rfl|hz
   ·exact⟨x,by simp,rfl,rfl,rfl⟩
   ·obtain⟨y,hy,e⟩:=zc f r _ z hz;exact⟨y,by simp[hy],e⟩
  ·rw[if_neg hf]at hz;rcases List.mem_cons.1 hz with rfl|hz
   ·exact⟨z,by simp,rfl,rfl,rfl⟩
   ·obtain⟨y,hy,e⟩:=zc f r _ z hz;exact⟨y,by simp[hy],e⟩
theorem CR {x:Judgement}{l:List Claim}(d:Dock ρ h l)(h0:0≤x.n)(h1:x.n<4611686018427387904)(hl:Lit l)(hb:l.length*40≤dC):Dock ρ h (ed l x.farm x.n):=by
 obtain⟨_,_,e⟩:=uN x l h0 h1 hl d.s hb;have hs:((oe x.farm x.n l).filter fun y=>!av y).Sublist (oe x.farm x.n l):=List.filter_sublist;have hL:=y9 x.farm l x.n h0 hl;rw[e];refine⟨(G8 (y_ x.farm l x.n) d.s).sublist hs,fun z hz=>?_,fun z hz=>?_,fun z hz=>?_⟩
 ·obtain⟨y,hy,e1,e2,_⟩:=zc x.farm l x.n z (hs.subset hz);rw[e1,e2];exact d.rk y hy
 ·obtain⟨y,hy,_,_,e3⟩:=zc x.farm l x.n z (hs.subset hz);rw[e3];exact d.hr y hy
 ·have h2:=hL.1 z (hs.subset hz);have h3:=(List.mem_filter.1 hz).2;have h4:z.litres≠0:=fun e=>by unfold av at h3;rw[e]at h3;cases h3
  omega
theorem Ly {dd:District}{x:Judgement}(hx:JOk dd x)(h0:x.of_=0){l:List Claim}(hb0:0≤b0∧b0≤4398046511104)(d:Dock ρ h l)(hb:nL b0 l)(hl:l.length≤8192)(a2:List Judgement)(s_0:List Claim×List Claim):
  aT a2 s_0 x l=.inr (doJ x l)∧cp a2 s_0 x l∧Dock ρ h (doJ x l):=by
 have hL:Lit l:=fun y hy=>by have:=hb y hy;omega
 have hmB:l.length*40≤dC:=by unfold dC;omega
 have hk:=hx.kind h0;have hn:0≤x.n∧x.n<4611686018427387904:=by
  by_cases hk1:x.kind=1
  ·rw[hx.none hk1];omega
  ·have:=hx.n hk1 h0;omega
 unfold aT cp doJ;by_cases k1:x.kind=1
 ·obtain⟨⟨p1,p2,p3⟩,e1,_⟩:=uN x l hn.1 hn.2 hL d.s hmB;have d1:=CR d hn.1 hn.2 hL hmB;rw[show(x.kind==1)=true by simpa using k1,if_pos k1,e1];rw[hx.none k1]at d1 ⊢;exact⟨rfl,⟨fun _=>⟨p1,p2⟩,(fun h=>by cases h)⟩,d1⟩
 ·rw[show(x.kind==1)=false by simpa using k1,if_neg k1];by_cases k2:x.kind=2
  ·obtain⟨⟨p1,p2,p3⟩,e1,_⟩:=uN x l hn.1 hn.2 hL d.s hmB;rw[show(x.kind==2)=true by simpa using k2,if_pos k2,e1];exact⟨rfl,⟨(fun h=>by cases h),fun _=>⟨fun _=>⟨p1,p2⟩,(fun h=>by cases h)⟩⟩,CR d hn.1 hn.2 hL hmB⟩
  ·rw[show(x.kind==2)=false by simpa using k2,if_neg k2];by_cases k3:x.kind=3
   ·obtain⟨⟨p1,p2,p3⟩,e1,d1⟩:=J7 x l (hx.other (by omega)).2.2 hb0 d hb hl hn.1 hn.2;rw[show(x.kind==3)=true by simpa using k3,if_pos k3,e1];exact⟨rfl,⟨(fun h=>by cases h),fun _=>⟨(fun h=>by cases h),fun _=>⟨fun _=>⟨p1,p2⟩,(fun h=>by cases h)⟩⟩⟩,d1⟩
   ·have k4:x.kind=4:=by omega
    obtain⟨t1,t2⟩:=d.tidy_id (by omega);rw[show(x.kind==3)=false by simpa using k3,if_neg k3,show(x.kind==4)=true by simpa using k4,t2];exact⟨rfl,⟨(fun h=>by cases h),fun _=>⟨(fun h=>by cases h),fun _=>⟨(fun h=>by cases h),fun _=>⟨fun _=>t1,(fun h=>by cases h)⟩⟩⟩⟩,d⟩
end
theorem zZ (j:List Judgement)(x:Judgement)(h:Int):((((x.of_==0)&&(decide (x.hour≤h)))&&(aI h x.since x.to))&&(!(eT j x h)))=bg j x h:=by
 unfold bg;rw[GU,RO];cases(x.of_==0) <;>cases decide (x.hour≤h) <;>cases decide (x.since≤h) <;>cases decide (h≤x.to) <;>rfl
theorem tS (j:List Judgement)(h:Int):∀ (R A:List Judgement) (k:Nat) (s:List Judgement),j=A++R→A.length=k→ay (c6 j h) R.length k s=.inr (s++R.filter fun x=>bg j x h)
 | [],A,k,s,_,_=>by simp[ay]
 |y::R,A,k,s,hj,hk=>by
  have g:j.getD k default=y:=by rw[hj];exact il A y default R hk.symm
  simp only[List.length_cons,ay,c6,g,zZ];have hj':j=(A++[y])++R:=by rw[hj];simp
  cases hc:bg j y h with
  |true=>
   simp only[cond_true];rw[tS j h R (A++[y]) (k+1) _ hj' (by simp[hk]),List.filter_cons_of_pos (by exact hc)];simp
  |false=>
   simp only[cond_false];rw[tS j h R (A++[y]) (k+1) _ hj' (by simp[hk]),List.filter_cons_of_neg (by rw[hc];simp)]
theorem qt (j:List Judgement)(h:Int):aO j h=j.filter fun x=>bg j x h:=by
 unfold aO;rw[tS j h j [] 0 [] rfl rfl];rfl
theorem yk {j:List Judgement}{x:Judgement}{h:Int}(hx:bg j x h=true):x.of_=0:=by
 unfold bg at hx;simp only[Bool.and_eq_true]at hx;simpa using hx.1.1.1.1
theorem Eg (j:List Judgement)(h:Int)(x:Judgement)(k:Nat)(s:List Claim)(g:j.getD k default=x):jq j h k s=.inr (if bg j x h=true then doJ x s else s):=by
 unfold jq doJ;rw[g];cases hc:bg j x h with
 |false=>rfl
 |true=>
  simp only[Bool.not_true,cond_false,if_true];by_cases k1:x.kind=1
  ·rw[show(x.kind==1)=true by simpa using k1,if_pos k1];rfl
  ·rw[show(x.kind==1)=false by simpa using k1,if_neg k1];by_cases k2:x.kind=2
   ·rw[show(x.kind==2)=true by simpa using k2,if_pos k2];rfl
   ·rw[show(x.kind==2)=false by simpa using k2,if_neg k2];by_cases k3:x.kind=3
    ·rw[show(x.kind==3)=true by simpa using k3,if_pos k3];rfl
    ·rw[show(x.kind==3)=false by simpa using k3,if_neg k3];rfl
theorem He (j:List Judgement)(h:Int):∀ (R A:List Judgement) (k:Nat) (s:List Claim),j=A++R→A.length=k→ay (jq j h) R.length k s=.inr ((R.filter fun x=>bg j x h).foldl (fun s x=>doJ x s) s)
 | [],A,k,s,_,_=>by simp[ay]
 |y::R,A,k,s,hj,hk=>by
  have g:j.getD k default=y:=by rw[hj];exact il A y default R hk.symm
  have hj':j=(A++[y])++R:=by rw[hj];simp
  simp only[List.length_cons,ay,Eg j h y k s g];rw[He j h R (A++[y]) (k+1) _ hj' (by simp[hk])];cases hc:bg j y h with
  |true=>rw[List.filter_cons_of_pos (by exact hc)];rfl
  |false=>rw[List.filter_cons_of_neg (by rw[hc];simp)];rfl
theorem QU (l:List Claim)(j:List Judgement)(h:Int):mA l j h=(aO j h).foldl (fun s x=>doJ x s) l:=by
 unfold mA;rw[He j h j [] 0 l rfl rfl,qt]
def tot:List Claim→Int
 | [] =>0
 |x::l=>x.litres+tot l
theorem A6:∀ l m:List Claim,tot (l++m)=tot l+tot m
 | [],m=>by simp[tot]
 |x::l,m=>by rw[List.cons_append,tot,tot,A6 l m];omega
theorem vB:∀ l:List Claim,tot (l.filter fun x=>!av x)=tot l
 | [] =>rfl
 |x::l=>by
  by_cases hx:x.litres=0
  ·rw[List.filter_cons_of_neg (by unfold av;simp[hx]),vB l,tot,hx];omega
  ·rw[List.filter_cons_of_pos (by unfold av;simp[hx]),tot,tot,vB l]
theorem N_:∀ {l:List Claim},(∀ y∈l,0≤y.litres)→0≤tot l
 | [],_=>by simp[tot]
 |x::l,h=>by have:=h x (by simp);have:=N_ fun y hy=>h y (List.mem_cons_of_mem _ hy);rw[tot];omega
theorem Oa:∀ {l:List Claim},(∀ y∈l,0≤y.litres)→∀ y∈l,y.litres≤tot l
 | [],_,y,hy=>by cases hy
 |x::l,h,y,hy=>by
  have hx:=h x (by simp);have hl:∀ y∈l,0≤y.litres:=fun y hy=>h y (List.mem_cons_of_mem _ hy);rw[tot];rcases List.mem_cons.1 hy with rfl|hy
  ·have:=N_ hl;omega
  ·have:=Oa hl y hy;omega
theorem Hf (x:Claim):∀ l:List Claim,tot (rA x l)=tot l+x.litres
 | [] =>by simp[rA,tot]
 |y::r=>by
  rw[rA];split
  ·simp only[tot];omega
  ·simp only[tot,l9];omega
theorem zd (x:Claim):∀ l:List Claim,tot (gD l x)=tot l+x.litres
 | [] =>Hf x []
 |y::l=>by
  rw[s4];split
  ·rw[tot,zd x l,tot];omega
  ·exact Hf x (y::l)
theorem Hg {x z:Claim}:∀ {l:List Claim},z∈rA x l→(z.right=x.right∧z.farm=x.farm)∨z∈l
 | [],h=>by
  have:z=x:=by simpa[rA]using h
  subst this;exact .inl ⟨rfl,rfl⟩
 |y::r,h=>by
  rw[rA]at h;split at h
  ·rcases List.mem_cons.1 h with rfl|h
   ·exact .inl ⟨rfl,rfl⟩
   ·exact .inr h
  ·rcases List.mem_cons.1 h with rfl|h
   ·exact .inl ⟨rfl,rfl⟩
   ·exact .inr (List.mem_cons_of_mem _ h)
theorem CS {x z:Claim}:∀ {l:List Claim},z∈gD l x→(z.right=x.right∧z.farm=x.farm)∨z∈l
 | [],h=>Hg (l:=[]) h
 |y::l,h=>by
  rw[s4]at h;split at h
  ·rcases List.mem_cons.1 h with rfl|h
   ·exact .inr (by simp)
   ·rcases CS h with h|h
    ·exact .inl h
    ·exact .inr (List.mem_cons_of_mem _ h)
  ·exact Hg h
theorem Hh (x:Claim):∀ l:List Claim,(rA x l).length≤l.length+1
 | [] =>by simp[rA]
 |y::r=>by rw[rA];split <;>simp
theorem zf (x:Claim):∀ l:List Claim,(gD l x).length≤l.length+1
 | [] =>Hh x []
 |y::l=>by
  rw[s4];split
  ·have:=zf x l;simp only[List.length_cons];omega
  ·exact Hh x (y::l)
def PlC (R F:Int)(y:Claim):Prop:=(0≤y.right∧y.right<R)∧0≤y.farm∧y.farm<F
theorem A7 {f o R F:Int}(ho:0≤o∧o<F):∀ (S:List Claim) (n:Int) (K G:List Claim),0≤n→(∀ y∈S,0≤y.litres∧PlC R F y)→(∀ y∈K,PlC R F y)→(∀ y∈G,PlC R F y)→
  tot (gv f o S n K G).1+tot (gv f o S n K G).2=tot K+tot S+tot G∧(∀ y∈(gv f o S n K G).1,PlC R F y)∧(∀ y∈(gv f o S n K G).2,PlC R F y)∧
  (gv f o S n K G).1.length≤K.length+S.length∧(gv f o S n K G).2.length≤G.length+(S.filter fun y=>y.farm==f).length
 | [],n,K,G,_,_,hK,hG=>by
  simp only[gv,tot];exact⟨by omega,hK,hG,by simp,by simp⟩
 |y::S,n,K,G,h0,hS,hK,hG=>by
  have hy:=hS y (by simp);have hS':∀ z∈S,0≤z.litres∧PlC R F z:=fun z hz=>hS z (by simp[hz]);have hm:=px (a:=n) (b:=y.litres);have hm0:0≤bI n y.litres:=by omega
  have hput:∀ z:Claim,PlC R F z→∀ w∈gD K z,PlC R F w:=fun z hz w hw=>by
   rcases CS hw with⟨e1,e2⟩ |hw
   ·unfold PlC;rw[e1,e2];exact hz
   ·exact hK w hw
  by_cases hf:y.farm=f
  ·rw[gv,if_pos hf,List.filter_cons_of_pos (by simpa using hf)];have k1:tot (if y.litres - bI n y.litres > 0 then gD K (l9 y (y.litres - bI n y.litres))else K)=tot K+(y.litres - bI n y.litres)∧(∀ z∈(if y.litres - bI n y.litres > 0 then gD K (l9 y (y.litres - bI n y.litres))else K),PlC R F z)∧(if y.litres - bI n y.litres > 0 then gD K (l9 y (y.litres - bI n y.litres))else K).length≤K.length+1:=by
    by_cases hr:y.litres - bI n y.litres > 0
    ·rw[if_pos hr];exact⟨zd _ _,hput _ hy.2,zf _ _⟩
    ·rw[if_neg hr];exact⟨by omega,hK,by omega⟩
   have k2:tot (if bI n y.litres > 0 then G++[zb y o (bI n y.litres)]else G)=tot G+bI n y.litres∧(∀ z∈(if bI n y.litres > 0 then G++[zb y o (bI n y.litres)]else G),PlC R F z)∧(if bI n y.litres > 0 then G++[zb y o (bI n y.litres)]else G).length≤G.length+1:=by
    by_cases hr:bI n y.litres > 0
    ·rw[if_pos hr];refine⟨by rw[A6];simp[tot,zb],fun z hz=>?_,by simp⟩;rcases List.mem_append.1 hz with hz|hz
     ·exact hG z hz
     ·rw[List.mem_singleton.1 hz];exact⟨hy.2.1,ho⟩
    ·rw[if_neg hr];exact⟨by omega,hG,by omega⟩
   obtain⟨q1,q2,q3,q4,q5⟩:=A7 ho S (n - bI n y.litres) _ _ (by omega) hS' k1.2.1 k2.2.1;refine⟨?_,q2,q3,?_,?_⟩
   ·rw[q1,k1.1,k2.1,tot];omega
   ·have:=k1.2.2;simp only[List.length_cons];omega
   ·have:=k2.2.2;simp only[List.length_cons];omega
  ·rw[gv,if_neg hf,List.filter_cons_of_neg (by simpa using hf)];have k1:tot (if y.litres > 0 then gD K y else K)=tot K+y.litres∧(∀ z∈(if y.litres > 0 then gD K y else K),PlC R F z)∧(if y.litres > 0 then gD K y else K).length≤K.length+1:=by
    by_cases hr:y.litres > 0
    ·rw[if_pos hr];exact⟨zd _ _,hput _ hy.2,zf _ _⟩
    ·rw[if_neg hr];exact⟨by omega,hK,by omega⟩
   obtain⟨q1,q2,q3,q4,q5⟩:=A7 ho S n _ G h0 hS' k1.2.1 hG;refine⟨?_,q2,q3,?_,q5⟩
   ·rw[q1,k1.1,tot];omega
   ·have:=k1.2.2;simp only[List.length_cons];omega
theorem z6 {R F:Int}:∀ (G K:List Claim),(∀ y∈K,PlC R F y)→(∀ y∈G,PlC R F y)→tot (G.foldl gD K)=tot K+tot G∧(∀ y∈G.foldl gD K,PlC R F y)∧(G.foldl gD K).length≤K.length+G.length
 | [],K,hK,_=>⟨by simp[tot],hK,by simp⟩
 |x::G,K,hK,hG=>by
  obtain⟨p1,p2,p3⟩:=z6 G (gD K x) (fun w hw=>by
   rcases CS hw with⟨e1,e2⟩ |hw
   ·unfold PlC;rw[e1,e2];exact hG x (by simp)
   ·exact hK w hw) fun y hy=>hG y (by simp[hy])
  rw[List.foldl_cons];refine⟨?_,p2,?_⟩
  ·rw[p1,zd,tot];omega
  ·have:=zf x K;simp only[List.length_cons];omega
theorem xg (f:Int){R F:Int}:∀ (l:List Claim) (n:Int),0≤n→(∀ y∈l,0≤y.litres∧PlC R F y)→tot (oe f n l)≤tot l∧(∀ y∈oe f n l,PlC R F y)∧(oe f n l).length=l.length
 | [],n,_,_=>⟨by simp[oe],(fun y hy=>by simp[oe]at hy),rfl⟩
 |x::r,n,h0,hl=>by
  have hx:=hl x (by simp);have hm:=px (a:=n) (b:=x.litres);have hl':∀ y∈r,0≤y.litres∧PlC R F y:=fun y hy=>hl y (by simp[hy]);unfold oe;by_cases hf:x.farm=f
  ·rw[if_pos hf];obtain⟨p1,p2,p3⟩:=xg f r (n - bI n x.litres) (by omega) hl';refine⟨?_,fun y hy=>?_,by simp[p3]⟩
   ·simp only[tot,l9];omega
   ·rcases List.mem_cons.1 hy with rfl|hy
    ·exact hx.2
    ·exact p2 y hy
  ·rw[if_neg hf];obtain⟨p1,p2,p3⟩:=xg f r n h0 hl';refine⟨?_,fun y hy=>?_,by simp[p3]⟩
   ·simp only[tot];omega
   ·rcases List.mem_cons.1 hy with rfl|hy
    ·exact hx.2
    ·exact p2 y hy
theorem AA:∀ (N:Nat) (l:List Nat),l.Nodup→(∀ x∈l,x<N)→l.length≤N
 |0,[],_,_=>by simp
 |0,x::l,_,h=>absurd (h x (by simp)) (Nat.not_lt_zero _)
 |N+1,l,hn,h=>by
  have h2:=AA N (l.erase N) (hn.erase N) fun x hx=>by
   have:=hn.mem_erase_iff.1 hx;have:=h x this.2;omega
  by_cases hm:N∈l
  ·rw[List.length_erase_of_mem hm]at h2;omega
  ·rw[List.erase_of_not_mem hm]at h2;omega
section
variable {ρ:Int→Int}{h:Int}
structure InvD (ρ:Int→Int)(h R F B:Int)(N:Nat)(l:List Claim):Prop where
 d:Dock ρ h l
 pl:∀ y∈l,PlC R F y
 tt:tot l≤B
 len:l.length≤N
variable {R F B:Int}{N:Nat}
theorem InvD.lit {l:List Claim}(i:InvD ρ h R F B N l):nL B l:=fun y hy=>by
 have h1:=i.d.pos y hy;have h2:=Oa (fun z hz=>by have:=i.d.pos z hz;omega) y hy;have h3:=i.tt;omega
theorem InvD.few {l:List Claim}(i:InvD ρ h R F B N l)(hR:R≤256)(f:Int):(l.filter fun y=>y.farm==f).length≤256:=by
 have hd:Hb l:=(i.d.pile i.lit).d;have h1:((l.filter fun y=>y.farm==f).map fun y=>y.right.toNat).Nodup:=by
  refine List.pairwise_map.2 ((List.Pairwise.sublist List.filter_sublist hd).imp_of_mem fun {a b} ha hb hab=>?_);have a1:=List.mem_filter.1 ha;have b1:=List.mem_filter.1 hb;have a2:a.farm=f:=by simpa using a1.2
  have b2:b.farm=f:=by simpa using b1.2
  have a3:=(i.pl a a1.1).1;have b3:=(i.pl b b1.1).1;intro e;exact hab ⟨by omega,by rw[a2,b2]⟩
 have h2:=AA 256 _ h1 fun x hx=>by
  obtain⟨y,hy,rfl⟩:=List.mem_map.1 hx;have:=(i.pl y (List.mem_filter.1 hy).1).1;omega
 simpa using h2
theorem InvD.step {dd:District}{x:Judgement}(hx:JOk dd x)(h0:x.of_=0){l:List Claim}(i:InvD ρ h R F B N l)(hR:R≤256)(hF:(dd.farms.length:Int)=F)(hB:0≤B∧B≤4398046511104)(hN:N≤8192)(a2:List Judgement)(s_0:List Claim×List Claim):
  aT a2 s_0 x l=.inr (doJ x l)∧cp a2 s_0 x l∧InvD ρ h R F B (N+256) (doJ x l):=by
 have hlen:=i.len;obtain⟨e1,e2,e3⟩:=Ly hx h0 hB i.d i.lit (by omega) a2 s_0;have hb:=i.lit;have hL:Lit l:=fun y hy=>by have:=hb y hy;omega
 have hmB:l.length*40≤dC:=by unfold dC;omega
 have hp:∀ y∈l,0≤y.litres∧PlC R F y:=fun y hy=>⟨(hb y hy).1,i.pl y hy⟩;have hk:=hx.kind h0;have hn:0≤x.n∧x.n<4611686018427387904:=by
  by_cases hk1:x.kind=1
  ·rw[hx.none hk1];omega
  ·have:=hx.n hk1 h0;omega
 refine⟨e1,e2,e3,?_,?_,?_⟩ <;>unfold doJ;all_goals
  have kl:∀ n:Int,n=x.n→tot (ed l x.farm n)≤B∧(∀ y∈ed l x.farm n,PlC R F y)∧(ed l x.farm n).length≤N+256:=fun n e=>by
   subst e;obtain⟨_,_,e⟩:=uN x l hn.1 hn.2 hL i.d.s hmB;obtain⟨q1,q2,q3⟩:=xg x.farm l x.n hn.1 hp;rw[e];refine⟨?_,fun y hy=>q2 y (List.mem_filter.1 hy).1,?_⟩
   ·rw[vB];have:=i.tt;omega
   ·have:=List.length_filter_le (fun y=>!av y) (oe x.farm x.n l);omega
  have kg:x.kind=3→tot (hM l x.farm x.other x.n)≤B∧(∀ y∈hM l x.farm x.other x.n,PlC R F y)∧(hM l x.farm x.other x.n).length≤N+256:=fun hk3=>by
   have ho:=hx.other (by omega);obtain⟨_,e⟩:=wU l x.farm x.other x.n hB (by omega) hn.1 hn.2 hb;obtain⟨q1,q2,q3,q4,q5⟩:=A7 (R:=R) (F:=F) (f:=x.farm) (o:=x.other) ⟨ho.1,by omega⟩ l.reverse x.n [] [] hn.1 (fun y hy=>hp y (by simpa using hy)) (fun y hy=>by cases hy) (fun y hy=>by cases hy);obtain⟨p1,p2,p3⟩:=z6 (R:=R) (F:=F) (gv x.farm x.other l.reverse x.n [] []).2 (gv x.farm x.other l.reverse x.n [] []).1 q2 q3;have hrv:∀ m:List Claim,tot m.reverse=tot m:=fun m=>by
    induction m with
    |nil=>rfl
    |cons a m ih=>rw[List.reverse_cons,A6,ih];simp only[tot];omega
   have hfw:=i.few hR x.farm;rw[e];refine⟨?_,p2,?_⟩
   ·rw[p1,q1,hrv];have:=i.tt;simp only[tot];omega
   ·rw[List.filter_reverse,List.length_reverse]at q5;rw[List.length_reverse]at q4;simp only[List.length_nil]at q4 q5;omega
  have kn:tot l≤B∧(∀ y∈l,PlC R F y)∧l.length≤N+256:=⟨i.tt,i.pl,by omega⟩
 ·split
  ·exact(kl 0 (hx.none (by assumption)).symm).2.1
  ·split
   ·exact(kl _ rfl).2.1
   ·split
    ·exact(kg (by assumption)).2.1
    ·exact kn.2.1
 ·split
  ·exact(kl 0 (hx.none (by assumption)).symm).1
  ·split
   ·exact(kl _ rfl).1
   ·split
    ·exact(kg (by assumption)).1
    ·exact kn.1
 ·split
  ·exact(kl 0 (hx.none (by assumption)).symm).2.2
  ·split
   ·exact(kl _ rfl).2.2
   ·split
    ·exact(kg (by assumption)).2.2
    ·exact kn.2.2
end
def doH (j:List Judgement)(h:Int)(l:List Claim):List Claim:=(j.filter fun x=>bg j x h).foldl (fun s x=>doJ x s) l
def exS (j:List Judgement):Nat→List Claim→List Claim
 |0,_=>[]
 |_+1,[] =>[]
 |n+1,y::r=>doH j y.hour (y::r.takeWhile fun z=>z.hour==y.hour)++exS j n (r.dropWhile fun z=>z.hour==y.hour)
section
variable {ρ:Int→Int}{h R F B:Int}{N:Nat}
theorem J8:∀ m:List Claim,tot m.reverse=tot m
 | [] =>rfl
 |a::m=>by rw[List.reverse_cons,A6,J8 m];simp only[tot];omega
theorem zg {nm:Int→Bool}{f:Int}(hf:nm f=true):∀ (l:List Claim) (n:Int),(oe f n l).filter (fun y=>!nm y.farm)=l.filter fun y=>!nm y.farm
 | [],_=>rfl
 |x::r,n=>by
  unfold oe;by_cases e:x.farm=f
  ·rw[if_pos e,List.filter_cons_of_neg (by simp[l9,e,hf]),List.filter_cons_of_neg (by simp[e,hf]),zg hf]
  ·rw[if_neg e];by_cases e2:nm x.farm=true
   ·rw[List.filter_cons_of_neg (by simp[e2]),List.filter_cons_of_neg (by simp[e2]),zg hf]
   ·have e2:nm x.farm=false:=by simpa using e2
    rw[List.filter_cons_of_pos (by simp[e2]),List.filter_cons_of_pos (by simp[e2]),zg hf]
theorem Fu (nm:Int→Bool):∀ (l:List Claim) (r p:Int),amt (l.filter fun y=>!nm y.farm) r p=if nm p=true then 0 else amt l r p
 | [],r,p=>by simp[amt]
 |x::l,r,p=>by
  have ih:=Fu nm l r p;by_cases e:nm x.farm=true
  ·rw[List.filter_cons_of_neg (by simp[e]),ih];split
   ·rfl
   ·rename_i hp;have:¬ (x.right=r∧x.farm=p):=fun q=>hp (by rw[←q.2];exact e);rw[amt,if_neg this];omega
  ·have e':nm x.farm=false:=by simpa using e
   rw[List.filter_cons_of_pos (by simp[e']),amt,ih,amt];by_cases hp:nm p=true
   ·have:¬ (x.right=r∧x.farm=p):=fun q=>e (by rw[q.2];exact hp);rw[if_pos hp,if_pos hp,if_neg this];rfl
   ·rw[if_neg hp,if_neg hp]
theorem Dock.filter {l:List Claim}(d:Dock ρ h l)(p:Claim→Bool):Dock ρ h (l.filter p):=
 ⟨d.s.sublist List.filter_sublist,fun y hy=>d.rk y (List.mem_filter.1 hy).1,fun y hy=>d.hr y (List.mem_filter.1 hy).1,fun y hy=>d.pos y (List.mem_filter.1 hy).1⟩
theorem Lz {dd:District}{x:Judgement}(hx:JOk dd x)(h0:x.of_=0){l:List Claim}(i:InvD ρ h R F B N l)(hB:0≤B∧B≤4398046511104)(hN:N≤8192)(hd:Dock ρ h (doJ x l)):
  (∀ nm:Int→Bool,nm x.farm=true→(3≤x.kind→nm x.other=true)→(doJ x l).filter (fun y=>!nm y.farm)=l.filter fun y=>!nm y.farm)∧tot (doJ x l)≤tot l∧(x.kind≠1→x.kind≠2→tot (doJ x l)=tot l):=by
 have hlen:=i.len;have hb:=i.lit;have hL:Lit l:=fun y hy=>by have:=hb y hy;omega
 have hmB:l.length*40≤dC:=by unfold dC;omega
 have hp:∀ y∈l,0≤y.litres∧PlC R F y:=fun y hy=>⟨(hb y hy).1,i.pl y hy⟩;have hk:=hx.kind h0;have hn:0≤x.n∧x.n<4611686018427387904:=by
  by_cases hk1:x.kind=1
  ·rw[hx.none hk1];omega
  ·have:=hx.n hk1 h0;omega
 have nz:(l.filter fun y=>!av y)=l:=List.filter_eq_self.2 fun y hy=>by
  have:=i.d.pos y hy;unfold av;simp;omega
 have kl:∀ n:Int,n=x.n→(∀ nm:Int→Bool,nm x.farm=true→(ed l x.farm n).filter (fun y=>!nm y.farm)=l.filter fun y=>!nm y.farm)∧tot (ed l x.farm n)≤tot l:=fun n e=>by
  subst e;obtain⟨_,_,e⟩:=uN x l hn.1 hn.2 hL i.d.s hmB;refine⟨fun nm hf=>?_,?_⟩
  ·rw[e,List.filter_filter];have:(fun a=>(!nm a.farm&& !av a))=fun a:Claim=>(!av a&& !nm a.farm):=by funext a;exact Bool.and_comm _ _
   rw[this,←List.filter_filter,zg hf,List.filter_filter];have:(fun a=>(!av a&& !nm a.farm))=fun a:Claim=>(!nm a.farm&& !av a):=by funext a;exact Bool.and_comm _ _
   rw[this,←List.filter_filter,nz]
  ·rw[e,vB];exact(xg x.farm l x.n hn.1 hp).1
 unfold doJ at hd ⊢;by_cases k1:x.kind=1
 ·rw[if_pos k1];obtain⟨q1,q2⟩:=kl 0 (hx.none k1).symm;exact⟨fun nm a _=>q1 nm a,q2,fun a=>absurd k1 a⟩
 rw[if_neg k1]at hd ⊢;by_cases k2:x.kind=2
 ·rw[if_pos k2];obtain⟨q1,q2⟩:=kl x.n rfl;exact⟨fun nm a _=>q1 nm a,q2,fun _ a=>absurd k2 a⟩
 rw[if_neg k2]at hd ⊢;by_cases k3:x.kind=3
 ·rw[if_pos k3]at hd ⊢;have ho:=hx.other (by omega);obtain⟨_,e⟩:=wU l x.farm x.other x.n hB (by omega) hn.1 hn.2 hb;have q:=A7 (R:=R) (F:=max F (x.other+1)) (f:=x.farm) (o:=x.other) ⟨ho.1,by omega⟩ l.reverse x.n [] [] hn.1 (fun y hy=>⟨(hp y (by simpa using hy)).1,(hp y (by simpa using hy)).2.1,(hp y (by simpa using hy)).2.2.1,by have:=(hp y (by simpa using hy)).2.2.2;omega⟩) (fun y hy=>by cases hy) (fun y hy=>by cases hy);have p1:=(z6 (R:=R) (F:=max F (x.other+1)) (gv x.farm x.other l.reverse x.n [] []).2 (gv x.farm x.other l.reverse x.n [] []).1 q.2.1 q.2.2.1).1;have hR:∀ y∈l.reverse,y.rank=ρ y.right∧y.hour=h∧0≤y.litres:=fun y hy=>by
   have hy:y∈l:=by simpa using hy
   have:=i.d.pos y hy;exact⟨i.d.rk y hy,i.d.hr y hy,by omega⟩
  obtain⟨g1,g2,g3⟩:=Fq (ρ:=ρ) (h:=h) (f:=x.farm) (o:=x.other) l.reverse x.n [] [] hn.1 hR ⟨List.Pairwise.nil,(fun y hy=>by cases hy),(fun y hy=>by cases hy),(fun y hy=>by cases hy)⟩ ⟨(fun y hy=>by cases hy),(fun y hy=>by cases hy),(fun y hy=>by cases hy),(fun y hy=>by cases hy)⟩;obtain⟨_,g5⟩:=Ft _ _ g1 g2;have ht:tot (hM l x.farm x.other x.n)=tot l:=by
   rw[e,p1,q.1,J8];simp only[tot];omega
  refine⟨fun nm a1 a2=>?_,by omega,fun _ _=>ht⟩;refine zY (hd.filter _) (i.d.filter _) fun r p=>?_;rw[Fu,Fu];split
  ·rfl
  ·rename_i hnp;have n1:p≠x.farm:=fun q=>hnp (by rw[q];exact a1);have n2:p≠x.other:=fun q=>hnp (by rw[q];exact a2 (by omega));have g4:=g3 r p;rw[if_neg n1,if_neg n1]at g4;rw[e,g5,za (l:=(gv x.farm x.other l.reverse x.n [] []).2) (fun y hy q=>n2 (by rw[←q.2];exact g2.fm y hy))];have:amt l.reverse r p=amt l r p:=CO (List.reverse_perm l) r p;simp only[amt]at g4;omega
 ·rw[if_neg k3]at hd ⊢;exact⟨fun _ _ _=>rfl,Int.le_refl _,fun _ _=>rfl⟩
theorem J9 {dd:District}(a2:List Judgement)(s_0:List Claim×List Claim)(hR:R≤256)(hF:(dd.farms.length:Int)=F)(hB:0≤B∧B≤4398046511104):∀ (L:List Judgement) (N:Nat) (l:List Claim),(∀ x∈L,JOk dd x∧x.of_=0)→InvD ρ h R F B N l→N+256*L.length≤8192→
  (okL (aT a2 s_0) (cp a2 s_0) L l∧nI (aT a2 s_0) L l=.inr (L.foldl (fun s x=>doJ x s) l))∧InvD ρ h R F B (N+256*L.length) (L.foldl (fun s x=>doJ x s) l)∧
  (∀ nm:Int→Bool,(∀ x∈L,nm x.farm=true∧(3≤x.kind→nm x.other=true))→(L.foldl (fun s x=>doJ x s) l).filter (fun y=>!nm y.farm)=l.filter fun y=>!nm y.farm)∧tot (L.foldl (fun s x=>doJ x s) l)≤tot l∧((∀ x∈L,x.kind≠1∧x.kind≠2)→tot (L.foldl (fun s x=>doJ x s) l)=tot l)
 | [],N,l,_,i,_=>⟨⟨trivial,rfl⟩,by simpa using i,fun _ _=>rfl,Int.le_refl _,fun _=>rfl⟩
 |x::L,N,l,hx,i,hN=>by
  have h1:=hx x (by simp);simp only[List.length_cons]at hN ⊢;obtain⟨e1,e2,e3⟩:=i.step h1.1 h1.2 hR hF hB (by omega) a2 s_0;obtain⟨f1,f2,f3⟩:=Lz h1.1 h1.2 i hB (by omega) e3.d;obtain⟨⟨q1,q2⟩,q3,q4,q5,q6⟩:=J9 a2 s_0 hR hF hB L (N+256) (doJ x l) (fun y hy=>hx y (by simp[hy])) e3 (by omega);rw[List.foldl_cons];refine⟨⟨⟨e2,fun s' e=>?_⟩,?_⟩,?_,fun nm hnm=>?_,by omega,fun hk=>?_⟩
  ·rw[e1]at e;cases e;exact q1
  ·simp only[nI,e1];exact q2
  ·rw[show N+256*(L.length+1)=N+256+256*L.length by omega];exact q3
  ·rw[q4 nm (fun y hy=>hnm y (by simp[hy]))];have:=hnm x (by simp);exact f1 nm this.1 this.2
  ·rw[q6 fun y hy=>hk y (by simp[hy])];have:=hk x (by simp);exact f3 this.1 this.2
end
theorem LA (j:List Judgement)(h:Int):gz j h ((aO j h).map ue):=by
 have e:=qt j h;have key:∀ (R A:List Judgement) (k:Nat) (s:List Judgement),j=A++R→A.length=k→s=(A.filter fun x=>bg j x h)→
   okI (c6 j h) (fq j h ((aO j h).map ue)) R.length k s:=fun R=>by
  induction R with
  |nil=>exact fun A k s _ _ _=>trivial
  |cons y R ih=>
   intro A k s hj hk hs;have g:j.getD k default=y:=by rw[hj];exact il A y default R hk.symm
   have hj':j=(A++[y])++R:=by rw[hj];simp
   refine⟨?_,fun s' e'=>?_⟩
   ·unfold fq;rw[g,zZ];refine⟨fun hc=>?_,fun hc=>?_⟩
    ·rw[e];have hm:(j.filter fun x=>bg j x h)=s++y::(R.filter fun x=>bg j x h):=by
      have:(j.filter fun x=>bg j x h)=((A++y::R).filter fun x=>bg j x h):=by rw[←hj]
      rw[this,List.filter_append,List.filter_cons_of_pos (by exact hc),←hs]
     rw[hm];simp
    ·exact hc
   ·unfold c6 at e';rw[g,zZ]at e';refine ih (A++[y]) (k+1) s' hj' (by simp[hk]) ?_;cases hc:bg j y h with
    |true=>
     rw[hc]at e';simp only[cond_true,Sum.inr.injEq]at e';rw[List.filter_append,List.filter_cons_of_pos (by exact hc),←hs,←e'];rfl
    |false=>
     rw[hc]at e';simp only[cond_false,Sum.inr.injEq]at e';rw[List.filter_append,List.filter_cons_of_neg (by rw[hc];simp),←hs,←e'];simp
 intro _;refine⟨key j [] 0 [] rfl rfl rfl,fun s hs=>?_⟩;rw[tS j h j [] 0 [] rfl rfl]at hs;simp only[Sum.inr.injEq]at hs;rw[←hs,e];simp
structure Given (d:District)(j:List Judgement)(c:List Claim):Prop where
 js:∀ x∈j,JOk d x
 jl:j.length≤20
 cs:∀ x∈c,FineC d x
 st:c.Pairwise y5
 cl:c.length≤300
 rl:d.rights.length≤256
theorem Given.sub {d:District}{j:List Judgement}{c c':List Claim}(g:Given d j c)(h:c'.Sublist c):Given d j c':=
 ⟨g.js,g.jl,fun x hx=>g.cs x (h.subset hx),g.st.sublist h,Nat.le_trans h.length_le g.cl,g.rl⟩
def rho (d:District)(r:Int):Int:=(d.rights.getD r.toNat default).rank
def Hi:Int:=322122547200
theorem Oc {b:Int}(hb:0≤b):∀ {l:List Claim},(∀ y∈l,y.litres≤b)→∀ {n:Nat},l.length≤n→tot l≤n*b
 | [],_,n,_=>by
  have:=Int.mul_nonneg (show 0≤(n:Int) by omega) hb;simpa[tot]using this
 |x::l,h,n,hn=>by
  have h1:=h x (by simp);obtain⟨m,rfl⟩:∃ m,n=m+1:=⟨n - 1,by simp only[List.length_cons]at hn;omega⟩;have:=Oc hb (l:=l) (fun y hy=>h y (by simp[hy])) (n:=m) (by simp only[List.length_cons]at hn;omega);have e:((m+1:Nat):Int)*b=m*b+b:=QT m b;rw[tot,e];omega
theorem Od {a b:Claim}(h:y5 a b)(e:a.hour=b.hour):tlt a b:=by
 unfold y5 t8 at h;rcases h with h|h
 ·omega
 ·exact h.2
theorem Given.start {d:District}{j:List Judgement}{c:List Claim}(g:Given d j c){h:Int}(hh:∀ x∈c,x.hour=h):InvD (rho d) h d.rights.length d.farms.length Hi 300 c:=by
 refine⟨⟨?_,fun y hy=>(g.cs y hy).rank.symm,hh,fun y hy=>by have:=(g.cs y hy).l0;omega⟩,fun y hy=>?_,?_,g.cl⟩
 ·exact g.st.imp_of_mem fun {a b} ha hb hab=>Od hab (by rw[hh a ha,hh b hb])
 ·have:=g.cs y hy;exact⟨⟨this.r0,this.r1⟩,this.f0,this.f1⟩
 ·have:=Oc (b:=1073741824) (by omega) (fun y hy=>(g.cs y hy).l1) g.cl;unfold Hi;omega
theorem Given.hour {d:District}{j:List Judgement}{c:List Claim}(g:Given d j c){h:Int}(hh:∀ x∈c,x.hour=h)(a2:List Judgement)(s_0:List Claim×List Claim):
  (okL (aT a2 s_0) (cp a2 s_0) (aO j h) c∧nI (aT a2 s_0) (aO j h) c=.inr (doH j h c))∧InvD (rho d) h d.rights.length d.farms.length Hi 5420 (doH j h c)∧
  (∀ nm:Int→Bool,(∀ x∈j,x.of_=0→nm x.farm=true∧(3≤x.kind→nm x.other=true))→(doH j h c).filter (fun y=>!nm y.farm)=c.filter fun y=>!nm y.farm)∧tot (doH j h c)≤tot c∧((∀ x∈j,x.of_=0→x.kind≠1∧x.kind≠2)→tot (doH j h c)=tot c):=by
 have hin:∀ x∈aO j h,x∈j∧x.of_=0:=fun x hx=>by
  rw[qt]at hx;have:=List.mem_filter.1 hx;exact⟨this.1,yk this.2⟩
 have hlen:(aO j h).length≤20:=by
  rw[qt];have:=List.length_filter_le (fun x=>bg j x h) j;have:=g.jl;omega
 obtain⟨q1,q2,q3,q4,q5⟩:=J9 a2 s_0 (by have:=g.rl;omega) rfl (by unfold Hi;omega) (aO j h) 300 c (fun x hx=>⟨g.js x (hin x hx).1,(hin x hx).2⟩) (g.start hh) (by omega);have e:doH j h c=(aO j h).foldl (fun s x=>doJ x s) c:=by rw[qt];rfl
 rw[e];refine⟨q1,⟨q2.d,q2.pl,q2.tt,?_⟩,fun nm hnm=>q3 nm fun x hx=>hnm x (hin x hx).1 (hin x hx).2,q4,fun hk=>q5 fun x hx=>hk x (hin x hx).1 (hin x hx).2⟩;have:=q2.len;omega
theorem J_ {q:Claim→Bool}:∀ {K:List Claim} {x:Claim} {R:List Claim},(∀ y∈K,q y=true)→q x=false→(K++x::R).takeWhile q=K∧(K++x::R).dropWhile q=x::R
 | [],x,R,_,hx=>by
  rw[List.nil_append,List.takeWhile_cons_of_neg (by rw[hx];simp),List.dropWhile_cons_of_neg (by rw[hx];simp)];exact⟨rfl,rfl⟩
 |y::K,x,R,h,hx=>by
  obtain⟨p1,p2⟩:=J_ (R:=R) (fun z hz=>h z (List.mem_cons_of_mem _ hz)) hx;rw[List.cons_append,List.takeWhile_cons_of_pos (h y (by simp)),List.dropWhile_cons_of_pos (h y (by simp)),p1,p2];exact⟨rfl,rfl⟩
theorem Hj {q:Claim→Bool}:∀ {K:List Claim},(∀ y∈K,q y=true)→K.takeWhile q=K∧K.dropWhile q=[]
 | [],_=>⟨rfl,rfl⟩
 |y::K,h=>by
  obtain⟨p1,p2⟩:=Hj fun z hz=>h z (List.mem_cons_of_mem _ hz);rw[List.takeWhile_cons_of_pos (h y (by simp)),List.dropWhile_cons_of_pos (h y (by simp)),p1,p2];exact⟨rfl,rfl⟩
theorem Yl (y:Claim)(r:List Claim):cI (y::r) (y::r)∧(bif(decide ((ag (y::r) (y::r)) <0))then((y::r).length:Int)else(ag (y::r) (y::r)))=((y::r.takeWhile fun z=>z.hour==y.hour).length:Int):=by
 refine⟨fun _=>lT _ _ _ fun k _ _ _=>⟨by omega,by simp only[List.length_cons];omega⟩,?_⟩;unfold ag;rcases y8 (step:=cC (y::r) (y::r)) (y::r) default (fun z=>!(z.hour==y.hour)) (fun k _=>rfl)with⟨e,h⟩ | ⟨K,x,T,h1,e,h2,h3⟩
 ·rw[e];obtain⟨p1,_⟩:=Hj (q:=fun z=>z.hour==y.hour) (K:=r) fun z hz=>by have:=h z (by simp[hz]);simpa using this
  rw[p1];rfl
 ·rw[e];have hd:decide ((K.length:Int) <0)=false:=decide_eq_false (by omega);simp only[hd,cond_false];cases K with
  |nil=>
   simp only[List.nil_append,List.cons.injEq]at h1;rw[←h1.1]at h2;simp at h2
  |cons k K=>
   simp only[List.cons_append,List.cons.injEq]at h1;obtain⟨p1,_⟩:=J_ (q:=fun z=>z.hour==y.hour) (K:=K) (x:=x) (R:=T) (fun z hz=>by have:=h3 z (by simp[hz]);simpa using this) (by simpa using h2);rw[h1.2,p1];simp
theorem z7 (q:Claim→Bool):∀ r:List Claim,r.take (r.takeWhile q).length=r.takeWhile q∧r.drop (r.takeWhile q).length=r.dropWhile q
 | [] =>⟨rfl,rfl⟩
 |x::r=>by
  obtain⟨p1,p2⟩:=z7 q r;by_cases h:q x=true
  ·rw[List.takeWhile_cons_of_pos h,List.dropWhile_cons_of_pos h];rw[List.length_cons,List.take_succ_cons,List.drop_succ_cons,p1,p2];exact⟨rfl,rfl⟩
  ·rw[List.takeWhile_cons_of_neg h,List.dropWhile_cons_of_neg h];exact⟨rfl,rfl⟩
theorem Eh (q:Claim→Bool):∀ (r:List Claim),∀ x∈r.takeWhile q,q x=true
 | [],x,hx=>by cases hx
 |y::r,x,hx=>by
  by_cases h:q y=true
  ·rw[List.takeWhile_cons_of_pos h]at hx;rcases List.mem_cons.1 hx with rfl|hx
   ·exact h
   ·exact Eh q r x hx
  ·rw[List.takeWhile_cons_of_neg h]at hx;cases hx
section
variable {d:District}{j:List Judgement}
theorem Given.head {y:Claim}{r:List Claim}(g:Given d j (y::r)):Given d j (y::r.takeWhile fun z=>z.hour==y.hour)∧(∀ x∈(y::r.takeWhile fun z=>z.hour==y.hour),x.hour=y.hour)∧Given d j (r.dropWhile fun z=>z.hour==y.hour)∧(r.takeWhile fun z=>z.hour==y.hour).length+(r.dropWhile fun z=>z.hour==y.hour).length=r.length:=by
 refine⟨g.sub (List.Sublist.cons_cons _ (List.takeWhile_sublist _)),fun x hx=>?_,g.sub ((List.dropWhile_sublist _).trans (List.sublist_cons_self _ _)),?_⟩
 ·rcases List.mem_cons.1 hx with rfl|hx
  ·rfl
  ·simpa using Eh _ r x hx
 ·rw[←List.length_append,List.takeWhile_append_dropWhile]
theorem Hk (a1:List Claim):∀ (k i:Nat) (R acc:List Claim),R.length<k→Given d j R→acc.length+5420*R.length≤1626000→
  okI (bU a1 j) (f_ a1 j) k i (R,acc)∧ay (bU a1 j) k i (R,acc)=.inl (acc++exS j k R)
 |0,_,_,_,hk,_,_=>absurd hk (Nat.not_lt_zero _)
 |k+1,i,[],acc,_,_,_=>by
  refine⟨⟨fun _ h=>?_,fun s' e=>?_⟩,?_⟩
  ·have:=of_decide_eq_true h;simp at this
  ·cases e
  ·simp[ay,bU,exS]
 |k+1,i,y::r,acc,hk,g,hl=>by
  obtain⟨c1,c2⟩:=Yl y r;obtain⟨g1,g2,g3,g4⟩:=g.head;obtain⟨⟨q1,q2⟩,q3,_⟩:=g1.hour g2 j (y::r,acc);obtain⟨t1,t2⟩:=z7 (fun z=>z.hour==y.hour) r;have hd:decide (((y::r).length:Int) > 0)=true:=decide_eq_true (by simp only[List.length_cons];omega);have e1:((y::r).take (Int.toNat (((y::r.takeWhile fun z=>z.hour==y.hour).length:Nat):Int))).drop 0=y::r.takeWhile fun z=>z.hour==y.hour:=by
   rw[Int.toNat_natCast,List.length_cons,List.take_succ_cons,t1];rfl
  have e2:((y::r).take (Int.toNat ((y::r).length:Int))).drop (Int.toNat (((y::r.takeWhile fun z=>z.hour==y.hour).length:Nat):Int))=r.dropWhile fun z=>z.hour==y.hour:=by
   rw[Int.toNat_natCast,Int.toNat_natCast,List.take_length,List.length_cons,List.drop_succ_cons,t2]
  have g0:(y::r).getD 0 default=y:=rfl;have hstep:bU a1 j i (y::r,acc)=.inr (r.dropWhile (fun z=>z.hour==y.hour),acc++doH j y.hour (y::r.takeWhile fun z=>z.hour==y.hour)):=by
   simp only[bU,hd,cond_true,c2,e1,e2,g0,q2]
  have hlen:=q3.len;have hcl:=g.cl;simp only[List.length_cons]at hk hl hcl;obtain⟨r1,r2⟩:=Hk a1 k (i+1) (r.dropWhile fun z=>z.hour==y.hour) (acc++doH j y.hour (y::r.takeWhile fun z=>z.hour==y.hour)) (by omega) g3 (by rw[List.length_append];omega);refine⟨⟨fun _ _=>?_,fun s' e=>?_⟩,?_⟩
  ·rw[c2,e1,g0];refine⟨c1,⟨by omega,by omega,by simp only[List.length_cons];omega⟩,?_,⟨by omega,by simp only[List.length_cons];omega⟩,LA j y.hour,q1,fun s_1 hs=>?_⟩
   ·simp only[List.length_cons];unfold dC;omega
   ·rw[q2]at hs;simp only[Sum.inr.injEq]at hs;subst hs;refine⟨by show(acc++doH j y.hour (y::r.takeWhile fun z=>z.hour==y.hour)).length*40≤dC;rw[List.length_append];unfold dC;omega,fun _=>⟨by omega,by simp only[List.length_cons];omega,by omega⟩⟩
  ·rw[hstep]at e;simp only[Sum.inr.injEq]at e;subst e;exact r1
  ·simp only[ay,hstep];rw[r2,exS,List.append_assoc]
theorem CT (g:∀ x∈j,JOk d x)(hr:d.rights.length≤256)(h:Int)(l0:List Claim):∀ (R A:List Judgement) (k N:Nat) (s:List Claim),j=A++R→A.length=k→InvD (rho d) h d.rights.length d.farms.length Hi N s→N+256*R.length≤8192→okI (jq j h) (ox j h) R.length k s
 | [],_,_,_,_,_,_,_,_=>trivial
 |y::R,A,k,N,s,hj,hk,i,hN=>by
  have gd:j.getD k default=y:=by rw[hj];exact il A y default R hk.symm
  have hj':j=(A++[y])++R:=by rw[hj];simp
  simp only[List.length_cons]at hN;have hy:=g y (by rw[hj];simp);have hb:=i.lit;have hlen:=i.len;have hB:(0:Int)≤Hi∧Hi≤4398046511104:=by unfold Hi;omega
  have hL:Lit s:=fun y hy=>by have:=hb y hy;omega
  have hmB:s.length*40≤dC:=by unfold dC;omega
  have hp:=fun(h0:y.of_=0) =>i.step hy h0 (by omega) rfl hB (by omega) j (s,s);refine⟨fun _ hc=>?_,fun s' e=>?_⟩
  ·rw[gd]at hc ⊢;have h0:y.of_=0:=yk (by simpa using hc);have hn:0≤y.n∧y.n<4611686018427387904:=by
    by_cases hk1:y.kind=1
    ·rw[hy.none hk1];omega
    ·have:=hy.n hk1 h0;omega
   have kl:=(uN y s hn.1 hn.2 hL i.d.s hmB).1.2.2;refine⟨fun k1=>?_,fun _=>⟨fun _=>kl,fun _ k3=>?_⟩⟩
   ·have k1:y.kind=1:=by simpa using k1
    rw[hy.none k1]at kl;exact kl
   ·have k3:y.kind=3:=by simpa using k3
    exact(J7 y s (hy.other (by omega)).2.2 hB i.d hb (by omega) hn.1 hn.2).1.2.2
  ·rw[Eg j h y k s gd]at e;simp only[Sum.inr.injEq]at e;subst e;refine CT g hr h l0 R (A++[y]) (k+1) (N+256) _ hj' (by simp[hk]) ?_ (by omega);by_cases hc:bg j y h=true
   ·rw[if_pos hc];exact(hp (yk hc)).2.2
   ·rw[if_neg hc];exact⟨i.d,i.pl,i.tt,by omega⟩
theorem Fv (a1 acc A:List Claim)(y:Claim)(r:List Claim)(ha:a1=A++y::r)(hm:a1.length<1000):∀ (T K:List Claim) (n i:Nat),y::r=K++T→(∀ x∈K,x.hour=y.hour)→T.length<n→
  okI (bN a1 (acc,(A.length:Int))) (iD a1 (acc,(A.length:Int))) n i ((A.length+K.length:Nat):Int)∧ay (bN a1 (acc,(A.length:Int))) n i ((A.length+K.length:Nat):Int)=.inl ((A.length+(K++T.takeWhile fun z=>z.hour==y.hour).length:Nat):Int)
 |T,K,0,_,_,_,hn=>absurd hn (Nat.not_lt_zero _)
 |T,K,n+1,i,hT,hK,hn=>by
  have ga:a1.getD A.length default=y:=by rw[ha];exact il A y default r rfl
  have hla:a1.length=A.length+(K.length+T.length):=by rw[ha,hT];simp
  have hpos:0< (K++T).length:=by rw[←hT];simp
  rw[List.length_append]at hpos;refine⟨⟨fun _=>⟨fun h=>?_,fun _=>⟨by omega,?_⟩⟩,fun s' e=>?_⟩,?_⟩
  ·have:=of_decide_eq_true h;exact⟨by omega,this⟩
  ·show(A.length:Int) <_;omega
  ·cases T with
   |nil=>
    have hd:decide (((A.length+K.length:Nat):Int) < (a1.length:Int))=false:=decide_eq_false (by simp only[List.length_nil]at hla;omega);simp only[bN,hd,Bool.false_and,cond_false]at e;cases e
   |cons x T=>
    have gx:a1.getD (A.length+K.length) default=x:=by
     rw[ha,hT,←List.append_assoc];exact il (A++K) x default T (by simp)
    have hd:decide (((A.length+K.length:Nat):Int) < (a1.length:Int))=true:=decide_eq_true (by simp only[List.length_cons]at hla;omega);simp only[bN,hd,Bool.true_and,Int.toNat_natCast,gx,ga]at e;cases hx:x.hour==y.hour with
    |false=>rw[hx]at e;cases e
    |true=>
     rw[hx,gG (by omega) (by omega)]at e;simp only[cond_true,Sum.inr.injEq]at e;have:=Fv a1 acc A y r ha hm T (K++[x]) n (i+1) (by rw[hT];simp) (fun z hz=>by
      rcases List.mem_append.1 hz with hz|hz
      ·exact hK z hz
      ·rw[List.mem_singleton.1 hz];simpa using hx) (by simp only[List.length_cons]at hn;omega)
     rw[List.length_append,List.length_singleton]at this;rw[←e,show((A.length+K.length:Nat):Int)+1=((A.length+(K.length+1):Nat):Int) by omega];exact this.1
  ·cases T with
   |nil=>
    have hd:decide (((A.length+K.length:Nat):Int) < (a1.length:Int))=false:=decide_eq_false (by simp only[List.length_nil]at hla;omega);simp only[ay,bN,hd,Bool.false_and,cond_false];simp
   |cons x T=>
    have gx:a1.getD (A.length+K.length) default=x:=by
     rw[ha,hT,←List.append_assoc];exact il (A++K) x default T (by simp)
    have hd:decide (((A.length+K.length:Nat):Int) < (a1.length:Int))=true:=decide_eq_true (by simp only[List.length_cons]at hla;omega);simp only[ay,bN,hd,Bool.true_and,Int.toNat_natCast,gx,ga];cases hx:x.hour==y.hour with
    |false=>
     simp only[cond_false];rw[List.takeWhile_cons_of_neg (by rw[hx];simp)];simp
    |true=>
     simp only[cond_true];rw[gG (by omega) (by omega)];have:=Fv a1 acc A y r ha hm T (K++[x]) n (i+1) (by rw[hT];simp) (fun z hz=>by
      rcases List.mem_append.1 hz with hz|hz
      ·exact hK z hz
      ·rw[List.mem_singleton.1 hz];simpa using hx) (by simp only[List.length_cons]at hn;omega)
     rw[List.length_append,List.length_singleton]at this;rw[show((A.length+K.length:Nat):Int)+1=((A.length+(K.length+1):Nat):Int) by omega];rw[this.2,List.takeWhile_cons_of_pos (by exact hx)];simp
theorem Ka (a1:List Claim)(hm:a1.length≤300):∀ (k i:Nat) (R A acc:List Claim),a1=A++R→R.length<k→Given d j R→acc.length+5420*R.length≤1626000→
  okI (bp a1 j) (iE a1 j) k i (acc,(A.length:Int))∧ay (bp a1 j) k i (acc,(A.length:Int))=.inl (acc++exS j k R)
 |0,_,_,_,_,_,hk,_,_=>absurd hk (Nat.not_lt_zero _)
 |k+1,i,[],A,acc,ha,_,_,_=>by
  have hd:decide ((A.length:Int) < (a1.length:Int))=false:=decide_eq_false (by rw[ha];simp);refine⟨⟨fun _ h=>?_,fun s' e=>?_⟩,?_⟩
  ·rw[hd]at h;cases h
  ·simp only[bp,hd,cond_false]at e;cases e
  ·simp only[ay,bp,hd,cond_false,exS];simp
 |k+1,i,y::r,A,acc,ha,hk,g,hl=>by
  obtain⟨g1,g2,g3,g4⟩:=g.head;obtain⟨⟨q1,q2⟩,q3,_⟩:=g1.hour g2 j (y::r,acc);have hla:a1.length=A.length+(r.length+1):=by rw[ha];simp
  have hd:decide ((A.length:Int) < (a1.length:Int))=true:=decide_eq_true (by omega);have hc:=Fv a1 acc A y r ha (by omega) (y::r) [] (a1.length+1) 0 rfl (fun x hx=>by cases hx) (by simp only[List.length_cons];omega);rw[List.nil_append,List.takeWhile_cons_of_pos (by simp)]at hc;have c1:okI (bN a1 (acc,(A.length:Int))) (iD a1 (acc,(A.length:Int))) (a1.length+1) 0 (A.length:Int):=hc.1;have c2:ay (bN a1 (acc,(A.length:Int))) (a1.length+1) 0 (A.length:Int)=.inl ((A.length+(y::r.takeWhile fun z=>z.hour==y.hour).length:Nat):Int):=hc.2;obtain⟨t1,t2⟩:=z7 (fun z=>z.hour==y.hour) r;have e1:(a1.take (Int.toNat ((A.length+(y::r.takeWhile fun z=>z.hour==y.hour).length:Nat):Int))).drop (Int.toNat (A.length:Int))=y::r.takeWhile fun z=>z.hour==y.hour:=by
   rw[Int.toNat_natCast,Int.toNat_natCast,ha,List.take_length_add_append,List.drop_left,List.length_cons,List.take_succ_cons,t1]
  have ga:a1.getD (Int.toNat (A.length:Int)) default=y:=by rw[Int.toNat_natCast,ha];exact il A y default r rfl
  have hh:mA (y::r.takeWhile fun z=>z.hour==y.hour) j y.hour=doH j y.hour (y::r.takeWhile fun z=>z.hour==y.hour):=by
   rw[QU,qt];rfl
  have hstep:bp a1 j i (acc,(A.length:Int))=.inr (acc++doH j y.hour (y::r.takeWhile fun z=>z.hour==y.hour),((A.length+(y::r.takeWhile fun z=>z.hour==y.hour).length:Nat):Int)):=by
   unfold bp;simp only[hd,cond_true];rw[c2];simp only[e1,ga,hh]
  have hlen:=q3.len;have hcl:=g.cl;simp only[List.length_cons]at hk hl hcl;have ha2:a1=(A++y::r.takeWhile fun z=>z.hour==y.hour)++r.dropWhile fun z=>z.hour==y.hour:=by
   rw[ha,List.append_assoc,List.cons_append,List.takeWhile_append_dropWhile]
  obtain⟨r1,r2⟩:=Ka a1 hm k (i+1) (r.dropWhile fun z=>z.hour==y.hour) (A++y::r.takeWhile fun z=>z.hour==y.hour) (acc++doH j y.hour (y::r.takeWhile fun z=>z.hour==y.hour)) ha2 (by omega) g3 (by rw[List.length_append];omega);rw[List.length_append]at r1 r2;refine⟨⟨fun _ _=>⟨c1,fun z hz=>?_,fun x hx=>?_⟩,fun s' e=>?_⟩,?_⟩
  ·have hz:ay (bN a1 (acc,(A.length:Int))) (a1.length+1) 0 (A.length:Int)=.inr z:=hz;rw[c2]at hz;cases hz
  ·have hx:ay (bN a1 (acc,(A.length:Int))) (a1.length+1) 0 (A.length:Int)=.inl x:=hx;rw[c2]at hx;simp only[Sum.inl.injEq]at hx;subst hx;show(0≤(A.length:Int)∧(A.length:Int)≤_∧_)∧(0≤(A.length:Int)∧(A.length:Int) <_)∧sq ((a1.take (Int.toNat _)).drop (Int.toNat (A.length:Int))) j (a1.getD (Int.toNat (A.length:Int)) default).hour∧(acc++mA ((a1.take (Int.toNat _)).drop (Int.toNat (A.length:Int))) j (a1.getD (Int.toNat (A.length:Int)) default).hour).length*40≤dC;rw[e1,ga];have hlj:=g.jl;refine⟨⟨by omega,by omega,?_⟩,⟨by omega,by omega⟩,?_,?_⟩
   ·simp only[List.length_cons];omega
   ·exact CT g.js g.rl y.hour [] j [] 0 300 _ rfl rfl (g1.start g2) (by omega)
   ·rw[hh,List.length_append];unfold dC;omega
  ·rw[hstep]at e;simp only[Sum.inr.injEq]at e;subst e;exact r1
  ·simp only[ay,hstep];rw[r2,exS,List.append_assoc]
end
def c8 (n:Int)(most:Int):Bool:=((decide (n≥0))&&(decide (n≤most)))
@[go_sem] def nM:List SV→Option Con:=(pI fun n=>(pI fun most=>(pE (.det True (.v (.bool (c8 n most)))))))
theorem rB:FnOk Tryz.prog 129 nM:=by
 have hG:ConsOk Tryz.prog (mkG [] []):=aq cg0 cg0;refine ax [.o] mixed ak hG (fn:=Tryz.f129) (c:=aa Tryz.f129) kr kr kr kr (bt fun n=>(bt fun most=>(ai (fun hp=>?_))));dsimp only[ar]at hp;refine⟨nbl rfl,L0,ah _,?_⟩
 ·unfold aa Tryz.f129;try unfold c8
  exact zq1
def ff (s_:Int)(t:Int):Bool:=((yp .u64 s_ t) ==0)
@[go_sem] def nN:List SV→Option Con:=(pU fun s_=>(pU fun t=>(pE (.det True (.v (.bool (ff s_ t)))))))
theorem rC:FnOk Tryz.prog 81 nN:=by
 have hG:ConsOk Tryz.prog (mkG [] []):=aq cg0 cg0;refine ax [.o] mixed ak hG (fn:=Tryz.f81) (c:=aa Tryz.f81) kr kr kr kr (Iz fun s_=>(Iz fun t=>(ai (fun hp=>?_))));dsimp only[ar]at hp;refine⟨nbl rfl,L0,ah _,?_⟩
 ·unfold aa Tryz.f81;try unfold ff
  exact zq1
@[go_sem] def qu (l_:List Int)(many:Int)(k_0:Nat)(s_0:Int×Int):Unit⊕(Int×Int):=(bif((decide ((l_.getD k_0 (0:Int))≤s_0.2)) ||(decide ((l_.getD k_0 (0:Int))≥many)))then .inl ()else .inr ((orI .u64 s_0.1 (LI .u64 1 (l_.getD k_0 (0:Int)))),(l_.getD k_0 (0:Int))))
def iH (l_:List Int)(many:Int)(k_0:Nat)(s_0:Int×Int):Prop:=(((decide ((l_.getD k_0 (0:Int))≤s_0.2)) ||(decide ((l_.getD k_0 (0:Int))≥many)))=false→0≤(l_.getD k_0 (0:Int)))
def aR (l_:List Int)(many:Int):Int×Bool:=(match ay (qu l_ many) l_.length 0 (0,(-1))with| .inl x_0_0=>(0,false) | .inr s_0=>(s_0.1,true))
def hU (l_:List Int)(many:Int):Prop:=(l_.length≤aJ→okI (qu l_ many) (iH l_ many) l_.length 0 (0,(-1)))
@[go_sem] def rW:List SV→Option Con:=(pR .int fun l_=>(pI fun many=>(pE (.det (hU l_ many) (.tup [.v (.int .u64 ((aR l_ many).1)),.v (.bool ((aR l_ many).2))])))))
theorem uO:FnOk Tryz.prog 130 rW:=by
 have hG:ConsOk Tryz.prog (mkG [] []):=aq cg0 cg0;refine ax [.o,.o] mixed ak hG (fn:=Tryz.f130) (c:=aa Tryz.f130) kr kr kr kr (a8 fun l_=>(bt fun many=>(ai (fun hp=>?_))));dsimp only[ar]at hp;unfold hU at hp;refine⟨nbl rfl,(fun id st=>bif Nat.beq id 0 then some (LCR (ρ:=Unit) (σ:=(Int×Int)) 0 [] [] (fun k_0 s_0=>⟨[(1,.v (.int .i64 many)),(4,.v (.int .u64 s_0.1)),(6,.v (.int .i64 s_0.2)),(9,.rs .int l_),(10,.v (.int .i64 (l_.length:Int))),(11,.v (.int .i64 (k_0:Int)))],[]⟩) (qu l_ many) (iH l_ many) l_.length (0,(-1)) (l_.length≤aJ) (fun _=>.ret) (fun x_0_0=>⟨[(4,.v (.int .u64 0)),(5,.v (.bool false))],[]⟩) st)else none),?_,?_⟩
 ·unfold aa Tryz.f130;simp only[ap,true_and,and_true]
  ·refine bf mixed ak hG kr (fun _=>rfl) (l_.length:Int) rfl fD (fun hb0 k_0 s_0 hlt0 hq0 hw hc=>⟨L0,ah _,?_⟩) (fun hb0 s_0 hc=>?_)
   ·unfold iH at hq0;try simp only[hw,Int.toNat_natCast]at hq0
    exact aY (jl [])
   ·exact aX (jl [])
 ·unfold aa Tryz.f130;try unfold aR
  exact zq1
end Go.Sx
end
section
namespace Go.Sx
@[go_sem] theorem LB {ts:Tis}{G:Cons}{L:uq}{t:List (Nat×SV)}{h:List Ob}{Q:Ex→St→Prop}{id j:Nat}{c:Code}:exec ts G L (.block id (.block j c)) ⟨t,h⟩ Q=exec ts G L (.block j c) ⟨t,h⟩ (Ex.block id Q):=(rfl)
def pXU {α:Type 1}(k:Int→List SV→Option α):List SV→Option α
 | .ep [.v (.int .u64 n)] 0::r=>k n r
 |_=>none
@[go_sem] theorem abg {α:Type 1}{k:Int→List SV→Option α}{n:Int}{r:List SV}:pXU k (.ep [.v (.int .u64 n)] 0::r)=k n r:=(rfl)
theorem Kb {α:Type 1}{G:List SV→α→Prop}{k:Int→List SV→Option α}(h:∀ n l c,k n l=some c→G (.ep [.v (.int .u64 n)] 0::l) c):∀ l c,pXU k l=some c→G l c:=by
 intro l c hc;unfold pXU at hc;split at hc
 ·exact h _ _ _ hc
 ·cases hc
end Go.Sx
end
section
namespace Go.Sx
open Go.Proofs
open IntKind (i64)
@[go_sem] def dc (a0:Cases)(k_0:Nat)(s_0:Int×Int):(Int×Int)⊕(Int×Int):=(bif(!(c8 (a0.sides.getD k_0 (0:Int)) 1))then .inl (s_0.1,s_0.2)else(bif(decide ((a0.sides.getD k_0 (0:Int))=0))then .inr ((orI .u64 s_0.1 (LI .u64 1 (k_0:Int))),s_0.2)else(bif(decide ((a0.sides.getD k_0 (0:Int))=1))then .inr (s_0.1,(orI .u64 s_0.2 (LI .u64 1 (k_0:Int))))else .inr default)))
def gP (a0:Cases)(k_0:Nat)(s_0:Int×Int):Prop:=((!(c8 (a0.sides.getD k_0 (0:Int)) 1))=false→(((decide ((a0.sides.getD k_0 (0:Int))=0))=true→0≤(k_0:Int))∧((decide ((a0.sides.getD k_0 (0:Int))=0))=false→(((decide ((a0.sides.getD k_0 (0:Int))=1))=true→0≤(k_0:Int))∧((decide ((a0.sides.getD k_0 (0:Int))=1))=false→False)))))
@[go_sem] def oL (a0:Cases)(s_0:Int×Int)(k_1:Nat)(s_1:List PrecedentsDecided×Int×Int×Int):(List PrecedentsDecided)⊕(List PrecedentsDecided×Int×Int×Int):=(bif(((((decide ((a0.cases.getD k_1 (default:Case)).no≤s_1.2.1)) ||(!(c8 ((a0.cases.getD k_1 (default:Case)).no) 1048576))) ||(decide ((a0.cases.getD k_1 (default:Case)).hour<s_1.2.2.1))) ||(!(c8 ((a0.cases.getD k_1 (default:Case)).hour) 4096))) ||(!(c8 ((a0.cases.getD k_1 (default:Case)).winner) 1)))then .inl s_1.1 else(bif(decide ((a0.cases.getD k_1 (default:Case)).winner=0))then(bif(((!(aR ((a0.cases.getD k_1 (default:Case)).facts) (a0.sides.length:Int)).2) ||(!(aR ((a0.cases.getD k_1 (default:Case)).reason) (a0.sides.length:Int)).2)) ||(!(ff ((aR ((a0.cases.getD k_1 (default:Case)).reason) (a0.sides.length:Int)).1) (FL .u64 ((aR ((a0.cases.getD k_1 (default:Case)).facts) (a0.sides.length:Int)).1) s_0.1))))then .inl s_1.1 else .inr ((s_1.1++([({ winner:=(a0.cases.getD k_1 (default:Case)).winner,facts:=(aR ((a0.cases.getD k_1 (default:Case)).facts) (a0.sides.length:Int)).1,reason:=(aR ((a0.cases.getD k_1 (default:Case)).reason) (a0.sides.length:Int)).1}:PrecedentsDecided)])),(a0.cases.getD k_1 (default:Case)).no,(a0.cases.getD k_1 (default:Case)).hour,(a0.cases.getD k_1 (default:Case)).winner))else(bif(decide ((a0.cases.getD k_1 (default:Case)).winner=1))then(bif(((!(aR ((a0.cases.getD k_1 (default:Case)).facts) (a0.sides.length:Int)).2) ||(!(aR ((a0.cases.getD k_1 (default:Case)).reason) (a0.sides.length:Int)).2)) ||(!(ff ((aR ((a0.cases.getD k_1 (default:Case)).reason) (a0.sides.length:Int)).1) (FL .u64 ((aR ((a0.cases.getD k_1 (default:Case)).facts) (a0.sides.length:Int)).1) s_0.2))))then .inl s_1.1 else .inr ((s_1.1++([({ winner:=(a0.cases.getD k_1 (default:Case)).winner,facts:=(aR ((a0.cases.getD k_1 (default:Case)).facts) (a0.sides.length:Int)).1,reason:=(aR ((a0.cases.getD k_1 (default:Case)).reason) (a0.sides.length:Int)).1}:PrecedentsDecided)])),(a0.cases.getD k_1 (default:Case)).no,(a0.cases.getD k_1 (default:Case)).hour,(a0.cases.getD k_1 (default:Case)).winner))else .inr default)))
def gQ (a0:Cases)(s_0:Int×Int)(k_1:Nat)(s_1:List PrecedentsDecided×Int×Int×Int):Prop:=((((((decide ((a0.cases.getD k_1 (default:Case)).no≤s_1.2.1)) ||(!(c8 ((a0.cases.getD k_1 (default:Case)).no) 1048576))) ||(decide ((a0.cases.getD k_1 (default:Case)).hour<s_1.2.2.1))) ||(!(c8 ((a0.cases.getD k_1 (default:Case)).hour) 4096))) ||(!(c8 ((a0.cases.getD k_1 (default:Case)).winner) 1)))=false→(a0.sides.length≤aJ→((hU ((a0.cases.getD k_1 (default:Case)).facts) (a0.sides.length:Int))∧(a0.sides.length≤aJ→((hU ((a0.cases.getD k_1 (default:Case)).reason) (a0.sides.length:Int))∧(((decide ((a0.cases.getD k_1 (default:Case)).winner=0))=true→((((!(aR ((a0.cases.getD k_1 (default:Case)).facts) (a0.sides.length:Int)).2) ||(!(aR ((a0.cases.getD k_1 (default:Case)).reason) (a0.sides.length:Int)).2)) ||(!(ff ((aR ((a0.cases.getD k_1 (default:Case)).reason) (a0.sides.length:Int)).1) (FL .u64 ((aR ((a0.cases.getD k_1 (default:Case)).facts) (a0.sides.length:Int)).1) s_0.1))))=false→((s_1.1++([({ winner:=(a0.cases.getD k_1 (default:Case)).winner,facts:=(aR ((a0.cases.getD k_1 (default:Case)).facts) (a0.sides.length:Int)).1,reason:=(aR ((a0.cases.getD k_1 (default:Case)).reason) (a0.sides.length:Int)).1}:PrecedentsDecided)])).length*24≤dC)))∧((decide ((a0.cases.getD k_1 (default:Case)).winner=0))=false→(((decide ((a0.cases.getD k_1 (default:Case)).winner=1))=true→((((!(aR ((a0.cases.getD k_1 (default:Case)).facts) (a0.sides.length:Int)).2) ||(!(aR ((a0.cases.getD k_1 (default:Case)).reason) (a0.sides.length:Int)).2)) ||(!(ff ((aR ((a0.cases.getD k_1 (default:Case)).reason) (a0.sides.length:Int)).1) (FL .u64 ((aR ((a0.cases.getD k_1 (default:Case)).facts) (a0.sides.length:Int)).1) s_0.2))))=false→((s_1.1++([({ winner:=(a0.cases.getD k_1 (default:Case)).winner,facts:=(aR ((a0.cases.getD k_1 (default:Case)).facts) (a0.sides.length:Int)).1,reason:=(aR ((a0.cases.getD k_1 (default:Case)).reason) (a0.sides.length:Int)).1}:PrecedentsDecided)])).length*24≤dC)))∧((decide ((a0.cases.getD k_1 (default:Case)).winner=1))=false→False)))))))))
def d6 (a0:Cases):PrecedentsCourt×Int:=(bif((decide ((a0.sides.length:Int) > 32)) ||(decide ((a0.cases.length:Int) > 64)))then(({ favour:=(0,0),cases:=[]}:PrecedentsCourt),2)else(match ay (dc a0) a0.sides.length 0 (0,0)with| .inl x_0_0=>(({ favour:=(x_0_0.1,x_0_0.2),cases:=[]}:PrecedentsCourt),520) | .inr s_0=>(match ay (oL a0 s_0) a0.cases.length 0 ([],(-1),0,0)with| .inl x_1_0=>(({ favour:=(s_0.1,s_0.2),cases:=x_1_0}:PrecedentsCourt),520) | .inr s_1=>(({ favour:=(s_0.1,s_0.2),cases:=s_1.1}:PrecedentsCourt),0))))
def g6 (a0:Cases):Prop:=(a0.sides.length≤aJ→(((decide ((a0.sides.length:Int) > 32)) ||(decide ((a0.cases.length:Int) > 64)))=false→(a0.sides.length≤aJ→(okI (dc a0) (gP a0) a0.sides.length 0 (0,0)∧(∀ s_0,ay (dc a0) a0.sides.length 0 (0,0)=.inr s_0→(a0.cases.length≤aJ→okI (oL a0 s_0) (gQ a0 s_0) a0.cases.length 0 ([],(-1),0,0)))))))
@[go_sem] def py:List SV→Option Con:=(pD .cases fun a0=>(pE (.det (g6 a0) (.tup [.agg (cellsOf .precedentsCourt ((d6 a0).1)),.v (.int .i64 ((d6 a0).2))]))))
theorem Ym {l0:List Nat}(a0:JL l0){p:Prop}(h:JL l0→p:=by intro ja;simp only[go_sem,Nat.reduceBEq,Nat.reduceLeDiff,Nat.reduceLT,decide_true,Nat.reduceAdd,Nat.reduceSub,Nat.reduceMul,Int.reduceLE,Int.reduceLT,Int.reduceToNat,Int.reduceNeg,reduceCtorEq,hc,hw,hs0,Int.reduceEq,Int.reduceBEq,decide_false];all_goals exact kX ja):p:=h a0
theorem Yn {l0:List Nat}(a0:JL l0){p:Prop}(h:JL l0→p:=by intro ja;simp only[go_sem,Nat.reduceBEq,Nat.reduceLeDiff,Nat.reduceLT,decide_true,Nat.reduceAdd,Nat.reduceSub,Nat.reduceMul,Int.reduceLE,Int.reduceLT,Int.reduceToNat,Int.reduceNeg,reduceCtorEq,hc,hw,hs1,Int.reduceEq,Int.reduceBEq,decide_false];all_goals exact kX ja):p:=h a0
theorem Yo {l0 l1:List Nat}(a0:JL l0)(a1:JL l1){p:Prop}(h:JL l0→JL l1→p:=by intro ja jb;simp only[go_sem,Nat.reduceBEq,Nat.reduceLeDiff,Nat.reduceLT,decide_true,Nat.reduceAdd,Nat.reduceSub,Nat.reduceMul,Int.reduceLE,Int.reduceLT,Int.reduceToNat,Int.reduceNeg,reduceCtorEq,hc,hw,hs0,Int.reduceEq,Int.reduceBEq,decide_false];all_goals exact rq ja jb):p:=h a0 a1
theorem Yp {l0 l1:List Nat}(a0:JL l0)(a1:JL l1){p:Prop}(h:JL l0→JL l1→p:=by intro ja jb;simp only[go_sem,Nat.reduceBEq,Nat.reduceLeDiff,Nat.reduceLT,decide_true,Nat.reduceAdd,Nat.reduceSub,Nat.reduceMul,Int.reduceLE,Int.reduceLT,Int.reduceToNat,Int.reduceNeg,reduceCtorEq,hc,hw,hs1,Int.reduceEq,Int.reduceBEq,decide_false];all_goals exact rq ja jb):p:=h a0 a1
theorem s5:FnOk Tryz.prog 75 py:=by
 have hG:ConsOk Tryz.prog (mkG [(81,nN),(129,nM),(130,fun l=>rW (a7 [.sl .int,.o] l))] []):=aq (cgc rC (cgc rB (cgc (uO.norm [.sl .int,.o]) cg0))) cg0;refine ax [.st .precedentsCourt,.o] mixed ak hG (fn:=Tryz.f75) (c:=aa Tryz.f75) kr kr kr kr (aM fun a0=>(ai (fun hp=>?_)));dsimp only[ar]at hp;unfold g6 at hp;refine⟨nbl rfl,(fun id st=>bif Nat.beq id 0 then some (LCR (ρ:=(Int×Int)) (σ:=(Int×Int)) 2 [] [0,1] (fun k_0 s_0=>⟨[(1,.ptr 0 0),(2,.ptr 1 0),(25,.rs .int a0.sides),(26,.v (.int .i64 (a0.sides.length:Int))),(27,.v (.int .i64 (k_0:Int)))],[.cells (cellsOf .cases a0),.cells [.v (.int .u64 s_0.1),.v (.int .u64 s_0.2),.v (.slice none 0 0)]]⟩) (dc a0) (gP a0) a0.sides.length (0,0) (a0.sides.length≤aJ) (fun _=>.ret) (fun x_0_0=>⟨[(2,.ptr 1 0),(3,.v (.int .i64 520))],[.dead,.cells [.v (.int .u64 x_0_0.1),.v (.int .u64 x_0_0.2),.v (.slice none 0 0)]]⟩) st)else bif Nat.beq id 2 then some (LCR (ρ:=(List PrecedentsDecided)) (σ:=(List PrecedentsDecided×Int×Int×Int)) 3 [.cell 1 2 (.row .precedentsDecided ([]))] [0,1,2,3] (fun k_1 s_1=>⟨[(1,.ptr 0 0),(2,.ptr 1 0),(6,.ptr 2 0),(48,.rs .case a0.cases),(49,.v (.int .i64 (a0.cases.length:Int))),(50,.v (.int .i64 (k_1:Int)))],[.cells (cellsOf .cases a0),.cells [.v (.int .u64 (dT (ay (dc a0) a0.sides.length 0 (0,0))).1),.v (.int .u64 (dT (ay (dc a0) a0.sides.length 0 (0,0))).2),.os 3],.cells [.v (.int .i64 s_1.2.1),.v (.int .i64 s_1.2.2.1),.v (.int .i64 s_1.2.2.2),.any,.any],.row .precedentsDecided s_1.1]⟩) (oL a0 (dT (ay (dc a0) a0.sides.length 0 (0,0)))) (gQ a0 (dT (ay (dc a0) a0.sides.length 0 (0,0)))) a0.cases.length ([],(-1),0,0) (a0.cases.length≤aJ) (fun _=>.ret) (fun x_1_0=>⟨[(2,.ptr 1 0),(3,.v (.int .i64 520))],[.dead,.cells [.v (.int .u64 (dT (ay (dc a0) a0.sides.length 0 (0,0))).1),.v (.int .u64 (dT (ay (dc a0) a0.sides.length 0 (0,0))).2),.os 3],.dead,.row .precedentsDecided x_1_0]⟩) st)else none),?_,?_⟩
 ·unfold aa Tryz.f75;simp only[ap,true_and,and_true];refine⟨?_,?_⟩
  ·refine bf mixed ak hG kr (fun _=>rfl) (a0.sides.length:Int) rfl fD (fun hb0 k_0 s_0 hlt0 hq0 hw hc=>⟨L0,ah _,?_⟩) (fun hb0 s_0 hc=>?_)
   ·unfold gP at hq0;try simp only[hw,Int.toNat_natCast]at hq0
    by_cases hs0:(a0.sides.getD k_0 (0:Int))=0
    ·try simp only[hs0,decide_true,decide_false,Int.reduceEq,Bool.false_eq_true,Bool.true_eq_false,forall_const,true_imp_iff,false_imp_iff,and_true,true_and,reduceCtorEq]at hq0
     exact Ym (jl [0,1])
    ·have hn0:=decide_eq_false hs0;by_cases hs1:(a0.sides.getD k_0 (0:Int))=1
     ·try simp only[hs1,decide_true,decide_false,Int.reduceEq,Bool.false_eq_true,Bool.true_eq_false,forall_const,true_imp_iff,false_imp_iff,and_true,true_and,reduceCtorEq]at hq0
      exact Yn (jl [0,1])
     ·have hn1:=decide_eq_false hs1;simp only[go_sem,Nat.reduceBEq,Nat.reduceLeDiff,Nat.reduceLT,decide_true,Nat.reduceAdd,Nat.reduceSub,Nat.reduceMul,Int.reduceLE,Int.reduceLT,Int.reduceToNat,Int.reduceNeg,reduceCtorEq,hc,hw,hn0,hn1];all_goals (repeat' (first|with_reducible refine And.intro ?_ ?_|with_reducible intro _))
      all_goals first|exact kX (jl [0,1]) |(exfalso;simp_all;done)
   ·exact aX (jl [0,1])
  ·refine bf mixed ak hG kr (fun _=>rfl) (a0.cases.length:Int) rfl fD (fun hb1 k_1 s_1 hlt1 hq1 hw hc=>⟨L0,ah _,?_⟩) (fun hb1 s_1 hc=>?_)
   ·unfold gQ at hq1;try simp only[hw,Int.toNat_natCast]at hq1
    by_cases hs0:(a0.cases.getD k_1 (default:Case)).winner=0
    ·try simp only[hs0,decide_true,decide_false,Int.reduceEq,Bool.false_eq_true,Bool.true_eq_false,forall_const,true_imp_iff,false_imp_iff,and_true,true_and,reduceCtorEq]at hq1
     exact Yo (jl [0,1,2,6]) (jl [0,1,2,3])
    ·have hn0:=decide_eq_false hs0;by_cases hs1:(a0.cases.getD k_1 (default:Case)).winner=1
     ·try simp only[hs1,decide_true,decide_false,Int.reduceEq,Bool.false_eq_true,Bool.true_eq_false,forall_const,true_imp_iff,false_imp_iff,and_true,true_and,reduceCtorEq]at hq1
      exact Yp (jl [0,1,2,6]) (jl [0,1,2,3])
     ·have hn1:=decide_eq_false hs1;simp only[go_sem,Nat.reduceBEq,Nat.reduceLeDiff,Nat.reduceLT,decide_true,Nat.reduceAdd,Nat.reduceSub,Nat.reduceMul,Int.reduceLE,Int.reduceLT,Int.reduceToNat,Int.reduceNeg,reduceCtorEq,hc,hw,hn0,hn1];all_goals (repeat' (first|with_reducible refine And.intro ?_ ?_|with_reducible intro _))
      all_goals first|exact rq (jl [0,1,2,6]) (jl [0,1,2,3]) |(exfalso;simp_all;done)
   ·exact jN (jl [0,1,2,6]) (jl [0,1,2,3])
 ·unfold aa Tryz.f75;try unfold d6
  exact zq1
def ci (b:Cases)(l_:List Int)(side:Int):PrecedentsCourt×Int×Int:=(bif((d6 b).2 !=0)then(((d6 b).1),0,(d6 b).2)else(bif(!(aR l_ (b.sides.length:Int)).2)then(((d6 b).1),0,520)else(bif(!(c8 side 1))then(((d6 b).1),0,1)else(((d6 b).1),(aR l_ (b.sides.length:Int)).1,0))))
def jX (b:Cases)(l_:List Int)(side:Int):Prop:=((g6 b)∧(((d6 b).2 !=0)=false→(b.sides.length≤aJ→(hU l_ (b.sides.length:Int)))))
@[go_sem] def uP:List SV→Option Con:=(pD .cases fun b=>(pR .int fun l_=>(pI fun side=>(pE (.det (jX b l_ side) (.tup [.agg (cellsOf .precedentsCourt ((ci b l_ side).1)),.v (.int .u64 ((ci b l_ side).2.1)),.v (.int .i64 ((ci b l_ side).2.2))]))))))
theorem zh:FnOk Tryz.prog 79 uP:=by
 have hG:ConsOk Tryz.prog (mkG [(75,fun l=>py (a7 [.st .cases] l)),(129,nM),(130,fun l=>rW (a7 [.sl .int,.o] l))] []):=aq (cgc (s5.norm [.st .cases]) (cgc rB (cgc (uO.norm [.sl .int,.o]) cg0))) cg0;refine ax [.st .precedentsCourt,.o,.o] mixed ak hG (fn:=Tryz.f79) (c:=aa Tryz.f79) kr kr kr kr (aM fun b=>(a8 fun l_=>(bt fun side=>(ai (fun hp=>?_)))));dsimp only[ar]at hp;unfold jX at hp;refine⟨nbl rfl,L0,ah _,?_⟩
 ·unfold aa Tryz.f79;try unfold ci
  exact zq1
def jt (c:PrecedentsCourt)(x:PrecedentsDecided)(facts:Int):Int:=(bif(decide ((i64.wrap (1 - x.winner))=0))then(yp .u64 (FL .u64 facts c.favour.1) x.facts)else(bif(decide ((i64.wrap (1 - x.winner))=1))then(yp .u64 (FL .u64 facts c.favour.2) x.facts)else default))
def eL (c:PrecedentsCourt)(x:PrecedentsDecided)(facts:Int):Prop:=((decide ((i64.wrap (1 - x.winner))=0))=false→((decide ((i64.wrap (1 - x.winner))=1))=false→False))
@[go_sem] def mE:List SV→Option Con:=(pD .precedentsCourt fun c=>(pD .precedentsDecided fun x=>(pU fun facts=>(pE (.det (eL c x facts) (.v (.int .u64 (jt c x facts))))))))
theorem Yq {p:Prop}(h:p:=by simp only[go_sem,Nat.reduceBEq,Nat.reduceLeDiff,Nat.reduceLT,decide_true,Nat.reduceAdd,Nat.reduceSub,Nat.reduceMul,Int.reduceLE,Int.reduceLT,Int.reduceToNat,Int.reduceNeg,reduceCtorEq,hs0,Int.reduceEq,Int.reduceBEq,decide_false];all_goals exact cl):p:=h
theorem Yr {p:Prop}(h:p:=by simp only[go_sem,Nat.reduceBEq,Nat.reduceLeDiff,Nat.reduceLT,decide_true,Nat.reduceAdd,Nat.reduceSub,Nat.reduceMul,Int.reduceLE,Int.reduceLT,Int.reduceToNat,Int.reduceNeg,reduceCtorEq,hs1,Int.reduceEq,Int.reduceBEq,decide_false];all_goals exact cl):p:=h
theorem sw:FnOk Tryz.prog 82 mE:=by
 have hG:ConsOk Tryz.prog (mkG [] []):=aq cg0 cg0;refine ax [.o] mixed ak hG (fn:=Tryz.f82) (c:=aa Tryz.f82) kr kr kr kr (aM fun c=>(aM fun x=>(Iz fun facts=>(ai (fun hp=>?_)))));dsimp only[ar]at hp;unfold eL at hp;refine⟨nbl rfl,L0,ah _,?_⟩
 ·unfold aa Tryz.f82;try unfold jt
  by_cases hs0:(i64.wrap (1 - x.winner))=0
  ·try simp only[hs0,decide_true,decide_false,Int.reduceEq,Bool.false_eq_true,Bool.true_eq_false,forall_const,true_imp_iff,false_imp_iff,and_true,true_and,reduceCtorEq]at hp
   exact Yq
  ·have hn0:=decide_eq_false hs0;by_cases hs1:(i64.wrap (1 - x.winner))=1
   ·try simp only[hs1,decide_true,decide_false,Int.reduceEq,Bool.false_eq_true,Bool.true_eq_false,forall_const,true_imp_iff,false_imp_iff,and_true,true_and,reduceCtorEq]at hp
    exact Yr
   ·have hn1:=decide_eq_false hs1;simp only[go_sem,Nat.reduceBEq,Nat.reduceLeDiff,Nat.reduceLT,decide_true,Nat.reduceAdd,Nat.reduceSub,Nat.reduceMul,Int.reduceLE,Int.reduceLT,Int.reduceToNat,Int.reduceNeg,reduceCtorEq,hn0,hn1];all_goals (repeat' (first|with_reducible refine And.intro ?_ ?_|with_reducible intro _))
    all_goals first|exact cl|(exfalso;simp_all;done)
def dB (b:Cases):Int:=(d6 b).2
def fC (b:Cases):Prop:=(g6 b)
@[go_sem] def kI:List SV→Option Con:=(pD .cases fun b=>(pE (.det (fC b) (.v (.int .i64 (dB b))))))
theorem nO:FnOk Tryz.prog 64 kI:=by
 have hG:ConsOk Tryz.prog (mkG [(75,fun l=>py (a7 [.st .cases] l))] []):=aq (cgc (s5.norm [.st .cases]) cg0) cg0;refine ax [.o] mixed ak hG (fn:=Tryz.f64) (c:=aa Tryz.f64) kr kr kr kr (aM fun b=>(ai (fun hp=>?_)));dsimp only[ar]at hp;unfold fC at hp;refine⟨nbl rfl,L0,ah _,?_⟩
 ·unfold aa Tryz.f64;try unfold dB
  exact zq1
def oM (x:PrecedentsDecided)(side_:Int)(facts_:Int)(c_:PrecedentsCourt):Bool:=(((x.winner==side_)&&(ff x.reason facts_))&&((jt c_ x facts_) ==0))
def gR (x:PrecedentsDecided)(side_:Int)(facts_:Int)(c_:PrecedentsCourt):Prop:=(((x.winner==side_)&&(ff x.reason facts_))=true→(eL c_ x facts_))
@[go_sem] def rD:List SV→Option Con:=(pD .precedentsDecided fun x=>(pX .int fun side_=>(pXU fun facts_=>(pX .precedentsCourt fun c_=>(pE (.det (gR x side_ facts_ c_) (.v (.bool (oM x side_ facts_ c_)))))))))
theorem vV:FnOk Tryz.prog 80 rD:=by
 have hG:ConsOk Tryz.prog (mkG [(81,nN),(82,fun l=>mE (a7 [.st .precedentsCourt,.st .precedentsDecided,.o] l))] []):=aq (cgc rC (cgc (sw.norm [.st .precedentsCourt,.st .precedentsDecided,.o]) cg0)) cg0;refine ax [.o] mixed ak hG (fn:=Tryz.f80) (c:=aa Tryz.f80) kr kr kr kr (aM fun x=>(aQ fun side_=>(Kb fun facts_=>(aQ fun c_=>(ai (fun hp=>?_))))));dsimp only[ar]at hp;unfold gR at hp;refine⟨nbl rfl,L0,ah _,?_⟩
 ·unfold aa Tryz.f80;try unfold oM
  exact zq1
theorem clW {p:Prop}(h:p:=by((repeat' (first|with_reducible refine And.intro ?_ ?_|with_reducible intro _)) <;>first|exact cl|(rename_i x hx;rcases x with x|x <;>simp only[go_sem,Nat.reduceBEq,Nat.reduceLeDiff,Nat.reduceLT,decide_true,Nat.reduceAdd,Nat.reduceSub,Nat.reduceMul,Int.reduceLE,Int.reduceLT,Int.reduceToNat,Int.reduceNeg,reduceCtorEq] <;>(simp only[*];done)))):p:=h
@[go_sem] def cJ (l_:List PrecedentsDecided)(side_:Int)(facts_:Int)(c_:PrecedentsCourt)(k_0:Nat)(s_0:Int):(Int⊕Unit)⊕Int:=(bif(decide (s_0< (l_.length:Int)))then(bif(oM (l_.getD (Int.toNat s_0) (default:PrecedentsDecided)) side_ facts_ c_)then .inl (.inl s_0)else .inr (i64.wrap (s_0+1)))else .inl (.inr ()))
def bA (l_:List PrecedentsDecided)(side_:Int)(facts_:Int)(c_:PrecedentsCourt)(k_0:Nat)(s_0:Int):Prop:=(l_.length≤aJ→((decide (s_0< (l_.length:Int)))=true→((0≤s_0∧s_0< (l_.length:Int))∧(gR (l_.getD (Int.toNat s_0) (default:PrecedentsDecided)) side_ facts_ c_))))
def b8 (l_:List PrecedentsDecided)(fr:Int)(side_:Int)(facts_:Int)(c_:PrecedentsCourt):Int×Bool:=(match ay (cJ l_ side_ facts_ c_) (l_.length+1) 0 fr with| .inl (.inl x_0_0) =>(x_0_0,true) | .inl (.inr x_0_1) =>(0,false) | .inr s_0=>default)
def bO (l_:List PrecedentsDecided)(fr:Int)(side_:Int)(facts_:Int)(c_:PrecedentsCourt):Prop:=(okI (cJ l_ side_ facts_ c_) (bA l_ side_ facts_ c_) (l_.length+1) 0 fr∧(∀ z_,ay (cJ l_ side_ facts_ c_) (l_.length+1) 0 fr≠ .inr z_))
@[go_sem] def gH:List SV→Option Con:=(pR .precedentsDecided fun l_=>(pI fun fr=>(pFn 80 (pX .int fun side_=>(pXU fun facts_=>(pX .precedentsCourt fun c_=>(pE ((pE (.det (bO l_ fr side_ facts_ c_) (.tup [.v (.int .i64 ((b8 l_ fr side_ facts_ c_).1)),.v (.bool ((b8 l_ fr side_ facts_ c_).2))])))))))))))
theorem Ys {p:Prop}(h:p:=by simp only[go_sem,Nat.reduceBEq,Nat.reduceLeDiff,Nat.reduceLT,decide_true,Nat.reduceAdd,Nat.reduceSub,Nat.reduceMul,Int.reduceLE,Int.reduceLT,Int.reduceToNat,Int.reduceNeg,reduceCtorEq];all_goals exact clW):p:=h
theorem lB:FnOk Tryz.prog 77 gH:=by
 have hG:ConsOk Tryz.prog (mkG [(80,rD)] []):=aq (cgc vV cg0) cg0;refine ax [.o,.o] mixed ak hG (fn:=Tryz.f77) (c:=aa Tryz.f77) kr kr kr kr (a8 fun l_=>(bt fun fr=>(bF (aQ fun side_=>(Kb fun facts_=>(aQ fun c_=>(ai ((ai (fun hp=>?_))))))))));dsimp only[ar]at hp;unfold bO at hp;refine⟨nbl rfl,(fun id st=>bif Nat.beq id 0 then some (LCV (ρ:=(Int⊕Unit)) (σ:=Int) 0 [] [] (fun k_0 s_0=>⟨[(0,.rs .precedentsDecided l_),(2,.fn 80 [] [.ep [.v (.int .i64 side_)] 0,.ep [.v (.int .u64 facts_)] 0,.ep (cellsOf .precedentsCourt c_) 0]),(8,.v (.int .i64 s_0))],[]⟩) (cJ l_ side_ facts_ c_) (bA l_ side_ facts_ c_) (l_.length+1) fr (fun x=>match x with|(.inl _) =>.ret|(.inr _) =>.normal) (fun x=>match x with|(.inl x_0_0) =>⟨[(6,.v (.int .i64 x_0_0)),(7,.v (.bool true))],[]⟩ |(.inr x_0_1) =>⟨[],[]⟩) st)else none),?_,?_⟩
 ·unfold aa Tryz.f77;simp only[ap,true_and,and_true]
  ·refine mq mixed ak hG kr (fun _=>rfl) fun k_0 s_0 hq0=>⟨L0,ah _,?_⟩
   ·unfold bA at hq0;exact rg (jl [])
 ·unfold aa Tryz.f77;try unfold b8
  exact Ys
@[go_sem] noncomputable def eM:List SV→Option Con:=fun l=>(gH l)
theorem ma:FnOk Tryz.prog 77 eM:=lB
def am (b:Cases)(l_:List Int)(side:Int):Int×Bool×Int:=(bif((ci b l_ side).2.2 !=0)then(0,false,(ci b l_ side).2.2)else((b8 (((ci b l_ side).1).cases) 0 side ((ci b l_ side).2.1) ((ci b l_ side).1)).1,(b8 (((ci b l_ side).1).cases) 0 side ((ci b l_ side).2.1) ((ci b l_ side).1)).2,0))
def eN (b:Cases)(l_:List Int)(side:Int):Prop:=((jX b l_ side)∧(((ci b l_ side).2.2 !=0)=false→(bO (((ci b l_ side).1).cases) 0 side ((ci b l_ side).2.1) ((ci b l_ side).1))))
@[go_sem] def oN:List SV→Option Con:=(pD .cases fun b=>(pR .int fun l_=>(pI fun side=>(pE (.det (eN b l_ side) (.tup [.v (.int .i64 ((am b l_ side).1)),.v (.bool ((am b l_ side).2.1)),.v (.int .i64 ((am b l_ side).2.2))]))))))
theorem Yt {p:Prop}(h:p:=by simp only[go_sem,Nat.reduceBEq,Nat.reduceLeDiff,Nat.reduceLT,decide_true,Nat.reduceAdd,Nat.reduceSub,Nat.reduceMul,Int.reduceLE,Int.reduceLT,Int.reduceToNat,Int.reduceNeg,reduceCtorEq,eM];all_goals exact cl):p:=h
theorem sf:FnOk Tryz.prog 34 oN:=by
 have hG:ConsOk Tryz.prog (mkG [(77,fun l=>eM (a7 [.sl .precedentsDecided,.o,.o] l)),(79,fun l=>uP (a7 [.st .cases,.sl .int,.o] l))] []):=aq (cgc (ma.norm [.sl .precedentsDecided,.o,.o]) (cgc (zh.norm [.st .cases,.sl .int,.o]) cg0)) cg0;refine ax [.o,.o,.o] mixed ak hG (fn:=Tryz.f34) (c:=aa Tryz.f34) kr kr kr kr (aM fun b=>(a8 fun l_=>(bt fun side=>(ai (fun hp=>?_)))));dsimp only[ar]at hp;unfold eN at hp;refine⟨nbl rfl,L0,ah _,?_⟩
 ·unfold aa Tryz.f34;try unfold am
  exact Yt
def iv (q:Int):Bool:=(((decide ((-32)≤q))&&(decide (q≤32)))&&(q !=0))
@[go_sem] def oz:List SV→Option Con:=(pI fun q=>(pE (.det True (.v (.bool (iv q))))))
theorem qv:FnOk Tryz.prog 83 oz:=by
 have hG:ConsOk Tryz.prog (mkG [] []):=aq cg0 cg0;refine ax [.o] mixed ak hG (fn:=Tryz.f83) (c:=aa Tryz.f83) kr kr kr kr (bt fun q=>(ai (fun hp=>?_)));dsimp only[ar]at hp;refine⟨nbl rfl,L0,ah _,?_⟩
 ·unfold aa Tryz.f83;try unfold iv
  exact zq1
@[go_sem] def rX (l_:List Int)(k_0:Nat)(s_0:Unit):Unit⊕Unit:=(bif((!(iv (l_.getD k_0 (0:Int)))) ||((decide ((k_0:Int) > 0))&&(decide ((l_.getD k_0 (0:Int))≤(l_.getD (Int.toNat (i64.wrap ((k_0:Int) - 1))) (0:Int))))))then .inl ()else .inr ())
def ji (l_:List Int)(k_0:Nat)(s_0:Unit):Prop:=((!(iv (l_.getD k_0 (0:Int))))=false→((decide ((k_0:Int) > 0))=true→(0≤(i64.wrap ((k_0:Int) - 1))∧(i64.wrap ((k_0:Int) - 1)) < (l_.length:Int))))
def kJ (l_:List Int):Bool:=(match ay (rX l_) l_.length 0 ()with| .inl x_0_0=>false| .inr s_0=>true)
def jY (l_:List Int):Prop:=(l_.length≤aJ→okI (rX l_) (ji l_) l_.length 0 ())
@[go_sem] def wV:List SV→Option Con:=(pR .int fun l_=>(pE (.det (jY l_) (.v (.bool (kJ l_))))))
theorem AS:FnOk Tryz.prog 117 wV:=by
 have hG:ConsOk Tryz.prog (mkG [(83,oz)] []):=aq (cgc qv cg0) cg0;refine ax [.o] mixed ak hG (fn:=Tryz.f117) (c:=aa Tryz.f117) kr kr kr kr (a8 fun l_=>(ai (fun hp=>?_)));dsimp only[ar]at hp;unfold jY at hp;refine⟨nbl rfl,(fun id st=>bif Nat.beq id 0 then some (LCR (ρ:=Unit) (σ:=Unit) 0 [] [] (fun k_0 s_0=>⟨[(0,.rs .int l_),(5,.rs .int l_),(6,.v (.int .i64 (l_.length:Int))),(7,.v (.int .i64 (k_0:Int)))],[]⟩) (rX l_) (ji l_) l_.length () (l_.length≤aJ) (fun _=>.ret) (fun x_0_0=>⟨[(2,.v (.bool false))],[]⟩) st)else none),?_,?_⟩
 ·unfold aa Tryz.f117;simp only[ap,true_and,and_true]
  ·refine bf mixed ak hG kr (fun _=>rfl) (l_.length:Int) rfl fD (fun hb0 k_0 s_0 hlt0 hq0 hw hc=>⟨L0,ah _,?_⟩) (fun hb0 s_0 hc=>?_)
   ·unfold ji at hq0;try simp only[hw,Int.toNat_natCast]at hq0
    exact aY (jl [])
   ·exact aX (jl [])
 ·unfold aa Tryz.f117;try unfold kJ
  exact zq1
def uf (c:Clause):Bool:=(decide ((c.if_.length:Int) > 8))
@[go_sem] def vO:List SV→Option Con:=(pD .clause fun c=>(pE (.det True (.v (.bool (uf c))))))
theorem z8:FnOk Tryz.prog 115 vO:=by
 have hG:ConsOk Tryz.prog (mkG [] []):=aq cg0 cg0;refine ax [.o] mixed ak hG (fn:=Tryz.f115) (c:=aa Tryz.f115) kr kr kr kr (aM fun c=>(ai (fun hp=>?_)));dsimp only[ar]at hp;refine⟨nbl rfl,L0,ah _,?_⟩
 ·unfold aa Tryz.f115;try unfold uf
  exact zq1
def qw (q:Int)(k_:PleasCourt):Bool:=((fZ .int .int k_.known q) !=1)
@[go_sem] def s6:List SV→Option Con:=(pI fun q=>(pXX .pleasCourt fun k_=>(pE (.det True (.v (.bool (qw q k_)))))))
theorem xl:FnOk Tryz.prog 208 s6:=by
 have hG:ConsOk Tryz.prog (mkG [] []):=aq cg0 cg0;refine ax [.o] mixed ak hG (fn:=Tryz.f208) (c:=aa Tryz.f208) kr kr kr kr (bt fun q=>(bG fun k_=>(ai (fun hp=>?_))));dsimp only[ar]at hp;refine⟨nbl rfl,L0,ah _,?_⟩
 ·unfold aa Tryz.f208;try unfold qw
  exact zq1
def pz (q:Int)(k_:PleasCourt):Bool:=((fZ .int .int k_.known q) ==2)
@[go_sem] def sg:List SV→Option Con:=(pI fun q=>(pXX .pleasCourt fun k_=>(pE (.det True (.v (.bool (pz q k_)))))))
theorem wW:FnOk Tryz.prog 209 sg:=by
 have hG:ConsOk Tryz.prog (mkG [] []):=aq cg0 cg0;refine ax [.o] mixed ak hG (fn:=Tryz.f209) (c:=aa Tryz.f209) kr kr kr kr (bt fun q=>(bG fun k_=>(ai (fun hp=>?_))));dsimp only[ar]at hp;refine⟨nbl rfl,L0,ah _,?_⟩
 ·unfold aa Tryz.f209;try unfold pz
  exact zq1
@[go_sem] def lZ (s_:List Int)(k_:PleasCourt)(k_0:Nat)(s_0:Unit):Int⊕Unit:=(bif(qw (s_.getD k_0 (0:Int)) k_)then .inl (k_0:Int)else .inr ())
def ju (s_:List Int)(k_:PleasCourt):Int:=(match ay (lZ s_ k_) s_.length 0 ()with| .inl x_0_0=>x_0_0| .inr s_0=>(-1))
@[go_sem] def iI:List SV→Option Con:=(pR .int fun s_=>(pFn 208 (pXX .pleasCourt fun k_=>(pE ((pE (.det True (.v (.int .i64 (ju s_ k_))))))))))
theorem l5:FnOk Tryz.prog 203 iI:=by
 have hG:ConsOk Tryz.prog (mkG [(208,s6)] []):=aq (cgc xl cg0) cg0;refine ax [.o] mixed ak hG (fn:=Tryz.f203) (c:=aa Tryz.f203) kr kr kr kr (a8 fun s_=>(bF (bG fun k_=>(ai ((ai (fun hp=>?_)))))));dsimp only[ar]at hp;refine⟨nbl rfl,(fun id st=>bif Nat.beq id 0 then some (LCR (ρ:=Int) (σ:=Unit) 0 [] [] (fun k_0 s_0=>⟨[(0,.rs .int s_),(1,.fn 208 [] [.ep [.ep (cellsOf .pleasCourt k_) 0] 0]),(7,.v (.int .i64 (s_.length:Int))),(8,.v (.int .i64 (k_0:Int)))],[]⟩) (lZ s_ k_) pT s_.length () (s_.length≤aJ) (fun _=>.ret) (fun x_0_0=>⟨[(4,.v (.int .i64 x_0_0))],[]⟩) st)else none),?_,?_⟩
 ·unfold aa Tryz.f203;simp only[ap,true_and,and_true]
  ·refine bf mixed ak hG kr (fun _=>rfl) (s_.length:Int) rfl fD (fun hb0 k_0 s_0 hlt0 _ hw hc=>⟨L0,ah _,?_⟩) (fun hb0 s_0 hc=>?_)
   ·exact aY (jl [])
   ·exact aX (jl [])
 ·unfold aa Tryz.f203;try unfold ju
  exact zq1
@[go_sem] def kw (s_:List Int)(k_:PleasCourt)(k_0:Nat)(s_0:Unit):Int⊕Unit:=(bif(pz (s_.getD k_0 (0:Int)) k_)then .inl (k_0:Int)else .inr ())
def iJ (s_:List Int)(k_:PleasCourt):Int:=(match ay (kw s_ k_) s_.length 0 ()with| .inl x_0_0=>x_0_0| .inr s_0=>(-1))
@[go_sem] def ia:List SV→Option Con:=(pR .int fun s_=>(pFn 209 (pXX .pleasCourt fun k_=>(pE ((pE (.det True (.v (.int .i64 (iJ s_ k_))))))))))
theorem kx:FnOk Tryz.prog 203 ia:=by
 have hG:ConsOk Tryz.prog (mkG [(209,sg)] []):=aq (cgc wW cg0) cg0;refine ax [.o] mixed ak hG (fn:=Tryz.f203) (c:=aa Tryz.f203) kr kr kr kr (a8 fun s_=>(bF (bG fun k_=>(ai ((ai (fun hp=>?_)))))));dsimp only[ar]at hp;refine⟨nbl rfl,(fun id st=>bif Nat.beq id 0 then some (LCR (ρ:=Int) (σ:=Unit) 0 [] [] (fun k_0 s_0=>⟨[(0,.rs .int s_),(1,.fn 209 [] [.ep [.ep (cellsOf .pleasCourt k_) 0] 0]),(7,.v (.int .i64 (s_.length:Int))),(8,.v (.int .i64 (k_0:Int)))],[]⟩) (kw s_ k_) pT s_.length () (s_.length≤aJ) (fun _=>.ret) (fun x_0_0=>⟨[(4,.v (.int .i64 x_0_0))],[]⟩) st)else none),?_,?_⟩
 ·unfold aa Tryz.f203;simp only[ap,true_and,and_true]
  ·refine bf mixed ak hG kr (fun _=>rfl) (s_.length:Int) rfl fD (fun hb0 k_0 s_0 hlt0 _ hw hc=>⟨L0,ah _,?_⟩) (fun hb0 s_0 hc=>?_)
   ·exact aY (jl [])
   ·exact aX (jl [])
 ·unfold aa Tryz.f203;try unfold iJ
  exact zq1
@[go_sem] noncomputable def fJ:List SV→Option Con:=fun l=>(orC (iI l) (ia l))
theorem lg:FnOk Tryz.prog 203 fJ:=(FnOk.or l5 kx)
def im (s_:List Int)(k_:PleasCourt):Bool:=(decide ((ju s_ k_)≥0))
@[go_sem] def gS:List SV→Option Con:=(pR .int fun s_=>(pFn 208 (pXX .pleasCourt fun k_=>(pE ((pE (.det True (.v (.bool (im s_ k_))))))))))
theorem RS {p:Prop}(h:p:=by simp only[go_sem,Nat.reduceBEq,Nat.reduceLeDiff,Nat.reduceLT,decide_true,Nat.reduceAdd,Nat.reduceSub,Nat.reduceMul,Int.reduceLE,Int.reduceLT,Int.reduceToNat,Int.reduceNeg,reduceCtorEq,fJ];all_goals exact cl):p:=h
theorem jZ:FnOk Tryz.prog 157 gS:=by
 have hG:ConsOk Tryz.prog (mkG [(203,fun l=>fJ (a7 [.sl .int,.o] l))] []):=aq (cgc (lg.norm [.sl .int,.o]) cg0) cg0;refine ax [.o] mixed ak hG (fn:=Tryz.f157) (c:=aa Tryz.f157) kr kr kr kr (a8 fun s_=>(bF (bG fun k_=>(ai ((ai (fun hp=>?_)))))));dsimp only[ar]at hp;refine⟨nbl rfl,L0,ah _,?_⟩
 ·unfold aa Tryz.f157;try unfold im
  exact RS
def gT (s_:List Int)(k_:PleasCourt):Bool:=(decide ((iJ s_ k_)≥0))
@[go_sem] def gu:List SV→Option Con:=(pR .int fun s_=>(pFn 209 (pXX .pleasCourt fun k_=>(pE ((pE (.det True (.v (.bool (gT s_ k_))))))))))
theorem jk:FnOk Tryz.prog 157 gu:=by
 have hG:ConsOk Tryz.prog (mkG [(203,fun l=>fJ (a7 [.sl .int,.o] l))] []):=aq (cgc (lg.norm [.sl .int,.o]) cg0) cg0;refine ax [.o] mixed ak hG (fn:=Tryz.f157) (c:=aa Tryz.f157) kr kr kr kr (a8 fun s_=>(bF (bG fun k_=>(ai ((ai (fun hp=>?_)))))));dsimp only[ar]at hp;refine⟨nbl rfl,L0,ah _,?_⟩
 ·unfold aa Tryz.f157;try unfold gT
  exact RS
@[go_sem] noncomputable def eW:List SV→Option Con:=fun l=>(orC (gS l) (gu l))
theorem jA:FnOk Tryz.prog 157 eW:=(FnOk.or jZ jk)
def j3 (k_:PleasCourt)(c:Clause):Bool:=(!(im c.if_ k_))
@[go_sem] def j4:List SV→Option Con:=(pX .pleasCourt fun k_=>(pD .clause fun c=>(pE (.det True (.v (.bool (j3 k_ c)))))))
theorem RT {p:Prop}(h:p:=by simp only[go_sem,Nat.reduceBEq,Nat.reduceLeDiff,Nat.reduceLT,decide_true,Nat.reduceAdd,Nat.reduceSub,Nat.reduceMul,Int.reduceLE,Int.reduceLT,Int.reduceToNat,Int.reduceNeg,reduceCtorEq,eW];all_goals exact cl):p:=h
theorem l6:FnOk Tryz.prog 165 j4:=by
 have hG:ConsOk Tryz.prog (mkG [(157,fun l=>eW (a7 [.sl .int,.o] l))] []):=aq (cgc (jA.norm [.sl .int,.o]) cg0) cg0;refine ax [.o] mixed ak hG (fn:=Tryz.f165) (c:=aa Tryz.f165) kr kr kr kr (aQ fun k_=>(aM fun c=>(ai (fun hp=>?_))));dsimp only[ar]at hp;refine⟨nbl rfl,L0,ah _,?_⟩
 ·unfold aa Tryz.f165;try unfold j3
  exact RT
def lh (k_:PleasCourt)(c:Clause):Bool:=(gT c.if_ k_)
@[go_sem] def l7:List SV→Option Con:=(pX .pleasCourt fun k_=>(pD .clause fun c=>(pE (.det True (.v (.bool (lh k_ c)))))))
theorem oO:FnOk Tryz.prog 167 l7:=by
 have hG:ConsOk Tryz.prog (mkG [(157,fun l=>eW (a7 [.sl .int,.o] l))] []):=aq (cgc (jA.norm [.sl .int,.o]) cg0) cg0;refine ax [.o] mixed ak hG (fn:=Tryz.f167) (c:=aa Tryz.f167) kr kr kr kr (aQ fun k_=>(aM fun c=>(ai (fun hp=>?_))));dsimp only[ar]at hp;refine⟨nbl rfl,L0,ah _,?_⟩
 ·unfold aa Tryz.f167;try unfold lh
  exact RT
end Go.Sx
end
