/- Part of the proof that the law JudgementRight returns true and leaves its arguments as they were, for all arguments of bulk at most 1048576 (the Upto form). -/
import Derived.Test.YtnanafpgfihjfaaGreatJ214
import Derived.Test.YtnanafpgfihjfaaGreatJ209
import Derived.Test.YtnanafpgfihjfaaGreatJ208
import Derived.Test.YtnanafpgfihjfaaGreatJ213
import Derived.Test.YtnanafpgfihjfaaGreatJ207
import Derived.Deep.Slices
import Derived.OpenShut
import Derived.ChangeSame
import Derived.WideKeyArgs
import Derived.Below
import Derived.Test.YtnanafpgfihjfaaGreatRows
set_option linter.all false
set_option maxHeartbeats 4000000
set_option maxRecDepth 100000
section
namespace Go.Sx
open Go.Proofs
open IntKind (i64)
theorem B0 {Q:Int→Prop}{f o:Int}:∀ (S:List Claim) (n:Int) (K G:List Claim),(∀ y∈S,Q y.right)→(∀ y∈K,Q y.right)→(∀ y∈G,Q y.right)→(∀ y∈(gv f o S n K G).1,Q y.right)∧∀ y∈(gv f o S n K G).2,Q y.right
 | [],n,K,G,_,hK,hG=>⟨hK,hG⟩
 |y::S,n,K,G,hS,hK,hG=>by
  have hy:=hS y (by simp);have hS':∀ z∈S,Q z.right:=fun z hz=>hS z (by simp[hz]);have hput:∀ z:Claim,z.right=y.right→∀ w∈gb K z,Q w.right:=fun z hz w hw=>by
   rcases wg hw with⟨e1,_⟩ |hw
   ·rw[e1,hz];exact hy
   ·exact hK w hw
  by_cases hf:y.farm=f
  ·rw[gv,if_pos hf];refine B0 S _ _ _ hS' ?_ ?_
   ·split
    ·exact hput _ rfl
    ·exact hK
   ·split
    ·intro z hz;rcases List.mem_append.1 hz with hz|hz
     ·exact hG z hz
     ·rw[List.mem_singleton.1 hz];exact hy
    ·exact hG
  ·rw[gv,if_neg hf];refine B0 S _ _ _ hS' ?_ hG;split
   ·exact hput _ rfl
   ·exact hK
theorem B1 {Q:Int→Prop}:∀ (G K:List Claim),(∀ y∈K,Q y.right)→(∀ y∈G,Q y.right)→∀ y∈G.foldl gb K,Q y.right
 | [],_,hK,_=>hK
 |x::G,K,hK,hG=>B1 G (gb K x) (fun w hw=>by
   rcases wg hw with⟨e1,_⟩ |hw
   ·rw[e1];exact hG x (by simp)
   ·exact hK w hw) fun y hy=>hG y (by simp[hy])
section
variable {ρ:Int→Int}{h R F B:Int}
theorem KS {Q:Int→Prop}{dd:District}{x:Judgement}(hx:JOk dd x)(h0:x.of_=0){N:Nat}{l:List Claim}(i:InvD ρ h R F B N l)(hB:0≤B∧B≤4398046511104)(hN:N≤8192)(hl:∀ y∈l,Q y.right):∀ y∈doJ x l,Q y.right:=by
 have hlen:=i.len;have hb:=i.lit;have hL:Lit l:=fun y hy=>by have:=hb y hy;omega
 have hmB:l.length*40≤dq:=by unfold dq;omega
 have hn:0≤x.n∧x.n<4611686018427387904:=by
  by_cases hk1:x.kind=1
  ·rw[hx.none hk1];omega
  ·have:=hx.n hk1 h0;omega
 have kl:∀ n:Int,n=x.n→∀ y∈eI l x.farm n,Q y.right:=fun n e=>by
  subst e;obtain⟨_,_,e⟩:=r7 x l hn.1 hn.2 hL i.d.s hmB;rw[e];intro y hy;obtain⟨w,hw,_,e2,_⟩:=we x.farm l x.n y (List.mem_filter.1 hy).1;rw[e2];exact hl w hw
 unfold doJ;split
 ·exact kl 0 (hx.none (by assumption)).symm
 ·split
  ·exact kl _ rfl
  ·split
   ·obtain⟨_,e⟩:=sX l x.farm x.other x.n hB (by omega) hn.1 hn.2 hb;obtain⟨q1,q2⟩:=B0 (Q:=Q) (f:=x.farm) (o:=x.other) l.reverse x.n [] [] (fun y hy=>hl y (by simpa using hy)) (fun y hy=>by cases hy) (fun y hy=>by cases hy);rw[e];exact B1 _ _ q1 q2
   ·exact hl
theorem Do {Q:Int→Prop}{dd:District}(hR:R≤256)(hF:(dd.farms.length:Int)=F)(hB:0≤B∧B≤4398046511104):∀ (L:List Judgement) (N:Nat) (l:List Claim),(∀ x∈L,JOk dd x∧x.of_=0)→InvD ρ h R F B N l→N+256*L.length≤8192→(∀ y∈l,Q y.right)→∀ y∈L.foldl (fun s x=>doJ x s) l,Q y.right
 | [],_,_,_,_,_,hl=>hl
 |x::L,N,l,hx,i,hN,hl=>by
  have h1:=hx x (by simp);simp only[List.length_cons]at hN;exact Do hR hF hB L (N+256) (doJ x l) (fun y hy=>hx y (by simp[hy])) (i.step h1.1 h1.2 hR hF hB (by omega) [] ([],[])).2.2 (by omega) (KS h1.1 h1.2 i hB (by omega) hl)
end
section
variable {d:District}{j:List Judgement}{c:List Claim}
theorem Given.right (g:Given d j c){h:Int}(hh:∀ x∈c,x.hour=h){Q:Int→Prop}(hq:∀ y∈c,Q y.right):∀ y∈doH j h c,Q y.right:=by
 have hin:∀ x∈az j h,x∈j∧x.of_=0:=fun x hx=>by
  rw[kf]at hx;have:=List.mem_filter.1 hx;exact⟨this.1,uO this.2⟩
 have hlen:(az j h).length≤20:=by
  rw[kf];have:=List.length_filter_le (fun x=>bh j x h) j;have:=g.jl;omega
 have e:doH j h c=(az j h).foldl (fun s x=>doJ x s) c:=by rw[kf];rfl
 rw[e];exact Do (R:=d.rights.length) (F:=d.farms.length) (by have:=g.rl;omega) rfl (by unfold Ey;omega) (az j h) 300 c (fun x hx=>⟨g.js x (hin x hx).1,(hin x hx).2⟩) (g.start hh) (by omega) hq
theorem uh (c:List Claim)(h:Int):(sZ c h).Sublist c∧∀ x∈sZ c h,x.hour=h:=⟨List.filter_sublist,fun x hx=>by simpa using (List.mem_filter.1 hx).2⟩
theorem Given.byhour (g:Given d j c):Ev c:=g.st.imp fun {a b} hab=>by
 unfold wG su at hab;rcases hab with h| ⟨h,_⟩ <;>omega
theorem Given.out (g:Given d j c):exS j (c.length+1) c=exR j c 0 d.hours.toNat:=Nx j _ c 0 _ (by omega) g.byhour fun z hz=>by
 have h1:=(g.cs z hz).h0;have h2:=(g.cs z hz).h1;omega
theorem Dp {r:Claim→Claim→Prop}{f:Int→List Claim}(h1:∀ h,(f h).Pairwise r)(h2:∀ h k,h<k→∀ a∈f h,∀ b∈f k,r a b):∀ (n:Nat) (lo:Int),(Gr f lo n).Pairwise r
 |0,_=>List.Pairwise.nil
 |n+1,lo=>List.pairwise_append.2 ⟨h1 lo,Dp h1 h2 n (lo+1),fun a ha b hb=>by
  obtain⟨k,k1,_,hb⟩:=BU hb;exact h2 lo k (by omega) a ha b hb⟩
theorem Given.cl4 (g:Given d j c)(n:Nat)(lo:Int):(exR j c lo n).Pairwise wG:=by
 have hd:∀ h,Dock (rho d) h (doH j h (sZ c h)):=fun h=>((g.sub (uh c h).1).hour (uh c h).2 [] ([],[])).2.1.d;refine Dp (fun h=>?_) (fun h k hk a ha b hb=>?_) n lo
 ·refine(hd h).s.imp_of_mem fun {a b} ha hb hab=>?_;exact Or.inr ⟨by rw[(hd h).hr a ha,(hd h).hr b hb],hab⟩
 ·exact Or.inl (by rw[(hd h).hr a ha,(hd k).hr b hb];exact hk)
theorem Given.fine (g:Given d j c){x:Claim}(hx:x∈exR j c 0 d.hours.toNat)(hl:x.litres≤1073741824):FineC d x:=by
 obtain⟨h,h1,h2,hx⟩:=BU hx;have gs:=g.sub (uh c h).1;have i:=(gs.hour (uh c h).2 [] ([],[])).2.1;have hp:=i.pl x hx;have hk:=gs.right (uh c h).2 (Q:=fun r=>(d.rights.getD r.toNat default).kind=1) (fun y hy=>(gs.cs y hy).kind) x hx;have hh:=i.d.hr x hx;have hpos:=i.d.pos x hx;exact⟨hp.1.1,hp.1.2,hp.2.1,hp.2.2,by omega,by omega,by omega,hl,hk,(i.d.rk x hx).symm⟩
theorem Tw {d:District}{c:List Claim}{j:List Judgement}(h:(z6 d c j).2=0):(aO d j=0∧bf d c=0)∧(z6 d c j).1=exS j (c.length+1) c∧(exS j (c.length+1) c).length≤4096∧∀ x∈exS j (c.length+1) c,x.litres≤1073741824:=by
 unfold z6 at h ⊢;cases h1:aO d j !=0 with
 |true=>
  rw[h1]at h;have h1:aO d j≠0:=by simpa using h1
  exact absurd h h1
 |false=>
  rw[h1]at h;simp only[cond_false]at h ⊢;cases h2:bf d c !=0 with
  |true=>
   rw[h2]at h;have h2:bf d c≠0:=by simpa using h2
   exact absurd h h2
  |false=>
   rw[h2]at h;simp only[cond_false]at h ⊢;cases h3:(decide (((exS j (c.length+1) c).length:Int) > 4096)) ||(exS j (c.length+1) c).any bL with
   |true=>rw[h3]at h;cases h
   |false=>
    rw[Bool.or_eq_false_iff]at h3;refine⟨⟨by simpa using h1,by simpa using h2⟩,rfl,?_,fun x hx=>?_⟩
    ·have:=of_decide_eq_false h3.1;omega
    ·have:=List.any_eq_false.1 h3.2 x hx;unfold bL at this;simp only[decide_eq_true_eq]at this;omega
theorem KT {d:District}{c:List Claim}{j:List Judgement}(hj:JR j)(hf:ou d c j=true)(h:(z6 d c j).2=0):Given d j c∧bf d (z6 d c j).1=0∧(z6 d c j).1=exR j c 0 d.hours.toNat:=by
 obtain⟨f1,f2⟩:=Rf hf hj;obtain⟨⟨h1,h2⟩,h3,h4,h5⟩:=Tw h;have g:=GD h1 hj h2 (f1 h1) (f2 h2);rw[h3];rw[g.out]at h4 h5 ⊢;exact⟨g,H4 (xD h2).1 h4 (fun x hx=>g.fine hx (h5 x hx)) (g.cl4 _ _),rfl⟩
end


@[go_sem] def gX (a0:District)(a2:List Judgement)(a3:Int)(k_0:Nat)(s_0:Int):Empty⊕Int:=.inr (i64.wrap (s_0+(((aD a0 a2 a3).1).getD k_0 (0:Int))))
def fI (a0:District)(a1:List Claim)(a2:List Judgement)(a3:Int):Bool:=(bif(!p7)then false else(bif(!(ou a0 a1 a2))then true else(bif(((aX a0 a1 a2).2==0)&&((bf a0 ((aX a0 a1 a2).1)) !=0))then false else(match aw (gX a0 a2 a3) (((aD a0 a2 a3).1).length) 0 0 with| .inl x=>x.elim| .inr s_0=>((s_0==0)&&(((aD a0 a2 a3).2 !=0) ||((((aD a0 a2 a3).1).length:Int) ==(a0.farms.length:Int))))))))
def eV (a0:District)(a1:List Claim)(a2:List Judgement)(a3:Int):Prop:=((pb)∧((!p7)=false→((!(ou a0 a1 a2))=false→((du a0 a1 a2)∧((((aX a0 a1 a2).2==0)=true→(lU a0 ((aX a0 a1 a2).1)))∧((((aX a0 a1 a2).2==0)&&((bf a0 ((aX a0 a1 a2).1)) !=0))=false→(gU a0 a2 a3)))))))
@[go_sem] def kB:List SV→Option Con:=(pD .district fun a0=>(pR .claim fun a1=>(pR .judgement fun a2=>(pI fun a3=>(pE (.det (eV a0 a1 a2 a3) (.v (.bool (fI a0 a1 a2 a3)))))))))
theorem ui:FnOk Tryz.prog 7 kB:=by
 have hG:ConsOk Tryz.prog (mkG [(10,yC),(11,fun l=>zz (bA [.st .district,.sl .claim,.sl .judgement] l)),(12,fun l=>na (bA [.st .district,.sl .claim,.sl .judgement] l)),(14,fun l=>oV (bA [.st .district,.sl .judgement,.o] l)),(32,fun l=>rS (bA [.st .district,.sl .claim] l))] []):=av (cgc Cp (cgc (Ed.norm [.st .district,.sl .claim,.sl .judgement]) (cgc (qw.norm [.st .district,.sl .claim,.sl .judgement]) (cgc (rZ.norm [.st .district,.sl .judgement,.o]) (cgc (uW.norm [.st .district,.sl .claim]) cg0))))) cg0;refine ay [.o] mixed ap hG (fn:=Tryz.f7) (c:=ae Tryz.f7) kr kr kr kr (bF fun a0=>(bY fun a1=>(bY fun a2=>(dh fun a3=>(ak (fun hp=>?_))))));dsimp only[ax]at hp;unfold eV at hp;refine⟨nbl rfl,(fun id st=>bif Nat.beq id 0 then some (LCR (ρ:=Empty) (σ:=Int) 3 [] [0,1,2] (fun k_0 s_0=>⟨[(4,.ptr 0 0),(11,.os 2),(12,.v (.int .i64 ((aD a0 a2 a3).2))),(13,.v (.int .i64 s_0)),(45,.os 2),(46,.v (.int .i64 (((aD a0 a2 a3).1).length:Int))),(47,.v (.int .i64 (k_0:Int)))],[.cells (cellsOf .district a0),.dead,.row .int ((aD a0 a2 a3).1)]⟩) (gX a0 a2 a3) pT (((aD a0 a2 a3).1).length) 0 (((aD a0 a2 a3).1).length≤aQ) ((·.elim)) ((·.elim)) st)else none),?_,?_⟩
 ·unfold ae Tryz.f7;simp only[aq,true_and,and_true]
  ·refine aY mixed ap hG kr (fun _=>rfl) (((aD a0 a2 a3).1).length:Int) rfl im (fun hb0 k_0 s_0 hlt0 _ hw hc=>⟨L0,ah _,?_⟩) (fun hb0 s_0 hc=>?_)
   ·exact bZ (jl [0,1,2])
   ·exact bQ (jl [0,1,2])
 ·unfold ae Tryz.f7;try unfold fI
  exact zq1
def yD:List Int→Int
 | [] =>0
 |x::l=>x+yD l
theorem B2:∀ (l:List Int) (i:Nat) (v:Int),i<l.length→yD (l.set i v)=yD l+v - l.getD i 0
 | [],_,_,h=>absurd h (Nat.not_lt_zero _)
 |x::l,0,v,_=>by simp[yD];omega
 |x::l,i+1,v,h=>by
  have:=B2 l i v (by simpa using h);simp only[List.set_cons_succ,yD,List.getD_cons_succ]at this ⊢;omega
abbrev Bd (b:Int)(l:List Int):Prop:= ∀ k,-b≤l.getD k 0∧l.getD k 0≤b
theorem Bd.set {b c:Int}{l:List Int}(h:Bd b l)(hb:b≤c){i:Nat}{v:Int}(hv: -c≤v∧v≤c):Bd c (l.set i v):=fun k=>by
 have:=h k;by_cases e:i=k
 ·subst e;by_cases hi:i<l.length
  ·simp[List.getD_eq_getElem?_getD,hi];exact hv
  ·rw[List.set_eq_of_length_le (by omega)];omega
 ·rw[List.getD_eq_getElem?_getD,List.getElem?_set_ne e,←List.getD_eq_getElem?_getD];omega
theorem NN (n:Nat):yD (List.replicate n 0)=0:=by
 induction n with
 |zero=>rfl
 |succ n ih=>rw[List.replicate_succ,yD,ih];rfl
theorem Tx (n:Nat):Bd 0 (List.replicate n 0):=fun k=>by
 rw[List.getD_eq_getElem?_getD,List.getElem?_replicate];split <;>simp
theorem NO {d:District}{j:List Judgement}(h:Int)(hj:∀ k,k<j.length→(j.getD k default).kind=4→((0≤(j.getD k default).farm∧(j.getD k default).farm< (d.farms.length:Int))∧(0≤(j.getD k default).other∧(j.getD k default).other< (d.farms.length:Int)))∧1≤(j.getD k default).n∧(j.getD k default).n≤1073741824)(hl:j.length≤64):
  ∀ (n k:Nat) (s:List Int),k+n=j.length→s.length=d.farms.length→yD s=0→Bd ((k:Int)*2147483648) s→∃ s',aw (dU j h) n k s=.inr s'∧s'.length=d.farms.length∧yD s'=0∧Bd ((j.length:Int)*2147483648) s':=by
 intro n;induction n with
 |zero=>exact fun k s hk h1 h2 h3=>⟨s,rfl,h1,h2,by rw[←hk];exact h3⟩
 |succ n ih=>
  intro k s hk h1 h2 h3;have e:((k+1:Nat):Int)*2147483648=(k:Int)*2147483648+2147483648:=by omega
  have hup:Bd (((k+1:Nat):Int)*2147483648) s:=fun i=>by have:=h3 i;omega
  rw[aw];cases hc:((((j.getD k default).kind==4)&&(decide ((j.getD k default).hour≤h)))&&(!(dY j (j.getD k default) h)))with
  |false=>
   have e1:dU j h k s=.inr s:=by unfold dU;rw[hc];rfl
   rw[e1];exact ih (k+1) s (by omega) h1 h2 hup
  |true=>
   have e1:dU j h k s=.inr ((s.set (Int.toNat ((j.getD k default).farm)) (i64.wrap ((s.getD (Int.toNat ((j.getD k default).farm)) (0:Int))+(j.getD k default).n))).set (Int.toNat ((j.getD k default).other)) (i64.wrap (((s.set (Int.toNat ((j.getD k default).farm)) (i64.wrap ((s.getD (Int.toNat ((j.getD k default).farm)) (0:Int))+(j.getD k default).n))).getD (Int.toNat ((j.getD k default).other)) (0:Int)) - (j.getD k default).n))):=by unfold dU;rw[hc];rfl
   rw[e1];simp only[Bool.and_eq_true,beq_iff_eq]at hc;obtain⟨⟨⟨a1,a2⟩,a3,a4⟩,a5,a6⟩:=hj k (by omega) hc.1.1;generalize j.getD k default=x at *;have b1:=h3 x.farm.toNat;have e2:i64.wrap (s.getD x.farm.toNat 0+x.n)=s.getD x.farm.toNat 0+x.n:=f6 (by omega) (by omega);rw[e2];have h4:Bd ((k:Int)*2147483648+1073741824) (s.set x.farm.toNat (s.getD x.farm.toNat 0+x.n)):=h3.set (by omega) (by omega);have b2:=h4 x.other.toNat;have e3:i64.wrap ((s.set x.farm.toNat (s.getD x.farm.toNat 0+x.n)).getD x.other.toNat 0 - x.n)=(s.set x.farm.toNat (s.getD x.farm.toNat 0+x.n)).getD x.other.toNat 0 - x.n:=f6 (by omega) (by omega);rw[e3];refine ih (k+1) _ (by omega) (by simp[h1]) ?_ (by rw[e];exact h4.set (by omega) (by omega));rw[B2 _ _ _ (by simp;omega),B2 _ _ _ (by omega),h2];omega
theorem KU {d:District}{j:List Judgement}(h:Int)(hj:JR j):yD (aD d j h).1=0∧Bd 137438953472 (aD d j h).1∧(aD d j h).1.length≤600∧((aD d j h).2=0→(aD d j h).1.length=d.farms.length):=by
 have nil:yD []=0∧Bd 137438953472 []∧([]:List Int).length≤600:=⟨rfl,fun k=>by simp,by simp⟩;unfold aD;cases h1:aO d j !=0 with
 |true=>
  have h1:aO d j≠0:=by simpa using h1
  exact⟨nil.1,nil.2.1,nil.2.2,fun e=>absurd e h1⟩
 |false=>
  simp only[cond_false];cases h2:!(aG h 0 d.hours)with
  |true=>exact⟨nil.1,nil.2.1,nil.2.2,fun e=>by cases e⟩
  |false=>
   have hc:fC d j=0:=by rw[←uK d j hj];simpa using h1
   obtain⟨c1,c2,_⟩:=wy hc;rw[←tX]at c1;have hf:=((ow d).1 c1).1.2.1;obtain⟨s',r1,r2,r3,r4⟩:=NO (d:=d) (j:=j) h (fun k hk hkd=>by
    have h3:=Td hc k hk;have h4:(j.getD k default).of_=0:=Decidable.byContradiction fun e=>by have:=h3.end_ e;omega
    exact⟨⟨h3.farm h4,(h3.other (by omega)).1,(h3.other (by omega)).2.1⟩,h3.n (by omega) h4⟩) c2 j.length 0 (List.replicate (Int.toNat (d.farms.length:Int)) 0) (by omega) (by simp) (NN _) (fun k=>by have:=Tx (Int.toNat (d.farms.length:Int)) k;omega)
   simp only[cond_false];rw[r1];have r5:Bd 137438953472 s':=fun k=>by have:=r4 k;omega
   exact⟨r3,r5,show s'.length≤600 by omega,fun _=>r2⟩
theorem Qm (d:District)(j:List Judgement)(h:Int){b:Int}(hb:0≤b∧b≤137438953472):∀ (R A:List Int) (k:Nat) (s:Int),(aD d j h).1=A++R→A.length=k→Bd b (aD d j h).1→k+R.length≤600→ -((k:Int)*137438953472)≤s∧s≤(k:Int)*137438953472→aw (gX d j h) R.length k s=.inr (s+yD R):=by
 intro R;induction R with
 |nil=>exact fun _ _ s _ _ _ _ _=>by simp[aw,yD]
 |cons y R ih=>
  intro A k s hl hk hB hn hs;have g:(aD d j h).1.getD k 0=y:=by rw[hl];exact gV A y 0 R hk.symm
  have hy:=hB k;rw[g]at hy;simp only[List.length_cons]at hn;simp only[List.length_cons,aw,gX,g];rw[f6 (by omega) (by omega),ih (A++[y]) (k+1) (s+y) (by rw[hl];simp) (by simp[hk]) hB (by omega) (by omega),yD];congr 1;omega
theorem zI (d:District)(c:List Claim)(j:List Judgement)(h:Int)(hj:JR j):eV d c j h∧fI d c j h=true:=by
 unfold eV fI;rw[Tv];cases hf:ou d c j with
 |false=>exact⟨⟨GG,fun _ h=>by cases h⟩,rfl⟩
 |true=>
  obtain⟨f1,f2⟩:=Rf hf hj;obtain⟨⟨p1,_⟩,e1,_⟩:=GF hj f1 f2;refine⟨⟨GG,fun _ _=>⟨p1,fun _=>Gf _ _,fun _=>(EE d j h hj).1⟩⟩,?_⟩;have hx:(((aX d c j).2==0)&&((bf d ((aX d c j).1)) !=0))=false:=by
   rw[e1];cases hz:(z6 d c j).2==0 with
   |false=>rfl
   |true=>rw[(KT hj hf (by simpa using hz)).2.1];rfl
  obtain⟨s1,s2,s3,s4⟩:=KU (d:=d) (j:=j) h hj;rw[hx,Qm d j h (b:=137438953472) (by omega) (aD d j h).1 [] 0 0 rfl rfl s2 (by omega) (by omega),s1];simp only[Bool.not_true,cond_false];by_cases hz:(aD d j h).2=0
  ·rw[s4 hz];simp
  ·simp[hz]
theorem KV (d:District)(c:List Claim)(j:List Judgement)(h:Int)(hj:JR j)(_: -9223372036854775808≤h∧h≤9223372036854775807):eV d c j h:=(zI d c j h hj).1
theorem KW (d:District)(c:List Claim)(j:List Judgement)(h:Int)(hj:JR j)(_: -9223372036854775808≤h∧h≤9223372036854775807):fI d c j h=true:=(zI d c j h hj).2
end Go.Sx
end
section
namespace Go.Sx
open Go.Deep Go.RowKit
section
variable {F:Nat→Prop}{own:Own}{w:World}
def RC (F:Nat→Prop)(own:Own)(w:World)(ks:List Kd)(cs:List Value):Prop:=
 ∃ l:List SV,tz ks l=true∧l.length=cs.length∧∀ (j:Nat) (s:SV) (v:Value),l[j]? =some s→cs[j]? =some v→Rel F own w s v
theorem GH:∀ {a b:List Kd} {l m:List SV},tz a l=true→tz b m=true→tz (a++b) (l++m)=true
 | [],b,l,m,h1,h2=>by rw[tJ h1];exact h2
 |k::a,b,l,m,h1,h2=>by
  obtain⟨x,r,rfl,e1,e2⟩:=pw h1;simp only[List.cons_append,tz,e1,GH e2 h2,Bool.and_self]
theorem RC.nil:RC F own w [] []:=⟨[],rfl,rfl,fun j s v h=>by cases h⟩
theorem RC.app {a b:List Kd}{c d:List Value}(h1:RC F own w a c)(h2:RC F own w b d):RC F own w (a++b) (c++d):=by
 obtain⟨l,f1,n1,r1⟩:=h1;obtain⟨m,f2,n2,r2⟩:=h2;refine⟨l++m,GH f1 f2,by simp[n1,n2],fun j s v hs hv=>?_⟩;by_cases hj:j<l.length
 ·rw[List.getElem?_append_left hj]at hs;rw[List.getElem?_append_left (by omega)]at hv;exact r1 j s v hs hv
 ·rw[List.getElem?_append_right (by omega)]at hs;rw[List.getElem?_append_right (by omega),←n1]at hv;exact r2 _ s v hs hv
theorem RC.one {k:Kd}{s:SV}{v:Value}(h1:fit k s=true)(h2:Rel F own w s v):RC F own w [k] [v]:=
 ⟨[s],by simp[tz,h1],rfl,fun j s' v' hs hv=>by
  cases j with
  |zero=>simp only[List.getElem?_cons_zero,Option.some.injEq]at hs hv;subst hs;subst hv;exact h2
  |succ j=>simp at hs⟩
end
def Tz:Kd→Kd→Bool
 | .s,.s=>true
 | .b,.b=>true
 | .n a,.n b=>decide (a=b)
 | .r a,.r b=>decide (a=b)
 | .m a c,.m b d=>decide (a=b)&&decide (c=d)
 |_,_=>false
theorem Qn:∀ {a b:Kd},Tz a b=true→a=b:=by
 intro a b h;cases a <;>cases b <;>simp_all [Tz]
def NP:List Kd→List Kd→Bool
 | [],[] =>true
 |a::l,b::m=>Tz a b&&NP l m
 |_,_=>false
theorem JA:∀ {a b:List Kd},NP a b=true→a=b
 | [],[],_=>rfl
 |a::l,b::m,h=>by
  simp only[NP,Bool.and_eq_true]at h;rw[Qn h.1,JA h.2]
def B3 (P:Program)(g:TypeId→Option (List Kd)):List Field→Nat→Nat→Option (List Kd)
 | [],off,tot=>bif Nat.beq off tot then some []else none
 |f::r,off,tot=>match g f.type with
  |some a=>bif Nat.beq f.offset off&&Nat.beq a.length (P.cellsOf f.type)then(B3 P g r (off+a.length) tot).map (a++ ·)else none
  |none=>none
def Ia (a:List Kd):Nat→List Kd
 |0=>[]
 |n+1=>a++Ia a n
def B4 (P:Program):Nat→TypeId→Option (List Kd)
 |0,_=>none
 |n+1,t=>match P.underlying t with
  |some .bool=>some [.b]
  |some (.int k) =>some [.n k]
  |some .string=>some [.s]
  |some (.slice e) =>match EM P e,B4 P n e with
   |some k,some ks=>bif NP ks (d8 k)&&Nat.beq (P.cellsOf e) (aa k)&&Nat.ble 1 (aa k)then some [.r k]else none
   |_,_=>none
  |some (.struct fs) =>B3 P (B4 P n) fs.toList 0 (P.cellsOf t)
  |some (.array m e) =>match B4 P n e with
   |some a=>bif Nat.beq a.length (P.cellsOf e)&&Nat.beq (P.cellsOf t) (m*a.length)then some (Ia a m)else none
   |none=>none
  |_=>none
section
variable {H:Type}{enc:TypeId×Value→H}{P:Program}{F:Nat→Prop}{own:Own}{w:World}{base:Nat}{spare:Nat→Bool}{held:Bool}{S:DataW H→Prop}
theorem JB {g:TypeId→Option (List Kd)}(hg:∀ t ks,g t=some ks→∀ (fuel:Nat) (cs:List Value) (x:DataW H×List MemPlace),DataW.trod enc P w base spare held fuel t cs=some x→S x.1→RC F own w ks cs)
  (fuel:Nat) (cs:List Value):∀ (fs:List Field) (off:Nat) (ks:List Kd),B3 P g fs off cs.length=some ks→(∀ f∈fs,∃ x,DataW.trod enc P w base spare held fuel f.type ((cs.drop f.offset).take (P.cellsOf f.type))=some x∧S x.1)→RC F own w ks (cs.drop off)
 | [],off,ks,h,_=>by
  unfold B3 at h;cases hb:Nat.beq off cs.length with
  |false=>rw[hb]at h;cases h
  |true=>
   rw[hb]at h;have:off=cs.length:=Nat.eq_of_beq_eq_true hb;subst this;cases h;rw[List.drop_length];exact RC.nil
 |f::r,off,ks,h,hx=>by
  unfold B3 at h;cases ha:g f.type with
  |none=>rw[ha]at h;cases h
  |some a=>
   rw[ha]at h;dsimp only at h;cases hb:Nat.beq f.offset off&&Nat.beq a.length (P.cellsOf f.type)with
   |false=>rw[hb]at h;cases h
   |true=>
    rw[hb]at h;simp only[cond_true,Option.map_eq_some_iff]at h;obtain⟨ks2,h2,rfl⟩:=h;rw[Bool.and_eq_true]at hb;have e1:f.offset=off:=Nat.eq_of_beq_eq_true hb.1;have e2:a.length=P.cellsOf f.type:=Nat.eq_of_beq_eq_true hb.2;obtain⟨x,hx1,hs1⟩:=hx f (by simp);have h3:=hg _ _ ha _ _ _ hx1 hs1;have h4:=JB hg fuel cs r (off+a.length) ks2 h2 fun f hf=>hx f (by simp[hf]);have:=h3.app h4;rw[e1,←e2]at this
    rwa[←List.drop_drop,List.take_append_drop]at this
theorem JD {e:TypeId}{a:List Kd}(ha:∀ (fuel:Nat) (cs:List Value) (x:DataW H×List MemPlace),DataW.trod enc P w base spare held fuel e cs=some x→S x.1→RC F own w a cs)
  (fuel:Nat):∀ (m:Nat) (cs:List Value),cs.length=m*a.length→(∀ i,i<m→∃ x,DataW.trod enc P w base spare held fuel e ((cs.drop (i*a.length)).take a.length)=some x∧S x.1)→RC F own w (Ia a m) cs
 |0,cs,h,_=>by
  have:cs=[]:=by simpa using h
  subst this;exact RC.nil
 |m+1,cs,h,hx=>by
  obtain⟨x,hx1,hs1⟩:=hx 0 (by omega);rw[Nat.zero_mul,List.drop_zero]at hx1;have h3:=ha _ _ _ hx1 hs1;have h4:=JD ha fuel m (cs.drop a.length) (by rw[List.length_drop,h,Nat.succ_mul];omega) fun i hi=>by
   obtain⟨x,hx2,hs2⟩:=hx (i+1) (by omega);refine⟨x,?_,hs2⟩;rw[List.drop_drop]
   rwa[Nat.succ_mul,Nat.add_comm]at hx2
  have:=h3.app h4
  rwa[List.take_append_drop]at this
structure Small (S:DataW H→Prop):Prop where
 agg:∀ l,S (.agg l)→∀ d∈l,S d
 slice:∀ l m,S (.slice l m)→l.length≤aQ∧∀ d∈l,S d
theorem p8 (hS:Small S)(hown:∀ b,¬bP F own b):∀ (n:Nat) (t:TypeId) (ks:List Kd),B4 P n t=some ks→∀ (fuel:Nat) (cs:List Value) (x:DataW H×List MemPlace),DataW.trod enc P w base spare held fuel t cs=some x→S x.1→RC F own w ks cs
 |0,_,_,h,_,_,_,_,_=>by cases h
 |n+1,t,ks,h,fuel,cs,x,hx,hs=>by
  unfold B4 at h;split at h
  ·rename_i ht;cases h;obtain⟨b,rfl,rfl⟩:=DataW.trod_bool ht hx;exact RC.one (s:=.v (.bool b)) rfl (.v _)
  ·rename_i k ht;cases h;obtain⟨m,rfl,rfl,_⟩:=DataW.trod_int ht hx;exact RC.one (s:=.v (.int k m)) (by simp[fit]) (.v _)
  ·rename_i ht;cases h;obtain⟨b,rfl,rfl,_⟩:=DataW.trod_string ht hx;exact RC.one (s:=.v (.string b)) rfl (.v _)
  ·rename_i e ht;split at h
   ·rename_i k ks2 hk hks;cases hb:NP ks2 (d8 k)&&Nat.beq (P.cellsOf e) (aa k)&&Nat.ble 1 (aa k)with
    |false=>rw[hb]at h;cases h
    |true=>
     rw[hb]at h;cases h;simp only[Bool.and_eq_true]at hb;have e1:=JA hb.1.1;have e2:P.cellsOf e=aa k:=Nat.eq_of_beq_eq_true hb.1.2;have e3:1≤aa k:=nbl hb.2;subst e1;rcases open_slice ht hx with⟨rfl,rfl⟩ | ⟨a,len,cap,m,f2,D,Pl,rfl,hb1,hl,hm,hmm,rfl,hel⟩
     ·exact RC.one (s:=.rs k []) (by simp[fit]) .rs0
     ·have hlm:len≤m:=by subst hmm;split <;>omega
      obtain⟨hs1,hs2⟩:=hS.slice _ _ hs;simp only[List.length_map,List.length_range]at hs1;have helt:∀ i,i<len→∃ cs',cs'.length=aa k∧(∀ j v,cs'[j]? =some v→w.cell? ((a.add (i*aa k)).add j)=some v)∧RC F own w (d8 k) cs':=fun i hi=>by
       obtain⟨cs',h1,h2⟩:=hel i (by omega);have h3:=p8 hS hown n e (d8 k) hks f2 cs' _ h2 (hs2 _ (List.mem_map_of_mem (List.mem_range.2 hi)));unfold World.cells? at h1;split at h1
       ·refine⟨cs',by rw[mapM_some_length h1,List.length_range,e2],fun j v hj=>?_,h3⟩;have hlt:j<P.cellsOf e:=by
         have:=(List.getElem?_eq_some_iff.1 hj).1
         rwa[mapM_some_length h1,List.length_range]at this
        have:=mapM_some_get h1 j j (by simp[hlt]);rw[e2]at this;rw[this,hj]
       ·cases h1
      by_cases h0:len=0
      ·subst h0;exact RC.one (s:=.rs k []) (by simp[fit]) .rs0
      ·have hsp:a.spot=none:=by
        obtain⟨cs',h1,h2,_⟩:=helt 0 (by omega);have:=h2 0 (cs'[0]'(by omega)) (by rw[List.getElem?_eq_getElem]);rw[Nat.zero_mul]at this;simp only[Addr.add,if_true]at this;unfold World.cell? at this;split at this
        ·cases hsp:a.spot with
         |none=>rfl
         |some q=>rw[hsp]at this;simp at this
        ·cases this
       obtain⟨ab,ao,asp⟩:=a;dsimp only at hsp;subst hsp
       haveI:Inhabited k.T:=⟨fK k⟩
       obtain⟨X,hX⟩:=choose_lt (p:=fun i (x:k.T) =>∀ (j:Nat) (s:SV),(cellsOf k x)[j]? =some s→∃ v,w.cell? ⟨ab,ao+i*aa k+j,none⟩=some v∧Rel F own w s v) (n:=len) fun i hi=>by
        obtain⟨cs',h1,h2,l,h3,h4,h5⟩:=helt i hi;refine⟨mkE k l,fun j s hj=>?_⟩;rw[qp (k:=k) (l:=l) (x:=mkE k l) (by unfold tA;rw[h3];rfl)]at hj;have hlt:j<cs'.length:=by
         have:=(List.getElem?_eq_some_iff.1 hj).1;omega
        refine⟨cs'[j],?_,h5 j s _ hj (List.getElem?_eq_getElem hlt)⟩;have:=h2 j cs'[j] (List.getElem?_eq_getElem hlt);have hadd:∀ p q,((⟨ab,ao,none⟩:Addr).add p).add q=⟨ab,ao+p+q,none⟩:=fun p q=>by
         unfold Addr.add;by_cases hp:p=0 <;>by_cases hq:q=0 <;>simp[hp,hq]
        rwa[hadd]at this
       have hL:((List.range len).map X).length=len:=by simp
       refine RC.one (s:=.rs k ((List.range len).map X)) (by simp[fit]) ?_;have hget:∀ (i:Nat) (x:k.T),((List.range len).map X)[i]? =some x→i<len∧x=X i:=fun i x hi=>by
        obtain⟨h1,h2⟩:=List.getElem?_eq_some_iff.1 hi;rw[hL]at h1;simp only[List.getElem_map,List.getElem_range]at h2;subst h2;exact⟨h1,rfl⟩
       have:=Rel.rs (F:=F) (own:=own) (w:=w) (k:=k) (l:=(List.range len).map X) (b:=ab) (o:=ao) (cap:=cap) (fun i j=>(w.cell? ⟨ab,ao+i*aa k+j,none⟩).getD undef) (by rw[hL];exact hl) (by rw[hL];exact hs1)
        (fun i x hi j s hj=>by
         obtain⟨h1,rfl⟩:=hget i x hi;obtain⟨v,h2,_⟩:=hX i h1 j s hj;exact⟨hown _,by rw[h2];rfl⟩)
        (fun i x hi j s hj=>by
         obtain⟨h1,rfl⟩:=hget i x hi;obtain⟨v,h2,h3⟩:=hX i h1 j s hj;rw[h2];exact h3)
       rwa[hL]at this
   ·cases h
  ·rename_i fs ht;obtain⟨xs,m,rfl,rfl,hl,hlen,hf⟩:=DataW.trod_struct ht hx;rw[←hl]at h;have:=JB (p8 hS hown n) m cs fs.toList 0 ks h fun f hfm=>by
    obtain⟨i,hi,rfl⟩:=List.getElem_of_mem hfm;have hi':i<fs.size:=by simpa using hi
    have h1:=hf i fs[i] (by simp[hi']);rw[List.getElem?_eq_getElem (by omega)]at h1;refine⟨_,by simpa using h1,hS.agg _ hs _ (List.mem_map_of_mem (List.getElem_mem _))⟩
   simpa using this
  ·rename_i m e ht;split at h
   ·rename_i a ha;cases hb:Nat.beq a.length (P.cellsOf e)&&Nat.beq (P.cellsOf t) (m*a.length)with
    |false=>rw[hb]at h;cases h
    |true=>
     rw[hb]at h;cases h;rw[Bool.and_eq_true]at hb;have e1:a.length=P.cellsOf e:=Nat.eq_of_beq_eq_true hb.1;have e2:P.cellsOf t=m*a.length:=Nat.eq_of_beq_eq_true hb.2;obtain⟨xs,f2,rfl,rfl,hl,hlen,hf⟩:=DataW.trod_array ht hx;refine JD (p8 hS hown n e a ha) f2 m cs (by rw[hl,e2]) fun i hi=>?_;have h1:=hf i hi;rw[List.getElem?_eq_getElem (by omega),←e1]at h1;exact⟨_,h1,hS.agg _ hs _ (List.mem_map_of_mem (List.getElem_mem _))⟩
   ·cases h
  ·cases h
end
theorem NQ {H:Type}{enc:TypeId×Value→H}{P:Program}{w:World}{base:Nat}{spare:Nat→Bool}{held:Bool}{F:Nat→Prop}{own:Own}{t e:TypeId}{fs:Array Field}{f:Field}(ht:P.underlying t=some (.slice e))(he:P.underlying e=some (.struct fs))(hf:fs[8]? =some f)(ho:f.offset=8)(hg:P.underlying f.type=some (.int .i64))(hs1:P.cellsOf f.type=1)(hc:P.cellsOf e=9)
  {fuel:Nat} {v:Value} {x:DataW H×List MemPlace} (hx:DataW.trod enc P w base spare held fuel t [v]=some x) (l:List Tag.judgement.T) (hr:Rel F own w (.rs .judgement l) v):∀ y∈(show List Judgement from l),(-9223372036854775808:Int)≤y.of_∧y.of_<9223372036854775808:=by
 intro y hy;rcases open_slice ht hx with⟨h0,_⟩ | ⟨a,len,cap,m,f2,D,Pl,h0,hb1,hl,hm,hmm,_,hel⟩
 ·simp only[List.cons.injEq,and_true]at h0;subst h0;cases hr;cases hy
 ·simp only[List.cons.injEq,and_true]at h0;subst h0;cases hr with
  |rs0=>cases hy
  | @rs _ _ b o _ c h1 h2 h3 h4=>
   obtain⟨i,hi,rfl⟩:=List.getElem_of_mem hy;have hlm:l.length≤m:=by subst hmm;split <;>omega
   obtain⟨cs',g1,g2⟩:=hel i (by have:i<l.length:=hi;omega);obtain⟨xs,m2,rfl,_,hl2,hlen,hfl⟩:=DataW.trod_struct he g2;have h8:=hfl 8 f hf;have hlt:8<fs.size:=(Array.getElem?_eq_some_iff.1 hf).1;have e1:l[i]? =some (l[i]'hi):=List.getElem?_eq_getElem hi;have k1:=(h3 i _ e1 8 _ rfl).2;have k2:=h4 i _ e1 8 _ rfl;rw[hc]at g1;unfold World.cells? at g1;split at g1
   ·have h9:=mapM_some_length g1;have:=mapM_some_get g1 8 8 (by simp);have hadd:((⟨b,o,none⟩:Addr).add (i*9)).add 8=⟨b,o+i*9+8,none⟩:=by
     unfold Addr.add;by_cases hp:i*9=0
     ·simp only[if_pos hp];simp[hp]
     ·simp only[if_neg hp];simp
    rw[hadd]at this;have k1':w.cell? ⟨b,o+i*9+8,none⟩=some (c i 8):=k1;rw[k1']at this;have hcs:(cs'.drop 8).take 1=[c i 8]:=by
     rw[List.length_range]at h9;have hlt8:8<cs'.length:=by omega
     have hd:cs'.drop 8=cs'[8]::cs'.drop 9:=List.drop_eq_getElem_cons hlt8;rw[List.getElem?_eq_getElem hlt8,Option.some.injEq]at this;rw[hd,this];rfl
    rw[ho,hs1,hcs,List.getElem?_eq_getElem (by omega)]at h8;obtain⟨n,hn,_,hw⟩:=DataW.trod_int hg h8;simp only[List.cons.injEq,and_true]at hn;rw[bu k2]at hn;simp only[Value.int.injEq,true_and]at hn;subst hn;simp[Lit.wf,IntKind.min,IntKind.max,IntKind.signed,IntKind.bits]at hw;exact⟨hw.1,Int.lt_of_le_of_lt hw.2 (by decide)⟩
   ·cases g1
end Go.Sx
end
section
namespace Go.Sx
open Go.Proofs
section
variable {F:Nat→Prop}{own:Own}{w:World}
theorem Qo {k:Tag}{cs:Array Value}(h:RC F own w (d8 k) cs.toList):∃ x:k.T,Rel F own w (.agg (cellsOf k x)) (.agg cs):=by
 obtain⟨l,h3,h4,h5⟩:=h;refine⟨mkE k l,?_⟩;rw[qp (k:=k) (l:=l) (x:=mkE k l) (by unfold tA;rw[h3];rfl)];refine .agg (by simpa using h4.symm) fun j s hj=>?_;have hlt:j<cs.size:=by
  have:=(List.getElem?_eq_some_iff.1 hj).1;simpa[h4]using this
 exact h5 j s _ hj (by simp[Array.getD,hlt])
theorem NR {k:Tag}{v:Value}(h:RC F own w [.r k] [v]):∃ l:List k.T,Rel F own w (.rs k l) v:=by
 obtain⟨l,h3,h4,h5⟩:=h;obtain⟨x,r,rfl,h6,h7⟩:=pw h3;have h8:=h5 0 x v rfl rfl;cases x with
 |rs k' l'=>
  have:k=k':=by
   simp only[fit]at h6;exact tH h6
  subst this;exact⟨l',h8⟩
 |_=>simp[fit]at h6
end
end Go.Sx
end
section
namespace Go.Sx
open Go.ChangeShapes Go.RowKit Go.WideShapes
section
variable {H:Type}{enc:TypeId×Value→H}{P:Program}
def Qp (P:Program):List TypeId→Bool
 | [] =>true
 |t::r=>P.readableRec t&&Nat.blt t P.types.size&&Qp P r
theorem Dq (hl:laidOutB P=true){W W':World}(hg:Below W.heap.size W W'):∀ {ts:List TypeId} {vs:List Value} {ds:List (DataW H)} {ps:List MemPlace},Qp P ts=true→
  DataW.TrodAll enc P W 0 (fun _=>true) true ts vs ds ps→(∀ x∈ps,x.block<W.heap.size)→DataW.TrodAll enc P W' 0 (fun b=>decide (b<W.heap.size)) true ts vs ds ps
 | [],vs,ds,ps,_,h,_=>by
  obtain⟨rfl,rfl,rfl⟩:=trodAll_nil h;exact trodAll_mk0
 |t::ts,vs,ds,ps,hk,h,hlt=>by
  unfold Qp at hk;rw[Bool.and_eq_true,Bool.and_eq_true]at hk;obtain⟨v,vs',d,ds',p,q,rfl,rfl,rfl,h1,h2⟩:=trodAll_cons h;refine trodAll_cons_mk (WideElems.Trod_stays hl hk.1.1 (by simpa[Nat.blt_eq]using hk.1.2) h1 (fun x hx=>hg.same (hlt x (List.mem_append_left _ hx))) (fun x hx=>by simpa using hlt x (List.mem_append_left _ hx))) ?_;exact Dq hl hg hk.2 h2 fun x hx=>hlt x (List.mem_append_right _ hx)
theorem NS (hl:laidOutB P=true){f:Func}{s:ChangeSpec}{W W':World}{args:Array Value}{ds gs:List (DataW H)}{before:List MemPlace}{t:TypeId}
  (hk:Qp P f.params.toList=true) (hW:DataW.Whole enc P f.params.toList s.vars false W args.toList ds gs before)
  (hr:f.resultTypes= #[t]) (ht:P.underlying t=some .bool) (hv:s.vars=[]) (h1:(s.fn H (ds++gs)).results=[.lit (.bool true)]) (h2:(s.fn H (ds++gs)).args=ds) (h3:(s.fn H (ds++gs)).vars=[])
  (hg:Below W.heap.size W W'):s.post enc P f false true false false W args (.bool true) W':=by
 have hlt:=hW.lt;have hW0:=hW;obtain⟨p,q,hA,hV,rfl,_,_⟩:=hW;rw[hv]at hV;obtain⟨rfl,rfl⟩:=trodVars_none hV;refine⟨ds,[],p++[],[],p,[],hW0,?_,?_,?_,?_,fun h=>by cases h⟩
 ·rw[h1,hr];exact trodAll_cons_mk (shut_bool ht _) trodAll_mk0
 ·rw[h2];exact Dq hl hg hk hA fun x hx=>hlt x (by simpa using hx)
 ·rw[h3,hv];rfl
 ·exact World.keptBut_mono (fun x hx=>⟨hx,.inr (.inl (by simpa using hx))⟩) (hg.frame (· ∈p++[]))
end
end Go.Sx
end
section
namespace Go.Proofs.YtnanafpgfihjfaaGreat.bulks
theorem one_le {H:Type}(d:DataW H):1≤Rows.uptoBulk d:=by
 cases d with
 |lit l=>cases l <;>simp[Rows.uptoBulk]
 |nil=>simp[Rows.uptoBulk]
 |ptr d=>simp[Rows.uptoBulk]
 |slice qZ spare=>simp[Rows.uptoBulk]
 |agg parts=>simp[Rows.uptoBulk]
 |iface t d=>simp[Rows.uptoBulk]
 |map entries=>simp[Rows.uptoBulk]
 |held h=>simp[Rows.uptoBulk]
theorem part_le {H:Type}{d:DataW H}{l:List (DataW H)}(h:d∈l):Rows.uptoBulk d≤Rows.uptoBulkAll l:=by
 induction l with
 |nil=>cases h
 |cons x r ih=>
  simp only[Rows.uptoBulkAll];cases List.mem_cons.1 h with
  |inl e=>subst e;omega
  |inr e=>have:=ih e;omega
theorem append {H:Type}(l r:List (DataW H)):Rows.uptoBulkAll (l++r)=Rows.uptoBulkAll l+Rows.uptoBulkAll r:=by
 induction l with
 |nil=>simp[Rows.uptoBulkAll]
 |cons x l ih=>simp only[List.cons_append,Rows.uptoBulkAll,ih];omega
theorem length_le {H:Type}(l:List (DataW H)):l.length≤Rows.uptoBulkAll l:=by
 induction l with
 |nil=>simp[Rows.uptoBulkAll]
 |cons x r ih=>have:=one_le x;simp only[Rows.uptoBulkAll,List.length_cons];omega
theorem slice_le {H:Type}(qZ spare:List (DataW H)):qZ.length+spare.length+1≤Rows.uptoBulk (.slice qZ spare):=by
 have h1:=length_le qZ;have h2:=length_le spare;simp only[Rows.uptoBulk];omega
theorem slice_elems {H:Type}(qZ spare:List (DataW H)):Rows.uptoBulkAll qZ+1≤Rows.uptoBulk (.slice qZ spare):=by
 simp only[Rows.uptoBulk];omega
theorem bound {H:Type}{l:List (DataW H)}(hk:Rows.uptoSmall H l=true):Rows.uptoBulkAll l≤1048576:=by
 simpa[Rows.uptoSmall]using hk
theorem room {n b:Nat}(hn:n≤2097152)(hb:b≤4096):(n+n / 4+192)*b≤281474976710656:=by
 have h:(n+n / 4+192)*b≤2621632*4096:=Nat.mul_le_mul (by omega) hb;omega
end Go.Proofs.YtnanafpgfihjfaaGreat.bulks
end
