/- Part of the proof that the law JudgementDate returns true and leaves its arguments as they were, for all arguments of bulk at most 1048576 (the Upto form). -/
import Derived.Test.YtnanafpgfihjfaaGreatJ314
import Derived.Test.YtnanafpgfihjfaaGreatJ309
import Derived.Test.YtnanafpgfihjfaaGreatJ308
import Derived.Test.YtnanafpgfihjfaaGreatJ313
import Derived.Test.YtnanafpgfihjfaaGreatJ307
import Derived.Deep.Slices
import Derived.OpenShut
import Derived.ChangeSame
import Derived.WideKeyArgs
import Derived.Below
import Derived.Test.YtnanafpgfihjfaaGreatRows
set_option linter.all false
set_option maxHeartbeats 4000000
set_option maxRecDepth 100000
section
namespace Go.Sx
open Go.Proofs
open IntKind (i64)
theorem CO {Q:Int→Prop}{f o:Int}:∀ (S:List Claim) (n:Int) (K G:List Claim),(∀ y∈S,Q y.right)→(∀ y∈K,Q y.right)→(∀ y∈G,Q y.right)→(∀ y∈(gv f o S n K G).1,Q y.right)∧∀ y∈(gv f o S n K G).2,Q y.right
 | [],n,K,G,_,hK,hG=>⟨hK,hG⟩
 |y::S,n,K,G,hS,hK,hG=>by
  have hy:=hS y (by simp);have hS':∀ z∈S,Q z.right:=fun z hz=>hS z (by simp[hz]);have hput:∀ z:Claim,z.right=y.right→∀ w∈gf K z,Q w.right:=fun z hz w hw=>by
   rcases wS hw with⟨e1,_⟩ |hw
   ·rw[e1,hz];exact hy
   ·exact hK w hw
  by_cases hf:y.farm=f
  ·rw[gv,if_pos hf];refine CO S _ _ _ hS' ?_ ?_
   ·split
    ·exact hput _ rfl
    ·exact hK
   ·split
    ·intro z hz;rcases List.mem_append.1 hz with hz|hz
     ·exact hG z hz
     ·rw[List.mem_singleton.1 hz];exact hy
    ·exact hG
  ·rw[gv,if_neg hf];refine CO S _ _ _ hS' ?_ hG;split
   ·exact hput _ rfl
   ·exact hK
theorem CP {Q:Int→Prop}:∀ (G K:List Claim),(∀ y∈K,Q y.right)→(∀ y∈G,Q y.right)→∀ y∈G.foldl gf K,Q y.right
 | [],_,hK,_=>hK
 |x::G,K,hK,hG=>CP G (gf K x) (fun w hw=>by
   rcases wS hw with⟨e1,_⟩ |hw
   ·rw[e1];exact hG x (by simp)
   ·exact hK w hw) fun y hy=>hG y (by simp[hy])
section
variable {ρ:Int→Int}{h R F B:Int}
theorem LL {Q:Int→Prop}{dd:District}{x:Judgement}(hx:JOk dd x)(h0:x.of_=0){N:Nat}{l:List Claim}(i:InvD ρ h R F B N l)(hB:0≤B∧B≤4398046511104)(hN:N≤8192)(hl:∀ y∈l,Q y.right):∀ y∈doJ x l,Q y.right:=by
 have hlen:=i.len;have hb:=i.lit;have hL:Lit l:=fun y hy=>by have:=hb y hy;omega
 have hmB:l.length*40≤cU:=by unfold cU;omega
 have hn:0≤x.n∧x.n<4611686018427387904:=by
  by_cases hk1:x.kind=1
  ·rw[hx.none hk1];omega
  ·have:=hx.n hk1 h0;omega
 have kl:∀ n:Int,n=x.n→∀ y∈eA l x.farm n,Q y.right:=fun n e=>by
  subst e;obtain⟨_,_,e⟩:=sJ x l hn.1 hn.2 hL i.d.s hmB;rw[e];intro y hy;obtain⟨w,hw,_,e2,_⟩:=wR x.farm l x.n y (List.mem_filter.1 hy).1;rw[e2];exact hl w hw
 unfold doJ;split
 ·exact kl 0 (hx.none (by assumption)).symm
 ·split
  ·exact kl _ rfl
  ·split
   ·obtain⟨_,e⟩:=tJ l x.farm x.other x.n hB (by omega) hn.1 hn.2 hb;obtain⟨q1,q2⟩:=CO (Q:=Q) (f:=x.farm) (o:=x.other) l.reverse x.n [] [] (fun y hy=>hl y (by simpa using hy)) (fun y hy=>by cases hy) (fun y hy=>by cases hy);rw[e];exact CP _ _ q1 q2
   ·exact hl
theorem Ec {Q:Int→Prop}{dd:District}(hR:R≤256)(hF:(dd.farms.length:Int)=F)(hB:0≤B∧B≤4398046511104):∀ (L:List Judgement) (N:Nat) (l:List Claim),(∀ x∈L,JOk dd x∧x.of_=0)→InvD ρ h R F B N l→N+256*L.length≤8192→(∀ y∈l,Q y.right)→∀ y∈L.foldl (fun s x=>doJ x s) l,Q y.right
 | [],_,_,_,_,_,hl=>hl
 |x::L,N,l,hx,i,hN,hl=>by
  have h1:=hx x (by simp);simp only[List.length_cons]at hN;exact Ec hR hF hB L (N+256) (doJ x l) (fun y hy=>hx y (by simp[hy])) (i.step h1.1 h1.2 hR hF hB (by omega) [] ([],[])).2.2 (by omega) (LL h1.1 h1.2 i hB (by omega) hl)
end
section
variable {d:District}{j:List Judgement}{c:List Claim}
theorem Given.right (g:Given d j c){h:Int}(hh:∀ x∈c,x.hour=h){Q:Int→Prop}(hq:∀ y∈c,Q y.right):∀ y∈doH j h c,Q y.right:=by
 have hin:∀ x∈aC j h,x∈j∧x.of_=0:=fun x hx=>by
  rw[kP]at hx;have:=List.mem_filter.1 hx;exact⟨this.1,vt this.2⟩
 have hlen:(aC j h).length≤20:=by
  rw[kP];have:=List.length_filter_le (fun x=>aG j x h) j;have:=g.jl;omega
 have e:doH j h c=(aC j h).foldl (fun s x=>doJ x s) c:=by rw[kP];rfl
 rw[e];exact Ec (R:=d.rights.length) (F:=d.farms.length) (by have:=g.rl;omega) rfl (by unfold Fo;omega) (aC j h) 300 c (fun x hx=>⟨g.js x (hin x hx).1,(hin x hx).2⟩) (g.start hh) (by omega) hq
theorem nv (c:List Claim)(h:Int):(fj c h).Sublist c∧∀ x∈fj c h,x.hour=h:=⟨List.filter_sublist,fun x hx=>by simpa using (List.mem_filter.1 hx).2⟩
theorem Given.byhour (g:Given d j c):Fk c:=g.st.imp fun {a b} hab=>by
 unfold xo s6 at hab;rcases hab with h| ⟨h,_⟩ <;>omega
theorem Given.out (g:Given d j c):exS j (c.length+1) c=exR j c 0 d.hours.toNat:=IU j _ c 0 _ (by omega) g.byhour fun z hz=>by
 have h1:=(g.cs z hz).h0;have h2:=(g.cs z hz).h1;omega
theorem Ed {r:Claim→Claim→Prop}{f:Int→List Claim}(h1:∀ h,(f h).Pairwise r)(h2:∀ h k,h<k→∀ a∈f h,∀ b∈f k,r a b):∀ (n:Nat) (lo:Int),(vQ f lo n).Pairwise r
 |0,_=>List.Pairwise.nil
 |n+1,lo=>List.pairwise_append.2 ⟨h1 lo,Ed h1 h2 n (lo+1),fun a ha b hb=>by
  obtain⟨k,k1,_,hb⟩:=zb hb;exact h2 lo k (by omega) a ha b hb⟩
theorem Given.cl4 (g:Given d j c)(n:Nat)(lo:Int):(exR j c lo n).Pairwise xo:=by
 have hd:∀ h,Dock (rho d) h (doH j h (fj c h)):=fun h=>((g.sub (nv c h).1).hour (nv c h).2 [] ([],[])).2.1.d;refine Ed (fun h=>?_) (fun h k hk a ha b hb=>?_) n lo
 ·refine(hd h).s.imp_of_mem fun {a b} ha hb hab=>?_;exact Or.inr ⟨by rw[(hd h).hr a ha,(hd h).hr b hb],hab⟩
 ·exact Or.inl (by rw[(hd h).hr a ha,(hd k).hr b hb];exact hk)
theorem Given.fine (g:Given d j c){x:Claim}(hx:x∈exR j c 0 d.hours.toNat)(hl:x.litres≤1073741824):FineC d x:=by
 obtain⟨h,h1,h2,hx⟩:=zb hx;have gs:=g.sub (nv c h).1;have i:=(gs.hour (nv c h).2 [] ([],[])).2.1;have hp:=i.pl x hx;have hk:=gs.right (nv c h).2 (Q:=fun r=>(d.rights.getD r.toNat default).kind=1) (fun y hy=>(gs.cs y hy).kind) x hx;have hh:=i.d.hr x hx;have hpos:=i.d.pos x hx;exact⟨hp.1.1,hp.1.2,hp.2.1,hp.2.2,by omega,by omega,by omega,hl,hk,(i.d.rk x hx).symm⟩
theorem IY {d:District}{c:List Claim}{j:List Judgement}(h:(sZ d c j).2=0):(aT d j=0∧bg d c=0)∧(sZ d c j).1=exS j (c.length+1) c∧(exS j (c.length+1) c).length≤4096∧∀ x∈exS j (c.length+1) c,x.litres≤1073741824:=by
 unfold sZ at h ⊢;cases h1:aT d j !=0 with
 |true=>
  rw[h1]at h;have h1:aT d j≠0:=by simpa using h1
  exact absurd h h1
 |false=>
  rw[h1]at h;simp only[cond_false]at h ⊢;cases h2:bg d c !=0 with
  |true=>
   rw[h2]at h;have h2:bg d c≠0:=by simpa using h2
   exact absurd h h2
  |false=>
   rw[h2]at h;simp only[cond_false]at h ⊢;cases h3:(decide (((exS j (c.length+1) c).length:Int) > 4096)) ||(exS j (c.length+1) c).any bo with
   |true=>rw[h3]at h;cases h
   |false=>
    rw[Bool.or_eq_false_iff]at h3;refine⟨⟨by simpa using h1,by simpa using h2⟩,rfl,?_,fun x hx=>?_⟩
    ·have:=of_decide_eq_false h3.1;omega
    ·have:=List.any_eq_false.1 h3.2 x hx;unfold bo at this;simp only[decide_eq_true_eq]at this;omega
theorem LM {d:District}{c:List Claim}{j:List Judgement}(hj:JR j)(hf:oQ d c j=true)(h:(sZ d c j).2=0):Given d j c∧bg d (sZ d c j).1=0∧(sZ d c j).1=exR j c 0 d.hours.toNat:=by
 obtain⟨f1,f2⟩:=Se hf hj;obtain⟨⟨h1,h2⟩,h3,h4,h5⟩:=IY h;have g:=Hs h1 hj h2 (f1 h1) (f2 h2);rw[h3];rw[g.out]at h4 h5 ⊢;exact⟨g,IP (yk h2).1 h4 (fun x hx=>g.fine hx (h5 x hx)) (g.cl4 _ _),rfl⟩
end


def fb (y:Claim)(m_:List (Int×Bool)):Bool:=(!(du .int .bool m_ y.farm))
@[go_sem] def o4:List SV→Option Con:=(pD .claim fun y=>(pXM .int .bool fun m_=>(pE (.det True (.v (.bool (fb y m_)))))))
theorem uc:FnOk Tryz.prog 27 o4:=by
 have hG:ConsOk Tryz.prog (mkG [] []):=ap cg0 cg0;refine av [.o] mixed al hG (fn:=Tryz.f27) (c:=ae Tryz.f27) kr kr kr kr (bp fun y=>(yY fun m_=>(ai (fun hp=>?_))));dsimp only[ar]at hp;refine⟨nbl rfl,L0,ag _,?_⟩
 ·unfold ae Tryz.f27;try unfold fb
  exact zq1
def fc (y:Claim)(j_:List Judgement)(i_:Int):Bool:=(decide (y.hour< (j_.getD (Int.toNat i_) default).hour))
def ko (y:Claim)(j_:List Judgement)(i_:Int):Prop:=(0≤i_∧i_< (j_.length:Int))
@[go_sem] noncomputable def o5:List SV→Option Con:=(pD .claim fun y=>(pXR .judgement fun j_=>(pX .int fun i_=>(pE (.det (ko y j_ i_) (.v (.bool (fc y j_ i_))))))))
theorem ud:FnOk Tryz.prog 30 o5:=by
 have hG:ConsOk Tryz.prog (mkG [] []):=ap cg0 cg0;refine av [.o] mixed al hG (fn:=Tryz.f30) (c:=ae Tryz.f30) kr kr kr kr (bp fun y=>(yS fun j_=>(aO fun i_=>(ai (fun hp=>?_)))));dsimp only[ar]at hp;unfold ko at hp;refine⟨nbl rfl,L0,ag _,?_⟩
 ·unfold ae Tryz.f30;try unfold fc
  exact zq1
@[go_sem] def oq (c:List Claim)(m_:List (Int×Bool))(k_0:Nat)(s_0:List Claim):Empty⊕(List Claim):=(bif(fb (c.getD k_0 default) m_)then .inr (s_0++([(c.getD k_0 default)]))else .inr s_0)
def pL (c:List Claim)(m_:List (Int×Bool))(k_0:Nat)(s_0:List Claim):Prop:=((fb (c.getD k_0 default) m_)=true→((s_0++([(c.getD k_0 default)])).length*40≤cU))
def fw (c:List Claim)(m_:List (Int×Bool)):List Claim:=(match aq (oq c m_) c.length 0 ([])with| .inl x=>x.elim| .inr s_0=>s_0)
def nc (c:List Claim)(m_:List (Int×Bool)):Prop:=(c.length≤aL→okI (oq c m_) (pL c m_) c.length 0 ([]))
@[go_sem] def wX:List SV→Option Con:=(pR .claim fun c=>(pFn 27 (pXM .int .bool fun m_=>(pE ((pE (.det (nc c m_) (.nw .claim (fw c m_)))))))))
theorem AQ:FnOk Tryz.prog 28 wX:=by
 have hG:ConsOk Tryz.prog (mkG [(27,o4)] []):=ap (cgc uc cg0) cg0;refine Cq [(.tmp 4,.claim)] mixed al hG (fn:=Tryz.f28) (c:=ae Tryz.f28) kr kr kr kr (bK fun c=>(bq (yY fun m_=>(ai ((ai (fun hp=>?_)))))));dsimp only[ar]at hp;unfold nc at hp;refine⟨nbl rfl,(fun id st=>bif Nat.beq id 0 then some (LCR (ρ:=Empty) (σ:=(List Claim)) 0 [.slot 4 (.row .claim ([]))] [0] (fun k_0 s_0=>⟨[(1,.fn 27 [] [.ep [.rm .int .bool m_] 0]),(4,.os 0),(7,.rs .claim c),(8,.v (.int .i64 (c.length:Int))),(9,.v (.int .i64 (k_0:Int)))],[.row .claim s_0]⟩) (oq c m_) (pL c m_) c.length ([]) (c.length≤aL) ((·.elim)) ((·.elim)) st)else none),?_,?_⟩
 ·unfold ae Tryz.f28;simp only[am,true_and,and_true]
  ·refine aV mixed al hG kr (fun _=>rfl) (c.length:Int) rfl ia (fun hb0 k_0 s_0 hlt0 hq0 hw hc=>⟨L0,ag _,?_⟩) (fun hb0 s_0 hc=>?_)
   ·unfold pL at hq0;try simp only[hw,Int.toNat_natCast]at hq0
    exact lh (jl [3]) (jl [0])
   ·exact jT (jl [3]) (jl [0])
 ·unfold ae Tryz.f28;try unfold fw
  exact zq1
@[go_sem] noncomputable def lC:List SV→Option Con:=fun l=>(wX l)
theorem CQ:FnOk Tryz.prog 28 lC:=AQ
@[go_sem] def qI (c:List Claim)(k_0:Nat)(s_0:List (Int×Int)):Empty⊕(List (Int×Int)):=.inr (iX .int .int s_0 ((c.getD k_0 default).hour) (i64.wrap ((du .int .int s_0 ((c.getD k_0 default).hour))+(c.getD k_0 default).litres)))
def cn (c:List Claim):List (Int×Int):=(match aq (qI c) c.length 0 ([])with| .inl x=>x.elim| .inr s_0=>s_0)
@[go_sem] def zl:List SV→Option Con:=(pR .claim fun c=>(pE (.det True (.nm .int .int (cn c)))))
theorem Dd:FnOk Tryz.prog 29 zl:=by
 have hG:ConsOk Tryz.prog (mkG [] []):=ap cg0 cg0;refine Is true mixed al hG (fn:=Tryz.f29) (c:=ae Tryz.f29) kr kr kr kr (bK fun c=>(ai (fun hp=>?_)));dsimp only[ar]at hp;refine⟨nbl rfl,(fun id st=>bif Nat.beq id 0 then some (LCR (ρ:=Empty) (σ:=(List (Int×Int))) 1 [] [0] (fun k_0 s_0=>⟨[(3,.os 0),(7,.rs .claim c),(8,.v (.int .i64 (c.length:Int))),(9,.v (.int .i64 (k_0:Int)))],[.mp .int .int s_0 none]⟩) (qI c) pT c.length ([]) (c.length≤aL) ((·.elim)) ((·.elim)) st)else none),?_,?_⟩
 ·unfold ae Tryz.f29;simp only[am,true_and,and_true]
  ·refine aV mixed al hG kr (fun _=>rfl) (c.length:Int) rfl ia (fun hb0 k_0 s_0 hlt0 _ hw hc=>⟨L0,ag _,?_⟩) (fun hb0 s_0 hc=>?_)
   ·exact bX (jl [0])
   ·exact bH (jl [0])
 ·unfold ae Tryz.f29;try unfold cn
  exact zq1
theorem Ht {α:Type}(l:List α)(d:α)(P:α→Bool){step:Nat→List α→Empty⊕List α}(h:∀ k s,step k s=bif P (l.getD k d)then .inr (s++[l.getD k d])else .inr s):aq step l.length 0 []=.inr (l.filter P):=by
 have key:∀ (R A:List α) (s:List α),l=A++R→aq step R.length A.length s=.inr (s++R.filter P):=fun R=>by
  induction R with
  |nil=>intro A s _;simp[aq]
  |cons y R ih=>
   intro A s hl;have g:l.getD A.length d=y:=by rw[hl];exact gc A y d R rfl
   have hl':l=(A++[y])++R:=by rw[hl];simp
   have ih:=fun s=>ih (A++[y]) s hl';rw[List.length_append,List.length_singleton]at ih;simp only[List.length_cons,aq,h,g];cases hc:P y with
   |true=>
    simp only[cond_true];rw[ih,List.filter_cons_of_pos hc];simp
   |false=>
    simp only[cond_false];rw[ih,List.filter_cons_of_neg (by rw[hc];simp)]
 exact key l [] [] rfl
theorem OB {α:Type}(l:List α)(d:α)(P:α→Bool){step:Nat→List α→Empty⊕List α}{p:Nat→List α→Prop}(h:∀ k s,step k s=bif P (l.getD k d)then .inr (s++[l.getD k d])else .inr s)(hp:∀ k s,k<l.length→s.length≤k→p k s):okI step p l.length 0 []:=by
 refine A0 (fun k s=>s.length≤k) _ _ _ (by simp) fun k s _ hk hs=>⟨hp k s (by omega) hs,fun s' e=>?_⟩;rw[h]at e;cases hc:P (l.getD k d) <;>rw[hc]at e <;>simp only[cond_true,cond_false,Sum.inr.injEq]at e <;>subst e
 ·omega
 ·simp;omega
theorem Ee (c:List Claim)(m:List (Int×Bool))(hc:c.length≤1000000):nc c m∧fw c m=c.filter fun y=>!du .int .bool m y.farm:=by
 refine⟨fun _=>OB c default (fun y=>fb y m) (fun k s=>rfl) fun k s hk hs _=>?_,?_⟩
 ·simp only[List.length_append,List.length_singleton];unfold cU;omega
 ·unfold fw;rw[Ht (step:=oq c m) c default (fun y=>fb y m) (fun k s=>rfl)];rfl
theorem LN {d:District}{b:List Judgement}{x:Judgement}(hb:b.length≤64)(h:gz d b x=true):(0<b.length→(b.getD (b.length - 1) default).no<x.no∧(b.getD (b.length - 1) default).hour≤x.hour)∧(0≤x.no∧x.no≤1048576)∧(x.of_≠0→0<x.of_∧kM b x=true):=by
 unfold gz at h;cases h1:((!(aQ x.no 0 1048576)) ||(!(aQ x.hour 0 d.hours))) ||((decide ((b.length:Int) > 0))&&((decide (x.no≤(b.getD (Int.toNat (i64.wrap ((b.length:Int) - 1))) (default:Judgement)).no)) ||(decide (x.hour< (b.getD (Int.toNat (i64.wrap ((b.length:Int) - 1))) (default:Judgement)).hour))))with
 |true=>rw[h1]at h;cases h
 |false=>
  rw[h1]at h;simp only[cond_false]at h;rw[Bool.or_eq_false_iff,Bool.or_eq_false_iff]at h1;refine⟨fun h0=>?_,?_,fun ho=>?_⟩
  ·have h2:=h1.2;rw[decide_eq_true (by omega:(b.length:Int) > 0),Bool.true_and,Bool.or_eq_false_iff,decide_eq_false_iff_not,decide_eq_false_iff_not,f8 (by omega) (by omega),show Int.toNat ((b.length:Int) - 1)=b.length - 1 by omega]at h2;omega
  ·have h2:=h1.1.1;simp only[Bool.not_eq_false',DZ,Bool.and_eq_true,decide_eq_true_eq]at h2;exact h2
  ·have:(x.of_==0)=false:=by simpa using ho
   rw[this]at h;simp only[cond_false,Bool.and_eq_true,decide_eq_true_eq]at h;exact⟨by omega,h.2⟩
abbrev Rd (j:List Judgement):Prop:=j.Pairwise fun a b=>a.no<b.no∧a.hour≤b.hour
theorem Kq {d:District}{j:List Judgement}(hl:j.length≤64)(h:∀ k,k<j.length→gz d (j.take k) (j.getD k default)=true):∀ n,n≤j.length→Rd (j.take n)
 |0,_=>by simp
 |n+1,hn=>by
  have ih:=Kq hl h n (by omega);have e:j.take (n+1)=j.take n++[j.getD n default]:=by
   rw[List.take_succ,List.getD_eq_getElem?_getD,List.getElem?_eq_getElem (by omega)];rfl
  rw[e];refine List.pairwise_append.2 ⟨ih,List.pairwise_singleton _ _,fun a ha b hb=>?_⟩;rw[List.mem_singleton.1 hb];have hlen:(j.take n).length=n:=by simp;omega
  have hn0:0<n:=by
   cases n with
   |zero=>simp at ha
   |succ n=>omega
  obtain⟨r1,r2⟩:=(LN (by omega) (h n (by omega))).1 (by omega);rw[hlen]at r1 r2;have hlast:(j.take n).getD (n - 1) default∈j.take n:=sI _ _ (by omega);obtain⟨i,hi,rfl⟩:=List.getElem_of_mem ha;by_cases hin:i=n - 1
  ·subst hin;rw[List.getD_eq_getElem?_getD,List.getElem?_eq_getElem hi]at r1 r2;exact⟨r1,r2⟩
  ·have:=(List.pairwise_iff_getElem.1 ih) i (n - 1) hi (by omega) (by omega);rw[List.getD_eq_getElem?_getD,List.getElem?_eq_getElem (by omega:n - 1< (j.take n).length)]at r1 r2;exact⟨by have:=this.1;simp only[Option.getD_some]at r1;omega,by have:=this.2;simp only[Option.getD_some]at r2;omega⟩
theorem jord {d:District}{j:List Judgement}(h:fF d j=0):Rd j:=by
 obtain⟨_,h1,h2⟩:=xf h;have:=Kq h1 h2 j.length (Nat.le_refl _)
 rwa[List.take_length]at this
theorem Ef (j:List Judgement)(x:Judgement)(h:Int):kA j x h=j.any fun y=>(y.of_==i64.wrap (x.no+1))&&decide (y.hour≤h):=by
 unfold kA;have key:∀ (R A:List Judgement),j=A++R→aq (my j x h) R.length A.length ()=bif R.any (fun y=>(y.of_==i64.wrap (x.no+1))&&decide (y.hour≤h))then .inl ()else .inr ():=fun R=>by
  induction R with
  |nil=>intro A _;rfl
  |cons y R ih=>
   intro A hj;have g:j.getD A.length default=y:=by rw[hj];exact gc A y default R rfl
   have ih:=ih (A++[y]) (by rw[hj];simp);rw[List.length_append,List.length_singleton]at ih;simp only[List.length_cons,aq,my,g,List.any_cons];cases(y.of_==i64.wrap (x.no+1))&&decide (y.hour≤h)with
   |true=>rfl
   |false=>exact ih
 have:=key j [] rfl;rw[List.length_nil]at this;rw[this];cases j.any fun y=>(y.of_==i64.wrap (x.no+1))&&decide (y.hour≤h) <;>rfl
structure SumM (A:List Claim)(s:List (Int×Int)):Prop where
 nd:(p6 s).Nodup
 val:∀ h:Int,du .int .int s h=tot (fj A h)
theorem Eg (A B:List Claim)(h:Int):fj (A++B) h=fj A h++fj B h:=List.filter_append _ _
theorem Kr (c:List Claim)(hc:∀ y∈c,0≤y.litres)(hb:tot c≤4611686018427387904):SumM c (cn c):=by
 have key:∀ (R A:List Claim) (s:List (Int×Int)),c=A++R→SumM A s→∃ s',aq (qI c) R.length A.length s=.inr s'∧SumM c s':=fun R=>by
  induction R with
  |nil=>intro A s hA hs;exact⟨s,rfl,by rw[List.append_nil]at hA;rw[hA];exact hs⟩
  |cons y R ih=>
   intro A s hA hs;have g:c.getD A.length default=y:=by rw[hA];exact gc A y default R rfl
   have ih:=fun s=>ih (A++[y]) s (by rw[hA];simp);rw[List.length_append,List.length_singleton]at ih;simp only[List.length_cons,aq,qI,g];refine ih _ ⟨(zQ _ _ s hs.nd).1,fun h=>?_⟩;have h1:tot (fj A y.hour)+y.litres≤tot c:=by
    have e:tot c=tot A+(y.litres+tot R):=by rw[hA,tL];rfl
    have p1:∀ z∈A,0≤z.litres:=fun z hz=>hc z (by rw[hA];simp[hz]);have p2:∀ z∈R,0≤z.litres:=fun z hz=>hc z (by rw[hA];simp[hz]);have p3:=CE p2;have p4:∀ l:List Claim,(∀ z∈l,0≤z.litres)→tot (fj l y.hour)≤tot l:=fun l=>by
     induction l with
     |nil=>intro _;exact Int.le_refl _
     |cons z l ihl=>
      intro hl;have q:=ihl fun w hw=>hl w (by simp[hw]);have qz:=hl z (by simp);unfold fj at q ⊢;by_cases e:(z.hour==y.hour)=true
      ·rw[List.filter_cons_of_pos (p:=fun z:Claim=>z.hour==y.hour) e,tot,tot];omega
      ·rw[List.filter_cons_of_neg (p:=fun z:Claim=>z.hour==y.hour) e,tot];omega
    have:=p4 A p1;omega
   have h2:0≤tot (fj A y.hour):=CE fun z hz=>hc z (by rw[hA];exact List.mem_append_left _ (List.mem_filter.1 hz).1);have h3:=hc y (by rw[hA];simp);have hv:=hs.val y.hour;have ew:i64.wrap ((du .int .int s y.hour:Int)+y.litres)=tot (fj A y.hour)+y.litres:=by
    rw[hv];exact f8 (by omega) (by omega)
   rw[xc,Eg,tL];by_cases e:h=y.hour
   ·subst e;rw[if_pos rfl];refine ew.trans ?_;have:fj [y] y.hour=[y]:=List.filter_cons_of_pos (by simp);rw[this];simp[tot]
   ·rw[if_neg e,hs.val h];have:fj [y] h=[]:=by unfold fj;rw[List.filter_cons_of_neg (by simp;omega)];rfl
    rw[this];simp[tot]
 obtain⟨s',r1,r2⟩:=key c [] [] rfl ⟨by simp[p6],fun h=>rfl⟩;unfold cn;rw[List.length_nil]at r1;rw[r1];exact r2
theorem SumM.mem {c:List Claim}{s:List (Int×Int)}(m:SumM c s){e:Int×Int}(he:e∈s):e.2=tot (fj c e.1):=by
 have h1:=(GL m.nd (x:=e.1) (y:=e.2)).2 he;have h2:=m.val e.1;have h3:du .int .int s e.1=e.2:=by
  show(iY s e.1).getD _=_;have h1':iY s e.1=some e.2:=h1;rw[h1'];rfl
 rw[h3]at h2;exact h2
theorem Ks {τ:Type}{step:τ→Unit→Unit⊕Unit}{p:τ→Unit→Prop}(hp:∀ x s,p x s){l:List τ}(h:∀ x∈l,step x ()=.inr ()):okM step p l ()∧gD step l ()=.inr ():=by
 have key:∀ L:List τ,(∀ x∈L,step x ()=.inr ())→gD step L ()=.inr ():=fun L=>by
  induction L with
  |nil=>intro _;rfl
  |cons x L ih=>intro hL;simp only[gD,hL x (by simp)];exact ih fun y hy=>hL y (by simp[hy])
 refine⟨fun L hL=>⟨?_,E1 L () fun x _ s=>hp x s⟩,key l h⟩;rw[key l h,key L fun x hx=>h x (hL.subset hx)]
theorem Eh {f:Int→List Claim}(hf:∀ h,∀ z∈f h,z.hour=h)(h:Int):∀ (n:Nat) (lo:Int),fj (vQ f lo n) h=if lo≤h∧h<lo+n then f h else []
 |0,lo=>by rw[if_neg (by omega)];rfl
 |n+1,lo=>by
  rw[vQ,Eg,Eh hf h n (lo+1)];by_cases e:h=lo
  ·subst e;have:fj (f h) h=f h:=List.filter_eq_self.2 fun z hz=>by rw[hf h z hz];simp
   rw[this,if_neg (by omega),if_pos (by omega),List.append_nil]
  ·have:fj (f lo) h=[]:=List.filter_eq_nil_iff.2 fun z hz=>by rw[hf lo z hz];simp;omega
   rw[this,List.nil_append];by_cases e2:lo+1≤h∧h<lo+1+n
   ·rw[if_pos e2,if_pos (by omega)]
   ·rw[if_neg e2,if_neg (by omega)]
theorem OC {j:List Judgement}(h:∀ k l,doH j k l=l):∀ (n:Nat) (c:List Claim),c.length<n→exS j n c=c
 |0,_,hk=>absurd hk (Nat.not_lt_zero _)
 |n+1,[],_=>rfl
 |n+1,y::r,hk=>by
  have hlen:(r.dropWhile fun z=>z.hour==y.hour).length<n:=by
   have:=(List.dropWhile_sublist (fun z:Claim=>z.hour==y.hour) (l:=r)).length_le;simp only[List.length_cons]at hk;omega
  rw[exS,h,OC h n _ hlen,List.cons_append,List.takeWhile_append_dropWhile]
end Go.Sx
end
section
namespace Go.Sx
universe u
section
variable {α:Type u}
def pV (k:Int→List SV→Option α):List SV→Option α
 | .v (.int .u8 n)::r=>k n r
 |_=>none
@[go_sem] theorem aaw {k:Int→List SV→Option α}{n:Int}{r:List SV}:pV k (.v (.int .u8 n)::r)=k n r:=(rfl)
theorem Ut {k:Int→List SV→Option α}{l:List SV}{c:α}(h:pV k l=some c):∃ n r,l=.v (.int .u8 n)::r∧k n r=some c:=by
 unfold pV at h;split at h
 ·exact⟨_,_,rfl,h⟩
 ·cases h
def pW (k:Int→List SV→Option α):List SV→Option α
 | .v (.int .u16 n)::r=>k n r
 |_=>none
@[go_sem] theorem aax {k:Int→List SV→Option α}{n:Int}{r:List SV}:pW k (.v (.int .u16 n)::r)=k n r:=(rfl)
theorem Uu {G:List SV→α→Prop}{k:Int→List SV→Option α}(h:∀ n l c,k n l=some c→G (.v (.int .u8 n)::l) c):∀ l c,pV k l=some c→G l c:=fun l c hc=>by
 obtain⟨n,r,rfl,h1⟩:=Ut hc;exact h n r c h1
end
end Go.Sx
end
section
namespace Go.Sx
@[go_sem] theorem YY {te:TI}{nx:Nat}{h:List Ob}{s:SV}:nH te nx h [.any,s]=.bad:=(rfl)
@[go_sem] theorem abu {t:Tag}{f:List t.T→List SV→Option Con}{l:List SV}:pR t f (.any::l)=none:=(rfl)
end Go.Sx
end
section
namespace Go.Sx
open Go.Proofs
open IntKind (i64)
@[go_sem] def ot (c_:List Claim)(j_:List Judgement)(i_:Int)(k_0:Nat)(s_0:List Claim):Empty⊕(List Claim):=(bif(fc (c_.getD k_0 default) j_ i_)then .inr (s_0++([(c_.getD k_0 default)]))else .inr s_0)
def pN (c_:List Claim)(j_:List Judgement)(i_:Int)(k_0:Nat)(s_0:List Claim):Prop:=((ko (c_.getD k_0 default) j_ i_)∧((fc (c_.getD k_0 default) j_ i_)=true→((s_0++([(c_.getD k_0 default)])).length*40≤cU)))
def gN (c_:List Claim)(j_:List Judgement)(i_:Int):List Claim:=(match aq (ot c_ j_ i_) c_.length 0 ([])with| .inl x=>x.elim| .inr s_0=>s_0)
def iU (c_:List Claim)(j_:List Judgement)(i_:Int):Prop:=(c_.length≤aL→okI (ot c_ j_ i_) (pN c_ j_ i_) c_.length 0 ([]))
noncomputable def s4:List SV→List Ob→Option HCon:=pt (fun x_:(List Claim)×(List Judgement)×Int=>[.os 0,.fn 30 [] [.ptr 1 0,.ptr 2 0]]) (fun x_=>[.row .claim x_.1,.cells [.rs .judgement x_.2.1],.cells [.v (.int .i64 x_.2.2)]]) (fun x_=>ik (iU x_.1 x_.2.1 x_.2.2) (.rs .claim (gN x_.1 x_.2.1 x_.2.2)) [.row .claim x_.1,.cells [.rs .judgement x_.2.1],.cells [.v (.int .i64 x_.2.2)]])
@[go_sem] theorem Kt (c_:List Claim)(j_:List Judgement)(i_:Int):s4 ([.os 0,.fn (30:Nat) [] [.ptr 1 0,.ptr 2 0]]) ([.row .claim c_,.cells [.rs .judgement j_],.cells [.v (.int .i64 i_)]])=some (ik (iU c_ j_ i_) (.rs .claim (gN c_ j_ i_)) [.row .claim c_,.cells [.rs .judgement j_],.cells [.v (.int .i64 i_)]]):=lw (A:=fun x_:(List Claim)×(List Judgement)×Int=>[.os 0,.fn 30 [] [.ptr 1 0,.ptr 2 0]]) (H:=fun x_=>[.row .claim x_.1,.cells [.rs .judgement x_.2.1],.cells [.v (.int .i64 x_.2.2)]]) (K:=fun x_=>ik (iU x_.1 x_.2.1 x_.2.2) (.rs .claim (gN x_.1 x_.2.1 x_.2.2)) [.row .claim x_.1,.cells [.rs .judgement x_.2.1],.cells [.v (.int .i64 x_.2.2)]]) (x:=(c_,j_,i_))
theorem AR:FnOkO Tryz.prog 28 s4:=by
 have hG:ConsOk Tryz.prog (mkG [(30,o5)] []):=ap (cgc ud cg0) cg0;refine Ow [.sl .claim] mixed al hG (fn:=Tryz.f28) (c:=ae Tryz.f28) kr kr kr kr fun l o con h=>?_;obtain⟨⟨c_,j_,i_⟩,rfl,rfl,rfl⟩:=jx h;clear h;try dsimp only
 refine⟨_,_,_,rfl,rfl,fun hp=>?_⟩;unfold iU at hp;refine⟨nbl rfl,(fun id st=>bif Nat.beq id 0 then some (LCR (ρ:=Empty) (σ:=(List Claim)) 3 [.slot 4 (.row .claim ([]))] [0,1,2,3] (fun k_0 s_0=>⟨[(1,.fn 30 [] [.ptr 1 0,.ptr 2 0]),(4,.os 3),(7,.os 0),(8,.v (.int .i64 (c_.length:Int))),(9,.v (.int .i64 (k_0:Int)))],[.row .claim c_,.cells [.rs .judgement j_],.cells [.v (.int .i64 i_)],.row .claim s_0]⟩) (ot c_ j_ i_) (pN c_ j_ i_) c_.length ([]) (c_.length≤aL) ((·.elim)) ((·.elim)) st)else none),?_,?_⟩
 ·unfold ae Tryz.f28;simp only[am,true_and,and_true]
  ·refine aV mixed al hG kr (fun _=>rfl) (c_.length:Int) rfl ia (fun hb0 k_0 s_0 hlt0 hq0 hw hc=>⟨L0,ag _,?_⟩) (fun hb0 s_0 hc=>?_)
   ·unfold pN at hq0;try simp only[hw,Int.toNat_natCast]at hq0
    exact lh (jl [0,1,2,6]) (jl [0,1,2,3])
   ·exact jT (jl [0,1,2,6]) (jl [0,1,2,3])
 ·unfold ae Tryz.f28;try unfold gN
  exact sH (jl [0,1,2])
@[go_sem] def bk (a2:List Judgement)(k_0:Nat)(s_0:List (Int×Bool)×Bool):Empty⊕(List (Int×Bool)×Bool):=letI q0:=a2.getD k_0 default;letI q1:=(s_0.2&&(q0.kind !=1))&&(q0.kind !=2);letI q2:=iX .int .bool s_0.1 (q0.farm) true;letI q3:=q0.of_==0;(bif q3 then(bif(q3&&((q0.kind==3) ||(q0.kind==4)))then .inr ((iX .int .bool q2 (q0.other) true),q1)else .inr (q2,q1))else(bif(q3&&((q0.kind==3) ||(q0.kind==4)))then .inr ((iX .int .bool s_0.1 (q0.other) true),s_0.2)else .inr (s_0.1,s_0.2)))
@[go_sem] def gm (a0:District)(a1:List Claim)(a2:List Judgement)(k_1:Int×Int)(s_1:Unit):Unit⊕Unit:=(bif(decide (k_1.2 > (du .int .int (cn a1) k_1.1)))then .inl ()else .inr ())
def gO (a0:District)(a1:List Claim)(a2:List Judgement)(k_1:Int×Int)(s_1:Unit):Prop:=True
@[go_sem] def eO (a0:District)(a1:List Claim)(a2:List Judgement)(s_0:List (Int×Bool)×Bool)(k_2:Int×Int)(s_2:Unit):Unit⊕Unit:=(bif(s_0.2&&((du .int .int (cn ((ax a0 a1 a2).1)) k_2.1) !=k_2.2))then .inl ()else .inr ())
def gP (a0:District)(a1:List Claim)(a2:List Judgement)(s_0:List (Int×Bool)×Bool)(k_2:Int×Int)(s_2:Unit):Prop:=True
def gq (a0:District)(a1:List Claim)(a2:List Judgement)(a3:Int):Bool:=letI q1:=ax a0 a1 a2;letI q2:=Int.tmod (i64.wrap a3) (a2.length:Int);letI q0:=ax a0 a1 ((a2.take (Int.toNat q2)).drop 0);(bif(!qw)then false else(bif(!(oQ a0 a1 a2))then true else(bif(q1.2 !=0)then(((q1.1).length:Int) ==0)else(match aq (bk a2) a2.length 0 ([],true)with| .inl x=>x.elim| .inr s_0=>(bif(!(iG (fw (q1.1) s_0.1) (fw a1 s_0.1)))then false else(match gD (gm a0 a1 a2) (cn (q1.1)) ()with| .inl x_1_0=>false| .inr s_1=>(match gD (eO a0 a1 a2 s_0) (cn a1) ()with| .inl x_2_0=>false| .inr s_2=>(bif((a2.length:Int) ==0)then(iG (q1.1) a1)else(bif(q0.2 !=0)then true else((q0.2 !=0) ||(iG (gN (q1.1) a2 q2) (gN (q0.1) a2 q2))))))))))))
def fe (a0:District)(a1:List Claim)(a2:List Judgement)(a3:Int):Prop:=letI q3:=(a2.length:Int);letI q1:=Int.tmod (i64.wrap a3) q3;letI q5:=gm a0 a1 a2;letI q6:=(a2.take (Int.toNat q1)).drop 0;letI q0:=ax a0 a1 q6;letI q4:=q0.2 !=0;letI q7:=iU (q0.1) a2 q1;letI q8:=ax a0 a1 a2;letI q2:=q8.1;((pK)∧((!qw)=false→((!(oQ a0 a1 a2))=false→((b9 a0 a1 a2)∧((q8.2 !=0)=false→(a2.length≤aL→(∀ s_0,aq (bk a2) a2.length 0 ([],true)=.inr s_0→((nc q2 s_0.1)∧((nc a1 s_0.1)∧((jg (fw q2 s_0.1) (fw a1 s_0.1))∧((!(iG (fw q2 s_0.1) (fw a1 s_0.1)))=false→(okM q5 (gO a0 a1 a2) (cn q2) ()∧(∀ s_1,gD q5 (cn q2) ()=.inr s_1→(okM (eO a0 a1 a2 s_0) (gP a0 a1 a2 s_0) (cn a1) ()∧(∀ s_2,gD (eO a0 a1 a2 s_0) (cn a1) ()=.inr s_2→(a2.length≤aL→(((q3==0)=true→(jg q2 a1))∧((q3==0)=false→(a2.length≤aL→(q3≠0∧((0≤0∧0≤q1∧q1≤q3)∧((b9 a0 a1 q6)∧((q4=true→((q4=true→(q4=true))∧(q4=false→(q7∧(q4=true)))))∧(q4=false→((iU q2 a2 q1)∧(q7∧(q4=false→(jg (gN q2 a2 q1) (gN (q0.1) a2 q1)))))))))))))))))))))))))))))
@[go_sem] def lV:List SV→Option Con:=(pD .district fun a0=>(pR .claim fun a1=>(pR .judgement fun a2=>(pV fun a3=>(pE (.det (fe a0 a1 a2 a3) (.v (.bool (gq a0 a1 a2 a3)))))))))
theorem Sf {l0:List Nat}(a0:JL l0){p:Prop}(h:JL l0→p:=by intro ja;simp only[go_sem,Nat.reduceBEq,Nat.reduceLeDiff,Nat.reduceLT,decide_true,Nat.reduceAdd,Nat.reduceSub,Nat.reduceMul,Int.reduceLE,Int.reduceLT,Int.reduceToNat,Int.reduceNeg,reduceCtorEq,lC,List.not_mem_nil];all_goals exact gT ja):p:=h a0
theorem YZ {p:Prop}(h:p:=by simp only[go_sem,Nat.reduceBEq,Nat.reduceLeDiff,Nat.reduceLT,decide_true,Nat.reduceAdd,Nat.reduceSub,Nat.reduceMul,Int.reduceLE,Int.reduceLT,Int.reduceToNat,Int.reduceNeg,reduceCtorEq,lC];all_goals exact cl):p:=h
theorem vB:FnOk Tryz.prog 5 lV:=by
 have hG:ConsOk Tryz.prog (mkG [(10,zk),(11,fun l=>Ap (bv [.st .district,.sl .claim,.sl .judgement] l)),(12,fun l=>nK (bv [.st .district,.sl .claim,.sl .judgement] l)),(18,fun l=>vj (bv [.sl .claim,.sl .claim] l)),(28,fun l=>lC (bv [.sl .claim,.o] l)),(29,fun l=>zl (bv [.sl .claim] l))] [(28,s4)]):=ap (cgc Dc (cgc (E5.norm [.st .district,.sl .claim,.sl .judgement]) (cgc (qY.norm [.st .district,.sl .claim,.sl .judgement]) (cgc (xH.norm [.sl .claim,.sl .claim]) (cgc (CQ.norm [.sl .claim,.o]) (cgc (Dd.norm [.sl .claim]) cg0)))))) (cgc AR cg0);refine av [.o] mixed al hG (fn:=Tryz.f5) (c:=ae Tryz.f5) kr kr kr kr (bp fun a0=>(bK fun a1=>(bK fun a2=>(Uu fun a3=>(ai (fun hp=>?_))))));dsimp only[ar]at hp;unfold fe at hp;refine⟨nbl rfl,(fun id st=>bif Nat.beq id 0 then some (LCR (ρ:=Empty) (σ:=(List (Int×Bool)×Bool)) 5 [] [0,1,2,3,4] (fun k_0 s_0=>⟨[(1,.rs .claim a1),(3,.v (.int .u8 a3)),(4,.ptr 0 0),(6,.ptr 1 0),(9,.os 2),(11,.ptr 4 0),(12,.v (.bool s_0.2)),(46,.rs .judgement a2),(47,.v (.int .i64 (a2.length:Int))),(48,.v (.int .i64 (k_0:Int)))],[.cells (cellsOf .district a0),.cells [.rs .judgement a2],.row .claim ((ax a0 a1 a2).1),.mp .int .bool s_0.1 none,.cells [.os 3]]⟩) (bk a2) pT a2.length ([],true) (a2.length≤aL) ((·.elim)) ((·.elim)) st)else bif Nat.beq id 2 then some (LCM (τ:=Int×Int) (ρ:=Unit) (σ:=Unit) 10 [] [0,1,2,3,4,5,6,7,8,9] (fun left_1 cur_1 s_1=>⟨[(1,.rs .claim a1),(3,.v (.int .u8 a3)),(4,.ptr 0 0),(6,.ptr 1 0),(9,.os 2),(12,.v (.bool (dL (aq (bk a2) a2.length 0 ([],true))).2)),(16,.os 7),(17,.os 8),(100,.ptr 9 0)],[.cells (cellsOf .district a0),.cells [.rs .judgement a2],.row .claim ((ax a0 a1 a2).1),.dead,.dead,.dead,.dead,.mp .int .int (cn a1) none,.mp .int .int (cn ((ax a0 a1 a2).1)) (some (9,none)),.mi (some 8) ((cn ((ax a0 a1 a2).1)).length) left_1 cur_1]⟩) (gm a0 a1 a2) (gO a0 a1 a2) (cn ((ax a0 a1 a2).1)) () (fun _=>.ret) (fun x_1_0=>⟨[(8,.v (.bool false))],[.dead,.dead,.dead,.dead,.dead,.dead,.dead,.dead,.dead,.dead]⟩) (fun s_1=>⟨[(1,.rs .claim a1),(3,.v (.int .u8 a3)),(4,.ptr 0 0),(6,.ptr 1 0),(9,.os 2),(12,.v (.bool (dL (aq (bk a2) a2.length 0 ([],true))).2)),(16,.os 7),(17,.os 8)],[.cells (cellsOf .district a0),.cells [.rs .judgement a2],.row .claim ((ax a0 a1 a2).1),.dead,.dead,.dead,.dead,.mp .int .int (cn a1) none,.mp .int .int (cn ((ax a0 a1 a2).1)) none,.dead]⟩) st)else bif Nat.beq id 4 then some (LCM (τ:=Int×Int) (ρ:=Unit) (σ:=Unit) 11 [] [0,1,2,3,4,5,6,7,8,9,10] (fun left_2 cur_2 s_2=>⟨[(1,.rs .claim a1),(3,.v (.int .u8 a3)),(4,.ptr 0 0),(6,.ptr 1 0),(9,.os 2),(12,.v (.bool (dL (aq (bk a2) a2.length 0 ([],true))).2)),(17,.os 8),(112,.ptr 10 0)],[.cells (cellsOf .district a0),.cells [.rs .judgement a2],.row .claim ((ax a0 a1 a2).1),.dead,.dead,.dead,.dead,.mp .int .int (cn a1) (some (10,none)),.mp .int .int (cn ((ax a0 a1 a2).1)) none,.dead,.mi (some 7) ((cn a1).length) left_2 cur_2]⟩) (eO a0 a1 a2 (dL (aq (bk a2) a2.length 0 ([],true)))) (gP a0 a1 a2 (dL (aq (bk a2) a2.length 0 ([],true)))) (cn a1) () (fun _=>.ret) (fun x_2_0=>⟨[(8,.v (.bool false))],[.dead,.dead,.dead,.dead,.dead,.dead,.dead,.dead,.dead,.dead,.dead]⟩) (fun s_2=>⟨[(1,.rs .claim a1),(3,.v (.int .u8 a3)),(4,.ptr 0 0),(6,.ptr 1 0),(9,.os 2)],[.cells (cellsOf .district a0),.cells [.rs .judgement a2],.row .claim ((ax a0 a1 a2).1),.dead,.dead,.dead,.dead,.dead,.dead,.dead,.dead]⟩) st)else none),?_,?_⟩
 ·unfold ae Tryz.f5;simp only[am,true_and,and_true];refine⟨?_,?_,?_⟩
  ·refine aV mixed al hG kr (fun _=>rfl) (a2.length:Int) rfl ia (fun hb0 k_0 s_0 hlt0 _ hw hc=>⟨L0,ag _,?_⟩) (fun hb0 s_0 hc=>?_)
   ·simp only[go_sem,Nat.reduceBEq,Nat.reduceLeDiff,Nat.reduceLT,decide_true,Nat.reduceAdd,Nat.reduceSub,Nat.reduceMul,Int.reduceLE,Int.reduceLT,Int.reduceToNat,Int.reduceNeg,reduceCtorEq,hc,hw];all_goals (repeat' (first|with_reducible refine And.intro ?_ ?_|with_reducible intro _))
    all_goals first|exact gT (jl [0,1,2,3,4]) |(rename_i h1 h2;rw[h1]at h2;first|(simp only[Bool.false_and,reduceCtorEq]at h2;done) |(try simp only[Bool.true_and]at h2;exact gT (jl [0,1,2,3,4])))
   ·exact bH (jl [0,1,2,3,4])
  ·refine GJ (ff .int,ff .int) 9 mixed al hG kr (fun _=>rfl) fun left_1 cur_1 s_1 hp1=>⟨L0,ag _,?_⟩
   ·by_cases hl1:left_1=[]
    ·subst hl1;exact Sf (jl [0,1,2,3,4,5,6,7,8,9])
    ·simp only[go_sem,Nat.reduceBEq,Nat.reduceLeDiff,Nat.reduceLT,decide_true,Nat.reduceAdd,Nat.reduceSub,Nat.reduceMul,Int.reduceLE,Int.reduceLT,Int.reduceToNat,Int.reduceNeg,reduceCtorEq,lC,hl1];intro j hj1;obtain⟨hlt1,hq1⟩:=hp1 j hj1;unfold gO at hq1;all_goals exact gT (jl [0,1,2,3,4,5,6,7,8,9])
  ·refine GJ (ff .int,ff .int) 10 mixed al hG kr (fun _=>rfl) fun left_2 cur_2 s_2 hp2=>⟨L0,ag _,?_⟩
   ·by_cases hl2:left_2=[]
    ·subst hl2;exact Sf (jl [0,1,2,3,4,5,6,7,8,9,10])
    ·simp only[go_sem,Nat.reduceBEq,Nat.reduceLeDiff,Nat.reduceLT,decide_true,Nat.reduceAdd,Nat.reduceSub,Nat.reduceMul,Int.reduceLE,Int.reduceLT,Int.reduceToNat,Int.reduceNeg,reduceCtorEq,lC,hl2];intro j hj2;obtain⟨hlt2,hq2⟩:=hp2 j hj2;unfold gP at hq2;all_goals exact gT (jl [0,1,2,3,4,5,6,7,8,9,10])
 ·unfold ae Tryz.f5;try unfold gq
  exact YZ
theorem xj (c:List Claim)(j:List Judgement)(i:Int)(hi:0≤i∧i< (j.length:Int))(hc:c.length≤1000000):iU c j i∧gN c j i=c.filter fun y=>decide (y.hour< (j.getD i.toNat default).hour):=by
 refine⟨fun _=>OB c default (fun y=>fc y j i) (fun k s=>rfl) fun k s hk hs=>⟨hi,fun _=>?_⟩,?_⟩
 ·simp only[List.length_append,List.length_singleton];unfold cU;omega
 ·unfold gN;rw[Ht (step:=ot c j i) c default (fun y=>fc y j i) (fun k s=>rfl)];rfl
def Uv (j:List Judgement)(s:List (Int×Bool)×Bool):Prop:=(∀ x∈j,x.of_=0→du .int .bool s.1 x.farm=true∧(3≤x.kind→du .int .bool s.1 x.other=true))∧(s.2=true→∀ x∈j,x.of_=0→x.kind≠1∧x.kind≠2)
theorem OD {j:List Judgement}(hk:∀ x∈j,x.of_=0→x.kind≤4):∃ s,aq (bk j) j.length 0 ([],true)=.inr s∧Uv j s:=by
 have key:∀ (R A:List Judgement) (s:List (Int×Bool)×Bool),j=A++R→Uv A s→∃ s',aq (bk j) R.length A.length s=.inr s'∧Uv j s':=fun R=>by
  induction R with
  |nil=>intro A s hA hs;exact⟨s,rfl,by rw[List.append_nil]at hA;rw[hA];exact hs⟩
  |cons y R ih=>
   intro A s hA hs;have g:j.getD A.length default=y:=by rw[hA];exact gc A y default R rfl
   have ih:=fun s=>ih (A++[y]) s (by rw[hA];simp);rw[List.length_append,List.length_singleton]at ih;have hky:=hk y (by rw[hA];simp);simp only[List.length_cons,aq,bk,g];have up:∀ (m:List (Int×Bool)) (f z:Int),du .int .bool m z=true→du .int .bool (iX .int .bool m f true) z=true:=fun m f z h=>by
    rw[xc];split
    ·rfl
    ·exact h
   have at_:∀ (m:List (Int×Bool)) (f:Int),du .int .bool (iX .int .bool m f true) f=true:=fun m f=>by
    rw[xc,if_pos rfl]
   by_cases h0:y.of_=0
   ·have e0:(y.of_==0)=true:=by simpa using h0
    simp only[e0,Bool.true_and,cond_true];have hs2:(((s.2&&(y.kind !=1))&&(y.kind !=2))=true→∀ x∈A++[y],x.of_=0→x.kind≠1∧x.kind≠2):=fun h x hx hx0=>by
     simp only[Bool.and_eq_true,bne_iff_ne]at h;rcases List.mem_append.1 hx with hx|hx
     ·exact hs.2 h.1.1 x hx hx0
     ·rw[List.mem_singleton.1 hx];exact⟨h.1.2,h.2⟩
    cases hq:(y.kind==3) ||(y.kind==4)with
    |true=>
     simp only[cond_true];refine ih _ ⟨fun x hx hx0=>?_,hs2⟩;rcases List.mem_append.1 hx with hx|hx
     ·obtain⟨q1,q2⟩:=hs.1 x hx hx0;exact⟨up _ _ _ (up _ _ _ q1),fun h=>up _ _ _ (up _ _ _ (q2 h))⟩
     ·rw[List.mem_singleton.1 hx];exact⟨up _ _ _ (at_ _ _),fun _=>at_ _ _⟩
    |false=>
     simp only[cond_false];rw[Bool.or_eq_false_iff]at hq;have q3:y.kind≠3:=by simpa using hq.1
     have q4:y.kind≠4:=by simpa using hq.2
     refine ih _ ⟨fun x hx hx0=>?_,hs2⟩;rcases List.mem_append.1 hx with hx|hx
     ·obtain⟨q1,q2⟩:=hs.1 x hx hx0;exact⟨up _ _ _ q1,fun h=>up _ _ _ (q2 h)⟩
     ·rw[List.mem_singleton.1 hx];exact⟨at_ _ _,fun h=>by have:=hky h0;omega⟩
   ·have e0:(y.of_==0)=false:=by simpa using h0
    simp only[e0,Bool.false_and,cond_false];refine ih _ ⟨fun x hx hx0=>?_,fun h x hx hx0=>?_⟩
    ·rcases List.mem_append.1 hx with hx|hx
     ·exact hs.1 x hx hx0
     ·rw[List.mem_singleton.1 hx]at hx0;exact absurd hx0 h0
    ·rcases List.mem_append.1 hx with hx|hx
     ·exact hs.2 h x hx hx0
     ·rw[List.mem_singleton.1 hx]at hx0;exact absurd hx0 h0
 exact key j [] ([],true) rfl ⟨fun x hx _=>absurd hx (by simp),fun _ x hx _=>absurd hx (by simp)⟩
theorem De {j:List Judgement}(ho:Rd j)(k:Nat)(hk:k<j.length){h:Int}(hh:h< (j.getD k default).hour):(j.filter fun x=>aG j x h)=(j.take k).filter fun x=>aG (j.take k) x h:=by
 have hlate:∀ y∈j.drop k,h<y.hour:=fun y hy=>by
  have hd:j.drop k=j[k]::j.drop (k+1):=List.drop_eq_getElem_cons hk;have hp:(j.drop k).Pairwise fun a b=>a.no<b.no∧a.hour≤b.hour:=ho.sublist (List.drop_sublist _ _);rw[hd]at hp hy;have e:j.getD k default=j[k]:=by rw[List.getD_eq_getElem?_getD,List.getElem?_eq_getElem hk];rfl
  rw[e]at hh;rcases List.mem_cons.1 hy with rfl|hy
  ·exact hh
  ·have:=(List.pairwise_cons.1 hp).1 y hy;omega
 have hE:∀ x:Judgement,kA j x h=kA (j.take k) x h:=fun x=>by
  rw[Ef,Ef];have e:j=j.take k++j.drop k:=(List.take_append_drop k j).symm;have e2:(j.drop k).any (fun y=>(y.of_==i64.wrap (x.no+1))&&decide (y.hour≤h))=false:=List.any_eq_false.2 fun y hy=>by
   have:=hlate y hy;simp;omega
  have e3:j.any (fun y=>(y.of_==i64.wrap (x.no+1))&&decide (y.hour≤h))=(j.take k++j.drop k).any fun y=>(y.of_==i64.wrap (x.no+1))&&decide (y.hour≤h):=by rw[←e]
  rw[e3,List.any_append,e2,Bool.or_false]
 have hI:∀ x:Judgement,aG j x h=aG (j.take k) x h:=fun x=>by
  unfold aG;rw[hE]
 have e4:(j.filter fun x=>aG j x h)=((j.take k++j.drop k).filter fun x=>aG j x h):=by rw[List.take_append_drop]
 have e5:((j.drop k).filter fun x=>aG j x h)=[]:=List.filter_eq_nil_iff.2 fun x hx=>by
  have:=hlate x hx;unfold aG;have:decide (x.hour≤h)=false:=decide_eq_false (by omega);rw[this];simp
 rw[e4,List.filter_append,e5,List.append_nil];exact List.filter_congr fun x _=>hI x
theorem Given.hour_mem {d:District}{j:List Judgement}{c:List Claim}(g:Given d j c)(h:Int):∀ z∈doH j h (fj c h),z.hour=h:=((g.sub (nv c h).1).hour (nv c h).2 [] ([],[])).2.1.d.hr
theorem Re {d:District}{c:List Claim}{j:List Judgement}:(sZ d c j).2≠0→(sZ d c j).1=[]:=by
 unfold sZ;cases aT d j !=0 with
 |true=>intro _;rfl
 |false=>
  simp only[cond_false];cases bg d c !=0 with
  |true=>intro _;rfl
  |false=>
   simp only[cond_false];cases(decide (((exS j (c.length+1) c).length:Int) > 4096)) ||(exS j (c.length+1) c).any bo with
   |true=>intro _;rfl
   |false=>intro h;exact absurd rfl h
theorem OE {k:Nat}{d:District}{j:List Judgement}{c:List Claim}(g:Given d j c)(g2:Given d (j.take k) c)(ho:Rd j)(hk:k<j.length)(n:Nat):(exR j c 0 n).filter (fun y=>decide (y.hour< (j.getD k default).hour))=(exR (j.take k) c 0 n).filter fun y=>decide (y.hour< (j.getD k default).hour):=by
 rw[exR,exR,q_,q_];refine vz _ _ fun h _ _=>?_;by_cases hh:h< (j.getD k default).hour
 ·unfold doH;rw[De ho k hk hh]
 ·have e1:(doH j h (fj c h)).filter (fun y=>decide (y.hour< (j.getD k default).hour))=[]:=List.filter_eq_nil_iff.2 fun z hz=>by
   have:=g.hour_mem h z hz;exact fun hd=>absurd (of_decide_eq_true hd) (by omega)
  have e2:(doH (j.take k) h (fj c h)).filter (fun y=>decide (y.hour< (j.getD k default).hour))=[]:=List.filter_eq_nil_iff.2 fun z hz=>by
   have:=g2.hour_mem h z hz;exact fun hd=>absurd (of_decide_eq_true hd) (by omega)
  rw[e1,e2]
theorem CR (d:District)(c:List Claim)(j:List Judgement)(w:Int)(hj:JR j)(hw:0≤w∧w≤255):fe d c j w∧gq d c j w=true:=by
 unfold fe gq;rw[Us];cases hf:oQ d c j with
 |false=>exact⟨⟨CN,fun _ h=>by cases h⟩,rfl⟩
 |true=>
  obtain⟨f1,f2⟩:=Se hf hj;obtain⟨⟨p1,_⟩,e1,_⟩:=CL hj f1 f2;rw[e1];cases hz:(sZ d c j).2 !=0 with
  |true=>
   refine⟨⟨CN,fun _ _=>⟨p1,fun h=>by cases h⟩⟩,?_⟩;have hz:(sZ d c j).2≠0:=by simpa using hz
   have:=Re hz;rw[this];rfl
  |false=>
   have hz:(sZ d c j).2=0:=by simpa using hz
   obtain⟨g,hcx,hx⟩:=LM hj hf hz;obtain⟨⟨hJ,hC⟩,hx1,hlen,hlit⟩:=IY hz;rw[←hx1,hx]at hlen;have hCk:fF d j=0:=by rw[←vn d j hj];exact hJ
   have hO:=jord hCk;have hcl:=g.cl;rw[hx];have H:=fun h:Int=>(g.sub (nv c h).1).hour (nv c h).2 j ([],[]);have hc0:c=vQ (fj c) 0 d.hours.toNat:=by
    have q:=OC (j:=[]) (fun k l=>rfl) (c.length+1) c (by omega);rw[IU [] (c.length+1) c 0 d.hours.toNat (by omega) g.byhour fun z hz=>by
     have h1:=(g.cs z hz).h0;have h2:=(g.cs z hz).h1;omega]at q
    exact q.symm
   have hpos:∀ y∈c,0≤y.litres:=fun y hy=>by have:=(g.cs y hy).l0;omega
   have htc:tot c≤322122547200:=by
    have:=IV (b:=1073741824) (by omega) (fun y hy=>(g.cs y hy).l1) g.cl;omega
   have hxpos:∀ y∈exR j c 0 d.hours.toNat,0≤y.litres:=fun y hy=>by
    obtain⟨h,_,_,hy⟩:=zb hy;have:=(H h).2.1.d.pos y hy;omega
   have hhx:∀ h:Int,fj (exR j c 0 d.hours.toNat) h=if 0≤h∧h<0+(d.hours.toNat:Int)then doH j h (fj c h)else []:=fun h=>Eh (fun h z hz=>g.hour_mem h z hz) h _ 0;have hsum:∀ h:Int,tot (fj (exR j c 0 d.hours.toNat) h)≤tot (fj c h):=fun h=>by
    rw[hhx];split
    ·exact(H h).2.2.2.1
    ·exact CE fun y hy=>hpos y (List.mem_filter.1 hy).1
   have htx:tot (exR j c 0 d.hours.toNat)≤tot c:=by
    have key:∀ (n:Nat) (lo:Int),tot (exR j c lo n)≤tot (vQ (fj c) lo n):=fun n=>by
     induction n with
     |zero=>intro _;exact Int.le_refl _
     |succ n ih=>
      intro lo;rw[zc,vQ,tL,tL];have:=ih (lo+1);have:=(H lo).2.2.2.1;omega
    have:=key d.hours.toNat 0
    rwa[←hc0]at this
   obtain⟨s,hs,hnam⟩:=OD (j:=j) fun x hx h0=>((g.js x hx).kind h0).2;have hoth:(exR j c 0 d.hours.toNat).filter (fun y=>!du .int .bool s.1 y.farm)=c.filter fun y=>!du .int .bool s.1 y.farm:=by
    have e:c.filter (fun y=>!du .int .bool s.1 y.farm)=(vQ (fj c) 0 d.hours.toNat).filter fun y=>!du .int .bool s.1 y.farm:=by rw[←hc0]
    rw[e,exR,q_,q_];exact vz _ _ fun h _ _=>(H h).2.2.1 _ fun x hx h0=>hnam.1 x hx h0
   have pd1:=Ee (exR j c 0 d.hours.toNat) s.1 (by omega);have pd2:=Ee c s.1 (by omega);have hsame:iG (fw (exR j c 0 d.hours.toNat) s.1) (fw c s.1)=true:=by
    rw[pd1.2,pd2.2,hoth];exact uQ _
   have sc:=Kr c hpos (by omega);have sx:=Kr (exR j c 0 d.hours.toNat) hxpos (by omega);have r1:=Ks (step:=gm d c j) (p:=gO d c j) (fun _ _=>trivial) (l:=cn (exR j c 0 d.hours.toNat)) fun e he=>by
    have h1:=sx.mem he;have h2:=hsum e.1;have h3:=sc.val e.1;unfold gm;rw[h3,h1,decide_eq_false (by omega)];rfl
   have r2:=Ks (step:=eO d c j s) (p:=gP d c j s) (fun _ _=>trivial) (l:=cn c) fun e he=>by
    have h1:=sc.mem he;have h3:=sx.val e.1;unfold eO;rw[e1,hx,h3,h1];cases hs2:s.2 with
    |false=>rfl
    |true=>
     have:tot (fj (exR j c 0 d.hours.toNat) e.1)=tot (fj c e.1):=by
      rw[hhx];split
      ·exact(H e.1).2.2.2.2 fun x hx h0=>hnam.2 hs2 x hx h0
      ·rename_i hn;have:fj c e.1=[]:=List.filter_eq_nil_iff.2 fun z hz=>by
        have h1:=(g.cs z hz).h0;have h2:=(g.cs z hz).h1;simp;omega
       rw[this]
     rw[this];simp
   have K:(j.length:Int)≠0→∃ k:Nat,Int.tmod (i64.wrap w) (j.length:Int)=(k:Int)∧k<j.length:=fun hn=>by
    have hw2:i64.wrap w=w:=f8 (by omega) (by omega);have h1:=Int.tmod_nonneg (j.length:Int) hw.1;have h2:=Int.tmod_lt_of_pos w (show(0:Int) < (j.length:Int) by omega);rw[hw2];exact⟨(Int.tmod w (j.length:Int)).toNat,by omega,by omega⟩
   have hjl:=g.jl;have T:=fun(k:Nat) (hk:k<j.length) =>CL (d:=d) (c:=c) (j:=j.take k) (fun y hy=>hj y (List.take_subset _ _ hy)) (fun _=>by rw[List.length_take];omega) f2;have TO:∀ k:Nat,k<j.length→(sZ d c (j.take k)).2=0→(sZ d c (j.take k)).1.length≤4096∧(exR j c 0 d.hours.toNat).filter (fun y=>decide (y.hour< (j.getD k default).hour))=(sZ d c (j.take k)).1.filter fun y=>decide (y.hour< (j.getD k default).hour):=fun k hk h=>by
    obtain⟨_,h1,h2,_⟩:=IY h;have g2:Given d (j.take k) c:=⟨fun x hx=>g.js x (List.take_subset _ _ hx),by rw[List.length_take];omega,g.cs,g.st,g.cl,g.rl⟩;rw[h1];refine⟨h2,?_⟩;rw[g2.out];exact OE g g2 hO hk _
   refine⟨⟨CN,fun _ _=>⟨p1,fun _ _ s0 hs0=>?_⟩⟩,?_⟩
   ·rw[hs]at hs0;simp only[Sum.inr.injEq]at hs0;subst hs0;refine⟨pd1.1,pd2.1,CJ _ _,fun _=>⟨r1.1,fun _ _=>⟨r2.1,fun _ _ _=>⟨fun _=>CJ _ _,fun hne _=>?_⟩⟩⟩⟩;have hne:(j.length:Int)≠0:=by simpa using hne
    obtain⟨k,hk,hkl⟩:=K hne;rw[hk,Int.toNat_natCast];obtain⟨⟨t1,_⟩,t2,_⟩:=T k hkl;have t1:b9 d c ((j.take k).drop 0):=t1;have t2:ax d c ((j.take k).drop 0)=sZ d c (j.take k):=t2;refine⟨hne,⟨by omega,by omega,by omega⟩,t1,fun h=>⟨fun _=>h,fun h'=>by rw[h]at h';cases h'⟩,fun h=>?_⟩;rw[t2]at h ⊢;have:=TO k hkl (by simpa using h);exact⟨(xj _ j k ⟨by omega,by omega⟩ (by omega)).1,(xj _ j k ⟨by omega,by omega⟩ (by omega)).1,fun _=>CJ _ _⟩
   ·rw[hs];simp only[Bool.not_true,cond_false];rw[hsame,r1.2];simp only[Bool.not_true,cond_false];rw[r2.2];simp only[];cases hl0:(j.length:Int) ==0 with
    |true=>
     simp only[cond_true];have:j=[]:=List.eq_nil_of_length_eq_zero (by have q:(j.length:Int)=0:=(by simpa using hl0);omega);subst this;have q:exR [] c 0 d.hours.toNat=c:=by rw[exR];exact hc0.symm
     rw[q];exact uQ _
    |false=>
     simp only[cond_false];have hne:(j.length:Int)≠0:=by simpa using hl0
     obtain⟨k,hk,hkl⟩:=K hne;rw[hk,Int.toNat_natCast];obtain⟨⟨t1,_⟩,t2,_⟩:=T k hkl;have t2:ax d c ((j.take k).drop 0)=sZ d c (j.take k):=t2;rw[t2];cases hz2:(sZ d c (j.take k)).2 !=0 with
     |true=>rfl
     |false=>
      have:=TO k hkl (by simpa using hz2);simp only[cond_false,Bool.false_or];rw[(xj _ j k ⟨by omega,by omega⟩ (by omega)).2,(xj _ j k ⟨by omega,by omega⟩ (by omega)).2,Int.toNat_natCast,this.2];exact uQ _
theorem OF (d:District)(c:List Claim)(j:List Judgement)(w:Int)(hj:JR j)(hw:0≤w∧w≤255):fe d c j w:=(CR d c j w hj hw).1
theorem OG (d:District)(c:List Claim)(j:List Judgement)(w:Int)(hj:JR j)(hw:0≤w∧w≤255):gq d c j w=true:=(CR d c j w hj hw).2
end Go.Sx
end
section
namespace Go.Sx
open Go.Deep Go.RowKit
section
variable {F:Nat→Prop}{own:Own}{w:World}
def RC (F:Nat→Prop)(own:Own)(w:World)(ks:List Kd)(cs:List Value):Prop:=
 ∃ l:List SV,ue ks l=true∧l.length=cs.length∧∀ (j:Nat) (s:SV) (v:Value),l[j]? =some s→cs[j]? =some v→Rel F own w s v
theorem Hu:∀ {a b:List Kd} {l m:List SV},ue a l=true→ue b m=true→ue (a++b) (l++m)=true
 | [],b,l,m,h1,h2=>by rw[uo h1];exact h2
 |k::a,b,l,m,h1,h2=>by
  obtain⟨x,r,rfl,e1,e2⟩:=qe h1;simp only[List.cons_append,ue,e1,Hu e2 h2,Bool.and_self]
theorem RC.nil:RC F own w [] []:=⟨[],rfl,rfl,fun j s v h=>by cases h⟩
theorem RC.app {a b:List Kd}{c d:List Value}(h1:RC F own w a c)(h2:RC F own w b d):RC F own w (a++b) (c++d):=by
 obtain⟨l,f1,n1,r1⟩:=h1;obtain⟨m,f2,n2,r2⟩:=h2;refine⟨l++m,Hu f1 f2,by simp[n1,n2],fun j s v hs hv=>?_⟩;by_cases hj:j<l.length
 ·rw[List.getElem?_append_left hj]at hs;rw[List.getElem?_append_left (by omega)]at hv;exact r1 j s v hs hv
 ·rw[List.getElem?_append_right (by omega)]at hs;rw[List.getElem?_append_right (by omega),←n1]at hv;exact r2 _ s v hs hv
theorem RC.one {k:Kd}{s:SV}{v:Value}(h1:fit k s=true)(h2:Rel F own w s v):RC F own w [k] [v]:=
 ⟨[s],by simp[ue,h1],rfl,fun j s' v' hs hv=>by
  cases j with
  |zero=>simp only[List.getElem?_cons_zero,Option.some.injEq]at hs hv;subst hs;subst hv;exact h2
  |succ j=>simp at hs⟩
end
def Uw:Kd→Kd→Bool
 | .s,.s=>true
 | .b,.b=>true
 | .n a,.n b=>decide (a=b)
 | .r a,.r b=>decide (a=b)
 | .m a c,.m b d=>decide (a=b)&&decide (c=d)
 |_,_=>false
theorem Rf:∀ {a b:Kd},Uw a b=true→a=b:=by
 intro a b h;cases a <;>cases b <;>simp_all [Uw]
def OH:List Kd→List Kd→Bool
 | [],[] =>true
 |a::l,b::m=>Uw a b&&OH l m
 |_,_=>false
theorem Ku:∀ {a b:List Kd},OH a b=true→a=b
 | [],[],_=>rfl
 |a::l,b::m,h=>by
  simp only[OH,Bool.and_eq_true]at h;rw[Rf h.1,Ku h.2]
def CS (P:Program)(g:TypeId→Option (List Kd)):List Field→Nat→Nat→Option (List Kd)
 | [],off,tot=>bif Nat.beq off tot then some []else none
 |f::r,off,tot=>match g f.type with
  |some a=>bif Nat.beq f.offset off&&Nat.beq a.length (P.cellsOf f.type)then(CS P g r (off+a.length) tot).map (a++ ·)else none
  |none=>none
def IZ (a:List Kd):Nat→List Kd
 |0=>[]
 |n+1=>a++IZ a n
def CT (P:Program):Nat→TypeId→Option (List Kd)
 |0,_=>none
 |n+1,t=>match P.underlying t with
  |some .bool=>some [.b]
  |some (.int k) =>some [.n k]
  |some .string=>some [.s]
  |some (.slice e) =>match FE P e,CT P n e with
   |some k,some ks=>bif OH ks (dX k)&&Nat.beq (P.cellsOf e) (aa k)&&Nat.ble 1 (aa k)then some [.r k]else none
   |_,_=>none
  |some (.struct fs) =>CS P (CT P n) fs.toList 0 (P.cellsOf t)
  |some (.array m e) =>match CT P n e with
   |some a=>bif Nat.beq a.length (P.cellsOf e)&&Nat.beq (P.cellsOf t) (m*a.length)then some (IZ a m)else none
   |none=>none
  |_=>none
section
variable {H:Type}{enc:TypeId×Value→H}{P:Program}{F:Nat→Prop}{own:Own}{w:World}{base:Nat}{spare:Nat→Bool}{held:Bool}{S:DataW H→Prop}
theorem Kv {g:TypeId→Option (List Kd)}(hg:∀ t ks,g t=some ks→∀ (fuel:Nat) (cs:List Value) (x:DataW H×List MemPlace),DataW.trod enc P w base spare held fuel t cs=some x→S x.1→RC F own w ks cs)
  (fuel:Nat) (cs:List Value):∀ (fs:List Field) (off:Nat) (ks:List Kd),CS P g fs off cs.length=some ks→(∀ f∈fs,∃ x,DataW.trod enc P w base spare held fuel f.type ((cs.drop f.offset).take (P.cellsOf f.type))=some x∧S x.1)→RC F own w ks (cs.drop off)
 | [],off,ks,h,_=>by
  unfold CS at h;cases hb:Nat.beq off cs.length with
  |false=>rw[hb]at h;cases h
  |true=>
   rw[hb]at h;have:off=cs.length:=Nat.eq_of_beq_eq_true hb;subst this;cases h;rw[List.drop_length];exact RC.nil
 |f::r,off,ks,h,hx=>by
  unfold CS at h;cases ha:g f.type with
  |none=>rw[ha]at h;cases h
  |some a=>
   rw[ha]at h;dsimp only at h;cases hb:Nat.beq f.offset off&&Nat.beq a.length (P.cellsOf f.type)with
   |false=>rw[hb]at h;cases h
   |true=>
    rw[hb]at h;simp only[cond_true,Option.map_eq_some_iff]at h;obtain⟨ks2,h2,rfl⟩:=h;rw[Bool.and_eq_true]at hb;have e1:f.offset=off:=Nat.eq_of_beq_eq_true hb.1;have e2:a.length=P.cellsOf f.type:=Nat.eq_of_beq_eq_true hb.2;obtain⟨x,hx1,hs1⟩:=hx f (by simp);have h3:=hg _ _ ha _ _ _ hx1 hs1;have h4:=Kv hg fuel cs r (off+a.length) ks2 h2 fun f hf=>hx f (by simp[hf]);have:=h3.app h4;rw[e1,←e2]at this
    rwa[←List.drop_drop,List.take_append_drop]at this
theorem Kw {e:TypeId}{a:List Kd}(ha:∀ (fuel:Nat) (cs:List Value) (x:DataW H×List MemPlace),DataW.trod enc P w base spare held fuel e cs=some x→S x.1→RC F own w a cs)
  (fuel:Nat):∀ (m:Nat) (cs:List Value),cs.length=m*a.length→(∀ i,i<m→∃ x,DataW.trod enc P w base spare held fuel e ((cs.drop (i*a.length)).take a.length)=some x∧S x.1)→RC F own w (IZ a m) cs
 |0,cs,h,_=>by
  have:cs=[]:=by simpa using h
  subst this;exact RC.nil
 |m+1,cs,h,hx=>by
  obtain⟨x,hx1,hs1⟩:=hx 0 (by omega);rw[Nat.zero_mul,List.drop_zero]at hx1;have h3:=ha _ _ _ hx1 hs1;have h4:=Kw ha fuel m (cs.drop a.length) (by rw[List.length_drop,h,Nat.succ_mul];omega) fun i hi=>by
   obtain⟨x,hx2,hs2⟩:=hx (i+1) (by omega);refine⟨x,?_,hs2⟩;rw[List.drop_drop]
   rwa[Nat.succ_mul,Nat.add_comm]at hx2
  have:=h3.app h4
  rwa[List.take_append_drop]at this
structure Small (S:DataW H→Prop):Prop where
 agg:∀ l,S (.agg l)→∀ d∈l,S d
 slice:∀ l m,S (.slice l m)→l.length≤aL∧∀ d∈l,S d
theorem qx (hS:Small S)(hown:∀ b,¬bP F own b):∀ (n:Nat) (t:TypeId) (ks:List Kd),CT P n t=some ks→∀ (fuel:Nat) (cs:List Value) (x:DataW H×List MemPlace),DataW.trod enc P w base spare held fuel t cs=some x→S x.1→RC F own w ks cs
 |0,_,_,h,_,_,_,_,_=>by cases h
 |n+1,t,ks,h,fuel,cs,x,hx,hs=>by
  unfold CT at h;split at h
  ·rename_i ht;cases h;obtain⟨b,rfl,rfl⟩:=DataW.trod_bool ht hx;exact RC.one (s:=.v (.bool b)) rfl (.v _)
  ·rename_i k ht;cases h;obtain⟨m,rfl,rfl,_⟩:=DataW.trod_int ht hx;exact RC.one (s:=.v (.int k m)) (by simp[fit]) (.v _)
  ·rename_i ht;cases h;obtain⟨b,rfl,rfl,_⟩:=DataW.trod_string ht hx;exact RC.one (s:=.v (.string b)) rfl (.v _)
  ·rename_i e ht;split at h
   ·rename_i k ks2 hk hks;cases hb:OH ks2 (dX k)&&Nat.beq (P.cellsOf e) (aa k)&&Nat.ble 1 (aa k)with
    |false=>rw[hb]at h;cases h
    |true=>
     rw[hb]at h;cases h;simp only[Bool.and_eq_true]at hb;have e1:=Ku hb.1.1;have e2:P.cellsOf e=aa k:=Nat.eq_of_beq_eq_true hb.1.2;have e3:1≤aa k:=nbl hb.2;subst e1;rcases open_slice ht hx with⟨rfl,rfl⟩ | ⟨a,len,cap,m,f2,D,Pl,rfl,hb1,hl,hm,hmm,rfl,hel⟩
     ·exact RC.one (s:=.rs k []) (by simp[fit]) .rs0
     ·have hlm:len≤m:=by subst hmm;split <;>omega
      obtain⟨hs1,hs2⟩:=hS.slice _ _ hs;simp only[List.length_map,List.length_range]at hs1;have helt:∀ i,i<len→∃ cs',cs'.length=aa k∧(∀ j v,cs'[j]? =some v→w.cell? ((a.add (i*aa k)).add j)=some v)∧RC F own w (dX k) cs':=fun i hi=>by
       obtain⟨cs',h1,h2⟩:=hel i (by omega);have h3:=qx hS hown n e (dX k) hks f2 cs' _ h2 (hs2 _ (List.mem_map_of_mem (List.mem_range.2 hi)));unfold World.cells? at h1;split at h1
       ·refine⟨cs',by rw[mapM_some_length h1,List.length_range,e2],fun j v hj=>?_,h3⟩;have hlt:j<P.cellsOf e:=by
         have:=(List.getElem?_eq_some_iff.1 hj).1
         rwa[mapM_some_length h1,List.length_range]at this
        have:=mapM_some_get h1 j j (by simp[hlt]);rw[e2]at this;rw[this,hj]
       ·cases h1
      by_cases h0:len=0
      ·subst h0;exact RC.one (s:=.rs k []) (by simp[fit]) .rs0
      ·have hsp:a.spot=none:=by
        obtain⟨cs',h1,h2,_⟩:=helt 0 (by omega);have:=h2 0 (cs'[0]'(by omega)) (by rw[List.getElem?_eq_getElem]);rw[Nat.zero_mul]at this;simp only[Addr.add,if_true]at this;unfold World.cell? at this;split at this
        ·cases hsp:a.spot with
         |none=>rfl
         |some q=>rw[hsp]at this;simp at this
        ·cases this
       obtain⟨ab,ao,asp⟩:=a;dsimp only at hsp;subst hsp
       haveI:Inhabited k.T:=⟨ff k⟩
       obtain⟨X,hX⟩:=choose_lt (p:=fun i (x:k.T) =>∀ (j:Nat) (s:SV),(cellsOf k x)[j]? =some s→∃ v,w.cell? ⟨ab,ao+i*aa k+j,none⟩=some v∧Rel F own w s v) (n:=len) fun i hi=>by
        obtain⟨cs',h1,h2,l,h3,h4,h5⟩:=helt i hi;refine⟨mkE k l,fun j s hj=>?_⟩;rw[qR (k:=k) (l:=l) (x:=mkE k l) (by unfold uf;rw[h3];rfl)]at hj;have hlt:j<cs'.length:=by
         have:=(List.getElem?_eq_some_iff.1 hj).1;omega
        refine⟨cs'[j],?_,h5 j s _ hj (List.getElem?_eq_getElem hlt)⟩;have:=h2 j cs'[j] (List.getElem?_eq_getElem hlt);have hadd:∀ p q,((⟨ab,ao,none⟩:Addr).add p).add q=⟨ab,ao+p+q,none⟩:=fun p q=>by
         unfold Addr.add;by_cases hp:p=0 <;>by_cases hq:q=0 <;>simp[hp,hq]
        rwa[hadd]at this
       have hL:((List.range len).map X).length=len:=by simp
       refine RC.one (s:=.rs k ((List.range len).map X)) (by simp[fit]) ?_;have hget:∀ (i:Nat) (x:k.T),((List.range len).map X)[i]? =some x→i<len∧x=X i:=fun i x hi=>by
        obtain⟨h1,h2⟩:=List.getElem?_eq_some_iff.1 hi;rw[hL]at h1;simp only[List.getElem_map,List.getElem_range]at h2;subst h2;exact⟨h1,rfl⟩
       have:=Rel.rs (F:=F) (own:=own) (w:=w) (k:=k) (l:=(List.range len).map X) (b:=ab) (o:=ao) (cap:=cap) (fun i j=>(w.cell? ⟨ab,ao+i*aa k+j,none⟩).getD undef) (by rw[hL];exact hl) (by rw[hL];exact hs1)
        (fun i x hi j s hj=>by
         obtain⟨h1,rfl⟩:=hget i x hi;obtain⟨v,h2,_⟩:=hX i h1 j s hj;exact⟨hown _,by rw[h2];rfl⟩)
        (fun i x hi j s hj=>by
         obtain⟨h1,rfl⟩:=hget i x hi;obtain⟨v,h2,h3⟩:=hX i h1 j s hj;rw[h2];exact h3)
       rwa[hL]at this
   ·cases h
  ·rename_i fs ht;obtain⟨xs,m,rfl,rfl,hl,hlen,hf⟩:=DataW.trod_struct ht hx;rw[←hl]at h;have:=Kv (qx hS hown n) m cs fs.toList 0 ks h fun f hfm=>by
    obtain⟨i,hi,rfl⟩:=List.getElem_of_mem hfm;have hi':i<fs.size:=by simpa using hi
    have h1:=hf i fs[i] (by simp[hi']);rw[List.getElem?_eq_getElem (by omega)]at h1;refine⟨_,by simpa using h1,hS.agg _ hs _ (List.mem_map_of_mem (List.getElem_mem _))⟩
   simpa using this
  ·rename_i m e ht;split at h
   ·rename_i a ha;cases hb:Nat.beq a.length (P.cellsOf e)&&Nat.beq (P.cellsOf t) (m*a.length)with
    |false=>rw[hb]at h;cases h
    |true=>
     rw[hb]at h;cases h;rw[Bool.and_eq_true]at hb;have e1:a.length=P.cellsOf e:=Nat.eq_of_beq_eq_true hb.1;have e2:P.cellsOf t=m*a.length:=Nat.eq_of_beq_eq_true hb.2;obtain⟨xs,f2,rfl,rfl,hl,hlen,hf⟩:=DataW.trod_array ht hx;refine Kw (qx hS hown n e a ha) f2 m cs (by rw[hl,e2]) fun i hi=>?_;have h1:=hf i hi;rw[List.getElem?_eq_getElem (by omega),←e1]at h1;exact⟨_,h1,hS.agg _ hs _ (List.mem_map_of_mem (List.getElem_mem _))⟩
   ·cases h
  ·cases h
end
theorem OI {H:Type}{enc:TypeId×Value→H}{P:Program}{w:World}{base:Nat}{spare:Nat→Bool}{held:Bool}{F:Nat→Prop}{own:Own}{t e:TypeId}{fs:Array Field}{f:Field}(ht:P.underlying t=some (.slice e))(he:P.underlying e=some (.struct fs))(hf:fs[8]? =some f)(ho:f.offset=8)(hg:P.underlying f.type=some (.int .i64))(hs1:P.cellsOf f.type=1)(hc:P.cellsOf e=9)
  {fuel:Nat} {v:Value} {x:DataW H×List MemPlace} (hx:DataW.trod enc P w base spare held fuel t [v]=some x) (l:List Tag.judgement.T) (hr:Rel F own w (.rs .judgement l) v):∀ y∈(show List Judgement from l),(-9223372036854775808:Int)≤y.of_∧y.of_<9223372036854775808:=by
 intro y hy;rcases open_slice ht hx with⟨h0,_⟩ | ⟨a,len,cap,m,f2,D,Pl,h0,hb1,hl,hm,hmm,_,hel⟩
 ·simp only[List.cons.injEq,and_true]at h0;subst h0;cases hr;cases hy
 ·simp only[List.cons.injEq,and_true]at h0;subst h0;cases hr with
  |rs0=>cases hy
  | @rs _ _ b o _ c h1 h2 h3 h4=>
   obtain⟨i,hi,rfl⟩:=List.getElem_of_mem hy;have hlm:l.length≤m:=by subst hmm;split <;>omega
   obtain⟨cs',g1,g2⟩:=hel i (by have:i<l.length:=hi;omega);obtain⟨xs,m2,rfl,_,hl2,hlen,hfl⟩:=DataW.trod_struct he g2;have h8:=hfl 8 f hf;have hlt:8<fs.size:=(Array.getElem?_eq_some_iff.1 hf).1;have e1:l[i]? =some (l[i]'hi):=List.getElem?_eq_getElem hi;have k1:=(h3 i _ e1 8 _ rfl).2;have k2:=h4 i _ e1 8 _ rfl;rw[hc]at g1;unfold World.cells? at g1;split at g1
   ·have h9:=mapM_some_length g1;have:=mapM_some_get g1 8 8 (by simp);have hadd:((⟨b,o,none⟩:Addr).add (i*9)).add 8=⟨b,o+i*9+8,none⟩:=by
     unfold Addr.add;by_cases hp:i*9=0
     ·simp only[if_pos hp];simp[hp]
     ·simp only[if_neg hp];simp
    rw[hadd]at this;have k1':w.cell? ⟨b,o+i*9+8,none⟩=some (c i 8):=k1;rw[k1']at this;have hcs:(cs'.drop 8).take 1=[c i 8]:=by
     rw[List.length_range]at h9;have hlt8:8<cs'.length:=by omega
     have hd:cs'.drop 8=cs'[8]::cs'.drop 9:=List.drop_eq_getElem_cons hlt8;rw[List.getElem?_eq_getElem hlt8,Option.some.injEq]at this;rw[hd,this];rfl
    rw[ho,hs1,hcs,List.getElem?_eq_getElem (by omega)]at h8;obtain⟨n,hn,_,hw⟩:=DataW.trod_int hg h8;simp only[List.cons.injEq,and_true]at hn;rw[br k2]at hn;simp only[Value.int.injEq,true_and]at hn;subst hn;simp[Lit.wf,IntKind.min,IntKind.max,IntKind.signed,IntKind.bits]at hw;exact⟨hw.1,Int.lt_of_le_of_lt hw.2 (by decide)⟩
   ·cases g1
end Go.Sx
end
section
namespace Go.Sx
open Go.Proofs
section
variable {F:Nat→Prop}{own:Own}{w:World}
theorem Rg {k:Tag}{cs:Array Value}(h:RC F own w (dX k) cs.toList):∃ x:k.T,Rel F own w (.agg (cellsOf k x)) (.agg cs):=by
 obtain⟨l,h3,h4,h5⟩:=h;refine⟨mkE k l,?_⟩;rw[qR (k:=k) (l:=l) (x:=mkE k l) (by unfold uf;rw[h3];rfl)];refine .agg (by simpa using h4.symm) fun j s hj=>?_;have hlt:j<cs.size:=by
  have:=(List.getElem?_eq_some_iff.1 hj).1;simpa[h4]using this
 exact h5 j s _ hj (by simp[Array.getD,hlt])
theorem OJ {k:Tag}{v:Value}(h:RC F own w [.r k] [v]):∃ l:List k.T,Rel F own w (.rs k l) v:=by
 obtain⟨l,h3,h4,h5⟩:=h;obtain⟨x,r,rfl,h6,h7⟩:=qe h3;have h8:=h5 0 x v rfl rfl;cases x with
 |rs k' l'=>
  have:k=k':=by
   simp only[fit]at h6;exact um h6
  subst this;exact⟨l',h8⟩
 |_=>simp[fit]at h6
end
end Go.Sx
end
section
namespace Go.Sx
open Go.ChangeShapes Go.RowKit Go.WideShapes
section
variable {H:Type}{enc:TypeId×Value→H}{P:Program}
def Rh (P:Program):List TypeId→Bool
 | [] =>true
 |t::r=>P.readableRec t&&Nat.blt t P.types.size&&Rh P r
theorem Ei (hl:laidOutB P=true){W W':World}(hg:Below W.heap.size W W'):∀ {ts:List TypeId} {vs:List Value} {ds:List (DataW H)} {ps:List MemPlace},Rh P ts=true→
  DataW.TrodAll enc P W 0 (fun _=>true) true ts vs ds ps→(∀ x∈ps,x.block<W.heap.size)→DataW.TrodAll enc P W' 0 (fun b=>decide (b<W.heap.size)) true ts vs ds ps
 | [],vs,ds,ps,_,h,_=>by
  obtain⟨rfl,rfl,rfl⟩:=trodAll_nil h;exact trodAll_mk0
 |t::ts,vs,ds,ps,hk,h,hlt=>by
  unfold Rh at hk;rw[Bool.and_eq_true,Bool.and_eq_true]at hk;obtain⟨v,vs',d,ds',p,q,rfl,rfl,rfl,h1,h2⟩:=trodAll_cons h;refine trodAll_cons_mk (WideElems.Trod_stays hl hk.1.1 (by simpa[Nat.blt_eq]using hk.1.2) h1 (fun x hx=>hg.same (hlt x (List.mem_append_left _ hx))) (fun x hx=>by simpa using hlt x (List.mem_append_left _ hx))) ?_;exact Ei hl hg hk.2 h2 fun x hx=>hlt x (List.mem_append_right _ hx)
theorem OK (hl:laidOutB P=true){f:Func}{s:ChangeSpec}{W W':World}{args:Array Value}{ds gs:List (DataW H)}{before:List MemPlace}{t:TypeId}
  (hk:Rh P f.params.toList=true) (hW:DataW.Whole enc P f.params.toList s.vars false W args.toList ds gs before)
  (hr:f.resultTypes= #[t]) (ht:P.underlying t=some .bool) (hv:s.vars=[]) (h1:(s.fn H (ds++gs)).results=[.lit (.bool true)]) (h2:(s.fn H (ds++gs)).args=ds) (h3:(s.fn H (ds++gs)).vars=[])
  (hg:Below W.heap.size W W'):s.post enc P f false true false false W args (.bool true) W':=by
 have hlt:=hW.lt;have hW0:=hW;obtain⟨p,q,hA,hV,rfl,_,_⟩:=hW;rw[hv]at hV;obtain⟨rfl,rfl⟩:=trodVars_none hV;refine⟨ds,[],p++[],[],p,[],hW0,?_,?_,?_,?_,fun h=>by cases h⟩
 ·rw[h1,hr];exact trodAll_cons_mk (shut_bool ht _) trodAll_mk0
 ·rw[h2];exact Ei hl hg hk hA fun x hx=>hlt x (by simpa using hx)
 ·rw[h3,hv];rfl
 ·exact World.keptBut_mono (fun x hx=>⟨hx,.inr (.inl (by simpa using hx))⟩) (hg.frame (· ∈p++[]))
end
end Go.Sx
end
section
namespace Go.Proofs.YtnanafpgfihjfaaGreat.bulks
theorem one_le {H:Type}(d:DataW H):1≤Rows.uptoBulk d:=by
 cases d with
 |lit l=>cases l <;>simp[Rows.uptoBulk]
 |nil=>simp[Rows.uptoBulk]
 |ptr d=>simp[Rows.uptoBulk]
 |slice rQ spare=>simp[Rows.uptoBulk]
 |agg parts=>simp[Rows.uptoBulk]
 |iface t d=>simp[Rows.uptoBulk]
 |map entries=>simp[Rows.uptoBulk]
 |held h=>simp[Rows.uptoBulk]
theorem part_le {H:Type}{d:DataW H}{l:List (DataW H)}(h:d∈l):Rows.uptoBulk d≤Rows.uptoBulkAll l:=by
 induction l with
 |nil=>cases h
 |cons x r ih=>
  simp only[Rows.uptoBulkAll];cases List.mem_cons.1 h with
  |inl e=>subst e;omega
  |inr e=>have:=ih e;omega
theorem append {H:Type}(l r:List (DataW H)):Rows.uptoBulkAll (l++r)=Rows.uptoBulkAll l+Rows.uptoBulkAll r:=by
 induction l with
 |nil=>simp[Rows.uptoBulkAll]
 |cons x l ih=>simp only[List.cons_append,Rows.uptoBulkAll,ih];omega
theorem length_le {H:Type}(l:List (DataW H)):l.length≤Rows.uptoBulkAll l:=by
 induction l with
 |nil=>simp[Rows.uptoBulkAll]
 |cons x r ih=>have:=one_le x;simp only[Rows.uptoBulkAll,List.length_cons];omega
theorem slice_le {H:Type}(rQ spare:List (DataW H)):rQ.length+spare.length+1≤Rows.uptoBulk (.slice rQ spare):=by
 have h1:=length_le rQ;have h2:=length_le spare;simp only[Rows.uptoBulk];omega
theorem slice_elems {H:Type}(rQ spare:List (DataW H)):Rows.uptoBulkAll rQ+1≤Rows.uptoBulk (.slice rQ spare):=by
 simp only[Rows.uptoBulk];omega
theorem bound {H:Type}{l:List (DataW H)}(hk:Rows.uptoSmall H l=true):Rows.uptoBulkAll l≤1048576:=by
 simpa[Rows.uptoSmall]using hk
theorem room {n b:Nat}(hn:n≤2097152)(hb:b≤4096):(n+n / 4+192)*b≤281474976710656:=by
 have h:(n+n / 4+192)*b≤2621632*4096:=Nat.mul_le_mul (by omega) hb;omega
end Go.Proofs.YtnanafpgfihjfaaGreat.bulks
end
