/- Part of the proof that the law JudgementEnded returns true and leaves its arguments as they were, for all arguments of bulk at most 1048576 (the Upto form). -/
import Derived.Test.YtnanafpgfihjfaaGreatJ414
import Derived.Test.YtnanafpgfihjfaaGreatJ408
import Derived.Test.YtnanafpgfihjfaaGreatJ409
import Derived.Test.YtnanafpgfihjfaaGreatJ413
import Derived.Test.YtnanafpgfihjfaaGreatJ407
import Derived.Deep.Slices
import Derived.OpenShut
import Derived.ChangeSame
import Derived.WideKeyArgs
import Derived.Below
import Derived.Test.YtnanafpgfihjfaaGreatRows
set_option linter.all false
set_option maxHeartbeats 4000000
set_option maxRecDepth 100000
section
namespace Go.Sx
open Go.Proofs
open IntKind (i64)
theorem CI {Q:Int→Prop}{f o:Int}:∀ (S:List Claim) (n:Int) (K G:List Claim),(∀ y∈S,Q y.right)→(∀ y∈K,Q y.right)→(∀ y∈G,Q y.right)→(∀ y∈(gv f o S n K G).1,Q y.right)∧∀ y∈(gv f o S n K G).2,Q y.right
 | [],n,K,G,_,hK,hG=>⟨hK,hG⟩
 |y::S,n,K,G,hS,hK,hG=>by
  have hy:=hS y (by simp);have hS':∀ z∈S,Q z.right:=fun z hz=>hS z (by simp[hz]);have hput:∀ z:Claim,z.right=y.right→∀ w∈gj K z,Q w.right:=fun z hz w hw=>by
   rcases wK hw with⟨e1,_⟩ |hw
   ·rw[e1,hz];exact hy
   ·exact hK w hw
  by_cases hf:y.farm=f
  ·rw[gv,if_pos hf];refine CI S _ _ _ hS' ?_ ?_
   ·split
    ·exact hput _ rfl
    ·exact hK
   ·split
    ·intro z hz;rcases List.mem_append.1 hz with hz|hz
     ·exact hG z hz
     ·rw[List.mem_singleton.1 hz];exact hy
    ·exact hG
  ·rw[gv,if_neg hf];refine CI S _ _ _ hS' ?_ hG;split
   ·exact hput _ rfl
   ·exact hK
theorem CJ {Q:Int→Prop}:∀ (G K:List Claim),(∀ y∈K,Q y.right)→(∀ y∈G,Q y.right)→∀ y∈G.foldl gj K,Q y.right
 | [],_,hK,_=>hK
 |x::G,K,hK,hG=>CJ G (gj K x) (fun w hw=>by
   rcases wK hw with⟨e1,_⟩ |hw
   ·rw[e1];exact hG x (by simp)
   ·exact hK w hw) fun y hy=>hG y (by simp[hy])
section
variable {ρ:Int→Int}{h R F B:Int}
theorem LJ {Q:Int→Prop}{dd:District}{x:Judgement}(hx:JOk dd x)(h0:x.of_=0){N:Nat}{l:List Claim}(i:InvD ρ h R F B N l)(hB:0≤B∧B≤4398046511104)(hN:N≤8192)(hl:∀ y∈l,Q y.right):∀ y∈doJ x l,Q y.right:=by
 have hlen:=i.len;have hb:=i.lit;have hL:Lit l:=fun y hy=>by have:=hb y hy;omega
 have hmB:l.length*40≤cW:=by unfold cW;omega
 have hn:0≤x.n∧x.n<4611686018427387904:=by
  by_cases hk1:x.kind=1
  ·rw[hx.none hk1];omega
  ·have:=hx.n hk1 h0;omega
 have kl:∀ n:Int,n=x.n→∀ y∈eF l x.farm n,Q y.right:=fun n e=>by
  subst e;obtain⟨_,_,e⟩:=sF x l hn.1 hn.2 hL i.d.s hmB;rw[e];intro y hy;obtain⟨w,hw,_,e2,_⟩:=wJ x.farm l x.n y (List.mem_filter.1 hy).1;rw[e2];exact hl w hw
 unfold doJ;split
 ·exact kl 0 (hx.none (by assumption)).symm
 ·split
  ·exact kl _ rfl
  ·split
   ·obtain⟨_,e⟩:=tG l x.farm x.other x.n hB (by omega) hn.1 hn.2 hb;obtain⟨q1,q2⟩:=CI (Q:=Q) (f:=x.farm) (o:=x.other) l.reverse x.n [] [] (fun y hy=>hl y (by simpa using hy)) (fun y hy=>by cases hy) (fun y hy=>by cases hy);rw[e];exact CJ _ _ q1 q2
   ·exact hl
theorem D8 {Q:Int→Prop}{dd:District}(hR:R≤256)(hF:(dd.farms.length:Int)=F)(hB:0≤B∧B≤4398046511104):∀ (L:List Judgement) (N:Nat) (l:List Claim),(∀ x∈L,JOk dd x∧x.of_=0)→InvD ρ h R F B N l→N+256*L.length≤8192→(∀ y∈l,Q y.right)→∀ y∈L.foldl (fun s x=>doJ x s) l,Q y.right
 | [],_,_,_,_,_,hl=>hl
 |x::L,N,l,hx,i,hN,hl=>by
  have h1:=hx x (by simp);simp only[List.length_cons]at hN;exact D8 hR hF hB L (N+256) (doJ x l) (fun y hy=>hx y (by simp[hy])) (i.step h1.1 h1.2 hR hF hB (by omega) [] ([],[])).2.2 (by omega) (LJ h1.1 h1.2 i hB (by omega) hl)
end
section
variable {d:District}{j:List Judgement}{c:List Claim}
theorem Given.right (g:Given d j c){h:Int}(hh:∀ x∈c,x.hour=h){Q:Int→Prop}(hq:∀ y∈c,Q y.right):∀ y∈doH j h c,Q y.right:=by
 have hin:∀ x∈aD j h,x∈j∧x.of_=0:=fun x hx=>by
  rw[kF]at hx;have:=List.mem_filter.1 hx;exact⟨this.1,vj this.2⟩
 have hlen:(aD j h).length≤20:=by
  rw[kF];have:=List.length_filter_le (fun x=>aV j x h) j;have:=g.jl;omega
 have e:doH j h c=(aD j h).foldl (fun s x=>doJ x s) c:=by rw[kF];rfl
 rw[e];exact D8 (R:=d.rights.length) (F:=d.farms.length) (by have:=g.rl;omega) rfl (by unfold Fg;omega) (aD j h) 300 c (fun x hx=>⟨g.js x (hin x hx).1,(hin x hx).2⟩) (g.start hh) (by omega) hq
theorem D9 (c:List Claim)(h:Int):(qT c h).Sublist c∧∀ x∈qT c h,x.hour=h:=⟨List.filter_sublist,fun x hx=>by simpa using (List.mem_filter.1 hx).2⟩
theorem Given.byhour (g:Given d j c):Fd c:=g.st.imp fun {a b} hab=>by
 unfold x8 sX at hab;rcases hab with h| ⟨h,_⟩ <;>omega
theorem Given.out (g:Given d j c):exS j (c.length+1) c=exR j c 0 d.hours.toNat:=Oi j _ c 0 _ (by omega) g.byhour fun z hz=>by
 have h1:=(g.cs z hz).h0;have h2:=(g.cs z hz).h1;omega
theorem OB {d:District}{c:List Claim}{j:List Judgement}(h:(Hm d c j).2=0):(aN d j=0∧bL d c=0)∧(Hm d c j).1=exS j (c.length+1) c∧(exS j (c.length+1) c).length≤4096∧∀ x∈exS j (c.length+1) c,x.litres≤1073741824:=by
 unfold Hm at h ⊢;cases h1:aN d j !=0 with
 |true=>
  rw[h1]at h;have h1:aN d j≠0:=by simpa using h1
  exact absurd h h1
 |false=>
  rw[h1]at h;simp only[cond_false]at h ⊢;cases h2:bL d c !=0 with
  |true=>
   rw[h2]at h;have h2:bL d c≠0:=by simpa using h2
   exact absurd h h2
  |false=>
   rw[h2]at h;simp only[cond_false]at h ⊢;cases h3:(decide (((exS j (c.length+1) c).length:Int) > 4096)) ||(exS j (c.length+1) c).any bH with
   |true=>rw[h3]at h;cases h
   |false=>
    rw[Bool.or_eq_false_iff]at h3;refine⟨⟨by simpa using h1,by simpa using h2⟩,rfl,?_,fun x hx=>?_⟩
    ·have:=of_decide_eq_false h3.1;omega
    ·have:=List.any_eq_false.1 h3.2 x hx;unfold bH at this;simp only[decide_eq_true_eq]at this;omega
end


def eU (z:Claim)(x_:Judgement):Bool:=(decide (z.hour≥x_.hour))
@[go_sem] def nX:List SV→Option Con:=(pD .claim fun z=>(pX .judgement fun x_=>(pE (.det True (.v (.bool (eU z x_)))))))
theorem s6:FnOk Tryz.prog 31 nX:=by
 have hG:ConsOk Tryz.prog (mkG [] []):=ap cg0 cg0;refine aw [.o] mixed al hG (fn:=Tryz.f31) (c:=ae Tryz.f31) kr kr kr kr (bt fun z=>(aQ fun x_=>(ai (fun hp=>?_))));dsimp only[ar]at hp;refine⟨nbl rfl,L0,ag _,?_⟩
 ·unfold ae Tryz.f31;try unfold eU
  exact zq1
theorem Ho {α:Type}(l:List α)(d:α)(P:α→Bool){step:Nat→List α→Empty⊕List α}(h:∀ k s,step k s=bif P (l.getD k d)then .inr (s++[l.getD k d])else .inr s):aq step l.length 0 []=.inr (l.filter P):=by
 have key:∀ (R A:List α) (s:List α),l=A++R→aq step R.length A.length s=.inr (s++R.filter P):=fun R=>by
  induction R with
  |nil=>intro A s _;simp[aq]
  |cons y R ih=>
   intro A s hl;have g:l.getD A.length d=y:=by rw[hl];exact gi A y d R rfl
   have hl':l=(A++[y])++R:=by rw[hl];simp
   have ih:=fun s=>ih (A++[y]) s hl';rw[List.length_append,List.length_singleton]at ih;simp only[List.length_cons,aq,h,g];cases hc:P y with
   |true=>
    simp only[cond_true];rw[ih,List.filter_cons_of_pos hc];simp
   |false=>
    simp only[cond_false];rw[ih,List.filter_cons_of_neg (by rw[hc];simp)]
 exact key l [] [] rfl
theorem OC {α:Type}(l:List α)(d:α)(P:α→Bool){step:Nat→List α→Empty⊕List α}{p:Nat→List α→Prop}(h:∀ k s,step k s=bif P (l.getD k d)then .inr (s++[l.getD k d])else .inr s)(hp:∀ k s,k<l.length→s.length≤k→p k s):okI step p l.length 0 []:=by
 refine AX (fun k s=>s.length≤k) _ _ _ (by simp) fun k s _ hk hs=>⟨hp k s (by omega) hs,fun s' e=>?_⟩;rw[h]at e;cases hc:P (l.getD k d) <;>rw[hc]at e <;>simp only[cond_true,cond_false,Sum.inr.injEq]at e <;>subst e
 ·omega
 ·simp;omega
theorem D_ {d:District}{b:List Judgement}{x:Judgement}(hb:b.length≤64)(h:d6 d b x=true):(0<b.length→(b.getD (b.length - 1) default).no<x.no∧(b.getD (b.length - 1) default).hour≤x.hour)∧(0≤x.no∧x.no≤1048576)∧(x.of_≠0→0<x.of_∧kD b x=true):=by
 unfold d6 at h;cases h1:((!(aJ x.no 0 1048576)) ||(!(aJ x.hour 0 d.hours))) ||((decide ((b.length:Int) > 0))&&((decide (x.no≤(b.getD (Int.toNat (i64.wrap ((b.length:Int) - 1))) (default:Judgement)).no)) ||(decide (x.hour< (b.getD (Int.toNat (i64.wrap ((b.length:Int) - 1))) (default:Judgement)).hour))))with
 |true=>rw[h1]at h;cases h
 |false=>
  rw[h1]at h;simp only[cond_false]at h;rw[Bool.or_eq_false_iff,Bool.or_eq_false_iff]at h1;refine⟨fun h0=>?_,?_,fun ho=>?_⟩
  ·have h2:=h1.2;rw[decide_eq_true (by omega:(b.length:Int) > 0),Bool.true_and,Bool.or_eq_false_iff,decide_eq_false_iff_not,decide_eq_false_iff_not,fl (by omega) (by omega),show Int.toNat ((b.length:Int) - 1)=b.length - 1 by omega]at h2;omega
  ·have h2:=h1.1.1;simp only[Bool.not_eq_false',DU,Bool.and_eq_true,decide_eq_true_eq]at h2;exact h2
  ·have:(x.of_==0)=false:=by simpa using ho
   rw[this]at h;simp only[cond_false,Bool.and_eq_true,decide_eq_true_eq]at h;exact⟨by omega,h.2⟩
abbrev LK (j:List Judgement):Prop:=j.Pairwise fun a b=>a.no<b.no∧a.hour≤b.hour
theorem Ko {d:District}{j:List Judgement}(hl:j.length≤64)(h:∀ k,k<j.length→d6 d (j.take k) (j.getD k default)=true):∀ n,n≤j.length→LK (j.take n)
 |0,_=>by simp
 |n+1,hn=>by
  have ih:=Ko hl h n (by omega);have e:j.take (n+1)=j.take n++[j.getD n default]:=by
   rw[List.take_succ,List.getD_eq_getElem?_getD,List.getElem?_eq_getElem (by omega)];rfl
  rw[e];refine List.pairwise_append.2 ⟨ih,List.pairwise_singleton _ _,fun a ha b hb=>?_⟩;rw[List.mem_singleton.1 hb];have hlen:(j.take n).length=n:=by simp;omega
  have hn0:0<n:=by
   cases n with
   |zero=>simp at ha
   |succ n=>omega
  obtain⟨r1,r2⟩:=(D_ (by omega) (h n (by omega))).1 (by omega);rw[hlen]at r1 r2;have hlast:(j.take n).getD (n - 1) default∈j.take n:=pg _ _ (by omega);obtain⟨i,hi,rfl⟩:=List.getElem_of_mem ha;by_cases hin:i=n - 1
  ·subst hin;rw[List.getD_eq_getElem?_getD,List.getElem?_eq_getElem hi]at r1 r2;exact⟨r1,r2⟩
  ·have:=(List.pairwise_iff_getElem.1 ih) i (n - 1) hi (by omega) (by omega);rw[List.getD_eq_getElem?_getD,List.getElem?_eq_getElem (by omega:n - 1< (j.take n).length)]at r1 r2;exact⟨by have:=this.1;simp only[Option.getD_some]at r1;omega,by have:=this.2;simp only[Option.getD_some]at r2;omega⟩
theorem Rb {d:District}{j:List Judgement}(h:bh d j=0):LK j:=by
 obtain⟨_,h1,h2⟩:=sb h;have:=Ko h1 h2 j.length (Nat.le_refl _)
 rwa[List.take_length]at this
theorem zW (j:List Judgement)(x:Judgement)(h:Int):dq j x h=j.any fun y=>(y.of_==i64.wrap (x.no+1))&&decide (y.hour≤h):=by
 unfold dq;have key:∀ (R A:List Judgement),j=A++R→aq (mo j x h) R.length A.length ()=bif R.any (fun y=>(y.of_==i64.wrap (x.no+1))&&decide (y.hour≤h))then .inl ()else .inr ():=fun R=>by
  induction R with
  |nil=>intro A _;rfl
  |cons y R ih=>
   intro A hj;have g:j.getD A.length default=y:=by rw[hj];exact gi A y default R rfl
   have ih:=ih (A++[y]) (by rw[hj];simp);rw[List.length_append,List.length_singleton]at ih;simp only[List.length_cons,aq,mo,g,List.any_cons];cases(y.of_==i64.wrap (x.no+1))&&decide (y.hour≤h)with
   |true=>rfl
   |false=>exact ih
 have:=key j [] rfl;rw[List.length_nil]at this;rw[this];cases j.any fun y=>(y.of_==i64.wrap (x.no+1))&&decide (y.hour≤h) <;>rfl
structure SumM (A:List Claim)(s:List (Int×Int)):Prop where
 nd:(rN s).Nodup
 val:∀ h:Int,gz .int .int s h=tot (qT A h)
end Go.Sx
end
section
namespace Go.Sx
universe u
section
variable {α:Type u}
def pV (k:Int→List SV→Option α):List SV→Option α
 | .v (.int .u8 n)::r=>k n r
 |_=>none
@[go_sem] theorem aau {k:Int→List SV→Option α}{n:Int}{r:List SV}:pV k (.v (.int .u8 n)::r)=k n r:=(rfl)
theorem Ur {k:Int→List SV→Option α}{l:List SV}{c:α}(h:pV k l=some c):∃ n r,l=.v (.int .u8 n)::r∧k n r=some c:=by
 unfold pV at h;split at h
 ·exact⟨_,_,rfl,h⟩
 ·cases h
def pW (k:Int→List SV→Option α):List SV→Option α
 | .v (.int .u16 n)::r=>k n r
 |_=>none
@[go_sem] theorem aav {k:Int→List SV→Option α}{n:Int}{r:List SV}:pW k (.v (.int .u16 n)::r)=k n r:=(rfl)
theorem Us {G:List SV→α→Prop}{k:Int→List SV→Option α}(h:∀ n l c,k n l=some c→G (.v (.int .u8 n)::l) c):∀ l c,pV k l=some c→G l c:=fun l c hc=>by
 obtain⟨n,r,rfl,h1⟩:=Ur hc;exact h n r c h1
end
end Go.Sx
end
section
namespace Go.Sx
@[go_sem] theorem YX {te:TI}{nx:Nat}{h:List Ob}{s:SV}:nu te nx h [.any,s]=.bad:=(rfl)
@[go_sem] theorem abr {t:Tag}{f:List t.T→List SV→Option Con}{l:List SV}:pR t f (.any::l)=none:=(rfl)
end Go.Sx
end
section
namespace Go.Sx
open Go.Proofs
open IntKind (i64)
@[go_sem] def od (c_:List Claim)(y_:Judgement)(k_0:Nat)(s_0:List Claim):Empty⊕(List Claim):=(bif(eU (c_.getD k_0 default) y_)then .inr (s_0++([(c_.getD k_0 default)]))else .inr s_0)
def pA (c_:List Claim)(y_:Judgement)(k_0:Nat)(s_0:List Claim):Prop:=((eU (c_.getD k_0 default) y_)=true→((s_0++([(c_.getD k_0 default)])).length*40≤cW))
def eV (c_:List Claim)(y_:Judgement):List Claim:=(match aq (od c_ y_) c_.length 0 ([])with| .inl x=>x.elim| .inr s_0=>s_0)
def fv (c_:List Claim)(y_:Judgement):Prop:=(c_.length≤aH→okI (od c_ y_) (pA c_ y_) c_.length 0 ([]))
noncomputable def sV:List SV→List Ob→Option HCon:=pf (fun x_:(List Claim)×Judgement=>[.os 0,.fn 31 [] [.ptr 1 0]]) (fun x_=>[.row .claim x_.1,.cells (cellsOf .judgement x_.2)]) (fun x_=>ic (fv x_.1 x_.2) (.rs .claim (eV x_.1 x_.2)) [.row .claim x_.1,.cells (cellsOf .judgement x_.2)])
@[go_sem] theorem Kp (c_:List Claim)(y_:Judgement):sV ([.os 0,.fn (31:Nat) [] [.ptr 1 0]]) ([.row .claim c_,.cells [.v (.int .i64 y_.no),.v (.int .i64 y_.hour),.v (.int .i64 y_.kind),.v (.int .i64 y_.farm),.v (.int .i64 y_.other),.v (.int .i64 y_.since),.v (.int .i64 y_.to),.v (.int .i64 y_.n),.v (.int .i64 y_.of_)]])=some (ic (fv c_ y_) (.rs .claim (eV c_ y_)) [.row .claim c_,.cells (cellsOf .judgement y_)]):=ll (A:=fun x_:(List Claim)×Judgement=>[.os 0,.fn 31 [] [.ptr 1 0]]) (H:=fun x_=>[.row .claim x_.1,.cells (cellsOf .judgement x_.2)]) (K:=fun x_=>ic (fv x_.1 x_.2) (.rs .claim (eV x_.1 x_.2)) [.row .claim x_.1,.cells (cellsOf .judgement x_.2)]) (x:=(c_,y_))
theorem AO:FnOkO Tryz.prog 28 sV:=by
 have hG:ConsOk Tryz.prog (mkG [(31,nX)] []):=ap (cgc s6 cg0) cg0;refine Ow [.sl .claim] mixed al hG (fn:=Tryz.f28) (c:=ae Tryz.f28) kr kr kr kr fun l o con h=>?_;obtain⟨⟨c_,y_⟩,rfl,rfl,rfl⟩:=jo h;clear h;try dsimp only
 refine⟨_,_,_,rfl,rfl,fun hp=>?_⟩;unfold fv at hp;refine⟨nbl rfl,(fun id st=>bif Nat.beq id 0 then some (LCR (ρ:=Empty) (σ:=(List Claim)) 2 [.slot 4 (.row .claim ([]))] [0,1,2] (fun k_0 s_0=>⟨[(1,.fn 31 [] [.ptr 1 0]),(4,.os 2),(7,.os 0),(8,.v (.int .i64 (c_.length:Int))),(9,.v (.int .i64 (k_0:Int)))],[.row .claim c_,.cells (cellsOf .judgement y_),.row .claim s_0]⟩) (od c_ y_) (pA c_ y_) c_.length ([]) (c_.length≤aH) ((·.elim)) ((·.elim)) st)else none),?_,?_⟩
 ·unfold ae Tryz.f28;simp only[am,true_and,and_true]
  ·refine aY mixed al hG kr (fun _=>rfl) (c_.length:Int) rfl ig (fun hb0 k_0 s_0 hlt0 hq0 hw hc=>⟨L0,ag _,?_⟩) (fun hb0 s_0 hc=>?_)
   ·unfold pA at hq0;try simp only[hw,Int.toNat_natCast]at hq0
    exact kX (jl [0,1,5]) (jl [0,1,2])
   ·exact jL (jl [0,1,5]) (jl [0,1,2])
 ·unfold ae Tryz.f28;try unfold eV
  exact sE (jl [0,1])
@[go_sem] def dx (a2:List Judgement)(a3:Int)(k_0:Nat)(s_0:List Judgement):Empty⊕(List Judgement):=letI q0:=a2.getD (Int.toNat (Int.tmod (i64.wrap a3) (a2.length:Int))) default;letI q1:=a2.getD k_0 default;(bif((q1.no !=q0.no)&&(q1.no !=(i64.wrap (q0.of_ - 1))))then .inr (s_0++([q1]))else .inr s_0)
def gH (a2:List Judgement)(a3:Int)(k_0:Nat)(s_0:List Judgement):Prop:=letI q0:=a2.getD (Int.toNat (Int.tmod (i64.wrap a3) (a2.length:Int))) default;letI q1:=a2.getD k_0 default;(((q1.no !=q0.no)&&(q1.no !=(i64.wrap (q0.of_ - 1))))=true→((s_0++([q1])).length*72≤cW))
def fL (a0:District)(a1:List Claim)(a2:List Judgement)(a3:Int)(a4:Int):Bool:=letI q2:=ax a0 a2 a4;letI q3:=av a0 a1 a2;letI q4:=(a2.length:Int);letI q0:=a2.getD (Int.toNat (Int.tmod (i64.wrap a3) q4)) default;letI q1:=i64.wrap (q4 - 2);letI q5:=decide (a4<q0.hour);(bif(!qq)then false else(bif(((!(qe a0 a1 a2)) ||(q4==0)) ||((aN a0 a2) !=0))then true else(bif(q0.of_==0)then true else(match aq (dx a2 a3) a2.length 0 ([])with| .inl x=>x.elim| .inr s_0=>(bif((q3.2==0)&&((av a0 a1 s_0).2==0))then(bif(((q3.2==0)&&((av a0 a1 s_0).2==0))&&(!(kA (eV (q3.1) q0) (eV ((av a0 a1 s_0).1) q0))))then false else(bif q5 then((s_0.length:Int) ==q1)else((((s_0.length:Int) ==q1)&&(q2.2==(ax a0 s_0 a4).2))&&(oq (q2.1) ((ax a0 s_0 a4).1)))))else(bif q5 then((s_0.length:Int) ==q1)else((((s_0.length:Int) ==q1)&&(q2.2==(ax a0 s_0 a4).2))&&(oq (q2.1) ((ax a0 s_0 a4).1)))))))))
def eW (a0:District)(a1:List Claim)(a2:List Judgement)(a3:Int)(a4:Int):Prop:=letI q1:=av a0 a1 a2;letI q2:=(a2.length:Int);letI q3:=ax a0 a2 a4;letI q4:=Int.tmod (i64.wrap a3) q2;letI q0:=a2.getD (Int.toNat q4) default;letI q5:=q1.2==0;letI q6:=cP a0 a2 a4;letI q7:=i64.wrap (q2 - 2);letI q8:=decide (a4<q0.hour);letI q9:=dx a2 a3;letI qa:=eV (q1.1) q0;letI qb:= !(qe a0 a1 a2);((pz)∧((!qq)=false→(((qb||(q2==0))=false→(gf a0 a2))∧(((qb||(q2==0)) ||((aN a0 a2) !=0))=false→(a2.length≤aH→(q2≠0∧((0≤q4∧q4<q2)∧((q0.of_==0)=false→(a2.length≤aH→(okI q9 (gH a2 a3) a2.length 0 ([])∧(∀ s_0,aq q9 a2.length 0 ([])=.inr s_0→((cF a0 a1 a2)∧((cF a0 a1 s_0)∧(((q5&&((av a0 a1 s_0).2==0))=true→((fv (q1.1) q0)∧((fv ((av a0 a1 s_0).1) q0)∧(((q5&&((av a0 a1 s_0).2==0))=true→(m_ qa (eV ((av a0 a1 s_0).1) q0)))∧(((q5&&((av a0 a1 s_0).2==0))&&(!(kA qa (eV ((av a0 a1 s_0).1) q0))))=false→(q8=false→(q6∧((cP a0 s_0 a4)∧(s_0.length≤aH→(a2.length≤aH→((((s_0.length:Int) ==q7)&&(q3.2==(ax a0 s_0 a4).2))=true→(kC (q3.1) ((ax a0 s_0 a4).1)))))))))))))∧((q5&&((av a0 a1 s_0).2==0))=false→(((q5&&((av a0 a1 s_0).2==0))=true→((fv ((av a0 a1 s_0).1) q0)∧(((q5&&((av a0 a1 s_0).2==0))=false)∧(q8=false→(q6∧((cP a0 s_0 a4)∧(s_0.length≤aH→(a2.length≤aH→((((s_0.length:Int) ==q7)&&(q3.2==(ax a0 s_0 a4).2))=true→(kC (q3.1) ((ax a0 s_0 a4).1)))))))))))∧((q5&&((av a0 a1 s_0).2==0))=false→(((q5&&((av a0 a1 s_0).2==0))=false)∧(q8=false→(q6∧((cP a0 s_0 a4)∧(s_0.length≤aH→(a2.length≤aH→((((s_0.length:Int) ==q7)&&(q3.2==(ax a0 s_0 a4).2))=true→(kC (q3.1) ((ax a0 s_0 a4).1))))))))))))))))))))))))))
@[go_sem] def kS:List SV→Option Con:=(pD .district fun a0=>(pR .claim fun a1=>(pR .judgement fun a2=>(pV fun a3=>(pI fun a4=>(pE (.det (eW a0 a1 a2 a3 a4) (.v (.bool (fL a0 a1 a2 a3 a4))))))))))
theorem uK:FnOk Tryz.prog 6 kS:=by
 have hG:ConsOk Tryz.prog (mkG [(10,zb),(11,fun l=>Ak (bo [.st .district,.sl .claim,.sl .judgement] l)),(12,fun l=>nB (bo [.st .district,.sl .claim,.sl .judgement] l)),(14,fun l=>pe (bo [.st .district,.sl .judgement,.o] l)),(16,fun l=>i5 (bo [.st .district,.sl .judgement] l)),(18,fun l=>va (bo [.sl .claim,.sl .claim] l)),(19,fun l=>yO (bo [.sl .int,.sl .int] l))] [(28,sV)]):=ap (cgc C9 (cgc (EX.norm [.st .district,.sl .claim,.sl .judgement]) (cgc (qR.norm [.st .district,.sl .claim,.sl .judgement]) (cgc (sC.norm [.st .district,.sl .judgement,.o]) (cgc (kE.norm [.st .district,.sl .judgement]) (cgc (xw.norm [.sl .claim,.sl .claim]) (cgc (C0.norm [.sl .int,.sl .int]) cg0))))))) (cgc AO cg0);refine aw [.o] mixed al hG (fn:=Tryz.f6) (c:=ae Tryz.f6) kr kr kr kr (bt fun a0=>(bJ fun a1=>(bJ fun a2=>(Us fun a3=>(dh fun a4=>(ai (fun hp=>?_)))))));dsimp only[ar]at hp;unfold eW at hp;refine⟨nbl rfl,(fun id st=>bif Nat.beq id 0 then some (LCR (ρ:=Empty) (σ:=(List Judgement)) 2 [.slot 12 (.row .judgement ([]))] [0,1,2] (fun k_0 s_0=>⟨[(1,.rs .claim a1),(2,.rs .judgement a2),(4,.v (.int .i64 a4)),(5,.ptr 0 0),(11,.ptr 1 0),(12,.os 2),(53,.rs .judgement a2),(54,.v (.int .i64 (a2.length:Int))),(55,.v (.int .i64 (k_0:Int)))],[.cells (cellsOf .district a0),.cells (cellsOf .judgement (a2.getD (Int.toNat (Int.tmod (i64.wrap a3) (a2.length:Int))) (default:Judgement))),.row .judgement s_0]⟩) (dx a2 a3) (gH a2 a3) a2.length ([]) (a2.length≤aH) ((·.elim)) ((·.elim)) st)else none),?_,?_⟩
 ·unfold ae Tryz.f6;simp only[am,true_and,and_true]
  ·refine aY mixed al hG kr (fun _=>rfl) (a2.length:Int) rfl ig (fun hb0 k_0 s_0 hlt0 hq0 hw hc=>⟨L0,ag _,?_⟩) (fun hb0 s_0 hc=>?_)
   ·unfold gH at hq0;try simp only[hw,Int.toNat_natCast]at hq0
    exact kX (jl [0,1,5]) (jl [0,1,2])
   ·exact jL (jl [0,1,5]) (jl [0,1,2])
 ·unfold ae Tryz.f6;try unfold fL
  simp only[go_sem,Nat.reduceBEq,Nat.reduceLeDiff,Nat.reduceLT,decide_true,Nat.reduceAdd,Nat.reduceSub,Nat.reduceMul,Int.reduceLE,Int.reduceLT,Int.reduceToNat,Int.reduceNeg,reduceCtorEq];all_goals (repeat' (first|with_reducible refine And.intro ?_ ?_|with_reducible intro _))
  all_goals (try simp only[E3]at *)
  all_goals exact cl
theorem Ea (c:List Claim)(y:Judgement)(hc:c.length≤1000000):fv c y∧eV c y=c.filter fun z=>decide (z.hour≥y.hour):=by
 refine⟨fun _=>OC c default (fun z=>eU z y) (fun k s=>rfl) fun k s hk hs _=>?_,?_⟩
 ·simp only[List.length_append,List.length_singleton];unfold cW;omega
 ·unfold eV;rw[Ho (step:=od c y) c default (fun z=>eU z y) (fun k s=>rfl)];rfl
abbrev JOf (j:List Judgement):Prop:=j.Pairwise fun a b=>b.of_≠0→a.of_≠b.of_
theorem As {d:District}{j:List Judgement}(h:bh d j=0){A R:List Judgement}{x:Judgement}(e:j=A++x::R):d6 d A x=true∧A.length≤63:=by
 obtain⟨_,h1,h2⟩:=sb h;have hl:j.length=A.length+(R.length+1):=by rw[e];simp
 have:=h2 A.length (by omega);rw[e,List.take_left,gi A x default R rfl]at this;exact⟨this,by omega⟩
theorem zX {d:District}{j:List Judgement}(hj:JR j)(h:bh d j=0){A R:List Judgement}{x:Judgement}(e:j=A++x::R)(h0:x.of_≠0):0<x.of_∧(x.kind=0∧x.farm=0∧x.other=0∧x.since=0∧x.to=0∧x.n=0)∧(∃ y∈A,y.of_=0∧y.no+1=x.of_)∧¬ ∃ y∈A,y.of_=x.of_:=by
 obtain⟨h1,h2⟩:=As h e;obtain⟨_,_,h3⟩:=D_ (by omega) h1;obtain⟨h4,h5⟩:=h3 h0;exact⟨h4,(vb A x h4 (hj x (by rw[e];simp)).2).1 h5⟩
theorem Kq {d:District}{j:List Judgement}(hj:JR j)(h:bh d j=0):∀ (R A:List Judgement),j=A++R→JOf A→JOf j
 | [],A,e,hA=>by rw[e,List.append_nil];exact hA
 |x::R,A,e,hA=>Kq hj h R (A++[x]) (by rw[e];simp) (List.pairwise_append.2 ⟨hA,List.pairwise_singleton _ _,fun a ha b hb h0=>by
  rw[List.mem_singleton.1 hb]at h0 ⊢;exact fun q=>(zX hj h e h0).2.2.2 ⟨a,ha,q⟩⟩)
theorem jof {d:District}{j:List Judgement}(hj:JR j)(h:bh d j=0):JOf j:=Kq hj h j [] rfl List.Pairwise.nil
theorem zY {j:List Judgement}(ho:LK j){a b:Judgement}(ha:a∈j)(hb:b∈j)(e:a.no=b.no):a=b:=by
 obtain⟨i,hi,rfl⟩:=List.getElem_of_mem ha;obtain⟨k,hk,rfl⟩:=List.getElem_of_mem hb;rcases Nat.lt_trichotomy i k with h|h|h
 ·have:=(List.pairwise_iff_getElem.1 ho) i k hi hk h;omega
 ·subst h;rfl
 ·have:=(List.pairwise_iff_getElem.1 ho) k i hk hi h;omega
theorem Ut {j:List Judgement}(ho:JOf j){a b:Judgement}(ha:a∈j)(hb:b∈j)(h0:a.of_≠0)(e:a.of_=b.of_):a=b:=by
 obtain⟨i,hi,rfl⟩:=List.getElem_of_mem ha;obtain⟨k,hk,rfl⟩:=List.getElem_of_mem hb;rcases Nat.lt_trichotomy i k with h|h|h
 ·exact absurd e ((List.pairwise_iff_getElem.1 ho) i k hi hk h (by rw[←e];exact h0))
 ·subst h;rfl
 ·exact absurd e.symm ((List.pairwise_iff_getElem.1 ho) k i hk hi h h0)
theorem CK:∀ {l:List Judgement},LK l→∀ {a:Judgement},a∈l→(l.filter fun x=>x.no !=a.no).length+1=l.length
 | [],_,a,ha=>by cases ha
 |y::r,h,a,ha=>by
  have hp:=List.pairwise_cons.1 h;rcases List.mem_cons.1 ha with rfl|ha
  ·rw[List.filter_cons_of_neg (by simp)];have:(r.filter fun x=>x.no !=a.no)=r:=List.filter_eq_self.2 fun z hz=>by
    have:=(hp.1 z hz).1;simp;omega
   rw[this];rfl
  ·have:=(hp.1 a ha).1;rw[List.filter_cons_of_pos (by simp;omega),List.length_cons,CK hp.2 ha];rfl
theorem yc {α:Type}(P:α→Bool)(d:α):∀ (l:List α) (k:Nat),k< (l.filter P).length→∃ A x R,l=A++x::R∧P x=true∧(l.filter P).take k=A.filter P∧(l.filter P).getD k d=x
 | [],k,h=>absurd h (Nat.not_lt_zero _)
 |y::r,k,h=>by
  by_cases hy:P y=true
  ·rw[List.filter_cons_of_pos hy]at h ⊢;cases k with
   |zero=>exact⟨[],y,r,rfl,hy,rfl,rfl⟩
   |succ k=>
    obtain⟨A,x,R,e,hx,h1,h2⟩:=yc P d r k (by simpa using h);exact⟨y::A,x,R,by rw[e];rfl,hx,by rw[List.take_succ_cons,h1,List.filter_cons_of_pos hy],by rw[List.getD_cons_succ];exact h2⟩
  ·rw[List.filter_cons_of_neg hy]at h ⊢;obtain⟨A,x,R,e,hx,h1,h2⟩:=yc P d r k h;exact⟨y::A,x,R,by rw[e];rfl,hx,by rw[h1,List.filter_cons_of_neg hy],h2⟩
theorem IT {d:District}{j:List Judgement}(h1:fc d=0)(h2:j.length≤64)(h3:∀ k,k<j.length→d6 d (j.take k) (j.getD k default)=true):bh d j=0:=by
 unfold bh;rw[h1,decide_eq_false (by omega:¬ (j.length:Int) > 64)];simp only[bne_self_eq_false,cond_false];rw[zc (ρ:=Unit) (step:=gc d j) j.length 0 fun k _ hk=>by
  unfold gc;have:d6 d ((j.take k).drop 0) (j.getD k default)=true:=h3 k (by omega);rw[this];rfl]
def cK (e:Judgement)(x:Judgement):Bool:=(x.no !=e.no)&&(x.no !=e.of_ - 1)
structure Ends (d:District)(j:List Judgement)(e:Judgement)(y:Judgement):Prop where
 ej:e∈j
 yj:y∈j
 e0:0<e.of_
 y0:y.of_=0
 ye:y.no+1=e.of_
theorem Ends.ne {d:District}{j:List Judgement}{e y:Judgement}(h:Ends d j e y)(ho:LK j):y.no≠e.no:=fun q=>by
 have:=zY ho h.yj h.ej q;have h1:=h.e0;have h2:=h.y0;rw[this]at h2;omega
theorem OD {d:District}{j:List Judgement}{e y:Judgement}(h:Ends d j e y)(ho:LK j):(j.filter (cK e)).length+2=j.length:=by
 have hye:=h.ye;have e1:j.filter (cK e)=(j.filter fun x=>x.no !=y.no).filter fun x=>x.no !=e.no:=by
  rw[List.filter_filter];refine List.filter_congr fun x _=>?_;unfold cK;rw[show e.of_ - 1=y.no by omega]
 have h1:=CK ho h.yj;have h2:=CK (l:=j.filter fun x=>x.no !=y.no) (ho.sublist List.filter_sublist) (a:=e) (List.mem_filter.2 ⟨h.ej,by have:=h.ne ho;simp;omega⟩);rw[e1];omega
theorem IU {d:District}{j:List Judgement}(hj:JR j)(hc:bh d j=0){e y:Judgement}(h:Ends d j e y):bh d (j.filter (cK e))=0:=by
 obtain⟨c1,c2,_⟩:=sb hc;have ho:=Rb hc;have hof:=jof hj hc;refine IT c1 (by have:=List.length_filter_le (cK e) j;omega) fun k hk=>?_;obtain⟨A,x,R,e1,hx,h1,h2⟩:=yc (cK e) default j k hk;rw[h1,h2];obtain⟨hr,hA⟩:=As hc e1;have hxj:x∈j:=by rw[e1];simp
 have hAj:∀ z∈A,z∈j:=fun z hz=>by rw[e1];simp[hz]
 have hlenF:=List.length_filter_le (cK e) A;have hr2:=hr;unfold d6 at hr ⊢;cases h3:((!(aJ x.no 0 1048576)) ||(!(aJ x.hour 0 d.hours)))with
 |true=>rw[h3]at hr;cases hr
 |false=>
  have hlast:((decide (((A.filter (cK e)).length:Int) > 0))&&((decide (x.no≤((A.filter (cK e)).getD (Int.toNat (i64.wrap (((A.filter (cK e)).length:Int) - 1))) (default:Judgement)).no)) ||(decide (x.hour< ((A.filter (cK e)).getD (Int.toNat (i64.wrap (((A.filter (cK e)).length:Int) - 1))) (default:Judgement)).hour))))=false:=by
   by_cases h0:0< (A.filter (cK e)).length
   ·rw[fl (by omega) (by omega),show Int.toNat (((A.filter (cK e)).length:Int) - 1)=(A.filter (cK e)).length - 1 by omega];have hm:=pg (A.filter (cK e)) default (k:=(A.filter (cK e)).length - 1) (by omega);have hm2:=(List.mem_filter.1 hm).1;rw[e1]at ho;have:=(List.pairwise_append.1 ho).2.2 _ hm2 x (by simp);rw[Bool.and_eq_false_iff,Bool.or_eq_false_iff];exact .inr ⟨decide_eq_false (by omega),decide_eq_false (by omega)⟩
   ·rw[decide_eq_false (by omega)];rfl
  rw[hlast];rw[h3,Bool.false_or]at hr;simp only[Bool.false_or,cond_false];cases h4:((decide ((A.length:Int) > 0))&&((decide (x.no≤(A.getD (Int.toNat (i64.wrap ((A.length:Int) - 1))) (default:Judgement)).no)) ||(decide (x.hour< (A.getD (Int.toNat (i64.wrap ((A.length:Int) - 1))) (default:Judgement)).hour))))with
  |true=>rw[h4]at hr;cases hr
  |false=>
   rw[h4]at hr;simp only[cond_false]at hr;by_cases hx0:x.of_=0
   ·have:(x.of_==0)=true:=by simpa using hx0
    rw[this]at hr ⊢;exact hr
   ·have:(x.of_==0)=false:=by simpa using hx0
    rw[this];obtain⟨q1,q2,⟨z,hz,z0,z1⟩,q4⟩:=zX hj hc e1 hx0;simp only[cond_false,Bool.and_eq_true,decide_eq_true_eq];refine⟨by omega,(vb (A.filter (cK e)) x q1 (hj x hxj).2).2 ⟨q2,⟨z,List.mem_filter.2 ⟨hz,?_⟩,z0,z1⟩,fun⟨w,hw,hw2⟩ =>q4 ⟨w,(List.mem_filter.1 hw).1,hw2⟩⟩⟩;have he0:=h.e0;unfold cK;simp only[Bool.and_eq_true,bne_iff_ne];refine⟨fun q=>?_,fun q=>?_⟩
    ·have:=zY ho (hAj z hz) h.ej q;rw[this]at z0;omega
    ·have:=Ut hof hxj h.ej hx0 (by omega);rw[this]at hx;unfold cK at hx;simp at hx
theorem IV {d:District}{j:List Judgement}(hc:bh d j=0){e y:Judgement}(h:Ends d j e y){x:Judgement}(hxj:x∈j)(hk:cK e x=true)(hr:Int):dq j x hr=dq (j.filter (cK e)) x hr:=by
 have ho:=Rb hc;have hno:0≤x.no∧x.no≤1048576:=by
  obtain⟨i,hi,rfl⟩:=List.getElem_of_mem hxj;have:=(NP hc i hi).no
  rwa[List.getD_eq_getElem?_getD,List.getElem?_eq_getElem hi]at this
 have hye:=h.ye;have hy0:=h.y0;unfold cK at hk;simp only[Bool.and_eq_true,bne_iff_ne]at hk;rw[zW,zW,List.any_filter,fl (by omega) (by omega)];have key:∀ z∈j,((z.of_==x.no+1)&&decide (z.hour≤hr))=(cK e z&&((z.of_==x.no+1)&&decide (z.hour≤hr))):=fun z hz=>by
  by_cases hz1:z.of_=x.no+1
  ·have:cK e z=true:=by
    unfold cK;simp only[Bool.and_eq_true,bne_iff_ne];refine⟨fun q=>?_,fun q=>?_⟩
    ·have:=zY ho hz h.ej q;rw[this]at hz1;omega
    ·have:=zY ho hz h.yj (by omega);rw[this]at hz1;omega
   rw[this,Bool.true_and]
  ·have:(z.of_==x.no+1)=false:=by simpa using hz1
   rw[this];simp
 rw[Bool.eq_iff_iff,List.any_eq_true,List.any_eq_true];constructor
 ·rintro⟨z,hz,hp⟩;exact⟨z,hz,by rw[←key z hz];exact hp⟩
 ·rintro⟨z,hz,hp⟩;exact⟨z,hz,by rw[key z hz];exact hp⟩
theorem At {d:District}{j:List Judgement}(hc:bh d j=0){e y:Judgement}(h:Ends d j e y){hr:Int}(hh:e.hour≤hr){P:List Judgement→Judgement→Bool}(hP:∀ l x,P l x=true→x.of_=0∧dq l x hr=false)(hQ:∀ l m x,dq l x hr=dq m x hr→P l x=P m x):(j.filter fun x=>P j x)=(j.filter (cK e)).filter fun x=>P (j.filter (cK e)) x:=by
 have ho:=Rb hc;have he0:=h.e0;have hye:=h.ye;rw[List.filter_filter];refine List.filter_congr fun x hx=>?_;cases hk:cK e x with
 |true=>rw[Bool.and_true];exact hQ _ _ _ (IV hc h hx hk hr)
 |false=>
  rw[Bool.and_false];cases hp:P j x with
  |false=>rfl
  |true=>
   obtain⟨p1,p2⟩:=hP _ _ hp;unfold cK at hk;rw[Bool.and_eq_false_iff]at hk;rcases hk with hk|hk
   ·have:=zY ho hx h.ej (by simpa using hk);rw[this]at p1;omega
   ·have:=zY ho hx h.yj (by have q:x.no=e.of_ - 1:=(by simpa using hk);omega);subst this;rw[zW,List.any_eq_false]at p2;have hno:0≤x.no∧x.no≤1048576:=by
     obtain⟨i,hi,rfl⟩:=List.getElem_of_mem hx;have:=(NP hc i hi).no
     rwa[List.getD_eq_getElem?_getD,List.getElem?_eq_getElem hi]at this
    have:=p2 e h.ej;rw[fl (by omega) (by omega)]at this;simp at this;omega
theorem Rc {d:District}{j:List Judgement}{c:List Claim}(g:Given d j c)(hc:bh d j=0){e y:Judgement}(h:Ends d j e y)(g2:Given d (j.filter (cK e)) c)(n:Nat):(exR j c 0 n).filter (fun z=>decide (z.hour≥e.hour))=(exR (j.filter (cK e)) c 0 n).filter fun z=>decide (z.hour≥e.hour):=by
 have hm:∀ {l:List Judgement},Given d l c→∀ k:Int,∀ z∈doH l k (qT c k),z.hour=k:=fun gl k=>((gl.sub (D9 c k).1).hour (D9 c k).2 [] ([],[])).2.1.d.hr;rw[exR,exR,wL,wL];refine yb _ _ fun k _ _=>?_;by_cases hh:e.hour≤k
 ·unfold doH;rw[At hc h hh (P:=fun l x=>aV l x k) (fun l x hp=>by
   unfold aV at hp;simp only[Bool.and_eq_true,Bool.not_eq_true']at hp;exact⟨by simpa using hp.1.1.1.1,hp.2⟩) fun l m x q=>by unfold aV;rw[q]]
 ·have e1:(doH j k (qT c k)).filter (fun z=>decide (z.hour≥e.hour))=[]:=List.filter_eq_nil_iff.2 fun z hz=>by
   have:=hm g k z hz;exact fun hd=>absurd (of_decide_eq_true hd) (by omega)
  have e2:(doH (j.filter (cK e)) k (qT c k)).filter (fun z=>decide (z.hour≥e.hour))=[]:=List.filter_eq_nil_iff.2 fun z hz=>by
   have:=hm g2 k z hz;exact fun hd=>absurd (of_decide_eq_true hd) (by omega)
  rw[e1,e2]
theorem Hq {α σ:Type}(l:List α)(d:α)(P:α→Bool)(f:σ→α→σ){step:Nat→σ→Empty⊕σ}(h:∀ k s,step k s=bif P (l.getD k d)then .inr (f s (l.getD k d))else .inr s)(s:σ):aq step l.length 0 s=.inr ((l.filter P).foldl f s):=by
 have key:∀ (R A:List α) (s:σ),l=A++R→aq step R.length A.length s=.inr ((R.filter P).foldl f s):=fun R=>by
  induction R with
  |nil=>intro A s _;rfl
  |cons y R ih=>
   intro A s hl;have g:l.getD A.length d=y:=by rw[hl];exact gi A y d R rfl
   have ih:=fun s=>ih (A++[y]) s (by rw[hl];simp);rw[List.length_append,List.length_singleton]at ih;simp only[List.length_cons,aq,h,g];cases hc:P y with
   |true=>
    simp only[cond_true];rw[ih,List.filter_cons_of_pos hc];rfl
   |false=>
    simp only[cond_false];rw[ih,List.filter_cons_of_neg (by rw[hc];simp)]
 exact key l [] s rfl
def Sd (s:List Int)(x:Judgement):List Int:=(s.set (Int.toNat x.farm) (i64.wrap ((s.getD (Int.toNat x.farm) 0)+x.n))).set (Int.toNat x.other) (i64.wrap (((s.set (Int.toNat x.farm) (i64.wrap ((s.getD (Int.toNat x.farm) 0)+x.n))).getD (Int.toNat x.other) 0) - x.n))
theorem IW {d:District}{j:List Judgement}(hj:JR j)(hc:bh d j=0){e y:Judgement}(h:Ends d j e y){hr:Int}(hh:e.hour≤hr):ax d j hr=ax d (j.filter (cK e)) hr:=by
 have hj2:JR (j.filter (cK e)):=fun z hz=>hj z (List.mem_filter.1 hz).1;have hc2:=IU hj hc h;rw[GM d j hr hj,GM d _ hr hj2];unfold wC;rw[hc,hc2];simp only[bne_self_eq_false,cond_false];rw[Hq (step:=iD j hr) j default (fun x=>((x.kind==4)&&(decide (x.hour≤hr)))&&(!(dq j x hr))) Sd (fun k s=>rfl),
  Hq (step:=iD (j.filter (cK e)) hr) (j.filter (cK e)) default (fun x=>((x.kind==4)&&(decide (x.hour≤hr)))&&(!(dq (j.filter (cK e)) x hr))) Sd (fun k s=>rfl)]
 have key:(j.filter fun x=>((x.kind==4)&&(decide (x.hour≤hr)))&&(!(dq j x hr)))=(j.filter (cK e)).filter fun x=>((x.kind==4)&&(decide (x.hour≤hr)))&&(!(dq (j.filter (cK e)) x hr)):=by
  have h1:=At hc h hh (P:=fun l x=>((x.of_==0)&&((x.kind==4)&&(decide (x.hour≤hr))))&&(!(dq l x hr))) (fun l x hp=>by
   simp only[Bool.and_eq_true,Bool.not_eq_true']at hp;exact⟨by simpa using hp.1.1,hp.2⟩) fun l m x q=>by rw[q]
  have h2:∀ L M:List Judgement,(∀ x∈L,x∈j)→(L.filter fun x=>((x.kind==4)&&(decide (x.hour≤hr)))&&(!(dq M x hr)))=L.filter fun x=>((x.of_==0)&&((x.kind==4)&&(decide (x.hour≤hr))))&&(!(dq M x hr)):=fun L M hL=>List.filter_congr fun x hx=>by
   by_cases hk:x.kind=4
   ·have:x.of_=0:=by
     obtain⟨i,hi,rfl⟩:=List.getElem_of_mem (hL x hx);have:=(NP hc i hi).end_;rw[List.getD_eq_getElem?_getD,List.getElem?_eq_getElem hi]at this;exact Decidable.byContradiction fun q=>by have:=this q;simp only[Option.getD_some]at this;omega
    rw[this];simp
   ·have:(x.kind==4)=false:=by simpa using hk
    rw[this];simp
  rw[h2 j j fun x hx=>hx,h1,h2 _ _ fun x hx=>(List.mem_filter.1 hx).1]
 rw[key]
theorem Au (d:District)(c:List Claim)(j:List Judgement)(w hr:Int)(hj:JR j)(hw:0≤w∧w≤255):eW d c j w hr∧fL d c j w hr=true:=by
 unfold eW fL;rw[Uq];cases hf:qe d c j with
 |false=>exact⟨⟨wQ,fun _=>⟨(fun h=>by cases h),(fun h=>by cases h)⟩⟩,rfl⟩
 |true=>
  cases hl0:(j.length:Int) ==0 with
  |true=>exact⟨⟨wQ,fun _=>⟨(fun h=>by cases h),(fun h=>by cases h)⟩⟩,rfl⟩
  |false=>
   cases hJ:aN d j !=0 with
   |true=>exact⟨⟨wQ,fun _=>⟨fun _=>uJ d j,(fun h=>by cases h)⟩⟩,rfl⟩
   |false=>
    simp only[Bool.not_true,Bool.or_false,cond_false,Bool.false_or];obtain⟨f1,f2⟩:=YW hf hj;have hJ:aN d j=0:=by simpa using hJ
    have hjl:=f1 hJ;have hc:bh d j=0:=by rw[←tC d j hj];exact hJ
    have hne:(j.length:Int)≠0:=by simpa using hl0
    obtain⟨k,hk,hkl⟩:∃ k:Nat,Int.tmod (i64.wrap w) (j.length:Int)=(k:Int)∧k<j.length:=by
     have hw2:i64.wrap w=w:=fl (by omega) (by omega);have h1:=Int.tmod_nonneg (j.length:Int) hw.1;have h2:=Int.tmod_lt_of_pos w (show(0:Int) < (j.length:Int) by omega);rw[hw2];exact⟨(Int.tmod w (j.length:Int)).toNat,by omega,by omega⟩
    rw[hk,Int.toNat_natCast];have hej:j.getD k default∈j:=pg j default hkl;have hsp:j=j.take k++j.getD k default::j.drop (k+1):=by
     have h1:j.drop k=j[k]::j.drop (k+1):=List.drop_eq_getElem_cons hkl;rw[List.getD_eq_getElem?_getD,List.getElem?_eq_getElem hkl,Option.getD_some,←h1,List.take_append_drop]
    cases he:(j.getD k default).of_==0 with
    |true=>exact⟨⟨wQ,fun _=>⟨fun _=>uJ d j,fun _ _=>⟨hne,⟨by omega,by omega⟩,(fun h=>by cases h)⟩⟩⟩,rfl⟩
    |false=>
     have he:(j.getD k default).of_≠0:=by simpa using he
     obtain⟨s1,s2,⟨y,hy,y0,y1⟩,s4⟩:=zX hj hc hsp he;have E:Ends d j (j.getD k default) y:=⟨hej,List.take_subset _ _ hy,s1,y0,y1⟩;have hof:=(hj _ hej).2;have hw3:i64.wrap ((j.getD k default).of_ - 1)=(j.getD k default).of_ - 1:=fl (by omega) (by omega);have hst:∀ i s,dx j w i s=bif cK (j.getD k default) (j.getD i default)then .inr (s++[j.getD i default])else .inr s:=fun i s=>by
      unfold dx;rw[hk,Int.toNat_natCast,hw3];rfl
     have hrun:=Ho (step:=dx j w) j default (cK (j.getD k default)) hst;have hrp:okI (dx j w) (gH j w) j.length 0 []:=OC j default (cK (j.getD k default)) hst fun i s hi hs _=>by
      simp only[List.length_append,List.length_singleton];unfold cW;omega
     have hlen:=OD E (Rb hc);have hj2:JR (j.filter (cK (j.getD k default))):=fun z hz=>hj z (List.mem_filter.1 hz).1;obtain⟨⟨p1,_⟩,e1,_⟩:=CH hj f1 f2;obtain⟨⟨p2,_⟩,e2,_⟩:=CH (d:=d) (c:=c) hj2 (fun _=>by omega) f2;have hwl:i64.wrap ((j.length:Int) - 2)=(j.length:Int) - 2:=fl (by omega) (by omega);have hln:(((j.filter (cK (j.getD k default))).length:Int) ==i64.wrap ((j.length:Int) - 2))=true:=by
      rw[hwl];exact beq_iff_eq.2 (by omega)
     have late:(((av d c j).2==0)&&((av d c (j.filter (cK (j.getD k default)))).2==0))=true→(fv (av d c j).1 (j.getD k default)∧fv (av d c (j.filter (cK (j.getD k default)))).1 (j.getD k default))∧kA (eV (av d c j).1 (j.getD k default)) (eV (av d c (j.filter (cK (j.getD k default)))).1 (j.getD k default))=true:=fun h=>by
      rw[e1,e2]at h ⊢;simp only[Bool.and_eq_true,beq_iff_eq]at h;obtain⟨⟨_,o2⟩,o3,o4,_⟩:=OB h.1;obtain⟨_,o5,o6,_⟩:=OB h.2;have g:=Hn hJ hj o2 hjl (f2 o2);have g2:Given d (j.filter (cK (j.getD k default))) c:=⟨fun x hx=>g.js x (List.mem_filter.1 hx).1,by omega,g.cs,g.st,g.cl,g.rl⟩;rw[o3,o5];have q1:=Ea (exS j (c.length+1) c) (j.getD k default) (by omega);have q2:=Ea (exS (j.filter (cK (j.getD k default))) (c.length+1) c) (j.getD k default) (by omega);refine⟨⟨q1.1,q2.1⟩,?_⟩;rw[q1.2,q2.2,g.out,g2.out,Rc g hc E g2];exact zV _
     have fin:=fun hh:decide (hr< (j.getD k default).hour)=false=>IW (d:=d) hj hc E (hr:=hr) (by have:=of_decide_eq_false hh;omega);have tail:(decide (hr< (j.getD k default).hour))=false→cP d j hr∧cP d (j.filter (cK (j.getD k default))) hr∧((j.filter (cK (j.getD k default))).length≤aH→j.length≤aH→((((j.filter (cK (j.getD k default))).length:Int) ==(i64.wrap ((j.length:Int) - 2)))&&((ax d j hr).2==(ax d (j.filter (cK (j.getD k default))) hr).2))=true→kC (ax d j hr).1 (ax d (j.filter (cK (j.getD k default))) hr).1):=fun _=>⟨(A6 d j hr hj).1,(A6 d _ hr hj2).1,fun _ _ _=>Q_ _ _⟩;refine⟨⟨wQ,fun _=>⟨fun _=>uJ d j,fun _ _=>⟨hne,⟨by omega,by omega⟩,fun _ _=>⟨hrp,fun s hs=>?_⟩⟩⟩⟩,?_⟩
     ·rw[hrun]at hs;simp only[Sum.inr.injEq]at hs;subst hs;refine⟨p1,p2,fun h=>⟨(late h).1.1,(late h).1.2,fun _=>IR _ _,fun _=>tail⟩,fun h=>⟨(fun h'=>by rw[h]at h';cases h'),fun _=>⟨h,tail⟩⟩⟩
     ·rw[hrun];simp only[cond_false];have T:(bif(decide (hr< (j.getD k default).hour))then(((j.filter (cK (j.getD k default))).length:Int) ==(i64.wrap ((j.length:Int) - 2)))else(((((j.filter (cK (j.getD k default))).length:Int) ==(i64.wrap ((j.length:Int) - 2)))&&((ax d j hr).2==(ax d (j.filter (cK (j.getD k default))) hr).2))&&(oq ((ax d j hr).1) ((ax d (j.filter (cK (j.getD k default))) hr).1))))=true:=by
       rw[hln];cases hh:decide (hr< (j.getD k default).hour)with
       |true=>rfl
       |false=>
        rw[←fin hh,IS];simp
      rw[T];cases hq:(((av d c j).2==0)&&((av d c (j.filter (cK (j.getD k default)))).2==0))with
      |false=>rfl
      |true=>
       rw[(late hq).2];rfl
theorem LL (d:District)(c:List Claim)(j:List Judgement)(w hr:Int)(hj:JR j)(hw:0≤w∧w≤255)(_: -9223372036854775808≤hr∧hr≤9223372036854775807):eW d c j w hr:=(Au d c j w hr hj hw).1
theorem LM (d:District)(c:List Claim)(j:List Judgement)(w hr:Int)(hj:JR j)(hw:0≤w∧w≤255)(_: -9223372036854775808≤hr∧hr≤9223372036854775807):fL d c j w hr=true:=(Au d c j w hr hj hw).2
end Go.Sx
end
section
namespace Go.Sx
open Go.Deep Go.RowKit
section
variable {F:Nat→Prop}{own:Own}{w:World}
def RC (F:Nat→Prop)(own:Own)(w:World)(ks:List Kd)(cs:List Value):Prop:=
 ∃ l:List SV,t8 ks l=true∧l.length=cs.length∧∀ (j:Nat) (s:SV) (v:Value),l[j]? =some s→cs[j]? =some v→Rel F own w s v
theorem Hr:∀ {a b:List Kd} {l m:List SV},t8 a l=true→t8 b m=true→t8 (a++b) (l++m)=true
 | [],b,l,m,h1,h2=>by rw[ui h1];exact h2
 |k::a,b,l,m,h1,h2=>by
  obtain⟨x,r,rfl,e1,e2⟩:=p6 h1;simp only[List.cons_append,t8,e1,Hr e2 h2,Bool.and_self]
theorem RC.nil:RC F own w [] []:=⟨[],rfl,rfl,fun j s v h=>by cases h⟩
theorem RC.app {a b:List Kd}{c d:List Value}(h1:RC F own w a c)(h2:RC F own w b d):RC F own w (a++b) (c++d):=by
 obtain⟨l,f1,n1,r1⟩:=h1;obtain⟨m,f2,n2,r2⟩:=h2;refine⟨l++m,Hr f1 f2,by simp[n1,n2],fun j s v hs hv=>?_⟩;by_cases hj:j<l.length
 ·rw[List.getElem?_append_left hj]at hs;rw[List.getElem?_append_left (by omega)]at hv;exact r1 j s v hs hv
 ·rw[List.getElem?_append_right (by omega)]at hs;rw[List.getElem?_append_right (by omega),←n1]at hv;exact r2 _ s v hs hv
theorem RC.one {k:Kd}{s:SV}{v:Value}(h1:fit k s=true)(h2:Rel F own w s v):RC F own w [k] [v]:=
 ⟨[s],by simp[t8,h1],rfl,fun j s' v' hs hv=>by
  cases j with
  |zero=>simp only[List.getElem?_cons_zero,Option.some.injEq]at hs hv;subst hs;subst hv;exact h2
  |succ j=>simp at hs⟩
end
def Uu:Kd→Kd→Bool
 | .s,.s=>true
 | .b,.b=>true
 | .n a,.n b=>decide (a=b)
 | .r a,.r b=>decide (a=b)
 | .m a c,.m b d=>decide (a=b)&&decide (c=d)
 |_,_=>false
theorem Rd:∀ {a b:Kd},Uu a b=true→a=b:=by
 intro a b h;cases a <;>cases b <;>simp_all [Uu]
def OE:List Kd→List Kd→Bool
 | [],[] =>true
 |a::l,b::m=>Uu a b&&OE l m
 |_,_=>false
theorem Kr:∀ {a b:List Kd},OE a b=true→a=b
 | [],[],_=>rfl
 |a::l,b::m,h=>by
  simp only[OE,Bool.and_eq_true]at h;rw[Rd h.1,Kr h.2]
def CL (P:Program)(g:TypeId→Option (List Kd)):List Field→Nat→Nat→Option (List Kd)
 | [],off,tot=>bif Nat.beq off tot then some []else none
 |f::r,off,tot=>match g f.type with
  |some a=>bif Nat.beq f.offset off&&Nat.beq a.length (P.cellsOf f.type)then(CL P g r (off+a.length) tot).map (a++ ·)else none
  |none=>none
def IX (a:List Kd):Nat→List Kd
 |0=>[]
 |n+1=>a++IX a n
def CN (P:Program):Nat→TypeId→Option (List Kd)
 |0,_=>none
 |n+1,t=>match P.underlying t with
  |some .bool=>some [.b]
  |some (.int k) =>some [.n k]
  |some .string=>some [.s]
  |some (.slice e) =>match Fy P e,CN P n e with
   |some k,some ks=>bif OE ks (dZ k)&&Nat.beq (P.cellsOf e) (aa k)&&Nat.ble 1 (aa k)then some [.r k]else none
   |_,_=>none
  |some (.struct fs) =>CL P (CN P n) fs.toList 0 (P.cellsOf t)
  |some (.array m e) =>match CN P n e with
   |some a=>bif Nat.beq a.length (P.cellsOf e)&&Nat.beq (P.cellsOf t) (m*a.length)then some (IX a m)else none
   |none=>none
  |_=>none
section
variable {H:Type}{enc:TypeId×Value→H}{P:Program}{F:Nat→Prop}{own:Own}{w:World}{base:Nat}{spare:Nat→Bool}{held:Bool}{S:DataW H→Prop}
theorem Ks {g:TypeId→Option (List Kd)}(hg:∀ t ks,g t=some ks→∀ (fuel:Nat) (cs:List Value) (x:DataW H×List MemPlace),DataW.trod enc P w base spare held fuel t cs=some x→S x.1→RC F own w ks cs)
  (fuel:Nat) (cs:List Value):∀ (fs:List Field) (off:Nat) (ks:List Kd),CL P g fs off cs.length=some ks→(∀ f∈fs,∃ x,DataW.trod enc P w base spare held fuel f.type ((cs.drop f.offset).take (P.cellsOf f.type))=some x∧S x.1)→RC F own w ks (cs.drop off)
 | [],off,ks,h,_=>by
  unfold CL at h;cases hb:Nat.beq off cs.length with
  |false=>rw[hb]at h;cases h
  |true=>
   rw[hb]at h;have:off=cs.length:=Nat.eq_of_beq_eq_true hb;subst this;cases h;rw[List.drop_length];exact RC.nil
 |f::r,off,ks,h,hx=>by
  unfold CL at h;cases ha:g f.type with
  |none=>rw[ha]at h;cases h
  |some a=>
   rw[ha]at h;dsimp only at h;cases hb:Nat.beq f.offset off&&Nat.beq a.length (P.cellsOf f.type)with
   |false=>rw[hb]at h;cases h
   |true=>
    rw[hb]at h;simp only[cond_true,Option.map_eq_some_iff]at h;obtain⟨ks2,h2,rfl⟩:=h;rw[Bool.and_eq_true]at hb;have e1:f.offset=off:=Nat.eq_of_beq_eq_true hb.1;have e2:a.length=P.cellsOf f.type:=Nat.eq_of_beq_eq_true hb.2;obtain⟨x,hx1,hs1⟩:=hx f (by simp);have h3:=hg _ _ ha _ _ _ hx1 hs1;have h4:=Ks hg fuel cs r (off+a.length) ks2 h2 fun f hf=>hx f (by simp[hf]);have:=h3.app h4;rw[e1,←e2]at this
    rwa[←List.drop_drop,List.take_append_drop]at this
theorem Kt {e:TypeId}{a:List Kd}(ha:∀ (fuel:Nat) (cs:List Value) (x:DataW H×List MemPlace),DataW.trod enc P w base spare held fuel e cs=some x→S x.1→RC F own w a cs)
  (fuel:Nat):∀ (m:Nat) (cs:List Value),cs.length=m*a.length→(∀ i,i<m→∃ x,DataW.trod enc P w base spare held fuel e ((cs.drop (i*a.length)).take a.length)=some x∧S x.1)→RC F own w (IX a m) cs
 |0,cs,h,_=>by
  have:cs=[]:=by simpa using h
  subst this;exact RC.nil
 |m+1,cs,h,hx=>by
  obtain⟨x,hx1,hs1⟩:=hx 0 (by omega);rw[Nat.zero_mul,List.drop_zero]at hx1;have h3:=ha _ _ _ hx1 hs1;have h4:=Kt ha fuel m (cs.drop a.length) (by rw[List.length_drop,h,Nat.succ_mul];omega) fun i hi=>by
   obtain⟨x,hx2,hs2⟩:=hx (i+1) (by omega);refine⟨x,?_,hs2⟩;rw[List.drop_drop]
   rwa[Nat.succ_mul,Nat.add_comm]at hx2
  have:=h3.app h4
  rwa[List.take_append_drop]at this
structure Small (S:DataW H→Prop):Prop where
 agg:∀ l,S (.agg l)→∀ d∈l,S d
 slice:∀ l m,S (.slice l m)→l.length≤aH∧∀ d∈l,S d
theorem qr (hS:Small S)(hown:∀ b,¬bO F own b):∀ (n:Nat) (t:TypeId) (ks:List Kd),CN P n t=some ks→∀ (fuel:Nat) (cs:List Value) (x:DataW H×List MemPlace),DataW.trod enc P w base spare held fuel t cs=some x→S x.1→RC F own w ks cs
 |0,_,_,h,_,_,_,_,_=>by cases h
 |n+1,t,ks,h,fuel,cs,x,hx,hs=>by
  unfold CN at h;split at h
  ·rename_i ht;cases h;obtain⟨b,rfl,rfl⟩:=DataW.trod_bool ht hx;exact RC.one (s:=.v (.bool b)) rfl (.v _)
  ·rename_i k ht;cases h;obtain⟨m,rfl,rfl,_⟩:=DataW.trod_int ht hx;exact RC.one (s:=.v (.int k m)) (by simp[fit]) (.v _)
  ·rename_i ht;cases h;obtain⟨b,rfl,rfl,_⟩:=DataW.trod_string ht hx;exact RC.one (s:=.v (.string b)) rfl (.v _)
  ·rename_i e ht;split at h
   ·rename_i k ks2 hk hks;cases hb:OE ks2 (dZ k)&&Nat.beq (P.cellsOf e) (aa k)&&Nat.ble 1 (aa k)with
    |false=>rw[hb]at h;cases h
    |true=>
     rw[hb]at h;cases h;simp only[Bool.and_eq_true]at hb;have e1:=Kr hb.1.1;have e2:P.cellsOf e=aa k:=Nat.eq_of_beq_eq_true hb.1.2;have e3:1≤aa k:=nbl hb.2;subst e1;rcases open_slice ht hx with⟨rfl,rfl⟩ | ⟨a,len,cap,m,f2,D,Pl,rfl,hb1,hl,hm,hmm,rfl,hel⟩
     ·exact RC.one (s:=.rs k []) (by simp[fit]) .rs0
     ·have hlm:len≤m:=by subst hmm;split <;>omega
      obtain⟨hs1,hs2⟩:=hS.slice _ _ hs;simp only[List.length_map,List.length_range]at hs1;have helt:∀ i,i<len→∃ cs',cs'.length=aa k∧(∀ j v,cs'[j]? =some v→w.cell? ((a.add (i*aa k)).add j)=some v)∧RC F own w (dZ k) cs':=fun i hi=>by
       obtain⟨cs',h1,h2⟩:=hel i (by omega);have h3:=qr hS hown n e (dZ k) hks f2 cs' _ h2 (hs2 _ (List.mem_map_of_mem (List.mem_range.2 hi)));unfold World.cells? at h1;split at h1
       ·refine⟨cs',by rw[mapM_some_length h1,List.length_range,e2],fun j v hj=>?_,h3⟩;have hlt:j<P.cellsOf e:=by
         have:=(List.getElem?_eq_some_iff.1 hj).1
         rwa[mapM_some_length h1,List.length_range]at this
        have:=mapM_some_get h1 j j (by simp[hlt]);rw[e2]at this;rw[this,hj]
       ·cases h1
      by_cases h0:len=0
      ·subst h0;exact RC.one (s:=.rs k []) (by simp[fit]) .rs0
      ·have hsp:a.spot=none:=by
        obtain⟨cs',h1,h2,_⟩:=helt 0 (by omega);have:=h2 0 (cs'[0]'(by omega)) (by rw[List.getElem?_eq_getElem]);rw[Nat.zero_mul]at this;simp only[Addr.add,if_true]at this;unfold World.cell? at this;split at this
        ·cases hsp:a.spot with
         |none=>rfl
         |some q=>rw[hsp]at this;simp at this
        ·cases this
       obtain⟨ab,ao,asp⟩:=a;dsimp only at hsp;subst hsp
       haveI:Inhabited k.T:=⟨fN k⟩
       obtain⟨X,hX⟩:=choose_lt (p:=fun i (x:k.T) =>∀ (j:Nat) (s:SV),(cellsOf k x)[j]? =some s→∃ v,w.cell? ⟨ab,ao+i*aa k+j,none⟩=some v∧Rel F own w s v) (n:=len) fun i hi=>by
        obtain⟨cs',h1,h2,l,h3,h4,h5⟩:=helt i hi;refine⟨mkE k l,fun j s hj=>?_⟩;rw[qK (k:=k) (l:=l) (x:=mkE k l) (by unfold t_;rw[h3];rfl)]at hj;have hlt:j<cs'.length:=by
         have:=(List.getElem?_eq_some_iff.1 hj).1;omega
        refine⟨cs'[j],?_,h5 j s _ hj (List.getElem?_eq_getElem hlt)⟩;have:=h2 j cs'[j] (List.getElem?_eq_getElem hlt);have hadd:∀ p q,((⟨ab,ao,none⟩:Addr).add p).add q=⟨ab,ao+p+q,none⟩:=fun p q=>by
         unfold Addr.add;by_cases hp:p=0 <;>by_cases hq:q=0 <;>simp[hp,hq]
        rwa[hadd]at this
       have hL:((List.range len).map X).length=len:=by simp
       refine RC.one (s:=.rs k ((List.range len).map X)) (by simp[fit]) ?_;have hget:∀ (i:Nat) (x:k.T),((List.range len).map X)[i]? =some x→i<len∧x=X i:=fun i x hi=>by
        obtain⟨h1,h2⟩:=List.getElem?_eq_some_iff.1 hi;rw[hL]at h1;simp only[List.getElem_map,List.getElem_range]at h2;subst h2;exact⟨h1,rfl⟩
       have:=Rel.rs (F:=F) (own:=own) (w:=w) (k:=k) (l:=(List.range len).map X) (b:=ab) (o:=ao) (cap:=cap) (fun i j=>(w.cell? ⟨ab,ao+i*aa k+j,none⟩).getD undef) (by rw[hL];exact hl) (by rw[hL];exact hs1)
        (fun i x hi j s hj=>by
         obtain⟨h1,rfl⟩:=hget i x hi;obtain⟨v,h2,_⟩:=hX i h1 j s hj;exact⟨hown _,by rw[h2];rfl⟩)
        (fun i x hi j s hj=>by
         obtain⟨h1,rfl⟩:=hget i x hi;obtain⟨v,h2,h3⟩:=hX i h1 j s hj;rw[h2];exact h3)
       rwa[hL]at this
   ·cases h
  ·rename_i fs ht;obtain⟨xs,m,rfl,rfl,hl,hlen,hf⟩:=DataW.trod_struct ht hx;rw[←hl]at h;have:=Ks (qr hS hown n) m cs fs.toList 0 ks h fun f hfm=>by
    obtain⟨i,hi,rfl⟩:=List.getElem_of_mem hfm;have hi':i<fs.size:=by simpa using hi
    have h1:=hf i fs[i] (by simp[hi']);rw[List.getElem?_eq_getElem (by omega)]at h1;refine⟨_,by simpa using h1,hS.agg _ hs _ (List.mem_map_of_mem (List.getElem_mem _))⟩
   simpa using this
  ·rename_i m e ht;split at h
   ·rename_i a ha;cases hb:Nat.beq a.length (P.cellsOf e)&&Nat.beq (P.cellsOf t) (m*a.length)with
    |false=>rw[hb]at h;cases h
    |true=>
     rw[hb]at h;cases h;rw[Bool.and_eq_true]at hb;have e1:a.length=P.cellsOf e:=Nat.eq_of_beq_eq_true hb.1;have e2:P.cellsOf t=m*a.length:=Nat.eq_of_beq_eq_true hb.2;obtain⟨xs,f2,rfl,rfl,hl,hlen,hf⟩:=DataW.trod_array ht hx;refine Kt (qr hS hown n e a ha) f2 m cs (by rw[hl,e2]) fun i hi=>?_;have h1:=hf i hi;rw[List.getElem?_eq_getElem (by omega),←e1]at h1;exact⟨_,h1,hS.agg _ hs _ (List.mem_map_of_mem (List.getElem_mem _))⟩
   ·cases h
  ·cases h
end
theorem OF {H:Type}{enc:TypeId×Value→H}{P:Program}{w:World}{base:Nat}{spare:Nat→Bool}{held:Bool}{F:Nat→Prop}{own:Own}{t e:TypeId}{fs:Array Field}{f:Field}(ht:P.underlying t=some (.slice e))(he:P.underlying e=some (.struct fs))(hf:fs[8]? =some f)(ho:f.offset=8)(hg:P.underlying f.type=some (.int .i64))(hs1:P.cellsOf f.type=1)(hc:P.cellsOf e=9)
  {fuel:Nat} {v:Value} {x:DataW H×List MemPlace} (hx:DataW.trod enc P w base spare held fuel t [v]=some x) (l:List Tag.judgement.T) (hr:Rel F own w (.rs .judgement l) v):∀ y∈(show List Judgement from l),(-9223372036854775808:Int)≤y.of_∧y.of_<9223372036854775808:=by
 intro y hy;rcases open_slice ht hx with⟨h0,_⟩ | ⟨a,len,cap,m,f2,D,Pl,h0,hb1,hl,hm,hmm,_,hel⟩
 ·simp only[List.cons.injEq,and_true]at h0;subst h0;cases hr;cases hy
 ·simp only[List.cons.injEq,and_true]at h0;subst h0;cases hr with
  |rs0=>cases hy
  | @rs _ _ b o _ c h1 h2 h3 h4=>
   obtain⟨i,hi,rfl⟩:=List.getElem_of_mem hy;have hlm:l.length≤m:=by subst hmm;split <;>omega
   obtain⟨cs',g1,g2⟩:=hel i (by have:i<l.length:=hi;omega);obtain⟨xs,m2,rfl,_,hl2,hlen,hfl⟩:=DataW.trod_struct he g2;have h8:=hfl 8 f hf;have hlt:8<fs.size:=(Array.getElem?_eq_some_iff.1 hf).1;have e1:l[i]? =some (l[i]'hi):=List.getElem?_eq_getElem hi;have k1:=(h3 i _ e1 8 _ rfl).2;have k2:=h4 i _ e1 8 _ rfl;rw[hc]at g1;unfold World.cells? at g1;split at g1
   ·have h9:=mapM_some_length g1;have:=mapM_some_get g1 8 8 (by simp);have hadd:((⟨b,o,none⟩:Addr).add (i*9)).add 8=⟨b,o+i*9+8,none⟩:=by
     unfold Addr.add;by_cases hp:i*9=0
     ·simp only[if_pos hp];simp[hp]
     ·simp only[if_neg hp];simp
    rw[hadd]at this;have k1':w.cell? ⟨b,o+i*9+8,none⟩=some (c i 8):=k1;rw[k1']at this;have hcs:(cs'.drop 8).take 1=[c i 8]:=by
     rw[List.length_range]at h9;have hlt8:8<cs'.length:=by omega
     have hd:cs'.drop 8=cs'[8]::cs'.drop 9:=List.drop_eq_getElem_cons hlt8;rw[List.getElem?_eq_getElem hlt8,Option.some.injEq]at this;rw[hd,this];rfl
    rw[ho,hs1,hcs,List.getElem?_eq_getElem (by omega)]at h8;obtain⟨n,hn,_,hw⟩:=DataW.trod_int hg h8;simp only[List.cons.injEq,and_true]at hn;rw[bp k2]at hn;simp only[Value.int.injEq,true_and]at hn;subst hn;simp[Lit.wf,IntKind.min,IntKind.max,IntKind.signed,IntKind.bits]at hw;exact⟨hw.1,Int.lt_of_le_of_lt hw.2 (by decide)⟩
   ·cases g1
end Go.Sx
end
section
namespace Go.Sx
open Go.Proofs
section
variable {F:Nat→Prop}{own:Own}{w:World}
theorem Re {k:Tag}{cs:Array Value}(h:RC F own w (dZ k) cs.toList):∃ x:k.T,Rel F own w (.agg (cellsOf k x)) (.agg cs):=by
 obtain⟨l,h3,h4,h5⟩:=h;refine⟨mkE k l,?_⟩;rw[qK (k:=k) (l:=l) (x:=mkE k l) (by unfold t_;rw[h3];rfl)];refine .agg (by simpa using h4.symm) fun j s hj=>?_;have hlt:j<cs.size:=by
  have:=(List.getElem?_eq_some_iff.1 hj).1;simpa[h4]using this
 exact h5 j s _ hj (by simp[Array.getD,hlt])
theorem OG {k:Tag}{v:Value}(h:RC F own w [.r k] [v]):∃ l:List k.T,Rel F own w (.rs k l) v:=by
 obtain⟨l,h3,h4,h5⟩:=h;obtain⟨x,r,rfl,h6,h7⟩:=p6 h3;have h8:=h5 0 x v rfl rfl;cases x with
 |rs k' l'=>
  have:k=k':=by
   simp only[fit]at h6;exact ug h6
  subst this;exact⟨l',h8⟩
 |_=>simp[fit]at h6
end
end Go.Sx
end
section
namespace Go.Sx
open Go.ChangeShapes Go.RowKit Go.WideShapes
section
variable {H:Type}{enc:TypeId×Value→H}{P:Program}
def Rf (P:Program):List TypeId→Bool
 | [] =>true
 |t::r=>P.readableRec t&&Nat.blt t P.types.size&&Rf P r
theorem Eb (hl:laidOutB P=true){W W':World}(hg:Below W.heap.size W W'):∀ {ts:List TypeId} {vs:List Value} {ds:List (DataW H)} {ps:List MemPlace},Rf P ts=true→
  DataW.TrodAll enc P W 0 (fun _=>true) true ts vs ds ps→(∀ x∈ps,x.block<W.heap.size)→DataW.TrodAll enc P W' 0 (fun b=>decide (b<W.heap.size)) true ts vs ds ps
 | [],vs,ds,ps,_,h,_=>by
  obtain⟨rfl,rfl,rfl⟩:=trodAll_nil h;exact trodAll_mk0
 |t::ts,vs,ds,ps,hk,h,hlt=>by
  unfold Rf at hk;rw[Bool.and_eq_true,Bool.and_eq_true]at hk;obtain⟨v,vs',d,ds',p,q,rfl,rfl,rfl,h1,h2⟩:=trodAll_cons h;refine trodAll_cons_mk (WideElems.Trod_stays hl hk.1.1 (by simpa[Nat.blt_eq]using hk.1.2) h1 (fun x hx=>hg.same (hlt x (List.mem_append_left _ hx))) (fun x hx=>by simpa using hlt x (List.mem_append_left _ hx))) ?_;exact Eb hl hg hk.2 h2 fun x hx=>hlt x (List.mem_append_right _ hx)
theorem OH (hl:laidOutB P=true){f:Func}{s:ChangeSpec}{W W':World}{args:Array Value}{ds gs:List (DataW H)}{before:List MemPlace}{t:TypeId}
  (hk:Rf P f.params.toList=true) (hW:DataW.Whole enc P f.params.toList s.vars false W args.toList ds gs before)
  (hr:f.resultTypes= #[t]) (ht:P.underlying t=some .bool) (hv:s.vars=[]) (h1:(s.fn H (ds++gs)).results=[.lit (.bool true)]) (h2:(s.fn H (ds++gs)).args=ds) (h3:(s.fn H (ds++gs)).vars=[])
  (hg:Below W.heap.size W W'):s.post enc P f false true false false W args (.bool true) W':=by
 have hlt:=hW.lt;have hW0:=hW;obtain⟨p,q,hA,hV,rfl,_,_⟩:=hW;rw[hv]at hV;obtain⟨rfl,rfl⟩:=trodVars_none hV;refine⟨ds,[],p++[],[],p,[],hW0,?_,?_,?_,?_,fun h=>by cases h⟩
 ·rw[h1,hr];exact trodAll_cons_mk (shut_bool ht _) trodAll_mk0
 ·rw[h2];exact Eb hl hg hk hA fun x hx=>hlt x (by simpa using hx)
 ·rw[h3,hv];rfl
 ·exact World.keptBut_mono (fun x hx=>⟨hx,.inr (.inl (by simpa using hx))⟩) (hg.frame (· ∈p++[]))
end
end Go.Sx
end
section
namespace Go.Proofs.YtnanafpgfihjfaaGreat.bulks
theorem one_le {H:Type}(d:DataW H):1≤Rows.uptoBulk d:=by
 cases d with
 |lit l=>cases l <;>simp[Rows.uptoBulk]
 |nil=>simp[Rows.uptoBulk]
 |ptr d=>simp[Rows.uptoBulk]
 |slice rK spare=>simp[Rows.uptoBulk]
 |agg parts=>simp[Rows.uptoBulk]
 |iface t d=>simp[Rows.uptoBulk]
 |map entries=>simp[Rows.uptoBulk]
 |held h=>simp[Rows.uptoBulk]
theorem part_le {H:Type}{d:DataW H}{l:List (DataW H)}(h:d∈l):Rows.uptoBulk d≤Rows.uptoBulkAll l:=by
 induction l with
 |nil=>cases h
 |cons x r ih=>
  simp only[Rows.uptoBulkAll];cases List.mem_cons.1 h with
  |inl e=>subst e;omega
  |inr e=>have:=ih e;omega
theorem append {H:Type}(l r:List (DataW H)):Rows.uptoBulkAll (l++r)=Rows.uptoBulkAll l+Rows.uptoBulkAll r:=by
 induction l with
 |nil=>simp[Rows.uptoBulkAll]
 |cons x l ih=>simp only[List.cons_append,Rows.uptoBulkAll,ih];omega
theorem length_le {H:Type}(l:List (DataW H)):l.length≤Rows.uptoBulkAll l:=by
 induction l with
 |nil=>simp[Rows.uptoBulkAll]
 |cons x r ih=>have:=one_le x;simp only[Rows.uptoBulkAll,List.length_cons];omega
theorem slice_le {H:Type}(rK spare:List (DataW H)):rK.length+spare.length+1≤Rows.uptoBulk (.slice rK spare):=by
 have h1:=length_le rK;have h2:=length_le spare;simp only[Rows.uptoBulk];omega
theorem slice_elems {H:Type}(rK spare:List (DataW H)):Rows.uptoBulkAll rK+1≤Rows.uptoBulk (.slice rK spare):=by
 simp only[Rows.uptoBulk];omega
theorem bound {H:Type}{l:List (DataW H)}(hk:Rows.uptoSmall H l=true):Rows.uptoBulkAll l≤1048576:=by
 simpa[Rows.uptoSmall]using hk
theorem room {n b:Nat}(hn:n≤2097152)(hb:b≤4096):(n+n / 4+192)*b≤281474976710656:=by
 have h:(n+n / 4+192)*b≤2621632*4096:=Nat.mul_le_mul (by omega) hb;omega
end Go.Proofs.YtnanafpgfihjfaaGreat.bulks
end
