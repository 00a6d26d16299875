/- Part of the proof that the law ClaimsCheckSpec returns true and leaves its arguments as they were, for all arguments of bulk at most 1048576 (the Upto form). -/
import Derived.Test.YtgdkdhdlfdcefaaGreatC212
import Derived.Test.YtgdkdhdlfdcefaaGreatC211
import Derived.Test.YtgdkdhdlfdcefaaGreatC209
import Derived.Test.YtgdkdhdlfdcefaaGreatC208
import Derived.Test.YtgdkdhdlfdcefaaGreatC207
import Derived.Deep.Slices
import Derived.OpenShut
import Derived.ChangeSame
import Derived.WideKeyArgs
import Derived.Below
import Derived.Test.YtgdkdhdlfdcefaaGreatRows
import Derived.WalkKit
import Derived.ProofKit
import Derived.JoinedCond
import Derived.Carry
set_option linter.all false
set_option maxHeartbeats 4000000
section
namespace Go.Sx
open Go.Proofs
def jU (x:Deed)(B:Int→Int→Int):Int→Int→Int:=fun r=>if r=x.right then A6 x (B r)else B r
def vC (ds:List Deed)(B:Int→Int→Int):Int→Int→Int:=ds.foldl (fun B x=>jU x B) B
def MB:List Deed→(Int→Int→Int)→List Int
 | [],_=>[]
 |x::r,B=>(if B x.right x.since=0 then [x.no]else [])++MB r (jU x B)
structure MapOk (d:District)(m:BM):Prop where
 nodup:(gC m).Nodup
 good:∀ r,∃ L,L≤1073741824∧Good d.farms.length L (bk m r)
theorem MapOk.le {d:District}{m:BM}(h:MapOk d m)(r f:Int):0≤bk m r f∧bk m r f≤1073741824:=by
 obtain⟨L,h1,h2⟩:=h.good r
 have:=h2.nn f
 by_cases e:bk m r f=0
 ·omega
 ·obtain⟨a,b⟩:=h2.sup f e
  have:=A5 h2.nn _ f a b
  have:=h2.tot
  omega
theorem MC {d:District}{ds:List Deed}{x:Deed}(hx:Fit d x)(hk:x.kind≠4){e:List Int}{m:BM}(hm:MapOk d m)(he:(e.length+1)*8≤fG):
  df ds x (e,m)∧∃ m',bH ds x (e,m)=.inr (e++(if bk m x.right x.since=0 then [x.no]else []),m')∧MapOk d m'∧bk m'=jU x (bk m):=by
 obtain⟨r0,r1,r2,s0,s1⟩:=hx.held hk
 have hv:=hm.le x.right x.since
 have ebk:bY .registerTitle .int m (RT x.right x.since)=bk m x.right x.since:=rfl
 have hdel:=uz (RT x.right x.since) m hm.nodup
 have hstep:∀ m':BM,(gC m').Nodup→bk m'=jU x (bk m)→MapOk d m':=fun m' hN hb=>by
  refine⟨hN,fun r=>?_⟩
  obtain⟨L,h1,h2⟩:=hm.good r
  refine⟨L,h1,?_⟩
  rw[hb]
  show Good _ _ (if r=x.right then A6 x (bk m r)else bk m r)
  split
  ·exact(CW hx hk h2).1
  ·exact h2
 have hlen:(e++[x.no]).length=e.length+1:=by simp
 unfold df bH
 simp only[ebk,hlen]
 by_cases hn:bk m x.right x.since=0
 ·have b0:(bk m x.right x.since==0)=true:=by simp[hn]
  rw[b0,if_pos hn]
  refine⟨⟨fun _=>he,(fun h=>by cases h)⟩,m,rfl,hm,?_⟩
  funext r
  unfold jU
  split
  ·rename_i h;subst h;unfold A6;rw[if_pos hn]
  ·rfl
 ·have b0:(bk m x.right x.since==0)=false:=by simpa using hn
  rw[b0,if_neg hn,List.append_nil]
  simp only[cond_false]
  have edel:=PM m hm.nodup x.right x.since
  have kdel:(gC (kM .registerTitle .int m (RT x.right x.since))).Nodup:=hdel.1
  have egood:Good d.farms.length (1073741824 - bk m x.right x.since) (bk (kM .registerTitle .int m (RT x.right x.since)) x.right):=by
   obtain⟨L,h1,h2⟩:=hm.good x.right
   rw[edel]
   simp only[if_true]
   exact h2.put s0 s1 (Int.le_refl _) (by have:=h2.tot;omega)
  by_cases k1:x.kind=1
  ·have b1:(x.kind==1)=true:=by simp[k1]
   rw[b1]
   simp only[cond_true]
   obtain⟨a,b,c⟩:=hx.pass k1
   have hto:=egood.le30 (by omega) x.to
   have e2:bY .registerTitle .int (kM .registerTitle .int m (RT x.right x.since)) (RT x.right x.to)=gD (bk m x.right) x.since 0 x.to:=by
    have:=congrFun (congrFun edel x.right) x.to
    simpa[bk]using this
   have hto':0≤gD (bk m x.right) x.since 0 x.to∧gD (bk m x.right) x.since 0 x.to≤2147483648:=by
    rw[edel]at hto;simpa using hto
   refine⟨⟨(fun h=>by cases h),(fun _ h=>by cases h)⟩,_,rfl,?_⟩
   have hb:bk (dc x (bk m x.right x.since) (kM .registerTitle .int m (RT x.right x.since)))=jU x (bk m):=by
    unfold dc
    rw[e2,bj (by omega) (by omega),A7,edel]
    funext r
    unfold jU
    by_cases h:r=x.right
    ·subst h
     simp only[if_true]
     unfold A6
     rw[if_neg hn,if_pos k1]
    ·simp only[if_neg h]
   exact⟨hstep _ (by unfold dc;exact(oe _ _ _ kdel).1) hb,hb⟩
  ·have b1:(x.kind==1)=false:=by simpa using k1
   rw[b1]
   simp only[cond_false]
   by_cases k2:x.kind=2
   ·have b2:(x.kind==2)=true:=by simp[k2]
    rw[b2]
    simp only[cond_true]
    obtain⟨p1,p2,p3⟩:=G8 (hx.split k2) hv.1 hv.2 kdel (M:=1073741824 - bk m x.right x.since) (by omega) egood
    refine⟨⟨(fun h=>by cases h),fun _ _=>⟨fun _=>p1,(fun h=>by cases h)⟩⟩,_,rfl,?_⟩
    have hb:bk (ca x (bk m x.right x.since) (kM .registerTitle .int m (RT x.right x.since)))=jU x (bk m):=by
     rw[p3,edel]
     funext r
     unfold jU
     by_cases h:r=x.right
     ·subst h
      simp only[if_true]
      unfold A6
      rw[if_neg hn,if_neg k1,if_pos k2]
     ·simp only[if_neg h]
    exact⟨hstep _ p2 hb,hb⟩
   ·have b2:(x.kind==2)=false:=by simpa using k2
    rw[b2]
    simp only[cond_false]
    have k3:x.kind=3:=by rcases hx.kind with h|h|h|h <;>omega
    have b3:(x.kind==3)=true:=by simp[k3]
    rw[b3]
    simp only[cond_true]
    refine⟨⟨(fun h=>by cases h),fun _ _=>⟨(fun h=>by cases h),(fun _ h=>by cases h)⟩⟩,_,rfl,?_⟩
    have hb:bk (kM .registerTitle .int m (RT x.right x.since))=jU x (bk m):=by
     rw[edel]
     funext r
     unfold jU
     by_cases h:r=x.right
     ·subst h
      simp only[if_true]
      unfold A6
      rw[if_neg hn,if_neg k1,if_neg k2]
     ·simp only[if_neg h]
    exact⟨hstep _ kdel hb,hb⟩
theorem zF {d:District}(ds:List Deed):∀ (l:List Deed),(∀ x∈l,Fit d x∧x.kind≠4)→∀ (e:List Int) (m:BM),MapOk d m→(e.length+l.length)*8≤fG→
  okL (bH ds) (df ds) l (e,m)∧∃ m',dV (bH ds) l (e,m)=.inr (e++MB l (bk m),m')∧MapOk d m'∧bk m'=vC l (bk m)
 | [],_,e,m,hm,_=>⟨trivial,m,by simp[dV,MB],hm,rfl⟩
 |x::l,h,e,m,hm,hB=>by
  simp only[List.length_cons]at hB
  obtain⟨h1,h2⟩:=h x List.mem_cons_self
  obtain⟨q1,m1,q2,q3,q4⟩:=MC (ds:=ds) h1 h2 (e:=e) hm (by omega)
  have hlen:(e++(if bk m x.right x.since=0 then [x.no]else [])).length≤e.length+1:=by split <;>simp
  obtain⟨r1,m2,r2,r3,r4⟩:=zF ds l (fun y hy=>h y (List.mem_cons_of_mem _ hy)) (e++(if bk m x.right x.since=0 then [x.no]else [])) m1 q3 (by omega)
  refine⟨⟨q1,fun s hs=>by rw[q2]at hs;cases hs;exact r1⟩,m2,?_,r3,?_⟩
  ·simp only[dV,q2]
   rw[r2,q4,List.append_assoc];rfl
  ·rw[r4,q4];rfl
def B0 (d:District):Int→Int→Int:=fun r f=>if 0≤r∧r< (d.rights.length:Int)∧(d.rights.getD r.toNat default).kind=1∧(d.rights.getD r.toNat default).farm=f then(d.rights.getD r.toNat default).litres else 0
structure TakeOk (d:District)(x:Right):Prop where
 f0:0≤x.farm
 f1:x.farm< (d.farms.length:Int)
 l0:1≤x.litres
 l1:x.litres≤1073741824
theorem vQ {d:District}(h:ar d=0){k:Nat}(hk:k<d.rights.length)(ht:(d.rights.getD k default).kind=1):TakeOk d (d.rights.getD k default):=by
 have:=((p_ d).1 h).2.2.2.2.2.2.2.1 k hk
 unfold cD at this
 rw[eO]at this
 have h2:dX d (d.rights.getD k default)=true:=by
  cases h3:dX d (d.rights.getD k default)with
  |true=>rfl
  |false=>rw[h3]at this;cases this
 unfold dX at h2
 cases h4:((!(bq (d.rights.getD k default).farm (d.farms.length:Int))) ||(!(bq (d.rights.getD k default).reach (d.reaches.length:Int)))) ||(!(ap ([0,(d.rights.getD k default).since,(d.rights.getD k default).to,(IntKind.i64.wrap (d.hours - 1))])))with
 |true=>rw[h4]at h2;cases h2
 |false=>
  rw[h4,show((d.rights.getD k default).kind==1)=true by rw[ht];rfl]at h2
  simp only[cond_true,cond_false,Bool.and_eq_true]at h2
  simp only[Bool.or_eq_false_iff,Bool.not_eq_false']at h4
  have h5:=h4.1.1
  unfold bq at h5
  simp only[Bool.and_eq_true,decide_eq_true_eq]at h5
  have h6:=tl h2.1.2
  exact⟨by omega,by omega,by omega,by omega⟩
theorem PN {d:District}(h:ar d=0)(r:Int):∃ L,L≤1073741824∧Good d.farms.length L (B0 d r):=by
 by_cases hr:0≤r∧r< (d.rights.length:Int)∧(d.rights.getD r.toNat default).kind=1
 ·have ht:=vQ h (k:=r.toNat) (by omega) hr.2.2
  have hl:=ht.l0
  refine⟨(d.rights.getD r.toNat default).litres,ht.l1,?_⟩
  have e:B0 d r=gD (fun _=>0) (d.rights.getD r.toNat default).farm (d.rights.getD r.toNat default).litres:=by
   funext f
   unfold B0 gD
   by_cases hf:f=(d.rights.getD r.toNat default).farm
   ·rw[if_pos ⟨hr.1,hr.2.1,hr.2.2,hf.symm⟩,if_pos hf]
   ·rw[if_neg (fun h=>hf h.2.2.2.symm),if_neg hf]
  have t0:∀ n,tot n (fun _=>0)=0:=fun n=>by
   induction n with
   |zero=>rfl
   |succ n ih=>unfold tot;rw[ih];rfl
  rw[e]
  exact Good.put (L:=0) ⟨fun _=>Int.le_refl _,fun f hf=>absurd rfl hf,by rw[t0];exact Int.le_refl _⟩ ht.f0 ht.f1 (by omega) (by rw[t0];omega)
 ·refine⟨0,by omega,?_⟩
  have e:B0 d r=fun _=>0:=by
   funext f
   unfold B0
   rw[if_neg (fun h=>hr ⟨h.1,h.2.1,h.2.2.1⟩)]
  have t0:∀ n,tot n (fun _=>0)=0:=fun n=>by
   induction n with
   |zero=>rfl
   |succ n ih=>unfold tot;rw[ih];rfl
  rw[e]
  exact⟨fun _=>Int.le_refl _,fun f hf=>absurd rfl hf,by rw[t0];exact Int.le_refl _⟩
theorem JY {d:District}(h:ar d=0):∃ m,an (bQ d) d.rights.length 0 []=.inr m∧MapOk d m∧bk m=B0 d:=by
 obtain⟨m,h1,h2,h3⟩:=oG (step:=bQ d) (fun k (m:BM) =>(gC m).Nodup∧bk m=fun r f=>if r< (k:Int)then B0 d r f else 0) d.rights.length 0 ([]:BM) ⟨by simp[gC],by
   funext r f
   by_cases hr:r< ((0:Nat):Int)
   ·rw[if_pos hr];unfold B0 bk;rw[if_neg (by omega)];rfl
   ·rw[if_neg hr];rfl⟩ (fun j m _ hj ⟨j1,j2⟩ =>by
  rw[Nat.zero_add]at hj
  unfold bQ
  by_cases hk:(d.rights.getD j default).kind=1
  ·rw[show((d.rights.getD j default).kind==1)=true by rw[hk];rfl]
   refine⟨_,rfl,(oe _ _ _ j1).1,?_⟩
   rw[A7,j2]
   funext r f
   by_cases hr:r=(j:Int)
   ·subst hr
    simp only[if_true]
    unfold gD B0
    dsimp only
    rw[if_pos (by omega:(j:Int) < ((j+1:Nat):Int)),Int.toNat_natCast]
    by_cases hf:f=(d.rights.getD j default).farm
    ·rw[if_pos hf,if_pos ⟨by omega,by omega,hk,hf.symm⟩]
    ·rw[if_neg hf,if_neg (by omega),if_neg (fun h=>hf h.2.2.2.symm)]
   ·simp only[if_neg hr]
    by_cases h2:r< (j:Int)
    ·rw[if_pos h2,if_pos (by omega)]
    ·rw[if_neg h2,if_neg (by omega)]
  ·rw[show((d.rights.getD j default).kind==1)=false by simpa using hk]
   refine⟨_,rfl,j1,?_⟩
   rw[j2]
   funext r f
   by_cases hr:r=(j:Int)
   ·subst hr
    rw[if_neg (by omega),if_pos (by omega)]
    unfold B0
    rw[if_neg (fun h=>hk (by rw[Int.toNat_natCast]at h;exact h.2.2.1))]
   ·by_cases h2:r< (j:Int)
    ·rw[if_pos h2,if_pos (by omega)]
    ·rw[if_neg h2,if_neg (by omega)])
 have e:bk m=B0 d:=by
  rw[h3]
  funext r f
  split
  ·rfl
  ·unfold B0;rw[if_neg (by omega)]
 refine⟨m,h1,⟨h2,fun r=>?_⟩,e⟩
 rw[e];exact PN h r
theorem G9 {d:District}(h:ar d=0){ds:List Deed}(hd:∀ x∈ds,Fit d x∧x.kind≠4)(hl:ds.length≤512):
  gR d ds∧∃ m,dl d ds=(m,vA (MB ds (B0 d)))∧MapOk d m∧bk m=vC ds (B0 d):=by
 obtain⟨m0,e0,o0,b0⟩:=JY h
 obtain⟨q1,m1,q2,q3,q4⟩:=zF (d:=d) ds ds hd [] m0 o0 (by simp only[List.length_nil];unfold fG;omega)
 rw[List.nil_append]at q2
 rw[b0]at q2 q4
 refine⟨fun _ z hz=>?_,m1,?_,q3,q4⟩
 ·rw[e0]at hz;cases hz
  refine⟨JU ds,?_⟩
  rw[qz];exact q1
 ·unfold dl
  rw[e0,qz]
  simp only[q2]
end Go.Sx
end
section
namespace Go.Sx
open Go.Proofs
def qk (d:District)(l:List Deed)(hour known:Int):Int→Int→Int:=vC (stS (A4 l hour known)) (B0 d)
def JZ (d:District)(B:Int→Int→Int)(r f:Nat):Option Holding:=if 0<B r f then some { right:=(r:Int),farm:=(f:Int),litres:=B r f,rank:=(d.rights.getD r default).rank}else none
def lr (d:District)(B:Int→Int→Int)(r:Nat):List Holding:=(List.range d.farms.length).filterMap (JZ d B r)
def lu (d:District)(B:Int→Int→Int):List Holding:=(List.range d.rights.length).flatMap (lr d B)
theorem ma {d:District}{B:Int→Int→Int}{r:Nat}{x:Holding}:x∈lr d B r↔∃ f:Nat,f<d.farms.length∧0<B r f∧x= { right:=(r:Int),farm:=(f:Int),litres:=B r f,rank:=(d.rights.getD r default).rank}:=by
 unfold lr JZ
 rw[List.mem_filterMap]
 constructor
 ·rintro⟨f,hf,h⟩
  rw[List.mem_range]at hf
  split at h
  ·rename_i h0
   exact⟨f,hf,h0,(Option.some.inj h).symm⟩
  ·cases h
 ·rintro⟨f,hf,h0,rfl⟩
  exact⟨f,List.mem_range.2 hf,by rw[if_pos h0]⟩
theorem qB {d:District}{B:Int→Int→Int}{x:Holding}:x∈lu d B↔0≤x.right∧x.right< (d.rights.length:Int)∧0≤x.farm∧x.farm< (d.farms.length:Int)∧0<x.litres∧x.litres=B x.right x.farm∧x.rank=(d.rights.getD x.right.toNat default).rank:=by
 unfold lu
 rw[List.mem_flatMap]
 constructor
 ·rintro⟨r,hr,hx⟩
  rw[List.mem_range]at hr
  obtain⟨f,hf,h0,rfl⟩:=ma.1 hx
  exact⟨by simp only;omega,by simp only;omega,by simp only;omega,by simp only;omega,h0,rfl,by simp only[Int.toNat_natCast]⟩
 ·rintro⟨a,b,c,e,h0,h1,h2⟩
  refine⟨x.right.toNat,List.mem_range.2 (by omega),ma.2 ⟨x.farm.toNat,by omega,?_,?_⟩⟩
  ·rw[Int.toNat_of_nonneg a,Int.toNat_of_nonneg c];omega
  ·rw[Int.toNat_of_nonneg a,Int.toNat_of_nonneg c,←h1,←h2]
theorem CX:∀ n:Nat,(List.range n).Pairwise (· < ·):=fun n=>List.pairwise_lt_range
theorem oM (d:District)(B:Int→Int→Int):(lu d B).Pairwise hlt:=by
 unfold lu
 rw[List.pairwise_flatMap]
 refine⟨fun r _=>?_,?_⟩
 ·unfold lr
  rw[List.pairwise_filterMap]
  refine(CX _).imp fun {a b} hab x hx y hy=>?_
  unfold JZ at hx hy
  split at hx
  ·split at hy
   ·cases hx;cases hy
    exact Or.inr ⟨rfl,Or.inl (by show(a:Int) < (b:Int);omega)⟩
   ·cases hy
  ·cases hx
 ·refine(CX _).imp fun {a b} hab x hx y hy=>?_
  obtain⟨f,_,_,rfl⟩:=ma.1 hx
  obtain⟨g,_,_,rfl⟩:=ma.1 hy
  simp only[hlt,lJ,and_false,or_false];omega
theorem MD (x:Holding):¬hlt x x:=by simp only[hlt,lJ,and_false,or_false];omega
theorem G_ {l:List Holding}(h:l.Pairwise hlt):l.Nodup:=h.imp fun {a b} hab e=>by subst e;exact MD _ hab
theorem tE {α β:Type}(f:α→List β)(k:Nat):∀ l:List α,(∀ a∈l,(f a).length≤k)→(l.flatMap f).length≤l.length*k
 | [],_=>by simp
 |a::l,h=>by
  have h1:=h a List.mem_cons_self
  have h2:=tE f k l fun b hb=>h b (List.mem_cons_of_mem _ hb)
  rw[List.flatMap_cons,List.length_append,List.length_cons,Nat.add_mul,Nat.one_mul];omega
theorem zG {d:District}(hr:Right1 d)(B:Int→Int→Int):(lu d B).length≤153600:=by
 have h1:=tE (lr d B) 600 (List.range d.rights.length) fun r _=>Nat.le_trans (List.length_filterMap_le _ _) (by rw[List.length_range];exact hr.farms)
 rw[List.length_range]at h1
 have:=hr.rights
 show((List.range d.rights.length).flatMap (lr d B)).length≤_
 have:d.rights.length*600≤256*600:=Nat.mul_le_mul_right _ this
 omega
def mN (d:District)(k:RegisterTitle×Int):Option Holding:=if 0<k.2 then some { right:=k.1.right,farm:=k.1.farm,litres:=k.2,rank:=(d.rights.getD (Int.toNat k.1.right) (default:Right)).rank}else none
theorem A8 (d:District)(l:List Deed)(h n:Int):∀ (L:BM) (s:List Holding),dV (cO d l h n) L s=.inr (s++L.filterMap (mN d))
 | [],s=>by simp[dV]
 |k::L,s=>by
  by_cases hk:0<k.2
  ·have e:mN d k=some { right:=k.1.right,farm:=k.1.farm,litres:=k.2,rank:=(d.rights.getD (Int.toNat k.1.right) (default:Right)).rank}:=by unfold mN;rw[if_pos hk]
   rw[List.filterMap_cons_some e]
   simp only[dV]
   unfold cO
   rw[decide_eq_true (show k.2 > 0 from hk)]
   simp only[cond_true]
   have:=A8 d l h n L (s++[{ right:=k.1.right,farm:=k.1.farm,litres:=k.2,rank:=(d.rights.getD (Int.toNat k.1.right) (default:Right)).rank}])
   unfold cO at this
   rw[this,List.append_assoc];rfl
  ·have e:mN d k=none:=by unfold mN;rw[if_neg hk]
   rw[List.filterMap_cons_none e]
   simp only[dV]
   unfold cO
   rw[decide_eq_false (show ¬k.2 > 0 from hk)]
   simp only[cond_false]
   have:=A8 d l h n L s
   unfold cO at this
   exact this
theorem Et (d:District)(l:List Deed)(h n:Int):∀ (L:BM) (s:List Holding),(∀ k∈L,0<k.2→0≤k.1.right∧k.1.right< (d.rights.length:Int))→(s.length+(L.filterMap (mN d)).length)*32≤fG→okL (cO d l h n) (iC d l h n) L s
 | [],_,_,_=>trivial
 |k::L,s,hk,hB=>by
  by_cases h0:0<k.2
  ·have e:mN d k=some { right:=k.1.right,farm:=k.1.farm,litres:=k.2,rank:=(d.rights.getD (Int.toNat k.1.right) (default:Right)).rank}:=by unfold mN;rw[if_pos h0]
   rw[List.filterMap_cons_some e,List.length_cons]at hB
   refine⟨fun _=>⟨hk k List.mem_cons_self h0,by rw[List.length_append];simp only[List.length_cons,List.length_nil];omega⟩,fun s' hs=>?_⟩
   unfold cO at hs
   rw[decide_eq_true (show k.2 > 0 from h0)]at hs
   cases hs
   exact Et d l h n L _ (fun q hq=>hk q (List.mem_cons_of_mem _ hq)) (by rw[List.length_append];simp only[List.length_cons,List.length_nil];omega)
  ·have e:mN d k=none:=by unfold mN;rw[if_neg h0]
   rw[List.filterMap_cons_none e]at hB
   refine⟨fun h=>absurd (of_decide_eq_true h) h0,fun s' hs=>?_⟩
   unfold cO at hs
   rw[decide_eq_false (show ¬k.2 > 0 from h0)]at hs
   cases hs
   exact Et d l h n L _ (fun q hq=>hk q (List.mem_cons_of_mem _ hq)) hB
theorem FP {d:District}{r:Int}(hr:¬ (0≤r∧r< (d.rights.length:Int))):∀ (ds:List Deed) (B:Int→Int→Int),(∀ x∈ds,Fit d x∧x.kind≠4)→vC ds B r=B r
 | [],B,_=>rfl
 |x::ds,B,h=>by
  have h1:=h x List.mem_cons_self
  have h2:=h1.1.held h1.2
  show vC ds (jU x B) r=_
  rw[FP hr ds _ fun y hy=>h y (List.mem_cons_of_mem _ hy)]
  unfold jU
  rw[if_neg (by omega)]
theorem xV {d:District}{l:List Deed}(h:Deeds d l)(hour known:Int):∀ x∈stS (A4 l hour known),Fit d x∧x.kind≠4:=fun x hx=>by
 have hx:=MA.1 hx
 unfold A4 at hx
 rw[List.mem_filter]at hx
 refine⟨h.fit x hx.1,fun e=>?_⟩
 have:=hx.2
 rw[e]at this
 simp at this
theorem ME (l:List Deed):(stS l).length=l.length:=(qy (qj l)).symm
theorem MF {α:Type}{a b:List α}(ha:a.Nodup)(hb:b.Nodup)(h:∀ x,x∈a↔x∈b):a.Perm b:=(List.perm_ext_iff_of_nodup ha hb).2 h
theorem Ha {d:District}{l:List Deed}(h:Deeds d l){m:BM}(hm:MapOk d m){hour known:Int}(hb:bk m=qk d l hour known):
  (m.filterMap (mN d)).Perm (lu d (qk d l hour known))∧∀ k∈m,0<k.2→0≤k.1.right∧k.1.right< (d.rights.length:Int):=by
 have hget:∀ (t:RegisterTitle) (v:Int),(t,v)∈m→bk m t.right t.farm=v:=fun t v htv=>by
  have:=(xS hm.nodup).2 htv
  show(fg m { right:=t.right,farm:=t.farm}).getD _=v
  have e:({ right:=t.right,farm:=t.farm}:RegisterTitle)=t:=rfl
  rw[e,this];rfl
 have hrng:∀ k∈m,0<k.2→0≤k.1.right∧k.1.right< (d.rights.length:Int):=fun k hk h0=>by
  rcases Classical.em (0≤k.1.right∧k.1.right< (d.rights.length:Int))with hr|hr
  ·exact hr
  ·have e:=hget k.1 k.2 hk
   rw[hb]at e
   unfold qk at e
   rw[FP hr _ _ (xV h hour known)]at e
   unfold B0 at e
   rw[if_neg (fun h=>hr ⟨h.1,h.2.1⟩)]at e
   omega
 refine⟨MF ?_ (G_ (oM _ _)) fun x=>?_,hrng⟩
 ·rw[List.Nodup,List.pairwise_filterMap]
  have:m.Pairwise fun a b=>a.1≠b.1:=by
   have:=hm.nodup
   unfold gC at this
   rw[List.Nodup,List.pairwise_map]at this
   exact this
  refine this.imp fun {a b} hab x hx y hy=>?_
  unfold mN at hx hy
  split at hx
  ·split at hy
   ·cases hx;cases hy
    intro e
    simp only[Holding.mk.injEq]at e
    refine hab ?_
    obtain⟨⟨a1,a2⟩,a3⟩:=a
    obtain⟨⟨b1,b2⟩,b3⟩:=b
    simp only at e
    simp[e.1,e.2.1]
   ·cases hy
  ·cases hx
 ·rw[List.mem_filterMap,qB]
  constructor
  ·rintro⟨k,hk,hx⟩
   unfold mN at hx
   split at hx
   ·rename_i h0
    cases hx
    have e:=hget k.1 k.2 hk
    obtain⟨a,b⟩:=hrng k hk h0
    obtain⟨L,_,hg⟩:=hm.good k.1.right
    obtain⟨c,f⟩:=hg.sup k.1.farm (by rw[e];omega)
    exact⟨a,b,c,f,h0,by simp only;rw[←hb,e],rfl⟩
   ·cases hx
  ·rintro⟨a,b,c,f,h0,h1,h2⟩
   rw[←hb]at h1
   have h3:fg m (RT x.right x.farm)=some x.litres:=by
    have e:bk m x.right x.farm=(fg m (RT x.right x.farm)).getD 0:=rfl
    cases hg:fg m (RT x.right x.farm)with
    |none=>rw[e,hg]at h1;simp at h1;omega
    |some v=>rw[e,hg]at h1;simp at h1;rw[h1]
   refine⟨(RT x.right x.farm,x.litres),(xS hm.nodup).1 h3,?_⟩
   unfold mN
   rw[if_pos h0]
   simp only[Option.some.injEq]
   rw[←h2]
open Go.Shelf Go.Sort in
theorem zH {d:District}{B:Int→Int→Int}{s:List Holding}(h:s.Perm (lu d B)):apart bP s∧srt bP s=lu d B:=by
 have e1:∀ x y,ltOf bP x y=true↔hlt x y:=fun x y=>by unfold ltOf;rw[decide_eq_true_eq,xw]
 have e2:∀ x y,ltOf bP x y=false↔¬hlt x y:=fun x y=>by rw[←e1];simp
 have heq:∀ x∈lu d B,∀ y∈lu d B,¬hlt x y→¬hlt y x→x=y:=fun x hx y hy h1 h2=>by
  obtain⟨_,_,_,_,_,x1,x2⟩:=qB.1 hx
  obtain⟨_,_,_,_,_,y1,y2⟩:=qB.1 hy
  simp only[hlt,lJ,and_false,or_false]at h1 h2
  have q1:x.right=y.right:=by omega
  have q2:x.farm=y.farm:=by omega
  obtain⟨a,b,c,e⟩:=x
  obtain⟨a',b',c',e'⟩:=y
  simp only at q1 q2 x1 x2 y1 y2
  subst q1;subst q2
  rw[x1,x2,y1,y2]
 refine⟨fun x hx y hy h1 h2=>heq x (h.subset hx) y (h.subset hy) ((e2 x y).1 h1) ((e2 y x).1 h2),?_⟩
 unfold srt
 have hp:(s.mergeSort fun x y=>!(ltOf bP y x)).Perm (lu d B):=(List.mergeSort_perm _ _).trans h
 refine List.Perm.eq_of_pairwise (le:=fun x y=>(!ltOf bP y x)=true) ?_ ?_ ?_ hp
 ·intro x y hx hy h1 h2
  simp only[Bool.not_eq_true']at h1 h2
  exact heq x (hp.subset hx) y hy ((e2 x y).1 h2) ((e2 y x).1 h1)
 ·refine List.pairwise_mergeSort ?_ ?_ s
  ·intro a b c h1 h2
   simp only[Bool.not_eq_true']at h1 h2 ⊢
   exact uU.3 c b a h2 h1
  ·intro a b
   simp only[Bool.or_eq_true,Bool.not_eq_true']
   rcases Classical.em (hlt b a)with hh|hh
   ·refine .inr ((e2 _ _).2 fun h3=>?_)
    simp only[hlt,lJ,and_false,or_false]at hh h3;omega
   ·exact .inl ((e2 _ _).2 hh)
 ·refine(oM d B).imp fun {a b} hab=>?_
  simp only[Bool.not_eq_true']
  refine(e2 _ _).2 fun h3=>?_
  simp only[hlt,lJ,and_false,or_false]at hab h3;omega
theorem CY (d:District)(l:List Deed)(hour known:Int):kL d l hour known∧
  aj d l hour known=if aN d l≠0 then([],aN d l)else if 0≤hour∧hour<d.hours∧0≤known∧known≤1048576 then(lu d (qk d l hour known),0)else([],1):=by
 by_cases hc:aN d l=0
 ·have hD:=tC hc
  have hE:=((qx d l).1 hc).1
  have hh:=hD.right.hours
  have hh1:=hD.right.hours1
  have hw:((!(aG hour 0 (IntKind.i64.wrap (d.hours - 1)))) ||(!(aG known 0 1048576)))= !decide (0≤hour∧hour<d.hours∧0≤known∧known≤1048576):=by
   rw[bj (by omega) (by omega),←Bool.not_and]
   congr 1
   rw[Bool.eq_iff_iff,Bool.and_eq_true,uq,uq,decide_eq_true_eq]
   omega
  obtain⟨c1,c2⟩:=CU l hour known hD.len
  have hlen:(stS (A4 l hour known)).length≤512:=by rw[ME];exact Nat.le_trans (List.length_filter_le _ _) hD.len
  obtain⟨f1,m,f2,f3,f4⟩:=G9 hE (xV hD hour known) hlen
  obtain⟨p1,p2⟩:=Ha hD f3 (hour:=hour) (known:=known) f4
  have key:∀ L:BM,L.Perm m→(L.filterMap (mN d)).Perm (lu d (qk d l hour known)):=fun L hL=>(hL.filterMap _).trans p1
  have val:aj d l hour known=if 0≤hour∧hour<d.hours∧0≤known∧known≤1048576 then(lu d (qk d l hour known),0)else([],1):=by
   unfold aj
   rw[hc,hw,c2,f2]
   simp only[bne_self_eq_false,cond_false]
   by_cases hg:0≤hour∧hour<d.hours∧0≤known∧known≤1048576
   ·rw[decide_eq_true hg,if_pos hg]
    simp only[Bool.not_true,cond_false]
    rw[A8,List.nil_append]
    simp only
    rw[(zH (key m (List.Perm.refl _))).2]
   ·rw[decide_eq_false hg,if_neg hg];rfl
  refine⟨⟨oc d l,(fun h=>by rw[hc]at h;cases h),fun _=>⟨fun h=>?_,fun h=>?_⟩⟩,by rw[if_neg (by simp[hc])];exact val⟩
  ·rw[hw]at h
   rw[val,if_neg (by simpa only[Bool.not_eq_true',decide_eq_false_iff_not]using h)]
  ·rw[hw]at h
   have hg:0≤hour∧hour<d.hours∧0≤known∧known≤1048576:=by simpa using h
   rw[c2,f2]
   refine⟨c1,f1,fun L hL=>?_⟩
   have hk:=key L hL
   refine⟨Et d l hour known L [] (fun k hk=>p2 k (hL.subset hk)) ?_,fun s hs=>?_⟩
   ·have h1:=hk.length_eq
    have h2:=zG hD.right (qk d l hour known)
    rw[h1,List.length_nil]
    unfold fG
    omega
   ·rw[A8,List.nil_append]at hs
    cases hs
    obtain⟨s1,s2⟩:=zH hk
    exact⟨s1,by rw[s2,val,if_pos hg]⟩
 ·have hne:(aN d l !=0)=true:=by simpa using hc
  have val:aj d l hour known=([],aN d l):=by unfold aj;rw[hne];rfl
  refine⟨⟨oc d l,(fun _=>val.symm),fun h=>?_⟩,by rw[if_pos hc];exact val⟩
  rw[hne]at h;cases h
end Go.Sx
end
section
namespace Go.Sx
open Go.Proofs
theorem MG {l:List Deed}(h:Asc l){x y:Deed}(hx:x∈l)(hy:y∈l)(e:x.no=y.no):x=y:=by
 rw[←xR h hx,←xR h hy,e]
theorem Deeds.target {d:District}{l:List Deed}(h:Deeds d l){x y:Deed}(hx:x∈l)(hk:x.kind=4)(hy:y∈l)(e:y.no=x.of_):y.kind≠4∧y.known≤x.known∧y.no<x.no:=by
 obtain⟨z,hz,h1,h2,h3,h4⟩:=h.void x hx hk
 have:y=z:=MG h.asc hy hz (by rw[e,h1])
 rw[this];exact⟨h2,h3,h4⟩
end Go.Sx
end
section
namespace Go.Sx
open Go.Proofs
theorem FQ {d:District}{r:Int}{L:Int}:∀ (ds:List Deed) (B:Int→Int→Int),(∀ x∈ds,Fit d x∧x.kind≠4)→Good d.farms.length L (B r)→Good d.farms.length L (vC ds B r)∧((∀ x∈ds,x.right=r→x.kind≠3)→tot d.farms.length (vC ds B r)=tot d.farms.length (B r))
 | [],B,_,hg=>⟨hg,fun _=>rfl⟩
 |x::ds,B,h,hg=>by
  have hx:=h x List.mem_cons_self
  have h1:Good d.farms.length L (jU x B r)∧((x.right=r→x.kind≠3)→tot d.farms.length (jU x B r)=tot d.farms.length (B r)):=by
   unfold jU
   by_cases e:r=x.right
   ·rw[if_pos e]
    obtain⟨q1,q2⟩:=CW hx.1 hx.2 hg
    exact⟨q1,fun hk=>q2 (hk e.symm)⟩
   ·rw[if_neg e];exact⟨hg,fun _=>rfl⟩
  obtain⟨q1,q2⟩:=FQ ds (jU x B) (fun y hy=>h y (List.mem_cons_of_mem _ hy)) h1.1
  exact⟨q1,fun hk=>(q2 fun y hy=>hk y (List.mem_cons_of_mem _ hy)).trans (h1.2 (hk x List.mem_cons_self))⟩
theorem CZ {d:District}{r:Int}(hr:¬ (0≤r∧r< (d.rights.length:Int)∧(d.rights.getD r.toNat default).kind=1)):∀ (ds:List Deed) (B:Int→Int→Int),(∀ x∈ds,Fit d x∧x.kind≠4)→vC ds B r=B r
 | [],B,_=>rfl
 |x::ds,B,h=>by
  have h1:=h x List.mem_cons_self
  have h2:=h1.1.held h1.2
  show vC ds (jU x B) r=_
  rw[CZ hr ds _ fun y hy=>h y (List.mem_cons_of_mem _ hy)]
  unfold jU
  rw[if_neg (fun e=>hr (by rw[e];exact⟨h2.1,h2.2.1,h2.2.2.1⟩))]
theorem t0:∀ n,tot n (fun _=>0)=0:=fun n=>by
 induction n with
 |zero=>rfl
 |succ n ih=>unfold tot;rw[ih];rfl
theorem MH {d:District}(h:ar d=0){k:Nat}(hk:k<d.rights.length)(ht:(d.rights.getD k default).kind=1):Good d.farms.length (d.rights.getD k default).litres (B0 d k)∧tot d.farms.length (B0 d k)=(d.rights.getD k default).litres:=by
 have hto:=vQ h hk ht
 have hl:=hto.l0
 have e:B0 d k=gD (fun _=>0) (d.rights.getD k default).farm (d.rights.getD k default).litres:=by
  funext f
  unfold B0 gD
  rw[Int.toNat_natCast]
  by_cases hf:f=(d.rights.getD k default).farm
  ·rw[if_pos ⟨by omega,by omega,ht,hf.symm⟩,if_pos hf]
  ·rw[if_neg (fun h=>hf h.2.2.2.symm),if_neg hf]
 rw[e]
 refine⟨Good.put (L:=0) ⟨fun _=>Int.le_refl _,fun f hf=>absurd rfl hf,by rw[t0];exact Int.le_refl _⟩ hto.f0 hto.f1 (by omega) (by rw[t0];omega),?_⟩
 rw[oL _ _ _ _ hto.f0 hto.f1,t0];omega
theorem MI {d:District}{r:Int}(hr:¬ (0≤r∧r< (d.rights.length:Int)∧(d.rights.getD r.toNat default).kind=1)):B0 d r=fun _=>0:=by
 funext f
 unfold B0
 rw[if_neg (fun h=>hr ⟨h.1,h.2.1,h.2.2.1⟩)]
structure Held (d:District)(B:Int→Int→Int):Prop where
 nn:∀ r f,0≤B r f
 take:∀ k,k<d.rights.length→(d.rights.getD k default).kind=1→Good d.farms.length (d.rights.getD k default).litres (B k)
 other:∀ r:Int,¬ (0≤r∧r< (d.rights.length:Int)∧(d.rights.getD r.toNat default).kind=1)→B r=fun _=>0
theorem J0 {d:District}(h:ar d=0){ds:List Deed}(hd:∀ x∈ds,Fit d x∧x.kind≠4):Held d (vC ds (B0 d)):=by
 have ht:∀ k,k<d.rights.length→(d.rights.getD k default).kind=1→Good d.farms.length (d.rights.getD k default).litres (vC ds (B0 d) k):=fun k hk hkk=>(FQ ds _ hd (MH h hk hkk).1).1
 have ho:∀ r:Int,¬ (0≤r∧r< (d.rights.length:Int)∧(d.rights.getD r.toNat default).kind=1)→vC ds (B0 d) r=fun _=>0:=fun r hr=>(CZ hr ds _ hd).trans (MI hr)
 refine⟨fun r f=>?_,ht,ho⟩
 by_cases hr:0≤r∧r< (d.rights.length:Int)∧(d.rights.getD r.toNat default).kind=1
 ·have:=(ht r.toNat (by omega) hr.2.2).nn f
  rwa[Int.toNat_of_nonneg hr.1]at this
 ·rw[ho r hr];exact Int.le_refl _
theorem Held.le {d:District}{B:Int→Int→Int}(h:Held d B)(he:ar d=0)(r f:Int):B r f≤1073741824:=by
 by_cases hr:0≤r∧r< (d.rights.length:Int)∧(d.rights.getD r.toNat default).kind=1
 ·have hg:=h.take r.toNat (by omega) hr.2.2
  have ht:=vQ he (k:=r.toNat) (by omega) hr.2.2
  have:=hg.le (by have:=ht.l0;omega) f
  rw[Int.toNat_of_nonneg hr.1]at this
  have:=ht.l1
  omega
 ·rw[h.other r hr];simp
theorem Held.tot {d:District}{B:Int→Int→Int}(h:Held d B)(he:ar d=0){k:Nat}(hk:k<d.rights.length):0≤Go.Sx.tot d.farms.length (B k)∧Go.Sx.tot d.farms.length (B k)≤1073741824:=by
 refine⟨Ep (h.nn k) _,?_⟩
 by_cases hkk:(d.rights.getD k default).kind=1
 ·have:=(h.take k hk hkk).tot
  have:=(vQ he hk hkk).l1
  omega
 ·rw[h.other k (fun hr=>hkk (by rw[Int.toNat_natCast]at hr;exact hr.2.2)),t0];omega
end Go.Sx
end
section
namespace Go.Sx
open Go.Proofs
def RowL (F:Nat)(s:List Int)(g:Int→Int):Prop:=s.length=F∧∀ f:Nat,f<F→s.getD f 0=g (f:Int)
theorem RowL.set {F:Nat}{s:List Int}{g:Int→Int}(h:RowL F s g){f v:Int}(h0:0≤f)(h1:f< (F:Int)):RowL F (s.set f.toNat v) (gD g f v):=by
 refine⟨by rw[List.length_set];exact h.1,fun i hi=>?_⟩
 have hl:=h.1
 unfold gD
 by_cases e:i=f.toNat
 ·subst e
  rw[if_pos (by omega),List.getD_eq_getElem?_getD,List.getElem?_set_self (by omega)];rfl
 ·rw[if_neg (by omega),List.getD_eq_getElem?_getD,List.getElem?_set_ne (fun h=>e h.symm),←List.getD_eq_getElem?_getD,h.2 i hi]
theorem RowL.get {F:Nat}{s:List Int}{g:Int→Int}(h:RowL F s g){f:Int}(h0:0≤f)(h1:f< (F:Int)):s.getD f.toNat 0=g f:=by
 rw[h.2 f.toNat (by omega),Int.toNat_of_nonneg h0]
end Go.Sx
end
section
namespace Go.Sx
open Go.Proofs
end Go.Sx
end
section
namespace Go.Sx
open Go.Proofs
set_option maxRecDepth 100000
def J1 (x:Right)(h:Int):Bool:=decide (x.since≤h)&&decide (h≤x.to)&&decide (Int.tmod (h - x.since) x.every<x.length)
def opn (d:District)(h:Int)(x:Holding):Option Claim:=if J1 (d.rights.getD (Int.toNat x.right) (default:Right)) h=true then some { right:=x.right,farm:=x.farm,hour:=h,litres:=x.litres,rank:=x.rank}else none
def ip (d:District)(l:List Deed)(h k:Int):List Claim:=(aj d l h k).1.filterMap (opn d h)
structure TakeR (d:District)(x:Right):Prop where
 since0:0≤x.since
 every:1≤x.every
 rank0:0≤x.rank
 farm0:0≤x.farm
theorem Eu {d:District}(h:ar d=0){k:Nat}(hk:k<d.rights.length)(ht:(d.rights.getD k default).kind=1):TakeR d (d.rights.getD k default):=by
 have:=((p_ d).1 h).2.2.2.2.2.2.2.1 k hk
 unfold cD at this
 rw[eO]at this
 have h2:dX d (d.rights.getD k default)=true:=by
  cases h3:dX d (d.rights.getD k default)with
  |true=>rfl
  |false=>rw[h3]at this;cases this
 unfold dX at h2
 cases h4:((!(bq (d.rights.getD k default).farm (d.farms.length:Int))) ||(!(bq (d.rights.getD k default).reach (d.reaches.length:Int)))) ||(!(ap ([0,(d.rights.getD k default).since,(d.rights.getD k default).to,(IntKind.i64.wrap (d.hours - 1))])))with
 |true=>rw[h4]at h2;cases h2
 |false=>
  rw[h4,show((d.rights.getD k default).kind==1)=true by rw[ht];rfl]at h2
  simp only[cond_true,cond_false,Bool.and_eq_true]at h2
  simp only[Bool.or_eq_false_iff,Bool.not_eq_false']at h4
  have h5:=h4.1.1
  unfold bq at h5
  simp only[Bool.and_eq_true,decide_eq_true_eq]at h5
  have h6:=tl h2.1.1.2
  have h7:=tn h2.2
  have h8:=tn h4.2
  exact⟨by omega,by omega,by omega,by omega⟩
theorem J2 {d:District}{l:List Deed}{h k:Int}{x:Holding}(hx:x∈(aj d l h k).1):ar d=0∧(0≤h∧h<d.hours)∧0≤x.right∧x.right< (d.rights.length:Int)∧0≤x.farm∧x.farm< (d.farms.length:Int)∧0<x.litres∧x.litres≤1073741824∧x.rank=(d.rights.getD x.right.toNat default).rank∧(d.rights.getD x.right.toNat default).kind=1:=by
 rw[(CY d l h k).2]at hx
 by_cases hc:aN d l=0
 ·rw[if_neg (by simp[hc])]at hx
  by_cases hg:0≤h∧h<d.hours∧0≤k∧k≤1048576
  ·rw[if_pos hg]at hx
   have he:=((qx d l).1 hc).1
   obtain⟨a,b,c,e,f,g,i⟩:=qB.1 hx
   have hH:=J0 he (xV (tC hc) h k)
   refine⟨he,⟨hg.1,hg.2.1⟩,a,b,c,e,f,?_,i,?_⟩
   ·rw[g];exact hH.le he _ _
   ·rcases Classical.em ((d.rights.getD x.right.toNat default).kind=1)with hk|hk
    ·exact hk
    ·have:=hH.other x.right (fun hh=>hk hh.2.2)
     rw[g]at f
     unfold qk at f
     rw[this]at f
     exact absurd f (by simp)
  ·rw[if_neg hg]at hx;cases hx
 ·rw[if_pos hc]at hx;cases hx
theorem PO {d:District}{l:List Deed}{h k:Int}:(aj d l h k).1.length≤600*d.rights.length∧(aj d l h k).1.length≤153600:=by
 rw[(CY d l h k).2]
 by_cases hc:aN d l=0
 ·rw[if_neg (by simp[hc])]
  by_cases hg:0≤h∧h<d.hours∧0≤k∧k≤1048576
  ·rw[if_pos hg]
   have hR:=(tC hc).right
   refine⟨?_,zG hR _⟩
   have:=tE (lr d (qk d l h k)) 600 (List.range d.rights.length) fun r _=>by
    unfold lr
    refine Nat.le_trans (List.length_filterMap_le _ _) ?_
    rw[List.length_range];exact hR.farms
   rw[List.length_range]at this
   unfold lu
   rw[Nat.mul_comm];exact this
  ·rw[if_neg hg];simp
 ·rw[if_pos hc];simp
theorem Hb (d:District)(l:List Deed)(h k:Int):(aj d l h k).1.Pairwise hlt:=by
 rw[(CY d l h k).2]
 split
 ·exact List.Pairwise.nil
 ·split
  ·exact oM _ _
  ·exact List.Pairwise.nil
theorem Hc (d:District)(l:List Deed)(h k:Int):(ip d l h k).length≤600*d.rights.length∧(ip d l h k).length≤153600:=by
 have:= @PO d l h k
 have h2:=List.length_filterMap_le (opn d h) (aj d l h k).1
 unfold ip;omega
theorem xW {d:District}{h:Int}{x:Holding}{c:Claim}(e:opn d h x=some c):J1 (d.rights.getD (Int.toNat x.right) (default:Right)) h=true∧c= { right:=x.right,farm:=x.farm,hour:=h,litres:=x.litres,rank:=x.rank}:=by
 unfold opn at e
 split at e
 ·rename_i h0;exact⟨h0,(Option.some.inj e).symm⟩
 ·cases e
structure ClaimOk (d:District)(h:Int)(c:Claim):Prop where
 exp:ar d=0
 hour:c.hour=h
 h0:0≤h
 h1:h<d.hours
 r0:0≤c.right
 r1:c.right< (d.rights.length:Int)
 f0:0≤c.farm
 f1:c.farm< (d.farms.length:Int)
 l0:0<c.litres
 l1:c.litres≤1073741824
 rank:c.rank=(d.rights.getD c.right.toNat default).rank
 kind:(d.rights.getD c.right.toNat default).kind=1
theorem xX {d:District}{l:List Deed}{h k:Int}{c:Claim}(hc:c∈ip d l h k):ClaimOk d h c:=by
 unfold ip at hc
 rw[List.mem_filterMap]at hc
 obtain⟨x,hx,e⟩:=hc
 obtain⟨_,rfl⟩:=xW e
 obtain⟨a0,⟨a,b⟩,c,e,f,g,i,j,m,n⟩:=J2 hx
 exact⟨a0,rfl,a,b,c,e,f,g,i,j,m,n⟩
theorem u6 (d:District)(l:List Deed)(h k:Int):(ip d l h k).Pairwise fun a b=>¬ (a.right=b.right∧a.farm=b.farm):=by
 unfold ip
 rw[List.pairwise_filterMap]
 refine(Hb d l h k).imp fun {a b} hab x hx y hy=>?_
 obtain⟨_,rfl⟩:=xW hx
 obtain⟨_,rfl⟩:=xW hy
 simp only[hlt,lJ,and_false,or_false]at hab ⊢
 omega
theorem J3 {a b:Claim}(h:¬ (a.right=b.right∧a.farm=b.farm)):ln a b∨ln b a:=by
 simp only[ln,lJ,and_false,or_false];omega
theorem xY {a b c:Claim}(h1:ln a b)(h2:ln b c):ln a c:=by simp only[ln,lJ,and_false,or_false]at *;omega
def yG (l:List Claim)(x:Claim):List Claim:=l.takeWhile (fun y=>decide (cJ y x<0))++x::l.dropWhile (fun y=>decide (cJ y x<0))
def u7 (d:District)(l:List Deed)(h k:Int):List Claim:=(ip d l h k).foldl yG []
theorem He (l:List Claim)(x:Claim):(yG l x).Perm (x::l):=by
 unfold yG
 refine List.perm_middle.trans ?_
 rw[List.takeWhile_append_dropWhile]
theorem Hf {l:List Claim}{x:Claim}(hs:l.Pairwise ln):∀ y∈l.dropWhile (fun y=>decide (cJ y x<0)),¬ln y x:=by
 induction l with
 |nil=>intro y hy;cases hy
 |cons z l ih=>
  rw[List.pairwise_cons]at hs
  intro y hy
  rw[List.dropWhile_cons]at hy
  split at hy
  ·exact ih hs.2 y hy
  ·rename_i hz
   have hz:¬ln z x:=fun h=>hz (decide_eq_true ((qc z x).2 h))
   rcases List.mem_cons.1 hy with rfl|hy
   ·exact hz
   ·exact fun h=>hz (xY (hs.1 y hy) h)
theorem J4 {l:List Claim}{x:Claim}:∀ y∈l.takeWhile (fun y=>decide (cJ y x<0)),ln y x:=by
 induction l with
 |nil=>intro y hy;cases hy
 |cons z l ih=>
  intro y hy
  rw[List.takeWhile_cons]at hy
  split at hy
  ·rename_i hz
   rcases List.mem_cons.1 hy with rfl|hy
   ·exact(qc y x).1 (of_decide_eq_true hz)
   ·exact ih y hy
  ·cases hy
theorem C0 {l:List Claim}{x:Claim}(hs:l.Pairwise ln)(hx:∀ y∈l,¬ (x.right=y.right∧x.farm=y.farm)):(yG l x).Pairwise ln:=by
 have hl:=List.takeWhile_append_dropWhile (p:=fun y=>decide (cJ y x<0)) (l:=l)
 unfold yG
 have h1:=J4 (l:=l) (x:=x)
 have h2:=Hf (x:=x) hs
 have hm:∀ y∈l.dropWhile (fun y=>decide (cJ y x<0)),y∈l:=fun y hy=>(List.dropWhile_sublist _).subset hy
 have h3:∀ y∈l.dropWhile (fun y=>decide (cJ y x<0)),ln x y:=fun y hy=>by
  rcases J3 (hx y (hm y hy))with h|h
  ·exact h
  ·exact absurd h (h2 y hy)
 rw[←hl,List.pairwise_append]at hs
 rw[List.pairwise_append,List.pairwise_cons]
 refine⟨hs.1,⟨h3,hs.2.1⟩,fun a ha b hb=>?_⟩
 rcases List.mem_cons.1 hb with rfl|hb
 ·exact h1 a ha
 ·exact xY (h1 a ha) (h3 b hb)
theorem xZ:∀ (r s:List Claim),s.Pairwise ln→(r.Pairwise fun a b=>¬ (a.right=b.right∧a.farm=b.farm))→(∀ a∈s,∀ b∈r,¬ (a.right=b.right∧a.farm=b.farm))→(r.foldl yG s).Perm (s++r)∧(r.foldl yG s).Pairwise ln
 | [],s,hs,_,_=>⟨by simp,hs⟩
 |x::r,s,hs,hr,hsr=>by
  rw[List.pairwise_cons]at hr
  have hp:=He s x
  obtain⟨h1,h2⟩:=xZ r (yG s x) (C0 hs fun y hy h=>hsr y hy x (by simp) ⟨h.1.symm,h.2.symm⟩) hr.2 fun a ha b hb=>by
   rcases List.mem_cons.1 (hp.subset ha)with rfl|ha
   ·exact hr.1 b hb
   ·exact hsr a ha b (by simp[hb])
  exact⟨(h1.trans (hp.append_right r)).trans List.perm_middle.symm,h2⟩
theorem x6 (d:District)(l:List Deed)(h k:Int):(u7 d l h k).Perm (ip d l h k):=by
 have:=(xZ (ip d l h k) [] List.Pairwise.nil (u6 d l h k) (fun a ha=>by cases ha)).1
 rw[List.nil_append]at this
 exact this
theorem A9 (d:District)(l:List Deed)(h k:Int):(u7 d l h k).Pairwise ln:=(xZ (ip d l h k) [] List.Pairwise.nil (u6 d l h k) (fun a ha=>by cases ha)).2
theorem tF {d:District}{l:List Deed}{h k:Int}{c:Claim}(hc:c∈u7 d l h k):ClaimOk d h c:=xX ((x6 d l h k).subset hc)
end Go.Sx
end
section
namespace Go.Sx
open Go.Proofs
set_option maxRecDepth 100000
theorem x7 {ρ α β:Type}{step:Nat→List β→ρ⊕List β}(l:List α)(d:α)(f:α→Option β)(s0:List β)(h:∀ k s,k<l.length→step k s=.inr (s++(f (l.getD k d)).toList)):an step l.length 0 s0=.inr (s0++l.filterMap f):=by
 obtain⟨r,h1,h2⟩:=oG (step:=step) (fun k s=>s=s0++(l.take k).filterMap f) l.length 0 s0 (by simp) (fun j s _ hj hs=>by
  rw[Nat.zero_add]at hj
  refine⟨_,h j s hj,?_⟩
  rw[cN l d hj,List.filterMap_append,hs,List.append_assoc]
  cases hc:f (l.getD j d)with
  |none=>rw[List.filterMap_cons_none hc];rfl
  |some c=>rw[List.filterMap_cons_some hc];rfl)
 rw[h1,h2,Nat.zero_add,List.take_length]
theorem A_ {ρ α β:Type}{step:Nat→List β→ρ⊕List β}{p:Nat→List β→Prop}(l:List α)(d:α)(f:α→Option β)(s0:List β)(h:∀ k s,k<l.length→step k s=.inr (s++(f (l.getD k d)).toList))(hp:∀ k,k<l.length→p k (s0++(l.take k).filterMap f)):okI step p l.length 0 s0:=by
 refine vL (fun k s=>s=s0++(l.take k).filterMap f) _ _ _ (by simp) fun j s _ hj hs=>⟨by rw[hs];exact hp j (by omega),fun s' e=>?_⟩
 rw[h j s (by omega)]at e
 cases e
 rw[cN l d (by omega),List.filterMap_append,hs,List.append_assoc]
 cases hc:f (l.getD j d)with
 |none=>rw[List.filterMap_cons_none hc];rfl
 |some c=>rw[List.filterMap_cons_some hc];rfl
theorem rD {α β:Type}(l:List α)(f:α→Option β)(k:Nat):((l.take k).filterMap f).length≤(l.filterMap f).length:=by
 have:=congrArg List.length (congrArg (List.filterMap f) (List.take_append_drop k l))
 rw[List.filterMap_append,List.length_append]at this
 omega
theorem MJ {α β:Type}(l:List α)(d:α)(f:α→Option β){k:Nat}(hk:k<l.length){c:β}(hc:f (l.getD k d)=some c):(l.filterMap f)[((l.take k).filterMap f).length]? =some c:=by
 have e:l=l.take k++l.getD k d::l.drop (k+1):=by
  rw[gm l d hk,←List.drop_eq_getElem_cons hk,List.take_append_drop]
 conv=>lhs;arg 1;rw[e]
 rw[List.filterMap_append,List.filterMap_cons_some hc]
 simp
theorem MK {β:Type}{step:Nat→List β×Int→List β⊕(List β×Int)}{p:Nat→List β×Int→Prop}(fr to:Int)(G:Int→List β)(h0:0≤fr)(h1:to<4096)(hft:fr≤to+1)
  (hs:∀ k s h,fr≤h→h≤to→step k (s,h)=.inr (s++G h,IntKind.i64.wrap (h+1))) (he:∀ k s h,to<h→step k (s,h)=.inl s)
  (hp:∀ k h,fr≤h→h≤to+1→p k ((hrs fr (h - 1)).flatMap G,h)):okI step p 4098 0 ([],fr)∧an step 4098 0 ([],fr)=.inl ((hrs fr to).flatMap G):=by
 obtain⟨a,r,b,c⟩:=vB (step:=step) (p:=p) (fun s=>(to+1 - s.2).toNat) (fun s=>(fr≤s.2∧s.2≤to+1)∧s.1=(hrs fr (s.2 - 1)).flatMap G) (fun r=>r=(hrs fr to).flatMap G) (fun k s hJ=>by
  obtain⟨s,h⟩:=s
  obtain⟨⟨j1,j2⟩,j3⟩:=hJ
  simp only at j1 j2 j3
  subst j3
  refine⟨hp k h j1 j2,?_⟩
  by_cases hh:h≤to
  ·refine .inr ⟨_,hs k _ h j1 hh,?_⟩
   simp only
   rw[bj (by omega) (by omega)]
   refine⟨by omega,⟨by omega,by omega⟩,?_⟩
   rw[show h+1 - 1=(h - 1)+1 by omega,CH (by omega),List.flatMap_append,show h - 1+1=h by omega]
   simp
  ·refine .inl ⟨_,he k _ h (by omega),?_⟩
   rw[show h - 1=to by omega]) 4098 0 ([],fr) ⟨⟨Int.le_refl _,hft⟩,by rw[Mv (by simp only;omega)];rfl⟩ (by simp only;omega)
 exact⟨a,by rw[b,c]⟩
theorem zI {d:District}{x:Right}{h:Int}(ht:TakeR d x)(h0:0≤h)(h1:h<4096):(((decide (h<x.since)) ||(decide (h > x.to))) ||(decide ((Int.tmod (IntKind.i64.wrap (h - x.since)) x.every)≥x.length)))= !J1 x h:=by
 have:=ht.since0
 unfold J1
 by_cases hs:x.since≤h
 ·rw[bj (by omega) (by omega),decide_eq_true hs,decide_eq_false (show ¬h<x.since by omega)]
  by_cases ht:h≤x.to
  ·rw[decide_eq_true ht,decide_eq_false (show ¬h > x.to by omega)]
   simp only[Bool.false_or,Bool.true_and]
   rw[←decide_not]
   exact decide_eq_decide.2 (by omega)
  ·rw[decide_eq_false ht,decide_eq_true (show h > x.to by omega)];rfl
 ·rw[decide_eq_false hs,decide_eq_true (show h<x.since by omega)];rfl
theorem C2 {α:Type}(l:List α)(d:α){k:Nat}(hk:k<l.length):l.getD k d∈l:=by rw[gm l d hk];exact List.getElem_mem hk
theorem FR {d:District}{l:List Deed}{h k:Int}{j:Nat}(hj:j< (aj d l h k).1.length):((0≤((aj d l h k).1.getD j default).right∧((aj d l h k).1.getD j default).right< (d.rights.length:Int))∧(0≤h∧h<4096))∧TakeR d (d.rights.getD (Int.toNat ((aj d l h k).1.getD j default).right) default)∧(d.rights.getD (Int.toNat ((aj d l h k).1.getD j default).right) default).kind=1:=by
 obtain⟨a,⟨b1,b2⟩,c,e,f,g,i,m,n,o⟩:=J2 (C2 _ default hj)
 have:=(lj (by rw[a];rfl)).hours
 exact⟨⟨⟨c,e⟩,b1,by omega⟩,Eu a (by omega) o,o⟩
theorem Ba (d:District)(l:List Deed)(h k:Int):dF d l h k=ip d l h k∧gA d l h k ((dF d l h k).map uv):=by
 have hstep:∀ j s,j< (aj d l h k).1.length→eh d l h k j s=.inr (s++(opn d h ((aj d l h k).1.getD j default)).toList):=fun j s hj=>by
  obtain⟨⟨⟨a,b⟩,c,e⟩,ht,_⟩:=FR hj
  unfold eh opn
  rw[zI ht c e]
  cases J1 (d.rights.getD (Int.toNat ((aj d l h k).1.getD j default).right) default) h <;>simp
 have hv:an (eh d l h k) ((aj d l h k).1).length 0 []=.inr (ip d l h k):=by
  rw[x7 _ default (opn d h) [] hstep];rfl
 have e:dF d l h k=ip d l h k:=by unfold dF;rw[hv]
 refine⟨e,(CY d l h k).1,fun _=>⟨A_ _ default (opn d h) [] hstep fun j hj=>?_,fun s hs=>?_⟩⟩
 ·obtain⟨⟨⟨a,b⟩,c,f⟩,ht,_⟩:=FR hj
  refine⟨⟨a,b⟩,fun _=>by have:=ht.every;omega,fun hc=>?_⟩
  rw[zI ht c f]at hc
  have hop:opn d h ((aj d l h k).1.getD j default)=some { right:=((aj d l h k).1.getD j default).right,farm:=((aj d l h k).1.getD j default).farm,hour:=h,litres:=((aj d l h k).1.getD j default).litres,rank:=((aj d l h k).1.getD j default).rank}:=by
   unfold opn;rw[if_pos (by simpa using hc)]
  rw[e,List.nil_append,List.getElem?_map]
  unfold ip
  rw[MJ _ default (opn d h) hj hop]
  rfl
 ·rw[hv]at hs
  cases hs
  rw[e,List.length_map]
def J5 (d:District)(f h r:Int):Bool:= !(qu d f r h)
def J6 (d:District)(f:Int):List Int:=(c8 d (d.farms.getD (Int.toNat f) default).reach).reverse
def J7 (d:District)(f h:Int):Int:=((J6 d f).find? (J5 d f h)).getD (-1)
def fnd (d:District)(h:Int)(c:Claim):ClaimsFound:= { claim:=c,reach:=J7 d c.farm h}
theorem ML {α:Type}(P:α→Bool)(K:List α)(x:α)(R:List α)(h1:P x=true)(h2:∀ y∈K,P y=false):(K++x::R).find? P=some x:=by
 induction K with
 |nil=>simp[h1]
 |cons y K ih=>rw[List.cons_append,List.find?_cons,h2 y (by simp)];exact ih fun z hz=>h2 z (by simp[hz])
theorem Hg {d:District}{f:Int}(he:ar d=0)(h0:0≤f)(h1:f< (d.farms.length:Int)):PathOk d (d.farms.getD (Int.toNat f) default).reach:=by
 have hR:=lj (by rw[he];rfl)
 have:=hR.farm f.toNat (by omega)
 exact⟨he,this.1,this.2⟩
theorem Ev {d:District}{h:Int}{c:Claim}(hl:d.rights.length≤256)(l:List Int):(aT l (a_ d h) c<0∧l.find? (J5 d c.farm h)=none)∨∃ j:Nat,j<l.length∧aT l (a_ d h) c=(j:Int)∧l.find? (J5 d c.farm h)=some (l.getD j 0):=by
 have:=CT (step:=dN l (a_ d h) c) l 0 (J5 d c.farm h) (fun k hk=>by
  unfold dN lY J5
  rw[PA d h c.farm _ hl])
 unfold aT
 rcases this with⟨e,hn⟩ | ⟨K,x,R,rfl,e,hx,hK⟩
 ·rw[e]
  exact .inl ⟨by decide,List.find?_eq_none.2 fun x hx=>by rw[hn x hx];simp⟩
 ·rw[e]
  refine .inr ⟨K.length,by simp,rfl,?_⟩
  rw[ML _ K x R hx hK,je K x 0 R rfl]
def r9 (d:District)(l:List Deed)(k fr to:Int):List ClaimsFound:=(hrs fr to).flatMap fun h=>(ip d l h k).map (fnd d h)
def fh (d:District)(l:List Deed)(k fr to:Int):List ClaimsFound:=(hrs fr to).flatMap fun h=>(u7 d l h k).map (fnd d h)
theorem MM {d:District}(l:List Deed)(k:Int)(s0:List ClaimsFound×Int){c:Claim}(hc:ClaimOk d s0.2 c)(s:List ClaimsFound):dS d l k s0 c s=.inr (s++[fnd d s0.2 c])∧((s.length+1)*48≤fG→eI d l k s0 c s):=by
 have hR:=lj (by rw[hc.exp];rfl)
 have hP:=Hg hc.exp hc.f0 hc.f1
 have hpath:=xH hP
 unfold dS eI
 rw[hpath]
 simp only
 rcases Ev (d:=d) (h:=s0.2) (c:=c) hR.rights (c8 d (d.farms.getD (Int.toNat c.farm) default).reach).reverse with⟨hi,hf⟩ | ⟨j,hj,hi,hf⟩
 ·rw[decide_eq_false (show ¬_≥(0:Int) by omega)]
  refine⟨?_,fun hB=>⟨⟨hc.f0,hc.f1⟩,rz _ _,fun h=>by(first|done|cases h),fun _=>by rw[List.length_append];exact hB⟩⟩
  simp only[cond_false,fnd,J7,J6,hf,Option.getD_none]
 ·rw[hi,decide_eq_true (show(j:Int)≥0 by omega)]
  refine⟨?_,fun hB=>⟨⟨hc.f0,hc.f1⟩,rz _ _,fun _=>⟨⟨by omega,by omega⟩,by rw[List.length_append];exact hB⟩,fun h=>by(first|done|cases h)⟩⟩
  simp only[cond_true,fnd,J7,J6,hf,Option.getD_some,Int.toNat_natCast]
theorem Ew {d:District}(l:List Deed)(k:Int)(s0:List ClaimsFound×Int):∀ (L:List Claim) (s:List ClaimsFound),(∀ c∈L,ClaimOk d s0.2 c)→dV (dS d l k s0) L s=.inr (s++L.map (fnd d s0.2))∧((s.length+L.length)*48≤fG→okL (dS d l k s0) (eI d l k s0) L s)
 | [],s,_=>⟨by simp[dV],fun _=>trivial⟩
 |c::L,s,h=>by
  obtain⟨h1,h2⟩:=MM l k s0 (h c (by simp)) s
  obtain⟨h3,h4⟩:=Ew l k s0 L (s++[fnd d s0.2 c]) fun x hx=>h x (by simp[hx])
  refine⟨?_,fun hB=>?_⟩
  ·rw[dV,h1]
   simp only
   rw[h3];simp
  ·rw[List.length_cons]at hB
   refine⟨h2 (by omega),fun s' e=>?_⟩
   rw[h1]at e
   cases e
   exact h4 (by rw[List.length_append,List.length_singleton];omega)
theorem x8 {d:District}{l:List Deed}{k fr to:Int}:(r9 d l k fr to).length≤(to+1 - fr).toNat*(600*d.rights.length):=by
 unfold r9
 have:=tE (fun h=>(ip d l h k).map (fnd d h)) (600*d.rights.length) (hrs fr to) fun h _=>by rw[List.length_map];exact(Hc d l h k).1
 rwa[Mw]at this
theorem x9 (d:District)(l:List Deed)(k fr to:Int):(r9 d l k fr to).Perm (fh d l k fr to):=G3 fun h _=>(x6 d l h k).symm.map _
theorem tG (d:District)(l:List Deed)(k fr to:Int):(fh d l k fr to).Pairwise fun x y=>dI x y<0:=by
 unfold fh
 refine Mx (PH fr to) (fun h _=>?_) fun a _ b _ hab x hx y hy=>?_
 ·rw[List.pairwise_map]
  exact(A9 d l h k).imp fun {x y} hxy=>(tu _ _).2 hxy
 ·obtain⟨x',hx',rfl⟩:=List.mem_map.1 hx
  obtain⟨y',hy',rfl⟩:=List.mem_map.1 hy
  have h1:=(tF hx').hour
  have h2:=(tF hy').hour
  refine(tu _ _).2 ?_
  simp only[fnd,ln,lJ,and_false,or_false];omega
def ny (d:District)(fr to k:Int):Prop:=(0≤fr∧fr≤to∧to<d.hours)∧0≤k∧k≤1048576
instance (d:District)(fr to k:Int):Decidable (ny d fr to k):=by unfold ny;infer_instance
def o_ (d:District)(l:List Deed)(fr to k:Int):Int:=if aN d l≠0 then aN d l else if ¬ny d fr to k then 1 else if 4096< (to - fr+1)*(d.rights.length:Int)then 2 else 0
theorem PQ (d:District)(fr to k:Int):(((((decide (fr<0)) ||(decide (fr > to))) ||(decide (to≥d.hours))) ||(decide (k<0))) ||(decide (k > 1048576)))= !decide (ny d fr to k):=by
 rw[Bool.eq_iff_iff,Bool.not_eq_true',decide_eq_false_iff_not]
 simp only[Bool.or_eq_true,decide_eq_true_eq]
 unfold ny
 omega
theorem PR {d:District}{fr to k:Int}(hR:Right1 d)(h:ny d fr to k):IntKind.i64.wrap ((IntKind.i64.wrap ((IntKind.i64.wrap (to - fr))+1))*(d.rights.length:Int))=(to - fr+1)*(d.rights.length:Int):=by
 obtain⟨⟨a,b,c⟩,e,f⟩:=h
 have h1:=hR.hours
 have h2:=hR.rights
 rw[bj (n:=to - fr) (by omega) (by omega),bj (n:=to - fr+1) (by omega) (by omega)]
 have h3:(to - fr+1)*(d.rights.length:Int)≤4096*256:=Int.mul_le_mul (by omega) (by omega) (by omega) (by omega)
 have h4:0≤(to - fr+1)*(d.rights.length:Int):=Int.mul_nonneg (by omega) (by omega)
 exact bj (by omega) (by omega)
theorem sa {d:District}{fr to k:Int}(h:ny d fr to k)(h4:¬4096< (to - fr+1)*(d.rights.length:Int)){n:Nat}(hn:n≤(to+1 - fr).toNat*(600*d.rights.length)):n≤2457600:=by
 obtain⟨⟨a,b,c⟩,e,f⟩:=h
 have e1:(((to+1 - fr).toNat*(600*d.rights.length):Nat):Int)=600*((to - fr+1)*(d.rights.length:Int)):=by
  push_cast
  rw[Int.toNat_of_nonneg (by omega),show to+1 - fr=to - fr+1 by omega]
  rw[←Int.mul_assoc,Int.mul_comm _ 600,Int.mul_assoc]
 omega
theorem J8 (d:District)(l:List Deed)(fr to k:Int):iD d l fr to k∧aC d l fr to k=if o_ d l fr to k=0 then(fh d l k fr to,0)else([],o_ d l fr to k):=by
 unfold iD aC o_
 rw[PQ]
 by_cases hc:aN d l=0
 ·rw[hc]
  simp only[bne_self_eq_false,cond_false,ne_eq,not_true,if_false]
  have hD:=tC hc
  have hR:=hD.right
  by_cases ha:ny d fr to k
  ·rw[PR hR ha,decide_eq_true ha]
   simp only[Bool.not_true,cond_false,not_true,if_false]
   by_cases hb:4096< (to - fr+1)*(d.rights.length:Int)
   ·rw[decide_eq_true hb,if_pos hb]
    exact⟨⟨oc d l,fun _ _ _ h=>by cases h⟩,by rw[if_neg (not_not_intro ha)];rfl⟩
   ·rw[decide_eq_false hb,if_neg hb]
    simp only[cond_false,if_true]
    have hrun:=MK (step:=et d l to k) (p:=gB d l to k) fr to (fun h=>(ip d l h k).map (fnd d h)) ha.1.1 (by have:=ha.1.2.2;have:=hR.hours;omega) (by have:=ha.1.2.1;omega)
     (fun j s h h1 h2=>by
      unfold et
      simp only
      rw[decide_eq_true h2,(Ba d l h k).1]
      simp only[cond_true]
      rw[(Ew l k (s,h) (ip d l h k) s fun c hc=>xX hc).1])
     (fun j s h h1=>by unfold et;simp only;rw[decide_eq_false (by omega)];rfl)
     (fun j h h1 h2=>by
      unfold gB
      simp only
      intro hle
      have hle:h≤to:=of_decide_eq_true hle
      refine⟨(Ba d l h k).2,?_⟩
      rw[(Ba d l h k).1]
      refine(Ew l k (_,h) (ip d l h k) _ fun c hc=>xX hc).2 ?_
      have h3:((hrs fr (h - 1)).flatMap fun h=>(ip d l h k).map (fnd d h)).length+(ip d l h k).length=(r9 d l k fr h).length:=by
       unfold r9
       have:=CH (a:=fr) (b:=h - 1) (by omega)
       rw[show h - 1+1=h by omega]at this
       rw[this,List.flatMap_append]
       simp
      have h4:(r9 d l k fr h).length≤(to+1 - fr).toNat*(600*d.rights.length):=Nat.le_trans x8 (Nat.mul_le_mul_right _ (by omega))
      have h5:=sa ha hb h4
      rw[h3]
      unfold fG
      omega)
    obtain⟨r1,r2⟩:=hrun
    have hS:=Ei zt (x9 d l k fr to) (tG d l k fr to)
    have r2':an (et d l to k) 4098 0 ([],fr)=.inl (r9 d l k fr to):=r2
    rw[r2']
    simp only
    rw[hS.2]
    refine⟨⟨oc d l,fun _ _ _ _=>⟨r1,fun z hz=>by(first|done|cases hz),fun x hx=>?_⟩⟩,by rw[if_neg (not_not_intro ha)];rfl⟩
    cases hx
    exact hS.1
  ·rw[decide_eq_false ha,if_pos ha]
   simp only[Bool.not_false,cond_true]
   exact⟨⟨oc d l,fun _ h=>by cases h⟩,rfl⟩
 ·have hne:(aN d l !=0)=true:=by simpa using hc
  rw[hne]
  simp only[cond_true,ne_eq,hc,not_false_eq_true,if_true,if_false]
  exact⟨⟨oc d l,fun h=>by cases h⟩,trivial⟩
end Go.Sx
end
section
namespace Go.Sx
open Go.Proofs
set_option maxRecDepth 100000
def ofF (x:ClaimsFound):Option Claim:=if x.reach<0 then some x.claim else none
def blF (x:ClaimsFound):Option Block:=if 0≤x.reach then some { right:=x.claim.right,farm:=x.claim.farm,hour:=x.claim.hour,reach:=x.reach}else none
def ofL (d:District)(l:List Deed)(k fr to:Int):List Claim:=(fh d l k fr to).filterMap ofF
def blL (d:District)(l:List Deed)(k fr to:Int):List Block:=(fh d l k fr to).filterMap blF
def lim {α:Type}(e:Int)(l:List α):List α×Int:=if e=0 then(if 4096<l.length then([],2)else(l,0))else([],e)
theorem ya {d:District}{l:List Deed}{fr to k:Int}(h:o_ d l fr to k=0):(fh d l k fr to).length≤2457600:=by
 rw[←(x9 d l k fr to).length_eq]
 unfold o_ at h
 split at h
 ·rename_i h1;exact absurd h h1
 ·split at h
  ·cases h
  ·rename_i h2
   have h2:ny d fr to k:=Classical.not_not.1 h2
   split at h
   ·cases h
   ·rename_i h3
    exact sa h2 h3 x8
theorem yb (d:District)(l:List Deed)(fr to k:Int):io d l fr to k∧dM d l fr to k=lim (o_ d l fr to k) (ofL d l k fr to):=by
 obtain⟨h1,h2⟩:=J8 d l fr to k
 by_cases he:o_ d l fr to k=0
 ·rw[if_pos he]at h2
  have hlen:=ya he
  have hstep:∀ j s,j< (fh d l k fr to).length→jT d l fr to k j s=.inr (s++(ofF ((fh d l k fr to).getD j default)).toList):=fun j s hj=>by
   unfold jT ofF
   rw[h2]
   simp only
   by_cases hq:((fh d l k fr to).getD j default).reach<0
   ·rw[if_pos hq,decide_eq_true hq];rfl
   ·rw[if_neg hq,decide_eq_false hq];simp
  refine⟨⟨h1,fun _ _=>?_⟩,?_⟩
  ·rw[h2]
   refine A_ (fh d l k fr to) default ofF [] hstep fun j hj=>?_
   intro _
   rw[h2]
   have:=rD (fh d l k fr to) ofF j
   have h3:=List.length_filterMap_le ofF (fh d l k fr to)
   rw[List.length_append,List.nil_append,List.length_singleton]
   unfold fG
   omega
  ·unfold dM lim
   have hrun:=x7 _ default ofF [] hstep
   rw[h2]
   simp only[bne_self_eq_false,cond_false]
   rw[hrun,if_pos he,List.nil_append]
   show(bif decide (((ofL d l k fr to).length:Int) > 4096)then([],2)else(ofL d l k fr to,0))=_
   by_cases hq:4096< (ofL d l k fr to).length
   ·rw[if_pos hq,decide_eq_true (by omega)];rfl
   ·rw[if_neg hq,decide_eq_false (by omega)];rfl
 ·rw[if_neg he]at h2
  have hne:((aC d l fr to k).2 !=0)=true:=by rw[h2];simpa using he
  refine⟨⟨h1,fun h=>by rw[hne]at h;cases h⟩,?_⟩
  unfold dM lim
  rw[hne,h2,if_neg he];rfl
theorem J9 (d:District)(l:List Deed)(fr to k:Int):fV d l fr to k∧d7 d l fr to k=lim (o_ d l fr to k) (blL d l k fr to):=by
 obtain⟨h1,h2⟩:=J8 d l fr to k
 by_cases he:o_ d l fr to k=0
 ·rw[if_pos he]at h2
  have hlen:=ya he
  have hstep:∀ j s,j< (fh d l k fr to).length→fF d l fr to k j s=.inr (s++(blF ((fh d l k fr to).getD j default)).toList):=fun j s hj=>by
   unfold fF blF
   rw[h2]
   simp only
   by_cases hq:0≤((fh d l k fr to).getD j default).reach
   ·rw[if_pos hq,decide_eq_true (show _≥(0:Int)from hq)];rfl
   ·rw[if_neg hq,decide_eq_false (show ¬_≥(0:Int)from hq)];simp
  refine⟨⟨h1,fun _ _=>?_⟩,?_⟩
  ·rw[h2]
   refine A_ (fh d l k fr to) default blF [] hstep fun j hj=>?_
   intro _
   rw[h2]
   have:=rD (fh d l k fr to) blF j
   have h3:=List.length_filterMap_le blF (fh d l k fr to)
   rw[List.length_append,List.nil_append,List.length_singleton]
   unfold fG
   omega
  ·unfold d7 lim
   have hrun:=x7 _ default blF [] hstep
   rw[h2]
   simp only[bne_self_eq_false,cond_false]
   rw[hrun,if_pos he,List.nil_append]
   show(bif decide (((blL d l k fr to).length:Int) > 4096)then([],2)else(blL d l k fr to,0))=_
   by_cases hq:4096< (blL d l k fr to).length
   ·rw[if_pos hq,decide_eq_true (by omega)];rfl
   ·rw[if_neg hq,decide_eq_false (by omega)];rfl
 ·rw[if_neg he]at h2
  have hne:((aC d l fr to k).2 !=0)=true:=by rw[h2];simpa using he
  refine⟨⟨h1,fun h=>by rw[hne]at h;cases h⟩,?_⟩
  unfold d7 lim
  rw[hne,h2,if_neg he];rfl
theorem FT {α β γ:Type}(f:α→List β)(g:β→Option γ):∀ l:List α,(l.flatMap f).filterMap g=l.flatMap fun a=>(f a).filterMap g
 | [] =>rfl
 |a::l=>by rw[List.flatMap_cons,List.flatMap_cons,List.filterMap_append,FT f g l]
def ofH (d:District)(l:List Deed)(k h:Int):List Claim:=(u7 d l h k).filterMap fun c=>if J7 d c.farm h<0 then some c else none
theorem PS (d:District)(l:List Deed)(k fr to:Int):ofL d l k fr to=(hrs fr to).flatMap (ofH d l k):=by
 unfold ofL fh
 rw[FT]
 congr 1
 funext h
 rw[List.filterMap_map]
 rfl
theorem MN {d:District}{l:List Deed}{k fr to:Int}{c:Claim}:c∈ofL d l k fr to↔(fr≤c.hour∧c.hour≤to)∧c∈u7 d l c.hour k∧J7 d c.farm c.hour<0:=by
 rw[PS,List.mem_flatMap]
 constructor
 ·rintro⟨h,hh,hc⟩
  unfold ofH at hc
  rw[List.mem_filterMap]at hc
  obtain⟨c',hc',e⟩:=hc
  split at e
  ·rename_i hf
   cases e
   have:=(tF hc').hour
   subst this
   exact⟨AU.1 hh,hc',hf⟩
  ·cases e
 ·rintro⟨h1,h2,h3⟩
  refine⟨c.hour,AU.2 h1,?_⟩
  unfold ofH
  rw[List.mem_filterMap]
  exact⟨c,h2,by rw[if_pos h3]⟩
theorem Ey (d:District)(l:List Deed)(k fr to:Int):(ofL d l k fr to).Pairwise ln:=by
 unfold ofL
 rw[List.pairwise_filterMap]
 refine(tG d l k fr to).imp fun {a b} hab x hx y hy=>?_
 unfold ofF at hx hy
 split at hx
 ·split at hy
  ·cases hx;cases hy;exact(tu _ _).1 hab
  ·cases hy
 ·cases hx
end Go.Sx
end
section
namespace Go.Sx
open Go.Proofs
set_option maxRecDepth 100000
theorem yc (a b:Claim):gj a b=decide (cJ a b<0):=by
 rw[Bool.eq_iff_iff,decide_eq_true_eq,qc]
 unfold gj
 simp only[ln,lJ,and_false,or_false]
 by_cases h1:a.hour=b.hour
 ·rw[show(a.hour !=b.hour)=false by simpa using h1,cond_false]
  by_cases h2:a.rank=b.rank
  ·rw[show(a.rank !=b.rank)=false by simpa using h2,cond_false]
   by_cases h3:a.right=b.right
   ·rw[show(a.right !=b.right)=false by simpa using h3,cond_false,decide_eq_true_eq];omega
   ·rw[show(a.right !=b.right)=true by simpa using h3,cond_true,decide_eq_true_eq];omega
  ·rw[show(a.rank !=b.rank)=true by simpa using h2,cond_true,decide_eq_true_eq];omega
 ·rw[show(a.hour !=b.hour)=true by simpa using h1,cond_true,decide_eq_true_eq];omega
theorem zJ {d:District}{l:List Deed}{fr to k:Int}(h:o_ d l fr to k=0):aN d l=0∧ny d fr to k∧¬4096< (to - fr+1)*(d.rights.length:Int):=by
 unfold o_ at h
 split at h
 ·rename_i h1;exact absurd h h1
 ·rename_i h1
  split at h
  ·cases h
  ·rename_i h2
   split at h
   ·cases h
   ·rename_i h3;exact⟨Classical.not_not.1 h1,Classical.not_not.1 h2,h3⟩
theorem PT (a b:List Claim):l6 a b:=fun _ _ h=>jG _ _ _ fun j _ _ hj _=>by
 simp only[bne_eq_false_iff_eq]at h
 omega
theorem Hh (a:List Claim):mI a a=true:=by
 unfold mI
 have e:an (iW a a) a.length 0 ()=.inr ():=eD.2 fun j _=>by
  unfold iW;simp
 rw[e];simp
theorem MO (a b:List Block):fe a b:=fun _ _ h=>jG _ _ _ fun j _ _ hj _=>by
 simp only[bne_eq_false_iff_eq]at h
 omega
theorem yd (a:List Block):eW a a=true:=by
 unfold eW
 have e:an (eL a a) a.length 0 ()=.inr ():=eD.2 fun j _=>by
  unfold eL;simp
 rw[e];simp
end Go.Sx
end
section
namespace Go.Sx
open Go.Proofs
set_option maxRecDepth 100000
set_option linter.unusedSimpArgs false
def bf:District:=({ name:=(ByteArray.mk #[]),hours:=4,tank:=({ cap:=100,start:=50}:Tank),reaches:=(([({ name:=(ByteArray.mk #[]),up:=(-1),delay:=1,cap:=20,bank:=50,siphon:=0,evap:=({ lo:=0,hi:=0}:Range),seep:=(({ n:=0,d:=1}:Ratio),({ n:=0,d:=1}:Ratio))}:Reach),({ name:=(ByteArray.mk #[]),up:=(-1),delay:=1,cap:=20,bank:=50,siphon:=0,evap:=({ lo:=0,hi:=0}:Range),seep:=(({ n:=0,d:=1}:Ratio),({ n:=0,d:=1}:Ratio))}:Reach)]).set 1 ({ name:=(([({ name:=(ByteArray.mk #[]),up:=(-1),delay:=1,cap:=20,bank:=50,siphon:=0,evap:=({ lo:=0,hi:=0}:Range),seep:=(({ n:=0,d:=1}:Ratio),({ n:=0,d:=1}:Ratio))}:Reach),({ name:=(ByteArray.mk #[]),up:=(-1),delay:=1,cap:=20,bank:=50,siphon:=0,evap:=({ lo:=0,hi:=0}:Range),seep:=(({ n:=0,d:=1}:Ratio),({ n:=0,d:=1}:Ratio))}:Reach)]).getD 1 (default:Reach)).name,up:=0,delay:=(([({ name:=(ByteArray.mk #[]),up:=(-1),delay:=1,cap:=20,bank:=50,siphon:=0,evap:=({ lo:=0,hi:=0}:Range),seep:=(({ n:=0,d:=1}:Ratio),({ n:=0,d:=1}:Ratio))}:Reach),({ name:=(ByteArray.mk #[]),up:=(-1),delay:=1,cap:=20,bank:=50,siphon:=0,evap:=({ lo:=0,hi:=0}:Range),seep:=(({ n:=0,d:=1}:Ratio),({ n:=0,d:=1}:Ratio))}:Reach)]).getD 1 (default:Reach)).delay,cap:=(([({ name:=(ByteArray.mk #[]),up:=(-1),delay:=1,cap:=20,bank:=50,siphon:=0,evap:=({ lo:=0,hi:=0}:Range),seep:=(({ n:=0,d:=1}:Ratio),({ n:=0,d:=1}:Ratio))}:Reach),({ name:=(ByteArray.mk #[]),up:=(-1),delay:=1,cap:=20,bank:=50,siphon:=0,evap:=({ lo:=0,hi:=0}:Range),seep:=(({ n:=0,d:=1}:Ratio),({ n:=0,d:=1}:Ratio))}:Reach)]).getD 1 (default:Reach)).cap,bank:=(([({ name:=(ByteArray.mk #[]),up:=(-1),delay:=1,cap:=20,bank:=50,siphon:=0,evap:=({ lo:=0,hi:=0}:Range),seep:=(({ n:=0,d:=1}:Ratio),({ n:=0,d:=1}:Ratio))}:Reach),({ name:=(ByteArray.mk #[]),up:=(-1),delay:=1,cap:=20,bank:=50,siphon:=0,evap:=({ lo:=0,hi:=0}:Range),seep:=(({ n:=0,d:=1}:Ratio),({ n:=0,d:=1}:Ratio))}:Reach)]).getD 1 (default:Reach)).bank,siphon:=(([({ name:=(ByteArray.mk #[]),up:=(-1),delay:=1,cap:=20,bank:=50,siphon:=0,evap:=({ lo:=0,hi:=0}:Range),seep:=(({ n:=0,d:=1}:Ratio),({ n:=0,d:=1}:Ratio))}:Reach),({ name:=(ByteArray.mk #[]),up:=(-1),delay:=1,cap:=20,bank:=50,siphon:=0,evap:=({ lo:=0,hi:=0}:Range),seep:=(({ n:=0,d:=1}:Ratio),({ n:=0,d:=1}:Ratio))}:Reach)]).getD 1 (default:Reach)).siphon,evap:=(([({ name:=(ByteArray.mk #[]),up:=(-1),delay:=1,cap:=20,bank:=50,siphon:=0,evap:=({ lo:=0,hi:=0}:Range),seep:=(({ n:=0,d:=1}:Ratio),({ n:=0,d:=1}:Ratio))}:Reach),({ name:=(ByteArray.mk #[]),up:=(-1),delay:=1,cap:=20,bank:=50,siphon:=0,evap:=({ lo:=0,hi:=0}:Range),seep:=(({ n:=0,d:=1}:Ratio),({ n:=0,d:=1}:Ratio))}:Reach)]).getD 1 (default:Reach)).evap,seep:=(([({ name:=(ByteArray.mk #[]),up:=(-1),delay:=1,cap:=20,bank:=50,siphon:=0,evap:=({ lo:=0,hi:=0}:Range),seep:=(({ n:=0,d:=1}:Ratio),({ n:=0,d:=1}:Ratio))}:Reach),({ name:=(ByteArray.mk #[]),up:=(-1),delay:=1,cap:=20,bank:=50,siphon:=0,evap:=({ lo:=0,hi:=0}:Range),seep:=(({ n:=0,d:=1}:Ratio),({ n:=0,d:=1}:Ratio))}:Reach)]).getD 1 (default:Reach)).seep}:Reach)),farms:=[({ name:=(ByteArray.mk #[]),reach:=1,area:=10,crop:=0}:Farm),({ name:=(ByteArray.mk #[]),reach:=1,area:=10,crop:=0}:Farm)],crops:=[({ name:=(ByteArray.mk #[]),need:=3}:Crop)],rights:=[({ name:=(ByteArray.mk #[]),kind:=1,farm:=0,reach:=0,rank:=7,litres:=5,since:=0,to:=3,every:=2,length:=1}:Right),({ name:=(ByteArray.mk #[]),kind:=2,farm:=1,reach:=1,rank:=0,litres:=0,since:=0,to:=3,every:=0,length:=0}:Right)],duties:=[],wells:=[]}:District)
def lM:Prop:=(0≤1∧1< (([({ name:=(ByteArray.mk #[]),up:=(-1),delay:=1,cap:=20,bank:=50,siphon:=0,evap:=({ lo:=0,hi:=0}:Range),seep:=(({ n:=0,d:=1}:Ratio),({ n:=0,d:=1}:Ratio))}:Reach),({ name:=(ByteArray.mk #[]),up:=(-1),delay:=1,cap:=20,bank:=50,siphon:=0,evap:=({ lo:=0,hi:=0}:Range),seep:=(({ n:=0,d:=1}:Ratio),({ n:=0,d:=1}:Ratio))}:Reach)]).length:Int))
@[go_sem] def o5:List SV→Option Con:=(pE (.det (lM) (.agg [.v (.string ((bf).name)),.v (.int .i64 ((bf).hours)),.v (.int .i64 ((bf).tank.cap)),.v (.int .i64 ((bf).tank.start)),.nw .reach ((bf).reaches),.nw .farm ((bf).farms),.nw .crop ((bf).crops),.nw .right ((bf).rights),.v (.slice none 0 0),.v (.slice none 0 0)])))
theorem uA:FnOk Tryz.prog 27 o5:=by
 have hG:ConsOk Tryz.prog (mkG [] []):=aw cg0 cg0
 refine oC [] mixed am hG (fn:=Tryz.f27) (c:=ae Tryz.f27) (by kernel_rfl) (by kernel_rfl) (by kernel_rfl) (by kernel_rfl) (aF (fun hp=>?_))
 dsimp only[aD]at hp
 unfold lM at hp
 refine⟨Nat.le_of_ble_eq_true rfl,L0,ah _,?_⟩
 ·unfold ae Tryz.f27
  try unfold bf
  simp only[go_sem,Nat.reduceBEq,Nat.reduceLeDiff,Nat.reduceLT,decide_true,Nat.reduceAdd,Nat.reduceSub,Nat.reduceMul,Int.reduceLE,Int.reduceLT,Int.reduceToNat,Int.reduceNeg,reduceCtorEq]
  all_goals exact cl
def jV:=([({ right:=0,farm:=0,hour:=2,litres:=5,rank:=7}:Claim)])
def jW:=([({ right:=0,farm:=0,hour:=0,litres:=0,rank:=7}:Claim)])
def jX:=([({ right:=0,farm:=0,hour:=0,reach:=1}:Block),({ right:=0,farm:=0,hour:=2,reach:=1}:Block)])
def iq:=(bf.rights++([({ name:=(ByteArray.mk #[]),kind:=3,farm:=0,reach:=1,rank:=0,litres:=0,since:=2,to:=3,every:=0,length:=0}:Right)]))
def dh:=({ name:=bf.name,hours:=bf.hours,tank:=bf.tank,reaches:=bf.reaches,farms:=bf.farms,crops:=bf.crops,rights:=bf.rights,duties:=[],wells:=[]}:District)
def ct:=(dM dh ([]) 0 4 0)
def cw:=(dM dh ([]) 0 3 0)
def fW:=(cw.1)
def cy:=(d7 dh ([]) 0 3 0)
def fX:=(cy.1)
def di:=(fW.length:Int)
def cm:=({ name:=bf.name,hours:=bf.hours,tank:=bf.tank,reaches:=bf.reaches,farms:=bf.farms,crops:=bf.crops,rights:=iq,duties:=[],wells:=[]}:District)
def d8:=(eW fX jX)
def ir:=(fe fX jX)
def cA:=(dM cm ([]) 0 3 0)
def dG:=(cA.1)
def cT:=(d7 cm ([]) 0 3 0)
def gH:=(cT.1)
def dT:=(dq cm jW)
def fJ:=(mI dG jV)
def iZ:=(fe gH ([({ right:=0,farm:=0,hour:=0,reach:=1}:Block)]))
def i0:=(l6 dG jV)
def dm:=(dq cm dG)
def eT:=(dG++dG)
def fK:=(dq cm eT)
def i6:=(ew cm eT)
def kw:Bool:=(bif((((((((cw.2 !=0) ||(cy.2 !=0)) ||(ct.2 !=1)) ||(cA.2 !=0)) ||(cT.2 !=0)) ||(dm !=0)) ||(dT !=260)) ||(fK !=260))then false else((((di==0)&&d8)&&fJ)&&(eW gH ([({ right:=0,farm:=0,hour:=0,reach:=1}:Block)]))))
def jY:Prop:=((lM)∧((io dh ([]) 0 3 0)∧((fV dh ([]) 0 3 0)∧((io dh ([]) 0 4 0)∧((iq.length*88≤fG)∧(iq.length≤bp→((io cm ([]) 0 3 0)∧((fV cm ([]) 0 3 0)∧(((((((cw.2 !=0) ||(cy.2 !=0)) ||(ct.2 !=1)) ||(cA.2 !=0)) ||(cT.2 !=0))=false→(ew cm dG))∧((((((((cw.2 !=0) ||(cy.2 !=0)) ||(ct.2 !=1)) ||(cA.2 !=0)) ||(cT.2 !=0)) ||(dm !=0))=false→(ew cm jW))∧(((((((((cw.2 !=0) ||(cy.2 !=0)) ||(ct.2 !=1)) ||(cA.2 !=0)) ||(cT.2 !=0)) ||(dm !=0)) ||(dT !=260))=true→(((((((((cw.2 !=0) ||(cy.2 !=0)) ||(ct.2 !=1)) ||(cA.2 !=0)) ||(cT.2 !=0)) ||(dm !=0)) ||(dT !=260))=false→i6)∧(((((((((cw.2 !=0) ||(cy.2 !=0)) ||(ct.2 !=1)) ||(cA.2 !=0)) ||(cT.2 !=0)) ||(dm !=0)) ||(dT !=260)) ||(fK !=260))=false→(fW.length≤bp→(((di==0)=true→ir)∧((((di==0)&&d8)=true→i0)∧((((di==0)&&d8)&&fJ)=true→iZ)))))))∧((((((((cw.2 !=0) ||(cy.2 !=0)) ||(ct.2 !=1)) ||(cA.2 !=0)) ||(cT.2 !=0)) ||(dm !=0)) ||(dT !=260))=false→((eT.length*40≤fG)∧(eT.length≤bp→(((((((((cw.2 !=0) ||(cy.2 !=0)) ||(ct.2 !=1)) ||(cA.2 !=0)) ||(cT.2 !=0)) ||(dm !=0)) ||(dT !=260))=false→i6)∧(((((((((cw.2 !=0) ||(cy.2 !=0)) ||(ct.2 !=1)) ||(cA.2 !=0)) ||(cT.2 !=0)) ||(dm !=0)) ||(dT !=260)) ||(fK !=260))=false→(fW.length≤bp→(((di==0)=true→ir)∧((((di==0)&&d8)=true→i0)∧((((di==0)&&d8)&&fJ)=true→iZ))))))))))))))))))))
@[go_sem] def tH:List SV→Option Con:=(pE (.det (jY) (.v (.bool (kw)))))
theorem yH:FnOk Tryz.prog 10 tH:=by
 have hG:ConsOk Tryz.prog (mkG [(12,fun l=>qi (dp [.st .district,.sl .deed,.o,.o,.o] l)),(14,fun l=>od (dp [.st .district,.sl .deed,.o,.o,.o] l)),(16,fun l=>s4 (dp [.sl .claim,.sl .claim] l)),(17,fun l=>mJ (dp [.sl .block,.sl .block] l)),(19,fun l=>mF (dp [.st .district,.sl .claim] l)),(27,o5)] []):=aw (cgc (tw.norm [.st .district,.sl .deed,.o,.o,.o]) (cgc (tx.norm [.st .district,.sl .deed,.o,.o,.o]) (cgc (yx.norm [.sl .claim,.sl .claim]) (cgc (qI.norm [.sl .block,.sl .block]) (cgc (oU.norm [.st .district,.sl .claim]) (cgc uA cg0)))))) cg0
 refine aX [.o] mixed am hG (fn:=Tryz.f10) (c:=ae Tryz.f10) (by kernel_rfl) (by kernel_rfl) (by kernel_rfl) (by kernel_rfl) (aF (fun hp=>?_))
 dsimp only[aD]at hp
 unfold jY at hp
 try simp only[jV,jW,jX,iq,dh,ct,cw,fW,cy,fX,di,cm,d8,ir,cA,dG,cT,gH,dT,fJ,iZ,i0,dm,eT,fK,i6]at hp
 refine⟨Nat.le_of_ble_eq_true rfl,L0,ah _,?_⟩
 ·unfold ae Tryz.f10
  try unfold kw
  simp (maxSteps:=1000000) only[go_sem,Nat.reduceBEq,Nat.reduceLeDiff,Nat.reduceLT,decide_true,Nat.reduceAdd,Nat.reduceSub,Nat.reduceMul,Int.reduceLE,Int.reduceLT,Int.reduceToNat,Int.reduceNeg,reduceCtorEq,jV,jW,jX,iq,dh,ct,cw,fW,cy,fX,di,cm,d8,ir,cA,dG,cT,gH,dT,fJ,iZ,i0,dm,eT,fK,i6]
  all_goals exact cl
end Go.Sx
end
section
namespace Go.Sx
open Go.Proofs
set_option maxRecDepth 100000
structure FineC (d:District)(x:Claim):Prop where
 r0:0≤x.right
 r1:x.right< (d.rights.length:Int)
 f0:0≤x.farm
 f1:x.farm< (d.farms.length:Int)
 h0:0≤x.hour
 h1:x.hour<d.hours
 l0:1≤x.litres
 l1:x.litres≤1073741824
 kind:(d.rights.getD x.right.toNat default).kind=1
 rank:(d.rights.getD x.right.toNat default).rank=x.rank
def tI (d:District)(x:Claim):Bool:=(((((((decide (x.right≥0))&&(decide (x.right< (d.rights.length:Int))))&&(decide (x.farm≥0)))&&(decide (x.farm< (d.farms.length:Int))))&&(decide (x.hour≥0)))&&(decide (x.hour<d.hours)))&&(decide (x.litres≥1)))&&(decide (x.litres≤1073741824))
theorem qC (d:District)(x:Claim):tI d x=true↔(0≤x.right∧x.right< (d.rights.length:Int))∧(0≤x.farm∧x.farm< (d.farms.length:Int))∧(0≤x.hour∧x.hour<d.hours)∧(1≤x.litres∧x.litres≤1073741824):=by
 unfold tI
 simp only[Bool.and_eq_true,decide_eq_true_eq]
 omega
theorem zK (d:District)(x:Claim):FineC d x↔tI d x=true∧(d.rights.getD x.right.toNat default).kind=1∧(d.rights.getD x.right.toNat default).rank=x.rank:=by
 rw[qC]
 exact⟨fun h=>⟨⟨⟨h.r0,h.r1⟩,⟨h.f0,h.f1⟩,⟨h.h0,h.h1⟩,h.l0,h.l1⟩,h.kind,h.rank⟩,fun h=>⟨h.1.1.1,h.1.1.2,h.1.2.1.1,h.1.2.1.2,h.1.2.2.1.1,h.1.2.2.1.2,h.1.2.2.2.1,h.1.2.2.2.2,h.2.1,h.2.2⟩⟩
theorem not8 (d:District)(x:Claim):((((((((decide (x.right<0)) ||(decide (x.right≥(d.rights.length:Int)))) ||(decide (x.farm<0))) ||(decide (x.farm≥(d.farms.length:Int)))) ||(decide (x.hour<0))) ||(decide (x.hour≥d.hours))) ||(decide (x.litres<1))) ||(decide (x.litres > 1073741824)))= !tI d x:=by
 rw[Bool.eq_iff_iff,Bool.not_eq_true',←Bool.not_eq_true,qC]
 simp only[Bool.or_eq_true,decide_eq_true_eq]
 omega
theorem Bb (d:District)(x:Claim):iV d x∧(fC d x=true↔FineC d x):=by
 unfold iV fC
 rw[not8,zK]
 cases h:tI d x with
 |false=>exact⟨(fun h=>by cases h),by simp⟩
 |true=>
  have:=(qC d x).1 h
  exact⟨fun _=>⟨this.1,fun _=>this.1⟩,by simp⟩
theorem NF (d:District)(c:List Claim)(k:Nat)(hk:k<4097):eH d c k ()=ib d c k ()∧(eH d c k ()=.inr ()↔FineC d (c.getD k default)∧(0<k→cJ (c.getD (k - 1) default) (c.getD k default) <0)):=by
 have hw:0<k→Int.toNat (IntKind.i64.wrap ((k:Int) - 1))=k - 1:=fun h=>by rw[bj (by omega) (by omega)];omega
 have e:(((((!(tI d (c.getD k default))) ||((d.rights.getD (Int.toNat (c.getD k default).right) default).kind !=1)) ||((d.rights.getD (Int.toNat (c.getD k default).right) default).rank !=(c.getD k default).rank)) ||((decide ((k:Int) > 0))&&(decide ((cJ (c.getD (Int.toNat (IntKind.i64.wrap ((k:Int) - 1))) default) (c.getD k default))≥0)))))=(((!(fC d (c.getD k default))) ||((decide ((k:Int) > 0))&&(!(gj (c.getD (Int.toNat (IntKind.i64.wrap ((k:Int) - 1))) default) (c.getD k default)))))):=by
  rw[yc]
  have h1:(((!(tI d (c.getD k default))) ||((d.rights.getD (Int.toNat (c.getD k default).right) default).kind !=1)) ||((d.rights.getD (Int.toNat (c.getD k default).right) default).rank !=(c.getD k default).rank))= !(fC d (c.getD k default)):=by
   rw[Bool.eq_iff_iff,Bool.not_eq_true',←Bool.not_eq_true,(Bb _ _).2,zK]
   simp only[Bool.or_eq_true,Bool.not_eq_true',bne_iff_ne,ne_eq]
   cases tI d (c.getD k default) <;>simp
   constructor
   ·rintro (h|h) h2 h3
    ·exact h h2
    ·exact h h3
   ·intro h
    by_cases h2:(d.rights.getD (Int.toNat (c.getD k default).right) default).kind=1
    ·exact .inr (h h2)
    ·exact .inl h2
  rw[h1]
  congr 2
  rw[←decide_not]
  exact decide_eq_decide.2 (by omega)
 refine⟨?_,?_⟩
 ·show(bif _ then Sum.inl ()else Sum.inr ())=(bif _ then Sum.inl ()else Sum.inr ())
  exact congrArg (fun b=>(bif b then Sum.inl ()else Sum.inr ():Unit⊕Unit)) e
 ·show(bif _ then Sum.inl ()else Sum.inr ())=_↔_
  rw[uy]
  refine Iff.trans (b:=(((!(fC d (c.getD k default))) ||((decide ((k:Int) > 0))&&(!(gj (c.getD (Int.toNat (IntKind.i64.wrap ((k:Int) - 1))) default) (c.getD k default))))))=false) (by rw[←e];rfl) ?_
  rw[yc]
  rw[Bool.or_eq_false_iff,Bool.not_eq_false',(Bb _ _).2]
  by_cases hk0:0<k
  ·rw[hw hk0,decide_eq_true (show(k:Int) > 0 by omega)]
   simp[hk0]
  ·rw[decide_eq_false (show ¬ (k:Int) > 0 by omega)]
   simp[hk0]
theorem ye (d:District)(c:List Claim):ew d c:=fun _ _ h _=>jG _ _ _ fun j _ _ hj=>by
 have hle:c.length≤4096:=by have:=of_decide_eq_false h;omega
 have h8:=qC d (c.getD j default)
 unfold tI at h8
 unfold gQ
 refine⟨fun h=>?_,fun h=>?_,fun h h0=>?_⟩
 ·rw[Bool.not_eq_false']at h
  exact(h8.1 h).1
 ·rw[Bool.or_eq_false_iff,Bool.not_eq_false']at h
  exact(h8.1 h.1).1
 ·have h0:=of_decide_eq_true h0
  rw[bj (by omega) (by omega)]
  omega
theorem Hi (d:District)(c:List Claim):kG d c:=⟨GW d,fun _ _ h=>jG _ _ _ fun j _ _ hj=>fun _=>⟨(Bb _ _).1,fun _ h0=>by
 have h0:=of_decide_eq_true h0
 have hle:c.length≤4096:=by have:=of_decide_eq_false h;omega
 rw[bj (by omega) (by omega)]
 omega⟩⟩
theorem zL {ρ σ:Type}{f g:Nat→σ→ρ⊕σ}:∀ (n i:Nat) (s:σ),(∀ j s,i≤j→j<i+n→f j s=g j s)→an f n i s=an g n i s
 |0,_,_,_=>rfl
 |n+1,i,s,h=>by
  rw[an,an,h i s (Nat.le_refl _) (by omega)]
  cases g i s with
  |inl x=>rfl
  |inr s'=>exact zL n (i+1) s' fun j s h1 h2=>h j s (by omega) (by omega)
theorem Hj (d:District)(c:List Claim):dq d c=ju d c:=by
 unfold dq ju
 rw[←Js]
 cases ar d !=0 with
 |true=>rfl
 |false=>
  simp only[cond_false]
  by_cases hl:(c.length:Int) > 4096
  ·rw[decide_eq_true hl];rfl
  ·rw[decide_eq_false hl]
   simp only[cond_false]
   rw[zL (f:=eH d c) (g:=ib d c) c.length 0 () fun j s _ hj=>(NF d c j (by omega)).1]
   try rfl
theorem Ez {d:District}{c:List Claim}(he:ar d=0)(hl:c.length≤4096)(h1:∀ x∈c,FineC d x)(h2:c.Pairwise ln):dq d c=0:=by
 unfold dq
 rw[he,decide_eq_false (show ¬ (c.length:Int) > 4096 by omega)]
 simp only[bne_self_eq_false,cond_false]
 have:an (eH d c) c.length 0 ()=.inr ():=eD.2 fun j hj=>((NF d c j (by omega)).2).2 ⟨h1 _ (C2 _ default hj),fun h0=>by
  rw[List.pairwise_iff_getElem]at h2
  rw[qc,gm c default (show j - 1<c.length by omega),gm c default hj]
  exact h2 (j - 1) j (by omega) hj (by omega)⟩
 rw[this]
theorem J_ {d:District}{l:List Deed}{k fr to:Int}{c:Claim}(h:c∈ofL d l k fr to):FineC d c:=by
 have h:=tF (MN.1 h).2.1
 exact⟨h.r0,h.r1,h.f0,h.f1,h.h0,h.h1,h.l0,h.l1,h.kind,h.rank.symm⟩
theorem Ka {d:District}{l:List Deed}{k fr to:Int}(h:(dM d l fr to k).2=0):dq d (dM d l fr to k).1=0:=by
 rw[(yb d l fr to k).2]at h ⊢
 unfold lim at h ⊢
 by_cases he:o_ d l fr to k=0
 ·rw[if_pos he]at h ⊢
  have hc:=((qx d l).1 (zJ he).1).1
  by_cases hb:4096< (ofL d l k fr to).length
  ·rw[if_pos hb]at h;cases h
  ·rw[if_neg hb]
   exact Ez hc (by simp only;omega) (fun x hx=>J_ hx) (Ey _ _ _ _ _)
 ·rw[if_neg he]at h;exact absurd h he
def uB (d:District)(l:List Deed)(k fr to:Int):List ClaimsFound:=(hrs fr to).flatMap fun h=>(((lu d (qk d l h k)).filterMap (opn d h)).foldl yG []).map (fnd d h)
theorem C3 {d:District}{l:List Deed}{k fr to:Int}(h:o_ d l fr to k=0):fh d l k fr to=uB d l k fr to:=by
 obtain⟨hc,⟨⟨a,b,c⟩,e,f⟩,_⟩:=zJ h
 unfold fh uB
 have:∀ L:List Int,(∀ x∈L,fr≤x∧x≤to)→(L.flatMap fun h=>(u7 d l h k).map (fnd d h))=L.flatMap fun h=>(((lu d (qk d l h k)).filterMap (opn d h)).foldl yG []).map (fnd d h):=fun L=>by
  induction L with
  |nil=>intro _;rfl
  |cons x L ih=>
   intro hL
   have hx:=hL x (by simp)
   rw[List.flatMap_cons,List.flatMap_cons,ih fun y hy=>hL y (by simp[hy])]
   congr 2
   unfold u7 ip
   rw[(CY d l x k).2,if_neg (by simp[hc]),if_pos (by omega)]
 exact this _ fun x hx=>AU.1 hx
theorem FU {d:District}{l:List Deed}{k fr to:Int}{F:List ClaimsFound}(h:o_ d l fr to k=0)(hF:uB d l k fr to=F)(h1:decide (4096< (F.filterMap ofF).length)=false):dM d l fr to k=(F.filterMap ofF,0):=by
 rw[(yb d l fr to k).2]
 unfold lim ofL
 rw[C3 h,hF,if_pos h,if_neg (of_decide_eq_false h1)]
theorem FV {d:District}{l:List Deed}{k fr to:Int}{F:List ClaimsFound}(h:o_ d l fr to k=0)(hF:uB d l k fr to=F)(h1:decide (4096< (F.filterMap blF).length)=false):d7 d l fr to k=(F.filterMap blF,0):=by
 rw[(J9 d l fr to k).2]
 unfold lim blL
 rw[C3 h,hF,if_pos h,if_neg (of_decide_eq_false h1)]
abbrev C4 (h:Int):Claim:= { right:=0,farm:=0,hour:=h,litres:=5,rank:=7}
theorem ex1:o_ dh [] 0 3 0=0:=by kernel_rfl
theorem ex2:uB dh [] 0 0 3=[{ claim:=C4 0,reach:=1},{ claim:=C4 2,reach:=1}]:=by kernel_rfl
theorem ex3:o_ cm [] 0 3 0=0:=by kernel_rfl
theorem ex4:uB cm [] 0 0 3=[{ claim:=C4 0,reach:=1},{ claim:=C4 2,reach:= -1}]:=by kernel_rfl
theorem s19:cw=([],0):=FU ex1 ex2 (by kernel_rfl)
theorem s17:cy=([{ right:=0,farm:=0,hour:=0,reach:=1},{ right:=0,farm:=0,hour:=2,reach:=1}],0):=FV ex1 ex2 (by kernel_rfl)
theorem s20:ct=([],1):=by
 have h:o_ dh [] 0 4 0=1:=by kernel_rfl
 unfold ct
 rw[(yb _ _ _ _ _).2]
 unfold lim
 rw[h];rfl
theorem s11:cA=([C4 2],0):=FU ex3 ex4 (by kernel_rfl)
theorem s9:cT=([{ right:=0,farm:=0,hour:=0,reach:=1}],0):=FV ex3 ex4 (by kernel_rfl)
theorem s10:dG=[C4 2]:=by unfold dG;rw[s11]
theorem s2:eT=[C4 2,C4 2]:=by unfold eT;rw[s10];rfl
theorem s3:dm=0:=by unfold dm;rw[s10];kernel_rfl
theorem s7:dT=260:=by kernel_rfl
theorem s1:fK=260:=by unfold fK;rw[s2];kernel_rfl
theorem s16:fX=[{ right:=0,farm:=0,hour:=0,reach:=1},{ right:=0,farm:=0,hour:=2,reach:=1}]:=by unfold fX;rw[s17]
theorem s8:gH=[{ right:=0,farm:=0,hour:=0,reach:=1}]:=by unfold gH;rw[s9]
theorem s13:d8=true:=by unfold d8;rw[s16];exact yd _
theorem s6:fJ=true:=by unfold fJ;rw[s10];exact Hh _
theorem s15:di=0:=by unfold di fW;rw[s19];rfl
theorem PU:kw=true:=by
 unfold kw
 rw[s19,s17,s20,s11,s9,s3,s7,s1,s13,s6,s15,s8,yd]
 rfl
theorem Kb:jY:=by
 unfold jY i6 ir i0 iZ
 refine⟨⟨by omega,of_decide_eq_true (by kernel_rfl)⟩,(yb _ _ _ _ _).1,(J9 _ _ _ _ _).1,(yb _ _ _ _ _).1,?_,fun _=>⟨(yb _ _ _ _ _).1,(J9 _ _ _ _ _).1,?_⟩⟩
 ·exact Nat.le_of_ble_eq_true (by kernel_rfl)
 ·simp only[ye,MO,PT,true_and,and_true,implies_true,true_imp_iff]
  intro _
  rw[s2]
  exact Nat.le_of_ble_eq_true (by kernel_rfl)
end Go.Sx
end
section
namespace Go.Sx
open Go.Proofs
set_option maxRecDepth 100000
set_option linter.unusedSimpArgs false
end Go.Sx
end
section
namespace Go.Sx
open Go.Proofs
set_option maxRecDepth 100000
set_option linter.unusedSimpArgs false
def dE (d:District)(c:List Claim)(l_:List Deed)(fr:Int)(to:Int)(known:Int):Bool:=(bif(!kw)then false else(bif((fj d c)&&((dq d c) !=(ju d c)))then false else(bif(!(nX d l_ fr to))then true else(((dM d l_ fr to known).2 !=0) ||((dq d ((dM d l_ fr to known).1)) ==0)))))
def c9 (d:District)(c:List Claim)(l_:List Deed)(fr:Int)(to:Int)(known:Int):Prop:=((jY)∧((!kw)=false→(((fj d c)=true→(ew d c))∧(((fj d c)=true→(kG d c))∧(((fj d c)&&((dq d c) !=(ju d c)))=false→((!(nX d l_ fr to))=false→((io d l_ fr to known)∧(((dM d l_ fr to known).2 !=0)=false→(ew d ((dM d l_ fr to known).1))))))))))
@[go_sem] def fY:List SV→Option Con:=(pD .district fun d=>(pR .claim fun c=>(pR .deed fun l_=>(pI fun fr=>(pI fun to=>(pI fun known=>(pE (.det (c9 d c l_ fr to known) (.v (.bool (dE d c l_ fr to known)))))))))))
theorem nz:FnOk Tryz.prog 4 fY:=by
 have hG:ConsOk Tryz.prog (mkG [(10,tH),(11,fun l=>uS (dp [.st .district,.sl .deed,.o,.o] l)),(12,fun l=>qi (dp [.st .district,.sl .deed,.o,.o,.o] l)),(18,fun l=>na (dp [.st .district,.sl .claim] l)),(19,fun l=>mF (dp [.st .district,.sl .claim] l)),(20,fun l=>rh (dp [.st .district,.sl .claim] l))] []):=aw (cgc yH (cgc (AH.norm [.st .district,.sl .deed,.o,.o]) (cgc (tw.norm [.st .district,.sl .deed,.o,.o,.o]) (cgc (rX.norm [.st .district,.sl .claim]) (cgc (oU.norm [.st .district,.sl .claim]) (cgc (xq.norm [.st .district,.sl .claim]) cg0)))))) cg0
 refine aX [.o] mixed am hG (fn:=Tryz.f4) (c:=ae Tryz.f4) (by kernel_rfl) (by kernel_rfl) (by kernel_rfl) (by kernel_rfl) (aY fun d=>(dW fun c=>(dW fun l_=>(b_ fun fr=>(b_ fun to=>(b_ fun known=>(aF (fun hp=>?_))))))))
 dsimp only[aD]at hp
 unfold c9 at hp
 refine⟨Nat.le_of_ble_eq_true rfl,L0,ah _,?_⟩
 ·unfold ae Tryz.f4
  try unfold dE
  simp only[go_sem,Nat.reduceBEq,Nat.reduceLeDiff,Nat.reduceLT,decide_true,Nat.reduceAdd,Nat.reduceSub,Nat.reduceMul,Int.reduceLE,Int.reduceLT,Int.reduceToNat,Int.reduceNeg,reduceCtorEq]
  all_goals exact cl
end Go.Sx
end
section
namespace Go.Sx
open Go.Proofs
theorem zM (d:District)(c:List Claim)(l:List Deed)(fr to k:Int):c9 d c l fr to k∧dE d c l fr to k=true:=by
 unfold c9 dE
 rw[PU,Hj d c]
 refine⟨⟨Kb,fun _=>⟨fun _=>ye _ _,fun _=>Hi _ _,fun _ _=>⟨(yb d l fr to k).1,fun _=>ye _ _⟩⟩⟩,?_⟩
 simp only[bne_self_eq_false,Bool.and_false,Bool.not_true,cond_false]
 cases nX d l fr to with
 |false=>rfl
 |true=>
  simp only[Bool.not_true,cond_false]
  by_cases h:(dM d l fr to k).2=0
  ·rw[Ka h];simp
  ·simp[h]
theorem MP (d:District)(c:List Claim)(l:List Deed)(fr to k:Int)(_: -9223372036854775808≤fr∧fr≤9223372036854775807)(_: -9223372036854775808≤to∧to≤9223372036854775807)(_: -9223372036854775808≤k∧k≤9223372036854775807):c9 d c l fr to k:=(zM d c l fr to k).1
theorem MQ (d:District)(c:List Claim)(l:List Deed)(fr to k:Int)(_: -9223372036854775808≤fr∧fr≤9223372036854775807)(_: -9223372036854775808≤to∧to≤9223372036854775807)(_: -9223372036854775808≤k∧k≤9223372036854775807):dE d c l fr to k=true:=(zM d c l fr to k).2
end Go.Sx
end
section
namespace Go.Sx
open Go.RowKit Go.Deep
section
variable {F:Nat→Prop}{own:Own}{w:World}
def RC (F:Nat→Prop)(own:Own)(w:World)(ks:List Kd)(cs:List Value):Prop:=
 ∃ l:List SV,nA ks l=true∧l.length=cs.length∧∀ (j:Nat) (s:SV) (v:Value),l[j]? =some s→cs[j]? =some v→Rel F own w s v
theorem C5:∀ {a b:List Kd} {l m:List SV},nA a l=true→nA b m=true→nA (a++b) (l++m)=true
 | [],b,l,m,h1,h2=>by rw[nJ h1];exact h2
 |k::a,b,l,m,h1,h2=>by
  obtain⟨x,r,rfl,e1,e2⟩:=j_ h1
  simp only[List.cons_append,nA,e1,C5 e2 h2,Bool.and_self]
theorem RC.nil:RC F own w [] []:=⟨[],rfl,rfl,fun j s v h=>by cases h⟩
theorem RC.app {a b:List Kd}{c d:List Value}(h1:RC F own w a c)(h2:RC F own w b d):RC F own w (a++b) (c++d):=by
 obtain⟨l,f1,n1,r1⟩:=h1
 obtain⟨m,f2,n2,r2⟩:=h2
 refine⟨l++m,C5 f1 f2,by simp[n1,n2],fun j s v hs hv=>?_⟩
 by_cases hj:j<l.length
 ·rw[List.getElem?_append_left hj]at hs
  rw[List.getElem?_append_left (by omega)]at hv
  exact r1 j s v hs hv
 ·rw[List.getElem?_append_right (by omega)]at hs
  rw[List.getElem?_append_right (by omega),←n1]at hv
  exact r2 _ s v hs hv
theorem RC.one {k:Kd}{s:SV}{v:Value}(h1:fit k s=true)(h2:Rel F own w s v):RC F own w [k] [v]:=
 ⟨[s],by simp[nA,h1],rfl,fun j s' v' hs hv=>by
  cases j with
  |zero=>simp only[List.getElem?_cons_zero,Option.some.injEq]at hs hv;subst hs;subst hv;exact h2
  |succ j=>simp at hs⟩
end
def PV:Kd→Kd→Bool
 | .s,.s=>true
 | .b,.b=>true
 | .n a,.n b=>decide (a=b)
 | .r a,.r b=>decide (a=b)
 | .m a c,.m b d=>decide (a=b)&&decide (c=d)
 |_,_=>false
theorem MR:∀ {a b:Kd},PV a b=true→a=b:=by
 intro a b h
 cases a <;>cases b <;>simp_all [PV]
def Kc:List Kd→List Kd→Bool
 | [],[] =>true
 |a::l,b::m=>PV a b&&Kc l m
 |_,_=>false
theorem FW:∀ {a b:List Kd},Kc a b=true→a=b
 | [],[],_=>rfl
 |a::l,b::m,h=>by
  simp only[Kc,Bool.and_eq_true]at h
  rw[MR h.1,FW h.2]
def yf (P:Program)(g:TypeId→Option (List Kd)):List Field→Nat→Nat→Option (List Kd)
 | [],off,tot=>bif Nat.beq off tot then some []else none
 |f::r,off,tot=>match g f.type with
  |some a=>bif Nat.beq f.offset off&&Nat.beq a.length (P.cellsOf f.type)then(yf P g r (off+a.length) tot).map (a++ ·)else none
  |none=>none
def EA (a:List Kd):Nat→List Kd
 |0=>[]
 |n+1=>a++EA a n
def yg (P:Program):Nat→TypeId→Option (List Kd)
 |0,_=>none
 |n+1,t=>match P.underlying t with
  |some .bool=>some [.b]
  |some (.int k) =>some [.n k]
  |some .string=>some [.s]
  |some (.slice e) =>match Bh P e,yg P n e with
   |some k,some ks=>bif Kc ks (cP k)&&Nat.beq (P.cellsOf e) (aa k)&&Nat.ble 1 (aa k)then some [.r k]else none
   |_,_=>none
  |some (.struct fs) =>yf P (yg P n) fs.toList 0 (P.cellsOf t)
  |some (.array m e) =>match yg P n e with
   |some a=>bif Nat.beq a.length (P.cellsOf e)&&Nat.beq (P.cellsOf t) (m*a.length)then some (EA a m)else none
   |none=>none
  |_=>none
section
variable {H:Type}{enc:TypeId×Value→H}{P:Program}{F:Nat→Prop}{own:Own}{w:World}{base:Nat}{spare:Nat→Bool}{held:Bool}{S:DataW H→Prop}
theorem FX {g:TypeId→Option (List Kd)}(hg:∀ t ks,g t=some ks→∀ (fuel:Nat) (cs:List Value) (x:DataW H×List MemPlace),DataW.trod enc P w base spare held fuel t cs=some x→S x.1→RC F own w ks cs)
  (fuel:Nat) (cs:List Value):∀ (fs:List Field) (off:Nat) (ks:List Kd),yf P g fs off cs.length=some ks→(∀ f∈fs,∃ x,DataW.trod enc P w base spare held fuel f.type ((cs.drop f.offset).take (P.cellsOf f.type))=some x∧S x.1)→RC F own w ks (cs.drop off)
 | [],off,ks,h,_=>by
  unfold yf at h
  cases hb:Nat.beq off cs.length with
  |false=>rw[hb]at h;cases h
  |true=>
   rw[hb]at h
   have:off=cs.length:=Nat.eq_of_beq_eq_true hb
   subst this
   cases h
   rw[List.drop_length]
   exact RC.nil
 |f::r,off,ks,h,hx=>by
  unfold yf at h
  cases ha:g f.type with
  |none=>rw[ha]at h;cases h
  |some a=>
   rw[ha]at h
   dsimp only at h
   cases hb:Nat.beq f.offset off&&Nat.beq a.length (P.cellsOf f.type)with
   |false=>rw[hb]at h;cases h
   |true=>
    rw[hb]at h
    simp only[cond_true,Option.map_eq_some_iff]at h
    obtain⟨ks2,h2,rfl⟩:=h
    rw[Bool.and_eq_true]at hb
    have e1:f.offset=off:=Nat.eq_of_beq_eq_true hb.1
    have e2:a.length=P.cellsOf f.type:=Nat.eq_of_beq_eq_true hb.2
    obtain⟨x,hx1,hs1⟩:=hx f (by simp)
    have h3:=hg _ _ ha _ _ _ hx1 hs1
    have h4:=FX hg fuel cs r (off+a.length) ks2 h2 fun f hf=>hx f (by simp[hf])
    have:=h3.app h4
    rw[e1,←e2]at this
    rwa[←List.drop_drop,List.take_append_drop]at this
theorem FY {e:TypeId}{a:List Kd}(ha:∀ (fuel:Nat) (cs:List Value) (x:DataW H×List MemPlace),DataW.trod enc P w base spare held fuel e cs=some x→S x.1→RC F own w a cs)
  (fuel:Nat):∀ (m:Nat) (cs:List Value),cs.length=m*a.length→(∀ i,i<m→∃ x,DataW.trod enc P w base spare held fuel e ((cs.drop (i*a.length)).take a.length)=some x∧S x.1)→RC F own w (EA a m) cs
 |0,cs,h,_=>by
  have:cs=[]:=by simpa using h
  subst this
  exact RC.nil
 |m+1,cs,h,hx=>by
  obtain⟨x,hx1,hs1⟩:=hx 0 (by omega)
  rw[Nat.zero_mul,List.drop_zero]at hx1
  have h3:=ha _ _ _ hx1 hs1
  have h4:=FY ha fuel m (cs.drop a.length) (by rw[List.length_drop,h,Nat.succ_mul];omega) fun i hi=>by
   obtain⟨x,hx2,hs2⟩:=hx (i+1) (by omega)
   refine⟨x,?_,hs2⟩
   rw[List.drop_drop]
   rwa[Nat.succ_mul,Nat.add_comm]at hx2
  have:=h3.app h4
  rwa[List.take_append_drop]at this
structure Small (S:DataW H→Prop):Prop where
 agg:∀ l,S (.agg l)→∀ d∈l,S d
 slice:∀ l m,S (.slice l m)→l.length≤bp∧∀ d∈l,S d
theorem kx (hS:Small S)(hown:∀ b,¬bS F own b):∀ (n:Nat) (t:TypeId) (ks:List Kd),yg P n t=some ks→∀ (fuel:Nat) (cs:List Value) (x:DataW H×List MemPlace),DataW.trod enc P w base spare held fuel t cs=some x→S x.1→RC F own w ks cs
 |0,_,_,h,_,_,_,_,_=>by cases h
 |n+1,t,ks,h,fuel,cs,x,hx,hs=>by
  unfold yg at h
  split at h
  ·rename_i ht
   cases h
   obtain⟨b,rfl,rfl⟩:=DataW.trod_bool ht hx
   exact RC.one (s:=.v (.bool b)) rfl (.v _)
  ·rename_i k ht
   cases h
   obtain⟨m,rfl,rfl,_⟩:=DataW.trod_int ht hx
   exact RC.one (s:=.v (.int k m)) (by simp[fit]) (.v _)
  ·rename_i ht
   cases h
   obtain⟨b,rfl,rfl,_⟩:=DataW.trod_string ht hx
   exact RC.one (s:=.v (.string b)) rfl (.v _)
  ·rename_i e ht
   split at h
   ·rename_i k ks2 hk hks
    cases hb:Kc ks2 (cP k)&&Nat.beq (P.cellsOf e) (aa k)&&Nat.ble 1 (aa k)with
    |false=>rw[hb]at h;cases h
    |true=>
     rw[hb]at h
     cases h
     simp only[Bool.and_eq_true]at hb
     have e1:=FW hb.1.1
     have e2:P.cellsOf e=aa k:=Nat.eq_of_beq_eq_true hb.1.2
     have e3:1≤aa k:=Nat.le_of_ble_eq_true hb.2
     subst e1
     rcases open_slice ht hx with⟨rfl,rfl⟩ | ⟨a,len,cap,m,f2,D,Pl,rfl,hb1,hl,hm,hmm,rfl,hel⟩
     ·exact RC.one (s:=.rs k []) (by simp[fit]) .rs0
     ·have hlm:len≤m:=by subst hmm;split <;>omega
      obtain⟨hs1,hs2⟩:=hS.slice _ _ hs
      simp only[List.length_map,List.length_range]at hs1
      have helt:∀ i,i<len→∃ cs',cs'.length=aa k∧(∀ j v,cs'[j]? =some v→w.cell? ((a.add (i*aa k)).add j)=some v)∧RC F own w (cP k) cs':=fun i hi=>by
       obtain⟨cs',h1,h2⟩:=hel i (by omega)
       have h3:=kx hS hown n e (cP k) hks f2 cs' _ h2 (hs2 _ (List.mem_map_of_mem (List.mem_range.2 hi)))
       unfold World.cells? at h1
       split at h1
       ·refine⟨cs',by rw[mapM_some_length h1,List.length_range,e2],fun j v hj=>?_,h3⟩
        have hlt:j<P.cellsOf e:=by
         have:=(List.getElem?_eq_some_iff.1 hj).1
         rwa[mapM_some_length h1,List.length_range]at this
        have:=mapM_some_get h1 j j (by simp[hlt])
        rw[e2]at this
        rw[this,hj]
       ·cases h1
      by_cases h0:len=0
      ·subst h0
       exact RC.one (s:=.rs k []) (by simp[fit]) .rs0
      ·have hsp:a.spot=none:=by
        obtain⟨cs',h1,h2,_⟩:=helt 0 (by omega)
        have:=h2 0 (cs'[0]'(by omega)) (by rw[List.getElem?_eq_getElem])
        rw[Nat.zero_mul]at this
        simp only[Addr.add,if_true]at this
        unfold World.cell? at this
        split at this
        ·cases hsp:a.spot with
         |none=>rfl
         |some q=>rw[hsp]at this;simp at this
        ·cases this
       obtain⟨ab,ao,asp⟩:=a
       dsimp only at hsp
       subst hsp
       haveI:Inhabited k.T:=⟨cV k⟩
       obtain⟨X,hX⟩:=choose_lt (p:=fun i (x:k.T) =>∀ (j:Nat) (s:SV),(cellsOf k x)[j]? =some s→∃ v,w.cell? ⟨ab,ao+i*aa k+j,none⟩=some v∧Rel F own w s v) (n:=len) fun i hi=>by
        obtain⟨cs',h1,h2,l,h3,h4,h5⟩:=helt i hi
        refine⟨mkE k l,fun j s hj=>?_⟩
        rw[kV (k:=k) (l:=l) (x:=mkE k l) (by unfold mn;rw[h3];rfl)]at hj
        have hlt:j<cs'.length:=by
         have:=(List.getElem?_eq_some_iff.1 hj).1
         omega
        refine⟨cs'[j],?_,h5 j s _ hj (List.getElem?_eq_getElem hlt)⟩
        have:=h2 j cs'[j] (List.getElem?_eq_getElem hlt)
        have hadd:∀ p q,((⟨ab,ao,none⟩:Addr).add p).add q=⟨ab,ao+p+q,none⟩:=fun p q=>by
         unfold Addr.add
         by_cases hp:p=0 <;>by_cases hq:q=0 <;>simp[hp,hq]
        rwa[hadd]at this
       have hL:((List.range len).map X).length=len:=by simp
       refine RC.one (s:=.rs k ((List.range len).map X)) (by simp[fit]) ?_
       have hget:∀ (i:Nat) (x:k.T),((List.range len).map X)[i]? =some x→i<len∧x=X i:=fun i x hi=>by
        obtain⟨h1,h2⟩:=List.getElem?_eq_some_iff.1 hi
        rw[hL]at h1
        simp only[List.getElem_map,List.getElem_range]at h2
        subst h2
        exact⟨h1,rfl⟩
       have:=Rel.rs (F:=F) (own:=own) (w:=w) (k:=k) (l:=(List.range len).map X) (b:=ab) (o:=ao) (cap:=cap) (fun i j=>(w.cell? ⟨ab,ao+i*aa k+j,none⟩).getD undef) (by rw[hL];exact hl) (by rw[hL];exact hs1)
        (fun i x hi j s hj=>by
         obtain⟨h1,rfl⟩:=hget i x hi
         obtain⟨v,h2,_⟩:=hX i h1 j s hj
         exact⟨hown _,by rw[h2];rfl⟩)
        (fun i x hi j s hj=>by
         obtain⟨h1,rfl⟩:=hget i x hi
         obtain⟨v,h2,h3⟩:=hX i h1 j s hj
         rw[h2];exact h3)
       rwa[hL]at this
   ·cases h
  ·rename_i fs ht
   obtain⟨xs,m,rfl,rfl,hl,hlen,hf⟩:=DataW.trod_struct ht hx
   rw[←hl]at h
   have:=FX (kx hS hown n) m cs fs.toList 0 ks h fun f hfm=>by
    obtain⟨i,hi,rfl⟩:=List.getElem_of_mem hfm
    have hi':i<fs.size:=by simpa using hi
    have h1:=hf i fs[i] (by simp[hi'])
    rw[List.getElem?_eq_getElem (by omega)]at h1
    refine⟨_,by simpa using h1,hS.agg _ hs _ (List.mem_map_of_mem (List.getElem_mem _))⟩
   simpa using this
  ·rename_i m e ht
   split at h
   ·rename_i a ha
    cases hb:Nat.beq a.length (P.cellsOf e)&&Nat.beq (P.cellsOf t) (m*a.length)with
    |false=>rw[hb]at h;cases h
    |true=>
     rw[hb]at h
     cases h
     rw[Bool.and_eq_true]at hb
     have e1:a.length=P.cellsOf e:=Nat.eq_of_beq_eq_true hb.1
     have e2:P.cellsOf t=m*a.length:=Nat.eq_of_beq_eq_true hb.2
     obtain⟨xs,f2,rfl,rfl,hl,hlen,hf⟩:=DataW.trod_array ht hx
     refine FY (kx hS hown n e a ha) f2 m cs (by rw[hl,e2]) fun i hi=>?_
     have h1:=hf i hi
     rw[List.getElem?_eq_getElem (by omega),←e1]at h1
     exact⟨_,h1,hS.agg _ hs _ (List.mem_map_of_mem (List.getElem_mem _))⟩
   ·cases h
  ·cases h
end
end Go.Sx
end
section
namespace Go.Sx
open Go.Proofs
section
variable {F:Nat→Prop}{own:Own}{w:World}
theorem MS {k:Tag}{cs:Array Value}(h:RC F own w (cP k) cs.toList):∃ x:k.T,Rel F own w (.agg (cellsOf k x)) (.agg cs):=by
 obtain⟨l,h3,h4,h5⟩:=h
 refine⟨mkE k l,?_⟩
 rw[kV (k:=k) (l:=l) (x:=mkE k l) (by unfold mn;rw[h3];rfl)]
 refine .agg (by simpa using h4.symm) fun j s hj=>?_
 have hlt:j<cs.size:=by
  have:=(List.getElem?_eq_some_iff.1 hj).1
  simpa[h4]using this
 exact h5 j s _ hj (by simp[Array.getD,hlt])
theorem Ke {k:Tag}{v:Value}(h:RC F own w [.r k] [v]):∃ l:List k.T,Rel F own w (.rs k l) v:=by
 obtain⟨l,h3,h4,h5⟩:=h
 obtain⟨x,r,rfl,h6,h7⟩:=j_ h3
 have h8:=h5 0 x v rfl rfl
 cases x with
 |rs k' l'=>
  have:k=k':=by
   simp only[fit]at h6
   exact nH h6
  subst this
  exact⟨l',h8⟩
 |_=>simp[fit]at h6
end
end Go.Sx
end
section
namespace Go.Sx
open Go.RowKit Go.WideShapes Go.ChangeShapes
section
variable {H:Type}{enc:TypeId×Value→H}{P:Program}
def MT (P:Program):List TypeId→Bool
 | [] =>true
 |t::r=>P.readableRec t&&Nat.blt t P.types.size&&MT P r
theorem zN (hl:laidOutB P=true){W W':World}(hg:Below W.heap.size W W'):∀ {ts:List TypeId} {vs:List Value} {ds:List (DataW H)} {ps:List MemPlace},MT P ts=true→
  DataW.TrodAll enc P W 0 (fun _=>true) true ts vs ds ps→(∀ x∈ps,x.block<W.heap.size)→DataW.TrodAll enc P W' 0 (fun b=>decide (b<W.heap.size)) true ts vs ds ps
 | [],vs,ds,ps,_,h,_=>by
  obtain⟨rfl,rfl,rfl⟩:=trodAll_nil h
  exact trodAll_mk0
 |t::ts,vs,ds,ps,hk,h,hlt=>by
  unfold MT at hk
  rw[Bool.and_eq_true,Bool.and_eq_true]at hk
  obtain⟨v,vs',d,ds',p,q,rfl,rfl,rfl,h1,h2⟩:=trodAll_cons h
  refine trodAll_cons_mk (WideElems.Trod_stays hl hk.1.1 (by simpa[Nat.blt_eq]using hk.1.2) h1 (fun x hx=>hg.same (hlt x (List.mem_append_left _ hx))) (fun x hx=>by simpa using hlt x (List.mem_append_left _ hx))) ?_
  exact zN hl hg hk.2 h2 fun x hx=>hlt x (List.mem_append_right _ hx)
theorem Kf (hl:laidOutB P=true){f:Func}{s:ChangeSpec}{W W':World}{args:Array Value}{ds gs:List (DataW H)}{before:List MemPlace}{t:TypeId}
  (hk:MT P f.params.toList=true) (hW:DataW.Whole enc P f.params.toList s.vars false W args.toList ds gs before)
  (hr:f.resultTypes= #[t]) (ht:P.underlying t=some .bool) (hv:s.vars=[]) (h1:(s.fn H (ds++gs)).results=[.lit (.bool true)]) (h2:(s.fn H (ds++gs)).args=ds) (h3:(s.fn H (ds++gs)).vars=[])
  (hg:Below W.heap.size W W'):s.post enc P f false true false false W args (.bool true) W':=by
 have hlt:=hW.lt
 have hW0:=hW
 obtain⟨p,q,hA,hV,rfl,_,_⟩:=hW
 rw[hv]at hV
 obtain⟨rfl,rfl⟩:=trodVars_none hV
 refine⟨ds,[],p++[],[],p,[],hW0,?_,?_,?_,?_,fun h=>by cases h⟩
 ·rw[h1,hr]
  exact trodAll_cons_mk (shut_bool ht _) trodAll_mk0
 ·rw[h2]
  exact zN hl hg hk hA fun x hx=>hlt x (by simpa using hx)
 ·rw[h3,hv]
  rfl
 ·exact World.keptBut_mono (fun x hx=>⟨hx,.inr (.inl (by simpa using hx))⟩) (hg.frame (· ∈p++[]))
end
end Go.Sx
end
section
namespace Go.Proofs.YtgdkdhdlfdcefaaGreat.bulks
theorem one_le {H:Type}(d:DataW H):1≤Rows.uptoBulk d:=by
 cases d with
 |lit l=>cases l <;>simp[Rows.uptoBulk]
 |nil=>simp[Rows.uptoBulk]
 |ptr d=>simp[Rows.uptoBulk]
 |slice lO spare=>simp[Rows.uptoBulk]
 |agg parts=>simp[Rows.uptoBulk]
 |iface t d=>simp[Rows.uptoBulk]
 |map entries=>simp[Rows.uptoBulk]
 |held h=>simp[Rows.uptoBulk]
theorem part_le {H:Type}{d:DataW H}{l:List (DataW H)}(h:d∈l):Rows.uptoBulk d≤Rows.uptoBulkAll l:=by
 induction l with
 |nil=>cases h
 |cons x r ih=>
  simp only[Rows.uptoBulkAll]
  cases List.mem_cons.1 h with
  |inl e=>subst e;omega
  |inr e=>have:=ih e;omega
theorem append {H:Type}(l r:List (DataW H)):Rows.uptoBulkAll (l++r)=Rows.uptoBulkAll l+Rows.uptoBulkAll r:=by
 induction l with
 |nil=>simp[Rows.uptoBulkAll]
 |cons x l ih=>simp only[List.cons_append,Rows.uptoBulkAll,ih];omega
theorem length_le {H:Type}(l:List (DataW H)):l.length≤Rows.uptoBulkAll l:=by
 induction l with
 |nil=>simp[Rows.uptoBulkAll]
 |cons x r ih=>have:=one_le x;simp only[Rows.uptoBulkAll,List.length_cons];omega
theorem slice_le {H:Type}(lO spare:List (DataW H)):lO.length+spare.length+1≤Rows.uptoBulk (.slice lO spare):=by
 have h1:=length_le lO
 have h2:=length_le spare
 simp only[Rows.uptoBulk]
 omega
theorem slice_elems {H:Type}(lO spare:List (DataW H)):Rows.uptoBulkAll lO+1≤Rows.uptoBulk (.slice lO spare):=by
 simp only[Rows.uptoBulk]
 omega
theorem bound {H:Type}{l:List (DataW H)}(hk:Rows.uptoSmall H l=true):Rows.uptoBulkAll l≤1048576:=by
 simpa[Rows.uptoSmall]using hk
theorem room {n b:Nat}(hn:n≤2097152)(hb:b≤4096):(n+n / 4+192)*b≤281474976710656:=by
 have h:(n+n / 4+192)*b≤2621632*4096:=Nat.mul_le_mul (by omega) hb
 omega
end Go.Proofs.YtgdkdhdlfdcefaaGreat.bulks
end
section
namespace Go.Proofs.YtgdkdhdlfdcefaaGreat.claimsCheckSpec
open Go.ChangeShapes Go.WideShapes Go.ChangeAt Go.RowKit Go.Sx
set_option linter.unusedVariables false
theorem con_eq (x0:Tag.district.T)(x1:List Tag.claim.T)(x2:List Tag.deed.T)(x3:Int)(x4:Int)(x5:Int):fY [.agg (cellsOf .district x0),.rs .claim x1,.rs .deed x2,.v (.int .i64 x3),.v (.int .i64 x4),.v (.int .i64 x5)]=some (.det (c9 x0 x1 x2 x3 x4 x5) (.v (.bool (dE x0 x1 x2 x3 x4 x5)))):=by
 unfold fY
 simp only[go_sem,Nat.reduceBEq]
theorem call_true {W:World}{cs0:Array Value}(h0:RC (fun _=>False) cg W (cP .district) cs0.toList){v1:Value}(h1:RC (fun _=>False) cg W [.r .claim] [v1]){v2:Value}(h2:RC (fun _=>False) cg W [.r .deed] [v2])(x3:Int)(h3:(-9223372036854775808)≤x3∧x3≤9223372036854775807)(x4:Int)(h4:(-9223372036854775808)≤x4∧x4≤9223372036854775807)(x5:Int)(h5:(-9223372036854775808)≤x5∧x5≤9223372036854775807):
  Calls Tryz.prog 4 #[.agg cs0,v1,v2,.int .i64 x3,.int .i64 x4,.int .i64 x5] W (fun e W'=>e=.returned (.bool true)∧Below W.heap.size W W'):=by
 obtain⟨x0,r0⟩:=MS h0
 obtain⟨x1,r1⟩:=Ke h1
 obtain⟨x2,r2⟩:=Ke h2
 refine(nz.calls _ _ (con_eq x0 x1 x2 x3 x4 x5) (MP x0 x1 x2 x3 x4 x5 h3 h4 h5) (fun _=>False) W _ (fun b h=>h.elim) ⟨rfl,fun j s hj=>?_⟩).mono fun e W' he=>?_
 ·match j,hj with
  |0,hj=>cases hj;exact r0
  |1,hj=>cases hj;exact r1
  |2,hj=>cases hj;exact r2
  |3,hj=>cases hj;exact .v _
  |4,hj=>cases hj;exact .v _
  |5,hj=>cases hj;exact .v _
 ·rcases he with⟨s,u,own',hs,rfl,hh,hb⟩ | ⟨x,hx,_⟩
  ·simp only[cX]at hs
   subst hs
   rw[MQ x0 x1 x2 x3 x4 x5 h3 h4 h5]at hh
   have:=hh.val
   simp only[pu]at this
   rw[bR this]
   exact⟨rfl,hb⟩
  ·exact hx.elim
theorem own:ownKnob Tryz.prog.godebug=none:=by kernel_rfl
theorem small (H:Type):Small (fun d:DataW H=>Rows.uptoBulk d≤1048576) where
 agg l h d hd:=by
  have h1:=bulks.part_le hd
  simp only[Rows.uptoBulk]at h
  omega
 slice l m h:=by
  have h1:=bulks.slice_le l m
  have h2:=bulks.slice_elems l m
  refine⟨by unfold bp;omega,fun d hd=>?_⟩
  have:=bulks.part_le hd
  omega
theorem laid:laidOutB Tryz.prog=true:=by kernel_rfl
set_option maxRecDepth 100000 in
theorem contract (H:Type)(enc:TypeId×Value→H)(W:World)(base:Nat)(args:Array Value)(ds gs:List (DataW H))(before:List MemPlace)
  (hval:∀ (j:Nat) t v,Tryz.f4.params[j]? =some t→args[j]? =some v→Value.okWide Tryz.prog W .any base t v)
  (hW:DataW.Whole enc Tryz.prog Tryz.f4.params.toList Rows.claimsCheckSpecSpec.vars false W args.toList ds gs before) (hk:Rows.uptoSmall H (ds++gs)=true):
  Calls Tryz.prog 4 args W fun e W'=>∃ v,e=.returned v∧Rows.claimsCheckSpecSpec.post enc Tryz.prog Tryz.f4 false true false false W args v W':=by
 have hW':=hW
 obtain⟨p,q,hA0,hV,rfl,hfz,hnd⟩:=hW
 have hA:DataW.TrodAll enc Tryz.prog W 0 (fun _=>true) true Tryz.f4.params.toList args.toList ds p:=hA0
 rw[Tryz.params4]at hA hval
 obtain⟨v0,vs0,d0,ds0,p0,q0,hargs,rfl,rfl,h0,r0⟩:=trodAll_cons hA
 obtain⟨v1,vs1,d1,ds1,p1,q1,rfl,rfl,rfl,h1,r1⟩:=trodAll_cons r0
 obtain⟨v2,vs2,d2,ds2,p2,q2,rfl,rfl,rfl,h2,r2⟩:=trodAll_cons r1
 obtain⟨v3,vs3,d3,ds3,p3,q3,rfl,rfl,rfl,h3,r3⟩:=trodAll_cons r2
 obtain⟨v4,vs4,d4,ds4,p4,q4,rfl,rfl,rfl,h4,r4⟩:=trodAll_cons r3
 obtain⟨v5,vs5,d5,ds5,p5,q5,rfl,rfl,rfl,h5,r5⟩:=trodAll_cons r4
 obtain⟨rfl,rfl,rfl⟩:=trodAll_nil r5
 obtain rfl:args= #[v0,v1,v2,v3,v4,v5]:=by cases args;simp_all
 obtain⟨rfl,rfl⟩:=trodVars_none hV
 have hb:=bulks.bound hk
 simp only[Rows.uptoBulkAll,List.append_nil,List.cons_append,List.nil_append]at hb
 have ho:∀ b,¬bS (fun _=>False) cg b:=fun b h=>by
  rcases h with h| ⟨_,_,h,_⟩
  ·exact h
  ·cases h
 have s0:∃ cs,v0=.agg cs:=by
  have:=hval 0 31 v0 rfl rfl
  simp only[Value.okWide,Tryz.underlying31]at this
  exact⟨_,this.choose_spec.1⟩
 obtain⟨cs0,rfl⟩:=s0
 obtain⟨a1,l1,c1,rfl⟩:=okWide_slice Tryz.underlying35 (hval 1 35 v1 rfl rfl)
 obtain⟨a2,l2,c2,rfl⟩:=okWide_slice Tryz.underlying32 (hval 2 32 v2 rfl rfl)
 obtain⟨a3,rfl,rfl,rfl,w3⟩:=open_int Tryz.underlying3 (hval 3 3 v3 rfl rfl) h3
 have R3:(-9223372036854775808)≤a3∧a3≤9223372036854775807:=by simpa[Lit.wf,IntKind.min,IntKind.max,IntKind.signed,IntKind.bits]using w3
 obtain⟨a4,rfl,rfl,rfl,w4⟩:=open_int Tryz.underlying3 (hval 4 3 v4 rfl rfl) h4
 have R4:(-9223372036854775808)≤a4∧a4≤9223372036854775807:=by simpa[Lit.wf,IntKind.min,IntKind.max,IntKind.signed,IntKind.bits]using w4
 obtain⟨a5,rfl,rfl,rfl,w5⟩:=open_int Tryz.underlying3 (hval 5 3 v5 rfl rfl) h5
 have R5:(-9223372036854775808)≤a5∧a5≤9223372036854775807:=by simpa[Lit.wf,IntKind.min,IntKind.max,IntKind.signed,IntKind.bits]using w5
 have R0:RC (fun _=>False) cg W (cP .district) cs0.toList:=by
  obtain⟨f,hf⟩:=h0
  exact kx (n:=6) (t:=31) (small H) ho _ (by kernel_rfl) f _ _ hf (by show Rows.uptoBulk d0≤_;omega)
 have R1:RC (fun _=>False) cg W [.r .claim] [.slice a1 l1 c1]:=by
  obtain⟨f,hf⟩:=h1
  exact kx (n:=6) (t:=35) (small H) ho _ (by kernel_rfl) f _ _ hf (by show Rows.uptoBulk d1≤_;omega)
 have R2:RC (fun _=>False) cg W [.r .deed] [.slice a2 l2 c2]:=by
  obtain⟨f,hf⟩:=h2
  exact kx (n:=6) (t:=32) (small H) ho _ (by kernel_rfl) f _ _ hf (by show Rows.uptoBulk d2≤_;omega)
 refine(call_true R0 R1 R2 _ R3 _ R4 _ R5).mono fun e W' ⟨he,hg⟩ =>?_
 subst he
 exact⟨_,rfl,Kf laid (by kernel_rfl) hW' (by kernel_rfl) Tryz.underlying4 rfl rfl rfl rfl hg⟩
def zeroV:Kd→Value
 | .n k=>.int k 0
 | .b=>.bool false
 | .s=>.string (ByteArray.mk #[])
 | .r _=>.slice none 0 0
 | .m _ _=>.map none
 | .f=>.nilFunc
def wit:Array Value:= #[.agg ((cP .district).map zeroV).toArray,.slice none 0 0,.slice none 0 0,.int .i64 0,.int .i64 0,.int .i64 0]
set_option maxRecDepth 100000 in
theorem lifted (os:Os)(started:os.Started)(H:Type)(enc:TypeId×Value→H)(F:Stop.Interp):
  ReturnsInHanded {} Tryz.checked os 4 .any ((Rows.OpenSpec.upto Rows.claimsCheckSpecSpec).pre6 enc Tryz.prog Tryz.f4 Rows.claimsCheckSpecUptoRow.domain false) (((Rows.OpenSpec.upto Rows.claimsCheckSpecSpec).at F).post enc Tryz.prog Tryz.f4 false true false false):=by
 refine returnsInHanded_of_cond (C:=Tryz.checked) (s:=Rows.OpenSpec.upto Rows.claimsCheckSpecSpec) (k:=Rows.uptoSmall) rfl own started (by kernel_rfl) Tryz.func4
  (OpenSpec.witness (enc:=enc) (C:=Tryz.checked) (s:=Rows.OpenSpec.upto Rows.claimsCheckSpecSpec) (k:=Rows.uptoSmall) rfl false ⟨#[],wit,[]⟩ 8 (by kernel_rfl) (by kernel_rfl) (by kernel_rfl)
   (x:=(DataW.whole enc Tryz.prog (World.plainHolding Tryz.prog os ⟨#[],wit,[]⟩).memory Tryz.f4.params.toList Rows.claimsCheckSpecSpec.vars false wit.toList 8).getD ([],[],[])) (by kernel_rfl) rfl (by kernel_rfl)) ?_
 intro W base args ds gs before hval hW _ hk _
 exact contract H enc W base args ds gs before hval hW hk
theorem over:Rows.claimsCheckSpecUptoRow.holds Tryz.pinned (Rows.OpenSpec.upto Rows.claimsCheckSpecSpec):=
 OpenClaim.holds_of_cond 4 Tryz.f4 rfl rfl rfl rfl rfl rfl rfl ⟨rfl,rfl,rfl,rfl,rfl⟩ rfl rfl rfl rfl rfl (by kernel_rfl) Tryz.func4 (by kernel_rfl)
  (of_decide_eq_true (by kernel_rfl)) (by unfold Func.isWrapper;first|(rw[if_pos (by decide+kernel)];kernel_rfl) |(rw[if_neg (by decide+kernel)];exact⟨rfl,rfl⟩))
  (fun os started H enc _ F=>lifted os started H enc F)
theorem proved:Rows.ClaimsCheckSpecUptoSaid:=over
end Go.Proofs.YtgdkdhdlfdcefaaGreat.claimsCheckSpec
end
