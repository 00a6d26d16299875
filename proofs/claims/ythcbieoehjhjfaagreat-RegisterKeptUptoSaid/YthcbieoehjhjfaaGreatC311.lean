/- Part of the proof that the law RegisterKept returns true and leaves its arguments as they were, for all arguments of bulk at most 1048576 (the Upto form). -/
import Derived.Test.YthcbieoehjhjfaaGreatC310
import Derived.Shelf.SlSortCmp.NoneTotal
import Derived.Ground.SlsfProg
import Derived.Test.YthcbieoehjhjfaaGreatProg
import Derived.Test.YthcbieoehjhjfaaGreatC308
import Derived.Test.YthcbieoehjhjfaaGreatC307
import Derived.Test.YthcbieoehjhjfaaGreatC306
import Derived.Deep.Slices
import Derived.OpenShut
import Derived.ChangeSame
import Derived.WideKeyArgs
import Derived.Below
import Derived.Test.YthcbieoehjhjfaaGreatRows
import Derived.WalkKit
import Derived.ProofKit
import Derived.JoinedCond
import Derived.Carry
set_option linter.all false
set_option maxHeartbeats 4000000
section
namespace Go.Sx
open Go.Proofs
def iQ (x:Deed)(B:Int→Int→Int):Int→Int→Int:=fun r=>if r=x.right then wU x (B r)else B r
def rX (ds:List Deed)(B:Int→Int→Int):Int→Int→Int:=ds.foldl (fun B x=>iQ x B) B
def Cu:List Deed→(Int→Int→Int)→List Int
 | [],_=>[]
 |x::r,B=>(if B x.right x.since=0 then [x.no]else [])++Cu r (iQ x B)
structure MapOk (d:District)(m:BM):Prop where
 nodup:(fG m).Nodup
 good:∀ r,∃ L,L≤1073741824∧Good d.farms.length L (bk m r)
theorem MapOk.le {d:District}{m:BM}(h:MapOk d m)(r f:Int):0≤bk m r f∧bk m r f≤1073741824:=by
 obtain⟨L,h1,h2⟩:=h.good r
 have:=h2.nn f
 by_cases e:bk m r f=0
 ·omega
 ·obtain⟨a,b⟩:=h2.sup f e
  have:=wT h2.nn _ f a b
  have:=h2.tot
  omega
theorem Hs {d:District}{ds:List Deed}{x:Deed}(hx:Fit d x)(hk:x.kind≠4){e:List Int}{m:BM}(hm:MapOk d m)(he:(e.length+1)*8≤iv):
  cT ds x (e,m)∧∃ m',bG ds x (e,m)=.inr (e++(if bk m x.right x.since=0 then [x.no]else []),m')∧MapOk d m'∧bk m'=iQ x (bk m):=by
 obtain⟨r0,r1,r2,s0,s1⟩:=hx.held hk
 have hv:=hm.le x.right x.since
 have ebk:dp .registerTitle .int m (RT x.right x.since)=bk m x.right x.since:=rfl
 have hdel:=re (RT x.right x.since) m hm.nodup
 have hstep:∀ m':BM,(fG m').Nodup→bk m'=iQ x (bk m)→MapOk d m':=fun m' hN hb=>by
  refine⟨hN,fun r=>?_⟩
  obtain⟨L,h1,h2⟩:=hm.good r
  refine⟨L,h1,?_⟩
  rw[hb]
  show Good _ _ (if r=x.right then wU x (bk m r)else bk m r)
  split
  ·exact(yD hx hk h2).1
  ·exact h2
 have hlen:(e++[x.no]).length=e.length+1:=by simp
 unfold cT bG
 simp only[ebk,hlen]
 by_cases hn:bk m x.right x.since=0
 ·have b0:(bk m x.right x.since==0)=true:=by simp[hn]
  rw[b0,if_pos hn]
  refine⟨⟨fun _=>he,(fun h=>by cases h)⟩,m,rfl,hm,?_⟩
  funext r
  unfold iQ
  split
  ·rename_i h;subst h;unfold wU;rw[if_pos hn]
  ·rfl
 ·have b0:(bk m x.right x.since==0)=false:=by simpa using hn
  rw[b0,if_neg hn,List.append_nil]
  simp only[cond_false]
  have edel:=Kl m hm.nodup x.right x.since
  have kdel:(fG (jv .registerTitle .int m (RT x.right x.since))).Nodup:=hdel.1
  have egood:Good d.farms.length (1073741824 - bk m x.right x.since) (bk (jv .registerTitle .int m (RT x.right x.since)) x.right):=by
   obtain⟨L,h1,h2⟩:=hm.good x.right
   rw[edel]
   simp only[if_true]
   exact h2.put s0 s1 (Int.le_refl _) (by have:=h2.tot;omega)
  by_cases k1:x.kind=1
  ·have b1:(x.kind==1)=true:=by simp[k1]
   rw[b1]
   simp only[cond_true]
   obtain⟨a,b,c⟩:=hx.pass k1
   have hto:=egood.le30 (by omega) x.to
   have e2:dp .registerTitle .int (jv .registerTitle .int m (RT x.right x.since)) (RT x.right x.to)=fV (bk m x.right) x.since 0 x.to:=by
    have:=congrFun (congrFun edel x.right) x.to
    simpa[bk]using this
   have hto':0≤fV (bk m x.right) x.since 0 x.to∧fV (bk m x.right) x.since 0 x.to≤2147483648:=by
    rw[edel]at hto;simpa using hto
   refine⟨⟨(fun h=>by cases h),(fun _ h=>by cases h)⟩,_,rfl,?_⟩
   have hb:bk (cS x (bk m x.right x.since) (jv .registerTitle .int m (RT x.right x.since)))=iQ x (bk m):=by
    unfold cS
    rw[e2,bQ (by omega) (by omega),wV,edel]
    funext r
    unfold iQ
    by_cases h:r=x.right
    ·subst h
     simp only[if_true]
     unfold wU
     rw[if_neg hn,if_pos k1]
    ·simp only[if_neg h]
   exact⟨hstep _ (by unfold cS;exact(l5 _ _ _ kdel).1) hb,hb⟩
  ·have b1:(x.kind==1)=false:=by simpa using k1
   rw[b1]
   simp only[cond_false]
   by_cases k2:x.kind=2
   ·have b2:(x.kind==2)=true:=by simp[k2]
    rw[b2]
    simp only[cond_true]
    obtain⟨p1,p2,p3⟩:=Ct (hx.split k2) hv.1 hv.2 kdel (M:=1073741824 - bk m x.right x.since) (by omega) egood
    refine⟨⟨(fun h=>by cases h),fun _ _=>⟨fun _=>p1,(fun h=>by cases h)⟩⟩,_,rfl,?_⟩
    have hb:bk (b_ x (bk m x.right x.since) (jv .registerTitle .int m (RT x.right x.since)))=iQ x (bk m):=by
     rw[p3,edel]
     funext r
     unfold iQ
     by_cases h:r=x.right
     ·subst h
      simp only[if_true]
      unfold wU
      rw[if_neg hn,if_neg k1,if_pos k2]
     ·simp only[if_neg h]
    exact⟨hstep _ p2 hb,hb⟩
   ·have b2:(x.kind==2)=false:=by simpa using k2
    rw[b2]
    simp only[cond_false]
    have k3:x.kind=3:=by rcases hx.kind with h|h|h|h <;>omega
    have b3:(x.kind==3)=true:=by simp[k3]
    rw[b3]
    simp only[cond_true]
    refine⟨⟨(fun h=>by cases h),fun _ _=>⟨(fun h=>by cases h),(fun _ h=>by cases h)⟩⟩,_,rfl,?_⟩
    have hb:bk (jv .registerTitle .int m (RT x.right x.since))=iQ x (bk m):=by
     rw[edel]
     funext r
     unfold iQ
     by_cases h:r=x.right
     ·subst h
      simp only[if_true]
      unfold wU
      rw[if_neg hn,if_neg k1,if_neg k2]
     ·simp only[if_neg h]
    exact⟨hstep _ kdel hb,hb⟩
theorem vB {d:District}(ds:List Deed):∀ (l:List Deed),(∀ x∈l,Fit d x∧x.kind≠4)→∀ (e:List Int) (m:BM),MapOk d m→(e.length+l.length)*8≤iv→
  okL (bG ds) (cT ds) l (e,m)∧∃ m',eP (bG ds) l (e,m)=.inr (e++Cu l (bk m),m')∧MapOk d m'∧bk m'=rX l (bk m)
 | [],_,e,m,hm,_=>⟨trivial,m,by simp[eP,Cu],hm,rfl⟩
 |x::l,h,e,m,hm,hB=>by
  simp only[List.length_cons]at hB
  obtain⟨h1,h2⟩:=h x List.mem_cons_self
  obtain⟨q1,m1,q2,q3,q4⟩:=Hs (ds:=ds) h1 h2 (e:=e) hm (by omega)
  have hlen:(e++(if bk m x.right x.since=0 then [x.no]else [])).length≤e.length+1:=by split <;>simp
  obtain⟨r1,m2,r2,r3,r4⟩:=vB ds l (fun y hy=>h y (List.mem_cons_of_mem _ hy)) (e++(if bk m x.right x.since=0 then [x.no]else [])) m1 q3 (by omega)
  refine⟨⟨q1,fun s hs=>by rw[q2]at hs;cases hs;exact r1⟩,m2,?_,r3,?_⟩
  ·simp only[eP,q2]
   rw[r2,q4,List.append_assoc];rfl
  ·rw[r4,q4];rfl
def B0 (d:District):Int→Int→Int:=fun r f=>if 0≤r∧r< (d.rights.length:Int)∧(d.rights.getD r.toNat default).kind=1∧(d.rights.getD r.toNat default).farm=f then(d.rights.getD r.toNat default).litres else 0
structure TakeOk (d:District)(x:Right):Prop where
 f0:0≤x.farm
 f1:x.farm< (d.farms.length:Int)
 l0:1≤x.litres
 l1:x.litres≤1073741824
theorem sd {d:District}(h:aZ d=0){k:Nat}(hk:k<d.rights.length)(ht:(d.rights.getD k default).kind=1):TakeOk d (d.rights.getD k default):=by
 have:=((yi d).1 h).2.2.2.2.2.2.2.1 k hk
 unfold dZ at this
 rw[kP]at this
 have h2:gw d (d.rights.getD k default)=true:=by
  cases h3:gw d (d.rights.getD k default)with
  |true=>rfl
  |false=>rw[h3]at this;cases this
 unfold gw at h2
 cases h4:((!(cp (d.rights.getD k default).farm (d.farms.length:Int))) ||(!(cp (d.rights.getD k default).reach (d.reaches.length:Int)))) ||(!(aw ([0,(d.rights.getD k default).since,(d.rights.getD k default).to,(IntKind.i64.wrap (d.hours - 1))])))with
 |true=>rw[h4]at h2;cases h2
 |false=>
  rw[h4,show((d.rights.getD k default).kind==1)=true by rw[ht];rfl]at h2
  simp only[cond_true,cond_false,Bool.and_eq_true]at h2
  simp only[Bool.or_eq_false_iff,Bool.not_eq_false']at h4
  have h5:=h4.1.1
  unfold cp at h5
  simp only[Bool.and_eq_true,decide_eq_true_eq]at h5
  have h6:=wH h2.1.2
  exact⟨by omega,by omega,by omega,by omega⟩
theorem Km {d:District}(h:aZ d=0)(r:Int):∃ L,L≤1073741824∧Good d.farms.length L (B0 d r):=by
 by_cases hr:0≤r∧r< (d.rights.length:Int)∧(d.rights.getD r.toNat default).kind=1
 ·have ht:=sd h (k:=r.toNat) (by omega) hr.2.2
  have hl:=ht.l0
  refine⟨(d.rights.getD r.toNat default).litres,ht.l1,?_⟩
  have e:B0 d r=fV (fun _=>0) (d.rights.getD r.toNat default).farm (d.rights.getD r.toNat default).litres:=by
   funext f
   unfold B0 fV
   by_cases hf:f=(d.rights.getD r.toNat default).farm
   ·rw[if_pos ⟨hr.1,hr.2.1,hr.2.2,hf.symm⟩,if_pos hf]
   ·rw[if_neg (fun h=>hf h.2.2.2.symm),if_neg hf]
  have t0:∀ n,tot n (fun _=>0)=0:=fun n=>by
   induction n with
   |zero=>rfl
   |succ n ih=>unfold tot;rw[ih];rfl
  rw[e]
  exact Good.put (L:=0) ⟨fun _=>Int.le_refl _,fun f hf=>absurd rfl hf,by rw[t0];exact Int.le_refl _⟩ ht.f0 ht.f1 (by omega) (by rw[t0];omega)
 ·refine⟨0,by omega,?_⟩
  have e:B0 d r=fun _=>0:=by
   funext f
   unfold B0
   rw[if_neg (fun h=>hr ⟨h.1,h.2.1,h.2.2.1⟩)]
  have t0:∀ n,tot n (fun _=>0)=0:=fun n=>by
   induction n with
   |zero=>rfl
   |succ n ih=>unfold tot;rw[ih];rfl
  rw[e]
  exact⟨fun _=>Int.le_refl _,fun f hf=>absurd rfl hf,by rw[t0];exact Int.le_refl _⟩
theorem ET {d:District}(h:aZ d=0):∃ m,ay (bP d) d.rights.length 0 []=.inr m∧MapOk d m∧bk m=B0 d:=by
 obtain⟨m,h1,h2,h3⟩:=mv (step:=bP d) (fun k (m:BM) =>(fG m).Nodup∧bk m=fun r f=>if r< (k:Int)then B0 d r f else 0) d.rights.length 0 ([]:BM) ⟨by simp[fG],by
   funext r f
   by_cases hr:r< ((0:Nat):Int)
   ·rw[if_pos hr];unfold B0 bk;rw[if_neg (by omega)];rfl
   ·rw[if_neg hr];rfl⟩ (fun j m _ hj ⟨j1,j2⟩ =>by
  rw[Nat.zero_add]at hj
  unfold bP
  by_cases hk:(d.rights.getD j default).kind=1
  ·rw[show((d.rights.getD j default).kind==1)=true by rw[hk];rfl]
   refine⟨_,rfl,(l5 _ _ _ j1).1,?_⟩
   rw[wV,j2]
   funext r f
   by_cases hr:r=(j:Int)
   ·subst hr
    simp only[if_true]
    unfold fV B0
    dsimp only
    rw[if_pos (by omega:(j:Int) < ((j+1:Nat):Int)),Int.toNat_natCast]
    by_cases hf:f=(d.rights.getD j default).farm
    ·rw[if_pos hf,if_pos ⟨by omega,by omega,hk,hf.symm⟩]
    ·rw[if_neg hf,if_neg (by omega),if_neg (fun h=>hf h.2.2.2.symm)]
   ·simp only[if_neg hr]
    by_cases h2:r< (j:Int)
    ·rw[if_pos h2,if_pos (by omega)]
    ·rw[if_neg h2,if_neg (by omega)]
  ·rw[show((d.rights.getD j default).kind==1)=false by simpa using hk]
   refine⟨_,rfl,j1,?_⟩
   rw[j2]
   funext r f
   by_cases hr:r=(j:Int)
   ·subst hr
    rw[if_neg (by omega),if_pos (by omega)]
    unfold B0
    rw[if_neg (fun h=>hk (by rw[Int.toNat_natCast]at h;exact h.2.2.1))]
   ·by_cases h2:r< (j:Int)
    ·rw[if_pos h2,if_pos (by omega)]
    ·rw[if_neg h2,if_neg (by omega)])
 have e:bk m=B0 d:=by
  rw[h3]
  funext r f
  split
  ·rfl
  ·unfold B0;rw[if_neg (by omega)]
 refine⟨m,h1,⟨h2,fun r=>?_⟩,e⟩
 rw[e];exact Km h r
theorem vC {d:District}(h:aZ d=0){ds:List Deed}(hd:∀ x∈ds,Fit d x∧x.kind≠4)(hl:ds.length≤512):
  eK d ds∧∃ m,cF d ds=(m,qg (Cu ds (B0 d)))∧MapOk d m∧bk m=rX ds (B0 d):=by
 obtain⟨m0,e0,o0,b0⟩:=ET h
 obtain⟨q1,m1,q2,q3,q4⟩:=vB (d:=d) ds ds hd [] m0 o0 (by simp only[List.length_nil];unfold iv;omega)
 rw[List.nil_append]at q2
 rw[b0]at q2 q4
 refine⟨fun _ z hz=>?_,m1,?_,q3,q4⟩
 ·rw[e0]at hz;cases hz
  refine⟨EP ds,?_⟩
  rw[nX];exact q1
 ·unfold cF
  rw[e0,nX]
  simp only[q2]
end Go.Sx
end
section
namespace Go.Proofs
open Go.Shelf
def Tryz.sortLh_ren:Go.Shelf.Ren:=⟨fun|6=>50|15=>81|14=>80|28=>112|29=>113|20=>104|21=>105|22=>106|23=>107|24=>108|25=>109|26=>110|27=>111|46=>136|47=>137|48=>138|49=>139|50=>140|57=>149|n=>n,fun|22=>44|24=>67|25=>100|3=>3|39=>116|0=>0|53=>162|55=>164|4=>4|46=>156|45=>155|50=>78|5=>5|9=>9|66=>184|70=>187|76=>195|77=>192|n=>n,fun|n=>n⟩
theorem Tryz.sortLh:Go.Proofs.SlLaysF0.n6 Tryz.prog Tryz.sortLh_ren:= {
 mixed:=by kernel_rfl
 f6:=⟨Tryz.f50.name,by decide,Tryz.func50.trans (congrArg some (by kernel_rfl))⟩
 f14:=⟨Tryz.f80.name,by decide,Tryz.func80.trans (congrArg some (by kernel_rfl))⟩
 f15:=Tryz.func81.trans (congrArg some (by kernel_rfl))
 f20:=⟨Tryz.f104.name,by decide,Tryz.func104.trans (congrArg some (by kernel_rfl))⟩
 f21:=⟨Tryz.f105.name,by decide,Tryz.func105.trans (congrArg some (by kernel_rfl))⟩
 f22:=⟨Tryz.f106.name,by decide,Tryz.func106.trans (congrArg some (by kernel_rfl))⟩
 f23:=⟨Tryz.f107.name,by decide,Tryz.func107.trans (congrArg some (by kernel_rfl))⟩
 f24:=⟨Tryz.f108.name,by decide,Tryz.func108.trans (congrArg some (by kernel_rfl))⟩
 f25:=⟨Tryz.f109.name,by decide,Tryz.func109.trans (congrArg some (by kernel_rfl))⟩
 f26:=⟨Tryz.f110.name,by decide,Tryz.func110.trans (congrArg some (by kernel_rfl))⟩
 f27:=⟨Tryz.f111.name,by decide,Tryz.func111.trans (congrArg some (by kernel_rfl))⟩
 f28:=Tryz.func112.trans (congrArg some (by kernel_rfl))
 f29:=Tryz.func113.trans (congrArg some (by kernel_rfl))
 f46:=⟨Tryz.f136.name,by decide,Tryz.func136.trans (congrArg some (by kernel_rfl))⟩
 f47:=Tryz.func137.trans (congrArg some (by kernel_rfl))
 f48:=Tryz.func138.trans (congrArg some (by kernel_rfl))
 f49:=⟨Tryz.f139.name,by decide,Tryz.func139.trans (congrArg some (by kernel_rfl))⟩
 f50:=⟨Tryz.f140.name,by decide,Tryz.func140.trans (congrArg some (by kernel_rfl))⟩
 f57:=⟨Tryz.f149.name,by decide,Tryz.func149.trans (congrArg some (by kernel_rfl))⟩
 t0:=Tryz.underlying0
 a0:=Tryz.isAgg0
 z0:=Tryz.sizeOf0
 v0:=Tryz.zeroValue0
 t3:=Tryz.underlying3
 a3:=Tryz.isAgg3
 z3:=Tryz.sizeOf3
 v3:=Tryz.zeroValue3
 t4:=Tryz.underlying4
 a4:=Tryz.isAgg4
 z4:=Tryz.sizeOf4
 v4:=Tryz.zeroValue4
 t5:=Tryz.underlying5
 a5:=Tryz.isAgg5
 z5:=Tryz.sizeOf5
 v5:=Tryz.zeroValue5
 t9:=Tryz.underlying9
 a9:=Tryz.isAgg9
 z9:=Tryz.sizeOf9
 v9:=Tryz.zeroValue9
 t22:=Tryz.underlying44
 a22:=Tryz.isAgg44
 z22:=Tryz.sizeOf44
 v22:=Tryz.zeroValue44
 t25:=Tryz.underlying100
 a25:=Tryz.isAgg100
 z25:=Tryz.sizeOf100
 v25:=Tryz.zeroValue100
 t39:=Tryz.underlying116
 a39:=Tryz.isAgg116
 z39:=Tryz.sizeOf116
 v39:=Tryz.zeroValue116
 t45:=Tryz.underlying155
 a45:=Tryz.isAgg155
 z45:=Tryz.sizeOf155
 v45:=Tryz.zeroValue155
 t46:=Tryz.underlying156
 a46:=Tryz.isAgg156
 z46:=Tryz.sizeOf156
 v46:=Tryz.zeroValue156
 t50:=Tryz.underlying78
 a50:=Tryz.isAgg78
 z50:=Tryz.sizeOf78
 v50:=Tryz.zeroValue78
 t53:=Tryz.underlying162
 a53:=Tryz.isAgg162
 z53:=Tryz.sizeOf162
 v53:=Tryz.zeroValue162
 t55:=Tryz.underlying164
 a55:=Tryz.isAgg164
 z55:=Tryz.sizeOf164
 v55:=Tryz.zeroValue164
 t66:=Tryz.underlying184
 a66:=Tryz.isAgg184
 z66:=Tryz.sizeOf184
 v66:=Tryz.zeroValue184
 t70:=Tryz.underlying187
 a70:=Tryz.isAgg187
 z70:=Tryz.sizeOf187
 v70:=Tryz.zeroValue187
 t76:=Tryz.underlying195
 a76:=Tryz.isAgg195
 z76:=Tryz.sizeOf195
 v76:=Tryz.zeroValue195
 t77:=Tryz.underlying192
 a77:=Tryz.isAgg192
 z77:=Tryz.sizeOf192
 v77:=Tryz.zeroValue192}
end Go.Proofs
end
section
namespace Go.Sx
open Go.RowKit Go.Shelf Go.Lib Go.Sort Go.Proofs
set_option maxRecDepth 100000
noncomputable def nD:List SV→List Ob→Option HCon:=kQ .holding 51 [] bO
@[go_sem] theorem EU {l0:List Holding}:nD [.os 0,.fn 51 [] []] [.row .holding l0]=some (d8 (apart bO l0) (.tup []) [.row .holding (srt bO l0)]):=ux
theorem uy:tX .holding:=fun x s hs=>by
 simp only[cellsOf,List.mem_cons,List.not_mem_nil,or_false]at hs
 rcases hs with rfl|rfl|rfl|rfl
 all_goals exact⟨_,rfl,rfl⟩
theorem rL (x y:Holding):mH (.agg (cellsOf .holding x):: .agg (cellsOf .holding y)::[])=some (.det True (.v (.int .i64 (bO x y)))):=by
 simp only[go_sem,Nat.reduceBEq]
theorem wW:FnOkO Tryz.prog 50 nD:=
 yB (k:=.holding) Tryz.sortLh (fun w=>by kernel_rfl) (fun w=>by kernel_rfl) uy (by decide) (g:=51) (caps:=[]) qW (cf:=bO) rL rG (fun s hs=>by cases hs) ⟨default,default,rL _ _⟩
end Go.Sx
end
section
namespace Go.Sx
open Go.Proofs
set_option maxRecDepth 100000
set_option linter.unusedSimpArgs false
theorem vD {p:Prop}(h:p:=by(first|done|(repeat' (first|with_reducible refine And.intro ?_ ?_|((with_reducible show _≠_);first|assumption|omega|(simp_all [b8,cn];done) |grind) |with_reducible intro _)) <;>(first|done|with_reducible exact Empty.elim ‹Empty› |with_reducible assumption|rfl|omega|assumption|decide|exact fk [0,1,2,3,7] |exact fk [0,1,2,3,4] |exact czl|(simp only[*,cond_true,cond_false,Bool.not_true,Bool.not_false,go_sem,Nat.reduceBEq,Nat.reduceLeDiff,Nat.reduceLT,decide_true,Nat.reduceAdd,Nat.reduceSub,Nat.reduceMul,Int.reduceLE,Int.reduceLT,Int.reduceToNat,Int.reduceNeg,reduceCtorEq];(repeat' (first|with_reducible refine And.intro ?_ ?_|((with_reducible show _≠_);first|assumption|omega|(simp_all [b8,cn];done) |grind) |with_reducible intro _)) <;>(first|done|assumption|rfl|omega|decide|exact fk [0,1,2,3,7] |exact fk [0,1,2,3,4] |(simp_all [b8,cn];done))) |(simp_all [okI,b8,cn];done) |(simp_all [b8,cn];(first|done|exact fk2 [0,1,2,3,7] |exact fk2 [0,1,2,3,4])) |exact fk2 [0,1,2,3,7] |exact fk2 [0,1,2,3,4]))):p:=h
theorem clQ {p:Prop}(h:p:=by((repeat' (first|with_reducible refine And.intro ?_ ?_|with_reducible intro _)) <;>(first|done|with_reducible exact Empty.elim ‹Empty› |with_reducible assumption|rfl|((try simp only[wE,Ei]at *);first|with_reducible assumption|(simp_all only[b8,cn];done) |grind|(simp_all only[b8,cn];grind))))):p:=h
@[go_sem] def cG (a0:District)(a1:List Deed)(a2:Int)(a3:Int)(k_0:RegisterTitle×Int)(s_0:List Holding):Empty⊕(List Holding):=(bif(decide (k_0.2 > 0))then .inr (s_0++([({ right:=k_0.1.right,farm:=k_0.1.farm,litres:=k_0.2,rank:=(a0.rights.getD (Int.toNat k_0.1.right) (default:Right)).rank}:Holding)]))else .inr s_0)
def gB (a0:District)(a1:List Deed)(a2:Int)(a3:Int)(k_0:RegisterTitle×Int)(s_0:List Holding):Prop:=((decide (k_0.2 > 0))=true→((0≤k_0.1.right∧k_0.1.right< (a0.rights.length:Int))∧((s_0++([({ right:=k_0.1.right,farm:=k_0.1.farm,litres:=k_0.2,rank:=(a0.rights.getD (Int.toNat k_0.1.right) (default:Right)).rank}:Holding)])).length*32≤iv)))
def aD (a0:District)(a1:List Deed)(a2:Int)(a3:Int):List Holding×Int:=(bif((an a0 a1) !=0)then([],(an a0 a1))else(bif((!(aC a2 0 (IntKind.i64.wrap (a0.hours - 1)))) ||(!(aC a3 0 1048576)))then([],1)else(match eP (cG a0 a1 a2 a3) ((cF a0 (bW a1 a2 a3)).1) ([])with| .inl x=>x.elim| .inr s_0=>((srt bO s_0),0))))
def eb (a0:District)(a1:List Deed)(a2:Int)(a3:Int):Prop:=((du a0 a1)∧((((an a0 a1) !=0)=true→(([],(an a0 a1))=(aD a0 a1 a2 a3)))∧(((an a0 a1) !=0)=false→((((!(aC a2 0 (IntKind.i64.wrap (a0.hours - 1)))) ||(!(aC a3 0 1048576)))=true→(([],1)=(aD a0 a1 a2 a3)))∧(((!(aC a2 0 (IntKind.i64.wrap (a0.hours - 1)))) ||(!(aC a3 0 1048576)))=false→((dF a1 a2 a3)∧((eK a0 (bW a1 a2 a3))∧(∀ L_0,L_0.Perm ((cF a0 (bW a1 a2 a3)).1)→(okL (cG a0 a1 a2 a3) (gB a0 a1 a2 a3) L_0 ([])∧(∀ s_0,eP (cG a0 a1 a2 a3) L_0 ([])=.inr s_0→((apart bO s_0)∧(((srt bO s_0),0)=(aD a0 a1 a2 a3)))))))))))))
@[go_sem] def lv:List SV→Option Con:=(pD .district fun a0=>(pR .deed fun a1=>(pI fun a2=>(pI fun a3=>(pE (.det (eb a0 a1 a2 a3) (.tup [.nw .holding ((aD a0 a1 a2 a3).1),.v (.int .i64 ((aD a0 a1 a2 a3).2))])))))))
theorem nE:FnOk Tryz.prog 18 lv:=by
 have hG:ConsOk Tryz.prog (mkG [(15,fun l=>eW (dN [.st .district,.sl .deed] l)),(47,gW),(48,fun l=>iP (dN [.st .district,.o] l)),(49,fun l=>gM (dN [.sl .deed,.o,.o] l))] [(50,nD)]):=aX (cgc (fS.norm [.st .district,.sl .deed]) (cgc iG (cgc (kR.norm [.st .district,.o]) (cgc (jL.norm [.sl .deed,.o,.o]) cg0)))) (cgc wW cg0)
 refine oV [(.tmp 8,.holding)] mixed aH hG (fn:=Tryz.f18) (c:=ae Tryz.f18) (by kernel_rfl) (by kernel_rfl) (by kernel_rfl) (by kernel_rfl) (cB fun a0=>(fM fun a1=>(dQ fun a2=>(dQ fun a3=>(bD (fun hp=>?_))))))
 dsimp only[bo]at hp
 unfold eb at hp
 refine⟨Nat.le_of_ble_eq_true rfl,(fun id st=>bif Nat.beq id 0 then some (LCP (τ:=RegisterTitle×Int) (ρ:=Empty) (σ:=(List Holding)) 4 [.slot 8 (.row .holding ([]))] [0,1,2,3,4] (fun left_0 cur_0 s_0=>⟨[(4,.ptr 0 0),(8,.os 4),(41,.ptr 3 0)],[.cells (cellsOf .district a0),.mp .registerTitle .int ((cF a0 (bW a1 a2 a3)).1) (some (3,none)),.dead,.mi (some 1) (((cF a0 (bW a1 a2 a3)).1).length) left_0 cur_0,.row .holding s_0]⟩) (cG a0 a1 a2 a3) (gB a0 a1 a2 a3) ((cF a0 (bW a1 a2 a3)).1) ([]) ((·.elim)) ((·.elim)) (fun s_0=>⟨[(8,.os 4)],[.dead,.dead,.dead,.dead,.row .holding s_0]⟩) st)else none),?_,?_⟩
 ·unfold ae Tryz.f18
  simp only[ar,true_and,and_true]
  ·refine Ef (di .registerTitle,di .int) 3 mixed aH hG (by kernel_rfl) (fun _=>rfl) fun left_0 cur_0 s_0 hp0=>⟨L0,am _,?_⟩
   ·by_cases hl0:left_0=[]
    ·subst hl0
     simp only[go_sem,Nat.reduceBEq,Nat.reduceLeDiff,Nat.reduceLT,decide_true,Nat.reduceAdd,Nat.reduceSub,Nat.reduceMul,Int.reduceLE,Int.reduceLT,Int.reduceToNat,Int.reduceNeg,reduceCtorEq,List.not_mem_nil]
     all_goals exact vD
    ·simp only[go_sem,Nat.reduceBEq,Nat.reduceLeDiff,Nat.reduceLT,decide_true,Nat.reduceAdd,Nat.reduceSub,Nat.reduceMul,Int.reduceLE,Int.reduceLT,Int.reduceToNat,Int.reduceNeg,reduceCtorEq,hl0]
     intro j hj0
     obtain⟨hlt0,hq0⟩:=hp0 j hj0
     unfold gB at hq0
     all_goals exact vD
 ·unfold ae Tryz.f18
  simp only[go_sem,Nat.reduceBEq,Nat.reduceLeDiff,Nat.reduceLT,decide_true,Nat.reduceAdd,Nat.reduceSub,Nat.reduceMul,Int.reduceLE,Int.reduceLT,Int.reduceToNat,Int.reduceNeg,reduceCtorEq]
  all_goals exact clQ
def ej (d:District)(l_:List Deed)(known:Int):List Int×Int:=(bif((an d l_) !=0)then([],(an d l_))else(bif(!(aC known 0 1048576))then([],1)else((cF d (bW l_ 4096 known)).2,0)))
def gC (d:District)(l_:List Deed)(known:Int):Prop:=((du d l_)∧(((an d l_) !=0)=false→((!(aC known 0 1048576))=false→((dF l_ 4096 known)∧(eK d (bW l_ 4096 known))))))
@[go_sem] def l7:List SV→Option Con:=(pD .district fun d=>(pR .deed fun l_=>(pI fun known=>(pE (.det (gC d l_ known) (.tup [.nw .int ((ej d l_ known).1),.v (.int .i64 ((ej d l_ known).2))]))))))
theorem qj:FnOk Tryz.prog 20 l7:=by
 have hG:ConsOk Tryz.prog (mkG [(15,fun l=>eW (dN [.st .district,.sl .deed] l)),(47,gW),(48,fun l=>iP (dN [.st .district,.o] l)),(49,fun l=>gM (dN [.sl .deed,.o,.o] l))] []):=aX (cgc (fS.norm [.st .district,.sl .deed]) (cgc iG (cgc (kR.norm [.st .district,.o]) (cgc (jL.norm [.sl .deed,.o,.o]) cg0)))) cg0
 refine oV [(.tmp 6,.int)] mixed aH hG (fn:=Tryz.f20) (c:=ae Tryz.f20) (by kernel_rfl) (by kernel_rfl) (by kernel_rfl) (by kernel_rfl) (cB fun d=>(fM fun l_=>(dQ fun known=>(bD (fun hp=>?_)))))
 dsimp only[bo]at hp
 unfold gC at hp
 refine⟨Nat.le_of_ble_eq_true rfl,L0,am _,?_⟩
 ·unfold ae Tryz.f20
  try unfold ej
  simp only[go_sem,Nat.reduceBEq,Nat.reduceLeDiff,Nat.reduceLT,decide_true,Nat.reduceAdd,Nat.reduceSub,Nat.reduceMul,Int.reduceLE,Int.reduceLT,Int.reduceToNat,Int.reduceNeg,reduceCtorEq]
  all_goals exact cl
end Go.Sx
end
section
namespace Go.Sx
open Go.Proofs
def ln (d:District)(l:List Deed)(hour known:Int):Int→Int→Int:=rX (stS (rb l hour known)) (B0 d)
def rM (d:District)(B:Int→Int→Int)(r f:Nat):Option Holding:=if 0<B r f then some { right:=(r:Int),farm:=(f:Int),litres:=B r f,rank:=(d.rights.getD r default).rank}else none
def iR (d:District)(B:Int→Int→Int)(r:Nat):List Holding:=(List.range d.farms.length).filterMap (rM d B r)
def b7 (d:District)(B:Int→Int→Int):List Holding:=(List.range d.rights.length).flatMap (iR d B)
theorem iS {d:District}{B:Int→Int→Int}{r:Nat}{x:Holding}:x∈iR d B r↔∃ f:Nat,f<d.farms.length∧0<B r f∧x= { right:=(r:Int),farm:=(f:Int),litres:=B r f,rank:=(d.rights.getD r default).rank}:=by
 unfold iR rM
 rw[List.mem_filterMap]
 constructor
 ·rintro⟨f,hf,h⟩
  rw[List.mem_range]at hf
  split at h
  ·rename_i h0
   exact⟨f,hf,h0,(Option.some.inj h).symm⟩
  ·cases h
 ·rintro⟨f,hf,h0,rfl⟩
  exact⟨f,List.mem_range.2 hf,by rw[if_pos h0]⟩
theorem kv {d:District}{B:Int→Int→Int}{x:Holding}:x∈b7 d B↔0≤x.right∧x.right< (d.rights.length:Int)∧0≤x.farm∧x.farm< (d.farms.length:Int)∧0<x.litres∧x.litres=B x.right x.farm∧x.rank=(d.rights.getD x.right.toNat default).rank:=by
 unfold b7
 rw[List.mem_flatMap]
 constructor
 ·rintro⟨r,hr,hx⟩
  rw[List.mem_range]at hr
  obtain⟨f,hf,h0,rfl⟩:=iS.1 hx
  exact⟨by simp only;omega,by simp only;omega,by simp only;omega,by simp only;omega,h0,rfl,by simp only[Int.toNat_natCast]⟩
 ·rintro⟨a,b,c,e,h0,h1,h2⟩
  refine⟨x.right.toNat,List.mem_range.2 (by omega),iS.2 ⟨x.farm.toNat,by omega,?_,?_⟩⟩
  ·rw[Int.toNat_of_nonneg a,Int.toNat_of_nonneg c];omega
  ·rw[Int.toNat_of_nonneg a,Int.toNat_of_nonneg c,←h1,←h2]
theorem yE:∀ n:Nat,(List.range n).Pairwise (· < ·):=fun n=>List.pairwise_lt_range
theorem mB (d:District)(B:Int→Int→Int):(b7 d B).Pairwise hlt:=by
 unfold b7
 rw[List.pairwise_flatMap]
 refine⟨fun r _=>?_,?_⟩
 ·unfold iR
  rw[List.pairwise_filterMap]
  refine(yE _).imp fun {a b} hab x hx y hy=>?_
  unfold rM at hx hy
  split at hx
  ·split at hy
   ·cases hx;cases hy
    exact Or.inr ⟨rfl,Or.inl (by show(a:Int) < (b:Int);omega)⟩
   ·cases hy
  ·cases hx
 ·refine(yE _).imp fun {a b} hab x hx y hy=>?_
  obtain⟨f,_,_,rfl⟩:=iS.1 hx
  obtain⟨g,_,_,rfl⟩:=iS.1 hy
  simp only[hlt,pW,and_false,or_false];omega
theorem Ht (x:Holding):¬hlt x x:=by simp only[hlt,pW,and_false,or_false];omega
theorem Cv {l:List Holding}(h:l.Pairwise hlt):l.Nodup:=h.imp fun {a b} hab e=>by subst e;exact Ht _ hab
theorem yF {α β:Type}(f:α→List β)(k:Nat):∀ l:List α,(∀ a∈l,(f a).length≤k)→(l.flatMap f).length≤l.length*k
 | [],_=>by simp
 |a::l,h=>by
  have h1:=h a List.mem_cons_self
  have h2:=yF f k l fun b hb=>h b (List.mem_cons_of_mem _ hb)
  rw[List.flatMap_cons,List.length_append,List.length_cons,Nat.add_mul,Nat.one_mul];omega
theorem vE {d:District}(hr:Right1 d)(B:Int→Int→Int):(b7 d B).length≤153600:=by
 have h1:=yF (iR d B) 600 (List.range d.rights.length) fun r _=>Nat.le_trans (List.length_filterMap_le _ _) (by rw[List.length_range];exact hr.farms)
 rw[List.length_range]at h1
 have:=hr.rights
 show((List.range d.rights.length).flatMap (iR d B)).length≤_
 have:d.rights.length*600≤256*600:=Nat.mul_le_mul_right _ this
 omega
def kS (d:District)(k:RegisterTitle×Int):Option Holding:=if 0<k.2 then some { right:=k.1.right,farm:=k.1.farm,litres:=k.2,rank:=(d.rights.getD (Int.toNat k.1.right) (default:Right)).rank}else none
theorem wX (d:District)(l:List Deed)(h n:Int):∀ (L:BM) (s:List Holding),eP (cG d l h n) L s=.inr (s++L.filterMap (kS d))
 | [],s=>by simp[eP]
 |k::L,s=>by
  by_cases hk:0<k.2
  ·have e:kS d k=some { right:=k.1.right,farm:=k.1.farm,litres:=k.2,rank:=(d.rights.getD (Int.toNat k.1.right) (default:Right)).rank}:=by unfold kS;rw[if_pos hk]
   rw[List.filterMap_cons_some e]
   simp only[eP]
   unfold cG
   rw[decide_eq_true (show k.2 > 0 from hk)]
   simp only[cond_true]
   have:=wX d l h n L (s++[{ right:=k.1.right,farm:=k.1.farm,litres:=k.2,rank:=(d.rights.getD (Int.toNat k.1.right) (default:Right)).rank}])
   unfold cG at this
   rw[this,List.append_assoc];rfl
  ·have e:kS d k=none:=by unfold kS;rw[if_neg hk]
   rw[List.filterMap_cons_none e]
   simp only[eP]
   unfold cG
   rw[decide_eq_false (show ¬k.2 > 0 from hk)]
   simp only[cond_false]
   have:=wX d l h n L s
   unfold cG at this
   exact this
theorem Ai (d:District)(l:List Deed)(h n:Int):∀ (L:BM) (s:List Holding),(∀ k∈L,0<k.2→0≤k.1.right∧k.1.right< (d.rights.length:Int))→(s.length+(L.filterMap (kS d)).length)*32≤iv→okL (cG d l h n) (gB d l h n) L s
 | [],_,_,_=>trivial
 |k::L,s,hk,hB=>by
  by_cases h0:0<k.2
  ·have e:kS d k=some { right:=k.1.right,farm:=k.1.farm,litres:=k.2,rank:=(d.rights.getD (Int.toNat k.1.right) (default:Right)).rank}:=by unfold kS;rw[if_pos h0]
   rw[List.filterMap_cons_some e,List.length_cons]at hB
   refine⟨fun _=>⟨hk k List.mem_cons_self h0,by rw[List.length_append];simp only[List.length_cons,List.length_nil];omega⟩,fun s' hs=>?_⟩
   unfold cG at hs
   rw[decide_eq_true (show k.2 > 0 from h0)]at hs
   cases hs
   exact Ai d l h n L _ (fun q hq=>hk q (List.mem_cons_of_mem _ hq)) (by rw[List.length_append];simp only[List.length_cons,List.length_nil];omega)
  ·have e:kS d k=none:=by unfold kS;rw[if_neg h0]
   rw[List.filterMap_cons_none e]at hB
   refine⟨fun h=>absurd (of_decide_eq_true h) h0,fun s' hs=>?_⟩
   unfold cG at hs
   rw[decide_eq_false (show ¬k.2 > 0 from h0)]at hs
   cases hs
   exact Ai d l h n L _ (fun q hq=>hk q (List.mem_cons_of_mem _ hq)) hB
theorem Bn {d:District}{r:Int}(hr:¬ (0≤r∧r< (d.rights.length:Int))):∀ (ds:List Deed) (B:Int→Int→Int),(∀ x∈ds,Fit d x∧x.kind≠4)→rX ds B r=B r
 | [],B,_=>rfl
 |x::ds,B,h=>by
  have h1:=h x List.mem_cons_self
  have h2:=h1.1.held h1.2
  show rX ds (iQ x B) r=_
  rw[Bn hr ds _ fun y hy=>h y (List.mem_cons_of_mem _ hy)]
  unfold iQ
  rw[if_neg (by omega)]
theorem qk {d:District}{l:List Deed}(h:Deeds d l)(hour known:Int):∀ x∈stS (rb l hour known),Fit d x∧x.kind≠4:=fun x hx=>by
 have hx:=Bf.1 hx
 unfold rb at hx
 rw[List.mem_filter]at hx
 refine⟨h.fit x hx.1,fun e=>?_⟩
 have:=hx.2
 rw[e]at this
 simp at this
theorem Bo (l:List Deed):(stS l).length=l.length:=(nW (nz l)).symm
theorem Hu {α:Type}{a b:List α}(ha:a.Nodup)(hb:b.Nodup)(h:∀ x,x∈a↔x∈b):a.Perm b:=(List.perm_ext_iff_of_nodup ha hb).2 h
theorem Cw {d:District}{l:List Deed}(h:Deeds d l){m:BM}(hm:MapOk d m){hour known:Int}(hb:bk m=ln d l hour known):
  (m.filterMap (kS d)).Perm (b7 d (ln d l hour known))∧∀ k∈m,0<k.2→0≤k.1.right∧k.1.right< (d.rights.length:Int):=by
 have hget:∀ (t:RegisterTitle) (v:Int),(t,v)∈m→bk m t.right t.farm=v:=fun t v htv=>by
  have:=(tZ hm.nodup).2 htv
  show(ev m { right:=t.right,farm:=t.farm}).getD _=v
  have e:({ right:=t.right,farm:=t.farm}:RegisterTitle)=t:=rfl
  rw[e,this];rfl
 have hrng:∀ k∈m,0<k.2→0≤k.1.right∧k.1.right< (d.rights.length:Int):=fun k hk h0=>by
  rcases Classical.em (0≤k.1.right∧k.1.right< (d.rights.length:Int))with hr|hr
  ·exact hr
  ·have e:=hget k.1 k.2 hk
   rw[hb]at e
   unfold ln at e
   rw[Bn hr _ _ (qk h hour known)]at e
   unfold B0 at e
   rw[if_neg (fun h=>hr ⟨h.1,h.2.1⟩)]at e
   omega
 refine⟨Hu ?_ (Cv (mB _ _)) fun x=>?_,hrng⟩
 ·rw[List.Nodup,List.pairwise_filterMap]
  have:m.Pairwise fun a b=>a.1≠b.1:=by
   have:=hm.nodup
   unfold fG at this
   rw[List.Nodup,List.pairwise_map]at this
   exact this
  refine this.imp fun {a b} hab x hx y hy=>?_
  unfold kS at hx hy
  split at hx
  ·split at hy
   ·cases hx;cases hy
    intro e
    simp only[Holding.mk.injEq]at e
    refine hab ?_
    obtain⟨⟨a1,a2⟩,a3⟩:=a
    obtain⟨⟨b1,b2⟩,b3⟩:=b
    simp only at e
    simp[e.1,e.2.1]
   ·cases hy
  ·cases hx
 ·rw[List.mem_filterMap,kv]
  constructor
  ·rintro⟨k,hk,hx⟩
   unfold kS at hx
   split at hx
   ·rename_i h0
    cases hx
    have e:=hget k.1 k.2 hk
    obtain⟨a,b⟩:=hrng k hk h0
    obtain⟨L,_,hg⟩:=hm.good k.1.right
    obtain⟨c,f⟩:=hg.sup k.1.farm (by rw[e];omega)
    exact⟨a,b,c,f,h0,by simp only;rw[←hb,e],rfl⟩
   ·cases hx
  ·rintro⟨a,b,c,f,h0,h1,h2⟩
   rw[←hb]at h1
   have h3:ev m (RT x.right x.farm)=some x.litres:=by
    have e:bk m x.right x.farm=(ev m (RT x.right x.farm)).getD 0:=rfl
    cases hg:ev m (RT x.right x.farm)with
    |none=>rw[e,hg]at h1;simp at h1;omega
    |some v=>rw[e,hg]at h1;simp at h1;rw[h1]
   refine⟨(RT x.right x.farm,x.litres),(tZ hm.nodup).1 h3,?_⟩
   unfold kS
   rw[if_pos h0]
   simp only[Option.some.injEq]
   rw[←h2]
open Go.Shelf Go.Sort in
theorem vF {d:District}{B:Int→Int→Int}{s:List Holding}(h:s.Perm (b7 d B)):apart bO s∧srt bO s=b7 d B:=by
 have e1:∀ x y,ltOf bO x y=true↔hlt x y:=fun x y=>by unfold ltOf;rw[decide_eq_true_eq,tM]
 have e2:∀ x y,ltOf bO x y=false↔¬hlt x y:=fun x y=>by rw[←e1];simp
 have heq:∀ x∈b7 d B,∀ y∈b7 d B,¬hlt x y→¬hlt y x→x=y:=fun x hx y hy h1 h2=>by
  obtain⟨_,_,_,_,_,x1,x2⟩:=kv.1 hx
  obtain⟨_,_,_,_,_,y1,y2⟩:=kv.1 hy
  simp only[hlt,pW,and_false,or_false]at h1 h2
  have q1:x.right=y.right:=by omega
  have q2:x.farm=y.farm:=by omega
  obtain⟨a,b,c,e⟩:=x
  obtain⟨a',b',c',e'⟩:=y
  simp only at q1 q2 x1 x2 y1 y2
  subst q1;subst q2
  rw[x1,x2,y1,y2]
 refine⟨fun x hx y hy h1 h2=>heq x (h.subset hx) y (h.subset hy) ((e2 x y).1 h1) ((e2 y x).1 h2),?_⟩
 unfold srt
 have hp:(s.mergeSort fun x y=>!(ltOf bO y x)).Perm (b7 d B):=(List.mergeSort_perm _ _).trans h
 refine List.Perm.eq_of_pairwise (le:=fun x y=>(!ltOf bO y x)=true) ?_ ?_ ?_ hp
 ·intro x y hx hy h1 h2
  simp only[Bool.not_eq_true']at h1 h2
  exact heq x (hp.subset hx) y hy ((e2 x y).1 h2) ((e2 y x).1 h1)
 ·refine List.pairwise_mergeSort ?_ ?_ s
  ·intro a b c h1 h2
   simp only[Bool.not_eq_true']at h1 h2 ⊢
   exact rG.3 c b a h2 h1
  ·intro a b
   simp only[Bool.or_eq_true,Bool.not_eq_true']
   rcases Classical.em (hlt b a)with hh|hh
   ·refine .inr ((e2 _ _).2 fun h3=>?_)
    simp only[hlt,pW,and_false,or_false]at hh h3;omega
   ·exact .inl ((e2 _ _).2 hh)
 ·refine(mB d B).imp fun {a b} hab=>?_
  simp only[Bool.not_eq_true']
  refine(e2 _ _).2 fun h3=>?_
  simp only[hlt,pW,and_false,or_false]at hab h3;omega
theorem t8 (d:District)(l:List Deed)(hour known:Int):eb d l hour known∧
  aD d l hour known=if an d l≠0 then([],an d l)else if 0≤hour∧hour<d.hours∧0≤known∧known≤1048576 then(b7 d (ln d l hour known),0)else([],1):=by
 by_cases hc:an d l=0
 ·have hD:=qh hc
  have hE:=((ra d l).1 hc).1
  have hh:=hD.right.hours
  have hh1:=hD.right.hours1
  have hw:((!(aC hour 0 (IntKind.i64.wrap (d.hours - 1)))) ||(!(aC known 0 1048576)))= !decide (0≤hour∧hour<d.hours∧0≤known∧known≤1048576):=by
   rw[bQ (by omega) (by omega),←Bool.not_and]
   congr 1
   rw[Bool.eq_iff_iff,Bool.and_eq_true,oY,oY,decide_eq_true_eq]
   omega
  obtain⟨c1,c2⟩:=rK l hour known hD.len
  have hlen:(stS (rb l hour known)).length≤512:=by rw[Bo];exact Nat.le_trans (List.length_filter_le _ _) hD.len
  obtain⟨f1,m,f2,f3,f4⟩:=vC hE (qk hD hour known) hlen
  obtain⟨p1,p2⟩:=Cw hD f3 (hour:=hour) (known:=known) f4
  have key:∀ L:BM,L.Perm m→(L.filterMap (kS d)).Perm (b7 d (ln d l hour known)):=fun L hL=>(hL.filterMap _).trans p1
  have val:aD d l hour known=if 0≤hour∧hour<d.hours∧0≤known∧known≤1048576 then(b7 d (ln d l hour known),0)else([],1):=by
   unfold aD
   rw[hc,hw,c2,f2]
   simp only[bne_self_eq_false,cond_false]
   by_cases hg:0≤hour∧hour<d.hours∧0≤known∧known≤1048576
   ·rw[decide_eq_true hg,if_pos hg]
    simp only[Bool.not_true,cond_false]
    rw[wX,List.nil_append]
    simp only
    rw[(vF (key m (List.Perm.refl _))).2]
   ·rw[decide_eq_false hg,if_neg hg];rfl
  refine⟨⟨jO d l,(fun h=>by rw[hc]at h;cases h),fun _=>⟨fun h=>?_,fun h=>?_⟩⟩,by rw[if_neg (by simp[hc])];exact val⟩
  ·rw[hw]at h
   rw[val,if_neg (by simpa only[Bool.not_eq_true',decide_eq_false_iff_not]using h)]
  ·rw[hw]at h
   have hg:0≤hour∧hour<d.hours∧0≤known∧known≤1048576:=by simpa using h
   rw[c2,f2]
   refine⟨c1,f1,fun L hL=>?_⟩
   have hk:=key L hL
   refine⟨Ai d l hour known L [] (fun k hk=>p2 k (hL.subset hk)) ?_,fun s hs=>?_⟩
   ·have h1:=hk.length_eq
    have h2:=vE hD.right (ln d l hour known)
    rw[h1,List.length_nil]
    unfold iv
    omega
   ·rw[wX,List.nil_append]at hs
    cases hs
    obtain⟨s1,s2⟩:=vF hk
    exact⟨s1,by rw[s2,val,if_pos hg]⟩
 ·have hne:(an d l !=0)=true:=by simpa using hc
  have val:aD d l hour known=([],an d l):=by unfold aD;rw[hne];rfl
  refine⟨⟨jO d l,(fun _=>val.symm),fun h=>?_⟩,by rw[if_pos hc];exact val⟩
  rw[hne]at h;cases h
end Go.Sx
end
section
namespace Go.Sx
open Go.Proofs
set_option maxRecDepth 100000
set_option linter.unusedSimpArgs false
def aT:District:=({ name:=(ByteArray.mk #[]),hours:=4,tank:=({ cap:=9,start:=9}:Tank),reaches:=[({ name:=(ByteArray.mk #[]),up:=(-1),delay:=1,cap:=50,bank:=50,siphon:=0,evap:=({ lo:=0,hi:=0}:Range),seep:=(({ n:=0,d:=1}:Ratio),({ n:=0,d:=1}:Ratio))}:Reach)],farms:=[({ name:=(ByteArray.mk #[]),reach:=0,area:=0,crop:=(-1)}:Farm),({ name:=(ByteArray.mk #[]),reach:=0,area:=0,crop:=(-1)}:Farm),({ name:=(ByteArray.mk #[]),reach:=0,area:=0,crop:=(-1)}:Farm)],crops:=[],rights:=[({ name:=(ByteArray.mk #[]),kind:=1,farm:=0,reach:=0,rank:=7,litres:=5,since:=0,to:=3,every:=1,length:=1}:Right)],duties:=[],wells:=[]}:District)
@[go_sem] def oC:List SV→Option Con:=(pE (.det True (.agg (cellsOf .district (aT)))))
theorem t_:FnOk Tryz.prog 33 oC:=by
 have hG:ConsOk Tryz.prog (mkG [] []):=aX cg0 cg0
 refine co [.st .district] mixed aH hG (fn:=Tryz.f33) (c:=ae Tryz.f33) (by kernel_rfl) (by kernel_rfl) (by kernel_rfl) (by kernel_rfl) (bD (fun hp=>?_))
 dsimp only[bo]at hp
 refine⟨Nat.le_of_ble_eq_true rfl,L0,am _,?_⟩
 ·unfold ae Tryz.f33
  try unfold aT
  simp only[go_sem,Nat.reduceBEq,Nat.reduceLeDiff,Nat.reduceLT,decide_true,Nat.reduceAdd,Nat.reduceSub,Nat.reduceMul,Int.reduceLE,Int.reduceLT,Int.reduceToNat,Int.reduceNeg,reduceCtorEq]
  all_goals exact cl
def il:Ratio:=({ n:=1,d:=2}:Ratio)
@[go_sem] def ql:List SV→Option Con:=(pE (.det True (.agg [.v (.int .i64 ((il).n)),.v (.int .i64 ((il).d))])))
theorem uz:FnOk Tryz.prog 34 ql:=by
 have hG:ConsOk Tryz.prog (mkG [] []):=aX cg0 cg0
 refine DB true mixed aH hG (fn:=Tryz.f34) (c:=ae Tryz.f34) (by kernel_rfl) (by kernel_rfl) (by kernel_rfl) (by kernel_rfl) (bD (fun hp=>?_))
 dsimp only[bo]at hp
 refine⟨Nat.le_of_ble_eq_true rfl,L0,am _,?_⟩
 ·unfold ae Tryz.f34
  try unfold il
  simp only[go_sem,Nat.reduceBEq,Nat.reduceLeDiff,Nat.reduceLT,decide_true,Nat.reduceAdd,Nat.reduceSub,Nat.reduceMul,Int.reduceLE,Int.reduceLT,Int.reduceToNat,Int.reduceNeg,reduceCtorEq]
  all_goals exact cl
end Go.Sx
end
section
namespace Go.Sx
open Go.RowKit
def EV (n0 id:Nat):Ob→SV
 | .row k l=>bif Nat.ble n0 id then .rs k l else .any
 |_=>.any
def isV:SV→Bool
 | .v _=>true
 |_=>false
def uA (n0:Nat)(h:List Ob):SV→SV
 | .v x=>.v x
 | .rs k l=>.rs k l
 | .agg l=>bif l.all isV then .agg l else .any
 | .os id=>EV n0 id (ag h id)
 |_=>.any
def uB (n0:Nat)(h:List Ob):SV→SV
 | .tup l=>.tup (l.map (uA n0 h))
 |s=>uA n0 h s
def Aj (n0:Nat)(own:Own):Own:=fun i=>if i<n0 then own i else none
section
variable {F:Nat→Prop}{own:Own}{w:World}{n0:Nat}{h:List Ob}
theorem qm {b:Nat}(hb:¬bR F own b):¬bR F (Aj n0 own) b:=by
 rintro (hf| ⟨id,hd,e,hm⟩)
 ·exact hb (.inl hf)
 ·unfold Aj at e
  split at e
  ·exact hb (.inr ⟨id,hd,e,hm⟩)
  ·cases e
theorem yG (hp:Hp F own w h):∀ (s:SV) (v:Value),Rel F own w s v→Rel F (Aj n0 own) w (uA n0 h s) v:=by
 intro s v hr
 cases s with
 |v x=>exact hr.over (.v x) fun b hb=>qm hb
 |rs k l=>exact hr.over .rs fun b hb=>qm hb
 |agg l=>
  simp only[uA]
  cases ha:l.all isV with
  |false=>exact .any _
  |true=>
   refine hr.over (.agg fun j s hj=>?_) fun b hb=>qm hb
   have:=List.all_eq_true.1 ha s (List.mem_of_getElem? hj)
   cases s <;>first|exact .v _|cases this
 |os id=>
  obtain⟨hd,h1,rfl,h2⟩:=ew hr
  simp only[uA]
  cases ho:ag h id with
  |row k l=>
   simp only[EV]
   cases hn:Nat.ble n0 id with
   |false=>exact .any _
   |true=>
    have hn':=Nat.le_of_ble_eq_true hn
    obtain⟨hd',e0,e⟩:=hp.at ho rfl
    rw[h1]at e0;cases e0
    have hnb:∀ b∈hd.bs,¬bR F (Aj n0 own) b:=by
     rintro b hb (hf| ⟨i,hi,e1,e2⟩)
     ·exact hp.apart id hd b h1 hb hf
     ·unfold Aj at e1
      split at e1
      ·rename_i hlt
       have:=hp.inj id i hd hi b h1 e1 hb e2
       omega
      ·cases e1
    rcases e with⟨a,e1,rfl,_⟩ | ⟨b,o,cap,cs,ty,e1,e2,h3,h4,h5,h6,h7⟩
    ·rw[e1];exact .rs0
    ·rw[e1]
     refine .rs (fun i j=>cs.getD (o+i*aa k+j) undef) h5 h6 (fun i x hi j s hj=>?_) (fun i x hi j s hj=>?_)
     ·obtain⟨u,k1,k2⟩:=h7 i x hi j s hj
      refine⟨hnb b (by simp[e2]),?_⟩
      rw[cK h3,k1]
      simp[Array.getD_eq_getD_getElem?,k1]
     ·obtain⟨u,k1,k2⟩:=h7 i x hi j s hj
      have:cs.getD (o+i*aa k+j) undef=u:=by simp[Array.getD_eq_getD_getElem?,k1]
      rw[this]
      exact k2.over (jD hj) fun b hb=>qm hb
  |_=>exact .any _
 |_=>exact .any _
theorem EW (hp:Hp F own w h)(s:SV)(v:Value)(hr:Rel F own w s v):Rel F (Aj n0 own) w (uB n0 h s) v:=by
 cases s with
 |tup l=>
  cases hr with
  |tup h0 h1=>
   refine .tup (by simpa using h0) fun j s hj=>?_
   obtain⟨x,hx,rfl⟩:=cb hj
   exact yG hp x _ (h1 j x hx)
 |_=>exact yG hp _ _ hr
@[go_sem] theorem Ok {l:List SV}:uB n0 h (.tup l)=.tup (l.map (uA n0 h)):=(rfl)
@[go_sem] theorem PX {id:Nat}:uB n0 h (.os id)=EV n0 id (ag h id):=(rfl)
@[go_sem] theorem QH {x:Value}:uB n0 h (.v x)=.v x:=(rfl)
@[go_sem] theorem PY {k:Tag}{l:List k.T}:uB n0 h (.rs k l)=.rs k l:=(rfl)
@[go_sem] theorem Ol {l:List SV}:uB n0 h (.agg l)=bif l.all isV then .agg l else .any:=(rfl)
@[go_sem] theorem QI {x:Value}:uA n0 h (.v x)=.v x:=(rfl)
@[go_sem] theorem PZ {k:Tag}{l:List k.T}:uA n0 h (.rs k l)=.rs k l:=(rfl)
@[go_sem] theorem Om {l:List SV}:uA n0 h (.agg l)=bif l.all isV then .agg l else .any:=(rfl)
@[go_sem] theorem P0 {id:Nat}:uA n0 h (.os id)=EV n0 id (ag h id):=(rfl)
@[go_sem] theorem On {k:Tag}{l:List k.T}{id:Nat}:EV n0 id (.row k l)=bif Nat.ble n0 id then .rs k l else .any:=(rfl)
@[go_sem] theorem isV_v {x:Value}:isV (.v x)=true:=(rfl)
end
def EX (pks:List Pk)(n0:Nat)(S:SV)(H:List Ob)(h:List Ob):Option SV→Prop
 |some s=>S=n_ pks (uB n0 h s)∧eT ⟨[],H⟩ n0 ⟨[],h⟩
 |none=>False
def Im (pks:List Pk)(n0:Nat)(rs:List ResultVar)(ts:Tis)(S:SV)(H:List Ob):Ex→St→Prop
 | .exit _,_=>False
 | .normal,st=>EX pks n0 S H st.h (iX (h_ ts st rs))
 | .ret,st=>EX pks n0 S H st.h (iX (h_ ts st rs))
 | .pan _,_=>False
section
variable {P:Program}{ts:Tis}{G:Cons}{n0:Nat}{S s:SV}{H h:List Ob}{rs:List ResultVar}{st:St}{pks:List Pk}
@[go_sem] theorem Mt:EX pks n0 S H h (some s)=(S=n_ pks (uB n0 h s)∧eT ⟨[],H⟩ n0 ⟨[],h⟩):=(rfl)
@[go_sem] theorem Hv:Im pks n0 rs ts S H .normal st=EX pks n0 S H st.h (iX (h_ ts st rs)):=(rfl)
@[go_sem] theorem Mu:Im pks n0 rs ts S H .ret st=EX pks n0 S H st.h (iX (h_ ts st rs)):=(rfl)
end
end Go.Sx
end
section
namespace Go.Sx
open Go.RowKit
def Hw (h:List Ob):Option Con→Option HCon
 |some (.det p s) =>some (d8 p (uB 0 (aB 3 s) (eh 3 0 s)) (h.map fun _=>.dead))
 |_=>none
def EY (C:List SV→Option Con)(l:List SV)(h:List Ob):Option HCon:=Hw h (C (l.map (dl h 6)))
@[go_sem] theorem P1 {C:List SV→Option Con}{l:List SV}{h:List Ob}:EY C l h=Hw h (C (l.map (dl h 6))):=(rfl)
@[go_sem] theorem Oo {h:List Ob}{p:Prop}{s:SV}:Hw h (some (.det p s))=some (d8 p (uB 0 (aB 3 s) (eh 3 0 s)) (h.map fun _=>.dead)):=(rfl)
section
variable {P:Program}{F:Nat→Prop}{own:Own}{w w':World}
def EZ (own:Own):Own:=fun i=>(own i).map fun hd=>{ hd with bs:=[]}
theorem Hz {b:Nat}(hb:¬F b):¬bR F (EZ own) b:=by
 rintro (hf| ⟨id,hd,e,hm⟩)
 ·exact hb hf
 ·unfold EZ at e
  cases h:own id with
  |none=>rw[h]at e;cases e
  |some x=>rw[h]at e;cases e;cases hm
theorem FnOk.eat {f:FuncId}{C:List SV→Option Con}(hf:FnOk P f C):FnOkO P f (EY C) where
 enter:=fun l h c e=>by
  unfold EY at e
  cases hc:C (l.map (dl h 6))with
  |none=>rw[hc]at e;cases e
  |some c'=>exact hf.enter _ c' hc
 calls:=fun l h c e hp F own w vs hH hr=>by
  unfold EY at e
  cases hc:C (l.map (dl h 6))with
  |none=>rw[hc]at e;cases e
  |some c'=>
   rw[hc]at e
   cases c' with
   |det p s=>
    simp only[Hw,Option.some.injEq]at e
    subst e
    have n0:∀ {F':Nat→Prop} {w1:World},(∀ b,F' b→b<w1.heap.size)→Hp F' cg w1 []:=fun hf=>⟨(fun id hd h=>by cases h),hf,(fun id hd b h=>by cases h),(fun i j hi hj b h=>by cases h),(fun id hd b h=>by cases h),(fun id h=>by cases h)⟩
    have hE:∀ {id:Nat} {hd:Hd},EZ own id=some hd→hd.bs=[]∧id<h.length:=fun {id hd} h=>by
     unfold EZ at h
     cases ho:own id with
     |none=>rw[ho]at h;cases h
     |some x=>rw[ho]at h;cases h;exact⟨rfl,hH.dom id x ho⟩
    refine(hf.calls _ _ hc hp F w vs hH.foreign ⟨by simpa using hr.1,fun j s hj=>?_⟩).mono ?_
    ·obtain⟨x,hx,rfl⟩:=cb hj
     exact nN hH 6 x _ (hr.2 j x hx)
    ·rintro e w' (⟨s',u,own',h1,h2,h3,h4⟩ | ⟨x,hx,_⟩)
     ·cases h1
      obtain⟨own2,q1,q2,q3,q4⟩:=qL (n0 hH.foreign) (.inl fun b=>⟨fun h=>.inl h,fun h=>h.elim id fun⟨_,_,h,_⟩ =>by cases h⟩) h4 h3
      have q5:=EW (n0:=0) q1 _ _ q3
      refine⟨(),EZ own,trivial,⟨u,h2,?_⟩,?_,?_,by simp⟩
      ·refine q5.carry ⟨fun id hd h=>by simp[Aj]at h,fun b _ hb=>⟨Hz fun hf=>hb (.inl hf),rfl⟩⟩
      ·refine⟨fun id hd h=>by rw[List.length_map];exact(hE h).2,fun b hb=>Nat.lt_of_lt_of_le (hH.foreign b hb) h4.size,fun id hd b h hm=>?_,fun i j hi hj b h _ hm=>?_,fun id hd b h hm=>?_,fun id hd=>?_⟩
       ·rw[(hE h).1]at hm;cases hm
       ·rw[(hE h).1]at hm;cases hm
       ·rw[(hE h).1]at hm;cases hm
       ·rw[jm,List.getElem?_map]at hd
        cases ho:h[id]? <;>rw[ho]at hd <;>simp[b9]at hd
      ·refine⟨fun id hd h=>?_,fun id hd b h hm=>?_,h4.os,h4.tape,h4.output,h4.size,fun k hk=>h4.block k hk.1⟩
       ·exact⟨{ hd with bs:=[]},by show(own id).map _=_;rw[show own id=some hd from h];rfl,rfl,rfl,rfl⟩
       ·rw[(hE h).1]at hm;cases hm
     ·cases hx
   |_=>cases e
end
end Go.Sx
end
section
namespace Go.Sx
open Go.Proofs
set_option maxRecDepth 100000
set_option linter.unusedSimpArgs false
def gj:=({ no:=5,kind:=4,right:=0,since:=0,to:=0,parts:=[],of_:=3,at_:=0,known:=9}:Deed)
def eY:=([({ no:=1,kind:=3,right:=0,since:=2,to:=0,parts:=[],of_:=0,at_:=0,known:=0}:Deed)])
def eo:=(ej aT eY 0)
def er:=(eo.1)
def et:=(er.length:Int)
def eu:=({ no:=3,kind:=2,right:=0,since:=0,to:=0,parts:=[({ farm:=1,share:=il}:Part),({ farm:=2,share:=il}:Part)],of_:=0,at_:=1,known:=2}:Deed)
def eZ:=([eu])
def e_:=(iH aT eZ gj)
def bv:=(e_.1)
def cV:=(bv.length:Int)
def fa:=(bv.getD 1 (default:Deed))
def fb:=(aD aT bv 1 9)
def fc:=(aD aT bv 1 2)
def fe:=(aD aT bv 0 2)
def dV:=(fc.1)
def ff:=(fb.1)
def fg:=(fe.1)
def eL:=(ff.length:Int)
def ed:=(dV.length:Int)
def eM:=(fg.length:Int)
def cX:=(dV.getD 1 (default:Holding))
def ca:=(dV.getD 0 (default:Holding))
def br:=(ff.getD 0 (default:Holding))
def aU:=(fg.getD 0 (default:Holding))
def gZ:=(iH aT bv eu)
def ju:=((bv.take (Int.toNat cV)).drop 1)
def fK:=(an aT ju)
def jh:Bool:=(bif((((((((((((e_.2 !=0) ||(gZ.2 !=171)) ||(fe.2 !=0)) ||(fc.2 !=0)) ||(fb.2 !=0)) ||((aD aT ([]) 4 0).2 !=1)) ||(eo.2 !=0)) ||(cV !=2)) ||(eM !=1)) ||(ed !=2)) ||(eL !=1)) ||(et !=1))then false else(bif((fK !=250) ||(fa.no !=5))then false else((((((aU.right==0)&&((aU.farm==0)&&((aU.litres==5)&&(aU.rank==7))))&&((br.right==0)&&((br.farm==0)&&((br.litres==5)&&(br.rank==7)))))&&((ca.right==0)&&((ca.farm==1)&&((ca.litres==3)&&(ca.rank==7)))))&&((cX.right==0)&&((cX.farm==2)&&((cX.litres==2)&&(cX.rank==7)))))&&((er.getD 0 (0:Int)) ==1))))
def iT:Prop:=((eX aT eZ gj)∧((eX aT bv eu)∧((eb aT bv 0 2)∧((eb aT bv 1 2)∧((eb aT bv 1 9)∧((eb aT ([]) 4 0)∧((gC aT eY 0)∧(((((((((((((e_.2 !=0) ||(gZ.2 !=171)) ||(fe.2 !=0)) ||(fc.2 !=0)) ||(fb.2 !=0)) ||((aD aT ([]) 4 0).2 !=1)) ||(eo.2 !=0)) ||(cV !=2)) ||(eM !=1)) ||(ed !=2)) ||(eL !=1)) ||(et !=1))=false→((0≤1∧1≤cV∧cV≤cV)∧((du aT ju)∧(((fK !=250)=false→(0≤1∧1<cV))∧(((fK !=250) ||(fa.no !=5))=false→((0≤0∧0<eM)∧((((aU.right==0)&&((aU.farm==0)&&((aU.litres==5)&&(aU.rank==7))))=true→(0≤0∧0<eL))∧(((((aU.right==0)&&((aU.farm==0)&&((aU.litres==5)&&(aU.rank==7))))&&((br.right==0)&&((br.farm==0)&&((br.litres==5)&&(br.rank==7)))))=true→(0≤0∧0<ed))∧((((((aU.right==0)&&((aU.farm==0)&&((aU.litres==5)&&(aU.rank==7))))&&((br.right==0)&&((br.farm==0)&&((br.litres==5)&&(br.rank==7)))))&&((ca.right==0)&&((ca.farm==1)&&((ca.litres==3)&&(ca.rank==7)))))=true→(0≤1∧1<ed))∧((((((aU.right==0)&&((aU.farm==0)&&((aU.litres==5)&&(aU.rank==7))))&&((br.right==0)&&((br.farm==0)&&((br.litres==5)&&(br.rank==7)))))&&((ca.right==0)&&((ca.farm==1)&&((ca.litres==3)&&(ca.rank==7)))))&&((cX.right==0)&&((cX.farm==2)&&((cX.litres==2)&&(cX.rank==7)))))=true→(0≤0∧0<et))))))))))))))))))
@[go_sem] def qn:List SV→Option Con:=(pE (.det (iT) (.v (.bool (jh)))))
theorem uC:FnOk Tryz.prog 11 qn:=by
 have hG:ConsOk Tryz.prog (mkG [(13,fun l=>kO (dN [.st .district,.sl .deed,.st .deed] l)),(15,fun l=>eW (dN [.st .district,.sl .deed] l)),(18,fun l=>lv (dN [.st .district,.sl .deed,.o,.o] l)),(20,fun l=>l7 (dN [.st .district,.sl .deed,.o] l)),(33,oC),(34,ql)] [(13,EY (fun l=>kO (dN [.st .district,.sl .deed,.st .deed] l)))]):=aX (cgc (mK.norm [.st .district,.sl .deed,.st .deed]) (cgc (fS.norm [.st .district,.sl .deed]) (cgc (nE.norm [.st .district,.sl .deed,.o,.o]) (cgc (qj.norm [.st .district,.sl .deed,.o]) (cgc t_ (cgc uz cg0)))))) (cgc (FnOk.eat (mK.norm [.st .district,.sl .deed,.st .deed])) cg0)
 refine co [.o] mixed aH hG (fn:=Tryz.f11) (c:=ae Tryz.f11) (by kernel_rfl) (by kernel_rfl) (by kernel_rfl) (by kernel_rfl) (bD (fun hp=>?_))
 dsimp only[bo]at hp
 unfold iT at hp
 try simp only[gj,eY,eo,er,et,eu,eZ,e_,bv,cV,fa,fb,fc,fe,dV,ff,fg,eL,ed,eM,cX,ca,br,aU,gZ,ju,fK]at hp
 refine⟨Nat.le_of_ble_eq_true rfl,L0,am _,?_⟩
 ·unfold ae Tryz.f11
  try unfold jh
  simp (maxSteps:=1000000) only[go_sem,Nat.reduceBEq,Nat.reduceLeDiff,Nat.reduceLT,decide_true,Nat.reduceAdd,Nat.reduceSub,Nat.reduceMul,Int.reduceLE,Int.reduceLT,Int.reduceToNat,Int.reduceNeg,reduceCtorEq,gj,eY,eo,er,et,eu,eZ,e_,bv,cV,fa,fb,fc,fe,dV,ff,fg,eL,ed,eM,cX,ca,br,aU,gZ,ju,fK]
  all_goals exact cl
end Go.Sx
end
section
namespace Go.Sx
open Go.Proofs
set_option maxRecDepth 100000
theorem yH (d:District)(l:List Deed)(known:Int):gC d l known∧
  ej d l known=if an d l≠0 then([],an d l)else if 0≤known∧known≤1048576 then(qg (Cu (stS (rb l 4096 known)) (B0 d)),0)else([],1):=by
 by_cases hc:an d l=0
 ·have hD:=qh hc
  have hE:=((ra d l).1 hc).1
  have hw:(!(aC known 0 1048576))= !decide (0≤known∧known≤1048576):=by
   congr 1
   rw[Bool.eq_iff_iff,oY,decide_eq_true_eq]
  obtain⟨c1,c2⟩:=rK l 4096 known hD.len
  have hlen:(stS (rb l 4096 known)).length≤512:=by rw[Bo];exact Nat.le_trans (List.length_filter_le _ _) hD.len
  obtain⟨f1,m,f2,f3,f4⟩:=vC hE (qk hD 4096 known) hlen
  refine⟨⟨jO d l,fun _ _=>⟨c1,by rw[c2];exact f1⟩⟩,?_⟩
  unfold ej
  rw[if_neg (by simp[hc]),hc,hw,c2,f2]
  simp only[bne_self_eq_false,cond_false]
  by_cases hg:0≤known∧known≤1048576
  ·rw[decide_eq_true hg,if_pos hg];rfl
  ·rw[decide_eq_false hg,if_neg hg];rfl
 ·have hne:(an d l !=0)=true:=by simpa using hc
  refine⟨⟨jO d l,(fun h=>by rw[hne]at h;cases h)⟩,?_⟩
  rw[if_pos hc]
  unfold ej;rw[hne];rfl
theorem Kn (a:Deed)(n:Int):decide (dT a n<0)=decide (a.no<n):=by
 unfold dT
 rw[lj]
 by_cases h:a.no<n
 ·simp[h]
 ·by_cases h2:a.no > n <;>simp[h,h2]
theorem Ko (a:Deed)(n:Int):(dT a n==0)=decide (a.no=n):=by
 unfold dT
 rw[lj]
 by_cases h:a.no<n
 ·have:¬a.no=n:=by omega
  simp[h,this]
 ·by_cases h2:a.no > n
  ·have:¬a.no=n:=by omega
   simp[h,h2,this]
  ·have:a.no=n:=by omega
   simp[this]
theorem E0 {l:List Deed}(h:Asc l){i j:Nat}(h1:i<j)(h2:j<l.length):(l.getD i default).no< (l.getD j default).no:=by
 rw[nV l _ (by omega),nV l _ h2]
 exact List.pairwise_iff_getElem.1 h i j (by omega) h2 h1
theorem In {l:List Deed}(hA:Asc l)(hl:l.length≤4096)(n:Int):bB l n∧∃ q:Nat,q≤l.length∧al l n=((q:Int),decide (q<l.length∧(l.getD q default).no=n))∧(∀ i,i<q→(l.getD i default).no<n)∧∀ i,q≤i→i<l.length→n≤(l.getD i default).no:=by
 obtain⟨s1,r,s2,q,rfl,q1,q2,q3,q4⟩:=wL (step:=aj l n) (p:=aF l n) (fun h=>decide ((l.getD h default).no<n)) 0 l.length (Nat.zero_le _)
  (fun i j h1 h2 h3 h4=>by
   simp only[decide_eq_true_eq]at h4 ⊢
   rcases Nat.eq_or_lt_of_le h2 with rfl|h2
   ·exact h4
   ·have:=E0 hA h2 h3;omega)
  (fun k i j h1 h2 h3=>by
   have e:decide ((i:Int) < (j:Int))=true:=by rw[decide_eq_true_eq];omega
   unfold aF aj
   simp only[yo (i:=i) (j:=j) (by omega) (by omega),e,cond_true,Int.toNat_natCast,Kn]
   have w2:IntKind.i64.wrap ((((i+j) / 2:Nat):Int)+1)=(((i+j) / 2+1:Nat):Int):=by rw[bQ (by omega) (by omega)];omega
   rw[w2]
   exact⟨fun _=>by omega,rfl⟩)
  (fun k i=>by
   have e:decide ((i:Int) < (i:Int))=false:=by simp
   unfold aF aj
   simp only[e,cond_false]
   exact⟨fun h=>by simp at h,trivial⟩) (l.length+1) 0 (by omega)
 have s2':ay (aj l n) (l.length+1) 0 (0,(l.length:Int))=.inl (q:Int):=s2
 refine⟨fun _=>⟨s1,(fun z h=>by rw[s2']at h;cases h),fun x hx h=>?_⟩,q,q2,?_,fun i hi=>?_,fun i h1 h2=>?_⟩
 ·rw[s2']at hx;cases hx
  rw[decide_eq_true_eq]at h
  omega
 ·unfold al
  rw[s2']
  simp only[Int.toNat_natCast,Ko]
  rw[Prod.mk.injEq]
  refine⟨rfl,?_⟩
  rw[Bool.eq_iff_iff,Bool.and_eq_true,decide_eq_true_eq,decide_eq_true_eq,decide_eq_true_eq]
  omega
 ·simpa using q3 i (Nat.zero_le _) hi
 ·have:=q4 i h1 h2
  simp only[decide_eq_false_iff_not]at this
  omega
abbrev exS:Deed:= { no:=3,kind:=2,right:=0,since:=0,to:=0,parts:=[{ farm:=1,share:=il},{ farm:=2,share:=il}],of_:=0,at_:=1,known:=2}
abbrev exV:Deed:= { no:=5,kind:=4,right:=0,since:=0,to:=0,parts:=[],of_:=3,at_:=0,known:=9}
theorem e19:e_=([exS,exV],0):=by kernel_rfl
theorem e18:bv=[exS,exV]:=by kernel_rfl
theorem e2:gZ=([],171):=by kernel_rfl
theorem eC:an aT [exS,exV]=0:=by kernel_rfl
theorem eH (hour known:Int)(L:List Holding)(h1:decide (0≤hour∧hour<aT.hours∧0≤known∧known≤1048576)=true)(h2:b7 aT (ln aT [exS,exV] hour known)=L):aD aT bv hour known=(L,0):=by
 rw[e18,(t8 _ _ _ _).2,if_neg (by rw[eC];decide),if_pos (of_decide_eq_true h1),h2]
theorem e13:fe=([{ right:=0,farm:=0,litres:=5,rank:=7}],0):=eH 0 2 _ (by kernel_rfl) (by kernel_rfl)
theorem e14:fc=([{ right:=0,farm:=1,litres:=3,rank:=7},{ right:=0,farm:=2,litres:=2,rank:=7}],0):=eH 1 2 _ (by kernel_rfl) (by kernel_rfl)
theorem e15:fb=([{ right:=0,farm:=0,litres:=5,rank:=7}],0):=eH 1 9 _ (by kernel_rfl) (by kernel_rfl)
theorem eN:aD aT [] 4 0=([],1):=by
 have hc:an aT []=0:=by kernel_rfl
 rw[(t8 _ _ _ _).2,if_neg (by rw[hc];decide),if_neg (of_decide_eq_false (by kernel_rfl))]
theorem e24:eo=([1],0):=by
 have hc:an aT eY=0:=by kernel_rfl
 have he:Cu (stS (rb eY 4096 0)) (B0 aT)=[1]:=by kernel_rfl
 unfold eo
 rw[(yH _ _ _).2,if_neg (by rw[hc];decide),if_pos (by decide),he]
 simp[qg]
theorem e0:fK=250:=by kernel_rfl
theorem e7:eM=1:=by unfold eM fg;rw[e13];rfl
theorem e8:ed=2:=by unfold ed dV;rw[e14];rfl
theorem e9:eL=1:=by unfold eL ff;rw[e15];rfl
theorem e17:cV=2:=by unfold cV;rw[e18];rfl
theorem e22:et=1:=by unfold et er;rw[e24];rfl
theorem e3':aU= { right:=0,farm:=0,litres:=5,rank:=7}:=by unfold aU fg;rw[e13];rfl
theorem e4':br= { right:=0,farm:=0,litres:=5,rank:=7}:=by unfold br ff;rw[e15];rfl
theorem e5':ca= { right:=0,farm:=1,litres:=3,rank:=7}:=by unfold ca dV;rw[e14];rfl
theorem e6':cX= { right:=0,farm:=2,litres:=2,rank:=7}:=by unfold cX dV;rw[e14];rfl
theorem e16:fa=exV:=by unfold fa;rw[e18];rfl
theorem e23:er=[1]:=by unfold er;rw[e24]
theorem Kp:jh=true:=by
 unfold jh
 rw[e19,e2,e13,e14,e15,eN,e24,e17,e7,e8,e9,e22,e0,e16,e3',e4',e5',e6',e23]
 rfl
theorem Kq:eX aT eZ gj:=by
 refine⟨jO _ _,fun _=>?_⟩
 have hA:Asc eZ:=List.pairwise_singleton _ _
 refine⟨(In hA (by decide) _).1,fun _=>⟨by decide,by kernel_rfl,?_,jO _ _⟩⟩
 unfold bI
 exact⟨by decide,fun _ _ _=>by decide⟩
theorem Kr:eX aT bv eu:=by
 refine⟨jO _ _,fun _=>?_⟩
 have hA:Asc bv:=by rw[e18];exact(qh eC).asc
 refine⟨(In hA (by rw[e18];decide) _).1,fun h=>?_⟩
 have:(al bv eu.no).2=true:=by kernel_rfl
 rw[this]at h;cases h
theorem Ak:iT:=by
 unfold iT
 refine⟨Kq,Kr,(t8 _ _ _ _).1,(t8 _ _ _ _).1,(t8 _ _ _ _).1,(t8 _ _ _ _).1,(yH _ _ _).1,fun _=>?_⟩
 rw[e17,e7,e8,e9]
 simp[jO,e22]
end Go.Sx
end
section
namespace Go.Sx
open Go.Proofs
set_option maxRecDepth 100000
set_option linter.unusedSimpArgs false
@[go_sem] def iU (a0:Deed)(a1:Deed)(k_0:Nat)(s_0:Unit):Unit⊕Unit:=(bif(!(((a0.parts.getD k_0 (default:Part)).farm==(a1.parts.getD k_0 (default:Part)).farm)&&(((a0.parts.getD k_0 (default:Part)).share.n==(a1.parts.getD k_0 (default:Part)).share.n)&&((a0.parts.getD k_0 (default:Part)).share.d==(a1.parts.getD k_0 (default:Part)).share.d))))then .inl ()else .inr ())
def gO (a0:Deed)(a1:Deed)(k_0:Nat)(s_0:Unit):Prop:=(a0.parts.length≤cd→(0≤(k_0:Int)∧(k_0:Int) < (a1.parts.length:Int)))
def kT (a0:Deed)(a1:Deed):Bool:=(bif(((((((((a0.no !=a1.no) ||(a0.kind !=a1.kind)) ||(a0.right !=a1.right)) ||(a0.since !=a1.since)) ||(a0.to !=a1.to)) ||(a0.of_ !=a1.of_)) ||(a0.at_ !=a1.at_)) ||(a0.known !=a1.known)) ||((a0.parts.length:Int) !=(a1.parts.length:Int)))then false else(match ay (iU a0 a1) a0.parts.length 0 ()with| .inl x_0_0=>false| .inr s_0=>true))
def ji (a0:Deed)(a1:Deed):Prop:=((((((((((a0.no !=a1.no) ||(a0.kind !=a1.kind)) ||(a0.right !=a1.right)) ||(a0.since !=a1.since)) ||(a0.to !=a1.to)) ||(a0.of_ !=a1.of_)) ||(a0.at_ !=a1.at_)) ||(a0.known !=a1.known)) ||((a0.parts.length:Int) !=(a1.parts.length:Int)))=false→okI (iU a0 a1) (gO a0 a1) a0.parts.length 0 ())
@[go_sem] def l8:List SV→Option Con:=(pD .deed fun a0=>(pD .deed fun a1=>(pE (.det (ji a0 a1) (.v (.bool (kT a0 a1)))))))
theorem qo:FnOk Tryz.prog 30 l8:=by
 have hG:ConsOk Tryz.prog (mkG [] []):=aX cg0 cg0
 refine co [.o] mixed aH hG (fn:=Tryz.f30) (c:=ae Tryz.f30) (by kernel_rfl) (by kernel_rfl) (by kernel_rfl) (by kernel_rfl) (cB fun a0=>(cB fun a1=>(bD (fun hp=>?_))))
 dsimp only[bo]at hp
 unfold ji at hp
 refine⟨Nat.le_of_ble_eq_true rfl,(fun id st=>bif Nat.beq id 0 then some (LCR (ρ:=Unit) (σ:=Unit) 2 [] [0,1] (fun k_0 s_0=>⟨[(2,.ptr 0 0),(3,.ptr 1 0),(5,.v (.int .i64 (k_0:Int)))],[.cells (cellsOf .deed a0),.cells (cellsOf .deed a1)]⟩) (iU a0 a1) (gO a0 a1) a0.parts.length () (True) (fun _=>.ret) (fun x_0_0=>⟨[(4,.v (.bool false))],[.dead,.dead]⟩) st)else none),?_,?_⟩
 ·unfold ae Tryz.f30
  simp only[ar,true_and,and_true]
  ·refine tF (a0.parts.length≤cd) mixed aH hG (by kernel_rfl) (fun _=>rfl) (a0.parts.length:Int) rfl lu (fun hb0 k_0 s_0 hlt0 hq0 hw hc=>⟨L0,am _,?_⟩) (fun hb0 s_0 hc=>?_) fun hb0 k_0 s_0=>?_
   ·unfold gO at hq0
    try simp only[hw,Int.toNat_natCast]at hq0
    exact nv
   ·exact ny
   ·simp only[go_sem,Nat.reduceBEq,Nat.reduceLeDiff,Nat.reduceLT,decide_true,Nat.reduceAdd,Nat.reduceSub,Nat.reduceMul,Int.reduceLE,Int.reduceLT,Int.reduceToNat,Int.reduceNeg,reduceCtorEq,hb0]
 ·unfold ae Tryz.f30
  try unfold kT
  simp only[go_sem,Nat.reduceBEq,Nat.reduceLeDiff,Nat.reduceLT,decide_true,Nat.reduceAdd,Nat.reduceSub,Nat.reduceMul,Int.reduceLE,Int.reduceLT,Int.reduceToNat,Int.reduceNeg,reduceCtorEq]
  all_goals exact cl
@[go_sem] def lw (a:List Deed)(b:List Deed)(k_0:Nat)(s_0:Unit):Unit⊕Unit:=(bif(!(kT (a.getD k_0 (default:Deed)) (b.getD k_0 (default:Deed))))then .inl ()else .inr ())
def jZ (a:List Deed)(b:List Deed)(k_0:Nat)(s_0:Unit):Prop:=(a.length≤cd→((0≤(k_0:Int)∧(k_0:Int) < (b.length:Int))∧(ji (a.getD k_0 (default:Deed)) (b.getD k_0 (default:Deed)))))
def ua (a:List Deed)(b:List Deed):Bool:=(bif((a.length:Int) !=(b.length:Int))then false else(match ay (lw a b) a.length 0 ()with| .inl x_0_0=>false| .inr s_0=>true))
def qp (a:List Deed)(b:List Deed):Prop:=(a.length≤cd→(b.length≤cd→(((a.length:Int) !=(b.length:Int))=false→okI (lw a b) (jZ a b) a.length 0 ())))
@[go_sem] def wY:List SV→Option Con:=(pR .deed fun a=>(pR .deed fun b=>(pE (.det (qp a b) (.v (.bool (ua a b)))))))
theorem Fg:FnOk Tryz.prog 17 wY:=by
 have hG:ConsOk Tryz.prog (mkG [(30,fun l=>l8 (dN [.st .deed,.st .deed] l))] []):=aX (cgc (qo.norm [.st .deed,.st .deed]) cg0) cg0
 refine co [.o] mixed aH hG (fn:=Tryz.f17) (c:=ae Tryz.f17) (by kernel_rfl) (by kernel_rfl) (by kernel_rfl) (by kernel_rfl) (fM fun a=>(fM fun b=>(bD (fun hp=>?_))))
 dsimp only[bo]at hp
 unfold qp at hp
 refine⟨Nat.le_of_ble_eq_true rfl,(fun id st=>bif Nat.beq id 0 then some (LCR (ρ:=Unit) (σ:=Unit) 0 [] [] (fun k_0 s_0=>⟨[(0,.rs .deed a),(1,.rs .deed b),(5,.v (.int .i64 (k_0:Int)))],[]⟩) (lw a b) (jZ a b) a.length () (True) (fun _=>.ret) (fun x_0_0=>⟨[(4,.v (.bool false))],[]⟩) st)else none),?_,?_⟩
 ·unfold ae Tryz.f17
  simp only[ar,true_and,and_true]
  ·refine tF (a.length≤cd) mixed aH hG (by kernel_rfl) (fun _=>rfl) (a.length:Int) rfl lu (fun hb0 k_0 s_0 hlt0 hq0 hw hc=>⟨L0,am _,?_⟩) (fun hb0 s_0 hc=>?_) fun hb0 k_0 s_0=>?_
   ·unfold jZ at hq0
    try simp only[hw,Int.toNat_natCast]at hq0
    exact nQ
   ·exact nR
   ·simp only[go_sem,Nat.reduceBEq,Nat.reduceLeDiff,Nat.reduceLT,decide_true,Nat.reduceAdd,Nat.reduceSub,Nat.reduceMul,Int.reduceLE,Int.reduceLT,Int.reduceToNat,Int.reduceNeg,reduceCtorEq,hb0]
 ·unfold ae Tryz.f17
  try unfold ua
  simp only[go_sem,Nat.reduceBEq,Nat.reduceLeDiff,Nat.reduceLT,decide_true,Nat.reduceAdd,Nat.reduceSub,Nat.reduceMul,Int.reduceLE,Int.reduceLT,Int.reduceToNat,Int.reduceNeg,reduceCtorEq]
  all_goals exact cl
@[go_sem] def qq (l_:List Deed)(k_0:Nat)(s_0:Unit):Unit⊕Unit:=(bif(decide ((((l_.getD k_0 (default:Deed)).parts).length:Int) > 100))then .inl ()else .inr ())
def l9 (d:District)(l_:List Deed):Bool:=(bif((decide ((l_.length:Int) > 512))&&(decide ((l_.length:Int)≤700)))then(nP d)else(bif((((decide ((l_.length:Int) > 60)) ||(!(nP d))) ||((decide ((d.rights.length:Int) > 40))&&(decide ((d.rights.length:Int)≤256)))) ||((decide ((d.farms.length:Int) > 60))&&(decide ((d.farms.length:Int)≤600))))then false else(match ay (qq l_) l_.length 0 ()with| .inl x_0_0=>false| .inr s_0=>true)))
@[go_sem] def rN:List SV→Option Con:=(pD .district fun d=>(pR .deed fun l_=>(pE (.det True (.v (.bool (l9 d l_)))))))
theorem wZ:FnOk Tryz.prog 12 rN:=by
 have hG:ConsOk Tryz.prog (mkG [(35,fun l=>rE (dN [.st .district] l))] []):=aX (cgc (wC.norm [.st .district]) cg0) cg0
 refine co [.o] mixed aH hG (fn:=Tryz.f12) (c:=ae Tryz.f12) (by kernel_rfl) (by kernel_rfl) (by kernel_rfl) (by kernel_rfl) (cB fun d=>(fM fun l_=>(bD (fun hp=>?_))))
 dsimp only[bo]at hp
 refine⟨Nat.le_of_ble_eq_true rfl,(fun id st=>bif Nat.beq id 0 then some (LCR (ρ:=Unit) (σ:=Unit) 1 [] [0] (fun k_0 s_0=>⟨[(1,.rs .deed l_),(5,.v (.int .i64 (k_0:Int)))],[.dead]⟩) (qq l_) pT l_.length () (True) (fun _=>.ret) (fun x_0_0=>⟨[(4,.v (.bool false))],[.dead]⟩) st)else none),?_,?_⟩
 ·unfold ae Tryz.f12
  simp only[ar,true_and,and_true]
  ·refine tF (l_.length≤cd) mixed aH hG (by kernel_rfl) (fun _=>rfl) (l_.length:Int) rfl lu (fun hb0 k_0 s_0 hlt0 _ hw hc=>⟨L0,am _,?_⟩) (fun hb0 s_0 hc=>?_) fun hb0 k_0 s_0=>?_
   ·exact kH
   ·exact kI
   ·simp only[go_sem,Nat.reduceBEq,Nat.reduceLeDiff,Nat.reduceLT,decide_true,Nat.reduceAdd,Nat.reduceSub,Nat.reduceMul,Int.reduceLE,Int.reduceLT,Int.reduceToNat,Int.reduceNeg,reduceCtorEq,hb0]
 ·unfold ae Tryz.f12
  try unfold l9
  simp only[go_sem,Nat.reduceBEq,Nat.reduceLeDiff,Nat.reduceLT,decide_true,Nat.reduceAdd,Nat.reduceSub,Nat.reduceMul,Int.reduceLE,Int.reduceLT,Int.reduceToNat,Int.reduceNeg,reduceCtorEq]
  all_goals exact cl
end Go.Sx
end
section
namespace Go.Sx
open Go.Proofs
set_option maxRecDepth 100000
set_option linter.unusedSimpArgs false
end Go.Sx
end
section
namespace Go.Sx
open Go.Proofs
theorem HA {l:List Deed}(h:Asc l){x y:Deed}(hx:x∈l)(hy:y∈l)(e:x.no=y.no):x=y:=by
 rw[←tY h hx,←tY h hy,e]
theorem Deeds.target {d:District}{l:List Deed}(h:Deeds d l){x y:Deed}(hx:x∈l)(hk:x.kind=4)(hy:y∈l)(e:y.no=x.of_):y.kind≠4∧y.known≤x.known∧y.no<x.no:=by
 obtain⟨z,hz,h1,h2,h3,h4⟩:=h.void x hx hk
 have:y=z:=HA h.asc hy hz (by rw[e,h1])
 rw[this];exact⟨h2,h3,h4⟩
end Go.Sx
end
section
namespace Go.Sx
open Go.Proofs
set_option maxRecDepth 100000
set_option linter.unusedSimpArgs false
@[go_sem] def fL (a0:District)(a1:List Holding)(k_0:Nat)(s_0:List Int):Unit⊕(List Int):=(bif(((((((decide ((a1.getD k_0 (default:Holding)).right<0)) ||(decide ((a1.getD k_0 (default:Holding)).right≥(a0.rights.length:Int)))) ||(decide ((a1.getD k_0 (default:Holding)).farm<0))) ||(decide ((a1.getD k_0 (default:Holding)).farm≥(a0.farms.length:Int)))) ||(decide ((a1.getD k_0 (default:Holding)).litres<1))) ||(decide ((a1.getD k_0 (default:Holding)).litres > 1073741824))) ||((a1.getD k_0 (default:Holding)).rank !=(a0.rights.getD (Int.toNat ((a1.getD k_0 (default:Holding)).right)) (default:Right)).rank))then .inl ()else(bif((decide ((k_0:Int) > 0))&&((decide ((a1.getD (Int.toNat (IntKind.i64.wrap ((k_0:Int) - 1))) (default:Holding)).right > (a1.getD k_0 (default:Holding)).right)) ||(((a1.getD (Int.toNat (IntKind.i64.wrap ((k_0:Int) - 1))) (default:Holding)).right==(a1.getD k_0 (default:Holding)).right)&&(decide ((a1.getD (Int.toNat (IntKind.i64.wrap ((k_0:Int) - 1))) (default:Holding)).farm≥(a1.getD k_0 (default:Holding)).farm)))))then .inl ()else .inr (s_0.set (Int.toNat ((a1.getD k_0 (default:Holding)).right)) (IntKind.i64.wrap ((s_0.getD (Int.toNat ((a1.getD k_0 (default:Holding)).right)) (0:Int))+(a1.getD k_0 (default:Holding)).litres)))))
def fH (a0:District)(a1:List Holding)(k_0:Nat)(s_0:List Int):Prop:=((((((((decide ((a1.getD k_0 (default:Holding)).right<0)) ||(decide ((a1.getD k_0 (default:Holding)).right≥(a0.rights.length:Int)))) ||(decide ((a1.getD k_0 (default:Holding)).farm<0))) ||(decide ((a1.getD k_0 (default:Holding)).farm≥(a0.farms.length:Int)))) ||(decide ((a1.getD k_0 (default:Holding)).litres<1))) ||(decide ((a1.getD k_0 (default:Holding)).litres > 1073741824)))=false→(0≤(a1.getD k_0 (default:Holding)).right∧(a1.getD k_0 (default:Holding)).right< (a0.rights.length:Int)))∧((((((((decide ((a1.getD k_0 (default:Holding)).right<0)) ||(decide ((a1.getD k_0 (default:Holding)).right≥(a0.rights.length:Int)))) ||(decide ((a1.getD k_0 (default:Holding)).farm<0))) ||(decide ((a1.getD k_0 (default:Holding)).farm≥(a0.farms.length:Int)))) ||(decide ((a1.getD k_0 (default:Holding)).litres<1))) ||(decide ((a1.getD k_0 (default:Holding)).litres > 1073741824))) ||((a1.getD k_0 (default:Holding)).rank !=(a0.rights.getD (Int.toNat ((a1.getD k_0 (default:Holding)).right)) (default:Right)).rank))=false→(((decide ((k_0:Int) > 0))=true→(0≤(IntKind.i64.wrap ((k_0:Int) - 1))∧(IntKind.i64.wrap ((k_0:Int) - 1)) < (a1.length:Int)))∧(((decide ((k_0:Int) > 0))=true→((decide ((a1.getD (Int.toNat (IntKind.i64.wrap ((k_0:Int) - 1))) (default:Holding)).right > (a1.getD k_0 (default:Holding)).right))=false→(0≤(IntKind.i64.wrap ((k_0:Int) - 1))∧(IntKind.i64.wrap ((k_0:Int) - 1)) < (a1.length:Int))))∧(((decide ((k_0:Int) > 0))=true→((decide ((a1.getD (Int.toNat (IntKind.i64.wrap ((k_0:Int) - 1))) (default:Holding)).right > (a1.getD k_0 (default:Holding)).right))=false→(((a1.getD (Int.toNat (IntKind.i64.wrap ((k_0:Int) - 1))) (default:Holding)).right==(a1.getD k_0 (default:Holding)).right)=true→(0≤(IntKind.i64.wrap ((k_0:Int) - 1))∧(IntKind.i64.wrap ((k_0:Int) - 1)) < (a1.length:Int)))))∧(((decide ((k_0:Int) > 0))&&((decide ((a1.getD (Int.toNat (IntKind.i64.wrap ((k_0:Int) - 1))) (default:Holding)).right > (a1.getD k_0 (default:Holding)).right)) ||(((a1.getD (Int.toNat (IntKind.i64.wrap ((k_0:Int) - 1))) (default:Holding)).right==(a1.getD k_0 (default:Holding)).right)&&(decide ((a1.getD (Int.toNat (IntKind.i64.wrap ((k_0:Int) - 1))) (default:Holding)).farm≥(a1.getD k_0 (default:Holding)).farm)))))=false→((0≤(a1.getD k_0 (default:Holding)).right∧(a1.getD k_0 (default:Holding)).right< (s_0.length:Int))∧(0≤(a1.getD k_0 (default:Holding)).right∧(a1.getD k_0 (default:Holding)).right< (s_0.length:Int)))))))))
def cr (a0:District)(a1:List Holding):List Int×Bool:=(match ay (fL a0 a1) a1.length 0 (List.replicate (Int.toNat (a0.rights.length:Int)) (0:Int))with| .inl x_0_0=>([],false) | .inr s_0=>(s_0,true))
def kg (a0:District)(a1:List Holding):Prop:=(a0.rights.length≤cd→(((a0.rights.length:Int)=(a0.rights.length:Int)∧0≤(a0.rights.length:Int)∧(a0.rights.length:Int)*((8:Nat):Int)≤((iv:Nat):Int))∧((a0.rights.length:Int)≤((cd:Nat):Int)→(a1.length≤cd→okI (fL a0 a1) (fH a0 a1) a1.length 0 (List.replicate (Int.toNat (a0.rights.length:Int)) (0:Int))))))
@[go_sem] def qr:List SV→Option Con:=(pD .district fun a0=>(pR .holding fun a1=>(pE (.det (kg a0 a1) (.tup [.nw .int ((cr a0 a1).1),.v (.bool ((cr a0 a1).2))])))))
theorem uD:FnOk Tryz.prog 25 qr:=by
 have hG:ConsOk Tryz.prog (mkG [] []):=aX cg0 cg0
 refine oV [(.tmp 4,.int)] mixed aH hG (fn:=Tryz.f25) (c:=ae Tryz.f25) (by kernel_rfl) (by kernel_rfl) (by kernel_rfl) (by kernel_rfl) (cB fun a0=>(fM fun a1=>(bD (fun hp=>?_))))
 dsimp only[bo]at hp
 unfold kg at hp
 refine⟨Nat.le_of_ble_eq_true rfl,(fun id st=>bif Nat.beq id 0 then some (LCR (ρ:=Unit) (σ:=(List Int)) 2 [] [0,1] (fun k_0 s_0=>⟨[(1,.rs .holding a1),(2,.ptr 0 0),(4,.os 1),(12,.rs .holding a1),(13,.v (.int .i64 (a1.length:Int))),(14,.v (.int .i64 (k_0:Int)))],[.cells (cellsOf .district a0),.row .int s_0]⟩) (fL a0 a1) (fH a0 a1) a1.length (List.replicate (Int.toNat (a0.rights.length:Int)) (0:Int)) (a1.length≤cd) (fun _=>.ret) (fun x_0_0=>⟨[(4,.v (.slice none 0 0)),(5,.v (.bool false))],[.dead,.dead]⟩) st)else none),?_,?_⟩
 ·unfold ae Tryz.f25
  simp only[ar,true_and,and_true]
  ·refine dJ mixed aH hG (by kernel_rfl) (fun _=>rfl) (a1.length:Int) rfl lu (fun hb0 k_0 s_0 hlt0 hq0 hw hc=>⟨L0,am _,?_⟩) (fun hb0 s_0 hc=>?_)
   ·unfold fH at hq0
    try simp only[hw,Int.toNat_natCast]at hq0
    exact nv
   ·exact ny
 ·unfold ae Tryz.f25
  try unfold cr
  simp only[go_sem,Nat.reduceBEq,Nat.reduceLeDiff,Nat.reduceLT,decide_true,Nat.reduceAdd,Nat.reduceSub,Nat.reduceMul,Int.reduceLE,Int.reduceLT,Int.reduceToNat,Int.reduceNeg,reduceCtorEq]
  all_goals exact cl
end Go.Sx
end
section
namespace Go.Sx
open Go.Proofs
set_option maxRecDepth 100000
set_option linter.unusedSimpArgs false
@[go_sem] def bw (a1:List Deed)(k_0:Nat)(s_0:List Bool):Empty⊕(List Bool):=(bif((((a1.getD k_0 (default:Deed)).kind==3)&&(decide ((a1.getD k_0 (default:Deed)).right≥0)))&&(decide ((a1.getD k_0 (default:Deed)).right< (s_0.length:Int))))then .inr (s_0.set (Int.toNat ((a1.getD k_0 (default:Deed)).right)) true)else .inr s_0)
def fh (a1:List Deed)(k_0:Nat)(s_0:List Bool):Prop:=(((((a1.getD k_0 (default:Deed)).kind==3)&&(decide ((a1.getD k_0 (default:Deed)).right≥0)))&&(decide ((a1.getD k_0 (default:Deed)).right< (s_0.length:Int))))=true→(0≤(a1.getD k_0 (default:Deed)).right∧(a1.getD k_0 (default:Deed)).right< (s_0.length:Int)))
@[go_sem] def dh (a0:District)(a1:List Deed)(a2:Int)(a3:Int)(s_0:List Bool)(k_1:Nat)(s_1:Unit):Unit⊕Unit:=(bif((((a0.rights.getD k_1 (default:Right)).kind !=1)&&((((cr a0 ((aD a0 a1 a2 a3).1)).1).getD k_1 (0:Int)) !=0)) ||(((a0.rights.getD k_1 (default:Right)).kind==1)&&((decide ((((cr a0 ((aD a0 a1 a2 a3).1)).1).getD k_1 (0:Int)) > (a0.rights.getD k_1 (default:Right)).litres)) ||((!(s_0.getD k_1 false))&&((((cr a0 ((aD a0 a1 a2 a3).1)).1).getD k_1 (0:Int)) !=(a0.rights.getD k_1 (default:Right)).litres)))))then .inl ()else .inr ())
def dw (a0:District)(a1:List Deed)(a2:Int)(a3:Int)(s_0:List Bool)(k_1:Nat)(s_1:Unit):Prop:=((((a0.rights.getD k_1 (default:Right)).kind !=1)=true→(0≤(k_1:Int)∧(k_1:Int) < (((cr a0 ((aD a0 a1 a2 a3).1)).1).length:Int)))∧(((((a0.rights.getD k_1 (default:Right)).kind !=1)&&((((cr a0 ((aD a0 a1 a2 a3).1)).1).getD k_1 (0:Int)) !=0))=false→(((a0.rights.getD k_1 (default:Right)).kind==1)=true→(0≤(k_1:Int)∧(k_1:Int) < (((cr a0 ((aD a0 a1 a2 a3).1)).1).length:Int))))∧(((((a0.rights.getD k_1 (default:Right)).kind !=1)&&((((cr a0 ((aD a0 a1 a2 a3).1)).1).getD k_1 (0:Int)) !=0))=false→(((a0.rights.getD k_1 (default:Right)).kind==1)=true→((decide ((((cr a0 ((aD a0 a1 a2 a3).1)).1).getD k_1 (0:Int)) > (a0.rights.getD k_1 (default:Right)).litres))=false→(0≤(k_1:Int)∧(k_1:Int) < (s_0.length:Int)))))∧((((a0.rights.getD k_1 (default:Right)).kind !=1)&&((((cr a0 ((aD a0 a1 a2 a3).1)).1).getD k_1 (0:Int)) !=0))=false→(((a0.rights.getD k_1 (default:Right)).kind==1)=true→((decide ((((cr a0 ((aD a0 a1 a2 a3).1)).1).getD k_1 (0:Int)) > (a0.rights.getD k_1 (default:Right)).litres))=false→((!(s_0.getD k_1 false))=true→(0≤(k_1:Int)∧(k_1:Int) < (((cr a0 ((aD a0 a1 a2 a3).1)).1).length:Int)))))))))
def dL (a0:District)(a1:List Deed)(a2:Int)(a3:Int):Bool:=(bif(!jh)then false else(bif((!(l9 a0 a1)) ||((aZ a0) !=0))then true else(bif((aD a0 a1 a2 a3).2 !=0)then((((aD a0 a1 a2 a3).1).length:Int) ==0)else(bif(!(cr a0 ((aD a0 a1 a2 a3).1)).2)then false else(match ay (bw a1) a1.length 0 (List.replicate (Int.toNat (a0.rights.length:Int)) false)with| .inl x=>x.elim| .inr s_0=>(match ay (dh a0 a1 a2 a3 s_0) a0.rights.length 0 ()with| .inl x_1_0=>false| .inr s_1=>true))))))
def dx (a0:District)(a1:List Deed)(a2:Int)(a3:Int):Prop:=((iT)∧((!jh)=false→(((!(l9 a0 a1)) ||((aZ a0) !=0))=false→((eb a0 a1 a2 a3)∧(((aD a0 a1 a2 a3).2 !=0)=false→((kg a0 ((aD a0 a1 a2 a3).1))∧((!(cr a0 ((aD a0 a1 a2 a3).1)).2)=false→(a0.rights.length≤cd→(((a0.rights.length:Int)=(a0.rights.length:Int)∧0≤(a0.rights.length:Int)∧(a0.rights.length:Int)*((1:Nat):Int)≤((iv:Nat):Int))∧((a0.rights.length:Int)≤((cd:Nat):Int)→(a1.length≤cd→(okI (bw a1) (fh a1) a1.length 0 (List.replicate (Int.toNat (a0.rights.length:Int)) false)∧(∀ s_0,ay (bw a1) a1.length 0 (List.replicate (Int.toNat (a0.rights.length:Int)) false)=.inr s_0→(a0.rights.length≤cd→okI (dh a0 a1 a2 a3 s_0) (dw a0 a1 a2 a3 s_0) a0.rights.length 0 ()))))))))))))))
@[go_sem] def gk:List SV→Option Con:=(pD .district fun a0=>(pR .deed fun a1=>(pI fun a2=>(pI fun a3=>(pE (.det (dx a0 a1 a2 a3) (.v (.bool (dL a0 a1 a2 a3)))))))))
theorem mQ:FnOk Tryz.prog 5 gk:=by
 have hG:ConsOk Tryz.prog (mkG [(11,qn),(12,fun l=>rN (dN [.st .district,.sl .deed] l)),(18,fun l=>lv (dN [.st .district,.sl .deed,.o,.o] l)),(24,fun l=>kL (dN [.st .district] l)),(25,fun l=>qr (dN [.st .district,.sl .holding] l))] []):=aX (cgc uC (cgc (wZ.norm [.st .district,.sl .deed]) (cgc (nE.norm [.st .district,.sl .deed,.o,.o]) (cgc (mG.norm [.st .district]) (cgc (uD.norm [.st .district,.sl .holding]) cg0))))) cg0
 refine co [.o] mixed aH hG (fn:=Tryz.f5) (c:=ae Tryz.f5) (by kernel_rfl) (by kernel_rfl) (by kernel_rfl) (by kernel_rfl) (cB fun a0=>(fM fun a1=>(dQ fun a2=>(dQ fun a3=>(bD (fun hp=>?_))))))
 dsimp only[bo]at hp
 unfold dx at hp
 refine⟨Nat.le_of_ble_eq_true rfl,(fun id st=>bif Nat.beq id 0 then some (LCR (ρ:=Empty) (σ:=(List Bool)) 4 [] [0,1,2,3] (fun k_0 s_0=>⟨[(4,.ptr 0 0),(11,.os 2),(13,.os 3),(54,.rs .deed a1),(55,.v (.int .i64 (a1.length:Int))),(56,.v (.int .i64 (k_0:Int)))],[.cells (cellsOf .district a0),.dead,.row .int ((cr a0 ((aD a0 a1 a2 a3).1)).1),.row .bool s_0]⟩) (bw a1) (fh a1) a1.length (List.replicate (Int.toNat (a0.rights.length:Int)) false) (a1.length≤cd) ((·.elim)) ((·.elim)) st)else bif Nat.beq id 2 then some (LCR (ρ:=Unit) (σ:=Unit) 4 [] [0,1,2,3] (fun k_1 s_1=>⟨[(11,.os 2),(13,.os 3),(81,.rs .right a0.rights),(82,.v (.int .i64 (a0.rights.length:Int))),(83,.v (.int .i64 (k_1:Int)))],[.dead,.dead,.row .int ((cr a0 ((aD a0 a1 a2 a3).1)).1),.row .bool (b8 (ay (bw a1) a1.length 0 (List.replicate (Int.toNat (a0.rights.length:Int)) false)))]⟩) (dh a0 a1 a2 a3 (b8 (ay (bw a1) a1.length 0 (List.replicate (Int.toNat (a0.rights.length:Int)) false)))) (dw a0 a1 a2 a3 (b8 (ay (bw a1) a1.length 0 (List.replicate (Int.toNat (a0.rights.length:Int)) false)))) a0.rights.length () (a0.rights.length≤cd) (fun _=>.ret) (fun x_1_0=>⟨[(8,.v (.bool false))],[.dead,.dead,.dead,.dead]⟩) st)else none),?_,?_⟩
 ·unfold ae Tryz.f5
  simp only[ar,true_and,and_true]
  refine⟨?_,?_⟩
  ·refine dJ mixed aH hG (by kernel_rfl) (fun _=>rfl) (a1.length:Int) rfl lu (fun hb0 k_0 s_0 hlt0 hq0 hw hc=>⟨L0,am _,?_⟩) (fun hb0 s_0 hc=>?_)
   ·unfold fh at hq0
    try simp only[hw,Int.toNat_natCast]at hq0
    exact p8
   ·exact p9
  ·refine dJ mixed aH hG (by kernel_rfl) (fun _=>rfl) (a0.rights.length:Int) rfl lu (fun hb1 k_1 s_1 hlt1 hq1 hw hc=>⟨L0,am _,?_⟩) (fun hb1 s_1 hc=>?_)
   ·unfold dw at hq1
    try simp only[hw,Int.toNat_natCast]at hq1
    exact p8
   ·exact p9
 ·unfold ae Tryz.f5
  try unfold dL
  simp only[go_sem,Nat.reduceBEq,Nat.reduceLeDiff,Nat.reduceLT,decide_true,Nat.reduceAdd,Nat.reduceSub,Nat.reduceMul,Int.reduceLE,Int.reduceLT,Int.reduceToNat,Int.reduceNeg,reduceCtorEq]
  all_goals exact cl
end Go.Sx
end
section
namespace Go.Sx
open Go.Proofs
def iq (r:Int):List Holding→Int
 | [] =>0
 |x::l=>(if x.right=r then x.litres else 0)+iq r l
theorem qs (r:Int)(a b:List Holding):iq r (a++b)=iq r a+iq r b:=by
 induction a with
 |nil=>simp[iq]
 |cons x a ih=>simp only[List.cons_append,iq,ih];omega
theorem Bp (r:Int){l:List Holding}(h:∀ x∈l,0<x.litres):0≤iq r l:=by
 induction l with
 |nil=>exact Int.le_refl _
 |cons x l ih=>
  have:=h x List.mem_cons_self
  have:=ih fun y hy=>h y (List.mem_cons_of_mem _ hy)
  unfold iq
  split <;>omega
theorem yI {d:District}{B:Int→Int→Int}{r:Nat}(hB:∀ f,0≤B r f):∀ n:Nat,iq r ((List.range n).filterMap (rM d B r))=tot n (B r)
 |0=>rfl
 |n+1=>by
  rw[List.range_succ,List.filterMap_append,qs,yI hB n]
  show _=tot n (B r)+B r n
  congr 1
  have:=hB n
  by_cases h0:0<B r n
  ·have e:rM d B r n=some { right:=(r:Int),farm:=(n:Int),litres:=B r n,rank:=(d.rights.getD r default).rank}:=by unfold rM;rw[if_pos h0]
   rw[List.filterMap_cons_some e]
   simp[iq]
  ·have e:rM d B r n=none:=by unfold rM;rw[if_neg h0]
   rw[List.filterMap_cons_none e]
   simp[iq];omega
theorem ub {d:District}{B:Int→Int→Int}{r:Int}{r':Nat}(h:(r':Int)≠r):iq r (iR d B r')=0:=by
 have:∀ l:List Holding,(∀ x∈l,x.right=(r':Int))→iq r l=0:=fun l=>by
  induction l with
  |nil=>intro _;rfl
  |cons x l ih=>
   intro hl
   unfold iq
   rw[ih fun y hy=>hl y (List.mem_cons_of_mem _ hy),if_neg (by rw[hl x List.mem_cons_self];exact h)]
   rfl
 refine this _ fun x hx=>?_
 obtain⟨f,_,_,rfl⟩:=iS.1 hx
 rfl
theorem uc {d:District}{B:Int→Int→Int}(hB:∀ r f,0≤B r f){r:Nat}(hr:r<d.rights.length):iq r (b7 d B)=tot d.farms.length (B r):=by
 have key:∀ n:Nat,iq r ((List.range n).flatMap (iR d B))=if r<n then tot d.farms.length (B r)else 0:=fun n=>by
  induction n with
  |zero=>rfl
  |succ n ih=>
   rw[List.range_succ,List.flatMap_append,qs,ih,List.flatMap_cons,List.flatMap_nil,List.append_nil]
   by_cases h1:r<n
   ·rw[if_pos h1,if_pos (by omega),ub (by omega)];omega
   ·rw[if_neg h1]
    by_cases h2:r=n
    ·subst h2
     rw[if_pos (by omega)]
     have:=yI (d:=d) (B:=B) (r:=r) (hB r) d.farms.length
     unfold iR
     rw[this];omega
    ·rw[if_neg (by omega),ub (by omega)];rfl
 unfold b7
 rw[key,if_pos hr]
theorem w5 {d:District}{r:Int}{L:Int}:∀ (ds:List Deed) (B:Int→Int→Int),(∀ x∈ds,Fit d x∧x.kind≠4)→Good d.farms.length L (B r)→Good d.farms.length L (rX ds B r)∧((∀ x∈ds,x.right=r→x.kind≠3)→tot d.farms.length (rX ds B r)=tot d.farms.length (B r))
 | [],B,_,hg=>⟨hg,fun _=>rfl⟩
 |x::ds,B,h,hg=>by
  have hx:=h x List.mem_cons_self
  have h1:Good d.farms.length L (iQ x B r)∧((x.right=r→x.kind≠3)→tot d.farms.length (iQ x B r)=tot d.farms.length (B r)):=by
   unfold iQ
   by_cases e:r=x.right
   ·rw[if_pos e]
    obtain⟨q1,q2⟩:=yD hx.1 hx.2 hg
    exact⟨q1,fun hk=>q2 (hk e.symm)⟩
   ·rw[if_neg e];exact⟨hg,fun _=>rfl⟩
  obtain⟨q1,q2⟩:=w5 ds (iQ x B) (fun y hy=>h y (List.mem_cons_of_mem _ hy)) h1.1
  exact⟨q1,fun hk=>(q2 fun y hy=>hk y (List.mem_cons_of_mem _ hy)).trans (h1.2 (hk x List.mem_cons_self))⟩
theorem yJ {d:District}{r:Int}(hr:¬ (0≤r∧r< (d.rights.length:Int)∧(d.rights.getD r.toNat default).kind=1)):∀ (ds:List Deed) (B:Int→Int→Int),(∀ x∈ds,Fit d x∧x.kind≠4)→rX ds B r=B r
 | [],B,_=>rfl
 |x::ds,B,h=>by
  have h1:=h x List.mem_cons_self
  have h2:=h1.1.held h1.2
  show rX ds (iQ x B) r=_
  rw[yJ hr ds _ fun y hy=>h y (List.mem_cons_of_mem _ hy)]
  unfold iQ
  rw[if_neg (fun e=>hr (by rw[e];exact⟨h2.1,h2.2.1,h2.2.2.1⟩))]
theorem t0:∀ n,tot n (fun _=>0)=0:=fun n=>by
 induction n with
 |zero=>rfl
 |succ n ih=>unfold tot;rw[ih];rfl
theorem w6 {d:District}(h:aZ d=0){k:Nat}(hk:k<d.rights.length)(ht:(d.rights.getD k default).kind=1):Good d.farms.length (d.rights.getD k default).litres (B0 d k)∧tot d.farms.length (B0 d k)=(d.rights.getD k default).litres:=by
 have hto:=sd h hk ht
 have hl:=hto.l0
 have e:B0 d k=fV (fun _=>0) (d.rights.getD k default).farm (d.rights.getD k default).litres:=by
  funext f
  unfold B0 fV
  rw[Int.toNat_natCast]
  by_cases hf:f=(d.rights.getD k default).farm
  ·rw[if_pos ⟨by omega,by omega,ht,hf.symm⟩,if_pos hf]
  ·rw[if_neg (fun h=>hf h.2.2.2.symm),if_neg hf]
 rw[e]
 refine⟨Good.put (L:=0) ⟨fun _=>Int.le_refl _,fun f hf=>absurd rfl hf,by rw[t0];exact Int.le_refl _⟩ hto.f0 hto.f1 (by omega) (by rw[t0];omega),?_⟩
 rw[mA _ _ _ _ hto.f0 hto.f1,t0];omega
theorem HB {d:District}{r:Int}(hr:¬ (0≤r∧r< (d.rights.length:Int)∧(d.rights.getD r.toNat default).kind=1)):B0 d r=fun _=>0:=by
 funext f
 unfold B0
 rw[if_neg (fun h=>hr ⟨h.1,h.2.1,h.2.2.1⟩)]
structure Held (d:District)(B:Int→Int→Int):Prop where
 nn:∀ r f,0≤B r f
 take:∀ k,k<d.rights.length→(d.rights.getD k default).kind=1→Good d.farms.length (d.rights.getD k default).litres (B k)
 other:∀ r:Int,¬ (0≤r∧r< (d.rights.length:Int)∧(d.rights.getD r.toNat default).kind=1)→B r=fun _=>0
theorem E1 {d:District}(h:aZ d=0){ds:List Deed}(hd:∀ x∈ds,Fit d x∧x.kind≠4):Held d (rX ds (B0 d)):=by
 have ht:∀ k,k<d.rights.length→(d.rights.getD k default).kind=1→Good d.farms.length (d.rights.getD k default).litres (rX ds (B0 d) k):=fun k hk hkk=>(w5 ds _ hd (w6 h hk hkk).1).1
 have ho:∀ r:Int,¬ (0≤r∧r< (d.rights.length:Int)∧(d.rights.getD r.toNat default).kind=1)→rX ds (B0 d) r=fun _=>0:=fun r hr=>(yJ hr ds _ hd).trans (HB hr)
 refine⟨fun r f=>?_,ht,ho⟩
 by_cases hr:0≤r∧r< (d.rights.length:Int)∧(d.rights.getD r.toNat default).kind=1
 ·have:=(ht r.toNat (by omega) hr.2.2).nn f
  rwa[Int.toNat_of_nonneg hr.1]at this
 ·rw[ho r hr];exact Int.le_refl _
theorem Held.le {d:District}{B:Int→Int→Int}(h:Held d B)(he:aZ d=0)(r f:Int):B r f≤1073741824:=by
 by_cases hr:0≤r∧r< (d.rights.length:Int)∧(d.rights.getD r.toNat default).kind=1
 ·have hg:=h.take r.toNat (by omega) hr.2.2
  have ht:=sd he (k:=r.toNat) (by omega) hr.2.2
  have:=hg.le (by have:=ht.l0;omega) f
  rw[Int.toNat_of_nonneg hr.1]at this
  have:=ht.l1
  omega
 ·rw[h.other r hr];simp
theorem Held.tot {d:District}{B:Int→Int→Int}(h:Held d B)(he:aZ d=0){k:Nat}(hk:k<d.rights.length):0≤Go.Sx.tot d.farms.length (B k)∧Go.Sx.tot d.farms.length (B k)≤1073741824:=by
 refine⟨Af (h.nn k) _,?_⟩
 by_cases hkk:(d.rights.getD k default).kind=1
 ·have:=(h.take k hk hkk).tot
  have:=(sd he hk hkk).l1
  omega
 ·rw[h.other k (fun hr=>hkk (by rw[Int.toNat_natCast]at hr;exact hr.2.2)),t0];omega
theorem HC {d:District}{B:Int→Int→Int}(he:aZ d=0)(hR:Right1 d)(hB:Held d B):kg d (b7 d B)∧∃ n,cr d (b7 d B)=(n,true)∧n.length=d.rights.length∧∀ k,k<d.rights.length→n.getD k 0=Go.Sx.tot d.farms.length (B k):=by
 have hS:=mB d B
 have hlen:=vE hR B
 have hrl:=hR.rights
 have step:∀ j s,j< (b7 d B).length→(s:List Int).length=d.rights.length→(∀ r:Nat,r<d.rights.length→s.getD r 0=iq r ((b7 d B).take j))→fH d (b7 d B) j s∧∃ s',fL d (b7 d B) j s=.inr s'∧s'.length=d.rights.length∧∀ r:Nat,r<d.rights.length→s'.getD r 0=iq r ((b7 d B).take (j+1)):=fun j s hj h1 h2=>by
  have hm:(b7 d B).getD j default∈b7 d B:=by rw[jr _ _ hj];exact List.getElem_mem _
  obtain⟨a,b,c,e,f,g,i⟩:=kv.1 hm
  have hle:=hB.le he ((b7 d B).getD j default).right ((b7 d B).getD j default).farm
  have hprev:0<j→hlt ((b7 d B).getD (j - 1) default) ((b7 d B).getD j default):=fun h0=>by
   rw[jr _ _ (by omega:j - 1<_),jr _ _ hj]
   exact List.pairwise_iff_getElem.1 hS (j - 1) j (by omega) hj (by omega)
  have hw:0<j→IntKind.i64.wrap ((j:Int) - 1)=((j - 1:Nat):Int):=fun h0=>vj (by omega) h0
  have hadd:iq ((b7 d B).getD j default).right.toNat ((b7 d B).take j)+((b7 d B).getD j default).litres≤1073741824:=by
   have h3:=uc (d:=d) hB.nn (r:=((b7 d B).getD j default).right.toNat) (by omega)
   have h4:=(hB.tot he (k:=((b7 d B).getD j default).right.toNat) (by omega)).2
   rw[←h3]at h4
   have h5:b7 d B=(b7 d B).take j++(b7 d B).getD j default::(b7 d B).drop (j+1):=by
    rw[jr _ _ hj]
    conv=>lhs;rw[←List.take_append_drop j (b7 d B),List.drop_eq_getElem_cons hj]
   have h6:=congrArg (iq ((b7 d B).getD j default).right.toNat) h5
   rw[qs]at h6
   simp only[iq]at h6
   rw[if_pos (by omega)]at h6
   have h7:=Bp ((b7 d B).getD j default).right.toNat (l:=(b7 d B).drop (j+1)) fun x hx=>(kv.1 (List.mem_of_mem_drop hx)).2.2.2.2.1
   omega
  have hnn:=Bp ((b7 d B).getD j default).right.toNat (l:=(b7 d B).take j) fun x hx=>(kv.1 (List.mem_of_mem_take hx)).2.2.2.2.1
  have htake:∀ r:Int,iq r ((b7 d B).take (j+1))=iq r ((b7 d B).take j)+(if((b7 d B).getD j default).right=r then((b7 d B).getD j default).litres else 0):=fun r=>by
   rw[cP _ default hj,qs];simp[iq]
  unfold fH fL
  generalize (b7 d B).getD j default=x at *
  have k1:(((((((decide (x.right<0)) ||(decide (x.right≥(d.rights.length:Int)))) ||(decide (x.farm<0))) ||(decide (x.farm≥(d.farms.length:Int)))) ||(decide (x.litres<1))) ||(decide (x.litres > 1073741824))) ||(x.rank !=(d.rights.getD (Int.toNat x.right) (default:Right)).rank))=false:=by
   simp only[Bool.or_eq_false_iff,decide_eq_false_iff_not,bne_eq_false_iff_eq]
   refine⟨⟨⟨⟨⟨⟨by omega,by omega⟩,by omega⟩,by omega⟩,by omega⟩,by omega⟩,i⟩
  have k2:((decide ((j:Int) > 0))&&((decide (((b7 d B).getD (Int.toNat (IntKind.i64.wrap ((j:Int) - 1))) (default:Holding)).right > x.right)) ||((((b7 d B).getD (Int.toNat (IntKind.i64.wrap ((j:Int) - 1))) (default:Holding)).right==x.right)&&(decide (((b7 d B).getD (Int.toNat (IntKind.i64.wrap ((j:Int) - 1))) (default:Holding)).farm≥x.farm)))))=false:=by
   by_cases h0:0<j
   ·rw[hw h0,Int.toNat_natCast]
    have h3:=hprev h0
    simp only[hlt,pW,and_false,or_false]at h3
    simp only[Bool.and_eq_false_iff,Bool.or_eq_false_iff,decide_eq_false_iff_not,beq_eq_false_iff_ne]
    refine .inr ⟨by omega,?_⟩
    by_cases h4:((b7 d B).getD (j - 1) default).right=x.right
    ·exact .inr (by omega)
    ·exact .inl h4
   ·rw[decide_eq_false (by omega)];rfl
  have kw:(decide ((j:Int) > 0))=true→(0≤(IntKind.i64.wrap ((j:Int) - 1))∧(IntKind.i64.wrap ((j:Int) - 1)) < ((b7 d B).length:Int)):=fun h=>by
   rw[decide_eq_true_eq]at h
   rw[hw (by omega)];omega
  rw[k1,k2]
  simp only[cond_false]
  have hx:s.getD x.right.toNat 0=iq x.right.toNat ((b7 d B).take j):=h2 _ (by omega)
  rw[hx,bQ (n:=iq (x.right.toNat:Int) ((b7 d B).take j)+x.litres) (by omega) (by omega)]
  refine⟨⟨fun _=>⟨a,b⟩,fun _=>⟨kw,fun h _=>kw h,fun h _ _=>kw h,fun _=>⟨by omega,by omega⟩⟩⟩,_,rfl,by rw[List.length_set];exact h1,fun r hr=>?_⟩
  rw[htake]
  by_cases e2:r=x.right.toNat
  ·subst e2
   rw[if_pos (by omega),List.getD_eq_getElem?_getD,List.getElem?_set_self (by omega)];rfl
  ·rw[if_neg (by omega),List.getD_eq_getElem?_getD,List.getElem?_set_ne (fun h=>e2 h.symm),←List.getD_eq_getElem?_getD,h2 r hr];omega
 have h0:(List.replicate (Int.toNat (d.rights.length:Int)) (0:Int)).length=d.rights.length∧∀ r:Nat,r<d.rights.length→(List.replicate (Int.toNat (d.rights.length:Int)) (0:Int)).getD r 0=iq r ((b7 d B).take 0):=by
  refine⟨by simp,fun r hr=>?_⟩
  rw[Int.toNat_natCast,List.getD_eq_getElem?_getD,List.getElem?_replicate]
  simp[iq,hr]
 obtain⟨n,e1,e2,e3⟩:=mv (step:=fL d (b7 d B)) (fun j s=>(s:List Int).length=d.rights.length∧∀ r:Nat,r<d.rights.length→s.getD r 0=iq r ((b7 d B).take j)) (b7 d B).length 0 _ h0 (fun j s _ hj hs=>(step j s (by omega) hs.1 hs.2).2)
 refine⟨fun _=>⟨⟨rfl,by omega,by unfold iv;omega⟩,fun _ _=>sa (fun j s=>(s:List Int).length=d.rights.length∧∀ r:Nat,r<d.rights.length→s.getD r 0=iq r ((b7 d B).take j)) _ _ _ h0 fun j s _ hj hs=>⟨(step j s (by omega) hs.1 hs.2).1,fun s' h=>by
   obtain⟨s2,q1,q2⟩:=(step j s (by omega) hs.1 hs.2).2
   rw[q1]at h;cases h;exact q2⟩⟩,n,?_,e2,fun k hk=>?_⟩
 ·unfold cr
  rw[e1]
 ·rw[e3 k hk,Nat.zero_add,List.take_length,uc hB.nn hk]
end Go.Sx
end
section
namespace Go.Sx
open Go.Proofs
theorem Cy (l:List Deed)(n:Nat):∃ s,ay (bw l) l.length 0 (List.replicate n false)=.inr s∧s.length=n∧∀ r:Nat,r<n→s.getD r false=false→∀ x∈l,x.right=(r:Int)→x.kind≠3:=by
 obtain⟨s,h1,h2,h3⟩:=mv (step:=bw l) (fun j s=>s.length=n∧∀ r:Nat,r<n→s.getD r false=false→∀ x∈l.take j,x.right=(r:Int)→x.kind≠3) l.length 0 (List.replicate n false) ⟨by simp,fun r _ _ x hx=>by simp at hx⟩ (fun j s _ hj ⟨j1,j2⟩ =>by
  rw[Nat.zero_add]at hj
  unfold bw
  rw[cP l default hj]
  generalize l.getD j default=y at *
  cases hc:((y.kind==3)&&(decide (y.right≥0)))&&(decide (y.right< (s.length:Int)))with
  |true=>
   simp only[Bool.and_eq_true,beq_iff_eq,decide_eq_true_eq]at hc
   refine⟨_,rfl,by rw[List.length_set];exact j1,fun r hr hs x hx hxr=>?_⟩
   have hne:y.right.toNat≠r:=fun e=>by
    subst e
    rw[List.getD_eq_getElem?_getD,List.getElem?_set_self (by omega)]at hs
    simp at hs
   rw[List.getD_eq_getElem?_getD,List.getElem?_set_ne hne,←List.getD_eq_getElem?_getD]at hs
   rcases List.mem_append.1 hx with hx|hx
   ·exact j2 r hr hs x hx hxr
   ·simp only[List.mem_singleton]at hx
    subst hx
    omega
  |false=>
   refine⟨s,rfl,j1,fun r hr hs x hx hxr=>?_⟩
   rcases List.mem_append.1 hx with hx|hx
   ·exact j2 r hr hs x hx hxr
   ·simp only[List.mem_singleton]at hx
    subst hx
    intro hk
    simp only[Bool.and_eq_false_iff,beq_eq_false_iff_ne,decide_eq_false_iff_not]at hc
    rcases hc with(hc|hc) |hc
    ·exact hc hk
    ·omega
    ·omega)
 rw[Nat.zero_add,List.take_length]at h3
 exact⟨s,h1,h2,h3⟩
theorem yK (d:District)(l:List Deed)(h k:Int):dx d l h k∧dL d l h k=true:=by
 unfold dx dL
 rw[Kp]
 simp only[Bool.not_true,cond_false]
 cases hf:((!(l9 d l)) ||((aZ d) !=0))with
 |true=>exact⟨⟨Ak,(fun _ h=>by cases h)⟩,rfl⟩
 |false=>
  simp only[cond_false]
  simp only[Bool.or_eq_false_iff,bne_eq_false_iff_eq]at hf
  have he:=hf.2
  obtain⟨ap,av⟩:=t8 d l h k
  cases hR:((aD d l h k).2 !=0)with
  |true=>
   refine⟨⟨Ak,fun _ _=>⟨ap,(fun h=>by cases h)⟩⟩,?_⟩
   simp only[cond_true]
   rw[av]at hR ⊢
   split
   ·rfl
   ·split
    ·rename_i h1 h2
     rw[if_neg h1,if_pos h2]at hR
     cases hR
    ·rfl
  |false=>
   have hR:(aD d l h k).2=0:=by simpa using hR
   simp only[cond_false]
   have hc:an d l=0:=by
    rcases Classical.em (an d l=0)with hc|hc
    ·exact hc
    ·rw[av,if_pos hc]at hR;exact absurd hR hc
   have hD:=qh hc
   have hg:(aD d l h k).1=b7 d (ln d l h k):=by
    rw[av,if_neg (by simp[hc])]at hR ⊢
    split
    ·rfl
    ·rename_i h2
     rw[if_neg h2]at hR;simp at hR
   have hlf:=qk hD h k
   have hH:=E1 he hlf
   rw[hg]
   obtain⟨sp,n,sv,n1,n2⟩:=HC he hD.right (B:=ln d l h k) hH
   rw[sv]
   have hrl:=hD.right.rights
   obtain⟨s,q1,q2,q3⟩:=Cy l d.rights.length
   have q1':ay (bw l) l.length 0 (List.replicate (Int.toNat (d.rights.length:Int)) false)=.inr s:=by rw[Int.toNat_natCast];exact q1
   have hl1:∀ j,j<d.rights.length→dw d l h k s j ()∧dh d l h k s j ()=.inr ():=fun j hj=>by
    have ht:=n2 j hj
    unfold dw dh
    rw[hg,sv]
    simp only[ht,n1,q2]
    refine⟨⟨fun _=>by omega,fun _ _=>by omega,fun _ _ _=>by omega,fun _ _ _ _=>by omega⟩,?_⟩
    by_cases hk:(d.rights.getD j default).kind=1
    ·have b1:((d.rights.getD j default).kind !=1)=false:=by simpa using hk
     have b2:((d.rights.getD j default).kind==1)=true:=by rw[hk];rfl
     have hgood:tot d.farms.length (ln d l h k j)≤(d.rights.getD j default).litres:=(hH.take j hj hk).tot
     have b3:decide (tot d.farms.length (ln d l h k j) > (d.rights.getD j default).litres)=false:=by rw[decide_eq_false_iff_not];omega
     rw[b1,b2,b3]
     cases hs:s.getD j false with
     |true=>rfl
     |false=>
      have hno:=q3 j hj hs
      have e1:=(w5 (d:=d) (r:=(j:Int)) (stS (rb l h k)) (B0 d) hlf (w6 he hj hk).1).2 fun x hx hxr=>hno x (List.mem_filter.1 (Bf.1 hx)).1 hxr
      have e2:tot d.farms.length (ln d l h k j)=(d.rights.getD j default).litres:=e1.trans (w6 he hj hk).2
      rw[e2]
      simp
    ·have b1:((d.rights.getD j default).kind==1)=false:=by simpa using hk
     have e1:ln d l h k j=fun _=>0:=hH.other j fun hr=>hk (by rw[Int.toNat_natCast]at hr;exact hr.2.2)
     rw[b1,e1,t0]
     simp
   refine⟨⟨Ak,fun _ _=>⟨ap,fun _=>⟨sp,fun _ _=>⟨⟨by simp,by omega,by unfold iv;omega⟩,fun _ _=>⟨?_,fun z hz=>?_⟩⟩⟩⟩⟩,?_⟩
   ·refine mo _ _ _ fun j s _ _ hh=>?_
    simp only[Bool.and_eq_true,decide_eq_true_eq]at hh
    omega
   ·rw[q1']at hz;cases hz
    exact fun _=>mo _ _ _ fun j s _ hj=>(hl1 j (by omega)).1
   ·rw[q1']
    simp only[cond_false]
    have e:ay (dh d l h k s) d.rights.length 0 ()=.inr ():=jM.2 fun j hj=>(hl1 j hj).2
    rw[e]
    rfl
theorem Ks (d:District)(l:List Deed)(h k:Int)(_: -9223372036854775808≤h∧h≤9223372036854775807)(_: -9223372036854775808≤k∧k≤9223372036854775807):dx d l h k:=(yK d l h k).1
theorem Kt (d:District)(l:List Deed)(h k:Int)(_: -9223372036854775808≤h∧h≤9223372036854775807)(_: -9223372036854775808≤k∧k≤9223372036854775807):dL d l h k=true:=(yK d l h k).2
end Go.Sx
end
section
namespace Go.Sx
open Go.RowKit Go.Deep
section
variable {F:Nat→Prop}{own:Own}{w:World}
def RC (F:Nat→Prop)(own:Own)(w:World)(ks:List Kd)(cs:List Value):Prop:=
 ∃ l:List SV,lz ks l=true∧l.length=cs.length∧∀ (j:Nat) (s:SV) (v:Value),l[j]? =some s→cs[j]? =some v→Rel F own w s v
theorem yL:∀ {a b:List Kd} {l m:List SV},lz a l=true→lz b m=true→lz (a++b) (l++m)=true
 | [],b,l,m,h1,h2=>by rw[lI h1];exact h2
 |k::a,b,l,m,h1,h2=>by
  obtain⟨x,r,rfl,e1,e2⟩:=i9 h1
  simp only[List.cons_append,lz,e1,yL e2 h2,Bool.and_self]
theorem RC.nil:RC F own w [] []:=⟨[],rfl,rfl,fun j s v h=>by cases h⟩
theorem RC.app {a b:List Kd}{c d:List Value}(h1:RC F own w a c)(h2:RC F own w b d):RC F own w (a++b) (c++d):=by
 obtain⟨l,f1,n1,r1⟩:=h1
 obtain⟨m,f2,n2,r2⟩:=h2
 refine⟨l++m,yL f1 f2,by simp[n1,n2],fun j s v hs hv=>?_⟩
 by_cases hj:j<l.length
 ·rw[List.getElem?_append_left hj]at hs
  rw[List.getElem?_append_left (by omega)]at hv
  exact r1 j s v hs hv
 ·rw[List.getElem?_append_right (by omega)]at hs
  rw[List.getElem?_append_right (by omega),←n1]at hv
  exact r2 _ s v hs hv
theorem RC.one {k:Kd}{s:SV}{v:Value}(h1:fit k s=true)(h2:Rel F own w s v):RC F own w [k] [v]:=
 ⟨[s],by simp[lz,h1],rfl,fun j s' v' hs hv=>by
  cases j with
  |zero=>simp only[List.getElem?_cons_zero,Option.some.injEq]at hs hv;subst hs;subst hv;exact h2
  |succ j=>simp at hs⟩
end
def Ku:Kd→Kd→Bool
 | .s,.s=>true
 | .b,.b=>true
 | .n a,.n b=>decide (a=b)
 | .r a,.r b=>decide (a=b)
 | .m a c,.m b d=>decide (a=b)&&decide (c=d)
 |_,_=>false
theorem HD:∀ {a b:Kd},Ku a b=true→a=b:=by
 intro a b h
 cases a <;>cases b <;>simp_all [Ku]
def E2:List Kd→List Kd→Bool
 | [],[] =>true
 |a::l,b::m=>Ku a b&&E2 l m
 |_,_=>false
theorem Bq:∀ {a b:List Kd},E2 a b=true→a=b
 | [],[],_=>rfl
 |a::l,b::m,h=>by
  simp only[E2,Bool.and_eq_true]at h
  rw[HD h.1,Bq h.2]
def ud (P:Program)(g:TypeId→Option (List Kd)):List Field→Nat→Nat→Option (List Kd)
 | [],off,tot=>bif Nat.beq off tot then some []else none
 |f::r,off,tot=>match g f.type with
  |some a=>bif Nat.beq f.offset off&&Nat.beq a.length (P.cellsOf f.type)then(ud P g r (off+a.length) tot).map (a++ ·)else none
  |none=>none
def Al (a:List Kd):Nat→List Kd
 |0=>[]
 |n+1=>a++Al a n
def ue (P:Program):Nat→TypeId→Option (List Kd)
 |0,_=>none
 |n+1,t=>match P.underlying t with
  |some .bool=>some [.b]
  |some (.int k) =>some [.n k]
  |some .string=>some [.s]
  |some (.slice e) =>match xc P e,ue P n e with
   |some k,some ks=>bif E2 ks (cH k)&&Nat.beq (P.cellsOf e) (aa k)&&Nat.ble 1 (aa k)then some [.r k]else none
   |_,_=>none
  |some (.struct fs) =>ud P (ue P n) fs.toList 0 (P.cellsOf t)
  |some (.array m e) =>match ue P n e with
   |some a=>bif Nat.beq a.length (P.cellsOf e)&&Nat.beq (P.cellsOf t) (m*a.length)then some (Al a m)else none
   |none=>none
  |_=>none
section
variable {H:Type}{enc:TypeId×Value→H}{P:Program}{F:Nat→Prop}{own:Own}{w:World}{base:Nat}{spare:Nat→Bool}{held:Bool}{S:DataW H→Prop}
theorem Br {g:TypeId→Option (List Kd)}(hg:∀ t ks,g t=some ks→∀ (fuel:Nat) (cs:List Value) (x:DataW H×List MemPlace),DataW.trod enc P w base spare held fuel t cs=some x→S x.1→RC F own w ks cs)
  (fuel:Nat) (cs:List Value):∀ (fs:List Field) (off:Nat) (ks:List Kd),ud P g fs off cs.length=some ks→(∀ f∈fs,∃ x,DataW.trod enc P w base spare held fuel f.type ((cs.drop f.offset).take (P.cellsOf f.type))=some x∧S x.1)→RC F own w ks (cs.drop off)
 | [],off,ks,h,_=>by
  unfold ud at h
  cases hb:Nat.beq off cs.length with
  |false=>rw[hb]at h;cases h
  |true=>
   rw[hb]at h
   have:off=cs.length:=Nat.eq_of_beq_eq_true hb
   subst this
   cases h
   rw[List.drop_length]
   exact RC.nil
 |f::r,off,ks,h,hx=>by
  unfold ud at h
  cases ha:g f.type with
  |none=>rw[ha]at h;cases h
  |some a=>
   rw[ha]at h
   dsimp only at h
   cases hb:Nat.beq f.offset off&&Nat.beq a.length (P.cellsOf f.type)with
   |false=>rw[hb]at h;cases h
   |true=>
    rw[hb]at h
    simp only[cond_true,Option.map_eq_some_iff]at h
    obtain⟨ks2,h2,rfl⟩:=h
    rw[Bool.and_eq_true]at hb
    have e1:f.offset=off:=Nat.eq_of_beq_eq_true hb.1
    have e2:a.length=P.cellsOf f.type:=Nat.eq_of_beq_eq_true hb.2
    obtain⟨x,hx1,hs1⟩:=hx f (by simp)
    have h3:=hg _ _ ha _ _ _ hx1 hs1
    have h4:=Br hg fuel cs r (off+a.length) ks2 h2 fun f hf=>hx f (by simp[hf])
    have:=h3.app h4
    rw[e1,←e2]at this
    rwa[←List.drop_drop,List.take_append_drop]at this
theorem Bt {e:TypeId}{a:List Kd}(ha:∀ (fuel:Nat) (cs:List Value) (x:DataW H×List MemPlace),DataW.trod enc P w base spare held fuel e cs=some x→S x.1→RC F own w a cs)
  (fuel:Nat):∀ (m:Nat) (cs:List Value),cs.length=m*a.length→(∀ i,i<m→∃ x,DataW.trod enc P w base spare held fuel e ((cs.drop (i*a.length)).take a.length)=some x∧S x.1)→RC F own w (Al a m) cs
 |0,cs,h,_=>by
  have:cs=[]:=by simpa using h
  subst this
  exact RC.nil
 |m+1,cs,h,hx=>by
  obtain⟨x,hx1,hs1⟩:=hx 0 (by omega)
  rw[Nat.zero_mul,List.drop_zero]at hx1
  have h3:=ha _ _ _ hx1 hs1
  have h4:=Bt ha fuel m (cs.drop a.length) (by rw[List.length_drop,h,Nat.succ_mul];omega) fun i hi=>by
   obtain⟨x,hx2,hs2⟩:=hx (i+1) (by omega)
   refine⟨x,?_,hs2⟩
   rw[List.drop_drop]
   rwa[Nat.succ_mul,Nat.add_comm]at hx2
  have:=h3.app h4
  rwa[List.take_append_drop]at this
structure Small (S:DataW H→Prop):Prop where
 agg:∀ l,S (.agg l)→∀ d∈l,S d
 slice:∀ l m,S (.slice l m)→l.length≤cd∧∀ d∈l,S d
theorem kU (hS:Small S)(hown:∀ b,¬bR F own b):∀ (n:Nat) (t:TypeId) (ks:List Kd),ue P n t=some ks→∀ (fuel:Nat) (cs:List Value) (x:DataW H×List MemPlace),DataW.trod enc P w base spare held fuel t cs=some x→S x.1→RC F own w ks cs
 |0,_,_,h,_,_,_,_,_=>by cases h
 |n+1,t,ks,h,fuel,cs,x,hx,hs=>by
  unfold ue at h
  split at h
  ·rename_i ht
   cases h
   obtain⟨b,rfl,rfl⟩:=DataW.trod_bool ht hx
   exact RC.one (s:=.v (.bool b)) rfl (.v _)
  ·rename_i k ht
   cases h
   obtain⟨m,rfl,rfl,_⟩:=DataW.trod_int ht hx
   exact RC.one (s:=.v (.int k m)) (by simp[fit]) (.v _)
  ·rename_i ht
   cases h
   obtain⟨b,rfl,rfl,_⟩:=DataW.trod_string ht hx
   exact RC.one (s:=.v (.string b)) rfl (.v _)
  ·rename_i e ht
   split at h
   ·rename_i k ks2 hk hks
    cases hb:E2 ks2 (cH k)&&Nat.beq (P.cellsOf e) (aa k)&&Nat.ble 1 (aa k)with
    |false=>rw[hb]at h;cases h
    |true=>
     rw[hb]at h
     cases h
     simp only[Bool.and_eq_true]at hb
     have e1:=Bq hb.1.1
     have e2:P.cellsOf e=aa k:=Nat.eq_of_beq_eq_true hb.1.2
     have e3:1≤aa k:=Nat.le_of_ble_eq_true hb.2
     subst e1
     rcases open_slice ht hx with⟨rfl,rfl⟩ | ⟨a,len,cap,m,f2,D,Pl,rfl,hb1,hl,hm,hmm,rfl,hel⟩
     ·exact RC.one (s:=.rs k []) (by simp[fit]) .rs0
     ·have hlm:len≤m:=by subst hmm;split <;>omega
      obtain⟨hs1,hs2⟩:=hS.slice _ _ hs
      simp only[List.length_map,List.length_range]at hs1
      have helt:∀ i,i<len→∃ cs',cs'.length=aa k∧(∀ j v,cs'[j]? =some v→w.cell? ((a.add (i*aa k)).add j)=some v)∧RC F own w (cH k) cs':=fun i hi=>by
       obtain⟨cs',h1,h2⟩:=hel i (by omega)
       have h3:=kU hS hown n e (cH k) hks f2 cs' _ h2 (hs2 _ (List.mem_map_of_mem (List.mem_range.2 hi)))
       unfold World.cells? at h1
       split at h1
       ·refine⟨cs',by rw[mapM_some_length h1,List.length_range,e2],fun j v hj=>?_,h3⟩
        have hlt:j<P.cellsOf e:=by
         have:=(List.getElem?_eq_some_iff.1 hj).1
         rwa[mapM_some_length h1,List.length_range]at this
        have:=mapM_some_get h1 j j (by simp[hlt])
        rw[e2]at this
        rw[this,hj]
       ·cases h1
      by_cases h0:len=0
      ·subst h0
       exact RC.one (s:=.rs k []) (by simp[fit]) .rs0
      ·have hsp:a.spot=none:=by
        obtain⟨cs',h1,h2,_⟩:=helt 0 (by omega)
        have:=h2 0 (cs'[0]'(by omega)) (by rw[List.getElem?_eq_getElem])
        rw[Nat.zero_mul]at this
        simp only[Addr.add,if_true]at this
        unfold World.cell? at this
        split at this
        ·cases hsp:a.spot with
         |none=>rfl
         |some q=>rw[hsp]at this;simp at this
        ·cases this
       obtain⟨ab,ao,asp⟩:=a
       dsimp only at hsp
       subst hsp
       haveI:Inhabited k.T:=⟨di k⟩
       obtain⟨X,hX⟩:=choose_lt (p:=fun i (x:k.T) =>∀ (j:Nat) (s:SV),(cellsOf k x)[j]? =some s→∃ v,w.cell? ⟨ab,ao+i*aa k+j,none⟩=some v∧Rel F own w s v) (n:=len) fun i hi=>by
        obtain⟨cs',h1,h2,l,h3,h4,h5⟩:=helt i hi
        refine⟨mkE k l,fun j s hj=>?_⟩
        rw[jC (k:=k) (l:=l) (x:=mkE k l) (by unfold lA;rw[h3];rfl)]at hj
        have hlt:j<cs'.length:=by
         have:=(List.getElem?_eq_some_iff.1 hj).1
         omega
        refine⟨cs'[j],?_,h5 j s _ hj (List.getElem?_eq_getElem hlt)⟩
        have:=h2 j cs'[j] (List.getElem?_eq_getElem hlt)
        have hadd:∀ p q,((⟨ab,ao,none⟩:Addr).add p).add q=⟨ab,ao+p+q,none⟩:=fun p q=>by
         unfold Addr.add
         by_cases hp:p=0 <;>by_cases hq:q=0 <;>simp[hp,hq]
        rwa[hadd]at this
       have hL:((List.range len).map X).length=len:=by simp
       refine RC.one (s:=.rs k ((List.range len).map X)) (by simp[fit]) ?_
       have hget:∀ (i:Nat) (x:k.T),((List.range len).map X)[i]? =some x→i<len∧x=X i:=fun i x hi=>by
        obtain⟨h1,h2⟩:=List.getElem?_eq_some_iff.1 hi
        rw[hL]at h1
        simp only[List.getElem_map,List.getElem_range]at h2
        subst h2
        exact⟨h1,rfl⟩
       have:=Rel.rs (F:=F) (own:=own) (w:=w) (k:=k) (l:=(List.range len).map X) (b:=ab) (o:=ao) (cap:=cap) (fun i j=>(w.cell? ⟨ab,ao+i*aa k+j,none⟩).getD undef) (by rw[hL];exact hl) (by rw[hL];exact hs1)
        (fun i x hi j s hj=>by
         obtain⟨h1,rfl⟩:=hget i x hi
         obtain⟨v,h2,_⟩:=hX i h1 j s hj
         exact⟨hown _,by rw[h2];rfl⟩)
        (fun i x hi j s hj=>by
         obtain⟨h1,rfl⟩:=hget i x hi
         obtain⟨v,h2,h3⟩:=hX i h1 j s hj
         rw[h2];exact h3)
       rwa[hL]at this
   ·cases h
  ·rename_i fs ht
   obtain⟨xs,m,rfl,rfl,hl,hlen,hf⟩:=DataW.trod_struct ht hx
   rw[←hl]at h
   have:=Br (kU hS hown n) m cs fs.toList 0 ks h fun f hfm=>by
    obtain⟨i,hi,rfl⟩:=List.getElem_of_mem hfm
    have hi':i<fs.size:=by simpa using hi
    have h1:=hf i fs[i] (by simp[hi'])
    rw[List.getElem?_eq_getElem (by omega)]at h1
    refine⟨_,by simpa using h1,hS.agg _ hs _ (List.mem_map_of_mem (List.getElem_mem _))⟩
   simpa using this
  ·rename_i m e ht
   split at h
   ·rename_i a ha
    cases hb:Nat.beq a.length (P.cellsOf e)&&Nat.beq (P.cellsOf t) (m*a.length)with
    |false=>rw[hb]at h;cases h
    |true=>
     rw[hb]at h
     cases h
     rw[Bool.and_eq_true]at hb
     have e1:a.length=P.cellsOf e:=Nat.eq_of_beq_eq_true hb.1
     have e2:P.cellsOf t=m*a.length:=Nat.eq_of_beq_eq_true hb.2
     obtain⟨xs,f2,rfl,rfl,hl,hlen,hf⟩:=DataW.trod_array ht hx
     refine Bt (kU hS hown n e a ha) f2 m cs (by rw[hl,e2]) fun i hi=>?_
     have h1:=hf i hi
     rw[List.getElem?_eq_getElem (by omega),←e1]at h1
     exact⟨_,h1,hS.agg _ hs _ (List.mem_map_of_mem (List.getElem_mem _))⟩
   ·cases h
  ·cases h
end
end Go.Sx
end
section
namespace Go.Sx
open Go.Proofs
section
variable {F:Nat→Prop}{own:Own}{w:World}
theorem HE {k:Tag}{cs:Array Value}(h:RC F own w (cH k) cs.toList):∃ x:k.T,Rel F own w (.agg (cellsOf k x)) (.agg cs):=by
 obtain⟨l,h3,h4,h5⟩:=h
 refine⟨mkE k l,?_⟩
 rw[jC (k:=k) (l:=l) (x:=mkE k l) (by unfold lA;rw[h3];rfl)]
 refine .agg (by simpa using h4.symm) fun j s hj=>?_
 have hlt:j<cs.size:=by
  have:=(List.getElem?_eq_some_iff.1 hj).1
  simpa[h4]using this
 exact h5 j s _ hj (by simp[Array.getD,hlt])
theorem Kv {k:Tag}{v:Value}(h:RC F own w [.r k] [v]):∃ l:List k.T,Rel F own w (.rs k l) v:=by
 obtain⟨l,h3,h4,h5⟩:=h
 obtain⟨x,r,rfl,h6,h7⟩:=i9 h3
 have h8:=h5 0 x v rfl rfl
 cases x with
 |rs k' l'=>
  have:k=k':=by
   simp only[fit]at h6
   exact pj h6
  subst this
  exact⟨l',h8⟩
 |_=>simp[fit]at h6
end
end Go.Sx
end
section
namespace Go.Sx
open Go.RowKit Go.WideShapes Go.ChangeShapes
section
variable {H:Type}{enc:TypeId×Value→H}{P:Program}
def HF (P:Program):List TypeId→Bool
 | [] =>true
 |t::r=>P.readableRec t&&Nat.blt t P.types.size&&HF P r
theorem vG (hl:laidOutB P=true){W W':World}(hg:Below W.heap.size W W'):∀ {ts:List TypeId} {vs:List Value} {ds:List (DataW H)} {ps:List MemPlace},HF P ts=true→
  DataW.TrodAll enc P W 0 (fun _=>true) true ts vs ds ps→(∀ x∈ps,x.block<W.heap.size)→DataW.TrodAll enc P W' 0 (fun b=>decide (b<W.heap.size)) true ts vs ds ps
 | [],vs,ds,ps,_,h,_=>by
  obtain⟨rfl,rfl,rfl⟩:=trodAll_nil h
  exact trodAll_mk0
 |t::ts,vs,ds,ps,hk,h,hlt=>by
  unfold HF at hk
  rw[Bool.and_eq_true,Bool.and_eq_true]at hk
  obtain⟨v,vs',d,ds',p,q,rfl,rfl,rfl,h1,h2⟩:=trodAll_cons h
  refine trodAll_cons_mk (WideElems.Trod_stays hl hk.1.1 (by simpa[Nat.blt_eq]using hk.1.2) h1 (fun x hx=>hg.same (hlt x (List.mem_append_left _ hx))) (fun x hx=>by simpa using hlt x (List.mem_append_left _ hx))) ?_
  exact vG hl hg hk.2 h2 fun x hx=>hlt x (List.mem_append_right _ hx)
theorem E3 (hl:laidOutB P=true){f:Func}{s:ChangeSpec}{W W':World}{args:Array Value}{ds gs:List (DataW H)}{before:List MemPlace}{t:TypeId}
  (hk:HF P f.params.toList=true) (hW:DataW.Whole enc P f.params.toList s.vars false W args.toList ds gs before)
  (hr:f.resultTypes= #[t]) (ht:P.underlying t=some .bool) (hv:s.vars=[]) (h1:(s.fn H (ds++gs)).results=[.lit (.bool true)]) (h2:(s.fn H (ds++gs)).args=ds) (h3:(s.fn H (ds++gs)).vars=[])
  (hg:Below W.heap.size W W'):s.post enc P f false true false false W args (.bool true) W':=by
 have hlt:=hW.lt
 have hW0:=hW
 obtain⟨p,q,hA,hV,rfl,_,_⟩:=hW
 rw[hv]at hV
 obtain⟨rfl,rfl⟩:=trodVars_none hV
 refine⟨ds,[],p++[],[],p,[],hW0,?_,?_,?_,?_,fun h=>by cases h⟩
 ·rw[h1,hr]
  exact trodAll_cons_mk (shut_bool ht _) trodAll_mk0
 ·rw[h2]
  exact vG hl hg hk hA fun x hx=>hlt x (by simpa using hx)
 ·rw[h3,hv]
  rfl
 ·exact World.keptBut_mono (fun x hx=>⟨hx,.inr (.inl (by simpa using hx))⟩) (hg.frame (· ∈p++[]))
end
end Go.Sx
end
section
namespace Go.Proofs.YthcbieoehjhjfaaGreat.bulks
theorem one_le {H:Type}(d:DataW H):1≤Rows.uptoBulk d:=by
 cases d with
 |lit l=>cases l <;>simp[Rows.uptoBulk]
 |nil=>simp[Rows.uptoBulk]
 |ptr d=>simp[Rows.uptoBulk]
 |slice j6 spare=>simp[Rows.uptoBulk]
 |agg parts=>simp[Rows.uptoBulk]
 |iface t d=>simp[Rows.uptoBulk]
 |map entries=>simp[Rows.uptoBulk]
 |held h=>simp[Rows.uptoBulk]
theorem part_le {H:Type}{d:DataW H}{l:List (DataW H)}(h:d∈l):Rows.uptoBulk d≤Rows.uptoBulkAll l:=by
 induction l with
 |nil=>cases h
 |cons x r ih=>
  simp only[Rows.uptoBulkAll]
  cases List.mem_cons.1 h with
  |inl e=>subst e;omega
  |inr e=>have:=ih e;omega
theorem append {H:Type}(l r:List (DataW H)):Rows.uptoBulkAll (l++r)=Rows.uptoBulkAll l+Rows.uptoBulkAll r:=by
 induction l with
 |nil=>simp[Rows.uptoBulkAll]
 |cons x l ih=>simp only[List.cons_append,Rows.uptoBulkAll,ih];omega
theorem length_le {H:Type}(l:List (DataW H)):l.length≤Rows.uptoBulkAll l:=by
 induction l with
 |nil=>simp[Rows.uptoBulkAll]
 |cons x r ih=>have:=one_le x;simp only[Rows.uptoBulkAll,List.length_cons];omega
theorem slice_le {H:Type}(j6 spare:List (DataW H)):j6.length+spare.length+1≤Rows.uptoBulk (.slice j6 spare):=by
 have h1:=length_le j6
 have h2:=length_le spare
 simp only[Rows.uptoBulk]
 omega
theorem slice_elems {H:Type}(j6 spare:List (DataW H)):Rows.uptoBulkAll j6+1≤Rows.uptoBulk (.slice j6 spare):=by
 simp only[Rows.uptoBulk]
 omega
theorem bound {H:Type}{l:List (DataW H)}(hk:Rows.uptoSmall H l=true):Rows.uptoBulkAll l≤1048576:=by
 simpa[Rows.uptoSmall]using hk
theorem room {n b:Nat}(hn:n≤2097152)(hb:b≤4096):(n+n / 4+192)*b≤281474976710656:=by
 have h:(n+n / 4+192)*b≤2621632*4096:=Nat.mul_le_mul (by omega) hb
 omega
end Go.Proofs.YthcbieoehjhjfaaGreat.bulks
end
section
namespace Go.Proofs.YthcbieoehjhjfaaGreat.registerKept
open Go.ChangeShapes Go.WideShapes Go.ChangeAt Go.RowKit Go.Sx
set_option linter.unusedVariables false
theorem con_eq (x0:Tag.district.T)(x1:List Tag.deed.T)(x2:Int)(x3:Int):gk [.agg (cellsOf .district x0),.rs .deed x1,.v (.int .i64 x2),.v (.int .i64 x3)]=some (.det (dx x0 x1 x2 x3) (.v (.bool (dL x0 x1 x2 x3)))):=by
 unfold gk
 simp only[go_sem,Nat.reduceBEq]
theorem call_true {W:World}{cs0:Array Value}(h0:RC (fun _=>False) cg W (cH .district) cs0.toList){v1:Value}(h1:RC (fun _=>False) cg W [.r .deed] [v1])(x2:Int)(h2:(-9223372036854775808)≤x2∧x2≤9223372036854775807)(x3:Int)(h3:(-9223372036854775808)≤x3∧x3≤9223372036854775807):
  Calls Tryz.prog 5 #[.agg cs0,v1,.int .i64 x2,.int .i64 x3] W (fun e W'=>e=.returned (.bool true)∧Below W.heap.size W W'):=by
 obtain⟨x0,r0⟩:=HE h0
 obtain⟨x1,r1⟩:=Kv h1
 refine(mQ.calls _ _ (con_eq x0 x1 x2 x3) (Ks x0 x1 x2 x3 h2 h3) (fun _=>False) W _ (fun b h=>h.elim) ⟨rfl,fun j s hj=>?_⟩).mono fun e W' he=>?_
 ·match j,hj with
  |0,hj=>cases hj;exact r0
  |1,hj=>cases hj;exact r1
  |2,hj=>cases hj;exact .v _
  |3,hj=>cases hj;exact .v _
 ·rcases he with⟨s,u,own',hs,rfl,hh,hb⟩ | ⟨x,hx,_⟩
  ·simp only[cL]at hs
   subst hs
   rw[Kt x0 x1 x2 x3 h2 h3]at hh
   have:=hh.val
   simp only[nh]at this
   rw[bU this]
   exact⟨rfl,hb⟩
  ·exact hx.elim
theorem own:ownKnob Tryz.prog.godebug=none:=by kernel_rfl
theorem small (H:Type):Small (fun d:DataW H=>Rows.uptoBulk d≤1048576) where
 agg l h d hd:=by
  have h1:=bulks.part_le hd
  simp only[Rows.uptoBulk]at h
  omega
 slice l m h:=by
  have h1:=bulks.slice_le l m
  have h2:=bulks.slice_elems l m
  refine⟨by unfold cd;omega,fun d hd=>?_⟩
  have:=bulks.part_le hd
  omega
theorem laid:laidOutB Tryz.prog=true:=by kernel_rfl
set_option maxRecDepth 100000 in
theorem contract (H:Type)(enc:TypeId×Value→H)(W:World)(base:Nat)(args:Array Value)(ds gs:List (DataW H))(before:List MemPlace)
  (hval:∀ (j:Nat) t v,Tryz.f5.params[j]? =some t→args[j]? =some v→Value.okWide Tryz.prog W .any base t v)
  (hW:DataW.Whole enc Tryz.prog Tryz.f5.params.toList Rows.registerKeptSpec.vars false W args.toList ds gs before) (hk:Rows.uptoSmall H (ds++gs)=true):
  Calls Tryz.prog 5 args W fun e W'=>∃ v,e=.returned v∧Rows.registerKeptSpec.post enc Tryz.prog Tryz.f5 false true false false W args v W':=by
 have hW':=hW
 obtain⟨p,q,hA0,hV,rfl,hfz,hnd⟩:=hW
 have hA:DataW.TrodAll enc Tryz.prog W 0 (fun _=>true) true Tryz.f5.params.toList args.toList ds p:=hA0
 rw[Tryz.params5]at hA hval
 obtain⟨v0,vs0,d0,ds0,p0,q0,hargs,rfl,rfl,h0,r0⟩:=trodAll_cons hA
 obtain⟨v1,vs1,d1,ds1,p1,q1,rfl,rfl,rfl,h1,r1⟩:=trodAll_cons r0
 obtain⟨v2,vs2,d2,ds2,p2,q2,rfl,rfl,rfl,h2,r2⟩:=trodAll_cons r1
 obtain⟨v3,vs3,d3,ds3,p3,q3,rfl,rfl,rfl,h3,r3⟩:=trodAll_cons r2
 obtain⟨rfl,rfl,rfl⟩:=trodAll_nil r3
 obtain rfl:args= #[v0,v1,v2,v3]:=by cases args;simp_all
 obtain⟨rfl,rfl⟩:=trodVars_none hV
 have hb:=bulks.bound hk
 simp only[Rows.uptoBulkAll,List.append_nil,List.cons_append,List.nil_append]at hb
 have ho:∀ b,¬bR (fun _=>False) cg b:=fun b h=>by
  rcases h with h| ⟨_,_,h,_⟩
  ·exact h
  ·cases h
 have s0:∃ cs,v0=.agg cs:=by
  have:=hval 0 31 v0 rfl rfl
  simp only[Value.okWide,Tryz.underlying31]at this
  exact⟨_,this.choose_spec.1⟩
 obtain⟨cs0,rfl⟩:=s0
 obtain⟨a1,l1,c1,rfl⟩:=okWide_slice Tryz.underlying32 (hval 1 32 v1 rfl rfl)
 obtain⟨a2,rfl,rfl,rfl,w2⟩:=open_int Tryz.underlying3 (hval 2 3 v2 rfl rfl) h2
 have R2:(-9223372036854775808)≤a2∧a2≤9223372036854775807:=by simpa[Lit.wf,IntKind.min,IntKind.max,IntKind.signed,IntKind.bits]using w2
 obtain⟨a3,rfl,rfl,rfl,w3⟩:=open_int Tryz.underlying3 (hval 3 3 v3 rfl rfl) h3
 have R3:(-9223372036854775808)≤a3∧a3≤9223372036854775807:=by simpa[Lit.wf,IntKind.min,IntKind.max,IntKind.signed,IntKind.bits]using w3
 have R0:RC (fun _=>False) cg W (cH .district) cs0.toList:=by
  obtain⟨f,hf⟩:=h0
  exact kU (n:=6) (t:=31) (small H) ho _ (by kernel_rfl) f _ _ hf (by show Rows.uptoBulk d0≤_;omega)
 have R1:RC (fun _=>False) cg W [.r .deed] [.slice a1 l1 c1]:=by
  obtain⟨f,hf⟩:=h1
  exact kU (n:=6) (t:=32) (small H) ho _ (by kernel_rfl) f _ _ hf (by show Rows.uptoBulk d1≤_;omega)
 refine(call_true R0 R1 _ R2 _ R3).mono fun e W' ⟨he,hg⟩ =>?_
 subst he
 exact⟨_,rfl,E3 laid (by kernel_rfl) hW' (by kernel_rfl) Tryz.underlying4 rfl rfl rfl rfl hg⟩
def zeroV:Kd→Value
 | .n k=>.int k 0
 | .b=>.bool false
 | .s=>.string (ByteArray.mk #[])
 | .r _=>.slice none 0 0
 | .m _ _=>.map none
 | .f=>.nilFunc
def wit:Array Value:= #[.agg ((cH .district).map zeroV).toArray,.slice none 0 0,.int .i64 0,.int .i64 0]
set_option maxRecDepth 100000 in
theorem lifted (os:Os)(started:os.Started)(H:Type)(enc:TypeId×Value→H)(F:Stop.Interp):
  ReturnsInHanded {} Tryz.checked os 5 .any ((Rows.OpenSpec.upto Rows.registerKeptSpec).pre6 enc Tryz.prog Tryz.f5 Rows.registerKeptUptoRow.domain false) (((Rows.OpenSpec.upto Rows.registerKeptSpec).at F).post enc Tryz.prog Tryz.f5 false true false false):=by
 refine returnsInHanded_of_cond (C:=Tryz.checked) (s:=Rows.OpenSpec.upto Rows.registerKeptSpec) (k:=Rows.uptoSmall) rfl own started (by kernel_rfl) Tryz.func5
  (OpenSpec.witness (enc:=enc) (C:=Tryz.checked) (s:=Rows.OpenSpec.upto Rows.registerKeptSpec) (k:=Rows.uptoSmall) rfl false ⟨#[],wit,[]⟩ 8 (by kernel_rfl) (by kernel_rfl) (by kernel_rfl)
   (x:=(DataW.whole enc Tryz.prog (World.plainHolding Tryz.prog os ⟨#[],wit,[]⟩).memory Tryz.f5.params.toList Rows.registerKeptSpec.vars false wit.toList 8).getD ([],[],[])) (by kernel_rfl) rfl (by kernel_rfl)) ?_
 intro W base args ds gs before hval hW _ hk _
 exact contract H enc W base args ds gs before hval hW hk
theorem over:Rows.registerKeptUptoRow.holds Tryz.pinned (Rows.OpenSpec.upto Rows.registerKeptSpec):=
 OpenClaim.holds_of_cond 5 Tryz.f5 rfl rfl rfl rfl rfl rfl rfl ⟨rfl,rfl,rfl,rfl,rfl⟩ rfl rfl rfl rfl rfl (by kernel_rfl) Tryz.func5 (by kernel_rfl)
  (of_decide_eq_true (by kernel_rfl)) (by unfold Func.isWrapper;first|(rw[if_pos (by decide+kernel)];kernel_rfl) |(rw[if_neg (by decide+kernel)];exact⟨rfl,rfl⟩))
  (fun os started H enc _ F=>lifted os started H enc F)
theorem proved:Rows.RegisterKeptUptoSaid:=over
end Go.Proofs.YthcbieoehjhjfaaGreat.registerKept
end
