/- Part of the proof that the law RegisterDivided returns true and leaves its arguments as they were, for all arguments of bulk at most 1048576 (the Upto form). -/
import Derived.Test.YthcbieoehjhjfaaGreatC610
import Derived.Shelf.SlSortCmp.NoneTotal
import Derived.Ground.SlsfProg
import Derived.Test.YthcbieoehjhjfaaGreatProg
import Derived.Test.YthcbieoehjhjfaaGreatC608
import Derived.Test.YthcbieoehjhjfaaGreatC607
import Derived.Test.YthcbieoehjhjfaaGreatC606
import Derived.Deep.Slices
import Derived.OpenShut
import Derived.ChangeSame
import Derived.WideKeyArgs
import Derived.Below
import Derived.Test.YthcbieoehjhjfaaGreatRows
import Derived.WalkKit
import Derived.ProofKit
import Derived.JoinedCond
import Derived.Carry
set_option linter.all false
set_option maxHeartbeats 4000000
section
namespace Go.Sx
open Go.Proofs
def gX (x:Deed)(B:Int→Int→Int):Int→Int→Int:=fun r=>if r=x.right then uo x (B r)else B r
def rb (ds:List Deed)(B:Int→Int→Int):Int→Int→Int:=ds.foldl (fun B x=>gX x B) B
def Cn:List Deed→(Int→Int→Int)→List Int
 | [],_=>[]
 |x::r,B=>(if B x.right x.since=0 then [x.no]else [])++Cn r (gX x B)
structure MapOk (d:District)(m:BM):Prop where
 nodup:(fI m).Nodup
 good:∀ r,∃ L,L≤1073741824∧Good d.farms.length L (bk m r)
theorem MapOk.le {d:District}{m:BM}(h:MapOk d m)(r f:Int):0≤bk m r f∧bk m r f≤1073741824:=by
 obtain⟨L,h1,h2⟩:=h.good r
 have:=h2.nn f
 by_cases e:bk m r f=0
 ·omega
 ·obtain⟨a,b⟩:=h2.sup f e
  have:=wL h2.nn _ f a b
  have:=h2.tot
  omega
theorem Ho {d:District}{ds:List Deed}{x:Deed}(hx:Fit d x)(hk:x.kind≠4){e:List Int}{m:BM}(hm:MapOk d m)(he:(e.length+1)*8≤jL):
  cV ds x (e,m)∧∃ m',bF ds x (e,m)=.inr (e++(if bk m x.right x.since=0 then [x.no]else []),m')∧MapOk d m'∧bk m'=gX x (bk m):=by
 obtain⟨r0,r1,r2,s0,s1⟩:=hx.held hk
 have hv:=hm.le x.right x.since
 have ebk:cn .registerTitle .int m (RT x.right x.since)=bk m x.right x.since:=rfl
 have hdel:=ra (RT x.right x.since) m hm.nodup
 have hstep:∀ m':BM,(fI m').Nodup→bk m'=gX x (bk m)→MapOk d m':=fun m' hN hb=>by
  refine⟨hN,fun r=>?_⟩
  obtain⟨L,h1,h2⟩:=hm.good r
  refine⟨L,h1,?_⟩
  rw[hb]
  show Good _ _ (if r=x.right then uo x (bk m r)else bk m r)
  split
  ·exact(yz hx hk h2).1
  ·exact h2
 have hlen:(e++[x.no]).length=e.length+1:=by simp
 unfold cV bF
 simp only[ebk,hlen]
 by_cases hn:bk m x.right x.since=0
 ·have b0:(bk m x.right x.since==0)=true:=by simp[hn]
  rw[b0,if_pos hn]
  refine⟨⟨fun _=>he,(fun h=>by cases h)⟩,m,rfl,hm,?_⟩
  funext r
  unfold gX
  split
  ·rename_i h;subst h;unfold uo;rw[if_pos hn]
  ·rfl
 ·have b0:(bk m x.right x.since==0)=false:=by simpa using hn
  rw[b0,if_neg hn,List.append_nil]
  simp only[cond_false]
  have edel:=Kk m hm.nodup x.right x.since
  have kdel:(fI (jo .registerTitle .int m (RT x.right x.since))).Nodup:=hdel.1
  have egood:Good d.farms.length (1073741824 - bk m x.right x.since) (bk (jo .registerTitle .int m (RT x.right x.since)) x.right):=by
   obtain⟨L,h1,h2⟩:=hm.good x.right
   rw[edel]
   simp only[if_true]
   exact h2.put s0 s1 (Int.le_refl _) (by have:=h2.tot;omega)
  by_cases k1:x.kind=1
  ·have b1:(x.kind==1)=true:=by simp[k1]
   rw[b1]
   simp only[cond_true]
   obtain⟨a,b,c⟩:=hx.pass k1
   have hto:=egood.le30 (by omega) x.to
   have e2:cn .registerTitle .int (jo .registerTitle .int m (RT x.right x.since)) (RT x.right x.to)=eP (bk m x.right) x.since 0 x.to:=by
    have:=congrFun (congrFun edel x.right) x.to
    simpa[bk]using this
   have hto':0≤eP (bk m x.right) x.since 0 x.to∧eP (bk m x.right) x.since 0 x.to≤2147483648:=by
    rw[edel]at hto;simpa using hto
   refine⟨⟨(fun h=>by cases h),(fun _ h=>by cases h)⟩,_,rfl,?_⟩
   have hb:bk (cU x (bk m x.right x.since) (jo .registerTitle .int m (RT x.right x.since)))=gX x (bk m):=by
    unfold cU
    rw[e2,bK (by omega) (by omega),wN,edel]
    funext r
    unfold gX
    by_cases h:r=x.right
    ·subst h
     simp only[if_true]
     unfold uo
     rw[if_neg hn,if_pos k1]
    ·simp only[if_neg h]
   exact⟨hstep _ (by unfold cU;exact(lX _ _ _ kdel).1) hb,hb⟩
  ·have b1:(x.kind==1)=false:=by simpa using k1
   rw[b1]
   simp only[cond_false]
   by_cases k2:x.kind=2
   ·have b2:(x.kind==2)=true:=by simp[k2]
    rw[b2]
    simp only[cond_true]
    obtain⟨p1,p2,p3⟩:=Cm (hx.split k2) hv.1 hv.2 kdel (M:=1073741824 - bk m x.right x.since) (by omega) egood
    refine⟨⟨(fun h=>by cases h),fun _ _=>⟨fun _=>p1,(fun h=>by cases h)⟩⟩,_,rfl,?_⟩
    have hb:bk (b_ x (bk m x.right x.since) (jo .registerTitle .int m (RT x.right x.since)))=gX x (bk m):=by
     rw[p3,edel]
     funext r
     unfold gX
     by_cases h:r=x.right
     ·subst h
      simp only[if_true]
      unfold uo
      rw[if_neg hn,if_neg k1,if_pos k2]
     ·simp only[if_neg h]
    exact⟨hstep _ p2 hb,hb⟩
   ·have b2:(x.kind==2)=false:=by simpa using k2
    rw[b2]
    simp only[cond_false]
    have k3:x.kind=3:=by rcases hx.kind with h|h|h|h <;>omega
    have b3:(x.kind==3)=true:=by simp[k3]
    rw[b3]
    simp only[cond_true]
    refine⟨⟨(fun h=>by cases h),fun _ _=>⟨(fun h=>by cases h),(fun _ h=>by cases h)⟩⟩,_,rfl,?_⟩
    have hb:bk (jo .registerTitle .int m (RT x.right x.since))=gX x (bk m):=by
     rw[edel]
     funext r
     unfold gX
     by_cases h:r=x.right
     ·subst h
      simp only[if_true]
      unfold uo
      rw[if_neg hn,if_neg k1,if_neg k2]
     ·simp only[if_neg h]
    exact⟨hstep _ kdel hb,hb⟩
theorem vn {d:District}(ds:List Deed):∀ (l:List Deed),(∀ x∈l,Fit d x∧x.kind≠4)→∀ (e:List Int) (m:BM),MapOk d m→(e.length+l.length)*8≤jL→
  okL (bF ds) (cV ds) l (e,m)∧∃ m',eT (bF ds) l (e,m)=.inr (e++Cn l (bk m),m')∧MapOk d m'∧bk m'=rb l (bk m)
 | [],_,e,m,hm,_=>⟨trivial,m,by simp[eT,Cn],hm,rfl⟩
 |x::l,h,e,m,hm,hB=>by
  simp only[List.length_cons]at hB
  obtain⟨h1,h2⟩:=h x List.mem_cons_self
  obtain⟨q1,m1,q2,q3,q4⟩:=Ho (ds:=ds) h1 h2 (e:=e) hm (by omega)
  have hlen:(e++(if bk m x.right x.since=0 then [x.no]else [])).length≤e.length+1:=by split <;>simp
  obtain⟨r1,m2,r2,r3,r4⟩:=vn ds l (fun y hy=>h y (List.mem_cons_of_mem _ hy)) (e++(if bk m x.right x.since=0 then [x.no]else [])) m1 q3 (by omega)
  refine⟨⟨q1,fun s hs=>by rw[q2]at hs;cases hs;exact r1⟩,m2,?_,r3,?_⟩
  ·simp only[eT,q2]
   rw[r2,q4,List.append_assoc];rfl
  ·rw[r4,q4];rfl
def B0 (d:District):Int→Int→Int:=fun r f=>if 0≤r∧r< (d.rights.length:Int)∧(d.rights.getD r.toNat default).kind=1∧(d.rights.getD r.toNat default).farm=f then(d.rights.getD r.toNat default).litres else 0
structure TakeOk (d:District)(x:Right):Prop where
 f0:0≤x.farm
 f1:x.farm< (d.farms.length:Int)
 l0:1≤x.litres
 l1:x.litres≤1073741824
theorem qg {d:District}(h:bf d=0){k:Nat}(hk:k<d.rights.length)(ht:(d.rights.getD k default).kind=1):TakeOk d (d.rights.getD k default):=by
 have:=((yc d).1 h).2.2.2.2.2.2.2.1 k hk
 unfold dY at this
 rw[kF]at this
 have h2:gn d (d.rights.getD k default)=true:=by
  cases h3:gn d (d.rights.getD k default)with
  |true=>rfl
  |false=>rw[h3]at this;cases this
 unfold gn at h2
 cases h4:((!(ct (d.rights.getD k default).farm (d.farms.length:Int))) ||(!(ct (d.rights.getD k default).reach (d.reaches.length:Int)))) ||(!(ar ([0,(d.rights.getD k default).since,(d.rights.getD k default).to,(IntKind.i64.wrap (d.hours - 1))])))with
 |true=>rw[h4]at h2;cases h2
 |false=>
  rw[h4,show((d.rights.getD k default).kind==1)=true by rw[ht];rfl]at h2
  simp only[cond_true,cond_false,Bool.and_eq_true]at h2
  simp only[Bool.or_eq_false_iff,Bool.not_eq_false']at h4
  have h5:=h4.1.1
  unfold ct at h5
  simp only[Bool.and_eq_true,decide_eq_true_eq]at h5
  have h6:=wz h2.1.2
  exact⟨by omega,by omega,by omega,by omega⟩
theorem Kl {d:District}(h:bf d=0)(r:Int):∃ L,L≤1073741824∧Good d.farms.length L (B0 d r):=by
 by_cases hr:0≤r∧r< (d.rights.length:Int)∧(d.rights.getD r.toNat default).kind=1
 ·have ht:=qg h (k:=r.toNat) (by omega) hr.2.2
  have hl:=ht.l0
  refine⟨(d.rights.getD r.toNat default).litres,ht.l1,?_⟩
  have e:B0 d r=eP (fun _=>0) (d.rights.getD r.toNat default).farm (d.rights.getD r.toNat default).litres:=by
   funext f
   unfold B0 eP
   by_cases hf:f=(d.rights.getD r.toNat default).farm
   ·rw[if_pos ⟨hr.1,hr.2.1,hr.2.2,hf.symm⟩,if_pos hf]
   ·rw[if_neg (fun h=>hf h.2.2.2.symm),if_neg hf]
  have t0:∀ n,tot n (fun _=>0)=0:=fun n=>by
   induction n with
   |zero=>rfl
   |succ n ih=>unfold tot;rw[ih];rfl
  rw[e]
  exact Good.put (L:=0) ⟨fun _=>Int.le_refl _,fun f hf=>absurd rfl hf,by rw[t0];exact Int.le_refl _⟩ ht.f0 ht.f1 (by omega) (by rw[t0];omega)
 ·refine⟨0,by omega,?_⟩
  have e:B0 d r=fun _=>0:=by
   funext f
   unfold B0
   rw[if_neg (fun h=>hr ⟨h.1,h.2.1,h.2.2.1⟩)]
  have t0:∀ n,tot n (fun _=>0)=0:=fun n=>by
   induction n with
   |zero=>rfl
   |succ n ih=>unfold tot;rw[ih];rfl
  rw[e]
  exact⟨fun _=>Int.le_refl _,fun f hf=>absurd rfl hf,by rw[t0];exact Int.le_refl _⟩
theorem EN {d:District}(h:bf d=0):∃ m,ay (bR d) d.rights.length 0 []=.inr m∧MapOk d m∧bk m=B0 d:=by
 obtain⟨m,h1,h2,h3⟩:=mt (step:=bR d) (fun k (m:BM) =>(fI m).Nodup∧bk m=fun r f=>if r< (k:Int)then B0 d r f else 0) d.rights.length 0 ([]:BM) ⟨by simp[fI],by
   funext r f
   by_cases hr:r< ((0:Nat):Int)
   ·rw[if_pos hr];unfold B0 bk;rw[if_neg (by omega)];rfl
   ·rw[if_neg hr];rfl⟩ (fun j m _ hj ⟨j1,j2⟩ =>by
  rw[Nat.zero_add]at hj
  unfold bR
  by_cases hk:(d.rights.getD j default).kind=1
  ·rw[show((d.rights.getD j default).kind==1)=true by rw[hk];rfl]
   refine⟨_,rfl,(lX _ _ _ j1).1,?_⟩
   rw[wN,j2]
   funext r f
   by_cases hr:r=(j:Int)
   ·subst hr
    simp only[if_true]
    unfold eP B0
    dsimp only
    rw[if_pos (by omega:(j:Int) < ((j+1:Nat):Int)),Int.toNat_natCast]
    by_cases hf:f=(d.rights.getD j default).farm
    ·rw[if_pos hf,if_pos ⟨by omega,by omega,hk,hf.symm⟩]
    ·rw[if_neg hf,if_neg (by omega),if_neg (fun h=>hf h.2.2.2.symm)]
   ·simp only[if_neg hr]
    by_cases h2:r< (j:Int)
    ·rw[if_pos h2,if_pos (by omega)]
    ·rw[if_neg h2,if_neg (by omega)]
  ·rw[show((d.rights.getD j default).kind==1)=false by simpa using hk]
   refine⟨_,rfl,j1,?_⟩
   rw[j2]
   funext r f
   by_cases hr:r=(j:Int)
   ·subst hr
    rw[if_neg (by omega),if_pos (by omega)]
    unfold B0
    rw[if_neg (fun h=>hk (by rw[Int.toNat_natCast]at h;exact h.2.2.1))]
   ·by_cases h2:r< (j:Int)
    ·rw[if_pos h2,if_pos (by omega)]
    ·rw[if_neg h2,if_neg (by omega)])
 have e:bk m=B0 d:=by
  rw[h3]
  funext r f
  split
  ·rfl
  ·unfold B0;rw[if_neg (by omega)]
 refine⟨m,h1,⟨h2,fun r=>?_⟩,e⟩
 rw[e];exact Kl h r
theorem vo {d:District}(h:bf d=0){ds:List Deed}(hd:∀ x∈ds,Fit d x∧x.kind≠4)(hl:ds.length≤512):
  eO d ds∧∃ m,cH d ds=(m,qd (Cn ds (B0 d)))∧MapOk d m∧bk m=rb ds (B0 d):=by
 obtain⟨m0,e0,o0,b0⟩:=EN h
 obtain⟨q1,m1,q2,q3,q4⟩:=vn (d:=d) ds ds hd [] m0 o0 (by simp only[List.length_nil];unfold jL;omega)
 rw[List.nil_append]at q2
 rw[b0]at q2 q4
 refine⟨fun _ z hz=>?_,m1,?_,q3,q4⟩
 ·rw[e0]at hz;cases hz
  refine⟨EL ds,?_⟩
  rw[nU];exact q1
 ·unfold cH
  rw[e0,nU]
  simp only[q2]
end Go.Sx
end
section
namespace Go.Proofs
open Go.Shelf
def Tryz.sortLh_ren:Go.Shelf.Ren:=⟨fun|6=>50|15=>81|14=>80|28=>112|29=>113|20=>104|21=>105|22=>106|23=>107|24=>108|25=>109|26=>110|27=>111|46=>136|47=>137|48=>138|49=>139|50=>140|57=>149|n=>n,fun|22=>44|24=>67|25=>100|3=>3|39=>116|0=>0|53=>162|55=>164|4=>4|46=>156|45=>155|50=>78|5=>5|9=>9|66=>184|70=>187|76=>195|77=>192|n=>n,fun|n=>n⟩
theorem Tryz.sortLh:Go.Proofs.SlLaysF0.n6 Tryz.prog Tryz.sortLh_ren:= {
 mixed:=by kernel_rfl
 f6:=⟨Tryz.f50.name,by decide,Tryz.func50.trans (congrArg some (by kernel_rfl))⟩
 f14:=⟨Tryz.f80.name,by decide,Tryz.func80.trans (congrArg some (by kernel_rfl))⟩
 f15:=Tryz.func81.trans (congrArg some (by kernel_rfl))
 f20:=⟨Tryz.f104.name,by decide,Tryz.func104.trans (congrArg some (by kernel_rfl))⟩
 f21:=⟨Tryz.f105.name,by decide,Tryz.func105.trans (congrArg some (by kernel_rfl))⟩
 f22:=⟨Tryz.f106.name,by decide,Tryz.func106.trans (congrArg some (by kernel_rfl))⟩
 f23:=⟨Tryz.f107.name,by decide,Tryz.func107.trans (congrArg some (by kernel_rfl))⟩
 f24:=⟨Tryz.f108.name,by decide,Tryz.func108.trans (congrArg some (by kernel_rfl))⟩
 f25:=⟨Tryz.f109.name,by decide,Tryz.func109.trans (congrArg some (by kernel_rfl))⟩
 f26:=⟨Tryz.f110.name,by decide,Tryz.func110.trans (congrArg some (by kernel_rfl))⟩
 f27:=⟨Tryz.f111.name,by decide,Tryz.func111.trans (congrArg some (by kernel_rfl))⟩
 f28:=Tryz.func112.trans (congrArg some (by kernel_rfl))
 f29:=Tryz.func113.trans (congrArg some (by kernel_rfl))
 f46:=⟨Tryz.f136.name,by decide,Tryz.func136.trans (congrArg some (by kernel_rfl))⟩
 f47:=Tryz.func137.trans (congrArg some (by kernel_rfl))
 f48:=Tryz.func138.trans (congrArg some (by kernel_rfl))
 f49:=⟨Tryz.f139.name,by decide,Tryz.func139.trans (congrArg some (by kernel_rfl))⟩
 f50:=⟨Tryz.f140.name,by decide,Tryz.func140.trans (congrArg some (by kernel_rfl))⟩
 f57:=⟨Tryz.f149.name,by decide,Tryz.func149.trans (congrArg some (by kernel_rfl))⟩
 t0:=Tryz.underlying0
 a0:=Tryz.isAgg0
 z0:=Tryz.sizeOf0
 v0:=Tryz.zeroValue0
 t3:=Tryz.underlying3
 a3:=Tryz.isAgg3
 z3:=Tryz.sizeOf3
 v3:=Tryz.zeroValue3
 t4:=Tryz.underlying4
 a4:=Tryz.isAgg4
 z4:=Tryz.sizeOf4
 v4:=Tryz.zeroValue4
 t5:=Tryz.underlying5
 a5:=Tryz.isAgg5
 z5:=Tryz.sizeOf5
 v5:=Tryz.zeroValue5
 t9:=Tryz.underlying9
 a9:=Tryz.isAgg9
 z9:=Tryz.sizeOf9
 v9:=Tryz.zeroValue9
 t22:=Tryz.underlying44
 a22:=Tryz.isAgg44
 z22:=Tryz.sizeOf44
 v22:=Tryz.zeroValue44
 t25:=Tryz.underlying100
 a25:=Tryz.isAgg100
 z25:=Tryz.sizeOf100
 v25:=Tryz.zeroValue100
 t39:=Tryz.underlying116
 a39:=Tryz.isAgg116
 z39:=Tryz.sizeOf116
 v39:=Tryz.zeroValue116
 t45:=Tryz.underlying155
 a45:=Tryz.isAgg155
 z45:=Tryz.sizeOf155
 v45:=Tryz.zeroValue155
 t46:=Tryz.underlying156
 a46:=Tryz.isAgg156
 z46:=Tryz.sizeOf156
 v46:=Tryz.zeroValue156
 t50:=Tryz.underlying78
 a50:=Tryz.isAgg78
 z50:=Tryz.sizeOf78
 v50:=Tryz.zeroValue78
 t53:=Tryz.underlying162
 a53:=Tryz.isAgg162
 z53:=Tryz.sizeOf162
 v53:=Tryz.zeroValue162
 t55:=Tryz.underlying164
 a55:=Tryz.isAgg164
 z55:=Tryz.sizeOf164
 v55:=Tryz.zeroValue164
 t66:=Tryz.underlying184
 a66:=Tryz.isAgg184
 z66:=Tryz.sizeOf184
 v66:=Tryz.zeroValue184
 t70:=Tryz.underlying187
 a70:=Tryz.isAgg187
 z70:=Tryz.sizeOf187
 v70:=Tryz.zeroValue187
 t76:=Tryz.underlying195
 a76:=Tryz.isAgg195
 z76:=Tryz.sizeOf195
 v76:=Tryz.zeroValue195
 t77:=Tryz.underlying192
 a77:=Tryz.isAgg192
 z77:=Tryz.sizeOf192
 v77:=Tryz.zeroValue192}
end Go.Proofs
end
section
namespace Go.Sx
open Go.RowKit Go.Shelf Go.Lib Go.Sort Go.Proofs
set_option maxRecDepth 100000
noncomputable def nA:List SV→List Ob→Option HCon:=kH .holding 51 [] bQ
@[go_sem] theorem EO {l0:List Holding}:nA [.os 0,.fn 51 [] []] [.row .holding l0]=some (d7 (apart bQ l0) (.tup []) [.row .holding (srt bQ l0)]):=un
theorem uq:tR .holding:=fun x s hs=>by
 simp only[cellsOf,List.mem_cons,List.not_mem_nil,or_false]at hs
 rcases hs with rfl|rfl|rfl|rfl
 all_goals exact⟨_,rfl,rfl⟩
theorem rK (x y:Holding):mF (.agg (cellsOf .holding x):: .agg (cellsOf .holding y)::[])=some (.det True (.v (.int .i64 (bQ x y)))):=by
 simp only[go_sem,Nat.reduceBEq]
theorem wO:FnOkO Tryz.prog 50 nA:=
 yu (k:=.holding) Tryz.sortLh (fun w=>by kernel_rfl) (fun w=>by kernel_rfl) uq (by decide) (g:=51) (caps:=[]) qT (cf:=bQ) rK rF (fun s hs=>by cases hs) ⟨default,default,rK _ _⟩
end Go.Sx
end
section
namespace Go.Sx
open Go.Proofs
set_option maxRecDepth 100000
set_option linter.unusedSimpArgs false
theorem vp {p:Prop}(h:p:=by(first|done|(repeat' (first|with_reducible refine And.intro ?_ ?_|((with_reducible show _≠_);first|assumption|omega|(simp_all [b8,cq];done) |grind) |with_reducible intro _)) <;>(first|done|with_reducible exact Empty.elim ‹Empty› |with_reducible assumption|rfl|omega|assumption|decide|exact fk [0,1,2,3,7] |exact fk [0,1,2,3,4] |exact czl|(simp only[*,cond_true,cond_false,Bool.not_true,Bool.not_false,go_sem,Nat.reduceBEq,Nat.reduceLeDiff,Nat.reduceLT,decide_true,Nat.reduceAdd,Nat.reduceSub,Nat.reduceMul,Int.reduceLE,Int.reduceLT,Int.reduceToNat,Int.reduceNeg,reduceCtorEq];(repeat' (first|with_reducible refine And.intro ?_ ?_|((with_reducible show _≠_);first|assumption|omega|(simp_all [b8,cq];done) |grind) |with_reducible intro _)) <;>(first|done|assumption|rfl|omega|decide|exact fk [0,1,2,3,7] |exact fk [0,1,2,3,4] |(simp_all [b8,cq];done))) |(simp_all [okI,b8,cq];done) |(simp_all [b8,cq];(first|done|exact fk2 [0,1,2,3,7] |exact fk2 [0,1,2,3,4])) |exact fk2 [0,1,2,3,7] |exact fk2 [0,1,2,3,4]))):p:=h
theorem clQ {p:Prop}(h:p:=by((repeat' (first|with_reducible refine And.intro ?_ ?_|with_reducible intro _)) <;>(first|done|with_reducible exact Empty.elim ‹Empty› |with_reducible assumption|rfl|((try simp only[ww,Ee]at *);first|with_reducible assumption|(simp_all only[b8,cq];done) |grind|(simp_all only[b8,cq];grind))))):p:=h
@[go_sem] def cI (a0:District)(a1:List Deed)(a2:Int)(a3:Int)(k_0:RegisterTitle×Int)(s_0:List Holding):Empty⊕(List Holding):=(bif(decide (k_0.2 > 0))then .inr (s_0++([({ right:=k_0.1.right,farm:=k_0.1.farm,litres:=k_0.2,rank:=(a0.rights.getD (Int.toNat k_0.1.right) (default:Right)).rank}:Holding)]))else .inr s_0)
def gw (a0:District)(a1:List Deed)(a2:Int)(a3:Int)(k_0:RegisterTitle×Int)(s_0:List Holding):Prop:=((decide (k_0.2 > 0))=true→((0≤k_0.1.right∧k_0.1.right< (a0.rights.length:Int))∧((s_0++([({ right:=k_0.1.right,farm:=k_0.1.farm,litres:=k_0.2,rank:=(a0.rights.getD (Int.toNat k_0.1.right) (default:Right)).rank}:Holding)])).length*32≤jL)))
def aN (a0:District)(a1:List Deed)(a2:Int)(a3:Int):List Holding×Int:=(bif((ak a0 a1) !=0)then([],(ak a0 a1))else(bif((!(aC a2 0 (IntKind.i64.wrap (a0.hours - 1)))) ||(!(aC a3 0 1048576)))then([],1)else(match eT (cI a0 a1 a2 a3) ((cH a0 (bX a1 a2 a3)).1) ([])with| .inl x=>x.elim| .inr s_0=>((srt bQ s_0),0))))
def ed (a0:District)(a1:List Deed)(a2:Int)(a3:Int):Prop:=((c8 a0 a1)∧((((ak a0 a1) !=0)=true→(([],(ak a0 a1))=(aN a0 a1 a2 a3)))∧(((ak a0 a1) !=0)=false→((((!(aC a2 0 (IntKind.i64.wrap (a0.hours - 1)))) ||(!(aC a3 0 1048576)))=true→(([],1)=(aN a0 a1 a2 a3)))∧(((!(aC a2 0 (IntKind.i64.wrap (a0.hours - 1)))) ||(!(aC a3 0 1048576)))=false→((dH a1 a2 a3)∧((eO a0 (bX a1 a2 a3))∧(∀ L_0,L_0.Perm ((cH a0 (bX a1 a2 a3)).1)→(okL (cI a0 a1 a2 a3) (gw a0 a1 a2 a3) L_0 ([])∧(∀ s_0,eT (cI a0 a1 a2 a3) L_0 ([])=.inr s_0→((apart bQ s_0)∧(((srt bQ s_0),0)=(aN a0 a1 a2 a3)))))))))))))
@[go_sem] def lj:List SV→Option Con:=(pD .district fun a0=>(pR .deed fun a1=>(pI fun a2=>(pI fun a3=>(pE (.det (ed a0 a1 a2 a3) (.tup [.nw .holding ((aN a0 a1 a2 a3).1),.v (.int .i64 ((aN a0 a1 a2 a3).2))])))))))
theorem nB:FnOk Tryz.prog 18 lj:=by
 have hG:ConsOk Tryz.prog (mkG [(15,fun l=>eh (dN [.st .district,.sl .deed] l)),(47,gR),(48,fun l=>iN (dN [.st .district,.o] l)),(49,fun l=>gJ (dN [.sl .deed,.o,.o] l))] [(50,nA)]):=a_ (cgc (eM.norm [.st .district,.sl .deed]) (cgc iD (cgc (kI.norm [.st .district,.o]) (cgc (jF.norm [.sl .deed,.o,.o]) cg0)))) (cgc wO cg0)
 refine qX [(.tmp 8,.holding)] mixed aH hG (fn:=Tryz.f18) (c:=ae Tryz.f18) (by kernel_rfl) (by kernel_rfl) (by kernel_rfl) (by kernel_rfl) (cF fun a0=>(fX fun a1=>(d8 fun a2=>(d8 fun a3=>(bH (fun hp=>?_))))))
 dsimp only[bp]at hp
 unfold ed at hp
 refine⟨Nat.le_of_ble_eq_true rfl,(fun id st=>bif Nat.beq id 0 then some (LCP (τ:=RegisterTitle×Int) (ρ:=Empty) (σ:=(List Holding)) 4 [.slot 8 (.row .holding ([]))] [0,1,2,3,4] (fun left_0 cur_0 s_0=>⟨[(4,.ptr 0 0),(8,.os 4),(41,.ptr 3 0)],[.cells (cellsOf .district a0),.mp .registerTitle .int ((cH a0 (bX a1 a2 a3)).1) (some (3,none)),.dead,.mi (some 1) (((cH a0 (bX a1 a2 a3)).1).length) left_0 cur_0,.row .holding s_0]⟩) (cI a0 a1 a2 a3) (gw a0 a1 a2 a3) ((cH a0 (bX a1 a2 a3)).1) ([]) ((·.elim)) ((·.elim)) (fun s_0=>⟨[(8,.os 4)],[.dead,.dead,.dead,.dead,.row .holding s_0]⟩) st)else none),?_,?_⟩
 ·unfold ae Tryz.f18
  simp only[aw,true_and,and_true]
  ·refine Eb (dq .registerTitle,dq .int) 3 mixed aH hG (by kernel_rfl) (fun _=>rfl) fun left_0 cur_0 s_0 hp0=>⟨L0,an _,?_⟩
   ·by_cases hl0:left_0=[]
    ·subst hl0
     simp only[go_sem,Nat.reduceBEq,Nat.reduceLeDiff,Nat.reduceLT,decide_true,Nat.reduceAdd,Nat.reduceSub,Nat.reduceMul,Int.reduceLE,Int.reduceLT,Int.reduceToNat,Int.reduceNeg,reduceCtorEq,List.not_mem_nil]
     all_goals exact vp
    ·simp only[go_sem,Nat.reduceBEq,Nat.reduceLeDiff,Nat.reduceLT,decide_true,Nat.reduceAdd,Nat.reduceSub,Nat.reduceMul,Int.reduceLE,Int.reduceLT,Int.reduceToNat,Int.reduceNeg,reduceCtorEq,hl0]
     intro j hj0
     obtain⟨hlt0,hq0⟩:=hp0 j hj0
     unfold gw at hq0
     all_goals exact vp
 ·unfold ae Tryz.f18
  simp only[go_sem,Nat.reduceBEq,Nat.reduceLeDiff,Nat.reduceLT,decide_true,Nat.reduceAdd,Nat.reduceSub,Nat.reduceMul,Int.reduceLE,Int.reduceLT,Int.reduceToNat,Int.reduceNeg,reduceCtorEq]
  all_goals exact clQ
def er (d:District)(l_:List Deed)(known:Int):List Int×Int:=(bif((ak d l_) !=0)then([],(ak d l_))else(bif(!(aC known 0 1048576))then([],1)else((cH d (bX l_ 4096 known)).2,0)))
def gz (d:District)(l_:List Deed)(known:Int):Prop:=((c8 d l_)∧(((ak d l_) !=0)=false→((!(aC known 0 1048576))=false→((dH l_ 4096 known)∧(eO d (bX l_ 4096 known))))))
@[go_sem] def lY:List SV→Option Con:=(pD .district fun d=>(pR .deed fun l_=>(pI fun known=>(pE (.det (gz d l_ known) (.tup [.nw .int ((er d l_ known).1),.v (.int .i64 ((er d l_ known).2))]))))))
theorem qh:FnOk Tryz.prog 20 lY:=by
 have hG:ConsOk Tryz.prog (mkG [(15,fun l=>eh (dN [.st .district,.sl .deed] l)),(47,gR),(48,fun l=>iN (dN [.st .district,.o] l)),(49,fun l=>gJ (dN [.sl .deed,.o,.o] l))] []):=a_ (cgc (eM.norm [.st .district,.sl .deed]) (cgc iD (cgc (kI.norm [.st .district,.o]) (cgc (jF.norm [.sl .deed,.o,.o]) cg0)))) cg0
 refine qX [(.tmp 6,.int)] mixed aH hG (fn:=Tryz.f20) (c:=ae Tryz.f20) (by kernel_rfl) (by kernel_rfl) (by kernel_rfl) (by kernel_rfl) (cF fun d=>(fX fun l_=>(d8 fun known=>(bH (fun hp=>?_)))))
 dsimp only[bp]at hp
 unfold gz at hp
 refine⟨Nat.le_of_ble_eq_true rfl,L0,an _,?_⟩
 ·unfold ae Tryz.f20
  try unfold er
  simp only[go_sem,Nat.reduceBEq,Nat.reduceLeDiff,Nat.reduceLT,decide_true,Nat.reduceAdd,Nat.reduceSub,Nat.reduceMul,Int.reduceLE,Int.reduceLT,Int.reduceToNat,Int.reduceNeg,reduceCtorEq]
  all_goals exact cl
end Go.Sx
end
section
namespace Go.Sx
open Go.Proofs
def lZ (d:District)(l:List Deed)(hour known:Int):Int→Int→Int:=rb (stS (qf l hour known)) (B0 d)
def EP (d:District)(B:Int→Int→Int)(r f:Nat):Option Holding:=if 0<B r f then some { right:=(r:Int),farm:=(f:Int),litres:=B r f,rank:=(d.rights.getD r default).rank}else none
def l5 (d:District)(B:Int→Int→Int)(r:Nat):List Holding:=(List.range d.farms.length).filterMap (EP d B r)
def dF (d:District)(B:Int→Int→Int):List Holding:=(List.range d.rights.length).flatMap (l5 d B)
theorem j8 {d:District}{B:Int→Int→Int}{r:Nat}{x:Holding}:x∈l5 d B r↔∃ f:Nat,f<d.farms.length∧0<B r f∧x= { right:=(r:Int),farm:=(f:Int),litres:=B r f,rank:=(d.rights.getD r default).rank}:=by
 unfold l5 EP
 rw[List.mem_filterMap]
 constructor
 ·rintro⟨f,hf,h⟩
  rw[List.mem_range]at hf
  split at h
  ·rename_i h0
   exact⟨f,hf,h0,(Option.some.inj h).symm⟩
  ·cases h
 ·rintro⟨f,hf,h0,rfl⟩
  exact⟨f,List.mem_range.2 hf,by rw[if_pos h0]⟩
theorem l6 {d:District}{B:Int→Int→Int}{x:Holding}:x∈dF d B↔0≤x.right∧x.right< (d.rights.length:Int)∧0≤x.farm∧x.farm< (d.farms.length:Int)∧0<x.litres∧x.litres=B x.right x.farm∧x.rank=(d.rights.getD x.right.toNat default).rank:=by
 unfold dF
 rw[List.mem_flatMap]
 constructor
 ·rintro⟨r,hr,hx⟩
  rw[List.mem_range]at hr
  obtain⟨f,hf,h0,rfl⟩:=j8.1 hx
  exact⟨by simp only;omega,by simp only;omega,by simp only;omega,by simp only;omega,h0,rfl,by simp only[Int.toNat_natCast]⟩
 ·rintro⟨a,b,c,e,h0,h1,h2⟩
  refine⟨x.right.toNat,List.mem_range.2 (by omega),j8.2 ⟨x.farm.toNat,by omega,?_,?_⟩⟩
  ·rw[Int.toNat_of_nonneg a,Int.toNat_of_nonneg c];omega
  ·rw[Int.toNat_of_nonneg a,Int.toNat_of_nonneg c,←h1,←h2]
theorem yA:∀ n:Nat,(List.range n).Pairwise (· < ·):=fun n=>List.pairwise_lt_range
theorem qi (d:District)(B:Int→Int→Int):(dF d B).Pairwise hlt:=by
 unfold dF
 rw[List.pairwise_flatMap]
 refine⟨fun r _=>?_,?_⟩
 ·unfold l5
  rw[List.pairwise_filterMap]
  refine(yA _).imp fun {a b} hab x hx y hy=>?_
  unfold EP at hx hy
  split at hx
  ·split at hy
   ·cases hx;cases hy
    exact Or.inr ⟨rfl,Or.inl (by show(a:Int) < (b:Int);omega)⟩
   ·cases hy
  ·cases hx
 ·refine(yA _).imp fun {a b} hab x hx y hy=>?_
  obtain⟨f,_,_,rfl⟩:=j8.1 hx
  obtain⟨g,_,_,rfl⟩:=j8.1 hy
  simp only[hlt,qU,and_false,or_false];omega
theorem Hq (x:Holding):¬hlt x x:=by simp only[hlt,qU,and_false,or_false];omega
theorem Co {l:List Holding}(h:l.Pairwise hlt):l.Nodup:=h.imp fun {a b} hab e=>by subst e;exact Hq _ hab
theorem yB {α β:Type}(f:α→List β)(k:Nat):∀ l:List α,(∀ a∈l,(f a).length≤k)→(l.flatMap f).length≤l.length*k
 | [],_=>by simp
 |a::l,h=>by
  have h1:=h a List.mem_cons_self
  have h2:=yB f k l fun b hb=>h b (List.mem_cons_of_mem _ hb)
  rw[List.flatMap_cons,List.length_append,List.length_cons,Nat.add_mul,Nat.one_mul];omega
theorem Cp {d:District}(hr:Right1 d)(B:Int→Int→Int):(dF d B).length≤153600:=by
 have h1:=yB (l5 d B) 600 (List.range d.rights.length) fun r _=>Nat.le_trans (List.length_filterMap_le _ _) (by rw[List.length_range];exact hr.farms)
 rw[List.length_range]at h1
 have:=hr.rights
 show((List.range d.rights.length).flatMap (l5 d B)).length≤_
 have:d.rights.length*600≤256*600:=Nat.mul_le_mul_right _ this
 omega
def kK (d:District)(k:RegisterTitle×Int):Option Holding:=if 0<k.2 then some { right:=k.1.right,farm:=k.1.farm,litres:=k.2,rank:=(d.rights.getD (Int.toNat k.1.right) (default:Right)).rank}else none
theorem wP (d:District)(l:List Deed)(h n:Int):∀ (L:BM) (s:List Holding),eT (cI d l h n) L s=.inr (s++L.filterMap (kK d))
 | [],s=>by simp[eT]
 |k::L,s=>by
  by_cases hk:0<k.2
  ·have e:kK d k=some { right:=k.1.right,farm:=k.1.farm,litres:=k.2,rank:=(d.rights.getD (Int.toNat k.1.right) (default:Right)).rank}:=by unfold kK;rw[if_pos hk]
   rw[List.filterMap_cons_some e]
   simp only[eT]
   unfold cI
   rw[decide_eq_true (show k.2 > 0 from hk)]
   simp only[cond_true]
   have:=wP d l h n L (s++[{ right:=k.1.right,farm:=k.1.farm,litres:=k.2,rank:=(d.rights.getD (Int.toNat k.1.right) (default:Right)).rank}])
   unfold cI at this
   rw[this,List.append_assoc];rfl
  ·have e:kK d k=none:=by unfold kK;rw[if_neg hk]
   rw[List.filterMap_cons_none e]
   simp only[eT]
   unfold cI
   rw[decide_eq_false (show ¬k.2 > 0 from hk)]
   simp only[cond_false]
   have:=wP d l h n L s
   unfold cI at this
   exact this
theorem Ab (d:District)(l:List Deed)(h n:Int):∀ (L:BM) (s:List Holding),(∀ k∈L,0<k.2→0≤k.1.right∧k.1.right< (d.rights.length:Int))→(s.length+(L.filterMap (kK d)).length)*32≤jL→okL (cI d l h n) (gw d l h n) L s
 | [],_,_,_=>trivial
 |k::L,s,hk,hB=>by
  by_cases h0:0<k.2
  ·have e:kK d k=some { right:=k.1.right,farm:=k.1.farm,litres:=k.2,rank:=(d.rights.getD (Int.toNat k.1.right) (default:Right)).rank}:=by unfold kK;rw[if_pos h0]
   rw[List.filterMap_cons_some e,List.length_cons]at hB
   refine⟨fun _=>⟨hk k List.mem_cons_self h0,by rw[List.length_append];simp only[List.length_cons,List.length_nil];omega⟩,fun s' hs=>?_⟩
   unfold cI at hs
   rw[decide_eq_true (show k.2 > 0 from h0)]at hs
   cases hs
   exact Ab d l h n L _ (fun q hq=>hk q (List.mem_cons_of_mem _ hq)) (by rw[List.length_append];simp only[List.length_cons,List.length_nil];omega)
  ·have e:kK d k=none:=by unfold kK;rw[if_neg h0]
   rw[List.filterMap_cons_none e]at hB
   refine⟨fun h=>absurd (of_decide_eq_true h) h0,fun s' hs=>?_⟩
   unfold cI at hs
   rw[decide_eq_false (show ¬k.2 > 0 from h0)]at hs
   cases hs
   exact Ab d l h n L _ (fun q hq=>hk q (List.mem_cons_of_mem _ hq)) hB
theorem Bf {d:District}{r:Int}(hr:¬ (0≤r∧r< (d.rights.length:Int))):∀ (ds:List Deed) (B:Int→Int→Int),(∀ x∈ds,Fit d x∧x.kind≠4)→rb ds B r=B r
 | [],B,_=>rfl
 |x::ds,B,h=>by
  have h1:=h x List.mem_cons_self
  have h2:=h1.1.held h1.2
  show rb ds (gX x B) r=_
  rw[Bf hr ds _ fun y hy=>h y (List.mem_cons_of_mem _ hy)]
  unfold gX
  rw[if_neg (by omega)]
theorem qj {d:District}{l:List Deed}(h:Deeds d l)(hour known:Int):∀ x∈stS (qf l hour known),Fit d x∧x.kind≠4:=fun x hx=>by
 have hx:=Hh.1 hx
 unfold qf at hx
 rw[List.mem_filter]at hx
 refine⟨h.fit x hx.1,fun e=>?_⟩
 have:=hx.2
 rw[e]at this
 simp at this
theorem Bg (l:List Deed):(stS l).length=l.length:=(nT (nt l)).symm
theorem Hr {α:Type}{a b:List α}(ha:a.Nodup)(hb:b.Nodup)(h:∀ x,x∈a↔x∈b):a.Perm b:=(List.perm_ext_iff_of_nodup ha hb).2 h
theorem Cq {d:District}{l:List Deed}(h:Deeds d l){m:BM}(hm:MapOk d m){hour known:Int}(hb:bk m=lZ d l hour known):
  (m.filterMap (kK d)).Perm (dF d (lZ d l hour known))∧∀ k∈m,0<k.2→0≤k.1.right∧k.1.right< (d.rights.length:Int):=by
 have hget:∀ (t:RegisterTitle) (v:Int),(t,v)∈m→bk m t.right t.farm=v:=fun t v htv=>by
  have:=(tT hm.nodup).2 htv
  show(ez m { right:=t.right,farm:=t.farm}).getD _=v
  have e:({ right:=t.right,farm:=t.farm}:RegisterTitle)=t:=rfl
  rw[e,this];rfl
 have hrng:∀ k∈m,0<k.2→0≤k.1.right∧k.1.right< (d.rights.length:Int):=fun k hk h0=>by
  rcases Classical.em (0≤k.1.right∧k.1.right< (d.rights.length:Int))with hr|hr
  ·exact hr
  ·have e:=hget k.1 k.2 hk
   rw[hb]at e
   unfold lZ at e
   rw[Bf hr _ _ (qj h hour known)]at e
   unfold B0 at e
   rw[if_neg (fun h=>hr ⟨h.1,h.2.1⟩)]at e
   omega
 refine⟨Hr ?_ (Co (qi _ _)) fun x=>?_,hrng⟩
 ·rw[List.Nodup,List.pairwise_filterMap]
  have:m.Pairwise fun a b=>a.1≠b.1:=by
   have:=hm.nodup
   unfold fI at this
   rw[List.Nodup,List.pairwise_map]at this
   exact this
  refine this.imp fun {a b} hab x hx y hy=>?_
  unfold kK at hx hy
  split at hx
  ·split at hy
   ·cases hx;cases hy
    intro e
    simp only[Holding.mk.injEq]at e
    refine hab ?_
    obtain⟨⟨a1,a2⟩,a3⟩:=a
    obtain⟨⟨b1,b2⟩,b3⟩:=b
    simp only at e
    simp[e.1,e.2.1]
   ·cases hy
  ·cases hx
 ·rw[List.mem_filterMap,l6]
  constructor
  ·rintro⟨k,hk,hx⟩
   unfold kK at hx
   split at hx
   ·rename_i h0
    cases hx
    have e:=hget k.1 k.2 hk
    obtain⟨a,b⟩:=hrng k hk h0
    obtain⟨L,_,hg⟩:=hm.good k.1.right
    obtain⟨c,f⟩:=hg.sup k.1.farm (by rw[e];omega)
    exact⟨a,b,c,f,h0,by simp only;rw[←hb,e],rfl⟩
   ·cases hx
  ·rintro⟨a,b,c,f,h0,h1,h2⟩
   rw[←hb]at h1
   have h3:ez m (RT x.right x.farm)=some x.litres:=by
    have e:bk m x.right x.farm=(ez m (RT x.right x.farm)).getD 0:=rfl
    cases hg:ez m (RT x.right x.farm)with
    |none=>rw[e,hg]at h1;simp at h1;omega
    |some v=>rw[e,hg]at h1;simp at h1;rw[h1]
   refine⟨(RT x.right x.farm,x.litres),(tT hm.nodup).1 h3,?_⟩
   unfold kK
   rw[if_pos h0]
   simp only[Option.some.injEq]
   rw[←h2]
open Go.Shelf Go.Sort in
theorem vr {d:District}{B:Int→Int→Int}{s:List Holding}(h:s.Perm (dF d B)):apart bQ s∧srt bQ s=dF d B:=by
 have e1:∀ x y,ltOf bQ x y=true↔hlt x y:=fun x y=>by unfold ltOf;rw[decide_eq_true_eq,tG]
 have e2:∀ x y,ltOf bQ x y=false↔¬hlt x y:=fun x y=>by rw[←e1];simp
 have heq:∀ x∈dF d B,∀ y∈dF d B,¬hlt x y→¬hlt y x→x=y:=fun x hx y hy h1 h2=>by
  obtain⟨_,_,_,_,_,x1,x2⟩:=l6.1 hx
  obtain⟨_,_,_,_,_,y1,y2⟩:=l6.1 hy
  simp only[hlt,qU,and_false,or_false]at h1 h2
  have q1:x.right=y.right:=by omega
  have q2:x.farm=y.farm:=by omega
  obtain⟨a,b,c,e⟩:=x
  obtain⟨a',b',c',e'⟩:=y
  simp only at q1 q2 x1 x2 y1 y2
  subst q1;subst q2
  rw[x1,x2,y1,y2]
 refine⟨fun x hx y hy h1 h2=>heq x (h.subset hx) y (h.subset hy) ((e2 x y).1 h1) ((e2 y x).1 h2),?_⟩
 unfold srt
 have hp:(s.mergeSort fun x y=>!(ltOf bQ y x)).Perm (dF d B):=(List.mergeSort_perm _ _).trans h
 refine List.Perm.eq_of_pairwise (le:=fun x y=>(!ltOf bQ y x)=true) ?_ ?_ ?_ hp
 ·intro x y hx hy h1 h2
  simp only[Bool.not_eq_true']at h1 h2
  exact heq x (hp.subset hx) y hy ((e2 x y).1 h2) ((e2 y x).1 h1)
 ·refine List.pairwise_mergeSort ?_ ?_ s
  ·intro a b c h1 h2
   simp only[Bool.not_eq_true']at h1 h2 ⊢
   exact rF.3 c b a h2 h1
  ·intro a b
   simp only[Bool.or_eq_true,Bool.not_eq_true']
   rcases Classical.em (hlt b a)with hh|hh
   ·refine .inr ((e2 _ _).2 fun h3=>?_)
    simp only[hlt,qU,and_false,or_false]at hh h3;omega
   ·exact .inl ((e2 _ _).2 hh)
 ·refine(qi d B).imp fun {a b} hab=>?_
  simp only[Bool.not_eq_true']
  refine(e2 _ _).2 fun h3=>?_
  simp only[hlt,qU,and_false,or_false]at hab h3;omega
theorem tV (d:District)(l:List Deed)(hour known:Int):ed d l hour known∧
  aN d l hour known=if ak d l≠0 then([],ak d l)else if 0≤hour∧hour<d.hours∧0≤known∧known≤1048576 then(dF d (lZ d l hour known),0)else([],1):=by
 by_cases hc:ak d l=0
 ·have hD:=qe hc
  have hE:=((q_ d l).1 hc).1
  have hh:=hD.right.hours
  have hh1:=hD.right.hours1
  have hw:((!(aC hour 0 (IntKind.i64.wrap (d.hours - 1)))) ||(!(aC known 0 1048576)))= !decide (0≤hour∧hour<d.hours∧0≤known∧known≤1048576):=by
   rw[bK (by omega) (by omega),←Bool.not_and]
   congr 1
   rw[Bool.eq_iff_iff,Bool.and_eq_true,oT,oT,decide_eq_true_eq]
   omega
  obtain⟨c1,c2⟩:=rJ l hour known hD.len
  have hlen:(stS (qf l hour known)).length≤512:=by rw[Bg];exact Nat.le_trans (List.length_filter_le _ _) hD.len
  obtain⟨f1,m,f2,f3,f4⟩:=vo hE (qj hD hour known) hlen
  obtain⟨p1,p2⟩:=Cq hD f3 (hour:=hour) (known:=known) f4
  have key:∀ L:BM,L.Perm m→(L.filterMap (kK d)).Perm (dF d (lZ d l hour known)):=fun L hL=>(hL.filterMap _).trans p1
  have val:aN d l hour known=if 0≤hour∧hour<d.hours∧0≤known∧known≤1048576 then(dF d (lZ d l hour known),0)else([],1):=by
   unfold aN
   rw[hc,hw,c2,f2]
   simp only[bne_self_eq_false,cond_false]
   by_cases hg:0≤hour∧hour<d.hours∧0≤known∧known≤1048576
   ·rw[decide_eq_true hg,if_pos hg]
    simp only[Bool.not_true,cond_false]
    rw[wP,List.nil_append]
    simp only
    rw[(vr (key m (List.Perm.refl _))).2]
   ·rw[decide_eq_false hg,if_neg hg];rfl
  refine⟨⟨gW d l,(fun h=>by rw[hc]at h;cases h),fun _=>⟨fun h=>?_,fun h=>?_⟩⟩,by rw[if_neg (by simp[hc])];exact val⟩
  ·rw[hw]at h
   rw[val,if_neg (by simpa only[Bool.not_eq_true',decide_eq_false_iff_not]using h)]
  ·rw[hw]at h
   have hg:0≤hour∧hour<d.hours∧0≤known∧known≤1048576:=by simpa using h
   rw[c2,f2]
   refine⟨c1,f1,fun L hL=>?_⟩
   have hk:=key L hL
   refine⟨Ab d l hour known L [] (fun k hk=>p2 k (hL.subset hk)) ?_,fun s hs=>?_⟩
   ·have h1:=hk.length_eq
    have h2:=Cp hD.right (lZ d l hour known)
    rw[h1,List.length_nil]
    unfold jL
    omega
   ·rw[wP,List.nil_append]at hs
    cases hs
    obtain⟨s1,s2⟩:=vr hk
    exact⟨s1,by rw[s2,val,if_pos hg]⟩
 ·have hne:(ak d l !=0)=true:=by simpa using hc
  have val:aN d l hour known=([],ak d l):=by unfold aN;rw[hne];rfl
  refine⟨⟨gW d l,(fun _=>val.symm),fun h=>?_⟩,by rw[if_pos hc];exact val⟩
  rw[hne]at h;cases h
end Go.Sx
end
section
namespace Go.Sx
open Go.Proofs
set_option maxRecDepth 100000
set_option linter.unusedSimpArgs false
def aU:District:=({ name:=(ByteArray.mk #[]),hours:=4,tank:=({ cap:=9,start:=9}:Tank),reaches:=[({ name:=(ByteArray.mk #[]),up:=(-1),delay:=1,cap:=50,bank:=50,siphon:=0,evap:=({ lo:=0,hi:=0}:Range),seep:=(({ n:=0,d:=1}:Ratio),({ n:=0,d:=1}:Ratio))}:Reach)],farms:=[({ name:=(ByteArray.mk #[]),reach:=0,area:=0,crop:=(-1)}:Farm),({ name:=(ByteArray.mk #[]),reach:=0,area:=0,crop:=(-1)}:Farm),({ name:=(ByteArray.mk #[]),reach:=0,area:=0,crop:=(-1)}:Farm)],crops:=[],rights:=[({ name:=(ByteArray.mk #[]),kind:=1,farm:=0,reach:=0,rank:=7,litres:=5,since:=0,to:=3,every:=1,length:=1}:Right)],duties:=[],wells:=[]}:District)
@[go_sem] def oy:List SV→Option Con:=(pE (.det True (.agg (cellsOf .district (aU)))))
theorem tW:FnOk Tryz.prog 33 oy:=by
 have hG:ConsOk Tryz.prog (mkG [] []):=a_ cg0 cg0
 refine cr [.st .district] mixed aH hG (fn:=Tryz.f33) (c:=ae Tryz.f33) (by kernel_rfl) (by kernel_rfl) (by kernel_rfl) (by kernel_rfl) (bH (fun hp=>?_))
 dsimp only[bp]at hp
 refine⟨Nat.le_of_ble_eq_true rfl,L0,an _,?_⟩
 ·unfold ae Tryz.f33
  try unfold aU
  simp only[go_sem,Nat.reduceBEq,Nat.reduceLeDiff,Nat.reduceLT,decide_true,Nat.reduceAdd,Nat.reduceSub,Nat.reduceMul,Int.reduceLE,Int.reduceLT,Int.reduceToNat,Int.reduceNeg,reduceCtorEq]
  all_goals exact cl
def ik:Ratio:=({ n:=1,d:=2}:Ratio)
@[go_sem] def qk:List SV→Option Con:=(pE (.det True (.agg [.v (.int .i64 ((ik).n)),.v (.int .i64 ((ik).d))])))
theorem ur:FnOk Tryz.prog 34 qk:=by
 have hG:ConsOk Tryz.prog (mkG [] []):=a_ cg0 cg0
 refine Dx true mixed aH hG (fn:=Tryz.f34) (c:=ae Tryz.f34) (by kernel_rfl) (by kernel_rfl) (by kernel_rfl) (by kernel_rfl) (bH (fun hp=>?_))
 dsimp only[bp]at hp
 refine⟨Nat.le_of_ble_eq_true rfl,L0,an _,?_⟩
 ·unfold ae Tryz.f34
  try unfold ik
  simp only[go_sem,Nat.reduceBEq,Nat.reduceLeDiff,Nat.reduceLT,decide_true,Nat.reduceAdd,Nat.reduceSub,Nat.reduceMul,Int.reduceLE,Int.reduceLT,Int.reduceToNat,Int.reduceNeg,reduceCtorEq]
  all_goals exact cl
end Go.Sx
end
section
namespace Go.Sx
open Go.RowKit
def EQ (n0 id:Nat):Ob→SV
 | .row k l=>bif Nat.ble n0 id then .rs k l else .any
 |_=>.any
def isV:SV→Bool
 | .v _=>true
 |_=>false
def ut (n0:Nat)(h:List Ob):SV→SV
 | .v x=>.v x
 | .rs k l=>.rs k l
 | .agg l=>bif l.all isV then .agg l else .any
 | .os id=>EQ n0 id (ag h id)
 |_=>.any
def uu (n0:Nat)(h:List Ob):SV→SV
 | .tup l=>.tup (l.map (ut n0 h))
 |s=>ut n0 h s
def Ac (n0:Nat)(own:Own):Own:=fun i=>if i<n0 then own i else none
section
variable {F:Nat→Prop}{own:Own}{w:World}{n0:Nat}{h:List Ob}
theorem ql {b:Nat}(hb:¬bS F own b):¬bS F (Ac n0 own) b:=by
 rintro (hf| ⟨id,hd,e,hm⟩)
 ·exact hb (.inl hf)
 ·unfold Ac at e
  split at e
  ·exact hb (.inr ⟨id,hd,e,hm⟩)
  ·cases e
theorem yC (hp:Hp F own w h):∀ (s:SV) (v:Value),Rel F own w s v→Rel F (Ac n0 own) w (ut n0 h s) v:=by
 intro s v hr
 cases s with
 |v x=>exact hr.over (.v x) fun b hb=>ql hb
 |rs k l=>exact hr.over .rs fun b hb=>ql hb
 |agg l=>
  simp only[ut]
  cases ha:l.all isV with
  |false=>exact .any _
  |true=>
   refine hr.over (.agg fun j s hj=>?_) fun b hb=>ql hb
   have:=List.all_eq_true.1 ha s (List.mem_of_getElem? hj)
   cases s <;>first|exact .v _|cases this
 |os id=>
  obtain⟨hd,h1,rfl,h2⟩:=eA hr
  simp only[ut]
  cases ho:ag h id with
  |row k l=>
   simp only[EQ]
   cases hn:Nat.ble n0 id with
   |false=>exact .any _
   |true=>
    have hn':=Nat.le_of_ble_eq_true hn
    obtain⟨hd',e0,e⟩:=hp.at ho rfl
    rw[h1]at e0;cases e0
    have hnb:∀ b∈hd.bs,¬bS F (Ac n0 own) b:=by
     rintro b hb (hf| ⟨i,hi,e1,e2⟩)
     ·exact hp.apart id hd b h1 hb hf
     ·unfold Ac at e1
      split at e1
      ·rename_i hlt
       have:=hp.inj id i hd hi b h1 e1 hb e2
       omega
      ·cases e1
    rcases e with⟨a,e1,rfl,_⟩ | ⟨b,o,cap,cs,ty,e1,e2,h3,h4,h5,h6,h7⟩
    ·rw[e1];exact .rs0
    ·rw[e1]
     refine .rs (fun i j=>cs.getD (o+i*aa k+j) undef) h5 h6 (fun i x hi j s hj=>?_) (fun i x hi j s hj=>?_)
     ·obtain⟨u,k1,k2⟩:=h7 i x hi j s hj
      refine⟨hnb b (by simp[e2]),?_⟩
      rw[cN h3,k1]
      simp[Array.getD_eq_getD_getElem?,k1]
     ·obtain⟨u,k1,k2⟩:=h7 i x hi j s hj
      have:cs.getD (o+i*aa k+j) undef=u:=by simp[Array.getD_eq_getD_getElem?,k1]
      rw[this]
      exact k2.over (jx hj) fun b hb=>ql hb
  |_=>exact .any _
 |_=>exact .any _
theorem ER (hp:Hp F own w h)(s:SV)(v:Value)(hr:Rel F own w s v):Rel F (Ac n0 own) w (uu n0 h s) v:=by
 cases s with
 |tup l=>
  cases hr with
  |tup h0 h1=>
   refine .tup (by simpa using h0) fun j s hj=>?_
   obtain⟨x,hx,rfl⟩:=cb hj
   exact yC hp x _ (h1 j x hx)
 |_=>exact yC hp _ _ hr
@[go_sem] theorem Ol {l:List SV}:uu n0 h (.tup l)=.tup (l.map (ut n0 h)):=(rfl)
@[go_sem] theorem PY {id:Nat}:uu n0 h (.os id)=EQ n0 id (ag h id):=(rfl)
@[go_sem] theorem QK {x:Value}:uu n0 h (.v x)=.v x:=(rfl)
@[go_sem] theorem PZ {k:Tag}{l:List k.T}:uu n0 h (.rs k l)=.rs k l:=(rfl)
@[go_sem] theorem Om {l:List SV}:uu n0 h (.agg l)=bif l.all isV then .agg l else .any:=(rfl)
@[go_sem] theorem QL {x:Value}:ut n0 h (.v x)=.v x:=(rfl)
@[go_sem] theorem P0 {k:Tag}{l:List k.T}:ut n0 h (.rs k l)=.rs k l:=(rfl)
@[go_sem] theorem On {l:List SV}:ut n0 h (.agg l)=bif l.all isV then .agg l else .any:=(rfl)
@[go_sem] theorem P1 {id:Nat}:ut n0 h (.os id)=EQ n0 id (ag h id):=(rfl)
@[go_sem] theorem Oo {k:Tag}{l:List k.T}{id:Nat}:EQ n0 id (.row k l)=bif Nat.ble n0 id then .rs k l else .any:=(rfl)
@[go_sem] theorem isV_v {x:Value}:isV (.v x)=true:=(rfl)
end
def ES (pks:List Pk)(n0:Nat)(S:SV)(H:List Ob)(h:List Ob):Option SV→Prop
 |some s=>S=nZ pks (uu n0 h s)∧eW ⟨[],H⟩ n0 ⟨[],h⟩
 |none=>False
def Ik (pks:List Pk)(n0:Nat)(rs:List ResultVar)(ts:Tis)(S:SV)(H:List Ob):Ex→St→Prop
 | .exit _,_=>False
 | .normal,st=>ES pks n0 S H st.h (iS (g_ ts st rs))
 | .ret,st=>ES pks n0 S H st.h (iS (g_ ts st rs))
 | .pan _,_=>False
section
variable {P:Program}{ts:Tis}{G:Cons}{n0:Nat}{S s:SV}{H h:List Ob}{rs:List ResultVar}{st:St}{pks:List Pk}
@[go_sem] theorem Mu:ES pks n0 S H h (some s)=(S=nZ pks (uu n0 h s)∧eW ⟨[],H⟩ n0 ⟨[],h⟩):=(rfl)
@[go_sem] theorem Hs:Ik pks n0 rs ts S H .normal st=ES pks n0 S H st.h (iS (g_ ts st rs)):=(rfl)
@[go_sem] theorem Mv:Ik pks n0 rs ts S H .ret st=ES pks n0 S H st.h (iS (g_ ts st rs)):=(rfl)
end
end Go.Sx
end
section
namespace Go.Sx
open Go.RowKit
def Ht (h:List Ob):Option Con→Option HCon
 |some (.det p s) =>some (d7 p (uu 0 (aB 3 s) (ej 3 0 s)) (h.map fun _=>.dead))
 |_=>none
def ET (C:List SV→Option Con)(l:List SV)(h:List Ob):Option HCon:=Ht h (C (l.map (du h 6)))
@[go_sem] theorem P2 {C:List SV→Option Con}{l:List SV}{h:List Ob}:ET C l h=Ht h (C (l.map (du h 6))):=(rfl)
@[go_sem] theorem Oq {h:List Ob}{p:Prop}{s:SV}:Ht h (some (.det p s))=some (d7 p (uu 0 (aB 3 s) (ej 3 0 s)) (h.map fun _=>.dead)):=(rfl)
section
variable {P:Program}{F:Nat→Prop}{own:Own}{w w':World}
def EU (own:Own):Own:=fun i=>(own i).map fun hd=>{ hd with bs:=[]}
theorem Hu {b:Nat}(hb:¬F b):¬bS F (EU own) b:=by
 rintro (hf| ⟨id,hd,e,hm⟩)
 ·exact hb hf
 ·unfold EU at e
  cases h:own id with
  |none=>rw[h]at e;cases e
  |some x=>rw[h]at e;cases e;cases hm
theorem FnOk.eat {f:FuncId}{C:List SV→Option Con}(hf:FnOk P f C):FnOkO P f (ET C) where
 enter:=fun l h c e=>by
  unfold ET at e
  cases hc:C (l.map (du h 6))with
  |none=>rw[hc]at e;cases e
  |some c'=>exact hf.enter _ c' hc
 calls:=fun l h c e hp F own w vs hH hr=>by
  unfold ET at e
  cases hc:C (l.map (du h 6))with
  |none=>rw[hc]at e;cases e
  |some c'=>
   rw[hc]at e
   cases c' with
   |det p s=>
    simp only[Ht,Option.some.injEq]at e
    subst e
    have n0:∀ {F':Nat→Prop} {w1:World},(∀ b,F' b→b<w1.heap.size)→Hp F' ce w1 []:=fun hf=>⟨(fun id hd h=>by cases h),hf,(fun id hd b h=>by cases h),(fun i j hi hj b h=>by cases h),(fun id hd b h=>by cases h),(fun id h=>by cases h)⟩
    have hE:∀ {id:Nat} {hd:Hd},EU own id=some hd→hd.bs=[]∧id<h.length:=fun {id hd} h=>by
     unfold EU at h
     cases ho:own id with
     |none=>rw[ho]at h;cases h
     |some x=>rw[ho]at h;cases h;exact⟨rfl,hH.dom id x ho⟩
    refine(hf.calls _ _ hc hp F w vs hH.foreign ⟨by simpa using hr.1,fun j s hj=>?_⟩).mono ?_
    ·obtain⟨x,hx,rfl⟩:=cb hj
     exact nK hH 6 x _ (hr.2 j x hx)
    ·rintro e w' (⟨s',u,own',h1,h2,h3,h4⟩ | ⟨x,hx,_⟩)
     ·cases h1
      obtain⟨own2,q1,q2,q3,q4⟩:=qI (n0 hH.foreign) (.inl fun b=>⟨fun h=>.inl h,fun h=>h.elim id fun⟨_,_,h,_⟩ =>by cases h⟩) h4 h3
      have q5:=ER (n0:=0) q1 _ _ q3
      refine⟨(),EU own,trivial,⟨u,h2,?_⟩,?_,?_,by simp⟩
      ·refine q5.carry ⟨fun id hd h=>by simp[Ac]at h,fun b _ hb=>⟨Hu fun hf=>hb (.inl hf),rfl⟩⟩
      ·refine⟨fun id hd h=>by rw[List.length_map];exact(hE h).2,fun b hb=>Nat.lt_of_lt_of_le (hH.foreign b hb) h4.size,fun id hd b h hm=>?_,fun i j hi hj b h _ hm=>?_,fun id hd b h hm=>?_,fun id hd=>?_⟩
       ·rw[(hE h).1]at hm;cases hm
       ·rw[(hE h).1]at hm;cases hm
       ·rw[(hE h).1]at hm;cases hm
       ·rw[jg,List.getElem?_map]at hd
        cases ho:h[id]? <;>rw[ho]at hd <;>simp[b9]at hd
      ·refine⟨fun id hd h=>?_,fun id hd b h hm=>?_,h4.os,h4.tape,h4.output,h4.size,fun k hk=>h4.block k hk.1⟩
       ·exact⟨{ hd with bs:=[]},by show(own id).map _=_;rw[show own id=some hd from h];rfl,rfl,rfl,rfl⟩
       ·rw[(hE h).1]at hm;cases hm
     ·cases hx
   |_=>cases e
end
end Go.Sx
end
section
namespace Go.Sx
open Go.Proofs
set_option maxRecDepth 100000
set_option linter.unusedSimpArgs false
def gh:=({ no:=5,kind:=4,right:=0,since:=0,to:=0,parts:=[],of_:=3,at_:=0,known:=9}:Deed)
def e_:=([({ no:=1,kind:=3,right:=0,since:=2,to:=0,parts:=[],of_:=0,at_:=0,known:=0}:Deed)])
def et:=(er aU e_ 0)
def eu:=(et.1)
def ev:=(eu.length:Int)
def ew:=({ no:=3,kind:=2,right:=0,since:=0,to:=0,parts:=[({ farm:=1,share:=ik}:Part),({ farm:=2,share:=ik}:Part)],of_:=0,at_:=1,known:=2}:Deed)
def fa:=([ew])
def fb:=(iE aU fa gh)
def bw:=(fb.1)
def cW:=(bw.length:Int)
def fc:=(bw.getD 1 (default:Deed))
def fe:=(aN aU bw 1 9)
def ff:=(aN aU bw 1 2)
def fg:=(aN aU bw 0 2)
def dU:=(ff.1)
def fh:=(fe.1)
def fj:=(fg.1)
def eQ:=(fh.length:Int)
def ef:=(dU.length:Int)
def eS:=(fj.length:Int)
def c5:=(dU.getD 1 (default:Holding))
def ca:=(dU.getD 0 (default:Holding))
def bt:=(fh.getD 0 (default:Holding))
def aV:=(fj.getD 0 (default:Holding))
def gY:=(iE aU bw ew)
def jn:=((bw.take (Int.toNat cW)).drop 1)
def fL:=(ak aU jn)
def jb:Bool:=(bif((((((((((((fb.2 !=0) ||(gY.2 !=171)) ||(fg.2 !=0)) ||(ff.2 !=0)) ||(fe.2 !=0)) ||((aN aU ([]) 4 0).2 !=1)) ||(et.2 !=0)) ||(cW !=2)) ||(eS !=1)) ||(ef !=2)) ||(eQ !=1)) ||(ev !=1))then false else(bif((fL !=250) ||(fc.no !=5))then false else((((((aV.right==0)&&((aV.farm==0)&&((aV.litres==5)&&(aV.rank==7))))&&((bt.right==0)&&((bt.farm==0)&&((bt.litres==5)&&(bt.rank==7)))))&&((ca.right==0)&&((ca.farm==1)&&((ca.litres==3)&&(ca.rank==7)))))&&((c5.right==0)&&((c5.farm==2)&&((c5.litres==2)&&(c5.rank==7)))))&&((eu.getD 0 (0:Int)) ==1))))
def iO:Prop:=((eZ aU fa gh)∧((eZ aU bw ew)∧((ed aU bw 0 2)∧((ed aU bw 1 2)∧((ed aU bw 1 9)∧((ed aU ([]) 4 0)∧((gz aU e_ 0)∧(((((((((((((fb.2 !=0) ||(gY.2 !=171)) ||(fg.2 !=0)) ||(ff.2 !=0)) ||(fe.2 !=0)) ||((aN aU ([]) 4 0).2 !=1)) ||(et.2 !=0)) ||(cW !=2)) ||(eS !=1)) ||(ef !=2)) ||(eQ !=1)) ||(ev !=1))=false→((0≤1∧1≤cW∧cW≤cW)∧((c8 aU jn)∧(((fL !=250)=false→(0≤1∧1<cW))∧(((fL !=250) ||(fc.no !=5))=false→((0≤0∧0<eS)∧((((aV.right==0)&&((aV.farm==0)&&((aV.litres==5)&&(aV.rank==7))))=true→(0≤0∧0<eQ))∧(((((aV.right==0)&&((aV.farm==0)&&((aV.litres==5)&&(aV.rank==7))))&&((bt.right==0)&&((bt.farm==0)&&((bt.litres==5)&&(bt.rank==7)))))=true→(0≤0∧0<ef))∧((((((aV.right==0)&&((aV.farm==0)&&((aV.litres==5)&&(aV.rank==7))))&&((bt.right==0)&&((bt.farm==0)&&((bt.litres==5)&&(bt.rank==7)))))&&((ca.right==0)&&((ca.farm==1)&&((ca.litres==3)&&(ca.rank==7)))))=true→(0≤1∧1<ef))∧((((((aV.right==0)&&((aV.farm==0)&&((aV.litres==5)&&(aV.rank==7))))&&((bt.right==0)&&((bt.farm==0)&&((bt.litres==5)&&(bt.rank==7)))))&&((ca.right==0)&&((ca.farm==1)&&((ca.litres==3)&&(ca.rank==7)))))&&((c5.right==0)&&((c5.farm==2)&&((c5.litres==2)&&(c5.rank==7)))))=true→(0≤0∧0<ev))))))))))))))))))
@[go_sem] def qm:List SV→Option Con:=(pE (.det (iO) (.v (.bool (jb)))))
theorem uv:FnOk Tryz.prog 11 qm:=by
 have hG:ConsOk Tryz.prog (mkG [(13,fun l=>kE (dN [.st .district,.sl .deed,.st .deed] l)),(15,fun l=>eh (dN [.st .district,.sl .deed] l)),(18,fun l=>lj (dN [.st .district,.sl .deed,.o,.o] l)),(20,fun l=>lY (dN [.st .district,.sl .deed,.o] l)),(33,oy),(34,qk)] [(13,ET (fun l=>kE (dN [.st .district,.sl .deed,.st .deed] l)))]):=a_ (cgc (mI.norm [.st .district,.sl .deed,.st .deed]) (cgc (eM.norm [.st .district,.sl .deed]) (cgc (nB.norm [.st .district,.sl .deed,.o,.o]) (cgc (qh.norm [.st .district,.sl .deed,.o]) (cgc tW (cgc ur cg0)))))) (cgc (FnOk.eat (mI.norm [.st .district,.sl .deed,.st .deed])) cg0)
 refine cr [.o] mixed aH hG (fn:=Tryz.f11) (c:=ae Tryz.f11) (by kernel_rfl) (by kernel_rfl) (by kernel_rfl) (by kernel_rfl) (bH (fun hp=>?_))
 dsimp only[bp]at hp
 unfold iO at hp
 try simp only[gh,e_,et,eu,ev,ew,fa,fb,bw,cW,fc,fe,ff,fg,dU,fh,fj,eQ,ef,eS,c5,ca,bt,aV,gY,jn,fL]at hp
 refine⟨Nat.le_of_ble_eq_true rfl,L0,an _,?_⟩
 ·unfold ae Tryz.f11
  try unfold jb
  simp (maxSteps:=1000000) only[go_sem,Nat.reduceBEq,Nat.reduceLeDiff,Nat.reduceLT,decide_true,Nat.reduceAdd,Nat.reduceSub,Nat.reduceMul,Int.reduceLE,Int.reduceLT,Int.reduceToNat,Int.reduceNeg,reduceCtorEq,gh,e_,et,eu,ev,ew,fa,fb,bw,cW,fc,fe,ff,fg,dU,fh,fj,eQ,ef,eS,c5,ca,bt,aV,gY,jn,fL]
  all_goals exact cl
end Go.Sx
end
section
namespace Go.Sx
open Go.Proofs
set_option maxRecDepth 100000
theorem yD (d:District)(l:List Deed)(known:Int):gz d l known∧
  er d l known=if ak d l≠0 then([],ak d l)else if 0≤known∧known≤1048576 then(qd (Cn (stS (qf l 4096 known)) (B0 d)),0)else([],1):=by
 by_cases hc:ak d l=0
 ·have hD:=qe hc
  have hE:=((q_ d l).1 hc).1
  have hw:(!(aC known 0 1048576))= !decide (0≤known∧known≤1048576):=by
   congr 1
   rw[Bool.eq_iff_iff,oT,decide_eq_true_eq]
  obtain⟨c1,c2⟩:=rJ l 4096 known hD.len
  have hlen:(stS (qf l 4096 known)).length≤512:=by rw[Bg];exact Nat.le_trans (List.length_filter_le _ _) hD.len
  obtain⟨f1,m,f2,f3,f4⟩:=vo hE (qj hD 4096 known) hlen
  refine⟨⟨gW d l,fun _ _=>⟨c1,by rw[c2];exact f1⟩⟩,?_⟩
  unfold er
  rw[if_neg (by simp[hc]),hc,hw,c2,f2]
  simp only[bne_self_eq_false,cond_false]
  by_cases hg:0≤known∧known≤1048576
  ·rw[decide_eq_true hg,if_pos hg];rfl
  ·rw[decide_eq_false hg,if_neg hg];rfl
 ·have hne:(ak d l !=0)=true:=by simpa using hc
  refine⟨⟨gW d l,(fun h=>by rw[hne]at h;cases h)⟩,?_⟩
  rw[if_pos hc]
  unfold er;rw[hne];rfl
theorem Km (a:Deed)(n:Int):decide (dS a n<0)=decide (a.no<n):=by
 unfold dS
 rw[k9]
 by_cases h:a.no<n
 ·simp[h]
 ·by_cases h2:a.no > n <;>simp[h,h2]
theorem Kn (a:Deed)(n:Int):(dS a n==0)=decide (a.no=n):=by
 unfold dS
 rw[k9]
 by_cases h:a.no<n
 ·have:¬a.no=n:=by omega
  simp[h,this]
 ·by_cases h2:a.no > n
  ·have:¬a.no=n:=by omega
   simp[h,h2,this]
  ·have:a.no=n:=by omega
   simp[this]
theorem EV {l:List Deed}(h:Asc l){i j:Nat}(h1:i<j)(h2:j<l.length):(l.getD i default).no< (l.getD j default).no:=by
 rw[nS l _ (by omega),nS l _ h2]
 exact List.pairwise_iff_getElem.1 h i j (by omega) h2 h1
theorem Il {l:List Deed}(hA:Asc l)(hl:l.length≤4096)(n:Int):bB l n∧∃ q:Nat,q≤l.length∧am l n=((q:Int),decide (q<l.length∧(l.getD q default).no=n))∧(∀ i,i<q→(l.getD i default).no<n)∧∀ i,q≤i→i<l.length→n≤(l.getD i default).no:=by
 obtain⟨s1,r,s2,q,rfl,q1,q2,q3,q4⟩:=wD (step:=aj l n) (p:=aD l n) (fun h=>decide ((l.getD h default).no<n)) 0 l.length (Nat.zero_le _)
  (fun i j h1 h2 h3 h4=>by
   simp only[decide_eq_true_eq]at h4 ⊢
   rcases Nat.eq_or_lt_of_le h2 with rfl|h2
   ·exact h4
   ·have:=EV hA h2 h3;omega)
  (fun k i j h1 h2 h3=>by
   have e:decide ((i:Int) < (j:Int))=true:=by rw[decide_eq_true_eq];omega
   unfold aD aj
   simp only[yi (i:=i) (j:=j) (by omega) (by omega),e,cond_true,Int.toNat_natCast,Km]
   have w2:IntKind.i64.wrap ((((i+j) / 2:Nat):Int)+1)=(((i+j) / 2+1:Nat):Int):=by rw[bK (by omega) (by omega)];omega
   rw[w2]
   exact⟨fun _=>by omega,rfl⟩)
  (fun k i=>by
   have e:decide ((i:Int) < (i:Int))=false:=by simp
   unfold aD aj
   simp only[e,cond_false]
   exact⟨fun h=>by simp at h,trivial⟩) (l.length+1) 0 (by omega)
 have s2':ay (aj l n) (l.length+1) 0 (0,(l.length:Int))=.inl (q:Int):=s2
 refine⟨fun _=>⟨s1,(fun z h=>by rw[s2']at h;cases h),fun x hx h=>?_⟩,q,q2,?_,fun i hi=>?_,fun i h1 h2=>?_⟩
 ·rw[s2']at hx;cases hx
  rw[decide_eq_true_eq]at h
  omega
 ·unfold am
  rw[s2']
  simp only[Int.toNat_natCast,Kn]
  rw[Prod.mk.injEq]
  refine⟨rfl,?_⟩
  rw[Bool.eq_iff_iff,Bool.and_eq_true,decide_eq_true_eq,decide_eq_true_eq,decide_eq_true_eq]
  omega
 ·simpa using q3 i (Nat.zero_le _) hi
 ·have:=q4 i h1 h2
  simp only[decide_eq_false_iff_not]at this
  omega
abbrev exS:Deed:= { no:=3,kind:=2,right:=0,since:=0,to:=0,parts:=[{ farm:=1,share:=ik},{ farm:=2,share:=ik}],of_:=0,at_:=1,known:=2}
abbrev exV:Deed:= { no:=5,kind:=4,right:=0,since:=0,to:=0,parts:=[],of_:=3,at_:=0,known:=9}
theorem e19:fb=([exS,exV],0):=by kernel_rfl
theorem e18:bw=[exS,exV]:=by kernel_rfl
theorem e2:gY=([],171):=by kernel_rfl
theorem eC:ak aU [exS,exV]=0:=by kernel_rfl
theorem eH (hour known:Int)(L:List Holding)(h1:decide (0≤hour∧hour<aU.hours∧0≤known∧known≤1048576)=true)(h2:dF aU (lZ aU [exS,exV] hour known)=L):aN aU bw hour known=(L,0):=by
 rw[e18,(tV _ _ _ _).2,if_neg (by rw[eC];decide),if_pos (of_decide_eq_true h1),h2]
theorem e13:fg=([{ right:=0,farm:=0,litres:=5,rank:=7}],0):=eH 0 2 _ (by kernel_rfl) (by kernel_rfl)
theorem e14:ff=([{ right:=0,farm:=1,litres:=3,rank:=7},{ right:=0,farm:=2,litres:=2,rank:=7}],0):=eH 1 2 _ (by kernel_rfl) (by kernel_rfl)
theorem e15:fe=([{ right:=0,farm:=0,litres:=5,rank:=7}],0):=eH 1 9 _ (by kernel_rfl) (by kernel_rfl)
theorem eN:aN aU [] 4 0=([],1):=by
 have hc:ak aU []=0:=by kernel_rfl
 rw[(tV _ _ _ _).2,if_neg (by rw[hc];decide),if_neg (of_decide_eq_false (by kernel_rfl))]
theorem e24:et=([1],0):=by
 have hc:ak aU e_=0:=by kernel_rfl
 have he:Cn (stS (qf e_ 4096 0)) (B0 aU)=[1]:=by kernel_rfl
 unfold et
 rw[(yD _ _ _).2,if_neg (by rw[hc];decide),if_pos (by decide),he]
 simp[qd]
theorem e0:fL=250:=by kernel_rfl
theorem e7:eS=1:=by unfold eS fj;rw[e13];rfl
theorem e8:ef=2:=by unfold ef dU;rw[e14];rfl
theorem e9:eQ=1:=by unfold eQ fh;rw[e15];rfl
theorem e17:cW=2:=by unfold cW;rw[e18];rfl
theorem e22:ev=1:=by unfold ev eu;rw[e24];rfl
theorem e3':aV= { right:=0,farm:=0,litres:=5,rank:=7}:=by unfold aV fj;rw[e13];rfl
theorem e4':bt= { right:=0,farm:=0,litres:=5,rank:=7}:=by unfold bt fh;rw[e15];rfl
theorem e5':ca= { right:=0,farm:=1,litres:=3,rank:=7}:=by unfold ca dU;rw[e14];rfl
theorem e6':c5= { right:=0,farm:=2,litres:=2,rank:=7}:=by unfold c5 dU;rw[e14];rfl
theorem e16:fc=exV:=by unfold fc;rw[e18];rfl
theorem e23:eu=[1]:=by unfold eu;rw[e24]
theorem Ko:jb=true:=by
 unfold jb
 rw[e19,e2,e13,e14,e15,eN,e24,e17,e7,e8,e9,e22,e0,e16,e3',e4',e5',e6',e23]
 rfl
theorem Kp:eZ aU fa gh:=by
 refine⟨gW _ _,fun _=>?_⟩
 have hA:Asc fa:=List.pairwise_singleton _ _
 refine⟨(Il hA (by decide) _).1,fun _=>⟨by decide,by kernel_rfl,?_,gW _ _⟩⟩
 unfold bI
 exact⟨by decide,fun _ _ _=>by decide⟩
theorem Kq:eZ aU bw ew:=by
 refine⟨gW _ _,fun _=>?_⟩
 have hA:Asc bw:=by rw[e18];exact(qe eC).asc
 refine⟨(Il hA (by rw[e18];decide) _).1,fun h=>?_⟩
 have:(am bw ew.no).2=true:=by kernel_rfl
 rw[this]at h;cases h
theorem Ad:iO:=by
 unfold iO
 refine⟨Kp,Kq,(tV _ _ _ _).1,(tV _ _ _ _).1,(tV _ _ _ _).1,(tV _ _ _ _).1,(yD _ _ _).1,fun _=>?_⟩
 rw[e17,e7,e8,e9]
 simp[gW,e22]
end Go.Sx
end
section
namespace Go.Sx
open Go.Proofs
set_option maxRecDepth 100000
set_option linter.unusedSimpArgs false
@[go_sem] def iP (a0:Deed)(a1:Deed)(k_0:Nat)(s_0:Unit):Unit⊕Unit:=(bif(!(((a0.parts.getD k_0 (default:Part)).farm==(a1.parts.getD k_0 (default:Part)).farm)&&(((a0.parts.getD k_0 (default:Part)).share.n==(a1.parts.getD k_0 (default:Part)).share.n)&&((a0.parts.getD k_0 (default:Part)).share.d==(a1.parts.getD k_0 (default:Part)).share.d))))then .inl ()else .inr ())
def gL (a0:Deed)(a1:Deed)(k_0:Nat)(s_0:Unit):Prop:=(a0.parts.length≤cp→(0≤(k_0:Int)∧(k_0:Int) < (a1.parts.length:Int)))
def kL (a0:Deed)(a1:Deed):Bool:=(bif(((((((((a0.no !=a1.no) ||(a0.kind !=a1.kind)) ||(a0.right !=a1.right)) ||(a0.since !=a1.since)) ||(a0.to !=a1.to)) ||(a0.of_ !=a1.of_)) ||(a0.at_ !=a1.at_)) ||(a0.known !=a1.known)) ||((a0.parts.length:Int) !=(a1.parts.length:Int)))then false else(match ay (iP a0 a1) a0.parts.length 0 ()with| .inl x_0_0=>false| .inr s_0=>true))
def jc (a0:Deed)(a1:Deed):Prop:=((((((((((a0.no !=a1.no) ||(a0.kind !=a1.kind)) ||(a0.right !=a1.right)) ||(a0.since !=a1.since)) ||(a0.to !=a1.to)) ||(a0.of_ !=a1.of_)) ||(a0.at_ !=a1.at_)) ||(a0.known !=a1.known)) ||((a0.parts.length:Int) !=(a1.parts.length:Int)))=false→okI (iP a0 a1) (gL a0 a1) a0.parts.length 0 ())
@[go_sem] def l7:List SV→Option Con:=(pD .deed fun a0=>(pD .deed fun a1=>(pE (.det (jc a0 a1) (.v (.bool (kL a0 a1)))))))
theorem qn:FnOk Tryz.prog 30 l7:=by
 have hG:ConsOk Tryz.prog (mkG [] []):=a_ cg0 cg0
 refine cr [.o] mixed aH hG (fn:=Tryz.f30) (c:=ae Tryz.f30) (by kernel_rfl) (by kernel_rfl) (by kernel_rfl) (by kernel_rfl) (cF fun a0=>(cF fun a1=>(bH (fun hp=>?_))))
 dsimp only[bp]at hp
 unfold jc at hp
 refine⟨Nat.le_of_ble_eq_true rfl,(fun id st=>bif Nat.beq id 0 then some (LCR (ρ:=Unit) (σ:=Unit) 2 [] [0,1] (fun k_0 s_0=>⟨[(2,.ptr 0 0),(3,.ptr 1 0),(5,.v (.int .i64 (k_0:Int)))],[.cells (cellsOf .deed a0),.cells (cellsOf .deed a1)]⟩) (iP a0 a1) (gL a0 a1) a0.parts.length () (True) (fun _=>.ret) (fun x_0_0=>⟨[(4,.v (.bool false))],[.dead,.dead]⟩) st)else none),?_,?_⟩
 ·unfold ae Tryz.f30
  simp only[aw,true_and,and_true]
  ·refine tA (a0.parts.length≤cp) mixed aH hG (by kernel_rfl) (fun _=>rfl) (a0.parts.length:Int) rfl lL (fun hb0 k_0 s_0 hlt0 hq0 hw hc=>⟨L0,an _,?_⟩) (fun hb0 s_0 hc=>?_) fun hb0 k_0 s_0=>?_
   ·unfold gL at hq0
    try simp only[hw,Int.toNat_natCast]at hq0
    exact pK
   ·exact pL
   ·simp only[go_sem,Nat.reduceBEq,Nat.reduceLeDiff,Nat.reduceLT,decide_true,Nat.reduceAdd,Nat.reduceSub,Nat.reduceMul,Int.reduceLE,Int.reduceLT,Int.reduceToNat,Int.reduceNeg,reduceCtorEq,hb0]
 ·unfold ae Tryz.f30
  try unfold kL
  simp only[go_sem,Nat.reduceBEq,Nat.reduceLeDiff,Nat.reduceLT,decide_true,Nat.reduceAdd,Nat.reduceSub,Nat.reduceMul,Int.reduceLE,Int.reduceLT,Int.reduceToNat,Int.reduceNeg,reduceCtorEq]
  all_goals exact cl
@[go_sem] def ll (a:List Deed)(b:List Deed)(k_0:Nat)(s_0:Unit):Unit⊕Unit:=(bif(!(kL (a.getD k_0 (default:Deed)) (b.getD k_0 (default:Deed))))then .inl ()else .inr ())
def jS (a:List Deed)(b:List Deed)(k_0:Nat)(s_0:Unit):Prop:=(a.length≤cp→((0≤(k_0:Int)∧(k_0:Int) < (b.length:Int))∧(jc (a.getD k_0 (default:Deed)) (b.getD k_0 (default:Deed)))))
def tX (a:List Deed)(b:List Deed):Bool:=(bif((a.length:Int) !=(b.length:Int))then false else(match ay (ll a b) a.length 0 ()with| .inl x_0_0=>false| .inr s_0=>true))
def qo (a:List Deed)(b:List Deed):Prop:=(a.length≤cp→(b.length≤cp→(((a.length:Int) !=(b.length:Int))=false→okI (ll a b) (jS a b) a.length 0 ())))
@[go_sem] def wQ:List SV→Option Con:=(pR .deed fun a=>(pR .deed fun b=>(pE (.det (qo a b) (.v (.bool (tX a b)))))))
theorem Fb:FnOk Tryz.prog 17 wQ:=by
 have hG:ConsOk Tryz.prog (mkG [(30,fun l=>l7 (dN [.st .deed,.st .deed] l))] []):=a_ (cgc (qn.norm [.st .deed,.st .deed]) cg0) cg0
 refine cr [.o] mixed aH hG (fn:=Tryz.f17) (c:=ae Tryz.f17) (by kernel_rfl) (by kernel_rfl) (by kernel_rfl) (by kernel_rfl) (fX fun a=>(fX fun b=>(bH (fun hp=>?_))))
 dsimp only[bp]at hp
 unfold qo at hp
 refine⟨Nat.le_of_ble_eq_true rfl,(fun id st=>bif Nat.beq id 0 then some (LCR (ρ:=Unit) (σ:=Unit) 0 [] [] (fun k_0 s_0=>⟨[(0,.rs .deed a),(1,.rs .deed b),(5,.v (.int .i64 (k_0:Int)))],[]⟩) (ll a b) (jS a b) a.length () (True) (fun _=>.ret) (fun x_0_0=>⟨[(4,.v (.bool false))],[]⟩) st)else none),?_,?_⟩
 ·unfold ae Tryz.f17
  simp only[aw,true_and,and_true]
  ·refine tA (a.length≤cp) mixed aH hG (by kernel_rfl) (fun _=>rfl) (a.length:Int) rfl lL (fun hb0 k_0 s_0 hlt0 hq0 hw hc=>⟨L0,an _,?_⟩) (fun hb0 s_0 hc=>?_) fun hb0 k_0 s_0=>?_
   ·unfold jS at hq0
    try simp only[hw,Int.toNat_natCast]at hq0
    exact nO
   ·exact nP
   ·simp only[go_sem,Nat.reduceBEq,Nat.reduceLeDiff,Nat.reduceLT,decide_true,Nat.reduceAdd,Nat.reduceSub,Nat.reduceMul,Int.reduceLE,Int.reduceLT,Int.reduceToNat,Int.reduceNeg,reduceCtorEq,hb0]
 ·unfold ae Tryz.f17
  try unfold tX
  simp only[go_sem,Nat.reduceBEq,Nat.reduceLeDiff,Nat.reduceLT,decide_true,Nat.reduceAdd,Nat.reduceSub,Nat.reduceMul,Int.reduceLE,Int.reduceLT,Int.reduceToNat,Int.reduceNeg,reduceCtorEq]
  all_goals exact cl
@[go_sem] def qp (l_:List Deed)(k_0:Nat)(s_0:Unit):Unit⊕Unit:=(bif(decide ((((l_.getD k_0 (default:Deed)).parts).length:Int) > 100))then .inl ()else .inr ())
def l8 (d:District)(l_:List Deed):Bool:=(bif((decide ((l_.length:Int) > 512))&&(decide ((l_.length:Int)≤700)))then(nN d)else(bif((((decide ((l_.length:Int) > 60)) ||(!(nN d))) ||((decide ((d.rights.length:Int) > 40))&&(decide ((d.rights.length:Int)≤256)))) ||((decide ((d.farms.length:Int) > 60))&&(decide ((d.farms.length:Int)≤600))))then false else(match ay (qp l_) l_.length 0 ()with| .inl x_0_0=>false| .inr s_0=>true)))
@[go_sem] def rL:List SV→Option Con:=(pD .district fun d=>(pR .deed fun l_=>(pE (.det True (.v (.bool (l8 d l_)))))))
theorem wR:FnOk Tryz.prog 12 rL:=by
 have hG:ConsOk Tryz.prog (mkG [(35,fun l=>rD (dN [.st .district] l))] []):=a_ (cgc (wu.norm [.st .district]) cg0) cg0
 refine cr [.o] mixed aH hG (fn:=Tryz.f12) (c:=ae Tryz.f12) (by kernel_rfl) (by kernel_rfl) (by kernel_rfl) (by kernel_rfl) (cF fun d=>(fX fun l_=>(bH (fun hp=>?_))))
 dsimp only[bp]at hp
 refine⟨Nat.le_of_ble_eq_true rfl,(fun id st=>bif Nat.beq id 0 then some (LCR (ρ:=Unit) (σ:=Unit) 1 [] [0] (fun k_0 s_0=>⟨[(1,.rs .deed l_),(5,.v (.int .i64 (k_0:Int)))],[.dead]⟩) (qp l_) pT l_.length () (True) (fun _=>.ret) (fun x_0_0=>⟨[(4,.v (.bool false))],[.dead]⟩) st)else none),?_,?_⟩
 ·unfold ae Tryz.f12
  simp only[aw,true_and,and_true]
  ·refine tA (l_.length≤cp) mixed aH hG (by kernel_rfl) (fun _=>rfl) (l_.length:Int) rfl lL (fun hb0 k_0 s_0 hlt0 _ hw hc=>⟨L0,an _,?_⟩) (fun hb0 s_0 hc=>?_) fun hb0 k_0 s_0=>?_
   ·exact ky
   ·exact kz
   ·simp only[go_sem,Nat.reduceBEq,Nat.reduceLeDiff,Nat.reduceLT,decide_true,Nat.reduceAdd,Nat.reduceSub,Nat.reduceMul,Int.reduceLE,Int.reduceLT,Int.reduceToNat,Int.reduceNeg,reduceCtorEq,hb0]
 ·unfold ae Tryz.f12
  try unfold l8
  simp only[go_sem,Nat.reduceBEq,Nat.reduceLeDiff,Nat.reduceLT,decide_true,Nat.reduceAdd,Nat.reduceSub,Nat.reduceMul,Int.reduceLE,Int.reduceLT,Int.reduceToNat,Int.reduceNeg,reduceCtorEq]
  all_goals exact cl
end Go.Sx
end
section
namespace Go.Sx
open Go.Proofs
set_option maxRecDepth 100000
set_option linter.unusedSimpArgs false
end Go.Sx
end
section
namespace Go.Sx
open Go.Proofs
theorem Hv {l:List Deed}(h:Asc l){x y:Deed}(hx:x∈l)(hy:y∈l)(e:x.no=y.no):x=y:=by
 rw[←tS h hx,←tS h hy,e]
theorem Deeds.target {d:District}{l:List Deed}(h:Deeds d l){x y:Deed}(hx:x∈l)(hk:x.kind=4)(hy:y∈l)(e:y.no=x.of_):y.kind≠4∧y.known≤x.known∧y.no<x.no:=by
 obtain⟨z,hz,h1,h2,h3,h4⟩:=h.void x hx hk
 have:y=z:=Hv h.asc hy hz (by rw[e,h1])
 rw[this];exact⟨h2,h3,h4⟩
theorem Ae {l:List Deed}{known n:Int}:li l known n=true↔∃ u∈l,u.kind=4∧u.known≤known∧u.of_=n:=by
 unfold li
 rw[List.any_eq_true]
 simp only[Bool.and_eq_true,beq_iff_eq,decide_eq_true_eq,and_assoc]
def lv (l:List Deed)(hour known:Int)(x:Deed):Bool:= !((((x.kind==4) ||(decide (x.known > known))) ||(decide (x.at_ > hour))) ||li l known x.no)
theorem Kr {l:List Deed}{hour known:Int}{x:Deed}:lv l hour known x=true↔x.kind≠4∧x.known≤known∧x.at_≤hour∧¬ ∃ u∈l,u.kind=4∧u.known≤known∧u.of_=x.no:=by
 unfold lv
 rw[←Ae]
 simp only[Bool.not_eq_true',Bool.or_eq_false_iff,beq_eq_false_iff_ne,decide_eq_false_iff_not,Bool.not_eq_true,and_assoc]
 constructor
 ·rintro⟨a,b,c,e⟩;exact⟨a,by omega,by omega,e⟩
 ·rintro⟨a,b,c,e⟩;exact⟨a,by omega,by omega,e⟩
end Go.Sx
end
section
namespace Go.Sx
universe u
section
variable {α:Type u}
def pV (k:Int→List SV→Option α):List SV→Option α
 | .v (.int .u8 n)::r=>k n r
 |_=>none
@[go_sem] theorem P3 {k:Int→List SV→Option α}{n:Int}{r:List SV}:pV k (.v (.int .u8 n)::r)=k n r:=(rfl)
theorem Ks {k:Int→List SV→Option α}{l:List SV}{c:α}(h:pV k l=some c):∃ n r,l=.v (.int .u8 n)::r∧k n r=some c:=by
 unfold pV at h
 split at h
 ·exact⟨_,_,rfl,h⟩
 ·cases h
def pW (k:Int→List SV→Option α):List SV→Option α
 | .v (.int .u16 n)::r=>k n r
 |_=>none
@[go_sem] theorem P4 {k:Int→List SV→Option α}{n:Int}{r:List SV}:pW k (.v (.int .u16 n)::r)=k n r:=(rfl)
theorem Kt {G:List SV→α→Prop}{k:Int→List SV→Option α}(h:∀ n l c,k n l=some c→G (.v (.int .u8 n)::l) c):∀ l c,pV k l=some c→G l c:=fun l c hc=>by
 obtain⟨n,r,rfl,h1⟩:=Ks hc;exact h n r c h1
end
end Go.Sx
end
section
namespace Go.Sx
open Go.Proofs
set_option maxRecDepth 100000
set_option linter.unusedSimpArgs false
end Go.Sx
end
section
namespace Go.Sx
open Go.Proofs
theorem Ku {w:Int}{n:Nat}(h0:0≤w)(h1:w≤65535)(hn:n≠0):0≤Int.tmod (IntKind.i64.wrap w) (n:Int)∧Int.tmod (IntKind.i64.wrap w) (n:Int) < (n:Int):=by
 rw[bK (by omega) (by omega),Int.tmod_eq_emod_of_nonneg h0]
 exact⟨Int.emod_nonneg _ (by omega),Int.emod_lt_of_pos _ (by omega)⟩
end Go.Sx
end
section
namespace Go.Sx
open Go.Proofs
set_option maxRecDepth 100000
set_option linter.unusedSimpArgs false
end Go.Sx
end
section
namespace Go.Sx
open Go.Proofs
set_option maxRecDepth 100000
set_option linter.unusedSimpArgs false
end Go.Sx
end
section
namespace Go.Sx
open Go.Proofs
def Hw (r:Int):List Holding→Int
 | [] =>0
 |x::l=>(if x.right=r then x.litres else 0)+Hw r l
theorem Bh {d:District}{r:Int}{L:Int}:∀ (ds:List Deed) (B:Int→Int→Int),(∀ x∈ds,Fit d x∧x.kind≠4)→Good d.farms.length L (B r)→Good d.farms.length L (rb ds B r)∧((∀ x∈ds,x.right=r→x.kind≠3)→tot d.farms.length (rb ds B r)=tot d.farms.length (B r))
 | [],B,_,hg=>⟨hg,fun _=>rfl⟩
 |x::ds,B,h,hg=>by
  have hx:=h x List.mem_cons_self
  have h1:Good d.farms.length L (gX x B r)∧((x.right=r→x.kind≠3)→tot d.farms.length (gX x B r)=tot d.farms.length (B r)):=by
   unfold gX
   by_cases e:r=x.right
   ·rw[if_pos e]
    obtain⟨q1,q2⟩:=yz hx.1 hx.2 hg
    exact⟨q1,fun hk=>q2 (hk e.symm)⟩
   ·rw[if_neg e];exact⟨hg,fun _=>rfl⟩
  obtain⟨q1,q2⟩:=Bh ds (gX x B) (fun y hy=>h y (List.mem_cons_of_mem _ hy)) h1.1
  exact⟨q1,fun hk=>(q2 fun y hy=>hk y (List.mem_cons_of_mem _ hy)).trans (h1.2 (hk x List.mem_cons_self))⟩
theorem yE {d:District}{r:Int}(hr:¬ (0≤r∧r< (d.rights.length:Int)∧(d.rights.getD r.toNat default).kind=1)):∀ (ds:List Deed) (B:Int→Int→Int),(∀ x∈ds,Fit d x∧x.kind≠4)→rb ds B r=B r
 | [],B,_=>rfl
 |x::ds,B,h=>by
  have h1:=h x List.mem_cons_self
  have h2:=h1.1.held h1.2
  show rb ds (gX x B) r=_
  rw[yE hr ds _ fun y hy=>h y (List.mem_cons_of_mem _ hy)]
  unfold gX
  rw[if_neg (fun e=>hr (by rw[e];exact⟨h2.1,h2.2.1,h2.2.2.1⟩))]
theorem t0:∀ n,tot n (fun _=>0)=0:=fun n=>by
 induction n with
 |zero=>rfl
 |succ n ih=>unfold tot;rw[ih];rfl
theorem Hz {d:District}(h:bf d=0){k:Nat}(hk:k<d.rights.length)(ht:(d.rights.getD k default).kind=1):Good d.farms.length (d.rights.getD k default).litres (B0 d k)∧tot d.farms.length (B0 d k)=(d.rights.getD k default).litres:=by
 have hto:=qg h hk ht
 have hl:=hto.l0
 have e:B0 d k=eP (fun _=>0) (d.rights.getD k default).farm (d.rights.getD k default).litres:=by
  funext f
  unfold B0 eP
  rw[Int.toNat_natCast]
  by_cases hf:f=(d.rights.getD k default).farm
  ·rw[if_pos ⟨by omega,by omega,ht,hf.symm⟩,if_pos hf]
  ·rw[if_neg (fun h=>hf h.2.2.2.symm),if_neg hf]
 rw[e]
 refine⟨Good.put (L:=0) ⟨fun _=>Int.le_refl _,fun f hf=>absurd rfl hf,by rw[t0];exact Int.le_refl _⟩ hto.f0 hto.f1 (by omega) (by rw[t0];omega),?_⟩
 rw[my _ _ _ _ hto.f0 hto.f1,t0];omega
theorem HA {d:District}{r:Int}(hr:¬ (0≤r∧r< (d.rights.length:Int)∧(d.rights.getD r.toNat default).kind=1)):B0 d r=fun _=>0:=by
 funext f
 unfold B0
 rw[if_neg (fun h=>hr ⟨h.1,h.2.1,h.2.2.1⟩)]
structure Held (d:District)(B:Int→Int→Int):Prop where
 nn:∀ r f,0≤B r f
 take:∀ k,k<d.rights.length→(d.rights.getD k default).kind=1→Good d.farms.length (d.rights.getD k default).litres (B k)
 other:∀ r:Int,¬ (0≤r∧r< (d.rights.length:Int)∧(d.rights.getD r.toNat default).kind=1)→B r=fun _=>0
theorem EW {d:District}(h:bf d=0){ds:List Deed}(hd:∀ x∈ds,Fit d x∧x.kind≠4):Held d (rb ds (B0 d)):=by
 have ht:∀ k,k<d.rights.length→(d.rights.getD k default).kind=1→Good d.farms.length (d.rights.getD k default).litres (rb ds (B0 d) k):=fun k hk hkk=>(Bh ds _ hd (Hz h hk hkk).1).1
 have ho:∀ r:Int,¬ (0≤r∧r< (d.rights.length:Int)∧(d.rights.getD r.toNat default).kind=1)→rb ds (B0 d) r=fun _=>0:=fun r hr=>(yE hr ds _ hd).trans (HA hr)
 refine⟨fun r f=>?_,ht,ho⟩
 by_cases hr:0≤r∧r< (d.rights.length:Int)∧(d.rights.getD r.toNat default).kind=1
 ·have:=(ht r.toNat (by omega) hr.2.2).nn f
  rwa[Int.toNat_of_nonneg hr.1]at this
 ·rw[ho r hr];exact Int.le_refl _
theorem Held.le {d:District}{B:Int→Int→Int}(h:Held d B)(he:bf d=0)(r f:Int):B r f≤1073741824:=by
 by_cases hr:0≤r∧r< (d.rights.length:Int)∧(d.rights.getD r.toNat default).kind=1
 ·have hg:=h.take r.toNat (by omega) hr.2.2
  have ht:=qg he (k:=r.toNat) (by omega) hr.2.2
  have:=hg.le (by have:=ht.l0;omega) f
  rw[Int.toNat_of_nonneg hr.1]at this
  have:=ht.l1
  omega
 ·rw[h.other r hr];simp
theorem Held.tot {d:District}{B:Int→Int→Int}(h:Held d B)(he:bf d=0){k:Nat}(hk:k<d.rights.length):0≤Go.Sx.tot d.farms.length (B k)∧Go.Sx.tot d.farms.length (B k)≤1073741824:=by
 refine⟨z8 (h.nn k) _,?_⟩
 by_cases hkk:(d.rights.getD k default).kind=1
 ·have:=(h.take k hk hkk).tot
  have:=(qg he hk hkk).l1
  omega
 ·rw[h.other k (fun hr=>hkk (by rw[Int.toNat_natCast]at hr;exact hr.2.2)),t0];omega
end Go.Sx
end
section
namespace Go.Sx
open Go.Proofs
set_option maxRecDepth 100000
set_option linter.unusedSimpArgs false
end Go.Sx
end
section
namespace Go.Sx
open Go.Proofs
set_option maxRecDepth 100000
set_option linter.unusedSimpArgs false
end Go.Sx
end
section
namespace Go.Sx
open Go.Proofs
set_option maxRecDepth 100000
set_option linter.unusedSimpArgs false
end Go.Sx
end
section
namespace Go.Sx
open Go.Proofs
set_option maxRecDepth 100000
set_option linter.unusedSimpArgs false
@[go_sem] def co (a0:District)(a1:Int)(a2:List Part)(k_0:Nat)(s_0:List (Int×Int)):Empty⊕(List (Int×Int)):=(bif((((aN a0 ([({ no:=1,kind:=2,right:=(Int.tmod (IntKind.i64.wrap a1) (a0.rights.length:Int)),since:=(a0.rights.getD (Int.toNat (Int.tmod (IntKind.i64.wrap a1) (a0.rights.length:Int))) (default:Right)).farm,to:=0,parts:=a2,of_:=0,at_:=0,known:=0}:Deed)]) 0 0).1).getD k_0 (default:Holding)).right==(Int.tmod (IntKind.i64.wrap a1) (a0.rights.length:Int)))then .inr (d_ .int .int s_0 ((((aN a0 ([({ no:=1,kind:=2,right:=(Int.tmod (IntKind.i64.wrap a1) (a0.rights.length:Int)),since:=(a0.rights.getD (Int.toNat (Int.tmod (IntKind.i64.wrap a1) (a0.rights.length:Int))) (default:Right)).farm,to:=0,parts:=a2,of_:=0,at_:=0,known:=0}:Deed)]) 0 0).1).getD k_0 (default:Holding)).farm) ((((aN a0 ([({ no:=1,kind:=2,right:=(Int.tmod (IntKind.i64.wrap a1) (a0.rights.length:Int)),since:=(a0.rights.getD (Int.toNat (Int.tmod (IntKind.i64.wrap a1) (a0.rights.length:Int))) (default:Right)).farm,to:=0,parts:=a2,of_:=0,at_:=0,known:=0}:Deed)]) 0 0).1).getD k_0 (default:Holding)).litres))else .inr s_0)
@[go_sem] def dp (a0:District)(a1:Int)(a2:List Part)(s_0:List (Int×Int))(k_1:Nat)(s_1:Int):Unit⊕Int:=(bif(((((aT ((a2.getD k_1 (default:Part)).share) ((a0.rights.getD (Int.toNat (Int.tmod (IntKind.i64.wrap a1) (a0.rights.length:Int))) (default:Right)).litres)).2.2 !=0) ||(decide ((cn .int .int s_0 ((a2.getD k_1 (default:Part)).farm)) < (aT ((a2.getD k_1 (default:Part)).share) ((a0.rights.getD (Int.toNat (Int.tmod (IntKind.i64.wrap a1) (a0.rights.length:Int))) (default:Right)).litres)).1))) ||(decide ((cn .int .int s_0 ((a2.getD k_1 (default:Part)).farm)) > (IntKind.i64.wrap ((aT ((a2.getD k_1 (default:Part)).share) ((a0.rights.getD (Int.toNat (Int.tmod (IntKind.i64.wrap a1) (a0.rights.length:Int))) (default:Right)).litres)).1+1))))) ||(decide ((aT ((a2.getD k_1 (default:Part)).share) ((a0.rights.getD (Int.toNat (Int.tmod (IntKind.i64.wrap a1) (a0.rights.length:Int))) (default:Right)).litres)).2.1< (aT ((a2.getD k_1 (default:Part)).share) ((a0.rights.getD (Int.toNat (Int.tmod (IntKind.i64.wrap a1) (a0.rights.length:Int))) (default:Right)).litres)).1)))then .inl ()else .inr (IntKind.i64.wrap (s_1+(cn .int .int s_0 ((a2.getD k_1 (default:Part)).farm)))))
def dG (a0:District)(a1:Int)(a2:List Part)(s_0:List (Int×Int))(k_1:Nat)(s_1:Int):Prop:=(0≤(Int.tmod (IntKind.i64.wrap a1) (a0.rights.length:Int))∧(Int.tmod (IntKind.i64.wrap a1) (a0.rights.length:Int)) < (a0.rights.length:Int))
def dm (a0:District)(a1:Int)(a2:List Part):Bool:=(bif(!jb)then false else(bif((((!(l8 a0 ([]))) ||((bf a0) !=0)) ||((a0.rights.length:Int) ==0)) ||(decide ((a2.length:Int) > 16)))then true else(bif((ak a0 ([({ no:=1,kind:=2,right:=(Int.tmod (IntKind.i64.wrap a1) (a0.rights.length:Int)),since:=(a0.rights.getD (Int.toNat (Int.tmod (IntKind.i64.wrap a1) (a0.rights.length:Int))) (default:Right)).farm,to:=0,parts:=a2,of_:=0,at_:=0,known:=0}:Deed)])) !=0)then true else(bif((aN a0 ([({ no:=1,kind:=2,right:=(Int.tmod (IntKind.i64.wrap a1) (a0.rights.length:Int)),since:=(a0.rights.getD (Int.toNat (Int.tmod (IntKind.i64.wrap a1) (a0.rights.length:Int))) (default:Right)).farm,to:=0,parts:=a2,of_:=0,at_:=0,known:=0}:Deed)]) 0 0).2 !=0)then false else(match ay (co a0 a1 a2) (((aN a0 ([({ no:=1,kind:=2,right:=(Int.tmod (IntKind.i64.wrap a1) (a0.rights.length:Int)),since:=(a0.rights.getD (Int.toNat (Int.tmod (IntKind.i64.wrap a1) (a0.rights.length:Int))) (default:Right)).farm,to:=0,parts:=a2,of_:=0,at_:=0,known:=0}:Deed)]) 0 0).1).length) 0 ([])with| .inl x=>x.elim| .inr s_0=>(match ay (dp a0 a1 a2 s_0) a2.length 0 0 with| .inl x_1_0=>false| .inr s_1=>(s_1==(a0.rights.getD (Int.toNat (Int.tmod (IntKind.i64.wrap a1) (a0.rights.length:Int))) (default:Right)).litres)))))))
def cS (a0:District)(a1:Int)(a2:List Part):Prop:=((iO)∧((!jb)=false→(((((!(l8 a0 ([]))) ||((bf a0) !=0)) ||((a0.rights.length:Int) ==0)) ||(decide ((a2.length:Int) > 16)))=false→(a0.rights.length≤cp→((a0.rights.length:Int)≠0∧((0≤(Int.tmod (IntKind.i64.wrap a1) (a0.rights.length:Int))∧(Int.tmod (IntKind.i64.wrap a1) (a0.rights.length:Int)) < (a0.rights.length:Int))∧((c8 a0 ([({ no:=1,kind:=2,right:=(Int.tmod (IntKind.i64.wrap a1) (a0.rights.length:Int)),since:=(a0.rights.getD (Int.toNat (Int.tmod (IntKind.i64.wrap a1) (a0.rights.length:Int))) (default:Right)).farm,to:=0,parts:=a2,of_:=0,at_:=0,known:=0}:Deed)]))∧(((ak a0 ([({ no:=1,kind:=2,right:=(Int.tmod (IntKind.i64.wrap a1) (a0.rights.length:Int)),since:=(a0.rights.getD (Int.toNat (Int.tmod (IntKind.i64.wrap a1) (a0.rights.length:Int))) (default:Right)).farm,to:=0,parts:=a2,of_:=0,at_:=0,known:=0}:Deed)])) !=0)=false→((ed a0 ([({ no:=1,kind:=2,right:=(Int.tmod (IntKind.i64.wrap a1) (a0.rights.length:Int)),since:=(a0.rights.getD (Int.toNat (Int.tmod (IntKind.i64.wrap a1) (a0.rights.length:Int))) (default:Right)).farm,to:=0,parts:=a2,of_:=0,at_:=0,known:=0}:Deed)]) 0 0)∧(((aN a0 ([({ no:=1,kind:=2,right:=(Int.tmod (IntKind.i64.wrap a1) (a0.rights.length:Int)),since:=(a0.rights.getD (Int.toNat (Int.tmod (IntKind.i64.wrap a1) (a0.rights.length:Int))) (default:Right)).farm,to:=0,parts:=a2,of_:=0,at_:=0,known:=0}:Deed)]) 0 0).2 !=0)=false→(((aN a0 ([({ no:=1,kind:=2,right:=(Int.tmod (IntKind.i64.wrap a1) (a0.rights.length:Int)),since:=(a0.rights.getD (Int.toNat (Int.tmod (IntKind.i64.wrap a1) (a0.rights.length:Int))) (default:Right)).farm,to:=0,parts:=a2,of_:=0,at_:=0,known:=0}:Deed)]) 0 0).1).length≤cp→(∀ s_0,ay (co a0 a1 a2) (((aN a0 ([({ no:=1,kind:=2,right:=(Int.tmod (IntKind.i64.wrap a1) (a0.rights.length:Int)),since:=(a0.rights.getD (Int.toNat (Int.tmod (IntKind.i64.wrap a1) (a0.rights.length:Int))) (default:Right)).farm,to:=0,parts:=a2,of_:=0,at_:=0,known:=0}:Deed)]) 0 0).1).length) 0 ([])=.inr s_0→(a2.length≤cp→(okI (dp a0 a1 a2 s_0) (dG a0 a1 a2 s_0) a2.length 0 0∧(∀ s_1,ay (dp a0 a1 a2 s_0) a2.length 0 0=.inr s_1→(0≤(Int.tmod (IntKind.i64.wrap a1) (a0.rights.length:Int))∧(Int.tmod (IntKind.i64.wrap a1) (a0.rights.length:Int)) < (a0.rights.length:Int)))))))))))))))))
@[go_sem] def fl:List SV→Option Con:=(pD .district fun a0=>(pV fun a1=>(pR .part fun a2=>(pE (.det (cS a0 a1 a2) (.v (.bool (dm a0 a1 a2))))))))
theorem lm:FnOk Tryz.prog 10 fl:=by
 have hG:ConsOk Tryz.prog (mkG [(11,qm),(12,fun l=>rL (dN [.st .district,.sl .deed] l)),(15,fun l=>eh (dN [.st .district,.sl .deed] l)),(18,fun l=>lj (dN [.st .district,.sl .deed,.o,.o] l)),(24,fun l=>kC (dN [.st .district] l)),(32,lh)] []):=a_ (cgc uv (cgc (wR.norm [.st .district,.sl .deed]) (cgc (eM.norm [.st .district,.sl .deed]) (cgc (nB.norm [.st .district,.sl .deed,.o,.o]) (cgc (mE.norm [.st .district]) (cgc nr cg0)))))) cg0
 refine cr [.o] mixed aH hG (fn:=Tryz.f10) (c:=ae Tryz.f10) (by kernel_rfl) (by kernel_rfl) (by kernel_rfl) (by kernel_rfl) (cF fun a0=>(Kt fun a1=>(fX fun a2=>(bH (fun hp=>?_)))))
 dsimp only[bp]at hp
 unfold cS at hp
 refine⟨Nat.le_of_ble_eq_true rfl,(fun id st=>bif Nat.beq id 0 then some (LCR (ρ:=Empty) (σ:=(List (Int×Int))) 4 [] [0,1,2,3] (fun k_0 s_0=>⟨[(2,.rs .part a2),(3,.ptr 0 0),(7,.v (.int .i64 (Int.tmod (IntKind.i64.wrap a1) (a0.rights.length:Int)))),(11,.os 3),(71,.os 2),(72,.v (.int .i64 (((aN a0 ([({ no:=1,kind:=2,right:=(Int.tmod (IntKind.i64.wrap a1) (a0.rights.length:Int)),since:=(a0.rights.getD (Int.toNat (Int.tmod (IntKind.i64.wrap a1) (a0.rights.length:Int))) (default:Right)).farm,to:=0,parts:=a2,of_:=0,at_:=0,known:=0}:Deed)]) 0 0).1).length:Int))),(73,.v (.int .i64 (k_0:Int)))],[.cells (cellsOf .district a0),.dead,.row .holding ((aN a0 ([({ no:=1,kind:=2,right:=(Int.tmod (IntKind.i64.wrap a1) (a0.rights.length:Int)),since:=(a0.rights.getD (Int.toNat (Int.tmod (IntKind.i64.wrap a1) (a0.rights.length:Int))) (default:Right)).farm,to:=0,parts:=a2,of_:=0,at_:=0,known:=0}:Deed)]) 0 0).1),.mp .int .int s_0 none]⟩) (co a0 a1 a2) pT (((aN a0 ([({ no:=1,kind:=2,right:=(Int.tmod (IntKind.i64.wrap a1) (a0.rights.length:Int)),since:=(a0.rights.getD (Int.toNat (Int.tmod (IntKind.i64.wrap a1) (a0.rights.length:Int))) (default:Right)).farm,to:=0,parts:=a2,of_:=0,at_:=0,known:=0}:Deed)]) 0 0).1).length) ([]) (((aN a0 ([({ no:=1,kind:=2,right:=(Int.tmod (IntKind.i64.wrap a1) (a0.rights.length:Int)),since:=(a0.rights.getD (Int.toNat (Int.tmod (IntKind.i64.wrap a1) (a0.rights.length:Int))) (default:Right)).farm,to:=0,parts:=a2,of_:=0,at_:=0,known:=0}:Deed)]) 0 0).1).length≤cp) ((·.elim)) ((·.elim)) st)else bif Nat.beq id 2 then some (LCR (ρ:=Unit) (σ:=Int) 4 [] [0,1,2,3] (fun k_1 s_1=>⟨[(3,.ptr 0 0),(7,.v (.int .i64 (Int.tmod (IntKind.i64.wrap a1) (a0.rights.length:Int)))),(11,.os 3),(14,.v (.int .i64 s_1)),(87,.rs .part a2),(88,.v (.int .i64 (a2.length:Int))),(89,.v (.int .i64 (k_1:Int)))],[.cells (cellsOf .district a0),.dead,.dead,.mp .int .int (b8 (ay (co a0 a1 a2) (((aN a0 ([({ no:=1,kind:=2,right:=(Int.tmod (IntKind.i64.wrap a1) (a0.rights.length:Int)),since:=(a0.rights.getD (Int.toNat (Int.tmod (IntKind.i64.wrap a1) (a0.rights.length:Int))) (default:Right)).farm,to:=0,parts:=a2,of_:=0,at_:=0,known:=0}:Deed)]) 0 0).1).length) 0 ([]))) none]⟩) (dp a0 a1 a2 (b8 (ay (co a0 a1 a2) (((aN a0 ([({ no:=1,kind:=2,right:=(Int.tmod (IntKind.i64.wrap a1) (a0.rights.length:Int)),since:=(a0.rights.getD (Int.toNat (Int.tmod (IntKind.i64.wrap a1) (a0.rights.length:Int))) (default:Right)).farm,to:=0,parts:=a2,of_:=0,at_:=0,known:=0}:Deed)]) 0 0).1).length) 0 ([])))) (dG a0 a1 a2 (b8 (ay (co a0 a1 a2) (((aN a0 ([({ no:=1,kind:=2,right:=(Int.tmod (IntKind.i64.wrap a1) (a0.rights.length:Int)),since:=(a0.rights.getD (Int.toNat (Int.tmod (IntKind.i64.wrap a1) (a0.rights.length:Int))) (default:Right)).farm,to:=0,parts:=a2,of_:=0,at_:=0,known:=0}:Deed)]) 0 0).1).length) 0 ([])))) a2.length 0 (a2.length≤cp) (fun _=>.ret) (fun x_1_0=>⟨[(6,.v (.bool false))],[.dead,.dead,.dead,.dead]⟩) st)else none),?_,?_⟩
 ·unfold ae Tryz.f10
  simp only[aw,true_and,and_true]
  refine⟨?_,?_⟩
  ·refine dQ mixed aH hG (by kernel_rfl) (fun _=>rfl) (((aN a0 ([({ no:=1,kind:=2,right:=(Int.tmod (IntKind.i64.wrap a1) (a0.rights.length:Int)),since:=(a0.rights.getD (Int.toNat (Int.tmod (IntKind.i64.wrap a1) (a0.rights.length:Int))) (default:Right)).farm,to:=0,parts:=a2,of_:=0,at_:=0,known:=0}:Deed)]) 0 0).1).length:Int) rfl lL (fun hb0 k_0 s_0 hlt0 _ hw hc=>⟨L0,an _,?_⟩) (fun hb0 s_0 hc=>?_)
   ·exact pP
   ·exact pY
  ·refine dQ mixed aH hG (by kernel_rfl) (fun _=>rfl) (a2.length:Int) rfl lL (fun hb1 k_1 s_1 hlt1 hq1 hw hc=>⟨L0,an _,?_⟩) (fun hb1 s_1 hc=>?_)
   ·unfold dG at hq1
    try simp only[hw,Int.toNat_natCast]at hq1
    exact pP
   ·exact pY
 ·unfold ae Tryz.f10
  try unfold dm
  simp only[go_sem,Nat.reduceBEq,Nat.reduceLeDiff,Nat.reduceLT,decide_true,Nat.reduceAdd,Nat.reduceSub,Nat.reduceMul,Int.reduceLE,Int.reduceLT,Int.reduceToNat,Int.reduceNeg,reduceCtorEq]
  all_goals exact cl
end Go.Sx
end
section
namespace Go.Sx
open Go.Proofs
theorem wS (g:Int→Int)(f v:Int):eP g f v f=v:=by unfold eP;rw[if_pos rfl]
theorem Bi (g:Int→Int){f x v:Int}(h:x≠f):eP g f v x=g x:=by unfold eP;rw[if_neg h]
theorem tY {l:List Part}(h:(l.map fun x=>x.farm).Nodup){i j:Nat}(hi:i<l.length)(hj:j<l.length)(hij:i≠j):(l.getD i default).farm≠(l.getD j default).farm:=by
 rw[iL _ _ hi,iL _ _ hj]
 have:=List.pairwise_iff_getElem.1 (List.pairwise_map.1 h)
 rcases Nat.lt_or_gt_of_ne hij with h1|h1
 ·exact this i j hi hj h1
 ·exact fun e=>this j i hj hi h1 e.symm
theorem EX {l:List Part}(h:(l.map fun x=>x.farm).Nodup)(n:Int)(g:Int→Int){i:Nat}(hi:i<l.length):nz l n g (l.getD i default).farm=g (l.getD i default).farm+loP (l.getD i default) n:=by
 have key:∀ k,k≤l.length→nz (l.take k) n g (l.getD i default).farm=if i<k then g (l.getD i default).farm+loP (l.getD i default) n else g (l.getD i default).farm:=fun k=>by
  induction k with
  |zero=>intro _;rw[if_neg (by omega)];simp[nz]
  |succ k ih=>
   intro hk
   have ih:=ih (by omega)
   rw[cm l default (by omega),vm]
   by_cases e:i=k
   ·subst e
    rw[wS,if_pos (by omega),ih,if_neg (by omega)]
   ·rw[Bi _ (tY h hi (by omega) e),ih]
    by_cases h1:i<k
    ·rw[if_pos h1,if_pos (by omega)]
    ·rw[if_neg h1,if_neg (by omega)]
 have:=key l.length (Nat.le_refl _)
 rwa[List.take_length,if_pos hi]at this
theorem Cr {l:List Part}(h:(l.map fun x=>x.farm).Nodup)(g:Int→Int){i:Nat}(hi:i<l.length):∀ k,k≤l.length→kJ (l.take k) g (l.getD i default).farm=if i<k then g (l.getD i default).farm+1 else g (l.getD i default).farm:=fun k=>by
 induction k with
 |zero=>intro _;rw[if_neg (by omega)];simp[kJ]
 |succ k ih=>
  intro hk
  have ih:=ih (by omega)
  rw[cm l default (by omega),tU]
  by_cases e:i=k
  ·subst e
   rw[wS,if_pos (by omega),ih,if_neg (by omega)]
  ·rw[Bi _ (tY h hi (by omega) e),ih]
   by_cases h1:i<k
   ·rw[if_pos h1,if_pos (by omega)]
   ·rw[if_neg h1,if_neg (by omega)]
theorem rM (d:District)(w:Int)(parts:List Part)(r1:0≤w∧w≤255):cS d w parts∧dm d w parts=true:=by
 unfold cS dm
 rw[Ko]
 simp only[Bool.not_true,cond_false]
 cases hf:((((!(l8 d ([]))) ||((bf d) !=0)) ||((d.rights.length:Int) ==0)) ||(decide ((parts.length:Int) > 16)))with
 |true=>exact⟨⟨Ad,(fun _ h=>by cases h)⟩,rfl⟩
 |false=>
  simp only[cond_false]
  simp only[Bool.or_eq_false_iff,bne_eq_false_iff_eq,beq_eq_false_iff_ne,decide_eq_false_iff_not]at hf
  obtain⟨⟨⟨_,he⟩,hr0⟩,hpl⟩:=hf
  have hr0:d.rights.length≠0:=by omega
  have hi:=Ku r1.1 (by omega) hr0
  unfold co dp dG
  generalize Int.tmod (IntKind.i64.wrap w) (d.rights.length:Int)=i at *
  obtain⟨k,rfl⟩:=Int.eq_ofNat_of_zero_le hi.1
  have hk:k<d.rights.length:=by omega
  simp only[Int.toNat_natCast]
  generalize hx:({ no:=1,kind:=2,right:=(k:Int),since:=(d.rights.getD k default).farm,to:=0,parts:=parts,of_:=0,at_:=0,known:=0}:Deed)=x
  obtain⟨ap,av⟩:=tV d [x] 0 0
  cases hcc:(ak d [x] !=0)with
  |true=>exact⟨⟨Ad,fun _ _=>fun _=>⟨by omega,hi,gW _ _,(fun h=>by cases h)⟩⟩,rfl⟩
  |false=>
   have hc:ak d [x]=0:=by simpa using hcc
   have hD:=qe hc
   have hh:=hD.right.hours1
   have hfit:=hD.fit x (by simp)
   have x1:x.kind=2:=by rw[←hx]
   have x2:x.right=(k:Int):=by rw[←hx]
   have x3:x.since=(d.rights.getD k default).farm:=by rw[←hx]
   have x4:x.parts=parts:=by rw[←hx]
   have x5:x.at_=0:=by rw[←hx]
   have x6:x.known=0:=by rw[←hx]
   have hP:PartsOk d parts:=by have:=hfit.split x1;rwa[x4]at this
   have hkk:(d.rights.getD k default).kind=1:=by
    have:=(hfit.held (by omega)).2.2.1
    rwa[x2,Int.toNat_natCast]at this
   have hto:=qg he hk hkk
   have hl0:=hto.l0
   have hl1:=hto.l1
   rw[if_neg (by simp[hc]),if_pos (by omega)]at av
   have hlive:qf [x] 0 0=[x]:=by
    show [x].filter (lv [x] 0 0)=[x]
    refine List.filter_eq_self.2 fun y hy=>?_
    simp only[List.mem_singleton]at hy
    subst hy
    rw[Kr]
    refine⟨by omega,by omega,by omega,?_⟩
    rintro⟨u,hu,h1,_⟩
    simp only[List.mem_singleton]at hu
    subst hu;omega
   obtain⟨n,hn⟩:∃ n,(d.rights.getD k default).litres=n:=⟨_,rfl⟩
   rw[hn]at hl0 hl1
   have hB:lZ d [x] 0 0 k=oU parts n (fun _=>0):=by
    unfold lZ
    rw[hlive]
    show gX x (B0 d) k=_
    unfold gX
    rw[x2,if_pos rfl]
    unfold uo
    have e0:B0 d k=eP (fun _=>0) (d.rights.getD k default).farm n:=by
     funext f
     unfold B0 eP
     rw[Int.toNat_natCast]
     by_cases hf:f=(d.rights.getD k default).farm
     ·rw[if_pos ⟨by omega,by omega,hkk,hf.symm⟩,if_pos hf,hn]
     ·rw[if_neg (fun h=>hf h.2.2.2.symm),if_neg hf]
    rw[x3,e0,wS,if_neg (by omega),if_neg (by omega),if_pos x1,x4]
    congr 1
    funext f
    unfold eP
    split <;>rfl
   have hlf:=qj hD 0 0
   have hH:=EW he hlf
   have hBdef:lZ d [x] 0 0=rb (stS (qf [x] 0 0)) (B0 d):=rfl
   rw[←hBdef]at hH
   obtain⟨l1,l2⟩:=wM hP n
   have hval:∀ i,i<parts.length→lZ d [x] 0 0 k (parts.getD i default).farm=loP (parts.getD i default) n+(if i< (n - bM parts n).toNat then 1 else 0):=fun i hi=>by
    rw[hB]
    unfold oU
    rw[Cr hP.apart _ hi _ (by omega),EX hP.apart n _ hi]
    split <;>omega
   generalize hBB:lZ d [x] 0 0=B at *
   rw[av]
   simp only[bne_self_eq_false,cond_false]
   have inv:∀ j (m:List (Int×Int)),j< (dF d B).length→(∀ f,((∃ y∈(dF d B).take j,y.right=(k:Int)∧y.farm=f)→cn .int .int m f=B k f)∧((¬ ∃ y∈(dF d B).take j,y.right=(k:Int)∧y.farm=f)→cn .int .int m f=(0:Int)))→
     ∀ f,((∃ y∈(dF d B).take (j+1),y.right=(k:Int)∧y.farm=f)→cn .int .int (bif((dF d B).getD j default).right==(k:Int)then d_ .int .int m ((dF d B).getD j default).farm ((dF d B).getD j default).litres else m) f=B k f)∧((¬ ∃ y∈(dF d B).take (j+1),y.right=(k:Int)∧y.farm=f)→cn .int .int (bif((dF d B).getD j default).right==(k:Int)then d_ .int .int m ((dF d B).getD j default).farm ((dF d B).getD j default).litres else m) f=(0:Int)):=fun j m hj hm f=>by
    have hmem:(dF d B).getD j default∈dF d B:=by rw[iL _ _ hj];exact List.getElem_mem _
    obtain⟨_,_,_,_,_,c6,_⟩:=l6.1 hmem
    rw[cm _ default hj]
    generalize (dF d B).getD j default=y at *
    have hex:(∃ z∈(dF d B).take j++[y],z.right=(k:Int)∧z.farm=f)↔((∃ z∈(dF d B).take j,z.right=(k:Int)∧z.farm=f)∨(y.right=(k:Int)∧y.farm=f)):=by
     constructor
     ·rintro⟨z,hz,h⟩
      rcases List.mem_append.1 hz with hz|hz
      ·exact .inl ⟨z,hz,h⟩
      ·simp only[List.mem_singleton]at hz;subst hz;exact .inr h
     ·rintro (⟨z,hz,h⟩ |h)
      ·exact⟨z,List.mem_append_left _ hz,h⟩
      ·exact⟨y,by simp,h⟩
    rw[hex]
    by_cases e:y.right=(k:Int)
    ·rw[show(y.right==(k:Int))=true by simp[e]]
     simp only[cond_true]
     rw[lW]
     by_cases hf:f=y.farm
     ·subst hf
      rw[if_pos rfl]
      exact⟨fun _=>by rw[c6,e],fun h=>absurd (.inr ⟨e,rfl⟩) h⟩
     ·rw[if_neg hf]
      exact⟨fun h=>(hm f).1 (h.elim id fun q=>absurd q.2.symm hf),fun h=>(hm f).2 fun q=>h (.inl q)⟩
    ·rw[show(y.right==(k:Int))=false by simpa using e]
     simp only[cond_false]
     exact⟨fun h=>(hm f).1 (h.elim id fun q=>absurd q.1 e),fun h=>(hm f).2 fun q=>h (.inl q)⟩
   obtain⟨m,e1,e2⟩:=mt (step:=fun(k_0:Nat) (s_0:List (Int×Int)) =>((bif(((dF d B).getD k_0 (default:Holding)).right==(k:Int))then .inr (d_ .int .int s_0 (((dF d B).getD k_0 (default:Holding)).farm) (((dF d B).getD k_0 (default:Holding)).litres))else .inr s_0):Empty⊕(List (Int×Int)))) (fun j m=>∀ f,((∃ y∈(dF d B).take j,y.right=(k:Int)∧y.farm=f)→cn .int .int m f=B k f)∧((¬ ∃ y∈(dF d B).take j,y.right=(k:Int)∧y.farm=f)→cn .int .int m f=(0:Int))) (dF d B).length 0 [] (fun f=>⟨fun⟨y,hy,_⟩ =>by simp at hy,fun _=>rfl⟩) (fun j m _ hj hm=>by
    rw[Nat.zero_add]at hj
    have:=inv j m hj hm
    cases hb:((dF d B).getD j default).right==(k:Int)with
    |true=>rw[hb]at this;exact⟨_,rfl,this⟩
    |false=>rw[hb]at this;exact⟨_,rfl,this⟩)
   rw[Nat.zero_add,List.take_length]at e2
   have hm:∀ i,i<parts.length→cn .int .int m (parts.getD i default).farm=loP (parts.getD i default) n+(if i< (n - bM parts n).toNat then 1 else 0):=fun i hi=>by
    have hpm:parts.getD i default∈parts:=by rw[iL _ _ hi];exact List.getElem_mem _
    have hpo:=hP.part _ hpm
    rw[←hval i hi]
    have hnn:=hH.nn k (parts.getD i default).farm
    rcases Classical.em (∃ y∈dF d B,y.right=(k:Int)∧y.farm=(parts.getD i default).farm)with hyes|hno
    ·exact(e2 _).1 hyes
    ·rw[(e2 _).2 hno]
     by_cases h0:0<B k (parts.getD i default).farm
     ·refine absurd ⟨{ right:=(k:Int),farm:=(parts.getD i default).farm,litres:=B k (parts.getD i default).farm,rank:=(d.rights.getD k default).rank},l6.2 ⟨by simp only;omega,by simp only;omega,hpo.f0,hpo.f1,h0,rfl,by simp only[Int.toNat_natCast]⟩,rfl,rfl⟩ hno
     ·exact(show(0:Int)=B k (parts.getD i default).farm by omega)
   have Hw:∀ j,j≤parts.length→0≤bM (parts.take j) n∧bM (parts.take j) n≤bM parts n:=fun j _=>by
    have key:∀ l:List Part,PFit d.farms.length l→0≤bM l n:=fun l=>by
     induction l with
     |nil=>intro _;simp[bM]
     |cons p r ih=>
      intro hp
      obtain⟨_,_,c,e⟩:=hp p List.mem_cons_self
      have:=yy c e (by omega:0≤n)
      have:=ih fun q hq=>hp q (List.mem_cons_of_mem _ hq)
      have e:bM (p::r) n=loP p n+bM r n:=by simp[bM]
      omega
    have h1:=key _ (hP.fit.take j)
    have h2:=key (parts.drop j) fun p hp=>hP.fit p (List.mem_of_mem_drop hp)
    have h3:bM parts n=bM (parts.take j) n+bM (parts.drop j) n:=by
     conv=>lhs;rw[←List.take_append_drop j parts]
     unfold bM;rw[List.map_append,List.sum_append]
    omega
   have hst:∀ j (s:Int),j<parts.length→s=bM (parts.take j) n+(min j (n - bM parts n).toNat:Nat)→
     (bif(((((aT ((parts.getD j (default:Part)).share) n).2.2 !=0) ||(decide ((cn .int .int m ((parts.getD j (default:Part)).farm)) < (aT ((parts.getD j (default:Part)).share) n).1))) ||(decide ((cn .int .int m ((parts.getD j (default:Part)).farm)) > (IntKind.i64.wrap ((aT ((parts.getD j (default:Part)).share) n).1+1))))) ||(decide ((aT ((parts.getD j (default:Part)).share) n).2.1< (aT ((parts.getD j (default:Part)).share) n).1)))then(.inl ():Unit⊕Int)else .inr (IntKind.i64.wrap (s+(cn .int .int m ((parts.getD j (default:Part)).farm)))))=.inr (bM (parts.take (j+1)) n+(min (j+1) (n - bM parts n).toNat:Nat)):=fun j s hj hs=>by
    have hpm:parts.getD j default∈parts:=by rw[iL _ _ hj];exact List.getElem_mem _
    have hpo:=hP.part _ hpm
    obtain⟨t1,t2,t3⟩:=yx hpo.share (by omega:0≤n) (by omega)
    have t1':(aT (parts.getD j default).share n).1=loP (parts.getD j default) n:=t1
    have hlo:=yy hpo.share hpo.pos (by omega:0≤n)
    have u1:=Hw j (by omega)
    have u2:=Hw (j+1) (by omega)
    rw[cm _ default hj,mz]at u2
    have hle:(aT (parts.getD j default).share n).1≤(aT (parts.getD j default).share n).2.1:=by
     rw[t1,t2]
     have q:=Int.mul_ediv_add_emod ((parts.getD j default).share.n*n) (parts.getD j default).share.d
     have q':=Int.mul_ediv_add_emod (-((parts.getD j default).share.n*n)) (parts.getD j default).share.d
     have hd:=hpo.share.d1
     have q1:=Int.emod_nonneg ((parts.getD j default).share.n*n) (by omega:(parts.getD j default).share.d≠0)
     have q2:=Int.emod_nonneg (-((parts.getD j default).share.n*n)) (by omega:(parts.getD j default).share.d≠0)
     generalize (parts.getD j default).share.n*n / (parts.getD j default).share.d=a at *
     generalize -((parts.getD j default).share.n*n) / (parts.getD j default).share.d=b at *
     rcases Int.lt_or_le (-b) a with h|h
     ·have h1:0<a+b:=by omega
      have:=Int.mul_pos (by omega:0< (parts.getD j default).share.d) h1
      rw[Int.mul_add]at this
      omega
     ·exact h
    rw[t3,hm j hj,t1',bK (n:=loP (parts.getD j default) n+1) (by omega) (by omega)]
    rw[t1']at hle
    have b1:decide (loP (parts.getD j default) n+(if j< (n - bM parts n).toNat then 1 else 0) <loP (parts.getD j default) n)=false:=by rw[decide_eq_false_iff_not];split <;>omega
    have b2:decide (loP (parts.getD j default) n+(if j< (n - bM parts n).toNat then 1 else 0) > loP (parts.getD j default) n+1)=false:=by rw[decide_eq_false_iff_not];split <;>omega
    have b3:decide ((aT (parts.getD j default).share n).2.1<loP (parts.getD j default) n)=false:=by rw[decide_eq_false_iff_not];omega
    rw[b1,b2,b3,cm _ default hj,mz,hs]
    simp only[bne_self_eq_false,Bool.or_false,cond_false]
    have hpl16:=hP.len
    by_cases hlt:j< (n - bM parts n).toNat
    ·rw[if_pos hlt,Nat.min_eq_left (by omega),Nat.min_eq_left (by omega),bK (by omega) (by omega)]
     congr 1;omega
    ·rw[if_neg hlt,Nat.min_eq_right (by omega),Nat.min_eq_right (by omega),bK (by omega) (by omega)]
     congr 1;omega
   obtain⟨s,f1,f2⟩:=mt (step:=fun(j:Nat) (s:Int) =>(bif(((((aT ((parts.getD j (default:Part)).share) n).2.2 !=0) ||(decide ((cn .int .int m ((parts.getD j (default:Part)).farm)) < (aT ((parts.getD j (default:Part)).share) n).1))) ||(decide ((cn .int .int m ((parts.getD j (default:Part)).farm)) > (IntKind.i64.wrap ((aT ((parts.getD j (default:Part)).share) n).1+1))))) ||(decide ((aT ((parts.getD j (default:Part)).share) n).2.1< (aT ((parts.getD j (default:Part)).share) n).1)))then(.inl ():Unit⊕Int)else .inr (IntKind.i64.wrap (s+(cn .int .int m ((parts.getD j (default:Part)).farm)))))) (fun j s=>s=bM (parts.take j) n+(min j (n - bM parts n).toNat:Nat)) parts.length 0 0 (by simp[bM]) (fun j s _ hj hs=>⟨_,hst j s (by omega) hs,rfl⟩)
   rw[Nat.zero_add,List.take_length]at f2
   have fin:s=n:=by rw[f2,Nat.min_eq_right (by omega)];omega
   subst hn
   rw[e1]
   refine⟨⟨Ad,fun _ _ _=>⟨by omega,hi,gW _ _,fun _=>⟨ap,fun _ _ z hz=>?_⟩⟩⟩,?_⟩
   ·cases hz
    exact fun _=>⟨nM _ _ _ fun _ _ _ _=>hi,fun _ _=>hi⟩
   ·simp only
    rw[f1,fin]
    simp
theorem Cs (d:District)(w:Int)(parts:List Part)(r1:0≤w∧w≤255):cS d w parts:=(rM d w parts r1).1
theorem Ct (d:District)(w:Int)(parts:List Part)(r1:0≤w∧w≤255):dm d w parts=true:=(rM d w parts r1).2
end Go.Sx
end
section
namespace Go.Sx
open Go.RowKit Go.Deep
section
variable {F:Nat→Prop}{own:Own}{w:World}
def RC (F:Nat→Prop)(own:Own)(w:World)(ks:List Kd)(cs:List Value):Prop:=
 ∃ l:List SV,ln ks l=true∧l.length=cs.length∧∀ (j:Nat) (s:SV) (v:Value),l[j]? =some s→cs[j]? =some v→Rel F own w s v
theorem yF:∀ {a b:List Kd} {l m:List SV},ln a l=true→ln b m=true→ln (a++b) (l++m)=true
 | [],b,l,m,h1,h2=>by rw[lD h1];exact h2
 |k::a,b,l,m,h1,h2=>by
  obtain⟨x,r,rfl,e1,e2⟩:=iY h1
  simp only[List.cons_append,ln,e1,yF e2 h2,Bool.and_self]
theorem RC.nil:RC F own w [] []:=⟨[],rfl,rfl,fun j s v h=>by cases h⟩
theorem RC.app {a b:List Kd}{c d:List Value}(h1:RC F own w a c)(h2:RC F own w b d):RC F own w (a++b) (c++d):=by
 obtain⟨l,f1,n1,r1⟩:=h1
 obtain⟨m,f2,n2,r2⟩:=h2
 refine⟨l++m,yF f1 f2,by simp[n1,n2],fun j s v hs hv=>?_⟩
 by_cases hj:j<l.length
 ·rw[List.getElem?_append_left hj]at hs
  rw[List.getElem?_append_left (by omega)]at hv
  exact r1 j s v hs hv
 ·rw[List.getElem?_append_right (by omega)]at hs
  rw[List.getElem?_append_right (by omega),←n1]at hv
  exact r2 _ s v hs hv
theorem RC.one {k:Kd}{s:SV}{v:Value}(h1:fit k s=true)(h2:Rel F own w s v):RC F own w [k] [v]:=
 ⟨[s],by simp[ln,h1],rfl,fun j s' v' hs hv=>by
  cases j with
  |zero=>simp only[List.getElem?_cons_zero,Option.some.injEq]at hs hv;subst hs;subst hv;exact h2
  |succ j=>simp at hs⟩
end
def Kv:Kd→Kd→Bool
 | .s,.s=>true
 | .b,.b=>true
 | .n a,.n b=>decide (a=b)
 | .r a,.r b=>decide (a=b)
 | .m a c,.m b d=>decide (a=b)&&decide (c=d)
 |_,_=>false
theorem HB:∀ {a b:Kd},Kv a b=true→a=b:=by
 intro a b h
 cases a <;>cases b <;>simp_all [Kv]
def EY:List Kd→List Kd→Bool
 | [],[] =>true
 |a::l,b::m=>Kv a b&&EY l m
 |_,_=>false
theorem Bj:∀ {a b:List Kd},EY a b=true→a=b
 | [],[],_=>rfl
 |a::l,b::m,h=>by
  simp only[EY,Bool.and_eq_true]at h
  rw[HB h.1,Bj h.2]
def tZ (P:Program)(g:TypeId→Option (List Kd)):List Field→Nat→Nat→Option (List Kd)
 | [],off,tot=>bif Nat.beq off tot then some []else none
 |f::r,off,tot=>match g f.type with
  |some a=>bif Nat.beq f.offset off&&Nat.beq a.length (P.cellsOf f.type)then(tZ P g r (off+a.length) tot).map (a++ ·)else none
  |none=>none
def Af (a:List Kd):Nat→List Kd
 |0=>[]
 |n+1=>a++Af a n
def t6 (P:Program):Nat→TypeId→Option (List Kd)
 |0,_=>none
 |n+1,t=>match P.underlying t with
  |some .bool=>some [.b]
  |some (.int k) =>some [.n k]
  |some .string=>some [.s]
  |some (.slice e) =>match wY P e,t6 P n e with
   |some k,some ks=>bif EY ks (cJ k)&&Nat.beq (P.cellsOf e) (aa k)&&Nat.ble 1 (aa k)then some [.r k]else none
   |_,_=>none
  |some (.struct fs) =>tZ P (t6 P n) fs.toList 0 (P.cellsOf t)
  |some (.array m e) =>match t6 P n e with
   |some a=>bif Nat.beq a.length (P.cellsOf e)&&Nat.beq (P.cellsOf t) (m*a.length)then some (Af a m)else none
   |none=>none
  |_=>none
section
variable {H:Type}{enc:TypeId×Value→H}{P:Program}{F:Nat→Prop}{own:Own}{w:World}{base:Nat}{spare:Nat→Bool}{held:Bool}{S:DataW H→Prop}
theorem Bk {g:TypeId→Option (List Kd)}(hg:∀ t ks,g t=some ks→∀ (fuel:Nat) (cs:List Value) (x:DataW H×List MemPlace),DataW.trod enc P w base spare held fuel t cs=some x→S x.1→RC F own w ks cs)
  (fuel:Nat) (cs:List Value):∀ (fs:List Field) (off:Nat) (ks:List Kd),tZ P g fs off cs.length=some ks→(∀ f∈fs,∃ x,DataW.trod enc P w base spare held fuel f.type ((cs.drop f.offset).take (P.cellsOf f.type))=some x∧S x.1)→RC F own w ks (cs.drop off)
 | [],off,ks,h,_=>by
  unfold tZ at h
  cases hb:Nat.beq off cs.length with
  |false=>rw[hb]at h;cases h
  |true=>
   rw[hb]at h
   have:off=cs.length:=Nat.eq_of_beq_eq_true hb
   subst this
   cases h
   rw[List.drop_length]
   exact RC.nil
 |f::r,off,ks,h,hx=>by
  unfold tZ at h
  cases ha:g f.type with
  |none=>rw[ha]at h;cases h
  |some a=>
   rw[ha]at h
   dsimp only at h
   cases hb:Nat.beq f.offset off&&Nat.beq a.length (P.cellsOf f.type)with
   |false=>rw[hb]at h;cases h
   |true=>
    rw[hb]at h
    simp only[cond_true,Option.map_eq_some_iff]at h
    obtain⟨ks2,h2,rfl⟩:=h
    rw[Bool.and_eq_true]at hb
    have e1:f.offset=off:=Nat.eq_of_beq_eq_true hb.1
    have e2:a.length=P.cellsOf f.type:=Nat.eq_of_beq_eq_true hb.2
    obtain⟨x,hx1,hs1⟩:=hx f (by simp)
    have h3:=hg _ _ ha _ _ _ hx1 hs1
    have h4:=Bk hg fuel cs r (off+a.length) ks2 h2 fun f hf=>hx f (by simp[hf])
    have:=h3.app h4
    rw[e1,←e2]at this
    rwa[←List.drop_drop,List.take_append_drop]at this
theorem Bl {e:TypeId}{a:List Kd}(ha:∀ (fuel:Nat) (cs:List Value) (x:DataW H×List MemPlace),DataW.trod enc P w base spare held fuel e cs=some x→S x.1→RC F own w a cs)
  (fuel:Nat):∀ (m:Nat) (cs:List Value),cs.length=m*a.length→(∀ i,i<m→∃ x,DataW.trod enc P w base spare held fuel e ((cs.drop (i*a.length)).take a.length)=some x∧S x.1)→RC F own w (Af a m) cs
 |0,cs,h,_=>by
  have:cs=[]:=by simpa using h
  subst this
  exact RC.nil
 |m+1,cs,h,hx=>by
  obtain⟨x,hx1,hs1⟩:=hx 0 (by omega)
  rw[Nat.zero_mul,List.drop_zero]at hx1
  have h3:=ha _ _ _ hx1 hs1
  have h4:=Bl ha fuel m (cs.drop a.length) (by rw[List.length_drop,h,Nat.succ_mul];omega) fun i hi=>by
   obtain⟨x,hx2,hs2⟩:=hx (i+1) (by omega)
   refine⟨x,?_,hs2⟩
   rw[List.drop_drop]
   rwa[Nat.succ_mul,Nat.add_comm]at hx2
  have:=h3.app h4
  rwa[List.take_append_drop]at this
structure Small (S:DataW H→Prop):Prop where
 agg:∀ l,S (.agg l)→∀ d∈l,S d
 slice:∀ l m,S (.slice l m)→l.length≤cp∧∀ d∈l,S d
theorem kM (hS:Small S)(hown:∀ b,¬bS F own b):∀ (n:Nat) (t:TypeId) (ks:List Kd),t6 P n t=some ks→∀ (fuel:Nat) (cs:List Value) (x:DataW H×List MemPlace),DataW.trod enc P w base spare held fuel t cs=some x→S x.1→RC F own w ks cs
 |0,_,_,h,_,_,_,_,_=>by cases h
 |n+1,t,ks,h,fuel,cs,x,hx,hs=>by
  unfold t6 at h
  split at h
  ·rename_i ht
   cases h
   obtain⟨b,rfl,rfl⟩:=DataW.trod_bool ht hx
   exact RC.one (s:=.v (.bool b)) rfl (.v _)
  ·rename_i k ht
   cases h
   obtain⟨m,rfl,rfl,_⟩:=DataW.trod_int ht hx
   exact RC.one (s:=.v (.int k m)) (by simp[fit]) (.v _)
  ·rename_i ht
   cases h
   obtain⟨b,rfl,rfl,_⟩:=DataW.trod_string ht hx
   exact RC.one (s:=.v (.string b)) rfl (.v _)
  ·rename_i e ht
   split at h
   ·rename_i k ks2 hk hks
    cases hb:EY ks2 (cJ k)&&Nat.beq (P.cellsOf e) (aa k)&&Nat.ble 1 (aa k)with
    |false=>rw[hb]at h;cases h
    |true=>
     rw[hb]at h
     cases h
     simp only[Bool.and_eq_true]at hb
     have e1:=Bj hb.1.1
     have e2:P.cellsOf e=aa k:=Nat.eq_of_beq_eq_true hb.1.2
     have e3:1≤aa k:=Nat.le_of_ble_eq_true hb.2
     subst e1
     rcases open_slice ht hx with⟨rfl,rfl⟩ | ⟨a,len,cap,m,f2,D,Pl,rfl,hb1,hl,hm,hmm,rfl,hel⟩
     ·exact RC.one (s:=.rs k []) (by simp[fit]) .rs0
     ·have hlm:len≤m:=by subst hmm;split <;>omega
      obtain⟨hs1,hs2⟩:=hS.slice _ _ hs
      simp only[List.length_map,List.length_range]at hs1
      have helt:∀ i,i<len→∃ cs',cs'.length=aa k∧(∀ j v,cs'[j]? =some v→w.cell? ((a.add (i*aa k)).add j)=some v)∧RC F own w (cJ k) cs':=fun i hi=>by
       obtain⟨cs',h1,h2⟩:=hel i (by omega)
       have h3:=kM hS hown n e (cJ k) hks f2 cs' _ h2 (hs2 _ (List.mem_map_of_mem (List.mem_range.2 hi)))
       unfold World.cells? at h1
       split at h1
       ·refine⟨cs',by rw[mapM_some_length h1,List.length_range,e2],fun j v hj=>?_,h3⟩
        have hlt:j<P.cellsOf e:=by
         have:=(List.getElem?_eq_some_iff.1 hj).1
         rwa[mapM_some_length h1,List.length_range]at this
        have:=mapM_some_get h1 j j (by simp[hlt])
        rw[e2]at this
        rw[this,hj]
       ·cases h1
      by_cases h0:len=0
      ·subst h0
       exact RC.one (s:=.rs k []) (by simp[fit]) .rs0
      ·have hsp:a.spot=none:=by
        obtain⟨cs',h1,h2,_⟩:=helt 0 (by omega)
        have:=h2 0 (cs'[0]'(by omega)) (by rw[List.getElem?_eq_getElem])
        rw[Nat.zero_mul]at this
        simp only[Addr.add,if_true]at this
        unfold World.cell? at this
        split at this
        ·cases hsp:a.spot with
         |none=>rfl
         |some q=>rw[hsp]at this;simp at this
        ·cases this
       obtain⟨ab,ao,asp⟩:=a
       dsimp only at hsp
       subst hsp
       haveI:Inhabited k.T:=⟨dq k⟩
       obtain⟨X,hX⟩:=choose_lt (p:=fun i (x:k.T) =>∀ (j:Nat) (s:SV),(cellsOf k x)[j]? =some s→∃ v,w.cell? ⟨ab,ao+i*aa k+j,none⟩=some v∧Rel F own w s v) (n:=len) fun i hi=>by
        obtain⟨cs',h1,h2,l,h3,h4,h5⟩:=helt i hi
        refine⟨mkE k l,fun j s hj=>?_⟩
        rw[jw (k:=k) (l:=l) (x:=mkE k l) (by unfold lp;rw[h3];rfl)]at hj
        have hlt:j<cs'.length:=by
         have:=(List.getElem?_eq_some_iff.1 hj).1
         omega
        refine⟨cs'[j],?_,h5 j s _ hj (List.getElem?_eq_getElem hlt)⟩
        have:=h2 j cs'[j] (List.getElem?_eq_getElem hlt)
        have hadd:∀ p q,((⟨ab,ao,none⟩:Addr).add p).add q=⟨ab,ao+p+q,none⟩:=fun p q=>by
         unfold Addr.add
         by_cases hp:p=0 <;>by_cases hq:q=0 <;>simp[hp,hq]
        rwa[hadd]at this
       have hL:((List.range len).map X).length=len:=by simp
       refine RC.one (s:=.rs k ((List.range len).map X)) (by simp[fit]) ?_
       have hget:∀ (i:Nat) (x:k.T),((List.range len).map X)[i]? =some x→i<len∧x=X i:=fun i x hi=>by
        obtain⟨h1,h2⟩:=List.getElem?_eq_some_iff.1 hi
        rw[hL]at h1
        simp only[List.getElem_map,List.getElem_range]at h2
        subst h2
        exact⟨h1,rfl⟩
       have:=Rel.rs (F:=F) (own:=own) (w:=w) (k:=k) (l:=(List.range len).map X) (b:=ab) (o:=ao) (cap:=cap) (fun i j=>(w.cell? ⟨ab,ao+i*aa k+j,none⟩).getD undef) (by rw[hL];exact hl) (by rw[hL];exact hs1)
        (fun i x hi j s hj=>by
         obtain⟨h1,rfl⟩:=hget i x hi
         obtain⟨v,h2,_⟩:=hX i h1 j s hj
         exact⟨hown _,by rw[h2];rfl⟩)
        (fun i x hi j s hj=>by
         obtain⟨h1,rfl⟩:=hget i x hi
         obtain⟨v,h2,h3⟩:=hX i h1 j s hj
         rw[h2];exact h3)
       rwa[hL]at this
   ·cases h
  ·rename_i fs ht
   obtain⟨xs,m,rfl,rfl,hl,hlen,hf⟩:=DataW.trod_struct ht hx
   rw[←hl]at h
   have:=Bk (kM hS hown n) m cs fs.toList 0 ks h fun f hfm=>by
    obtain⟨i,hi,rfl⟩:=List.getElem_of_mem hfm
    have hi':i<fs.size:=by simpa using hi
    have h1:=hf i fs[i] (by simp[hi'])
    rw[List.getElem?_eq_getElem (by omega)]at h1
    refine⟨_,by simpa using h1,hS.agg _ hs _ (List.mem_map_of_mem (List.getElem_mem _))⟩
   simpa using this
  ·rename_i m e ht
   split at h
   ·rename_i a ha
    cases hb:Nat.beq a.length (P.cellsOf e)&&Nat.beq (P.cellsOf t) (m*a.length)with
    |false=>rw[hb]at h;cases h
    |true=>
     rw[hb]at h
     cases h
     rw[Bool.and_eq_true]at hb
     have e1:a.length=P.cellsOf e:=Nat.eq_of_beq_eq_true hb.1
     have e2:P.cellsOf t=m*a.length:=Nat.eq_of_beq_eq_true hb.2
     obtain⟨xs,f2,rfl,rfl,hl,hlen,hf⟩:=DataW.trod_array ht hx
     refine Bl (kM hS hown n e a ha) f2 m cs (by rw[hl,e2]) fun i hi=>?_
     have h1:=hf i hi
     rw[List.getElem?_eq_getElem (by omega),←e1]at h1
     exact⟨_,h1,hS.agg _ hs _ (List.mem_map_of_mem (List.getElem_mem _))⟩
   ·cases h
  ·cases h
end
end Go.Sx
end
section
namespace Go.Sx
open Go.Proofs
section
variable {F:Nat→Prop}{own:Own}{w:World}
theorem HC {k:Tag}{cs:Array Value}(h:RC F own w (cJ k) cs.toList):∃ x:k.T,Rel F own w (.agg (cellsOf k x)) (.agg cs):=by
 obtain⟨l,h3,h4,h5⟩:=h
 refine⟨mkE k l,?_⟩
 rw[jw (k:=k) (l:=l) (x:=mkE k l) (by unfold lp;rw[h3];rfl)]
 refine .agg (by simpa using h4.symm) fun j s hj=>?_
 have hlt:j<cs.size:=by
  have:=(List.getElem?_eq_some_iff.1 hj).1
  simpa[h4]using this
 exact h5 j s _ hj (by simp[Array.getD,hlt])
theorem Kw {k:Tag}{v:Value}(h:RC F own w [.r k] [v]):∃ l:List k.T,Rel F own w (.rs k l) v:=by
 obtain⟨l,h3,h4,h5⟩:=h
 obtain⟨x,r,rfl,h6,h7⟩:=iY h3
 have h8:=h5 0 x v rfl rfl
 cases x with
 |rs k' l'=>
  have:k=k':=by
   simp only[fit]at h6
   exact pe h6
  subst this
  exact⟨l',h8⟩
 |_=>simp[fit]at h6
end
end Go.Sx
end
section
namespace Go.Sx
open Go.RowKit Go.WideShapes Go.ChangeShapes
section
variable {H:Type}{enc:TypeId×Value→H}{P:Program}
def HD (P:Program):List TypeId→Bool
 | [] =>true
 |t::r=>P.readableRec t&&Nat.blt t P.types.size&&HD P r
theorem vt (hl:laidOutB P=true){W W':World}(hg:Below W.heap.size W W'):∀ {ts:List TypeId} {vs:List Value} {ds:List (DataW H)} {ps:List MemPlace},HD P ts=true→
  DataW.TrodAll enc P W 0 (fun _=>true) true ts vs ds ps→(∀ x∈ps,x.block<W.heap.size)→DataW.TrodAll enc P W' 0 (fun b=>decide (b<W.heap.size)) true ts vs ds ps
 | [],vs,ds,ps,_,h,_=>by
  obtain⟨rfl,rfl,rfl⟩:=trodAll_nil h
  exact trodAll_mk0
 |t::ts,vs,ds,ps,hk,h,hlt=>by
  unfold HD at hk
  rw[Bool.and_eq_true,Bool.and_eq_true]at hk
  obtain⟨v,vs',d,ds',p,q,rfl,rfl,rfl,h1,h2⟩:=trodAll_cons h
  refine trodAll_cons_mk (WideElems.Trod_stays hl hk.1.1 (by simpa[Nat.blt_eq]using hk.1.2) h1 (fun x hx=>hg.same (hlt x (List.mem_append_left _ hx))) (fun x hx=>by simpa using hlt x (List.mem_append_left _ hx))) ?_
  exact vt hl hg hk.2 h2 fun x hx=>hlt x (List.mem_append_right _ hx)
theorem EZ (hl:laidOutB P=true){f:Func}{s:ChangeSpec}{W W':World}{args:Array Value}{ds gs:List (DataW H)}{before:List MemPlace}{t:TypeId}
  (hk:HD P f.params.toList=true) (hW:DataW.Whole enc P f.params.toList s.vars false W args.toList ds gs before)
  (hr:f.resultTypes= #[t]) (ht:P.underlying t=some .bool) (hv:s.vars=[]) (h1:(s.fn H (ds++gs)).results=[.lit (.bool true)]) (h2:(s.fn H (ds++gs)).args=ds) (h3:(s.fn H (ds++gs)).vars=[])
  (hg:Below W.heap.size W W'):s.post enc P f false true false false W args (.bool true) W':=by
 have hlt:=hW.lt
 have hW0:=hW
 obtain⟨p,q,hA,hV,rfl,_,_⟩:=hW
 rw[hv]at hV
 obtain⟨rfl,rfl⟩:=trodVars_none hV
 refine⟨ds,[],p++[],[],p,[],hW0,?_,?_,?_,?_,fun h=>by cases h⟩
 ·rw[h1,hr]
  exact trodAll_cons_mk (shut_bool ht _) trodAll_mk0
 ·rw[h2]
  exact vt hl hg hk hA fun x hx=>hlt x (by simpa using hx)
 ·rw[h3,hv]
  rfl
 ·exact World.keptBut_mono (fun x hx=>⟨hx,.inr (.inl (by simpa using hx))⟩) (hg.frame (· ∈p++[]))
end
end Go.Sx
end
section
namespace Go.Proofs.YthcbieoehjhjfaaGreat.bulks
theorem one_le {H:Type}(d:DataW H):1≤Rows.uptoBulk d:=by
 cases d with
 |lit l=>cases l <;>simp[Rows.uptoBulk]
 |nil=>simp[Rows.uptoBulk]
 |ptr d=>simp[Rows.uptoBulk]
 |slice jU spare=>simp[Rows.uptoBulk]
 |agg parts=>simp[Rows.uptoBulk]
 |iface t d=>simp[Rows.uptoBulk]
 |map entries=>simp[Rows.uptoBulk]
 |held h=>simp[Rows.uptoBulk]
theorem part_le {H:Type}{d:DataW H}{l:List (DataW H)}(h:d∈l):Rows.uptoBulk d≤Rows.uptoBulkAll l:=by
 induction l with
 |nil=>cases h
 |cons x r ih=>
  simp only[Rows.uptoBulkAll]
  cases List.mem_cons.1 h with
  |inl e=>subst e;omega
  |inr e=>have:=ih e;omega
theorem append {H:Type}(l r:List (DataW H)):Rows.uptoBulkAll (l++r)=Rows.uptoBulkAll l+Rows.uptoBulkAll r:=by
 induction l with
 |nil=>simp[Rows.uptoBulkAll]
 |cons x l ih=>simp only[List.cons_append,Rows.uptoBulkAll,ih];omega
theorem length_le {H:Type}(l:List (DataW H)):l.length≤Rows.uptoBulkAll l:=by
 induction l with
 |nil=>simp[Rows.uptoBulkAll]
 |cons x r ih=>have:=one_le x;simp only[Rows.uptoBulkAll,List.length_cons];omega
theorem slice_le {H:Type}(jU spare:List (DataW H)):jU.length+spare.length+1≤Rows.uptoBulk (.slice jU spare):=by
 have h1:=length_le jU
 have h2:=length_le spare
 simp only[Rows.uptoBulk]
 omega
theorem slice_elems {H:Type}(jU spare:List (DataW H)):Rows.uptoBulkAll jU+1≤Rows.uptoBulk (.slice jU spare):=by
 simp only[Rows.uptoBulk]
 omega
theorem bound {H:Type}{l:List (DataW H)}(hk:Rows.uptoSmall H l=true):Rows.uptoBulkAll l≤1048576:=by
 simpa[Rows.uptoSmall]using hk
theorem room {n b:Nat}(hn:n≤2097152)(hb:b≤4096):(n+n / 4+192)*b≤281474976710656:=by
 have h:(n+n / 4+192)*b≤2621632*4096:=Nat.mul_le_mul (by omega) hb
 omega
end Go.Proofs.YthcbieoehjhjfaaGreat.bulks
end
section
namespace Go.Proofs.YthcbieoehjhjfaaGreat.registerDivided
open Go.ChangeShapes Go.WideShapes Go.ChangeAt Go.RowKit Go.Sx
set_option linter.unusedVariables false
theorem con_eq (x0:Tag.district.T)(x1:Int)(x2:List Tag.part.T):fl [.agg (cellsOf .district x0),.v (.int .u8 x1),.rs .part x2]=some (.det (cS x0 x1 x2) (.v (.bool (dm x0 x1 x2)))):=by
 unfold fl
 simp only[go_sem,Nat.reduceBEq]
theorem call_true {W:World}{cs0:Array Value}(h0:RC (fun _=>False) ce W (cJ .district) cs0.toList)(x1:Int)(h1:0≤x1∧x1≤255){v2:Value}(h2:RC (fun _=>False) ce W [.r .part] [v2]):
  Calls Tryz.prog 10 #[.agg cs0,.int .u8 x1,v2] W (fun e W'=>e=.returned (.bool true)∧Below W.heap.size W W'):=by
 obtain⟨x0,r0⟩:=HC h0
 obtain⟨x2,r2⟩:=Kw h2
 refine(lm.calls _ _ (con_eq x0 x1 x2) (Cs x0 x1 x2 h1) (fun _=>False) W _ (fun b h=>h.elim) ⟨rfl,fun j s hj=>?_⟩).mono fun e W' he=>?_
 ·match j,hj with
  |0,hj=>cases hj;exact r0
  |1,hj=>cases hj;exact .v _
  |2,hj=>cases hj;exact r2
 ·rcases he with⟨s,u,own',hs,rfl,hh,hb⟩ | ⟨x,hx,_⟩
  ·simp only[cO]at hs
   subst hs
   rw[Ct x0 x1 x2 h1]at hh
   have:=hh.val
   simp only[nb]at this
   rw[bV this]
   exact⟨rfl,hb⟩
  ·exact hx.elim
theorem own:ownKnob Tryz.prog.godebug=none:=by kernel_rfl
theorem small (H:Type):Small (fun d:DataW H=>Rows.uptoBulk d≤1048576) where
 agg l h d hd:=by
  have h1:=bulks.part_le hd
  simp only[Rows.uptoBulk]at h
  omega
 slice l m h:=by
  have h1:=bulks.slice_le l m
  have h2:=bulks.slice_elems l m
  refine⟨by unfold cp;omega,fun d hd=>?_⟩
  have:=bulks.part_le hd
  omega
theorem laid:laidOutB Tryz.prog=true:=by kernel_rfl
set_option maxRecDepth 100000 in
theorem contract (H:Type)(enc:TypeId×Value→H)(W:World)(base:Nat)(args:Array Value)(ds gs:List (DataW H))(before:List MemPlace)
  (hval:∀ (j:Nat) t v,Tryz.f10.params[j]? =some t→args[j]? =some v→Value.okWide Tryz.prog W .any base t v)
  (hW:DataW.Whole enc Tryz.prog Tryz.f10.params.toList Rows.registerDividedSpec.vars false W args.toList ds gs before) (hk:Rows.uptoSmall H (ds++gs)=true):
  Calls Tryz.prog 10 args W fun e W'=>∃ v,e=.returned v∧Rows.registerDividedSpec.post enc Tryz.prog Tryz.f10 false true false false W args v W':=by
 have hW':=hW
 obtain⟨p,q,hA0,hV,rfl,hfz,hnd⟩:=hW
 have hA:DataW.TrodAll enc Tryz.prog W 0 (fun _=>true) true Tryz.f10.params.toList args.toList ds p:=hA0
 rw[Tryz.params10]at hA hval
 obtain⟨v0,vs0,d0,ds0,p0,q0,hargs,rfl,rfl,h0,r0⟩:=trodAll_cons hA
 obtain⟨v1,vs1,d1,ds1,p1,q1,rfl,rfl,rfl,h1,r1⟩:=trodAll_cons r0
 obtain⟨v2,vs2,d2,ds2,p2,q2,rfl,rfl,rfl,h2,r2⟩:=trodAll_cons r1
 obtain⟨rfl,rfl,rfl⟩:=trodAll_nil r2
 obtain rfl:args= #[v0,v1,v2]:=by cases args;simp_all
 obtain⟨rfl,rfl⟩:=trodVars_none hV
 have hb:=bulks.bound hk
 simp only[Rows.uptoBulkAll,List.append_nil,List.cons_append,List.nil_append]at hb
 have ho:∀ b,¬bS (fun _=>False) ce b:=fun b h=>by
  rcases h with h| ⟨_,_,h,_⟩
  ·exact h
  ·cases h
 have s0:∃ cs,v0=.agg cs:=by
  have:=hval 0 31 v0 rfl rfl
  simp only[Value.okWide,Tryz.underlying31]at this
  exact⟨_,this.choose_spec.1⟩
 obtain⟨cs0,rfl⟩:=s0
 obtain⟨a1,rfl,rfl,rfl,w1⟩:=open_int Tryz.underlying5 (hval 1 5 v1 rfl rfl) h1
 have R1:0≤a1∧a1≤255:=by simpa[Lit.wf,IntKind.min,IntKind.max,IntKind.signed,IntKind.bits]using w1
 obtain⟨a2,l2,c2,rfl⟩:=okWide_slice Tryz.underlying33 (hval 2 33 v2 rfl rfl)
 have R0:RC (fun _=>False) ce W (cJ .district) cs0.toList:=by
  obtain⟨f,hf⟩:=h0
  exact kM (n:=6) (t:=31) (small H) ho _ (by kernel_rfl) f _ _ hf (by show Rows.uptoBulk d0≤_;omega)
 have R2:RC (fun _=>False) ce W [.r .part] [.slice a2 l2 c2]:=by
  obtain⟨f,hf⟩:=h2
  exact kM (n:=6) (t:=33) (small H) ho _ (by kernel_rfl) f _ _ hf (by show Rows.uptoBulk d2≤_;omega)
 refine(call_true R0 _ R1 R2).mono fun e W' ⟨he,hg⟩ =>?_
 subst he
 exact⟨_,rfl,EZ laid (by kernel_rfl) hW' (by kernel_rfl) Tryz.underlying4 rfl rfl rfl rfl hg⟩
def zeroV:Kd→Value
 | .n k=>.int k 0
 | .b=>.bool false
 | .s=>.string (ByteArray.mk #[])
 | .r _=>.slice none 0 0
 | .m _ _=>.map none
 | .f=>.nilFunc
def wit:Array Value:= #[.agg ((cJ .district).map zeroV).toArray,.int .u8 0,.slice none 0 0]
set_option maxRecDepth 100000 in
theorem lifted (os:Os)(started:os.Started)(H:Type)(enc:TypeId×Value→H)(F:Stop.Interp):
  ReturnsInHanded {} Tryz.checked os 10 .any ((Rows.OpenSpec.upto Rows.registerDividedSpec).pre6 enc Tryz.prog Tryz.f10 Rows.registerDividedUptoRow.domain false) (((Rows.OpenSpec.upto Rows.registerDividedSpec).at F).post enc Tryz.prog Tryz.f10 false true false false):=by
 refine returnsInHanded_of_cond (C:=Tryz.checked) (s:=Rows.OpenSpec.upto Rows.registerDividedSpec) (k:=Rows.uptoSmall) rfl own started (by kernel_rfl) Tryz.func10
  (OpenSpec.witness (enc:=enc) (C:=Tryz.checked) (s:=Rows.OpenSpec.upto Rows.registerDividedSpec) (k:=Rows.uptoSmall) rfl false ⟨#[],wit,[]⟩ 8 (by kernel_rfl) (by kernel_rfl) (by kernel_rfl)
   (x:=(DataW.whole enc Tryz.prog (World.plainHolding Tryz.prog os ⟨#[],wit,[]⟩).memory Tryz.f10.params.toList Rows.registerDividedSpec.vars false wit.toList 8).getD ([],[],[])) (by kernel_rfl) rfl (by kernel_rfl)) ?_
 intro W base args ds gs before hval hW _ hk _
 exact contract H enc W base args ds gs before hval hW hk
theorem over:Rows.registerDividedUptoRow.holds Tryz.pinned (Rows.OpenSpec.upto Rows.registerDividedSpec):=
 OpenClaim.holds_of_cond 10 Tryz.f10 rfl rfl rfl rfl rfl rfl rfl ⟨rfl,rfl,rfl,rfl,rfl⟩ rfl rfl rfl rfl rfl (by kernel_rfl) Tryz.func10 (by kernel_rfl)
  (of_decide_eq_true (by kernel_rfl)) (by unfold Func.isWrapper;first|(rw[if_pos (by decide+kernel)];kernel_rfl) |(rw[if_neg (by decide+kernel)];exact⟨rfl,rfl⟩))
  (fun os started H enc _ F=>lifted os started H enc F)
theorem proved:Rows.RegisterDividedUptoSaid:=over
end Go.Proofs.YthcbieoehjhjfaaGreat.registerDivided
end
