/- Part of the proof that the law RegisterEmpty returns true and leaves its arguments as they were, for all arguments of bulk at most 1048576 (the Upto form). -/
import Derived.Test.YthcbieoehjhjfaaGreatC410
import Derived.Shelf.SlSortCmp.NoneTotal
import Derived.Ground.SlsfProg
import Derived.Test.YthcbieoehjhjfaaGreatProg
import Derived.Test.YthcbieoehjhjfaaGreatC408
import Derived.Test.YthcbieoehjhjfaaGreatC407
import Derived.Test.YthcbieoehjhjfaaGreatC406
import Derived.Deep.Slices
import Derived.OpenShut
import Derived.ChangeSame
import Derived.WideKeyArgs
import Derived.Below
import Derived.Test.YthcbieoehjhjfaaGreatRows
import Derived.WalkKit
import Derived.ProofKit
import Derived.JoinedCond
import Derived.Carry
set_option linter.all false
set_option maxHeartbeats 4000000
section
namespace Go.Sx
open Go.Proofs
def km (x:Deed)(B:Int→Int→Int):Int→Int→Int:=fun r=>if r=x.right then uR x (B r)else B r
def nV (ds:List Deed)(B:Int→Int→Int):Int→Int→Int:=ds.foldl (fun B x=>km x B) B
def ur:List Deed→(Int→Int→Int)→List Int
 | [],_=>[]
 |x::r,B=>(if B x.right x.since=0 then [x.no]else [])++ur r (km x B)
structure MapOk (d:District)(m:BM):Prop where
 nodup:(fO m).Nodup
 good:∀ r,∃ L,L≤1073741824∧Good d.farms.length L (bk m r)
theorem MapOk.le {d:District}{m:BM}(h:MapOk d m)(r f:Int):0≤bk m r f∧bk m r f≤1073741824:=by
 obtain⟨L,h1,h2⟩:=h.good r
 have:=h2.nn f
 by_cases e:bk m r f=0
 ·omega
 ·obtain⟨a,b⟩:=h2.sup f e
  have:=xi h2.nn _ f a b
  have:=h2.tot
  omega
theorem H2 {d:District}{ds:List Deed}{x:Deed}(hx:Fit d x)(hk:x.kind≠4){e:List Int}{m:BM}(hm:MapOk d m)(he:(e.length+1)*8≤iE):
  cP ds x (e,m)∧∃ m',bE ds x (e,m)=.inr (e++(if bk m x.right x.since=0 then [x.no]else []),m')∧MapOk d m'∧bk m'=km x (bk m):=by
 obtain⟨r0,r1,r2,s0,s1⟩:=hx.held hk
 have hv:=hm.le x.right x.since
 have ebk:dp .registerTitle .int m (RT x.right x.since)=bk m x.right x.since:=rfl
 have hdel:=rJ (RT x.right x.since) m hm.nodup
 have hstep:∀ m':BM,(fO m').Nodup→bk m'=km x (bk m)→MapOk d m':=fun m' hN hb=>by
  refine⟨hN,fun r=>?_⟩
  obtain⟨L,h1,h2⟩:=hm.good r
  refine⟨L,h1,?_⟩
  rw[hb]
  show Good _ _ (if r=x.right then uR x (bk m r)else bk m r)
  split
  ·exact(Fv hx hk h2).1
  ·exact h2
 have hlen:(e++[x.no]).length=e.length+1:=by simp
 unfold cP bE
 simp only[ebk,hlen]
 by_cases hn:bk m x.right x.since=0
 ·have b0:(bk m x.right x.since==0)=true:=by simp[hn]
  rw[b0,if_pos hn]
  refine⟨⟨fun _=>he,(fun h=>by cases h)⟩,m,rfl,hm,?_⟩
  funext r
  unfold km
  split
  ·rename_i h;subst h;unfold uR;rw[if_pos hn]
  ·rfl
 ·have b0:(bk m x.right x.since==0)=false:=by simpa using hn
  rw[b0,if_neg hn,List.append_nil]
  simp only[cond_false]
  have edel:=KV m hm.nodup x.right x.since
  have kdel:(fO (jF .registerTitle .int m (RT x.right x.since))).Nodup:=hdel.1
  have egood:Good d.farms.length (1073741824 - bk m x.right x.since) (bk (jF .registerTitle .int m (RT x.right x.since)) x.right):=by
   obtain⟨L,h1,h2⟩:=hm.good x.right
   rw[edel]
   simp only[if_true]
   exact h2.put s0 s1 (Int.le_refl _) (by have:=h2.tot;omega)
  by_cases k1:x.kind=1
  ·have b1:(x.kind==1)=true:=by simp[k1]
   rw[b1]
   simp only[cond_true]
   obtain⟨a,b,c⟩:=hx.pass k1
   have hto:=egood.le30 (by omega) x.to
   have e2:dp .registerTitle .int (jF .registerTitle .int m (RT x.right x.since)) (RT x.right x.to)=gH (bk m x.right) x.since 0 x.to:=by
    have:=congrFun (congrFun edel x.right) x.to
    simpa[bk]using this
   have hto':0≤gH (bk m x.right) x.since 0 x.to∧gH (bk m x.right) x.since 0 x.to≤2147483648:=by
    rw[edel]at hto;simpa using hto
   refine⟨⟨(fun h=>by cases h),(fun _ h=>by cases h)⟩,_,rfl,?_⟩
   have hb:bk (cO x (bk m x.right x.since) (jF .registerTitle .int m (RT x.right x.since)))=km x (bk m):=by
    unfold cO
    rw[e2,bK (by omega) (by omega),xj,edel]
    funext r
    unfold km
    by_cases h:r=x.right
    ·subst h
     simp only[if_true]
     unfold uR
     rw[if_neg hn,if_pos k1]
    ·simp only[if_neg h]
   exact⟨hstep _ (by unfold cO;exact(mt _ _ _ kdel).1) hb,hb⟩
  ·have b1:(x.kind==1)=false:=by simpa using k1
   rw[b1]
   simp only[cond_false]
   by_cases k2:x.kind=2
   ·have b2:(x.kind==2)=true:=by simp[k2]
    rw[b2]
    simp only[cond_true]
    obtain⟨p1,p2,p3⟩:=CX (hx.split k2) hv.1 hv.2 kdel (M:=1073741824 - bk m x.right x.since) (by omega) egood
    refine⟨⟨(fun h=>by cases h),fun _ _=>⟨fun _=>p1,(fun h=>by cases h)⟩⟩,_,rfl,?_⟩
    have hb:bk (b8 x (bk m x.right x.since) (jF .registerTitle .int m (RT x.right x.since)))=km x (bk m):=by
     rw[p3,edel]
     funext r
     unfold km
     by_cases h:r=x.right
     ·subst h
      simp only[if_true]
      unfold uR
      rw[if_neg hn,if_neg k1,if_pos k2]
     ·simp only[if_neg h]
    exact⟨hstep _ p2 hb,hb⟩
   ·have b2:(x.kind==2)=false:=by simpa using k2
    rw[b2]
    simp only[cond_false]
    have k3:x.kind=3:=by rcases hx.kind with h|h|h|h <;>omega
    have b3:(x.kind==3)=true:=by simp[k3]
    rw[b3]
    simp only[cond_true]
    refine⟨⟨(fun h=>by cases h),fun _ _=>⟨(fun h=>by cases h),(fun _ h=>by cases h)⟩⟩,_,rfl,?_⟩
    have hb:bk (jF .registerTitle .int m (RT x.right x.since))=km x (bk m):=by
     rw[edel]
     funext r
     unfold km
     by_cases h:r=x.right
     ·subst h
      simp only[if_true]
      unfold uR
      rw[if_neg hn,if_neg k1,if_neg k2]
     ·simp only[if_neg h]
    exact⟨hstep _ kdel hb,hb⟩
theorem vT {d:District}(ds:List Deed):∀ (l:List Deed),(∀ x∈l,Fit d x∧x.kind≠4)→∀ (e:List Int) (m:BM),MapOk d m→(e.length+l.length)*8≤iE→
  okL (bE ds) (cP ds) l (e,m)∧∃ m',eY (bE ds) l (e,m)=.inr (e++ur l (bk m),m')∧MapOk d m'∧bk m'=nV l (bk m)
 | [],_,e,m,hm,_=>⟨trivial,m,by simp[eY,ur],hm,rfl⟩
 |x::l,h,e,m,hm,hB=>by
  simp only[List.length_cons]at hB
  obtain⟨h1,h2⟩:=h x List.mem_cons_self
  obtain⟨q1,m1,q2,q3,q4⟩:=H2 (ds:=ds) h1 h2 (e:=e) hm (by omega)
  have hlen:(e++(if bk m x.right x.since=0 then [x.no]else [])).length≤e.length+1:=by split <;>simp
  obtain⟨r1,m2,r2,r3,r4⟩:=vT ds l (fun y hy=>h y (List.mem_cons_of_mem _ hy)) (e++(if bk m x.right x.since=0 then [x.no]else [])) m1 q3 (by omega)
  refine⟨⟨q1,fun s hs=>by rw[q2]at hs;cases hs;exact r1⟩,m2,?_,r3,?_⟩
  ·simp only[eY,q2]
   rw[r2,q4,List.append_assoc];rfl
  ·rw[r4,q4];rfl
def B0 (d:District):Int→Int→Int:=fun r f=>if 0≤r∧r< (d.rights.length:Int)∧(d.rights.getD r.toNat default).kind=1∧(d.rights.getD r.toNat default).farm=f then(d.rights.getD r.toNat default).litres else 0
structure TakeOk (d:District)(x:Right):Prop where
 f0:0≤x.farm
 f1:x.farm< (d.farms.length:Int)
 l0:1≤x.litres
 l1:x.litres≤1073741824
theorem H3 {d:District}(h:b6 d=0){k:Nat}(hk:k<d.rights.length)(ht:(d.rights.getD k default).kind=1):TakeOk d (d.rights.getD k default):=by
 have:=((yI d).1 h).2.2.2.2.2.2.2.1 k hk
 unfold d5 at this
 rw[kX]at this
 have h2:gE d (d.rights.getD k default)=true:=by
  cases h3:gE d (d.rights.getD k default)with
  |true=>rfl
  |false=>rw[h3]at this;cases this
 unfold gE at h2
 cases h4:((!(co (d.rights.getD k default).farm (d.farms.length:Int))) ||(!(co (d.rights.getD k default).reach (d.reaches.length:Int)))) ||(!(aw ([0,(d.rights.getD k default).since,(d.rights.getD k default).to,(IntKind.i64.wrap (d.hours - 1))])))with
 |true=>rw[h4]at h2;cases h2
 |false=>
  rw[h4,show((d.rights.getD k default).kind==1)=true by rw[ht];rfl]at h2
  simp only[cond_true,cond_false,Bool.and_eq_true]at h2
  simp only[Bool.or_eq_false_iff,Bool.not_eq_false']at h4
  have h5:=h4.1.1
  unfold co at h5
  simp only[Bool.and_eq_true,decide_eq_true_eq]at h5
  have h6:=w7 h2.1.2
  exact⟨by omega,by omega,by omega,by omega⟩
theorem KW {d:District}(h:b6 d=0)(r:Int):∃ L,L≤1073741824∧Good d.farms.length L (B0 d r):=by
 by_cases hr:0≤r∧r< (d.rights.length:Int)∧(d.rights.getD r.toNat default).kind=1
 ·have ht:=H3 h (k:=r.toNat) (by omega) hr.2.2
  have hl:=ht.l0
  refine⟨(d.rights.getD r.toNat default).litres,ht.l1,?_⟩
  have e:B0 d r=gH (fun _=>0) (d.rights.getD r.toNat default).farm (d.rights.getD r.toNat default).litres:=by
   funext f
   unfold B0 gH
   by_cases hf:f=(d.rights.getD r.toNat default).farm
   ·rw[if_pos ⟨hr.1,hr.2.1,hr.2.2,hf.symm⟩,if_pos hf]
   ·rw[if_neg (fun h=>hf h.2.2.2.symm),if_neg hf]
  have t0:∀ n,tot n (fun _=>0)=0:=fun n=>by
   induction n with
   |zero=>rfl
   |succ n ih=>unfold tot;rw[ih];rfl
  rw[e]
  exact Good.put (L:=0) ⟨fun _=>Int.le_refl _,fun f hf=>absurd rfl hf,by rw[t0];exact Int.le_refl _⟩ ht.f0 ht.f1 (by omega) (by rw[t0];omega)
 ·refine⟨0,by omega,?_⟩
  have e:B0 d r=fun _=>0:=by
   funext f
   unfold B0
   rw[if_neg (fun h=>hr ⟨h.1,h.2.1,h.2.2.1⟩)]
  have t0:∀ n,tot n (fun _=>0)=0:=fun n=>by
   induction n with
   |zero=>rfl
   |succ n ih=>unfold tot;rw[ih];rfl
  rw[e]
  exact⟨fun _=>Int.le_refl _,fun f hf=>absurd rfl hf,by rw[t0];exact Int.le_refl _⟩
theorem Fx {d:District}(h:b6 d=0):∃ m,aA (bO d) d.rights.length 0 []=.inr m∧MapOk d m∧bk m=B0 d:=by
 obtain⟨m,h1,h2,h3⟩:=ou (step:=bO d) (fun k (m:BM) =>(fO m).Nodup∧bk m=fun r f=>if r< (k:Int)then B0 d r f else 0) d.rights.length 0 ([]:BM) ⟨by simp[fO],by
   funext r f
   by_cases hr:r< ((0:Nat):Int)
   ·rw[if_pos hr];unfold B0 bk;rw[if_neg (by omega)];rfl
   ·rw[if_neg hr];rfl⟩ (fun j m _ hj ⟨j1,j2⟩ =>by
  rw[Nat.zero_add]at hj
  unfold bO
  by_cases hk:(d.rights.getD j default).kind=1
  ·rw[show((d.rights.getD j default).kind==1)=true by rw[hk];rfl]
   refine⟨_,rfl,(mt _ _ _ j1).1,?_⟩
   rw[xj,j2]
   funext r f
   by_cases hr:r=(j:Int)
   ·subst hr
    simp only[if_true]
    unfold gH B0
    dsimp only
    rw[if_pos (by omega:(j:Int) < ((j+1:Nat):Int)),Int.toNat_natCast]
    by_cases hf:f=(d.rights.getD j default).farm
    ·rw[if_pos hf,if_pos ⟨by omega,by omega,hk,hf.symm⟩]
    ·rw[if_neg hf,if_neg (by omega),if_neg (fun h=>hf h.2.2.2.symm)]
   ·simp only[if_neg hr]
    by_cases h2:r< (j:Int)
    ·rw[if_pos h2,if_pos (by omega)]
    ·rw[if_neg h2,if_neg (by omega)]
  ·rw[show((d.rights.getD j default).kind==1)=false by simpa using hk]
   refine⟨_,rfl,j1,?_⟩
   rw[j2]
   funext r f
   by_cases hr:r=(j:Int)
   ·subst hr
    rw[if_neg (by omega),if_pos (by omega)]
    unfold B0
    rw[if_neg (fun h=>hk (by rw[Int.toNat_natCast]at h;exact h.2.2.1))]
   ·by_cases h2:r< (j:Int)
    ·rw[if_pos h2,if_pos (by omega)]
    ·rw[if_neg h2,if_neg (by omega)])
 have e:bk m=B0 d:=by
  rw[h3]
  funext r f
  split
  ·rfl
  ·unfold B0;rw[if_neg (by omega)]
 refine⟨m,h1,⟨h2,fun r=>?_⟩,e⟩
 rw[e];exact KW h r
theorem vU {d:District}(h:b6 d=0){ds:List Deed}(hd:∀ x∈ds,Fit d x∧x.kind≠4)(hl:ds.length≤512):
  eQ d ds∧∃ m,cC d ds=(m,nT (ur ds (B0 d)))∧MapOk d m∧bk m=nV ds (B0 d):=by
 obtain⟨m0,e0,o0,b0⟩:=Fx h
 obtain⟨q1,m1,q2,q3,q4⟩:=vT (d:=d) ds ds hd [] m0 o0 (by simp only[List.length_nil];unfold iE;omega)
 rw[List.nil_append]at q2
 rw[b0]at q2 q4
 refine⟨fun _ z hz=>?_,m1,?_,q3,q4⟩
 ·rw[e0]at hz;cases hz
  refine⟨Fl ds,?_⟩
  rw[ox];exact q1
 ·unfold cC
  rw[e0,ox]
  simp only[q2]
end Go.Sx
end
section
namespace Go.Proofs
open Go.Shelf
def Tryz.sortLh_ren:Go.Shelf.Ren:=⟨fun|6=>50|15=>81|14=>80|28=>112|29=>113|20=>104|21=>105|22=>106|23=>107|24=>108|25=>109|26=>110|27=>111|46=>136|47=>137|48=>138|49=>139|50=>140|57=>149|n=>n,fun|22=>44|24=>67|25=>100|3=>3|39=>116|0=>0|53=>162|55=>164|4=>4|46=>156|45=>155|50=>78|5=>5|9=>9|66=>184|70=>187|76=>195|77=>192|n=>n,fun|n=>n⟩
theorem Tryz.sortLh:Go.Proofs.SlLaysF0.n6 Tryz.prog Tryz.sortLh_ren:= {
 mixed:=by kernel_rfl
 f6:=⟨Tryz.f50.name,by decide,Tryz.func50.trans (congrArg some (by kernel_rfl))⟩
 f14:=⟨Tryz.f80.name,by decide,Tryz.func80.trans (congrArg some (by kernel_rfl))⟩
 f15:=Tryz.func81.trans (congrArg some (by kernel_rfl))
 f20:=⟨Tryz.f104.name,by decide,Tryz.func104.trans (congrArg some (by kernel_rfl))⟩
 f21:=⟨Tryz.f105.name,by decide,Tryz.func105.trans (congrArg some (by kernel_rfl))⟩
 f22:=⟨Tryz.f106.name,by decide,Tryz.func106.trans (congrArg some (by kernel_rfl))⟩
 f23:=⟨Tryz.f107.name,by decide,Tryz.func107.trans (congrArg some (by kernel_rfl))⟩
 f24:=⟨Tryz.f108.name,by decide,Tryz.func108.trans (congrArg some (by kernel_rfl))⟩
 f25:=⟨Tryz.f109.name,by decide,Tryz.func109.trans (congrArg some (by kernel_rfl))⟩
 f26:=⟨Tryz.f110.name,by decide,Tryz.func110.trans (congrArg some (by kernel_rfl))⟩
 f27:=⟨Tryz.f111.name,by decide,Tryz.func111.trans (congrArg some (by kernel_rfl))⟩
 f28:=Tryz.func112.trans (congrArg some (by kernel_rfl))
 f29:=Tryz.func113.trans (congrArg some (by kernel_rfl))
 f46:=⟨Tryz.f136.name,by decide,Tryz.func136.trans (congrArg some (by kernel_rfl))⟩
 f47:=Tryz.func137.trans (congrArg some (by kernel_rfl))
 f48:=Tryz.func138.trans (congrArg some (by kernel_rfl))
 f49:=⟨Tryz.f139.name,by decide,Tryz.func139.trans (congrArg some (by kernel_rfl))⟩
 f50:=⟨Tryz.f140.name,by decide,Tryz.func140.trans (congrArg some (by kernel_rfl))⟩
 f57:=⟨Tryz.f149.name,by decide,Tryz.func149.trans (congrArg some (by kernel_rfl))⟩
 t0:=Tryz.underlying0
 a0:=Tryz.isAgg0
 z0:=Tryz.sizeOf0
 v0:=Tryz.zeroValue0
 t3:=Tryz.underlying3
 a3:=Tryz.isAgg3
 z3:=Tryz.sizeOf3
 v3:=Tryz.zeroValue3
 t4:=Tryz.underlying4
 a4:=Tryz.isAgg4
 z4:=Tryz.sizeOf4
 v4:=Tryz.zeroValue4
 t5:=Tryz.underlying5
 a5:=Tryz.isAgg5
 z5:=Tryz.sizeOf5
 v5:=Tryz.zeroValue5
 t9:=Tryz.underlying9
 a9:=Tryz.isAgg9
 z9:=Tryz.sizeOf9
 v9:=Tryz.zeroValue9
 t22:=Tryz.underlying44
 a22:=Tryz.isAgg44
 z22:=Tryz.sizeOf44
 v22:=Tryz.zeroValue44
 t25:=Tryz.underlying100
 a25:=Tryz.isAgg100
 z25:=Tryz.sizeOf100
 v25:=Tryz.zeroValue100
 t39:=Tryz.underlying116
 a39:=Tryz.isAgg116
 z39:=Tryz.sizeOf116
 v39:=Tryz.zeroValue116
 t45:=Tryz.underlying155
 a45:=Tryz.isAgg155
 z45:=Tryz.sizeOf155
 v45:=Tryz.zeroValue155
 t46:=Tryz.underlying156
 a46:=Tryz.isAgg156
 z46:=Tryz.sizeOf156
 v46:=Tryz.zeroValue156
 t50:=Tryz.underlying78
 a50:=Tryz.isAgg78
 z50:=Tryz.sizeOf78
 v50:=Tryz.zeroValue78
 t53:=Tryz.underlying162
 a53:=Tryz.isAgg162
 z53:=Tryz.sizeOf162
 v53:=Tryz.zeroValue162
 t55:=Tryz.underlying164
 a55:=Tryz.isAgg164
 z55:=Tryz.sizeOf164
 v55:=Tryz.zeroValue164
 t66:=Tryz.underlying184
 a66:=Tryz.isAgg184
 z66:=Tryz.sizeOf184
 v66:=Tryz.zeroValue184
 t70:=Tryz.underlying187
 a70:=Tryz.isAgg187
 z70:=Tryz.sizeOf187
 v70:=Tryz.zeroValue187
 t76:=Tryz.underlying195
 a76:=Tryz.isAgg195
 z76:=Tryz.sizeOf195
 v76:=Tryz.zeroValue195
 t77:=Tryz.underlying192
 a77:=Tryz.isAgg192
 z77:=Tryz.sizeOf192
 v77:=Tryz.zeroValue192}
end Go.Proofs
end
section
namespace Go.Sx
open Go.RowKit Go.Shelf Go.Lib Go.Sort Go.Proofs
set_option maxRecDepth 100000
noncomputable def nW:List SV→List Ob→Option HCon:=kY .holding 51 [] bN
@[go_sem] theorem Fy {l0:List Holding}:nW [.os 0,.fn 51 [] []] [.row .holding l0]=some (dJ (apart bN l0) (.tup []) [.row .holding (srt bN l0)]):=uQ
theorem uS:ul .holding:=fun x s hs=>by
 simp only[cellsOf,List.mem_cons,List.not_mem_nil,or_false]at hs
 rcases hs with rfl|rfl|rfl|rfl
 all_goals exact⟨_,rfl,rfl⟩
theorem se (x y:Holding):mY (.agg (cellsOf .holding x):: .agg (cellsOf .holding y)::[])=some (.det True (.v (.int .i64 (bN x y)))):=by
 simp only[go_sem,Nat.reduceBEq]
theorem xk:FnOkO Tryz.prog 50 nW:=
 yY (k:=.holding) Tryz.sortLh (fun w=>by kernel_rfl) (fun w=>by kernel_rfl) uS (by decide) (g:=51) (caps:=[]) rB (cf:=bN) se r8 (fun s hs=>by cases hs) ⟨default,default,se _ _⟩
end Go.Sx
end
section
namespace Go.Sx
open Go.Proofs
set_option maxRecDepth 100000
set_option linter.unusedSimpArgs false
theorem vV {p:Prop}(h:p:=by(first|done|(repeat' (first|with_reducible refine And.intro ?_ ?_|((with_reducible show _≠_);first|assumption|omega|(simp_all [bV,cd];done) |grind) |with_reducible intro _)) <;>(first|done|with_reducible exact Empty.elim ‹Empty› |with_reducible assumption|rfl|omega|assumption|decide|exact fk [0,1,2,3,7] |exact fk [0,1,2,3,4] |exact czl|(simp only[*,cond_true,cond_false,Bool.not_true,Bool.not_false,go_sem,Nat.reduceBEq,Nat.reduceLeDiff,Nat.reduceLT,decide_true,Nat.reduceAdd,Nat.reduceSub,Nat.reduceMul,Int.reduceLE,Int.reduceLT,Int.reduceToNat,Int.reduceNeg,reduceCtorEq];(repeat' (first|with_reducible refine And.intro ?_ ?_|((with_reducible show _≠_);first|assumption|omega|(simp_all [bV,cd];done) |grind) |with_reducible intro _)) <;>(first|done|assumption|rfl|omega|decide|exact fk [0,1,2,3,7] |exact fk [0,1,2,3,4] |(simp_all [bV,cd];done))) |(simp_all [okI,bV,cd];done) |(simp_all [bV,cd];(first|done|exact fk2 [0,1,2,3,7] |exact fk2 [0,1,2,3,4])) |exact fk2 [0,1,2,3,7] |exact fk2 [0,1,2,3,4]))):p:=h
theorem clQ {p:Prop}(h:p:=by((repeat' (first|with_reducible refine And.intro ?_ ?_|with_reducible intro _)) <;>(first|done|with_reducible exact Empty.elim ‹Empty› |with_reducible assumption|rfl|((try simp only[wZ,EQ]at *);first|with_reducible assumption|(simp_all only[bV,cd];done) |grind|(simp_all only[bV,cd];grind))))):p:=h
@[go_sem] def cD (a0:District)(a1:List Deed)(a2:Int)(a3:Int)(k_0:RegisterTitle×Int)(s_0:List Holding):Empty⊕(List Holding):=(bif(decide (k_0.2 > 0))then .inr (s_0++([({ right:=k_0.1.right,farm:=k_0.1.farm,litres:=k_0.2,rank:=(a0.rights.getD (Int.toNat k_0.1.right) (default:Right)).rank}:Holding)]))else .inr s_0)
def gI (a0:District)(a1:List Deed)(a2:Int)(a3:Int)(k_0:RegisterTitle×Int)(s_0:List Holding):Prop:=((decide (k_0.2 > 0))=true→((0≤k_0.1.right∧k_0.1.right< (a0.rights.length:Int))∧((s_0++([({ right:=k_0.1.right,farm:=k_0.1.farm,litres:=k_0.2,rank:=(a0.rights.getD (Int.toNat k_0.1.right) (default:Right)).rank}:Holding)])).length*32≤iE)))
def bf (a0:District)(a1:List Deed)(a2:Int)(a3:Int):List Holding×Int:=(bif((al a0 a1) !=0)then([],(al a0 a1))else(bif((!(aC a2 0 (IntKind.i64.wrap (a0.hours - 1)))) ||(!(aC a3 0 1048576)))then([],1)else(match eY (cD a0 a1 a2 a3) ((cC a0 (bU a1 a2 a3)).1) ([])with| .inl x=>x.elim| .inr s_0=>((srt bN s_0),0))))
def dN (a0:District)(a1:List Deed)(a2:Int)(a3:Int):Prop:=((c5 a0 a1)∧((((al a0 a1) !=0)=true→(([],(al a0 a1))=(bf a0 a1 a2 a3)))∧(((al a0 a1) !=0)=false→((((!(aC a2 0 (IntKind.i64.wrap (a0.hours - 1)))) ||(!(aC a3 0 1048576)))=true→(([],1)=(bf a0 a1 a2 a3)))∧(((!(aC a2 0 (IntKind.i64.wrap (a0.hours - 1)))) ||(!(aC a3 0 1048576)))=false→((dD a1 a2 a3)∧((eQ a0 (bU a1 a2 a3))∧(∀ L_0,L_0.Perm ((cC a0 (bU a1 a2 a3)).1)→(okL (cD a0 a1 a2 a3) (gI a0 a1 a2 a3) L_0 ([])∧(∀ s_0,eY (cD a0 a1 a2 a3) L_0 ([])=.inr s_0→((apart bN s_0)∧(((srt bN s_0),0)=(bf a0 a1 a2 a3)))))))))))))
@[go_sem] def lK:List SV→Option Con:=(pD .district fun a0=>(pR .deed fun a1=>(pI fun a2=>(pI fun a3=>(pE (.det (dN a0 a1 a2 a3) (.tup [.nw .holding ((bf a0 a1 a2 a3).1),.v (.int .i64 ((bf a0 a1 a2 a3).2))])))))))
theorem nX:FnOk Tryz.prog 18 lK:=by
 have hG:ConsOk Tryz.prog (mkG [(15,fun l=>ed (dF [.st .district,.sl .deed] l)),(47,g8),(48,fun l=>iZ (dF [.st .district,.o] l)),(49,fun l=>gT (dF [.sl .deed,.o,.o] l))] [(50,nW)]):=aP (cgc (eP.norm [.st .district,.sl .deed]) (cgc iP (cgc (kZ.norm [.st .district,.o]) (cgc (jV.norm [.sl .deed,.o,.o]) cg0)))) (cgc xk cg0)
 refine rF [(.tmp 8,.holding)] mixed aD hG (fn:=Tryz.f18) (c:=ae Tryz.f18) (by kernel_rfl) (by kernel_rfl) (by kernel_rfl) (by kernel_rfl) (ct fun a0=>(fF fun a1=>(dR fun a2=>(dR fun a3=>(bo (fun hp=>?_))))))
 dsimp only[bg]at hp
 unfold dN at hp
 refine⟨Nat.le_of_ble_eq_true rfl,(fun id st=>bif Nat.beq id 0 then some (LCP (τ:=RegisterTitle×Int) (ρ:=Empty) (σ:=(List Holding)) 4 [.slot 8 (.row .holding ([]))] [0,1,2,3,4] (fun left_0 cur_0 s_0=>⟨[(4,.ptr 0 0),(8,.os 4),(41,.ptr 3 0)],[.cells (cellsOf .district a0),.mp .registerTitle .int ((cC a0 (bU a1 a2 a3)).1) (some (3,none)),.dead,.mi (some 1) (((cC a0 (bU a1 a2 a3)).1).length) left_0 cur_0,.row .holding s_0]⟩) (cD a0 a1 a2 a3) (gI a0 a1 a2 a3) ((cC a0 (bU a1 a2 a3)).1) ([]) ((·.elim)) ((·.elim)) (fun s_0=>⟨[(8,.os 4)],[.dead,.dead,.dead,.dead,.row .holding s_0]⟩) st)else none),?_,?_⟩
 ·unfold ae Tryz.f18
  simp only[av,true_and,and_true]
  ·refine EN (di .registerTitle,di .int) 3 mixed aD hG (by kernel_rfl) (fun _=>rfl) fun left_0 cur_0 s_0 hp0=>⟨L0,an _,?_⟩
   ·by_cases hl0:left_0=[]
    ·subst hl0
     simp only[go_sem,Nat.reduceBEq,Nat.reduceLeDiff,Nat.reduceLT,decide_true,Nat.reduceAdd,Nat.reduceSub,Nat.reduceMul,Int.reduceLE,Int.reduceLT,Int.reduceToNat,Int.reduceNeg,reduceCtorEq,List.not_mem_nil]
     all_goals exact vV
    ·simp only[go_sem,Nat.reduceBEq,Nat.reduceLeDiff,Nat.reduceLT,decide_true,Nat.reduceAdd,Nat.reduceSub,Nat.reduceMul,Int.reduceLE,Int.reduceLT,Int.reduceToNat,Int.reduceNeg,reduceCtorEq,hl0]
     intro j hj0
     obtain⟨hlt0,hq0⟩:=hp0 j hj0
     unfold gI at hq0
     all_goals exact vV
 ·unfold ae Tryz.f18
  simp only[go_sem,Nat.reduceBEq,Nat.reduceLeDiff,Nat.reduceLT,decide_true,Nat.reduceAdd,Nat.reduceSub,Nat.reduceMul,Int.reduceLE,Int.reduceLT,Int.reduceToNat,Int.reduceNeg,reduceCtorEq]
  all_goals exact clQ
def ai (d:District)(l_:List Deed)(known:Int):List Int×Int:=(bif((al d l_) !=0)then([],(al d l_))else(bif(!(aC known 0 1048576))then([],1)else((cC d (bU l_ 4096 known)).2,0)))
def fe (d:District)(l_:List Deed)(known:Int):Prop:=((c5 d l_)∧(((al d l_) !=0)=false→((!(aC known 0 1048576))=false→((dD l_ 4096 known)∧(eQ d (bU l_ 4096 known))))))
@[go_sem] def jt:List SV→Option Con:=(pD .district fun d=>(pR .deed fun l_=>(pI fun known=>(pE (.det (fe d l_ known) (.tup [.nw .int ((ai d l_ known).1),.v (.int .i64 ((ai d l_ known).2))]))))))
theorem lE:FnOk Tryz.prog 20 jt:=by
 have hG:ConsOk Tryz.prog (mkG [(15,fun l=>ed (dF [.st .district,.sl .deed] l)),(47,g8),(48,fun l=>iZ (dF [.st .district,.o] l)),(49,fun l=>gT (dF [.sl .deed,.o,.o] l))] []):=aP (cgc (eP.norm [.st .district,.sl .deed]) (cgc iP (cgc (kZ.norm [.st .district,.o]) (cgc (jV.norm [.sl .deed,.o,.o]) cg0)))) cg0
 refine rF [(.tmp 6,.int)] mixed aD hG (fn:=Tryz.f20) (c:=ae Tryz.f20) (by kernel_rfl) (by kernel_rfl) (by kernel_rfl) (by kernel_rfl) (ct fun d=>(fF fun l_=>(dR fun known=>(bo (fun hp=>?_)))))
 dsimp only[bg]at hp
 unfold fe at hp
 refine⟨Nat.le_of_ble_eq_true rfl,L0,an _,?_⟩
 ·unfold ae Tryz.f20
  try unfold ai
  simp only[go_sem,Nat.reduceBEq,Nat.reduceLeDiff,Nat.reduceLT,decide_true,Nat.reduceAdd,Nat.reduceSub,Nat.reduceMul,Int.reduceLE,Int.reduceLT,Int.reduceToNat,Int.reduceNeg,reduceCtorEq]
  all_goals exact cl
end Go.Sx
end
section
namespace Go.Sx
open Go.Proofs
def mv (d:District)(l:List Deed)(hour known:Int):Int→Int→Int:=nV (stS (lJ l hour known)) (B0 d)
def Fz (d:District)(B:Int→Int→Int)(r f:Nat):Option Holding:=if 0<B r f then some { right:=(r:Int),farm:=(f:Int),litres:=B r f,rank:=(d.rights.getD r default).rank}else none
def mw (d:District)(B:Int→Int→Int)(r:Nat):List Holding:=(List.range d.farms.length).filterMap (Fz d B r)
def k9 (d:District)(B:Int→Int→Int):List Holding:=(List.range d.rights.length).flatMap (mw d B)
theorem ky {d:District}{B:Int→Int→Int}{r:Nat}{x:Holding}:x∈mw d B r↔∃ f:Nat,f<d.farms.length∧0<B r f∧x= { right:=(r:Int),farm:=(f:Int),litres:=B r f,rank:=(d.rights.getD r default).rank}:=by
 unfold mw Fz
 rw[List.mem_filterMap]
 constructor
 ·rintro⟨f,hf,h⟩
  rw[List.mem_range]at hf
  split at h
  ·rename_i h0
   exact⟨f,hf,h0,(Option.some.inj h).symm⟩
  ·cases h
 ·rintro⟨f,hf,h0,rfl⟩
  exact⟨f,List.mem_range.2 hf,by rw[if_pos h0]⟩
theorem rK {d:District}{B:Int→Int→Int}{x:Holding}:x∈k9 d B↔0≤x.right∧x.right< (d.rights.length:Int)∧0≤x.farm∧x.farm< (d.farms.length:Int)∧0<x.litres∧x.litres=B x.right x.farm∧x.rank=(d.rights.getD x.right.toNat default).rank:=by
 unfold k9
 rw[List.mem_flatMap]
 constructor
 ·rintro⟨r,hr,hx⟩
  rw[List.mem_range]at hr
  obtain⟨f,hf,h0,rfl⟩:=ky.1 hx
  exact⟨by simp only;omega,by simp only;omega,by simp only;omega,by simp only;omega,h0,rfl,by simp only[Int.toNat_natCast]⟩
 ·rintro⟨a,b,c,e,h0,h1,h2⟩
  refine⟨x.right.toNat,List.mem_range.2 (by omega),ky.2 ⟨x.farm.toNat,by omega,?_,?_⟩⟩
  ·rw[Int.toNat_of_nonneg a,Int.toNat_of_nonneg c];omega
  ·rw[Int.toNat_of_nonneg a,Int.toNat_of_nonneg c,←h1,←h2]
theorem y3:∀ n:Nat,(List.range n).Pairwise (· < ·):=fun n=>List.pairwise_lt_range
theorem qD (d:District)(B:Int→Int→Int):(k9 d B).Pairwise hlt:=by
 unfold k9
 rw[List.pairwise_flatMap]
 refine⟨fun r _=>?_,?_⟩
 ·unfold mw
  rw[List.pairwise_filterMap]
  refine(y3 _).imp fun {a b} hab x hx y hy=>?_
  unfold Fz at hx hy
  split at hx
  ·split at hy
   ·cases hx;cases hy
    exact Or.inr ⟨rfl,Or.inl (by show(a:Int) < (b:Int);omega)⟩
   ·cases hy
  ·cases hx
 ·refine(y3 _).imp fun {a b} hab x hx y hy=>?_
  obtain⟨f,_,_,rfl⟩:=ky.1 hx
  obtain⟨g,_,_,rfl⟩:=ky.1 hy
  simp only[hlt,rC,and_false,or_false];omega
theorem H4 (x:Holding):¬hlt x x:=by simp only[hlt,rC,and_false,or_false];omega
theorem CY {l:List Holding}(h:l.Pairwise hlt):l.Nodup:=h.imp fun {a b} hab e=>by subst e;exact H4 _ hab
theorem y4 {α β:Type}(f:α→List β)(k:Nat):∀ l:List α,(∀ a∈l,(f a).length≤k)→(l.flatMap f).length≤l.length*k
 | [],_=>by simp
 |a::l,h=>by
  have h1:=h a List.mem_cons_self
  have h2:=y4 f k l fun b hb=>h b (List.mem_cons_of_mem _ hb)
  rw[List.flatMap_cons,List.length_append,List.length_cons,Nat.add_mul,Nat.one_mul];omega
theorem CZ {d:District}(hr:Right1 d)(B:Int→Int→Int):(k9 d B).length≤153600:=by
 have h1:=y4 (mw d B) 600 (List.range d.rights.length) fun r _=>Nat.le_trans (List.length_filterMap_le _ _) (by rw[List.length_range];exact hr.farms)
 rw[List.length_range]at h1
 have:=hr.rights
 show((List.range d.rights.length).flatMap (mw d B)).length≤_
 have:d.rights.length*600≤256*600:=Nat.mul_le_mul_right _ this
 omega
def k_ (d:District)(k:RegisterTitle×Int):Option Holding:=if 0<k.2 then some { right:=k.1.right,farm:=k.1.farm,litres:=k.2,rank:=(d.rights.getD (Int.toNat k.1.right) (default:Right)).rank}else none
theorem xl (d:District)(l:List Deed)(h n:Int):∀ (L:BM) (s:List Holding),eY (cD d l h n) L s=.inr (s++L.filterMap (k_ d))
 | [],s=>by simp[eY]
 |k::L,s=>by
  by_cases hk:0<k.2
  ·have e:k_ d k=some { right:=k.1.right,farm:=k.1.farm,litres:=k.2,rank:=(d.rights.getD (Int.toNat k.1.right) (default:Right)).rank}:=by unfold k_;rw[if_pos hk]
   rw[List.filterMap_cons_some e]
   simp only[eY]
   unfold cD
   rw[decide_eq_true (show k.2 > 0 from hk)]
   simp only[cond_true]
   have:=xl d l h n L (s++[{ right:=k.1.right,farm:=k.1.farm,litres:=k.2,rank:=(d.rights.getD (Int.toNat k.1.right) (default:Right)).rank}])
   unfold cD at this
   rw[this,List.append_assoc];rfl
  ·have e:k_ d k=none:=by unfold k_;rw[if_neg hk]
   rw[List.filterMap_cons_none e]
   simp only[eY]
   unfold cD
   rw[decide_eq_false (show ¬k.2 > 0 from hk)]
   simp only[cond_false]
   have:=xl d l h n L s
   unfold cD at this
   exact this
theorem AC (d:District)(l:List Deed)(h n:Int):∀ (L:BM) (s:List Holding),(∀ k∈L,0<k.2→0≤k.1.right∧k.1.right< (d.rights.length:Int))→(s.length+(L.filterMap (k_ d)).length)*32≤iE→okL (cD d l h n) (gI d l h n) L s
 | [],_,_,_=>trivial
 |k::L,s,hk,hB=>by
  by_cases h0:0<k.2
  ·have e:k_ d k=some { right:=k.1.right,farm:=k.1.farm,litres:=k.2,rank:=(d.rights.getD (Int.toNat k.1.right) (default:Right)).rank}:=by unfold k_;rw[if_pos h0]
   rw[List.filterMap_cons_some e,List.length_cons]at hB
   refine⟨fun _=>⟨hk k List.mem_cons_self h0,by rw[List.length_append];simp only[List.length_cons,List.length_nil];omega⟩,fun s' hs=>?_⟩
   unfold cD at hs
   rw[decide_eq_true (show k.2 > 0 from h0)]at hs
   cases hs
   exact AC d l h n L _ (fun q hq=>hk q (List.mem_cons_of_mem _ hq)) (by rw[List.length_append];simp only[List.length_cons,List.length_nil];omega)
  ·have e:k_ d k=none:=by unfold k_;rw[if_neg h0]
   rw[List.filterMap_cons_none e]at hB
   refine⟨fun h=>absurd (of_decide_eq_true h) h0,fun s' hs=>?_⟩
   unfold cD at hs
   rw[decide_eq_false (show ¬k.2 > 0 from h0)]at hs
   cases hs
   exact AC d l h n L _ (fun q hq=>hk q (List.mem_cons_of_mem _ hq)) hB
theorem BN {d:District}{r:Int}(hr:¬ (0≤r∧r< (d.rights.length:Int))):∀ (ds:List Deed) (B:Int→Int→Int),(∀ x∈ds,Fit d x∧x.kind≠4)→nV ds B r=B r
 | [],B,_=>rfl
 |x::ds,B,h=>by
  have h1:=h x List.mem_cons_self
  have h2:=h1.1.held h1.2
  show nV ds (km x B) r=_
  rw[BN hr ds _ fun y hy=>h y (List.mem_cons_of_mem _ hy)]
  unfold km
  rw[if_neg (by omega)]
theorem qE {d:District}{l:List Deed}(h:Deeds d l)(hour known:Int):∀ x∈stS (lJ l hour known),Fit d x∧x.kind≠4:=fun x hx=>by
 have hx:=BE.1 hx
 unfold lJ at hx
 rw[List.mem_filter]at hx
 refine⟨h.fit x hx.1,fun e=>?_⟩
 have:=hx.2
 rw[e]at this
 simp at this
theorem BO (l:List Deed):(stS l).length=l.length:=(ow (gm l)).symm
theorem H5 {α:Type}{a b:List α}(ha:a.Nodup)(hb:b.Nodup)(h:∀ x,x∈a↔x∈b):a.Perm b:=(List.perm_ext_iff_of_nodup ha hb).2 h
theorem C0 {d:District}{l:List Deed}(h:Deeds d l){m:BM}(hm:MapOk d m){hour known:Int}(hb:bk m=mv d l hour known):
  (m.filterMap (k_ d)).Perm (k9 d (mv d l hour known))∧∀ k∈m,0<k.2→0≤k.1.right∧k.1.right< (d.rights.length:Int):=by
 have hget:∀ (t:RegisterTitle) (v:Int),(t,v)∈m→bk m t.right t.farm=v:=fun t v htv=>by
  have:=(un hm.nodup).2 htv
  show(eB m { right:=t.right,farm:=t.farm}).getD _=v
  have e:({ right:=t.right,farm:=t.farm}:RegisterTitle)=t:=rfl
  rw[e,this];rfl
 have hrng:∀ k∈m,0<k.2→0≤k.1.right∧k.1.right< (d.rights.length:Int):=fun k hk h0=>by
  rcases Classical.em (0≤k.1.right∧k.1.right< (d.rights.length:Int))with hr|hr
  ·exact hr
  ·have e:=hget k.1 k.2 hk
   rw[hb]at e
   unfold mv at e
   rw[BN hr _ _ (qE h hour known)]at e
   unfold B0 at e
   rw[if_neg (fun h=>hr ⟨h.1,h.2.1⟩)]at e
   omega
 refine⟨H5 ?_ (CY (qD _ _)) fun x=>?_,hrng⟩
 ·rw[List.Nodup,List.pairwise_filterMap]
  have:m.Pairwise fun a b=>a.1≠b.1:=by
   have:=hm.nodup
   unfold fO at this
   rw[List.Nodup,List.pairwise_map]at this
   exact this
  refine this.imp fun {a b} hab x hx y hy=>?_
  unfold k_ at hx hy
  split at hx
  ·split at hy
   ·cases hx;cases hy
    intro e
    simp only[Holding.mk.injEq]at e
    refine hab ?_
    obtain⟨⟨a1,a2⟩,a3⟩:=a
    obtain⟨⟨b1,b2⟩,b3⟩:=b
    simp only at e
    simp[e.1,e.2.1]
   ·cases hy
  ·cases hx
 ·rw[List.mem_filterMap,rK]
  constructor
  ·rintro⟨k,hk,hx⟩
   unfold k_ at hx
   split at hx
   ·rename_i h0
    cases hx
    have e:=hget k.1 k.2 hk
    obtain⟨a,b⟩:=hrng k hk h0
    obtain⟨L,_,hg⟩:=hm.good k.1.right
    obtain⟨c,f⟩:=hg.sup k.1.farm (by rw[e];omega)
    exact⟨a,b,c,f,h0,by simp only;rw[←hb,e],rfl⟩
   ·cases hx
  ·rintro⟨a,b,c,f,h0,h1,h2⟩
   rw[←hb]at h1
   have h3:eB m (RT x.right x.farm)=some x.litres:=by
    have e:bk m x.right x.farm=(eB m (RT x.right x.farm)).getD 0:=rfl
    cases hg:eB m (RT x.right x.farm)with
    |none=>rw[e,hg]at h1;simp at h1;omega
    |some v=>rw[e,hg]at h1;simp at h1;rw[h1]
   refine⟨(RT x.right x.farm,x.litres),(un hm.nodup).1 h3,?_⟩
   unfold k_
   rw[if_pos h0]
   simp only[Option.some.injEq]
   rw[←h2]
open Go.Shelf Go.Sort in
theorem vW {d:District}{B:Int→Int→Int}{s:List Holding}(h:s.Perm (k9 d B)):apart bN s∧srt bN s=k9 d B:=by
 have e1:∀ x y,ltOf bN x y=true↔hlt x y:=fun x y=>by unfold ltOf;rw[decide_eq_true_eq,uc]
 have e2:∀ x y,ltOf bN x y=false↔¬hlt x y:=fun x y=>by rw[←e1];simp
 have heq:∀ x∈k9 d B,∀ y∈k9 d B,¬hlt x y→¬hlt y x→x=y:=fun x hx y hy h1 h2=>by
  obtain⟨_,_,_,_,_,x1,x2⟩:=rK.1 hx
  obtain⟨_,_,_,_,_,y1,y2⟩:=rK.1 hy
  simp only[hlt,rC,and_false,or_false]at h1 h2
  have q1:x.right=y.right:=by omega
  have q2:x.farm=y.farm:=by omega
  obtain⟨a,b,c,e⟩:=x
  obtain⟨a',b',c',e'⟩:=y
  simp only at q1 q2 x1 x2 y1 y2
  subst q1;subst q2
  rw[x1,x2,y1,y2]
 refine⟨fun x hx y hy h1 h2=>heq x (h.subset hx) y (h.subset hy) ((e2 x y).1 h1) ((e2 y x).1 h2),?_⟩
 unfold srt
 have hp:(s.mergeSort fun x y=>!(ltOf bN y x)).Perm (k9 d B):=(List.mergeSort_perm _ _).trans h
 refine List.Perm.eq_of_pairwise (le:=fun x y=>(!ltOf bN y x)=true) ?_ ?_ ?_ hp
 ·intro x y hx hy h1 h2
  simp only[Bool.not_eq_true']at h1 h2
  exact heq x (hp.subset hx) y hy ((e2 x y).1 h2) ((e2 y x).1 h1)
 ·refine List.pairwise_mergeSort ?_ ?_ s
  ·intro a b c h1 h2
   simp only[Bool.not_eq_true']at h1 h2 ⊢
   exact r8.3 c b a h2 h1
  ·intro a b
   simp only[Bool.or_eq_true,Bool.not_eq_true']
   rcases Classical.em (hlt b a)with hh|hh
   ·refine .inr ((e2 _ _).2 fun h3=>?_)
    simp only[hlt,rC,and_false,or_false]at hh h3;omega
   ·exact .inl ((e2 _ _).2 hh)
 ·refine(qD d B).imp fun {a b} hab=>?_
  simp only[Bool.not_eq_true']
  refine(e2 _ _).2 fun h3=>?_
  simp only[hlt,rC,and_false,or_false]at hab h3;omega
theorem oY (d:District)(l:List Deed)(hour known:Int):dN d l hour known∧
  bf d l hour known=if al d l≠0 then([],al d l)else if 0≤hour∧hour<d.hours∧0≤known∧known≤1048576 then(k9 d (mv d l hour known),0)else([],1):=by
 by_cases hc:al d l=0
 ·have hD:=nU hc
  have hE:=((rI d l).1 hc).1
  have hh:=hD.right.hours
  have hh1:=hD.right.hours1
  have hw:((!(aC hour 0 (IntKind.i64.wrap (d.hours - 1)))) ||(!(aC known 0 1048576)))= !decide (0≤hour∧hour<d.hours∧0≤known∧known≤1048576):=by
   rw[bK (by omega) (by omega),←Bool.not_and]
   congr 1
   rw[Bool.eq_iff_iff,Bool.and_eq_true,pr,pr,decide_eq_true_eq]
   omega
  obtain⟨c1,c2⟩:=sd l hour known hD.len
  have hlen:(stS (lJ l hour known)).length≤512:=by rw[BO];exact Nat.le_trans (List.length_filter_le _ _) hD.len
  obtain⟨f1,m,f2,f3,f4⟩:=vU hE (qE hD hour known) hlen
  obtain⟨p1,p2⟩:=C0 hD f3 (hour:=hour) (known:=known) f4
  have key:∀ L:BM,L.Perm m→(L.filterMap (k_ d)).Perm (k9 d (mv d l hour known)):=fun L hL=>(hL.filterMap _).trans p1
  have val:bf d l hour known=if 0≤hour∧hour<d.hours∧0≤known∧known≤1048576 then(k9 d (mv d l hour known),0)else([],1):=by
   unfold bf
   rw[hc,hw,c2,f2]
   simp only[bne_self_eq_false,cond_false]
   by_cases hg:0≤hour∧hour<d.hours∧0≤known∧known≤1048576
   ·rw[decide_eq_true hg,if_pos hg]
    simp only[Bool.not_true,cond_false]
    rw[xl,List.nil_append]
    simp only
    rw[(vW (key m (List.Perm.refl _))).2]
   ·rw[decide_eq_false hg,if_neg hg];rfl
  refine⟨⟨iX d l,(fun h=>by rw[hc]at h;cases h),fun _=>⟨fun h=>?_,fun h=>?_⟩⟩,by rw[if_neg (by simp[hc])];exact val⟩
  ·rw[hw]at h
   rw[val,if_neg (by simpa only[Bool.not_eq_true',decide_eq_false_iff_not]using h)]
  ·rw[hw]at h
   have hg:0≤hour∧hour<d.hours∧0≤known∧known≤1048576:=by simpa using h
   rw[c2,f2]
   refine⟨c1,f1,fun L hL=>?_⟩
   have hk:=key L hL
   refine⟨AC d l hour known L [] (fun k hk=>p2 k (hL.subset hk)) ?_,fun s hs=>?_⟩
   ·have h1:=hk.length_eq
    have h2:=CZ hD.right (mv d l hour known)
    rw[h1,List.length_nil]
    unfold iE
    omega
   ·rw[xl,List.nil_append]at hs
    cases hs
    obtain⟨s1,s2⟩:=vW hk
    exact⟨s1,by rw[s2,val,if_pos hg]⟩
 ·have hne:(al d l !=0)=true:=by simpa using hc
  have val:bf d l hour known=([],al d l):=by unfold bf;rw[hne];rfl
  refine⟨⟨iX d l,(fun _=>val.symm),fun h=>?_⟩,by rw[if_pos hc];exact val⟩
  rw[hne]at h;cases h
end Go.Sx
end
section
namespace Go.Sx
open Go.Proofs
set_option maxRecDepth 100000
set_option linter.unusedSimpArgs false
def aT:District:=({ name:=(ByteArray.mk #[]),hours:=4,tank:=({ cap:=9,start:=9}:Tank),reaches:=[({ name:=(ByteArray.mk #[]),up:=(-1),delay:=1,cap:=50,bank:=50,siphon:=0,evap:=({ lo:=0,hi:=0}:Range),seep:=(({ n:=0,d:=1}:Ratio),({ n:=0,d:=1}:Ratio))}:Reach)],farms:=[({ name:=(ByteArray.mk #[]),reach:=0,area:=0,crop:=(-1)}:Farm),({ name:=(ByteArray.mk #[]),reach:=0,area:=0,crop:=(-1)}:Farm),({ name:=(ByteArray.mk #[]),reach:=0,area:=0,crop:=(-1)}:Farm)],crops:=[],rights:=[({ name:=(ByteArray.mk #[]),kind:=1,farm:=0,reach:=0,rank:=7,litres:=5,since:=0,to:=3,every:=1,length:=1}:Right)],duties:=[],wells:=[]}:District)
@[go_sem] def oZ:List SV→Option Con:=(pE (.det True (.agg (cellsOf .district (aT)))))
theorem ut:FnOk Tryz.prog 33 oZ:=by
 have hG:ConsOk Tryz.prog (mkG [] []):=aP cg0 cg0
 refine ce [.st .district] mixed aD hG (fn:=Tryz.f33) (c:=ae Tryz.f33) (by kernel_rfl) (by kernel_rfl) (by kernel_rfl) (by kernel_rfl) (bo (fun hp=>?_))
 dsimp only[bg]at hp
 refine⟨Nat.le_of_ble_eq_true rfl,L0,an _,?_⟩
 ·unfold ae Tryz.f33
  try unfold aT
  simp only[go_sem,Nat.reduceBEq,Nat.reduceLeDiff,Nat.reduceLT,decide_true,Nat.reduceAdd,Nat.reduceSub,Nat.reduceMul,Int.reduceLE,Int.reduceLT,Int.reduceToNat,Int.reduceNeg,reduceCtorEq]
  all_goals exact cl
def ix:Ratio:=({ n:=1,d:=2}:Ratio)
@[go_sem] def qF:List SV→Option Con:=(pE (.det True (.agg [.v (.int .i64 ((ix).n)),.v (.int .i64 ((ix).d))])))
theorem uT:FnOk Tryz.prog 34 qF:=by
 have hG:ConsOk Tryz.prog (mkG [] []):=aP cg0 cg0
 refine D7 true mixed aD hG (fn:=Tryz.f34) (c:=ae Tryz.f34) (by kernel_rfl) (by kernel_rfl) (by kernel_rfl) (by kernel_rfl) (bo (fun hp=>?_))
 dsimp only[bg]at hp
 refine⟨Nat.le_of_ble_eq_true rfl,L0,an _,?_⟩
 ·unfold ae Tryz.f34
  try unfold ix
  simp only[go_sem,Nat.reduceBEq,Nat.reduceLeDiff,Nat.reduceLT,decide_true,Nat.reduceAdd,Nat.reduceSub,Nat.reduceMul,Int.reduceLE,Int.reduceLT,Int.reduceToNat,Int.reduceNeg,reduceCtorEq]
  all_goals exact cl
end Go.Sx
end
section
namespace Go.Sx
open Go.RowKit
def FA (n0 id:Nat):Ob→SV
 | .row k l=>bif Nat.ble n0 id then .rs k l else .any
 |_=>.any
def isV:SV→Bool
 | .v _=>true
 |_=>false
def uU (n0:Nat)(h:List Ob):SV→SV
 | .v x=>.v x
 | .rs k l=>.rs k l
 | .agg l=>bif l.all isV then .agg l else .any
 | .os id=>FA n0 id (ag h id)
 |_=>.any
def uV (n0:Nat)(h:List Ob):SV→SV
 | .tup l=>.tup (l.map (uU n0 h))
 |s=>uU n0 h s
def AD (n0:Nat)(own:Own):Own:=fun i=>if i<n0 then own i else none
section
variable {F:Nat→Prop}{own:Own}{w:World}{n0:Nat}{h:List Ob}
theorem qG {b:Nat}(hb:¬bP F own b):¬bP F (AD n0 own) b:=by
 rintro (hf| ⟨id,hd,e,hm⟩)
 ·exact hb (.inl hf)
 ·unfold AD at e
  split at e
  ·exact hb (.inr ⟨id,hd,e,hm⟩)
  ·cases e
theorem y5 (hp:Hp F own w h):∀ (s:SV) (v:Value),Rel F own w s v→Rel F (AD n0 own) w (uU n0 h s) v:=by
 intro s v hr
 cases s with
 |v x=>exact hr.over (.v x) fun b hb=>qG hb
 |rs k l=>exact hr.over .rs fun b hb=>qG hb
 |agg l=>
  simp only[uU]
  cases ha:l.all isV with
  |false=>exact .any _
  |true=>
   refine hr.over (.agg fun j s hj=>?_) fun b hb=>qG hb
   have:=List.all_eq_true.1 ha s (List.mem_of_getElem? hj)
   cases s <;>first|exact .v _|cases this
 |os id=>
  obtain⟨hd,h1,rfl,h2⟩:=eD hr
  simp only[uU]
  cases ho:ag h id with
  |row k l=>
   simp only[FA]
   cases hn:Nat.ble n0 id with
   |false=>exact .any _
   |true=>
    have hn':=Nat.le_of_ble_eq_true hn
    obtain⟨hd',e0,e⟩:=hp.at ho rfl
    rw[h1]at e0;cases e0
    have hnb:∀ b∈hd.bs,¬bP F (AD n0 own) b:=by
     rintro b hb (hf| ⟨i,hi,e1,e2⟩)
     ·exact hp.apart id hd b h1 hb hf
     ·unfold AD at e1
      split at e1
      ·rename_i hlt
       have:=hp.inj id i hd hi b h1 e1 hb e2
       omega
      ·cases e1
    rcases e with⟨a,e1,rfl,_⟩ | ⟨b,o,cap,cs,ty,e1,e2,h3,h4,h5,h6,h7⟩
    ·rw[e1];exact .rs0
    ·rw[e1]
     refine .rs (fun i j=>cs.getD (o+i*aa k+j) undef) h5 h6 (fun i x hi j s hj=>?_) (fun i x hi j s hj=>?_)
     ·obtain⟨u,k1,k2⟩:=h7 i x hi j s hj
      refine⟨hnb b (by simp[e2]),?_⟩
      rw[cJ h3,k1]
      simp[Array.getD_eq_getD_getElem?,k1]
     ·obtain⟨u,k1,k2⟩:=h7 i x hi j s hj
      have:cs.getD (o+i*aa k+j) undef=u:=by simp[Array.getD_eq_getD_getElem?,k1]
      rw[this]
      exact k2.over (jN hj) fun b hb=>qG hb
  |_=>exact .any _
 |_=>exact .any _
theorem FB (hp:Hp F own w h)(s:SV)(v:Value)(hr:Rel F own w s v):Rel F (AD n0 own) w (uV n0 h s) v:=by
 cases s with
 |tup l=>
  cases hr with
  |tup h0 h1=>
   refine .tup (by simpa using h0) fun j s hj=>?_
   obtain⟨x,hx,rfl⟩:=ca hj
   exact y5 hp x _ (h1 j x hx)
 |_=>exact y5 hp _ _ hr
@[go_sem] theorem OZ {l:List SV}:uV n0 h (.tup l)=.tup (l.map (uU n0 h)):=(rfl)
@[go_sem] theorem Qy {id:Nat}:uV n0 h (.os id)=FA n0 id (ag h id):=(rfl)
@[go_sem] theorem Rj {x:Value}:uV n0 h (.v x)=.v x:=(rfl)
@[go_sem] theorem Qz {k:Tag}{l:List k.T}:uV n0 h (.rs k l)=.rs k l:=(rfl)
@[go_sem] theorem O0 {l:List SV}:uV n0 h (.agg l)=bif l.all isV then .agg l else .any:=(rfl)
@[go_sem] theorem Rk {x:Value}:uU n0 h (.v x)=.v x:=(rfl)
@[go_sem] theorem QA {k:Tag}{l:List k.T}:uU n0 h (.rs k l)=.rs k l:=(rfl)
@[go_sem] theorem O1 {l:List SV}:uU n0 h (.agg l)=bif l.all isV then .agg l else .any:=(rfl)
@[go_sem] theorem QB {id:Nat}:uU n0 h (.os id)=FA n0 id (ag h id):=(rfl)
@[go_sem] theorem O2 {k:Tag}{l:List k.T}{id:Nat}:FA n0 id (.row k l)=bif Nat.ble n0 id then .rs k l else .any:=(rfl)
@[go_sem] theorem isV_v {x:Value}:isV (.v x)=true:=(rfl)
end
def FC (pks:List Pk)(n0:Nat)(S:SV)(H:List Ob)(h:List Ob):Option SV→Prop
 |some s=>S=oD pks (uV n0 h s)∧fa ⟨[],H⟩ n0 ⟨[],h⟩
 |none=>False
def IW (pks:List Pk)(n0:Nat)(rs:List ResultVar)(ts:Tis)(S:SV)(H:List Ob):Ex→St→Prop
 | .exit _,_=>False
 | .normal,st=>FC pks n0 S H st.h (jc (im ts st rs))
 | .ret,st=>FC pks n0 S H st.h (jc (im ts st rs))
 | .pan _,_=>False
section
variable {P:Program}{ts:Tis}{G:Cons}{n0:Nat}{S s:SV}{H h:List Ob}{rs:List ResultVar}{st:St}{pks:List Pk}
@[go_sem] theorem M6:FC pks n0 S H h (some s)=(S=oD pks (uV n0 h s)∧fa ⟨[],H⟩ n0 ⟨[],h⟩):=(rfl)
@[go_sem] theorem H6:IW pks n0 rs ts S H .normal st=FC pks n0 S H st.h (jc (im ts st rs)):=(rfl)
@[go_sem] theorem M7:IW pks n0 rs ts S H .ret st=FC pks n0 S H st.h (jc (im ts st rs)):=(rfl)
end
end Go.Sx
end
section
namespace Go.Sx
open Go.RowKit
def H7 (h:List Ob):Option Con→Option HCon
 |some (.det p s) =>some (dJ p (uV 0 (aB 3 s) (eh 3 0 s)) (h.map fun _=>.dead))
 |_=>none
def FD (C:List SV→Option Con)(l:List SV)(h:List Ob):Option HCon:=H7 h (C (l.map (dl h 6)))
@[go_sem] theorem QC {C:List SV→Option Con}{l:List SV}{h:List Ob}:FD C l h=H7 h (C (l.map (dl h 6))):=(rfl)
@[go_sem] theorem O3 {h:List Ob}{p:Prop}{s:SV}:H7 h (some (.det p s))=some (dJ p (uV 0 (aB 3 s) (eh 3 0 s)) (h.map fun _=>.dead)):=(rfl)
section
variable {P:Program}{F:Nat→Prop}{own:Own}{w w':World}
def FE (own:Own):Own:=fun i=>(own i).map fun hd=>{ hd with bs:=[]}
theorem H8 {b:Nat}(hb:¬F b):¬bP F (FE own) b:=by
 rintro (hf| ⟨id,hd,e,hm⟩)
 ·exact hb hf
 ·unfold FE at e
  cases h:own id with
  |none=>rw[h]at e;cases e
  |some x=>rw[h]at e;cases e;cases hm
theorem FnOk.eat {f:FuncId}{C:List SV→Option Con}(hf:FnOk P f C):FnOkO P f (FD C) where
 enter:=fun l h c e=>by
  unfold FD at e
  cases hc:C (l.map (dl h 6))with
  |none=>rw[hc]at e;cases e
  |some c'=>exact hf.enter _ c' hc
 calls:=fun l h c e hp F own w vs hH hr=>by
  unfold FD at e
  cases hc:C (l.map (dl h 6))with
  |none=>rw[hc]at e;cases e
  |some c'=>
   rw[hc]at e
   cases c' with
   |det p s=>
    simp only[H7,Option.some.injEq]at e
    subst e
    have n0:∀ {F':Nat→Prop} {w1:World},(∀ b,F' b→b<w1.heap.size)→Hp F' cg w1 []:=fun hf=>⟨(fun id hd h=>by cases h),hf,(fun id hd b h=>by cases h),(fun i j hi hj b h=>by cases h),(fun id hd b h=>by cases h),(fun id h=>by cases h)⟩
    have hE:∀ {id:Nat} {hd:Hd},FE own id=some hd→hd.bs=[]∧id<h.length:=fun {id hd} h=>by
     unfold FE at h
     cases ho:own id with
     |none=>rw[ho]at h;cases h
     |some x=>rw[ho]at h;cases h;exact⟨rfl,hH.dom id x ho⟩
    refine(hf.calls _ _ hc hp F w vs hH.foreign ⟨by simpa using hr.1,fun j s hj=>?_⟩).mono ?_
    ·obtain⟨x,hx,rfl⟩:=ca hj
     exact og hH 6 x _ (hr.2 j x hx)
    ·rintro e w' (⟨s',u,own',h1,h2,h3,h4⟩ | ⟨x,hx,_⟩)
     ·cases h1
      obtain⟨own2,q1,q2,q3,q4⟩:=rf (n0 hH.foreign) (.inl fun b=>⟨fun h=>.inl h,fun h=>h.elim id fun⟨_,_,h,_⟩ =>by cases h⟩) h4 h3
      have q5:=FB (n0:=0) q1 _ _ q3
      refine⟨(),FE own,trivial,⟨u,h2,?_⟩,?_,?_,by simp⟩
      ·refine q5.carry ⟨fun id hd h=>by simp[AD]at h,fun b _ hb=>⟨H8 fun hf=>hb (.inl hf),rfl⟩⟩
      ·refine⟨fun id hd h=>by rw[List.length_map];exact(hE h).2,fun b hb=>Nat.lt_of_lt_of_le (hH.foreign b hb) h4.size,fun id hd b h hm=>?_,fun i j hi hj b h _ hm=>?_,fun id hd b h hm=>?_,fun id hd=>?_⟩
       ·rw[(hE h).1]at hm;cases hm
       ·rw[(hE h).1]at hm;cases hm
       ·rw[(hE h).1]at hm;cases hm
       ·rw[jy,List.getElem?_map]at hd
        cases ho:h[id]? <;>rw[ho]at hd <;>simp[b7]at hd
      ·refine⟨fun id hd h=>?_,fun id hd b h hm=>?_,h4.os,h4.tape,h4.output,h4.size,fun k hk=>h4.block k hk.1⟩
       ·exact⟨{ hd with bs:=[]},by show(own id).map _=_;rw[show own id=some hd from h];rfl,rfl,rfl,rfl⟩
       ·rw[(hE h).1]at hm;cases hm
     ·cases hx
   |_=>cases e
end
end Go.Sx
end
section
namespace Go.Sx
open Go.Proofs
set_option maxRecDepth 100000
set_option linter.unusedSimpArgs false
def gu:=({ no:=5,kind:=4,right:=0,since:=0,to:=0,parts:=[],of_:=3,at_:=0,known:=9}:Deed)
def ff:=([({ no:=1,kind:=3,right:=0,since:=2,to:=0,parts:=[],of_:=0,at_:=0,known:=0}:Deed)])
def eo:=(ai aT ff 0)
def er:=(eo.1)
def et:=(er.length:Int)
def ez:=({ no:=3,kind:=2,right:=0,since:=0,to:=0,parts:=[({ farm:=1,share:=ix}:Part),({ farm:=2,share:=ix}:Part)],of_:=0,at_:=1,known:=2}:Deed)
def fg:=([ez])
def fh:=(iQ aT fg gu)
def bv:=(fh.1)
def cT:=(bv.length:Int)
def fj:=(bv.getD 1 (default:Deed))
def fl:=(bf aT bv 1 9)
def fm:=(bf aT bv 1 2)
def fo:=(bf aT bv 0 2)
def dW:=(fm.1)
def fq:=(fl.1)
def ft:=(fo.1)
def eV:=(fq.length:Int)
def eb:=(dW.length:Int)
def eW:=(ft.length:Int)
def cW:=(dW.getD 1 (default:Holding))
def b9:=(dW.getD 0 (default:Holding))
def br:=(fq.getD 0 (default:Holding))
def aU:=(ft.getD 0 (default:Holding))
def h_:=(iQ aT bv ez)
def jE:=((bv.take (Int.toNat cT)).drop 1)
def fR:=(al aT jE)
def ju:Bool:=(bif((((((((((((fh.2 !=0) ||(h_.2 !=171)) ||(fo.2 !=0)) ||(fm.2 !=0)) ||(fl.2 !=0)) ||((bf aT ([]) 4 0).2 !=1)) ||(eo.2 !=0)) ||(cT !=2)) ||(eW !=1)) ||(eb !=2)) ||(eV !=1)) ||(et !=1))then false else(bif((fR !=250) ||(fj.no !=5))then false else((((((aU.right==0)&&((aU.farm==0)&&((aU.litres==5)&&(aU.rank==7))))&&((br.right==0)&&((br.farm==0)&&((br.litres==5)&&(br.rank==7)))))&&((b9.right==0)&&((b9.farm==1)&&((b9.litres==3)&&(b9.rank==7)))))&&((cW.right==0)&&((cW.farm==2)&&((cW.litres==2)&&(cW.rank==7)))))&&((er.getD 0 (0:Int)) ==1))))
def i0:Prop:=((fc aT fg gu)∧((fc aT bv ez)∧((dN aT bv 0 2)∧((dN aT bv 1 2)∧((dN aT bv 1 9)∧((dN aT ([]) 4 0)∧((fe aT ff 0)∧(((((((((((((fh.2 !=0) ||(h_.2 !=171)) ||(fo.2 !=0)) ||(fm.2 !=0)) ||(fl.2 !=0)) ||((bf aT ([]) 4 0).2 !=1)) ||(eo.2 !=0)) ||(cT !=2)) ||(eW !=1)) ||(eb !=2)) ||(eV !=1)) ||(et !=1))=false→((0≤1∧1≤cT∧cT≤cT)∧((c5 aT jE)∧(((fR !=250)=false→(0≤1∧1<cT))∧(((fR !=250) ||(fj.no !=5))=false→((0≤0∧0<eW)∧((((aU.right==0)&&((aU.farm==0)&&((aU.litres==5)&&(aU.rank==7))))=true→(0≤0∧0<eV))∧(((((aU.right==0)&&((aU.farm==0)&&((aU.litres==5)&&(aU.rank==7))))&&((br.right==0)&&((br.farm==0)&&((br.litres==5)&&(br.rank==7)))))=true→(0≤0∧0<eb))∧((((((aU.right==0)&&((aU.farm==0)&&((aU.litres==5)&&(aU.rank==7))))&&((br.right==0)&&((br.farm==0)&&((br.litres==5)&&(br.rank==7)))))&&((b9.right==0)&&((b9.farm==1)&&((b9.litres==3)&&(b9.rank==7)))))=true→(0≤1∧1<eb))∧((((((aU.right==0)&&((aU.farm==0)&&((aU.litres==5)&&(aU.rank==7))))&&((br.right==0)&&((br.farm==0)&&((br.litres==5)&&(br.rank==7)))))&&((b9.right==0)&&((b9.farm==1)&&((b9.litres==3)&&(b9.rank==7)))))&&((cW.right==0)&&((cW.farm==2)&&((cW.litres==2)&&(cW.rank==7)))))=true→(0≤0∧0<et))))))))))))))))))
@[go_sem] def qH:List SV→Option Con:=(pE (.det (i0) (.v (.bool (ju)))))
theorem uW:FnOk Tryz.prog 11 qH:=by
 have hG:ConsOk Tryz.prog (mkG [(13,fun l=>kW (dF [.st .district,.sl .deed,.st .deed] l)),(15,fun l=>ed (dF [.st .district,.sl .deed] l)),(18,fun l=>lK (dF [.st .district,.sl .deed,.o,.o] l)),(20,fun l=>jt (dF [.st .district,.sl .deed,.o] l)),(33,oZ),(34,qF)] [(13,FD (fun l=>kW (dF [.st .district,.sl .deed,.st .deed] l)))]):=aP (cgc (nb.norm [.st .district,.sl .deed,.st .deed]) (cgc (eP.norm [.st .district,.sl .deed]) (cgc (nX.norm [.st .district,.sl .deed,.o,.o]) (cgc (lE.norm [.st .district,.sl .deed,.o]) (cgc ut (cgc uT cg0)))))) (cgc (FnOk.eat (nb.norm [.st .district,.sl .deed,.st .deed])) cg0)
 refine ce [.o] mixed aD hG (fn:=Tryz.f11) (c:=ae Tryz.f11) (by kernel_rfl) (by kernel_rfl) (by kernel_rfl) (by kernel_rfl) (bo (fun hp=>?_))
 dsimp only[bg]at hp
 unfold i0 at hp
 try simp only[gu,ff,eo,er,et,ez,fg,fh,bv,cT,fj,fl,fm,fo,dW,fq,ft,eV,eb,eW,cW,b9,br,aU,h_,jE,fR]at hp
 refine⟨Nat.le_of_ble_eq_true rfl,L0,an _,?_⟩
 ·unfold ae Tryz.f11
  try unfold ju
  simp (maxSteps:=1000000) only[go_sem,Nat.reduceBEq,Nat.reduceLeDiff,Nat.reduceLT,decide_true,Nat.reduceAdd,Nat.reduceSub,Nat.reduceMul,Int.reduceLE,Int.reduceLT,Int.reduceToNat,Int.reduceNeg,reduceCtorEq,gu,ff,eo,er,et,ez,fg,fh,bv,cT,fj,fl,fm,fo,dW,fq,ft,eV,eb,eW,cW,b9,br,aU,h_,jE,fR]
  all_goals exact cl
end Go.Sx
end
section
namespace Go.Sx
open Go.Proofs
set_option maxRecDepth 100000
theorem qI (d:District)(l:List Deed)(known:Int):fe d l known∧
  ai d l known=if al d l≠0 then([],al d l)else if 0≤known∧known≤1048576 then(nT (ur (stS (lJ l 4096 known)) (B0 d)),0)else([],1):=by
 by_cases hc:al d l=0
 ·have hD:=nU hc
  have hE:=((rI d l).1 hc).1
  have hw:(!(aC known 0 1048576))= !decide (0≤known∧known≤1048576):=by
   congr 1
   rw[Bool.eq_iff_iff,pr,decide_eq_true_eq]
  obtain⟨c1,c2⟩:=sd l 4096 known hD.len
  have hlen:(stS (lJ l 4096 known)).length≤512:=by rw[BO];exact Nat.le_trans (List.length_filter_le _ _) hD.len
  obtain⟨f1,m,f2,f3,f4⟩:=vU hE (qE hD 4096 known) hlen
  refine⟨⟨iX d l,fun _ _=>⟨c1,by rw[c2];exact f1⟩⟩,?_⟩
  unfold ai
  rw[if_neg (by simp[hc]),hc,hw,c2,f2]
  simp only[bne_self_eq_false,cond_false]
  by_cases hg:0≤known∧known≤1048576
  ·rw[decide_eq_true hg,if_pos hg];rfl
  ·rw[decide_eq_false hg,if_neg hg];rfl
 ·have hne:(al d l !=0)=true:=by simpa using hc
  refine⟨⟨iX d l,(fun h=>by rw[hne]at h;cases h)⟩,?_⟩
  rw[if_pos hc]
  unfold ai;rw[hne];rfl
theorem KX (a:Deed)(n:Int):decide (dU a n<0)=decide (a.no<n):=by
 unfold dU
 rw[lB]
 by_cases h:a.no<n
 ·simp[h]
 ·by_cases h2:a.no > n <;>simp[h,h2]
theorem KY (a:Deed)(n:Int):(dU a n==0)=decide (a.no=n):=by
 unfold dU
 rw[lB]
 by_cases h:a.no<n
 ·have:¬a.no=n:=by omega
  simp[h,this]
 ·by_cases h2:a.no > n
  ·have:¬a.no=n:=by omega
   simp[h,h2,this]
  ·have:a.no=n:=by omega
   simp[this]
theorem FF {l:List Deed}(h:Asc l){i j:Nat}(h1:i<j)(h2:j<l.length):(l.getD i default).no< (l.getD j default).no:=by
 rw[mP l _ (by omega),mP l _ h2]
 exact List.pairwise_iff_getElem.1 h i j (by omega) h2 h1
theorem IX {l:List Deed}(hA:Asc l)(hl:l.length≤4096)(n:Int):bA l n∧∃ q:Nat,q≤l.length∧aq l n=((q:Int),decide (q<l.length∧(l.getD q default).no=n))∧(∀ i,i<q→(l.getD i default).no<n)∧∀ i,q≤i→i<l.length→n≤(l.getD i default).no:=by
 obtain⟨s1,r,s2,q,rfl,q1,q2,q3,q4⟩:=xb (step:=am l n) (p:=aF l n) (fun h=>decide ((l.getD h default).no<n)) 0 l.length (Nat.zero_le _)
  (fun i j h1 h2 h3 h4=>by
   simp only[decide_eq_true_eq]at h4 ⊢
   rcases Nat.eq_or_lt_of_le h2 with rfl|h2
   ·exact h4
   ·have:=FF hA h2 h3;omega)
  (fun k i j h1 h2 h3=>by
   have e:decide ((i:Int) < (j:Int))=true:=by rw[decide_eq_true_eq];omega
   unfold aF am
   simp only[yO (i:=i) (j:=j) (by omega) (by omega),e,cond_true,Int.toNat_natCast,KX]
   have w2:IntKind.i64.wrap ((((i+j) / 2:Nat):Int)+1)=(((i+j) / 2+1:Nat):Int):=by rw[bK (by omega) (by omega)];omega
   rw[w2]
   exact⟨fun _=>by omega,rfl⟩)
  (fun k i=>by
   have e:decide ((i:Int) < (i:Int))=false:=by simp
   unfold aF am
   simp only[e,cond_false]
   exact⟨fun h=>by simp at h,trivial⟩) (l.length+1) 0 (by omega)
 have s2':aA (am l n) (l.length+1) 0 (0,(l.length:Int))=.inl (q:Int):=s2
 refine⟨fun _=>⟨s1,(fun z h=>by rw[s2']at h;cases h),fun x hx h=>?_⟩,q,q2,?_,fun i hi=>?_,fun i h1 h2=>?_⟩
 ·rw[s2']at hx;cases hx
  rw[decide_eq_true_eq]at h
  omega
 ·unfold aq
  rw[s2']
  simp only[Int.toNat_natCast,KY]
  rw[Prod.mk.injEq]
  refine⟨rfl,?_⟩
  rw[Bool.eq_iff_iff,Bool.and_eq_true,decide_eq_true_eq,decide_eq_true_eq,decide_eq_true_eq]
  omega
 ·simpa using q3 i (Nat.zero_le _) hi
 ·have:=q4 i h1 h2
  simp only[decide_eq_false_iff_not]at this
  omega
abbrev exS:Deed:= { no:=3,kind:=2,right:=0,since:=0,to:=0,parts:=[{ farm:=1,share:=ix},{ farm:=2,share:=ix}],of_:=0,at_:=1,known:=2}
abbrev exV:Deed:= { no:=5,kind:=4,right:=0,since:=0,to:=0,parts:=[],of_:=3,at_:=0,known:=9}
theorem e19:fh=([exS,exV],0):=by kernel_rfl
theorem e18:bv=[exS,exV]:=by kernel_rfl
theorem e2:h_=([],171):=by kernel_rfl
theorem eC:al aT [exS,exV]=0:=by kernel_rfl
theorem eH (hour known:Int)(L:List Holding)(h1:decide (0≤hour∧hour<aT.hours∧0≤known∧known≤1048576)=true)(h2:k9 aT (mv aT [exS,exV] hour known)=L):bf aT bv hour known=(L,0):=by
 rw[e18,(oY _ _ _ _).2,if_neg (by rw[eC];decide),if_pos (of_decide_eq_true h1),h2]
theorem e13:fo=([{ right:=0,farm:=0,litres:=5,rank:=7}],0):=eH 0 2 _ (by kernel_rfl) (by kernel_rfl)
theorem e14:fm=([{ right:=0,farm:=1,litres:=3,rank:=7},{ right:=0,farm:=2,litres:=2,rank:=7}],0):=eH 1 2 _ (by kernel_rfl) (by kernel_rfl)
theorem e15:fl=([{ right:=0,farm:=0,litres:=5,rank:=7}],0):=eH 1 9 _ (by kernel_rfl) (by kernel_rfl)
theorem eN:bf aT [] 4 0=([],1):=by
 have hc:al aT []=0:=by kernel_rfl
 rw[(oY _ _ _ _).2,if_neg (by rw[hc];decide),if_neg (of_decide_eq_false (by kernel_rfl))]
theorem e24:eo=([1],0):=by
 have hc:al aT ff=0:=by kernel_rfl
 have he:ur (stS (lJ ff 4096 0)) (B0 aT)=[1]:=by kernel_rfl
 unfold eo
 rw[(qI _ _ _).2,if_neg (by rw[hc];decide),if_pos (by decide),he]
 simp[nT]
theorem e0:fR=250:=by kernel_rfl
theorem e7:eW=1:=by unfold eW ft;rw[e13];rfl
theorem e8:eb=2:=by unfold eb dW;rw[e14];rfl
theorem e9:eV=1:=by unfold eV fq;rw[e15];rfl
theorem e17:cT=2:=by unfold cT;rw[e18];rfl
theorem e22:et=1:=by unfold et er;rw[e24];rfl
theorem e3':aU= { right:=0,farm:=0,litres:=5,rank:=7}:=by unfold aU ft;rw[e13];rfl
theorem e4':br= { right:=0,farm:=0,litres:=5,rank:=7}:=by unfold br fq;rw[e15];rfl
theorem e5':b9= { right:=0,farm:=1,litres:=3,rank:=7}:=by unfold b9 dW;rw[e14];rfl
theorem e6':cW= { right:=0,farm:=2,litres:=2,rank:=7}:=by unfold cW dW;rw[e14];rfl
theorem e16:fj=exV:=by unfold fj;rw[e18];rfl
theorem e23:er=[1]:=by unfold er;rw[e24]
theorem KZ:ju=true:=by
 unfold ju
 rw[e19,e2,e13,e14,e15,eN,e24,e17,e7,e8,e9,e22,e0,e16,e3',e4',e5',e6',e23]
 rfl
theorem K1:fc aT fg gu:=by
 refine⟨iX _ _,fun _=>?_⟩
 have hA:Asc fg:=List.pairwise_singleton _ _
 refine⟨(IX hA (by decide) _).1,fun _=>⟨by decide,by kernel_rfl,?_,iX _ _⟩⟩
 unfold bG
 exact⟨by decide,fun _ _ _=>by decide⟩
theorem K2:fc aT bv ez:=by
 refine⟨iX _ _,fun _=>?_⟩
 have hA:Asc bv:=by rw[e18];exact(nU eC).asc
 refine⟨(IX hA (by rw[e18];decide) _).1,fun h=>?_⟩
 have:(aq bv ez.no).2=true:=by kernel_rfl
 rw[this]at h;cases h
theorem AE:i0:=by
 unfold i0
 refine⟨K1,K2,(oY _ _ _ _).1,(oY _ _ _ _).1,(oY _ _ _ _).1,(oY _ _ _ _).1,(qI _ _ _).1,fun _=>?_⟩
 rw[e17,e7,e8,e9]
 simp[iX,e22]
end Go.Sx
end
section
namespace Go.Sx
open Go.Proofs
set_option maxRecDepth 100000
set_option linter.unusedSimpArgs false
@[go_sem] def i6 (a0:Deed)(a1:Deed)(k_0:Nat)(s_0:Unit):Unit⊕Unit:=(bif(!(((a0.parts.getD k_0 (default:Part)).farm==(a1.parts.getD k_0 (default:Part)).farm)&&(((a0.parts.getD k_0 (default:Part)).share.n==(a1.parts.getD k_0 (default:Part)).share.n)&&((a0.parts.getD k_0 (default:Part)).share.d==(a1.parts.getD k_0 (default:Part)).share.d))))then .inl ()else .inr ())
def gX (a0:Deed)(a1:Deed)(k_0:Nat)(s_0:Unit):Prop:=(a0.parts.length≤b_→(0≤(k_0:Int)∧(k_0:Int) < (a1.parts.length:Int)))
def la (a0:Deed)(a1:Deed):Bool:=(bif(((((((((a0.no !=a1.no) ||(a0.kind !=a1.kind)) ||(a0.right !=a1.right)) ||(a0.since !=a1.since)) ||(a0.to !=a1.to)) ||(a0.of_ !=a1.of_)) ||(a0.at_ !=a1.at_)) ||(a0.known !=a1.known)) ||((a0.parts.length:Int) !=(a1.parts.length:Int)))then false else(match aA (i6 a0 a1) a0.parts.length 0 ()with| .inl x_0_0=>false| .inr s_0=>true))
def jv (a0:Deed)(a1:Deed):Prop:=((((((((((a0.no !=a1.no) ||(a0.kind !=a1.kind)) ||(a0.right !=a1.right)) ||(a0.since !=a1.since)) ||(a0.to !=a1.to)) ||(a0.of_ !=a1.of_)) ||(a0.at_ !=a1.at_)) ||(a0.known !=a1.known)) ||((a0.parts.length:Int) !=(a1.parts.length:Int)))=false→okI (i6 a0 a1) (gX a0 a1) a0.parts.length 0 ())
@[go_sem] def my:List SV→Option Con:=(pD .deed fun a0=>(pD .deed fun a1=>(pE (.det (jv a0 a1) (.v (.bool (la a0 a1)))))))
theorem qJ:FnOk Tryz.prog 30 my:=by
 have hG:ConsOk Tryz.prog (mkG [] []):=aP cg0 cg0
 refine ce [.o] mixed aD hG (fn:=Tryz.f30) (c:=ae Tryz.f30) (by kernel_rfl) (by kernel_rfl) (by kernel_rfl) (by kernel_rfl) (ct fun a0=>(ct fun a1=>(bo (fun hp=>?_))))
 dsimp only[bg]at hp
 unfold jv at hp
 refine⟨Nat.le_of_ble_eq_true rfl,(fun id st=>bif Nat.beq id 0 then some (LCR (ρ:=Unit) (σ:=Unit) 2 [] [0,1] (fun k_0 s_0=>⟨[(2,.ptr 0 0),(3,.ptr 1 0),(5,.v (.int .i64 (k_0:Int)))],[.cells (cellsOf .deed a0),.cells (cellsOf .deed a1)]⟩) (i6 a0 a1) (gX a0 a1) a0.parts.length () (True) (fun _=>.ret) (fun x_0_0=>⟨[(4,.v (.bool false))],[.dead,.dead]⟩) st)else none),?_,?_⟩
 ·unfold ae Tryz.f30
  simp only[av,true_and,and_true]
  ·refine ql (a0.parts.length≤b_) mixed aD hG (by kernel_rfl) (fun _=>rfl) (a0.parts.length:Int) rfl lH (fun hb0 k_0 s_0 hlt0 hq0 hw hc=>⟨L0,an _,?_⟩) (fun hb0 s_0 hc=>?_) fun hb0 k_0 s_0=>?_
   ·unfold gX at hq0
    try simp only[hw,Int.toNat_natCast]at hq0
    exact qr
   ·exact qs
   ·simp only[go_sem,Nat.reduceBEq,Nat.reduceLeDiff,Nat.reduceLT,decide_true,Nat.reduceAdd,Nat.reduceSub,Nat.reduceMul,Int.reduceLE,Int.reduceLT,Int.reduceToNat,Int.reduceNeg,reduceCtorEq,hb0]
 ·unfold ae Tryz.f30
  try unfold la
  simp only[go_sem,Nat.reduceBEq,Nat.reduceLeDiff,Nat.reduceLT,decide_true,Nat.reduceAdd,Nat.reduceSub,Nat.reduceMul,Int.reduceLE,Int.reduceLT,Int.reduceToNat,Int.reduceNeg,reduceCtorEq]
  all_goals exact cl
@[go_sem] def lL (a:List Deed)(b:List Deed)(k_0:Nat)(s_0:Unit):Unit⊕Unit:=(bif(!(la (a.getD k_0 (default:Deed)) (b.getD k_0 (default:Deed))))then .inl ()else .inr ())
def kf (a:List Deed)(b:List Deed)(k_0:Nat)(s_0:Unit):Prop:=(a.length≤b_→((0≤(k_0:Int)∧(k_0:Int) < (b.length:Int))∧(jv (a.getD k_0 (default:Deed)) (b.getD k_0 (default:Deed)))))
def uu (a:List Deed)(b:List Deed):Bool:=(bif((a.length:Int) !=(b.length:Int))then false else(match aA (lL a b) a.length 0 ()with| .inl x_0_0=>false| .inr s_0=>true))
def qK (a:List Deed)(b:List Deed):Prop:=(a.length≤b_→(b.length≤b_→(((a.length:Int) !=(b.length:Int))=false→okI (lL a b) (kf a b) a.length 0 ())))
@[go_sem] def xm:List SV→Option Con:=(pR .deed fun a=>(pR .deed fun b=>(pE (.det (qK a b) (.v (.bool (uu a b)))))))
theorem FX:FnOk Tryz.prog 17 xm:=by
 have hG:ConsOk Tryz.prog (mkG [(30,fun l=>my (dF [.st .deed,.st .deed] l))] []):=aP (cgc (qJ.norm [.st .deed,.st .deed]) cg0) cg0
 refine ce [.o] mixed aD hG (fn:=Tryz.f17) (c:=ae Tryz.f17) (by kernel_rfl) (by kernel_rfl) (by kernel_rfl) (by kernel_rfl) (fF fun a=>(fF fun b=>(bo (fun hp=>?_))))
 dsimp only[bg]at hp
 unfold qK at hp
 refine⟨Nat.le_of_ble_eq_true rfl,(fun id st=>bif Nat.beq id 0 then some (LCR (ρ:=Unit) (σ:=Unit) 0 [] [] (fun k_0 s_0=>⟨[(0,.rs .deed a),(1,.rs .deed b),(5,.v (.int .i64 (k_0:Int)))],[]⟩) (lL a b) (kf a b) a.length () (True) (fun _=>.ret) (fun x_0_0=>⟨[(4,.v (.bool false))],[]⟩) st)else none),?_,?_⟩
 ·unfold ae Tryz.f17
  simp only[av,true_and,and_true]
  ·refine ql (a.length≤b_) mixed aD hG (by kernel_rfl) (fun _=>rfl) (a.length:Int) rfl lH (fun hb0 k_0 s_0 hlt0 hq0 hw hc=>⟨L0,an _,?_⟩) (fun hb0 s_0 hc=>?_) fun hb0 k_0 s_0=>?_
   ·unfold kf at hq0
    try simp only[hw,Int.toNat_natCast]at hq0
    exact mg
   ·exact mh
   ·simp only[go_sem,Nat.reduceBEq,Nat.reduceLeDiff,Nat.reduceLT,decide_true,Nat.reduceAdd,Nat.reduceSub,Nat.reduceMul,Int.reduceLE,Int.reduceLT,Int.reduceToNat,Int.reduceNeg,reduceCtorEq,hb0]
 ·unfold ae Tryz.f17
  try unfold uu
  simp only[go_sem,Nat.reduceBEq,Nat.reduceLeDiff,Nat.reduceLT,decide_true,Nat.reduceAdd,Nat.reduceSub,Nat.reduceMul,Int.reduceLE,Int.reduceLT,Int.reduceToNat,Int.reduceNeg,reduceCtorEq]
  all_goals exact cl
@[go_sem] def dK (a:List Holding)(b:List Holding)(k_0:Nat)(s_0:Unit):Unit⊕Unit:=(bif(!(((a.getD k_0 (default:Holding)).right==(b.getD k_0 (default:Holding)).right)&&(((a.getD k_0 (default:Holding)).farm==(b.getD k_0 (default:Holding)).farm)&&(((a.getD k_0 (default:Holding)).litres==(b.getD k_0 (default:Holding)).litres)&&((a.getD k_0 (default:Holding)).rank==(b.getD k_0 (default:Holding)).rank)))))then .inl ()else .inr ())
def fu (a:List Holding)(b:List Holding)(k_0:Nat)(s_0:Unit):Prop:=(a.length≤b_→(0≤(k_0:Int)∧(k_0:Int) < (b.length:Int)))
def eA (a:List Holding)(b:List Holding):Bool:=(bif((a.length:Int) !=(b.length:Int))then false else(match aA (dK a b) a.length 0 ()with| .inl x_0_0=>false| .inr s_0=>true))
def eS (a:List Holding)(b:List Holding):Prop:=(a.length≤b_→(b.length≤b_→(((a.length:Int) !=(b.length:Int))=false→okI (dK a b) (fu a b) a.length 0 ())))
@[go_sem] def jZ:List SV→Option Con:=(pR .holding fun a=>(pR .holding fun b=>(pE (.det (eS a b) (.v (.bool (eA a b)))))))
theorem nk:FnOk Tryz.prog 22 jZ:=by
 have hG:ConsOk Tryz.prog (mkG [] []):=aP cg0 cg0
 refine ce [.o] mixed aD hG (fn:=Tryz.f22) (c:=ae Tryz.f22) (by kernel_rfl) (by kernel_rfl) (by kernel_rfl) (by kernel_rfl) (fF fun a=>(fF fun b=>(bo (fun hp=>?_))))
 dsimp only[bg]at hp
 unfold eS at hp
 refine⟨Nat.le_of_ble_eq_true rfl,(fun id st=>bif Nat.beq id 0 then some (LCR (ρ:=Unit) (σ:=Unit) 0 [] [] (fun k_0 s_0=>⟨[(0,.rs .holding a),(1,.rs .holding b),(5,.v (.int .i64 (k_0:Int)))],[]⟩) (dK a b) (fu a b) a.length () (True) (fun _=>.ret) (fun x_0_0=>⟨[(4,.v (.bool false))],[]⟩) st)else none),?_,?_⟩
 ·unfold ae Tryz.f22
  simp only[av,true_and,and_true]
  ·refine ql (a.length≤b_) mixed aD hG (by kernel_rfl) (fun _=>rfl) (a.length:Int) rfl lH (fun hb0 k_0 s_0 hlt0 hq0 hw hc=>⟨L0,an _,?_⟩) (fun hb0 s_0 hc=>?_) fun hb0 k_0 s_0=>?_
   ·unfold fu at hq0
    try simp only[hw,Int.toNat_natCast]at hq0
    exact mg
   ·exact mh
   ·simp only[go_sem,Nat.reduceBEq,Nat.reduceLeDiff,Nat.reduceLT,decide_true,Nat.reduceAdd,Nat.reduceSub,Nat.reduceMul,Int.reduceLE,Int.reduceLT,Int.reduceToNat,Int.reduceNeg,reduceCtorEq,hb0]
 ·unfold ae Tryz.f22
  try unfold eA
  simp only[go_sem,Nat.reduceBEq,Nat.reduceLeDiff,Nat.reduceLT,decide_true,Nat.reduceAdd,Nat.reduceSub,Nat.reduceMul,Int.reduceLE,Int.reduceLT,Int.reduceToNat,Int.reduceNeg,reduceCtorEq]
  all_goals exact cl
@[go_sem] def qL (l_:List Deed)(k_0:Nat)(s_0:Unit):Unit⊕Unit:=(bif(decide ((((l_.getD k_0 (default:Deed)).parts).length:Int) > 100))then .inl ()else .inr ())
def mz (d:District)(l_:List Deed):Bool:=(bif((decide ((l_.length:Int) > 512))&&(decide ((l_.length:Int)≤700)))then(oj d)else(bif((((decide ((l_.length:Int) > 60)) ||(!(oj d))) ||((decide ((d.rights.length:Int) > 40))&&(decide ((d.rights.length:Int)≤256)))) ||((decide ((d.farms.length:Int) > 60))&&(decide ((d.farms.length:Int)≤600))))then false else(match aA (qL l_) l_.length 0 ()with| .inl x_0_0=>false| .inr s_0=>true)))
@[go_sem] def sf:List SV→Option Con:=(pD .district fun d=>(pR .deed fun l_=>(pE (.det True (.v (.bool (mz d l_)))))))
theorem xn:FnOk Tryz.prog 12 sf:=by
 have hG:ConsOk Tryz.prog (mkG [(35,fun l=>r6 (dF [.st .district] l))] []):=aP (cgc (wX.norm [.st .district]) cg0) cg0
 refine ce [.o] mixed aD hG (fn:=Tryz.f12) (c:=ae Tryz.f12) (by kernel_rfl) (by kernel_rfl) (by kernel_rfl) (by kernel_rfl) (ct fun d=>(fF fun l_=>(bo (fun hp=>?_))))
 dsimp only[bg]at hp
 refine⟨Nat.le_of_ble_eq_true rfl,(fun id st=>bif Nat.beq id 0 then some (LCR (ρ:=Unit) (σ:=Unit) 1 [] [0] (fun k_0 s_0=>⟨[(1,.rs .deed l_),(5,.v (.int .i64 (k_0:Int)))],[.dead]⟩) (qL l_) pT l_.length () (True) (fun _=>.ret) (fun x_0_0=>⟨[(4,.v (.bool false))],[.dead]⟩) st)else none),?_,?_⟩
 ·unfold ae Tryz.f12
  simp only[av,true_and,and_true]
  ·refine ql (l_.length≤b_) mixed aD hG (by kernel_rfl) (fun _=>rfl) (l_.length:Int) rfl lH (fun hb0 k_0 s_0 hlt0 _ hw hc=>⟨L0,an _,?_⟩) (fun hb0 s_0 hc=>?_) fun hb0 k_0 s_0=>?_
   ·exact kR
   ·exact kS
   ·simp only[go_sem,Nat.reduceBEq,Nat.reduceLeDiff,Nat.reduceLT,decide_true,Nat.reduceAdd,Nat.reduceSub,Nat.reduceMul,Int.reduceLE,Int.reduceLT,Int.reduceToNat,Int.reduceNeg,reduceCtorEq,hb0]
 ·unfold ae Tryz.f12
  try unfold mz
  simp only[go_sem,Nat.reduceBEq,Nat.reduceLeDiff,Nat.reduceLT,decide_true,Nat.reduceAdd,Nat.reduceSub,Nat.reduceMul,Int.reduceLE,Int.reduceLT,Int.reduceToNat,Int.reduceNeg,reduceCtorEq]
  all_goals exact cl
end Go.Sx
end
section
namespace Go.Sx
open Go.Proofs
set_option maxRecDepth 100000
set_option linter.unusedSimpArgs false
theorem vX {p:Prop}(h:p:=by(first|done|(repeat' (first|with_reducible refine And.intro ?_ ?_|((with_reducible show _≠_);first|assumption|omega|(simp_all [bV,cd];done) |grind) |with_reducible intro _)) <;>(first|done|with_reducible exact Empty.elim ‹Empty› |with_reducible assumption|rfl|omega|assumption|decide|exact fk [0,4] |exact fk [0,1] |exact czl|(simp only[*,cond_true,cond_false,Bool.not_true,Bool.not_false,go_sem,Nat.reduceBEq,Nat.reduceLeDiff,Nat.reduceLT,decide_true,Nat.reduceAdd,Nat.reduceSub,Nat.reduceMul,Int.reduceLE,Int.reduceLT,Int.reduceToNat,Int.reduceNeg,reduceCtorEq];(repeat' (first|with_reducible refine And.intro ?_ ?_|((with_reducible show _≠_);first|assumption|omega|(simp_all [bV,cd];done) |grind) |with_reducible intro _)) <;>(first|done|assumption|rfl|omega|decide|exact fk [0,4] |exact fk [0,1] |(simp_all [bV,cd];done))) |(simp_all [okI,bV,cd];done) |(simp_all [bV,cd];(first|done|exact fk2 [0,4] |exact fk2 [0,1])) |exact fk2 [0,4] |exact fk2 [0,1]))):p:=h
theorem vY {p:Prop}(h:p:=by simp only[go_sem,Nat.reduceBEq,Nat.reduceLeDiff,Nat.reduceLT,decide_true,Nat.reduceAdd,Nat.reduceSub,Nat.reduceMul,Int.reduceLE,Int.reduceLT,Int.reduceToNat,Int.reduceNeg,reduceCtorEq,hc,hw];all_goals exact vX):p:=h
theorem vZ {p:Prop}(h:p:=by simp only[go_sem,Nat.reduceBEq,Nat.reduceLeDiff,Nat.reduceLT,decide_true,Nat.reduceAdd,Nat.reduceSub,Nat.reduceMul,Int.reduceLE,Int.reduceLT,Int.reduceToNat,Int.reduceNeg,reduceCtorEq,hc];all_goals exact vX):p:=h
def cU (x:Deed)(v:Deed):Bool:=((x.no !=v.of_)&&((x.kind !=4) ||(x.of_ !=v.of_)))
@[go_sem] def i7:List SV→Option Con:=(pD .deed fun x=>(pX .deed fun v=>(pE (.det True (.v (.bool (cU x v)))))))
theorem mA:FnOk Tryz.prog 27 i7:=by
 have hG:ConsOk Tryz.prog (mkG [] []):=aP cg0 cg0
 refine ce [.o] mixed aD hG (fn:=Tryz.f27) (c:=ae Tryz.f27) (by kernel_rfl) (by kernel_rfl) (by kernel_rfl) (by kernel_rfl) (ct fun x=>(rl fun v=>(bo (fun hp=>?_))))
 dsimp only[bg]at hp
 refine⟨Nat.le_of_ble_eq_true rfl,L0,an _,?_⟩
 ·unfold ae Tryz.f27
  try unfold cU
  simp only[go_sem,Nat.reduceBEq,Nat.reduceLeDiff,Nat.reduceLT,decide_true,Nat.reduceAdd,Nat.reduceSub,Nat.reduceMul,Int.reduceLE,Int.reduceLT,Int.reduceToNat,Int.reduceNeg,reduceCtorEq]
  all_goals exact cl
def aj (x:Deed)(eT:Int):Bool:=(x.no !=eT)
@[go_sem] def iB:List SV→Option Con:=(pD .deed fun x=>(pX .int fun eT=>(pE (.det True (.v (.bool (aj x eT)))))))
theorem lM:FnOk Tryz.prog 31 iB:=by
 have hG:ConsOk Tryz.prog (mkG [] []):=aP cg0 cg0
 refine ce [.o] mixed aD hG (fn:=Tryz.f31) (c:=ae Tryz.f31) (by kernel_rfl) (by kernel_rfl) (by kernel_rfl) (by kernel_rfl) (ct fun x=>(rl fun eT=>(bo (fun hp=>?_))))
 dsimp only[bg]at hp
 refine⟨Nat.le_of_ble_eq_true rfl,L0,an _,?_⟩
 ·unfold ae Tryz.f31
  try unfold aj
  simp only[go_sem,Nat.reduceBEq,Nat.reduceLeDiff,Nat.reduceLT,decide_true,Nat.reduceAdd,Nat.reduceSub,Nat.reduceMul,Int.reduceLE,Int.reduceLT,Int.reduceToNat,Int.reduceNeg,reduceCtorEq]
  all_goals exact cl
@[go_sem] def ij (l_:List Deed)(v:Deed)(k_0:Nat)(s_0:List Deed):Empty⊕(List Deed):=(bif(cU (l_.getD k_0 (default:Deed)) v)then .inr (s_0++([(l_.getD k_0 (default:Deed))]))else .inr s_0)
def i9 (l_:List Deed)(v:Deed)(k_0:Nat)(s_0:List Deed):Prop:=((cU (l_.getD k_0 (default:Deed)) v)=true→((s_0++([(l_.getD k_0 (default:Deed))])).length*88≤iE))
def gJ (l_:List Deed)(v:Deed):List Deed:=(match aA (ij l_ v) l_.length 0 ([])with| .inl x=>x.elim| .inr s_0=>s_0)
def gw (l_:List Deed)(v:Deed):Prop:=(l_.length≤b_→okI (ij l_ v) (i9 l_ v) l_.length 0 ([]))
noncomputable def nY:List SV→List Ob→Option HCon:=eU (fun x_:(List Deed)×Deed=>[.rs .deed x_.1,.fn 27 [] [.ptr 0 0]]) (fun x_=>[.cells (cellsOf .deed x_.2)]) (fun x_=>dJ (gw x_.1 x_.2) (.os 1) [.cells (cellsOf .deed x_.2),.row .deed (gJ x_.1 x_.2)])
@[go_sem] theorem BP (l_:List Deed)(v:Deed):nY ([.rs .deed l_,.fn (27:Nat) [] [.ptr 0 0]]) ([.cells [.v (.int .i64 v.no),.v (.int .i64 v.kind),.v (.int .i64 v.right),.v (.int .i64 v.since),.v (.int .i64 v.to),.rs .part v.parts,.v (.int .i64 v.of_),.v (.int .i64 v.at_),.v (.int .i64 v.known)]])=some (dJ (gw l_ v) (.os 1) [.cells (cellsOf .deed v),.row .deed (gJ l_ v)]):=dC (A:=fun x_:(List Deed)×Deed=>[.rs .deed x_.1,.fn 27 [] [.ptr 0 0]]) (H:=fun x_=>[.cells (cellsOf .deed x_.2)]) (K:=fun x_=>dJ (gw x_.1 x_.2) (.os 1) [.cells (cellsOf .deed x_.2),.row .deed (gJ x_.1 x_.2)]) (x:=(l_,v))
theorem C8:FnOkO Tryz.prog 26 (nY):=by
 have hG:ConsOk Tryz.prog (mkG [(27,fun l=>i7 (dF [.st .deed,.o] l))] []):=aP (cgc (mA.norm [.st .deed,.o]) cg0) cg0
 refine ej mixed aD hG (fn:=Tryz.f26) (c:=ae Tryz.f26) (by kernel_rfl) (by kernel_rfl) (by kernel_rfl) (by kernel_rfl) fun l o con h=>?_
 obtain⟨⟨l_,v⟩,rfl,rfl,rfl⟩:=cI h
 clear h
 try dsimp only
 refine⟨_,_,_,rfl,fun hp=>?_⟩
 unfold gw at hp
 refine⟨Nat.le_of_ble_eq_true rfl,(fun id st=>bif Nat.beq id 0 then some (LCR (ρ:=Empty) (σ:=(List Deed)) 1 [.slot 4 (.row .deed ([]))] [0,1] (fun k_0 s_0=>⟨[(1,.fn 27 [] [.ptr 0 0]),(4,.os 1),(7,.rs .deed l_),(8,.v (.int .i64 (l_.length:Int))),(9,.v (.int .i64 (k_0:Int)))],[.cells (cellsOf .deed v),.row .deed s_0]⟩) (ij l_ v) (i9 l_ v) l_.length ([]) (l_.length≤b_) ((·.elim)) ((·.elim)) st)else none),?_,?_⟩
 ·unfold ae Tryz.f26
  simp only[av,true_and,and_true,and_assoc]
  ·refine dQ mixed aD hG (by kernel_rfl) (fun _=>rfl) (l_.length:Int) rfl lH (fun hb0 k_0 s_0 hlt0 hq0 hw hc=>⟨L0,an _,?_⟩) (fun hb0 s_0 hc=>?_)
   ·unfold i9 at hq0
    try simp only[hw,Int.toNat_natCast]at hq0
    exact vY
   ·exact vZ
 ·unfold ae Tryz.f26
  try unfold gJ
  simp only[go_sem,Nat.reduceBEq,Nat.reduceLeDiff,Nat.reduceLT,decide_true,Nat.reduceAdd,Nat.reduceSub,Nat.reduceMul,Int.reduceLE,Int.reduceLT,Int.reduceToNat,Int.reduceNeg,reduceCtorEq]
  all_goals exact nP
@[go_sem] def ik (l_:List Deed)(eT:Int)(k_0:Nat)(s_0:List Deed):Empty⊕(List Deed):=(bif(aj (l_.getD k_0 (default:Deed)) eT)then .inr (s_0++([(l_.getD k_0 (default:Deed))]))else .inr s_0)
def i_ (l_:List Deed)(eT:Int)(k_0:Nat)(s_0:List Deed):Prop:=((aj (l_.getD k_0 (default:Deed)) eT)=true→((s_0++([(l_.getD k_0 (default:Deed))])).length*88≤iE))
def cn (l_:List Deed)(eT:Int):List Deed:=(match aA (ik l_ eT) l_.length 0 ([])with| .inl x=>x.elim| .inr s_0=>s_0)
def fv (l_:List Deed)(eT:Int):Prop:=(l_.length≤b_→okI (ik l_ eT) (i_ l_ eT) l_.length 0 ([]))
noncomputable def ld:List SV→List Ob→Option HCon:=eU (fun x_:(List Deed)×Int=>[.rs .deed x_.1,.fn 31 [] [.ptr 0 0]]) (fun x_=>[.cells [.v (.int .i64 x_.2)]]) (fun x_=>dJ (fv x_.1 x_.2) (.os 1) [.cells [.v (.int .i64 x_.2)],.row .deed (cn x_.1 x_.2)])
@[go_sem] theorem BQ (l_:List Deed)(eT:Int):ld ([.rs .deed l_,.fn (31:Nat) [] [.ptr 0 0]]) ([.cells [.v (.int .i64 eT)]])=some (dJ (fv l_ eT) (.os 1) [.cells [.v (.int .i64 eT)],.row .deed (cn l_ eT)]):=dC (A:=fun x_:(List Deed)×Int=>[.rs .deed x_.1,.fn 31 [] [.ptr 0 0]]) (H:=fun x_=>[.cells [.v (.int .i64 x_.2)]]) (K:=fun x_=>dJ (fv x_.1 x_.2) (.os 1) [.cells [.v (.int .i64 x_.2)],.row .deed (cn x_.1 x_.2)]) (x:=(l_,eT))
theorem sw:FnOkO Tryz.prog 26 (ld):=by
 have hG:ConsOk Tryz.prog (mkG [(31,fun l=>iB (dF [.st .deed,.o] l))] []):=aP (cgc (lM.norm [.st .deed,.o]) cg0) cg0
 refine ej mixed aD hG (fn:=Tryz.f26) (c:=ae Tryz.f26) (by kernel_rfl) (by kernel_rfl) (by kernel_rfl) (by kernel_rfl) fun l o con h=>?_
 obtain⟨⟨l_,eT⟩,rfl,rfl,rfl⟩:=cI h
 clear h
 try dsimp only
 refine⟨_,_,_,rfl,fun hp=>?_⟩
 unfold fv at hp
 refine⟨Nat.le_of_ble_eq_true rfl,(fun id st=>bif Nat.beq id 0 then some (LCR (ρ:=Empty) (σ:=(List Deed)) 1 [.slot 4 (.row .deed ([]))] [0,1] (fun k_0 s_0=>⟨[(1,.fn 31 [] [.ptr 0 0]),(4,.os 1),(7,.rs .deed l_),(8,.v (.int .i64 (l_.length:Int))),(9,.v (.int .i64 (k_0:Int)))],[.cells [.v (.int .i64 eT)],.row .deed s_0]⟩) (ik l_ eT) (i_ l_ eT) l_.length ([]) (l_.length≤b_) ((·.elim)) ((·.elim)) st)else none),?_,?_⟩
 ·unfold ae Tryz.f26
  simp only[av,true_and,and_true,and_assoc]
  ·refine dQ mixed aD hG (by kernel_rfl) (fun _=>rfl) (l_.length:Int) rfl lH (fun hb0 k_0 s_0 hlt0 hq0 hw hc=>⟨L0,an _,?_⟩) (fun hb0 s_0 hc=>?_)
   ·unfold i_ at hq0
    try simp only[hw,Int.toNat_natCast]at hq0
    exact vY
   ·exact vZ
 ·unfold ae Tryz.f26
  try unfold cn
  simp only[go_sem,Nat.reduceBEq,Nat.reduceLeDiff,Nat.reduceLT,decide_true,Nat.reduceAdd,Nat.reduceSub,Nat.reduceMul,Int.reduceLE,Int.reduceLT,Int.reduceToNat,Int.reduceNeg,reduceCtorEq]
  all_goals exact nP
end Go.Sx
end
section
namespace Go.Sx
open Go.Proofs
theorem uv {α:Type}{step:Nat→List α→Empty⊕List α}(l:List α)(d:α)(P:α→Bool)(h:∀ k s,k<l.length→step k s=bif P (l.getD k d)then .inr (s++[l.getD k d])else .inr s):aA step l.length 0 []=.inr (l.filter P):=by
 obtain⟨r,h1,h2⟩:=ou (step:=step) (fun k s=>s=(l.take k).filter P) l.length 0 ([]:List α) (by simp) (fun j s _ hj hs=>by
  rw[Nat.zero_add]at hj
  rw[h j s hj,dh l d hj,List.filter_append,hs]
  cases hp:P (l.getD j d)with
  |true=>exact⟨_,rfl,by rw[List.filter_cons_of_pos hp];rfl⟩
  |false=>exact⟨_,rfl,by rw[List.filter_cons_of_neg (by rw[hp];simp)];simp⟩)
 rw[h1,h2,Nat.zero_add,List.take_length]
theorem uw {α:Type}{step:Nat→List α→Empty⊕List α}{p:Nat→List α→Prop}(l:List α)(d:α)(P:α→Bool)(h:∀ k s,k<l.length→step k s=bif P (l.getD k d)then .inr (s++[l.getD k d])else .inr s)(hp:∀ k s,k<l.length→s.length≤k→p k s):okI step p l.length 0 []:=by
 refine sH (fun k s=>s.length≤k) _ _ _ (Nat.le_refl _) fun j s _ hj hs=>⟨hp j s (by omega) hs,fun s' e=>?_⟩
 rw[h j s (by omega)]at e
 cases hc:P (l.getD j d)with
 |true=>rw[hc]at e;cases e;simp;omega
 |false=>rw[hc]at e;cases e;omega
theorem BR {α:Type}(s:List α)(x:α):(s++[x]).length=s.length+1:=by simp
theorem C9 (l:List Deed)(v:Deed)(hl:l.length≤512):gw l v∧gJ l v=l.filter fun x=>cU x v:=by
 refine⟨fun _=>uw l default (fun x=>cU x v) (fun _ _ _=>rfl) fun k s hk hs=>fun _=>by rw[BR];unfold iE;omega,?_⟩
 unfold gJ
 rw[uv (step:=ij l v) l default (fun x=>cU x v) fun _ _ _=>rfl]
theorem sA (l:List Deed)(v:Int)(hl:l.length≤512):fv l v∧cn l v=l.filter fun x=>aj x v:=by
 refine⟨fun _=>uw l default (fun x=>aj x v) (fun _ _ _=>rfl) fun k s hk hs=>fun _=>by rw[BR];unfold iE;omega,?_⟩
 unfold cn
 rw[uv (step:=ik l v) l default (fun x=>aj x v) fun _ _ _=>rfl]
theorem H9 (a b:List Holding):eS a b:=fun _ _ h=>oi _ _ _ fun j _ _ hj _=>by
 simp only[bne_eq_false_iff_eq]at h
 omega
theorem AF (a:List Holding):eA a a=true:=by
 unfold eA
 have e:aA (dK a a) a.length 0 ()=.inr ():=jW.2 fun j _=>by
  unfold dK;simp
 rw[e];simp
theorem xo {l:List Deed}(h:Asc l){x y:Deed}(hx:x∈l)(hy:y∈l)(e:x.no=y.no):x=y:=by
 rw[←um h hx,←um h hy,e]
theorem Deeds.target {d:District}{l:List Deed}(h:Deeds d l){x y:Deed}(hx:x∈l)(hk:x.kind=4)(hy:y∈l)(e:y.no=x.of_):y.kind≠4∧y.known≤x.known∧y.no<x.no:=by
 obtain⟨z,hz,h1,h2,h3,h4⟩:=h.void x hx hk
 have:y=z:=xo h.asc hy hz (by rw[e,h1])
 rw[this];exact⟨h2,h3,h4⟩
theorem AG {l:List Deed}{known n:Int}:lI l known n=true↔∃ u∈l,u.kind=4∧u.known≤known∧u.of_=n:=by
 unfold lI
 rw[List.any_eq_true]
 simp only[Bool.and_eq_true,beq_iff_eq,decide_eq_true_eq,and_assoc]
def lv (l:List Deed)(hour known:Int)(x:Deed):Bool:= !((((x.kind==4) ||(decide (x.known > known))) ||(decide (x.at_ > hour))) ||lI l known x.no)
theorem xp {l:List Deed}{hour known:Int}{x:Deed}:lv l hour known x=true↔x.kind≠4∧x.known≤known∧x.at_≤hour∧¬ ∃ u∈l,u.kind=4∧u.known≤known∧u.of_=x.no:=by
 unfold lv
 rw[←AG]
 simp only[Bool.not_eq_true',Bool.or_eq_false_iff,beq_eq_false_iff_ne,decide_eq_false_iff_not,Bool.not_eq_true,and_assoc]
 constructor
 ·rintro⟨a,b,c,e⟩;exact⟨a,by omega,by omega,e⟩
 ·rintro⟨a,b,c,e⟩;exact⟨a,by omega,by omega,e⟩
theorem ux {α:Type}(p:α→Bool):∀ l:List α,l.length=(l.filter p).length+(l.filter fun x=>!p x).length
 | [] =>rfl
 |x::l=>by
  have:=ux p l
  cases hp:p x <;>simp[hp] <;>omega
end Go.Sx
end
section
namespace Go.Sx
universe u
section
variable {α:Type u}
def pV (k:Int→List SV→Option α):List SV→Option α
 | .v (.int .u8 n)::r=>k n r
 |_=>none
@[go_sem] theorem QD {k:Int→List SV→Option α}{n:Int}{r:List SV}:pV k (.v (.int .u8 n)::r)=k n r:=(rfl)
theorem K3 {k:Int→List SV→Option α}{l:List SV}{c:α}(h:pV k l=some c):∃ n r,l=.v (.int .u8 n)::r∧k n r=some c:=by
 unfold pV at h
 split at h
 ·exact⟨_,_,rfl,h⟩
 ·cases h
def pW (k:Int→List SV→Option α):List SV→Option α
 | .v (.int .u16 n)::r=>k n r
 |_=>none
@[go_sem] theorem QE {k:Int→List SV→Option α}{n:Int}{r:List SV}:pW k (.v (.int .u16 n)::r)=k n r:=(rfl)
theorem K4 {G:List SV→α→Prop}{k:Int→List SV→Option α}(h:∀ n l c,k n l=some c→G (.v (.int .u8 n)::l) c):∀ l c,pV k l=some c→G l c:=fun l c hc=>by
 obtain⟨n,r,rfl,h1⟩:=K3 hc;exact h n r c h1
end
end Go.Sx
end
section
namespace Go.Sx
open Go.Proofs
set_option maxRecDepth 100000
set_option linter.unusedSimpArgs false
def dE (a0:District)(a1:List Deed)(a2:Int)(a3:Int)(a4:Int):Bool:=(bif(!ju)then false else(bif(!(mz a0 a1))then true else(bif(((ai a0 a1 a4).2 !=0) ||((((ai a0 a1 a4).1).length:Int) ==0))then((((ai a0 a1 a4).1).length:Int) ==0)else(bif(((cn a1 (((ai a0 a1 a4).1).getD (Int.toNat (Int.tmod (IntKind.i64.wrap a2) (((ai a0 a1 a4).1).length:Int))) (0:Int))).length:Int) !=(IntKind.i64.wrap ((a1.length:Int) - 1)))then false else(bif((al a0 (cn a1 (((ai a0 a1 a4).1).getD (Int.toNat (Int.tmod (IntKind.i64.wrap a2) (((ai a0 a1 a4).1).length:Int))) (0:Int)))) !=0)then true else(((bf a0 a1 a3 a4).2==(bf a0 (cn a1 (((ai a0 a1 a4).1).getD (Int.toNat (Int.tmod (IntKind.i64.wrap a2) (((ai a0 a1 a4).1).length:Int))) (0:Int))) a3 a4).2)&&(eA ((bf a0 a1 a3 a4).1) ((bf a0 (cn a1 (((ai a0 a1 a4).1).getD (Int.toNat (Int.tmod (IntKind.i64.wrap a2) (((ai a0 a1 a4).1).length:Int))) (0:Int))) a3 a4).1))))))))
def dg (a0:District)(a1:List Deed)(a2:Int)(a3:Int)(a4:Int):Prop:=((i0)∧((!ju)=false→((!(mz a0 a1))=false→((fe a0 a1 a4)∧((((ai a0 a1 a4).2 !=0) ||((((ai a0 a1 a4).1).length:Int) ==0))=false→(((ai a0 a1 a4).1).length≤b_→((((ai a0 a1 a4).1).length:Int)≠0∧((0≤(Int.tmod (IntKind.i64.wrap a2) (((ai a0 a1 a4).1).length:Int))∧(Int.tmod (IntKind.i64.wrap a2) (((ai a0 a1 a4).1).length:Int)) < (((ai a0 a1 a4).1).length:Int))∧((fv a1 (((ai a0 a1 a4).1).getD (Int.toNat (Int.tmod (IntKind.i64.wrap a2) (((ai a0 a1 a4).1).length:Int))) (0:Int)))∧((cn a1 (((ai a0 a1 a4).1).getD (Int.toNat (Int.tmod (IntKind.i64.wrap a2) (((ai a0 a1 a4).1).length:Int))) (0:Int))).length≤b_→(a1.length≤b_→((((cn a1 (((ai a0 a1 a4).1).getD (Int.toNat (Int.tmod (IntKind.i64.wrap a2) (((ai a0 a1 a4).1).length:Int))) (0:Int))).length:Int) !=(IntKind.i64.wrap ((a1.length:Int) - 1)))=false→((c5 a0 (cn a1 (((ai a0 a1 a4).1).getD (Int.toNat (Int.tmod (IntKind.i64.wrap a2) (((ai a0 a1 a4).1).length:Int))) (0:Int))))∧(((al a0 (cn a1 (((ai a0 a1 a4).1).getD (Int.toNat (Int.tmod (IntKind.i64.wrap a2) (((ai a0 a1 a4).1).length:Int))) (0:Int)))) !=0)=false→((dN a0 a1 a3 a4)∧((dN a0 (cn a1 (((ai a0 a1 a4).1).getD (Int.toNat (Int.tmod (IntKind.i64.wrap a2) (((ai a0 a1 a4).1).length:Int))) (0:Int))) a3 a4)∧(((bf a0 a1 a3 a4).2==(bf a0 (cn a1 (((ai a0 a1 a4).1).getD (Int.toNat (Int.tmod (IntKind.i64.wrap a2) (((ai a0 a1 a4).1).length:Int))) (0:Int))) a3 a4).2)=true→(eS ((bf a0 a1 a3 a4).1) ((bf a0 (cn a1 (((ai a0 a1 a4).1).getD (Int.toNat (Int.tmod (IntKind.i64.wrap a2) (((ai a0 a1 a4).1).length:Int))) (0:Int))) a3 a4).1)))))))))))))))))))
@[go_sem] def fX:List SV→Option Con:=(pD .district fun a0=>(pR .deed fun a1=>(pV fun a2=>(pI fun a3=>(pI fun a4=>(pE (.det (dg a0 a1 a2 a3 a4) (.v (.bool (dE a0 a1 a2 a3 a4))))))))))
theorem mT:FnOk Tryz.prog 9 fX:=by
 have hG:ConsOk Tryz.prog (mkG [(11,qH),(12,fun l=>sf (dF [.st .district,.sl .deed] l)),(15,fun l=>ed (dF [.st .district,.sl .deed] l)),(18,fun l=>lK (dF [.st .district,.sl .deed,.o,.o] l)),(20,fun l=>jt (dF [.st .district,.sl .deed,.o] l)),(22,fun l=>jZ (dF [.sl .holding,.sl .holding] l))] [(26,ld)]):=aP (cgc uW (cgc (xn.norm [.st .district,.sl .deed]) (cgc (eP.norm [.st .district,.sl .deed]) (cgc (nX.norm [.st .district,.sl .deed,.o,.o]) (cgc (lE.norm [.st .district,.sl .deed,.o]) (cgc (nk.norm [.sl .holding,.sl .holding]) cg0)))))) (cgc sw cg0)
 refine ce [.o] mixed aD hG (fn:=Tryz.f9) (c:=ae Tryz.f9) (by kernel_rfl) (by kernel_rfl) (by kernel_rfl) (by kernel_rfl) (ct fun a0=>(fF fun a1=>(K4 fun a2=>(dR fun a3=>(dR fun a4=>(bo (fun hp=>?_)))))))
 dsimp only[bg]at hp
 unfold dg at hp
 refine⟨Nat.le_of_ble_eq_true rfl,L0,an _,?_⟩
 ·unfold ae Tryz.f9
  try unfold dE
  simp only[go_sem,Nat.reduceBEq,Nat.reduceLeDiff,Nat.reduceLT,decide_true,Nat.reduceAdd,Nat.reduceSub,Nat.reduceMul,Int.reduceLE,Int.reduceLT,Int.reduceToNat,Int.reduceNeg,reduceCtorEq]
  all_goals exact cl
end Go.Sx
end
section
namespace Go.Sx
open Go.Proofs
set_option maxRecDepth 100000
set_option linter.unusedSimpArgs false
end Go.Sx
end
section
namespace Go.Sx
open Go.Proofs
theorem K5 {w:Int}{n:Nat}(h0:0≤w)(h1:w≤65535)(hn:n≠0):0≤Int.tmod (IntKind.i64.wrap w) (n:Int)∧Int.tmod (IntKind.i64.wrap w) (n:Int) < (n:Int):=by
 rw[bK (by omega) (by omega),Int.tmod_eq_emod_of_nonneg h0]
 exact⟨Int.emod_nonneg _ (by omega),Int.emod_lt_of_pos _ (by omega)⟩
end Go.Sx
end
section
namespace Go.Sx
open Go.Proofs
theorem xq:∀ {ds:List Deed} {B:Int→Int→Int} {n:Int},n∈ur ds B→∃ P x S,ds=P++x::S∧x.no=n∧nV P B x.right x.since=0
 | [],_,_,h=>by cases h
 |y::ds,B,n,h=>by
  simp only[ur]at h
  rcases List.mem_append.1 h with h|h
  ·split at h
   ·rename_i h0
    simp only[List.mem_singleton]at h
    exact⟨[],y,ds,rfl,h.symm,h0⟩
   ·cases h
  ·obtain⟨P,x,S,rfl,e,h0⟩:=xq h
   exact⟨y::P,x,S,rfl,e,h0⟩
theorem AH {x:Deed}{B:Int→Int→Int}(h:B x.right x.since=0):km x B=B:=by
 funext r
 unfold km
 split
 ·rename_i e;subst e;unfold uR;rw[if_pos h]
 ·rfl
theorem y6 (a b:List Deed)(B:Int→Int→Int):nV (a++b) B=nV b (nV a B):=by unfold nV;rw[List.foldl_append]
theorem C2 {P S:List Deed}{x:Deed}{B:Int→Int→Int}(h:nV P B x.right x.since=0):nV (P++x::S) B=nV (P++S) B:=by
 rw[y6,y6]
 show nV S (km x (nV P B))=_
 rw[AH h]
theorem v6 {l:List Deed}(hA:Asc l)(p:Deed→Bool):(l.filter p).Pairwise fun x y=>x.no≠y.no:=(List.Pairwise.filter p hA).imp fun h=>by omega
theorem AI {a b:List Deed}(h:SameF a b)(ha:a.Pairwise fun x y=>x.no≠y.no):b.Pairwise fun x y=>x.no≠y.no:=by
 rw[List.pairwise_iff_getElem]
 intro i j hi hj hij
 intro e
 by_cases ht:b[i].at_=b[j].at_
 ·have hb:(b.filter fun x=>x.at_==b[i].at_).Pairwise fun x y=>x.no≠y.no:=by
   rw[←h b[i].at_];exact List.Pairwise.filter _ ha
  have key:∀ (L:List Deed) (i j:Nat) (hi:i<L.length) (hj:j<L.length) (p:Deed→Bool),i<j→p L[i]=true→p L[j]=true→(L.filter p).Pairwise (fun x y=>x.no≠y.no)→L[i].no≠L[j].no:=fun L=>by
   induction L with
   |nil=>intro i j hi;cases hi
   |cons x L ih=>
    intro i j hi hj p hij h1 h2 hp
    cases j with
    |zero=>omega
    |succ j=>
     cases i with
     |zero=>
      simp only[List.getElem_cons_zero,List.getElem_cons_succ]at h1 h2 ⊢
      rw[List.filter_cons_of_pos h1]at hp
      exact(List.pairwise_cons.1 hp).1 _ (List.mem_filter.2 ⟨List.getElem_mem _,h2⟩)
     |succ i=>
      simp only[List.getElem_cons_succ]at h1 h2 ⊢
      simp only[List.length_cons]at hi hj
      refine ih i j (by omega) (by omega) p (by omega) h1 h2 ?_
      cases hx:p x with
      |true=>rw[List.filter_cons_of_pos hx]at hp;exact(List.pairwise_cons.1 hp).2
      |false=>rw[List.filter_cons_of_neg (by rw[hx];simp)]at hp;exact hp
  exact key b i j hi hj (fun x=>x.at_==b[i].at_) hij (by simp) (by simp[ht]) hb e
 ·have mi:b[i]∈a:=h.symm.mem (List.getElem_mem hi)
  have mj:b[j]∈a:=h.symm.mem (List.getElem_mem hj)
  obtain⟨u,hu,eu⟩:=List.mem_iff_getElem.1 mi
  obtain⟨v,hv,ev⟩:=List.mem_iff_getElem.1 mj
  have hp:=List.pairwise_iff_getElem.1 ha
  rcases Nat.lt_trichotomy u v with hlt|hlt|hlt
  ·exact hp u v hu hv hlt (by rw[eu,ev,e])
  ·subst hlt;rw[←eu,←ev]at ht;exact ht rfl
  ·exact hp v u hv hu hlt (by rw[eu,ev,e])
theorem FG {D E:List Deed}{B:Int→Int→Int}{n:Int}(hN:D.Pairwise fun x y=>x.no≠y.no)(h:n∈ur D B){T:List Deed}(hE:D=E++T):nV (E.filter fun x=>aj x n) B=nV E B:=by
 obtain⟨P,x,S,hD,hx,h0⟩:=xq h
 have hp:∀ y:Deed,aj y n=true↔y.no≠n:=fun y=>by unfold aj;rw[bne_iff_ne]
 have hother:(∀ y∈P,y.no≠n)∧∀ y∈S,y.no≠n:=by
  rw[hD]at hN
  obtain⟨_,a2,a3⟩:=List.pairwise_append.1 hN
  exact⟨fun y hy e=>a3 y hy x List.mem_cons_self (by rw[e,hx]),fun y hy e=>(List.pairwise_cons.1 a2).1 y hy (by rw[e,hx])⟩
 have keep:∀ L:List Deed,(∀ y∈L,y.no≠n)→L.filter (fun x=>aj x n)=L:=fun L hL=>List.filter_eq_self.2 fun y hy=>(hp y).2 (hL y hy)
 by_cases hlen:E.length≤P.length
 ·have:∀ y∈E,y∈P:=fun y hy=>by
   have e:E=P.take E.length:=by
    have:=congrArg (List.take E.length) (hE.symm.trans hD)
    rw[List.take_left,List.take_append_of_le_length hlen]at this
    exact this
   rw[e]at hy
   exact List.mem_of_mem_take hy
  rw[keep E fun y hy=>hother.1 y (this y hy)]
 ·have e:∃ S',E=P++x::S'∧∀ y∈S',y∈S:=by
   have e1:E=(P++x::S).take E.length:=by rw[←hD,hE,List.take_left]
   rw[List.take_append]at e1
   have e2:P.take E.length=P:=List.take_of_length_le (by omega)
   rw[e2]at e1
   obtain⟨m,hm⟩:∃ m,E.length - P.length=m+1:=⟨E.length - P.length - 1,by omega⟩
   rw[hm,List.take_succ_cons]at e1
   exact⟨S.take m,e1,fun y hy=>List.mem_of_mem_take hy⟩
  obtain⟨S',rfl,hS⟩:=e
  rw[List.filter_append,List.filter_cons_of_neg (by rw[hp];simp[hx]),keep P hother.1,keep S' fun y hy=>hother.2 y (hS y hy)]
  exact(C2 h0).symm
theorem C3 {d:District}{l l':List Deed}{hour known:Int}(h:al d l=0)(h':al d l'=0)(e:0≤hour∧hour<d.hours∧0≤known∧known≤1048576→mv d l hour known=mv d l' hour known):bf d l hour known=bf d l' hour known:=by
 rw[(oY d l hour known).2,(oY d l' hour known).2,h,h']
 by_cases hg:0≤hour∧hour<d.hours∧0≤known∧known≤1048576
 ·rw[if_pos hg,if_pos hg,e hg]
 ·rw[if_neg hg,if_neg hg]
theorem C4 {d:District}{l:List Deed}(hc:al d l=0){n known:Int}(hn:n∈ur (stS (lJ l 4096 known)) (B0 d)):
  (l.filter fun x=>aj x n).length+1=l.length∧∀ hour,hour≤4096→mv d (l.filter fun x=>aj x n) hour known=mv d l hour known:=by
 have hD:=nU hc
 have hp:∀ y:Deed,aj y n=true↔y.no≠n:=fun y=>by unfold aj;rw[bne_iff_ne]
 obtain⟨P,x,S,e,hx,h0⟩:=xq hn
 have hxD:x∈stS (lJ l 4096 known):=by rw[e];simp
 have hxl:=BE.1 hxD
 have hxm:x∈l:=(List.mem_filter.1 hxl).1
 have hxk:x.kind≠4:=(qE hD 4096 known x hxD).2
 refine⟨?_,fun hour hh=>?_⟩
 ·have h1:=ux (fun x=>aj x n) l
  have h2:l.filter (fun x=>!aj x n)=[x]:=by
   have mx:x∈l.filter (fun x=>!aj x n):=List.mem_filter.2 ⟨hxm,by unfold aj;simp[hx]⟩
   have ma:∀ y∈l.filter (fun x=>!aj x n),y=x:=fun y hy=>by
    obtain⟨hy,hq⟩:=List.mem_filter.1 hy
    unfold aj at hq
    have hq:y.no=n:=by simpa using hq
    exact xo hD.asc hy hxm (by rw[hq,hx])
   have hN:=v6 hD.asc (fun x=>!aj x n)
   generalize l.filter (fun x=>!aj x n)=L at *
   match L,mx,ma,hN with
   | [],mx,_,_=>cases mx
   | [a],_,ma,_=>rw[ma a List.mem_cons_self]
   |a::b::_,_,ma,hN=>exact absurd (by rw[ma a (by simp),ma b (by simp)]) ((List.pairwise_cons.1 hN).1 b List.mem_cons_self)
  rw[h2]at h1
  simpa using h1.symm
 ·have hl1:lJ (l.filter fun x=>aj x n) hour known=(lJ l hour known).filter fun x=>aj x n:=by
   show(l.filter _).filter (lv (l.filter _) hour known)=(l.filter (lv l hour known)).filter _
   rw[List.filter_filter,List.filter_filter]
   refine List.filter_congr fun y hy=>?_
   rw[Bool.eq_iff_iff,Bool.and_eq_true,Bool.and_eq_true,xp,xp,hp]
   constructor
   ·rintro⟨⟨a,b,c,e⟩,q⟩
    refine⟨q,a,b,c,?_⟩
    rintro⟨u,hu,r1,r2,r3⟩
    refine e ⟨u,List.mem_filter.2 ⟨hu,(hp u).2 fun hun=>?_⟩,r1,r2,r3⟩
    have:=xo hD.asc hu hxm (by rw[hun,hx])
    rw[this]at r1;exact hxk r1
   ·rintro⟨q,a,b,c,e⟩
    refine⟨⟨a,b,c,?_⟩,q⟩
    rintro⟨u,hu,r⟩
    exact e ⟨u,(List.mem_filter.1 hu).1,r⟩
  have hl2:lJ l hour known=(lJ l 4096 known).filter fun x=>decide (x.at_≤hour):=by
   show l.filter (lv l hour known)=(l.filter (lv l 4096 known)).filter _
   rw[List.filter_filter]
   refine List.filter_congr fun y hy=>?_
   rw[Bool.eq_iff_iff,Bool.and_eq_true,xp,xp,decide_eq_true_eq]
   constructor
   ·rintro⟨a,b,c,e⟩;exact⟨c,a,b,by omega,e⟩
   ·rintro⟨c,a,b,_,e⟩;exact⟨a,b,c,e⟩
  have hsplit:=CT hour (lJ l 4096 known)
  rw[←hl2]at hsplit
  have hN:(stS (lJ l 4096 known)).Pairwise fun x y=>x.no≠y.no:=AI (gm _) (v6 hD.asc _)
  unfold mv
  rw[hl1,←Ar]
  exact FG hN hn hsplit
theorem FH {l:List Int}{n:Int}:n∈nT l↔n∈l:=by unfold nT;exact List.mem_mergeSort
theorem v7 (d:District)(l:List Deed)(w h k:Int)(rw_:0≤w∧w≤255):dg d l w h k∧dE d l w h k=true:=by
 have hE:=(qI d l k).2
 have hErr:(ai d l k).2≠0→(ai d l k).1=[]:=fun h0=>by
  rw[hE]at h0 ⊢
  split
  ·rfl
  ·split
   ·rename_i h1 h2
    rw[if_neg h1,if_pos h2]at h0
    exact absurd rfl h0
   ·rfl
 have hOk:(ai d l k).2=0→al d l=0∧(ai d l k).1=nT (ur (stS (lJ l 4096 k)) (B0 d)):=fun h0=>by
  rw[hE]at h0 ⊢
  by_cases hc:al d l=0
  ·rw[if_neg (by simp[hc])]at h0 ⊢
   by_cases hg:0≤k∧k≤1048576
   ·rw[if_pos hg];exact⟨hc,rfl⟩
   ·rw[if_neg hg]at h0;simp at h0
  ·rw[if_pos hc]at h0;exact absurd h0 hc
 unfold dg dE
 rw[KZ]
 simp only[Bool.not_true,cond_false]
 cases hf:(!(mz d l))with
 |true=>exact⟨⟨AE,(fun _ h=>by cases h)⟩,rfl⟩
 |false=>
  simp only[cond_false]
  have hEp:=(qI d l k).1
  generalize ai d l k=R at *
  cases hR:((R.2 !=0) ||((R.1.length:Int) ==0))with
  |true=>
   refine⟨⟨AE,fun _ _=>⟨hEp,(fun h=>by cases h)⟩⟩,?_⟩
   simp only[cond_true]
   rw[Bool.or_eq_true]at hR
   rcases hR with hR|hR
   ·rw[hErr (by simpa using hR)];rfl
   ·exact hR
  |false=>
   simp only[cond_false]
   simp only[Bool.or_eq_false_iff,beq_eq_false_iff_ne,bne_eq_false_iff_eq]at hR
   obtain⟨hc,hL⟩:=hOk hR.1
   have hD:=nU hc
   have hl0:R.1.length≠0:=by omega
   have hi:=K5 rw_.1 (by omega) hl0
   generalize Int.tmod (IntKind.i64.wrap w) (R.1.length:Int)=i at *
   have hm:R.1.getD (Int.toNat i) 0∈R.1:=by rw[mP _ _ (by omega)];exact List.getElem_mem _
   generalize R.1.getD (Int.toNat i) 0=n at *
   rw[hL]at hm
   obtain⟨g1,g2⟩:=C4 hc (FH.1 hm)
   obtain⟨w1,w2⟩:=sA l n hD.len
   have hlen:=hD.len
   have ew:(((l.filter fun x=>aj x n).length:Int) !=IntKind.i64.wrap ((l.length:Int) - 1))=false:=by
    rw[bK (by omega) (by omega),bne_eq_false_iff_eq];omega
   have hh:=hD.right.hours
   rw[w2,ew]
   simp only[cond_false]
   refine⟨⟨AE,fun _ _=>⟨hEp,fun _ _=>⟨hR.2,hi,w1,fun _ _ _=>⟨iX _ _,fun _=>⟨(oY _ _ _ _).1,(oY _ _ _ _).1,fun _=>H9 _ _⟩⟩⟩⟩⟩,?_⟩
   cases hc2:(al d (l.filter fun x=>aj x n) !=0)with
   |true=>rfl
   |false=>
    have hc2:al d (l.filter fun x=>aj x n)=0:=by simpa using hc2
    have hA:=C3 (hour:=h) (known:=k) hc2 hc fun hg=>g2 h (by omega)
    rw[hA,AF]
    simp
theorem H_ (d:District)(l:List Deed)(w h k:Int)(r1:0≤w∧w≤255)(_: -9223372036854775808≤h∧h≤9223372036854775807)(_: -9223372036854775808≤k∧k≤9223372036854775807):dg d l w h k:=(v7 d l w h k r1).1
theorem Ia (d:District)(l:List Deed)(w h k:Int)(r1:0≤w∧w≤255)(_: -9223372036854775808≤h∧h≤9223372036854775807)(_: -9223372036854775808≤k∧k≤9223372036854775807):dE d l w h k=true:=(v7 d l w h k r1).2
end Go.Sx
end
section
namespace Go.Sx
open Go.RowKit Go.Deep
section
variable {F:Nat→Prop}{own:Own}{w:World}
def RC (F:Nat→Prop)(own:Own)(w:World)(ks:List Kd)(cs:List Value):Prop:=
 ∃ l:List SV,lN ks l=true∧l.length=cs.length∧∀ (j:Nat) (s:SV) (v:Value),l[j]? =some s→cs[j]? =some v→Rel F own w s v
theorem y7:∀ {a b:List Kd} {l m:List SV},lN a l=true→lN b m=true→lN (a++b) (l++m)=true
 | [],b,l,m,h1,h2=>by rw[lX h1];exact h2
 |k::a,b,l,m,h1,h2=>by
  obtain⟨x,r,rfl,e1,e2⟩:=jk h1
  simp only[List.cons_append,lN,e1,y7 e2 h2,Bool.and_self]
theorem RC.nil:RC F own w [] []:=⟨[],rfl,rfl,fun j s v h=>by cases h⟩
theorem RC.app {a b:List Kd}{c d:List Value}(h1:RC F own w a c)(h2:RC F own w b d):RC F own w (a++b) (c++d):=by
 obtain⟨l,f1,n1,r1⟩:=h1
 obtain⟨m,f2,n2,r2⟩:=h2
 refine⟨l++m,y7 f1 f2,by simp[n1,n2],fun j s v hs hv=>?_⟩
 by_cases hj:j<l.length
 ·rw[List.getElem?_append_left hj]at hs
  rw[List.getElem?_append_left (by omega)]at hv
  exact r1 j s v hs hv
 ·rw[List.getElem?_append_right (by omega)]at hs
  rw[List.getElem?_append_right (by omega),←n1]at hv
  exact r2 _ s v hs hv
theorem RC.one {k:Kd}{s:SV}{v:Value}(h1:fit k s=true)(h2:Rel F own w s v):RC F own w [k] [v]:=
 ⟨[s],by simp[lN,h1],rfl,fun j s' v' hs hv=>by
  cases j with
  |zero=>simp only[List.getElem?_cons_zero,Option.some.injEq]at hs hv;subst hs;subst hv;exact h2
  |succ j=>simp at hs⟩
end
def K6:Kd→Kd→Bool
 | .s,.s=>true
 | .b,.b=>true
 | .n a,.n b=>decide (a=b)
 | .r a,.r b=>decide (a=b)
 | .m a c,.m b d=>decide (a=b)&&decide (c=d)
 |_,_=>false
theorem Ib:∀ {a b:Kd},K6 a b=true→a=b:=by
 intro a b h
 cases a <;>cases b <;>simp_all [K6]
def FI:List Kd→List Kd→Bool
 | [],[] =>true
 |a::l,b::m=>K6 a b&&FI l m
 |_,_=>false
theorem BS:∀ {a b:List Kd},FI a b=true→a=b
 | [],[],_=>rfl
 |a::l,b::m,h=>by
  simp only[FI,Bool.and_eq_true]at h
  rw[Ib h.1,BS h.2]
def uy (P:Program)(g:TypeId→Option (List Kd)):List Field→Nat→Nat→Option (List Kd)
 | [],off,tot=>bif Nat.beq off tot then some []else none
 |f::r,off,tot=>match g f.type with
  |some a=>bif Nat.beq f.offset off&&Nat.beq a.length (P.cellsOf f.type)then(uy P g r (off+a.length) tot).map (a++ ·)else none
  |none=>none
def AJ (a:List Kd):Nat→List Kd
 |0=>[]
 |n+1=>a++AJ a n
def uz (P:Program):Nat→TypeId→Option (List Kd)
 |0,_=>none
 |n+1,t=>match P.underlying t with
  |some .bool=>some [.b]
  |some (.int k) =>some [.n k]
  |some .string=>some [.s]
  |some (.slice e) =>match xy P e,uz P n e with
   |some k,some ks=>bif FI ks (cF k)&&Nat.beq (P.cellsOf e) (aa k)&&Nat.ble 1 (aa k)then some [.r k]else none
   |_,_=>none
  |some (.struct fs) =>uy P (uz P n) fs.toList 0 (P.cellsOf t)
  |some (.array m e) =>match uz P n e with
   |some a=>bif Nat.beq a.length (P.cellsOf e)&&Nat.beq (P.cellsOf t) (m*a.length)then some (AJ a m)else none
   |none=>none
  |_=>none
section
variable {H:Type}{enc:TypeId×Value→H}{P:Program}{F:Nat→Prop}{own:Own}{w:World}{base:Nat}{spare:Nat→Bool}{held:Bool}{S:DataW H→Prop}
theorem BT {g:TypeId→Option (List Kd)}(hg:∀ t ks,g t=some ks→∀ (fuel:Nat) (cs:List Value) (x:DataW H×List MemPlace),DataW.trod enc P w base spare held fuel t cs=some x→S x.1→RC F own w ks cs)
  (fuel:Nat) (cs:List Value):∀ (fs:List Field) (off:Nat) (ks:List Kd),uy P g fs off cs.length=some ks→(∀ f∈fs,∃ x,DataW.trod enc P w base spare held fuel f.type ((cs.drop f.offset).take (P.cellsOf f.type))=some x∧S x.1)→RC F own w ks (cs.drop off)
 | [],off,ks,h,_=>by
  unfold uy at h
  cases hb:Nat.beq off cs.length with
  |false=>rw[hb]at h;cases h
  |true=>
   rw[hb]at h
   have:off=cs.length:=Nat.eq_of_beq_eq_true hb
   subst this
   cases h
   rw[List.drop_length]
   exact RC.nil
 |f::r,off,ks,h,hx=>by
  unfold uy at h
  cases ha:g f.type with
  |none=>rw[ha]at h;cases h
  |some a=>
   rw[ha]at h
   dsimp only at h
   cases hb:Nat.beq f.offset off&&Nat.beq a.length (P.cellsOf f.type)with
   |false=>rw[hb]at h;cases h
   |true=>
    rw[hb]at h
    simp only[cond_true,Option.map_eq_some_iff]at h
    obtain⟨ks2,h2,rfl⟩:=h
    rw[Bool.and_eq_true]at hb
    have e1:f.offset=off:=Nat.eq_of_beq_eq_true hb.1
    have e2:a.length=P.cellsOf f.type:=Nat.eq_of_beq_eq_true hb.2
    obtain⟨x,hx1,hs1⟩:=hx f (by simp)
    have h3:=hg _ _ ha _ _ _ hx1 hs1
    have h4:=BT hg fuel cs r (off+a.length) ks2 h2 fun f hf=>hx f (by simp[hf])
    have:=h3.app h4
    rw[e1,←e2]at this
    rwa[←List.drop_drop,List.take_append_drop]at this
theorem BU {e:TypeId}{a:List Kd}(ha:∀ (fuel:Nat) (cs:List Value) (x:DataW H×List MemPlace),DataW.trod enc P w base spare held fuel e cs=some x→S x.1→RC F own w a cs)
  (fuel:Nat):∀ (m:Nat) (cs:List Value),cs.length=m*a.length→(∀ i,i<m→∃ x,DataW.trod enc P w base spare held fuel e ((cs.drop (i*a.length)).take a.length)=some x∧S x.1)→RC F own w (AJ a m) cs
 |0,cs,h,_=>by
  have:cs=[]:=by simpa using h
  subst this
  exact RC.nil
 |m+1,cs,h,hx=>by
  obtain⟨x,hx1,hs1⟩:=hx 0 (by omega)
  rw[Nat.zero_mul,List.drop_zero]at hx1
  have h3:=ha _ _ _ hx1 hs1
  have h4:=BU ha fuel m (cs.drop a.length) (by rw[List.length_drop,h,Nat.succ_mul];omega) fun i hi=>by
   obtain⟨x,hx2,hs2⟩:=hx (i+1) (by omega)
   refine⟨x,?_,hs2⟩
   rw[List.drop_drop]
   rwa[Nat.succ_mul,Nat.add_comm]at hx2
  have:=h3.app h4
  rwa[List.take_append_drop]at this
structure Small (S:DataW H→Prop):Prop where
 agg:∀ l,S (.agg l)→∀ d∈l,S d
 slice:∀ l m,S (.slice l m)→l.length≤b_∧∀ d∈l,S d
theorem lg (hS:Small S)(hown:∀ b,¬bP F own b):∀ (n:Nat) (t:TypeId) (ks:List Kd),uz P n t=some ks→∀ (fuel:Nat) (cs:List Value) (x:DataW H×List MemPlace),DataW.trod enc P w base spare held fuel t cs=some x→S x.1→RC F own w ks cs
 |0,_,_,h,_,_,_,_,_=>by cases h
 |n+1,t,ks,h,fuel,cs,x,hx,hs=>by
  unfold uz at h
  split at h
  ·rename_i ht
   cases h
   obtain⟨b,rfl,rfl⟩:=DataW.trod_bool ht hx
   exact RC.one (s:=.v (.bool b)) rfl (.v _)
  ·rename_i k ht
   cases h
   obtain⟨m,rfl,rfl,_⟩:=DataW.trod_int ht hx
   exact RC.one (s:=.v (.int k m)) (by simp[fit]) (.v _)
  ·rename_i ht
   cases h
   obtain⟨b,rfl,rfl,_⟩:=DataW.trod_string ht hx
   exact RC.one (s:=.v (.string b)) rfl (.v _)
  ·rename_i e ht
   split at h
   ·rename_i k ks2 hk hks
    cases hb:FI ks2 (cF k)&&Nat.beq (P.cellsOf e) (aa k)&&Nat.ble 1 (aa k)with
    |false=>rw[hb]at h;cases h
    |true=>
     rw[hb]at h
     cases h
     simp only[Bool.and_eq_true]at hb
     have e1:=BS hb.1.1
     have e2:P.cellsOf e=aa k:=Nat.eq_of_beq_eq_true hb.1.2
     have e3:1≤aa k:=Nat.le_of_ble_eq_true hb.2
     subst e1
     rcases open_slice ht hx with⟨rfl,rfl⟩ | ⟨a,len,cap,m,f2,D,Pl,rfl,hb1,hl,hm,hmm,rfl,hel⟩
     ·exact RC.one (s:=.rs k []) (by simp[fit]) .rs0
     ·have hlm:len≤m:=by subst hmm;split <;>omega
      obtain⟨hs1,hs2⟩:=hS.slice _ _ hs
      simp only[List.length_map,List.length_range]at hs1
      have helt:∀ i,i<len→∃ cs',cs'.length=aa k∧(∀ j v,cs'[j]? =some v→w.cell? ((a.add (i*aa k)).add j)=some v)∧RC F own w (cF k) cs':=fun i hi=>by
       obtain⟨cs',h1,h2⟩:=hel i (by omega)
       have h3:=lg hS hown n e (cF k) hks f2 cs' _ h2 (hs2 _ (List.mem_map_of_mem (List.mem_range.2 hi)))
       unfold World.cells? at h1
       split at h1
       ·refine⟨cs',by rw[mapM_some_length h1,List.length_range,e2],fun j v hj=>?_,h3⟩
        have hlt:j<P.cellsOf e:=by
         have:=(List.getElem?_eq_some_iff.1 hj).1
         rwa[mapM_some_length h1,List.length_range]at this
        have:=mapM_some_get h1 j j (by simp[hlt])
        rw[e2]at this
        rw[this,hj]
       ·cases h1
      by_cases h0:len=0
      ·subst h0
       exact RC.one (s:=.rs k []) (by simp[fit]) .rs0
      ·have hsp:a.spot=none:=by
        obtain⟨cs',h1,h2,_⟩:=helt 0 (by omega)
        have:=h2 0 (cs'[0]'(by omega)) (by rw[List.getElem?_eq_getElem])
        rw[Nat.zero_mul]at this
        simp only[Addr.add,if_true]at this
        unfold World.cell? at this
        split at this
        ·cases hsp:a.spot with
         |none=>rfl
         |some q=>rw[hsp]at this;simp at this
        ·cases this
       obtain⟨ab,ao,asp⟩:=a
       dsimp only at hsp
       subst hsp
       haveI:Inhabited k.T:=⟨di k⟩
       obtain⟨X,hX⟩:=choose_lt (p:=fun i (x:k.T) =>∀ (j:Nat) (s:SV),(cellsOf k x)[j]? =some s→∃ v,w.cell? ⟨ab,ao+i*aa k+j,none⟩=some v∧Rel F own w s v) (n:=len) fun i hi=>by
        obtain⟨cs',h1,h2,l,h3,h4,h5⟩:=helt i hi
        refine⟨mkE k l,fun j s hj=>?_⟩
        rw[jM (k:=k) (l:=l) (x:=mkE k l) (by unfold lO;rw[h3];rfl)]at hj
        have hlt:j<cs'.length:=by
         have:=(List.getElem?_eq_some_iff.1 hj).1
         omega
        refine⟨cs'[j],?_,h5 j s _ hj (List.getElem?_eq_getElem hlt)⟩
        have:=h2 j cs'[j] (List.getElem?_eq_getElem hlt)
        have hadd:∀ p q,((⟨ab,ao,none⟩:Addr).add p).add q=⟨ab,ao+p+q,none⟩:=fun p q=>by
         unfold Addr.add
         by_cases hp:p=0 <;>by_cases hq:q=0 <;>simp[hp,hq]
        rwa[hadd]at this
       have hL:((List.range len).map X).length=len:=by simp
       refine RC.one (s:=.rs k ((List.range len).map X)) (by simp[fit]) ?_
       have hget:∀ (i:Nat) (x:k.T),((List.range len).map X)[i]? =some x→i<len∧x=X i:=fun i x hi=>by
        obtain⟨h1,h2⟩:=List.getElem?_eq_some_iff.1 hi
        rw[hL]at h1
        simp only[List.getElem_map,List.getElem_range]at h2
        subst h2
        exact⟨h1,rfl⟩
       have:=Rel.rs (F:=F) (own:=own) (w:=w) (k:=k) (l:=(List.range len).map X) (b:=ab) (o:=ao) (cap:=cap) (fun i j=>(w.cell? ⟨ab,ao+i*aa k+j,none⟩).getD undef) (by rw[hL];exact hl) (by rw[hL];exact hs1)
        (fun i x hi j s hj=>by
         obtain⟨h1,rfl⟩:=hget i x hi
         obtain⟨v,h2,_⟩:=hX i h1 j s hj
         exact⟨hown _,by rw[h2];rfl⟩)
        (fun i x hi j s hj=>by
         obtain⟨h1,rfl⟩:=hget i x hi
         obtain⟨v,h2,h3⟩:=hX i h1 j s hj
         rw[h2];exact h3)
       rwa[hL]at this
   ·cases h
  ·rename_i fs ht
   obtain⟨xs,m,rfl,rfl,hl,hlen,hf⟩:=DataW.trod_struct ht hx
   rw[←hl]at h
   have:=BT (lg hS hown n) m cs fs.toList 0 ks h fun f hfm=>by
    obtain⟨i,hi,rfl⟩:=List.getElem_of_mem hfm
    have hi':i<fs.size:=by simpa using hi
    have h1:=hf i fs[i] (by simp[hi'])
    rw[List.getElem?_eq_getElem (by omega)]at h1
    refine⟨_,by simpa using h1,hS.agg _ hs _ (List.mem_map_of_mem (List.getElem_mem _))⟩
   simpa using this
  ·rename_i m e ht
   split at h
   ·rename_i a ha
    cases hb:Nat.beq a.length (P.cellsOf e)&&Nat.beq (P.cellsOf t) (m*a.length)with
    |false=>rw[hb]at h;cases h
    |true=>
     rw[hb]at h
     cases h
     rw[Bool.and_eq_true]at hb
     have e1:a.length=P.cellsOf e:=Nat.eq_of_beq_eq_true hb.1
     have e2:P.cellsOf t=m*a.length:=Nat.eq_of_beq_eq_true hb.2
     obtain⟨xs,f2,rfl,rfl,hl,hlen,hf⟩:=DataW.trod_array ht hx
     refine BU (lg hS hown n e a ha) f2 m cs (by rw[hl,e2]) fun i hi=>?_
     have h1:=hf i hi
     rw[List.getElem?_eq_getElem (by omega),←e1]at h1
     exact⟨_,h1,hS.agg _ hs _ (List.mem_map_of_mem (List.getElem_mem _))⟩
   ·cases h
  ·cases h
end
end Go.Sx
end
section
namespace Go.Sx
open Go.Proofs
section
variable {F:Nat→Prop}{own:Own}{w:World}
theorem Ic {k:Tag}{cs:Array Value}(h:RC F own w (cF k) cs.toList):∃ x:k.T,Rel F own w (.agg (cellsOf k x)) (.agg cs):=by
 obtain⟨l,h3,h4,h5⟩:=h
 refine⟨mkE k l,?_⟩
 rw[jM (k:=k) (l:=l) (x:=mkE k l) (by unfold lO;rw[h3];rfl)]
 refine .agg (by simpa using h4.symm) fun j s hj=>?_
 have hlt:j<cs.size:=by
  have:=(List.getElem?_eq_some_iff.1 hj).1
  simpa[h4]using this
 exact h5 j s _ hj (by simp[Array.getD,hlt])
theorem K7 {k:Tag}{v:Value}(h:RC F own w [.r k] [v]):∃ l:List k.T,Rel F own w (.rs k l) v:=by
 obtain⟨l,h3,h4,h5⟩:=h
 obtain⟨x,r,rfl,h6,h7⟩:=jk h3
 have h8:=h5 0 x v rfl rfl
 cases x with
 |rs k' l'=>
  have:k=k':=by
   simp only[fit]at h6
   exact pP h6
  subst this
  exact⟨l',h8⟩
 |_=>simp[fit]at h6
end
end Go.Sx
end
section
namespace Go.Sx
open Go.RowKit Go.WideShapes Go.ChangeShapes
section
variable {H:Type}{enc:TypeId×Value→H}{P:Program}
def Id (P:Program):List TypeId→Bool
 | [] =>true
 |t::r=>P.readableRec t&&Nat.blt t P.types.size&&Id P r
theorem v8 (hl:laidOutB P=true){W W':World}(hg:Below W.heap.size W W'):∀ {ts:List TypeId} {vs:List Value} {ds:List (DataW H)} {ps:List MemPlace},Id P ts=true→
  DataW.TrodAll enc P W 0 (fun _=>true) true ts vs ds ps→(∀ x∈ps,x.block<W.heap.size)→DataW.TrodAll enc P W' 0 (fun b=>decide (b<W.heap.size)) true ts vs ds ps
 | [],vs,ds,ps,_,h,_=>by
  obtain⟨rfl,rfl,rfl⟩:=trodAll_nil h
  exact trodAll_mk0
 |t::ts,vs,ds,ps,hk,h,hlt=>by
  unfold Id at hk
  rw[Bool.and_eq_true,Bool.and_eq_true]at hk
  obtain⟨v,vs',d,ds',p,q,rfl,rfl,rfl,h1,h2⟩:=trodAll_cons h
  refine trodAll_cons_mk (WideElems.Trod_stays hl hk.1.1 (by simpa[Nat.blt_eq]using hk.1.2) h1 (fun x hx=>hg.same (hlt x (List.mem_append_left _ hx))) (fun x hx=>by simpa using hlt x (List.mem_append_left _ hx))) ?_
  exact v8 hl hg hk.2 h2 fun x hx=>hlt x (List.mem_append_right _ hx)
theorem FJ (hl:laidOutB P=true){f:Func}{s:ChangeSpec}{W W':World}{args:Array Value}{ds gs:List (DataW H)}{before:List MemPlace}{t:TypeId}
  (hk:Id P f.params.toList=true) (hW:DataW.Whole enc P f.params.toList s.vars false W args.toList ds gs before)
  (hr:f.resultTypes= #[t]) (ht:P.underlying t=some .bool) (hv:s.vars=[]) (h1:(s.fn H (ds++gs)).results=[.lit (.bool true)]) (h2:(s.fn H (ds++gs)).args=ds) (h3:(s.fn H (ds++gs)).vars=[])
  (hg:Below W.heap.size W W'):s.post enc P f false true false false W args (.bool true) W':=by
 have hlt:=hW.lt
 have hW0:=hW
 obtain⟨p,q,hA,hV,rfl,_,_⟩:=hW
 rw[hv]at hV
 obtain⟨rfl,rfl⟩:=trodVars_none hV
 refine⟨ds,[],p++[],[],p,[],hW0,?_,?_,?_,?_,fun h=>by cases h⟩
 ·rw[h1,hr]
  exact trodAll_cons_mk (shut_bool ht _) trodAll_mk0
 ·rw[h2]
  exact v8 hl hg hk hA fun x hx=>hlt x (by simpa using hx)
 ·rw[h3,hv]
  rfl
 ·exact World.keptBut_mono (fun x hx=>⟨hx,.inr (.inl (by simpa using hx))⟩) (hg.frame (· ∈p++[]))
end
end Go.Sx
end
section
namespace Go.Proofs.YthcbieoehjhjfaaGreat.bulks
theorem one_le {H:Type}(d:DataW H):1≤Rows.uptoBulk d:=by
 cases d with
 |lit l=>cases l <;>simp[Rows.uptoBulk]
 |nil=>simp[Rows.uptoBulk]
 |ptr d=>simp[Rows.uptoBulk]
 |slice kh spare=>simp[Rows.uptoBulk]
 |agg parts=>simp[Rows.uptoBulk]
 |iface t d=>simp[Rows.uptoBulk]
 |map entries=>simp[Rows.uptoBulk]
 |held h=>simp[Rows.uptoBulk]
theorem part_le {H:Type}{d:DataW H}{l:List (DataW H)}(h:d∈l):Rows.uptoBulk d≤Rows.uptoBulkAll l:=by
 induction l with
 |nil=>cases h
 |cons x r ih=>
  simp only[Rows.uptoBulkAll]
  cases List.mem_cons.1 h with
  |inl e=>subst e;omega
  |inr e=>have:=ih e;omega
theorem append {H:Type}(l r:List (DataW H)):Rows.uptoBulkAll (l++r)=Rows.uptoBulkAll l+Rows.uptoBulkAll r:=by
 induction l with
 |nil=>simp[Rows.uptoBulkAll]
 |cons x l ih=>simp only[List.cons_append,Rows.uptoBulkAll,ih];omega
theorem length_le {H:Type}(l:List (DataW H)):l.length≤Rows.uptoBulkAll l:=by
 induction l with
 |nil=>simp[Rows.uptoBulkAll]
 |cons x r ih=>have:=one_le x;simp only[Rows.uptoBulkAll,List.length_cons];omega
theorem slice_le {H:Type}(kh spare:List (DataW H)):kh.length+spare.length+1≤Rows.uptoBulk (.slice kh spare):=by
 have h1:=length_le kh
 have h2:=length_le spare
 simp only[Rows.uptoBulk]
 omega
theorem slice_elems {H:Type}(kh spare:List (DataW H)):Rows.uptoBulkAll kh+1≤Rows.uptoBulk (.slice kh spare):=by
 simp only[Rows.uptoBulk]
 omega
theorem bound {H:Type}{l:List (DataW H)}(hk:Rows.uptoSmall H l=true):Rows.uptoBulkAll l≤1048576:=by
 simpa[Rows.uptoSmall]using hk
theorem room {n b:Nat}(hn:n≤2097152)(hb:b≤4096):(n+n / 4+192)*b≤281474976710656:=by
 have h:(n+n / 4+192)*b≤2621632*4096:=Nat.mul_le_mul (by omega) hb
 omega
end Go.Proofs.YthcbieoehjhjfaaGreat.bulks
end
section
namespace Go.Proofs.YthcbieoehjhjfaaGreat.registerEmpty
open Go.ChangeShapes Go.WideShapes Go.ChangeAt Go.RowKit Go.Sx
set_option linter.unusedVariables false
theorem con_eq (x0:Tag.district.T)(x1:List Tag.deed.T)(x2:Int)(x3:Int)(x4:Int):fX [.agg (cellsOf .district x0),.rs .deed x1,.v (.int .u8 x2),.v (.int .i64 x3),.v (.int .i64 x4)]=some (.det (dg x0 x1 x2 x3 x4) (.v (.bool (dE x0 x1 x2 x3 x4)))):=by
 unfold fX
 simp only[go_sem,Nat.reduceBEq]
theorem call_true {W:World}{cs0:Array Value}(h0:RC (fun _=>False) cg W (cF .district) cs0.toList){v1:Value}(h1:RC (fun _=>False) cg W [.r .deed] [v1])(x2:Int)(h2:0≤x2∧x2≤255)(x3:Int)(h3:(-9223372036854775808)≤x3∧x3≤9223372036854775807)(x4:Int)(h4:(-9223372036854775808)≤x4∧x4≤9223372036854775807):
  Calls Tryz.prog 9 #[.agg cs0,v1,.int .u8 x2,.int .i64 x3,.int .i64 x4] W (fun e W'=>e=.returned (.bool true)∧Below W.heap.size W W'):=by
 obtain⟨x0,r0⟩:=Ic h0
 obtain⟨x1,r1⟩:=K7 h1
 refine(mT.calls _ _ (con_eq x0 x1 x2 x3 x4) (H_ x0 x1 x2 x3 x4 h2 h3 h4) (fun _=>False) W _ (fun b h=>h.elim) ⟨rfl,fun j s hj=>?_⟩).mono fun e W' he=>?_
 ·match j,hj with
  |0,hj=>cases hj;exact r0
  |1,hj=>cases hj;exact r1
  |2,hj=>cases hj;exact .v _
  |3,hj=>cases hj;exact .v _
  |4,hj=>cases hj;exact .v _
 ·rcases he with⟨s,u,own',hs,rfl,hh,hb⟩ | ⟨x,hx,_⟩
  ·simp only[cK]at hs
   subst hs
   rw[Ia x0 x1 x2 x3 x4 h2 h3 h4]at hh
   have:=hh.val
   simp only[nG]at this
   rw[bS this]
   exact⟨rfl,hb⟩
  ·exact hx.elim
theorem own:ownKnob Tryz.prog.godebug=none:=by kernel_rfl
theorem small (H:Type):Small (fun d:DataW H=>Rows.uptoBulk d≤1048576) where
 agg l h d hd:=by
  have h1:=bulks.part_le hd
  simp only[Rows.uptoBulk]at h
  omega
 slice l m h:=by
  have h1:=bulks.slice_le l m
  have h2:=bulks.slice_elems l m
  refine⟨by unfold b_;omega,fun d hd=>?_⟩
  have:=bulks.part_le hd
  omega
theorem laid:laidOutB Tryz.prog=true:=by kernel_rfl
set_option maxRecDepth 100000 in
theorem contract (H:Type)(enc:TypeId×Value→H)(W:World)(base:Nat)(args:Array Value)(ds gs:List (DataW H))(before:List MemPlace)
  (hval:∀ (j:Nat) t v,Tryz.f9.params[j]? =some t→args[j]? =some v→Value.okWide Tryz.prog W .any base t v)
  (hW:DataW.Whole enc Tryz.prog Tryz.f9.params.toList Rows.registerEmptySpec.vars false W args.toList ds gs before) (hk:Rows.uptoSmall H (ds++gs)=true):
  Calls Tryz.prog 9 args W fun e W'=>∃ v,e=.returned v∧Rows.registerEmptySpec.post enc Tryz.prog Tryz.f9 false true false false W args v W':=by
 have hW':=hW
 obtain⟨p,q,hA0,hV,rfl,hfz,hnd⟩:=hW
 have hA:DataW.TrodAll enc Tryz.prog W 0 (fun _=>true) true Tryz.f9.params.toList args.toList ds p:=hA0
 rw[Tryz.params9]at hA hval
 obtain⟨v0,vs0,d0,ds0,p0,q0,hargs,rfl,rfl,h0,r0⟩:=trodAll_cons hA
 obtain⟨v1,vs1,d1,ds1,p1,q1,rfl,rfl,rfl,h1,r1⟩:=trodAll_cons r0
 obtain⟨v2,vs2,d2,ds2,p2,q2,rfl,rfl,rfl,h2,r2⟩:=trodAll_cons r1
 obtain⟨v3,vs3,d3,ds3,p3,q3,rfl,rfl,rfl,h3,r3⟩:=trodAll_cons r2
 obtain⟨v4,vs4,d4,ds4,p4,q4,rfl,rfl,rfl,h4,r4⟩:=trodAll_cons r3
 obtain⟨rfl,rfl,rfl⟩:=trodAll_nil r4
 obtain rfl:args= #[v0,v1,v2,v3,v4]:=by cases args;simp_all
 obtain⟨rfl,rfl⟩:=trodVars_none hV
 have hb:=bulks.bound hk
 simp only[Rows.uptoBulkAll,List.append_nil,List.cons_append,List.nil_append]at hb
 have ho:∀ b,¬bP (fun _=>False) cg b:=fun b h=>by
  rcases h with h| ⟨_,_,h,_⟩
  ·exact h
  ·cases h
 have s0:∃ cs,v0=.agg cs:=by
  have:=hval 0 31 v0 rfl rfl
  simp only[Value.okWide,Tryz.underlying31]at this
  exact⟨_,this.choose_spec.1⟩
 obtain⟨cs0,rfl⟩:=s0
 obtain⟨a1,l1,c1,rfl⟩:=okWide_slice Tryz.underlying32 (hval 1 32 v1 rfl rfl)
 obtain⟨a2,rfl,rfl,rfl,w2⟩:=open_int Tryz.underlying5 (hval 2 5 v2 rfl rfl) h2
 have R2:0≤a2∧a2≤255:=by simpa[Lit.wf,IntKind.min,IntKind.max,IntKind.signed,IntKind.bits]using w2
 obtain⟨a3,rfl,rfl,rfl,w3⟩:=open_int Tryz.underlying3 (hval 3 3 v3 rfl rfl) h3
 have R3:(-9223372036854775808)≤a3∧a3≤9223372036854775807:=by simpa[Lit.wf,IntKind.min,IntKind.max,IntKind.signed,IntKind.bits]using w3
 obtain⟨a4,rfl,rfl,rfl,w4⟩:=open_int Tryz.underlying3 (hval 4 3 v4 rfl rfl) h4
 have R4:(-9223372036854775808)≤a4∧a4≤9223372036854775807:=by simpa[Lit.wf,IntKind.min,IntKind.max,IntKind.signed,IntKind.bits]using w4
 have R0:RC (fun _=>False) cg W (cF .district) cs0.toList:=by
  obtain⟨f,hf⟩:=h0
  exact lg (n:=6) (t:=31) (small H) ho _ (by kernel_rfl) f _ _ hf (by show Rows.uptoBulk d0≤_;omega)
 have R1:RC (fun _=>False) cg W [.r .deed] [.slice a1 l1 c1]:=by
  obtain⟨f,hf⟩:=h1
  exact lg (n:=6) (t:=32) (small H) ho _ (by kernel_rfl) f _ _ hf (by show Rows.uptoBulk d1≤_;omega)
 refine(call_true R0 R1 _ R2 _ R3 _ R4).mono fun e W' ⟨he,hg⟩ =>?_
 subst he
 exact⟨_,rfl,FJ laid (by kernel_rfl) hW' (by kernel_rfl) Tryz.underlying4 rfl rfl rfl rfl hg⟩
def zeroV:Kd→Value
 | .n k=>.int k 0
 | .b=>.bool false
 | .s=>.string (ByteArray.mk #[])
 | .r _=>.slice none 0 0
 | .m _ _=>.map none
 | .f=>.nilFunc
def wit:Array Value:= #[.agg ((cF .district).map zeroV).toArray,.slice none 0 0,.int .u8 0,.int .i64 0,.int .i64 0]
set_option maxRecDepth 100000 in
theorem lifted (os:Os)(started:os.Started)(H:Type)(enc:TypeId×Value→H)(F:Stop.Interp):
  ReturnsInHanded {} Tryz.checked os 9 .any ((Rows.OpenSpec.upto Rows.registerEmptySpec).pre6 enc Tryz.prog Tryz.f9 Rows.registerEmptyUptoRow.domain false) (((Rows.OpenSpec.upto Rows.registerEmptySpec).at F).post enc Tryz.prog Tryz.f9 false true false false):=by
 refine returnsInHanded_of_cond (C:=Tryz.checked) (s:=Rows.OpenSpec.upto Rows.registerEmptySpec) (k:=Rows.uptoSmall) rfl own started (by kernel_rfl) Tryz.func9
  (OpenSpec.witness (enc:=enc) (C:=Tryz.checked) (s:=Rows.OpenSpec.upto Rows.registerEmptySpec) (k:=Rows.uptoSmall) rfl false ⟨#[],wit,[]⟩ 8 (by kernel_rfl) (by kernel_rfl) (by kernel_rfl)
   (x:=(DataW.whole enc Tryz.prog (World.plainHolding Tryz.prog os ⟨#[],wit,[]⟩).memory Tryz.f9.params.toList Rows.registerEmptySpec.vars false wit.toList 8).getD ([],[],[])) (by kernel_rfl) rfl (by kernel_rfl)) ?_
 intro W base args ds gs before hval hW _ hk _
 exact contract H enc W base args ds gs before hval hW hk
theorem over:Rows.registerEmptyUptoRow.holds Tryz.pinned (Rows.OpenSpec.upto Rows.registerEmptySpec):=
 OpenClaim.holds_of_cond 9 Tryz.f9 rfl rfl rfl rfl rfl rfl rfl ⟨rfl,rfl,rfl,rfl,rfl⟩ rfl rfl rfl rfl rfl (by kernel_rfl) Tryz.func9 (by kernel_rfl)
  (of_decide_eq_true (by kernel_rfl)) (by unfold Func.isWrapper;first|(rw[if_pos (by decide+kernel)];kernel_rfl) |(rw[if_neg (by decide+kernel)];exact⟨rfl,rfl⟩))
  (fun os started H enc _ F=>lifted os started H enc F)
theorem proved:Rows.RegisterEmptyUptoSaid:=over
end Go.Proofs.YthcbieoehjhjfaaGreat.registerEmpty
end
