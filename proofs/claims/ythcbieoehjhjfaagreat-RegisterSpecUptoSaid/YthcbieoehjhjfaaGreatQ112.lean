/- Part of the proof that the law RegisterSpec returns true and leaves its arguments as they were, for all arguments of bulk at most 1048576 (the Upto form). -/
import Derived.Test.YthcbieoehjhjfaaGreatQ111
import Derived.Shelf.SlSortCmp.NoneTotal
import Derived.Ground.SlsfProg
import Derived.Test.YthcbieoehjhjfaaGreatProg
import Derived.Test.YthcbieoehjhjfaaGreatQ109
import Derived.Test.YthcbieoehjhjfaaGreatQ108
import Derived.Test.YthcbieoehjhjfaaGreatQ107
set_option linter.all false
set_option maxHeartbeats 4000000
set_option maxRecDepth 100000
section
namespace Go.Sx
open Go.Proofs
open IntKind (i64)
def ou (x:Deed)(B:Int->Int->Int):Int->Int->Int:=fun r=>if r=x.right then Aq x (B r)else B r
def Iw (ds:List Deed)(B:Int->Int->Int):Int->Int->Int:=ds.foldl (fun B x=>ou x B) B
def FR:List Deed->(Int->Int->Int)->List Int
 | [],_=>[]
 |x::r,B=>(if B x.right x.since=0 then [x.no]else [])++FR r (ou x B)
structure MapOk (d:District)(m:BM):Prop where
 nodup:(gC m).Nodup
 good:∀ r,∃ L,L<=1073741824/\Good d.farms.length L (bk m r)
theorem MapOk.le {d:District}{m:BM}(h:MapOk d m)(r f:Int):0<=bk m r f/\bk m r f<=1073741824:=by
 obtain⟨L,h1,h2⟩:=h.good r;have:=h2.nn f;by_cases e:bk m r f=0
 ·omega
 ·obtain⟨a,b⟩:=h2.sup f e;have:=Ap h2.nn _ f a b;have:=h2.tot;omega
theorem K2 {d:District}{ds:List Deed}{x:Deed}(hx:Fit d x)(hk:x.kind≠4){e:List Int}{m:BM}(hm:MapOk d m)(he:(e.length+1)*8<=fB):
  c8 ds x (e,m)/\∃ m',bN ds x (e,m)=.inr (e++(if bk m x.right x.since=0 then [x.no]else []),m')/\MapOk d m'/\bk m'=ou x (bk m):=by
 obtain⟨r0,r1,r2,s0,s1⟩:=hx.held hk;have hv:=hm.le x.right x.since;have ebk:dL .registerTitle .int m (RT x.right x.since)=bk m x.right x.since:=rfl;have hdel:=t7 (RT x.right x.since) m hm.nodup;have hstep:∀ m':BM,(gC m').Nodup->bk m'=ou x (bk m)->MapOk d m':=fun m' hN hb=>by
  refine⟨hN,fun r=>?_⟩;obtain⟨L,h1,h2⟩:=hm.good r;refine⟨L,h1,?_⟩;rw[hb];show Good _ _ (if r=x.right then Aq x (bk m r)else bk m r);split
  ·exact(Iv hx hk h2).1
  ·exact h2
 have hlen:(e++[x.no]).length=e.length+1:=by simp
 unfold c8 bN;simp only[ebk,hlen];by_cases hn:bk m x.right x.since=0
 ·have b0:(bk m x.right x.since==0)=true:=by simp[hn]
  rw[b0,if_pos hn];refine⟨⟨fun _=>he,(fun h=>by cases h)⟩,m,rfl,hm,?_⟩;funext r
  unfold ou;split
  ·rename_i h;subst h;unfold Aq;rw[if_pos hn]
  ·rfl
 ·have b0:(bk m x.right x.since==0)=false:=by simpa using hn
  rw[b0,if_neg hn,List.append_nil];simp only[cond_false];have edel:=N6 m hm.nodup x.right x.since;have kdel:(gC (mG .registerTitle .int m (RT x.right x.since))).Nodup:=hdel.1;have egood:Good d.farms.length (1073741824 - bk m x.right x.since) (bk (mG .registerTitle .int m (RT x.right x.since)) x.right):=by
   obtain⟨L,h1,h2⟩:=hm.good x.right;rw[edel];simp only[if_true];exact h2.put s0 s1 (Int.le_refl _) (by have:=h2.tot;omega)
  by_cases k1:x.kind=1
  ·have b1:(x.kind==1)=true:=by simp[k1]
   rw[b1];simp only[cond_true];obtain⟨a,b,c⟩:=hx.pass k1;have hto:=egood.le30 (by omega) x.to;have e2:dL .registerTitle .int (mG .registerTitle .int m (RT x.right x.since)) (RT x.right x.to)=iw (bk m x.right) x.since 0 x.to:=by
    have:=congrFun (congrFun edel x.right) x.to;simpa[bk]using this
   have hto':0<=iw (bk m x.right) x.since 0 x.to/\iw (bk m x.right) x.since 0 x.to<=2147483648:=by
    rw[edel]at hto;simpa using hto
   refine⟨⟨(fun h=>by cases h),(fun _ h=>by cases h)⟩,_,rfl,?_⟩;have hb:bk (c7 x (bk m x.right x.since) (mG .registerTitle .int m (RT x.right x.since)))=ou x (bk m):=by
    unfold c7;rw[e2,a8 (by omega) (by omega),Ar,edel];funext r
    unfold ou;by_cases h:r=x.right
    ·subst h;simp only[if_true];unfold Aq;rw[if_neg hn,if_pos k1]
    ·simp only[if_neg h]
   exact⟨hstep _ (by unfold c7;exact(oq _ _ _ kdel).1) hb,hb⟩
  ·have b1:(x.kind==1)=false:=by simpa using k1
   rw[b1];simp only[cond_false];by_cases k2:x.kind=2
   ·have b2:(x.kind==2)=true:=by simp[k2]
    rw[b2];simp only[cond_true];obtain⟨p1,p2,p3⟩:=FQ (hx.split k2) hv.1 hv.2 kdel (M:=1073741824 - bk m x.right x.since) (by omega) egood;refine⟨⟨(fun h=>by cases h),fun _ _=>⟨fun _=>p1,(fun h=>by cases h)⟩⟩,_,rfl,?_⟩;have hb:bk (ca x (bk m x.right x.since) (mG .registerTitle .int m (RT x.right x.since)))=ou x (bk m):=by
     rw[p3,edel];funext r
     unfold ou;by_cases h:r=x.right
     ·subst h;simp only[if_true];unfold Aq;rw[if_neg hn,if_neg k1,if_pos k2]
     ·simp only[if_neg h]
    exact⟨hstep _ p2 hb,hb⟩
   ·have b2:(x.kind==2)=false:=by simpa using k2
    rw[b2];simp only[cond_false];have k3:x.kind=3:=by rcases hx.kind with h|h|h|h <;>omega
    have b3:(x.kind==3)=true:=by simp[k3]
    rw[b3];simp only[cond_true];refine⟨⟨(fun h=>by cases h),fun _ _=>⟨(fun h=>by cases h),(fun _ h=>by cases h)⟩⟩,_,rfl,?_⟩;have hb:bk (mG .registerTitle .int m (RT x.right x.since))=ou x (bk m):=by
     rw[edel];funext r
     unfold ou;by_cases h:r=x.right
     ·subst h;simp only[if_true];unfold Aq;rw[if_neg hn,if_neg k1,if_neg k2]
     ·simp only[if_neg h]
    exact⟨hstep _ kdel hb,hb⟩
theorem y7 {d:District}(ds:List Deed):∀ (l:List Deed),(∀ x∈l,Fit d x/\x.kind≠4)->∀ (e:List Int) (m:BM),MapOk d m->(e.length+l.length)*8<=fB->
  okL (bN ds) (c8 ds) l (e,m)/\∃ m',fJ (bN ds) l (e,m)=.inr (e++FR l (bk m),m')/\MapOk d m'/\bk m'=Iw l (bk m)
 | [],_,e,m,hm,_=>⟨trivial,m,by simp[fJ,FR],hm,rfl⟩
 |x::l,h,e,m,hm,hB=>by
  simp only[List.length_cons]at hB;obtain⟨h1,h2⟩:=h x List.mem_cons_self;obtain⟨q1,m1,q2,q3,q4⟩:=K2 (ds:=ds) h1 h2 (e:=e) hm (by omega);have hlen:(e++(if bk m x.right x.since=0 then [x.no]else [])).length<=e.length+1:=by split <;>simp
  obtain⟨r1,m2,r2,r3,r4⟩:=y7 ds l (fun y hy=>h y (List.mem_cons_of_mem _ hy)) (e++(if bk m x.right x.since=0 then [x.no]else [])) m1 q3 (by omega);refine⟨⟨q1,fun s hs=>by rw[q2]at hs;cases hs;exact r1⟩,m2,?_,r3,?_⟩
  ·simp only[fJ,q2];rw[r2,q4,List.append_assoc];rfl
  ·rw[r4,q4];rfl
def B0 (d:District):Int->Int->Int:=fun r f=>if 0<=r/\r< (d.rights.length:Int)/\(d.rights.getD r.toNat default).kind=1/\(d.rights.getD r.toNat default).farm=f then(d.rights.getD r.toNat default).litres else 0
structure TakeOk (d:District)(x:Right):Prop where
 f0:0<=x.farm
 f1:x.farm< (d.farms.length:Int)
 l0:1<=x.litres
 l1:x.litres<=1073741824
theorem K3 {d:District}(h:bg d=0){k:Nat}(hk:k<d.rights.length)(ht:(d.rights.getD k default).kind=1):TakeOk d (d.rights.getD k default):=by
 have:=((uz d).1 h).2.2.2.2.2.2.2.1 k hk;unfold cU at this;rw[eV]at this;have h2:fq d (d.rights.getD k default)=true:=by
  cases h3:fq d (d.rights.getD k default)with
  |true=>rfl
  |false=>rw[h3]at this;cases this
 unfold fq at h2;cases h4:((!(bT (d.rights.getD k default).farm (d.farms.length:Int))) ||(!(bT (d.rights.getD k default).reach (d.reaches.length:Int)))) ||(!(ax ([0,(d.rights.getD k default).since,(d.rights.getD k default).to,(i64.wrap (d.hours - 1))])))with
 |true=>rw[h4]at h2;cases h2
 |false=>
  rw[h4,show((d.rights.getD k default).kind==1)=true by rw[ht];rfl]at h2;simp only[cond_true,cond_false,Bool.and_eq_true]at h2;simp only[Bool.or_eq_false_iff,Bool.not_eq_false']at h4;have h5:=h4.1.1;unfold bT at h5;simp only[Bool.and_eq_true,decide_eq_true_eq]at h5;have h6:=vn h2.1.2;exact⟨by omega,by omega,by omega,by omega⟩
theorem N7 {d:District}(h:bg d=0)(r:Int):∃ L,L<=1073741824/\Good d.farms.length L (B0 d r):=by
 by_cases hr:0<=r/\r< (d.rights.length:Int)/\(d.rights.getD r.toNat default).kind=1
 ·have ht:=K3 h (k:=r.toNat) (by omega) hr.2.2;have hl:=ht.l0;refine⟨(d.rights.getD r.toNat default).litres,ht.l1,?_⟩;have e:B0 d r=iw (fun _=>0) (d.rights.getD r.toNat default).farm (d.rights.getD r.toNat default).litres:=by
   funext f
   unfold B0 iw;by_cases hf:f=(d.rights.getD r.toNat default).farm
   ·rw[if_pos ⟨hr.1,hr.2.1,hr.2.2,hf.symm⟩,if_pos hf]
   ·rw[if_neg (fun h=>hf h.2.2.2.symm),if_neg hf]
  have t0:∀ n,tot n (fun _=>0)=0:=fun n=>by
   induction n with
   |zero=>rfl
   |succ n ih=>unfold tot;rw[ih];rfl
  rw[e];exact Good.put (L:=0) ⟨fun _=>Int.le_refl _,fun f hf=>absurd rfl hf,by rw[t0];exact Int.le_refl _⟩ ht.f0 ht.f1 (by omega) (by rw[t0];omega)
 ·refine⟨0,by omega,?_⟩;have e:B0 d r=fun _=>0:=by
   funext f
   unfold B0;rw[if_neg (fun h=>hr ⟨h.1,h.2.1,h.2.2.1⟩)]
  have t0:∀ n,tot n (fun _=>0)=0:=fun n=>by
   induction n with
   |zero=>rfl
   |succ n ih=>unfold tot;rw[ih];rfl
  rw[e];exact⟨fun _=>Int.le_refl _,fun f hf=>absurd rfl hf,by rw[t0];exact Int.le_refl _⟩
theorem Ix {d:District}(h:bg d=0):∃ m,aj (bM d) d.rights.length 0 []=.inr m/\MapOk d m/\bk m=B0 d:=by
 obtain⟨m,h1,h2,h3⟩:=sL (step:=bM d) (fun k (m:BM) =>(gC m).Nodup/\bk m=fun r f=>if r< (k:Int)then B0 d r f else 0) d.rights.length 0 ([]:BM) ⟨by simp[gC],by
   funext r f
   by_cases hr:r< ((0:Nat):Int)
   ·rw[if_pos hr];unfold B0 bk;rw[if_neg (by omega)];rfl
   ·rw[if_neg hr];rfl⟩ (fun j m _ hj ⟨j1,j2⟩ =>by
  rw[Nat.zero_add]at hj;unfold bM;by_cases hk:(d.rights.getD j default).kind=1
  ·rw[show((d.rights.getD j default).kind==1)=true by rw[hk];rfl];refine⟨_,rfl,(oq _ _ _ j1).1,?_⟩;rw[Ar,j2];funext r f
   by_cases hr:r=(j:Int)
   ·subst hr;simp only[if_true];unfold iw B0;dsimp only;rw[if_pos (by omega:(j:Int) < ((j+1:Nat):Int)),Int.toNat_natCast];by_cases hf:f=(d.rights.getD j default).farm
    ·rw[if_pos hf,if_pos ⟨by omega,by omega,hk,hf.symm⟩]
    ·rw[if_neg hf,if_neg (by omega),if_neg (fun h=>hf h.2.2.2.symm)]
   ·simp only[if_neg hr];by_cases h2:r< (j:Int)
    ·rw[if_pos h2,if_pos (by omega)]
    ·rw[if_neg h2,if_neg (by omega)]
  ·rw[show((d.rights.getD j default).kind==1)=false by simpa using hk];refine⟨_,rfl,j1,?_⟩;rw[j2];funext r f
   by_cases hr:r=(j:Int)
   ·subst hr;rw[if_neg (by omega),if_pos (by omega)];unfold B0;rw[if_neg (fun h=>hk (by rw[Int.toNat_natCast]at h;exact h.2.2.1))]
   ·by_cases h2:r< (j:Int)
    ·rw[if_pos h2,if_pos (by omega)]
    ·rw[if_neg h2,if_neg (by omega)])
 have e:bk m=B0 d:=by
  rw[h3];funext r f
  split
  ·rfl
  ·unfold B0;rw[if_neg (by omega)]
 refine⟨m,h1,⟨h2,fun r=>?_⟩,e⟩;rw[e];exact N7 h r
theorem y8 {d:District}(h:bg d=0){ds:List Deed}(hd:∀ x∈ds,Fit d x/\x.kind≠4)(hl:ds.length<=512):
  fv d ds/\∃ m,cK d ds=(m,sR (FR ds (B0 d)))/\MapOk d m/\bk m=Iw ds (B0 d):=by
 obtain⟨m0,e0,o0,b0⟩:=Ix h;obtain⟨q1,m1,q2,q3,q4⟩:=y7 (d:=d) ds ds hd [] m0 o0 (by simp only[List.length_nil];unfold fB;omega);rw[List.nil_append]at q2;rw[b0]at q2 q4;refine⟨fun _ z hz=>?_,m1,?_,q3,q4⟩
 ·rw[e0]at hz;cases hz;refine⟨Iq ds,?_⟩;rw[qo];exact q1
 ·unfold cK;rw[e0,qo];simp only[q2]
end Go.Sx
end
section
namespace Go.Proofs
open Go.Shelf
def Tryz.sortLh_ren:Go.Shelf.Ren:=⟨fun|6=>50|15=>81|14=>80|28=>112|29=>113|20=>104|21=>105|22=>106|23=>107|24=>108|25=>109|26=>110|27=>111|46=>136|47=>137|48=>138|49=>139|50=>140|57=>149|n=>n,fun|22=>44|24=>67|25=>100|3=>3|39=>116|0=>0|53=>162|55=>164|4=>4|46=>156|45=>155|50=>78|5=>5|9=>9|66=>184|70=>187|76=>195|77=>192|n=>n,fun|n=>n⟩
theorem Tryz.sortLh:Go.Proofs.SlLaysF0.n6 Tryz.prog Tryz.sortLh_ren:= {
 mixed:=by kernel_rfl
 f6:=⟨Tryz.f50.name,by decide,Tryz.func50.trans (congrArg some (by kernel_rfl))⟩
 f14:=⟨Tryz.f80.name,by decide,Tryz.func80.trans (congrArg some (by kernel_rfl))⟩
 f15:=Tryz.func81.trans (congrArg some (by kernel_rfl))
 f20:=⟨Tryz.f104.name,by decide,Tryz.func104.trans (congrArg some (by kernel_rfl))⟩
 f21:=⟨Tryz.f105.name,by decide,Tryz.func105.trans (congrArg some (by kernel_rfl))⟩
 f22:=⟨Tryz.f106.name,by decide,Tryz.func106.trans (congrArg some (by kernel_rfl))⟩
 f23:=⟨Tryz.f107.name,by decide,Tryz.func107.trans (congrArg some (by kernel_rfl))⟩
 f24:=⟨Tryz.f108.name,by decide,Tryz.func108.trans (congrArg some (by kernel_rfl))⟩
 f25:=⟨Tryz.f109.name,by decide,Tryz.func109.trans (congrArg some (by kernel_rfl))⟩
 f26:=⟨Tryz.f110.name,by decide,Tryz.func110.trans (congrArg some (by kernel_rfl))⟩
 f27:=⟨Tryz.f111.name,by decide,Tryz.func111.trans (congrArg some (by kernel_rfl))⟩
 f28:=Tryz.func112.trans (congrArg some (by kernel_rfl))
 f29:=Tryz.func113.trans (congrArg some (by kernel_rfl))
 f46:=⟨Tryz.f136.name,by decide,Tryz.func136.trans (congrArg some (by kernel_rfl))⟩
 f47:=Tryz.func137.trans (congrArg some (by kernel_rfl))
 f48:=Tryz.func138.trans (congrArg some (by kernel_rfl))
 f49:=⟨Tryz.f139.name,by decide,Tryz.func139.trans (congrArg some (by kernel_rfl))⟩
 f50:=⟨Tryz.f140.name,by decide,Tryz.func140.trans (congrArg some (by kernel_rfl))⟩
 f57:=⟨Tryz.f149.name,by decide,Tryz.func149.trans (congrArg some (by kernel_rfl))⟩
 t0:=Tryz.underlying0
 a0:=Tryz.isAgg0
 z0:=Tryz.sizeOf0
 v0:=Tryz.zeroValue0
 t3:=Tryz.underlying3
 a3:=Tryz.isAgg3
 z3:=Tryz.sizeOf3
 v3:=Tryz.zeroValue3
 t4:=Tryz.underlying4
 a4:=Tryz.isAgg4
 z4:=Tryz.sizeOf4
 v4:=Tryz.zeroValue4
 t5:=Tryz.underlying5
 a5:=Tryz.isAgg5
 z5:=Tryz.sizeOf5
 v5:=Tryz.zeroValue5
 t9:=Tryz.underlying9
 a9:=Tryz.isAgg9
 z9:=Tryz.sizeOf9
 v9:=Tryz.zeroValue9
 t22:=Tryz.underlying44
 a22:=Tryz.isAgg44
 z22:=Tryz.sizeOf44
 v22:=Tryz.zeroValue44
 t25:=Tryz.underlying100
 a25:=Tryz.isAgg100
 z25:=Tryz.sizeOf100
 v25:=Tryz.zeroValue100
 t39:=Tryz.underlying116
 a39:=Tryz.isAgg116
 z39:=Tryz.sizeOf116
 v39:=Tryz.zeroValue116
 t45:=Tryz.underlying155
 a45:=Tryz.isAgg155
 z45:=Tryz.sizeOf155
 v45:=Tryz.zeroValue155
 t46:=Tryz.underlying156
 a46:=Tryz.isAgg156
 z46:=Tryz.sizeOf156
 v46:=Tryz.zeroValue156
 t50:=Tryz.underlying78
 a50:=Tryz.isAgg78
 z50:=Tryz.sizeOf78
 v50:=Tryz.zeroValue78
 t53:=Tryz.underlying162
 a53:=Tryz.isAgg162
 z53:=Tryz.sizeOf162
 v53:=Tryz.zeroValue162
 t55:=Tryz.underlying164
 a55:=Tryz.isAgg164
 z55:=Tryz.sizeOf164
 v55:=Tryz.zeroValue164
 t66:=Tryz.underlying184
 a66:=Tryz.isAgg184
 z66:=Tryz.sizeOf184
 v66:=Tryz.zeroValue184
 t70:=Tryz.underlying187
 a70:=Tryz.isAgg187
 z70:=Tryz.sizeOf187
 v70:=Tryz.zeroValue187
 t76:=Tryz.underlying195
 a76:=Tryz.isAgg195
 z76:=Tryz.sizeOf195
 v76:=Tryz.zeroValue195
 t77:=Tryz.underlying192
 a77:=Tryz.isAgg192
 z77:=Tryz.sizeOf192
 v77:=Tryz.zeroValue192}
end Go.Proofs
end
section
namespace Go.Sx
open Go.Lib Go.Proofs Go.RowKit Go.Shelf Go.Sort
noncomputable def pY:List SV->List Ob->Option HCon:=mU .holding 51 [] bL
@[go_sem] theorem Iy {l0:List Holding}:pY [.os 0,.fn 51 [] []] [.row .holding l0]=some (dW (apart bL l0) (.tup []) [.row .holding (srt bL l0)]):=x4
theorem x5:xm .holding:=fun x s hs=>by
 simp only[cellsOf,List.mem_cons,List.not_mem_nil,or_false]at hs;rcases hs with rfl|rfl|rfl|rfl;all_goals exact⟨_,rfl,rfl⟩
theorem uG (x y:Holding):o5 (.agg (cellsOf .holding x):: .agg (cellsOf .holding y)::[])=some (.det True (.v (.int .i64 (bL x y)))):=by
 simp only[go_sem,Nat.reduceBEq]
theorem As:FnOkO Tryz.prog 50 pY:=
 BT (k:=.holding) Tryz.sortLh (fun w=>by kernel_rfl) (fun w=>by kernel_rfl) x5 (by decide) (g:=51) (caps:=[]) tU (cf:=bL) uG uu (fun s hs=>by cases hs) ⟨default,default,uG _ _⟩
end Go.Sx
end
section
namespace Go.Sx
open Go.Proofs
open IntKind (i64)
theorem clQ {p:Prop}(h:p:=by((repeat' (first|with_reducible refine And.intro ?_ ?_|with_reducible intro _)) <;>(first|done|with_reducible exact Empty.elim ‹Empty› |with_reducible assumption|rfl|((try simp only[sH,BA]at *);first|with_reducible assumption|(simp_all only[cO,dK];done) |grind|(simp_all only[cO,dK];grind))))):p:=h
@[go_sem] def c_ (a0:District)(a1:List Deed)(a2:Int)(a3:Int)(k_0:RegisterTitle×Int)(s_0:List Holding):Empty⊕(List Holding):=(bif(decide (k_0.2 > 0))then .inr (s_0++([({ right:=k_0.1.right,farm:=k_0.1.farm,litres:=k_0.2,rank:=(a0.rights.getD (Int.toNat k_0.1.right) default).rank}:Holding)]))else .inr s_0)
def ix (a0:District)(a1:List Deed)(a2:Int)(a3:Int)(k_0:RegisterTitle×Int)(s_0:List Holding):Prop:=((decide (k_0.2 > 0))=true->((0<=k_0.1.right/\k_0.1.right< (a0.rights.length:Int))/\((s_0++([({ right:=k_0.1.right,farm:=k_0.1.farm,litres:=k_0.2,rank:=(a0.rights.getD (Int.toNat k_0.1.right) default).rank}:Holding)])).length*32<=fB)))
def da (a0:District)(a1:List Deed)(a2:Int)(a3:Int):List Holding×Int:=letI q0:=ai a0 a1;(bif(q0 !=0)then([],q0)else(bif((!(ap a2 0 (i64.wrap (a0.hours - 1)))) ||(!(ap a3 0 1048576)))then([],1)else(match fJ (c_ a0 a1 a2 a3) ((cK a0 (cn a1 a2 a3)).1) ([])with| .inl x=>x.elim| .inr s_0=>((srt bL s_0),0))))
def fD (a0:District)(a1:List Deed)(a2:Int)(a3:Int):Prop:=letI q0:= !(ap a2 0 (i64.wrap (a0.hours - 1)));letI q1:=da a0 a1 a2 a3;letI q2:=ai a0 a1;letI q3:= !(ap a3 0 1048576);letI q4:=cn a1 a2 a3;letI q5:=c_ a0 a1 a2 a3;((dl a0 a1)/\(((q2 !=0)=true->(([],q2)=q1))/\((q2 !=0)=false->(((q0||q3)=true->(([],1)=q1))/\((q0||q3)=false->((dQ a1 a2 a3)/\((fv a0 q4)/\(∀ L_0,L_0.Perm ((cK a0 q4).1)->(okL q5 (ix a0 a1 a2 a3) L_0 ([])/\(∀ s_0,fJ q5 L_0 ([])=.inr s_0->((apart bL s_0)/\(((srt bL s_0),0)=q1))))))))))))
@[go_sem] def qY:List SV->Option Con:=(pD .district fun a0=>(pR .deed fun a1=>(pI fun a2=>(pI fun a3=>(pE (.det (fD a0 a1 a2 a3) (.tup [.nw .holding ((da a0 a1 a2 a3).1),.v (.int .i64 ((da a0 a1 a2 a3).2))])))))))
theorem zq86 {l0 l1:List Nat}(a0:JL l0)(a1:JL l1){p:Prop}(h:JL l0->JL l1->p:=by intro ja jb;simp only[go_sem,Nat.reduceBEq,Nat.reduceLeDiff,Nat.reduceLT,decide_true,Nat.reduceAdd,Nat.reduceSub,Nat.reduceMul,Int.reduceLE,Int.reduceLT,Int.reduceToNat,Int.reduceNeg,reduceCtorEq,List.not_mem_nil];all_goals exact g_ ja jb):p:=h a0 a1
theorem zq87 {p:Prop}(h:p:=by simp only[go_sem,Nat.reduceBEq,Nat.reduceLeDiff,Nat.reduceLT,decide_true,Nat.reduceAdd,Nat.reduceSub,Nat.reduceMul,Int.reduceLE,Int.reduceLT,Int.reduceToNat,Int.reduceNeg,reduceCtorEq];all_goals exact clQ):p:=h
theorem xr:FnOk Tryz.prog 18 qY:=by
 have hG:ConsOk Tryz.prog (mkG [(15,fun l=>eK (cX [.st .district,.sl .deed] l)),(47,iX),(48,fun l=>j6 (cX [.st .district,.o] l)),(49,fun l=>iK (cX [.sl .deed,.o,.o] l))] [(50,pY)]):=av (cgc (fu.norm [.st .district,.sl .deed]) (cgc jU (cgc (mV.norm [.st .district,.o]) (cgc (lK.norm [.sl .deed,.o,.o]) cg0)))) (cgc As cg0);refine nI [(.tmp 8,.holding)] mixed al hG (fn:=Tryz.f18) (c:=ae Tryz.f18) kr kr kr kr (aS fun a0=>(dN fun a1=>(cq fun a2=>(cq fun a3=>(aD (fun hp=>?_))))));dsimp only[aC]at hp;unfold fD at hp;refine⟨nbl rfl,(fun id st=>bif Nat.beq id 0 then some (LCP (τ:=RegisterTitle×Int) (ρ:=Empty) (σ:=(List Holding)) 4 [.slot 8 (.row .holding ([]))] [0,1,2,3,4] (fun left_0 cur_0 s_0=>⟨[(4,.ptr 0 0),(8,.os 4),(41,.ptr 3 0)],[.cells (cellsOf .district a0),.mp .registerTitle .int ((cK a0 (cn a1 a2 a3)).1) (some (3,none)),.dead,.mi (some 1) (((cK a0 (cn a1 a2 a3)).1).length) left_0 cur_0,.row .holding s_0]⟩) (c_ a0 a1 a2 a3) (ix a0 a1 a2 a3) ((cK a0 (cn a1 a2 a3)).1) ([]) ((·.elim)) ((·.elim)) (fun s_0=>⟨[(8,.os 4)],[.dead,.dead,.dead,.dead,.row .holding s_0]⟩) st)else none),?_,?_⟩
 ·unfold ae Tryz.f18;simp only[ak,true_and,and_true]
  ·refine HW (dA .registerTitle,dA .int) 3 mixed al hG kr (fun _=>rfl) fun left_0 cur_0 s_0 hp0=>⟨L0,ah _,?_⟩
   ·by_cases hl0:left_0=[]
    ·subst hl0;exact zq86 (jl [0,1,2,3,7]) (jl [0,1,2,3,4])
    ·simp only[go_sem,Nat.reduceBEq,Nat.reduceLeDiff,Nat.reduceLT,decide_true,Nat.reduceAdd,Nat.reduceSub,Nat.reduceMul,Int.reduceLE,Int.reduceLT,Int.reduceToNat,Int.reduceNeg,reduceCtorEq,hl0];intro j hj0;obtain⟨hlt0,hq0⟩:=hp0 j hj0;unfold ix at hq0;all_goals exact g_ (jl [0,1,2,3,7]) (jl [0,1,2,3,4])
 ·unfold ae Tryz.f18;exact zq87
def eW (d:District)(l_:List Deed)(known:Int):List Int×Int:=(bif((ai d l_) !=0)then([],(ai d l_))else(bif(!(ap known 0 1048576))then([],1)else((cK d (cn l_ 4096 known)).2,0)))
def iy (d:District)(l_:List Deed)(known:Int):Prop:=((dl d l_)/\(((ai d l_) !=0)=false->((!(ap known 0 1048576))=false->((dQ l_ 4096 known)/\(fv d (cn l_ 4096 known))))))
@[go_sem] def ov:List SV->Option Con:=(pD .district fun d=>(pR .deed fun l_=>(pI fun known=>(pE (.det (iy d l_ known) (.tup [.nw .int ((eW d l_ known).1),.v (.int .i64 ((eW d l_ known).2))]))))))
theorem sW:FnOk Tryz.prog 20 ov:=by
 have hG:ConsOk Tryz.prog (mkG [(15,fun l=>eK (cX [.st .district,.sl .deed] l)),(47,iX),(48,fun l=>j6 (cX [.st .district,.o] l)),(49,fun l=>iK (cX [.sl .deed,.o,.o] l))] []):=av (cgc (fu.norm [.st .district,.sl .deed]) (cgc jU (cgc (mV.norm [.st .district,.o]) (cgc (lK.norm [.sl .deed,.o,.o]) cg0)))) cg0;refine nI [(.tmp 6,.int)] mixed al hG (fn:=Tryz.f20) (c:=ae Tryz.f20) kr kr kr kr (aS fun d=>(dN fun l_=>(cq fun known=>(aD (fun hp=>?_)))));dsimp only[aC]at hp;unfold iy at hp;refine⟨nbl rfl,L0,ah _,?_⟩
 ·unfold ae Tryz.f20;try unfold eW
  exact zq1
def uH (d:District)(l:List Deed)(hour known:Int):Int->Int->Int:=Iw (stS (uX l hour known)) (B0 d)
def Iz (d:District)(B:Int->Int->Int)(r f:Nat):Option Holding:=if 0<B r f then some { right:=(r:Int),farm:=(f:Int),litres:=B r f,rank:=(d.rights.getD r default).rank}else none
def ow (d:District)(B:Int->Int->Int)(r:Nat):List Holding:=(List.range d.farms.length).filterMap (Iz d B r)
def mW (d:District)(B:Int->Int->Int):List Holding:=(List.range d.rights.length).flatMap (ow d B)
theorem mu {d:District}{B:Int->Int->Int}{r:Nat}{x:Holding}:x∈ow d B r↔∃ f:Nat,f<d.farms.length/\0<B r f/\x= { right:=(r:Int),farm:=(f:Int),litres:=B r f,rank:=(d.rights.getD r default).rank}:=by
 unfold ow Iz;rw[List.mem_filterMap];constructor
 ·rintro⟨f,hf,h⟩;rw[List.mem_range]at hf;split at h
  ·rename_i h0;exact⟨f,hf,h0,(Option.some.inj h).symm⟩
  ·cases h
 ·rintro⟨f,hf,h0,rfl⟩;exact⟨f,List.mem_range.2 hf,by rw[if_pos h0]⟩
theorem t8 {d:District}{B:Int->Int->Int}{x:Holding}:x∈mW d B↔0<=x.right/\x.right< (d.rights.length:Int)/\0<=x.farm/\x.farm< (d.farms.length:Int)/\0<x.litres/\x.litres=B x.right x.farm/\x.rank=(d.rights.getD x.right.toNat default).rank:=by
 unfold mW;rw[List.mem_flatMap];constructor
 ·rintro⟨r,hr,hx⟩;rw[List.mem_range]at hr;obtain⟨f,hf,h0,rfl⟩:=mu.1 hx;exact⟨by simp only;omega,by simp only;omega,by simp only;omega,by simp only;omega,h0,rfl,by simp only[Int.toNat_natCast]⟩
 ·rintro⟨a,b,c,e,h0,h1,h2⟩;refine⟨x.right.toNat,List.mem_range.2 (by omega),mu.2 ⟨x.farm.toNat,by omega,?_,?_⟩⟩
  ·rw[Int.toNat_of_nonneg a,Int.toNat_of_nonneg c];omega
  ·rw[Int.toNat_of_nonneg a,Int.toNat_of_nonneg c,<-h1,<-h2]
theorem BX:∀ n:Nat,(List.range n).Pairwise (· < ·):=fun n=>List.pairwise_lt_range
theorem sX (d:District)(B:Int->Int->Int):(mW d B).Pairwise hlt:=by
 unfold mW;rw[List.pairwise_flatMap];refine⟨fun r _=>?_,?_⟩
 ·unfold ow;rw[List.pairwise_filterMap];refine(BX _).imp fun {a b} hab x hx y hy=>?_;unfold Iz at hx hy;split at hx
  ·split at hy
   ·cases hx;cases hy;exact Or.inr ⟨rfl,Or.inl (by show(a:Int) < (b:Int);omega)⟩
   ·cases hy
  ·cases hx
 ·refine(BX _).imp fun {a b} hab x hx y hy=>?_;obtain⟨f,_,_,rfl⟩:=mu.1 hx;obtain⟨g,_,_,rfl⟩:=mu.1 hy;simp only[hlt,tV,and_false,or_false];omega
theorem K4 (x:Holding):¬hlt x x:=by simp only[hlt,tV,and_false,or_false];omega
theorem FT {l:List Holding}(h:l.Pairwise hlt):l.Nodup:=h.imp fun {a b} hab e=>by subst e;exact K4 _ hab
theorem BY {α β:Type}(f:α->List β)(k:Nat):∀ l:List α,(∀ a∈l,(f a).length<=k)->(l.flatMap f).length<=l.length*k
 | [],_=>by simp
 |a::l,h=>by
  have h1:=h a List.mem_cons_self;have h2:=BY f k l fun b hb=>h b (List.mem_cons_of_mem _ hb);rw[List.flatMap_cons,List.length_append,List.length_cons,Nat.add_mul,Nat.one_mul];omega
theorem FU {d:District}(hr:Right1 d)(B:Int->Int->Int):(mW d B).length<=153600:=by
 have h1:=BY (ow d B) 600 (List.range d.rights.length) fun r _=>Nat.le_trans (List.length_filterMap_le _ _) (by rw[List.length_range];exact hr.farms);rw[List.length_range]at h1;have:=hr.rights;show((List.range d.rights.length).flatMap (ow d B)).length<=_;have:d.rights.length*600<=256*600:=Nat.mul_le_mul_right _ this;omega
def mX (d:District)(k:RegisterTitle×Int):Option Holding:=if 0<k.2 then some { right:=k.1.right,farm:=k.1.farm,litres:=k.2,rank:=(d.rights.getD (Int.toNat k.1.right) default).rank}else none
theorem At (d:District)(l:List Deed)(h n:Int):∀ (L:BM) (s:List Holding),fJ (c_ d l h n) L s=.inr (s++L.filterMap (mX d))
 | [],s=>by simp[fJ]
 |k::L,s=>by
  by_cases hk:0<k.2
  ·have e:mX d k=some { right:=k.1.right,farm:=k.1.farm,litres:=k.2,rank:=(d.rights.getD (Int.toNat k.1.right) (default:Right)).rank}:=by unfold mX;rw[if_pos hk]
   rw[List.filterMap_cons_some e];simp only[fJ];unfold c_;rw[decide_eq_true (show k.2 > 0 from hk)];simp only[cond_true];have:=At d l h n L (s++[{ right:=k.1.right,farm:=k.1.farm,litres:=k.2,rank:=(d.rights.getD (Int.toNat k.1.right) (default:Right)).rank}]);unfold c_ at this;rw[this,List.append_assoc];rfl
  ·have e:mX d k=none:=by unfold mX;rw[if_neg hk]
   rw[List.filterMap_cons_none e];simp only[fJ];unfold c_;rw[decide_eq_false (show ¬k.2 > 0 from hk)];simp only[cond_false];have:=At d l h n L s;unfold c_ at this;exact this
theorem Dx (d:District)(l:List Deed)(h n:Int):∀ (L:BM) (s:List Holding),(∀ k∈L,0<k.2->0<=k.1.right/\k.1.right< (d.rights.length:Int))->(s.length+(L.filterMap (mX d)).length)*32<=fB->okL (c_ d l h n) (ix d l h n) L s
 | [],_,_,_=>trivial
 |k::L,s,hk,hB=>by
  by_cases h0:0<k.2
  ·have e:mX d k=some { right:=k.1.right,farm:=k.1.farm,litres:=k.2,rank:=(d.rights.getD (Int.toNat k.1.right) (default:Right)).rank}:=by unfold mX;rw[if_pos h0]
   rw[List.filterMap_cons_some e,List.length_cons]at hB;refine⟨fun _=>⟨hk k List.mem_cons_self h0,by rw[List.length_append];simp only[List.length_cons,List.length_nil];omega⟩,fun s' hs=>?_⟩;unfold c_ at hs;rw[decide_eq_true (show k.2 > 0 from h0)]at hs;cases hs;exact Dx d l h n L _ (fun q hq=>hk q (List.mem_cons_of_mem _ hq)) (by rw[List.length_append];simp only[List.length_cons,List.length_nil];omega)
  ·have e:mX d k=none:=by unfold mX;rw[if_neg h0]
   rw[List.filterMap_cons_none e]at hB;refine⟨fun h=>absurd (of_decide_eq_true h) h0,fun s' hs=>?_⟩;unfold c_ at hs;rw[decide_eq_false (show ¬k.2 > 0 from h0)]at hs;cases hs;exact Dx d l h n L _ (fun q hq=>hk q (List.mem_cons_of_mem _ hq)) hB
theorem EB {d:District}{r:Int}(hr:¬ (0<=r/\r< (d.rights.length:Int))):∀ (ds:List Deed) (B:Int->Int->Int),(∀ x∈ds,Fit d x/\x.kind≠4)->Iw ds B r=B r
 | [],B,_=>rfl
 |x::ds,B,h=>by
  have h1:=h x List.mem_cons_self;have h2:=h1.1.held h1.2;show Iw ds (ou x B) r=_;rw[EB hr ds _ fun y hy=>h y (List.mem_cons_of_mem _ hy)];unfold ou;rw[if_neg (by omega)]
theorem xu {d:District}{l:List Deed}(h:Deeds d l)(hour known:Int):∀ x∈stS (uX l hour known),Fit d x/\x.kind≠4:=fun x hx=>by
 have hx:=KU.1 hx;unfold uX at hx;rw[List.mem_filter]at hx;refine⟨h.fit x hx.1,fun e=>?_⟩;have:=hx.2;rw[e]at this;simp at this
theorem EC (l:List Deed):(stS l).length=l.length:=(qn (pL l)).symm
theorem K5 {α:Type}{a b:List α}(ha:a.Nodup)(hb:b.Nodup)(h:∀ x,x∈a↔x∈b):a.Perm b:=(List.perm_ext_iff_of_nodup ha hb).2 h
theorem FV {d:District}{l:List Deed}(h:Deeds d l){m:BM}(hm:MapOk d m){hour known:Int}(hb:bk m=uH d l hour known):
  (m.filterMap (mX d)).Perm (mW d (uH d l hour known))/\∀ k∈m,0<k.2->0<=k.1.right/\k.1.right< (d.rights.length:Int):=by
 have hget:∀ (t:RegisterTitle) (v:Int),(t,v)∈m->bk m t.right t.farm=v:=fun t v htv=>by
  have:=(xo hm.nodup).2 htv;show(eM m { right:=t.right,farm:=t.farm}).getD _=v;have e:({ right:=t.right,farm:=t.farm}:RegisterTitle)=t:=rfl;rw[e,this];rfl
 have hrng:∀ k∈m,0<k.2->0<=k.1.right/\k.1.right< (d.rights.length:Int):=fun k hk h0=>by
  rcases Classical.em (0<=k.1.right/\k.1.right< (d.rights.length:Int))with hr|hr
  ·exact hr
  ·have e:=hget k.1 k.2 hk;rw[hb]at e;unfold uH at e;rw[EB hr _ _ (xu h hour known)]at e;unfold B0 at e;rw[if_neg (fun h=>hr ⟨h.1,h.2.1⟩)]at e;omega
 refine⟨K5 ?_ (FT (sX _ _)) fun x=>?_,hrng⟩
 ·rw[List.Nodup,List.pairwise_filterMap];have:m.Pairwise fun a b=>a.1≠b.1:=by
   have:=hm.nodup;unfold gC at this;rw[List.Nodup,List.pairwise_map]at this;exact this
  refine this.imp fun {a b} hab x hx y hy=>?_;unfold mX at hx hy;split at hx
  ·split at hy
   ·cases hx;cases hy;intro e;simp only[Holding.mk.injEq]at e;refine hab ?_;obtain⟨⟨a1,a2⟩,a3⟩:=a;obtain⟨⟨b1,b2⟩,b3⟩:=b;simp only at e;simp[e.1,e.2.1]
   ·cases hy
  ·cases hx
 ·rw[List.mem_filterMap,t8];constructor
  ·rintro⟨k,hk,hx⟩;unfold mX at hx;split at hx
   ·rename_i h0;cases hx;have e:=hget k.1 k.2 hk;obtain⟨a,b⟩:=hrng k hk h0;obtain⟨L,_,hg⟩:=hm.good k.1.right;obtain⟨c,f⟩:=hg.sup k.1.farm (by rw[e];omega);exact⟨a,b,c,f,h0,by simp only;rw[<-hb,e],rfl⟩
   ·cases hx
  ·rintro⟨a,b,c,f,h0,h1,h2⟩;rw[<-hb]at h1;have h3:eM m (RT x.right x.farm)=some x.litres:=by
    have e:bk m x.right x.farm=(eM m (RT x.right x.farm)).getD 0:=rfl;cases hg:eM m (RT x.right x.farm)with
    |none=>rw[e,hg]at h1;simp at h1;omega
    |some v=>rw[e,hg]at h1;simp at h1;rw[h1]
   refine⟨(RT x.right x.farm,x.litres),(xo hm.nodup).1 h3,?_⟩;unfold mX;rw[if_pos h0];simp only[Option.some.injEq];rw[<-h2]
open Go.Shelf Go.Sort in
theorem y9 {d:District}{B:Int->Int->Int}{s:List Holding}(h:s.Perm (mW d B)):apart bL s/\srt bL s=mW d B:=by
 have e1:∀ x y,ltOf bL x y=true↔hlt x y:=fun x y=>by unfold ltOf;rw[decide_eq_true_eq,w6]
 have e2:∀ x y,ltOf bL x y=false↔¬hlt x y:=fun x y=>by rw[<-e1];simp
 have heq:∀ x∈mW d B,∀ y∈mW d B,¬hlt x y->¬hlt y x->x=y:=fun x hx y hy h1 h2=>by
  obtain⟨_,_,_,_,_,x1,x2⟩:=t8.1 hx;obtain⟨_,_,_,_,_,y1,y2⟩:=t8.1 hy;simp only[hlt,tV,and_false,or_false]at h1 h2;have q1:x.right=y.right:=by omega
  have q2:x.farm=y.farm:=by omega
  obtain⟨a,b,c,e⟩:=x;obtain⟨a',b',c',e'⟩:=y;simp only at q1 q2 x1 x2 y1 y2;subst q1;subst q2;rw[x1,x2,y1,y2]
 refine⟨fun x hx y hy h1 h2=>heq x (h.subset hx) y (h.subset hy) ((e2 x y).1 h1) ((e2 y x).1 h2),?_⟩;unfold srt;have hp:(s.mergeSort fun x y=>!(ltOf bL y x)).Perm (mW d B):=(List.mergeSort_perm _ _).trans h;refine List.Perm.eq_of_pairwise (le:=fun x y=>(!ltOf bL y x)=true) ?_ ?_ ?_ hp
 ·intro x y hx hy h1 h2;simp only[Bool.not_eq_true']at h1 h2;exact heq x (hp.subset hx) y hy ((e2 x y).1 h2) ((e2 y x).1 h1)
 ·refine List.pairwise_mergeSort ?_ ?_ s
  ·intro a b c h1 h2;simp only[Bool.not_eq_true']at h1 h2 |-;exact uu.3 c b a h2 h1
  ·intro a b;simp only[Bool.or_eq_true,Bool.not_eq_true'];rcases Classical.em (hlt b a)with hh|hh
   ·refine .inr ((e2 _ _).2 fun h3=>?_);simp only[hlt,tV,and_false,or_false]at hh h3;omega
   ·exact .inl ((e2 _ _).2 hh)
 ·refine(sX d B).imp fun {a b} hab=>?_;simp only[Bool.not_eq_true'];refine(e2 _ _).2 fun h3=>?_;simp only[hlt,tV,and_false,or_false]at hab h3;omega
theorem y_ (d:District)(l:List Deed)(hour known:Int):fD d l hour known/\
  da d l hour known=if ai d l≠0 then([],ai d l)else if 0<=hour/\hour<d.hours/\0<=known/\known<=1048576 then(mW d (uH d l hour known),0)else([],1):=by
 by_cases hc:ai d l=0
 ·have hD:=pW hc;have hE:=((t6 d l).1 hc).1;have hh:=hD.right.hours;have hh1:=hD.right.hours1;have hw:((!(ap hour 0 (i64.wrap (d.hours - 1)))) ||(!(ap known 0 1048576)))= !decide (0<=hour/\hour<d.hours/\0<=known/\known<=1048576):=by
   rw[a8 (by omega) (by omega),<-Bool.not_and];congr 1
   rw[Bool.eq_iff_iff,Bool.and_eq_true,nJ,nJ,decide_eq_true_eq];omega
  obtain⟨c1,c2⟩:=uF l hour known hD.len;have hlen:(stS (uX l hour known)).length<=512:=by rw[EC];exact Nat.le_trans (List.length_filter_le _ _) hD.len
  obtain⟨f1,m,f2,f3,f4⟩:=y8 hE (xu hD hour known) hlen;obtain⟨p1,p2⟩:=FV hD f3 (hour:=hour) (known:=known) f4;have key:∀ L:BM,L.Perm m->(L.filterMap (mX d)).Perm (mW d (uH d l hour known)):=fun L hL=>(hL.filterMap _).trans p1;have val:da d l hour known=if 0<=hour/\hour<d.hours/\0<=known/\known<=1048576 then(mW d (uH d l hour known),0)else([],1):=by
   unfold da;rw[hc,hw,c2,f2];simp only[bne_self_eq_false,cond_false];by_cases hg:0<=hour/\hour<d.hours/\0<=known/\known<=1048576
   ·rw[decide_eq_true hg,if_pos hg];simp only[Bool.not_true,cond_false];rw[At,List.nil_append];simp only;rw[(y9 (key m (List.Perm.refl _))).2]
   ·rw[decide_eq_false hg,if_neg hg];rfl
  refine⟨⟨gB d l,(fun h=>by rw[hc]at h;cases h),fun _=>⟨fun h=>?_,fun h=>?_⟩⟩,by rw[if_neg (by simp[hc])];exact val⟩
  ·rw[hw]at h;rw[val,if_neg (by simpa only[Bool.not_eq_true',decide_eq_false_iff_not]using h)]
  ·rw[hw]at h;have hg:0<=hour/\hour<d.hours/\0<=known/\known<=1048576:=by simpa using h
   rw[c2,f2];refine⟨c1,f1,fun L hL=>?_⟩;have hk:=key L hL;refine⟨Dx d l hour known L [] (fun k hk=>p2 k (hL.subset hk)) ?_,fun s hs=>?_⟩
   ·have h1:=hk.length_eq;have h2:=FU hD.right (uH d l hour known);rw[h1,List.length_nil];unfold fB;omega
   ·rw[At,List.nil_append]at hs;cases hs;obtain⟨s1,s2⟩:=y9 hk;exact⟨s1,by rw[s2,val,if_pos hg]⟩
 ·have hne:(ai d l !=0)=true:=by simpa using hc
  have val:da d l hour known=([],ai d l):=by unfold da;rw[hne];rfl
  refine⟨⟨gB d l,(fun _=>val.symm),fun h=>?_⟩,by rw[if_pos hc];exact val⟩;rw[hne]at h;cases h
def aV:District:=({ name:=(ByteArray.mk #[]),hours:=4,tank:=({ cap:=9,start:=9}:Tank),reaches:=[({ name:=(ByteArray.mk #[]),up:=(-1),delay:=1,cap:=50,bank:=50,siphon:=0,evap:=({ lo:=0,hi:=0}:Range),seep:=(({ n:=0,d:=1}:Ratio),({ n:=0,d:=1}:Ratio))}:Reach)],farms:=[({ name:=(ByteArray.mk #[]),reach:=0,area:=0,crop:=(-1)}:Farm),({ name:=(ByteArray.mk #[]),reach:=0,area:=0,crop:=(-1)}:Farm),({ name:=(ByteArray.mk #[]),reach:=0,area:=0,crop:=(-1)}:Farm)],crops:=[],rights:=[({ name:=(ByteArray.mk #[]),kind:=1,farm:=0,reach:=0,rank:=7,litres:=5,since:=0,to:=3,every:=1,length:=1}:Right)],duties:=[],wells:=[]}:District)
@[go_sem] def qZ:List SV->Option Con:=(pE (.det True (.agg (cellsOf .district (aV)))))
theorem xv:FnOk Tryz.prog 33 qZ:=by
 have hG:ConsOk Tryz.prog (mkG [] []):=av cg0 cg0;refine aR [.st .district] mixed al hG (fn:=Tryz.f33) (c:=ae Tryz.f33) kr kr kr kr (aD (fun hp=>?_));dsimp only[aC]at hp;refine⟨nbl rfl,L0,ah _,?_⟩
 ·unfold ae Tryz.f33;try unfold aV
  exact zq1
def jv:Ratio:=({ n:=1,d:=2}:Ratio)
@[go_sem] def sY:List SV->Option Con:=(pE (.det True (.agg [.v (.int .i64 ((jv).n)),.v (.int .i64 ((jv).d))])))
theorem x6:FnOk Tryz.prog 34 sY:=by
 have hG:ConsOk Tryz.prog (mkG [] []):=av cg0 cg0;refine Hc true mixed al hG (fn:=Tryz.f34) (c:=ae Tryz.f34) kr kr kr kr (aD (fun hp=>?_));dsimp only[aC]at hp;refine⟨nbl rfl,L0,ah _,?_⟩
 ·unfold ae Tryz.f34;try unfold jv
  exact zq1
end Go.Sx
end
section
namespace Go.Sx
open Go.RowKit
def IA (n0 id:Nat):Ob->SV
 | .row k l=>bif Nat.ble n0 id then .rs k l else .any
 |_=>.any
def isV:SV->Bool
 | .v _=>true
 |_=>false
def x7 (n0:Nat)(h:List Ob):SV->SV
 | .v x=>.v x
 | .rs k l=>.rs k l
 | .agg l=>bif l.all isV then .agg l else .any
 | .os id=>IA n0 id (ag h id)
 |_=>.any
def x8 (n0:Nat)(h:List Ob):SV->SV
 | .tup l=>.tup (l.map (x7 n0 h))
 |s=>x7 n0 h s
def Dy (n0:Nat)(own:Own):Own:=fun i=>if i<n0 then own i else none
section
variable {F:Nat->Prop}{own:Own}{w:World}{n0:Nat}{h:List Ob}
theorem sZ {b:Nat}(hb:¬bG F own b):¬bG F (Dy n0 own) b:=by
 rintro (hf| ⟨id,hd,e,hm⟩)
 ·exact hb (.inl hf)
 ·unfold Dy at e;split at e
  ·exact hb (.inr ⟨id,hd,e,hm⟩)
  ·cases e
theorem BZ (hp:Hp F own w h):∀ (s:SV) (v:Value),Rel F own w s v->Rel F (Dy n0 own) w (x7 n0 h s) v:=by
 intro s v hr;cases s with
 |v x=>exact hr.over (.v x) fun b hb=>sZ hb
 |rs k l=>exact hr.over .rs fun b hb=>sZ hb
 |agg l=>
  simp only[x7];cases ha:l.all isV with
  |false=>exact .any _
  |true=>
   refine hr.over (.agg fun j s hj=>?_) fun b hb=>sZ hb;have:=List.all_eq_true.1 ha s (List.mem_of_getElem? hj);cases s <;>first|exact .v _|cases this
 |os id=>
  obtain⟨hd,h1,rfl,h2⟩:=d8 hr;simp only[x7];cases ho:ag h id with
  |row k l=>
   simp only[IA];cases hn:Nat.ble n0 id with
   |false=>exact .any _
   |true=>
    have hn':=nbl hn;obtain⟨hd',e0,e⟩:=hp.at ho rfl;rw[h1]at e0;cases e0;have hnb:∀ b∈hd.bs,¬bG F (Dy n0 own) b:=by
     rintro b hb (hf| ⟨i,hi,e1,e2⟩)
     ·exact hp.apart id hd b h1 hb hf
     ·unfold Dy at e1;split at e1
      ·rename_i hlt;have:=hp.inj id i hd hi b h1 e1 hb e2;omega
      ·cases e1
    rcases e with⟨a,e1,rfl,_⟩ | ⟨b,o,cap,cs,ty,e1,e2,h3,h4,h5,h6,h7⟩
    ·rw[e1];exact .rs0
    ·rw[e1];refine .rs (fun i j=>cs.getD (o+i*aa k+j) undef) h5 h6 (fun i x hi j s hj=>?_) (fun i x hi j s hj=>?_)
     ·obtain⟨u,k1,k2⟩:=h7 i x hi j s hj;refine⟨hnb b (by simp[e2]),?_⟩;rw[bS h3,k1];simp[Array.getD_eq_getD_getElem?,k1]
     ·obtain⟨u,k1,k2⟩:=h7 i x hi j s hj;have:cs.getD (o+i*aa k+j) undef=u:=by simp[Array.getD_eq_getD_getElem?,k1]
      rw[this];exact k2.over (lu hj) fun b hb=>sZ hb
  |_=>exact .any _
 |_=>exact .any _
theorem IB (hp:Hp F own w h)(s:SV)(v:Value)(hr:Rel F own w s v):Rel F (Dy n0 own) w (x8 n0 h s) v:=by
 cases s with
 |tup l=>
  cases hr with
  |tup h0 h1=>
   refine .tup (by simpa using h0) fun j s hj=>?_;obtain⟨x,hx,rfl⟩:=ci hj;exact BZ hp x _ (h1 j x hx)
 |_=>exact BZ hp _ _ hr
@[go_sem] theorem Sp {l:List SV}:x8 n0 h (.tup l)=.tup (l.map (x7 n0 h)):=(rfl)
@[go_sem] theorem T6 {id:Nat}:x8 n0 h (.os id)=IA n0 id (ag h id):=(rfl)
@[go_sem] theorem UT {x:Value}:x8 n0 h (.v x)=.v x:=(rfl)
@[go_sem] theorem T7 {k:Tag}{l:List k.T}:x8 n0 h (.rs k l)=.rs k l:=(rfl)
@[go_sem] theorem Sq {l:List SV}:x8 n0 h (.agg l)=bif l.all isV then .agg l else .any:=(rfl)
@[go_sem] theorem UU {x:Value}:x7 n0 h (.v x)=.v x:=(rfl)
@[go_sem] theorem T8 {k:Tag}{l:List k.T}:x7 n0 h (.rs k l)=.rs k l:=(rfl)
@[go_sem] theorem Sr {l:List SV}:x7 n0 h (.agg l)=bif l.all isV then .agg l else .any:=(rfl)
@[go_sem] theorem T9 {id:Nat}:x7 n0 h (.os id)=IA n0 id (ag h id):=(rfl)
@[go_sem] theorem Ss {k:Tag}{l:List k.T}{id:Nat}:IA n0 id (.row k l)=bif Nat.ble n0 id then .rs k l else .any:=(rfl)
@[go_sem] theorem isV_v {x:Value}:isV (.v x)=true:=(rfl)
end
def IC (pks:List Pk)(n0:Nat)(S:SV)(H:List Ob)(h:List Ob):Option SV->Prop
 |some s=>S=qw pks (x8 n0 h s)/\fN ⟨[],H⟩ n0 ⟨[],h⟩
 |none=>False
def L3 (pks:List Pk)(n0:Nat)(rs:List ResultVar)(ts:Tis)(S:SV)(H:List Ob):Ex->St->Prop
 | .exit _,_=>False
 | .normal,st=>IC pks n0 S H st.h (kh (jm ts st rs))
 | .ret,st=>IC pks n0 S H st.h (kh (jm ts st rs))
 | .pan _,_=>False
section
variable {P:Program}{ts:Tis}{G:Cons}{n0:Nat}{S s:SV}{H h:List Ob}{rs:List ResultVar}{st:St}{pks:List Pk}
@[go_sem] theorem Ql:IC pks n0 S H h (some s)=(S=qw pks (x8 n0 h s)/\fN ⟨[],H⟩ n0 ⟨[],h⟩):=(rfl)
@[go_sem] theorem K6:L3 pks n0 rs ts S H .normal st=IC pks n0 S H st.h (kh (jm ts st rs)):=(rfl)
@[go_sem] theorem Qm:L3 pks n0 rs ts S H .ret st=IC pks n0 S H st.h (kh (jm ts st rs)):=(rfl)
end
def K7 (h:List Ob):Option Con->Option HCon
 |some (.det p s) =>some (dW p (x8 0 (aB 3 s) (eO 3 0 s)) (h.map fun _=>.dead))
 |_=>none
def ID (C:List SV->Option Con)(l:List SV)(h:List Ob):Option HCon:=K7 h (C (l.map (dB h 6)))
@[go_sem] theorem T_ {C:List SV->Option Con}{l:List SV}{h:List Ob}:ID C l h=K7 h (C (l.map (dB h 6))):=(rfl)
@[go_sem] theorem Su {h:List Ob}{p:Prop}{s:SV}:K7 h (some (.det p s))=some (dW p (x8 0 (aB 3 s) (eO 3 0 s)) (h.map fun _=>.dead)):=(rfl)
section
variable {P:Program}{F:Nat->Prop}{own:Own}{w w':World}
def IE (own:Own):Own:=fun i=>(own i).map fun hd=>{ hd with bs:=[]}
theorem K8 {b:Nat}(hb:¬F b):¬bG F (IE own) b:=by
 rintro (hf| ⟨id,hd,e,hm⟩)
 ·exact hb hf
 ·unfold IE at e;cases h:own id with
  |none=>rw[h]at e;cases e
  |some x=>rw[h]at e;cases e;cases hm
theorem FnOk.eat {f:FuncId}{C:List SV->Option Con}(hf:FnOk P f C):FnOkO P f (ID C) where
 enter:=fun l h c e=>by
  unfold ID at e;cases hc:C (l.map (dB h 6))with
  |none=>rw[hc]at e;cases e
  |some c'=>exact hf.enter _ c' hc
 calls:=fun l h c e hp F own w vs hH hr=>by
  unfold ID at e;cases hc:C (l.map (dB h 6))with
  |none=>rw[hc]at e;cases e
  |some c'=>
   rw[hc]at e;cases c' with
   |det p s=>
    simp only[K7,Option.some.injEq]at e;subst e;have n0:∀ {F':Nat->Prop} {w1:World},(∀ b,F' b->b<w1.heap.size)->Hp F' ce w1 []:=fun hf=>⟨(fun id hd h=>by cases h),hf,(fun id hd b h=>by cases h),(fun i j hi hj b h=>by cases h),(fun id hd b h=>by cases h),(fun id h=>by cases h)⟩;have hE:∀ {id:Nat} {hd:Hd},IE own id=some hd->hd.bs=[]/\id<h.length:=fun {id hd} h=>by
     unfold IE at h;cases ho:own id with
     |none=>rw[ho]at h;cases h
     |some x=>rw[ho]at h;cases h;exact⟨rfl,hH.dom id x ho⟩
    refine(hf.calls _ _ hc hp F w vs hH.foreign ⟨by simpa using hr.1,fun j s hj=>?_⟩).mono ?_
    ·obtain⟨x,hx,rfl⟩:=ci hj;exact qg hH 6 x _ (hr.2 j x hx)
    ·rintro e w' (⟨s',u,own',h1,h2,h3,h4⟩ | ⟨x,hx,_⟩)
     ·cases h1;obtain⟨own2,q1,q2,q3,q4⟩:=tH (n0 hH.foreign) (.inl fun b=>⟨fun h=>.inl h,fun h=>h.elim id fun⟨_,_,h,_⟩ =>by cases h⟩) h4 h3;have q5:=IB (n0:=0) q1 _ _ q3;refine⟨(),IE own,trivial,⟨u,h2,?_⟩,?_,?_,by simp⟩
      ·refine q5.carry ⟨fun id hd h=>by simp[Dy]at h,fun b _ hb=>⟨K8 fun hf=>hb (.inl hf),rfl⟩⟩
      ·refine⟨fun id hd h=>by rw[List.length_map];exact(hE h).2,fun b hb=>Nat.lt_of_lt_of_le (hH.foreign b hb) h4.size,fun id hd b h hm=>?_,fun i j hi hj b h _ hm=>?_,fun id hd b h hm=>?_,fun id hd=>?_⟩
       ·rw[(hE h).1]at hm;cases hm
       ·rw[(hE h).1]at hm;cases hm
       ·rw[(hE h).1]at hm;cases hm
       ·rw[kQ,List.getElem?_map]at hd;cases ho:h[id]? <;>rw[ho]at hd <;>simp[b_]at hd
      ·refine⟨fun id hd h=>?_,fun id hd b h hm=>?_,h4.os,h4.tape,h4.output,h4.size,fun k hk=>h4.block k hk.1⟩
       ·exact⟨{ hd with bs:=[]},by show(own id).map _=_;rw[show own id=some hd from h];rfl,rfl,rfl,rfl⟩
       ·rw[(hE h).1]at hm;cases hm
     ·cases hx
   |_=>cases e
end
end Go.Sx
end
section
namespace Go.Sx
open Go.Proofs
open IntKind (i64)
def fR:=({ no:=5,kind:=4,right:=0,since:=0,to:=0,parts:=[],of_:=3,at_:=0,known:=9}:Deed)
def fS:=([({ no:=1,kind:=3,right:=0,since:=2,to:=0,parts:=[],of_:=0,at_:=0,known:=0}:Deed)])
def eX:=(eW aV fS 0)
def eY:=(eX.1)
def eZ:=(eY.length:Int)
def e_:=({ no:=3,kind:=2,right:=0,since:=0,to:=0,parts:=[({ farm:=1,share:=jv}:Part),({ farm:=2,share:=jv}:Part)],of_:=0,at_:=1,known:=2}:Deed)
def fa:=([e_])
def fT:=(d6 aV fa fR)
def bu:=(fT.1)
def db:=(bu.length:Int)
def fU:=(bu.getD 1 (default:Deed))
def fV:=(da aV bu 1 9)
def fW:=(da aV bu 1 2)
def fX:=(da aV bu 0 2)
def ei:=(fW.1)
def fY:=(fV.1)
def fZ:=(fX.1)
def fE:=(fY.length:Int)
def eG:=(ei.length:Int)
def fF:=(fZ.length:Int)
def dg:=(ei.getD 1 (default:Holding))
def cd:=(ei.getD 0 (default:Holding))
def br:=(fY.getD 0 (default:Holding))
def aX:=(fZ.getD 0 (default:Holding))
def iZ:=(d6 aV bu e_)
def k_:=((bu.take (Int.toNat db)).drop 1)
def gG:=(ai aV k_)
def kF:Bool:=(bif((((((((((((fT.2 !=0) ||(iZ.2 !=171)) ||(fX.2 !=0)) ||(fW.2 !=0)) ||(fV.2 !=0)) ||((da aV ([]) 4 0).2 !=1)) ||(eX.2 !=0)) ||(db !=2)) ||(fF !=1)) ||(eG !=2)) ||(fE !=1)) ||(eZ !=1))then false else(bif((gG !=250) ||(fU.no !=5))then false else((((((aX.right==0)&&((aX.farm==0)&&((aX.litres==5)&&(aX.rank==7))))&&((br.right==0)&&((br.farm==0)&&((br.litres==5)&&(br.rank==7)))))&&((cd.right==0)&&((cd.farm==1)&&((cd.litres==3)&&(cd.rank==7)))))&&((dg.right==0)&&((dg.farm==2)&&((dg.litres==2)&&(dg.rank==7)))))&&((eY.getD 0 0) ==1))))
def j7:Prop:=((ed aV fa fR)/\((ed aV bu e_)/\((fD aV bu 0 2)/\((fD aV bu 1 2)/\((fD aV bu 1 9)/\((fD aV ([]) 4 0)/\((iy aV fS 0)/\(((((((((((((fT.2 !=0) ||(iZ.2 !=171)) ||(fX.2 !=0)) ||(fW.2 !=0)) ||(fV.2 !=0)) ||((da aV ([]) 4 0).2 !=1)) ||(eX.2 !=0)) ||(db !=2)) ||(fF !=1)) ||(eG !=2)) ||(fE !=1)) ||(eZ !=1))=false->((0<=1/\1<=db/\db<=db)/\((dl aV k_)/\(((gG !=250)=false->(0<=1/\1<db))/\(((gG !=250) ||(fU.no !=5))=false->((0<=0/\0<fF)/\((((aX.right==0)&&((aX.farm==0)&&((aX.litres==5)&&(aX.rank==7))))=true->(0<=0/\0<fE))/\(((((aX.right==0)&&((aX.farm==0)&&((aX.litres==5)&&(aX.rank==7))))&&((br.right==0)&&((br.farm==0)&&((br.litres==5)&&(br.rank==7)))))=true->(0<=0/\0<eG))/\((((((aX.right==0)&&((aX.farm==0)&&((aX.litres==5)&&(aX.rank==7))))&&((br.right==0)&&((br.farm==0)&&((br.litres==5)&&(br.rank==7)))))&&((cd.right==0)&&((cd.farm==1)&&((cd.litres==3)&&(cd.rank==7)))))=true->(0<=1/\1<eG))/\((((((aX.right==0)&&((aX.farm==0)&&((aX.litres==5)&&(aX.rank==7))))&&((br.right==0)&&((br.farm==0)&&((br.litres==5)&&(br.rank==7)))))&&((cd.right==0)&&((cd.farm==1)&&((cd.litres==3)&&(cd.rank==7)))))&&((dg.right==0)&&((dg.farm==2)&&((dg.litres==2)&&(dg.rank==7)))))=true->(0<=0/\0<eZ))))))))))))))))))
@[go_sem] def s3:List SV->Option Con:=(pE (.det (j7) (.v (.bool (kF)))))
theorem x9:FnOk Tryz.prog 11 s3:=by
 have hG:ConsOk Tryz.prog (mkG [(13,fun l=>jV (cX [.st .district,.sl .deed,.st .deed] l)),(15,fun l=>eK (cX [.st .district,.sl .deed] l)),(18,fun l=>qY (cX [.st .district,.sl .deed,.o,.o] l)),(20,fun l=>ov (cX [.st .district,.sl .deed,.o] l)),(33,qZ),(34,sY)] [(13,ID (fun l=>jV (cX [.st .district,.sl .deed,.st .deed] l)))]):=av (cgc (l5.norm [.st .district,.sl .deed,.st .deed]) (cgc (fu.norm [.st .district,.sl .deed]) (cgc (xr.norm [.st .district,.sl .deed,.o,.o]) (cgc (sW.norm [.st .district,.sl .deed,.o]) (cgc xv (cgc x6 cg0)))))) (cgc (FnOk.eat (l5.norm [.st .district,.sl .deed,.st .deed])) cg0);refine aR [.o] mixed al hG (fn:=Tryz.f11) (c:=ae Tryz.f11) kr kr kr kr (aD (fun hp=>?_));dsimp only[aC]at hp;unfold j7 at hp;try simp only[fR,fS,eX,eY,eZ,e_,fa,fT,bu,db,fU,fV,fW,fX,ei,fY,fZ,fE,eG,fF,dg,cd,br,aX,iZ,k_,gG]at hp
 refine⟨nbl rfl,L0,ah _,?_⟩
 ·unfold ae Tryz.f11;try unfold kF
  simp (maxSteps:=1000000) only[go_sem,Nat.reduceBEq,Nat.reduceLeDiff,Nat.reduceLT,decide_true,Nat.reduceAdd,Nat.reduceSub,Nat.reduceMul,Int.reduceLE,Int.reduceLT,Int.reduceToNat,Int.reduceNeg,reduceCtorEq,fR,fS,eX,eY,eZ,e_,fa,fT,bu,db,fU,fV,fW,fX,ei,fY,fZ,fE,eG,fF,dg,cd,br,aX,iZ,k_,gG];all_goals exact cl
theorem B3 (d:District)(l:List Deed)(known:Int):iy d l known/\
  eW d l known=if ai d l≠0 then([],ai d l)else if 0<=known/\known<=1048576 then(sR (FR (stS (uX l 4096 known)) (B0 d)),0)else([],1):=by
 by_cases hc:ai d l=0
 ·have hD:=pW hc;have hE:=((t6 d l).1 hc).1;have hw:(!(ap known 0 1048576))= !decide (0<=known/\known<=1048576):=by
   congr 1
   rw[Bool.eq_iff_iff,nJ,decide_eq_true_eq]
  obtain⟨c1,c2⟩:=uF l 4096 known hD.len;have hlen:(stS (uX l 4096 known)).length<=512:=by rw[EC];exact Nat.le_trans (List.length_filter_le _ _) hD.len
  obtain⟨f1,m,f2,f3,f4⟩:=y8 hE (xu hD 4096 known) hlen;refine⟨⟨gB d l,fun _ _=>⟨c1,by rw[c2];exact f1⟩⟩,?_⟩;unfold eW;rw[if_neg (by simp[hc]),hc,hw,c2,f2];simp only[bne_self_eq_false,cond_false];by_cases hg:0<=known/\known<=1048576
  ·rw[decide_eq_true hg,if_pos hg];rfl
  ·rw[decide_eq_false hg,if_neg hg];rfl
 ·have hne:(ai d l !=0)=true:=by simpa using hc
  refine⟨⟨gB d l,(fun h=>by rw[hne]at h;cases h)⟩,?_⟩;rw[if_pos hc];unfold eW;rw[hne];rfl
theorem N8 (a:Deed)(n:Int):decide (eb a n<0)=decide (a.no<n):=by
 unfold eb;rw[lI];by_cases h:a.no<n
 ·simp[h]
 ·by_cases h2:a.no > n <;>simp[h,h2]
theorem N9 (a:Deed)(n:Int):(eb a n==0)=decide (a.no=n):=by
 unfold eb;rw[lI];by_cases h:a.no<n
 ·have:¬a.no=n:=by omega
  simp[h,this]
 ·by_cases h2:a.no > n
  ·have:¬a.no=n:=by omega
   simp[h,h2,this]
  ·have:a.no=n:=by omega
   simp[this]
theorem B4 {l:List Deed}(h:Asc l){i j:Nat}(h1:i<j)(h2:j<l.length):(l.getD i default).no< (l.getD j default).no:=by
 rw[ji l _ (by omega),ji l _ h2];exact List.pairwise_iff_getElem.1 h i j (by omega) h2 h1
theorem ED {l:List Deed}(hA:Asc l)(hl:l.length<=4096)(n:Int):bw l n/\∃ q:Nat,q<=l.length/\an l n=((q:Int),decide (q<l.length/\(l.getD q default).no=n))/\(∀ i,i<q->(l.getD i default).no<n)/\∀ i,q<=i->i<l.length->n<=(l.getD i default).no:=by
 obtain⟨s1,r,s2,q,rfl,q1,q2,q3,q4⟩:=Ah (step:=aA l n) (p:=aH l n) (fun h=>decide ((l.getD h default).no<n)) 0 l.length (Nat.zero_le _)
  (fun i j h1 h2 h3 h4=>by
   simp only[decide_eq_true_eq]at h4 |-;rcases Nat.eq_or_lt_of_le h2 with rfl|h2
   ·exact h4
   ·have:=B4 hA h2 h3;omega)
  (fun k i j h1 h2 h3=>by
   have e:decide ((i:Int) < (j:Int))=true:=by rw[decide_eq_true_eq];omega
   unfold aH aA;simp only[BI (i:=i) (j:=j) (by omega) (by omega),e,cond_true,Int.toNat_natCast,N8];have w2:i64.wrap ((((i+j) / 2:Nat):Int)+1)=(((i+j) / 2+1:Nat):Int):=by rw[a8 (by omega) (by omega)];omega
   rw[w2];exact⟨fun _=>by omega,rfl⟩)
  (fun k i=>by
   have e:decide ((i:Int) < (i:Int))=false:=by simp
   unfold aH aA;simp only[e,cond_false];exact⟨fun h=>by simp at h,trivial⟩) (l.length+1) 0 (by omega)
 have s2':aj (aA l n) (l.length+1) 0 (0,(l.length:Int))=.inl (q:Int):=s2;refine⟨fun _=>⟨s1,(fun z h=>by rw[s2']at h;cases h),fun x hx h=>?_⟩,q,q2,?_,fun i hi=>?_,fun i h1 h2=>?_⟩
 ·rw[s2']at hx;cases hx;rw[decide_eq_true_eq]at h;omega
 ·unfold an;rw[s2'];simp only[Int.toNat_natCast,N9];rw[Prod.mk.injEq];refine⟨rfl,?_⟩;rw[Bool.eq_iff_iff,Bool.and_eq_true,decide_eq_true_eq,decide_eq_true_eq,decide_eq_true_eq];omega
 ·simpa using q3 i (Nat.zero_le _) hi
 ·have:=q4 i h1 h2;simp only[decide_eq_false_iff_not]at this;omega
abbrev exS:Deed:= { no:=3,kind:=2,right:=0,since:=0,to:=0,parts:=[{ farm:=1,share:=jv},{ farm:=2,share:=jv}],of_:=0,at_:=1,known:=2}
abbrev exV:Deed:= { no:=5,kind:=4,right:=0,since:=0,to:=0,parts:=[],of_:=3,at_:=0,known:=9}
theorem e19:fT=([exS,exV],0):=by kernel_rfl
theorem e18:bu=[exS,exV]:=by kernel_rfl
theorem e2:iZ=([],171):=by kernel_rfl
theorem eC:ai aV [exS,exV]=0:=by kernel_rfl
theorem eH (hour known:Int)(L:List Holding)(h1:decide (0<=hour/\hour<aV.hours/\0<=known/\known<=1048576)=true)(h2:mW aV (uH aV [exS,exV] hour known)=L):da aV bu hour known=(L,0):=by
 rw[e18,(y_ _ _ _ _).2,if_neg (by rw[eC];decide),if_pos (of_decide_eq_true h1),h2]
theorem e13:fX=([{ right:=0,farm:=0,litres:=5,rank:=7}],0):=eH 0 2 _ kr kr
theorem e14:fW=([{ right:=0,farm:=1,litres:=3,rank:=7},{ right:=0,farm:=2,litres:=2,rank:=7}],0):=eH 1 2 _ kr kr
theorem e15:fV=([{ right:=0,farm:=0,litres:=5,rank:=7}],0):=eH 1 9 _ kr kr
theorem eN:da aV [] 4 0=([],1):=by
 have hc:ai aV []=0:=by kernel_rfl
 rw[(y_ _ _ _ _).2,if_neg (by rw[hc];decide),if_neg (of_decide_eq_false kr)]
theorem e24:eX=([1],0):=by
 have hc:ai aV fS=0:=by kernel_rfl
 have he:FR (stS (uX fS 4096 0)) (B0 aV)=[1]:=by kernel_rfl
 unfold eX;rw[(B3 _ _ _).2,if_neg (by rw[hc];decide),if_pos (by decide),he];simp[sR]
theorem e0:gG=250:=by kernel_rfl
theorem e7:fF=1:=by unfold fF fZ;rw[e13];rfl
theorem e8:eG=2:=by unfold eG ei;rw[e14];rfl
theorem e9:fE=1:=by unfold fE fY;rw[e15];rfl
theorem e17:db=2:=by unfold db;rw[e18];rfl
theorem e22:eZ=1:=by unfold eZ eY;rw[e24];rfl
theorem e3':aX= { right:=0,farm:=0,litres:=5,rank:=7}:=by unfold aX fZ;rw[e13];rfl
theorem e4':br= { right:=0,farm:=0,litres:=5,rank:=7}:=by unfold br fY;rw[e15];rfl
theorem e5':cd= { right:=0,farm:=1,litres:=3,rank:=7}:=by unfold cd ei;rw[e14];rfl
theorem e6':dg= { right:=0,farm:=2,litres:=2,rank:=7}:=by unfold dg ei;rw[e14];rfl
theorem e16:fU=exV:=by unfold fU;rw[e18];rfl
theorem e23:eY=[1]:=by unfold eY;rw[e24]
theorem N_:kF=true:=by
 unfold kF;rw[e19,e2,e13,e14,e15,eN,e24,e17,e7,e8,e9,e22,e0,e16,e3',e4',e5',e6',e23];rfl
theorem Oa:ed aV fa fR:=by
 refine⟨gB _ _,fun _=>?_⟩;have hA:Asc fa:=List.pairwise_singleton _ _;refine⟨(ED hA (by decide) _).1,fun _=>⟨by decide,?_,gB _ _⟩⟩;have e:(an fa fR.no).1=1:=by kernel_rfl
 rw[e];exact⟨by decide,by simp,by decide⟩
theorem Oc:ed aV bu e_:=by
 refine⟨gB _ _,fun _=>?_⟩;have hA:Asc bu:=by rw[e18];exact(pW eC).asc
 refine⟨(ED hA (by rw[e18];decide) _).1,fun h=>?_⟩;have:(an bu e_.no).2=true:=by kernel_rfl
 rw[this]at h;cases h
theorem Od:j7:=by
 unfold j7;refine⟨Oa,Oc,(y_ _ _ _ _).1,(y_ _ _ _ _).1,(y_ _ _ _ _).1,(y_ _ _ _ _).1,(B3 _ _ _).1,fun _=>?_⟩;rw[e17,e7,e8,e9];simp[gB,e22]
theorem tmod_neg {p q:Nat}(hq:0<q):Int.tmod (-(p:Int)) (-(q:Int))= -((p % q:Nat):Int):=by
 rw[Int.tmod_neg,Int.neg_tmod,Int.tmod_eq_emod_of_nonneg (by omega)];rfl
theorem xw (a1:Int):∀ (n i:Nat) (p q:Nat),q<n->∃ a b,aj (gE a1) n i (-(p:Int),-(q:Int))=.inl (a,b)/\((b= -1/\Nat.gcd p q=1)\/(b=0/\a= -((Nat.gcd p q:Nat):Int)))
 |0,_,_,_,h=>by omega
 |n+1,i,p,q,h=>by
  simp only[aj,gE];by_cases h1:1<q
  ·rw[decide_eq_true (by omega)];simp only[cond_true];rw[tmod_neg (by omega)];have hlt:p % q<q:=Nat.mod_lt _ (by omega);obtain⟨a,b,e,h2⟩:=xw a1 n (i+1) q (p % q) (by omega);have eg:Nat.gcd q (p % q)=Nat.gcd p q:=by rw[Nat.gcd_comm p q,Nat.gcd_rec q p,Nat.gcd_comm]
   rw[eg]at h2;exact⟨a,b,e,h2⟩
  ·rw[decide_eq_false (by omega)];simp only[cond_false];refine⟨_,_,rfl,?_⟩;by_cases h0:q=0
   ·subst h0;exact .inr ⟨by simp,by simp⟩
   ·have:q=1:=by omega
    subst this;exact .inl ⟨by simp,by simp⟩
theorem FW {n d:Int}(h0: -4611686018427387904<=n)(h1:n<=4611686018427387904)(h2: -4611686018427387904<=d)(h3:d<=4611686018427387904):jS n d/\kD n d=mkR n d:=by
 unfold jS kD;by_cases hd:d=0
 ·subst hd;refine⟨(fun h=>by cases h),?_⟩;unfold mkR;rfl
 ·have e:(d==0)=false:=by simpa using hd
  rw[e];simp only[cond_false];have ex:(bif(decide (n > 0))then(i64.wrap (0 - n))else n)= -((n.natAbs:Nat):Int):=by
   by_cases h:n > 0
   ·rw[decide_eq_true h,cond_true,a8 (by omega) (by omega)];omega
   ·rw[decide_eq_false h,cond_false];omega
  have ey:(bif(decide (d > 0))then(i64.wrap (0 - d))else d)= -((d.natAbs:Nat):Int):=by
   by_cases h:d > 0
   ·rw[decide_eq_true h,cond_true,a8 (by omega) (by omega)];omega
   ·rw[decide_eq_false h,cond_false];omega
  rw[ex,ey];obtain⟨a,b,er,hr⟩:=xw d (Int.natAbs d+2) 0 n.natAbs d.natAbs (by omega);rw[er];have g0:0<Nat.gcd n.natAbs d.natAbs:=Nat.gcd_pos_of_pos_right _ (by omega);have okp:okI (gE d) (jf d) (Int.natAbs d+2) 0 (-((n.natAbs:Nat):Int),-((d.natAbs:Nat):Int)):=iu _ _ _ fun j s _ _ h=>by rw[decide_eq_true_eq]at h;omega
  simp only;have l1:n.natAbs / Nat.gcd n.natAbs d.natAbs<=n.natAbs:=Nat.div_le_self _ _;have l2:d.natAbs / Nat.gcd n.natAbs d.natAbs<=d.natAbs:=Nat.div_le_self _ _;rcases hr with⟨rfl,hg⟩ | ⟨rfl,rfl⟩
  ·
   have t:∀ m:Nat,Int.tdiv (-(m:Int)) (-1)=(m:Int):=fun m=>by rw[Int.tdiv_neg,Int.neg_tdiv,Int.tdiv_one];omega
   refine⟨fun _=>⟨okp,(fun z h=>by cases h),fun x hx=>by cases hx;exact⟨fun _ _=>by decide,(fun h=>by cases h)⟩⟩,?_⟩;unfold mkR;rw[if_neg hd,hg,Nat.div_one,Nat.div_one,t,t];simp only[BEq.rfl,cond_true];by_cases hb:1073741824<n.natAbs\/1073741824<d.natAbs
   ·rw[if_pos hb];have:((decide (-((n.natAbs:Nat):Int) < (-1073741824))) ||(decide (-((d.natAbs:Nat):Int) < (-1073741824))))=true:=by
     rw[Bool.or_eq_true,decide_eq_true_eq,decide_eq_true_eq];omega
    rw[this];rfl
   ·rw[if_neg hb];have e1:((decide (-((n.natAbs:Nat):Int) < (-1073741824))) ||(decide (-((d.natAbs:Nat):Int) < (-1073741824))))=false:=by
     rw[Bool.or_eq_false_iff,decide_eq_false_iff_not,decide_eq_false_iff_not];omega
    rw[e1,a8 (n:=((n.natAbs:Nat):Int)) (by omega) (by omega),a8 (n:=((d.natAbs:Nat):Int)) (by omega) (by omega),a8 (n:=0 - ((n.natAbs:Nat):Int)) (by omega) (by omega)];have e2:((decide (((n.natAbs:Nat):Int) > 1073741824)) ||(decide (((d.natAbs:Nat):Int) > 1073741824)))=false:=by
     rw[Bool.or_eq_false_iff,decide_eq_false_iff_not,decide_eq_false_iff_not];omega
    rw[e2];simp only[cond_false];cases(decide (n<0)) !=(decide (d<0)) <;>simp
  ·have t:∀ m:Nat,Int.tdiv (-(m:Int)) (-((Nat.gcd n.natAbs d.natAbs:Nat):Int))=((m / Nat.gcd n.natAbs d.natAbs:Nat):Int):=fun m=>by rw[Int.tdiv_neg,Int.neg_tdiv,Int.neg_neg,Int.tdiv_eq_ediv_of_nonneg (by omega)];rfl
   refine⟨fun _=>⟨okp,(fun z h=>by cases h),fun x hx=>by cases hx;exact⟨(fun h=>by cases h),fun _ _=>by simp only;omega⟩⟩,?_⟩;unfold mkR;rw[if_neg hd,t,t];have b0:((0:Int) == -1)=false:=by decide
   rw[b0];simp only[cond_false];generalize hx:n.natAbs / Nat.gcd n.natAbs d.natAbs=x at *;generalize hy:d.natAbs / Nat.gcd n.natAbs d.natAbs=y at *;by_cases hb:1073741824<x\/1073741824<y
   ·rw[if_pos hb];have e1:((decide (i64.wrap (x:Int) > 1073741824)) ||(decide (i64.wrap (y:Int) > 1073741824)))=true:=by
     rw[a8 (by omega) (by omega),a8 (by omega) (by omega),Bool.or_eq_true,decide_eq_true_eq,decide_eq_true_eq];omega
    rw[e1];cases(-((Nat.gcd n.natAbs d.natAbs:Nat):Int) == -1)&&((decide (-((n.natAbs:Nat):Int) < (-1073741824))) ||(decide (-((d.natAbs:Nat):Int) < (-1073741824)))) <;>rfl
   ·rw[if_neg hb];have e1:((-((Nat.gcd n.natAbs d.natAbs:Nat):Int) == -1)&&((decide (-((n.natAbs:Nat):Int) < (-1073741824))) ||(decide (-((d.natAbs:Nat):Int) < (-1073741824)))))=false:=by
     by_cases hg:Nat.gcd n.natAbs d.natAbs=1
     ·rw[hg,Nat.div_one]at hx hy;rw[Bool.and_eq_false_iff];right;rw[Bool.or_eq_false_iff,decide_eq_false_iff_not,decide_eq_false_iff_not];omega
     ·rw[Bool.and_eq_false_iff];left;simp only[beq_eq_false_iff_ne];omega
    have e2:((decide (i64.wrap (x:Int) > 1073741824)) ||(decide (i64.wrap (y:Int) > 1073741824)))=false:=by
     rw[a8 (by omega) (by omega),a8 (by omega) (by omega),Bool.or_eq_false_iff,decide_eq_false_iff_not,decide_eq_false_iff_not];omega
    rw[e1,e2,a8 (n:=(x:Int)) (by omega) (by omega),a8 (n:=(y:Int)) (by omega) (by omega),a8 (n:=0 - (x:Int)) (by omega) (by omega)];simp only[cond_false];cases(decide (n<0)) !=(decide (d<0)) <;>simp
theorem B5 (a b:Ratio):lB a b/\mA a b=dY a b:=by
 rw[Di];unfold lB mA;have hB:gl a b=((az a==0)&&(az b==0)):=by unfold gl;rw[oj,oj]
 rw[hB];by_cases h:az a=0/\az b=0
 ·have ha:=(dR a).1 h.1;have hb:=(dR b).1 h.2;have m1:=uV ha.n0 ha.n hb.d1 hb.d;have m2:=uV hb.n0 hb.n ha.d1 ha.d;have h1:=ha.d1;have h2:=ha.d;have m3:=uV (a:=a.d) (by omega) h2 hb.d1 hb.d;rw[if_pos h,h.1,h.2,a8 (n:=a.n*b.d) (by omega) (by omega),a8 (n:=b.n*a.d) (by omega) (by omega),a8 (n:=a.d*b.d) (by omega) (by omega),a8 (n:=a.n*b.d+b.n*a.d) (by omega) (by omega)];obtain⟨p,e⟩:=FW (n:=a.n*b.d+b.n*a.d) (d:=a.d*b.d) (by omega) (by omega) (by omega) (by omega);rw[e];exact⟨⟨Dh a b,fun _=>p⟩,rfl⟩
 ·have:((az a==0)&&(az b==0))=false:=by
   cases h1:(az a==0) <;>cases h2:(az b==0) <;>simp_all
  rw[if_neg h,this];exact⟨⟨Dh a b,(fun h=>by cases h)⟩,rfl⟩
theorem IF {l0 l1:List Nat}(a0:JL l0)(a1:JL l1){p:Prop}(h:JL l0->JL l1->p:=by intro ja jb;simp only[go_sem,Nat.reduceBEq,Nat.reduceLeDiff,Nat.reduceLT,decide_true,Nat.reduceAdd,Nat.reduceSub,Nat.reduceMul,Int.reduceLE,Int.reduceLT,Int.reduceToNat,Int.reduceNeg,reduceCtorEq];all_goals exact g_ ja jb):p:=h a0 a1
theorem xx {l0 l1:List Nat}(a0:JL l0)(a1:JL l1){p:Prop}(h:JL l0->JL l1->p:=by intro ja jb;simp only[go_sem,Nat.reduceBEq,Nat.reduceLeDiff,Nat.reduceLT,decide_true,Nat.reduceAdd,Nat.reduceSub,Nat.reduceMul,Int.reduceLE,Int.reduceLT,Int.reduceToNat,Int.reduceNeg,reduceCtorEq,hc,hw];all_goals exact g_ ja jb):p:=h a0 a1
theorem xy {l0 l1:List Nat}(a0:JL l0)(a1:JL l1){p:Prop}(h:JL l0->JL l1->p:=by intro ja jb;simp only[go_sem,Nat.reduceBEq,Nat.reduceLeDiff,Nat.reduceLT,decide_true,Nat.reduceAdd,Nat.reduceSub,Nat.reduceMul,Int.reduceLE,Int.reduceLT,Int.reduceToNat,Int.reduceNeg,reduceCtorEq,hc];all_goals exact g_ ja jb):p:=h a0 a1
def fb (x:Deed)(right:Bool)(fr:Bool)(to:Bool)(parts:Bool)(of_:Bool):Bool:=(((((right||(x.right==0))&&(fr||(x.since==0)))&&(to||(x.to==0)))&&(parts||((x.parts.length:Int) ==0)))&&(of_||(x.of_==0)))
@[go_sem] def s4:List SV->Option Con:=(pD .deed fun x=>(pB fun right=>(pB fun fr=>(pB fun to=>(pB fun parts=>(pB fun of_=>(pE (.det True (.v (.bool (fb x right fr to parts of_)))))))))))
theorem ya:FnOk Tryz.prog 69 s4:=by
 have hG:ConsOk Tryz.prog (mkG [] []):=av cg0 cg0;refine aR [.o] mixed al hG (fn:=Tryz.f69) (c:=ae Tryz.f69) kr kr kr kr (aS fun x=>(tN fun right=>(tN fun fr=>(tN fun to=>(tN fun parts=>(tN fun of_=>(aD (fun hp=>?_))))))));dsimp only[aC]at hp;refine⟨nbl rfl,L0,ah _,?_⟩
 ·unfold ae Tryz.f69;try unfold fb
  exact zq1
def iz (d:District)(x:Deed):Bool:=(((((decide (x.right>=0))&&(decide (x.right< (d.rights.length:Int))))&&((d.rights.getD (Int.toNat x.right) default).kind==1))&&(decide (x.since>=0)))&&(decide (x.since< (d.farms.length:Int))))
def j8 (d:District)(x:Deed):Prop:=(((decide (x.right>=0))&&(decide (x.right< (d.rights.length:Int))))=true->(0<=x.right/\x.right< (d.rights.length:Int)))
@[go_sem] def pZ:List SV->Option Con:=(pD .district fun d=>(pD .deed fun x=>(pE (.det (j8 d x) (.v (.bool (iz d x)))))))
theorem uY:FnOk Tryz.prog 70 pZ:=by
 have hG:ConsOk Tryz.prog (mkG [] []):=av cg0 cg0;refine aR [.o] mixed al hG (fn:=Tryz.f70) (c:=ae Tryz.f70) kr kr kr kr (aS fun d=>(aS fun x=>(aD (fun hp=>?_))));dsimp only[aC]at hp;unfold j8 at hp;refine⟨nbl rfl,L0,ah _,?_⟩
 ·unfold ae Tryz.f70;try unfold iz
  exact zq1
@[go_sem] def eo (a1:List Part)(k_0:Nat)(k_1:Nat)(s_1:Unit):Unit⊕Unit:=(bif((a1.getD k_1 default).farm==(a1.getD k_0 default).farm)then .inl ()else .inr ())
def kG (a1:List Part)(k_0:Nat)(k_1:Nat)(s_1:Unit):Prop:=(0<=(k_1:Int)/\(k_1:Int) < (a1.length:Int))
@[go_sem] def ig (a0:District)(a1:List Part)(k_0:Nat)(s_0:Int×Int):Unit⊕(Int×Int):=letI q1:=a1.getD k_0 default;letI q0:=mA ({ n:=s_0.1,d:=s_0.2}:Ratio) (q1.share);(bif((((decide (q1.farm<0)) ||(decide (q1.farm>=(a0.farms.length:Int)))) ||(!(cF (q1.share)))) ||(decide (q1.share.n<=0)))then .inl ()else(match aj (eo a1 k_0) (Int.toNat (k_0:Int)) 0 ()with| .inl x_1_0=>.inl () | .inr s_1=>(bif(q0.2 !=0)then .inl ()else .inr ((q0.1).n,(q0.1).d))))
def kH (a0:District)(a1:List Part)(k_0:Nat)(s_0:Int×Int):Prop:=letI q0:=a1.getD k_0 default;letI q1:=decide (q0.farm>=(a0.farms.length:Int));letI q2:=eo a1 k_0;letI q3:=Int.toNat (k_0:Int);letI q4:=decide (q0.farm<0);(a1.length<=bb->(((q4||q1)=false->(eE (q0.share)))/\((((q4||q1) ||(!(cF (q0.share)))) ||(decide (q0.share.n<=0)))=false->(((k_0:Int) <9223372036854775808)/\okI q2 (kG a1 k_0) q3 0 ()/\(∀ s_1,aj q2 q3 0 ()=.inr s_1->(lB ({ n:=s_0.1,d:=s_0.2}:Ratio) (q0.share)))))))
def lN (a0:District)(a1:List Part):Bool:=(bif((decide ((a1.length:Int) <1)) ||(decide ((a1.length:Int) > 16)))then false else(match aj (ig a0 a1) a1.length 0 (0,1)with| .inl x_0_0=>false| .inr s_0=>(s_0.1==s_0.2)))
def la (a0:District)(a1:List Part):Prop:=(a1.length<=bb->(((decide ((a1.length:Int) <1)) ||(decide ((a1.length:Int) > 16)))=false->okI (ig a0 a1) (kH a0 a1) a1.length 0 (0,1)))
@[go_sem] def q_:List SV->Option Con:=(pD .district fun a0=>(pR .part fun a1=>(pE (.det (la a0 a1) (.v (.bool (lN a0 a1)))))))
theorem xz:FnOk Tryz.prog 71 q_:=by
 have hG:ConsOk Tryz.prog (mkG [(96,iV),(97,ur)] []):=av (cgc jQ (cgc Aa cg0)) cg0;refine aR [.o] mixed al hG (fn:=Tryz.f71) (c:=ae Tryz.f71) kr kr kr kr (aS fun a0=>(dN fun a1=>(aD (fun hp=>?_))));dsimp only[aC]at hp;unfold la at hp;refine⟨nbl rfl,(fun id st=>bif Nat.beq id 0 then some (LCR (ρ:=Unit) (σ:=(Int×Int)) 2 [] [0,1] (fun k_0 s_0=>⟨[(1,.rs .part a1),(2,.ptr 0 0),(5,.ptr 1 0),(6,.v (.int .i64 (k_0:Int)))],[.cells (cellsOf .district a0),.cells [.v (.int .i64 s_0.1),.v (.int .i64 s_0.2)]]⟩) (ig a0 a1) (kH a0 a1) a1.length (0,1) (True) (fun _=>.ret) (fun x_0_0=>⟨[(4,.v (.bool false))],[.dead,.dead]⟩) st)else none),?_,?_⟩
 ·unfold ae Tryz.f71;simp only[ak,true_and,and_true]
  ·refine dE (a1.length<=bb) mixed al hG kr (fun _=>rfl) (a1.length:Int) rfl gX (fun hb0 k_0 s_0 hlt0 hq0 hw hc=>⟨(fun id st=>bif Nat.beq id 2 then some (LCR (ρ:=Unit) (σ:=Unit) 3 [] [0,1,2] (fun k_1 s_1=>⟨[(1,.rs .part a1),(2,.ptr 0 0),(5,.ptr 1 0),(6,.v (.int .i64 (k_0:Int))),(7,.ptr 2 0),(8,.v (.int .i64 (k_1:Int)))],[.cells (cellsOf .district a0),.cells [.v (.int .i64 s_0.1),.v (.int .i64 s_0.2)],.cells (cellsOf .part (a1.getD k_0 (default:Part)))]⟩) (eo a1 k_0) (kG a1 k_0) (Int.toNat (k_0:Int)) () ((k_0:Int) <9223372036854775808) (fun _=>.ret) (fun x_1_0=>⟨[(4,.v (.bool false))],[.dead,.dead,.dead]⟩) st)else none),?_,?_⟩) (fun hb0 s_0 hc=>?_) fun hb0 k_0 s_0=>?_
   ·simp only[ak,true_and,and_true]
    ·refine d9 mixed al hG kr (fun _=>rfl) (k_0:Int) rfl id (fun hb1 k_1 s_1 hlt1 hq1 hw hc=>⟨L0,ah _,?_⟩) (fun hb1 s_1 hc=>?_)
     ·unfold kG at hq1;try simp only[hw,Int.toNat_natCast]at hq1
      exact bY (jl [0,1,2])
     ·exact bZ (jl [0,1,2])
   ·unfold kH at hq0;try simp only[hw,Int.toNat_natCast]at hq0
    exact bY (jl [0,1])
   ·exact bZ (jl [0,1])
   ·exact zq7
 ·unfold ae Tryz.f71;try unfold lN
  exact zq1
@[go_sem] def mY (l_:List Deed)(of_:Int)(k_0:Nat)(s_0:Unit):Int⊕Unit:=(bif(((l_.getD k_0 default).no==of_)&&((l_.getD k_0 default).kind !=4))then .inl (k_0:Int)else .inr ())
def ii (l_:List Deed)(of_:Int):Int:=(match aj (mY l_ of_) l_.length 0 ()with| .inl x_0_0=>x_0_0| .inr s_0=>(-1))
@[go_sem] def ra:List SV->Option Con:=(pR .deed fun l_=>(pI fun of_=>(pE (.det True (.v (.int .i64 (ii l_ of_)))))))
theorem xA:FnOk Tryz.prog 72 ra:=by
 have hG:ConsOk Tryz.prog (mkG [] []):=av cg0 cg0;refine aR [.o] mixed al hG (fn:=Tryz.f72) (c:=ae Tryz.f72) kr kr kr kr (dN fun l_=>(cq fun of_=>(aD (fun hp=>?_))));dsimp only[aC]at hp;refine⟨nbl rfl,(fun id st=>bif Nat.beq id 0 then some (LCR (ρ:=Int) (σ:=Unit) 0 [] [] (fun k_0 s_0=>⟨[(0,.rs .deed l_),(1,.v (.int .i64 of_)),(5,.v (.int .i64 (k_0:Int)))],[]⟩) (mY l_ of_) pT l_.length () (True) (fun _=>.ret) (fun x_0_0=>⟨[(4,.v (.int .i64 x_0_0))],[]⟩) st)else none),?_,?_⟩
 ·unfold ae Tryz.f72;simp only[ak,true_and,and_true]
  ·refine dE (l_.length<=bb) mixed al hG kr (fun _=>rfl) (l_.length:Int) rfl gX (fun hb0 k_0 s_0 hlt0 _ hw hc=>⟨L0,ah _,?_⟩) (fun hb0 s_0 hc=>?_) fun hb0 k_0 s_0=>?_
   ·exact bY (jl [])
   ·exact bZ (jl [])
   ·exact zq7
 ·unfold ae Tryz.f72;try unfold ii
  exact zq1
def lO (a0:District)(a1:List Deed)(a2:Deed):Bool:=letI q0:=iz a0 a2;letI q1:=ii a1 a2.of_;(bif((((((decide (a2.no<0)) ||(decide (a2.no > 1048576))) ||(decide (a2.at_<0))) ||(decide (a2.at_ > 4096))) ||(decide (a2.known<0))) ||(decide (a2.known > 1048576)))then false else(bif(a2.kind==1)then(((((fb a2 true true true false false)&&q0)&&(decide (a2.to>=0)))&&(decide (a2.to< (a0.farms.length:Int))))&&(a2.to !=a2.since))else(bif(a2.kind==2)then(((fb a2 true true false true false)&&q0)&&(lN a0 a2.parts))else(bif(a2.kind==3)then((fb a2 true true false false false)&&q0)else(bif(a2.kind==4)then(((fb a2 false false false false true)&&(decide (q1>=0)))&&(decide (a2.known>=(a1.getD (Int.toNat q1) default).known)))else false)))))
def ld (a0:District)(a1:List Deed)(a2:Deed):Prop:=letI q0:=ii a1 a2.of_;letI q1:=j8 a0 a2;letI q2:=fb a2 true true false true false;(((((((decide (a2.no<0)) ||(decide (a2.no > 1048576))) ||(decide (a2.at_<0))) ||(decide (a2.at_ > 4096))) ||(decide (a2.known<0))) ||(decide (a2.known > 1048576)))=false->(((a2.kind==1)=true->((fb a2 true true true false false)=true->q1))/\((a2.kind==1)=false->(((a2.kind==2)=true->((q2=true->q1)/\((q2&&(iz a0 a2))=true->(la a0 a2.parts))))/\((a2.kind==2)=false->(((a2.kind==3)=true->((fb a2 true true false false false)=true->q1))/\((a2.kind==3)=false->((a2.kind==4)=true->(((fb a2 false false false false true)&&(decide (q0>=0)))=true->(0<=q0/\q0< (a1.length:Int)))))))))))
@[go_sem] def rb:List SV->Option Con:=(pD .district fun a0=>(pR .deed fun a1=>(pD .deed fun a2=>(pE (.det (ld a0 a1 a2) (.v (.bool (lO a0 a1 a2))))))))
theorem xB:FnOk Tryz.prog 46 rb:=by
 have hG:ConsOk Tryz.prog (mkG [(69,fun l=>s4 (cX [.st .deed,.o,.o,.o,.o,.o] l)),(70,fun l=>pZ (cX [.st .district,.st .deed] l)),(71,fun l=>q_ (cX [.st .district,.sl .part] l)),(72,fun l=>ra (cX [.sl .deed,.o] l))] []):=av (cgc (ya.norm [.st .deed,.o,.o,.o,.o,.o]) (cgc (uY.norm [.st .district,.st .deed]) (cgc (xz.norm [.st .district,.sl .part]) (cgc (xA.norm [.sl .deed,.o]) cg0)))) cg0;refine aR [.o] mixed al hG (fn:=Tryz.f46) (c:=ae Tryz.f46) kr kr kr kr (aS fun a0=>(dN fun a1=>(aS fun a2=>(aD (fun hp=>?_)))));dsimp only[aC]at hp;unfold ld at hp;refine⟨nbl rfl,L0,ah _,?_⟩
 ·unfold ae Tryz.f46;try unfold lO
  exact zq1
@[go_sem] def gH (l_:List Deed)(k_0:Nat)(s_0:Unit):Unit⊕Unit:=(bif(decide ((((l_.getD k_0 default).parts).length:Int) > 16))then .inl ()else .inr ())
def kI (l_:List Deed):Bool:=(bif(decide ((l_.length:Int) > 512))then true else(match aj (gH l_) l_.length 0 ()with| .inl x_0_0=>true| .inr s_0=>false))
@[go_sem] def s5:List SV->Option Con:=(pR .deed fun l_=>(pE (.det True (.v (.bool (kI l_))))))
theorem yb:FnOk Tryz.prog 45 s5:=by
 have hG:ConsOk Tryz.prog (mkG [] []):=av cg0 cg0;refine aR [.o] mixed al hG (fn:=Tryz.f45) (c:=ae Tryz.f45) kr kr kr kr (dN fun l_=>(aD (fun hp=>?_)));dsimp only[aC]at hp;refine⟨nbl rfl,(fun id st=>bif Nat.beq id 0 then some (LCR (ρ:=Unit) (σ:=Unit) 0 [] [] (fun k_0 s_0=>⟨[(0,.rs .deed l_),(3,.v (.int .i64 (k_0:Int)))],[]⟩) (gH l_) pT l_.length () (True) (fun _=>.ret) (fun x_0_0=>⟨[(2,.v (.bool true))],[]⟩) st)else none),?_,?_⟩
 ·unfold ae Tryz.f45;simp only[ak,true_and,and_true]
  ·refine dE (l_.length<=bb) mixed al hG kr (fun _=>rfl) (l_.length:Int) rfl gX (fun hb0 k_0 s_0 hlt0 _ hw hc=>⟨L0,ah _,?_⟩) (fun hb0 s_0 hc=>?_) fun hb0 k_0 s_0=>?_
   ·exact bY (jl [])
   ·exact bZ (jl [])
   ·exact zq7
 ·unfold ae Tryz.f45;try unfold kI
  exact zq1
@[go_sem] def ij (d:District)(l_:List Deed)(k_0:Nat)(s_0:Unit):Unit⊕Unit:=(bif(((decide ((k_0:Int) > 0))&&(decide ((l_.getD k_0 default).no<=(l_.getD (Int.toNat (i64.wrap ((k_0:Int) - 1))) default).no))) ||(!(lO d ((l_.take k_0).drop 0) (l_.getD k_0 default))))then .inl ()else .inr ())
def kJ (d:District)(l_:List Deed)(k_0:Nat)(s_0:Unit):Prop:=letI q2:=(k_0:Int);letI q1:=i64.wrap (q2 - 1);letI q3:=l_.getD k_0 default;letI q0:=(decide (q2 > 0))&&(decide (q3.no<=(l_.getD (Int.toNat q1) default).no));(l_.length<=bb->(((decide (q2 > 0))=true->(0<=q1/\q1< (l_.length:Int)))/\((q0=false->(0<=0/\0<=q2/\q2<=(l_.length:Int)))/\(q0=false->(ld d ((l_.take k_0).drop 0) q3)))))
def dG (d:District)(l_:List Deed):Int:=(bif((g7 d) !=0)then(g7 d)else(bif(kI l_)then 2 else(match aj (ij d l_) l_.length 0 ()with| .inl x_0_0=>250| .inr s_0=>0)))
def fG (d:District)(l_:List Deed):Prop:=((kX d)/\(((g7 d) !=0)=false->((kI l_)=false->okI (ij d l_) (kJ d l_) l_.length 0 ())))
@[go_sem] def lg:List SV->Option Con:=(pD .district fun d=>(pR .deed fun l_=>(pE (.det (fG d l_) (.v (.int .i64 (dG d l_)))))))
theorem mZ:FnOk Tryz.prog 16 lg:=by
 have hG:ConsOk Tryz.prog (mkG [(44,fun l=>qT (cX [.st .district] l)),(45,fun l=>s5 (cX [.sl .deed] l)),(46,fun l=>rb (cX [.st .district,.sl .deed,.st .deed] l))] []):=av (cgc (wX.norm [.st .district]) (cgc (yb.norm [.sl .deed]) (cgc (xB.norm [.st .district,.sl .deed,.st .deed]) cg0))) cg0;refine aR [.o] mixed al hG (fn:=Tryz.f16) (c:=ae Tryz.f16) kr kr kr kr (aS fun d=>(dN fun l_=>(aD (fun hp=>?_))));dsimp only[aC]at hp;unfold fG at hp;refine⟨nbl rfl,(fun id st=>bif Nat.beq id 0 then some (LCR (ρ:=Unit) (σ:=Unit) 1 [] [0] (fun k_0 s_0=>⟨[(1,.rs .deed l_),(2,.ptr 0 0),(6,.v (.int .i64 (k_0:Int)))],[.cells (cellsOf .district d)]⟩) (ij d l_) (kJ d l_) l_.length () (True) (fun _=>.ret) (fun x_0_0=>⟨[(4,.v (.int .i64 250))],[.dead]⟩) st)else none),?_,?_⟩
 ·unfold ae Tryz.f16;simp only[ak,true_and,and_true]
  ·refine dE (l_.length<=bb) mixed al hG kr (fun _=>rfl) (l_.length:Int) rfl gX (fun hb0 k_0 s_0 hlt0 hq0 hw hc=>⟨L0,ah _,?_⟩) (fun hb0 s_0 hc=>?_) fun hb0 k_0 s_0=>?_
   ·unfold kJ at hq0;try simp only[hw,Int.toNat_natCast]at hq0
    exact bY (jl [0])
   ·exact bZ (jl [0])
   ·exact zq7
 ·unfold ae Tryz.f16;try unfold dG
  exact zq1
@[go_sem] def re (l_:List Deed)(x:Deed)(known:Int)(k_0:Nat)(s_0:Unit):Unit⊕Unit:=(bif((((l_.getD k_0 default).kind==4)&&((l_.getD k_0 default).of_==x.no))&&(decide ((l_.getD k_0 default).known<=known)))then .inl ()else .inr ())
def oU (l_:List Deed)(x:Deed)(known:Int):Bool:=(match aj (re l_ x known) l_.length 0 ()with| .inl x_0_0=>true| .inr s_0=>false)
@[go_sem] def s6:List SV->Option Con:=(pR .deed fun l_=>(pD .deed fun x=>(pI fun known=>(pE (.det True (.v (.bool (oU l_ x known))))))))
theorem yc:FnOk Tryz.prog 82 s6:=by
 have hG:ConsOk Tryz.prog (mkG [] []):=av cg0 cg0;refine aR [.o] mixed al hG (fn:=Tryz.f82) (c:=ae Tryz.f82) kr kr kr kr (dN fun l_=>(aS fun x=>(cq fun known=>(aD (fun hp=>?_)))));dsimp only[aC]at hp;refine⟨nbl rfl,(fun id st=>bif Nat.beq id 0 then some (LCR (ρ:=Unit) (σ:=Unit) 1 [] [0] (fun k_0 s_0=>⟨[(0,.rs .deed l_),(2,.v (.int .i64 known)),(4,.ptr 0 0),(7,.v (.int .i64 (k_0:Int)))],[.cells (cellsOf .deed x)]⟩) (re l_ x known) pT l_.length () (True) (fun _=>.ret) (fun x_0_0=>⟨[(6,.v (.bool true))],[.dead]⟩) st)else none),?_,?_⟩
 ·unfold ae Tryz.f82;simp only[ak,true_and,and_true]
  ·refine dE (l_.length<=bb) mixed al hG kr (fun _=>rfl) (l_.length:Int) rfl gX (fun hb0 k_0 s_0 hlt0 _ hw hc=>⟨L0,ah _,?_⟩) (fun hb0 s_0 hc=>?_) fun hb0 k_0 s_0=>?_
   ·exact bY (jl [0])
   ·exact bZ (jl [0])
   ·exact zq7
 ·unfold ae Tryz.f82;try unfold oU
  exact zq1
@[go_sem] def j9 (l_:List Deed)(known:Int)(s_0:List Deed×Int)(k_1:Nat)(s_1:List Deed):Empty⊕(List Deed):=(bif(((((l_.getD k_1 default).at_==s_0.2)&&((l_.getD k_1 default).kind !=4))&&(decide ((l_.getD k_1 default).known<=known)))&&(!(oU l_ (l_.getD k_1 default) known)))then .inr (s_1++([(l_.getD k_1 default)]))else .inr s_1)
def iM (l_:List Deed)(known:Int)(s_0:List Deed×Int)(k_1:Nat)(s_1:List Deed):Prop:=letI q0:=l_.getD k_1 default;(l_.length<=bb->(((((q0.at_==s_0.2)&&(q0.kind !=4))&&(decide (q0.known<=known)))&&(!(oU l_ q0 known)))=true->((s_1++([q0])).length*88<=fB)))
@[go_sem] def gN (l_:List Deed)(hour:Int)(known:Int)(k_0:Nat)(s_0:List Deed×Int):(List Deed)⊕(List Deed×Int):=(bif((decide (s_0.2<=4096))&&(decide (s_0.2<=hour)))then(match aj (j9 l_ known s_0) l_.length 0 s_0.1 with| .inl x=>x.elim| .inr s_1=>.inr (s_1,(i64.wrap (s_0.2+1))))else .inl s_0.1)
def iN (l_:List Deed)(hour:Int)(known:Int)(k_0:Nat)(s_0:List Deed×Int):Prop:=(((decide (s_0.2<=4096))&&(decide (s_0.2<=hour)))=true->okI (j9 l_ known s_0) (iM l_ known s_0) l_.length 0 s_0.1)
def f9 (l_:List Deed)(hour:Int)(known:Int):List Deed:=(match aj (gN l_ hour known) (Int.toNat hour+2) 0 ([],0)with| .inl x_0_0=>x_0_0| .inr s_0=>default)
def kK (l_:List Deed)(hour:Int)(known:Int):Prop:=(okI (gN l_ hour known) (iN l_ hour known) (Int.toNat hour+2) 0 ([],0)/\(∀ z_,aj (gN l_ hour known) (Int.toNat hour+2) 0 ([],0)≠ .inr z_))
@[go_sem] def ox:List SV->Option Con:=(pR .deed fun l_=>(pI fun hour=>(pI fun known=>(pE (.det (kK l_ hour known) (.nw .deed (f9 l_ hour known)))))))
theorem s7:FnOk Tryz.prog 53 ox:=by
 have hG:ConsOk Tryz.prog (mkG [(82,fun l=>s6 (cX [.sl .deed,.st .deed,.o] l))] []):=av (cgc (yc.norm [.sl .deed,.st .deed,.o]) cg0) cg0;refine nI [(.tmp 6,.deed)] mixed al hG (fn:=Tryz.f53) (c:=ae Tryz.f53) kr kr kr kr (dN fun l_=>(cq fun hour=>(cq fun known=>(aD (fun hp=>?_)))));dsimp only[aC]at hp;unfold kK at hp;refine⟨nbl rfl,(fun id st=>bif Nat.beq id 0 then some (LCV (ρ:=(List Deed)) (σ:=(List Deed×Int)) 0 [.slot 7 (.row .deed ([]))] [0] (fun k_0 s_0=>⟨[(0,.rs .deed l_),(1,.v (.int .i64 hour)),(2,.v (.int .i64 known)),(7,.os 0),(8,.v (.int .i64 s_0.2))],[.row .deed s_0.1]⟩) (gN l_ hour known) (iN l_ hour known) (Int.toNat hour+2) ([],0) (fun _=>.normal) (fun x_0_0=>⟨[(7,.os 0)],[.row .deed x_0_0]⟩) st)else none),?_,?_⟩
 ·unfold ae Tryz.f53;simp only[ak,true_and,and_true]
  ·refine ez mixed al hG kr (fun _=>rfl) fun k_0 s_0 hq0=>⟨(fun id st=>bif Nat.beq id 2 then some (LCR (ρ:=Empty) (σ:=(List Deed)) 1 [] [0,0] (fun k_1 s_1=>⟨[(0,.rs .deed l_),(1,.v (.int .i64 hour)),(2,.v (.int .i64 known)),(7,.os 1),(8,.v (.int .i64 s_0.2)),(9,.v (.int .i64 (k_1:Int)))],[.dead,.row .deed s_1]⟩) (j9 l_ known s_0) (iM l_ known s_0) l_.length s_0.1 (True) ((·.elim)) ((·.elim)) st)else none),?_,?_⟩
   ·simp only[ak,true_and,and_true]
    ·refine dE (l_.length<=bb) mixed al hG kr (fun _=>rfl) (l_.length:Int) rfl gX (fun hb1 k_1 s_1 hlt1 hq1 hw hc=>⟨L0,ah _,?_⟩) (fun hb1 s_1 hc=>?_) fun hb1 k_1 s_1=>?_
     ·unfold iM at hq1;try simp only[hw,Int.toNat_natCast]at hq1
      exact xx (jl [0,4]) (jl [0,1])
     ·exact xy (jl [0,4]) (jl [0,1])
     ·exact HT
   ·unfold iN at hq0;exact IF (jl [1]) (jl [0])
 ·unfold ae Tryz.f53;try unfold f9
  exact zq1
theorem xC {ρ ρ' σ σ':Type}{f:Nat->σ->ρ⊕σ}{g:Nat->σ'->ρ'⊕σ'}(R:Nat->σ->σ'->Prop):∀ (n i:Nat) (s:σ) (t:σ'),R i s t->(∀ j s t,i<=j->j<i+n->R j s t->(∃ a b,f j s=.inl a/\g j t=.inl b)\/∃ s' t',f j s=.inr s'/\g j t=.inr t'/\R (j+1) s' t')->
  (∃ a b,aj f n i s=.inl a/\aj g n i t=.inl b)\/∃ s' t',aj f n i s=.inr s'/\aj g n i t=.inr t'/\R (i+n) s' t'
 |0,i,s,t,h,_=>.inr ⟨s,t,rfl,rfl,h⟩
 |n+1,i,s,t,h,hs=>by
  rcases hs i s t (Nat.le_refl _) (by omega) h with⟨a,b,e1,e2⟩ | ⟨s',t',e1,e2,h'⟩
  ·exact .inl ⟨a,b,by simp only[aj,e1],by simp only[aj,e2]⟩
  ·simp only[aj,e1,e2];have:=xC R n (i+1) s' t' h' fun j s t h1 h2=>hs j s t (by omega) (by omega)
   rwa[show i+1+n=i+(n+1) by omega]at this
theorem K9 (l:List Part)(k:Nat):aj (eo l k) k 0 ()=.inr ()↔∀ i,i<k->(l.getD i default).farm≠(l.getD k default).farm:=by
 rw[eh];refine forall_congr' fun i=>forall_congr' fun _=>?_;unfold eo;cases h:(l.getD i default).farm==(l.getD k default).farm with
 |true=>simp only[cond_true];rw[beq_iff_eq]at h;exact⟨(fun e=>by cases e),fun e=>absurd h e⟩
 |false=>simp only[cond_false];rw[beq_eq_false_iff_ne]at h;exact⟨fun _=>h,fun _=>by first|rfl|trivial⟩
theorem FX (l:List Part)(k:Nat)(hk:k<=l.length)(f:Int):f∈(l.take k).map (fun x=>x.farm)↔∃ i,i<k/\(l.getD i default).farm=f:=by
 rw[List.mem_map];constructor
 ·rintro⟨x,hx,rfl⟩;obtain⟨i,hi,rfl⟩:=List.mem_iff_getElem.1 hx;rw[List.length_take]at hi;exact⟨i,by omega,by rw[jh l _ (by omega),List.getElem_take]⟩
 ·rintro⟨i,hi,rfl⟩;refine⟨l.getD i default,?_,rfl⟩;rw[jh l _ (by omega)];exact List.mem_iff_getElem.2 ⟨i,by rw[List.length_take];omega,by rw[List.getElem_take]⟩
theorem FY {a:Ratio}(h:RatioOk a):(a.n==a.d)=((a.n==1)&&(a.d==1)):=by
 rw[Bool.eq_iff_iff,Bool.and_eq_true,beq_iff_eq,beq_iff_eq,beq_iff_eq];constructor
 ·intro e;have h1:=h.gcd;rw[e]at h1 |-;have h2:=h.d1;have:a.d.natAbs=a.d.toNat:=by omega
  rw[this,Nat.gcd_self]at h1;omega
 ·rintro⟨h1,h2⟩;rw[h1,h2]
theorem K_ (d:District)(l:List Part):la d l:=fun hl _=>iu _ _ _ fun j s _ hj hl'=>⟨fun _=>sK _,fun _=>⟨by unfold bb at *;omega,iu _ _ _ fun i s _ hi=>by rw[Int.toNat_natCast]at hi;exact⟨by omega,by omega⟩,fun _ _=>(B5 _ _).1⟩⟩
theorem IG {d:District}(hf:d.farms.length<=600)(l:List Part):lN d l=eT d l:=by
 unfold lN eT;have h01:RatioOk { n:=0,d:=1}:=⟨by decide,by decide,by decide,by decide,by decide⟩;have key:=xC (f:=dO d l) (g:=ig d l) (fun j s t=>t=(s.1,s.2.1)/\RatioOk { n:=s.1,d:=s.2.1}/\∀ f:Int,dL .int .bool s.2.2 f=decide (f∈(l.take j).map fun x=>x.farm)) l.length 0 (0,1,[]) (0,1) ⟨rfl,h01,fun f=>by simp[dL,eM,dA]⟩ (fun j s t _ hj ⟨j1,j2,j3⟩ =>by
  rw[Nat.zero_add]at hj;subst j1;unfold dO ig;rw[Int.toNat_natCast];have hin:=pK (l.getD j default).farm (k:=d.farms.length) (by omega);have hm:=j3 (l.getD j default).farm;have hadd:=B5 { n:=s.1,d:=s.2.1} (l.getD j default).share;have hd:=K9 l j;rw[hadd.2];have htk:=cJ l default hj;have htf:=FX l j (by omega) (l.getD j default).farm;generalize hp:l.getD j default=p at *;by_cases hA:0<=p.farm/\p.farm< (d.farms.length:Int)
  ·have hA1:=hin.2 hA;have hA2:((decide (p.farm<0)) ||(decide (p.farm>=(d.farms.length:Int))))=false:=by
    rw[Bool.or_eq_false_iff,decide_eq_false_iff_not,decide_eq_false_iff_not];omega
   rw[hA1,hA2,hm];by_cases hC:p.share.n<=0
   ·rw[decide_eq_true hC];simp only[Bool.or_true,cond_true];exact .inl ⟨(),(),by first|rfl|trivial,by first|rfl|trivial⟩
   ·rw[decide_eq_false hC];simp only[Bool.not_true,Bool.false_or,Bool.or_false];by_cases hV:RatioOk p.share
    ·rw[(mE _).2 hV];simp only[Bool.not_true,cond_false];by_cases hB:p.farm∈(l.take j).map fun x=>x.farm
     ·rw[decide_eq_true hB];simp only[cond_true];have hn:aj (eo l j) j 0 ()≠ .inr ():=fun e=>by
       obtain⟨i,hi,e2⟩:=htf.1 hB;exact hd.1 e i hi e2
      cases hr:aj (eo l j) j 0 ()with
      |inl x=>exact .inl ⟨(),(),by first|rfl|trivial,by first|rfl|trivial⟩
      |inr x=>exact absurd (by rw[hr]) hn
     ·rw[decide_eq_false hB];simp only[cond_false];have hn:aj (eo l j) j 0 ()=.inr ():=hd.2 fun i hi e=>hB (htf.2 ⟨i,hi,e⟩);rw[hn];simp only;cases he:((dY { n:=s.1,d:=s.2.1} p.share).2 !=0)with
      |true=>exact .inl ⟨(),(),by first|rfl|trivial,by first|rfl|trivial⟩
      |false=>
       have he:(dY { n:=s.1,d:=s.2.1} p.share).2=0:=by simpa using he
       obtain⟨_,_,a3,_⟩:=H_ (r:=(dY { n:=s.1,d:=s.2.1} p.share).1) (by rw[<-he]);refine .inr ⟨_,_,rfl,rfl,rfl,a3,fun f=>?_⟩;rw[oo,htk,List.map_append];by_cases hf:f=p.farm
       ·subst hf;simp
       ·rw[if_neg hf,j3,decide_eq_decide];simp only[List.mem_append,List.map_cons,List.map_nil,List.mem_singleton];exact⟨.inl,fun h=>h.elim id fun e=>absurd e hf⟩
    ·have hV2:cF p.share=false:=by
      cases h:cF p.share with
      |true=>exact absurd ((mE _).1 h) hV
      |false=>rfl
     rw[hV2];simp only[Bool.not_false,cond_true];have he:((dY { n:=s.1,d:=s.2.1} p.share).2 !=0)=true:=by
      rw[Di,if_neg (fun h=>hV ((dR _).1 h.2))];rfl
     rw[he];cases decide (p.farm∈(l.take j).map fun x=>x.farm) <;>exact .inl ⟨(),(),by first|rfl|trivial,by first|rfl|trivial⟩
  ·have hA1:ap p.farm 0 (i64.wrap ((d.farms.length:Int) - 1))=false:=by
    cases h:ap p.farm 0 (i64.wrap ((d.farms.length:Int) - 1))with
    |true=>exact absurd (hin.1 h) hA
    |false=>rfl
   have hA2:((decide (p.farm<0)) ||(decide (p.farm>=(d.farms.length:Int))))=true:=by
    rw[Bool.or_eq_true,decide_eq_true_eq,decide_eq_true_eq];omega
   rw[hA1,hA2];exact .inl ⟨(),(),by first|rfl|trivial,by first|rfl|trivial⟩)
 by_cases hl:1<=l.length/\l.length<=16
 ·have e1:((decide ((l.length:Int) <1)) ||(decide ((l.length:Int) > 16)))=false:=by
   rw[Bool.or_eq_false_iff,decide_eq_false_iff_not,decide_eq_false_iff_not];omega
  have e2:ap (l.length:Int) 1 16=true:=(nJ _ _ _).2 (by omega);rw[e1,e2];simp only[cond_false,Bool.true_and];rcases key with⟨a,b,q1,q2⟩ | ⟨s,t,q1,q2,q3,q4,_⟩
  ·rw[q1,q2]
  ·rw[q1,q2];subst q3;exact FY q4
 ·have e1:((decide ((l.length:Int) <1)) ||(decide ((l.length:Int) > 16)))=true:=by
   rw[Bool.or_eq_true,decide_eq_true_eq,decide_eq_true_eq];omega
  have e2:ap (l.length:Int) 1 16=false:=by
   cases h:ap (l.length:Int) 1 16 with
   |true=>have:=(nJ _ _ _).1 h;omega
   |false=>rfl
  rw[e1,e2];simp only[cond_true,Bool.false_and];split <;>rfl
theorem B6 (b:List Deed)(n:Int):(ii b n= -1/\∀ y∈b,¬ (y.no=n/\y.kind≠4))\/∃ K y R,b=K++y::R/\ii b n=(K.length:Int)/\y.no=n/\y.kind≠4:=by
 unfold ii;have hP:∀ y:Deed,((y.no==n)&&(y.kind !=4))=true↔(y.no=n/\y.kind≠4):=fun y=>by rw[Bool.and_eq_true,beq_iff_eq,bne_iff_ne]
 rcases BV (step:=mY b n) b default (fun y=>(y.no==n)&&(y.kind !=4)) (fun k _=>rfl)with⟨e,h⟩ | ⟨K,x,R,h1,e,h2,h3⟩
 ·rw[e];exact .inl ⟨rfl,fun y hy hh=>by have:=h y hy;rw[(hP y).2 hh]at this;cases this⟩
 ·rw[e];exact .inr ⟨K,x,R,h1,rfl,(hP x).1 h2⟩
theorem La {d:District}(hf:d.farms.length<=600)(hr:d.rights.length<=256){b:List Deed}(hb:Asc b)(x:Deed):lO d b x=bU d (nK b) x:=by
 unfold lO bU;have hh:iz d x=((ap x.right 0 (i64.wrap ((d.rights.length:Int) - 1)))&&((d.rights.getD (Int.toNat x.right) (default:Right)).kind==1)&&(ap x.since 0 (i64.wrap ((d.farms.length:Int) - 1)))):=by
  unfold iz;rw[Bool.eq_iff_iff];simp only[Bool.and_eq_true,decide_eq_true_eq];rw[pK _ (by omega),pK _ (by omega)];constructor
  ·rintro⟨⟨⟨⟨a,b⟩,c⟩,e⟩,f⟩;exact⟨⟨⟨a,b⟩,c⟩,e,f⟩
  ·rintro⟨⟨⟨a,b⟩,c⟩,e,f⟩;exact⟨⟨⟨⟨a,b⟩,c⟩,e⟩,f⟩
 have hto:((decide (x.to>=0))&&(decide (x.to< (d.farms.length:Int))))=ap x.to 0 (i64.wrap ((d.farms.length:Int) - 1)):=by
  rw[Bool.eq_iff_iff,pK _ (by omega),Bool.and_eq_true,decide_eq_true_eq,decide_eq_true_eq]
 have hrg:(((((((decide (x.no<0)) ||(decide (x.no > 1048576))) ||(decide (x.at_<0))) ||(decide (x.at_ > 4096))) ||(decide (x.known<0))) ||(decide (x.known > 1048576))))=(((!(ap x.no 0 1048576)) ||(!(ap x.at_ 0 4096))) ||(!(ap x.known 0 1048576))):=by
  rw[Bool.eq_iff_iff];simp only[Bool.or_eq_true,decide_eq_true_eq,Bool.not_eq_true',<-Bool.not_eq_true,nJ];omega
 rw[hrg,hh];cases hg:(((!(ap x.no 0 1048576)) ||(!(ap x.at_ 0 4096))) ||(!(ap x.known 0 1048576)))with
 |true=>simp
 |false=>
  simp only[Bool.false_or,cond_false];unfold gF fb;simp only[Bool.true_or,Bool.false_or,Bool.true_and];by_cases k1:x.kind=1
  ·rw[show(x.kind==1)=true by rw[k1];rfl];simp only[cond_true];rw[<-hto];cases(x.parts.length:Int) ==0 <;>cases x.of_==0 <;>simp[Bool.and_assoc]
  ·rw[show(x.kind==1)=false by simpa using k1];by_cases k2:x.kind=2
   ·rw[show(x.kind==2)=true by rw[k2];rfl];simp only[cond_true,cond_false];rw[IG hf];cases x.to==0 <;>cases x.of_==0 <;>simp
   ·rw[show(x.kind==2)=false by simpa using k2];by_cases k3:x.kind=3
    ·rw[show(x.kind==3)=true by rw[k3];rfl];simp only[cond_true,cond_false];cases x.to==0 <;>cases(x.parts.length:Int) ==0 <;>cases x.of_==0 <;>simp
    ·rw[show(x.kind==3)=false by simpa using k3];by_cases k4:x.kind=4
     ·rw[show(x.kind==4)=true by rw[k4];rfl];simp only[cond_true,cond_false,Bool.or_true,Bool.and_true];cases hz:((((x.right==0)&&(x.since==0))&&(x.to==0))&&((x.parts.length:Int) ==0))with
      |false=>simp
      |true=>
       simp only[Bool.true_and,Bool.not_true,cond_false];rw[BU];rcases B6 b x.of_ with⟨e,hno⟩ | ⟨K,y,R,e1,e2,e3,e4⟩
       ·rw[e];simp only[show decide ((-1:Int)>=0)=false by decide,Bool.false_and];cases ha:b.any fun y=>y.no==x.of_ with
        |false=>rfl
        |true=>
         rw[List.any_eq_true]at ha;obtain⟨y,hy,hn⟩:=ha;have hn:y.no=x.of_:=by simpa using hn
         have hk:y.kind=4:=Classical.byContradiction fun hk=>hno y hy ⟨hn,hk⟩;rw[<-hn,xn hb hy,hk];rfl
       ·have hy:y∈b:=by rw[e1];simp
        have hg2:b.getD (Int.toNat (K.length:Int)) default=y:=by rw[Int.toNat_natCast,e1];simp[List.getD_eq_getElem?_getD]
        have ha:(b.any fun y=>y.no==x.of_)=true:=List.any_eq_true.2 ⟨y,hy,by simp[e3]⟩;rw[e2,hg2,ha,<-e3,xn hb hy,decide_eq_true (by omega:(K.length:Int)>=0)];simp[e4]
     ·rw[show(x.kind==4)=false by simpa using k4];simp
theorem xD (d:District)(x:Deed):j8 d x:=fun h=>by
 simp only[Bool.and_eq_true,decide_eq_true_eq]at h;omega
theorem FZ (d:District)(b:List Deed)(x:Deed):ld d b x:=fun _=>⟨fun _ _=>xD _ _,fun _=>⟨fun _=>⟨fun _=>xD _ _,fun _=>K_ _ _⟩,fun _=>⟨fun _ _=>xD _ _,fun _ _ h=>by
 simp only[Bool.and_eq_true,decide_eq_true_eq]at h;rcases B6 b x.of_ with⟨e,_⟩ | ⟨K,y,R,e1,e2,_⟩
 ·rw[e]at h;omega
 ·rw[e2,e1];simp;omega⟩⟩⟩
theorem IH (l:List Deed):kI l=((decide ((l.length:Int) > 512)) ||ay l):=by
 unfold kI;cases decide ((l.length:Int) > 512)with
 |true=>rfl
 |false=>
  simp only[cond_false,Bool.false_or];cases hr:aj (gH l) l.length 0 ()with
  |inr s=>
   have h:=eh.1 hr
   symm
   refine(k9 l).2 fun x hx=>?_;obtain⟨j,hj,rfl⟩:=List.mem_iff_getElem.1 hx;have:=h j hj;unfold gH at this;rw[jh l _ hj]at this;cases hc:decide (((l[j].parts).length:Int) > 16)with
   |true=>rw[hc]at this;cases this
   |false=>rw[decide_eq_false_iff_not]at hc;omega
  |inl y=>
   cases hc:ay l with
   |true=>rfl
   |false=>
    have h:=(k9 l).1 hc;have:aj (gH l) l.length 0 ()=.inr ():=eh.2 fun j hj=>by
     unfold gH;rw[jh l _ hj,decide_eq_false (by have:=h l[j] (List.getElem_mem hj);omega)];rfl
    rw[this]at hr;cases hr
theorem oy (d:District)(l:List Deed):fG d l:=⟨FI d,fun _ _=>iu _ _ _ fun j s _ hj hl=>⟨fun h=>by
  rw[decide_eq_true_eq]at h;rw[a8 (by omega) (by unfold bb at *;omega)];omega,fun _=>⟨by omega,by omega,by omega⟩,fun _=>FZ _ _ _⟩⟩
theorem EE (d:District)(l:List Deed):dG d l=ai d l:=by
 unfold dG ai;rw[<-H7 d,IH];cases h1:(bg d !=0)with
 |true=>rfl
 |false=>
  simp only[cond_false];cases h2:((decide ((l.length:Int) > 512)) ||ay l)with
  |true=>rfl
  |false=>
   simp only[cond_false];have hr:=uw (d:=d) h1;rw[Bool.or_eq_false_iff,decide_eq_false_iff_not]at h2;have key:=xC (f:=ij d l) (g:=cW d l) (fun j _ t=>t=nK (l.take j)/\Asc (l.take j)) l.length 0 () [] ⟨rfl,by rw[List.take_zero];exact List.Pairwise.nil⟩ (fun j s t _ hj ⟨j1,j2⟩ =>by
    rw[Nat.zero_add]at hj;subst j1;unfold ij cW;rw[List.drop_zero,La hr.farms hr.rights j2];cases hc:(((decide ((j:Int) > 0))&&(decide ((l.getD j (default:Deed)).no<=(l.getD (Int.toNat (i64.wrap ((j:Int) - 1))) (default:Deed)).no))) ||(!(bU d (nK (l.take j)) (l.getD j (default:Deed)))))with
    |true=>exact .inl ⟨(),(),by first|rfl|trivial,by first|rfl|trivial⟩
    |false=>
     refine .inr ⟨(),_,rfl,rfl,by rw[cJ l default hj,qm],?_⟩;rw[cJ l default hj];refine List.pairwise_append.2 ⟨j2,List.pairwise_singleton _ _,fun y hy z hz=>?_⟩;simp only[List.mem_singleton]at hz;subst hz;rw[Bool.or_eq_false_iff,Bool.and_eq_false_iff,decide_eq_false_iff_not,decide_eq_false_iff_not]at hc;obtain⟨i,hi,rfl⟩:=List.mem_iff_getElem.1 hy;rw[List.length_take]at hi;have h0:0<j:=by omega
     rw[tZ (by omega) h0,Int.toNat_natCast]at hc;have h3:(l.getD (j - 1) default).no< (l.getD j default).no:=by omega
     have h4:(l.take j)[i].no<=(l.getD (j - 1) default).no:=by
      rcases Nat.lt_or_ge i (j - 1)with h5|h5
      ·have:=List.pairwise_iff_getElem.1 j2 i (j - 1) (by rw[List.length_take];omega) (by rw[List.length_take];omega) h5;rw[jh l _ (by omega)];rw[List.getElem_take,List.getElem_take]at this;rw[List.getElem_take];omega
      ·have e:i=j - 1:=by omega
       subst e;rw[jh l _ (by omega),List.getElem_take];exact Int.le_refl _
     omega)
   rcases key with⟨a,b,q1,q2⟩ | ⟨s,t,q1,q2,_⟩
   ·rw[q1,q2]
   ·rw[q1,q2]
@[go_sem] def fw (a0:Deed)(a1:Deed)(k_0:Nat)(s_0:Unit):Unit⊕Unit:=letI q0:=a0.parts.getD k_0 default;letI q1:=a1.parts.getD k_0 default;(bif(!((q0.farm==q1.farm)&&((q0.share.n==q1.share.n)&&(q0.share.d==q1.share.d))))then .inl ()else .inr ())
def iO (a0:Deed)(a1:Deed)(k_0:Nat)(s_0:Unit):Prop:=(a0.parts.length<=bb->(0<=(k_0:Int)/\(k_0:Int) < (a1.parts.length:Int)))
def ik (a0:Deed)(a1:Deed):Bool:=(bif(((((((((a0.no !=a1.no) ||(a0.kind !=a1.kind)) ||(a0.right !=a1.right)) ||(a0.since !=a1.since)) ||(a0.to !=a1.to)) ||(a0.of_ !=a1.of_)) ||(a0.at_ !=a1.at_)) ||(a0.known !=a1.known)) ||((a0.parts.length:Int) !=(a1.parts.length:Int)))then false else(match aj (fw a0 a1) a0.parts.length 0 ()with| .inl x_0_0=>false| .inr s_0=>true))
def iA (a0:Deed)(a1:Deed):Prop:=((((((((((a0.no !=a1.no) ||(a0.kind !=a1.kind)) ||(a0.right !=a1.right)) ||(a0.since !=a1.since)) ||(a0.to !=a1.to)) ||(a0.of_ !=a1.of_)) ||(a0.at_ !=a1.at_)) ||(a0.known !=a1.known)) ||((a0.parts.length:Int) !=(a1.parts.length:Int)))=false->okI (fw a0 a1) (iO a0 a1) a0.parts.length 0 ())
@[go_sem] def oz:List SV->Option Con:=(pD .deed fun a0=>(pD .deed fun a1=>(pE (.det (iA a0 a1) (.v (.bool (ik a0 a1)))))))
theorem ta:FnOk Tryz.prog 30 oz:=by
 have hG:ConsOk Tryz.prog (mkG [] []):=av cg0 cg0;refine aR [.o] mixed al hG (fn:=Tryz.f30) (c:=ae Tryz.f30) kr kr kr kr (aS fun a0=>(aS fun a1=>(aD (fun hp=>?_))));dsimp only[aC]at hp;unfold iA at hp;refine⟨nbl rfl,(fun id st=>bif Nat.beq id 0 then some (LCR (ρ:=Unit) (σ:=Unit) 2 [] [0,1] (fun k_0 s_0=>⟨[(2,.ptr 0 0),(3,.ptr 1 0),(5,.v (.int .i64 (k_0:Int)))],[.cells (cellsOf .deed a0),.cells (cellsOf .deed a1)]⟩) (fw a0 a1) (iO a0 a1) a0.parts.length () (True) (fun _=>.ret) (fun x_0_0=>⟨[(4,.v (.bool false))],[.dead,.dead]⟩) st)else none),?_,?_⟩
 ·unfold ae Tryz.f30;simp only[ak,true_and,and_true]
  ·refine dE (a0.parts.length<=bb) mixed al hG kr (fun _=>rfl) (a0.parts.length:Int) rfl gX (fun hb0 k_0 s_0 hlt0 hq0 hw hc=>⟨L0,ah _,?_⟩) (fun hb0 s_0 hc=>?_) fun hb0 k_0 s_0=>?_
   ·unfold iO at hq0;try simp only[hw,Int.toNat_natCast]at hq0
    exact bY (jl [0,1])
   ·exact bZ (jl [0,1])
   ·exact zq7
 ·unfold ae Tryz.f30;try unfold ik
  exact zq1
@[go_sem] def i6 (a:List Deed)(b:List Deed)(k_0:Nat)(s_0:Unit):Unit⊕Unit:=(bif(!(ik (a.getD k_0 default) (b.getD k_0 default)))then .inl ()else .inr ())
def l7 (a:List Deed)(b:List Deed)(k_0:Nat)(s_0:Unit):Prop:=(a.length<=bb->((0<=(k_0:Int)/\(k_0:Int) < (b.length:Int))/\(iA (a.getD k_0 default) (b.getD k_0 default))))
def na (a:List Deed)(b:List Deed):Bool:=(bif((a.length:Int) !=(b.length:Int))then false else(match aj (i6 a b) a.length 0 ()with| .inl x_0_0=>false| .inr s_0=>true))
def mv (a:List Deed)(b:List Deed):Prop:=(a.length<=bb->(b.length<=bb->(((a.length:Int) !=(b.length:Int))=false->okI (i6 a b) (l7 a b) a.length 0 ())))
@[go_sem] def tb:List SV->Option Con:=(pR .deed fun a=>(pR .deed fun b=>(pE (.det (mv a b) (.v (.bool (na a b)))))))
theorem yd:FnOk Tryz.prog 17 tb:=by
 have hG:ConsOk Tryz.prog (mkG [(30,fun l=>oz (cX [.st .deed,.st .deed] l))] []):=av (cgc (ta.norm [.st .deed,.st .deed]) cg0) cg0;refine aR [.o] mixed al hG (fn:=Tryz.f17) (c:=ae Tryz.f17) kr kr kr kr (dN fun a=>(dN fun b=>(aD (fun hp=>?_))));dsimp only[aC]at hp;unfold mv at hp;refine⟨nbl rfl,(fun id st=>bif Nat.beq id 0 then some (LCR (ρ:=Unit) (σ:=Unit) 0 [] [] (fun k_0 s_0=>⟨[(0,.rs .deed a),(1,.rs .deed b),(5,.v (.int .i64 (k_0:Int)))],[]⟩) (i6 a b) (l7 a b) a.length () (True) (fun _=>.ret) (fun x_0_0=>⟨[(4,.v (.bool false))],[]⟩) st)else none),?_,?_⟩
 ·unfold ae Tryz.f17;simp only[ak,true_and,and_true]
  ·refine dE (a.length<=bb) mixed al hG kr (fun _=>rfl) (a.length:Int) rfl gX (fun hb0 k_0 s_0 hlt0 hq0 hw hc=>⟨L0,ah _,?_⟩) (fun hb0 s_0 hc=>?_) fun hb0 k_0 s_0=>?_
   ·unfold l7 at hq0;try simp only[hw,Int.toNat_natCast]at hq0
    exact bY (jl [])
   ·exact bZ (jl [])
   ·exact zq7
 ·unfold ae Tryz.f17;try unfold na
  exact zq1
@[go_sem] def td (l_:List Deed)(k_0:Nat)(s_0:Unit):Unit⊕Unit:=(bif(decide ((((l_.getD k_0 default).parts).length:Int) > 100))then .inl ()else .inr ())
def qr (d:District)(l_:List Deed):Bool:=letI q0:=(l_.length:Int);letI q1:=(d.rights.length:Int);letI q2:=(d.farms.length:Int);(bif((decide (q0 > 512))&&(decide (q0<=700)))then(qi d)else(bif((((decide (q0 > 60)) ||(!(qi d))) ||((decide (q1 > 40))&&(decide (q1<=256)))) ||((decide (q2 > 60))&&(decide (q2<=600))))then false else(match aj (td l_) l_.length 0 ()with| .inl x_0_0=>false| .inr s_0=>true)))
@[go_sem] def uI:List SV->Option Con:=(pD .district fun d=>(pR .deed fun l_=>(pE (.det True (.v (.bool (qr d l_)))))))
theorem Au:FnOk Tryz.prog 12 uI:=by
 have hG:ConsOk Tryz.prog (mkG [(35,fun l=>uo (cX [.st .district] l))] []):=av (cgc (z7.norm [.st .district]) cg0) cg0;refine aR [.o] mixed al hG (fn:=Tryz.f12) (c:=ae Tryz.f12) kr kr kr kr (aS fun d=>(dN fun l_=>(aD (fun hp=>?_))));dsimp only[aC]at hp;refine⟨nbl rfl,(fun id st=>bif Nat.beq id 0 then some (LCR (ρ:=Unit) (σ:=Unit) 1 [] [0] (fun k_0 s_0=>⟨[(1,.rs .deed l_),(5,.v (.int .i64 (k_0:Int)))],[.dead]⟩) (td l_) pT l_.length () (True) (fun _=>.ret) (fun x_0_0=>⟨[(4,.v (.bool false))],[.dead]⟩) st)else none),?_,?_⟩
 ·unfold ae Tryz.f12;simp only[ak,true_and,and_true]
  ·refine dE (l_.length<=bb) mixed al hG kr (fun _=>rfl) (l_.length:Int) rfl gX (fun hb0 k_0 s_0 hlt0 _ hw hc=>⟨L0,ah _,?_⟩) (fun hb0 s_0 hc=>?_) fun hb0 k_0 s_0=>?_
   ·exact bY (jl [0])
   ·exact bZ (jl [0])
   ·exact zq7
 ·unfold ae Tryz.f12;try unfold qr
  exact zq1
def t_ (x:Deed)(l:List Deed):List Deed:=l.filter (fun y=>decide (y.no<x.no))++x::l.filter (fun y=>!decide (y.no<x.no))
theorem II (x:Deed)(l:List Deed):(t_ x l).length=l.length+1:=by
 unfold t_;rw[List.length_append,List.length_cons];have:=List.length_eq_countP_add_countP (l:=l) (fun y=>decide (y.no<x.no));simp only[List.countP_eq_length_filter,decide_not,Bool.decide_eq_true]at this;omega
theorem F0 {l:List Deed}(hA:Asc l){q:Nat}(n:Int)(h1:∀ i,i<q->(l.getD i default).no<n)(h2:∀ i,q<=i->i<l.length->n<=(l.getD i default).no)(hq:q<=l.length):
  l.take q=l.filter (fun y=>decide (y.no<n))/\l.drop q=l.filter (fun y=>!decide (y.no<n)):=by
 have e1:∀ y∈l.take q,y.no<n:=fun y hy=>by
  obtain⟨i,hi,e⟩:=List.getElem_of_mem hy;rw[List.length_take]at hi;have:=h1 i (by omega);rw[ji l _ (by omega)]at this;rw[List.getElem_take]at e;rw[<-e];exact this
 have e2:∀ y∈l.drop q,¬y.no<n:=fun y hy=>by
  obtain⟨i,hi,e⟩:=List.getElem_of_mem hy;rw[List.length_drop]at hi;have:=h2 (q+i) (by omega) (by omega);rw[ji l _ (by omega)]at this;rw[List.getElem_drop]at e;rw[<-e];omega
 have key:∀ p:Deed->Bool,l.filter p=(l.take q).filter p++(l.drop q).filter p:=fun p=>by rw[<-List.filter_append,List.take_append_drop]
 constructor
 ·rw[key,List.filter_eq_self.2 fun y hy=>by simpa using e1 y hy,List.filter_eq_nil_iff.2 fun y hy=>by simpa using e2 y hy,List.append_nil]
 ·rw[key,List.filter_eq_nil_iff.2 fun y hy=>by simpa using e1 y hy,List.filter_eq_self.2 fun y hy=>by simpa using e2 y hy,List.nil_append]
theorem xE {l:List Deed}(hA:Asc l){q:Nat}(x:Deed)(h1:∀ i,i<q->(l.getD i default).no<x.no)(h2:∀ i,q<=i->i<l.length->x.no<=(l.getD i default).no)(hq:q<=l.length):l.take q++x::l.drop q=t_ x l:=by
 obtain⟨e1,e2⟩:=F0 hA x.no h1 h2 hq;unfold t_;rw[e1,e2]
theorem F4 {l:List Deed}(hA:Asc l){q:Nat}{n:Int}(h1:∀ i,i<q->(l.getD i default).no<n)(h2:∀ i,q<=i->i<l.length->n<=(l.getD i default).no):(q<l.length/\(l.getD q default).no=n)↔∃ y∈l,y.no=n:=by
 constructor
 ·rintro⟨h,e⟩;exact⟨l.getD q default,by rw[ji l _ h];exact List.getElem_mem h,e⟩
 ·rintro⟨y,hy,e⟩;obtain⟨i,hi,e'⟩:=List.getElem_of_mem hy;have hi':(l.getD i default).no=n:=by rw[ji l _ hi,e',e]
  rcases Nat.lt_or_ge i q with h|h
  ·have:=h1 i h;omega
  ·rcases Nat.eq_or_lt_of_le h with rfl|h
   ·exact⟨hi,hi'⟩
   ·have:=B4 hA h hi;have:=h2 q (Nat.le_refl _) (by omega);omega
def Lb (d:District)(l:List Deed)(x:Deed):List Deed×Int:=
 if ai d l≠0 then([],ai d l)else if(∃ y∈l,y.no=x.no)then([],171)else if ai d (t_ x l)≠0 then([],ai d (t_ x l))else(t_ x l,0)
theorem EF (d:District)(l:List Deed)(x:Deed):ed d l x/\d6 d l x=Lb d l x:=by
 unfold Lb;by_cases hc:ai d l=0
 ·have hD:=pW hc;obtain⟨b1,q,q1,q2,q3,q4⟩:=ED hD.asc (Nat.le_trans hD.len (by decide)) x.no;have hins:pJ (q:Int) l [x]=t_ x l:=by
   unfold pJ;rw[Int.toNat_natCast,<-xE hD.asc x q3 q4 q1];rfl
  have hl:=hD.len;have hmB:fB=140737488355328:=rfl;have hh:decide (q<l.length/\(l.getD q default).no=x.no)=decide (∃ y∈l,y.no=x.no):=decide_eq_decide.2 (F4 hD.asc q3 q4);rw[hh]at q2;refine⟨⟨gB d l,fun _=>⟨b1,fun _=>⟨by rw[hmB];omega,?_,gB _ _⟩⟩⟩,?_⟩
  ·rw[q2];exact⟨⟨by omega,by omega⟩,by simp,by rw[hmB];simp only[List.length_cons,List.length_nil];omega⟩
  ·unfold d6;rw[if_neg (by simp[hc]),hc,q2,hins];simp only[bne_self_eq_false,cond_false];by_cases hx:∃ y∈l,y.no=x.no
   ·rw[decide_eq_true hx,if_pos hx];rfl
   ·rw[decide_eq_false hx,if_neg hx];simp only[cond_false];by_cases hy:ai d (t_ x l)=0
    ·rw[if_neg (by simp[hy]),hy];rfl
    ·have hne:(ai d (t_ x l) !=0)=true:=by simpa using hy
     rw[if_pos hy,hne];rfl
 ·have hne:(ai d l !=0)=true:=by simpa using hc
  refine⟨⟨gB d l,fun h=>by rw[hne]at h;cases h⟩,?_⟩;unfold d6;rw[if_pos hc,hne];rfl
theorem Oe (a b:Deed):iA a b:=fun h=>iu _ _ _ fun j _ _ hj _=>by
 simp only[Bool.or_eq_false_iff]at h;have:=h.2;simp at this;omega
theorem F5 (a:Deed):ik a a=true:=by
 unfold ik;have e:aj (fw a a) a.parts.length 0 ()=.inr ():=eh.2 fun j _=>by
  unfold fw;simp
 rw[e];simp
theorem Of (a b:List Deed):mv a b:=fun _ _ h=>iu _ _ _ fun j _ _ hj _=>by
 simp at h;exact⟨by omega,Oe _ _⟩
theorem F6 (a:List Deed):na a a=true:=by
 unfold na;have e:aj (i6 a a) a.length 0 ()=.inr ():=eh.2 fun j _=>by
  unfold i6;simp[F5]
 rw[e];simp
end Go.Sx
end
