/- Part of the proof that the law ClaimsSpec returns true and leaves its arguments as they were, for all arguments of bulk at most 1048576 (the Upto form). -/
import Derived.Test.YtgdkdhdlfdcefaaGreatC113
import Derived.Test.YtgdkdhdlfdcefaaGreatC111
import Derived.Test.YtgdkdhdlfdcefaaGreatC112
import Derived.Test.YtgdkdhdlfdcefaaGreatC109
import Derived.Test.YtgdkdhdlfdcefaaGreatC108
import Derived.Test.YtgdkdhdlfdcefaaGreatC107
import Derived.Deep.Slices
import Derived.OpenShut
import Derived.ChangeSame
import Derived.WideKeyArgs
import Derived.Below
import Derived.Test.YtgdkdhdlfdcefaaGreatRows
import Derived.WalkKit
import Derived.ProofKit
import Derived.JoinedCond
import Derived.Carry
set_option linter.all false
set_option maxHeartbeats 4000000
set_option maxRecDepth 100000
section
namespace Go.Sx
open Go.Proofs
open IntKind (i64)
theorem WL {d:District}(h:ay d=0)(hR:Right1 d){ds:List Deed}(hd:∀ x∈ds,Fit d x∧x.kind≠4)(hl:ds.length≤512){r:Nat}(hr:r<d.rights.length)(hk:(d.rights.getD r default).kind=1):
  lz d ds (r:Int)∧∃ s,cy d ds (r:Int)=(s,uZ r ds (B0 d))∧RowL d.farms.length s (lM ds (B0 d) r):=by
 have hto:=wp h hr hk;have hfl:=hR.farms;have hrl:=hR.rights;obtain⟨bg,bt⟩:=II h hr hk;have hg:∀ j,Good d.farms.length (d.rights.getD r default).litres (lM (ds.take j) (B0 d) r):=fun j=>(DI (ds.take j) _ (fun x hx=>hd x (List.mem_of_mem_take hx)) bg).1;have h0:RowL d.farms.length ((List.replicate (Int.toNat (d.farms.length:Int)) (0:Int)).set (Int.toNat ((d.rights.getD (Int.toNat (r:Int)) (default:Right)).farm)) (d.rights.getD (Int.toNat (r:Int)) (default:Right)).litres) (B0 d r):=by
  rw[Int.toNat_natCast,Int.toNat_natCast];have h1:RowL d.farms.length (List.replicate d.farms.length 0) (fun _=>0):=⟨by simp,fun f hf=>by rw[List.getD_eq_getElem?_getD,List.getElem?_replicate];simp[hf]⟩;have h2:=h1.set (v:=(d.rights.getD r default).litres) hto.f0 hto.f1;have e:B0 d r=gA (fun _=>0) (d.rights.getD r default).farm (d.rights.getD r default).litres:=by
   funext f
   unfold B0 gA;rw[Int.toNat_natCast];by_cases hf:f=(d.rights.getD r default).farm
   ·rw[if_pos ⟨by omega,by omega,hk,hf.symm⟩,if_pos hf]
   ·rw[if_neg (fun h=>hf h.2.2.2.symm),if_neg hf]
  rw[e];exact h2
 have drop_succ:∀ j,j<ds.length→ds.drop j=ds.getD j default::ds.drop (j+1):=fun j hj=>by rw[dX _ _ hj,List.drop_eq_getElem_cons hj]
 have elen:∀ (l:List Deed) (B:Int→Int→Int),(uZ r l B).length≤l.length:=fun l=>by
  induction l with
  |nil=>intro B;simp[uZ]
  |cons x l ih=>
   intro B;have:=ih (jE x B);simp only[uZ,List.length_append,List.length_cons];split <;>simp <;>omega
 have step:∀ j (s:List Int×List Int),j<ds.length→s.1++uZ r (ds.drop j) (lM (ds.take j) (B0 d))=uZ r ds (B0 d)→RowL d.farms.length s.2 (lM (ds.take j) (B0 d) r)→
   fh ds r j s∧∃ s',fo ds r j s=.inr s'∧s'.1++uZ r (ds.drop (j+1)) (lM (ds.take (j+1)) (B0 d))=uZ r ds (B0 d)∧RowL d.farms.length s'.2 (lM (ds.take (j+1)) (B0 d) r):=fun j s hj j1 j2=>by
  obtain⟨e,s⟩:=s;have hm:ds.getD j default∈ds:=by rw[dX _ _ hj];exact List.getElem_mem _
  have hlen:e.length≤512:=by
   have:=congrArg List.length j1;rw[List.length_append]at this;have:=elen ds (B0 d);simp only at *;omega
  obtain⟨q1,s',q2,q3⟩:=MB (ds:=ds) (j:=j) (r:=r) rfl (hd _ hm).1 (hd _ hm).2 hto.l1 (e:=e) (hg j) j2 (by unfold d5;omega);refine⟨q1,_,q2,?_,?_⟩
  ·rw[←j1,drop_succ j hj,Cl ds (B0 d) hj];simp only[uZ];rw[List.append_assoc];congr 2
   by_cases h:(ds.getD j default).right=(r:Int)
   ·rw[h]
   ·rw[if_neg (fun q=>h q.1),if_neg (fun q=>h q.1)]
  ·rw[Cl ds (B0 d) hj];show RowL _ s' (if(r:Int)=(ds.getD j default).right then uY _ (lM (ds.take j) (B0 d) r)else _);by_cases h:(ds.getD j default).right=(r:Int)
   ·rw[if_pos h]at q3;rw[if_pos h.symm];exact q3
   ·rw[if_neg h]at q3;rw[if_neg (fun e=>h e.symm)];exact q3
 obtain⟨⟨e,s⟩,r1,r2,r3⟩:=iJ (step:=fo ds r) (fun j s=>s.1++uZ r (ds.drop j) (lM (ds.take j) (B0 d))=uZ r ds (B0 d)∧RowL d.farms.length s.2 (lM (ds.take j) (B0 d) r)) ds.length 0 ([],_) ⟨by simp[lM],h0⟩ (fun j s _ hj ⟨j1,j2⟩ =>by
  obtain⟨s',q1,q2,q3⟩:=(step j s (by omega) j1 j2).2;exact⟨s',q1,q2,q3⟩)
 rw[Nat.zero_add,List.take_length]at r2 r3;rw[List.drop_length]at r2;simp only[uZ,List.append_nil]at r2 r3;refine⟨fun _=>⟨⟨rfl,by omega,by unfold d5;omega⟩,fun _=>⟨by omega,by omega,?_,?_⟩⟩,s,?_,r3⟩
 ·rw[Int.toNat_natCast];simp only[List.length_replicate,Int.toNat_natCast];exact⟨hto.f0,hto.f1⟩
 ·exact lh (fun j s=>s.1++uZ r (ds.drop j) (lM (ds.take j) (B0 d))=uZ r ds (B0 d)∧RowL d.farms.length s.2 (lM (ds.take j) (B0 d) r)) _ _ _ ⟨by simp[lM],h0⟩ fun j s _ hj hs=>⟨(step j s (by omega) hs.1 hs.2).1,fun s' h=>by
   obtain⟨s2,q1,q2,q3⟩:=(step j s (by omega) hs.1 hs.2).2;rw[q1]at h;cases h;exact⟨q2,q3⟩⟩
 ·unfold cy;rw[r1];simp only[r2]
theorem Bl {d:District}{B:Int→Int→Int}{r:Nat}(h:B r=fun _=>0):gu d B r=[]:=by
 rw[List.eq_nil_iff_forall_not_mem];intro x hx;obtain⟨f,_,h0,_⟩:=lN.1 hx;rw[h]at h0;exact absurd h0 (Int.lt_irrefl 0)
theorem at25 (d:District)(l:List Deed)(hour known:Int):oR d l hour known∧c8 d l hour known=ah d l hour known:=by
 rw[(Ck d l hour known).2];unfold oR c8;rw[ID];cases hc:(aC d l !=0)with
 |true=>
  refine⟨⟨tA d l,(fun h=>by cases h)⟩,?_⟩;rw[if_pos (by simpa using hc)];rfl
 |false=>
  have hc:aC d l=0:=by simpa using hc
  have hD:=nz hc;have hE:=((tx d l).1 hc).1;rw[if_neg (by simp[hc])];simp only[cond_false];by_cases hg:0≤hour∧hour<d.hours∧0≤known∧known≤1048576
  ·have e:((((decide (hour<0)) ||(decide (hour≥d.hours))) ||(decide (known<0))) ||(decide (known > 1048576)))=false:=by
    simp only[Bool.or_eq_false_iff,decide_eq_false_iff_not];omega
   rw[e,if_pos hg];simp only[cond_false];obtain⟨c1,c2⟩:=Ho hD hour known;have hlf:=wq hD hour known;have hlen:(stS (wo l hour known)).length≤512:=by rw[IG];exact Nat.le_trans (List.length_filter_le _ _) hD.len
   have hH:=FF hE hlf;have hB:fZ d l hour known=lM (stS (wo l hour known)) (B0 d):=rfl;have hcl:=xk hD.right (fZ d l hour known);have hfl:=hD.right.farms;have hrl:=hD.right.rights;have row:∀ (j:Nat) (s:List Holding),j<d.rights.length→s=(List.range j).flatMap (gu d (fZ d l hour known))→jZ d l hour known j s∧kR d l hour known j s=.inr ((List.range (j+1)).flatMap (gu d (fZ d l hour known))):=fun j s hj hs=>by
    rw[List.range_succ,List.flatMap_append,List.flatMap_cons,List.flatMap_nil,List.append_nil,←hs];have hslen:s.length≤j*600:=by
     rw[hs];have:=qC (gu d (fZ d l hour known)) 600 (List.range j) fun r _=>Nat.le_trans (List.length_filterMap_le _ _) (by rw[List.length_range];exact hfl)
     rwa[List.length_range]at this
    unfold jZ kR;by_cases hk:(d.rights.getD j default).kind=1
    ·have b:((d.rights.getD j default).kind !=1)=false:=by rw[hk];rfl
     rw[b];simp only[cond_false];obtain⟨p1,q,p2,p3⟩:=WL hE hD.right hlf hlen hj hk;have hin:∀ (i:Nat) (t:List Holding),i<d.farms.length→t=s++(List.range i).filterMap (rL d (fZ d l hour known) j)→jY d l hour known j i t∧kQ d l hour known j i t=.inr (s++(List.range (i+1)).filterMap (rL d (fZ d l hour known) j)):=fun i t hi ht=>by
      unfold jY kQ;rw[c2,p2];have hq:q.getD i 0=fZ d l hour known j i:=p3.2 i hi;simp only[hq];have htl:t.length≤s.length+i:=by rw[ht,List.length_append];have:=List.length_filterMap_le (rL d (fZ d l hour known) j) (List.range i);rw[List.length_range]at this;omega
      refine⟨fun _ _=>by rw[IH];unfold d5;omega,?_⟩;rw[List.range_succ,List.filterMap_append,←List.append_assoc,←ht];by_cases h0:0<fZ d l hour known j i
      ·rw[decide_eq_true (show fZ d l hour known j i > 0 from h0)];have e:rL d (fZ d l hour known) j i=some { right:=(j:Int),farm:=(i:Int),litres:=fZ d l hour known j i,rank:=(d.rights.getD j default).rank}:=by unfold rL;rw[if_pos h0]
       rw[List.filterMap_cons_some e];rfl
      ·rw[decide_eq_false (show ¬fZ d l hour known j i > 0 from h0)];have e:rL d (fZ d l hour known) j i=none:=by unfold rL;rw[if_neg h0]
       rw[List.filterMap_cons_none e];simp
     have hql:((cy d (bB l hour known) (j:Int)).1).length=d.farms.length:=by rw[c2,p2];exact p3.1
     obtain⟨t,u1,u2⟩:=iJ (step:=kQ d l hour known j) (fun i t=>t=s++(List.range i).filterMap (rL d (fZ d l hour known) j)) d.farms.length 0 s (by simp) (fun i t _ hi ht=>⟨_,(hin i t (by omega) ht).2,rfl⟩);rw[hql,u1];refine⟨fun _ _=>⟨by rw[c2];exact p1,lh (fun i t=>t=s++(List.range i).filterMap (rL d (fZ d l hour known) j)) _ _ _ (by simp) fun i t _ hi ht=>⟨(hin i t (by omega) ht).1,fun t' h=>?_⟩⟩,?_⟩
     ·rw[(hin i t (by omega) ht).2]at h;cases h;rfl
     ·simp only[u2,Nat.zero_add];rfl
    ·have b:((d.rights.getD j default).kind !=1)=true:=by simpa using hk
     rw[b];have e0:fZ d l hour known j=fun _=>0:=hH.other j fun hr=>hk (by rw[Int.toNat_natCast]at hr;exact hr.2.2);rw[Bl e0,List.append_nil];exact⟨(fun _ h=>by cases h),rfl⟩
   obtain⟨s,v1,v2⟩:=iJ (step:=kR d l hour known) (fun j s=>s=(List.range j).flatMap (gu d (fZ d l hour known))) d.rights.length 0 [] (by simp) (fun j s _ hj hs=>⟨_,(row j s (by omega) hs).2,rfl⟩);refine⟨⟨tA d l,fun _ _=>⟨c1,lh (fun j s=>s=(List.range j).flatMap (gu d (fZ d l hour known))) _ _ _ (by simp) fun j s _ hj hs=>⟨(row j s (by omega) hs).1,fun s' h=>?_⟩⟩⟩,?_⟩
   ·rw[(row j s (by omega) hs).2]at h;cases h;rfl
   ·rw[v1,v2,Nat.zero_add];rfl
  ·have e:((((decide (hour<0)) ||(decide (hour≥d.hours))) ||(decide (known<0))) ||(decide (known > 1048576)))=true:=by
    simp only[Bool.or_eq_true,decide_eq_true_eq];omega
   rw[e,if_neg hg];exact⟨⟨tA d l,(fun _ h=>by cases h)⟩,rfl⟩
def FI (x:Right)(h:Int):Bool:=decide (x.since≤h)&&decide (h≤x.to)&&decide (Int.tmod (h - x.since) x.every<x.length)
def opn (d:District)(h:Int)(x:Holding):Option Claim:=if FI (d.rights.getD (Int.toNat x.right) (default:Right)) h=true then some { right:=x.right,farm:=x.farm,hour:=h,litres:=x.litres,rank:=x.rank}else none
def jn (d:District)(l:List Deed)(h k:Int):List Claim:=(ah d l h k).1.filterMap (opn d h)
structure TakeR (d:District)(x:Right):Prop where
 since0:0≤x.since
 every:1≤x.every
 rank0:0≤x.rank
 farm0:0≤x.farm
theorem Hq {d:District}(h:ay d=0){k:Nat}(hk:k<d.rights.length)(ht:(d.rights.getD k default).kind=1):TakeR d (d.rights.getD k default):=by
 have:=((sK d).1 h).2.2.2.2.2.2.2.1 k hk;unfold cT at this;rw[fB]at this;have h2:ew d (d.rights.getD k default)=true:=by
  cases h3:ew d (d.rights.getD k default)with
  |true=>rfl
  |false=>rw[h3]at this;cases this
 unfold ew at h2;cases h4:((!(bA (d.rights.getD k default).farm (d.farms.length:Int))) ||(!(bA (d.rights.getD k default).reach (d.reaches.length:Int)))) ||(!(ar ([0,(d.rights.getD k default).since,(d.rights.getD k default).to,(i64.wrap (d.hours - 1))])))with
 |true=>rw[h4]at h2;cases h2
 |false=>
  rw[h4,show((d.rights.getD k default).kind==1)=true by rw[ht];rfl]at h2;simp only[cond_true,cond_false,Bool.and_eq_true]at h2;simp only[Bool.or_eq_false_iff,Bool.not_eq_false']at h4;have h5:=h4.1.1;unfold bA at h5;simp only[Bool.and_eq_true,decide_eq_true_eq]at h5;have h6:=wa h2.1.1.2;have h7:=wb h2.2;have h8:=wb h4.2;exact⟨by omega,by omega,by omega,by omega⟩
theorem MC {d:District}{l:List Deed}{h k:Int}{x:Holding}(hx:x∈(ah d l h k).1):ay d=0∧(0≤h∧h<d.hours)∧0≤x.right∧x.right< (d.rights.length:Int)∧0≤x.farm∧x.farm< (d.farms.length:Int)∧0<x.litres∧x.litres≤1073741824∧x.rank=(d.rights.getD x.right.toNat default).rank∧(d.rights.getD x.right.toNat default).kind=1:=by
 rw[(Ck d l h k).2]at hx;by_cases hc:aC d l=0
 ·rw[if_neg (by simp[hc])]at hx;by_cases hg:0≤h∧h<d.hours∧0≤k∧k≤1048576
  ·rw[if_pos hg]at hx;have he:=((tx d l).1 hc).1;obtain⟨a,b,c,e,f,g,i⟩:=tB.1 hx;have hH:=FF he (wq (nz hc) h k);refine⟨he,⟨hg.1,hg.2.1⟩,a,b,c,e,f,?_,i,?_⟩
   ·rw[g];exact hH.le he _ _
   ·rcases Classical.em ((d.rights.getD x.right.toNat default).kind=1)with hk|hk
    ·exact hk
    ·have:=hH.other x.right (fun hh=>hk hh.2.2);rw[g]at f;unfold fZ at f;rw[this]at f;exact absurd f (by simp)
  ·rw[if_neg hg]at hx;cases hx
 ·rw[if_pos hc]at hx;cases hx
theorem MD {d:District}{l:List Deed}{h k:Int}:(ah d l h k).1.length≤600*d.rights.length∧(ah d l h k).1.length≤153600:=by
 rw[(Ck d l h k).2];by_cases hc:aC d l=0
 ·rw[if_neg (by simp[hc])];by_cases hg:0≤h∧h<d.hours∧0≤k∧k≤1048576
  ·rw[if_pos hg];have hR:=(nz hc).right;refine⟨?_,xk hR _⟩;have:=qC (gu d (fZ d l h k)) 600 (List.range d.rights.length) fun r _=>by
    unfold gu;refine Nat.le_trans (List.length_filterMap_le _ _) ?_;rw[List.length_range];exact hR.farms
   rw[List.length_range]at this;unfold nA;rw[Nat.mul_comm];exact this
  ·rw[if_neg hg];simp
 ·rw[if_pos hc];simp
theorem J3 (d:District)(l:List Deed)(h k:Int):(ah d l h k).1.Pairwise hlt:=by
 rw[(Ck d l h k).2];split
 ·exact List.Pairwise.nil
 ·split
  ·exact rl _ _
  ·exact List.Pairwise.nil
theorem Cm (d:District)(l:List Deed)(h k:Int):(jn d l h k).length≤600*d.rights.length∧(jn d l h k).length≤153600:=by
 have:= @MD d l h k;have h2:=List.length_filterMap_le (opn d h) (ah d l h k).1;unfold jn;omega
theorem AK {d:District}{h:Int}{x:Holding}{c:Claim}(e:opn d h x=some c):FI (d.rights.getD (Int.toNat x.right) (default:Right)) h=true∧c= { right:=x.right,farm:=x.farm,hour:=h,litres:=x.litres,rank:=x.rank}:=by
 unfold opn at e;split at e
 ·rename_i h0;exact⟨h0,(Option.some.inj e).symm⟩
 ·cases e
structure ClaimOk (d:District)(h:Int)(c:Claim):Prop where
 exp:ay d=0
 hour:c.hour=h
 h0:0≤h
 h1:h<d.hours
 r0:0≤c.right
 r1:c.right< (d.rights.length:Int)
 f0:0≤c.farm
 f1:c.farm< (d.farms.length:Int)
 l0:0<c.litres
 l1:c.litres≤1073741824
 rank:c.rank=(d.rights.getD c.right.toNat default).rank
 kind:(d.rights.getD c.right.toNat default).kind=1
theorem AL {d:District}{l:List Deed}{h k:Int}{c:Claim}(hc:c∈jn d l h k):ClaimOk d h c:=by
 unfold jn at hc;rw[List.mem_filterMap]at hc;obtain⟨x,hx,e⟩:=hc;obtain⟨_,rfl⟩:=AK e;obtain⟨a0,⟨a,b⟩,c,e,f,g,i,j,m,n⟩:=MC hx;exact⟨a0,rfl,a,b,c,e,f,g,i,j,m,n⟩
theorem xY (d:District)(l:List Deed)(h k:Int):(jn d l h k).Pairwise fun a b=>¬ (a.right=b.right∧a.farm=b.farm):=by
 unfold jn;rw[List.pairwise_filterMap];refine(J3 d l h k).imp fun {a b} hab x hx y hy=>?_;obtain⟨_,rfl⟩:=AK hx;obtain⟨_,rfl⟩:=AK hy;simp only[hlt,nP,and_false,or_false]at hab ⊢;omega
theorem ME {a b:Claim}(h:¬ (a.right=b.right∧a.farm=b.farm)):oj a b∨oj b a:=by
 simp only[oj,nP,and_false,or_false];omega
theorem AM {a b c:Claim}(h1:oj a b)(h2:oj b c):oj a c:=by simp only[oj,nP,and_false,or_false]at *;omega
def pK (l:List Claim)(x:Claim):List Claim:=l.takeWhile (fun y=>decide (cm y x<0))++x::l.dropWhile (fun y=>decide (cm y x<0))
def iL (d:District)(l:List Deed)(h k:Int):List Claim:=(jn d l h k).foldl pK []
theorem Cn (l:List Claim)(x:Claim):(pK l x).Perm (x::l):=by
 unfold pK;refine List.perm_middle.trans ?_;rw[List.takeWhile_append_dropWhile]
theorem J4 {l:List Claim}{x:Claim}(hs:l.Pairwise oj):∀ y∈l.dropWhile (fun y=>decide (cm y x<0)),¬oj y x:=by
 induction l with
 |nil=>intro y hy;cases hy
 |cons z l ih=>
  rw[List.pairwise_cons]at hs;intro y hy;rw[List.dropWhile_cons]at hy;split at hy
  ·exact ih hs.2 y hy
  ·rename_i hz;have hz:¬oj z x:=fun h=>hz (decide_eq_true ((we z x).2 h));rcases List.mem_cons.1 hy with rfl|hy
   ·exact hz
   ·exact fun h=>hz (AM (hs.1 y hy) h)
theorem MF {l:List Claim}{x:Claim}:∀ y∈l.takeWhile (fun y=>decide (cm y x<0)),oj y x:=by
 induction l with
 |nil=>intro y hy;cases hy
 |cons z l ih=>
  intro y hy;rw[List.takeWhile_cons]at hy;split at hy
  ·rename_i hz;rcases List.mem_cons.1 hy with rfl|hy
   ·exact(we y x).1 (of_decide_eq_true hz)
   ·exact ih y hy
  ·cases hy
theorem FJ {l:List Claim}{x:Claim}(hs:l.Pairwise oj)(hx:∀ y∈l,¬ (x.right=y.right∧x.farm=y.farm)):(pK l x).Pairwise oj:=by
 have hl:=List.takeWhile_append_dropWhile (p:=fun y=>decide (cm y x<0)) (l:=l);unfold pK;have h1:=MF (l:=l) (x:=x);have h2:=J4 (x:=x) hs;have hm:∀ y∈l.dropWhile (fun y=>decide (cm y x<0)),y∈l:=fun y hy=>(List.dropWhile_sublist _).subset hy;have h3:∀ y∈l.dropWhile (fun y=>decide (cm y x<0)),oj x y:=fun y hy=>by
  rcases ME (hx y (hm y hy))with h|h
  ·exact h
  ·exact absurd h (h2 y hy)
 rw[←hl,List.pairwise_append]at hs;rw[List.pairwise_append,List.pairwise_cons];refine⟨hs.1,⟨h3,hs.2.1⟩,fun a ha b hb=>?_⟩;rcases List.mem_cons.1 hb with rfl|hb
 ·exact h1 a ha
 ·exact AM (h1 a ha) (h3 b hb)
theorem AN:∀ (r s:List Claim),s.Pairwise oj→(r.Pairwise fun a b=>¬ (a.right=b.right∧a.farm=b.farm))→(∀ a∈s,∀ b∈r,¬ (a.right=b.right∧a.farm=b.farm))→(r.foldl pK s).Perm (s++r)∧(r.foldl pK s).Pairwise oj
 | [],s,hs,_,_=>⟨by simp,hs⟩
 |x::r,s,hs,hr,hsr=>by
  rw[List.pairwise_cons]at hr;have hp:=Cn s x;obtain⟨h1,h2⟩:=AN r (pK s x) (FJ hs fun y hy h=>hsr y hy x (by simp) ⟨h.1.symm,h.2.symm⟩) hr.2 fun a ha b hb=>by
   rcases List.mem_cons.1 (hp.subset ha)with rfl|ha
   ·exact hr.1 b hb
   ·exact hsr a ha b (by simp[hb])
  exact⟨(h1.trans (hp.append_right r)).trans List.perm_middle.symm,h2⟩
theorem u0 (d:District)(l:List Deed)(h k:Int):(iL d l h k).Perm (jn d l h k):=by
 have:=(AN (jn d l h k) [] List.Pairwise.nil (xY d l h k) (fun a ha=>by cases ha)).1;rw[List.nil_append]at this;exact this
theorem DJ (d:District)(l:List Deed)(h k:Int):(iL d l h k).Pairwise oj:=(AN (jn d l h k) [] List.Pairwise.nil (xY d l h k) (fun a ha=>by cases ha)).2
theorem qD {d:District}{l:List Deed}{h k:Int}{c:Claim}(hc:c∈iL d l h k):ClaimOk d h c:=AL ((u0 d l h k).subset hc)
theorem sY {ρ α β:Type}{step:Nat→List β→ρ⊕List β}(l:List α)(d:α)(f:α→Option β)(s0:List β)(h:∀ k s,k<l.length→step k s=.inr (s++(f (l.getD k d)).toList)):am step l.length 0 s0=.inr (s0++l.filterMap f):=by
 obtain⟨r,h1,h2⟩:=iJ (step:=step) (fun k s=>s=s0++(l.take k).filterMap f) l.length 0 s0 (by simp) (fun j s _ hj hs=>by
  rw[Nat.zero_add]at hj;refine⟨_,h j s hj,?_⟩;rw[bo l d hj,List.filterMap_append,hs,List.append_assoc];cases hc:f (l.getD j d)with
  |none=>rw[List.filterMap_cons_none hc];rfl
  |some c=>rw[List.filterMap_cons_some hc];rfl)
 rw[h1,h2,Nat.zero_add,List.take_length]
theorem wr {ρ α β:Type}{step:Nat→List β→ρ⊕List β}{p:Nat→List β→Prop}(l:List α)(d:α)(f:α→Option β)(s0:List β)(h:∀ k s,k<l.length→step k s=.inr (s++(f (l.getD k d)).toList))(hp:∀ k,k<l.length→p k (s0++(l.take k).filterMap f)):okI step p l.length 0 s0:=by
 refine lh (fun k s=>s=s0++(l.take k).filterMap f) _ _ _ (by simp) fun j s _ hj hs=>⟨by rw[hs];exact hp j (by omega),fun s' e=>?_⟩;rw[h j s (by omega)]at e;cases e;rw[bo l d (by omega),List.filterMap_append,hs,List.append_assoc];cases hc:f (l.getD j d)with
 |none=>rw[List.filterMap_cons_none hc];rfl
 |some c=>rw[List.filterMap_cons_some hc];rfl
theorem uA {α β:Type}(l:List α)(f:α→Option β)(k:Nat):((l.take k).filterMap f).length≤(l.filterMap f).length:=by
 have:=congrArg List.length (congrArg (List.filterMap f) (List.take_append_drop k l));rw[List.filterMap_append,List.length_append]at this;omega
theorem Pp {α β:Type}(l:List α)(d:α)(f:α→Option β){k:Nat}(hk:k<l.length){c:β}(hc:f (l.getD k d)=some c):(l.filterMap f)[((l.take k).filterMap f).length]? =some c:=by
 have e:l=l.take k++l.getD k d::l.drop (k+1):=by
  rw[dX l d hk,←List.drop_eq_getElem_cons hk,List.take_append_drop]
 conv=>lhs;arg 1;rw[e]
 rw[List.filterMap_append,List.filterMap_cons_some hc];simp
theorem DK {β:Type}{step:Nat→List β×Int→List β⊕(List β×Int)}{p:Nat→List β×Int→Prop}(fr to:Int)(G:Int→List β)(h0:0≤fr)(h1:to<4096)(hft:fr≤to+1)
  (hs:∀ k s h,fr≤h→h≤to→step k (s,h)=.inr (s++G h,i64.wrap (h+1))) (he:∀ k s h,to<h→step k (s,h)=.inl s)
  (hp:∀ k h,fr≤h→h≤to+1→p k ((hrs fr (h - 1)).flatMap G,h)):okI step p 4098 0 ([],fr)∧am step 4098 0 ([],fr)=.inl ((hrs fr to).flatMap G):=by
 obtain⟨a,r,b,c⟩:=wi (step:=step) (p:=p) (fun s=>(to+1 - s.2).toNat) (fun s=>(fr≤s.2∧s.2≤to+1)∧s.1=(hrs fr (s.2 - 1)).flatMap G) (fun r=>r=(hrs fr to).flatMap G) (fun k s hJ=>by
  obtain⟨s,h⟩:=s;obtain⟨⟨j1,j2⟩,j3⟩:=hJ;simp only at j1 j2 j3;subst j3;refine⟨hp k h j1 j2,?_⟩;by_cases hh:h≤to
  ·refine .inr ⟨_,hs k _ h j1 hh,?_⟩;simp only;rw[aP (by omega) (by omega)];refine⟨by omega,⟨by omega,by omega⟩,?_⟩;rw[show h+1 - 1=(h - 1)+1 by omega,Fj (by omega),List.flatMap_append,show h - 1+1=h by omega];simp
  ·refine .inl ⟨_,he k _ h (by omega),?_⟩;rw[show h - 1=to by omega]) 4098 0 ([],fr) ⟨⟨Int.le_refl _,hft⟩,by rw[O8 (by simp only;omega)];rfl⟩ (by simp only;omega)
 exact⟨a,by rw[b,c]⟩
theorem xl {d:District}{x:Right}{h:Int}(ht:TakeR d x)(h0:0≤h)(h1:h<4096):(((decide (h<x.since)) ||(decide (h > x.to))) ||(decide ((Int.tmod (i64.wrap (h - x.since)) x.every)≥x.length)))= !FI x h:=by
 have:=ht.since0;unfold FI;by_cases hs:x.since≤h
 ·rw[aP (by omega) (by omega),decide_eq_true hs,decide_eq_false (show ¬h<x.since by omega)];by_cases ht:h≤x.to
  ·rw[decide_eq_true ht,decide_eq_false (show ¬h > x.to by omega)];simp only[Bool.false_or,Bool.true_and];rw[←decide_not];exact decide_eq_decide.2 (by omega)
  ·rw[decide_eq_false ht,decide_eq_true (show h > x.to by omega)];rfl
 ·rw[decide_eq_false hs,decide_eq_true (show h<x.since by omega)];rfl
theorem sZ {α:Type}(l:List α)(d:α){k:Nat}(hk:k<l.length):l.getD k d∈l:=by rw[dX l d hk];exact List.getElem_mem hk
theorem yD {d:District}{l:List Deed}{h k:Int}{j:Nat}(hj:j< (ah d l h k).1.length):((0≤((ah d l h k).1.getD j default).right∧((ah d l h k).1.getD j default).right< (d.rights.length:Int))∧(0≤h∧h<4096))∧TakeR d (d.rights.getD (Int.toNat ((ah d l h k).1.getD j default).right) default)∧(d.rights.getD (Int.toNat ((ah d l h k).1.getD j default).right) default).kind=1:=by
 obtain⟨a,⟨b1,b2⟩,c,e,f,g,i,m,n,o⟩:=MC (sZ _ default hj);have:=(kT (by rw[a];rfl)).hours;exact⟨⟨⟨c,e⟩,b1,by omega⟩,Hq a (by omega) o,o⟩
theorem DL (d:District)(l:List Deed)(h k:Int):dT d l h k=jn d l h k∧ik d l h k ((dT d l h k).map xf):=by
 have hstep:∀ j s,j< (ah d l h k).1.length→eQ d l h k j s=.inr (s++(opn d h ((ah d l h k).1.getD j default)).toList):=fun j s hj=>by
  obtain⟨⟨⟨a,b⟩,c,e⟩,ht,_⟩:=yD hj;unfold eQ opn;rw[xl ht c e];cases FI (d.rights.getD (Int.toNat ((ah d l h k).1.getD j default).right) default) h <;>simp
 have hv:am (eQ d l h k) ((ah d l h k).1).length 0 []=.inr (jn d l h k):=by
  rw[sY _ default (opn d h) [] hstep];rfl
 have e:dT d l h k=jn d l h k:=by unfold dT;rw[hv]
 refine⟨e,(Ck d l h k).1,fun _=>⟨wr _ default (opn d h) [] hstep fun j hj=>?_,fun s hs=>?_⟩⟩
 ·obtain⟨⟨⟨a,b⟩,c,f⟩,ht,_⟩:=yD hj;refine⟨⟨a,b⟩,fun _=>by have:=ht.every;omega,fun hc=>?_⟩;rw[xl ht c f]at hc;have hop:opn d h ((ah d l h k).1.getD j default)=some { right:=((ah d l h k).1.getD j default).right,farm:=((ah d l h k).1.getD j default).farm,hour:=h,litres:=((ah d l h k).1.getD j default).litres,rank:=((ah d l h k).1.getD j default).rank}:=by
   unfold opn;rw[if_pos (by simpa using hc)]
  rw[e,List.nil_append,List.getElem?_map];unfold jn;rw[Pp _ default (opn d h) hj hop];rfl
 ·rw[hv]at hs;cases hs;rw[e,List.length_map]
def FK (d:District)(f h r:Int):Bool:= !(mn d f r h)
def IJ (d:District)(f:Int):List Int:=(dg d (d.farms.getD (Int.toNat f) default).reach).reverse
def tN (d:District)(f h:Int):Int:=((IJ d f).find? (FK d f h)).getD (-1)
def fnd (d:District)(h:Int)(c:Claim):ClaimsFound:= { claim:=c,reach:=tN d c.farm h}
theorem Pq {α:Type}(P:α→Bool)(K:List α)(x:α)(R:List α)(h1:P x=true)(h2:∀ y∈K,P y=false):(K++x::R).find? P=some x:=by
 induction K with
 |nil=>simp[h1]
 |cons y K ih=>rw[List.cons_append,List.find?_cons,h2 y (by simp)];exact ih fun z hz=>h2 z (by simp[hz])
theorem Co {d:District}{f:Int}(he:ay d=0)(h0:0≤f)(h1:f< (d.farms.length:Int)):PathOk d (d.farms.getD (Int.toNat f) default).reach:=by
 have hR:=kT (by rw[he];rfl);have:=hR.farm f.toNat (by omega);exact⟨he,this.1,this.2⟩
theorem Hr {d:District}{h:Int}{c:Claim}(hl:d.rights.length≤256)(l:List Int):(aZ l (be d h) c<0∧l.find? (FK d c.farm h)=none)∨∃ j:Nat,j<l.length∧aZ l (be d h) c=(j:Int)∧l.find? (FK d c.farm h)=some (l.getD j 0):=by
 have:=AC (step:=d9 l (be d h) c) l 0 (FK d c.farm h) (fun k hk=>by
  unfold d9 od FK;rw[Sg d h c.farm _ hl])
 unfold aZ;rcases this with⟨e,hn⟩ | ⟨K,x,R,rfl,e,hx,hK⟩
 ·rw[e];exact .inl ⟨by decide,List.find?_eq_none.2 fun x hx=>by rw[hn x hx];simp⟩
 ·rw[e];refine .inr ⟨K.length,by simp,rfl,?_⟩;rw[Pq _ K x R hx hK,kp K x 0 R rfl]
def u3 (d:District)(l:List Deed)(k fr to:Int):List ClaimsFound:=(hrs fr to).flatMap fun h=>(jn d l h k).map (fnd d h)
def f9 (d:District)(l:List Deed)(k fr to:Int):List ClaimsFound:=(hrs fr to).flatMap fun h=>(iL d l h k).map (fnd d h)
theorem Pr {d:District}(l:List Deed)(k:Int)(s0:List ClaimsFound×Int){c:Claim}(hc:ClaimOk d s0.2 c)(s:List ClaimsFound):ei d l k s0 c s=.inr (s++[fnd d s0.2 c])∧((s.length+1)*48≤d5→fq d l k s0 c s):=by
 have hR:=kT (by rw[hc.exp];rfl);have hP:=Co hc.exp hc.f0 hc.f1;have hpath:=At hP;unfold ei fq;rw[hpath];simp only;rcases Hr (d:=d) (h:=s0.2) (c:=c) hR.rights (dg d (d.farms.getD (Int.toNat c.farm) default).reach).reverse with⟨hi,hf⟩ | ⟨j,hj,hi,hf⟩
 ·rw[decide_eq_false (show ¬_≥(0:Int) by omega)];refine⟨?_,fun hB=>⟨⟨hc.f0,hc.f1⟩,uu _ _,fun h=>by(first|done|cases h),fun _=>by rw[List.length_append];exact hB⟩⟩;simp only[cond_false,fnd,tN,IJ,hf,Option.getD_none]
 ·rw[hi,decide_eq_true (show(j:Int)≥0 by omega)];refine⟨?_,fun hB=>⟨⟨hc.f0,hc.f1⟩,uu _ _,fun _=>⟨⟨by omega,by omega⟩,by rw[List.length_append];exact hB⟩,fun h=>by(first|done|cases h)⟩⟩;simp only[cond_true,fnd,tN,IJ,hf,Option.getD_some,Int.toNat_natCast]
theorem Hs {d:District}(l:List Deed)(k:Int)(s0:List ClaimsFound×Int):∀ (L:List Claim) (s:List ClaimsFound),(∀ c∈L,ClaimOk d s0.2 c)→eu (ei d l k s0) L s=.inr (s++L.map (fnd d s0.2))∧((s.length+L.length)*48≤d5→okL (ei d l k s0) (fq d l k s0) L s)
 | [],s,_=>⟨by simp[eu],fun _=>trivial⟩
 |c::L,s,h=>by
  obtain⟨h1,h2⟩:=Pr l k s0 (h c (by simp)) s;obtain⟨h3,h4⟩:=Hs l k s0 L (s++[fnd d s0.2 c]) fun x hx=>h x (by simp[hx]);refine⟨?_,fun hB=>?_⟩
  ·rw[eu,h1];simp only;rw[h3];simp
  ·rw[List.length_cons]at hB;refine⟨h2 (by omega),fun s' e=>?_⟩;rw[h1]at e;cases e;exact h4 (by rw[List.length_append,List.length_singleton];omega)
theorem AO {d:District}{l:List Deed}{k fr to:Int}:(u3 d l k fr to).length≤(to+1 - fr).toNat*(600*d.rights.length):=by
 unfold u3;have:=qC (fun h=>(jn d l h k).map (fnd d h)) (600*d.rights.length) (hrs fr to) fun h _=>by rw[List.length_map];exact(Cm d l h k).1
 rwa[Ix]at this
theorem AP (d:District)(l:List Deed)(k fr to:Int):(u3 d l k fr to).Perm (f9 d l k fr to):=JR fun h _=>(u0 d l h k).symm.map _
theorem DM (d:District)(l:List Deed)(k fr to:Int):(f9 d l k fr to).Pairwise fun x y=>dW x y<0:=by
 unfold f9;refine O_ (Sn fr to) (fun h _=>?_) fun a _ b _ hab x hx y hy=>?_
 ·rw[List.pairwise_map];exact(DJ d l h k).imp fun {x y} hxy=>(Aw _ _).2 hxy
 ·obtain⟨x',hx',rfl⟩:=List.mem_map.1 hx;obtain⟨y',hy',rfl⟩:=List.mem_map.1 hy;have h1:=(qD hx').hour;have h2:=(qD hy').hour;refine(Aw _ _).2 ?_;simp only[fnd,oj,nP,and_false,or_false];omega
def o4 (d:District)(fr to k:Int):Prop:=(0≤fr∧fr≤to∧to<d.hours)∧0≤k∧k≤1048576
instance (d:District)(fr to k:Int):Decidable (o4 d fr to k):=by unfold o4;infer_instance
def oo (d:District)(l:List Deed)(fr to k:Int):Int:=if aC d l≠0 then aC d l else if ¬o4 d fr to k then 1 else if 4096< (to - fr+1)*(d.rights.length:Int)then 2 else 0
theorem MG (d:District)(fr to k:Int):(((((decide (fr<0)) ||(decide (fr > to))) ||(decide (to≥d.hours))) ||(decide (k<0))) ||(decide (k > 1048576)))= !decide (o4 d fr to k):=by
 rw[Bool.eq_iff_iff,Bool.not_eq_true',decide_eq_false_iff_not];simp only[Bool.or_eq_true,decide_eq_true_eq];unfold o4;omega
theorem MH {d:District}{fr to k:Int}(hR:Right1 d)(h:o4 d fr to k):i64.wrap ((i64.wrap ((i64.wrap (to - fr))+1))*(d.rights.length:Int))=(to - fr+1)*(d.rights.length:Int):=by
 obtain⟨⟨a,b,c⟩,e,f⟩:=h;have h1:=hR.hours;have h2:=hR.rights;rw[aP (n:=to - fr) (by omega) (by omega),aP (n:=to - fr+1) (by omega) (by omega)];have h3:(to - fr+1)*(d.rights.length:Int)≤4096*256:=Int.mul_le_mul (by omega) (by omega) (by omega) (by omega);have h4:0≤(to - fr+1)*(d.rights.length:Int):=Int.mul_nonneg (by omega) (by omega);exact aP (by omega) (by omega)
theorem s4 {d:District}{fr to k:Int}(h:o4 d fr to k)(h4:¬4096< (to - fr+1)*(d.rights.length:Int)){n:Nat}(hn:n≤(to+1 - fr).toNat*(600*d.rights.length)):n≤2457600:=by
 obtain⟨⟨a,b,c⟩,e,f⟩:=h;have e1:(((to+1 - fr).toNat*(600*d.rights.length):Nat):Int)=600*((to - fr+1)*(d.rights.length:Int)):=by
  push_cast
  rw[Int.toNat_of_nonneg (by omega),show to+1 - fr=to - fr+1 by omega];rw[←Int.mul_assoc,Int.mul_comm _ 600,Int.mul_assoc]
 omega
theorem MI (d:District)(l:List Deed)(fr to k:Int):jB d l fr to k∧aK d l fr to k=if oo d l fr to k=0 then(f9 d l k fr to,0)else([],oo d l fr to k):=by
 unfold jB aK oo;rw[MG];by_cases hc:aC d l=0
 ·rw[hc];simp only[bne_self_eq_false,cond_false,ne_eq,not_true,if_false];have hD:=nz hc;have hR:=hD.right;by_cases ha:o4 d fr to k
  ·rw[MH hR ha,decide_eq_true ha];simp only[Bool.not_true,cond_false,not_true,if_false];by_cases hb:4096< (to - fr+1)*(d.rights.length:Int)
   ·rw[decide_eq_true hb,if_pos hb];exact⟨⟨qz d l,fun _ _ _ h=>by cases h⟩,by rw[if_neg (not_not_intro ha)];rfl⟩
   ·rw[decide_eq_false hb,if_neg hb];simp only[cond_false,if_true];have hrun:=DK (step:=eZ d l to k) (p:=il d l to k) fr to (fun h=>(jn d l h k).map (fnd d h)) ha.1.1 (by have:=ha.1.2.2;have:=hR.hours;omega) (by have:=ha.1.2.1;omega)
     (fun j s h h1 h2=>by
      unfold eZ;simp only;rw[decide_eq_true h2,(DL d l h k).1];simp only[cond_true];rw[(Hs l k (s,h) (jn d l h k) s fun c hc=>AL hc).1])
     (fun j s h h1=>by unfold eZ;simp only;rw[decide_eq_false (by omega)];rfl)
     (fun j h h1 h2=>by
      unfold il;simp only;intro hle;have hle:h≤to:=of_decide_eq_true hle;refine⟨(DL d l h k).2,?_⟩;rw[(DL d l h k).1];refine(Hs l k (_,h) (jn d l h k) _ fun c hc=>AL hc).2 ?_;have h3:((hrs fr (h - 1)).flatMap fun h=>(jn d l h k).map (fnd d h)).length+(jn d l h k).length=(u3 d l k fr h).length:=by
       unfold u3;have:=Fj (a:=fr) (b:=h - 1) (by omega);rw[show h - 1+1=h by omega]at this;rw[this,List.flatMap_append];simp
      have h4:(u3 d l k fr h).length≤(to+1 - fr).toNat*(600*d.rights.length):=Nat.le_trans AO (Nat.mul_le_mul_right _ (by omega));have h5:=s4 ha hb h4;rw[h3];unfold d5;omega)
    obtain⟨r1,r2⟩:=hrun;have hS:=Hc B8 (AP d l k fr to) (DM d l k fr to);have r2':am (eZ d l to k) 4098 0 ([],fr)=.inl (u3 d l k fr to):=r2;rw[r2'];simp only;rw[hS.2];refine⟨⟨qz d l,fun _ _ _ _=>⟨r1,fun z hz=>by(first|done|cases hz),fun x hx=>?_⟩⟩,by rw[if_neg (not_not_intro ha)];rfl⟩;cases hx;exact hS.1
  ·rw[decide_eq_false ha,if_pos ha];simp only[Bool.not_false,cond_true];exact⟨⟨qz d l,fun _ h=>by cases h⟩,rfl⟩
 ·have hne:(aC d l !=0)=true:=by simpa using hc
  rw[hne];simp only[cond_true,ne_eq,hc,not_false_eq_true,if_true,if_false];exact⟨⟨qz d l,fun h=>by cases h⟩,trivial⟩
def ofF (x:ClaimsFound):Option Claim:=if x.reach<0 then some x.claim else none
def blF (x:ClaimsFound):Option Block:=if 0≤x.reach then some { right:=x.claim.right,farm:=x.claim.farm,hour:=x.claim.hour,reach:=x.reach}else none
def ofL (d:District)(l:List Deed)(k fr to:Int):List Claim:=(f9 d l k fr to).filterMap ofF
def blL (d:District)(l:List Deed)(k fr to:Int):List Block:=(f9 d l k fr to).filterMap blF
def lim {α:Type}(e:Int)(l:List α):List α×Int:=if e=0 then(if 4096<l.length then([],2)else(l,0))else([],e)
theorem AQ {d:District}{l:List Deed}{fr to k:Int}(h:oo d l fr to k=0):(f9 d l k fr to).length≤2457600:=by
 rw[←(AP d l k fr to).length_eq];unfold oo at h;split at h
 ·rename_i h1;exact absurd h h1
 ·split at h
  ·cases h
  ·rename_i h2;have h2:o4 d fr to k:=Classical.not_not.1 h2;split at h
   ·cases h
   ·rename_i h3;exact s4 h2 h3 AO
theorem AR (d:District)(l:List Deed)(fr to k:Int):jk d l fr to k∧eS d l fr to k=lim (oo d l fr to k) (ofL d l k fr to):=by
 obtain⟨h1,h2⟩:=MI d l fr to k;by_cases he:oo d l fr to k=0
 ·rw[if_pos he]at h2;have hlen:=AQ he;have hstep:∀ j s,j< (f9 d l k fr to).length→lK d l fr to k j s=.inr (s++(ofF ((f9 d l k fr to).getD j default)).toList):=fun j s hj=>by
   unfold lK ofF;rw[h2];simp only;by_cases hq:((f9 d l k fr to).getD j default).reach<0
   ·rw[if_pos hq,decide_eq_true hq];rfl
   ·rw[if_neg hq,decide_eq_false hq];simp
  refine⟨⟨h1,fun _ _=>?_⟩,?_⟩
  ·rw[h2];refine wr (f9 d l k fr to) default ofF [] hstep fun j hj=>?_;intro _;rw[h2];have:=uA (f9 d l k fr to) ofF j;have h3:=List.length_filterMap_le ofF (f9 d l k fr to);rw[List.length_append,List.nil_append,List.length_singleton];unfold d5;omega
  ·unfold eS lim;have hrun:=sY _ default ofF [] hstep;rw[h2];simp only[bne_self_eq_false,cond_false];rw[hrun,if_pos he,List.nil_append];show(bif decide (((ofL d l k fr to).length:Int) > 4096)then([],2)else(ofL d l k fr to,0))=_;by_cases hq:4096< (ofL d l k fr to).length
   ·rw[if_pos hq,decide_eq_true (by omega)];rfl
   ·rw[if_neg hq,decide_eq_false (by omega)];rfl
 ·rw[if_neg he]at h2;have hne:((aK d l fr to k).2 !=0)=true:=by rw[h2];simpa using he
  refine⟨⟨h1,fun h=>by rw[hne]at h;cases h⟩,?_⟩;unfold eS lim;rw[hne,h2,if_neg he];rfl
theorem FL (d:District)(l:List Deed)(fr to k:Int):fO d l fr to k∧db d l fr to k=lim (oo d l fr to k) (blL d l k fr to):=by
 obtain⟨h1,h2⟩:=MI d l fr to k;by_cases he:oo d l fr to k=0
 ·rw[if_pos he]at h2;have hlen:=AQ he;have hstep:∀ j s,j< (f9 d l k fr to).length→gq d l fr to k j s=.inr (s++(blF ((f9 d l k fr to).getD j default)).toList):=fun j s hj=>by
   unfold gq blF;rw[h2];simp only;by_cases hq:0≤((f9 d l k fr to).getD j default).reach
   ·rw[if_pos hq,decide_eq_true (show _≥(0:Int)from hq)];rfl
   ·rw[if_neg hq,decide_eq_false (show ¬_≥(0:Int)from hq)];simp
  refine⟨⟨h1,fun _ _=>?_⟩,?_⟩
  ·rw[h2];refine wr (f9 d l k fr to) default blF [] hstep fun j hj=>?_;intro _;rw[h2];have:=uA (f9 d l k fr to) blF j;have h3:=List.length_filterMap_le blF (f9 d l k fr to);rw[List.length_append,List.nil_append,List.length_singleton];unfold d5;omega
  ·unfold db lim;have hrun:=sY _ default blF [] hstep;rw[h2];simp only[bne_self_eq_false,cond_false];rw[hrun,if_pos he,List.nil_append];show(bif decide (((blL d l k fr to).length:Int) > 4096)then([],2)else(blL d l k fr to,0))=_;by_cases hq:4096< (blL d l k fr to).length
   ·rw[if_pos hq,decide_eq_true (by omega)];rfl
   ·rw[if_neg hq,decide_eq_false (by omega)];rfl
 ·rw[if_neg he]at h2;have hne:((aK d l fr to k).2 !=0)=true:=by rw[h2];simpa using he
  refine⟨⟨h1,fun h=>by rw[hne]at h;cases h⟩,?_⟩;unfold db lim;rw[hne,h2,if_neg he];rfl
theorem DN {α β γ:Type}(f:α→List β)(g:β→Option γ):∀ l:List α,(l.flatMap f).filterMap g=l.flatMap fun a=>(f a).filterMap g
 | [] =>rfl
 |a::l=>by rw[List.flatMap_cons,List.flatMap_cons,List.filterMap_append,DN f g l]
def ofH (d:District)(l:List Deed)(k h:Int):List Claim:=(iL d l h k).filterMap fun c=>if tN d c.farm h<0 then some c else none
def blH (d:District)(l:List Deed)(k h:Int):List Block:=(iL d l h k).filterMap fun c=>if 0≤tN d c.farm h then some { right:=c.right,farm:=c.farm,hour:=c.hour,reach:=tN d c.farm h}else none
theorem Sw (d:District)(l:List Deed)(k fr to:Int):ofL d l k fr to=(hrs fr to).flatMap (ofH d l k):=by
 unfold ofL f9;rw[DN];congr 1
 funext h
 rw[List.filterMap_map];rfl
theorem Sy (d:District)(l:List Deed)(k fr to:Int):blL d l k fr to=(hrs fr to).flatMap (blH d l k):=by
 unfold blL f9;rw[DN];congr 1
 funext h
 rw[List.filterMap_map];rfl
theorem Ht (a b:Claim):jx a b=decide (cm a b<0):=by
 rw[Bool.eq_iff_iff,decide_eq_true_eq,we];unfold jx;simp only[oj,nP,and_false,or_false];by_cases h1:a.hour=b.hour
 ·rw[show(a.hour !=b.hour)=false by simpa using h1,cond_false];by_cases h2:a.rank=b.rank
  ·rw[show(a.rank !=b.rank)=false by simpa using h2,cond_false];by_cases h3:a.right=b.right
   ·rw[show(a.right !=b.right)=false by simpa using h3,cond_false,decide_eq_true_eq];omega
   ·rw[show(a.right !=b.right)=true by simpa using h3,cond_true,decide_eq_true_eq];omega
  ·rw[show(a.rank !=b.rank)=true by simpa using h2,cond_true,decide_eq_true_eq];omega
 ·rw[show(a.hour !=b.hour)=true by simpa using h1,cond_true,decide_eq_true_eq];omega
theorem Ql {α:Type}(P:α→Bool)(d:α):∀ (l:List α) (n:Nat),n≤l.length→(∀ i,i<n→P (l.getD i d)=true)→(n<l.length→P (l.getD n d)=false)→l.takeWhile P=l.take n∧l.dropWhile P=l.drop n
 | [],n,h,_,_=>by simp
 |x::l,0,_,_,h2=>by
  have:=h2 (by simp);rw[List.getD_cons_zero]at this;rw[List.takeWhile_cons,List.dropWhile_cons,this];simp
 |x::l,n+1,h,h1,h2=>by
  have:=h1 0 (by omega);rw[List.getD_cons_zero]at this;rw[List.length_cons]at h h2;obtain⟨a,b⟩:=Ql P d l n (by omega) (fun i hi=>by have:=h1 (i+1) (by omega);rwa[List.getD_cons_succ]at this) (fun hn=>by have:=h2 (by omega);rwa[List.getD_cons_succ]at this);rw[List.takeWhile_cons,List.dropWhile_cons,this];simp[a,b]
theorem MJ (l:List Claim)(x:Claim)(hl:l.length≤153600):pi l x∧mo l x=pK l x:=by
 obtain⟨a,r,b,⟨c1,c2⟩,c3,c4⟩:=wi (step:=g9 l x) (p:=lC l x) (fun s=>l.length - s.toNat) (fun s=>(0≤s∧s≤(l.length:Int))∧∀ i:Nat,(i:Int) <s→decide (cm (l.getD i default) x<0)=true)
  (fun r=>(0≤r∧r≤(l.length:Int))∧(∀ i:Nat,(i:Int) <r→decide (cm (l.getD i default) x<0)=true)∧(r< (l.length:Int)→decide (cm (l.getD r.toNat default) x<0)=false)) (fun k s hJ=>by
   obtain⟨⟨h0,h1⟩,h2⟩:=hJ;refine⟨fun _ h=>⟨h0,of_decide_eq_true h⟩,?_⟩;unfold g9;rw[Ht];by_cases hs:s< (l.length:Int)
   ·rw[decide_eq_true hs,Bool.true_and];cases hq:decide (cm (l.getD s.toNat default) x<0)with
    |true=>
     refine .inr ⟨_,rfl,?_⟩;rw[aP (by omega) (by omega)];refine⟨by omega,⟨by omega,by omega⟩,fun i hi=>?_⟩;by_cases hi2:(i:Int) <s
     ·exact h2 i hi2
     ·have:i=s.toNat:=by omega
      rw[this];exact hq
    |false=>exact .inl ⟨s,rfl,⟨h0,h1⟩,h2,fun _=>hq⟩
   ·rw[decide_eq_false hs,Bool.false_and];exact .inl ⟨s,rfl,⟨h0,h1⟩,h2,fun h=>absurd h hs⟩) 200000 0 0 ⟨⟨Int.le_refl _,by omega⟩,fun i hi=>by omega⟩ (by omega)
 obtain⟨t1,t2⟩:=Ql (fun y=>decide (cm y x<0)) default l r.toNat (by omega) (fun i hi=>c3 i (by omega)) (fun hn=>c4 (by omega));have tk:l.take (Int.toNat (l.length:Int))=l:=by rw[Int.toNat_natCast,List.take_length]
 refine⟨⟨a,(fun z hz=>by rw[b]at hz;cases hz),fun y hy=>?_⟩,?_⟩
 ·rw[b]at hy;cases hy;have l1:(l.take r.toNat).length≤l.length:=by rw[List.length_take];omega
  have l2:(l.drop r.toNat).length≤l.length:=by rw[List.length_drop];omega
  rw[tk,List.drop_zero,List.nil_append];simp only[List.length_append,List.length_singleton];unfold d5 aU;refine⟨⟨by omega,c1,c2⟩,by omega,fun _=>⟨by omega,fun _=>⟨⟨c1,c2,by omega⟩,by omega⟩⟩⟩
 ·unfold mo;rw[b];simp only;rw[tk,List.drop_zero,List.nil_append];unfold pK;rw[t1,t2,List.append_assoc];rfl
theorem MK (l:List Claim)(x:Claim):(pK l x).length=l.length+1:=by rw[(Cn l x).length_eq,List.length_cons]
theorem FM:∀ (r s:List Claim),(r.foldl pK s).length=s.length+r.length
 | [],s=>by simp
 |x::r,s=>by rw[List.foldl_cons,FM r,MK,List.length_cons];omega
theorem Ps {d:District}{x:Right}{h:Int}(ht:TakeR d x)(hk:x.kind=1)(h0:0≤h)(h1:h<4096):mm x h=FI x h:=by
 have:=xl ht h0 h1;unfold mm;rw[show(x.kind !=1)=false by rw[hk];rfl,Bool.false_or];have e:FI x h= !(((decide (h<x.since)) ||(decide (h > x.to))) ||(decide ((Int.tmod (i64.wrap (h - x.since)) x.every)≥x.length))):=by rw[this,Bool.not_not]
 rw[e];cases((decide (h<x.since)) ||(decide (h > x.to)))with
 |true=>rfl
 |false=>
  simp only[cond_false,Bool.false_or];rw[←decide_not];exact decide_eq_decide.2 (by omega)
theorem pL (d:District)(l:List Deed)(h k:Int):lD d l h k∧bj d l h k=iL d l h k:=by
 have hA:=at25 d l h k;have hlen:=(@MD d l h k).2;have hstep:∀ j s,j< (ah d l h k).1.length→iu d l h k j s=(.inr (match opn d h ((ah d l h k).1.getD j default)with|some c=>mo s c|none=>s):Empty⊕List Claim):=fun j s hj=>by
  obtain⟨⟨⟨a,b⟩,c,e⟩,ht,hk⟩:=yD hj;unfold iu;rw[hA.2,Ps ht hk c e];unfold opn;cases FI (d.rights.getD (Int.toNat ((ah d l h k).1.getD j default).right) default) h <;>simp
 have hJ0:∀ j,(((ah d l h k).1.take j).filterMap (opn d h)).foldl pK []=(((ah d l h k).1.take j).filterMap (opn d h)).foldl pK []:=fun _=>rfl;have hlj:∀ j,((((ah d l h k).1.take j).filterMap (opn d h)).foldl pK []).length≤153600:=fun j=>by
  rw[FM];have:=List.length_filterMap_le (opn d h) ((ah d l h k).1.take j);have:((ah d l h k).1.take j).length≤(ah d l h k).1.length:=by rw[List.length_take];exact Nat.min_le_right _ _
  simp only[List.length_nil];omega
 have hnext:∀ j s,j< (ah d l h k).1.length→s=(((ah d l h k).1.take j).filterMap (opn d h)).foldl pK []→(match opn d h ((ah d l h k).1.getD j default)with|some c=>mo s c|none=>s)=(((ah d l h k).1.take (j+1)).filterMap (opn d h)).foldl pK []:=fun j s hj hs=>by
  rw[bo _ default hj,List.filterMap_append,List.foldl_append,←hs];cases hc:opn d h ((ah d l h k).1.getD j default)with
  |none=>rw[List.filterMap_cons_none hc];rfl
  |some c=>
   rw[List.filterMap_cons_some hc];simp only;rw[(MJ s c (by rw[hs];exact hlj j)).2];rfl
 refine⟨⟨hA.1,?_⟩,?_⟩
 ·rw[hA.2];refine lh (fun j s=>s=(((ah d l h k).1.take j).filterMap (opn d h)).foldl pK []) _ _ _ rfl fun j s _ hj hs=>?_;have hj:j< (ah d l h k).1.length:=by omega
  obtain⟨⟨⟨a,b⟩,c,e⟩,ht,hk⟩:=yD hj;refine⟨?_,fun s' e=>?_⟩
  ·intro _;rw[hA.2];exact⟨⟨a,b⟩,fun _=>by have:=ht.every;omega,fun _=>(MJ s _ (by rw[hs];exact hlj j)).1⟩
  ·rw[hstep j s hj]at e;cases e;exact hnext j s hj hs
 ·obtain⟨r,h1,h2⟩:=iJ (step:=iu d l h k) (fun j s=>s=(((ah d l h k).1.take j).filterMap (opn d h)).foldl pK []) (ah d l h k).1.length 0 [] rfl (fun j s _ hj hs=>⟨_,hstep j s (by omega),hnext j s (by omega) hs⟩);unfold bj;rw[hA.2,h1];simp only;rw[h2,Nat.zero_add,List.take_length];rfl
theorem DO {d:District}{f h:Int}(he:ay d=0)(h0:0≤f)(h1:f< (d.farms.length:Int)):gm d f h∧dF d f h=tN d f h:=by
 obtain⟨p1,p2⟩:=Sj (Co he h0 h1);refine⟨⟨⟨h0,h1⟩,p1⟩,?_⟩;have key:∀ (L:List Int) (i:Nat) (step:Nat→Unit→Int⊕Unit),(∀ k,k<L.length→step (i+k) ()=bif(FK d f h (L.getD k 0))then .inl (L.getD k 0)else .inr ())→(match am step L.length i ()with| .inl x=>x| .inr _=>(-1))=(L.find? (FK d f h)).getD (-1):=by
  intro L;induction L with
  |nil=>intro i step _;rfl
  |cons x L ih=>
   intro i step hs;have h0:=hs 0 (by simp);rw[List.getD_cons_zero]at h0;rw[List.length_cons,am];simp only[Nat.add_zero]at h0;rw[h0,List.find?_cons];cases FK d f h x with
   |true=>rfl
   |false=>
    simp only[cond_false];exact ih (i+1) step fun k hk=>by
     have:=hs (k+1) (by rw[List.length_cons];omega);rw[List.getD_cons_succ]at this;rw[←this];congr 1;omega
 unfold dF tN IJ;rw[p2];exact key _ 0 _ fun k hk=>by
  unfold kD;rw[p2,Nat.zero_add];rfl
theorem IK (d:District)(l:List Deed)(fr to k:Int):j6 d l fr to k∧eG d l fr to k=oo d l fr to k:=by
 refine⟨tA d l,?_⟩;unfold eG oo;rw[ID,MG];by_cases hc:aC d l=0
 ·rw[hc];simp only[bne_self_eq_false,cond_false,ne_eq,not_true,if_false];by_cases ha:o4 d fr to k
  ·rw[MH (nz hc).right ha,decide_eq_true ha,if_neg (not_not_intro ha)];by_cases hb:4096< (to - fr+1)*(d.rights.length:Int)
   ·rw[decide_eq_true hb,if_pos hb];rfl
   ·rw[decide_eq_false hb,if_neg hb];rfl
  ·rw[decide_eq_false ha,if_pos ha];rfl
 ·rw[show(aC d l !=0)=true by simpa using hc,if_pos hc];rfl
theorem tC {d:District}{l:List Deed}{fr to k:Int}(h:oo d l fr to k=0):aC d l=0∧o4 d fr to k∧¬4096< (to - fr+1)*(d.rights.length:Int):=by
 unfold oo at h;split at h
 ·rename_i h1;exact absurd h h1
 ·rename_i h1;split at h
  ·cases h
  ·rename_i h2;split at h
   ·cases h
   ·rename_i h3;exact⟨Classical.not_not.1 h1,Classical.not_not.1 h2,h3⟩
theorem Cp (d:District)(l:List Deed)(h k:Int):(iL d l h k).length≤600*d.rights.length:=by rw[(u0 d l h k).length_eq];exact(Cm d l h k).1
theorem Cq {β:Type}{d:District}{l:List Deed}{fr to k:Int}{G:Int→List β}(he:oo d l fr to k=0)(hG:∀ h,(G h).length≤(iL d l h k).length){h:Int}(h1:fr≤h)(h2:h≤to):((hrs fr (h - 1)).flatMap G).length+(iL d l h k).length≤2457600:=by
 obtain⟨_,ha,hb⟩:=tC he;have h3:=qC G (600*d.rights.length) (hrs fr (h - 1)) fun a _=>Nat.le_trans (hG a) (Cp d l a k);rw[Ix]at h3;have h4:=Cp d l h k;refine s4 ha hb (Nat.le_trans (m:=(h - 1+1 - fr).toNat*(600*d.rights.length)+600*d.rights.length) (by omega) ?_);rw[←Nat.succ_mul];exact Nat.mul_le_mul_right _ (by omega)
theorem WN (d:District)(l:List Deed)(fr to k:Int):qY d l fr to k∧i_ d l fr to k=lim (oo d l fr to k) (ofL d l k fr to):=by
 obtain⟨c1,c2⟩:=IK d l fr to k;by_cases he:oo d l fr to k=0
 ·obtain⟨hc,ha,hb⟩:=tC he;have hR:=(nz hc).right;have hin:∀ (h:Int) (s0:List Claim×Int),s0.2=h→∀ j s,j< (iL d l h k).length→nq d l k s0 j s=.inr (s++((fun c:Claim=>if tN d c.farm h<0 then some c else none) ((iL d l h k).getD j default)).toList):=fun h s0 hs j s hj=>by
   have hC:=qD (sZ _ default hj);unfold nq;rw[hs,(pL d l h k).2,(DO hC.exp hC.f0 hC.f1).2];simp only;by_cases hq:tN d ((iL d l h k).getD j default).farm h<0
   ·rw[if_pos hq,decide_eq_true hq];rfl
   ·rw[if_neg hq,decide_eq_false hq];simp
  have hrun:=DK (step:=i9 d l to k) (p:=j7 d l to k) fr to (ofH d l k) ha.1.1 (by have:=ha.1.2.2;have:=hR.hours;omega) (by have:=ha.1.2.1;omega)
   (fun j s h h1 h2=>by
    unfold i9;simp only;rw[decide_eq_true h2,(pL d l h k).2];simp only[cond_true];rw[sY (iL d l h k) default (fun c:Claim=>if tN d c.farm h<0 then some c else none) s (hin h (s,h) rfl)];rfl)
   (fun j s h h1=>by unfold i9;simp only;rw[decide_eq_false (by omega)];rfl)
   (fun j h h1 h2=>by
    unfold j7;simp only;intro hle;have hle:h≤to:=of_decide_eq_true hle;rw[(pL d l h k).2];refine⟨(pL d l h k).1,?_⟩;refine wr (iL d l h k) default (fun c:Claim=>if tN d c.farm h<0 then some c else none) _ (hin h (_,h) rfl) fun i hi=>?_;intro _;simp only;rw[(pL d l h k).2];have hC:=qD (sZ _ default hi);refine⟨(DO hC.exp hC.f0 hC.f1).1,fun _=>?_⟩;have h3:=Cq (G:=ofH d l k) he (fun h=>by unfold ofH;exact List.length_filterMap_le _ _) h1 hle;have h4:=List.length_filterMap_le (fun c:Claim=>if tN d c.farm h<0 then some c else none) ((iL d l h k).take i);rw[List.length_take]at h4;rw[List.length_append,List.length_append,List.length_singleton];unfold d5;omega)
  obtain⟨r1,r2⟩:=hrun;rw[←Sw]at r2;refine⟨⟨c1,fun _=>⟨r1,fun z hz=>by rw[r2]at hz;cases hz⟩⟩,?_⟩;unfold i_ lim;rw[c2,he,r2];simp only[bne_self_eq_false,cond_false,if_true];by_cases hq:4096< (ofL d l k fr to).length
  ·rw[if_pos hq,decide_eq_true (by omega)];rfl
  ·rw[if_neg hq,decide_eq_false (by omega)];rfl
 ·have hne:(eG d l fr to k !=0)=true:=by rw[c2];simpa using he
  refine⟨⟨c1,fun h=>by rw[hne]at h;cases h⟩,?_⟩;unfold i_ lim;rw[hne,c2,if_neg he];rfl
theorem WO (d:District)(l:List Deed)(fr to k:Int):kn d l fr to k∧eX d l fr to k=lim (oo d l fr to k) (blL d l k fr to):=by
 obtain⟨c1,c2⟩:=IK d l fr to k;by_cases he:oo d l fr to k=0
 ·obtain⟨hc,ha,hb⟩:=tC he;have hR:=(nz hc).right;let F:Int→Claim→Option Block:=fun h c=>if 0≤tN d c.farm h then some { right:=c.right,farm:=c.farm,hour:=c.hour,reach:=tN d c.farm h}else none
  have hin:∀ (h:Int) (s0:List Block×Int),s0.2=h→∀ j s,j< (iL d l h k).length→gN d l k s0 j s=.inr (s++(F h ((iL d l h k).getD j default)).toList):=fun h s0 hs j s hj=>by
   have hC:=qD (sZ _ default hj);unfold gN;rw[hs,(pL d l h k).2,(DO hC.exp hC.f0 hC.f1).2];simp only[F];by_cases hq:0≤tN d ((iL d l h k).getD j default).farm h
   ·rw[if_pos hq,decide_eq_true (show _≥(0:Int)from hq),hC.hour];rfl
   ·rw[if_neg hq,decide_eq_false (show ¬_≥(0:Int)from hq)];simp
  have hrun:=DK (step:=eO d l to k) (p:=fW d l to k) fr to (blH d l k) ha.1.1 (by have:=ha.1.2.2;have:=hR.hours;omega) (by have:=ha.1.2.1;omega)
   (fun j s h h1 h2=>by
    unfold eO;simp only;rw[decide_eq_true h2,(pL d l h k).2];simp only[cond_true];rw[sY (iL d l h k) default (F h) s (hin h (s,h) rfl)];rfl)
   (fun j s h h1=>by unfold eO;simp only;rw[decide_eq_false (by omega)];rfl)
   (fun j h h1 h2=>by
    unfold fW;simp only;intro hle;have hle:h≤to:=of_decide_eq_true hle;rw[(pL d l h k).2];refine⟨(pL d l h k).1,?_⟩;refine wr (iL d l h k) default (F h) _ (hin h (_,h) rfl) fun i hi=>?_;intro _;simp only;rw[(pL d l h k).2];have hC:=qD (sZ _ default hi);refine⟨(DO hC.exp hC.f0 hC.f1).1,fun _=>?_⟩;have h3:=Cq (G:=blH d l k) he (fun h=>by unfold blH;exact List.length_filterMap_le _ _) h1 hle;have h4:=List.length_filterMap_le (F h) ((iL d l h k).take i);rw[List.length_take]at h4;rw[List.length_append,List.length_append,List.length_singleton];unfold d5;omega)
  obtain⟨r1,r2⟩:=hrun;rw[←Sy]at r2;refine⟨⟨c1,fun _=>⟨r1,fun z hz=>by rw[r2]at hz;cases hz⟩⟩,?_⟩;unfold eX lim;rw[c2,he,r2];simp only[bne_self_eq_false,cond_false,if_true];by_cases hq:4096< (blL d l k fr to).length
  ·rw[if_pos hq,decide_eq_true (by omega)];rfl
  ·rw[if_neg hq,decide_eq_false (by omega)];rfl
 ·have hne:(eG d l fr to k !=0)=true:=by rw[c2];simpa using he
  refine⟨⟨c1,fun h=>by rw[hne]at h;cases h⟩,?_⟩;unfold eX lim;rw[hne,c2,if_neg he];rfl
theorem ML (a b:List Claim):lA a b:=fun _ _ h=>iF _ _ _ fun j _ _ hj _=>by
 simp only[bne_eq_false_iff_eq]at h;omega
theorem Cr (a:List Claim):kB a a=true:=by
 unfold kB;have e:am (j5 a a) a.length 0 ()=.inr ():=dS.2 fun j _=>by
  unfold j5;simp
 rw[e];simp
theorem IL (a b:List Block):eM a b:=fun _ _ h=>iF _ _ _ fun j _ _ hj _=>by
 simp only[bne_eq_false_iff_eq]at h;omega
theorem u4 (a:List Block):eK a a=true:=by
 unfold eK;have e:am (fw a a) a.length 0 ()=.inr ():=dS.2 fun j _=>by
  unfold fw;simp
 rw[e];simp
def bp:District:=({ name:=(ByteArray.mk #[]),hours:=4,tank:=({ cap:=100,start:=50}:Tank),reaches:=(([({ name:=(ByteArray.mk #[]),up:=(-1),delay:=1,cap:=20,bank:=50,siphon:=0,evap:=({ lo:=0,hi:=0}:Range),seep:=(({ n:=0,d:=1}:Ratio),({ n:=0,d:=1}:Ratio))}:Reach),({ name:=(ByteArray.mk #[]),up:=(-1),delay:=1,cap:=20,bank:=50,siphon:=0,evap:=({ lo:=0,hi:=0}:Range),seep:=(({ n:=0,d:=1}:Ratio),({ n:=0,d:=1}:Ratio))}:Reach)]).set 1 ({ name:=(([({ name:=(ByteArray.mk #[]),up:=(-1),delay:=1,cap:=20,bank:=50,siphon:=0,evap:=({ lo:=0,hi:=0}:Range),seep:=(({ n:=0,d:=1}:Ratio),({ n:=0,d:=1}:Ratio))}:Reach),({ name:=(ByteArray.mk #[]),up:=(-1),delay:=1,cap:=20,bank:=50,siphon:=0,evap:=({ lo:=0,hi:=0}:Range),seep:=(({ n:=0,d:=1}:Ratio),({ n:=0,d:=1}:Ratio))}:Reach)]).getD 1 (default:Reach)).name,up:=0,delay:=(([({ name:=(ByteArray.mk #[]),up:=(-1),delay:=1,cap:=20,bank:=50,siphon:=0,evap:=({ lo:=0,hi:=0}:Range),seep:=(({ n:=0,d:=1}:Ratio),({ n:=0,d:=1}:Ratio))}:Reach),({ name:=(ByteArray.mk #[]),up:=(-1),delay:=1,cap:=20,bank:=50,siphon:=0,evap:=({ lo:=0,hi:=0}:Range),seep:=(({ n:=0,d:=1}:Ratio),({ n:=0,d:=1}:Ratio))}:Reach)]).getD 1 (default:Reach)).delay,cap:=(([({ name:=(ByteArray.mk #[]),up:=(-1),delay:=1,cap:=20,bank:=50,siphon:=0,evap:=({ lo:=0,hi:=0}:Range),seep:=(({ n:=0,d:=1}:Ratio),({ n:=0,d:=1}:Ratio))}:Reach),({ name:=(ByteArray.mk #[]),up:=(-1),delay:=1,cap:=20,bank:=50,siphon:=0,evap:=({ lo:=0,hi:=0}:Range),seep:=(({ n:=0,d:=1}:Ratio),({ n:=0,d:=1}:Ratio))}:Reach)]).getD 1 (default:Reach)).cap,bank:=(([({ name:=(ByteArray.mk #[]),up:=(-1),delay:=1,cap:=20,bank:=50,siphon:=0,evap:=({ lo:=0,hi:=0}:Range),seep:=(({ n:=0,d:=1}:Ratio),({ n:=0,d:=1}:Ratio))}:Reach),({ name:=(ByteArray.mk #[]),up:=(-1),delay:=1,cap:=20,bank:=50,siphon:=0,evap:=({ lo:=0,hi:=0}:Range),seep:=(({ n:=0,d:=1}:Ratio),({ n:=0,d:=1}:Ratio))}:Reach)]).getD 1 (default:Reach)).bank,siphon:=(([({ name:=(ByteArray.mk #[]),up:=(-1),delay:=1,cap:=20,bank:=50,siphon:=0,evap:=({ lo:=0,hi:=0}:Range),seep:=(({ n:=0,d:=1}:Ratio),({ n:=0,d:=1}:Ratio))}:Reach),({ name:=(ByteArray.mk #[]),up:=(-1),delay:=1,cap:=20,bank:=50,siphon:=0,evap:=({ lo:=0,hi:=0}:Range),seep:=(({ n:=0,d:=1}:Ratio),({ n:=0,d:=1}:Ratio))}:Reach)]).getD 1 (default:Reach)).siphon,evap:=(([({ name:=(ByteArray.mk #[]),up:=(-1),delay:=1,cap:=20,bank:=50,siphon:=0,evap:=({ lo:=0,hi:=0}:Range),seep:=(({ n:=0,d:=1}:Ratio),({ n:=0,d:=1}:Ratio))}:Reach),({ name:=(ByteArray.mk #[]),up:=(-1),delay:=1,cap:=20,bank:=50,siphon:=0,evap:=({ lo:=0,hi:=0}:Range),seep:=(({ n:=0,d:=1}:Ratio),({ n:=0,d:=1}:Ratio))}:Reach)]).getD 1 (default:Reach)).evap,seep:=(([({ name:=(ByteArray.mk #[]),up:=(-1),delay:=1,cap:=20,bank:=50,siphon:=0,evap:=({ lo:=0,hi:=0}:Range),seep:=(({ n:=0,d:=1}:Ratio),({ n:=0,d:=1}:Ratio))}:Reach),({ name:=(ByteArray.mk #[]),up:=(-1),delay:=1,cap:=20,bank:=50,siphon:=0,evap:=({ lo:=0,hi:=0}:Range),seep:=(({ n:=0,d:=1}:Ratio),({ n:=0,d:=1}:Ratio))}:Reach)]).getD 1 (default:Reach)).seep}:Reach)),farms:=[({ name:=(ByteArray.mk #[]),reach:=1,area:=10,crop:=0}:Farm),({ name:=(ByteArray.mk #[]),reach:=1,area:=10,crop:=0}:Farm)],crops:=[({ name:=(ByteArray.mk #[]),need:=3}:Crop)],rights:=[({ name:=(ByteArray.mk #[]),kind:=1,farm:=0,reach:=0,rank:=7,litres:=5,since:=0,to:=3,every:=2,length:=1}:Right),({ name:=(ByteArray.mk #[]),kind:=2,farm:=1,reach:=1,rank:=0,litres:=0,since:=0,to:=3,every:=0,length:=0}:Right)],duties:=[],wells:=[]}:District)
def nT:Prop:=(0≤1∧1< (([({ name:=(ByteArray.mk #[]),up:=(-1),delay:=1,cap:=20,bank:=50,siphon:=0,evap:=({ lo:=0,hi:=0}:Range),seep:=(({ n:=0,d:=1}:Ratio),({ n:=0,d:=1}:Ratio))}:Reach),({ name:=(ByteArray.mk #[]),up:=(-1),delay:=1,cap:=20,bank:=50,siphon:=0,evap:=({ lo:=0,hi:=0}:Range),seep:=(({ n:=0,d:=1}:Ratio),({ n:=0,d:=1}:Ratio))}:Reach)]).length:Int))
@[go_sem] def rM:List SV→Option Con:=(pE (.det (nT) (.agg [.v (.string ((bp).name)),.v (.int .i64 ((bp).hours)),.v (.int .i64 ((bp).tank.cap)),.v (.int .i64 ((bp).tank.start)),.nw .reach ((bp).reaches),.nw .farm ((bp).farms),.nw .crop ((bp).crops),.nw .right ((bp).rights),.v (.slice none 0 0),.v (.slice none 0 0)])))
theorem xm:FnOk Tryz.prog 27 rM:=by
 have hG:ConsOk Tryz.prog (mkG [] []):=ap cg0 cg0;refine iT [] mixed aj hG (fn:=Tryz.f27) (c:=ae Tryz.f27) kr kr kr kr (aw (fun hp=>?_));dsimp only[av]at hp;unfold nT at hp;refine⟨nbl rfl,L0,ag _,?_⟩
 ·unfold ae Tryz.f27;try unfold bp
  exact zq1
def lO:=([({ right:=0,farm:=0,hour:=2,litres:=5,rank:=7}:Claim)])
def lP:=([({ right:=0,farm:=0,hour:=0,litres:=0,rank:=7}:Claim)])
def lQ:=([({ right:=0,farm:=0,hour:=0,reach:=1}:Block),({ right:=0,farm:=0,hour:=2,reach:=1}:Block)])
def jo:=(bp.rights++([({ name:=(ByteArray.mk #[]),kind:=3,farm:=0,reach:=1,rank:=0,litres:=0,since:=2,to:=3,every:=0,length:=0}:Right)]))
def dD:=({ name:=bp.name,hours:=bp.hours,tank:=bp.tank,reaches:=bp.reaches,farms:=bp.farms,crops:=bp.crops,rights:=bp.rights,duties:=[],wells:=[]}:District)
def cK:=(eS dD ([]) 0 4 0)
def cL:=(eS dD ([]) 0 3 0)
def gQ:=(cL.1)
def cN:=(db dD ([]) 0 3 0)
def gR:=(cN.1)
def dE:=(gQ.length:Int)
def cB:=({ name:=bp.name,hours:=bp.hours,tank:=bp.tank,reaches:=bp.reaches,farms:=bp.farms,crops:=bp.crops,rights:=jo,duties:=[],wells:=[]}:District)
def eE:=(eK gR lQ)
def jp:=(eM gR lQ)
def cO:=(eS cB ([]) 0 3 0)
def dU:=(cO.1)
def dh:=(db cB ([]) 0 3 0)
def iw:=(dh.1)
def eo:=(ln cB lP)
def gB:=(kB dU lO)
def j9:=(eM iw ([({ right:=0,farm:=0,hour:=0,reach:=1}:Block)]))
def j_:=(lA dU lO)
def dH:=(ln cB dU)
def fJ:=(dU++dU)
def gC:=(ln cB fJ)
def ka:=(gJ cB fJ)
def mw:Bool:=(bif((((((((cL.2 !=0) ||(cN.2 !=0)) ||(cK.2 !=1)) ||(cO.2 !=0)) ||(dh.2 !=0)) ||(dH !=0)) ||(eo !=260)) ||(gC !=260))then false else((((dE==0)&&eE)&&gB)&&(eK iw ([({ right:=0,farm:=0,hour:=0,reach:=1}:Block)]))))
def lR:Prop:=((nT)∧((jk dD ([]) 0 3 0)∧((fO dD ([]) 0 3 0)∧((jk dD ([]) 0 4 0)∧((jo.length*88≤d5)∧(jo.length≤aU→((jk cB ([]) 0 3 0)∧((fO cB ([]) 0 3 0)∧(((((((cL.2 !=0) ||(cN.2 !=0)) ||(cK.2 !=1)) ||(cO.2 !=0)) ||(dh.2 !=0))=false→(gJ cB dU))∧((((((((cL.2 !=0) ||(cN.2 !=0)) ||(cK.2 !=1)) ||(cO.2 !=0)) ||(dh.2 !=0)) ||(dH !=0))=false→(gJ cB lP))∧(((((((((cL.2 !=0) ||(cN.2 !=0)) ||(cK.2 !=1)) ||(cO.2 !=0)) ||(dh.2 !=0)) ||(dH !=0)) ||(eo !=260))=true→(((((((((cL.2 !=0) ||(cN.2 !=0)) ||(cK.2 !=1)) ||(cO.2 !=0)) ||(dh.2 !=0)) ||(dH !=0)) ||(eo !=260))=false→ka)∧(((((((((cL.2 !=0) ||(cN.2 !=0)) ||(cK.2 !=1)) ||(cO.2 !=0)) ||(dh.2 !=0)) ||(dH !=0)) ||(eo !=260)) ||(gC !=260))=false→(gQ.length≤aU→(((dE==0)=true→jp)∧((((dE==0)&&eE)=true→j_)∧((((dE==0)&&eE)&&gB)=true→j9)))))))∧((((((((cL.2 !=0) ||(cN.2 !=0)) ||(cK.2 !=1)) ||(cO.2 !=0)) ||(dh.2 !=0)) ||(dH !=0)) ||(eo !=260))=false→((fJ.length*40≤d5)∧(fJ.length≤aU→(((((((((cL.2 !=0) ||(cN.2 !=0)) ||(cK.2 !=1)) ||(cO.2 !=0)) ||(dh.2 !=0)) ||(dH !=0)) ||(eo !=260))=false→ka)∧(((((((((cL.2 !=0) ||(cN.2 !=0)) ||(cK.2 !=1)) ||(cO.2 !=0)) ||(dh.2 !=0)) ||(dH !=0)) ||(eo !=260)) ||(gC !=260))=false→(gQ.length≤aU→(((dE==0)=true→jp)∧((((dE==0)&&eE)=true→j_)∧((((dE==0)&&eE)&&gB)=true→j9))))))))))))))))))))
@[go_sem] def wu:List SV→Option Con:=(pE (.det (lR) (.v (.bool (mw)))))
theorem Bm:FnOk Tryz.prog 10 wu:=by
 have hG:ConsOk Tryz.prog (mkG [(12,fun l=>sT (cn [.st .district,.sl .deed,.o,.o,.o] l)),(14,fun l=>mv (cn [.st .district,.sl .deed,.o,.o,.o] l)),(16,fun l=>qU (cn [.sl .claim,.sl .claim] l)),(17,fun l=>kC (cn [.sl .block,.sl .block] l)),(19,fun l=>sp (cn [.st .district,.sl .claim] l)),(27,rM)] []):=ap (cgc (wh.norm [.st .district,.sl .deed,.o,.o,.o]) (cgc (pu.norm [.st .district,.sl .deed,.o,.o,.o]) (cgc (uj.norm [.sl .claim,.sl .claim]) (cgc (nX.norm [.sl .block,.sl .block]) (cgc (yd.norm [.st .district,.sl .claim]) (cgc xm cg0)))))) cg0;refine aL [.o] mixed aj hG (fn:=Tryz.f10) (c:=ae Tryz.f10) kr kr kr kr (aw (fun hp=>?_));dsimp only[av]at hp;unfold lR at hp;try simp only[lO,lP,lQ,jo,dD,cK,cL,gQ,cN,gR,dE,cB,eE,jp,cO,dU,dh,iw,eo,gB,j9,j_,dH,fJ,gC,ka]at hp
 refine⟨nbl rfl,L0,ag _,?_⟩
 ·unfold ae Tryz.f10;try unfold mw
  simp (maxSteps:=1000000) only[go_sem,Nat.reduceBEq,Nat.reduceLeDiff,Nat.reduceLT,decide_true,Nat.reduceAdd,Nat.reduceSub,Nat.reduceMul,Int.reduceLE,Int.reduceLT,Int.reduceToNat,Int.reduceNeg,reduceCtorEq,lO,lP,lQ,jo,dD,cK,cL,gQ,cN,gR,dE,cB,eE,jp,cO,dU,dh,iw,eo,gB,j9,j_,dH,fJ,gC,ka];all_goals exact cl
structure FineC (d:District)(x:Claim):Prop where
 r0:0≤x.right
 r1:x.right< (d.rights.length:Int)
 f0:0≤x.farm
 f1:x.farm< (d.farms.length:Int)
 h0:0≤x.hour
 h1:x.hour<d.hours
 l0:1≤x.litres
 l1:x.litres≤1073741824
 kind:(d.rights.getD x.right.toNat default).kind=1
 rank:(d.rights.getD x.right.toNat default).rank=x.rank
def MM (d:District)(x:Claim):Bool:=(((((((decide (x.right≥0))&&(decide (x.right< (d.rights.length:Int))))&&(decide (x.farm≥0)))&&(decide (x.farm< (d.farms.length:Int))))&&(decide (x.hour≥0)))&&(decide (x.hour<d.hours)))&&(decide (x.litres≥1)))&&(decide (x.litres≤1073741824))
theorem J5 (d:District)(x:Claim):MM d x=true↔(0≤x.right∧x.right< (d.rights.length:Int))∧(0≤x.farm∧x.farm< (d.farms.length:Int))∧(0≤x.hour∧x.hour<d.hours)∧(1≤x.litres∧x.litres≤1073741824):=by
 unfold MM;simp only[Bool.and_eq_true,decide_eq_true_eq];omega
theorem MN (d:District)(c:List Claim):gJ d c:=fun _ _ h _=>iF _ _ _ fun j _ _ hj=>by
 have hle:c.length≤4096:=by have:=of_decide_eq_false h;omega
 have h8:=J5 d (c.getD j default);unfold MM at h8;unfold iG;refine⟨fun h=>?_,fun h=>?_,fun h h0=>?_⟩
 ·rw[Bool.not_eq_false']at h;exact(h8.1 h).1
 ·rw[Bool.or_eq_false_iff,Bool.not_eq_false']at h;exact(h8.1 h.1).1
 ·have h0:=of_decide_eq_true h0;rw[aP (by omega) (by omega)];omega
def xn (d:District)(l:List Deed)(k fr to:Int):List ClaimsFound:=(hrs fr to).flatMap fun h=>(((nA d (fZ d l h k)).filterMap (opn d h)).foldl pK []).map (fnd d h)
theorem FN {d:District}{l:List Deed}{k fr to:Int}(h:oo d l fr to k=0):f9 d l k fr to=xn d l k fr to:=by
 obtain⟨hc,⟨⟨a,b,c⟩,e,f⟩,_⟩:=tC h;unfold f9 xn;have:∀ L:List Int,(∀ x∈L,fr≤x∧x≤to)→(L.flatMap fun h=>(iL d l h k).map (fnd d h))=L.flatMap fun h=>(((nA d (fZ d l h k)).filterMap (opn d h)).foldl pK []).map (fnd d h):=fun L=>by
  induction L with
  |nil=>intro _;rfl
  |cons x L ih=>
   intro hL;have hx:=hL x (by simp);rw[List.flatMap_cons,List.flatMap_cons,ih fun y hy=>hL y (by simp[hy])];congr 2
   unfold iL jn;rw[(Ck d l x k).2,if_neg (by simp[hc]),if_pos (by omega)]
 exact this _ fun x hx=>O9.1 hx
theorem IM {d:District}{l:List Deed}{k fr to:Int}{F:List ClaimsFound}(h:oo d l fr to k=0)(hF:xn d l k fr to=F)(h1:decide (4096< (F.filterMap ofF).length)=false):eS d l fr to k=(F.filterMap ofF,0):=by
 rw[(AR d l fr to k).2];unfold lim ofL;rw[FN h,hF,if_pos h,if_neg (of_decide_eq_false h1)]
theorem IN {d:District}{l:List Deed}{k fr to:Int}{F:List ClaimsFound}(h:oo d l fr to k=0)(hF:xn d l k fr to=F)(h1:decide (4096< (F.filterMap blF).length)=false):db d l fr to k=(F.filterMap blF,0):=by
 rw[(FL d l fr to k).2];unfold lim blL;rw[FN h,hF,if_pos h,if_neg (of_decide_eq_false h1)]
abbrev FO (h:Int):Claim:= { right:=0,farm:=0,hour:=h,litres:=5,rank:=7}
theorem ex1:oo dD [] 0 3 0=0:=by kernel_rfl
theorem ex2:xn dD [] 0 0 3=[{ claim:=FO 0,reach:=1},{ claim:=FO 2,reach:=1}]:=by kernel_rfl
theorem ex3:oo cB [] 0 3 0=0:=by kernel_rfl
theorem ex4:xn cB [] 0 0 3=[{ claim:=FO 0,reach:=1},{ claim:=FO 2,reach:= -1}]:=by kernel_rfl
theorem s19:cL=([],0):=IM ex1 ex2 kr
theorem s17:cN=([{ right:=0,farm:=0,hour:=0,reach:=1},{ right:=0,farm:=0,hour:=2,reach:=1}],0):=IN ex1 ex2 kr
theorem s20:cK=([],1):=by
 have h:oo dD [] 0 4 0=1:=by kernel_rfl
 unfold cK;rw[(AR _ _ _ _ _).2];unfold lim;rw[h];rfl
theorem s11:cO=([FO 2],0):=IM ex3 ex4 kr
theorem s9:dh=([{ right:=0,farm:=0,hour:=0,reach:=1}],0):=IN ex3 ex4 kr
theorem s10:dU=[FO 2]:=by unfold dU;rw[s11]
theorem s2:fJ=[FO 2,FO 2]:=by unfold fJ;rw[s10];rfl
theorem s3:dH=0:=by unfold dH;rw[s10];kernel_rfl
theorem s7:eo=260:=by kernel_rfl
theorem s1:gC=260:=by unfold gC;rw[s2];kernel_rfl
theorem s16:gR=[{ right:=0,farm:=0,hour:=0,reach:=1},{ right:=0,farm:=0,hour:=2,reach:=1}]:=by unfold gR;rw[s17]
theorem s8:iw=[{ right:=0,farm:=0,hour:=0,reach:=1}]:=by unfold iw;rw[s9]
theorem s13:eE=true:=by unfold eE;rw[s16];exact u4 _
theorem s6:gB=true:=by unfold gB;rw[s10];exact Cr _
theorem s15:dE=0:=by unfold dE gQ;rw[s19];rfl
theorem Sz:mw=true:=by
 unfold mw;rw[s19,s17,s20,s11,s9,s3,s7,s1,s13,s6,s15,s8,u4];rfl
theorem MO:lR:=by
 unfold lR ka jp j_ j9;refine⟨⟨by omega,of_decide_eq_true kr⟩,(AR _ _ _ _ _).1,(FL _ _ _ _ _).1,(AR _ _ _ _ _).1,?_,fun _=>⟨(AR _ _ _ _ _).1,(FL _ _ _ _ _).1,?_⟩⟩
 ·exact nbl kr
 ·simp only[MN,IL,ML,true_and,and_true,implies_true,true_imp_iff];intro _;rw[s2];exact nbl kr

def fP (a0:District)(a1:List Deed)(a2:Int)(a3:Int)(a4:Int):Bool:=(bif(!mw)then false else(bif(!(tq a0 a1 a2 a3))then true else((((kB ((eS a0 a1 a2 a3 a4).1) ((i_ a0 a1 a2 a3 a4).1))&&((eS a0 a1 a2 a3 a4).2==(i_ a0 a1 a2 a3 a4).2))&&(eK ((db a0 a1 a2 a3 a4).1) ((eX a0 a1 a2 a3 a4).1)))&&((db a0 a1 a2 a3 a4).2==(eX a0 a1 a2 a3 a4).2))))
def eT (a0:District)(a1:List Deed)(a2:Int)(a3:Int)(a4:Int):Prop:=((lR)∧((!mw)=false→((!(tq a0 a1 a2 a3))=false→((jk a0 a1 a2 a3 a4)∧((qY a0 a1 a2 a3 a4)∧((fO a0 a1 a2 a3 a4)∧((kn a0 a1 a2 a3 a4)∧((lA ((eS a0 a1 a2 a3 a4).1) ((i_ a0 a1 a2 a3 a4).1))∧(((kB ((eS a0 a1 a2 a3 a4).1) ((i_ a0 a1 a2 a3 a4).1))&&((eS a0 a1 a2 a3 a4).2==(i_ a0 a1 a2 a3 a4).2))=true→(eM ((db a0 a1 a2 a3 a4).1) ((eX a0 a1 a2 a3 a4).1)))))))))))
@[go_sem] def kJ:List SV→Option Con:=(pD .district fun a0=>(pR .deed fun a1=>(pI fun a2=>(pI fun a3=>(pI fun a4=>(pE (.det (eT a0 a1 a2 a3 a4) (.v (.bool (fP a0 a1 a2 a3 a4))))))))))
theorem tO:FnOk Tryz.prog 3 kJ:=by
 have hG:ConsOk Tryz.prog (mkG [(10,wu),(11,fun l=>xJ (cn [.st .district,.sl .deed,.o,.o] l)),(12,fun l=>sT (cn [.st .district,.sl .deed,.o,.o,.o] l)),(13,fun l=>Ag (cn [.st .district,.sl .deed,.o,.o,.o] l)),(14,fun l=>mv (cn [.st .district,.sl .deed,.o,.o,.o] l)),(15,fun l=>rG (cn [.st .district,.sl .deed,.o,.o,.o] l)),(16,fun l=>qU (cn [.sl .claim,.sl .claim] l)),(17,fun l=>kC (cn [.sl .block,.sl .block] l))] []):=ap (cgc Bm (cgc (Dj.norm [.st .district,.sl .deed,.o,.o]) (cgc (wh.norm [.st .district,.sl .deed,.o,.o,.o]) (cgc (EU.norm [.st .district,.sl .deed,.o,.o,.o]) (cgc (pu.norm [.st .district,.sl .deed,.o,.o,.o]) (cgc (w6.norm [.st .district,.sl .deed,.o,.o,.o]) (cgc (uj.norm [.sl .claim,.sl .claim]) (cgc (nX.norm [.sl .block,.sl .block]) cg0)))))))) cg0;refine aL [.o] mixed aj hG (fn:=Tryz.f3) (c:=ae Tryz.f3) kr kr kr kr (aI fun a0=>(cI fun a1=>(aM fun a2=>(aM fun a3=>(aM fun a4=>(aw (fun hp=>?_)))))));dsimp only[av]at hp;unfold eT at hp;refine⟨nbl rfl,L0,ag _,?_⟩
 ·unfold ae Tryz.f3;try unfold fP
  exact zq1
theorem FP (d:District)(l:List Deed)(fr to k:Int):eT d l fr to k∧fP d l fr to k=true:=by
 unfold eT fP;rw[Sz,(WN d l fr to k).2,(AR d l fr to k).2,(WO d l fr to k).2,(FL d l fr to k).2];refine⟨⟨MO,fun _ _=>⟨(AR d l fr to k).1,(WN d l fr to k).1,(FL d l fr to k).1,(WO d l fr to k).1,ML _ _,fun _=>IL _ _⟩⟩,?_⟩;rw[Cr,u4];simp
theorem SA (d:District)(l:List Deed)(fr to k:Int)(_: -9223372036854775808≤fr∧fr≤9223372036854775807)(_: -9223372036854775808≤to∧to≤9223372036854775807)(_: -9223372036854775808≤k∧k≤9223372036854775807):eT d l fr to k:=(FP d l fr to k).1
theorem SB (d:District)(l:List Deed)(fr to k:Int)(_: -9223372036854775808≤fr∧fr≤9223372036854775807)(_: -9223372036854775808≤to∧to≤9223372036854775807)(_: -9223372036854775808≤k∧k≤9223372036854775807):fP d l fr to k=true:=(FP d l fr to k).2
end Go.Sx
end
section
namespace Go.Sx
open Go.Deep Go.RowKit
section
variable {F:Nat→Prop}{own:Own}{w:World}
def RC (F:Nat→Prop)(own:Own)(w:World)(ks:List Kd)(cs:List Value):Prop:=
 ∃ l:List SV,pN ks l=true∧l.length=cs.length∧∀ (j:Nat) (s:SV) (v:Value),l[j]? =some s→cs[j]? =some v→Rel F own w s v
theorem FQ:∀ {a b:List Kd} {l m:List SV},pN a l=true→pN b m=true→pN (a++b) (l++m)=true
 | [],b,l,m,h1,h2=>by rw[qa h1];exact h2
 |k::a,b,l,m,h1,h2=>by
  obtain⟨x,r,rfl,e1,e2⟩:=lZ h1;simp only[List.cons_append,pN,e1,FQ e2 h2,Bool.and_self]
theorem RC.nil:RC F own w [] []:=⟨[],rfl,rfl,fun j s v h=>by cases h⟩
theorem RC.app {a b:List Kd}{c d:List Value}(h1:RC F own w a c)(h2:RC F own w b d):RC F own w (a++b) (c++d):=by
 obtain⟨l,f1,n1,r1⟩:=h1;obtain⟨m,f2,n2,r2⟩:=h2;refine⟨l++m,FQ f1 f2,by simp[n1,n2],fun j s v hs hv=>?_⟩;by_cases hj:j<l.length
 ·rw[List.getElem?_append_left hj]at hs;rw[List.getElem?_append_left (by omega)]at hv;exact r1 j s v hs hv
 ·rw[List.getElem?_append_right (by omega)]at hs;rw[List.getElem?_append_right (by omega),←n1]at hv;exact r2 _ s v hs hv
theorem RC.one {k:Kd}{s:SV}{v:Value}(h1:fit k s=true)(h2:Rel F own w s v):RC F own w [k] [v]:=
 ⟨[s],by simp[pN,h1],rfl,fun j s' v' hs hv=>by
  cases j with
  |zero=>simp only[List.getElem?_cons_zero,Option.some.injEq]at hs hv;subst hs;subst hv;exact h2
  |succ j=>simp at hs⟩
end
def SC:Kd→Kd→Bool
 | .s,.s=>true
 | .b,.b=>true
 | .n a,.n b=>decide (a=b)
 | .r a,.r b=>decide (a=b)
 | .m a c,.m b d=>decide (a=b)&&decide (c=d)
 |_,_=>false
theorem Pt:∀ {a b:Kd},SC a b=true→a=b:=by
 intro a b h;cases a <;>cases b <;>simp_all [SC]
def MP:List Kd→List Kd→Bool
 | [],[] =>true
 |a::l,b::m=>SC a b&&MP l m
 |_,_=>false
theorem IP:∀ {a b:List Kd},MP a b=true→a=b
 | [],[],_=>rfl
 |a::l,b::m,h=>by
  simp only[MP,Bool.and_eq_true]at h;rw[Pt h.1,IP h.2]
def AS (P:Program)(g:TypeId→Option (List Kd)):List Field→Nat→Nat→Option (List Kd)
 | [],off,tot=>bif Nat.beq off tot then some []else none
 |f::r,off,tot=>match g f.type with
  |some a=>bif Nat.beq f.offset off&&Nat.beq a.length (P.cellsOf f.type)then(AS P g r (off+a.length) tot).map (a++ ·)else none
  |none=>none
def Hu (a:List Kd):Nat→List Kd
 |0=>[]
 |n+1=>a++Hu a n
def AT (P:Program):Nat→TypeId→Option (List Kd)
 |0,_=>none
 |n+1,t=>match P.underlying t with
  |some .bool=>some [.b]
  |some (.int k) =>some [.n k]
  |some .string=>some [.s]
  |some (.slice e) =>match DU P e,AT P n e with
   |some k,some ks=>bif MP ks (dc k)&&Nat.beq (P.cellsOf e) (aa k)&&Nat.ble 1 (aa k)then some [.r k]else none
   |_,_=>none
  |some (.struct fs) =>AS P (AT P n) fs.toList 0 (P.cellsOf t)
  |some (.array m e) =>match AT P n e with
   |some a=>bif Nat.beq a.length (P.cellsOf e)&&Nat.beq (P.cellsOf t) (m*a.length)then some (Hu a m)else none
   |none=>none
  |_=>none
section
variable {H:Type}{enc:TypeId×Value→H}{P:Program}{F:Nat→Prop}{own:Own}{w:World}{base:Nat}{spare:Nat→Bool}{held:Bool}{S:DataW H→Prop}
theorem IQ {g:TypeId→Option (List Kd)}(hg:∀ t ks,g t=some ks→∀ (fuel:Nat) (cs:List Value) (x:DataW H×List MemPlace),DataW.trod enc P w base spare held fuel t cs=some x→S x.1→RC F own w ks cs)
  (fuel:Nat) (cs:List Value):∀ (fs:List Field) (off:Nat) (ks:List Kd),AS P g fs off cs.length=some ks→(∀ f∈fs,∃ x,DataW.trod enc P w base spare held fuel f.type ((cs.drop f.offset).take (P.cellsOf f.type))=some x∧S x.1)→RC F own w ks (cs.drop off)
 | [],off,ks,h,_=>by
  unfold AS at h;cases hb:Nat.beq off cs.length with
  |false=>rw[hb]at h;cases h
  |true=>
   rw[hb]at h;have:off=cs.length:=Nat.eq_of_beq_eq_true hb;subst this;cases h;rw[List.drop_length];exact RC.nil
 |f::r,off,ks,h,hx=>by
  unfold AS at h;cases ha:g f.type with
  |none=>rw[ha]at h;cases h
  |some a=>
   rw[ha]at h;dsimp only at h;cases hb:Nat.beq f.offset off&&Nat.beq a.length (P.cellsOf f.type)with
   |false=>rw[hb]at h;cases h
   |true=>
    rw[hb]at h;simp only[cond_true,Option.map_eq_some_iff]at h;obtain⟨ks2,h2,rfl⟩:=h;rw[Bool.and_eq_true]at hb;have e1:f.offset=off:=Nat.eq_of_beq_eq_true hb.1;have e2:a.length=P.cellsOf f.type:=Nat.eq_of_beq_eq_true hb.2;obtain⟨x,hx1,hs1⟩:=hx f (by simp);have h3:=hg _ _ ha _ _ _ hx1 hs1;have h4:=IQ hg fuel cs r (off+a.length) ks2 h2 fun f hf=>hx f (by simp[hf]);have:=h3.app h4;rw[e1,←e2]at this
    rwa[←List.drop_drop,List.take_append_drop]at this
theorem IR {e:TypeId}{a:List Kd}(ha:∀ (fuel:Nat) (cs:List Value) (x:DataW H×List MemPlace),DataW.trod enc P w base spare held fuel e cs=some x→S x.1→RC F own w a cs)
  (fuel:Nat):∀ (m:Nat) (cs:List Value),cs.length=m*a.length→(∀ i,i<m→∃ x,DataW.trod enc P w base spare held fuel e ((cs.drop (i*a.length)).take a.length)=some x∧S x.1)→RC F own w (Hu a m) cs
 |0,cs,h,_=>by
  have:cs=[]:=by simpa using h
  subst this;exact RC.nil
 |m+1,cs,h,hx=>by
  obtain⟨x,hx1,hs1⟩:=hx 0 (by omega);rw[Nat.zero_mul,List.drop_zero]at hx1;have h3:=ha _ _ _ hx1 hs1;have h4:=IR ha fuel m (cs.drop a.length) (by rw[List.length_drop,h,Nat.succ_mul];omega) fun i hi=>by
   obtain⟨x,hx2,hs2⟩:=hx (i+1) (by omega);refine⟨x,?_,hs2⟩;rw[List.drop_drop]
   rwa[Nat.succ_mul,Nat.add_comm]at hx2
  have:=h3.app h4
  rwa[List.take_append_drop]at this
structure Small (S:DataW H→Prop):Prop where
 agg:∀ l,S (.agg l)→∀ d∈l,S d
 slice:∀ l m,S (.slice l m)→l.length≤aU∧∀ d∈l,S d
theorem o5 (hS:Small S)(hown:∀ b,¬bY F own b):∀ (n:Nat) (t:TypeId) (ks:List Kd),AT P n t=some ks→∀ (fuel:Nat) (cs:List Value) (x:DataW H×List MemPlace),DataW.trod enc P w base spare held fuel t cs=some x→S x.1→RC F own w ks cs
 |0,_,_,h,_,_,_,_,_=>by cases h
 |n+1,t,ks,h,fuel,cs,x,hx,hs=>by
  unfold AT at h;split at h
  ·rename_i ht;cases h;obtain⟨b,rfl,rfl⟩:=DataW.trod_bool ht hx;exact RC.one (s:=.v (.bool b)) rfl (.v _)
  ·rename_i k ht;cases h;obtain⟨m,rfl,rfl,_⟩:=DataW.trod_int ht hx;exact RC.one (s:=.v (.int k m)) (by simp[fit]) (.v _)
  ·rename_i ht;cases h;obtain⟨b,rfl,rfl,_⟩:=DataW.trod_string ht hx;exact RC.one (s:=.v (.string b)) rfl (.v _)
  ·rename_i e ht;split at h
   ·rename_i k ks2 hk hks;cases hb:MP ks2 (dc k)&&Nat.beq (P.cellsOf e) (aa k)&&Nat.ble 1 (aa k)with
    |false=>rw[hb]at h;cases h
    |true=>
     rw[hb]at h;cases h;simp only[Bool.and_eq_true]at hb;have e1:=IP hb.1.1;have e2:P.cellsOf e=aa k:=Nat.eq_of_beq_eq_true hb.1.2;have e3:1≤aa k:=nbl hb.2;subst e1;rcases open_slice ht hx with⟨rfl,rfl⟩ | ⟨a,len,cap,m,f2,D,Pl,rfl,hb1,hl,hm,hmm,rfl,hel⟩
     ·exact RC.one (s:=.rs k []) (by simp[fit]) .rs0
     ·have hlm:len≤m:=by subst hmm;split <;>omega
      obtain⟨hs1,hs2⟩:=hS.slice _ _ hs;simp only[List.length_map,List.length_range]at hs1;have helt:∀ i,i<len→∃ cs',cs'.length=aa k∧(∀ j v,cs'[j]? =some v→w.cell? ((a.add (i*aa k)).add j)=some v)∧RC F own w (dc k) cs':=fun i hi=>by
       obtain⟨cs',h1,h2⟩:=hel i (by omega);have h3:=o5 hS hown n e (dc k) hks f2 cs' _ h2 (hs2 _ (List.mem_map_of_mem (List.mem_range.2 hi)));unfold World.cells? at h1;split at h1
       ·refine⟨cs',by rw[mapM_some_length h1,List.length_range,e2],fun j v hj=>?_,h3⟩;have hlt:j<P.cellsOf e:=by
         have:=(List.getElem?_eq_some_iff.1 hj).1
         rwa[mapM_some_length h1,List.length_range]at this
        have:=mapM_some_get h1 j j (by simp[hlt]);rw[e2]at this;rw[this,hj]
       ·cases h1
      by_cases h0:len=0
      ·subst h0;exact RC.one (s:=.rs k []) (by simp[fit]) .rs0
      ·have hsp:a.spot=none:=by
        obtain⟨cs',h1,h2,_⟩:=helt 0 (by omega);have:=h2 0 (cs'[0]'(by omega)) (by rw[List.getElem?_eq_getElem]);rw[Nat.zero_mul]at this;simp only[Addr.add,if_true]at this;unfold World.cell? at this;split at this
        ·cases hsp:a.spot with
         |none=>rfl
         |some q=>rw[hsp]at this;simp at this
        ·cases this
       obtain⟨ab,ao,asp⟩:=a;dsimp only at hsp;subst hsp
       haveI:Inhabited k.T:=⟨c6 k⟩
       obtain⟨X,hX⟩:=choose_lt (p:=fun i (x:k.T) =>∀ (j:Nat) (s:SV),(cellsOf k x)[j]? =some s→∃ v,w.cell? ⟨ab,ao+i*aa k+j,none⟩=some v∧Rel F own w s v) (n:=len) fun i hi=>by
        obtain⟨cs',h1,h2,l,h3,h4,h5⟩:=helt i hi;refine⟨mkE k l,fun j s hj=>?_⟩;rw[mW (k:=k) (l:=l) (x:=mkE k l) (by unfold oA;rw[h3];rfl)]at hj;have hlt:j<cs'.length:=by
         have:=(List.getElem?_eq_some_iff.1 hj).1;omega
        refine⟨cs'[j],?_,h5 j s _ hj (List.getElem?_eq_getElem hlt)⟩;have:=h2 j cs'[j] (List.getElem?_eq_getElem hlt);have hadd:∀ p q,((⟨ab,ao,none⟩:Addr).add p).add q=⟨ab,ao+p+q,none⟩:=fun p q=>by
         unfold Addr.add;by_cases hp:p=0 <;>by_cases hq:q=0 <;>simp[hp,hq]
        rwa[hadd]at this
       have hL:((List.range len).map X).length=len:=by simp
       refine RC.one (s:=.rs k ((List.range len).map X)) (by simp[fit]) ?_;have hget:∀ (i:Nat) (x:k.T),((List.range len).map X)[i]? =some x→i<len∧x=X i:=fun i x hi=>by
        obtain⟨h1,h2⟩:=List.getElem?_eq_some_iff.1 hi;rw[hL]at h1;simp only[List.getElem_map,List.getElem_range]at h2;subst h2;exact⟨h1,rfl⟩
       have:=Rel.rs (F:=F) (own:=own) (w:=w) (k:=k) (l:=(List.range len).map X) (b:=ab) (o:=ao) (cap:=cap) (fun i j=>(w.cell? ⟨ab,ao+i*aa k+j,none⟩).getD undef) (by rw[hL];exact hl) (by rw[hL];exact hs1)
        (fun i x hi j s hj=>by
         obtain⟨h1,rfl⟩:=hget i x hi;obtain⟨v,h2,_⟩:=hX i h1 j s hj;exact⟨hown _,by rw[h2];rfl⟩)
        (fun i x hi j s hj=>by
         obtain⟨h1,rfl⟩:=hget i x hi;obtain⟨v,h2,h3⟩:=hX i h1 j s hj;rw[h2];exact h3)
       rwa[hL]at this
   ·cases h
  ·rename_i fs ht;obtain⟨xs,m,rfl,rfl,hl,hlen,hf⟩:=DataW.trod_struct ht hx;rw[←hl]at h;have:=IQ (o5 hS hown n) m cs fs.toList 0 ks h fun f hfm=>by
    obtain⟨i,hi,rfl⟩:=List.getElem_of_mem hfm;have hi':i<fs.size:=by simpa using hi
    have h1:=hf i fs[i] (by simp[hi']);rw[List.getElem?_eq_getElem (by omega)]at h1;refine⟨_,by simpa using h1,hS.agg _ hs _ (List.mem_map_of_mem (List.getElem_mem _))⟩
   simpa using this
  ·rename_i m e ht;split at h
   ·rename_i a ha;cases hb:Nat.beq a.length (P.cellsOf e)&&Nat.beq (P.cellsOf t) (m*a.length)with
    |false=>rw[hb]at h;cases h
    |true=>
     rw[hb]at h;cases h;rw[Bool.and_eq_true]at hb;have e1:a.length=P.cellsOf e:=Nat.eq_of_beq_eq_true hb.1;have e2:P.cellsOf t=m*a.length:=Nat.eq_of_beq_eq_true hb.2;obtain⟨xs,f2,rfl,rfl,hl,hlen,hf⟩:=DataW.trod_array ht hx;refine IR (o5 hS hown n e a ha) f2 m cs (by rw[hl,e2]) fun i hi=>?_;have h1:=hf i hi;rw[List.getElem?_eq_getElem (by omega),←e1]at h1;exact⟨_,h1,hS.agg _ hs _ (List.mem_map_of_mem (List.getElem_mem _))⟩
   ·cases h
  ·cases h
end
end Go.Sx
end
section
namespace Go.Sx
open Go.Proofs
section
variable {F:Nat→Prop}{own:Own}{w:World}
theorem Pu {k:Tag}{cs:Array Value}(h:RC F own w (dc k) cs.toList):∃ x:k.T,Rel F own w (.agg (cellsOf k x)) (.agg cs):=by
 obtain⟨l,h3,h4,h5⟩:=h;refine⟨mkE k l,?_⟩;rw[mW (k:=k) (l:=l) (x:=mkE k l) (by unfold oA;rw[h3];rfl)];refine .agg (by simpa using h4.symm) fun j s hj=>?_;have hlt:j<cs.size:=by
  have:=(List.getElem?_eq_some_iff.1 hj).1;simpa[h4]using this
 exact h5 j s _ hj (by simp[Array.getD,hlt])
theorem SD {k:Tag}{v:Value}(h:RC F own w [.r k] [v]):∃ l:List k.T,Rel F own w (.rs k l) v:=by
 obtain⟨l,h3,h4,h5⟩:=h;obtain⟨x,r,rfl,h6,h7⟩:=lZ h3;have h8:=h5 0 x v rfl rfl;cases x with
 |rs k' l'=>
  have:k=k':=by
   simp only[fit]at h6;exact p9 h6
  subst this;exact⟨l',h8⟩
 |_=>simp[fit]at h6
end
end Go.Sx
end
section
namespace Go.Sx
open Go.ChangeShapes Go.RowKit Go.WideShapes
section
variable {H:Type}{enc:TypeId×Value→H}{P:Program}
def Pv (P:Program):List TypeId→Bool
 | [] =>true
 |t::r=>P.readableRec t&&Nat.blt t P.types.size&&Pv P r
theorem Cs (hl:laidOutB P=true){W W':World}(hg:Below W.heap.size W W'):∀ {ts:List TypeId} {vs:List Value} {ds:List (DataW H)} {ps:List MemPlace},Pv P ts=true→
  DataW.TrodAll enc P W 0 (fun _=>true) true ts vs ds ps→(∀ x∈ps,x.block<W.heap.size)→DataW.TrodAll enc P W' 0 (fun b=>decide (b<W.heap.size)) true ts vs ds ps
 | [],vs,ds,ps,_,h,_=>by
  obtain⟨rfl,rfl,rfl⟩:=trodAll_nil h;exact trodAll_mk0
 |t::ts,vs,ds,ps,hk,h,hlt=>by
  unfold Pv at hk;rw[Bool.and_eq_true,Bool.and_eq_true]at hk;obtain⟨v,vs',d,ds',p,q,rfl,rfl,rfl,h1,h2⟩:=trodAll_cons h;refine trodAll_cons_mk (WideElems.Trod_stays hl hk.1.1 (by simpa[Nat.blt_eq]using hk.1.2) h1 (fun x hx=>hg.same (hlt x (List.mem_append_left _ hx))) (fun x hx=>by simpa using hlt x (List.mem_append_left _ hx))) ?_;exact Cs hl hg hk.2 h2 fun x hx=>hlt x (List.mem_append_right _ hx)
theorem MQ (hl:laidOutB P=true){f:Func}{s:ChangeSpec}{W W':World}{args:Array Value}{ds gs:List (DataW H)}{before:List MemPlace}{t:TypeId}
  (hk:Pv P f.params.toList=true) (hW:DataW.Whole enc P f.params.toList s.vars false W args.toList ds gs before)
  (hr:f.resultTypes= #[t]) (ht:P.underlying t=some .bool) (hv:s.vars=[]) (h1:(s.fn H (ds++gs)).results=[.lit (.bool true)]) (h2:(s.fn H (ds++gs)).args=ds) (h3:(s.fn H (ds++gs)).vars=[])
  (hg:Below W.heap.size W W'):s.post enc P f false true false false W args (.bool true) W':=by
 have hlt:=hW.lt;have hW0:=hW;obtain⟨p,q,hA,hV,rfl,_,_⟩:=hW;rw[hv]at hV;obtain⟨rfl,rfl⟩:=trodVars_none hV;refine⟨ds,[],p++[],[],p,[],hW0,?_,?_,?_,?_,fun h=>by cases h⟩
 ·rw[h1,hr];exact trodAll_cons_mk (shut_bool ht _) trodAll_mk0
 ·rw[h2];exact Cs hl hg hk hA fun x hx=>hlt x (by simpa using hx)
 ·rw[h3,hv];rfl
 ·exact World.keptBut_mono (fun x hx=>⟨hx,.inr (.inl (by simpa using hx))⟩) (hg.frame (· ∈p++[]))
end
end Go.Sx
end
section
namespace Go.Proofs.YtgdkdhdlfdcefaaGreat.bulks
theorem one_le {H:Type}(d:DataW H):1≤Rows.uptoBulk d:=by
 cases d with
 |lit l=>cases l <;>simp[Rows.uptoBulk]
 |nil=>simp[Rows.uptoBulk]
 |ptr d=>simp[Rows.uptoBulk]
 |slice nV spare=>simp[Rows.uptoBulk]
 |agg parts=>simp[Rows.uptoBulk]
 |iface t d=>simp[Rows.uptoBulk]
 |map entries=>simp[Rows.uptoBulk]
 |held h=>simp[Rows.uptoBulk]
theorem part_le {H:Type}{d:DataW H}{l:List (DataW H)}(h:d∈l):Rows.uptoBulk d≤Rows.uptoBulkAll l:=by
 induction l with
 |nil=>cases h
 |cons x r ih=>
  simp only[Rows.uptoBulkAll];cases List.mem_cons.1 h with
  |inl e=>subst e;omega
  |inr e=>have:=ih e;omega
theorem append {H:Type}(l r:List (DataW H)):Rows.uptoBulkAll (l++r)=Rows.uptoBulkAll l+Rows.uptoBulkAll r:=by
 induction l with
 |nil=>simp[Rows.uptoBulkAll]
 |cons x l ih=>simp only[List.cons_append,Rows.uptoBulkAll,ih];omega
theorem length_le {H:Type}(l:List (DataW H)):l.length≤Rows.uptoBulkAll l:=by
 induction l with
 |nil=>simp[Rows.uptoBulkAll]
 |cons x r ih=>have:=one_le x;simp only[Rows.uptoBulkAll,List.length_cons];omega
theorem slice_le {H:Type}(nV spare:List (DataW H)):nV.length+spare.length+1≤Rows.uptoBulk (.slice nV spare):=by
 have h1:=length_le nV;have h2:=length_le spare;simp only[Rows.uptoBulk];omega
theorem slice_elems {H:Type}(nV spare:List (DataW H)):Rows.uptoBulkAll nV+1≤Rows.uptoBulk (.slice nV spare):=by
 simp only[Rows.uptoBulk];omega
theorem bound {H:Type}{l:List (DataW H)}(hk:Rows.uptoSmall H l=true):Rows.uptoBulkAll l≤1048576:=by
 simpa[Rows.uptoSmall]using hk
theorem room {n b:Nat}(hn:n≤2097152)(hb:b≤4096):(n+n / 4+192)*b≤281474976710656:=by
 have h:(n+n / 4+192)*b≤2621632*4096:=Nat.mul_le_mul (by omega) hb;omega
end Go.Proofs.YtgdkdhdlfdcefaaGreat.bulks
end
section
namespace Go.Proofs.YtgdkdhdlfdcefaaGreat.claimsSpec
open Go.ChangeShapes Go.WideShapes Go.ChangeAt Go.RowKit Go.Sx
set_option linter.unusedVariables false
theorem con_eq (x0:Tag.district.T)(x1:List Tag.deed.T)(x2:Int)(x3:Int)(x4:Int):kJ [.agg (cellsOf .district x0),.rs .deed x1,.v (.int .i64 x2),.v (.int .i64 x3),.v (.int .i64 x4)]=some (.det (eT x0 x1 x2 x3 x4) (.v (.bool (fP x0 x1 x2 x3 x4)))):=by
 unfold kJ;simp only[go_sem,Nat.reduceBEq]
theorem call_true {W:World}{cs0:Array Value}(h0:RC (fun _=>False) cw W (dc .district) cs0.toList){v1:Value}(h1:RC (fun _=>False) cw W [.r .deed] [v1])(x2:Int)(h2:(-9223372036854775808)≤x2∧x2≤9223372036854775807)(x3:Int)(h3:(-9223372036854775808)≤x3∧x3≤9223372036854775807)(x4:Int)(h4:(-9223372036854775808)≤x4∧x4≤9223372036854775807):
  Calls Tryz.prog 3 #[.agg cs0,v1,.int .i64 x2,.int .i64 x3,.int .i64 x4] W (fun e W'=>e=.returned (.bool true)∧Below W.heap.size W W'):=by
 obtain⟨x0,r0⟩:=Pu h0;obtain⟨x1,r1⟩:=SD h1;refine(tO.calls _ _ (con_eq x0 x1 x2 x3 x4) (SA x0 x1 x2 x3 x4 h2 h3 h4) (fun _=>False) W _ (fun b h=>h.elim) ⟨rfl,fun j s hj=>?_⟩).mono fun e W' he=>?_
 ·match j,hj with
  |0,hj=>cases hj;exact r0
  |1,hj=>cases hj;exact r1
  |2,hj=>cases hj;exact .v _
  |3,hj=>cases hj;exact .v _
  |4,hj=>cases hj;exact .v _
 ·rcases he with⟨s,u,own',hs,rfl,hh,hb⟩ | ⟨x,hx,_⟩
  ·simp only[dm]at hs;subst hs;rw[SB x0 x1 x2 x3 x4 h2 h3 h4]at hh;have:=hh.val;simp only[sb]at this;rw[bX this];exact⟨rfl,hb⟩
  ·exact hx.elim
theorem own:ownKnob Tryz.prog.godebug=none:=by kernel_rfl
theorem small (H:Type):Small (fun d:DataW H=>Rows.uptoBulk d≤1048576) where
 agg l h d hd:=by
  have h1:=bulks.part_le hd;simp only[Rows.uptoBulk]at h;omega
 slice l m h:=by
  have h1:=bulks.slice_le l m;have h2:=bulks.slice_elems l m;refine⟨by unfold aU;omega,fun d hd=>?_⟩;have:=bulks.part_le hd;omega
theorem laid:laidOutB Tryz.prog=true:=by kernel_rfl
set_option maxRecDepth 100000 in
theorem contract (H:Type)(enc:TypeId×Value→H)(W:World)(base:Nat)(args:Array Value)(ds gs:List (DataW H))(before:List MemPlace)
  (hval:∀ (j:Nat) t v,Tryz.f3.params[j]? =some t→args[j]? =some v→Value.okWide Tryz.prog W .any base t v)
  (hW:DataW.Whole enc Tryz.prog Tryz.f3.params.toList Rows.claimsSpecSpec.vars false W args.toList ds gs before) (hk:Rows.uptoSmall H (ds++gs)=true):
  Calls Tryz.prog 3 args W fun e W'=>∃ v,e=.returned v∧Rows.claimsSpecSpec.post enc Tryz.prog Tryz.f3 false true false false W args v W':=by
 have hW':=hW;obtain⟨p,q,hA0,hV,rfl,hfz,hnd⟩:=hW;have hA:DataW.TrodAll enc Tryz.prog W 0 (fun _=>true) true Tryz.f3.params.toList args.toList ds p:=hA0;rw[Tryz.params3]at hA hval;obtain⟨v0,vs0,d0,ds0,p0,q0,hargs,rfl,rfl,h0,r0⟩:=trodAll_cons hA;obtain⟨v1,vs1,d1,ds1,p1,q1,rfl,rfl,rfl,h1,r1⟩:=trodAll_cons r0;obtain⟨v2,vs2,d2,ds2,p2,q2,rfl,rfl,rfl,h2,r2⟩:=trodAll_cons r1;obtain⟨v3,vs3,d3,ds3,p3,q3,rfl,rfl,rfl,h3,r3⟩:=trodAll_cons r2;obtain⟨v4,vs4,d4,ds4,p4,q4,rfl,rfl,rfl,h4,r4⟩:=trodAll_cons r3;obtain⟨rfl,rfl,rfl⟩:=trodAll_nil r4;obtain rfl:args= #[v0,v1,v2,v3,v4]:=by cases args;simp_all
 obtain⟨rfl,rfl⟩:=trodVars_none hV;have hb:=bulks.bound hk;simp only[Rows.uptoBulkAll,List.append_nil,List.cons_append,List.nil_append]at hb;have ho:∀ b,¬bY (fun _=>False) cw b:=fun b h=>by
  rcases h with h| ⟨_,_,h,_⟩
  ·exact h
  ·cases h
 have s0:∃ cs,v0=.agg cs:=by
  have:=hval 0 31 v0 rfl rfl;simp only[Value.okWide,Tryz.underlying31]at this;exact⟨_,this.choose_spec.1⟩
 obtain⟨cs0,rfl⟩:=s0;obtain⟨a1,l1,c1,rfl⟩:=okWide_slice Tryz.underlying32 (hval 1 32 v1 rfl rfl);obtain⟨a2,rfl,rfl,rfl,w2⟩:=open_int Tryz.underlying3 (hval 2 3 v2 rfl rfl) h2;have R2:(-9223372036854775808)≤a2∧a2≤9223372036854775807:=by simpa[Lit.wf,IntKind.min,IntKind.max,IntKind.signed,IntKind.bits]using w2
 obtain⟨a3,rfl,rfl,rfl,w3⟩:=open_int Tryz.underlying3 (hval 3 3 v3 rfl rfl) h3;have R3:(-9223372036854775808)≤a3∧a3≤9223372036854775807:=by simpa[Lit.wf,IntKind.min,IntKind.max,IntKind.signed,IntKind.bits]using w3
 obtain⟨a4,rfl,rfl,rfl,w4⟩:=open_int Tryz.underlying3 (hval 4 3 v4 rfl rfl) h4;have R4:(-9223372036854775808)≤a4∧a4≤9223372036854775807:=by simpa[Lit.wf,IntKind.min,IntKind.max,IntKind.signed,IntKind.bits]using w4
 have R0:RC (fun _=>False) cw W (dc .district) cs0.toList:=by
  obtain⟨f,hf⟩:=h0;exact o5 (n:=6) (t:=31) (small H) ho _ kr f _ _ hf (by show Rows.uptoBulk d0≤_;omega)
 have R1:RC (fun _=>False) cw W [.r .deed] [.slice a1 l1 c1]:=by
  obtain⟨f,hf⟩:=h1;exact o5 (n:=6) (t:=32) (small H) ho _ kr f _ _ hf (by show Rows.uptoBulk d1≤_;omega)
 refine(call_true R0 R1 _ R2 _ R3 _ R4).mono fun e W' ⟨he,hg⟩ =>?_;subst he;exact⟨_,rfl,MQ laid kr hW' kr Tryz.underlying4 rfl rfl rfl rfl hg⟩
def zeroV:Kd→Value
 | .n k=>.int k 0
 | .b=>.bool false
 | .s=>.string (ByteArray.mk #[])
 | .r _=>.slice none 0 0
 | .m _ _=>.map none
 | .f=>.nilFunc
def wit:Array Value:= #[.agg ((dc .district).map zeroV).toArray,.slice none 0 0,.int .i64 0,.int .i64 0,.int .i64 0]
set_option maxRecDepth 100000 in
theorem lifted (os:Os)(started:os.Started)(H:Type)(enc:TypeId×Value→H)(F:Stop.Interp):
  ReturnsInHanded {} Tryz.checked os 3 .any ((Rows.OpenSpec.upto Rows.claimsSpecSpec).pre6 enc Tryz.prog Tryz.f3 Rows.claimsSpecUptoRow.domain false) (((Rows.OpenSpec.upto Rows.claimsSpecSpec).at F).post enc Tryz.prog Tryz.f3 false true false false):=by
 refine returnsInHanded_of_cond (C:=Tryz.checked) (s:=Rows.OpenSpec.upto Rows.claimsSpecSpec) (k:=Rows.uptoSmall) rfl own started kr Tryz.func3
  (OpenSpec.witness (enc:=enc) (C:=Tryz.checked) (s:=Rows.OpenSpec.upto Rows.claimsSpecSpec) (k:=Rows.uptoSmall) rfl false ⟨#[],wit,[]⟩ 8 kr kr kr
   (x:=(DataW.whole enc Tryz.prog (World.plainHolding Tryz.prog os ⟨#[],wit,[]⟩).memory Tryz.f3.params.toList Rows.claimsSpecSpec.vars false wit.toList 8).getD ([],[],[])) kr rfl kr) ?_
 intro W base args ds gs before hval hW _ hk _;exact contract H enc W base args ds gs before hval hW hk
theorem over:Rows.claimsSpecUptoRow.holds Tryz.pinned (Rows.OpenSpec.upto Rows.claimsSpecSpec):=
 OpenClaim.holds_of_cond 3 Tryz.f3 rfl rfl rfl rfl rfl rfl rfl ⟨rfl,rfl,rfl,rfl,rfl⟩ rfl rfl rfl rfl rfl kr Tryz.func3 kr
  (of_decide_eq_true kr) (by unfold Func.isWrapper;first|(rw[if_pos (by decide+kernel)];kernel_rfl) |(rw[if_neg (by decide+kernel)];exact⟨rfl,rfl⟩))
  (fun os started H enc _ F=>lifted os started H enc F)
theorem proved:Rows.ClaimsSpecUptoSaid:=over
end Go.Proofs.YtgdkdhdlfdcefaaGreat.claimsSpec
end
