/- Part of the proof that the law TimetableServedSpec returns true and leaves its arguments as they were, for all arguments of bulk at most 1048576 (the Upto form). -/
import Derived.Test.YtagjakphhkfofaaGreatC712
import Derived.Test.YtagjakphhkfofaaGreatC711
import Derived.Test.YtagjakphhkfofaaGreatC707
import Derived.Test.YtagjakphhkfofaaGreatC710
import Derived.Test.YtagjakphhkfofaaGreatC706
import Derived.Deep.Slices
import Derived.OpenShut
import Derived.ChangeSame
import Derived.WideKeyArgs
import Derived.Below
import Derived.Test.YtagjakphhkfofaaGreatRows
import Derived.WalkKit
import Derived.ProofKit
import Derived.JoinedCond
import Derived.Carry
set_option linter.all false
set_option maxHeartbeats 4000000
section
namespace Go.Sx
open Go.Proofs Go.Shelf Go.Sort Go.Lib
set_option maxRecDepth 100000
theorem hM {α:Type}{cf:α→α→Int}(hO:SWO (ltOf cf)){l m:List α}(hp:m.Perm l)(hs:m.Pairwise fun x y=>ltOf cf x y=true):srt cf l=m:=by
 have h1:(srt cf l).Pairwise fun x y=>(!(ltOf cf y x))=true:=by
  refine List.pairwise_mergeSort (fun a b c h1 h2=>?_) (fun a b=>?_) l
  ·simp only[Bool.not_eq_true']at h1 h2 ⊢
   exact hO.ntrans _ _ _ h2 h1
  ·cases q:ltOf cf b a with
   |false=>rfl
   |true=>
    cases q2:ltOf cf a b with
    |false=>rfl
    |true=>have:=hO.trans _ _ _ q q2;rw[hO.irrefl]at this;cases this
 have h2:m.Pairwise fun x y=>(!(ltOf cf y x))=true:=hs.imp fun {x y} q=>by
  cases q2:ltOf cf y x with
  |false=>rfl
  |true=>have:=hO.trans _ _ _ q q2;rw[hO.irrefl]at this;cases this
 have hpm:(srt cf l).Perm l:=List.mergeSort_perm _ _
 refine List.Perm.eq_of_pairwise (fun a b ha hb q1 q2=>?_) h1 h2 (hpm.trans hp.symm)
 have ha:a∈m:=hp.mem_iff.2 (hpm.mem_iff.1 ha)
 obtain⟨i,hi,rfl⟩:=List.getElem_of_mem ha
 obtain⟨j,hj,rfl⟩:=List.getElem_of_mem hb
 rw[List.pairwise_iff_getElem]at hs
 rcases Nat.lt_trichotomy i j with q|q|q
 ·have:=hs i j hi hj q;rw[this]at q2;cases q2
 ·subst q;rfl
 ·have:=hs j i hj hi q;rw[this]at q1;cases q1
theorem sq {d:District}{c:List Claim}{out l:List Order}{B:List Fault}(h1:bu d c=0)(h2:decide ((IntKind.i64.wrap ((d.reaches.length:Int)*d.hours)) > 1024)=false)(h3:ar c=out)
  (h4:aJ out=false) (h5:an d out=(l,true,0)) (h6:bK l d=B):
  aw d c=match B with| [] =>(l,({ kind:=0,hour:=0,index:=0,litres:=0,limit:=0}:Fault),0) |f::_=>([],f,0):=by
 have ha:aj d c=(out,0):=by
  unfold aj
  rw[h1,h2,h3,h4];rfl
 unfold aw
 simp only[ha,h5,h6,bne_self_eq_false,cond_false,Bool.not_true]
 cases B <;>rfl
theorem GA {d:District}{c:List Claim}{out:List Order}{f:Fault}(h1:bu d c=0)(h2:decide ((IntKind.i64.wrap ((d.reaches.length:Int)*d.hours)) > 1024)=false)(h3:ar c=out)
  (h4:aJ out=false) (h5:an d out=([],false,0)) (h6:dG out d=f):
  aw d c=([],f,0):=by
 have ha:aj d c=(out,0):=by
  unfold aj
  rw[h1,h2,h3,h4];rfl
 unfold aw
 simp only[ha,h5,h6,bne_self_eq_false,cond_false,Bool.not_false,cond_true]
abbrev cK (h i n:Int)(o:Bool):Order:= { hour:=h,index:=i,litres:=n,outlet:=o}
theorem ev_a:aw aW cS=(fU,({ kind:=0,hour:=0,index:=0,litres:=0,limit:=0}:Fault),0):=by
 have e1:ar cS=srt aq [cK 4 1 10 true,cK 4 0 7 true,cK 5 0 1 true]:=by kernel_rfl
 rw[hM (m:=[cK 4 0 7 true,cK 4 1 10 true,cK 5 0 1 true]) eG (by decide) (by decide)]at e1
 have e2:an aW [cK 4 0 7 true,cK 4 1 10 true,cK 5 0 1 true]=(srt aG [cK 4 0 7 true,cK 4 1 10 true,cK 5 0 1 true,cK 2 0 20 false,cK 3 0 5 false],true,0):=by kernel_rfl
 rw[hM (m:=fU) p_ (by decide) (by decide)]at e2
 exact sq (B:=[]) (by kernel_rfl) (by kernel_rfl) e1 (by kernel_rfl) e2 (by kernel_rfl)
theorem ev_b:aw aW bB=([],({ kind:=1,hour:=2,index:=0,litres:=21,limit:=20}:Fault),0):=by
 have e1:ar bB=srt aq [cK 4 1 10 true,cK 4 0 8 true,cK 5 0 1 true]:=by kernel_rfl
 rw[hM (m:=[cK 4 0 8 true,cK 4 1 10 true,cK 5 0 1 true]) eG (by decide) (by decide)]at e1
 have e2:an aW [cK 4 0 8 true,cK 4 1 10 true,cK 5 0 1 true]=(srt aG [cK 4 0 8 true,cK 4 1 10 true,cK 5 0 1 true,cK 2 0 21 false,cK 3 0 5 false],true,0):=by kernel_rfl
 rw[hM (m:=[cK 2 0 21 false,cK 3 0 5 false,cK 4 0 8 true,cK 4 1 10 true,cK 5 0 1 true]) p_ (by decide) (by decide)]at e2
 exact sq (B:=[{ kind:=1,hour:=2,index:=0,litres:=21,limit:=20}]) (by kernel_rfl) (by kernel_rfl) e1 (by kernel_rfl) e2 (by kernel_rfl)
theorem ev_c:aw aW gf=([],({ kind:=7,hour:=1,index:=0,litres:=9,limit:=0}:Fault),0):=by
 have e1:ar gf=srt aq [cK 1 1 9 true]:=by kernel_rfl
 rw[hM (m:=[cK 1 1 9 true]) eG (by decide) (by decide)]at e1
 exact GA (by kernel_rfl) (by kernel_rfl) e1 (by kernel_rfl) (by kernel_rfl) (by kernel_rfl)
abbrev clA:Claim:= { right:=1,farm:=1,hour:=4,litres:=10,rank:=1}
abbrev clB:Claim:= { right:=0,farm:=0,hour:=4,litres:=8,rank:=2}
abbrev clC:Claim:= { right:=0,farm:=0,hour:=5,litres:=1,rank:=2}
theorem ev_d:aw aW [clA]=([cK 2 0 13 false,cK 4 1 10 true],({ kind:=0,hour:=0,index:=0,litres:=0,limit:=0}:Fault),0):=by
 have e1:ar [clA]=srt aq [cK 4 1 10 true]:=by kernel_rfl
 rw[hM (m:=[cK 4 1 10 true]) eG (by decide) (by decide)]at e1
 have e2:an aW [cK 4 1 10 true]=(srt aG [cK 4 1 10 true,cK 2 0 13 false],true,0):=by kernel_rfl
 rw[hM (m:=[cK 2 0 13 false,cK 4 1 10 true]) p_ (by decide) (by decide)]at e2
 exact sq (B:=[]) (by kernel_rfl) (by kernel_rfl) e1 (by kernel_rfl) e2 (by kernel_rfl)
theorem ev_e:aw aW [clA,clB]=([],({ kind:=1,hour:=2,index:=0,litres:=21,limit:=20}:Fault),0):=by
 have e1:ar [clA,clB]=srt aq [cK 4 1 10 true,cK 4 0 8 true]:=by kernel_rfl
 rw[hM (m:=[cK 4 0 8 true,cK 4 1 10 true]) eG (by decide) (by decide)]at e1
 have e2:an aW [cK 4 0 8 true,cK 4 1 10 true]=(srt aG [cK 4 0 8 true,cK 4 1 10 true,cK 2 0 21 false],true,0):=by kernel_rfl
 rw[hM (m:=[cK 2 0 21 false,cK 4 0 8 true,cK 4 1 10 true]) p_ (by decide) (by decide)]at e2
 exact sq (B:=[{ kind:=1,hour:=2,index:=0,litres:=21,limit:=20}]) (by kernel_rfl) (by kernel_rfl) e1 (by kernel_rfl) e2 (by kernel_rfl)
theorem ev_f:aw aW [clA,clC]=([cK 2 0 13 false,cK 3 0 5 false,cK 4 1 10 true,cK 5 0 1 true],({ kind:=0,hour:=0,index:=0,litres:=0,limit:=0}:Fault),0):=by
 have e1:ar [clA,clC]=srt aq [cK 4 1 10 true,cK 5 0 1 true]:=by kernel_rfl
 rw[hM (m:=[cK 4 1 10 true,cK 5 0 1 true]) eG (by decide) (by decide)]at e1
 have e2:an aW [cK 4 1 10 true,cK 5 0 1 true]=(srt aG [cK 4 1 10 true,cK 5 0 1 true,cK 2 0 13 false,cK 3 0 5 false],true,0):=by kernel_rfl
 rw[hM (m:=[cK 2 0 13 false,cK 3 0 5 false,cK 4 1 10 true,cK 5 0 1 true]) p_ (by decide) (by decide)]at e2
 exact sq (B:=[]) (by kernel_rfl) (by kernel_rfl) e1 (by kernel_rfl) e2 (by kernel_rfl)
theorem HL:ag bB=[clA,clB,clC]:=by
 have:ag bB=srt bJ [clA,clB,clC]:=by kernel_rfl
 rw[this]
 exact hM ub (by decide) (by decide)
theorem e_o1:aO [clA]=[clA]:=hM mv (by decide) (by decide)
theorem e_o2:aO [clA,clB]=[clA,clB]:=hM mv (by decide) (by decide)
theorem e_o3:aO [clA,clC]=[clA,clC]:=hM mv (by decide) (by decide)
theorem ev_s:bW aW bB=([clA,clC],0):=by
 have h0:(aj aW bB).2=0:=by
  have e1:ar bB=srt aq [cK 4 1 10 true,cK 4 0 8 true,cK 5 0 1 true]:=by kernel_rfl
  rw[hM (m:=[cK 4 0 8 true,cK 4 1 10 true,cK 5 0 1 true]) eG (by decide) (by decide)]at e1
  refine jY.2 ⟨by kernel_rfl,by unfold aW;simp,?_⟩
  rw[e1]
  decide
 have s1:bM aW bB 0 []=.inr [clA]:=by
  unfold bM
  rw[HL]
  show(bif(((aL aW (aO [clA])).2.2==0)&&(aL aW (aO [clA])).2.1)then .inr (aO [clA])else .inr ([]:List Claim))=(.inr [clA]:Empty⊕List Claim)
  rw[e_o1]
  unfold aL
  rw[ev_d];rfl
 have s2:bM aW bB 1 [clA]=.inr [clA]:=by
  unfold bM
  rw[HL]
  show(bif(((aL aW (aO [clA,clB])).2.2==0)&&(aL aW (aO [clA,clB])).2.1)then .inr (aO [clA,clB])else .inr ([clA]:List Claim))=(.inr [clA]:Empty⊕List Claim)
  rw[e_o2]
  unfold aL
  rw[ev_e];rfl
 have s3:bM aW bB 2 [clA]=.inr [clA,clC]:=by
  unfold bM
  rw[HL]
  show(bif(((aL aW (aO [clA,clC])).2.2==0)&&(aL aW (aO [clA,clC])).2.1)then .inr (aO [clA,clC])else .inr ([clA]:List Claim))=(.inr [clA,clC]:Empty⊕List Claim)
  rw[e_o3]
  unfold aL
  rw[ev_f];rfl
 unfold bW
 rw[h0,HL]
 simp only[bne_self_eq_false,cond_false,List.length_cons,List.length_nil,Nat.zero_add,ap,s1,s2,s3]
theorem m10:dl=(fU,true,0):=by unfold dl aL;rw[ev_a];rfl
theorem m4:eB=(({ kind:=1,hour:=2,index:=0,litres:=21,limit:=20}:Fault),true,0):=by unfold eB d_;rw[ev_b];rfl
theorem m16:d7=(({ kind:=7,hour:=1,index:=0,litres:=9,limit:=0}:Fault),true,0):=by unfold d7 d_;rw[ev_c];rfl
theorem m13:iw=([],false,191):=by kernel_rfl
theorem LK:lC=true:=by
 unfold lC jm jl bg jn a_ g5
 rw[m10,m4,ev_s,m16,m13]
 kernel_rfl
theorem Vd {a b:Claim}:clt a b↔fY a b:=by
 unfold clt fY
 simp only[mP,and_false,or_false]
def CK (a b:Claim):Prop:=a.hour=b.hour∧a.rank=b.rank∧a.right=b.right∧a.farm=b.farm
theorem O6 {c:List Claim}(h:c.Pairwise fY){a b:Claim}(ha:a∈c)(hb:b∈c)(hk:CK a b):a=b:=by
 obtain⟨i,hi,rfl⟩:=List.getElem_of_mem ha
 obtain⟨j,hj,rfl⟩:=List.getElem_of_mem hb
 obtain⟨k1,k2,k3,k4⟩:=hk
 rw[List.pairwise_iff_getElem]at h
 rcases Nat.lt_trichotomy i j with q|q|q
 ·have:=h i j hi hj q;unfold fY at this;omega
 ·subst q;rfl
 ·have:=h j i hj hi q;unfold fY at this;omega
theorem BL {c l:List Claim}(h:c.Pairwise fY)(hs:∀ x∈l,x∈c):apart bJ l∧apart bD l:=by
 refine⟨fun x hx y hy h1 h2=>O6 h (hs x hx) (hs y hy) ?_,fun x hx y hy h1 h2=>O6 h (hs x hx) (hs y hy) ?_⟩
 ·unfold ltOf at h1 h2
  rw[decide_eq_false_iff_not,sP]at h1 h2
  unfold slt at h1 h2
  simp only[mP,and_false,or_false]at h1 h2
  unfold CK;omega
 ·unfold ltOf at h1 h2
  rw[decide_eq_false_iff_not,ua]at h1 h2
  unfold clt at h1 h2
  simp only[mP,and_false,or_false]at h1 h2
  unfold CK;omega
theorem sr (c:List Claim):(ag c).Perm c:=List.mergeSort_perm _ _
theorem EU (c:List Claim):(aO c).Perm c:=List.mergeSort_perm _ _
theorem BM (d:District)(c:List Claim):fB d c:=by
 refine⟨Er d c,fun h=>?_⟩
 have hA:Askd d c:=jY.1 (by simpa using h)
 obtain⟨_,h2,h3,h4⟩:=(jL d c).1 hA.chk
 have hlen:(ag c).length=c.length:=(sr c).length_eq
 refine⟨⟨by unfold cA dE;omega,(BL h4 fun x hx=>hx).1⟩,fun _=>?_⟩
 refine fZ (fun j s=>(∀ x∈s,x∈c)∧s.length≤j) _ _ _ ⟨fun x hx=>(by cases hx),Nat.le_refl _⟩ fun j s _ hj ⟨hs,hl⟩ =>?_
 have hx:(ag c).getD j (default:Claim)∈c:=(sr c).mem_iff.1 (nG _ _ (by omega))
 have hs2:∀ x∈s++[(ag c).getD j (default:Claim)],x∈c:=fun x hq=>by
  rcases List.mem_append.1 hq with q|q
  ·exact hs x q
  ·simp only[List.mem_cons,List.not_mem_nil,or_false]at q;rw[q];exact hx
 refine⟨⟨by unfold dE;omega,by unfold dE;simp;omega,fun _=>⟨⟨by unfold cA dE;simp;omega,(BL h4 hs2).2⟩,CI _ _⟩⟩,fun s' e=>?_⟩
 unfold bM at e
 generalize (((aL d (aO (s++([((ag c).getD j (default:Claim))])))).2.2==0)&&(aL d (aO (s++([((ag c).getD j (default:Claim))])))).2.1)=b at e
 cases b with
 |true=>
  simp only[cond_true,Sum.inr.injEq]at e
  subst e
  refine⟨fun x hq=>hs2 x ((EU _).mem_iff.1 hq),?_⟩
  rw[(EU _).length_eq]
  simp;omega
 |false=>
  simp only[cond_false,Sum.inr.injEq]at e
  subst e
  exact⟨hs,by omega⟩
theorem LL (a b:List Order):gK a b:=fun _ _ h=>by
 have h:(a.length:Int)=b.length:=by simpa using h
 refine fZ (fun _ _=>True) _ _ _ trivial fun j s _ hj _=>⟨fun _=>by omega,fun _ _=>trivial⟩
theorem EV (a b:List Claim):fC a b:=fun _ _ h=>by
 have h:(a.length:Int)=b.length:=by simpa using h
 refine fZ (fun _ _=>True) _ _ _ trivial fun j s _ hj _=>⟨fun _=>by omega,fun _ _=>trivial⟩
theorem LM:nA:=by
 refine⟨CI _ _,fun _=>LL _ _,fun _=>⟨by unfold cS;simp,Et _ _,BM _ _,Et _ _,CI _ _,fun _=>⟨fun _=>?_,fun _=>?_,fun _=>EV _ _⟩⟩⟩
 ·unfold gZ bB cS;simp
 ·unfold gZ bB cS;simp
end Go.Sx
end
section
namespace Go.Sx
open Go.Proofs
set_option maxRecDepth 100000
set_option linter.unusedSimpArgs false
end Go.Sx
end
section
namespace Go.Sx
open Go.Proofs Go.Shelf Go.Sort Go.Lib
set_option maxRecDepth 100000
theorem CT {d:District}{l:List Order}(ho:Orders1 d l)(r a b:Int):eM l r a b=cp (dc r a b) l:=by
 have hlen:=ho.len
 obtain⟨s',e,hs⟩:=xm (step:=kO l r a b) (fun j s=>s=cp (dc r a b) (l.take j)) l.length 0 0 rfl fun j s _ hj q=>by
  have hj':j<l.length:=by omega
  have b1:=oc (p:=dc r a b) (l:=l.take (j+1)) fun x hx=>ho.lit x (List.mem_of_mem_take hx)
  have tk:=lj (p:=dc r a b) hj'
  have hln:(l.take (j+1)).length≤4096:=by rw[List.length_take];omega
  refine⟨_,?_,rfl⟩
  unfold kO
  rw[cm l default hj',q]
  show(bif dc r a b l[j]then _ else _)=_
  cases hg:dc r a b l[j]with
  |true=>
   rw[hg,cond_true]at tk
   rw[cond_true,←tk,bv (by omega) (by omega)]
  |false=>
   rw[hg,cond_false,Int.add_zero]at tk
   rw[cond_false,tk]
 unfold eM
 rw[e]
 rw[hs,Nat.zero_add,List.take_length]
theorem Ai {ρ:Type}{f:Nat→List Fault}{enc:Fault→ρ}{step:Nat→Unit→ρ⊕Unit}(N:Nat)(hst:∀ j,j<N→step j ()=match f j with| [] =>.inr () |x::_=>.inl (enc x)):∀ (n i:Nat),i+n=N→ap step n i ()=match (List.range' i n).flatMap f with| [] =>.inr () |x::_=>.inl (enc x)
 |0,i,_=>rfl
 |n+1,i,h=>by
  rw[List.range'_succ,List.flatMap_cons]
  unfold ap
  rw[hst i (by omega)]
  cases hf:f i with
  |nil=>rw[List.nil_append];exact Ai N hst n (i+1) (by omega)
  |cons x r=>rfl
section
variable {d:District}{l:List Order}
theorem brk1 (ho:Orders1 d l){h i:Nat}(hh:h<d.hours.toNat)(hi:i<d.reaches.length):gW d l h i ()=match bk d l h i with| [] =>.inr () |x::_=>.inl (x.kind,x.index,x.litres,x.limit):=by
 have hr:=ho.right
 have hH:=hr.hours;have hH1:=hr.hours1
 have hdy:1≤(rch d i).delay∧(rch d i).delay≤16:=lm hr hi
 have hw:IntKind.i64.wrap ((IntKind.i64.wrap ((h:Int) - (d.reaches.getD i default).delay))+1)=(h:Int) - (rch d i).delay+1:=by
  show IntKind.i64.wrap ((IntKind.i64.wrap ((h:Int) - (rch d i).delay))+1)=_
  rw[bv (n:=(h:Int) - (rch d i).delay) (by omega) (by omega),bv (by omega) (by omega)]
 unfold gW bk
 rw[hw,CT ho,CT ho]
 rw[show d.reaches.getD i default=rch d i from rfl]
 by_cases h1:cp (dc i h h) l > (rch d i).cap
 ·rw[decide_eq_true h1,if_pos h1];rfl
 ·rw[decide_eq_false h1,if_neg h1]
  by_cases h2:cp (dc i ((h:Int) - (rch d i).delay+1) h) l > (rch d i).bank
  ·rw[decide_eq_true h2,if_pos h2];rfl
  ·rw[decide_eq_false h2,if_neg h2];rfl
theorem brk0 (ho:Orders1 d l){h:Nat}(hh:h<d.hours.toNat):gX d l h ()=match bkH d l h with| [] =>.inr () |x::_=>.inl (wB x):=by
 have e:=Ai (f:=bk d l h) (enc:=fun x=>(x.kind,x.index,x.litres,x.limit)) (step:=gW d l h) d.reaches.length (fun j hj=>brk1 ho hh hj) d.reaches.length 0 (by omega)
 have hhr:∀ x∈bkH d l h,x.hour=(h:Int):=fun x hx=>by
  unfold bkH at hx
  rw[List.mem_flatMap]at hx
  obtain⟨i,_,hi⟩:=hx
  unfold bk at hi
  rcases List.mem_append.1 hi with hi|hi
  ·split at hi
   ·rw[List.mem_singleton.1 hi]
   ·cases hi
  ·split at hi
   ·rw[List.mem_singleton.1 hi]
   ·cases hi
 unfold gX
 rw[e]
 show(match (match bkH d l h with| [] =>_|x::_=>_:(Int×Int×Int×Int)⊕Unit)with| .inl x=>_| .inr s=>_)=_
 cases hb:bkH d l h with
 |nil=>rfl
 |cons x r=>
  have:=hhr x (by rw[hb];exact List.mem_cons_self)
  simp only[wB,this]
theorem Ve (ho:Orders1 d l):eM l 0 0 d.hours=cp g0P l:=by
 rw[CT ho]
 refine t_ fun x hx=>?_
 obtain⟨k,hk,rfl⟩:=List.getElem_of_mem hx
 have h1:=ho.one k hk
 rw[cm l default hk]at h1
 have:=h1.hour0;have:=h1.hour
 unfold dc g0P
 rw[decide_eq_true (by omega:l[k].hour≥0),decide_eq_true (by omega:l[k].hour≤d.hours),Bool.and_true,Bool.and_true]
theorem LN (ho:Orders1 d l):gM d l=(match tp d l with| [] =>(({ kind:=0,hour:=0,index:=0,litres:=0,limit:=0}:Fault),false) |x::_=>(x,true))∧ix d l:=by
 have e:=Ai (f:=bkH d l) (enc:=wB) (step:=gX d l) d.hours.toNat (fun j hj=>brk0 ho hj) d.hours.toNat 0 (by omega)
 have hH:=ho.right.hours
 refine⟨?_,by unfold ix;omega⟩
 unfold gM tp
 rw[e,Ve ho]
 cases(List.range' 0 d.hours.toNat).flatMap (bkH d l)with
 |cons x r=>rfl
 |nil=>
  rw[List.nil_append]
  by_cases h:cp g0P l > d.tank.start
  ·simp only[decide_eq_true h,if_pos h,cond_true]
  ·simp only[decide_eq_false h,if_neg h,cond_false]
end
def zF (f:Fault):Bool:=(f.kind==0)&&((f.hour==0)&&((f.index==0)&&((f.litres==0)&&(f.limit==0))))
theorem HM {f:Fault}(h:f.kind≠0):zF f=false:=by
 unfold zF
 rw[show(f.kind==0)=false by rw[beq_eq_false_iff_ne];exact h,Bool.false_and]
theorem N9 (d:District)(c:List Claim):ed d c=((aw d c).1,(aw d c).2.1,!(zF (aw d c).2.1),(aw d c).2.2)∧jp d c∧
  (((aw d c).2.2≠0∨zF (aw d c).2.1=false)→(aw d c).1=[]):=by
 obtain⟨k1,k2⟩:=HK d c
 by_cases hA:Askd d c
 ·have ha:=Bx hA
  have hN:=hA.nar
  have hall:=hA.outs.out
  have hr:=hN.good.right
  have ho:=hN.good.orders
  obtain⟨o1,o2⟩:=BI hA.chk
  obtain⟨p1,p2⟩:=Q8 d (ar c)
  have k0:dR d c=0:=by rw[k1,ha]
  obtain⟨q1,q2,_⟩:=Rd c hr ho hall o1 o2
  obtain⟨_,_,_,_,hk7⟩:=uf hr ho hall
  have hP:an d (ar c)=([],false,0)∨(∃ l,an d (ar c)=(l,true,0)∧Good d l)∨an d (ar c)=([],false,2):=by
   rcases uc d (ar c)with⟨q,_⟩ | ⟨_,q,_⟩ | ⟨_,_,hx,e⟩ | ⟨_,_,gs,hF,hlen,e⟩ | ⟨_,_,gs,hP,e⟩
   ·exact absurd ((og _ _).2 hN) q
   ·exact absurd hall q
   ·exact .inl e
   ·exact .inr (.inr e)
   ·exact .inr (.inl ⟨_,e,hP.good⟩)
  unfold ed jp aw
  rw[k0,o1,p1,ha]
  simp only[bne_self_eq_false,cond_false]
  rcases hP with e| ⟨l,e,hg⟩ |e
  ·have hne:=NW hr ho hall (by rw[e]) (by rw[e])
   obtain⟨f1,f2⟩:=N8 hk7 hne
   have hm:=hk7 _ (IF hne)
   rw[e]
   simp only[bne_self_eq_false,cond_false,Bool.not_false,cond_true]
   have hz:zF (dG (ar c) d)=false:=HM (by rw[hm];decide)
   rw[q1,f1,hz]
   exact⟨rfl,⟨k2,fun _=>⟨o2,p2,fun _=>⟨fun _=>⟨q2,f2⟩,fun q=>by cases q⟩⟩⟩,fun _=>trivial⟩
  ·have hb:=Bw hg.orders
   have hb2:=LN hg.orders
   rw[e]
   simp only[bne_self_eq_false,cond_false,Bool.not_true]
   rw[hb.1,hb2.1]
   cases hB:tp d l with
   |nil=>
    simp only[cI,cond_false]
    exact⟨rfl,⟨k2,fun _=>⟨o2,p2,fun _=>⟨fun q=>(by cases q),fun _=>hb2.2⟩⟩⟩,fun q=>(by rcases q with q|q;exact absurd rfl q;cases q)⟩
   |cons x r=>
    have hx:=(Gs (d:=d) (l:=l) x (by rw[hB];exact List.mem_cons_self)).1
    have hz:zF x=false:=HM hx
    simp only[cI,di,cond_true,hz,Bool.not_false]
    exact⟨trivial,⟨k2,fun _=>⟨o2,p2,fun _=>⟨fun q=>(by cases q),fun _=>hb2.2⟩⟩⟩,fun _=>trivial⟩
  ·rw[e]
   simp only[show((2:Int) !=0)=true from rfl,cond_true]
   exact⟨rfl,⟨k2,fun _=>⟨o2,p2,fun q=>by cases q⟩⟩,fun _=>trivial⟩
 ·have hn:(aj d c).2≠0:=fun h=>hA (jY.1 h)
  have hb:((aj d c).2 !=0)=true:=by simpa using hn
  unfold ed aw
  rw[k1,hb]
  simp only[cond_true]
  exact⟨rfl,⟨k2,fun q=>by rw[k1,hb]at q;cases q⟩,fun _=>trivial⟩
theorem LO (d:District)(c:List Claim):iy d c=aL d c∧nD d c:=by
 obtain⟨e,p,h⟩:=N9 d c
 refine⟨?_,p⟩
 unfold iy aL
 rw[e]
 simp only
 by_cases h0:(aw d c).2.2=0
 ·rw[h0]
  simp only[bne_self_eq_false,Bool.false_or,beq_self_eq_true,Bool.true_and]
  show _=((aw d c).1,zF (aw d c).2.1,0)
  cases hz:zF (aw d c).2.1 with
  |true=>rfl
  |false=>rw[h (.inr hz)];rfl
 ·have hb:((aw d c).2.2 !=0)=true:=by simpa using h0
  have hb2:((aw d c).2.2==0)=false:=by simpa using h0
  rw[hb,hb2,h (.inl h0)]
  rfl
theorem GB (l:List Claim):ft l l=true:=by
 unfold ft
 rw[bne_self_eq_false,cond_false]
 rw[sN fun j _ _=>by
  unfold f7
  simp only[beq_self_eq_true,Bool.and_self,Bool.not_true,cond_false]]
end Go.Sx
end
section
namespace Go.Sx
open Go.Proofs
set_option maxRecDepth 100000
set_option linter.unusedSimpArgs false
end Go.Sx
end
section
namespace Go.Sx
open Go.Proofs
section
variable {d:District}{c:List Claim}{l:List Order}
end
end Go.Sx
end
section
namespace Go.Sx
open Go.Proofs
section
variable {d:District}{c:List Claim}{l:List Order}
end
end Go.Sx
end
section
namespace Go.Sx
universe u
section
variable {α:Type u}
def pV (k:Int→List SV→Option α):List SV→Option α
 | .v (.int .u8 n)::r=>k n r
 |_=>none
@[go_sem] theorem WG {k:Int→List SV→Option α}{n:Int}{r:List SV}:pV k (.v (.int .u8 n)::r)=k n r:=(rfl)
def pW (k:Int→List SV→Option α):List SV→Option α
 | .v (.int .u16 n)::r=>k n r
 |_=>none
@[go_sem] theorem WH {k:Int→List SV→Option α}{n:Int}{r:List SV}:pW k (.v (.int .u16 n)::r)=k n r:=(rfl)
end
end Go.Sx
end
section
namespace Go.Sx
open Go.Proofs
set_option maxRecDepth 100000
set_option linter.unusedSimpArgs false
end Go.Sx
end
section
namespace Go.Sx
open Go.Proofs
section
variable {d:District}{c c':List Claim}{l:List Order}
end
end Go.Sx
end
section
namespace Go.Sx
open Go.Proofs
set_option maxRecDepth 100000
set_option linter.unusedSimpArgs false
theorem EW {p:Prop}(h:p:=by(first|done|(repeat' (first|with_reducible refine And.intro ?_ ?_|((with_reducible show _≠_);first|assumption|omega|(simp_all [aX,bf];done) |grind) |with_reducible intro _)) <;>(first|done|exact Empty.elim ‹Empty› |assumption|rfl|omega|decide|exact fk [5] |exact fk [0] |exact czl|(simp only[*,cond_true,cond_false,Bool.not_true,Bool.not_false,go_sem,Nat.reduceBEq,Nat.reduceLeDiff,Nat.reduceLT,decide_true,Nat.reduceAdd,Nat.reduceSub,Nat.reduceMul,Int.reduceLE,Int.reduceLT,Int.reduceToNat,Int.reduceNeg,reduceCtorEq];(repeat' (first|with_reducible refine And.intro ?_ ?_|((with_reducible show _≠_);first|assumption|omega|(simp_all [aX,bf];done) |grind) |with_reducible intro _)) <;>(first|done|assumption|rfl|omega|decide|exact fk [5] |exact fk [0] |(simp_all [aX,bf];done))) |(simp_all [okI,aX,bf];done) |(simp_all [aX,bf];(first|done|exact fk2 [5] |exact fk2 [0])) |exact fk2 [5] |exact fk2 [0]))):p:=h
theorem LP {p:Prop}(h:p:=by simp only[go_sem,Nat.reduceBEq,Nat.reduceLeDiff,Nat.reduceLT,decide_true,Nat.reduceAdd,Nat.reduceSub,Nat.reduceMul,Int.reduceLE,Int.reduceLT,Int.reduceToNat,Int.reduceNeg,reduceCtorEq,hc,hw];all_goals exact EW):p:=h
theorem LQ {p:Prop}(h:p:=by simp only[go_sem,Nat.reduceBEq,Nat.reduceLeDiff,Nat.reduceLT,decide_true,Nat.reduceAdd,Nat.reduceSub,Nat.reduceMul,Int.reduceLE,Int.reduceLT,Int.reduceToNat,Int.reduceNeg,reduceCtorEq,hc];all_goals exact EW):p:=h
@[go_sem] def cL (c:List Claim)(k_0:Nat)(s_0:List Claim)(k_1:Nat)(s_1:Int):Int⊕Int:=(bif((decide (s_1< (s_0.length:Int)))&&(dH (s_0.getD (Int.toNat s_1) (default:Claim)) (c.getD k_0 (default:Claim))))then .inr (IntKind.i64.wrap (s_1+1))else .inl s_1)
def e_ (c:List Claim)(k_0:Nat)(s_0:List Claim)(k_1:Nat)(s_1:Int):Prop:=(s_0.length≤a7→((decide (s_1< (s_0.length:Int)))=true→(0≤s_1∧s_1< (s_0.length:Int))))
@[go_sem] def dS (c:List Claim)(k_0:Nat)(s_0:List Claim):Empty⊕(List Claim):=(match ap (cL c k_0 s_0) (c.length+1) 0 0 with| .inl x_1_0=>.inr ((((s_0.take (Int.toNat x_1_0)).drop 0)++([(c.getD k_0 (default:Claim))]))++(([])++((s_0.take (Int.toNat (s_0.length:Int))).drop (Int.toNat x_1_0)))) | .inr s_1=>.inr default)
def gN (c:List Claim)(k_0:Nat)(s_0:List Claim):Prop:=(c.length≤a7→(okI (cL c k_0 s_0) (e_ c k_0 s_0) (c.length+1) 0 0∧(∀ z_,ap (cL c k_0 s_0) (c.length+1) 0 0≠ .inr z_)∧(∀ x_1_0,ap (cL c k_0 s_0) (c.length+1) 0 0=.inl x_1_0→((0≤x_1_0∧x_1_0≤(s_0.length:Int))∧(((([])++((s_0.take (Int.toNat (s_0.length:Int))).drop (Int.toNat x_1_0))).length*40≤dE)∧((([])++((s_0.take (Int.toNat (s_0.length:Int))).drop (Int.toNat x_1_0))).length≤a7→((0≤0∧0≤x_1_0∧x_1_0≤(s_0.length:Int))∧(((((s_0.take (Int.toNat x_1_0)).drop 0)++([(c.getD k_0 (default:Claim))])).length*40≤dE)∧((((s_0.take (Int.toNat x_1_0)).drop 0)++([(c.getD k_0 (default:Claim))])).length≤a7→(((((s_0.take (Int.toNat x_1_0)).drop 0)++([(c.getD k_0 (default:Claim))]))++(([])++((s_0.take (Int.toNat (s_0.length:Int))).drop (Int.toNat x_1_0)))).length*40≤dE))))))))))
def bp (c:List Claim):List Claim:=(match ap (dS c) c.length 0 ([])with| .inl x=>x.elim| .inr s_0=>s_0)
def f8 (c:List Claim):Prop:=okI (dS c) (gN c) c.length 0 ([])
@[go_sem] def nh:List SV→Option Con:=(pR .claim fun c=>(pE (.det (f8 c) (.nw .claim (bp c)))))
theorem su:FnOk Tryz.prog 21 nh:=by
 have hG:ConsOk Tryz.prog (mkG [(40,ov)] []):=aC (cgc qH cg0) cg0
 refine qf [(.tmp 2,.claim)] mixed ax hG (fn:=Tryz.f21) (c:=aa Tryz.f21) (by kernel_rfl) (by kernel_rfl) (by kernel_rfl) (by kernel_rfl) (cj fun c=>(aB (fun hp=>?_)))
 dsimp only[aD]at hp
 unfold f8 at hp
 refine⟨Nat.le_of_ble_eq_true rfl,(fun id st=>bif Nat.beq id 0 then some (LCR (ρ:=Empty) (σ:=(List Claim)) 0 [.slot 3 (.row .claim ([]))] [0] (fun k_0 s_0=>⟨[(0,.rs .claim c),(3,.os 0),(4,.v (.int .i64 (k_0:Int)))],[.row .claim s_0]⟩) (dS c) (gN c) c.length ([]) (True) ((·.elim)) ((·.elim)) st)else none),?_,?_⟩
 ·unfold aa Tryz.f21
  simp only[ay,true_and,and_true]
  ·refine dL (c.length≤a7) mixed ax hG (by kernel_rfl) (fun _=>rfl) (c.length:Int) rfl g7 (fun hb0 k_0 s_0 hlt0 hq0 hw hc=>⟨(fun id st=>bif Nat.beq id 2 then some (LCV (ρ:=Int) (σ:=Int) 1 [] [0] (fun k_1 s_1=>⟨[(0,.rs .claim c),(3,.os 0),(4,.v (.int .i64 (k_0:Int))),(5,.v (.int .i64 s_1))],[.row .claim s_0]⟩) (cL c k_0 s_0) (e_ c k_0 s_0) (c.length+1) 0 (fun _=>.normal) (fun x_1_0=>⟨[(0,.rs .claim c),(3,.os 0),(4,.v (.int .i64 (k_0:Int))),(5,.v (.int .i64 x_1_0))],[.row .claim s_0]⟩) st)else none),?_,?_⟩) (fun hb0 s_0 hc=>?_) fun hb0 k_0 s_0=>?_
   ·simp only[ay,true_and,and_true]
    ·refine ii mixed ax hG (by kernel_rfl) (fun _=>rfl) fun k_1 s_1 hq1=>⟨L0,ak _,?_⟩
     ·unfold e_ at hq1
      exact vB
   ·unfold gN at hq0
    try simp only[hw,Int.toNat_natCast]at hq0
    exact LP
   ·exact LQ
   ·simp only[go_sem,Nat.reduceBEq,Nat.reduceLeDiff,Nat.reduceLT,decide_true,Nat.reduceAdd,Nat.reduceSub,Nat.reduceMul,Int.reduceLE,Int.reduceLT,Int.reduceToNat,Int.reduceNeg,reduceCtorEq,hb0]
 ·unfold aa Tryz.f21
  try unfold bp
  simp only[go_sem,Nat.reduceBEq,Nat.reduceLeDiff,Nat.reduceLT,decide_true,Nat.reduceAdd,Nat.reduceSub,Nat.reduceMul,Int.reduceLE,Int.reduceLT,Int.reduceToNat,Int.reduceNeg,reduceCtorEq]
  all_goals exact cl
end Go.Sx
end
section
namespace Go.Sx
open Go.Proofs Go.Shelf Go.Sort Go.Lib
set_option maxRecDepth 100000
theorem Aj (l:List Claim)(x:Claim)(hl:l.length≤100000):ap (fh l x) (l.length+1) 0 0=.inl (((l.takeWhile fun y=>df y x).length:Nat):Int):=by
 have:=sU (step:=fh l x) (q:=fun y=>df y x) (fun j s=>rfl) hl (l.length+1) 0 0 (Nat.zero_le _) (by omega)
 simpa using this
theorem N_ (l:List Claim)(x:Claim)(hl:l.length≤100000):cd l x=ins (fun y=>df y x) x l:=by
 unfold cd
 rw[Aj l x hl,x9]
 simp
theorem Oa (l:List Claim)(x:Claim)(hl:l.length≤100000):nB l x:=by
 have ht:=Lt (fun y=>df y x) l
 refine⟨Ad (step:=fh l x) (p:=jB l x) (q:=fun y=>df y x) (fun j s=>rfl) hl (fun j s=>rfl) _,fun z e=>?_,fun z e=>?_⟩
 ·rw[Aj l x hl]at e;cases e
 ·rw[Aj l x hl]at e;cases e
  generalize (l.takeWhile fun y=>df y x).length=k at ht
  simp only[Int.toNat_natCast,List.nil_append,List.drop_zero,List.take_length]
  refine⟨⟨by omega,by omega,by omega⟩,by unfold dE;simp;omega,fun _=>⟨by unfold dE;simp;omega,fun _=>⟨⟨by omega,by omega,by omega⟩,by unfold dE;simp;omega⟩⟩⟩
theorem CU (c s:List Claim)(k:Nat)(hl:s.length≤c.length)(hc:c.length≤100000):ap (cL c k s) (c.length+1) 0 0=.inl (((s.takeWhile fun y=>dH y (c.getD k default)).length:Nat):Int):=by
 have:=sU (step:=cL c k s) (q:=fun y=>dH y (c.getD k default)) (fun j s=>rfl) (by omega) (c.length+1) 0 0 (Nat.zero_le _) (by omega)
 simpa using this
theorem EX (c s:List Claim)(k:Nat)(hl:s.length≤c.length)(hc:c.length≤100000):dS c k s=.inr (ins (fun y=>dH y (c.getD k default)) (c.getD k default) s):=by
 unfold dS
 rw[CU c s k hl hc,x9]
 simp
theorem Re (c:List Claim)(hc:c.length≤100000):f8 c:=by
 refine fZ (fun j s=>s.length≤j) _ _ _ (Nat.le_refl _) fun j s _ hj hs=>⟨fun _=>?_,fun s' e=>?_⟩
 ·have hl:s.length≤c.length:=by omega
  have ht:=Lt (fun y=>dH y (c.getD j default)) s
  refine⟨Ad (step:=cL c j s) (p:=e_ c j s) (l:=s) (q:=fun y=>dH y (c.getD j default)) (fun j s=>rfl) (by omega) (fun j s=>rfl) _,fun z e=>?_,fun z e=>?_⟩
  ·rw[CU c s j hl hc]at e;cases e
  ·rw[CU c s j hl hc]at e;cases e
   generalize (s.takeWhile fun y=>dH y (c.getD j default)).length=k at ht
   simp only[Int.toNat_natCast,List.nil_append,List.drop_zero,List.take_length]
   refine⟨⟨by omega,by omega⟩,by unfold dE;simp;omega,fun _=>⟨⟨by omega,by omega,by omega⟩,by unfold dE;simp;omega,fun _=>by unfold dE;simp;omega⟩⟩
 ·rw[EX c s j (by omega) hc]at e
  cases e
  rw[HI];omega
end Go.Sx
end
section
namespace Go.Sx
open Go.Proofs Go.Shelf Go.Sort Go.Lib
set_option maxRecDepth 100000
theorem CV {σ:Type}{step:Nat→σ→Empty⊕σ}(J:Nat→σ→Prop):∀ (n i:Nat) (s:σ),J i s→(∀ j s,i≤j→j<i+n→J j s→∃ s',step j s=.inr s'∧J (j+1) s')→∃ s',ap step n i s=.inr s'∧J (i+n) s'
 |0,i,s,h,_=>⟨s,rfl,h⟩
 |n+1,i,s,h,hs=>by
  obtain⟨s',e,h'⟩:=hs i s (Nat.le_refl _) (by omega) h
  obtain⟨s2,e2,h2⟩:=CV J n (i+1) s' h' fun j s h1 h2=>hs j s (by omega) (by omega)
  exact⟨s2,by unfold ap;rw[e];exact e2,by rw[show i+(n+1)=i+1+n by omega];exact h2⟩
theorem IX (a b c:Claim)(h1:slt a b)(h2:slt b c):slt a c:=by
 simp only[slt,mP,and_false,or_false]at *;omega
theorem Ak (a b:Claim):dH a b=true↔slt a b:=by
 unfold dH
 simp only[slt,mP,and_false,or_false]
 by_cases h1:a.rank=b.rank
 ·by_cases h2:a.right=b.right
  ·by_cases h3:a.farm=b.farm
   ·simp[h1,h2,h3]
   ·simp[h1,h2,h3,bne_iff_ne]
  ·simp[h1,h2,bne_iff_ne]
 ·simp[h1,bne_iff_ne]
theorem EY (a b:Claim):df a b=true↔fY a b:=by
 have hs:=Ak a b
 unfold df
 simp only[slt,mP,and_false,or_false]at hs
 unfold fY
 by_cases h1:a.hour=b.hour
 ·rw[h1,bne_self_eq_false,cond_false,hs];omega
 ·rw[bne_iff_ne.2 h1,cond_true,decide_eq_true_iff];omega
theorem Vf {a b:Claim}(h:fY a b∨fY b a):slt a b∨slt b a:=by
 unfold fY at h
 simp only[slt,mP,and_false,or_false]
 omega
theorem LR {c:List Claim}(h:c.Pairwise fY){x y:Claim}(hx:x∈c)(hy:y∈c)(hne:x≠y):fY x y∨fY y x:=by
 obtain⟨i,hi,rfl⟩:=List.getElem_of_mem hx
 obtain⟨j,hj,rfl⟩:=List.getElem_of_mem hy
 rw[List.pairwise_iff_getElem]at h
 rcases Nat.lt_trichotomy i j with q|q|q
 ·exact .inl (h i j hi hj q)
 ·subst q;exact absurd rfl hne
 ·exact .inr (h j i hj hi q)
theorem LS (a:Claim):¬fY a a:=by unfold fY;omega
theorem CW {c:List Claim}(h:c.Pairwise fY):c.Nodup:=h.imp fun {a b} q e=>by subst e;exact LS a q
theorem Al {l c:List Claim}(hp:l.Perm c)(h:c.Nodup):l.Nodup:=hp.nodup_iff.2 h
theorem Am {l:List Claim}(h:l.Nodup){k:Nat}(hk:k<l.length):l[k] ∉ l.take k:=fun hm=>by
 obtain⟨i,hi,e⟩:=List.getElem_of_mem hm
 rw[List.length_take]at hi
 rw[List.getElem_take]at e
 have:=List.pairwise_iff_getElem.1 h i k (by omega) hk (by omega)
 exact this e
theorem LU {l c:List Claim}(hp:l.Perm c)(hs:l.Pairwise slt):ag c=l:=
 hM ub hp (hs.imp fun {a b} q=>by unfold ltOf;rw[decide_eq_true_iff];exact(sP a b).2 q)
theorem LV {l c:List Claim}(hp:l.Perm c)(hs:l.Pairwise fY):aO c=l:=
 hM mv hp (hs.imp fun {a b} q=>by unfold ltOf;rw[decide_eq_true_iff];exact(ua a b).2 (Vd.2 q))
theorem Rf {c:List Claim}(hc:c.Pairwise fY)(hl:c.length≤100000):bp c=ag c∧(ag c).Pairwise slt:=by
 obtain⟨s,e,h1,h2⟩:=CV (step:=dS c) (fun j s=>s.Perm (c.take j)∧s.Pairwise slt) c.length 0 [] ⟨by simp,.nil⟩ fun j s _ hj ⟨h1,h2⟩ =>by
  have hj:j<c.length:=by omega
  have hsl:s.length≤c.length:=by rw[h1.length_eq,List.length_take];omega
  refine⟨_,EX c s j hsl hl,?_,?_⟩
  ·rw[cm c default hj,List.take_succ_eq_append_getElem hj]
   exact(pJ _ _ _).trans ((h1.cons _).trans (List.perm_append_singleton _ _).symm)
  ·rw[cm c default hj]
   refine vM IX (fun y hy=>?_) h2
   have hy2:=h1.mem_iff.1 hy
   have hne:y≠c[j]:=fun e=>Am (CW hc) hj (e▸hy2)
   have:=Vf (LR hc (List.mem_of_mem_take hy2) (List.getElem_mem hj) hne)
   refine⟨fun q=>(Ak _ _).1 q,fun q=>this.resolve_left fun q2=>?_⟩
   rw[(Ak _ _).2 q2]at q;cases q
 rw[Nat.zero_add,List.take_length]at h1
 have e1:=LU h1 h2
 refine⟨?_,by rw[e1];exact h2⟩
 unfold bp
 rw[e,e1]
theorem EZ {s:List Claim}{x:Claim}(hs:s.Pairwise fY)(hx:∀ y∈s,fY y x∨fY x y)(hl:s.length≤100000):
  aO (s++[x])=cd s x∧(cd s x).Pairwise fY∧(cd s x).Perm (x::s):=by
 rw[N_ s x hl]
 have h1:(ins (fun y=>df y x) x s).Pairwise fY:=vM (R:=fY) (x:=x) (q:=fun y=>df y x) (fun _ _ _=>zy) (fun y hy=>⟨fun q=>(EY y x).1 q,fun q=>(hx y hy).resolve_left fun q2=>by rw[(EY y x).2 q2]at q;cases q⟩) hs
 have h2:=pJ (fun y=>df y x) x s
 exact⟨LV (h2.trans (List.perm_append_singleton _ _).symm) h1,h1,h2⟩
def can (d:District)(m:List Claim):Bool:=((aL d m).2.2==0)&&(aL d m).2.1
def gst (d:District)(s:List Claim)(x:Claim):List Claim:=bif can d (cd s x)then cd s x else s
def gk (d:District)(L:List Claim)(k:Nat):List Claim:=(L.take k).foldl (gst d) []
section
variable {d:District}{c L:List Claim}
theorem CX {k:Nat}(hk:k<L.length):gk d L (k+1)=gst d (gk d L k) L[k]:=by
 unfold gk
 rw[List.take_succ_eq_append_getElem hk,List.foldl_append];rfl
theorem LW {s:List Claim}{x y:Claim}(h:(cd s x).Perm (x::s))(hy:y∈gst d s x):y=x∨y∈s:=by
 unfold gst at hy
 cases hc:can d (cd s x)with
 |true=>rw[hc]at hy;exact List.mem_cons.1 (h.mem_iff.1 hy)
 |false=>rw[hc]at hy;exact .inr hy
theorem GC (hc:c.Pairwise fY)(hl:c.length≤4096)(hp:L.Perm c):∀ k,k≤L.length→(gk d L k).Pairwise fY∧(∀ y∈gk d L k,y∈L.take k)∧(gk d L k).length≤k
 |0,_=>⟨by simp[gk],by simp[gk],by simp[gk]⟩
 |k+1,hk=>by
  obtain⟨h1,h2,h3⟩:=GC hc hl hp k (by omega)
  have hLl:=hp.length_eq
  have hx:∀ y∈gk d L k,fY y L[k]∨fY L[k] y:=fun y hy=>LR hc (hp.mem_iff.1 (List.mem_of_mem_take (h2 y hy))) (hp.mem_iff.1 (List.getElem_mem _)) fun e=>Am (Al hp (CW hc)) hk (e▸h2 y hy)
  obtain⟨_,q2,q3⟩:=EZ h1 hx (by omega)
  rw[CX hk]
  refine⟨?_,fun y hy=>?_,?_⟩
  ·unfold gst;cases can d _ <;>assumption
  ·rw[List.take_succ_eq_append_getElem hk]
   rcases LW q3 hy with rfl|hy
   ·exact List.mem_append_right _ List.mem_cons_self
   ·exact List.mem_append_left _ (h2 y hy)
  ·unfold gst
   cases can d _ with
   |true=>rw[cond_true,q3.length_eq,List.length_cons];omega
   |false=>rw[cond_false];omega
theorem Oc (hc:c.Pairwise fY)(hl:c.length≤4096)(hp:L.Perm c){k:Nat}(hk:k<L.length):aO (gk d L k++[L[k]])=cd (gk d L k) L[k]∧(cd (gk d L k) L[k]).Pairwise fY∧(cd (gk d L k) L[k]).Perm (L[k]::gk d L k):=by
 obtain⟨h1,h2,h3⟩:=GC (d:=d) hc hl hp k (by omega)
 have hLl:=hp.length_eq
 exact EZ h1 (fun y hy=>LR hc (hp.mem_iff.1 (List.mem_of_mem_take (h2 y hy))) (hp.mem_iff.1 (List.getElem_mem _)) fun e=>Am (Al hp (CW hc)) hk (e▸h2 y hy)) (by omega)
theorem IY (hA:Askd d c):bW d c=(gk d (ag c) (ag c).length,0):=by
 obtain⟨_,hl,_,hc⟩:=(jL d c).1 hA.chk
 obtain⟨s,e,h⟩:=CV (step:=bM d c) (fun j s=>s=gk d (ag c) j) (ag c).length 0 [] (by simp[gk]) fun j s _ hj hs=>by
  have hj:j< (ag c).length:=by omega
  subst hs
  refine⟨_,?_,rfl⟩
  unfold bM
  rw[cm _ default hj,(Oc hc hl (sr c) hj).1,CX hj]
  unfold gst can
  generalize (((aL d (cd (gk d (ag c) j) (ag c)[j])).2.2==0)&&(aL d (cd (gk d (ag c) j) (ag c)[j])).2.1)=b
  cases b <;>rfl
 unfold bW
 rw[jY.2 hA,bne_self_eq_false,cond_false,e]
 rw[Nat.zero_add]at h
 rw[h]
end
end Go.Sx
end
section
namespace Go.Sx
open Go.Proofs Go.Shelf Go.Sort Go.Lib
set_option maxRecDepth 100000
section
variable {d:District}{c m:List Claim}
end
end Go.Sx
end
section
namespace Go.Sx
open Go.Proofs
set_option maxRecDepth 100000
set_option linter.unusedSimpArgs false
end Go.Sx
end
section
namespace Go.Sx
open Go.Proofs Go.Shelf Go.Sort Go.Lib
set_option maxRecDepth 100000
section
variable {d:District}{c:List Claim}
end
end Go.Sx
end
section
namespace Go.Sx
open Go.Proofs
set_option maxRecDepth 100000
set_option linter.unusedSimpArgs false
@[go_sem] noncomputable def mR:List SV→List Ob→Option HCon:=fun l h=>wl .claim (fun c=>(pD .district fun d=>((pQ (.os 0) (pE (tY (jp d c) (.tup [.rs .order ((ed d c).1),.agg (cellsOf .fault ((ed d c).2.1)),.v (.bool ((ed d c).2.2.1)),.v (.int .i64 ((ed d c).2.2.2))]) [.row .claim c]))))) l) h
theorem wO:FnOkO Tryz.prog 32 mR:=by
 have hG:ConsOk Tryz.prog (mkG [(39,fun l=>oY (cn [.st .district,.sl .claim] l)),(58,fun l=>vH (cn [.st .district,.sl .order] l)),(59,fun l=>jC (cn [.st .district,.sl .claim] l)),(60,fun l=>tI (cn [.sl .fault] l)),(61,fun l=>vN (cn [.st .district,.sl .claim] l)),(62,fun l=>sp (cn [.st .district,.sl .order] l))] []):=aC (cgc (sn.norm [.st .district,.sl .claim]) (cgc (AH.norm [.st .district,.sl .order]) (cgc (lE.norm [.st .district,.sl .claim]) (cgc (Af.norm [.sl .fault]) (cgc (AM.norm [.st .district,.sl .claim]) (cgc (xO.norm [.st .district,.sl .order]) cg0)))))) cg0
 refine se [.sl .order,.st .fault,.o,.o] mixed ax hG (fn:=Tryz.f32) (c:=aa Tryz.f32) (by kernel_rfl) (by kernel_rfl) (by kernel_rfl) (by kernel_rfl) fun l o con h=>?_
 unfold mR at h
 obtain⟨c,rfl,h⟩:=pl h
 obtain⟨d,r0,rfl,h0⟩:=rt h
 obtain⟨r1,rfl,h1⟩:=wi h0
 obtain⟨rfl,rfl⟩:=p8 h1
 clear h h0 h1
 refine⟨_,_,_,rfl,rfl,fun hp=>?_⟩
 unfold jp at hp
 refine⟨Nat.le_of_ble_eq_true rfl,L0,?_,?_⟩
 ·unfold aa Tryz.f32
  simp only[ay,and_self,true_and,and_true]
 ·unfold aa Tryz.f32
  try unfold ed
  simp only[go_sem,Nat.reduceBEq,Nat.reduceLeDiff,Nat.reduceLT,decide_true,Nat.reduceAdd,Nat.reduceSub,Nat.reduceMul,Int.reduceLE,Int.reduceLT,Int.reduceToNat,Int.reduceNeg,reduceCtorEq]
  all_goals exact ij
@[go_sem] noncomputable def ow:List SV→List Ob→Option HCon:=fun l h=>wl .claim (fun c=>(pD .district fun d=>((pQ (.os 0) (pE (tY (nD d c) (.tup [.rs .order ((iy d c).1),.v (.bool ((iy d c).2.1)),.v (.int .i64 ((iy d c).2.2))]) [.row .claim c]))))) l) h
theorem xP:FnOkO Tryz.prog 13 ow:=by
 have hG:ConsOk Tryz.prog (mkG [] [(32,mR)]):=aC cg0 (cgc wO cg0)
 refine se [.sl .order,.o,.o] mixed ax hG (fn:=Tryz.f13) (c:=aa Tryz.f13) (by kernel_rfl) (by kernel_rfl) (by kernel_rfl) (by kernel_rfl) fun l o con h=>?_
 unfold ow at h
 obtain⟨c,rfl,h⟩:=pl h
 obtain⟨d,r0,rfl,h0⟩:=rt h
 obtain⟨r1,rfl,h1⟩:=wi h0
 obtain⟨rfl,rfl⟩:=p8 h1
 clear h h0 h1
 refine⟨_,_,_,rfl,rfl,fun hp=>?_⟩
 unfold nD at hp
 refine⟨Nat.le_of_ble_eq_true rfl,L0,?_,?_⟩
 ·unfold aa Tryz.f13
  simp only[ay,and_self,true_and,and_true]
 ·unfold aa Tryz.f13
  try unfold iy
  simp only[go_sem,Nat.reduceBEq,Nat.reduceLeDiff,Nat.reduceLT,decide_true,Nat.reduceAdd,Nat.reduceSub,Nat.reduceMul,Int.reduceLE,Int.reduceLT,Int.reduceToNat,Int.reduceNeg,reduceCtorEq]
  all_goals exact ij
end Go.Sx
end
section
namespace Go.Sx
open Go.Proofs
set_option maxRecDepth 100000
set_option linter.unusedSimpArgs false
@[go_sem] def fG (d:District)(c:List Claim)(k_0:Nat)(s_0:List Claim):Empty⊕(List Claim):=(bif(((iy d (cd s_0 ((bp c).getD k_0 (default:Claim)))).2.2==0)&&(iy d (cd s_0 ((bp c).getD k_0 (default:Claim)))).2.1)then .inr (cd s_0 ((bp c).getD k_0 (default:Claim)))else .inr s_0)
def kP (d:District)(c:List Claim)(k_0:Nat)(s_0:List Claim):Prop:=((bp c).length≤a7→((nB s_0 ((bp c).getD k_0 (default:Claim)))∧(nD d (cd s_0 ((bp c).getD k_0 (default:Claim))))))
def fa (d:District)(c:List Claim):List Claim×Int:=(bif((dR d c) !=0)then([],(dR d c))else(match ap (fG d c) ((bp c).length) 0 ([])with| .inl x=>x.elim| .inr s_0=>(s_0,0)))
def kQ (d:District)(c:List Claim):Prop:=((jo d c)∧(((dR d c) !=0)=false→((f8 c)∧okI (fG d c) (kP d c) ((bp c).length) 0 ([]))))
@[go_sem] def sw:List SV→Option Con:=(pD .district fun d=>(pR .claim fun c=>(pE (.det (kQ d c) (.tup [.nw .claim ((fa d c).1),.v (.int .i64 ((fa d c).2))])))))
theorem xQ:FnOk Tryz.prog 18 sw:=by
 have hG:ConsOk Tryz.prog (mkG [(21,fun l=>nh (cn [.sl .claim] l)),(22,fun l=>vL (cn [.sl .claim,.st .claim] l)),(39,fun l=>oY (cn [.st .district,.sl .claim] l))] [(13,ow)]):=aC (cgc (su.norm [.sl .claim]) (cgc (AK.norm [.sl .claim,.st .claim]) (cgc (sn.norm [.st .district,.sl .claim]) cg0))) (cgc xP cg0)
 refine qf [(.tmp 4,.claim)] mixed ax hG (fn:=Tryz.f18) (c:=aa Tryz.f18) (by kernel_rfl) (by kernel_rfl) (by kernel_rfl) (by kernel_rfl) (aN fun d=>(cj fun c=>(aB (fun hp=>?_))))
 dsimp only[aD]at hp
 unfold kQ at hp
 refine⟨Nat.le_of_ble_eq_true rfl,(fun id st=>bif Nat.beq id 0 then some (LCR (ρ:=Empty) (σ:=(List Claim)) 2 [.slot 8 (.row .claim ([]))] [0,1,2] (fun k_0 s_0=>⟨[(2,.ptr 0 0),(7,.os 1),(8,.os 2),(9,.v (.int .i64 (k_0:Int)))],[.cells (cellsOf .district d),.row .claim (bp c),.row .claim s_0]⟩) (fG d c) (kP d c) ((bp c).length) ([]) (True) ((·.elim)) ((·.elim)) st)else none),?_,?_⟩
 ·unfold aa Tryz.f18
  simp only[ay,true_and,and_true]
  ·refine dL ((bp c).length≤a7) mixed ax hG (by kernel_rfl) (fun _=>rfl) ((bp c).length:Int) rfl g7 (fun hb0 k_0 s_0 hlt0 hq0 hw hc=>⟨L0,ak _,?_⟩) (fun hb0 s_0 hc=>?_) fun hb0 k_0 s_0=>?_
   ·unfold kP at hq0
    try simp only[hw,Int.toNat_natCast]at hq0
    exact EA
   ·exact EB
   ·simp only[go_sem,Nat.reduceBEq,Nat.reduceLeDiff,Nat.reduceLT,decide_true,Nat.reduceAdd,Nat.reduceSub,Nat.reduceMul,Int.reduceLE,Int.reduceLT,Int.reduceToNat,Int.reduceNeg,reduceCtorEq,hb0]
 ·unfold aa Tryz.f18
  try unfold fa
  simp only[go_sem,Nat.reduceBEq,Nat.reduceLeDiff,Nat.reduceLT,decide_true,Nat.reduceAdd,Nat.reduceSub,Nat.reduceMul,Int.reduceLE,Int.reduceLT,Int.reduceToNat,Int.reduceNeg,reduceCtorEq]
  all_goals exact cl
end Go.Sx
end
section
namespace Go.Sx
open Go.Proofs
set_option maxRecDepth 100000
set_option linter.unusedSimpArgs false
def dv (d:District)(c:List Claim):Bool:=(bif(!lC)then false else(bif(!(pz d c))then true else((ft ((bW d c).1) ((fa d c).1))&&((bW d c).2==(fa d c).2))))
def dT (d:District)(c:List Claim):Prop:=((nA)∧((!lC)=false→((!(pz d c))=false→((fB d c)∧((kQ d c)∧(fC ((bW d c).1) ((fa d c).1)))))))
@[go_sem] def fb:List SV→Option Con:=(pD .district fun d=>(pR .claim fun c=>(pE (.det (dT d c) (.v (.bool (dv d c)))))))
theorem mS:FnOk Tryz.prog 4 fb:=by
 have hG:ConsOk Tryz.prog (mkG [(10,vK),(11,fun l=>xf (cn [.st .district,.sl .claim] l)),(17,fun l=>jQ (cn [.st .district,.sl .claim] l)),(18,fun l=>sw (cn [.st .district,.sl .claim] l)),(19,fun l=>jR (cn [.sl .claim,.sl .claim] l))] []):=aC (cgc AJ (cgc (CN.norm [.st .district,.sl .claim]) (cgc (nc.norm [.st .district,.sl .claim]) (cgc (xQ.norm [.st .district,.sl .claim]) (cgc (nf.norm [.sl .claim,.sl .claim]) cg0))))) cg0
 refine aI [.o] mixed ax hG (fn:=Tryz.f4) (c:=aa Tryz.f4) (by kernel_rfl) (by kernel_rfl) (by kernel_rfl) (by kernel_rfl) (aN fun d=>(cj fun c=>(aB (fun hp=>?_))))
 dsimp only[aD]at hp
 unfold dT at hp
 refine⟨Nat.le_of_ble_eq_true rfl,L0,ak _,?_⟩
 ·unfold aa Tryz.f4
  try unfold dv
  simp only[go_sem,Nat.reduceBEq,Nat.reduceLeDiff,Nat.reduceLT,decide_true,Nat.reduceAdd,Nat.reduceSub,Nat.reduceMul,Int.reduceLE,Int.reduceLT,Int.reduceToNat,Int.reduceNeg,reduceCtorEq]
  all_goals exact cl
end Go.Sx
end
section
namespace Go.Sx
open Go.Proofs Go.Shelf Go.Sort Go.Lib
set_option maxRecDepth 100000
theorem E3 (d:District)(c:List Claim):fa d c=bW d c∧kQ d c:=by
 obtain⟨k1,k2⟩:=HK d c
 by_cases hA:Askd d c
 ·obtain⟨_,hl,_,hc⟩:=(jL d c).1 hA.chk
  have k0:dR d c=0:=by rw[k1,jY.2 hA]
  obtain⟨b1,b2⟩:=Rf hc (by omega)
  have hlen:(ag c).length=c.length:=(sr c).length_eq
  have hst:∀ j,j< (ag c).length→fG d c j (gk d (ag c) j)=.inr (gk d (ag c) (j+1)):=fun j hj=>by
   unfold fG
   rw[b1,cm _ default hj,CX hj,(LO _ _).1]
   unfold gst can
   generalize (((aL d (cd (gk d (ag c) j) (ag c)[j])).2.2==0)&&(aL d (cd (gk d (ag c) j) (ag c)[j])).2.1)=b
   cases b <;>rfl
  obtain⟨s,e,h⟩:=CV (step:=fG d c) (fun j s=>s=gk d (ag c) j) (ag c).length 0 [] (by simp[gk]) fun j s _ hj hs=>by
   subst hs
   exact⟨_,hst j (by omega),rfl⟩
  refine⟨?_,k2,fun _=>⟨Re c (by omega),?_⟩⟩
  ·rw[IY hA]
   unfold fa
   rw[k0,bne_self_eq_false,cond_false,b1,e]
   rw[Nat.zero_add]at h
   rw[h]
  ·rw[b1]
   refine fZ (fun j s=>s=gk d (ag c) j) _ 0 [] (by simp[gk]) fun j s _ hj hs=>⟨fun _=>⟨?_,(LO _ _).2⟩,fun s' e'=>?_⟩
   ·subst hs
    have:=(GC (d:=d) hc hl (sr c) j (by omega)).2.2
    exact Oa _ _ (by omega)
   ·subst hs
    rw[hst j (by omega)]at e';cases e';rfl
 ·have hn:(aj d c).2≠0:=fun h=>hA (jY.1 h)
  have hb:((aj d c).2 !=0)=true:=by simpa using hn
  refine⟨?_,k2,fun q=>by rw[k1,hb]at q;cases q⟩
  unfold fa bW
  rw[k1,hb];rfl
theorem IZ (d:District)(c:List Claim):dv d c=true:=by
 unfold dv
 rw[LK,(E3 d c).1,GB]
 simp only[beq_self_eq_true,Bool.and_self,Bool.not_true,cond_false]
 cases pz d c <;>rfl
theorem I0 (d:District)(c:List Claim):dT d c:=
 ⟨LM,fun _ _=>⟨BM d c,(E3 d c).2,EV _ _⟩⟩
end Go.Sx
end
section
namespace Go.Sx
open Go.RowKit Go.Deep
section
variable {F:Nat→Prop}{own:Own}{w:World}
def RC (F:Nat→Prop)(own:Own)(w:World)(ks:List Kd)(cs:List Value):Prop:=
 ∃ l:List SV,o5 ks l=true∧l.length=cs.length∧∀ (j:Nat) (s:SV) (v:Value),l[j]? =some s→cs[j]? =some v→Rel F own w s v
theorem E4:∀ {a b:List Kd} {l m:List SV},o5 a l=true→o5 b m=true→o5 (a++b) (l++m)=true
 | [],b,l,m,h1,h2=>by rw[pe h1];exact h2
 |k::a,b,l,m,h1,h2=>by
  obtain⟨x,r,rfl,e1,e2⟩:=k8 h1
  simp only[List.cons_append,o5,e1,E4 e2 h2,Bool.and_self]
theorem RC.nil:RC F own w [] []:=⟨[],rfl,rfl,fun j s v h=>by cases h⟩
theorem RC.app {a b:List Kd}{c d:List Value}(h1:RC F own w a c)(h2:RC F own w b d):RC F own w (a++b) (c++d):=by
 obtain⟨l,f1,n1,r1⟩:=h1
 obtain⟨m,f2,n2,r2⟩:=h2
 refine⟨l++m,E4 f1 f2,by simp[n1,n2],fun j s v hs hv=>?_⟩
 by_cases hj:j<l.length
 ·rw[List.getElem?_append_left hj]at hs
  rw[List.getElem?_append_left (by omega)]at hv
  exact r1 j s v hs hv
 ·rw[List.getElem?_append_right (by omega)]at hs
  rw[List.getElem?_append_right (by omega),←n1]at hv
  exact r2 _ s v hs hv
theorem RC.one {k:Kd}{s:SV}{v:Value}(h1:fit k s=true)(h2:Rel F own w s v):RC F own w [k] [v]:=
 ⟨[s],by simp[o5,h1],rfl,fun j s' v' hs hv=>by
  cases j with
  |zero=>simp only[List.getElem?_cons_zero,Option.some.injEq]at hs hv;subst hs;subst hv;exact h2
  |succ j=>simp at hs⟩
end
def Rg:Kd→Kd→Bool
 | .s,.s=>true
 | .b,.b=>true
 | .n a,.n b=>decide (a=b)
 | .r a,.r b=>decide (a=b)
 | .m a c,.m b d=>decide (a=b)&&decide (c=d)
 |_,_=>false
theorem Od:∀ {a b:Kd},Rg a b=true→a=b:=by
 intro a b h
 cases a <;>cases b <;>simp_all [Rg]
def LX:List Kd→List Kd→Bool
 | [],[] =>true
 |a::l,b::m=>Rg a b&&LX l m
 |_,_=>false
theorem HN:∀ {a b:List Kd},LX a b=true→a=b
 | [],[],_=>rfl
 |a::l,b::m,h=>by
  simp only[LX,Bool.and_eq_true]at h
  rw[Od h.1,HN h.2]
def An (P:Program)(g:TypeId→Option (List Kd)):List Field→Nat→Nat→Option (List Kd)
 | [],off,tot=>bif Nat.beq off tot then some []else none
 |f::r,off,tot=>match g f.type with
  |some a=>bif Nat.beq f.offset off&&Nat.beq a.length (P.cellsOf f.type)then(An P g r (off+a.length) tot).map (a++ ·)else none
  |none=>none
def GD (a:List Kd):Nat→List Kd
 |0=>[]
 |n+1=>a++GD a n
def Ao (P:Program):Nat→TypeId→Option (List Kd)
 |0,_=>none
 |n+1,t=>match P.underlying t with
  |some .bool=>some [.b]
  |some (.int k) =>some [.n k]
  |some .string=>some [.s]
  |some (.slice e) =>match C3 P e,Ao P n e with
   |some k,some ks=>bif LX ks (c6 k)&&Nat.beq (P.cellsOf e) (ae k)&&Nat.ble 1 (ae k)then some [.r k]else none
   |_,_=>none
  |some (.struct fs) =>An P (Ao P n) fs.toList 0 (P.cellsOf t)
  |some (.array m e) =>match Ao P n e with
   |some a=>bif Nat.beq a.length (P.cellsOf e)&&Nat.beq (P.cellsOf t) (m*a.length)then some (GD a m)else none
   |none=>none
  |_=>none
section
variable {H:Type}{enc:TypeId×Value→H}{P:Program}{F:Nat→Prop}{own:Own}{w:World}{base:Nat}{spare:Nat→Bool}{held:Bool}{S:DataW H→Prop}
theorem HO {g:TypeId→Option (List Kd)}(hg:∀ t ks,g t=some ks→∀ (fuel:Nat) (cs:List Value) (x:DataW H×List MemPlace),DataW.trod enc P w base spare held fuel t cs=some x→S x.1→RC F own w ks cs)
  (fuel:Nat) (cs:List Value):∀ (fs:List Field) (off:Nat) (ks:List Kd),An P g fs off cs.length=some ks→(∀ f∈fs,∃ x,DataW.trod enc P w base spare held fuel f.type ((cs.drop f.offset).take (P.cellsOf f.type))=some x∧S x.1)→RC F own w ks (cs.drop off)
 | [],off,ks,h,_=>by
  unfold An at h
  cases hb:Nat.beq off cs.length with
  |false=>rw[hb]at h;cases h
  |true=>
   rw[hb]at h
   have:off=cs.length:=Nat.eq_of_beq_eq_true hb
   subst this
   cases h
   rw[List.drop_length]
   exact RC.nil
 |f::r,off,ks,h,hx=>by
  unfold An at h
  cases ha:g f.type with
  |none=>rw[ha]at h;cases h
  |some a=>
   rw[ha]at h
   dsimp only at h
   cases hb:Nat.beq f.offset off&&Nat.beq a.length (P.cellsOf f.type)with
   |false=>rw[hb]at h;cases h
   |true=>
    rw[hb]at h
    simp only[cond_true,Option.map_eq_some_iff]at h
    obtain⟨ks2,h2,rfl⟩:=h
    rw[Bool.and_eq_true]at hb
    have e1:f.offset=off:=Nat.eq_of_beq_eq_true hb.1
    have e2:a.length=P.cellsOf f.type:=Nat.eq_of_beq_eq_true hb.2
    obtain⟨x,hx1,hs1⟩:=hx f (by simp)
    have h3:=hg _ _ ha _ _ _ hx1 hs1
    have h4:=HO hg fuel cs r (off+a.length) ks2 h2 fun f hf=>hx f (by simp[hf])
    have:=h3.app h4
    rw[e1,←e2]at this
    rwa[←List.drop_drop,List.take_append_drop]at this
theorem HP {e:TypeId}{a:List Kd}(ha:∀ (fuel:Nat) (cs:List Value) (x:DataW H×List MemPlace),DataW.trod enc P w base spare held fuel e cs=some x→S x.1→RC F own w a cs)
  (fuel:Nat):∀ (m:Nat) (cs:List Value),cs.length=m*a.length→(∀ i,i<m→∃ x,DataW.trod enc P w base spare held fuel e ((cs.drop (i*a.length)).take a.length)=some x∧S x.1)→RC F own w (GD a m) cs
 |0,cs,h,_=>by
  have:cs=[]:=by simpa using h
  subst this
  exact RC.nil
 |m+1,cs,h,hx=>by
  obtain⟨x,hx1,hs1⟩:=hx 0 (by omega)
  rw[Nat.zero_mul,List.drop_zero]at hx1
  have h3:=ha _ _ _ hx1 hs1
  have h4:=HP ha fuel m (cs.drop a.length) (by rw[List.length_drop,h,Nat.succ_mul];omega) fun i hi=>by
   obtain⟨x,hx2,hs2⟩:=hx (i+1) (by omega)
   refine⟨x,?_,hs2⟩
   rw[List.drop_drop]
   rwa[Nat.succ_mul,Nat.add_comm]at hx2
  have:=h3.app h4
  rwa[List.take_append_drop]at this
structure Small (S:DataW H→Prop):Prop where
 agg:∀ l,S (.agg l)→∀ d∈l,S d
 slice:∀ l m,S (.slice l m)→l.length≤a7∧∀ d∈l,S d
theorem ox (hS:Small S)(hown:∀ b,¬bR F own b):∀ (n:Nat) (t:TypeId) (ks:List Kd),Ao P n t=some ks→∀ (fuel:Nat) (cs:List Value) (x:DataW H×List MemPlace),DataW.trod enc P w base spare held fuel t cs=some x→S x.1→RC F own w ks cs
 |0,_,_,h,_,_,_,_,_=>by cases h
 |n+1,t,ks,h,fuel,cs,x,hx,hs=>by
  unfold Ao at h
  split at h
  ·rename_i ht
   cases h
   obtain⟨b,rfl,rfl⟩:=DataW.trod_bool ht hx
   exact RC.one (s:=.v (.bool b)) rfl (.v _)
  ·rename_i k ht
   cases h
   obtain⟨m,rfl,rfl,_⟩:=DataW.trod_int ht hx
   exact RC.one (s:=.v (.int k m)) (by simp[fit]) (.v _)
  ·rename_i ht
   cases h
   obtain⟨b,rfl,rfl,_⟩:=DataW.trod_string ht hx
   exact RC.one (s:=.v (.string b)) rfl (.v _)
  ·rename_i e ht
   split at h
   ·rename_i k ks2 hk hks
    cases hb:LX ks2 (c6 k)&&Nat.beq (P.cellsOf e) (ae k)&&Nat.ble 1 (ae k)with
    |false=>rw[hb]at h;cases h
    |true=>
     rw[hb]at h
     cases h
     simp only[Bool.and_eq_true]at hb
     have e1:=HN hb.1.1
     have e2:P.cellsOf e=ae k:=Nat.eq_of_beq_eq_true hb.1.2
     have e3:1≤ae k:=Nat.le_of_ble_eq_true hb.2
     subst e1
     rcases open_slice ht hx with⟨rfl,rfl⟩ | ⟨a,len,cap,m,f2,D,Pl,rfl,hb1,hl,hm,hmm,rfl,hel⟩
     ·exact RC.one (s:=.rs k []) (by simp[fit]) .rs0
     ·have hlm:len≤m:=by subst hmm;split <;>omega
      obtain⟨hs1,hs2⟩:=hS.slice _ _ hs
      simp only[List.length_map,List.length_range]at hs1
      have helt:∀ i,i<len→∃ cs',cs'.length=ae k∧(∀ j v,cs'[j]? =some v→w.cell? ((a.add (i*ae k)).add j)=some v)∧RC F own w (c6 k) cs':=fun i hi=>by
       obtain⟨cs',h1,h2⟩:=hel i (by omega)
       have h3:=ox hS hown n e (c6 k) hks f2 cs' _ h2 (hs2 _ (List.mem_map_of_mem (List.mem_range.2 hi)))
       unfold World.cells? at h1
       split at h1
       ·refine⟨cs',by rw[mapM_some_length h1,List.length_range,e2],fun j v hj=>?_,h3⟩
        have hlt:j<P.cellsOf e:=by
         have:=(List.getElem?_eq_some_iff.1 hj).1
         rwa[mapM_some_length h1,List.length_range]at this
        have:=mapM_some_get h1 j j (by simp[hlt])
        rw[e2]at this
        rw[this,hj]
       ·cases h1
      by_cases h0:len=0
      ·subst h0
       exact RC.one (s:=.rs k []) (by simp[fit]) .rs0
      ·have hsp:a.spot=none:=by
        obtain⟨cs',h1,h2,_⟩:=helt 0 (by omega)
        have:=h2 0 (cs'[0]'(by omega)) (by rw[List.getElem?_eq_getElem])
        rw[Nat.zero_mul]at this
        simp only[Addr.add,if_true]at this
        unfold World.cell? at this
        split at this
        ·cases hsp:a.spot with
         |none=>rfl
         |some q=>rw[hsp]at this;simp at this
        ·cases this
       obtain⟨ab,ao,asp⟩:=a
       dsimp only at hsp
       subst hsp
       haveI:Inhabited k.T:=⟨dW k⟩
       obtain⟨X,hX⟩:=choose_lt (p:=fun i (x:k.T) =>∀ (j:Nat) (s:SV),(cellsOf k x)[j]? =some s→∃ v,w.cell? ⟨ab,ao+i*ae k+j,none⟩=some v∧Rel F own w s v) (n:=len) fun i hi=>by
        obtain⟨cs',h1,h2,l,h3,h4,h5⟩:=helt i hi
        refine⟨mkE k l,fun j s hj=>?_⟩
        rw[ml (k:=k) (l:=l) (x:=mkE k l) (by unfold o6;rw[h3];rfl)]at hj
        have hlt:j<cs'.length:=by
         have:=(List.getElem?_eq_some_iff.1 hj).1
         omega
        refine⟨cs'[j],?_,h5 j s _ hj (List.getElem?_eq_getElem hlt)⟩
        have:=h2 j cs'[j] (List.getElem?_eq_getElem hlt)
        have hadd:∀ p q,((⟨ab,ao,none⟩:Addr).add p).add q=⟨ab,ao+p+q,none⟩:=fun p q=>by
         unfold Addr.add
         by_cases hp:p=0 <;>by_cases hq:q=0 <;>simp[hp,hq]
        rwa[hadd]at this
       have hL:((List.range len).map X).length=len:=by simp
       refine RC.one (s:=.rs k ((List.range len).map X)) (by simp[fit]) ?_
       have hget:∀ (i:Nat) (x:k.T),((List.range len).map X)[i]? =some x→i<len∧x=X i:=fun i x hi=>by
        obtain⟨h1,h2⟩:=List.getElem?_eq_some_iff.1 hi
        rw[hL]at h1
        simp only[List.getElem_map,List.getElem_range]at h2
        subst h2
        exact⟨h1,rfl⟩
       have:=Rel.rs (F:=F) (own:=own) (w:=w) (k:=k) (l:=(List.range len).map X) (b:=ab) (o:=ao) (cap:=cap) (fun i j=>(w.cell? ⟨ab,ao+i*ae k+j,none⟩).getD undef) (by rw[hL];exact hl) (by rw[hL];exact hs1)
        (fun i x hi j s hj=>by
         obtain⟨h1,rfl⟩:=hget i x hi
         obtain⟨v,h2,_⟩:=hX i h1 j s hj
         exact⟨hown _,by rw[h2];rfl⟩)
        (fun i x hi j s hj=>by
         obtain⟨h1,rfl⟩:=hget i x hi
         obtain⟨v,h2,h3⟩:=hX i h1 j s hj
         rw[h2];exact h3)
       rwa[hL]at this
   ·cases h
  ·rename_i fs ht
   obtain⟨xs,m,rfl,rfl,hl,hlen,hf⟩:=DataW.trod_struct ht hx
   rw[←hl]at h
   have:=HO (ox hS hown n) m cs fs.toList 0 ks h fun f hfm=>by
    obtain⟨i,hi,rfl⟩:=List.getElem_of_mem hfm
    have hi':i<fs.size:=by simpa using hi
    have h1:=hf i fs[i] (by simp[hi'])
    rw[List.getElem?_eq_getElem (by omega)]at h1
    refine⟨_,by simpa using h1,hS.agg _ hs _ (List.mem_map_of_mem (List.getElem_mem _))⟩
   simpa using this
  ·rename_i m e ht
   split at h
   ·rename_i a ha
    cases hb:Nat.beq a.length (P.cellsOf e)&&Nat.beq (P.cellsOf t) (m*a.length)with
    |false=>rw[hb]at h;cases h
    |true=>
     rw[hb]at h
     cases h
     rw[Bool.and_eq_true]at hb
     have e1:a.length=P.cellsOf e:=Nat.eq_of_beq_eq_true hb.1
     have e2:P.cellsOf t=m*a.length:=Nat.eq_of_beq_eq_true hb.2
     obtain⟨xs,f2,rfl,rfl,hl,hlen,hf⟩:=DataW.trod_array ht hx
     refine HP (ox hS hown n e a ha) f2 m cs (by rw[hl,e2]) fun i hi=>?_
     have h1:=hf i hi
     rw[List.getElem?_eq_getElem (by omega),←e1]at h1
     exact⟨_,h1,hS.agg _ hs _ (List.mem_map_of_mem (List.getElem_mem _))⟩
   ·cases h
  ·cases h
end
end Go.Sx
end
section
namespace Go.Sx
open Go.Proofs
section
variable {F:Nat→Prop}{own:Own}{w:World}
theorem Oe {k:Tag}{cs:Array Value}(h:RC F own w (c6 k) cs.toList):∃ x:k.T,Rel F own w (.agg (cellsOf k x)) (.agg cs):=by
 obtain⟨l,h3,h4,h5⟩:=h
 refine⟨mkE k l,?_⟩
 rw[ml (k:=k) (l:=l) (x:=mkE k l) (by unfold o6;rw[h3];rfl)]
 refine .agg (by simpa using h4.symm) fun j s hj=>?_
 have hlt:j<cs.size:=by
  have:=(List.getElem?_eq_some_iff.1 hj).1
  simpa[h4]using this
 exact h5 j s _ hj (by simp[Array.getD,hlt])
theorem Rh {k:Tag}{v:Value}(h:RC F own w [.r k] [v]):∃ l:List k.T,Rel F own w (.rs k l) v:=by
 obtain⟨l,h3,h4,h5⟩:=h
 obtain⟨x,r,rfl,h6,h7⟩:=k8 h3
 have h8:=h5 0 x v rfl rfl
 cases x with
 |rs k' l'=>
  have:k=k':=by
   simp only[fit]at h6
   exact qZ h6
  subst this
  exact⟨l',h8⟩
 |_=>simp[fit]at h6
end
end Go.Sx
end
section
namespace Go.Sx
open Go.RowKit Go.WideShapes Go.ChangeShapes
section
variable {H:Type}{enc:TypeId×Value→H}{P:Program}
def Of (P:Program):List TypeId→Bool
 | [] =>true
 |t::r=>P.readableRec t&&Nat.blt t P.types.size&&Of P r
theorem BN (hl:laidOutB P=true){W W':World}(hg:Below W.heap.size W W'):∀ {ts:List TypeId} {vs:List Value} {ds:List (DataW H)} {ps:List MemPlace},Of P ts=true→
  DataW.TrodAll enc P W 0 (fun _=>true) true ts vs ds ps→(∀ x∈ps,x.block<W.heap.size)→DataW.TrodAll enc P W' 0 (fun b=>decide (b<W.heap.size)) true ts vs ds ps
 | [],vs,ds,ps,_,h,_=>by
  obtain⟨rfl,rfl,rfl⟩:=trodAll_nil h
  exact trodAll_mk0
 |t::ts,vs,ds,ps,hk,h,hlt=>by
  unfold Of at hk
  rw[Bool.and_eq_true,Bool.and_eq_true]at hk
  obtain⟨v,vs',d,ds',p,q,rfl,rfl,rfl,h1,h2⟩:=trodAll_cons h
  refine trodAll_cons_mk (WideElems.Trod_stays hl hk.1.1 (by simpa[Nat.blt_eq]using hk.1.2) h1 (fun x hx=>hg.same (hlt x (List.mem_append_left _ hx))) (fun x hx=>by simpa using hlt x (List.mem_append_left _ hx))) ?_
  exact BN hl hg hk.2 h2 fun x hx=>hlt x (List.mem_append_right _ hx)
theorem LY (hl:laidOutB P=true){f:Func}{s:ChangeSpec}{W W':World}{args:Array Value}{ds gs:List (DataW H)}{before:List MemPlace}{t:TypeId}
  (hk:Of P f.params.toList=true) (hW:DataW.Whole enc P f.params.toList s.vars false W args.toList ds gs before)
  (hr:f.resultTypes= #[t]) (ht:P.underlying t=some .bool) (hv:s.vars=[]) (h1:(s.fn H (ds++gs)).results=[.lit (.bool true)]) (h2:(s.fn H (ds++gs)).args=ds) (h3:(s.fn H (ds++gs)).vars=[])
  (hg:Below W.heap.size W W'):s.post enc P f false true false false W args (.bool true) W':=by
 have hlt:=hW.lt
 have hW0:=hW
 obtain⟨p,q,hA,hV,rfl,_,_⟩:=hW
 rw[hv]at hV
 obtain⟨rfl,rfl⟩:=trodVars_none hV
 refine⟨ds,[],p++[],[],p,[],hW0,?_,?_,?_,?_,fun h=>by cases h⟩
 ·rw[h1,hr]
  exact trodAll_cons_mk (shut_bool ht _) trodAll_mk0
 ·rw[h2]
  exact BN hl hg hk hA fun x hx=>hlt x (by simpa using hx)
 ·rw[h3,hv]
  rfl
 ·exact World.keptBut_mono (fun x hx=>⟨hx,.inr (.inl (by simpa using hx))⟩) (hg.frame (· ∈p++[]))
end
end Go.Sx
end
section
namespace Go.Proofs.YtagjakphhkfofaaGreat.bulks
theorem one_le {H:Type}(d:DataW H):1≤Rows.uptoBulk d:=by
 cases d with
 |lit l=>cases l <;>simp[Rows.uptoBulk]
 |nil=>simp[Rows.uptoBulk]
 |ptr d=>simp[Rows.uptoBulk]
 |slice mU spare=>simp[Rows.uptoBulk]
 |agg parts=>simp[Rows.uptoBulk]
 |iface t d=>simp[Rows.uptoBulk]
 |map entries=>simp[Rows.uptoBulk]
 |held h=>simp[Rows.uptoBulk]
theorem part_le {H:Type}{d:DataW H}{l:List (DataW H)}(h:d∈l):Rows.uptoBulk d≤Rows.uptoBulkAll l:=by
 induction l with
 |nil=>cases h
 |cons x r ih=>
  simp only[Rows.uptoBulkAll]
  cases List.mem_cons.1 h with
  |inl e=>subst e;omega
  |inr e=>have:=ih e;omega
theorem append {H:Type}(l r:List (DataW H)):Rows.uptoBulkAll (l++r)=Rows.uptoBulkAll l+Rows.uptoBulkAll r:=by
 induction l with
 |nil=>simp[Rows.uptoBulkAll]
 |cons x l ih=>simp only[List.cons_append,Rows.uptoBulkAll,ih];omega
theorem length_le {H:Type}(l:List (DataW H)):l.length≤Rows.uptoBulkAll l:=by
 induction l with
 |nil=>simp[Rows.uptoBulkAll]
 |cons x r ih=>have:=one_le x;simp only[Rows.uptoBulkAll,List.length_cons];omega
theorem slice_le {H:Type}(mU spare:List (DataW H)):mU.length+spare.length+1≤Rows.uptoBulk (.slice mU spare):=by
 have h1:=length_le mU
 have h2:=length_le spare
 simp only[Rows.uptoBulk]
 omega
theorem slice_elems {H:Type}(mU spare:List (DataW H)):Rows.uptoBulkAll mU+1≤Rows.uptoBulk (.slice mU spare):=by
 simp only[Rows.uptoBulk]
 omega
theorem bound {H:Type}{l:List (DataW H)}(hk:Rows.uptoSmall H l=true):Rows.uptoBulkAll l≤1048576:=by
 simpa[Rows.uptoSmall]using hk
theorem room {n b:Nat}(hn:n≤2097152)(hb:b≤4096):(n+n / 4+192)*b≤281474976710656:=by
 have h:(n+n / 4+192)*b≤2621632*4096:=Nat.mul_le_mul (by omega) hb
 omega
end Go.Proofs.YtagjakphhkfofaaGreat.bulks
end
section
namespace Go.Proofs.YtagjakphhkfofaaGreat.timetableServedSpec
open Go.ChangeShapes Go.WideShapes Go.ChangeAt Go.RowKit Go.Sx
set_option linter.unusedVariables false
theorem con_eq (x0:Tag.district.T)(x1:List Tag.claim.T):fb [.agg (cellsOf .district x0),.rs .claim x1]=some (.det (dT x0 x1) (.v (.bool (dv x0 x1)))):=by
 unfold fb
 simp only[go_sem,Nat.reduceBEq]
theorem call_true {W:World}{cs0:Array Value}(h0:RC (fun _=>False) co W (c6 .district) cs0.toList){v1:Value}(h1:RC (fun _=>False) co W [.r .claim] [v1]):
  Calls Tryz.prog 4 #[.agg cs0,v1] W (fun e W'=>e=.returned (.bool true)∧Below W.heap.size W W'):=by
 obtain⟨x0,r0⟩:=Oe h0
 obtain⟨x1,r1⟩:=Rh h1
 refine(mS.calls _ _ (con_eq x0 x1) (I0 x0 x1) (fun _=>False) W _ (fun b h=>h.elim) ⟨rfl,fun j s hj=>?_⟩).mono fun e W' he=>?_
 ·match j,hj with
  |0,hj=>cases hj;exact r0
  |1,hj=>cases hj;exact r1
 ·rcases he with⟨s,u,own',hs,rfl,hh,hb⟩ | ⟨x,hx,_⟩
  ·simp only[c8]at hs
   subst hs
   rw[IZ x0 x1]at hh
   have:=hh.val
   simp only[ri]at this
   rw[bS this]
   exact⟨rfl,hb⟩
  ·exact hx.elim
theorem own:ownKnob Tryz.prog.godebug=none:=by kernel_rfl
theorem small (H:Type):Small (fun d:DataW H=>Rows.uptoBulk d≤1048576) where
 agg l h d hd:=by
  have h1:=bulks.part_le hd
  simp only[Rows.uptoBulk]at h
  omega
 slice l m h:=by
  have h1:=bulks.slice_le l m
  have h2:=bulks.slice_elems l m
  refine⟨by unfold a7;omega,fun d hd=>?_⟩
  have:=bulks.part_le hd
  omega
theorem laid:laidOutB Tryz.prog=true:=by kernel_rfl
set_option maxRecDepth 100000 in
theorem contract (H:Type)(enc:TypeId×Value→H)(W:World)(base:Nat)(args:Array Value)(ds gs:List (DataW H))(before:List MemPlace)
  (hval:∀ (j:Nat) t v,Tryz.f4.params[j]? =some t→args[j]? =some v→Value.okWide Tryz.prog W .any base t v)
  (hW:DataW.Whole enc Tryz.prog Tryz.f4.params.toList Rows.timetableServedSpecSpec.vars false W args.toList ds gs before) (hk:Rows.uptoSmall H (ds++gs)=true):
  Calls Tryz.prog 4 args W fun e W'=>∃ v,e=.returned v∧Rows.timetableServedSpecSpec.post enc Tryz.prog Tryz.f4 false true false false W args v W':=by
 have hW':=hW
 obtain⟨p,q,hA0,hV,rfl,hfz,hnd⟩:=hW
 have hA:DataW.TrodAll enc Tryz.prog W 0 (fun _=>true) true Tryz.f4.params.toList args.toList ds p:=hA0
 rw[Tryz.params4]at hA hval
 obtain⟨v0,vs0,d0,ds0,p0,q0,hargs,rfl,rfl,h0,r0⟩:=trodAll_cons hA
 obtain⟨v1,vs1,d1,ds1,p1,q1,rfl,rfl,rfl,h1,r1⟩:=trodAll_cons r0
 obtain⟨rfl,rfl,rfl⟩:=trodAll_nil r1
 obtain rfl:args= #[v0,v1]:=by cases args;simp_all
 obtain⟨rfl,rfl⟩:=trodVars_none hV
 have hb:=bulks.bound hk
 simp only[Rows.uptoBulkAll,List.append_nil,List.cons_append,List.nil_append]at hb
 have ho:∀ b,¬bR (fun _=>False) co b:=fun b h=>by
  rcases h with h| ⟨_,_,h,_⟩
  ·exact h
  ·cases h
 have s0:∃ cs,v0=.agg cs:=by
  have:=hval 0 31 v0 rfl rfl
  simp only[Value.okWide,Tryz.underlying31]at this
  exact⟨_,this.choose_spec.1⟩
 obtain⟨cs0,rfl⟩:=s0
 obtain⟨a1,l1,c1,rfl⟩:=okWide_slice Tryz.underlying32 (hval 1 32 v1 rfl rfl)
 have R0:RC (fun _=>False) co W (c6 .district) cs0.toList:=by
  obtain⟨f,hf⟩:=h0
  exact ox (n:=6) (t:=31) (small H) ho _ (by kernel_rfl) f _ _ hf (by show Rows.uptoBulk d0≤_;omega)
 have R1:RC (fun _=>False) co W [.r .claim] [.slice a1 l1 c1]:=by
  obtain⟨f,hf⟩:=h1
  exact ox (n:=6) (t:=32) (small H) ho _ (by kernel_rfl) f _ _ hf (by show Rows.uptoBulk d1≤_;omega)
 refine(call_true R0 R1).mono fun e W' ⟨he,hg⟩ =>?_
 subst he
 exact⟨_,rfl,LY laid (by kernel_rfl) hW' (by kernel_rfl) Tryz.underlying4 rfl rfl rfl rfl hg⟩
def zeroV:Kd→Value
 | .n k=>.int k 0
 | .b=>.bool false
 | .s=>.string (ByteArray.mk #[])
 | .r _=>.slice none 0 0
 | .m _ _=>.map none
def wit:Array Value:= #[.agg ((c6 .district).map zeroV).toArray,.slice none 0 0]
set_option maxRecDepth 100000 in
theorem lifted (os:Os)(started:os.Started)(H:Type)(enc:TypeId×Value→H)(F:Stop.Interp):
  ReturnsInHanded {} Tryz.checked os 4 .any ((Rows.OpenSpec.upto Rows.timetableServedSpecSpec).pre6 enc Tryz.prog Tryz.f4 Rows.timetableServedSpecUptoRow.domain false) (((Rows.OpenSpec.upto Rows.timetableServedSpecSpec).at F).post enc Tryz.prog Tryz.f4 false true false false):=by
 refine returnsInHanded_of_cond (C:=Tryz.checked) (s:=Rows.OpenSpec.upto Rows.timetableServedSpecSpec) (k:=Rows.uptoSmall) rfl own started (by kernel_rfl) Tryz.func4
  (OpenSpec.witness (enc:=enc) (C:=Tryz.checked) (s:=Rows.OpenSpec.upto Rows.timetableServedSpecSpec) (k:=Rows.uptoSmall) rfl false ⟨#[],wit,[]⟩ 8 (by kernel_rfl) (by kernel_rfl) (by kernel_rfl)
   (x:=(DataW.whole enc Tryz.prog (World.plainHolding Tryz.prog os ⟨#[],wit,[]⟩).memory Tryz.f4.params.toList Rows.timetableServedSpecSpec.vars false wit.toList 8).getD ([],[],[])) (by kernel_rfl) rfl (by kernel_rfl)) ?_
 intro W base args ds gs before hval hW _ hk _
 exact contract H enc W base args ds gs before hval hW hk
theorem over:Rows.timetableServedSpecUptoRow.holds Tryz.pinned (Rows.OpenSpec.upto Rows.timetableServedSpecSpec):=
 OpenClaim.holds_of_cond 4 Tryz.f4 rfl rfl rfl rfl rfl rfl rfl ⟨rfl,rfl,rfl,rfl,rfl⟩ rfl rfl rfl rfl rfl (by kernel_rfl) Tryz.func4 (by kernel_rfl)
  (of_decide_eq_true (by kernel_rfl)) (by unfold Func.isWrapper;first|(rw[if_pos (by decide+kernel)];kernel_rfl) |(rw[if_neg (by decide+kernel)];exact⟨rfl,rfl⟩))
  (fun os started H enc _ F=>lifted os started H enc F)
theorem proved:Rows.TimetableServedSpecUptoSaid:=over
end Go.Proofs.YtagjakphhkfofaaGreat.timetableServedSpec
end
