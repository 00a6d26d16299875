/- Part of the proof that the law ClaimsParts returns true and leaves its arguments as they were, for all arguments of bulk at most 1048576 (the Upto form). -/
import Derived.Test.YtgdkdhdlfdcefaaGreatC612
import Derived.Test.YtgdkdhdlfdcefaaGreatC609
import Derived.Test.YtgdkdhdlfdcefaaGreatC611
import Derived.Test.YtgdkdhdlfdcefaaGreatC608
import Derived.Test.YtgdkdhdlfdcefaaGreatC607
import Derived.Deep.Slices
import Derived.OpenShut
import Derived.ChangeSame
import Derived.WideKeyArgs
import Derived.Below
import Derived.Test.YtgdkdhdlfdcefaaGreatRows
import Derived.WalkKit
import Derived.ProofKit
import Derived.JoinedCond
import Derived.Carry
set_option linter.all false
set_option maxHeartbeats 4000000
section
namespace Go.Sx
open Go.Proofs
set_option maxRecDepth 100000
theorem xJ {ρ α β:Type}{step:Nat→List β→ρ⊕List β}(l:List α)(d:α)(f:α→Option β)(s0:List β)(h:∀ k s,k<l.length→step k s=.inr (s++(f (l.getD k d)).toList)):ap step l.length 0 s0=.inr (s0++l.filterMap f):=by
 obtain⟨r,h1,h2⟩:=ol (step:=step) (fun k s=>s=s0++(l.take k).filterMap f) l.length 0 s0 (by simp) (fun j s _ hj hs=>by
  rw[Nat.zero_add]at hj
  refine⟨_,h j s hj,?_⟩
  rw[cI l d hj,List.filterMap_append,hs,List.append_assoc]
  cases hc:f (l.getD j d)with
  |none=>rw[List.filterMap_cons_none hc];rfl
  |some c=>rw[List.filterMap_cons_some hc];rfl)
 rw[h1,h2,Nat.zero_add,List.take_length]
theorem AH {ρ α β:Type}{step:Nat→List β→ρ⊕List β}{p:Nat→List β→Prop}(l:List α)(d:α)(f:α→Option β)(s0:List β)(h:∀ k s,k<l.length→step k s=.inr (s++(f (l.getD k d)).toList))(hp:∀ k,k<l.length→p k (s0++(l.take k).filterMap f)):okI step p l.length 0 s0:=by
 refine vt (fun k s=>s=s0++(l.take k).filterMap f) _ _ _ (by simp) fun j s _ hj hs=>⟨by rw[hs];exact hp j (by omega),fun s' e=>?_⟩
 rw[h j s (by omega)]at e
 cases e
 rw[cI l d (by omega),List.filterMap_append,hs,List.append_assoc]
 cases hc:f (l.getD j d)with
 |none=>rw[List.filterMap_cons_none hc];rfl
 |some c=>rw[List.filterMap_cons_some hc];rfl
theorem rl {α β:Type}(l:List α)(f:α→Option β)(k:Nat):((l.take k).filterMap f).length≤(l.filterMap f).length:=by
 have:=congrArg List.length (congrArg (List.filterMap f) (List.take_append_drop k l))
 rw[List.filterMap_append,List.length_append]at this
 omega
theorem LU {α β:Type}(l:List α)(d:α)(f:α→Option β){k:Nat}(hk:k<l.length){c:β}(hc:f (l.getD k d)=some c):(l.filterMap f)[((l.take k).filterMap f).length]? =some c:=by
 have e:l=l.take k++l.getD k d::l.drop (k+1):=by
  rw[ig l d hk,←List.drop_eq_getElem_cons hk,List.take_append_drop]
 conv=>lhs;arg 1;rw[e]
 rw[List.filterMap_append,List.filterMap_cons_some hc]
 simp
theorem LV {β:Type}{step:Nat→List β×Int→List β⊕(List β×Int)}{p:Nat→List β×Int→Prop}(fr to:Int)(G:Int→List β)(h0:0≤fr)(h1:to<4096)(hft:fr≤to+1)
  (hs:∀ k s h,fr≤h→h≤to→step k (s,h)=.inr (s++G h,IntKind.i64.wrap (h+1))) (he:∀ k s h,to<h→step k (s,h)=.inl s)
  (hp:∀ k h,fr≤h→h≤to+1→p k ((hrs fr (h - 1)).flatMap G,h)):okI step p 4098 0 ([],fr)∧ap step 4098 0 ([],fr)=.inl ((hrs fr to).flatMap G):=by
 obtain⟨a,r,b,c⟩:=vb (step:=step) (p:=p) (fun s=>(to+1 - s.2).toNat) (fun s=>(fr≤s.2∧s.2≤to+1)∧s.1=(hrs fr (s.2 - 1)).flatMap G) (fun r=>r=(hrs fr to).flatMap G) (fun k s hJ=>by
  obtain⟨s,h⟩:=s
  obtain⟨⟨j1,j2⟩,j3⟩:=hJ
  simp only at j1 j2 j3
  subst j3
  refine⟨hp k h j1 j2,?_⟩
  by_cases hh:h≤to
  ·refine .inr ⟨_,hs k _ h j1 hh,?_⟩
   simp only
   rw[bq (by omega) (by omega)]
   refine⟨by omega,⟨by omega,by omega⟩,?_⟩
   rw[show h+1 - 1=(h - 1)+1 by omega,ta (by omega),List.flatMap_append,show h - 1+1=h by omega]
   simp
  ·refine .inl ⟨_,he k _ h (by omega),?_⟩
   rw[show h - 1=to by omega]) 4098 0 ([],fr) ⟨⟨Int.le_refl _,hft⟩,by rw[E4 (by simp only;omega)];rfl⟩ (by simp only;omega)
 exact⟨a,by rw[b,c]⟩
theorem zg {d:District}{x:Right}{h:Int}(ht:TakeR d x)(h0:0≤h)(h1:h<4096):(((decide (h<x.since)) ||(decide (h > x.to))) ||(decide ((Int.tmod (IntKind.i64.wrap (h - x.since)) x.every)≥x.length)))= !Jb x h:=by
 have:=ht.since0
 unfold Jb
 by_cases hs:x.since≤h
 ·rw[bq (by omega) (by omega),decide_eq_true hs,decide_eq_false (show ¬h<x.since by omega)]
  by_cases ht:h≤x.to
  ·rw[decide_eq_true ht,decide_eq_false (show ¬h > x.to by omega)]
   simp only[Bool.false_or,Bool.true_and]
   rw[←decide_not]
   exact decide_eq_decide.2 (by omega)
  ·rw[decide_eq_false ht,decide_eq_true (show h > x.to by omega)];rfl
 ·rw[decide_eq_false hs,decide_eq_true (show h<x.since by omega)];rfl
theorem Jf {α:Type}(l:List α)(d:α){k:Nat}(hk:k<l.length):l.getD k d∈l:=by rw[ig l d hk];exact List.getElem_mem hk
theorem Fd {d:District}{l:List Deed}{h k:Int}{j:Nat}(hj:j< (aj d l h k).1.length):((0≤((aj d l h k).1.getD j default).right∧((aj d l h k).1.getD j default).right< (d.rights.length:Int))∧(0≤h∧h<4096))∧TakeR d (d.rights.getD (Int.toNat ((aj d l h k).1.getD j default).right) default)∧(d.rights.getD (Int.toNat ((aj d l h k).1.getD j default).right) default).kind=1:=by
 obtain⟨a,⟨b1,b2⟩,c,e,f,g,i,m,n,o⟩:=Jc (Jf _ default hj)
 have:=(kJ (by rw[a];rfl)).hours
 exact⟨⟨⟨c,e⟩,b1,by omega⟩,DW a (by omega) o,o⟩
theorem AI (d:District)(l:List Deed)(h k:Int):dx d l h k=g5 d l h k∧gi d l h k ((dx d l h k).map ue):=by
 have hstep:∀ j s,j< (aj d l h k).1.length→d6 d l h k j s=.inr (s++(opn d h ((aj d l h k).1.getD j default)).toList):=fun j s hj=>by
  obtain⟨⟨⟨a,b⟩,c,e⟩,ht,_⟩:=Fd hj
  unfold d6 opn
  rw[zg ht c e]
  cases Jb (d.rights.getD (Int.toNat ((aj d l h k).1.getD j default).right) default) h <;>simp
 have hv:ap (d6 d l h k) ((aj d l h k).1).length 0 []=.inr (g5 d l h k):=by
  rw[xJ _ default (opn d h) [] hstep];rfl
 have e:dx d l h k=g5 d l h k:=by unfold dx;rw[hv]
 refine⟨e,(Co d l h k).1,fun _=>⟨AH _ default (opn d h) [] hstep fun j hj=>?_,fun s hs=>?_⟩⟩
 ·obtain⟨⟨⟨a,b⟩,c,f⟩,ht,_⟩:=Fd hj
  refine⟨⟨a,b⟩,fun _=>by have:=ht.every;omega,fun hc=>?_⟩
  rw[zg ht c f]at hc
  have hop:opn d h ((aj d l h k).1.getD j default)=some { right:=((aj d l h k).1.getD j default).right,farm:=((aj d l h k).1.getD j default).farm,hour:=h,litres:=((aj d l h k).1.getD j default).litres,rank:=((aj d l h k).1.getD j default).rank}:=by
   unfold opn;rw[if_pos (by simpa using hc)]
  rw[e,List.nil_append,List.getElem?_map]
  unfold g5
  rw[LU _ default (opn d h) hj hop]
  rfl
 ·rw[hv]at hs
  cases hs
  rw[e,List.length_map]
def Jg (d:District)(f h r:Int):Bool:= !(qm d f r h)
def Jh (d:District)(f:Int):List Int:=(cW d (d.farms.getD (Int.toNat f) default).reach).reverse
def LW (d:District)(f h:Int):Int:=((Jh d f).find? (Jg d f h)).getD (-1)
def fnd (d:District)(h:Int)(c:Claim):ClaimsFound:= { claim:=c,reach:=LW d c.farm h}
theorem LX {α:Type}(P:α→Bool)(K:List α)(x:α)(R:List α)(h1:P x=true)(h2:∀ y∈K,P y=false):(K++x::R).find? P=some x:=by
 induction K with
 |nil=>simp[h1]
 |cons y K ih=>rw[List.cons_append,List.find?_cons,h2 y (by simp)];exact ih fun z hz=>h2 z (by simp[hz])
theorem GG {d:District}{f:Int}(he:aC d=0)(h0:0≤f)(h1:f< (d.farms.length:Int)):PathOk d (d.farms.getD (Int.toNat f) default).reach:=by
 have hR:=kJ (by rw[he];rfl)
 have:=hR.farm f.toNat (by omega)
 exact⟨he,this.1,this.2⟩
theorem DX {d:District}{h:Int}{c:Claim}(hl:d.rights.length≤256)(l:List Int):(aU l (ba d h) c<0∧l.find? (Jg d c.farm h)=none)∨∃ j:Nat,j<l.length∧aU l (ba d h) c=(j:Int)∧l.find? (Jg d c.farm h)=some (l.getD j 0):=by
 have:=Cj (step:=dF l (ba d h) c) l 0 (Jg d c.farm h) (fun k hk=>by
  unfold dF lA Jg
  rw[OG d h c.farm _ hl])
 unfold aU
 rcases this with⟨e,hn⟩ | ⟨K,x,R,rfl,e,hx,hK⟩
 ·rw[e]
  exact .inl ⟨by decide,List.find?_eq_none.2 fun x hx=>by rw[hn x hx];simp⟩
 ·rw[e]
  refine .inr ⟨K.length,by simp,rfl,?_⟩
  rw[LX _ K x R hx hK,iR K x 0 R rfl]
def rU (d:District)(l:List Deed)(k fr to:Int):List ClaimsFound:=(hrs fr to).flatMap fun h=>(g5 d l h k).map (fnd d h)
def fa (d:District)(l:List Deed)(k fr to:Int):List ClaimsFound:=(hrs fr to).flatMap fun h=>(xG d l h k).map (fnd d h)
theorem LY {d:District}(l:List Deed)(k:Int)(s0:List ClaimsFound×Int){c:Claim}(hc:ClaimOk d s0.2 c)(s:List ClaimsFound):dK d l k s0 c s=.inr (s++[fnd d s0.2 c])∧((s.length+1)*48≤eZ→eA d l k s0 c s):=by
 have hR:=kJ (by rw[hc.exp];rfl)
 have hP:=GG hc.exp hc.f0 hc.f1
 have hpath:=xl hP
 unfold dK eA
 rw[hpath]
 simp only
 rcases DX (d:=d) (h:=s0.2) (c:=c) hR.rights (cW d (d.farms.getD (Int.toNat c.farm) default).reach).reverse with⟨hi,hf⟩ | ⟨j,hj,hi,hf⟩
 ·rw[decide_eq_false (show ¬_≥(0:Int) by omega)]
  refine⟨?_,fun hB=>⟨⟨hc.f0,hc.f1⟩,rh _ _,fun h=>by(first|done|cases h),fun _=>by rw[List.length_append];exact hB⟩⟩
  simp only[cond_false,fnd,LW,Jh,hf,Option.getD_none]
 ·rw[hi,decide_eq_true (show(j:Int)≥0 by omega)]
  refine⟨?_,fun hB=>⟨⟨hc.f0,hc.f1⟩,rh _ _,fun _=>⟨⟨by omega,by omega⟩,by rw[List.length_append];exact hB⟩,fun h=>by(first|done|cases h)⟩⟩
  simp only[cond_true,fnd,LW,Jh,hf,Option.getD_some,Int.toNat_natCast]
theorem DY {d:District}(l:List Deed)(k:Int)(s0:List ClaimsFound×Int):∀ (L:List Claim) (s:List ClaimsFound),(∀ c∈L,ClaimOk d s0.2 c)→dN (dK d l k s0) L s=.inr (s++L.map (fnd d s0.2))∧((s.length+L.length)*48≤eZ→okL (dK d l k s0) (eA d l k s0) L s)
 | [],s,_=>⟨by simp[dN],fun _=>trivial⟩
 |c::L,s,h=>by
  obtain⟨h1,h2⟩:=LY l k s0 (h c (by simp)) s
  obtain⟨h3,h4⟩:=DY l k s0 L (s++[fnd d s0.2 c]) fun x hx=>h x (by simp[hx])
  refine⟨?_,fun hB=>?_⟩
  ·rw[dN,h1]
   simp only
   rw[h3];simp
  ·rw[List.length_cons]at hB
   refine⟨h2 (by omega),fun s' e=>?_⟩
   rw[h1]at e
   cases e
   exact h4 (by rw[List.length_append,List.length_singleton];omega)
theorem xK {d:District}{l:List Deed}{k fr to:Int}:(rU d l k fr to).length≤(to+1 - fr).toNat*(600*d.rights.length):=by
 unfold rU
 have:=tl (fun h=>(g5 d l h k).map (fnd d h)) (600*d.rights.length) (hrs fr to) fun h _=>by rw[List.length_map];exact(GC d l h k).1
 rwa[LG]at this
theorem xL (d:District)(l:List Deed)(k fr to:Int):(rU d l k fr to).Perm (fa d l k fr to):=Gs fun h _=>(xI d l h k).symm.map _
theorem AJ (d:District)(l:List Deed)(k fr to:Int):(fa d l k fr to).Pairwise fun x y=>dB x y<0:=by
 unfold fa
 refine LH (OM fr to) (fun h _=>?_) fun a _ b _ hab x hx y hy=>?_
 ·rw[List.pairwise_map]
  exact(AG d l h k).imp fun {x y} hxy=>(xo _ _).2 hxy
 ·obtain⟨x',hx',rfl⟩:=List.mem_map.1 hx
  obtain⟨y',hy',rfl⟩:=List.mem_map.1 hy
  have h1:=(Cr hx').hour
  have h2:=(Cr hy').hour
  refine(xo _ _).2 ?_
  simp only[fnd,mj,lE,and_false,or_false];omega
def mn (d:District)(fr to k:Int):Prop:=(0≤fr∧fr≤to∧to<d.hours)∧0≤k∧k≤1048576
instance (d:District)(fr to k:Int):Decidable (mn d fr to k):=by unfold mn;infer_instance
def mo (d:District)(l:List Deed)(fr to k:Int):Int:=if aJ d l≠0 then aJ d l else if ¬mn d fr to k then 1 else if 4096< (to - fr+1)*(d.rights.length:Int)then 2 else 0
theorem OV (d:District)(fr to k:Int):(((((decide (fr<0)) ||(decide (fr > to))) ||(decide (to≥d.hours))) ||(decide (k<0))) ||(decide (k > 1048576)))= !decide (mn d fr to k):=by
 rw[Bool.eq_iff_iff,Bool.not_eq_true',decide_eq_false_iff_not]
 simp only[Bool.or_eq_true,decide_eq_true_eq]
 unfold mn
 omega
theorem OW {d:District}{fr to k:Int}(hR:Right1 d)(h:mn d fr to k):IntKind.i64.wrap ((IntKind.i64.wrap ((IntKind.i64.wrap (to - fr))+1))*(d.rights.length:Int))=(to - fr+1)*(d.rights.length:Int):=by
 obtain⟨⟨a,b,c⟩,e,f⟩:=h
 have h1:=hR.hours
 have h2:=hR.rights
 rw[bq (n:=to - fr) (by omega) (by omega),bq (n:=to - fr+1) (by omega) (by omega)]
 have h3:(to - fr+1)*(d.rights.length:Int)≤4096*256:=Int.mul_le_mul (by omega) (by omega) (by omega) (by omega)
 have h4:0≤(to - fr+1)*(d.rights.length:Int):=Int.mul_nonneg (by omega) (by omega)
 exact bq (by omega) (by omega)
theorem rV {d:District}{fr to k:Int}(h:mn d fr to k)(h4:¬4096< (to - fr+1)*(d.rights.length:Int)){n:Nat}(hn:n≤(to+1 - fr).toNat*(600*d.rights.length)):n≤2457600:=by
 obtain⟨⟨a,b,c⟩,e,f⟩:=h
 have e1:(((to+1 - fr).toNat*(600*d.rights.length):Nat):Int)=600*((to - fr+1)*(d.rights.length:Int)):=by
  push_cast
  rw[Int.toNat_of_nonneg (by omega),show to+1 - fr=to - fr+1 by omega]
  rw[←Int.mul_assoc,Int.mul_comm _ 600,Int.mul_assoc]
 omega
theorem Ji (d:District)(l:List Deed)(fr to k:Int):ik d l fr to k∧aB d l fr to k=if mo d l fr to k=0 then(fa d l k fr to,0)else([],mo d l fr to k):=by
 unfold ik aB mo
 rw[OV]
 by_cases hc:aJ d l=0
 ·rw[hc]
  simp only[bne_self_eq_false,cond_false,ne_eq,not_true,if_false]
  have hD:=p_ hc
  have hR:=hD.right
  by_cases ha:mn d fr to k
  ·rw[OW hR ha,decide_eq_true ha]
   simp only[Bool.not_true,cond_false,not_true,if_false]
   by_cases hb:4096< (to - fr+1)*(d.rights.length:Int)
   ·rw[decide_eq_true hb,if_pos hb]
    exact⟨⟨nL d l,fun _ _ _ h=>by cases h⟩,by rw[if_neg (not_not_intro ha)];rfl⟩
   ·rw[decide_eq_false hb,if_neg hb]
    simp only[cond_false,if_true]
    have hrun:=LV (step:=d9 d l to k) (p:=gj d l to k) fr to (fun h=>(g5 d l h k).map (fnd d h)) ha.1.1 (by have:=ha.1.2.2;have:=hR.hours;omega) (by have:=ha.1.2.1;omega)
     (fun j s h h1 h2=>by
      unfold d9
      simp only
      rw[decide_eq_true h2,(AI d l h k).1]
      simp only[cond_true]
      rw[(DY l k (s,h) (g5 d l h k) s fun c hc=>xE hc).1])
     (fun j s h h1=>by unfold d9;simp only;rw[decide_eq_false (by omega)];rfl)
     (fun j h h1 h2=>by
      unfold gj
      simp only
      intro hle
      have hle:h≤to:=of_decide_eq_true hle
      refine⟨(AI d l h k).2,?_⟩
      rw[(AI d l h k).1]
      refine(DY l k (_,h) (g5 d l h k) _ fun c hc=>xE hc).2 ?_
      have h3:((hrs fr (h - 1)).flatMap fun h=>(g5 d l h k).map (fnd d h)).length+(g5 d l h k).length=(rU d l k fr h).length:=by
       unfold rU
       have:=ta (a:=fr) (b:=h - 1) (by omega)
       rw[show h - 1+1=h by omega]at this
       rw[this,List.flatMap_append]
       simp
      have h4:(rU d l k fr h).length≤(to+1 - fr).toNat*(600*d.rights.length):=Nat.le_trans xK (Nat.mul_le_mul_right _ (by omega))
      have h5:=rV ha hb h4
      rw[h3]
      unfold eZ
      omega)
    obtain⟨r1,r2⟩:=hrun
    have hS:=DL y3 (xL d l k fr to) (AJ d l k fr to)
    have r2':ap (d9 d l to k) 4098 0 ([],fr)=.inl (rU d l k fr to):=r2
    rw[r2']
    simp only
    rw[hS.2]
    refine⟨⟨nL d l,fun _ _ _ _=>⟨r1,fun z hz=>by(first|done|cases hz),fun x hx=>?_⟩⟩,by rw[if_neg (not_not_intro ha)];rfl⟩
    cases hx
    exact hS.1
  ·rw[decide_eq_false ha,if_pos ha]
   simp only[Bool.not_false,cond_true]
   exact⟨⟨nL d l,fun _ h=>by cases h⟩,rfl⟩
 ·have hne:(aJ d l !=0)=true:=by simpa using hc
  rw[hne]
  simp only[cond_true,ne_eq,hc,not_false_eq_true,if_true,if_false]
  exact⟨⟨nL d l,fun h=>by cases h⟩,trivial⟩
end Go.Sx
end
section
namespace Go.Sx
open Go.Proofs
set_option maxRecDepth 100000
def ofF (x:ClaimsFound):Option Claim:=if x.reach<0 then some x.claim else none
def blF (x:ClaimsFound):Option Block:=if 0≤x.reach then some { right:=x.claim.right,farm:=x.claim.farm,hour:=x.claim.hour,reach:=x.reach}else none
def ofL (d:District)(l:List Deed)(k fr to:Int):List Claim:=(fa d l k fr to).filterMap ofF
def blL (d:District)(l:List Deed)(k fr to:Int):List Block:=(fa d l k fr to).filterMap blF
def lim {α:Type}(e:Int)(l:List α):List α×Int:=if e=0 then(if 4096<l.length then([],2)else(l,0))else([],e)
theorem xM {d:District}{l:List Deed}{fr to k:Int}(h:mo d l fr to k=0):(fa d l k fr to).length≤2457600:=by
 rw[←(xL d l k fr to).length_eq]
 unfold mo at h
 split at h
 ·rename_i h1;exact absurd h h1
 ·split at h
  ·cases h
  ·rename_i h2
   have h2:mn d fr to k:=Classical.not_not.1 h2
   split at h
   ·cases h
   ·rename_i h3
    exact rV h2 h3 xK
theorem oK (d:District)(l:List Deed)(fr to k:Int):ft d l fr to k∧av d l fr to k=lim (mo d l fr to k) (ofL d l k fr to):=by
 obtain⟨h1,h2⟩:=Ji d l fr to k
 by_cases he:mo d l fr to k=0
 ·rw[if_pos he]at h2
  have hlen:=xM he
  have hstep:∀ j s,j< (fa d l k fr to).length→jD d l fr to k j s=.inr (s++(ofF ((fa d l k fr to).getD j default)).toList):=fun j s hj=>by
   unfold jD ofF
   rw[h2]
   simp only
   by_cases hq:((fa d l k fr to).getD j default).reach<0
   ·rw[if_pos hq,decide_eq_true hq];rfl
   ·rw[if_neg hq,decide_eq_false hq];simp
  refine⟨⟨h1,fun _ _=>?_⟩,?_⟩
  ·rw[h2]
   refine AH (fa d l k fr to) default ofF [] hstep fun j hj=>?_
   intro _
   rw[h2]
   have:=rl (fa d l k fr to) ofF j
   have h3:=List.length_filterMap_le ofF (fa d l k fr to)
   rw[List.length_append,List.nil_append,List.length_singleton]
   unfold eZ
   omega
  ·unfold av lim
   have hrun:=xJ _ default ofF [] hstep
   rw[h2]
   simp only[bne_self_eq_false,cond_false]
   rw[hrun,if_pos he,List.nil_append]
   show(bif decide (((ofL d l k fr to).length:Int) > 4096)then([],2)else(ofL d l k fr to,0))=_
   by_cases hq:4096< (ofL d l k fr to).length
   ·rw[if_pos hq,decide_eq_true (by omega)];rfl
   ·rw[if_neg hq,decide_eq_false (by omega)];rfl
 ·rw[if_neg he]at h2
  have hne:((aB d l fr to k).2 !=0)=true:=by rw[h2];simpa using he
  refine⟨⟨h1,fun h=>by rw[hne]at h;cases h⟩,?_⟩
  unfold av lim
  rw[hne,h2,if_neg he];rfl
theorem Jj (d:District)(l:List Deed)(fr to k:Int):fM d l fr to k∧dS d l fr to k=lim (mo d l fr to k) (blL d l k fr to):=by
 obtain⟨h1,h2⟩:=Ji d l fr to k
 by_cases he:mo d l fr to k=0
 ·rw[if_pos he]at h2
  have hlen:=xM he
  have hstep:∀ j s,j< (fa d l k fr to).length→fu d l fr to k j s=.inr (s++(blF ((fa d l k fr to).getD j default)).toList):=fun j s hj=>by
   unfold fu blF
   rw[h2]
   simp only
   by_cases hq:0≤((fa d l k fr to).getD j default).reach
   ·rw[if_pos hq,decide_eq_true (show _≥(0:Int)from hq)];rfl
   ·rw[if_neg hq,decide_eq_false (show ¬_≥(0:Int)from hq)];simp
  refine⟨⟨h1,fun _ _=>?_⟩,?_⟩
  ·rw[h2]
   refine AH (fa d l k fr to) default blF [] hstep fun j hj=>?_
   intro _
   rw[h2]
   have:=rl (fa d l k fr to) blF j
   have h3:=List.length_filterMap_le blF (fa d l k fr to)
   rw[List.length_append,List.nil_append,List.length_singleton]
   unfold eZ
   omega
  ·unfold dS lim
   have hrun:=xJ _ default blF [] hstep
   rw[h2]
   simp only[bne_self_eq_false,cond_false]
   rw[hrun,if_pos he,List.nil_append]
   show(bif decide (((blL d l k fr to).length:Int) > 4096)then([],2)else(blL d l k fr to,0))=_
   by_cases hq:4096< (blL d l k fr to).length
   ·rw[if_pos hq,decide_eq_true (by omega)];rfl
   ·rw[if_neg hq,decide_eq_false (by omega)];rfl
 ·rw[if_neg he]at h2
  have hne:((aB d l fr to k).2 !=0)=true:=by rw[h2];simpa using he
  refine⟨⟨h1,fun h=>by rw[hne]at h;cases h⟩,?_⟩
  unfold dS lim
  rw[hne,h2,if_neg he];rfl
theorem Fe {α β γ:Type}(f:α→List β)(g:β→Option γ):∀ l:List α,(l.flatMap f).filterMap g=l.flatMap fun a=>(f a).filterMap g
 | [] =>rfl
 |a::l=>by rw[List.flatMap_cons,List.flatMap_cons,List.filterMap_append,Fe f g l]
def ofH (d:District)(l:List Deed)(k h:Int):List Claim:=(xG d l h k).filterMap fun c=>if LW d c.farm h<0 then some c else none
theorem DZ (d:District)(l:List Deed)(k fr to:Int):ofL d l k fr to=(hrs fr to).flatMap (ofH d l k):=by
 unfold ofL fa
 rw[Fe]
 congr 1
 funext h
 rw[List.filterMap_map]
 rfl
end Go.Sx
end
section
namespace Go.Sx
open Go.Proofs
set_option maxRecDepth 100000
theorem qt {d:District}{l:List Deed}{fr to k:Int}(h:mo d l fr to k=0):aJ d l=0∧mn d fr to k∧¬4096< (to - fr+1)*(d.rights.length:Int):=by
 unfold mo at h
 split at h
 ·rename_i h1;exact absurd h h1
 ·rename_i h1
  split at h
  ·cases h
  ·rename_i h2
   split at h
   ·cases h
   ·rename_i h3;exact⟨Classical.not_not.1 h1,Classical.not_not.1 h2,h3⟩
theorem Jk (a b:List Claim):jw a b:=fun _ _ h=>mF _ _ _ fun j _ _ hj _=>by
 simp only[bne_eq_false_iff_eq]at h
 omega
theorem zh (a:List Claim):jZ a a=true:=by
 unfold jZ
 have e:ap (iG a a) a.length 0 ()=.inr ():=gX.2 fun j _=>by
  unfold iG;simp
 rw[e];simp
theorem LZ (a b:List Block):eW a b:=fun _ _ h=>mF _ _ _ fun j _ _ hj _=>by
 simp only[bne_eq_false_iff_eq]at h
 omega
theorem xN (a:List Block):eM a a=true:=by
 unfold eM
 have e:ap (eE a a) a.length 0 ()=.inr ():=gX.2 fun j _=>by
  unfold eE;simp
 rw[e];simp
end Go.Sx
end
section
namespace Go.Sx
open Go.Proofs
set_option maxRecDepth 100000
set_option linter.unusedSimpArgs false
def bg:District:=({ name:=(ByteArray.mk #[]),hours:=4,tank:=({ cap:=100,start:=50}:Tank),reaches:=(([({ name:=(ByteArray.mk #[]),up:=(-1),delay:=1,cap:=20,bank:=50,siphon:=0,evap:=({ lo:=0,hi:=0}:Range),seep:=(({ n:=0,d:=1}:Ratio),({ n:=0,d:=1}:Ratio))}:Reach),({ name:=(ByteArray.mk #[]),up:=(-1),delay:=1,cap:=20,bank:=50,siphon:=0,evap:=({ lo:=0,hi:=0}:Range),seep:=(({ n:=0,d:=1}:Ratio),({ n:=0,d:=1}:Ratio))}:Reach)]).set 1 ({ name:=(([({ name:=(ByteArray.mk #[]),up:=(-1),delay:=1,cap:=20,bank:=50,siphon:=0,evap:=({ lo:=0,hi:=0}:Range),seep:=(({ n:=0,d:=1}:Ratio),({ n:=0,d:=1}:Ratio))}:Reach),({ name:=(ByteArray.mk #[]),up:=(-1),delay:=1,cap:=20,bank:=50,siphon:=0,evap:=({ lo:=0,hi:=0}:Range),seep:=(({ n:=0,d:=1}:Ratio),({ n:=0,d:=1}:Ratio))}:Reach)]).getD 1 (default:Reach)).name,up:=0,delay:=(([({ name:=(ByteArray.mk #[]),up:=(-1),delay:=1,cap:=20,bank:=50,siphon:=0,evap:=({ lo:=0,hi:=0}:Range),seep:=(({ n:=0,d:=1}:Ratio),({ n:=0,d:=1}:Ratio))}:Reach),({ name:=(ByteArray.mk #[]),up:=(-1),delay:=1,cap:=20,bank:=50,siphon:=0,evap:=({ lo:=0,hi:=0}:Range),seep:=(({ n:=0,d:=1}:Ratio),({ n:=0,d:=1}:Ratio))}:Reach)]).getD 1 (default:Reach)).delay,cap:=(([({ name:=(ByteArray.mk #[]),up:=(-1),delay:=1,cap:=20,bank:=50,siphon:=0,evap:=({ lo:=0,hi:=0}:Range),seep:=(({ n:=0,d:=1}:Ratio),({ n:=0,d:=1}:Ratio))}:Reach),({ name:=(ByteArray.mk #[]),up:=(-1),delay:=1,cap:=20,bank:=50,siphon:=0,evap:=({ lo:=0,hi:=0}:Range),seep:=(({ n:=0,d:=1}:Ratio),({ n:=0,d:=1}:Ratio))}:Reach)]).getD 1 (default:Reach)).cap,bank:=(([({ name:=(ByteArray.mk #[]),up:=(-1),delay:=1,cap:=20,bank:=50,siphon:=0,evap:=({ lo:=0,hi:=0}:Range),seep:=(({ n:=0,d:=1}:Ratio),({ n:=0,d:=1}:Ratio))}:Reach),({ name:=(ByteArray.mk #[]),up:=(-1),delay:=1,cap:=20,bank:=50,siphon:=0,evap:=({ lo:=0,hi:=0}:Range),seep:=(({ n:=0,d:=1}:Ratio),({ n:=0,d:=1}:Ratio))}:Reach)]).getD 1 (default:Reach)).bank,siphon:=(([({ name:=(ByteArray.mk #[]),up:=(-1),delay:=1,cap:=20,bank:=50,siphon:=0,evap:=({ lo:=0,hi:=0}:Range),seep:=(({ n:=0,d:=1}:Ratio),({ n:=0,d:=1}:Ratio))}:Reach),({ name:=(ByteArray.mk #[]),up:=(-1),delay:=1,cap:=20,bank:=50,siphon:=0,evap:=({ lo:=0,hi:=0}:Range),seep:=(({ n:=0,d:=1}:Ratio),({ n:=0,d:=1}:Ratio))}:Reach)]).getD 1 (default:Reach)).siphon,evap:=(([({ name:=(ByteArray.mk #[]),up:=(-1),delay:=1,cap:=20,bank:=50,siphon:=0,evap:=({ lo:=0,hi:=0}:Range),seep:=(({ n:=0,d:=1}:Ratio),({ n:=0,d:=1}:Ratio))}:Reach),({ name:=(ByteArray.mk #[]),up:=(-1),delay:=1,cap:=20,bank:=50,siphon:=0,evap:=({ lo:=0,hi:=0}:Range),seep:=(({ n:=0,d:=1}:Ratio),({ n:=0,d:=1}:Ratio))}:Reach)]).getD 1 (default:Reach)).evap,seep:=(([({ name:=(ByteArray.mk #[]),up:=(-1),delay:=1,cap:=20,bank:=50,siphon:=0,evap:=({ lo:=0,hi:=0}:Range),seep:=(({ n:=0,d:=1}:Ratio),({ n:=0,d:=1}:Ratio))}:Reach),({ name:=(ByteArray.mk #[]),up:=(-1),delay:=1,cap:=20,bank:=50,siphon:=0,evap:=({ lo:=0,hi:=0}:Range),seep:=(({ n:=0,d:=1}:Ratio),({ n:=0,d:=1}:Ratio))}:Reach)]).getD 1 (default:Reach)).seep}:Reach)),farms:=[({ name:=(ByteArray.mk #[]),reach:=1,area:=10,crop:=0}:Farm),({ name:=(ByteArray.mk #[]),reach:=1,area:=10,crop:=0}:Farm)],crops:=[({ name:=(ByteArray.mk #[]),need:=3}:Crop)],rights:=[({ name:=(ByteArray.mk #[]),kind:=1,farm:=0,reach:=0,rank:=7,litres:=5,since:=0,to:=3,every:=2,length:=1}:Right),({ name:=(ByteArray.mk #[]),kind:=2,farm:=1,reach:=1,rank:=0,litres:=0,since:=0,to:=3,every:=0,length:=0}:Right)],duties:=[],wells:=[]}:District)
def li:Prop:=(0≤1∧1< (([({ name:=(ByteArray.mk #[]),up:=(-1),delay:=1,cap:=20,bank:=50,siphon:=0,evap:=({ lo:=0,hi:=0}:Range),seep:=(({ n:=0,d:=1}:Ratio),({ n:=0,d:=1}:Ratio))}:Reach),({ name:=(ByteArray.mk #[]),up:=(-1),delay:=1,cap:=20,bank:=50,siphon:=0,evap:=({ lo:=0,hi:=0}:Range),seep:=(({ n:=0,d:=1}:Ratio),({ n:=0,d:=1}:Ratio))}:Reach)]).length:Int))
@[go_sem] def oL:List SV→Option Con:=(pE (.det (li) (.agg [.v (.string ((bg).name)),.v (.int .i64 ((bg).hours)),.v (.int .i64 ((bg).tank.cap)),.v (.int .i64 ((bg).tank.start)),.nw .reach ((bg).reaches),.nw .farm ((bg).farms),.nw .crop ((bg).crops),.nw .right ((bg).rights),.v (.slice none 0 0),.v (.slice none 0 0)])))
theorem uh:FnOk Tryz.prog 27 oL:=by
 have hG:ConsOk Tryz.prog (mkG [] []):=aw cg0 cg0
 refine oc [] mixed am hG (fn:=Tryz.f27) (c:=ae Tryz.f27) (by kernel_rfl) (by kernel_rfl) (by kernel_rfl) (by kernel_rfl) (aH (fun hp=>?_))
 dsimp only[aD]at hp
 unfold li at hp
 refine⟨Nat.le_of_ble_eq_true rfl,L0,ah _,?_⟩
 ·unfold ae Tryz.f27
  try unfold bg
  exact zq1
def jF:=([({ right:=0,farm:=0,hour:=2,litres:=5,rank:=7}:Claim)])
def jG:=([({ right:=0,farm:=0,hour:=0,litres:=0,rank:=7}:Claim)])
def jH:=([({ right:=0,farm:=0,hour:=0,reach:=1}:Block),({ right:=0,farm:=0,hour:=2,reach:=1}:Block)])
def g6:=(bg.rights++([({ name:=(ByteArray.mk #[]),kind:=3,farm:=0,reach:=1,rank:=0,litres:=0,since:=2,to:=3,every:=0,length:=0}:Right)]))
def c9:=({ name:=bg.name,hours:=bg.hours,tank:=bg.tank,reaches:=bg.reaches,farms:=bg.farms,crops:=bg.crops,rights:=bg.rights,duties:=[],wells:=[]}:District)
def cr:=(av c9 ([]) 0 4 0)
def ct:=(av c9 ([]) 0 3 0)
def fN:=(ct.1)
def cw:=(dS c9 ([]) 0 3 0)
def fO:=(cw.1)
def da:=(fN.length:Int)
def cm:=({ name:=bg.name,hours:=bg.hours,tank:=bg.tank,reaches:=bg.reaches,farms:=bg.farms,crops:=bg.crops,rights:=g6,duties:=[],wells:=[]}:District)
def dT:=(eM fO jH)
def g7:=(eW fO jH)
def cy:=(av cm ([]) 0 3 0)
def dy:=(cy.1)
def cN:=(dS cm ([]) 0 3 0)
def gq:=(cN.1)
def dL:=(jv cm jG)
def fA:=(jZ dy jF)
def iJ:=(eW gq ([({ right:=0,farm:=0,hour:=0,reach:=1}:Block)]))
def iK:=(jw dy jF)
def dc:=(jv cm dy)
def eK:=(dy++dy)
def fB:=(jv cm eK)
def iL:=(fI cm eK)
def j9:Bool:=(bif((((((((ct.2 !=0) ||(cw.2 !=0)) ||(cr.2 !=1)) ||(cy.2 !=0)) ||(cN.2 !=0)) ||(dc !=0)) ||(dL !=260)) ||(fB !=260))then false else((((da==0)&&dT)&&fA)&&(eM gq ([({ right:=0,farm:=0,hour:=0,reach:=1}:Block)]))))
def jI:Prop:=((li)∧((ft c9 ([]) 0 3 0)∧((fM c9 ([]) 0 3 0)∧((ft c9 ([]) 0 4 0)∧((g6.length*88≤eZ)∧(g6.length≤bp→((ft cm ([]) 0 3 0)∧((fM cm ([]) 0 3 0)∧(((((((ct.2 !=0) ||(cw.2 !=0)) ||(cr.2 !=1)) ||(cy.2 !=0)) ||(cN.2 !=0))=false→(fI cm dy))∧((((((((ct.2 !=0) ||(cw.2 !=0)) ||(cr.2 !=1)) ||(cy.2 !=0)) ||(cN.2 !=0)) ||(dc !=0))=false→(fI cm jG))∧(((((((((ct.2 !=0) ||(cw.2 !=0)) ||(cr.2 !=1)) ||(cy.2 !=0)) ||(cN.2 !=0)) ||(dc !=0)) ||(dL !=260))=true→(((((((((ct.2 !=0) ||(cw.2 !=0)) ||(cr.2 !=1)) ||(cy.2 !=0)) ||(cN.2 !=0)) ||(dc !=0)) ||(dL !=260))=false→iL)∧(((((((((ct.2 !=0) ||(cw.2 !=0)) ||(cr.2 !=1)) ||(cy.2 !=0)) ||(cN.2 !=0)) ||(dc !=0)) ||(dL !=260)) ||(fB !=260))=false→(fN.length≤bp→(((da==0)=true→g7)∧((((da==0)&&dT)=true→iK)∧((((da==0)&&dT)&&fA)=true→iJ)))))))∧((((((((ct.2 !=0) ||(cw.2 !=0)) ||(cr.2 !=1)) ||(cy.2 !=0)) ||(cN.2 !=0)) ||(dc !=0)) ||(dL !=260))=false→((eK.length*40≤eZ)∧(eK.length≤bp→(((((((((ct.2 !=0) ||(cw.2 !=0)) ||(cr.2 !=1)) ||(cy.2 !=0)) ||(cN.2 !=0)) ||(dc !=0)) ||(dL !=260))=false→iL)∧(((((((((ct.2 !=0) ||(cw.2 !=0)) ||(cr.2 !=1)) ||(cy.2 !=0)) ||(cN.2 !=0)) ||(dc !=0)) ||(dL !=260)) ||(fB !=260))=false→(fN.length≤bp→(((da==0)=true→g7)∧((((da==0)&&dT)=true→iK)∧((((da==0)&&dT)&&fA)=true→iJ))))))))))))))))))))
@[go_sem] def tn:List SV→Option Con:=(pE (.det (jI) (.v (.bool (j9)))))
theorem yj:FnOk Tryz.prog 10 tn:=by
 have hG:ConsOk Tryz.prog (mkG [(12,fun l=>p8 (du [.st .district,.sl .deed,.o,.o,.o] l)),(14,fun l=>nM (du [.st .district,.sl .deed,.o,.o,.o] l)),(16,fun l=>og (du [.sl .claim,.sl .claim] l)),(17,fun l=>mf (du [.sl .block,.sl .block] l)),(19,fun l=>pi (du [.st .district,.sl .claim] l)),(27,oL)] []):=aw (cgc (tb.norm [.st .district,.sl .deed,.o,.o,.o]) (cgc (td.norm [.st .district,.sl .deed,.o,.o,.o]) (cgc (qY.norm [.sl .claim,.sl .claim]) (cgc (qz.norm [.sl .block,.sl .block]) (cgc (u0.norm [.st .district,.sl .claim]) (cgc uh cg0)))))) cg0
 refine a7 [.o] mixed am hG (fn:=Tryz.f10) (c:=ae Tryz.f10) (by kernel_rfl) (by kernel_rfl) (by kernel_rfl) (by kernel_rfl) (aH (fun hp=>?_))
 dsimp only[aD]at hp
 unfold jI at hp
 try simp only[jF,jG,jH,g6,c9,cr,ct,fN,cw,fO,da,cm,dT,g7,cy,dy,cN,gq,dL,fA,iJ,iK,dc,eK,fB,iL]at hp
 refine⟨Nat.le_of_ble_eq_true rfl,L0,ah _,?_⟩
 ·unfold ae Tryz.f10
  try unfold j9
  simp (maxSteps:=1000000) only[go_sem,Nat.reduceBEq,Nat.reduceLeDiff,Nat.reduceLT,decide_true,Nat.reduceAdd,Nat.reduceSub,Nat.reduceMul,Int.reduceLE,Int.reduceLT,Int.reduceToNat,Int.reduceNeg,reduceCtorEq,jF,jG,jH,g6,c9,cr,ct,fN,cw,fO,da,cm,dT,g7,cy,dy,cN,gq,dL,fA,iJ,iK,dc,eK,fB,iL]
  all_goals exact cl
end Go.Sx
end
section
namespace Go.Sx
open Go.Proofs
set_option maxRecDepth 100000
structure FineC (d:District)(x:Claim):Prop where
 r0:0≤x.right
 r1:x.right< (d.rights.length:Int)
 f0:0≤x.farm
 f1:x.farm< (d.farms.length:Int)
 h0:0≤x.hour
 h1:x.hour<d.hours
 l0:1≤x.litres
 l1:x.litres≤1073741824
 kind:(d.rights.getD x.right.toNat default).kind=1
 rank:(d.rights.getD x.right.toNat default).rank=x.rank
def Jl (d:District)(x:Claim):Bool:=(((((((decide (x.right≥0))&&(decide (x.right< (d.rights.length:Int))))&&(decide (x.farm≥0)))&&(decide (x.farm< (d.farms.length:Int))))&&(decide (x.hour≥0)))&&(decide (x.hour<d.hours)))&&(decide (x.litres≥1)))&&(decide (x.litres≤1073741824))
theorem GH (d:District)(x:Claim):Jl d x=true↔(0≤x.right∧x.right< (d.rights.length:Int))∧(0≤x.farm∧x.farm< (d.farms.length:Int))∧(0≤x.hour∧x.hour<d.hours)∧(1≤x.litres∧x.litres≤1073741824):=by
 unfold Jl
 simp only[Bool.and_eq_true,decide_eq_true_eq]
 omega
theorem Jm (d:District)(c:List Claim):fI d c:=fun _ _ h _=>mF _ _ _ fun j _ _ hj=>by
 have hle:c.length≤4096:=by have:=of_decide_eq_false h;omega
 have h8:=GH d (c.getD j default)
 unfold Jl at h8
 unfold gF
 refine⟨fun h=>?_,fun h=>?_,fun h h0=>?_⟩
 ·rw[Bool.not_eq_false']at h
  exact(h8.1 h).1
 ·rw[Bool.or_eq_false_iff,Bool.not_eq_false']at h
  exact(h8.1 h.1).1
 ·have h0:=of_decide_eq_true h0
  rw[bq (by omega) (by omega)]
  omega
def ui (d:District)(l:List Deed)(k fr to:Int):List ClaimsFound:=(hrs fr to).flatMap fun h=>(((kP d (qa d l h k)).filterMap (opn d h)).foldl yi []).map (fnd d h)
theorem Cs {d:District}{l:List Deed}{k fr to:Int}(h:mo d l fr to k=0):fa d l k fr to=ui d l k fr to:=by
 obtain⟨hc,⟨⟨a,b,c⟩,e,f⟩,_⟩:=qt h
 unfold fa ui
 have:∀ L:List Int,(∀ x∈L,fr≤x∧x≤to)→(L.flatMap fun h=>(xG d l h k).map (fnd d h))=L.flatMap fun h=>(((kP d (qa d l h k)).filterMap (opn d h)).foldl yi []).map (fnd d h):=fun L=>by
  induction L with
  |nil=>intro _;rfl
  |cons x L ih=>
   intro hL
   have hx:=hL x (by simp)
   rw[List.flatMap_cons,List.flatMap_cons,ih fun y hy=>hL y (by simp[hy])]
   congr 2
   unfold xG g5
   rw[(Co d l x k).2,if_neg (by simp[hc]),if_pos (by omega)]
 exact this _ fun x hx=>LF.1 hx
theorem Fg {d:District}{l:List Deed}{k fr to:Int}{F:List ClaimsFound}(h:mo d l fr to k=0)(hF:ui d l k fr to=F)(h1:decide (4096< (F.filterMap ofF).length)=false):av d l fr to k=(F.filterMap ofF,0):=by
 rw[(oK d l fr to k).2]
 unfold lim ofL
 rw[Cs h,hF,if_pos h,if_neg (of_decide_eq_false h1)]
theorem Fh {d:District}{l:List Deed}{k fr to:Int}{F:List ClaimsFound}(h:mo d l fr to k=0)(hF:ui d l k fr to=F)(h1:decide (4096< (F.filterMap blF).length)=false):dS d l fr to k=(F.filterMap blF,0):=by
 rw[(Jj d l fr to k).2]
 unfold lim blL
 rw[Cs h,hF,if_pos h,if_neg (of_decide_eq_false h1)]
abbrev Ct (h:Int):Claim:= { right:=0,farm:=0,hour:=h,litres:=5,rank:=7}
theorem ex1:mo c9 [] 0 3 0=0:=by kernel_rfl
theorem ex2:ui c9 [] 0 0 3=[{ claim:=Ct 0,reach:=1},{ claim:=Ct 2,reach:=1}]:=by kernel_rfl
theorem ex3:mo cm [] 0 3 0=0:=by kernel_rfl
theorem ex4:ui cm [] 0 0 3=[{ claim:=Ct 0,reach:=1},{ claim:=Ct 2,reach:= -1}]:=by kernel_rfl
theorem s19:ct=([],0):=Fg ex1 ex2 (by kernel_rfl)
theorem s17:cw=([{ right:=0,farm:=0,hour:=0,reach:=1},{ right:=0,farm:=0,hour:=2,reach:=1}],0):=Fh ex1 ex2 (by kernel_rfl)
theorem s20:cr=([],1):=by
 have h:mo c9 [] 0 4 0=1:=by kernel_rfl
 unfold cr
 rw[(oK _ _ _ _ _).2]
 unfold lim
 rw[h];rfl
theorem s11:cy=([Ct 2],0):=Fg ex3 ex4 (by kernel_rfl)
theorem s9:cN=([{ right:=0,farm:=0,hour:=0,reach:=1}],0):=Fh ex3 ex4 (by kernel_rfl)
theorem s10:dy=[Ct 2]:=by unfold dy;rw[s11]
theorem s2:eK=[Ct 2,Ct 2]:=by unfold eK;rw[s10];rfl
theorem s3:dc=0:=by unfold dc;rw[s10];kernel_rfl
theorem s7:dL=260:=by kernel_rfl
theorem s1:fB=260:=by unfold fB;rw[s2];kernel_rfl
theorem s16:fO=[{ right:=0,farm:=0,hour:=0,reach:=1},{ right:=0,farm:=0,hour:=2,reach:=1}]:=by unfold fO;rw[s17]
theorem s8:gq=[{ right:=0,farm:=0,hour:=0,reach:=1}]:=by unfold gq;rw[s9]
theorem s13:dT=true:=by unfold dT;rw[s16];exact xN _
theorem s6:fA=true:=by unfold fA;rw[s10];exact zh _
theorem s15:da=0:=by unfold da fN;rw[s19];rfl
theorem OX:j9=true:=by
 unfold j9
 rw[s19,s17,s20,s11,s9,s3,s7,s1,s13,s6,s15,s8,xN]
 rfl
theorem Jn:jI:=by
 unfold jI iL g7 iK iJ
 refine⟨⟨by omega,of_decide_eq_true (by kernel_rfl)⟩,(oK _ _ _ _ _).1,(Jj _ _ _ _ _).1,(oK _ _ _ _ _).1,?_,fun _=>⟨(oK _ _ _ _ _).1,(Jj _ _ _ _ _).1,?_⟩⟩
 ·exact Nat.le_of_ble_eq_true (by kernel_rfl)
 ·simp only[Jm,LZ,Jk,true_and,and_true,implies_true,true_imp_iff]
  intro _
  rw[s2]
  exact Nat.le_of_ble_eq_true (by kernel_rfl)
end Go.Sx
end
section
namespace Go.Sx
open Go.Proofs
set_option maxRecDepth 100000
set_option linter.unusedSimpArgs false
end Go.Sx
end
section
namespace Go.Sx
@[go_sem] theorem Tb {te:TI}{nx:Nat}{h:List Ob}{s:SV}:io te nx h [.any,s]=.bad:=(rfl)
@[go_sem] theorem Vy {t:Tag}{f:List t.T→List SV→Option Con}{l:List SV}:pR t f (.any::l)=none:=(rfl)
end Go.Sx
end
section
namespace Go.Sx
open Go.Proofs
set_option maxRecDepth 100000
set_option linter.unusedSimpArgs false
def ew (a0:District)(a1:List Deed)(a2:Int)(a3:Int)(a4:Int)(a5:Int):Bool:=(bif(!j9)then false else(bif(((!(lK a0 a1 a2 a3)) ||(decide (a5<a2))) ||(decide (a5≥a3)))then true else(bif((av a0 a1 a2 a3 a4).2 !=0)then((((av a0 a1 a2 a3 a4).1).length:Int) ==0)else(bif(((av a0 a1 a2 a5 a4).2==0)&&((av a0 a1 (IntKind.i64.wrap (a5+1)) a3 a4).2==0))then(bif(((av a0 a1 a2 a5 a4).2==0)&&((av a0 a1 (IntKind.i64.wrap (a5+1)) a3 a4).2==0))then((((av a0 a1 a2 a5 a4).2==0)&&((av a0 a1 (IntKind.i64.wrap (a5+1)) a3 a4).2==0))&&(jZ ((av a0 a1 a2 a3 a4).1) ((([])++((av a0 a1 a2 a5 a4).1))++((av a0 a1 (IntKind.i64.wrap (a5+1)) a3 a4).1))))else false)else false))))
def dU (a0:District)(a1:List Deed)(a2:Int)(a3:Int)(a4:Int)(a5:Int):Prop:=((jI)∧((!j9)=false→((((!(lK a0 a1 a2 a3)) ||(decide (a5<a2))) ||(decide (a5≥a3)))=false→((ft a0 a1 a2 a3 a4)∧(((av a0 a1 a2 a3 a4).2 !=0)=false→((ft a0 a1 a2 a5 a4)∧((ft a0 a1 (IntKind.i64.wrap (a5+1)) a3 a4)∧(((((av a0 a1 a2 a5 a4).2==0)&&((av a0 a1 (IntKind.i64.wrap (a5+1)) a3 a4).2==0))=true→(((([])++((av a0 a1 a2 a5 a4).1)).length*40≤eZ)∧((([])++((av a0 a1 a2 a5 a4).1)).length≤bp→(((((av a0 a1 a2 a5 a4).2==0)&&((av a0 a1 (IntKind.i64.wrap (a5+1)) a3 a4).2==0))=true→((((([])++((av a0 a1 a2 a5 a4).1))++((av a0 a1 (IntKind.i64.wrap (a5+1)) a3 a4).1)).length*40≤eZ)∧(((([])++((av a0 a1 a2 a5 a4).1))++((av a0 a1 (IntKind.i64.wrap (a5+1)) a3 a4).1)).length≤bp→((((av a0 a1 a2 a5 a4).2==0)&&((av a0 a1 (IntKind.i64.wrap (a5+1)) a3 a4).2==0))=true→(jw ((av a0 a1 a2 a3 a4).1) ((([])++((av a0 a1 a2 a5 a4).1))++((av a0 a1 (IntKind.i64.wrap (a5+1)) a3 a4).1)))))))∧((((av a0 a1 a2 a5 a4).2==0)&&((av a0 a1 (IntKind.i64.wrap (a5+1)) a3 a4).2==0))=false→((((av a0 a1 a2 a5 a4).2==0)&&((av a0 a1 (IntKind.i64.wrap (a5+1)) a3 a4).2==0))=false))))))∧((((av a0 a1 a2 a5 a4).2==0)&&((av a0 a1 (IntKind.i64.wrap (a5+1)) a3 a4).2==0))=false→((((av a0 a1 a2 a5 a4).2==0)&&((av a0 a1 (IntKind.i64.wrap (a5+1)) a3 a4).2==0))=false))))))))))
@[go_sem] def iy:List SV→Option Con:=(pD .district fun a0=>(pR .deed fun a1=>(pI fun a2=>(pI fun a3=>(pI fun a4=>(pI fun a5=>(pE (.det (dU a0 a1 a2 a3 a4 a5) (.v (.bool (ew a0 a1 a2 a3 a4 a5)))))))))))
theorem qb:FnOk Tryz.prog 8 iy:=by
 have hG:ConsOk Tryz.prog (mkG [(10,tn),(11,fun l=>uD (du [.st .district,.sl .deed,.o,.o] l)),(12,fun l=>p8 (du [.st .district,.sl .deed,.o,.o,.o] l)),(16,fun l=>og (du [.sl .claim,.sl .claim] l))] []):=aw (cgc yj (cgc (Ah.norm [.st .district,.sl .deed,.o,.o]) (cgc (tb.norm [.st .district,.sl .deed,.o,.o,.o]) (cgc (qY.norm [.sl .claim,.sl .claim]) cg0)))) cg0
 refine a7 [.o] mixed am hG (fn:=Tryz.f8) (c:=ae Tryz.f8) (by kernel_rfl) (by kernel_rfl) (by kernel_rfl) (by kernel_rfl) (a8 fun a0=>(dY fun a1=>(bZ fun a2=>(bZ fun a3=>(bZ fun a4=>(bZ fun a5=>(aH (fun hp=>?_))))))))
 dsimp only[aD]at hp
 unfold dU at hp
 refine⟨Nat.le_of_ble_eq_true rfl,L0,ah _,?_⟩
 ·unfold ae Tryz.f8
  try unfold ew
  exact zq1
end Go.Sx
end
section
namespace Go.Sx
open Go.Proofs
theorem GI {d:District}{l:List Deed}{fr to k:Int}(h1:aJ d l=0)(h2:mn d fr to k)(h3:¬4096< (to - fr+1)*(d.rights.length:Int)):mo d l fr to k=0:=by
 unfold mo
 rw[if_neg (not_not_intro h1),if_neg (not_not_intro h2),if_neg h3]
theorem zi {d:District}{l:List Deed}{fr to fr' to' k:Int}(h:mo d l fr to k=0)(h1:fr≤fr')(h2:fr'≤to')(h3:to'≤to):mo d l fr' to' k=0:=by
 obtain⟨hc,⟨⟨a,b,c⟩,e,f⟩,hb⟩:=qt h
 refine GI hc ⟨⟨by omega,h2,by omega⟩,e,f⟩ fun hh=>hb (Int.lt_of_lt_of_le hh ?_)
 exact Int.mul_le_mul_of_nonneg_right (by omega) (by omega)
theorem zj (d:District)(l:List Deed)(fr to k m:Int):dU d l fr to k m∧ew d l fr to k m=true:=by
 have hP:(((!(lK d l fr to)) ||(decide (m<fr))) ||(decide (m≥to)))=false→(av d l fr to k).2=0→(av d l fr m k).2=0∧(av d l (IntKind.i64.wrap (m+1)) to k).2=0∧(av d l fr to k).1=(av d l fr m k).1++(av d l (IntKind.i64.wrap (m+1)) to k).1∧(av d l fr to k).1.length≤4096:=by
  intro h he
  simp only[Bool.or_eq_false_iff,decide_eq_false_iff_not]at h
  obtain⟨⟨_,h1⟩,h2⟩:=h
  rw[(oK d l fr to k).2]at he ⊢
  unfold lim at he ⊢
  by_cases e0:mo d l fr to k=0
  ·rw[if_pos e0]at he ⊢
   by_cases hb:4096< (ofL d l k fr to).length
   ·rw[if_pos hb]at he;cases he
   ·rw[if_neg hb]
    have hr:=(qt e0).2.1.1
    have hh:=(p_ (qt e0).1).right.hours
    rw[bq (n:=m+1) (by omega) (by omega),(oK d l fr m k).2,(oK d l (m+1) to k).2]
    unfold lim
    rw[zi (fr':=fr) (to':=m) e0 (by omega) (by omega) (by omega),zi (fr':=m+1) (to':=to) e0 (by omega) (by omega) (by omega)]
    have hs:ofL d l k fr to=ofL d l k fr m++ofL d l k (m+1) to:=by
     rw[DZ,DZ,DZ,Gr (m:=m) (by omega) (by omega),List.flatMap_append]
    have hl:=congrArg List.length hs
    rw[List.length_append]at hl
    rw[if_pos rfl,if_neg (by omega),if_pos rfl,if_neg (by omega)]
    exact⟨rfl,rfl,hs,by simp only;omega⟩
  ·rw[if_neg e0]at he;exact absurd he e0
 have hE:∀ a b,(av d l a b k).2≠0→(av d l a b k).1=[]:=fun a b=>by
  rw[(oK d l a b k).2]
  unfold lim
  intro h
  by_cases e0:mo d l a b k=0
  ·rw[if_pos e0]at h ⊢
   by_cases hb:4096< (ofL d l k a b).length
   ·rw[if_pos hb]
   ·rw[if_neg hb]at h;exact absurd rfl h
  ·rw[if_neg e0]
 unfold dU ew
 rw[OX]
 refine⟨⟨Jn,fun _ hf=>⟨(oK _ _ _ _ _).1,fun h0=>⟨(oK _ _ _ _ _).1,(oK _ _ _ _ _).1,?_⟩⟩⟩,?_⟩
 ·have h0:(av d l fr to k).2=0:=by simpa using h0
  obtain⟨p1,p2,p3,p4⟩:=hP hf h0
  rw[p3,List.length_append]at p4
  simp only[List.nil_append,List.length_append]
  unfold eZ
  refine⟨fun _=>⟨by omega,fun _=>⟨fun _=>⟨by omega,fun _ _=>Jk _ _⟩,id⟩⟩,id⟩
 ·simp only[Bool.not_true,cond_false]
  cases hf:(((!(lK d l fr to)) ||(decide (m<fr))) ||(decide (m≥to)))with
  |true=>rfl
  |false=>
   simp only[cond_false]
   by_cases h0:(av d l fr to k).2=0
   ·obtain⟨p1,p2,p3,p4⟩:=hP hf h0
    rw[h0,p1,p2,List.nil_append,←p3,zh]
    rfl
   ·rw[show((av d l fr to k).2 !=0)=true by simpa using h0,hE fr to h0]
    rfl
theorem Jo (d:District)(l:List Deed)(fr to k m:Int)(_: -9223372036854775808≤fr∧fr≤9223372036854775807)(_: -9223372036854775808≤to∧to≤9223372036854775807)(_: -9223372036854775808≤k∧k≤9223372036854775807)(_: -9223372036854775808≤m∧m≤9223372036854775807):dU d l fr to k m:=(zj d l fr to k m).1
theorem Jp (d:District)(l:List Deed)(fr to k m:Int)(_: -9223372036854775808≤fr∧fr≤9223372036854775807)(_: -9223372036854775808≤to∧to≤9223372036854775807)(_: -9223372036854775808≤k∧k≤9223372036854775807)(_: -9223372036854775808≤m∧m≤9223372036854775807):ew d l fr to k m=true:=(zj d l fr to k m).2
end Go.Sx
end
section
namespace Go.Sx
open Go.RowKit Go.Deep
section
variable {F:Nat→Prop}{own:Own}{w:World}
def RC (F:Nat→Prop)(own:Own)(w:World)(ks:List Kd)(cs:List Value):Prop:=
 ∃ l:List SV,mX ks l=true∧l.length=cs.length∧∀ (j:Nat) (s:SV) (v:Value),l[j]? =some s→cs[j]? =some v→Rel F own w s v
theorem Cu:∀ {a b:List Kd} {l m:List SV},mX a l=true→mX b m=true→mX (a++b) (l++m)=true
 | [],b,l,m,h1,h2=>by rw[nk h1];exact h2
 |k::a,b,l,m,h1,h2=>by
  obtain⟨x,r,rfl,e1,e2⟩:=jP h1
  simp only[List.cons_append,mX,e1,Cu e2 h2,Bool.and_self]
theorem RC.nil:RC F own w [] []:=⟨[],rfl,rfl,fun j s v h=>by cases h⟩
theorem RC.app {a b:List Kd}{c d:List Value}(h1:RC F own w a c)(h2:RC F own w b d):RC F own w (a++b) (c++d):=by
 obtain⟨l,f1,n1,r1⟩:=h1
 obtain⟨m,f2,n2,r2⟩:=h2
 refine⟨l++m,Cu f1 f2,by simp[n1,n2],fun j s v hs hv=>?_⟩
 by_cases hj:j<l.length
 ·rw[List.getElem?_append_left hj]at hs
  rw[List.getElem?_append_left (by omega)]at hv
  exact r1 j s v hs hv
 ·rw[List.getElem?_append_right (by omega)]at hs
  rw[List.getElem?_append_right (by omega),←n1]at hv
  exact r2 _ s v hs hv
theorem RC.one {k:Kd}{s:SV}{v:Value}(h1:fit k s=true)(h2:Rel F own w s v):RC F own w [k] [v]:=
 ⟨[s],by simp[mX,h1],rfl,fun j s' v' hs hv=>by
  cases j with
  |zero=>simp only[List.getElem?_cons_zero,Option.some.injEq]at hs hv;subst hs;subst hv;exact h2
  |succ j=>simp at hs⟩
end
def OY:Kd→Kd→Bool
 | .s,.s=>true
 | .b,.b=>true
 | .n a,.n b=>decide (a=b)
 | .r a,.r b=>decide (a=b)
 | .m a c,.m b d=>decide (a=b)&&decide (c=d)
 |_,_=>false
theorem L1:∀ {a b:Kd},OY a b=true→a=b:=by
 intro a b h
 cases a <;>cases b <;>simp_all [OY]
def Jq:List Kd→List Kd→Bool
 | [],[] =>true
 |a::l,b::m=>OY a b&&Jq l m
 |_,_=>false
theorem Fi:∀ {a b:List Kd},Jq a b=true→a=b
 | [],[],_=>rfl
 |a::l,b::m,h=>by
  simp only[Jq,Bool.and_eq_true]at h
  rw[L1 h.1,Fi h.2]
def xO (P:Program)(g:TypeId→Option (List Kd)):List Field→Nat→Nat→Option (List Kd)
 | [],off,tot=>bif Nat.beq off tot then some []else none
 |f::r,off,tot=>match g f.type with
  |some a=>bif Nat.beq f.offset off&&Nat.beq a.length (P.cellsOf f.type)then(xO P g r (off+a.length) tot).map (a++ ·)else none
  |none=>none
def D0 (a:List Kd):Nat→List Kd
 |0=>[]
 |n+1=>a++D0 a n
def xP (P:Program):Nat→TypeId→Option (List Kd)
 |0,_=>none
 |n+1,t=>match P.underlying t with
  |some .bool=>some [.b]
  |some (.int k) =>some [.n k]
  |some .string=>some [.s]
  |some (.slice e) =>match AP P e,xP P n e with
   |some k,some ks=>bif Jq ks (cK k)&&Nat.beq (P.cellsOf e) (aa k)&&Nat.ble 1 (aa k)then some [.r k]else none
   |_,_=>none
  |some (.struct fs) =>xO P (xP P n) fs.toList 0 (P.cellsOf t)
  |some (.array m e) =>match xP P n e with
   |some a=>bif Nat.beq a.length (P.cellsOf e)&&Nat.beq (P.cellsOf t) (m*a.length)then some (D0 a m)else none
   |none=>none
  |_=>none
section
variable {H:Type}{enc:TypeId×Value→H}{P:Program}{F:Nat→Prop}{own:Own}{w:World}{base:Nat}{spare:Nat→Bool}{held:Bool}{S:DataW H→Prop}
theorem Fj {g:TypeId→Option (List Kd)}(hg:∀ t ks,g t=some ks→∀ (fuel:Nat) (cs:List Value) (x:DataW H×List MemPlace),DataW.trod enc P w base spare held fuel t cs=some x→S x.1→RC F own w ks cs)
  (fuel:Nat) (cs:List Value):∀ (fs:List Field) (off:Nat) (ks:List Kd),xO P g fs off cs.length=some ks→(∀ f∈fs,∃ x,DataW.trod enc P w base spare held fuel f.type ((cs.drop f.offset).take (P.cellsOf f.type))=some x∧S x.1)→RC F own w ks (cs.drop off)
 | [],off,ks,h,_=>by
  unfold xO at h
  cases hb:Nat.beq off cs.length with
  |false=>rw[hb]at h;cases h
  |true=>
   rw[hb]at h
   have:off=cs.length:=Nat.eq_of_beq_eq_true hb
   subst this
   cases h
   rw[List.drop_length]
   exact RC.nil
 |f::r,off,ks,h,hx=>by
  unfold xO at h
  cases ha:g f.type with
  |none=>rw[ha]at h;cases h
  |some a=>
   rw[ha]at h
   dsimp only at h
   cases hb:Nat.beq f.offset off&&Nat.beq a.length (P.cellsOf f.type)with
   |false=>rw[hb]at h;cases h
   |true=>
    rw[hb]at h
    simp only[cond_true,Option.map_eq_some_iff]at h
    obtain⟨ks2,h2,rfl⟩:=h
    rw[Bool.and_eq_true]at hb
    have e1:f.offset=off:=Nat.eq_of_beq_eq_true hb.1
    have e2:a.length=P.cellsOf f.type:=Nat.eq_of_beq_eq_true hb.2
    obtain⟨x,hx1,hs1⟩:=hx f (by simp)
    have h3:=hg _ _ ha _ _ _ hx1 hs1
    have h4:=Fj hg fuel cs r (off+a.length) ks2 h2 fun f hf=>hx f (by simp[hf])
    have:=h3.app h4
    rw[e1,←e2]at this
    rwa[←List.drop_drop,List.take_append_drop]at this
theorem Fk {e:TypeId}{a:List Kd}(ha:∀ (fuel:Nat) (cs:List Value) (x:DataW H×List MemPlace),DataW.trod enc P w base spare held fuel e cs=some x→S x.1→RC F own w a cs)
  (fuel:Nat):∀ (m:Nat) (cs:List Value),cs.length=m*a.length→(∀ i,i<m→∃ x,DataW.trod enc P w base spare held fuel e ((cs.drop (i*a.length)).take a.length)=some x∧S x.1)→RC F own w (D0 a m) cs
 |0,cs,h,_=>by
  have:cs=[]:=by simpa using h
  subst this
  exact RC.nil
 |m+1,cs,h,hx=>by
  obtain⟨x,hx1,hs1⟩:=hx 0 (by omega)
  rw[Nat.zero_mul,List.drop_zero]at hx1
  have h3:=ha _ _ _ hx1 hs1
  have h4:=Fk ha fuel m (cs.drop a.length) (by rw[List.length_drop,h,Nat.succ_mul];omega) fun i hi=>by
   obtain⟨x,hx2,hs2⟩:=hx (i+1) (by omega)
   refine⟨x,?_,hs2⟩
   rw[List.drop_drop]
   rwa[Nat.succ_mul,Nat.add_comm]at hx2
  have:=h3.app h4
  rwa[List.take_append_drop]at this
structure Small (S:DataW H→Prop):Prop where
 agg:∀ l,S (.agg l)→∀ d∈l,S d
 slice:∀ l m,S (.slice l m)→l.length≤bp∧∀ d∈l,S d
theorem mq (hS:Small S)(hown:∀ b,¬bR F own b):∀ (n:Nat) (t:TypeId) (ks:List Kd),xP P n t=some ks→∀ (fuel:Nat) (cs:List Value) (x:DataW H×List MemPlace),DataW.trod enc P w base spare held fuel t cs=some x→S x.1→RC F own w ks cs
 |0,_,_,h,_,_,_,_,_=>by cases h
 |n+1,t,ks,h,fuel,cs,x,hx,hs=>by
  unfold xP at h
  split at h
  ·rename_i ht
   cases h
   obtain⟨b,rfl,rfl⟩:=DataW.trod_bool ht hx
   exact RC.one (s:=.v (.bool b)) rfl (.v _)
  ·rename_i k ht
   cases h
   obtain⟨m,rfl,rfl,_⟩:=DataW.trod_int ht hx
   exact RC.one (s:=.v (.int k m)) (by simp[fit]) (.v _)
  ·rename_i ht
   cases h
   obtain⟨b,rfl,rfl,_⟩:=DataW.trod_string ht hx
   exact RC.one (s:=.v (.string b)) rfl (.v _)
  ·rename_i e ht
   split at h
   ·rename_i k ks2 hk hks
    cases hb:Jq ks2 (cK k)&&Nat.beq (P.cellsOf e) (aa k)&&Nat.ble 1 (aa k)with
    |false=>rw[hb]at h;cases h
    |true=>
     rw[hb]at h
     cases h
     simp only[Bool.and_eq_true]at hb
     have e1:=Fi hb.1.1
     have e2:P.cellsOf e=aa k:=Nat.eq_of_beq_eq_true hb.1.2
     have e3:1≤aa k:=Nat.le_of_ble_eq_true hb.2
     subst e1
     rcases open_slice ht hx with⟨rfl,rfl⟩ | ⟨a,len,cap,m,f2,D,Pl,rfl,hb1,hl,hm,hmm,rfl,hel⟩
     ·exact RC.one (s:=.rs k []) (by simp[fit]) .rs0
     ·have hlm:len≤m:=by subst hmm;split <;>omega
      obtain⟨hs1,hs2⟩:=hS.slice _ _ hs
      simp only[List.length_map,List.length_range]at hs1
      have helt:∀ i,i<len→∃ cs',cs'.length=aa k∧(∀ j v,cs'[j]? =some v→w.cell? ((a.add (i*aa k)).add j)=some v)∧RC F own w (cK k) cs':=fun i hi=>by
       obtain⟨cs',h1,h2⟩:=hel i (by omega)
       have h3:=mq hS hown n e (cK k) hks f2 cs' _ h2 (hs2 _ (List.mem_map_of_mem (List.mem_range.2 hi)))
       unfold World.cells? at h1
       split at h1
       ·refine⟨cs',by rw[mapM_some_length h1,List.length_range,e2],fun j v hj=>?_,h3⟩
        have hlt:j<P.cellsOf e:=by
         have:=(List.getElem?_eq_some_iff.1 hj).1
         rwa[mapM_some_length h1,List.length_range]at this
        have:=mapM_some_get h1 j j (by simp[hlt])
        rw[e2]at this
        rw[this,hj]
       ·cases h1
      by_cases h0:len=0
      ·subst h0
       exact RC.one (s:=.rs k []) (by simp[fit]) .rs0
      ·have hsp:a.spot=none:=by
        obtain⟨cs',h1,h2,_⟩:=helt 0 (by omega)
        have:=h2 0 (cs'[0]'(by omega)) (by rw[List.getElem?_eq_getElem])
        rw[Nat.zero_mul]at this
        simp only[Addr.add,if_true]at this
        unfold World.cell? at this
        split at this
        ·cases hsp:a.spot with
         |none=>rfl
         |some q=>rw[hsp]at this;simp at this
        ·cases this
       obtain⟨ab,ao,asp⟩:=a
       dsimp only at hsp
       subst hsp
       haveI:Inhabited k.T:=⟨cP k⟩
       obtain⟨X,hX⟩:=choose_lt (p:=fun i (x:k.T) =>∀ (j:Nat) (s:SV),(cellsOf k x)[j]? =some s→∃ v,w.cell? ⟨ab,ao+i*aa k+j,none⟩=some v∧Rel F own w s v) (n:=len) fun i hi=>by
        obtain⟨cs',h1,h2,l,h3,h4,h5⟩:=helt i hi
        refine⟨mkE k l,fun j s hj=>?_⟩
        rw[kA (k:=k) (l:=l) (x:=mkE k l) (by unfold lO;rw[h3];rfl)]at hj
        have hlt:j<cs'.length:=by
         have:=(List.getElem?_eq_some_iff.1 hj).1
         omega
        refine⟨cs'[j],?_,h5 j s _ hj (List.getElem?_eq_getElem hlt)⟩
        have:=h2 j cs'[j] (List.getElem?_eq_getElem hlt)
        have hadd:∀ p q,((⟨ab,ao,none⟩:Addr).add p).add q=⟨ab,ao+p+q,none⟩:=fun p q=>by
         unfold Addr.add
         by_cases hp:p=0 <;>by_cases hq:q=0 <;>simp[hp,hq]
        rwa[hadd]at this
       have hL:((List.range len).map X).length=len:=by simp
       refine RC.one (s:=.rs k ((List.range len).map X)) (by simp[fit]) ?_
       have hget:∀ (i:Nat) (x:k.T),((List.range len).map X)[i]? =some x→i<len∧x=X i:=fun i x hi=>by
        obtain⟨h1,h2⟩:=List.getElem?_eq_some_iff.1 hi
        rw[hL]at h1
        simp only[List.getElem_map,List.getElem_range]at h2
        subst h2
        exact⟨h1,rfl⟩
       have:=Rel.rs (F:=F) (own:=own) (w:=w) (k:=k) (l:=(List.range len).map X) (b:=ab) (o:=ao) (cap:=cap) (fun i j=>(w.cell? ⟨ab,ao+i*aa k+j,none⟩).getD undef) (by rw[hL];exact hl) (by rw[hL];exact hs1)
        (fun i x hi j s hj=>by
         obtain⟨h1,rfl⟩:=hget i x hi
         obtain⟨v,h2,_⟩:=hX i h1 j s hj
         exact⟨hown _,by rw[h2];rfl⟩)
        (fun i x hi j s hj=>by
         obtain⟨h1,rfl⟩:=hget i x hi
         obtain⟨v,h2,h3⟩:=hX i h1 j s hj
         rw[h2];exact h3)
       rwa[hL]at this
   ·cases h
  ·rename_i fs ht
   obtain⟨xs,m,rfl,rfl,hl,hlen,hf⟩:=DataW.trod_struct ht hx
   rw[←hl]at h
   have:=Fj (mq hS hown n) m cs fs.toList 0 ks h fun f hfm=>by
    obtain⟨i,hi,rfl⟩:=List.getElem_of_mem hfm
    have hi':i<fs.size:=by simpa using hi
    have h1:=hf i fs[i] (by simp[hi'])
    rw[List.getElem?_eq_getElem (by omega)]at h1
    refine⟨_,by simpa using h1,hS.agg _ hs _ (List.mem_map_of_mem (List.getElem_mem _))⟩
   simpa using this
  ·rename_i m e ht
   split at h
   ·rename_i a ha
    cases hb:Nat.beq a.length (P.cellsOf e)&&Nat.beq (P.cellsOf t) (m*a.length)with
    |false=>rw[hb]at h;cases h
    |true=>
     rw[hb]at h
     cases h
     rw[Bool.and_eq_true]at hb
     have e1:a.length=P.cellsOf e:=Nat.eq_of_beq_eq_true hb.1
     have e2:P.cellsOf t=m*a.length:=Nat.eq_of_beq_eq_true hb.2
     obtain⟨xs,f2,rfl,rfl,hl,hlen,hf⟩:=DataW.trod_array ht hx
     refine Fk (mq hS hown n e a ha) f2 m cs (by rw[hl,e2]) fun i hi=>?_
     have h1:=hf i hi
     rw[List.getElem?_eq_getElem (by omega),←e1]at h1
     exact⟨_,h1,hS.agg _ hs _ (List.mem_map_of_mem (List.getElem_mem _))⟩
   ·cases h
  ·cases h
end
end Go.Sx
end
section
namespace Go.Sx
open Go.Proofs
section
variable {F:Nat→Prop}{own:Own}{w:World}
theorem L2 {k:Tag}{cs:Array Value}(h:RC F own w (cK k) cs.toList):∃ x:k.T,Rel F own w (.agg (cellsOf k x)) (.agg cs):=by
 obtain⟨l,h3,h4,h5⟩:=h
 refine⟨mkE k l,?_⟩
 rw[kA (k:=k) (l:=l) (x:=mkE k l) (by unfold lO;rw[h3];rfl)]
 refine .agg (by simpa using h4.symm) fun j s hj=>?_
 have hlt:j<cs.size:=by
  have:=(List.getElem?_eq_some_iff.1 hj).1
  simpa[h4]using this
 exact h5 j s _ hj (by simp[Array.getD,hlt])
theorem OZ {k:Tag}{v:Value}(h:RC F own w [.r k] [v]):∃ l:List k.T,Rel F own w (.rs k l) v:=by
 obtain⟨l,h3,h4,h5⟩:=h
 obtain⟨x,r,rfl,h6,h7⟩:=jP h3
 have h8:=h5 0 x v rfl rfl
 cases x with
 |rs k' l'=>
  have:k=k':=by
   simp only[fit]at h6
   exact ni h6
  subst this
  exact⟨l',h8⟩
 |_=>simp[fit]at h6
end
end Go.Sx
end
section
namespace Go.Sx
open Go.RowKit Go.WideShapes Go.ChangeShapes
section
variable {H:Type}{enc:TypeId×Value→H}{P:Program}
def L3 (P:Program):List TypeId→Bool
 | [] =>true
 |t::r=>P.readableRec t&&Nat.blt t P.types.size&&L3 P r
theorem zk (hl:laidOutB P=true){W W':World}(hg:Below W.heap.size W W'):∀ {ts:List TypeId} {vs:List Value} {ds:List (DataW H)} {ps:List MemPlace},L3 P ts=true→
  DataW.TrodAll enc P W 0 (fun _=>true) true ts vs ds ps→(∀ x∈ps,x.block<W.heap.size)→DataW.TrodAll enc P W' 0 (fun b=>decide (b<W.heap.size)) true ts vs ds ps
 | [],vs,ds,ps,_,h,_=>by
  obtain⟨rfl,rfl,rfl⟩:=trodAll_nil h
  exact trodAll_mk0
 |t::ts,vs,ds,ps,hk,h,hlt=>by
  unfold L3 at hk
  rw[Bool.and_eq_true,Bool.and_eq_true]at hk
  obtain⟨v,vs',d,ds',p,q,rfl,rfl,rfl,h1,h2⟩:=trodAll_cons h
  refine trodAll_cons_mk (WideElems.Trod_stays hl hk.1.1 (by simpa[Nat.blt_eq]using hk.1.2) h1 (fun x hx=>hg.same (hlt x (List.mem_append_left _ hx))) (fun x hx=>by simpa using hlt x (List.mem_append_left _ hx))) ?_
  exact zk hl hg hk.2 h2 fun x hx=>hlt x (List.mem_append_right _ hx)
theorem Jr (hl:laidOutB P=true){f:Func}{s:ChangeSpec}{W W':World}{args:Array Value}{ds gs:List (DataW H)}{before:List MemPlace}{t:TypeId}
  (hk:L3 P f.params.toList=true) (hW:DataW.Whole enc P f.params.toList s.vars false W args.toList ds gs before)
  (hr:f.resultTypes= #[t]) (ht:P.underlying t=some .bool) (hv:s.vars=[]) (h1:(s.fn H (ds++gs)).results=[.lit (.bool true)]) (h2:(s.fn H (ds++gs)).args=ds) (h3:(s.fn H (ds++gs)).vars=[])
  (hg:Below W.heap.size W W'):s.post enc P f false true false false W args (.bool true) W':=by
 have hlt:=hW.lt
 have hW0:=hW
 obtain⟨p,q,hA,hV,rfl,_,_⟩:=hW
 rw[hv]at hV
 obtain⟨rfl,rfl⟩:=trodVars_none hV
 refine⟨ds,[],p++[],[],p,[],hW0,?_,?_,?_,?_,fun h=>by cases h⟩
 ·rw[h1,hr]
  exact trodAll_cons_mk (shut_bool ht _) trodAll_mk0
 ·rw[h2]
  exact zk hl hg hk hA fun x hx=>hlt x (by simpa using hx)
 ·rw[h3,hv]
  rfl
 ·exact World.keptBut_mono (fun x hx=>⟨hx,.inr (.inl (by simpa using hx))⟩) (hg.frame (· ∈p++[]))
end
end Go.Sx
end
section
namespace Go.Proofs.YtgdkdhdlfdcefaaGreat.bulks
theorem one_le {H:Type}(d:DataW H):1≤Rows.uptoBulk d:=by
 cases d with
 |lit l=>cases l <;>simp[Rows.uptoBulk]
 |nil=>simp[Rows.uptoBulk]
 |ptr d=>simp[Rows.uptoBulk]
 |slice ll spare=>simp[Rows.uptoBulk]
 |agg parts=>simp[Rows.uptoBulk]
 |iface t d=>simp[Rows.uptoBulk]
 |map entries=>simp[Rows.uptoBulk]
 |held h=>simp[Rows.uptoBulk]
theorem part_le {H:Type}{d:DataW H}{l:List (DataW H)}(h:d∈l):Rows.uptoBulk d≤Rows.uptoBulkAll l:=by
 induction l with
 |nil=>cases h
 |cons x r ih=>
  simp only[Rows.uptoBulkAll]
  cases List.mem_cons.1 h with
  |inl e=>subst e;omega
  |inr e=>have:=ih e;omega
theorem append {H:Type}(l r:List (DataW H)):Rows.uptoBulkAll (l++r)=Rows.uptoBulkAll l+Rows.uptoBulkAll r:=by
 induction l with
 |nil=>simp[Rows.uptoBulkAll]
 |cons x l ih=>simp only[List.cons_append,Rows.uptoBulkAll,ih];omega
theorem length_le {H:Type}(l:List (DataW H)):l.length≤Rows.uptoBulkAll l:=by
 induction l with
 |nil=>simp[Rows.uptoBulkAll]
 |cons x r ih=>have:=one_le x;simp only[Rows.uptoBulkAll,List.length_cons];omega
theorem slice_le {H:Type}(ll spare:List (DataW H)):ll.length+spare.length+1≤Rows.uptoBulk (.slice ll spare):=by
 have h1:=length_le ll
 have h2:=length_le spare
 simp only[Rows.uptoBulk]
 omega
theorem slice_elems {H:Type}(ll spare:List (DataW H)):Rows.uptoBulkAll ll+1≤Rows.uptoBulk (.slice ll spare):=by
 simp only[Rows.uptoBulk]
 omega
theorem bound {H:Type}{l:List (DataW H)}(hk:Rows.uptoSmall H l=true):Rows.uptoBulkAll l≤1048576:=by
 simpa[Rows.uptoSmall]using hk
theorem room {n b:Nat}(hn:n≤2097152)(hb:b≤4096):(n+n / 4+192)*b≤281474976710656:=by
 have h:(n+n / 4+192)*b≤2621632*4096:=Nat.mul_le_mul (by omega) hb
 omega
end Go.Proofs.YtgdkdhdlfdcefaaGreat.bulks
end
section
namespace Go.Proofs.YtgdkdhdlfdcefaaGreat.claimsParts
open Go.ChangeShapes Go.WideShapes Go.ChangeAt Go.RowKit Go.Sx
set_option linter.unusedVariables false
theorem con_eq (x0:Tag.district.T)(x1:List Tag.deed.T)(x2:Int)(x3:Int)(x4:Int)(x5:Int):iy [.agg (cellsOf .district x0),.rs .deed x1,.v (.int .i64 x2),.v (.int .i64 x3),.v (.int .i64 x4),.v (.int .i64 x5)]=some (.det (dU x0 x1 x2 x3 x4 x5) (.v (.bool (ew x0 x1 x2 x3 x4 x5)))):=by
 unfold iy
 simp only[go_sem,Nat.reduceBEq]
theorem call_true {W:World}{cs0:Array Value}(h0:RC (fun _=>False) ce W (cK .district) cs0.toList){v1:Value}(h1:RC (fun _=>False) ce W [.r .deed] [v1])(x2:Int)(h2:(-9223372036854775808)≤x2∧x2≤9223372036854775807)(x3:Int)(h3:(-9223372036854775808)≤x3∧x3≤9223372036854775807)(x4:Int)(h4:(-9223372036854775808)≤x4∧x4≤9223372036854775807)(x5:Int)(h5:(-9223372036854775808)≤x5∧x5≤9223372036854775807):
  Calls Tryz.prog 8 #[.agg cs0,v1,.int .i64 x2,.int .i64 x3,.int .i64 x4,.int .i64 x5] W (fun e W'=>e=.returned (.bool true)∧Below W.heap.size W W'):=by
 obtain⟨x0,r0⟩:=L2 h0
 obtain⟨x1,r1⟩:=OZ h1
 refine(qb.calls _ _ (con_eq x0 x1 x2 x3 x4 x5) (Jo x0 x1 x2 x3 x4 x5 h2 h3 h4 h5) (fun _=>False) W _ (fun b h=>h.elim) ⟨rfl,fun j s hj=>?_⟩).mono fun e W' he=>?_
 ·match j,hj with
  |0,hj=>cases hj;exact r0
  |1,hj=>cases hj;exact r1
  |2,hj=>cases hj;exact .v _
  |3,hj=>cases hj;exact .v _
  |4,hj=>cases hj;exact .v _
  |5,hj=>cases hj;exact .v _
 ·rcases he with⟨s,u,own',hs,rfl,hh,hb⟩ | ⟨x,hx,_⟩
  ·simp only[cT]at hs
   subst hs
   rw[Jp x0 x1 x2 x3 x4 x5 h2 h3 h4 h5]at hh
   have:=hh.val
   simp only[o9]at this
   rw[bQ this]
   exact⟨rfl,hb⟩
  ·exact hx.elim
theorem own:ownKnob Tryz.prog.godebug=none:=by kernel_rfl
theorem small (H:Type):Small (fun d:DataW H=>Rows.uptoBulk d≤1048576) where
 agg l h d hd:=by
  have h1:=bulks.part_le hd
  simp only[Rows.uptoBulk]at h
  omega
 slice l m h:=by
  have h1:=bulks.slice_le l m
  have h2:=bulks.slice_elems l m
  refine⟨by unfold bp;omega,fun d hd=>?_⟩
  have:=bulks.part_le hd
  omega
theorem laid:laidOutB Tryz.prog=true:=by kernel_rfl
set_option maxRecDepth 100000 in
theorem contract (H:Type)(enc:TypeId×Value→H)(W:World)(base:Nat)(args:Array Value)(ds gs:List (DataW H))(before:List MemPlace)
  (hval:∀ (j:Nat) t v,Tryz.f8.params[j]? =some t→args[j]? =some v→Value.okWide Tryz.prog W .any base t v)
  (hW:DataW.Whole enc Tryz.prog Tryz.f8.params.toList Rows.claimsPartsSpec.vars false W args.toList ds gs before) (hk:Rows.uptoSmall H (ds++gs)=true):
  Calls Tryz.prog 8 args W fun e W'=>∃ v,e=.returned v∧Rows.claimsPartsSpec.post enc Tryz.prog Tryz.f8 false true false false W args v W':=by
 have hW':=hW
 obtain⟨p,q,hA0,hV,rfl,hfz,hnd⟩:=hW
 have hA:DataW.TrodAll enc Tryz.prog W 0 (fun _=>true) true Tryz.f8.params.toList args.toList ds p:=hA0
 rw[Tryz.params8]at hA hval
 obtain⟨v0,vs0,d0,ds0,p0,q0,hargs,rfl,rfl,h0,r0⟩:=trodAll_cons hA
 obtain⟨v1,vs1,d1,ds1,p1,q1,rfl,rfl,rfl,h1,r1⟩:=trodAll_cons r0
 obtain⟨v2,vs2,d2,ds2,p2,q2,rfl,rfl,rfl,h2,r2⟩:=trodAll_cons r1
 obtain⟨v3,vs3,d3,ds3,p3,q3,rfl,rfl,rfl,h3,r3⟩:=trodAll_cons r2
 obtain⟨v4,vs4,d4,ds4,p4,q4,rfl,rfl,rfl,h4,r4⟩:=trodAll_cons r3
 obtain⟨v5,vs5,d5,ds5,p5,q5,rfl,rfl,rfl,h5,r5⟩:=trodAll_cons r4
 obtain⟨rfl,rfl,rfl⟩:=trodAll_nil r5
 obtain rfl:args= #[v0,v1,v2,v3,v4,v5]:=by cases args;simp_all
 obtain⟨rfl,rfl⟩:=trodVars_none hV
 have hb:=bulks.bound hk
 simp only[Rows.uptoBulkAll,List.append_nil,List.cons_append,List.nil_append]at hb
 have ho:∀ b,¬bR (fun _=>False) ce b:=fun b h=>by
  rcases h with h| ⟨_,_,h,_⟩
  ·exact h
  ·cases h
 have s0:∃ cs,v0=.agg cs:=by
  have:=hval 0 31 v0 rfl rfl
  simp only[Value.okWide,Tryz.underlying31]at this
  exact⟨_,this.choose_spec.1⟩
 obtain⟨cs0,rfl⟩:=s0
 obtain⟨a1,l1,c1,rfl⟩:=okWide_slice Tryz.underlying32 (hval 1 32 v1 rfl rfl)
 obtain⟨a2,rfl,rfl,rfl,w2⟩:=open_int Tryz.underlying3 (hval 2 3 v2 rfl rfl) h2
 have R2:(-9223372036854775808)≤a2∧a2≤9223372036854775807:=by simpa[Lit.wf,IntKind.min,IntKind.max,IntKind.signed,IntKind.bits]using w2
 obtain⟨a3,rfl,rfl,rfl,w3⟩:=open_int Tryz.underlying3 (hval 3 3 v3 rfl rfl) h3
 have R3:(-9223372036854775808)≤a3∧a3≤9223372036854775807:=by simpa[Lit.wf,IntKind.min,IntKind.max,IntKind.signed,IntKind.bits]using w3
 obtain⟨a4,rfl,rfl,rfl,w4⟩:=open_int Tryz.underlying3 (hval 4 3 v4 rfl rfl) h4
 have R4:(-9223372036854775808)≤a4∧a4≤9223372036854775807:=by simpa[Lit.wf,IntKind.min,IntKind.max,IntKind.signed,IntKind.bits]using w4
 obtain⟨a5,rfl,rfl,rfl,w5⟩:=open_int Tryz.underlying3 (hval 5 3 v5 rfl rfl) h5
 have R5:(-9223372036854775808)≤a5∧a5≤9223372036854775807:=by simpa[Lit.wf,IntKind.min,IntKind.max,IntKind.signed,IntKind.bits]using w5
 have R0:RC (fun _=>False) ce W (cK .district) cs0.toList:=by
  obtain⟨f,hf⟩:=h0
  exact mq (n:=6) (t:=31) (small H) ho _ (by kernel_rfl) f _ _ hf (by show Rows.uptoBulk d0≤_;omega)
 have R1:RC (fun _=>False) ce W [.r .deed] [.slice a1 l1 c1]:=by
  obtain⟨f,hf⟩:=h1
  exact mq (n:=6) (t:=32) (small H) ho _ (by kernel_rfl) f _ _ hf (by show Rows.uptoBulk d1≤_;omega)
 refine(call_true R0 R1 _ R2 _ R3 _ R4 _ R5).mono fun e W' ⟨he,hg⟩ =>?_
 subst he
 exact⟨_,rfl,Jr laid (by kernel_rfl) hW' (by kernel_rfl) Tryz.underlying4 rfl rfl rfl rfl hg⟩
def zeroV:Kd→Value
 | .n k=>.int k 0
 | .b=>.bool false
 | .s=>.string (ByteArray.mk #[])
 | .r _=>.slice none 0 0
 | .m _ _=>.map none
 | .f=>.nilFunc
def wit:Array Value:= #[.agg ((cK .district).map zeroV).toArray,.slice none 0 0,.int .i64 0,.int .i64 0,.int .i64 0,.int .i64 0]
set_option maxRecDepth 100000 in
theorem lifted (os:Os)(started:os.Started)(H:Type)(enc:TypeId×Value→H)(F:Stop.Interp):
  ReturnsInHanded {} Tryz.checked os 8 .any ((Rows.OpenSpec.upto Rows.claimsPartsSpec).pre6 enc Tryz.prog Tryz.f8 Rows.claimsPartsUptoRow.domain false) (((Rows.OpenSpec.upto Rows.claimsPartsSpec).at F).post enc Tryz.prog Tryz.f8 false true false false):=by
 refine returnsInHanded_of_cond (C:=Tryz.checked) (s:=Rows.OpenSpec.upto Rows.claimsPartsSpec) (k:=Rows.uptoSmall) rfl own started (by kernel_rfl) Tryz.func8
  (OpenSpec.witness (enc:=enc) (C:=Tryz.checked) (s:=Rows.OpenSpec.upto Rows.claimsPartsSpec) (k:=Rows.uptoSmall) rfl false ⟨#[],wit,[]⟩ 8 (by kernel_rfl) (by kernel_rfl) (by kernel_rfl)
   (x:=(DataW.whole enc Tryz.prog (World.plainHolding Tryz.prog os ⟨#[],wit,[]⟩).memory Tryz.f8.params.toList Rows.claimsPartsSpec.vars false wit.toList 8).getD ([],[],[])) (by kernel_rfl) rfl (by kernel_rfl)) ?_
 intro W base args ds gs before hval hW _ hk _
 exact contract H enc W base args ds gs before hval hW hk
theorem over:Rows.claimsPartsUptoRow.holds Tryz.pinned (Rows.OpenSpec.upto Rows.claimsPartsSpec):=
 OpenClaim.holds_of_cond 8 Tryz.f8 rfl rfl rfl rfl rfl rfl rfl ⟨rfl,rfl,rfl,rfl,rfl⟩ rfl rfl rfl rfl rfl (by kernel_rfl) Tryz.func8 (by kernel_rfl)
  (of_decide_eq_true (by kernel_rfl)) (by unfold Func.isWrapper;first|(rw[if_pos (by decide+kernel)];kernel_rfl) |(rw[if_neg (by decide+kernel)];exact⟨rfl,rfl⟩))
  (fun os started H enc _ F=>lifted os started H enc F)
theorem proved:Rows.ClaimsPartsUptoSaid:=over
end Go.Proofs.YtgdkdhdlfdcefaaGreat.claimsParts
end
