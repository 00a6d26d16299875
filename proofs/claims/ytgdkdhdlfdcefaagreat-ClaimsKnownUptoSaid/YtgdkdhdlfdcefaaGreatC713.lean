/- Part of the proof that the law ClaimsKnown returns true and leaves its arguments as they were, for all arguments of bulk at most 1048576 (the Upto form). -/
import Derived.Test.YtgdkdhdlfdcefaaGreatC712
import Derived.Test.YtgdkdhdlfdcefaaGreatC709
import Derived.Test.YtgdkdhdlfdcefaaGreatC711
import Derived.Test.YtgdkdhdlfdcefaaGreatC708
import Derived.Test.YtgdkdhdlfdcefaaGreatC707
import Derived.Deep.Slices
import Derived.OpenShut
import Derived.ChangeSame
import Derived.WideKeyArgs
import Derived.Below
import Derived.Test.YtgdkdhdlfdcefaaGreatRows
import Derived.WalkKit
import Derived.ProofKit
import Derived.JoinedCond
import Derived.Carry
set_option linter.all false
set_option maxHeartbeats 4000000
set_option maxRecDepth 100000
section
namespace Go.Sx
open Go.Proofs
open IntKind (i64)
theorem xR {ρ α β:Type}{step:Nat→List β→ρ⊕List β}(l:List α)(d:α)(f:α→Option β)(s0:List β)(h:∀ k s,k<l.length→step k s=.inr (s++(f (l.getD k d)).toList)):aq step l.length 0 s0=.inr (s0++l.filterMap f):=by
 obtain⟨r,h1,h2⟩:=mT (step:=step) (fun k s=>s=s0++(l.take k).filterMap f) l.length 0 s0 (by simp) (fun j s _ hj hs=>by
  rw[Nat.zero_add]at hj;refine⟨_,h j s hj,?_⟩;rw[ct l d hj,List.filterMap_append,hs,List.append_assoc];cases hc:f (l.getD j d)with
  |none=>rw[List.filterMap_cons_none hc];rfl
  |some c=>rw[List.filterMap_cons_some hc];rfl)
 rw[h1,h2,Nat.zero_add,List.take_length]
theorem AN {ρ α β:Type}{step:Nat→List β→ρ⊕List β}{p:Nat→List β→Prop}(l:List α)(d:α)(f:α→Option β)(s0:List β)(h:∀ k s,k<l.length→step k s=.inr (s++(f (l.getD k d)).toList))(hp:∀ k,k<l.length→p k (s0++(l.take k).filterMap f)):okI step p l.length 0 s0:=by
 refine sM (fun k s=>s=s0++(l.take k).filterMap f) _ _ _ (by simp) fun j s _ hj hs=>⟨by rw[hs];exact hp j (by omega),fun s' e=>?_⟩;rw[h j s (by omega)]at e;cases e;rw[ct l d (by omega),List.filterMap_append,hs,List.append_assoc];cases hc:f (l.getD j d)with
 |none=>rw[List.filterMap_cons_none hc];rfl
 |some c=>rw[List.filterMap_cons_some hc];rfl
theorem rB {α β:Type}(l:List α)(f:α→Option β)(k:Nat):((l.take k).filterMap f).length≤(l.filterMap f).length:=by
 have:=congrArg List.length (congrArg (List.filterMap f) (List.take_append_drop k l));rw[List.filterMap_append,List.length_append]at this;omega
theorem L3 {α β:Type}(l:List α)(d:α)(f:α→Option β){k:Nat}(hk:k<l.length){c:β}(hc:f (l.getD k d)=some c):(l.filterMap f)[((l.take k).filterMap f).length]? =some c:=by
 have e:l=l.take k++l.getD k d::l.drop (k+1):=by
  rw[ik l d hk,←List.drop_eq_getElem_cons hk,List.take_append_drop]
 conv=>lhs;arg 1;rw[e]
 rw[List.filterMap_append,List.filterMap_cons_some hc];simp
theorem L4 {β:Type}{step:Nat→List β×Int→List β⊕(List β×Int)}{p:Nat→List β×Int→Prop}(fr to:Int)(G:Int→List β)(h0:0≤fr)(h1:to<4096)(hft:fr≤to+1)
  (hs:∀ k s h,fr≤h→h≤to→step k (s,h)=.inr (s++G h,i64.wrap (h+1))) (he:∀ k s h,to<h→step k (s,h)=.inl s)
  (hp:∀ k h,fr≤h→h≤to+1→p k ((hrs fr (h - 1)).flatMap G,h)):okI step p 4098 0 ([],fr)∧aq step 4098 0 ([],fr)=.inl ((hrs fr to).flatMap G):=by
 obtain⟨a,r,b,c⟩:=vo (step:=step) (p:=p) (fun s=>(to+1 - s.2).toNat) (fun s=>(fr≤s.2∧s.2≤to+1)∧s.1=(hrs fr (s.2 - 1)).flatMap G) (fun r=>r=(hrs fr to).flatMap G) (fun k s hJ=>by
  obtain⟨s,h⟩:=s;obtain⟨⟨j1,j2⟩,j3⟩:=hJ;simp only at j1 j2 j3;subst j3;refine⟨hp k h j1 j2,?_⟩;by_cases hh:h≤to
  ·refine .inr ⟨_,hs k _ h j1 hh,?_⟩;simp only;rw[bt (by omega) (by omega)];refine⟨by omega,⟨by omega,by omega⟩,?_⟩;rw[show h+1 - 1=(h - 1)+1 by omega,Ch (by omega),List.flatMap_append,show h - 1+1=h by omega];simp
  ·refine .inl ⟨_,he k _ h (by omega),?_⟩;rw[show h - 1=to by omega]) 4098 0 ([],fr) ⟨⟨Int.le_refl _,hft⟩,by rw[LM (by simp only;omega)];rfl⟩ (by simp only;omega)
 exact⟨a,by rw[b,c]⟩
theorem zn {d:District}{x:Right}{h:Int}(ht:TakeR d x)(h0:0≤h)(h1:h<4096):(((decide (h<x.since)) ||(decide (h > x.to))) ||(decide ((Int.tmod (i64.wrap (h - x.since)) x.every)≥x.length)))= !Jl x h:=by
 have:=ht.since0;unfold Jl;by_cases hs:x.since≤h
 ·rw[bt (by omega) (by omega),decide_eq_true hs,decide_eq_false (show ¬h<x.since by omega)];by_cases ht:h≤x.to
  ·rw[decide_eq_true ht,decide_eq_false (show ¬h > x.to by omega)];simp only[Bool.false_or,Bool.true_and];rw[←decide_not];exact decide_eq_decide.2 (by omega)
  ·rw[decide_eq_false ht,decide_eq_true (show h > x.to by omega)];rfl
 ·rw[decide_eq_false hs,decide_eq_true (show h<x.since by omega)];rfl
theorem Jp {α:Type}(l:List α)(d:α){k:Nat}(hk:k<l.length):l.getD k d∈l:=by rw[ik l d hk];exact List.getElem_mem hk
theorem Ft {d:District}{l:List Deed}{h k:Int}{j:Nat}(hj:j< (aj d l h k).1.length):((0≤((aj d l h k).1.getD j default).right∧((aj d l h k).1.getD j default).right< (d.rights.length:Int))∧(0≤h∧h<4096))∧TakeR d (d.rights.getD (Int.toNat ((aj d l h k).1.getD j default).right) default)∧(d.rights.getD (Int.toNat ((aj d l h k).1.getD j default).right) default).kind=1:=by
 obtain⟨a,⟨b1,b2⟩,c,e,f,g,i,m,n,o⟩:=Jm (Jp _ default hj);have:=(kR (by rw[a];rfl)).hours;exact⟨⟨⟨c,e⟩,b1,by omega⟩,D7 a (by omega) o,o⟩
theorem AO (d:District)(l:List Deed)(h k:Int):dy d l h k=gJ d l h k∧gk d l h k ((dy d l h k).map ul):=by
 have hstep:∀ j s,j< (aj d l h k).1.length→d7 d l h k j s=.inr (s++(opn d h ((aj d l h k).1.getD j default)).toList):=fun j s hj=>by
  obtain⟨⟨⟨a,b⟩,c,e⟩,ht,_⟩:=Ft hj;unfold d7 opn;rw[zn ht c e];cases Jl (d.rights.getD (Int.toNat ((aj d l h k).1.getD j default).right) default) h <;>simp
 have hv:aq (d7 d l h k) ((aj d l h k).1).length 0 []=.inr (gJ d l h k):=by
  rw[xR _ default (opn d h) [] hstep];rfl
 have e:dy d l h k=gJ d l h k:=by unfold dy;rw[hv]
 refine⟨e,(xK d l h k).1,fun _=>⟨AN _ default (opn d h) [] hstep fun j hj=>?_,fun s hs=>?_⟩⟩
 ·obtain⟨⟨⟨a,b⟩,c,f⟩,ht,_⟩:=Ft hj;refine⟨⟨a,b⟩,fun _=>by have:=ht.every;omega,fun hc=>?_⟩;rw[zn ht c f]at hc;have hop:opn d h ((aj d l h k).1.getD j default)=some { right:=((aj d l h k).1.getD j default).right,farm:=((aj d l h k).1.getD j default).farm,hour:=h,litres:=((aj d l h k).1.getD j default).litres,rank:=((aj d l h k).1.getD j default).rank}:=by
   unfold opn;rw[if_pos (by simpa using hc)]
  rw[e,List.nil_append,List.getElem?_map];unfold gJ;rw[L3 _ default (opn d h) hj hop];rfl
 ·rw[hv]at hs;cases hs;rw[e,List.length_map]
def Jq (d:District)(f h r:Int):Bool:= !(qu d f r h)
def Jr (d:District)(f:Int):List Int:=(cW d (d.farms.getD (Int.toNat f) default).reach).reverse
def O3 (d:District)(f h:Int):Int:=((Jr d f).find? (Jq d f h)).getD (-1)
def fnd (d:District)(h:Int)(c:Claim):ClaimsFound:= { claim:=c,reach:=O3 d c.farm h}
theorem L5 {α:Type}(P:α→Bool)(K:List α)(x:α)(R:List α)(h1:P x=true)(h2:∀ y∈K,P y=false):(K++x::R).find? P=some x:=by
 induction K with
 |nil=>simp[h1]
 |cons y K ih=>rw[List.cons_append,List.find?_cons,h2 y (by simp)];exact ih fun z hz=>h2 z (by simp[hz])
theorem GP {d:District}{f:Int}(he:aC d=0)(h0:0≤f)(h1:f< (d.farms.length:Int)):PathOk d (d.farms.getD (Int.toNat f) default).reach:=by
 have hR:=kR (by rw[he];rfl);have:=hR.farm f.toNat (by omega);exact⟨he,this.1,this.2⟩
theorem D8 {d:District}{h:Int}{c:Claim}(hl:d.rights.length≤256)(l:List Int):(aT l (a_ d h) c<0∧l.find? (Jq d c.farm h)=none)∨∃ j:Nat,j<l.length∧aT l (a_ d h) c=(j:Int)∧l.find? (Jq d c.farm h)=some (l.getD j 0):=by
 have:=Co (step:=dG l (a_ d h) c) l 0 (Jq d c.farm h) (fun k hk=>by
  unfold dG lJ Jq;rw[OO d h c.farm _ hl])
 unfold aT;rcases this with⟨e,hn⟩ | ⟨K,x,R,rfl,e,hx,hK⟩
 ·rw[e];exact .inl ⟨by decide,List.find?_eq_none.2 fun x hx=>by rw[hn x hx];simp⟩
 ·rw[e];refine .inr ⟨K.length,by simp,rfl,?_⟩;rw[L5 _ K x R hx hK,iU K x 0 R rfl]
def r6 (d:District)(l:List Deed)(k fr to:Int):List ClaimsFound:=(hrs fr to).flatMap fun h=>(gJ d l h k).map (fnd d h)
def eM (d:District)(l:List Deed)(k fr to:Int):List ClaimsFound:=(hrs fr to).flatMap fun h=>(xO d l h k).map (fnd d h)
theorem L6 {d:District}(l:List Deed)(k:Int)(s0:List ClaimsFound×Int){c:Claim}(hc:ClaimOk d s0.2 c)(s:List ClaimsFound):dL d l k s0 c s=.inr (s++[fnd d s0.2 c])∧((s.length+1)*48≤fb→eD d l k s0 c s):=by
 have hR:=kR (by rw[hc.exp];rfl);have hP:=GP hc.exp hc.f0 hc.f1;have hpath:=xq hP;unfold dL eD;rw[hpath];simp only;rcases D8 (d:=d) (h:=s0.2) (c:=c) hR.rights (cW d (d.farms.getD (Int.toNat c.farm) default).reach).reverse with⟨hi,hf⟩ | ⟨j,hj,hi,hf⟩
 ·rw[decide_eq_false (show ¬_≥(0:Int) by omega)];refine⟨?_,fun hB=>⟨⟨hc.f0,hc.f1⟩,rt _ _,fun h=>by(first|done|cases h),fun _=>by rw[List.length_append];exact hB⟩⟩;simp only[cond_false,fnd,O3,Jr,hf,Option.getD_none]
 ·rw[hi,decide_eq_true (show(j:Int)≥0 by omega)];refine⟨?_,fun hB=>⟨⟨hc.f0,hc.f1⟩,rt _ _,fun _=>⟨⟨by omega,by omega⟩,by rw[List.length_append];exact hB⟩,fun h=>by(first|done|cases h)⟩⟩;simp only[cond_true,fnd,O3,Jr,hf,Option.getD_some,Int.toNat_natCast]
theorem D9 {d:District}(l:List Deed)(k:Int)(s0:List ClaimsFound×Int):∀ (L:List Claim) (s:List ClaimsFound),(∀ c∈L,ClaimOk d s0.2 c)→dO (dL d l k s0) L s=.inr (s++L.map (fnd d s0.2))∧((s.length+L.length)*48≤fb→okL (dL d l k s0) (eD d l k s0) L s)
 | [],s,_=>⟨by simp[dO],fun _=>trivial⟩
 |c::L,s,h=>by
  obtain⟨h1,h2⟩:=L6 l k s0 (h c (by simp)) s;obtain⟨h3,h4⟩:=D9 l k s0 L (s++[fnd d s0.2 c]) fun x hx=>h x (by simp[hx]);refine⟨?_,fun hB=>?_⟩
  ·rw[dO,h1];simp only;rw[h3];simp
  ·rw[List.length_cons]at hB;refine⟨h2 (by omega),fun s' e=>?_⟩;rw[h1]at e;cases e;exact h4 (by rw[List.length_append,List.length_singleton];omega)
theorem xS {d:District}{l:List Deed}{k fr to:Int}:(r6 d l k fr to).length≤(to+1 - fr).toNat*(600*d.rights.length):=by
 unfold r6;have:=tw (fun h=>(gJ d l h k).map (fnd d h)) (600*d.rights.length) (hrs fr to) fun h _=>by rw[List.length_map];exact(GM d l h k).1
 rwa[LO]at this
theorem xT (d:District)(l:List Deed)(k fr to:Int):(r6 d l k fr to).Perm (eM d l k fr to):=GB fun h _=>(xQ d l h k).symm.map _
theorem AP (d:District)(l:List Deed)(k fr to:Int):(eM d l k fr to).Pairwise fun x y=>dC x y<0:=by
 unfold eM;refine LP (OV fr to) (fun h _=>?_) fun a _ b _ hab x hx y hy=>?_
 ·rw[List.pairwise_map];exact(AM d l h k).imp fun {x y} hxy=>(xv _ _).2 hxy
 ·obtain⟨x',hx',rfl⟩:=List.mem_map.1 hx;obtain⟨y',hy',rfl⟩:=List.mem_map.1 hy;have h1:=(Cw hx').hour;have h2:=(Cw hy').hour;refine(xv _ _).2 ?_;simp only[fnd,mw,lN,and_false,or_false];omega
def nq (d:District)(fr to k:Int):Prop:=(0≤fr∧fr≤to∧to<d.hours)∧0≤k∧k≤1048576
instance (d:District)(fr to k:Int):Decidable (nq d fr to k):=by unfold nq;infer_instance
def n8 (d:District)(l:List Deed)(fr to k:Int):Int:=if an d l≠0 then an d l else if ¬nq d fr to k then 1 else if 4096< (to - fr+1)*(d.rights.length:Int)then 2 else 0
theorem O4 (d:District)(fr to k:Int):(((((decide (fr<0)) ||(decide (fr > to))) ||(decide (to≥d.hours))) ||(decide (k<0))) ||(decide (k > 1048576)))= !decide (nq d fr to k):=by
 rw[Bool.eq_iff_iff,Bool.not_eq_true',decide_eq_false_iff_not];simp only[Bool.or_eq_true,decide_eq_true_eq];unfold nq;omega
theorem O5 {d:District}{fr to k:Int}(hR:Right1 d)(h:nq d fr to k):i64.wrap ((i64.wrap ((i64.wrap (to - fr))+1))*(d.rights.length:Int))=(to - fr+1)*(d.rights.length:Int):=by
 obtain⟨⟨a,b,c⟩,e,f⟩:=h;have h1:=hR.hours;have h2:=hR.rights;rw[bt (n:=to - fr) (by omega) (by omega),bt (n:=to - fr+1) (by omega) (by omega)];have h3:(to - fr+1)*(d.rights.length:Int)≤4096*256:=Int.mul_le_mul (by omega) (by omega) (by omega) (by omega);have h4:0≤(to - fr+1)*(d.rights.length:Int):=Int.mul_nonneg (by omega) (by omega);exact bt (by omega) (by omega)
theorem r7 {d:District}{fr to k:Int}(h:nq d fr to k)(h4:¬4096< (to - fr+1)*(d.rights.length:Int)){n:Nat}(hn:n≤(to+1 - fr).toNat*(600*d.rights.length)):n≤2457600:=by
 obtain⟨⟨a,b,c⟩,e,f⟩:=h;have e1:(((to+1 - fr).toNat*(600*d.rights.length):Nat):Int)=600*((to - fr+1)*(d.rights.length:Int)):=by
  push_cast
  rw[Int.toNat_of_nonneg (by omega),show to+1 - fr=to - fr+1 by omega];rw[←Int.mul_assoc,Int.mul_comm _ 600,Int.mul_assoc]
 omega
theorem Js (d:District)(l:List Deed)(fr to k:Int):io d l fr to k∧aB d l fr to k=if n8 d l fr to k=0 then(eM d l k fr to,0)else([],n8 d l fr to k):=by
 unfold io aB n8;rw[O4];by_cases hc:an d l=0
 ·rw[hc];simp only[bne_self_eq_false,cond_false,ne_eq,not_true,if_false];have hD:=nX hc;have hR:=hD.right;by_cases ha:nq d fr to k
  ·rw[O5 hR ha,decide_eq_true ha];simp only[Bool.not_true,cond_false,not_true,if_false];by_cases hb:4096< (to - fr+1)*(d.rights.length:Int)
   ·rw[decide_eq_true hb,if_pos hb];exact⟨⟨mv d l,fun _ _ _ h=>by cases h⟩,by rw[if_neg (not_not_intro ha)];rfl⟩
   ·rw[decide_eq_false hb,if_neg hb];simp only[cond_false,if_true];have hrun:=L4 (step:=ed d l to k) (p:=gl d l to k) fr to (fun h=>(gJ d l h k).map (fnd d h)) ha.1.1 (by have:=ha.1.2.2;have:=hR.hours;omega) (by have:=ha.1.2.1;omega)
     (fun j s h h1 h2=>by
      unfold ed;simp only;rw[decide_eq_true h2,(AO d l h k).1];simp only[cond_true];rw[(D9 l k (s,h) (gJ d l h k) s fun c hc=>xM hc).1])
     (fun j s h h1=>by unfold ed;simp only;rw[decide_eq_false (by omega)];rfl)
     (fun j h h1 h2=>by
      unfold gl;simp only;intro hle;have hle:h≤to:=of_decide_eq_true hle;refine⟨(AO d l h k).2,?_⟩;rw[(AO d l h k).1];refine(D9 l k (_,h) (gJ d l h k) _ fun c hc=>xM hc).2 ?_;have h3:((hrs fr (h - 1)).flatMap fun h=>(gJ d l h k).map (fnd d h)).length+(gJ d l h k).length=(r6 d l k fr h).length:=by
       unfold r6;have:=Ch (a:=fr) (b:=h - 1) (by omega);rw[show h - 1+1=h by omega]at this;rw[this,List.flatMap_append];simp
      have h4:(r6 d l k fr h).length≤(to+1 - fr).toNat*(600*d.rights.length):=Nat.le_trans xS (Nat.mul_le_mul_right _ (by omega));have h5:=r7 ha hb h4;rw[h3];unfold fb;omega)
    obtain⟨r1,r2⟩:=hrun;have hS:=DS y_ (xT d l k fr to) (AP d l k fr to);have r2':aq (ed d l to k) 4098 0 ([],fr)=.inl (r6 d l k fr to):=r2;rw[r2'];simp only;rw[hS.2];refine⟨⟨mv d l,fun _ _ _ _=>⟨r1,fun z hz=>by(first|done|cases hz),fun x hx=>?_⟩⟩,by rw[if_neg (not_not_intro ha)];rfl⟩;cases hx;exact hS.1
  ·rw[decide_eq_false ha,if_pos ha];simp only[Bool.not_false,cond_true];exact⟨⟨mv d l,fun _ h=>by cases h⟩,rfl⟩
 ·have hne:(an d l !=0)=true:=by simpa using hc
  rw[hne];simp only[cond_true,ne_eq,hc,not_false_eq_true,if_true,if_false];exact⟨⟨mv d l,fun h=>by cases h⟩,trivial⟩
def ofF (x:ClaimsFound):Option Claim:=if x.reach<0 then some x.claim else none
def blF (x:ClaimsFound):Option Block:=if 0≤x.reach then some { right:=x.claim.right,farm:=x.claim.farm,hour:=x.claim.hour,reach:=x.reach}else none
def ofL (d:District)(l:List Deed)(k fr to:Int):List Claim:=(eM d l k fr to).filterMap ofF
def blL (d:District)(l:List Deed)(k fr to:Int):List Block:=(eM d l k fr to).filterMap blF
def lim {α:Type}(e:Int)(l:List α):List α×Int:=if e=0 then(if 4096<l.length then([],2)else(l,0))else([],e)
theorem xU {d:District}{l:List Deed}{fr to k:Int}(h:n8 d l fr to k=0):(eM d l k fr to).length≤2457600:=by
 rw[←(xT d l k fr to).length_eq];unfold n8 at h;split at h
 ·rename_i h1;exact absurd h h1
 ·split at h
  ·cases h
  ·rename_i h2;have h2:nq d fr to k:=Classical.not_not.1 h2;split at h
   ·cases h
   ·rename_i h3;exact r7 h2 h3 xS
theorem tx (d:District)(l:List Deed)(fr to k:Int):fR d l fr to k∧cX d l fr to k=lim (n8 d l fr to k) (ofL d l k fr to):=by
 obtain⟨h1,h2⟩:=Js d l fr to k;by_cases he:n8 d l fr to k=0
 ·rw[if_pos he]at h2;have hlen:=xU he;have hstep:∀ j s,j< (eM d l k fr to).length→jJ d l fr to k j s=.inr (s++(ofF ((eM d l k fr to).getD j default)).toList):=fun j s hj=>by
   unfold jJ ofF;rw[h2];simp only;by_cases hq:((eM d l k fr to).getD j default).reach<0
   ·rw[if_pos hq,decide_eq_true hq];rfl
   ·rw[if_neg hq,decide_eq_false hq];simp
  refine⟨⟨h1,fun _ _=>?_⟩,?_⟩
  ·rw[h2];refine AN (eM d l k fr to) default ofF [] hstep fun j hj=>?_;intro _;rw[h2];have:=rB (eM d l k fr to) ofF j;have h3:=List.length_filterMap_le ofF (eM d l k fr to);rw[List.length_append,List.nil_append,List.length_singleton];unfold fb;omega
  ·unfold cX lim;have hrun:=xR _ default ofF [] hstep;rw[h2];simp only[bne_self_eq_false,cond_false];rw[hrun,if_pos he,List.nil_append];show(bif decide (((ofL d l k fr to).length:Int) > 4096)then([],2)else(ofL d l k fr to,0))=_;by_cases hq:4096< (ofL d l k fr to).length
   ·rw[if_pos hq,decide_eq_true (by omega)];rfl
   ·rw[if_neg hq,decide_eq_false (by omega)];rfl
 ·rw[if_neg he]at h2;have hne:((aB d l fr to k).2 !=0)=true:=by rw[h2];simpa using he
  refine⟨⟨h1,fun h=>by rw[hne]at h;cases h⟩,?_⟩;unfold cX lim;rw[hne,h2,if_neg he];rfl
theorem xV (d:District)(l:List Deed)(fr to k:Int):d8 d l fr to k∧b8 d l fr to k=lim (n8 d l fr to k) (blL d l k fr to):=by
 obtain⟨h1,h2⟩:=Js d l fr to k;by_cases he:n8 d l fr to k=0
 ·rw[if_pos he]at h2;have hlen:=xU he;have hstep:∀ j s,j< (eM d l k fr to).length→fv d l fr to k j s=.inr (s++(blF ((eM d l k fr to).getD j default)).toList):=fun j s hj=>by
   unfold fv blF;rw[h2];simp only;by_cases hq:0≤((eM d l k fr to).getD j default).reach
   ·rw[if_pos hq,decide_eq_true (show _≥(0:Int)from hq)];rfl
   ·rw[if_neg hq,decide_eq_false (show ¬_≥(0:Int)from hq)];simp
  refine⟨⟨h1,fun _ _=>?_⟩,?_⟩
  ·rw[h2];refine AN (eM d l k fr to) default blF [] hstep fun j hj=>?_;intro _;rw[h2];have:=rB (eM d l k fr to) blF j;have h3:=List.length_filterMap_le blF (eM d l k fr to);rw[List.length_append,List.nil_append,List.length_singleton];unfold fb;omega
  ·unfold b8 lim;have hrun:=xR _ default blF [] hstep;rw[h2];simp only[bne_self_eq_false,cond_false];rw[hrun,if_pos he,List.nil_append];show(bif decide (((blL d l k fr to).length:Int) > 4096)then([],2)else(blL d l k fr to,0))=_;by_cases hq:4096< (blL d l k fr to).length
   ·rw[if_pos hq,decide_eq_true (by omega)];rfl
   ·rw[if_neg hq,decide_eq_false (by omega)];rfl
 ·rw[if_neg he]at h2;have hne:((aB d l fr to k).2 !=0)=true:=by rw[h2];simpa using he
  refine⟨⟨h1,fun h=>by rw[hne]at h;cases h⟩,?_⟩;unfold b8 lim;rw[hne,h2,if_neg he];rfl
theorem GQ {d:District}{l:List Deed}{fr to k:Int}(h:n8 d l fr to k=0):an d l=0∧nq d fr to k∧¬4096< (to - fr+1)*(d.rights.length:Int):=by
 unfold n8 at h;split at h
 ·rename_i h1;exact absurd h h1
 ·rename_i h1;split at h
  ·cases h
  ·rename_i h2;split at h
   ·cases h
   ·rename_i h3;exact⟨Classical.not_not.1 h1,Classical.not_not.1 h2,h3⟩
theorem Jt (a b:List Claim):jB a b:=fun _ _ h=>mN _ _ _ fun j _ _ hj _=>by
 simp only[bne_eq_false_iff_eq]at h;omega
theorem zo (a:List Claim):i6 a a=true:=by
 unfold i6;have e:aq (iJ a a) a.length 0 ()=.inr ():=g5.2 fun j _=>by
  unfold iJ;simp
 rw[e];simp
theorem Fu (a b:List Block):d5 a b:=fun _ _ h=>mN _ _ _ fun j _ _ hj _=>by
 simp only[bne_eq_false_iff_eq]at h;omega
theorem r8 (a:List Block):dZ a a=true:=by
 unfold dZ;have e:aq (eH a a) a.length 0 ()=.inr ():=g5.2 fun j _=>by
  unfold eH;simp
 rw[e];simp
def bf:District:=({ name:=(ByteArray.mk #[]),hours:=4,tank:=({ cap:=100,start:=50}:Tank),reaches:=(([({ name:=(ByteArray.mk #[]),up:=(-1),delay:=1,cap:=20,bank:=50,siphon:=0,evap:=({ lo:=0,hi:=0}:Range),seep:=(({ n:=0,d:=1}:Ratio),({ n:=0,d:=1}:Ratio))}:Reach),({ name:=(ByteArray.mk #[]),up:=(-1),delay:=1,cap:=20,bank:=50,siphon:=0,evap:=({ lo:=0,hi:=0}:Range),seep:=(({ n:=0,d:=1}:Ratio),({ n:=0,d:=1}:Ratio))}:Reach)]).set 1 ({ name:=(([({ name:=(ByteArray.mk #[]),up:=(-1),delay:=1,cap:=20,bank:=50,siphon:=0,evap:=({ lo:=0,hi:=0}:Range),seep:=(({ n:=0,d:=1}:Ratio),({ n:=0,d:=1}:Ratio))}:Reach),({ name:=(ByteArray.mk #[]),up:=(-1),delay:=1,cap:=20,bank:=50,siphon:=0,evap:=({ lo:=0,hi:=0}:Range),seep:=(({ n:=0,d:=1}:Ratio),({ n:=0,d:=1}:Ratio))}:Reach)]).getD 1 (default:Reach)).name,up:=0,delay:=(([({ name:=(ByteArray.mk #[]),up:=(-1),delay:=1,cap:=20,bank:=50,siphon:=0,evap:=({ lo:=0,hi:=0}:Range),seep:=(({ n:=0,d:=1}:Ratio),({ n:=0,d:=1}:Ratio))}:Reach),({ name:=(ByteArray.mk #[]),up:=(-1),delay:=1,cap:=20,bank:=50,siphon:=0,evap:=({ lo:=0,hi:=0}:Range),seep:=(({ n:=0,d:=1}:Ratio),({ n:=0,d:=1}:Ratio))}:Reach)]).getD 1 (default:Reach)).delay,cap:=(([({ name:=(ByteArray.mk #[]),up:=(-1),delay:=1,cap:=20,bank:=50,siphon:=0,evap:=({ lo:=0,hi:=0}:Range),seep:=(({ n:=0,d:=1}:Ratio),({ n:=0,d:=1}:Ratio))}:Reach),({ name:=(ByteArray.mk #[]),up:=(-1),delay:=1,cap:=20,bank:=50,siphon:=0,evap:=({ lo:=0,hi:=0}:Range),seep:=(({ n:=0,d:=1}:Ratio),({ n:=0,d:=1}:Ratio))}:Reach)]).getD 1 (default:Reach)).cap,bank:=(([({ name:=(ByteArray.mk #[]),up:=(-1),delay:=1,cap:=20,bank:=50,siphon:=0,evap:=({ lo:=0,hi:=0}:Range),seep:=(({ n:=0,d:=1}:Ratio),({ n:=0,d:=1}:Ratio))}:Reach),({ name:=(ByteArray.mk #[]),up:=(-1),delay:=1,cap:=20,bank:=50,siphon:=0,evap:=({ lo:=0,hi:=0}:Range),seep:=(({ n:=0,d:=1}:Ratio),({ n:=0,d:=1}:Ratio))}:Reach)]).getD 1 (default:Reach)).bank,siphon:=(([({ name:=(ByteArray.mk #[]),up:=(-1),delay:=1,cap:=20,bank:=50,siphon:=0,evap:=({ lo:=0,hi:=0}:Range),seep:=(({ n:=0,d:=1}:Ratio),({ n:=0,d:=1}:Ratio))}:Reach),({ name:=(ByteArray.mk #[]),up:=(-1),delay:=1,cap:=20,bank:=50,siphon:=0,evap:=({ lo:=0,hi:=0}:Range),seep:=(({ n:=0,d:=1}:Ratio),({ n:=0,d:=1}:Ratio))}:Reach)]).getD 1 (default:Reach)).siphon,evap:=(([({ name:=(ByteArray.mk #[]),up:=(-1),delay:=1,cap:=20,bank:=50,siphon:=0,evap:=({ lo:=0,hi:=0}:Range),seep:=(({ n:=0,d:=1}:Ratio),({ n:=0,d:=1}:Ratio))}:Reach),({ name:=(ByteArray.mk #[]),up:=(-1),delay:=1,cap:=20,bank:=50,siphon:=0,evap:=({ lo:=0,hi:=0}:Range),seep:=(({ n:=0,d:=1}:Ratio),({ n:=0,d:=1}:Ratio))}:Reach)]).getD 1 (default:Reach)).evap,seep:=(([({ name:=(ByteArray.mk #[]),up:=(-1),delay:=1,cap:=20,bank:=50,siphon:=0,evap:=({ lo:=0,hi:=0}:Range),seep:=(({ n:=0,d:=1}:Ratio),({ n:=0,d:=1}:Ratio))}:Reach),({ name:=(ByteArray.mk #[]),up:=(-1),delay:=1,cap:=20,bank:=50,siphon:=0,evap:=({ lo:=0,hi:=0}:Range),seep:=(({ n:=0,d:=1}:Ratio),({ n:=0,d:=1}:Ratio))}:Reach)]).getD 1 (default:Reach)).seep}:Reach)),farms:=[({ name:=(ByteArray.mk #[]),reach:=1,area:=10,crop:=0}:Farm),({ name:=(ByteArray.mk #[]),reach:=1,area:=10,crop:=0}:Farm)],crops:=[({ name:=(ByteArray.mk #[]),need:=3}:Crop)],rights:=[({ name:=(ByteArray.mk #[]),kind:=1,farm:=0,reach:=0,rank:=7,litres:=5,since:=0,to:=3,every:=2,length:=1}:Right),({ name:=(ByteArray.mk #[]),kind:=2,farm:=1,reach:=1,rank:=0,litres:=0,since:=0,to:=3,every:=0,length:=0}:Right)],duties:=[],wells:=[]}:District)
def lu:Prop:=(0≤1∧1< (([({ name:=(ByteArray.mk #[]),up:=(-1),delay:=1,cap:=20,bank:=50,siphon:=0,evap:=({ lo:=0,hi:=0}:Range),seep:=(({ n:=0,d:=1}:Ratio),({ n:=0,d:=1}:Ratio))}:Reach),({ name:=(ByteArray.mk #[]),up:=(-1),delay:=1,cap:=20,bank:=50,siphon:=0,evap:=({ lo:=0,hi:=0}:Range),seep:=(({ n:=0,d:=1}:Ratio),({ n:=0,d:=1}:Ratio))}:Reach)]).length:Int))
@[go_sem] def oW:List SV→Option Con:=(pE (.det (lu) (.agg [.v (.string ((bf).name)),.v (.int .i64 ((bf).hours)),.v (.int .i64 ((bf).tank.cap)),.v (.int .i64 ((bf).tank.start)),.nw .reach ((bf).reaches),.nw .farm ((bf).farms),.nw .crop ((bf).crops),.nw .right ((bf).rights),.v (.slice none 0 0),.v (.slice none 0 0)])))
theorem uo:FnOk Tryz.prog 27 oW:=by
 have hG:ConsOk Tryz.prog (mkG [] []):=aw cg0 cg0;refine ov [] mixed am hG (fn:=Tryz.f27) (c:=ae Tryz.f27) kr kr kr kr (aH (fun hp=>?_));dsimp only[aD]at hp;unfold lu at hp;refine⟨nbl rfl,L0,ah _,?_⟩
 ·unfold ae Tryz.f27;try unfold bf
  exact zq1
def jL:=([({ right:=0,farm:=0,hour:=2,litres:=5,rank:=7}:Claim)])
def jM:=([({ right:=0,farm:=0,hour:=0,litres:=0,rank:=7}:Claim)])
def jN:=([({ right:=0,farm:=0,hour:=0,reach:=1}:Block),({ right:=0,farm:=0,hour:=2,reach:=1}:Block)])
def g8:=(bf.rights++([({ name:=(ByteArray.mk #[]),kind:=3,farm:=0,reach:=1,rank:=0,litres:=0,since:=2,to:=3,every:=0,length:=0}:Right)]))
def db:=({ name:=bf.name,hours:=bf.hours,tank:=bf.tank,reaches:=bf.reaches,farms:=bf.farms,crops:=bf.crops,rights:=bf.rights,duties:=[],wells:=[]}:District)
def cw:=(cX db ([]) 0 4 0)
def cy:=(cX db ([]) 0 3 0)
def fM:=(cy.1)
def cA:=(b8 db ([]) 0 3 0)
def fN:=(cA.1)
def dc:=(fM.length:Int)
def cn:=({ name:=bf.name,hours:=bf.hours,tank:=bf.tank,reaches:=bf.reaches,farms:=bf.farms,crops:=bf.crops,rights:=g8,duties:=[],wells:=[]}:District)
def dT:=(dZ fN jN)
def g9:=(d5 fN jN)
def cB:=(cX cn ([]) 0 3 0)
def dz:=(cB.1)
def cN:=(b8 cn ([]) 0 3 0)
def gw:=(cN.1)
def dM:=(jA cn jM)
def fB:=(i6 dz jL)
def iM:=(d5 gw ([({ right:=0,farm:=0,hour:=0,reach:=1}:Block)]))
def iN:=(jB dz jL)
def dg:=(jA cn dz)
def eP:=(dz++dz)
def fC:=(jA cn eP)
def iO:=(fJ cn eP)
def kg:Bool:=(bif((((((((cy.2 !=0) ||(cA.2 !=0)) ||(cw.2 !=1)) ||(cB.2 !=0)) ||(cN.2 !=0)) ||(dg !=0)) ||(dM !=260)) ||(fC !=260))then false else((((dc==0)&&dT)&&fB)&&(dZ gw ([({ right:=0,farm:=0,hour:=0,reach:=1}:Block)]))))
def jO:Prop:=((lu)∧((fR db ([]) 0 3 0)∧((d8 db ([]) 0 3 0)∧((fR db ([]) 0 4 0)∧((g8.length*88≤fb)∧(g8.length≤bo→((fR cn ([]) 0 3 0)∧((d8 cn ([]) 0 3 0)∧(((((((cy.2 !=0) ||(cA.2 !=0)) ||(cw.2 !=1)) ||(cB.2 !=0)) ||(cN.2 !=0))=false→(fJ cn dz))∧((((((((cy.2 !=0) ||(cA.2 !=0)) ||(cw.2 !=1)) ||(cB.2 !=0)) ||(cN.2 !=0)) ||(dg !=0))=false→(fJ cn jM))∧(((((((((cy.2 !=0) ||(cA.2 !=0)) ||(cw.2 !=1)) ||(cB.2 !=0)) ||(cN.2 !=0)) ||(dg !=0)) ||(dM !=260))=true→(((((((((cy.2 !=0) ||(cA.2 !=0)) ||(cw.2 !=1)) ||(cB.2 !=0)) ||(cN.2 !=0)) ||(dg !=0)) ||(dM !=260))=false→iO)∧(((((((((cy.2 !=0) ||(cA.2 !=0)) ||(cw.2 !=1)) ||(cB.2 !=0)) ||(cN.2 !=0)) ||(dg !=0)) ||(dM !=260)) ||(fC !=260))=false→(fM.length≤bo→(((dc==0)=true→g9)∧((((dc==0)&&dT)=true→iN)∧((((dc==0)&&dT)&&fB)=true→iM)))))))∧((((((((cy.2 !=0) ||(cA.2 !=0)) ||(cw.2 !=1)) ||(cB.2 !=0)) ||(cN.2 !=0)) ||(dg !=0)) ||(dM !=260))=false→((eP.length*40≤fb)∧(eP.length≤bo→(((((((((cy.2 !=0) ||(cA.2 !=0)) ||(cw.2 !=1)) ||(cB.2 !=0)) ||(cN.2 !=0)) ||(dg !=0)) ||(dM !=260))=false→iO)∧(((((((((cy.2 !=0) ||(cA.2 !=0)) ||(cw.2 !=1)) ||(cB.2 !=0)) ||(cN.2 !=0)) ||(dg !=0)) ||(dM !=260)) ||(fC !=260))=false→(fM.length≤bo→(((dc==0)=true→g9)∧((((dc==0)&&dT)=true→iN)∧((((dc==0)&&dT)&&fB)=true→iM))))))))))))))))))))
@[go_sem] def tz:List SV→Option Con:=(pE (.det (jO) (.v (.bool (kg)))))
theorem yq:FnOk Tryz.prog 10 tz:=by
 have hG:ConsOk Tryz.prog (mkG [(12,fun l=>qg (dh [.st .district,.sl .deed,.o,.o,.o] l)),(14,fun l=>kf (dh [.st .district,.sl .deed,.o,.o,.o] l)),(16,fun l=>oy (dh [.sl .claim,.sl .claim] l)),(17,fun l=>i7 (dh [.sl .block,.sl .block] l)),(19,fun l=>px (dh [.st .district,.sl .claim] l)),(27,oW)] []):=aw (cgc (tn.norm [.st .district,.sl .deed,.o,.o,.o]) (cgc (mW.norm [.st .district,.sl .deed,.o,.o,.o]) (cgc (rf.norm [.sl .claim,.sl .claim]) (cgc (lB.norm [.sl .block,.sl .block]) (cgc (u_.norm [.st .district,.sl .claim]) (cgc uo cg0)))))) cg0;refine aZ [.o] mixed am hG (fn:=Tryz.f10) (c:=ae Tryz.f10) kr kr kr kr (aH (fun hp=>?_));dsimp only[aD]at hp;unfold jO at hp;try simp only[jL,jM,jN,g8,db,cw,cy,fM,cA,fN,dc,cn,dT,g9,cB,dz,cN,gw,dM,fB,iM,iN,dg,eP,fC,iO]at hp
 refine⟨nbl rfl,L0,ah _,?_⟩
 ·unfold ae Tryz.f10;try unfold kg
  simp (maxSteps:=1000000) only[go_sem,Nat.reduceBEq,Nat.reduceLeDiff,Nat.reduceLT,decide_true,Nat.reduceAdd,Nat.reduceSub,Nat.reduceMul,Int.reduceLE,Int.reduceLT,Int.reduceToNat,Int.reduceNeg,reduceCtorEq,jL,jM,jN,g8,db,cw,cy,fM,cA,fN,dc,cn,dT,g9,cB,dz,cN,gw,dM,fB,iM,iN,dg,eP,fC,iO];all_goals exact cl
structure FineC (d:District)(x:Claim):Prop where
 r0:0≤x.right
 r1:x.right< (d.rights.length:Int)
 f0:0≤x.farm
 f1:x.farm< (d.farms.length:Int)
 h0:0≤x.hour
 h1:x.hour<d.hours
 l0:1≤x.litres
 l1:x.litres≤1073741824
 kind:(d.rights.getD x.right.toNat default).kind=1
 rank:(d.rights.getD x.right.toNat default).rank=x.rank
def Ju (d:District)(x:Claim):Bool:=(((((((decide (x.right≥0))&&(decide (x.right< (d.rights.length:Int))))&&(decide (x.farm≥0)))&&(decide (x.farm< (d.farms.length:Int))))&&(decide (x.hour≥0)))&&(decide (x.hour<d.hours)))&&(decide (x.litres≥1)))&&(decide (x.litres≤1073741824))
theorem GR (d:District)(x:Claim):Ju d x=true↔(0≤x.right∧x.right< (d.rights.length:Int))∧(0≤x.farm∧x.farm< (d.farms.length:Int))∧(0≤x.hour∧x.hour<d.hours)∧(1≤x.litres∧x.litres≤1073741824):=by
 unfold Ju;simp only[Bool.and_eq_true,decide_eq_true_eq];omega
theorem Jv (d:District)(c:List Claim):fJ d c:=fun _ _ h _=>mN _ _ _ fun j _ _ hj=>by
 have hle:c.length≤4096:=by have:=of_decide_eq_false h;omega
 have h8:=GR d (c.getD j default);unfold Ju at h8;unfold gH;refine⟨fun h=>?_,fun h=>?_,fun h h0=>?_⟩
 ·rw[Bool.not_eq_false']at h;exact(h8.1 h).1
 ·rw[Bool.or_eq_false_iff,Bool.not_eq_false']at h;exact(h8.1 h.1).1
 ·have h0:=of_decide_eq_true h0;rw[bt (by omega) (by omega)];omega
def uq (d:District)(l:List Deed)(k fr to:Int):List ClaimsFound:=(hrs fr to).flatMap fun h=>(((kW d (oV d l h k)).filterMap (opn d h)).foldl yp []).map (fnd d h)
theorem Cy {d:District}{l:List Deed}{k fr to:Int}(h:n8 d l fr to k=0):eM d l k fr to=uq d l k fr to:=by
 obtain⟨hc,⟨⟨a,b,c⟩,e,f⟩,_⟩:=GQ h;unfold eM uq;have:∀ L:List Int,(∀ x∈L,fr≤x∧x≤to)→(L.flatMap fun h=>(xO d l h k).map (fnd d h))=L.flatMap fun h=>(((kW d (oV d l h k)).filterMap (opn d h)).foldl yp []).map (fnd d h):=fun L=>by
  induction L with
  |nil=>intro _;rfl
  |cons x L ih=>
   intro hL;have hx:=hL x (by simp);rw[List.flatMap_cons,List.flatMap_cons,ih fun y hy=>hL y (by simp[hy])];congr 2
   unfold xO gJ;rw[(xK d l x k).2,if_neg (by simp[hc]),if_pos (by omega)]
 exact this _ fun x hx=>LN.1 hx
theorem Fv {d:District}{l:List Deed}{k fr to:Int}{F:List ClaimsFound}(h:n8 d l fr to k=0)(hF:uq d l k fr to=F)(h1:decide (4096< (F.filterMap ofF).length)=false):cX d l fr to k=(F.filterMap ofF,0):=by
 rw[(tx d l fr to k).2];unfold lim ofL;rw[Cy h,hF,if_pos h,if_neg (of_decide_eq_false h1)]
theorem Fx {d:District}{l:List Deed}{k fr to:Int}{F:List ClaimsFound}(h:n8 d l fr to k=0)(hF:uq d l k fr to=F)(h1:decide (4096< (F.filterMap blF).length)=false):b8 d l fr to k=(F.filterMap blF,0):=by
 rw[(xV d l fr to k).2];unfold lim blL;rw[Cy h,hF,if_pos h,if_neg (of_decide_eq_false h1)]
abbrev Cz (h:Int):Claim:= { right:=0,farm:=0,hour:=h,litres:=5,rank:=7}
theorem ex1:n8 db [] 0 3 0=0:=by kernel_rfl
theorem ex2:uq db [] 0 0 3=[{ claim:=Cz 0,reach:=1},{ claim:=Cz 2,reach:=1}]:=by kernel_rfl
theorem ex3:n8 cn [] 0 3 0=0:=by kernel_rfl
theorem ex4:uq cn [] 0 0 3=[{ claim:=Cz 0,reach:=1},{ claim:=Cz 2,reach:= -1}]:=by kernel_rfl
theorem s19:cy=([],0):=Fv ex1 ex2 kr
theorem s17:cA=([{ right:=0,farm:=0,hour:=0,reach:=1},{ right:=0,farm:=0,hour:=2,reach:=1}],0):=Fx ex1 ex2 kr
theorem s20:cw=([],1):=by
 have h:n8 db [] 0 4 0=1:=by kernel_rfl
 unfold cw;rw[(tx _ _ _ _ _).2];unfold lim;rw[h];rfl
theorem s11:cB=([Cz 2],0):=Fv ex3 ex4 kr
theorem s9:cN=([{ right:=0,farm:=0,hour:=0,reach:=1}],0):=Fx ex3 ex4 kr
theorem s10:dz=[Cz 2]:=by unfold dz;rw[s11]
theorem s2:eP=[Cz 2,Cz 2]:=by unfold eP;rw[s10];rfl
theorem s3:dg=0:=by unfold dg;rw[s10];kernel_rfl
theorem s7:dM=260:=by kernel_rfl
theorem s1:fC=260:=by unfold fC;rw[s2];kernel_rfl
theorem s16:fN=[{ right:=0,farm:=0,hour:=0,reach:=1},{ right:=0,farm:=0,hour:=2,reach:=1}]:=by unfold fN;rw[s17]
theorem s8:gw=[{ right:=0,farm:=0,hour:=0,reach:=1}]:=by unfold gw;rw[s9]
theorem s13:dT=true:=by unfold dT;rw[s16];exact r8 _
theorem s6:fB=true:=by unfold fB;rw[s10];exact zo _
theorem s15:dc=0:=by unfold dc fM;rw[s19];rfl
theorem O6:kg=true:=by
 unfold kg;rw[s19,s17,s20,s11,s9,s3,s7,s1,s13,s6,s15,s8,r8];rfl
theorem Jw:jO:=by
 unfold jO iO g9 iN iM;refine⟨⟨by omega,of_decide_eq_true kr⟩,(tx _ _ _ _ _).1,(xV _ _ _ _ _).1,(tx _ _ _ _ _).1,?_,fun _=>⟨(tx _ _ _ _ _).1,(xV _ _ _ _ _).1,?_⟩⟩
 ·exact nbl kr
 ·simp only[Jv,Fu,Jt,true_and,and_true,implies_true,true_imp_iff];intro _;rw[s2];exact nbl kr

@[go_sem] def eu (a1:List Deed)(a4:Int)(k_0:Nat)(s_0:List Deed):Empty⊕(List Deed):=(bif(decide ((a1.getD k_0 (default:Deed)).known≤a4))then .inr (s_0++([(a1.getD k_0 (default:Deed))]))else .inr s_0)
def gb (a1:List Deed)(a4:Int)(k_0:Nat)(s_0:List Deed):Prop:=((decide ((a1.getD k_0 (default:Deed)).known≤a4))=true→((s_0++([(a1.getD k_0 (default:Deed))])).length*88≤fb))
def eB (a0:District)(a1:List Deed)(a2:Int)(a3:Int)(a4:Int):Bool:=(bif(!kg)then false else(bif((!(lV a0 a1 a2 a3)) ||((an a0 a1) !=0))then true else(match aq (eu a1 a4) a1.length 0 ([])with| .inl x=>x.elim| .inr s_0=>((((i6 ((cX a0 a1 a2 a3 a4).1) ((cX a0 s_0 a2 a3 a4).1))&&((cX a0 a1 a2 a3 a4).2==(cX a0 s_0 a2 a3 a4).2))&&(dZ ((b8 a0 a1 a2 a3 a4).1) ((b8 a0 s_0 a2 a3 a4).1)))&&((b8 a0 a1 a2 a3 a4).2==(b8 a0 s_0 a2 a3 a4).2)))))
def dU (a0:District)(a1:List Deed)(a2:Int)(a3:Int)(a4:Int):Prop:=((jO)∧((!kg)=false→(((!(lV a0 a1 a2 a3))=false→(eT a0 a1))∧(((!(lV a0 a1 a2 a3)) ||((an a0 a1) !=0))=false→(a1.length≤bo→(okI (eu a1 a4) (gb a1 a4) a1.length 0 ([])∧(∀ s_0,aq (eu a1 a4) a1.length 0 ([])=.inr s_0→((fR a0 a1 a2 a3 a4)∧((fR a0 s_0 a2 a3 a4)∧((d8 a0 a1 a2 a3 a4)∧((d8 a0 s_0 a2 a3 a4)∧((jB ((cX a0 a1 a2 a3 a4).1) ((cX a0 s_0 a2 a3 a4).1))∧(((i6 ((cX a0 a1 a2 a3 a4).1) ((cX a0 s_0 a2 a3 a4).1))&&((cX a0 a1 a2 a3 a4).2==(cX a0 s_0 a2 a3 a4).2))=true→(d5 ((b8 a0 a1 a2 a3 a4).1) ((b8 a0 s_0 a2 a3 a4).1)))))))))))))))
@[go_sem] def iB:List SV→Option Con:=(pD .district fun a0=>(pR .deed fun a1=>(pI fun a2=>(pI fun a3=>(pI fun a4=>(pE (.det (dU a0 a1 a2 a3 a4) (.v (.bool (eB a0 a1 a2 a3 a4))))))))))
theorem qj:FnOk Tryz.prog 9 iB:=by
 have hG:ConsOk Tryz.prog (mkG [(10,tz),(11,fun l=>uK (dh [.st .district,.sl .deed,.o,.o] l)),(12,fun l=>qg (dh [.st .district,.sl .deed,.o,.o,.o] l)),(14,fun l=>kf (dh [.st .district,.sl .deed,.o,.o,.o] l)),(16,fun l=>oy (dh [.sl .claim,.sl .claim] l)),(17,fun l=>i7 (dh [.sl .block,.sl .block] l)),(26,fun l=>ij (dh [.st .district,.sl .deed] l))] []):=aw (cgc yq (cgc (An.norm [.st .district,.sl .deed,.o,.o]) (cgc (tn.norm [.st .district,.sl .deed,.o,.o,.o]) (cgc (mW.norm [.st .district,.sl .deed,.o,.o,.o]) (cgc (rf.norm [.sl .claim,.sl .claim]) (cgc (lB.norm [.sl .block,.sl .block]) (cgc (jC.norm [.st .district,.sl .deed]) cg0))))))) cg0;refine aZ [.o] mixed am hG (fn:=Tryz.f9) (c:=ae Tryz.f9) kr kr kr kr (a7 fun a0=>(dY fun a1=>(b9 fun a2=>(b9 fun a3=>(b9 fun a4=>(aH (fun hp=>?_)))))));dsimp only[aD]at hp;unfold dU at hp;refine⟨nbl rfl,(fun id st=>bif Nat.beq id 0 then some (LCR (ρ:=Empty) (σ:=(List Deed)) 1 [.slot 11 (.row .deed ([]))] [0,1] (fun k_0 s_0=>⟨[(1,.rs .deed a1),(2,.v (.int .i64 a2)),(3,.v (.int .i64 a3)),(4,.v (.int .i64 a4)),(5,.ptr 0 0),(11,.os 1),(36,.rs .deed a1),(37,.v (.int .i64 (a1.length:Int))),(38,.v (.int .i64 (k_0:Int)))],[.cells (cellsOf .district a0),.row .deed s_0]⟩) (eu a1 a4) (gb a1 a4) a1.length ([]) (a1.length≤bo) ((·.elim)) ((·.elim)) st)else none),?_,?_⟩
 ·unfold ae Tryz.f9;simp only[al,true_and,and_true]
  ·refine c5 mixed am hG kr (fun _=>rfl) (a1.length:Int) rfl iw (fun hb0 k_0 s_0 hlt0 hq0 hw hc=>⟨L0,ah _,?_⟩) (fun hb0 s_0 hc=>?_)
   ·unfold gb at hq0;try simp only[hw,Int.toNat_natCast]at hq0
    exact xA (jl [0,4]) (jl [0,1])
   ·exact xB (jl [0,4]) (jl [0,1])
 ·unfold ae Tryz.f9;try unfold eB
  exact zq1
def kn (k:Int)(x:Deed):Bool:=decide (x.known≤k)
theorem CA {d:District}{l:List Deed}(k:Int)(h:an d l=0):an d (l.filter (kn k))=0:=
 AH (kn k) h fun x hx hp hk y hy e=>by
  have:=((nX h).target hx hk hy e).2.1;unfold kn at hp ⊢;rw[decide_eq_true_eq]at hp ⊢;omega
theorem D_ (l:List Deed)(h k:Int):rY l h k=rY (l.filter (kn k)) h k:=Ct l h k (kn k) fun x hx=>by
 rw[Jj,Jj];have hkn:kn k x=true↔x.known≤k:=by unfold kn;rw[decide_eq_true_eq]
 rw[hkn];constructor
 ·rintro⟨a,b,c,e⟩;exact⟨b,a,b,c,fun⟨u,hu,q⟩ =>e ⟨u,(List.mem_filter.1 hu).1,q⟩⟩
 ·rintro⟨b,a,_,c,e⟩;exact⟨a,b,c,fun⟨u,hu,q1,q2,q3⟩ =>e ⟨u,List.mem_filter.2 ⟨hu,by unfold kn;rw[decide_eq_true_eq];exact q2⟩,q1,q2,q3⟩⟩
theorem CB {d:District}{l:List Deed}(h:an d l=0)(fr to k:Int):n8 d l fr to k=n8 d (l.filter (kn k)) fr to k∧eM d l k fr to=eM d (l.filter (kn k)) k fr to:=by
 have h':=CA k h;refine⟨by unfold n8;rw[h,h'],?_⟩;unfold eM xO gJ;congr 1
 funext x
 rw[Ji h h' (D_ l x k)]
theorem zp (d:District)(l:List Deed)(fr to k:Int):dU d l fr to k∧eB d l fr to k=true:=by
 have hstep:∀ j s,j<l.length→eu l k j s=bif kn k (l.getD j default)then .inr (s++[l.getD j default])else .inr s:=fun j s _=>rfl;have hrun:=D4 l default (kn k) hstep;unfold dU eB;rw[O6,hrun];refine⟨⟨Jw,fun _=>⟨fun _=>mv d l,fun hf _=>⟨?_,fun s hs=>⟨(tx _ _ _ _ _).1,(tx _ _ _ _ _).1,(xV _ _ _ _ _).1,(xV _ _ _ _ _).1,Jt _ _,fun _=>Fu _ _⟩⟩⟩⟩,?_⟩
 ·have hc:an d l=0:=by
   rw[Bool.or_eq_false_iff]at hf;simpa using hf.2
  have hl:=(nX hc).len;refine D5 l default (kn k) hstep fun j s hj hs=>?_;intro _;rw[List.length_append,List.length_singleton];unfold fb;omega
 ·simp only[Bool.not_true,cond_false];cases hf:((!(lV d l fr to)) ||((an d l) !=0))with
  |true=>rfl
  |false=>
   have hc:an d l=0:=by
    rw[Bool.or_eq_false_iff]at hf;simpa using hf.2
   obtain⟨e1,e2⟩:=CB hc fr to k;simp only[cond_false];rw[(tx d l fr to k).2,(tx d (l.filter (kn k)) fr to k).2,(xV d l fr to k).2,(xV d (l.filter (kn k)) fr to k).2];unfold ofL blL;rw[e1,e2,zo,r8];simp
theorem L7 (d:District)(l:List Deed)(fr to k:Int)(_: -9223372036854775808≤fr∧fr≤9223372036854775807)(_: -9223372036854775808≤to∧to≤9223372036854775807)(_: -9223372036854775808≤k∧k≤9223372036854775807):dU d l fr to k:=(zp d l fr to k).1
theorem L8 (d:District)(l:List Deed)(fr to k:Int)(_: -9223372036854775808≤fr∧fr≤9223372036854775807)(_: -9223372036854775808≤to∧to≤9223372036854775807)(_: -9223372036854775808≤k∧k≤9223372036854775807):eB d l fr to k=true:=(zp d l fr to k).2
end Go.Sx
end
section
namespace Go.Sx
open Go.Deep Go.RowKit
section
variable {F:Nat→Prop}{own:Own}{w:World}
def RC (F:Nat→Prop)(own:Own)(w:World)(ks:List Kd)(cs:List Value):Prop:=
 ∃ l:List SV,nr ks l=true∧l.length=cs.length∧∀ (j:Nat) (s:SV) (v:Value),l[j]? =some s→cs[j]? =some v→Rel F own w s v
theorem CC:∀ {a b:List Kd} {l m:List SV},nr a l=true→nr b m=true→nr (a++b) (l++m)=true
 | [],b,l,m,h1,h2=>by rw[nD h1];exact h2
 |k::a,b,l,m,h1,h2=>by
  obtain⟨x,r,rfl,e1,e2⟩:=jW h1;simp only[List.cons_append,nr,e1,CC e2 h2,Bool.and_self]
theorem RC.nil:RC F own w [] []:=⟨[],rfl,rfl,fun j s v h=>by cases h⟩
theorem RC.app {a b:List Kd}{c d:List Value}(h1:RC F own w a c)(h2:RC F own w b d):RC F own w (a++b) (c++d):=by
 obtain⟨l,f1,n1,r1⟩:=h1;obtain⟨m,f2,n2,r2⟩:=h2;refine⟨l++m,CC f1 f2,by simp[n1,n2],fun j s v hs hv=>?_⟩;by_cases hj:j<l.length
 ·rw[List.getElem?_append_left hj]at hs;rw[List.getElem?_append_left (by omega)]at hv;exact r1 j s v hs hv
 ·rw[List.getElem?_append_right (by omega)]at hs;rw[List.getElem?_append_right (by omega),←n1]at hv;exact r2 _ s v hs hv
theorem RC.one {k:Kd}{s:SV}{v:Value}(h1:fit k s=true)(h2:Rel F own w s v):RC F own w [k] [v]:=
 ⟨[s],by simp[nr,h1],rfl,fun j s' v' hs hv=>by
  cases j with
  |zero=>simp only[List.getElem?_cons_zero,Option.some.injEq]at hs hv;subst hs;subst hv;exact h2
  |succ j=>simp at hs⟩
end
def O7:Kd→Kd→Bool
 | .s,.s=>true
 | .b,.b=>true
 | .n a,.n b=>decide (a=b)
 | .r a,.r b=>decide (a=b)
 | .m a c,.m b d=>decide (a=b)&&decide (c=d)
 |_,_=>false
theorem L9:∀ {a b:Kd},O7 a b=true→a=b:=by
 intro a b h;cases a <;>cases b <;>simp_all [O7]
def Jx:List Kd→List Kd→Bool
 | [],[] =>true
 |a::l,b::m=>O7 a b&&Jx l m
 |_,_=>false
theorem Fy:∀ {a b:List Kd},Jx a b=true→a=b
 | [],[],_=>rfl
 |a::l,b::m,h=>by
  simp only[Jx,Bool.and_eq_true]at h;rw[L9 h.1,Fy h.2]
def xW (P:Program)(g:TypeId→Option (List Kd)):List Field→Nat→Nat→Option (List Kd)
 | [],off,tot=>bif Nat.beq off tot then some []else none
 |f::r,off,tot=>match g f.type with
  |some a=>bif Nat.beq f.offset off&&Nat.beq a.length (P.cellsOf f.type)then(xW P g r (off+a.length) tot).map (a++ ·)else none
  |none=>none
def Ea (a:List Kd):Nat→List Kd
 |0=>[]
 |n+1=>a++Ea a n
def xX (P:Program):Nat→TypeId→Option (List Kd)
 |0,_=>none
 |n+1,t=>match P.underlying t with
  |some .bool=>some [.b]
  |some (.int k) =>some [.n k]
  |some .string=>some [.s]
  |some (.slice e) =>match AV P e,xX P n e with
   |some k,some ks=>bif Jx ks (cK k)&&Nat.beq (P.cellsOf e) (aa k)&&Nat.ble 1 (aa k)then some [.r k]else none
   |_,_=>none
  |some (.struct fs) =>xW P (xX P n) fs.toList 0 (P.cellsOf t)
  |some (.array m e) =>match xX P n e with
   |some a=>bif Nat.beq a.length (P.cellsOf e)&&Nat.beq (P.cellsOf t) (m*a.length)then some (Ea a m)else none
   |none=>none
  |_=>none
section
variable {H:Type}{enc:TypeId×Value→H}{P:Program}{F:Nat→Prop}{own:Own}{w:World}{base:Nat}{spare:Nat→Bool}{held:Bool}{S:DataW H→Prop}
theorem Fz {g:TypeId→Option (List Kd)}(hg:∀ t ks,g t=some ks→∀ (fuel:Nat) (cs:List Value) (x:DataW H×List MemPlace),DataW.trod enc P w base spare held fuel t cs=some x→S x.1→RC F own w ks cs)
  (fuel:Nat) (cs:List Value):∀ (fs:List Field) (off:Nat) (ks:List Kd),xW P g fs off cs.length=some ks→(∀ f∈fs,∃ x,DataW.trod enc P w base spare held fuel f.type ((cs.drop f.offset).take (P.cellsOf f.type))=some x∧S x.1)→RC F own w ks (cs.drop off)
 | [],off,ks,h,_=>by
  unfold xW at h;cases hb:Nat.beq off cs.length with
  |false=>rw[hb]at h;cases h
  |true=>
   rw[hb]at h;have:off=cs.length:=Nat.eq_of_beq_eq_true hb;subst this;cases h;rw[List.drop_length];exact RC.nil
 |f::r,off,ks,h,hx=>by
  unfold xW at h;cases ha:g f.type with
  |none=>rw[ha]at h;cases h
  |some a=>
   rw[ha]at h;dsimp only at h;cases hb:Nat.beq f.offset off&&Nat.beq a.length (P.cellsOf f.type)with
   |false=>rw[hb]at h;cases h
   |true=>
    rw[hb]at h;simp only[cond_true,Option.map_eq_some_iff]at h;obtain⟨ks2,h2,rfl⟩:=h;rw[Bool.and_eq_true]at hb;have e1:f.offset=off:=Nat.eq_of_beq_eq_true hb.1;have e2:a.length=P.cellsOf f.type:=Nat.eq_of_beq_eq_true hb.2;obtain⟨x,hx1,hs1⟩:=hx f (by simp);have h3:=hg _ _ ha _ _ _ hx1 hs1;have h4:=Fz hg fuel cs r (off+a.length) ks2 h2 fun f hf=>hx f (by simp[hf]);have:=h3.app h4;rw[e1,←e2]at this
    rwa[←List.drop_drop,List.take_append_drop]at this
theorem FA {e:TypeId}{a:List Kd}(ha:∀ (fuel:Nat) (cs:List Value) (x:DataW H×List MemPlace),DataW.trod enc P w base spare held fuel e cs=some x→S x.1→RC F own w a cs)
  (fuel:Nat):∀ (m:Nat) (cs:List Value),cs.length=m*a.length→(∀ i,i<m→∃ x,DataW.trod enc P w base spare held fuel e ((cs.drop (i*a.length)).take a.length)=some x∧S x.1)→RC F own w (Ea a m) cs
 |0,cs,h,_=>by
  have:cs=[]:=by simpa using h
  subst this;exact RC.nil
 |m+1,cs,h,hx=>by
  obtain⟨x,hx1,hs1⟩:=hx 0 (by omega);rw[Nat.zero_mul,List.drop_zero]at hx1;have h3:=ha _ _ _ hx1 hs1;have h4:=FA ha fuel m (cs.drop a.length) (by rw[List.length_drop,h,Nat.succ_mul];omega) fun i hi=>by
   obtain⟨x,hx2,hs2⟩:=hx (i+1) (by omega);refine⟨x,?_,hs2⟩;rw[List.drop_drop]
   rwa[Nat.succ_mul,Nat.add_comm]at hx2
  have:=h3.app h4
  rwa[List.take_append_drop]at this
structure Small (S:DataW H→Prop):Prop where
 agg:∀ l,S (.agg l)→∀ d∈l,S d
 slice:∀ l m,S (.slice l m)→l.length≤bo∧∀ d∈l,S d
theorem mA (hS:Small S)(hown:∀ b,¬bQ F own b):∀ (n:Nat) (t:TypeId) (ks:List Kd),xX P n t=some ks→∀ (fuel:Nat) (cs:List Value) (x:DataW H×List MemPlace),DataW.trod enc P w base spare held fuel t cs=some x→S x.1→RC F own w ks cs
 |0,_,_,h,_,_,_,_,_=>by cases h
 |n+1,t,ks,h,fuel,cs,x,hx,hs=>by
  unfold xX at h;split at h
  ·rename_i ht;cases h;obtain⟨b,rfl,rfl⟩:=DataW.trod_bool ht hx;exact RC.one (s:=.v (.bool b)) rfl (.v _)
  ·rename_i k ht;cases h;obtain⟨m,rfl,rfl,_⟩:=DataW.trod_int ht hx;exact RC.one (s:=.v (.int k m)) (by simp[fit]) (.v _)
  ·rename_i ht;cases h;obtain⟨b,rfl,rfl,_⟩:=DataW.trod_string ht hx;exact RC.one (s:=.v (.string b)) rfl (.v _)
  ·rename_i e ht;split at h
   ·rename_i k ks2 hk hks;cases hb:Jx ks2 (cK k)&&Nat.beq (P.cellsOf e) (aa k)&&Nat.ble 1 (aa k)with
    |false=>rw[hb]at h;cases h
    |true=>
     rw[hb]at h;cases h;simp only[Bool.and_eq_true]at hb;have e1:=Fy hb.1.1;have e2:P.cellsOf e=aa k:=Nat.eq_of_beq_eq_true hb.1.2;have e3:1≤aa k:=nbl hb.2;subst e1;rcases open_slice ht hx with⟨rfl,rfl⟩ | ⟨a,len,cap,m,f2,D,Pl,rfl,hb1,hl,hm,hmm,rfl,hel⟩
     ·exact RC.one (s:=.rs k []) (by simp[fit]) .rs0
     ·have hlm:len≤m:=by subst hmm;split <;>omega
      obtain⟨hs1,hs2⟩:=hS.slice _ _ hs;simp only[List.length_map,List.length_range]at hs1;have helt:∀ i,i<len→∃ cs',cs'.length=aa k∧(∀ j v,cs'[j]? =some v→w.cell? ((a.add (i*aa k)).add j)=some v)∧RC F own w (cK k) cs':=fun i hi=>by
       obtain⟨cs',h1,h2⟩:=hel i (by omega);have h3:=mA hS hown n e (cK k) hks f2 cs' _ h2 (hs2 _ (List.mem_map_of_mem (List.mem_range.2 hi)));unfold World.cells? at h1;split at h1
       ·refine⟨cs',by rw[mapM_some_length h1,List.length_range,e2],fun j v hj=>?_,h3⟩;have hlt:j<P.cellsOf e:=by
         have:=(List.getElem?_eq_some_iff.1 hj).1
         rwa[mapM_some_length h1,List.length_range]at this
        have:=mapM_some_get h1 j j (by simp[hlt]);rw[e2]at this;rw[this,hj]
       ·cases h1
      by_cases h0:len=0
      ·subst h0;exact RC.one (s:=.rs k []) (by simp[fit]) .rs0
      ·have hsp:a.spot=none:=by
        obtain⟨cs',h1,h2,_⟩:=helt 0 (by omega);have:=h2 0 (cs'[0]'(by omega)) (by rw[List.getElem?_eq_getElem]);rw[Nat.zero_mul]at this;simp only[Addr.add,if_true]at this;unfold World.cell? at this;split at this
        ·cases hsp:a.spot with
         |none=>rfl
         |some q=>rw[hsp]at this;simp at this
        ·cases this
       obtain⟨ab,ao,asp⟩:=a;dsimp only at hsp;subst hsp
       haveI:Inhabited k.T:=⟨cP k⟩
       obtain⟨X,hX⟩:=choose_lt (p:=fun i (x:k.T) =>∀ (j:Nat) (s:SV),(cellsOf k x)[j]? =some s→∃ v,w.cell? ⟨ab,ao+i*aa k+j,none⟩=some v∧Rel F own w s v) (n:=len) fun i hi=>by
        obtain⟨cs',h1,h2,l,h3,h4,h5⟩:=helt i hi;refine⟨mkE k l,fun j s hj=>?_⟩;rw[kH (k:=k) (l:=l) (x:=mkE k l) (by unfold lZ;rw[h3];rfl)]at hj;have hlt:j<cs'.length:=by
         have:=(List.getElem?_eq_some_iff.1 hj).1;omega
        refine⟨cs'[j],?_,h5 j s _ hj (List.getElem?_eq_getElem hlt)⟩;have:=h2 j cs'[j] (List.getElem?_eq_getElem hlt);have hadd:∀ p q,((⟨ab,ao,none⟩:Addr).add p).add q=⟨ab,ao+p+q,none⟩:=fun p q=>by
         unfold Addr.add;by_cases hp:p=0 <;>by_cases hq:q=0 <;>simp[hp,hq]
        rwa[hadd]at this
       have hL:((List.range len).map X).length=len:=by simp
       refine RC.one (s:=.rs k ((List.range len).map X)) (by simp[fit]) ?_;have hget:∀ (i:Nat) (x:k.T),((List.range len).map X)[i]? =some x→i<len∧x=X i:=fun i x hi=>by
        obtain⟨h1,h2⟩:=List.getElem?_eq_some_iff.1 hi;rw[hL]at h1;simp only[List.getElem_map,List.getElem_range]at h2;subst h2;exact⟨h1,rfl⟩
       have:=Rel.rs (F:=F) (own:=own) (w:=w) (k:=k) (l:=(List.range len).map X) (b:=ab) (o:=ao) (cap:=cap) (fun i j=>(w.cell? ⟨ab,ao+i*aa k+j,none⟩).getD undef) (by rw[hL];exact hl) (by rw[hL];exact hs1)
        (fun i x hi j s hj=>by
         obtain⟨h1,rfl⟩:=hget i x hi;obtain⟨v,h2,_⟩:=hX i h1 j s hj;exact⟨hown _,by rw[h2];rfl⟩)
        (fun i x hi j s hj=>by
         obtain⟨h1,rfl⟩:=hget i x hi;obtain⟨v,h2,h3⟩:=hX i h1 j s hj;rw[h2];exact h3)
       rwa[hL]at this
   ·cases h
  ·rename_i fs ht;obtain⟨xs,m,rfl,rfl,hl,hlen,hf⟩:=DataW.trod_struct ht hx;rw[←hl]at h;have:=Fz (mA hS hown n) m cs fs.toList 0 ks h fun f hfm=>by
    obtain⟨i,hi,rfl⟩:=List.getElem_of_mem hfm;have hi':i<fs.size:=by simpa using hi
    have h1:=hf i fs[i] (by simp[hi']);rw[List.getElem?_eq_getElem (by omega)]at h1;refine⟨_,by simpa using h1,hS.agg _ hs _ (List.mem_map_of_mem (List.getElem_mem _))⟩
   simpa using this
  ·rename_i m e ht;split at h
   ·rename_i a ha;cases hb:Nat.beq a.length (P.cellsOf e)&&Nat.beq (P.cellsOf t) (m*a.length)with
    |false=>rw[hb]at h;cases h
    |true=>
     rw[hb]at h;cases h;rw[Bool.and_eq_true]at hb;have e1:a.length=P.cellsOf e:=Nat.eq_of_beq_eq_true hb.1;have e2:P.cellsOf t=m*a.length:=Nat.eq_of_beq_eq_true hb.2;obtain⟨xs,f2,rfl,rfl,hl,hlen,hf⟩:=DataW.trod_array ht hx;refine FA (mA hS hown n e a ha) f2 m cs (by rw[hl,e2]) fun i hi=>?_;have h1:=hf i hi;rw[List.getElem?_eq_getElem (by omega),←e1]at h1;exact⟨_,h1,hS.agg _ hs _ (List.mem_map_of_mem (List.getElem_mem _))⟩
   ·cases h
  ·cases h
end
end Go.Sx
end
section
namespace Go.Sx
open Go.Proofs
section
variable {F:Nat→Prop}{own:Own}{w:World}
theorem L_ {k:Tag}{cs:Array Value}(h:RC F own w (cK k) cs.toList):∃ x:k.T,Rel F own w (.agg (cellsOf k x)) (.agg cs):=by
 obtain⟨l,h3,h4,h5⟩:=h;refine⟨mkE k l,?_⟩;rw[kH (k:=k) (l:=l) (x:=mkE k l) (by unfold lZ;rw[h3];rfl)];refine .agg (by simpa using h4.symm) fun j s hj=>?_;have hlt:j<cs.size:=by
  have:=(List.getElem?_eq_some_iff.1 hj).1;simpa[h4]using this
 exact h5 j s _ hj (by simp[Array.getD,hlt])
theorem O8 {k:Tag}{v:Value}(h:RC F own w [.r k] [v]):∃ l:List k.T,Rel F own w (.rs k l) v:=by
 obtain⟨l,h3,h4,h5⟩:=h;obtain⟨x,r,rfl,h6,h7⟩:=jW h3;have h8:=h5 0 x v rfl rfl;cases x with
 |rs k' l'=>
  have:k=k':=by
   simp only[fit]at h6;exact nB h6
  subst this;exact⟨l',h8⟩
 |_=>simp[fit]at h6
end
end Go.Sx
end
section
namespace Go.Sx
open Go.ChangeShapes Go.RowKit Go.WideShapes
section
variable {H:Type}{enc:TypeId×Value→H}{P:Program}
def Ma (P:Program):List TypeId→Bool
 | [] =>true
 |t::r=>P.readableRec t&&Nat.blt t P.types.size&&Ma P r
theorem zq (hl:laidOutB P=true){W W':World}(hg:Below W.heap.size W W'):∀ {ts:List TypeId} {vs:List Value} {ds:List (DataW H)} {ps:List MemPlace},Ma P ts=true→
  DataW.TrodAll enc P W 0 (fun _=>true) true ts vs ds ps→(∀ x∈ps,x.block<W.heap.size)→DataW.TrodAll enc P W' 0 (fun b=>decide (b<W.heap.size)) true ts vs ds ps
 | [],vs,ds,ps,_,h,_=>by
  obtain⟨rfl,rfl,rfl⟩:=trodAll_nil h;exact trodAll_mk0
 |t::ts,vs,ds,ps,hk,h,hlt=>by
  unfold Ma at hk;rw[Bool.and_eq_true,Bool.and_eq_true]at hk;obtain⟨v,vs',d,ds',p,q,rfl,rfl,rfl,h1,h2⟩:=trodAll_cons h;refine trodAll_cons_mk (WideElems.Trod_stays hl hk.1.1 (by simpa[Nat.blt_eq]using hk.1.2) h1 (fun x hx=>hg.same (hlt x (List.mem_append_left _ hx))) (fun x hx=>by simpa using hlt x (List.mem_append_left _ hx))) ?_;exact zq hl hg hk.2 h2 fun x hx=>hlt x (List.mem_append_right _ hx)
theorem Jy (hl:laidOutB P=true){f:Func}{s:ChangeSpec}{W W':World}{args:Array Value}{ds gs:List (DataW H)}{before:List MemPlace}{t:TypeId}
  (hk:Ma P f.params.toList=true) (hW:DataW.Whole enc P f.params.toList s.vars false W args.toList ds gs before)
  (hr:f.resultTypes= #[t]) (ht:P.underlying t=some .bool) (hv:s.vars=[]) (h1:(s.fn H (ds++gs)).results=[.lit (.bool true)]) (h2:(s.fn H (ds++gs)).args=ds) (h3:(s.fn H (ds++gs)).vars=[])
  (hg:Below W.heap.size W W'):s.post enc P f false true false false W args (.bool true) W':=by
 have hlt:=hW.lt;have hW0:=hW;obtain⟨p,q,hA,hV,rfl,_,_⟩:=hW;rw[hv]at hV;obtain⟨rfl,rfl⟩:=trodVars_none hV;refine⟨ds,[],p++[],[],p,[],hW0,?_,?_,?_,?_,fun h=>by cases h⟩
 ·rw[h1,hr];exact trodAll_cons_mk (shut_bool ht _) trodAll_mk0
 ·rw[h2];exact zq hl hg hk hA fun x hx=>hlt x (by simpa using hx)
 ·rw[h3,hv];rfl
 ·exact World.keptBut_mono (fun x hx=>⟨hx,.inr (.inl (by simpa using hx))⟩) (hg.frame (· ∈p++[]))
end
end Go.Sx
end
section
namespace Go.Proofs.YtgdkdhdlfdcefaaGreat.bulks
theorem one_le {H:Type}(d:DataW H):1≤Rows.uptoBulk d:=by
 cases d with
 |lit l=>cases l <;>simp[Rows.uptoBulk]
 |nil=>simp[Rows.uptoBulk]
 |ptr d=>simp[Rows.uptoBulk]
 |slice lz spare=>simp[Rows.uptoBulk]
 |agg parts=>simp[Rows.uptoBulk]
 |iface t d=>simp[Rows.uptoBulk]
 |map entries=>simp[Rows.uptoBulk]
 |held h=>simp[Rows.uptoBulk]
theorem part_le {H:Type}{d:DataW H}{l:List (DataW H)}(h:d∈l):Rows.uptoBulk d≤Rows.uptoBulkAll l:=by
 induction l with
 |nil=>cases h
 |cons x r ih=>
  simp only[Rows.uptoBulkAll];cases List.mem_cons.1 h with
  |inl e=>subst e;omega
  |inr e=>have:=ih e;omega
theorem append {H:Type}(l r:List (DataW H)):Rows.uptoBulkAll (l++r)=Rows.uptoBulkAll l+Rows.uptoBulkAll r:=by
 induction l with
 |nil=>simp[Rows.uptoBulkAll]
 |cons x l ih=>simp only[List.cons_append,Rows.uptoBulkAll,ih];omega
theorem length_le {H:Type}(l:List (DataW H)):l.length≤Rows.uptoBulkAll l:=by
 induction l with
 |nil=>simp[Rows.uptoBulkAll]
 |cons x r ih=>have:=one_le x;simp only[Rows.uptoBulkAll,List.length_cons];omega
theorem slice_le {H:Type}(lz spare:List (DataW H)):lz.length+spare.length+1≤Rows.uptoBulk (.slice lz spare):=by
 have h1:=length_le lz;have h2:=length_le spare;simp only[Rows.uptoBulk];omega
theorem slice_elems {H:Type}(lz spare:List (DataW H)):Rows.uptoBulkAll lz+1≤Rows.uptoBulk (.slice lz spare):=by
 simp only[Rows.uptoBulk];omega
theorem bound {H:Type}{l:List (DataW H)}(hk:Rows.uptoSmall H l=true):Rows.uptoBulkAll l≤1048576:=by
 simpa[Rows.uptoSmall]using hk
theorem room {n b:Nat}(hn:n≤2097152)(hb:b≤4096):(n+n / 4+192)*b≤281474976710656:=by
 have h:(n+n / 4+192)*b≤2621632*4096:=Nat.mul_le_mul (by omega) hb;omega
end Go.Proofs.YtgdkdhdlfdcefaaGreat.bulks
end
section
namespace Go.Proofs.YtgdkdhdlfdcefaaGreat.claimsKnown
open Go.ChangeShapes Go.WideShapes Go.ChangeAt Go.RowKit Go.Sx
set_option linter.unusedVariables false
theorem con_eq (x0:Tag.district.T)(x1:List Tag.deed.T)(x2:Int)(x3:Int)(x4:Int):iB [.agg (cellsOf .district x0),.rs .deed x1,.v (.int .i64 x2),.v (.int .i64 x3),.v (.int .i64 x4)]=some (.det (dU x0 x1 x2 x3 x4) (.v (.bool (eB x0 x1 x2 x3 x4)))):=by
 unfold iB;simp only[go_sem,Nat.reduceBEq]
theorem call_true {W:World}{cs0:Array Value}(h0:RC (fun _=>False) cg W (cK .district) cs0.toList){v1:Value}(h1:RC (fun _=>False) cg W [.r .deed] [v1])(x2:Int)(h2:(-9223372036854775808)≤x2∧x2≤9223372036854775807)(x3:Int)(h3:(-9223372036854775808)≤x3∧x3≤9223372036854775807)(x4:Int)(h4:(-9223372036854775808)≤x4∧x4≤9223372036854775807):
  Calls Tryz.prog 9 #[.agg cs0,v1,.int .i64 x2,.int .i64 x3,.int .i64 x4] W (fun e W'=>e=.returned (.bool true)∧Below W.heap.size W W'):=by
 obtain⟨x0,r0⟩:=L_ h0;obtain⟨x1,r1⟩:=O8 h1;refine(qj.calls _ _ (con_eq x0 x1 x2 x3 x4) (L7 x0 x1 x2 x3 x4 h2 h3 h4) (fun _=>False) W _ (fun b h=>h.elim) ⟨rfl,fun j s hj=>?_⟩).mono fun e W' he=>?_
 ·match j,hj with
  |0,hj=>cases hj;exact r0
  |1,hj=>cases hj;exact r1
  |2,hj=>cases hj;exact .v _
  |3,hj=>cases hj;exact .v _
  |4,hj=>cases hj;exact .v _
 ·rcases he with⟨s,u,own',hs,rfl,hh,hb⟩ | ⟨x,hx,_⟩
  ·simp only[cT]at hs;subst hs;rw[L8 x0 x1 x2 x3 x4 h2 h3 h4]at hh;have:=hh.val;simp only[ph]at this;rw[bP this];exact⟨rfl,hb⟩
  ·exact hx.elim
theorem own:ownKnob Tryz.prog.godebug=none:=by kernel_rfl
theorem small (H:Type):Small (fun d:DataW H=>Rows.uptoBulk d≤1048576) where
 agg l h d hd:=by
  have h1:=bulks.part_le hd;simp only[Rows.uptoBulk]at h;omega
 slice l m h:=by
  have h1:=bulks.slice_le l m;have h2:=bulks.slice_elems l m;refine⟨by unfold bo;omega,fun d hd=>?_⟩;have:=bulks.part_le hd;omega
theorem laid:laidOutB Tryz.prog=true:=by kernel_rfl
set_option maxRecDepth 100000 in
theorem contract (H:Type)(enc:TypeId×Value→H)(W:World)(base:Nat)(args:Array Value)(ds gs:List (DataW H))(before:List MemPlace)
  (hval:∀ (j:Nat) t v,Tryz.f9.params[j]? =some t→args[j]? =some v→Value.okWide Tryz.prog W .any base t v)
  (hW:DataW.Whole enc Tryz.prog Tryz.f9.params.toList Rows.claimsKnownSpec.vars false W args.toList ds gs before) (hk:Rows.uptoSmall H (ds++gs)=true):
  Calls Tryz.prog 9 args W fun e W'=>∃ v,e=.returned v∧Rows.claimsKnownSpec.post enc Tryz.prog Tryz.f9 false true false false W args v W':=by
 have hW':=hW;obtain⟨p,q,hA0,hV,rfl,hfz,hnd⟩:=hW;have hA:DataW.TrodAll enc Tryz.prog W 0 (fun _=>true) true Tryz.f9.params.toList args.toList ds p:=hA0;rw[Tryz.params9]at hA hval;obtain⟨v0,vs0,d0,ds0,p0,q0,hargs,rfl,rfl,h0,r0⟩:=trodAll_cons hA;obtain⟨v1,vs1,d1,ds1,p1,q1,rfl,rfl,rfl,h1,r1⟩:=trodAll_cons r0;obtain⟨v2,vs2,d2,ds2,p2,q2,rfl,rfl,rfl,h2,r2⟩:=trodAll_cons r1;obtain⟨v3,vs3,d3,ds3,p3,q3,rfl,rfl,rfl,h3,r3⟩:=trodAll_cons r2;obtain⟨v4,vs4,d4,ds4,p4,q4,rfl,rfl,rfl,h4,r4⟩:=trodAll_cons r3;obtain⟨rfl,rfl,rfl⟩:=trodAll_nil r4;obtain rfl:args= #[v0,v1,v2,v3,v4]:=by cases args;simp_all
 obtain⟨rfl,rfl⟩:=trodVars_none hV;have hb:=bulks.bound hk;simp only[Rows.uptoBulkAll,List.append_nil,List.cons_append,List.nil_append]at hb;have ho:∀ b,¬bQ (fun _=>False) cg b:=fun b h=>by
  rcases h with h| ⟨_,_,h,_⟩
  ·exact h
  ·cases h
 have s0:∃ cs,v0=.agg cs:=by
  have:=hval 0 31 v0 rfl rfl;simp only[Value.okWide,Tryz.underlying31]at this;exact⟨_,this.choose_spec.1⟩
 obtain⟨cs0,rfl⟩:=s0;obtain⟨a1,l1,c1,rfl⟩:=okWide_slice Tryz.underlying32 (hval 1 32 v1 rfl rfl);obtain⟨a2,rfl,rfl,rfl,w2⟩:=open_int Tryz.underlying3 (hval 2 3 v2 rfl rfl) h2;have R2:(-9223372036854775808)≤a2∧a2≤9223372036854775807:=by simpa[Lit.wf,IntKind.min,IntKind.max,IntKind.signed,IntKind.bits]using w2
 obtain⟨a3,rfl,rfl,rfl,w3⟩:=open_int Tryz.underlying3 (hval 3 3 v3 rfl rfl) h3;have R3:(-9223372036854775808)≤a3∧a3≤9223372036854775807:=by simpa[Lit.wf,IntKind.min,IntKind.max,IntKind.signed,IntKind.bits]using w3
 obtain⟨a4,rfl,rfl,rfl,w4⟩:=open_int Tryz.underlying3 (hval 4 3 v4 rfl rfl) h4;have R4:(-9223372036854775808)≤a4∧a4≤9223372036854775807:=by simpa[Lit.wf,IntKind.min,IntKind.max,IntKind.signed,IntKind.bits]using w4
 have R0:RC (fun _=>False) cg W (cK .district) cs0.toList:=by
  obtain⟨f,hf⟩:=h0;exact mA (n:=6) (t:=31) (small H) ho _ kr f _ _ hf (by show Rows.uptoBulk d0≤_;omega)
 have R1:RC (fun _=>False) cg W [.r .deed] [.slice a1 l1 c1]:=by
  obtain⟨f,hf⟩:=h1;exact mA (n:=6) (t:=32) (small H) ho _ kr f _ _ hf (by show Rows.uptoBulk d1≤_;omega)
 refine(call_true R0 R1 _ R2 _ R3 _ R4).mono fun e W' ⟨he,hg⟩ =>?_;subst he;exact⟨_,rfl,Jy laid kr hW' kr Tryz.underlying4 rfl rfl rfl rfl hg⟩
def zeroV:Kd→Value
 | .n k=>.int k 0
 | .b=>.bool false
 | .s=>.string (ByteArray.mk #[])
 | .r _=>.slice none 0 0
 | .m _ _=>.map none
 | .f=>.nilFunc
def wit:Array Value:= #[.agg ((cK .district).map zeroV).toArray,.slice none 0 0,.int .i64 0,.int .i64 0,.int .i64 0]
set_option maxRecDepth 100000 in
theorem lifted (os:Os)(started:os.Started)(H:Type)(enc:TypeId×Value→H)(F:Stop.Interp):
  ReturnsInHanded {} Tryz.checked os 9 .any ((Rows.OpenSpec.upto Rows.claimsKnownSpec).pre6 enc Tryz.prog Tryz.f9 Rows.claimsKnownUptoRow.domain false) (((Rows.OpenSpec.upto Rows.claimsKnownSpec).at F).post enc Tryz.prog Tryz.f9 false true false false):=by
 refine returnsInHanded_of_cond (C:=Tryz.checked) (s:=Rows.OpenSpec.upto Rows.claimsKnownSpec) (k:=Rows.uptoSmall) rfl own started kr Tryz.func9
  (OpenSpec.witness (enc:=enc) (C:=Tryz.checked) (s:=Rows.OpenSpec.upto Rows.claimsKnownSpec) (k:=Rows.uptoSmall) rfl false ⟨#[],wit,[]⟩ 8 kr kr kr
   (x:=(DataW.whole enc Tryz.prog (World.plainHolding Tryz.prog os ⟨#[],wit,[]⟩).memory Tryz.f9.params.toList Rows.claimsKnownSpec.vars false wit.toList 8).getD ([],[],[])) kr rfl kr) ?_
 intro W base args ds gs before hval hW _ hk _;exact contract H enc W base args ds gs before hval hW hk
theorem over:Rows.claimsKnownUptoRow.holds Tryz.pinned (Rows.OpenSpec.upto Rows.claimsKnownSpec):=
 OpenClaim.holds_of_cond 9 Tryz.f9 rfl rfl rfl rfl rfl rfl rfl ⟨rfl,rfl,rfl,rfl,rfl⟩ rfl rfl rfl rfl rfl kr Tryz.func9 kr
  (of_decide_eq_true kr) (by unfold Func.isWrapper;first|(rw[if_pos (by decide+kernel)];kernel_rfl) |(rw[if_neg (by decide+kernel)];exact⟨rfl,rfl⟩))
  (fun os started H enc _ F=>lifted os started H enc F)
theorem proved:Rows.ClaimsKnownUptoSaid:=over
end Go.Proofs.YtgdkdhdlfdcefaaGreat.claimsKnown
end
