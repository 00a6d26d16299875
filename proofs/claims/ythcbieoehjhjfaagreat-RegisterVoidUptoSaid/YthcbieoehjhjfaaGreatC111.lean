/- Part of the proof that the law RegisterVoid returns true and leaves its arguments as they were, for all arguments of bulk at most 1048576 (the Upto form). -/
import Derived.Test.YthcbieoehjhjfaaGreatC110
import Derived.Shelf.SlSortCmp.NoneTotal
import Derived.Ground.SlsfProg
import Derived.Test.YthcbieoehjhjfaaGreatProg
import Derived.Test.YthcbieoehjhjfaaGreatC108
import Derived.Test.YthcbieoehjhjfaaGreatC107
import Derived.Test.YthcbieoehjhjfaaGreatC106
import Derived.Deep.Slices
import Derived.OpenShut
import Derived.ChangeSame
import Derived.WideKeyArgs
import Derived.Below
import Derived.Test.YthcbieoehjhjfaaGreatRows
import Derived.WalkKit
import Derived.ProofKit
import Derived.JoinedCond
import Derived.Carry
set_option linter.all false
set_option maxHeartbeats 4000000
section
namespace Go.Sx
open Go.Proofs
def qm (l:List Part)(n:Int)(g:Int→Int):Int→Int:=l.foldl (fun g p=>gz g p.farm (g p.farm+loP p n)) g
def l9 (l:List Part)(g:Int→Int):Int→Int:=l.foldl (fun g p=>gz g p.farm (g p.farm+1)) g
def t8 (l:List Part)(n:Int)(g:Int→Int):Int→Int:=l9 (l.take (n - cS l n).toNat) (qm l n g)
def wT (x:Deed)(g:Int→Int):Int→Int:=
 if g x.since=0 then g else
 if x.kind=1 then gz (gz g x.since 0) x.to (gz g x.since 0 x.to+g x.since)else
 if x.kind=2 then t8 x.parts (g x.since) (gz g x.since 0)else gz g x.since 0
theorem Cu (l:List Part)(p:Part)(n:Int)(g:Int→Int):qm (l++[p]) n g=gz (qm l n g) p.farm (qm l n g p.farm+loP p n):=by
 unfold qm;rw[List.foldl_append];rfl
theorem Ae (l:List Part)(p:Part)(g:Int→Int):l9 (l++[p]) g=gz (l9 l g) p.farm (l9 l g p.farm+1):=by
 unfold l9;rw[List.foldl_append];rfl
theorem t_ (l:List Part)(p:Part)(n:Int):cS (l++[p]) n=cS l n+loP p n:=by
 unfold cS;simp
def PFit (F:Nat)(l:List Part):Prop:= ∀ p∈l,0≤p.farm∧p.farm< (F:Int)∧RatioOk p.share∧0<p.share.n
theorem PartsOk.fit {d:District}{l:List Part}(h:PartsOk d l):PFit d.farms.length l:=fun p hp=>⟨(h.part p hp).f0,(h.part p hp).f1,(h.part p hp).share,(h.part p hp).pos⟩
theorem n9 {F:Nat}{n:Int}(h0:0≤n):∀ (l:List Part) (g:Int→Int) (M:Int),PFit F l→Good F M g→Good F (M+cS l n) (qm l n g)∧tot F (qm l n g)=tot F g+cS l n
 | [],g,M,_,hg=>by simpa[qm,cS]using hg
 |p::l,g,M,hl,hg=>by
  obtain⟨a,b,c,e⟩:=hl p List.mem_cons_self
  have hlo:=EW c e h0
  have hgf:=hg.nn p.farm
  have h1:Good F (M+loP p n) (gz g p.farm (g p.farm+loP p n)):=hg.put a b (by omega) (by have:=hg.tot;omega)
  obtain⟨q1,q2⟩:=n9 h0 l _ _ (fun q hq=>hl q (List.mem_cons_of_mem _ hq)) h1
  have e1:cS (p::l) n=loP p n+cS l n:=by simp[cS]
  rw[n8 g p.farm _ F a b]at q2
  rw[e1]
  refine⟨by rw[show M+(loP p n+cS l n)=M+loP p n+cS l n by omega];exact q1,?_⟩
  show tot F (qm l n (gz g p.farm (g p.farm+loP p n)))=_
  rw[q2];omega
theorem o6 {F:Nat}:∀ (l:List Part) (g:Int→Int) (M:Int),PFit F l→Good F M g→Good F (M+l.length) (l9 l g)∧tot F (l9 l g)=tot F g+l.length
 | [],g,M,_,hg=>by simpa[l9]using hg
 |p::l,g,M,hl,hg=>by
  obtain⟨a,b,c,e⟩:=hl p List.mem_cons_self
  have hgf:=hg.nn p.farm
  have h1:Good F (M+1) (gz g p.farm (g p.farm+1)):=hg.put a b (by omega) (by have:=hg.tot;omega)
  obtain⟨q1,q2⟩:=o6 l _ _ (fun q hq=>hl q (List.mem_cons_of_mem _ hq)) h1
  rw[n8 g p.farm _ F a b]at q2
  simp only[List.length_cons]
  refine⟨by rw[show M+((l.length+1:Nat):Int)=M+1+(l.length:Int) by omega];exact q1,?_⟩
  show tot F (l9 l (gz g p.farm (g p.farm+1)))=_
  rw[q2];omega
theorem PFit.take {F:Nat}{l:List Part}(h:PFit F l)(k:Nat):PFit F (l.take k):=fun p hp=>h p (List.mem_of_mem_take hp)
theorem Af {d:District}{l:List Part}(h:PartsOk d l){n M:Int}(h0:0≤n){g:Int→Int}(hg:Good d.farms.length M g):Good d.farms.length (M+n) (t8 l n g)∧tot d.farms.length (t8 l n g)=tot d.farms.length g+n:=by
 obtain⟨q1,q2⟩:=n9 h0 l g M h.fit hg
 obtain⟨r1,r2⟩:=o6 (l.take (n - cS l n).toNat) _ _ (h.fit.take _) q1
 obtain⟨l1,l2⟩:=Bm h n
 have e:((l.take (n - cS l n).toNat).length:Int)=n - cS l n:=by rw[List.length_take];omega
 rw[e]at r1 r2
 refine⟨by rw[show M+n=M+cS l n+(n - cS l n) by omega];exact r1,?_⟩
 show tot _ (l9 _ _)=_
 rw[r2,q2];omega
theorem EY {d:District}{x:Deed}(hx:Fit d x)(hk:x.kind≠4){L:Int}{g:Int→Int}(hg:Good d.farms.length L g):Good d.farms.length L (wT x g)∧(x.kind≠3→tot d.farms.length (wT x g)=tot d.farms.length g):=by
 obtain⟨_,_,_,s0,s1⟩:=hx.held hk
 unfold wT
 by_cases hn:g x.since=0
 ·rw[if_pos hn];exact⟨hg,fun _=>rfl⟩
 rw[if_neg hn]
 have hnn:=hg.nn x.since
 have hT:=hg.tot
 have g1:Good d.farms.length (L - g x.since) (gz g x.since 0):=hg.put s0 s1 (Int.le_refl _) (by omega)
 have t1:=n8 g x.since 0 d.farms.length s0 s1
 by_cases k1:x.kind=1
 ·rw[if_pos k1]
  obtain⟨a,b,c⟩:=hx.pass k1
  have h1:=g1.nn x.to
  have t2:=n8 (gz g x.since 0) x.to (gz g x.since 0 x.to+g x.since) d.farms.length a b
  exact⟨g1.put a b (by omega) (by omega),fun _=>by omega⟩
 rw[if_neg k1]
 by_cases k2:x.kind=2
 ·rw[if_pos k2]
  obtain⟨q1,q2⟩:=Af (hx.split k2) hnn g1
  rw[show L - g x.since+g x.since=L by omega]at q1
  exact⟨q1,fun _=>by omega⟩
 ·rw[if_neg k2]
  refine⟨⟨g1.nn,g1.sup,by have:=g1.tot;omega⟩,fun k3=>?_⟩
  rcases hx.kind with e|e|e|e <;>omega
abbrev BM:=List (RegisterTitle×Int)
abbrev RT (r f:Int):RegisterTitle:= { right:=r,farm:=f}
def bk (m:BM):Int→Int→Int:=fun r f=>c6 .registerTitle .int m (RT r f)
theorem Bn {a b c e:Int}:RT a b=RT c e↔a=c∧b=e:=by simp[RT]
theorem wU (m:BM)(r f v:Int):bk (eQ .registerTitle .int m (RT r f) v)=fun r'=>if r'=r then gz (bk m r) f v else bk m r':=by
 funext r' f'
 unfold bk
 rw[nW]
 by_cases h:r'=r
 ·subst h
  rw[if_pos rfl]
  unfold gz
  by_cases h2:f'=f
  ·subst h2;simp
  ·rw[if_neg (fun e=>h2 (Bn.1 e).2),if_neg h2]
 ·rw[if_neg (fun e=>h (Bn.1 e).1),if_neg h]
theorem Kv (m:BM)(hN:(fJ m).Nodup)(r f:Int):bk (jt .registerTitle .int m (RT r f))=fun r'=>if r'=r then gz (bk m r) f 0 else bk m r':=by
 funext r' f'
 unfold bk c6 jt
 have e:=(rh (RT r f) m hN).2.2 (RT r' f')
 have e':d_ (qB m (RT r f)) (RT r' f')=if RT r' f'=RT r f then none else d_ m (RT r' f'):=e
 by_cases h:r'=r
 ·subst h
  rw[if_pos rfl]
  unfold gz
  by_cases h2:f'=f
  ·subst h2;rw[e',if_pos rfl,if_pos rfl];rfl
  ·rw[e',if_neg (fun e=>h2 (Bn.1 e).2),if_neg h2]
 ·rw[if_neg h,e',if_neg (fun e=>h (Bn.1 e).1)]
theorem Good.le30 {F:Nat}{L:Int}{g:Int→Int}(h:Good F L g)(hL:L≤2147483648)(f:Int):0≤g f∧g f≤2147483648:=by
 have h1:=h.nn f
 by_cases e:g f=0
 ·omega
 ·obtain⟨a,b⟩:=h.sup f e
  have:=wS h.nn F f a b
  have:=h.tot
  omega
theorem Cv {d:District}{x:Deed}(hx:PartsOk d x.parts){n:Int}(h0:0≤n)(h1:n≤1073741824){m:BM}(hN:(fJ m).Nodup){M:Int}(hM:M+n≤2147483648)(hg:Good d.farms.length M (bk m x.right)):
  dc x n m∧(fJ (b9 x n m)).Nodup∧bk (b9 x n m)=fun r=>if r=x.right then t8 x.parts n (bk m r)else bk m r:=by
 obtain⟨l1,l2⟩:=Bm hx n
 obtain⟨⟨m1,lf⟩,e1,a1,a2,a3⟩:=nX (step:=bg x n) (fun k (s:BM×Int) =>(fJ s.1).Nodup∧(bk s.1=fun r=>if r=x.right then qm (x.parts.take k) n (bk m r)else bk m r)∧s.2=n - cS (x.parts.take k) n) x.parts.length 0 (m,n) ⟨hN,by funext r;by_cases h:r=x.right <;>simp[h,qm],by simp[cS]⟩ (fun j s _ hj ⟨j1,j2,j3⟩ =>by
  rw[Nat.zero_add]at hj
  have hm:x.parts.getD j default∈x.parts:=by rw[nV _ _ hj];exact List.getElem_mem _
  obtain⟨f0,f1,f2,f3⟩:=hx.fit _ hm
  have elo:(dP (x.parts.getD j default).share n).1=loP (x.parts.getD j default) n:=(EV f2 h0 h1).1
  have hlo:=EW f2 f3 h0
  obtain⟨q1,q2⟩:=n9 h0 (x.parts.take j) _ _ (hx.fit.take _) hg
  have hs:∀ k,0≤cS (x.parts.take k) n∧cS (x.parts.take k) n≤cS x.parts n:=fun k=>by
   have key:∀ l:List Part,PFit d.farms.length l→0≤cS l n:=fun l=>by
    induction l with
    |nil=>intro _;simp[cS]
    |cons p r ih=>
     intro hp
     obtain⟨_,_,c,e⟩:=hp p List.mem_cons_self
     have:=EW c e h0
     have:=ih fun q hq=>hp q (List.mem_cons_of_mem _ hq)
     have e:cS (p::r) n=loP p n+cS r n:=by simp[cS]
     omega
   have h1:=key _ (hx.fit.take k)
   have h2:=key (x.parts.drop k) fun p hp=>hx.fit p (List.mem_of_mem_drop hp)
   have h3:cS x.parts n=cS (x.parts.take k) n+cS (x.parts.drop k) n:=by
    conv=>lhs;rw[←List.take_append_drop k x.parts]
    unfold cS;rw[List.map_append,List.sum_append]
   omega
  have hsj:=hs j
  have hsj1:=hs (j+1)
  rw[df _ default hj,t_]at hsj1
  have hv:=q1.le30 (by omega) (x.parts.getD j default).farm
  have ebk:c6 .registerTitle .int s.1 (RT x.right (x.parts.getD j default).farm)=qm (x.parts.take j) n (bk m x.right) (x.parts.getD j default).farm:=by
   have:=congrFun (congrFun j2 x.right) (x.parts.getD j default).farm
   simpa[bk]using this
  refine⟨_,rfl,?_,?_,?_⟩
  ·exact(l8 _ _ _ j1).1
  ·simp only[elo]
   rw[ebk,bJ (by omega) (by omega),wU,j2]
   funext r
   by_cases h:r=x.right
   ·subst h;simp only[if_true];rw[df _ default hj,Cu]
   ·simp only[if_neg h]
  ·simp only[elo,j3]
   rw[bJ (by omega) (by omega),df _ default hj,t_];omega)
 rw[Nat.zero_add,List.take_length]at a2 a3
 simp only at a1 a2 a3
 have hlf:0≤lf∧lf≤(x.parts.length:Int):=by omega
 obtain⟨q1,q2⟩:=n9 h0 x.parts _ _ hx.fit hg
 have tk:(x.parts.take lf.toNat).drop 0=x.parts.take lf.toNat:=by simp
 have tkl:(x.parts.take lf.toNat).length=lf.toNat:=by rw[List.length_take];omega
 obtain⟨m2,e2,b1,b2⟩:=nX (step:=d7 x (m1,lf)) (fun k (s:BM) =>(fJ s).Nodup∧(bk s=fun r=>if r=x.right then l9 ((x.parts.take lf.toNat).take k) (qm x.parts n (bk m r))else bk m r)) lf.toNat 0 m1 ⟨a1,by rw[a2];funext r;by_cases h:r=x.right <;>simp[h,l9]⟩ (fun j s _ hj ⟨j1,j2⟩ =>by
  rw[Nat.zero_add]at hj
  have hj':j< (x.parts.take lf.toNat).length:=by omega
  have hm:(x.parts.take lf.toNat).getD j default∈x.parts.take lf.toNat:=by rw[nV _ _ hj'];exact List.getElem_mem _
  obtain⟨r1,r2⟩:=o6 ((x.parts.take lf.toNat).take j) _ _ ((hx.fit.take _).take _) q1
  have hlen:((x.parts.take lf.toNat).take j).length=j:=by rw[List.length_take];omega
  have hv:=r1.le30 (by omega) ((x.parts.take lf.toNat).getD j default).farm
  have ebk:c6 .registerTitle .int s (RT x.right ((x.parts.take lf.toNat).getD j default).farm)=l9 ((x.parts.take lf.toNat).take j) (qm x.parts n (bk m x.right)) ((x.parts.take lf.toNat).getD j default).farm:=by
   have:=congrFun (congrFun j2 x.right) ((x.parts.take lf.toNat).getD j default).farm
   simpa[bk]using this
  refine⟨_,rfl,?_,?_⟩
  ·exact(l8 _ _ _ j1).1
  ·simp only[tk]
   rw[ebk,bJ (by omega) (by omega),wU,j2]
   funext r
   by_cases h:r=x.right
   ·subst h;simp only[if_true];rw[df _ default hj',Ae]
   ·simp only[if_neg h])
 rw[Nat.zero_add]at b2
 have e2':ay (d7 x (m1,lf)) ((x.parts.take lf.toNat).drop 0).length 0 m1=.inr m2:=by rw[tk,tkl];exact e2
 have eR:b9 x n m=m2:=by
  unfold b9
  rw[e1]
  simp only[e2']
 refine⟨fun _ z hz=>?_,?_,?_⟩
 ·rw[e1]at hz;cases hz;exact⟨by omega,hlf.1,hlf.2⟩
 ·rw[eR];exact b1
 ·rw[eR,b2]
  funext r
  by_cases h:r=x.right
  ·simp only[if_pos h]
   unfold t8
   rw[←a3,List.take_take,Nat.min_self]
  ·simp only[if_neg h]
end Go.Sx
end
section
namespace Go.Sx
open Go.Proofs
def ma (x:Deed)(B:Int→Int→Int):Int→Int→Int:=fun r=>if r=x.right then wT x (B r)else B r
def EZ (ds:List Deed)(B:Int→Int→Int):Int→Int→Int:=ds.foldl (fun B x=>ma x B) B
def Cw:List Deed→(Int→Int→Int)→List Int
 | [],_=>[]
 |x::r,B=>(if B x.right x.since=0 then [x.no]else [])++Cw r (ma x B)
structure MapOk (d:District)(m:BM):Prop where
 nodup:(fJ m).Nodup
 good:∀ r,∃ L,L≤1073741824∧Good d.farms.length L (bk m r)
theorem MapOk.le {d:District}{m:BM}(h:MapOk d m)(r f:Int):0≤bk m r f∧bk m r f≤1073741824:=by
 obtain⟨L,h1,h2⟩:=h.good r
 have:=h2.nn f
 by_cases e:bk m r f=0
 ·omega
 ·obtain⟨a,b⟩:=h2.sup f e
  have:=wS h2.nn _ f a b
  have:=h2.tot
  omega
theorem HC {d:District}{ds:List Deed}{x:Deed}(hx:Fit d x)(hk:x.kind≠4){e:List Int}{m:BM}(hm:MapOk d m)(he:(e.length+1)*8≤i0):
  cP ds x (e,m)∧∃ m',bD ds x (e,m)=.inr (e++(if bk m x.right x.since=0 then [x.no]else []),m')∧MapOk d m'∧bk m'=ma x (bk m):=by
 obtain⟨r0,r1,r2,s0,s1⟩:=hx.held hk
 have hv:=hm.le x.right x.since
 have ebk:c6 .registerTitle .int m (RT x.right x.since)=bk m x.right x.since:=rfl
 have hdel:=rh (RT x.right x.since) m hm.nodup
 have hstep:∀ m':BM,(fJ m').Nodup→bk m'=ma x (bk m)→MapOk d m':=fun m' hN hb=>by
  refine⟨hN,fun r=>?_⟩
  obtain⟨L,h1,h2⟩:=hm.good r
  refine⟨L,h1,?_⟩
  rw[hb]
  show Good _ _ (if r=x.right then wT x (bk m r)else bk m r)
  split
  ·exact(EY hx hk h2).1
  ·exact h2
 have hlen:(e++[x.no]).length=e.length+1:=by simp
 unfold cP bD
 simp only[ebk,hlen]
 by_cases hn:bk m x.right x.since=0
 ·have b0:(bk m x.right x.since==0)=true:=by simp[hn]
  rw[b0,if_pos hn]
  refine⟨⟨fun _=>he,(fun h=>by cases h)⟩,m,rfl,hm,?_⟩
  funext r
  unfold ma
  split
  ·rename_i h;subst h;unfold wT;rw[if_pos hn]
  ·rfl
 ·have b0:(bk m x.right x.since==0)=false:=by simpa using hn
  rw[b0,if_neg hn,List.append_nil]
  simp only[cond_false]
  have edel:=Kv m hm.nodup x.right x.since
  have kdel:(fJ (jt .registerTitle .int m (RT x.right x.since))).Nodup:=hdel.1
  have egood:Good d.farms.length (1073741824 - bk m x.right x.since) (bk (jt .registerTitle .int m (RT x.right x.since)) x.right):=by
   obtain⟨L,h1,h2⟩:=hm.good x.right
   rw[edel]
   simp only[if_true]
   exact h2.put s0 s1 (Int.le_refl _) (by have:=h2.tot;omega)
  by_cases k1:x.kind=1
  ·have b1:(x.kind==1)=true:=by simp[k1]
   rw[b1]
   simp only[cond_true]
   obtain⟨a,b,c⟩:=hx.pass k1
   have hto:=egood.le30 (by omega) x.to
   have e2:c6 .registerTitle .int (jt .registerTitle .int m (RT x.right x.since)) (RT x.right x.to)=gz (bk m x.right) x.since 0 x.to:=by
    have:=congrFun (congrFun edel x.right) x.to
    simpa[bk]using this
   have hto':0≤gz (bk m x.right) x.since 0 x.to∧gz (bk m x.right) x.since 0 x.to≤2147483648:=by
    rw[edel]at hto;simpa using hto
   refine⟨⟨(fun h=>by cases h),(fun _ h=>by cases h)⟩,_,rfl,?_⟩
   have hb:bk (cO x (bk m x.right x.since) (jt .registerTitle .int m (RT x.right x.since)))=ma x (bk m):=by
    unfold cO
    rw[e2,bJ (by omega) (by omega),wU,edel]
    funext r
    unfold ma
    by_cases h:r=x.right
    ·subst h
     simp only[if_true]
     unfold wT
     rw[if_neg hn,if_pos k1]
    ·simp only[if_neg h]
   exact⟨hstep _ (by unfold cO;exact(l8 _ _ _ kdel).1) hb,hb⟩
  ·have b1:(x.kind==1)=false:=by simpa using k1
   rw[b1]
   simp only[cond_false]
   by_cases k2:x.kind=2
   ·have b2:(x.kind==2)=true:=by simp[k2]
    rw[b2]
    simp only[cond_true]
    obtain⟨p1,p2,p3⟩:=Cv (hx.split k2) hv.1 hv.2 kdel (M:=1073741824 - bk m x.right x.since) (by omega) egood
    refine⟨⟨(fun h=>by cases h),fun _ _=>⟨fun _=>p1,(fun h=>by cases h)⟩⟩,_,rfl,?_⟩
    have hb:bk (b9 x (bk m x.right x.since) (jt .registerTitle .int m (RT x.right x.since)))=ma x (bk m):=by
     rw[p3,edel]
     funext r
     unfold ma
     by_cases h:r=x.right
     ·subst h
      simp only[if_true]
      unfold wT
      rw[if_neg hn,if_neg k1,if_pos k2]
     ·simp only[if_neg h]
    exact⟨hstep _ p2 hb,hb⟩
   ·have b2:(x.kind==2)=false:=by simpa using k2
    rw[b2]
    simp only[cond_false]
    have k3:x.kind=3:=by rcases hx.kind with h|h|h|h <;>omega
    have b3:(x.kind==3)=true:=by simp[k3]
    rw[b3]
    simp only[cond_true]
    refine⟨⟨(fun h=>by cases h),fun _ _=>⟨(fun h=>by cases h),(fun _ h=>by cases h)⟩⟩,_,rfl,?_⟩
    have hb:bk (jt .registerTitle .int m (RT x.right x.since))=ma x (bk m):=by
     rw[edel]
     funext r
     unfold ma
     by_cases h:r=x.right
     ·subst h
      simp only[if_true]
      unfold wT
      rw[if_neg hn,if_neg k1,if_neg k2]
     ·simp only[if_neg h]
    exact⟨hstep _ kdel hb,hb⟩
theorem vA {d:District}(ds:List Deed):∀ (l:List Deed),(∀ x∈l,Fit d x∧x.kind≠4)→∀ (e:List Int) (m:BM),MapOk d m→(e.length+l.length)*8≤i0→
  okL (bD ds) (cP ds) l (e,m)∧∃ m',eS (bD ds) l (e,m)=.inr (e++Cw l (bk m),m')∧MapOk d m'∧bk m'=EZ l (bk m)
 | [],_,e,m,hm,_=>⟨trivial,m,by simp[eS,Cw],hm,rfl⟩
 |x::l,h,e,m,hm,hB=>by
  simp only[List.length_cons]at hB
  obtain⟨h1,h2⟩:=h x List.mem_cons_self
  obtain⟨q1,m1,q2,q3,q4⟩:=HC (ds:=ds) h1 h2 (e:=e) hm (by omega)
  have hlen:(e++(if bk m x.right x.since=0 then [x.no]else [])).length≤e.length+1:=by split <;>simp
  obtain⟨r1,m2,r2,r3,r4⟩:=vA ds l (fun y hy=>h y (List.mem_cons_of_mem _ hy)) (e++(if bk m x.right x.since=0 then [x.no]else [])) m1 q3 (by omega)
  refine⟨⟨q1,fun s hs=>by rw[q2]at hs;cases hs;exact r1⟩,m2,?_,r3,?_⟩
  ·simp only[eS,q2]
   rw[r2,q4,List.append_assoc];rfl
  ·rw[r4,q4];rfl
def B0 (d:District):Int→Int→Int:=fun r f=>if 0≤r∧r< (d.rights.length:Int)∧(d.rights.getD r.toNat default).kind=1∧(d.rights.getD r.toNat default).farm=f then(d.rights.getD r.toNat default).litres else 0
structure TakeOk (d:District)(x:Right):Prop where
 f0:0≤x.farm
 f1:x.farm< (d.farms.length:Int)
 l0:1≤x.litres
 l1:x.litres≤1073741824
theorem HD {d:District}(h:b6 d=0){k:Nat}(hk:k<d.rights.length)(ht:(d.rights.getD k default).kind=1):TakeOk d (d.rights.getD k default):=by
 have:=((yi d).1 h).2.2.2.2.2.2.2.1 k hk
 unfold dX at this
 rw[kL]at this
 have h2:gq d (d.rights.getD k default)=true:=by
  cases h3:gq d (d.rights.getD k default)with
  |true=>rfl
  |false=>rw[h3]at this;cases this
 unfold gq at h2
 cases h4:((!(co (d.rights.getD k default).farm (d.farms.length:Int))) ||(!(co (d.rights.getD k default).reach (d.reaches.length:Int)))) ||(!(ar ([0,(d.rights.getD k default).since,(d.rights.getD k default).to,(IntKind.i64.wrap (d.hours - 1))])))with
 |true=>rw[h4]at h2;cases h2
 |false=>
  rw[h4,show((d.rights.getD k default).kind==1)=true by rw[ht];rfl]at h2
  simp only[cond_true,cond_false,Bool.and_eq_true]at h2
  simp only[Bool.or_eq_false_iff,Bool.not_eq_false']at h4
  have h5:=h4.1.1
  unfold co at h5
  simp only[Bool.and_eq_true,decide_eq_true_eq]at h5
  have h6:=wF h2.1.2
  exact⟨by omega,by omega,by omega,by omega⟩
theorem Kw {d:District}(h:b6 d=0)(r:Int):∃ L,L≤1073741824∧Good d.farms.length L (B0 d r):=by
 by_cases hr:0≤r∧r< (d.rights.length:Int)∧(d.rights.getD r.toNat default).kind=1
 ·have ht:=HD h (k:=r.toNat) (by omega) hr.2.2
  have hl:=ht.l0
  refine⟨(d.rights.getD r.toNat default).litres,ht.l1,?_⟩
  have e:B0 d r=gz (fun _=>0) (d.rights.getD r.toNat default).farm (d.rights.getD r.toNat default).litres:=by
   funext f
   unfold B0 gz
   by_cases hf:f=(d.rights.getD r.toNat default).farm
   ·rw[if_pos ⟨hr.1,hr.2.1,hr.2.2,hf.symm⟩,if_pos hf]
   ·rw[if_neg (fun h=>hf h.2.2.2.symm),if_neg hf]
  have t0:∀ n,tot n (fun _=>0)=0:=fun n=>by
   induction n with
   |zero=>rfl
   |succ n ih=>unfold tot;rw[ih];rfl
  rw[e]
  exact Good.put (L:=0) ⟨fun _=>Int.le_refl _,fun f hf=>absurd rfl hf,by rw[t0];exact Int.le_refl _⟩ ht.f0 ht.f1 (by omega) (by rw[t0];omega)
 ·refine⟨0,by omega,?_⟩
  have e:B0 d r=fun _=>0:=by
   funext f
   unfold B0
   rw[if_neg (fun h=>hr ⟨h.1,h.2.1,h.2.2.1⟩)]
  have t0:∀ n,tot n (fun _=>0)=0:=fun n=>by
   induction n with
   |zero=>rfl
   |succ n ih=>unfold tot;rw[ih];rfl
  rw[e]
  exact⟨fun _=>Int.le_refl _,fun f hf=>absurd rfl hf,by rw[t0];exact Int.le_refl _⟩
theorem E0 {d:District}(h:b6 d=0):∃ m,ay (bN d) d.rights.length 0 []=.inr m∧MapOk d m∧bk m=B0 d:=by
 obtain⟨m,h1,h2,h3⟩:=nX (step:=bN d) (fun k (m:BM) =>(fJ m).Nodup∧bk m=fun r f=>if r< (k:Int)then B0 d r f else 0) d.rights.length 0 ([]:BM) ⟨by simp[fJ],by
   funext r f
   by_cases hr:r< ((0:Nat):Int)
   ·rw[if_pos hr];unfold B0 bk;rw[if_neg (by omega)];rfl
   ·rw[if_neg hr];rfl⟩ (fun j m _ hj ⟨j1,j2⟩ =>by
  rw[Nat.zero_add]at hj
  unfold bN
  by_cases hk:(d.rights.getD j default).kind=1
  ·rw[show((d.rights.getD j default).kind==1)=true by rw[hk];rfl]
   refine⟨_,rfl,(l8 _ _ _ j1).1,?_⟩
   rw[wU,j2]
   funext r f
   by_cases hr:r=(j:Int)
   ·subst hr
    simp only[if_true]
    unfold gz B0
    dsimp only
    rw[if_pos (by omega:(j:Int) < ((j+1:Nat):Int)),Int.toNat_natCast]
    by_cases hf:f=(d.rights.getD j default).farm
    ·rw[if_pos hf,if_pos ⟨by omega,by omega,hk,hf.symm⟩]
    ·rw[if_neg hf,if_neg (by omega),if_neg (fun h=>hf h.2.2.2.symm)]
   ·simp only[if_neg hr]
    by_cases h2:r< (j:Int)
    ·rw[if_pos h2,if_pos (by omega)]
    ·rw[if_neg h2,if_neg (by omega)]
  ·rw[show((d.rights.getD j default).kind==1)=false by simpa using hk]
   refine⟨_,rfl,j1,?_⟩
   rw[j2]
   funext r f
   by_cases hr:r=(j:Int)
   ·subst hr
    rw[if_neg (by omega),if_pos (by omega)]
    unfold B0
    rw[if_neg (fun h=>hk (by rw[Int.toNat_natCast]at h;exact h.2.2.1))]
   ·by_cases h2:r< (j:Int)
    ·rw[if_pos h2,if_pos (by omega)]
    ·rw[if_neg h2,if_neg (by omega)])
 have e:bk m=B0 d:=by
  rw[h3]
  funext r f
  split
  ·rfl
  ·unfold B0;rw[if_neg (by omega)]
 refine⟨m,h1,⟨h2,fun r=>?_⟩,e⟩
 rw[e];exact Kw h r
theorem vB {d:District}(h:b6 d=0){ds:List Deed}(hd:∀ x∈ds,Fit d x∧x.kind≠4)(hl:ds.length≤512):
  eL d ds∧∃ m,cB d ds=(m,qk (Cw ds (B0 d)))∧MapOk d m∧bk m=EZ ds (B0 d):=by
 obtain⟨m0,e0,o0,b0⟩:=E0 h
 obtain⟨q1,m1,q2,q3,q4⟩:=vA (d:=d) ds ds hd [] m0 o0 (by simp only[List.length_nil];unfold i0;omega)
 rw[List.nil_append]at q2
 rw[b0]at q2 q4
 refine⟨fun _ z hz=>?_,m1,?_,q3,q4⟩
 ·rw[e0]at hz;cases hz
  refine⟨ET ds,?_⟩
  rw[nZ];exact q1
 ·unfold cB
  rw[e0,nZ]
  simp only[q2]
end Go.Sx
end
section
namespace Go.Proofs
open Go.Shelf
def Tryz.sortLh_ren:Go.Shelf.Ren:=⟨fun|6=>50|15=>81|14=>80|28=>112|29=>113|20=>104|21=>105|22=>106|23=>107|24=>108|25=>109|26=>110|27=>111|46=>136|47=>137|48=>138|49=>139|50=>140|57=>149|n=>n,fun|22=>44|24=>67|25=>100|3=>3|39=>116|0=>0|53=>162|55=>164|4=>4|46=>156|45=>155|50=>78|5=>5|9=>9|66=>184|70=>187|76=>195|77=>192|n=>n,fun|n=>n⟩
theorem Tryz.sortLh:Go.Proofs.SlLaysF0.n6 Tryz.prog Tryz.sortLh_ren:= {
 mixed:=by kernel_rfl
 f6:=⟨Tryz.f50.name,by decide,Tryz.func50.trans (congrArg some (by kernel_rfl))⟩
 f14:=⟨Tryz.f80.name,by decide,Tryz.func80.trans (congrArg some (by kernel_rfl))⟩
 f15:=Tryz.func81.trans (congrArg some (by kernel_rfl))
 f20:=⟨Tryz.f104.name,by decide,Tryz.func104.trans (congrArg some (by kernel_rfl))⟩
 f21:=⟨Tryz.f105.name,by decide,Tryz.func105.trans (congrArg some (by kernel_rfl))⟩
 f22:=⟨Tryz.f106.name,by decide,Tryz.func106.trans (congrArg some (by kernel_rfl))⟩
 f23:=⟨Tryz.f107.name,by decide,Tryz.func107.trans (congrArg some (by kernel_rfl))⟩
 f24:=⟨Tryz.f108.name,by decide,Tryz.func108.trans (congrArg some (by kernel_rfl))⟩
 f25:=⟨Tryz.f109.name,by decide,Tryz.func109.trans (congrArg some (by kernel_rfl))⟩
 f26:=⟨Tryz.f110.name,by decide,Tryz.func110.trans (congrArg some (by kernel_rfl))⟩
 f27:=⟨Tryz.f111.name,by decide,Tryz.func111.trans (congrArg some (by kernel_rfl))⟩
 f28:=Tryz.func112.trans (congrArg some (by kernel_rfl))
 f29:=Tryz.func113.trans (congrArg some (by kernel_rfl))
 f46:=⟨Tryz.f136.name,by decide,Tryz.func136.trans (congrArg some (by kernel_rfl))⟩
 f47:=Tryz.func137.trans (congrArg some (by kernel_rfl))
 f48:=Tryz.func138.trans (congrArg some (by kernel_rfl))
 f49:=⟨Tryz.f139.name,by decide,Tryz.func139.trans (congrArg some (by kernel_rfl))⟩
 f50:=⟨Tryz.f140.name,by decide,Tryz.func140.trans (congrArg some (by kernel_rfl))⟩
 f57:=⟨Tryz.f149.name,by decide,Tryz.func149.trans (congrArg some (by kernel_rfl))⟩
 t0:=Tryz.underlying0
 a0:=Tryz.isAgg0
 z0:=Tryz.sizeOf0
 v0:=Tryz.zeroValue0
 t3:=Tryz.underlying3
 a3:=Tryz.isAgg3
 z3:=Tryz.sizeOf3
 v3:=Tryz.zeroValue3
 t4:=Tryz.underlying4
 a4:=Tryz.isAgg4
 z4:=Tryz.sizeOf4
 v4:=Tryz.zeroValue4
 t5:=Tryz.underlying5
 a5:=Tryz.isAgg5
 z5:=Tryz.sizeOf5
 v5:=Tryz.zeroValue5
 t9:=Tryz.underlying9
 a9:=Tryz.isAgg9
 z9:=Tryz.sizeOf9
 v9:=Tryz.zeroValue9
 t22:=Tryz.underlying44
 a22:=Tryz.isAgg44
 z22:=Tryz.sizeOf44
 v22:=Tryz.zeroValue44
 t25:=Tryz.underlying100
 a25:=Tryz.isAgg100
 z25:=Tryz.sizeOf100
 v25:=Tryz.zeroValue100
 t39:=Tryz.underlying116
 a39:=Tryz.isAgg116
 z39:=Tryz.sizeOf116
 v39:=Tryz.zeroValue116
 t45:=Tryz.underlying155
 a45:=Tryz.isAgg155
 z45:=Tryz.sizeOf155
 v45:=Tryz.zeroValue155
 t46:=Tryz.underlying156
 a46:=Tryz.isAgg156
 z46:=Tryz.sizeOf156
 v46:=Tryz.zeroValue156
 t50:=Tryz.underlying78
 a50:=Tryz.isAgg78
 z50:=Tryz.sizeOf78
 v50:=Tryz.zeroValue78
 t53:=Tryz.underlying162
 a53:=Tryz.isAgg162
 z53:=Tryz.sizeOf162
 v53:=Tryz.zeroValue162
 t55:=Tryz.underlying164
 a55:=Tryz.isAgg164
 z55:=Tryz.sizeOf164
 v55:=Tryz.zeroValue164
 t66:=Tryz.underlying184
 a66:=Tryz.isAgg184
 z66:=Tryz.sizeOf184
 v66:=Tryz.zeroValue184
 t70:=Tryz.underlying187
 a70:=Tryz.isAgg187
 z70:=Tryz.sizeOf187
 v70:=Tryz.zeroValue187
 t76:=Tryz.underlying195
 a76:=Tryz.isAgg195
 z76:=Tryz.sizeOf195
 v76:=Tryz.zeroValue195
 t77:=Tryz.underlying192
 a77:=Tryz.isAgg192
 z77:=Tryz.sizeOf192
 v77:=Tryz.zeroValue192}
end Go.Proofs
end
section
namespace Go.Sx
open Go.RowKit Go.Shelf Go.Lib Go.Sort Go.Proofs
set_option maxRecDepth 100000
noncomputable def nF:List SV→List Ob→Option HCon:=kM .holding 51 [] bM
@[go_sem] theorem E1 {l0:List Holding}:nF [.os 0,.fn 51 [] []] [.row .holding l0]=some (dN (apart bM l0) (.tup []) [.row .holding (srt bM l0)]):=uy
theorem uz:tZ .holding:=fun x s hs=>by
 simp only[cellsOf,List.mem_cons,List.not_mem_nil,or_false]at hs
 rcases hs with rfl|rfl|rfl|rfl
 all_goals exact⟨_,rfl,rfl⟩
theorem rP (x y:Holding):mI (.agg (cellsOf .holding x):: .agg (cellsOf .holding y)::[])=some (.det True (.v (.int .i64 (bM x y)))):=by
 simp only[go_sem,Nat.reduceBEq]
theorem wV:FnOkO Tryz.prog 50 nF:=
 yB (k:=.holding) Tryz.sortLh (fun w=>by kernel_rfl) (fun w=>by kernel_rfl) uz (by decide) (g:=51) (caps:=[]) qZ (cf:=bM) rP rK (fun s hs=>by cases hs) ⟨default,default,rP _ _⟩
end Go.Sx
end
section
namespace Go.Sx
open Go.Proofs
set_option maxRecDepth 100000
set_option linter.unusedSimpArgs false
theorem vC {p:Prop}(h:p:=by(first|done|(repeat' (first|with_reducible refine And.intro ?_ ?_|((with_reducible show _≠_);first|assumption|omega|(simp_all [bV,cd];done) |grind) |with_reducible intro _)) <;>(first|done|with_reducible exact Empty.elim ‹Empty› |with_reducible assumption|rfl|omega|assumption|decide|exact fk [0,1,2,3,7] |exact fk [0,1,2,3,4] |exact czl|(simp only[*,cond_true,cond_false,Bool.not_true,Bool.not_false,go_sem,Nat.reduceBEq,Nat.reduceLeDiff,Nat.reduceLT,decide_true,Nat.reduceAdd,Nat.reduceSub,Nat.reduceMul,Int.reduceLE,Int.reduceLT,Int.reduceToNat,Int.reduceNeg,reduceCtorEq];(repeat' (first|with_reducible refine And.intro ?_ ?_|((with_reducible show _≠_);first|assumption|omega|(simp_all [bV,cd];done) |grind) |with_reducible intro _)) <;>(first|done|assumption|rfl|omega|decide|exact fk [0,1,2,3,7] |exact fk [0,1,2,3,4] |(simp_all [bV,cd];done))) |(simp_all [okI,bV,cd];done) |(simp_all [bV,cd];(first|done|exact fk2 [0,1,2,3,7] |exact fk2 [0,1,2,3,4])) |exact fk2 [0,1,2,3,7] |exact fk2 [0,1,2,3,4]))):p:=h
theorem clQ {p:Prop}(h:p:=by((repeat' (first|with_reducible refine And.intro ?_ ?_|with_reducible intro _)) <;>(first|done|with_reducible exact Empty.elim ‹Empty› |with_reducible assumption|rfl|((try simp only[wC,En]at *);first|with_reducible assumption|(simp_all only[bV,cd];done) |grind|(simp_all only[bV,cd];grind))))):p:=h
@[go_sem] def cC (a0:District)(a1:List Deed)(a2:Int)(a3:Int)(k_0:RegisterTitle×Int)(s_0:List Holding):Empty⊕(List Holding):=(bif(decide (k_0.2 > 0))then .inr (s_0++([({ right:=k_0.1.right,farm:=k_0.1.farm,litres:=k_0.2,rank:=(a0.rights.getD (Int.toNat k_0.1.right) (default:Right)).rank}:Holding)]))else .inr s_0)
def gA (a0:District)(a1:List Deed)(a2:Int)(a3:Int)(k_0:RegisterTitle×Int)(s_0:List Holding):Prop:=((decide (k_0.2 > 0))=true→((0≤k_0.1.right∧k_0.1.right< (a0.rights.length:Int))∧((s_0++([({ right:=k_0.1.right,farm:=k_0.1.farm,litres:=k_0.2,rank:=(a0.rights.getD (Int.toNat k_0.1.right) (default:Right)).rank}:Holding)])).length*32≤i0)))
def be (a0:District)(a1:List Deed)(a2:Int)(a3:Int):List Holding×Int:=(bif((aj a0 a1) !=0)then([],(aj a0 a1))else(bif((!(aA a2 0 (IntKind.i64.wrap (a0.hours - 1)))) ||(!(aA a3 0 1048576)))then([],1)else(match eS (cC a0 a1 a2 a3) ((cB a0 (bU a1 a2 a3)).1) ([])with| .inl x=>x.elim| .inr s_0=>((srt bM s_0),0))))
def dK (a0:District)(a1:List Deed)(a2:Int)(a3:Int):Prop:=((cG a0 a1)∧((((aj a0 a1) !=0)=true→(([],(aj a0 a1))=(be a0 a1 a2 a3)))∧(((aj a0 a1) !=0)=false→((((!(aA a2 0 (IntKind.i64.wrap (a0.hours - 1)))) ||(!(aA a3 0 1048576)))=true→(([],1)=(be a0 a1 a2 a3)))∧(((!(aA a2 0 (IntKind.i64.wrap (a0.hours - 1)))) ||(!(aA a3 0 1048576)))=false→((dA a1 a2 a3)∧((eL a0 (bU a1 a2 a3))∧(∀ L_0,L_0.Perm ((cB a0 (bU a1 a2 a3)).1)→(okL (cC a0 a1 a2 a3) (gA a0 a1 a2 a3) L_0 ([])∧(∀ s_0,eS (cC a0 a1 a2 a3) L_0 ([])=.inr s_0→((apart bM s_0)∧(((srt bM s_0),0)=(be a0 a1 a2 a3)))))))))))))
@[go_sem] def lr:List SV→Option Con:=(pD .district fun a0=>(pR .deed fun a1=>(pI fun a2=>(pI fun a3=>(pE (.det (dK a0 a1 a2 a3) (.tup [.nw .holding ((be a0 a1 a2 a3).1),.v (.int .i64 ((be a0 a1 a2 a3).2))])))))))
theorem nG:FnOk Tryz.prog 18 lr:=by
 have hG:ConsOk Tryz.prog (mkG [(15,fun l=>eb (dF [.st .district,.sl .deed] l)),(47,gT),(48,fun l=>iN (dF [.st .district,.o] l)),(49,fun l=>gL (dF [.sl .deed,.o,.o] l))] [(50,nF)]):=aP (cgc (eK.norm [.st .district,.sl .deed]) (cgc iE (cgc (kO.norm [.st .district,.o]) (cgc (jJ.norm [.sl .deed,.o,.o]) cg0)))) (cgc wV cg0)
 refine re [(.tmp 8,.holding)] mixed aD hG (fn:=Tryz.f18) (c:=ae Tryz.f18) (by kernel_rfl) (by kernel_rfl) (by kernel_rfl) (by kernel_rfl) (cw fun a0=>(fz fun a1=>(dO fun a2=>(dO fun a3=>(br (fun hp=>?_))))))
 dsimp only[bf]at hp
 unfold dK at hp
 refine⟨Nat.le_of_ble_eq_true rfl,(fun id st=>bif Nat.beq id 0 then some (LCP (τ:=RegisterTitle×Int) (ρ:=Empty) (σ:=(List Holding)) 4 [.slot 8 (.row .holding ([]))] [0,1,2,3,4] (fun left_0 cur_0 s_0=>⟨[(4,.ptr 0 0),(8,.os 4),(41,.ptr 3 0)],[.cells (cellsOf .district a0),.mp .registerTitle .int ((cB a0 (bU a1 a2 a3)).1) (some (3,none)),.dead,.mi (some 1) (((cB a0 (bU a1 a2 a3)).1).length) left_0 cur_0,.row .holding s_0]⟩) (cC a0 a1 a2 a3) (gA a0 a1 a2 a3) ((cB a0 (bU a1 a2 a3)).1) ([]) ((·.elim)) ((·.elim)) (fun s_0=>⟨[(8,.os 4)],[.dead,.dead,.dead,.dead,.row .holding s_0]⟩) st)else none),?_,?_⟩
 ·unfold ae Tryz.f18
  simp only[aq,true_and,and_true]
  ·refine Ek (dg .registerTitle,dg .int) 3 mixed aD hG (by kernel_rfl) (fun _=>rfl) fun left_0 cur_0 s_0 hp0=>⟨L0,al _,?_⟩
   ·by_cases hl0:left_0=[]
    ·subst hl0
     simp only[go_sem,Nat.reduceBEq,Nat.reduceLeDiff,Nat.reduceLT,decide_true,Nat.reduceAdd,Nat.reduceSub,Nat.reduceMul,Int.reduceLE,Int.reduceLT,Int.reduceToNat,Int.reduceNeg,reduceCtorEq,List.not_mem_nil]
     all_goals exact vC
    ·simp only[go_sem,Nat.reduceBEq,Nat.reduceLeDiff,Nat.reduceLT,decide_true,Nat.reduceAdd,Nat.reduceSub,Nat.reduceMul,Int.reduceLE,Int.reduceLT,Int.reduceToNat,Int.reduceNeg,reduceCtorEq,hl0]
     intro j hj0
     obtain⟨hlt0,hq0⟩:=hp0 j hj0
     unfold gA at hq0
     all_goals exact vC
 ·unfold ae Tryz.f18
  simp only[go_sem,Nat.reduceBEq,Nat.reduceLeDiff,Nat.reduceLT,decide_true,Nat.reduceAdd,Nat.reduceSub,Nat.reduceMul,Int.reduceLE,Int.reduceLT,Int.reduceToNat,Int.reduceNeg,reduceCtorEq]
  all_goals exact clQ
def ei (d:District)(l_:List Deed)(known:Int):List Int×Int:=(bif((aj d l_) !=0)then([],(aj d l_))else(bif(!(aA known 0 1048576))then([],1)else((cB d (bU l_ 4096 known)).2,0)))
def gB (d:District)(l_:List Deed)(known:Int):Prop:=((cG d l_)∧(((aj d l_) !=0)=false→((!(aA known 0 1048576))=false→((dA l_ 4096 known)∧(eL d (bU l_ 4096 known))))))
@[go_sem] def mb:List SV→Option Con:=(pD .district fun d=>(pR .deed fun l_=>(pI fun known=>(pE (.det (gB d l_ known) (.tup [.nw .int ((ei d l_ known).1),.v (.int .i64 ((ei d l_ known).2))]))))))
theorem qn:FnOk Tryz.prog 20 mb:=by
 have hG:ConsOk Tryz.prog (mkG [(15,fun l=>eb (dF [.st .district,.sl .deed] l)),(47,gT),(48,fun l=>iN (dF [.st .district,.o] l)),(49,fun l=>gL (dF [.sl .deed,.o,.o] l))] []):=aP (cgc (eK.norm [.st .district,.sl .deed]) (cgc iE (cgc (kO.norm [.st .district,.o]) (cgc (jJ.norm [.sl .deed,.o,.o]) cg0)))) cg0
 refine re [(.tmp 6,.int)] mixed aD hG (fn:=Tryz.f20) (c:=ae Tryz.f20) (by kernel_rfl) (by kernel_rfl) (by kernel_rfl) (by kernel_rfl) (cw fun d=>(fz fun l_=>(dO fun known=>(br (fun hp=>?_)))))
 dsimp only[bf]at hp
 unfold gB at hp
 refine⟨Nat.le_of_ble_eq_true rfl,L0,al _,?_⟩
 ·unfold ae Tryz.f20
  try unfold ei
  simp only[go_sem,Nat.reduceBEq,Nat.reduceLeDiff,Nat.reduceLT,decide_true,Nat.reduceAdd,Nat.reduceSub,Nat.reduceMul,Int.reduceLE,Int.reduceLT,Int.reduceToNat,Int.reduceNeg,reduceCtorEq]
  all_goals exact cl
end Go.Sx
end
section
namespace Go.Sx
open Go.Proofs
def qo (d:District)(l:List Deed)(hour known:Int):Int→Int→Int:=EZ (stS (mQ l hour known)) (B0 d)
def E2 (d:District)(B:Int→Int→Int)(r f:Nat):Option Holding:=if 0<B r f then some { right:=(r:Int),farm:=(f:Int),litres:=B r f,rank:=(d.rights.getD r default).rank}else none
def mc (d:District)(B:Int→Int→Int)(r:Nat):List Holding:=(List.range d.farms.length).filterMap (E2 d B r)
def kP (d:District)(B:Int→Int→Int):List Holding:=(List.range d.rights.length).flatMap (mc d B)
theorem kf {d:District}{B:Int→Int→Int}{r:Nat}{x:Holding}:x∈mc d B r↔∃ f:Nat,f<d.farms.length∧0<B r f∧x= { right:=(r:Int),farm:=(f:Int),litres:=B r f,rank:=(d.rights.getD r default).rank}:=by
 unfold mc E2
 rw[List.mem_filterMap]
 constructor
 ·rintro⟨f,hf,h⟩
  rw[List.mem_range]at hf
  split at h
  ·rename_i h0
   exact⟨f,hf,h0,(Option.some.inj h).symm⟩
  ·cases h
 ·rintro⟨f,hf,h0,rfl⟩
  exact⟨f,List.mem_range.2 hf,by rw[if_pos h0]⟩
theorem ri {d:District}{B:Int→Int→Int}{x:Holding}:x∈kP d B↔0≤x.right∧x.right< (d.rights.length:Int)∧0≤x.farm∧x.farm< (d.farms.length:Int)∧0<x.litres∧x.litres=B x.right x.farm∧x.rank=(d.rights.getD x.right.toNat default).rank:=by
 unfold kP
 rw[List.mem_flatMap]
 constructor
 ·rintro⟨r,hr,hx⟩
  rw[List.mem_range]at hr
  obtain⟨f,hf,h0,rfl⟩:=kf.1 hx
  exact⟨by simp only;omega,by simp only;omega,by simp only;omega,by simp only;omega,h0,rfl,by simp only[Int.toNat_natCast]⟩
 ·rintro⟨a,b,c,e,h0,h1,h2⟩
  refine⟨x.right.toNat,List.mem_range.2 (by omega),kf.2 ⟨x.farm.toNat,by omega,?_,?_⟩⟩
  ·rw[Int.toNat_of_nonneg a,Int.toNat_of_nonneg c];omega
  ·rw[Int.toNat_of_nonneg a,Int.toNat_of_nonneg c,←h1,←h2]
theorem yD:∀ n:Nat,(List.range n).Pairwise (· < ·):=fun n=>List.pairwise_lt_range
theorem qp (d:District)(B:Int→Int→Int):(kP d B).Pairwise hlt:=by
 unfold kP
 rw[List.pairwise_flatMap]
 refine⟨fun r _=>?_,?_⟩
 ·unfold mc
  rw[List.pairwise_filterMap]
  refine(yD _).imp fun {a b} hab x hx y hy=>?_
  unfold E2 at hx hy
  split at hx
  ·split at hy
   ·cases hx;cases hy
    exact Or.inr ⟨rfl,Or.inl (by show(a:Int) < (b:Int);omega)⟩
   ·cases hy
  ·cases hx
 ·refine(yD _).imp fun {a b} hab x hx y hy=>?_
  obtain⟨f,_,_,rfl⟩:=kf.1 hx
  obtain⟨g,_,_,rfl⟩:=kf.1 hy
  simp only[hlt,q_,and_false,or_false];omega
theorem HE (x:Holding):¬hlt x x:=by simp only[hlt,q_,and_false,or_false];omega
theorem Cy {l:List Holding}(h:l.Pairwise hlt):l.Nodup:=h.imp fun {a b} hab e=>by subst e;exact HE _ hab
theorem yE {α β:Type}(f:α→List β)(k:Nat):∀ l:List α,(∀ a∈l,(f a).length≤k)→(l.flatMap f).length≤l.length*k
 | [],_=>by simp
 |a::l,h=>by
  have h1:=h a List.mem_cons_self
  have h2:=yE f k l fun b hb=>h b (List.mem_cons_of_mem _ hb)
  rw[List.flatMap_cons,List.length_append,List.length_cons,Nat.add_mul,Nat.one_mul];omega
theorem Cz {d:District}(hr:Right1 d)(B:Int→Int→Int):(kP d B).length≤153600:=by
 have h1:=yE (mc d B) 600 (List.range d.rights.length) fun r _=>Nat.le_trans (List.length_filterMap_le _ _) (by rw[List.length_range];exact hr.farms)
 rw[List.length_range]at h1
 have:=hr.rights
 show((List.range d.rights.length).flatMap (mc d B)).length≤_
 have:d.rights.length*600≤256*600:=Nat.mul_le_mul_right _ this
 omega
def kQ (d:District)(k:RegisterTitle×Int):Option Holding:=if 0<k.2 then some { right:=k.1.right,farm:=k.1.farm,litres:=k.2,rank:=(d.rights.getD (Int.toNat k.1.right) (default:Right)).rank}else none
theorem wW (d:District)(l:List Deed)(h n:Int):∀ (L:BM) (s:List Holding),eS (cC d l h n) L s=.inr (s++L.filterMap (kQ d))
 | [],s=>by simp[eS]
 |k::L,s=>by
  by_cases hk:0<k.2
  ·have e:kQ d k=some { right:=k.1.right,farm:=k.1.farm,litres:=k.2,rank:=(d.rights.getD (Int.toNat k.1.right) (default:Right)).rank}:=by unfold kQ;rw[if_pos hk]
   rw[List.filterMap_cons_some e]
   simp only[eS]
   unfold cC
   rw[decide_eq_true (show k.2 > 0 from hk)]
   simp only[cond_true]
   have:=wW d l h n L (s++[{ right:=k.1.right,farm:=k.1.farm,litres:=k.2,rank:=(d.rights.getD (Int.toNat k.1.right) (default:Right)).rank}])
   unfold cC at this
   rw[this,List.append_assoc];rfl
  ·have e:kQ d k=none:=by unfold kQ;rw[if_neg hk]
   rw[List.filterMap_cons_none e]
   simp only[eS]
   unfold cC
   rw[decide_eq_false (show ¬k.2 > 0 from hk)]
   simp only[cond_false]
   have:=wW d l h n L s
   unfold cC at this
   exact this
theorem Ag (d:District)(l:List Deed)(h n:Int):∀ (L:BM) (s:List Holding),(∀ k∈L,0<k.2→0≤k.1.right∧k.1.right< (d.rights.length:Int))→(s.length+(L.filterMap (kQ d)).length)*32≤i0→okL (cC d l h n) (gA d l h n) L s
 | [],_,_,_=>trivial
 |k::L,s,hk,hB=>by
  by_cases h0:0<k.2
  ·have e:kQ d k=some { right:=k.1.right,farm:=k.1.farm,litres:=k.2,rank:=(d.rights.getD (Int.toNat k.1.right) (default:Right)).rank}:=by unfold kQ;rw[if_pos h0]
   rw[List.filterMap_cons_some e,List.length_cons]at hB
   refine⟨fun _=>⟨hk k List.mem_cons_self h0,by rw[List.length_append];simp only[List.length_cons,List.length_nil];omega⟩,fun s' hs=>?_⟩
   unfold cC at hs
   rw[decide_eq_true (show k.2 > 0 from h0)]at hs
   cases hs
   exact Ag d l h n L _ (fun q hq=>hk q (List.mem_cons_of_mem _ hq)) (by rw[List.length_append];simp only[List.length_cons,List.length_nil];omega)
  ·have e:kQ d k=none:=by unfold kQ;rw[if_neg h0]
   rw[List.filterMap_cons_none e]at hB
   refine⟨fun h=>absurd (of_decide_eq_true h) h0,fun s' hs=>?_⟩
   unfold cC at hs
   rw[decide_eq_false (show ¬k.2 > 0 from h0)]at hs
   cases hs
   exact Ag d l h n L _ (fun q hq=>hk q (List.mem_cons_of_mem _ hq)) hB
theorem Bo {d:District}{r:Int}(hr:¬ (0≤r∧r< (d.rights.length:Int))):∀ (ds:List Deed) (B:Int→Int→Int),(∀ x∈ds,Fit d x∧x.kind≠4)→EZ ds B r=B r
 | [],B,_=>rfl
 |x::ds,B,h=>by
  have h1:=h x List.mem_cons_self
  have h2:=h1.1.held h1.2
  show EZ ds (ma x B) r=_
  rw[Bo hr ds _ fun y hy=>h y (List.mem_cons_of_mem _ hy)]
  unfold ma
  rw[if_neg (by omega)]
theorem ua {d:District}{l:List Deed}(h:Deeds d l)(hour known:Int):∀ x∈stS (mQ l hour known),Fit d x∧x.kind≠4:=fun x hx=>by
 have hx:=Ht.1 hx
 unfold mQ at hx
 rw[List.mem_filter]at hx
 refine⟨h.fit x hx.1,fun e=>?_⟩
 have:=hx.2
 rw[e]at this
 simp at this
theorem Bp (l:List Deed):(stS l).length=l.length:=(nY (nz l)).symm
theorem HF {α:Type}{a b:List α}(ha:a.Nodup)(hb:b.Nodup)(h:∀ x,x∈a↔x∈b):a.Perm b:=(List.perm_ext_iff_of_nodup ha hb).2 h
theorem CA {d:District}{l:List Deed}(h:Deeds d l){m:BM}(hm:MapOk d m){hour known:Int}(hb:bk m=qo d l hour known):
  (m.filterMap (kQ d)).Perm (kP d (qo d l hour known))∧∀ k∈m,0<k.2→0≤k.1.right∧k.1.right< (d.rights.length:Int):=by
 have hget:∀ (t:RegisterTitle) (v:Int),(t,v)∈m→bk m t.right t.farm=v:=fun t v htv=>by
  have:=(t7 hm.nodup).2 htv
  show(d_ m { right:=t.right,farm:=t.farm}).getD _=v
  have e:({ right:=t.right,farm:=t.farm}:RegisterTitle)=t:=rfl
  rw[e,this];rfl
 have hrng:∀ k∈m,0<k.2→0≤k.1.right∧k.1.right< (d.rights.length:Int):=fun k hk h0=>by
  rcases Classical.em (0≤k.1.right∧k.1.right< (d.rights.length:Int))with hr|hr
  ·exact hr
  ·have e:=hget k.1 k.2 hk
   rw[hb]at e
   unfold qo at e
   rw[Bo hr _ _ (ua h hour known)]at e
   unfold B0 at e
   rw[if_neg (fun h=>hr ⟨h.1,h.2.1⟩)]at e
   omega
 refine⟨HF ?_ (Cy (qp _ _)) fun x=>?_,hrng⟩
 ·rw[List.Nodup,List.pairwise_filterMap]
  have:m.Pairwise fun a b=>a.1≠b.1:=by
   have:=hm.nodup
   unfold fJ at this
   rw[List.Nodup,List.pairwise_map]at this
   exact this
  refine this.imp fun {a b} hab x hx y hy=>?_
  unfold kQ at hx hy
  split at hx
  ·split at hy
   ·cases hx;cases hy
    intro e
    simp only[Holding.mk.injEq]at e
    refine hab ?_
    obtain⟨⟨a1,a2⟩,a3⟩:=a
    obtain⟨⟨b1,b2⟩,b3⟩:=b
    simp only at e
    simp[e.1,e.2.1]
   ·cases hy
  ·cases hx
 ·rw[List.mem_filterMap,ri]
  constructor
  ·rintro⟨k,hk,hx⟩
   unfold kQ at hx
   split at hx
   ·rename_i h0
    cases hx
    have e:=hget k.1 k.2 hk
    obtain⟨a,b⟩:=hrng k hk h0
    obtain⟨L,_,hg⟩:=hm.good k.1.right
    obtain⟨c,f⟩:=hg.sup k.1.farm (by rw[e];omega)
    exact⟨a,b,c,f,h0,by simp only;rw[←hb,e],rfl⟩
   ·cases hx
  ·rintro⟨a,b,c,f,h0,h1,h2⟩
   rw[←hb]at h1
   have h3:d_ m (RT x.right x.farm)=some x.litres:=by
    have e:bk m x.right x.farm=(d_ m (RT x.right x.farm)).getD 0:=rfl
    cases hg:d_ m (RT x.right x.farm)with
    |none=>rw[e,hg]at h1;simp at h1;omega
    |some v=>rw[e,hg]at h1;simp at h1;rw[h1]
   refine⟨(RT x.right x.farm,x.litres),(t7 hm.nodup).1 h3,?_⟩
   unfold kQ
   rw[if_pos h0]
   simp only[Option.some.injEq]
   rw[←h2]
open Go.Shelf Go.Sort in
theorem vD {d:District}{B:Int→Int→Int}{s:List Holding}(h:s.Perm (kP d B)):apart bM s∧srt bM s=kP d B:=by
 have e1:∀ x y,ltOf bM x y=true↔hlt x y:=fun x y=>by unfold ltOf;rw[decide_eq_true_eq,tP]
 have e2:∀ x y,ltOf bM x y=false↔¬hlt x y:=fun x y=>by rw[←e1];simp
 have heq:∀ x∈kP d B,∀ y∈kP d B,¬hlt x y→¬hlt y x→x=y:=fun x hx y hy h1 h2=>by
  obtain⟨_,_,_,_,_,x1,x2⟩:=ri.1 hx
  obtain⟨_,_,_,_,_,y1,y2⟩:=ri.1 hy
  simp only[hlt,q_,and_false,or_false]at h1 h2
  have q1:x.right=y.right:=by omega
  have q2:x.farm=y.farm:=by omega
  obtain⟨a,b,c,e⟩:=x
  obtain⟨a',b',c',e'⟩:=y
  simp only at q1 q2 x1 x2 y1 y2
  subst q1;subst q2
  rw[x1,x2,y1,y2]
 refine⟨fun x hx y hy h1 h2=>heq x (h.subset hx) y (h.subset hy) ((e2 x y).1 h1) ((e2 y x).1 h2),?_⟩
 unfold srt
 have hp:(s.mergeSort fun x y=>!(ltOf bM y x)).Perm (kP d B):=(List.mergeSort_perm _ _).trans h
 refine List.Perm.eq_of_pairwise (le:=fun x y=>(!ltOf bM y x)=true) ?_ ?_ ?_ hp
 ·intro x y hx hy h1 h2
  simp only[Bool.not_eq_true']at h1 h2
  exact heq x (hp.subset hx) y hy ((e2 x y).1 h2) ((e2 y x).1 h1)
 ·refine List.pairwise_mergeSort ?_ ?_ s
  ·intro a b c h1 h2
   simp only[Bool.not_eq_true']at h1 h2 ⊢
   exact rK.3 c b a h2 h1
  ·intro a b
   simp only[Bool.or_eq_true,Bool.not_eq_true']
   rcases Classical.em (hlt b a)with hh|hh
   ·refine .inr ((e2 _ _).2 fun h3=>?_)
    simp only[hlt,q_,and_false,or_false]at hh h3;omega
   ·exact .inl ((e2 _ _).2 hh)
 ·refine(qp d B).imp fun {a b} hab=>?_
  simp only[Bool.not_eq_true']
  refine(e2 _ _).2 fun h3=>?_
  simp only[hlt,q_,and_false,or_false]at hab h3;omega
theorem oF (d:District)(l:List Deed)(hour known:Int):dK d l hour known∧
  be d l hour known=if aj d l≠0 then([],aj d l)else if 0≤hour∧hour<d.hours∧0≤known∧known≤1048576 then(kP d (qo d l hour known),0)else([],1):=by
 by_cases hc:aj d l=0
 ·have hD:=nE hc
  have hE:=((l7 d l).1 hc).1
  have hh:=hD.right.hours
  have hh1:=hD.right.hours1
  have hw:((!(aA hour 0 (IntKind.i64.wrap (d.hours - 1)))) ||(!(aA known 0 1048576)))= !decide (0≤hour∧hour<d.hours∧0≤known∧known≤1048576):=by
   rw[bJ (by omega) (by omega),←Bool.not_and]
   congr 1
   rw[Bool.eq_iff_iff,Bool.and_eq_true,o5,o5,decide_eq_true_eq]
   omega
  obtain⟨c1,c2⟩:=rO l hour known hD.len
  have hlen:(stS (mQ l hour known)).length≤512:=by rw[Bp];exact Nat.le_trans (List.length_filter_le _ _) hD.len
  obtain⟨f1,m,f2,f3,f4⟩:=vB hE (ua hD hour known) hlen
  obtain⟨p1,p2⟩:=CA hD f3 (hour:=hour) (known:=known) f4
  have key:∀ L:BM,L.Perm m→(L.filterMap (kQ d)).Perm (kP d (qo d l hour known)):=fun L hL=>(hL.filterMap _).trans p1
  have val:be d l hour known=if 0≤hour∧hour<d.hours∧0≤known∧known≤1048576 then(kP d (qo d l hour known),0)else([],1):=by
   unfold be
   rw[hc,hw,c2,f2]
   simp only[bne_self_eq_false,cond_false]
   by_cases hg:0≤hour∧hour<d.hours∧0≤known∧known≤1048576
   ·rw[decide_eq_true hg,if_pos hg]
    simp only[Bool.not_true,cond_false]
    rw[wW,List.nil_append]
    simp only
    rw[(vD (key m (List.Perm.refl _))).2]
   ·rw[decide_eq_false hg,if_neg hg];rfl
  refine⟨⟨fI d l,(fun h=>by rw[hc]at h;cases h),fun _=>⟨fun h=>?_,fun h=>?_⟩⟩,by rw[if_neg (by simp[hc])];exact val⟩
  ·rw[hw]at h
   rw[val,if_neg (by simpa only[Bool.not_eq_true',decide_eq_false_iff_not]using h)]
  ·rw[hw]at h
   have hg:0≤hour∧hour<d.hours∧0≤known∧known≤1048576:=by simpa using h
   rw[c2,f2]
   refine⟨c1,f1,fun L hL=>?_⟩
   have hk:=key L hL
   refine⟨Ag d l hour known L [] (fun k hk=>p2 k (hL.subset hk)) ?_,fun s hs=>?_⟩
   ·have h1:=hk.length_eq
    have h2:=Cz hD.right (qo d l hour known)
    rw[h1,List.length_nil]
    unfold i0
    omega
   ·rw[wW,List.nil_append]at hs
    cases hs
    obtain⟨s1,s2⟩:=vD hk
    exact⟨s1,by rw[s2,val,if_pos hg]⟩
 ·have hne:(aj d l !=0)=true:=by simpa using hc
  have val:be d l hour known=([],aj d l):=by unfold be;rw[hne];rfl
  refine⟨⟨fI d l,(fun _=>val.symm),fun h=>?_⟩,by rw[if_pos hc];exact val⟩
  rw[hne]at h;cases h
end Go.Sx
end
section
namespace Go.Sx
open Go.Proofs
set_option maxRecDepth 100000
set_option linter.unusedSimpArgs false
def aS:District:=({ name:=(ByteArray.mk #[]),hours:=4,tank:=({ cap:=9,start:=9}:Tank),reaches:=[({ name:=(ByteArray.mk #[]),up:=(-1),delay:=1,cap:=50,bank:=50,siphon:=0,evap:=({ lo:=0,hi:=0}:Range),seep:=(({ n:=0,d:=1}:Ratio),({ n:=0,d:=1}:Ratio))}:Reach)],farms:=[({ name:=(ByteArray.mk #[]),reach:=0,area:=0,crop:=(-1)}:Farm),({ name:=(ByteArray.mk #[]),reach:=0,area:=0,crop:=(-1)}:Farm),({ name:=(ByteArray.mk #[]),reach:=0,area:=0,crop:=(-1)}:Farm)],crops:=[],rights:=[({ name:=(ByteArray.mk #[]),kind:=1,farm:=0,reach:=0,rank:=7,litres:=5,since:=0,to:=3,every:=1,length:=1}:Right)],duties:=[],wells:=[]}:District)
@[go_sem] def oG:List SV→Option Con:=(pE (.det True (.agg (cellsOf .district (aS)))))
theorem ub:FnOk Tryz.prog 33 oG:=by
 have hG:ConsOk Tryz.prog (mkG [] []):=aP cg0 cg0
 refine cm [.st .district] mixed aD hG (fn:=Tryz.f33) (c:=ae Tryz.f33) (by kernel_rfl) (by kernel_rfl) (by kernel_rfl) (by kernel_rfl) (br (fun hp=>?_))
 dsimp only[bf]at hp
 refine⟨Nat.le_of_ble_eq_true rfl,L0,al _,?_⟩
 ·unfold ae Tryz.f33
  try unfold aS
  simp only[go_sem,Nat.reduceBEq,Nat.reduceLeDiff,Nat.reduceLT,decide_true,Nat.reduceAdd,Nat.reduceSub,Nat.reduceMul,Int.reduceLE,Int.reduceLT,Int.reduceToNat,Int.reduceNeg,reduceCtorEq]
  all_goals exact cl
def il:Ratio:=({ n:=1,d:=2}:Ratio)
@[go_sem] def qq:List SV→Option Con:=(pE (.det True (.agg [.v (.int .i64 ((il).n)),.v (.int .i64 ((il).d))])))
theorem uA:FnOk Tryz.prog 34 qq:=by
 have hG:ConsOk Tryz.prog (mkG [] []):=aP cg0 cg0
 refine DG true mixed aD hG (fn:=Tryz.f34) (c:=ae Tryz.f34) (by kernel_rfl) (by kernel_rfl) (by kernel_rfl) (by kernel_rfl) (br (fun hp=>?_))
 dsimp only[bf]at hp
 refine⟨Nat.le_of_ble_eq_true rfl,L0,al _,?_⟩
 ·unfold ae Tryz.f34
  try unfold il
  simp only[go_sem,Nat.reduceBEq,Nat.reduceLeDiff,Nat.reduceLT,decide_true,Nat.reduceAdd,Nat.reduceSub,Nat.reduceMul,Int.reduceLE,Int.reduceLT,Int.reduceToNat,Int.reduceNeg,reduceCtorEq]
  all_goals exact cl
end Go.Sx
end
section
namespace Go.Sx
open Go.RowKit
def E3 (n0 id:Nat):Ob→SV
 | .row k l=>bif Nat.ble n0 id then .rs k l else .any
 |_=>.any
def isV:SV→Bool
 | .v _=>true
 |_=>false
def uB (n0:Nat)(h:List Ob):SV→SV
 | .v x=>.v x
 | .rs k l=>.rs k l
 | .agg l=>bif l.all isV then .agg l else .any
 | .os id=>E3 n0 id (ag h id)
 |_=>.any
def uC (n0:Nat)(h:List Ob):SV→SV
 | .tup l=>.tup (l.map (uB n0 h))
 |s=>uB n0 h s
def Ah (n0:Nat)(own:Own):Own:=fun i=>if i<n0 then own i else none
section
variable {F:Nat→Prop}{own:Own}{w:World}{n0:Nat}{h:List Ob}
theorem qr {b:Nat}(hb:¬bO F own b):¬bO F (Ah n0 own) b:=by
 rintro (hf| ⟨id,hd,e,hm⟩)
 ·exact hb (.inl hf)
 ·unfold Ah at e
  split at e
  ·exact hb (.inr ⟨id,hd,e,hm⟩)
  ·cases e
theorem yF (hp:Hp F own w h):∀ (s:SV) (v:Value),Rel F own w s v→Rel F (Ah n0 own) w (uB n0 h s) v:=by
 intro s v hr
 cases s with
 |v x=>exact hr.over (.v x) fun b hb=>qr hb
 |rs k l=>exact hr.over .rs fun b hb=>qr hb
 |agg l=>
  simp only[uB]
  cases ha:l.all isV with
  |false=>exact .any _
  |true=>
   refine hr.over (.agg fun j s hj=>?_) fun b hb=>qr hb
   have:=List.all_eq_true.1 ha s (List.mem_of_getElem? hj)
   cases s <;>first|exact .v _|cases this
 |os id=>
  obtain⟨hd,h1,rfl,h2⟩:=ev hr
  simp only[uB]
  cases ho:ag h id with
  |row k l=>
   simp only[E3]
   cases hn:Nat.ble n0 id with
   |false=>exact .any _
   |true=>
    have hn':=Nat.le_of_ble_eq_true hn
    obtain⟨hd',e0,e⟩:=hp.at ho rfl
    rw[h1]at e0;cases e0
    have hnb:∀ b∈hd.bs,¬bO F (Ah n0 own) b:=by
     rintro b hb (hf| ⟨i,hi,e1,e2⟩)
     ·exact hp.apart id hd b h1 hb hf
     ·unfold Ah at e1
      split at e1
      ·rename_i hlt
       have:=hp.inj id i hd hi b h1 e1 hb e2
       omega
      ·cases e1
    rcases e with⟨a,e1,rfl,_⟩ | ⟨b,o,cap,cs,ty,e1,e2,h3,h4,h5,h6,h7⟩
    ·rw[e1];exact .rs0
    ·rw[e1]
     refine .rs (fun i j=>cs.getD (o+i*aa k+j) undef) h5 h6 (fun i x hi j s hj=>?_) (fun i x hi j s hj=>?_)
     ·obtain⟨u,k1,k2⟩:=h7 i x hi j s hj
      refine⟨hnb b (by simp[e2]),?_⟩
      rw[cI h3,k1]
      simp[Array.getD_eq_getD_getElem?,k1]
     ·obtain⟨u,k1,k2⟩:=h7 i x hi j s hj
      have:cs.getD (o+i*aa k+j) undef=u:=by simp[Array.getD_eq_getD_getElem?,k1]
      rw[this]
      exact k2.over (jB hj) fun b hb=>qr hb
  |_=>exact .any _
 |_=>exact .any _
theorem E4 (hp:Hp F own w h)(s:SV)(v:Value)(hr:Rel F own w s v):Rel F (Ah n0 own) w (uC n0 h s) v:=by
 cases s with
 |tup l=>
  cases hr with
  |tup h0 h1=>
   refine .tup (by simpa using h0) fun j s hj=>?_
   obtain⟨x,hx,rfl⟩:=ca hj
   exact yF hp x _ (h1 j x hx)
 |_=>exact yF hp _ _ hr
@[go_sem] theorem OA {l:List SV}:uC n0 h (.tup l)=.tup (l.map (uB n0 h)):=(rfl)
@[go_sem] theorem P_ {id:Nat}:uC n0 h (.os id)=E3 n0 id (ag h id):=(rfl)
@[go_sem] theorem QW {x:Value}:uC n0 h (.v x)=.v x:=(rfl)
@[go_sem] theorem Qa {k:Tag}{l:List k.T}:uC n0 h (.rs k l)=.rs k l:=(rfl)
@[go_sem] theorem OB {l:List SV}:uC n0 h (.agg l)=bif l.all isV then .agg l else .any:=(rfl)
@[go_sem] theorem QX {x:Value}:uB n0 h (.v x)=.v x:=(rfl)
@[go_sem] theorem Qb {k:Tag}{l:List k.T}:uB n0 h (.rs k l)=.rs k l:=(rfl)
@[go_sem] theorem OC {l:List SV}:uB n0 h (.agg l)=bif l.all isV then .agg l else .any:=(rfl)
@[go_sem] theorem Qc {id:Nat}:uB n0 h (.os id)=E3 n0 id (ag h id):=(rfl)
@[go_sem] theorem OD {k:Tag}{l:List k.T}{id:Nat}:E3 n0 id (.row k l)=bif Nat.ble n0 id then .rs k l else .any:=(rfl)
@[go_sem] theorem isV_v {x:Value}:isV (.v x)=true:=(rfl)
end
def E5 (pks:List Pk)(n0:Nat)(S:SV)(H:List Ob)(h:List Ob):Option SV→Prop
 |some s=>S=od pks (uC n0 h s)∧eV ⟨[],H⟩ n0 ⟨[],h⟩
 |none=>False
def Iv (pks:List Pk)(n0:Nat)(rs:List ResultVar)(ts:Tis)(S:SV)(H:List Ob):Ex→St→Prop
 | .exit _,_=>False
 | .normal,st=>E5 pks n0 S H st.h (iU (h_ ts st rs))
 | .ret,st=>E5 pks n0 S H st.h (iU (h_ ts st rs))
 | .pan _,_=>False
section
variable {P:Program}{ts:Tis}{G:Cons}{n0:Nat}{S s:SV}{H h:List Ob}{rs:List ResultVar}{st:St}{pks:List Pk}
@[go_sem] theorem MG:E5 pks n0 S H h (some s)=(S=od pks (uC n0 h s)∧eV ⟨[],H⟩ n0 ⟨[],h⟩):=(rfl)
@[go_sem] theorem HG:Iv pks n0 rs ts S H .normal st=E5 pks n0 S H st.h (iU (h_ ts st rs)):=(rfl)
@[go_sem] theorem MH:Iv pks n0 rs ts S H .ret st=E5 pks n0 S H st.h (iU (h_ ts st rs)):=(rfl)
end
end Go.Sx
end
section
namespace Go.Sx
open Go.RowKit
def HH (h:List Ob):Option Con→Option HCon
 |some (.det p s) =>some (dN p (uC 0 (az 3 s) (ef 3 0 s)) (h.map fun _=>.dead))
 |_=>none
def E6 (C:List SV→Option Con)(l:List SV)(h:List Ob):Option HCon:=HH h (C (l.map (dh h 6)))
@[go_sem] theorem Qd {C:List SV→Option Con}{l:List SV}{h:List Ob}:E6 C l h=HH h (C (l.map (dh h 6))):=(rfl)
@[go_sem] theorem OE {h:List Ob}{p:Prop}{s:SV}:HH h (some (.det p s))=some (dN p (uC 0 (az 3 s) (ef 3 0 s)) (h.map fun _=>.dead)):=(rfl)
section
variable {P:Program}{F:Nat→Prop}{own:Own}{w w':World}
def E7 (own:Own):Own:=fun i=>(own i).map fun hd=>{ hd with bs:=[]}
theorem HI {b:Nat}(hb:¬F b):¬bO F (E7 own) b:=by
 rintro (hf| ⟨id,hd,e,hm⟩)
 ·exact hb hf
 ·unfold E7 at e
  cases h:own id with
  |none=>rw[h]at e;cases e
  |some x=>rw[h]at e;cases e;cases hm
theorem FnOk.eat {f:FuncId}{C:List SV→Option Con}(hf:FnOk P f C):FnOkO P f (E6 C) where
 enter:=fun l h c e=>by
  unfold E6 at e
  cases hc:C (l.map (dh h 6))with
  |none=>rw[hc]at e;cases e
  |some c'=>exact hf.enter _ c' hc
 calls:=fun l h c e hp F own w vs hH hr=>by
  unfold E6 at e
  cases hc:C (l.map (dh h 6))with
  |none=>rw[hc]at e;cases e
  |some c'=>
   rw[hc]at e
   cases c' with
   |det p s=>
    simp only[HH,Option.some.injEq]at e
    subst e
    have n0:∀ {F':Nat→Prop} {w1:World},(∀ b,F' b→b<w1.heap.size)→Hp F' cg w1 []:=fun hf=>⟨(fun id hd h=>by cases h),hf,(fun id hd b h=>by cases h),(fun i j hi hj b h=>by cases h),(fun id hd b h=>by cases h),(fun id h=>by cases h)⟩
    have hE:∀ {id:Nat} {hd:Hd},E7 own id=some hd→hd.bs=[]∧id<h.length:=fun {id hd} h=>by
     unfold E7 at h
     cases ho:own id with
     |none=>rw[ho]at h;cases h
     |some x=>rw[ho]at h;cases h;exact⟨rfl,hH.dom id x ho⟩
    refine(hf.calls _ _ hc hp F w vs hH.foreign ⟨by simpa using hr.1,fun j s hj=>?_⟩).mono ?_
    ·obtain⟨x,hx,rfl⟩:=ca hj
     exact nP hH 6 x _ (hr.2 j x hx)
    ·rintro e w' (⟨s',u,own',h1,h2,h3,h4⟩ | ⟨x,hx,_⟩)
     ·cases h1
      obtain⟨own2,q1,q2,q3,q4⟩:=qO (n0 hH.foreign) (.inl fun b=>⟨fun h=>.inl h,fun h=>h.elim id fun⟨_,_,h,_⟩ =>by cases h⟩) h4 h3
      have q5:=E4 (n0:=0) q1 _ _ q3
      refine⟨(),E7 own,trivial,⟨u,h2,?_⟩,?_,?_,by simp⟩
      ·refine q5.carry ⟨fun id hd h=>by simp[Ah]at h,fun b _ hb=>⟨HI fun hf=>hb (.inl hf),rfl⟩⟩
      ·refine⟨fun id hd h=>by rw[List.length_map];exact(hE h).2,fun b hb=>Nat.lt_of_lt_of_le (hH.foreign b hb) h4.size,fun id hd b h hm=>?_,fun i j hi hj b h _ hm=>?_,fun id hd b h hm=>?_,fun id hd=>?_⟩
       ·rw[(hE h).1]at hm;cases hm
       ·rw[(hE h).1]at hm;cases hm
       ·rw[(hE h).1]at hm;cases hm
       ·rw[jl,List.getElem?_map]at hd
        cases ho:h[id]? <;>rw[ho]at hd <;>simp[b8]at hd
      ·refine⟨fun id hd h=>?_,fun id hd b h hm=>?_,h4.os,h4.tape,h4.output,h4.size,fun k hk=>h4.block k hk.1⟩
       ·exact⟨{ hd with bs:=[]},by show(own id).map _=_;rw[show own id=some hd from h];rfl,rfl,rfl,rfl⟩
       ·rw[(hE h).1]at hm;cases hm
     ·cases hx
   |_=>cases e
end
end Go.Sx
end
section
namespace Go.Sx
open Go.Proofs
set_option maxRecDepth 100000
set_option linter.unusedSimpArgs false
def gh:=({ no:=5,kind:=4,right:=0,since:=0,to:=0,parts:=[],of_:=3,at_:=0,known:=9}:Deed)
def eZ:=([({ no:=1,kind:=3,right:=0,since:=2,to:=0,parts:=[],of_:=0,at_:=0,known:=0}:Deed)])
def ej:=(ei aS eZ 0)
def eo:=(ej.1)
def er:=(eo.length:Int)
def et:=({ no:=3,kind:=2,right:=0,since:=0,to:=0,parts:=[({ farm:=1,share:=il}:Part),({ farm:=2,share:=il}:Part)],of_:=0,at_:=1,known:=2}:Deed)
def e_:=([et])
def fa:=(iF aS e_ gh)
def bu:=(fa.1)
def cT:=(bu.length:Int)
def fb:=(bu.getD 1 (default:Deed))
def fc:=(be aS bu 1 9)
def fe:=(be aS bu 1 2)
def ff:=(be aS bu 0 2)
def dT:=(fe.1)
def fg:=(fc.1)
def fh:=(ff.1)
def eO:=(fg.length:Int)
def d9:=(dT.length:Int)
def eP:=(fh.length:Int)
def cV:=(dT.getD 1 (default:Holding))
def b_:=(dT.getD 0 (default:Holding))
def bp:=(fg.getD 0 (default:Holding))
def aT:=(fh.getD 0 (default:Holding))
def gY:=(iF aS bu et)
def jr:=((bu.take (Int.toNat cT)).drop 1)
def fM:=(aj aS jr)
def jg:Bool:=(bif((((((((((((fa.2 !=0) ||(gY.2 !=171)) ||(ff.2 !=0)) ||(fe.2 !=0)) ||(fc.2 !=0)) ||((be aS ([]) 4 0).2 !=1)) ||(ej.2 !=0)) ||(cT !=2)) ||(eP !=1)) ||(d9 !=2)) ||(eO !=1)) ||(er !=1))then false else(bif((fM !=250) ||(fb.no !=5))then false else((((((aT.right==0)&&((aT.farm==0)&&((aT.litres==5)&&(aT.rank==7))))&&((bp.right==0)&&((bp.farm==0)&&((bp.litres==5)&&(bp.rank==7)))))&&((b_.right==0)&&((b_.farm==1)&&((b_.litres==3)&&(b_.rank==7)))))&&((cV.right==0)&&((cV.farm==2)&&((cV.litres==2)&&(cV.rank==7)))))&&((eo.getD 0 (0:Int)) ==1))))
def iO:Prop:=((eY aS e_ gh)∧((eY aS bu et)∧((dK aS bu 0 2)∧((dK aS bu 1 2)∧((dK aS bu 1 9)∧((dK aS ([]) 4 0)∧((gB aS eZ 0)∧(((((((((((((fa.2 !=0) ||(gY.2 !=171)) ||(ff.2 !=0)) ||(fe.2 !=0)) ||(fc.2 !=0)) ||((be aS ([]) 4 0).2 !=1)) ||(ej.2 !=0)) ||(cT !=2)) ||(eP !=1)) ||(d9 !=2)) ||(eO !=1)) ||(er !=1))=false→((0≤1∧1≤cT∧cT≤cT)∧((cG aS jr)∧(((fM !=250)=false→(0≤1∧1<cT))∧(((fM !=250) ||(fb.no !=5))=false→((0≤0∧0<eP)∧((((aT.right==0)&&((aT.farm==0)&&((aT.litres==5)&&(aT.rank==7))))=true→(0≤0∧0<eO))∧(((((aT.right==0)&&((aT.farm==0)&&((aT.litres==5)&&(aT.rank==7))))&&((bp.right==0)&&((bp.farm==0)&&((bp.litres==5)&&(bp.rank==7)))))=true→(0≤0∧0<d9))∧((((((aT.right==0)&&((aT.farm==0)&&((aT.litres==5)&&(aT.rank==7))))&&((bp.right==0)&&((bp.farm==0)&&((bp.litres==5)&&(bp.rank==7)))))&&((b_.right==0)&&((b_.farm==1)&&((b_.litres==3)&&(b_.rank==7)))))=true→(0≤1∧1<d9))∧((((((aT.right==0)&&((aT.farm==0)&&((aT.litres==5)&&(aT.rank==7))))&&((bp.right==0)&&((bp.farm==0)&&((bp.litres==5)&&(bp.rank==7)))))&&((b_.right==0)&&((b_.farm==1)&&((b_.litres==3)&&(b_.rank==7)))))&&((cV.right==0)&&((cV.farm==2)&&((cV.litres==2)&&(cV.rank==7)))))=true→(0≤0∧0<er))))))))))))))))))
@[go_sem] def qs:List SV→Option Con:=(pE (.det (iO) (.v (.bool (jg)))))
theorem uD:FnOk Tryz.prog 11 qs:=by
 have hG:ConsOk Tryz.prog (mkG [(13,fun l=>kK (dF [.st .district,.sl .deed,.st .deed] l)),(15,fun l=>eb (dF [.st .district,.sl .deed] l)),(18,fun l=>lr (dF [.st .district,.sl .deed,.o,.o] l)),(20,fun l=>mb (dF [.st .district,.sl .deed,.o] l)),(33,oG),(34,qq)] [(13,E6 (fun l=>kK (dF [.st .district,.sl .deed,.st .deed] l)))]):=aP (cgc (mL.norm [.st .district,.sl .deed,.st .deed]) (cgc (eK.norm [.st .district,.sl .deed]) (cgc (nG.norm [.st .district,.sl .deed,.o,.o]) (cgc (qn.norm [.st .district,.sl .deed,.o]) (cgc ub (cgc uA cg0)))))) (cgc (FnOk.eat (mL.norm [.st .district,.sl .deed,.st .deed])) cg0)
 refine cm [.o] mixed aD hG (fn:=Tryz.f11) (c:=ae Tryz.f11) (by kernel_rfl) (by kernel_rfl) (by kernel_rfl) (by kernel_rfl) (br (fun hp=>?_))
 dsimp only[bf]at hp
 unfold iO at hp
 try simp only[gh,eZ,ej,eo,er,et,e_,fa,bu,cT,fb,fc,fe,ff,dT,fg,fh,eO,d9,eP,cV,b_,bp,aT,gY,jr,fM]at hp
 refine⟨Nat.le_of_ble_eq_true rfl,L0,al _,?_⟩
 ·unfold ae Tryz.f11
  try unfold jg
  simp (maxSteps:=1000000) only[go_sem,Nat.reduceBEq,Nat.reduceLeDiff,Nat.reduceLT,decide_true,Nat.reduceAdd,Nat.reduceSub,Nat.reduceMul,Int.reduceLE,Int.reduceLT,Int.reduceToNat,Int.reduceNeg,reduceCtorEq,gh,eZ,ej,eo,er,et,e_,fa,bu,cT,fb,fc,fe,ff,dT,fg,fh,eO,d9,eP,cV,b_,bp,aT,gY,jr,fM]
  all_goals exact cl
end Go.Sx
end
section
namespace Go.Sx
open Go.Proofs
set_option maxRecDepth 100000
theorem yG (d:District)(l:List Deed)(known:Int):gB d l known∧
  ei d l known=if aj d l≠0 then([],aj d l)else if 0≤known∧known≤1048576 then(qk (Cw (stS (mQ l 4096 known)) (B0 d)),0)else([],1):=by
 by_cases hc:aj d l=0
 ·have hD:=nE hc
  have hE:=((l7 d l).1 hc).1
  have hw:(!(aA known 0 1048576))= !decide (0≤known∧known≤1048576):=by
   congr 1
   rw[Bool.eq_iff_iff,o5,decide_eq_true_eq]
  obtain⟨c1,c2⟩:=rO l 4096 known hD.len
  have hlen:(stS (mQ l 4096 known)).length≤512:=by rw[Bp];exact Nat.le_trans (List.length_filter_le _ _) hD.len
  obtain⟨f1,m,f2,f3,f4⟩:=vB hE (ua hD 4096 known) hlen
  refine⟨⟨fI d l,fun _ _=>⟨c1,by rw[c2];exact f1⟩⟩,?_⟩
  unfold ei
  rw[if_neg (by simp[hc]),hc,hw,c2,f2]
  simp only[bne_self_eq_false,cond_false]
  by_cases hg:0≤known∧known≤1048576
  ·rw[decide_eq_true hg,if_pos hg];rfl
  ·rw[decide_eq_false hg,if_neg hg];rfl
 ·have hne:(aj d l !=0)=true:=by simpa using hc
  refine⟨⟨fI d l,(fun h=>by rw[hne]at h;cases h)⟩,?_⟩
  rw[if_pos hc]
  unfold ei;rw[hne];rfl
theorem Kx (a:Deed)(n:Int):decide (dR a n<0)=decide (a.no<n):=by
 unfold dR
 rw[li]
 by_cases h:a.no<n
 ·simp[h]
 ·by_cases h2:a.no > n <;>simp[h,h2]
theorem Ky (a:Deed)(n:Int):(dR a n==0)=decide (a.no=n):=by
 unfold dR
 rw[li]
 by_cases h:a.no<n
 ·have:¬a.no=n:=by omega
  simp[h,this]
 ·by_cases h2:a.no > n
  ·have:¬a.no=n:=by omega
   simp[h,h2,this]
  ·have:a.no=n:=by omega
   simp[this]
theorem E8 {l:List Deed}(h:Asc l){i j:Nat}(h1:i<j)(h2:j<l.length):(l.getD i default).no< (l.getD j default).no:=by
 rw[mB l _ (by omega),mB l _ h2]
 exact List.pairwise_iff_getElem.1 h i j (by omega) h2 h1
theorem Iw {l:List Deed}(hA:Asc l)(hl:l.length≤4096)(n:Int):bw l n∧∃ q:Nat,q≤l.length∧an l n=((q:Int),decide (q<l.length∧(l.getD q default).no=n))∧(∀ i,i<q→(l.getD i default).no<n)∧∀ i,q≤i→i<l.length→n≤(l.getD i default).no:=by
 obtain⟨s1,r,s2,q,rfl,q1,q2,q3,q4⟩:=wJ (step:=ak l n) (p:=aC l n) (fun h=>decide ((l.getD h default).no<n)) 0 l.length (Nat.zero_le _)
  (fun i j h1 h2 h3 h4=>by
   simp only[decide_eq_true_eq]at h4 ⊢
   rcases Nat.eq_or_lt_of_le h2 with rfl|h2
   ·exact h4
   ·have:=E8 hA h2 h3;omega)
  (fun k i j h1 h2 h3=>by
   have e:decide ((i:Int) < (j:Int))=true:=by rw[decide_eq_true_eq];omega
   unfold aC ak
   simp only[yo (i:=i) (j:=j) (by omega) (by omega),e,cond_true,Int.toNat_natCast,Kx]
   have w2:IntKind.i64.wrap ((((i+j) / 2:Nat):Int)+1)=(((i+j) / 2+1:Nat):Int):=by rw[bJ (by omega) (by omega)];omega
   rw[w2]
   exact⟨fun _=>by omega,rfl⟩)
  (fun k i=>by
   have e:decide ((i:Int) < (i:Int))=false:=by simp
   unfold aC ak
   simp only[e,cond_false]
   exact⟨fun h=>by simp at h,trivial⟩) (l.length+1) 0 (by omega)
 have s2':ay (ak l n) (l.length+1) 0 (0,(l.length:Int))=.inl (q:Int):=s2
 refine⟨fun _=>⟨s1,(fun z h=>by rw[s2']at h;cases h),fun x hx h=>?_⟩,q,q2,?_,fun i hi=>?_,fun i h1 h2=>?_⟩
 ·rw[s2']at hx;cases hx
  rw[decide_eq_true_eq]at h
  omega
 ·unfold an
  rw[s2']
  simp only[Int.toNat_natCast,Ky]
  rw[Prod.mk.injEq]
  refine⟨rfl,?_⟩
  rw[Bool.eq_iff_iff,Bool.and_eq_true,decide_eq_true_eq,decide_eq_true_eq,decide_eq_true_eq]
  omega
 ·simpa using q3 i (Nat.zero_le _) hi
 ·have:=q4 i h1 h2
  simp only[decide_eq_false_iff_not]at this
  omega
abbrev exS:Deed:= { no:=3,kind:=2,right:=0,since:=0,to:=0,parts:=[{ farm:=1,share:=il},{ farm:=2,share:=il}],of_:=0,at_:=1,known:=2}
abbrev exV:Deed:= { no:=5,kind:=4,right:=0,since:=0,to:=0,parts:=[],of_:=3,at_:=0,known:=9}
theorem e19:fa=([exS,exV],0):=by kernel_rfl
theorem e18:bu=[exS,exV]:=by kernel_rfl
theorem e2:gY=([],171):=by kernel_rfl
theorem eC:aj aS [exS,exV]=0:=by kernel_rfl
theorem eH (hour known:Int)(L:List Holding)(h1:decide (0≤hour∧hour<aS.hours∧0≤known∧known≤1048576)=true)(h2:kP aS (qo aS [exS,exV] hour known)=L):be aS bu hour known=(L,0):=by
 rw[e18,(oF _ _ _ _).2,if_neg (by rw[eC];decide),if_pos (of_decide_eq_true h1),h2]
theorem e13:ff=([{ right:=0,farm:=0,litres:=5,rank:=7}],0):=eH 0 2 _ (by kernel_rfl) (by kernel_rfl)
theorem e14:fe=([{ right:=0,farm:=1,litres:=3,rank:=7},{ right:=0,farm:=2,litres:=2,rank:=7}],0):=eH 1 2 _ (by kernel_rfl) (by kernel_rfl)
theorem e15:fc=([{ right:=0,farm:=0,litres:=5,rank:=7}],0):=eH 1 9 _ (by kernel_rfl) (by kernel_rfl)
theorem eN:be aS [] 4 0=([],1):=by
 have hc:aj aS []=0:=by kernel_rfl
 rw[(oF _ _ _ _).2,if_neg (by rw[hc];decide),if_neg (of_decide_eq_false (by kernel_rfl))]
theorem e24:ej=([1],0):=by
 have hc:aj aS eZ=0:=by kernel_rfl
 have he:Cw (stS (mQ eZ 4096 0)) (B0 aS)=[1]:=by kernel_rfl
 unfold ej
 rw[(yG _ _ _).2,if_neg (by rw[hc];decide),if_pos (by decide),he]
 simp[qk]
theorem e0:fM=250:=by kernel_rfl
theorem e7:eP=1:=by unfold eP fh;rw[e13];rfl
theorem e8:d9=2:=by unfold d9 dT;rw[e14];rfl
theorem e9:eO=1:=by unfold eO fg;rw[e15];rfl
theorem e17:cT=2:=by unfold cT;rw[e18];rfl
theorem e22:er=1:=by unfold er eo;rw[e24];rfl
theorem e3':aT= { right:=0,farm:=0,litres:=5,rank:=7}:=by unfold aT fh;rw[e13];rfl
theorem e4':bp= { right:=0,farm:=0,litres:=5,rank:=7}:=by unfold bp fg;rw[e15];rfl
theorem e5':b_= { right:=0,farm:=1,litres:=3,rank:=7}:=by unfold b_ dT;rw[e14];rfl
theorem e6':cV= { right:=0,farm:=2,litres:=2,rank:=7}:=by unfold cV dT;rw[e14];rfl
theorem e16:fb=exV:=by unfold fb;rw[e18];rfl
theorem e23:eo=[1]:=by unfold eo;rw[e24]
theorem Kz:jg=true:=by
 unfold jg
 rw[e19,e2,e13,e14,e15,eN,e24,e17,e7,e8,e9,e22,e0,e16,e3',e4',e5',e6',e23]
 rfl
theorem KA:eY aS e_ gh:=by
 refine⟨fI _ _,fun _=>?_⟩
 have hA:Asc e_:=List.pairwise_singleton _ _
 refine⟨(Iw hA (by decide) _).1,fun _=>⟨by decide,by kernel_rfl,?_,fI _ _⟩⟩
 unfold bF
 exact⟨by decide,fun _ _ _=>by decide⟩
theorem KB:eY aS bu et:=by
 refine⟨fI _ _,fun _=>?_⟩
 have hA:Asc bu:=by rw[e18];exact(nE eC).asc
 refine⟨(Iw hA (by rw[e18];decide) _).1,fun h=>?_⟩
 have:(an bu et.no).2=true:=by kernel_rfl
 rw[this]at h;cases h
theorem Ai:iO:=by
 unfold iO
 refine⟨KA,KB,(oF _ _ _ _).1,(oF _ _ _ _).1,(oF _ _ _ _).1,(oF _ _ _ _).1,(yG _ _ _).1,fun _=>?_⟩
 rw[e17,e7,e8,e9]
 simp[fI,e22]
end Go.Sx
end
section
namespace Go.Sx
open Go.Proofs
set_option maxRecDepth 100000
set_option linter.unusedSimpArgs false
@[go_sem] def iP (a0:Deed)(a1:Deed)(k_0:Nat)(s_0:Unit):Unit⊕Unit:=(bif(!(((a0.parts.getD k_0 (default:Part)).farm==(a1.parts.getD k_0 (default:Part)).farm)&&(((a0.parts.getD k_0 (default:Part)).share.n==(a1.parts.getD k_0 (default:Part)).share.n)&&((a0.parts.getD k_0 (default:Part)).share.d==(a1.parts.getD k_0 (default:Part)).share.d))))then .inl ()else .inr ())
def gN (a0:Deed)(a1:Deed)(k_0:Nat)(s_0:Unit):Prop:=(a0.parts.length≤ce→(0≤(k_0:Int)∧(k_0:Int) < (a1.parts.length:Int)))
def kR (a0:Deed)(a1:Deed):Bool:=(bif(((((((((a0.no !=a1.no) ||(a0.kind !=a1.kind)) ||(a0.right !=a1.right)) ||(a0.since !=a1.since)) ||(a0.to !=a1.to)) ||(a0.of_ !=a1.of_)) ||(a0.at_ !=a1.at_)) ||(a0.known !=a1.known)) ||((a0.parts.length:Int) !=(a1.parts.length:Int)))then false else(match ay (iP a0 a1) a0.parts.length 0 ()with| .inl x_0_0=>false| .inr s_0=>true))
def jh (a0:Deed)(a1:Deed):Prop:=((((((((((a0.no !=a1.no) ||(a0.kind !=a1.kind)) ||(a0.right !=a1.right)) ||(a0.since !=a1.since)) ||(a0.to !=a1.to)) ||(a0.of_ !=a1.of_)) ||(a0.at_ !=a1.at_)) ||(a0.known !=a1.known)) ||((a0.parts.length:Int) !=(a1.parts.length:Int)))=false→okI (iP a0 a1) (gN a0 a1) a0.parts.length 0 ())
@[go_sem] def mf:List SV→Option Con:=(pD .deed fun a0=>(pD .deed fun a1=>(pE (.det (jh a0 a1) (.v (.bool (kR a0 a1)))))))
theorem qt:FnOk Tryz.prog 30 mf:=by
 have hG:ConsOk Tryz.prog (mkG [] []):=aP cg0 cg0
 refine cm [.o] mixed aD hG (fn:=Tryz.f30) (c:=ae Tryz.f30) (by kernel_rfl) (by kernel_rfl) (by kernel_rfl) (by kernel_rfl) (cw fun a0=>(cw fun a1=>(br (fun hp=>?_))))
 dsimp only[bf]at hp
 unfold jh at hp
 refine⟨Nat.le_of_ble_eq_true rfl,(fun id st=>bif Nat.beq id 0 then some (LCR (ρ:=Unit) (σ:=Unit) 2 [] [0,1] (fun k_0 s_0=>⟨[(2,.ptr 0 0),(3,.ptr 1 0),(5,.v (.int .i64 (k_0:Int)))],[.cells (cellsOf .deed a0),.cells (cellsOf .deed a1)]⟩) (iP a0 a1) (gN a0 a1) a0.parts.length () (True) (fun _=>.ret) (fun x_0_0=>⟨[(4,.v (.bool false))],[.dead,.dead]⟩) st)else none),?_,?_⟩
 ·unfold ae Tryz.f30
  simp only[aq,true_and,and_true]
  ·refine pN (a0.parts.length≤ce) mixed aD hG (by kernel_rfl) (fun _=>rfl) (a0.parts.length:Int) rfl lP (fun hb0 k_0 s_0 hlt0 hq0 hw hc=>⟨L0,al _,?_⟩) (fun hb0 s_0 hc=>?_) fun hb0 k_0 s_0=>?_
   ·unfold gN at hq0
    try simp only[hw,Int.toNat_natCast]at hq0
    exact p_
   ·exact qa
   ·simp only[go_sem,Nat.reduceBEq,Nat.reduceLeDiff,Nat.reduceLT,decide_true,Nat.reduceAdd,Nat.reduceSub,Nat.reduceMul,Int.reduceLE,Int.reduceLT,Int.reduceToNat,Int.reduceNeg,reduceCtorEq,hb0]
 ·unfold ae Tryz.f30
  try unfold kR
  simp only[go_sem,Nat.reduceBEq,Nat.reduceLeDiff,Nat.reduceLT,decide_true,Nat.reduceAdd,Nat.reduceSub,Nat.reduceMul,Int.reduceLE,Int.reduceLT,Int.reduceToNat,Int.reduceNeg,reduceCtorEq]
  all_goals exact cl
@[go_sem] def lu (a:List Deed)(b:List Deed)(k_0:Nat)(s_0:Unit):Unit⊕Unit:=(bif(!(kR (a.getD k_0 (default:Deed)) (b.getD k_0 (default:Deed))))then .inl ()else .inr ())
def jX (a:List Deed)(b:List Deed)(k_0:Nat)(s_0:Unit):Prop:=(a.length≤ce→((0≤(k_0:Int)∧(k_0:Int) < (b.length:Int))∧(jh (a.getD k_0 (default:Deed)) (b.getD k_0 (default:Deed)))))
def uc (a:List Deed)(b:List Deed):Bool:=(bif((a.length:Int) !=(b.length:Int))then false else(match ay (lu a b) a.length 0 ()with| .inl x_0_0=>false| .inr s_0=>true))
def qu (a:List Deed)(b:List Deed):Prop:=(a.length≤ce→(b.length≤ce→(((a.length:Int) !=(b.length:Int))=false→okI (lu a b) (jX a b) a.length 0 ())))
@[go_sem] def wX:List SV→Option Con:=(pR .deed fun a=>(pR .deed fun b=>(pE (.det (qu a b) (.v (.bool (uc a b)))))))
theorem Fu:FnOk Tryz.prog 17 wX:=by
 have hG:ConsOk Tryz.prog (mkG [(30,fun l=>mf (dF [.st .deed,.st .deed] l))] []):=aP (cgc (qt.norm [.st .deed,.st .deed]) cg0) cg0
 refine cm [.o] mixed aD hG (fn:=Tryz.f17) (c:=ae Tryz.f17) (by kernel_rfl) (by kernel_rfl) (by kernel_rfl) (by kernel_rfl) (fz fun a=>(fz fun b=>(br (fun hp=>?_))))
 dsimp only[bf]at hp
 unfold qu at hp
 refine⟨Nat.le_of_ble_eq_true rfl,(fun id st=>bif Nat.beq id 0 then some (LCR (ρ:=Unit) (σ:=Unit) 0 [] [] (fun k_0 s_0=>⟨[(0,.rs .deed a),(1,.rs .deed b),(5,.v (.int .i64 (k_0:Int)))],[]⟩) (lu a b) (jX a b) a.length () (True) (fun _=>.ret) (fun x_0_0=>⟨[(4,.v (.bool false))],[]⟩) st)else none),?_,?_⟩
 ·unfold ae Tryz.f17
  simp only[aq,true_and,and_true]
  ·refine pN (a.length≤ce) mixed aD hG (by kernel_rfl) (fun _=>rfl) (a.length:Int) rfl lP (fun hb0 k_0 s_0 hlt0 hq0 hw hc=>⟨L0,al _,?_⟩) (fun hb0 s_0 hc=>?_) fun hb0 k_0 s_0=>?_
   ·unfold jX at hq0
    try simp only[hw,Int.toNat_natCast]at hq0
    exact lU
   ·exact lV
   ·simp only[go_sem,Nat.reduceBEq,Nat.reduceLeDiff,Nat.reduceLT,decide_true,Nat.reduceAdd,Nat.reduceSub,Nat.reduceMul,Int.reduceLE,Int.reduceLT,Int.reduceToNat,Int.reduceNeg,reduceCtorEq,hb0]
 ·unfold ae Tryz.f17
  try unfold uc
  simp only[go_sem,Nat.reduceBEq,Nat.reduceLeDiff,Nat.reduceLT,decide_true,Nat.reduceAdd,Nat.reduceSub,Nat.reduceMul,Int.reduceLE,Int.reduceLT,Int.reduceToNat,Int.reduceNeg,reduceCtorEq]
  all_goals exact cl
@[go_sem] def dE (a:List Holding)(b:List Holding)(k_0:Nat)(s_0:Unit):Unit⊕Unit:=(bif(!(((a.getD k_0 (default:Holding)).right==(b.getD k_0 (default:Holding)).right)&&(((a.getD k_0 (default:Holding)).farm==(b.getD k_0 (default:Holding)).farm)&&(((a.getD k_0 (default:Holding)).litres==(b.getD k_0 (default:Holding)).litres)&&((a.getD k_0 (default:Holding)).rank==(b.getD k_0 (default:Holding)).rank)))))then .inl ()else .inr ())
def fj (a:List Holding)(b:List Holding)(k_0:Nat)(s_0:Unit):Prop:=(a.length≤ce→(0≤(k_0:Int)∧(k_0:Int) < (b.length:Int)))
def eu (a:List Holding)(b:List Holding):Bool:=(bif((a.length:Int) !=(b.length:Int))then false else(match ay (dE a b) a.length 0 ()with| .inl x_0_0=>false| .inr s_0=>true))
def eM (a:List Holding)(b:List Holding):Prop:=(a.length≤ce→(b.length≤ce→(((a.length:Int) !=(b.length:Int))=false→okI (dE a b) (fj a b) a.length 0 ())))
@[go_sem] def jN:List SV→Option Con:=(pR .holding fun a=>(pR .holding fun b=>(pE (.det (eM a b) (.v (.bool (eu a b)))))))
theorem mR:FnOk Tryz.prog 22 jN:=by
 have hG:ConsOk Tryz.prog (mkG [] []):=aP cg0 cg0
 refine cm [.o] mixed aD hG (fn:=Tryz.f22) (c:=ae Tryz.f22) (by kernel_rfl) (by kernel_rfl) (by kernel_rfl) (by kernel_rfl) (fz fun a=>(fz fun b=>(br (fun hp=>?_))))
 dsimp only[bf]at hp
 unfold eM at hp
 refine⟨Nat.le_of_ble_eq_true rfl,(fun id st=>bif Nat.beq id 0 then some (LCR (ρ:=Unit) (σ:=Unit) 0 [] [] (fun k_0 s_0=>⟨[(0,.rs .holding a),(1,.rs .holding b),(5,.v (.int .i64 (k_0:Int)))],[]⟩) (dE a b) (fj a b) a.length () (True) (fun _=>.ret) (fun x_0_0=>⟨[(4,.v (.bool false))],[]⟩) st)else none),?_,?_⟩
 ·unfold ae Tryz.f22
  simp only[aq,true_and,and_true]
  ·refine pN (a.length≤ce) mixed aD hG (by kernel_rfl) (fun _=>rfl) (a.length:Int) rfl lP (fun hb0 k_0 s_0 hlt0 hq0 hw hc=>⟨L0,al _,?_⟩) (fun hb0 s_0 hc=>?_) fun hb0 k_0 s_0=>?_
   ·unfold fj at hq0
    try simp only[hw,Int.toNat_natCast]at hq0
    exact lU
   ·exact lV
   ·simp only[go_sem,Nat.reduceBEq,Nat.reduceLeDiff,Nat.reduceLT,decide_true,Nat.reduceAdd,Nat.reduceSub,Nat.reduceMul,Int.reduceLE,Int.reduceLT,Int.reduceToNat,Int.reduceNeg,reduceCtorEq,hb0]
 ·unfold ae Tryz.f22
  try unfold eu
  simp only[go_sem,Nat.reduceBEq,Nat.reduceLeDiff,Nat.reduceLT,decide_true,Nat.reduceAdd,Nat.reduceSub,Nat.reduceMul,Int.reduceLE,Int.reduceLT,Int.reduceToNat,Int.reduceNeg,reduceCtorEq]
  all_goals exact cl
@[go_sem] def qv (l_:List Deed)(k_0:Nat)(s_0:Unit):Unit⊕Unit:=(bif(decide ((((l_.getD k_0 (default:Deed)).parts).length:Int) > 100))then .inl ()else .inr ())
def ku (d:District)(l_:List Deed):Bool:=(bif((decide ((l_.length:Int) > 512))&&(decide ((l_.length:Int)≤700)))then(nS d)else(bif((((decide ((l_.length:Int) > 60)) ||(!(nS d))) ||((decide ((d.rights.length:Int) > 40))&&(decide ((d.rights.length:Int)≤256)))) ||((decide ((d.farms.length:Int) > 60))&&(decide ((d.farms.length:Int)≤600))))then false else(match ay (qv l_) l_.length 0 ()with| .inl x_0_0=>false| .inr s_0=>true)))
@[go_sem] def rQ:List SV→Option Con:=(pD .district fun d=>(pR .deed fun l_=>(pE (.det True (.v (.bool (ku d l_)))))))
theorem wY:FnOk Tryz.prog 12 rQ:=by
 have hG:ConsOk Tryz.prog (mkG [(35,fun l=>rI (dF [.st .district] l))] []):=aP (cgc (wA.norm [.st .district]) cg0) cg0
 refine cm [.o] mixed aD hG (fn:=Tryz.f12) (c:=ae Tryz.f12) (by kernel_rfl) (by kernel_rfl) (by kernel_rfl) (by kernel_rfl) (cw fun d=>(fz fun l_=>(br (fun hp=>?_))))
 dsimp only[bf]at hp
 refine⟨Nat.le_of_ble_eq_true rfl,(fun id st=>bif Nat.beq id 0 then some (LCR (ρ:=Unit) (σ:=Unit) 1 [] [0] (fun k_0 s_0=>⟨[(1,.rs .deed l_),(5,.v (.int .i64 (k_0:Int)))],[.dead]⟩) (qv l_) pT l_.length () (True) (fun _=>.ret) (fun x_0_0=>⟨[(4,.v (.bool false))],[.dead]⟩) st)else none),?_,?_⟩
 ·unfold ae Tryz.f12
  simp only[aq,true_and,and_true]
  ·refine pN (l_.length≤ce) mixed aD hG (by kernel_rfl) (fun _=>rfl) (l_.length:Int) rfl lP (fun hb0 k_0 s_0 hlt0 _ hw hc=>⟨L0,al _,?_⟩) (fun hb0 s_0 hc=>?_) fun hb0 k_0 s_0=>?_
   ·exact kF
   ·exact kG
   ·simp only[go_sem,Nat.reduceBEq,Nat.reduceLeDiff,Nat.reduceLT,decide_true,Nat.reduceAdd,Nat.reduceSub,Nat.reduceMul,Int.reduceLE,Int.reduceLT,Int.reduceToNat,Int.reduceNeg,reduceCtorEq,hb0]
 ·unfold ae Tryz.f12
  try unfold ku
  simp only[go_sem,Nat.reduceBEq,Nat.reduceLeDiff,Nat.reduceLT,decide_true,Nat.reduceAdd,Nat.reduceSub,Nat.reduceMul,Int.reduceLE,Int.reduceLT,Int.reduceToNat,Int.reduceNeg,reduceCtorEq]
  all_goals exact cl
end Go.Sx
end
section
namespace Go.Sx
open Go.Proofs
set_option maxRecDepth 100000
set_option linter.unusedSimpArgs false
theorem vE {p:Prop}(h:p:=by(first|done|(repeat' (first|with_reducible refine And.intro ?_ ?_|((with_reducible show _≠_);first|assumption|omega|(simp_all [bV,cd];done) |grind) |with_reducible intro _)) <;>(first|done|with_reducible exact Empty.elim ‹Empty› |with_reducible assumption|rfl|omega|assumption|decide|exact fk [0,4] |exact fk [0,1] |exact czl|(simp only[*,cond_true,cond_false,Bool.not_true,Bool.not_false,go_sem,Nat.reduceBEq,Nat.reduceLeDiff,Nat.reduceLT,decide_true,Nat.reduceAdd,Nat.reduceSub,Nat.reduceMul,Int.reduceLE,Int.reduceLT,Int.reduceToNat,Int.reduceNeg,reduceCtorEq];(repeat' (first|with_reducible refine And.intro ?_ ?_|((with_reducible show _≠_);first|assumption|omega|(simp_all [bV,cd];done) |grind) |with_reducible intro _)) <;>(first|done|assumption|rfl|omega|decide|exact fk [0,4] |exact fk [0,1] |(simp_all [bV,cd];done))) |(simp_all [okI,bV,cd];done) |(simp_all [bV,cd];(first|done|exact fk2 [0,4] |exact fk2 [0,1])) |exact fk2 [0,4] |exact fk2 [0,1]))):p:=h
theorem CB {p:Prop}(h:p:=by simp only[go_sem,Nat.reduceBEq,Nat.reduceLeDiff,Nat.reduceLT,decide_true,Nat.reduceAdd,Nat.reduceSub,Nat.reduceMul,Int.reduceLE,Int.reduceLT,Int.reduceToNat,Int.reduceNeg,reduceCtorEq,hc,hw];all_goals exact vE):p:=h
theorem CC {p:Prop}(h:p:=by simp only[go_sem,Nat.reduceBEq,Nat.reduceLeDiff,Nat.reduceLT,decide_true,Nat.reduceAdd,Nat.reduceSub,Nat.reduceMul,Int.reduceLE,Int.reduceLT,Int.reduceToNat,Int.reduceNeg,reduceCtorEq,hc];all_goals exact vE):p:=h
def aB (x:Deed)(v:Deed):Bool:=((x.no !=v.of_)&&((x.kind !=4) ||(x.of_ !=v.of_)))
@[go_sem] def iQ:List SV→Option Con:=(pD .deed fun x=>(pX .deed fun v=>(pE (.det True (.v (.bool (aB x v)))))))
theorem mg:FnOk Tryz.prog 27 iQ:=by
 have hG:ConsOk Tryz.prog (mkG [] []):=aP cg0 cg0
 refine cm [.o] mixed aD hG (fn:=Tryz.f27) (c:=ae Tryz.f27) (by kernel_rfl) (by kernel_rfl) (by kernel_rfl) (by kernel_rfl) (cw fun x=>(tI fun v=>(br (fun hp=>?_))))
 dsimp only[bf]at hp
 refine⟨Nat.le_of_ble_eq_true rfl,L0,al _,?_⟩
 ·unfold ae Tryz.f27
  try unfold aB
  simp only[go_sem,Nat.reduceBEq,Nat.reduceLeDiff,Nat.reduceLT,decide_true,Nat.reduceAdd,Nat.reduceSub,Nat.reduceMul,Int.reduceLE,Int.reduceLT,Int.reduceToNat,Int.reduceNeg,reduceCtorEq]
  all_goals exact cl
@[go_sem] def g9 (l_:List Deed)(v:Deed)(k_0:Nat)(s_0:List Deed):Empty⊕(List Deed):=(bif(aB (l_.getD k_0 (default:Deed)) v)then .inr (s_0++([(l_.getD k_0 (default:Deed))]))else .inr s_0)
def iR (l_:List Deed)(v:Deed)(k_0:Nat)(s_0:List Deed):Prop:=((aB (l_.getD k_0 (default:Deed)) v)=true→((s_0++([(l_.getD k_0 (default:Deed))])).length*88≤i0))
def b7 (l_:List Deed)(v:Deed):List Deed:=(match ay (g9 l_ v) l_.length 0 ([])with| .inl x=>x.elim| .inr s_0=>s_0)
def fl (l_:List Deed)(v:Deed):Prop:=(l_.length≤ce→okI (g9 l_ v) (iR l_ v) l_.length 0 ([]))
noncomputable def kS:List SV→List Ob→Option HCon:=eX (fun x_:(List Deed)×Deed=>[.rs .deed x_.1,.fn 27 [] [.ptr 0 0]]) (fun x_=>[.cells (cellsOf .deed x_.2)]) (fun x_=>dN (fl x_.1 x_.2) (.os 1) [.cells (cellsOf .deed x_.2),.row .deed (b7 x_.1 x_.2)])
@[go_sem] theorem Bq (l_:List Deed)(v:Deed):kS ([.rs .deed l_,.fn (27:Nat) [] [.ptr 0 0]]) ([.cells [.v (.int .i64 v.no),.v (.int .i64 v.kind),.v (.int .i64 v.right),.v (.int .i64 v.since),.v (.int .i64 v.to),.rs .part v.parts,.v (.int .i64 v.of_),.v (.int .i64 v.at_),.v (.int .i64 v.known)]])=some (dN (fl l_ v) (.os 1) [.cells (cellsOf .deed v),.row .deed (b7 l_ v)]):=dH (A:=fun x_:(List Deed)×Deed=>[.rs .deed x_.1,.fn 27 [] [.ptr 0 0]]) (H:=fun x_=>[.cells (cellsOf .deed x_.2)]) (K:=fun x_=>dN (fl x_.1 x_.2) (.os 1) [.cells (cellsOf .deed x_.2),.row .deed (b7 x_.1 x_.2)]) (x:=(l_,v))
theorem r7:FnOkO Tryz.prog 26 (kS):=by
 have hG:ConsOk Tryz.prog (mkG [(27,fun l=>iQ (dF [.st .deed,.o] l))] []):=aP (cgc (mg.norm [.st .deed,.o]) cg0) cg0
 refine eE mixed aD hG (fn:=Tryz.f26) (c:=ae Tryz.f26) (by kernel_rfl) (by kernel_rfl) (by kernel_rfl) (by kernel_rfl) fun l o con h=>?_
 obtain⟨⟨l_,v⟩,rfl,rfl,rfl⟩:=cL h
 clear h
 try dsimp only
 refine⟨_,_,_,rfl,fun hp=>?_⟩
 unfold fl at hp
 refine⟨Nat.le_of_ble_eq_true rfl,(fun id st=>bif Nat.beq id 0 then some (LCR (ρ:=Empty) (σ:=(List Deed)) 1 [.slot 4 (.row .deed ([]))] [0,1] (fun k_0 s_0=>⟨[(1,.fn 27 [] [.ptr 0 0]),(4,.os 1),(7,.rs .deed l_),(8,.v (.int .i64 (l_.length:Int))),(9,.v (.int .i64 (k_0:Int)))],[.cells (cellsOf .deed v),.row .deed s_0]⟩) (g9 l_ v) (iR l_ v) l_.length ([]) (l_.length≤ce) ((·.elim)) ((·.elim)) st)else none),?_,?_⟩
 ·unfold ae Tryz.f26
  simp only[aq,true_and,and_true,and_assoc]
  ·refine d6 mixed aD hG (by kernel_rfl) (fun _=>rfl) (l_.length:Int) rfl lP (fun hb0 k_0 s_0 hlt0 hq0 hw hc=>⟨L0,al _,?_⟩) (fun hb0 s_0 hc=>?_)
   ·unfold iR at hq0
    try simp only[hw,Int.toNat_natCast]at hq0
    exact CB
   ·exact CC
 ·unfold ae Tryz.f26
  try unfold b7
  simp only[go_sem,Nat.reduceBEq,Nat.reduceLeDiff,Nat.reduceLT,decide_true,Nat.reduceAdd,Nat.reduceSub,Nat.reduceMul,Int.reduceLE,Int.reduceLT,Int.reduceToNat,Int.reduceNeg,reduceCtorEq]
  all_goals exact p9
end Go.Sx
end
section
namespace Go.Sx
open Go.Proofs
theorem Aj {α:Type}{step:Nat→List α→Empty⊕List α}(l:List α)(d:α)(P:α→Bool)(h:∀ k s,k<l.length→step k s=bif P (l.getD k d)then .inr (s++[l.getD k d])else .inr s):ay step l.length 0 []=.inr (l.filter P):=by
 obtain⟨r,h1,h2⟩:=nX (step:=step) (fun k s=>s=(l.take k).filter P) l.length 0 ([]:List α) (by simp) (fun j s _ hj hs=>by
  rw[Nat.zero_add]at hj
  rw[h j s hj,df l d hj,List.filter_append,hs]
  cases hp:P (l.getD j d)with
  |true=>exact⟨_,rfl,by rw[List.filter_cons_of_pos hp];rfl⟩
  |false=>exact⟨_,rfl,by rw[List.filter_cons_of_neg (by rw[hp];simp)];simp⟩)
 rw[h1,h2,Nat.zero_add,List.take_length]
theorem Ak {α:Type}{step:Nat→List α→Empty⊕List α}{p:Nat→List α→Prop}(l:List α)(d:α)(P:α→Bool)(h:∀ k s,k<l.length→step k s=bif P (l.getD k d)then .inr (s++[l.getD k d])else .inr s)(hp:∀ k s,k<l.length→s.length≤k→p k s):okI step p l.length 0 []:=by
 refine sg (fun k s=>s.length≤k) _ _ _ (Nat.le_refl _) fun j s _ hj hs=>⟨hp j s (by omega) hs,fun s' e=>?_⟩
 rw[h j s (by omega)]at e
 cases hc:P (l.getD j d)with
 |true=>rw[hc]at e;cases e;simp;omega
 |false=>rw[hc]at e;cases e;omega
theorem HJ {α:Type}(s:List α)(x:α):(s++[x]).length=s.length+1:=by simp
theorem r8 (l:List Deed)(v:Deed)(hl:l.length≤512):fl l v∧b7 l v=l.filter fun x=>aB x v:=by
 refine⟨fun _=>Ak l default (fun x=>aB x v) (fun _ _ _=>rfl) fun k s hk hs=>fun _=>by rw[HJ];unfold i0;omega,?_⟩
 unfold b7
 rw[Aj (step:=g9 l v) l default (fun x=>aB x v) fun _ _ _=>rfl]
theorem HK (a b:List Holding):eM a b:=fun _ _ h=>nR _ _ _ fun j _ _ hj _=>by
 simp only[bne_eq_false_iff_eq]at h
 omega
theorem Al (a:List Holding):eu a a=true:=by
 unfold eu
 have e:ay (dE a a) a.length 0 ()=.inr ():=jK.2 fun j _=>by
  unfold dE;simp
 rw[e];simp
theorem E9 {d:District}{l l':List Deed}{hour known:Int}(h:aj d l=0)(h':aj d l'=0)(e:mQ l hour known=mQ l' hour known):be d l hour known=be d l' hour known:=by
 rw[(oF d l hour known).2,(oF d l' hour known).2,h,h']
 unfold qo
 rw[e]
theorem HL {l:List Deed}(h:Asc l){x y:Deed}(hx:x∈l)(hy:y∈l)(e:x.no=y.no):x=y:=by
 rw[←nD h hx,←nD h hy,e]
theorem Deeds.target {d:District}{l:List Deed}(h:Deeds d l){x y:Deed}(hx:x∈l)(hk:x.kind=4)(hy:y∈l)(e:y.no=x.of_):y.kind≠4∧y.known≤x.known∧y.no<x.no:=by
 obtain⟨z,hz,h1,h2,h3,h4⟩:=h.void x hx hk
 have:y=z:=HL h.asc hy hz (by rw[e,h1])
 rw[this];exact⟨h2,h3,h4⟩
theorem Am {l:List Deed}{known n:Int}:lp l known n=true↔∃ u∈l,u.kind=4∧u.known≤known∧u.of_=n:=by
 unfold lp
 rw[List.any_eq_true]
 simp only[Bool.and_eq_true,beq_iff_eq,decide_eq_true_eq,and_assoc]
def lv (l:List Deed)(hour known:Int)(x:Deed):Bool:= !((((x.kind==4) ||(decide (x.known > known))) ||(decide (x.at_ > hour))) ||lp l known x.no)
theorem E_ {l:List Deed}{hour known:Int}{x:Deed}:lv l hour known x=true↔x.kind≠4∧x.known≤known∧x.at_≤hour∧¬ ∃ u∈l,u.kind=4∧u.known≤known∧u.of_=x.no:=by
 unfold lv
 rw[←Am]
 simp only[Bool.not_eq_true',Bool.or_eq_false_iff,beq_eq_false_iff_ne,decide_eq_false_iff_not,Bool.not_eq_true,and_assoc]
 constructor
 ·rintro⟨a,b,c,e⟩;exact⟨a,by omega,by omega,e⟩
 ·rintro⟨a,b,c,e⟩;exact⟨a,by omega,by omega,e⟩
theorem yH (l:List Deed)(hour known:Int)(p:Deed→Bool)(h:∀ x∈l,lv l hour known x=true↔p x=true∧lv (l.filter p) hour known x=true):mQ l hour known=mQ (l.filter p) hour known:=by
 show l.filter (lv l hour known)=(l.filter p).filter (lv (l.filter p) hour known)
 rw[List.filter_filter]
 refine List.filter_congr fun x hx=>?_
 rw[Bool.eq_iff_iff,Bool.and_eq_true,h x hx,and_comm]
theorem ud {α:Type}(p:α→Bool):∀ l:List α,l.length=(l.filter p).length+(l.filter fun x=>!p x).length
 | [] =>rfl
 |x::l=>by
  have:=ud p l
  cases hp:p x <;>simp[hp] <;>omega
theorem CD {d:District}{l:List Deed}(hc:aj d l=0){v:Deed}(hv:v∈l)(hk:v.kind=4){hour known:Int}(hn:v.known≤known):
  aj d (l.filter fun x=>aB x v)=0∧(l.filter fun x=>aB x v).length+2≤l.length∧mQ l hour known=mQ (l.filter fun x=>aB x v) hour known:=by
 have hD:=nE hc
 have hp:∀ x:Deed,aB x v=true↔x.no≠v.of_∧(x.kind≠4∨x.of_≠v.of_):=fun x=>by
  unfold aB
  simp only[Bool.and_eq_true,Bool.or_eq_true,bne_iff_ne]
 obtain⟨y0,hy0,t1,t2,t3,t4⟩:=hD.void v hv hk
 refine⟨wR _ hc fun x hx hpx hxk y hy he=>?_,?_,yH l hour known _ fun x hx=>?_⟩
 ·obtain⟨a,b⟩:=(hp x).1 hpx
  have:=hD.target hx hxk hy he
  refine(hp y).2 ⟨?_,.inl this.1⟩
  rw[he]
  rcases b with b|b
  ·exact absurd hxk b
  ·exact b
 ·have h1:=ud (fun x=>aB x v) l
  have m1:v∈l.filter fun x=>!aB x v:=List.mem_filter.2 ⟨hv,by
   have:¬aB v v=true:=fun h=>by
    obtain⟨a,b⟩:=(hp v).1 h
    rcases b with b|b
    ·exact b hk
    ·exact b rfl
   simpa using this⟩
  have m2:y0∈l.filter fun x=>!aB x v:=List.mem_filter.2 ⟨hy0,by
   have:¬aB y0 v=true:=fun h=>((hp y0).1 h).1 t1
   simpa using this⟩
  have hne:v≠y0:=fun e=>by rw[e]at t4;omega
  generalize l.filter (fun x=>!aB x v)=L at *
  match L,m1,m2 with
  | [],m1,_=>cases m1
  | [a],m1,m2=>simp only[List.mem_singleton]at m1 m2;exact absurd (m1.trans m2.symm) hne
  |_::_::_,_,_=>simp only[List.length_cons]at h1;omega
 ·rw[E_,E_,hp]
  constructor
  ·rintro⟨a,b,c,e⟩
   refine⟨⟨fun h=>e ⟨v,hv,hk,hn,h.symm⟩,.inl a⟩,a,b,c,?_⟩
   rintro⟨u,hu,q⟩
   exact e ⟨u,(List.mem_filter.1 hu).1,q⟩
  ·rintro⟨⟨n1,_⟩,a,b,c,e⟩
   refine⟨a,b,c,?_⟩
   rintro⟨u,hu,q1,q2,q3⟩
   refine e ⟨u,List.mem_filter.2 ⟨hu,(hp u).2 ⟨fun h=>?_,.inr (by rw[q3];exact n1)⟩⟩,q1,q2,q3⟩
   exact(hD.target hv hk hu h).1 q1
end Go.Sx
end
section
namespace Go.Sx
universe u
section
variable {α:Type u}
def pV (k:Int→List SV→Option α):List SV→Option α
 | .v (.int .u8 n)::r=>k n r
 |_=>none
@[go_sem] theorem Qe {k:Int→List SV→Option α}{n:Int}{r:List SV}:pV k (.v (.int .u8 n)::r)=k n r:=(rfl)
theorem KC {k:Int→List SV→Option α}{l:List SV}{c:α}(h:pV k l=some c):∃ n r,l=.v (.int .u8 n)::r∧k n r=some c:=by
 unfold pV at h
 split at h
 ·exact⟨_,_,rfl,h⟩
 ·cases h
def pW (k:Int→List SV→Option α):List SV→Option α
 | .v (.int .u16 n)::r=>k n r
 |_=>none
@[go_sem] theorem Qf {k:Int→List SV→Option α}{n:Int}{r:List SV}:pW k (.v (.int .u16 n)::r)=k n r:=(rfl)
theorem KD {G:List SV→α→Prop}{k:Int→List SV→Option α}(h:∀ n l c,k n l=some c→G (.v (.int .u8 n)::l) c):∀ l c,pV k l=some c→G l c:=fun l c hc=>by
 obtain⟨n,r,rfl,h1⟩:=KC hc;exact h n r c h1
end
end Go.Sx
end
section
namespace Go.Sx
open Go.Proofs
set_option maxRecDepth 100000
set_option linter.unusedSimpArgs false
def dI (a0:District)(a1:List Deed)(a2:Int)(a3:Int)(a4:Int):Bool:=(bif(!jg)then false else(bif(((!(ku a0 a1)) ||((a1.length:Int) ==0)) ||((aj a0 a1) !=0))then true else(bif(((a1.getD (Int.toNat (Int.tmod (IntKind.i64.wrap a2) (a1.length:Int))) (default:Deed)).kind !=4) ||(decide ((a1.getD (Int.toNat (Int.tmod (IntKind.i64.wrap a2) (a1.length:Int))) (default:Deed)).known > a4)))then true else((((decide (((b7 a1 (a1.getD (Int.toNat (Int.tmod (IntKind.i64.wrap a2) (a1.length:Int))) (default:Deed))).length:Int)≤(IntKind.i64.wrap ((a1.length:Int) - 2))))&&((aj a0 (b7 a1 (a1.getD (Int.toNat (Int.tmod (IntKind.i64.wrap a2) (a1.length:Int))) (default:Deed)))) ==0))&&((be a0 a1 a3 a4).2==(be a0 (b7 a1 (a1.getD (Int.toNat (Int.tmod (IntKind.i64.wrap a2) (a1.length:Int))) (default:Deed))) a3 a4).2))&&(eu ((be a0 a1 a3 a4).1) ((be a0 (b7 a1 (a1.getD (Int.toNat (Int.tmod (IntKind.i64.wrap a2) (a1.length:Int))) (default:Deed))) a3 a4).1))))))
def dp (a0:District)(a1:List Deed)(a2:Int)(a3:Int)(a4:Int):Prop:=((iO)∧((!jg)=false→((((!(ku a0 a1)) ||((a1.length:Int) ==0))=false→(cG a0 a1))∧((((!(ku a0 a1)) ||((a1.length:Int) ==0)) ||((aj a0 a1) !=0))=false→(a1.length≤ce→((a1.length:Int)≠0∧((0≤(Int.tmod (IntKind.i64.wrap a2) (a1.length:Int))∧(Int.tmod (IntKind.i64.wrap a2) (a1.length:Int)) < (a1.length:Int))∧((((a1.getD (Int.toNat (Int.tmod (IntKind.i64.wrap a2) (a1.length:Int))) (default:Deed)).kind !=4) ||(decide ((a1.getD (Int.toNat (Int.tmod (IntKind.i64.wrap a2) (a1.length:Int))) (default:Deed)).known > a4)))=false→((fl a1 (a1.getD (Int.toNat (Int.tmod (IntKind.i64.wrap a2) (a1.length:Int))) (default:Deed)))∧((dK a0 a1 a3 a4)∧((dK a0 (b7 a1 (a1.getD (Int.toNat (Int.tmod (IntKind.i64.wrap a2) (a1.length:Int))) (default:Deed))) a3 a4)∧((b7 a1 (a1.getD (Int.toNat (Int.tmod (IntKind.i64.wrap a2) (a1.length:Int))) (default:Deed))).length≤ce→(a1.length≤ce→(((decide (((b7 a1 (a1.getD (Int.toNat (Int.tmod (IntKind.i64.wrap a2) (a1.length:Int))) (default:Deed))).length:Int)≤(IntKind.i64.wrap ((a1.length:Int) - 2))))=true→(cG a0 (b7 a1 (a1.getD (Int.toNat (Int.tmod (IntKind.i64.wrap a2) (a1.length:Int))) (default:Deed)))))∧((((decide (((b7 a1 (a1.getD (Int.toNat (Int.tmod (IntKind.i64.wrap a2) (a1.length:Int))) (default:Deed))).length:Int)≤(IntKind.i64.wrap ((a1.length:Int) - 2))))&&((aj a0 (b7 a1 (a1.getD (Int.toNat (Int.tmod (IntKind.i64.wrap a2) (a1.length:Int))) (default:Deed)))) ==0))&&((be a0 a1 a3 a4).2==(be a0 (b7 a1 (a1.getD (Int.toNat (Int.tmod (IntKind.i64.wrap a2) (a1.length:Int))) (default:Deed))) a3 a4).2))=true→(eM ((be a0 a1 a3 a4).1) ((be a0 (b7 a1 (a1.getD (Int.toNat (Int.tmod (IntKind.i64.wrap a2) (a1.length:Int))) (default:Deed))) a3 a4).1)))))))))))))))))
@[go_sem] def gi:List SV→Option Con:=(pD .district fun a0=>(pR .deed fun a1=>(pV fun a2=>(pI fun a3=>(pI fun a4=>(pE (.det (dp a0 a1 a2 a3 a4) (.v (.bool (dI a0 a1 a2 a3 a4))))))))))
theorem mS:FnOk Tryz.prog 6 gi:=by
 have hG:ConsOk Tryz.prog (mkG [(11,qs),(12,fun l=>rQ (dF [.st .district,.sl .deed] l)),(15,fun l=>eb (dF [.st .district,.sl .deed] l)),(18,fun l=>lr (dF [.st .district,.sl .deed,.o,.o] l)),(22,fun l=>jN (dF [.sl .holding,.sl .holding] l))] [(26,kS)]):=aP (cgc uD (cgc (wY.norm [.st .district,.sl .deed]) (cgc (eK.norm [.st .district,.sl .deed]) (cgc (nG.norm [.st .district,.sl .deed,.o,.o]) (cgc (mR.norm [.sl .holding,.sl .holding]) cg0))))) (cgc r7 cg0)
 refine cm [.o] mixed aD hG (fn:=Tryz.f6) (c:=ae Tryz.f6) (by kernel_rfl) (by kernel_rfl) (by kernel_rfl) (by kernel_rfl) (cw fun a0=>(fz fun a1=>(KD fun a2=>(dO fun a3=>(dO fun a4=>(br (fun hp=>?_)))))))
 dsimp only[bf]at hp
 unfold dp at hp
 refine⟨Nat.le_of_ble_eq_true rfl,L0,al _,?_⟩
 ·unfold ae Tryz.f6
  try unfold dI
  simp only[go_sem,Nat.reduceBEq,Nat.reduceLeDiff,Nat.reduceLT,decide_true,Nat.reduceAdd,Nat.reduceSub,Nat.reduceMul,Int.reduceLE,Int.reduceLT,Int.reduceToNat,Int.reduceNeg,reduceCtorEq]
  all_goals exact cl
end Go.Sx
end
section
namespace Go.Sx
open Go.Proofs
theorem KE {w:Int}{n:Nat}(h0:0≤w)(h1:w≤65535)(hn:n≠0):0≤Int.tmod (IntKind.i64.wrap w) (n:Int)∧Int.tmod (IntKind.i64.wrap w) (n:Int) < (n:Int):=by
 rw[bJ (by omega) (by omega),Int.tmod_eq_emod_of_nonneg h0]
 exact⟨Int.emod_nonneg _ (by omega),Int.emod_lt_of_pos _ (by omega)⟩
theorem yI (d:District)(l:List Deed)(w h k:Int)(rw_:0≤w∧w≤255):dp d l w h k∧dI d l w h k=true:=by
 unfold dp dI
 rw[Kz]
 simp only[Bool.not_true,cond_false]
 cases hf:((!(ku d l)) ||((l.length:Int) ==0)) ||((aj d l) !=0)with
 |true=>exact⟨⟨Ai,fun _=>⟨fun _=>fI _ _,(fun h=>by cases h)⟩⟩,rfl⟩
 |false=>
  simp only[cond_false]
  simp only[Bool.or_eq_false_iff,beq_eq_false_iff_ne,bne_eq_false_iff_eq]at hf
  obtain⟨⟨_,hl0⟩,hc⟩:=hf
  have hD:=nE hc
  have hl0:l.length≠0:=by omega
  have hi:=KE rw_.1 (by omega) hl0
  generalize Int.tmod (IntKind.i64.wrap w) (l.length:Int)=i at *
  have hm:l.getD (Int.toNat i) default∈l:=by rw[mB l _ (by omega)];exact List.getElem_mem _
  generalize l.getD (Int.toNat i) default=v at *
  cases hk:(v.kind !=4) ||(decide (v.known > k))with
  |true=>exact⟨⟨Ai,fun _=>⟨fun _=>fI _ _,fun _ _=>⟨by omega,hi,(fun h=>by cases h)⟩⟩⟩,rfl⟩
  |false=>
   simp only[Bool.or_eq_false_iff,bne_eq_false_iff_eq,decide_eq_false_iff_not]at hk
   obtain⟨w1,w2⟩:=r8 l v hD.len
   obtain⟨m1,m2,m3⟩:=CD hc hm hk.1 (hour:=h) (known:=k) (by omega)
   have hA:=E9 hc m1 m3
   rw[w2,←hA]
   refine⟨⟨Ai,fun _=>⟨fun _=>fI _ _,fun _ _=>⟨by omega,hi,fun _=>⟨w1,(oF _ _ _ _).1,(oF _ _ _ _).1,fun _ _=>⟨fun _=>fI _ _,fun _=>HK _ _⟩⟩⟩⟩⟩,?_⟩
   have hlen:=hD.len
   rw[bJ (by omega) (by omega),decide_eq_true (by omega),m1,Al]
   simp
theorem KF (d:District)(l:List Deed)(w h k:Int)(r1:0≤w∧w≤255)(_: -9223372036854775808≤h∧h≤9223372036854775807)(_: -9223372036854775808≤k∧k≤9223372036854775807):dp d l w h k:=(yI d l w h k r1).1
theorem KG (d:District)(l:List Deed)(w h k:Int)(r1:0≤w∧w≤255)(_: -9223372036854775808≤h∧h≤9223372036854775807)(_: -9223372036854775808≤k∧k≤9223372036854775807):dI d l w h k=true:=(yI d l w h k r1).2
end Go.Sx
end
section
namespace Go.Sx
open Go.RowKit Go.Deep
section
variable {F:Nat→Prop}{own:Own}{w:World}
def RC (F:Nat→Prop)(own:Own)(w:World)(ks:List Kd)(cs:List Value):Prop:=
 ∃ l:List SV,lw ks l=true∧l.length=cs.length∧∀ (j:Nat) (s:SV) (v:Value),l[j]? =some s→cs[j]? =some v→Rel F own w s v
theorem yJ:∀ {a b:List Kd} {l m:List SV},lw a l=true→lw b m=true→lw (a++b) (l++m)=true
 | [],b,l,m,h1,h2=>by rw[lH h1];exact h2
 |k::a,b,l,m,h1,h2=>by
  obtain⟨x,r,rfl,e1,e2⟩:=i7 h1
  simp only[List.cons_append,lw,e1,yJ e2 h2,Bool.and_self]
theorem RC.nil:RC F own w [] []:=⟨[],rfl,rfl,fun j s v h=>by cases h⟩
theorem RC.app {a b:List Kd}{c d:List Value}(h1:RC F own w a c)(h2:RC F own w b d):RC F own w (a++b) (c++d):=by
 obtain⟨l,f1,n1,r1⟩:=h1
 obtain⟨m,f2,n2,r2⟩:=h2
 refine⟨l++m,yJ f1 f2,by simp[n1,n2],fun j s v hs hv=>?_⟩
 by_cases hj:j<l.length
 ·rw[List.getElem?_append_left hj]at hs
  rw[List.getElem?_append_left (by omega)]at hv
  exact r1 j s v hs hv
 ·rw[List.getElem?_append_right (by omega)]at hs
  rw[List.getElem?_append_right (by omega),←n1]at hv
  exact r2 _ s v hs hv
theorem RC.one {k:Kd}{s:SV}{v:Value}(h1:fit k s=true)(h2:Rel F own w s v):RC F own w [k] [v]:=
 ⟨[s],by simp[lw,h1],rfl,fun j s' v' hs hv=>by
  cases j with
  |zero=>simp only[List.getElem?_cons_zero,Option.some.injEq]at hs hv;subst hs;subst hv;exact h2
  |succ j=>simp at hs⟩
end
def KH:Kd→Kd→Bool
 | .s,.s=>true
 | .b,.b=>true
 | .n a,.n b=>decide (a=b)
 | .r a,.r b=>decide (a=b)
 | .m a c,.m b d=>decide (a=b)&&decide (c=d)
 |_,_=>false
theorem HM:∀ {a b:Kd},KH a b=true→a=b:=by
 intro a b h
 cases a <;>cases b <;>simp_all [KH]
def Fa:List Kd→List Kd→Bool
 | [],[] =>true
 |a::l,b::m=>KH a b&&Fa l m
 |_,_=>false
theorem Br:∀ {a b:List Kd},Fa a b=true→a=b
 | [],[],_=>rfl
 |a::l,b::m,h=>by
  simp only[Fa,Bool.and_eq_true]at h
  rw[HM h.1,Br h.2]
def ue (P:Program)(g:TypeId→Option (List Kd)):List Field→Nat→Nat→Option (List Kd)
 | [],off,tot=>bif Nat.beq off tot then some []else none
 |f::r,off,tot=>match g f.type with
  |some a=>bif Nat.beq f.offset off&&Nat.beq a.length (P.cellsOf f.type)then(ue P g r (off+a.length) tot).map (a++ ·)else none
  |none=>none
def An (a:List Kd):Nat→List Kd
 |0=>[]
 |n+1=>a++An a n
def uf (P:Program):Nat→TypeId→Option (List Kd)
 |0,_=>none
 |n+1,t=>match P.underlying t with
  |some .bool=>some [.b]
  |some (.int k) =>some [.n k]
  |some .string=>some [.s]
  |some (.slice e) =>match w_ P e,uf P n e with
   |some k,some ks=>bif Fa ks (cD k)&&Nat.beq (P.cellsOf e) (aa k)&&Nat.ble 1 (aa k)then some [.r k]else none
   |_,_=>none
  |some (.struct fs) =>ue P (uf P n) fs.toList 0 (P.cellsOf t)
  |some (.array m e) =>match uf P n e with
   |some a=>bif Nat.beq a.length (P.cellsOf e)&&Nat.beq (P.cellsOf t) (m*a.length)then some (An a m)else none
   |none=>none
  |_=>none
section
variable {H:Type}{enc:TypeId×Value→H}{P:Program}{F:Nat→Prop}{own:Own}{w:World}{base:Nat}{spare:Nat→Bool}{held:Bool}{S:DataW H→Prop}
theorem Bt {g:TypeId→Option (List Kd)}(hg:∀ t ks,g t=some ks→∀ (fuel:Nat) (cs:List Value) (x:DataW H×List MemPlace),DataW.trod enc P w base spare held fuel t cs=some x→S x.1→RC F own w ks cs)
  (fuel:Nat) (cs:List Value):∀ (fs:List Field) (off:Nat) (ks:List Kd),ue P g fs off cs.length=some ks→(∀ f∈fs,∃ x,DataW.trod enc P w base spare held fuel f.type ((cs.drop f.offset).take (P.cellsOf f.type))=some x∧S x.1)→RC F own w ks (cs.drop off)
 | [],off,ks,h,_=>by
  unfold ue at h
  cases hb:Nat.beq off cs.length with
  |false=>rw[hb]at h;cases h
  |true=>
   rw[hb]at h
   have:off=cs.length:=Nat.eq_of_beq_eq_true hb
   subst this
   cases h
   rw[List.drop_length]
   exact RC.nil
 |f::r,off,ks,h,hx=>by
  unfold ue at h
  cases ha:g f.type with
  |none=>rw[ha]at h;cases h
  |some a=>
   rw[ha]at h
   dsimp only at h
   cases hb:Nat.beq f.offset off&&Nat.beq a.length (P.cellsOf f.type)with
   |false=>rw[hb]at h;cases h
   |true=>
    rw[hb]at h
    simp only[cond_true,Option.map_eq_some_iff]at h
    obtain⟨ks2,h2,rfl⟩:=h
    rw[Bool.and_eq_true]at hb
    have e1:f.offset=off:=Nat.eq_of_beq_eq_true hb.1
    have e2:a.length=P.cellsOf f.type:=Nat.eq_of_beq_eq_true hb.2
    obtain⟨x,hx1,hs1⟩:=hx f (by simp)
    have h3:=hg _ _ ha _ _ _ hx1 hs1
    have h4:=Bt hg fuel cs r (off+a.length) ks2 h2 fun f hf=>hx f (by simp[hf])
    have:=h3.app h4
    rw[e1,←e2]at this
    rwa[←List.drop_drop,List.take_append_drop]at this
theorem Bu {e:TypeId}{a:List Kd}(ha:∀ (fuel:Nat) (cs:List Value) (x:DataW H×List MemPlace),DataW.trod enc P w base spare held fuel e cs=some x→S x.1→RC F own w a cs)
  (fuel:Nat):∀ (m:Nat) (cs:List Value),cs.length=m*a.length→(∀ i,i<m→∃ x,DataW.trod enc P w base spare held fuel e ((cs.drop (i*a.length)).take a.length)=some x∧S x.1)→RC F own w (An a m) cs
 |0,cs,h,_=>by
  have:cs=[]:=by simpa using h
  subst this
  exact RC.nil
 |m+1,cs,h,hx=>by
  obtain⟨x,hx1,hs1⟩:=hx 0 (by omega)
  rw[Nat.zero_mul,List.drop_zero]at hx1
  have h3:=ha _ _ _ hx1 hs1
  have h4:=Bu ha fuel m (cs.drop a.length) (by rw[List.length_drop,h,Nat.succ_mul];omega) fun i hi=>by
   obtain⟨x,hx2,hs2⟩:=hx (i+1) (by omega)
   refine⟨x,?_,hs2⟩
   rw[List.drop_drop]
   rwa[Nat.succ_mul,Nat.add_comm]at hx2
  have:=h3.app h4
  rwa[List.take_append_drop]at this
structure Small (S:DataW H→Prop):Prop where
 agg:∀ l,S (.agg l)→∀ d∈l,S d
 slice:∀ l m,S (.slice l m)→l.length≤ce∧∀ d∈l,S d
theorem kT (hS:Small S)(hown:∀ b,¬bO F own b):∀ (n:Nat) (t:TypeId) (ks:List Kd),uf P n t=some ks→∀ (fuel:Nat) (cs:List Value) (x:DataW H×List MemPlace),DataW.trod enc P w base spare held fuel t cs=some x→S x.1→RC F own w ks cs
 |0,_,_,h,_,_,_,_,_=>by cases h
 |n+1,t,ks,h,fuel,cs,x,hx,hs=>by
  unfold uf at h
  split at h
  ·rename_i ht
   cases h
   obtain⟨b,rfl,rfl⟩:=DataW.trod_bool ht hx
   exact RC.one (s:=.v (.bool b)) rfl (.v _)
  ·rename_i k ht
   cases h
   obtain⟨m,rfl,rfl,_⟩:=DataW.trod_int ht hx
   exact RC.one (s:=.v (.int k m)) (by simp[fit]) (.v _)
  ·rename_i ht
   cases h
   obtain⟨b,rfl,rfl,_⟩:=DataW.trod_string ht hx
   exact RC.one (s:=.v (.string b)) rfl (.v _)
  ·rename_i e ht
   split at h
   ·rename_i k ks2 hk hks
    cases hb:Fa ks2 (cD k)&&Nat.beq (P.cellsOf e) (aa k)&&Nat.ble 1 (aa k)with
    |false=>rw[hb]at h;cases h
    |true=>
     rw[hb]at h
     cases h
     simp only[Bool.and_eq_true]at hb
     have e1:=Br hb.1.1
     have e2:P.cellsOf e=aa k:=Nat.eq_of_beq_eq_true hb.1.2
     have e3:1≤aa k:=Nat.le_of_ble_eq_true hb.2
     subst e1
     rcases open_slice ht hx with⟨rfl,rfl⟩ | ⟨a,len,cap,m,f2,D,Pl,rfl,hb1,hl,hm,hmm,rfl,hel⟩
     ·exact RC.one (s:=.rs k []) (by simp[fit]) .rs0
     ·have hlm:len≤m:=by subst hmm;split <;>omega
      obtain⟨hs1,hs2⟩:=hS.slice _ _ hs
      simp only[List.length_map,List.length_range]at hs1
      have helt:∀ i,i<len→∃ cs',cs'.length=aa k∧(∀ j v,cs'[j]? =some v→w.cell? ((a.add (i*aa k)).add j)=some v)∧RC F own w (cD k) cs':=fun i hi=>by
       obtain⟨cs',h1,h2⟩:=hel i (by omega)
       have h3:=kT hS hown n e (cD k) hks f2 cs' _ h2 (hs2 _ (List.mem_map_of_mem (List.mem_range.2 hi)))
       unfold World.cells? at h1
       split at h1
       ·refine⟨cs',by rw[mapM_some_length h1,List.length_range,e2],fun j v hj=>?_,h3⟩
        have hlt:j<P.cellsOf e:=by
         have:=(List.getElem?_eq_some_iff.1 hj).1
         rwa[mapM_some_length h1,List.length_range]at this
        have:=mapM_some_get h1 j j (by simp[hlt])
        rw[e2]at this
        rw[this,hj]
       ·cases h1
      by_cases h0:len=0
      ·subst h0
       exact RC.one (s:=.rs k []) (by simp[fit]) .rs0
      ·have hsp:a.spot=none:=by
        obtain⟨cs',h1,h2,_⟩:=helt 0 (by omega)
        have:=h2 0 (cs'[0]'(by omega)) (by rw[List.getElem?_eq_getElem])
        rw[Nat.zero_mul]at this
        simp only[Addr.add,if_true]at this
        unfold World.cell? at this
        split at this
        ·cases hsp:a.spot with
         |none=>rfl
         |some q=>rw[hsp]at this;simp at this
        ·cases this
       obtain⟨ab,ao,asp⟩:=a
       dsimp only at hsp
       subst hsp
       haveI:Inhabited k.T:=⟨dg k⟩
       obtain⟨X,hX⟩:=choose_lt (p:=fun i (x:k.T) =>∀ (j:Nat) (s:SV),(cellsOf k x)[j]? =some s→∃ v,w.cell? ⟨ab,ao+i*aa k+j,none⟩=some v∧Rel F own w s v) (n:=len) fun i hi=>by
        obtain⟨cs',h1,h2,l,h3,h4,h5⟩:=helt i hi
        refine⟨mkE k l,fun j s hj=>?_⟩
        rw[jA (k:=k) (l:=l) (x:=mkE k l) (by unfold lz;rw[h3];rfl)]at hj
        have hlt:j<cs'.length:=by
         have:=(List.getElem?_eq_some_iff.1 hj).1
         omega
        refine⟨cs'[j],?_,h5 j s _ hj (List.getElem?_eq_getElem hlt)⟩
        have:=h2 j cs'[j] (List.getElem?_eq_getElem hlt)
        have hadd:∀ p q,((⟨ab,ao,none⟩:Addr).add p).add q=⟨ab,ao+p+q,none⟩:=fun p q=>by
         unfold Addr.add
         by_cases hp:p=0 <;>by_cases hq:q=0 <;>simp[hp,hq]
        rwa[hadd]at this
       have hL:((List.range len).map X).length=len:=by simp
       refine RC.one (s:=.rs k ((List.range len).map X)) (by simp[fit]) ?_
       have hget:∀ (i:Nat) (x:k.T),((List.range len).map X)[i]? =some x→i<len∧x=X i:=fun i x hi=>by
        obtain⟨h1,h2⟩:=List.getElem?_eq_some_iff.1 hi
        rw[hL]at h1
        simp only[List.getElem_map,List.getElem_range]at h2
        subst h2
        exact⟨h1,rfl⟩
       have:=Rel.rs (F:=F) (own:=own) (w:=w) (k:=k) (l:=(List.range len).map X) (b:=ab) (o:=ao) (cap:=cap) (fun i j=>(w.cell? ⟨ab,ao+i*aa k+j,none⟩).getD undef) (by rw[hL];exact hl) (by rw[hL];exact hs1)
        (fun i x hi j s hj=>by
         obtain⟨h1,rfl⟩:=hget i x hi
         obtain⟨v,h2,_⟩:=hX i h1 j s hj
         exact⟨hown _,by rw[h2];rfl⟩)
        (fun i x hi j s hj=>by
         obtain⟨h1,rfl⟩:=hget i x hi
         obtain⟨v,h2,h3⟩:=hX i h1 j s hj
         rw[h2];exact h3)
       rwa[hL]at this
   ·cases h
  ·rename_i fs ht
   obtain⟨xs,m,rfl,rfl,hl,hlen,hf⟩:=DataW.trod_struct ht hx
   rw[←hl]at h
   have:=Bt (kT hS hown n) m cs fs.toList 0 ks h fun f hfm=>by
    obtain⟨i,hi,rfl⟩:=List.getElem_of_mem hfm
    have hi':i<fs.size:=by simpa using hi
    have h1:=hf i fs[i] (by simp[hi'])
    rw[List.getElem?_eq_getElem (by omega)]at h1
    refine⟨_,by simpa using h1,hS.agg _ hs _ (List.mem_map_of_mem (List.getElem_mem _))⟩
   simpa using this
  ·rename_i m e ht
   split at h
   ·rename_i a ha
    cases hb:Nat.beq a.length (P.cellsOf e)&&Nat.beq (P.cellsOf t) (m*a.length)with
    |false=>rw[hb]at h;cases h
    |true=>
     rw[hb]at h
     cases h
     rw[Bool.and_eq_true]at hb
     have e1:a.length=P.cellsOf e:=Nat.eq_of_beq_eq_true hb.1
     have e2:P.cellsOf t=m*a.length:=Nat.eq_of_beq_eq_true hb.2
     obtain⟨xs,f2,rfl,rfl,hl,hlen,hf⟩:=DataW.trod_array ht hx
     refine Bu (kT hS hown n e a ha) f2 m cs (by rw[hl,e2]) fun i hi=>?_
     have h1:=hf i hi
     rw[List.getElem?_eq_getElem (by omega),←e1]at h1
     exact⟨_,h1,hS.agg _ hs _ (List.mem_map_of_mem (List.getElem_mem _))⟩
   ·cases h
  ·cases h
end
end Go.Sx
end
section
namespace Go.Sx
open Go.Proofs
section
variable {F:Nat→Prop}{own:Own}{w:World}
theorem HN {k:Tag}{cs:Array Value}(h:RC F own w (cD k) cs.toList):∃ x:k.T,Rel F own w (.agg (cellsOf k x)) (.agg cs):=by
 obtain⟨l,h3,h4,h5⟩:=h
 refine⟨mkE k l,?_⟩
 rw[jA (k:=k) (l:=l) (x:=mkE k l) (by unfold lz;rw[h3];rfl)]
 refine .agg (by simpa using h4.symm) fun j s hj=>?_
 have hlt:j<cs.size:=by
  have:=(List.getElem?_eq_some_iff.1 hj).1
  simpa[h4]using this
 exact h5 j s _ hj (by simp[Array.getD,hlt])
theorem KI {k:Tag}{v:Value}(h:RC F own w [.r k] [v]):∃ l:List k.T,Rel F own w (.rs k l) v:=by
 obtain⟨l,h3,h4,h5⟩:=h
 obtain⟨x,r,rfl,h6,h7⟩:=i7 h3
 have h8:=h5 0 x v rfl rfl
 cases x with
 |rs k' l'=>
  have:k=k':=by
   simp only[fit]at h6
   exact pm h6
  subst this
  exact⟨l',h8⟩
 |_=>simp[fit]at h6
end
end Go.Sx
end
section
namespace Go.Sx
open Go.RowKit Go.WideShapes Go.ChangeShapes
section
variable {H:Type}{enc:TypeId×Value→H}{P:Program}
def HO (P:Program):List TypeId→Bool
 | [] =>true
 |t::r=>P.readableRec t&&Nat.blt t P.types.size&&HO P r
theorem vF (hl:laidOutB P=true){W W':World}(hg:Below W.heap.size W W'):∀ {ts:List TypeId} {vs:List Value} {ds:List (DataW H)} {ps:List MemPlace},HO P ts=true→
  DataW.TrodAll enc P W 0 (fun _=>true) true ts vs ds ps→(∀ x∈ps,x.block<W.heap.size)→DataW.TrodAll enc P W' 0 (fun b=>decide (b<W.heap.size)) true ts vs ds ps
 | [],vs,ds,ps,_,h,_=>by
  obtain⟨rfl,rfl,rfl⟩:=trodAll_nil h
  exact trodAll_mk0
 |t::ts,vs,ds,ps,hk,h,hlt=>by
  unfold HO at hk
  rw[Bool.and_eq_true,Bool.and_eq_true]at hk
  obtain⟨v,vs',d,ds',p,q,rfl,rfl,rfl,h1,h2⟩:=trodAll_cons h
  refine trodAll_cons_mk (WideElems.Trod_stays hl hk.1.1 (by simpa[Nat.blt_eq]using hk.1.2) h1 (fun x hx=>hg.same (hlt x (List.mem_append_left _ hx))) (fun x hx=>by simpa using hlt x (List.mem_append_left _ hx))) ?_
  exact vF hl hg hk.2 h2 fun x hx=>hlt x (List.mem_append_right _ hx)
theorem Fb (hl:laidOutB P=true){f:Func}{s:ChangeSpec}{W W':World}{args:Array Value}{ds gs:List (DataW H)}{before:List MemPlace}{t:TypeId}
  (hk:HO P f.params.toList=true) (hW:DataW.Whole enc P f.params.toList s.vars false W args.toList ds gs before)
  (hr:f.resultTypes= #[t]) (ht:P.underlying t=some .bool) (hv:s.vars=[]) (h1:(s.fn H (ds++gs)).results=[.lit (.bool true)]) (h2:(s.fn H (ds++gs)).args=ds) (h3:(s.fn H (ds++gs)).vars=[])
  (hg:Below W.heap.size W W'):s.post enc P f false true false false W args (.bool true) W':=by
 have hlt:=hW.lt
 have hW0:=hW
 obtain⟨p,q,hA,hV,rfl,_,_⟩:=hW
 rw[hv]at hV
 obtain⟨rfl,rfl⟩:=trodVars_none hV
 refine⟨ds,[],p++[],[],p,[],hW0,?_,?_,?_,?_,fun h=>by cases h⟩
 ·rw[h1,hr]
  exact trodAll_cons_mk (shut_bool ht _) trodAll_mk0
 ·rw[h2]
  exact vF hl hg hk hA fun x hx=>hlt x (by simpa using hx)
 ·rw[h3,hv]
  rfl
 ·exact World.keptBut_mono (fun x hx=>⟨hx,.inr (.inl (by simpa using hx))⟩) (hg.frame (· ∈p++[]))
end
end Go.Sx
end
section
namespace Go.Proofs.YthcbieoehjhjfaaGreat.bulks
theorem one_le {H:Type}(d:DataW H):1≤Rows.uptoBulk d:=by
 cases d with
 |lit l=>cases l <;>simp[Rows.uptoBulk]
 |nil=>simp[Rows.uptoBulk]
 |ptr d=>simp[Rows.uptoBulk]
 |slice jZ spare=>simp[Rows.uptoBulk]
 |agg parts=>simp[Rows.uptoBulk]
 |iface t d=>simp[Rows.uptoBulk]
 |map entries=>simp[Rows.uptoBulk]
 |held h=>simp[Rows.uptoBulk]
theorem part_le {H:Type}{d:DataW H}{l:List (DataW H)}(h:d∈l):Rows.uptoBulk d≤Rows.uptoBulkAll l:=by
 induction l with
 |nil=>cases h
 |cons x r ih=>
  simp only[Rows.uptoBulkAll]
  cases List.mem_cons.1 h with
  |inl e=>subst e;omega
  |inr e=>have:=ih e;omega
theorem append {H:Type}(l r:List (DataW H)):Rows.uptoBulkAll (l++r)=Rows.uptoBulkAll l+Rows.uptoBulkAll r:=by
 induction l with
 |nil=>simp[Rows.uptoBulkAll]
 |cons x l ih=>simp only[List.cons_append,Rows.uptoBulkAll,ih];omega
theorem length_le {H:Type}(l:List (DataW H)):l.length≤Rows.uptoBulkAll l:=by
 induction l with
 |nil=>simp[Rows.uptoBulkAll]
 |cons x r ih=>have:=one_le x;simp only[Rows.uptoBulkAll,List.length_cons];omega
theorem slice_le {H:Type}(jZ spare:List (DataW H)):jZ.length+spare.length+1≤Rows.uptoBulk (.slice jZ spare):=by
 have h1:=length_le jZ
 have h2:=length_le spare
 simp only[Rows.uptoBulk]
 omega
theorem slice_elems {H:Type}(jZ spare:List (DataW H)):Rows.uptoBulkAll jZ+1≤Rows.uptoBulk (.slice jZ spare):=by
 simp only[Rows.uptoBulk]
 omega
theorem bound {H:Type}{l:List (DataW H)}(hk:Rows.uptoSmall H l=true):Rows.uptoBulkAll l≤1048576:=by
 simpa[Rows.uptoSmall]using hk
theorem room {n b:Nat}(hn:n≤2097152)(hb:b≤4096):(n+n / 4+192)*b≤281474976710656:=by
 have h:(n+n / 4+192)*b≤2621632*4096:=Nat.mul_le_mul (by omega) hb
 omega
end Go.Proofs.YthcbieoehjhjfaaGreat.bulks
end
section
namespace Go.Proofs.YthcbieoehjhjfaaGreat.registerVoid
open Go.ChangeShapes Go.WideShapes Go.ChangeAt Go.RowKit Go.Sx
set_option linter.unusedVariables false
theorem con_eq (x0:Tag.district.T)(x1:List Tag.deed.T)(x2:Int)(x3:Int)(x4:Int):gi [.agg (cellsOf .district x0),.rs .deed x1,.v (.int .u8 x2),.v (.int .i64 x3),.v (.int .i64 x4)]=some (.det (dp x0 x1 x2 x3 x4) (.v (.bool (dI x0 x1 x2 x3 x4)))):=by
 unfold gi
 simp only[go_sem,Nat.reduceBEq]
theorem call_true {W:World}{cs0:Array Value}(h0:RC (fun _=>False) cg W (cD .district) cs0.toList){v1:Value}(h1:RC (fun _=>False) cg W [.r .deed] [v1])(x2:Int)(h2:0≤x2∧x2≤255)(x3:Int)(h3:(-9223372036854775808)≤x3∧x3≤9223372036854775807)(x4:Int)(h4:(-9223372036854775808)≤x4∧x4≤9223372036854775807):
  Calls Tryz.prog 6 #[.agg cs0,v1,.int .u8 x2,.int .i64 x3,.int .i64 x4] W (fun e W'=>e=.returned (.bool true)∧Below W.heap.size W W'):=by
 obtain⟨x0,r0⟩:=HN h0
 obtain⟨x1,r1⟩:=KI h1
 refine(mS.calls _ _ (con_eq x0 x1 x2 x3 x4) (KF x0 x1 x2 x3 x4 h2 h3 h4) (fun _=>False) W _ (fun b h=>h.elim) ⟨rfl,fun j s hj=>?_⟩).mono fun e W' he=>?_
 ·match j,hj with
  |0,hj=>cases hj;exact r0
  |1,hj=>cases hj;exact r1
  |2,hj=>cases hj;exact .v _
  |3,hj=>cases hj;exact .v _
  |4,hj=>cases hj;exact .v _
 ·rcases he with⟨s,u,own',hs,rfl,hh,hb⟩ | ⟨x,hx,_⟩
  ·simp only[cJ]at hs
   subst hs
   rw[KG x0 x1 x2 x3 x4 h2 h3 h4]at hh
   have:=hh.val
   simp only[ni]at this
   rw[bR this]
   exact⟨rfl,hb⟩
  ·exact hx.elim
theorem own:ownKnob Tryz.prog.godebug=none:=by kernel_rfl
theorem small (H:Type):Small (fun d:DataW H=>Rows.uptoBulk d≤1048576) where
 agg l h d hd:=by
  have h1:=bulks.part_le hd
  simp only[Rows.uptoBulk]at h
  omega
 slice l m h:=by
  have h1:=bulks.slice_le l m
  have h2:=bulks.slice_elems l m
  refine⟨by unfold ce;omega,fun d hd=>?_⟩
  have:=bulks.part_le hd
  omega
theorem laid:laidOutB Tryz.prog=true:=by kernel_rfl
set_option maxRecDepth 100000 in
theorem contract (H:Type)(enc:TypeId×Value→H)(W:World)(base:Nat)(args:Array Value)(ds gs:List (DataW H))(before:List MemPlace)
  (hval:∀ (j:Nat) t v,Tryz.f6.params[j]? =some t→args[j]? =some v→Value.okWide Tryz.prog W .any base t v)
  (hW:DataW.Whole enc Tryz.prog Tryz.f6.params.toList Rows.registerVoidSpec.vars false W args.toList ds gs before) (hk:Rows.uptoSmall H (ds++gs)=true):
  Calls Tryz.prog 6 args W fun e W'=>∃ v,e=.returned v∧Rows.registerVoidSpec.post enc Tryz.prog Tryz.f6 false true false false W args v W':=by
 have hW':=hW
 obtain⟨p,q,hA0,hV,rfl,hfz,hnd⟩:=hW
 have hA:DataW.TrodAll enc Tryz.prog W 0 (fun _=>true) true Tryz.f6.params.toList args.toList ds p:=hA0
 rw[Tryz.params6]at hA hval
 obtain⟨v0,vs0,d0,ds0,p0,q0,hargs,rfl,rfl,h0,r0⟩:=trodAll_cons hA
 obtain⟨v1,vs1,d1,ds1,p1,q1,rfl,rfl,rfl,h1,r1⟩:=trodAll_cons r0
 obtain⟨v2,vs2,d2,ds2,p2,q2,rfl,rfl,rfl,h2,r2⟩:=trodAll_cons r1
 obtain⟨v3,vs3,d3,ds3,p3,q3,rfl,rfl,rfl,h3,r3⟩:=trodAll_cons r2
 obtain⟨v4,vs4,d4,ds4,p4,q4,rfl,rfl,rfl,h4,r4⟩:=trodAll_cons r3
 obtain⟨rfl,rfl,rfl⟩:=trodAll_nil r4
 obtain rfl:args= #[v0,v1,v2,v3,v4]:=by cases args;simp_all
 obtain⟨rfl,rfl⟩:=trodVars_none hV
 have hb:=bulks.bound hk
 simp only[Rows.uptoBulkAll,List.append_nil,List.cons_append,List.nil_append]at hb
 have ho:∀ b,¬bO (fun _=>False) cg b:=fun b h=>by
  rcases h with h| ⟨_,_,h,_⟩
  ·exact h
  ·cases h
 have s0:∃ cs,v0=.agg cs:=by
  have:=hval 0 31 v0 rfl rfl
  simp only[Value.okWide,Tryz.underlying31]at this
  exact⟨_,this.choose_spec.1⟩
 obtain⟨cs0,rfl⟩:=s0
 obtain⟨a1,l1,c1,rfl⟩:=okWide_slice Tryz.underlying32 (hval 1 32 v1 rfl rfl)
 obtain⟨a2,rfl,rfl,rfl,w2⟩:=open_int Tryz.underlying5 (hval 2 5 v2 rfl rfl) h2
 have R2:0≤a2∧a2≤255:=by simpa[Lit.wf,IntKind.min,IntKind.max,IntKind.signed,IntKind.bits]using w2
 obtain⟨a3,rfl,rfl,rfl,w3⟩:=open_int Tryz.underlying3 (hval 3 3 v3 rfl rfl) h3
 have R3:(-9223372036854775808)≤a3∧a3≤9223372036854775807:=by simpa[Lit.wf,IntKind.min,IntKind.max,IntKind.signed,IntKind.bits]using w3
 obtain⟨a4,rfl,rfl,rfl,w4⟩:=open_int Tryz.underlying3 (hval 4 3 v4 rfl rfl) h4
 have R4:(-9223372036854775808)≤a4∧a4≤9223372036854775807:=by simpa[Lit.wf,IntKind.min,IntKind.max,IntKind.signed,IntKind.bits]using w4
 have R0:RC (fun _=>False) cg W (cD .district) cs0.toList:=by
  obtain⟨f,hf⟩:=h0
  exact kT (n:=6) (t:=31) (small H) ho _ (by kernel_rfl) f _ _ hf (by show Rows.uptoBulk d0≤_;omega)
 have R1:RC (fun _=>False) cg W [.r .deed] [.slice a1 l1 c1]:=by
  obtain⟨f,hf⟩:=h1
  exact kT (n:=6) (t:=32) (small H) ho _ (by kernel_rfl) f _ _ hf (by show Rows.uptoBulk d1≤_;omega)
 refine(call_true R0 R1 _ R2 _ R3 _ R4).mono fun e W' ⟨he,hg⟩ =>?_
 subst he
 exact⟨_,rfl,Fb laid (by kernel_rfl) hW' (by kernel_rfl) Tryz.underlying4 rfl rfl rfl rfl hg⟩
def zeroV:Kd→Value
 | .n k=>.int k 0
 | .b=>.bool false
 | .s=>.string (ByteArray.mk #[])
 | .r _=>.slice none 0 0
 | .m _ _=>.map none
 | .f=>.nilFunc
def wit:Array Value:= #[.agg ((cD .district).map zeroV).toArray,.slice none 0 0,.int .u8 0,.int .i64 0,.int .i64 0]
set_option maxRecDepth 100000 in
theorem lifted (os:Os)(started:os.Started)(H:Type)(enc:TypeId×Value→H)(F:Stop.Interp):
  ReturnsInHanded {} Tryz.checked os 6 .any ((Rows.OpenSpec.upto Rows.registerVoidSpec).pre6 enc Tryz.prog Tryz.f6 Rows.registerVoidUptoRow.domain false) (((Rows.OpenSpec.upto Rows.registerVoidSpec).at F).post enc Tryz.prog Tryz.f6 false true false false):=by
 refine returnsInHanded_of_cond (C:=Tryz.checked) (s:=Rows.OpenSpec.upto Rows.registerVoidSpec) (k:=Rows.uptoSmall) rfl own started (by kernel_rfl) Tryz.func6
  (OpenSpec.witness (enc:=enc) (C:=Tryz.checked) (s:=Rows.OpenSpec.upto Rows.registerVoidSpec) (k:=Rows.uptoSmall) rfl false ⟨#[],wit,[]⟩ 8 (by kernel_rfl) (by kernel_rfl) (by kernel_rfl)
   (x:=(DataW.whole enc Tryz.prog (World.plainHolding Tryz.prog os ⟨#[],wit,[]⟩).memory Tryz.f6.params.toList Rows.registerVoidSpec.vars false wit.toList 8).getD ([],[],[])) (by kernel_rfl) rfl (by kernel_rfl)) ?_
 intro W base args ds gs before hval hW _ hk _
 exact contract H enc W base args ds gs before hval hW hk
theorem over:Rows.registerVoidUptoRow.holds Tryz.pinned (Rows.OpenSpec.upto Rows.registerVoidSpec):=
 OpenClaim.holds_of_cond 6 Tryz.f6 rfl rfl rfl rfl rfl rfl rfl ⟨rfl,rfl,rfl,rfl,rfl⟩ rfl rfl rfl rfl rfl (by kernel_rfl) Tryz.func6 (by kernel_rfl)
  (of_decide_eq_true (by kernel_rfl)) (by unfold Func.isWrapper;first|(rw[if_pos (by decide+kernel)];kernel_rfl) |(rw[if_neg (by decide+kernel)];exact⟨rfl,rfl⟩))
  (fun os started H enc _ F=>lifted os started H enc F)
theorem proved:Rows.RegisterVoidUptoSaid:=over
end Go.Proofs.YthcbieoehjhjfaaGreat.registerVoid
end
