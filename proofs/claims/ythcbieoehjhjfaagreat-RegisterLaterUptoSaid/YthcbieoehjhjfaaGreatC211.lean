/- Part of the proof that the law RegisterLater returns true and leaves its arguments as they were, for all arguments of bulk at most 1048576 (the Upto form). -/
import Derived.Test.YthcbieoehjhjfaaGreatC210
import Derived.Shelf.SlSortCmp.NoneTotal
import Derived.Ground.SlsfProg
import Derived.Test.YthcbieoehjhjfaaGreatProg
import Derived.Test.YthcbieoehjhjfaaGreatC208
import Derived.Test.YthcbieoehjhjfaaGreatC207
import Derived.Test.YthcbieoehjhjfaaGreatC206
import Derived.Deep.Slices
import Derived.OpenShut
import Derived.ChangeSame
import Derived.WideKeyArgs
import Derived.Below
set_option linter.all false
set_option maxHeartbeats 4000000
section
namespace Go.Sx
open Go.Proofs
def qG (l:List Part)(n:Int)(g:Int→Int):Int→Int:=l.foldl (fun g p=>gE g p.farm (g p.farm+loP p n)) g
def mz (l:List Part)(g:Int→Int):Int→Int:=l.foldl (fun g p=>gE g p.farm (g p.farm+1)) g
def uE (l:List Part)(n:Int)(g:Int→Int):Int→Int:=mz (l.take (n - cU l n).toNat) (qG l n g)
def xx (x:Deed)(g:Int→Int):Int→Int:=
 if g x.since=0 then g else
 if x.kind=1 then gE (gE g x.since 0) x.to (gE g x.since 0 x.to+g x.since)else
 if x.kind=2 then uE x.parts (g x.since) (gE g x.since 0)else gE g x.since 0
theorem C0 (l:List Part)(p:Part)(n:Int)(g:Int→Int):qG (l++[p]) n g=gE (qG l n g) p.farm (qG l n g p.farm+loP p n):=by
 unfold qG;rw[List.foldl_append];rfl
theorem AK (l:List Part)(p:Part)(g:Int→Int):mz (l++[p]) g=gE (mz l g) p.farm (mz l g p.farm+1):=by
 unfold mz;rw[List.foldl_append];rfl
theorem uF (l:List Part)(p:Part)(n:Int):cU (l++[p]) n=cU l n+loP p n:=by
 unfold cU;simp
def PFit (F:Nat)(l:List Part):Prop:= ∀ p∈l,0≤p.farm∧p.farm< (F:Int)∧RatioOk p.share∧0<p.share.n
theorem PartsOk.fit {d:District}{l:List Part}(h:PartsOk d l):PFit d.farms.length l:=fun p hp=>⟨(h.part p hp).f0,(h.part p hp).f1,(h.part p hp).share,(h.part p hp).pos⟩
theorem oA {F:Nat}{n:Int}(h0:0≤n):∀ (l:List Part) (g:Int→Int) (M:Int),PFit F l→Good F M g→Good F (M+cU l n) (qG l n g)∧tot F (qG l n g)=tot F g+cU l n
 | [],g,M,_,hg=>by simpa[qG,cU]using hg
 |p::l,g,M,hl,hg=>by
  obtain⟨a,b,c,e⟩:=hl p List.mem_cons_self
  have hlo:=Fx c e h0
  have hgf:=hg.nn p.farm
  have h1:Good F (M+loP p n) (gE g p.farm (g p.farm+loP p n)):=hg.put a b (by omega) (by have:=hg.tot;omega)
  obtain⟨q1,q2⟩:=oA h0 l _ _ (fun q hq=>hl q (List.mem_cons_of_mem _ hq)) h1
  have e1:cU (p::l) n=loP p n+cU l n:=by simp[cU]
  rw[oz g p.farm _ F a b]at q2
  rw[e1]
  refine⟨by rw[show M+(loP p n+cU l n)=M+loP p n+cU l n by omega];exact q1,?_⟩
  show tot F (qG l n (gE g p.farm (g p.farm+loP p n)))=_
  rw[q2];omega
theorem pt {F:Nat}:∀ (l:List Part) (g:Int→Int) (M:Int),PFit F l→Good F M g→Good F (M+l.length) (mz l g)∧tot F (mz l g)=tot F g+l.length
 | [],g,M,_,hg=>by simpa[mz]using hg
 |p::l,g,M,hl,hg=>by
  obtain⟨a,b,c,e⟩:=hl p List.mem_cons_self
  have hgf:=hg.nn p.farm
  have h1:Good F (M+1) (gE g p.farm (g p.farm+1)):=hg.put a b (by omega) (by have:=hg.tot;omega)
  obtain⟨q1,q2⟩:=pt l _ _ (fun q hq=>hl q (List.mem_cons_of_mem _ hq)) h1
  rw[oz g p.farm _ F a b]at q2
  simp only[List.length_cons]
  refine⟨by rw[show M+((l.length+1:Nat):Int)=M+1+(l.length:Int) by omega];exact q1,?_⟩
  show tot F (mz l (gE g p.farm (g p.farm+1)))=_
  rw[q2];omega
theorem PFit.take {F:Nat}{l:List Part}(h:PFit F l)(k:Nat):PFit F (l.take k):=fun p hp=>h p (List.mem_of_mem_take hp)
theorem AL {d:District}{l:List Part}(h:PartsOk d l){n M:Int}(h0:0≤n){g:Int→Int}(hg:Good d.farms.length M g):Good d.farms.length (M+n) (uE l n g)∧tot d.farms.length (uE l n g)=tot d.farms.length g+n:=by
 obtain⟨q1,q2⟩:=oA h0 l g M h.fit hg
 obtain⟨r1,r2⟩:=pt (l.take (n - cU l n).toNat) _ _ (h.fit.take _) q1
 obtain⟨l1,l2⟩:=BR h n
 have e:((l.take (n - cU l n).toNat).length:Int)=n - cU l n:=by rw[List.length_take];omega
 rw[e]at r1 r2
 refine⟨by rw[show M+n=M+cU l n+(n - cU l n) by omega];exact r1,?_⟩
 show tot _ (mz _ _)=_
 rw[r2,q2];omega
theorem Fz {d:District}{x:Deed}(hx:Fit d x)(hk:x.kind≠4){L:Int}{g:Int→Int}(hg:Good d.farms.length L g):Good d.farms.length L (xx x g)∧(x.kind≠3→tot d.farms.length (xx x g)=tot d.farms.length g):=by
 obtain⟨_,_,_,s0,s1⟩:=hx.held hk
 unfold xx
 by_cases hn:g x.since=0
 ·rw[if_pos hn];exact⟨hg,fun _=>rfl⟩
 rw[if_neg hn]
 have hnn:=hg.nn x.since
 have hT:=hg.tot
 have g1:Good d.farms.length (L - g x.since) (gE g x.since 0):=hg.put s0 s1 (Int.le_refl _) (by omega)
 have t1:=oz g x.since 0 d.farms.length s0 s1
 by_cases k1:x.kind=1
 ·rw[if_pos k1]
  obtain⟨a,b,c⟩:=hx.pass k1
  have h1:=g1.nn x.to
  have t2:=oz (gE g x.since 0) x.to (gE g x.since 0 x.to+g x.since) d.farms.length a b
  exact⟨g1.put a b (by omega) (by omega),fun _=>by omega⟩
 rw[if_neg k1]
 by_cases k2:x.kind=2
 ·rw[if_pos k2]
  obtain⟨q1,q2⟩:=AL (hx.split k2) hnn g1
  rw[show L - g x.since+g x.since=L by omega]at q1
  exact⟨q1,fun _=>by omega⟩
 ·rw[if_neg k2]
  refine⟨⟨g1.nn,g1.sup,by have:=g1.tot;omega⟩,fun k3=>?_⟩
  rcases hx.kind with e|e|e|e <;>omega
abbrev BM:=List (RegisterTitle×Int)
abbrev RT (r f:Int):RegisterTitle:= { right:=r,farm:=f}
def bk (m:BM):Int→Int→Int:=fun r f=>cC .registerTitle .int m (RT r f)
theorem BS {a b c e:Int}:RT a b=RT c e↔a=c∧b=e:=by simp[RT]
theorem xy (m:BM)(r f v:Int):bk (et .registerTitle .int m (RT r f) v)=fun r'=>if r'=r then gE (bk m r) f v else bk m r':=by
 funext r' f'
 unfold bk
 rw[mu]
 by_cases h:r'=r
 ·subst h
  rw[if_pos rfl]
  unfold gE
  by_cases h2:f'=f
  ·subst h2;simp
  ·rw[if_neg (fun e=>h2 (BS.1 e).2),if_neg h2]
 ·rw[if_neg (fun e=>h (BS.1 e).1),if_neg h]
theorem K2 (m:BM)(hN:(fM m).Nodup)(r f:Int):bk (jI .registerTitle .int m (RT r f))=fun r'=>if r'=r then gE (bk m r) f 0 else bk m r':=by
 funext r' f'
 unfold bk cC jI
 have e:=(rP (RT r f) m hN).2.2 (RT r' f')
 have e':ej (qX m (RT r f)) (RT r' f')=if RT r' f'=RT r f then none else ej m (RT r' f'):=e
 by_cases h:r'=r
 ·subst h
  rw[if_pos rfl]
  unfold gE
  by_cases h2:f'=f
  ·subst h2;rw[e',if_pos rfl,if_pos rfl];rfl
  ·rw[e',if_neg (fun e=>h2 (BS.1 e).2),if_neg h2]
 ·rw[if_neg h,e',if_neg (fun e=>h (BS.1 e).1)]
theorem Good.le30 {F:Nat}{L:Int}{g:Int→Int}(h:Good F L g)(hL:L≤2147483648)(f:Int):0≤g f∧g f≤2147483648:=by
 have h1:=h.nn f
 by_cases e:g f=0
 ·omega
 ·obtain⟨a,b⟩:=h.sup f e
  have:=xw h.nn F f a b
  have:=h.tot
  omega
theorem C2 {d:District}{x:Deed}(hx:PartsOk d x.parts){n:Int}(h0:0≤n)(h1:n≤1073741824){m:BM}(hN:(fM m).Nodup){M:Int}(hM:M+n≤2147483648)(hg:Good d.farms.length M (bk m x.right)):
  di x n m∧(fM (cd x n m)).Nodup∧bk (cd x n m)=fun r=>if r=x.right then uE x.parts n (bk m r)else bk m r:=by
 obtain⟨l1,l2⟩:=BR hx n
 obtain⟨⟨m1,lf⟩,e1,a1,a2,a3⟩:=mT (step:=bg x n) (fun k (s:BM×Int) =>(fM s.1).Nodup∧(bk s.1=fun r=>if r=x.right then qG (x.parts.take k) n (bk m r)else bk m r)∧s.2=n - cU (x.parts.take k) n) x.parts.length 0 (m,n) ⟨hN,by funext r;by_cases h:r=x.right <;>simp[h,qG],by simp[cU]⟩ (fun j s _ hj ⟨j1,j2,j3⟩ =>by
  rw[Nat.zero_add]at hj
  have hm:x.parts.getD j default∈x.parts:=by rw[ov _ _ hj];exact List.getElem_mem _
  obtain⟨f0,f1,f2,f3⟩:=hx.fit _ hm
  have elo:(dV (x.parts.getD j default).share n).1=loP (x.parts.getD j default) n:=(Fv f2 h0 h1).1
  have hlo:=Fx f2 f3 h0
  obtain⟨q1,q2⟩:=oA h0 (x.parts.take j) _ _ (hx.fit.take _) hg
  have hs:∀ k,0≤cU (x.parts.take k) n∧cU (x.parts.take k) n≤cU x.parts n:=fun k=>by
   have key:∀ l:List Part,PFit d.farms.length l→0≤cU l n:=fun l=>by
    induction l with
    |nil=>intro _;simp[cU]
    |cons p r ih=>
     intro hp
     obtain⟨_,_,c,e⟩:=hp p List.mem_cons_self
     have:=Fx c e h0
     have:=ih fun q hq=>hp q (List.mem_cons_of_mem _ hq)
     have e:cU (p::r) n=loP p n+cU r n:=by simp[cU]
     omega
   have h1:=key _ (hx.fit.take k)
   have h2:=key (x.parts.drop k) fun p hp=>hx.fit p (List.mem_of_mem_drop hp)
   have h3:cU x.parts n=cU (x.parts.take k) n+cU (x.parts.drop k) n:=by
    conv=>lhs;rw[←List.take_append_drop k x.parts]
    unfold cU;rw[List.map_append,List.sum_append]
   omega
  have hsj:=hs j
  have hsj1:=hs (j+1)
  rw[cP _ default hj,uF]at hsj1
  have hv:=q1.le30 (by omega) (x.parts.getD j default).farm
  have ebk:cC .registerTitle .int s.1 (RT x.right (x.parts.getD j default).farm)=qG (x.parts.take j) n (bk m x.right) (x.parts.getD j default).farm:=by
   have:=congrFun (congrFun j2 x.right) (x.parts.getD j default).farm
   simpa[bk]using this
  refine⟨_,rfl,?_,?_,?_⟩
  ·exact(my _ _ _ j1).1
  ·simp only[elo]
   rw[ebk,bQ (by omega) (by omega),xy,j2]
   funext r
   by_cases h:r=x.right
   ·subst h;simp only[if_true];rw[cP _ default hj,C0]
   ·simp only[if_neg h]
  ·simp only[elo,j3]
   rw[bQ (by omega) (by omega),cP _ default hj,uF];omega)
 rw[Nat.zero_add,List.take_length]at a2 a3
 simp only at a1 a2 a3
 have hlf:0≤lf∧lf≤(x.parts.length:Int):=by omega
 obtain⟨q1,q2⟩:=oA h0 x.parts _ _ hx.fit hg
 have tk:(x.parts.take lf.toNat).drop 0=x.parts.take lf.toNat:=by simp
 have tkl:(x.parts.take lf.toNat).length=lf.toNat:=by rw[List.length_take];omega
 obtain⟨m2,e2,b1,b2⟩:=mT (step:=ef x (m1,lf)) (fun k (s:BM) =>(fM s).Nodup∧(bk s=fun r=>if r=x.right then mz ((x.parts.take lf.toNat).take k) (qG x.parts n (bk m r))else bk m r)) lf.toNat 0 m1 ⟨a1,by rw[a2];funext r;by_cases h:r=x.right <;>simp[h,mz]⟩ (fun j s _ hj ⟨j1,j2⟩ =>by
  rw[Nat.zero_add]at hj
  have hj':j< (x.parts.take lf.toNat).length:=by omega
  have hm:(x.parts.take lf.toNat).getD j default∈x.parts.take lf.toNat:=by rw[ov _ _ hj'];exact List.getElem_mem _
  obtain⟨r1,r2⟩:=pt ((x.parts.take lf.toNat).take j) _ _ ((hx.fit.take _).take _) q1
  have hlen:((x.parts.take lf.toNat).take j).length=j:=by rw[List.length_take];omega
  have hv:=r1.le30 (by omega) ((x.parts.take lf.toNat).getD j default).farm
  have ebk:cC .registerTitle .int s (RT x.right ((x.parts.take lf.toNat).getD j default).farm)=mz ((x.parts.take lf.toNat).take j) (qG x.parts n (bk m x.right)) ((x.parts.take lf.toNat).getD j default).farm:=by
   have:=congrFun (congrFun j2 x.right) ((x.parts.take lf.toNat).getD j default).farm
   simpa[bk]using this
  refine⟨_,rfl,?_,?_⟩
  ·exact(my _ _ _ j1).1
  ·simp only[tk]
   rw[ebk,bQ (by omega) (by omega),xy,j2]
   funext r
   by_cases h:r=x.right
   ·subst h;simp only[if_true];rw[cP _ default hj',AK]
   ·simp only[if_neg h])
 rw[Nat.zero_add]at b2
 have e2':ax (ef x (m1,lf)) ((x.parts.take lf.toNat).drop 0).length 0 m1=.inr m2:=by rw[tk,tkl];exact e2
 have eR:cd x n m=m2:=by
  unfold cd
  rw[e1]
  simp only[e2']
 refine⟨fun _ z hz=>?_,?_,?_⟩
 ·rw[e1]at hz;cases hz;exact⟨by omega,hlf.1,hlf.2⟩
 ·rw[eR];exact b1
 ·rw[eR,b2]
  funext r
  by_cases h:r=x.right
  ·simp only[if_pos h]
   unfold uE
   rw[←a3,List.take_take,Nat.min_self]
  ·simp only[if_neg h]
end Go.Sx
end
section
namespace Go.Sx
open Go.Proofs
def mA (x:Deed)(B:Int→Int→Int):Int→Int→Int:=fun r=>if r=x.right then xx x (B r)else B r
def FA (ds:List Deed)(B:Int→Int→Int):Int→Int→Int:=ds.foldl (fun B x=>mA x B) B
def C3:List Deed→(Int→Int→Int)→List Int
 | [],_=>[]
 |x::r,B=>(if B x.right x.since=0 then [x.no]else [])++C3 r (mA x B)
structure MapOk (d:District)(m:BM):Prop where
 nodup:(fM m).Nodup
 good:∀ r,∃ L,L≤1073741824∧Good d.farms.length L (bk m r)
theorem MapOk.le {d:District}{m:BM}(h:MapOk d m)(r f:Int):0≤bk m r f∧bk m r f≤1073741824:=by
 obtain⟨L,h1,h2⟩:=h.good r
 have:=h2.nn f
 by_cases e:bk m r f=0
 ·omega
 ·obtain⟨a,b⟩:=h2.sup f e
  have:=xw h2.nn _ f a b
  have:=h2.tot
  omega
theorem H9 {d:District}{ds:List Deed}{x:Deed}(hx:Fit d x)(hk:x.kind≠4){e:List Int}{m:BM}(hm:MapOk d m)(he:(e.length+1)*8≤im):
  cT ds x (e,m)∧∃ m',bE ds x (e,m)=.inr (e++(if bk m x.right x.since=0 then [x.no]else []),m')∧MapOk d m'∧bk m'=mA x (bk m):=by
 obtain⟨r0,r1,r2,s0,s1⟩:=hx.held hk
 have hv:=hm.le x.right x.since
 have ebk:cC .registerTitle .int m (RT x.right x.since)=bk m x.right x.since:=rfl
 have hdel:=rP (RT x.right x.since) m hm.nodup
 have hstep:∀ m':BM,(fM m').Nodup→bk m'=mA x (bk m)→MapOk d m':=fun m' hN hb=>by
  refine⟨hN,fun r=>?_⟩
  obtain⟨L,h1,h2⟩:=hm.good r
  refine⟨L,h1,?_⟩
  rw[hb]
  show Good _ _ (if r=x.right then xx x (bk m r)else bk m r)
  split
  ·exact(Fz hx hk h2).1
  ·exact h2
 have hlen:(e++[x.no]).length=e.length+1:=by simp
 unfold cT bE
 simp only[ebk,hlen]
 by_cases hn:bk m x.right x.since=0
 ·have b0:(bk m x.right x.since==0)=true:=by simp[hn]
  rw[b0,if_pos hn]
  refine⟨⟨fun _=>he,(fun h=>by cases h)⟩,m,rfl,hm,?_⟩
  funext r
  unfold mA
  split
  ·rename_i h;subst h;unfold xx;rw[if_pos hn]
  ·rfl
 ·have b0:(bk m x.right x.since==0)=false:=by simpa using hn
  rw[b0,if_neg hn,List.append_nil]
  simp only[cond_false]
  have edel:=K2 m hm.nodup x.right x.since
  have kdel:(fM (jI .registerTitle .int m (RT x.right x.since))).Nodup:=hdel.1
  have egood:Good d.farms.length (1073741824 - bk m x.right x.since) (bk (jI .registerTitle .int m (RT x.right x.since)) x.right):=by
   obtain⟨L,h1,h2⟩:=hm.good x.right
   rw[edel]
   simp only[if_true]
   exact h2.put s0 s1 (Int.le_refl _) (by have:=h2.tot;omega)
  by_cases k1:x.kind=1
  ·have b1:(x.kind==1)=true:=by simp[k1]
   rw[b1]
   simp only[cond_true]
   obtain⟨a,b,c⟩:=hx.pass k1
   have hto:=egood.le30 (by omega) x.to
   have e2:cC .registerTitle .int (jI .registerTitle .int m (RT x.right x.since)) (RT x.right x.to)=gE (bk m x.right) x.since 0 x.to:=by
    have:=congrFun (congrFun edel x.right) x.to
    simpa[bk]using this
   have hto':0≤gE (bk m x.right) x.since 0 x.to∧gE (bk m x.right) x.since 0 x.to≤2147483648:=by
    rw[edel]at hto;simpa using hto
   refine⟨⟨(fun h=>by cases h),(fun _ h=>by cases h)⟩,_,rfl,?_⟩
   have hb:bk (cS x (bk m x.right x.since) (jI .registerTitle .int m (RT x.right x.since)))=mA x (bk m):=by
    unfold cS
    rw[e2,bQ (by omega) (by omega),xy,edel]
    funext r
    unfold mA
    by_cases h:r=x.right
    ·subst h
     simp only[if_true]
     unfold xx
     rw[if_neg hn,if_pos k1]
    ·simp only[if_neg h]
   exact⟨hstep _ (by unfold cS;exact(my _ _ _ kdel).1) hb,hb⟩
  ·have b1:(x.kind==1)=false:=by simpa using k1
   rw[b1]
   simp only[cond_false]
   by_cases k2:x.kind=2
   ·have b2:(x.kind==2)=true:=by simp[k2]
    rw[b2]
    simp only[cond_true]
    obtain⟨p1,p2,p3⟩:=C2 (hx.split k2) hv.1 hv.2 kdel (M:=1073741824 - bk m x.right x.since) (by omega) egood
    refine⟨⟨(fun h=>by cases h),fun _ _=>⟨fun _=>p1,(fun h=>by cases h)⟩⟩,_,rfl,?_⟩
    have hb:bk (cd x (bk m x.right x.since) (jI .registerTitle .int m (RT x.right x.since)))=mA x (bk m):=by
     rw[p3,edel]
     funext r
     unfold mA
     by_cases h:r=x.right
     ·subst h
      simp only[if_true]
      unfold xx
      rw[if_neg hn,if_neg k1,if_pos k2]
     ·simp only[if_neg h]
    exact⟨hstep _ p2 hb,hb⟩
   ·have b2:(x.kind==2)=false:=by simpa using k2
    rw[b2]
    simp only[cond_false]
    have k3:x.kind=3:=by rcases hx.kind with h|h|h|h <;>omega
    have b3:(x.kind==3)=true:=by simp[k3]
    rw[b3]
    simp only[cond_true]
    refine⟨⟨(fun h=>by cases h),fun _ _=>⟨(fun h=>by cases h),(fun _ h=>by cases h)⟩⟩,_,rfl,?_⟩
    have hb:bk (jI .registerTitle .int m (RT x.right x.since))=mA x (bk m):=by
     rw[edel]
     funext r
     unfold mA
     by_cases h:r=x.right
     ·subst h
      simp only[if_true]
      unfold xx
      rw[if_neg hn,if_neg k1,if_neg k2]
     ·simp only[if_neg h]
    exact⟨hstep _ kdel hb,hb⟩
theorem wa {d:District}(ds:List Deed):∀ (l:List Deed),(∀ x∈l,Fit d x∧x.kind≠4)→∀ (e:List Int) (m:BM),MapOk d m→(e.length+l.length)*8≤im→
  okL (bE ds) (cT ds) l (e,m)∧∃ m',eY (bE ds) l (e,m)=.inr (e++C3 l (bk m),m')∧MapOk d m'∧bk m'=FA l (bk m)
 | [],_,e,m,hm,_=>⟨trivial,m,by simp[eY,C3],hm,rfl⟩
 |x::l,h,e,m,hm,hB=>by
  simp only[List.length_cons]at hB
  obtain⟨h1,h2⟩:=h x List.mem_cons_self
  obtain⟨q1,m1,q2,q3,q4⟩:=H9 (ds:=ds) h1 h2 (e:=e) hm (by omega)
  have hlen:(e++(if bk m x.right x.since=0 then [x.no]else [])).length≤e.length+1:=by split <;>simp
  obtain⟨r1,m2,r2,r3,r4⟩:=wa ds l (fun y hy=>h y (List.mem_cons_of_mem _ hy)) (e++(if bk m x.right x.since=0 then [x.no]else [])) m1 q3 (by omega)
  refine⟨⟨q1,fun s hs=>by rw[q2]at hs;cases hs;exact r1⟩,m2,?_,r3,?_⟩
  ·simp only[eY,q2]
   rw[r2,q4,List.append_assoc];rfl
  ·rw[r4,q4];rfl
def B0 (d:District):Int→Int→Int:=fun r f=>if 0≤r∧r< (d.rights.length:Int)∧(d.rights.getD r.toNat default).kind=1∧(d.rights.getD r.toNat default).farm=f then(d.rights.getD r.toNat default).litres else 0
structure TakeOk (d:District)(x:Right):Prop where
 f0:0≤x.farm
 f1:x.farm< (d.farms.length:Int)
 l0:1≤x.litres
 l1:x.litres≤1073741824
theorem H_ {d:District}(h:b9 d=0){k:Nat}(hk:k<d.rights.length)(ht:(d.rights.getD k default).kind=1):TakeOk d (d.rights.getD k default):=by
 have:=((yQ d).1 h).2.2.2.2.2.2.2.1 k hk
 unfold d8 at this
 rw[la]at this
 have h2:gB d (d.rights.getD k default)=true:=by
  cases h3:gB d (d.rights.getD k default)with
  |true=>rfl
  |false=>rw[h3]at this;cases this
 unfold gB at h2
 cases h4:((!(cp (d.rights.getD k default).farm (d.farms.length:Int))) ||(!(cp (d.rights.getD k default).reach (d.reaches.length:Int)))) ||(!(ar ([0,(d.rights.getD k default).since,(d.rights.getD k default).to,(IntKind.i64.wrap (d.hours - 1))])))with
 |true=>rw[h4]at h2;cases h2
 |false=>
  rw[h4,show((d.rights.getD k default).kind==1)=true by rw[ht];rfl]at h2
  simp only[cond_true,cond_false,Bool.and_eq_true]at h2
  simp only[Bool.or_eq_false_iff,Bool.not_eq_false']at h4
  have h5:=h4.1.1
  unfold cp at h5
  simp only[Bool.and_eq_true,decide_eq_true_eq]at h5
  have h6:=xi h2.1.2
  exact⟨by omega,by omega,by omega,by omega⟩
theorem K3 {d:District}(h:b9 d=0)(r:Int):∃ L,L≤1073741824∧Good d.farms.length L (B0 d r):=by
 by_cases hr:0≤r∧r< (d.rights.length:Int)∧(d.rights.getD r.toNat default).kind=1
 ·have ht:=H_ h (k:=r.toNat) (by omega) hr.2.2
  have hl:=ht.l0
  refine⟨(d.rights.getD r.toNat default).litres,ht.l1,?_⟩
  have e:B0 d r=gE (fun _=>0) (d.rights.getD r.toNat default).farm (d.rights.getD r.toNat default).litres:=by
   funext f
   unfold B0 gE
   by_cases hf:f=(d.rights.getD r.toNat default).farm
   ·rw[if_pos ⟨hr.1,hr.2.1,hr.2.2,hf.symm⟩,if_pos hf]
   ·rw[if_neg (fun h=>hf h.2.2.2.symm),if_neg hf]
  have t0:∀ n,tot n (fun _=>0)=0:=fun n=>by
   induction n with
   |zero=>rfl
   |succ n ih=>unfold tot;rw[ih];rfl
  rw[e]
  exact Good.put (L:=0) ⟨fun _=>Int.le_refl _,fun f hf=>absurd rfl hf,by rw[t0];exact Int.le_refl _⟩ ht.f0 ht.f1 (by omega) (by rw[t0];omega)
 ·refine⟨0,by omega,?_⟩
  have e:B0 d r=fun _=>0:=by
   funext f
   unfold B0
   rw[if_neg (fun h=>hr ⟨h.1,h.2.1,h.2.2.1⟩)]
  have t0:∀ n,tot n (fun _=>0)=0:=fun n=>by
   induction n with
   |zero=>rfl
   |succ n ih=>unfold tot;rw[ih];rfl
  rw[e]
  exact⟨fun _=>Int.le_refl _,fun f hf=>absurd rfl hf,by rw[t0];exact Int.le_refl _⟩
theorem FB {d:District}(h:b9 d=0):∃ m,ax (bO d) d.rights.length 0 []=.inr m∧MapOk d m∧bk m=B0 d:=by
 obtain⟨m,h1,h2,h3⟩:=mT (step:=bO d) (fun k (m:BM) =>(fM m).Nodup∧bk m=fun r f=>if r< (k:Int)then B0 d r f else 0) d.rights.length 0 ([]:BM) ⟨by simp[fM],by
   funext r f
   by_cases hr:r< ((0:Nat):Int)
   ·rw[if_pos hr];unfold B0 bk;rw[if_neg (by omega)];rfl
   ·rw[if_neg hr];rfl⟩ (fun j m _ hj ⟨j1,j2⟩ =>by
  rw[Nat.zero_add]at hj
  unfold bO
  by_cases hk:(d.rights.getD j default).kind=1
  ·rw[show((d.rights.getD j default).kind==1)=true by rw[hk];rfl]
   refine⟨_,rfl,(my _ _ _ j1).1,?_⟩
   rw[xy,j2]
   funext r f
   by_cases hr:r=(j:Int)
   ·subst hr
    simp only[if_true]
    unfold gE B0
    dsimp only
    rw[if_pos (by omega:(j:Int) < ((j+1:Nat):Int)),Int.toNat_natCast]
    by_cases hf:f=(d.rights.getD j default).farm
    ·rw[if_pos hf,if_pos ⟨by omega,by omega,hk,hf.symm⟩]
    ·rw[if_neg hf,if_neg (by omega),if_neg (fun h=>hf h.2.2.2.symm)]
   ·simp only[if_neg hr]
    by_cases h2:r< (j:Int)
    ·rw[if_pos h2,if_pos (by omega)]
    ·rw[if_neg h2,if_neg (by omega)]
  ·rw[show((d.rights.getD j default).kind==1)=false by simpa using hk]
   refine⟨_,rfl,j1,?_⟩
   rw[j2]
   funext r f
   by_cases hr:r=(j:Int)
   ·subst hr
    rw[if_neg (by omega),if_pos (by omega)]
    unfold B0
    rw[if_neg (fun h=>hk (by rw[Int.toNat_natCast]at h;exact h.2.2.1))]
   ·by_cases h2:r< (j:Int)
    ·rw[if_pos h2,if_pos (by omega)]
    ·rw[if_neg h2,if_neg (by omega)])
 have e:bk m=B0 d:=by
  rw[h3]
  funext r f
  split
  ·rfl
  ·unfold B0;rw[if_neg (by omega)]
 refine⟨m,h1,⟨h2,fun r=>?_⟩,e⟩
 rw[e];exact K3 h r
theorem wb {d:District}(h:b9 d=0){ds:List Deed}(hd:∀ x∈ds,Fit d x∧x.kind≠4)(hl:ds.length≤512):
  eV d ds∧∃ m,cF d ds=(m,qD (C3 ds (B0 d)))∧MapOk d m∧bk m=FA ds (B0 d):=by
 obtain⟨m0,e0,o0,b0⟩:=FB h
 obtain⟨q1,m1,q2,q3,q4⟩:=wa (d:=d) ds ds hd [] m0 o0 (by simp only[List.length_nil];unfold im;omega)
 rw[List.nil_append]at q2
 rw[b0]at q2 q4
 refine⟨fun _ z hz=>?_,m1,?_,q3,q4⟩
 ·rw[e0]at hz;cases hz
  refine⟨Ft ds,?_⟩
  rw[oy];exact q1
 ·unfold cF
  rw[e0,oy]
  simp only[q2]
end Go.Sx
end
section
namespace Go.Proofs
open Go.Shelf
def Tryz.sortLh_ren:Go.Shelf.Ren:=⟨fun|6=>50|15=>81|14=>80|28=>112|29=>113|20=>104|21=>105|22=>106|23=>107|24=>108|25=>109|26=>110|27=>111|46=>136|47=>137|48=>138|49=>139|50=>140|57=>149|n=>n,fun|22=>44|24=>67|25=>100|3=>3|39=>116|0=>0|53=>162|55=>164|4=>4|46=>156|45=>155|50=>78|5=>5|9=>9|66=>184|70=>187|76=>195|77=>192|n=>n,fun|n=>n⟩
theorem Tryz.sortLh:Go.Proofs.SlLaysF0.n6 Tryz.prog Tryz.sortLh_ren:= {
 mixed:=by kernel_rfl
 f6:=⟨Tryz.f50.name,by decide,Tryz.func50.trans (congrArg some (by kernel_rfl))⟩
 f14:=⟨Tryz.f80.name,by decide,Tryz.func80.trans (congrArg some (by kernel_rfl))⟩
 f15:=Tryz.func81.trans (congrArg some (by kernel_rfl))
 f20:=⟨Tryz.f104.name,by decide,Tryz.func104.trans (congrArg some (by kernel_rfl))⟩
 f21:=⟨Tryz.f105.name,by decide,Tryz.func105.trans (congrArg some (by kernel_rfl))⟩
 f22:=⟨Tryz.f106.name,by decide,Tryz.func106.trans (congrArg some (by kernel_rfl))⟩
 f23:=⟨Tryz.f107.name,by decide,Tryz.func107.trans (congrArg some (by kernel_rfl))⟩
 f24:=⟨Tryz.f108.name,by decide,Tryz.func108.trans (congrArg some (by kernel_rfl))⟩
 f25:=⟨Tryz.f109.name,by decide,Tryz.func109.trans (congrArg some (by kernel_rfl))⟩
 f26:=⟨Tryz.f110.name,by decide,Tryz.func110.trans (congrArg some (by kernel_rfl))⟩
 f27:=⟨Tryz.f111.name,by decide,Tryz.func111.trans (congrArg some (by kernel_rfl))⟩
 f28:=Tryz.func112.trans (congrArg some (by kernel_rfl))
 f29:=Tryz.func113.trans (congrArg some (by kernel_rfl))
 f46:=⟨Tryz.f136.name,by decide,Tryz.func136.trans (congrArg some (by kernel_rfl))⟩
 f47:=Tryz.func137.trans (congrArg some (by kernel_rfl))
 f48:=Tryz.func138.trans (congrArg some (by kernel_rfl))
 f49:=⟨Tryz.f139.name,by decide,Tryz.func139.trans (congrArg some (by kernel_rfl))⟩
 f50:=⟨Tryz.f140.name,by decide,Tryz.func140.trans (congrArg some (by kernel_rfl))⟩
 f57:=⟨Tryz.f149.name,by decide,Tryz.func149.trans (congrArg some (by kernel_rfl))⟩
 t0:=Tryz.underlying0
 a0:=Tryz.isAgg0
 z0:=Tryz.sizeOf0
 v0:=Tryz.zeroValue0
 t3:=Tryz.underlying3
 a3:=Tryz.isAgg3
 z3:=Tryz.sizeOf3
 v3:=Tryz.zeroValue3
 t4:=Tryz.underlying4
 a4:=Tryz.isAgg4
 z4:=Tryz.sizeOf4
 v4:=Tryz.zeroValue4
 t5:=Tryz.underlying5
 a5:=Tryz.isAgg5
 z5:=Tryz.sizeOf5
 v5:=Tryz.zeroValue5
 t9:=Tryz.underlying9
 a9:=Tryz.isAgg9
 z9:=Tryz.sizeOf9
 v9:=Tryz.zeroValue9
 t22:=Tryz.underlying44
 a22:=Tryz.isAgg44
 z22:=Tryz.sizeOf44
 v22:=Tryz.zeroValue44
 t25:=Tryz.underlying100
 a25:=Tryz.isAgg100
 z25:=Tryz.sizeOf100
 v25:=Tryz.zeroValue100
 t39:=Tryz.underlying116
 a39:=Tryz.isAgg116
 z39:=Tryz.sizeOf116
 v39:=Tryz.zeroValue116
 t45:=Tryz.underlying155
 a45:=Tryz.isAgg155
 z45:=Tryz.sizeOf155
 v45:=Tryz.zeroValue155
 t46:=Tryz.underlying156
 a46:=Tryz.isAgg156
 z46:=Tryz.sizeOf156
 v46:=Tryz.zeroValue156
 t50:=Tryz.underlying78
 a50:=Tryz.isAgg78
 z50:=Tryz.sizeOf78
 v50:=Tryz.zeroValue78
 t53:=Tryz.underlying162
 a53:=Tryz.isAgg162
 z53:=Tryz.sizeOf162
 v53:=Tryz.zeroValue162
 t55:=Tryz.underlying164
 a55:=Tryz.isAgg164
 z55:=Tryz.sizeOf164
 v55:=Tryz.zeroValue164
 t66:=Tryz.underlying184
 a66:=Tryz.isAgg184
 z66:=Tryz.sizeOf184
 v66:=Tryz.zeroValue184
 t70:=Tryz.underlying187
 a70:=Tryz.isAgg187
 z70:=Tryz.sizeOf187
 v70:=Tryz.zeroValue187
 t76:=Tryz.underlying195
 a76:=Tryz.isAgg195
 z76:=Tryz.sizeOf195
 v76:=Tryz.zeroValue195
 t77:=Tryz.underlying192
 a77:=Tryz.isAgg192
 z77:=Tryz.sizeOf192
 v77:=Tryz.zeroValue192}
end Go.Proofs
end
section
namespace Go.Sx
open Go.RowKit Go.Shelf Go.Lib Go.Sort Go.Proofs
set_option maxRecDepth 100000
noncomputable def nY:List SV→List Ob→Option HCon:=ld .holding 51 [] bN
@[go_sem] theorem FC {l0:List Holding}:nY [.os 0,.fn 51 [] []] [.row .holding l0]=some (dA (apart bN l0) (.tup []) [.row .holding (srt bN l0)]):=u3
theorem u4:uB .holding:=fun x s hs=>by
 simp only[cellsOf,List.mem_cons,List.not_mem_nil,or_false]at hs
 rcases hs with rfl|rfl|rfl|rfl
 all_goals exact⟨_,rfl,rfl⟩
theorem sn (x y:Holding):nc (.agg (cellsOf .holding x):: .agg (cellsOf .holding y)::[])=some (.det True (.v (.int .i64 (bN x y)))):=by
 simp only[go_sem,Nat.reduceBEq]
theorem xz:FnOkO Tryz.prog 50 nY:=
 y9 (k:=.holding) Tryz.sortLh (fun w=>by kernel_rfl) (fun w=>by kernel_rfl) u4 (by decide) (g:=51) (caps:=[]) rI (cf:=bN) sn sf (fun s hs=>by cases hs) ⟨default,default,sn _ _⟩
end Go.Sx
end
section
namespace Go.Sx
open Go.Proofs
set_option maxRecDepth 100000
set_option linter.unusedSimpArgs false
theorem wc {p:Prop}(h:p:=by(first|done|(repeat' (first|with_reducible refine And.intro ?_ ?_|((with_reducible show _≠_);first|assumption|omega|(simp_all [bR,bY];done) |grind) |with_reducible intro _)) <;>(first|done|with_reducible exact Empty.elim ‹Empty› |with_reducible assumption|rfl|omega|assumption|decide|exact fk [0,1,2,3,7] |exact fk [0,1,2,3,4] |exact czl|(simp only[*,cond_true,cond_false,Bool.not_true,Bool.not_false,go_sem,Nat.reduceBEq,Nat.reduceLeDiff,Nat.reduceLT,decide_true,Nat.reduceAdd,Nat.reduceSub,Nat.reduceMul,Int.reduceLE,Int.reduceLT,Int.reduceToNat,Int.reduceNeg,reduceCtorEq];(repeat' (first|with_reducible refine And.intro ?_ ?_|((with_reducible show _≠_);first|assumption|omega|(simp_all [bR,bY];done) |grind) |with_reducible intro _)) <;>(first|done|assumption|rfl|omega|decide|exact fk [0,1,2,3,7] |exact fk [0,1,2,3,4] |(simp_all [bR,bY];done))) |(simp_all [okI,bR,bY];done) |(simp_all [bR,bY];(first|done|exact fk2 [0,1,2,3,7] |exact fk2 [0,1,2,3,4])) |exact fk2 [0,1,2,3,7] |exact fk2 [0,1,2,3,4]))):p:=h
theorem clQ {p:Prop}(h:p:=by((repeat' (first|with_reducible refine And.intro ?_ ?_|with_reducible intro _)) <;>(first|done|with_reducible exact Empty.elim ‹Empty› |with_reducible assumption|rfl|((try simp only[xf,EU]at *);first|with_reducible assumption|(simp_all only[bR,bY];done) |grind|(simp_all only[bR,bY];grind))))):p:=h
@[go_sem] def cG (a0:District)(a1:List Deed)(a2:Int)(a3:Int)(k_0:RegisterTitle×Int)(s_0:List Holding):Empty⊕(List Holding):=(bif(decide (k_0.2 > 0))then .inr (s_0++([({ right:=k_0.1.right,farm:=k_0.1.farm,litres:=k_0.2,rank:=(a0.rights.getD (Int.toNat k_0.1.right) (default:Right)).rank}:Holding)]))else .inr s_0)
def gF (a0:District)(a1:List Deed)(a2:Int)(a3:Int)(k_0:RegisterTitle×Int)(s_0:List Holding):Prop:=((decide (k_0.2 > 0))=true→((0≤k_0.1.right∧k_0.1.right< (a0.rights.length:Int))∧((s_0++([({ right:=k_0.1.right,farm:=k_0.1.farm,litres:=k_0.2,rank:=(a0.rights.getD (Int.toNat k_0.1.right) (default:Right)).rank}:Holding)])).length*32≤im)))
def aw (a0:District)(a1:List Deed)(a2:Int)(a3:Int):List Holding×Int:=(bif((aj a0 a1) !=0)then([],(aj a0 a1))else(bif((!(aB a2 0 (IntKind.i64.wrap (a0.hours - 1)))) ||(!(aB a3 0 1048576)))then([],1)else(match eY (cG a0 a1 a2 a3) ((cF a0 (bX a1 a2 a3)).1) ([])with| .inl x=>x.elim| .inr s_0=>((srt bN s_0),0))))
def dE (a0:District)(a1:List Deed)(a2:Int)(a3:Int):Prop:=((c7 a0 a1)∧((((aj a0 a1) !=0)=true→(([],(aj a0 a1))=(aw a0 a1 a2 a3)))∧(((aj a0 a1) !=0)=false→((((!(aB a2 0 (IntKind.i64.wrap (a0.hours - 1)))) ||(!(aB a3 0 1048576)))=true→(([],1)=(aw a0 a1 a2 a3)))∧(((!(aB a2 0 (IntKind.i64.wrap (a0.hours - 1)))) ||(!(aB a3 0 1048576)))=false→((dJ a1 a2 a3)∧((eV a0 (bX a1 a2 a3))∧(∀ L_0,L_0.Perm ((cF a0 (bX a1 a2 a3)).1)→(okL (cG a0 a1 a2 a3) (gF a0 a1 a2 a3) L_0 ([])∧(∀ s_0,eY (cG a0 a1 a2 a3) L_0 ([])=.inr s_0→((apart bN s_0)∧(((srt bN s_0),0)=(aw a0 a1 a2 a3)))))))))))))
@[go_sem] def lM:List SV→Option Con:=(pD .district fun a0=>(pR .deed fun a1=>(pI fun a2=>(pI fun a3=>(pE (.det (dE a0 a1 a2 a3) (.tup [.nw .holding ((aw a0 a1 a2 a3).1),.v (.int .i64 ((aw a0 a1 a2 a3).2))])))))))
theorem nZ:FnOk Tryz.prog 18 lM:=by
 have hG:ConsOk Tryz.prog (mkG [(15,fun l=>eo (dL [.st .district,.sl .deed] l)),(47,g6),(48,fun l=>iZ (dL [.st .district,.o] l)),(49,fun l=>gR (dL [.sl .deed,.o,.o] l))] [(50,nY)]):=aP (cgc (eU.norm [.st .district,.sl .deed]) (cgc iQ (cgc (lg.norm [.st .district,.o]) (cgc (jY.norm [.sl .deed,.o,.o]) cg0)))) (cgc xz cg0)
 refine rM [(.tmp 8,.holding)] mixed aC hG (fn:=Tryz.f18) (c:=ae Tryz.f18) (by kernel_rfl) (by kernel_rfl) (by kernel_rfl) (by kernel_rfl) (cr fun a0=>(fD fun a1=>(dU fun a2=>(dU fun a3=>(bj (fun hp=>?_))))))
 dsimp only[bf]at hp
 unfold dE at hp
 refine⟨Nat.le_of_ble_eq_true rfl,(fun id st=>bif Nat.beq id 0 then some (LCP (τ:=RegisterTitle×Int) (ρ:=Empty) (σ:=(List Holding)) 4 [.slot 8 (.row .holding ([]))] [0,1,2,3,4] (fun left_0 cur_0 s_0=>⟨[(4,.ptr 0 0),(8,.os 4),(41,.ptr 3 0)],[.cells (cellsOf .district a0),.mp .registerTitle .int ((cF a0 (bX a1 a2 a3)).1) (some (3,none)),.dead,.mi (some 1) (((cF a0 (bX a1 a2 a3)).1).length) left_0 cur_0,.row .holding s_0]⟩) (cG a0 a1 a2 a3) (gF a0 a1 a2 a3) ((cF a0 (bX a1 a2 a3)).1) ([]) ((·.elim)) ((·.elim)) (fun s_0=>⟨[(8,.os 4)],[.dead,.dead,.dead,.dead,.row .holding s_0]⟩) st)else none),?_,?_⟩
 ·unfold ae Tryz.f18
  simp only[ap,true_and,and_true]
  ·refine ER (dm .registerTitle,dm .int) 3 mixed aC hG (by kernel_rfl) (fun _=>rfl) fun left_0 cur_0 s_0 hp0=>⟨L0,al _,?_⟩
   ·by_cases hl0:left_0=[]
    ·subst hl0
     simp only[go_sem,Nat.reduceBEq,Nat.reduceLeDiff,Nat.reduceLT,decide_true,Nat.reduceAdd,Nat.reduceSub,Nat.reduceMul,Int.reduceLE,Int.reduceLT,Int.reduceToNat,Int.reduceNeg,reduceCtorEq,List.not_mem_nil]
     all_goals exact wc
    ·simp only[go_sem,Nat.reduceBEq,Nat.reduceLeDiff,Nat.reduceLT,decide_true,Nat.reduceAdd,Nat.reduceSub,Nat.reduceMul,Int.reduceLE,Int.reduceLT,Int.reduceToNat,Int.reduceNeg,reduceCtorEq,hl0]
     intro j hj0
     obtain⟨hlt0,hq0⟩:=hp0 j hj0
     unfold gF at hq0
     all_goals exact wc
 ·unfold ae Tryz.f18
  simp only[go_sem,Nat.reduceBEq,Nat.reduceLeDiff,Nat.reduceLT,decide_true,Nat.reduceAdd,Nat.reduceSub,Nat.reduceMul,Int.reduceLE,Int.reduceLT,Int.reduceToNat,Int.reduceNeg,reduceCtorEq]
  all_goals exact clQ
def ez (d:District)(l_:List Deed)(known:Int):List Int×Int:=(bif((aj d l_) !=0)then([],(aj d l_))else(bif(!(aB known 0 1048576))then([],1)else((cF d (bX l_ 4096 known)).2,0)))
def gG (d:District)(l_:List Deed)(known:Int):Prop:=((c7 d l_)∧(((aj d l_) !=0)=false→((!(aB known 0 1048576))=false→((dJ l_ 4096 known)∧(eV d (bX l_ 4096 known))))))
@[go_sem] def mB:List SV→Option Con:=(pD .district fun d=>(pR .deed fun l_=>(pI fun known=>(pE (.det (gG d l_ known) (.tup [.nw .int ((ez d l_ known).1),.v (.int .i64 ((ez d l_ known).2))]))))))
theorem qH:FnOk Tryz.prog 20 mB:=by
 have hG:ConsOk Tryz.prog (mkG [(15,fun l=>eo (dL [.st .district,.sl .deed] l)),(47,g6),(48,fun l=>iZ (dL [.st .district,.o] l)),(49,fun l=>gR (dL [.sl .deed,.o,.o] l))] []):=aP (cgc (eU.norm [.st .district,.sl .deed]) (cgc iQ (cgc (lg.norm [.st .district,.o]) (cgc (jY.norm [.sl .deed,.o,.o]) cg0)))) cg0
 refine rM [(.tmp 6,.int)] mixed aC hG (fn:=Tryz.f20) (c:=ae Tryz.f20) (by kernel_rfl) (by kernel_rfl) (by kernel_rfl) (by kernel_rfl) (cr fun d=>(fD fun l_=>(dU fun known=>(bj (fun hp=>?_)))))
 dsimp only[bf]at hp
 unfold gG at hp
 refine⟨Nat.le_of_ble_eq_true rfl,L0,al _,?_⟩
 ·unfold ae Tryz.f20
  try unfold ez
  simp only[go_sem,Nat.reduceBEq,Nat.reduceLeDiff,Nat.reduceLT,decide_true,Nat.reduceAdd,Nat.reduceSub,Nat.reduceMul,Int.reduceLE,Int.reduceLT,Int.reduceToNat,Int.reduceNeg,reduceCtorEq]
  all_goals exact cl
end Go.Sx
end
section
namespace Go.Sx
open Go.Proofs
def qI (d:District)(l:List Deed)(hour known:Int):Int→Int→Int:=FA (stS (mw l hour known)) (B0 d)
def FD (d:District)(B:Int→Int→Int)(r f:Nat):Option Holding:=if 0<B r f then some { right:=(r:Int),farm:=(f:Int),litres:=B r f,rank:=(d.rights.getD r default).rank}else none
def mC (d:District)(B:Int→Int→Int)(r:Nat):List Holding:=(List.range d.farms.length).filterMap (FD d B r)
def lh (d:District)(B:Int→Int→Int):List Holding:=(List.range d.rights.length).flatMap (mC d B)
theorem kB {d:District}{B:Int→Int→Int}{r:Nat}{x:Holding}:x∈mC d B r↔∃ f:Nat,f<d.farms.length∧0<B r f∧x= { right:=(r:Int),farm:=(f:Int),litres:=B r f,rank:=(d.rights.getD r default).rank}:=by
 unfold mC FD
 rw[List.mem_filterMap]
 constructor
 ·rintro⟨f,hf,h⟩
  rw[List.mem_range]at hf
  split at h
  ·rename_i h0
   exact⟨f,hf,h0,(Option.some.inj h).symm⟩
  ·cases h
 ·rintro⟨f,hf,h0,rfl⟩
  exact⟨f,List.mem_range.2 hf,by rw[if_pos h0]⟩
theorem rQ {d:District}{B:Int→Int→Int}{x:Holding}:x∈lh d B↔0≤x.right∧x.right< (d.rights.length:Int)∧0≤x.farm∧x.farm< (d.farms.length:Int)∧0<x.litres∧x.litres=B x.right x.farm∧x.rank=(d.rights.getD x.right.toNat default).rank:=by
 unfold lh
 rw[List.mem_flatMap]
 constructor
 ·rintro⟨r,hr,hx⟩
  rw[List.mem_range]at hr
  obtain⟨f,hf,h0,rfl⟩:=kB.1 hx
  exact⟨by simp only;omega,by simp only;omega,by simp only;omega,by simp only;omega,h0,rfl,by simp only[Int.toNat_natCast]⟩
 ·rintro⟨a,b,c,e,h0,h1,h2⟩
  refine⟨x.right.toNat,List.mem_range.2 (by omega),kB.2 ⟨x.farm.toNat,by omega,?_,?_⟩⟩
  ·rw[Int.toNat_of_nonneg a,Int.toNat_of_nonneg c];omega
  ·rw[Int.toNat_of_nonneg a,Int.toNat_of_nonneg c,←h1,←h2]
theorem za:∀ n:Nat,(List.range n).Pairwise (· < ·):=fun n=>List.pairwise_lt_range
theorem qJ (d:District)(B:Int→Int→Int):(lh d B).Pairwise hlt:=by
 unfold lh
 rw[List.pairwise_flatMap]
 refine⟨fun r _=>?_,?_⟩
 ·unfold mC
  rw[List.pairwise_filterMap]
  refine(za _).imp fun {a b} hab x hx y hy=>?_
  unfold FD at hx hy
  split at hx
  ·split at hy
   ·cases hx;cases hy
    exact Or.inr ⟨rfl,Or.inl (by show(a:Int) < (b:Int);omega)⟩
   ·cases hy
  ·cases hx
 ·refine(za _).imp fun {a b} hab x hx y hy=>?_
  obtain⟨f,_,_,rfl⟩:=kB.1 hx
  obtain⟨g,_,_,rfl⟩:=kB.1 hy
  simp only[hlt,rJ,and_false,or_false];omega
theorem Ia (x:Holding):¬hlt x x:=by simp only[hlt,rJ,and_false,or_false];omega
theorem C4 {l:List Holding}(h:l.Pairwise hlt):l.Nodup:=h.imp fun {a b} hab e=>by subst e;exact Ia _ hab
theorem zb {α β:Type}(f:α→List β)(k:Nat):∀ l:List α,(∀ a∈l,(f a).length≤k)→(l.flatMap f).length≤l.length*k
 | [],_=>by simp
 |a::l,h=>by
  have h1:=h a List.mem_cons_self
  have h2:=zb f k l fun b hb=>h b (List.mem_cons_of_mem _ hb)
  rw[List.flatMap_cons,List.length_append,List.length_cons,Nat.add_mul,Nat.one_mul];omega
theorem C5 {d:District}(hr:Right1 d)(B:Int→Int→Int):(lh d B).length≤153600:=by
 have h1:=zb (mC d B) 600 (List.range d.rights.length) fun r _=>Nat.le_trans (List.length_filterMap_le _ _) (by rw[List.length_range];exact hr.farms)
 rw[List.length_range]at h1
 have:=hr.rights
 show((List.range d.rights.length).flatMap (mC d B)).length≤_
 have:d.rights.length*600≤256*600:=Nat.mul_le_mul_right _ this
 omega
def li (d:District)(k:RegisterTitle×Int):Option Holding:=if 0<k.2 then some { right:=k.1.right,farm:=k.1.farm,litres:=k.2,rank:=(d.rights.getD (Int.toNat k.1.right) (default:Right)).rank}else none
theorem xA (d:District)(l:List Deed)(h n:Int):∀ (L:BM) (s:List Holding),eY (cG d l h n) L s=.inr (s++L.filterMap (li d))
 | [],s=>by simp[eY]
 |k::L,s=>by
  by_cases hk:0<k.2
  ·have e:li d k=some { right:=k.1.right,farm:=k.1.farm,litres:=k.2,rank:=(d.rights.getD (Int.toNat k.1.right) (default:Right)).rank}:=by unfold li;rw[if_pos hk]
   rw[List.filterMap_cons_some e]
   simp only[eY]
   unfold cG
   rw[decide_eq_true (show k.2 > 0 from hk)]
   simp only[cond_true]
   have:=xA d l h n L (s++[{ right:=k.1.right,farm:=k.1.farm,litres:=k.2,rank:=(d.rights.getD (Int.toNat k.1.right) (default:Right)).rank}])
   unfold cG at this
   rw[this,List.append_assoc];rfl
  ·have e:li d k=none:=by unfold li;rw[if_neg hk]
   rw[List.filterMap_cons_none e]
   simp only[eY]
   unfold cG
   rw[decide_eq_false (show ¬k.2 > 0 from hk)]
   simp only[cond_false]
   have:=xA d l h n L s
   unfold cG at this
   exact this
theorem AM (d:District)(l:List Deed)(h n:Int):∀ (L:BM) (s:List Holding),(∀ k∈L,0<k.2→0≤k.1.right∧k.1.right< (d.rights.length:Int))→(s.length+(L.filterMap (li d)).length)*32≤im→okL (cG d l h n) (gF d l h n) L s
 | [],_,_,_=>trivial
 |k::L,s,hk,hB=>by
  by_cases h0:0<k.2
  ·have e:li d k=some { right:=k.1.right,farm:=k.1.farm,litres:=k.2,rank:=(d.rights.getD (Int.toNat k.1.right) (default:Right)).rank}:=by unfold li;rw[if_pos h0]
   rw[List.filterMap_cons_some e,List.length_cons]at hB
   refine⟨fun _=>⟨hk k List.mem_cons_self h0,by rw[List.length_append];simp only[List.length_cons,List.length_nil];omega⟩,fun s' hs=>?_⟩
   unfold cG at hs
   rw[decide_eq_true (show k.2 > 0 from h0)]at hs
   cases hs
   exact AM d l h n L _ (fun q hq=>hk q (List.mem_cons_of_mem _ hq)) (by rw[List.length_append];simp only[List.length_cons,List.length_nil];omega)
  ·have e:li d k=none:=by unfold li;rw[if_neg h0]
   rw[List.filterMap_cons_none e]at hB
   refine⟨fun h=>absurd (of_decide_eq_true h) h0,fun s' hs=>?_⟩
   unfold cG at hs
   rw[decide_eq_false (show ¬k.2 > 0 from h0)]at hs
   cases hs
   exact AM d l h n L _ (fun q hq=>hk q (List.mem_cons_of_mem _ hq)) hB
theorem BT {d:District}{r:Int}(hr:¬ (0≤r∧r< (d.rights.length:Int))):∀ (ds:List Deed) (B:Int→Int→Int),(∀ x∈ds,Fit d x∧x.kind≠4)→FA ds B r=B r
 | [],B,_=>rfl
 |x::ds,B,h=>by
  have h1:=h x List.mem_cons_self
  have h2:=h1.1.held h1.2
  show FA ds (mA x B) r=_
  rw[BT hr ds _ fun y hy=>h y (List.mem_cons_of_mem _ hy)]
  unfold mA
  rw[if_neg (by omega)]
theorem uG {d:District}{l:List Deed}(h:Deeds d l)(hour known:Int):∀ x∈stS (mw l hour known),Fit d x∧x.kind≠4:=fun x hx=>by
 have hx:=H2.1 hx
 unfold mw at hx
 rw[List.mem_filter]at hx
 refine⟨h.fit x hx.1,fun e=>?_⟩
 have:=hx.2
 rw[e]at this
 simp at this
theorem BU (l:List Deed):(stS l).length=l.length:=(ox (nS l)).symm
theorem Ib {α:Type}{a b:List α}(ha:a.Nodup)(hb:b.Nodup)(h:∀ x,x∈a↔x∈b):a.Perm b:=(List.perm_ext_iff_of_nodup ha hb).2 h
theorem C6 {d:District}{l:List Deed}(h:Deeds d l){m:BM}(hm:MapOk d m){hour known:Int}(hb:bk m=qI d l hour known):
  (m.filterMap (li d)).Perm (lh d (qI d l hour known))∧∀ k∈m,0<k.2→0≤k.1.right∧k.1.right< (d.rights.length:Int):=by
 have hget:∀ (t:RegisterTitle) (v:Int),(t,v)∈m→bk m t.right t.farm=v:=fun t v htv=>by
  have:=(uD hm.nodup).2 htv
  show(ej m { right:=t.right,farm:=t.farm}).getD _=v
  have e:({ right:=t.right,farm:=t.farm}:RegisterTitle)=t:=rfl
  rw[e,this];rfl
 have hrng:∀ k∈m,0<k.2→0≤k.1.right∧k.1.right< (d.rights.length:Int):=fun k hk h0=>by
  rcases Classical.em (0≤k.1.right∧k.1.right< (d.rights.length:Int))with hr|hr
  ·exact hr
  ·have e:=hget k.1 k.2 hk
   rw[hb]at e
   unfold qI at e
   rw[BT hr _ _ (uG h hour known)]at e
   unfold B0 at e
   rw[if_neg (fun h=>hr ⟨h.1,h.2.1⟩)]at e
   omega
 refine⟨Ib ?_ (C4 (qJ _ _)) fun x=>?_,hrng⟩
 ·rw[List.Nodup,List.pairwise_filterMap]
  have:m.Pairwise fun a b=>a.1≠b.1:=by
   have:=hm.nodup
   unfold fM at this
   rw[List.Nodup,List.pairwise_map]at this
   exact this
  refine this.imp fun {a b} hab x hx y hy=>?_
  unfold li at hx hy
  split at hx
  ·split at hy
   ·cases hx;cases hy
    intro e
    simp only[Holding.mk.injEq]at e
    refine hab ?_
    obtain⟨⟨a1,a2⟩,a3⟩:=a
    obtain⟨⟨b1,b2⟩,b3⟩:=b
    simp only at e
    simp[e.1,e.2.1]
   ·cases hy
  ·cases hx
 ·rw[List.mem_filterMap,rQ]
  constructor
  ·rintro⟨k,hk,hx⟩
   unfold li at hx
   split at hx
   ·rename_i h0
    cases hx
    have e:=hget k.1 k.2 hk
    obtain⟨a,b⟩:=hrng k hk h0
    obtain⟨L,_,hg⟩:=hm.good k.1.right
    obtain⟨c,f⟩:=hg.sup k.1.farm (by rw[e];omega)
    exact⟨a,b,c,f,h0,by simp only;rw[←hb,e],rfl⟩
   ·cases hx
  ·rintro⟨a,b,c,f,h0,h1,h2⟩
   rw[←hb]at h1
   have h3:ej m (RT x.right x.farm)=some x.litres:=by
    have e:bk m x.right x.farm=(ej m (RT x.right x.farm)).getD 0:=rfl
    cases hg:ej m (RT x.right x.farm)with
    |none=>rw[e,hg]at h1;simp at h1;omega
    |some v=>rw[e,hg]at h1;simp at h1;rw[h1]
   refine⟨(RT x.right x.farm,x.litres),(uD hm.nodup).1 h3,?_⟩
   unfold li
   rw[if_pos h0]
   simp only[Option.some.injEq]
   rw[←h2]
open Go.Shelf Go.Sort in
theorem wd {d:District}{B:Int→Int→Int}{s:List Holding}(h:s.Perm (lh d B)):apart bN s∧srt bN s=lh d B:=by
 have e1:∀ x y,ltOf bN x y=true↔hlt x y:=fun x y=>by unfold ltOf;rw[decide_eq_true_eq,um]
 have e2:∀ x y,ltOf bN x y=false↔¬hlt x y:=fun x y=>by rw[←e1];simp
 have heq:∀ x∈lh d B,∀ y∈lh d B,¬hlt x y→¬hlt y x→x=y:=fun x hx y hy h1 h2=>by
  obtain⟨_,_,_,_,_,x1,x2⟩:=rQ.1 hx
  obtain⟨_,_,_,_,_,y1,y2⟩:=rQ.1 hy
  simp only[hlt,rJ,and_false,or_false]at h1 h2
  have q1:x.right=y.right:=by omega
  have q2:x.farm=y.farm:=by omega
  obtain⟨a,b,c,e⟩:=x
  obtain⟨a',b',c',e'⟩:=y
  simp only at q1 q2 x1 x2 y1 y2
  subst q1;subst q2
  rw[x1,x2,y1,y2]
 refine⟨fun x hx y hy h1 h2=>heq x (h.subset hx) y (h.subset hy) ((e2 x y).1 h1) ((e2 y x).1 h2),?_⟩
 unfold srt
 have hp:(s.mergeSort fun x y=>!(ltOf bN y x)).Perm (lh d B):=(List.mergeSort_perm _ _).trans h
 refine List.Perm.eq_of_pairwise (le:=fun x y=>(!ltOf bN y x)=true) ?_ ?_ ?_ hp
 ·intro x y hx hy h1 h2
  simp only[Bool.not_eq_true']at h1 h2
  exact heq x (hp.subset hx) y hy ((e2 x y).1 h2) ((e2 y x).1 h1)
 ·refine List.pairwise_mergeSort ?_ ?_ s
  ·intro a b c h1 h2
   simp only[Bool.not_eq_true']at h1 h2 ⊢
   exact sf.3 c b a h2 h1
  ·intro a b
   simp only[Bool.or_eq_true,Bool.not_eq_true']
   rcases Classical.em (hlt b a)with hh|hh
   ·refine .inr ((e2 _ _).2 fun h3=>?_)
    simp only[hlt,rJ,and_false,or_false]at hh h3;omega
   ·exact .inl ((e2 _ _).2 hh)
 ·refine(qJ d B).imp fun {a b} hab=>?_
  simp only[Bool.not_eq_true']
  refine(e2 _ _).2 fun h3=>?_
  simp only[hlt,rJ,and_false,or_false]at hab h3;omega
theorem n8 (d:District)(l:List Deed)(hour known:Int):dE d l hour known∧
  aw d l hour known=if aj d l≠0 then([],aj d l)else if 0≤hour∧hour<d.hours∧0≤known∧known≤1048576 then(lh d (qI d l hour known),0)else([],1):=by
 by_cases hc:aj d l=0
 ·have hD:=nX hc
  have hE:=((mv d l).1 hc).1
  have hh:=hD.right.hours
  have hh1:=hD.right.hours1
  have hw:((!(aB hour 0 (IntKind.i64.wrap (d.hours - 1)))) ||(!(aB known 0 1048576)))= !decide (0≤hour∧hour<d.hours∧0≤known∧known≤1048576):=by
   rw[bQ (by omega) (by omega),←Bool.not_and]
   congr 1
   rw[Bool.eq_iff_iff,Bool.and_eq_true,pr,pr,decide_eq_true_eq]
   omega
  obtain⟨c1,c2⟩:=sm l hour known hD.len
  have hlen:(stS (mw l hour known)).length≤512:=by rw[BU];exact Nat.le_trans (List.length_filter_le _ _) hD.len
  obtain⟨f1,m,f2,f3,f4⟩:=wb hE (uG hD hour known) hlen
  obtain⟨p1,p2⟩:=C6 hD f3 (hour:=hour) (known:=known) f4
  have key:∀ L:BM,L.Perm m→(L.filterMap (li d)).Perm (lh d (qI d l hour known)):=fun L hL=>(hL.filterMap _).trans p1
  have val:aw d l hour known=if 0≤hour∧hour<d.hours∧0≤known∧known≤1048576 then(lh d (qI d l hour known),0)else([],1):=by
   unfold aw
   rw[hc,hw,c2,f2]
   simp only[bne_self_eq_false,cond_false]
   by_cases hg:0≤hour∧hour<d.hours∧0≤known∧known≤1048576
   ·rw[decide_eq_true hg,if_pos hg]
    simp only[Bool.not_true,cond_false]
    rw[xA,List.nil_append]
    simp only
    rw[(wd (key m (List.Perm.refl _))).2]
   ·rw[decide_eq_false hg,if_neg hg];rfl
  refine⟨⟨g9 d l,(fun h=>by rw[hc]at h;cases h),fun _=>⟨fun h=>?_,fun h=>?_⟩⟩,by rw[if_neg (by simp[hc])];exact val⟩
  ·rw[hw]at h
   rw[val,if_neg (by simpa only[Bool.not_eq_true',decide_eq_false_iff_not]using h)]
  ·rw[hw]at h
   have hg:0≤hour∧hour<d.hours∧0≤known∧known≤1048576:=by simpa using h
   rw[c2,f2]
   refine⟨c1,f1,fun L hL=>?_⟩
   have hk:=key L hL
   refine⟨AM d l hour known L [] (fun k hk=>p2 k (hL.subset hk)) ?_,fun s hs=>?_⟩
   ·have h1:=hk.length_eq
    have h2:=C5 hD.right (qI d l hour known)
    rw[h1,List.length_nil]
    unfold im
    omega
   ·rw[xA,List.nil_append]at hs
    cases hs
    obtain⟨s1,s2⟩:=wd hk
    exact⟨s1,by rw[s2,val,if_pos hg]⟩
 ·have hne:(aj d l !=0)=true:=by simpa using hc
  have val:aw d l hour known=([],aj d l):=by unfold aw;rw[hne];rfl
  refine⟨⟨g9 d l,(fun _=>val.symm),fun h=>?_⟩,by rw[if_pos hc];exact val⟩
  rw[hne]at h;cases h
end Go.Sx
end
section
namespace Go.Sx
open Go.Proofs
set_option maxRecDepth 100000
set_option linter.unusedSimpArgs false
def aT:District:=({ name:=(ByteArray.mk #[]),hours:=4,tank:=({ cap:=9,start:=9}:Tank),reaches:=[({ name:=(ByteArray.mk #[]),up:=(-1),delay:=1,cap:=50,bank:=50,siphon:=0,evap:=({ lo:=0,hi:=0}:Range),seep:=(({ n:=0,d:=1}:Ratio),({ n:=0,d:=1}:Ratio))}:Reach)],farms:=[({ name:=(ByteArray.mk #[]),reach:=0,area:=0,crop:=(-1)}:Farm),({ name:=(ByteArray.mk #[]),reach:=0,area:=0,crop:=(-1)}:Farm),({ name:=(ByteArray.mk #[]),reach:=0,area:=0,crop:=(-1)}:Farm)],crops:=[],rights:=[({ name:=(ByteArray.mk #[]),kind:=1,farm:=0,reach:=0,rank:=7,litres:=5,since:=0,to:=3,every:=1,length:=1}:Right)],duties:=[],wells:=[]}:District)
@[go_sem] def oZ:List SV→Option Con:=(pE (.det True (.agg (cellsOf .district (aT)))))
theorem uH:FnOk Tryz.prog 33 oZ:=by
 have hG:ConsOk Tryz.prog (mkG [] []):=aP cg0 cg0
 refine cb [.st .district] mixed aC hG (fn:=Tryz.f33) (c:=ae Tryz.f33) (by kernel_rfl) (by kernel_rfl) (by kernel_rfl) (by kernel_rfl) (bj (fun hp=>?_))
 dsimp only[bf]at hp
 refine⟨Nat.le_of_ble_eq_true rfl,L0,al _,?_⟩
 ·unfold ae Tryz.f33
  try unfold aT
  simp only[go_sem,Nat.reduceBEq,Nat.reduceLeDiff,Nat.reduceLT,decide_true,Nat.reduceAdd,Nat.reduceSub,Nat.reduceMul,Int.reduceLE,Int.reduceLT,Int.reduceToNat,Int.reduceNeg,reduceCtorEq]
  all_goals exact cl
def iy:Ratio:=({ n:=1,d:=2}:Ratio)
@[go_sem] def qK:List SV→Option Con:=(pE (.det True (.agg [.v (.int .i64 ((iy).n)),.v (.int .i64 ((iy).d))])))
theorem u5:FnOk Tryz.prog 34 qK:=by
 have hG:ConsOk Tryz.prog (mkG [] []):=aP cg0 cg0
 refine Ea true mixed aC hG (fn:=Tryz.f34) (c:=ae Tryz.f34) (by kernel_rfl) (by kernel_rfl) (by kernel_rfl) (by kernel_rfl) (bj (fun hp=>?_))
 dsimp only[bf]at hp
 refine⟨Nat.le_of_ble_eq_true rfl,L0,al _,?_⟩
 ·unfold ae Tryz.f34
  try unfold iy
  simp only[go_sem,Nat.reduceBEq,Nat.reduceLeDiff,Nat.reduceLT,decide_true,Nat.reduceAdd,Nat.reduceSub,Nat.reduceMul,Int.reduceLE,Int.reduceLT,Int.reduceToNat,Int.reduceNeg,reduceCtorEq]
  all_goals exact cl
end Go.Sx
end
section
namespace Go.Sx
open Go.RowKit
def FE (n0 id:Nat):Ob→SV
 | .row k l=>bif Nat.ble n0 id then .rs k l else .any
 |_=>.any
def isV:SV→Bool
 | .v _=>true
 |_=>false
def u6 (n0:Nat)(h:List Ob):SV→SV
 | .v x=>.v x
 | .rs k l=>.rs k l
 | .agg l=>bif l.all isV then .agg l else .any
 | .os id=>FE n0 id (ag h id)
 |_=>.any
def u7 (n0:Nat)(h:List Ob):SV→SV
 | .tup l=>.tup (l.map (u6 n0 h))
 |s=>u6 n0 h s
def AN (n0:Nat)(own:Own):Own:=fun i=>if i<n0 then own i else none
section
variable {F:Nat→Prop}{own:Own}{w:World}{n0:Nat}{h:List Ob}
theorem qL {b:Nat}(hb:¬bP F own b):¬bP F (AN n0 own) b:=by
 rintro (hf| ⟨id,hd,e,hm⟩)
 ·exact hb (.inl hf)
 ·unfold AN at e
  split at e
  ·exact hb (.inr ⟨id,hd,e,hm⟩)
  ·cases e
theorem zc (hp:Hp F own w h):∀ (s:SV) (v:Value),Rel F own w s v→Rel F (AN n0 own) w (u6 n0 h s) v:=by
 intro s v hr
 cases s with
 |v x=>exact hr.over (.v x) fun b hb=>qL hb
 |rs k l=>exact hr.over .rs fun b hb=>qL hb
 |agg l=>
  simp only[u6]
  cases ha:l.all isV with
  |false=>exact .any _
  |true=>
   refine hr.over (.agg fun j s hj=>?_) fun b hb=>qL hb
   have:=List.all_eq_true.1 ha s (List.mem_of_getElem? hj)
   cases s <;>first|exact .v _|cases this
 |os id=>
  obtain⟨hd,h1,rfl,h2⟩:=eI hr
  simp only[u6]
  cases ho:ag h id with
  |row k l=>
   simp only[FE]
   cases hn:Nat.ble n0 id with
   |false=>exact .any _
   |true=>
    have hn':=Nat.le_of_ble_eq_true hn
    obtain⟨hd',e0,e⟩:=hp.at ho rfl
    rw[h1]at e0;cases e0
    have hnb:∀ b∈hd.bs,¬bP F (AN n0 own) b:=by
     rintro b hb (hf| ⟨i,hi,e1,e2⟩)
     ·exact hp.apart id hd b h1 hb hf
     ·unfold AN at e1
      split at e1
      ·rename_i hlt
       have:=hp.inj id i hd hi b h1 e1 hb e2
       omega
      ·cases e1
    rcases e with⟨a,e1,rfl,_⟩ | ⟨b,o,cap,cs,ty,e1,e2,h3,h4,h5,h6,h7⟩
    ·rw[e1];exact .rs0
    ·rw[e1]
     refine .rs (fun i j=>cs.getD (o+i*aa k+j) undef) h5 h6 (fun i x hi j s hj=>?_) (fun i x hi j s hj=>?_)
     ·obtain⟨u,k1,k2⟩:=h7 i x hi j s hj
      refine⟨hnb b (by simp[e2]),?_⟩
      rw[cK h3,k1]
      simp[Array.getD_eq_getD_getElem?,k1]
     ·obtain⟨u,k1,k2⟩:=h7 i x hi j s hj
      have:cs.getD (o+i*aa k+j) undef=u:=by simp[Array.getD_eq_getD_getElem?,k1]
      rw[this]
      exact k2.over (jQ hj) fun b hb=>qL hb
  |_=>exact .any _
 |_=>exact .any _
theorem FF (hp:Hp F own w h)(s:SV)(v:Value)(hr:Rel F own w s v):Rel F (AN n0 own) w (u7 n0 h s) v:=by
 cases s with
 |tup l=>
  cases hr with
  |tup h0 h1=>
   refine .tup (by simpa using h0) fun j s hj=>?_
   obtain⟨x,hx,rfl⟩:=cg hj
   exact zc hp x _ (h1 j x hx)
 |_=>exact zc hp _ _ hr
@[go_sem] theorem O2 {l:List SV}:u7 n0 h (.tup l)=.tup (l.map (u6 n0 h)):=(rfl)
@[go_sem] theorem QB {id:Nat}:u7 n0 h (.os id)=FE n0 id (ag h id):=(rfl)
@[go_sem] theorem Rk {x:Value}:u7 n0 h (.v x)=.v x:=(rfl)
@[go_sem] theorem QC {k:Tag}{l:List k.T}:u7 n0 h (.rs k l)=.rs k l:=(rfl)
@[go_sem] theorem O3 {l:List SV}:u7 n0 h (.agg l)=bif l.all isV then .agg l else .any:=(rfl)
@[go_sem] theorem Rl {x:Value}:u6 n0 h (.v x)=.v x:=(rfl)
@[go_sem] theorem QD {k:Tag}{l:List k.T}:u6 n0 h (.rs k l)=.rs k l:=(rfl)
@[go_sem] theorem O4 {l:List SV}:u6 n0 h (.agg l)=bif l.all isV then .agg l else .any:=(rfl)
@[go_sem] theorem QE {id:Nat}:u6 n0 h (.os id)=FE n0 id (ag h id):=(rfl)
@[go_sem] theorem O5 {k:Tag}{l:List k.T}{id:Nat}:FE n0 id (.row k l)=bif Nat.ble n0 id then .rs k l else .any:=(rfl)
@[go_sem] theorem isV_v {x:Value}:isV (.v x)=true:=(rfl)
end
def FG (pks:List Pk)(n0:Nat)(S:SV)(H:List Ob)(h:List Ob):Option SV→Prop
 |some s=>S=oE pks (u7 n0 h s)∧fa ⟨[],H⟩ n0 ⟨[],h⟩
 |none=>False
def I3 (pks:List Pk)(n0:Nat)(rs:List ResultVar)(ts:Tis)(S:SV)(H:List Ob):Ex→St→Prop
 | .exit _,_=>False
 | .normal,st=>FG pks n0 S H st.h (je (io ts st rs))
 | .ret,st=>FG pks n0 S H st.h (je (io ts st rs))
 | .pan _,_=>False
section
variable {P:Program}{ts:Tis}{G:Cons}{n0:Nat}{S s:SV}{H h:List Ob}{rs:List ResultVar}{st:St}{pks:List Pk}
@[go_sem] theorem M9:FG pks n0 S H h (some s)=(S=oE pks (u7 n0 h s)∧fa ⟨[],H⟩ n0 ⟨[],h⟩):=(rfl)
@[go_sem] theorem Ic:I3 pks n0 rs ts S H .normal st=FG pks n0 S H st.h (je (io ts st rs)):=(rfl)
@[go_sem] theorem M_:I3 pks n0 rs ts S H .ret st=FG pks n0 S H st.h (je (io ts st rs)):=(rfl)
end
end Go.Sx
end
section
namespace Go.Sx
open Go.RowKit
def Id (h:List Ob):Option Con→Option HCon
 |some (.det p s) =>some (dA p (u7 0 (aA 3 s) (eu 3 0 s)) (h.map fun _=>.dead))
 |_=>none
def FH (C:List SV→Option Con)(l:List SV)(h:List Ob):Option HCon:=Id h (C (l.map (dp h 6)))
@[go_sem] theorem QF {C:List SV→Option Con}{l:List SV}{h:List Ob}:FH C l h=Id h (C (l.map (dp h 6))):=(rfl)
@[go_sem] theorem O6 {h:List Ob}{p:Prop}{s:SV}:Id h (some (.det p s))=some (dA p (u7 0 (aA 3 s) (eu 3 0 s)) (h.map fun _=>.dead)):=(rfl)
section
variable {P:Program}{F:Nat→Prop}{own:Own}{w w':World}
def FI (own:Own):Own:=fun i=>(own i).map fun hd=>{ hd with bs:=[]}
theorem Ie {b:Nat}(hb:¬F b):¬bP F (FI own) b:=by
 rintro (hf| ⟨id,hd,e,hm⟩)
 ·exact hb hf
 ·unfold FI at e
  cases h:own id with
  |none=>rw[h]at e;cases e
  |some x=>rw[h]at e;cases e;cases hm
theorem FnOk.eat {f:FuncId}{C:List SV→Option Con}(hf:FnOk P f C):FnOkO P f (FH C) where
 enter:=fun l h c e=>by
  unfold FH at e
  cases hc:C (l.map (dp h 6))with
  |none=>rw[hc]at e;cases e
  |some c'=>exact hf.enter _ c' hc
 calls:=fun l h c e hp F own w vs hH hr=>by
  unfold FH at e
  cases hc:C (l.map (dp h 6))with
  |none=>rw[hc]at e;cases e
  |some c'=>
   rw[hc]at e
   cases c' with
   |det p s=>
    simp only[Id,Option.some.injEq]at e
    subst e
    have n0:∀ {F':Nat→Prop} {w1:World},(∀ b,F' b→b<w1.heap.size)→Hp F' cj w1 []:=fun hf=>⟨(fun id hd h=>by cases h),hf,(fun id hd b h=>by cases h),(fun i j hi hj b h=>by cases h),(fun id hd b h=>by cases h),(fun id h=>by cases h)⟩
    have hE:∀ {id:Nat} {hd:Hd},FI own id=some hd→hd.bs=[]∧id<h.length:=fun {id hd} h=>by
     unfold FI at h
     cases ho:own id with
     |none=>rw[ho]at h;cases h
     |some x=>rw[ho]at h;cases h;exact⟨rfl,hH.dom id x ho⟩
    refine(hf.calls _ _ hc hp F w vs hH.foreign ⟨by simpa using hr.1,fun j s hj=>?_⟩).mono ?_
    ·obtain⟨x,hx,rfl⟩:=cg hj
     exact oj hH 6 x _ (hr.2 j x hx)
    ·rintro e w' (⟨s',u,own',h1,h2,h3,h4⟩ | ⟨x,hx,_⟩)
     ·cases h1
      obtain⟨own2,q1,q2,q3,q4⟩:=rq (n0 hH.foreign) (.inl fun b=>⟨fun h=>.inl h,fun h=>h.elim id fun⟨_,_,h,_⟩ =>by cases h⟩) h4 h3
      have q5:=FF (n0:=0) q1 _ _ q3
      refine⟨(),FI own,trivial,⟨u,h2,?_⟩,?_,?_,by simp⟩
      ·refine q5.carry ⟨fun id hd h=>by simp[AN]at h,fun b _ hb=>⟨Ie fun hf=>hb (.inl hf),rfl⟩⟩
      ·refine⟨fun id hd h=>by rw[List.length_map];exact(hE h).2,fun b hb=>Nat.lt_of_lt_of_le (hH.foreign b hb) h4.size,fun id hd b h hm=>?_,fun i j hi hj b h _ hm=>?_,fun id hd b h hm=>?_,fun id hd=>?_⟩
       ·rw[(hE h).1]at hm;cases hm
       ·rw[(hE h).1]at hm;cases hm
       ·rw[(hE h).1]at hm;cases hm
       ·rw[jB,List.getElem?_map]at hd
        cases ho:h[id]? <;>rw[ho]at hd <;>simp[ca]at hd
      ·refine⟨fun id hd h=>?_,fun id hd b h hm=>?_,h4.os,h4.tape,h4.output,h4.size,fun k hk=>h4.block k hk.1⟩
       ·exact⟨{ hd with bs:=[]},by show(own id).map _=_;rw[show own id=some hd from h];rfl,rfl,rfl,rfl⟩
       ·rw[(hE h).1]at hm;cases hm
     ·cases hx
   |_=>cases e
end
end Go.Sx
end
section
namespace Go.Sx
open Go.Proofs
set_option maxRecDepth 100000
set_option linter.unusedSimpArgs false
def gl:=({ no:=5,kind:=4,right:=0,since:=0,to:=0,parts:=[],of_:=3,at_:=0,known:=9}:Deed)
def fe:=([({ no:=1,kind:=3,right:=0,since:=2,to:=0,parts:=[],of_:=0,at_:=0,known:=0}:Deed)])
def eA:=(ez aT fe 0)
def eB:=(eA.1)
def eD:=(eB.length:Int)
def eE:=({ no:=3,kind:=2,right:=0,since:=0,to:=0,parts:=[({ farm:=1,share:=iy}:Part),({ farm:=2,share:=iy}:Part)],of_:=0,at_:=1,known:=2}:Deed)
def ff:=([eE])
def fg:=(iR aT ff gl)
def bu:=(fg.1)
def cV:=(bu.length:Int)
def fh:=(bu.getD 1 (default:Deed))
def fj:=(aw aT bu 1 9)
def fl:=(aw aT bu 1 2)
def fm:=(aw aT bu 0 2)
def dZ:=(fl.1)
def fo:=(fj.1)
def fq:=(fm.1)
def eW:=(fo.length:Int)
def ei:=(dZ.length:Int)
def eX:=(fq.length:Int)
def c5:=(dZ.getD 1 (default:Holding))
def ce:=(dZ.getD 0 (default:Holding))
def bq:=(fo.getD 0 (default:Holding))
def aU:=(fq.getD 0 (default:Holding))
def g_:=(iR aT bu eE)
def jH:=((bu.take (Int.toNat cV)).drop 1)
def fP:=(aj aT jH)
def jv:Bool:=(bif((((((((((((fg.2 !=0) ||(g_.2 !=171)) ||(fm.2 !=0)) ||(fl.2 !=0)) ||(fj.2 !=0)) ||((aw aT ([]) 4 0).2 !=1)) ||(eA.2 !=0)) ||(cV !=2)) ||(eX !=1)) ||(ei !=2)) ||(eW !=1)) ||(eD !=1))then false else(bif((fP !=250) ||(fh.no !=5))then false else((((((aU.right==0)&&((aU.farm==0)&&((aU.litres==5)&&(aU.rank==7))))&&((bq.right==0)&&((bq.farm==0)&&((bq.litres==5)&&(bq.rank==7)))))&&((ce.right==0)&&((ce.farm==1)&&((ce.litres==3)&&(ce.rank==7)))))&&((c5.right==0)&&((c5.farm==2)&&((c5.litres==2)&&(c5.rank==7)))))&&((eB.getD 0 (0:Int)) ==1))))
def i0:Prop:=((fc aT ff gl)∧((fc aT bu eE)∧((dE aT bu 0 2)∧((dE aT bu 1 2)∧((dE aT bu 1 9)∧((dE aT ([]) 4 0)∧((gG aT fe 0)∧(((((((((((((fg.2 !=0) ||(g_.2 !=171)) ||(fm.2 !=0)) ||(fl.2 !=0)) ||(fj.2 !=0)) ||((aw aT ([]) 4 0).2 !=1)) ||(eA.2 !=0)) ||(cV !=2)) ||(eX !=1)) ||(ei !=2)) ||(eW !=1)) ||(eD !=1))=false→((0≤1∧1≤cV∧cV≤cV)∧((c7 aT jH)∧(((fP !=250)=false→(0≤1∧1<cV))∧(((fP !=250) ||(fh.no !=5))=false→((0≤0∧0<eX)∧((((aU.right==0)&&((aU.farm==0)&&((aU.litres==5)&&(aU.rank==7))))=true→(0≤0∧0<eW))∧(((((aU.right==0)&&((aU.farm==0)&&((aU.litres==5)&&(aU.rank==7))))&&((bq.right==0)&&((bq.farm==0)&&((bq.litres==5)&&(bq.rank==7)))))=true→(0≤0∧0<ei))∧((((((aU.right==0)&&((aU.farm==0)&&((aU.litres==5)&&(aU.rank==7))))&&((bq.right==0)&&((bq.farm==0)&&((bq.litres==5)&&(bq.rank==7)))))&&((ce.right==0)&&((ce.farm==1)&&((ce.litres==3)&&(ce.rank==7)))))=true→(0≤1∧1<ei))∧((((((aU.right==0)&&((aU.farm==0)&&((aU.litres==5)&&(aU.rank==7))))&&((bq.right==0)&&((bq.farm==0)&&((bq.litres==5)&&(bq.rank==7)))))&&((ce.right==0)&&((ce.farm==1)&&((ce.litres==3)&&(ce.rank==7)))))&&((c5.right==0)&&((c5.farm==2)&&((c5.litres==2)&&(c5.rank==7)))))=true→(0≤0∧0<eD))))))))))))))))))
@[go_sem] def qM:List SV→Option Con:=(pE (.det (i0) (.v (.bool (jv)))))
theorem u9:FnOk Tryz.prog 11 qM:=by
 have hG:ConsOk Tryz.prog (mkG [(13,fun l=>k_ (dL [.st .district,.sl .deed,.st .deed] l)),(15,fun l=>eo (dL [.st .district,.sl .deed] l)),(18,fun l=>lM (dL [.st .district,.sl .deed,.o,.o] l)),(20,fun l=>mB (dL [.st .district,.sl .deed,.o] l)),(33,oZ),(34,qK)] [(13,FH (fun l=>k_ (dL [.st .district,.sl .deed,.st .deed] l)))]):=aP (cgc (ni.norm [.st .district,.sl .deed,.st .deed]) (cgc (eU.norm [.st .district,.sl .deed]) (cgc (nZ.norm [.st .district,.sl .deed,.o,.o]) (cgc (qH.norm [.st .district,.sl .deed,.o]) (cgc uH (cgc u5 cg0)))))) (cgc (FnOk.eat (ni.norm [.st .district,.sl .deed,.st .deed])) cg0)
 refine cb [.o] mixed aC hG (fn:=Tryz.f11) (c:=ae Tryz.f11) (by kernel_rfl) (by kernel_rfl) (by kernel_rfl) (by kernel_rfl) (bj (fun hp=>?_))
 dsimp only[bf]at hp
 unfold i0 at hp
 try simp only[gl,fe,eA,eB,eD,eE,ff,fg,bu,cV,fh,fj,fl,fm,dZ,fo,fq,eW,ei,eX,c5,ce,bq,aU,g_,jH,fP]at hp
 refine⟨Nat.le_of_ble_eq_true rfl,L0,al _,?_⟩
 ·unfold ae Tryz.f11
  try unfold jv
  simp (maxSteps:=1000000) only[go_sem,Nat.reduceBEq,Nat.reduceLeDiff,Nat.reduceLT,decide_true,Nat.reduceAdd,Nat.reduceSub,Nat.reduceMul,Int.reduceLE,Int.reduceLT,Int.reduceToNat,Int.reduceNeg,reduceCtorEq,gl,fe,eA,eB,eD,eE,ff,fg,bu,cV,fh,fj,fl,fm,dZ,fo,fq,eW,ei,eX,c5,ce,bq,aU,g_,jH,fP]
  all_goals exact cl
end Go.Sx
end
section
namespace Go.Sx
open Go.Proofs
set_option maxRecDepth 100000
theorem zd (d:District)(l:List Deed)(known:Int):gG d l known∧
  ez d l known=if aj d l≠0 then([],aj d l)else if 0≤known∧known≤1048576 then(qD (C3 (stS (mw l 4096 known)) (B0 d)),0)else([],1):=by
 by_cases hc:aj d l=0
 ·have hD:=nX hc
  have hE:=((mv d l).1 hc).1
  have hw:(!(aB known 0 1048576))= !decide (0≤known∧known≤1048576):=by
   congr 1
   rw[Bool.eq_iff_iff,pr,decide_eq_true_eq]
  obtain⟨c1,c2⟩:=sm l 4096 known hD.len
  have hlen:(stS (mw l 4096 known)).length≤512:=by rw[BU];exact Nat.le_trans (List.length_filter_le _ _) hD.len
  obtain⟨f1,m,f2,f3,f4⟩:=wb hE (uG hD 4096 known) hlen
  refine⟨⟨g9 d l,fun _ _=>⟨c1,by rw[c2];exact f1⟩⟩,?_⟩
  unfold ez
  rw[if_neg (by simp[hc]),hc,hw,c2,f2]
  simp only[bne_self_eq_false,cond_false]
  by_cases hg:0≤known∧known≤1048576
  ·rw[decide_eq_true hg,if_pos hg];rfl
  ·rw[decide_eq_false hg,if_neg hg];rfl
 ·have hne:(aj d l !=0)=true:=by simpa using hc
  refine⟨⟨g9 d l,(fun h=>by rw[hne]at h;cases h)⟩,?_⟩
  rw[if_pos hc]
  unfold ez;rw[hne];rfl
theorem K4 (a:Deed)(n:Int):decide (dX a n<0)=decide (a.no<n):=by
 unfold dX
 rw[lG]
 by_cases h:a.no<n
 ·simp[h]
 ·by_cases h2:a.no > n <;>simp[h,h2]
theorem K5 (a:Deed)(n:Int):(dX a n==0)=decide (a.no=n):=by
 unfold dX
 rw[lG]
 by_cases h:a.no<n
 ·have:¬a.no=n:=by omega
  simp[h,this]
 ·by_cases h2:a.no > n
  ·have:¬a.no=n:=by omega
   simp[h,h2,this]
  ·have:a.no=n:=by omega
   simp[this]
theorem FJ {l:List Deed}(h:Asc l){i j:Nat}(h1:i<j)(h2:j<l.length):(l.getD i default).no< (l.getD j default).no:=by
 rw[ow l _ (by omega),ow l _ h2]
 exact List.pairwise_iff_getElem.1 h i j (by omega) h2 h1
theorem I4 {l:List Deed}(hA:Asc l)(hl:l.length≤4096)(n:Int):bA l n∧∃ q:Nat,q≤l.length∧an l n=((q:Int),decide (q<l.length∧(l.getD q default).no=n))∧(∀ i,i<q→(l.getD i default).no<n)∧∀ i,q≤i→i<l.length→n≤(l.getD i default).no:=by
 obtain⟨s1,r,s2,q,rfl,q1,q2,q3,q4⟩:=xm (step:=ak l n) (p:=aD l n) (fun h=>decide ((l.getD h default).no<n)) 0 l.length (Nat.zero_le _)
  (fun i j h1 h2 h3 h4=>by
   simp only[decide_eq_true_eq]at h4 ⊢
   rcases Nat.eq_or_lt_of_le h2 with rfl|h2
   ·exact h4
   ·have:=FJ hA h2 h3;omega)
  (fun k i j h1 h2 h3=>by
   have e:decide ((i:Int) < (j:Int))=true:=by rw[decide_eq_true_eq];omega
   unfold aD ak
   simp only[yW (i:=i) (j:=j) (by omega) (by omega),e,cond_true,Int.toNat_natCast,K4]
   have w2:IntKind.i64.wrap ((((i+j) / 2:Nat):Int)+1)=(((i+j) / 2+1:Nat):Int):=by rw[bQ (by omega) (by omega)];omega
   rw[w2]
   exact⟨fun _=>by omega,rfl⟩)
  (fun k i=>by
   have e:decide ((i:Int) < (i:Int))=false:=by simp
   unfold aD ak
   simp only[e,cond_false]
   exact⟨fun h=>by simp at h,trivial⟩) (l.length+1) 0 (by omega)
 have s2':ax (ak l n) (l.length+1) 0 (0,(l.length:Int))=.inl (q:Int):=s2
 refine⟨fun _=>⟨s1,(fun z h=>by rw[s2']at h;cases h),fun x hx h=>?_⟩,q,q2,?_,fun i hi=>?_,fun i h1 h2=>?_⟩
 ·rw[s2']at hx;cases hx
  rw[decide_eq_true_eq]at h
  omega
 ·unfold an
  rw[s2']
  simp only[Int.toNat_natCast,K5]
  rw[Prod.mk.injEq]
  refine⟨rfl,?_⟩
  rw[Bool.eq_iff_iff,Bool.and_eq_true,decide_eq_true_eq,decide_eq_true_eq,decide_eq_true_eq]
  omega
 ·simpa using q3 i (Nat.zero_le _) hi
 ·have:=q4 i h1 h2
  simp only[decide_eq_false_iff_not]at this
  omega
abbrev exS:Deed:= { no:=3,kind:=2,right:=0,since:=0,to:=0,parts:=[{ farm:=1,share:=iy},{ farm:=2,share:=iy}],of_:=0,at_:=1,known:=2}
abbrev exV:Deed:= { no:=5,kind:=4,right:=0,since:=0,to:=0,parts:=[],of_:=3,at_:=0,known:=9}
theorem e19:fg=([exS,exV],0):=by kernel_rfl
theorem e18:bu=[exS,exV]:=by kernel_rfl
theorem e2:g_=([],171):=by kernel_rfl
theorem eC:aj aT [exS,exV]=0:=by kernel_rfl
theorem eH (hour known:Int)(L:List Holding)(h1:decide (0≤hour∧hour<aT.hours∧0≤known∧known≤1048576)=true)(h2:lh aT (qI aT [exS,exV] hour known)=L):aw aT bu hour known=(L,0):=by
 rw[e18,(n8 _ _ _ _).2,if_neg (by rw[eC];decide),if_pos (of_decide_eq_true h1),h2]
theorem e13:fm=([{ right:=0,farm:=0,litres:=5,rank:=7}],0):=eH 0 2 _ (by kernel_rfl) (by kernel_rfl)
theorem e14:fl=([{ right:=0,farm:=1,litres:=3,rank:=7},{ right:=0,farm:=2,litres:=2,rank:=7}],0):=eH 1 2 _ (by kernel_rfl) (by kernel_rfl)
theorem e15:fj=([{ right:=0,farm:=0,litres:=5,rank:=7}],0):=eH 1 9 _ (by kernel_rfl) (by kernel_rfl)
theorem eN:aw aT [] 4 0=([],1):=by
 have hc:aj aT []=0:=by kernel_rfl
 rw[(n8 _ _ _ _).2,if_neg (by rw[hc];decide),if_neg (of_decide_eq_false (by kernel_rfl))]
theorem e24:eA=([1],0):=by
 have hc:aj aT fe=0:=by kernel_rfl
 have he:C3 (stS (mw fe 4096 0)) (B0 aT)=[1]:=by kernel_rfl
 unfold eA
 rw[(zd _ _ _).2,if_neg (by rw[hc];decide),if_pos (by decide),he]
 simp[qD]
theorem e0:fP=250:=by kernel_rfl
theorem e7:eX=1:=by unfold eX fq;rw[e13];rfl
theorem e8:ei=2:=by unfold ei dZ;rw[e14];rfl
theorem e9:eW=1:=by unfold eW fo;rw[e15];rfl
theorem e17:cV=2:=by unfold cV;rw[e18];rfl
theorem e22:eD=1:=by unfold eD eB;rw[e24];rfl
theorem e3':aU= { right:=0,farm:=0,litres:=5,rank:=7}:=by unfold aU fq;rw[e13];rfl
theorem e4':bq= { right:=0,farm:=0,litres:=5,rank:=7}:=by unfold bq fo;rw[e15];rfl
theorem e5':ce= { right:=0,farm:=1,litres:=3,rank:=7}:=by unfold ce dZ;rw[e14];rfl
theorem e6':c5= { right:=0,farm:=2,litres:=2,rank:=7}:=by unfold c5 dZ;rw[e14];rfl
theorem e16:fh=exV:=by unfold fh;rw[e18];rfl
theorem e23:eB=[1]:=by unfold eB;rw[e24]
theorem K6:jv=true:=by
 unfold jv
 rw[e19,e2,e13,e14,e15,eN,e24,e17,e7,e8,e9,e22,e0,e16,e3',e4',e5',e6',e23]
 rfl
theorem K7:fc aT ff gl:=by
 refine⟨g9 _ _,fun _=>?_⟩
 have hA:Asc ff:=List.pairwise_singleton _ _
 refine⟨(I4 hA (by decide) _).1,fun _=>⟨by decide,by kernel_rfl,?_,g9 _ _⟩⟩
 unfold bH
 exact⟨by decide,fun _ _ _=>by decide⟩
theorem K8:fc aT bu eE:=by
 refine⟨g9 _ _,fun _=>?_⟩
 have hA:Asc bu:=by rw[e18];exact(nX eC).asc
 refine⟨(I4 hA (by rw[e18];decide) _).1,fun h=>?_⟩
 have:(an bu eE.no).2=true:=by kernel_rfl
 rw[this]at h;cases h
theorem FK:i0:=by
 unfold i0
 refine⟨K7,K8,(n8 _ _ _ _).1,(n8 _ _ _ _).1,(n8 _ _ _ _).1,(n8 _ _ _ _).1,(zd _ _ _).1,fun _=>?_⟩
 rw[e17,e7,e8,e9]
 simp[g9,e22]
end Go.Sx
end
section
namespace Go.Sx
open Go.Proofs
set_option maxRecDepth 100000
set_option linter.unusedSimpArgs false
@[go_sem] def i6 (a0:Deed)(a1:Deed)(k_0:Nat)(s_0:Unit):Unit⊕Unit:=(bif(!(((a0.parts.getD k_0 (default:Part)).farm==(a1.parts.getD k_0 (default:Part)).farm)&&(((a0.parts.getD k_0 (default:Part)).share.n==(a1.parts.getD k_0 (default:Part)).share.n)&&((a0.parts.getD k_0 (default:Part)).share.d==(a1.parts.getD k_0 (default:Part)).share.d))))then .inl ()else .inr ())
def gT (a0:Deed)(a1:Deed)(k_0:Nat)(s_0:Unit):Prop:=(a0.parts.length≤b_→(0≤(k_0:Int)∧(k_0:Int) < (a1.parts.length:Int)))
def lj (a0:Deed)(a1:Deed):Bool:=(bif(((((((((a0.no !=a1.no) ||(a0.kind !=a1.kind)) ||(a0.right !=a1.right)) ||(a0.since !=a1.since)) ||(a0.to !=a1.to)) ||(a0.of_ !=a1.of_)) ||(a0.at_ !=a1.at_)) ||(a0.known !=a1.known)) ||((a0.parts.length:Int) !=(a1.parts.length:Int)))then false else(match ax (i6 a0 a1) a0.parts.length 0 ()with| .inl x_0_0=>false| .inr s_0=>true))
def jw (a0:Deed)(a1:Deed):Prop:=((((((((((a0.no !=a1.no) ||(a0.kind !=a1.kind)) ||(a0.right !=a1.right)) ||(a0.since !=a1.since)) ||(a0.to !=a1.to)) ||(a0.of_ !=a1.of_)) ||(a0.at_ !=a1.at_)) ||(a0.known !=a1.known)) ||((a0.parts.length:Int) !=(a1.parts.length:Int)))=false→okI (i6 a0 a1) (gT a0 a1) a0.parts.length 0 ())
@[go_sem] def mD:List SV→Option Con:=(pD .deed fun a0=>(pD .deed fun a1=>(pE (.det (jw a0 a1) (.v (.bool (lj a0 a1)))))))
theorem qN:FnOk Tryz.prog 30 mD:=by
 have hG:ConsOk Tryz.prog (mkG [] []):=aP cg0 cg0
 refine cb [.o] mixed aC hG (fn:=Tryz.f30) (c:=ae Tryz.f30) (by kernel_rfl) (by kernel_rfl) (by kernel_rfl) (by kernel_rfl) (cr fun a0=>(cr fun a1=>(bj (fun hp=>?_))))
 dsimp only[bf]at hp
 unfold jw at hp
 refine⟨Nat.le_of_ble_eq_true rfl,(fun id st=>bif Nat.beq id 0 then some (LCR (ρ:=Unit) (σ:=Unit) 2 [] [0,1] (fun k_0 s_0=>⟨[(2,.ptr 0 0),(3,.ptr 1 0),(5,.v (.int .i64 (k_0:Int)))],[.cells (cellsOf .deed a0),.cells (cellsOf .deed a1)]⟩) (i6 a0 a1) (gT a0 a1) a0.parts.length () (True) (fun _=>.ret) (fun x_0_0=>⟨[(4,.v (.bool false))],[.dead,.dead]⟩) st)else none),?_,?_⟩
 ·unfold ae Tryz.f30
  simp only[ap,true_and,and_true]
  ·refine qm (a0.parts.length≤b_) mixed aC hG (by kernel_rfl) (fun _=>rfl) (a0.parts.length:Int) rfl kV (fun hb0 k_0 s_0 hlt0 hq0 hw hc=>⟨L0,al _,?_⟩) (fun hb0 s_0 hc=>?_) fun hb0 k_0 s_0=>?_
   ·unfold gT at hq0
    try simp only[hw,Int.toNat_natCast]at hq0
    exact qs
   ·exact qt
   ·simp only[go_sem,Nat.reduceBEq,Nat.reduceLeDiff,Nat.reduceLT,decide_true,Nat.reduceAdd,Nat.reduceSub,Nat.reduceMul,Int.reduceLE,Int.reduceLT,Int.reduceToNat,Int.reduceNeg,reduceCtorEq,hb0]
 ·unfold ae Tryz.f30
  try unfold lj
  simp only[go_sem,Nat.reduceBEq,Nat.reduceLeDiff,Nat.reduceLT,decide_true,Nat.reduceAdd,Nat.reduceSub,Nat.reduceMul,Int.reduceLE,Int.reduceLT,Int.reduceToNat,Int.reduceNeg,reduceCtorEq]
  all_goals exact cl
@[go_sem] def lN (a:List Deed)(b:List Deed)(k_0:Nat)(s_0:Unit):Unit⊕Unit:=(bif(!(lj (a.getD k_0 (default:Deed)) (b.getD k_0 (default:Deed))))then .inl ()else .inr ())
def kl (a:List Deed)(b:List Deed)(k_0:Nat)(s_0:Unit):Prop:=(a.length≤b_→((0≤(k_0:Int)∧(k_0:Int) < (b.length:Int))∧(jw (a.getD k_0 (default:Deed)) (b.getD k_0 (default:Deed)))))
def uI (a:List Deed)(b:List Deed):Bool:=(bif((a.length:Int) !=(b.length:Int))then false else(match ax (lN a b) a.length 0 ()with| .inl x_0_0=>false| .inr s_0=>true))
def qO (a:List Deed)(b:List Deed):Prop:=(a.length≤b_→(b.length≤b_→(((a.length:Int) !=(b.length:Int))=false→okI (lN a b) (kl a b) a.length 0 ())))
@[go_sem] def xB:List SV→Option Con:=(pR .deed fun a=>(pR .deed fun b=>(pE (.det (qO a b) (.v (.bool (uI a b)))))))
theorem F5:FnOk Tryz.prog 17 xB:=by
 have hG:ConsOk Tryz.prog (mkG [(30,fun l=>mD (dL [.st .deed,.st .deed] l))] []):=aP (cgc (qN.norm [.st .deed,.st .deed]) cg0) cg0
 refine cb [.o] mixed aC hG (fn:=Tryz.f17) (c:=ae Tryz.f17) (by kernel_rfl) (by kernel_rfl) (by kernel_rfl) (by kernel_rfl) (fD fun a=>(fD fun b=>(bj (fun hp=>?_))))
 dsimp only[bf]at hp
 unfold qO at hp
 refine⟨Nat.le_of_ble_eq_true rfl,(fun id st=>bif Nat.beq id 0 then some (LCR (ρ:=Unit) (σ:=Unit) 0 [] [] (fun k_0 s_0=>⟨[(0,.rs .deed a),(1,.rs .deed b),(5,.v (.int .i64 (k_0:Int)))],[]⟩) (lN a b) (kl a b) a.length () (True) (fun _=>.ret) (fun x_0_0=>⟨[(4,.v (.bool false))],[]⟩) st)else none),?_,?_⟩
 ·unfold ae Tryz.f17
  simp only[ap,true_and,and_true]
  ·refine qm (a.length≤b_) mixed aC hG (by kernel_rfl) (fun _=>rfl) (a.length:Int) rfl kV (fun hb0 k_0 s_0 hlt0 hq0 hw hc=>⟨L0,al _,?_⟩) (fun hb0 s_0 hc=>?_) fun hb0 k_0 s_0=>?_
   ·unfold kl at hq0
    try simp only[hw,Int.toNat_natCast]at hq0
    exact mj
   ·exact ml
   ·simp only[go_sem,Nat.reduceBEq,Nat.reduceLeDiff,Nat.reduceLT,decide_true,Nat.reduceAdd,Nat.reduceSub,Nat.reduceMul,Int.reduceLE,Int.reduceLT,Int.reduceToNat,Int.reduceNeg,reduceCtorEq,hb0]
 ·unfold ae Tryz.f17
  try unfold uI
  simp only[go_sem,Nat.reduceBEq,Nat.reduceLeDiff,Nat.reduceLT,decide_true,Nat.reduceAdd,Nat.reduceSub,Nat.reduceMul,Int.reduceLE,Int.reduceLT,Int.reduceToNat,Int.reduceNeg,reduceCtorEq]
  all_goals exact cl
@[go_sem] def dP (a:List Holding)(b:List Holding)(k_0:Nat)(s_0:Unit):Unit⊕Unit:=(bif(!(((a.getD k_0 (default:Holding)).right==(b.getD k_0 (default:Holding)).right)&&(((a.getD k_0 (default:Holding)).farm==(b.getD k_0 (default:Holding)).farm)&&(((a.getD k_0 (default:Holding)).litres==(b.getD k_0 (default:Holding)).litres)&&((a.getD k_0 (default:Holding)).rank==(b.getD k_0 (default:Holding)).rank)))))then .inl ()else .inr ())
def ft (a:List Holding)(b:List Holding)(k_0:Nat)(s_0:Unit):Prop:=(a.length≤b_→(0≤(k_0:Int)∧(k_0:Int) < (b.length:Int)))
def dv (a:List Holding)(b:List Holding):Bool:=(bif((a.length:Int) !=(b.length:Int))then false else(match ax (dP a b) a.length 0 ()with| .inl x_0_0=>false| .inr s_0=>true))
def d4 (a:List Holding)(b:List Holding):Prop:=(a.length≤b_→(b.length≤b_→(((a.length:Int) !=(b.length:Int))=false→okI (dP a b) (ft a b) a.length 0 ())))
@[go_sem] def j7:List SV→Option Con:=(pR .holding fun a=>(pR .holding fun b=>(pE (.det (d4 a b) (.v (.bool (dv a b)))))))
theorem nt:FnOk Tryz.prog 22 j7:=by
 have hG:ConsOk Tryz.prog (mkG [] []):=aP cg0 cg0
 refine cb [.o] mixed aC hG (fn:=Tryz.f22) (c:=ae Tryz.f22) (by kernel_rfl) (by kernel_rfl) (by kernel_rfl) (by kernel_rfl) (fD fun a=>(fD fun b=>(bj (fun hp=>?_))))
 dsimp only[bf]at hp
 unfold d4 at hp
 refine⟨Nat.le_of_ble_eq_true rfl,(fun id st=>bif Nat.beq id 0 then some (LCR (ρ:=Unit) (σ:=Unit) 0 [] [] (fun k_0 s_0=>⟨[(0,.rs .holding a),(1,.rs .holding b),(5,.v (.int .i64 (k_0:Int)))],[]⟩) (dP a b) (ft a b) a.length () (True) (fun _=>.ret) (fun x_0_0=>⟨[(4,.v (.bool false))],[]⟩) st)else none),?_,?_⟩
 ·unfold ae Tryz.f22
  simp only[ap,true_and,and_true]
  ·refine qm (a.length≤b_) mixed aC hG (by kernel_rfl) (fun _=>rfl) (a.length:Int) rfl kV (fun hb0 k_0 s_0 hlt0 hq0 hw hc=>⟨L0,al _,?_⟩) (fun hb0 s_0 hc=>?_) fun hb0 k_0 s_0=>?_
   ·unfold ft at hq0
    try simp only[hw,Int.toNat_natCast]at hq0
    exact mj
   ·exact ml
   ·simp only[go_sem,Nat.reduceBEq,Nat.reduceLeDiff,Nat.reduceLT,decide_true,Nat.reduceAdd,Nat.reduceSub,Nat.reduceMul,Int.reduceLE,Int.reduceLT,Int.reduceToNat,Int.reduceNeg,reduceCtorEq,hb0]
 ·unfold ae Tryz.f22
  try unfold dv
  simp only[go_sem,Nat.reduceBEq,Nat.reduceLeDiff,Nat.reduceLT,decide_true,Nat.reduceAdd,Nat.reduceSub,Nat.reduceMul,Int.reduceLE,Int.reduceLT,Int.reduceToNat,Int.reduceNeg,reduceCtorEq]
  all_goals exact cl
@[go_sem] def qP (l_:List Deed)(k_0:Nat)(s_0:Unit):Unit⊕Unit:=(bif(decide ((((l_.getD k_0 (default:Deed)).parts).length:Int) > 100))then .inl ()else .inr ())
def kJ (d:District)(l_:List Deed):Bool:=(bif((decide ((l_.length:Int) > 512))&&(decide ((l_.length:Int)≤700)))then(oq d)else(bif((((decide ((l_.length:Int) > 60)) ||(!(oq d))) ||((decide ((d.rights.length:Int) > 40))&&(decide ((d.rights.length:Int)≤256)))) ||((decide ((d.farms.length:Int) > 60))&&(decide ((d.farms.length:Int)≤600))))then false else(match ax (qP l_) l_.length 0 ()with| .inl x_0_0=>false| .inr s_0=>true)))
@[go_sem] def so:List SV→Option Con:=(pD .district fun d=>(pR .deed fun l_=>(pE (.det True (.v (.bool (kJ d l_)))))))
theorem xC:FnOk Tryz.prog 12 so:=by
 have hG:ConsOk Tryz.prog (mkG [(35,fun l=>sd (dL [.st .district] l))] []):=aP (cgc (xc.norm [.st .district]) cg0) cg0
 refine cb [.o] mixed aC hG (fn:=Tryz.f12) (c:=ae Tryz.f12) (by kernel_rfl) (by kernel_rfl) (by kernel_rfl) (by kernel_rfl) (cr fun d=>(fD fun l_=>(bj (fun hp=>?_))))
 dsimp only[bf]at hp
 refine⟨Nat.le_of_ble_eq_true rfl,(fun id st=>bif Nat.beq id 0 then some (LCR (ρ:=Unit) (σ:=Unit) 1 [] [0] (fun k_0 s_0=>⟨[(1,.rs .deed l_),(5,.v (.int .i64 (k_0:Int)))],[.dead]⟩) (qP l_) pT l_.length () (True) (fun _=>.ret) (fun x_0_0=>⟨[(4,.v (.bool false))],[.dead]⟩) st)else none),?_,?_⟩
 ·unfold ae Tryz.f12
  simp only[ap,true_and,and_true]
  ·refine qm (l_.length≤b_) mixed aC hG (by kernel_rfl) (fun _=>rfl) (l_.length:Int) rfl kV (fun hb0 k_0 s_0 hlt0 _ hw hc=>⟨L0,al _,?_⟩) (fun hb0 s_0 hc=>?_) fun hb0 k_0 s_0=>?_
   ·exact kW
   ·exact kX
   ·simp only[go_sem,Nat.reduceBEq,Nat.reduceLeDiff,Nat.reduceLT,decide_true,Nat.reduceAdd,Nat.reduceSub,Nat.reduceMul,Int.reduceLE,Int.reduceLT,Int.reduceToNat,Int.reduceNeg,reduceCtorEq,hb0]
 ·unfold ae Tryz.f12
  try unfold kJ
  simp only[go_sem,Nat.reduceBEq,Nat.reduceLeDiff,Nat.reduceLT,decide_true,Nat.reduceAdd,Nat.reduceSub,Nat.reduceMul,Int.reduceLE,Int.reduceLT,Int.reduceToNat,Int.reduceNeg,reduceCtorEq]
  all_goals exact cl
end Go.Sx
end
section
namespace Go.Sx
open Go.Proofs
set_option maxRecDepth 100000
set_option linter.unusedSimpArgs false
theorem we {p:Prop}(h:p:=by(first|done|(repeat' (first|with_reducible refine And.intro ?_ ?_|((with_reducible show _≠_);first|assumption|omega|(simp_all [bR,bY];done) |grind) |with_reducible intro _)) <;>(first|done|with_reducible exact Empty.elim ‹Empty› |with_reducible assumption|rfl|omega|assumption|decide|exact fk [0,4] |exact fk [0,1] |exact czl|(simp only[*,cond_true,cond_false,Bool.not_true,Bool.not_false,go_sem,Nat.reduceBEq,Nat.reduceLeDiff,Nat.reduceLT,decide_true,Nat.reduceAdd,Nat.reduceSub,Nat.reduceMul,Int.reduceLE,Int.reduceLT,Int.reduceToNat,Int.reduceNeg,reduceCtorEq];(repeat' (first|with_reducible refine And.intro ?_ ?_|((with_reducible show _≠_);first|assumption|omega|(simp_all [bR,bY];done) |grind) |with_reducible intro _)) <;>(first|done|assumption|rfl|omega|decide|exact fk [0,4] |exact fk [0,1] |(simp_all [bR,bY];done))) |(simp_all [okI,bR,bY];done) |(simp_all [bR,bY];(first|done|exact fk2 [0,4] |exact fk2 [0,1])) |exact fk2 [0,4] |exact fk2 [0,1]))):p:=h
theorem wg {p:Prop}(h:p:=by(first|done|(repeat' (first|with_reducible refine And.intro ?_ ?_|((with_reducible show _≠_);first|assumption|omega|(simp_all [bR,bY];done) |grind) |with_reducible intro _)) <;>(first|done|with_reducible exact Empty.elim ‹Empty› |with_reducible assumption|rfl|omega|assumption|decide|exact fk [0,1,2,6] |exact fk [0,1,2,3] |exact czl|(simp only[*,cond_true,cond_false,Bool.not_true,Bool.not_false,go_sem,Nat.reduceBEq,Nat.reduceLeDiff,Nat.reduceLT,decide_true,Nat.reduceAdd,Nat.reduceSub,Nat.reduceMul,Int.reduceLE,Int.reduceLT,Int.reduceToNat,Int.reduceNeg,reduceCtorEq];(repeat' (first|with_reducible refine And.intro ?_ ?_|((with_reducible show _≠_);first|assumption|omega|(simp_all [bR,bY];done) |grind) |with_reducible intro _)) <;>(first|done|assumption|rfl|omega|decide|exact fk [0,1,2,6] |exact fk [0,1,2,3] |(simp_all [bR,bY];done))) |(simp_all [okI,bR,bY];done) |(simp_all [bR,bY];(first|done|exact fk2 [0,1,2,6] |exact fk2 [0,1,2,3])) |exact fk2 [0,1,2,6] |exact fk2 [0,1,2,3]))):p:=h
theorem wh {p:Prop}(h:p:=by simp only[go_sem,Nat.reduceBEq,Nat.reduceLeDiff,Nat.reduceLT,decide_true,Nat.reduceAdd,Nat.reduceSub,Nat.reduceMul,Int.reduceLE,Int.reduceLT,Int.reduceToNat,Int.reduceNeg,reduceCtorEq,hc,hw];all_goals exact we):p:=h
theorem wi {p:Prop}(h:p:=by simp only[go_sem,Nat.reduceBEq,Nat.reduceLeDiff,Nat.reduceLT,decide_true,Nat.reduceAdd,Nat.reduceSub,Nat.reduceMul,Int.reduceLE,Int.reduceLT,Int.reduceToNat,Int.reduceNeg,reduceCtorEq,hc];all_goals exact we):p:=h
theorem C7 {p:Prop}(h:p:=by simp only[go_sem,Nat.reduceBEq,Nat.reduceLeDiff,Nat.reduceLT,decide_true,Nat.reduceAdd,Nat.reduceSub,Nat.reduceMul,Int.reduceLE,Int.reduceLT,Int.reduceToNat,Int.reduceNeg,reduceCtorEq,hc,hw];all_goals exact wg):p:=h
theorem C8 {p:Prop}(h:p:=by simp only[go_sem,Nat.reduceBEq,Nat.reduceLeDiff,Nat.reduceLT,decide_true,Nat.reduceAdd,Nat.reduceSub,Nat.reduceMul,Int.reduceLE,Int.reduceLT,Int.reduceToNat,Int.reduceNeg,reduceCtorEq,hc];all_goals exact wg):p:=h
def cW (x:Deed)(v:Deed):Bool:=((x.no !=v.of_)&&((x.kind !=4) ||(x.of_ !=v.of_)))
@[go_sem] def i7:List SV→Option Con:=(pD .deed fun x=>(pX .deed fun v=>(pE (.det True (.v (.bool (cW x v)))))))
theorem mE:FnOk Tryz.prog 27 i7:=by
 have hG:ConsOk Tryz.prog (mkG [] []):=aP cg0 cg0
 refine cb [.o] mixed aC hG (fn:=Tryz.f27) (c:=ae Tryz.f27) (by kernel_rfl) (by kernel_rfl) (by kernel_rfl) (by kernel_rfl) (cr fun x=>(rC fun v=>(bj (fun hp=>?_))))
 dsimp only[bf]at hp
 refine⟨Nat.le_of_ble_eq_true rfl,L0,al _,?_⟩
 ·unfold ae Tryz.f27
  try unfold cW
  simp only[go_sem,Nat.reduceBEq,Nat.reduceLeDiff,Nat.reduceLT,decide_true,Nat.reduceAdd,Nat.reduceSub,Nat.reduceMul,Int.reduceLE,Int.reduceLT,Int.reduceToNat,Int.reduceNeg,reduceCtorEq]
  all_goals exact cl
def aJ (x:Deed)(known:Int):Bool:=(decide (x.known≤known))
@[go_sem] def iC:List SV→Option Con:=(pD .deed fun x=>(pX .int fun known=>(pE (.det True (.v (.bool (aJ x known)))))))
theorem lO:FnOk Tryz.prog 28 iC:=by
 have hG:ConsOk Tryz.prog (mkG [] []):=aP cg0 cg0
 refine cb [.o] mixed aC hG (fn:=Tryz.f28) (c:=ae Tryz.f28) (by kernel_rfl) (by kernel_rfl) (by kernel_rfl) (by kernel_rfl) (cr fun x=>(rC fun known=>(bj (fun hp=>?_))))
 dsimp only[bf]at hp
 refine⟨Nat.le_of_ble_eq_true rfl,L0,al _,?_⟩
 ·unfold ae Tryz.f28
  try unfold aJ
  simp only[go_sem,Nat.reduceBEq,Nat.reduceLeDiff,Nat.reduceLT,decide_true,Nat.reduceAdd,Nat.reduceSub,Nat.reduceMul,Int.reduceLE,Int.reduceLT,Int.reduceToNat,Int.reduceNeg,reduceCtorEq]
  all_goals exact cl
def bv (x:Deed)(q_:List (Int×Bool)):Bool:=((!(cC .int .bool q_ x.no))&&((x.kind !=4) ||(!(cC .int .bool q_ x.of_))))
@[go_sem] def iD:List SV→Option Con:=(pD .deed fun x=>(pXM .int .bool fun q_=>(pE (.det True (.v (.bool (bv x q_)))))))
theorem lP:FnOk Tryz.prog 29 iD:=by
 have hG:ConsOk Tryz.prog (mkG [] []):=aP cg0 cg0
 refine cb [.o] mixed aC hG (fn:=Tryz.f29) (c:=ae Tryz.f29) (by kernel_rfl) (by kernel_rfl) (by kernel_rfl) (by kernel_rfl) (cr fun x=>(xe fun q_=>(bj (fun hp=>?_))))
 dsimp only[bf]at hp
 refine⟨Nat.le_of_ble_eq_true rfl,L0,al _,?_⟩
 ·unfold ae Tryz.f29
  try unfold bv
  simp only[go_sem,Nat.reduceBEq,Nat.reduceLeDiff,Nat.reduceLT,decide_true,Nat.reduceAdd,Nat.reduceSub,Nat.reduceMul,Int.reduceLE,Int.reduceLT,Int.reduceToNat,Int.reduceNeg,reduceCtorEq]
  all_goals exact cl
@[go_sem] def ii (l_:List Deed)(v:Deed)(k_0:Nat)(s_0:List Deed):Empty⊕(List Deed):=(bif(cW (l_.getD k_0 (default:Deed)) v)then .inr (s_0++([(l_.getD k_0 (default:Deed))]))else .inr s_0)
def i9 (l_:List Deed)(v:Deed)(k_0:Nat)(s_0:List Deed):Prop:=((cW (l_.getD k_0 (default:Deed)) v)=true→((s_0++([(l_.getD k_0 (default:Deed))])).length*88≤im))
def gH (l_:List Deed)(v:Deed):List Deed:=(match ax (ii l_ v) l_.length 0 ([])with| .inl x=>x.elim| .inr s_0=>s_0)
def gm (l_:List Deed)(v:Deed):Prop:=(l_.length≤b_→okI (ii l_ v) (i9 l_ v) l_.length 0 ([]))
noncomputable def n9:List SV→List Ob→Option HCon:=ew (fun x_:(List Deed)×Deed=>[.rs .deed x_.1,.fn 27 [] [.ptr 0 0]]) (fun x_=>[.cells (cellsOf .deed x_.2)]) (fun x_=>dA (gm x_.1 x_.2) (.os 1) [.cells (cellsOf .deed x_.2),.row .deed (gH x_.1 x_.2)])
@[go_sem] theorem BV (l_:List Deed)(v:Deed):n9 ([.rs .deed l_,.fn (27:Nat) [] [.ptr 0 0]]) ([.cells [.v (.int .i64 v.no),.v (.int .i64 v.kind),.v (.int .i64 v.right),.v (.int .i64 v.since),.v (.int .i64 v.to),.rs .part v.parts,.v (.int .i64 v.of_),.v (.int .i64 v.at_),.v (.int .i64 v.known)]])=some (dA (gm l_ v) (.os 1) [.cells (cellsOf .deed v),.row .deed (gH l_ v)]):=dw (A:=fun x_:(List Deed)×Deed=>[.rs .deed x_.1,.fn 27 [] [.ptr 0 0]]) (H:=fun x_=>[.cells (cellsOf .deed x_.2)]) (K:=fun x_=>dA (gm x_.1 x_.2) (.os 1) [.cells (cellsOf .deed x_.2),.row .deed (gH x_.1 x_.2)]) (x:=(l_,v))
theorem Db:FnOkO Tryz.prog 26 (n9):=by
 have hG:ConsOk Tryz.prog (mkG [(27,fun l=>i7 (dL [.st .deed,.o] l))] []):=aP (cgc (mE.norm [.st .deed,.o]) cg0) cg0
 refine ed mixed aC hG (fn:=Tryz.f26) (c:=ae Tryz.f26) (by kernel_rfl) (by kernel_rfl) (by kernel_rfl) (by kernel_rfl) fun l o con h=>?_
 obtain⟨⟨l_,v⟩,rfl,rfl,rfl⟩:=cA h
 clear h
 try dsimp only
 refine⟨_,_,_,rfl,fun hp=>?_⟩
 unfold gm at hp
 refine⟨Nat.le_of_ble_eq_true rfl,(fun id st=>bif Nat.beq id 0 then some (LCR (ρ:=Empty) (σ:=(List Deed)) 1 [.slot 4 (.row .deed ([]))] [0,1] (fun k_0 s_0=>⟨[(1,.fn 27 [] [.ptr 0 0]),(4,.os 1),(7,.rs .deed l_),(8,.v (.int .i64 (l_.length:Int))),(9,.v (.int .i64 (k_0:Int)))],[.cells (cellsOf .deed v),.row .deed s_0]⟩) (ii l_ v) (i9 l_ v) l_.length ([]) (l_.length≤b_) ((·.elim)) ((·.elim)) st)else none),?_,?_⟩
 ·unfold ae Tryz.f26
  simp only[ap,true_and,and_true,and_assoc]
  ·refine dF mixed aC hG (by kernel_rfl) (fun _=>rfl) (l_.length:Int) rfl kV (fun hb0 k_0 s_0 hlt0 hq0 hw hc=>⟨L0,al _,?_⟩) (fun hb0 s_0 hc=>?_)
   ·unfold i9 at hq0
    try simp only[hw,Int.toNat_natCast]at hq0
    exact wh
   ·exact wi
 ·unfold ae Tryz.f26
  try unfold gH
  simp only[go_sem,Nat.reduceBEq,Nat.reduceLeDiff,Nat.reduceLT,decide_true,Nat.reduceAdd,Nat.reduceSub,Nat.reduceMul,Int.reduceLE,Int.reduceLT,Int.reduceToNat,Int.reduceNeg,reduceCtorEq]
  all_goals exact nR
@[go_sem] def ij (l_:List Deed)(known:Int)(k_0:Nat)(s_0:List Deed):Empty⊕(List Deed):=(bif(aJ (l_.getD k_0 (default:Deed)) known)then .inr (s_0++([(l_.getD k_0 (default:Deed))]))else .inr s_0)
def i_ (l_:List Deed)(known:Int)(k_0:Nat)(s_0:List Deed):Prop:=((aJ (l_.getD k_0 (default:Deed)) known)=true→((s_0++([(l_.getD k_0 (default:Deed))])).length*88≤im))
def bG (l_:List Deed)(known:Int):List Deed:=(match ax (ij l_ known) l_.length 0 ([])with| .inl x=>x.elim| .inr s_0=>s_0)
def eF (l_:List Deed)(known:Int):Prop:=(l_.length≤b_→okI (ij l_ known) (i_ l_ known) l_.length 0 ([]))
noncomputable def gn:List SV→List Ob→Option HCon:=ew (fun x_:(List Deed)×Int=>[.rs .deed x_.1,.fn 28 [] [.ptr 0 0]]) (fun x_=>[.cells [.v (.int .i64 x_.2)]]) (fun x_=>dA (eF x_.1 x_.2) (.os 1) [.cells [.v (.int .i64 x_.2)],.row .deed (bG x_.1 x_.2)])
@[go_sem] theorem qQ (l_:List Deed)(known:Int):gn ([.rs .deed l_,.fn (28:Nat) [] [.ptr 0 0]]) ([.cells [.v (.int .i64 known)]])=some (dA (eF l_ known) (.os 1) [.cells [.v (.int .i64 known)],.row .deed (bG l_ known)]):=dw (A:=fun x_:(List Deed)×Int=>[.rs .deed x_.1,.fn 28 [] [.ptr 0 0]]) (H:=fun x_=>[.cells [.v (.int .i64 x_.2)]]) (K:=fun x_=>dA (eF x_.1 x_.2) (.os 1) [.cells [.v (.int .i64 x_.2)],.row .deed (bG x_.1 x_.2)]) (x:=(l_,known))
theorem sH:FnOkO Tryz.prog 26 (gn):=by
 have hG:ConsOk Tryz.prog (mkG [(28,fun l=>iC (dL [.st .deed,.o] l))] []):=aP (cgc (lO.norm [.st .deed,.o]) cg0) cg0
 refine ed mixed aC hG (fn:=Tryz.f26) (c:=ae Tryz.f26) (by kernel_rfl) (by kernel_rfl) (by kernel_rfl) (by kernel_rfl) fun l o con h=>?_
 obtain⟨⟨l_,known⟩,rfl,rfl,rfl⟩:=cA h
 clear h
 try dsimp only
 refine⟨_,_,_,rfl,fun hp=>?_⟩
 unfold eF at hp
 refine⟨Nat.le_of_ble_eq_true rfl,(fun id st=>bif Nat.beq id 0 then some (LCR (ρ:=Empty) (σ:=(List Deed)) 1 [.slot 4 (.row .deed ([]))] [0,1] (fun k_0 s_0=>⟨[(1,.fn 28 [] [.ptr 0 0]),(4,.os 1),(7,.rs .deed l_),(8,.v (.int .i64 (l_.length:Int))),(9,.v (.int .i64 (k_0:Int)))],[.cells [.v (.int .i64 known)],.row .deed s_0]⟩) (ij l_ known) (i_ l_ known) l_.length ([]) (l_.length≤b_) ((·.elim)) ((·.elim)) st)else none),?_,?_⟩
 ·unfold ae Tryz.f26
  simp only[ap,true_and,and_true,and_assoc]
  ·refine dF mixed aC hG (by kernel_rfl) (fun _=>rfl) (l_.length:Int) rfl kV (fun hb0 k_0 s_0 hlt0 hq0 hw hc=>⟨L0,al _,?_⟩) (fun hb0 s_0 hc=>?_)
   ·unfold i_ at hq0
    try simp only[hw,Int.toNat_natCast]at hq0
    exact wh
   ·exact wi
 ·unfold ae Tryz.f26
  try unfold bG
  simp only[go_sem,Nat.reduceBEq,Nat.reduceLeDiff,Nat.reduceLT,decide_true,Nat.reduceAdd,Nat.reduceSub,Nat.reduceMul,Int.reduceLE,Int.reduceLT,Int.reduceToNat,Int.reduceNeg,reduceCtorEq]
  all_goals exact nR
@[go_sem] def ik (l_:List Deed)(q_:List (Int×Bool))(k_0:Nat)(s_0:List Deed):Empty⊕(List Deed):=(bif(bv (l_.getD k_0 (default:Deed)) q_)then .inr (s_0++([(l_.getD k_0 (default:Deed))]))else .inr s_0)
def ja (l_:List Deed)(q_:List (Int×Bool))(k_0:Nat)(s_0:List Deed):Prop:=((bv (l_.getD k_0 (default:Deed)) q_)=true→((s_0++([(l_.getD k_0 (default:Deed))])).length*88≤im))
def c_ (l_:List Deed)(q_:List (Int×Bool)):List Deed:=(match ax (ik l_ q_) l_.length 0 ([])with| .inl x=>x.elim| .inr s_0=>s_0)
def eG (l_:List Deed)(q_:List (Int×Bool)):Prop:=(l_.length≤b_→okI (ik l_ q_) (ja l_ q_) l_.length 0 ([]))
noncomputable def ll:List SV→List Ob→Option HCon:=ew (fun x_:(List Deed)×(List (Int×Bool)) =>[.os 0,.fn 29 [] [.ptr 1 0]]) (fun x_=>[.row .deed x_.1,.cells [.os 2],.mp .int .bool x_.2 none]) (fun x_=>dA (eG x_.1 x_.2) (.os 3) [.row .deed x_.1,.cells [.os 2],.mp .int .bool x_.2 none,.row .deed (c_ x_.1 x_.2)])
@[go_sem] theorem qR (l_:List Deed)(q_:List (Int×Bool)){p2_:Option (Nat×Option Tag.int.T)}(hp2_:p2_=none):ll ([.os 0,.fn (29:Nat) [] [.ptr 1 0]]) ([.row .deed l_,.cells [.os 2],.mp .int .bool q_ p2_])=some (dA (eG l_ q_) (.os 3) [.row .deed l_,.cells [.os 2],.mp .int .bool q_ none,.row .deed (c_ l_ q_)]):=by
 subst hp2_;exact dw (A:=fun x_:(List Deed)×(List (Int×Bool)) =>[.os 0,.fn 29 [] [.ptr 1 0]]) (H:=fun x_=>[.row .deed x_.1,.cells [.os 2],.mp .int .bool x_.2 none]) (K:=fun x_=>dA (eG x_.1 x_.2) (.os 3) [.row .deed x_.1,.cells [.os 2],.mp .int .bool x_.2 none,.row .deed (c_ x_.1 x_.2)]) (x:=(l_,q_))
theorem sI:FnOkO Tryz.prog 26 (ll):=by
 have hG:ConsOk Tryz.prog (mkG [(29,fun l=>iD (dL [.st .deed,.o] l))] []):=aP (cgc (lP.norm [.st .deed,.o]) cg0) cg0
 refine ed mixed aC hG (fn:=Tryz.f26) (c:=ae Tryz.f26) (by kernel_rfl) (by kernel_rfl) (by kernel_rfl) (by kernel_rfl) fun l o con h=>?_
 obtain⟨⟨l_,q_⟩,rfl,rfl,rfl⟩:=cA h
 clear h
 try dsimp only
 refine⟨_,_,_,rfl,fun hp=>?_⟩
 unfold eG at hp
 refine⟨Nat.le_of_ble_eq_true rfl,(fun id st=>bif Nat.beq id 0 then some (LCR (ρ:=Empty) (σ:=(List Deed)) 3 [.slot 4 (.row .deed ([]))] [0,1,2,3] (fun k_0 s_0=>⟨[(1,.fn 29 [] [.ptr 1 0]),(4,.os 3),(7,.os 0),(8,.v (.int .i64 (l_.length:Int))),(9,.v (.int .i64 (k_0:Int)))],[.row .deed l_,.cells [.os 2],.mp .int .bool q_ none,.row .deed s_0]⟩) (ik l_ q_) (ja l_ q_) l_.length ([]) (l_.length≤b_) ((·.elim)) ((·.elim)) st)else none),?_,?_⟩
 ·unfold ae Tryz.f26
  simp only[ap,true_and,and_true,and_assoc]
  ·refine dF mixed aC hG (by kernel_rfl) (fun _=>rfl) (l_.length:Int) rfl kV (fun hb0 k_0 s_0 hlt0 hq0 hw hc=>⟨L0,al _,?_⟩) (fun hb0 s_0 hc=>?_)
   ·unfold ja at hq0
    try simp only[hw,Int.toNat_natCast]at hq0
    exact C7
   ·exact C8
 ·unfold ae Tryz.f26
  try unfold c_
  simp only[go_sem,Nat.reduceBEq,Nat.reduceLeDiff,Nat.reduceLT,decide_true,Nat.reduceAdd,Nat.reduceSub,Nat.reduceMul,Int.reduceLE,Int.reduceLT,Int.reduceToNat,Int.reduceNeg,reduceCtorEq]
  all_goals exact uo
noncomputable def jx:List SV→List Ob→Option HCon:=fun l h=>orC (gn l h) (ll l h)
theorem zf:FnOkO Tryz.prog 26 jx:=FnOkO.or sH sI
@[go_sem] theorem F6 (l_:List Deed)(known:Int):jx ([.rs .deed l_,.fn (28:Nat) [] [.ptr 0 0]]) ([.cells [.v (.int .i64 known)]])=some (dA (eF l_ known) (.os 1) [.cells [.v (.int .i64 known)],.row .deed (bG l_ known)]):=by
 unfold jx
 rw[qQ];rfl
@[go_sem] theorem FL (l_:List Deed)(q_:List (Int×Bool)){p2_:Option (Nat×Option Tag.int.T)}(hp2_:p2_=none):jx ([.os 0,.fn (29:Nat) [] [.ptr 1 0]]) ([.row .deed l_,.cells [.os 2],.mp .int .bool q_ p2_])=some (dA (eG l_ q_) (.os 3) [.row .deed l_,.cells [.os 2],.mp .int .bool q_ none,.row .deed (c_ l_ q_)]):=by
 unfold jx
 have e:gn ([.os 0,.fn (29:Nat) [] [.ptr 1 0]]) ([.row .deed l_,.cells [.os 2],.mp .int .bool q_ p2_])=none:=by
  unfold gn ew
  rw[dif_neg]
  rintro⟨x,e,_⟩
  simp at e
 rw[e,qR _ _ hp2_];rfl
end Go.Sx
end
section
namespace Go.Sx
open Go.Proofs
theorem pu {α:Type}{step:Nat→List α→Empty⊕List α}(l:List α)(d:α)(P:α→Bool)(h:∀ k s,k<l.length→step k s=bif P (l.getD k d)then .inr (s++[l.getD k d])else .inr s):ax step l.length 0 []=.inr (l.filter P):=by
 obtain⟨r,h1,h2⟩:=mT (step:=step) (fun k s=>s=(l.take k).filter P) l.length 0 ([]:List α) (by simp) (fun j s _ hj hs=>by
  rw[Nat.zero_add]at hj
  rw[h j s hj,cP l d hj,List.filter_append,hs]
  cases hp:P (l.getD j d)with
  |true=>exact⟨_,rfl,by rw[List.filter_cons_of_pos hp];rfl⟩
  |false=>exact⟨_,rfl,by rw[List.filter_cons_of_neg (by rw[hp];simp)];simp⟩)
 rw[h1,h2,Nat.zero_add,List.take_length]
theorem pw {α:Type}{step:Nat→List α→Empty⊕List α}{p:Nat→List α→Prop}(l:List α)(d:α)(P:α→Bool)(h:∀ k s,k<l.length→step k s=bif P (l.getD k d)then .inr (s++[l.getD k d])else .inr s)(hp:∀ k s,k<l.length→s.length≤k→p k s):okI step p l.length 0 []:=by
 refine sR (fun k s=>s.length≤k) _ _ _ (Nat.le_refl _) fun j s _ hj hs=>⟨hp j s (by omega) hs,fun s' e=>?_⟩
 rw[h j s (by omega)]at e
 cases hc:P (l.getD j d)with
 |true=>rw[hc]at e;cases e;simp;omega
 |false=>rw[hc]at e;cases e;omega
theorem xD {α:Type}(s:List α)(x:α):(s++[x]).length=s.length+1:=by simp
theorem Dc (l:List Deed)(v:Deed)(hl:l.length≤512):gm l v∧gH l v=l.filter fun x=>cW x v:=by
 refine⟨fun _=>pw l default (fun x=>cW x v) (fun _ _ _=>rfl) fun k s hk hs=>fun _=>by rw[xD];unfold im;omega,?_⟩
 unfold gH
 rw[pu (step:=ii l v) l default (fun x=>cW x v) fun _ _ _=>rfl]
theorem sJ (l:List Deed)(v:Int)(hl:l.length≤512):eF l v∧bG l v=l.filter fun x=>aJ x v:=by
 refine⟨fun _=>pw l default (fun x=>aJ x v) (fun _ _ _=>rfl) fun k s hk hs=>fun _=>by rw[xD];unfold im;omega,?_⟩
 unfold bG
 rw[pu (step:=ij l v) l default (fun x=>aJ x v) fun _ _ _=>rfl]
theorem sK (l:List Deed)(v:List (Int×Bool))(hl:l.length≤512):eG l v∧c_ l v=l.filter fun x=>bv x v:=by
 refine⟨fun _=>pw l default (fun x=>bv x v) (fun _ _ _=>rfl) fun k s hk hs=>fun _=>by rw[xD];unfold im;omega,?_⟩
 unfold c_
 rw[pu (step:=ik l v) l default (fun x=>bv x v) fun _ _ _=>rfl]
theorem BW (a b:List Holding):d4 a b:=fun _ _ h=>oo _ _ _ fun j _ _ hj _=>by
 simp only[bne_eq_false_iff_eq]at h
 omega
theorem AO (a:List Holding):dv a a=true:=by
 unfold dv
 have e:ax (dP a a) a.length 0 ()=.inr ():=jZ.2 fun j _=>by
  unfold dP;simp
 rw[e];simp
theorem zg {d:District}{l l':List Deed}{hour known:Int}(h:aj d l=0)(h':aj d l'=0)(e:mw l hour known=mw l' hour known):aw d l hour known=aw d l' hour known:=by
 rw[(n8 d l hour known).2,(n8 d l' hour known).2,h,h']
 unfold qI
 rw[e]
theorem If {l:List Deed}(h:Asc l){x y:Deed}(hx:x∈l)(hy:y∈l)(e:x.no=y.no):x=y:=by
 rw[←nW h hx,←nW h hy,e]
theorem Deeds.target {d:District}{l:List Deed}(h:Deeds d l){x y:Deed}(hx:x∈l)(hk:x.kind=4)(hy:y∈l)(e:y.no=x.of_):y.kind≠4∧y.known≤x.known∧y.no<x.no:=by
 obtain⟨z,hz,h1,h2,h3,h4⟩:=h.void x hx hk
 have:y=z:=If h.asc hy hz (by rw[e,h1])
 rw[this];exact⟨h2,h3,h4⟩
theorem AP {l:List Deed}{known n:Int}:lL l known n=true↔∃ u∈l,u.kind=4∧u.known≤known∧u.of_=n:=by
 unfold lL
 rw[List.any_eq_true]
 simp only[Bool.and_eq_true,beq_iff_eq,decide_eq_true_eq,and_assoc]
def lv (l:List Deed)(hour known:Int)(x:Deed):Bool:= !((((x.kind==4) ||(decide (x.known > known))) ||(decide (x.at_ > hour))) ||lL l known x.no)
theorem xE {l:List Deed}{hour known:Int}{x:Deed}:lv l hour known x=true↔x.kind≠4∧x.known≤known∧x.at_≤hour∧¬ ∃ u∈l,u.kind=4∧u.known≤known∧u.of_=x.no:=by
 unfold lv
 rw[←AP]
 simp only[Bool.not_eq_true',Bool.or_eq_false_iff,beq_eq_false_iff_ne,decide_eq_false_iff_not,Bool.not_eq_true,and_assoc]
 constructor
 ·rintro⟨a,b,c,e⟩;exact⟨a,by omega,by omega,e⟩
 ·rintro⟨a,b,c,e⟩;exact⟨a,by omega,by omega,e⟩
theorem sp (l:List Deed)(hour known:Int)(p:Deed→Bool)(h:∀ x∈l,lv l hour known x=true↔p x=true∧lv (l.filter p) hour known x=true):mw l hour known=mw (l.filter p) hour known:=by
 show l.filter (lv l hour known)=(l.filter p).filter (lv (l.filter p) hour known)
 rw[List.filter_filter]
 refine List.filter_congr fun x hx=>?_
 rw[Bool.eq_iff_iff,Bool.and_eq_true,h x hx,and_comm]
end Go.Sx
end
section
namespace Go.Sx
open Go.Proofs
set_option maxRecDepth 100000
set_option linter.unusedSimpArgs false
@[go_sem] def dI (a1:List Deed)(a2:Int)(k_0:Nat)(s_0:List (Int×Bool)):Empty⊕(List (Int×Bool)):=.inr (et .int .bool s_0 ((a1.getD k_0 (default:Deed)).no) (((a1.getD k_0 (default:Deed)).kind !=4)&&(decide ((a1.getD k_0 (default:Deed)).at_ > a2))))
def dK (a0:District)(a1:List Deed)(a2:Int)(a3:Int):Bool:=(bif(!jv)then false else(bif((!(kJ a0 a1)) ||((aj a0 a1) !=0))then true else(match ax (dI a1 a2) a1.length 0 ([])with| .inl x=>x.elim| .inr s_0=>(((((aw a0 a1 a2 a3).2==(aw a0 (bG a1 a3) a2 a3).2)&&((aw a0 a1 a2 a3).2==(aw a0 (c_ (bG a1 a3) s_0) a2 a3).2))&&(dv ((aw a0 a1 a2 a3).1) ((aw a0 (bG a1 a3) a2 a3).1)))&&(dv ((aw a0 a1 a2 a3).1) ((aw a0 (c_ (bG a1 a3) s_0) a2 a3).1))))))
def dl (a0:District)(a1:List Deed)(a2:Int)(a3:Int):Prop:=((i0)∧((!jv)=false→(((!(kJ a0 a1))=false→(c7 a0 a1))∧(((!(kJ a0 a1)) ||((aj a0 a1) !=0))=false→(a1.length≤b_→(∀ s_0,ax (dI a1 a2) a1.length 0 ([])=.inr s_0→((eF a1 a3)∧((eG (bG a1 a3) s_0)∧((dE a0 a1 a2 a3)∧((dE a0 (bG a1 a3) a2 a3)∧((dE a0 (c_ (bG a1 a3) s_0) a2 a3)∧(((((aw a0 a1 a2 a3).2==(aw a0 (bG a1 a3) a2 a3).2)&&((aw a0 a1 a2 a3).2==(aw a0 (c_ (bG a1 a3) s_0) a2 a3).2))=true→(d4 ((aw a0 a1 a2 a3).1) ((aw a0 (bG a1 a3) a2 a3).1)))∧(((((aw a0 a1 a2 a3).2==(aw a0 (bG a1 a3) a2 a3).2)&&((aw a0 a1 a2 a3).2==(aw a0 (c_ (bG a1 a3) s_0) a2 a3).2))&&(dv ((aw a0 a1 a2 a3).1) ((aw a0 (bG a1 a3) a2 a3).1)))=true→(d4 ((aw a0 a1 a2 a3).1) ((aw a0 (c_ (bG a1 a3) s_0) a2 a3).1)))))))))))))))
@[go_sem] def fV:List SV→Option Con:=(pD .district fun a0=>(pR .deed fun a1=>(pI fun a2=>(pI fun a3=>(pE (.det (dl a0 a1 a2 a3) (.v (.bool (dK a0 a1 a2 a3)))))))))
theorem mX:FnOk Tryz.prog 7 fV:=by
 have hG:ConsOk Tryz.prog (mkG [(11,qM),(12,fun l=>so (dL [.st .district,.sl .deed] l)),(15,fun l=>eo (dL [.st .district,.sl .deed] l)),(18,fun l=>lM (dL [.st .district,.sl .deed,.o,.o] l)),(22,fun l=>j7 (dL [.sl .holding,.sl .holding] l))] [(26,jx)]):=aP (cgc u9 (cgc (xC.norm [.st .district,.sl .deed]) (cgc (eU.norm [.st .district,.sl .deed]) (cgc (nZ.norm [.st .district,.sl .deed,.o,.o]) (cgc (nt.norm [.sl .holding,.sl .holding]) cg0))))) (cgc zf cg0)
 refine cb [.o] mixed aC hG (fn:=Tryz.f7) (c:=ae Tryz.f7) (by kernel_rfl) (by kernel_rfl) (by kernel_rfl) (by kernel_rfl) (cr fun a0=>(fD fun a1=>(dU fun a2=>(dU fun a3=>(bj (fun hp=>?_))))))
 dsimp only[bf]at hp
 unfold dl at hp
 refine⟨Nat.le_of_ble_eq_true rfl,(fun id st=>bif Nat.beq id 0 then some (LCR (ρ:=Empty) (σ:=(List (Int×Bool))) 4 [] [0,1,2,3] (fun k_0 s_0=>⟨[(1,.rs .deed a1),(2,.v (.int .i64 a2)),(4,.ptr 0 0),(7,.ptr 1 0),(9,.ptr 3 0),(33,.rs .deed a1),(34,.v (.int .i64 (a1.length:Int))),(35,.v (.int .i64 (k_0:Int)))],[.cells (cellsOf .district a0),.cells [.v (.int .i64 a3)],.mp .int .bool s_0 none,.cells [.os 2]]⟩) (dI a1 a2) pT a1.length ([]) (a1.length≤b_) ((·.elim)) ((·.elim)) st)else none),?_,?_⟩
 ·unfold ae Tryz.f7
  simp only[ap,true_and,and_true]
  ·refine dF mixed aC hG (by kernel_rfl) (fun _=>rfl) (a1.length:Int) rfl kV (fun hb0 k_0 s_0 hlt0 _ hw hc=>⟨L0,al _,?_⟩) (fun hb0 s_0 hc=>?_)
   ·exact uq
   ·exact ur
 ·unfold ae Tryz.f7
  try unfold dK
  simp only[go_sem,Nat.reduceBEq,Nat.reduceLeDiff,Nat.reduceLT,decide_true,Nat.reduceAdd,Nat.reduceSub,Nat.reduceMul,Int.reduceLE,Int.reduceLT,Int.reduceToNat,Int.reduceNeg,reduceCtorEq]
  all_goals exact clQ
end Go.Sx
end
section
namespace Go.Sx
open Go.Proofs
def jy (l:List Deed)(h:Int):List (Int×Bool):=l.foldl (fun m x=>et .int .bool m x.no ((x.kind !=4)&&(decide (x.at_ > h)))) []
theorem sq (l:List Deed)(x:Deed)(h:Int):jy (l++[x]) h=et .int .bool (jy l h) x.no ((x.kind !=4)&&(decide (x.at_ > h))):=by
 unfold jy;rw[List.foldl_append];rfl
theorem FM (l:List Deed)(h:Int):ax (dI l h) l.length 0 []=.inr (jy l h):=by
 obtain⟨r,h1,h2⟩:=mT (step:=dI l h) (fun k s=>s=jy (l.take k) h) l.length 0 ([]:List (Int×Bool)) rfl (fun j s _ hj hs=>by
  rw[Nat.zero_add]at hj
  refine⟨_,rfl,?_⟩
  rw[cP l default hj,sq,hs])
 rw[h1,h2,Nat.zero_add,List.take_length]
theorem zh {l:List Deed}(hA:Asc l)(h:Int){x:Deed}(hx:x∈l):cC .int .bool (jy l h) x.no=((x.kind !=4)&&(decide (x.at_ > h))):=by
 have:∀ (r:List Deed),Asc r.reverse→∀ y∈r,cC .int .bool (jy r.reverse h) y.no=((y.kind !=4)&&(decide (y.at_ > h))):=fun r=>by
  induction r with
  |nil=>simp
  |cons x r ih=>
   intro hA y hy
   rw[List.reverse_cons]at hA ⊢
   obtain⟨a1,_,a3⟩:=List.pairwise_append.1 hA
   rw[sq,mu]
   rcases List.mem_cons.1 hy with rfl|hy
   ·rw[if_pos rfl]
   ·have:=a3 y (by simpa using hy) x (by simp)
    rw[if_neg (show ¬y.no=x.no by omega)]
    exact ih a1 y hy
 simpa using this l.reverse (by simpa using hA) x (by simpa using hx)
theorem wj (d:District)(l:List Deed)(h k:Int):dl d l h k∧dK d l h k=true:=by
 unfold dl dK
 rw[K6]
 simp only[Bool.not_true,cond_false]
 cases hf:(!(kJ d l)) ||((aj d l) !=0)with
 |true=>exact⟨⟨FK,fun _=>⟨fun _=>g9 _ _,(fun h=>by cases h)⟩⟩,rfl⟩
 |false=>
  simp only[cond_false]
  simp only[Bool.or_eq_false_iff,bne_eq_false_iff_eq]at hf
  have hc:=hf.2
  have hD:=nX hc
  rw[FM]
  obtain⟨w1,w2⟩:=sJ l k hD.len
  have hL:(l.filter fun x=>aJ x k).length≤512:=Nat.le_trans (List.length_filter_le _ _) hD.len
  obtain⟨o1,o2⟩:=sK (l.filter fun x=>aJ x k) (jy l h) hL
  have p1:∀ x:Deed,aJ x k=true↔x.known≤k:=fun x=>by unfold aJ;rw[decide_eq_true_eq]
  have p2:∀ x:Deed,bv x (jy l h)=true↔cC .int .bool (jy l h) x.no=false∧(x.kind≠4∨cC .int .bool (jy l h) x.of_=false):=fun x=>by
   unfold bv
   simp only[Bool.and_eq_true,Bool.or_eq_true,bne_iff_ne,Bool.not_eq_true']
  have c1:aj d (l.filter fun x=>aJ x k)=0:=qF _ hc fun x hx hp hk y hy he=>by
   rw[p1]at hp ⊢
   have:=(hD.target hx hk hy he).2.1
   omega
  have hD1:=nX c1
  have c2:aj d ((l.filter fun x=>aJ x k).filter fun x=>bv x (jy l h))=0:=qF _ c1 fun x hx hp hk y hy he=>by
   rw[p2]at hp ⊢
   have:=hD1.target hx hk hy he
   rw[he]
   refine⟨hp.2.elim (fun h=>absurd hk h) id,.inl this.1⟩
  have e1:mw l h k=mw (l.filter fun x=>aJ x k) h k:=sp l h k _ fun x hx=>by
   rw[xE,xE,p1]
   constructor
   ·rintro⟨a,b,c,e⟩
    refine⟨b,a,b,c,?_⟩
    rintro⟨u,hu,q⟩
    exact e ⟨u,(List.mem_filter.1 hu).1,q⟩
   ·rintro⟨_,a,b,c,e⟩
    refine⟨a,b,c,?_⟩
    rintro⟨u,hu,q1,q2,q3⟩
    exact e ⟨u,List.mem_filter.2 ⟨hu,(p1 u).2 q2⟩,q1,q2,q3⟩
  have e2:mw (l.filter fun x=>aJ x k) h k=mw ((l.filter fun x=>aJ x k).filter fun x=>bv x (jy l h)) h k:=sp _ h k _ fun x hx=>by
   have hxl:=(List.mem_filter.1 hx).1
   have gx:=zh hD.asc h hxl
   rw[xE,xE,p2]
   constructor
   ·rintro⟨a,b,c,e⟩
    refine⟨⟨?_,.inl a⟩,a,b,c,?_⟩
    ·rw[gx,decide_eq_false (by omega),Bool.and_false]
    ·rintro⟨u,hu,q⟩
     exact e ⟨u,(List.mem_filter.1 hu).1,q⟩
   ·rintro⟨⟨l1,_⟩,a,b,c,e⟩
    refine⟨a,b,c,?_⟩
    rintro⟨u,hu,q1,q2,q3⟩
    refine e ⟨u,List.mem_filter.2 ⟨hu,(p2 u).2 ⟨?_,.inr (by rw[q3];exact l1)⟩⟩,q1,q2,q3⟩
    rw[zh hD.asc h (List.mem_filter.1 hu).1,q1];rfl
  have A1:=zg (d:=d) hc c1 e1
  have A2:=zg (d:=d) hc c2 (e1.trans e2)
  simp only[w2,o2]
  rw[←A1,←A2]
  refine⟨⟨FK,fun _=>⟨fun _=>g9 _ _,fun _ _ s hs=>?_⟩⟩,?_⟩
  ·cases hs
   rw[o2,←A2]
   exact⟨w1,o1,(n8 _ _ _ _).1,(n8 _ _ _ _).1,(n8 _ _ _ _).1,fun _=>BW _ _,fun _=>BW _ _⟩
  ·rw[AO];simp
theorem Ig (d:District)(l:List Deed)(h k:Int)(_: -9223372036854775808≤h∧h≤9223372036854775807)(_: -9223372036854775808≤k∧k≤9223372036854775807):dl d l h k:=(wj d l h k).1
theorem Ih (d:District)(l:List Deed)(h k:Int)(_: -9223372036854775808≤h∧h≤9223372036854775807)(_: -9223372036854775808≤k∧k≤9223372036854775807):dK d l h k=true:=(wj d l h k).2
end Go.Sx
end
section
namespace Go.Sx
open Go.RowKit Go.Deep
section
variable {F:Nat→Prop}{own:Own}{w:World}
def RC (F:Nat→Prop)(own:Own)(w:World)(ks:List Kd)(cs:List Value):Prop:=
 ∃ l:List SV,lQ ks l=true∧l.length=cs.length∧∀ (j:Nat) (s:SV) (v:Value),l[j]? =some s→cs[j]? =some v→Rel F own w s v
theorem zi:∀ {a b:List Kd} {l m:List SV},lQ a l=true→lQ b m=true→lQ (a++b) (l++m)=true
 | [],b,l,m,h1,h2=>by rw[l5 h1];exact h2
 |k::a,b,l,m,h1,h2=>by
  obtain⟨x,r,rfl,e1,e2⟩:=jm h1
  simp only[List.cons_append,lQ,e1,zi e2 h2,Bool.and_self]
theorem RC.nil:RC F own w [] []:=⟨[],rfl,rfl,fun j s v h=>by cases h⟩
theorem RC.app {a b:List Kd}{c d:List Value}(h1:RC F own w a c)(h2:RC F own w b d):RC F own w (a++b) (c++d):=by
 obtain⟨l,f1,n1,r1⟩:=h1
 obtain⟨m,f2,n2,r2⟩:=h2
 refine⟨l++m,zi f1 f2,by simp[n1,n2],fun j s v hs hv=>?_⟩
 by_cases hj:j<l.length
 ·rw[List.getElem?_append_left hj]at hs
  rw[List.getElem?_append_left (by omega)]at hv
  exact r1 j s v hs hv
 ·rw[List.getElem?_append_right (by omega)]at hs
  rw[List.getElem?_append_right (by omega),←n1]at hv
  exact r2 _ s v hs hv
theorem RC.one {k:Kd}{s:SV}{v:Value}(h1:fit k s=true)(h2:Rel F own w s v):RC F own w [k] [v]:=
 ⟨[s],by simp[lQ,h1],rfl,fun j s' v' hs hv=>by
  cases j with
  |zero=>simp only[List.getElem?_cons_zero,Option.some.injEq]at hs hv;subst hs;subst hv;exact h2
  |succ j=>simp at hs⟩
end
def K9:Kd→Kd→Bool
 | .s,.s=>true
 | .b,.b=>true
 | .n a,.n b=>decide (a=b)
 | .r a,.r b=>decide (a=b)
 | .m a c,.m b d=>decide (a=b)&&decide (c=d)
 |_,_=>false
theorem Ii:∀ {a b:Kd},K9 a b=true→a=b:=by
 intro a b h
 cases a <;>cases b <;>simp_all [K9]
def FN:List Kd→List Kd→Bool
 | [],[] =>true
 |a::l,b::m=>K9 a b&&FN l m
 |_,_=>false
theorem BX:∀ {a b:List Kd},FN a b=true→a=b
 | [],[],_=>rfl
 |a::l,b::m,h=>by
  simp only[FN,Bool.and_eq_true]at h
  rw[Ii h.1,BX h.2]
def uJ (P:Program)(g:TypeId→Option (List Kd)):List Field→Nat→Nat→Option (List Kd)
 | [],off,tot=>bif Nat.beq off tot then some []else none
 |f::r,off,tot=>match g f.type with
  |some a=>bif Nat.beq f.offset off&&Nat.beq a.length (P.cellsOf f.type)then(uJ P g r (off+a.length) tot).map (a++ ·)else none
  |none=>none
def AQ (a:List Kd):Nat→List Kd
 |0=>[]
 |n+1=>a++AQ a n
def uK (P:Program):Nat→TypeId→Option (List Kd)
 |0,_=>none
 |n+1,t=>match P.underlying t with
  |some .bool=>some [.b]
  |some (.int k) =>some [.n k]
  |some .string=>some [.s]
  |some (.slice e) =>match xK P e,uK P n e with
   |some k,some ks=>bif FN ks (cH k)&&Nat.beq (P.cellsOf e) (aa k)&&Nat.ble 1 (aa k)then some [.r k]else none
   |_,_=>none
  |some (.struct fs) =>uJ P (uK P n) fs.toList 0 (P.cellsOf t)
  |some (.array m e) =>match uK P n e with
   |some a=>bif Nat.beq a.length (P.cellsOf e)&&Nat.beq (P.cellsOf t) (m*a.length)then some (AQ a m)else none
   |none=>none
  |_=>none
section
variable {H:Type}{enc:TypeId×Value→H}{P:Program}{F:Nat→Prop}{own:Own}{w:World}{base:Nat}{spare:Nat→Bool}{held:Bool}{S:DataW H→Prop}
theorem BY {g:TypeId→Option (List Kd)}(hg:∀ t ks,g t=some ks→∀ (fuel:Nat) (cs:List Value) (x:DataW H×List MemPlace),DataW.trod enc P w base spare held fuel t cs=some x→S x.1→RC F own w ks cs)
  (fuel:Nat) (cs:List Value):∀ (fs:List Field) (off:Nat) (ks:List Kd),uJ P g fs off cs.length=some ks→(∀ f∈fs,∃ x,DataW.trod enc P w base spare held fuel f.type ((cs.drop f.offset).take (P.cellsOf f.type))=some x∧S x.1)→RC F own w ks (cs.drop off)
 | [],off,ks,h,_=>by
  unfold uJ at h
  cases hb:Nat.beq off cs.length with
  |false=>rw[hb]at h;cases h
  |true=>
   rw[hb]at h
   have:off=cs.length:=Nat.eq_of_beq_eq_true hb
   subst this
   cases h
   rw[List.drop_length]
   exact RC.nil
 |f::r,off,ks,h,hx=>by
  unfold uJ at h
  cases ha:g f.type with
  |none=>rw[ha]at h;cases h
  |some a=>
   rw[ha]at h
   dsimp only at h
   cases hb:Nat.beq f.offset off&&Nat.beq a.length (P.cellsOf f.type)with
   |false=>rw[hb]at h;cases h
   |true=>
    rw[hb]at h
    simp only[cond_true,Option.map_eq_some_iff]at h
    obtain⟨ks2,h2,rfl⟩:=h
    rw[Bool.and_eq_true]at hb
    have e1:f.offset=off:=Nat.eq_of_beq_eq_true hb.1
    have e2:a.length=P.cellsOf f.type:=Nat.eq_of_beq_eq_true hb.2
    obtain⟨x,hx1,hs1⟩:=hx f (by simp)
    have h3:=hg _ _ ha _ _ _ hx1 hs1
    have h4:=BY hg fuel cs r (off+a.length) ks2 h2 fun f hf=>hx f (by simp[hf])
    have:=h3.app h4
    rw[e1,←e2]at this
    rwa[←List.drop_drop,List.take_append_drop]at this
theorem BZ {e:TypeId}{a:List Kd}(ha:∀ (fuel:Nat) (cs:List Value) (x:DataW H×List MemPlace),DataW.trod enc P w base spare held fuel e cs=some x→S x.1→RC F own w a cs)
  (fuel:Nat):∀ (m:Nat) (cs:List Value),cs.length=m*a.length→(∀ i,i<m→∃ x,DataW.trod enc P w base spare held fuel e ((cs.drop (i*a.length)).take a.length)=some x∧S x.1)→RC F own w (AQ a m) cs
 |0,cs,h,_=>by
  have:cs=[]:=by simpa using h
  subst this
  exact RC.nil
 |m+1,cs,h,hx=>by
  obtain⟨x,hx1,hs1⟩:=hx 0 (by omega)
  rw[Nat.zero_mul,List.drop_zero]at hx1
  have h3:=ha _ _ _ hx1 hs1
  have h4:=BZ ha fuel m (cs.drop a.length) (by rw[List.length_drop,h,Nat.succ_mul];omega) fun i hi=>by
   obtain⟨x,hx2,hs2⟩:=hx (i+1) (by omega)
   refine⟨x,?_,hs2⟩
   rw[List.drop_drop]
   rwa[Nat.succ_mul,Nat.add_comm]at hx2
  have:=h3.app h4
  rwa[List.take_append_drop]at this
structure Small (S:DataW H→Prop):Prop where
 agg:∀ l,S (.agg l)→∀ d∈l,S d
 slice:∀ l m,S (.slice l m)→l.length≤b_∧∀ d∈l,S d
theorem lm (hS:Small S)(hown:∀ b,¬bP F own b):∀ (n:Nat) (t:TypeId) (ks:List Kd),uK P n t=some ks→∀ (fuel:Nat) (cs:List Value) (x:DataW H×List MemPlace),DataW.trod enc P w base spare held fuel t cs=some x→S x.1→RC F own w ks cs
 |0,_,_,h,_,_,_,_,_=>by cases h
 |n+1,t,ks,h,fuel,cs,x,hx,hs=>by
  unfold uK at h
  split at h
  ·rename_i ht
   cases h
   obtain⟨b,rfl,rfl⟩:=DataW.trod_bool ht hx
   exact RC.one (s:=.v (.bool b)) rfl (.v _)
  ·rename_i k ht
   cases h
   obtain⟨m,rfl,rfl,_⟩:=DataW.trod_int ht hx
   exact RC.one (s:=.v (.int k m)) (by simp[fit]) (.v _)
  ·rename_i ht
   cases h
   obtain⟨b,rfl,rfl,_⟩:=DataW.trod_string ht hx
   exact RC.one (s:=.v (.string b)) rfl (.v _)
  ·rename_i e ht
   split at h
   ·rename_i k ks2 hk hks
    cases hb:FN ks2 (cH k)&&Nat.beq (P.cellsOf e) (aa k)&&Nat.ble 1 (aa k)with
    |false=>rw[hb]at h;cases h
    |true=>
     rw[hb]at h
     cases h
     simp only[Bool.and_eq_true]at hb
     have e1:=BX hb.1.1
     have e2:P.cellsOf e=aa k:=Nat.eq_of_beq_eq_true hb.1.2
     have e3:1≤aa k:=Nat.le_of_ble_eq_true hb.2
     subst e1
     rcases open_slice ht hx with⟨rfl,rfl⟩ | ⟨a,len,cap,m,f2,D,Pl,rfl,hb1,hl,hm,hmm,rfl,hel⟩
     ·exact RC.one (s:=.rs k []) (by simp[fit]) .rs0
     ·have hlm:len≤m:=by subst hmm;split <;>omega
      obtain⟨hs1,hs2⟩:=hS.slice _ _ hs
      simp only[List.length_map,List.length_range]at hs1
      have helt:∀ i,i<len→∃ cs',cs'.length=aa k∧(∀ j v,cs'[j]? =some v→w.cell? ((a.add (i*aa k)).add j)=some v)∧RC F own w (cH k) cs':=fun i hi=>by
       obtain⟨cs',h1,h2⟩:=hel i (by omega)
       have h3:=lm hS hown n e (cH k) hks f2 cs' _ h2 (hs2 _ (List.mem_map_of_mem (List.mem_range.2 hi)))
       unfold World.cells? at h1
       split at h1
       ·refine⟨cs',by rw[mapM_some_length h1,List.length_range,e2],fun j v hj=>?_,h3⟩
        have hlt:j<P.cellsOf e:=by
         have:=(List.getElem?_eq_some_iff.1 hj).1
         rwa[mapM_some_length h1,List.length_range]at this
        have:=mapM_some_get h1 j j (by simp[hlt])
        rw[e2]at this
        rw[this,hj]
       ·cases h1
      by_cases h0:len=0
      ·subst h0
       exact RC.one (s:=.rs k []) (by simp[fit]) .rs0
      ·have hsp:a.spot=none:=by
        obtain⟨cs',h1,h2,_⟩:=helt 0 (by omega)
        have:=h2 0 (cs'[0]'(by omega)) (by rw[List.getElem?_eq_getElem])
        rw[Nat.zero_mul]at this
        simp only[Addr.add,if_true]at this
        unfold World.cell? at this
        split at this
        ·cases hsp:a.spot with
         |none=>rfl
         |some q=>rw[hsp]at this;simp at this
        ·cases this
       obtain⟨ab,ao,asp⟩:=a
       dsimp only at hsp
       subst hsp
       haveI:Inhabited k.T:=⟨dm k⟩
       obtain⟨X,hX⟩:=choose_lt (p:=fun i (x:k.T) =>∀ (j:Nat) (s:SV),(cellsOf k x)[j]? =some s→∃ v,w.cell? ⟨ab,ao+i*aa k+j,none⟩=some v∧Rel F own w s v) (n:=len) fun i hi=>by
        obtain⟨cs',h1,h2,l,h3,h4,h5⟩:=helt i hi
        refine⟨mkE k l,fun j s hj=>?_⟩
        rw[jP (k:=k) (l:=l) (x:=mkE k l) (by unfold lR;rw[h3];rfl)]at hj
        have hlt:j<cs'.length:=by
         have:=(List.getElem?_eq_some_iff.1 hj).1
         omega
        refine⟨cs'[j],?_,h5 j s _ hj (List.getElem?_eq_getElem hlt)⟩
        have:=h2 j cs'[j] (List.getElem?_eq_getElem hlt)
        have hadd:∀ p q,((⟨ab,ao,none⟩:Addr).add p).add q=⟨ab,ao+p+q,none⟩:=fun p q=>by
         unfold Addr.add
         by_cases hp:p=0 <;>by_cases hq:q=0 <;>simp[hp,hq]
        rwa[hadd]at this
       have hL:((List.range len).map X).length=len:=by simp
       refine RC.one (s:=.rs k ((List.range len).map X)) (by simp[fit]) ?_
       have hget:∀ (i:Nat) (x:k.T),((List.range len).map X)[i]? =some x→i<len∧x=X i:=fun i x hi=>by
        obtain⟨h1,h2⟩:=List.getElem?_eq_some_iff.1 hi
        rw[hL]at h1
        simp only[List.getElem_map,List.getElem_range]at h2
        subst h2
        exact⟨h1,rfl⟩
       have:=Rel.rs (F:=F) (own:=own) (w:=w) (k:=k) (l:=(List.range len).map X) (b:=ab) (o:=ao) (cap:=cap) (fun i j=>(w.cell? ⟨ab,ao+i*aa k+j,none⟩).getD undef) (by rw[hL];exact hl) (by rw[hL];exact hs1)
        (fun i x hi j s hj=>by
         obtain⟨h1,rfl⟩:=hget i x hi
         obtain⟨v,h2,_⟩:=hX i h1 j s hj
         exact⟨hown _,by rw[h2];rfl⟩)
        (fun i x hi j s hj=>by
         obtain⟨h1,rfl⟩:=hget i x hi
         obtain⟨v,h2,h3⟩:=hX i h1 j s hj
         rw[h2];exact h3)
       rwa[hL]at this
   ·cases h
  ·rename_i fs ht
   obtain⟨xs,m,rfl,rfl,hl,hlen,hf⟩:=DataW.trod_struct ht hx
   rw[←hl]at h
   have:=BY (lm hS hown n) m cs fs.toList 0 ks h fun f hfm=>by
    obtain⟨i,hi,rfl⟩:=List.getElem_of_mem hfm
    have hi':i<fs.size:=by simpa using hi
    have h1:=hf i fs[i] (by simp[hi'])
    rw[List.getElem?_eq_getElem (by omega)]at h1
    refine⟨_,by simpa using h1,hS.agg _ hs _ (List.mem_map_of_mem (List.getElem_mem _))⟩
   simpa using this
  ·rename_i m e ht
   split at h
   ·rename_i a ha
    cases hb:Nat.beq a.length (P.cellsOf e)&&Nat.beq (P.cellsOf t) (m*a.length)with
    |false=>rw[hb]at h;cases h
    |true=>
     rw[hb]at h
     cases h
     rw[Bool.and_eq_true]at hb
     have e1:a.length=P.cellsOf e:=Nat.eq_of_beq_eq_true hb.1
     have e2:P.cellsOf t=m*a.length:=Nat.eq_of_beq_eq_true hb.2
     obtain⟨xs,f2,rfl,rfl,hl,hlen,hf⟩:=DataW.trod_array ht hx
     refine BZ (lm hS hown n e a ha) f2 m cs (by rw[hl,e2]) fun i hi=>?_
     have h1:=hf i hi
     rw[List.getElem?_eq_getElem (by omega),←e1]at h1
     exact⟨_,h1,hS.agg _ hs _ (List.mem_map_of_mem (List.getElem_mem _))⟩
   ·cases h
  ·cases h
end
end Go.Sx
end
section
namespace Go.Sx
open Go.Proofs
section
variable {F:Nat→Prop}{own:Own}{w:World}
theorem Ij {k:Tag}{cs:Array Value}(h:RC F own w (cH k) cs.toList):∃ x:k.T,Rel F own w (.agg (cellsOf k x)) (.agg cs):=by
 obtain⟨l,h3,h4,h5⟩:=h
 refine⟨mkE k l,?_⟩
 rw[jP (k:=k) (l:=l) (x:=mkE k l) (by unfold lR;rw[h3];rfl)]
 refine .agg (by simpa using h4.symm) fun j s hj=>?_
 have hlt:j<cs.size:=by
  have:=(List.getElem?_eq_some_iff.1 hj).1
  simpa[h4]using this
 exact h5 j s _ hj (by simp[Array.getD,hlt])
theorem K_ {k:Tag}{v:Value}(h:RC F own w [.r k] [v]):∃ l:List k.T,Rel F own w (.rs k l) v:=by
 obtain⟨l,h3,h4,h5⟩:=h
 obtain⟨x,r,rfl,h6,h7⟩:=jm h3
 have h8:=h5 0 x v rfl rfl
 cases x with
 |rs k' l'=>
  have:k=k':=by
   simp only[fit]at h6
   exact pY h6
  subst this
  exact⟨l',h8⟩
 |_=>simp[fit]at h6
end
end Go.Sx
end
section
namespace Go.Sx
open Go.RowKit Go.WideShapes Go.ChangeShapes
section
variable {H:Type}{enc:TypeId×Value→H}{P:Program}
def Ik (P:Program):List TypeId→Bool
 | [] =>true
 |t::r=>P.readableRec t&&Nat.blt t P.types.size&&Ik P r
theorem wl (hl:laidOutB P=true){W W':World}(hg:Below W.heap.size W W'):∀ {ts:List TypeId} {vs:List Value} {ds:List (DataW H)} {ps:List MemPlace},Ik P ts=true→
  DataW.TrodAll enc P W 0 (fun _=>true) true ts vs ds ps→(∀ x∈ps,x.block<W.heap.size)→DataW.TrodAll enc P W' 0 (fun b=>decide (b<W.heap.size)) true ts vs ds ps
 | [],vs,ds,ps,_,h,_=>by
  obtain⟨rfl,rfl,rfl⟩:=trodAll_nil h
  exact trodAll_mk0
 |t::ts,vs,ds,ps,hk,h,hlt=>by
  unfold Ik at hk
  rw[Bool.and_eq_true,Bool.and_eq_true]at hk
  obtain⟨v,vs',d,ds',p,q,rfl,rfl,rfl,h1,h2⟩:=trodAll_cons h
  refine trodAll_cons_mk (WideElems.Trod_stays hl hk.1.1 (by simpa[Nat.blt_eq]using hk.1.2) h1 (fun x hx=>hg.same (hlt x (List.mem_append_left _ hx))) (fun x hx=>by simpa using hlt x (List.mem_append_left _ hx))) ?_
  exact wl hl hg hk.2 h2 fun x hx=>hlt x (List.mem_append_right _ hx)
theorem FO (hl:laidOutB P=true){f:Func}{s:ChangeSpec}{W W':World}{args:Array Value}{ds gs:List (DataW H)}{before:List MemPlace}{t:TypeId}
  (hk:Ik P f.params.toList=true) (hW:DataW.Whole enc P f.params.toList s.vars false W args.toList ds gs before)
  (hr:f.resultTypes= #[t]) (ht:P.underlying t=some .bool) (hv:s.vars=[]) (h1:(s.fn H (ds++gs)).results=[.lit (.bool true)]) (h2:(s.fn H (ds++gs)).args=ds) (h3:(s.fn H (ds++gs)).vars=[])
  (hg:Below W.heap.size W W'):s.post enc P f false true false false W args (.bool true) W':=by
 have hlt:=hW.lt
 have hW0:=hW
 obtain⟨p,q,hA,hV,rfl,_,_⟩:=hW
 rw[hv]at hV
 obtain⟨rfl,rfl⟩:=trodVars_none hV
 refine⟨ds,[],p++[],[],p,[],hW0,?_,?_,?_,?_,fun h=>by cases h⟩
 ·rw[h1,hr]
  exact trodAll_cons_mk (shut_bool ht _) trodAll_mk0
 ·rw[h2]
  exact wl hl hg hk hA fun x hx=>hlt x (by simpa using hx)
 ·rw[h3,hv]
  rfl
 ·exact World.keptBut_mono (fun x hx=>⟨hx,.inr (.inl (by simpa using hx))⟩) (hg.frame (· ∈p++[]))
end
end Go.Sx
end
