/- Part of the proof that the law RefuseHolds returns true and leaves its arguments as they were, for all arguments of bulk at most 1048576 (the Upto form). -/
import Derived.Test.YtaikmgjfkejlkaaGreatH107
import Derived.Shelf.SlSortCmp.NoneTotal
import Derived.Shelf.SortM.Plain
import Derived.Shelf.SortM.SortNone
import Derived.Ground.SlgmProg
import Derived.Test.YtaikmgjfkejlkaaGreatH106
import Derived.Shelf.Slices.CompactI
import Derived.Test.YtaikmgjfkejlkaaGreatProg
set_option linter.all false
set_option maxHeartbeats 4000000
set_option maxRecDepth 100000
section
namespace Go.Sx
open Go.Lib Go.Proofs Go.RowKit Go.Shelf Go.Sort
def adi:SV->Value
 | .v x=>x|_=>undef
def u7 (k:Tag)(x:k.T):List Value:=(cellsOf k x).map adi
def yQ (k:Tag):Prop:= ∀ (x:k.T) (s:SV),s∈cellsOf k x->∃ v,s=.v v/\v.oneCell'=true
def srt {α:Type}(a:α->α->Int)(l:List α):List α:=l.mergeSort λx y=>!(ltOf a y x)
def apart {α:Type}(a:α->α->Int)(l:List α):Prop:= ∀ x∈l,∀ y∈l,ltOf a x y=false->ltOf a y x=false->x=y
def RO {α:Type}[Inhabited α]{cf:α->α->Int}(V:SWO (ltOf cf)){l:List α}(h:apart cf l){O:Array α}(hp:PermIn 0 l.toArray.size l.toArray O)(hs:SortedIn (ltOf cf) 0 l.toArray.size O):O=(srt cf l).toArray:=by
 obtain⟨hsz,_,E⟩:=hp;have e1:O.extract 0 l.toArray.size=O:=g6
 rw[e1,Array.extract_size]at E;have E:O.toList.Perm l:=g5
 have:O.toList=srt cf l:=by
  refine apu (le:=λx y=>(!ltOf cf y x)=true) ?_ ?_ ?_ (E.trans (apo _ _).symm);intro a b ha Y h1 h2;simp only[aox]at h1 h2;exact h a (E.subset ha) b ((apo _ _).subset Y) h2 h1;rw[ao3];intro i j hi hj W;have:=hs i j (aoV _) W g6;grind
  refine apk (λa b c h1 h2=>?_) (λa b=>?_) l;simp only[aox]at h1 h2 |-;exact V.ntrans c b a h2 h1;simp only[aoN,aox];cases h1:ltOf cf b a with
  |false=>grind
  |true=>
   right;cases h2:ltOf cf a b with
   |false=>rfl
   |true=>
    have X:=V.trans a b a h2 h1;rw[V.irrefl]at X;cases X
 rw[<-this]
section
variable {P:Program}{ρ:Ren}{F:Nat->Prop}{own:Own}{w:World}{k:Tag}
variable {l:List k.T}{o:Nat}{cs:Array Value}
theorem Dh(V:yQ k)(h:asb F own w k l o cs){i j:Nat}(hi:i<l.length)(Y:j<aa k):cs[o+i*aa k+j]? =(u7 k l[i])[j]?:=by
 have X:=aov hi;have E:j< (cellsOf k l[i]).length:=by grind [cm]
 have O:=aov E;obtain⟨u,h1,h2⟩:=h i _ X j _ O;obtain⟨v,W,_⟩:=V l[i] _ (apg E);rw[h1];unfold u7;rw[apj,O];rw[W]at h2 |-;rw[c8 h2];rfl
theorem Di(V:yQ k)(h:∀ i j,(hi:i<l.length)->j<aa k->cs[o+i*aa k+j]? =(u7 k l[i])[j]?):asb F own w k l o cs:=by
 intro i x hi j s O;obtain⟨W,rfl⟩:=aop.1 hi;have E:=(aop.1 O).1;rw[cm]at E;have:=h i j W E;unfold u7 at this;rw[apj,O]at this;obtain⟨v,X,_⟩:=V _ s (aoB O);subst X;exact⟨v,this,.v v⟩
theorem abx {w w':World}(hb:Go.RowKit.Below w.heap.size w w')(hd:w.drawn<=w'.drawn):∃ q os,w'=grow (w.drewN q) os:=by
 refine⟨w'.drawn - w.drawn,w'.heap.extract w.heap.size w'.heap.size,?_⟩;obtain⟨h1,h2,h3,h4,h5⟩:=hb;obtain⟨heap,Y,drawn,os,V⟩:=w;obtain⟨X,W,O,os',E⟩:=w';simp only at h1 h2 h3 h4 h5 hd;subst h1;subst h2;subst h3;unfold grow World.drewN;simp only[World.mk.injEq,true_and,and_true];grind
end
open Classical in
noncomputable def jR (k:Tag)(g:FuncId)(caps:List SV)(cf:k.T->k.T->Int):List SV->List Ob->Option arV:=λl h=>
 OW k (λl0=>if l=[.os 0,.fn g [] caps]then some (fM (apart cf l0) (.tup []) [.row k (srt cf l0)])else none) h
@[go_sem]def oF {k:Tag}{g:FuncId}{caps:List SV}{cf:k.T->k.T->Int}{l0:List k.T}:jR k g caps cf [.os 0,.fn g [] caps] [.row k l0]=some (fM (apart cf l0) (.tup []) [.row k (srt cf l0)]):=by
 simp[jR,OW]
section
variable {P:Program}{ρ:Ren}{k:Tag}
variable {w:World}{cs:Array Value}{ty:TypeId}
theorem Yn{b:Nat}(E:w.heap[b]? =some (.cells cs ty (0,0)))(D:Array Value)(o:Nat):(putRow id w b o D).heap[b]? =some (.cells (putCells id o D cs) ty (0,0)):=by
 unfold putRow mapBlock;simp only[aq7,if_true,E];rfl
theorem O5{b c:Nat}(hc:c≠b)(D:Array Value)(o:Nat):(putRow id w b o D).heap[c]? =w.heap[c]?:=by
 unfold putRow mapBlock;grind
variable {o:Nat}
theorem Mj{D:Array Value}{t:Nat}(E:t<D.size)(O:o+t<cs.size):(putCells id o D cs)[o+t]? =D[t]?:=by
 unfold putCells;grind
variable {α:Type}{enc:α->List Value}{n:Nat}
theorem O6[Inhabited α](hn:∀ x,(enc x).length=n){d:Array α}{i j:Nat}(hi:i<d.size)(E:j<n):(flatK enc n d)[i*n+j]? =(enc d[i]!)[j]?:=by
 have hlt:i*n+j<d.size*n:=by
  have:=aoz n (show i+1<=d.size from hi);grind
 have h1:i*n+j< (flatK enc n d).size:=by simp_all
 rw[apR h1,<-getElem!_pos (flatK enc n d) _ h1,get_flatK enc n d _ hlt];grind [Nat.mul_comm,Nat.mul_add_div,Nat.div_eq_of_lt,Nat.mul_add_mod,Nat.mod_eq_of_lt]
variable {m:Nat}
theorem ave[Inhabited α]{b:Nat}(E:w.heap[b]? =some (.cells cs ty (0,0)))(d:Array α)(O:Array Obj):(sortWorldK enc n w b o m d O).heap[b]? =some (.cells (putCells id o (flatK enc n d) cs) ty (0,0)):=by
 have hlt:b<w.heap.size:=(aqc.1 E).1;unfold sortWorldK grow;simp only;rw[aoL (by unfold putRowK putRow mapBlock Sort.ahead;grind)];exact Yn (w:=Sort.ahead w m) E _ _
theorem adj[Inhabited α]{b c:Nat}(hc:c<w.heap.size)(E:c≠b)(d:Array α)(O:Array Obj):(sortWorldK enc n w b o m d O).heap[c]? =w.heap[c]?:=by
 unfold sortWorldK grow;simp only;rw[aoL (by unfold putRowK putRow mapBlock Sort.ahead;grind)];exact O5 (w:=Sort.ahead w m) E _ _
theorem Mk[Inhabited α]{b:Nat}(d:Array α)(E:Array Obj):w.heap.size<=(sortWorldK enc n w b o m d E).heap.size:=by
 unfold sortWorldK grow putRowK putRow mapBlock Sort.ahead;simp
theorem su (L:SlLaysF0.n6 P ρ)(aE:∀ w,(isAgg (ρ.t 24)).run P w=.ok true w)(zE:∀ w,(Go.sizeOf (ρ.t 24)).run P w=.ok (aa k) w)(hk:yQ k)(h0:0<aa k){g:FuncId}{caps:List SV}{C:m0}(hC:X1 P g C){cf:k.T->k.T->Int}
  (hcf:∀ x y,C (.agg (cellsOf k x):: .agg (cellsOf k y)::caps)=some (.det True (.i (cf x y)))) (hO:SWO (ltOf cf)) (hpf:∀ s∈caps,PF s) (ava:∃ x y,C (.agg (cellsOf k x):: .agg (cellsOf k y)::caps)=some (.det True (.i (cf x y)))):arT P (ρ.f 6) (jR k g caps cf):=by
 haveI:Inhabited k.T:=⟨fg k⟩
 refine⟨λl h c hc args w=>L.f6.enters rfl args w,λl h c hc hp F own w vs O hvs=>?_⟩;unfold jR at hc;obtain⟨l0,hh,hK⟩:=OX hc;clear hc;subst hh;by_cases hl:l=[.os 0,.fn g [] caps]
 rotate_left
 grind
 rw[if_pos hl]at hK;subst hl;cases hK;have hp:apart cf l0:=hp;obtain⟨hsz,asX⟩:=hvs;have r0:=asX 0 _ rfl;have r1:=asX 1 _ rfl;have X:vs= #[vs.getD 0 undef,vs.getD 1 undef]:=by
  apply arA;omega;intro i h1 h2;simp only[aon,aoI]at hsz;match i,h1,h2 with
  |0,h1,_=>simp_all|1,h1,_=>simp_all|i+2,h1,_=>omega
 generalize vs.getD 0 undef=v0 at r0 X;generalize vs.getD 1 undef=v1 at r1 X;subst X;obtain⟨hd,o0,rfl,_⟩:=jz r0;obtain⟨hd',o0',Y⟩:=O.at (id:=0) (o:=.row k l0) rfl rfl;rw[o0]at o0';cases o0';have Y:arY F own w k l0 hd.v hd.bs:=Y;cases r1 with
 | @fn _ _ _ us cs s1 s2 c1 c2=>
 have hus:us= #[]:=aqD g5;subst hus;rcases Y with⟨a,e1,rfl,e2⟩ | ⟨b,o,cap,cells,ty,e1,e2,e3,e4,e5,e6,e7⟩;rw[e1];refine(AnyF.slices_SortFunc_none L a 0 _ w).mono λe w' he=>?_;obtain⟨rfl,rfl⟩:=he;refine⟨(),own,trivial,⟨_,rfl,.tup rfl λj s E=>by simp at E⟩,?_,Fr.refl _,aom _⟩;simp_all [srt]
 ·have V:b∈hd.bs:=by rw[e2];simp
  have hbw:b<w.heap.size:=O.lt 0 hd b o0 V;have hkl:∀ x:k.T,(u7 k x).length=aa k:=λx=>by unfold u7;rw[apd,cm]
  have hone:∀ x:k.T,∀ v∈u7 k x,v.oneCell'=true:=λx v hv=>by
   unfold u7 at hv;rw[apb]at hv;obtain⟨s,hs,rfl⟩:=hv;obtain⟨v,rfl,h1⟩:=hk x s hs;exact h1
  have eg:∀ args w,(callFunc g args).run P w=.ok (.enter g args) w:=λargs w=>by
   obtain⟨x,y,hxy⟩:=ava;exact hC.enter _ _ hxy args w
  have hown:∀ id h2,own id=some h2->id=0:=λid h2 e=>by have:=O.dom id h2 e;grind
  have hH:HoldsK (u7 k) (aa k) w b o l0.toArray:=by
   intro t ht;rw[size_flatK]at ht;simp only[aqa]at ht;have hi:t / aa k<l0.length:=Nat.div_lt_of_lt_mul g6;have E:=aqq t h0;have ht':t=t / aa k*aa k+t % aa k:=(Nat.div_add_mod' t _).symm;have q1:=Dh hk e7 hi E;have q2:=O6 (enc:=u7 k) hkl (d:=l0.toArray) (i:=t / aa k) (j:=t % aa k) g5 E;grind [World.cell?,World.frozen?]
  have hcmp:CmpLays P g cs (u7 k) (aa k) cf b o l0.toArray.size w:=by
   intro m os dk hdk x y;generalize hW:sortWorldK (u7 k) (aa k) w b o m dk os=W;have hcar:asa F own w F own W:=⟨λ_ h2 e=>⟨h2,e,.refl _⟩,λc hc hn=>⟨hn,by
    rw[<-hW];exact adj hc (λe=>hn (.inr ⟨0,hd,o0,e▸V⟩)) _ _⟩⟩
   have henc:∀ z:k.T,Rel (λ_=>False) dP W (.agg (cellsOf k z)) (.agg (u7 k z).toArray):=λz=>by
    refine .agg (by simp[u7]) λj s E=>?_;obtain⟨v,rfl,_⟩:=hk z s (aoB E);have:(u7 k z).toArray.getD j undef=v:=by
     unfold u7;rw[aoP,aqB,apj,E];rfl
    rw[this];exact .v v
   have hcall:=O4 (hC.calls _ _ (hcf x y) trivial (λ_=>False) W (#[.agg (u7 k x).toArray,.agg (u7 k y).toArray]++cs) (λ_ h=>h.elim) ⟨g6,λj s E=>by
    match j,E with
    |0,E=>
     cases E;simp_all [aoL]
    |1,E=>
     cases E;simp_all [aoL]
    |j+2,E=>
     have E:caps[j]? =some s:=E;have:=((c2 j s E).carry hcar).arZ (hpf s (aoB E)) (F':=λ_=>False) (ee:=dP) λ_ _ h=>by
      rcases h with h| ⟨_,_,h,_⟩;exact h;cases h
     simp_all [apG]⟩)
   refine hcall.mono λe w' hq=>?_;obtain⟨he,hdr⟩:=hq;rcases he with⟨s,u,ee,hs,rfl,hh,hb⟩ | ⟨z,hz,_⟩;simp only[eA]at hs;subst hs;have:=hh.val;simp only[yF]at this;rw[c8 this];exact⟨rfl,abx hb (hdr (by simp))⟩;exact hz.elim
  have hall:=AnyQ.slices_SortFunc L (aa k) aE zE (u7 k) hkl hone cf hO g cs b o cap l0.toArray w eg hcmp hH hbw (by grind [aI]);rw[e1];refine hall.mono λe w' he=>?_;obtain⟨rfl,d',n,os,hpm,hst,rfl⟩:=he;have hd':=RO hO hp hpm hst;subst hd';have hlS:(srt cf l0).length=l0.length:=aq8 _;generalize srt cf l0=lS at hlS;have hsb:=ave (enc:=u7 k) (n:=aa k) (o:=o) (m:=n) e3 lS.toArray os;refine⟨(),own,trivial,⟨_,rfl,.tup rfl λj s E=>by simp at E⟩,?_,?_,aom _⟩;refine⟨O.dom,λc hc=>aoy (O.arN c hc) (Mk _ _),O.apart,O.inj,λi h2 c e hc=>aoy (O.lt i h2 c e hc) (Mk _ _),λi hi=>?_⟩;match i,hi with
  |0,_=>
   refine⟨hd,o0,?_⟩;show arY F own _ k lS hd.v hd.bs;refine .inr ⟨b,o,cap,_,ty,g6,e2,hsb,?_,g5,g5,Di hk λi j hi E=>?_⟩;unfold putCells;grind;have hlt:i*aa k+j< (flatK (u7 k) (aa k) lS.toArray).size:=by
    rw[size_flatK];have:=aoz (aa k) (show i+1<=lS.length from hi);grind
   have hle:o+(i*aa k+j) <cells.size:=by
    rw[size_flatK]at hlt;simp only[aqa]at hlt;have:=aoz (aa k) (show lS.length<=cap by omega);omega
   rw[apI,Mj hlt hle,O6 hkl g5 E];grind
  |i+1,hi=>rw[oz (by simp)]at hi;cases hi
  refine⟨λ_ h2 e=>⟨h2,e,.refl _⟩,(Fr.refl { w:=w,own:=own}).base,rfl,rfl,rfl,Mk _ _,λc hc=>?_⟩;exact adj hc.1 (λe=>hc.2 ⟨0,hd,o0,e▸V⟩) _ _
end
def yR (l:List Int):List Int:=l.mergeSort λx y=>decide (x<=y)
noncomputable def RP:List SV->List Ob->Option arV:=kh (λx_:List Int=>[.os 0]) (λx_=>[.row .int x_]) (λx_=>fM True (.tup []) [.row .int (yR x_)])
@[go_sem]def aio (b:List Int):RP ([.os 0]) ([.row .int b])=some (fM True (.tup []) [.row .int (yR b)]):=gA (A:=λa:List Int=>[.os 0]) (H:=λa=>[.row .int a]) (K:=λa=>fM True (.tup []) [.row .int (yR a)]) (x:=b)
section
variable {P:Program}{ρ:Ren}
variable {enc:Int->Value}{w:World}{cs:Array Value}{ty:TypeId}
theorem adk{b:Nat}(E:w.heap[b]? =some (.cells cs ty (0,0)))(D:Array Int)(o:Nat):(putRow enc w b o D).heap[b]? =some (.cells (putCells enc o D cs) ty (0,0)):=by
 unfold putRow mapBlock;simp only[aq7,if_true,E];rfl
theorem Yo{b c:Nat}(hc:c≠b)(D:Array Int)(o:Nat):(putRow enc w b o D).heap[c]? =w.heap[c]?:=by
 unfold putRow mapBlock;grind
variable {o:Nat}
theorem O7{D:Array Int}{t:Nat}(E:t<D.size)(O:o+t<cs.size):(putCells enc o D cs)[o+t]? =some (enc D[t]):=by
 unfold putCells;grind
variable {m:Nat}
theorem au5{b:Nat}(E:w.heap[b]? =some (.cells cs ty (0,0)))(d:Array Int)(O:Array Obj):(grow (putRow enc (Sort.ahead w m) b o d) O).heap[b]? =some (.cells (putCells enc o d cs) ty (0,0)):=by
 have hlt:b<w.heap.size:=(aqc.1 E).1;unfold grow;simp only;rw[aoL (by simp_all)];exact adk (w:=Sort.ahead w m) E _ _
theorem akv{b c:Nat}(hc:c<w.heap.size)(E:c≠b)(d:Array Int)(O:Array Obj):(grow (putRow enc (Sort.ahead w m) b o d) O).heap[c]? =w.heap[c]?:=by
 unfold grow;simp only;rw[aoL (by simp_all)];exact Yo (w:=Sort.ahead w m) E _ _
theorem Ml{b:Nat}(d:Array Int)(E:Array Obj):w.heap.size<=(grow (putRow enc (Sort.ahead w m) b o d) E).heap.size:=by
 simp_all
theorem zB:yQ .int:=by
 intro x s E;have:s=.i x:=by grind [cellsOf]
 exact⟨_,this,rfl⟩
theorem RQ (L:SlLaysM.n5 P ρ):arT P (ρ.f 5) RP:=by
 refine⟨λl h c hc args w=>L.f5.enters rfl args w,λl h c hc hp F own w vs E hvs=>?_⟩;obtain⟨l0,rfl,rfl,rfl⟩:=eD hc;clear hc;obtain⟨hsz,X⟩:=hvs;have r0:=X 0 _ rfl;have W:vs= #[vs.getD 0 undef]:=by
  apply arA <;>simp_all
 generalize vs.getD 0 undef=v0 at r0 W;subst W;obtain⟨hd,o0,rfl,_⟩:=jz r0;obtain⟨hd',o0',O⟩:=E.at (id:=0) (o:=.row .int l0) rfl rfl;rw[o0]at o0';cases o0';have O:arY F own w .int l0 hd.v hd.bs:=O;rcases O with⟨a,e1,rfl,e2⟩ | ⟨b,o,cap,cells,ty,e1,e2,e3,e4,e5,e6,e7⟩;rw[e1];refine(AnyM.slices_Sort_int_none L a 0 w).mono λe w' he=>?_;obtain⟨rfl,rfl⟩:=he;refine⟨(),own,trivial,⟨_,rfl,.tup rfl λj s Y=>by simp at Y⟩,?_,Fr.refl _,aom _⟩;simp_all [yR]
 ·have V:b∈hd.bs:=by rw[e2];simp
  have hbw:b<w.heap.size:=E.lt 0 hd b o0 V;have hH:Holds (Value.int .i64) w b o (l0:List Int).toArray:=by
   intro t ht;simp only[aqa]at ht;have q1:=Dh zB e7 (i:=t) (j:=0) ht (by decide);have e0:aa .int=1:=rfl;rw[e0,aqu,apE]at q1;constructor
   unfold World.cell?;rw[e3];dsimp only;rw[q1,getElem!_pos _ t g5];rfl;grind [World.frozen?]
  have hlen:l0.length<4611686018427387904:=by grind [aI]
  have hall:=AnyM.slices_Sort_int L b o cap l0 w hH hbw hlen;rw[e1];refine hall.mono λe w' he=>?_;obtain⟨rfl,n,os,rfl⟩:=he;have hlS:(yR l0).length=l0.length:=aq8 _;show ∃ r ee,_/\LY F w own 1 (.returned (.tuple #[])) ee (grow (putRow (Value.int .i64) (Sort.ahead w n) b o (yR l0).toArray) os) (.ret (.tup []) [.row .int (yR l0)]);generalize yR l0=lS at hlS;have hsb:=au5 (enc:=Value.int .i64) (o:=o) (m:=n) e3 lS.toArray os;refine⟨(),own,trivial,⟨_,rfl,.tup rfl λj s Y=>by simp at Y⟩,?_,?_,aom _⟩;refine⟨E.dom,λc hc=>aoy (E.arN c hc) (Ml _ _),E.apart,E.inj,λi h2 c e hc=>aoy (E.lt i h2 c e hc) (Ml _ _),λi hi=>?_⟩;match i,hi with
  |0,_=>
   refine⟨hd,o0,?_⟩;show arY F own _ .int lS hd.v hd.bs;have hc1:aa .int=1:=rfl;refine .inr ⟨b,o,cap,_,ty,g6,e2,hsb,?_,g5,g5,Di zB λi j hi Y=>?_⟩;unfold putCells;grind;rw[hc1]at Y |-;have hj0:j=0:=g5
   subst hj0;rw[aqu,apE,O7 g5 g6];rfl
  |i+1,hi=>rw[oz (by simp)]at hi;cases hi
  refine⟨λ_ h2 e=>⟨h2,e,.refl _⟩,(Fr.refl { w:=w,own:=own}).base,rfl,rfl,rfl,Ml _ _,λc hc=>?_⟩;exact akv hc.1 (λe=>hc.2 ⟨0,hd,o0,e▸V⟩) _ _
end
end Go.Sx
end
section
attribute [go_sem] Nat.reduceBEq Nat.reduceLeDiff Nat.reduceLT decide_true Nat.reduceAdd Nat.reduceSub Nat.reduceMul Nat.reduceDiv Int.reduceLE Int.reduceLT Int.reduceToNat Int.reduceNeg reduceCtorEq cond_true cond_false Bool.not_true Bool.not_false
end
section
namespace Go.Sx
open Go.Proofs Go.RowKit Tryz
variable {E:List (Nat×(m0))}{O:List (Nat×(List SV->List Ob->Option arV))}
def mG(a:∀ x∈E,X1 prog x.1 x.2)(b:∀ x∈O,arT prog x.1 x.2):arD prog (mkG E O):=na a b
def mGY{Y:List SV->Res->Option as9}(a:∀ x∈E,X1 prog x.1 x.2)(b:∀ x∈O,arT prog x.1 x.2)(V:YOk prog Y):arD prog (AS E O Y):=BT a b V
variable {P:Program}{f:Nat}{C:m0}{l:List (Nat×(m0))}
def cp(h:X1 P f C)(t:∀ x∈l,X1 P x.1 x.2):∀ x∈(f,C)::l,X1 P x.1 x.2:=cgc h t
def cn(p:List Pk)(h:X1 P f C)(t:∀ x∈l,X1 P x.1 x.2):∀ x∈(f,λl=>C (Bp p l))::l,X1 P x.1 x.2:=cgc (h.norm p) t
def co{C:List SV->List Ob->Option arV}{l:List (Nat×(List SV->List Ob->Option arV))}(h:arT P f C)(t:∀ x∈l,arT P x.1 x.2):∀ x∈(f,C)::l,arT P x.1 x.2:=cgc h t
section
variable {G:Cons}{f:FuncId}{C:m0}{D:List SV->List Ob->Option arV}
abbrev aby (fn:Func)(G:Cons)(l:List SV)(o:List Ob)(Q:Ex->St->Prop):Prop:=l.length<=fn.ntmps/\∃ L,ak prog none fn.ntmps L (ae fn)/\exec ts G L (ae fn) ⟨pn 0 l,o⟩ Q
theorem fE (hG:arD prog G)(fn:Func)(h:∀ l E,C l=some E->an E->aby fn G l [] (Gf true fn.results.toList ts (eA E) (lK E)))(V:prog.funcs[f]? =some fn:=by kernel_rfl)(O:fn.body=some (ae fn):=by kernel_rfl)(hn:(fn.name== "runtime.NumGoroutine")=false:=by kernel_rfl)(hc:dq fn.ntmps (ae fn)=true:=by kernel_rfl):X1 prog f C:=
 Xa true mixed aB hG V O hn hc h
theorem fN (hG:arD prog G)(fn:Func)(p:List Pk)(h:∀ l E,C l=some E->an E->aby fn G l [] (Gf false fn.results.toList ts (λs=>eA E (yJ p s)) (lK E)))(V:prog.funcs[f]? =some fn:=by kernel_rfl)(O:fn.body=some (ae fn):=by kernel_rfl)(hn:(fn.name== "runtime.NumGoroutine")=false:=by kernel_rfl)(hc:dq fn.ntmps (ae fn)=true:=by kernel_rfl):X1 prog f C:=
 xa p mixed aB hG V O hn hc h
theorem fW (hG:arD prog G)(fn:Func)(l:List (ResultVar×Tag))(h:∀ l0 E,C l0=some E->an E->aby fn G l0 [] (OV l fn.results.toList ts (eA E) (lK E)))(V:prog.funcs[f]? =some fn:=by kernel_rfl)(O:fn.body=some (ae fn):=by kernel_rfl)(hn:(fn.name== "runtime.NumGoroutine")=false:=by kernel_rfl)(hc:dq fn.ntmps (ae fn)=true:=by kernel_rfl):X1 prog f C:=
 Ye l mixed aB hG V O hn hc h
theorem fR (hG:arD prog G)(fn:Func)(h:∀ l o E,D l o=some E->∃ p S H,E=fM p S H/\(p->aby fn G l o (Tu o.length fn.results.toList ts S H)))(V:prog.funcs[f]? =some fn:=by kernel_rfl)(O:fn.body=some (ae fn):=by kernel_rfl)(hn:(fn.name== "runtime.NumGoroutine")=false:=by kernel_rfl)(hc:dq fn.ntmps (ae fn)=true:=by kernel_rfl):arT prog f D:=
 ON mixed aB hG V O hn hc h
end
end Go.Sx
end
section
namespace Go.Sx
open Go.Proofs Tryz
open IntKind (i64 u64)
variable {l0:List Nat}{p:Prop}
def uz(a0:JL l0)(h:JL l0->p:=by intro ja;(first|done|(repeat' (first|with_reducible refine And.intro ?_ ?_|((with_reducible show _≠_);first|assumption|omega|(simp_all [bp,eS];done) |grind) |with_reducible intro _)) <;>(first|done|with_reducible exact Empty.elim ‹Empty› |with_reducible assumption|rfl|omega|assumption|decide|exact fk ja|(simp only[*,cond_true,cond_false,aoH,aoS,go_sem];done) |(simp only[*,cond_true,cond_false,aoH,aoS,go_sem];(repeat' (first|with_reducible refine And.intro ?_ ?_|((with_reducible show _≠_);first|assumption|omega|(simp_all [bp,eS];done) |grind) |with_reducible intro _)) <;>(first|done|assumption|rfl|omega|decide|exact fk ja|(simp_all [bp,eS];done))) |(simp_all [okI,bp,eS];done) |(simp_all [bp,eS];(first|done|exact fk2 ja)) |exact fk2 ja))):p:=h a0
def bC(a0:JL l0)(h:JL l0->p:=by intro ja;simp only[go_sem,hc,hw];all_goals exact uz ja):p:=h a0
def bD(a0:JL l0)(h:JL l0->p:=by intro ja;simp only[go_sem,hc];all_goals exact uz ja):p:=h a0
def mj (x:Int):Bool:=false
@[go_sem] def EV:m0:=(pI λx=>(pE (.det True (.v (.bool (mj x))))))
theorem zq2(h:p:=by simp only[go_sem];all_goals exact cl):p:=h
theorem Dj:X1 prog 137 EV:=by
 have hG:=mG Y1 Y1;refine fN hG f137 [.o] (aG λx=>(am (λE=>?_)));dsimp only[an]at E;refine⟨nbl rfl,L0,ag _,?_⟩;unfold ae f137;try unfold mj
 exact zq2
def bv (x y:Int):Int:=(bif(mj x)then(bif(mj y)then 0 else(-1))else(bif(mj y)then 1 else(bif(decide (x<y))then(-1)else(bif(decide (x > y))then 1 else 0))))
@[go_sem] def qd:m0:=(pI λx=>(pI λy=>(pE (.det True (.i (bv x y))))))
theorem fA:X1 prog 82 qd:=by
 have hG:=mG (cp Dj Y1) Y1;refine fN hG f82 [.o] (aG λx=>(aG λy=>(am (λE=>?_))));dsimp only[an]at E;refine⟨nbl rfl,L0,ag _,?_⟩;unfold ae f82;try unfold bv
 exact zq2
def dE (n:Int):Int:=(bif(decide (n<0))then(u64.wrap (0 - (u64.wrap n)))else(u64.wrap n))
@[go_sem] def BZ:m0:=(pI λn=>(pE (.det True (.v (.int .u64 (dE n))))))
theorem uA:X1 prog 275 BZ:=by
 have hG:=mG Y1 Y1;refine fN hG f275 [.o] (aG λn=>(am (λE=>?_)));dsimp only[an]at E;refine⟨nbl rfl,L0,ag _,?_⟩;unfold ae f275;try unfold dE
 exact zq2
def aY (a:api):Int:=(bif(((((decide (a.d<1)) ||(decide (a.d > 1073741824))) ||(decide (a.n< (-1073741824)))) ||(decide (a.n > 1073741824))) ||(((OM (Int.toNat (dE a.n)) (Int.toNat (u64.wrap a.d)):Nat):Int) !=1))then 120 else 0)
def Ar (a:api):Prop:=(((((decide (a.d<1)) ||(decide (a.d > 1073741824))) ||(decide (a.n< (-1073741824)))) ||(decide (a.n > 1073741824)))=false->(0<=(dE a.n)/\0<=(u64.wrap a.d)))
theorem G4 (n:Int):0<=u64.wrap n:=by
 simp[IntKind.wrap,IntKind.bits,IntKind.signed];omega
theorem Dk (n:Int):0<=dE n:=by
 unfold dE;cases decide (n<0) <;>exact G4 _
def G5 (a:api):Ar a:=λ_=>⟨Dk _,G4 _⟩
@[go_sem] def I_:m0:=(pD .ratio λa=>(pE (.det True (.i (aY a)))))
theorem zq5(h:p:=by simp only[go_sem,C83];all_goals exact cl):p:=h
theorem qe:X1 prog 222 I_:=by
 have hG:=mG (cp X7 (cp uA Y1)) Y1;refine fN hG f222 [.o] (ax λa=>(am (λE=>?_)));dsimp only[an]at E;have E:=G5 a;unfold Ar at E;refine⟨nbl rfl,L0,ag _,?_⟩;unfold ae f222;try unfold aY
 exact zq5
def iU (a b:api):Int×Int:=(bif(((aY a) !=0) ||((aY b) !=0))then(0,120)else((bv (i64.wrap (a.n*b.d)) (i64.wrap (b.n*a.d))),0))
@[go_sem] def O8:m0:=(pD .ratio λa=>(pD .ratio λb=>(pE (.det True (.tup [.i ((iU a b).1),.i ((iU a b).2)])))))
theorem B3:X1 prog 221 O8:=by
 have hG:=mG (cp fA (cp qe Y1)) Y1;refine fN hG f221 [.o,.o] (ax λa=>(ax λb=>(am (λE=>?_))));dsimp only[an]at E;refine⟨nbl rfl,L0,ag _,?_⟩;unfold ae f221;try unfold iU
 exact zq2
def Ja (a:Bool)(e:Int):Unit:=(bif(!a)then default else())
def dS (a:Bool)(e:Int):Bool:=(bif(!a)then false else true)
@[go_sem] def EW:m0:=(pB λa=>(pI λe=>(pE (.may (dS a e) (.tup []) (.iface 194 (.int .i64 e))))))
theorem wu:X1 prog 61 EW:=by
 have hG:=mG Y1 Y1;refine fN hG f61 [] (De λok=>(aG λe=>(am (λE=>?_))));dsimp only[an]at E;refine⟨nbl rfl,L0,ag _,?_⟩;unfold ae f61;try unfold Ja
 try unfold dS
 exact zq2
@[go_sem] def cO (a:List Int)(b:Nat)(c:Unit):Unit⊕Unit:=(bif(decide ((a.getD (Int.toNat ((b:Int)+1)) 0) < (a.getD (Int.toNat (i64.wrap (((b:Int)+1) - 1))) 0)))then .inl ()else .inr ())
def lL (b:List Int)(a:Nat)(c:Unit):Prop:=(b.length<=aI->((0<=((a:Int)+1)/\((a:Int)+1) < (b.length:Int))/\(0<=(i64.wrap (((a:Int)+1) - 1))/\(i64.wrap (((a:Int)+1) - 1)) < (b.length:Int))))
def aP (a:List Int):Bool:=(match aj (cO a) (a.length - 1) 0 ()with| .inl b=>false| .inr c=>true)
def xS (a:List Int):Prop:=okI (cO a) (lL a) (a.length - 1) 0 ()
theorem Dl (O:List Int):xS O:=iA _ _ _ λj s h1 h2 E=>by
 unfold aI at E;rw[aw g5 g5];omega
@[go_sem] def EX:m0:=(pR .int λa=>(pE (.det True (.v (.bool (aP a))))))
theorem zq8(h:p:=by simp only[go_sem,hb0]):p:=h
theorem zq9(h:p:=by simp only[go_sem,cO,hc0,hw0];all_goals exact cl):p:=h
theorem auY(h:p:=by simp only[go_sem,hc0];all_goals exact cl2):p:=h
theorem rh:X1 prog 113 EX:=by
 have hG:=mG Y1 Y1;refine fN hG f113 [.o] (bG λE=>(am (λX=>?_)));dsimp only[an]at X;have X:=Dl E;unfold xS at X;refine⟨nbl rfl,(λid st=>bif Nat.beq id 0 then some (LC (ρ:=Unit) (σ:=Unit) (lk 0 st.t=.rs .int E/\lk 3 st.t=.i 1/\st.h=[]/\okI (cO E) (lL E) (E.length - 1) 0 ()) (aj (cO E) (E.length - 1) 0 ()) (λ_=>.ret) (λu0=>⟨[(2,.v (.bool false))],[]⟩) (λY=>⟨[],[]⟩))else none),?_,?_⟩
 ·unfold ae f113;simp only[ak,true_and,and_true]
  ·refine Kw mixed aB hG kr λst lc hC X=>?_;simp only[go_sem,Nat.reduceBEq,aoo]at hC;subst hC;obtain⟨t,h⟩:=st;dsimp only[LC]at X;obtain⟨e0_0,e0_1,rfl,hok0⟩:=X;refine⟨_,_,_,(cO E),(lL E),(E.length - 1),(),_,_,_,(λO Y=>⟨[(0,.rs .int E),(3,.i ((O:Int)+1))],[]⟩),[],rfl,hok0,aom _,?_,λO Y hk0 hp0=>?_⟩
   ·simp only[go_sem,e0_0,e0_1];all_goals (first|done|decide|(repeat' (first|refine And.intro ?_ ?_|rfl|decide)))
   refine⟨L0,?_,?_⟩;simp only[ak,and_self,true_and,and_true]
   ·by_cases hb0:E.length<=aI
    rotate_left
    exact zq8;by_cases W:O< (E.length - 1)
    have hw0:i64.wrap (((O:Nat):Int)+1+1)=((O+1:Nat):Int)+1:=by(have hbb:=hb0;have hll:=W;try unfold aI at hbb);rw[aw g5 g5];omega
    have V:=hp0 W;unfold lL at V
    replace V:=V hb0
    try simp only[hw0,aol]at V
    have hc0:decide (((O:Int)+1) < (E.length:Int))=true:=by simp only[decide_eq_true_eq];omega
    exact zq9;have hc0:decide (((O:Int)+1) < (E.length:Int))=false:=by simp only[decide_eq_false_iff_not];omega
    exact auY
 unfold ae f113;try unfold aP
 exact zq2
def cU (i n:Int):Bool:=((decide (i>=0))&&(decide (i<n)))
@[go_sem] def G6:m0:=(pI λi=>(pI λn=>(pE (.det True (.v (.bool (cU i n)))))))
theorem sY:X1 prog 115 G6:=by
 have hG:=mG Y1 Y1;refine fN hG f115 [.o] (aG λi=>(aG λn=>(am (λE=>?_))));dsimp only[an]at E;refine⟨nbl rfl,L0,ag _,?_⟩;unfold ae f115;try unfold cU
 exact zq2
def ky (x:api×api):Bool:=(((((iU x.1 x.2).2==0)&&(decide (x.1.n>=0)))&&(decide ((iU x.1 x.2).1<=0)))&&(decide (x.2.n<=x.2.d)))
@[go_sem] def G7:m0:=(pD .ast λx=>(pE (.det True (.v (.bool (ky x))))))
theorem EY:X1 prog 176 G7:=by
 have hG:=mG (cp B3 Y1) Y1;refine fN hG f176 [.o] (ax λx=>(am (λE=>?_)));dsimp only[an]at E;refine⟨nbl rfl,L0,ag _,?_⟩;unfold ae f176;try unfold ky
 exact zq2
def cH (i:Int)(x:Reach):Bool:=letI a:=aP ([0,x.asu.lo,x.asu.hi,1073741824]);letI b:=aP ([0,x.arR,x.ar6,1099511627776]);letI c:=aP ([0,x.arR,x.cap,1073741824]);letI d:=aP ([1,x.delay,16]);letI e:=ky x.ar3;(bif(decide (i > 0))then((((((cU x.up i)&&d)&&c)&&b)&&a)&&e)else((((((x.up==(-1))&&d)&&c)&&b)&&a)&&e))
@[go_sem] def G8:m0:=(pI λi=>(pD .reach λx=>(pE (.det True (.v (.bool (cH i x)))))))
theorem EZ:X1 prog 114 G8:=by
 have hG:=mG (cn [.sl .int] rh (cp sY (cp EY Y1))) Y1;refine fN hG f114 [.o] (aG λi=>(ax λx=>(am (λE=>?_))));dsimp only[an]at E;refine⟨nbl rfl,L0,ag _,?_⟩;unfold ae f114;try unfold cH
 exact zq2
def jA (b:ah)(a:ar4):Bool:=letI c:=(a.every==0)&&(a.length==0);letI d:=i64.wrap (b.hours - 1);letI e:=a.reach==a.reach;letI f:=a.name==a.name;letI g:=a.kind==a.kind;letI h:=a.dd==a.dd;(bif(((!(cU a.dd (b.zs.length:Int))) ||(!(cU a.reach (b.reaches.length:Int)))) ||(!(aP ([0,a.since,a.to,d]))))then false else(bif(a.kind==1)then((((a.reach==0)&&(aP ([0,a.arM,1048576])))&&(aP ([1,a.bl,1073741824])))&&(aP ([1,a.length,a.every,b.hours])))else(bif(a.kind==2)then(f&&(g&&(h&&(e&&((a.arM==0)&&((a.bl==0)&&((a.since==0)&&((a.to==d)&&c))))))))else(bif(a.kind==3)then(f&&(g&&(h&&(e&&((a.arM==0)&&((a.bl==0)&&((a.since==a.since)&&((a.to==a.to)&&c))))))))else false))))
@[go_sem] def G9:m0:=(pD .al λa=>(pD .right λb=>(pE (.det True (.v (.bool (jA a b)))))))
theorem E0:X1 prog 116 G9:=by
 have hG:=mG (cn [.sl .int] rh (cp sY Y1)) Y1;refine fN hG f116 [.o] (ax λa0=>(ax λa1=>(am (λE=>?_))));dsimp only[an]at E;refine⟨nbl rfl,L0,ag _,?_⟩;unfold ae f116;try unfold jA
 exact zq2
@[go_sem] def eH (b:ah)(c:Int)(a:Nat)(d:Unit):Unit⊕Unit:=(bif(dS (cH (a:Int) (b.reaches.getD a default)) c)then .inr ()else .inl ())
@[go_sem] def fl (a:ah)(b:Int)(c:Nat)(d:Unit):Unit⊕Unit:=(bif(dS (aP ([0,(a.arU.getD c default).need,1048576])) b)then .inr ()else .inl ())
@[go_sem] def eI (b:ah)(c:Int)(f:Nat)(g:Unit):Unit⊕Unit:=letI a:=b.zs.getD f default;letI d:=cU (a.reach) (b.reaches.length:Int);letI e:=aP ([0,a.ati,1048576]);(bif(decide (a.ati > 0))then(bif(dS (((cU (a.asn) (b.arU.length:Int))&&d)&&e) c)then .inr ()else .inl ())else(bif(dS (((a.asn==(-1))&&d)&&e) c)then .inr ()else .inl ()))
@[go_sem] def eJ (a:ah)(b:Int)(c:Nat)(d:Unit):Unit⊕Unit:=(bif(dS (jA a (a.bh.getD c default)) b)then .inr ()else .inl ())
@[go_sem] def fY (a:ah)(c:Int)(d:Nat)(e:Unit):Unit⊕Unit:=letI b:=a.arL.getD d default;(bif(dS (((cU (b.dd) (a.zs.length:Int))&&(cU (b.reach) (a.reaches.length:Int)))&&(aP ([0,b.due,a.hours]))) c)then .inr ()else .inl ())
def G_ (a:ah)(b:Int):Unit:=(bif(dS (((aP ([1,a.hours,4096]))&&(aP ([0,a.arJ.start,a.arJ.cap,1099511627776])))&&(decide ((a.reaches.length:Int) > 0))) b)then(match aj (eH a b) a.reaches.length 0 ()with| .inl c=>default| .inr d=>(match aj (fl a b) a.arU.length 0 ()with| .inl e=>default| .inr f=>(match aj (eI a b) a.zs.length 0 ()with| .inl g=>default| .inr h=>(match aj (eJ a b) a.bh.length 0 ()with| .inl i=>default| .inr j=>(match aj (fY a b) a.arL.length 0 ()with| .inl k=>default| .inr l=>())))))else default)
def gL (a:ah)(b:Int):Bool:=(bif(dS (((aP ([1,a.hours,4096]))&&(aP ([0,a.arJ.start,a.arJ.cap,1099511627776])))&&(decide ((a.reaches.length:Int) > 0))) b)then(match aj (eH a b) a.reaches.length 0 ()with| .inl c=>false| .inr d=>(match aj (fl a b) a.arU.length 0 ()with| .inl e=>false| .inr f=>(match aj (eI a b) a.zs.length 0 ()with| .inl g=>false| .inr h=>(match aj (eJ a b) a.bh.length 0 ()with| .inl i=>false| .inr j=>(match aj (fY a b) a.arL.length 0 ()with| .inl k=>false| .inr l=>true)))))else false)
@[go_sem] def Dm:m0:=(pD .al λb=>(pI λa=>(pE (.may (gL b a) (.tup []) (.iface 194 (.int .i64 a))))))
theorem B4:X1 prog 62 Dm:=by
 have hG:=mG (cp wu (cn [.sl .int] rh (cp EZ (cp sY (cn [.st .al,.st .right] E0 Y1))))) Y1;refine fN hG f62 [] (ax λa0=>(aG λa1=>(am (λhp=>?_))));dsimp only[an]at hp;refine⟨nbl rfl,(λid st=>bif Nat.beq id 0 then some (LCR (ρ:=Unit) (σ:=Unit) 1 [] [0] (λX l5=>⟨[(1,.i a1),(2,.ptr 0 0),(38,.rs .reach a0.reaches),(39,.i (a0.reaches.length:Int)),(40,.i X)],[.cells (cellsOf .al a0)]⟩) (eH a0 a1) pT a0.reaches.length () (a0.reaches.length<=aI) (λ_=>.pan (.iface 194 (.int .i64 a1))) (λu0=>⟨[],[.dead]⟩) st)else bif Nat.beq id 2 then some (LCR (ρ:=Unit) (σ:=Unit) 1 [] [0] (λk_1 s_1=>⟨[(1,.i a1),(2,.ptr 0 0),(52,.rs .asn a0.arU),(53,.i (a0.arU.length:Int)),(54,.i k_1)],[.cells (cellsOf .al a0)]⟩) (fl a0 a1) pT a0.arU.length () (a0.arU.length<=aI) (λ_=>.pan (.iface 194 (.int .i64 a1))) (λasw=>⟨[],[.dead]⟩) st)else bif Nat.beq id 4 then some (LCR (ρ:=Unit) (σ:=Unit) 1 [] [0] (λk_2 O=>⟨[(1,.i a1),(2,.ptr 0 0),(66,.rs .dd a0.zs),(67,.i (a0.zs.length:Int)),(68,.i k_2)],[.cells (cellsOf .al a0)]⟩) (eI a0 a1) pT a0.zs.length () (a0.zs.length<=aI) (λ_=>.pan (.iface 194 (.int .i64 a1))) (λasi=>⟨[],[.dead]⟩) st)else bif Nat.beq id 6 then some (LCR (ρ:=Unit) (σ:=Unit) 1 [] [0] (λV E=>⟨[(1,.i a1),(2,.ptr 0 0),(103,.rs .right a0.bh),(104,.i (a0.bh.length:Int)),(105,.i V)],[.cells (cellsOf .al a0)]⟩) (eJ a0 a1) pT a0.bh.length () (a0.bh.length<=aI) (λ_=>.pan (.iface 194 (.int .i64 a1))) (λatg=>⟨[],[.dead]⟩) st)else bif Nat.beq id 8 then some (LCR (ρ:=Unit) (σ:=Unit) 1 [] [0] (λW Y=>⟨[(1,.i a1),(2,.ptr 0 0),(116,.rs .asy a0.arL),(117,.i (a0.arL.length:Int)),(118,.i W)],[.cells (cellsOf .al a0)]⟩) (fY a0 a1) pT a0.arL.length () (a0.arL.length<=aI) (λ_=>.pan (.iface 194 (.int .i64 a1))) (λarK=>⟨[],[.dead]⟩) st)else none),?_,?_⟩;unfold ae f62;simp only[ak,true_and,and_true];refine⟨?_,?_,?_,?_,?_⟩;refine bu mixed aB hG kr (λ_=>rfl) (a0.reaches.length:Int) rfl fO (λhb0 X l5 asO _ hw hc=>⟨L0,ag _,?_⟩) (λhb0 l5 hc=>?_);exact bC (jl [0]);exact bD (jl [0]);refine bu mixed aB hG kr (λ_=>rfl) (a0.arU.length:Int) rfl fO (λhb1 k_1 s_1 as6 _ hw hc=>⟨L0,ag _,?_⟩) (λhb1 s_1 hc=>?_);exact bC (jl [0]);exact bD (jl [0]);refine bu mixed aB hG kr (λ_=>rfl) (a0.zs.length:Int) rfl fO (λhb2 k_2 O hlt2 _ hw hc=>⟨L0,ag _,?_⟩) (λhb2 O hc=>?_);exact bC (jl [0]);exact bD (jl [0]);refine bu mixed aB hG kr (λ_=>rfl) (a0.bh.length:Int) rfl fO (λhb3 V E hlt3 _ hw hc=>⟨L0,ag _,?_⟩) (λhb3 E hc=>?_);exact bC (jl [0]);exact bD (jl [0]);refine bu mixed aB hG kr (λ_=>rfl) (a0.arL.length:Int) rfl fO (λhb4 W Y avs _ hw hc=>⟨L0,ag _,?_⟩) (λhb4 Y hc=>?_);exact bC (jl [0]);exact bD (jl [0]);unfold ae f62;try unfold G_
 try unfold gL
 exact zq2
def av (d:ah):Int:=(bif(dS (((((decide ((d.reaches.length:Int)<=64))&&(decide ((d.zs.length:Int)<=600)))&&(decide ((d.arU.length:Int)<=32)))&&(decide ((d.bh.length:Int)<=256)))&&(decide ((d.arL.length:Int)<=256))) 2)then(bif(gL d 191)then 0 else 191)else 2)
@[go_sem] def Ha:m0:=(pD .al λd=>(pE (.det True (.i (av d)))))
theorem auM(h:p:=by simp only[go_sem,U5,RI,afo];all_goals exact cl):p:=h
theorem o6:X1 prog 22 Ha:=by
 have hG:=mG (cp wu (cn [.st .al,.o] B4 Y1)) Y1;refine ae2 X3 [.o] mixed aB hG (fn:=f22) (c0:=U5 (ae f22)) (c1:=RI (RI (ae f22))) (i1:=au0 (U5 (RI (ae f22)))) (o1:=ajW 0 (U5 (RI (ae f22)))) (o2:=ajW 1 (U5 (RI (ae f22)))) (t3:=3) (q:=2) (tys:= #[]) kr kr kr (by refine⟨?_,?_,?_⟩ <;>kernel_rfl) (by refine⟨?_,?_,?_⟩ <;>kernel_rfl) (nbl rfl) kr kr (ax λd=>(am (λE=>?_)));dsimp only[an]at E;refine⟨nbl rfl,L0,L0,1,?_,?_,?_⟩;unfold ae f22;simp only[U5,ak,and_self,true_and,and_true];unfold ae f22;simp only[RI];simp only[ak,and_self,true_and,and_true];unfold ae f22;try unfold av
 exact auM
def qf (x:Order):Int:=x.hour
@[go_sem] def oo:m0:=(pD .order λx=>(pE (.det True (.i (qf x)))))
theorem yS:X1 prog 248 oo:=by
 have hG:=mG Y1 Y1;refine fN hG f248 [.o] (ax λx=>(am (λE=>?_)));dsimp only[an]at E;refine⟨nbl rfl,L0,ag _,?_⟩;unfold ae f248;try unfold qf
 exact zq2
def uB (x:Order):Int:=(bif x.S2 then 1 else 0)
@[go_sem] def ri:m0:=(pD .order λx=>(pE (.det True (.i (uB x)))))
theorem B5:X1 prog 249 ri:=by
 have hG:=mG Y1 Y1;refine fN hG f249 [.o] (ax λx=>(am (λE=>?_)));dsimp only[an]at E;refine⟨nbl rfl,L0,ag _,?_⟩;unfold ae f249;try unfold uB
 exact zq2
def qg (x:Order):Int:=x.index
@[go_sem] def oq:m0:=(pD .order λx=>(pE (.det True (.i (qg x)))))
theorem yT:X1 prog 250 oq:=by
 have hG:=mG Y1 Y1;refine fN hG f250 [.o] (ax λx=>(am (λE=>?_)));dsimp only[an]at E;refine⟨nbl rfl,L0,ag _,?_⟩;unfold ae f250;try unfold qg
 exact zq2
end Go.Sx
end
section
namespace Go.Proofs
open Go.Shelf
def Tryz.atV:Go.Shelf.Ren:=⟨λ|20=>73|n=>n,λ|22=>35|n=>n,λ|n=>n⟩
theorem Tryz.cpI:Go.Proofs.Lays2.n20 Tryz.prog Tryz.atV:= {
 mixed:=by kernel_rfl
 f20:=Tryz.func73.trans (congrArg some (by kernel_rfl))
 t0:=Tryz.underlying0
 a0:=Tryz.isAgg0
 z0:=Tryz.sizeOf0
 v0:=Tryz.zeroValue0
 t3:=Tryz.underlying3
 a3:=Tryz.isAgg3
 z3:=Tryz.sizeOf3
 v3:=Tryz.zeroValue3
 t4:=Tryz.underlying4
 a4:=Tryz.isAgg4
 z4:=Tryz.sizeOf4
 v4:=Tryz.zeroValue4
 t22:=Tryz.underlying35
 a22:=Tryz.isAgg35
 z22:=Tryz.sizeOf35
 v22:=Tryz.zeroValue35
 i3:=by kernel_rfl}
end Go.Proofs
namespace Go.Sx
open Go.RowKit Go.Shelf Go.Lib Go.Sort Go.Proofs Tryz
def cpI (l:List Int):List Int:=Lib.compact l
def abz (l:List Int):(cpI l).length<=l.length:=by
 unfold cpI Lib.compact Lib.compactUpTo;rw[apd];exact aoA (apa _ _) (by simp)
noncomputable def Yp:List SV->List Ob->Option arV:=kh (λx_:List Int=>[.os 0]) (λx_=>[.row .int x_]) (λx_=>fM True (.os 1) [.dead,.row .int (cpI x_)])
@[go_sem]def akw (b:List Int):Yp ([.os 0]) ([.row .int b])=some (fM True (.os 1) [.dead,.row .int (cpI b)]):=gA (A:=λa:List Int=>[.os 0]) (H:=λa=>[.row .int a]) (K:=λa=>fM True (.os 1) [.dead,.row .int (cpI a)]) (x:=b)
section
variable {P:Program}{ρ:Ren}
def Jb (L:Lays2.n20 P ρ)(he:∀ (args:Array Value) (w:World),(callFunc (ρ.f 20) args).run P w=.ok (.enter (ρ.f 20) args) w):arT P (ρ.f 20) Yp:=by
 refine⟨λl h c hc args w=>he args w,λl h c hc hp F own w vs O hvs=>?_⟩;obtain⟨l0,rfl,rfl,rfl⟩:=eD hc;clear hc;obtain⟨hsz,asX⟩:=hvs;have r0:=asX 0 _ rfl;have Y:vs= #[vs.getD 0 undef]:=by
  apply arA;simpa using hsz;intro i h1 h2;simp only[aon,aoI]at hsz;match i,h1,h2 with
  |0,h1,_=>simp[Array.getD,h1]|i+1,h1,_=>omega
 generalize vs.getD 0 undef=v0 at r0 Y;subst Y;obtain⟨hd,o0,rfl,_⟩:=jz r0;obtain⟨hd',o0',V⟩:=O.at (id:=0) (o:=.row .int l0) rfl rfl;rw[o0]at o0';cases o0';have V:arY F own w .int l0 hd.v hd.bs:=V;have hdom:∀ i h2,own i=some h2->i=0:=λi h2 e=>by have:=O.dom i h2 e;simp at this;exact this
 have fin:∀ (X:Value) (w':World),qZ X=true->arY F (λi=>if i=1 then some { hd with v:=X}else if i=0 then some { hd with bs:=[]}else none) w' .int (cpI l0) X hd.bs->w.heap.size<=w'.heap.size->w'.os=w.os->w'.tape=w.tape->w'.output=w.output->(∀ c,c<w.heap.size->c ∉ hd.bs->w'.heap[c]? =w.heap[c]?)->
   ∃ r ee,(fM True (.os 1) [.dead,.row .int (cpI l0)]).post r/\LY F w own 1 (.returned X) ee w' ((fM True (.os 1) [.dead,.row .int (cpI l0)]).res r):=by
  intro X w' h1 hr hs q1 q2 q3 hold;refine⟨(),λi=>if i=1 then some { hd with v:=X}else if i=0 then some { hd with bs:=[]}else none,trivial,⟨X,rfl,?_⟩,?_,?_,by simp⟩;have:=Rel.os (F:=F) (own:=λi=>if i=1 then some { hd with v:=X}else if i=0 then some { hd with bs:=[]}else none) (w:=w') (id:=1) (hd:= { hd with v:=X}) (by simp) h1;exact this;refine⟨λid h2 e=>?_,λb hb=>aoy (O.arN b hb) hs,λid h2 b e hb=>?_,λi j hi hj b e1 e2 b1 b2=>?_,λid h2 b e hb=>?_,λid E=>?_⟩;show id<2;by_cases h1:id=1
  omega;by_cases h0:id=0
  omega;simp[h1,h0]at e;grind [O.apart 0 hd b o0]
  grind
  have:=O.lt 0 hd b o0 g6;omega;match id,E with
  |0,E=>cases E
  |1,_=>
   refine⟨{ hd with v:=X},by simp,?_⟩;exact hr
  |i+2,E=>rw[oz (by simp)]at E;cases E
  refine⟨λid h2 e=>?_,λid h2 b e hb ho=>?_,q1,q2,q3,hs,λc hc=>hold c hc.1 λhm=>hc.2 ⟨0,hd,o0,hm⟩⟩;have:=hdom id h2 e;subst this;have e:own 0=some h2:=e;rw[o0]at e;cases e;exact⟨{ hd with bs:=[]},by simp,rfl,rfl,rfl⟩;refine ho.2 ⟨0,hd,o0,?_⟩;grind
 rcases V with⟨a,e1,rfl,e2⟩ | ⟨b,o,cap,cells,ty,e1,e2,e3,e4,e5,e6,e7⟩;rw[e1];refine(Any.slices_Compact_int_empty L a 0 w).mono λe w' he=>?_;obtain⟨rfl,rfl⟩:=he;exact fin _ _ rfl (.inl ⟨a,rfl,rfl,e2⟩) (aom _) rfl rfl rfl λ_ _ _=>rfl;have W:b∈hd.bs:=by rw[e2];simp
 have hbw:b<w.heap.size:=O.lt 0 hd b o0 W;have hH:Holds (Value.int .i64) w b o (l0:List Int).toArray:=by
  intro t ht;simp only[aqa]at ht;have q1:=Dh zB e7 (i:=t) (j:=0) ht (by decide);have e0:aa .int=1:=rfl;rw[e0,aqu,apE]at q1;constructor
  unfold World.cell?;rw[e3];dsimp only;rw[q1,getElem!_pos _ t (by simpa using ht)];rfl;unfold World.frozen?;rw[e3];simp
 have hlen:l0.length<=9223372036854775807:=by unfold aI at e6;omega
 have hall:=Any.slices_Compact_int L b o cap l0 w hH hlen e5;rw[e1];refine hall.mono λe w' he=>?_;obtain⟨rfl,n,rfl⟩:=he;have hlS:(cpI l0).length<=l0.length:=abz l0;have hc1:aa .int=1:=rfl;generalize hD:(Lib.compact l0++List.replicate (l0.length - (Lib.compact l0).length) 0:List Int)=D;have hDl:D.length=l0.length:=by
  have:(Lib.compact l0).length<=l0.length:=hlS;rw[<-hD];simp;omega
 have hsb:(putRow (Value.int .i64) (Sort.ahead w n) b o D.toArray).heap[b]? =some (.cells (putCells (Value.int .i64) o D.toArray cells) ty (0,0)):=adk (w:=Sort.ahead w n) e3 _ _;have hsz':w.heap.size<=(putRow (Value.int .i64) (Sort.ahead w n) b o D.toArray).heap.size:=by
  unfold putRow mapBlock Sort.ahead;simp
 refine fin _ _ rfl (.inr ⟨b,o,cap,_,ty,rfl,e2,hsb,?_,aoA hlS e5,by show(cpI l0).length<=aI;omega,Di zB λi j hi hj=>?_⟩) hsz' rfl rfl rfl λc hc hn=>Yo (w:=Sort.ahead w n) (show c≠b from λe=>hn (by rw[e];exact W)) _ _;unfold putCells;simpa using e4;rw[hc1]at hj |-;have hj0:j=0:=g5
 subst hj0;have hi2:i<D.length:=by rw[hDl];omega
 rw[aqu,apE,O7 (by simpa using hi2) (by simp only[hc1,aqu]at e4 e5;omega)];have hg:D[i]=(cpI l0)[i]'hi:=by
  subst hD;rw[List.getElem_append_left];rfl
 simp[u7,cellsOf,adi,hg]
end
def afK:arT prog 73 Yp:=Jb Tryz.cpI λargs w=>by kernel_rfl
end Go.Sx
end
section
namespace Go.Sx
open Go.Proofs Tryz
open IntKind (i64 u64)
def nh (n d:Int):Int:=(i64.wrap (Int.tdiv (i64.wrap (n - (Int.tmod (i64.wrap ((Int.tmod n d)+d)) d))) d))
def tF (n d:Int):Prop:=(d≠0/\(d≠0/\d≠0))
@[go_sem] def Mm:m0:=(pI λn=>(pI λd=>(pE (.det (tF n d) (.i (nh n d))))))
def Jc:X1 prog 223 Mm:=by
 have hG:=mG Y1 Y1;refine fN hG f223 [.o] (aG λn=>(aG λd=>(am (λE=>?_))));dsimp only[an]at E;unfold tF at E;refine⟨nbl rfl,L0,ag _,?_⟩;unfold ae f223;try unfold nh
 exact zq2
def fB (a:api)(n:Int):Int×Int×Int:=(bif((aY a) !=0)then(0,0,(aY a))else(bif((decide (n< (-1073741824))) ||(decide (n > 1073741824)))then(0,0,1)else((nh (i64.wrap (a.n*n)) a.d),(i64.wrap (0 - (nh (i64.wrap ((i64.wrap (0 - a.n))*n)) a.d))),0)))
def As (a:api)(n:Int):Prop:=(((aY a) !=0)=false->(((decide (n< (-1073741824))) ||(decide (n > 1073741824)))=false->((tF (i64.wrap (a.n*n)) a.d)/\(tF (i64.wrap ((i64.wrap (0 - a.n))*n)) a.d))))
def Jd {a:api}(h:(aY a !=0)=false):1<=a.d:=by
 unfold aY at h;by_cases hd:a.d<1
 simp[hd]at h;omega
def Hb (a:api)(n:Int):As a n:=λh _=>by
 have:=Jd h;exact⟨⟨g5,g5,g5⟩,⟨g5,g5,g5⟩⟩
@[go_sem] def Je:m0:=(pD .ratio λa=>(pI λn=>(pE (.det True (.tup [.i ((fB a n).1),.i ((fB a n).2.1),.i ((fB a n).2.2)])))))
def yU:X1 prog 151 Je:=by
 have hG:=mG (cp qe (cp Jc Y1)) Y1;refine fN hG f151 [.o,.o,.o] (ax λa=>(aG λn=>(am (λE=>?_))));dsimp only[an]at E;have E:=Hb a n;unfold As at E;refine⟨nbl rfl,L0,ag _,?_⟩;unfold ae f151;try unfold fB
 exact zq2
def pd (n d:Int):api×Int:=letI c:=({ n:=0,d:=0}:api);letI e:=dE n;letI f:=dE d;letI g:=((OM (Int.toNat e) (Int.toNat f):Nat):Int);letI a:=u64.wrap (Int.tdiv e g);letI b:=u64.wrap (Int.tdiv f g);letI h:=i64.wrap a;letI i:=i64.wrap b;(bif(d==0)then(c,120)else(bif(decide ((if a<b then b else a) > 1073741824))then(c,2)else(bif((decide (n<0)) !=(decide (d<0)))then(({ n:=(i64.wrap (0 - h)),d:=i}:api),0)else(({ n:=h,d:=i}:api),0))))
def tG (n d:Int):Prop:=letI a:=dE n;letI b:=dE d;letI c:=((OM (Int.toNat a) (Int.toNat b):Nat):Int);((d==0)=false->((0<=a/\0<=b)/\(c≠0/\c≠0)))
@[go_sem] def Mn:m0:=(pI λn=>(pI λd=>(pE (.det (tG n d) (.tup [.agg (cellsOf .ratio ((pd n d).1)),.i ((pd n d).2)])))))
def Jf:X1 prog 337 Mn:=by
 have hG:=mG (cp X7 (cp uA Y1)) Y1;refine fN hG f337 [.st .ratio,.o] (aG λn=>(aG λd=>(am (λE=>?_))));dsimp only[an]at E;unfold tG at E;refine⟨nbl rfl,L0,ag _,?_⟩;unfold ae f337;try unfold pd
 exact zq5
def iI (a b:api):Int×Int:=((i64.wrap ((i64.wrap (a.n*b.d))+(i64.wrap (b.n*a.d)))),(i64.wrap (a.d*b.d)))
@[go_sem] def Jg:m0:=(pD .ratio λa=>(pD .ratio λb=>(pE (.det True (.tup [.i ((iI a b).1),.i ((iI a b).2)])))))
def Hc:X1 prog 312 Jg:=by
 have hG:=mG Y1 Y1;refine fN hG f312 [.o,.o] (ax λa=>(ax λb=>(am (λE=>?_))));dsimp only[an]at E;refine⟨nbl rfl,L0,ag _,?_⟩;unfold ae f312;try unfold iI
 exact zq2
def iv (a b:api):api×Int:=(bif(((aY a) !=0) ||((aY b) !=0))then(({ n:=0,d:=0}:api),120)else(((pd ((iI a b).1) ((iI a b).2)).1),(pd ((iI a b).1) ((iI a b).2)).2))
def ni (a b:api):Prop:=((((aY a) !=0) ||((aY b) !=0))=false->(tG ((iI a b).1) ((iI a b).2)))
@[go_sem] noncomputable def yV:m0:=(pQ (.agg [.fn 312 [] []]) (pD .ratio λa=>(pD .ratio λb=>(pE (.det (ni a b) (.tup [.agg (cellsOf .ratio ((iv a b).1)),.i ((iv a b).2)]))))))
def ya:X1 prog 313 yV:=by
 have hG:=mG (cp qe (cp Hc (cp Jf Y1))) Y1;refine fN hG f313 [.st .ratio,.o] (afz (ax λa=>(ax λb=>(am (λE=>?_)))));dsimp only[an]at E;unfold ni at E;refine⟨nbl rfl,L0,ag _,?_⟩;unfold ae f313;try unfold iv
 exact zq2
def iV (a b:api):api×Int:=(((iv a b).1),(iv a b).2)
def vB (a b:api):Prop:=(ni a b)
@[go_sem] def O9:m0:=(pD .ratio λa=>(pD .ratio λb=>(pE (.det (vB a b) (.tup [.agg (cellsOf .ratio ((iV a b).1)),.i ((iV a b).2)])))))
def Mo:X1 prog 278 O9:=by
 have hG:=mG (cp ya Y1) Y1;refine fN hG f278 [.st .ratio,.o] (ax λa=>(ax λb=>(am (λE=>?_))));dsimp only[an]at E;unfold vB at E;refine⟨nbl rfl,L0,ag _,?_⟩;unfold ae f278;try unfold iV
 exact zq2
def aU (n a b:Int):Bool:=((decide (n>=a))&&(decide (n<=b)))
@[go_sem] def Jh:m0:=(pI λn=>(pI λa=>(pI λb=>(pE (.det True (.v (.bool (aU n a b))))))))
def uC:X1 prog 226 Jh:=by
 have hG:=mG Y1 Y1;refine fN hG f226 [.o] (aG λn=>(aG λlo=>(aG λhi=>(am (λE=>?_)))));dsimp only[an]at E;refine⟨nbl rfl,L0,ag _,?_⟩;unfold ae f226;try unfold aU
 exact zq2
def ml (x:bn):Bool:=letI b:=(x.parts.length:Int) ==0;letI a:=x.of_==0;letI c:=x.to==0;letI d:=(((x.right==0)&&(x.since==0))&&c)&&b;(bif(x.kind==1)then(b&&a)else(bif(x.kind==2)then(c&&a)else(bif(x.kind==3)then((c&&b)&&a)else(bif(x.kind==4)then d else(d&&a)))))
@[go_sem] def E1:m0:=(pD .M1 λx=>(pE (.det True (.v (.bool (ml x))))))
def Dn:X1 prog 227 E1:=by
 have hG:=mG Y1 Y1;refine fN hG f227 [.o] (ax λx=>(am (λE=>?_)));dsimp only[an]at E;refine⟨nbl rfl,L0,ag _,?_⟩;unfold ae f227;try unfold ml
 exact zq2
@[go_sem] def gM (d:ah)(e:List Part)(f:Nat)(b:Int×Int×List (Int×Bool)):Unit⊕(Int×Int×List (Int×Bool)):=letI a:=e.getD f default;letI c:=iV ({ n:=b.1,d:=b.2.1}:api) (a.share);(bif(((!(aU (a.dd) 0 (i64.wrap ((d.zs.length:Int) - 1)))) ||(aC .int .bool b.2.2 (a.dd))) ||(decide (a.share.n<=0)))then .inl ()else(bif(c.2 !=0)then .inl ()else .inr ((c.1).n,(c.1).d,(dF .int .bool b.2.2 (a.dd) true))))
def ot (d:ah)(c:List Part)(e:Nat)(b:Int×Int×List (Int×Bool)):Prop:=letI a:=c.getD e default;(d.zs.length<=aI->((((!(aU (a.dd) 0 (i64.wrap ((d.zs.length:Int) - 1)))) ||(aC .int .bool b.2.2 (a.dd))) ||(decide (a.share.n<=0)))=false->(vB ({ n:=b.1,d:=b.2.1}:api) (a.share))))
def jS (d:ah)(a:List Part):Bool:=(match aj (gM d a) a.length 0 (0,1,[])with| .inl c=>false| .inr b=>((aU (a.length:Int) 1 16)&&((b.1==1)&&(b.2.1==1))))
def n8 (d:ah)(a:List Part):Prop:=(a.length<=aI->okI (gM d a) (ot d a) a.length 0 (0,1,[]))
@[go_sem] def Do:m0:=(pD .al λd=>(pR .part λa=>(pE (.det (n8 d a) (.v (.bool (jS d a)))))))
def B6:X1 prog 228 Do:=by
 have hG:=mG (cp uC (cp Mo Y1)) Y1;refine fN hG f228 [.o] (ax λd=>(bG λO=>(am (λhp=>?_))));dsimp only[an]at hp;unfold n8 at hp;refine⟨nbl rfl,(λid st=>bif Nat.beq id 0 then some (LCR (ρ:=Unit) (σ:=(Int×Int×List (Int×Bool))) 3 [] [0,1,2] (λV E=>⟨[(1,.rs .part O),(2,.ptr 0 0),(5,.ptr 2 0),(6,.os 1),(13,.rs .part O),(14,.i (O.length:Int)),(15,.i V)],[.cells (cellsOf .al d),.mp .int .bool E.2.2 none,.cells [.i E.1,.i E.2.1]]⟩) (gM d O) (ot d O) O.length (0,1,[]) (O.length<=aI) (λ_=>.ret) (λX=>⟨[(4,.v (.bool false))],[.dead,.dead,.dead]⟩) st)else none),?_,?_⟩;unfold ae f228;simp only[ak,true_and,and_true];refine bu mixed aB hG kr (λ_=>rfl) (O.length:Int) rfl fO (λhb0 V E Y W hw hc=>⟨L0,ag _,?_⟩) (λhb0 E hc=>?_);unfold ot at W;try simp only[hw,aol]at W
 exact bC (jl [0,1,2]);exact bD (jl [0,1,2]);unfold ae f228;try unfold jS
 exact zq2
def dQ (b:ah)(d:List (Int×bn))(a:bn):Bool:=letI e:=i64.wrap ((b.zs.length:Int) - 1);letI c:=((aU a.right 0 (i64.wrap ((b.bh.length:Int) - 1)))&&((b.bh.getD (Int.toNat a.right) default).kind==1))&&(aU a.since 0 e);letI f:=aC .int .M1 d a.of_;(bif((((!(aU a.no 0 1048576)) ||(!(aU a.at_ 0 4096))) ||(!(aU a.known 0 1048576))) ||(!(ml a)))then false else(bif(a.kind==1)then((c&&(aU a.to 0 e))&&(a.to !=a.since))else(bif(a.kind==2)then(c&&(jS b a.parts))else(bif(a.kind==3)then c else(bif(a.kind==4)then(((yq .int .M1 d a.of_)&&(f.kind !=4))&&(decide (a.known>=f.known)))else false)))))
def o7 (b:ah)(e:List (Int×bn))(a:bn):Prop:=letI c:=(b.bh.length:Int);letI d:=aU a.right 0 (i64.wrap (c - 1));(((((!(aU a.no 0 1048576)) ||(!(aU a.at_ 0 4096))) ||(!(aU a.known 0 1048576))) ||(!(ml a)))=false->(b.zs.length<=aI->(b.bh.length<=aI->((d=true->(0<=a.right/\a.right<c))/\((a.kind==1)=false->((a.kind==2)=true->(((d&&((b.bh.getD (Int.toNat a.right) default).kind==1))&&(aU a.since 0 (i64.wrap ((b.zs.length:Int) - 1))))=true->(n8 b a.parts))))))))
@[go_sem] def E2:m0:=(pD .al λa=>(pM .int .M1 λb=>(pD .M1 λc=>(pE (.det (o7 a b c) (.v (.bool (dQ a b c))))))))
def Dp:X1 prog 155 E2:=by
 have hG:=mG (cp uC (cn [.st .M1] Dn (cn [.st .al,.sl .part] B6 Y1))) Y1;refine fN hG f155 [.o] (ax λa0=>(afx λa1=>(ax λO=>(am (λE=>?_)))));dsimp only[an]at E;unfold o7 at E;refine⟨nbl rfl,L0,ag _,?_⟩;unfold ae f155;try unfold dQ
 exact zq2
def fP (x:bn):Bool:=(decide ((x.parts.length:Int) > 16))
@[go_sem] def AV:m0:=(pD .M1 λx=>(pE (.det True (.v (.bool (fP x))))))
def zW:X1 prog 154 AV:=by
 have hG:=mG Y1 Y1;refine fN hG f154 [.o] (ax λx=>(am (λE=>?_)));dsimp only[an]at E;refine⟨nbl rfl,L0,ag _,?_⟩;unfold ae f154;try unfold fP
 exact zq2
@[go_sem] def c9 (b:List bn)(a:Nat)(c:Unit):Int⊕Unit:=(bif(fP (b.getD a default))then .inl (a:Int)else .inr ())
def eP (a:List bn):Int:=(match aj (c9 a) a.length 0 ()with| .inl b=>b| .inr c=>(-1))
@[go_sem] def fX:m0:=(pR .M1 λa=>(pFn 154 (pE ((pE (.det True (.i (eP a))))))))
def iW:X1 prog 225 fX:=by
 have hG:=mG (cn [.st .M1] zW Y1) Y1;refine fN hG f225 [.o] (bG λO=>(o5 (am ((am (λY=>?_))))));dsimp only[an]at Y;refine⟨nbl rfl,(λid st=>bif Nat.beq id 0 then some (LCR (ρ:=Int) (σ:=Unit) 0 [] [] (λV W=>⟨[(0,.rs .M1 O),(1,.fn 154 [] []),(7,.i (O.length:Int)),(8,.i V)],[]⟩) (c9 O) pT O.length () (O.length<=aI) (λ_=>.ret) (λE=>⟨[(4,.i E)],[]⟩) st)else none),?_,?_⟩;unfold ae f225;simp only[ak,true_and,and_true];refine bu mixed aB hG kr (λ_=>rfl) (O.length:Int) rfl fO (λhb0 V W X _ hw hc=>⟨L0,ag _,?_⟩) (λhb0 W hc=>?_);exact bC (jl []);exact bD (jl []);unfold ae f225;try unfold eP
 exact zq2
@[go_sem] noncomputable def iX:m0:=λl=>(fX l)
def nj:X1 prog 225 iX:=iW
def aS (a:List bn):Bool:=(decide ((eP a)>=0))
@[go_sem] def mR:m0:=(pR .M1 λa=>(pFn 154 (pE ((pE (.det True (.v (.bool (aS a)))))))))
variable {p:Prop}
def avd(h:p:=by simp only[go_sem,iX];all_goals exact cl):p:=h
theorem mz:X1 prog 153 mR:=by
 have hG:=mG (cn [.sl .M1,.o] nj Y1) Y1;refine fN hG f153 [.o] (bG λO=>(o5 (am ((am (λE=>?_))))));dsimp only[an]at E;refine⟨nbl rfl,L0,ag _,?_⟩;unfold ae f153;try unfold aS
 exact avd
@[go_sem] def fm (d:ah)(c:List bn)(b:Nat)(e:List (Int×bn)):Unit⊕(List (Int×bn)):=letI a:=c.getD b default;(bif(((decide ((b:Int) > 0))&&(decide (a.no<=(c.getD (Int.toNat (i64.wrap ((b:Int) - 1))) default).no))) ||(!(dQ d e a)))then .inl ()else .inr (dF .int .M1 e (a.no) a))
def ou (d:ah)(a:List bn)(b:Nat)(g:List (Int×bn)):Prop:=letI c:=i64.wrap ((b:Int) - 1);letI e:=decide ((b:Int) > 0);letI f:=a.getD b default;((e=true->(0<=c/\c< (a.length:Int)))/\((e&&(decide (f.no<=(a.getD (Int.toNat c) default).no)))=false->(o7 d g f)))
def ba (d:ah)(a:List bn):Int:=(bif((av d) !=0)then(av d)else(bif((decide ((a.length:Int) > 512)) ||(aS a))then 2 else(match aj (fm d a) a.length 0 ([])with| .inl b=>250| .inr c=>0)))
def ll (d:ah)(a:List bn):Prop:=(((av d) !=0)=false->(a.length<=aI->(((decide ((a.length:Int) > 512)) ||(aS a))=false->(a.length<=aI->okI (fm d a) (ou d a) a.length 0 ([])))))
@[go_sem] def Dq:m0:=(pD .al λd=>(pR .M1 λa=>(pE (.det (ll d a) (.i (ba d a))))))
theorem vC:X1 prog 98 Dq:=by
 have hG:=mG (cn [.st .al] o6 (cn [.sl .M1,.o] mz (cn [.st .al,.mp .int .M1,.st .M1] Dp Y1))) Y1;refine fN hG f98 [.o] (ax λd=>(bG λE=>(am (λhp=>?_))));dsimp only[an]at hp;unfold ll at hp;refine⟨nbl rfl,(λid st=>bif Nat.beq id 0 then some (LCR (ρ:=Unit) (σ:=(List (Int×bn))) 2 [] [0,1] (λV O=>⟨[(1,.rs .M1 E),(2,.ptr 0 0),(5,.os 1),(21,.rs .M1 E),(22,.i (E.length:Int)),(23,.i V)],[.cells (cellsOf .al d),.mp .int .M1 O none]⟩) (fm d E) (ou d E) E.length ([]) (E.length<=aI) (λ_=>.ret) (λX=>⟨[(4,.i 250)],[.dead,.dead]⟩) st)else none),?_,?_⟩;unfold ae f98;simp only[ak,true_and,and_true];refine bu mixed aB hG kr (λ_=>rfl) (E.length:Int) rfl fO (λhb0 V O Y W hw hc=>⟨L0,ag _,?_⟩) (λhb0 O hc=>?_);unfold ou at W;try simp only[hw,aol]at W
 exact bC (jl [0,1]);exact bD (jl [0,1]);unfold ae f98;try unfold ba
 exact zq2
@[go_sem] def zX:m0:=pR .M1 λl=>pE (.det (l.length*88<=dT) (.nw .M1 l))
theorem yW:X1 prog 281 zX:=by
 refine fW (mG Y1 Y1) f281 [(.tmp 2,.M1)] (bG λl=>am λE=>?_);dsimp only[an]at E;refine⟨nbl rfl,L0,ag _,?_⟩;unfold ae f281;simp only[go_sem];intro b V;refine⟨λh=>?_,λ_=>?_⟩;have O:=V h;subst O;rfl;first|exact E|exact⟨E,λ_=>rfl⟩
variable {l0 l1:List Nat}
def fU(a0:JL l0)(a1:JL l1)(h:JL l0->JL l1->p:=by intro ja jb;(first|done|(repeat' (first|with_reducible refine And.intro ?_ ?_|((with_reducible show _≠_);first|assumption|omega|(simp_all [bp,eS];done) |grind) |with_reducible intro _)) <;>(first|done|with_reducible exact Empty.elim ‹Empty› |with_reducible assumption|rfl|omega|assumption|decide|exact fk ja|exact fk jb|(simp only[*,cond_true,cond_false,aoH,aoS,go_sem];done) |(simp only[*,cond_true,cond_false,aoH,aoS,go_sem];(repeat' (first|with_reducible refine And.intro ?_ ?_|((with_reducible show _≠_);first|assumption|omega|(simp_all [bp,eS];done) |grind) |with_reducible intro _)) <;>(first|done|assumption|rfl|omega|decide|exact fk ja|exact fk jb|(simp_all [bp,eS];done))) |(simp_all [okI,bp,eS];done) |(simp_all [bp,eS];(first|done|exact fk2 ja|exact fk2 jb)) |exact fk2 ja|exact fk2 jb))):p:=h a0 a1
theorem cJ(a0:JL l0)(h:JL l0->p:=by intro ja;simp only[go_sem];all_goals exact uz ja):p:=h a0
def bE (x:bn)(a b:Int)(c:List (Int×Bool)):Bool:=((((x.kind==4) ||(decide (x.known > a))) ||(decide (x.at_ > b))) ||(aC .int .bool c x.no))
@[go_sem] def yb:m0:=(pD .M1 λx=>(pX .int λa=>(pX .int λb=>(pXM .int .bool λc=>(pE (.det True (.v (.bool (bE x a b c)))))))))
theorem qh:X1 prog 282 yb:=by
 have hG:=mG Y1 Y1;refine fN hG f282 [.o] (ax λx=>(ii λknown=>(ii λhour=>(Mf λE=>(am (λO=>?_))))));dsimp only[an]at O;refine⟨nbl rfl,L0,ag _,?_⟩;unfold ae f282;try unfold bE
 exact zq2
def eB (a b:bn):Int:=(bv a.at_ b.at_)
@[go_sem] def yc:m0:=(pD .M1 λa=>(pD .M1 λb=>(pE (.det True (.i (eB a b))))))
theorem qi:X1 prog 284 yc:=by
 have hG:=mG (cp fA Y1) Y1;refine fN hG f284 [.o] (ax λa=>(ax λb=>(am (λE=>?_))));dsimp only[an]at E;refine⟨nbl rfl,L0,ag _,?_⟩;unfold ae f284;try unfold eB
 exact zq2
@[go_sem] def fu (b:List bn)(c d:Int)(e:List (Int×Bool))(a:Nat)(f:Unit):Int⊕Unit:=(bif(bE (b.getD a default) c d e)then .inl (a:Int)else .inr ())
def a9 (a:List bn)(b c:Int)(d:List (Int×Bool)):Int:=(match aj (fu a b c d) a.length 0 ()with| .inl e=>e| .inr f=>(-1))
@[go_sem] def iJ:m0:=(pR .M1 λa=>(pFn 282 (pX .int λb=>(pX .int λc=>(pXM .int .bool λd=>(pE ((pE (.det True (.i (a9 a b c d)))))))))))
theorem mS:X1 prog 225 iJ:=by
 have hG:=mG (cn [.st .M1,.o,.o,.o] qh Y1) Y1;refine fN hG f225 [.o] (bG λV=>(o5 (ii λknown=>(ii λhour=>(Mf λE=>(am ((am (λhp=>?_)))))))));dsimp only[an]at hp;refine⟨nbl rfl,(λid st=>bif Nat.beq id 0 then some (LCR (ρ:=Int) (σ:=Unit) 0 [] [] (λW X=>⟨[(0,.rs .M1 V),(1,.fn 282 [] [.ep [.i known] 0,.ep [.i hour] 0,.ep [.rm .int .bool E] 0]),(7,.i (V.length:Int)),(8,.i W)],[]⟩) (fu V known hour E) pT V.length () (V.length<=aI) (λ_=>.ret) (λO=>⟨[(4,.i O)],[]⟩) st)else none),?_,?_⟩;unfold ae f225;simp only[ak,true_and,and_true];refine bu mixed aB hG kr (λ_=>rfl) (V.length:Int) rfl fO (λhb0 W X Y _ hw hc=>⟨L0,ag _,?_⟩) (λhb0 X hc=>?_);exact bC (jl []);exact bD (jl []);unfold ae f225;try unfold a9
 exact zq2
@[go_sem] noncomputable def iY:m0:=λl=>(orC (fX l) (iJ l))
def nk:X1 prog 225 iY:=(X1.or iW mS)
@[go_sem] def cg (g:List bn)(d e:Int)(f:List (Int×Bool))(h:Nat)(a:List bn×Int×Int):(Int×List bn)⊕(List bn×Int×Int):=letI b:=a.1.getD (Int.toNat a.2.2) default;letI c:=i64.wrap (a.2.2+1);(bif(decide (a.2.2< (a.1.length:Int)))then(bif(!(bE b d e f))then .inr ((a.1.set (Int.toNat a.2.1) b),(i64.wrap (a.2.1+1)),c)else .inr (a.1,a.2.1,c))else .inl (a.2.1,a.1))
def cK (f:List bn)(c d:Int)(e:List (Int×Bool))(g:Nat)(a:List bn×Int×Int):Prop:=letI b:=(a.1.length:Int);(a.1.length<=aI->((decide (a.2.2<b))=true->((0<=a.2.2/\a.2.2<b)/\((!(bE (a.1.getD (Int.toNat a.2.2) default) c d e))=true->(0<=a.2.1/\a.2.1<b)))))
def bJ (a:List bn)(d e:Int)(f:List (Int×Bool)):List bn:=letI c:=a9 a d e f;(bif(c==(-1))then a else(match aj (cg a d e f) (a.length+1) 0 (a,c,(i64.wrap (c+1)))with| .inl b=>(((yr .M1 b.2 b.1 (b.2.length:Int)).take (Int.toNat b.1)).drop 0) | .inr g=>default))
def bQ (a:List bn)(b c:Int)(d:List (Int×Bool)):Prop:=letI e:=a9 a b c d;letI f:=cg a b c d;letI g:=(a,e,(i64.wrap (e+1)));letI h:=a.length+1;((e==(-1))=false->(okI f (cK a b c d) h 0 g/\(∀ z_,aj f h 0 g≠ .inr z_)/\(∀ u0,aj f h 0 g=.inl u0->((0<=u0.1/\u0.1<=(u0.2.length:Int))/\(0<=0/\0<=u0.1/\u0.1<=((yr .M1 u0.2 u0.1 (u0.2.length:Int)).length:Int))))))
noncomputable def iZ:List SV->List Ob->Option arV:=kh (λx_:(List bn)×Int×Int×(List (Int×Bool)) =>[.os 0,.fn 282 [] [.ptr 1 0,.ptr 2 0,.ptr 3 0]]) (λx_=>[.row .M1 x_.1,.cells [.i x_.2.1],.cells [.i x_.2.2.1],.cells [.os 4],.mp .int .bool x_.2.2.2 none]) (λx_=>fM (bQ x_.1 x_.2.1 x_.2.2.1 x_.2.2.2) (.os 5) [.dead,.cells [.i x_.2.1],.cells [.i x_.2.2.1],.cells [.os 4],.mp .int .bool x_.2.2.2 none,.row .M1 (bJ x_.1 x_.2.1 x_.2.2.1 x_.2.2.2)])
@[go_sem] theorem yd (l_:List bn)(known hour:Int)(asj:List (Int×Bool)){p4_:Option (Nat×Option Tag.int.T)}(au8:p4_=none):iZ ([.os 0,.fn (282:Nat) [] [.ptr 1 0,.ptr 2 0,.ptr 3 0]]) ([.row .M1 l_,.cells [.i known],.cells [.i hour],.cells [.os 4],.mp .int .bool asj p4_])=some (fM (bQ l_ known hour asj) (.os 5) [.dead,.cells [.i known],.cells [.i hour],.cells [.os 4],.mp .int .bool asj none,.row .M1 (bJ l_ known hour asj)]):=by
 subst au8;exact gA (A:=λx_:(List bn)×Int×Int×(List (Int×Bool)) =>[.os 0,.fn 282 [] [.ptr 1 0,.ptr 2 0,.ptr 3 0]]) (H:=λx_=>[.row .M1 x_.1,.cells [.i x_.2.1],.cells [.i x_.2.2.1],.cells [.os 4],.mp .int .bool x_.2.2.2 none]) (K:=λx_=>fM (bQ x_.1 x_.2.1 x_.2.2.1 x_.2.2.2) (.os 5) [.dead,.cells [.i x_.2.1],.cells [.i x_.2.2.1],.cells [.os 4],.mp .int .bool x_.2.2.2 none,.row .M1 (bJ x_.1 x_.2.1 x_.2.2.1 x_.2.2.2)]) (x:=(l_,known,hour,asj))
def au6(a0:JL l0)(a1:JL l1)(h:JL l0->JL l1->p:=by intro ja jb;simp only[go_sem,iY];all_goals exact fU ja jb):p:=h a0 a1
theorem nq:arT prog 280 (iZ):=by
 have hG:=mG (cn [.sl .M1,.o] nk (cn [.st .M1,.o,.o,.o] qh Y1)) Y1;refine fR hG f280 (λl o con h=>?_);obtain⟨⟨W,known,hour,E⟩,rfl,rfl,rfl⟩:=eD h;clear h;try dsimp only
 refine⟨_,_,_,rfl,λhp=>?_⟩;unfold bQ at hp;refine⟨nbl rfl,(λid st=>bif Nat.beq id 0 then some (LCV (ρ:=(Int×List bn)) (σ:=(List bn×Int×Int)) 5 [] [0,1,2,3,4] (λX V=>⟨[(0,.os 0),(1,.fn 282 [] [.ptr 1 0,.ptr 2 0,.ptr 3 0]),(5,.i V.2.1),(6,.i V.2.2)],[.row .M1 V.1,.cells [.i known],.cells [.i hour],.cells [.os 4],.mp .int .bool E none]⟩) (cg W known hour E) (cK W known hour E) (W.length+1) (W,(a9 W known hour E),(i64.wrap ((a9 W known hour E)+1))) (λ_=>.normal) (λO=>⟨[(0,.os 0),(5,.i O.1)],[.row .M1 O.2,.cells [.i known],.cells [.i hour],.cells [.os 4],.mp .int .bool E none]⟩) st)else none),?_,?_⟩;unfold ae f280;simp only[ak,true_and,and_true,and_assoc];refine fw mixed aB hG kr (λ_=>rfl) λX V Y=>⟨L0,ag _,?_⟩;unfold cK at Y;exact cJ (jl [0,1,2,3,4]);unfold ae f280;try unfold bJ
 exact au6 (jl [0,1,2,3,4,0]) (jl [0,1,2,3,4,5])
@[go_sem] def bL (a:Int)(f:List bn)(g:Nat)(b:List bn×Int):(List bn)⊕(List bn×Int):=letI c:=i64.wrap (b.2 - 1);letI d:=b.1.getD (Int.toNat b.2) default;letI e:=b.1.getD (Int.toNat c) default;(bif((decide (b.2 > a))&&(decide ((eB d e) <0)))then .inr (((b.1.set (Int.toNat b.2) e).set (Int.toNat c) d),c)else .inl b.1)
def bU (a:Int)(h:List bn)(i:Nat)(b:List bn×Int):Prop:=letI c:=i64.wrap (b.2 - 1);letI d:=decide (b.2 > a);letI e:=(b.1.length:Int);letI f:=0<=b.2/\b.2<e;letI g:=b.1.getD (Int.toNat c) default;((d=true->f)/\((d=true->(0<=c/\c<e))/\((d&&(decide ((eB (b.1.getD (Int.toNat b.2) default) g) <0)))=true->((0<=c/\c<e)/\(f/\(f/\(0<=c/\c< ((b.1.set (Int.toNat b.2) g).length:Int))))))))
@[go_sem] def bb (a b:Int)(d:List bn)(f:Nat)(c:List bn×Int):(List bn)⊕(List bn×Int):=(bif(decide (c.2<b))then(match aj (bL a d) (d.length+1) 0 (c.1,c.2)with| .inl e=>.inr (e,(i64.wrap (c.2+1))) | .inr g=>.inr default)else .inl c.1)
def bw (a b:Int)(d:List bn)(f:Nat)(c:List bn×Int):Prop:=letI e:=bL a d;((decide (c.2<b))=true->(okI e (bU a d) (d.length+1) 0 (c.1,c.2)/\(∀ z_,aj e (d.length+1) 0 (c.1,c.2)≠ .inr z_)))
def aL (a b:Int)(c:List bn):List bn:=(match aj (bb a b c) (c.length+1) 0 (c,(i64.wrap (a+1)))with| .inl d=>d| .inr e=>default)
def be (a b:Int)(c:List bn):Prop:=letI d:=bb a b c;letI e:=(c,(i64.wrap (a+1)));(okI d (bw a b c) (c.length+1) 0 e/\(∀ z_,aj d (c.length+1) 0 e≠ .inr z_))
noncomputable def iK:List SV->List Ob->Option arV:=kh (λx_:Int×Int×(List bn) =>[.os 0,.i x_.1,.i x_.2.1,.fn 284 [] []]) (λx_=>[.row .M1 x_.2.2]) (λx_=>fM (be x_.1 x_.2.1 x_.2.2) (.tup []) [.row .M1 (aL x_.1 x_.2.1 x_.2.2)])
@[go_sem]def xT (a b:Int)(d:List bn):iK ([.os 0,.i a,.i b,.fn 284 [] []]) ([.row .M1 d])=some (fM (be a b d) (.tup []) [.row .M1 (aL a b d)]):=gA (A:=λc:Int×Int×(List bn) =>[.os 0,.i c.1,.i c.2.1,.fn 284 [] []]) (H:=λc=>[.row .M1 c.2.2]) (K:=λc=>fM (be c.1 c.2.1 c.2.2) (.tup []) [.row .M1 (aL c.1 c.2.1 c.2.2)]) (x:=(a,b,d))
theorem mT:arT prog 338 (iK):=by
 have hG:=mG (cn [.st .M1,.st .M1] qi Y1) Y1;refine fR hG f338 (λl o con h=>?_);obtain⟨⟨a,b,W⟩,rfl,rfl,rfl⟩:=eD h;clear h;try dsimp only
 refine⟨_,_,_,rfl,λhp=>?_⟩;unfold be at hp;refine⟨nbl rfl,(λid st=>bif Nat.beq id 0 then some (LCV (ρ:=(List bn)) (σ:=(List bn×Int)) 1 [] [0] (λY E=>⟨[(0,.os 0),(1,.i a),(2,.i b),(3,.fn 284 [] []),(8,.i E.2)],[.row .M1 E.1]⟩) (bb a b W) (bw a b W) (W.length+1) (W,(i64.wrap (a+1))) (λ_=>.normal) (λX=>⟨[],[.row .M1 X]⟩) st)else none),?_,?_⟩;unfold ae f338;simp only[ak,true_and,and_true,and_assoc];refine fw mixed aB hG kr (λ_=>rfl) λY E hq0=>⟨(λid st=>bif Nat.beq id 2 then some (LCV (ρ:=(List bn)) (σ:=(List bn×Int)) 1 [] [0] (λk_1 V=>⟨[(0,.os 0),(1,.i a),(2,.i b),(3,.fn 284 [] []),(8,.i E.2),(9,.i V.2)],[.row .M1 V.1]⟩) (bL a W) (bU a W) (W.length+1) (E.1,E.2) (λ_=>.normal) (λO=>⟨[(0,.os 0),(1,.i a),(2,.i b),(3,.fn 284 [] []),(8,.i E.2)],[.row .M1 O]⟩) st)else none),?_,?_⟩;simp only[ak,true_and,and_true];refine fw mixed aB hG kr (λ_=>rfl) λk_1 V hq1=>⟨L0,ag _,?_⟩;unfold bU at hq1;exact cJ (jl [0]);unfold bw at hq0;exact cJ (jl [0]);unfold ae f338;try unfold aL
 exact cJ (jl [0])
@[go_sem] def cF (a b n:Int)(d:Nat)(c:List bn):Empty⊕(List bn):=letI e:=Int.toNat (i64.wrap (a+(d:Int)));letI f:=Int.toNat (i64.wrap (b+(d:Int)));.inr ((c.set e (c.getD f default)).set f (c.getD e default))
def da (a b n:Int)(g:Nat)(e:List bn):Prop:=letI c:=i64.wrap (b+(g:Int));letI d:=i64.wrap (a+(g:Int));letI f:=(e.length:Int);((0<=c/\c<f)/\((0<=d/\d<f)/\((0<=d/\d<f)/\(0<=c/\c< ((e.set (Int.toNat d) (e.getD (Int.toNat c) default)).length:Int)))))
def bH (a b n:Int)(c:List bn):List bn:=(match aj (cF a b n) (Int.toNat n) 0 c with| .inl x=>x.elim| .inr d=>d)
def bj (a b n:Int)(c:List bn):Prop:=((n<9223372036854775808)/\okI (cF a b n) (da a b n) (Int.toNat n) 0 c)
noncomputable def jT:List SV->List Ob->Option arV:=kh (λx_:Int×Int×Int×(List bn) =>[.os 0,.i x_.1,.i x_.2.1,.i x_.2.2.1,.fn 284 [] []]) (λx_=>[.row .M1 x_.2.2.2]) (λx_=>fM (bj x_.1 x_.2.1 x_.2.2.1 x_.2.2.2) (.tup []) [.row .M1 (bH x_.1 x_.2.1 x_.2.2.1 x_.2.2.2)])
@[go_sem]def zC (a b n:Int)(d:List bn):jT ([.os 0,.i a,.i b,.i n,.fn 284 [] []]) ([.row .M1 d])=some (fM (bj a b n d) (.tup []) [.row .M1 (bH a b n d)]):=gA (A:=λc:Int×Int×Int×(List bn) =>[.os 0,.i c.1,.i c.2.1,.i c.2.2.1,.fn 284 [] []]) (H:=λc=>[.row .M1 c.2.2.2]) (K:=λc=>fM (bj c.1 c.2.1 c.2.2.1 c.2.2.2) (.tup []) [.row .M1 (bH c.1 c.2.1 c.2.2.1 c.2.2.2)]) (x:=(a,b,n,d))
theorem oG:arT prog 349 (jT):=by
 have hG:=mG Y1 Y1;refine fR hG f349 (λl o con h=>?_);obtain⟨⟨a,b,n,Y⟩,rfl,rfl,rfl⟩:=eD h;clear h;try dsimp only
 refine⟨_,_,_,rfl,λX=>?_⟩;unfold bj at X;refine⟨nbl rfl,(λid st=>bif Nat.beq id 0 then some (LCR (ρ:=Empty) (σ:=(List bn)) 1 [] [0] (λO E=>⟨[(0,.os 0),(1,.i a),(2,.i b),(3,.i n),(10,.i O)],[.row .M1 E]⟩) (cF a b n) (da a b n) (Int.toNat n) Y (n<9223372036854775808) ((·.elim)) ((·.elim)) st)else none),?_,?_⟩;unfold ae f349;simp only[ak,true_and,and_true,and_assoc];refine bu mixed aB hG kr (λ_=>rfl) n rfl id (λhb0 O E W V hw hc=>⟨L0,ag _,?_⟩) (λhb0 E hc=>?_);unfold da at V;try simp only[hw,aol]at V
 exact bC (jl [0]);exact bD (jl [0]);unfold ae f349;try unfold bH
 exact cJ (jl [0])
@[go_sem] def db (a m b:Int)(e:Nat)(c:List bn×Int×Int):(Int×List bn)⊕(List bn×Int×Int):=letI d:=i64.wrap (m - c.2.1);(bif(c.2.1 !=c.2.2)then(bif(decide (c.2.1 > c.2.2))then .inr ((bH d m c.2.2 c.1),(i64.wrap (c.2.1 - c.2.2)),c.2.2)else .inr ((bH d (i64.wrap ((i64.wrap (m+c.2.2)) - c.2.1)) c.2.1 c.1),c.2.1,(i64.wrap (c.2.2 - c.2.1))))else .inl (c.2.1,c.1))
def dG (a m b:Int)(f:Nat)(c:List bn×Int×Int):Prop:=letI d:=i64.wrap (m - c.2.1);letI e:=decide (c.2.1 > c.2.2);((c.2.1 !=c.2.2)=true->((e=true->(bj d m c.2.2 c.1))/\(e=false->(bj d (i64.wrap ((i64.wrap (m+c.2.2)) - c.2.1)) c.2.1 c.1))))
def aJ (a m b:Int)(d:List bn):List bn:=(match aj (db a m b) (Int.toNat (b - a)+1) 0 (d,(i64.wrap (m - a)),(i64.wrap (b - m)))with| .inl c=>(bH (i64.wrap (m - c.1)) m c.1 c.2) | .inr e=>default)
def b8 (a m b:Int)(f:List bn):Prop:=letI c:=(f,(i64.wrap (m - a)),(i64.wrap (b - m)));letI d:=db a m b;letI e:=Int.toNat (b - a)+1;(okI d (dG a m b) e 0 c/\(∀ z_,aj d e 0 c≠ .inr z_)/\(∀ u0,aj d e 0 c=.inl u0->(bj (i64.wrap (m - u0.1)) m u0.1 u0.2)))
noncomputable def kZ:List SV->List Ob->Option arV:=kh (λx_:Int×Int×Int×(List bn) =>[.os 0,.i x_.1,.i x_.2.1,.i x_.2.2.1,.fn 284 [] []]) (λx_=>[.row .M1 x_.2.2.2]) (λx_=>fM (b8 x_.1 x_.2.1 x_.2.2.1 x_.2.2.2) (.tup []) [.row .M1 (aJ x_.1 x_.2.1 x_.2.2.1 x_.2.2.2)])
@[go_sem]def AW (a m b:Int)(d:List bn):kZ ([.os 0,.i a,.i m,.i b,.fn 284 [] []]) ([.row .M1 d])=some (fM (b8 a m b d) (.tup []) [.row .M1 (aJ a m b d)]):=gA (A:=λc:Int×Int×Int×(List bn) =>[.os 0,.i c.1,.i c.2.1,.i c.2.2.1,.fn 284 [] []]) (H:=λc=>[.row .M1 c.2.2.2]) (K:=λc=>fM (b8 c.1 c.2.1 c.2.2.1 c.2.2.2) (.tup []) [.row .M1 (aJ c.1 c.2.1 c.2.2.1 c.2.2.2)]) (x:=(a,m,b,d))
theorem qj:arT prog 345 (kZ):=by
 have hG:=mG Y1 (co oG Y1);refine fR hG f345 (λl o con h=>?_);obtain⟨⟨a,m,b,Y⟩,rfl,rfl,rfl⟩:=eD h;clear h;try dsimp only
 refine⟨_,_,_,rfl,λX=>?_⟩;unfold b8 at X;refine⟨nbl rfl,(λid st=>bif Nat.beq id 0 then some (LCV (ρ:=(Int×List bn)) (σ:=(List bn×Int×Int)) 1 [] [0] (λV O=>⟨[(0,.os 0),(2,.i m),(4,.fn 284 [] []),(10,.i O.2.1),(11,.i O.2.2)],[.row .M1 O.1]⟩) (db a m b) (dG a m b) (Int.toNat (b - a)+1) (Y,(i64.wrap (m - a)),(i64.wrap (b - m))) (λ_=>.normal) (λE=>⟨[(0,.os 0),(2,.i m),(4,.fn 284 [] []),(10,.i E.1)],[.row .M1 E.2]⟩) st)else none),?_,?_⟩;unfold ae f345;simp only[ak,true_and,and_true,and_assoc];refine fw mixed aB hG kr (λ_=>rfl) λV O W=>⟨L0,ag _,?_⟩;unfold dG at W;exact cJ (jl [0]);unfold ae f345;try unfold aJ
 exact cJ (jl [0])
noncomputable def RR (asL:Int->Int->Int->List bn->List bn)(asA:Int->Int->Int->List bn->Prop):List SV->List Ob->Option arV:=kh (λx_:Int×Int×Int×(List bn) =>[.os 0,.i x_.1,.i x_.2.1,.i x_.2.2.1,.fn 284 [] []]) (λx_=>[.row .M1 x_.2.2.2]) (λx_=>fM (asA x_.1 x_.2.1 x_.2.2.1 x_.2.2.2) (.tup []) [.row .M1 (asL x_.1 x_.2.1 x_.2.2.1 x_.2.2.2)])
@[go_sem]def KD (e:Int->Int->Int->List bn->List bn)(f:Int->Int->Int->List bn->Prop)(a m b:Int)(d:List bn):RR e f ([.os 0,.i a,.i m,.i b,.fn 284 [] []]) ([.row .M1 d])=some (fM (f a m b d) (.tup []) [.row .M1 (e a m b d)]):=gA (A:=λc:Int×Int×Int×(List bn) =>[.os 0,.i c.1,.i c.2.1,.i c.2.2.1,.fn 284 [] []]) (H:=λc=>[.row .M1 c.2.2.2]) (K:=λc=>fM (f c.1 c.2.1 c.2.2.1 c.2.2.2) (.tup []) [.row .M1 (e c.1 c.2.1 c.2.2.1 c.2.2.2)]) (x:=(a,m,b,d))
@[go_sem] def tH (a:Int)(d:List bn)(e:Nat)(b:Int×Int):Int⊕(Int×Int):=letI c:=i64.wrap (ol .u64 (u64.wrap (i64.wrap (b.1+b.2))) 1);(bif(decide (b.1<b.2))then(bif(decide ((eB (d.getD (Int.toNat c) default) (d.getD (Int.toNat a) default)) <0))then .inr ((i64.wrap (c+1)),b.2)else .inr (b.1,c))else .inl b.1)
def tY (a:Int)(c:List bn)(e:Nat)(b:Int×Int):Prop:=letI d:=i64.wrap (ol .u64 (u64.wrap (i64.wrap (b.1+b.2))) 1);((decide (b.1<b.2))=true->((0<=d/\d< (c.length:Int))/\(0<=a/\a< (c.length:Int))))
@[go_sem] def xc (d:List bn)(c:Int)(e:Nat)(a:List bn×Int):(List bn)⊕(List bn×Int):=letI b:=i64.wrap (a.2+1);(bif(decide (a.2< (i64.wrap (c - 1))))then .inr (((a.1.set (Int.toNat a.2) (a.1.getD (Int.toNat b) default)).set (Int.toNat b) (a.1.getD (Int.toNat a.2) default)),b)else .inl a.1)
def wv (f:List bn)(e:Int)(g:Nat)(a:List bn×Int):Prop:=letI b:=i64.wrap (a.2+1);letI c:=(a.1.length:Int);letI d:=0<=a.2/\a.2<c;((decide (a.2< (i64.wrap (e - 1))))=true->((0<=b/\b<c)/\(d/\(d/\(0<=b/\b< ((a.1.set (Int.toNat a.2) (a.1.getD (Int.toNat b) default)).length:Int))))))
@[go_sem] def tI (m:Int)(c:List bn)(d:Nat)(a:Int×Int):Int⊕(Int×Int):=letI b:=i64.wrap (ol .u64 (u64.wrap (i64.wrap (a.1+a.2))) 1);(bif(decide (a.1<a.2))then(bif(!(decide ((eB (c.getD (Int.toNat m) default) (c.getD (Int.toNat b) default)) <0)))then .inr ((i64.wrap (b+1)),a.2)else .inr (a.1,b))else .inl a.1)
def tZ (m:Int)(b:List bn)(d:Nat)(a:Int×Int):Prop:=letI c:=i64.wrap (ol .u64 (u64.wrap (i64.wrap (a.1+a.2))) 1);((decide (a.1<a.2))=true->((0<=m/\m< (b.length:Int))/\(0<=c/\c< (b.length:Int))))
@[go_sem] def xd (d:List bn)(c:Int)(e:Nat)(a:List bn×Int):(List bn)⊕(List bn×Int):=letI b:=i64.wrap (a.2 - 1);(bif(decide (a.2 > c))then .inr (((a.1.set (Int.toNat a.2) (a.1.getD (Int.toNat b) default)).set (Int.toNat b) (a.1.getD (Int.toNat a.2) default)),b)else .inl a.1)
def ww (f:List bn)(e:Int)(g:Nat)(a:List bn×Int):Prop:=letI b:=i64.wrap (a.2 - 1);letI c:=(a.1.length:Int);letI d:=0<=a.2/\a.2<c;((decide (a.2 > e))=true->((0<=b/\b<c)/\(d/\(d/\(0<=b/\b< ((a.1.set (Int.toNat a.2) (a.1.getD (Int.toNat b) default)).length:Int))))))
@[go_sem] def zD (a m b:Int)(e:List bn)(f:Nat)(c:Int×Int):Int⊕(Int×Int):=letI d:=i64.wrap (ol .u64 (u64.wrap (i64.wrap (c.1+c.2))) 1);(bif(decide (c.1<c.2))then(bif(!(decide ((eB (e.getD (Int.toNat (i64.wrap ((i64.wrap ((i64.wrap ((i64.wrap (ol .u64 (u64.wrap (i64.wrap (a+b))) 1))+m)) - 1)) - d))) default) (e.getD (Int.toNat d) default)) <0)))then .inr ((i64.wrap (d+1)),c.2)else .inr (c.1,d))else .inl c.1)
def t5 (a m b:Int)(e:List bn)(g:Nat)(c:Int×Int):Prop:=letI d:=i64.wrap (ol .u64 (u64.wrap (i64.wrap (c.1+c.2))) 1);letI f:=i64.wrap ((i64.wrap ((i64.wrap ((i64.wrap (ol .u64 (u64.wrap (i64.wrap (a+b))) 1))+m)) - 1)) - d);((decide (c.1<c.2))=true->((0<=f/\f< (e.length:Int))/\(0<=d/\d< (e.length:Int))))
def Mq (g:Int->Int->Int->List bn->List bn)(n:Int->Int->Int->List bn->Prop)(a m b:Int)(f:List bn):List bn:=letI d:=i64.wrap (ol .u64 (u64.wrap (i64.wrap (a+b))) 1);letI e:=i64.wrap (d+m);letI h:=f.length+1;(bif((i64.wrap (m - a)) ==1)then(match aj (tH a f) h 0 (m,b)with| .inl i=>(match aj (xc f i) h 0 (f,a)with| .inl j=>j| .inr o=>default) | .inr p=>default)else(bif((i64.wrap (b - m)) ==1)then(match aj (tI m f) h 0 (a,m)with| .inl k=>(match aj (xd f k) h 0 (f,m)with| .inl l=>l| .inr q=>default) | .inr r=>default)else(match aj (zD a m b f) h 0 ((bif(decide (m > d))then(i64.wrap (e - b))else a),(bif(decide (m > d))then d else m))with| .inl c=>(bif((decide (c<m))&&(decide (m< (i64.wrap (e - c)))))then(bif((decide (a<c))&&(decide (c<d)))then(bif((decide (d< (i64.wrap (e - c))))&&(decide ((i64.wrap (e - c)) <b)))then(g d (i64.wrap (e - c)) b (g a c d (aJ c m (i64.wrap (e - c)) f)))else(g a c d (aJ c m (i64.wrap (e - c)) f)))else(bif((decide (d< (i64.wrap (e - c))))&&(decide ((i64.wrap (e - c)) <b)))then(g d (i64.wrap (e - c)) b (aJ c m (i64.wrap (e - c)) f))else(aJ c m (i64.wrap (e - c)) f)))else(bif((decide (a<c))&&(decide (c<d)))then(bif((decide (d< (i64.wrap (e - c))))&&(decide ((i64.wrap (e - c)) <b)))then(g d (i64.wrap (e - c)) b (g a c d f))else(g a c d f))else(bif((decide (d< (i64.wrap (e - c))))&&(decide ((i64.wrap (e - c)) <b)))then(g d (i64.wrap (e - c)) b f)else f))) | .inr s=>default)))
def xe (l:Int->Int->Int->List bn->List bn)(g:Int->Int->Int->List bn->Prop)(a m b:Int)(c:List bn):Prop:=letI d:=i64.wrap (ol .u64 (u64.wrap (i64.wrap (a+b))) 1);letI e:=i64.wrap (d+m);letI h:=((bif(decide (m > d))then(i64.wrap (e - b))else a),(bif(decide (m > d))then d else m));letI f:=c.length+1;letI i:=zD a m b c;letI n:=(i64.wrap (m - a)) ==1;letI o:=(i64.wrap (b - m)) ==1;letI j:=tH a c;letI k:=tI m c;((n=true->(okI j (tY a c) f 0 (m,b)/\(∀ z_,aj j f 0 (m,b)≠ .inr z_)/\(∀ u0,aj j f 0 (m,b)=.inl u0->(okI (xc c u0) (wv c u0) f 0 (c,a)/\(∀ z_,aj (xc c u0) f 0 (c,a)≠ .inr z_)))))/\(n=false->((o=true->(okI k (tZ m c) f 0 (a,m)/\(∀ z_,aj k f 0 (a,m)≠ .inr z_)/\(∀ asi,aj k f 0 (a,m)=.inl asi->(okI (xd c asi) (ww c asi) f 0 (c,m)/\(∀ z_,aj (xd c asi) f 0 (c,m)≠ .inr z_)))))/\(o=false->(okI i (t5 a m b c) f 0 h/\(∀ z_,aj i f 0 h≠ .inr z_)/\(∀ arK,aj i f 0 h=.inl arK->((((decide (arK<m))&&(decide (m< (i64.wrap (e - arK)))))=true->((b8 arK m (i64.wrap (e - arK)) c)/\((((decide (a<arK))&&(decide (arK<d)))=true->((g a arK d (aJ arK m (i64.wrap (e - arK)) c))/\(((decide (d< (i64.wrap (e - arK))))&&(decide ((i64.wrap (e - arK)) <b)))=true->(g d (i64.wrap (e - arK)) b (l a arK d (aJ arK m (i64.wrap (e - arK)) c))))))/\(((decide (a<arK))&&(decide (arK<d)))=false->(((decide (d< (i64.wrap (e - arK))))&&(decide ((i64.wrap (e - arK)) <b)))=true->(g d (i64.wrap (e - arK)) b (aJ arK m (i64.wrap (e - arK)) c)))))))/\(((decide (arK<m))&&(decide (m< (i64.wrap (e - arK)))))=false->((((decide (a<arK))&&(decide (arK<d)))=true->((g a arK d c)/\(((decide (d< (i64.wrap (e - arK))))&&(decide ((i64.wrap (e - arK)) <b)))=true->(g d (i64.wrap (e - arK)) b (l a arK d c)))))/\(((decide (a<arK))&&(decide (arK<d)))=false->(((decide (d< (i64.wrap (e - arK))))&&(decide ((i64.wrap (e - arK)) <b)))=true->(g d (i64.wrap (e - arK)) b c))))))))))))
noncomputable def afL (asL:Int->Int->Int->List bn->List bn)(asA:Int->Int->Int->List bn->Prop):List SV->List Ob->Option arV:=kh (λx_:Int×Int×Int×(List bn) =>[.os 0,.i x_.1,.i x_.2.1,.i x_.2.2.1,.fn 284 [] []]) (λx_=>[.row .M1 x_.2.2.2]) (λx_=>fM (xe asL asA x_.1 x_.2.1 x_.2.2.1 x_.2.2.2) (.tup []) [.row .M1 (Mq asL asA x_.1 x_.2.1 x_.2.2.1 x_.2.2.2)])
theorem abA (V:Int->Int->Int->List bn->List bn)(O:Int->Int->Int->List bn->Prop)(hr:arT prog 339 (RR V O)):arT prog 339 (afL V O):=by
 have hG:=mG (cn [.st .M1,.st .M1] qi Y1) (co hr (co qj Y1));refine fR hG f339 (λl o con h=>?_);obtain⟨⟨a,m,b,E⟩,rfl,rfl,rfl⟩:=eD h;clear h;try dsimp only
 refine⟨_,_,_,rfl,λhp=>?_⟩;unfold xe at hp;refine⟨nbl rfl,(λid st=>bif Nat.beq id 0 then some (LCV (ρ:=Int) (σ:=(Int×Int)) 1 [] [0] (λk_0 l5=>⟨[(0,.os 0),(1,.i a),(4,.fn 284 [] []),(10,.i l5.1),(11,.i l5.2)],[.row .M1 E]⟩) (tH a E) (tY a E) (E.length+1) (m,b) (λ_=>.normal) (λu0=>⟨[(0,.os 0),(1,.i a),(10,.i u0)],[.row .M1 E]⟩) st)else bif Nat.beq id 2 then some (LCV (ρ:=(List bn)) (σ:=(List bn×Int)) 1 [] [0] (λk_1 s_1=>⟨[(0,.os 0),(10,.i (eS (aj (tH a E) (E.length+1) 0 (m,b)))),(13,.i s_1.2)],[.row .M1 s_1.1]⟩) (xc E (eS (aj (tH a E) (E.length+1) 0 (m,b)))) (wv E (eS (aj (tH a E) (E.length+1) 0 (m,b)))) (E.length+1) (E,a) (λ_=>.normal) (λY=>⟨[],[.row .M1 Y]⟩) st)else bif Nat.beq id 4 then some (LCV (ρ:=Int) (σ:=(Int×Int)) 1 [] [0] (λk_2 X=>⟨[(0,.os 0),(2,.i m),(4,.fn 284 [] []),(14,.i X.1),(15,.i X.2)],[.row .M1 E]⟩) (tI m E) (tZ m E) (E.length+1) (a,m) (λ_=>.normal) (λasi=>⟨[(0,.os 0),(2,.i m),(14,.i asi)],[.row .M1 E]⟩) st)else bif Nat.beq id 6 then some (LCV (ρ:=(List bn)) (σ:=(List bn×Int)) 1 [] [0] (λk_3 W=>⟨[(0,.os 0),(14,.i (eS (aj (tI m E) (E.length+1) 0 (a,m)))),(17,.i W.2)],[.row .M1 W.1]⟩) (xd E (eS (aj (tI m E) (E.length+1) 0 (a,m)))) (ww E (eS (aj (tI m E) (E.length+1) 0 (a,m)))) (E.length+1) (E,m) (λ_=>.normal) (λatg=>⟨[],[.row .M1 atg]⟩) st)else bif Nat.beq id 1000140 then some (JC (⟨[(0,.os 0),(1,.i a),(2,.i m),(3,.i b),(4,.fn 284 [] []),(18,.i (i64.wrap (ol .u64 (u64.wrap (i64.wrap (a+b))) 1))),(19,.i (i64.wrap ((i64.wrap (ol .u64 (u64.wrap (i64.wrap (a+b))) 1))+m))),(20,.i (bif(decide (m > (i64.wrap (ol .u64 (u64.wrap (i64.wrap (a+b))) 1))))then(i64.wrap ((i64.wrap ((i64.wrap (ol .u64 (u64.wrap (i64.wrap (a+b))) 1))+m)) - b))else a)),(21,.i (bif(decide (m > (i64.wrap (ol .u64 (u64.wrap (i64.wrap (a+b))) 1))))then(i64.wrap (ol .u64 (u64.wrap (i64.wrap (a+b))) 1))else m))],[.row .M1 E]⟩))else bif Nat.beq id 8 then some (LCV (ρ:=Int) (σ:=(Int×Int)) 1 [] [0] (λk_4 s_4=>⟨[(0,.os 0),(1,.i a),(2,.i m),(3,.i b),(4,.fn 284 [] []),(18,.i (i64.wrap (ol .u64 (u64.wrap (i64.wrap (a+b))) 1))),(19,.i (i64.wrap ((i64.wrap (ol .u64 (u64.wrap (i64.wrap (a+b))) 1))+m))),(20,.i s_4.1),(21,.i s_4.2),(22,.i (i64.wrap ((i64.wrap ((i64.wrap (ol .u64 (u64.wrap (i64.wrap (a+b))) 1))+m)) - 1)))],[.row .M1 E]⟩) (zD a m b E) (t5 a m b E) (E.length+1) ((bif(decide (m > (i64.wrap (ol .u64 (u64.wrap (i64.wrap (a+b))) 1))))then(i64.wrap ((i64.wrap ((i64.wrap (ol .u64 (u64.wrap (i64.wrap (a+b))) 1))+m)) - b))else a),(bif(decide (m > (i64.wrap (ol .u64 (u64.wrap (i64.wrap (a+b))) 1))))then(i64.wrap (ol .u64 (u64.wrap (i64.wrap (a+b))) 1))else m)) (λ_=>.normal) (λarK=>⟨[(0,.os 0),(1,.i a),(2,.i m),(3,.i b),(4,.fn 284 [] []),(18,.i (i64.wrap (ol .u64 (u64.wrap (i64.wrap (a+b))) 1))),(19,.i (i64.wrap ((i64.wrap (ol .u64 (u64.wrap (i64.wrap (a+b))) 1))+m))),(20,.i arK)],[.row .M1 E]⟩) st)else none),?_,?_⟩;unfold ae f339;simp only[ak,true_and,and_true,and_assoc];refine⟨?_,?_,?_,?_,?_⟩;refine fw mixed aB hG kr (λ_=>rfl) λk_0 l5 hq0=>⟨L0,ag _,?_⟩;unfold tY at hq0;exact cJ (jl [0]);refine fw mixed aB hG kr (λ_=>rfl) λk_1 s_1 hq1=>⟨L0,ag _,?_⟩;unfold wv at hq1;exact cJ (jl [0]);refine fw mixed aB hG kr (λ_=>rfl) λk_2 X hq2=>⟨L0,ag _,?_⟩;unfold tZ at hq2;exact cJ (jl [0]);refine fw mixed aB hG kr (λ_=>rfl) λk_3 W hq3=>⟨L0,ag _,?_⟩;unfold ww at hq3;exact cJ (jl [0]);refine fw mixed aB hG kr (λ_=>rfl) λk_4 s_4 hq4=>⟨L0,ag _,?_⟩;unfold t5 at hq4;exact cJ (jl [0]);unfold ae f339;try unfold Mq
 exact cJ (jl [0])
def rL:Nat->(Int->Int->Int->List bn->List bn)×(Int->Int->Int->List bn->Prop)
 |0=>(λ_ _ _ l=>l,λ_ _ _ _=>False)
 |n+1=>(Mq (rL n).1 (rL n).2,xe (rL n).1 (rL n).2)
theorem RS:∀ n,arT prog 339 (RR (rL n).1 (rL n).2)
 |0=>by
  have hG:arD prog (mkG [] []):=na Y1 Y1;refine ON mixed aB hG (fn:=f339) (c:=ae f339) kr kr kr kr λl o O h=>?_;obtain⟨⟨a,m,b,V⟩,rfl,rfl,rfl⟩:=eD h;exact⟨_,_,_,rfl,λE=>E.elim⟩
 |n+1=>abA _ _ (RS n)
def dz (a m b:Int)(c:List bn):List bn:=(rL (c.length+1)).1 a m b c
def cX (a m b:Int)(c:List bn):Prop:=(rL (c.length+1)).2 a m b c
noncomputable def ka:List SV->List Ob->Option arV:=kh (λx_:Int×Int×Int×(List bn) =>[.os 0,.i x_.1,.i x_.2.1,.i x_.2.2.1,.fn 284 [] []]) (λx_=>[.row .M1 x_.2.2.2]) (λx_=>fM (cX x_.1 x_.2.1 x_.2.2.1 x_.2.2.2) (.tup []) [.row .M1 (dz x_.1 x_.2.1 x_.2.2.1 x_.2.2.2)])
@[go_sem]def zY (a m b:Int)(d:List bn):ka ([.os 0,.i a,.i m,.i b,.fn 284 [] []]) ([.row .M1 d])=some (fM (cX a m b d) (.tup []) [.row .M1 (dz a m b d)]):=gA (A:=λc:Int×Int×Int×(List bn) =>[.os 0,.i c.1,.i c.2.1,.i c.2.2.1,.fn 284 [] []]) (H:=λc=>[.row .M1 c.2.2.2]) (K:=λc=>fM (cX c.1 c.2.1 c.2.2.1 c.2.2.2) (.tup []) [.row .M1 (dz c.1 c.2.1 c.2.2.1 c.2.2.2)]) (x:=(a,m,b,d))
theorem pe:arT prog 339 ka where
 enter:=λl h c e=>by
  obtain⟨⟨a,m,b,E⟩,rfl,rfl,rfl⟩:=eD e;exact(RS (E.length+1)).enter _ _ _ (KD _ _ a m b E)
 calls:=λl h c e O=>by
  obtain⟨⟨a,m,b,E⟩,rfl,rfl,rfl⟩:=eD e;exact(RS (E.length+1)).calls _ _ _ (KD _ _ a m b E) O
@[go_sem] def bW (n:Int)(b:Nat)(a:List bn×Int×Int):(Int×List bn)⊕(List bn×Int×Int):=(bif(decide (a.2.2<=n))then .inr ((aL a.2.1 a.2.2 a.1),a.2.2,(i64.wrap (a.2.2+20)))else .inl (a.2.1,a.1))
def dH (n:Int)(b:Nat)(a:List bn×Int×Int):Prop:=((decide (a.2.2<=n))=true->(be a.2.1 a.2.2 a.1))
@[go_sem] def dc (n:Int)(b:List bn×Int)(c:Nat)(a:List bn×Int×Int):(Int×List bn)⊕(List bn×Int×Int):=(bif(decide (a.2.2<=n))then .inr ((dz a.2.1 (i64.wrap (a.2.1+b.2)) a.2.2 a.1),a.2.2,(i64.wrap (a.2.2+(i64.wrap (2*b.2)))))else .inl (a.2.1,a.1))
def dI (n:Int)(b:List bn×Int)(c:Nat)(a:List bn×Int×Int):Prop:=((decide (a.2.2<=n))=true->(cX a.2.1 (i64.wrap (a.2.1+b.2)) a.2.2 a.1))
@[go_sem] def cq (n:Int)(d:Nat)(a:List bn×Int):(List bn)⊕(List bn×Int):=letI c:=i64.wrap (a.2*2);(bif(decide (a.2<n))then(match aj (dc n a) (Int.toNat n+1) 0 (a.1,0,(i64.wrap (2*a.2)))with| .inl b=>(bif(decide ((i64.wrap (b.1+a.2)) <n))then .inr ((dz b.1 (i64.wrap (b.1+a.2)) n b.2),c)else .inr (b.2,c)) | .inr e=>.inr default)else .inl a.1)
def cP (n:Int)(e:Nat)(a:List bn×Int):Prop:=letI b:=(a.1,0,(i64.wrap (2*a.2)));letI c:=dc n a;letI d:=Int.toNat n+1;((decide (a.2<n))=true->(okI c (dI n a) d 0 b/\(∀ z_,aj c d 0 b≠ .inr z_)/\(∀ asi,aj c d 0 b=.inl asi->((decide ((i64.wrap (asi.1+a.2)) <n))=true->(cX asi.1 (i64.wrap (asi.1+a.2)) n asi.2)))))
def c5 (n:Int)(b:List bn):List bn:=(match aj (bW n) (Int.toNat n+1) 0 (b,0,20)with| .inl a=>(match aj (cq n) (Int.toNat n+1) 0 ((aL a.1 n a.2),20)with| .inl c=>c| .inr d=>default) | .inr e=>default)
def cD (n:Int)(e:List bn):Prop:=letI b:=bW n;letI a:=Int.toNat n+1;letI d:=cq n;letI c:=(e,0,20);(okI b (dH n) a 0 c/\(∀ z_,aj b a 0 c≠ .inr z_)/\(∀ u0,aj b a 0 c=.inl u0->((be u0.1 n u0.2)/\(okI d (cP n) a 0 ((aL u0.1 n u0.2),20)/\(∀ z_,aj d a 0 ((aL u0.1 n u0.2),20)≠ .inr z_)))))
noncomputable def k9:List SV->List Ob->Option arV:=kh (λx_:Int×(List bn) =>[.os 0,.i x_.1,.fn 284 [] []]) (λx_=>[.row .M1 x_.2]) (λx_=>fM (cD x_.1 x_.2) (.tup []) [.row .M1 (c5 x_.1 x_.2)])
@[go_sem]def AX (n:Int)(b:List bn):k9 ([.os 0,.i n,.fn 284 [] []]) ([.row .M1 b])=some (fM (cD n b) (.tup []) [.row .M1 (c5 n b)]):=gA (A:=λa:Int×(List bn) =>[.os 0,.i a.1,.fn 284 [] []]) (H:=λa=>[.row .M1 a.2]) (K:=λa=>fM (cD a.1 a.2) (.tup []) [.row .M1 (c5 a.1 a.2)]) (x:=(n,b))
theorem qk:arT prog 317 (k9):=by
 have hG:=mG Y1 (co mT (co pe Y1));refine fR hG f317 (λl o con h=>?_);obtain⟨⟨n,l_⟩,rfl,rfl,rfl⟩:=eD h;clear h;try dsimp only
 refine⟨_,_,_,rfl,λhp=>?_⟩;unfold cD at hp;refine⟨nbl rfl,(λid st=>bif Nat.beq id 0 then some (LCV (ρ:=(Int×List bn)) (σ:=(List bn×Int×Int)) 1 [] [0] (λk_0 X=>⟨[(0,.os 0),(1,.i n),(2,.fn 284 [] []),(6,.i 20),(7,.i X.2.1),(8,.i X.2.2)],[.row .M1 X.1]⟩) (bW n) (dH n) (Int.toNat n+1) (l_,0,20) (λ_=>.normal) (λO=>⟨[(0,.os 0),(1,.i n),(2,.fn 284 [] []),(6,.i 20),(7,.i O.1)],[.row .M1 O.2]⟩) st)else bif Nat.beq id 2 then some (LCV (ρ:=(List bn)) (σ:=(List bn×Int)) 1 [] [0] (λk_1 E=>⟨[(0,.os 0),(1,.i n),(2,.fn 284 [] []),(6,.i E.2)],[.row .M1 E.1]⟩) (cq n) (cP n) (Int.toNat n+1) ((aL (eS (aj (bW n) (Int.toNat n+1) 0 (l_,0,20))).1 n (eS (aj (bW n) (Int.toNat n+1) 0 (l_,0,20))).2),20) (λ_=>.normal) (λY=>⟨[],[.row .M1 Y]⟩) st)else none),?_,?_⟩;unfold ae f317;simp only[ak,true_and,and_true,and_assoc];refine⟨?_,?_⟩;refine fw mixed aB hG kr (λ_=>rfl) λk_0 X hq0=>⟨L0,ag _,?_⟩;unfold dH at hq0;exact cJ (jl [0]);refine fw mixed aB hG kr (λ_=>rfl) λk_1 E hq1=>⟨(λid st=>bif Nat.beq id 4 then some (LCV (ρ:=(Int×List bn)) (σ:=(List bn×Int×Int)) 1 [] [0] (λk_2 W=>⟨[(0,.os 0),(1,.i n),(2,.fn 284 [] []),(6,.i E.2),(7,.i W.2.1),(8,.i W.2.2)],[.row .M1 W.1]⟩) (dc n E) (dI n E) (Int.toNat n+1) (E.1,0,(i64.wrap (2*E.2))) (λ_=>.normal) (λV=>⟨[(0,.os 0),(1,.i n),(2,.fn 284 [] []),(6,.i E.2),(7,.i V.1)],[.row .M1 V.2]⟩) st)else none),?_,?_⟩;simp only[ak,true_and,and_true];refine fw mixed aB hG kr (λ_=>rfl) λk_2 W hq2=>⟨L0,ag _,?_⟩;unfold dI at hq2;exact cJ (jl [0]);unfold cP at hq1;exact cJ (jl [0]);unfold ae f317;try unfold c5
 exact cJ (jl [0])
def cb (a:List bn):List bn:=(c5 (a.length:Int) a)
def bV (a:List bn):Prop:=(a.length<=aI->(cD (a.length:Int) a))
noncomputable def ia:List SV->List Ob->Option arV:=kh (λx_:(List bn) =>[.os 0,.fn 284 [] []]) (λx_=>[.row .M1 x_]) (λx_=>fM (bV x_) (.tup []) [.row .M1 (cb x_)])
@[go_sem]def wx (b:List bn):ia ([.os 0,.fn 284 [] []]) ([.row .M1 b])=some (fM (bV b) (.tup []) [.row .M1 (cb b)]):=gA (A:=λa:(List bn) =>[.os 0,.fn 284 [] []]) (H:=λa=>[.row .M1 a]) (K:=λa=>fM (bV a) (.tup []) [.row .M1 (cb a)]) (x:=b)
theorem lM:arT prog 283 (ia):=by
 have hG:=mG Y1 (co qk Y1);refine fR hG f283 (λl o E h=>?_);obtain⟨V,rfl,rfl,rfl⟩:=eD h;clear h;try dsimp only
 refine⟨_,_,_,rfl,λO=>?_⟩;unfold bV at O;refine⟨nbl rfl,L0,?_,?_⟩;unfold ae f283;simp only[ak,and_self,true_and,and_true];unfold ae f283;try unfold cb
 exact cJ (jl [0])
def qS (a:List bn):Unit:=()
noncomputable def kc:List SV->List Ob->Option arV:=kh (λx_:(List bn) =>[.os 0]) (λx_=>[.row .M1 x_]) (λx_=>fM True (.fn 318 [] [.ptr 1 0]) [.row .M1 x_,.cells [.os 0]])
@[go_sem]def zZ (b:List bn):kc ([.os 0]) ([.row .M1 b])=some (fM True (.fn 318 [] [.ptr 1 0]) [.row .M1 b,.cells [.os 0]]):=gA (A:=λa:(List bn) =>[.os 0]) (H:=λa=>[.row .M1 a]) (K:=λa=>fM True (.fn 318 [] [.ptr 1 0]) [.row .M1 a,.cells [.os 0]]) (x:=b)
theorem pf:arT prog 285 (kc):=by
 have hG:=mG Y1 Y1;refine fR hG f285 (λl o E h=>?_);obtain⟨O,rfl,rfl,rfl⟩:=eD h;clear h;try dsimp only
 refine⟨_,_,_,rfl,λV=>?_⟩;refine⟨nbl rfl,L0,?_,?_⟩;unfold ae f285;simp only[ak,and_self,true_and,and_true];unfold ae f285;try unfold qS
 exact cJ (jl [0,1])
@[go_sem] def gB (a:List bn)(c:Int)(b:Nat)(d:List (Int×Bool)):Empty⊕(List (Int×Bool)):=(bif(((a.getD b default).kind==4)&&(decide ((a.getD b default).known<=c)))then .inr (dF .int .bool d ((a.getD b default).of_) true)else .inr d)
def fo (a:List bn)(c b:Int):List bn:=(match aj (gB a b) a.length 0 ([])with| .inl x=>x.elim| .inr d=>(cb (bJ a b c d)))
def jr (a:List bn)(c b:Int):Prop:=(a.length<=aI->(∀ l5,aj (gB a b) a.length 0 ([])=.inr l5->((a.length*88<=dT)/\((bQ a b c l5)/\(bV (bJ a b c l5))))))
@[go_sem] def z9:m0:=(pR .M1 λa=>(pI λb=>(pI λc=>(pE (.det (jr a b c) (.fn 318 [] [.ep [.rs .M1 (fo a b c)] 0]))))))
theorem auO(h:p:=by simp only[go_sem,sq,sr];all_goals exact cl):p:=h
theorem yX:X1 prog 230 z9:=by
 have hG:=mG (cn [.sl .M1] yW Y1) (co nq (co lM (co pf Y1)));refine fN hG f230 [.o] (bG λE=>(aG λhour=>(aG λknown=>(am (λX=>?_)))));dsimp only[an]at X;unfold jr at X;refine⟨nbl rfl,(λid st=>bif Nat.beq id 0 then some (LCR (ρ:=Empty) (σ:=(List (Int×Bool))) 4 [] [0,1,2,3] (λV O=>⟨[(0,.rs .M1 E),(4,.ptr 0 0),(5,.ptr 1 0),(7,.ptr 3 0),(11,.rs .M1 E),(12,.i (E.length:Int)),(13,.i V)],[.cells [.i hour],.cells [.i known],.mp .int .bool O none,.cells [.os 2]]⟩) (gB E known) pT E.length ([]) (E.length<=aI) ((·.elim)) ((·.elim)) st)else none),?_,?_⟩;unfold ae f230;simp only[ak,true_and,and_true];refine bu mixed aB hG kr (λ_=>rfl) (E.length:Int) rfl fO (λhb0 V O W _ hw hc=>⟨L0,ag _,?_⟩) (λhb0 O hc=>?_);exact bC (jl [0,1,2,3]);exact bD (jl [0,1,2,3]);unfold ae f230;try unfold fo
 exact auO
theorem He(a0:JL l0)(h:JL l0->p:=by intro ja;(first|done|(repeat' (first|with_reducible refine And.intro ?_ ?_|((with_reducible show _≠_);first|assumption|omega|(simp_all [bp,eS];done) |grind) |with_reducible intro _)) <;>(first|done|with_reducible exact Empty.elim ‹Empty› |with_reducible assumption|rfl|omega|assumption|decide|exact fk ja|(refine Or.inr ?_;exact fkY ja) |(refine Or.inl ?_;exact fkY ja) |(refine Or.inl ⟨rfl,?_⟩;exact fkY ja) |(simp only[*,cond_true,cond_false,aoH,aoS,go_sem];done) |(simp only[*,cond_true,cond_false,aoH,aoS,go_sem];(repeat' (first|with_reducible refine And.intro ?_ ?_|((with_reducible show _≠_);first|assumption|omega|(simp_all [bp,eS];done) |grind) |with_reducible intro _)) <;>(first|done|assumption|rfl|omega|decide|exact fk ja|(refine Or.inr ?_;exact fkY ja) |(refine Or.inl ?_;exact fkY ja) |(refine Or.inl ⟨rfl,?_⟩;exact fkY ja) |(simp_all [bp,eS];done))) |(exfalso;rename_i h1 h2;rw[h1]at h2;cases h2) |(exfalso;rename_i h1 h2;simp only[h1,aoS,aoH,aq3,Bool.or_true,apV,apW,reduceCtorEq]at h2;done) |(exfalso;clear hy hG;simp_all;done) |(simp only[*,aoK,forall_eq',true_implies,forall_const,reduceCtorEq,false_implies,and_true,aoq,aon,aoI,aou,go_sem]at hq2;first|exact hq2.1|exact hq2.2.1|exact hq2|exact hq2.2|(simp only[hq2];done)) |(simp only[*,aoK,forall_eq',true_implies,forall_const,reduceCtorEq,false_implies,and_true,aoq,aon,aoI,aou,go_sem]at hq1;first|exact hq1.1|exact hq1.2.1|exact hq1|exact hq1.2|(simp only[hq1];done)) |(clear hy hG;simp_all only[bp,eS,aoK,forall_eq',true_implies,forall_const,reduceCtorEq,false_implies,and_true,aoq,aon,aoI,aou,go_sem];done) |(simp_all [okI,bp,eS];done) |(simp_all [bp,eS];(first|done|exact fk2 ja)) |exact fk2 ja))):p:=h a0
theorem ql(a0:JL l0)(h:JL l0->p:=by intro ja;simp only[go_sem,hc,hw];all_goals exact He ja):p:=h a0
theorem qm(a0:JL l0)(h:JL l0->p:=by intro ja;simp only[go_sem,hc];all_goals exact He ja):p:=h a0
@[go_sem] def En (x:bn):List SV:=[.agg (cellsOf .M1 x)]
@[go_sem] def dy (a:List bn)(b:Nat)(c:List bn):Empty⊕(List bn):=.inr (c++[(a.getD b default)])
def dV (a:List bn)(b:List (List SV))(c:Nat)(d:List bn):Prop:=(b[d.length]? =some (En (a.getD c default)))
def a8 (a:List bn):List bn:=(match aj (dy a) a.length 0 ([]:List bn)with| .inl x=>x.elim| .inr b=>b)
def dC (a:List bn)(b:List (List SV)):Prop:=letI c:=dy a;(a.length<=aI->(okI c (dV a b) a.length 0 ([]:List bn)/\(∀ l5,aj c a.length 0 ([]:List bn)=.inr l5->(b.length=l5.length))))
theorem O_(a0:JL l0)(h:JL l0->p:=by intro ja;simp only[go_sem];all_goals exact He ja):p:=h a0
theorem ov (O:List bn)(E:List (List SV))(hp:dC O E):AQ prog 318 (λy=>[y,.ep [.rs .M1 O] 0]) [] E:=by
 unfold dC at hp;refine Df mixed aB (fn:=f318) (c:=ae f318) kr kr kr kr rfl (n:=0) rfl (G:=λY=>AS [] [] (ER E Y)) (λY hy=>?_) (λargs w=>by kernel_rfl);have hG:=mGY Y1 Y1 hy;refine⟨hG,nbl rfl,(λid st=>bif Nat.beq id 0 then some (LCY (ρ:=Empty) (σ:=(List bn)) 1 [] [0] (λW V=>⟨[(0,.os 0),(5,.rs .M1 O),(6,.i (O.length:Int)),(7,.i W)],[.ab (Y.1 (V.length+1))]⟩) (dy O) (dV O E) O.length ([]:List bn) (O.length<=aI) ((·.elim)) ((·.elim)) ⟨[],[.ab (Y.1 0)]⟩ st)else none),?_,?_⟩;unfold ae f318;simp only[ak,true_and,and_true];refine uw mixed aB hG kr (λ_=>rfl) (O.length:Int) rfl fO (λhb0 W V asO X hw hc=>⟨L0,ag _,?_⟩) (λhb0 V hc=>?_);unfold dV at X;try simp only[hw,aol]at X
 exact ql (jl [0]);exact qm (jl [0]);unfold ae f318;exact O_ (jl [0])
@[go_sem]def amU {f:FuncId}:CU (.fn f [] [])=some [.fn f [] []]:=(rfl)
theorem wy {κ υ:Type}[DecidableEq κ](l:List (κ×υ))(x z:κ)(y:υ):jy (u5 l x y) z=if z=x then some y else jy l z:=by
 induction l with
 |nil=>simp[u5,jy]
 |cons a r O=>
  obtain⟨a,b⟩:=a;unfold u5;by_cases h:x=a
  subst h;simp only[if_pos];unfold jy;by_cases E:z=x <;>simp[E]
  rw[if_neg h];unfold jy;by_cases E:z=a
  subst E;rw[if_pos rfl,if_neg (λe=>h e.symm),if_pos rfl];rw[if_neg E,O,if_neg E]
def gN:List (Int×(Option Nat)):=(dF .int .fnc (dF .int .fnc (dF .int .fnc ([]) 1 (some 314)) 2 (some 315)) 3 (some 316))
@[go_sem] def Dt:m0:=(pE (.det True (.nm .int .fnc (gN))))
theorem B7:X1 prog 279 Dt:=by
 have hG:=mG Y1 Y1;refine fW hG f279 [] (am (λE=>?_));dsimp only[an]at E;refine⟨nbl rfl,L0,ag _,?_⟩;unfold ae f279;try unfold gN
 exact zq2
theorem wz (k:Int):aC .int .fnc gN k=bif k==1 then some 314 else bif k==2 then some 315 else bif k==3 then some 316 else none:=by
 by_cases h1:k=1
 subst h1;rfl;by_cases h2:k=2
 subst h2;rfl;by_cases E:k=3
 subst E;rfl;have V:(k==1)=false:=by simpa using h1
 have W:(k==2)=false:=by simpa using h2
 have O:(k==3)=false:=by simpa using E
 rw[V,W,O];simp only[gN,aC,dF,wy,if_neg h1,if_neg h2,if_neg E];rfl
def fC (x:bn)(n:Int)(a:List (G2×Int)):List (G2×Int):=(dF .pq .int a ({ right:=x.right,dd:=x.to}:G2) (i64.wrap ((aC .pq .int a ({ right:=x.right,dd:=x.to}:G2))+n)))
noncomputable def sw:List SV->List Ob->Option arV:=kh (λx_:bn×Int×(List (G2×Int)) =>[.os 0,.agg (cellsOf .M1 x_.1),.i x_.2.1]) (λx_=>[.mp .pq .int x_.2.2 none]) (λx_=>fM True (.tup []) [.mp .pq .int (fC x_.1 x_.2.1 x_.2.2) none])
variable {p0_:Option (Nat×Option Tag.pq.T)}
@[go_sem] theorem KE(x:bn)(n:Int)(m_:List (G2×Int))(atU:p0_=none):sw ([.os 0,.agg [.i x.no,.i x.kind,.i x.right,.i x.since,.i x.to,.rs .part x.parts,.i x.of_,.i x.at_,.i x.known],.i n]) ([.mp .pq .int m_ p0_])=some (fM True (.tup []) [.mp .pq .int (fC x n m_) none]):=by
 subst atU;exact gA (A:=λx_:bn×Int×(List (G2×Int)) =>[.os 0,.agg (cellsOf .M1 x_.1),.i x_.2.1]) (H:=λx_=>[.mp .pq .int x_.2.2 none]) (K:=λx_=>fM True (.tup []) [.mp .pq .int (fC x_.1 x_.2.1 x_.2.2) none]) (x:=(x,n,m_))
theorem ye:arT prog 314 (sw):=by
 have hG:=mG Y1 Y1;refine fR hG f314 (λl o E h=>?_);obtain⟨⟨x,n,V⟩,rfl,rfl,rfl⟩:=eD h;clear h;try dsimp only
 refine⟨_,_,_,rfl,λO=>?_⟩;refine⟨nbl rfl,L0,?_,?_⟩;unfold ae f314;simp only[ak,and_self,true_and,and_true];unfold ae f314;try unfold fC
 exact cJ (jl [0])
@[go_sem] def cr (x:bn)(n:Int)(e:Nat)(a:List (G2×Int)×Int):Empty⊕(List (G2×Int)×Int):=letI b:=x.parts.getD e default;letI c:=({ right:=x.right,dd:=b.dd}:G2);letI d:=fB (b.share) n;.inr ((dF .pq .int a.1 c (i64.wrap ((aC .pq .int a.1 c)+d.1))),(i64.wrap (a.2 - d.1)))
@[go_sem] def jB (x:bn)(c:List (G2×Int)×Int)(d:Nat)(a:List (G2×Int)):Empty⊕(List (G2×Int)):=letI b:=({ right:=x.right,dd:=(((x.parts.take (Int.toNat c.2)).drop 0).getD d default).dd}:G2);.inr (dF .pq .int a b (i64.wrap ((aC .pq .int a b)+1)))
def dR (x:bn)(n:Int)(b:List (G2×Int)):List (G2×Int):=(match aj (cr x n) x.parts.length 0 (b,n)with| .inl x=>x.elim| .inr a=>(match aj (jB x a) (((x.parts.take (Int.toNat a.2)).drop 0).length) 0 a.1 with| .inl x=>x.elim| .inr c=>c))
def ga (x:bn)(n:Int)(a:List (G2×Int)):Prop:=(x.parts.length<=aI->(∀ l5,aj (cr x n) x.parts.length 0 (a,n)=.inr l5->(0<=0/\0<=l5.2/\l5.2<=(x.parts.length:Int))))
noncomputable def qU:List SV->List Ob->Option arV:=kh (λx_:bn×Int×(List (G2×Int)) =>[.os 0,.agg (cellsOf .M1 x_.1),.i x_.2.1]) (λx_=>[.mp .pq .int x_.2.2 none]) (λx_=>fM (ga x_.1 x_.2.1 x_.2.2) (.tup []) [.mp .pq .int (dR x_.1 x_.2.1 x_.2.2) none])
@[go_sem] theorem Ji(x:bn)(n:Int)(m_:List (G2×Int))(atU:p0_=none):qU ([.os 0,.agg [.i x.no,.i x.kind,.i x.right,.i x.since,.i x.to,.rs .part x.parts,.i x.of_,.i x.at_,.i x.known],.i n]) ([.mp .pq .int m_ p0_])=some (fM (ga x n m_) (.tup []) [.mp .pq .int (dR x n m_) none]):=by
 subst atU;exact gA (A:=λx_:bn×Int×(List (G2×Int)) =>[.os 0,.agg (cellsOf .M1 x_.1),.i x_.2.1]) (H:=λx_=>[.mp .pq .int x_.2.2 none]) (K:=λx_=>fM (ga x_.1 x_.2.1 x_.2.2) (.tup []) [.mp .pq .int (dR x_.1 x_.2.1 x_.2.2) none]) (x:=(x,n,m_))
theorem xf:arT prog 315 (qU):=by
 have hG:=mG (cp yU Y1) Y1;refine fR hG f315 (λl o con h=>?_);obtain⟨⟨x,n,O⟩,rfl,rfl,rfl⟩:=eD h;clear h;try dsimp only
 refine⟨_,_,_,rfl,λhp=>?_⟩;unfold ga at hp;refine⟨nbl rfl,(λid st=>bif Nat.beq id 0 then some (LCR (ρ:=Empty) (σ:=(List (G2×Int)×Int)) 2 [] [0,1] (λW E=>⟨[(0,.os 0),(2,.i n),(4,.ptr 1 0),(6,.i E.2),(16,.rs .part x.parts),(17,.i (x.parts.length:Int)),(18,.i W)],[.mp .pq .int E.1 none,.cells (cellsOf .M1 x)]⟩) (cr x n) pT x.parts.length (O,n) (x.parts.length<=aI) ((·.elim)) ((·.elim)) st)else bif Nat.beq id 2 then some (LCR (ρ:=Empty) (σ:=(List (G2×Int))) 2 [] [0,1] (λX V=>⟨[(0,.os 0),(4,.ptr 1 0),(48,.rs .part ((x.parts.take (Int.toNat (bp (aj (cr x n) x.parts.length 0 (O,n))).2)).drop 0)),(49,.i (((x.parts.take (Int.toNat (bp (aj (cr x n) x.parts.length 0 (O,n))).2)).drop 0).length:Int)),(50,.i X)],[.mp .pq .int V none,.cells (cellsOf .M1 x)]⟩) (jB x (bp (aj (cr x n) x.parts.length 0 (O,n)))) pT (((x.parts.take (Int.toNat (bp (aj (cr x n) x.parts.length 0 (O,n))).2)).drop 0).length) ((bp (aj (cr x n) x.parts.length 0 (O,n))).1) (((x.parts.take (Int.toNat (bp (aj (cr x n) x.parts.length 0 (O,n))).2)).drop 0).length<=aI) ((·.elim)) ((·.elim)) st)else none),?_,?_⟩;unfold ae f315;simp only[ak,true_and,and_true,and_assoc];refine⟨?_,?_⟩;refine bu mixed aB hG kr (λ_=>rfl) (x.parts.length:Int) rfl fO (λhb0 W E asO _ hw hc=>⟨L0,ag _,?_⟩) (λhb0 E hc=>?_);exact bC (jl [0,1]);exact bD (jl [0,1]);refine bu mixed aB hG kr (λ_=>rfl) (((x.parts.take (Int.toNat (bp (aj (cr x n) x.parts.length 0 (O,n))).2)).drop 0).length:Int) rfl fO (λhb1 X V Y _ hw hc=>⟨L0,ag _,?_⟩) (λhb1 V hc=>?_);exact bC (jl [0,1]);exact bD (jl [0,1]);unfold ae f315;try unfold dR
 exact cJ (jl [0])
def Aa (x:bn)(n:Int)(a:List (G2×Int)):Unit:=()
noncomputable def qV:List SV->List Ob->Option arV:=kh (λx_:bn×Int×(List (G2×Int)) =>[.os 0,.agg (cellsOf .M1 x_.1),.i x_.2.1]) (λx_=>[.mp .pq .int x_.2.2 none]) (λx_=>fM True (.tup []) [.mp .pq .int x_.2.2 none])
@[go_sem] theorem Jj(x:bn)(n:Int)(m_:List (G2×Int))(atU:p0_=none):qV ([.os 0,.agg [.i x.no,.i x.kind,.i x.right,.i x.since,.i x.to,.rs .part x.parts,.i x.of_,.i x.at_,.i x.known],.i n]) ([.mp .pq .int m_ p0_])=some (fM True (.tup []) [.mp .pq .int m_ none]):=by
 subst atU;exact gA (A:=λx_:bn×Int×(List (G2×Int)) =>[.os 0,.agg (cellsOf .M1 x_.1),.i x_.2.1]) (H:=λx_=>[.mp .pq .int x_.2.2 none]) (K:=λx_=>fM True (.tup []) [.mp .pq .int x_.2.2 none]) (x:=(x,n,m_))
theorem xg:arT prog 316 (qV):=by
 have hG:=mG Y1 Y1;refine fR hG f316 (λl o E h=>?_);obtain⟨⟨x,n,V⟩,rfl,rfl,rfl⟩:=eD h;clear h;try dsimp only
 refine⟨_,_,_,rfl,λO=>?_⟩;refine⟨nbl rfl,L0,?_,?_⟩;unfold ae f316;simp only[ak,and_self,true_and,and_true];unfold ae f316;try unfold Aa
 exact cJ (jl [0])
end Go.Sx
end
