/- Part of the proof of the law RefuseHoldsSpec (the Upto form). -/
import Derived.Test.YtaikmgjfkejlkaaGreatT107
import Derived.Shelf.SortM.Plain
import Derived.Shelf.SortM.SortNone
import Derived.Ground.SlgmProg
import Derived.Shelf.Slices.CompactI
import Derived.Shelf.SlGeneric
set_option linter.all false
set_option maxHeartbeats 4000000
set_option maxRecDepth 100000
section
namespace Go.Sx
open Go.Lib Go.Proofs Go.RowKit Go.Shelf Go.Sort
open Classical in
noncomputable def jz (k:Tag)(g:FuncId)(caps:List SV)(cf:k.T->k.T->Int):List SV->List Ob->Option atB:=λl h=>
 QF k (λl0=>if l=[.os 0,.fn g [] caps]then some (fZ (apart cf l0) (.tup []) [.row k (srt cf l0)])else none) h
@[go_sem]def oM {k:Tag}{g:FuncId}{caps:List SV}{cf:k.T->k.T->Int}{l0:List k.T}:jz k g caps cf [.os 0,.fn g [] caps] [.row k l0]=some (fZ (apart cf l0) (.tup []) [.row k (srt cf l0)]):=by
 simp[jz,QF]
section
variable {P:Program}{ρ:Ren}{k:Tag}
variable {w:World}{cs:Array Value}{ty:TypeId}
theorem ZX{b:Nat}(E:w.heap[b]? =some (.cells cs ty (0,0)))(D:Array Value)(o:Nat):(putRow id w b o D).heap[b]? =some (.cells (putCells id o D cs) ty (0,0)):=by
 unfold putRow mapBlock;simp[asT,E];rfl
theorem QP{b c:Nat}(hc:c≠b)(D:Array Value)(o:Nat):(putRow id w b o D).heap[c]? =w.heap[c]?:=by
 unfold putRow mapBlock;grind
variable {o:Nat}
theorem NZ{D:Array Value}{t:Nat}(O:t<D.size)(E:o+t<cs.size):(putCells id o D cs)[o+t]? =D[t]?:=by
 unfold putCells;grind
variable {α:Type}{enc:α->List Value}{n:Nat}
theorem QQ[Inhabited α](hn:∀ x,(enc x).length=n){d:Array α}{i j:Nat}(hi:i<d.size)(E:j<n):(flatK enc n d)[i*n+j]? =(enc d[i]!)[j]?:=by
 have hlt:i*n+j<d.size*n:=by
  have:=aqm n (show i+1<=d.size from hi);grind
 have h1:i*n+j< (flatK enc n d).size:=by simp_all
 rw[arE h1,<-getElem!_pos (flatK enc n d) _ h1,get_flatK enc n d _ hlt];grind [Nat.mul_comm,Nat.mul_add_div,Nat.div_eq_of_lt,Nat.mul_add_mod,Nat.mod_eq_of_lt]
variable {m:Nat}
theorem awx[Inhabited α]{b:Nat}(O:w.heap[b]? =some (.cells cs ty (0,0)))(d:Array α)(E:Array Obj):(sortWorldK enc n w b o m d E).heap[b]? =some (.cells (putCells id o (flatK enc n d) cs) ty (0,0)):=by
 unfold sortWorldK grow;rw[aqv (by unfold putRowK putRow mapBlock Sort.ahead;grind)];exact ZX (w:=Sort.ahead w m) O _ _
theorem aeW[Inhabited α]{b c:Nat}(hc:c<w.heap.size)(E:c≠b)(d:Array α)(O:Array Obj):(sortWorldK enc n w b o m d O).heap[c]? =w.heap[c]?:=by
 unfold sortWorldK grow;rw[aqv (by unfold putRowK putRow mapBlock Sort.ahead;grind)];exact QP (w:=Sort.ahead w m) E _ _
theorem N0[Inhabited α]{b:Nat}(d:Array α)(E:Array Obj):w.heap.size<=(sortWorldK enc n w b o m d E).heap.size:=by
 unfold sortWorldK grow putRowK putRow mapBlock Sort.ahead;simp
theorem tJ (L:SlLaysF0.n6 P ρ)(aE:∀ w,(isAgg (ρ.t 24)).run P w=.ok true w)(zE:∀ w,(Go.sizeOf (ρ.t 24)).run P w=.ok (ae k) w)(hk:zM k)(h0:0<ae k){g:FuncId}{caps:List SV}{C:FI}(hC:P0 P g C){cf:k.T->k.T->Int}
  (hcf:∀ x y,C (.agg (cellsOf k x):: .agg (cellsOf k y)::caps)=some (.det True (.i (cf x y)))) (hO:SWO (ltOf cf)) (hpf:∀ s∈caps,PF s) (awp:∃ x y,C (.agg (cellsOf k x):: .agg (cellsOf k y)::caps)=some (.det True (.i (cf x y)))):atA P (ρ.f 6) (jz k g caps cf):=by
 haveI:Inhabited k.T:=⟨eT k⟩
 refine⟨λl h c hc args w=>L.f6.enters rfl args w,λl h c hc hp F own w vs O hvs=>?_⟩;unfold jz at hc;obtain⟨l0,hh,hK⟩:=QG hc;clear hc;subst hh;by_cases hl:l=[.os 0,.fn g [] caps]
 rotate_left
 grind
 rw[if_pos hl]at hK;subst hl;cases hK;have hp:apart cf l0:=hp;obtain⟨hsz,aun⟩:=hvs;have r0:=aun 0 _ rfl;have r1:=aun 1 _ rfl;have Y:vs= #[vs.getD 0 undef,vs.getD 1 undef]:=by
  apply atl;omega;intro i h1 h2;simp[aqc,aqJ]at hsz;match i,h1,h2 with
  |0,h1,_=>simp_all|1,h1,_=>simp_all|i+2,h1,_=>omega
 generalize vs.getD 0 undef=v0 at r0 Y;generalize vs.getD 1 undef=v1 at r1 Y;subst Y;obtain⟨hd,o0,rfl,_⟩:=i7 r0;obtain⟨hd',o0',X⟩:=O.at (id:=0) (o:=.row k l0) rfl rfl;rw[o0]at o0';cases o0';have X:atJ F own w k l0 hd.v hd.bs:=X;cases r1 with
 | @fn _ _ _ us cs s1 s2 c1 c2=>
 have hus:us= #[]:=asj XM;subst hus;rcases X with⟨a,e1,rfl,e2⟩ | ⟨b,o,cap,cells,ty,e1,e2,e3,e4,e5,e6,e7⟩;rw[e1];refine(AnyF.slices_SortFunc_none L a 0 _ w).mono λe w' he=>?_;obtain⟨rfl,rfl⟩:=he;refine⟨(),own,trivial,⟨_,rfl,.tup rfl λj s E=>by simp at E⟩,?_,Fr.refl _,aqb _⟩;simp_all [srt]
 ·have V:b∈hd.bs:=by rw[e2];simp
  have hbw:b<w.heap.size:=O.lt 0 hd b o0 V;have hkl:∀ x:k.T,(wa k x).length=ae k:=λx=>by unfold wa;rw[aq5,cb]
  have hone:∀ x:k.T,∀ v∈wa k x,v.oneCell'=true:=λx v hv=>by
   unfold wa at hv;rw[aq1]at hv;obtain⟨s,hs,rfl⟩:=hv;obtain⟨v,rfl,h1⟩:=hk x s hs;exact h1
  have eg:∀ args w,(callFunc g args).run P w=.ok (.enter g args) w:=λargs w=>by
   have⟨x,y,hxy⟩:=awp;exact hC.enter _ _ hxy args w
  have hown:∀ id h2,own id=some h2->id=0:=λid h2 e=>by have:=O.dom id h2 e;grind
  have hH:HoldsK (wa k) (ae k) w b o l0.toArray:=by
   intro t ht;rw[size_flatK]at ht;have hi:t / ae k<l0.length:=Nat.div_lt_of_lt_mul XN;have E:=ar8 t h0;have ht':t=t / ae k*ae k+t % ae k:=(Nat.div_add_mod' t _).symm;have q1:=D5 hk e7 hi E;have q2:=QQ (enc:=wa k) hkl (d:=l0.toArray) (i:=t / ae k) (j:=t % ae k) XM E;grind [World.cell?,World.frozen?]
  have hcmp:CmpLays P g cs (wa k) (ae k) cf b o l0.toArray.size w:=by
   intro m os dk hdk x y;generalize hW:sortWorldK (wa k) (ae k) w b o m dk os=W;have hcar:atS F own w F own W:=⟨λ_ h2 e=>⟨h2,e,.refl _⟩,λc hc hn=>⟨hn,by
    rw[<-hW];exact aeW hc (λe=>hn (.inr ⟨0,hd,o0,e▸V⟩)) _ _⟩⟩
   have henc:∀ z:k.T,Rel (λ_=>False) dI W (.agg (cellsOf k z)) (.agg (wa k z).toArray):=λz=>by
    refine .agg (by simp[wa]) λj s E=>?_;obtain⟨v,rfl,_⟩:=hk z s (aql E);have:(wa k z).toArray.getD j undef=v:=by
     unfold wa;rw[aqC,ash,are,E];rfl
    rw[this];exact .v v
   have hcall:=QO (hC.calls _ _ (hcf x y) trivial (λ_=>False) W (#[.agg (wa k x).toArray,.agg (wa k y).toArray]++cs) (λ_ h=>h.elim) ⟨XN,λj s E=>by
    match j,E with
    |0,E=>
     cases E;simp_all [aqv]
    |1,E=>
     cases E;simp_all [aqv]
    |j+2,E=>
     have:=((c2 j s E).carry hcar).atF (hpf s (aql E)) (F':=λ_=>False) (l5:=dI) λ_ _ h=>by
      rcases h with h| ⟨_,_,h,_⟩;exact h;cases h
     simp_all [arw]⟩)
   refine hcall.mono λe w' hq=>?_;have⟨he,hdr⟩:=hq;rcases he with⟨s,u,l5,hs,rfl,hh,hb⟩ | ⟨z,hz,_⟩;subst hs;have:=hh.val;rw[cV this];exact⟨rfl,ac9 hb (hdr (by simp))⟩;exact hz.elim
  have hall:=AnyQ.slices_SortFunc L (ae k) aE zE (wa k) hkl hone cf hO g cs b o cap l0.toArray w eg hcmp hH hbw (by grind [aD]);rw[e1];refine hall.mono λe w' he=>?_;obtain⟨rfl,d',n,os,hpm,hst,rfl⟩:=he;have hd':=TC hO hp hpm hst;subst hd';have hlS:(srt cf l0).length=l0.length:=asU _;generalize srt cf l0=lS at hlS;have hsb:=awx (enc:=wa k) (n:=ae k) (o:=o) (m:=n) e3 lS.toArray os;refine⟨(),own,trivial,⟨_,rfl,.tup rfl λj s E=>by simp at E⟩,?_,?_,aqb _⟩;refine⟨O.dom,λc hc=>aqi (O.atu c hc) (N0 _ _),O.apart,O.inj,λi h2 c e hc=>aqi (O.lt i h2 c e hc) (N0 _ _),λi hi=>?_⟩;match i,hi with
  |0,_=>
   refine⟨hd,o0,?_⟩;refine .inr ⟨b,o,cap,_,ty,XN,e2,hsb,?_,XM,XM,D6 hk λi j hi E=>?_⟩;unfold putCells;grind;have hlt:i*ae k+j< (flatK (wa k) (ae k) lS.toArray).size:=by
    rw[size_flatK];have:=aqm (ae k) (show i+1<=lS.length from hi);grind
   have hle:o+(i*ae k+j) <cells.size:=by
    simp[List.size_toArray]at hlt;have:=aqm (ae k) (show lS.length<=cap by omega);omega
   rw[arx,NZ hlt hle,QQ hkl XM E];grind
  |i+1,hi=>cases hi
  refine⟨λ_ h2 e=>⟨h2,e,.refl _⟩,(Fr.refl { w:=w,own:=own}).base,rfl,rfl,rfl,N0 _ _,λc hc=>?_⟩;exact aeW hc.1 (λe=>hc.2 ⟨0,hd,o0,e▸V⟩) _ _
end
def yc (l:List Int):List Int:=l.mergeSort λx y=>decide (x<=y)
noncomputable def TD:List SV->List Ob->Option atB:=jR (λx_:List Int=>[.os 0]) (λx_=>[.row .int x_]) (λx_=>fZ True (.tup []) [.row .int (yc x_)])
@[go_sem]def aj9 (b:List Int):TD ([.os 0]) ([.row .int b])=some (fZ True (.tup []) [.row .int (yc b)]):=gb (A:=λa:List Int=>[.os 0]) (H:=λa=>[.row .int a]) (K:=λa=>fZ True (.tup []) [.row .int (yc a)]) (x:=b)
section
variable {P:Program}{ρ:Ren}
variable {enc:Int->Value}{w:World}{cs:Array Value}{ty:TypeId}
theorem aeX{b:Nat}(E:w.heap[b]? =some (.cells cs ty (0,0)))(D:Array Int)(o:Nat):(putRow enc w b o D).heap[b]? =some (.cells (putCells enc o D cs) ty (0,0)):=by
 unfold putRow mapBlock;simp[asT,E];rfl
theorem ZY{b c:Nat}(hc:c≠b)(D:Array Int)(o:Nat):(putRow enc w b o D).heap[c]? =w.heap[c]?:=by
 unfold putRow mapBlock;grind
variable {o:Nat}
theorem QR{D:Array Int}{t:Nat}(O:t<D.size)(E:o+t<cs.size):(putCells enc o D cs)[o+t]? =some (enc D[t]):=by
 unfold putCells;grind
variable {m:Nat}
theorem awu{b:Nat}(E:w.heap[b]? =some (.cells cs ty (0,0)))(d:Array Int)(O:Array Obj):(grow (putRow enc (Sort.ahead w m) b o d) O).heap[b]? =some (.cells (putCells enc o d cs) ty (0,0)):=by
 have hlt:b<w.heap.size:=(asv.1 E).1;unfold grow;rw[aqv (by simp_all)];exact aeX (w:=Sort.ahead w m) E _ _
theorem amg{b c:Nat}(hc:c<w.heap.size)(E:c≠b)(d:Array Int)(O:Array Obj):(grow (putRow enc (Sort.ahead w m) b o d) O).heap[c]? =w.heap[c]?:=by
 unfold grow;rw[aqv (by simp_all)];exact ZY (w:=Sort.ahead w m) E _ _
theorem N1{b:Nat}(d:Array Int)(E:Array Obj):w.heap.size<=(grow (putRow enc (Sort.ahead w m) b o d) E).heap.size:=by
 simp_all
theorem Ax:zM .int:=by
 intro x s E;have:s=.i x:=by grind [cellsOf]
 exact⟨_,this,rfl⟩
theorem TE (L:SlLaysM.n5 P ρ):atA P (ρ.f 5) TD:=by
 refine⟨λl h c hc args w=>L.f5.enters rfl args w,λl h c hc hp F own w vs E hvs=>?_⟩;obtain⟨l0,rfl,rfl,rfl⟩:=ed hc;have⟨hsz,aun⟩:=hvs;have r0:=aun 0 _ rfl;have V:vs= #[vs.getD 0 undef]:=by
  apply atl <;>simp_all
 generalize vs.getD 0 undef=v0 at r0 V;subst V;obtain⟨hd,o0,rfl,_⟩:=i7 r0;have⟨hd',o0',hrow⟩:=E.at (id:=0) (o:=.row .int l0) rfl rfl;rw[o0]at o0';cases o0';rcases hrow with⟨a,e1,rfl,e2⟩ | ⟨b,o,cap,cells,ty,e1,e2,e3,e4,e5,e6,e7⟩;rw[e1];refine(AnyM.slices_Sort_int_none L a 0 w).mono λe w' he=>?_;obtain⟨rfl,rfl⟩:=he;refine⟨(),own,trivial,⟨_,rfl,.tup rfl λj s W=>by simp at W⟩,?_,Fr.refl _,aqb _⟩;simp_all [yc]
 ·have O:b∈hd.bs:=by rw[e2];simp
  have hbw:b<w.heap.size:=E.lt 0 hd b o0 O;have hH:Holds (Value.int .i64) w b o (l0:List Int).toArray:=by
   intro t ht;have q1:=D5 Ax e7 (i:=t) (j:=0) ht (by decide);have e0:ae .int=1:=rfl;rw[e0,asC,arv]at q1;constructor
   unfold World.cell?;rw[e3];dsimp only;rw[q1,getElem!_pos _ t XM];rfl;grind [World.frozen?]
  have Y:l0.length<4611686018427387904:=by grind [aD]
  have X:=AnyM.slices_Sort_int L b o cap l0 w hH hbw Y;rw[e1];refine X.mono λe w' he=>?_;obtain⟨rfl,n,os,rfl⟩:=he;have hlS:(yc l0).length=l0.length:=asU _;show ∃ r l5,_/\NC F w own 1 (.returned (.tuple #[])) l5 (grow (putRow (Value.int .i64) (Sort.ahead w n) b o (yc l0).toArray) os) (.ret (.tup []) [.row .int (yc l0)]);generalize yc l0=lS at hlS;have hsb:=awu (enc:=Value.int .i64) (o:=o) (m:=n) e3 lS.toArray os;refine⟨(),own,trivial,⟨_,rfl,.tup rfl λj s W=>by simp at W⟩,?_,?_,aqb _⟩;refine⟨E.dom,λc hc=>aqi (E.atu c hc) (N1 _ _),E.apart,E.inj,λi h2 c e hc=>aqi (E.lt i h2 c e hc) (N1 _ _),λi hi=>?_⟩;match i,hi with
  |0,_=>
   refine⟨hd,o0,?_⟩;have hc1:ae .int=1:=rfl;refine .inr ⟨b,o,cap,_,ty,XN,e2,hsb,?_,XM,XM,D6 Ax λi j hi W=>?_⟩;unfold putCells;grind;rw[hc1]at W |-;have hj0:j=0:=XM
   subst hj0;rw[asC,arv,QR XM XN];rfl
  |i+1,hi=>cases hi
  refine⟨λ_ h2 e=>⟨h2,e,.refl _⟩,(Fr.refl { w:=w,own:=own}).base,rfl,rfl,rfl,N1 _ _,λc hc=>?_⟩;exact amg hc.1 (λe=>hc.2 ⟨0,hd,o0,e▸O⟩) _ _
end
end Go.Sx
end
section
attribute [go_sem] Nat.reduceBEq Nat.reduceLeDiff Nat.reduceLT decide_true Nat.reduceAdd Nat.reduceSub Nat.reduceMul Nat.reduceDiv Int.reduceLE Int.reduceLT Int.reduceToNat Int.reduceNeg reduceCtorEq cond_true cond_false Bool.not_true Bool.not_false
end
section
namespace Go.Sx
open Go.Proofs Go.RowKit Tryz
def mG {O:List (Nat×(FI))}{E:List (Nat×(List SV->List Ob->Option atB))}(a:∀ x∈O,P0 prog x.1 x.2)(b:∀ x∈E,atA prog x.1 x.2):atj prog (mkG O E):=qF a b
def mGY {E:List (Nat×(FI))}{O:List (Nat×(List SV->List Ob->Option atB))}{Y:List SV->Res->Option auL}(a:∀ x∈E,P0 prog x.1 x.2)(b:∀ x∈O,atA prog x.1 x.2)(V:YOk prog Y):atj prog (CL E O Y):=GK a b V
variable {P:Program}{f:Nat}{C:FI}{l:List (Nat×(FI))}
def cp(h:P0 P f C)(t:∀ x∈l,P0 P x.1 x.2):∀ x∈(f,C)::l,P0 P x.1 x.2:=cgc h t
def cn(p:List Pk)(h:P0 P f C)(t:∀ x∈l,P0 P x.1 x.2):∀ x∈(f,λl=>C (Cg p l))::l,P0 P x.1 x.2:=cgc (h.norm p) t
def co{C:List SV->List Ob->Option atB}{l:List (Nat×(List SV->List Ob->Option atB))}(h:atA P f C)(t:∀ x∈l,atA P x.1 x.2):∀ x∈(f,C)::l,atA P x.1 x.2:=cgc h t
section
variable {G:Cons}{f:FuncId}{C:FI}{D:List SV->List Ob->Option atB}
abbrev ac_ (fn:Func)(G:Cons)(l:List SV)(o:List Ob)(Q:Ex->St->Prop):Prop:=l.length<=fn.ntmps/\∃ L,ak prog none fn.ntmps L (aa fn)/\exec ts G L (aa fn) ⟨pZ 0 l,o⟩ Q
theorem fE (hG:atj prog G)(fn:Func)(h:∀ l E,C l=some E->an E->ac_ fn G l [] (Hn true fn.results.toList ts (et E) (lA E)))(O:prog.funcs[f]? =some fn:=by kernel_rfl)(V:fn.body=some (aa fn):=by kernel_rfl)(hn:(fn.name== "runtime.NumGoroutine")=false:=by kernel_rfl)(hc:db fn.ntmps (aa fn)=true:=by kernel_rfl):P0 prog f C:=
 YM true mixed aC hG O V hn hc h
theorem fN (hG:atj prog G)(fn:Func)(p:List Pk)(h:∀ l E,C l=some E->an E->ac_ fn G l [] (Hn false fn.results.toList ts (λs=>et E (AT p s)) (lA E)))(O:prog.funcs[f]? =some fn:=by kernel_rfl)(V:fn.body=some (aa fn):=by kernel_rfl)(hn:(fn.name== "runtime.NumGoroutine")=false:=by kernel_rfl)(hc:db fn.ntmps (aa fn)=true:=by kernel_rfl):P0 prog f C:=
 DZ p mixed aC hG O V hn hc h
theorem fW (hG:atj prog G)(fn:Func)(l:List (ResultVar×Tag))(h:∀ l0 E,C l0=some E->an E->ac_ fn G l0 [] (QE l fn.results.toList ts (et E) (lA E)))(O:prog.funcs[f]? =some fn:=by kernel_rfl)(V:fn.body=some (aa fn):=by kernel_rfl)(hn:(fn.name== "runtime.NumGoroutine")=false:=by kernel_rfl)(hc:db fn.ntmps (aa fn)=true:=by kernel_rfl):P0 prog f C:=
 ZO l mixed aC hG O V hn hc h
theorem fR (hG:atj prog G)(fn:Func)(h:∀ l o E,D l o=some E->∃ p S H,E=fZ p S H/\(p->ac_ fn G l o (U8 o.length fn.results.toList ts S H)))(O:prog.funcs[f]? =some fn:=by kernel_rfl)(V:fn.body=some (aa fn):=by kernel_rfl)(hn:(fn.name== "runtime.NumGoroutine")=false:=by kernel_rfl)(hc:db fn.ntmps (aa fn)=true:=by kernel_rfl):atA prog f D:=
 Qy mixed aC hG O V hn hc h
end
end Go.Sx
end
section
namespace Go.Sx
open Go.Proofs Tryz
open IntKind (i64 u64)
variable {l0:List Nat}{p:Prop}
def tK(a0:JL l0)(h:JL l0->p:=by intro ja;(first|done|(repeat' (first|with_reducible refine And.intro ?_ ?_|exact V0 |with_reducible intro _)) <;>(first|done|with_reducible exact Empty.elim ‹Empty› |with_reducible assumption|rfl|omega|assumption|decide|exact fk ja|(simp only[*,cond_true,cond_false,aqE,aqN,go_sem];done) |(simp only[*,cond_true,cond_false,aqE,aqN,go_sem];(repeat' (first|with_reducible refine And.intro ?_ ?_|exact V0 |with_reducible intro _)) <;>(first|done|assumption|rfl|omega|decide|exact fk ja|(simp_all [cB,dY];done))) |(simp_all [okI,cB,dY];done) |(simp_all [cB,dY];(first|done|exact fk2 ja)) |exact fk2 ja))):p:=h a0
def aW(a0:JL l0)(h:JL l0->p:=by intro ja;simp only[go_sem,hc,hw];all_goals exact tK ja):p:=h a0
def aV(a0:JL l0)(h:JL l0->p:=by intro ja;simp only[go_sem,hc];all_goals exact tK ja):p:=h a0
def mm (x:Int):Bool:=false
@[go_sem] def FT:FI:=(pI λx=>(pE (.det True (.v (.bool (mm x))))))
theorem zq1(h:p:=by simp only[go_sem];all_goals exact cl):p:=h
theorem Ce{p q:Prop}(e:q)(h:q->p:=by intro e;(conv in (Func.results _)=>whnf);(conv in (aa _)=>whnf);simp only[go_sem,e];all_goals exact cl):p:=h e
theorem Ko{p q:Prop}(e:q)(h:q->p:=by intro e;dsimp only[an]at *;refine⟨nbl rfl,L0,ag _,?_⟩;exact Ce e):p:=h e
theorem Pq{p q r:Prop}(e:q)(e2:r)(h:q->r->p:=by intro e e2;dsimp only[an]at E;simp only[e2]at E;refine⟨nbl rfl,L0,ag _,?_⟩;exact Ce e):p:=h e e2
theorem D7:P0 prog 137 FT:=fN (mG Q1 Q1) f137 [.o] (ax λx=>am λE=>Ko @mm.eq_1)
def bv (x y:Int):Int:=(bif(mm x)then(bif(mm y)then 0 else(-1))else(bif(mm y)then 1 else(bif(decide (x<y))then(-1)else(bif(decide (x > y))then 1 else 0))))
@[go_sem] def qI:FI:=(pI λx=>(pI λy=>(pE (.det True (.i (bv x y))))))
theorem fg:P0 prog 82 qI:=fN (mG (cp D7 Q1) Q1) f82 [.o] (ax λx=>ax λy=>am λE=>Ko @bv.eq_1)
def dw (n:Int):Int:=(bif(decide (n<0))then(u64.wrap (0 - (u64.wrap n)))else(u64.wrap n))
@[go_sem] def CS:FI:=(pI λn=>(pE (.det True (.v (.int .u64 (dw n))))))
theorem vB:P0 prog 275 CS:=fN (mG Q1 Q1) f275 [.o] (ax λn=>am λE=>Ko @dw.eq_1)
def aX (a:W2):Int:=(bif(((((decide (a.d<1)) ||(decide (a.d > 1073741824))) ||(decide (a.n< (-1073741824)))) ||(decide (a.n > 1073741824))) ||(((Qw (Int.toNat (dw a.n)) (Int.toNat (u64.wrap a.d)):Nat):Int) !=1))then 120 else 0)
def Bi (a:W2):Prop:=(((((decide (a.d<1)) ||(decide (a.d > 1073741824))) ||(decide (a.n< (-1073741824)))) ||(decide (a.n > 1073741824)))=false->(0<=(dw a.n)/\0<=(u64.wrap a.d)))
theorem Ia (n:Int):0<=u64.wrap n:=by
 simp[IntKind.wrap,IntKind.bits,IntKind.signed];omega
theorem D8 (n:Int):0<=dw n:=by
 unfold dw;cases decide (n<0) <;>exact Ia _
def Ib (a:W2):Bi a:=λ_=>⟨D8 _,Ia _⟩
@[go_sem] def Kw:FI:=(pD .ratio λa=>(pE (.det True (.i (aX a)))))
theorem zq4(h:p:=by simp only[go_sem,C83];all_goals exact cl):p:=h
theorem qJ:P0 prog 222 Kw:=by
 have hG:=mG (cp ZG (cp vB Q1)) Q1;refine fN hG f222 [.o] (ap λa=>(am (λE=>?_)));dsimp only[an]at E;have E:=Ib a;unfold Bi at E;refine⟨nbl rfl,L0,ag _,?_⟩;unfold aa f222;try unfold aX
 exact zq4
def iA (a b:W2):Int×Int:=(bif(((aX a) !=0) ||((aX b) !=0))then(0,120)else((bv (i64.wrap (a.n*b.d)) (i64.wrap (b.n*a.d))),0))
@[go_sem] def QS:FI:=(pD .ratio λa=>(pD .ratio λb=>(pE (.det True (.tup [.i ((iA a b).1),.i ((iA a b).2)])))))
theorem CT:P0 prog 221 QS:=fN (mG (cp fg (cp qJ Q1)) Q1) f221 [.o,.o] (ap λa=>ap λb=>am λE=>Ko @iA.eq_1)
def Kx (a:Bool)(e:Int):Unit:=(bif(!a)then default else())
def dJ (a:Bool)(e:Int):Bool:=(bif(!a)then false else true)
@[go_sem] def FU:FI:=(pB λa=>(pI λe=>(pE (.may (dJ a e) (.tup []) (.iface 194 (.int .i64 e))))))
theorem xw:P0 prog 61 FU:=by
 have hG:=mG Q1 Q1;refine fN hG f61 [] (ya λok=>(ax λe=>(am (λE=>?_))));dsimp only[an]at E;refine⟨nbl rfl,L0,ag _,?_⟩;unfold aa f61;try unfold Kx
 try unfold dJ
 exact zq1
@[go_sem] def cH (a:List Int)(b:Nat)(c:Unit):Unit⊕Unit:=(bif(decide ((a.getD (Int.toNat ((b:Int)+1)) 0) < (a.getD (Int.toNat (i64.wrap (((b:Int)+1) - 1))) 0)))then .inl ()else .inr ())
def lC (b:List Int)(a:Nat)(c:Unit):Prop:=(b.length<=aD->((0<=((a:Int)+1)/\((a:Int)+1) < (b.length:Int))/\(0<=(i64.wrap (((a:Int)+1) - 1))/\(i64.wrap (((a:Int)+1) - 1)) < (b.length:Int))))
def aS (a:List Int):Bool:=(match aj (cH a) (a.length - 1) 0 ()with| .inl b=>false| .inr c=>true)
def yV (a:List Int):Prop:=okI (cH a) (lC a) (a.length - 1) 0 ()
theorem D9 (O:List Int):yV O:=eu _ _ _ λj s h1 h2 E=>by
 unfold aD at E;rw[ar XM XM];omega
@[go_sem] def FV:FI:=(pR .int λa=>(pE (.det True (.v (.bool (aS a))))))
theorem zq7(h:p:=by simp only[go_sem,hb0]):p:=h
theorem zq8(h:p:=by simp only[go_sem,cH,hc0,hw0];all_goals exact cl):p:=h
theorem zq9(h:p:=by simp only[go_sem,hc0];all_goals exact cl2):p:=h
@[go_sem]def XO(k:Nat)(f:St->at8)(r:yS)(i:Nat)(s:St):Option at8:=bif Nat.beq i k then some (f s)else r i s
theorem rY:P0 prog 113 FV:=by
 have hG:=mG Q1 Q1;refine fN hG f113 [.o] (aZ λO=>(am (λX=>?_)));dsimp only[an]at X;have X:=D9 O;unfold yV at X;refine⟨nbl rfl,(XO 0 (λst=>LC (ρ:=Unit) (σ:=Unit) (lk 0 st.t=.rs .int O/\lk 3 st.t=.i 1/\st.h=[]/\okI (cH O) (lC O) (O.length - 1) 0 ()) (aj (cH O) (O.length - 1) 0 ()) (λ_=>.ret) (λlx=>⟨[(2,.v (.bool false))],[]⟩) (λY=>⟨[],[]⟩)) L0),?_,?_⟩
 ·unfold aa f113;simp only[ak,true_and,and_true]
  ·refine DY mixed aC hG kr λst lc hC X=>?_;simp only[go_sem,Nat.reduceBEq,aqd]at hC;subst hC;obtain⟨t,h⟩:=st;dsimp only[LC]at X;obtain⟨e0_0,e0_1,rfl,hok0⟩:=X;refine⟨_,_,_,(cH O),(lC O),(O.length - 1),(),_,_,_,(λE Y=>⟨[(0,.rs .int O),(3,.i ((E:Int)+1))],[]⟩),[],rfl,hok0,aqb _,?_,λE Y hk0 hp0=>?_⟩
   ·simp only[go_sem,e0_0,e0_1];all_goals (first|done|decide|(repeat' (first|refine And.intro ?_ ?_|rfl|decide)))
   refine⟨L0,?_,?_⟩;simp only[ak,and_self,true_and,and_true]
   ·by_cases hb0:O.length<=aD
    rotate_left
    exact zq7;by_cases W:E< (O.length - 1)
    have hw0:i64.wrap (((E:Nat):Int)+1+1)=((E+1:Nat):Int)+1:=by(have hbb:=hb0;have hll:=W;try unfold aD at hbb);rw[ar XM XM];omega
    have V:=hp0 W;unfold lC at V
    replace V:=V hb0
    try simp only[hw0,aqa]at V
    have hc0:decide (((E:Int)+1) < (O.length:Int))=true:=by simp only[decide_eq_true_eq];omega
    exact zq8;have hc0:decide (((E:Int)+1) < (O.length:Int))=false:=by simp only[decide_eq_false_iff_not];omega
    exact zq9
 unfold aa f113;try unfold aS
 exact zq1
def cK (i n:Int):Bool:=((decide (i>=0))&&(decide (i<n)))
@[go_sem] def Ic:FI:=(pI λi=>(pI λn=>(pE (.det True (.v (.bool (cK i n)))))))
theorem ua:P0 prog 115 Ic:=fN (mG Q1 Q1) f115 [.o] (ax λi=>ax λn=>am λE=>Ko @cK.eq_1)
def j7 (x:W2×W2):Bool:=(((((iA x.1 x.2).2==0)&&(decide (x.1.n>=0)))&&(decide ((iA x.1 x.2).1<=0)))&&(decide (x.2.n<=x.2.d)))
@[go_sem] def Id:FI:=(pD .at6 λx=>(pE (.det True (.v (.bool (j7 x))))))
theorem FW:P0 prog 176 Id:=fN (mG (cp CT Q1) Q1) f176 [.o] (ap λx=>am λE=>Ko @j7.eq_1)
def be (i:Int)(x:Reach):Bool:=letI a:=aS ([0,x.at5.lo,x.at5.hi,1073741824]);letI b:=aS ([0,x.atz,x.at2,1099511627776]);letI c:=aS ([0,x.atz,x.cap,1073741824]);letI d:=aS ([1,x.delay,16]);letI e:=j7 x.atL;(bif(decide (i > 0))then((((((cK x.up i)&&d)&&c)&&b)&&a)&&e)else((((((x.up==(-1))&&d)&&c)&&b)&&a)&&e))
@[go_sem] def Ie:FI:=(pI λi=>(pD .reach λx=>(pE (.det True (.v (.bool (be i x)))))))
theorem FX:P0 prog 114 Ie:=fN (mG (cn [.sl .int] rY (cp ua (cp FW Q1))) Q1) f114 [.o] (ax λi=>ap λx=>am λE=>Ko @be.eq_1)
def i9 (b:ai)(a:atN):Bool:=letI c:=(a.every==0)&&(a.length==0);letI d:=i64.wrap (b.hours - 1);letI e:=a.reach==a.reach;letI f:=a.name==a.name;letI g:=a.kind==a.kind;letI h:=a.gl==a.gl;(bif(((!(cK a.gl (b.zs.length:Int))) ||(!(cK a.reach (b.reaches.length:Int)))) ||(!(aS ([0,a.since,a.to,d]))))then false else(bif(a.kind==1)then((((a.reach==0)&&(aS ([0,a.att,1048576])))&&(aS ([1,a.bn,1073741824])))&&(aS ([1,a.length,a.every,b.hours])))else(bif(a.kind==2)then(f&&(g&&(h&&(e&&((a.att==0)&&((a.bn==0)&&((a.since==0)&&((a.to==d)&&c))))))))else(bif(a.kind==3)then(f&&(g&&(h&&(e&&((a.att==0)&&((a.bn==0)&&((a.since==a.since)&&((a.to==a.to)&&c))))))))else false))))
@[go_sem] def If:FI:=(pD .al λa=>(pD .right λb=>(pE (.det True (.v (.bool (i9 a b)))))))
theorem FY:P0 prog 116 If:=fN (mG (cn [.sl .int] rY (cp ua Q1)) Q1) f116 [.o] (ap λa0=>ap λa1=>am λE=>Ko @i9.eq_1)
@[go_sem] def ez (b:ai)(c:Int)(a:Nat)(d:Unit):Unit⊕Unit:=(bif(dJ (be (a:Int) (b.reaches.getD a default)) c)then .inr ()else .inl ())
@[go_sem] def eV (a:ai)(b:Int)(c:Nat)(d:Unit):Unit⊕Unit:=(bif(dJ (aS ([0,(a.atE.getD c default).need,1048576])) b)then .inr ()else .inl ())
@[go_sem] def eA (b:ai)(c:Int)(f:Nat)(g:Unit):Unit⊕Unit:=letI a:=b.zs.getD f default;letI d:=cK (a.reach) (b.reaches.length:Int);letI e:=aS ([0,a.au4,1048576]);(bif(decide (a.au4 > 0))then(bif(dJ (((cK (a.at9) (b.atE.length:Int))&&d)&&e) c)then .inr ()else .inl ())else(bif(dJ (((a.at9==(-1))&&d)&&e) c)then .inr ()else .inl ()))
@[go_sem] def eB (a:ai)(b:Int)(c:Nat)(d:Unit):Unit⊕Unit:=(bif(dJ (i9 a (a.bl.getD c default)) b)then .inr ()else .inl ())
@[go_sem] def fG (a:ai)(c:Int)(d:Nat)(e:Unit):Unit⊕Unit:=letI b:=a.aty.getD d default;(bif(dJ (((cK (b.gl) (a.zs.length:Int))&&(cK (b.reach) (a.reaches.length:Int)))&&(aS ([0,b.due,a.hours]))) c)then .inr ()else .inl ())
def Ig (a:ai)(b:Int):Unit:=(bif(dJ (((aS ([1,a.hours,4096]))&&(aS ([0,a.atx.start,a.atx.cap,1099511627776])))&&(decide ((a.reaches.length:Int) > 0))) b)then(match aj (ez a b) a.reaches.length 0 ()with| .inl c=>default| .inr d=>(match aj (eV a b) a.atE.length 0 ()with| .inl e=>default| .inr f=>(match aj (eA a b) a.zs.length 0 ()with| .inl g=>default| .inr h=>(match aj (eB a b) a.bl.length 0 ()with| .inl i=>default| .inr j=>(match aj (fG a b) a.aty.length 0 ()with| .inl k=>default| .inr l=>())))))else default)
def gu (a:ai)(b:Int):Bool:=(bif(dJ (((aS ([1,a.hours,4096]))&&(aS ([0,a.atx.start,a.atx.cap,1099511627776])))&&(decide ((a.reaches.length:Int) > 0))) b)then(match aj (ez a b) a.reaches.length 0 ()with| .inl c=>false| .inr d=>(match aj (eV a b) a.atE.length 0 ()with| .inl e=>false| .inr f=>(match aj (eA a b) a.zs.length 0 ()with| .inl g=>false| .inr h=>(match aj (eB a b) a.bl.length 0 ()with| .inl i=>false| .inr j=>(match aj (fG a b) a.aty.length 0 ()with| .inl k=>false| .inr l=>true)))))else false)
@[go_sem] def D_:FI:=(pD .al λb=>(pI λa=>(pE (.may (gu b a) (.tup []) (.iface 194 (.int .i64 a))))))
theorem CU:P0 prog 62 D_:=by
 have hG:=mG (cp xw (cn [.sl .int] rY (cp FX (cp ua (cn [.st .al,.st .right] FY Q1))))) Q1;refine fN hG f62 [] (ap λa0=>(ax λa1=>(am (λhp=>?_))));dsimp only[an]at hp;refine⟨nbl rfl,(XO 0 (LCR (ρ:=Unit) (σ:=Unit) 1 [] [0] (λX ee=>⟨[(1,.i a1),(2,.ptr 0 0),(38,.rs .reach a0.reaches),(39,.i (a0.reaches.length:Int)),(40,.i X)],[.cells (cellsOf .al a0)]⟩) (ez a0 a1) pT a0.reaches.length () (a0.reaches.length<=aD) (λ_=>.pan (.iface 194 (.int .i64 a1))) (λlx=>⟨[],[.dead]⟩)) (XO 2 (LCR (ρ:=Unit) (σ:=Unit) 1 [] [0] (λk_1 s_1=>⟨[(1,.i a1),(2,.ptr 0 0),(52,.rs .at9 a0.atE),(53,.i (a0.atE.length:Int)),(54,.i k_1)],[.cells (cellsOf .al a0)]⟩) (eV a0 a1) pT a0.atE.length () (a0.atE.length<=aD) (λ_=>.pan (.iface 194 (.int .i64 a1))) (λatG=>⟨[],[.dead]⟩)) (XO 4 (LCR (ρ:=Unit) (σ:=Unit) 1 [] [0] (λO s_2=>⟨[(1,.i a1),(2,.ptr 0 0),(66,.rs .gl a0.zs),(67,.i (a0.zs.length:Int)),(68,.i O)],[.cells (cellsOf .al a0)]⟩) (eA a0 a1) pT a0.zs.length () (a0.zs.length<=aD) (λ_=>.pan (.iface 194 (.int .i64 a1))) (λatO=>⟨[],[.dead]⟩)) (XO 6 (LCR (ρ:=Unit) (σ:=Unit) 1 [] [0] (λE V=>⟨[(1,.i a1),(2,.ptr 0 0),(103,.rs .right a0.bl),(104,.i (a0.bl.length:Int)),(105,.i E)],[.cells (cellsOf .al a0)]⟩) (eB a0 a1) pT a0.bl.length () (a0.bl.length<=aD) (λ_=>.pan (.iface 194 (.int .i64 a1))) (λauP=>⟨[],[.dead]⟩)) (XO 8 (LCR (ρ:=Unit) (σ:=Unit) 1 [] [0] (λY W=>⟨[(1,.i a1),(2,.ptr 0 0),(116,.rs .aul a0.aty),(117,.i (a0.aty.length:Int)),(118,.i Y)],[.cells (cellsOf .al a0)]⟩) (fG a0 a1) pT a0.aty.length () (a0.aty.length<=aD) (λ_=>.pan (.iface 194 (.int .i64 a1))) (λats=>⟨[],[.dead]⟩)) L0))))),?_,?_⟩;unfold aa f62;simp only[ak,true_and,and_true];refine⟨?_,?_,?_,?_,?_⟩;refine bG aC hG (λ_=>rfl) (a0.reaches.length:Int) eE (λhb0 X ee aue _ hw hc=>⟨L0,ag _,aW (jl [0])⟩) λhb0 ee hc=>aV (jl [0]);refine bG aC hG (λ_=>rfl) (a0.atE.length:Int) eE (λhb1 k_1 s_1 auI _ hw hc=>⟨L0,ag _,aW (jl [0])⟩) λhb1 s_1 hc=>aV (jl [0]);refine bG aC hG (λ_=>rfl) (a0.zs.length:Int) eE (λhb2 O s_2 hlt2 _ hw hc=>⟨L0,ag _,aW (jl [0])⟩) λhb2 s_2 hc=>aV (jl [0]);refine bG aC hG (λ_=>rfl) (a0.bl.length:Int) eE (λhb3 E V hlt3 _ hw hc=>⟨L0,ag _,aW (jl [0])⟩) λhb3 V hc=>aV (jl [0]);refine bG aC hG (λ_=>rfl) (a0.aty.length:Int) eE (λhb4 Y W awU _ hw hc=>⟨L0,ag _,aW (jl [0])⟩) λhb4 W hc=>aV (jl [0]);unfold aa f62;try unfold Ig
 try unfold gu
 exact zq1
def aB (d:ai):Int:=(bif(dJ (((((decide ((d.reaches.length:Int)<=64))&&(decide ((d.zs.length:Int)<=600)))&&(decide ((d.atE.length:Int)<=32)))&&(decide ((d.bl.length:Int)<=256)))&&(decide ((d.aty.length:Int)<=256))) 2)then(bif(gu d 191)then 0 else 191)else 2)
@[go_sem] def Ih:FI:=(pD .al λd=>(pE (.det True (.i (aB d)))))
theorem awr(h:p:=by simp only[go_sem,WH,Tu,ag5];all_goals exact cl):p:=h
theorem pd:P0 prog 22 Ih:=by
 have hG:=mG (cp xw (cn [.st .al,.o] CU Q1)) Q1;refine agI ZC [.o] mixed aC hG (fn:=f22) (c0:=WH (aa f22)) (c1:=Tu (Tu (aa f22))) (i1:=awG (WH (Tu (aa f22)))) (o1:=alG 0 (WH (Tu (aa f22)))) (o2:=alG 1 (WH (Tu (aa f22)))) (t3:=3) (q:=2) (tys:= #[]) kr kr kr (by refine⟨?_,?_,?_⟩ <;>kernel_rfl) (by refine⟨?_,?_,?_⟩ <;>kernel_rfl) (nbl rfl) kr kr (ap λd=>(am (λE=>?_)));dsimp only[an]at E;refine⟨nbl rfl,L0,L0,1,?_,?_,?_⟩;unfold aa f22;simp only[WH,ak,and_self,true_and,and_true];unfold aa f22;simp only[Tu];simp only[ak,and_self,true_and,and_true];unfold aa f22;try unfold aB
 exact awr
def qK (x:Order):Int:=x.hour
@[go_sem] def oz:FI:=(pD .order λx=>(pE (.det True (.i (qK x)))))
theorem zN:P0 prog 248 oz:=fN (mG Q1 Q1) f248 [.o] (ap λx=>am λE=>Ko @qK.eq_1)
def vC (x:Order):Int:=(bif x.S2 then 1 else 0)
@[go_sem] def rZ:FI:=(pD .order λx=>(pE (.det True (.i (vC x)))))
theorem CV:P0 prog 249 rZ:=fN (mG Q1 Q1) f249 [.o] (ap λx=>am λE=>Ko @vC.eq_1)
def qL (x:Order):Int:=x.index
@[go_sem] def oA:FI:=(pD .order λx=>(pE (.det True (.i (qL x)))))
theorem zO:P0 prog 250 oA:=fN (mG Q1 Q1) f250 [.o] (ap λx=>am λE=>Ko @qL.eq_1)
end Go.Sx
end
section
namespace Go.Proofs
open Go.Shelf
def Tryz.avw:Go.Shelf.Ren:=⟨λ|20=>73|n=>n,λ|22=>35|n=>n,λ|n=>n⟩
theorem Tryz.cpI:Go.Proofs.Lays2.n20 Tryz.prog Tryz.avw:= {
 mixed:=by kernel_rfl
 f20:=Tryz.func73.trans (congrArg some (by kernel_rfl))
 t0:=Tryz.underlying0
 a0:=Tryz.isAgg0
 z0:=Tryz.sizeOf0
 v0:=Tryz.zeroValue0
 t3:=Tryz.underlying3
 a3:=Tryz.isAgg3
 z3:=Tryz.sizeOf3
 v3:=Tryz.zeroValue3
 t4:=Tryz.underlying4
 a4:=Tryz.isAgg4
 z4:=Tryz.sizeOf4
 v4:=Tryz.zeroValue4
 t22:=Tryz.underlying35
 a22:=Tryz.isAgg35
 z22:=Tryz.sizeOf35
 v22:=Tryz.zeroValue35
 i3:=by kernel_rfl}
end Go.Proofs
namespace Go.Sx
open Go.RowKit Go.Shelf Go.Lib Go.Sort Go.Proofs Tryz
def cpI (l:List Int):List Int:=Lib.compact l
def ada (l:List Int):(cpI l).length<=l.length:=by
 unfold cpI Lib.compact Lib.compactUpTo;rw[aq5];exact aqp (arg _ _) (by simp)
noncomputable def ZZ:List SV->List Ob->Option atB:=jR (λx_:List Int=>[.os 0]) (λx_=>[.row .int x_]) (λx_=>fZ True (.os 1) [.dead,.row .int (cpI x_)])
@[go_sem]def amh (b:List Int):ZZ ([.os 0]) ([.row .int b])=some (fZ True (.os 1) [.dead,.row .int (cpI b)]):=gb (A:=λa:List Int=>[.os 0]) (H:=λa=>[.row .int a]) (K:=λa=>fZ True (.os 1) [.dead,.row .int (cpI a)]) (x:=b)
section
variable {P:Program}{ρ:Ren}
def Ky (L:Lays2.n20 P ρ)(he:∀ (args:Array Value) (w:World),(callFunc (ρ.f 20) args).run P w=.ok (.enter (ρ.f 20) args) w):atA P (ρ.f 20) ZZ:=by
 refine⟨λl h c hc args w=>he args w,λl h c hc hp F own w vs E hvs=>?_⟩;obtain⟨l0,rfl,rfl,rfl⟩:=ed hc;have⟨hsz,aun⟩:=hvs;have r0:=aun 0 _ rfl;have V:vs= #[vs.getD 0 undef]:=by
  apply atl;simpa using hsz;intro i h1 h2;simp[aqc,aqJ]at hsz;match i,h1,h2 with
  |0,h1,_=>simp[h1]|i+1,h1,_=>omega
 generalize vs.getD 0 undef=v0 at r0 V;subst V;obtain⟨hd,X,rfl,_⟩:=i7 r0;have⟨hd',o0',hrow⟩:=E.at (id:=0) (o:=.row .int l0) rfl rfl;rw[X]at o0';cases o0';have hdom:∀ i h2,own i=some h2->i=0:=λi h2 e=>by have:=E.dom i h2 e;simp at this;exact this
 have fin:∀ (O:Value) (w':World),rR O=true->atJ F (λi=>if i=1 then some { hd with v:=O}else if i=0 then some { hd with bs:=[]}else none) w' .int (cpI l0) O hd.bs->w.heap.size<=w'.heap.size->w'.os=w.os->w'.tape=w.tape->w'.output=w.output->(∀ c,c<w.heap.size->c ∉ hd.bs->w'.heap[c]? =w.heap[c]?)->
   ∃ r l5,(fZ True (.os 1) [.dead,.row .int (cpI l0)]).post r/\NC F w own 1 (.returned O) l5 w' ((fZ True (.os 1) [.dead,.row .int (cpI l0)]).res r):=by
  intro O w' h1 hr hs q1 q2 q3 hold;refine⟨(),λi=>if i=1 then some { hd with v:=O}else if i=0 then some { hd with bs:=[]}else none,trivial,⟨O,rfl,?_⟩,?_,?_,by simp⟩;have:=Rel.os (F:=F) (own:=λi=>if i=1 then some { hd with v:=O}else if i=0 then some { hd with bs:=[]}else none) (w:=w') (id:=1) (hd:= { hd with v:=O}) (by simp) h1;exact this;refine⟨λid h2 e=>?_,λb hb=>aqi (E.atu b hb) hs,λid h2 b e hb=>?_,λi j hi hj b e1 e2 b1 b2=>?_,λid h2 b e hb=>?_,λid hid=>?_⟩;show id<2;by_cases h1:id=1
  omega;by_cases h0:id=0
  omega;simp[h1,h0]at e;grind [E.apart 0 hd b X]
  grind
  have:=E.lt 0 hd b X XN;omega;match id,hid with
  |0,hid=>cases hid
  |1,_=>
   refine⟨{ hd with v:=O},by simp,?_⟩;exact hr
  |i+2,hid=>cases hid
  refine⟨λid h2 e=>?_,λid h2 b e hb ho=>?_,q1,q2,q3,hs,λc hc=>hold c hc.1 λhm=>hc.2 ⟨0,hd,X,hm⟩⟩;have:=hdom id h2 e;subst this;have e:own 0=some h2:=e;rw[X]at e;cases e;exact⟨{ hd with bs:=[]},by simp,rfl,rfl,rfl⟩;refine ho.2 ⟨0,hd,X,?_⟩;grind
 rcases hrow with⟨a,e1,rfl,e2⟩ | ⟨b,o,cap,cells,ty,e1,e2,e3,e4,e5,e6,e7⟩;rw[e1];refine(Any.slices_Compact_int_empty L a 0 w).mono λe w' he=>?_;obtain⟨rfl,rfl⟩:=he;exact fin _ _ rfl (.inl ⟨a,rfl,rfl,e2⟩) (aqb _) rfl rfl rfl λ_ _ _=>rfl;have W:b∈hd.bs:=by rw[e2];simp
 have hH:Holds (Value.int .i64) w b o (l0:List Int).toArray:=by
  intro t ht;have q1:=D5 Ax e7 (i:=t) (j:=0) ht (by decide);have e0:ae .int=1:=rfl;rw[e0,asC,arv]at q1;constructor
  unfold World.cell?;rw[e3];dsimp only;rw[q1,getElem!_pos _ t (by simpa using ht)];rfl;unfold World.frozen?;rw[e3];simp
 have hlen:l0.length<=9223372036854775807:=by unfold aD at e6;omega
 have hall:=Any.slices_Compact_int L b o cap l0 w hH hlen e5;rw[e1];refine hall.mono λe w' he=>?_;obtain⟨rfl,n,rfl⟩:=he;have hlS:(cpI l0).length<=l0.length:=ada l0;have Y:ae .int=1:=rfl;generalize hD:(Lib.compact l0++List.replicate (l0.length - (Lib.compact l0).length) 0:List Int)=D;have hDl:D.length=l0.length:=by
  have:(Lib.compact l0).length<=l0.length:=hlS;rw[<-hD];simp;omega
 have hsb:(putRow (Value.int .i64) (Sort.ahead w n) b o D.toArray).heap[b]? =some (.cells (putCells (Value.int .i64) o D.toArray cells) ty (0,0)):=aeX (w:=Sort.ahead w n) e3 _ _;have hsz':w.heap.size<=(putRow (Value.int .i64) (Sort.ahead w n) b o D.toArray).heap.size:=by
  simp
 refine fin _ _ rfl (.inr ⟨b,o,cap,_,ty,rfl,e2,hsb,?_,aqp hlS e5,XM,D6 Ax λi j hi hj=>?_⟩) hsz' rfl rfl rfl λc hc hn=>ZY (w:=Sort.ahead w n) (show c≠b from λe=>hn (by rw[e];exact W)) _ _;unfold putCells;simpa using e4;rw[Y]at hj |-;have hj0:j=0:=XM
 subst hj0;have hi2:i<D.length:=XM
 rw[arv,QR (by simpa using hi2) (by simp[Y]at e4 e5;omega)];have hg:D[i]=(cpI l0)[i]'hi:=by
  subst hD;rw[List.getElem_append_left];rfl
 simp[wa,cellsOf,aeV,hg]
end
def ahr:atA prog 73 ZZ:=Ky Tryz.cpI λargs w=>by kernel_rfl
end Go.Sx
end
section
namespace Go.Sx
open Go.Proofs Tryz
open IntKind (i64 u64)
def nc (n d:Int):Int:=(i64.wrap (Int.tdiv (i64.wrap (n - (Int.tmod (i64.wrap ((Int.tmod n d)+d)) d))) d))
def uz (n d:Int):Prop:=(d≠0/\(d≠0/\d≠0))
@[go_sem] def N2:FI:=(pI λn=>(pI λd=>(pE (.det (uz n d) (.i (nc n d))))))
def Kz:P0 prog 223 N2:=fN (mG Q1 Q1) f223 [.o] (ax λn=>ax λd=>am λE=>Pq @nc.eq_1 @uz.eq_1)
def eF (a:W2)(n:Int):Int×Int×Int:=(bif((aX a) !=0)then(0,0,(aX a))else(bif((decide (n< (-1073741824))) ||(decide (n > 1073741824)))then(0,0,1)else((nc (i64.wrap (a.n*n)) a.d),(i64.wrap (0 - (nc (i64.wrap ((i64.wrap (0 - a.n))*n)) a.d))),0)))
def Bj (a:W2)(n:Int):Prop:=(((aX a) !=0)=false->(((decide (n< (-1073741824))) ||(decide (n > 1073741824)))=false->((uz (i64.wrap (a.n*n)) a.d)/\(uz (i64.wrap ((i64.wrap (0 - a.n))*n)) a.d))))
def KA {a:W2}(h:(aX a !=0)=false):1<=a.d:=by
 unfold aX at h;by_cases hd:a.d<1
 simp[hd]at h;omega
def Ii (a:W2)(n:Int):Bj a n:=λh _=>by
 have:=KA h;exact⟨⟨XM,XM,XM⟩,⟨XM,XM,XM⟩⟩
@[go_sem] def KB:FI:=(pD .ratio λa=>(pI λn=>(pE (.det True (.tup [.i ((eF a n).1),.i ((eF a n).2.1),.i ((eF a n).2.2)])))))
def zP:P0 prog 151 KB:=by
 have hG:=mG (cp qJ (cp Kz Q1)) Q1;refine fN hG f151 [.o,.o,.o] (ap λa=>(ax λn=>(am (λE=>?_))));dsimp only[an]at E;have E:=Ii a n;unfold Bj at E;refine⟨nbl rfl,L0,ag _,?_⟩;exact Ce @eF.eq_1
def py (n d:Int):W2×Int:=letI c:=({ n:=0,d:=0}:W2);letI e:=dw n;letI f:=dw d;letI g:=((Qw (Int.toNat e) (Int.toNat f):Nat):Int);letI a:=u64.wrap (Int.tdiv e g);letI b:=u64.wrap (Int.tdiv f g);letI h:=i64.wrap a;letI i:=i64.wrap b;(bif(d==0)then(c,120)else(bif(decide ((if a<b then b else a) > 1073741824))then(c,2)else(bif((decide (n<0)) !=(decide (d<0)))then(({ n:=(i64.wrap (0 - h)),d:=i}:W2),0)else(({ n:=h,d:=i}:W2),0))))
def uA (n d:Int):Prop:=letI a:=dw n;letI b:=dw d;letI c:=((Qw (Int.toNat a) (Int.toNat b):Nat):Int);((d==0)=false->((0<=a/\0<=b)/\(c≠0/\c≠0)))
@[go_sem] def N3:FI:=(pI λn=>(pI λd=>(pE (.det (uA n d) (.tup [.agg (cellsOf .ratio ((py n d).1)),.i ((py n d).2)])))))
def KC:P0 prog 337 N3:=by
 have hG:=mG (cp ZG (cp vB Q1)) Q1;refine fN hG f337 [.st .ratio,.o] (ax λn=>(ax λd=>(am (λE=>?_))));dsimp only[an,uA]at E;refine⟨nbl rfl,L0,ag _,?_⟩;unfold aa f337;try unfold py
 exact zq4
def io (a b:W2):Int×Int:=((i64.wrap ((i64.wrap (a.n*b.d))+(i64.wrap (b.n*a.d)))),(i64.wrap (a.d*b.d)))
@[go_sem] def KD:FI:=(pD .ratio λa=>(pD .ratio λb=>(pE (.det True (.tup [.i ((io a b).1),.i ((io a b).2)])))))
def Ij:P0 prog 312 KD:=fN (mG Q1 Q1) f312 [.o,.o] (ap λa=>ap λb=>am λE=>Ko @io.eq_1)
def gX (a b:W2):W2×Int:=(bif(((aX a) !=0) ||((aX b) !=0))then(({ n:=0,d:=0}:W2),120)else(((py ((io a b).1) ((io a b).2)).1),(py ((io a b).1) ((io a b).2)).2))
def nf (a b:W2):Prop:=((((aX a) !=0) ||((aX b) !=0))=false->(uA ((io a b).1) ((io a b).2)))
@[go_sem] noncomputable def zQ:FI:=(pQ (.agg [.fn 312 [] []]) (pD .ratio λa=>(pD .ratio λb=>(pE (.det (nf a b) (.tup [.agg (cellsOf .ratio ((gX a b).1)),.i ((gX a b).2)]))))))
def zd:P0 prog 313 zQ:=by
 have hG:=mG (cp qJ (cp Ij (cp KC Q1))) Q1;refine fN hG f313 [.st .ratio,.o] (ahf (ap λa=>(ap λb=>(am (λE=>?_)))));dsimp only[an,nf]at E;refine⟨nbl rfl,L0,ag _,?_⟩;exact Ce @gX.eq_1
def iB (a b:W2):W2×Int:=(((gX a b).1),(gX a b).2)
def wy (a b:W2):Prop:=(nf a b)
@[go_sem] def QT:FI:=(pD .ratio λa=>(pD .ratio λb=>(pE (.det (wy a b) (.tup [.agg (cellsOf .ratio ((iB a b).1)),.i ((iB a b).2)])))))
def N4:P0 prog 278 QT:=fN (mG (cp zd Q1) Q1) f278 [.st .ratio,.o] (ap λa=>ap λb=>am λE=>Pq @iB.eq_1 @wy.eq_1)
def aY (n a b:Int):Bool:=((decide (n>=a))&&(decide (n<=b)))
@[go_sem] def KE:FI:=(pI λn=>(pI λa=>(pI λb=>(pE (.det True (.v (.bool (aY n a b))))))))
def vD:P0 prog 226 KE:=fN (mG Q1 Q1) f226 [.o] (ax λn=>ax λlo=>ax λhi=>am λE=>Ko @aY.eq_1)
def mn (x:bo):Bool:=letI b:=(x.parts.length:Int) ==0;letI a:=x.of_==0;letI c:=x.to==0;letI d:=(((x.right==0)&&(x.since==0))&&c)&&b;(bif(x.kind==1)then(b&&a)else(bif(x.kind==2)then(c&&a)else(bif(x.kind==3)then((c&&b)&&a)else(bif(x.kind==4)then d else(d&&a)))))
@[go_sem] def FZ:FI:=(pD .C1 λx=>(pE (.det True (.v (.bool (mn x))))))
def Ea:P0 prog 227 FZ:=fN (mG Q1 Q1) f227 [.o] (ap λx=>am λE=>Ko @mn.eq_1)
@[go_sem] def gw (d:ai)(e:List Part)(f:Nat)(b:Int×Int×List (Int×Bool)):Unit⊕(Int×Int×List (Int×Bool)):=letI a:=e.getD f default;letI c:=iB ({ n:=b.1,d:=b.2.1}:W2) (a.share);(bif(((!(aY (a.gl) 0 (i64.wrap ((d.zs.length:Int) - 1)))) ||(aF .int .bool b.2.2 (a.gl))) ||(decide (a.share.n<=0)))then .inl ()else(bif(c.2 !=0)then .inl ()else .inr ((c.1).n,(c.1).d,(cy .int .bool b.2.2 (a.gl) true))))
def oB (d:ai)(c:List Part)(e:Nat)(b:Int×Int×List (Int×Bool)):Prop:=letI a:=c.getD e default;(d.zs.length<=aD->((((!(aY (a.gl) 0 (i64.wrap ((d.zs.length:Int) - 1)))) ||(aF .int .bool b.2.2 (a.gl))) ||(decide (a.share.n<=0)))=false->(wy ({ n:=b.1,d:=b.2.1}:W2) (a.share))))
def jA (d:ai)(a:List Part):Bool:=(match aj (gw d a) a.length 0 (0,1,[])with| .inl c=>false| .inr b=>((aY (a.length:Int) 1 16)&&((b.1==1)&&(b.2.1==1))))
def n_ (d:ai)(a:List Part):Prop:=(a.length<=aD->okI (gw d a) (oB d a) a.length 0 (0,1,[]))
@[go_sem] def Eb:FI:=(pD .al λd=>(pR .part λa=>(pE (.det (n_ d a) (.v (.bool (jA d a)))))))
def CW:P0 prog 228 Eb:=by
 have hG:=mG (cp vD (cp N4 Q1)) Q1;refine fN hG f228 [.o] (ap λd=>(aZ λO=>(am (λY=>?_))));dsimp only[an,n_]at Y;refine⟨nbl rfl,(XO 0 (LCR (ρ:=Unit) (σ:=(Int×Int×List (Int×Bool))) 3 [] [0,1,2] (λV E=>⟨[(1,.rs .part O),(2,.ptr 0 0),(5,.ptr 2 0),(6,.os 1),(13,.rs .part O),(14,.i (O.length:Int)),(15,.i V)],[.cells (cellsOf .al d),.mp .int .bool E.2.2 none,.cells [.i E.1,.i E.2.1]]⟩) (gw d O) (oB d O) O.length (0,1,[]) (O.length<=aD) (λ_=>.ret) (λX=>⟨[(4,.v (.bool false))],[.dead,.dead,.dead]⟩)) L0),?_,?_⟩;unfold aa f228;simp only[ak,true_and,and_true];refine bG aC hG (λ_=>rfl) (O.length:Int) eE (λhb0 V E aue W hw hc=>⟨L0,ag _,?_⟩) (λhb0 E hc=>?_);simp only[oB,hw,aqa]at W
 exact aW (jl [0,1,2]);exact aV (jl [0,1,2]);exact Ce @jA.eq_1
def dF (b:ai)(d:List (Int×bo))(a:bo):Bool:=letI e:=i64.wrap ((b.zs.length:Int) - 1);letI c:=((aY a.right 0 (i64.wrap ((b.bl.length:Int) - 1)))&&((b.bl.getD (Int.toNat a.right) default).kind==1))&&(aY a.since 0 e);letI f:=aF .int .C1 d a.of_;(bif((((!(aY a.no 0 1048576)) ||(!(aY a.at_ 0 4096))) ||(!(aY a.known 0 1048576))) ||(!(mn a)))then false else(bif(a.kind==1)then((c&&(aY a.to 0 e))&&(a.to !=a.since))else(bif(a.kind==2)then(c&&(jA b a.parts))else(bif(a.kind==3)then c else(bif(a.kind==4)then(((zp .int .C1 d a.of_)&&(f.kind !=4))&&(decide (a.known>=f.known)))else false)))))
def pe (b:ai)(e:List (Int×bo))(a:bo):Prop:=letI c:=(b.bl.length:Int);letI d:=aY a.right 0 (i64.wrap (c - 1));(((((!(aY a.no 0 1048576)) ||(!(aY a.at_ 0 4096))) ||(!(aY a.known 0 1048576))) ||(!(mn a)))=false->(b.zs.length<=aD->(b.bl.length<=aD->((d=true->(0<=a.right/\a.right<c))/\((a.kind==1)=false->((a.kind==2)=true->(((d&&((b.bl.getD (Int.toNat a.right) default).kind==1))&&(aY a.since 0 (i64.wrap ((b.zs.length:Int) - 1))))=true->(n_ b a.parts))))))))
@[go_sem] def F0:FI:=(pD .al λa=>(pM .int .C1 λb=>(pD .C1 λc=>(pE (.det (pe a b c) (.v (.bool (dF a b c))))))))
def Ec:P0 prog 155 F0:=fN (mG (cp vD (cn [.st .C1] Ea (cn [.st .al,.sl .part] CW Q1))) Q1) f155 [.o] (ap λa0=>ahd λa1=>ap λO=>am λE=>Pq @dF.eq_1 @pe.eq_1)
def gY (x:bo):Bool:=(decide ((x.parts.length:Int) > 16))
@[go_sem] def BL:FI:=(pD .C1 λx=>(pE (.det True (.v (.bool (gY x))))))
def AV:P0 prog 154 BL:=fN (mG Q1 Q1) f154 [.o] (ap λx=>am λE=>Ko @gY.eq_1)
@[go_sem] def cW (b:List bo)(a:Nat)(c:Unit):Int⊕Unit:=(bif(gY (b.getD a default))then .inl (a:Int)else .inr ())
def eI (a:List bo):Int:=(match aj (cW a) a.length 0 ()with| .inl b=>b| .inr c=>(-1))
@[go_sem] def fD:FI:=(pR .C1 λa=>(pFn 154 (pE ((pE (.det True (.i (eI a))))))))
def iC:P0 prog 225 fD:=by
 have hG:=mG (cn [.st .C1] AV Q1) Q1;refine fN hG f225 [.o] (aZ λO=>(qH (am ((am (λY=>?_))))));dsimp only[an]at Y;refine⟨nbl rfl,(XO 0 (LCR (ρ:=Int) (σ:=Unit) 0 [] [] (λV W=>⟨[(0,.rs .C1 O),(1,.fn 154 [] []),(7,.i (O.length:Int)),(8,.i V)],[]⟩) (cW O) pT O.length () (O.length<=aD) (λ_=>.ret) (λE=>⟨[(4,.i E)],[]⟩)) L0),?_,?_⟩;unfold aa f225;simp only[ak,true_and,and_true];refine bG aC hG (λ_=>rfl) (O.length:Int) eE (λhb0 V W X _ hw hc=>⟨L0,ag _,aW (jl [])⟩) λhb0 W hc=>aV (jl []);exact Ce @eI.eq_1
@[go_sem] noncomputable def iD:FI:=λl=>(fD l)
def nh:P0 prog 225 iD:=iC
def aU (a:List bo):Bool:=(decide ((eI a)>=0))
@[go_sem] def mS:FI:=(pR .C1 λa=>(pFn 154 (pE ((pE (.det True (.v (.bool (aU a)))))))))
variable {p:Prop}
def aws(h:p:=by simp only[go_sem,iD];all_goals exact cl):p:=h
theorem mC:P0 prog 153 mS:=by
 have hG:=mG (cn [.sl .C1,.o] nh Q1) Q1;refine fN hG f153 [.o] (aZ λO=>(qH (am ((am (λE=>?_))))));dsimp only[an]at E;refine⟨nbl rfl,L0,ag _,?_⟩;unfold aa f153;try unfold aU
 exact aws
@[go_sem] def eW (d:ai)(c:List bo)(b:Nat)(e:List (Int×bo)):Unit⊕(List (Int×bo)):=letI a:=c.getD b default;(bif(((decide ((b:Int) > 0))&&(decide (a.no<=(c.getD (Int.toNat (i64.wrap ((b:Int) - 1))) default).no))) ||(!(dF d e a)))then .inl ()else .inr (cy .int .C1 e (a.no) a))
def oC (d:ai)(a:List bo)(b:Nat)(g:List (Int×bo)):Prop:=letI c:=i64.wrap ((b:Int) - 1);letI e:=decide ((b:Int) > 0);letI f:=a.getD b default;((e=true->(0<=c/\c< (a.length:Int)))/\((e&&(decide (f.no<=(a.getD (Int.toNat c) default).no)))=false->(pe d g f)))
def bj (d:ai)(a:List bo):Int:=(bif((aB d) !=0)then(aB d)else(bif((decide ((a.length:Int) > 512)) ||(aU a))then 2 else(match aj (eW d a) a.length 0 ([])with| .inl b=>250| .inr c=>0)))
def kO (d:ai)(a:List bo):Prop:=(((aB d) !=0)=false->(a.length<=aD->(((decide ((a.length:Int) > 512)) ||(aU a))=false->(a.length<=aD->okI (eW d a) (oC d a) a.length 0 ([])))))
@[go_sem] def Ed:FI:=(pD .al λd=>(pR .C1 λa=>(pE (.det (kO d a) (.i (bj d a))))))
theorem wz:P0 prog 98 Ed:=by
 have hG:=mG (cn [.st .al] pd (cn [.sl .C1,.o] mC (cn [.st .al,.mp .int .C1,.st .C1] Ec Q1))) Q1;refine fN hG f98 [.o] (ap λd=>(aZ λE=>(am (λY=>?_))));dsimp only[an,kO]at Y;refine⟨nbl rfl,(XO 0 (LCR (ρ:=Unit) (σ:=(List (Int×bo))) 2 [] [0,1] (λV O=>⟨[(1,.rs .C1 E),(2,.ptr 0 0),(5,.os 1),(21,.rs .C1 E),(22,.i (E.length:Int)),(23,.i V)],[.cells (cellsOf .al d),.mp .int .C1 O none]⟩) (eW d E) (oC d E) E.length ([]) (E.length<=aD) (λ_=>.ret) (λX=>⟨[(4,.i 250)],[.dead,.dead]⟩)) L0),?_,?_⟩;unfold aa f98;simp only[ak,true_and,and_true];refine bG aC hG (λ_=>rfl) (E.length:Int) eE (λhb0 V O aue W hw hc=>⟨L0,ag _,?_⟩) (λhb0 O hc=>?_);simp only[oC,hw,aqa]at W
 exact aW (jl [0,1]);exact aV (jl [0,1]);exact Ce @bj.eq_1
@[go_sem] def AW:FI:=pR .C1 λl=>pE (.det (l.length*88<=dh) (.nw .C1 l))
theorem zR:P0 prog 281 AW:=by
 refine fW (mG Q1 Q1) f281 [(.tmp 2,.C1)] (aZ λl=>am λE=>?_);dsimp only[an]at E;refine⟨nbl rfl,L0,ag _,?_⟩;unfold aa f281;simp only[go_sem];intro b V;refine⟨λh=>?_,λ_=>?_⟩;have O:=V h;subst O;rfl;first|exact E|exact⟨E,λ_=>rfl⟩
variable {l0 l1:List Nat}
def fM(a0:JL l0)(a1:JL l1)(h:JL l0->JL l1->p:=by intro ja jb;(first|done|(repeat' (first|with_reducible refine And.intro ?_ ?_|exact V0 |with_reducible intro _)) <;>(first|done|with_reducible exact Empty.elim ‹Empty› |with_reducible assumption|rfl|omega|assumption|decide|exact fk ja|exact fk jb|(simp only[*,cond_true,cond_false,aqE,aqN,go_sem];done) |(simp only[*,cond_true,cond_false,aqE,aqN,go_sem];(repeat' (first|with_reducible refine And.intro ?_ ?_|exact V0 |with_reducible intro _)) <;>(first|done|assumption|rfl|omega|decide|exact fk ja|exact fk jb|(simp_all [cB,dY];done))) |(simp_all [okI,cB,dY];done) |(simp_all [cB,dY];(first|done|exact fk2 ja|exact fk2 jb)) |exact fk2 ja|exact fk2 jb))):p:=h a0 a1
theorem cD(a0:JL l0)(h:JL l0->p:=by intro ja;simp only[go_sem];all_goals exact tK ja):p:=h a0
def bA (x:bo)(a b:Int)(c:List (Int×Bool)):Bool:=((((x.kind==4) ||(decide (x.known > a))) ||(decide (x.at_ > b))) ||(aF .int .bool c x.no))
@[go_sem] def zf:FI:=(pD .C1 λx=>(pX .int λa=>(pX .int λb=>(pXM .int .bool λc=>(pE (.det True (.v (.bool (bA x a b c)))))))))
theorem qM:P0 prog 282 zf:=fN (mG Q1 Q1) f282 [.o] (ap λx=>gO λknown=>gO λhour=>NV λE=>am λE=>Ko @bA.eq_1)
def dZ (a b:bo):Int:=(bv a.at_ b.at_)
@[go_sem] def zg:FI:=(pD .C1 λa=>(pD .C1 λb=>(pE (.det True (.i (dZ a b))))))
theorem qN:P0 prog 284 zg:=fN (mG (cp fg Q1) Q1) f284 [.o] (ap λa=>ap λb=>am λE=>Ko @dZ.eq_1)
@[go_sem] def fe (b:List bo)(c d:Int)(e:List (Int×Bool))(a:Nat)(f:Unit):Int⊕Unit:=(bif(bA (b.getD a default) c d e)then .inl (a:Int)else .inr ())
def a9 (a:List bo)(b c:Int)(d:List (Int×Bool)):Int:=(match aj (fe a b c d) a.length 0 ()with| .inl e=>e| .inr f=>(-1))
@[go_sem] def ip:FI:=(pR .C1 λa=>(pFn 282 (pX .int λb=>(pX .int λc=>(pXM .int .bool λd=>(pE ((pE (.det True (.i (a9 a b c d)))))))))))
theorem mT:P0 prog 225 ip:=by
 have hG:=mG (cn [.st .C1,.o,.o,.o] qM Q1) Q1;refine fN hG f225 [.o] (aZ λV=>(qH (gO λknown=>(gO λhour=>(NV λE=>(am ((am (λhp=>?_)))))))));dsimp only[an]at hp;refine⟨nbl rfl,(XO 0 (LCR (ρ:=Int) (σ:=Unit) 0 [] [] (λW X=>⟨[(0,.rs .C1 V),(1,.fn 282 [] [.ep [.i known] 0,.ep [.i hour] 0,.ep [.rm .int .bool E] 0]),(7,.i (V.length:Int)),(8,.i W)],[]⟩) (fe V known hour E) pT V.length () (V.length<=aD) (λ_=>.ret) (λO=>⟨[(4,.i O)],[]⟩)) L0),?_,?_⟩;unfold aa f225;simp only[ak,true_and,and_true];refine bG aC hG (λ_=>rfl) (V.length:Int) eE (λhb0 W X Y _ hw hc=>⟨L0,ag _,aW (jl [])⟩) λhb0 X hc=>aV (jl []);exact Ce @a9.eq_1
@[go_sem] noncomputable def iE:FI:=λl=>(orC (fD l) (ip l))
def ni:P0 prog 225 iE:=(P0.or iC mT)
@[go_sem] def bZ (g:List bo)(d e:Int)(f:List (Int×Bool))(h:Nat)(a:List bo×Int×Int):(Int×List bo)⊕(List bo×Int×Int):=letI b:=a.1.getD (Int.toNat a.2.2) default;letI c:=i64.wrap (a.2.2+1);(bif(decide (a.2.2< (a.1.length:Int)))then(bif(!(bA b d e f))then .inr ((a.1.set (Int.toNat a.2.1) b),(i64.wrap (a.2.1+1)),c)else .inr (a.1,a.2.1,c))else .inl (a.2.1,a.1))
def cF (f:List bo)(c d:Int)(e:List (Int×Bool))(g:Nat)(a:List bo×Int×Int):Prop:=letI b:=(a.1.length:Int);(a.1.length<=aD->((decide (a.2.2<b))=true->((0<=a.2.2/\a.2.2<b)/\((!(bA (a.1.getD (Int.toNat a.2.2) default) c d e))=true->(0<=a.2.1/\a.2.1<b)))))
def bD (a:List bo)(d e:Int)(f:List (Int×Bool)):List bo:=letI c:=a9 a d e f;(bif(c==(-1))then a else(match aj (bZ a d e f) (a.length+1) 0 (a,c,(i64.wrap (c+1)))with| .inl b=>(((zq .C1 b.2 b.1 (b.2.length:Int)).take (Int.toNat b.1)).drop 0) | .inr g=>default))
def bH (a:List bo)(b c:Int)(d:List (Int×Bool)):Prop:=letI e:=a9 a b c d;letI f:=bZ a b c d;letI g:=(a,e,(i64.wrap (e+1)));letI h:=a.length+1;((e==(-1))=false->(okI f (cF a b c d) h 0 g/\(∀ z_,aj f h 0 g≠ .inr z_)/\(∀ lx,aj f h 0 g=.inl lx->((0<=lx.1/\lx.1<=(lx.2.length:Int))/\(0<=0/\0<=lx.1/\lx.1<=((zq .C1 lx.2 lx.1 (lx.2.length:Int)).length:Int))))))
noncomputable def iF:List SV->List Ob->Option atB:=jR (λx_:(List bo)×Int×Int×(List (Int×Bool)) =>[.os 0,.fn 282 [] [.ptr 1 0,.ptr 2 0,.ptr 3 0]]) (λx_=>[.row .C1 x_.1,.cells [.i x_.2.1],.cells [.i x_.2.2.1],.cells [.os 4],.mp .int .bool x_.2.2.2 none]) (λx_=>fZ (bH x_.1 x_.2.1 x_.2.2.1 x_.2.2.2) (.os 5) [.dead,.cells [.i x_.2.1],.cells [.i x_.2.2.1],.cells [.os 4],.mp .int .bool x_.2.2.2 none,.row .C1 (bD x_.1 x_.2.1 x_.2.2.1 x_.2.2.2)])
@[go_sem] theorem zh (l_:List bo)(known hour:Int)(atZ:List (Int×Bool)){p4_:Option (Nat×Option Tag.int.T)}(awt:p4_=none):iF ([.os 0,.fn (282:Nat) [] [.ptr 1 0,.ptr 2 0,.ptr 3 0]]) ([.row .C1 l_,.cells [.i known],.cells [.i hour],.cells [.os 4],.mp .int .bool atZ p4_])=some (fZ (bH l_ known hour atZ) (.os 5) [.dead,.cells [.i known],.cells [.i hour],.cells [.os 4],.mp .int .bool atZ none,.row .C1 (bD l_ known hour atZ)]):=by
 subst awt;exact gb (A:=λx_:(List bo)×Int×Int×(List (Int×Bool)) =>[.os 0,.fn 282 [] [.ptr 1 0,.ptr 2 0,.ptr 3 0]]) (H:=λx_=>[.row .C1 x_.1,.cells [.i x_.2.1],.cells [.i x_.2.2.1],.cells [.os 4],.mp .int .bool x_.2.2.2 none]) (K:=λx_=>fZ (bH x_.1 x_.2.1 x_.2.2.1 x_.2.2.2) (.os 5) [.dead,.cells [.i x_.2.1],.cells [.i x_.2.2.1],.cells [.os 4],.mp .int .bool x_.2.2.2 none,.row .C1 (bD x_.1 x_.2.1 x_.2.2.1 x_.2.2.2)]) (x:=(l_,known,hour,atZ))
def awv(a0:JL l0)(a1:JL l1)(h:JL l0->JL l1->p:=by intro ja jb;simp only[go_sem,iE];all_goals exact fM ja jb):p:=h a0 a1
theorem nj:atA prog 280 (iF):=by
 have hG:=mG (cn [.sl .C1,.o] ni (cn [.st .C1,.o,.o,.o] qM Q1)) Q1;refine fR hG f280 (λl o con h=>?_);obtain⟨⟨W,known,hour,E⟩,rfl,rfl,rfl⟩:=ed h;clear h;try dsimp only
 refine⟨_,_,_,rfl,λhp=>?_⟩;unfold bH at hp;refine⟨nbl rfl,(XO 0 (LCV (ρ:=(Int×List bo)) (σ:=(List bo×Int×Int)) 5 [] [0,1,2,3,4] (λX V=>⟨[(0,.os 0),(1,.fn 282 [] [.ptr 1 0,.ptr 2 0,.ptr 3 0]),(5,.i V.2.1),(6,.i V.2.2)],[.row .C1 V.1,.cells [.i known],.cells [.i hour],.cells [.os 4],.mp .int .bool E none]⟩) (bZ W known hour E) (cF W known hour E) (W.length+1) (W,(a9 W known hour E),(i64.wrap ((a9 W known hour E)+1))) (λ_=>.normal) (λO=>⟨[(0,.os 0),(5,.i O.1)],[.row .C1 O.2,.cells [.i known],.cells [.i hour],.cells [.os 4],.mp .int .bool E none]⟩)) L0),?_,?_⟩;unfold aa f280;simp only[ak,true_and,and_true,and_assoc];refine dH aC hG (λ_=>rfl) λX V Y=>⟨L0,ag _,?_⟩;unfold cF at Y;exact cD (jl [0,1,2,3,4]);unfold aa f280;try unfold bD
 exact awv (jl [0,1,2,3,4,0]) (jl [0,1,2,3,4,5])
@[go_sem] def bE (a:Int)(f:List bo)(g:Nat)(b:List bo×Int):(List bo)⊕(List bo×Int):=letI c:=i64.wrap (b.2 - 1);letI d:=b.1.getD (Int.toNat b.2) default;letI e:=b.1.getD (Int.toNat c) default;(bif((decide (b.2 > a))&&(decide ((dZ d e) <0)))then .inr (((b.1.set (Int.toNat b.2) e).set (Int.toNat c) d),c)else .inl b.1)
def bK (a:Int)(h:List bo)(i:Nat)(b:List bo×Int):Prop:=letI c:=i64.wrap (b.2 - 1);letI d:=decide (b.2 > a);letI e:=(b.1.length:Int);letI f:=0<=b.2/\b.2<e;letI g:=b.1.getD (Int.toNat c) default;((d=true->f)/\((d=true->(0<=c/\c<e))/\((d&&(decide ((dZ (b.1.getD (Int.toNat b.2) default) g) <0)))=true->((0<=c/\c<e)/\(f/\(f/\(0<=c/\c< ((b.1.set (Int.toNat b.2) g).length:Int))))))))
@[go_sem] def ba (a b:Int)(d:List bo)(f:Nat)(c:List bo×Int):(List bo)⊕(List bo×Int):=(bif(decide (c.2<b))then(match aj (bE a d) (d.length+1) 0 (c.1,c.2)with| .inl e=>.inr (e,(i64.wrap (c.2+1))) | .inr g=>.inr default)else .inl c.1)
def bw (a b:Int)(d:List bo)(f:Nat)(c:List bo×Int):Prop:=letI e:=bE a d;((decide (c.2<b))=true->(okI e (bK a d) (d.length+1) 0 (c.1,c.2)/\(∀ z_,aj e (d.length+1) 0 (c.1,c.2)≠ .inr z_)))
def aN (a b:Int)(c:List bo):List bo:=(match aj (ba a b c) (c.length+1) 0 (c,(i64.wrap (a+1)))with| .inl d=>d| .inr e=>default)
def bp (a b:Int)(c:List bo):Prop:=letI d:=ba a b c;letI e:=(c,(i64.wrap (a+1)));(okI d (bw a b c) (c.length+1) 0 e/\(∀ z_,aj d (c.length+1) 0 e≠ .inr z_))
noncomputable def iq:List SV->List Ob->Option atB:=jR (λx_:Int×Int×(List bo) =>[.os 0,.i x_.1,.i x_.2.1,.fn 284 [] []]) (λx_=>[.row .C1 x_.2.2]) (λx_=>fZ (bp x_.1 x_.2.1 x_.2.2) (.tup []) [.row .C1 (aN x_.1 x_.2.1 x_.2.2)])
@[go_sem]def yW (a b:Int)(d:List bo):iq ([.os 0,.i a,.i b,.fn 284 [] []]) ([.row .C1 d])=some (fZ (bp a b d) (.tup []) [.row .C1 (aN a b d)]):=gb (A:=λc:Int×Int×(List bo) =>[.os 0,.i c.1,.i c.2.1,.fn 284 [] []]) (H:=λc=>[.row .C1 c.2.2]) (K:=λc=>fZ (bp c.1 c.2.1 c.2.2) (.tup []) [.row .C1 (aN c.1 c.2.1 c.2.2)]) (x:=(a,b,d))
theorem mU:atA prog 338 (iq):=by
 have hG:=mG (cn [.st .C1,.st .C1] qN Q1) Q1;refine fR hG f338 (λl o con h=>?_);obtain⟨⟨a,b,V⟩,rfl,rfl,rfl⟩:=ed h;clear h;try dsimp only
 refine⟨_,_,_,rfl,λhp=>?_⟩;unfold bp at hp;refine⟨nbl rfl,(XO 0 (LCV (ρ:=(List bo)) (σ:=(List bo×Int)) 1 [] [0] (λY E=>⟨[(0,.os 0),(1,.i a),(2,.i b),(3,.fn 284 [] []),(8,.i E.2)],[.row .C1 E.1]⟩) (ba a b V) (bw a b V) (V.length+1) (V,(i64.wrap (a+1))) (λ_=>.normal) (λO=>⟨[],[.row .C1 O]⟩)) L0),?_,?_⟩;unfold aa f338;simp only[ak,true_and,and_true,and_assoc];refine dH aC hG (λ_=>rfl) λY E hq0=>⟨(XO 2 (LCV (ρ:=(List bo)) (σ:=(List bo×Int)) 1 [] [0] (λk_1 W=>⟨[(0,.os 0),(1,.i a),(2,.i b),(3,.fn 284 [] []),(8,.i E.2),(9,.i W.2)],[.row .C1 W.1]⟩) (bE a V) (bK a V) (V.length+1) (E.1,E.2) (λ_=>.normal) (λX=>⟨[(0,.os 0),(1,.i a),(2,.i b),(3,.fn 284 [] []),(8,.i E.2)],[.row .C1 X]⟩)) L0),?_,?_⟩;simp only[ak,true_and,and_true];refine dH aC hG (λ_=>rfl) λk_1 W hq1=>⟨L0,ag _,?_⟩;unfold bK at hq1;exact cD (jl [0]);unfold bw at hq0;exact cD (jl [0]);unfold aa f338;try unfold aN
 exact cD (jl [0])
@[go_sem] def cA (a b n:Int)(d:Nat)(c:List bo):Empty⊕(List bo):=letI e:=Int.toNat (i64.wrap (a+(d:Int)));letI f:=Int.toNat (i64.wrap (b+(d:Int)));.inr ((c.set e (c.getD f default)).set f (c.getD e default))
def cX (a b n:Int)(g:Nat)(e:List bo):Prop:=letI c:=i64.wrap (b+(g:Int));letI d:=i64.wrap (a+(g:Int));letI f:=(e.length:Int);((0<=c/\c<f)/\((0<=d/\d<f)/\((0<=d/\d<f)/\(0<=c/\c< ((e.set (Int.toNat d) (e.getD (Int.toNat c) default)).length:Int)))))
def bC (a b n:Int)(c:List bo):List bo:=(match aj (cA a b n) (Int.toNat n) 0 c with| .inl x=>x.elim| .inr d=>d)
def bq (a b n:Int)(c:List bo):Prop:=((n<9223372036854775808)/\okI (cA a b n) (cX a b n) (Int.toNat n) 0 c)
noncomputable def jB:List SV->List Ob->Option atB:=jR (λx_:Int×Int×Int×(List bo) =>[.os 0,.i x_.1,.i x_.2.1,.i x_.2.2.1,.fn 284 [] []]) (λx_=>[.row .C1 x_.2.2.2]) (λx_=>fZ (bq x_.1 x_.2.1 x_.2.2.1 x_.2.2.2) (.tup []) [.row .C1 (bC x_.1 x_.2.1 x_.2.2.1 x_.2.2.2)])
@[go_sem]def Ay (a b n:Int)(d:List bo):jB ([.os 0,.i a,.i b,.i n,.fn 284 [] []]) ([.row .C1 d])=some (fZ (bq a b n d) (.tup []) [.row .C1 (bC a b n d)]):=gb (A:=λc:Int×Int×Int×(List bo) =>[.os 0,.i c.1,.i c.2.1,.i c.2.2.1,.fn 284 [] []]) (H:=λc=>[.row .C1 c.2.2.2]) (K:=λc=>fZ (bq c.1 c.2.1 c.2.2.1 c.2.2.2) (.tup []) [.row .C1 (bC c.1 c.2.1 c.2.2.1 c.2.2.2)]) (x:=(a,b,n,d))
theorem oN:atA prog 349 (jB):=by
 have hG:=mG Q1 Q1;refine fR hG f349 (λl o con h=>?_);obtain⟨⟨a,b,n,X⟩,rfl,rfl,rfl⟩:=ed h;clear h;try dsimp only
 refine⟨_,_,_,rfl,λY=>?_⟩;unfold bq at Y;refine⟨nbl rfl,(XO 0 (LCR (ρ:=Empty) (σ:=(List bo)) 1 [] [0] (λO E=>⟨[(0,.os 0),(1,.i a),(2,.i b),(3,.i n),(10,.i O)],[.row .C1 E]⟩) (cA a b n) (cX a b n) (Int.toNat n) X (n<9223372036854775808) ((·.elim)) ((·.elim))) L0),?_,?_⟩;unfold aa f349;simp only[ak,true_and,and_true,and_assoc];refine bG aC hG (λ_=>rfl) n id (λhb0 O E W V hw hc=>⟨L0,ag _,?_⟩) (λhb0 E hc=>?_);simp only[cX,hw,aqa]at V
 exact aW (jl [0]);exact aV (jl [0]);unfold aa f349;try unfold bC
 exact cD (jl [0])
@[go_sem] def c6 (a m b:Int)(e:Nat)(c:List bo×Int×Int):(Int×List bo)⊕(List bo×Int×Int):=letI d:=i64.wrap (m - c.2.1);(bif(c.2.1 !=c.2.2)then(bif(decide (c.2.1 > c.2.2))then .inr ((bC d m c.2.2 c.1),(i64.wrap (c.2.1 - c.2.2)),c.2.2)else .inr ((bC d (i64.wrap ((i64.wrap (m+c.2.2)) - c.2.1)) c.2.1 c.1),c.2.1,(i64.wrap (c.2.2 - c.2.1))))else .inl (c.2.1,c.1))
def dx (a m b:Int)(f:Nat)(c:List bo×Int×Int):Prop:=letI d:=i64.wrap (m - c.2.1);letI e:=decide (c.2.1 > c.2.2);((c.2.1 !=c.2.2)=true->((e=true->(bq d m c.2.2 c.1))/\(e=false->(bq d (i64.wrap ((i64.wrap (m+c.2.2)) - c.2.1)) c.2.1 c.1))))
def aL (a m b:Int)(d:List bo):List bo:=(match aj (c6 a m b) (Int.toNat (b - a)+1) 0 (d,(i64.wrap (m - a)),(i64.wrap (b - m)))with| .inl c=>(bC (i64.wrap (m - c.1)) m c.1 c.2) | .inr e=>default)
def bR (a m b:Int)(f:List bo):Prop:=letI c:=(f,(i64.wrap (m - a)),(i64.wrap (b - m)));letI d:=c6 a m b;letI e:=Int.toNat (b - a)+1;(okI d (dx a m b) e 0 c/\(∀ z_,aj d e 0 c≠ .inr z_)/\(∀ lx,aj d e 0 c=.inl lx->(bq (i64.wrap (m - lx.1)) m lx.1 lx.2)))
noncomputable def kF:List SV->List Ob->Option atB:=jR (λx_:Int×Int×Int×(List bo) =>[.os 0,.i x_.1,.i x_.2.1,.i x_.2.2.1,.fn 284 [] []]) (λx_=>[.row .C1 x_.2.2.2]) (λx_=>fZ (bR x_.1 x_.2.1 x_.2.2.1 x_.2.2.2) (.tup []) [.row .C1 (aL x_.1 x_.2.1 x_.2.2.1 x_.2.2.2)])
@[go_sem]def BN (a m b:Int)(d:List bo):kF ([.os 0,.i a,.i m,.i b,.fn 284 [] []]) ([.row .C1 d])=some (fZ (bR a m b d) (.tup []) [.row .C1 (aL a m b d)]):=gb (A:=λc:Int×Int×Int×(List bo) =>[.os 0,.i c.1,.i c.2.1,.i c.2.2.1,.fn 284 [] []]) (H:=λc=>[.row .C1 c.2.2.2]) (K:=λc=>fZ (bR c.1 c.2.1 c.2.2.1 c.2.2.2) (.tup []) [.row .C1 (aL c.1 c.2.1 c.2.2.1 c.2.2.2)]) (x:=(a,m,b,d))
theorem qO:atA prog 345 (kF):=by
 have hG:=mG Q1 (co oN Q1);refine fR hG f345 (λl o con h=>?_);obtain⟨⟨a,m,b,X⟩,rfl,rfl,rfl⟩:=ed h;clear h;try dsimp only
 refine⟨_,_,_,rfl,λY=>?_⟩;unfold bR at Y;refine⟨nbl rfl,(XO 0 (LCV (ρ:=(Int×List bo)) (σ:=(List bo×Int×Int)) 1 [] [0] (λV O=>⟨[(0,.os 0),(2,.i m),(4,.fn 284 [] []),(10,.i O.2.1),(11,.i O.2.2)],[.row .C1 O.1]⟩) (c6 a m b) (dx a m b) (Int.toNat (b - a)+1) (X,(i64.wrap (m - a)),(i64.wrap (b - m))) (λ_=>.normal) (λE=>⟨[(0,.os 0),(2,.i m),(4,.fn 284 [] []),(10,.i E.1)],[.row .C1 E.2]⟩)) L0),?_,?_⟩;unfold aa f345;simp only[ak,true_and,and_true,and_assoc];refine dH aC hG (λ_=>rfl) λV O W=>⟨L0,ag _,?_⟩;unfold dx at W;exact cD (jl [0]);unfold aa f345;try unfold aL
 exact cD (jl [0])
noncomputable def TF (aur:Int->Int->Int->List bo->List bo)(auf:Int->Int->Int->List bo->Prop):List SV->List Ob->Option atB:=jR (λx_:Int×Int×Int×(List bo) =>[.os 0,.i x_.1,.i x_.2.1,.i x_.2.2.1,.fn 284 [] []]) (λx_=>[.row .C1 x_.2.2.2]) (λx_=>fZ (auf x_.1 x_.2.1 x_.2.2.1 x_.2.2.2) (.tup []) [.row .C1 (aur x_.1 x_.2.1 x_.2.2.1 x_.2.2.2)])
@[go_sem]def Mh (e:Int->Int->Int->List bo->List bo)(f:Int->Int->Int->List bo->Prop)(a m b:Int)(d:List bo):TF e f ([.os 0,.i a,.i m,.i b,.fn 284 [] []]) ([.row .C1 d])=some (fZ (f a m b d) (.tup []) [.row .C1 (e a m b d)]):=gb (A:=λc:Int×Int×Int×(List bo) =>[.os 0,.i c.1,.i c.2.1,.i c.2.2.1,.fn 284 [] []]) (H:=λc=>[.row .C1 c.2.2.2]) (K:=λc=>fZ (f c.1 c.2.1 c.2.2.1 c.2.2.2) (.tup []) [.row .C1 (e c.1 c.2.1 c.2.2.1 c.2.2.2)]) (x:=(a,m,b,d))
@[go_sem] def uB (a:Int)(d:List bo)(e:Nat)(b:Int×Int):Int⊕(Int×Int):=letI c:=i64.wrap (oy .u64 (u64.wrap (i64.wrap (b.1+b.2))) 1);(bif(decide (b.1<b.2))then(bif(decide ((dZ (d.getD (Int.toNat c) default) (d.getD (Int.toNat a) default)) <0))then .inr ((i64.wrap (c+1)),b.2)else .inr (b.1,c))else .inl b.1)
def uS (a:Int)(c:List bo)(e:Nat)(b:Int×Int):Prop:=letI d:=i64.wrap (oy .u64 (u64.wrap (i64.wrap (b.1+b.2))) 1);((decide (b.1<b.2))=true->((0<=d/\d< (c.length:Int))/\(0<=a/\a< (c.length:Int))))
@[go_sem] def yd (d:List bo)(c:Int)(e:Nat)(a:List bo×Int):(List bo)⊕(List bo×Int):=letI b:=i64.wrap (a.2+1);(bif(decide (a.2< (i64.wrap (c - 1))))then .inr (((a.1.set (Int.toNat a.2) (a.1.getD (Int.toNat b) default)).set (Int.toNat b) (a.1.getD (Int.toNat a.2) default)),b)else .inl a.1)
def xx (f:List bo)(e:Int)(g:Nat)(a:List bo×Int):Prop:=letI b:=i64.wrap (a.2+1);letI c:=(a.1.length:Int);letI d:=0<=a.2/\a.2<c;((decide (a.2< (i64.wrap (e - 1))))=true->((0<=b/\b<c)/\(d/\(d/\(0<=b/\b< ((a.1.set (Int.toNat a.2) (a.1.getD (Int.toNat b) default)).length:Int))))))
@[go_sem] def uC (m:Int)(c:List bo)(d:Nat)(a:Int×Int):Int⊕(Int×Int):=letI b:=i64.wrap (oy .u64 (u64.wrap (i64.wrap (a.1+a.2))) 1);(bif(decide (a.1<a.2))then(bif(!(decide ((dZ (c.getD (Int.toNat m) default) (c.getD (Int.toNat b) default)) <0)))then .inr ((i64.wrap (b+1)),a.2)else .inr (a.1,b))else .inl a.1)
def uT (m:Int)(b:List bo)(d:Nat)(a:Int×Int):Prop:=letI c:=i64.wrap (oy .u64 (u64.wrap (i64.wrap (a.1+a.2))) 1);((decide (a.1<a.2))=true->((0<=m/\m< (b.length:Int))/\(0<=c/\c< (b.length:Int))))
@[go_sem] def ye (d:List bo)(c:Int)(e:Nat)(a:List bo×Int):(List bo)⊕(List bo×Int):=letI b:=i64.wrap (a.2 - 1);(bif(decide (a.2 > c))then .inr (((a.1.set (Int.toNat a.2) (a.1.getD (Int.toNat b) default)).set (Int.toNat b) (a.1.getD (Int.toNat a.2) default)),b)else .inl a.1)
def xy (f:List bo)(e:Int)(g:Nat)(a:List bo×Int):Prop:=letI b:=i64.wrap (a.2 - 1);letI c:=(a.1.length:Int);letI d:=0<=a.2/\a.2<c;((decide (a.2 > e))=true->((0<=b/\b<c)/\(d/\(d/\(0<=b/\b< ((a.1.set (Int.toNat a.2) (a.1.getD (Int.toNat b) default)).length:Int))))))
@[go_sem] def Az (a m b:Int)(e:List bo)(f:Nat)(c:Int×Int):Int⊕(Int×Int):=letI d:=i64.wrap (oy .u64 (u64.wrap (i64.wrap (c.1+c.2))) 1);(bif(decide (c.1<c.2))then(bif(!(decide ((dZ (e.getD (Int.toNat (i64.wrap ((i64.wrap ((i64.wrap ((i64.wrap (oy .u64 (u64.wrap (i64.wrap (a+b))) 1))+m)) - 1)) - d))) default) (e.getD (Int.toNat d) default)) <0)))then .inr ((i64.wrap (d+1)),c.2)else .inr (c.1,d))else .inl c.1)
def uU (a m b:Int)(e:List bo)(g:Nat)(c:Int×Int):Prop:=letI d:=i64.wrap (oy .u64 (u64.wrap (i64.wrap (c.1+c.2))) 1);letI f:=i64.wrap ((i64.wrap ((i64.wrap ((i64.wrap (oy .u64 (u64.wrap (i64.wrap (a+b))) 1))+m)) - 1)) - d);((decide (c.1<c.2))=true->((0<=f/\f< (e.length:Int))/\(0<=d/\d< (e.length:Int))))
def N5 (g:Int->Int->Int->List bo->List bo)(n:Int->Int->Int->List bo->Prop)(a m b:Int)(f:List bo):List bo:=letI d:=i64.wrap (oy .u64 (u64.wrap (i64.wrap (a+b))) 1);letI e:=i64.wrap (d+m);letI h:=f.length+1;(bif((i64.wrap (m - a)) ==1)then(match aj (uB a f) h 0 (m,b)with| .inl i=>(match aj (yd f i) h 0 (f,a)with| .inl j=>j| .inr o=>default) | .inr p=>default)else(bif((i64.wrap (b - m)) ==1)then(match aj (uC m f) h 0 (a,m)with| .inl k=>(match aj (ye f k) h 0 (f,m)with| .inl l=>l| .inr q=>default) | .inr r=>default)else(match aj (Az a m b f) h 0 ((bif(decide (m > d))then(i64.wrap (e - b))else a),(bif(decide (m > d))then d else m))with| .inl c=>(bif((decide (c<m))&&(decide (m< (i64.wrap (e - c)))))then(bif((decide (a<c))&&(decide (c<d)))then(bif((decide (d< (i64.wrap (e - c))))&&(decide ((i64.wrap (e - c)) <b)))then(g d (i64.wrap (e - c)) b (g a c d (aL c m (i64.wrap (e - c)) f)))else(g a c d (aL c m (i64.wrap (e - c)) f)))else(bif((decide (d< (i64.wrap (e - c))))&&(decide ((i64.wrap (e - c)) <b)))then(g d (i64.wrap (e - c)) b (aL c m (i64.wrap (e - c)) f))else(aL c m (i64.wrap (e - c)) f)))else(bif((decide (a<c))&&(decide (c<d)))then(bif((decide (d< (i64.wrap (e - c))))&&(decide ((i64.wrap (e - c)) <b)))then(g d (i64.wrap (e - c)) b (g a c d f))else(g a c d f))else(bif((decide (d< (i64.wrap (e - c))))&&(decide ((i64.wrap (e - c)) <b)))then(g d (i64.wrap (e - c)) b f)else f))) | .inr s=>default)))
def yf (l:Int->Int->Int->List bo->List bo)(g:Int->Int->Int->List bo->Prop)(a m b:Int)(c:List bo):Prop:=letI d:=i64.wrap (oy .u64 (u64.wrap (i64.wrap (a+b))) 1);letI e:=i64.wrap (d+m);letI h:=((bif(decide (m > d))then(i64.wrap (e - b))else a),(bif(decide (m > d))then d else m));letI f:=c.length+1;letI i:=Az a m b c;letI n:=(i64.wrap (m - a)) ==1;letI o:=(i64.wrap (b - m)) ==1;letI j:=uB a c;letI k:=uC m c;((n=true->(okI j (uS a c) f 0 (m,b)/\(∀ z_,aj j f 0 (m,b)≠ .inr z_)/\(∀ lx,aj j f 0 (m,b)=.inl lx->(okI (yd c lx) (xx c lx) f 0 (c,a)/\(∀ z_,aj (yd c lx) f 0 (c,a)≠ .inr z_)))))/\(n=false->((o=true->(okI k (uT m c) f 0 (a,m)/\(∀ z_,aj k f 0 (a,m)≠ .inr z_)/\(∀ atO,aj k f 0 (a,m)=.inl atO->(okI (ye c atO) (xy c atO) f 0 (c,m)/\(∀ z_,aj (ye c atO) f 0 (c,m)≠ .inr z_)))))/\(o=false->(okI i (uU a m b c) f 0 h/\(∀ z_,aj i f 0 h≠ .inr z_)/\(∀ ats,aj i f 0 h=.inl ats->((((decide (ats<m))&&(decide (m< (i64.wrap (e - ats)))))=true->((bR ats m (i64.wrap (e - ats)) c)/\((((decide (a<ats))&&(decide (ats<d)))=true->((g a ats d (aL ats m (i64.wrap (e - ats)) c))/\(((decide (d< (i64.wrap (e - ats))))&&(decide ((i64.wrap (e - ats)) <b)))=true->(g d (i64.wrap (e - ats)) b (l a ats d (aL ats m (i64.wrap (e - ats)) c))))))/\(((decide (a<ats))&&(decide (ats<d)))=false->(((decide (d< (i64.wrap (e - ats))))&&(decide ((i64.wrap (e - ats)) <b)))=true->(g d (i64.wrap (e - ats)) b (aL ats m (i64.wrap (e - ats)) c)))))))/\(((decide (ats<m))&&(decide (m< (i64.wrap (e - ats)))))=false->((((decide (a<ats))&&(decide (ats<d)))=true->((g a ats d c)/\(((decide (d< (i64.wrap (e - ats))))&&(decide ((i64.wrap (e - ats)) <b)))=true->(g d (i64.wrap (e - ats)) b (l a ats d c)))))/\(((decide (a<ats))&&(decide (ats<d)))=false->(((decide (d< (i64.wrap (e - ats))))&&(decide ((i64.wrap (e - ats)) <b)))=true->(g d (i64.wrap (e - ats)) b c))))))))))))
noncomputable def ahs (aur:Int->Int->Int->List bo->List bo)(auf:Int->Int->Int->List bo->Prop):List SV->List Ob->Option atB:=jR (λx_:Int×Int×Int×(List bo) =>[.os 0,.i x_.1,.i x_.2.1,.i x_.2.2.1,.fn 284 [] []]) (λx_=>[.row .C1 x_.2.2.2]) (λx_=>fZ (yf aur auf x_.1 x_.2.1 x_.2.2.1 x_.2.2.2) (.tup []) [.row .C1 (N5 aur auf x_.1 x_.2.1 x_.2.2.1 x_.2.2.2)])
theorem adb (V:Int->Int->Int->List bo->List bo)(O:Int->Int->Int->List bo->Prop)(hr:atA prog 339 (TF V O)):atA prog 339 (ahs V O):=by
 have hG:=mG (cn [.st .C1,.st .C1] qN Q1) (co hr (co qO Q1));refine fR hG f339 (λl o con h=>?_);obtain⟨⟨a,m,b,E⟩,rfl,rfl,rfl⟩:=ed h;clear h;try dsimp only
 refine⟨_,_,_,rfl,λhp=>?_⟩;unfold yf at hp;refine⟨nbl rfl,(XO 0 (LCV (ρ:=Int) (σ:=(Int×Int)) 1 [] [0] (λW1 ee=>⟨[(0,.os 0),(1,.i a),(4,.fn 284 [] []),(10,.i ee.1),(11,.i ee.2)],[.row .C1 E]⟩) (uB a E) (uS a E) (E.length+1) (m,b) (λ_=>.normal) (λW=>⟨[(0,.os 0),(1,.i a),(10,.i W)],[.row .C1 E]⟩)) (XO 2 (LCV (ρ:=(List bo)) (σ:=(List bo×Int)) 1 [] [0] (λk_1 s_1=>⟨[(0,.os 0),(10,.i (dY (aj (uB a E) (E.length+1) 0 (m,b)))),(13,.i s_1.2)],[.row .C1 s_1.1]⟩) (yd E (dY (aj (uB a E) (E.length+1) 0 (m,b)))) (xx E (dY (aj (uB a E) (E.length+1) 0 (m,b)))) (E.length+1) (E,a) (λ_=>.normal) (λatG=>⟨[],[.row .C1 atG]⟩)) (XO 4 (LCV (ρ:=Int) (σ:=(Int×Int)) 1 [] [0] (λk_2 s_2=>⟨[(0,.os 0),(2,.i m),(4,.fn 284 [] []),(14,.i s_2.1),(15,.i s_2.2)],[.row .C1 E]⟩) (uC m E) (uT m E) (E.length+1) (a,m) (λ_=>.normal) (λY=>⟨[(0,.os 0),(2,.i m),(14,.i Y)],[.row .C1 E]⟩)) (XO 6 (LCV (ρ:=(List bo)) (σ:=(List bo×Int)) 1 [] [0] (λk_3 X=>⟨[(0,.os 0),(14,.i (dY (aj (uC m E) (E.length+1) 0 (a,m)))),(17,.i X.2)],[.row .C1 X.1]⟩) (ye E (dY (aj (uC m E) (E.length+1) 0 (a,m)))) (xy E (dY (aj (uC m E) (E.length+1) 0 (a,m)))) (E.length+1) (E,m) (λ_=>.normal) (λauP=>⟨[],[.row .C1 auP]⟩)) (XO 1000140 (λ_=>JC (⟨[(0,.os 0),(1,.i a),(2,.i m),(3,.i b),(4,.fn 284 [] []),(18,.i (i64.wrap (oy .u64 (u64.wrap (i64.wrap (a+b))) 1))),(19,.i (i64.wrap ((i64.wrap (oy .u64 (u64.wrap (i64.wrap (a+b))) 1))+m))),(20,.i (bif(decide (m > (i64.wrap (oy .u64 (u64.wrap (i64.wrap (a+b))) 1))))then(i64.wrap ((i64.wrap ((i64.wrap (oy .u64 (u64.wrap (i64.wrap (a+b))) 1))+m)) - b))else a)),(21,.i (bif(decide (m > (i64.wrap (oy .u64 (u64.wrap (i64.wrap (a+b))) 1))))then(i64.wrap (oy .u64 (u64.wrap (i64.wrap (a+b))) 1))else m))],[.row .C1 E]⟩)) (XO 8 (LCV (ρ:=Int) (σ:=(Int×Int)) 1 [] [0] (λk_4 s_4=>⟨[(0,.os 0),(1,.i a),(2,.i m),(3,.i b),(4,.fn 284 [] []),(18,.i (i64.wrap (oy .u64 (u64.wrap (i64.wrap (a+b))) 1))),(19,.i (i64.wrap ((i64.wrap (oy .u64 (u64.wrap (i64.wrap (a+b))) 1))+m))),(20,.i s_4.1),(21,.i s_4.2),(22,.i (i64.wrap ((i64.wrap ((i64.wrap (oy .u64 (u64.wrap (i64.wrap (a+b))) 1))+m)) - 1)))],[.row .C1 E]⟩) (Az a m b E) (uU a m b E) (E.length+1) ((bif(decide (m > (i64.wrap (oy .u64 (u64.wrap (i64.wrap (a+b))) 1))))then(i64.wrap ((i64.wrap ((i64.wrap (oy .u64 (u64.wrap (i64.wrap (a+b))) 1))+m)) - b))else a),(bif(decide (m > (i64.wrap (oy .u64 (u64.wrap (i64.wrap (a+b))) 1))))then(i64.wrap (oy .u64 (u64.wrap (i64.wrap (a+b))) 1))else m)) (λ_=>.normal) (λats=>⟨[(0,.os 0),(1,.i a),(2,.i m),(3,.i b),(4,.fn 284 [] []),(18,.i (i64.wrap (oy .u64 (u64.wrap (i64.wrap (a+b))) 1))),(19,.i (i64.wrap ((i64.wrap (oy .u64 (u64.wrap (i64.wrap (a+b))) 1))+m))),(20,.i ats)],[.row .C1 E]⟩)) L0)))))),?_,?_⟩;unfold aa f339;simp only[ak,true_and,and_true,and_assoc];refine⟨?_,?_,?_,?_,?_⟩;refine dH aC hG (λ_=>rfl) λW1 ee hq0=>⟨L0,ag _,?_⟩;unfold uS at hq0;exact cD (jl [0]);refine dH aC hG (λ_=>rfl) λk_1 s_1 hq1=>⟨L0,ag _,?_⟩;unfold xx at hq1;exact cD (jl [0]);refine dH aC hG (λ_=>rfl) λk_2 s_2 hq2=>⟨L0,ag _,?_⟩;unfold uT at hq2;exact cD (jl [0]);refine dH aC hG (λ_=>rfl) λk_3 X hq3=>⟨L0,ag _,?_⟩;unfold xy at hq3;exact cD (jl [0]);refine dH aC hG (λ_=>rfl) λk_4 s_4 hq4=>⟨L0,ag _,?_⟩;unfold uU at hq4;exact cD (jl [0]);unfold aa f339;try unfold N5
 exact cD (jl [0])
def sJ:Nat->(Int->Int->Int->List bo->List bo)×(Int->Int->Int->List bo->Prop)
 |0=>(λ_ _ _ l=>l,λ_ _ _ _=>False)
 |n+1=>(N5 (sJ n).1 (sJ n).2,yf (sJ n).1 (sJ n).2)
theorem TG:∀ n,atA prog 339 (TF (sJ n).1 (sJ n).2)
 |0=>by
  have hG:atj prog (mkG [] []):=qF Q1 Q1;refine Qy mixed aC hG (fn:=f339) (c:=aa f339) kr kr kr kr λl o O h=>?_;obtain⟨⟨a,m,b,V⟩,rfl,rfl,rfl⟩:=ed h;exact⟨_,_,_,rfl,λE=>E.elim⟩
 |n+1=>adb _ _ (TG n)
def dl (a m b:Int)(c:List bo):List bo:=(sJ (c.length+1)).1 a m b c
def cP (a m b:Int)(c:List bo):Prop:=(sJ (c.length+1)).2 a m b c
noncomputable def jO:List SV->List Ob->Option atB:=jR (λx_:Int×Int×Int×(List bo) =>[.os 0,.i x_.1,.i x_.2.1,.i x_.2.2.1,.fn 284 [] []]) (λx_=>[.row .C1 x_.2.2.2]) (λx_=>fZ (cP x_.1 x_.2.1 x_.2.2.1 x_.2.2.2) (.tup []) [.row .C1 (dl x_.1 x_.2.1 x_.2.2.1 x_.2.2.2)])
@[go_sem]def AX (a m b:Int)(d:List bo):jO ([.os 0,.i a,.i m,.i b,.fn 284 [] []]) ([.row .C1 d])=some (fZ (cP a m b d) (.tup []) [.row .C1 (dl a m b d)]):=gb (A:=λc:Int×Int×Int×(List bo) =>[.os 0,.i c.1,.i c.2.1,.i c.2.2.1,.fn 284 [] []]) (H:=λc=>[.row .C1 c.2.2.2]) (K:=λc=>fZ (cP c.1 c.2.1 c.2.2.1 c.2.2.2) (.tup []) [.row .C1 (dl c.1 c.2.1 c.2.2.1 c.2.2.2)]) (x:=(a,m,b,d))
theorem pz:atA prog 339 jO where
 enter:=λl h c e=>by
  obtain⟨⟨a,m,b,E⟩,rfl,rfl,rfl⟩:=ed e;exact(TG (E.length+1)).enter _ _ _ (Mh _ _ a m b E)
 calls:=λl h c e O=>by
  obtain⟨⟨a,m,b,E⟩,rfl,rfl,rfl⟩:=ed e;exact(TG (E.length+1)).calls _ _ _ (Mh _ _ a m b E) O
@[go_sem] def bN (n:Int)(b:Nat)(a:List bo×Int×Int):(Int×List bo)⊕(List bo×Int×Int):=(bif(decide (a.2.2<=n))then .inr ((aN a.2.1 a.2.2 a.1),a.2.2,(i64.wrap (a.2.2+20)))else .inl (a.2.1,a.1))
def dy (n:Int)(b:Nat)(a:List bo×Int×Int):Prop:=((decide (a.2.2<=n))=true->(bp a.2.1 a.2.2 a.1))
@[go_sem] def c7 (n:Int)(b:List bo×Int)(c:Nat)(a:List bo×Int×Int):(Int×List bo)⊕(List bo×Int×Int):=(bif(decide (a.2.2<=n))then .inr ((dl a.2.1 (i64.wrap (a.2.1+b.2)) a.2.2 a.1),a.2.2,(i64.wrap (a.2.2+(i64.wrap (2*b.2)))))else .inl (a.2.1,a.1))
def dz (n:Int)(b:List bo×Int)(c:Nat)(a:List bo×Int×Int):Prop:=((decide (a.2.2<=n))=true->(cP a.2.1 (i64.wrap (a.2.1+b.2)) a.2.2 a.1))
@[go_sem] def ce (n:Int)(d:Nat)(a:List bo×Int):(List bo)⊕(List bo×Int):=letI c:=i64.wrap (a.2*2);(bif(decide (a.2<n))then(match aj (c7 n a) (Int.toNat n+1) 0 (a.1,0,(i64.wrap (2*a.2)))with| .inl b=>(bif(decide ((i64.wrap (b.1+a.2)) <n))then .inr ((dl b.1 (i64.wrap (b.1+a.2)) n b.2),c)else .inr (b.2,c)) | .inr e=>.inr default)else .inl a.1)
def cI (n:Int)(e:Nat)(a:List bo×Int):Prop:=letI b:=(a.1,0,(i64.wrap (2*a.2)));letI c:=c7 n a;letI d:=Int.toNat n+1;((decide (a.2<n))=true->(okI c (dz n a) d 0 b/\(∀ z_,aj c d 0 b≠ .inr z_)/\(∀ atO,aj c d 0 b=.inl atO->((decide ((i64.wrap (atO.1+a.2)) <n))=true->(cP atO.1 (i64.wrap (atO.1+a.2)) n atO.2)))))
def cT (n:Int)(b:List bo):List bo:=(match aj (bN n) (Int.toNat n+1) 0 (b,0,20)with| .inl a=>(match aj (ce n) (Int.toNat n+1) 0 ((aN a.1 n a.2),20)with| .inl c=>c| .inr d=>default) | .inr e=>default)
def cw (n:Int)(e:List bo):Prop:=letI b:=bN n;letI a:=Int.toNat n+1;letI d:=ce n;letI c:=(e,0,20);(okI b (dy n) a 0 c/\(∀ z_,aj b a 0 c≠ .inr z_)/\(∀ lx,aj b a 0 c=.inl lx->((bp lx.1 n lx.2)/\(okI d (cI n) a 0 ((aN lx.1 n lx.2),20)/\(∀ z_,aj d a 0 ((aN lx.1 n lx.2),20)≠ .inr z_)))))
noncomputable def kG:List SV->List Ob->Option atB:=jR (λx_:Int×(List bo) =>[.os 0,.i x_.1,.fn 284 [] []]) (λx_=>[.row .C1 x_.2]) (λx_=>fZ (cw x_.1 x_.2) (.tup []) [.row .C1 (cT x_.1 x_.2)])
@[go_sem]def BO (n:Int)(b:List bo):kG ([.os 0,.i n,.fn 284 [] []]) ([.row .C1 b])=some (fZ (cw n b) (.tup []) [.row .C1 (cT n b)]):=gb (A:=λa:Int×(List bo) =>[.os 0,.i a.1,.fn 284 [] []]) (H:=λa=>[.row .C1 a.2]) (K:=λa=>fZ (cw a.1 a.2) (.tup []) [.row .C1 (cT a.1 a.2)]) (x:=(n,b))
theorem qP:atA prog 317 (kG):=by
 have hG:=mG Q1 (co mU (co pz Q1));refine fR hG f317 (λl o con h=>?_);obtain⟨⟨n,l_⟩,rfl,rfl,rfl⟩:=ed h;clear h;try dsimp only
 refine⟨_,_,_,rfl,λhp=>?_⟩;unfold cw at hp;refine⟨nbl rfl,(XO 0 (LCV (ρ:=(Int×List bo)) (σ:=(List bo×Int×Int)) 1 [] [0] (λW1 W=>⟨[(0,.os 0),(1,.i n),(2,.fn 284 [] []),(6,.i 20),(7,.i W.2.1),(8,.i W.2.2)],[.row .C1 W.1]⟩) (bN n) (dy n) (Int.toNat n+1) (l_,0,20) (λ_=>.normal) (λO=>⟨[(0,.os 0),(1,.i n),(2,.fn 284 [] []),(6,.i 20),(7,.i O.1)],[.row .C1 O.2]⟩)) (XO 2 (LCV (ρ:=(List bo)) (σ:=(List bo×Int)) 1 [] [0] (λk_1 E=>⟨[(0,.os 0),(1,.i n),(2,.fn 284 [] []),(6,.i E.2)],[.row .C1 E.1]⟩) (ce n) (cI n) (Int.toNat n+1) ((aN (dY (aj (bN n) (Int.toNat n+1) 0 (l_,0,20))).1 n (dY (aj (bN n) (Int.toNat n+1) 0 (l_,0,20))).2),20) (λ_=>.normal) (λY=>⟨[],[.row .C1 Y]⟩)) L0)),?_,?_⟩;unfold aa f317;simp only[ak,true_and,and_true,and_assoc];refine⟨?_,?_⟩;refine dH aC hG (λ_=>rfl) λW1 W hq0=>⟨L0,ag _,?_⟩;unfold dy at hq0;exact cD (jl [0]);refine dH aC hG (λ_=>rfl) λk_1 E hq1=>⟨(XO 4 (LCV (ρ:=(Int×List bo)) (σ:=(List bo×Int×Int)) 1 [] [0] (λk_2 X=>⟨[(0,.os 0),(1,.i n),(2,.fn 284 [] []),(6,.i E.2),(7,.i X.2.1),(8,.i X.2.2)],[.row .C1 X.1]⟩) (c7 n E) (dz n E) (Int.toNat n+1) (E.1,0,(i64.wrap (2*E.2))) (λ_=>.normal) (λV=>⟨[(0,.os 0),(1,.i n),(2,.fn 284 [] []),(6,.i E.2),(7,.i V.1)],[.row .C1 V.2]⟩)) L0),?_,?_⟩;simp only[ak,true_and,and_true];refine dH aC hG (λ_=>rfl) λk_2 X hq2=>⟨L0,ag _,?_⟩;unfold dz at hq2;exact cD (jl [0]);unfold cI at hq1;exact cD (jl [0]);unfold aa f317;try unfold cT
 exact cD (jl [0])
def bV (a:List bo):List bo:=(cT (a.length:Int) a)
def bL (a:List bo):Prop:=(a.length<=aD->(cw (a.length:Int) a))
noncomputable def gL:List SV->List Ob->Option atB:=jR (λx_:(List bo) =>[.os 0,.fn 284 [] []]) (λx_=>[.row .C1 x_]) (λx_=>fZ (bL x_) (.tup []) [.row .C1 (bV x_)])
@[go_sem]def xz (b:List bo):gL ([.os 0,.fn 284 [] []]) ([.row .C1 b])=some (fZ (bL b) (.tup []) [.row .C1 (bV b)]):=gb (A:=λa:(List bo) =>[.os 0,.fn 284 [] []]) (H:=λa=>[.row .C1 a]) (K:=λa=>fZ (bL a) (.tup []) [.row .C1 (bV a)]) (x:=b)
theorem lD:atA prog 283 (gL):=by
 have hG:=mG Q1 (co qP Q1);refine fR hG f283 (λl o O h=>?_);obtain⟨V,rfl,rfl,rfl⟩:=ed h;clear h;try dsimp only
 refine⟨_,_,_,rfl,λE=>?_⟩;unfold bL at E;refine⟨nbl rfl,L0,?_,?_⟩;unfold aa f283;simp only[ak,and_self,true_and,and_true];unfold aa f283;try unfold bV
 exact cD (jl [0])
def rK (a:List bo):Unit:=()
noncomputable def jP:List SV->List Ob->Option atB:=jR (λx_:(List bo) =>[.os 0]) (λx_=>[.row .C1 x_]) (λx_=>fZ True (.fn 318 [] [.ptr 1 0]) [.row .C1 x_,.cells [.os 0]])
@[go_sem]def AY (b:List bo):jP ([.os 0]) ([.row .C1 b])=some (fZ True (.fn 318 [] [.ptr 1 0]) [.row .C1 b,.cells [.os 0]]):=gb (A:=λa:(List bo) =>[.os 0]) (H:=λa=>[.row .C1 a]) (K:=λa=>fZ True (.fn 318 [] [.ptr 1 0]) [.row .C1 a,.cells [.os 0]]) (x:=b)
theorem pA:atA prog 285 (jP):=by
 have hG:=mG Q1 Q1;refine fR hG f285 (λl o E h=>?_);obtain⟨V,rfl,rfl,rfl⟩:=ed h;clear h;try dsimp only
 refine⟨_,_,_,rfl,λO=>?_⟩;refine⟨nbl rfl,L0,?_,?_⟩;unfold aa f285;simp only[ak,and_self,true_and,and_true];unfold aa f285;try unfold rK
 exact cD (jl [0,1])
@[go_sem] def gc (a:List bo)(c:Int)(b:Nat)(d:List (Int×Bool)):Empty⊕(List (Int×Bool)):=(bif(((a.getD b default).kind==4)&&(decide ((a.getD b default).known<=c)))then .inr (cy .int .bool d ((a.getD b default).of_) true)else .inr d)
def eX (a:List bo)(c b:Int):List bo:=(match aj (gc a b) a.length 0 ([])with| .inl x=>x.elim| .inr d=>(bV (bD a b c d)))
def iX (a:List bo)(c b:Int):Prop:=(a.length<=aD->(∀ ee,aj (gc a b) a.length 0 ([])=.inr ee->((a.length*88<=dh)/\((bH a b c ee)/\(bL (bD a b c ee))))))
@[go_sem] def AZ:FI:=(pR .C1 λa=>(pI λb=>(pI λc=>(pE (.det (iX a b c) (.fn 318 [] [.ep [.rs .C1 (eX a b c)] 0]))))))
theorem awl(h:p:=by simp only[go_sem,vz,xp];all_goals exact cl):p:=h
theorem zS:P0 prog 230 AZ:=by
 have hG:=mG (cn [.sl .C1] zR Q1) (co nj (co lD (co pA Q1)));refine fN hG f230 [.o] (aZ λO=>(ax λhour=>(ax λknown=>(am (λW=>?_)))));dsimp only[an,iX]at W;refine⟨nbl rfl,(XO 0 (LCR (ρ:=Empty) (σ:=(List (Int×Bool))) 4 [] [0,1,2,3] (λV E=>⟨[(0,.rs .C1 O),(4,.ptr 0 0),(5,.ptr 1 0),(7,.ptr 3 0),(11,.rs .C1 O),(12,.i (O.length:Int)),(13,.i V)],[.cells [.i hour],.cells [.i known],.mp .int .bool E none,.cells [.os 2]]⟩) (gc O known) pT O.length ([]) (O.length<=aD) ((·.elim)) ((·.elim))) L0),?_,?_⟩;unfold aa f230;simp only[ak,true_and,and_true];refine bG aC hG (λ_=>rfl) (O.length:Int) eE (λhb0 V E X _ hw hc=>⟨L0,ag _,aW (jl [0,1,2,3])⟩) λhb0 E hc=>aV (jl [0,1,2,3]);unfold aa f230;try unfold eX
 exact awl
theorem Ik(a0:JL l0)(h:JL l0->p:=by intro ja;(first|done|(repeat' (first|with_reducible refine And.intro ?_ ?_|exact V0 |with_reducible intro _)) <;>(first|done|with_reducible exact Empty.elim ‹Empty› |with_reducible assumption|rfl|omega|assumption|decide|exact fk ja|(refine Or.inr ?_;exact fkY ja) |(refine Or.inl ?_;exact fkY ja) |(refine Or.inl ⟨rfl,?_⟩;exact fkY ja) |(simp only[*,cond_true,cond_false,aqE,aqN,go_sem];done) |(simp only[*,cond_true,cond_false,aqE,aqN,go_sem];(repeat' (first|with_reducible refine And.intro ?_ ?_|exact V0 |with_reducible intro _)) <;>(first|done|assumption|rfl|omega|decide|exact fk ja|(refine Or.inr ?_;exact fkY ja) |(refine Or.inl ?_;exact fkY ja) |(refine Or.inl ⟨rfl,?_⟩;exact fkY ja) |(simp_all [cB,dY];done))) |(exfalso;rename_i h1 h2;rw[h1]at h2;cases h2) |(exfalso;rename_i h1 h2;simp only[h1,aqN,aqE,Bool.true_or,Bool.or_true,ar4,aso,reduceCtorEq]at h2;done) |(exfalso;clear hy hG;simp_all;done) |(simp only[*,aqW,forall_eq',true_implies,forall_const,reduceCtorEq,false_implies,and_true,aqk,aqc,aqJ,aqu,go_sem]at hq2;first|exact hq2.1|exact hq2.2.1|exact hq2|exact hq2.2|(simp only[hq2];done)) |(simp only[*,aqW,forall_eq',true_implies,forall_const,reduceCtorEq,false_implies,and_true,aqk,aqc,aqJ,aqu,go_sem]at hq1;first|exact hq1.1|exact hq1.2.1|exact hq1|exact hq1.2|(simp only[hq1];done)) |(clear hy hG;simp_all only[cB,dY,aqW,forall_eq',true_implies,forall_const,reduceCtorEq,false_implies,and_true,aqk,aqc,aqJ,aqu,go_sem];done) |(simp_all [okI,cB,dY];done) |(simp_all [cB,dY];(first|done|exact fk2 ja)) |exact fk2 ja))):p:=h a0
theorem qQ(a0:JL l0)(h:JL l0->p:=by intro ja;simp only[go_sem,hc,hw];all_goals exact Ik ja):p:=h a0
theorem qR(a0:JL l0)(h:JL l0->p:=by intro ja;simp only[go_sem,hc];all_goals exact Ik ja):p:=h a0
@[go_sem] def Fj (x:bo):List SV:=[.agg (cellsOf .C1 x)]
@[go_sem] def di (a:List bo)(b:Nat)(c:List bo):Empty⊕(List bo):=.inr (c++[(a.getD b default)])
def dN (a:List bo)(b:List (List SV))(c:Nat)(d:List bo):Prop:=(b[d.length]? =some (Fj (a.getD c default)))
def a8 (a:List bo):List bo:=(match aj (di a) a.length 0 ([]:List bo)with| .inl x=>x.elim| .inr b=>b)
def dq (a:List bo)(b:List (List SV)):Prop:=letI c:=di a;(a.length<=aD->(okI c (dN a b) a.length 0 ([]:List bo)/\(∀ ee,aj c a.length 0 ([]:List bo)=.inr ee->(b.length=ee.length))))
theorem QU(a0:JL l0)(h:JL l0->p:=by intro ja;simp only[go_sem];all_goals exact Ik ja):p:=h a0
theorem oD (O:List bo)(E:List (List SV))(hp:dq O E):CK prog 318 (λy=>[y,.ep [.rs .C1 O] 0]) [] E:=by
 unfold dq at hp;refine D3 mixed aC (fn:=f318) (c:=aa f318) kr kr kr kr rfl (n:=0) rfl (G:=λY=>CL [] [] (FP E Y)) (λY hy=>?_) (λargs w=>by kernel_rfl);have hG:=mGY Q1 Q1 hy;refine⟨hG,nbl rfl,(XO 0 (LCY (ρ:=Empty) (σ:=(List bo)) 1 [] [0] (λW V=>⟨[(0,.os 0),(5,.rs .C1 O),(6,.i (O.length:Int)),(7,.i W)],[.ab (Y.1 (V.length+1))]⟩) (di O) (dN O E) O.length ([]:List bo) (O.length<=aD) ((·.elim)) ((·.elim)) ⟨[],[.ab (Y.1 0)]⟩) L0),?_,?_⟩;unfold aa f318;simp only[ak,true_and,and_true];refine vA aC hG (λ_=>rfl) (O.length:Int) eE (λhb0 W V aue X hw hc=>⟨L0,ag _,?_⟩) (λhb0 V hc=>?_);simp only[dN,hw,aqa]at X
 exact qQ (jl [0]);exact qR (jl [0]);unfold aa f318;exact QU (jl [0])
@[go_sem]def aoR {f:FuncId}:DI (.fn f [] [])=some [.fn f [] []]:=(rfl)
theorem uV {κ υ:Type}[DecidableEq κ](l:List (κ×υ))(x z:κ)(y:υ):i6 (v9 l x y) z=if z=x then some y else i6 l z:=by
 induction l with
 |nil=>simp[v9,i6]
 |cons a r O=>
  obtain⟨a,b⟩:=a;unfold v9;by_cases h:x=a
  subst h;simp only[if_pos];unfold i6;by_cases E:z=x <;>simp[E]
  rw[if_neg h];unfold i6;by_cases E:z=a
  subst E;rw[if_pos rfl,if_neg (λe=>h e.symm),if_pos rfl];rw[if_neg E,O,if_neg E]
def gz:List (Int×(Option Nat)):=(cy .int .fnc (cy .int .fnc (cy .int .fnc ([]) 1 (some 314)) 2 (some 315)) 3 (some 316))
@[go_sem] def Ee:FI:=(pE (.det True (.nm .int .fnc (gz))))
theorem CX:P0 prog 279 Ee:=by
 have hG:=mG Q1 Q1;refine fW hG f279 [] (am (λE=>?_));dsimp only[an]at E;refine⟨nbl rfl,L0,ag _,?_⟩;exact Ce @gz.eq_1
theorem xA (k:Int):aF .int .fnc gz k=bif k==1 then some 314 else bif k==2 then some 315 else bif k==3 then some 316 else none:=by
 by_cases h1:k=1
 subst h1;rfl;by_cases h2:k=2
 subst h2;rfl;by_cases E:k=3
 subst E;rfl;have O:(k==1)=false:=by simpa using h1
 have W:(k==2)=false:=by simpa using h2
 have V:(k==3)=false:=by simpa using E
 rw[O,W,V];simp only[gz,aF,cy,uV,if_neg h1,if_neg h2,if_neg E];rfl
def f7 (x:bo)(n:Int)(a:List (A1×Int)):List (A1×Int):=(cy .u0 .int a ({ right:=x.right,gl:=x.to}:A1) (i64.wrap ((aF .u0 .int a ({ right:=x.right,gl:=x.to}:A1))+n)))
noncomputable def tL:List SV->List Ob->Option atB:=jR (λx_:bo×Int×(List (A1×Int)) =>[.os 0,.agg (cellsOf .C1 x_.1),.i x_.2.1]) (λx_=>[.mp .u0 .int x_.2.2 none]) (λx_=>fZ True (.tup []) [.mp .u0 .int (f7 x_.1 x_.2.1 x_.2.2) none])
variable {p0_:Option (Nat×Option Tag.u0.T)}
@[go_sem] theorem Mi(x:bo)(n:Int)(m_:List (A1×Int))(avv:p0_=none):tL ([.os 0,.agg [.i x.no,.i x.kind,.i x.right,.i x.since,.i x.to,.rs .part x.parts,.i x.of_,.i x.at_,.i x.known],.i n]) ([.mp .u0 .int m_ p0_])=some (fZ True (.tup []) [.mp .u0 .int (f7 x n m_) none]):=by
 subst avv;exact gb (A:=λx_:bo×Int×(List (A1×Int)) =>[.os 0,.agg (cellsOf .C1 x_.1),.i x_.2.1]) (H:=λx_=>[.mp .u0 .int x_.2.2 none]) (K:=λx_=>fZ True (.tup []) [.mp .u0 .int (f7 x_.1 x_.2.1 x_.2.2) none]) (x:=(x,n,m_))
theorem zi:atA prog 314 (tL):=by
 have hG:=mG Q1 Q1;refine fR hG f314 (λl o E h=>?_);obtain⟨⟨x,n,O⟩,rfl,rfl,rfl⟩:=ed h;clear h;try dsimp only
 refine⟨_,_,_,rfl,λV=>?_⟩;refine⟨nbl rfl,L0,?_,?_⟩;unfold aa f314;simp only[ak,and_self,true_and,and_true];unfold aa f314;try unfold f7
 exact cD (jl [0])
@[go_sem] def cg (x:bo)(n:Int)(e:Nat)(a:List (A1×Int)×Int):Empty⊕(List (A1×Int)×Int):=letI b:=x.parts.getD e default;letI c:=({ right:=x.right,gl:=b.gl}:A1);letI d:=eF (b.share) n;.inr ((cy .u0 .int a.1 c (i64.wrap ((aF .u0 .int a.1 c)+d.1))),(i64.wrap (a.2 - d.1)))
@[go_sem] def lE (x:bo)(c:List (A1×Int)×Int)(d:Nat)(a:List (A1×Int)):Empty⊕(List (A1×Int)):=letI b:=({ right:=x.right,gl:=(((x.parts.take (Int.toNat c.2)).drop 0).getD d default).gl}:A1);.inr (cy .u0 .int a b (i64.wrap ((aF .u0 .int a b)+1)))
def dG (x:bo)(n:Int)(b:List (A1×Int)):List (A1×Int):=(match aj (cg x n) x.parts.length 0 (b,n)with| .inl x=>x.elim| .inr a=>(match aj (lE x a) (((x.parts.take (Int.toNat a.2)).drop 0).length) 0 a.1 with| .inl x=>x.elim| .inr c=>c))
def fJ (x:bo)(n:Int)(a:List (A1×Int)):Prop:=(x.parts.length<=aD->(∀ ee,aj (cg x n) x.parts.length 0 (a,n)=.inr ee->(0<=0/\0<=ee.2/\ee.2<=(x.parts.length:Int))))
noncomputable def rN:List SV->List Ob->Option atB:=jR (λx_:bo×Int×(List (A1×Int)) =>[.os 0,.agg (cellsOf .C1 x_.1),.i x_.2.1]) (λx_=>[.mp .u0 .int x_.2.2 none]) (λx_=>fZ (fJ x_.1 x_.2.1 x_.2.2) (.tup []) [.mp .u0 .int (dG x_.1 x_.2.1 x_.2.2) none])
@[go_sem] theorem KF(x:bo)(n:Int)(m_:List (A1×Int))(avv:p0_=none):rN ([.os 0,.agg [.i x.no,.i x.kind,.i x.right,.i x.since,.i x.to,.rs .part x.parts,.i x.of_,.i x.at_,.i x.known],.i n]) ([.mp .u0 .int m_ p0_])=some (fZ (fJ x n m_) (.tup []) [.mp .u0 .int (dG x n m_) none]):=by
 subst avv;exact gb (A:=λx_:bo×Int×(List (A1×Int)) =>[.os 0,.agg (cellsOf .C1 x_.1),.i x_.2.1]) (H:=λx_=>[.mp .u0 .int x_.2.2 none]) (K:=λx_=>fZ (fJ x_.1 x_.2.1 x_.2.2) (.tup []) [.mp .u0 .int (dG x_.1 x_.2.1 x_.2.2) none]) (x:=(x,n,m_))
theorem yg:atA prog 315 (rN):=by
 have hG:=mG (cp zP Q1) Q1;refine fR hG f315 (λl o con h=>?_);obtain⟨⟨x,n,O⟩,rfl,rfl,rfl⟩:=ed h;clear h;try dsimp only
 refine⟨_,_,_,rfl,λhp=>?_⟩;unfold fJ at hp;refine⟨nbl rfl,(XO 0 (LCR (ρ:=Empty) (σ:=(List (A1×Int)×Int)) 2 [] [0,1] (λW E=>⟨[(0,.os 0),(2,.i n),(4,.ptr 1 0),(6,.i E.2),(16,.rs .part x.parts),(17,.i (x.parts.length:Int)),(18,.i W)],[.mp .u0 .int E.1 none,.cells (cellsOf .C1 x)]⟩) (cg x n) pT x.parts.length (O,n) (x.parts.length<=aD) ((·.elim)) ((·.elim))) (XO 2 (LCR (ρ:=Empty) (σ:=(List (A1×Int))) 2 [] [0,1] (λX V=>⟨[(0,.os 0),(4,.ptr 1 0),(48,.rs .part ((x.parts.take (Int.toNat (cB (aj (cg x n) x.parts.length 0 (O,n))).2)).drop 0)),(49,.i (((x.parts.take (Int.toNat (cB (aj (cg x n) x.parts.length 0 (O,n))).2)).drop 0).length:Int)),(50,.i X)],[.mp .u0 .int V none,.cells (cellsOf .C1 x)]⟩) (lE x (cB (aj (cg x n) x.parts.length 0 (O,n)))) pT (((x.parts.take (Int.toNat (cB (aj (cg x n) x.parts.length 0 (O,n))).2)).drop 0).length) ((cB (aj (cg x n) x.parts.length 0 (O,n))).1) (((x.parts.take (Int.toNat (cB (aj (cg x n) x.parts.length 0 (O,n))).2)).drop 0).length<=aD) ((·.elim)) ((·.elim))) L0)),?_,?_⟩;unfold aa f315;simp only[ak,true_and,and_true,and_assoc];refine⟨?_,?_⟩;refine bG aC hG (λ_=>rfl) (x.parts.length:Int) eE (λhb0 W E aue _ hw hc=>⟨L0,ag _,aW (jl [0,1])⟩) λhb0 E hc=>aV (jl [0,1]);refine bG aC hG (λ_=>rfl) (((x.parts.take (Int.toNat (cB (aj (cg x n) x.parts.length 0 (O,n))).2)).drop 0).length:Int) eE (λhb1 X V Y _ hw hc=>⟨L0,ag _,aW (jl [0,1])⟩) λhb1 V hc=>aV (jl [0,1]);unfold aa f315;try unfold dG
 exact cD (jl [0])
def A0 (x:bo)(n:Int)(a:List (A1×Int)):Unit:=()
noncomputable def rO:List SV->List Ob->Option atB:=jR (λx_:bo×Int×(List (A1×Int)) =>[.os 0,.agg (cellsOf .C1 x_.1),.i x_.2.1]) (λx_=>[.mp .u0 .int x_.2.2 none]) (λx_=>fZ True (.tup []) [.mp .u0 .int x_.2.2 none])
@[go_sem] theorem KG(x:bo)(n:Int)(m_:List (A1×Int))(avv:p0_=none):rO ([.os 0,.agg [.i x.no,.i x.kind,.i x.right,.i x.since,.i x.to,.rs .part x.parts,.i x.of_,.i x.at_,.i x.known],.i n]) ([.mp .u0 .int m_ p0_])=some (fZ True (.tup []) [.mp .u0 .int m_ none]):=by
 subst avv;exact gb (A:=λx_:bo×Int×(List (A1×Int)) =>[.os 0,.agg (cellsOf .C1 x_.1),.i x_.2.1]) (H:=λx_=>[.mp .u0 .int x_.2.2 none]) (K:=λx_=>fZ True (.tup []) [.mp .u0 .int x_.2.2 none]) (x:=(x,n,m_))
theorem yh:atA prog 316 (rO):=by
 have hG:=mG Q1 Q1;refine fR hG f316 (λl o E h=>?_);obtain⟨⟨x,n,O⟩,rfl,rfl,rfl⟩:=ed h;clear h;try dsimp only
 refine⟨_,_,_,rfl,λV=>?_⟩;refine⟨nbl rfl,L0,?_,?_⟩;unfold aa f316;simp only[ak,and_self,true_and,and_true];unfold aa f316;try unfold A0
 exact cD (jl [0])
end Go.Sx
end
section
namespace Go.Proofs
open Go.Shelf Go.Sx
def Tryz.avp:Go.Shelf.Ren:=⟨λ|5=>72|8=>133|7=>132|19=>199|20=>200|10=>190|11=>191|12=>192|13=>193|14=>194|15=>195|16=>196|17=>197|18=>198|30=>259|31=>260|32=>261|33=>262|34=>263|35=>137|40=>306|n=>n,λ|23=>35|25=>3|3=>3|32=>229|22=>35|0=>0|44=>294|46=>296|4=>4|36=>288|35=>287|41=>267|5=>5|9=>9|53=>342|57=>60|63=>375|64=>376|n=>n,λ|n=>n⟩
theorem Tryz.av5:Go.Proofs.SlLaysM.n5 Tryz.prog Tryz.avp:=⟨kr,⟨Tryz.f72.name,by decide,kr⟩,⟨Tryz.f132.name,by decide,kr⟩,kr,⟨Tryz.f190.name,by decide,kr⟩,⟨Tryz.f191.name,by decide,kr⟩,⟨Tryz.f192.name,by decide,kr⟩,⟨Tryz.f193.name,by decide,kr⟩,⟨Tryz.f194.name,by decide,kr⟩,⟨Tryz.f195.name,by decide,kr⟩,⟨Tryz.f196.name,by decide,kr⟩,⟨Tryz.f197.name,by decide,kr⟩,⟨Tryz.f198.name,by decide,kr⟩,kr,kr,⟨Tryz.f259.name,by decide,kr⟩,kr,kr,⟨Tryz.f262.name,by decide,kr⟩,⟨Tryz.f263.name,by decide,kr⟩,⟨Tryz.f137.name,by decide,kr⟩,⟨Tryz.f306.name,by decide,kr⟩,kr,λ_=>kr,λ_=>kr,λ_=>kr,kr,λ_=>kr,λ_=>kr,λ_=>kr,kr,λ_=>kr,λ_=>kr,λ_=>kr,kr,λ_=>kr,λ_=>kr,λ_=>kr,kr,λ_=>kr,λ_=>kr,λ_=>kr,kr,λ_=>kr,λ_=>kr,λ_=>kr,kr,λ_=>kr,λ_=>kr,λ_=>kr,kr,λ_=>kr,λ_=>kr,λ_=>kr,kr,λ_=>kr,λ_=>kr,λ_=>kr,kr,λ_=>kr,λ_=>kr,λ_=>kr,kr,λ_=>kr,λ_=>kr,λ_=>kr,kr,λ_=>kr,λ_=>kr,λ_=>kr,kr,λ_=>kr,λ_=>kr,λ_=>kr,kr,λ_=>kr,λ_=>kr,λ_=>kr,kr,λ_=>kr,λ_=>kr,λ_=>kr,kr,λ_=>kr,λ_=>kr,λ_=>kr,kr,λ_=>kr,λ_=>kr,λ_=>kr,kr,λ_=>kr,λ_=>kr,λ_=>kr⟩
end Go.Proofs
end
