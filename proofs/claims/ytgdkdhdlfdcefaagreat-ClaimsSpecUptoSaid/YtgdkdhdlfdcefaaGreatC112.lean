/- Part of the proof that the law ClaimsSpec returns true and leaves its arguments as they were, for all arguments of bulk at most 1048576 (the Upto form). -/
import Derived.Test.YtgdkdhdlfdcefaaGreatC111
import Derived.Test.YtgdkdhdlfdcefaaGreatC108
import Derived.Test.YtgdkdhdlfdcefaaGreatC110
import Derived.Shelf.SortM.Plain
import Derived.Shelf.SortM.SortNone
import Derived.Ground.SlgmProg
import Derived.Shelf.SlGeneric
import Derived.Test.YtgdkdhdlfdcefaaGreatProg
import Derived.Shelf.SlSortCmp.NoneTotal
import Derived.Ground.SlsfProg
set_option linter.all false
set_option maxHeartbeats 4000000
set_option maxRecDepth 100000
section
namespace Go.Sx
open Go.Lib Go.Proofs Go.RowKit Go.Shelf Go.Sort
open Classical in
noncomputable def mu (k:Tag)(g:FuncId)(caps:List SV)(cf:k.T→k.T→Int):List SV→List Ob→Option HCon:=fun l h=>
 G0 k (fun l0=>if l=[.os 0,.fn g [] caps]then some (fu (apart cf l0) (.tup []) [.row k (srt cf l0)])else none) h
@[go_sem] theorem uv {k:Tag}{g:FuncId}{caps:List SV}{cf:k.T→k.T→Int}{l0:List k.T}:mu k g caps cf [.os 0,.fn g [] caps] [.row k l0]=some (fu (apart cf l0) (.tup []) [.row k (srt cf l0)]):=by
 simp[mu,G0]
section
variable {P:Program}{ρ:Ren}{k:Tag}
theorem Mj {w:World}{b:Nat}{cs:Array Value}{ty:TypeId}(hb:w.heap[b]? =some (.cells cs ty (0,0)))(D:Array Value)(o:Nat):(putRow id w b o D).heap[b]? =some (.cells (putCells id o D cs) ty (0,0)):=by
 unfold putRow mapBlock;simp only[Array.getElem?_modify,if_true,hb];rfl
theorem Fk {w:World}{b c:Nat}(hc:c≠b)(D:Array Value)(o:Nat):(putRow id w b o D).heap[c]? =w.heap[c]?:=by
 unfold putRow mapBlock;simp only[Array.getElem?_modify];rw[if_neg (fun e=>hc e.symm)]
theorem Dx {D cs:Array Value}{o t:Nat}(ht:t<D.size)(hs:o+t<cs.size):(putCells id o D cs)[o+t]? =D[t]?:=by
 unfold putCells;rw[Array.getElem?_mapIdx,Array.getElem?_eq_getElem hs];simp only[Option.map_some];rw[if_pos (by omega),Array.getElem?_eq_getElem ht];have:o+t - o=t:=by omega
 rw[this,getElem!_pos D t ht];rfl
theorem Fl {α:Type}[Inhabited α]{enc:α→List Value}{n:Nat}(hn:∀ x,(enc x).length=n){d:Array α}{i j:Nat}(hi:i<d.size)(hj:j<n):(flatK enc n d)[i*n+j]? =(enc d[i]!)[j]?:=by
 have hlt:i*n+j<d.size*n:=by
  have:=Nat.mul_le_mul_right n (show i+1≤d.size from hi);rw[Nat.succ_mul]at this;omega
 have h1:i*n+j< (flatK enc n d).size:=by rw[size_flatK];exact hlt
 rw[Array.getElem?_eq_getElem h1,←getElem!_pos (flatK enc n d) _ h1,get_flatK enc n d _ hlt];have hd:(i*n+j) / n=i:=by
  rw[Nat.mul_comm,Nat.mul_add_div (by omega),Nat.div_eq_of_lt hj];omega
 have hm:(i*n+j) % n=j:=by
  rw[Nat.mul_comm,Nat.mul_add_mod,Nat.mod_eq_of_lt hj]
 rw[hd,hm];have hj':j< (enc d[i]!).length:=by rw[hn];exact hj
 rw[List.getElem?_eq_getElem hj',getElem!_pos (enc d[i]!) j hj']
theorem sw_b {α:Type}[Inhabited α]{enc:α→List Value}{n b o m:Nat}{w:World}{cs:Array Value}{ty:TypeId}(hb:w.heap[b]? =some (.cells cs ty (0,0)))(d:Array α)(os:Array Obj):(sortWorldK enc n w b o m d os).heap[b]? =some (.cells (putCells id o (flatK enc n d) cs) ty (0,0)):=by
 have hlt:b<w.heap.size:=(Array.getElem?_eq_some_iff.1 hb).1;unfold sortWorldK grow;simp only;rw[Array.getElem?_append_left (by unfold putRowK putRow mapBlock Sort.ahead;simpa using hlt)];exact Mj (w:=Sort.ahead w m) hb _ _
theorem Qg {α:Type}[Inhabited α]{enc:α→List Value}{n b o m c:Nat}{w:World}(hc:c<w.heap.size)(hne:c≠b)(d:Array α)(os:Array Obj):(sortWorldK enc n w b o m d os).heap[c]? =w.heap[c]?:=by
 unfold sortWorldK grow;simp only;rw[Array.getElem?_append_left (by unfold putRowK putRow mapBlock Sort.ahead;simpa using hc)];exact Fk (w:=Sort.ahead w m) hne _ _
theorem Dy {α:Type}[Inhabited α]{enc:α→List Value}{n b o m:Nat}{w:World}(d:Array α)(os:Array Obj):w.heap.size≤(sortWorldK enc n w b o m d os).heap.size:=by
 unfold sortWorldK grow putRowK putRow mapBlock Sort.ahead;simp
theorem xU (L:SlLaysF0.n6 P ρ)(aE:∀ w,(isAgg (ρ.t 24)).run P w=.ok true w)(zE:∀ w,(Go.sizeOf (ρ.t 24)).run P w=.ok (aa k) w)(hk:xe k)(h0:0<aa k){g:FuncId}{caps:List SV}{C:List SV→Option Con}(hC:FnOk P g C){cf:k.T→k.T→Int}
  (hcf:∀ x y,C (.agg (cellsOf k x):: .agg (cellsOf k y)::caps)=some (.det True (.v (.int .i64 (cf x y))))) (hO:SWO (ltOf cf)) (hpf:∀ s∈caps,PF s) (hcf0:∃ x y,C (.agg (cellsOf k x):: .agg (cellsOf k y)::caps)=some (.det True (.v (.int .i64 (cf x y))))):FnOkO P (ρ.f 6) (mu k g caps cf):=by
 haveI:Inhabited k.T:=⟨c6 k⟩
 refine⟨fun l h c hc args w=>L.f6.enters rfl args w,fun l h c hc hp F own w vs hHp hvs=>?_⟩;unfold mu at hc;obtain⟨l0,hh,hK⟩:=EN hc;clear hc;subst hh;by_cases hl:l=[.os 0,.fn g [] caps]
 rotate_left
 ·rw[if_neg hl]at hK;cases hK
 rw[if_pos hl]at hK;subst hl;cases hK;have hp:apart cf l0:=hp;obtain⟨hsz,hrel⟩:=hvs;have r0:=hrel 0 _ rfl;have r1:=hrel 1 _ rfl;have hvs2:vs= #[vs.getD 0 undef,vs.getD 1 undef]:=by
  apply Array.ext
  ·simpa using hsz
  ·intro i h1 h2;simp only[List.length_cons,List.length_nil]at hsz;match i,h1,h2 with
   |0,h1,_=>simp[Array.getD,h1]
   |1,h1,_=>simp[Array.getD,h1]
   |i+2,h1,_=>omega
 generalize vs.getD 0 undef=v0 at r0 hvs2;generalize vs.getD 1 undef=v1 at r1 hvs2;subst hvs2;obtain⟨hd,o0,rfl,_⟩:=fT r0;obtain⟨hd',o0',hrow⟩:=hHp.at (id:=0) (o:=.row k l0) rfl rfl;rw[o0]at o0';cases o0';have hrow:RowRel F own w k l0 hd.v hd.bs:=hrow;cases r1 with
 | @fn _ _ _ us cs s1 s2 c1 c2=>
 have hus:us= #[]:=Array.eq_empty_of_size_eq_zero (by simpa using s1);subst hus;rcases hrow with⟨a,e1,rfl,e2⟩ | ⟨b,o,cap,cells,ty,e1,e2,e3,e4,e5,e6,e7⟩
 ·rw[e1];refine(AnyF.slices_SortFunc_none L a 0 _ w).mono fun e w' he=>?_;obtain⟨rfl,rfl⟩:=he;refine⟨(),own,trivial,⟨_,rfl,.tup rfl fun j s hj=>by simp at hj⟩,?_,Fr.refl _,Nat.le_refl _⟩;have:srt cf ([]:List k.T)=[]:=by simp[srt]
  rw[this];exact hHp
 ·have hbown:b∈hd.bs:=by rw[e2];simp
  have hbw:b<w.heap.size:=hHp.lt 0 hd b o0 hbown;have hkl:∀ x:k.T,(nR k x).length=aa k:=fun x=>by unfold nR;rw[List.length_map,a8]
  have hone:∀ x:k.T,∀ v∈nR k x,v.oneCell'=true:=fun x v hv=>by
   unfold nR at hv;rw[List.mem_map]at hv;obtain⟨s,hs,rfl⟩:=hv;obtain⟨v,rfl,h1⟩:=hk x s hs;exact h1
  have eg:∀ args w,(callFunc g args).run P w=.ok (.enter g args) w:=fun args w=>by
   obtain⟨x,y,hxy⟩:=hcf0;exact hC.enter _ _ hxy args w
  have hown:∀ id h2,own id=some h2→id=0:=fun id h2 e=>by have:=hHp.dom id h2 e;simpa using this
  have hH:HoldsK (nR k) (aa k) w b o l0.toArray:=by
   intro t ht;rw[size_flatK]at ht;simp only[List.size_toArray]at ht;have hi:t / aa k<l0.length:=Nat.div_lt_of_lt_mul (by rw[Nat.mul_comm];exact ht);have hj:=Nat.mod_lt t h0;have ht':t=t / aa k*aa k+t % aa k:=(Nat.div_add_mod' t _).symm;have q1:=B_ hk e7 hi hj;have q2:=Fl (enc:=nR k) hkl (d:=l0.toArray) (i:=t / aa k) (j:=t % aa k) (by simpa using hi) hj;rw[←ht']at q2;rw[Nat.add_assoc,←ht']at q1;have hl0:l0.toArray[t / aa k]! =l0[t / aa k]:=by rw[getElem!_pos l0.toArray _ (by simpa using hi)];rfl
   rw[hl0]at q2;have hlt:t< (flatK (nR k) (aa k) l0.toArray).size:=by rw[size_flatK];simpa using ht
   constructor
   ·unfold World.cell?;rw[e3];dsimp only;rw[q1,←q2,Array.getElem?_eq_getElem hlt,getElem!_pos _ t hlt];rfl
   ·unfold World.frozen?;rw[e3];simp
  have hcmp:CmpLays P g cs (nR k) (aa k) cf b o l0.toArray.size w:=by
   intro m os dk hdk x y;generalize hW:sortWorldK (nR k) (aa k) w b o m dk os=W;have hcar:Carries F own w F own W:=⟨fun _ h2 e=>⟨h2,e,.refl _⟩,fun c hc hn=>⟨hn,by
    rw[←hW];exact Qg hc (fun e=>hn (.inr ⟨0,hd,o0,e▸hbown⟩)) _ _⟩⟩
   have henc:∀ z:k.T,Rel (fun _=>False) cw W (.agg (cellsOf k z)) (.agg (nR k z).toArray):=fun z=>by
    refine .agg (by simp[nR]) fun j s hj=>?_;obtain⟨v,rfl,_⟩:=hk z s (List.mem_of_getElem? hj);have:(nR k z).toArray.getD j undef=v:=by
     unfold nR;rw[Array.getD_eq_getD_getElem?,List.getElem?_toArray,List.getElem?_map,hj];rfl
    rw[this];exact .v v
   have hcall:=Fi (hC.calls _ _ (hcf x y) trivial (fun _=>False) W (#[.agg (nR k x).toArray,.agg (nR k y).toArray]++cs) (fun _ h=>h.elim) ⟨by simp[c1];omega,fun j s hj=>by
    match j,hj with
    |0,hj=>
     cases hj;rw[Array.getD_eq_getD_getElem?,Array.getElem?_append_left (by simp)];exact henc x
    |1,hj=>
     cases hj;rw[Array.getD_eq_getD_getElem?,Array.getElem?_append_left (by simp)];exact henc y
    |j+2,hj=>
     have hj:caps[j]? =some s:=hj;have:=((c2 j s hj).carry hcar).over (hpf s (List.mem_of_getElem? hj)) (F':=fun _=>False) (own':=cw) fun _ _ h=>by
      rcases h with h| ⟨_,_,h,_⟩
      ·exact h
      ·cases h
     have e:(#[Value.agg (nR k x).toArray,.agg (nR k y).toArray]++cs).getD (j+2) undef=cs.getD j undef:=by
      rw[Array.getD_eq_getD_getElem?,Array.getD_eq_getD_getElem?,Array.getElem?_append_right (by simp)];simp
     rw[e];exact this⟩)
   refine hcall.mono fun e w' hq=>?_;obtain⟨he,hdr⟩:=hq;rcases he with⟨s,u,own',hs,rfl,hh,hb⟩ | ⟨z,hz,_⟩
   ·simp only[dm]at hs;subst hs;have:=hh.val;simp only[sb]at this;rw[bX this];exact⟨rfl,O7 hb (hdr (by simp))⟩
   ·exact hz.elim
  have hall:=AnyQ.slices_SortFunc L (aa k) aE zE (nR k) hkl hone cf hO g cs b o cap l0.toArray w eg hcmp hH hbw (by unfold aU at e6;simp only[List.size_toArray];omega);rw[e1];refine hall.mono fun e w' he=>?_;obtain⟨rfl,d',n,os,hpm,hst,rfl⟩:=he;have hd':=Hb hO hp hpm hst;subst hd';have hlS:(srt cf l0).length=l0.length:=List.length_mergeSort _;generalize srt cf l0=lS at hlS;have hsb:=sw_b (enc:=nR k) (n:=aa k) (o:=o) (m:=n) e3 lS.toArray os;refine⟨(),own,trivial,⟨_,rfl,.tup rfl fun j s hj=>by simp at hj⟩,?_,?_,Nat.le_refl _⟩
  ·refine⟨hHp.dom,fun c hc=>Nat.lt_of_lt_of_le (hHp.foreign c hc) (Dy _ _),hHp.apart,hHp.inj,fun i h2 c e hc=>Nat.lt_of_lt_of_le (hHp.lt i h2 c e hc) (Dy _ _),fun i hi=>?_⟩;match i,hi with
   |0,_=>
    refine⟨hd,o0,?_⟩;show RowRel F own _ k lS hd.v hd.bs;refine .inr ⟨b,o,cap,_,ty,by rw[hlS];exact e1,e2,hsb,?_,by omega,by omega,Ca hk fun i j hi hj=>?_⟩
    ·unfold putCells;simpa using e4
    ·have hlt:i*aa k+j< (flatK (nR k) (aa k) lS.toArray).size:=by
      rw[size_flatK];have:=Nat.mul_le_mul_right (aa k) (show i+1≤lS.length from hi);rw[Nat.succ_mul]at this;simp only[List.size_toArray];omega
     have hle:o+(i*aa k+j) <cells.size:=by
      rw[size_flatK]at hlt;simp only[List.size_toArray]at hlt;have:=Nat.mul_le_mul_right (aa k) (show lS.length≤cap by omega);omega
     rw[Nat.add_assoc,Dx hlt hle,Fl hkl (by simpa using hi) hj];have:lS.toArray[i]! =lS[i]:=by rw[getElem!_pos lS.toArray _ (by simpa using hi)];rfl
     rw[this]
   |i+1,hi=>rw[k_ (by simp)]at hi;cases hi
  ·refine⟨fun _ h2 e=>⟨h2,e,.refl _⟩,(Fr.refl { w:=w,own:=own}).base,rfl,rfl,rfl,Dy _ _,fun c hc=>?_⟩;exact Qg hc.1 (fun e=>hc.2 ⟨0,hd,o0,e▸hbown⟩) _ _
end
def yn (l:List Int):List Int:=l.mergeSort fun x y=>decide (x≤y)
noncomputable def Dz:List SV→List Ob→Option HCon:=iz (fun x_:List Int=>[.os 0]) (fun x_=>[.row .int x_]) (fun x_=>fu True (.tup []) [.row .int (yn x_)])
@[go_sem] theorem UC (l_:List Int):Dz ([.os 0]) ([.row .int l_])=some (fu True (.tup []) [.row .int (yn l_)]):=fN (A:=fun x_:List Int=>[.os 0]) (H:=fun x_=>[.row .int x_]) (K:=fun x_=>fu True (.tup []) [.row .int (yn x_)]) (x:=l_)
section
variable {P:Program}{ρ:Ren}
theorem WA {enc:Int→Value}{w:World}{b:Nat}{cs:Array Value}{ty:TypeId}(hb:w.heap[b]? =some (.cells cs ty (0,0)))(D:Array Int)(o:Nat):(putRow enc w b o D).heap[b]? =some (.cells (putCells enc o D cs) ty (0,0)):=by
 unfold putRow mapBlock;simp only[Array.getElem?_modify,if_true,hb];rfl
theorem So {enc:Int→Value}{w:World}{b c:Nat}(hc:c≠b)(D:Array Int)(o:Nat):(putRow enc w b o D).heap[c]? =w.heap[c]?:=by
 unfold putRow mapBlock;simp only[Array.getElem?_modify];rw[if_neg (fun e=>hc e.symm)]
theorem Mk {enc:Int→Value}{D:Array Int}{cs:Array Value}{o t:Nat}(ht:t<D.size)(hs:o+t<cs.size):(putCells enc o D cs)[o+t]? =some (enc D[t]):=by
 unfold putCells;rw[Array.getElem?_mapIdx,Array.getElem?_eq_getElem hs];simp only[Option.map_some];rw[if_pos (by omega)];have:o+t - o=t:=by omega
 rw[this,getElem!_pos D t ht]
theorem gp_b {enc:Int→Value}{b o m:Nat}{w:World}{cs:Array Value}{ty:TypeId}(hb:w.heap[b]? =some (.cells cs ty (0,0)))(d:Array Int)(os:Array Obj):(grow (putRow enc (Sort.ahead w m) b o d) os).heap[b]? =some (.cells (putCells enc o d cs) ty (0,0)):=by
 have hlt:b<w.heap.size:=(Array.getElem?_eq_some_iff.1 hb).1;unfold grow;simp only;rw[Array.getElem?_append_left (by unfold putRow mapBlock Sort.ahead;simpa using hlt)];exact WA (w:=Sort.ahead w m) hb _ _
theorem WB {enc:Int→Value}{b o m c:Nat}{w:World}(hc:c<w.heap.size)(hne:c≠b)(d:Array Int)(os:Array Obj):(grow (putRow enc (Sort.ahead w m) b o d) os).heap[c]? =w.heap[c]?:=by
 unfold grow;simp only;rw[Array.getElem?_append_left (by unfold putRow mapBlock Sort.ahead;simpa using hc)];exact So (w:=Sort.ahead w m) hne _ _
theorem DA {enc:Int→Value}{b o m:Nat}{w:World}(d:Array Int)(os:Array Obj):w.heap.size≤(grow (putRow enc (Sort.ahead w m) b o d) os).heap.size:=by
 unfold grow putRow mapBlock Sort.ahead;simp
theorem Cc:xe .int:=by
 intro x s hs;have:s=.v (.int .i64 x):=by simpa[cellsOf]using hs
 exact⟨_,this,rfl⟩
theorem He (L:SlLaysM.n5 P ρ):FnOkO P (ρ.f 5) Dz:=by
 refine⟨fun l h c hc args w=>L.f5.enters rfl args w,fun l h c hc hp F own w vs hHp hvs=>?_⟩;obtain⟨l0,rfl,rfl,rfl⟩:=dY hc;clear hc;obtain⟨hsz,hrel⟩:=hvs;have r0:=hrel 0 _ rfl;have hvs2:vs= #[vs.getD 0 undef]:=by
  apply Array.ext
  ·simpa using hsz
  ·intro i h1 h2;simp only[List.length_cons,List.length_nil]at hsz;match i,h1,h2 with
   |0,h1,_=>simp[Array.getD,h1]
   |i+1,h1,_=>omega
 generalize vs.getD 0 undef=v0 at r0 hvs2;subst hvs2;obtain⟨hd,o0,rfl,_⟩:=fT r0;obtain⟨hd',o0',hrow⟩:=hHp.at (id:=0) (o:=.row .int l0) rfl rfl;rw[o0]at o0';cases o0';have hrow:RowRel F own w .int l0 hd.v hd.bs:=hrow;rcases hrow with⟨a,e1,rfl,e2⟩ | ⟨b,o,cap,cells,ty,e1,e2,e3,e4,e5,e6,e7⟩
 ·rw[e1];refine(AnyM.slices_Sort_int_none L a 0 w).mono fun e w' he=>?_;obtain⟨rfl,rfl⟩:=he;refine⟨(),own,trivial,⟨_,rfl,.tup rfl fun j s hj=>by simp at hj⟩,?_,Fr.refl _,Nat.le_refl _⟩;have:yn ([]:List Int)=[]:=by simp[yn]
  show Hp F own w' [.row .int (yn [])];rw[this];exact hHp
 ·have hbown:b∈hd.bs:=by rw[e2];simp
  have hbw:b<w.heap.size:=hHp.lt 0 hd b o0 hbown;have hH:Holds (Value.int .i64) w b o (l0:List Int).toArray:=by
   intro t ht;simp only[List.size_toArray]at ht;have q1:=B_ Cc e7 (i:=t) (j:=0) ht (by decide);have e0:aa .int=1:=rfl;rw[e0,Nat.mul_one,Nat.add_zero]at q1;constructor
   ·unfold World.cell?;rw[e3];dsimp only;rw[q1,getElem!_pos _ t (by simpa using ht)];rfl
   ·unfold World.frozen?;rw[e3];simp
  have hlen:l0.length<4611686018427387904:=by unfold aU at e6;omega
  have hall:=AnyM.slices_Sort_int L b o cap l0 w hH hbw hlen;rw[e1];refine hall.mono fun e w' he=>?_;obtain⟨rfl,n,os,rfl⟩:=he;have hlS:(yn l0).length=l0.length:=List.length_mergeSort _;show ∃ r own',_∧Gv F w own 1 (.returned (.tuple #[])) own' (grow (putRow (Value.int .i64) (Sort.ahead w n) b o (yn l0).toArray) os) (.ret (.tup []) [.row .int (yn l0)]);generalize yn l0=lS at hlS;have hsb:=gp_b (enc:=Value.int .i64) (o:=o) (m:=n) e3 lS.toArray os;refine⟨(),own,trivial,⟨_,rfl,.tup rfl fun j s hj=>by simp at hj⟩,?_,?_,Nat.le_refl _⟩
  ·refine⟨hHp.dom,fun c hc=>Nat.lt_of_lt_of_le (hHp.foreign c hc) (DA _ _),hHp.apart,hHp.inj,fun i h2 c e hc=>Nat.lt_of_lt_of_le (hHp.lt i h2 c e hc) (DA _ _),fun i hi=>?_⟩;match i,hi with
   |0,_=>
    refine⟨hd,o0,?_⟩;show RowRel F own _ .int lS hd.v hd.bs;have hc1:aa .int=1:=rfl;refine .inr ⟨b,o,cap,_,ty,by rw[hlS];exact e1,e2,hsb,?_,by omega,by omega,Ca Cc fun i j hi hj=>?_⟩
    ·unfold putCells;simpa using e4
    ·rw[hc1]at hj ⊢;have hj0:j=0:=by omega
     subst hj0;rw[Nat.mul_one,Nat.add_zero,Mk (by simpa using hi) (by have h9:aa .int=1:=rfl;simp only[h9,Nat.mul_one]at e4 e5;omega)];simp[nR,cellsOf,Qf]
   |i+1,hi=>rw[k_ (by simp)]at hi;cases hi
  ·refine⟨fun _ h2 e=>⟨h2,e,.refl _⟩,(Fr.refl { w:=w,own:=own}).base,rfl,rfl,rfl,DA _ _,fun c hc=>?_⟩;exact WB hc.1 (fun e=>hc.2 ⟨0,hd,o0,e▸hbown⟩) _ _
end
end Go.Sx
end
section
namespace Go.Sx
open Go.RowKit
section
variable {P:Program}{ts:Tis}{G:Cons}{N:Nat}
theorem Hf (hm:P.follows .mixedOrders=true)(hts:ts.ok P)(hG:ConsOk P G){id:Nat}{g:Operand}{ps:Array Tmp}{assign body:Code}{C:St→Option LCon}
  (hpn:ps.toList.Nodup) (hpN:∀ p∈ps.toList,p<N) (hca:cq N assign=true) (hcb:cq N body=true)
  (h:∀ st0 lc,C st0=some lc→lc.pre→∃ st,NilS st0 st∧∃ (f:FuncId) (caps:List SV) (τ ρ σ:Type) (l:List τ) (mk:τ→List SV) (step:τ→σ→ρ⊕σ) (p:τ→σ→Prop) (pre:Prop) (s0:σ) (exE:ρ→Ex) (outE:ρ→St) (outN:σ→St) (T:List (Nat×SV)) (H:σ→List Ob) (Hy:ρ→List Ob) (js:List Nat),
   raw st.t g=.fn f [] caps∧lc=LC pre (eu step l s0) exE outE outN∧okL step p l s0∧st.h.length≤(H s0).length∧Sub js st.h.length ⟨st.t,sg (kx st caps) st.h⟩ ⟨T,H s0⟩∧
   Db P f (fun y=>y::caps.map (ren (GW (kx st caps)) 3)) (EJ (kx st caps) st.h) (l.map mk)∧
   (∀ x s,p x s→(mk x).length=ps.size∧∃ L,(∀ l,al P (some l) N L assign)∧(∀ l,al P (some l) N L body)∧exec ts G L assign ⟨psT ps.toList (mk x)++T,H s⟩ (fun e st1=>e=.normal∧exec ts G L body st1 (rgQ step exE T H Hy st.h.length id x s)))∧
   (∀ s,g5 (outN s) st.h.length ⟨T,H s⟩)∧∀ y,g5 (outE y) st.h.length ⟨T,Hy y⟩):jH P none N id (.rangeFunc g ps assign body) C:=by
 intro nd F w0 st0 lc hC hpre own a w hr;obtain⟨st,hN,hrest⟩:=h st0 lc hC hpre;obtain⟨own',hr'⟩:=hN.rel hr;refine wS hm hts hG hpn hpN hca hcb (C:=fun s=>@ite _ (s=st) (Classical.propDecidable _) (some lc) none) (fun s l e _=>?_) nd F w0 st lc (if_pos rfl) hpre own' a w hr';split at e
 ·rename_i e1;subst e1;cases e;exact hrest
 ·cases e
end
end Go.Sx
end
section
namespace Go.Proofs
open Go.Shelf
def Tryz.sortI_ren:Go.Shelf.Ren:=⟨fun|5=>70|8=>78|7=>106|19=>117|20=>118|10=>139|11=>140|12=>141|13=>142|14=>143|15=>144|16=>145|17=>146|18=>147|30=>167|31=>151|32=>152|33=>168|34=>169|35=>79|40=>182|n=>n,fun|23=>62|25=>3|3=>3|32=>153|22=>62|0=>0|44=>191|46=>193|4=>4|36=>184|35=>183|41=>188|5=>5|9=>9|53=>219|57=>223|63=>236|64=>237|n=>n,fun|n=>n⟩
theorem Tryz.sortI:Go.Proofs.SlLaysM.n5 Tryz.prog Tryz.sortI_ren:= {
 mixed:=by kernel_rfl
 f5:=⟨Tryz.f70.name,by decide,Tryz.func70.trans (congrArg some (by kernel_rfl))⟩
 f7:=⟨Tryz.f106.name,by decide,Tryz.func106.trans (congrArg some (by kernel_rfl))⟩
 f8:=Tryz.func78.trans (congrArg some (by kernel_rfl))
 f10:=⟨Tryz.f139.name,by decide,Tryz.func139.trans (congrArg some (by kernel_rfl))⟩
 f11:=⟨Tryz.f140.name,by decide,Tryz.func140.trans (congrArg some (by kernel_rfl))⟩
 f12:=⟨Tryz.f141.name,by decide,Tryz.func141.trans (congrArg some (by kernel_rfl))⟩
 f13:=⟨Tryz.f142.name,by decide,Tryz.func142.trans (congrArg some (by kernel_rfl))⟩
 f14:=⟨Tryz.f143.name,by decide,Tryz.func143.trans (congrArg some (by kernel_rfl))⟩
 f15:=⟨Tryz.f144.name,by decide,Tryz.func144.trans (congrArg some (by kernel_rfl))⟩
 f16:=⟨Tryz.f145.name,by decide,Tryz.func145.trans (congrArg some (by kernel_rfl))⟩
 f17:=⟨Tryz.f146.name,by decide,Tryz.func146.trans (congrArg some (by kernel_rfl))⟩
 f18:=⟨Tryz.f147.name,by decide,Tryz.func147.trans (congrArg some (by kernel_rfl))⟩
 f19:=Tryz.func117.trans (congrArg some (by kernel_rfl))
 f20:=Tryz.func118.trans (congrArg some (by kernel_rfl))
 f30:=⟨Tryz.f167.name,by decide,Tryz.func167.trans (congrArg some (by kernel_rfl))⟩
 f31:=Tryz.func151.trans (congrArg some (by kernel_rfl))
 f32:=Tryz.func152.trans (congrArg some (by kernel_rfl))
 f33:=⟨Tryz.f168.name,by decide,Tryz.func168.trans (congrArg some (by kernel_rfl))⟩
 f34:=⟨Tryz.f169.name,by decide,Tryz.func169.trans (congrArg some (by kernel_rfl))⟩
 f35:=⟨Tryz.f79.name,by decide,Tryz.func79.trans (congrArg some (by kernel_rfl))⟩
 f40:=⟨Tryz.f182.name,by decide,Tryz.func182.trans (congrArg some (by kernel_rfl))⟩
 t0:=Tryz.underlying0
 a0:=Tryz.isAgg0
 z0:=Tryz.sizeOf0
 v0:=Tryz.zeroValue0
 t3:=Tryz.underlying3
 a3:=Tryz.isAgg3
 z3:=Tryz.sizeOf3
 v3:=Tryz.zeroValue3
 t4:=Tryz.underlying4
 a4:=Tryz.isAgg4
 z4:=Tryz.sizeOf4
 v4:=Tryz.zeroValue4
 t5:=Tryz.underlying5
 a5:=Tryz.isAgg5
 z5:=Tryz.sizeOf5
 v5:=Tryz.zeroValue5
 t9:=Tryz.underlying9
 a9:=Tryz.isAgg9
 z9:=Tryz.sizeOf9
 v9:=Tryz.zeroValue9
 t22:=Tryz.underlying62
 a22:=Tryz.isAgg62
 z22:=Tryz.sizeOf62
 v22:=Tryz.zeroValue62
 t23:=Tryz.underlying62
 a23:=Tryz.isAgg62
 z23:=Tryz.sizeOf62
 v23:=Tryz.zeroValue62
 t25:=Tryz.underlying3
 a25:=Tryz.isAgg3
 z25:=Tryz.sizeOf3
 v25:=Tryz.zeroValue3
 t32:=Tryz.underlying153
 a32:=Tryz.isAgg153
 z32:=Tryz.sizeOf153
 v32:=Tryz.zeroValue153
 t35:=Tryz.underlying183
 a35:=Tryz.isAgg183
 z35:=Tryz.sizeOf183
 v35:=Tryz.zeroValue183
 t36:=Tryz.underlying184
 a36:=Tryz.isAgg184
 z36:=Tryz.sizeOf184
 v36:=Tryz.zeroValue184
 t41:=Tryz.underlying188
 a41:=Tryz.isAgg188
 z41:=Tryz.sizeOf188
 v41:=Tryz.zeroValue188
 t44:=Tryz.underlying191
 a44:=Tryz.isAgg191
 z44:=Tryz.sizeOf191
 v44:=Tryz.zeroValue191
 t46:=Tryz.underlying193
 a46:=Tryz.isAgg193
 z46:=Tryz.sizeOf193
 v46:=Tryz.zeroValue193
 t53:=Tryz.underlying219
 a53:=Tryz.isAgg219
 z53:=Tryz.sizeOf219
 v53:=Tryz.zeroValue219
 t57:=Tryz.underlying223
 a57:=Tryz.isAgg223
 z57:=Tryz.sizeOf223
 v57:=Tryz.zeroValue223
 t63:=Tryz.underlying236
 a63:=Tryz.isAgg236
 z63:=Tryz.sizeOf236
 v63:=Tryz.zeroValue236
 t64:=Tryz.underlying237
 a64:=Tryz.isAgg237
 z64:=Tryz.sizeOf237
 v64:=Tryz.zeroValue237}
end Go.Proofs
end
section
namespace Go.Sx
open Go.Proofs
theorem Pa:FnOkO Tryz.prog 70 Dz:=He Tryz.sortI
@[go_sem] def bV (d:District)(k_0:Nat)(s_0:List (RegisterTitle×Int)):Empty⊕(List (RegisterTitle×Int)):=(bif((d.rights.getD k_0 (default:Right)).kind==1)then .inr (fS .registerTitle .int s_0 ({ right:=(k_0:Int),farm:=(d.rights.getD k_0 (default:Right)).farm}:RegisterTitle) ((d.rights.getD k_0 (default:Right)).litres))else .inr s_0)
@[go_sem] def bW (ds:List Deed)(z_1:Deed)(s_1:List Int×List (RegisterTitle×Int)):Empty⊕(List Int×List (RegisterTitle×Int)):=(bif((b9 .registerTitle .int s_1.2 ({ right:=z_1.right,farm:=z_1.since}:RegisterTitle)) ==0)then .inr ((s_1.1++([z_1.no])),s_1.2)else(bif(z_1.kind==1)then .inr (s_1.1,(dB z_1 (b9 .registerTitle .int s_1.2 ({ right:=z_1.right,farm:=z_1.since}:RegisterTitle)) (mO .registerTitle .int s_1.2 ({ right:=z_1.right,farm:=z_1.since}:RegisterTitle))))else(bif(z_1.kind==2)then .inr (s_1.1,(co z_1 (b9 .registerTitle .int s_1.2 ({ right:=z_1.right,farm:=z_1.since}:RegisterTitle)) (mO .registerTitle .int s_1.2 ({ right:=z_1.right,farm:=z_1.since}:RegisterTitle))))else(bif(z_1.kind==3)then .inr (s_1.1,(mO .registerTitle .int s_1.2 ({ right:=z_1.right,farm:=z_1.since}:RegisterTitle)))else .inr default))))
def dC (ds:List Deed)(z_1:Deed)(s_1:List Int×List (RegisterTitle×Int)):Prop:=((((b9 .registerTitle .int s_1.2 ({ right:=z_1.right,farm:=z_1.since}:RegisterTitle)) ==0)=true→((s_1.1++([z_1.no])).length*8≤d5))∧(((b9 .registerTitle .int s_1.2 ({ right:=z_1.right,farm:=z_1.since}:RegisterTitle)) ==0)=false→((z_1.kind==1)=false→(((z_1.kind==2)=true→(dQ z_1 (b9 .registerTitle .int s_1.2 ({ right:=z_1.right,farm:=z_1.since}:RegisterTitle)) (mO .registerTitle .int s_1.2 ({ right:=z_1.right,farm:=z_1.since}:RegisterTitle))))∧((z_1.kind==2)=false→((z_1.kind==3)=false→False))))))
def dG (d:District)(ds:List Deed):List (RegisterTitle×Int)×List Int:=(match am (bV d) d.rights.length 0 ([])with| .inl x=>x.elim| .inr s_0=>(match eu (bW ds) (aF ds) ([],s_0)with| .inl x=>x.elim| .inr s_1=>(s_1.2,(yn s_1.1))))
def iK (d:District)(ds:List Deed):Prop:=(d.rights.length≤aU→(∀ s_0,am (bV d) d.rights.length 0 ([])=.inr s_0→((ca ds ((aF ds).map xO))∧okL (bW ds) (dC ds) (aF ds) ([],s_0))))
@[go_sem] noncomputable def pt:List SV→Option Con:=(pD .district fun d=>(pFn 108 (pXR .deed fun ds=>(pE ((pE (.det (iK d ds) (.tup [.nm .registerTitle .int ((dG d ds).1),.nw .int ((dG d ds).2)]))))))))
theorem WC {l0 l1:List Nat}(a0:JL l0)(a1:JL l1){p:Prop}(h:JL l0→JL l1→p:=by intro ja jb;simp only[go_sem,Nat.reduceBEq,Nat.reduceLeDiff,Nat.reduceLT,decide_true,Nat.reduceAdd,Nat.reduceSub,Nat.reduceMul,Int.reduceLE,Int.reduceLT,Int.reduceToNat,Int.reduceNeg,reduceCtorEq,qw,bW,psT,xO,List.cons_append,List.nil_append,hk0];all_goals exact ij ja jb):p:=h a0 a1
theorem WD {l0 l1:List Nat}(a0:JL l0)(a1:JL l1){p:Prop}(h:JL l0→JL l1→p:=by intro ja jb;simp only[go_sem,Nat.reduceBEq,Nat.reduceLeDiff,Nat.reduceLT,decide_true,Nat.reduceAdd,Nat.reduceSub,Nat.reduceMul,Int.reduceLE,Int.reduceLT,Int.reduceToNat,Int.reduceNeg,reduceCtorEq,qw,bW,psT,xO,List.cons_append,List.nil_append,hk0,hk1];all_goals exact ij ja jb):p:=h a0 a1
theorem Qh {l0 l1:List Nat}(a0:JL l0)(a1:JL l1){p:Prop}(h:JL l0→JL l1→p:=by intro ja jb;simp only[go_sem,Nat.reduceBEq,Nat.reduceLeDiff,Nat.reduceLT,decide_true,Nat.reduceAdd,Nat.reduceSub,Nat.reduceMul,Int.reduceLE,Int.reduceLT,Int.reduceToNat,Int.reduceNeg,reduceCtorEq,qw,bW,psT,xO,List.cons_append,List.nil_append,hk0,hk1,hk2];all_goals exact ij ja jb):p:=h a0 a1
theorem Qi {l0 l1:List Nat}(a0:JL l0)(a1:JL l1){p:Prop}(h:JL l0→JL l1→p:=by intro ja jb;simp only[go_sem,Nat.reduceBEq,Nat.reduceLeDiff,Nat.reduceLT,decide_true,Nat.reduceAdd,Nat.reduceSub,Nat.reduceMul,Int.reduceLE,Int.reduceLT,Int.reduceToNat,Int.reduceNeg,reduceCtorEq,qw];all_goals exact ij ja jb):p:=h a0 a1
theorem WE {p:Prop}(h:p:=by simp only[go_sem,Nat.reduceBEq,Nat.reduceLeDiff,Nat.reduceLT,decide_true,Nat.reduceAdd,Nat.reduceSub,Nat.reduceMul,Int.reduceLE,Int.reduceLT,Int.reduceToNat,Int.reduceNeg,reduceCtorEq,qw];all_goals exact cl):p:=h
theorem uW:FnOk Tryz.prog 40 pt:=by
 have hG:ConsOk Tryz.prog (mkG [(69,qu)] [(70,Dz),(103,ji),(104,iC),(105,iD)]):=ap (cgc v_ cg0) (cgc Pa (cgc rP (cgc re (cgc rf cg0))));refine iT [(.cell 5 62,.int)] mixed aj hG (fn:=Tryz.f40) (c:=ae Tryz.f40) kr kr kr kr (aI fun d=>(vM (OP fun ds=>(aw ((aw (fun hp=>?_)))))));dsimp only[av]at hp;unfold iK at hp;refine⟨nbl rfl,(fun id st=>bif Nat.beq id 0 then some (LCR (ρ:=Empty) (σ:=(List (RegisterTitle×Int))) 4 [] [0,1,2,3] (fun k_0 s_0=>⟨[(1,.fn 108 [] [.ep [.rs .deed ds] 0]),(4,.ptr 1 0),(5,.ptr 2 0),(14,.rs .right d.rights),(15,.v (.int .i64 (d.rights.length:Int))),(16,.v (.int .i64 (k_0:Int)))],[.dead,.cells [.os 3],.cells [.v (.slice none 0 0)],.mp .registerTitle .int s_0 none]⟩) (bV d) pT d.rights.length ([]) (d.rights.length≤aU) ((·.elim)) ((·.elim)) st)else bif Nat.beq id 2 then some (LC (ρ:=Empty) (σ:=List Int×List (RegisterTitle×Int)) (lk 4 st.t=.ptr 1 0∧lk 5 st.t=.ptr 2 0∧lk 8 st.t=.ptr 5 0∧lk 33 st.t=.fn 108 [] [.ep [.rs .deed ds] 0]∧st.h=[.dead,.cells [.os 3],.cells [.v (.slice none 0 0)],.mp .registerTitle .int (dy (am (bV d) d.rights.length 0 ([]))) none,.mp .int .fnc eC none,.cells [.os 4]]∧ca ds ((aF ds).map xO)∧okL (bW ds) (dC ds) (aF ds) ([],(dy (am (bV d) d.rights.length 0 ([]))))) (eu (bW ds) (aF ds) ([],(dy (am (bV d) d.rights.length 0 ([]))))) (fun x=>x.elim) (fun x=>x.elim) (fun s_1=>⟨[(4,.ptr 1 0),(5,.ptr 2 0),(8,.ptr 5 0)],[.dead,.cells [.os 3],.cells [.os 7],.mp .registerTitle .int s_1.2 none,.mp .int .fnc eC none,.cells [.os 4],.dead,.row .int s_1.1]⟩))else none),?_,?_⟩
 ·unfold ae Tryz.f40;simp only[al,true_and,and_true];refine⟨?_,?_⟩
  ·refine dp mixed aj hG kr (fun _=>rfl) (d.rights.length:Int) rfl fK (fun hb0 k_0 s_0 hlt0 _ hw hc=>⟨L0,ag _,?_⟩) (fun hb0 s_0 hc=>?_)
   ·exact bF (jl [0,1,2,3])
   ·exact bG (jl [0,1,2,3])
  ·refine Hf mixed aj hG (by decide) (by decide) kr kr fun st lc hC hp=>?_;simp only[go_sem,Nat.reduceBEq,Option.some.injEq]at hC;subst hC;obtain⟨t,h⟩:=st;dsimp only[LC]at hp;obtain⟨e1_0,e1_1,e1_2,e1_3,rfl,hb1,hok1⟩:=hp;refine⟨⟨t,[.dead,.cells [.os 3],.cells [.os 6],.mp .registerTitle .int (dy (am (bV d) d.rights.length 0 ([]))) none,.mp .int .fnc eC none,.cells [.os 4],.row .int ([])]⟩,NilS.cell (h:=[.dead,.cells [.os 3],.cells [.v (.slice none 0 0)],.mp .registerTitle .int (dy (am (bV d) d.rights.length 0 ([]))) none,.mp .int .fnc eC none,.cells [.os 4]]) (i:=2) (j:=0) (.row .int ([])) (NilS.refl _) rfl rfl (.inl ⟨_,rfl⟩),108,[.ep [.rs .deed ds] 0],Deed,_,_,(aF ds),xO,(bW ds),(dC ds),_,([],(dy (am (bV d) d.rights.length 0 ([])))),_,_,_,[(4,.ptr 1 0),(5,.ptr 2 0),(8,.ptr 5 0)],(fun s_1=>[.dead,.cells [.os 3],.cells [.os 7],.mp .registerTitle .int s_1.2 none,.mp .int .fnc eC none,.cells [.os 4],.dead,.row .int s_1.1]),(fun x=>x.elim),[0,1,2,3,4,5,6,6],?_,rfl,hok1,nbl rfl,?_,jL ds _ hb1,fun z_1 s_1 hq1=>⟨rfl,L0,fun l=>?_,fun l=>?_,?_⟩,fun s_1=>?_,fun y=>?_⟩
   ·simp only[go_sem,e1_0,e1_1,e1_2,e1_3]
   ·simp only[go_sem,Nat.reduceBEq,Nat.reduceLeDiff,Nat.reduceLT,decide_true,Nat.reduceAdd,Nat.reduceSub,Nat.reduceMul,Int.reduceLE,Int.reduceLT,Int.reduceToNat,Int.reduceNeg,reduceCtorEq,sg,kx,List.flatMap_cons,List.flatMap_nil,List.nil_append,List.append_nil,List.map_nil,e1_0,e1_1,e1_2,e1_3];all_goals (first|done|decide|(repeat' (first|refine And.intro ?_ ?_|rfl|decide)))
   ·simp only[al,and_self,true_and,and_true]
   ·simp only[al,and_self,true_and,and_true]
   ·unfold dC at hq1;rcases Bool.eq_false_or_eq_true (z_1.kind==1)with hk0|hk0
    ·exact WC (jl [0,1,2,3,4,5,6,11]) (jl [0,1,2,3,4,5,6,7])
    rcases Bool.eq_false_or_eq_true (z_1.kind==2)with hk1|hk1
    ·exact WD (jl [0,1,2,3,4,5,6,11]) (jl [0,1,2,3,4,5,6,7])
    rcases Bool.eq_false_or_eq_true (z_1.kind==3)with hk2|hk2
    ·exact Qh (jl [0,1,2,3,4,5,6,11]) (jl [0,1,2,3,4,5,6,7])
    exact Qh (jl [0,1,2,3,4,5,6,11]) (jl [0,1,2,3,4,5,6,7])
   ·exact Qi (jl [0,1,2,3,4,5,6,11]) (jl [0,1,2,3,4,5,6,7])
   ·exact Qi (jl [0,1,2,3,4,5,6,11]) (jl [0,1,2,3,4,5,6,7])
 ·unfold ae Tryz.f40;try unfold dG
  exact WE
end Go.Sx
end
section
namespace Go.Proofs
open Go.Shelf
def Tryz.sortLh_ren:Go.Shelf.Ren:=⟨fun|6=>42|15=>78|14=>77|28=>117|29=>118|20=>109|21=>110|22=>111|23=>112|24=>113|25=>114|26=>115|27=>116|46=>150|47=>151|48=>152|49=>153|50=>154|57=>171|n=>n,fun|22=>54|24=>58|25=>103|3=>3|39=>153|0=>0|53=>191|55=>193|4=>4|46=>184|45=>183|50=>188|5=>5|9=>9|66=>219|70=>223|76=>236|77=>237|n=>n,fun|n=>n⟩
theorem Tryz.sortLh:Go.Proofs.SlLaysF0.n6 Tryz.prog Tryz.sortLh_ren:= {
 mixed:=by kernel_rfl
 f6:=⟨Tryz.f42.name,by decide,Tryz.func42.trans (congrArg some (by kernel_rfl))⟩
 f14:=⟨Tryz.f77.name,by decide,Tryz.func77.trans (congrArg some (by kernel_rfl))⟩
 f15:=Tryz.func78.trans (congrArg some (by kernel_rfl))
 f20:=⟨Tryz.f109.name,by decide,Tryz.func109.trans (congrArg some (by kernel_rfl))⟩
 f21:=⟨Tryz.f110.name,by decide,Tryz.func110.trans (congrArg some (by kernel_rfl))⟩
 f22:=⟨Tryz.f111.name,by decide,Tryz.func111.trans (congrArg some (by kernel_rfl))⟩
 f23:=⟨Tryz.f112.name,by decide,Tryz.func112.trans (congrArg some (by kernel_rfl))⟩
 f24:=⟨Tryz.f113.name,by decide,Tryz.func113.trans (congrArg some (by kernel_rfl))⟩
 f25:=⟨Tryz.f114.name,by decide,Tryz.func114.trans (congrArg some (by kernel_rfl))⟩
 f26:=⟨Tryz.f115.name,by decide,Tryz.func115.trans (congrArg some (by kernel_rfl))⟩
 f27:=⟨Tryz.f116.name,by decide,Tryz.func116.trans (congrArg some (by kernel_rfl))⟩
 f28:=Tryz.func117.trans (congrArg some (by kernel_rfl))
 f29:=Tryz.func118.trans (congrArg some (by kernel_rfl))
 f46:=⟨Tryz.f150.name,by decide,Tryz.func150.trans (congrArg some (by kernel_rfl))⟩
 f47:=Tryz.func151.trans (congrArg some (by kernel_rfl))
 f48:=Tryz.func152.trans (congrArg some (by kernel_rfl))
 f49:=⟨Tryz.f153.name,by decide,Tryz.func153.trans (congrArg some (by kernel_rfl))⟩
 f50:=⟨Tryz.f154.name,by decide,Tryz.func154.trans (congrArg some (by kernel_rfl))⟩
 f57:=⟨Tryz.f171.name,by decide,Tryz.func171.trans (congrArg some (by kernel_rfl))⟩
 t0:=Tryz.underlying0
 a0:=Tryz.isAgg0
 z0:=Tryz.sizeOf0
 v0:=Tryz.zeroValue0
 t3:=Tryz.underlying3
 a3:=Tryz.isAgg3
 z3:=Tryz.sizeOf3
 v3:=Tryz.zeroValue3
 t4:=Tryz.underlying4
 a4:=Tryz.isAgg4
 z4:=Tryz.sizeOf4
 v4:=Tryz.zeroValue4
 t5:=Tryz.underlying5
 a5:=Tryz.isAgg5
 z5:=Tryz.sizeOf5
 v5:=Tryz.zeroValue5
 t9:=Tryz.underlying9
 a9:=Tryz.isAgg9
 z9:=Tryz.sizeOf9
 v9:=Tryz.zeroValue9
 t22:=Tryz.underlying54
 a22:=Tryz.isAgg54
 z22:=Tryz.sizeOf54
 v22:=Tryz.zeroValue54
 t25:=Tryz.underlying103
 a25:=Tryz.isAgg103
 z25:=Tryz.sizeOf103
 v25:=Tryz.zeroValue103
 t39:=Tryz.underlying153
 a39:=Tryz.isAgg153
 z39:=Tryz.sizeOf153
 v39:=Tryz.zeroValue153
 t45:=Tryz.underlying183
 a45:=Tryz.isAgg183
 z45:=Tryz.sizeOf183
 v45:=Tryz.zeroValue183
 t46:=Tryz.underlying184
 a46:=Tryz.isAgg184
 z46:=Tryz.sizeOf184
 v46:=Tryz.zeroValue184
 t50:=Tryz.underlying188
 a50:=Tryz.isAgg188
 z50:=Tryz.sizeOf188
 v50:=Tryz.zeroValue188
 t53:=Tryz.underlying191
 a53:=Tryz.isAgg191
 z53:=Tryz.sizeOf191
 v53:=Tryz.zeroValue191
 t55:=Tryz.underlying193
 a55:=Tryz.isAgg193
 z55:=Tryz.sizeOf193
 v55:=Tryz.zeroValue193
 t66:=Tryz.underlying219
 a66:=Tryz.isAgg219
 z66:=Tryz.sizeOf219
 v66:=Tryz.zeroValue219
 t70:=Tryz.underlying223
 a70:=Tryz.isAgg223
 z70:=Tryz.sizeOf223
 v70:=Tryz.zeroValue223
 t76:=Tryz.underlying236
 a76:=Tryz.isAgg236
 z76:=Tryz.sizeOf236
 v76:=Tryz.zeroValue236
 t77:=Tryz.underlying237
 a77:=Tryz.isAgg237
 z77:=Tryz.sizeOf237
 v77:=Tryz.zeroValue237}
end Go.Proofs
end
section
namespace Go.Sx
open Go.Lib Go.Proofs Go.RowKit Go.Shelf Go.Sort
noncomputable def sR:List SV→List Ob→Option HCon:=mu .holding 43 [] bU
@[go_sem] theorem Ml {l0:List Holding}:sR [.os 0,.fn 43 [] []] [.row .holding l0]=some (fu (apart bU l0) (.tup []) [.row .holding (srt bU l0)]):=uv
theorem Bk:xe .holding:=fun x s hs=>by
 simp only[cellsOf,List.mem_cons,List.not_mem_nil,or_false]at hs;rcases hs with rfl|rfl|rfl|rfl;all_goals exact⟨_,rfl,rfl⟩
theorem xV (x y:Holding):rH (.agg (cellsOf .holding x):: .agg (cellsOf .holding y)::[])=some (.det True (.v (.int .i64 (bU x y)))):=by
 simp only[go_sem,Nat.reduceBEq]
theorem DB:FnOkO Tryz.prog 42 sR:=
 xU (k:=.holding) Tryz.sortLh (fun w=>by kernel_rfl) (fun w=>by kernel_rfl) Bk (by decide) (g:=43) (caps:=[]) w8 (cf:=bU) xV xN (fun s hs=>by cases hs) ⟨default,default,xV _ _⟩
end Go.Sx
end
section
namespace Go.Sx
open Go.Proofs
open IntKind (i64)
theorem clQ {p:Prop}(h:p:=by((repeat' (first|with_reducible refine And.intro ?_ ?_|with_reducible intro _)) <;>(first|done|with_reducible exact Empty.elim ‹Empty› |with_reducible assumption|rfl|((try simp only[Dn,L3]at *);first|with_reducible assumption|(simp_all only[dy,ev];done) |grind|(simp_all only[dy,ev];grind))))):p:=h
@[go_sem] def da (a0:District)(a1:List Deed)(a2:Int)(a3:Int)(k_0:RegisterTitle×Int)(s_0:List Holding):Empty⊕(List Holding):=(bif(decide (k_0.2 > 0))then .inr (s_0++([({ right:=k_0.1.right,farm:=k_0.1.farm,litres:=k_0.2,rank:=(a0.rights.getD (Int.toNat k_0.1.right) (default:Right)).rank}:Holding)]))else .inr s_0)
def jA (a0:District)(a1:List Deed)(a2:Int)(a3:Int)(k_0:RegisterTitle×Int)(s_0:List Holding):Prop:=((decide (k_0.2 > 0))=true→((0≤k_0.1.right∧k_0.1.right< (a0.rights.length:Int))∧((s_0++([({ right:=k_0.1.right,farm:=k_0.1.farm,litres:=k_0.2,rank:=(a0.rights.getD (Int.toNat k_0.1.right) (default:Right)).rank}:Holding)])).length*32≤d5)))
def ah (a0:District)(a1:List Deed)(a2:Int)(a3:Int):List Holding×Int:=(bif((aC a0 a1) !=0)then([],(aC a0 a1))else(bif((!(aq a2 0 (i64.wrap (a0.hours - 1)))) ||(!(aq a3 0 1048576)))then([],1)else(match eu (da a0 a1 a2 a3) ((dG a0 (cU a1 a2 a3)).1) ([])with| .inl x=>x.elim| .inr s_0=>((srt bU s_0),0))))
def mN (a0:District)(a1:List Deed)(a2:Int)(a3:Int):Prop:=((gO a0 a1)∧((((aC a0 a1) !=0)=true→(([],(aC a0 a1))=(ah a0 a1 a2 a3)))∧(((aC a0 a1) !=0)=false→((((!(aq a2 0 (i64.wrap (a0.hours - 1)))) ||(!(aq a3 0 1048576)))=true→(([],1)=(ah a0 a1 a2 a3)))∧(((!(aq a2 0 (i64.wrap (a0.hours - 1)))) ||(!(aq a3 0 1048576)))=false→((fA a1 a2 a3)∧((iK a0 (cU a1 a2 a3))∧(∀ L_0,L_0.Perm ((dG a0 (cU a1 a2 a3)).1)→(okL (da a0 a1 a2 a3) (jA a0 a1 a2 a3) L_0 ([])∧(∀ s_0,eu (da a0 a1 a2 a3) L_0 ([])=.inr s_0→((apart bU s_0)∧(((srt bU s_0),0)=(ah a0 a1 a2 a3)))))))))))))
@[go_sem] def pJ:List SV→Option Con:=(pD .district fun a0=>(pR .deed fun a1=>(pI fun a2=>(pI fun a3=>(pE (.det (mN a0 a1 a2 a3) (.tup [.nw .holding ((ah a0 a1 a2 a3).1),.v (.int .i64 ((ah a0 a1 a2 a3).2))])))))))
theorem WF {l0 l1:List Nat}(a0:JL l0)(a1:JL l1){p:Prop}(h:JL l0→JL l1→p:=by intro ja jb;simp only[go_sem,Nat.reduceBEq,Nat.reduceLeDiff,Nat.reduceLT,decide_true,Nat.reduceAdd,Nat.reduceSub,Nat.reduceMul,Int.reduceLE,Int.reduceLT,Int.reduceToNat,Int.reduceNeg,reduceCtorEq,List.not_mem_nil];all_goals exact ij ja jb):p:=h a0 a1
theorem WG {p:Prop}(h:p:=by simp only[go_sem,Nat.reduceBEq,Nat.reduceLeDiff,Nat.reduceLT,decide_true,Nat.reduceAdd,Nat.reduceSub,Nat.reduceMul,Int.reduceLE,Int.reduceLT,Int.reduceToNat,Int.reduceNeg,reduceCtorEq];all_goals exact clQ):p:=h
theorem Az:FnOk Tryz.prog 21 pJ:=by
 have hG:ConsOk Tryz.prog (mkG [(26,fun l=>mr (cn [.st .district,.sl .deed] l)),(39,mI),(40,fun l=>pt (cn [.st .district,.o] l)),(41,fun l=>nZ (cn [.sl .deed,.o,.o] l))] [(42,sR)]):=ap (cgc (pm.norm [.st .district,.sl .deed]) (cgc oW (cgc (uW.norm [.st .district,.o]) (cgc (sJ.norm [.sl .deed,.o,.o]) cg0)))) (cgc DB cg0);refine iT [(.tmp 8,.holding)] mixed aj hG (fn:=Tryz.f21) (c:=ae Tryz.f21) kr kr kr kr (aI fun a0=>(cI fun a1=>(aM fun a2=>(aM fun a3=>(aw (fun hp=>?_))))));dsimp only[av]at hp;unfold mN at hp;refine⟨nbl rfl,(fun id st=>bif Nat.beq id 0 then some (LCP (τ:=RegisterTitle×Int) (ρ:=Empty) (σ:=(List Holding)) 4 [.slot 8 (.row .holding ([]))] [0,1,2,3,4] (fun left_0 cur_0 s_0=>⟨[(4,.ptr 0 0),(8,.os 4),(41,.ptr 3 0)],[.cells (cellsOf .district a0),.mp .registerTitle .int ((dG a0 (cU a1 a2 a3)).1) (some (3,none)),.dead,.mi (some 1) (((dG a0 (cU a1 a2 a3)).1).length) left_0 cur_0,.row .holding s_0]⟩) (da a0 a1 a2 a3) (jA a0 a1 a2 a3) ((dG a0 (cU a1 a2 a3)).1) ([]) ((·.elim)) ((·.elim)) (fun s_0=>⟨[(8,.os 4)],[.dead,.dead,.dead,.dead,.row .holding s_0]⟩) st)else none),?_,?_⟩
 ·unfold ae Tryz.f21;simp only[al,true_and,and_true]
  ·refine L1 (c6 .registerTitle,c6 .int) 3 mixed aj hG kr (fun _=>rfl) fun left_0 cur_0 s_0 hp0=>⟨L0,ag _,?_⟩
   ·by_cases hl0:left_0=[]
    ·subst hl0;exact WF (jl [0,1,2,3,7]) (jl [0,1,2,3,4])
    ·simp only[go_sem,Nat.reduceBEq,Nat.reduceLeDiff,Nat.reduceLT,decide_true,Nat.reduceAdd,Nat.reduceSub,Nat.reduceMul,Int.reduceLE,Int.reduceLT,Int.reduceToNat,Int.reduceNeg,reduceCtorEq,hl0];intro j hj0;obtain⟨hlt0,hq0⟩:=hp0 j hj0;unfold jA at hq0;all_goals exact ij (jl [0,1,2,3,7]) (jl [0,1,2,3,4])
 ·unfold ae Tryz.f21;exact WG
@[go_sem] def xf (x:Claim):List SV:=[.agg (cellsOf .claim x)]
@[go_sem] def uw:List SV→Option Con:=(pD .district fun d=>(pR .deed fun l_=>(pI fun hour=>(pI fun known=>(pE (.det True (.fn 87 [] [.ep (cellsOf .district d) 0,.ep [.rs .deed l_] 0,.ep [.v (.int .i64 hour)] 0,.ep [.v (.int .i64 known)] 0])))))))
theorem AA:FnOk Tryz.prog 51 uw:=by
 have hG:ConsOk Tryz.prog (mkG [] []):=ap cg0 cg0;refine aL [.o] mixed aj hG (fn:=Tryz.f51) (c:=ae Tryz.f51) kr kr kr kr (aI fun d=>(cI fun l_=>(aM fun hour=>(aM fun known=>(aw (fun hp=>?_))))));refine⟨nbl rfl,L0,ag _,?_⟩;unfold ae Tryz.f51;simp only[go_sem,EY,EZ,Nat.reduceBEq,Nat.reduceLeDiff,Nat.reduceAdd,Nat.reduceSub,Nat.reduceMul]
@[go_sem] def eQ (d:District)(l_:List Deed)(hour:Int)(known:Int)(k_0:Nat)(s_0:List Claim):Empty⊕(List Claim):=(bif(((decide (hour< (d.rights.getD (Int.toNat ((((ah d l_ hour known).1).getD k_0 (default:Holding)).right)) (default:Right)).since)) ||(decide (hour > (d.rights.getD (Int.toNat ((((ah d l_ hour known).1).getD k_0 (default:Holding)).right)) (default:Right)).to))) ||(decide ((Int.tmod (i64.wrap (hour - (d.rights.getD (Int.toNat ((((ah d l_ hour known).1).getD k_0 (default:Holding)).right)) (default:Right)).since)) ((d.rights.getD (Int.toNat ((((ah d l_ hour known).1).getD k_0 (default:Holding)).right)) (default:Right)).every))≥(d.rights.getD (Int.toNat ((((ah d l_ hour known).1).getD k_0 (default:Holding)).right)) (default:Right)).length)))then .inr s_0 else .inr (s_0++[({ right:=(((ah d l_ hour known).1).getD k_0 (default:Holding)).right,farm:=(((ah d l_ hour known).1).getD k_0 (default:Holding)).farm,hour:=hour,litres:=(((ah d l_ hour known).1).getD k_0 (default:Holding)).litres,rank:=(((ah d l_ hour known).1).getD k_0 (default:Holding)).rank}:Claim)]))
def kI (d:District)(l_:List Deed)(hour:Int)(known:Int)(items_:List (List SV))(k_0:Nat)(s_0:List Claim):Prop:=((0≤(((ah d l_ hour known).1).getD k_0 (default:Holding)).right∧(((ah d l_ hour known).1).getD k_0 (default:Holding)).right< (d.rights.length:Int))∧((((decide (hour< (d.rights.getD (Int.toNat ((((ah d l_ hour known).1).getD k_0 (default:Holding)).right)) (default:Right)).since)) ||(decide (hour > (d.rights.getD (Int.toNat ((((ah d l_ hour known).1).getD k_0 (default:Holding)).right)) (default:Right)).to)))=false→(d.rights.getD (Int.toNat ((((ah d l_ hour known).1).getD k_0 (default:Holding)).right)) (default:Right)).every≠0)∧((((decide (hour< (d.rights.getD (Int.toNat ((((ah d l_ hour known).1).getD k_0 (default:Holding)).right)) (default:Right)).since)) ||(decide (hour > (d.rights.getD (Int.toNat ((((ah d l_ hour known).1).getD k_0 (default:Holding)).right)) (default:Right)).to))) ||(decide ((Int.tmod (i64.wrap (hour - (d.rights.getD (Int.toNat ((((ah d l_ hour known).1).getD k_0 (default:Holding)).right)) (default:Right)).since)) ((d.rights.getD (Int.toNat ((((ah d l_ hour known).1).getD k_0 (default:Holding)).right)) (default:Right)).every))≥(d.rights.getD (Int.toNat ((((ah d l_ hour known).1).getD k_0 (default:Holding)).right)) (default:Right)).length)))=false→(items_[s_0.length]? =some (xf ({ right:=(((ah d l_ hour known).1).getD k_0 (default:Holding)).right,farm:=(((ah d l_ hour known).1).getD k_0 (default:Holding)).farm,hour:=hour,litres:=(((ah d l_ hour known).1).getD k_0 (default:Holding)).litres,rank:=(((ah d l_ hour known).1).getD k_0 (default:Holding)).rank}:Claim))))))
def dT (d:District)(l_:List Deed)(hour:Int)(known:Int):List Claim:=(match am (eQ d l_ hour known) (((ah d l_ hour known).1).length) 0 ([]:List Claim)with| .inl x=>x.elim| .inr s_0=>s_0)
def ik (d:District)(l_:List Deed)(hour:Int)(known:Int)(items_:List (List SV)):Prop:=((mN d l_ hour known)∧(((ah d l_ hour known).1).length≤aU→(okI (eQ d l_ hour known) (kI d l_ hour known items_) (((ah d l_ hour known).1).length) 0 ([]:List Claim)∧(∀ s_0,am (eQ d l_ hour known) (((ah d l_ hour known).1).length) 0 ([]:List Claim)=.inr s_0→(items_.length=s_0.length)))))
theorem xg (d:District)(l_:List Deed)(hour:Int)(known:Int)(items_:List (List SV))(hp:ik d l_ hour known items_):Db Tryz.prog 87 (fun y=>[y,.ep (cellsOf .district d) 0,.ep [.rs .deed l_] 0,.ep [.v (.int .i64 hour)] 0,.ep [.v (.int .i64 known)] 0]) [] items_:=by
 unfold ik at hp;refine LZ mixed aj (fn:=Tryz.f87) (c:=ae Tryz.f87) kr kr kr kr rfl (n:=0) rfl (G:=fun r_=>A3 [(21,fun l=>pJ (cn [.st .district,.sl .deed,.o,.o] l))] [] (JD items_ r_)) (fun r_ hy=>?_) (fun args w=>by kernel_rfl);have hG:ConsOk Tryz.prog (A3 [(21,fun l=>pJ (cn [.st .district,.sl .deed,.o,.o] l))] [] (JD items_ r_)):=yz (cgc (Az.norm [.st .district,.sl .deed,.o,.o]) cg0) cg0 hy;refine⟨hG,nbl rfl,(fun id st=>bif Nat.beq id 0 then some (LCY (ρ:=Empty) (σ:=(List Claim)) 2 [] [0,1] (fun k_0 s_0=>⟨[(0,.os 0),(1,.ep (cellsOf .district d) 0),(3,.ep [.v (.int .i64 hour)] 0),(19,.os 1),(20,.v (.int .i64 (((ah d l_ hour known).1).length:Int))),(21,.v (.int .i64 (k_0:Int)))],[.ab (r_.1 (s_0.length+1)),.row .holding ((ah d l_ hour known).1)]⟩) (eQ d l_ hour known) (kI d l_ hour known items_) (((ah d l_ hour known).1).length) ([]:List Claim) (((ah d l_ hour known).1).length≤aU) ((·.elim)) ((·.elim)) ⟨[],[.ab (r_.1 0),.dead]⟩ st)else none),?_,?_⟩
 ·unfold ae Tryz.f87;simp only[al,true_and,and_true]
  ·refine EV mixed aj hG kr (fun _=>rfl) (((ah d l_ hour known).1).length:Int) rfl fK (fun hb0 k_0 s_0 hlt0 hq0 hw hc=>⟨L0,ag _,?_⟩) (fun hb0 s_0 hc=>?_)
   ·unfold kI at hq0;try simp only[hw,Int.toNat_natCast]at hq0
    exact E0 (jl [0,1])
   ·exact E1 (jl [0,1])
 ·unfold ae Tryz.f87;exact Qd (jl [0])
end Go.Sx
end
section
namespace Go.Proofs
open Go.Shelf
def Tryz.sortLfh_ren:Go.Shelf.Ren:=⟨fun|6=>55|15=>78|14=>88|28=>117|29=>118|20=>122|21=>123|22=>124|23=>125|24=>126|25=>127|26=>128|27=>129|46=>157|47=>151|48=>152|49=>158|50=>159|57=>173|n=>n,fun|22=>77|24=>81|25=>135|3=>3|39=>153|0=>0|53=>191|55=>193|4=>4|46=>184|45=>183|50=>188|5=>5|9=>9|66=>219|70=>223|76=>236|77=>237|n=>n,fun|n=>n⟩
theorem Tryz.sortLfh:Go.Proofs.SlLaysF0.n6 Tryz.prog Tryz.sortLfh_ren:= {
 mixed:=by kernel_rfl
 f6:=⟨Tryz.f55.name,by decide,Tryz.func55.trans (congrArg some (by kernel_rfl))⟩
 f14:=⟨Tryz.f88.name,by decide,Tryz.func88.trans (congrArg some (by kernel_rfl))⟩
 f15:=Tryz.func78.trans (congrArg some (by kernel_rfl))
 f20:=⟨Tryz.f122.name,by decide,Tryz.func122.trans (congrArg some (by kernel_rfl))⟩
 f21:=⟨Tryz.f123.name,by decide,Tryz.func123.trans (congrArg some (by kernel_rfl))⟩
 f22:=⟨Tryz.f124.name,by decide,Tryz.func124.trans (congrArg some (by kernel_rfl))⟩
 f23:=⟨Tryz.f125.name,by decide,Tryz.func125.trans (congrArg some (by kernel_rfl))⟩
 f24:=⟨Tryz.f126.name,by decide,Tryz.func126.trans (congrArg some (by kernel_rfl))⟩
 f25:=⟨Tryz.f127.name,by decide,Tryz.func127.trans (congrArg some (by kernel_rfl))⟩
 f26:=⟨Tryz.f128.name,by decide,Tryz.func128.trans (congrArg some (by kernel_rfl))⟩
 f27:=⟨Tryz.f129.name,by decide,Tryz.func129.trans (congrArg some (by kernel_rfl))⟩
 f28:=Tryz.func117.trans (congrArg some (by kernel_rfl))
 f29:=Tryz.func118.trans (congrArg some (by kernel_rfl))
 f46:=⟨Tryz.f157.name,by decide,Tryz.func157.trans (congrArg some (by kernel_rfl))⟩
 f47:=Tryz.func151.trans (congrArg some (by kernel_rfl))
 f48:=Tryz.func152.trans (congrArg some (by kernel_rfl))
 f49:=⟨Tryz.f158.name,by decide,Tryz.func158.trans (congrArg some (by kernel_rfl))⟩
 f50:=⟨Tryz.f159.name,by decide,Tryz.func159.trans (congrArg some (by kernel_rfl))⟩
 f57:=⟨Tryz.f173.name,by decide,Tryz.func173.trans (congrArg some (by kernel_rfl))⟩
 t0:=Tryz.underlying0
 a0:=Tryz.isAgg0
 z0:=Tryz.sizeOf0
 v0:=Tryz.zeroValue0
 t3:=Tryz.underlying3
 a3:=Tryz.isAgg3
 z3:=Tryz.sizeOf3
 v3:=Tryz.zeroValue3
 t4:=Tryz.underlying4
 a4:=Tryz.isAgg4
 z4:=Tryz.sizeOf4
 v4:=Tryz.zeroValue4
 t5:=Tryz.underlying5
 a5:=Tryz.isAgg5
 z5:=Tryz.sizeOf5
 v5:=Tryz.zeroValue5
 t9:=Tryz.underlying9
 a9:=Tryz.isAgg9
 z9:=Tryz.sizeOf9
 v9:=Tryz.zeroValue9
 t22:=Tryz.underlying77
 a22:=Tryz.isAgg77
 z22:=Tryz.sizeOf77
 v22:=Tryz.zeroValue77
 t25:=Tryz.underlying135
 a25:=Tryz.isAgg135
 z25:=Tryz.sizeOf135
 v25:=Tryz.zeroValue135
 t39:=Tryz.underlying153
 a39:=Tryz.isAgg153
 z39:=Tryz.sizeOf153
 v39:=Tryz.zeroValue153
 t45:=Tryz.underlying183
 a45:=Tryz.isAgg183
 z45:=Tryz.sizeOf183
 v45:=Tryz.zeroValue183
 t46:=Tryz.underlying184
 a46:=Tryz.isAgg184
 z46:=Tryz.sizeOf184
 v46:=Tryz.zeroValue184
 t50:=Tryz.underlying188
 a50:=Tryz.isAgg188
 z50:=Tryz.sizeOf188
 v50:=Tryz.zeroValue188
 t53:=Tryz.underlying191
 a53:=Tryz.isAgg191
 z53:=Tryz.sizeOf191
 v53:=Tryz.zeroValue191
 t55:=Tryz.underlying193
 a55:=Tryz.isAgg193
 z55:=Tryz.sizeOf193
 v55:=Tryz.zeroValue193
 t66:=Tryz.underlying219
 a66:=Tryz.isAgg219
 z66:=Tryz.sizeOf219
 v66:=Tryz.zeroValue219
 t70:=Tryz.underlying223
 a70:=Tryz.isAgg223
 z70:=Tryz.sizeOf223
 v70:=Tryz.zeroValue223
 t76:=Tryz.underlying236
 a76:=Tryz.isAgg236
 z76:=Tryz.sizeOf236
 v76:=Tryz.zeroValue236
 t77:=Tryz.underlying237
 a77:=Tryz.isAgg237
 z77:=Tryz.sizeOf237
 v77:=Tryz.zeroValue237}
end Go.Proofs
end
section
namespace Go.Sx
open Go.Lib Go.Proofs Go.RowKit Go.Shelf Go.Sort
noncomputable def sS:List SV→List Ob→Option HCon:=mu .claimsFound 56 [] dW
@[go_sem] theorem Mm {l0:List ClaimsFound}:sS [.os 0,.fn 56 [] []] [.row .claimsFound l0]=some (fu (apart dW l0) (.tup []) [.row .claimsFound (srt dW l0)]):=uv
theorem Fo:xe .claimsFound:=fun x s hs=>by
 simp only[cellsOf,List.mem_cons,List.not_mem_nil,or_false]at hs;rcases hs with rfl|rfl|rfl|rfl|rfl|rfl;all_goals exact⟨_,rfl,rfl⟩
theorem Cd (x y:ClaimsFound):su (.agg (cellsOf .claimsFound x):: .agg (cellsOf .claimsFound y)::[])=some (.det True (.v (.int .i64 (dW x y)))):=by
 simp only[go_sem,Nat.reduceBEq]
theorem DC:FnOkO Tryz.prog 55 sS:=
 xU (k:=.claimsFound) Tryz.sortLfh (fun w=>by kernel_rfl) (fun w=>by kernel_rfl) Fo (by decide) (g:=56) (caps:=[]) yg (cf:=dW) Cd B8 (fun s hs=>by cases hs) ⟨default,default,Cd _ _⟩
end Go.Sx
end
section
namespace Go.Sx
open Go.Proofs
open IntKind (i64 u64)
@[go_sem] def ei (a0:District)(a1:List Deed)(a4:Int)(s_0:List ClaimsFound×Int)(z_1:Claim)(s_1:List ClaimsFound):Empty⊕(List ClaimsFound):=(bif(decide ((aZ ((dA a0 ((a0.farms.getD (Int.toNat z_1.farm) (default:Farm)).reach)).1) (be a0 s_0.2) z_1)≥0))then .inr (s_1++([({ claim:=z_1,reach:=(((dA a0 ((a0.farms.getD (Int.toNat z_1.farm) (default:Farm)).reach)).1).getD (Int.toNat (aZ ((dA a0 ((a0.farms.getD (Int.toNat z_1.farm) (default:Farm)).reach)).1) (be a0 s_0.2) z_1)) (0:Int))}:ClaimsFound)]))else .inr (s_1++([({ claim:=z_1,reach:=(-1)}:ClaimsFound)])))
def fq (a0:District)(a1:List Deed)(a4:Int)(s_0:List ClaimsFound×Int)(z_1:Claim)(s_1:List ClaimsFound):Prop:=((0≤z_1.farm∧z_1.farm< (a0.farms.length:Int))∧((mM a0 ((a0.farms.getD (Int.toNat z_1.farm) (default:Farm)).reach))∧(((decide ((aZ ((dA a0 ((a0.farms.getD (Int.toNat z_1.farm) (default:Farm)).reach)).1) (be a0 s_0.2) z_1)≥0))=true→((0≤(aZ ((dA a0 ((a0.farms.getD (Int.toNat z_1.farm) (default:Farm)).reach)).1) (be a0 s_0.2) z_1)∧(aZ ((dA a0 ((a0.farms.getD (Int.toNat z_1.farm) (default:Farm)).reach)).1) (be a0 s_0.2) z_1) < (((dA a0 ((a0.farms.getD (Int.toNat z_1.farm) (default:Farm)).reach)).1).length:Int))∧((s_1++([({ claim:=z_1,reach:=(((dA a0 ((a0.farms.getD (Int.toNat z_1.farm) (default:Farm)).reach)).1).getD (Int.toNat (aZ ((dA a0 ((a0.farms.getD (Int.toNat z_1.farm) (default:Farm)).reach)).1) (be a0 s_0.2) z_1)) (0:Int))}:ClaimsFound)])).length*48≤d5)))∧((decide ((aZ ((dA a0 ((a0.farms.getD (Int.toNat z_1.farm) (default:Farm)).reach)).1) (be a0 s_0.2) z_1)≥0))=false→((s_1++([({ claim:=z_1,reach:=(-1)}:ClaimsFound)])).length*48≤d5)))))
@[go_sem] def eZ (a0:District)(a1:List Deed)(a3:Int)(a4:Int)(k_0:Nat)(s_0:List ClaimsFound×Int):(List ClaimsFound)⊕(List ClaimsFound×Int):=(bif(decide (s_0.2≤a3))then(match eu (ei a0 a1 a4 s_0) (dT a0 a1 s_0.2 a4) s_0.1 with| .inl x=>x.elim| .inr s_1=>.inr (s_1,(i64.wrap (s_0.2+1))))else .inl s_0.1)
def il (a0:District)(a1:List Deed)(a3:Int)(a4:Int)(k_0:Nat)(s_0:List ClaimsFound×Int):Prop:=((decide (s_0.2≤a3))=true→((ik a0 a1 s_0.2 a4 ((dT a0 a1 s_0.2 a4).map xf))∧okL (ei a0 a1 a4 s_0) (fq a0 a1 a4 s_0) (dT a0 a1 s_0.2 a4) s_0.1))
def aK (a0:District)(a1:List Deed)(a2:Int)(a3:Int)(a4:Int):List ClaimsFound×Int:=(bif((aC a0 a1) !=0)then([],(aC a0 a1))else(bif(((((decide (a2<0)) ||(decide (a2 > a3))) ||(decide (a3≥a0.hours))) ||(decide (a4<0))) ||(decide (a4 > 1048576)))then([],1)else(bif(decide ((i64.wrap ((i64.wrap ((i64.wrap (a3 - a2))+1))*(a0.rights.length:Int))) > 4096))then([],2)else(match am (eZ a0 a1 a3 a4) 4098 0 ([],a2)with| .inl x_0_0=>((srt dW x_0_0),0) | .inr s_0=>default))))
def jB (a0:District)(a1:List Deed)(a2:Int)(a3:Int)(a4:Int):Prop:=((gO a0 a1)∧(((aC a0 a1) !=0)=false→((((((decide (a2<0)) ||(decide (a2 > a3))) ||(decide (a3≥a0.hours))) ||(decide (a4<0))) ||(decide (a4 > 1048576)))=false→(a0.rights.length≤aU→((decide ((i64.wrap ((i64.wrap ((i64.wrap (a3 - a2))+1))*(a0.rights.length:Int))) > 4096))=false→(okI (eZ a0 a1 a3 a4) (il a0 a1 a3 a4) 4098 0 ([],a2)∧(∀ z_,am (eZ a0 a1 a3 a4) 4098 0 ([],a2)≠ .inr z_)∧(∀ x_0_0,am (eZ a0 a1 a3 a4) 4098 0 ([],a2)=.inl x_0_0→(apart dW x_0_0))))))))
@[go_sem] def rg:List SV→Option Con:=(pD .district fun a0=>(pR .deed fun a1=>(pI fun a2=>(pI fun a3=>(pI fun a4=>(pE (.det (jB a0 a1 a2 a3 a4) (.tup [.nw .claimsFound ((aK a0 a1 a2 a3 a4).1),.v (.int .i64 ((aK a0 a1 a2 a3 a4).2))]))))))))
theorem WH {l0 l1:List Nat}(a0:JL l0)(a1:JL l1){p:Prop}(h:JL l0→JL l1→p:=by intro ja jb;simp only[go_sem,Nat.reduceBEq,Nat.reduceLeDiff,Nat.reduceLT,decide_true,Nat.reduceAdd,Nat.reduceSub,Nat.reduceMul,Int.reduceLE,Int.reduceLT,Int.reduceToNat,Int.reduceNeg,reduceCtorEq,dv,ei,psT,xf,List.cons_append,List.nil_append];all_goals exact ij ja jb):p:=h a0 a1
theorem Qj {l0 l1:List Nat}(a0:JL l0)(a1:JL l1){p:Prop}(h:JL l0→JL l1→p:=by intro ja jb;simp only[go_sem,Nat.reduceBEq,Nat.reduceLeDiff,Nat.reduceLT,decide_true,Nat.reduceAdd,Nat.reduceSub,Nat.reduceMul,Int.reduceLE,Int.reduceLT,Int.reduceToNat,Int.reduceNeg,reduceCtorEq,dv];all_goals exact ij ja jb):p:=h a0 a1
theorem WI {p:Prop}(h:p:=by simp only[go_sem,Nat.reduceBEq,Nat.reduceLeDiff,Nat.reduceLT,decide_true,Nat.reduceAdd,Nat.reduceSub,Nat.reduceMul,Int.reduceLE,Int.reduceLT,Int.reduceToNat,Int.reduceNeg,reduceCtorEq,dv];all_goals exact cl):p:=h
theorem uz:FnOk Tryz.prog 29 rg:=by
 have hG:ConsOk Tryz.prog (mkG [(26,fun l=>mr (cn [.st .district,.sl .deed] l)),(46,fun l=>ur (cn [.st .district,.o] l)),(50,fun l=>sq (cn [.st .district,.o] l)),(51,fun l=>uw (cn [.st .district,.sl .deed,.o,.o] l)),(52,fun l=>dv (cn [.sl .int,.o] l))] [(55,sS)]):=ap (cgc (pm.norm [.st .district,.sl .deed]) (cgc (As.norm [.st .district,.o]) (cgc (ye.norm [.st .district,.o]) (cgc (AA.norm [.st .district,.sl .deed,.o,.o]) (cgc (nL.norm [.sl .int,.o]) cg0))))) (cgc DC cg0);refine iT [(.cell 10 77,.claimsFound)] mixed aj hG (fn:=Tryz.f29) (c:=ae Tryz.f29) kr kr kr kr (aI fun a0=>(cI fun a1=>(aM fun a2=>(aM fun a3=>(aM fun a4=>(aw (fun hp=>?_)))))));dsimp only[av]at hp;unfold jB at hp;refine⟨nbl rfl,(fun id st=>bif Nat.beq id 0 then some (LCV (ρ:=(List ClaimsFound)) (σ:=(List ClaimsFound×Int)) 2 [.cell 1 0 (.row .claimsFound ([]))] [0,1,2] (fun k_0 s_0=>⟨[(1,.rs .deed a1),(3,.v (.int .i64 a3)),(4,.v (.int .i64 a4)),(5,.ptr 0 0),(10,.ptr 1 0),(12,.v (.int .i64 s_0.2))],[.cells (cellsOf .district a0),.cells [.os 2],.row .claimsFound s_0.1]⟩) (eZ a0 a1 a3 a4) (il a0 a1 a3 a4) 4098 ([],a2) (fun _=>.normal) (fun x_0_0=>⟨[(10,.ptr 1 0)],[.dead,.cells [.os 2],.row .claimsFound x_0_0]⟩) st)else none),?_,?_⟩
 ·unfold ae Tryz.f29;simp only[al,true_and,and_true]
  ·refine dR mixed aj hG kr (fun _=>rfl) fun k_0 s_0 hq0=>⟨(fun id st=>bif Nat.beq id 2 then some (LC (ρ:=Empty) (σ:=List ClaimsFound) (lk 1 st.t=.rs .deed a1∧lk 3 st.t=.v (.int .i64 a3)∧lk 4 st.t=.v (.int .i64 a4)∧lk 5 st.t=.ptr 0 0∧lk 10 st.t=.ptr 1 0∧lk 12 st.t=.v (.int .i64 s_0.2)∧lk 13 st.t=.ptr 6 0∧lk 68 st.t=.fn 87 [] [.ep (cellsOf .district a0) 0,.ep [.rs .deed a1] 0,.ep [.v (.int .i64 s_0.2)] 0,.ep [.v (.int .i64 a4)] 0]∧st.h=[.cells (cellsOf .district a0),.cells [.os 2],.row .claimsFound s_0.1,.mp .int .int ((be a0 s_0.2).owners) none,.mp .claimsUse .bool ((be a0 s_0.2).owned) none,.mp .claimsUse .bool ((be a0 s_0.2).eased) none,.cells [.os 3,.os 4,.os 5]]∧ik a0 a1 s_0.2 a4 ((dT a0 a1 s_0.2 a4).map xf)∧okL (ei a0 a1 a4 s_0) (fq a0 a1 a4 s_0) (dT a0 a1 s_0.2 a4) s_0.1) (eu (ei a0 a1 a4 s_0) (dT a0 a1 s_0.2 a4) s_0.1) (fun x=>x.elim) (fun x=>x.elim) (fun s_1=>⟨[(1,.rs .deed a1),(3,.v (.int .i64 a3)),(4,.v (.int .i64 a4)),(5,.ptr 0 0),(10,.ptr 1 0),(12,.v (.int .i64 s_0.2)),(13,.ptr 6 0)],[.cells (cellsOf .district a0),.cells [.os 7],.dead,.mp .int .int ((be a0 s_0.2).owners) none,.mp .claimsUse .bool ((be a0 s_0.2).owned) none,.mp .claimsUse .bool ((be a0 s_0.2).eased) none,.cells [.os 3,.os 4,.os 5],.row .claimsFound s_1]⟩))else none),?_,?_⟩
   ·simp only[al,true_and,and_true]
    ·refine wS mixed aj hG (by decide) (by decide) kr kr fun st lc hC hp=>?_;simp only[go_sem,Nat.reduceBEq,Option.some.injEq]at hC;subst hC;obtain⟨t,h⟩:=st;dsimp only[LC]at hp;obtain⟨e1_0,e1_1,e1_2,e1_3,e1_4,e1_5,e1_6,e1_7,rfl,hb1,hok1⟩:=hp;refine⟨87,[.ep (cellsOf .district a0) 0,.ep [.rs .deed a1] 0,.ep [.v (.int .i64 s_0.2)] 0,.ep [.v (.int .i64 a4)] 0],Claim,_,_,(dT a0 a1 s_0.2 a4),xf,(ei a0 a1 a4 s_0),(fq a0 a1 a4 s_0),_,s_0.1,_,_,_,[(1,.rs .deed a1),(3,.v (.int .i64 a3)),(4,.v (.int .i64 a4)),(5,.ptr 0 0),(10,.ptr 1 0),(12,.v (.int .i64 s_0.2)),(13,.ptr 6 0)],(fun s_1=>[.cells (cellsOf .district a0),.cells [.os 7],.dead,.mp .int .int ((be a0 s_0.2).owners) none,.mp .claimsUse .bool ((be a0 s_0.2).owned) none,.mp .claimsUse .bool ((be a0 s_0.2).eased) none,.cells [.os 3,.os 4,.os 5],.row .claimsFound s_1]),(fun x=>x.elim),[0,1,2,3,4,5,6,2],?_,rfl,hok1,nbl rfl,?_,xg a0 a1 s_0.2 a4 _ hb1,fun z_1 s_1 hq1=>⟨rfl,L0,fun l=>?_,fun l=>?_,?_⟩,fun s_1=>?_,fun y=>?_⟩
     ·simp only[go_sem,e1_0,e1_1,e1_2,e1_3,e1_4,e1_5,e1_6,e1_7]
     ·simp only[go_sem,Nat.reduceBEq,Nat.reduceLeDiff,Nat.reduceLT,decide_true,Nat.reduceAdd,Nat.reduceSub,Nat.reduceMul,Int.reduceLE,Int.reduceLT,Int.reduceToNat,Int.reduceNeg,reduceCtorEq,sg,kx,List.flatMap_cons,List.flatMap_nil,List.nil_append,List.append_nil,List.map_nil,e1_0,e1_1,e1_2,e1_3,e1_4,e1_5,e1_6,e1_7];all_goals (first|done|decide|(repeat' (first|refine And.intro ?_ ?_|rfl|decide)))
     ·simp only[al,and_self,true_and,and_true]
     ·simp only[al,and_self,true_and,and_true]
     ·unfold fq at hq1;exact WH (jl [0,1,2,3,4,5,6,12]) (jl [0,1,2,3,4,5,6,7])
     ·exact Qj (jl [0,1,2,3,4,5,6,12]) (jl [0,1,2,3,4,5,6,7])
     ·exact Qj (jl [0,1,2,3,4,5,6,12]) (jl [0,1,2,3,4,5,6,7])
   ·unfold il at hq0;exact sC (jl [0,1,7]) (jl [0,1,2])
 ·unfold ae Tryz.f29;try unfold aK
  exact WI
@[go_sem] def lK (d:District)(l_:List Deed)(fr:Int)(to:Int)(known:Int)(k_0:Nat)(s_0:List Claim):Empty⊕(List Claim):=(bif(decide ((((aK d l_ fr to known).1).getD k_0 (default:ClaimsFound)).reach<0))then .inr (s_0++([(((aK d l_ fr to known).1).getD k_0 (default:ClaimsFound)).claim]))else .inr s_0)
def oY (d:District)(l_:List Deed)(fr:Int)(to:Int)(known:Int)(k_0:Nat)(s_0:List Claim):Prop:=((decide ((((aK d l_ fr to known).1).getD k_0 (default:ClaimsFound)).reach<0))=true→((s_0++([(((aK d l_ fr to known).1).getD k_0 (default:ClaimsFound)).claim])).length*40≤d5))
def eS (d:District)(l_:List Deed)(fr:Int)(to:Int)(known:Int):List Claim×Int:=(bif((aK d l_ fr to known).2 !=0)then([],(aK d l_ fr to known).2)else(match am (lK d l_ fr to known) (((aK d l_ fr to known).1).length) 0 ([])with| .inl x=>x.elim| .inr s_0=>(bif(decide ((s_0.length:Int) > 4096))then([],2)else(s_0,0))))
def jk (d:District)(l_:List Deed)(fr:Int)(to:Int)(known:Int):Prop:=((jB d l_ fr to known)∧(((aK d l_ fr to known).2 !=0)=false→(((aK d l_ fr to known).1).length≤aU→okI (lK d l_ fr to known) (oY d l_ fr to known) (((aK d l_ fr to known).1).length) 0 ([]))))
@[go_sem] def sT:List SV→Option Con:=(pD .district fun d=>(pR .deed fun l_=>(pI fun fr=>(pI fun to=>(pI fun known=>(pE (.det (jk d l_ fr to known) (.tup [.nw .claim ((eS d l_ fr to known).1),.v (.int .i64 ((eS d l_ fr to known).2))]))))))))
theorem wh:FnOk Tryz.prog 12 sT:=by
 have hG:ConsOk Tryz.prog (mkG [(29,fun l=>rg (cn [.st .district,.sl .deed,.o,.o,.o] l))] []):=ap (cgc (uz.norm [.st .district,.sl .deed,.o,.o,.o]) cg0) cg0;refine iT [(.tmp 10,.claim)] mixed aj hG (fn:=Tryz.f12) (c:=ae Tryz.f12) kr kr kr kr (aI fun d=>(cI fun l_=>(aM fun fr=>(aM fun to=>(aM fun known=>(aw (fun hp=>?_)))))));dsimp only[av]at hp;unfold jk at hp;refine⟨nbl rfl,(fun id st=>bif Nat.beq id 0 then some (LCR (ρ:=Empty) (σ:=(List Claim)) 2 [.slot 10 (.row .claim ([]))] [0,1,2] (fun k_0 s_0=>⟨[(10,.os 2),(27,.os 1),(28,.v (.int .i64 (((aK d l_ fr to known).1).length:Int))),(29,.v (.int .i64 (k_0:Int)))],[.dead,.row .claimsFound ((aK d l_ fr to known).1),.row .claim s_0]⟩) (lK d l_ fr to known) (oY d l_ fr to known) (((aK d l_ fr to known).1).length) ([]) (((aK d l_ fr to known).1).length≤aU) ((·.elim)) ((·.elim)) st)else none),?_,?_⟩
 ·unfold ae Tryz.f12;simp only[al,true_and,and_true]
  ·refine dp mixed aj hG kr (fun _=>rfl) (((aK d l_ fr to known).1).length:Int) rfl fK (fun hb0 k_0 s_0 hlt0 hq0 hw hc=>⟨L0,ag _,?_⟩) (fun hb0 s_0 hc=>?_)
   ·unfold oY at hq0;try simp only[hw,Int.toNat_natCast]at hq0
    exact qn (jl [0,1,5]) (jl [0,1,2])
   ·exact qo (jl [0,1,5]) (jl [0,1,2])
 ·unfold ae Tryz.f12;try unfold eS
  exact zq1
@[go_sem] def gq (d:District)(l_:List Deed)(fr:Int)(to:Int)(known:Int)(k_0:Nat)(s_0:List Block):Empty⊕(List Block):=(bif(decide ((((aK d l_ fr to known).1).getD k_0 (default:ClaimsFound)).reach≥0))then .inr (s_0++([({ right:=(((aK d l_ fr to known).1).getD k_0 (default:ClaimsFound)).claim.right,farm:=(((aK d l_ fr to known).1).getD k_0 (default:ClaimsFound)).claim.farm,hour:=(((aK d l_ fr to known).1).getD k_0 (default:ClaimsFound)).claim.hour,reach:=(((aK d l_ fr to known).1).getD k_0 (default:ClaimsFound)).reach}:Block)]))else .inr s_0)
def jM (d:District)(l_:List Deed)(fr:Int)(to:Int)(known:Int)(k_0:Nat)(s_0:List Block):Prop:=((decide ((((aK d l_ fr to known).1).getD k_0 (default:ClaimsFound)).reach≥0))=true→((s_0++([({ right:=(((aK d l_ fr to known).1).getD k_0 (default:ClaimsFound)).claim.right,farm:=(((aK d l_ fr to known).1).getD k_0 (default:ClaimsFound)).claim.farm,hour:=(((aK d l_ fr to known).1).getD k_0 (default:ClaimsFound)).claim.hour,reach:=(((aK d l_ fr to known).1).getD k_0 (default:ClaimsFound)).reach}:Block)])).length*32≤d5))
def db (d:District)(l_:List Deed)(fr:Int)(to:Int)(known:Int):List Block×Int:=(bif((aK d l_ fr to known).2 !=0)then([],(aK d l_ fr to known).2)else(match am (gq d l_ fr to known) (((aK d l_ fr to known).1).length) 0 ([])with| .inl x=>x.elim| .inr s_0=>(bif(decide ((s_0.length:Int) > 4096))then([],2)else(s_0,0))))
def fO (d:District)(l_:List Deed)(fr:Int)(to:Int)(known:Int):Prop:=((jB d l_ fr to known)∧(((aK d l_ fr to known).2 !=0)=false→(((aK d l_ fr to known).1).length≤aU→okI (gq d l_ fr to known) (jM d l_ fr to known) (((aK d l_ fr to known).1).length) 0 ([]))))
@[go_sem] def mv:List SV→Option Con:=(pD .district fun d=>(pR .deed fun l_=>(pI fun fr=>(pI fun to=>(pI fun known=>(pE (.det (fO d l_ fr to known) (.tup [.nw .block ((db d l_ fr to known).1),.v (.int .i64 ((db d l_ fr to known).2))]))))))))
theorem pu:FnOk Tryz.prog 14 mv:=by
 have hG:ConsOk Tryz.prog (mkG [(29,fun l=>rg (cn [.st .district,.sl .deed,.o,.o,.o] l))] []):=ap (cgc (uz.norm [.st .district,.sl .deed,.o,.o,.o]) cg0) cg0;refine iT [(.tmp 10,.block)] mixed aj hG (fn:=Tryz.f14) (c:=ae Tryz.f14) kr kr kr kr (aI fun d=>(cI fun l_=>(aM fun fr=>(aM fun to=>(aM fun known=>(aw (fun hp=>?_)))))));dsimp only[av]at hp;unfold fO at hp;refine⟨nbl rfl,(fun id st=>bif Nat.beq id 0 then some (LCR (ρ:=Empty) (σ:=(List Block)) 2 [.slot 10 (.row .block ([]))] [0,1,2] (fun k_0 s_0=>⟨[(10,.os 2),(27,.os 1),(28,.v (.int .i64 (((aK d l_ fr to known).1).length:Int))),(29,.v (.int .i64 (k_0:Int)))],[.dead,.row .claimsFound ((aK d l_ fr to known).1),.row .block s_0]⟩) (gq d l_ fr to known) (jM d l_ fr to known) (((aK d l_ fr to known).1).length) ([]) (((aK d l_ fr to known).1).length≤aU) ((·.elim)) ((·.elim)) st)else none),?_,?_⟩
 ·unfold ae Tryz.f14;simp only[al,true_and,and_true]
  ·refine dp mixed aj hG kr (fun _=>rfl) (((aK d l_ fr to known).1).length:Int) rfl fK (fun hb0 k_0 s_0 hlt0 hq0 hw hc=>⟨L0,ag _,?_⟩) (fun hb0 s_0 hc=>?_)
   ·unfold jM at hq0;try simp only[hw,Int.toNat_natCast]at hq0
    exact qn (jl [0,1,5]) (jl [0,1,2])
   ·exact qo (jl [0,1,5]) (jl [0,1,2])
 ·unfold ae Tryz.f14;try unfold db
  exact zq1
theorem wi {ρ σ:Type}{step:Nat→σ→ρ⊕σ}{p:Nat→σ→Prop}(m:σ→Nat)(J:σ→Prop)(Q:ρ→Prop)(h:∀ k s,J s→p k s∧((∃ r,step k s=.inl r∧Q r)∨∃ s',step k s=.inr s'∧m s'<m s∧J s')):∀ (n i:Nat) (s:σ),J s→m s<n→okI step p n i s∧∃ r,am step n i s=.inl r∧Q r
 |0,_,_,_,hm=>absurd hm (Nat.not_lt_zero _)
 |n+1,i,s,hJ,hm=>by
  obtain⟨h1,h2⟩:=h i s hJ;rcases h2 with⟨r,e,hq⟩ | ⟨s',e,hlt,hJ'⟩
  ·refine⟨⟨h1,fun s'' e'=>?_⟩,r,?_,hq⟩
   ·rw[e]at e';cases e'
   ·simp only[am,e]
  ·obtain⟨q1,q2⟩:=wi m J Q h n (i+1) s' hJ' (by omega);refine⟨⟨h1,fun s'' e'=>?_⟩,?_⟩
   ·rw[e]at e';cases e';exact q1
   ·simp only[am,e];exact q2
theorem xW {ρ σ:Type}{x:ρ⊕σ}{Q:ρ→Prop}(h:∃ r,x=.inl r∧Q r):∀ z,x≠ .inr z:=fun z e=>by
 obtain⟨r,e1,_⟩:=h;rw[e1]at e;cases e
theorem Iy (a b:Deed):decide (cF a b<0)=decide (a.at_<b.at_):=by
 unfold cF;rw[pl];by_cases h:a.at_<b.at_
 ·simp[h]
 ·by_cases h2:a.at_ > b.at_ <;>simp[h,h2]
theorem kp {α:Type}(A:List α)(x d:α)(T:List α){i:Nat}(h:i=A.length):(A++x::T).getD i d=x:=by
 subst h;simp[List.getD_eq_getElem?_getD]
theorem rh {α:Type}(A:List α)(x y:α)(T:List α){i:Nat}(h:i=A.length):(A++x::T).set i y=A++y::T:=by
 subst h;simp
def SameF (l l':List Deed):Prop:= ∀ t:Int,l.filter (fun x=>x.at_==t)=l'.filter fun x=>x.at_==t
theorem SameF.refl (l:List Deed):SameF l l:=fun _=>rfl
theorem SameF.trans {a b c:List Deed}(h1:SameF a b)(h2:SameF b c):SameF a c:=fun t=>(h1 t).trans (h2 t)
theorem SameF.app {a b c d:List Deed}(h1:SameF a b)(h2:SameF c d):SameF (a++c) (b++d):=fun t=>by rw[List.filter_append,List.filter_append,h1 t,h2 t]
theorem SameF.swap {a b:List Deed}(h:∀ x∈a,∀ y∈b,x.at_≠y.at_):SameF (a++b) (b++a):=fun t=>by
 rw[List.filter_append,List.filter_append];by_cases ha:a.filter (fun x=>x.at_==t)=[]
 ·rw[ha];simp
 ·have hb:b.filter (fun x=>x.at_==t)=[]:=by
   rw[List.filter_eq_nil_iff];intro y hy hyt;obtain⟨x,hx⟩:=List.exists_mem_of_ne_nil _ ha;rw[List.mem_filter]at hx;have e1:x.at_=t:=by simpa using hx.2
   have e2:y.at_=t:=by simpa using hyt
   exact h x hx.1 y hy (by rw[e1,e2])
  rw[hb];simp
def Srt (l:List Deed):Prop:=l.Pairwise fun x y=>x.at_≤y.at_
theorem JS (A S R:List Deed)(x:Deed)(l_:List Deed)(hl:(A++S++x::R).length<2 ^ 62)(hfuel:(A++S++x::R).length=l_.length):
  okI (aN A.length l_) (a_ A.length l_) (l_.length+1) 0 (A++S++x::R,((A.length+S.length:Nat):Int))∧
  ∃ r,am (aN A.length l_) (l_.length+1) 0 (A++S++x::R,((A.length+S.length:Nat):Int))=.inl r∧
   ∃ S1 S2,S=S1++S2∧r=A++S1++x::(S2++R)∧(∀ y∈S2,x.at_<y.at_)∧∀ y,S1.getLast? =some y→y.at_≤x.at_:=by
 refine wi (fun s:List Deed×Int=>(s.2 - (A.length:Int)).toNat) (fun s:List Deed×Int=>∃ S1 S2,S=S1++S2∧s=(A++S1++x::(S2++R),((A.length+S1.length:Nat):Int))∧∀ y∈S2,x.at_<y.at_) (fun r=>∃ S1 S2,S=S1++S2∧r=A++S1++x::(S2++R)∧(∀ y∈S2,x.at_<y.at_)∧∀ y,S1.getLast? =some y→y.at_≤x.at_) ?_ _ _ _ ⟨S,[],by simp,by simp,by simp⟩ (by simp only[List.length_append,List.length_cons]at hl hfuel;omega);rintro k s ⟨S1,S2,hS,rfl,hlt⟩;simp only[List.length_append,List.length_cons]at hl hfuel;have hlen:S.length=S1.length+S2.length:=by rw[hS,List.length_append]
 rcases List.eq_nil_or_concat S1 with rfl| ⟨S1',y,rfl⟩
 ·unfold a_ aN;have e:decide (((A.length+([]:List Deed).length:Nat):Int) > A.length)=false:=by simp
  refine⟨⟨fun h=>?_,fun h=>?_,fun h=>?_⟩,.inl ⟨_,?_,[],S2,hS,rfl,hlt,fun y hy=>by simp at hy⟩⟩
  ·rw[e]at h;cases h
  ·rw[e]at h;cases h
  ·rw[e]at h;cases h
  ·simp only[e,Bool.false_and,cond_false]
 ·simp only[List.concat_eq_append,List.length_append,List.length_cons,List.length_nil]at hlen ⊢;have w:i64.wrap (((A.length+(S1'.length+(0+1)):Nat):Int) - 1)=((A.length+S1'.length:Nat):Int):=by rw[aP (by omega) (by omega)];omega
  have e:decide (((A.length+(S1'.length+(0+1)):Nat):Int) > A.length)=true:=by rw[decide_eq_true_eq];omega
  have g1:(A++(S1'++[y])++x::(S2++R)).getD (A.length+(S1'.length+(0+1))) default=x:=kp _ _ _ _ (by simp);have hr:A++(S1'++[y])++x::(S2++R)=(A++S1')++y::x::(S2++R):=by simp
  have g2:(A++(S1'++[y])++x::(S2++R)).getD (A.length+S1'.length) default=y:=by rw[hr];exact kp _ _ _ _ (by simp)
  have hL:(A++(S1'++[y])++x::(S2++R)).length=A.length+(S1'.length+1)+(S2.length+R.length+1):=by simp;omega
  unfold a_ aN;simp only[w,Int.toNat_natCast,g1,g2,Iy,e,Bool.true_and,List.length_set,hL];refine⟨⟨fun _=>by omega,fun _=>by omega,fun _=>by omega⟩,?_⟩;by_cases h:x.at_<y.at_
  ·right;rw[decide_eq_true h,cond_true];refine⟨_,rfl,by simp only;omega,S1',y::S2,by rw[hS];simp,?_,fun z hz=>?_⟩
   ·rw[rh (A++(S1'++[y])) x y (S2++R) (by simp)];have:A++(S1'++[y])++y::(S2++R)=(A++S1')++y::y::(S2++R):=by simp
    rw[this,rh (A++S1') y x _ (by simp)];simp
   ·rcases List.mem_cons.1 hz with rfl|hz
    ·exact h
    ·exact hlt z hz
  ·left;rw[decide_eq_false h,cond_false];exact⟨_,rfl,S1'++[y],S2,hS.trans (by simp),by simp,hlt,fun z hz=>by simp at hz;subst hz;omega⟩
theorem Mn {l:List Deed}{c:Int}(h:Srt l)(hl:∀ y,l.getLast? =some y→y.at_≤c):∀ z∈l,z.at_≤c:=fun z hz=>by
 rcases List.eq_nil_or_concat l with rfl| ⟨l',y,rfl⟩
 ·cases hz
 ·rw[List.concat_eq_append]at h hz hl;have hy:=hl y (by simp);unfold Srt at h;rw[List.pairwise_append]at h;rcases List.mem_append.1 hz with hz|hz
  ·exact Int.le_trans (h.2.2 z hz y (by simp)) hy
  ·simp at hz;subst hz;exact hy
theorem Pb {S1 S2:List Deed}{x:Deed}(h:Srt (S1++S2))(h2:∀ y∈S2,x.at_<y.at_)(h1:∀ z∈S1,z.at_≤x.at_):Srt (S1++x::S2):=by
 unfold Srt at h ⊢;rw[List.pairwise_append]at h ⊢;refine⟨h.1,List.pairwise_cons.2 ⟨fun y hy=>Int.le_of_lt (h2 y hy),h.2.1⟩,fun z hz y hy=>?_⟩;rcases List.mem_cons.1 hy with rfl|hy
 ·exact h1 z hz
 ·exact h.2.2 z hz y hy
theorem Ce (A M R:List Deed)(hl:(A++M++R).length<2 ^ 62):
  aR A.length ((A.length+M.length:Nat):Int) (A++M++R)∧
  ∃ M',az A.length ((A.length+M.length:Nat):Int) (A++M++R)=A++M'++R∧SameF M M'∧Srt M':=by
 have hlen:(A++M++R).length=A.length+M.length+R.length:=by simp[Nat.add_assoc]
 have w0:i64.wrap ((A.length:Int)+1)=((A.length+1:Nat):Int):=by rw[aP (by omega) (by omega)];omega
 have key:okI (aG A.length ((A.length+M.length:Nat):Int) (A++M++R)) (aV A.length ((A.length+M.length:Nat):Int) (A++M++R)) ((A++M++R).length+1) 0 (A++M++R,((A.length+1:Nat):Int))∧
   ∃ r,am (aG A.length ((A.length+M.length:Nat):Int) (A++M++R)) ((A++M++R).length+1) 0 (A++M++R,((A.length+1:Nat):Int))=.inl r∧∃ M',r=A++M'++R∧SameF M M'∧Srt M':=by
  refine wi (fun s:List Deed×Int=>(((A.length+M.length:Nat):Int) - s.2).toNat) (fun s:List Deed×Int=>(M=[]∧s=(A++M++R,((A.length+1:Nat):Int)))∨∃ S T,s=(A++S++(T++R),((A.length+S.length:Nat):Int))∧SameF M (S++T)∧Srt S∧M.length=S.length+T.length) (fun r=>∃ M',r=A++M'++R∧SameF M M'∧Srt M') ?_ _ _ _ ?_ (by simp only;omega)
  ·rintro k s (⟨rfl,rfl⟩ | ⟨S,T,rfl,hF,hS,hMl⟩)
   ·unfold aV aG;have e:decide (((A.length+1:Nat):Int) < ((A.length+([]:List Deed).length:Nat):Int))=false:=by rw[decide_eq_false_iff_not];simp only[List.length_nil];omega
    refine⟨fun h=>?_,.inl ⟨_,?_,[],rfl,SameF.refl _,List.Pairwise.nil⟩⟩
    ·rw[e]at h;cases h
    ·simp only[e,cond_false]
   ·cases T with
    |nil=>
     unfold aV aG;have e:decide (((A.length+S.length:Nat):Int) < ((A.length+M.length:Nat):Int))=false:=by rw[decide_eq_false_iff_not];simp only[List.length_nil]at hMl;omega
     refine⟨fun h=>?_,.inl ⟨A++S++([]++R),?_,S,by simp,by simpa using hF,hS⟩⟩
     ·rw[e]at h;cases h
     ·simp only[e,cond_false]
    |cons x T=>
     simp only[List.length_cons]at hMl;have e:decide (((A.length+S.length:Nat):Int) < ((A.length+M.length:Nat):Int))=true:=by rw[decide_eq_true_eq];omega
     have hl2:(A++S++x::(T++R)).length=(A++M++R).length:=by simp;omega
     obtain⟨i1,r,i2,S1,S2,rfl,rfl,i3,i4⟩:=JS A S (T++R) x (A++M++R) (by omega) hl2;have hS1:Srt S1:=(List.pairwise_append.1 hS).1;have w:i64.wrap (((A.length+(S1++S2).length:Nat):Int)+1)=((A.length+(S1++x::S2).length:Nat):Int):=by
      rw[aP (by omega) (by simp only[List.length_append]at *;omega)];simp only[List.length_append,List.length_cons];omega
     unfold aV aG;refine⟨fun _=>⟨i1,xW (Q:=fun _=>True) ⟨_,i2,trivial⟩⟩,.inr ⟨_,?_,?_,.inr ⟨S1++x::S2,T,rfl,?_,Pb hS i3 (Mn hS1 i4),by simp only[List.length_append,List.length_cons]at *;omega⟩⟩⟩
     ·simp only[e,cond_true,List.cons_append];rw[i2];simp only[w];simp
     ·simp only[List.length_append,List.length_cons]at *;omega
     ·refine hF.trans ?_;have h0:SameF (S2++[x]) ([x]++S2):=SameF.swap fun y hy z hz=>by simp at hz;subst hz;have:=i3 y hy;omega
      have:=((SameF.refl S1).app h0).app (SameF.refl T);simpa using this
  ·cases M with
   |nil=>exact .inl ⟨rfl,rfl⟩
   |cons x T=>exact .inr ⟨[x],T,by simp,by simpa using SameF.refl _,List.pairwise_singleton _ _,by simp;omega⟩
 obtain⟨k1,r,k2,M',rfl,k3,k4⟩:=key;unfold aR az;rw[w0];refine⟨⟨k1,xW (Q:=fun _=>True) ⟨_,k2,trivial⟩⟩,M',?_,k3,k4⟩;rw[k2]
theorem DD (A X B Y C:List Deed)(hxy:X.length=Y.length)(hl:(A++X++B++Y++C).length<2 ^ 62):
  aS A.length ((A.length+X.length+B.length:Nat):Int) X.length (A++X++B++Y++C)∧
  aX A.length ((A.length+X.length+B.length:Nat):Int) X.length (A++X++B++Y++C)=A++Y++B++X++C:=by
 have hlen:(A++X++B++Y++C).length=A.length+X.length+B.length+Y.length+C.length:=by simp[Nat.add_assoc]
 have step:∀ j s,0≤j→j<0+Int.toNat (X.length:Int)→(∃ X1 X2 Y1 Y2,X=X1++X2∧Y=Y1++Y2∧X1.length=j∧Y1.length=j∧s=A++Y1++X2++B++X1++Y2++C)→
   bT A.length ((A.length+X.length+B.length:Nat):Int) X.length j s∧∀ s',bJ A.length ((A.length+X.length+B.length:Nat):Int) X.length j s=.inr s'→∃ X1 X2 Y1 Y2,X=X1++X2∧Y=Y1++Y2∧X1.length=j+1∧Y1.length=j+1∧s'=A++Y1++X2++B++X1++Y2++C:=by
  rintro j s _ hj ⟨X1,X2,Y1,Y2,hX,hY,h1,h2,rfl⟩;rw[Int.toNat_natCast,Nat.zero_add]at hj;have l1:X.length=X1.length+X2.length:=by rw[hX,List.length_append]
  have l2:Y.length=Y1.length+Y2.length:=by rw[hY,List.length_append]
  match X2,Y2,l1,l2,hX,hY with
  | [],_,l1,_,_,_=>simp at l1;omega
  |_::_,[],_,l2,_,_=>simp at l2;omega
  |x::X2,y::Y2,l1,l2,hX,hY=>
   simp only[List.length_cons]at l1 l2;have w1:i64.wrap ((A.length:Int)+(j:Int))=((A.length+j:Nat):Int):=by rw[aP (by omega) (by omega)];omega
   have w2:i64.wrap (((A.length+X.length+B.length:Nat):Int)+(j:Int))=((A.length+X.length+B.length+j:Nat):Int):=by rw[aP (by omega) (by omega)];omega
   have r1:A++Y1++x::X2++B++X1++y::Y2++C=(A++Y1)++x::(X2++B++X1++y::(Y2++C)):=by simp
   have r2:A++Y1++x::X2++B++X1++y::Y2++C=(A++Y1++x::X2++B++X1)++y::(Y2++C):=by simp
   have g1:(A++Y1++x::X2++B++X1++y::Y2++C).getD (A.length+j) default=x:=by rw[r1];exact kp _ _ _ _ (by simp;omega)
   have g2:(A++Y1++x::X2++B++X1++y::Y2++C).getD (A.length+X.length+B.length+j) default=y:=by rw[r2];exact kp _ _ _ _ (by simp;omega)
   have hL:(A++Y1++x::X2++B++X1++y::Y2++C).length=A.length+X.length+B.length+Y.length+C.length:=by simp;omega
   unfold bT bJ;simp only[w1,w2,Int.toNat_natCast,g1,g2,List.length_set,hL];refine⟨by omega,fun s' e=>?_⟩;cases e;refine⟨X1++[x],X2,Y1++[y],Y2,by rw[hX];simp,by rw[hY];simp,by simp[h1],by simp[h2],?_⟩;rw[r1,rh (A++Y1) x y _ (by simp;omega)];have r3:A++Y1++y::(X2++B++X1++y::(Y2++C))=(A++Y1++y::X2++B++X1)++y::(Y2++C):=by simp
   rw[r3,rh _ y x _ (by simp;omega)];simp
 have h0:∃ X1 X2 Y1 Y2,X=X1++X2∧Y=Y1++Y2∧X1.length=0∧Y1.length=0∧A++X++B++Y++C=A++Y1++X2++B++X1++Y2++C:=⟨[],X,[],Y,rfl,rfl,rfl,rfl,by simp⟩;have hJ:=zL (fun k s=>∃ X1 X2 Y1 Y2,X=X1++X2∧Y=Y1++Y2∧X1.length=k∧Y1.length=k∧s=A++Y1++X2++B++X1++Y2++C) (Int.toNat (X.length:Int)) 0 _ h0 (fun j s a b c=>(step j s a b c).2);unfold aS aX;refine⟨⟨by omega,lh (fun k s=>∃ X1 X2 Y1 Y2,X=X1++X2∧Y=Y1++Y2∧X1.length=k∧Y1.length=k∧s=A++Y1++X2++B++X1++Y2++C) _ 0 _ h0 step⟩,?_⟩;cases hr:am (bJ A.length ((A.length+X.length+B.length:Nat):Int) X.length) (Int.toNat (X.length:Int)) 0 (A++X++B++Y++C)with
 |inl x=>exact x.elim
 |inr r=>
  obtain⟨X1,X2,Y1,Y2,rfl,rfl,h1,h2,rfl⟩:=hJ r hr;rw[Int.toNat_natCast,Nat.zero_add]at h1 h2;have e1:X2=[]:=List.eq_nil_of_length_eq_zero (by rw[List.length_append]at h1;omega);have e2:Y2=[]:=List.eq_nil_of_length_eq_zero (by rw[hxy,List.length_append]at h2;omega);subst e1;subst e2;simp
theorem JT (A U V C:List Deed)(hU:U≠[])(hV:V≠[])(hl:(A++U++V++C).length<2 ^ 62):
  bq A.length ((A.length+U.length:Nat):Int) ((A.length+U.length+V.length:Nat):Int) (A++U++V++C)∧
  ax A.length ((A.length+U.length:Nat):Int) ((A.length+U.length+V.length:Nat):Int) (A++U++V++C)=A++V++U++C:=by
 have hlen:(A++U++V++C).length=A.length+U.length+V.length+C.length:=by simp[Nat.add_assoc]
 have w1:i64.wrap (((A.length+U.length:Nat):Int) - (A.length:Int))=(U.length:Int):=by rw[aP (by omega) (by omega)];omega
 have w2:i64.wrap (((A.length+U.length+V.length:Nat):Int) - ((A.length+U.length:Nat):Int))=(V.length:Int):=by rw[aP (by omega) (by omega)];omega
 have hm:∀ {M:Nat},M=A.length+U.length→∀ {F:List Deed},F=A++V++U++C→okI (bf A.length (M:Int) ((A.length+U.length+V.length:Nat):Int)) (cg A.length (M:Int) ((A.length+U.length+V.length:Nat):Int)) (Int.toNat (((A.length+U.length+V.length:Nat):Int) - (A.length:Int))+1) 0 (A++U++V++C,(U.length:Int),(V.length:Int))∧
   ∃ r,am (bf A.length (M:Int) ((A.length+U.length+V.length:Nat):Int)) (Int.toNat (((A.length+U.length+V.length:Nat):Int) - (A.length:Int))+1) 0 (A++U++V++C,(U.length:Int),(V.length:Int))=.inl r∧∃ A1 U1 V1 C1,r=((U1.length:Int),A1++U1++V1++C1)∧U1.length=V1.length∧A1.length+U1.length=M∧A1++V1++U1++C1=F:=by
  intro M hM F hF;refine wi (fun s:List Deed×Int×Int=>(s.2.1+s.2.2).toNat) (fun s:List Deed×Int×Int=>∃ A1 U1 V1 C1,s=(A1++U1++V1++C1,(U1.length:Int),(V1.length:Int))∧U1≠[]∧V1≠[]∧A1.length+U1.length=M∧A1++V1++U1++C1=F) _ ?_ _ _ _ ⟨A,U,V,C,rfl,hU,hV,hM.symm,hF.symm⟩ (by simp only;omega);rintro k s ⟨A1,U1,V1,C1,rfl,hU1,hV1,hM1,hF1⟩;have hFl:A1.length+V1.length+U1.length+C1.length<2 ^ 62:=by
   have:=congrArg List.length (hF1.trans hF);simp only[List.length_append]at this hl;omega
  have pU:0<U1.length:=List.length_pos_iff.2 hU1;have pV:0<V1.length:=List.length_pos_iff.2 hV1;unfold cg bf;have v1:i64.wrap ((M:Int) - (U1.length:Int))=(A1.length:Int):=by rw[aP (by omega) (by omega)];omega
  by_cases he:U1.length=V1.length
  ·have b1:(((U1.length:Int)) !=((V1.length:Int)))=false:=by simp[he]
   refine⟨fun h=>?_,.inl ⟨_,?_,A1,U1,V1,C1,rfl,he,hM1,hF1⟩⟩
   ·simp only[b1]at h;cases h
   ·simp only[b1,cond_false]
  ·have b1:(((U1.length:Int)) !=((V1.length:Int)))=true:=by simp only[bne_iff_ne,ne_eq];omega
   by_cases hgt:V1.length<U1.length
   ·have b2:decide (((U1.length:Int)) > ((V1.length:Int)))=true:=by rw[decide_eq_true_eq];omega
    have v2:i64.wrap ((U1.length:Int) - (V1.length:Int))=((U1.drop V1.length).length:Int):=by rw[aP (by omega) (by omega),List.length_drop];omega
    have hsp:U1=U1.take V1.length++U1.drop V1.length:=(List.take_append_drop _ _).symm;have ht:(U1.take V1.length).length=V1.length:=by rw[List.length_take];omega
    have hd:(U1.drop V1.length).length=U1.length - V1.length:=List.length_drop;have hsw:=DD A1 (U1.take V1.length) (U1.drop V1.length) V1 C1 ht (by simp only[List.length_append,ht,hd];omega);have e1:A1++U1.take V1.length++U1.drop V1.length++V1++C1=A1++U1++V1++C1:=by rw[List.append_assoc A1,List.take_append_drop]
    have e2:((A1.length+(U1.take V1.length).length+(U1.drop V1.length).length:Nat):Int)=(M:Int):=by rw[ht,hd];omega
    rw[e1,e2,ht]at hsw;simp only[b1,b2,v1,v2,cond_true];refine⟨fun _=>⟨fun _=>hsw.1,fun h=>by cases h⟩,.inr ⟨_,rfl,by simp only[hd];omega,A1++V1,U1.drop V1.length,U1.take V1.length,C1,?_,fun h=>?_,fun h=>?_,?_,?_⟩⟩
    ·rw[hsw.2,ht]
    ·rw[h]at hd;simp at hd;omega
    ·rw[h]at ht;simp at ht;omega
    ·rw[List.length_append,hd];omega
    ·rw[←hF1,List.append_assoc (A1++V1),List.take_append_drop]
   ·have b2:decide (((U1.length:Int)) > ((V1.length:Int)))=false:=by rw[decide_eq_false_iff_not];omega
    have v2:i64.wrap ((V1.length:Int) - (U1.length:Int))=((V1.take (V1.length - U1.length)).length:Int):=by rw[aP (by omega) (by omega),List.length_take];omega
    have v3:i64.wrap (i64.wrap ((M:Int)+(V1.length:Int)) - (U1.length:Int))=((A1.length+U1.length+(V1.take (V1.length - U1.length)).length:Nat):Int):=by
     rw[aP (n:=(M:Int)+(V1.length:Int)) (by omega) (by omega),aP (by omega) (by omega),List.length_take];omega
    have ht:(V1.take (V1.length - U1.length)).length=V1.length - U1.length:=by rw[List.length_take];omega
    have hd:(V1.drop (V1.length - U1.length)).length=U1.length:=by rw[List.length_drop];omega
    have hsw:=DD A1 U1 (V1.take (V1.length - U1.length)) (V1.drop (V1.length - U1.length)) C1 hd.symm (by simp only[List.length_append,ht,hd];omega);have e1:A1++U1++V1.take (V1.length - U1.length)++V1.drop (V1.length - U1.length)++C1=A1++U1++V1++C1:=by rw[List.append_assoc (A1++U1),List.take_append_drop]
    rw[e1]at hsw;simp only[b1,b2,v1,v2,v3,cond_true,cond_false];refine⟨fun _=>⟨(fun h=>by cases h),fun _=>hsw.1⟩,.inr ⟨_,rfl,by simp only[ht];omega,A1,V1.drop (V1.length - U1.length),V1.take (V1.length - U1.length),U1++C1,?_,fun h=>?_,fun h=>?_,by rw[hd];exact hM1,?_⟩⟩
    ·rw[hsw.2,hd];simp
    ·rw[h]at hd;simp at hd;omega
    ·rw[h]at ht;simp at ht;omega
    ·rw[←hF1,List.append_assoc A1,List.take_append_drop];simp
 obtain⟨k1,r,k2,A1,U1,V1,C1,rfl,q1,q2,q3⟩:=hm rfl rfl;have hFl:A1.length+V1.length+U1.length+C1.length<2 ^ 62:=by
  have:=congrArg List.length q3;simp only[List.length_append]at this hl;omega
 have v1:i64.wrap (((A.length+U.length:Nat):Int) - (U1.length:Int))=(A1.length:Int):=by rw[aP (by omega) (by omega)];omega
 have hsw:=DD A1 U1 [] V1 C1 q1 (by simp only[List.length_append,List.length_nil];omega);have e2:((A1.length+U1.length+([]:List Deed).length:Nat):Int)=((A.length+U.length:Nat):Int):=by rw[List.length_nil];omega
 rw[e2]at hsw;simp only[List.append_nil]at hsw;unfold bq ax;rw[w1,w2];refine⟨⟨k1,xW (Q:=fun _=>True) ⟨_,k2,trivial⟩,fun x hx=>?_⟩,?_⟩
 ·rw[k2]at hx;cases hx;simp only[v1];exact hsw.1
 ·rw[k2];simp only[v1];rw[hsw.2,q3]
theorem half {i j:Int}(h0:0≤i)(h1:i≤j)(h2:j≤2305843009213693952):i64.wrap (bw .u64 (u64.wrap (i64.wrap (i+j))) 1)=(i+j) / 2:=by
 have e0:i64.wrap (i+j)=i+j:=aP (by omega) (by omega);have e:u64.wrap (i+j)=i+j:=by
  unfold IntKind.wrap;simp[IntKind.bits,IntKind.signed];omega
 have e2:bw .u64 (i+j) 1=(i+j) / 2:=by
  show Int.fdiv (i+j) ((2:Int) ^ min (Int.toNat 1) u64.bits)=_;have:(2:Int) ^ min (Int.toNat 1) u64.bits=2:=by decide
  rw[this,Int.fdiv_eq_ediv_of_nonneg _ (by omega)]
 rw[e0,e,e2,aP (by omega) (by omega)]
theorem Iz {i j:Nat}(h1:i≤j)(h2:j<2 ^ 61):i64.wrap (bw .u64 (u64.wrap (i64.wrap ((i:Int)+(j:Int)))) 1)=(((i+j) / 2:Nat):Int):=by
 rw[half (by omega) (by omega) (by omega)];omega
theorem Hg {step:Nat→Int×Int→Int⊕(Int×Int)}{p:Nat→Int×Int→Prop}(P:Nat→Bool)(lo hi:Nat)(hlh:lo≤hi)(hmono:∀ x y,lo≤x→x≤y→y<hi→P y=true→P x=true)
  (hstep:∀ k (i j:Nat),lo≤i→i<j→j≤hi→p k ((i:Int),(j:Int))∧step k ((i:Int),(j:Int))=bif P ((i+j) / 2)then .inr ((((i+j) / 2+1:Nat):Int),(j:Int))else .inr ((i:Int),(((i+j) / 2:Nat):Int)))
  (hstop:∀ k (i:Nat),p k ((i:Int),(i:Int))∧step k ((i:Int),(i:Int))=.inl (i:Int)) (n k:Nat) (hn:hi - lo<n):
  okI step p n k ((lo:Int),(hi:Int))∧∃ r,am step n k ((lo:Int),(hi:Int))=.inl r∧∃ q:Nat,r=(q:Int)∧lo≤q∧q≤hi∧(∀ x,lo≤x→x<q→P x=true)∧∀ x,q≤x→x<hi→P x=false:=by
 refine wi (fun s:Int×Int=>(s.2 - s.1).toNat) (fun s:Int×Int=>∃ i j:Nat,s=((i:Int),(j:Int))∧lo≤i∧i≤j∧j≤hi∧(∀ x,lo≤x→x<i→P x=true)∧∀ x,j≤x→x<hi→P x=false) _ ?_ n k _ ⟨lo,hi,rfl,Nat.le_refl _,hlh,Nat.le_refl _,fun x h1 h2=>by omega,fun x h1 h2=>by omega⟩ (by simp only;omega);rintro k s ⟨i,j,rfl,h1,h2,h3,h4,h5⟩;by_cases h:i<j
 ·obtain⟨q1,q2⟩:=hstep k i j h1 h h3;refine⟨q1,.inr ?_⟩;have hm1:i≤(i+j) / 2:=by omega
  have hm2:(i+j) / 2<j:=by omega
  cases hP:P ((i+j) / 2)with
  |true=>
   rw[hP]at q2;refine⟨_,q2,by simp only;omega,(i+j) / 2+1,j,rfl,by omega,by omega,h3,fun x hx1 hx2=>?_,h5⟩;exact hmono x _ hx1 (by omega) (by omega) hP
  |false=>
   rw[hP]at q2;refine⟨_,q2,by simp only;omega,i,(i+j) / 2,rfl,h1,hm1,by omega,h4,fun x hx1 hx2=>?_⟩;cases hx:P x with
   |false=>rfl
   |true=>rw[hmono _ x (by omega) hx1 hx2 hx]at hP;cases hP
 ·have e:i=j:=by omega
  subst e;obtain⟨q1,q2⟩:=hstop k i;exact⟨q1,.inl ⟨_,q2,i,rfl,h1,h3,h4,h5⟩⟩
theorem Mo (A V C:List Deed)(x:Deed)(l_:List Deed)(hl:(A++x::V++C).length<2 ^ 62)(hfuel:(A++x::V++C).length=l_.length):
  okI (qZ l_ ((A.length+1+V.length:Nat):Int)) (qr l_ ((A.length+1+V.length:Nat):Int)) (l_.length+1) 0 (A++x::V++C,(A.length:Int))∧
  ∃ r,am (qZ l_ ((A.length+1+V.length:Nat):Int)) (l_.length+1) 0 (A++x::V++C,(A.length:Int))=.inl r∧r=A++V++x::C:=by
 have hlen:(A++x::V++C).length=A.length+V.length+C.length+1:=by simp;omega
 have w0:i64.wrap (((A.length+1+V.length:Nat):Int) - 1)=((A.length+V.length:Nat):Int):=by rw[aP (by omega) (by omega)];omega
 refine wi (fun s:List Deed×Int=>(((A.length+V.length:Nat):Int) - s.2).toNat) (fun s:List Deed×Int=>∃ V1 V2,V=V1++V2∧s=(A++V1++x::(V2++C),((A.length+V1.length:Nat):Int))) (fun r=>r=A++V++x::C) ?_ _ _ _ ⟨[],V,rfl,by simp⟩ (by simp only;omega);rintro k s ⟨V1,V2,hV,rfl⟩;have hVl:V.length=V1.length+V2.length:=by rw[hV,List.length_append]
 unfold qr qZ;rw[w0];cases V2 with
 |nil=>
  have e:decide (((A.length+V1.length:Nat):Int) < ((A.length+V.length:Nat):Int))=false:=by rw[decide_eq_false_iff_not,hVl,List.length_nil];omega
  refine⟨fun h=>?_,.inl ⟨A++V1++x::([]++C),?_,by rw[hV];simp⟩⟩
  ·simp only[e]at h;cases h
  ·simp only[e,cond_false]
 |cons y V2=>
  simp only[List.length_cons]at hVl;have e:decide (((A.length+V1.length:Nat):Int) < ((A.length+V.length:Nat):Int))=true:=by rw[decide_eq_true_eq];omega
  have w1:i64.wrap (((A.length+V1.length:Nat):Int)+1)=((A.length+V1.length+1:Nat):Int):=by rw[aP (by omega) (by omega)];omega
  have g1:(A++V1++x::(y::V2++C)).getD (A.length+V1.length) default=x:=kp _ _ _ _ (by simp);have r1:A++V1++x::(y::V2++C)=(A++V1++[x])++y::(V2++C):=by simp
  have g2:(A++V1++x::(y::V2++C)).getD (A.length+V1.length+1) default=y:=by rw[r1];exact kp _ _ _ _ (by simp;omega)
  have hL:(A++V1++x::(y::V2++C)).length=A.length+V.length+C.length+1:=by simp;omega
  simp only[e,w1,Int.toNat_natCast,g1,g2,List.length_set,hL,cond_true];refine⟨fun _=>by omega,.inr ⟨_,rfl,by simp only;omega,V1++[y],V2,by rw[hV];simp,?_⟩⟩;rw[rh (A++V1) x y _ (by simp)];have r2:A++V1++y::(y::V2++C)=(A++V1++[y])++y::(V2++C):=by simp
  rw[r2,rh (A++V1++[y]) y x _ (by simp;omega)];simp[Nat.add_assoc]
theorem Hh (A U C:List Deed)(x:Deed)(l_:List Deed)(hl:(A++U++x::C).length<2 ^ 62)(hfuel:(A++U++x::C).length=l_.length):
  okI (q_ l_ (A.length:Int)) (qs l_ (A.length:Int)) (l_.length+1) 0 (A++U++x::C,((A.length+U.length:Nat):Int))∧
  ∃ r,am (q_ l_ (A.length:Int)) (l_.length+1) 0 (A++U++x::C,((A.length+U.length:Nat):Int))=.inl r∧r=A++x::(U++C):=by
 have hlen:(A++U++x::C).length=A.length+U.length+C.length+1:=by simp;omega
 refine wi (fun s:List Deed×Int=>(s.2 - (A.length:Int)).toNat) (fun s:List Deed×Int=>∃ W1 W2,U=W1++W2∧s=(A++W1++x::(W2++C),((A.length+W1.length:Nat):Int))) (fun r=>r=A++x::(U++C)) ?_ _ _ _ ⟨U,[],by simp,by simp⟩ (by simp only;omega);rintro k s ⟨W1,W2,hU,rfl⟩;have hUl:U.length=W1.length+W2.length:=by rw[hU,List.length_append]
 unfold qs q_;rcases List.eq_nil_or_concat W1 with rfl| ⟨W1,y,rfl⟩
 ·have e:decide (((A.length+([]:List Deed).length:Nat):Int) > (A.length:Int))=false:=by simp
  refine⟨fun h=>?_,.inl ⟨A++[]++x::(W2++C),?_,by rw[hU];simp⟩⟩
  ·simp only[e]at h;cases h
  ·simp only[e,cond_false]
 ·simp only[List.concat_eq_append,List.length_append,List.length_cons,List.length_nil]at hUl hU ⊢;have e:decide (((A.length+(W1.length+(0+1)):Nat):Int) > (A.length:Int))=true:=by rw[decide_eq_true_eq];omega
  have w1:i64.wrap (((A.length+(W1.length+(0+1)):Nat):Int) - 1)=((A.length+W1.length:Nat):Int):=by rw[aP (by omega) (by omega)];omega
  have g1:(A++(W1++[y])++x::(W2++C)).getD (A.length+(W1.length+(0+1))) default=x:=kp _ _ _ _ (by simp);have r1:A++(W1++[y])++x::(W2++C)=(A++W1)++y::x::(W2++C):=by simp
  have g2:(A++(W1++[y])++x::(W2++C)).getD (A.length+W1.length) default=y:=by rw[r1];exact kp _ _ _ _ (by simp)
  have hL:(A++(W1++[y])++x::(W2++C)).length=A.length+U.length+C.length+1:=by simp;omega
  simp only[e,w1,Int.toNat_natCast,g1,g2,List.length_set,hL,cond_true];refine⟨fun _=>by omega,.inr ⟨_,rfl,by simp only;omega,W1,y::W2,by rw[hU];simp,?_⟩⟩;rw[rh (A++(W1++[y])) x y _ (by simp)];have r2:A++(W1++[y])++y::(W2++C)=(A++W1)++y::y::(W2++C):=by simp
  rw[r2,rh (A++W1) y x _ (by simp)];simp
theorem wj {α:Type}(A V C:List α)(d:α){h:Nat}(h1:A.length≤h)(h2:h<A.length+V.length):(A++V++C).getD h d=V.getD (h - A.length) d:=by
 simp only[List.getD_eq_getElem?_getD];rw[List.append_assoc,List.getElem?_append_right h1,List.getElem?_append_left (by omega)]
theorem yB {α:Type}(l:List α)(d:α){n:Nat}(h:n<l.length):l.getD n d=l[n]:=by
 simp[List.getD_eq_getElem?_getD,List.getElem?_eq_getElem h]
theorem ny {V:List Deed}(h:Srt V){i j:Nat}(h1:i≤j)(h2:j<V.length):(V.getD i default).at_≤(V.getD j default).at_:=by
 rcases Nat.eq_or_lt_of_le h1 with rfl|h1
 ·exact Int.le_refl _
 ·rw[yB V _ (by omega),yB V _ h2];exact List.pairwise_iff_getElem.1 h i j (by omega) h2 h1
theorem wl {V:List Deed}{k:Nat}{y:Deed}(h:y∈V.take k):∃ i,i<k∧i<V.length∧y=V.getD i default:=by
 obtain⟨i,hi,e⟩:=List.mem_iff_getElem.1 h;rw[List.length_take]at hi;refine⟨i,by omega,by omega,?_⟩;rw[yB V _ (by omega),←e,List.getElem_take]
theorem wn {V:List Deed}{k:Nat}{y:Deed}(h:y∈V.drop k):∃ i,k≤i∧i<V.length∧y=V.getD i default:=by
 obtain⟨i,hi,e⟩:=List.mem_iff_getElem.1 h;rw[List.length_drop]at hi;refine⟨k+i,by omega,by omega,?_⟩;rw[yB V _ (by omega),←e,List.getElem_drop]
theorem yC {a b:List Deed}(h:Srt (a++b)):Srt a∧Srt b∧∀ x∈a,∀ y∈b,x.at_≤y.at_:=List.pairwise_append.1 h
theorem xh {a b:List Deed}(h1:Srt a)(h2:Srt b)(h3:∀ x∈a,∀ y∈b,x.at_≤y.at_):Srt (a++b):=List.pairwise_append.2 ⟨h1,h2,h3⟩
def Qk (n:Nat)(rec_:Int→Int→Int→List Deed→List Deed)(recp_:Int→Int→Int→List Deed→Prop):Prop:=
 ∀ A U V C:List Deed,U≠[]→V≠[]→U.length+V.length≤n→(A++U++V++C).length<2 ^ 60→Srt U→Srt V→
  recp_ (A.length:Int) ((A.length+U.length:Nat):Int) ((A.length+U.length+V.length:Nat):Int) (A++U++V++C)∧
  ∃ M,rec_ (A.length:Int) ((A.length+U.length:Nat):Int) ((A.length+U.length+V.length:Nat):Int) (A++U++V++C)=A++M++C∧SameF (U++V) M∧Srt M∧M.length=U.length+V.length
theorem Hi (rec_:Int→Int→Int→List Deed→List Deed)(recp_:Int→Int→Int→List Deed→Prop)(A V C:List Deed)(x:Deed)(hl:(A++[x]++V++C).length<2 ^ 60)(hV:Srt V):
  ra rec_ recp_ (A.length:Int) ((A.length+1:Nat):Int) ((A.length+1+V.length:Nat):Int) (A++[x]++V++C)∧
  ∃ M,Dp rec_ recp_ (A.length:Int) ((A.length+1:Nat):Int) ((A.length+1+V.length:Nat):Int) (A++[x]++V++C)=A++M++C∧SameF ([x]++V) M∧Srt M∧M.length=1+V.length:=by
 have hL:(A++[x]++V++C).length=A.length+V.length+C.length+1:=by simp;omega
 have w:i64.wrap (((A.length+1:Nat):Int) - (A.length:Int))=1:=by rw[aP (by omega) (by omega)];omega
 have gx:(A++[x]++V++C).getD A.length default=x:=by
  have:A++[x]++V++C=A++x::(V++C):=by simp
  rw[this];exact kp _ _ _ _ rfl
 have gV:∀ h,A.length+1≤h→h<A.length+1+V.length→(A++[x]++V++C).getD h default=V.getD (h - (A.length+1)) default:=fun h h1 h2=>by
  have:=wj (A++[x]) V C default (h:=h) (by simp;omega) (by simp;omega);simpa using this
 have s:=Hg (step:=lH (A.length:Int) (A++[x]++V++C)) (p:=ov (A.length:Int) (A++[x]++V++C)) (fun h=>decide ((V.getD (h - (A.length+1)) default).at_<x.at_)) (A.length+1) (A.length+1+V.length) (by omega)
  (fun i j h1 h2 h3 h4=>by
   have:=ny hV (i:=i - (A.length+1)) (j:=j - (A.length+1)) (by omega) (by omega);simp only[decide_eq_true_eq]at h4 ⊢;omega)
  (fun k i j h1 h2 h3=>by
   have e:decide ((i:Int) < (j:Int))=true:=by rw[decide_eq_true_eq];omega
   unfold ov lH;simp only[Iz (i:=i) (j:=j) (by omega) (by omega),e,cond_true,Int.toNat_natCast,gx,gV ((i+j) / 2) (by omega) (by omega),Iy,hL];have w2:i64.wrap ((((i+j) / 2:Nat):Int)+1)=(((i+j) / 2+1:Nat):Int):=by rw[aP (by omega) (by omega)];omega
   rw[w2];exact⟨fun _=>by omega,rfl⟩)
  (fun k i=>by
   have e:decide ((i:Int) < (i:Int))=false:=by simp
   unfold ov lH;simp only[e,cond_false];exact⟨fun h=>by simp at h,trivial⟩) ((A++[x]++V++C).length+1) 0 (by omega)
 obtain⟨s1,r,s2,q,rfl,q1,q2,q3,q4⟩:=s;have ht:(V.take (q - (A.length+1))).length=q - (A.length+1):=by rw[List.length_take];omega
 have hVs:V.take (q - (A.length+1))++V.drop (q - (A.length+1))=V:=List.take_append_drop _ _;have hd1:∀ y∈V.take (q - (A.length+1)),y.at_<x.at_:=fun y hy=>by
  obtain⟨i,i1,i2,rfl⟩:=wl hy;have:=q3 (A.length+1+i) (by omega) (by omega);simpa[show A.length+1+i - (A.length+1)=i by omega]using this
 have hd2:∀ y∈V.drop (q - (A.length+1)),x.at_≤y.at_:=fun y hy=>by
  obtain⟨i,i1,i2,rfl⟩:=wn hy;have:=q4 (A.length+1+i) (by omega) (by omega);simpa[show A.length+1+i - (A.length+1)=i by omega]using this
 generalize hV1:V.take (q - (A.length+1))=V1 at *;generalize hV2:V.drop (q - (A.length+1))=V2 at *;subst hVs;have eq:A++[x]++(V1++V2)++C=A++x::V1++(V2++C):=by simp
 obtain⟨c1,r,c2,rfl⟩:=Mo A V1 (V2++C) x (A++[x]++(V1++V2)++C) (by rw[←eq];omega) (by rw[eq]);have eqq:((A.length+1+V1.length:Nat):Int)=(q:Int):=by rw[ht];omega
 rw[←eq,eqq]at c1 c2;unfold ra Dp;rw[w];refine⟨⟨fun _=>⟨s1,xW (Q:=fun _=>True) ⟨_,s2,trivial⟩,fun z hz=>?_⟩,fun h=>by cases h⟩,V1++[x]++V2,?_,?_,?_,?_⟩
 ·rw[s2]at hz;cases hz;exact⟨c1,xW (Q:=fun _=>True) ⟨_,c2,trivial⟩⟩
 ·rw[s2];simp only[BEq.rfl,cond_true];rw[c2];simp
 ·have h0:SameF ([x]++V1) (V1++[x]):=SameF.swap fun a ha b hb=>by simp at ha;subst ha;have:=hd1 b hb;omega
  simpa using h0.app (SameF.refl V2)
 ·obtain⟨a1,a2,a3⟩:=yC hV;refine xh (xh a1 (List.pairwise_singleton _ _) fun y hy z hz=>?_) a2 fun y hy z hz=>?_
  ·simp at hz;subst hz;exact Int.le_of_lt (hd1 y hy)
  ·rcases List.mem_append.1 hy with hy|hy
   ·exact a3 y hy z hz
   ·simp at hy;subst hy;exact hd2 z hz
 ·simp;omega
theorem Fq (rec_:Int→Int→Int→List Deed→List Deed)(recp_:Int→Int→Int→List Deed→Prop)(A U C:List Deed)(x:Deed)(hU2:2≤U.length)(hl:(A++U++[x]++C).length<2 ^ 60)(hU:Srt U):
  ra rec_ recp_ (A.length:Int) ((A.length+U.length:Nat):Int) ((A.length+U.length+1:Nat):Int) (A++U++[x]++C)∧
  ∃ M,Dp rec_ recp_ (A.length:Int) ((A.length+U.length:Nat):Int) ((A.length+U.length+1:Nat):Int) (A++U++[x]++C)=A++M++C∧SameF (U++[x]) M∧Srt M∧M.length=U.length+1:=by
 have hL:(A++U++[x]++C).length=A.length+U.length+C.length+1:=by simp;omega
 have w1:i64.wrap (((A.length+U.length:Nat):Int) - (A.length:Int))=(U.length:Int):=by rw[aP (by omega) (by omega)];omega
 have w:i64.wrap (((A.length+U.length+1:Nat):Int) - ((A.length+U.length:Nat):Int))=1:=by rw[aP (by omega) (by omega)];omega
 have b1:((U.length:Int) ==1)=false:=by simp;omega
 have gx:(A++U++[x]++C).getD (A.length+U.length) default=x:=by
  have:A++U++[x]++C=(A++U)++x::C:=by simp
  rw[this];exact kp _ _ _ _ (by simp)
 have gU:∀ h,A.length≤h→h<A.length+U.length→(A++U++[x]++C).getD h default=U.getD (h - A.length) default:=fun h h1 h2=>by
  have:=wj A U ([x]++C) default (h:=h) h1 h2;simpa using this
 have s:=Hg (step:=lI ((A.length+U.length:Nat):Int) (A++U++[x]++C)) (p:=ow ((A.length+U.length:Nat):Int) (A++U++[x]++C)) (fun h=>!decide (x.at_< (U.getD (h - A.length) default).at_)) A.length (A.length+U.length) (by omega)
  (fun i j h1 h2 h3 h4=>by
   have:=ny hU (i:=i - A.length) (j:=j - A.length) (by omega) (by omega);simp only[Bool.not_eq_true',decide_eq_false_iff_not]at h4 ⊢;omega)
  (fun k i j h1 h2 h3=>by
   have e:decide ((i:Int) < (j:Int))=true:=by rw[decide_eq_true_eq];omega
   unfold ow lI;simp only[Iz (i:=i) (j:=j) (by omega) (by omega),e,cond_true,Int.toNat_natCast,gx,gU ((i+j) / 2) (by omega) (by omega),Iy,hL];have w2:i64.wrap ((((i+j) / 2:Nat):Int)+1)=(((i+j) / 2+1:Nat):Int):=by rw[aP (by omega) (by omega)];omega
   rw[w2];exact⟨fun _=>by omega,rfl⟩)
  (fun k i=>by
   have e:decide ((i:Int) < (i:Int))=false:=by simp
   unfold ow lI;simp only[e,cond_false];exact⟨fun h=>by simp at h,trivial⟩) ((A++U++[x]++C).length+1) 0 (by omega)
 obtain⟨s1,r,s2,q,rfl,q1,q2,q3,q4⟩:=s;have ht:(U.take (q - A.length)).length=q - A.length:=by rw[List.length_take];omega
 have hd:(U.drop (q - A.length)).length=U.length - (q - A.length):=List.length_drop;have hUs:U.take (q - A.length)++U.drop (q - A.length)=U:=List.take_append_drop _ _;have hd1:∀ y∈U.take (q - A.length),y.at_≤x.at_:=fun y hy=>by
  obtain⟨i,i1,i2,rfl⟩:=wl hy;have:=q3 (A.length+i) (by omega) (by omega);simpa[show A.length+i - A.length=i by omega]using this
 have hd2:∀ y∈U.drop (q - A.length),x.at_<y.at_:=fun y hy=>by
  obtain⟨i,i1,i2,rfl⟩:=wn hy;have:=q4 (A.length+i) (by omega) (by omega);simpa[show A.length+i - A.length=i by omega]using this
 generalize hV1:U.take (q - A.length)=V1 at *;generalize hV2:U.drop (q - A.length)=V2 at *;subst hUs;have eq:A++(V1++V2)++[x]++C=(A++V1)++V2++x::C:=by simp
 obtain⟨c1,r,c2,rfl⟩:=Hh (A++V1) V2 C x (A++(V1++V2)++[x]++C) (by rw[←eq];omega) (by rw[eq]);have eqq:(((A++V1).length:Nat):Int)=(q:Int):=by rw[List.length_append,ht];omega
 have eqm:(((A++V1).length+V2.length:Nat):Int)=((A.length+(V1++V2).length:Nat):Int):=by simp only[List.length_append];omega
 rw[←eq,eqm,eqq]at c1 c2;unfold ra Dp;rw[w1,w];refine⟨⟨fun h=>(by rw[b1]at h;cases h),fun _=>⟨fun _=>⟨s1,xW (Q:=fun _=>True) ⟨_,s2,trivial⟩,fun z hz=>?_⟩,fun h=>by cases h⟩⟩,V1++[x]++V2,?_,?_,?_,?_⟩
 ·rw[s2]at hz;cases hz;exact⟨c1,xW (Q:=fun _=>True) ⟨_,c2,trivial⟩⟩
 ·rw[s2];simp only[b1,BEq.rfl,cond_true,cond_false];rw[c2];simp
 ·have h0:SameF (V2++[x]) ([x]++V2):=SameF.swap fun a ha b hb=>by simp at hb;subst hb;have:=hd2 a ha;omega
  simpa using (SameF.refl V1).app h0
 ·obtain⟨a1,a2,a3⟩:=yC hU;refine xh (xh a1 (List.pairwise_singleton _ _) fun y hy z hz=>?_) a2 fun y hy z hz=>?_
  ·simp at hz;subst hz;exact hd1 y hy
  ·rcases List.mem_append.1 hy with hy|hy
   ·exact a3 y hy z hz
   ·simp at hy;subst hy;exact Int.le_of_lt (hd2 z hz)
 ·simp;omega
def stI (x:Deed):List Deed→List Deed
 | [] =>[x]
 |y::r=>if x.at_≤y.at_ then x::y::r else y::stI x r
def stS:List Deed→List Deed
 | [] =>[]
 |x::r=>stI x (stS r)
theorem AB (x:Deed):∀ l,SameF (x::l) (stI x l)
 | [] =>SameF.refl _
 |y::r=>by
  unfold stI;by_cases h:x.at_≤y.at_
  ·rw[if_pos h];exact SameF.refl _
  ·rw[if_neg h];have h1:SameF ([x]++[y]++r) ([y]++[x]++r):=(SameF.swap fun a ha b hb=>by simp at ha hb;subst ha;subst hb;omega).app (SameF.refl r);exact h1.trans ((SameF.refl [y]).app (AB x r))
theorem SameF.symm {a b:List Deed}(h:SameF a b):SameF b a:=fun t=>(h t).symm
theorem SameF.mem {a b:List Deed}(h:SameF a b){x:Deed}(hx:x∈a):x∈b:=by
 have:x∈a.filter fun y=>y.at_==x.at_:=by rw[List.mem_filter];exact⟨hx,by simp⟩
 rw[h x.at_]at this;exact(List.mem_filter.1 this).1
theorem SameF.mem_iff {a b:List Deed}(h:SameF a b){x:Deed}:x∈a↔x∈b:=⟨h.mem,h.symm.mem⟩
theorem IA (x:Deed):∀ l,Srt l→Srt (stI x l)
 | [],_=>List.pairwise_singleton _ _
 |y::r,h=>by
  unfold stI;have h':=List.pairwise_cons.1 h;by_cases hc:x.at_≤y.at_
  ·rw[if_pos hc];exact List.pairwise_cons.2 ⟨fun z hz=>by
    rcases List.mem_cons.1 hz with rfl|hz
    ·exact hc
    ·exact Int.le_trans hc (h'.1 z hz),h⟩
  ·rw[if_neg hc];refine List.pairwise_cons.2 ⟨fun z hz=>?_,IA x r h'.2⟩;have:=(AB x r).symm.mem hz;rcases List.mem_cons.1 this with rfl|hz'
   ·omega
   ·exact h'.1 z hz'
theorem sW:∀ l,SameF l (stS l)
 | [] =>SameF.refl _
 |x::r=>((SameF.refl [x]).app (sW r)).trans (AB x _)
theorem DE:∀ l,Srt (stS l)
 | [] =>List.Pairwise.nil
 |x::r=>IA x _ (DE r)
theorem xX:∀ {a b:List Deed},Srt a→Srt b→SameF a b→a=b
 | [],[],_,_,_=>rfl
 | [],y::b,_,_,h=>absurd (h.symm.mem (List.mem_cons_self)) (by simp)
 |x::a,[],_,_,h=>absurd (h.mem (List.mem_cons_self)) (by simp)
 |x::a,y::b,ha,hb,h=>by
  have ha':=List.pairwise_cons.1 ha;have hb':=List.pairwise_cons.1 hb;have e:x.at_=y.at_:=by
   have h1:=h.mem (List.mem_cons_self (a:=x) (l:=a));have h2:=h.symm.mem (List.mem_cons_self (a:=y) (l:=b));have q1:y.at_≤x.at_:=by
    rcases List.mem_cons.1 h1 with e|h1
    ·rw[e];exact Int.le_refl _
    ·exact hb'.1 x h1
   have q2:x.at_≤y.at_:=by
    rcases List.mem_cons.1 h2 with e|h2
    ·rw[e];exact Int.le_refl _
    ·exact ha'.1 y h2
   omega
  have h0:=h x.at_;have ey:(y.at_==x.at_)=true:=by simp[e]
  have ex:(x.at_==x.at_)=true:=by simp
  simp only[List.filter_cons,ex,ey,if_true]at h0;obtain⟨exy,htl⟩:=List.cons.inj h0;subst exy;have:SameF a b:=fun t=>by
   have ht:=h t;simp only[List.filter_cons]at ht;by_cases hc:(x.at_==t)=true
   ·rw[if_pos hc,if_pos hc]at ht;exact(List.cons.inj ht).2
   ·rw[if_neg hc,if_neg hc]at ht;exact ht
  rw[xX ha'.2 hb'.2 this]
theorem uX {a b:List Deed}(h:SameF a b)(hb:Srt b):b=stS a:=xX hb (DE a) (h.symm.trans (sW a))
theorem SameF.filter {a b:List Deed}(p:Deed→Bool)(h:SameF a b):SameF (a.filter p) (b.filter p):=fun t=>by
 rw[List.filter_filter,List.filter_filter,List.filter_congr (q:=fun x=>p x&&(x.at_==t)) fun x _=>Bool.and_comm _ _,←List.filter_filter,h t,List.filter_filter,List.filter_congr (p:=fun x=>p x&&(x.at_==t)) (q:=fun x=>(x.at_==t)&&p x) fun x _=>Bool.and_comm _ _]
theorem Pc {l:List Deed}{x:Deed}:x∈stS l↔x∈l:=(sW l).symm.mem_iff
theorem WJ {c1 c2 c3:Bool}{l rot:List Deed}(f1 f2:List Deed→List Deed):
  (bif c1 then(bif c2 then(bif c3 then f2 (f1 rot)else f1 rot)else(bif c3 then f2 rot else rot))else(bif c2 then(bif c3 then f2 (f1 l)else f1 l)else(bif c3 then f2 l else l)))=(bif c3 then f2 (bif c2 then f1 (bif c1 then rot else l)else(bif c1 then rot else l))else(bif c2 then f1 (bif c1 then rot else l)else(bif c1 then rot else l))):=by
 cases c1 <;>cases c2 <;>cases c3 <;>rfl
theorem Sp {c1 c2 c3:Bool}{l rot:List Deed}{rp:Prop}(f1:List Deed→List Deed)(p1 p2:List Deed→Prop)(h1:c1=true→rp)(h2:c2=true→p1 (bif c1 then rot else l))(h3:c3=true→p2 (bif c2 then f1 (bif c1 then rot else l)else(bif c1 then rot else l))):
  ((c1=true→(rp∧((c2=true→(p1 rot∧(c3=true→p2 (f1 rot))))∧(c2=false→c3=true→p2 rot))))∧(c1=false→((c2=true→(p1 l∧(c3=true→p2 (f1 l))))∧(c2=false→c3=true→p2 l)))):=by
 cases c1 <;>cases c2 <;>cases c3 <;>simp_all
theorem Hj {N:Nat}{rec_:Int→Int→Int→List Deed→List Deed}{recp_:Int→Int→Int→List Deed→Prop}(hr:Qk N rec_ recp_)(A U V C:List Deed)(hU2:2≤U.length)(hV2:2≤V.length)(hN:U.length+V.length≤N+1)(hl:(A++U++V++C).length<2 ^ 60)(hU:Srt U)(hV:Srt V):
  ra rec_ recp_ (A.length:Int) ((A.length+U.length:Nat):Int) ((A.length+U.length+V.length:Nat):Int) (A++U++V++C)∧
  ∃ M,Dp rec_ recp_ (A.length:Int) ((A.length+U.length:Nat):Int) ((A.length+U.length+V.length:Nat):Int) (A++U++V++C)=A++M++C∧SameF (U++V) M∧Srt M∧M.length=U.length+V.length:=by
 have hL:(A++U++V++C).length=A.length+U.length+V.length+C.length:=by simp[Nat.add_assoc]
 have gU:∀ h,A.length≤h→h<A.length+U.length→(A++U++V++C).getD h default=U.getD (h - A.length) default:=fun h h1 h2=>by
  have:=wj A U (V++C) default (h:=h) h1 h2;simpa using this
 have gV:∀ h,A.length+U.length≤h→h<A.length+U.length+V.length→(A++U++V++C).getD h default=V.getD (h - (A.length+U.length)) default:=fun h h1 h2=>by
  have:=wj (A++U) V C default (h:=h) (by simp;omega) (by simp;omega);simpa using this
 have hmid:i64.wrap (bw .u64 (u64.wrap (i64.wrap ((A.length:Int)+((A.length+U.length+V.length:Nat):Int)))) 1)=((A.length+(U.length+V.length) / 2:Nat):Int):=by
  rw[Iz (by omega) (by omega)];omega
 generalize hmd:A.length+(U.length+V.length) / 2=mid at *;have hn:i64.wrap ((mid:Int)+((A.length+U.length:Nat):Int))=((mid+(A.length+U.length):Nat):Int):=by rw[aP (by omega) (by omega)];omega
 have hp1:i64.wrap (((mid+(A.length+U.length):Nat):Int) - 1)=((mid+(A.length+U.length) - 1:Nat):Int):=by rw[aP (by omega) (by omega)];omega
 have w1:i64.wrap (((A.length+U.length:Nat):Int) - (A.length:Int))=(U.length:Int):=by rw[aP (by omega) (by omega)];omega
 have w2:i64.wrap (((A.length+U.length+V.length:Nat):Int) - ((A.length+U.length:Nat):Int))=(V.length:Int):=by rw[aP (by omega) (by omega)];omega
 have b1:((U.length:Int) ==1)=false:=by simp;omega
 have b2:((V.length:Int) ==1)=false:=by simp;omega
 obtain⟨lo,elo,hlo⟩:∃ lo:Nat,(bif decide (((A.length+U.length:Nat):Int) > (mid:Int))then i64.wrap (((mid+(A.length+U.length):Nat):Int) - ((A.length+U.length+V.length:Nat):Int))else(A.length:Int))=(lo:Int)∧((mid<A.length+U.length∧lo+V.length=mid)∨(A.length+U.length≤mid∧lo=A.length)):=by
  by_cases h:mid<A.length+U.length
  ·refine⟨mid - V.length,?_,.inl ⟨h,by omega⟩⟩;rw[decide_eq_true (by omega),cond_true,aP (by omega) (by omega)];omega
  ·refine⟨A.length,?_,.inr ⟨by omega,rfl⟩⟩;rw[decide_eq_false (by omega),cond_false]
 obtain⟨hi,ehi,hhi⟩:∃ hi:Nat,(bif decide (((A.length+U.length:Nat):Int) > (mid:Int))then(mid:Int)else((A.length+U.length:Nat):Int))=(hi:Int)∧((mid<A.length+U.length∧hi=mid)∨(A.length+U.length≤mid∧hi=A.length+U.length)):=by
  by_cases h:mid<A.length+U.length
  ·exact⟨mid,by rw[decide_eq_true (by omega),cond_true],.inl ⟨h,rfl⟩⟩
  ·exact⟨A.length+U.length,by rw[decide_eq_false (by omega),cond_false],.inr ⟨by omega,rfl⟩⟩
 have s:=Hg (step:=pn (A.length:Int) ((A.length+U.length:Nat):Int) ((A.length+U.length+V.length:Nat):Int) (A++U++V++C)) (p:=ox (A.length:Int) ((A.length+U.length:Nat):Int) ((A.length+U.length+V.length:Nat):Int) (A++U++V++C)) (fun c=>!decide ((V.getD (mid - 1 - c) default).at_< (U.getD (c - A.length) default).at_)) lo hi (by omega)
  (fun i j h1 h2 h3 h4=>by
   have q1:=ny hU (i:=i - A.length) (j:=j - A.length) (by omega) (by omega);have q2:=ny hV (i:=mid - 1 - j) (j:=mid - 1 - i) (by omega) (by omega);simp only[Bool.not_eq_true',decide_eq_false_iff_not]at h4 ⊢;omega)
  (fun k i j h1 h2 h3=>by
   have e:decide ((i:Int) < (j:Int))=true:=by rw[decide_eq_true_eq];omega
   have hc:i64.wrap (((mid+(A.length+U.length) - 1:Nat):Int) - (((i+j) / 2:Nat):Int))=((mid+(A.length+U.length) - 1 - (i+j) / 2:Nat):Int):=by rw[aP (by omega) (by omega)];omega
   have e2:mid+(A.length+U.length) - 1 - (i+j) / 2 - (A.length+U.length)=mid - 1 - (i+j) / 2:=by omega
   unfold ox pn;simp only[hmid,hn,hp1,Iz (i:=i) (j:=j) (by omega) (by omega),e,cond_true,hc,Int.toNat_natCast,gU ((i+j) / 2) (by omega) (by omega),gV (mid+(A.length+U.length) - 1 - (i+j) / 2) (by omega) (by omega),e2,Iy,hL];have w2:i64.wrap ((((i+j) / 2:Nat):Int)+1)=(((i+j) / 2+1:Nat):Int):=by rw[aP (by omega) (by omega)];omega
   rw[w2];exact⟨fun _=>by omega,rfl⟩)
  (fun k i=>by
   have e:decide ((i:Int) < (i:Int))=false:=by simp
   unfold ox pn;simp only[e,cond_false];exact⟨fun h=>by simp at h,trivial⟩) ((A++U++V++C).length+1) 0 (by omega)
 obtain⟨s1,r,s2,q,rfl,q1,q2,q3,q4⟩:=s;have hend:i64.wrap (((mid+(A.length+U.length):Nat):Int) - (q:Int))=((mid+(A.length+U.length) - q:Nat):Int):=by rw[aP (by omega) (by omega)];omega
 have hUs:U.take (q - A.length)++U.drop (q - A.length)=U:=List.take_append_drop _ _;have hVs:V.take (mid - q)++V.drop (mid - q)=V:=List.take_append_drop _ _;have lU1:(U.take (q - A.length)).length=q - A.length:=by rw[List.length_take];omega
 have lU2:(U.drop (q - A.length)).length=A.length+U.length - q:=by rw[List.length_drop];omega
 have lV1:(V.take (mid - q)).length=mid - q:=by rw[List.length_take];omega
 have lV2:(V.drop (mid - q)).length=V.length+q - mid:=by rw[List.length_drop];omega
 have k1:∀ x∈U.take (q - A.length),∀ y∈V.drop (mid - q),x.at_≤y.at_:=fun x hx y hy=>by
  obtain⟨i,i1,i2,rfl⟩:=wl hx;obtain⟨j,j1,j2,rfl⟩:=wn hy;have:=q3 (q - 1) (by omega) (by omega);have p1:=ny hU (i:=i) (j:=q - 1 - A.length) (by omega) (by omega);have p2:=ny hV (i:=mid - 1 - (q - 1)) (j:=j) (by omega) (by omega);simp only[Bool.not_eq_true',decide_eq_false_iff_not]at this;omega
 have k2:∀ x∈U.drop (q - A.length),∀ y∈V.take (mid - q),y.at_<x.at_:=fun x hx y hy=>by
  obtain⟨i,i1,i2,rfl⟩:=wn hx;obtain⟨j,j1,j2,rfl⟩:=wl hy;have:=q4 q (by omega) (by omega);have p1:=ny hU (i:=q - A.length) (j:=i) (by omega) (by omega);have p2:=ny hV (i:=j) (j:=mid - 1 - q) (by omega) (by omega);simp only[Bool.not_eq_false',decide_eq_true_eq]at this;omega
 generalize hE1:U.take (q - A.length)=U1 at *;generalize hE2:U.drop (q - A.length)=U2 at *;generalize hE3:V.take (mid - q)=V1 at *;generalize hE4:V.drop (mid - q)=V2 at *;have lenU:U.length=U1.length+U2.length:=by rw[←hUs,List.length_append]
 have lenV:V.length=V1.length+V2.length:=by rw[←hVs,List.length_append]
 have hlist:A++U++V++C=A++U1++U2++V1++(V2++C):=by rw[←hUs,←hVs];simp
 obtain⟨sU1,sU2,sU⟩:=yC (by rw[hUs];exact hU:Srt (U1++U2));obtain⟨sV1,sV2,sV⟩:=yC (by rw[hVs];exact hV:Srt (V1++V2));have hrot:(decide ((q:Int) < ((A.length+U.length:Nat):Int))&&decide (((A.length+U.length:Nat):Int) < ((mid+(A.length+U.length) - q:Nat):Int)))=true→bq (q:Int) ((A.length+U.length:Nat):Int) ((mid+(A.length+U.length) - q:Nat):Int) (A++U++V++C)∧ax (q:Int) ((A.length+U.length:Nat):Int) ((mid+(A.length+U.length) - q:Nat):Int) (A++U++V++C)=A++U1++V1++(U2++V2++C):=fun h=>by
  simp only[Bool.and_eq_true,decide_eq_true_eq]at h;have:=JT (A++U1) U2 V1 (V2++C) (by rw[←List.length_pos_iff];omega) (by rw[←List.length_pos_iff];omega) (by rw[←hlist];omega);have e1:(((A++U1).length:Nat):Int)=(q:Int):=by rw[List.length_append];omega
  have e2:(((A++U1).length+U2.length:Nat):Int)=((A.length+U.length:Nat):Int):=by rw[List.length_append];omega
  have e3:(((A++U1).length+U2.length+V1.length:Nat):Int)=((mid+(A.length+U.length) - q:Nat):Int):=by rw[List.length_append];omega
  rw[←hlist,e1,e2,e3]at this;refine⟨this.1,this.2.trans (by simp)⟩
 have hl1:(bif(decide ((q:Int) < ((A.length+U.length:Nat):Int))&&decide (((A.length+U.length:Nat):Int) < ((mid+(A.length+U.length) - q:Nat):Int)))then ax (q:Int) ((A.length+U.length:Nat):Int) ((mid+(A.length+U.length) - q:Nat):Int) (A++U++V++C)else A++U++V++C)=A++U1++V1++(U2++V2++C):=by
  cases hc:(decide ((q:Int) < ((A.length+U.length:Nat):Int))&&decide (((A.length+U.length:Nat):Int) < ((mid+(A.length+U.length) - q:Nat):Int)))with
  |true=>rw[cond_true,(hrot hc).2]
  |false=>
   rw[cond_false,hlist];simp only[Bool.and_eq_false_iff,decide_eq_false_iff_not]at hc;have:U2=[]∨V1=[]:=by
    rcases hc with hc|hc
    ·exact .inl (List.eq_nil_of_length_eq_zero (by omega))
    ·exact .inr (List.eq_nil_of_length_eq_zero (by omega))
   rcases this with rfl|rfl <;>simp
 obtain⟨M1,hM1p,hM1,f1,t1,l1⟩:∃ M1,((decide ((A.length:Int) < (q:Int))&&decide ((q:Int) < (mid:Int)))=true→recp_ (A.length:Int) (q:Int) (mid:Int) (A++U1++V1++(U2++V2++C)))∧(bif(decide ((A.length:Int) < (q:Int))&&decide ((q:Int) < (mid:Int)))then rec_ (A.length:Int) (q:Int) (mid:Int) (A++U1++V1++(U2++V2++C))else A++U1++V1++(U2++V2++C))=A++M1++(U2++V2++C)∧SameF (U1++V1) M1∧Srt M1∧M1.length=U1.length+V1.length:=by
  cases hc:(decide ((A.length:Int) < (q:Int))&&decide ((q:Int) < (mid:Int)))with
  |true=>
   simp only[Bool.and_eq_true,decide_eq_true_eq]at hc;obtain⟨h1,M1,h2,h3,h4,h5⟩:=hr A U1 V1 (U2++V2++C) (by rw[←List.length_pos_iff];omega) (by rw[←List.length_pos_iff];omega) (by omega) (by simp only[List.length_append]at hl ⊢;omega) sU1 sV1;have e1:((A.length+U1.length:Nat):Int)=(q:Int):=by omega
   have e2:((A.length+U1.length+V1.length:Nat):Int)=(mid:Int):=by omega
   rw[e1,e2]at h1 h2;exact⟨M1,fun _=>h1,h2,h3,h4,h5⟩
  |false=>
   simp only[Bool.and_eq_false_iff,decide_eq_false_iff_not]at hc;refine⟨U1++V1,(fun h=>by cases h),by simp,SameF.refl _,?_,List.length_append⟩;have:U1=[]∨V1=[]:=by
    rcases hc with hc|hc
    ·exact .inl (List.eq_nil_of_length_eq_zero (by omega))
    ·exact .inr (List.eq_nil_of_length_eq_zero (by omega))
   rcases this with rfl|rfl
   ·exact sV1
   ·simpa using sU1
 obtain⟨M2,hM2p,hM2,f2,t2,l2⟩:∃ M2,((decide ((mid:Int) < ((mid+(A.length+U.length) - q:Nat):Int))&&decide (((mid+(A.length+U.length) - q:Nat):Int) < ((A.length+U.length+V.length:Nat):Int)))=true→recp_ (mid:Int) ((mid+(A.length+U.length) - q:Nat):Int) ((A.length+U.length+V.length:Nat):Int) (A++M1++(U2++V2++C)))∧(bif(decide ((mid:Int) < ((mid+(A.length+U.length) - q:Nat):Int))&&decide (((mid+(A.length+U.length) - q:Nat):Int) < ((A.length+U.length+V.length:Nat):Int)))then rec_ (mid:Int) ((mid+(A.length+U.length) - q:Nat):Int) ((A.length+U.length+V.length:Nat):Int) (A++M1++(U2++V2++C))else A++M1++(U2++V2++C))=A++M1++M2++C∧SameF (U2++V2) M2∧Srt M2∧M2.length=U2.length+V2.length:=by
  cases hc:(decide ((mid:Int) < ((mid+(A.length+U.length) - q:Nat):Int))&&decide (((mid+(A.length+U.length) - q:Nat):Int) < ((A.length+U.length+V.length:Nat):Int)))with
  |true=>
   simp only[Bool.and_eq_true,decide_eq_true_eq]at hc;obtain⟨h1,M2,h2,h3,h4,h5⟩:=hr (A++M1) U2 V2 C (by rw[←List.length_pos_iff];omega) (by rw[←List.length_pos_iff];omega) (by omega) (by simp only[List.length_append]at hl ⊢;omega) sU2 sV2;have e0:(((A++M1).length:Nat):Int)=(mid:Int):=by rw[List.length_append];omega
   have e1:(((A++M1).length+U2.length:Nat):Int)=((mid+(A.length+U.length) - q:Nat):Int):=by rw[List.length_append];omega
   have e2:(((A++M1).length+U2.length+V2.length:Nat):Int)=((A.length+U.length+V.length:Nat):Int):=by rw[List.length_append];omega
   have e3:A++M1++U2++V2++C=A++M1++(U2++V2++C):=by simp
   rw[e0,e1,e2,e3]at h1 h2;exact⟨M2,fun _=>h1,h2,h3,h4,h5⟩
  |false=>
   simp only[Bool.and_eq_false_iff,decide_eq_false_iff_not]at hc;refine⟨U2++V2,(fun h=>by cases h),by simp,SameF.refl _,?_,List.length_append⟩;have:U2=[]∨V2=[]:=by
    rcases hc with hc|hc
    ·exact .inl (List.eq_nil_of_length_eq_zero (by omega))
    ·exact .inr (List.eq_nil_of_length_eq_zero (by omega))
   rcases this with rfl|rfl
   ·exact sV2
   ·simpa using sU2
 unfold ra Dp;simp only[w1,w2,b1,b2,hmid,hn,elo,ehi,s2,hend,cond_false];refine⟨⟨(fun h=>by cases h),fun _=>⟨(fun h=>by cases h),fun _=>⟨s1,(fun z h=>by cases h),fun z hz=>?_⟩⟩⟩,M1++M2,?_,?_,?_,?_⟩
 ·cases hz;simp only[hend];exact Sp (fun l=>rec_ (A.length:Int) (q:Int) (mid:Int) l) (fun l=>recp_ (A.length:Int) (q:Int) (mid:Int) l) (fun l=>recp_ (mid:Int) ((mid+(A.length+U.length) - q:Nat):Int) ((A.length+U.length+V.length:Nat):Int) l) (fun h=>(hrot h).1) (fun h=>by rw[hl1];exact hM1p h) (fun h=>by rw[hl1];simp only[hM1];exact hM2p h)
 ·refine(WJ (fun l=>rec_ (A.length:Int) (q:Int) (mid:Int) l) (fun l=>rec_ (mid:Int) ((mid+(A.length+U.length) - q:Nat):Int) ((A.length+U.length+V.length:Nat):Int) l)).trans ?_;rw[hl1];simp only[hM1];rw[hM2];simp
 ·have h0:SameF (U2++V1) (V1++U2):=SameF.swap fun a ha b hb=>by have:=k2 a ha b hb;omega
  have h1:SameF (U++V) (U1++V1++(U2++V2)):=by
   rw[←hUs,←hVs];have:=((SameF.refl U1).app h0).app (SameF.refl V2);simpa using this
  exact h1.trans (f1.app f2)
 ·refine xh t1 t2 fun x hx y hy=>?_;have hx:=f1.symm.mem hx;have hy:=f2.symm.mem hy;rcases List.mem_append.1 hx with hx|hx <;>rcases List.mem_append.1 hy with hy|hy
  ·exact sU x hx y hy
  ·exact k1 x hx y hy
  ·exact Int.le_of_lt (k2 y hy x hx)
  ·exact sV x hx y hy
 ·rw[List.length_append];omega
end Go.Sx
end
