/- Part of the proof that the law JudgementSpec returns true and leaves its arguments as they were, for all arguments of bulk at most 1048576 (the Upto form). -/
import Derived.Test.YtnanafpgfihjfaaGreatJ110
import Derived.Test.YtnanafpgfihjfaaGreatJ108
import Derived.Shelf.SlSortCmp.NoneTotal
import Derived.Ground.SlsfProg
import Derived.Test.YtnanafpgfihjfaaGreatProg
import Derived.Test.YtnanafpgfihjfaaGreatJ106
import Derived.Test.YtnanafpgfihjfaaGreatJ109
import Derived.Test.YtnanafpgfihjfaaGreatJ107
import Derived.Test.YtnanafpgfihjfaaGreatJ101
set_option linter.all false
set_option maxHeartbeats 4000000
set_option maxRecDepth 100000
section
namespace Go.Sx
open Go.Lib Go.Proofs Go.RowKit Go.Shelf Go.Sort
section
variable {P:Program}{ρ:Ren}{k:Tag}
theorem NR {w:World}{b:Nat}{cs:Array Value}{ty:TypeId}(hb:w.heap[b]? =some (.cells cs ty (0,0)))(D:Array Value)(o:Nat):(putRow id w b o D).heap[b]? =some (.cells (putCells id o D cs) ty (0,0)):=by
 unfold putRow mapBlock;simp only[Array.getElem?_modify,if_true,hb];rfl
theorem GZ {w:World}{b c:Nat}(hc:c≠b)(D:Array Value)(o:Nat):(putRow id w b o D).heap[c]? =w.heap[c]?:=by
 unfold putRow mapBlock;simp only[Array.getElem?_modify];rw[if_neg (fun e=>hc e.symm)]
theorem Fi {D cs:Array Value}{o t:Nat}(ht:t<D.size)(hs:o+t<cs.size):(putCells id o D cs)[o+t]? =D[t]?:=by
 unfold putCells;rw[Array.getElem?_mapIdx,Array.getElem?_eq_getElem hs];simp only[Option.map_some];rw[if_pos (by omega),Array.getElem?_eq_getElem ht];have:o+t - o=t:=by omega
 rw[this,getElem!_pos D t ht];rfl
theorem G0 {α:Type}[Inhabited α]{enc:α→List Value}{n:Nat}(hn:∀ x,(enc x).length=n){d:Array α}{i j:Nat}(hi:i<d.size)(hj:j<n):(flatK enc n d)[i*n+j]? =(enc d[i]!)[j]?:=by
 have hlt:i*n+j<d.size*n:=by
  have:=Nat.mul_le_mul_right n (show i+1≤d.size from hi);rw[Nat.succ_mul]at this;omega
 have h1:i*n+j< (flatK enc n d).size:=by rw[size_flatK];exact hlt
 rw[Array.getElem?_eq_getElem h1,←getElem!_pos (flatK enc n d) _ h1,get_flatK enc n d _ hlt];have hd:(i*n+j) / n=i:=by
  rw[Nat.mul_comm,Nat.mul_add_div (by omega),Nat.div_eq_of_lt hj];omega
 have hm:(i*n+j) % n=j:=by
  rw[Nat.mul_comm,Nat.mul_add_mod,Nat.mod_eq_of_lt hj]
 rw[hd,hm];have hj':j< (enc d[i]!).length:=by rw[hn];exact hj
 rw[List.getElem?_eq_getElem hj',getElem!_pos (enc d[i]!) j hj']
theorem sw_b {α:Type}[Inhabited α]{enc:α→List Value}{n b o m:Nat}{w:World}{cs:Array Value}{ty:TypeId}(hb:w.heap[b]? =some (.cells cs ty (0,0)))(d:Array α)(os:Array Obj):(sortWorldK enc n w b o m d os).heap[b]? =some (.cells (putCells id o (flatK enc n d) cs) ty (0,0)):=by
 have hlt:b<w.heap.size:=(Array.getElem?_eq_some_iff.1 hb).1;unfold sortWorldK grow;simp only;rw[Array.getElem?_append_left (by unfold putRowK putRow mapBlock Sort.ahead;simpa using hlt)];exact NR (w:=Sort.ahead w m) hb _ _
theorem RP {α:Type}[Inhabited α]{enc:α→List Value}{n b o m c:Nat}{w:World}(hc:c<w.heap.size)(hne:c≠b)(d:Array α)(os:Array Obj):(sortWorldK enc n w b o m d os).heap[c]? =w.heap[c]?:=by
 unfold sortWorldK grow;simp only;rw[Array.getElem?_append_left (by unfold putRowK putRow mapBlock Sort.ahead;simpa using hc)];exact GZ (w:=Sort.ahead w m) hne _ _
theorem Fj {α:Type}[Inhabited α]{enc:α→List Value}{n b o m:Nat}{w:World}(d:Array α)(os:Array Obj):w.heap.size≤(sortWorldK enc n w b o m d os).heap.size:=by
 unfold sortWorldK grow putRowK putRow mapBlock Sort.ahead;simp
end
open Classical in
noncomputable def Ea (k:Tag)(g:FuncId)(caps:List SV)(cf:k.T→k.T→Int):List SV→List Ob→Option HCon:=fun l h=>
 QC k (fun l0=>match l with
  | [s0,.v (.int .i64 z),.v (.int .i64 n),.v (.int .i64 lim),f] =>if s0=.os 0∧f=.fn g [] caps then some (jp (z=0∧n=(l0.length:Int)∧0≤lim∧lim<4611686018427387904∧apart cf l0) (.tup []) [.row k (srt cf l0)])else none
  |_=>none) h
@[go_sem] theorem NS {k:Tag}{g:FuncId}{caps:List SV}{cf:k.T→k.T→Int}{l0:List k.T}{z n lim:Int}:Ea k g caps cf [.os 0,.v (.int .i64 z),.v (.int .i64 n),.v (.int .i64 lim),.fn g [] caps] [.row k l0]=some (jp (z=0∧n=(l0.length:Int)∧0≤lim∧lim<4611686018427387904∧apart cf l0) (.tup []) [.row k (srt cf l0)]):=by
 simp[Ea,QC]
theorem QQ {k:Tag}{g:FuncId}{caps:List SV}{cf:k.T→k.T→Int}{l:List SV}{h:List Ob}{c:HCon}(e:Ea k g caps cf l h=some c):∃ (z n lim:Int) (l0:List k.T),l=[.os 0,.v (.int .i64 z),.v (.int .i64 n),.v (.int .i64 lim),.fn g [] caps]∧h=[.row k l0]∧c=jp (z=0∧n=(l0.length:Int)∧0≤lim∧lim<4611686018427387904∧apart cf l0) (.tup []) [.row k (srt cf l0)]:=by
 unfold Ea at e;obtain⟨l0,hh,hK⟩:=Nx e;split at hK
 ·rename_i s0 z n lim f;split at hK
  ·rename_i hq;obtain⟨rfl,rfl⟩:=hq;exact⟨z,n,lim,l0,rfl,hh,(Option.some.inj hK).symm⟩
  ·cases hK
 ·cases hK
section
variable {P:Program}{ρ:Ren}{k:Tag}
theorem Lo {α:Type}[Inhabited α](L:SlLaysF0.n14 P ρ)(k:Nat)(aE:∀ w,(isAgg (ρ.t 24)).run P w=.ok true w)(zE:∀ w,(Go.sizeOf (ρ.t 24)).run P w=.ok k w)(enc:α→List Value)(hk:∀ x,(enc x).length=k)(h1:∀ x,∀ v∈enc x,v.oneCell'=true)(cf:α→α→Int)(hO:SWO (ltOf cf))(g:Nat)(cb:Array Value)(blk off cap:Nat)(d:Array α)(w:World)
  (eg:∀ args w,(callFunc g args).run P w=.ok (.enter g args) w) (hcmp:CmpLays P g cb enc k cf blk off d.size w) (hH:HoldsK enc k w blk off d) (hblk:blk<w.heap.size) (hsz:d.size<4611686018427387904) {lim:Nat} (hlim:lim<4611686018427387904):
  Calls P (ρ.f 14) #[.slice (some ⟨blk,off,none⟩) d.size cap,.int .i64 0,.int .i64 (d.size:Int),.int .i64 (lim:Int),.func (.func g) #[] cb] w fun e w'=>
   e=.returned (.tuple #[])∧∃ d' n os,PermIn 0 d.size d d'∧SortedIn (ltOf cf) 0 d.size d'∧w'=sortWorldK enc k w blk off n d' os:=by
 have hp:=AnyQ.pdqsortCmpFunc_all (P:=P) (ρ:=ρ) L k aE zE enc cf g cb hO blk off cap d w eg hcmp ⟨hk,h1,hH,hblk⟩ (d.size+1) 0 d.size lim d w (by omega) rfl (SWK.start hH) (Nat.zero_le _) (Nat.le_refl _) hsz hlim (Or.inl rfl);refine hp.mono fun e w' he=>?_;obtain⟨rfl,n,os,rfl⟩:=he;have h:=pdq_sorts (ltOf cf) hO d 0 d.size lim true true (Nat.zero_le _) (Nat.le_refl _) (Or.inl rfl);exact⟨rfl,_,n,os,h.1,h.2,rfl⟩
theorem T0 (L:SlLaysF0.n14 P ρ)(aE:∀ w,(isAgg (ρ.t 24)).run P w=.ok true w)(zE:∀ w,(Go.sizeOf (ρ.t 24)).run P w=.ok (ae k) w)(hk:Fh k)(h0:0<ae k){g:FuncId}{caps:List SV}{C:List SV→Option Con}(hC:FnOk P g C){cf:k.T→k.T→Int}
  (hcf:∀ x y,C (.agg (cellsOf k x):: .agg (cellsOf k y)::caps)=some (.det True (.v (.int .i64 (cf x y))))) (hO:SWO (ltOf cf)) (hpf:∀ s∈caps,PF s) (hcf0:∃ x y,C (.agg (cellsOf k x):: .agg (cellsOf k y)::caps)=some (.det True (.v (.int .i64 (cf x y))))):FnOkO P (ρ.f 14) (Ea k g caps cf):=by
 haveI:Inhabited k.T:=⟨fK k⟩
 refine⟨fun l h c hc args w=>L.f14.enters rfl args w,fun l h c hc hp F own w vs hHp hvs=>?_⟩;obtain⟨z,n,lim,l0,rfl,hh,hK⟩:=QQ hc;clear hc;subst hh;subst hK;obtain⟨rfl,rfl,hl0,hl1,hp⟩:=hp;obtain⟨hsz,hrel⟩:=hvs;have r0:=hrel 0 _ rfl;have r1:=hrel 4 _ rfl;have q1:=bC (hrel 1 _ rfl);have q2:=bC (hrel 2 _ rfl);have q3:=bC (hrel 3 _ rfl);have hvs2:vs= #[vs.getD 0 undef,.int .i64 0,.int .i64 (l0.length:Int),.int .i64 lim,vs.getD 4 undef]:=by
  apply Array.ext
  ·simpa using hsz
  ·intro i h1 h2;simp only[List.length_cons,List.length_nil]at hsz;match i,h1,h2 with
   |0,h1,_=>simp[Array.getD,h1]
   |1,h1,_=>rw[←q1];simp[Array.getD,h1]
   |2,h1,_=>rw[←q2];simp[Array.getD,h1]
   |3,h1,_=>rw[←q3];simp[Array.getD,h1]
   |4,h1,_=>simp[Array.getD,h1]
   |i+5,h1,_=>omega
 clear q1 q2 q3;generalize vs.getD 0 undef=v0 at r0 hvs2;generalize vs.getD 4 undef=v1 at r1 hvs2;subst hvs2;obtain⟨hd,o0,rfl,_⟩:=iB r0;obtain⟨hd',o0',hrow⟩:=hHp.at (id:=0) (o:=.row k l0) rfl rfl;rw[o0]at o0';cases o0';have hrow:RowRel F own w k l0 hd.v hd.bs:=hrow;cases r1 with
 | @fn _ _ _ us cs s1 s2 c1 c2=>
 have hus:us= #[]:=Array.eq_empty_of_size_eq_zero (by simpa using s1);subst hus;rcases hrow with⟨a,e1,rfl,e2⟩ | ⟨b,o,cap,cells,ty,e1,e2,e3,e4,e5,e6,e7⟩
 ·rw[e1];refine(AnyF.pdqsortCmpFunc_none L a 0 lim _ w).mono fun e w' he=>?_;obtain⟨rfl,rfl⟩:=he;refine⟨(),own,trivial,⟨_,rfl,.tup rfl fun j s hj=>by simp at hj⟩,?_,Fr.refl _,Nat.le_refl _⟩;have:srt cf ([]:List k.T)=[]:=by simp[srt]
  rw[this];exact hHp
 ·have hbown:b∈hd.bs:=by rw[e2];simp
  have hbw:b<w.heap.size:=hHp.lt 0 hd b o0 hbown;have hkl:∀ x:k.T,(su k x).length=ae k:=fun x=>by unfold su;rw[List.length_map,bb]
  have hone:∀ x:k.T,∀ v∈su k x,v.oneCell'=true:=fun x v hv=>by
   unfold su at hv;rw[List.mem_map]at hv;obtain⟨s,hs,rfl⟩:=hv;obtain⟨v,rfl,h1⟩:=hk x s hs;exact h1
  have eg:∀ args w,(callFunc g args).run P w=.ok (.enter g args) w:=fun args w=>by
   obtain⟨x,y,hxy⟩:=hcf0;exact hC.enter _ _ hxy args w
  have hown:∀ id h2,own id=some h2→id=0:=fun id h2 e=>by have:=hHp.dom id h2 e;simpa using this
  have hH:HoldsK (su k) (ae k) w b o l0.toArray:=by
   intro t ht;rw[size_flatK]at ht;simp only[List.size_toArray]at ht;have hi:t / ae k<l0.length:=Nat.div_lt_of_lt_mul (by rw[Nat.mul_comm];exact ht);have hj:=Nat.mod_lt t h0;have ht':t=t / ae k*ae k+t % ae k:=(Nat.div_add_mod' t _).symm;have q1:=Lm hk e7 hi hj;have q2:=G0 (enc:=su k) hkl (d:=l0.toArray) (i:=t / ae k) (j:=t % ae k) (by simpa using hi) hj;rw[←ht']at q2;rw[Nat.add_assoc,←ht']at q1;have hl0:l0.toArray[t / ae k]! =l0[t / ae k]:=by rw[getElem!_pos l0.toArray _ (by simpa using hi)];rfl
   rw[hl0]at q2;have hlt:t< (flatK (su k) (ae k) l0.toArray).size:=by rw[size_flatK];simpa using ht
   constructor
   ·unfold World.cell?;rw[e3];dsimp only;rw[q1,←q2,Array.getElem?_eq_getElem hlt,getElem!_pos _ t hlt];rfl
   ·unfold World.frozen?;rw[e3];simp
  have hcmp:CmpLays P g cs (su k) (ae k) cf b o l0.toArray.size w:=by
   intro m os dk hdk x y;generalize hW:sortWorldK (su k) (ae k) w b o m dk os=W;have hcar:Carries F own w F own W:=⟨fun _ h2 e=>⟨h2,e,.refl _⟩,fun c hc hn=>⟨hn,by
    rw[←hW];exact RP hc (fun e=>hn (.inr ⟨0,hd,o0,e▸hbown⟩)) _ _⟩⟩
   have henc:∀ z:k.T,Rel (fun _=>False) cj W (.agg (cellsOf k z)) (.agg (su k z).toArray):=fun z=>by
    refine .agg (by simp[su]) fun j s hj=>?_;obtain⟨v,rfl,_⟩:=hk z s (List.mem_of_getElem? hj);have:(su k z).toArray.getD j undef=v:=by
     unfold su;rw[Array.getD_eq_getD_getElem?,List.getElem?_toArray,List.getElem?_map,hj];rfl
    rw[this];exact .v v
   have hcall:=GY (hC.calls _ _ (hcf x y) trivial (fun _=>False) W (#[.agg (su k x).toArray,.agg (su k y).toArray]++cs) (fun _ h=>h.elim) ⟨by simp[c1];omega,fun j s hj=>by
    match j,hj with
    |0,hj=>
     cases hj;rw[Array.getD_eq_getD_getElem?,Array.getElem?_append_left (by simp)];exact henc x
    |1,hj=>
     cases hj;rw[Array.getD_eq_getD_getElem?,Array.getElem?_append_left (by simp)];exact henc y
    |j+2,hj=>
     have hj:caps[j]? =some s:=hj;have:=((c2 j s hj).carry hcar).over (hpf s (List.mem_of_getElem? hj)) (F':=fun _=>False) (own':=cj) fun _ _ h=>by
      rcases h with h| ⟨_,_,h,_⟩
      ·exact h
      ·cases h
     have e:(#[Value.agg (su k x).toArray,.agg (su k y).toArray]++cs).getD (j+2) undef=cs.getD j undef:=by
      rw[Array.getD_eq_getD_getElem?,Array.getD_eq_getD_getElem?,Array.getElem?_append_right (by simp)];simp
     rw[e];exact this⟩)
   refine hcall.mono fun e w' hq=>?_;obtain⟨he,hdr⟩:=hq;rcases he with⟨s,u,own',hs,rfl,hh,hb⟩ | ⟨z,hz,_⟩
   ·simp only[dp]at hs;subst hs;have:=hh.val;simp only[wu]at this;rw[bC this];exact⟨rfl,QP hb (hdr (by simp))⟩
   ·exact hz.elim
  have hall:=Lo L (ae k) aE zE (su k) hkl hone cf hO g cs b o cap l0.toArray w eg hcmp hH hbw (by unfold aJ at e6;simp only[List.size_toArray];omega) (lim:=lim.toNat) (by omega);rw[Int.toNat_of_nonneg hl0]at hall;rw[e1];refine hall.mono fun e w' he=>?_;obtain⟨rfl,d',n,os,hpm,hst,rfl⟩:=he;have hd':=II hO hp hpm hst;subst hd';have hlS:(srt cf l0).length=l0.length:=List.length_mergeSort _;generalize srt cf l0=lS at hlS;have hsb:=sw_b (enc:=su k) (n:=ae k) (o:=o) (m:=n) e3 lS.toArray os;refine⟨(),own,trivial,⟨_,rfl,.tup rfl fun j s hj=>by simp at hj⟩,?_,?_,Nat.le_refl _⟩
  ·refine⟨hHp.dom,fun c hc=>Nat.lt_of_lt_of_le (hHp.foreign c hc) (Fj _ _),hHp.apart,hHp.inj,fun i h2 c e hc=>Nat.lt_of_lt_of_le (hHp.lt i h2 c e hc) (Fj _ _),fun i hi=>?_⟩;match i,hi with
   |0,_=>
    refine⟨hd,o0,?_⟩;show RowRel F own _ k lS hd.v hd.bs;refine .inr ⟨b,o,cap,_,ty,by rw[hlS];exact e1,e2,hsb,?_,by omega,by omega,Ln hk fun i j hi hj=>?_⟩
    ·unfold putCells;simpa using e4
    ·have hlt:i*ae k+j< (flatK (su k) (ae k) lS.toArray).size:=by
      rw[size_flatK];have:=Nat.mul_le_mul_right (ae k) (show i+1≤lS.length from hi);rw[Nat.succ_mul]at this;simp only[List.size_toArray];omega
     have hle:o+(i*ae k+j) <cells.size:=by
      rw[size_flatK]at hlt;simp only[List.size_toArray]at hlt;have:=Nat.mul_le_mul_right (ae k) (show lS.length≤cap by omega);omega
     rw[Nat.add_assoc,Fi hlt hle,G0 hkl (by simpa using hi) hj];have:lS.toArray[i]! =lS[i]:=by rw[getElem!_pos lS.toArray _ (by simpa using hi)];rfl
     rw[this]
   |i+1,hi=>rw[qV (by simp)]at hi;cases hi
  ·refine⟨fun _ h2 e=>⟨h2,e,.refl _⟩,(Fr.refl { w:=w,own:=own}).base,rfl,rfl,rfl,Fj _ _,fun c hc=>?_⟩;exact RP hc.1 (fun e=>hc.2 ⟨0,hd,o0,e▸hbown⟩) _ _
end
end Go.Sx
end
section
namespace Go.Proofs
open Go.Shelf
def Tryz.sortLk_ren:Go.Shelf.Ren:=⟨fun|15=>144|14=>143|28=>199|29=>200|20=>191|21=>192|22=>193|23=>194|24=>195|25=>196|26=>197|27=>198|46=>224|47=>225|48=>226|49=>227|50=>228|57=>252|n=>n,fun|22=>32|24=>68|25=>119|3=>3|39=>211|0=>0|53=>262|55=>120|4=>4|46=>256|45=>255|50=>133|5=>5|9=>9|66=>277|70=>281|76=>296|77=>297|n=>n,fun|n=>n⟩
theorem Tryz.sortLk:Go.Proofs.SlLaysF0.n14 Tryz.prog Tryz.sortLk_ren:= {
 mixed:=by kernel_rfl
 f14:=⟨Tryz.f143.name,by decide,Tryz.func143.trans (congrArg some (by kernel_rfl))⟩
 f15:=Tryz.func144.trans (congrArg some (by kernel_rfl))
 f20:=⟨Tryz.f191.name,by decide,Tryz.func191.trans (congrArg some (by kernel_rfl))⟩
 f21:=⟨Tryz.f192.name,by decide,Tryz.func192.trans (congrArg some (by kernel_rfl))⟩
 f22:=⟨Tryz.f193.name,by decide,Tryz.func193.trans (congrArg some (by kernel_rfl))⟩
 f23:=⟨Tryz.f194.name,by decide,Tryz.func194.trans (congrArg some (by kernel_rfl))⟩
 f24:=⟨Tryz.f195.name,by decide,Tryz.func195.trans (congrArg some (by kernel_rfl))⟩
 f25:=⟨Tryz.f196.name,by decide,Tryz.func196.trans (congrArg some (by kernel_rfl))⟩
 f26:=⟨Tryz.f197.name,by decide,Tryz.func197.trans (congrArg some (by kernel_rfl))⟩
 f27:=⟨Tryz.f198.name,by decide,Tryz.func198.trans (congrArg some (by kernel_rfl))⟩
 f28:=Tryz.func199.trans (congrArg some (by kernel_rfl))
 f29:=Tryz.func200.trans (congrArg some (by kernel_rfl))
 f46:=⟨Tryz.f224.name,by decide,Tryz.func224.trans (congrArg some (by kernel_rfl))⟩
 f47:=Tryz.func225.trans (congrArg some (by kernel_rfl))
 f48:=Tryz.func226.trans (congrArg some (by kernel_rfl))
 f49:=⟨Tryz.f227.name,by decide,Tryz.func227.trans (congrArg some (by kernel_rfl))⟩
 f50:=⟨Tryz.f228.name,by decide,Tryz.func228.trans (congrArg some (by kernel_rfl))⟩
 f57:=⟨Tryz.f252.name,by decide,Tryz.func252.trans (congrArg some (by kernel_rfl))⟩
 t0:=Tryz.underlying0
 a0:=Tryz.isAgg0
 z0:=Tryz.sizeOf0
 v0:=Tryz.zeroValue0
 t3:=Tryz.underlying3
 a3:=Tryz.isAgg3
 z3:=Tryz.sizeOf3
 v3:=Tryz.zeroValue3
 t4:=Tryz.underlying4
 a4:=Tryz.isAgg4
 z4:=Tryz.sizeOf4
 v4:=Tryz.zeroValue4
 t5:=Tryz.underlying5
 a5:=Tryz.isAgg5
 z5:=Tryz.sizeOf5
 v5:=Tryz.zeroValue5
 t9:=Tryz.underlying9
 a9:=Tryz.isAgg9
 z9:=Tryz.sizeOf9
 v9:=Tryz.zeroValue9
 t22:=Tryz.underlying32
 a22:=Tryz.isAgg32
 z22:=Tryz.sizeOf32
 v22:=Tryz.zeroValue32
 t25:=Tryz.underlying119
 a25:=Tryz.isAgg119
 z25:=Tryz.sizeOf119
 v25:=Tryz.zeroValue119
 t39:=Tryz.underlying211
 a39:=Tryz.isAgg211
 z39:=Tryz.sizeOf211
 v39:=Tryz.zeroValue211
 t45:=Tryz.underlying255
 a45:=Tryz.isAgg255
 z45:=Tryz.sizeOf255
 v45:=Tryz.zeroValue255
 t46:=Tryz.underlying256
 a46:=Tryz.isAgg256
 z46:=Tryz.sizeOf256
 v46:=Tryz.zeroValue256
 t50:=Tryz.underlying133
 a50:=Tryz.isAgg133
 z50:=Tryz.sizeOf133
 v50:=Tryz.zeroValue133
 t53:=Tryz.underlying262
 a53:=Tryz.isAgg262
 z53:=Tryz.sizeOf262
 v53:=Tryz.zeroValue262
 t55:=Tryz.underlying120
 a55:=Tryz.isAgg120
 z55:=Tryz.sizeOf120
 v55:=Tryz.zeroValue120
 t66:=Tryz.underlying277
 a66:=Tryz.isAgg277
 z66:=Tryz.sizeOf277
 v66:=Tryz.zeroValue277
 t70:=Tryz.underlying281
 a70:=Tryz.isAgg281
 z70:=Tryz.sizeOf281
 v70:=Tryz.zeroValue281
 t76:=Tryz.underlying296
 a76:=Tryz.isAgg296
 z76:=Tryz.sizeOf296
 v76:=Tryz.zeroValue296
 t77:=Tryz.underlying297
 a77:=Tryz.isAgg297
 z77:=Tryz.sizeOf297
 v77:=Tryz.zeroValue297}
end Go.Proofs
end
section
namespace Go.Sx
open Go.Lib Go.Proofs Go.RowKit Go.Shelf Go.Sort
def uL:List SV→Option Con:=pU fun n=>pE (.det (0≤n∧n<18446744073709551616) (.v (.int .i64 ((Go.Lib.bitLen n.toNat:Nat):Int))))
attribute [go_sem] uL
theorem IJ:FnOk Tryz.prog 144 uL where
 enter:=fun l c h args w=>enters_of Tryz.sortLk.f15 kr rfl args w
 calls:=fun l c h hp F w vs hF hvs=>by
  unfold uL at h;obtain⟨n,r,rfl,h0⟩:=zG h;obtain⟨rfl,rfl⟩:=B6 h0;obtain⟨p1,p2⟩:=hp;have q:=bC (hvs.2 0 _ rfl);have hv:vs= #[.int .u64 n]:=by
   apply Array.ext
   ·simpa using hvs.1
   ·intro i h1 h2;have:i=0:=by simp at h2;exact h2
    subst this;simp only[Array.getD,h1,dif_pos]at q;exact q
  subst hv;have:=Any.bits_Len (P:=Tryz.prog) (ρ:=Tryz.sortLk_ren.viaSlsf) (SlLaysF0.n15.bits (P:=Tryz.prog) (ρ:=Tryz.sortLk_ren) { Tryz.sortLk with}) n w p1 (by omega);refine this.mono fun e w' he=>?_;obtain⟨rfl,rfl⟩:=he;exact .inl ⟨_,_,cj,rfl,rfl,⟨vn hF,Rel.v _,fun _ _ _ e=>by cases e⟩,Below.refl _ _⟩
noncomputable def IK:List SV→List Ob→Option HCon:=Ea .claim 95 [] dy
@[go_sem] theorem V_ {l0:List Claim}{z n lim:Int}:IK [.os 0,.v (.int .i64 z),.v (.int .i64 n),.v (.int .i64 lim),.fn 95 [] []] [.row .claim l0]=some (jp (z=0∧n=(l0.length:Int)∧0≤lim∧lim<4611686018427387904∧apart dy l0) (.tup []) [.row .claim (srt dy l0)]):=NS
theorem G1:Fh .claim:=fun x s hs=>by
 simp only[cellsOf,List.mem_cons,List.not_mem_nil,or_false]at hs;rcases hs with rfl|rfl|rfl|rfl|rfl;all_goals exact⟨_,rfl,rfl⟩
theorem G3 (x y:Claim):sT (.agg (cellsOf .claim x):: .agg (cellsOf .claim y)::[])=some (.det True (.v (.int .i64 (dy x y)))):=by
 simp only[go_sem,Nat.reduceBEq]
theorem QR:FnOkO Tryz.prog 143 IK:=
 T0 (k:=.claim) Tryz.sortLk (fun w=>by kernel_rfl) (fun w=>by kernel_rfl) G1 (by decide) (g:=95) (caps:=[]) xk (cf:=dy) G3 GN (fun s hs=>by cases hs) ⟨default,default,G3 _ _⟩
end Go.Sx
end
section
namespace Go.Sx
open Go.Proofs
open IntKind (i64 u64)
@[go_sem] def cT (s_:List Claim)(k_0:Nat)(s_0:Unit):Int⊕Unit:=(bif(av (s_.getD k_0 (default:Claim)))then .inl (k_0:Int)else .inr ())
def al (s_:List Claim):Int:=(match ay (cT s_) s_.length 0 ()with| .inl x_0_0=>x_0_0| .inr s_0=>(-1))
@[go_sem] def fe:List SV→Option Con:=(pR .claim fun s_=>(pFn 93 (pE ((pE (.det True (.v (.int .i64 (al s_)))))))))
theorem iU:FnOk Tryz.prog 142 fe:=by
 have hG:ConsOk Tryz.prog (mkG [(93,oK)] []):=aq (cgc sa cg0) cg0;refine ax [.o] mixed ak hG (fn:=Tryz.f142) (c:=aa Tryz.f142) kr kr kr kr (a8 fun s_=>(bF (ai ((ai (fun hp=>?_))))));dsimp only[ar]at hp;refine⟨nbl rfl,(fun id st=>bif Nat.beq id 0 then some (LCR (ρ:=Int) (σ:=Unit) 0 [] [] (fun k_0 s_0=>⟨[(0,.rs .claim s_),(1,.fn 93 [] []),(7,.v (.int .i64 (s_.length:Int))),(8,.v (.int .i64 (k_0:Int)))],[]⟩) (cT s_) pT s_.length () (s_.length≤aJ) (fun _=>.ret) (fun x_0_0=>⟨[(4,.v (.int .i64 x_0_0))],[]⟩) st)else none),?_,?_⟩
 ·unfold aa Tryz.f142;simp only[ap,true_and,and_true]
  ·refine bf mixed ak hG kr (fun _=>rfl) (s_.length:Int) rfl fD (fun hb0 k_0 s_0 hlt0 _ hw hc=>⟨L0,ah _,?_⟩) (fun hb0 s_0 hc=>?_)
   ·exact aY (jl [])
   ·exact aX (jl [])
 ·unfold aa Tryz.f142;try unfold al
  exact zq1
@[go_sem] noncomputable def da:List SV→Option Con:=fun l=>(orC (c5 l) (fe l))
theorem jg:FnOk Tryz.prog 142 da:=(FnOk.or eY iU)
@[go_sem] def aB (l_:List Claim)(k_0:Nat)(s_0:List Claim×Int×Int):(Int×List Claim)⊕(List Claim×Int×Int):=(bif(decide (s_0.2.2< (s_0.1.length:Int)))then(bif(!(av (s_0.1.getD (Int.toNat s_0.2.2) (default:Claim))))then .inr ((s_0.1.set (Int.toNat s_0.2.1) (s_0.1.getD (Int.toNat s_0.2.2) (default:Claim))),(i64.wrap (s_0.2.1+1)),(i64.wrap (s_0.2.2+1)))else .inr (s_0.1,s_0.2.1,(i64.wrap (s_0.2.2+1))))else .inl (s_0.2.1,s_0.1))
def aZ (l_:List Claim)(k_0:Nat)(s_0:List Claim×Int×Int):Prop:=(s_0.1.length≤aJ→((decide (s_0.2.2< (s_0.1.length:Int)))=true→((0≤s_0.2.2∧s_0.2.2< (s_0.1.length:Int))∧((!(av (s_0.1.getD (Int.toNat s_0.2.2) (default:Claim))))=true→(0≤s_0.2.1∧s_0.2.1< (s_0.1.length:Int))))))
def aH (l_:List Claim):List Claim:=(bif((al l_) ==(-1))then l_ else(match ay (aB l_) (l_.length+1) 0 (l_,(al l_),(i64.wrap ((al l_)+1)))with| .inl x_0_0=>(((Bo .claim x_0_0.2 x_0_0.1 (x_0_0.2.length:Int)).take (Int.toNat x_0_0.1)).drop 0) | .inr s_0=>default))
def aN (l_:List Claim):Prop:=(((al l_) ==(-1))=false→(okI (aB l_) (aZ l_) (l_.length+1) 0 (l_,(al l_),(i64.wrap ((al l_)+1)))∧(∀ z_,ay (aB l_) (l_.length+1) 0 (l_,(al l_),(i64.wrap ((al l_)+1)))≠ .inr z_)∧(∀ x_0_0,ay (aB l_) (l_.length+1) 0 (l_,(al l_),(i64.wrap ((al l_)+1)))=.inl x_0_0→((0≤x_0_0.1∧x_0_0.1≤(x_0_0.2.length:Int))∧(0≤0∧0≤x_0_0.1∧x_0_0.1≤((Bo .claim x_0_0.2 x_0_0.1 (x_0_0.2.length:Int)).length:Int))))))
noncomputable def db:List SV→List Ob→Option HCon:=qp (fun x_:(List Claim) =>[.os 0,.fn 93 [] []]) (fun x_=>[.row .claim x_]) (fun x_=>jp (aN x_) (.os 1) [.dead,.row .claim (aH x_)])
@[go_sem] theorem tq (l_:List Claim):db ([.os 0,.fn 93 [] []]) ([.row .claim l_])=some (jp (aN l_) (.os 1) [.dead,.row .claim (aH l_)]):=nv (A:=fun x_:(List Claim) =>[.os 0,.fn 93 [] []]) (H:=fun x_=>[.row .claim x_]) (K:=fun x_=>jp (aN x_) (.os 1) [.dead,.row .claim (aH x_)]) (x:=l_)
theorem zq92 {l0 l1:List Nat}(a0:JL l0)(a1:JL l1){p:Prop}(h:JL l0→JL l1→p:=by intro ja jb;simp only[go_sem,Nat.reduceBEq,Nat.reduceLeDiff,Nat.reduceLT,decide_true,Nat.reduceAdd,Nat.reduceSub,Nat.reduceMul,Int.reduceLE,Int.reduceLT,Int.reduceToNat,Int.reduceNeg,reduceCtorEq,da];all_goals exact rq ja jb):p:=h a0 a1
theorem jh:FnOkO Tryz.prog 92 (db):=by
 have hG:ConsOk Tryz.prog (mkG [(93,oK),(142,fun l=>da (a7 [.sl .claim,.o] l))] []):=aq (cgc sa (cgc (jg.norm [.sl .claim,.o]) cg0)) cg0;refine pi mixed ak hG (fn:=Tryz.f92) (c:=aa Tryz.f92) kr kr kr kr fun l o con h=>?_;obtain⟨l_,rfl,rfl,rfl⟩:=kH h;clear h;try dsimp only
 refine⟨_,_,_,rfl,fun hp=>?_⟩;unfold aN at hp;refine⟨nbl rfl,(fun id st=>bif Nat.beq id 0 then some (LCV (ρ:=(Int×List Claim)) (σ:=(List Claim×Int×Int)) 1 [] [0] (fun k_0 s_0=>⟨[(0,.os 0),(1,.fn 93 [] []),(5,.v (.int .i64 s_0.2.1)),(6,.v (.int .i64 s_0.2.2))],[.row .claim s_0.1]⟩) (aB l_) (aZ l_) (l_.length+1) (l_,(al l_),(i64.wrap ((al l_)+1))) (fun _=>.normal) (fun x_0_0=>⟨[(0,.os 0),(5,.v (.int .i64 x_0_0.1))],[.row .claim x_0_0.2]⟩) st)else none),?_,?_⟩
 ·unfold aa Tryz.f92;simp only[ap,true_and,and_true,and_assoc]
  ·refine mq mixed ak hG kr (fun _=>rfl) fun k_0 s_0 hq0=>⟨L0,ah _,?_⟩
   ·unfold aZ at hq0;exact rg (jl [0])
 ·unfold aa Tryz.f92;try unfold aH
  exact zq92 (jl [0,0]) (jl [0,1])
def a_ (l_:List Claim):List Claim:=(srt dy l_)
def aV (l_:List Claim):Prop:=(l_.length≤aJ→((0≤(u64.wrap (l_.length:Int))∧(u64.wrap (l_.length:Int)) <18446744073709551616)∧(0=0∧(l_.length:Int)=(l_.length:Int)∧0≤((Go.Lib.bitLen (Int.toNat (u64.wrap (l_.length:Int))):Nat):Int)∧((Go.Lib.bitLen (Int.toNat (u64.wrap (l_.length:Int))):Nat):Int) <4611686018427387904∧apart dy l_)))
noncomputable def dA:List SV→List Ob→Option HCon:=qp (fun x_:(List Claim) =>[.os 0,.fn 95 [] []]) (fun x_=>[.row .claim x_]) (fun x_=>jp (aV x_) (.tup []) [.row .claim (a_ x_)])
@[go_sem] theorem tQ (l_:List Claim):dA ([.os 0,.fn 95 [] []]) ([.row .claim l_])=some (jp (aV l_) (.tup []) [.row .claim (a_ l_)]):=nv (A:=fun x_:(List Claim) =>[.os 0,.fn 95 [] []]) (H:=fun x_=>[.row .claim x_]) (K:=fun x_=>jp (aV x_) (.tup []) [.row .claim (a_ x_)]) (x:=l_)
theorem zq93 {l0:List Nat}(a0:JL l0){p:Prop}(h:JL l0→p:=by intro ja;simp only[go_sem,Nat.reduceBEq,Nat.reduceLeDiff,Nat.reduceLT,decide_true,Nat.reduceAdd,Nat.reduceSub,Nat.reduceMul,Int.reduceLE,Int.reduceLT,Int.reduceToNat,Int.reduceNeg,reduceCtorEq,uL];all_goals exact kX ja):p:=h a0
theorem jD:FnOkO Tryz.prog 94 (dA):=by
 have hG:ConsOk Tryz.prog (mkG [(144,uL)] [(143,IK)]):=aq (cgc IJ cg0) (cgc QR cg0);refine pi mixed ak hG (fn:=Tryz.f94) (c:=aa Tryz.f94) kr kr kr kr fun l o con h=>?_;obtain⟨l_,rfl,rfl,rfl⟩:=kH h;clear h;try dsimp only
 refine⟨_,_,_,rfl,fun hp=>?_⟩;unfold aV at hp;refine⟨nbl rfl,L0,?_,?_⟩
 ·unfold aa Tryz.f94;simp only[ap,and_self,true_and,and_true]
 ·unfold aa Tryz.f94;try unfold a_
  exact zq93 (jl [0])
def cH (l_:List Claim):List Claim:=(a_ (aH l_))
def b7 (l_:List Claim):Prop:=((aN l_)∧(aV (aH l_)))
noncomputable def qq:List SV→List Ob→Option HCon:=qp (fun x_:(List Claim) =>[.os 0]) (fun x_=>[.row .claim x_]) (fun x_=>jp (b7 x_) (.os 1) [.dead,.row .claim (cH x_)])
@[go_sem] theorem Hv (l_:List Claim):qq ([.os 0]) ([.row .claim l_])=some (jp (b7 l_) (.os 1) [.dead,.row .claim (cH l_)]):=nv (A:=fun x_:(List Claim) =>[.os 0]) (H:=fun x_=>[.row .claim x_]) (K:=fun x_=>jp (b7 x_) (.os 1) [.dead,.row .claim (cH x_)]) (x:=l_)
theorem y4:FnOkO Tryz.prog 47 (qq):=by
 have hG:ConsOk Tryz.prog (mkG [] [(92,db),(94,dA)]):=aq cg0 (cgc jh (cgc jD cg0));refine pi mixed ak hG (fn:=Tryz.f47) (c:=aa Tryz.f47) kr kr kr kr fun l o con h=>?_;obtain⟨l_,rfl,rfl,rfl⟩:=kH h;clear h;try dsimp only
 refine⟨_,_,_,rfl,fun hp=>?_⟩;unfold b7 at hp;refine⟨nbl rfl,L0,?_,?_⟩
 ·unfold aa Tryz.f47;simp only[ap,and_self,true_and,and_true]
 ·unfold aa Tryz.f47;try unfold cH
  exact rg (jl [0,1])
@[go_sem] def cU (x:Judgement)(l_:List Claim)(k_0:Nat)(s_0:List Claim×Int):Empty⊕(List Claim×Int):=(bif((s_0.1.getD k_0 (default:Claim)).farm==x.farm)then .inr ((s_0.1.set k_0 ({ right:=(s_0.1.getD k_0 (default:Claim)).right,farm:=(s_0.1.getD k_0 (default:Claim)).farm,hour:=(s_0.1.getD k_0 (default:Claim)).hour,litres:=(if s_0.2< (s_0.1.getD k_0 (default:Claim)).litres then s_0.2 else(s_0.1.getD k_0 (default:Claim)).litres),rank:=(s_0.1.getD k_0 (default:Claim)).rank}:Claim)),(i64.wrap (s_0.2 - ((s_0.1.set k_0 ({ right:=(s_0.1.getD k_0 (default:Claim)).right,farm:=(s_0.1.getD k_0 (default:Claim)).farm,hour:=(s_0.1.getD k_0 (default:Claim)).hour,litres:=(if s_0.2< (s_0.1.getD k_0 (default:Claim)).litres then s_0.2 else(s_0.1.getD k_0 (default:Claim)).litres),rank:=(s_0.1.getD k_0 (default:Claim)).rank}:Claim)).getD k_0 (default:Claim)).litres)))else .inr (s_0.1,s_0.2))
def eE (x:Judgement)(l_:List Claim)(k_0:Nat)(s_0:List Claim×Int):Prop:=((0≤(k_0:Int)∧(k_0:Int) < (s_0.1.length:Int))∧(((s_0.1.getD k_0 (default:Claim)).farm==x.farm)=true→((0≤(k_0:Int)∧(k_0:Int) < (s_0.1.length:Int))∧((0≤(k_0:Int)∧(k_0:Int) < (s_0.1.length:Int))∧(0≤(k_0:Int)∧(k_0:Int) < ((s_0.1.set k_0 ({ right:=(s_0.1.getD k_0 (default:Claim)).right,farm:=(s_0.1.getD k_0 (default:Claim)).farm,hour:=(s_0.1.getD k_0 (default:Claim)).hour,litres:=(if s_0.2< (s_0.1.getD k_0 (default:Claim)).litres then s_0.2 else(s_0.1.getD k_0 (default:Claim)).litres),rank:=(s_0.1.getD k_0 (default:Claim)).rank}:Claim)).length:Int))))))
def bk (x:Judgement)(l_:List Claim):List Claim:=(match ay (cU x l_) l_.length 0 (l_,x.n)with| .inl x=>x.elim| .inr s_0=>s_0.1)
def bR (x:Judgement)(l_:List Claim):Prop:=(l_.length≤aJ→okI (cU x l_) (eE x l_) l_.length 0 (l_,x.n))
noncomputable def jr:List SV→List Ob→Option HCon:=qp (fun x_:Judgement×(List Claim) =>[.os 0,.agg (cellsOf .judgement x_.1)]) (fun x_=>[.row .claim x_.2]) (fun x_=>jp (bR x_.1 x_.2) (.os 0) [.row .claim (bk x_.1 x_.2)])
@[go_sem] theorem A3 (x:Judgement)(l_:List Claim):jr ([.os 0,.agg [.v (.int .i64 x.no),.v (.int .i64 x.hour),.v (.int .i64 x.kind),.v (.int .i64 x.farm),.v (.int .i64 x.other),.v (.int .i64 x.since),.v (.int .i64 x.to),.v (.int .i64 x.n),.v (.int .i64 x.of_)]]) ([.row .claim l_])=some (jp (bR x l_) (.os 0) [.row .claim (bk x l_)]):=nv (A:=fun x_:Judgement×(List Claim) =>[.os 0,.agg (cellsOf .judgement x_.1)]) (H:=fun x_=>[.row .claim x_.2]) (K:=fun x_=>jp (bR x_.1 x_.2) (.os 0) [.row .claim (bk x_.1 x_.2)]) (x:=(x,l_))
theorem tu:FnOkO Tryz.prog 88 (jr):=by
 have hG:ConsOk Tryz.prog (mkG [] []):=aq cg0 cg0;refine pi mixed ak hG (fn:=Tryz.f88) (c:=aa Tryz.f88) kr kr kr kr fun l o con h=>?_;obtain⟨⟨x,l_⟩,rfl,rfl,rfl⟩:=kH h;clear h;try dsimp only
 refine⟨_,_,_,rfl,fun hp=>?_⟩;unfold bR at hp;refine⟨nbl rfl,(fun id st=>bif Nat.beq id 0 then some (LCR (ρ:=Empty) (σ:=(List Claim×Int)) 2 [] [0,1] (fun k_0 s_0=>⟨[(0,.os 0),(3,.ptr 1 0),(5,.v (.int .i64 s_0.2)),(10,.v (.int .i64 (l_.length:Int))),(11,.v (.int .i64 (k_0:Int)))],[.row .claim s_0.1,.cells (cellsOf .judgement x)]⟩) (cU x l_) (eE x l_) l_.length (l_,x.n) (l_.length≤aJ) ((·.elim)) ((·.elim)) st)else none),?_,?_⟩
 ·unfold aa Tryz.f88;simp only[ap,true_and,and_true,and_assoc]
  ·refine bf mixed ak hG kr (fun _=>rfl) (l_.length:Int) rfl fD (fun hb0 k_0 s_0 hlt0 hq0 hw hc=>⟨L0,ah _,?_⟩) (fun hb0 s_0 hc=>?_)
   ·unfold eE at hq0;try simp only[hw,Int.toNat_natCast]at hq0
    exact aY (jl [0,1])
   ·exact aX (jl [0,1])
 ·unfold aa Tryz.f88;try unfold bk
  exact rg (jl [0])
def vT (x:Judgement)(l_:List Claim):Unit:=()
noncomputable def jV:List SV→List Ob→Option HCon:=qp (fun x_:Judgement×(List Claim) =>[.os 0,.agg (cellsOf .judgement x_.1)]) (fun x_=>[.row .claim x_.2]) (fun x_=>jp True (.os 0) [.row .claim x_.2])
@[go_sem] theorem CI (x:Judgement)(l_:List Claim):jV ([.os 0,.agg [.v (.int .i64 x.no),.v (.int .i64 x.hour),.v (.int .i64 x.kind),.v (.int .i64 x.farm),.v (.int .i64 x.other),.v (.int .i64 x.since),.v (.int .i64 x.to),.v (.int .i64 x.n),.v (.int .i64 x.of_)]]) ([.row .claim l_])=some (jp True (.os 0) [.row .claim l_]):=nv (A:=fun x_:Judgement×(List Claim) =>[.os 0,.agg (cellsOf .judgement x_.1)]) (H:=fun x_=>[.row .claim x_.2]) (K:=fun x_=>jp True (.os 0) [.row .claim x_.2]) (x:=(x,l_))
theorem ud:FnOkO Tryz.prog 90 (jV):=by
 have hG:ConsOk Tryz.prog (mkG [] []):=aq cg0 cg0;refine pi mixed ak hG (fn:=Tryz.f90) (c:=aa Tryz.f90) kr kr kr kr fun l o con h=>?_;obtain⟨⟨x,l_⟩,rfl,rfl,rfl⟩:=kH h;clear h;try dsimp only
 refine⟨_,_,_,rfl,fun hp=>?_⟩;refine⟨nbl rfl,L0,?_,?_⟩
 ·unfold aa Tryz.f90;simp only[ap,and_self,true_and,and_true]
 ·unfold aa Tryz.f90;try unfold vT
  exact rg (jl [0])
@[go_sem] theorem aac {f:FuncId}:zt (.fn f [] [])=some [.fn f [] []]:=(rfl)
theorem Lp {κ υ:Type}[DecidableEq κ](l:List (κ×υ))(x z:κ)(y:υ):kf (wb l x y) z=if z=x then some y else kf l z:=by
 induction l with
 |nil=>simp[wb,kf]
 |cons a r ih=>
  obtain⟨a,b⟩:=a;unfold wb;by_cases h:x=a
  ·subst h;simp only[if_pos];unfold kf;by_cases hz:z=x <;>simp[hz]
  ·rw[if_neg h];unfold kf;by_cases hz:z=a
   ·subst hz;rw[if_pos rfl,if_neg (fun e=>h e.symm),if_pos rfl]
   ·rw[if_neg hz,ih,if_neg hz]
def fw:List (Int×(Option Nat)):=(lR .int .fnc (lR .int .fnc (lR .int .fnc (lR .int .fnc ([]) 1 (some 88)) 2 (some 88)) 3 (some 89)) 4 (some 90))
@[go_sem] def tR:List SV→Option Con:=(pE (.det True (.nm .int .fnc (fw))))
theorem yh:FnOk Tryz.prog 42 tR:=by
 have hG:ConsOk Tryz.prog (mkG [] []):=aq cg0 cg0;refine yd [] mixed ak hG (fn:=Tryz.f42) (c:=aa Tryz.f42) kr kr kr kr (ai (fun hp=>?_));dsimp only[ar]at hp;refine⟨nbl rfl,L0,ah _,?_⟩
 ·unfold aa Tryz.f42;try unfold fw
  exact zq1
theorem qr (k:Int):fZ .int .fnc fw k=bif k==1 then some 88 else bif k==2 then some 88 else bif k==3 then some 89 else bif k==4 then some 90 else none:=by
 by_cases h1:k=1
 ·subst h1;rfl
 by_cases h2:k=2
 ·subst h2;rfl
 by_cases h3:k=3
 ·subst h3;rfl
 by_cases h4:k=4
 ·subst h4;rfl
 have e1:(k==1)=false:=by simpa using h1
 have e2:(k==2)=false:=by simpa using h2
 have e3:(k==3)=false:=by simpa using h3
 have e4:(k==4)=false:=by simpa using h4
 rw[e1,e2,e3,e4];simp only[fw,fZ,lR,Lp,if_neg h1,if_neg h2,if_neg h3,if_neg h4];rfl
end Go.Sx
end
section
namespace Go.Sx
open Go.RowKit
open IntKind (i64)
abbrev RF:= { r:Nat→Res // ∀ k,(r k).n=k}
def Lq (items:List (List SV))(r:RF):List SV→Res→Option YCon:=itY items r.1
@[go_sem] theorem aad {items:List (List SV)}{r:RF}{k:Nat}{args:List SV}:Lq items r args (r.1 (k+1))=some (GI (items[k]? =some args) r.1 (k+2)):=MV r.2 k args
section
variable {ρ σ:Type}
def lcy (pre:Prop)(run:ρ⊕σ)(exE:ρ→Ex)(outE:ρ→St)(outN:σ→St)(stp:St):LCon where
 α:=Option (ρ⊕σ)
 pre:=pre
 post:=fun|none=>True|some r=>r=run
 ex:=fun|none=>.ret|some (.inl x) =>exE x|some (.inr _) =>.normal
 out:=fun|none=>stp|some (.inl x) =>outE x|some (.inr s) =>outN s
def LCY (m:Nat)(ns:List NLoc)(js:List Nat)(D:Nat→σ→St)(step:Nat→σ→ρ⊕σ)(p:Nat→σ→Prop)(n:Nat)(s0:σ)(B:Prop)(exE:ρ→Ex)(outE:ρ→St)(stp:St)(st:St):LCon:=
 lcy (vr m ns js st (D 0 s0)∧B∧okI step p n 0 s0) (ay step n 0 s0) exE outE (D n) stp
def T1 (m:Nat)(ns:List NLoc)(js:List Nat)(D:Nat→σ→St)(step:Nat→σ→ρ⊕σ)(p:Nat→σ→Prop)(n:Nat)(s0:σ)(exE:ρ→Ex)(outE:ρ→St)(stp:St)(st:St):LCon:=
 lcy (vr m ns js st (D 0 s0)∧okI step p n 0 s0∧∀ s,ay step n 0 s0≠ .inr s) (ay step n 0 s0) exE outE (D n) stp
variable {m:Nat}{ns:List NLoc}{js:List Nat}{step:Nat→σ→ρ⊕σ}{p:Nat→σ→Prop}{n:Nat}{s0:σ}{B:Prop}{exE:ρ→Ex}{outE:ρ→St}{stp st:St}{Q:Ex→St→Prop}{D:Nat→σ→St}
theorem Eb {pre:Prop}{run:ρ⊕σ}{outN:σ→St}:sI Q (some (lcy pre run exE outE outN stp))=(pre∧(∀ x,run=.inl x→Q (exE x) (outE x))∧(∀ s,run=.inr s→Q .normal (outN s))∧Q .ret stp):=by
 apply propext;constructor
 ·rintro⟨h1,h2⟩;exact⟨h1,fun x hx=>h2 (some (.inl x)) hx.symm,fun s hs=>h2 (some (.inr s)) hs.symm,h2 none trivial⟩
 ·rintro⟨h1,h2,h3,h4⟩;refine⟨h1,fun r hr=>?_⟩;match r,hr with
  |none,_=>exact h4
  |some (.inl x),hr=>exact h2 x hr.symm
  |some (.inr s),hr=>exact h3 s hr.symm
@[go_sem] theorem Wa:sI Q (some (LCY m ns js D step p n s0 B exE outE stp st))=((vr m ns js st (D 0 s0)∧B∧okI step p n 0 s0)∧(∀ x,ay step n 0 s0=.inl x→Q (exE x) (outE x))∧(∀ s,ay step n 0 s0=.inr s→Q .normal (D n s))∧Q .ret stp):=Eb
@[go_sem] theorem T2:sI Q (some (T1 m ns js D step p n s0 exE outE stp st))=((vr m ns js st (D 0 s0)∧okI step p n 0 s0∧∀ s,ay step n 0 s0≠ .inr s)∧(∀ x,ay step n 0 s0=.inl x→Q (exE x) (outE x))∧Q .ret stp):=by
 refine Eb.trans ?_;apply propext;constructor
 ·rintro⟨h1,h2,_,h4⟩;exact⟨h1,h2,h4⟩
 ·rintro⟨h1,h2,h4⟩;exact⟨h1,h2,fun s hs=>absurd hs (h1.2.2 s),h4⟩
def cY (step:Nat→σ→ρ⊕σ)(exE:ρ→Ex)(outE:ρ→St)(D:Nat→σ→St)(stp:St)(m id k:Nat)(s:σ):Ex→St→Prop
 | .normal,st=>uG D m k st (step k s)
 | .exit j,st=>nZ exE outE m (bif Nat.beq j id then .normal else .exit j) st (step k s)
 | .ret,st=>nZ exE outE m .ret st (step k s)∨jo stp m st
 | .pan x,st=>nZ exE outE m (.pan x) st (step k s)
variable {id k j:Nat}{s:σ}{x:Value}{e e':Ex}
@[go_sem] theorem Wb:cY step exE outE D stp m id k s .normal st=uG D m k st (step k s):=(rfl)
@[go_sem] theorem aae:cY step exE outE D stp m id k s (.exit j) st=nZ exE outE m (bif Nat.beq j id then .normal else .exit j) st (step k s):=(rfl)
@[go_sem] theorem abe:cY step exE outE D stp m id k s .ret st=(nZ exE outE m .ret st (step k s)∨jo stp m st):=(rfl)
@[go_sem] theorem abf:cY step exE outE D stp m id k s (.pan x) st=nZ exE outE m (.pan x) st (step k s):=(rfl)
@[congr] theorem Ya {st':St}(h:st=st')(he:e=e'):cY step exE outE D stp m id k s e st=cY step exE outE D stp m id k s e' st':=by rw[h,he]
end
section
variable {P:Program}{ρ σ:Type}{ts:Tis}{G:Cons}{ro:Option Nat}{N:Nat}{id:Nat}{c:Code}{C:St→Option LCon}{m:Nat}{ns:List NLoc}{js:List Nat}{step:Nat→σ→ρ⊕σ}{p:Nat→σ→Prop}{n:Nat}{s0:σ}{exE:ρ→Ex}{outE:ρ→St}{D:Nat→σ→St}{stp:St}
theorem NT {n0:Nat}(hn0:n0=m){s:σ}{k:Nat}(hlt:k<n){I:Nat×σ→Prop}{μ:Nat×σ→Nat}{outN:σ→St}{pre:Prop}{run:ρ⊕σ}
  (hI:∀ s',step k s=.inr s'→I (k+1,s')∧μ (k+1,s') <μ (k,s)) (hx:∀ x,step k s=.inl x→run=.inl x):
  ∀ e st',cY step exE outE D stp m id k s e st'→u5 (fun x:Nat×σ=>D x.1 x.2) I μ n0 (k,s) id (fun e st'=>∃ r js,(lcy pre run exE outE outN stp).post r∧(lcy pre run exE outE outN stp).ex r=e∧n0≤((lcy pre run exE outE outN stp).out r).h.length∧Sub js n0 st' ((lcy pre run exE outE outN stp).out r)) e st':=by
 subst hn0;have hfin:∀ e st',nZ exE outE n0 e st' (step k s)→∃ r js,(lcy pre run exE outE outN stp).post r∧(lcy pre run exE outE outN stp).ex r=e∧n0≤((lcy pre run exE outE outN stp).out r).h.length∧Sub js n0 st' ((lcy pre run exE outE outN stp).out r):=by
  intro e st' q;cases hs:step k s with
  |inr s'=>rw[hs]at q;exact q.elim
  |inl x=>
   rw[hs]at q;obtain⟨q2,js,q3,q4⟩:=q;exact⟨some (.inl x),js,(hx x hs).symm,q2,q3,q4⟩
 intro e st' hq;cases e with
 |normal=>
  change uG D n0 k st' (step k s)at hq;cases hs:step k s with
  |inl x=>rw[hs]at hq;exact hq.elim
  |inr s'=>
   rw[hs]at hq;obtain⟨js,q3,q4⟩:=hq;obtain⟨i1,i2⟩:=hI s' hs;exact⟨(k+1,s'),js,i1,i2,q3,q4⟩
 |exit j=>
  change nZ exE outE n0 (bif Nat.beq j id then .normal else .exit j) st' (step k s)at hq;show bif Nat.beq j id then _ else _;cases hb:Nat.beq j id with
  |true=>rw[hb]at hq;exact hfin _ _ hq
  |false=>rw[hb]at hq;exact hfin _ _ hq
 |ret=>
  rcases hq with hq|hq
  ·exact hfin _ _ hq
  ·obtain⟨js,q3,q4⟩:=hq;exact⟨none,js,trivial,rfl,q3,q4⟩
 |pan x=>exact hfin _ _ hq
theorem NU {B:Prop}(hm:P.follows .mixedOrders=true)(hts:ts.ok P)(hG:ConsOk P G)(hc:cg N c=true)(hC:∀ st,C st=some (LCY m ns js D step p n s0 B exE outE stp st))(M:Int)(hn:n=M.toNat)(hB:B→M<9223372036854775808)
  (h:B→∀ k s,k<n→p k s→i64.wrap ((k:Int)+1)=((k+1:Nat):Int)→decide ((k:Int) <M)=true→∃ L,ap P ro N L c∧exec ts G L c (D k s) (cY step exE outE D stp m id k s))
  (h2:B→∀ s,decide ((n:Int) <M)=false→exec ts G L0 c (D n s) (cZ (D n s) m id)):mn P ro N id (.loop c) C:=by
 refine wy hm hts hG hc fun st lc hC' hp=>?_;rw[hC st]at hC';cases hC';obtain⟨⟨hlen,hok,hle,hsub⟩,hB',h1⟩:=hp;refine⟨Nat×σ,fun x=>D x.1 x.2,fun x=>x.1≤n∧okI step p (n - x.1) x.1 x.2∧ay step (n - x.1) x.1 x.2=ay step n 0 s0,fun x=>n - x.1,(0,s0),mkN ns st,js,⟨Nat.zero_le _,by simpa using h1,by simp⟩,ya ns st st (.refl _) hok,by rw[hlen];exact hle,by rw[hlen];exact hsub,?_⟩;rintro⟨k,s⟩ ⟨hk,hJ,hrun⟩;simp only at hk hJ hrun;rcases Nat.lt_or_ge k n with hlt|hge
 ·rw[show n - k=(n - k - 1)+1 by omega]at hrun hJ;obtain⟨L,hl,hex⟩:=h hB' k s hlt hJ.1 (MX (hn▸hlt) (hB hB')) (decide_eq_true (by omega));have hI:∀ s',step k s=.inr s'→okI step p (n - (k+1)) (k+1) s'∧ay step (n - (k+1)) (k+1) s'=ay step n 0 s0:=fun s' hs=>by
   have:=hJ.2 s' hs;rw[show n - k - 1=n - (k+1) by omega]at this hrun;simp only[ay,hs]at hrun;exact⟨this,hrun⟩
  have hx:∀ x,step k s=.inl x→ay step n 0 s0=.inl x:=fun x hs=>by
   simp only[ay,hs]at hrun;exact hrun.symm
  exact⟨L,_,hl,fun e st' q=>NT hlen hlt (fun s' hs=>⟨⟨hlt,hI s' hs⟩,by simp only;omega⟩) hx e st' q,hex⟩
 ·have hkn:k=n:=by omega
  subst hkn;have hex:=h2 hB' s (by rw[decide_eq_false_iff_not];omega);refine⟨L0,_,ah c,fun e st' hq=>?_,hex⟩;simp only[Nat.sub_self,ay]at hrun;cases e with
  |exit j=>
   change bif Nat.beq j id then jo (D k s) m st' else False at hq;show bif Nat.beq j id then _ else _;cases hb:Nat.beq j id with
   |true=>
    rw[hb]at hq;obtain⟨js,q3,q4⟩:=hq;exact⟨some (.inr s),js,hrun,rfl,by rw[hlen];exact q3,by rw[hlen];exact q4⟩
   |false=>rw[hb]at hq;exact hq.elim
  |_=>exact hq.elim
theorem Lr (hm:P.follows .mixedOrders=true)(hts:ts.ok P)(hG:ConsOk P G)(hc:cg N c=true)(hC:∀ st,C st=some (T1 m ns js D step p n s0 exE outE stp st))
  (h:∀ k s,p k s→∃ L,ap P ro N L c∧exec ts G L c (D k s) (cY step exE outE D stp m id k s)):mn P ro N id (.loop c) C:=by
 refine wy hm hts hG hc fun st lc hC' hp=>?_;rw[hC st]at hC';cases hC';obtain⟨⟨hlen,hok,hle,hsub⟩,h1,hno⟩:=hp;refine⟨Nat×σ,fun x=>D x.1 x.2,fun x=>x.1≤n∧okI step p (n - x.1) x.1 x.2∧ay step (n - x.1) x.1 x.2=ay step n 0 s0,fun x=>n - x.1,(0,s0),mkN ns st,js,⟨Nat.zero_le _,by simpa using h1,by simp⟩,ya ns st st (.refl _) hok,by rw[hlen];exact hle,by rw[hlen];exact hsub,?_⟩;rintro⟨k,s⟩ ⟨hk,hJ,hrun⟩;simp only at hk hJ hrun;rcases Nat.lt_or_ge k n with hlt|hge
 ·rw[show n - k=(n - k - 1)+1 by omega]at hrun hJ;obtain⟨L,hl,hex⟩:=h k s hJ.1;have hI:∀ s',step k s=.inr s'→okI step p (n - (k+1)) (k+1) s'∧ay step (n - (k+1)) (k+1) s'=ay step n 0 s0:=fun s' hs=>by
   have:=hJ.2 s' hs;rw[show n - k - 1=n - (k+1) by omega]at this hrun;simp only[ay,hs]at hrun;exact⟨this,hrun⟩
  have hx:∀ x,step k s=.inl x→ay step n 0 s0=.inl x:=fun x hs=>by
   simp only[ay,hs]at hrun;exact hrun.symm
  exact⟨L,_,hl,fun e st' q=>NT hlen hlt (fun s' hs=>⟨⟨hlt,hI s' hs⟩,by simp only;omega⟩) hx e st' q,hex⟩
 ·have hkn:k=n:=by omega
  subst hkn;simp only[Nat.sub_self,ay]at hrun;exact absurd hrun.symm (hno s)
end
def ru (n:Nat):List Ob:=List.replicate n .dead
def NV (items:List (List SV))(r:RF)(n:Nat):Ex→St→Prop
 | .normal,st=>jo ⟨[],.ab (r.1 0)::ru n⟩ (n+1) ⟨[],st.h⟩∨jo ⟨[],.ab (r.1 (items.length+1))::ru n⟩ (n+1) ⟨[],st.h⟩
 | .ret,st=>jo ⟨[],.ab (r.1 0)::ru n⟩ (n+1) ⟨[],st.h⟩∨jo ⟨[],.ab (r.1 (items.length+1))::ru n⟩ (n+1) ⟨[],st.h⟩
 |_,_=>False
section
variable {items:List (List SV)}{r:RF}{n:Nat}{st:St}{e e':Ex}
@[go_sem] theorem QS:NV items r n .normal st=(jo ⟨[],.ab (r.1 0)::ru n⟩ (n+1) ⟨[],st.h⟩∨jo ⟨[],.ab (r.1 (items.length+1))::ru n⟩ (n+1) ⟨[],st.h⟩):=(rfl)
@[go_sem] theorem Wc:NV items r n .ret st=(jo ⟨[],.ab (r.1 0)::ru n⟩ (n+1) ⟨[],st.h⟩∨jo ⟨[],.ab (r.1 (items.length+1))::ru n⟩ (n+1) ⟨[],st.h⟩):=(rfl)
@[go_sem] theorem aaf:ru 0=[]:=(rfl)
@[go_sem] theorem aag:ru 1=[.dead]:=(rfl)
@[go_sem] theorem aah:ru 2=[.dead,.dead]:=(rfl)
@[go_sem] theorem aai:ru 3=[.dead,.dead,.dead]:=(rfl)
@[go_sem] theorem aaj:ru 4=[.dead,.dead,.dead,.dead]:=(rfl)
end
theorem G4 {js:List Nat}{n0:Nat}{h h':List Ob}(q:Sub js n0 ⟨[],h⟩ ⟨[],h'⟩):Sub js n0 ⟨[(0,.tup [])],h⟩ ⟨[(0,.tup [])],h'⟩:=by
 refine⟨q.1,?_,q.2.2⟩;simp only[Ky,lk];exact⟨⟨rfl,rfl⟩,trivial⟩
open Classical in
theorem NW {P:Program} {ts:Tis} {G:RF→Cons} (hm:P.follows .mixedOrders=true) (hts:ts.ok P) {f:FuncId} {fn:Func} {c:Code} (hf:P.funcs[f]? =some fn) (hb:fn.body=some c) (hname:(fn.name== "runtime.NumGoroutine")=false) (hc:cg fn.ntmps c=true) (hr:fn.results.toList=[])
  {items:List (List SV)} {mk:SV→List SV} {hs:List Ob} {n:Nat} (hn:hs.length=n)
  (h:∀ r:RF,YOk P (Lq items r)→ConsOk P (G r)∧(mk (.os 0)).length≤fn.ntmps∧∃ L,ap P none fn.ntmps L c∧exec ts (G r) L c ⟨mg 0 (mk (.os 0)),.ab (r.1 1)::hs⟩ (NV items r n))
  (he:∀ (args:Array Value) (w:World),(callFunc f args).run P w=.ok (.enter f args) w):GH P f mk hs items:=by
 refine RI (fun r0 hr0 hy=>?_) he;obtain⟨hG,h1,L,h2,h3⟩:=h ⟨r0,hr0⟩ hy;refine⟨fun l o=>if l=mk (.os 0)∧o=.ab (r0 1)::hs then some { α:=Bool,pre:=True,post:=fun _=>True,res:=fun b=>.ret (.tup []) (.ab (r0 (if b then items.length+1 else 0))::ru n)}else none,?_,_,if_pos ⟨rfl,rfl⟩,trivial,fun b _=>⟨_,_,_,rfl,by cases b <;>simp⟩⟩;refine B5 hm hts hG hf hb hname hc fun l o con hC _=>?_;split at hC
 rotate_left
 ·cases hC
 rename_i hlo;obtain⟨rfl,rfl⟩:=hlo;cases hC;refine⟨h1,L,_,h2,fun e st hq=>?_,h3⟩;have key:∀ st:St,(jo ⟨[],.ab (r0 0)::ru n⟩ (n+1) ⟨[],st.h⟩∨jo ⟨[],.ab (r0 (items.length+1))::ru n⟩ (n+1) ⟨[],st.h⟩)→yA (Ob.ab (r0 1)::hs).length { α:=Bool,pre:=True,post:=fun _=>True,res:=fun b=>.ret (.tup []) (.ab (r0 (if b then items.length+1 else 0))::ru n)} (kV (jI ts st fn.results.toList)) st.h:=fun st q=>by
  rw[hr];show ∃ r s' h' js,_;rcases q with⟨js,q1,q2⟩ | ⟨js,q1,q2⟩
  ·exact⟨false,_,_,js,trivial,rfl,by rw[List.length_cons,hn];exact q1,by rw[List.length_cons,hn];exact G4 q2⟩
  ·exact⟨true,_,_,js,trivial,rfl,by rw[List.length_cons,hn];exact q1,by rw[List.length_cons,hn];exact G4 q2⟩
 cases e with
 |normal=>exact key st hq
 |ret=>exact key st hq
 |exit j=>exact hq.elim
 |pan x=>exact hq.elim
section
variable {ρ σ τ:Type}
variable {m:Nat}{ns:List NLoc}{js:List Nat}{step:τ→σ→ρ⊕σ}{p:τ→σ→Prop}{l:List τ}{s0:σ}{exE:ρ→Ex}{outE:ρ→St}{outN:σ→St}{st:St}{Q:Ex→St→Prop}{D:List Nat→Option Nat→σ→St}
variable {P:Program}{ts:Tis}{G:Cons}{ro:Option Nat}{N id:Nat}{c:Code}{C:St→Option LCon}
end
theorem fkY {st2 st:St}{n0:Nat}{js:List Nat}(_:JL js)(h1:n0≤st2.h.length:=by(first|(show _≤_;decide) |(simp only[*,go_sem,Nat.reduceBEq,Nat.reduceLeDiff,Nat.reduceAdd,Nat.reduceSub,Nat.reduceMul,Int.reduceLE,Int.reduceLT,Int.reduceToNat,Int.reduceNeg,reduceCtorEq];done) |(simp only[*,go_sem,Nat.reduceBEq,Nat.reduceLeDiff,Nat.reduceAdd,Nat.reduceSub,Nat.reduceMul,Int.reduceLE,Int.reduceLT,Int.reduceToNat,Int.reduceNeg,reduceCtorEq];(repeat' (first|with_reducible refine And.intro ?_ ?_|((with_reducible show _≠_);first|assumption|omega|(simp_all [dT,dW];done) |grind) |with_reducible intro _)) <;>(first|rfl|decide|assumption|omega|(simp_all [dT,dW];done) |fail))))(h2:Sub js n0 st st2:=by(first|(show _≤_;decide) |(simp only[*,go_sem,Nat.reduceBEq,Nat.reduceLeDiff,Nat.reduceAdd,Nat.reduceSub,Nat.reduceMul,Int.reduceLE,Int.reduceLT,Int.reduceToNat,Int.reduceNeg,reduceCtorEq];done) |(simp only[*,go_sem,Nat.reduceBEq,Nat.reduceLeDiff,Nat.reduceAdd,Nat.reduceSub,Nat.reduceMul,Int.reduceLE,Int.reduceLT,Int.reduceToNat,Int.reduceNeg,reduceCtorEq];(repeat' (first|with_reducible refine And.intro ?_ ?_|((with_reducible show _≠_);first|assumption|omega|(simp_all [dT,dW];done) |grind) |with_reducible intro _)) <;>(first|rfl|decide|assumption|omega|(simp_all [dT,dW];done) |fail)))):jo st2 n0 st:=E4 js h1 h2
theorem T3 {α:Type 1}{G:List SV→α→Prop}{X:SV}{k:List SV→Option α}(h:∀ l c,k l=some c→G (X::l) c):∀ l c,pQ X k l=some c→G l c:=fun l c hc=>by
 obtain⟨r,rfl,h1⟩:=TJ hc;exact h r c h1
end Go.Sx
end
section
namespace Go.Sx
@[go_sem ↓] theorem Wd (x:Reach):mkE .reach [.v (.string x.name),.v (.int .i64 x.up),.v (.int .i64 x.delay),.v (.int .i64 x.cap),.v (.int .i64 x.bank),.v (.int .i64 x.siphon),.v (.int .i64 x.evap.lo),.v (.int .i64 x.evap.hi),.v (.int .i64 x.seep.1.n),.v (.int .i64 x.seep.1.d),.v (.int .i64 x.seep.2.n),.v (.int .i64 x.seep.2.d)]=x:=(rfl)
@[go_sem ↓] theorem We (x:Claim):mkE .claim [.v (.int .i64 x.right),.v (.int .i64 x.farm),.v (.int .i64 x.hour),.v (.int .i64 x.litres),.v (.int .i64 x.rank)]=x:=(rfl)
@[go_sem ↓] theorem Wf (x:Order):mkE .order [.v (.int .i64 x.hour),.v (.int .i64 x.index),.v (.int .i64 x.litres),.v (.bool x.outlet)]=x:=(rfl)
@[go_sem ↓] theorem Yb (x:Tank):mkE .tank [.v (.int .i64 x.cap),.v (.int .i64 x.start)]=x:=(rfl)
@[go_sem ↓] theorem ON (x:Judgement):mkE .judgement [.v (.int .i64 x.no),.v (.int .i64 x.hour),.v (.int .i64 x.kind),.v (.int .i64 x.farm),.v (.int .i64 x.other),.v (.int .i64 x.since),.v (.int .i64 x.to),.v (.int .i64 x.n),.v (.int .i64 x.of_)]=x:=(rfl)
@[go_sem ↓] theorem Yc (x:Case):mkE .case [.v (.int .i64 x.no),.v (.int .i64 x.hour),.v (.int .i64 x.winner),.rs .int x.facts,.rs .int x.reason]=x:=(rfl)
@[go_sem ↓] theorem T4 (x:Clause):mkE .clause [.v (.int .i64 x.no),.v (.int .i64 x.then_),.v (.int .i64 x.rank),.v (.bool x.strict),.rs .int x.if_]=x:=(rfl)
@[go_sem ↓] theorem T5 (x:Reason):mkE .reason [.v (.int .i64 x.literal),.v (.int .i64 x.clause),.v (.bool x.proved)]=x:=(rfl)
@[go_sem ↓] theorem Yd (x:Farm):mkE .farm [.v (.string x.name),.v (.int .i64 x.reach),.v (.int .i64 x.area),.v (.int .i64 x.crop)]=x:=(rfl)
@[go_sem ↓] theorem Wg (x:Right):mkE .right [.v (.string x.name),.v (.int .i64 x.kind),.v (.int .i64 x.farm),.v (.int .i64 x.reach),.v (.int .i64 x.rank),.v (.int .i64 x.litres),.v (.int .i64 x.since),.v (.int .i64 x.to),.v (.int .i64 x.every),.v (.int .i64 x.length)]=x:=(rfl)
theorem G5 {p:Pk}{f:FuncId}{a b:List SV}:tW [p] (.fn f a b)=zp p (.fn f a b):=(rfl)
theorem G6 {f:FuncId}{a b:List SV}:zp .o (.fn f a b)=.fn f a b:=(rfl)
end Go.Sx
end
section
namespace Go.Sx
open Go.Proofs
open IntKind (i64 u64)
theorem CJ {l0:List Nat}(a0:JL l0){p:Prop}(h:JL l0→p:=by intro ja;(first|done|(repeat' (first|with_reducible refine And.intro ?_ ?_|((with_reducible show _≠_);first|assumption|omega|(simp_all [dT,dW];done) |grind) |with_reducible intro _)) <;>(first|done|with_reducible exact Empty.elim ‹Empty› |with_reducible assumption|rfl|omega|assumption|decide|exact fk ja|(refine Or.inr ?_;exact fkY ja) |(refine Or.inl ?_;exact fkY ja) |(refine Or.inl ⟨rfl,?_⟩;exact fkY ja) |exact czl|(simp only[*,cond_true,cond_false,Bool.not_true,Bool.not_false,go_sem,Nat.reduceBEq,Nat.reduceLeDiff,Nat.reduceLT,decide_true,Nat.reduceAdd,Nat.reduceSub,Nat.reduceMul,Int.reduceLE,Int.reduceLT,Int.reduceToNat,Int.reduceNeg,reduceCtorEq];(repeat' (first|with_reducible refine And.intro ?_ ?_|((with_reducible show _≠_);first|assumption|omega|(simp_all [dT,dW];done) |grind) |with_reducible intro _)) <;>(first|done|assumption|rfl|omega|decide|exact fk ja|(refine Or.inr ?_;exact fkY ja) |(refine Or.inl ?_;exact fkY ja) |(refine Or.inl ⟨rfl,?_⟩;exact fkY ja) |(simp_all [dT,dW];done))) |(exfalso;rename_i h1 h2;rw[h1]at h2;cases h2) |(exfalso;rename_i h1 h2;simp only[h1,Bool.not_false,Bool.not_true,Bool.true_or,Bool.or_true,Bool.false_or,Bool.or_false,reduceCtorEq]at h2;done) |(exfalso;clear hy hG;simp_all;done) |(simp only[*,Sum.inr.injEq,forall_eq',true_implies,forall_const,reduceCtorEq,false_implies,and_true,List.length_append,List.length_cons,List.length_nil,Nat.zero_add,go_sem,Nat.reduceBEq,Nat.reduceLeDiff,Nat.reduceLT,decide_true,Nat.reduceAdd,Nat.reduceSub,Nat.reduceMul,Int.reduceLE,Int.reduceLT,Int.reduceToNat,Int.reduceNeg,reduceCtorEq]at hq2;first|exact hq2.1|exact hq2.2.1|exact hq2|exact hq2.2|(simp only[hq2];done)) |(simp only[*,Sum.inr.injEq,forall_eq',true_implies,forall_const,reduceCtorEq,false_implies,and_true,List.length_append,List.length_cons,List.length_nil,Nat.zero_add,go_sem,Nat.reduceBEq,Nat.reduceLeDiff,Nat.reduceLT,decide_true,Nat.reduceAdd,Nat.reduceSub,Nat.reduceMul,Int.reduceLE,Int.reduceLT,Int.reduceToNat,Int.reduceNeg,reduceCtorEq]at hq1;first|exact hq1.1|exact hq1.2.1|exact hq1|exact hq1.2|(simp only[hq1];done)) |(clear hy hG;simp_all only[dT,dW,Sum.inr.injEq,forall_eq',true_implies,forall_const,reduceCtorEq,false_implies,and_true,List.length_append,List.length_cons,List.length_nil,Nat.zero_add,go_sem,Nat.reduceBEq,Nat.reduceLeDiff,Nat.reduceLT,decide_true,Nat.reduceAdd,Nat.reduceSub,Nat.reduceMul,Int.reduceLE,Int.reduceLT,Int.reduceToNat,Int.reduceNeg,reduceCtorEq];done) |(simp_all [okI,dT,dW];done) |(simp_all [dT,dW];(first|done|exact fk2 ja)) |exact fk2 ja))):p:=h a0
theorem NX {l0:List Nat}(a0:JL l0){p:Prop}(h:JL l0→p:=by intro ja;simp only[go_sem,Nat.reduceBEq,Nat.reduceLeDiff,Nat.reduceLT,decide_true,Nat.reduceAdd,Nat.reduceSub,Nat.reduceMul,Int.reduceLE,Int.reduceLT,Int.reduceToNat,Int.reduceNeg,reduceCtorEq,hc,hw];all_goals exact CJ ja):p:=h a0
theorem NY {l0:List Nat}(a0:JL l0){p:Prop}(h:JL l0→p:=by intro ja;simp only[go_sem,Nat.reduceBEq,Nat.reduceLeDiff,Nat.reduceLT,decide_true,Nat.reduceAdd,Nat.reduceSub,Nat.reduceMul,Int.reduceLE,Int.reduceLT,Int.reduceToNat,Int.reduceNeg,reduceCtorEq,hc];all_goals exact CJ ja):p:=h a0
@[go_sem] def ue (x:Judgement):List SV:=[.agg (cellsOf .judgement x)]
@[go_sem] def se:List SV→Option Con:=(pR .judgement fun j=>(pI fun hour=>(pE (.det True (.fn 91 [] [.ep [.rs .judgement j] 0,.ep [.v (.int .i64 hour)] 0])))))
theorem wT:FnOk Tryz.prog 46 se:=by
 have hG:ConsOk Tryz.prog (mkG [] []):=aq cg0 cg0;refine ax [.o] mixed ak hG (fn:=Tryz.f46) (c:=aa Tryz.f46) kr kr kr kr (a8 fun j=>(bt fun hour=>(ai (fun hp=>?_))));refine⟨nbl rfl,L0,ah _,?_⟩;unfold aa Tryz.f46;simp only[go_sem,G5,G6,Nat.reduceBEq,Nat.reduceLeDiff,Nat.reduceAdd,Nat.reduceSub,Nat.reduceMul]
@[go_sem] def c6 (j:List Judgement)(hour:Int)(k_0:Nat)(s_0:List Judgement):Empty⊕(List Judgement):=(bif(((((j.getD k_0 (default:Judgement)).of_==0)&&(decide ((j.getD k_0 (default:Judgement)).hour≤hour)))&&(aI hour ((j.getD k_0 (default:Judgement)).since) ((j.getD k_0 (default:Judgement)).to)))&&(!(eT j (j.getD k_0 (default:Judgement)) hour)))then .inr (s_0++[(j.getD k_0 (default:Judgement))])else .inr s_0)
def fq (j:List Judgement)(hour:Int)(items_:List (List SV))(k_0:Nat)(s_0:List Judgement):Prop:=(((((((j.getD k_0 (default:Judgement)).of_==0)&&(decide ((j.getD k_0 (default:Judgement)).hour≤hour)))&&(aI hour ((j.getD k_0 (default:Judgement)).since) ((j.getD k_0 (default:Judgement)).to)))&&(!(eT j (j.getD k_0 (default:Judgement)) hour)))=true→(items_[s_0.length]? =some (ue (j.getD k_0 (default:Judgement)))))∧((((((j.getD k_0 (default:Judgement)).of_==0)&&(decide ((j.getD k_0 (default:Judgement)).hour≤hour)))&&(aI hour ((j.getD k_0 (default:Judgement)).since) ((j.getD k_0 (default:Judgement)).to)))&&(!(eT j (j.getD k_0 (default:Judgement)) hour)))=false→((((((j.getD k_0 (default:Judgement)).of_==0)&&(decide ((j.getD k_0 (default:Judgement)).hour≤hour)))&&(aI hour ((j.getD k_0 (default:Judgement)).since) ((j.getD k_0 (default:Judgement)).to)))&&(!(eT j (j.getD k_0 (default:Judgement)) hour)))=false)))
def aO (j:List Judgement)(hour:Int):List Judgement:=(match ay (c6 j hour) j.length 0 ([]:List Judgement)with| .inl x=>x.elim| .inr s_0=>s_0)
def gz (j:List Judgement)(hour:Int)(items_:List (List SV)):Prop:=(j.length≤aJ→(okI (c6 j hour) (fq j hour items_) j.length 0 ([]:List Judgement)∧(∀ s_0,ay (c6 j hour) j.length 0 ([]:List Judgement)=.inr s_0→(items_.length=s_0.length))))
theorem T6 {l0:List Nat}(a0:JL l0){p:Prop}(h:JL l0→p:=by intro ja;simp only[go_sem,Nat.reduceBEq,Nat.reduceLeDiff,Nat.reduceLT,decide_true,Nat.reduceAdd,Nat.reduceSub,Nat.reduceMul,Int.reduceLE,Int.reduceLT,Int.reduceToNat,Int.reduceNeg,reduceCtorEq];all_goals exact CJ ja):p:=h a0
theorem vv (j:List Judgement)(hour:Int)(items_:List (List SV))(hp:gz j hour items_):GH Tryz.prog 91 (fun y=>[y,.ep [.rs .judgement j] 0,.ep [.v (.int .i64 hour)] 0]) [] items_:=by
 unfold gz at hp;refine NW mixed ak (fn:=Tryz.f91) (c:=aa Tryz.f91) kr kr kr kr rfl (n:=0) rfl (G:=fun r_=>E2 [(52,f7),(53,fun l=>lY (a7 [.sl .judgement,.st .judgement,.o] l))] [] (Lq items_ r_)) (fun r_ hy=>?_) (fun args w=>by kernel_rfl);have hG:ConsOk Tryz.prog (E2 [(52,f7),(53,fun l=>lY (a7 [.sl .judgement,.st .judgement,.o] l))] [] (Lq items_ r_)):=E3 (cgc g9 (cgc (sX.norm [.sl .judgement,.st .judgement,.o]) cg0)) cg0 hy;refine⟨hG,nbl rfl,(fun id st=>bif Nat.beq id 0 then some (LCY (ρ:=Empty) (σ:=(List Judgement)) 1 [] [0] (fun k_0 s_0=>⟨[(0,.os 0),(1,.ep [.rs .judgement j] 0),(2,.ep [.v (.int .i64 hour)] 0),(6,.rs .judgement j),(7,.v (.int .i64 (j.length:Int))),(8,.v (.int .i64 (k_0:Int)))],[.ab (r_.1 (s_0.length+1))]⟩) (c6 j hour) (fq j hour items_) j.length ([]:List Judgement) (j.length≤aJ) ((·.elim)) ((·.elim)) ⟨[],[.ab (r_.1 0)]⟩ st)else none),?_,?_⟩
 ·unfold aa Tryz.f91;simp only[ap,true_and,and_true]
  ·refine NU mixed ak hG kr (fun _=>rfl) (j.length:Int) rfl fD (fun hb0 k_0 s_0 hlt0 hq0 hw hc=>⟨L0,ah _,?_⟩) (fun hb0 s_0 hc=>?_)
   ·unfold fq at hq0;try simp only[hw,Int.toNat_natCast]at hq0
    exact NX (jl [0])
   ·exact NY (jl [0])
 ·unfold aa Tryz.f91;exact T6 (jl [0])
@[go_sem] def rv:List SV→Option Con:=pR .claim fun l=>pE (.det (l.length*40≤dC) (.nw .claim l))
theorem vU:FnOk Tryz.prog 45 rv:=by
 have hG:ConsOk Tryz.prog (mkG [] []):=aq cg0 cg0;refine yd [(.tmp 2,.claim)] mixed ak hG (fn:=Tryz.f45) (c:=aa Tryz.f45) kr kr kr kr (a8 fun l=>ai fun hp=>?_);dsimp only[ar]at hp;refine⟨nbl rfl,L0,ah _,?_⟩;unfold aa Tryz.f45;simp only[go_sem,Nat.reduceBEq,Nat.reduceLeDiff,Nat.reduceAdd,Nat.reduceSub,Nat.reduceMul,Int.reduceLE,Int.reduceLT,Int.reduceToNat,Int.reduceNeg,reduceCtorEq];intro b hb;refine⟨fun h=>?_,fun _=>⟨hp,fun _=>rfl⟩⟩;have hl:=hb h;subst hl;rfl
def nJ (y:Claim)(r_:List Claim):Bool:=(y.hour !=(r_.getD 0 (default:Claim)).hour)
def lA (y:Claim)(r_:List Claim):Prop:=(0≤0∧0< (r_.length:Int))
@[go_sem] noncomputable def p5:List SV→Option Con:=(pD .claim fun y=>(pXR .claim fun r_=>(pE (.det (lA y r_) (.v (.bool (nJ y r_)))))))
theorem vz:FnOk Tryz.prog 44 p5:=by
 have hG:ConsOk Tryz.prog (mkG [] []):=aq cg0 cg0;refine ax [.o] mixed ak hG (fn:=Tryz.f44) (c:=aa Tryz.f44) kr kr kr kr (aM fun y=>(A1 fun r_=>(ai (fun hp=>?_))));dsimp only[ar]at hp;unfold lA at hp;refine⟨nbl rfl,L0,ah _,?_⟩
 ·unfold aa Tryz.f44;try unfold nJ
  exact zq1
def cO (y:Claim):Bool:=(decide (y.litres > 1073741824))
@[go_sem] def p6:List SV→Option Con:=(pD .claim fun y=>(pE (.det True (.v (.bool (cO y))))))
theorem vA:FnOk Tryz.prog 49 p6:=by
 have hG:ConsOk Tryz.prog (mkG [] []):=aq cg0 cg0;refine ax [.o] mixed ak hG (fn:=Tryz.f49) (c:=aa Tryz.f49) kr kr kr kr (aM fun y=>(ai (fun hp=>?_)));dsimp only[ar]at hp;refine⟨nbl rfl,L0,ah _,?_⟩
 ·unfold aa Tryz.f49;try unfold cO
  exact zq1
@[go_sem] def cC (s_:List Claim)(r_:List Claim)(k_0:Nat)(s_0:Unit):Int⊕Unit:=(bif(nJ (s_.getD k_0 (default:Claim)) r_)then .inl (k_0:Int)else .inr ())
def dE (s_:List Claim)(r_:List Claim)(k_0:Nat)(s_0:Unit):Prop:=(lA (s_.getD k_0 (default:Claim)) r_)
def ag (s_:List Claim)(r_:List Claim):Int:=(match ay (cC s_ r_) s_.length 0 ()with| .inl x_0_0=>x_0_0| .inr s_0=>(-1))
def cI (s_:List Claim)(r_:List Claim):Prop:=(s_.length≤aJ→okI (cC s_ r_) (dE s_ r_) s_.length 0 ())
@[go_sem] noncomputable def gA:List SV→Option Con:=(pR .claim fun s_=>(pFn 44 (pXR .claim fun r_=>(pE ((pE (.det (cI s_ r_) (.v (.int .i64 (ag s_ r_))))))))))
theorem ld:FnOk Tryz.prog 43 gA:=by
 have hG:ConsOk Tryz.prog (mkG [(44,p5)] []):=aq (cgc vz cg0) cg0;refine ax [.o] mixed ak hG (fn:=Tryz.f43) (c:=aa Tryz.f43) kr kr kr kr (a8 fun s_=>(bF (A1 fun r_=>(ai ((ai (fun hp=>?_)))))));dsimp only[ar]at hp;unfold cI at hp;refine⟨nbl rfl,(fun id st=>bif Nat.beq id 0 then some (LCR (ρ:=Int) (σ:=Unit) 0 [] [] (fun k_0 s_0=>⟨[(0,.rs .claim s_),(1,.fn 44 [] [.ep [.rs .claim r_] 0]),(7,.v (.int .i64 (s_.length:Int))),(8,.v (.int .i64 (k_0:Int)))],[]⟩) (cC s_ r_) (dE s_ r_) s_.length () (s_.length≤aJ) (fun _=>.ret) (fun x_0_0=>⟨[(4,.v (.int .i64 x_0_0))],[]⟩) st)else none),?_,?_⟩
 ·unfold aa Tryz.f43;simp only[ap,true_and,and_true]
  ·refine bf mixed ak hG kr (fun _=>rfl) (s_.length:Int) rfl fD (fun hb0 k_0 s_0 hlt0 hq0 hw hc=>⟨L0,ah _,?_⟩) (fun hb0 s_0 hc=>?_)
   ·unfold dE at hq0;try simp only[hw,Int.toNat_natCast]at hq0
    exact aY (jl [])
   ·exact aX (jl [])
 ·unfold aa Tryz.f43;try unfold ag
  exact zq1
@[go_sem] def d5 (s_:List Claim)(k_0:Nat)(s_0:Unit):Int⊕Unit:=(bif(cO (s_.getD k_0 (default:Claim)))then .inl (k_0:Int)else .inr ())
def c7 (s_:List Claim):Int:=(match ay (d5 s_) s_.length 0 ()with| .inl x_0_0=>x_0_0| .inr s_0=>(-1))
@[go_sem] def gB:List SV→Option Con:=(pR .claim fun s_=>(pFn 49 (pE ((pE (.det True (.v (.int .i64 (c7 s_)))))))))
theorem lf:FnOk Tryz.prog 43 gB:=by
 have hG:ConsOk Tryz.prog (mkG [(49,p6)] []):=aq (cgc vA cg0) cg0;refine ax [.o] mixed ak hG (fn:=Tryz.f43) (c:=aa Tryz.f43) kr kr kr kr (a8 fun s_=>(bF (ai ((ai (fun hp=>?_))))));dsimp only[ar]at hp;refine⟨nbl rfl,(fun id st=>bif Nat.beq id 0 then some (LCR (ρ:=Int) (σ:=Unit) 0 [] [] (fun k_0 s_0=>⟨[(0,.rs .claim s_),(1,.fn 49 [] []),(7,.v (.int .i64 (s_.length:Int))),(8,.v (.int .i64 (k_0:Int)))],[]⟩) (d5 s_) pT s_.length () (s_.length≤aJ) (fun _=>.ret) (fun x_0_0=>⟨[(4,.v (.int .i64 x_0_0))],[]⟩) st)else none),?_,?_⟩
 ·unfold aa Tryz.f43;simp only[ap,true_and,and_true]
  ·refine bf mixed ak hG kr (fun _=>rfl) (s_.length:Int) rfl fD (fun hb0 k_0 s_0 hlt0 _ hw hc=>⟨L0,ah _,?_⟩) (fun hb0 s_0 hc=>?_)
   ·exact aY (jl [])
   ·exact aX (jl [])
 ·unfold aa Tryz.f43;try unfold c7
  exact zq1
@[go_sem] noncomputable def aA:List SV→Option Con:=fun l=>(orC (gA l) (gB l))
theorem gC:FnOk Tryz.prog 43 aA:=(FnOk.or ld lf)
def bE (s_:List Claim):Bool:=(decide ((c7 s_)≥0))
@[go_sem] def fM:List SV→Option Con:=(pR .claim fun s_=>(pFn 49 (pE ((pE (.det True (.v (.bool (bE s_)))))))))
theorem Ye {p:Prop}(h:p:=by simp only[go_sem,Nat.reduceBEq,Nat.reduceLeDiff,Nat.reduceLT,decide_true,Nat.reduceAdd,Nat.reduceSub,Nat.reduceMul,Int.reduceLE,Int.reduceLT,Int.reduceToNat,Int.reduceNeg,reduceCtorEq,aA];all_goals exact cl):p:=h
theorem jW:FnOk Tryz.prog 48 fM:=by
 have hG:ConsOk Tryz.prog (mkG [(43,fun l=>aA (a7 [.sl .claim,.o] l))] []):=aq (cgc (gC.norm [.sl .claim,.o]) cg0) cg0;refine ax [.o] mixed ak hG (fn:=Tryz.f48) (c:=aa Tryz.f48) kr kr kr kr (a8 fun s_=>(bF (ai ((ai (fun hp=>?_))))));dsimp only[ar]at hp;refine⟨nbl rfl,L0,ah _,?_⟩
 ·unfold aa Tryz.f48;try unfold bE
  exact Ye
@[go_sem] noncomputable def aL:List SV→Option Con:=fun l=>(fM l)
theorem km:FnOk Tryz.prog 48 aL:=jW
@[go_sem] def aT (a2:List Judgement)(s_0:List Claim×List Claim)(z_1:Judgement)(s_1:List Claim):Empty⊕(List Claim):=(bif(z_1.kind==1)then .inr (cH (bk z_1 s_1))else(bif(z_1.kind==2)then .inr (cH (bk z_1 s_1))else(bif(z_1.kind==3)then .inr (cH (ca z_1 s_1))else(bif(z_1.kind==4)then .inr (cH s_1)else .inr default))))
def cp (a2:List Judgement)(s_0:List Claim×List Claim)(z_1:Judgement)(s_1:List Claim):Prop:=(((z_1.kind==1)=true→((bR z_1 s_1)∧(b7 (bk z_1 s_1))))∧((z_1.kind==1)=false→(((z_1.kind==2)=true→((bR z_1 s_1)∧(b7 (bk z_1 s_1))))∧((z_1.kind==2)=false→(((z_1.kind==3)=true→((cL z_1 s_1)∧(b7 (ca z_1 s_1))))∧((z_1.kind==3)=false→(((z_1.kind==4)=true→(b7 s_1))∧((z_1.kind==4)=false→False))))))))
@[go_sem] def bU (a1:List Claim)(a2:List Judgement)(k_0:Nat)(s_0:List Claim×List Claim):(List Claim)⊕(List Claim×List Claim):=(bif(decide ((s_0.1.length:Int) > 0))then(match nI (aT a2 s_0) (aO a2 ((s_0.1.getD 0 (default:Claim)).hour)) ((s_0.1.take (Int.toNat (bif(decide ((ag s_0.1 s_0.1) <0))then(s_0.1.length:Int)else(ag s_0.1 s_0.1)))).drop 0)with| .inl x=>x.elim| .inr s_1=>.inr (((s_0.1.take (Int.toNat (s_0.1.length:Int))).drop (Int.toNat (bif(decide ((ag s_0.1 s_0.1) <0))then(s_0.1.length:Int)else(ag s_0.1 s_0.1)))),(s_0.2++s_1)))else .inl s_0.2)
def f_ (a1:List Claim)(a2:List Judgement)(k_0:Nat)(s_0:List Claim×List Claim):Prop:=(s_0.1.length≤aJ→((decide ((s_0.1.length:Int) > 0))=true→((cI s_0.1 s_0.1)∧((0≤0∧0≤(bif(decide ((ag s_0.1 s_0.1) <0))then(s_0.1.length:Int)else(ag s_0.1 s_0.1))∧(bif(decide ((ag s_0.1 s_0.1) <0))then(s_0.1.length:Int)else(ag s_0.1 s_0.1))≤(s_0.1.length:Int))∧((((s_0.1.take (Int.toNat (bif(decide ((ag s_0.1 s_0.1) <0))then(s_0.1.length:Int)else(ag s_0.1 s_0.1)))).drop 0).length*40≤dC)∧((0≤0∧0< (s_0.1.length:Int))∧((gz a2 ((s_0.1.getD 0 (default:Claim)).hour) ((aO a2 ((s_0.1.getD 0 (default:Claim)).hour)).map ue))∧okL (aT a2 s_0) (cp a2 s_0) (aO a2 ((s_0.1.getD 0 (default:Claim)).hour)) ((s_0.1.take (Int.toNat (bif(decide ((ag s_0.1 s_0.1) <0))then(s_0.1.length:Int)else(ag s_0.1 s_0.1)))).drop 0)∧(∀ s_1,nI (aT a2 s_0) (aO a2 ((s_0.1.getD 0 (default:Claim)).hour)) ((s_0.1.take (Int.toNat (bif(decide ((ag s_0.1 s_0.1) <0))then(s_0.1.length:Int)else(ag s_0.1 s_0.1)))).drop 0)=.inr s_1→(((s_0.2++s_1).length*40≤dC)∧((s_0.2++s_1).length≤aJ→(0≤(bif(decide ((ag s_0.1 s_0.1) <0))then(s_0.1.length:Int)else(ag s_0.1 s_0.1))∧(bif(decide ((ag s_0.1 s_0.1) <0))then(s_0.1.length:Int)else(ag s_0.1 s_0.1))≤(s_0.1.length:Int)∧(s_0.1.length:Int)≤(s_0.1.length:Int))))))))))))
def bw (a0:District)(a1:List Claim)(a2:List Judgement):List Claim×Int:=(bif((aS a0 a2) !=0)then([],(aS a0 a2))else(bif((co a0 a1) !=0)then([],(co a0 a1))else(match ay (bU a1 a2) (a1.length+1) 0 (a1,[])with| .inl x_0_0=>(bif((decide ((x_0_0.length:Int) > 4096)) ||(bE x_0_0))then([],2)else(x_0_0,0)) | .inr s_0=>default)))
def dw (a0:District)(a1:List Claim)(a2:List Judgement):Prop:=((f9 a0 a2)∧(((aS a0 a2) !=0)=false→((pn a0 a1)∧(((co a0 a1) !=0)=false→(okI (bU a1 a2) (f_ a1 a2) (a1.length+1) 0 (a1,[])∧(∀ z_,ay (bU a1 a2) (a1.length+1) 0 (a1,[])≠ .inr z_))))))
@[go_sem] def nK:List SV→Option Con:=(pD .district fun a0=>(pR .claim fun a1=>(pR .judgement fun a2=>(pE (.det (dw a0 a1 a2) (.tup [.nw .claim ((bw a0 a1 a2).1),.v (.int .i64 ((bw a0 a1 a2).2))]))))))
theorem Yf {l0 l1 l2:List Nat}(a0:JL l0)(a1:JL l1)(a2:JL l2){p:Prop}(h:JL l0→JL l1→JL l2→p:=by intro ja jb jc;simp only[go_sem,Nat.reduceBEq,Nat.reduceLeDiff,Nat.reduceLT,decide_true,Nat.reduceAdd,Nat.reduceSub,Nat.reduceMul,Int.reduceLE,Int.reduceLT,Int.reduceToNat,Int.reduceNeg,reduceCtorEq,aA,aL,qr,aT,psT,ue,List.cons_append,List.nil_append,hk0];all_goals exact uK ja jb jc):p:=h a0 a1 a2
theorem Yg {l0 l1 l2:List Nat}(a0:JL l0)(a1:JL l1)(a2:JL l2){p:Prop}(h:JL l0→JL l1→JL l2→p:=by intro ja jb jc;simp only[go_sem,Nat.reduceBEq,Nat.reduceLeDiff,Nat.reduceLT,decide_true,Nat.reduceAdd,Nat.reduceSub,Nat.reduceMul,Int.reduceLE,Int.reduceLT,Int.reduceToNat,Int.reduceNeg,reduceCtorEq,aA,aL,qr,aT,psT,ue,List.cons_append,List.nil_append,hk0,hk1];all_goals exact uK ja jb jc):p:=h a0 a1 a2
theorem Yh {l0 l1 l2:List Nat}(a0:JL l0)(a1:JL l1)(a2:JL l2){p:Prop}(h:JL l0→JL l1→JL l2→p:=by intro ja jb jc;simp only[go_sem,Nat.reduceBEq,Nat.reduceLeDiff,Nat.reduceLT,decide_true,Nat.reduceAdd,Nat.reduceSub,Nat.reduceMul,Int.reduceLE,Int.reduceLT,Int.reduceToNat,Int.reduceNeg,reduceCtorEq,aA,aL,qr,aT,psT,ue,List.cons_append,List.nil_append,hk0,hk1,hk2];all_goals exact uK ja jb jc):p:=h a0 a1 a2
theorem RQ {l0 l1 l2:List Nat}(a0:JL l0)(a1:JL l1)(a2:JL l2){p:Prop}(h:JL l0→JL l1→JL l2→p:=by intro ja jb jc;simp only[go_sem,Nat.reduceBEq,Nat.reduceLeDiff,Nat.reduceLT,decide_true,Nat.reduceAdd,Nat.reduceSub,Nat.reduceMul,Int.reduceLE,Int.reduceLT,Int.reduceToNat,Int.reduceNeg,reduceCtorEq,aA,aL,qr,aT,psT,ue,List.cons_append,List.nil_append,hk0,hk1,hk2,hk3];all_goals exact uK ja jb jc):p:=h a0 a1 a2
theorem RR {l0 l1 l2:List Nat}(a0:JL l0)(a1:JL l1)(a2:JL l2){p:Prop}(h:JL l0→JL l1→JL l2→p:=by intro ja jb jc;simp only[go_sem,Nat.reduceBEq,Nat.reduceLeDiff,Nat.reduceLT,decide_true,Nat.reduceAdd,Nat.reduceSub,Nat.reduceMul,Int.reduceLE,Int.reduceLT,Int.reduceToNat,Int.reduceNeg,reduceCtorEq,aA,aL,qr];all_goals exact uK ja jb jc):p:=h a0 a1 a2
theorem Yi {p:Prop}(h:p:=by simp only[go_sem,Nat.reduceBEq,Nat.reduceLeDiff,Nat.reduceLT,decide_true,Nat.reduceAdd,Nat.reduceSub,Nat.reduceMul,Int.reduceLE,Int.reduceLT,Int.reduceToNat,Int.reduceNeg,reduceCtorEq,aA,aL,qr];all_goals exact cl):p:=h
theorem rz:FnOk Tryz.prog 12 nK:=by
 have hG:ConsOk Tryz.prog (mkG [(16,fun l=>je (a7 [.st .district,.sl .judgement] l)),(32,fun l=>wE (a7 [.st .district,.sl .claim] l)),(42,tR),(43,fun l=>aA (a7 [.sl .claim,.o] l)),(45,fun l=>rv (a7 [.sl .claim] l)),(46,fun l=>se (a7 [.sl .judgement,.o] l)),(48,fun l=>aL (a7 [.sl .claim,.o] l))] [(47,qq),(88,jr),(89,jU),(90,jV)]):=aq (cgc (kG.norm [.st .district,.sl .judgement]) (cgc (AN.norm [.st .district,.sl .claim]) (cgc yh (cgc (gC.norm [.sl .claim,.o]) (cgc (vU.norm [.sl .claim]) (cgc (wT.norm [.sl .judgement,.o]) (cgc (km.norm [.sl .claim,.o]) cg0))))))) (cgc y4 (cgc tu (cgc uc (cgc ud cg0))));refine yd [(.tmp 6,.claim)] mixed ak hG (fn:=Tryz.f12) (c:=aa Tryz.f12) kr kr kr kr (aM fun a0=>(a8 fun a1=>(a8 fun a2=>(ai (fun hp=>?_)))));dsimp only[ar]at hp;unfold dw at hp;refine⟨nbl rfl,(fun id st=>bif Nat.beq id 0 then some (LCV (ρ:=(List Claim)) (σ:=(List Claim×List Claim)) 4 [.slot 6 (.row .claim ([]))] [0,1,2,3,4] (fun k_0 s_0=>⟨[(2,.rs .judgement a2),(4,.ptr 1 0),(6,.os 4),(8,.ptr 3 0)],[.dead,.cells [.rs .claim s_0.1],.mp .int .fnc fw none,.cells [.os 2],.row .claim s_0.2]⟩) (bU a1 a2) (f_ a1 a2) (a1.length+1) (a1,[]) (fun _=>.normal) (fun x_0_0=>⟨[(6,.os 4)],[.dead,.dead,.dead,.dead,.row .claim x_0_0]⟩) st)else none),?_,?_⟩
 ·unfold aa Tryz.f12;simp only[ap,true_and,and_true]
  ·refine mq mixed ak hG kr (fun _=>rfl) fun k_0 s_0 hq0=>⟨(fun id st=>bif Nat.beq id 1000032 then some (JC (⟨[(2,.rs .judgement a2),(4,.ptr 1 0),(6,.os 4),(8,.ptr 3 0),(9,.v (.int .i64 (bif(decide ((ag s_0.1 s_0.1) <0))then(s_0.1.length:Int)else(ag s_0.1 s_0.1))))],[.dead,.cells [.rs .claim s_0.1],.mp .int .fnc fw none,.cells [.os 2],.row .claim s_0.2]⟩))else bif Nat.beq id 2 then some (LC (ρ:=Empty) (σ:=List Claim) (lk 2 st.t=.rs .judgement a2∧lk 4 st.t=.ptr 1 0∧lk 6 st.t=.os 4∧lk 8 st.t=.ptr 3 0∧lk 9 st.t=.v (.int .i64 (bif(decide ((ag s_0.1 s_0.1) <0))then(s_0.1.length:Int)else(ag s_0.1 s_0.1)))∧lk 10 st.t=.ptr 6 0∧lk 44 st.t=.fn 91 [] [.ep [.rs .judgement a2] 0,.ep [.v (.int .i64 ((s_0.1.getD 0 (default:Claim)).hour))] 0]∧st.h=[.dead,.cells [.rs .claim s_0.1],.mp .int .fnc fw none,.cells [.os 2],.row .claim s_0.2,.row .claim ((s_0.1.take (Int.toNat (bif(decide ((ag s_0.1 s_0.1) <0))then(s_0.1.length:Int)else(ag s_0.1 s_0.1)))).drop 0),.cells [.os 5]]∧gz a2 ((s_0.1.getD 0 (default:Claim)).hour) ((aO a2 ((s_0.1.getD 0 (default:Claim)).hour)).map ue)∧okL (aT a2 s_0) (cp a2 s_0) (aO a2 ((s_0.1.getD 0 (default:Claim)).hour)) ((s_0.1.take (Int.toNat (bif(decide ((ag s_0.1 s_0.1) <0))then(s_0.1.length:Int)else(ag s_0.1 s_0.1)))).drop 0)) (nI (aT a2 s_0) (aO a2 ((s_0.1.getD 0 (default:Claim)).hour)) ((s_0.1.take (Int.toNat (bif(decide ((ag s_0.1 s_0.1) <0))then(s_0.1.length:Int)else(ag s_0.1 s_0.1)))).drop 0)) (fun x=>x.elim) (fun x=>x.elim) (fun s_1=>⟨[(2,.rs .judgement a2),(4,.ptr 1 0),(6,.os 4),(8,.ptr 3 0),(9,.v (.int .i64 (bif(decide ((ag s_0.1 s_0.1) <0))then(s_0.1.length:Int)else(ag s_0.1 s_0.1)))),(10,.ptr 6 0)],[.dead,.cells [.rs .claim s_0.1],.mp .int .fnc fw none,.cells [.os 2],.row .claim s_0.2,.dead,.cells [.os 7],.row .claim s_1]⟩))else none),?_,?_⟩
   ·simp only[ap,true_and,and_true]
    ·refine zJ mixed ak hG (by decide) (by decide) kr kr fun st lc hC hp=>?_;simp only[go_sem,Nat.reduceBEq,Option.some.injEq]at hC;subst hC;obtain⟨t,h⟩:=st;dsimp only[LC]at hp;obtain⟨e1_0,e1_1,e1_2,e1_3,e1_4,e1_5,e1_6,rfl,hb1,hok1⟩:=hp;refine⟨91,[.ep [.rs .judgement a2] 0,.ep [.v (.int .i64 ((s_0.1.getD 0 (default:Claim)).hour))] 0],Judgement,_,_,(aO a2 ((s_0.1.getD 0 (default:Claim)).hour)),ue,(aT a2 s_0),(cp a2 s_0),_,((s_0.1.take (Int.toNat (bif(decide ((ag s_0.1 s_0.1) <0))then(s_0.1.length:Int)else(ag s_0.1 s_0.1)))).drop 0),_,_,_,[(2,.rs .judgement a2),(4,.ptr 1 0),(6,.os 4),(8,.ptr 3 0),(9,.v (.int .i64 (bif(decide ((ag s_0.1 s_0.1) <0))then(s_0.1.length:Int)else(ag s_0.1 s_0.1)))),(10,.ptr 6 0)],(fun s_1=>[.dead,.cells [.rs .claim s_0.1],.mp .int .fnc fw none,.cells [.os 2],.row .claim s_0.2,.dead,.cells [.os 7],.row .claim s_1]),(fun x=>x.elim),[0,1,2,3,4,5,6,5],?_,rfl,hok1,nbl rfl,?_,vv a2 ((s_0.1.getD 0 (default:Claim)).hour) _ hb1,fun z_1 s_1 hq1=>⟨rfl,L0,fun l=>?_,fun l=>?_,?_⟩,fun s_1=>?_,fun y=>?_⟩
     ·simp only[go_sem,e1_0,e1_1,e1_2,e1_3,e1_4,e1_5,e1_6]
     ·simp only[go_sem,Nat.reduceBEq,Nat.reduceLeDiff,Nat.reduceLT,decide_true,Nat.reduceAdd,Nat.reduceSub,Nat.reduceMul,Int.reduceLE,Int.reduceLT,Int.reduceToNat,Int.reduceNeg,reduceCtorEq,wx,oF,List.flatMap_cons,List.flatMap_nil,List.nil_append,List.append_nil,List.map_nil,e1_0,e1_1,e1_2,e1_3,e1_4,e1_5,e1_6];all_goals (first|done|decide|(repeat' (first|refine And.intro ?_ ?_|rfl|decide)))
     ·simp only[ap,and_self,true_and,and_true]
     ·simp only[ap,and_self,true_and,and_true]
     ·unfold cp at hq1;rcases Bool.eq_false_or_eq_true (z_1.kind==1)with hk0|hk0
      ·exact Yf (jl [0,1,2,3,4,5,6,9]) (jl [0,1,2,3,4,5,6,10]) (jl [0,1,2,3,4,5,6,7])
      rcases Bool.eq_false_or_eq_true (z_1.kind==2)with hk1|hk1
      ·exact Yg (jl [0,1,2,3,4,5,6,9]) (jl [0,1,2,3,4,5,6,10]) (jl [0,1,2,3,4,5,6,7])
      rcases Bool.eq_false_or_eq_true (z_1.kind==3)with hk2|hk2
      ·exact Yh (jl [0,1,2,3,4,5,6,9]) (jl [0,1,2,3,4,5,6,10]) (jl [0,1,2,3,4,5,6,7])
      rcases Bool.eq_false_or_eq_true (z_1.kind==4)with hk3|hk3
      ·exact RQ (jl [0,1,2,3,4,5,6,9]) (jl [0,1,2,3,4,5,6,10]) (jl [0,1,2,3,4,5,6,7])
      exact RQ (jl [0,1,2,3,4,5,6,9]) (jl [0,1,2,3,4,5,6,10]) (jl [0,1,2,3,4,5,6,7])
     ·exact RR (jl [0,1,2,3,4,5,6,9]) (jl [0,1,2,3,4,5,6,10]) (jl [0,1,2,3,4,5,6,7])
     ·exact RR (jl [0,1,2,3,4,5,6,9]) (jl [0,1,2,3,4,5,6,10]) (jl [0,1,2,3,4,5,6,7])
   ·unfold f_ at hq0;exact CB (jl [0,1,2,3,8]) (jl [0,1,2,3,4])
 ·unfold aa Tryz.f12;try unfold bw
  exact Yi
theorem G7 (x:Int)(l:List Int):ik (x::l)=if x=0 then ik l else x:=by
 have key:∀ l:List Int,ik l=match nI (ρ:=Int) (fun(x:Int) (_:Unit) =>bif(x !=0)then .inl x else .inr ()) l ()with| .inl y=>y| .inr _=>0:=fun l=>by
  unfold ik;have:=yP (ρ:=Int) (fun(x:Int) (_:Unit) =>bif(x !=0)then .inl x else .inr ()) 0 l ();rw[←this];rfl
 rw[key,key];simp only[nI];by_cases h:x=0
 ·subst h;rfl
 ·have:(x !=0)=true:=by simpa using h
  rw[if_neg h,this];rfl
theorem IL:ik []=0:=rfl
theorem CK:∀ l:List (Int×Int),(ik (l.map fun p=>cA p.1 p.2) <0↔t8 l)
 | [] =>by simp[IL,t8]
 |(a,b)::r=>by
  have hc:=wK a b;simp only[List.map_cons,G7,hc,t8];rcases Int.lt_trichotomy a b with h|h|h
  ·simp[h]
  ·subst h;simp only[Int.lt_irrefl,if_false,if_true,true_and,false_or,gt_iff_lt];exact CK r
  ·have h1:¬a<b:=by omega
   have h2:a≠b:=by omega
   simp[h1,h2,h]
def y5 (a b:Claim):Prop:=t8 [(a.hour,b.hour),(a.rank,b.rank),(a.right,b.right),(a.farm,b.farm)]
theorem y6 (a b:Claim):kE a b<0↔y5 a b:=CK [(a.hour,b.hour),(a.rank,b.rank),(a.right,b.right),(a.farm,b.farm)]
theorem yi (a b:Claim):aG a b=decide (kE a b<0):=by
 rw[Bool.eq_iff_iff,decide_eq_true_eq,y6];unfold aG;simp only[y5,t8,and_false,or_false];by_cases h1:a.hour=b.hour
 ·rw[show(a.hour !=b.hour)=false by simpa using h1,cond_false];by_cases h2:a.rank=b.rank
  ·rw[show(a.rank !=b.rank)=false by simpa using h2,cond_false];by_cases h3:a.right=b.right
   ·rw[show(a.right !=b.right)=false by simpa using h3,cond_false,decide_eq_true_eq];omega
   ·rw[show(a.right !=b.right)=true by simpa using h3,cond_true,decide_eq_true_eq];omega
  ·rw[show(a.rank !=b.rank)=true by simpa using h2,cond_true,decide_eq_true_eq];omega
 ·rw[show(a.hour !=b.hour)=true by simpa using h1,cond_true,decide_eq_true_eq];omega
theorem uM {α:Type}(l:List α)(d:α){k:Nat}(hk:k<l.length):l.getD k d∈l:=by rw[qM l d hk];exact List.getElem_mem hk
theorem IM {a b c:Claim}(h1:y5 a b)(h2:y5 b c):y5 a c:=by simp only[y5,t8,and_false,or_false]at *;omega
structure FineC (d:District)(x:Claim):Prop where
 r0:0≤x.right
 r1:x.right< (d.rights.length:Int)
 f0:0≤x.farm
 f1:x.farm< (d.farms.length:Int)
 h0:0≤x.hour
 h1:x.hour<d.hours
 l0:1≤x.litres
 l1:x.litres≤1073741824
 kind:(d.rights.getD x.right.toNat default).kind=1
 rank:(d.rights.getD x.right.toNat default).rank=x.rank
def y7 (d:District)(x:Claim):Bool:=(((((((decide (x.right≥0))&&(decide (x.right< (d.rights.length:Int))))&&(decide (x.farm≥0)))&&(decide (x.farm< (d.farms.length:Int))))&&(decide (x.hour≥0)))&&(decide (x.hour<d.hours)))&&(decide (x.litres≥1)))&&(decide (x.litres≤1073741824))
theorem xf (d:District)(x:Claim):y7 d x=true↔(0≤x.right∧x.right< (d.rights.length:Int))∧(0≤x.farm∧x.farm< (d.farms.length:Int))∧(0≤x.hour∧x.hour<d.hours)∧(1≤x.litres∧x.litres≤1073741824):=by
 unfold y7;simp only[Bool.and_eq_true,decide_eq_true_eq];omega
theorem Ec (d:District)(x:Claim):FineC d x↔y7 d x=true∧(d.rights.getD x.right.toNat default).kind=1∧(d.rights.getD x.right.toNat default).rank=x.rank:=by
 rw[xf];exact⟨fun h=>⟨⟨⟨h.r0,h.r1⟩,⟨h.f0,h.f1⟩,⟨h.h0,h.h1⟩,h.l0,h.l1⟩,h.kind,h.rank⟩,fun h=>⟨h.1.1.1,h.1.1.2,h.1.2.1.1,h.1.2.1.2,h.1.2.2.1.1,h.1.2.2.1.2,h.1.2.2.2.1,h.1.2.2.2.2,h.2.1,h.2.2⟩⟩
theorem not8 (d:District)(x:Claim):((((((((decide (x.right<0)) ||(decide (x.right≥(d.rights.length:Int)))) ||(decide (x.farm<0))) ||(decide (x.farm≥(d.farms.length:Int)))) ||(decide (x.hour<0))) ||(decide (x.hour≥d.hours))) ||(decide (x.litres<1))) ||(decide (x.litres > 1073741824)))= !y7 d x:=by
 rw[Bool.eq_iff_iff,Bool.not_eq_true',←Bool.not_eq_true,xf];simp only[Bool.or_eq_true,decide_eq_true_eq];omega
theorem Fk (d:District)(x:Claim):oa d x∧(i4 d x=true↔FineC d x):=by
 unfold oa i4;rw[not8,Ec];cases h:y7 d x with
 |false=>exact⟨(fun h=>by cases h),by simp⟩
 |true=>
  have:=(xf d x).1 h;exact⟨fun _=>⟨this.1,fun _=>this.1⟩,by simp⟩
theorem NZ (d:District)(c:List Claim)(k:Nat)(hk:k<4097):gk d c k ()=my d c k ()∧(gk d c k ()=.inr ()↔FineC d (c.getD k default)∧(0<k→kE (c.getD (k - 1) default) (c.getD k default) <0)):=by
 have hw:0<k→Int.toNat (i64.wrap ((k:Int) - 1))=k - 1:=fun h=>by rw[gG (by omega) (by omega)];omega
 have e:(((((!(y7 d (c.getD k default))) ||((d.rights.getD (Int.toNat (c.getD k default).right) default).kind !=1)) ||((d.rights.getD (Int.toNat (c.getD k default).right) default).rank !=(c.getD k default).rank)) ||((decide ((k:Int) > 0))&&(decide ((kE (c.getD (Int.toNat (i64.wrap ((k:Int) - 1))) default) (c.getD k default))≥0)))))=(((!(i4 d (c.getD k default))) ||((decide ((k:Int) > 0))&&(!(aG (c.getD (Int.toNat (i64.wrap ((k:Int) - 1))) default) (c.getD k default)))))):=by
  rw[yi];have h1:(((!(y7 d (c.getD k default))) ||((d.rights.getD (Int.toNat (c.getD k default).right) default).kind !=1)) ||((d.rights.getD (Int.toNat (c.getD k default).right) default).rank !=(c.getD k default).rank))= !(i4 d (c.getD k default)):=by
   rw[Bool.eq_iff_iff,Bool.not_eq_true',←Bool.not_eq_true,(Fk _ _).2,Ec];simp only[Bool.or_eq_true,Bool.not_eq_true',bne_iff_ne,ne_eq];cases y7 d (c.getD k default) <;>simp;constructor
   ·rintro (h|h) h2 h3
    ·exact h h2
    ·exact h h3
   ·intro h;by_cases h2:(d.rights.getD (Int.toNat (c.getD k default).right) default).kind=1
    ·exact .inr (h h2)
    ·exact .inl h2
  rw[h1];congr 2
  rw[←decide_not];exact decide_eq_decide.2 (by omega)
 refine⟨?_,?_⟩
 ·show(bif _ then Sum.inl ()else Sum.inr ())=(bif _ then Sum.inl ()else Sum.inr ());exact congrArg (fun b=>(bif b then Sum.inl ()else Sum.inr ():Unit⊕Unit)) e
 ·show(bif _ then Sum.inl ()else Sum.inr ())=_↔_;rw[uy];refine Iff.trans (b:=(((!(i4 d (c.getD k default))) ||((decide ((k:Int) > 0))&&(!(aG (c.getD (Int.toNat (i64.wrap ((k:Int) - 1))) default) (c.getD k default))))))=false) (by rw[←e];rfl) ?_;rw[yi];rw[Bool.or_eq_false_iff,Bool.not_eq_false',(Fk _ _).2];by_cases hk0:0<k
  ·rw[hw hk0,decide_eq_true (show(k:Int) > 0 by omega)];simp[hk0]
  ·rw[decide_eq_false (show ¬ (k:Int) > 0 by omega)];simp[hk0]
theorem N0 (d:District)(c:List Claim):pn d c:=fun _ _ h _=>lT _ _ _ fun j _ _ hj=>by
 have hle:c.length≤4096:=by have:=of_decide_eq_false h;omega
 have h8:=xf d (c.getD j default);unfold y7 at h8;unfold lV;refine⟨fun h=>?_,fun h=>?_,fun h h0=>?_⟩
 ·rw[Bool.not_eq_false']at h;exact(h8.1 h).1
 ·rw[Bool.or_eq_false_iff,Bool.not_eq_false']at h;exact(h8.1 h.1).1
 ·have h0:=of_decide_eq_true h0;rw[gG (by omega) (by omega)];omega
theorem Ls (d:District)(c:List Claim):qJ d c:=⟨D8 d,fun _ _ h=>lT _ _ _ fun j _ _ hj=>fun _=>⟨(Fk _ _).1,fun _ h0=>by
 have h0:=of_decide_eq_true h0;have hle:c.length≤4096:=by have:=of_decide_eq_false h;omega
 rw[gG (by omega) (by omega)];omega⟩⟩
theorem Ed {ρ σ:Type}{f g:Nat→σ→ρ⊕σ}:∀ (n i:Nat) (s:σ),(∀ j s,i≤j→j<i+n→f j s=g j s)→ay f n i s=ay g n i s
 |0,_,_,_=>rfl
 |n+1,i,s,h=>by
  rw[ay,ay,h i s (Nat.le_refl _) (by omega)];cases g i s with
  |inl x=>rfl
  |inr s'=>exact Ed n (i+1) s' fun j s h1 h2=>h j s (by omega) (by omega)
theorem Ee (d:District)(c:List Claim):co d c=mz d c:=by
 unfold co mz;rw[←wL];cases bQ d !=0 with
 |true=>rfl
 |false=>
  simp only[cond_false];by_cases hl:(c.length:Int) > 4096
  ·rw[decide_eq_true hl];rfl
  ·rw[decide_eq_false hl];simp only[cond_false];rw[Ed (f:=gk d c) (g:=my d c) c.length 0 () fun j s _ hj=>(NZ d c j (by omega)).1];try rfl
theorem T7 {d:District}{c:List Claim}(he:bQ d=0)(hl:c.length≤4096)(h1:∀ x∈c,FineC d x)(h2:c.Pairwise y5):co d c=0:=by
 unfold co;rw[he,decide_eq_false (show ¬ (c.length:Int) > 4096 by omega)];simp only[bne_self_eq_false,cond_false];have:ay (gk d c) c.length 0 ()=.inr ():=jP.2 fun j hj=>((NZ d c j (by omega)).2).2 ⟨h1 _ (uM _ default hj),fun h0=>by
  rw[List.pairwise_iff_getElem]at h2;rw[y6,qM c default (show j - 1<c.length by omega),qM c default hj];exact h2 (j - 1) j (by omega) hj (by omega)⟩
 rw[this]
theorem CL {d:District}{c:List Claim}(h:co d c=0):bQ d=0∧c.length≤4096∧(∀ x∈c,FineC d x)∧c.Pairwise y5:=by
 unfold co at h;cases he:(bQ d !=0)with
 |true=>rw[he]at h;simp only[cond_true]at h;rw[h]at he;cases he
 |false=>
  rw[he]at h;simp only[cond_false]at h;by_cases hl:c.length≤4096
  ·rw[decide_eq_false (show ¬ (c.length:Int) > 4096 by omega)]at h;simp only[cond_false]at h;cases hr:ay (gk d c) c.length 0 ()with
   |inl y=>rw[hr]at h;cases h
   |inr s=>
    have h1:∀ k,k<c.length→FineC d (c.getD k default)∧(0<k→y5 (c.getD (k - 1) default) (c.getD k default)):=fun k hk=>by
     have h2:=(NZ d c k (by omega)).2.1 (oY hr k (by omega) (by omega));exact⟨h2.1,fun h0=>(y6 _ _).1 (h2.2 h0)⟩
    have hlt:∀ k i,i<k→k<c.length→y5 (c.getD i default) (c.getD k default):=fun k=>by
     induction k with
     |zero=>intro i hi;omega
     |succ k ih=>
      intro i hi hk;have h2:=(h1 (k+1) hk).2 (by omega);rw[Nat.add_sub_cancel]at h2;by_cases hik:i=k
      ·subst hik;exact h2
      ·exact IM (ih i (by omega) (by omega)) h2
    refine⟨by simpa using he,hl,fun x hx=>?_,?_⟩
    ·obtain⟨k,hk,rfl⟩:=List.getElem_of_mem hx;have:=(h1 k hk).1
     rwa[qM _ _ hk]at this
    ·rw[List.pairwise_iff_getElem];intro i j hi hj hij;have:=hlt j i hij hj
     rwa[qM _ _ hi,qM _ _ hj]at this
  ·rw[decide_eq_true (show(c.length:Int) > 4096 by omega)]at h;cases h
theorem Yj {ρ σ:Type}{step:Nat→σ→ρ⊕σ}{p:Nat→σ→Prop}(m:σ→Nat)(J:σ→Prop)(Q:ρ→Prop)(h:∀ k s,J s→p k s∧((∃ r,step k s=.inl r∧Q r)∨∃ s',step k s=.inr s'∧m s'<m s∧J s')):∀ (n i:Nat) (s:σ),J s→m s<n→okI step p n i s∧∃ r,ay step n i s=.inl r∧Q r
 |0,_,_,_,hm=>absurd hm (Nat.not_lt_zero _)
 |n+1,i,s,hJ,hm=>by
  obtain⟨h1,h2⟩:=h i s hJ;rcases h2 with⟨r,e,hq⟩ | ⟨s',e,hlt,hJ'⟩
  ·refine⟨⟨h1,fun s'' e'=>?_⟩,r,?_,hq⟩
   ·rw[e]at e';cases e'
   ·simp only[ay,e]
  ·obtain⟨q1,q2⟩:=Yj m J Q h n (i+1) s' hJ' (by omega);refine⟨⟨h1,fun s'' e'=>?_⟩,?_⟩
   ·rw[e]at e';cases e';exact q1
   ·simp only[ay,e];exact q2
theorem Yk {ρ σ:Type}{x:ρ⊕σ}{Q:ρ→Prop}(h:∃ r,x=.inl r∧Q r):∀ z,x≠ .inr z:=fun z e=>by
 obtain⟨r,e1,_⟩:=h;rw[e1]at e;cases e
theorem il {α:Type}(A:List α)(x d:α)(T:List α){i:Nat}(h:i=A.length):(A++x::T).getD i d=x:=by
 subst h;simp[List.getD_eq_getElem?_getD]
theorem N1 {α:Type}(A:List α)(x y:α)(T:List α){i:Nat}(h:i=A.length):(A++x::T).set i y=A++y::T:=by
 subst h;simp
theorem N2 (K G:List Claim):((Bo .claim (K++G) (K.length:Int) ((K++G).length:Int)).take K.length)=K:=by
 unfold Bo;simp only[Int.toNat_natCast];split
 ·rename_i h;rw[List.length_append]at h;have:G=[]:=List.eq_nil_of_length_eq_zero (by omega);subst this;simp
 ·simp
theorem y8 {α:Type}{step:Nat→Unit→Int⊕Unit}(l:List α)(d:α)(P:α→Bool)(h:∀ k,k<l.length→step k ()=bif P (l.getD k d)then .inl (k:Int)else .inr ()):(ay step l.length 0 ()=.inr ()∧∀ x∈l,P x=false)∨∃ K x R,l=K++x::R∧ay step l.length 0 ()=.inl (K.length:Int)∧P x=true∧∀ y∈K,P y=false:=by
 have key:∀ (R K:List α),l=K++R→(∀ y∈K,P y=false)→(ay step R.length K.length ()=.inr ()∧∀ x∈l,P x=false)∨∃ K' x R',l=K'++x::R'∧ay step R.length K.length ()=.inl (K'.length:Int)∧P x=true∧∀ y∈K',P y=false:=fun R=>by
  induction R with
  |nil=>exact fun K h hK=>.inl ⟨rfl,fun x hx=>hK x (by rw[h]at hx;simpa using hx)⟩
  |cons x R ih=>
   intro K hl hK;have e:=h K.length (by rw[hl];simp);have g:l.getD K.length d=x:=by rw[hl];simp[List.getD_eq_getElem?_getD]
   rw[g]at e;simp only[List.length_cons,ay,e];cases hx:P x with
   |true=>exact .inr ⟨K,x,R,hl,rfl,hx,hK⟩
   |false=>
    simp only[cond_false];have:=ih (K++[x]) (by rw[hl];simp) (fun y hy=>by
     rcases List.mem_append.1 hy with hy|hy
     ·exact hK y hy
     ·simp at hy;subst hy;exact hx)
    rw[List.length_append]at this;exact this
 exact key l [] rfl (by simp)
theorem Lt (l:List Claim)(hl:l.length<2 ^ 47):aN l∧aH l=l.filter fun x=>!av x:=by
 have hI:(al l= -1∧∀ x∈l,av x=false)∨∃ K x R,l=K++x::R∧al l=(K.length:Int)∧av x=true∧∀ y∈K,av y=false:=by
  unfold al;rcases y8 (step:=cT l) l default (fun x=>av x) (fun k _=>rfl)with⟨e,h⟩ | ⟨K,x,R,h1,e,h2,h3⟩
  ·rw[e];exact .inl ⟨rfl,h⟩
  ·rw[e];exact .inr ⟨K,x,R,h1,rfl,h2,h3⟩
 unfold aN aH;rcases hI with⟨e,h⟩ | ⟨K,x,R,hl0,e,h2,h3⟩
 ·rw[e];refine⟨(fun h=>by cases h),?_⟩;simp only[BEq.rfl,cond_true];exact(List.filter_eq_self.2 fun x hx=>by rw[h x hx];rfl).symm
 ·have b:((K.length:Int) == -1)=false:=by simp only[beq_eq_false_iff_ne];omega
  have hlen:l.length=K.length+(R.length+1):=by rw[hl0];simp
  have w:i64.wrap ((K.length:Int)+1)=((K.length+1:Nat):Int):=by rw[gG (by omega) (by omega)];omega
  rw[e,w];simp only[b,cond_false];obtain⟨k1,r,k2,K',G',rfl,k3⟩:okI (aB l) (aZ l) (l.length+1) 0 (l,(K.length:Int),((K.length+1:Nat):Int))∧∃ r,ay (aB l) (l.length+1) 0 (l,(K.length:Int),((K.length+1:Nat):Int))=.inl r∧∃ K' G',r=((K'.length:Int),K'++G')∧K'=l.filter fun x=>!av x:=by
   refine Yj (fun s:List Claim×Int×Int=>((l.length:Int) - s.2.2).toNat) (fun s:List Claim×Int×Int=>∃ K' g G' R',s=(K'++g::(G'++R'),(K'.length:Int),((K'.length+(G'.length+1):Nat):Int))∧K'.length+(G'.length+1)+R'.length=l.length∧(l.filter fun x=>!av x)=K'++R'.filter fun x=>!av x) _ ?_ _ _ _ ⟨K,x,[],R,by rw[hl0];simp,by rw[hlen];simp;omega,?_⟩ (by simp only;omega)
   ·rintro k s ⟨K',g,G',R',rfl,hn,hF⟩;have hL:(K'++g::(G'++R')).length=l.length:=by rw[←hn];simp;omega
    unfold aZ aB;simp only[hL];cases R' with
    |nil=>
     have e1:decide (((K'.length+(G'.length+1):Nat):Int) < (l.length:Int))=false:=by rw[decide_eq_false_iff_not];simp only[List.length_nil]at hn;omega
     simp only[e1,cond_false];exact⟨(fun _ h=>by cases h),.inl ⟨_,rfl,K',g::(G'++[]),rfl,by simpa using hF.symm⟩⟩
    |cons y R'=>
     simp only[List.length_cons]at hn;have e1:decide (((K'.length+(G'.length+1):Nat):Int) < (l.length:Int))=true:=by rw[decide_eq_true_eq];omega
     have gy:(K'++g::(G'++y::R')).getD (K'.length+(G'.length+1)) default=y:=by
      have:K'++g::(G'++y::R')=(K'++g::G')++y::R':=by simp
      rw[this];exact il _ _ _ _ (by simp)
     have w1:i64.wrap (((K'.length+(G'.length+1):Nat):Int)+1)=((K'.length+(G'.length+1)+1:Nat):Int):=by rw[gG (by omega) (by omega)];omega
     have w2:i64.wrap ((K'.length:Int)+1)=((K'.length+1:Nat):Int):=by rw[gG (by omega) (by omega)];omega
     simp only[e1,cond_true,Int.toNat_natCast,gy,w1,w2];refine⟨fun _ _=>⟨by omega,fun _=>by omega⟩,.inr ?_⟩;cases hy:av y with
     |false=>
      obtain⟨g',G2,hG⟩:∃ g' G2,G'++[y]=g'::G2:=by
       cases G' with
       |nil=>exact⟨y,[],rfl⟩
       |cons a b=>exact⟨a,b++[y],rfl⟩
      have hGl:G'.length+1=G2.length+1:=by have:=congrArg List.length hG;simpa using this
      refine⟨_,rfl,by simp only;omega,K'++[y],g',G2,R',?_,?_,?_⟩
      ·rw[N1 K' g y _ rfl];have h1:g'::(G2++R')=G'++y::R':=by rw[←List.cons_append,←hG];simp
       rw[List.append_assoc,h1,Prod.mk.injEq,Prod.mk.injEq];refine⟨by simp,by simp,?_⟩;rw[List.length_append];simp only[List.length_cons,List.length_nil];omega
      ·rw[List.length_append];simp only[List.length_cons,List.length_nil];omega
      ·rw[hF,List.filter_cons_of_pos (by rw[hy];rfl)];simp
     |true=>
      refine⟨_,rfl,by simp only;omega,K',g,G'++[y],R',?_,by rw[List.length_append];simp only[List.length_cons,List.length_nil];omega,?_⟩
      ·have:(G'++[y])++R'=G'++y::R':=by simp
       rw[this,List.length_append,Prod.mk.injEq,Prod.mk.injEq];exact⟨rfl,rfl,by simp only[List.length_cons,List.length_nil];omega⟩
      ·rw[hF,List.filter_cons_of_neg (by rw[hy];simp)]
   ·rw[hl0,List.filter_append,List.filter_cons_of_neg (by rw[h2];simp)];congr 1
    exact List.filter_eq_self.2 fun y hy=>by rw[h3 y hy];rfl
  refine⟨fun _=>⟨k1,Yk (Q:=fun _=>True) ⟨_,k2,trivial⟩,fun z hz=>?_⟩,?_⟩
  ·rw[k2]at hz;cases hz;have:(Bo .claim (K'++G') (K'.length:Int) ((K'++G').length:Int)).length=(K'++G').length:=by
    unfold Bo;simp only[Int.toNat_natCast];split
    ·rfl
    ·simp <;>omega
   simp only[this];simp only[List.length_append];omega
  ·rw[k2];simp only[Int.toNat_natCast,List.drop_zero];rw[N2,k3]
open Go.Shelf Go.Sort in
theorem IN {α:Type}{cf:α→α→Int}(hO:SWO (ltOf cf)){s m:List α}(hp:s.Perm m)(hm:m.Pairwise fun x y=>cf x y<0):apart cf s∧srt cf s=m:=by
 have e1:∀ x y,ltOf cf x y=true↔cf x y<0:=fun x y=>by unfold ltOf;rw[decide_eq_true_eq]
 have hex:∀ x∈m,∀ y∈m,ltOf cf x y=false→ltOf cf y x=false→x=y:=fun x hx y hy h1 h2=>by
  obtain⟨i,hi,rfl⟩:=List.mem_iff_getElem.1 hx;obtain⟨j,hj,rfl⟩:=List.mem_iff_getElem.1 hy;rw[List.pairwise_iff_getElem]at hm;rcases Nat.lt_trichotomy i j with h|h|h
  ·rw[(e1 _ _).2 (hm i j hi hj h)]at h1;cases h1
  ·subst h;rfl
  ·rw[(e1 _ _).2 (hm j i hj hi h)]at h2;cases h2
 refine⟨fun x hx y hy h1 h2=>hex x (hp.subset hx) y (hp.subset hy) h1 h2,?_⟩;unfold srt;have hq:(s.mergeSort fun x y=>!(ltOf cf y x)).Perm m:=(List.mergeSort_perm _ _).trans hp;refine List.Perm.eq_of_pairwise (le:=fun x y=>(!ltOf cf y x)=true) ?_ ?_ ?_ hq
 ·intro x y hx hy h1 h2;simp only[Bool.not_eq_true']at h1 h2;exact hex x (hq.subset hx) y hy h2 h1
 ·refine List.pairwise_mergeSort ?_ ?_ s
  ·intro a b c h1 h2;simp only[Bool.not_eq_true']at h1 h2 ⊢;exact hO.3 c b a h2 h1
  ·intro a b;simp only[Bool.or_eq_true,Bool.not_eq_true'];cases h1:ltOf cf b a with
   |false=>exact .inl rfl
   |true=>
    right;cases h2:ltOf cf a b with
    |false=>rfl
    |true=>have:=hO.2 _ _ _ h1 h2;rw[hO.1]at this;cases this
 ·refine hm.imp fun {a b} hab=>?_;simp only[Bool.not_eq_true'];cases h2:ltOf cf b a with
  |false=>rfl
  |true=>have:=hO.2 _ _ _ ((e1 _ _).2 hab) h2;rw[hO.1]at this;cases this
theorem Lu {n:Nat}(h:n<2 ^ 47):0≤((Go.Lib.bitLen n:Nat):Int)∧((Go.Lib.bitLen n:Nat):Int) <4611686018427387904:=by
 have:Go.Lib.bitLen n≤47:=Go.Lib.bitLen_le n 47 (by omega) h;omega
theorem Fl {l m:List Claim}(hl:l.length<2 ^ 46)(hp:(l.filter fun x=>!av x).Perm m)(hm:m.Pairwise tlt):b7 l∧cH l=m:=by
 obtain⟨h1,h2⟩:=Lt l (by omega);obtain⟨h3,h4⟩:=IN GN hp (hm.imp fun {a b} h=>(JW a b).2 h);unfold b7 cH aV a_;rw[h2];refine⟨⟨h1,fun hL=>?_⟩,h4⟩;have hw:u64.wrap ((l.filter fun x=>!av x).length:Int)=((l.filter fun x=>!av x).length:Int):=Nz (by omega) (by unfold aJ at hL;omega);rw[hw];have hb:=Lu (n:=(l.filter fun x=>!av x).length) (by have:=List.length_filter_le (fun x=>!av x) l;omega);refine⟨⟨by omega,by unfold aJ at hL;omega⟩,rfl,rfl,?_,?_,h3⟩
 ·rw[Int.toNat_natCast];exact hb.1
 ·rw[Int.toNat_natCast];exact hb.2
def l9 (x:Claim)(n:Int):Claim:= { right:=x.right,farm:=x.farm,hour:=x.hour,litres:=n,rank:=x.rank}
def bI (a b:Int):Int:=if a<b then a else b
theorem px {a b:Int}:bI a b≤a∧bI a b≤b∧(bI a b=a∨bI a b=b):=by unfold bI;split <;>omega
def oe (f:Int):Int→List Claim→List Claim
 |_,[] =>[]
 |n,x::r=>if x.farm=f then l9 x (bI n x.litres)::oe f (n - bI n x.litres) r else x::oe f n r
abbrev Lit (l:List Claim):Prop:= ∀ y∈l,0≤y.litres∧y.litres<4611686018427387904
theorem zW (x:Judgement)(l0:List Claim):∀ (R A:List Claim) (n:Int) (k:Nat),A.length=k→0≤n→n<4611686018427387904→Lit R→
  okI (cU x l0) (eE x l0) R.length k (A++R,n)∧∃ m,ay (cU x l0) R.length k (A++R,n)=.inr (A++oe x.farm n R,m)
 | [],A,n,k,hk,h0,h1,hR=>⟨trivial,n,by simp[ay,oe]⟩
 |y::R,A,n,k,hk,h0,h1,hR=>by
  have hy:=hR y (by simp);have hR':Lit R:=fun z hz=>hR z (by simp[hz]);have e:(A++y::R).getD k default=y:=il A y default R hk.symm;have e2:∀ z:Claim,(A++y::R).set k z=A++z::R:=fun z=>N1 A y z R hk.symm;have e3:∀ z:Claim,(A++z::R).getD k default=z:=fun z=>il A z default R hk.symm;have hm:=px (a:=n) (b:=y.litres);have hlen:(k:Int) < ((A++y::R).length:Int):=by rw[List.length_append,List.length_cons];omega
  have hlen2:∀ z:Claim,(k:Int) < ((A++z::R).length:Int):=fun z=>by rw[List.length_append,List.length_cons];omega
  simp only[List.length_cons,okI,ay,cU,eE,e,e2,e3];by_cases hf:y.farm=x.farm
  ·rw[show(y.farm==x.farm)=true by simpa using hf];simp only[cond_true];have hw:i64.wrap (n - bI n y.litres)=n - bI n y.litres:=gG (by omega) (by omega);change _∧∃ m,ay (cU x l0) R.length (k+1) (A++l9 y (bI n y.litres)::R,i64.wrap (n - bI n y.litres))=_;rw[hw];obtain⟨q1,m,q2⟩:=zW x l0 R (A++[l9 y (bI n y.litres)]) (n - bI n y.litres) (k+1) (by simp[hk]) (by omega) (by omega) hR';rw[List.append_assoc,List.singleton_append]at q1 q2;refine⟨⟨⟨⟨by omega,hlen⟩,fun _=>⟨⟨by omega,hlen⟩,⟨by omega,hlen⟩,by omega,hlen2 _⟩⟩,fun s' hs=>?_⟩,m,?_⟩
   ·cases hs;change okI _ _ R.length (k+1) (A++l9 y (bI n y.litres)::R,i64.wrap (n - bI n y.litres));rw[hw];exact q1
   ·rw[q2,oe,if_pos hf];simp
  ·rw[show(y.farm==x.farm)=false by simpa using hf];simp only[cond_false];obtain⟨q1,m,q2⟩:=zW x l0 R (A++[y]) n (k+1) (by simp[hk]) h0 h1 hR';rw[List.append_assoc,List.singleton_append]at q1 q2;refine⟨⟨⟨⟨by omega,hlen⟩,fun h=>(by cases h)⟩,fun s' hs=>?_⟩,m,?_⟩
   ·cases hs;exact q1
   ·rw[q2,oe,if_neg hf];simp
theorem N3 (x:Judgement)(l:List Claim)(h0:0≤x.n)(h1:x.n<4611686018427387904)(hl:Lit l):bR x l∧bk x l=oe x.farm x.n l:=by
 obtain⟨q1,m,q2⟩:=zW x l l [] x.n 0 rfl h0 h1 hl;rw[List.nil_append]at q1 q2;unfold bR bk;rw[q2];exact⟨fun _=>q1,rfl⟩
theorem y9 (f:Int):∀ (l:List Claim) (n:Int),0≤n→Lit l→Lit (oe f n l)∧(oe f n l).length=l.length
 | [],n,h0,hl=>⟨(fun y hy=>by cases hy),rfl⟩
 |x::r,n,h0,hl=>by
  have hx:=hl x (by simp);have hm:=px (a:=n) (b:=x.litres);unfold oe;by_cases hf:x.farm=f
  ·rw[if_pos hf];obtain⟨q1,q2⟩:=y9 f r (n - bI n x.litres) (by omega) fun z hz=>hl z (by simp[hz]);refine⟨fun y hy=>?_,by simp[q2]⟩;rcases List.mem_cons.1 hy with rfl|hy
   ·show 0≤bI n x.litres∧bI n x.litres<_;unfold bI;split <;>omega
   ·exact q1 y hy
  ·rw[if_neg hf];obtain⟨q1,q2⟩:=y9 f r n h0 fun z hz=>hl z (by simp[hz]);refine⟨fun y hy=>?_,by simp[q2]⟩;rcases List.mem_cons.1 hy with rfl|hy
   ·exact hx
   ·exact q1 y hy
theorem y_ (f:Int):∀ (l:List Claim) (n:Int),(oe f n l).map (fun x=>l9 x 0)=l.map fun x=>l9 x 0
 | [],n=>rfl
 |x::r,n=>by
  unfold oe;by_cases hf:x.farm=f
  ·rw[if_pos hf,List.map_cons,List.map_cons,y_ f r];rfl
  ·rw[if_neg hf,List.map_cons,List.map_cons,y_ f r]
theorem G8 {l m:List Claim}(e:m.map (fun x=>l9 x 0)=l.map fun x=>l9 x 0)(h:l.Pairwise tlt):m.Pairwise tlt:=by
 have h1:(l.map fun x=>l9 x 0).Pairwise tlt:=List.pairwise_map.2 (h.imp fun {a b} h=>h);rw[←e]at h1;exact(List.pairwise_map.1 h1).imp fun {a b} h=>h
theorem og (l:List Claim)(f:Int):∀ (R A:List Claim) (n:Int) (acc:List Claim) (k:Nat),l=A++R→A.length=k→0≤n→n<4611686018427387904→Lit R→(acc.length+R.length)*40≤dC→
  okI (jQ l f) (jR l f) R.length k (n,acc)∧∃ m,ay (jQ l f) R.length k (n,acc)=.inr (m,acc++(oe f n R).filter fun x=>!av x)
 | [],A,n,acc,k,hl,hk,h0,h1,hR,hb=>⟨trivial,n,by simp[ay,oe]⟩
 |y::R,A,n,acc,k,hl,hk,h0,h1,hR,hb=>by
  have hy:=hR y (by simp);have hR':Lit R:=fun z hz=>hR z (by simp[hz]);have e:l.getD k default=y:=by rw[hl];exact il A y default R hk.symm
  have hm:=px (a:=n) (b:=y.litres);simp only[List.length_cons]at hb;have hbd:∀ z:Claim,(acc++[z]).length*40≤dC:=fun z=>by rw[List.length_append];simp only[List.length_cons,List.length_nil];omega
  have hbn:∀ z:Claim,((acc++[z]).length+R.length)*40≤dC:=fun z=>by rw[List.length_append];simp only[List.length_cons,List.length_nil];omega
  have hl':l=(A++[y])++R:=by rw[hl];simp
  have e4:(if n<y.litres then n else y.litres)=bI n y.litres:=rfl;simp only[List.length_cons,okI,ay,jQ,jR,e,e4];by_cases hf:y.farm=f
  ·rw[show(y.farm==f)=true by simpa using hf];simp only[cond_true];have hw:i64.wrap (n - bI n y.litres)=n - bI n y.litres:=gG (by omega) (by omega);rw[hw,oe,if_pos hf];by_cases hp:bI n y.litres > 0
   ·rw[decide_eq_true hp];simp only[cond_true];obtain⟨q1,m,q2⟩:=og l f R (A++[y]) (n - bI n y.litres) (acc++[l9 y (bI n y.litres)]) (k+1) hl' (by simp[hk]) (by omega) (by omega) hR' (hbn _);refine⟨⟨fun _=>⟨fun _ _=>hbd _,fun h=>(by cases h)⟩,fun s' hs=>?_⟩,m,?_⟩
    ·cases hs;exact q1
    ·rw[List.filter_cons_of_pos (by unfold av l9;simp;omega)];refine Eq.trans q2 ?_;simp
   ·rw[decide_eq_false hp];simp only[cond_false];obtain⟨q1,m,q2⟩:=og l f R (A++[y]) (n - bI n y.litres) acc (k+1) hl' (by simp[hk]) (by omega) (by omega) hR' (by omega);refine⟨⟨fun _=>⟨fun _ h=>(by cases h),fun h=>(by cases h)⟩,fun s' hs=>?_⟩,m,?_⟩
    ·cases hs;exact q1
    ·rw[List.filter_cons_of_neg (by unfold av l9;simp;omega)];exact q2
  ·rw[show(y.farm==f)=false by simpa using hf];simp only[cond_false];rw[oe,if_neg hf];by_cases hp:y.litres > 0
   ·rw[decide_eq_true hp];simp only[cond_true];obtain⟨q1,m,q2⟩:=og l f R (A++[y]) n (acc++[y]) (k+1) hl' (by simp[hk]) h0 h1 hR' (hbn _);refine⟨⟨fun _=>⟨fun h=>(by cases h),fun _ _=>hbd _⟩,fun s' hs=>?_⟩,m,?_⟩
    ·cases hs;exact q1
    ·rw[List.filter_cons_of_pos (by unfold av;simp;omega)];refine Eq.trans q2 ?_;simp
   ·rw[decide_eq_false hp];simp only[cond_false];obtain⟨q1,m,q2⟩:=og l f R (A++[y]) n acc (k+1) hl' (by simp[hk]) h0 h1 hR' (by omega);refine⟨⟨fun _=>⟨fun h=>(by cases h),fun _ h=>(by cases h)⟩,fun s' hs=>?_⟩,m,?_⟩
    ·cases hs;exact q1
    ·rw[List.filter_cons_of_neg (by unfold av;simp;omega)];exact q2
theorem uN (x:Judgement)(l:List Claim)(h0:0≤x.n)(h1:x.n<4611686018427387904)(hl:Lit l)(hs:l.Pairwise tlt)(hb:l.length*40≤dC):
  (bR x l∧b7 (bk x l)∧od l x.farm x.n)∧cH (bk x l)=ed l x.farm x.n∧ed l x.farm x.n=(oe x.farm x.n l).filter fun y=>!av y:=by
 obtain⟨q1,q2⟩:=N3 x l h0 h1 hl;obtain⟨r1,m,r2⟩:=og l x.farm l [] x.n [] 0 rfl rfl h0 h1 hl (by simpa using hb);have e:ed l x.farm x.n=(oe x.farm x.n l).filter fun y=>!av y:=by
  unfold ed;rw[r2,List.nil_append]
 obtain⟨t1,t2⟩:=Fl (l:=oe x.farm x.n l) (by rw[(y9 x.farm l x.n h0 hl).2];unfold dC at hb;omega) (List.Perm.refl _) (List.Pairwise.filter _ (G8 (y_ x.farm l x.n) hs));rw[q2,e];exact⟨⟨q1,t1,r1⟩,t2,rfl⟩
def rA (x:Claim):List Claim→List Claim
 | [] =>[x]
 |y::r=>if aG x y=true then x::y::r else l9 x (x.litres+y.litres)::r
def gD (l:List Claim)(x:Claim):List Claim:=l.takeWhile (fun y=>aG y x)++rA x (l.dropWhile fun y=>aG y x)
theorem J4 (l:List Claim)(x:Claim)(hb:(l.length+1)*40≤dC):∀ (R A:List Claim) (k:Nat),l=A++R→
  okI (f8 l x) (iC l x) (R.length+1) k (A,(A.length:Int))∧ay (f8 l x) (R.length+1) k (A,(A.length:Int))=.inl (((A++R.takeWhile fun y=>aG y x).length:Int),A++R.takeWhile fun y=>aG y x)
 | [],A,k,hl=>by
  have hA:l.length=A.length:=by rw[hl];simp
  have e:decide ((A.length:Int) < (l.length:Int))=false:=decide_eq_false (by omega);simp only[List.length_nil,okI,ay,f8,iC,e,Bool.false_and,cond_false,List.takeWhile_nil,List.append_nil];exact⟨⟨fun _=>⟨fun h=>(by cases h),fun h=>(by cases h)⟩,fun s h=>(by cases h)⟩,by simp⟩
 |y::R,A,k,hl=>by
  have hA:l.length=A.length+(R.length+1):=by rw[hl];simp
  have e:decide ((A.length:Int) < (l.length:Int))=true:=decide_eq_true (by omega);have g:l.getD (Int.toNat (A.length:Int)) default=y:=by rw[hl,Int.toNat_natCast];exact il A y default R rfl
  have hw:i64.wrap ((A.length:Int)+1)=((A++[y]).length:Int):=by
   rw[gG (by omega) (by unfold dC at hb;omega)];simp
  have hl2:(A++[y]).length*40≤dC:=by rw[List.length_append];simp only[List.length_cons,List.length_nil];omega
  simp only[List.length_cons];rw[okI,ay];simp only[f8,iC,e,g,Bool.true_and,hw];cases hB:aG y x with
  |false=>
   simp only[cond_false];rw[List.takeWhile_cons_of_neg (p:=fun y=>aG y x) (by rw[hB];simp),List.append_nil];exact⟨⟨fun _=>⟨fun _=>⟨by omega,by omega⟩,fun h=>(by cases h)⟩,fun s h=>(by cases h)⟩,by simp⟩
  |true=>
   simp only[cond_true];obtain⟨q1,q2⟩:=J4 l x hb R (A++[y]) (k+1) (by rw[hl];simp);rw[List.takeWhile_cons_of_pos (p:=fun y=>aG y x) hB];refine⟨⟨fun _=>⟨fun _=>⟨by omega,by omega⟩,fun _=>⟨⟨by omega,by omega⟩,hl2⟩⟩,fun s h=>?_⟩,?_⟩
   ·cases h;exact q1
   ·rw[q2];simp
theorem N4 (l:List Claim)(x:Claim)(hb:(l.length+1)*40≤dC)(hx:0≤x.litres∧x.litres<4611686018427387904)(hl:Lit l):i7 l x∧nt l x=gD l x:=by
 obtain⟨q1,q2⟩:=J4 l x hb l [] 0 rfl;simp only[List.length_nil,List.nil_append]at q1 q2;generalize hT:l.takeWhile (fun y=>aG y x)=T at q2;generalize hD:l.dropWhile (fun y=>aG y x)=D;have hTD:l=T++D:=by rw[←hT,←hD,List.takeWhile_append_dropWhile]
 have hlen:l.length=T.length+D.length:=by rw[hTD];simp
 have q2':ay (f8 l x) (l.length+1) 0 ([],0)=.inl ((T.length:Int),T):=q2;have q1':okI (f8 l x) (iC l x) (l.length+1) 0 ([],0):=q1;have hbT:∀ (z:Claim) (m:List Claim),T.length+1+m.length≤l.length+1→((T++[z])++m).length*40≤dC:=fun z m h=>by simp only[List.length_append,List.length_cons,List.length_nil];omega
 unfold i7 nt gD;rw[hT,hD,q2'];have t1:l.take l.length=l:=List.take_length;have d1:l.drop T.length=D:=by rw[hTD];simp
 have hLD:Lit D:=fun y hy=>hl y (by rw[hTD];simp[hy]);cases D with
 |nil=>
  simp only[List.length_nil]at hlen;have e0:decide ((T.length:Int) < (l.length:Int))=false:=decide_eq_false (by omega);refine⟨⟨q1',fun z h=>(by cases h),fun r hr=>?_⟩,?_⟩
  ·cases hr;simp only[e0,Bool.false_and,Int.toNat_natCast,t1,d1];refine fun _=>⟨fun h=>(by cases h),fun h=>(by cases h),fun _=>⟨?_,fun _=>⟨⟨by omega,by omega,Int.le_refl _⟩,hbT x [] (by simp only[List.length_nil];omega)⟩⟩⟩;have:=hbT x [] (by simp only[List.length_nil];omega)
   rwa[List.append_nil]at this
  ·simp only[e0,Bool.false_and,cond_false,Int.toNat_natCast,t1,d1,rA,List.append_nil]
 |cons y r=>
  simp only[List.length_cons]at hlen;have e1:decide ((T.length:Int) < (l.length:Int))=true:=decide_eq_true (by omega);have g:l.getD T.length default=y:=by rw[hTD];exact il T y default r rfl
  have w1:i64.wrap ((T.length:Int)+1)=((T.length+1:Nat):Int):=by rw[gG (by omega) (by unfold dC at hb;omega)];omega
  have d2:l.drop (T.length+1)=r:=by rw[←List.drop_drop,d1];rfl
  have hy:=hLD y (by simp);have w2:i64.wrap (x.litres+y.litres)=x.litres+y.litres:=gG (by omega) (by omega);have b1:∀ z:Claim,(T++[z]).length*40≤dC:=fun z=>by
   have:=hbT z [] (by simp only[List.length_nil];omega)
   rwa[List.append_nil]at this
  refine⟨⟨q1',fun z h=>(by cases h),fun r' hr=>?_⟩,?_⟩
  ·cases hr;simp only[e1,g,Bool.true_and,w1,w2,Int.toNat_natCast,t1,d1,d2];exact fun _=>⟨fun _=>⟨by omega,by omega⟩,fun _=>⟨⟨by omega,by omega⟩,b1 _,fun _=>⟨⟨by omega,by omega,Int.le_refl _⟩,hbT _ r (by omega)⟩⟩,fun _=>⟨b1 _,fun _=>⟨⟨by omega,by omega,Int.le_refl _⟩,hbT _ (y::r) (by simp only[List.length_cons];omega)⟩⟩⟩
  ·simp only[e1,g,Bool.true_and,w1,w2,Int.toNat_natCast,t1,d1,d2,rA];cases hB:aG x y with
   |false=>
    simp only[Bool.not_false,cond_true,Bool.false_eq_true,if_false];rw[List.append_assoc,List.singleton_append];rfl
   |true=>
    simp only[Bool.not_true,cond_false,if_true];rw[List.append_assoc,List.singleton_append]
def Dj (a b:Claim):Prop:=a.rank=b.rank∧a.right=b.right∧a.farm=b.farm
def amt:List Claim→Int→Int→Int
 | [],_,_=>0
 |x::l,r,p=>(if x.right=r∧x.farm=p then x.litres else 0)+amt l r p
theorem A4:∀ (l m:List Claim) (r p:Int),amt (l++m) r p=amt l r p+amt m r p
 | [],m,r,p=>by simp[amt]
 |x::l,m,r,p=>by rw[List.cons_append,amt,amt,A4 l m r p];omega
theorem qs {a b:Claim}(h:a.hour=b.hour):aG a b=true↔tlt a b:=by
 rw[yi,decide_eq_true_eq,y6];simp only[y5,tlt,t8,and_false,or_false];omega
theorem zX {a b c:Claim}(h1:tlt a b)(h2:tlt b c):tlt a c:=by simp only[tlt,t8,and_false,or_false]at *;omega
theorem Fo {a b:Claim}(h1:¬tlt a b)(h2:¬tlt b a):Dj a b:=by simp only[tlt,t8,and_false,or_false,Dj]at *;omega
theorem G9 {a b c:Claim}(h1:tlt a b)(h2:Dj c b):tlt a c:=by simp only[tlt,t8,and_false,or_false,Dj]at *;omega
theorem N5 {a b c:Claim}(h1:tlt a b)(h2:Dj c a):tlt c b:=by simp only[tlt,t8,and_false,or_false,Dj]at *;omega
theorem s4 (y:Claim)(l:List Claim)(x:Claim):gD (y::l) x=if aG y x=true then y::gD l x else rA x (y::l):=by
 unfold gD;by_cases h:aG y x=true
 ·rw[if_pos h,List.takeWhile_cons_of_pos (p:=fun y=>aG y x) h,List.dropWhile_cons_of_pos (p:=fun y=>aG y x) h];rfl
 ·rw[if_neg h,List.takeWhile_cons_of_neg (p:=fun y=>aG y x) h,List.dropWhile_cons_of_neg (p:=fun y=>aG y x) h];rfl
theorem CN (x:Claim):∀ (l:List Claim),l.Pairwise tlt→(∀ y∈l,y.hour=x.hour)→
  (gD l x).Pairwise tlt∧(∀ z∈gD l x,z.hour=x.hour∧(Dj z x∨∃ w∈l,Dj z w))∧∀ r p,amt (gD l x) r p=amt l r p+if x.right=r∧x.farm=p then x.litres else 0
 | [],_,_=>by
  refine⟨List.pairwise_singleton _ _,fun z hz=>?_,fun r p=>?_⟩
  ·have:z=x:=by simpa[gD,rA]using hz
   subst this;exact⟨rfl,.inl ⟨rfl,rfl,rfl⟩⟩
  ·simp[gD,rA,amt]
 |y::l,hs,hh=>by
  have hs':=List.pairwise_cons.1 hs;have hy:=hh y (by simp);have hh':∀ z∈l,z.hour=x.hour:=fun z hz=>hh z (by simp[hz]);rw[s4];by_cases h1:aG y x=true
  ·rw[if_pos h1];have t1:=(qs hy).1 h1;obtain⟨q1,q2,q3⟩:=CN x l hs'.2 hh';refine⟨List.pairwise_cons.2 ⟨fun z hz=>?_,q1⟩,fun z hz=>?_,fun r p=>?_⟩
   ·rcases(q2 z hz).2 with h| ⟨w,hw,h⟩
    ·exact G9 t1 h
    ·exact G9 (hs'.1 w hw) h
   ·rcases List.mem_cons.1 hz with rfl|hz
    ·exact⟨hy,.inr ⟨z,by simp,rfl,rfl,rfl⟩⟩
    ·obtain⟨g1,g2⟩:=q2 z hz;refine⟨g1,?_⟩;rcases g2 with h| ⟨w,hw,h⟩
     ·exact .inl h
     ·exact .inr ⟨w,by simp[hw],h⟩
   ·rw[amt,amt,q3];omega
  ·rw[if_neg h1];have t1:¬tlt y x:=fun h=>h1 ((qs hy).2 h);by_cases h2:aG x y=true
   ·have t2:=(qs hy.symm).1 h2;rw[rA,if_pos h2];refine⟨List.pairwise_cons.2 ⟨fun z hz=>?_,hs⟩,fun z hz=>?_,fun r p=>?_⟩
    ·rcases List.mem_cons.1 hz with rfl|hz
     ·exact t2
     ·exact zX t2 (hs'.1 z hz)
    ·rcases List.mem_cons.1 hz with rfl|hz
     ·exact⟨rfl,.inl ⟨rfl,rfl,rfl⟩⟩
     ·exact⟨hh z hz,.inr ⟨z,hz,rfl,rfl,rfl⟩⟩
    ·rw[amt];omega
   ·have t2:¬tlt x y:=fun h=>h2 ((qs hy.symm).2 h);have hk:=Fo t2 t1;rw[rA,if_neg h2];refine⟨List.pairwise_cons.2 ⟨fun z hz=>N5 (hs'.1 z hz) hk,hs'.2⟩,fun z hz=>?_,fun r p=>?_⟩
    ·rcases List.mem_cons.1 hz with rfl|hz
     ·exact⟨rfl,.inl ⟨rfl,rfl,rfl⟩⟩
     ·exact⟨hh' z hz,.inr ⟨z,by simp[hz],rfl,rfl,rfl⟩⟩
    ·rw[amt,amt];obtain⟨_,k2,k3⟩:=hk;show(if x.right=r∧x.farm=p then x.litres+y.litres else 0)+_=_;rw[k2,k3];split <;>omega
theorem za:∀ {l:List Claim} {r p:Int},(∀ y∈l,¬ (y.right=r∧y.farm=p))→amt l r p=0
 | [],_,_,_=>rfl
 |x::l,r,p,h=>by rw[amt,if_neg (h x (by simp)),za fun y hy=>h y (by simp[hy])];rfl
structure Dock (ρ:Int→Int)(h:Int)(l:List Claim):Prop where
 s:l.Pairwise tlt
 rk:∀ y∈l,y.rank=ρ y.right
 hr:∀ y∈l,y.hour=h
 pos:∀ y∈l,0<y.litres
section
variable {ρ:Int→Int}{h:Int}
theorem Dock.tail {x:Claim}{l:List Claim}(d:Dock ρ h (x::l)):Dock ρ h l:=⟨(List.pairwise_cons.1 d.s).2,fun y hy=>d.rk y (by simp[hy]),fun y hy=>d.hr y (by simp[hy]),fun y hy=>d.pos y (by simp[hy])⟩
theorem IP {x y:Claim}(h1:tlt x y)(hx:x.rank=ρ x.right)(hy:y.rank=ρ y.right):¬ (y.right=x.right∧y.farm=x.farm):=by
 rintro⟨e1,e2⟩;rw[e1]at hy;simp only[tlt,t8,and_false,or_false]at h1;omega
theorem Dock.head {x:Claim}{l:List Claim}(d:Dock ρ h (x::l)):amt (x::l) x.right x.farm=x.litres:=by
 rw[amt,if_pos ⟨rfl,rfl⟩,za fun y hy=>IP ((List.pairwise_cons.1 d.s).1 y hy) (d.rk x (by simp)) (d.rk y (by simp[hy]))];omega
theorem Dock.below {x:Claim}{l:List Claim}(d:Dock ρ h l)(hx:x.rank=ρ x.right)(hl:∀ y∈l,tlt x y):amt l x.right x.farm=0:=za fun y hy=>IP (hl y hy) hx (d.rk y hy)
theorem zY:∀ {l m:List Claim},Dock ρ h l→Dock ρ h m→(∀ r p,amt l r p=amt m r p)→l=m
 | [],[],_,_,_=>rfl
 | [],b::m,_,dm,e=>by
  have h1:=e b.right b.farm;rw[dm.head]at h1;have h2:=dm.pos b (by simp);simp only[amt]at h1;omega
 |a::l,[],dl,_,e=>by
  have h1:=e a.right a.farm;rw[dl.head]at h1;have h2:=dl.pos a (by simp);simp only[amt]at h1;omega
 |a::l,b::m,dl,dm,e=>by
  have ra:=dl.rk a (by simp);have rb:=dm.rk b (by simp);have la:=List.pairwise_cons.1 dl.s;have lb:=List.pairwise_cons.1 dm.s;by_cases h1:tlt a b
  ·have h2:=e a.right a.farm;rw[dl.head,dm.below ra fun y hy=>by
    rcases List.mem_cons.1 hy with rfl|hy
    ·exact h1
    ·exact zX h1 (lb.1 y hy)]at h2
   have:=dl.pos a (by simp);omega
  ·by_cases h2:tlt b a
   ·have h3:=e b.right b.farm;rw[dm.head,dl.below rb fun y hy=>by
     rcases List.mem_cons.1 hy with rfl|hy
     ·exact h2
     ·exact zX h2 (la.1 y hy)]at h3
    have:=dm.pos b (by simp);omega
   ·obtain⟨k1,k2,k3⟩:=Fo h1 h2;have h3:=e a.right a.farm;have h4:=dm.head;rw[dl.head,k2,k3,h4]at h3;have hab:a=b:=by
     have e1:=(dl.hr a (by simp)).trans (dm.hr b (by simp)).symm;cases a;cases b;simp only at k1 k2 k3 h3 e1;subst k1 k2 k3 h3 e1;rfl
    subst hab;rw[zY dl.tail dm.tail fun r p=>by have:=e r p;rw[amt,amt]at this;omega]
theorem yj:∀ (l:List Claim) (r p:Int),amt (l.filter fun x=>!av x) r p=amt l r p
 | [],_,_=>rfl
 |x::l,r,p=>by
  by_cases hx:x.litres=0
  ·rw[List.filter_cons_of_neg (by unfold av;simp[hx]),yj l,amt,hx];split <;>omega
  ·rw[List.filter_cons_of_pos (by unfold av;simp[hx]),amt,amt,yj l]
theorem CO {l m:List Claim}(h:l.Perm m)(r p:Int):amt l r p=amt m r p:=by
 induction h with
 |nil=>rfl
 |cons x _ ih=>rw[amt,amt,ih]
 |swap x y l=>rw[amt,amt,amt,amt];omega
 |trans _ _ h1 h2=>rw[h1,h2]
end
end Go.Sx
end
