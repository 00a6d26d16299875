/- Part of the proof that the law CertifyLeast returns true and leaves its arguments as they were, for all arguments of bulk at most 1048576 (the Upto form). -/
import Derived.Test.YtagjakphhkfofaaGreatC108
import Derived.Test.YtagjakphhkfofaaGreatC107
import Derived.Shelf.SlSortCmp.NoneTotal
import Derived.Ground.SlsfProg
import Derived.Test.YtagjakphhkfofaaGreatProg
import Derived.Test.YtagjakphhkfofaaGreatC106
set_option linter.all false
section
namespace Go.Sx
open Go.RowKit Go.Shelf Go.Lib Go.Sort Go.Proofs
open Classical in
noncomputable def fS (k : Tag) (g : FuncId) (caps : List SV) (cf : k.T→k.T→Int) : List SV→List Ob→Option HCon:=fun l h=>
 HW k (fun l0=> if l=[.os 0,.fn g [] caps] then some (rt (apart cf l0) (.tup []) [.row k (srt cf l0)]) else none) h
@[go_sem] theorem o4 {k : Tag} {g : FuncId} {caps : List SV} {cf : k.T→k.T→Int} {l0 : List k.T} : fS k g caps cf [.os 0,.fn g [] caps] [.row k l0]=some (rt (apart cf l0) (.tup []) [.row k (srt cf l0)]) :=by
 simp [fS,HW]
section
variable {P : Program} {ρ : Ren} {k : Tag}
theorem Id {w : World} {b : Nat} {cs : Array Value} {ty : TypeId} (hb : w.heap[b]? =some (.cells cs ty (0,0))) (D : Array Value) (o : Nat) : (putRow id w b o D).heap[b]? =some (.cells (putCells id o D cs) ty (0,0)) :=by
 unfold putRow mapBlock
 simp only [Array.getElem?_modify,if_true,hb]
 rfl
theorem zr {w : World} {b c : Nat} (hc : c≠b) (D : Array Value) (o : Nat) : (putRow id w b o D).heap[c]? =w.heap[c]? :=by
 unfold putRow mapBlock
 simp only [Array.getElem?_modify]
 rw [if_neg (fun e=> hc e.symm)]
theorem xI {D cs : Array Value} {o t : Nat} (ht : t < D.size) (hs : o + t < cs.size) : (putCells id o D cs)[o + t]? =D[t]? :=by
 unfold putCells
 rw [Array.getElem?_mapIdx,Array.getElem?_eq_getElem hs]
 simp only [Option.map_some]
 rw [if_pos (by omega),Array.getElem?_eq_getElem ht]
 have : o + t - o=t:=by omega
 rw [this,getElem!_pos D t ht]
 rfl
theorem zs {α : Type} [Inhabited α] {enc : α→List Value} {n : Nat} (hn : ∀ x,(enc x).length=n) {d : Array α} {i j : Nat} (hi : i < d.size) (hj : j < n) : (flatK enc n d)[i * n + j]? =(enc d[i]!)[j]? :=by
 have hlt : i * n + j < d.size * n:=by
  have:=Nat.mul_le_mul_right n (show i + 1≤d.size from hi)
  rw [Nat.succ_mul] at this;omega
 have h1 : i * n + j < (flatK enc n d).size:=by rw [size_flatK];exact hlt
 rw [Array.getElem?_eq_getElem h1,←getElem!_pos (flatK enc n d) _ h1,get_flatK enc n d _ hlt]
 have hd : (i * n + j) / n=i:=by
  rw [Nat.mul_comm,Nat.mul_add_div (by omega),Nat.div_eq_of_lt hj];omega
 have hm : (i * n + j) % n=j:=by
  rw [Nat.mul_comm,Nat.mul_add_mod,Nat.mod_eq_of_lt hj]
 rw [hd,hm]
 have hj' : j < (enc d[i]!).length:=by rw [hn];exact hj
 rw [List.getElem?_eq_getElem hj',getElem!_pos (enc d[i]!) j hj']
theorem sw_b {α : Type} [Inhabited α] {enc : α→List Value} {n b o m : Nat} {w : World} {cs : Array Value} {ty : TypeId} (hb : w.heap[b]? =some (.cells cs ty (0,0))) (d : Array α) (os : Array Obj) : (sortWorldK enc n w b o m d os).heap[b]? =some (.cells (putCells id o (flatK enc n d) cs) ty (0,0)) :=by
 have hlt : b < w.heap.size:=(Array.getElem?_eq_some_iff.1 hb).1
 unfold sortWorldK grow
 simp only
 rw [Array.getElem?_append_left (by unfold putRowK putRow mapBlock Sort.ahead;simpa using hlt)]
 exact Id (w:=Sort.ahead w m) hb _ _
theorem Oa {α : Type} [Inhabited α] {enc : α→List Value} {n b o m c : Nat} {w : World} (hc : c < w.heap.size) (hne : c≠b) (d : Array α) (os : Array Obj) : (sortWorldK enc n w b o m d os).heap[c]? =w.heap[c]? :=by
 unfold sortWorldK grow
 simp only
 rw [Array.getElem?_append_left (by unfold putRowK putRow mapBlock Sort.ahead;simpa using hc)]
 exact zr (w:=Sort.ahead w m) hne _ _
theorem xJ {α : Type} [Inhabited α] {enc : α→List Value} {n b o m : Nat} {w : World} (d : Array α) (os : Array Obj) : w.heap.size≤(sortWorldK enc n w b o m d os).heap.size:=by
 unfold sortWorldK grow putRowK putRow mapBlock Sort.ahead
 simp
theorem sb (L : SlLaysF0.n6 P ρ) (aE : ∀ w,(isAgg (ρ.t 24)).run P w= .ok true w) (zE : ∀ w,(Go.sizeOf (ρ.t 24)).run P w= .ok (aa k) w) (hk : xH k) (h0 : 0 < aa k) {g : FuncId} {caps : List SV} {C : List SV→Option Con} (hC : FnOk P g C) {cf : k.T→k.T→Int}
  (hcf : ∀ x y,C (.agg (cellsOf k x) :: .agg (cellsOf k y) :: caps)=some (.det True (.v (.int .i64 (cf x y))))) (hO : SWO (ltOf cf)) (hpf : ∀ s∈caps,PF s) (hcf0 : ∃ x y,C (.agg (cellsOf k x) :: .agg (cellsOf k y) :: caps)=some (.det True (.v (.int .i64 (cf x y))))) : FnOkO P (ρ.f 6) (fS k g caps cf) :=by
 haveI : Inhabited k.T:=⟨dc k⟩
 refine ⟨fun l h c hc args w=> L.f6.enters rfl args w,fun l h c hc hp F own w vs hHp hvs=> ?_⟩
 unfold fS at hc
 obtain ⟨l0,hh,hK⟩ :=HX hc
 clear hc
 subst hh
 by_cases hl : l=[.os 0,.fn g [] caps]
 rotate_left
 ·rw [if_neg hl] at hK;cases hK
 rw [if_pos hl] at hK
 subst hl
 cases hK
 have hp : apart cf l0:=hp
 obtain ⟨hsz,hrel⟩ :=hvs
 have r0:=hrel 0 _ rfl
 have r1:=hrel 1 _ rfl
 have hvs2 : vs= #[vs.getD 0 undef,vs.getD 1 undef] :=by
  apply Array.ext
  ·simpa using hsz
  ·intro i h1 h2
   simp only [List.length_cons,List.length_nil] at hsz
   match i,h1,h2 with
   | 0,h1,_=> simp [Array.getD,h1]
   | 1,h1,_=> simp [Array.getD,h1]
   | i + 2,h1,_=> omega
 generalize vs.getD 0 undef=v0 at r0 hvs2
 generalize vs.getD 1 undef=v1 at r1 hvs2
 subst hvs2
 obtain ⟨hd,o0,rfl,_⟩ :=hU r0
 obtain ⟨hd',o0',hrow⟩ :=hHp.at (id:=0) (o:= .row k l0) rfl rfl
 rw [o0] at o0'
 cases o0'
 have hrow : RowRel F own w k l0 hd.v hd.bs:=hrow
 cases r1 with
 | @fn _ _ _ us cs s1 s2 c1 c2=>
 have hus : us= #[] :=Array.eq_empty_of_size_eq_zero (by simpa using s1)
 subst hus
 rcases hrow with ⟨a,e1,rfl,e2⟩ | ⟨b,o,cap,cells,ty,e1,e2,e3,e4,e5,e6,e7⟩
 ·rw [e1]
  refine (AnyF.slices_SortFunc_none L a 0 _ w).mono fun e w' he=> ?_
  obtain ⟨rfl,rfl⟩ :=he
  refine ⟨(),own,trivial,⟨_,rfl,.tup rfl fun j s hj=> by simp at hj⟩,?_,Fr.refl _,Nat.le_refl _⟩
  have : srt cf ([] : List k.T)=[] :=by simp [srt]
  rw [this]
  exact hHp
 ·have hbown : b∈hd.bs:=by rw [e2];simp
  have hbw : b < w.heap.size:=hHp.lt 0 hd b o0 hbown
  have hkl : ∀ x : k.T,(jT k x).length=aa k:=fun x=> by unfold jT;rw [List.length_map,bj]
  have hone : ∀ x : k.T,∀ v∈jT k x,v.oneCell'=true:=fun x v hv=> by
   unfold jT at hv
   rw [List.mem_map] at hv
   obtain ⟨s,hs,rfl⟩ :=hv
   obtain ⟨v,rfl,h1⟩ :=hk x s hs
   exact h1
  have eg : ∀ args w,(callFunc g args).run P w= .ok (.enter g args) w:=fun args w=> by
   obtain ⟨x,y,hxy⟩ :=hcf0
   exact hC.enter _ _ hxy args w
  have hown : ∀ id h2,own id=some h2→id=0:=fun id h2 e=> by have:=hHp.dom id h2 e;simpa using this
  have hH : HoldsK (jT k) (aa k) w b o l0.toArray:=by
   intro t ht
   rw [size_flatK] at ht
   simp only [List.size_toArray] at ht
   have hi : t / aa k < l0.length:=Nat.div_lt_of_lt_mul (by rw [Nat.mul_comm];exact ht)
   have hj:=Nat.mod_lt t h0
   have ht' : t=t / aa k * aa k + t % aa k:=(Nat.div_add_mod' t _).symm
   have q1:=EK hk e7 hi hj
   have q2:=zs (enc:=jT k) hkl (d:=l0.toArray) (i:=t / aa k) (j:=t % aa k) (by simpa using hi) hj
   rw [←ht'] at q2
   rw [Nat.add_assoc,←ht'] at q1
   have hl0 : l0.toArray[t / aa k]! =l0[t / aa k] :=by rw [getElem!_pos l0.toArray _ (by simpa using hi)];rfl
   rw [hl0] at q2
   have hlt : t < (flatK (jT k) (aa k) l0.toArray).size:=by rw [size_flatK];simpa using ht
   constructor
   ·unfold World.cell?
    rw [e3]
    dsimp only
    rw [q1,←q2,Array.getElem?_eq_getElem hlt,getElem!_pos _ t hlt]
    rfl
   ·unfold World.frozen?
    rw [e3]
    simp
  have hcmp : CmpLays P g cs (jT k) (aa k) cf b o l0.toArray.size w:=by
   intro m os dk hdk x y
   generalize hW : sortWorldK (jT k) (aa k) w b o m dk os=W
   have hcar : Carries F own w F own W:=⟨fun _ h2 e=> ⟨h2,e,.refl _⟩,fun c hc hn=> ⟨hn,by
    rw [←hW]
    exact Oa hc (fun e=> hn (.inr ⟨0,hd,o0,e▸hbown⟩)) _ _⟩⟩
   have henc : ∀ z : k.T,Rel (fun _=> False) bV W (.agg (cellsOf k z)) (.agg (jT k z).toArray) :=fun z=> by
    refine .agg (by simp [jT]) fun j s hj=> ?_
    obtain ⟨v,rfl,_⟩ :=hk z s (List.mem_of_getElem? hj)
    have : (jT k z).toArray.getD j undef=v:=by
     unfold jT
     rw [Array.getD_eq_getD_getElem?,List.getElem?_toArray,List.getElem?_map,hj]
     rfl
    rw [this];exact .v v
   have hcall:=zq (hC.calls _ _ (hcf x y) trivial (fun _=> False) W (#[.agg (jT k x).toArray,.agg (jT k y).toArray] ++ cs) (fun _ h=> h.elim) ⟨by simp [c1];omega,fun j s hj=> by
    match j,hj with
    | 0,hj=>
     cases hj
     rw [Array.getD_eq_getD_getElem?,Array.getElem?_append_left (by simp)]
     exact henc x
    | 1,hj=>
     cases hj
     rw [Array.getD_eq_getD_getElem?,Array.getElem?_append_left (by simp)]
     exact henc y
    | j + 2,hj=>
     have hj : caps[j]? =some s:=hj
     have:=((c2 j s hj).carry hcar).over (hpf s (List.mem_of_getElem? hj)) (F':=fun _=> False) (own':=bV) fun _ _ h=> by
      rcases h with h | ⟨_,_,h,_⟩
      ·exact h
      ·cases h
     have e : (#[Value.agg (jT k x).toArray,.agg (jT k y).toArray] ++ cs).getD (j + 2) undef=cs.getD j undef:=by
      rw [Array.getD_eq_getD_getElem?,Array.getD_eq_getD_getElem?,Array.getElem?_append_right (by simp)]
      simp
     rw [e];exact this⟩)
   refine hcall.mono fun e w' hq=> ?_
   obtain ⟨he,hdr⟩ :=hq
   rcases he with ⟨s,u,own',hs,rfl,hh,hb⟩ | ⟨z,hz,_⟩
   ·simp only [cp] at hs
    subst hs
    have:=hh.val
    simp only [nj] at this
    rw [bE this]
    exact ⟨rfl,M8 hb (hdr (by simp))⟩
   ·exact hz.elim
  have hall:=AnyQ.slices_SortFunc L (aa k) aE zE (jT k) hkl hone cf hO g cs b o cap l0.toArray w eg hcmp hH hbw (by unfold bC at e6;simp only [List.size_toArray];omega)
  rw [e1]
  refine hall.mono fun e w' he=> ?_
  obtain ⟨rfl,d',n,os,hpm,hst,rfl⟩ :=he
  have hd':=Bn hO hp hpm hst
  subst hd'
  have hlS : (srt cf l0).length=l0.length:=List.length_mergeSort _
  generalize srt cf l0=lS at hlS
  have hsb:=sw_b (enc:=jT k) (n:=aa k) (o:=o) (m:=n) e3 lS.toArray os
  refine ⟨(),own,trivial,⟨_,rfl,.tup rfl fun j s hj=> by simp at hj⟩,?_,?_,Nat.le_refl _⟩
  ·refine ⟨hHp.dom,fun c hc=> Nat.lt_of_lt_of_le (hHp.foreign c hc) (xJ _ _),hHp.apart,hHp.inj,fun i h2 c e hc=> Nat.lt_of_lt_of_le (hHp.lt i h2 c e hc) (xJ _ _),fun i hi=> ?_⟩
   match i,hi with
   | 0,_=>
    refine ⟨hd,o0,?_⟩
    show RowRel F own _ k lS hd.v hd.bs
    refine .inr ⟨b,o,cap,_,ty,by rw [hlS];exact e1,e2,hsb,?_,by omega,by omega,EL hk fun i j hi hj=> ?_⟩
    ·unfold putCells;simpa using e4
    ·have hlt : i * aa k + j < (flatK (jT k) (aa k) lS.toArray).size:=by
      rw [size_flatK]
      have:=Nat.mul_le_mul_right (aa k) (show i + 1≤lS.length from hi)
      rw [Nat.succ_mul] at this
      simp only [List.size_toArray];omega
     have hle : o + (i * aa k + j) < cells.size:=by
      rw [size_flatK] at hlt
      simp only [List.size_toArray] at hlt
      have:=Nat.mul_le_mul_right (aa k) (show lS.length≤cap by omega)
      omega
     rw [Nat.add_assoc,xI hlt hle,zs hkl (by simpa using hi) hj]
     have : lS.toArray[i]! =lS[i] :=by rw [getElem!_pos lS.toArray _ (by simpa using hi)];rfl
     rw [this]
   | i + 1,hi=> rw [lu (by simp)] at hi;cases hi
  ·refine ⟨fun _ h2 e=> ⟨h2,e,.refl _⟩,(Fr.refl { w:=w,own:=own}).base,rfl,rfl,rfl,xJ _ _,fun c hc=> ?_⟩
   exact Oa hc.1 (fun e=> hc.2 ⟨0,hd,o0,e▸hbown⟩) _ _
end
end Go.Sx
end
section
namespace Go.Proofs
open Go.Shelf
def Tryz.sortL_ren : Go.Shelf.Ren:=⟨fun | 6=> 97 | 15=> 112 | 14=> 130 | 28=> 146 | 29=> 147 | 20=> 155 | 21=> 156 | 22=> 157 | 23=> 158 | 24=> 159 | 25=> 160 | 26=> 161 | 27=> 162 | 46=> 177 | 47=> 167 | 48=> 168 | 49=> 178 | 50=> 179 | 57=> 185 | n=> n,fun | 22=> 35 | 24=> 54 | 25=> 85 | 3=> 3 | 39=> 166 | 0=> 0 | 53=> 202 | 55=> 204 | 4=> 4 | 46=> 196 | 45=> 195 | 50=> 147 | 5=> 5 | 9=> 9 | 66=> 215 | 70=> 219 | 76=> 227 | 77=> 228 | n=> n,fun | n=> n⟩
theorem Tryz.sortL : Go.Proofs.SlLaysF0.n6 Tryz.prog Tryz.sortL_ren:= {
 mixed:=by kernel_rfl
 f6:=⟨Tryz.f97.name,by decide,Tryz.func97.trans (congrArg some (by kernel_rfl))⟩
 f14:=⟨Tryz.f130.name,by decide,Tryz.func130.trans (congrArg some (by kernel_rfl))⟩
 f15:=Tryz.func112.trans (congrArg some (by kernel_rfl))
 f20:=⟨Tryz.f155.name,by decide,Tryz.func155.trans (congrArg some (by kernel_rfl))⟩
 f21:=⟨Tryz.f156.name,by decide,Tryz.func156.trans (congrArg some (by kernel_rfl))⟩
 f22:=⟨Tryz.f157.name,by decide,Tryz.func157.trans (congrArg some (by kernel_rfl))⟩
 f23:=⟨Tryz.f158.name,by decide,Tryz.func158.trans (congrArg some (by kernel_rfl))⟩
 f24:=⟨Tryz.f159.name,by decide,Tryz.func159.trans (congrArg some (by kernel_rfl))⟩
 f25:=⟨Tryz.f160.name,by decide,Tryz.func160.trans (congrArg some (by kernel_rfl))⟩
 f26:=⟨Tryz.f161.name,by decide,Tryz.func161.trans (congrArg some (by kernel_rfl))⟩
 f27:=⟨Tryz.f162.name,by decide,Tryz.func162.trans (congrArg some (by kernel_rfl))⟩
 f28:=Tryz.func146.trans (congrArg some (by kernel_rfl))
 f29:=Tryz.func147.trans (congrArg some (by kernel_rfl))
 f46:=⟨Tryz.f177.name,by decide,Tryz.func177.trans (congrArg some (by kernel_rfl))⟩
 f47:=Tryz.func167.trans (congrArg some (by kernel_rfl))
 f48:=Tryz.func168.trans (congrArg some (by kernel_rfl))
 f49:=⟨Tryz.f178.name,by decide,Tryz.func178.trans (congrArg some (by kernel_rfl))⟩
 f50:=⟨Tryz.f179.name,by decide,Tryz.func179.trans (congrArg some (by kernel_rfl))⟩
 f57:=⟨Tryz.f185.name,by decide,Tryz.func185.trans (congrArg some (by kernel_rfl))⟩
 t0:=Tryz.underlying0
 a0:=Tryz.isAgg0
 z0:=Tryz.sizeOf0
 v0:=Tryz.zeroValue0
 t3:=Tryz.underlying3
 a3:=Tryz.isAgg3
 z3:=Tryz.sizeOf3
 v3:=Tryz.zeroValue3
 t4:=Tryz.underlying4
 a4:=Tryz.isAgg4
 z4:=Tryz.sizeOf4
 v4:=Tryz.zeroValue4
 t5:=Tryz.underlying5
 a5:=Tryz.isAgg5
 z5:=Tryz.sizeOf5
 v5:=Tryz.zeroValue5
 t9:=Tryz.underlying9
 a9:=Tryz.isAgg9
 z9:=Tryz.sizeOf9
 v9:=Tryz.zeroValue9
 t22:=Tryz.underlying35
 a22:=Tryz.isAgg35
 z22:=Tryz.sizeOf35
 v22:=Tryz.zeroValue35
 t25:=Tryz.underlying85
 a25:=Tryz.isAgg85
 z25:=Tryz.sizeOf85
 v25:=Tryz.zeroValue85
 t39:=Tryz.underlying166
 a39:=Tryz.isAgg166
 z39:=Tryz.sizeOf166
 v39:=Tryz.zeroValue166
 t45:=Tryz.underlying195
 a45:=Tryz.isAgg195
 z45:=Tryz.sizeOf195
 v45:=Tryz.zeroValue195
 t46:=Tryz.underlying196
 a46:=Tryz.isAgg196
 z46:=Tryz.sizeOf196
 v46:=Tryz.zeroValue196
 t50:=Tryz.underlying147
 a50:=Tryz.isAgg147
 z50:=Tryz.sizeOf147
 v50:=Tryz.zeroValue147
 t53:=Tryz.underlying202
 a53:=Tryz.isAgg202
 z53:=Tryz.sizeOf202
 v53:=Tryz.zeroValue202
 t55:=Tryz.underlying204
 a55:=Tryz.isAgg204
 z55:=Tryz.sizeOf204
 v55:=Tryz.zeroValue204
 t66:=Tryz.underlying215
 a66:=Tryz.isAgg215
 z66:=Tryz.sizeOf215
 v66:=Tryz.zeroValue215
 t70:=Tryz.underlying219
 a70:=Tryz.isAgg219
 z70:=Tryz.sizeOf219
 v70:=Tryz.zeroValue219
 t76:=Tryz.underlying227
 a76:=Tryz.isAgg227
 z76:=Tryz.sizeOf227
 v76:=Tryz.zeroValue227
 t77:=Tryz.underlying228
 a77:=Tryz.isAgg228
 z77:=Tryz.sizeOf228
 v77:=Tryz.zeroValue228}
end Go.Proofs
end
section
namespace Go.Sx
open Go.Proofs
set_option maxRecDepth 100000
set_option linter.unusedSimpArgs false
theorem zt {p : Prop} (h : p:=by (first | done | (repeat' (first | with_reducible refine And.intro ?_ ?_ | ((with_reducible show _≠_);first | assumption | omega | (simp_all [am,aC];done) | grind) | with_reducible intro _)) <;> (first | done | exact Empty.elim ‹Empty› | assumption | rfl | omega | decide | exact fk [] | (simp only [*,cond_true,cond_false,Bool.not_true,Bool.not_false,go_sem,Nat.reduceBEq,Nat.reduceLeDiff,Nat.reduceLT,decide_true,Nat.reduceAdd,Nat.reduceSub,Nat.reduceMul,Int.reduceLE,Int.reduceLT,Int.reduceToNat,Int.reduceNeg,reduceCtorEq];done) | (simp only [*,cond_true,cond_false,Bool.not_true,Bool.not_false,go_sem,Nat.reduceBEq,Nat.reduceLeDiff,Nat.reduceLT,decide_true,Nat.reduceAdd,Nat.reduceSub,Nat.reduceMul,Int.reduceLE,Int.reduceLT,Int.reduceToNat,Int.reduceNeg,reduceCtorEq];(repeat' (first | with_reducible refine And.intro ?_ ?_ | ((with_reducible show _≠_);first | assumption | omega | (simp_all [am,aC];done) | grind) | with_reducible intro _)) <;> (first | done | assumption | rfl | omega | decide | exact fk [] | (simp_all [am,aC];done))) | (simp_all [okI,am,aC];done) | (simp_all [am,aC];(first | done | exact fk2 [])) | exact fk2 []))) : p:=h
theorem Ie {p : Prop} (h : p:=by simp only [go_sem,Nat.reduceBEq,Nat.reduceLeDiff,Nat.reduceLT,decide_true,Nat.reduceAdd,Nat.reduceSub,Nat.reduceMul,Int.reduceLE,Int.reduceLT,Int.reduceToNat,Int.reduceNeg,reduceCtorEq,hc,hw];all_goals exact zt) : p:=h
theorem If {p : Prop} (h : p:=by simp only [go_sem,Nat.reduceBEq,Nat.reduceLeDiff,Nat.reduceLT,decide_true,Nat.reduceAdd,Nat.reduceSub,Nat.reduceMul,Int.reduceLE,Int.reduceLT,Int.reduceToNat,Int.reduceNeg,reduceCtorEq,hc];all_goals exact zt) : p:=h
@[go_sem] def ku (l_ : List Int) (k_0 : Nat) (s_0 : Unit) : Int⊕Unit:=(bif ((l_.getD k_0 (0 : Int)) !=0) then .inl (l_.getD k_0 (0 : Int)) else .inr ())
def bP (l_ : List Int) : Int:=(match ak (ku l_) l_.length 0 () with | .inl x_0_0=> x_0_0 | .inr s_0=> 0)
@[go_sem] def iq : List SV→Option Con:=(pR .int fun l_=> (pE (.det True (.v (.int .i64 (bP l_))))))
set_option maxHeartbeats 4000000 in
theorem kv : FnOk Tryz.prog 69 iq:=by
 have hG : ConsOk Tryz.prog (mkG [] []) :=aN cg0 cg0
 refine a_ [.o] mixed aD hG (fn:=Tryz.f69) (c:=ag Tryz.f69) (by kernel_rfl) (by kernel_rfl) (by kernel_rfl) (by kernel_rfl) (df fun l_=> (aV (fun hp=> ?_)))
 dsimp only [aZ] at hp
 refine ⟨Nat.le_of_ble_eq_true rfl,(fun id st=> bif Nat.beq id 0 then some (LCR (ρ:=Int) (σ:=Unit) 0 [] [] (fun k_0 s_0=> ⟨[(5,.rs .int l_),(6,.v (.int .i64 (l_.length : Int))),(7,.v (.int .i64 (k_0 : Int)))],[]⟩) (ku l_) pT l_.length () (l_.length≤bC) (fun _=> .ret) (fun x_0_0=> ⟨[(2,.v (.int .i64 x_0_0))],[]⟩) st) else none),?_,?_⟩
 ·unfold ag Tryz.f69
  simp only [aw,true_and,and_true]
  ·refine bY mixed aD hG (by kernel_rfl) (fun _=> rfl) (l_.length : Int) rfl jm (fun hb0 k_0 s_0 hlt0 _ hw hc=> ⟨L0,av _,?_⟩) (fun hb0 s_0 hc=> ?_)
   ·exact Ie
   ·exact If
 ·unfold ag Tryz.f69
  try unfold bP
  simp only [go_sem,Nat.reduceBEq,Nat.reduceLeDiff,Nat.reduceLT,decide_true,Nat.reduceAdd,Nat.reduceSub,Nat.reduceMul,Int.reduceLE,Int.reduceLT,Int.reduceToNat,Int.reduceNeg,reduceCtorEq]
  all_goals exact cl
def aq (a : Order) (b : Order) : Int:=(bP ([(aR a.hour b.hour),(aR a.index b.index)]))
@[go_sem] def iD : List SV→Option Con:=(pD .order fun a=> (pD .order fun b=> (pE (.det True (.v (.int .i64 (aq a b)))))))
theorem mn : FnOk Tryz.prog 108 iD:=by
 have hG : ConsOk Tryz.prog (mkG [(69,fun l=> iq (dw [.sl .int] l)),(70,di)] []) :=aN (cgc (kv.norm [.sl .int]) (cgc d9 cg0)) cg0
 refine a_ [.o] mixed aD hG (fn:=Tryz.f108) (c:=ag Tryz.f108) (by kernel_rfl) (by kernel_rfl) (by kernel_rfl) (by kernel_rfl) (bL fun a=> (bL fun b=> (aV (fun hp=> ?_))))
 dsimp only [aZ] at hp
 refine ⟨Nat.le_of_ble_eq_true rfl,L0,av _,?_⟩
 ·unfold ag Tryz.f108
  try unfold aq
  simp only [go_sem,Nat.reduceBEq,Nat.reduceLeDiff,Nat.reduceLT,decide_true,Nat.reduceAdd,Nat.reduceSub,Nat.reduceMul,Int.reduceLE,Int.reduceLT,Int.reduceToNat,Int.reduceNeg,reduceCtorEq]
  all_goals exact cl
def ir (x : Order) : Bool:=(decide (x.litres > 1073741824))
@[go_sem] def jH : List SV→Option Con:=(pD .order fun x=> (pE (.det True (.v (.bool (ir x))))))
theorem nQ : FnOk Tryz.prog 65 jH:=by
 have hG : ConsOk Tryz.prog (mkG [] []) :=aN cg0 cg0
 refine a_ [.o] mixed aD hG (fn:=Tryz.f65) (c:=ag Tryz.f65) (by kernel_rfl) (by kernel_rfl) (by kernel_rfl) (by kernel_rfl) (bL fun x=> (aV (fun hp=> ?_)))
 dsimp only [aZ] at hp
 refine ⟨Nat.le_of_ble_eq_true rfl,L0,av _,?_⟩
 ·unfold ag Tryz.f65
  try unfold ir
  simp only [go_sem,Nat.reduceBEq,Nat.reduceLeDiff,Nat.reduceLT,decide_true,Nat.reduceAdd,Nat.reduceSub,Nat.reduceMul,Int.reduceLE,Int.reduceLT,Int.reduceToNat,Int.reduceNeg,reduceCtorEq]
  all_goals exact cl
def lU (a : Claim) (b : Claim) : Int:=(bP ([(aR a.rank b.rank),(aR a.right b.right),(aR a.farm b.farm),(aR a.hour b.hour)]))
@[go_sem] def Bo : List SV→Option Con:=(pD .claim fun a=> (pD .claim fun b=> (pE (.det True (.v (.int .i64 (lU a b)))))))
def oJ (a : Claim) (b : Claim) : Int:=(bP ([(aR a.hour b.hour),(lU a b)]))
@[go_sem] def ya : List SV→Option Con:=(pD .claim fun a=> (pD .claim fun b=> (pE (.det True (.v (.int .i64 (oJ a b)))))))
end Go.Sx
end
section
namespace Go.Sx
open Go.Proofs
theorem Bp (x : Int) (l : List Int) : bP (x :: l)=if x=0 then bP l else x:=by
 have key : ∀ l : List Int,bP l=match cw (ρ:=Int) (fun (x : Int) (_ : Unit) => bif (x !=0) then .inl x else .inr ()) l () with | .inl y=> y | .inr _=> 0:=fun l=> by
  unfold bP
  have:=xv (ρ:=Int) (fun (x : Int) (_ : Unit) => bif (x !=0) then .inl x else .inr ()) 0 l ()
  rw [←this]
  rfl
 rw [key,key]
 simp only [cw]
 by_cases h : x=0
 ·subst h;rfl
 ·have : (x !=0)=true:=by simpa using h
  rw [if_neg h,this];rfl
theorem EM : bP []=0:=rfl
def xK : List (Int×Int)→Prop
 | [] => False
 | (a,b) :: r=> a < b∨a=b∧xK r
theorem wm : ∀ l : List (Int×Int),(bP (l.map fun p=> aR p.1 p.2) < 0↔xK l)
 | [] => by simp [EM,xK]
 | (a,b) :: r=> by
  have hc:=jn a b
  simp only [List.map_cons,Bp,hc,xK]
  rcases Int.lt_trichotomy a b with h | h | h
  ·simp [h]
  ·subst h
   simp only [Int.lt_irrefl,if_false,if_true,true_and,false_or,gt_iff_lt]
   exact wm r
  ·have h1 : ¬ a < b:=by omega
   have h2 : a≠b:=by omega
   simp [h1,h2,h]
def EN (a b : Order) : Prop:=xK [(a.hour,b.hour),(a.index,b.index)]
theorem mo (a b : Order) : aq a b < 0↔EN a b:=wm [(a.hour,b.hour),(a.index,b.index)]
open Go.Shelf Go.Sort in
theorem PT {α : Type} {f : α→α→Int} {r : α→α→Prop} (e : ∀ x y,f x y < 0↔r x y) (h1 : ∀ x,¬ r x x) (h2 : ∀ x y z,r x y→r y z→r x z) (h3 : ∀ x y z,¬ r x y→¬ r y z→¬ r x z) : SWO (ltOf f) :=by
 have e1 : ∀ x y,ltOf f x y=true↔r x y:=fun x y=> by unfold ltOf;rw [decide_eq_true_eq,e]
 have e2 : ∀ x y,ltOf f x y=false↔¬ r x y:=fun x y=> by rw [←e1];simp
 exact ⟨fun x=> (e2 x x).2 (h1 x),fun x y z a b=> (e1 x z).2 (h2 x y z ((e1 x y).1 a) ((e1 y z).1 b)),fun x y z a b=> (e2 x z).2 (h3 x y z ((e2 x y).1 a) ((e2 y z).1 b))⟩
open Go.Shelf Go.Sort in
theorem kQ : SWO (ltOf aq) :=PT mo (fun x=> by simp only [EN,xK,and_false,or_false];omega) (fun x y z h1 h2=> by simp only [EN,xK,and_false,or_false] at *;omega) (fun x y z h1 h2=> by simp only [EN,xK,and_false,or_false] at *;omega)
end Go.Sx
end
section
namespace Go.Sx
open Go.RowKit
def orC {α : Type 1} : Option α→Option α→Option α
 | some x,_=> some x
 | none,y=> y
@[go_sem] theorem TJ {α : Type 1} {x : α} {y : Option α} : orC (some x) y=some x:=(rfl)
@[go_sem] theorem TK {α : Type 1} {y : Option α} : orC none y=y:=(rfl)
theorem oB {α : Type 1} {a b : Option α} {c : α} (h : orC a b=some c) : a=some c∨b=some c:=by
 cases a with
 | none=> exact .inr h
 | some x=> exact .inl h
theorem FnOkO.or {P : Program} {f : FuncId} {C D : List SV→List Ob→Option HCon} (h1 : FnOkO P f C) (h2 : FnOkO P f D) : FnOkO P f (fun l h=> orC (C l h) (D l h)) :=
 ⟨fun l h c hc=> by rcases oB hc with e | e;exact h1.enter l h c e;exact h2.enter l h c e,
  fun l h c hc=> by rcases oB hc with e | e;exact h1.calls l h c e;exact h2.calls l h c e⟩
theorem FnOk.or {P : Program} {f : FuncId} {C D : List SV→Option Con} (h1 : FnOk P f C) (h2 : FnOk P f D) : FnOk P f (fun l=> orC (C l) (D l)) :=
 ⟨fun l c hc=> by rcases oB hc with e | e;exact h1.enter l c e;exact h2.enter l c e,
  fun l c hc=> by rcases oB hc with e | e;exact h1.calls l c e;exact h2.calls l c e⟩
end Go.Sx
end
section
namespace Go.Sx
open Go.RowKit Go.Shelf Go.Lib Go.Sort Go.Proofs
set_option maxRecDepth 100000
noncomputable def gO : List SV→List Ob→Option HCon:=fun l h=> orC (fS .order 121 [.ep [gu] 0] ay l h) (fS .order 108 [] aq l h)
@[go_sem] theorem Jt {l0 : List Order} : gO [.os 0,.fn 121 [] [.ep [gu] 0]] [.row .order l0]=some (rt (apart ay l0) (.tup []) [.row .order (srt ay l0)]) :=by
 unfold gO
 rw [o4];rfl
@[go_sem] theorem Ig {l0 : List Order} : gO [.os 0,.fn 108 [] []] [.row .order l0]=some (rt (apart aq l0) (.tup []) [.row .order (srt aq l0)]) :=by
 unfold gO
 rw [o4]
 have : fS .order 121 [.ep [gu] 0] ay [.os 0,.fn 108 [] []] [.row .order l0]=none:=by simp [fS,HW]
 rw [this];rfl
theorem sd : xH .order:=fun x s hs=> by
 simp only [cellsOf,List.mem_cons,List.not_mem_nil,or_false] at hs
 rcases hs with rfl | rfl | rfl | rfl
 all_goals exact ⟨_,rfl,rfl⟩
theorem Ih (x y : Order) : eR (.agg (cellsOf .order x) :: .agg (cellsOf .order y) :: [.ep [gu] 0])=some (.det True (.v (.int .i64 (ay x y)))) :=by
 simp only [go_sem,Nat.reduceBEq]
theorem se (x y : Order) : iD (.agg (cellsOf .order x) :: .agg (cellsOf .order y) :: [])=some (.det True (.v (.int .i64 (aq x y)))) :=by
 simp only [go_sem,Nat.reduceBEq]
theorem sf : FnOkO Tryz.prog 97 gO:=by
 refine FnOkO.or ?_ ?_
 ·refine sb (k:= .order) Tryz.sortL (fun w=> by kernel_rfl) (fun w=> by kernel_rfl) sd (by decide) (g:=121) (caps:=[.ep [gu] 0]) mJ (cf:=ay) Ih xB (fun s hs=> ?_) ⟨default,default,Ih _ _⟩
  simp only [List.mem_cons,List.not_mem_nil,or_false] at hs
  subst hs
  exact dJ 5 _ rfl
 ·exact sb (k:= .order) Tryz.sortL (fun w=> by kernel_rfl) (fun w=> by kernel_rfl) sd (by decide) (g:=108) (caps:=[]) mn (cf:=aq) se kQ (fun s hs=> by cases hs) ⟨default,default,se _ _⟩
end Go.Sx
end
section
namespace Go.Sx
open Go.RowKit
def EO (k : Tag) (i : Nat) (t : List (Nat×SV)) (h : List Ob) : SV→St
 | .v (.slice none 0 0) => ⟨(i,.os h.length) :: t,h ++ [.row k []]⟩
 | _=> ⟨t,h⟩
def Ii (k : Tag) (id off : Nat) (t : List (Nat×SV)) (h : List Ob) (l : List SV) : Option SV→St
 | some (.v (.slice none 0 0)) => ⟨t,bM h id (.cells (l.set off (.os h.length))) ++ [.row k []]⟩
 | _=> ⟨t,h⟩
def M9 (k : Tag) (id off : Nat) (t : List (Nat×SV)) (h : List Ob) : Ob→St
 | .cells l=> Ii k id off t h l (nth l off)
 | _=> ⟨t,h⟩
def Ij (k : Tag) (t : List (Nat×SV)) (h : List Ob) : SV→St
 | .ptr id off=> M9 k id off t h (an h id)
 | _=> ⟨t,h⟩
def zu (k : Tag) : ResultVar→List (Nat×SV)→List Ob→St
 | .tmp i,t,h=> EO k i t h (lk i t)
 | .cell i _,t,h=> Ij k t h (lk i t)
def ut : List (ResultVar×Tag)→St→St
 | [],st=> st
 | x :: r,st=> ut r (zu x.2 x.1 st.t st.h)
theorem M_ (k : Tag) (r : ResultVar) (st : St) : NilS st (zu k r st.t st.h) :=by
 obtain ⟨t,h⟩ :=st
 cases r with
 | tmp i=>
  show NilS _ (EO k i t h (lk i t))
  unfold EO
  split
  ·rename_i e
   exact .slot _ (.refl _) e (.inl ⟨_,rfl⟩)
  ·exact .refl _
 | cell i _=>
  show NilS _ (Ij k t h (lk i t))
  unfold Ij
  split
  ·unfold M9
   split
   ·rename_i e
    unfold Ii
    split
    ·rename_i e2
     exact .cell _ (.refl _) e (by rw [←dA];exact e2) (.inl ⟨_,rfl⟩)
    ·exact .refl _
   ·exact .refl _
  ·exact .refl _
theorem NilS.trans {a b c : St} (h1 : NilS a b) (h2 : NilS b c) : NilS a c:=by
 induction h2 with
 | refl=> exact h1
 | cell o _ e1 e2 ho ih=> exact .cell o ih e1 e2 ho
 | slot o _ e1 ho ih=> exact .slot o ih e1 ho
theorem PU (l : List (ResultVar×Tag)) : ∀ st,NilS st (ut l st) :=by
 induction l with
 | nil=> exact fun st=> .refl _
 | cons x r ih=> exact fun st=> (M_ x.2 x.1 st).trans (ih _)
def DK (l : List (ResultVar×Tag)) (rs : List ResultVar) (ts : Tis) (post : SV→Prop) (pp : Value→Prop) : Ex→St→Prop
 | .exit _,_=> False
 | .normal,st=> cG post (pa true rs ts (ut l st))
 | .ret,st=> cG post (pa true rs ts (ut l st))
 | .pan x,_=> pp x
section
variable {l : List (ResultVar×Tag)} {rs : List ResultVar} {ts : Tis} {post : SV→Prop} {pp : Value→Prop} {st : St} {k : Tag} {i id off : Nat} {t : List (Nat×SV)} {h : List Ob} {m : List SV}
@[go_sem] theorem R6 : DK l rs ts post pp .ret st=cG post (pa true rs ts (ut l st)) :=(rfl)
@[go_sem] theorem Na : DK l rs ts post pp .normal st=cG post (pa true rs ts (ut l st)) :=(rfl)
@[go_sem] theorem R7 {x : Value} : DK l rs ts post pp (.pan x) st=pp x:=(rfl)
@[go_sem] theorem TL : ut [] st=st:=(rfl)
@[go_sem] theorem R8 {r : ResultVar} : ut ((r,k) :: l) ⟨t,h⟩=ut l (zu k r t h) :=(rfl)
@[go_sem] theorem R9 : zu k (.tmp i) t h=EO k i t h (lk i t) :=(rfl)
@[go_sem] theorem PW {ty : TypeId} : zu k (.cell i ty) t h=Ij k t h (lk i t) :=(rfl)
@[go_sem] theorem TM : EO k i t h (.v (.slice none 0 0))=⟨(i,.os h.length) :: t,h ++ [.row k []]⟩ :=(rfl)
@[go_sem] theorem Va : EO k i t h (.os id)=⟨t,h⟩ :=(rfl)
@[go_sem] theorem TN : Ij k t h (.ptr id off)=M9 k id off t h (an h id) :=(rfl)
@[go_sem] theorem PY : M9 k id off t h (.cells m)=Ii k id off t h m (nth m off) :=(rfl)
@[go_sem] theorem TO : Ii k id off t h m (some (.v (.slice none 0 0)))=⟨t,bM h id (.cells (m.set off (.os h.length))) ++ [.row k []]⟩ :=(rfl)
@[go_sem] theorem Vb : Ii k id off t h m (some (.os i))=⟨t,h⟩ :=(rfl)
attribute [go_sem] List.set_cons_zero
end
section
variable {P : Program} {ts : Tis} {G : Cons}
theorem Ik (l : List (ResultVar×Tag)) (hm : P.follows .mixedOrders=true) (hts : ts.ok P) (hG : ConsOk P G) {f : FuncId} {fn : Func} {c : Code} (hf : P.funcs[f]? =some fn) (hb : fn.body=some c) (hname : (fn.name== "runtime.NumGoroutine")=false)
  (hc : bQ fn.ntmps c=true) {C : List SV→Option Con}
  (h : ∀ l0 con,C l0=some con→aZ con→l0.length≤fn.ntmps∧∃ L,aw P none fn.ntmps L c∧exec ts G L c ⟨g0 0 l0,[]⟩ (DK l fn.results.toList ts (cp con) (gL con))) : FnOk P f C:=by
 refine ⟨fun l con _ args w=> ?_,fun l0 con hcon hpre F w vs hF hvs=> ?_⟩
 ·have hn : ¬ fn.name= "runtime.NumGoroutine" :=by simpa using hname
  simp [callFunc,hf,hn,hb]
 ·obtain ⟨hlen,L,hl,hx⟩ :=h l0 con hcon hpre
  refine j8 (n:=0) (callsIn_of_wp_marks hf hb trivial ?_)
  have hr : StRel F { w:=w,own:=bV} fn.ntmps bV ⟨g0 0 l0,[]⟩ { tmps:=vs ++ Array.replicate (fn.ntmps - vs.size) undef,defers:=[]} w:=
   ⟨by have:=hvs.1;simp;omega,Dfr.nil,qi hF,Fr.refl _,fun t=> jl hvs _ t⟩
  refine wpIn_mono (jO hm hts hG c hc hl F _ _ hx bV _ w hr) ?_
  intro e a' w' hq
  have key : ∀ F1 own st,(∀ b,F b→F1 b)→StRel F1 { w:=w,own:=bV} fn.ntmps own st a' w'→cG (cp con) (pa true fn.results.toList ts (ut l st))→LeavesInM (rd none) 0 P fn a'.tmps
    (fun e w'=> (∃ s u own',cp con s∧e= .returned u∧Handed F w own' w' s u∧Below w.heap.size w w')∨(∃ x,gL con x∧e= .panicked [{ v:=x,recovered:=false}]∧Below w.heap.size w w')) a'.defers .returning w':=by
   intro F1 own0' st0 hF1 hst0 hdone
   obtain ⟨own,hst⟩ :=(PU l st0).rel hst0
   generalize ut l st0=st at hst hdone
   refine gx hst (by simp) fun w2 hst2=> ?_
   have hst3:=hst2.less hF1 rfl
   unfold pa at hdone
   cases hs : jK (iF ts st fn.results.toList) with
   | none=>
    simp only [cond_true,D7] at hdone;rw [hs] at hdone;exact hdone.elim
   | some s=>
    obtain ⟨u,e1,e2⟩ :=qh (P:=P) hts hst3 hs
    refine ⟨u,e1,.inl ?_⟩
    simp only [cond_true,D7] at hdone
    rw [hs] at hdone
    change cG (cp con) (rV st.h s) at hdone
    cases hg : rV st.h s with
    | none=> rw [hg] at hdone;exact hdone.elim
    | some s2=>
     rw [hg] at hdone
     obtain ⟨own',hh⟩ :=B0 hst3 e2 hg
     exact ⟨_,u,own',hdone,rfl,hh,jk hst3.fr⟩
  cases e with
  | normal=> obtain ⟨F1,own,st,h0,h1,h2⟩ :=hq;exact key F1 own st h0 h1 h2
  | ret=> obtain ⟨F1,own,st,h0,h1,h2⟩ :=hq;exact key F1 own st h0 h1 h2
  | exit id=> obtain ⟨F1,own,st,h0,h1,h2⟩ :=hq;exact h2.elim
  | panic ch=>
   obtain ⟨x,F1,own,st,h0,h1,h2,rfl⟩ :=hq
   exact gx h1 (by simp) fun w2 hst2=> .inr ⟨x,h2,rfl,jk hst2.fr⟩
  | _=> exact hq.elim
end
end Go.Sx
end
section
namespace Go.Sx
open Go.Proofs
set_option maxRecDepth 100000
@[go_sem] def nR : List SV→Option Con:=pR .order fun l=> pE (.det (l.length * 32≤ja) (.nw .order l))
theorem sM : FnOk Tryz.prog 94 nR:=by
 have hG : ConsOk Tryz.prog (mkG [] []) :=aN cg0 cg0
 refine Ik [(.tmp 2,.order)] mixed aD hG (fn:=Tryz.f94) (c:=ag Tryz.f94) (by kernel_rfl) (by kernel_rfl) (by kernel_rfl) (by kernel_rfl) (df fun l=> aV fun hp=> ?_)
 dsimp only [aZ] at hp
 refine ⟨Nat.le_of_ble_eq_true rfl,L0,av _,?_⟩
 unfold ag Tryz.f94
 simp only [go_sem,Nat.reduceBEq,Nat.reduceLeDiff,Nat.reduceAdd,Nat.reduceSub,Nat.reduceMul,Int.reduceLE,Int.reduceLT,Int.reduceToNat,Int.reduceNeg,reduceCtorEq]
 intro b hb
 refine ⟨fun h=> ?_,fun _=> ⟨hp,fun _=> rfl⟩⟩
 have hl:=hb h
 subst hl
 rfl
end Go.Sx
end
section
namespace Go.Sx
open Go.RowKit
abbrev RF:= { r : Nat→Res // ∀ k,(r k).n=k}
def EP (items : List (List SV)) (r : RF) : List SV→Res→Option YCon:=itY items r.1
@[go_sem] theorem Vc {items : List (List SV)} {r : RF} {k : Nat} {args : List SV} : EP items r args (r.1 (k + 1))=some (y7 (items[k]? =some args) r.1 (k + 2)) :=t8 r.2 k args
section
variable {ρ σ : Type}
def lcy (pre : Prop) (run : ρ⊕σ) (exE : ρ→Ex) (outE : ρ→St) (outN : σ→St) (stp : St) : LCon where
 α:=Option (ρ⊕σ)
 pre:=pre
 post:=fun | none=> True | some r=> r=run
 ex:=fun | none=> .ret | some (.inl x) => exE x | some (.inr _) => .normal
 out:=fun | none=> stp | some (.inl x) => outE x | some (.inr s) => outN s
def LCY (m : Nat) (ns : List NLoc) (js : List Nat) (D : Nat→σ→St) (step : Nat→σ→ρ⊕σ) (p : Nat→σ→Prop) (n : Nat) (s0 : σ) (B : Prop) (exE : ρ→Ex) (outE : ρ→St) (stp : St) (st : St) : LCon:=
 lcy (ka m ns js st (D 0 s0)∧B∧okI step p n 0 s0) (ak step n 0 s0) exE outE (D n) stp
def PZ (m : Nat) (ns : List NLoc) (js : List Nat) (D : Nat→σ→St) (step : Nat→σ→ρ⊕σ) (p : Nat→σ→Prop) (n : Nat) (s0 : σ) (exE : ρ→Ex) (outE : ρ→St) (stp : St) (st : St) : LCon:=
 lcy (ka m ns js st (D 0 s0)∧okI step p n 0 s0∧∀ s,ak step n 0 s0≠ .inr s) (ak step n 0 s0) exE outE (D n) stp
variable {m : Nat} {ns : List NLoc} {js : List Nat} {step : Nat→σ→ρ⊕σ} {p : Nat→σ→Prop} {n : Nat} {s0 : σ} {B : Prop} {exE : ρ→Ex} {outE : ρ→St} {stp st : St} {Q : Ex→St→Prop} {D : Nat→σ→St}
theorem wn {pre : Prop} {run : ρ⊕σ} {outN : σ→St} : jF Q (some (lcy pre run exE outE outN stp))=(pre∧(∀ x,run= .inl x→Q (exE x) (outE x))∧(∀ s,run= .inr s→Q .normal (outN s))∧Q .ret stp) :=by
 apply propext
 constructor
 ·rintro ⟨h1,h2⟩
  exact ⟨h1,fun x hx=> h2 (some (.inl x)) hx.symm,fun s hs=> h2 (some (.inr s)) hs.symm,h2 none trivial⟩
 ·rintro ⟨h1,h2,h3,h4⟩
  refine ⟨h1,fun r hr=> ?_⟩
  match r,hr with
  | none,_=> exact h4
  | some (.inl x),hr=> exact h2 x hr.symm
  | some (.inr s),hr=> exact h3 s hr.symm
@[go_sem] theorem R_ : jF Q (some (LCY m ns js D step p n s0 B exE outE stp st))=((ka m ns js st (D 0 s0)∧B∧okI step p n 0 s0)∧(∀ x,ak step n 0 s0= .inl x→Q (exE x) (outE x))∧(∀ s,ak step n 0 s0= .inr s→Q .normal (D n s))∧Q .ret stp) :=wn
@[go_sem] theorem P2 : jF Q (some (PZ m ns js D step p n s0 exE outE stp st))=((ka m ns js st (D 0 s0)∧okI step p n 0 s0∧∀ s,ak step n 0 s0≠ .inr s)∧(∀ x,ak step n 0 s0= .inl x→Q (exE x) (outE x))∧Q .ret stp) :=by
 refine wn.trans ?_
 apply propext
 constructor
 ·rintro ⟨h1,h2,_,h4⟩;exact ⟨h1,h2,h4⟩
 ·rintro ⟨h1,h2,h4⟩;exact ⟨h1,h2,fun s hs=> absurd hs (h1.2.2 s),h4⟩
def cY (step : Nat→σ→ρ⊕σ) (exE : ρ→Ex) (outE : ρ→St) (D : Nat→σ→St) (stp : St) (m id k : Nat) (s : σ) : Ex→St→Prop
 | .normal,st=> lG D m k st (step k s)
 | .exit j,st=> gz exE outE m (bif Nat.beq j id then .normal else .exit j) st (step k s)
 | .ret,st=> gz exE outE m .ret st (step k s)∨fl stp m st
 | .pan x,st=> gz exE outE m (.pan x) st (step k s)
variable {id k j : Nat} {s : σ} {x : Value} {e e' : Ex}
@[go_sem] theorem Sa : cY step exE outE D stp m id k s .normal st=lG D m k st (step k s) :=(rfl)
@[go_sem] theorem Vd : cY step exE outE D stp m id k s (.exit j) st=gz exE outE m (bif Nat.beq j id then .normal else .exit j) st (step k s) :=(rfl)
@[go_sem] theorem Xa : cY step exE outE D stp m id k s .ret st=(gz exE outE m .ret st (step k s)∨fl stp m st) :=(rfl)
@[go_sem] theorem Xb : cY step exE outE D stp m id k s (.pan x) st=gz exE outE m (.pan x) st (step k s) :=(rfl)
@[congr] theorem TP {st' : St} (h : st=st') (he : e=e') : cY step exE outE D stp m id k s e st=cY step exE outE D stp m id k s e' st':=by rw [h,he]
end
section
variable {P : Program} {ρ σ : Type} {ts : Tis} {G : Cons} {ro : Option Nat} {N : Nat} {id : Nat} {c : Code} {C : St→Option LCon} {m : Nat} {ns : List NLoc} {js : List Nat} {step : Nat→σ→ρ⊕σ} {p : Nat→σ→Prop} {n : Nat} {s0 : σ} {exE : ρ→Ex} {outE : ρ→St} {D : Nat→σ→St} {stp : St}
theorem Il {n0 : Nat} (hn0 : n0=m) {s : σ} {k : Nat} (hlt : k < n) {I : Nat×σ→Prop} {μ : Nat×σ→Nat} {outN : σ→St} {pre : Prop} {run : ρ⊕σ}
  (hI : ∀ s',step k s= .inr s'→I (k + 1,s')∧μ (k + 1,s') < μ (k,s)) (hx : ∀ x,step k s= .inl x→run= .inl x) :
  ∀ e st',cY step exE outE D stp m id k s e st'→mb (fun x : Nat×σ=> D x.1 x.2) I μ n0 (k,s) id (fun e st'=> ∃ r js,(lcy pre run exE outE outN stp).post r∧(lcy pre run exE outE outN stp).ex r=e∧n0≤((lcy pre run exE outE outN stp).out r).h.length∧Sub js n0 st' ((lcy pre run exE outE outN stp).out r)) e st':=by
 subst hn0
 have hfin : ∀ e st',gz exE outE n0 e st' (step k s)→∃ r js,(lcy pre run exE outE outN stp).post r∧(lcy pre run exE outE outN stp).ex r=e∧n0≤((lcy pre run exE outE outN stp).out r).h.length∧Sub js n0 st' ((lcy pre run exE outE outN stp).out r) :=by
  intro e st' q
  cases hs : step k s with
  | inr s'=> rw [hs] at q;exact q.elim
  | inl x=>
   rw [hs] at q
   obtain ⟨q2,js,q3,q4⟩ :=q
   exact ⟨some (.inl x),js,(hx x hs).symm,q2,q3,q4⟩
 intro e st' hq
 cases e with
 | normal=>
  change lG D n0 k st' (step k s) at hq
  cases hs : step k s with
  | inl x=> rw [hs] at hq;exact hq.elim
  | inr s'=>
   rw [hs] at hq
   obtain ⟨js,q3,q4⟩ :=hq
   obtain ⟨i1,i2⟩ :=hI s' hs
   exact ⟨(k + 1,s'),js,i1,i2,q3,q4⟩
 | exit j=>
  change gz exE outE n0 (bif Nat.beq j id then .normal else .exit j) st' (step k s) at hq
  show bif Nat.beq j id then _ else _
  cases hb : Nat.beq j id with
  | true=> rw [hb] at hq;exact hfin _ _ hq
  | false=> rw [hb] at hq;exact hfin _ _ hq
 | ret=>
  rcases hq with hq | hq
  ·exact hfin _ _ hq
  ·obtain ⟨js,q3,q4⟩ :=hq
   exact ⟨none,js,trivial,rfl,q3,q4⟩
 | pan x=> exact hfin _ _ hq
theorem uu {B : Prop} (hm : P.follows .mixedOrders=true) (hts : ts.ok P) (hG : ConsOk P G) (hc : bQ N c=true) (hC : ∀ st,C st=some (LCY m ns js D step p n s0 B exE outE stp st)) (M : Int) (hn : n=M.toNat) (hB : B→M < 9223372036854775808)
  (h : B→∀ k s,k < n→p k s→IntKind.i64.wrap ((k : Int) + 1)=((k + 1 : Nat) : Int)→decide ((k : Int) < M)=true→∃ L,aw P ro N L c∧exec ts G L c (D k s) (cY step exE outE D stp m id k s))
  (h2 : B→∀ s,decide ((n : Int) < M)=false→exec ts G L0 c (D n s) (cZ (D n s) m id)) : fO P ro N id (.loop c) C:=by
 refine lF hm hts hG hc fun st lc hC' hp=> ?_
 rw [hC st] at hC'
 cases hC'
 obtain ⟨⟨hlen,hok,hle,hsub⟩,hB',h1⟩ :=hp
 refine ⟨Nat×σ,fun x=> D x.1 x.2,fun x=> x.1≤n∧okI step p (n - x.1) x.1 x.2∧ak step (n - x.1) x.1 x.2=ak step n 0 s0,fun x=> n - x.1,(0,s0),mkN ns st,js,⟨Nat.zero_le _,by simpa using h1,by simp⟩,pl ns st st (.refl _) hok,by rw [hlen];exact hle,by rw [hlen];exact hsub,?_⟩
 rintro ⟨k,s⟩ ⟨hk,hJ,hrun⟩
 simp only at hk hJ hrun
 rcases Nat.lt_or_ge k n with hlt | hge
 ·rw [show n - k=(n - k - 1) + 1 by omega] at hrun hJ
  obtain ⟨L,hl,hex⟩ :=h hB' k s hlt hJ.1 (y_ (hn▸hlt) (hB hB')) (decide_eq_true (by omega))
  have hI : ∀ s',step k s= .inr s'→okI step p (n - (k + 1)) (k + 1) s'∧ak step (n - (k + 1)) (k + 1) s'=ak step n 0 s0:=fun s' hs=> by
   have:=hJ.2 s' hs
   rw [show n - k - 1=n - (k + 1) by omega] at this hrun
   simp only [ak,hs] at hrun
   exact ⟨this,hrun⟩
  have hx : ∀ x,step k s= .inl x→ak step n 0 s0= .inl x:=fun x hs=> by
   simp only [ak,hs] at hrun
   exact hrun.symm
  exact ⟨L,_,hl,fun e st' q=> Il hlen hlt (fun s' hs=> ⟨⟨hlt,hI s' hs⟩,by simp only;omega⟩) hx e st' q,hex⟩
 ·have hkn : k=n:=by omega
  subst hkn
  have hex:=h2 hB' s (by rw [decide_eq_false_iff_not];omega)
  refine ⟨L0,_,av c,fun e st' hq=> ?_,hex⟩
  simp only [Nat.sub_self,ak] at hrun
  cases e with
  | exit j=>
   change bif Nat.beq j id then fl (D k s) m st' else False at hq
   show bif Nat.beq j id then _ else _
   cases hb : Nat.beq j id with
   | true=>
    rw [hb] at hq
    obtain ⟨js,q3,q4⟩ :=hq
    exact ⟨some (.inr s),js,hrun,rfl,by rw [hlen];exact q3,by rw [hlen];exact q4⟩
   | false=> rw [hb] at hq;exact hq.elim
  | _=> exact hq.elim
theorem EQ (hm : P.follows .mixedOrders=true) (hts : ts.ok P) (hG : ConsOk P G) (hc : bQ N c=true) (hC : ∀ st,C st=some (PZ m ns js D step p n s0 exE outE stp st))
  (h : ∀ k s,p k s→∃ L,aw P ro N L c∧exec ts G L c (D k s) (cY step exE outE D stp m id k s)) : fO P ro N id (.loop c) C:=by
 refine lF hm hts hG hc fun st lc hC' hp=> ?_
 rw [hC st] at hC'
 cases hC'
 obtain ⟨⟨hlen,hok,hle,hsub⟩,h1,hno⟩ :=hp
 refine ⟨Nat×σ,fun x=> D x.1 x.2,fun x=> x.1≤n∧okI step p (n - x.1) x.1 x.2∧ak step (n - x.1) x.1 x.2=ak step n 0 s0,fun x=> n - x.1,(0,s0),mkN ns st,js,⟨Nat.zero_le _,by simpa using h1,by simp⟩,pl ns st st (.refl _) hok,by rw [hlen];exact hle,by rw [hlen];exact hsub,?_⟩
 rintro ⟨k,s⟩ ⟨hk,hJ,hrun⟩
 simp only at hk hJ hrun
 rcases Nat.lt_or_ge k n with hlt | hge
 ·rw [show n - k=(n - k - 1) + 1 by omega] at hrun hJ
  obtain ⟨L,hl,hex⟩ :=h k s hJ.1
  have hI : ∀ s',step k s= .inr s'→okI step p (n - (k + 1)) (k + 1) s'∧ak step (n - (k + 1)) (k + 1) s'=ak step n 0 s0:=fun s' hs=> by
   have:=hJ.2 s' hs
   rw [show n - k - 1=n - (k + 1) by omega] at this hrun
   simp only [ak,hs] at hrun
   exact ⟨this,hrun⟩
  have hx : ∀ x,step k s= .inl x→ak step n 0 s0= .inl x:=fun x hs=> by
   simp only [ak,hs] at hrun
   exact hrun.symm
  exact ⟨L,_,hl,fun e st' q=> Il hlen hlt (fun s' hs=> ⟨⟨hlt,hI s' hs⟩,by simp only;omega⟩) hx e st' q,hex⟩
 ·have hkn : k=n:=by omega
  subst hkn
  simp only [Nat.sub_self,ak] at hrun
  exact absurd hrun.symm (hno s)
end
def jo (n : Nat) : List Ob:=List.replicate n .dead
def zv (items : List (List SV)) (r : RF) (n : Nat) : Ex→St→Prop
 | .normal,st=> fl ⟨[],.ab (r.1 0) :: jo n⟩ (n + 1) ⟨[],st.h⟩∨fl ⟨[],.ab (r.1 (items.length + 1)) :: jo n⟩ (n + 1) ⟨[],st.h⟩
 | .ret,st=> fl ⟨[],.ab (r.1 0) :: jo n⟩ (n + 1) ⟨[],st.h⟩∨fl ⟨[],.ab (r.1 (items.length + 1)) :: jo n⟩ (n + 1) ⟨[],st.h⟩
 | _,_=> False
section
variable {items : List (List SV)} {r : RF} {n : Nat} {st : St} {e e' : Ex}
@[go_sem] theorem Nb : zv items r n .normal st=(fl ⟨[],.ab (r.1 0) :: jo n⟩ (n + 1) ⟨[],st.h⟩∨fl ⟨[],.ab (r.1 (items.length + 1)) :: jo n⟩ (n + 1) ⟨[],st.h⟩) :=(rfl)
@[go_sem] theorem Sb : zv items r n .ret st=(fl ⟨[],.ab (r.1 0) :: jo n⟩ (n + 1) ⟨[],st.h⟩∨fl ⟨[],.ab (r.1 (items.length + 1)) :: jo n⟩ (n + 1) ⟨[],st.h⟩) :=(rfl)
@[congr] theorem Oc {st' : St} (h : st=st') (he : e=e') : zv items r n e st=zv items r n e' st':=by rw [h,he]
@[go_sem] theorem Ve : jo 0=[] :=(rfl)
@[go_sem] theorem Vf : jo 1=[.dead] :=(rfl)
@[go_sem] theorem Vg : jo 2=[.dead,.dead] :=(rfl)
@[go_sem] theorem Vh : jo 3=[.dead,.dead,.dead] :=(rfl)
@[go_sem] theorem Vi : jo 4=[.dead,.dead,.dead,.dead] :=(rfl)
end
theorem zw {js : List Nat} {n0 : Nat} {h h' : List Ob} (q : Sub js n0 ⟨[],h⟩ ⟨[],h'⟩) : Sub js n0 ⟨[(0,.tup [])],h⟩ ⟨[(0,.tup [])],h'⟩ :=by
 refine ⟨q.1,?_,q.2.2⟩
 simp only [D8,lk]
 exact ⟨⟨rfl,rfl⟩,trivial⟩
open Classical in
theorem Im {P : Program} {ts : Tis} {G : RF→Cons} (hm : P.follows .mixedOrders=true) (hts : ts.ok P) {f : FuncId} {fn : Func} {c : Code} (hf : P.funcs[f]? =some fn) (hb : fn.body=some c) (hname : (fn.name== "runtime.NumGoroutine")=false) (hc : bQ fn.ntmps c=true) (hr : fn.results.toList=[])
  {items : List (List SV)} {mk : SV→List SV} {hs : List Ob} {n : Nat} (hn : hs.length=n)
  (h : ∀ r : RF,YOk P (EP items r)→ConsOk P (G r)∧(mk (.os 0)).length≤fn.ntmps∧∃ L,aw P none fn.ntmps L c∧exec ts (G r) L c ⟨g0 0 (mk (.os 0)),.ab (r.1 1) :: hs⟩ (zv items r n))
  (he : ∀ (args : Array Value) (w : World),(callFunc f args).run P w= .ok (.enter f args) w) : xx P f mk hs items:=by
 refine B4 (fun r0 hr0 hy=> ?_) he
 obtain ⟨hG,h1,L,h2,h3⟩ :=h ⟨r0,hr0⟩ hy
 refine ⟨fun l o=> if l=mk (.os 0)∧o= .ab (r0 1) :: hs then some { α:=Bool,pre:=True,post:=fun _=> True,res:=fun b=> .ret (.tup []) (.ab (r0 (if b then items.length + 1 else 0)) :: jo n)} else none,?_,_,if_pos ⟨rfl,rfl⟩,trivial,fun b _=> ⟨_,_,_,rfl,by cases b <;> simp⟩⟩
 refine tY hm hts hG hf hb hname hc fun l o con hC _=> ?_
 split at hC
 rotate_left
 ·cases hC
 rename_i hlo
 obtain ⟨rfl,rfl⟩ :=hlo
 cases hC
 refine ⟨h1,L,_,h2,fun e st hq=> ?_,h3⟩
 have key : ∀ st : St,(fl ⟨[],.ab (r0 0) :: jo n⟩ (n + 1) ⟨[],st.h⟩∨fl ⟨[],.ab (r0 (items.length + 1)) :: jo n⟩ (n + 1) ⟨[],st.h⟩)→p5 (Ob.ab (r0 1) :: hs).length { α:=Bool,pre:=True,post:=fun _=> True,res:=fun b=> .ret (.tup []) (.ab (r0 (if b then items.length + 1 else 0)) :: jo n)} (jK (iF ts st fn.results.toList)) st.h:=fun st q=> by
  rw [hr]
  show ∃ r s' h' js,_
  rcases q with ⟨js,q1,q2⟩ | ⟨js,q1,q2⟩
  ·exact ⟨false,_,_,js,trivial,rfl,by rw [List.length_cons,hn];exact q1,by rw [List.length_cons,hn];exact zw q2⟩
  ·exact ⟨true,_,_,js,trivial,rfl,by rw [List.length_cons,hn];exact q1,by rw [List.length_cons,hn];exact zw q2⟩
 cases e with
 | normal=> exact key st hq
 | ret=> exact key st hq
 | exit j=> exact hq.elim
 | pan x=> exact hq.elim
section
variable {ρ σ τ : Type}
theorem rG {step : τ→σ→ρ⊕σ} : ∀ {a b : List τ} {s s' : σ},cw step a s= .inr s'→cw step (a ++ b) s=cw step b s'
 | [],_,_,_,h=> by simp only [cw,Sum.inr.injEq] at h;subst h;rfl
 | x :: a,b,s,s',h=> by
  simp only [List.cons_append,cw] at h ⊢
  cases hs : step x s with
  | inl y=> rw [hs] at h;cases h
  | inr s1=> rw [hs] at h;simp only at h ⊢;exact rG h
theorem zx {step : τ→σ→ρ⊕σ} {p : τ→σ→Prop} : ∀ {a b : List τ} {s s' : σ},cw step a s= .inr s'→okL step p (a ++ b) s→okL step p b s'
 | [],_,_,_,h,hk=> by simp only [cw,Sum.inr.injEq] at h;subst h;exact hk
 | x :: a,b,s,s',h,hk=> by
  simp only [List.cons_append,cw] at h hk
  cases hs : step x s with
  | inl y=> rw [hs] at h;cases h
  | inr s1=> rw [hs] at h;exact zx h (hk.2 s1 hs)
def LCP (m : Nat) (ns : List NLoc) (js : List Nat) (D : List Nat→Option Nat→σ→St) (step : τ→σ→ρ⊕σ) (p : τ→σ→Prop) (l : List τ) (s0 : σ) (exE : ρ→Ex) (outE : ρ→St) (outN : σ→St) (st : St) : LCon where
 α:=ρ⊕σ
 pre:=ka m ns js st (D (List.range l.length) none s0)∧∀ L,L.Perm l→okL step p L s0
 post:=fun r=> ∃ L,L.Perm l∧cw step L s0=r
 ex:=fun | .inl x=> exE x | .inr _=> .normal
 out:=fun | .inl x=> outE x | .inr s=> outN s
variable {m : Nat} {ns : List NLoc} {js : List Nat} {step : τ→σ→ρ⊕σ} {p : τ→σ→Prop} {l : List τ} {s0 : σ} {exE : ρ→Ex} {outE : ρ→St} {outN : σ→St} {st : St} {Q : Ex→St→Prop} {D : List Nat→Option Nat→σ→St}
@[go_sem] theorem Sc : jF Q (some (LCP m ns js D step p l s0 exE outE outN st))=((ka m ns js st (D (List.range l.length) none s0)∧∀ L,L.Perm l→okL step p L s0)∧∀ L,L.Perm l→(∀ x,cw step L s0= .inl x→Q (exE x) (outE x))∧∀ s,cw step L s0= .inr s→Q .normal (outN s)) :=by
 apply propext
 constructor
 ·rintro ⟨h1,h2⟩
  exact ⟨h1,fun L hL=> ⟨fun x hx=> h2 (.inl x) ⟨L,hL,hx⟩,fun s hs=> h2 (.inr s) ⟨L,hL,hs⟩⟩⟩
 ·rintro ⟨h1,h2⟩
  refine ⟨h1,fun r ⟨L,hL,hr⟩ => ?_⟩
  cases r with
  | inl x=> exact (h2 L hL).1 x hr
  | inr s=> exact (h2 L hL).2 s hr
variable {P : Program} {ts : Tis} {G : Cons} {ro : Option Nat} {N id : Nat} {c : Code} {C : St→Option LCon}
theorem In (d : τ) (it : Nat) (hm : P.follows .mixedOrders=true) (hts : ts.ok P) (hG : ConsOk P G) (hc : bQ N c=true) (hC : ∀ st,C st=some (LCP m ns js D step p l s0 exE outE outN st))
  (h : ∀ left cur s,(∀ j,j∈left→j < l.length∧p (l.getD j d) s)→∃ L,aw P ro N L c∧exec ts G L c (D left cur s) (cM step l d exE outE outN D m id it left s)) : fO P ro N id (.loop c) C:=by
 refine lF hm hts hG hc fun st lc hC' hp=> ?_
 rw [hC st] at hC'
 cases hC'
 obtain ⟨⟨hlen,hok,hle,hsub⟩,hO⟩ :=hp
 subst hlen
 have hfix : ∀ q : List Nat,q.Perm (List.range l.length)→(q.map fun j=> l.getD j d).Perm l:=fun q hq=> by
  have:=hq.map (fun j=> l.getD j d)
  rwa [uc] at this
 refine ⟨List Nat×Option Nat×σ,fun x=> D x.1 x.2.1 x.2.2,fun x=> ∃ q : List Nat,(q ++ x.1).Perm (List.range l.length)∧cw step (q.map fun j=> l.getD j d) s0= .inr x.2.2,fun x=> x.1.length,(List.range l.length,none,s0),mkN ns st,js,⟨[],.refl _,rfl⟩,pl ns st st (.refl _) hok,hle,hsub,?_⟩
 rintro ⟨left,cur,s⟩ ⟨q,hq,hrun⟩
 simp only at hq hrun
 have hmem : ∀ j,j∈left→(q ++ j :: left.erase j).Perm (List.range l.length) :=fun j hj=> ((List.perm_cons_erase hj).symm.append_left q).trans hq
 have hp0 : ∀ j,j∈left→j < l.length∧p (l.getD j d) s:=fun j hj=> by
  refine ⟨List.mem_range.1 (hq.mem_iff.1 (List.mem_append_right _ hj)),?_⟩
  have:=hO _ (hfix _ (hmem j hj))
  rw [List.map_append] at this
  exact (zx hrun this).1
 obtain ⟨L,hl,hex⟩ :=h left cur s hp0
 refine ⟨L,_,hl,?_,hex⟩
 have hfin : ∀ e st' o,exC step l d exE outE st.h.length left s e st' o→∃ r js,(LCP st.h.length ns js D step p l s0 exE outE outN st).post r∧(LCP st.h.length ns js D step p l s0 exE outE outN st).ex r=e∧st.h.length≤((LCP st.h.length ns js D step p l s0 exE outE outN st).out r).h.length∧Sub js st.h.length st' ((LCP st.h.length ns js D step p l s0 exE outE outN st).out r) :=by
  intro e st' o z
  cases o with
  | none=> exact z.elim
  | some j=>
   obtain ⟨hj,z⟩ :=z
   cases hs : step (l.getD j d) s with
   | inr s'=> rw [hs] at z;exact z.elim
   | inl x=>
    rw [hs] at z
    obtain ⟨q2,js2,q3,q4⟩ :=z
    refine ⟨.inl x,js2,⟨_,hfix _ (hmem j hj),?_⟩,q2,q3,q4⟩
    rw [List.map_append,rG hrun]
    simp only [List.map_cons,cw,hs]
 intro e st' hz
 cases e with
 | normal=>
  change nxC step l d D st.h.length left s st' (pj (an st'.h it)) at hz
  cases ho : pj (an st'.h it) with
  | none=> rw [ho] at hz;exact hz.elim
  | some j=>
   rw [ho] at hz
   obtain ⟨hj,hz⟩ :=hz
   cases hs : step (l.getD j d) s with
   | inl x=> rw [hs] at hz;exact hz.elim
   | inr s'=>
    rw [hs] at hz
    obtain ⟨js2,q3,q4⟩ :=hz
    refine ⟨(left.erase j,some j,s'),js2,⟨q ++ [j],?_,?_⟩,?_,q3,q4⟩
    ·rw [List.append_assoc];exact hmem j hj
    ·rw [List.map_append,rG hrun]
     simp only [List.map_cons,List.map_nil,cw,hs]
    ·have:=List.length_pos_of_mem hj
     simp only [List.length_erase_of_mem hj];omega
 | exit j=>
  have hz' : (bif Nat.beq j id then (left=[]→fl (outN s) st.h.length st')∧(left≠[]→exC step l d exE outE st.h.length left s .normal st' (pj (an st'.h it))) else exC step l d exE outE st.h.length left s (.exit j) st' (pj (an st'.h it))) :=hz
  show bif Nat.beq j id then _ else _
  cases hb : Nat.beq j id with
  | true=>
   rw [hb] at hz'
   simp only [cond_true] at hz' ⊢
   by_cases hlt : left=[]
   ·obtain ⟨js2,q3,q4⟩ :=hz'.1 hlt
    refine ⟨.inr s,js2,⟨_,hfix q (by rw [hlt,List.append_nil] at hq;exact hq),hrun⟩,rfl,q3,q4⟩
   ·exact hfin _ _ _ (hz'.2 hlt)
  | false=>
   rw [hb] at hz'
   exact hfin _ _ _ hz'
 | ret=> exact hfin _ _ _ hz
 | pan x=> exact hfin _ _ _ hz
end
theorem fkY {st2 st : St} {n0 : Nat} (js : List Nat) (h1 : n0≤st2.h.length:=by (first | (show _≤_;decide) | (simp only [*,go_sem,Nat.reduceBEq,Nat.reduceLeDiff,Nat.reduceAdd,Nat.reduceSub,Nat.reduceMul,Int.reduceLE,Int.reduceLT,Int.reduceToNat,Int.reduceNeg,reduceCtorEq];done) | (simp only [*,go_sem,Nat.reduceBEq,Nat.reduceLeDiff,Nat.reduceAdd,Nat.reduceSub,Nat.reduceMul,Int.reduceLE,Int.reduceLT,Int.reduceToNat,Int.reduceNeg,reduceCtorEq];(repeat' (first | with_reducible refine And.intro ?_ ?_ | ((with_reducible show _≠_);first | assumption | omega | (simp_all [am,aC];done) | grind) | with_reducible intro _)) <;> (first | rfl | decide | assumption | omega | (simp_all [am,aC];done) | fail)))) (h2 : Sub js n0 st st2:=by (first | (show _≤_;decide) | (simp only [*,go_sem,Nat.reduceBEq,Nat.reduceLeDiff,Nat.reduceAdd,Nat.reduceSub,Nat.reduceMul,Int.reduceLE,Int.reduceLT,Int.reduceToNat,Int.reduceNeg,reduceCtorEq];done) | (simp only [*,go_sem,Nat.reduceBEq,Nat.reduceLeDiff,Nat.reduceAdd,Nat.reduceSub,Nat.reduceMul,Int.reduceLE,Int.reduceLT,Int.reduceToNat,Int.reduceNeg,reduceCtorEq];(repeat' (first | with_reducible refine And.intro ?_ ?_ | ((with_reducible show _≠_);first | assumption | omega | (simp_all [am,aC];done) | grind) | with_reducible intro _)) <;> (first | rfl | decide | assumption | omega | (simp_all [am,aC];done) | fail)))) : fl st2 n0 st:=xz js h1 h2
theorem clP {p : Prop} (h : p:=by ((repeat' (first | with_reducible refine And.intro ?_ ?_ | ((with_reducible show _≠_);first | assumption | omega | (simp_all [am,aC];done) | grind) | with_reducible intro _)) <;> (first | done | exact Empty.elim ‹Empty› | assumption | rfl | omega | (simp_all only [am,aC];done) | (simp_all only [am,aC];grind)))) : p:=h
end Go.Sx
end
section
namespace Go.Sx
open Go.Proofs
def uv (x : Int×Int) : List SV:=[.v (.int .i64 x.1),.v (.int .i64 x.2)]
def oK (H : Nat) : Nat→List (Int×Int)
 | 0=> []
 | r + 1=> ((List.range H).map fun h : Nat=> ((r : Int),(h : Int))) ++ oK H r
def bu (d : District) : List (Int×Int) :=oK d.hours.toNat d.reaches.length
theorem Od {j : Nat} (hj : j≤bC) : IntKind.i64.wrap ((j : Int) - 1)=(j : Int) - 1:=by unfold bC at hj;exact bN (by omega) (by omega)
theorem uw {p : Pk} {f : FuncId} {a b : List SV} : pi [p] (.fn f a b)=o7 p (.fn f a b) :=(rfl)
theorem ux {f : FuncId} {a b : List SV} : o7 .o (.fn f a b)= .fn f a b:=(rfl)
@[go_sem] def d6 : List SV→Option Con:=pD .district fun d=> pE (.det True (.fn 129 [] [.ep (cellsOf .district d) 0]))
theorem qy : FnOk Tryz.prog 95 d6:=by
 have hG : ConsOk Tryz.prog (mkG [] []) :=aN cg0 cg0
 refine a_ [.o] mixed aD hG (fn:=Tryz.f95) (c:=ag Tryz.f95) (by kernel_rfl) (by kernel_rfl) (by kernel_rfl) (by kernel_rfl) (bL fun l=> aV fun hp=> ?_)
 refine ⟨Nat.le_of_ble_eq_true rfl,L0,av _,?_⟩
 unfold ag Tryz.f95
 simp only [go_sem,uw,ux,Nat.reduceBEq,Nat.reduceLeDiff,Nat.reduceAdd,Nat.reduceSub,Nat.reduceMul]
theorem Nc {α : Type} {l m : List α} {x : α} {k : Nat} (h : l.drop k=x :: m) : l[k]? =some x∧k + 1≤l.length∧l.drop (k + 1)=m:=by
 have h0 : (l.drop k)[0]? =l[k]? :=by rw [List.getElem?_drop];rfl
 rw [h] at h0
 refine ⟨h0.symm,?_,by rw [←List.drop_drop,h];rfl⟩
 have:=(List.getElem?_eq_some_iff.1 h0.symm).1
 omega
def sN (r H h : Nat) : List (Int×Int) :=((List.range' h (H - h)).map fun h : Nat=> ((r : Int),(h : Int)))
theorem jX {r H h : Nat} (hh : h < H) : sN r H h=((r : Int),(h : Int)) :: sN r H (h + 1) :=by
 unfold sN
 rw [show H - h=(H - (h + 1)) + 1 by omega,List.range'_succ]
 rfl
theorem qz {r H : Nat} : sN r H H=[] :=by simp [sN]
theorem nS {H r : Nat} : oK H (r + 1)=sN r H 0 ++ oK H r:=by
 unfold sN
 rw [oK,List.range_eq_range']
 rfl
open Classical in
set_option maxHeartbeats 1000000 in
theorem ER (d : District) (hH : d.hours < 9223372036854775808) : xx Tryz.prog 129 (fun y=> [y,.ep (cellsOf .district d) 0]) [] ((bu d).map uv) :=by
 unfold bu
 generalize hI : (oK d.hours.toNat d.reaches.length).map uv=items
 refine B4 (fun r hr hy=> ?_) (fun args w=> by kernel_rfl)
 have hG : ConsOk Tryz.prog (ub [] [] (itY items r)) :=qk (by simp) (by simp) hy
 refine ⟨fun l h=> if l=[.os 0,.ep (cellsOf .district d) 0]∧h=[.ab (r 1)] then some { α:=Nat,pre:=True,post:=fun j=> j=0∨j=items.length + 1,res:=fun j=> .ret (.tup []) [.ab (r j)]} else none,
  ?_,_,if_pos ⟨rfl,rfl⟩,trivial,fun j hj=> ⟨_,j,_,rfl,hj⟩⟩
 refine qj mixed aD hG (fn:=Tryz.f129) (c:=ag Tryz.f129) (by kernel_rfl) (by kernel_rfl) (by kernel_rfl) (by kernel_rfl) fun l o con h hp=> ?_
 split at h
 rotate_left
 ·cases h
 rename_i hlo
 obtain ⟨rfl,rfl⟩ :=hlo
 cases h
 refine ⟨Nat.le_of_ble_eq_true rfl,fun id st=> bif Nat.beq id 0 then some { α:=Bool,pre:=lk 0 st.t= .os 0∧lk 1 st.t= .ep (cellsOf .district d) 0∧lk 3 st.t= .v (.int .i64 ((d.reaches.length : Int) - 1))∧st.h=[.ab (r 1)]∧d.reaches.length≤bC,post:=fun _=> True,ex:=fun b=> bif b then .normal else .ret,out:=fun b=> ⟨[],[.ab (r (bif b then items.length + 1 else 0))]⟩ : LCon} else none,?_,?_⟩
 ·unfold ag Tryz.f129
  simp only [aw,true_and,and_true]
  refine lE mixed aD hG (by kernel_rfl) fun st lc hC hp=> ?_
  simp only [go_sem,Nat.reduceBEq,Option.some.injEq] at hC
  subst hC
  obtain ⟨t,h⟩ :=st
  dsimp only at hp
  obtain ⟨h0,h1,h2,rfl,hm⟩ :=hp
  refine ⟨Nat×Nat,fun x=> ⟨[(0,.os 0),(1,.ep (cellsOf .district d) 0),(3,.v (.int .i64 ((x.2 : Int) - 1)))],[.ab (r (x.1 + 1))]⟩,fun x=> x.2≤d.reaches.length∧items.drop x.1=(oK d.hours.toNat x.2).map uv∧x.1≤items.length,fun x=> x.2,(0,d.reaches.length),[0],⟨Nat.le_refl _,hI.symm,Nat.zero_le _⟩,Nat.le_refl _,?_,?_⟩
  ·simp only [go_sem,h0,h1,h2,Nat.reduceBEq,Nat.reduceLeDiff,Nat.reduceAdd,true_and,and_true]
   all_goals (first | done | decide | (repeat' (first | refine And.intro ?_ ?_ | rfl | decide)))
  ·rintro ⟨k,j⟩ ⟨hj,hdrop,hk⟩
   simp only at hj hdrop hk
   cases j with
   | zero=>
    refine ⟨L0,_,av _,fun _ _ q=> q,?_⟩
    simp only [go_sem,t8 hr,true_imp_iff,decide_eq_true_eq,Bool.false_eq_true,false_imp_iff,Nat.reduceBEq,Nat.reduceLeDiff,Nat.reduceAdd,Nat.reduceSub,Nat.reduceMul,true_and,and_true,implies_true]
    refine ⟨fun hn=> absurd hn (by decide),fun hn=> ?_⟩
    have hlen : (oK d.hours.toNat 0).length=items.length - k:=by rw [←List.length_drop,hdrop,List.length_map]
    have : (oK d.hours.toNat 0).length=0:=rfl
    refine ⟨true,[0],?_⟩
    have e : items.length + 1=k + 1:=by omega
    simp only [go_sem,e,Nat.reduceBEq,Nat.reduceLeDiff,Nat.reduceAdd,true_and,and_true]
    all_goals (first | done | decide | (repeat' (first | refine And.intro ?_ ?_ | rfl | decide)))
   | succ j=>
    have ej : ((j + 1 : Nat) : Int) - 1=(j : Int) :=by omega
    have hw : IntKind.i64.wrap ((j : Int) - 1)=(j : Int) - 1:=Od (by omega)
    simp only [ej]
    refine ⟨fun id st=> bif Nat.beq id 2 then some { α:=Nat×Bool,pre:=lk 0 st.t= .os 0∧lk 1 st.t= .ep (cellsOf .district d) 0∧lk 3 st.t= .v (.int .i64 (j : Int))∧lk 14 st.t= .v (.int .i64 d.hours)∧lk 15 st.t= .v (.int .i64 0)∧st.h=[.ab (r (k + 1))],post:=fun x=> x.2=true→items.drop x.1=(oK d.hours.toNat j).map uv∧x.1≤items.length,ex:=fun b=> bif b.2 then .normal else .ret,out:=fun b=> ⟨[(0,.os 0),(1,.ep (cellsOf .district d) 0),(3,.v (.int .i64 (j : Int)))],[.ab (r (bif b.2 then b.1 + 1 else 0))]⟩ : LCon} else none,_,?_,fun _ _ q=> q,?_⟩
    ·simp only [aw,true_and,and_true]
     refine lE mixed aD hG (by kernel_rfl) fun st lc hC hp=> ?_
     simp only [go_sem,Nat.reduceBEq,Option.some.injEq] at hC
     subst hC
     obtain ⟨t,h⟩ :=st
     dsimp only at hp
     obtain ⟨i0,i1,i3,i14,i15,rfl⟩ :=hp
     refine ⟨Nat×Nat,fun x=> ⟨[(0,.os 0),(1,.ep (cellsOf .district d) 0),(3,.v (.int .i64 (j : Int))),(14,.v (.int .i64 d.hours)),(15,.v (.int .i64 (x.2 : Int)))],[.ab (r (x.1 + 1))]⟩,fun x=> x.2≤d.hours.toNat∧items.drop x.1=(sN j d.hours.toNat x.2 ++ oK d.hours.toNat j).map uv∧x.1≤items.length,fun x=> d.hours.toNat - x.2,(k,0),[0],⟨Nat.zero_le _,by rw [hdrop,nS],hk⟩,Nat.le_refl _,?_,?_⟩
     ·simp only [go_sem,i0,i1,i3,i14,i15,Nat.reduceBEq,Nat.reduceLeDiff,Nat.reduceAdd,true_and,and_true]
      all_goals (first | done | decide | (repeat' (first | refine And.intro ?_ ?_ | rfl | decide)))
     ·rintro ⟨k,g⟩ ⟨hg,hdr,hk⟩
      simp only at hg hdr hk
      refine ⟨L0,_,av _,fun _ _ q=> q,?_⟩
      simp only [go_sem,t8 hr,true_imp_iff,decide_eq_true_eq,Bool.false_eq_true,false_imp_iff,Nat.reduceBEq,Nat.reduceLeDiff,Nat.reduceAdd,Nat.reduceSub,Nat.reduceMul,true_and,and_true,implies_true]
      refine ⟨fun hlt=> ?_,fun hge=> ?_⟩
      ·have hlt' : g < d.hours.toNat:=by omega
       rw [jX hlt',List.cons_append,List.map_cons] at hdr
       obtain ⟨q1,q2,q3⟩ :=Nc hdr
       have hw2 : IntKind.i64.wrap ((g : Int) + 1)=((g + 1 : Nat) : Int) :=y_ hlt' hH
       refine ⟨q1,⟨(k + 1,g + 1),[0],⟨hlt',q3,q2⟩,by simp only;omega,?_⟩,⟨(0,false),[0],(fun h=> nomatch h),rfl,?_⟩,(fun h=> nomatch h)⟩
       all_goals simp only [go_sem,hw2,Nat.reduceBEq,Nat.reduceLeDiff,Nat.reduceAdd,true_and,and_true]
       all_goals (first | done | decide | (repeat' (first | refine And.intro ?_ ?_ | rfl | decide)))
      ·have hge' : g=d.hours.toNat:=by
        have : ¬ (g : Int) < d.hours:=by simpa using hge
        omega
       subst hge'
       rw [qz,List.nil_append] at hdr
       refine ⟨(k,true),[0],fun _=> ⟨hdr,hk⟩,rfl,?_⟩
       all_goals simp only [go_sem,Nat.reduceBEq,Nat.reduceLeDiff,Nat.reduceAdd,true_and,and_true]
       all_goals (first | done | decide | (repeat' (first | refine And.intro ?_ ?_ | rfl | decide)))
    ·simp only [go_sem,true_imp_iff,decide_eq_true_eq,Bool.false_eq_true,false_imp_iff,Nat.reduceBEq,Nat.reduceLeDiff,Nat.reduceAdd,Nat.reduceSub,Nat.reduceMul,true_and,and_true,implies_true]
     refine ⟨fun _ b hb=> ?_,fun hn=> absurd (Int.natCast_nonneg j) (by simpa using hn)⟩
     obtain ⟨k',b⟩ :=b
     cases b with
     | true=>
      obtain ⟨q1,q2⟩ :=hb rfl
      simp only [go_sem,hw,Nat.reduceBEq,Nat.reduceLeDiff,Nat.reduceAdd,true_and,and_true]
      refine ⟨(k',j),[0],⟨by simp only;omega,q1,q2⟩,Nat.lt_succ_self _,?_⟩
      all_goals simp only [go_sem,hw,Nat.reduceBEq,Nat.reduceLeDiff,Nat.reduceAdd,true_and,and_true]
      all_goals (first | done | decide | (repeat' (first | refine And.intro ?_ ?_ | rfl | decide)))
     | false=>
      simp only [go_sem,Nat.reduceBEq,Nat.reduceLeDiff,Nat.reduceAdd,true_and,and_true]
      refine ⟨false,[0],rfl,?_⟩
      all_goals simp only [go_sem,hw,Nat.reduceBEq,Nat.reduceLeDiff,Nat.reduceAdd,true_and,and_true]
      all_goals (first | done | decide | (repeat' (first | refine And.intro ?_ ?_ | rfl | decide)))
 ·unfold ag Tryz.f129
  simp only [go_sem,true_imp_iff,decide_eq_true_eq,Nat.reduceBEq,Nat.reduceLeDiff,Nat.reduceAdd,Nat.reduceSub,Nat.reduceMul,true_and,and_true,implies_true]
  intro hm
  rw [Od hm]
  refine ⟨⟨rfl,hm⟩,fun b=> ?_⟩
  cases b
  ·simp only [go_sem]
   exact ⟨0,_,_,[0],.inl rfl,rfl,Nat.le_refl 1,by simp only [go_sem,Nat.reduceBEq,Nat.reduceLeDiff,Nat.reduceAdd,true_and,and_true];first | done | decide⟩
  ·simp only [go_sem]
   exact ⟨items.length + 1,_,_,[0],.inr rfl,rfl,Nat.le_refl 1,by simp only [go_sem,Nat.reduceBEq,Nat.reduceLeDiff,Nat.reduceAdd,true_and,and_true];first | done | decide⟩
end Go.Sx
end
section
namespace Go.Sx
open Go.Proofs
set_option maxRecDepth 100000
set_option linter.unusedSimpArgs false
theorem zy {p : Prop} (h : p:=by (first | done | (repeat' (first | with_reducible refine And.intro ?_ ?_ | ((with_reducible show _≠_);first | assumption | omega | (simp_all [am,aC];done) | grind) | with_reducible intro _)) <;> (first | done | exact Empty.elim ‹Empty› | assumption | rfl | omega | decide | exact fk [0,1,2,3,4,5] | (simp only [*,cond_true,cond_false,Bool.not_true,Bool.not_false,go_sem,Nat.reduceBEq,Nat.reduceLeDiff,Nat.reduceLT,decide_true,Nat.reduceAdd,Nat.reduceSub,Nat.reduceMul,Int.reduceLE,Int.reduceLT,Int.reduceToNat,Int.reduceNeg,reduceCtorEq];done) | (simp only [*,cond_true,cond_false,Bool.not_true,Bool.not_false,go_sem,Nat.reduceBEq,Nat.reduceLeDiff,Nat.reduceLT,decide_true,Nat.reduceAdd,Nat.reduceSub,Nat.reduceMul,Int.reduceLE,Int.reduceLT,Int.reduceToNat,Int.reduceNeg,reduceCtorEq];(repeat' (first | with_reducible refine And.intro ?_ ?_ | ((with_reducible show _≠_);first | assumption | omega | (simp_all [am,aC];done) | grind) | with_reducible intro _)) <;> (first | done | assumption | rfl | omega | decide | exact fk [0,1,2,3,4,5] | (simp_all [am,aC];done))) | (simp_all [okI,am,aC];done) | (simp_all [am,aC];(first | done | exact fk2 [0,1,2,3,4,5])) | exact fk2 [0,1,2,3,4,5]))) : p:=h
theorem uy {p : Prop} (h : p:=by (first | done | (repeat' (first | with_reducible refine And.intro ?_ ?_ | ((with_reducible show _≠_);first | assumption | omega | (simp_all [am,aC];done) | grind) | with_reducible intro _)) <;> (first | done | exact Empty.elim ‹Empty› | assumption | rfl | omega | decide | exact fk [0,1,2,3,4,5,6,7] | exact fk [0,1,2,3,4,5,6,10] | (simp only [*,cond_true,cond_false,Bool.not_true,Bool.not_false,go_sem,Nat.reduceBEq,Nat.reduceLeDiff,Nat.reduceLT,decide_true,Nat.reduceAdd,Nat.reduceSub,Nat.reduceMul,Int.reduceLE,Int.reduceLT,Int.reduceToNat,Int.reduceNeg,reduceCtorEq];done) | (simp only [*,cond_true,cond_false,Bool.not_true,Bool.not_false,go_sem,Nat.reduceBEq,Nat.reduceLeDiff,Nat.reduceLT,decide_true,Nat.reduceAdd,Nat.reduceSub,Nat.reduceMul,Int.reduceLE,Int.reduceLT,Int.reduceToNat,Int.reduceNeg,reduceCtorEq];(repeat' (first | with_reducible refine And.intro ?_ ?_ | ((with_reducible show _≠_);first | assumption | omega | (simp_all [am,aC];done) | grind) | with_reducible intro _)) <;> (first | done | assumption | rfl | omega | decide | exact fk [0,1,2,3,4,5,6,7] | exact fk [0,1,2,3,4,5,6,10] | (simp_all [am,aC];done))) | (simp_all [okI,am,aC];done) | (simp_all [am,aC];(first | done | exact fk2 [0,1,2,3,4,5,6,7] | exact fk2 [0,1,2,3,4,5,6,10])) | exact fk2 [0,1,2,3,4,5,6,7] | exact fk2 [0,1,2,3,4,5,6,10]))) : p:=h
theorem Io {p : Prop} (h : p:=by simp only [go_sem,Nat.reduceBEq,Nat.reduceLeDiff,Nat.reduceLT,decide_true,Nat.reduceAdd,Nat.reduceSub,Nat.reduceMul,Int.reduceLE,Int.reduceLT,Int.reduceToNat,Int.reduceNeg,reduceCtorEq,hc,hw];all_goals exact zy) : p:=h
theorem Ip {p : Prop} (h : p:=by simp only [go_sem,Nat.reduceBEq,Nat.reduceLeDiff,Nat.reduceLT,decide_true,Nat.reduceAdd,Nat.reduceSub,Nat.reduceMul,Int.reduceLE,Int.reduceLT,Int.reduceToNat,Int.reduceNeg,reduceCtorEq,hc];all_goals exact zy) : p:=h
@[go_sem] def a6 (a0 : District) (a1 : List Order) (k_0 : Nat) (s_0 : List ((Int×Int)×Int)) : Unit⊕(List ((Int×Int)×Int)) :=(bif (!(a1.getD k_0 (default : Order)).outlet) then .inl () else .inr (c7 .int2 .int s_0 ((a0.farms.getD (Int.toNat ((a1.getD k_0 (default : Order)).index)) (default : Farm)).reach,(a1.getD k_0 (default : Order)).hour) (IntKind.i64.wrap ((aB .int2 .int s_0 ((a0.farms.getD (Int.toNat ((a1.getD k_0 (default : Order)).index)) (default : Farm)).reach,(a1.getD k_0 (default : Order)).hour)) + (a1.getD k_0 (default : Order)).litres))))
def eE (a0 : District) (a1 : List Order) (k_0 : Nat) (s_0 : List ((Int×Int)×Int)) : Prop:=((!(a1.getD k_0 (default : Order)).outlet)=false→(0≤(a1.getD k_0 (default : Order)).index∧(a1.getD k_0 (default : Order)).index < (a0.farms.length : Int)))
@[go_sem] def aF (a0 : District) (z_1 : Int×Int) (s_1 : List Order×List ((Int×Int)×Int)) : (List ((Int×Int)×Int))⊕(List Order×List ((Int×Int)×Int)) :=(bif ((aB .int2 .int s_1.2 (z_1.1,z_1.2)) ==0) then .inr (s_1.1,s_1.2) else (bif ((!(az (a0.reaches.getD (Int.toNat z_1.1) (default : Reach)) (aB .int2 .int s_1.2 (z_1.1,z_1.2))).2) || (decide (z_1.2 < (a0.reaches.getD (Int.toNat z_1.1) (default : Reach)).delay))) then .inl s_1.2 else .inr ((s_1.1 ++ ([({ hour:=(IntKind.i64.wrap (z_1.2 - (a0.reaches.getD (Int.toNat z_1.1) (default : Reach)).delay)),index:=z_1.1,litres:=(az (a0.reaches.getD (Int.toNat z_1.1) (default : Reach)) (aB .int2 .int s_1.2 (z_1.1,z_1.2))).1,outlet:=false} : Order)])),(c7 .int2 .int s_1.2 ((a0.reaches.getD (Int.toNat z_1.1) (default : Reach)).up,(IntKind.i64.wrap (z_1.2 - (a0.reaches.getD (Int.toNat z_1.1) (default : Reach)).delay))) (IntKind.i64.wrap ((aB .int2 .int s_1.2 ((a0.reaches.getD (Int.toNat z_1.1) (default : Reach)).up,(IntKind.i64.wrap (z_1.2 - (a0.reaches.getD (Int.toNat z_1.1) (default : Reach)).delay)))) + (az (a0.reaches.getD (Int.toNat z_1.1) (default : Reach)) (aB .int2 .int s_1.2 (z_1.1,z_1.2))).1))))))
def dR (a0 : District) (z_1 : Int×Int) (s_1 : List Order×List ((Int×Int)×Int)) : Prop:=(((aB .int2 .int s_1.2 (z_1.1,z_1.2)) ==0)=false→((0≤z_1.1∧z_1.1 < (a0.reaches.length : Int))∧((ga (a0.reaches.getD (Int.toNat z_1.1) (default : Reach)) (aB .int2 .int s_1.2 (z_1.1,z_1.2)))∧(((!(az (a0.reaches.getD (Int.toNat z_1.1) (default : Reach)) (aB .int2 .int s_1.2 (z_1.1,z_1.2))).2) || (decide (z_1.2 < (a0.reaches.getD (Int.toNat z_1.1) (default : Reach)).delay)))=false→((s_1.1 ++ ([({ hour:=(IntKind.i64.wrap (z_1.2 - (a0.reaches.getD (Int.toNat z_1.1) (default : Reach)).delay)),index:=z_1.1,litres:=(az (a0.reaches.getD (Int.toNat z_1.1) (default : Reach)) (aB .int2 .int s_1.2 (z_1.1,z_1.2))).1,outlet:=false} : Order)])).length * 32≤ja)))))
def aI (a0 : District) (a1 : List Order) : List Order×Bool×Int:=(bif ((bB a0 a1) !=0) then ([],false,(bB a0 a1)) else (match ak (a6 a0 a1) a1.length 0 ([]) with | .inl x_0_0=> ([],false,220) | .inr s_0=> (match cw (aF a0) (bu a0) (a1,s_0) with | .inl x_1_0=> ([],false,0) | .inr s_1=> (bif (decide ((s_1.1.length : Int) > 4096)) then ([],false,2) else ((srt ay s_1.1),true,0)))))
def iu (a0 : District) (a1 : List Order) : Prop:=((gb a0 a1)∧(((bB a0 a1) !=0)=false→(a1.length≤bC→(okI (a6 a0 a1) (eE a0 a1) a1.length 0 ([])∧(∀ s_0,ak (a6 a0 a1) a1.length 0 ([])= .inr s_0→((a1.length * 32≤ja)∧((a0.hours < 9223372036854775808)∧okL (aF a0) (dR a0) (bu a0) (a1,s_0)∧(∀ s_1,cw (aF a0) (bu a0) (a1,s_0)= .inr s_1→(s_1.1.length≤bC→((decide ((s_1.1.length : Int) > 4096))=false→(apart ay s_1.1)))))))))))
@[go_sem] def nT : List SV→Option Con:=(pD .district fun a0=> (pR .order fun a1=> (pE (.det (iu a0 a1) (.tup [.rs .order ((aI a0 a1).1),.v (.bool ((aI a0 a1).2.1)),.v (.int .i64 ((aI a0 a1).2.2))])))))
set_option maxHeartbeats 4000000 in
theorem sO : FnOk Tryz.prog 54 nT:=by
 have hG : ConsOk Tryz.prog (mkG [(44,b9),(93,fun l=> lP (dw [.st .district,.sl .order] l)),(94,fun l=> nR (dw [.sl .order] l)),(95,fun l=> d6 (dw [.st .district] l)),(96,lN)] [(97,gO)]) :=aN (cgc kh (cgc (qu.norm [.st .district,.sl .order]) (cgc (sM.norm [.sl .order]) (cgc (qy.norm [.st .district]) (cgc qt cg0))))) (cgc sf cg0)
 refine a_ [.sl .order,.o,.o] mixed aD hG (fn:=Tryz.f54) (c:=ag Tryz.f54) (by kernel_rfl) (by kernel_rfl) (by kernel_rfl) (by kernel_rfl) (bL fun a0=> (df fun a1=> (aV (fun hp=> ?_))))
 dsimp only [aZ] at hp
 unfold iu at hp
 refine ⟨Nat.le_of_ble_eq_true rfl,(fun id st=> bif Nat.beq id 0 then some (LCR (ρ:=Unit) (σ:=(List ((Int×Int)×Int))) 6 [] [0,1,2,3,4,5] (fun k_0 s_0=> ⟨[(1,.rs .order a1),(2,.ptr 0 0),(4,.ptr 1 0),(5,.ptr 2 0),(6,.ptr 3 0),(7,.ptr 5 0),(23,.rs .order a1),(24,.v (.int .i64 (a1.length : Int))),(25,.v (.int .i64 (k_0 : Int)))],[.cells (cellsOf .district a0),.cells [.v (.slice none 0 0)],.cells [.v (.bool false)],.cells [.v (.int .i64 (bB a0 a1))],.mp .int2 .int s_0 none,.cells [.os 4]]⟩) (a6 a0 a1) (eE a0 a1) a1.length ([]) (a1.length≤bC) (fun _=> .ret) (fun x_0_0=> ⟨[(4,.ptr 1 0),(5,.ptr 2 0),(6,.ptr 3 0)],[.dead,.cells [.v (.slice none 0 0)],.cells [.v (.bool false)],.cells [.v (.int .i64 220)],.dead,.dead]⟩) st) else bif Nat.beq id 2 then some (LC (ρ:=List ((Int×Int)×Int)) (σ:=List Order×List ((Int×Int)×Int)) (lk 2 st.t= .ptr 0 0∧lk 4 st.t= .ptr 1 0∧lk 5 st.t= .ptr 2 0∧lk 6 st.t= .ptr 3 0∧lk 7 st.t= .ptr 5 0∧lk 53 st.t= .fn 129 [] [.ep (cellsOf .district a0) 0]∧st.h=[.cells (cellsOf .district a0),.cells [.os 6],.cells [.v (.bool false)],.cells [.v (.int .i64 (bB a0 a1))],.mp .int2 .int (am (ak (a6 a0 a1) a1.length 0 ([]))) none,.cells [.os 4],.row .order a1]∧a0.hours < 9223372036854775808∧okL (aF a0) (dR a0) (bu a0) (a1,(am (ak (a6 a0 a1) a1.length 0 ([]))))) (cw (aF a0) (bu a0) (a1,(am (ak (a6 a0 a1) a1.length 0 ([]))))) (fun _=> .ret) (fun x_1_0=> ⟨[(2,.ptr 0 0),(4,.ptr 1 0),(5,.ptr 2 0),(6,.ptr 3 0),(7,.ptr 5 0)],[.cells (cellsOf .district a0),.cells [.v (.slice none 0 0)],.cells [.v (.bool false)],.cells [.v (.int .i64 0)],.mp .int2 .int x_1_0 none,.cells [.os 4],.dead,.dead]⟩) (fun s_1=> ⟨[(2,.ptr 0 0),(4,.ptr 1 0),(5,.ptr 2 0),(6,.ptr 3 0),(7,.ptr 5 0)],[.cells (cellsOf .district a0),.cells [.os 7],.cells [.v (.bool false)],.cells [.v (.int .i64 (bB a0 a1))],.mp .int2 .int s_1.2 none,.cells [.os 4],.dead,.row .order s_1.1]⟩)) else none),?_,?_⟩
 ·unfold ag Tryz.f54
  simp only [aw,true_and,and_true]
  refine ⟨?_,?_⟩
  ·refine bY mixed aD hG (by kernel_rfl) (fun _=> rfl) (a1.length : Int) rfl jm (fun hb0 k_0 s_0 hlt0 hq0 hw hc=> ⟨L0,av _,?_⟩) (fun hb0 s_0 hc=> ?_)
   ·unfold eE at hq0
    try simp only [hw,Int.toNat_natCast] at hq0
    exact Io
   ·exact Ip
  ·refine lI mixed aD hG (by decide) (by decide) (by kernel_rfl) (by kernel_rfl) fun st lc hC hp=> ?_
   simp only [go_sem,Nat.reduceBEq,Option.some.injEq] at hC
   subst hC
   obtain ⟨t,h⟩ :=st
   dsimp only [LC] at hp
   obtain ⟨e1_0,e1_1,e1_2,e1_3,e1_4,e1_5,rfl,hb1,hok1⟩ :=hp
   refine ⟨129,[.ep (cellsOf .district a0) 0],Int×Int,_,_,(bu a0),uv,(aF a0),(dR a0),_,(a1,(am (ak (a6 a0 a1) a1.length 0 ([])))),_,_,_,[(2,.ptr 0 0),(4,.ptr 1 0),(5,.ptr 2 0),(6,.ptr 3 0),(7,.ptr 5 0)],(fun s_1=> [.cells (cellsOf .district a0),.cells [.os 7],.cells [.v (.bool false)],.cells [.v (.int .i64 (bB a0 a1))],.mp .int2 .int s_1.2 none,.cells [.os 4],.dead,.row .order s_1.1]),(fun x_1_0=> [.cells (cellsOf .district a0),.cells [.v (.slice none 0 0)],.cells [.v (.bool false)],.cells [.v (.int .i64 0)],.mp .int2 .int x_1_0 none,.cells [.os 4],.dead,.dead]),[0,1,2,3,4,5,6,6],?_,rfl,hok1,Nat.le_of_ble_eq_true rfl,?_,ER a0 hb1,fun z_1 s_1 hq1=> ⟨rfl,L0,fun l=> ?_,fun l=> ?_,?_⟩,fun s_1=> ?_,fun y=> ?_⟩
   ·simp only [go_sem,e1_0,e1_1,e1_2,e1_3,e1_4,e1_5]
   ·simp only [go_sem,Nat.reduceBEq,Nat.reduceLeDiff,Nat.reduceLT,decide_true,Nat.reduceAdd,Nat.reduceSub,Nat.reduceMul,Int.reduceLE,Int.reduceLT,Int.reduceToNat,Int.reduceNeg,reduceCtorEq,mD,ia,List.flatMap_cons,List.flatMap_nil,List.nil_append,List.append_nil,List.map_nil,e1_0,e1_1,e1_2,e1_3,e1_4,e1_5]
    all_goals (first | done | decide | (repeat' (first | refine And.intro ?_ ?_ | rfl | decide)))
   ·simp only [aw,and_self,true_and,and_true]
   ·simp only [aw,and_self,true_and,and_true]
   ·unfold dR at hq1
    simp only [go_sem,Nat.reduceBEq,Nat.reduceLeDiff,Nat.reduceLT,decide_true,Nat.reduceAdd,Nat.reduceSub,Nat.reduceMul,Int.reduceLE,Int.reduceLT,Int.reduceToNat,Int.reduceNeg,reduceCtorEq,b9,d6,aF,psT,uv,List.cons_append,List.nil_append]
    all_goals exact uy
   ·simp only [go_sem,Nat.reduceBEq,Nat.reduceLeDiff,Nat.reduceLT,decide_true,Nat.reduceAdd,Nat.reduceSub,Nat.reduceMul,Int.reduceLE,Int.reduceLT,Int.reduceToNat,Int.reduceNeg,reduceCtorEq,b9,d6]
    all_goals exact uy
   ·simp only [go_sem,Nat.reduceBEq,Nat.reduceLeDiff,Nat.reduceLT,decide_true,Nat.reduceAdd,Nat.reduceSub,Nat.reduceMul,Int.reduceLE,Int.reduceLT,Int.reduceToNat,Int.reduceNeg,reduceCtorEq,b9,d6]
    all_goals exact uy
 ·unfold ag Tryz.f54
  try unfold aI
  simp only [go_sem,Nat.reduceBEq,Nat.reduceLeDiff,Nat.reduceLT,decide_true,Nat.reduceAdd,Nat.reduceSub,Nat.reduceMul,Int.reduceLE,Int.reduceLT,Int.reduceToNat,Int.reduceNeg,reduceCtorEq,b9,d6]
  all_goals exact cl3
end Go.Sx
end
section
namespace Go.Sx
open Go.Proofs
def fF (d : District) (reach hour : Int) (x : Order) : Bool:=(x.hour==hour) && ((x.outlet && (d.farms.getD x.index.toNat default).reach==reach) || (!x.outlet && (d.reaches.getD x.index.toNat default).up==reach))
abbrev rch (d : District) (r : Int) : Reach:=d.reaches.getD r.toNat default
def drw (d : District) (l : List Order) (r h : Int) : Int:=a8 (fF d r h) l
theorem zz {ρ σ τ : Type} {step : τ→σ→ρ⊕σ} (J : List τ→σ→Prop) (hJ : ∀ x L s,J (x :: L) s→∀ s',step x s= .inr s'→J L s') : ∀ (L : List τ) (s : σ),J L s→(∀ s',cw step L s= .inr s'→J [] s')∧∀ y,cw step L s= .inl y→∃ x L' s',J (x :: L') s'∧step x s'= .inl y
 | [],s,h=> ⟨fun s' e=> by simp only [cw,Sum.inr.injEq] at e;subst e;exact h,fun y e=> by simp [cw] at e⟩
 | x :: L,s,h=> by
  cases hs : step x s with
  | inl y=>
   refine ⟨fun s' e=> ?_,fun y' e=> ?_⟩
   ·simp only [cw,hs] at e;cases e
   ·simp only [cw,hs,Sum.inl.injEq] at e;subst e;exact ⟨x,L,s,h,hs⟩
  | inr s1=>
   obtain ⟨h1,h2⟩ :=zz J hJ L s1 (hJ x L s h s1 hs)
   exact ⟨fun s' e=> h1 s' (by simpa only [cw,hs] using e),fun y e=> h2 y (by simpa only [cw,hs] using e)⟩
theorem DL {ρ σ τ : Type} {step : τ→σ→ρ⊕σ} {p : τ→σ→Prop} (J : List τ→σ→Prop) (hJ : ∀ x L s,J (x :: L) s→p x s∧∀ s',step x s= .inr s'→J L s') : ∀ (L : List τ) (s : σ),J L s→okL step p L s
 | [],_,_=> trivial
 | x :: L,s,h=> ⟨(hJ x L s h).1,fun s' e=> DL J hJ L s' ((hJ x L s h).2 s' e)⟩
def PR (r h : Nat) (a b : Int) : Prop:=(r : Int) < a∨a=r∧b < (h : Int)
abbrev Mp:=List ((Int×Int)×Int)
structure PG (d : District) (l : List Order) (x : Order) : Prop where
 out : x.outlet=false
 i0 : 0≤x.index
 i1 : x.index < (d.reaches.length : Int)
 h0 : 0≤x.hour
 h1 : x.hour + (rch d x.index).delay < d.hours
 w : 1≤drw d l x.index (x.hour + (rch d x.index).delay)
 v : az (rch d x.index) (drw d l x.index (x.hour + (rch d x.index).delay))=(x.litres,true)
structure PI (d : District) (out gs : List Order) (m : Mp) (r h : Nat) : Prop where
 draws : ∀ a b,aB .int2 .int m (a,b)=drw d (out ++ gs) a b
 gate : ∀ x∈gs,PG d (out ++ gs) x∧PR r h x.index (x.hour + (rch d x.index).delay)
 all : ∀ a b,0≤a→a < (d.reaches.length : Int)→0≤b→b < d.hours→PR r h a b→drw d (out ++ gs) a b≠0→∃ x∈gs,x.index=a∧x.hour + (rch d a).delay=b
 uniq : gs.Pairwise fun x y=> ¬ (x.index=y.index∧x.hour=y.hour)
 len : gs.length≤(d.reaches.length - 1 - r) * d.hours.toNat + h
theorem DM (d : District) (a b : List Order) (r h : Int) : drw d (a ++ b) r h=drw d a r h + drw d b r h:=um _ _ _
theorem DN (d : District) (x : Order) (r h : Int) : drw d [x] r h=bif fF d r h x then x.litres else 0:=by unfold drw;simp [a8]
theorem nU {d : District} (hr : Right1 d) {l : List Order} {x : Order} (h : PG d l x) : 1≤x.litres∧x.litres≤1073741824∧(rch d x.index).siphon≤x.litres∧drw d l x.index (x.hour + (rch d x.index).delay)≤wst (rch d x.index) x.litres∧∀ u,0≤u→u≤1073741824→(rch d x.index).siphon≤u→drw d l x.index (x.hour + (rch d x.index).delay)≤wst (rch d x.index) u→x.litres≤u:=by
 have hk : x.index.toNat < d.reaches.length:=by have:=h.i0;have:=h.i1;omega
 rcases rF (i:=(x.index.toNat : Int)) (by omega) (hr.reach _ hk) h.w with ⟨v,e,e1,e2,e3,e4,e5⟩ | ⟨e,_⟩
 ·have:=h.v
  rw [e] at this
  cases this
  exact ⟨e1,e2,e3,e4,e5⟩
 ·rw [h.v] at e;cases e
theorem PI.lit {d : District} {out gs : List Order} {m : Mp} {r h : Nat} (hr : Right1 d) (ho : Orders1 d out) (p : PI d out gs m r h) : ∀ x∈out ++ gs,1≤x.litres∧x.litres≤1073741824:=fun x hx=> by
 rcases List.mem_append.1 hx with hx | hx
 ·exact ho.lit x hx
 ·have:=nU hr (p.gate x hx).1;omega
theorem rH {d : District} {l : List Order} (h : ∀ x∈l,1≤x.litres∧x.litres≤1073741824) (a b : Int) : 0≤drw d l a b∧drw d l a b≤l.length * 1073741824:=un h
theorem PI.len2 {d : District} {out gs : List Order} {m : Mp} {r h : Nat} (hr : Right1 d) (ho : Orders1 d out) (p : PI d out gs m r h) (hh : h≤d.hours.toNat) : (out ++ gs).length≤266240 + 4096:=by
 have h1:=p.len
 have h2 : (d.reaches.length - 1 - r) * d.hours.toNat≤64 * 4096:=Nat.mul_le_mul (by have:=hr.reaches;omega) (by have:=hr.hours;omega)
 have:=ho.len
 have:=hr.hours
 rw [List.length_append];omega
theorem PI.row {d : District} {out gs : List Order} {m : Mp} {r : Nat} (p : PI d out gs m (r + 1) d.hours.toNat) (hr1 : r + 1 < d.reaches.length) (hh : 1≤d.hours) : PI d out gs m r 0:=by
 refine ⟨p.draws,fun x hx=> ⟨(p.gate x hx).1,?_⟩,fun a b a0 a1 b0 b1 hp=> p.all a b a0 a1 b0 b1 ?_,p.uniq,?_⟩
 ·have:=(p.gate x hx).2
  unfold PR at this ⊢;omega
 ·unfold PR at hp ⊢;omega
 ·have:=p.len
  rw [show d.reaches.length - 1 - r=(d.reaches.length - 1 - (r + 1)) + 1 by omega,Nat.succ_mul];omega
theorem PI.skip {d : District} {out gs : List Order} {m : Mp} {r h : Nat} (p : PI d out gs m r h) (h0 : drw d (out ++ gs) r h=0) : PI d out gs m r (h + 1) :=by
 refine ⟨p.draws,fun x hx=> ⟨(p.gate x hx).1,?_⟩,fun a b a0 a1 b0 b1 hp hne=> ?_,p.uniq,?_⟩
 ·have:=(p.gate x hx).2
  unfold PR at this ⊢;omega
 ·by_cases hq : PR r h a b
  ·exact p.all a b a0 a1 b0 b1 hq hne
  ·have : a=r∧b=h:=by unfold PR at hp hq;omega
   obtain ⟨rfl,rfl⟩ :=this
   exact absurd h0 hne
 ·have:=p.len;omega
theorem Iq {d : District} (hr : Right1 d) {r : Nat} (h : r < d.reaches.length) : (rch d r).up < r:=(hr.reach1 h).up
theorem rI {d : District} (hr : Right1 d) {r : Nat} (h : r < d.reaches.length) : 1≤(rch d r).delay∧(rch d r).delay≤16:=⟨(hr.reach1 h).delay1,(hr.reach1 h).delay⟩
theorem PI.add {d : District} {out gs : List Order} {m : Mp} {r h : Nat} (hr : Right1 d) (ho : Orders1 d out) (p : PI d out gs m r h) (hrl : r < d.reaches.length) (hhl : h < d.hours.toNat) (h1 : 1≤drw d (out ++ gs) r h) {v : Int} (hv : az (rch d r) (drw d (out ++ gs) r h)=(v,true)) (hd : (rch d r).delay≤h) (v0 : 1≤v) (v1 : v≤1073741824) :
  PI d out (gs ++ [{ hour:=(h : Int) - (rch d r).delay,index:=r,litres:=v,outlet:=false}]) (c7 .int2 .int m ((rch d r).up,(h : Int) - (rch d r).delay) (IntKind.i64.wrap (aB .int2 .int m ((rch d r).up,(h : Int) - (rch d r).delay) + v))) r (h + 1) :=by
 generalize hx : ({ hour:=(h : Int) - (rch d r).delay,index:=(r : Int),litres:=v,outlet:=false} : Order)=x
 have xo : x.outlet=false:=by rw [←hx]
 have xi : x.index=r:=by rw [←hx]
 have xh : x.hour=(h : Int) - (rch d r).delay:=by rw [←hx]
 have xl : x.litres=v:=by rw [←hx]
 have hup:=Iq hr hrl
 have hdl:=rI hr hrl
 have hone : ∀ a b,drw d (out ++ (gs ++ [x])) a b=drw d (out ++ gs) a b + (if a=(rch d r).up∧b=(h : Int) - (rch d r).delay then v else 0) :=fun a b=> by
  rw [←List.append_assoc,DM,DN]
  congr 1
  unfold fF
  rw [xo,xi,xh,xl]
  simp only [Bool.false_and,Bool.not_false,Bool.true_and,Bool.false_or,Int.toNat_natCast]
  by_cases e : a=(rch d r).up∧b=(h : Int) - (rch d r).delay
  ·obtain ⟨rfl,rfl⟩ :=e
   simp
  ·rw [if_neg e]
   have : ((h : Int) - (rch d r).delay==b && (d.reaches.getD r default).up==a)=false:=by
    rw [Bool.and_eq_false_iff,beq_eq_false_iff_ne,beq_eq_false_iff_ne]
    by_cases q : b=(h : Int) - (rch d r).delay
    ·right;intro e2;exact e ⟨e2.symm,q⟩
    ·left;exact fun e2=> q e2.symm
   rw [this];rfl
 have hsame : ∀ a b,(r : Int)≤a→drw d (out ++ (gs ++ [x])) a b=drw d (out ++ gs) a b:=fun a b ha=> by
  rw [hone,if_neg (fun e=> by omega)];omega
 have hb:=rH (d:=d) (p.lit hr ho)
 have hlen:=p.len2 hr ho (by omega)
 refine ⟨fun a b=> ?_,fun y hy=> ?_,fun a b a0 a1 b0 b1 hp hne=> ?_,?_,?_⟩
 ·rw [eD (k:= .int2),hone,p.draws,p.draws]
  have:=hb (rch d r).up ((h : Int) - (rch d r).delay)
  by_cases e : a=(rch d r).up∧b=(h : Int) - (rch d r).delay
  ·rw [if_pos e,if_pos (by rw [e.1,e.2]),e.1,e.2,bN (by omega) (by omega)]
  ·rw [if_neg e,if_neg (fun q=> e (by cases q;exact ⟨rfl,rfl⟩))];exact (Int.add_zero _).symm
 ·rcases List.mem_append.1 hy with hy | hy
  ·obtain ⟨g,gp⟩ :=p.gate y hy
   have hge : (r : Int)≤y.index:=by unfold PR at gp;omega
   refine ⟨⟨g.out,g.i0,g.i1,g.h0,g.h1,by rw [hsame _ _ hge];exact g.w,by rw [hsame _ _ hge];exact g.v⟩,?_⟩
   unfold PR at gp ⊢;omega
  ·rw [List.mem_singleton] at hy
   subst hy
   have eh : y.hour + (rch d y.index).delay=h:=by rw [xh,xi];omega
   refine ⟨⟨xo,by rw [xi];omega,by rw [xi];omega,by rw [xh];omega,by rw [eh];omega,?_,?_⟩,?_⟩
   ·rw [eh,xi,hsame _ _ (Int.le_refl _)];exact h1
   ·rw [eh,xi,hsame _ _ (Int.le_refl _),xl];exact hv
   ·rw [eh,xi];unfold PR;omega
 ·have hge : (r : Int)≤a:=by unfold PR at hp;omega
  rw [hsame _ _ hge] at hne
  by_cases hq : PR r h a b
  ·obtain ⟨y,hy,e⟩ :=p.all a b a0 a1 b0 b1 hq hne
   exact ⟨y,List.mem_append_left _ hy,e⟩
  ·have : a=r∧b=h:=by unfold PR at hp hq;omega
   obtain ⟨rfl,rfl⟩ :=this
   exact ⟨x,by simp,xi,by rw [xh];omega⟩
 ·rw [List.pairwise_append]
  refine ⟨p.uniq,List.pairwise_singleton _ _,fun y hy z hz=> ?_⟩
  rw [List.mem_singleton] at hz
  subst hz
  rintro ⟨e1,e2⟩
  have:=(p.gate y hy).2
  rw [e1,e2,xi,xh] at this
  unfold PR at this;omega
 ·have:=p.len
  rw [List.length_append];simp;omega
theorem rJ {d : District} {out : List Order} (hr : Right1 d) (ho : Orders1 d out) :
  (∀ m,ak (a6 d out) out.length 0 []= .inr m→(∀ x∈out,x.outlet=true)∧∀ a b,aB .int2 .int m (a,b)=drw d out a b)∧okI (a6 d out) (eE d out) out.length 0 []∧((∀ x∈out,x.outlet=true)→∃ m,ak (a6 d out) out.length 0 []= .inr m) :=by
 let J : Nat→Mp→Prop:=fun k m=> k≤out.length→(∀ x∈out.take k,x.outlet=true)∧∀ a b,aB .int2 .int m (a,b)=drw d (out.take k) a b
 have hJ0 : J 0 [] :=fun _=> ⟨by simp,fun a b=> by rw [List.take_zero];rfl⟩
 have hstep : ∀ j s,0≤j→j < 0 + out.length→J j s→eE d out j s∧∀ s',a6 d out j s= .inr s'→J (j + 1) s':=fun j s _ hj hJ=> by
  have hj : j < out.length:=by omega
  obtain ⟨h1,h2⟩ :=hJ (by omega)
  have hx:=ho.one j hj
  refine ⟨fun he=> ?_,fun s' hs _=> ?_⟩
  ·have : (out.getD j default).outlet=true:=by simpa using he
   have:=hx.farm this
   have:=hx.index0
   omega
  ·unfold a6 at hs
   cases hout : (out.getD j default).outlet with
   | false=> rw [hout] at hs;cases hs
   | true=>
    rw [hout] at hs
    simp only [Bool.not_true,cond_false,Sum.inr.injEq] at hs
    have hel:=b7 out default hj
    rw [List.take_succ_eq_append_getElem hj]
    refine ⟨fun x hx=> ?_,fun a b=> ?_⟩
    ·rcases List.mem_append.1 hx with h | h
     ·exact h1 x h
     ·rw [List.mem_singleton] at h;subst h;rw [←hel];exact hout
    ·subst hs
     rw [DM,DN,eD (k:= .int2),h2,h2,←hel]
     have hb:=rH (d:=d) (l:=out.take j) (fun x hx=> ho.lit x (List.mem_of_mem_take hx)) (d.farms.getD (out.getD j default).index.toNat default).reach (out.getD j default).hour
     have hl : (out.take j).length≤4096:=by have:=ho.len;rw [List.length_take];omega
     have hl1:=hx.litres1;have hl2:=hx.litres
     rw [bN (by omega) (by omega)]
     unfold fF
     rw [hout]
     simp only [Bool.true_and,Bool.not_true,Bool.false_and,Bool.or_false]
     by_cases e : (a,b)=((d.farms.getD (out.getD j default).index.toNat default).reach,(out.getD j default).hour)
     ·rw [if_pos e];cases e;simp
     ·rw [if_neg e]
      have : ((out.getD j default).hour==b && (d.farms.getD (out.getD j default).index.toNat default).reach==a)=false:=by
       rw [Bool.and_eq_false_iff,beq_eq_false_iff_ne,beq_eq_false_iff_ne]
       by_cases q : (out.getD j default).hour=b
       ·right;intro q2;exact e (by rw [q,q2])
       ·left;exact q
      rw [this];exact (Int.add_zero _).symm
 refine ⟨fun m hm=> ?_,jP J _ _ _ hJ0 hstep,fun hall=> ?_⟩
 ·have:=eP J _ _ _ hJ0 (fun j s h1 h2 h3=> (hstep j s h1 h2 h3).2) m hm (by omega)
  rw [Nat.zero_add,List.take_length] at this
  exact this
 ·cases hrun : ak (a6 d out) out.length 0 [] with
  | inr m=> exact ⟨m,rfl⟩
  | inl y=>
   exfalso
   have key : ∀ n i s,i + n≤out.length→∀ y,ak (a6 d out) n i s≠ .inl y:=by
    intro n
    induction n with
    | zero=> intro i s _ y h;simp [ak] at h
    | succ n ih=>
     intro i s hi y h
     simp only [ak] at h
     have hout : (out.getD i default).outlet=true:=hall _ (lT _ _ (by omega))
     unfold a6 at h
     rw [hout] at h
     simp only [Bool.not_true,cond_false] at h
     exact ih (i + 1) _ (by omega) y h
   exact key _ _ _ (by omega) y hrun
def PJ (d : District) (out : List Order) (L : List (Int×Int)) (s : List Order×Mp) : Prop:= ∃ gs r h,r < d.reaches.length∧h≤d.hours.toNat∧s.1=out ++ gs∧L=sN r d.hours.toNat h ++ oK d.hours.toNat r∧PI d out gs s.2 r h
theorem xL {d : District} {out : List Order} (hr : Right1 d) {x : Int×Int} {L : List (Int×Int)} {s : List Order×Mp} (h : PJ d out (x :: L) s) : ∃ (gs : List Order) (r h : Nat),r < d.reaches.length∧h < d.hours.toNat∧s.1=out ++ gs∧x=((r : Int),(h : Int))∧L=sN r d.hours.toNat (h + 1) ++ oK d.hours.toNat r∧PI d out gs s.2 r h:=by
 obtain ⟨gs,r,h,h1,h2,h3,h4,h5⟩ :=h
 have hH:=hr.hours1
 by_cases hh : h < d.hours.toNat
 ·rw [jX hh,List.cons_append] at h4
  cases h4
  exact ⟨gs,r,h,h1,hh,h3,rfl,rfl,h5⟩
 ·have : h=d.hours.toNat:=by omega
  subst this
  rw [qz,List.nil_append] at h4
  cases r with
  | zero=> simp [oK] at h4
  | succ r=>
   rw [nS,jX (by omega),List.cons_append] at h4
   cases h4
   exact ⟨gs,r,0,by omega,by omega,h3,rfl,rfl,h5.row h1 hH⟩
theorem wo {d : District} {out : List Order} (hr : Right1 d) (ho : Orders1 d out) {gs : List Order} {r h : Nat} (hrl : r < d.reaches.length) (hhl : h < d.hours.toNat) {s : List Order×Mp} (hs : s.1=out ++ gs) (p : PI d out gs s.2 r h) :
  (drw d (out ++ gs) r h=0∧aF d ((r : Int),(h : Int)) s= .inr s)∨
  (1≤drw d (out ++ gs) r h∧((az (rch d r) (drw d (out ++ gs) r h)).2=false∨(h : Int) < (rch d r).delay)∧aF d ((r : Int),(h : Int)) s= .inl s.2)∨
  ∃ v,1≤drw d (out ++ gs) r h∧az (rch d r) (drw d (out ++ gs) r h)=(v,true)∧(rch d r).delay≤h∧1≤v∧v≤1073741824∧
   aF d ((r : Int),(h : Int)) s= .inr (out ++ (gs ++ [{ hour:=(h : Int) - (rch d r).delay,index:=r,litres:=v,outlet:=false}]),c7 .int2 .int s.2 ((rch d r).up,(h : Int) - (rch d r).delay) (IntKind.i64.wrap (aB .int2 .int s.2 ((rch d r).up,(h : Int) - (rch d r).delay) + v))) :=by
 have hb:=(rH (d:=d) (p.lit hr ho) r h).1
 have hm:=p.draws r h
 have hdl:=rI hr hrl
 have hH:=hr.hours
 by_cases h0 : drw d (out ++ gs) r h=0
 ·refine .inl ⟨h0,?_⟩
  unfold aF
  simp only
  rw [hm,h0];rfl
 ·have h1 : 1≤drw d (out ++ gs) r h:=by omega
  have hne : (aB .int2 .int s.2 ((r : Int),(h : Int)) ==0)=false:=by rw [hm,beq_eq_false_iff_ne];exact h0
  have hw : IntKind.i64.wrap ((h : Int) - (rch d r).delay)=(h : Int) - (rch d r).delay:=bN (by omega) (by omega)
  by_cases hd : (h : Int) < (rch d r).delay
  ·refine .inr (.inl ⟨h1,.inr hd,?_⟩)
   unfold aF
   simp only [hne,cond_false]
   rw [decide_eq_true hd,Bool.or_true];rfl
  ·rcases rF (i:=(r : Int)) (by omega) (hr.reach r hrl) h1 with ⟨v,e,e1,e2,e3,e4,e5⟩ | ⟨e,_⟩
   ·refine .inr (.inr ⟨v,h1,e,by omega,e1,e2,?_⟩)
    have e' : az (d.reaches.getD r default) (aB .int2 .int s.2 ((r : Int),(h : Int)))=(v,true) :=by rw [hm];exact e
    unfold aF
    simp only [hne,cond_false,Int.toNat_natCast]
    have hd' : decide ((h : Int) < (d.reaches.getD r default).delay)=false:=decide_eq_false hd
    rw [e',hd']
    simp only [Bool.not_true,Bool.or_self,cond_false,hs,List.append_assoc]
    have hw' : IntKind.i64.wrap ((h : Int) - (d.reaches.getD r default).delay)=(h : Int) - (rch d r).delay:=hw
    rw [hw']
    rfl
   ·refine .inr (.inl ⟨h1,.inl e,?_⟩)
    have e' : (az (d.reaches.getD r default) (aB .int2 .int s.2 ((r : Int),(h : Int)))).2=false:=by rw [hm];exact e
    unfold aF
    simp only [hne,cond_false,Int.toNat_natCast]
    rw [e'];rfl
theorem DO {d : District} {out : List Order} (hr : Right1 d) (ho : Orders1 d out) (x : Int×Int) (L : List (Int×Int)) (s : List Order×Mp) (hpj : PJ d out (x :: L) s) : ∀ s',aF d x s= .inr s'→PJ d out L s':=by
 obtain ⟨gs,r,h,h1,h2,h3,rfl,h5,h6⟩ :=xL hr hpj
 intro s' hs
 rcases wo hr ho h1 h2 h3 h6 with ⟨q0,q1⟩ | ⟨q0,q1,q2⟩ | ⟨v,q0,q1,q2,q3,q4,q5⟩
 ·rw [q1] at hs;cases hs
  exact ⟨gs,r,h + 1,h1,h2,h3,h5,h6.skip q0⟩
 ·rw [q2] at hs;cases hs
 ·rw [q5] at hs;cases hs
  exact ⟨_,r,h + 1,h1,h2,rfl,h5,h6.add hr ho h1 h2 q0 q1 q2 q3 q4⟩
theorem zA {d : District} {out : List Order} (hr : Right1 d) {m : Mp} (hm : ∀ a b,aB .int2 .int m (a,b)=drw d out a b) : PJ d out (bu d) (out,m) :=by
 have h1:=hr.one
 refine ⟨[],d.reaches.length - 1,0,by omega,Nat.zero_le _,by simp,?_,⟨by simpa using hm,by simp,fun a b a0 a1 b0 b1 hp=> ?_,List.Pairwise.nil,by simp⟩⟩
 ·unfold bu
  rw [←nS,show d.reaches.length - 1 + 1=d.reaches.length by omega]
 ·unfold PR at hp;omega
structure PFin (d : District) (out gs : List Order) : Prop where
 gate : ∀ x∈gs,PG d (out ++ gs) x
 all : ∀ a b,0≤a→a < (d.reaches.length : Int)→0≤b→b < d.hours→drw d (out ++ gs) a b≠0→∃ x∈gs,x.index=a∧x.hour + (rch d a).delay=b
 uniq : gs.Pairwise fun x y=> ¬ (x.index=y.index∧x.hour=y.hour)
 len : gs.length≤d.reaches.length * d.hours.toNat
theorem P3 {d : District} {out : List Order} (hr : Right1 d) {s : List Order×Mp} (h : PJ d out [] s) : ∃ gs,s.1=out ++ gs∧PFin d out gs:=by
 obtain ⟨gs,r,h,h1,h2,h3,h4,h5⟩ :=h
 have hH:=hr.hours1
 have hh : h=d.hours.toNat:=by
  by_cases hq : h < d.hours.toNat
  ·rw [jX hq] at h4;cases h4
  ·omega
 subst hh
 rw [qz,List.nil_append] at h4
 have r0 : r=0:=by
  cases r with
  | zero=> rfl
  | succ r=> rw [nS,jX (by omega)] at h4;cases h4
 subst r0
 refine ⟨gs,h3,⟨fun x hx=> (h5.gate x hx).1,fun a b a0 a1 b0 b1 hne=> h5.all a b a0 a1 b0 b1 ?_ hne,h5.uniq,?_⟩⟩
 ·unfold PR;omega
 ·have:=h5.len
  have e : d.reaches.length=(d.reaches.length - 1 - 0) + 1:=by omega
  rw [e,Nat.succ_mul];omega
structure PX (d : District) (out gs : List Order) (r h : Nat) : Prop where
 part : ∃ m,PI d out gs m r h
 r1 : r < d.reaches.length
 h1 : h < d.hours.toNat
 w : 1≤drw d (out ++ gs) r h
 no : (az (rch d r) (drw d (out ++ gs) r h)).2=false∨(h : Int) < (rch d r).delay
theorem uz {d : District} {out : List Order} (hr : Right1 d) (ho : Orders1 d out) {m : Mp} (hm : ∀ a b,aB .int2 .int m (a,b)=drw d out a b) :
  ((∃ s,cw (aF d) (bu d) (out,m)= .inr s∧∃ gs,s.1=out ++ gs∧PFin d out gs)∨∃ y,cw (aF d) (bu d) (out,m)= .inl y∧∃ gs r h,PX d out gs r h)∧
  okL (aF d) (dR d) (bu d) (out,m) :=by
 obtain ⟨h1,h2⟩ :=zz (PJ d out) (fun x L s h=> DO hr ho x L s h) (bu d) (out,m) (zA hr hm)
 refine ⟨?_,DL (PJ d out) (fun x L s h=> ⟨?_,DO hr ho x L s h⟩) _ _ (zA hr hm)⟩
 ·cases hrun : cw (aF d) (bu d) (out,m) with
  | inr s=> exact .inl ⟨s,rfl,P3 hr (h1 s hrun)⟩
  | inl y=>
   refine .inr ⟨y,rfl,?_⟩
   obtain ⟨x,L,s,g1,g2⟩ :=h2 y hrun
   obtain ⟨gs,r,h,q1,q2,q3,rfl,q5,q6⟩ :=xL hr g1
   rcases wo hr ho q1 q2 q3 q6 with ⟨_,e⟩ | ⟨e0,e1,_⟩ | ⟨v,_,_,_,_,_,e⟩
   ·rw [e] at g2;cases g2
   ·exact ⟨gs,r,h,⟨_,q6⟩,q1,q2,e0,e1⟩
   ·rw [e] at g2;cases g2
 ·obtain ⟨gs,r,h,q1,q2,q3,rfl,q5,q6⟩ :=xL hr h
  unfold dR
  simp only
  refine fun _=> ⟨⟨by omega,by omega⟩,H6 _ _,fun _=> ?_⟩
  have:=q6.len2 hr ho (by omega)
  rw [q3,List.length_append]
  have e : ∀ (a : Order),[a].length=1:=fun _=> rfl
  rw [e]
  unfold ja
  omega
end Go.Sx
end
section
namespace Go.Sx
open Go.Proofs Go.Shelf Go.Sort Go.Lib
def K (x y : Order) : Prop:=x.hour=y.hour∧x.index=y.index∧x.outlet=y.outlet
theorem K.symm {x y : Order} (h : K x y) : K y x:=⟨h.1.symm,h.2.1.symm,h.2.2.symm⟩
theorem Ir {x y : Order} (h : lQ x=lQ y) : x.outlet=y.outlet:=by
 unfold lQ at h
 cases h1 : x.outlet <;> cases h2 : y.outlet <;> rw [h1,h2] at h <;> simp at h
theorem sY {x y : Order} (h1 : ¬ olt x y) (h2 : ¬ olt y x) : K x y:=by
 have e : x.hour=y.hour∧x.index=y.index∧lQ x=lQ y:=by unfold olt at h1 h2;omega
 exact ⟨e.1,e.2.1,Ir e.2.2⟩
theorem P4 {x y : Order} (h : olt x y) : ¬ K x y:=fun ⟨h1,h2,h3⟩ => by
 have : lQ x=lQ y:=by unfold lQ;rw [h3]
 unfold olt at h;omega
theorem DP {l : List Order} (h : l.Pairwise fun x y=> ¬ K x y) {x y : Order} (hx : x∈l) (hy : y∈l) (hk : K x y) : x=y:=by
 obtain ⟨i,hi,rfl⟩ :=List.getElem_of_mem hx
 obtain ⟨j,hj,rfl⟩ :=List.getElem_of_mem hy
 rw [List.pairwise_iff_getElem] at h
 rcases Nat.lt_trichotomy i j with q | q | q
 ·exact absurd hk (h i j hi hj q)
 ·subst q;rfl
 ·exact absurd hk.symm (h j i hj hi q)
theorem Is {l : List Order} (h : l.Pairwise fun x y=> ¬ K x y) : apart ay l:=fun x hx y hy h1 h2=> by
 refine DP h hx hy (sY (fun q=> ?_) fun q=> ?_)
 ·unfold ltOf at h1;rw [decide_eq_false_iff_not] at h1;exact h1 ((zi _ _).2 q)
 ·unfold ltOf at h2;rw [decide_eq_false_iff_not] at h2;exact h2 ((zi _ _).2 q)
theorem nV (l : List Order) : (srt ay l).Perm l:=List.mergeSort_perm _ _
theorem iY {l m : List Order} (h : l.Perm m) (hm : m.Pairwise fun x y=> ¬ K x y) : l.Pairwise fun x y=> ¬ K x y:=
 (h.pairwise_iff (fun {x y} (h : ¬ K x y) (k : K y x) => h k.symm)).2 hm
theorem P5 {l : List Order} (h : l.Pairwise fun x y=> ¬ K x y) : (srt ay l).Pairwise olt:=by
 have h1 : (srt ay l).Pairwise fun x y=> (!(ltOf ay y x))=true:=by
  refine List.pairwise_mergeSort (fun a b c h1 h2=> ?_) (fun a b=> ?_) l
  ·simp only [Bool.not_eq_true'] at h1 h2 ⊢
   exact xB.ntrans _ _ _ h2 h1
  ·cases q : ltOf ay b a with
   | false=> rfl
   | true=>
    cases q2 : ltOf ay a b with
    | false=> rfl
    | true=> have:=xB.trans _ _ _ q q2;rw [xB.irrefl] at this;cases this
 have h2:=iY (nV l) h
 refine (h1.and h2).imp fun {x y} ⟨q1,q2⟩ => ?_
 have q3 : ¬ olt y x:=fun q=> by
  have : ltOf ay y x=true:=by unfold ltOf;rw [decide_eq_true_eq];exact (zi _ _).2 q
  rw [this] at q1;cases q1
 exact Classical.byContradiction fun q4=> q2 (sY q4 q3)
structure Good (d : District) (l : List Order) : Prop where
 chk : bn d=0
 len : l.length≤4096
 one : ∀ x∈l,Order1 d x
 asc : l.Pairwise olt
theorem Good.right {d : District} {l : List Order} (h : Good d l) : Right1 d:=nM (by rw [h.chk];rfl)
theorem xM {d : District} {l : List Order} (h : bt d l=0) : Good d l:=by
 have ho:=ko (d:=d) (l:=l) (by rw [h];rfl)
 refine ⟨((oZ d l).1 h).1,ho.len,fun x hx=> ?_,List.pairwise_iff_getElem.2 fun i j hi hj hij=> ?_⟩
 ·obtain ⟨i,hi,rfl⟩ :=List.getElem_of_mem hx
  have:=ho.one i hi
  rwa [b7 _ _ hi] at this
 ·have:=ho.lt j i hij hj
  rwa [b7 _ _ hi,b7 _ _ hj] at this
theorem Good.orders {d : District} {l : List Order} (h : Good d l) : Orders1 d l:=by
 refine ⟨h.right,h.len,fun k hk=> ?_,fun k hk=> ?_⟩
 ·rw [b7 _ _ hk];exact h.one _ (List.getElem_mem _)
 ·rw [b7 _ _ hk,b7 _ _ (by omega : k < l.length)]
  exact (zi _ _).2 (List.pairwise_iff_getElem.1 h.asc _ _ _ _ (by omega))
theorem Good.keys {d : District} {l : List Order} (h : Good d l) : l.Pairwise fun x y=> ¬ K x y:=h.asc.imp fun {_ _} q=> P4 q
theorem zB {d : District} {l : List Order} (h : Good d l) : bt d l=0:=by
 refine (oZ d l).2 ⟨h.chk,h.len,fun k hk=> ?_⟩
 have hx:=h.one _ (lT l default hk)
 have hasc : (decide ((k : Int) > 0) && decide (ay (l.getD (IntKind.i64.wrap ((k : Int) - 1)).toNat default) (l.getD k default)≥0))=false:=by
  rw [Bool.and_eq_false_iff,decide_eq_false_iff_not,decide_eq_false_iff_not]
  by_cases hk0 : 0 < k
  ·right
   have hl:=h.len
   rw [lR (by omega) hk0,Int.toNat_natCast]
   have:=h.orders.asc (k - 1) (by omega)
   rw [show k - 1 + 1=k by omega] at this
   omega
  ·left;omega
 unfold dF
 rw [hasc]
 generalize l.getD k default=x at hx
 cases ho : x.outlet with
 | true=>
  have:=hx.farm ho
  simp only [cond_true]
  have e : (decide (x.hour < 0) || decide (x.hour≥d.hours) || decide (x.index < 0) || decide (x.index≥(d.farms.length : Int)) || decide (x.litres < 1) || decide (x.litres > 1073741824) || false)=false:=by
   have:=hx.hour0;have:=hx.hour;have:=hx.index0;have:=hx.litres1;have:=hx.litres
   simp only [Bool.or_eq_false_iff,decide_eq_false_iff_not,and_true];omega
  rw [e];rfl
 | false=>
  have:=hx.reach ho
  simp only [cond_false]
  have e : (decide (x.hour < 0) || decide (x.hour≥d.hours) || decide (x.index < 0) || decide (x.index≥(d.reaches.length : Int)) || decide (x.litres < 1) || decide (x.litres > 1073741824) || false)=false:=by
   have:=hx.hour0;have:=hx.hour;have:=hx.index0;have:=hx.litres1;have:=hx.litres
   simp only [Bool.or_eq_false_iff,decide_eq_false_iff_not,and_true];omega
  rw [e];rfl
structure Nar (d : District) (l : List Order) : Prop where
 good : Good d l
 wide : (d.reaches.length : Int) * d.hours≤1024
theorem oC {d : District} (hr : Right1 d) : 0≤(d.reaches.length : Int) * d.hours∧(d.reaches.length : Int) * d.hours≤262144:=by
 have:=hr.reaches;have:=hr.hours;have:=hr.hours1
 have h1:=Int.mul_le_mul (by omega : (d.reaches.length : Int)≤64) hr.hours (by omega) (by omega)
 have h2:=Int.mul_nonneg (by omega : 0≤(d.reaches.length : Int)) (by omega : 0≤d.hours)
 omega
theorem pr (d : District) (l : List Order) : bB d l=0↔Nar d l:=by
 unfold bB
 by_cases h : bt d l=0
 ·have hg:=xM h
  have hm:=oC hg.right
  rw [bN (by omega) (by omega),h]
  by_cases hw : (d.reaches.length : Int) * d.hours > 1024
  ·rw [decide_eq_true hw]
   simp only [beq_self_eq_true,Bool.and_self,cond_true]
   exact ⟨fun e=> (by cases e),fun e=> (by have:=e.wide;omega)⟩
  ·rw [decide_eq_false hw]
   simp only [Bool.and_false,cond_false]
   exact ⟨fun _=> ⟨hg,by omega⟩,fun _=> trivial⟩
 ·have : (bt d l==0)=false:=by rw [beq_eq_false_iff_ne];exact h
  rw [this]
  simp only [Bool.false_and,cond_false]
  exact ⟨fun e=> absurd e h,fun e=> absurd (zB e.good) h⟩
structure PL (d : District) (out gs : List Order) : Prop where
 good : Good d (srt ay (out ++ gs))
 fin : PFin d out gs
theorem qA {d : District} {out gs : List Order} (ho : Good d out) (hall : ∀ x∈out,x.outlet=true) (h : PFin d out gs) : (out ++ gs).Pairwise fun x y=> ¬ K x y:=by
 rw [List.pairwise_append]
 refine ⟨ho.keys,h.uniq.imp fun {x y} q k=> q ⟨k.2.1,k.1⟩,fun x hx y hy k=> ?_⟩
 have:=k.2.2
 rw [hall x hx,(h.gate y hy).out] at this
 cases this
theorem Nd {d : District} {out gs : List Order} (ho : Good d out) (h : PFin d out gs) : ∀ x∈out ++ gs,Order1 d x:=fun x hx=> by
 rcases List.mem_append.1 hx with hx | hx
 ·exact ho.one x hx
 ·have g:=h.gate x hx
  have gl:=nU ho.right g
  have hd:=rI ho.right (r:=x.index.toNat) (by have:=g.i0;have:=g.i1;omega)
  rw [show ((x.index.toNat : Nat) : Int)=x.index from Int.toNat_of_nonneg g.i0] at hd
  have:=g.h1
  exact ⟨g.h0,by omega,g.i0,fun e=> (by rw [g.out] at e;cases e),fun _=> g.i1,gl.1,gl.2.1⟩
theorem uA (d : District) (out : List Order) :
  (bB d out≠0∧aI d out=([],false,bB d out))∨
  (Nar d out∧¬ (∀ x∈out,x.outlet=true)∧aI d out=([],false,220))∨
  (Nar d out∧(∀ x∈out,x.outlet=true)∧(∃ gs r h,PX d out gs r h)∧aI d out=([],false,0))∨
  (Nar d out∧(∀ x∈out,x.outlet=true)∧∃ gs,PFin d out gs∧4096 < (out ++ gs).length∧aI d out=([],false,2))∨
  (Nar d out∧(∀ x∈out,x.outlet=true)∧∃ gs,PL d out gs∧aI d out=(srt ay (out ++ gs),true,0)) :=by
 unfold aI
 by_cases hn : bB d out=0
 ·have hN:=(pr d out).1 hn
  have hr:=hN.good.right
  have ho:=hN.good.orders
  rw [hn]
  simp only [bne_self_eq_false,cond_false]
  obtain ⟨f1,_,f3⟩ :=rJ hr ho
  by_cases hall : ∀ x∈out,x.outlet=true
  ·obtain ⟨m,hm⟩ :=f3 hall
   rw [hm]
   simp only
   obtain ⟨h1,_⟩ :=uz hr ho (f1 m hm).2
   rcases h1 with ⟨s,hs,gs,e1,e2⟩ | ⟨y,hy,hx⟩
   ·rw [hs]
    simp only [e1]
    by_cases hl : (out ++ gs).length≤4096
    ·rw [decide_eq_false (by omega)]
     refine .inr (.inr (.inr (.inr ⟨hN,hall,gs,⟨⟨hN.good.chk,?_,fun x hx=> Nd hN.good e2 x ((nV _).mem_iff.1 hx),P5 (qA hN.good hall e2)⟩,e2⟩,rfl⟩)))
     rw [(nV _).length_eq];exact hl
    ·rw [decide_eq_true (by omega)]
     exact .inr (.inr (.inr (.inl ⟨hN,hall,gs,e2,by omega,rfl⟩)))
   ·rw [hy]
    exact .inr (.inr (.inl ⟨hN,hall,hx,rfl⟩))
  ·cases hrun : ak (a6 d out) out.length 0 [] with
   | inr m=> exact absurd (f1 m hrun).1 hall
   | inl y=> exact .inr (.inl ⟨hN,hall,rfl⟩)
 ·have : (bB d out !=0)=true:=by simpa using hn
  rw [this]
  exact .inl ⟨hn,rfl⟩
theorem It (d : District) (l : List Order) : gb d l:=uj d l
theorem P6 (d : District) (out : List Order) : iu d out:=by
 refine ⟨It _ _,fun hn=> ?_⟩
 have hN:=(pr d out).1 (by simpa using hn)
 have hr:=hN.good.right
 have ho:=hN.good.orders
 obtain ⟨f1,f2,f3⟩ :=rJ hr ho
 refine fun _=> ⟨f2,fun m hm=> ⟨?_,?_,?_⟩⟩
 ·have:=ho.len;unfold ja;omega
 ·have:=hr.hours;omega
 ·obtain ⟨h1,h2⟩ :=uz hr ho (f1 m hm).2
  refine ⟨h2,fun s hs _ _=> ?_⟩
  rcases h1 with ⟨s',hs',gs,e1,e2⟩ | ⟨y,hy,_⟩
  ·rw [hs'] at hs
   cases hs
   rw [e1]
   exact Is (qA hN.good (f1 m hm).1 e2)
  ·rw [hy] at hs;cases hs
end Go.Sx
end
section
namespace Go.Sx
open Go.Proofs
variable {κ υ : Type} [DecidableEq κ] in
theorem zC : ∀ (l : List (κ×υ)) (x : κ) (y : υ) (e : κ×υ),e∈mM l x y→e=(x,y)∨e∈l
 | [],x,y,e,h=> by simp [mM] at h;exact .inl h
 | (a,b) :: r,x,y,e,h=> by
  unfold mM at h
  by_cases q : x=a
  ·rw [if_pos q] at h
   rcases List.mem_cons.1 h with h | h
   ·exact .inl h
   ·exact .inr (List.mem_cons_of_mem _ h)
  ·rw [if_neg q] at h
   rcases List.mem_cons.1 h with h | h
   ·exact .inr (h▸List.mem_cons_self)
   ·rcases zC r x y e h with h | h
    ·exact .inl h
    ·exact .inr (List.mem_cons_of_mem _ h)
variable {κ υ : Type} [DecidableEq κ] in
theorem zD : ∀ (l : List (κ×υ)) (x : κ) (y : υ),fJ l x=some y→(x,y)∈l
 | (a,b) :: r,x,y,h=> by
  unfold fJ at h
  by_cases q : x=a
  ·rw [if_pos q] at h;cases h;subst q;exact List.mem_cons_self
  ·rw [if_neg q] at h;exact List.mem_cons_of_mem _ (zD r x y h)
variable {κ υ : Type} [DecidableEq κ] in
theorem Bq {l : List (κ×υ)} (h : (l.map Prod.fst).Nodup) (x : κ) (y : υ) : ((mM l x y).map Prod.fst).Nodup:=by
 rw [rE]
 split
 ·exact h
 ·rename_i hn
  rw [List.nodup_append]
  exact ⟨h,by simp,fun a ha b hb e=> by
   rw [List.mem_singleton] at hb
   subst hb;subst e
   exact hn ha⟩
structure SM (k : Tag) (f : k.T→Int) (m : List (k.T×Int)) : Prop where
 get : ∀ p,aB k .int m p=f p
 nd : (m.map Prod.fst).Nodup
 pos : ∀ e∈m,1≤e.2
theorem SM.nil {k : Tag} : SM k (fun _=> 0) [] :=⟨fun _=> rfl,List.nodup_nil,fun _ h=> by cases h⟩
theorem SM.put {k : Tag} {f : k.T→Int} {m : List (k.T×Int)} (h : SM k f m) (x : k.T) {v : Int} (hv : 1≤v) {g : k.T→Int} (hg : ∀ p,g p=if p=x then v else f p) : SM k g (c7 k .int m x v) :=by
 refine ⟨fun p=> ?_,Bq h.nd x v,fun e he=> ?_⟩
 ·rw [eD,h.get,hg]
 ·rcases zC (υ:=Int) m x v e he with rfl | he
  ·exact hv
  ·exact h.pos e he
theorem SM.entry {k : Tag} {f : k.T→Int} {m : List (k.T×Int)} (h : SM k f m) {e : k.T×Int} (he : e∈m) : e.2=f e.1∧1≤f e.1:=by
 have h1:=zl m e h.nd he
 have h2:=h.get e.1
 unfold aB at h2
 rw [h1] at h2
 have h3 : e.2=f e.1:=h2
 exact ⟨h3,h3▸h.pos e he⟩
theorem SM.mem {k : Tag} {f : k.T→Int} {m : List (k.T×Int)} (h : SM k f m) {p : k.T} (hp : f p≠0) : (p,f p)∈m:=by
 have h2:=h.get p
 unfold aB at h2
 cases hm : fJ m p with
 | none=> rw [hm] at h2;exact absurd h2.symm hp
 | some v=>
  rw [hm] at h2
  have h3 : v=f p:=h2
  exact h3▸zD m p v hm
theorem SM.congr {k : Tag} {f g : k.T→Int} {m : List (k.T×Int)} (h : SM k f m) (e : ∀ p,g p=f p) : SM k g m:=⟨fun p=> by rw [h.get,e],h.nd,h.pos⟩
def gP (r h : Int) (x : Order) : Bool:= !x.outlet && x.index==r && x.hour==h
def zF (l : List Order) (r h : Int) : Int:=a8 (gP r h) l
theorem Iu {r h : Int} {x y : Order} (hx : gP r h x=true) (hy : gP r h y=true) : K x y:=by
 unfold gP at hx hy
 simp only [Bool.and_eq_true,Bool.not_eq_true',beq_iff_eq] at hx hy
 exact ⟨by rw [hx.2,hy.2],by rw [hx.1.2,hy.1.2],by rw [hx.1.1,hy.1.1]⟩
theorem kR {p : Order→Bool} {l : List Order} (hk : l.Pairwise fun x y=> ¬ K x y) (hp : ∀ x y,p x=true→p y=true→K x y) {x : Order} (hx : x∈l) (h : p x=true) : a8 p l=x.litres:=by
 obtain ⟨i,hi,rfl⟩ :=List.getElem_of_mem hx
 refine zk hi h fun j hj hne=> ?_
 cases hq : p l[j] with
 | false=> rfl
 | true=>
  rw [List.pairwise_iff_getElem] at hk
  rcases Nat.lt_or_gt_of_ne hne with q | q
  ·exact absurd (hp _ _ hq h) (hk j i hj hi q)
  ·exact absurd (hp _ _ h hq) (hk i j hi hj q)
theorem zG {l : List Order} (hk : l.Pairwise fun x y=> ¬ K x y) {x : Order} (hx : x∈l) (ho : x.outlet=false) : zF l x.index x.hour=x.litres:=
 kR hk (fun _ _ h1 h2=> Iu h1 h2) hx (by unfold gP;rw [ho];simp)
theorem xN {p : Order→Bool} {l : List Order} (h : a8 p l≠0) : ∃ x∈l,p x=true:=
 Classical.byContradiction fun q=> h (gV fun x hx=> by
  cases hp : p x with
  | false=> rfl
  | true=> exact absurd ⟨x,hx,hp⟩ q)
theorem Nf {l : List Order} (hk : l.Pairwise fun x y=> ¬ K x y) {r h : Int} (hg : zF l r h≠0) : ∃ x∈l,x.outlet=false∧x.index=r∧x.hour=h∧x.litres=zF l r h:=by
 obtain ⟨x,hx,hp⟩ :=xN hg
 have:=kR hk (fun _ _ h1 h2=> Iu h1 h2) hx hp
 unfold gP at hp
 simp only [Bool.and_eq_true,Bool.not_eq_true',beq_iff_eq] at hp
 exact ⟨x,hx,hp.1.1,hp.1.2,hp.2,this.symm⟩
def TQ (d : District) (l : List Order) : Prop:= ∀ r h : Int,0≤r→1≤drw d l r h→∃ w,dm (rch d r) (zF l r (h - (rch d r).delay))=(w,0)∧drw d l r h≤w
theorem xO {d : District} {l : List Order} (hg : Good d l) {r h : Int} (hr : 0≤r) (hd : drw d l r h≠0) : r < (d.reaches.length : Int)∧0≤h∧h < d.hours:=by
 obtain ⟨x,hx,hp⟩ :=xN hd
 have h1:=hg.one x hx
 unfold fF at hp
 simp only [Bool.and_eq_true,Bool.or_eq_true,Bool.not_eq_true',beq_iff_eq] at hp
 have a1:=h1.hour0;have a2:=h1.hour;have a3:=h1.index0
 refine ⟨?_,by omega,by omega⟩
 rcases hp.2 with ⟨q1,q2⟩ | ⟨q1,q2⟩
 ·have:=h1.farm q1
  have:=hg.right.farm x.index.toNat (by omega)
  omega
 ·have:=h1.reach q1
  have:=Iq hg.right (r:=x.index.toNat) (by omega)
  rw [show ((x.index.toNat : Nat) : Int)=x.index from Int.toNat_of_nonneg a3] at this
  have q2' : (rch d x.index).up=r:=q2
  omega
theorem wp {P : Order→Bool} {l m : List Order} (h : l.Perm m) : a8 P l=a8 P m:=by
 induction h with
 | nil=> rfl
 | cons x _ ih=> simp only [a8,ih]
 | swap x y l=> simp only [a8];omega
 | trans _ _ ih1 ih2=> rw [ih1,ih2]
theorem xP {P : Order→Bool} {l : List Order} (h : ∀ x∈l,0≤x.litres) : 0≤a8 P l:=by
 induction l with
 | nil=> exact Int.le_refl _
 | cons x r ih=>
  simp only [a8]
  have h1:=ih fun y hy=> h y (List.mem_cons_of_mem _ hy)
  have h2:=h x List.mem_cons_self
  cases P x <;> simp only [cond_true,cond_false] <;> omega
theorem nW {P : Order→Bool} (hP : ∀ x y,K x y→P x=P y) : ∀ (A B : List Order),A.Pairwise (fun x y=> ¬ K x y)→(∀ x∈A,P x=true→∃ z∈B,K z x∧x.litres≤z.litres)→(∀ z∈B,0≤z.litres)→a8 P A≤a8 P B
 | [],B,_,_,hB=> xP hB
 | x :: A,B,hA,hd,hB=> by
  have hA':=(List.pairwise_cons.1 hA)
  simp only [a8]
  cases hx : P x with
  | false=>
   have:=nW hP A B hA'.2 (fun y hy hp=> hd y (List.mem_cons_of_mem _ hy) hp) hB
   simp only [cond_false];omega
  | true=>
   obtain ⟨z,hz,hk,hl⟩ :=hd x List.mem_cons_self hx
   have hperm:=wp (P:=P) (List.perm_cons_erase hz)
   have hPz : P z=true:=by rw [hP z x hk];exact hx
   simp only [a8,hPz,cond_true] at hperm
   have:=nW hP A (B.erase z) hA'.2 (fun y hy hp=> by
    obtain ⟨w,hw,hkw,hlw⟩ :=hd y (List.mem_cons_of_mem _ hy) hp
    refine ⟨w,?_,hkw,hlw⟩
    have hne : w≠z:=fun e=> by
     subst e
     exact hA'.1 y hy ⟨hk.1.symm.trans hkw.1,hk.2.1.symm.trans hkw.2.1,hk.2.2.symm.trans hkw.2.2⟩
    exact (List.mem_erase_of_ne hne).2 hw) (fun w hw=> hB w (List.mem_of_mem_erase hw))
   simp only [cond_true];omega
theorem wq (d : District) (r h : Int) (x y : Order) (hk : K x y) : fF d r h x=fF d r h y:=by
 unfold fF;rw [hk.1,hk.2.1,hk.2.2]
structure Keeps (d : District) (l : List Order) : Prop where
 good : Good d l
 sip : ∀ x∈l,x.outlet=false→(rch d x.index).siphon≤x.litres
 kept : TQ d l
theorem wr {d : District} {l : List Order} (h : Keeps d l) {r hh : Int} (r0 : 0≤r) (h1 : 1≤drw d l r hh) : ∃ z∈l,z.outlet=false∧z.index=r∧z.hour=hh - (rch d r).delay∧drw d l r hh≤wst (rch d r) z.litres∧1≤z.litres∧z.litres≤1073741824∧(rch d r).siphon≤z.litres∧r < (d.reaches.length : Int) :=by
 obtain ⟨w,e1,e2⟩ :=h.kept r hh r0 h1
 obtain ⟨q1,_,_⟩ :=xO h.good r0 (by omega : drw d l r hh≠0)
 have hx : bw (r.toNat : Int) (rch d r)=true:=h.good.right.reach r.toNat (by omega)
 by_cases hg : zF l r (hh - (rch d r).delay)=0
 ·exfalso
  rw [hg,ip hx (Int.le_refl 0) (by omega),H4 hx] at e1
  cases e1;omega
 ·obtain ⟨z,hz,z1,z2,z3,z4⟩ :=Nf h.good.keys hg
  have hl:=h.good.orders.lit z hz
  rw [←z4,ip hx (by omega) hl.2] at e1
  cases e1
  have:=h.sip z hz z1
  rw [z2] at this
  exact ⟨z,hz,z1,z2,z3,e2,hl.1,hl.2,this,q1⟩
theorem wu {d : District} {out gs l : List Order} (hr : Right1 d) (hk : (out ++ gs).Pairwise fun x y=> ¬ K x y) (hg : ∀ x∈gs,PG d (out ++ gs) x) (hout : ∀ x∈out,∃ z∈l,K z x∧x.litres≤z.litres) (hl : Keeps d l) :
  ∀ (n : Nat) (x : Order),x∈gs→(d.reaches.length : Int) - x.index≤n→∃ z∈l,K z x∧x.litres≤z.litres:=by
 intro n
 induction n with
 | zero=> intro x hx hn;have:=(hg x hx).i1;omega
 | succ n ih=>
  intro x hx hn
  have g:=hg x hx
  have hD : drw d (out ++ gs) x.index (x.hour + (rch d x.index).delay)≤drw d l x.index (x.hour + (rch d x.index).delay) :=by
   refine nW (wq d _ _) _ _ hk (fun y hy hp=> ?_) fun z hz=> by have:=hl.good.orders.lit z hz;omega
   rcases List.mem_append.1 hy with hy | hy
   ·exact hout y hy
   ·have gy:=hg y hy
    refine ih y hy ?_
    unfold fF at hp
    rw [gy.out] at hp
    simp only [Bool.false_and,Bool.not_false,Bool.true_and,Bool.false_or,Bool.and_eq_true,beq_iff_eq] at hp
    have i0:=gy.i0;have i1:=gy.i1
    have:=Iq hr (r:=y.index.toNat) (by omega)
    rw [show ((y.index.toNat : Nat) : Int)=y.index from Int.toNat_of_nonneg i0] at this
    have e : (rch d y.index).up=x.index:=hp.2
    omega
  have h1:=g.w
  obtain ⟨z,hz,z1,z2,z3,z4,z5,z6,z7,_⟩ :=wr hl g.i0 (by omega : 1≤drw d l x.index (x.hour + (rch d x.index).delay))
  refine ⟨z,hz,⟨by rw [z3];omega,z2,by rw [z1,g.out]⟩,?_⟩
  exact (nU hr g).2.2.2.2 z.litres (by omega) z6 z7 (by omega)
theorem Iv {d : District} {out gs : List Order} (ho : Good d out) (hall : ∀ x∈out,x.outlet=true) (hg : ∀ x∈gs,x.outlet=false) (hu : gs.Pairwise fun x y=> ¬ (x.index=y.index∧x.hour=y.hour)) : (out ++ gs).Pairwise fun x y=> ¬ K x y:=by
 rw [List.pairwise_append]
 refine ⟨ho.keys,hu.imp fun {x y} q k=> q ⟨k.2.1,k.1⟩,fun x hx y hy k=> ?_⟩
 have:=k.2.2
 rw [hall x hx,hg y hy] at this
 cases this
theorem Ng {d : District} {out gs l : List Order} {r h : Nat} (ho : Good d out) (hall : ∀ x∈out,x.outlet=true) (hx : PX d out gs r h) (hout : ∀ x∈out,∃ z∈l,K z x∧x.litres≤z.litres) (hl : Keeps d l) : False:=by
 obtain ⟨m,p⟩ :=hx.part
 have hr:=ho.right
 have hk:=Iv ho hall (fun x hx=> (p.gate x hx).1.out) p.uniq
 have hdom:=wu hr hk (fun x hx=> (p.gate x hx).1) hout hl
 have hD : drw d (out ++ gs) r h≤drw d l r h:=by
  refine nW (wq d _ _) _ _ hk (fun y hy hp=> ?_) fun z hz=> by have:=hl.good.orders.lit z hz;omega
  rcases List.mem_append.1 hy with hy | hy
  ·exact hout y hy
  ·exact hdom d.reaches.length y hy (by have:=(p.gate y hy).1.i0;omega)
 have hw:=hx.w
 obtain ⟨z,hz,z1,z2,z3,z4,z5,z6,z7,_⟩ :=wr hl (by omega : (0 : Int)≤r) (by omega : 1≤drw d l r h)
 rcases hx.no with q | q
 ·rcases rF (i:=(r : Int)) (by omega) (hr.reach r hx.r1) hw with ⟨v,e,_⟩ | ⟨_,e⟩
  ·have : (az (rch d r) (drw d (out ++ gs) r h)).2=true:=by
    have e' : az (rch d r) (drw d (out ++ gs) r h)=(v,true) :=e
    rw [e']
   rw [this] at q;cases q
  ·have:=e z.litres (by omega) z6
   have e' : wst (d.reaches.getD r default) z.litres=wst (rch d r) z.litres:=rfl
   omega
 ·have:=(hl.good.one z hz).hour0
  omega
theorem Br {d : District} {out gs : List Order} (ho : Good d out) (hall : ∀ x∈out,x.outlet=true) (h : PL d out gs) : Keeps d (srt ay (out ++ gs)) :=by
 have hr:=ho.right
 have hperm:=nV (out ++ gs)
 have hk:=qA ho hall h.fin
 refine ⟨h.good,fun x hx hxo=> ?_,fun r hh r0 h1=> ?_⟩
 ·rcases List.mem_append.1 (hperm.mem_iff.1 hx) with q | q
  ·rw [hall x q] at hxo;cases hxo
  ·exact (nU hr (h.fin.gate x q)).2.2.1
 ·have hd : drw d (srt ay (out ++ gs)) r hh=drw d (out ++ gs) r hh:=wp hperm
  obtain ⟨q1,q2,q3⟩ :=xO h.good r0 (by omega : drw d (srt ay (out ++ gs)) r hh≠0)
  obtain ⟨x,hx,e1,e2⟩ :=h.fin.all r hh r0 q1 q2 q3 (by omega)
  have g:=h.fin.gate x hx
  have gl:=nU hr g
  rw [e1,e2] at gl
  have hxr : bw (r.toNat : Int) (rch d r)=true:=hr.reach r.toNat (by omega)
  have hg : zF (srt ay (out ++ gs)) r (hh - (rch d r).delay)=x.litres:=by
   have e : zF (srt ay (out ++ gs)) x.index x.hour=x.litres:=zG h.good.keys (hperm.mem_iff.2 (List.mem_append_right _ hx)) g.out
   rw [e1,show x.hour=hh - (rch d r).delay by omega] at e
   exact e
  refine ⟨wst (rch d r) x.litres,?_,by rw [hd];exact gl.2.2.2.1⟩
  rw [hg]
  exact ip hxr (by omega) gl.2.1
theorem uB {ρ σ : Type} {step : Nat→σ→ρ⊕σ} (J : Nat→σ→Prop) : ∀ (n i : Nat) (s : σ),J i s→(∀ j s,i≤j→j < i + n→J j s→∃ s',step j s= .inr s'∧J (j + 1) s')→∃ s',ak step n i s= .inr s'∧J (i + n) s'
 | 0,i,s,h,_=> ⟨s,rfl,h⟩
 | n + 1,i,s,h,hs=> by
  obtain ⟨s1,e1,h1⟩ :=hs i s (Nat.le_refl _) (by omega) h
  obtain ⟨s2,e2,h2⟩ :=uB J n (i + 1) s1 h1 fun j s a b=> hs j s (by omega) (by omega)
  exact ⟨s2,by simp only [ak,e1];exact e2,by rwa [show i + (n + 1)=i + 1 + n by omega]⟩
end Go.Sx
end
section
namespace Go.Sx
open Go.Proofs
set_option maxRecDepth 100000
set_option linter.unusedSimpArgs false
def a7 (t : CertifyTable) (reach : Int) (hour : Int) : Int:=(dm (t.d.reaches.getD (Int.toNat reach) (default : Reach)) (aB .certifyPlace .int t.litres ({ hour:=(IntKind.i64.wrap (hour - (t.d.reaches.getD (Int.toNat reach) (default : Reach)).delay)),index:=reach,outlet:=false} : CertifyPlace))).1
def ct (t : CertifyTable) (reach : Int) (hour : Int) : Prop:=((0≤reach∧reach < (t.d.reaches.length : Int))∧(0≤reach∧reach < (t.d.reaches.length : Int)))
@[go_sem] def eS : List SV→Option Con:=(pD .certifyTable fun t=> (pI fun reach=> (pI fun hour=> (pE (.det (ct t reach hour) (.v (.int .i64 (a7 t reach hour))))))))
theorem gB : FnOk Tryz.prog 91 eS:=by
 have hG : ConsOk Tryz.prog (mkG [(45,nH)] []) :=aN (cgc sH cg0) cg0
 refine a_ [.o] mixed aD hG (fn:=Tryz.f91) (c:=ag Tryz.f91) (by kernel_rfl) (by kernel_rfl) (by kernel_rfl) (by kernel_rfl) (bL fun t=> (cy fun reach=> (cy fun hour=> (aV (fun hp=> ?_)))))
 dsimp only [aZ] at hp
 unfold ct at hp
 refine ⟨Nat.le_of_ble_eq_true rfl,L0,av _,?_⟩
 ·unfold ag Tryz.f91
  try unfold a7
  simp only [go_sem,Nat.reduceBEq,Nat.reduceLeDiff,Nat.reduceLT,decide_true,Nat.reduceAdd,Nat.reduceSub,Nat.reduceMul,Int.reduceLE,Int.reduceLT,Int.reduceToNat,Int.reduceNeg,reduceCtorEq]
  all_goals exact cl
end Go.Sx
end
