/- Part of the proof that the law TimetableSenior returns true and leaves its arguments as they were, for all arguments of bulk at most 1048576 (the Upto form). -/
import Derived.Test.YtagjakphhkfofaaGreatC508
import Derived.Test.YtagjakphhkfofaaGreatC507
import Derived.Shelf.SlSortCmp.NoneTotal
import Derived.Ground.SlsfProg
import Derived.Test.YtagjakphhkfofaaGreatProg
import Derived.Test.YtagjakphhkfofaaGreatC506
set_option linter.all false
section
namespace Go.Sx
open Go.RowKit Go.Shelf Go.Lib Go.Sort Go.Proofs
open Classical in
noncomputable def ed (k : Tag) (g : FuncId) (caps : List SV) (cf : k.T→k.T→Int) : List SV→List Ob→Option HCon:=fun l h=>
 v_ k (fun l0=> if l=[.os 0,.fn g [] caps] then some (nG (apart cf l0) (.tup []) [.row k (srt cf l0)]) else none) h
@[go_sem] theorem jP {k : Tag} {g : FuncId} {caps : List SV} {cf : k.T→k.T→Int} {l0 : List k.T} : ed k g caps cf [.os 0,.fn g [] caps] [.row k l0]=some (nG (apart cf l0) (.tup []) [.row k (srt cf l0)]) :=by
 simp [ed,v_]
section
variable {P : Program} {ρ : Ren} {k : Tag}
theorem JS {w : World} {b : Nat} {cs : Array Value} {ty : TypeId} (hb : w.heap[b]? =some (.cells cs ty (0,0))) (D : Array Value) (o : Nat) : (putRow id w b o D).heap[b]? =some (.cells (putCells id o D cs) ty (0,0)) :=by
 unfold putRow mapBlock
 simp only [Array.getElem?_modify,if_true,hb]
 rfl
theorem AY {w : World} {b c : Nat} (hc : c≠b) (D : Array Value) (o : Nat) : (putRow id w b o D).heap[c]? =w.heap[c]? :=by
 unfold putRow mapBlock
 simp only [Array.getElem?_modify]
 rw [if_neg (fun e=> hc e.symm)]
theorem zn {D cs : Array Value} {o t : Nat} (ht : t < D.size) (hs : o + t < cs.size) : (putCells id o D cs)[o + t]? =D[t]? :=by
 unfold putCells
 rw [Array.getElem?_mapIdx,Array.getElem?_eq_getElem hs]
 simp only [Option.map_some]
 rw [if_pos (by omega),Array.getElem?_eq_getElem ht]
 have : o + t - o=t:=by omega
 rw [this,getElem!_pos D t ht]
 rfl
theorem AZ {α : Type} [Inhabited α] {enc : α→List Value} {n : Nat} (hn : ∀ x,(enc x).length=n) {d : Array α} {i j : Nat} (hi : i < d.size) (hj : j < n) : (flatK enc n d)[i * n + j]? =(enc d[i]!)[j]? :=by
 have hlt : i * n + j < d.size * n:=by
  have:=Nat.mul_le_mul_right n (show i + 1≤d.size from hi)
  rw [Nat.succ_mul] at this;omega
 have h1 : i * n + j < (flatK enc n d).size:=by rw [size_flatK];exact hlt
 rw [Array.getElem?_eq_getElem h1,←getElem!_pos (flatK enc n d) _ h1,get_flatK enc n d _ hlt]
 have hd : (i * n + j) / n=i:=by
  rw [Nat.mul_comm,Nat.mul_add_div (by omega),Nat.div_eq_of_lt hj];omega
 have hm : (i * n + j) % n=j:=by
  rw [Nat.mul_comm,Nat.mul_add_mod,Nat.mod_eq_of_lt hj]
 rw [hd,hm]
 have hj' : j < (enc d[i]!).length:=by rw [hn];exact hj
 rw [List.getElem?_eq_getElem hj',getElem!_pos (enc d[i]!) j hj']
theorem sw_b {α : Type} [Inhabited α] {enc : α→List Value} {n b o m : Nat} {w : World} {cs : Array Value} {ty : TypeId} (hb : w.heap[b]? =some (.cells cs ty (0,0))) (d : Array α) (os : Array Obj) : (sortWorldK enc n w b o m d os).heap[b]? =some (.cells (putCells id o (flatK enc n d) cs) ty (0,0)) :=by
 have hlt : b < w.heap.size:=(Array.getElem?_eq_some_iff.1 hb).1
 unfold sortWorldK grow
 simp only
 rw [Array.getElem?_append_left (by unfold putRowK putRow mapBlock Sort.ahead;simpa using hlt)]
 exact JS (w:=Sort.ahead w m) hb _ _
theorem Qr {α : Type} [Inhabited α] {enc : α→List Value} {n b o m c : Nat} {w : World} (hc : c < w.heap.size) (hne : c≠b) (d : Array α) (os : Array Obj) : (sortWorldK enc n w b o m d os).heap[c]? =w.heap[c]? :=by
 unfold sortWorldK grow
 simp only
 rw [Array.getElem?_append_left (by unfold putRowK putRow mapBlock Sort.ahead;simpa using hc)]
 exact AY (w:=Sort.ahead w m) hne _ _
theorem zo {α : Type} [Inhabited α] {enc : α→List Value} {n b o m : Nat} {w : World} (d : Array α) (os : Array Obj) : w.heap.size≤(sortWorldK enc n w b o m d os).heap.size:=by
 unfold sortWorldK grow putRowK putRow mapBlock Sort.ahead
 simp
theorem mh (L : SlLaysF0.n6 P ρ) (aE : ∀ w,(isAgg (ρ.t 24)).run P w= .ok true w) (zE : ∀ w,(Go.sizeOf (ρ.t 24)).run P w= .ok (aa k) w) (hk : wp k) (h0 : 0 < aa k) {g : FuncId} {caps : List SV} {C : List SV→Option Con} (hC : FnOk P g C) {cf : k.T→k.T→Int}
  (hcf : ∀ x y,C (.agg (cellsOf k x) :: .agg (cellsOf k y) :: caps)=some (.det True (.v (.int .i64 (cf x y))))) (hO : SWO (ltOf cf)) (hpf : ∀ s∈caps,PF s) (hcf0 : ∃ x y,C (.agg (cellsOf k x) :: .agg (cellsOf k y) :: caps)=some (.det True (.v (.int .i64 (cf x y))))) : FnOkO P (ρ.f 6) (ed k g caps cf) :=by
 haveI : Inhabited k.T:=⟨dm k⟩
 refine ⟨fun l h c hc args w=> L.f6.enters rfl args w,fun l h c hc hp F own w vs hHp hvs=> ?_⟩
 unfold ed at hc
 obtain ⟨l0,hh,hK⟩ :=sb hc
 clear hc
 subst hh
 by_cases hl : l=[.os 0,.fn g [] caps]
 rotate_left
 ·rw [if_neg hl] at hK;cases hK
 rw [if_pos hl] at hK
 subst hl
 cases hK
 have hp : apart cf l0:=hp
 obtain ⟨hsz,hrel⟩ :=hvs
 have r0:=hrel 0 _ rfl
 have r1:=hrel 1 _ rfl
 have hvs2 : vs= #[vs.getD 0 undef,vs.getD 1 undef] :=by
  apply Array.ext
  ·simpa using hsz
  ·intro i h1 h2
   simp only [List.length_cons,List.length_nil] at hsz
   match i,h1,h2 with
   | 0,h1,_=> simp [Array.getD,h1]
   | 1,h1,_=> simp [Array.getD,h1]
   | i + 2,h1,_=> omega
 generalize vs.getD 0 undef=v0 at r0 hvs2
 generalize vs.getD 1 undef=v1 at r1 hvs2
 subst hvs2
 obtain ⟨hd,o0,rfl,_⟩ :=gM r0
 obtain ⟨hd',o0',hrow⟩ :=hHp.at (id:=0) (o:= .row k l0) rfl rfl
 rw [o0] at o0'
 cases o0'
 have hrow : RowRel F own w k l0 hd.v hd.bs:=hrow
 cases r1 with
 | @fn _ _ _ us cs s1 s2 c1 c2=>
 have hus : us= #[] :=Array.eq_empty_of_size_eq_zero (by simpa using s1)
 subst hus
 rcases hrow with ⟨a,e1,rfl,e2⟩ | ⟨b,o,cap,cells,ty,e1,e2,e3,e4,e5,e6,e7⟩
 ·rw [e1]
  refine (AnyF.slices_SortFunc_none L a 0 _ w).mono fun e w' he=> ?_
  obtain ⟨rfl,rfl⟩ :=he
  refine ⟨(),own,trivial,⟨_,rfl,.tup rfl fun j s hj=> by simp at hj⟩,?_,Fr.refl _,Nat.le_refl _⟩
  have : srt cf ([] : List k.T)=[] :=by simp [srt]
  rw [this]
  exact hHp
 ·have hbown : b∈hd.bs:=by rw [e2];simp
  have hbw : b < w.heap.size:=hHp.lt 0 hd b o0 hbown
  have hkl : ∀ x : k.T,(kU k x).length=aa k:=fun x=> by unfold kU;rw [List.length_map,bf]
  have hone : ∀ x : k.T,∀ v∈kU k x,v.oneCell'=true:=fun x v hv=> by
   unfold kU at hv
   rw [List.mem_map] at hv
   obtain ⟨s,hs,rfl⟩ :=hv
   obtain ⟨v,rfl,h1⟩ :=hk x s hs
   exact h1
  have eg : ∀ args w,(callFunc g args).run P w= .ok (.enter g args) w:=fun args w=> by
   obtain ⟨x,y,hxy⟩ :=hcf0
   exact hC.enter _ _ hxy args w
  have hown : ∀ id h2,own id=some h2→id=0:=fun id h2 e=> by have:=hHp.dom id h2 e;simpa using this
  have hH : HoldsK (kU k) (aa k) w b o l0.toArray:=by
   intro t ht
   rw [size_flatK] at ht
   simp only [List.size_toArray] at ht
   have hi : t / aa k < l0.length:=Nat.div_lt_of_lt_mul (by rw [Nat.mul_comm];exact ht)
   have hj:=Nat.mod_lt t h0
   have ht' : t=t / aa k * aa k + t % aa k:=(Nat.div_add_mod' t _).symm
   have q1:=Gw hk e7 hi hj
   have q2:=AZ (enc:=kU k) hkl (d:=l0.toArray) (i:=t / aa k) (j:=t % aa k) (by simpa using hi) hj
   rw [←ht'] at q2
   rw [Nat.add_assoc,←ht'] at q1
   have hl0 : l0.toArray[t / aa k]! =l0[t / aa k] :=by rw [getElem!_pos l0.toArray _ (by simpa using hi)];rfl
   rw [hl0] at q2
   have hlt : t < (flatK (kU k) (aa k) l0.toArray).size:=by rw [size_flatK];simpa using ht
   constructor
   ·unfold World.cell?
    rw [e3]
    dsimp only
    rw [q1,←q2,Array.getElem?_eq_getElem hlt,getElem!_pos _ t hlt]
    rfl
   ·unfold World.frozen?
    rw [e3]
    simp
  have hcmp : CmpLays P g cs (kU k) (aa k) cf b o l0.toArray.size w:=by
   intro m os dk hdk x y
   generalize hW : sortWorldK (kU k) (aa k) w b o m dk os=W
   have hcar : Carries F own w F own W:=⟨fun _ h2 e=> ⟨h2,e,.refl _⟩,fun c hc hn=> ⟨hn,by
    rw [←hW]
    exact Qr hc (fun e=> hn (.inr ⟨0,hd,o0,e▸hbown⟩)) _ _⟩⟩
   have henc : ∀ z : k.T,Rel (fun _=> False) b8 W (.agg (cellsOf k z)) (.agg (kU k z).toArray) :=fun z=> by
    refine .agg (by simp [kU]) fun j s hj=> ?_
    obtain ⟨v,rfl,_⟩ :=hk z s (List.mem_of_getElem? hj)
    have : (kU k z).toArray.getD j undef=v:=by
     unfold kU
     rw [Array.getD_eq_getD_getElem?,List.getElem?_toArray,List.getElem?_map,hj]
     rfl
    rw [this];exact .v v
   have hcall:=AX (hC.calls _ _ (hcf x y) trivial (fun _=> False) W (#[.agg (kU k x).toArray,.agg (kU k y).toArray] ++ cs) (fun _ h=> h.elim) ⟨by simp [c1];omega,fun j s hj=> by
    match j,hj with
    | 0,hj=>
     cases hj
     rw [Array.getD_eq_getD_getElem?,Array.getElem?_append_left (by simp)]
     exact henc x
    | 1,hj=>
     cases hj
     rw [Array.getD_eq_getD_getElem?,Array.getElem?_append_left (by simp)]
     exact henc y
    | j + 2,hj=>
     have hj : caps[j]? =some s:=hj
     have:=((c2 j s hj).carry hcar).over (hpf s (List.mem_of_getElem? hj)) (F':=fun _=> False) (own':=b8) fun _ _ h=> by
      rcases h with h | ⟨_,_,h,_⟩
      ·exact h
      ·cases h
     have e : (#[Value.agg (kU k x).toArray,.agg (kU k y).toArray] ++ cs).getD (j + 2) undef=cs.getD j undef:=by
      rw [Array.getD_eq_getD_getElem?,Array.getD_eq_getD_getElem?,Array.getElem?_append_right (by simp)]
      simp
     rw [e];exact this⟩)
   refine hcall.mono fun e w' hq=> ?_
   obtain ⟨he,hdr⟩ :=hq
   rcases he with ⟨s,u,own',hs,rfl,hh,hb⟩ | ⟨z,hz,_⟩
   ·simp only [cy] at hs
    subst hs
    have:=hh.val
    simp only [oJ] at this
    rw [bJ this]
    exact ⟨rfl,O6 hb (hdr (by simp))⟩
   ·exact hz.elim
  have hall:=AnyQ.slices_SortFunc L (aa k) aE zE (kU k) hkl hone cf hO g cs b o cap l0.toArray w eg hcmp hH hbw (by unfold bg at e6;simp only [List.size_toArray];omega)
  rw [e1]
  refine hall.mono fun e w' he=> ?_
  obtain ⟨rfl,d',n,os,hpm,hst,rfl⟩ :=he
  have hd':=CU hO hp hpm hst
  subst hd'
  have hlS : (srt cf l0).length=l0.length:=List.length_mergeSort _
  generalize srt cf l0=lS at hlS
  have hsb:=sw_b (enc:=kU k) (n:=aa k) (o:=o) (m:=n) e3 lS.toArray os
  refine ⟨(),own,trivial,⟨_,rfl,.tup rfl fun j s hj=> by simp at hj⟩,?_,?_,Nat.le_refl _⟩
  ·refine ⟨hHp.dom,fun c hc=> Nat.lt_of_lt_of_le (hHp.foreign c hc) (zo _ _),hHp.apart,hHp.inj,fun i h2 c e hc=> Nat.lt_of_lt_of_le (hHp.lt i h2 c e hc) (zo _ _),fun i hi=> ?_⟩
   match i,hi with
   | 0,_=>
    refine ⟨hd,o0,?_⟩
    show RowRel F own _ k lS hd.v hd.bs
    refine .inr ⟨b,o,cap,_,ty,by rw [hlS];exact e1,e2,hsb,?_,by omega,by omega,Gx hk fun i j hi hj=> ?_⟩
    ·unfold putCells;simpa using e4
    ·have hlt : i * aa k + j < (flatK (kU k) (aa k) lS.toArray).size:=by
      rw [size_flatK]
      have:=Nat.mul_le_mul_right (aa k) (show i + 1≤lS.length from hi)
      rw [Nat.succ_mul] at this
      simp only [List.size_toArray];omega
     have hle : o + (i * aa k + j) < cells.size:=by
      rw [size_flatK] at hlt
      simp only [List.size_toArray] at hlt
      have:=Nat.mul_le_mul_right (aa k) (show lS.length≤cap by omega)
      omega
     rw [Nat.add_assoc,zn hlt hle,AZ hkl (by simpa using hi) hj]
     have : lS.toArray[i]! =lS[i] :=by rw [getElem!_pos lS.toArray _ (by simpa using hi)];rfl
     rw [this]
   | i + 1,hi=> rw [mL (by simp)] at hi;cases hi
  ·refine ⟨fun _ h2 e=> ⟨h2,e,.refl _⟩,(Fr.refl { w:=w,own:=own}).base,rfl,rfl,rfl,zo _ _,fun c hc=> ?_⟩
   exact Qr hc.1 (fun e=> hc.2 ⟨0,hd,o0,e▸hbown⟩) _ _
end
end Go.Sx
end
section
namespace Go.Proofs
open Go.Shelf
def Tryz.sortL_ren : Go.Shelf.Ren:=⟨fun | 6=> 97 | 15=> 112 | 14=> 130 | 28=> 146 | 29=> 147 | 20=> 155 | 21=> 156 | 22=> 157 | 23=> 158 | 24=> 159 | 25=> 160 | 26=> 161 | 27=> 162 | 46=> 177 | 47=> 167 | 48=> 168 | 49=> 178 | 50=> 179 | 57=> 185 | n=> n,fun | 22=> 35 | 24=> 54 | 25=> 85 | 3=> 3 | 39=> 166 | 0=> 0 | 53=> 202 | 55=> 204 | 4=> 4 | 46=> 196 | 45=> 195 | 50=> 147 | 5=> 5 | 9=> 9 | 66=> 215 | 70=> 219 | 76=> 227 | 77=> 228 | n=> n,fun | n=> n⟩
theorem Tryz.sortL : Go.Proofs.SlLaysF0.n6 Tryz.prog Tryz.sortL_ren:= {
 mixed:=by kernel_rfl
 f6:=⟨Tryz.f97.name,by decide,Tryz.func97.trans (congrArg some (by kernel_rfl))⟩
 f14:=⟨Tryz.f130.name,by decide,Tryz.func130.trans (congrArg some (by kernel_rfl))⟩
 f15:=Tryz.func112.trans (congrArg some (by kernel_rfl))
 f20:=⟨Tryz.f155.name,by decide,Tryz.func155.trans (congrArg some (by kernel_rfl))⟩
 f21:=⟨Tryz.f156.name,by decide,Tryz.func156.trans (congrArg some (by kernel_rfl))⟩
 f22:=⟨Tryz.f157.name,by decide,Tryz.func157.trans (congrArg some (by kernel_rfl))⟩
 f23:=⟨Tryz.f158.name,by decide,Tryz.func158.trans (congrArg some (by kernel_rfl))⟩
 f24:=⟨Tryz.f159.name,by decide,Tryz.func159.trans (congrArg some (by kernel_rfl))⟩
 f25:=⟨Tryz.f160.name,by decide,Tryz.func160.trans (congrArg some (by kernel_rfl))⟩
 f26:=⟨Tryz.f161.name,by decide,Tryz.func161.trans (congrArg some (by kernel_rfl))⟩
 f27:=⟨Tryz.f162.name,by decide,Tryz.func162.trans (congrArg some (by kernel_rfl))⟩
 f28:=Tryz.func146.trans (congrArg some (by kernel_rfl))
 f29:=Tryz.func147.trans (congrArg some (by kernel_rfl))
 f46:=⟨Tryz.f177.name,by decide,Tryz.func177.trans (congrArg some (by kernel_rfl))⟩
 f47:=Tryz.func167.trans (congrArg some (by kernel_rfl))
 f48:=Tryz.func168.trans (congrArg some (by kernel_rfl))
 f49:=⟨Tryz.f178.name,by decide,Tryz.func178.trans (congrArg some (by kernel_rfl))⟩
 f50:=⟨Tryz.f179.name,by decide,Tryz.func179.trans (congrArg some (by kernel_rfl))⟩
 f57:=⟨Tryz.f185.name,by decide,Tryz.func185.trans (congrArg some (by kernel_rfl))⟩
 t0:=Tryz.underlying0
 a0:=Tryz.isAgg0
 z0:=Tryz.sizeOf0
 v0:=Tryz.zeroValue0
 t3:=Tryz.underlying3
 a3:=Tryz.isAgg3
 z3:=Tryz.sizeOf3
 v3:=Tryz.zeroValue3
 t4:=Tryz.underlying4
 a4:=Tryz.isAgg4
 z4:=Tryz.sizeOf4
 v4:=Tryz.zeroValue4
 t5:=Tryz.underlying5
 a5:=Tryz.isAgg5
 z5:=Tryz.sizeOf5
 v5:=Tryz.zeroValue5
 t9:=Tryz.underlying9
 a9:=Tryz.isAgg9
 z9:=Tryz.sizeOf9
 v9:=Tryz.zeroValue9
 t22:=Tryz.underlying35
 a22:=Tryz.isAgg35
 z22:=Tryz.sizeOf35
 v22:=Tryz.zeroValue35
 t25:=Tryz.underlying85
 a25:=Tryz.isAgg85
 z25:=Tryz.sizeOf85
 v25:=Tryz.zeroValue85
 t39:=Tryz.underlying166
 a39:=Tryz.isAgg166
 z39:=Tryz.sizeOf166
 v39:=Tryz.zeroValue166
 t45:=Tryz.underlying195
 a45:=Tryz.isAgg195
 z45:=Tryz.sizeOf195
 v45:=Tryz.zeroValue195
 t46:=Tryz.underlying196
 a46:=Tryz.isAgg196
 z46:=Tryz.sizeOf196
 v46:=Tryz.zeroValue196
 t50:=Tryz.underlying147
 a50:=Tryz.isAgg147
 z50:=Tryz.sizeOf147
 v50:=Tryz.zeroValue147
 t53:=Tryz.underlying202
 a53:=Tryz.isAgg202
 z53:=Tryz.sizeOf202
 v53:=Tryz.zeroValue202
 t55:=Tryz.underlying204
 a55:=Tryz.isAgg204
 z55:=Tryz.sizeOf204
 v55:=Tryz.zeroValue204
 t66:=Tryz.underlying215
 a66:=Tryz.isAgg215
 z66:=Tryz.sizeOf215
 v66:=Tryz.zeroValue215
 t70:=Tryz.underlying219
 a70:=Tryz.isAgg219
 z70:=Tryz.sizeOf219
 v70:=Tryz.zeroValue219
 t76:=Tryz.underlying227
 a76:=Tryz.isAgg227
 z76:=Tryz.sizeOf227
 v76:=Tryz.zeroValue227
 t77:=Tryz.underlying228
 a77:=Tryz.isAgg228
 z77:=Tryz.sizeOf228
 v77:=Tryz.zeroValue228}
end Go.Proofs
end
section
namespace Go.Sx
open Go.Proofs
set_option maxRecDepth 100000
set_option linter.unusedSimpArgs false
theorem A0 {p : Prop} (h : p:=by (first | done | (repeat' (first | with_reducible refine And.intro ?_ ?_ | ((with_reducible show _≠_);first | assumption | omega | (simp_all [aG,aM];done) | grind) | with_reducible intro _)) <;> (first | done | exact Empty.elim ‹Empty› | assumption | rfl | omega | decide | exact fk [] | (simp only [*,cond_true,cond_false,Bool.not_true,Bool.not_false,go_sem,Nat.reduceBEq,Nat.reduceLeDiff,Nat.reduceLT,decide_true,Nat.reduceAdd,Nat.reduceSub,Nat.reduceMul,Int.reduceLE,Int.reduceLT,Int.reduceToNat,Int.reduceNeg,reduceCtorEq];done) | (simp only [*,cond_true,cond_false,Bool.not_true,Bool.not_false,go_sem,Nat.reduceBEq,Nat.reduceLeDiff,Nat.reduceLT,decide_true,Nat.reduceAdd,Nat.reduceSub,Nat.reduceMul,Int.reduceLE,Int.reduceLT,Int.reduceToNat,Int.reduceNeg,reduceCtorEq];(repeat' (first | with_reducible refine And.intro ?_ ?_ | ((with_reducible show _≠_);first | assumption | omega | (simp_all [aG,aM];done) | grind) | with_reducible intro _)) <;> (first | done | assumption | rfl | omega | decide | exact fk [] | (simp_all [aG,aM];done))) | (simp_all [okI,aG,aM];done) | (simp_all [aG,aM];(first | done | exact fk2 [])) | exact fk2 []))) : p:=h
theorem JT {p : Prop} (h : p:=by simp only [go_sem,Nat.reduceBEq,Nat.reduceLeDiff,Nat.reduceLT,decide_true,Nat.reduceAdd,Nat.reduceSub,Nat.reduceMul,Int.reduceLE,Int.reduceLT,Int.reduceToNat,Int.reduceNeg,reduceCtorEq,hc,hw];all_goals exact A0) : p:=h
theorem JU {p : Prop} (h : p:=by simp only [go_sem,Nat.reduceBEq,Nat.reduceLeDiff,Nat.reduceLT,decide_true,Nat.reduceAdd,Nat.reduceSub,Nat.reduceMul,Int.reduceLE,Int.reduceLT,Int.reduceToNat,Int.reduceNeg,reduceCtorEq,hc];all_goals exact A0) : p:=h
@[go_sem] def lC (l_ : List Int) (k_0 : Nat) (s_0 : Unit) : Int⊕Unit:=(bif ((l_.getD k_0 (0 : Int)) !=0) then .inl (l_.getD k_0 (0 : Int)) else .inr ())
def bN (l_ : List Int) : Int:=(match az (lC l_) l_.length 0 () with | .inl x_0_0=> x_0_0 | .inr s_0=> 0)
@[go_sem] def eQ : List SV→Option Con:=(pR .int fun l_=> (pE (.det True (.v (.int .i64 (bN l_))))))
set_option maxHeartbeats 4000000 in
theorem fC : FnOk Tryz.prog 69 eQ:=by
 have hG : ConsOk Tryz.prog (mkG [] []) :=aQ cg0 cg0
 refine a8 [.o] mixed aH hG (fn:=Tryz.f69) (c:=an Tryz.f69) (by kernel_rfl) (by kernel_rfl) (by kernel_rfl) (by kernel_rfl) (dl fun l_=> (aN (fun hp=> ?_)))
 dsimp only [aT] at hp
 refine ⟨Nat.le_of_ble_eq_true rfl,(fun id st=> bif Nat.beq id 0 then some (LCR (ρ:=Int) (σ:=Unit) 0 [] [] (fun k_0 s_0=> ⟨[(5,.rs .int l_),(6,.v (.int .i64 (l_.length : Int))),(7,.v (.int .i64 (k_0 : Int)))],[]⟩) (lC l_) pT l_.length () (l_.length≤bg) (fun _=> .ret) (fun x_0_0=> ⟨[(2,.v (.int .i64 x_0_0))],[]⟩) st) else none),?_,?_⟩
 ·unfold an Tryz.f69
  simp only [aA,true_and,and_true]
  ·refine db mixed aH hG (by kernel_rfl) (fun _=> rfl) (l_.length : Int) rfl kQ (fun hb0 k_0 s_0 hlt0 _ hw hc=> ⟨L0,ay _,?_⟩) (fun hb0 s_0 hc=> ?_)
   ·exact JT
   ·exact JU
 ·unfold an Tryz.f69
  try unfold bN
  simp only [go_sem,Nat.reduceBEq,Nat.reduceLeDiff,Nat.reduceLT,decide_true,Nat.reduceAdd,Nat.reduceSub,Nat.reduceMul,Int.reduceLE,Int.reduceLT,Int.reduceToNat,Int.reduceNeg,reduceCtorEq]
  all_goals exact cl
def aq (a : Order) (b : Order) : Int:=(bN ([(aS a.hour b.hour),(aS a.index b.index)]))
@[go_sem] def ji : List SV→Option Con:=(pD .order fun a=> (pD .order fun b=> (pE (.det True (.v (.int .i64 (aq a b)))))))
theorem nK : FnOk Tryz.prog 108 ji:=by
 have hG : ConsOk Tryz.prog (mkG [(69,fun l=> eQ (c6 [.sl .int] l)),(70,cA)] []) :=aQ (cgc (fC.norm [.sl .int]) (cgc c7 cg0)) cg0
 refine a8 [.o] mixed aH hG (fn:=Tryz.f108) (c:=an Tryz.f108) (by kernel_rfl) (by kernel_rfl) (by kernel_rfl) (by kernel_rfl) (bI fun a=> (bI fun b=> (aN (fun hp=> ?_))))
 dsimp only [aT] at hp
 refine ⟨Nat.le_of_ble_eq_true rfl,L0,ay _,?_⟩
 ·unfold an Tryz.f108
  try unfold aq
  simp only [go_sem,Nat.reduceBEq,Nat.reduceLeDiff,Nat.reduceLT,decide_true,Nat.reduceAdd,Nat.reduceSub,Nat.reduceMul,Int.reduceLE,Int.reduceLT,Int.reduceToNat,Int.reduceNeg,reduceCtorEq]
  all_goals exact cl
def iT (x : Order) : Bool:=(decide (x.litres > 1073741824))
@[go_sem] def kC : List SV→Option Con:=(pD .order fun x=> (pE (.det True (.v (.bool (iT x))))))
theorem pc : FnOk Tryz.prog 65 kC:=by
 have hG : ConsOk Tryz.prog (mkG [] []) :=aQ cg0 cg0
 refine a8 [.o] mixed aH hG (fn:=Tryz.f65) (c:=an Tryz.f65) (by kernel_rfl) (by kernel_rfl) (by kernel_rfl) (by kernel_rfl) (bI fun x=> (aN (fun hp=> ?_)))
 dsimp only [aT] at hp
 refine ⟨Nat.le_of_ble_eq_true rfl,L0,ay _,?_⟩
 ·unfold an Tryz.f65
  try unfold iT
  simp only [go_sem,Nat.reduceBEq,Nat.reduceLeDiff,Nat.reduceLT,decide_true,Nat.reduceAdd,Nat.reduceSub,Nat.reduceMul,Int.reduceLE,Int.reduceLT,Int.reduceToNat,Int.reduceNeg,reduceCtorEq]
  all_goals exact cl
def bq (a : Claim) (b : Claim) : Int:=(bN ([(aS a.rank b.rank),(aS a.right b.right),(aS a.farm b.farm),(aS a.hour b.hour)]))
@[go_sem] def ij : List SV→Option Con:=(pD .claim fun a=> (pD .claim fun b=> (pE (.det True (.v (.int .i64 (bq a b)))))))
theorem kD : FnOk Tryz.prog 36 ij:=by
 have hG : ConsOk Tryz.prog (mkG [(69,fun l=> eQ (c6 [.sl .int] l)),(70,cA)] []) :=aQ (cgc (fC.norm [.sl .int]) (cgc c7 cg0)) cg0
 refine a8 [.o] mixed aH hG (fn:=Tryz.f36) (c:=an Tryz.f36) (by kernel_rfl) (by kernel_rfl) (by kernel_rfl) (by kernel_rfl) (bI fun a=> (bI fun b=> (aN (fun hp=> ?_))))
 dsimp only [aT] at hp
 refine ⟨Nat.le_of_ble_eq_true rfl,L0,ay _,?_⟩
 ·unfold an Tryz.f36
  try unfold bq
  simp only [go_sem,Nat.reduceBEq,Nat.reduceLeDiff,Nat.reduceLT,decide_true,Nat.reduceAdd,Nat.reduceSub,Nat.reduceMul,Int.reduceLE,Int.reduceLT,Int.reduceToNat,Int.reduceNeg,reduceCtorEq]
  all_goals exact cl
def bj (a : Claim) (b : Claim) : Int:=(bN ([(aS a.hour b.hour),(bq a b)]))
@[go_sem] def jk : List SV→Option Con:=(pD .claim fun a=> (pD .claim fun b=> (pE (.det True (.v (.int .i64 (bj a b)))))))
theorem nL : FnOk Tryz.prog 71 jk:=by
 have hG : ConsOk Tryz.prog (mkG [(36,ij),(69,fun l=> eQ (c6 [.sl .int] l)),(70,cA)] []) :=aQ (cgc kD (cgc (fC.norm [.sl .int]) (cgc c7 cg0))) cg0
 refine a8 [.o] mixed aH hG (fn:=Tryz.f71) (c:=an Tryz.f71) (by kernel_rfl) (by kernel_rfl) (by kernel_rfl) (by kernel_rfl) (bI fun a=> (bI fun b=> (aN (fun hp=> ?_))))
 dsimp only [aT] at hp
 refine ⟨Nat.le_of_ble_eq_true rfl,L0,ay _,?_⟩
 ·unfold an Tryz.f71
  try unfold bj
  simp only [go_sem,Nat.reduceBEq,Nat.reduceLeDiff,Nat.reduceLT,decide_true,Nat.reduceAdd,Nat.reduceSub,Nat.reduceMul,Int.reduceLE,Int.reduceLT,Int.reduceToNat,Int.reduceNeg,reduceCtorEq]
  all_goals exact cl
end Go.Sx
end
section
namespace Go.Sx
open Go.Proofs
theorem re (x : Int) (l : List Int) : bN (x :: l)=if x=0 then bN l else x:=by
 have key : ∀ l : List Int,bN l=match cq (ρ:=Int) (fun (x : Int) (_ : Unit) => bif (x !=0) then .inl x else .inr ()) l () with | .inl y=> y | .inr _=> 0:=fun l=> by
  unfold bN
  have:=zc (ρ:=Int) (fun (x : Int) (_ : Unit) => bif (x !=0) then .inl x else .inr ()) 0 l ()
  rw [←this]
  rfl
 rw [key,key]
 simp only [cq]
 by_cases h : x=0
 ·subst h;rfl
 ·have : (x !=0)=true:=by simpa using h
  rw [if_neg h,this];rfl
theorem yf : bN []=0:=rfl
def ku : List (Int×Int)→Prop
 | [] => False
 | (a,b) :: r=> a < b∨a=b∧ku r
theorem tB : ∀ l : List (Int×Int),(bN (l.map fun p=> aS p.1 p.2) < 0↔ku l)
 | [] => by simp [yf,ku]
 | (a,b) :: r=> by
  have hc:=ix a b
  simp only [List.map_cons,re,hc,ku]
  rcases Int.lt_trichotomy a b with h | h | h
  ·simp [h]
  ·subst h
   simp only [Int.lt_irrefl,if_false,if_true,true_and,false_or,gt_iff_lt]
   exact tB r
  ·have h1 : ¬ a < b:=by omega
   have h2 : a≠b:=by omega
   simp [h1,h2,h]
theorem Gy (x : Int) : bN [x]=x:=by
 rw [re,yf]
 split <;> omega
def Gz (a b : Order) : Prop:=ku [(a.hour,b.hour),(a.index,b.index)]
theorem nM (a b : Order) : aq a b < 0↔Gz a b:=tB [(a.hour,b.hour),(a.index,b.index)]
def slt (a b : Claim) : Prop:=ku [(a.rank,b.rank),(a.right,b.right),(a.farm,b.farm),(a.hour,b.hour)]
theorem qe (a b : Claim) : bq a b < 0↔slt a b:=tB [(a.rank,b.rank),(a.right,b.right),(a.farm,b.farm),(a.hour,b.hour)]
def clt (a b : Claim) : Prop:=ku [(a.hour,b.hour),(a.rank,b.rank),(a.right,b.right),(a.farm,b.farm)]
theorem rf (a b : Claim) : bj a b < 0↔clt a b:=by
 unfold bj
 rw [re,Gy,ix]
 have h:=qe a b
 simp only [slt,clt,ku,and_false,or_false] at h ⊢
 rcases Int.lt_trichotomy a.hour b.hour with e | e | e
 ·simp only [e,if_true]
  have : ¬ ((-1 : Int)=0) :=by omega
  rw [if_neg this]
  simp
 ·simp only [e,Int.lt_irrefl,gt_iff_lt,if_false,if_true,false_or,true_and]
  rw [h];omega
 ·have h1 : ¬ a.hour < b.hour:=by omega
  have h2 : ¬ a.hour=b.hour:=by omega
  simp only [h1,gt_iff_lt,e,if_true,if_false,false_or,h2,false_and,iff_false]
  have : ¬ ((1 : Int)=0) :=by omega
  rw [if_neg this];omega
open Go.Shelf Go.Sort in
theorem CV {α : Type} {f : α→α→Int} {r : α→α→Prop} (e : ∀ x y,f x y < 0↔r x y) (h1 : ∀ x,¬ r x x) (h2 : ∀ x y z,r x y→r y z→r x z) (h3 : ∀ x y z,¬ r x y→¬ r y z→¬ r x z) : SWO (ltOf f) :=by
 have e1 : ∀ x y,ltOf f x y=true↔r x y:=fun x y=> by unfold ltOf;rw [decide_eq_true_eq,e]
 have e2 : ∀ x y,ltOf f x y=false↔¬ r x y:=fun x y=> by rw [←e1];simp
 exact ⟨fun x=> (e2 x x).2 (h1 x),fun x y z a b=> (e1 x z).2 (h2 x y z ((e1 x y).1 a) ((e1 y z).1 b)),fun x y z a b=> (e2 x z).2 (h3 x y z ((e2 x y).1 a) ((e2 y z).1 b))⟩
open Go.Shelf Go.Sort in
theorem dT : SWO (ltOf aq) :=CV nM (fun x=> by simp only [Gz,ku,and_false,or_false];omega) (fun x y z h1 h2=> by simp only [Gz,ku,and_false,or_false] at *;omega) (fun x y z h1 h2=> by simp only [Gz,ku,and_false,or_false] at *;omega)
open Go.Shelf Go.Sort in
theorem rg : SWO (ltOf bq) :=CV qe (fun x=> by simp only [slt,ku,and_false,or_false];omega) (fun x y z h1 h2=> by simp only [slt,ku,and_false,or_false] at *;omega) (fun x y z h1 h2=> by simp only [slt,ku,and_false,or_false] at *;omega)
open Go.Shelf Go.Sort in
theorem j6 : SWO (ltOf bj) :=CV rf (fun x=> by simp only [clt,ku,and_false,or_false];omega) (fun x y z h1 h2=> by simp only [clt,ku,and_false,or_false] at *;omega) (fun x y z h1 h2=> by simp only [clt,ku,and_false,or_false] at *;omega)
end Go.Sx
end
section
namespace Go.Sx
open Go.RowKit
def orC {α : Type 1} : Option α→Option α→Option α
 | some x,_=> some x
 | none,y=> y
@[go_sem] theorem V3 {α : Type 1} {x : α} {y : Option α} : orC (some x) y=some x:=(rfl)
@[go_sem] theorem V4 {α : Type 1} {y : Option α} : orC none y=y:=(rfl)
theorem qf {α : Type 1} {a b : Option α} {c : α} (h : orC a b=some c) : a=some c∨b=some c:=by
 cases a with
 | none=> exact .inr h
 | some x=> exact .inl h
theorem FnOkO.or {P : Program} {f : FuncId} {C D : List SV→List Ob→Option HCon} (h1 : FnOkO P f C) (h2 : FnOkO P f D) : FnOkO P f (fun l h=> orC (C l h) (D l h)) :=
 ⟨fun l h c hc=> by rcases qf hc with e | e;exact h1.enter l h c e;exact h2.enter l h c e,
  fun l h c hc=> by rcases qf hc with e | e;exact h1.calls l h c e;exact h2.calls l h c e⟩
theorem FnOk.or {P : Program} {f : FuncId} {C D : List SV→Option Con} (h1 : FnOk P f C) (h2 : FnOk P f D) : FnOk P f (fun l=> orC (C l) (D l)) :=
 ⟨fun l c hc=> by rcases qf hc with e | e;exact h1.enter l c e;exact h2.enter l c e,
  fun l c hc=> by rcases qf hc with e | e;exact h1.calls l c e;exact h2.calls l c e⟩
end Go.Sx
end
section
namespace Go.Sx
open Go.RowKit Go.Shelf Go.Lib Go.Sort Go.Proofs
set_option maxRecDepth 100000
noncomputable def ik : List SV→List Ob→Option HCon:=fun l h=> orC (ed .order 121 [.ep [gR] 0] ax l h) (ed .order 108 [] aq l h)
@[go_sem] theorem Lm {l0 : List Order} : ik [.os 0,.fn 121 [] [.ep [gR] 0]] [.row .order l0]=some (nG (apart ax l0) (.tup []) [.row .order (srt ax l0)]) :=by
 unfold ik
 rw [jP];rfl
@[go_sem] theorem JV {l0 : List Order} : ik [.os 0,.fn 108 [] []] [.row .order l0]=some (nG (apart aq l0) (.tup []) [.row .order (srt aq l0)]) :=by
 unfold ik
 rw [jP]
 have : ed .order 121 [.ep [gR] 0] ax [.os 0,.fn 108 [] []] [.row .order l0]=none:=by simp [ed,v_]
 rw [this];rfl
theorem t8 : wp .order:=fun x s hs=> by
 simp only [cellsOf,List.mem_cons,List.not_mem_nil,or_false] at hs
 rcases hs with rfl | rfl | rfl | rfl
 all_goals exact ⟨_,rfl,rfl⟩
theorem JW (x y : Order) : ff (.agg (cellsOf .order x) :: .agg (cellsOf .order y) :: [.ep [gR] 0])=some (.det True (.v (.int .i64 (ax x y)))) :=by
 simp only [go_sem,Nat.reduceBEq]
theorem ua (x y : Order) : ji (.agg (cellsOf .order x) :: .agg (cellsOf .order y) :: [])=some (.det True (.v (.int .i64 (aq x y)))) :=by
 simp only [go_sem,Nat.reduceBEq]
theorem ub : FnOkO Tryz.prog 97 ik:=by
 refine FnOkO.or ?_ ?_
 ·refine mh (k:= .order) Tryz.sortL (fun w=> by kernel_rfl) (fun w=> by kernel_rfl) t8 (by decide) (g:=121) (caps:=[.ep [gR] 0]) n8 (cf:=ax) JW nI (fun s hs=> ?_) ⟨default,default,JW _ _⟩
  simp only [List.mem_cons,List.not_mem_nil,or_false] at hs
  subst hs
  exact dQ 5 _ rfl
 ·exact mh (k:= .order) Tryz.sortL (fun w=> by kernel_rfl) (fun w=> by kernel_rfl) t8 (by decide) (g:=108) (caps:=[]) nK (cf:=aq) ua dT (fun s hs=> by cases hs) ⟨default,default,ua _ _⟩
end Go.Sx
end
section
namespace Go.Sx
open Go.RowKit
def GA (k : Tag) (i : Nat) (t : List (Nat×SV)) (h : List Ob) : SV→St
 | .v (.slice none 0 0) => ⟨(i,.os h.length) :: t,h ++ [.row k []]⟩
 | _=> ⟨t,h⟩
def JX (k : Tag) (id off : Nat) (t : List (Nat×SV)) (h : List Ob) (l : List SV) : Option SV→St
 | some (.v (.slice none 0 0)) => ⟨t,bU h id (.cells (l.set off (.os h.length))) ++ [.row k []]⟩
 | _=> ⟨t,h⟩
def O7 (k : Tag) (id off : Nat) (t : List (Nat×SV)) (h : List Ob) : Ob→St
 | .cells l=> JX k id off t h l (nth l off)
 | _=> ⟨t,h⟩
def JY (k : Tag) (t : List (Nat×SV)) (h : List Ob) : SV→St
 | .ptr id off=> O7 k id off t h (ar h id)
 | _=> ⟨t,h⟩
def A1 (k : Tag) : ResultVar→List (Nat×SV)→List Ob→St
 | .tmp i,t,h=> GA k i t h (lk i t)
 | .cell i _,t,h=> JY k t h (lk i t)
def wq : List (ResultVar×Tag)→St→St
 | [],st=> st
 | x :: r,st=> wq r (A1 x.2 x.1 st.t st.h)
theorem O8 (k : Tag) (r : ResultVar) (st : St) : NilS st (A1 k r st.t st.h) :=by
 obtain ⟨t,h⟩ :=st
 cases r with
 | tmp i=>
  show NilS _ (GA k i t h (lk i t))
  unfold GA
  split
  ·rename_i e
   exact .slot _ (.refl _) e (.inl ⟨_,rfl⟩)
  ·exact .refl _
 | cell i _=>
  show NilS _ (JY k t h (lk i t))
  unfold JY
  split
  ·unfold O7
   split
   ·rename_i e
    unfold JX
    split
    ·rename_i e2
     exact .cell _ (.refl _) e (by rw [←dC];exact e2) (.inl ⟨_,rfl⟩)
    ·exact .refl _
   ·exact .refl _
  ·exact .refl _
theorem NilS.trans {a b c : St} (h1 : NilS a b) (h2 : NilS b c) : NilS a c:=by
 induction h2 with
 | refl=> exact h1
 | cell o _ e1 e2 ho ih=> exact .cell o ih e1 e2 ho
 | slot o _ e1 ho ih=> exact .slot o ih e1 ho
theorem Se (l : List (ResultVar×Tag)) : ∀ st,NilS st (wq l st) :=by
 induction l with
 | nil=> exact fun st=> .refl _
 | cons x r ih=> exact fun st=> (O8 x.2 x.1 st).trans (ih _)
def Fh (l : List (ResultVar×Tag)) (rs : List ResultVar) (ts : Tis) (post : SV→Prop) (pp : Value→Prop) : Ex→St→Prop
 | .exit _,_=> False
 | .normal,st=> cO post (qL true rs ts (wq l st))
 | .ret,st=> cO post (qL true rs ts (wq l st))
 | .pan x,_=> pp x
section
variable {l : List (ResultVar×Tag)} {rs : List ResultVar} {ts : Tis} {post : SV→Prop} {pp : Value→Prop} {st : St} {k : Tag} {i id off : Nat} {t : List (Nat×SV)} {h : List Ob} {m : List SV}
@[go_sem] theorem Uo : Fh l rs ts post pp .ret st=cO post (qL true rs ts (wq l st)) :=(rfl)
@[go_sem] theorem O9 : Fh l rs ts post pp .normal st=cO post (qL true rs ts (wq l st)) :=(rfl)
@[go_sem] theorem Uq {x : Value} : Fh l rs ts post pp (.pan x) st=pp x:=(rfl)
@[go_sem] theorem V5 : wq [] st=st:=(rfl)
@[go_sem] theorem Ur {r : ResultVar} : wq ((r,k) :: l) ⟨t,h⟩=wq l (A1 k r t h) :=(rfl)
@[go_sem] theorem Us : A1 k (.tmp i) t h=GA k i t h (lk i t) :=(rfl)
@[go_sem] theorem Sf {ty : TypeId} : A1 k (.cell i ty) t h=JY k t h (lk i t) :=(rfl)
@[go_sem] theorem V6 : GA k i t h (.v (.slice none 0 0))=⟨(i,.os h.length) :: t,h ++ [.row k []]⟩ :=(rfl)
@[go_sem] theorem Xz : GA k i t h (.os id)=⟨t,h⟩ :=(rfl)
@[go_sem] theorem V7 : JY k t h (.ptr id off)=O7 k id off t h (ar h id) :=(rfl)
@[go_sem] theorem Sg : O7 k id off t h (.cells m)=JX k id off t h m (nth m off) :=(rfl)
@[go_sem] theorem V8 : JX k id off t h m (some (.v (.slice none 0 0)))=⟨t,bU h id (.cells (m.set off (.os h.length))) ++ [.row k []]⟩ :=(rfl)
@[go_sem] theorem XA : JX k id off t h m (some (.os i))=⟨t,h⟩ :=(rfl)
attribute [go_sem] List.set_cons_zero
end
section
variable {P : Program} {ts : Tis} {G : Cons}
theorem wr (l : List (ResultVar×Tag)) (hm : P.follows .mixedOrders=true) (hts : ts.ok P) (hG : ConsOk P G) {f : FuncId} {fn : Func} {c : Code} (hf : P.funcs[f]? =some fn) (hb : fn.body=some c) (hname : (fn.name== "runtime.NumGoroutine")=false)
  (hc : bY fn.ntmps c=true) {C : List SV→Option Con}
  (h : ∀ l0 con,C l0=some con→aT con→l0.length≤fn.ntmps∧∃ L,aA P none fn.ntmps L c∧exec ts G L c ⟨ip 0 l0,[]⟩ (Fh l fn.results.toList ts (cy con) (ig con))) : FnOk P f C:=by
 refine ⟨fun l con _ args w=> ?_,fun l0 con hcon hpre F w vs hF hvs=> ?_⟩
 ·have hn : ¬ fn.name= "runtime.NumGoroutine" :=by simpa using hname
  simp [callFunc,hf,hn,hb]
 ·obtain ⟨hlen,L,hl,hx⟩ :=h l0 con hcon hpre
  refine jt (n:=0) (callsIn_of_wp_marks hf hb trivial ?_)
  have hr : StRel F { w:=w,own:=b8} fn.ntmps b8 ⟨ip 0 l0,[]⟩ { tmps:=vs ++ Array.replicate (fn.ntmps - vs.size) undef,defers:=[]} w:=
   ⟨by have:=hvs.1;simp;omega,Dfr.nil,r7 hF,Fr.refl _,fun t=> iw hvs _ t⟩
  refine wpIn_mono (jK hm hts hG c hc hl F _ _ hx b8 _ w hr) ?_
  intro e a' w' hq
  have key : ∀ F1 own st,(∀ b,F b→F1 b)→StRel F1 { w:=w,own:=b8} fn.ntmps own st a' w'→cO (cy con) (qL true fn.results.toList ts (wq l st))→LeavesInM (rd none) 0 P fn a'.tmps
    (fun e w'=> (∃ s u own',cy con s∧e= .returned u∧Handed F w own' w' s u∧Below w.heap.size w w')∨(∃ x,ig con x∧e= .panicked [{ v:=x,recovered:=false}]∧Below w.heap.size w w')) a'.defers .returning w':=by
   intro F1 own0' st0 hF1 hst0 hdone
   obtain ⟨own,hst⟩ :=(Se l st0).rel hst0
   generalize wq l st0=st at hst hdone
   refine gb hst (by simp) fun w2 hst2=> ?_
   have hst3:=hst2.less hF1 rfl
   unfold qL at hdone
   cases hs : je (ib ts st fn.results.toList) with
   | none=>
    simp only [cond_true,FQ] at hdone;rw [hs] at hdone;exact hdone.elim
   | some s=>
    obtain ⟨u,e1,e2⟩ :=qa (P:=P) hts hst3 hs
    refine ⟨u,e1,.inl ?_⟩
    simp only [cond_true,FQ] at hdone
    rw [hs] at hdone
    change cO (cy con) (tS st.h s) at hdone
    cases hg : tS st.h s with
    | none=> rw [hg] at hdone;exact hdone.elim
    | some s2=>
     rw [hg] at hdone
     obtain ⟨own',hh⟩ :=Dz hst3 e2 hg
     exact ⟨_,u,own',hdone,rfl,hh,j5 hst3.fr⟩
  cases e with
  | normal=> obtain ⟨F1,own,st,h0,h1,h2⟩ :=hq;exact key F1 own st h0 h1 h2
  | ret=> obtain ⟨F1,own,st,h0,h1,h2⟩ :=hq;exact key F1 own st h0 h1 h2
  | exit id=> obtain ⟨F1,own,st,h0,h1,h2⟩ :=hq;exact h2.elim
  | panic ch=>
   obtain ⟨x,F1,own,st,h0,h1,h2,rfl⟩ :=hq
   exact gb h1 (by simp) fun w2 hst2=> .inr ⟨x,h2,rfl,j5 hst2.fr⟩
  | _=> exact hq.elim
end
end Go.Sx
end
section
namespace Go.Sx
open Go.Proofs
set_option maxRecDepth 100000
@[go_sem] def pd : List SV→Option Con:=pR .order fun l=> pE (.det (l.length * 32≤dY) (.nw .order l))
theorem uA : FnOk Tryz.prog 94 pd:=by
 have hG : ConsOk Tryz.prog (mkG [] []) :=aQ cg0 cg0
 refine wr [(.tmp 2,.order)] mixed aH hG (fn:=Tryz.f94) (c:=an Tryz.f94) (by kernel_rfl) (by kernel_rfl) (by kernel_rfl) (by kernel_rfl) (dl fun l=> aN fun hp=> ?_)
 dsimp only [aT] at hp
 refine ⟨Nat.le_of_ble_eq_true rfl,L0,ay _,?_⟩
 unfold an Tryz.f94
 simp only [go_sem,Nat.reduceBEq,Nat.reduceLeDiff,Nat.reduceAdd,Nat.reduceSub,Nat.reduceMul,Int.reduceLE,Int.reduceLT,Int.reduceToNat,Int.reduceNeg,reduceCtorEq]
 intro b hb
 refine ⟨fun h=> ?_,fun _=> ⟨hp,fun _=> rfl⟩⟩
 have hl:=hb h
 subst hl
 rfl
end Go.Sx
end
section
namespace Go.Sx
open Go.RowKit
abbrev RF:= { r : Nat→Res // ∀ k,(r k).n=k}
def A2 (items : List (List SV)) (r : RF) : List SV→Res→Option YCon:=itY items r.1
@[go_sem] theorem XB {items : List (List SV)} {r : RF} {k : Nat} {args : List SV} : A2 items r args (r.1 (k + 1))=some (AI (items[k]? =some args) r.1 (k + 2)) :=zf r.2 k args
section
variable {ρ σ : Type}
def lcy (pre : Prop) (run : ρ⊕σ) (exE : ρ→Ex) (outE : ρ→St) (outN : σ→St) (stp : St) : LCon where
 α:=Option (ρ⊕σ)
 pre:=pre
 post:=fun | none=> True | some r=> r=run
 ex:=fun | none=> .ret | some (.inl x) => exE x | some (.inr _) => .normal
 out:=fun | none=> stp | some (.inl x) => outE x | some (.inr s) => outN s
def LCY (m : Nat) (ns : List NLoc) (js : List Nat) (D : Nat→σ→St) (step : Nat→σ→ρ⊕σ) (p : Nat→σ→Prop) (n : Nat) (s0 : σ) (B : Prop) (exE : ρ→Ex) (outE : ρ→St) (stp : St) (st : St) : LCon:=
 lcy (lp m ns js st (D 0 s0)∧B∧okI step p n 0 s0) (az step n 0 s0) exE outE (D n) stp
def Sh (m : Nat) (ns : List NLoc) (js : List Nat) (D : Nat→σ→St) (step : Nat→σ→ρ⊕σ) (p : Nat→σ→Prop) (n : Nat) (s0 : σ) (exE : ρ→Ex) (outE : ρ→St) (stp : St) (st : St) : LCon:=
 lcy (lp m ns js st (D 0 s0)∧okI step p n 0 s0∧∀ s,az step n 0 s0≠ .inr s) (az step n 0 s0) exE outE (D n) stp
variable {m : Nat} {ns : List NLoc} {js : List Nat} {step : Nat→σ→ρ⊕σ} {p : Nat→σ→Prop} {n : Nat} {s0 : σ} {B : Prop} {exE : ρ→Ex} {outE : ρ→St} {stp st : St} {Q : Ex→St→Prop} {D : Nat→σ→St}
theorem yg {pre : Prop} {run : ρ⊕σ} {outN : σ→St} : kA Q (some (lcy pre run exE outE outN stp))=(pre∧(∀ x,run= .inl x→Q (exE x) (outE x))∧(∀ s,run= .inr s→Q .normal (outN s))∧Q .ret stp) :=by
 apply propext
 constructor
 ·rintro ⟨h1,h2⟩
  exact ⟨h1,fun x hx=> h2 (some (.inl x)) hx.symm,fun s hs=> h2 (some (.inr s)) hs.symm,h2 none trivial⟩
 ·rintro ⟨h1,h2,h3,h4⟩
  refine ⟨h1,fun r hr=> ?_⟩
  match r,hr with
  | none,_=> exact h4
  | some (.inl x),hr=> exact h2 x hr.symm
  | some (.inr s),hr=> exact h3 s hr.symm
@[go_sem] theorem Ut : kA Q (some (LCY m ns js D step p n s0 B exE outE stp st))=((lp m ns js st (D 0 s0)∧B∧okI step p n 0 s0)∧(∀ x,az step n 0 s0= .inl x→Q (exE x) (outE x))∧(∀ s,az step n 0 s0= .inr s→Q .normal (D n s))∧Q .ret stp) :=yg
@[go_sem] theorem Si : kA Q (some (Sh m ns js D step p n s0 exE outE stp st))=((lp m ns js st (D 0 s0)∧okI step p n 0 s0∧∀ s,az step n 0 s0≠ .inr s)∧(∀ x,az step n 0 s0= .inl x→Q (exE x) (outE x))∧Q .ret stp) :=by
 refine yg.trans ?_
 apply propext
 constructor
 ·rintro ⟨h1,h2,_,h4⟩;exact ⟨h1,h2,h4⟩
 ·rintro ⟨h1,h2,h4⟩;exact ⟨h1,h2,fun s hs=> absurd hs (h1.2.2 s),h4⟩
def cY (step : Nat→σ→ρ⊕σ) (exE : ρ→Ex) (outE : ρ→St) (D : Nat→σ→St) (stp : St) (m id k : Nat) (s : σ) : Ex→St→Prop
 | .normal,st=> mS D m k st (step k s)
 | .exit j,st=> iJ exE outE m (bif Nat.beq j id then .normal else .exit j) st (step k s)
 | .ret,st=> iJ exE outE m .ret st (step k s)∨fw stp m st
 | .pan x,st=> iJ exE outE m (.pan x) st (step k s)
variable {id k j : Nat} {s : σ} {x : Value} {e e' : Ex}
@[go_sem] theorem Uu : cY step exE outE D stp m id k s .normal st=mS D m k st (step k s) :=(rfl)
@[go_sem] theorem XC : cY step exE outE D stp m id k s (.exit j) st=iJ exE outE m (bif Nat.beq j id then .normal else .exit j) st (step k s) :=(rfl)
@[go_sem] theorem ZC : cY step exE outE D stp m id k s .ret st=(iJ exE outE m .ret st (step k s)∨fw stp m st) :=(rfl)
@[go_sem] theorem ZD : cY step exE outE D stp m id k s (.pan x) st=iJ exE outE m (.pan x) st (step k s) :=(rfl)
@[congr] theorem V9 {st' : St} (h : st=st') (he : e=e') : cY step exE outE D stp m id k s e st=cY step exE outE D stp m id k s e' st':=by rw [h,he]
end
section
variable {P : Program} {ρ σ : Type} {ts : Tis} {G : Cons} {ro : Option Nat} {N : Nat} {id : Nat} {c : Code} {C : St→Option LCon} {m : Nat} {ns : List NLoc} {js : List Nat} {step : Nat→σ→ρ⊕σ} {p : Nat→σ→Prop} {n : Nat} {s0 : σ} {exE : ρ→Ex} {outE : ρ→St} {D : Nat→σ→St} {stp : St}
theorem JZ {n0 : Nat} (hn0 : n0=m) {s : σ} {k : Nat} (hlt : k < n) {I : Nat×σ→Prop} {μ : Nat×σ→Nat} {outN : σ→St} {pre : Prop} {run : ρ⊕σ}
  (hI : ∀ s',step k s= .inr s'→I (k + 1,s')∧μ (k + 1,s') < μ (k,s)) (hx : ∀ x,step k s= .inl x→run= .inl x) :
  ∀ e st',cY step exE outE D stp m id k s e st'→nA (fun x : Nat×σ=> D x.1 x.2) I μ n0 (k,s) id (fun e st'=> ∃ r js,(lcy pre run exE outE outN stp).post r∧(lcy pre run exE outE outN stp).ex r=e∧n0≤((lcy pre run exE outE outN stp).out r).h.length∧Sub js n0 st' ((lcy pre run exE outE outN stp).out r)) e st':=by
 subst hn0
 have hfin : ∀ e st',iJ exE outE n0 e st' (step k s)→∃ r js,(lcy pre run exE outE outN stp).post r∧(lcy pre run exE outE outN stp).ex r=e∧n0≤((lcy pre run exE outE outN stp).out r).h.length∧Sub js n0 st' ((lcy pre run exE outE outN stp).out r) :=by
  intro e st' q
  cases hs : step k s with
  | inr s'=> rw [hs] at q;exact q.elim
  | inl x=>
   rw [hs] at q
   obtain ⟨q2,js,q3,q4⟩ :=q
   exact ⟨some (.inl x),js,(hx x hs).symm,q2,q3,q4⟩
 intro e st' hq
 cases e with
 | normal=>
  change mS D n0 k st' (step k s) at hq
  cases hs : step k s with
  | inl x=> rw [hs] at hq;exact hq.elim
  | inr s'=>
   rw [hs] at hq
   obtain ⟨js,q3,q4⟩ :=hq
   obtain ⟨i1,i2⟩ :=hI s' hs
   exact ⟨(k + 1,s'),js,i1,i2,q3,q4⟩
 | exit j=>
  change iJ exE outE n0 (bif Nat.beq j id then .normal else .exit j) st' (step k s) at hq
  show bif Nat.beq j id then _ else _
  cases hb : Nat.beq j id with
  | true=> rw [hb] at hq;exact hfin _ _ hq
  | false=> rw [hb] at hq;exact hfin _ _ hq
 | ret=>
  rcases hq with hq | hq
  ·exact hfin _ _ hq
  ·obtain ⟨js,q3,q4⟩ :=hq
   exact ⟨none,js,trivial,rfl,q3,q4⟩
 | pan x=> exact hfin _ _ hq
theorem sw {B : Prop} (hm : P.follows .mixedOrders=true) (hts : ts.ok P) (hG : ConsOk P G) (hc : bY N c=true) (hC : ∀ st,C st=some (LCY m ns js D step p n s0 B exE outE stp st)) (M : Int) (hn : n=M.toNat) (hB : B→M < 9223372036854775808)
  (h : B→∀ k s,k < n→p k s→IntKind.i64.wrap ((k : Int) + 1)=((k + 1 : Nat) : Int)→decide ((k : Int) < M)=true→∃ L,aA P ro N L c∧exec ts G L c (D k s) (cY step exE outE D stp m id k s))
  (h2 : B→∀ s,decide ((n : Int) < M)=false→exec ts G L0 c (D n s) (cZ (D n s) m id)) : gN P ro N id (.loop c) C:=by
 refine oO hm hts hG hc fun st lc hC' hp=> ?_
 rw [hC st] at hC'
 cases hC'
 obtain ⟨⟨hlen,hok,hle,hsub⟩,hB',h1⟩ :=hp
 refine ⟨Nat×σ,fun x=> D x.1 x.2,fun x=> x.1≤n∧okI step p (n - x.1) x.1 x.2∧az step (n - x.1) x.1 x.2=az step n 0 s0,fun x=> n - x.1,(0,s0),mkN ns st,js,⟨Nat.zero_le _,by simpa using h1,by simp⟩,qZ ns st st (.refl _) hok,by rw [hlen];exact hle,by rw [hlen];exact hsub,?_⟩
 rintro ⟨k,s⟩ ⟨hk,hJ,hrun⟩
 simp only at hk hJ hrun
 rcases Nat.lt_or_ge k n with hlt | hge
 ·rw [show n - k=(n - k - 1) + 1 by omega] at hrun hJ
  obtain ⟨L,hl,hex⟩ :=h hB' k s hlt hJ.1 (DD (hn▸hlt) (hB hB')) (decide_eq_true (by omega))
  have hI : ∀ s',step k s= .inr s'→okI step p (n - (k + 1)) (k + 1) s'∧az step (n - (k + 1)) (k + 1) s'=az step n 0 s0:=fun s' hs=> by
   have:=hJ.2 s' hs
   rw [show n - k - 1=n - (k + 1) by omega] at this hrun
   simp only [az,hs] at hrun
   exact ⟨this,hrun⟩
  have hx : ∀ x,step k s= .inl x→az step n 0 s0= .inl x:=fun x hs=> by
   simp only [az,hs] at hrun
   exact hrun.symm
  exact ⟨L,_,hl,fun e st' q=> JZ hlen hlt (fun s' hs=> ⟨⟨hlt,hI s' hs⟩,by simp only;omega⟩) hx e st' q,hex⟩
 ·have hkn : k=n:=by omega
  subst hkn
  have hex:=h2 hB' s (by rw [decide_eq_false_iff_not];omega)
  refine ⟨L0,_,ay c,fun e st' hq=> ?_,hex⟩
  simp only [Nat.sub_self,az] at hrun
  cases e with
  | exit j=>
   change bif Nat.beq j id then fw (D k s) m st' else False at hq
   show bif Nat.beq j id then _ else _
   cases hb : Nat.beq j id with
   | true=>
    rw [hb] at hq
    obtain ⟨js,q3,q4⟩ :=hq
    exact ⟨some (.inr s),js,hrun,rfl,by rw [hlen];exact q3,by rw [hlen];exact q4⟩
   | false=> rw [hb] at hq;exact hq.elim
  | _=> exact hq.elim
theorem GB (hm : P.follows .mixedOrders=true) (hts : ts.ok P) (hG : ConsOk P G) (hc : bY N c=true) (hC : ∀ st,C st=some (Sh m ns js D step p n s0 exE outE stp st))
  (h : ∀ k s,p k s→∃ L,aA P ro N L c∧exec ts G L c (D k s) (cY step exE outE D stp m id k s)) : gN P ro N id (.loop c) C:=by
 refine oO hm hts hG hc fun st lc hC' hp=> ?_
 rw [hC st] at hC'
 cases hC'
 obtain ⟨⟨hlen,hok,hle,hsub⟩,h1,hno⟩ :=hp
 refine ⟨Nat×σ,fun x=> D x.1 x.2,fun x=> x.1≤n∧okI step p (n - x.1) x.1 x.2∧az step (n - x.1) x.1 x.2=az step n 0 s0,fun x=> n - x.1,(0,s0),mkN ns st,js,⟨Nat.zero_le _,by simpa using h1,by simp⟩,qZ ns st st (.refl _) hok,by rw [hlen];exact hle,by rw [hlen];exact hsub,?_⟩
 rintro ⟨k,s⟩ ⟨hk,hJ,hrun⟩
 simp only at hk hJ hrun
 rcases Nat.lt_or_ge k n with hlt | hge
 ·rw [show n - k=(n - k - 1) + 1 by omega] at hrun hJ
  obtain ⟨L,hl,hex⟩ :=h k s hJ.1
  have hI : ∀ s',step k s= .inr s'→okI step p (n - (k + 1)) (k + 1) s'∧az step (n - (k + 1)) (k + 1) s'=az step n 0 s0:=fun s' hs=> by
   have:=hJ.2 s' hs
   rw [show n - k - 1=n - (k + 1) by omega] at this hrun
   simp only [az,hs] at hrun
   exact ⟨this,hrun⟩
  have hx : ∀ x,step k s= .inl x→az step n 0 s0= .inl x:=fun x hs=> by
   simp only [az,hs] at hrun
   exact hrun.symm
  exact ⟨L,_,hl,fun e st' q=> JZ hlen hlt (fun s' hs=> ⟨⟨hlt,hI s' hs⟩,by simp only;omega⟩) hx e st' q,hex⟩
 ·have hkn : k=n:=by omega
  subst hkn
  simp only [Nat.sub_self,az] at hrun
  exact absurd hrun.symm (hno s)
end
def j7 (n : Nat) : List Ob:=List.replicate n .dead
def A3 (items : List (List SV)) (r : RF) (n : Nat) : Ex→St→Prop
 | .normal,st=> fw ⟨[],.ab (r.1 0) :: j7 n⟩ (n + 1) ⟨[],st.h⟩∨fw ⟨[],.ab (r.1 (items.length + 1)) :: j7 n⟩ (n + 1) ⟨[],st.h⟩
 | .ret,st=> fw ⟨[],.ab (r.1 0) :: j7 n⟩ (n + 1) ⟨[],st.h⟩∨fw ⟨[],.ab (r.1 (items.length + 1)) :: j7 n⟩ (n + 1) ⟨[],st.h⟩
 | _,_=> False
section
variable {items : List (List SV)} {r : RF} {n : Nat} {st : St} {e e' : Ex}
@[go_sem] theorem O_ : A3 items r n .normal st=(fw ⟨[],.ab (r.1 0) :: j7 n⟩ (n + 1) ⟨[],st.h⟩∨fw ⟨[],.ab (r.1 (items.length + 1)) :: j7 n⟩ (n + 1) ⟨[],st.h⟩) :=(rfl)
@[go_sem] theorem Uv : A3 items r n .ret st=(fw ⟨[],.ab (r.1 0) :: j7 n⟩ (n + 1) ⟨[],st.h⟩∨fw ⟨[],.ab (r.1 (items.length + 1)) :: j7 n⟩ (n + 1) ⟨[],st.h⟩) :=(rfl)
@[congr] theorem Qs {st' : St} (h : st=st') (he : e=e') : A3 items r n e st=A3 items r n e' st':=by rw [h,he]
@[go_sem] theorem XD : j7 0=[] :=(rfl)
@[go_sem] theorem XE : j7 1=[.dead] :=(rfl)
@[go_sem] theorem XF : j7 2=[.dead,.dead] :=(rfl)
@[go_sem] theorem XG : j7 3=[.dead,.dead,.dead] :=(rfl)
@[go_sem] theorem XH : j7 4=[.dead,.dead,.dead,.dead] :=(rfl)
end
theorem A4 {js : List Nat} {n0 : Nat} {h h' : List Ob} (q : Sub js n0 ⟨[],h⟩ ⟨[],h'⟩) : Sub js n0 ⟨[(0,.tup [])],h⟩ ⟨[(0,.tup [])],h'⟩ :=by
 refine ⟨q.1,?_,q.2.2⟩
 simp only [FR,lk]
 exact ⟨⟨rfl,rfl⟩,trivial⟩
open Classical in
theorem CW {P : Program} {ts : Tis} {G : RF→Cons} (hm : P.follows .mixedOrders=true) (hts : ts.ok P) {f : FuncId} {fn : Func} {c : Code} (hf : P.funcs[f]? =some fn) (hb : fn.body=some c) (hname : (fn.name== "runtime.NumGoroutine")=false) (hc : bY fn.ntmps c=true) (hr : fn.results.toList=[])
  {items : List (List SV)} {mk : SV→List SV} {hs : List Ob} {n : Nat} (hn : hs.length=n)
  (h : ∀ r : RF,YOk P (A2 items r)→ConsOk P (G r)∧(mk (.os 0)).length≤fn.ntmps∧∃ L,aA P none fn.ntmps L c∧exec ts (G r) L c ⟨ip 0 (mk (.os 0)),.ab (r.1 1) :: hs⟩ (A3 items r n))
  (he : ∀ (args : Array Value) (w : World),(callFunc f args).run P w= .ok (.enter f args) w) : xg P f mk hs items:=by
 refine HV (fun r0 hr0 hy=> ?_) he
 obtain ⟨hG,h1,L,h2,h3⟩ :=h ⟨r0,hr0⟩ hy
 refine ⟨fun l o=> if l=mk (.os 0)∧o= .ab (r0 1) :: hs then some { α:=Bool,pre:=True,post:=fun _=> True,res:=fun b=> .ret (.tup []) (.ab (r0 (if b then items.length + 1 else 0)) :: j7 n)} else none,?_,_,if_pos ⟨rfl,rfl⟩,trivial,fun b _=> ⟨_,_,_,rfl,by cases b <;> simp⟩⟩
 refine AF hm hts hG hf hb hname hc fun l o con hC _=> ?_
 split at hC
 rotate_left
 ·cases hC
 rename_i hlo
 obtain ⟨rfl,rfl⟩ :=hlo
 cases hC
 refine ⟨h1,L,_,h2,fun e st hq=> ?_,h3⟩
 have key : ∀ st : St,(fw ⟨[],.ab (r0 0) :: j7 n⟩ (n + 1) ⟨[],st.h⟩∨fw ⟨[],.ab (r0 (items.length + 1)) :: j7 n⟩ (n + 1) ⟨[],st.h⟩)→vg (Ob.ab (r0 1) :: hs).length { α:=Bool,pre:=True,post:=fun _=> True,res:=fun b=> .ret (.tup []) (.ab (r0 (if b then items.length + 1 else 0)) :: j7 n)} (je (ib ts st fn.results.toList)) st.h:=fun st q=> by
  rw [hr]
  show ∃ r s' h' js,_
  rcases q with ⟨js,q1,q2⟩ | ⟨js,q1,q2⟩
  ·exact ⟨false,_,_,js,trivial,rfl,by rw [List.length_cons,hn];exact q1,by rw [List.length_cons,hn];exact A4 q2⟩
  ·exact ⟨true,_,_,js,trivial,rfl,by rw [List.length_cons,hn];exact q1,by rw [List.length_cons,hn];exact A4 q2⟩
 cases e with
 | normal=> exact key st hq
 | ret=> exact key st hq
 | exit j=> exact hq.elim
 | pan x=> exact hq.elim
section
variable {ρ σ τ : Type}
theorem tC {step : τ→σ→ρ⊕σ} : ∀ {a b : List τ} {s s' : σ},cq step a s= .inr s'→cq step (a ++ b) s=cq step b s'
 | [],_,_,_,h=> by simp only [cq,Sum.inr.injEq] at h;subst h;rfl
 | x :: a,b,s,s',h=> by
  simp only [List.cons_append,cq] at h ⊢
  cases hs : step x s with
  | inl y=> rw [hs] at h;cases h
  | inr s1=> rw [hs] at h;simp only at h ⊢;exact tC h
theorem A5 {step : τ→σ→ρ⊕σ} {p : τ→σ→Prop} : ∀ {a b : List τ} {s s' : σ},cq step a s= .inr s'→okL step p (a ++ b) s→okL step p b s'
 | [],_,_,_,h,hk=> by simp only [cq,Sum.inr.injEq] at h;subst h;exact hk
 | x :: a,b,s,s',h,hk=> by
  simp only [List.cons_append,cq] at h hk
  cases hs : step x s with
  | inl y=> rw [hs] at h;cases h
  | inr s1=> rw [hs] at h;exact A5 h (hk.2 s1 hs)
def LCP (m : Nat) (ns : List NLoc) (js : List Nat) (D : List Nat→Option Nat→σ→St) (step : τ→σ→ρ⊕σ) (p : τ→σ→Prop) (l : List τ) (s0 : σ) (exE : ρ→Ex) (outE : ρ→St) (outN : σ→St) (st : St) : LCon where
 α:=ρ⊕σ
 pre:=lp m ns js st (D (List.range l.length) none s0)∧∀ L,L.Perm l→okL step p L s0
 post:=fun r=> ∃ L,L.Perm l∧cq step L s0=r
 ex:=fun | .inl x=> exE x | .inr _=> .normal
 out:=fun | .inl x=> outE x | .inr s=> outN s
variable {m : Nat} {ns : List NLoc} {js : List Nat} {step : τ→σ→ρ⊕σ} {p : τ→σ→Prop} {l : List τ} {s0 : σ} {exE : ρ→Ex} {outE : ρ→St} {outN : σ→St} {st : St} {Q : Ex→St→Prop} {D : List Nat→Option Nat→σ→St}
@[go_sem] theorem Uw : kA Q (some (LCP m ns js D step p l s0 exE outE outN st))=((lp m ns js st (D (List.range l.length) none s0)∧∀ L,L.Perm l→okL step p L s0)∧∀ L,L.Perm l→(∀ x,cq step L s0= .inl x→Q (exE x) (outE x))∧∀ s,cq step L s0= .inr s→Q .normal (outN s)) :=by
 apply propext
 constructor
 ·rintro ⟨h1,h2⟩
  exact ⟨h1,fun L hL=> ⟨fun x hx=> h2 (.inl x) ⟨L,hL,hx⟩,fun s hs=> h2 (.inr s) ⟨L,hL,hs⟩⟩⟩
 ·rintro ⟨h1,h2⟩
  refine ⟨h1,fun r ⟨L,hL,hr⟩ => ?_⟩
  cases r with
  | inl x=> exact (h2 L hL).1 x hr
  | inr s=> exact (h2 L hL).2 s hr
variable {P : Program} {ts : Tis} {G : Cons} {ro : Option Nat} {N id : Nat} {c : Code} {C : St→Option LCon}
theorem J0 (d : τ) (it : Nat) (hm : P.follows .mixedOrders=true) (hts : ts.ok P) (hG : ConsOk P G) (hc : bY N c=true) (hC : ∀ st,C st=some (LCP m ns js D step p l s0 exE outE outN st))
  (h : ∀ left cur s,(∀ j,j∈left→j < l.length∧p (l.getD j d) s)→∃ L,aA P ro N L c∧exec ts G L c (D left cur s) (cM step l d exE outE outN D m id it left s)) : gN P ro N id (.loop c) C:=by
 refine oO hm hts hG hc fun st lc hC' hp=> ?_
 rw [hC st] at hC'
 cases hC'
 obtain ⟨⟨hlen,hok,hle,hsub⟩,hO⟩ :=hp
 subst hlen
 have hfix : ∀ q : List Nat,q.Perm (List.range l.length)→(q.map fun j=> l.getD j d).Perm l:=fun q hq=> by
  have:=hq.map (fun j=> l.getD j d)
  rwa [v6] at this
 refine ⟨List Nat×Option Nat×σ,fun x=> D x.1 x.2.1 x.2.2,fun x=> ∃ q : List Nat,(q ++ x.1).Perm (List.range l.length)∧cq step (q.map fun j=> l.getD j d) s0= .inr x.2.2,fun x=> x.1.length,(List.range l.length,none,s0),mkN ns st,js,⟨[],.refl _,rfl⟩,qZ ns st st (.refl _) hok,hle,hsub,?_⟩
 rintro ⟨left,cur,s⟩ ⟨q,hq,hrun⟩
 simp only at hq hrun
 have hmem : ∀ j,j∈left→(q ++ j :: left.erase j).Perm (List.range l.length) :=fun j hj=> ((List.perm_cons_erase hj).symm.append_left q).trans hq
 have hp0 : ∀ j,j∈left→j < l.length∧p (l.getD j d) s:=fun j hj=> by
  refine ⟨List.mem_range.1 (hq.mem_iff.1 (List.mem_append_right _ hj)),?_⟩
  have:=hO _ (hfix _ (hmem j hj))
  rw [List.map_append] at this
  exact (A5 hrun this).1
 obtain ⟨L,hl,hex⟩ :=h left cur s hp0
 refine ⟨L,_,hl,?_,hex⟩
 have hfin : ∀ e st' o,exC step l d exE outE st.h.length left s e st' o→∃ r js,(LCP st.h.length ns js D step p l s0 exE outE outN st).post r∧(LCP st.h.length ns js D step p l s0 exE outE outN st).ex r=e∧st.h.length≤((LCP st.h.length ns js D step p l s0 exE outE outN st).out r).h.length∧Sub js st.h.length st' ((LCP st.h.length ns js D step p l s0 exE outE outN st).out r) :=by
  intro e st' o z
  cases o with
  | none=> exact z.elim
  | some j=>
   obtain ⟨hj,z⟩ :=z
   cases hs : step (l.getD j d) s with
   | inr s'=> rw [hs] at z;exact z.elim
   | inl x=>
    rw [hs] at z
    obtain ⟨q2,js2,q3,q4⟩ :=z
    refine ⟨.inl x,js2,⟨_,hfix _ (hmem j hj),?_⟩,q2,q3,q4⟩
    rw [List.map_append,tC hrun]
    simp only [List.map_cons,cq,hs]
 intro e st' hz
 cases e with
 | normal=>
  change nxC step l d D st.h.length left s st' (qY (ar st'.h it)) at hz
  cases ho : qY (ar st'.h it) with
  | none=> rw [ho] at hz;exact hz.elim
  | some j=>
   rw [ho] at hz
   obtain ⟨hj,hz⟩ :=hz
   cases hs : step (l.getD j d) s with
   | inl x=> rw [hs] at hz;exact hz.elim
   | inr s'=>
    rw [hs] at hz
    obtain ⟨js2,q3,q4⟩ :=hz
    refine ⟨(left.erase j,some j,s'),js2,⟨q ++ [j],?_,?_⟩,?_,q3,q4⟩
    ·rw [List.append_assoc];exact hmem j hj
    ·rw [List.map_append,tC hrun]
     simp only [List.map_cons,List.map_nil,cq,hs]
    ·have:=List.length_pos_of_mem hj
     simp only [List.length_erase_of_mem hj];omega
 | exit j=>
  have hz' : (bif Nat.beq j id then (left=[]→fw (outN s) st.h.length st')∧(left≠[]→exC step l d exE outE st.h.length left s .normal st' (qY (ar st'.h it))) else exC step l d exE outE st.h.length left s (.exit j) st' (qY (ar st'.h it))) :=hz
  show bif Nat.beq j id then _ else _
  cases hb : Nat.beq j id with
  | true=>
   rw [hb] at hz'
   simp only [cond_true] at hz' ⊢
   by_cases hlt : left=[]
   ·obtain ⟨js2,q3,q4⟩ :=hz'.1 hlt
    refine ⟨.inr s,js2,⟨_,hfix q (by rw [hlt,List.append_nil] at hq;exact hq),hrun⟩,rfl,q3,q4⟩
   ·exact hfin _ _ _ (hz'.2 hlt)
  | false=>
   rw [hb] at hz'
   exact hfin _ _ _ hz'
 | ret=> exact hfin _ _ _ hz
 | pan x=> exact hfin _ _ _ hz
end
theorem fkY {st2 st : St} {n0 : Nat} (js : List Nat) (h1 : n0≤st2.h.length:=by (first | (show _≤_;decide) | (simp only [*,go_sem,Nat.reduceBEq,Nat.reduceLeDiff,Nat.reduceAdd,Nat.reduceSub,Nat.reduceMul,Int.reduceLE,Int.reduceLT,Int.reduceToNat,Int.reduceNeg,reduceCtorEq];done) | (simp only [*,go_sem,Nat.reduceBEq,Nat.reduceLeDiff,Nat.reduceAdd,Nat.reduceSub,Nat.reduceMul,Int.reduceLE,Int.reduceLT,Int.reduceToNat,Int.reduceNeg,reduceCtorEq];(repeat' (first | with_reducible refine And.intro ?_ ?_ | ((with_reducible show _≠_);first | assumption | omega | (simp_all [aG,aM];done) | grind) | with_reducible intro _)) <;> (first | rfl | decide | assumption | omega | (simp_all [aG,aM];done) | fail)))) (h2 : Sub js n0 st st2:=by (first | (show _≤_;decide) | (simp only [*,go_sem,Nat.reduceBEq,Nat.reduceLeDiff,Nat.reduceAdd,Nat.reduceSub,Nat.reduceMul,Int.reduceLE,Int.reduceLT,Int.reduceToNat,Int.reduceNeg,reduceCtorEq];done) | (simp only [*,go_sem,Nat.reduceBEq,Nat.reduceLeDiff,Nat.reduceAdd,Nat.reduceSub,Nat.reduceMul,Int.reduceLE,Int.reduceLT,Int.reduceToNat,Int.reduceNeg,reduceCtorEq];(repeat' (first | with_reducible refine And.intro ?_ ?_ | ((with_reducible show _≠_);first | assumption | omega | (simp_all [aG,aM];done) | grind) | with_reducible intro _)) <;> (first | rfl | decide | assumption | omega | (simp_all [aG,aM];done) | fail)))) : fw st2 n0 st:=zh js h1 h2
theorem Sj {α : Type 1} {G : List SV→α→Prop} {X : SV} {k : List SV→Option α} (h : ∀ l c,k l=some c→G (X :: l) c) : ∀ l c,pQ X k l=some c→G l c:=fun l c hc=> by
 obtain ⟨r,rfl,h1⟩ :=zi hc;exact h r c h1
theorem clP {p : Prop} (h : p:=by ((repeat' (first | with_reducible refine And.intro ?_ ?_ | ((with_reducible show _≠_);first | assumption | omega | (simp_all [aG,aM];done) | grind) | with_reducible intro _)) <;> (first | done | exact Empty.elim ‹Empty› | assumption | rfl | omega | (simp_all only [aG,aM];done) | (simp_all only [aG,aM];grind)))) : p:=h
end Go.Sx
end
section
namespace Go.Sx
open Go.Proofs
def wu (x : Int×Int) : List SV:=[.v (.int .i64 x.1),.v (.int .i64 x.2)]
def qm (H : Nat) : Nat→List (Int×Int)
 | 0=> []
 | r + 1=> ((List.range H).map fun h : Nat=> ((r : Int),(h : Int))) ++ qm H r
def bv (d : District) : List (Int×Int) :=qm d.hours.toNat d.reaches.length
theorem Qt {j : Nat} (hj : j≤bg) : IntKind.i64.wrap ((j : Int) - 1)=(j : Int) - 1:=by unfold bg at hj;exact da (by omega) (by omega)
theorem sA {p : Pk} {f : FuncId} {a b : List SV} : ql [p] (.fn f a b)=sS p (.fn f a b) :=(rfl)
theorem sB {f : FuncId} {a b : List SV} : sS .o (.fn f a b)= .fn f a b:=(rfl)
@[go_sem] def ez : List SV→Option Con:=pD .district fun d=> pE (.det True (.fn 129 [] [.ep (cellsOf .district d) 0]))
theorem sC : FnOk Tryz.prog 95 ez:=by
 have hG : ConsOk Tryz.prog (mkG [] []) :=aQ cg0 cg0
 refine a8 [.o] mixed aH hG (fn:=Tryz.f95) (c:=an Tryz.f95) (by kernel_rfl) (by kernel_rfl) (by kernel_rfl) (by kernel_rfl) (bI fun l=> aN fun hp=> ?_)
 refine ⟨Nat.le_of_ble_eq_true rfl,L0,ay _,?_⟩
 unfold an Tryz.f95
 simp only [go_sem,sA,sB,Nat.reduceBEq,Nat.reduceLeDiff,Nat.reduceAdd,Nat.reduceSub,Nat.reduceMul]
theorem Pa {α : Type} {l m : List α} {x : α} {k : Nat} (h : l.drop k=x :: m) : l[k]? =some x∧k + 1≤l.length∧l.drop (k + 1)=m:=by
 have h0 : (l.drop k)[0]? =l[k]? :=by rw [List.getElem?_drop];rfl
 rw [h] at h0
 refine ⟨h0.symm,?_,by rw [←List.drop_drop,h];rfl⟩
 have:=(List.getElem?_eq_some_iff.1 h0.symm).1
 omega
def uB (r H h : Nat) : List (Int×Int) :=((List.range' h (H - h)).map fun h : Nat=> ((r : Int),(h : Int)))
theorem k8 {r H h : Nat} (hh : h < H) : uB r H h=((r : Int),(h : Int)) :: uB r H (h + 1) :=by
 unfold uB
 rw [show H - h=(H - (h + 1)) + 1 by omega,List.range'_succ]
 rfl
theorem sD {r H : Nat} : uB r H H=[] :=by simp [uB]
theorem pe {H r : Nat} : qm H (r + 1)=uB r H 0 ++ qm H r:=by
 unfold uB
 rw [qm,List.range_eq_range']
 rfl
open Classical in
set_option maxHeartbeats 1000000 in
theorem GC (d : District) (hH : d.hours < 9223372036854775808) : xg Tryz.prog 129 (fun y=> [y,.ep (cellsOf .district d) 0]) [] ((bv d).map wu) :=by
 unfold bv
 generalize hI : (qm d.hours.toNat d.reaches.length).map wu=items
 refine HV (fun r hr hy=> ?_) (fun args w=> by kernel_rfl)
 have hG : ConsOk Tryz.prog (uo [] [] (itY items r)) :=r9 (by simp) (by simp) hy
 refine ⟨fun l h=> if l=[.os 0,.ep (cellsOf .district d) 0]∧h=[.ab (r 1)] then some { α:=Nat,pre:=True,post:=fun j=> j=0∨j=items.length + 1,res:=fun j=> .ret (.tup []) [.ab (r j)]} else none,
  ?_,_,if_pos ⟨rfl,rfl⟩,trivial,fun j hj=> ⟨_,j,_,rfl,hj⟩⟩
 refine vU mixed aH hG (fn:=Tryz.f129) (c:=an Tryz.f129) (by kernel_rfl) (by kernel_rfl) (by kernel_rfl) (by kernel_rfl) fun l o con h hp=> ?_
 split at h
 rotate_left
 ·cases h
 rename_i hlo
 obtain ⟨rfl,rfl⟩ :=hlo
 cases h
 refine ⟨Nat.le_of_ble_eq_true rfl,fun id st=> bif Nat.beq id 0 then some { α:=Bool,pre:=lk 0 st.t= .os 0∧lk 1 st.t= .ep (cellsOf .district d) 0∧lk 3 st.t= .v (.int .i64 ((d.reaches.length : Int) - 1))∧st.h=[.ab (r 1)]∧d.reaches.length≤bg,post:=fun _=> True,ex:=fun b=> bif b then .normal else .ret,out:=fun b=> ⟨[],[.ab (r (bif b then items.length + 1 else 0))]⟩ : LCon} else none,?_,?_⟩
 ·unfold an Tryz.f129
  simp only [aA,true_and,and_true]
  refine r8 mixed aH hG (by kernel_rfl) fun st lc hC hp=> ?_
  simp only [go_sem,Nat.reduceBEq,Option.some.injEq] at hC
  subst hC
  obtain ⟨t,h⟩ :=st
  dsimp only at hp
  obtain ⟨h0,h1,h2,rfl,hm⟩ :=hp
  refine ⟨Nat×Nat,fun x=> ⟨[(0,.os 0),(1,.ep (cellsOf .district d) 0),(3,.v (.int .i64 ((x.2 : Int) - 1)))],[.ab (r (x.1 + 1))]⟩,fun x=> x.2≤d.reaches.length∧items.drop x.1=(qm d.hours.toNat x.2).map wu∧x.1≤items.length,fun x=> x.2,(0,d.reaches.length),[0],⟨Nat.le_refl _,hI.symm,Nat.zero_le _⟩,Nat.le_refl _,?_,?_⟩
  ·simp only [go_sem,h0,h1,h2,Nat.reduceBEq,Nat.reduceLeDiff,Nat.reduceAdd,true_and,and_true]
   all_goals (first | done | decide | (repeat' (first | refine And.intro ?_ ?_ | rfl | decide)))
  ·rintro ⟨k,j⟩ ⟨hj,hdrop,hk⟩
   simp only at hj hdrop hk
   cases j with
   | zero=>
    refine ⟨L0,_,ay _,fun _ _ q=> q,?_⟩
    simp only [go_sem,zf hr,true_imp_iff,decide_eq_true_eq,Bool.false_eq_true,false_imp_iff,Nat.reduceBEq,Nat.reduceLeDiff,Nat.reduceAdd,Nat.reduceSub,Nat.reduceMul,true_and,and_true,implies_true]
    refine ⟨fun hn=> absurd hn (by decide),fun hn=> ?_⟩
    have hlen : (qm d.hours.toNat 0).length=items.length - k:=by rw [←List.length_drop,hdrop,List.length_map]
    have : (qm d.hours.toNat 0).length=0:=rfl
    refine ⟨true,[0],?_⟩
    have e : items.length + 1=k + 1:=by omega
    simp only [go_sem,e,Nat.reduceBEq,Nat.reduceLeDiff,Nat.reduceAdd,true_and,and_true]
    all_goals (first | done | decide | (repeat' (first | refine And.intro ?_ ?_ | rfl | decide)))
   | succ j=>
    have ej : ((j + 1 : Nat) : Int) - 1=(j : Int) :=by omega
    have hw : IntKind.i64.wrap ((j : Int) - 1)=(j : Int) - 1:=Qt (by omega)
    simp only [ej]
    refine ⟨fun id st=> bif Nat.beq id 2 then some { α:=Nat×Bool,pre:=lk 0 st.t= .os 0∧lk 1 st.t= .ep (cellsOf .district d) 0∧lk 3 st.t= .v (.int .i64 (j : Int))∧lk 14 st.t= .v (.int .i64 d.hours)∧lk 15 st.t= .v (.int .i64 0)∧st.h=[.ab (r (k + 1))],post:=fun x=> x.2=true→items.drop x.1=(qm d.hours.toNat j).map wu∧x.1≤items.length,ex:=fun b=> bif b.2 then .normal else .ret,out:=fun b=> ⟨[(0,.os 0),(1,.ep (cellsOf .district d) 0),(3,.v (.int .i64 (j : Int)))],[.ab (r (bif b.2 then b.1 + 1 else 0))]⟩ : LCon} else none,_,?_,fun _ _ q=> q,?_⟩
    ·simp only [aA,true_and,and_true]
     refine r8 mixed aH hG (by kernel_rfl) fun st lc hC hp=> ?_
     simp only [go_sem,Nat.reduceBEq,Option.some.injEq] at hC
     subst hC
     obtain ⟨t,h⟩ :=st
     dsimp only at hp
     obtain ⟨i0,i1,i3,i14,i15,rfl⟩ :=hp
     refine ⟨Nat×Nat,fun x=> ⟨[(0,.os 0),(1,.ep (cellsOf .district d) 0),(3,.v (.int .i64 (j : Int))),(14,.v (.int .i64 d.hours)),(15,.v (.int .i64 (x.2 : Int)))],[.ab (r (x.1 + 1))]⟩,fun x=> x.2≤d.hours.toNat∧items.drop x.1=(uB j d.hours.toNat x.2 ++ qm d.hours.toNat j).map wu∧x.1≤items.length,fun x=> d.hours.toNat - x.2,(k,0),[0],⟨Nat.zero_le _,by rw [hdrop,pe],hk⟩,Nat.le_refl _,?_,?_⟩
     ·simp only [go_sem,i0,i1,i3,i14,i15,Nat.reduceBEq,Nat.reduceLeDiff,Nat.reduceAdd,true_and,and_true]
      all_goals (first | done | decide | (repeat' (first | refine And.intro ?_ ?_ | rfl | decide)))
     ·rintro ⟨k,g⟩ ⟨hg,hdr,hk⟩
      simp only at hg hdr hk
      refine ⟨L0,_,ay _,fun _ _ q=> q,?_⟩
      simp only [go_sem,zf hr,true_imp_iff,decide_eq_true_eq,Bool.false_eq_true,false_imp_iff,Nat.reduceBEq,Nat.reduceLeDiff,Nat.reduceAdd,Nat.reduceSub,Nat.reduceMul,true_and,and_true,implies_true]
      refine ⟨fun hlt=> ?_,fun hge=> ?_⟩
      ·have hlt' : g < d.hours.toNat:=by omega
       rw [k8 hlt',List.cons_append,List.map_cons] at hdr
       obtain ⟨q1,q2,q3⟩ :=Pa hdr
       have hw2 : IntKind.i64.wrap ((g : Int) + 1)=((g + 1 : Nat) : Int) :=DD hlt' hH
       refine ⟨q1,⟨(k + 1,g + 1),[0],⟨hlt',q3,q2⟩,by simp only;omega,?_⟩,⟨(0,false),[0],(fun h=> nomatch h),rfl,?_⟩,(fun h=> nomatch h)⟩
       all_goals simp only [go_sem,hw2,Nat.reduceBEq,Nat.reduceLeDiff,Nat.reduceAdd,true_and,and_true]
       all_goals (first | done | decide | (repeat' (first | refine And.intro ?_ ?_ | rfl | decide)))
      ·have hge' : g=d.hours.toNat:=by
        have : ¬ (g : Int) < d.hours:=by simpa using hge
        omega
       subst hge'
       rw [sD,List.nil_append] at hdr
       refine ⟨(k,true),[0],fun _=> ⟨hdr,hk⟩,rfl,?_⟩
       all_goals simp only [go_sem,Nat.reduceBEq,Nat.reduceLeDiff,Nat.reduceAdd,true_and,and_true]
       all_goals (first | done | decide | (repeat' (first | refine And.intro ?_ ?_ | rfl | decide)))
    ·simp only [go_sem,true_imp_iff,decide_eq_true_eq,Bool.false_eq_true,false_imp_iff,Nat.reduceBEq,Nat.reduceLeDiff,Nat.reduceAdd,Nat.reduceSub,Nat.reduceMul,true_and,and_true,implies_true]
     refine ⟨fun _ b hb=> ?_,fun hn=> absurd (Int.natCast_nonneg j) (by simpa using hn)⟩
     obtain ⟨k',b⟩ :=b
     cases b with
     | true=>
      obtain ⟨q1,q2⟩ :=hb rfl
      simp only [go_sem,hw,Nat.reduceBEq,Nat.reduceLeDiff,Nat.reduceAdd,true_and,and_true]
      refine ⟨(k',j),[0],⟨by simp only;omega,q1,q2⟩,Nat.lt_succ_self _,?_⟩
      all_goals simp only [go_sem,hw,Nat.reduceBEq,Nat.reduceLeDiff,Nat.reduceAdd,true_and,and_true]
      all_goals (first | done | decide | (repeat' (first | refine And.intro ?_ ?_ | rfl | decide)))
     | false=>
      simp only [go_sem,Nat.reduceBEq,Nat.reduceLeDiff,Nat.reduceAdd,true_and,and_true]
      refine ⟨false,[0],rfl,?_⟩
      all_goals simp only [go_sem,hw,Nat.reduceBEq,Nat.reduceLeDiff,Nat.reduceAdd,true_and,and_true]
      all_goals (first | done | decide | (repeat' (first | refine And.intro ?_ ?_ | rfl | decide)))
 ·unfold an Tryz.f129
  simp only [go_sem,true_imp_iff,decide_eq_true_eq,Nat.reduceBEq,Nat.reduceLeDiff,Nat.reduceAdd,Nat.reduceSub,Nat.reduceMul,true_and,and_true,implies_true]
  intro hm
  rw [Qt hm]
  refine ⟨⟨rfl,hm⟩,fun b=> ?_⟩
  cases b
  ·simp only [go_sem]
   exact ⟨0,_,_,[0],.inl rfl,rfl,Nat.le_refl 1,by simp only [go_sem,Nat.reduceBEq,Nat.reduceLeDiff,Nat.reduceAdd,true_and,and_true];first | done | decide⟩
  ·simp only [go_sem]
   exact ⟨items.length + 1,_,_,[0],.inr rfl,rfl,Nat.le_refl 1,by simp only [go_sem,Nat.reduceBEq,Nat.reduceLeDiff,Nat.reduceAdd,true_and,and_true];first | done | decide⟩
end Go.Sx
end
section
namespace Go.Sx
open Go.Proofs
set_option maxRecDepth 100000
set_option linter.unusedSimpArgs false
theorem A6 {p : Prop} (h : p:=by (first | done | (repeat' (first | with_reducible refine And.intro ?_ ?_ | ((with_reducible show _≠_);first | assumption | omega | (simp_all [aG,aM];done) | grind) | with_reducible intro _)) <;> (first | done | exact Empty.elim ‹Empty› | assumption | rfl | omega | decide | exact fk [0,1,2,3,4,5] | (simp only [*,cond_true,cond_false,Bool.not_true,Bool.not_false,go_sem,Nat.reduceBEq,Nat.reduceLeDiff,Nat.reduceLT,decide_true,Nat.reduceAdd,Nat.reduceSub,Nat.reduceMul,Int.reduceLE,Int.reduceLT,Int.reduceToNat,Int.reduceNeg,reduceCtorEq];done) | (simp only [*,cond_true,cond_false,Bool.not_true,Bool.not_false,go_sem,Nat.reduceBEq,Nat.reduceLeDiff,Nat.reduceLT,decide_true,Nat.reduceAdd,Nat.reduceSub,Nat.reduceMul,Int.reduceLE,Int.reduceLT,Int.reduceToNat,Int.reduceNeg,reduceCtorEq];(repeat' (first | with_reducible refine And.intro ?_ ?_ | ((with_reducible show _≠_);first | assumption | omega | (simp_all [aG,aM];done) | grind) | with_reducible intro _)) <;> (first | done | assumption | rfl | omega | decide | exact fk [0,1,2,3,4,5] | (simp_all [aG,aM];done))) | (simp_all [okI,aG,aM];done) | (simp_all [aG,aM];(first | done | exact fk2 [0,1,2,3,4,5])) | exact fk2 [0,1,2,3,4,5]))) : p:=h
theorem wv {p : Prop} (h : p:=by (first | done | (repeat' (first | with_reducible refine And.intro ?_ ?_ | ((with_reducible show _≠_);first | assumption | omega | (simp_all [aG,aM];done) | grind) | with_reducible intro _)) <;> (first | done | exact Empty.elim ‹Empty› | assumption | rfl | omega | decide | exact fk [0,1,2,3,4,5,6,7] | exact fk [0,1,2,3,4,5,6,10] | (simp only [*,cond_true,cond_false,Bool.not_true,Bool.not_false,go_sem,Nat.reduceBEq,Nat.reduceLeDiff,Nat.reduceLT,decide_true,Nat.reduceAdd,Nat.reduceSub,Nat.reduceMul,Int.reduceLE,Int.reduceLT,Int.reduceToNat,Int.reduceNeg,reduceCtorEq];done) | (simp only [*,cond_true,cond_false,Bool.not_true,Bool.not_false,go_sem,Nat.reduceBEq,Nat.reduceLeDiff,Nat.reduceLT,decide_true,Nat.reduceAdd,Nat.reduceSub,Nat.reduceMul,Int.reduceLE,Int.reduceLT,Int.reduceToNat,Int.reduceNeg,reduceCtorEq];(repeat' (first | with_reducible refine And.intro ?_ ?_ | ((with_reducible show _≠_);first | assumption | omega | (simp_all [aG,aM];done) | grind) | with_reducible intro _)) <;> (first | done | assumption | rfl | omega | decide | exact fk [0,1,2,3,4,5,6,7] | exact fk [0,1,2,3,4,5,6,10] | (simp_all [aG,aM];done))) | (simp_all [okI,aG,aM];done) | (simp_all [aG,aM];(first | done | exact fk2 [0,1,2,3,4,5,6,7] | exact fk2 [0,1,2,3,4,5,6,10])) | exact fk2 [0,1,2,3,4,5,6,7] | exact fk2 [0,1,2,3,4,5,6,10]))) : p:=h
theorem J1 {p : Prop} (h : p:=by simp only [go_sem,Nat.reduceBEq,Nat.reduceLeDiff,Nat.reduceLT,decide_true,Nat.reduceAdd,Nat.reduceSub,Nat.reduceMul,Int.reduceLE,Int.reduceLT,Int.reduceToNat,Int.reduceNeg,reduceCtorEq,hc,hw];all_goals exact A6) : p:=h
theorem J2 {p : Prop} (h : p:=by simp only [go_sem,Nat.reduceBEq,Nat.reduceLeDiff,Nat.reduceLT,decide_true,Nat.reduceAdd,Nat.reduceSub,Nat.reduceMul,Int.reduceLE,Int.reduceLT,Int.reduceToNat,Int.reduceNeg,reduceCtorEq,hc];all_goals exact A6) : p:=h
@[go_sem] def aY (a0 : District) (a1 : List Order) (k_0 : Nat) (s_0 : List ((Int×Int)×Int)) : Unit⊕(List ((Int×Int)×Int)) :=(bif (!(a1.getD k_0 (default : Order)).outlet) then .inl () else .inr (dn .int2 .int s_0 ((a0.farms.getD (Int.toNat ((a1.getD k_0 (default : Order)).index)) (default : Farm)).reach,(a1.getD k_0 (default : Order)).hour) (IntKind.i64.wrap ((aD .int2 .int s_0 ((a0.farms.getD (Int.toNat ((a1.getD k_0 (default : Order)).index)) (default : Farm)).reach,(a1.getD k_0 (default : Order)).hour)) + (a1.getD k_0 (default : Order)).litres))))
def eR (a0 : District) (a1 : List Order) (k_0 : Nat) (s_0 : List ((Int×Int)×Int)) : Prop:=((!(a1.getD k_0 (default : Order)).outlet)=false→(0≤(a1.getD k_0 (default : Order)).index∧(a1.getD k_0 (default : Order)).index < (a0.farms.length : Int)))
@[go_sem] def aF (a0 : District) (z_1 : Int×Int) (s_1 : List Order×List ((Int×Int)×Int)) : (List ((Int×Int)×Int))⊕(List Order×List ((Int×Int)×Int)) :=(bif ((aD .int2 .int s_1.2 (z_1.1,z_1.2)) ==0) then .inr (s_1.1,s_1.2) else (bif ((!(aB (a0.reaches.getD (Int.toNat z_1.1) (default : Reach)) (aD .int2 .int s_1.2 (z_1.1,z_1.2))).2) || (decide (z_1.2 < (a0.reaches.getD (Int.toNat z_1.1) (default : Reach)).delay))) then .inl s_1.2 else .inr ((s_1.1 ++ ([({ hour:=(IntKind.i64.wrap (z_1.2 - (a0.reaches.getD (Int.toNat z_1.1) (default : Reach)).delay)),index:=z_1.1,litres:=(aB (a0.reaches.getD (Int.toNat z_1.1) (default : Reach)) (aD .int2 .int s_1.2 (z_1.1,z_1.2))).1,outlet:=false} : Order)])),(dn .int2 .int s_1.2 ((a0.reaches.getD (Int.toNat z_1.1) (default : Reach)).up,(IntKind.i64.wrap (z_1.2 - (a0.reaches.getD (Int.toNat z_1.1) (default : Reach)).delay))) (IntKind.i64.wrap ((aD .int2 .int s_1.2 ((a0.reaches.getD (Int.toNat z_1.1) (default : Reach)).up,(IntKind.i64.wrap (z_1.2 - (a0.reaches.getD (Int.toNat z_1.1) (default : Reach)).delay)))) + (aB (a0.reaches.getD (Int.toNat z_1.1) (default : Reach)) (aD .int2 .int s_1.2 (z_1.1,z_1.2))).1))))))
def d4 (a0 : District) (z_1 : Int×Int) (s_1 : List Order×List ((Int×Int)×Int)) : Prop:=(((aD .int2 .int s_1.2 (z_1.1,z_1.2)) ==0)=false→((0≤z_1.1∧z_1.1 < (a0.reaches.length : Int))∧((gA (a0.reaches.getD (Int.toNat z_1.1) (default : Reach)) (aD .int2 .int s_1.2 (z_1.1,z_1.2)))∧(((!(aB (a0.reaches.getD (Int.toNat z_1.1) (default : Reach)) (aD .int2 .int s_1.2 (z_1.1,z_1.2))).2) || (decide (z_1.2 < (a0.reaches.getD (Int.toNat z_1.1) (default : Reach)).delay)))=false→((s_1.1 ++ ([({ hour:=(IntKind.i64.wrap (z_1.2 - (a0.reaches.getD (Int.toNat z_1.1) (default : Reach)).delay)),index:=z_1.1,litres:=(aB (a0.reaches.getD (Int.toNat z_1.1) (default : Reach)) (aD .int2 .int s_1.2 (z_1.1,z_1.2))).1,outlet:=false} : Order)])).length * 32≤dY)))))
def av (a0 : District) (a1 : List Order) : List Order×Bool×Int:=(bif ((bG a0 a1) !=0) then ([],false,(bG a0 a1)) else (match az (aY a0 a1) a1.length 0 ([]) with | .inl x_0_0=> ([],false,220) | .inr s_0=> (match cq (aF a0) (bv a0) (a1,s_0) with | .inl x_1_0=> ([],false,0) | .inr s_1=> (bif (decide ((s_1.1.length : Int) > 4096)) then ([],false,2) else ((srt ax s_1.1),true,0)))))
def iU (a0 : District) (a1 : List Order) : Prop:=((gB a0 a1)∧(((bG a0 a1) !=0)=false→(a1.length≤bg→(okI (aY a0 a1) (eR a0 a1) a1.length 0 ([])∧(∀ s_0,az (aY a0 a1) a1.length 0 ([])= .inr s_0→((a1.length * 32≤dY)∧((a0.hours < 9223372036854775808)∧okL (aF a0) (d4 a0) (bv a0) (a1,s_0)∧(∀ s_1,cq (aF a0) (bv a0) (a1,s_0)= .inr s_1→(s_1.1.length≤bg→((decide ((s_1.1.length : Int) > 4096))=false→(apart ax s_1.1)))))))))))
@[go_sem] def lD : List SV→Option Con:=(pD .district fun a0=> (pR .order fun a1=> (pE (.det (iU a0 a1) (.tup [.rs .order ((av a0 a1).1),.v (.bool ((av a0 a1).2.1)),.v (.int .i64 ((av a0 a1).2.2))])))))
set_option maxHeartbeats 4000000 in
theorem oa : FnOk Tryz.prog 54 lD:=by
 have hG : ConsOk Tryz.prog (mkG [(44,cb),(93,fun l=> mZ (c6 [.st .district,.sl .order] l)),(94,fun l=> pd (c6 [.sl .order] l)),(95,fun l=> ez (c6 [.st .district] l)),(96,mY)] [(97,ik)]) :=aQ (cgc lz (cgc (so.norm [.st .district,.sl .order]) (cgc (uA.norm [.sl .order]) (cgc (sC.norm [.st .district]) (cgc sn cg0))))) (cgc ub cg0)
 refine a8 [.sl .order,.o,.o] mixed aH hG (fn:=Tryz.f54) (c:=an Tryz.f54) (by kernel_rfl) (by kernel_rfl) (by kernel_rfl) (by kernel_rfl) (bI fun a0=> (dl fun a1=> (aN (fun hp=> ?_))))
 dsimp only [aT] at hp
 unfold iU at hp
 refine ⟨Nat.le_of_ble_eq_true rfl,(fun id st=> bif Nat.beq id 0 then some (LCR (ρ:=Unit) (σ:=(List ((Int×Int)×Int))) 6 [] [0,1,2,3,4,5] (fun k_0 s_0=> ⟨[(1,.rs .order a1),(2,.ptr 0 0),(4,.ptr 1 0),(5,.ptr 2 0),(6,.ptr 3 0),(7,.ptr 5 0),(23,.rs .order a1),(24,.v (.int .i64 (a1.length : Int))),(25,.v (.int .i64 (k_0 : Int)))],[.cells (cellsOf .district a0),.cells [.v (.slice none 0 0)],.cells [.v (.bool false)],.cells [.v (.int .i64 (bG a0 a1))],.mp .int2 .int s_0 none,.cells [.os 4]]⟩) (aY a0 a1) (eR a0 a1) a1.length ([]) (a1.length≤bg) (fun _=> .ret) (fun x_0_0=> ⟨[(4,.ptr 1 0),(5,.ptr 2 0),(6,.ptr 3 0)],[.dead,.cells [.v (.slice none 0 0)],.cells [.v (.bool false)],.cells [.v (.int .i64 220)],.dead,.dead]⟩) st) else bif Nat.beq id 2 then some (LC (ρ:=List ((Int×Int)×Int)) (σ:=List Order×List ((Int×Int)×Int)) (lk 2 st.t= .ptr 0 0∧lk 4 st.t= .ptr 1 0∧lk 5 st.t= .ptr 2 0∧lk 6 st.t= .ptr 3 0∧lk 7 st.t= .ptr 5 0∧lk 53 st.t= .fn 129 [] [.ep (cellsOf .district a0) 0]∧st.h=[.cells (cellsOf .district a0),.cells [.os 6],.cells [.v (.bool false)],.cells [.v (.int .i64 (bG a0 a1))],.mp .int2 .int (aG (az (aY a0 a1) a1.length 0 ([]))) none,.cells [.os 4],.row .order a1]∧a0.hours < 9223372036854775808∧okL (aF a0) (d4 a0) (bv a0) (a1,(aG (az (aY a0 a1) a1.length 0 ([]))))) (cq (aF a0) (bv a0) (a1,(aG (az (aY a0 a1) a1.length 0 ([]))))) (fun _=> .ret) (fun x_1_0=> ⟨[(2,.ptr 0 0),(4,.ptr 1 0),(5,.ptr 2 0),(6,.ptr 3 0),(7,.ptr 5 0)],[.cells (cellsOf .district a0),.cells [.v (.slice none 0 0)],.cells [.v (.bool false)],.cells [.v (.int .i64 0)],.mp .int2 .int x_1_0 none,.cells [.os 4],.dead,.dead]⟩) (fun s_1=> ⟨[(2,.ptr 0 0),(4,.ptr 1 0),(5,.ptr 2 0),(6,.ptr 3 0),(7,.ptr 5 0)],[.cells (cellsOf .district a0),.cells [.os 7],.cells [.v (.bool false)],.cells [.v (.int .i64 (bG a0 a1))],.mp .int2 .int s_1.2 none,.cells [.os 4],.dead,.row .order s_1.1]⟩)) else none),?_,?_⟩
 ·unfold an Tryz.f54
  simp only [aA,true_and,and_true]
  refine ⟨?_,?_⟩
  ·refine db mixed aH hG (by kernel_rfl) (fun _=> rfl) (a1.length : Int) rfl kQ (fun hb0 k_0 s_0 hlt0 hq0 hw hc=> ⟨L0,ay _,?_⟩) (fun hb0 s_0 hc=> ?_)
   ·unfold eR at hq0
    try simp only [hw,Int.toNat_natCast] at hq0
    exact J1
   ·exact J2
  ·refine mT mixed aH hG (by decide) (by decide) (by kernel_rfl) (by kernel_rfl) fun st lc hC hp=> ?_
   simp only [go_sem,Nat.reduceBEq,Option.some.injEq] at hC
   subst hC
   obtain ⟨t,h⟩ :=st
   dsimp only [LC] at hp
   obtain ⟨e1_0,e1_1,e1_2,e1_3,e1_4,e1_5,rfl,hb1,hok1⟩ :=hp
   refine ⟨129,[.ep (cellsOf .district a0) 0],Int×Int,_,_,(bv a0),wu,(aF a0),(d4 a0),_,(a1,(aG (az (aY a0 a1) a1.length 0 ([])))),_,_,_,[(2,.ptr 0 0),(4,.ptr 1 0),(5,.ptr 2 0),(6,.ptr 3 0),(7,.ptr 5 0)],(fun s_1=> [.cells (cellsOf .district a0),.cells [.os 7],.cells [.v (.bool false)],.cells [.v (.int .i64 (bG a0 a1))],.mp .int2 .int s_1.2 none,.cells [.os 4],.dead,.row .order s_1.1]),(fun x_1_0=> [.cells (cellsOf .district a0),.cells [.v (.slice none 0 0)],.cells [.v (.bool false)],.cells [.v (.int .i64 0)],.mp .int2 .int x_1_0 none,.cells [.os 4],.dead,.dead]),[0,1,2,3,4,5,6,6],?_,rfl,hok1,Nat.le_of_ble_eq_true rfl,?_,GC a0 hb1,fun z_1 s_1 hq1=> ⟨rfl,L0,fun l=> ?_,fun l=> ?_,?_⟩,fun s_1=> ?_,fun y=> ?_⟩
   ·simp only [go_sem,e1_0,e1_1,e1_2,e1_3,e1_4,e1_5]
   ·simp only [go_sem,Nat.reduceBEq,Nat.reduceLeDiff,Nat.reduceLT,decide_true,Nat.reduceAdd,Nat.reduceSub,Nat.reduceMul,Int.reduceLE,Int.reduceLT,Int.reduceToNat,Int.reduceNeg,reduceCtorEq,nU,iI,List.flatMap_cons,List.flatMap_nil,List.nil_append,List.append_nil,List.map_nil,e1_0,e1_1,e1_2,e1_3,e1_4,e1_5]
    all_goals (first | done | decide | (repeat' (first | refine And.intro ?_ ?_ | rfl | decide)))
   ·simp only [aA,and_self,true_and,and_true]
   ·simp only [aA,and_self,true_and,and_true]
   ·unfold d4 at hq1
    simp only [go_sem,Nat.reduceBEq,Nat.reduceLeDiff,Nat.reduceLT,decide_true,Nat.reduceAdd,Nat.reduceSub,Nat.reduceMul,Int.reduceLE,Int.reduceLT,Int.reduceToNat,Int.reduceNeg,reduceCtorEq,cb,ez,aF,psT,wu,List.cons_append,List.nil_append]
    all_goals exact wv
   ·simp only [go_sem,Nat.reduceBEq,Nat.reduceLeDiff,Nat.reduceLT,decide_true,Nat.reduceAdd,Nat.reduceSub,Nat.reduceMul,Int.reduceLE,Int.reduceLT,Int.reduceToNat,Int.reduceNeg,reduceCtorEq,cb,ez]
    all_goals exact wv
   ·simp only [go_sem,Nat.reduceBEq,Nat.reduceLeDiff,Nat.reduceLT,decide_true,Nat.reduceAdd,Nat.reduceSub,Nat.reduceMul,Int.reduceLE,Int.reduceLT,Int.reduceToNat,Int.reduceNeg,reduceCtorEq,cb,ez]
    all_goals exact wv
 ·unfold an Tryz.f54
  try unfold av
  simp only [go_sem,Nat.reduceBEq,Nat.reduceLeDiff,Nat.reduceLT,decide_true,Nat.reduceAdd,Nat.reduceSub,Nat.reduceMul,Int.reduceLE,Int.reduceLT,Int.reduceToNat,Int.reduceNeg,reduceCtorEq,cb,ez]
  all_goals exact cl3
end Go.Sx
end
section
namespace Go.Sx
open Go.Proofs
def nh (d : District) (reach hour : Int) (x : Order) : Bool:=(x.hour==hour) && ((x.outlet && (d.farms.getD x.index.toNat default).reach==reach) || (!x.outlet && (d.reaches.getD x.index.toNat default).up==reach))
abbrev rch (d : District) (r : Int) : Reach:=d.reaches.getD r.toNat default
def drw (d : District) (l : List Order) (r h : Int) : Int:=bV (nh d r h) l
theorem A7 {ρ σ τ : Type} {step : τ→σ→ρ⊕σ} (J : List τ→σ→Prop) (hJ : ∀ x L s,J (x :: L) s→∀ s',step x s= .inr s'→J L s') : ∀ (L : List τ) (s : σ),J L s→(∀ s',cq step L s= .inr s'→J [] s')∧∀ y,cq step L s= .inl y→∃ x L' s',J (x :: L') s'∧step x s'= .inl y
 | [],s,h=> ⟨fun s' e=> by simp only [cq,Sum.inr.injEq] at e;subst e;exact h,fun y e=> by simp [cq] at e⟩
 | x :: L,s,h=> by
  cases hs : step x s with
  | inl y=>
   refine ⟨fun s' e=> ?_,fun y' e=> ?_⟩
   ·simp only [cq,hs] at e;cases e
   ·simp only [cq,hs,Sum.inl.injEq] at e;subst e;exact ⟨x,L,s,h,hs⟩
  | inr s1=>
   obtain ⟨h1,h2⟩ :=A7 J hJ L s1 (hJ x L s h s1 hs)
   exact ⟨fun s' e=> h1 s' (by simpa only [cq,hs] using e),fun y e=> h2 y (by simpa only [cq,hs] using e)⟩
theorem Fi {ρ σ τ : Type} {step : τ→σ→ρ⊕σ} {p : τ→σ→Prop} (J : List τ→σ→Prop) (hJ : ∀ x L s,J (x :: L) s→p x s∧∀ s',step x s= .inr s'→J L s') : ∀ (L : List τ) (s : σ),J L s→okL step p L s
 | [],_,_=> trivial
 | x :: L,s,h=> ⟨(hJ x L s h).1,fun s' e=> Fi J hJ L s' ((hJ x L s h).2 s' e)⟩
def PR (r h : Nat) (a b : Int) : Prop:=(r : Int) < a∨a=r∧b < (h : Int)
abbrev Mp:=List ((Int×Int)×Int)
structure PG (d : District) (l : List Order) (x : Order) : Prop where
 out : x.outlet=false
 i0 : 0≤x.index
 i1 : x.index < (d.reaches.length : Int)
 h0 : 0≤x.hour
 h1 : x.hour + (rch d x.index).delay < d.hours
 w : 1≤drw d l x.index (x.hour + (rch d x.index).delay)
 v : aB (rch d x.index) (drw d l x.index (x.hour + (rch d x.index).delay))=(x.litres,true)
structure PI (d : District) (out gs : List Order) (m : Mp) (r h : Nat) : Prop where
 draws : ∀ a b,aD .int2 .int m (a,b)=drw d (out ++ gs) a b
 gate : ∀ x∈gs,PG d (out ++ gs) x∧PR r h x.index (x.hour + (rch d x.index).delay)
 all : ∀ a b,0≤a→a < (d.reaches.length : Int)→0≤b→b < d.hours→PR r h a b→drw d (out ++ gs) a b≠0→∃ x∈gs,x.index=a∧x.hour + (rch d a).delay=b
 uniq : gs.Pairwise fun x y=> ¬ (x.index=y.index∧x.hour=y.hour)
 len : gs.length≤(d.reaches.length - 1 - r) * d.hours.toNat + h
theorem Fj (d : District) (a b : List Order) (r h : Int) : drw d (a ++ b) r h=drw d a r h + drw d b r h:=wj _ _ _
theorem Fk (d : District) (x : Order) (r h : Int) : drw d [x] r h=bif nh d r h x then x.litres else 0:=by unfold drw;simp [bV]
theorem pf {d : District} (hr : Right1 d) {l : List Order} {x : Order} (h : PG d l x) : 1≤x.litres∧x.litres≤1073741824∧(rch d x.index).siphon≤x.litres∧drw d l x.index (x.hour + (rch d x.index).delay)≤wst (rch d x.index) x.litres∧∀ u,0≤u→u≤1073741824→(rch d x.index).siphon≤u→drw d l x.index (x.hour + (rch d x.index).delay)≤wst (rch d x.index) u→x.litres≤u:=by
 have hk : x.index.toNat < d.reaches.length:=by have:=h.i0;have:=h.i1;omega
 rcases tA (i:=(x.index.toNat : Int)) (by omega) (hr.reach _ hk) h.w with ⟨v,e,e1,e2,e3,e4,e5⟩ | ⟨e,_⟩
 ·have:=h.v
  rw [e] at this
  cases this
  exact ⟨e1,e2,e3,e4,e5⟩
 ·rw [h.v] at e;cases e
theorem PI.lit {d : District} {out gs : List Order} {m : Mp} {r h : Nat} (hr : Right1 d) (ho : Orders1 d out) (p : PI d out gs m r h) : ∀ x∈out ++ gs,1≤x.litres∧x.litres≤1073741824:=fun x hx=> by
 rcases List.mem_append.1 hx with hx | hx
 ·exact ho.lit x hx
 ·have:=pf hr (p.gate x hx).1;omega
theorem tD {d : District} {l : List Order} (h : ∀ x∈l,1≤x.litres∧x.litres≤1073741824) (a b : Int) : 0≤drw d l a b∧drw d l a b≤l.length * 1073741824:=wl h
theorem PI.len2 {d : District} {out gs : List Order} {m : Mp} {r h : Nat} (hr : Right1 d) (ho : Orders1 d out) (p : PI d out gs m r h) (hh : h≤d.hours.toNat) : (out ++ gs).length≤266240 + 4096:=by
 have h1:=p.len
 have h2 : (d.reaches.length - 1 - r) * d.hours.toNat≤64 * 4096:=Nat.mul_le_mul (by have:=hr.reaches;omega) (by have:=hr.hours;omega)
 have:=ho.len
 have:=hr.hours
 rw [List.length_append];omega
theorem PI.row {d : District} {out gs : List Order} {m : Mp} {r : Nat} (p : PI d out gs m (r + 1) d.hours.toNat) (hr1 : r + 1 < d.reaches.length) (hh : 1≤d.hours) : PI d out gs m r 0:=by
 refine ⟨p.draws,fun x hx=> ⟨(p.gate x hx).1,?_⟩,fun a b a0 a1 b0 b1 hp=> p.all a b a0 a1 b0 b1 ?_,p.uniq,?_⟩
 ·have:=(p.gate x hx).2
  unfold PR at this ⊢;omega
 ·unfold PR at hp ⊢;omega
 ·have:=p.len
  rw [show d.reaches.length - 1 - r=(d.reaches.length - 1 - (r + 1)) + 1 by omega,Nat.succ_mul];omega
theorem PI.skip {d : District} {out gs : List Order} {m : Mp} {r h : Nat} (p : PI d out gs m r h) (h0 : drw d (out ++ gs) r h=0) : PI d out gs m r (h + 1) :=by
 refine ⟨p.draws,fun x hx=> ⟨(p.gate x hx).1,?_⟩,fun a b a0 a1 b0 b1 hp hne=> ?_,p.uniq,?_⟩
 ·have:=(p.gate x hx).2
  unfold PR at this ⊢;omega
 ·by_cases hq : PR r h a b
  ·exact p.all a b a0 a1 b0 b1 hq hne
  ·have : a=r∧b=h:=by unfold PR at hp hq;omega
   obtain ⟨rfl,rfl⟩ :=this
   exact absurd h0 hne
 ·have:=p.len;omega
theorem J3 {d : District} (hr : Right1 d) {r : Nat} (h : r < d.reaches.length) : (rch d r).up < r:=(hr.reach1 h).up
theorem tE {d : District} (hr : Right1 d) {r : Nat} (h : r < d.reaches.length) : 1≤(rch d r).delay∧(rch d r).delay≤16:=⟨(hr.reach1 h).delay1,(hr.reach1 h).delay⟩
theorem PI.add {d : District} {out gs : List Order} {m : Mp} {r h : Nat} (hr : Right1 d) (ho : Orders1 d out) (p : PI d out gs m r h) (hrl : r < d.reaches.length) (hhl : h < d.hours.toNat) (h1 : 1≤drw d (out ++ gs) r h) {v : Int} (hv : aB (rch d r) (drw d (out ++ gs) r h)=(v,true)) (hd : (rch d r).delay≤h) (v0 : 1≤v) (v1 : v≤1073741824) :
  PI d out (gs ++ [{ hour:=(h : Int) - (rch d r).delay,index:=r,litres:=v,outlet:=false}]) (dn .int2 .int m ((rch d r).up,(h : Int) - (rch d r).delay) (IntKind.i64.wrap (aD .int2 .int m ((rch d r).up,(h : Int) - (rch d r).delay) + v))) r (h + 1) :=by
 generalize hx : ({ hour:=(h : Int) - (rch d r).delay,index:=(r : Int),litres:=v,outlet:=false} : Order)=x
 have xo : x.outlet=false:=by rw [←hx]
 have xi : x.index=r:=by rw [←hx]
 have xh : x.hour=(h : Int) - (rch d r).delay:=by rw [←hx]
 have xl : x.litres=v:=by rw [←hx]
 have hup:=J3 hr hrl
 have hdl:=tE hr hrl
 have hone : ∀ a b,drw d (out ++ (gs ++ [x])) a b=drw d (out ++ gs) a b + (if a=(rch d r).up∧b=(h : Int) - (rch d r).delay then v else 0) :=fun a b=> by
  rw [←List.append_assoc,Fj,Fk]
  congr 1
  unfold nh
  rw [xo,xi,xh,xl]
  simp only [Bool.false_and,Bool.not_false,Bool.true_and,Bool.false_or,Int.toNat_natCast]
  by_cases e : a=(rch d r).up∧b=(h : Int) - (rch d r).delay
  ·obtain ⟨rfl,rfl⟩ :=e
   simp
  ·rw [if_neg e]
   have : ((h : Int) - (rch d r).delay==b && (d.reaches.getD r default).up==a)=false:=by
    rw [Bool.and_eq_false_iff,beq_eq_false_iff_ne,beq_eq_false_iff_ne]
    by_cases q : b=(h : Int) - (rch d r).delay
    ·right;intro e2;exact e ⟨e2.symm,q⟩
    ·left;exact fun e2=> q e2.symm
   rw [this];rfl
 have hsame : ∀ a b,(r : Int)≤a→drw d (out ++ (gs ++ [x])) a b=drw d (out ++ gs) a b:=fun a b ha=> by
  rw [hone,if_neg (fun e=> by omega)];omega
 have hb:=tD (d:=d) (p.lit hr ho)
 have hlen:=p.len2 hr ho (by omega)
 refine ⟨fun a b=> ?_,fun y hy=> ?_,fun a b a0 a1 b0 b1 hp hne=> ?_,?_,?_⟩
 ·rw [iy (k:= .int2),hone,p.draws,p.draws]
  have:=hb (rch d r).up ((h : Int) - (rch d r).delay)
  by_cases e : a=(rch d r).up∧b=(h : Int) - (rch d r).delay
  ·rw [if_pos e,if_pos (by rw [e.1,e.2]),e.1,e.2,da (by omega) (by omega)]
  ·rw [if_neg e,if_neg (fun q=> e (by cases q;exact ⟨rfl,rfl⟩))];exact (Int.add_zero _).symm
 ·rcases List.mem_append.1 hy with hy | hy
  ·obtain ⟨g,gp⟩ :=p.gate y hy
   have hge : (r : Int)≤y.index:=by unfold PR at gp;omega
   refine ⟨⟨g.out,g.i0,g.i1,g.h0,g.h1,by rw [hsame _ _ hge];exact g.w,by rw [hsame _ _ hge];exact g.v⟩,?_⟩
   unfold PR at gp ⊢;omega
  ·rw [List.mem_singleton] at hy
   subst hy
   have eh : y.hour + (rch d y.index).delay=h:=by rw [xh,xi];omega
   refine ⟨⟨xo,by rw [xi];omega,by rw [xi];omega,by rw [xh];omega,by rw [eh];omega,?_,?_⟩,?_⟩
   ·rw [eh,xi,hsame _ _ (Int.le_refl _)];exact h1
   ·rw [eh,xi,hsame _ _ (Int.le_refl _),xl];exact hv
   ·rw [eh,xi];unfold PR;omega
 ·have hge : (r : Int)≤a:=by unfold PR at hp;omega
  rw [hsame _ _ hge] at hne
  by_cases hq : PR r h a b
  ·obtain ⟨y,hy,e⟩ :=p.all a b a0 a1 b0 b1 hq hne
   exact ⟨y,List.mem_append_left _ hy,e⟩
  ·have : a=r∧b=h:=by unfold PR at hp hq;omega
   obtain ⟨rfl,rfl⟩ :=this
   exact ⟨x,by simp,xi,by rw [xh];omega⟩
 ·rw [List.pairwise_append]
  refine ⟨p.uniq,List.pairwise_singleton _ _,fun y hy z hz=> ?_⟩
  rw [List.mem_singleton] at hz
  subst hz
  rintro ⟨e1,e2⟩
  have:=(p.gate y hy).2
  rw [e1,e2,xi,xh] at this
  unfold PR at this;omega
 ·have:=p.len
  rw [List.length_append];simp;omega
theorem tF {d : District} {out : List Order} (hr : Right1 d) (ho : Orders1 d out) :
  (∀ m,az (aY d out) out.length 0 []= .inr m→(∀ x∈out,x.outlet=true)∧∀ a b,aD .int2 .int m (a,b)=drw d out a b)∧okI (aY d out) (eR d out) out.length 0 []∧((∀ x∈out,x.outlet=true)→∃ m,az (aY d out) out.length 0 []= .inr m) :=by
 let J : Nat→Mp→Prop:=fun k m=> k≤out.length→(∀ x∈out.take k,x.outlet=true)∧∀ a b,aD .int2 .int m (a,b)=drw d (out.take k) a b
 have hJ0 : J 0 [] :=fun _=> ⟨by simp,fun a b=> by rw [List.take_zero];rfl⟩
 have hstep : ∀ j s,0≤j→j < 0 + out.length→J j s→eR d out j s∧∀ s',aY d out j s= .inr s'→J (j + 1) s':=fun j s _ hj hJ=> by
  have hj : j < out.length:=by omega
  obtain ⟨h1,h2⟩ :=hJ (by omega)
  have hx:=ho.one j hj
  refine ⟨fun he=> ?_,fun s' hs _=> ?_⟩
  ·have : (out.getD j default).outlet=true:=by simpa using he
   have:=hx.farm this
   have:=hx.index0
   omega
  ·unfold aY at hs
   cases hout : (out.getD j default).outlet with
   | false=> rw [hout] at hs;cases hs
   | true=>
    rw [hout] at hs
    simp only [Bool.not_true,cond_false,Sum.inr.injEq] at hs
    have hel:=cD out default hj
    rw [List.take_succ_eq_append_getElem hj]
    refine ⟨fun x hx=> ?_,fun a b=> ?_⟩
    ·rcases List.mem_append.1 hx with h | h
     ·exact h1 x h
     ·rw [List.mem_singleton] at h;subst h;rw [←hel];exact hout
    ·subst hs
     rw [Fj,Fk,iy (k:= .int2),h2,h2,←hel]
     have hb:=tD (d:=d) (l:=out.take j) (fun x hx=> ho.lit x (List.mem_of_mem_take hx)) (d.farms.getD (out.getD j default).index.toNat default).reach (out.getD j default).hour
     have hl : (out.take j).length≤4096:=by have:=ho.len;rw [List.length_take];omega
     have hl1:=hx.litres1;have hl2:=hx.litres
     rw [da (by omega) (by omega)]
     unfold nh
     rw [hout]
     simp only [Bool.true_and,Bool.not_true,Bool.false_and,Bool.or_false]
     by_cases e : (a,b)=((d.farms.getD (out.getD j default).index.toNat default).reach,(out.getD j default).hour)
     ·rw [if_pos e];cases e;simp
     ·rw [if_neg e]
      have : ((out.getD j default).hour==b && (d.farms.getD (out.getD j default).index.toNat default).reach==a)=false:=by
       rw [Bool.and_eq_false_iff,beq_eq_false_iff_ne,beq_eq_false_iff_ne]
       by_cases q : (out.getD j default).hour=b
       ·right;intro q2;exact e (by rw [q,q2])
       ·left;exact q
      rw [this];exact (Int.add_zero _).symm
 refine ⟨fun m hm=> ?_,hY J _ _ _ hJ0 hstep,fun hall=> ?_⟩
 ·have:=vZ J _ _ _ hJ0 (fun j s h1 h2 h3=> (hstep j s h1 h2 h3).2) m hm (by omega)
  rw [Nat.zero_add,List.take_length] at this
  exact this
 ·cases hrun : az (aY d out) out.length 0 [] with
  | inr m=> exact ⟨m,rfl⟩
  | inl y=>
   exfalso
   have key : ∀ n i s,i + n≤out.length→∀ y,az (aY d out) n i s≠ .inl y:=by
    intro n
    induction n with
    | zero=> intro i s _ y h;simp [az] at h
    | succ n ih=>
     intro i s hi y h
     simp only [az] at h
     have hout : (out.getD i default).outlet=true:=hall _ (nf _ _ (by omega))
     unfold aY at h
     rw [hout] at h
     simp only [Bool.not_true,cond_false] at h
     exact ih (i + 1) _ (by omega) y h
   exact key _ _ _ (by omega) y hrun
def PJ (d : District) (out : List Order) (L : List (Int×Int)) (s : List Order×Mp) : Prop:= ∃ gs r h,r < d.reaches.length∧h≤d.hours.toNat∧s.1=out ++ gs∧L=uB r d.hours.toNat h ++ qm d.hours.toNat r∧PI d out gs s.2 r h
theorem zp {d : District} {out : List Order} (hr : Right1 d) {x : Int×Int} {L : List (Int×Int)} {s : List Order×Mp} (h : PJ d out (x :: L) s) : ∃ (gs : List Order) (r h : Nat),r < d.reaches.length∧h < d.hours.toNat∧s.1=out ++ gs∧x=((r : Int),(h : Int))∧L=uB r d.hours.toNat (h + 1) ++ qm d.hours.toNat r∧PI d out gs s.2 r h:=by
 obtain ⟨gs,r,h,h1,h2,h3,h4,h5⟩ :=h
 have hH:=hr.hours1
 by_cases hh : h < d.hours.toNat
 ·rw [k8 hh,List.cons_append] at h4
  cases h4
  exact ⟨gs,r,h,h1,hh,h3,rfl,rfl,h5⟩
 ·have : h=d.hours.toNat:=by omega
  subst this
  rw [sD,List.nil_append] at h4
  cases r with
  | zero=> simp [qm] at h4
  | succ r=>
   rw [pe,k8 (by omega),List.cons_append] at h4
   cases h4
   exact ⟨gs,r,0,by omega,by omega,h3,rfl,rfl,h5.row h1 hH⟩
theorem yh {d : District} {out : List Order} (hr : Right1 d) (ho : Orders1 d out) {gs : List Order} {r h : Nat} (hrl : r < d.reaches.length) (hhl : h < d.hours.toNat) {s : List Order×Mp} (hs : s.1=out ++ gs) (p : PI d out gs s.2 r h) :
  (drw d (out ++ gs) r h=0∧aF d ((r : Int),(h : Int)) s= .inr s)∨
  (1≤drw d (out ++ gs) r h∧((aB (rch d r) (drw d (out ++ gs) r h)).2=false∨(h : Int) < (rch d r).delay)∧aF d ((r : Int),(h : Int)) s= .inl s.2)∨
  ∃ v,1≤drw d (out ++ gs) r h∧aB (rch d r) (drw d (out ++ gs) r h)=(v,true)∧(rch d r).delay≤h∧1≤v∧v≤1073741824∧
   aF d ((r : Int),(h : Int)) s= .inr (out ++ (gs ++ [{ hour:=(h : Int) - (rch d r).delay,index:=r,litres:=v,outlet:=false}]),dn .int2 .int s.2 ((rch d r).up,(h : Int) - (rch d r).delay) (IntKind.i64.wrap (aD .int2 .int s.2 ((rch d r).up,(h : Int) - (rch d r).delay) + v))) :=by
 have hb:=(tD (d:=d) (p.lit hr ho) r h).1
 have hm:=p.draws r h
 have hdl:=tE hr hrl
 have hH:=hr.hours
 by_cases h0 : drw d (out ++ gs) r h=0
 ·refine .inl ⟨h0,?_⟩
  unfold aF
  simp only
  rw [hm,h0];rfl
 ·have h1 : 1≤drw d (out ++ gs) r h:=by omega
  have hne : (aD .int2 .int s.2 ((r : Int),(h : Int)) ==0)=false:=by rw [hm,beq_eq_false_iff_ne];exact h0
  have hw : IntKind.i64.wrap ((h : Int) - (rch d r).delay)=(h : Int) - (rch d r).delay:=da (by omega) (by omega)
  by_cases hd : (h : Int) < (rch d r).delay
  ·refine .inr (.inl ⟨h1,.inr hd,?_⟩)
   unfold aF
   simp only [hne,cond_false]
   rw [decide_eq_true hd,Bool.or_true];rfl
  ·rcases tA (i:=(r : Int)) (by omega) (hr.reach r hrl) h1 with ⟨v,e,e1,e2,e3,e4,e5⟩ | ⟨e,_⟩
   ·refine .inr (.inr ⟨v,h1,e,by omega,e1,e2,?_⟩)
    have e' : aB (d.reaches.getD r default) (aD .int2 .int s.2 ((r : Int),(h : Int)))=(v,true) :=by rw [hm];exact e
    unfold aF
    simp only [hne,cond_false,Int.toNat_natCast]
    have hd' : decide ((h : Int) < (d.reaches.getD r default).delay)=false:=decide_eq_false hd
    rw [e',hd']
    simp only [Bool.not_true,Bool.or_self,cond_false,hs,List.append_assoc]
    have hw' : IntKind.i64.wrap ((h : Int) - (d.reaches.getD r default).delay)=(h : Int) - (rch d r).delay:=hw
    rw [hw']
    rfl
   ·refine .inr (.inl ⟨h1,.inl e,?_⟩)
    have e' : (aB (d.reaches.getD r default) (aD .int2 .int s.2 ((r : Int),(h : Int)))).2=false:=by rw [hm];exact e
    unfold aF
    simp only [hne,cond_false,Int.toNat_natCast]
    rw [e'];rfl
theorem Fl {d : District} {out : List Order} (hr : Right1 d) (ho : Orders1 d out) (x : Int×Int) (L : List (Int×Int)) (s : List Order×Mp) (hpj : PJ d out (x :: L) s) : ∀ s',aF d x s= .inr s'→PJ d out L s':=by
 obtain ⟨gs,r,h,h1,h2,h3,rfl,h5,h6⟩ :=zp hr hpj
 intro s' hs
 rcases yh hr ho h1 h2 h3 h6 with ⟨q0,q1⟩ | ⟨q0,q1,q2⟩ | ⟨v,q0,q1,q2,q3,q4,q5⟩
 ·rw [q1] at hs;cases hs
  exact ⟨gs,r,h + 1,h1,h2,h3,h5,h6.skip q0⟩
 ·rw [q2] at hs;cases hs
 ·rw [q5] at hs;cases hs
  exact ⟨_,r,h + 1,h1,h2,rfl,h5,h6.add hr ho h1 h2 q0 q1 q2 q3 q4⟩
theorem A8 {d : District} {out : List Order} (hr : Right1 d) {m : Mp} (hm : ∀ a b,aD .int2 .int m (a,b)=drw d out a b) : PJ d out (bv d) (out,m) :=by
 have h1:=hr.one
 refine ⟨[],d.reaches.length - 1,0,by omega,Nat.zero_le _,by simp,?_,⟨by simpa using hm,by simp,fun a b a0 a1 b0 b1 hp=> ?_,List.Pairwise.nil,by simp⟩⟩
 ·unfold bv
  rw [←pe,show d.reaches.length - 1 + 1=d.reaches.length by omega]
 ·unfold PR at hp;omega
structure PFin (d : District) (out gs : List Order) : Prop where
 gate : ∀ x∈gs,PG d (out ++ gs) x
 all : ∀ a b,0≤a→a < (d.reaches.length : Int)→0≤b→b < d.hours→drw d (out ++ gs) a b≠0→∃ x∈gs,x.index=a∧x.hour + (rch d a).delay=b
 uniq : gs.Pairwise fun x y=> ¬ (x.index=y.index∧x.hour=y.hour)
 len : gs.length≤d.reaches.length * d.hours.toNat
theorem Sk {d : District} {out : List Order} (hr : Right1 d) {s : List Order×Mp} (h : PJ d out [] s) : ∃ gs,s.1=out ++ gs∧PFin d out gs:=by
 obtain ⟨gs,r,h,h1,h2,h3,h4,h5⟩ :=h
 have hH:=hr.hours1
 have hh : h=d.hours.toNat:=by
  by_cases hq : h < d.hours.toNat
  ·rw [k8 hq] at h4;cases h4
  ·omega
 subst hh
 rw [sD,List.nil_append] at h4
 have r0 : r=0:=by
  cases r with
  | zero=> rfl
  | succ r=> rw [pe,k8 (by omega)] at h4;cases h4
 subst r0
 refine ⟨gs,h3,⟨fun x hx=> (h5.gate x hx).1,fun a b a0 a1 b0 b1 hne=> h5.all a b a0 a1 b0 b1 ?_ hne,h5.uniq,?_⟩⟩
 ·unfold PR;omega
 ·have:=h5.len
  have e : d.reaches.length=(d.reaches.length - 1 - 0) + 1:=by omega
  rw [e,Nat.succ_mul];omega
structure PX (d : District) (out gs : List Order) (r h : Nat) : Prop where
 part : ∃ m,PI d out gs m r h
 r1 : r < d.reaches.length
 h1 : h < d.hours.toNat
 w : 1≤drw d (out ++ gs) r h
 no : (aB (rch d r) (drw d (out ++ gs) r h)).2=false∨(h : Int) < (rch d r).delay
theorem ww {d : District} {out : List Order} (hr : Right1 d) (ho : Orders1 d out) {m : Mp} (hm : ∀ a b,aD .int2 .int m (a,b)=drw d out a b) :
  ((∃ s,cq (aF d) (bv d) (out,m)= .inr s∧∃ gs,s.1=out ++ gs∧PFin d out gs)∨∃ y,cq (aF d) (bv d) (out,m)= .inl y∧∃ gs r h,PX d out gs r h)∧
  okL (aF d) (d4 d) (bv d) (out,m) :=by
 obtain ⟨h1,h2⟩ :=A7 (PJ d out) (fun x L s h=> Fl hr ho x L s h) (bv d) (out,m) (A8 hr hm)
 refine ⟨?_,Fi (PJ d out) (fun x L s h=> ⟨?_,Fl hr ho x L s h⟩) _ _ (A8 hr hm)⟩
 ·cases hrun : cq (aF d) (bv d) (out,m) with
  | inr s=> exact .inl ⟨s,rfl,Sk hr (h1 s hrun)⟩
  | inl y=>
   refine .inr ⟨y,rfl,?_⟩
   obtain ⟨x,L,s,g1,g2⟩ :=h2 y hrun
   obtain ⟨gs,r,h,q1,q2,q3,rfl,q5,q6⟩ :=zp hr g1
   rcases yh hr ho q1 q2 q3 q6 with ⟨_,e⟩ | ⟨e0,e1,_⟩ | ⟨v,_,_,_,_,_,e⟩
   ·rw [e] at g2;cases g2
   ·exact ⟨gs,r,h,⟨_,q6⟩,q1,q2,e0,e1⟩
   ·rw [e] at g2;cases g2
 ·obtain ⟨gs,r,h,q1,q2,q3,rfl,q5,q6⟩ :=zp hr h
  unfold d4
  simp only
  refine fun _=> ⟨⟨by omega,by omega⟩,JK _ _,fun _=> ?_⟩
  have:=q6.len2 hr ho (by omega)
  rw [q3,List.length_append]
  have e : ∀ (a : Order),[a].length=1:=fun _=> rfl
  rw [e]
  unfold dY
  omega
end Go.Sx
end
section
namespace Go.Sx
open Go.Proofs Go.Shelf Go.Sort Go.Lib
def K (x y : Order) : Prop:=x.hour=y.hour∧x.index=y.index∧x.outlet=y.outlet
theorem K.symm {x y : Order} (h : K x y) : K y x:=⟨h.1.symm,h.2.1.symm,h.2.2.symm⟩
theorem J4 {x y : Order} (h : m_ x=m_ y) : x.outlet=y.outlet:=by
 unfold m_ at h
 cases h1 : x.outlet <;> cases h2 : y.outlet <;> rw [h1,h2] at h <;> simp at h
theorem uN {x y : Order} (h1 : ¬ olt x y) (h2 : ¬ olt y x) : K x y:=by
 have e : x.hour=y.hour∧x.index=y.index∧m_ x=m_ y:=by unfold olt at h1 h2;omega
 exact ⟨e.1,e.2.1,J4 e.2.2⟩
theorem Sl {x y : Order} (h : olt x y) : ¬ K x y:=fun ⟨h1,h2,h3⟩ => by
 have : m_ x=m_ y:=by unfold m_;rw [h3]
 unfold olt at h;omega
theorem Fo {l : List Order} (h : l.Pairwise fun x y=> ¬ K x y) {x y : Order} (hx : x∈l) (hy : y∈l) (hk : K x y) : x=y:=by
 obtain ⟨i,hi,rfl⟩ :=List.getElem_of_mem hx
 obtain ⟨j,hj,rfl⟩ :=List.getElem_of_mem hy
 rw [List.pairwise_iff_getElem] at h
 rcases Nat.lt_trichotomy i j with q | q | q
 ·exact absurd hk (h i j hi hj q)
 ·subst q;rfl
 ·exact absurd hk.symm (h j i hj hi q)
theorem J5 {l : List Order} (h : l.Pairwise fun x y=> ¬ K x y) : apart ax l:=fun x hx y hy h1 h2=> by
 refine Fo h hx hy (uN (fun q=> ?_) fun q=> ?_)
 ·unfold ltOf at h1;rw [decide_eq_false_iff_not] at h1;exact h1 ((AR _ _).2 q)
 ·unfold ltOf at h2;rw [decide_eq_false_iff_not] at h2;exact h2 ((AR _ _).2 q)
theorem ni (l : List Order) : (srt ax l).Perm l:=List.mergeSort_perm _ _
theorem jQ {l m : List Order} (h : l.Perm m) (hm : m.Pairwise fun x y=> ¬ K x y) : l.Pairwise fun x y=> ¬ K x y:=
 (h.pairwise_iff (fun {x y} (h : ¬ K x y) (k : K y x) => h k.symm)).2 hm
theorem Sm {l : List Order} (h : l.Pairwise fun x y=> ¬ K x y) : (srt ax l).Pairwise olt:=by
 have h1 : (srt ax l).Pairwise fun x y=> (!(ltOf ax y x))=true:=by
  refine List.pairwise_mergeSort (fun a b c h1 h2=> ?_) (fun a b=> ?_) l
  ·simp only [Bool.not_eq_true'] at h1 h2 ⊢
   exact nI.ntrans _ _ _ h2 h1
  ·cases q : ltOf ax b a with
   | false=> rfl
   | true=>
    cases q2 : ltOf ax a b with
    | false=> rfl
    | true=> have:=nI.trans _ _ _ q q2;rw [nI.irrefl] at this;cases this
 have h2:=jQ (ni l) h
 refine (h1.and h2).imp fun {x y} ⟨q1,q2⟩ => ?_
 have q3 : ¬ olt y x:=fun q=> by
  have : ltOf ax y x=true:=by unfold ltOf;rw [decide_eq_true_eq];exact (AR _ _).2 q
  rw [this] at q1;cases q1
 exact Classical.byContradiction fun q4=> q2 (uN q4 q3)
structure Good (d : District) (l : List Order) : Prop where
 chk : bn d=0
 len : l.length≤4096
 one : ∀ x∈l,Order1 d x
 asc : l.Pairwise olt
theorem Good.right {d : District} {l : List Order} (h : Good d l) : Right1 d:=o9 (by rw [h.chk];rfl)
theorem Pb {d : District} {l : List Order} (h : b5 d l=0) : Good d l:=by
 have ho:=wi (d:=d) (l:=l) (by rw [h];rfl)
 refine ⟨((qC d l).1 h).1,ho.len,fun x hx=> ?_,List.pairwise_iff_getElem.2 fun i j hi hj hij=> ?_⟩
 ·obtain ⟨i,hi,rfl⟩ :=List.getElem_of_mem hx
  have:=ho.one i hi
  rwa [cD _ _ hi] at this
 ·have:=ho.lt j i hij hj
  rwa [cD _ _ hi,cD _ _ hj] at this
theorem Good.orders {d : District} {l : List Order} (h : Good d l) : Orders1 d l:=by
 refine ⟨h.right,h.len,fun k hk=> ?_,fun k hk=> ?_⟩
 ·rw [cD _ _ hk];exact h.one _ (List.getElem_mem _)
 ·rw [cD _ _ hk,cD _ _ (by omega : k < l.length)]
  exact (AR _ _).2 (List.pairwise_iff_getElem.1 h.asc _ _ _ _ (by omega))
theorem Good.keys {d : District} {l : List Order} (h : Good d l) : l.Pairwise fun x y=> ¬ K x y:=h.asc.imp fun {_ _} q=> Sl q
theorem J6 {d : District} {l : List Order} (h : Good d l) : b5 d l=0:=by
 refine (qC d l).2 ⟨h.chk,h.len,fun k hk=> ?_⟩
 have hx:=h.one _ (nf l default hk)
 have hasc : (decide ((k : Int) > 0) && decide (ax (l.getD (IntKind.i64.wrap ((k : Int) - 1)).toNat default) (l.getD k default)≥0))=false:=by
  rw [Bool.and_eq_false_iff,decide_eq_false_iff_not,decide_eq_false_iff_not]
  by_cases hk0 : 0 < k
  ·right
   have hl:=h.len
   rw [na (by omega) hk0,Int.toNat_natCast]
   have:=h.orders.asc (k - 1) (by omega)
   rw [show k - 1 + 1=k by omega] at this
   omega
  ·left;omega
 unfold dI
 rw [hasc]
 generalize l.getD k default=x at hx
 cases ho : x.outlet with
 | true=>
  have:=hx.farm ho
  simp only [cond_true]
  have e : (decide (x.hour < 0) || decide (x.hour≥d.hours) || decide (x.index < 0) || decide (x.index≥(d.farms.length : Int)) || decide (x.litres < 1) || decide (x.litres > 1073741824) || false)=false:=by
   have:=hx.hour0;have:=hx.hour;have:=hx.index0;have:=hx.litres1;have:=hx.litres
   simp only [Bool.or_eq_false_iff,decide_eq_false_iff_not,and_true];omega
  rw [e];rfl
 | false=>
  have:=hx.reach ho
  simp only [cond_false]
  have e : (decide (x.hour < 0) || decide (x.hour≥d.hours) || decide (x.index < 0) || decide (x.index≥(d.reaches.length : Int)) || decide (x.litres < 1) || decide (x.litres > 1073741824) || false)=false:=by
   have:=hx.hour0;have:=hx.hour;have:=hx.index0;have:=hx.litres1;have:=hx.litres
   simp only [Bool.or_eq_false_iff,decide_eq_false_iff_not,and_true];omega
  rw [e];rfl
structure Nar (d : District) (l : List Order) : Prop where
 good : Good d l
 wide : (d.reaches.length : Int) * d.hours≤1024
theorem yi {d : District} (hr : Right1 d) : 0≤(d.reaches.length : Int) * d.hours∧(d.reaches.length : Int) * d.hours≤262144:=by
 have:=hr.reaches;have:=hr.hours;have:=hr.hours1
 have h1:=Int.mul_le_mul (by omega : (d.reaches.length : Int)≤64) hr.hours (by omega) (by omega)
 have h2:=Int.mul_nonneg (by omega : 0≤(d.reaches.length : Int)) (by omega : 0≤d.hours)
 omega
theorem rh (d : District) (l : List Order) : bG d l=0↔Nar d l:=by
 unfold bG
 by_cases h : b5 d l=0
 ·have hg:=Pb h
  have hm:=yi hg.right
  rw [da (by omega) (by omega),h]
  by_cases hw : (d.reaches.length : Int) * d.hours > 1024
  ·rw [decide_eq_true hw]
   simp only [beq_self_eq_true,Bool.and_self,cond_true]
   exact ⟨fun e=> (by cases e),fun e=> (by have:=e.wide;omega)⟩
  ·rw [decide_eq_false hw]
   simp only [Bool.and_false,cond_false]
   exact ⟨fun _=> ⟨hg,by omega⟩,fun _=> trivial⟩
 ·have : (b5 d l==0)=false:=by rw [beq_eq_false_iff_ne];exact h
  rw [this]
  simp only [Bool.false_and,cond_false]
  exact ⟨fun e=> absurd e h,fun e=> absurd (J6 e.good) h⟩
structure PL (d : District) (out gs : List Order) : Prop where
 good : Good d (srt ax (out ++ gs))
 fin : PFin d out gs
theorem pg {d : District} {out gs : List Order} (ho : Good d out) (hall : ∀ x∈out,x.outlet=true) (h : PFin d out gs) : (out ++ gs).Pairwise fun x y=> ¬ K x y:=by
 rw [List.pairwise_append]
 refine ⟨ho.keys,h.uniq.imp fun {x y} q k=> q ⟨k.2.1,k.1⟩,fun x hx y hy k=> ?_⟩
 have:=k.2.2
 rw [hall x hx,(h.gate y hy).out] at this
 cases this
theorem Pc {d : District} {out gs : List Order} (ho : Good d out) (h : PFin d out gs) : ∀ x∈out ++ gs,Order1 d x:=fun x hx=> by
 rcases List.mem_append.1 hx with hx | hx
 ·exact ho.one x hx
 ·have g:=h.gate x hx
  have gl:=pf ho.right g
  have hd:=tE ho.right (r:=x.index.toNat) (by have:=g.i0;have:=g.i1;omega)
  rw [show ((x.index.toNat : Nat) : Int)=x.index from Int.toNat_of_nonneg g.i0] at hd
  have:=g.h1
  exact ⟨g.h0,by omega,g.i0,fun e=> (by rw [g.out] at e;cases e),fun _=> g.i1,gl.1,gl.2.1⟩
theorem wx (d : District) (out : List Order) :
  (bG d out≠0∧av d out=([],false,bG d out))∨
  (Nar d out∧¬ (∀ x∈out,x.outlet=true)∧av d out=([],false,220))∨
  (Nar d out∧(∀ x∈out,x.outlet=true)∧(∃ gs r h,PX d out gs r h)∧av d out=([],false,0))∨
  (Nar d out∧(∀ x∈out,x.outlet=true)∧∃ gs,PFin d out gs∧4096 < (out ++ gs).length∧av d out=([],false,2))∨
  (Nar d out∧(∀ x∈out,x.outlet=true)∧∃ gs,PL d out gs∧av d out=(srt ax (out ++ gs),true,0)) :=by
 unfold av
 by_cases hn : bG d out=0
 ·have hN:=(rh d out).1 hn
  have hr:=hN.good.right
  have ho:=hN.good.orders
  rw [hn]
  simp only [bne_self_eq_false,cond_false]
  obtain ⟨f1,_,f3⟩ :=tF hr ho
  by_cases hall : ∀ x∈out,x.outlet=true
  ·obtain ⟨m,hm⟩ :=f3 hall
   rw [hm]
   simp only
   obtain ⟨h1,_⟩ :=ww hr ho (f1 m hm).2
   rcases h1 with ⟨s,hs,gs,e1,e2⟩ | ⟨y,hy,hx⟩
   ·rw [hs]
    simp only [e1]
    by_cases hl : (out ++ gs).length≤4096
    ·rw [decide_eq_false (by omega)]
     refine .inr (.inr (.inr (.inr ⟨hN,hall,gs,⟨⟨hN.good.chk,?_,fun x hx=> Pc hN.good e2 x ((ni _).mem_iff.1 hx),Sm (pg hN.good hall e2)⟩,e2⟩,rfl⟩)))
     rw [(ni _).length_eq];exact hl
    ·rw [decide_eq_true (by omega)]
     exact .inr (.inr (.inr (.inl ⟨hN,hall,gs,e2,by omega,rfl⟩)))
   ·rw [hy]
    exact .inr (.inr (.inl ⟨hN,hall,hx,rfl⟩))
  ·cases hrun : az (aY d out) out.length 0 [] with
   | inr m=> exact absurd (f1 m hrun).1 hall
   | inl y=> exact .inr (.inl ⟨hN,hall,rfl⟩)
 ·have : (bG d out !=0)=true:=by simpa using hn
  rw [this]
  exact .inl ⟨hn,rfl⟩
theorem J7 (d : District) (l : List Order) : gB d l:=CL d l
theorem Sn (d : District) (out : List Order) : iU d out:=by
 refine ⟨J7 _ _,fun hn=> ?_⟩
 have hN:=(rh d out).1 (by simpa using hn)
 have hr:=hN.good.right
 have ho:=hN.good.orders
 obtain ⟨f1,f2,f3⟩ :=tF hr ho
 refine fun _=> ⟨f2,fun m hm=> ⟨?_,?_,?_⟩⟩
 ·have:=ho.len;unfold dY;omega
 ·have:=hr.hours;omega
 ·obtain ⟨h1,h2⟩ :=ww hr ho (f1 m hm).2
  refine ⟨h2,fun s hs _ _=> ?_⟩
  rcases h1 with ⟨s',hs',gs,e1,e2⟩ | ⟨y,hy,_⟩
  ·rw [hs'] at hs
   cases hs
   rw [e1]
   exact J5 (pg hN.good (f1 m hm).1 e2)
  ·rw [hy] at hs;cases hs
end Go.Sx
end
section
namespace Go.Sx
open Go.Proofs
variable {κ υ : Type} [DecidableEq κ] in
theorem A9 : ∀ (l : List (κ×υ)) (x : κ) (y : υ) (e : κ×υ),e∈oh l x y→e=(x,y)∨e∈l
 | [],x,y,e,h=> by simp [oh] at h;exact .inl h
 | (a,b) :: r,x,y,e,h=> by
  unfold oh at h
  by_cases q : x=a
  ·rw [if_pos q] at h
   rcases List.mem_cons.1 h with h | h
   ·exact .inl h
   ·exact .inr (List.mem_cons_of_mem _ h)
  ·rw [if_neg q] at h
   rcases List.mem_cons.1 h with h | h
   ·exact .inr (h▸List.mem_cons_self)
   ·rcases A9 r x y e h with h | h
    ·exact .inl h
    ·exact .inr (List.mem_cons_of_mem _ h)
variable {κ υ : Type} [DecidableEq κ] in
theorem A_ : ∀ (l : List (κ×υ)) (x : κ) (y : υ),gJ l x=some y→(x,y)∈l
 | (a,b) :: r,x,y,h=> by
  unfold gJ at h
  by_cases q : x=a
  ·rw [if_pos q] at h;cases h;subst q;exact List.mem_cons_self
  ·rw [if_neg q] at h;exact List.mem_cons_of_mem _ (A_ r x y h)
variable {κ υ : Type} [DecidableEq κ] in
theorem CX {l : List (κ×υ)} (h : (l.map Prod.fst).Nodup) (x : κ) (y : υ) : ((oh l x y).map Prod.fst).Nodup:=by
 rw [tz]
 split
 ·exact h
 ·rename_i hn
  rw [List.nodup_append]
  exact ⟨h,by simp,fun a ha b hb e=> by
   rw [List.mem_singleton] at hb
   subst hb;subst e
   exact hn ha⟩
structure SM (k : Tag) (f : k.T→Int) (m : List (k.T×Int)) : Prop where
 get : ∀ p,aD k .int m p=f p
 nd : (m.map Prod.fst).Nodup
 pos : ∀ e∈m,1≤e.2
theorem SM.nil {k : Tag} : SM k (fun _=> 0) [] :=⟨fun _=> rfl,List.nodup_nil,fun _ h=> by cases h⟩
theorem SM.put {k : Tag} {f : k.T→Int} {m : List (k.T×Int)} (h : SM k f m) (x : k.T) {v : Int} (hv : 1≤v) {g : k.T→Int} (hg : ∀ p,g p=if p=x then v else f p) : SM k g (dn k .int m x v) :=by
 refine ⟨fun p=> ?_,CX h.nd x v,fun e he=> ?_⟩
 ·rw [iy,h.get,hg]
 ·rcases A9 (υ:=Int) m x v e he with rfl | he
  ·exact hv
  ·exact h.pos e he
theorem SM.entry {k : Tag} {f : k.T→Int} {m : List (k.T×Int)} (h : SM k f m) {e : k.T×Int} (he : e∈m) : e.2=f e.1∧1≤f e.1:=by
 have h1:=AS m e h.nd he
 have h2:=h.get e.1
 unfold aD at h2
 rw [h1] at h2
 have h3 : e.2=f e.1:=h2
 exact ⟨h3,h3▸h.pos e he⟩
theorem SM.mem {k : Tag} {f : k.T→Int} {m : List (k.T×Int)} (h : SM k f m) {p : k.T} (hp : f p≠0) : (p,f p)∈m:=by
 have h2:=h.get p
 unfold aD at h2
 cases hm : gJ m p with
 | none=> rw [hm] at h2;exact absurd h2.symm hp
 | some v=>
  rw [hm] at h2
  have h3 : v=f p:=h2
  exact h3▸A_ m p v hm
theorem SM.congr {k : Tag} {f g : k.T→Int} {m : List (k.T×Int)} (h : SM k f m) (e : ∀ p,g p=f p) : SM k g m:=⟨fun p=> by rw [h.get,e],h.nd,h.pos⟩
def gP (r h : Int) (x : Order) : Bool:= !x.outlet && x.index==r && x.hour==h
def CY (l : List Order) (r h : Int) : Int:=bV (gP r h) l
theorem J8 {r h : Int} {x y : Order} (hx : gP r h x=true) (hy : gP r h y=true) : K x y:=by
 unfold gP at hx hy
 simp only [Bool.and_eq_true,Bool.not_eq_true',beq_iff_eq] at hx hy
 exact ⟨by rw [hx.2,hy.2],by rw [hx.1.2,hy.1.2],by rw [hx.1.1,hy.1.1]⟩
theorem mj {p : Order→Bool} {l : List Order} (hk : l.Pairwise fun x y=> ¬ K x y) (hp : ∀ x y,p x=true→p y=true→K x y) {x : Order} (hx : x∈l) (h : p x=true) : bV p l=x.litres:=by
 obtain ⟨i,hi,rfl⟩ :=List.getElem_of_mem hx
 refine JF hi h fun j hj hne=> ?_
 cases hq : p l[j] with
 | false=> rfl
 | true=>
  rw [List.pairwise_iff_getElem] at hk
  rcases Nat.lt_or_gt_of_ne hne with q | q
  ·exact absurd (hp _ _ hq h) (hk j i hj hi q)
  ·exact absurd (hp _ _ h hq) (hk i j hi hj q)
theorem J9 {l : List Order} (hk : l.Pairwise fun x y=> ¬ K x y) {x : Order} (hx : x∈l) (ho : x.outlet=false) : CY l x.index x.hour=x.litres:=
 mj hk (fun _ _ h1 h2=> J8 h1 h2) hx (by unfold gP;rw [ho];simp)
theorem uO {p : Order→Bool} {l : List Order} (h : bV p l≠0) : ∃ x∈l,p x=true:=
 Classical.byContradiction fun q=> h (nb fun x hx=> by
  cases hp : p x with
  | false=> rfl
  | true=> exact absurd ⟨x,hx,hp⟩ q)
theorem Pd {l : List Order} (hk : l.Pairwise fun x y=> ¬ K x y) {r h : Int} (hg : CY l r h≠0) : ∃ x∈l,x.outlet=false∧x.index=r∧x.hour=h∧x.litres=CY l r h:=by
 obtain ⟨x,hx,hp⟩ :=uO hg
 have:=mj hk (fun _ _ h1 h2=> J8 h1 h2) hx hp
 unfold gP at hp
 simp only [Bool.and_eq_true,Bool.not_eq_true',beq_iff_eq] at hp
 exact ⟨x,hx,hp.1.1,hp.1.2,hp.2,this.symm⟩
def Kept (d : District) (l : List Order) : Prop:= ∀ r h : Int,0≤r→1≤drw d l r h→∃ w,dp (rch d r) (CY l r (h - (rch d r).delay))=(w,0)∧drw d l r h≤w
theorem Fq {d : District} {l : List Order} (hg : Good d l) {r h : Int} (hr : 0≤r) (hd : drw d l r h≠0) : r < (d.reaches.length : Int)∧0≤h∧h < d.hours:=by
 obtain ⟨x,hx,hp⟩ :=uO hd
 have h1:=hg.one x hx
 unfold nh at hp
 simp only [Bool.and_eq_true,Bool.or_eq_true,Bool.not_eq_true',beq_iff_eq] at hp
 have a1:=h1.hour0;have a2:=h1.hour;have a3:=h1.index0
 refine ⟨?_,by omega,by omega⟩
 rcases hp.2 with ⟨q1,q2⟩ | ⟨q1,q2⟩
 ·have:=h1.farm q1
  have:=hg.right.farm x.index.toNat (by omega)
  omega
 ·have:=h1.reach q1
  have:=J3 hg.right (r:=x.index.toNat) (by omega)
  rw [show ((x.index.toNat : Nat) : Int)=x.index from Int.toNat_of_nonneg a3] at this
  have q2' : (rch d x.index).up=r:=q2
  omega
theorem yj {P : Order→Bool} {l m : List Order} (h : l.Perm m) : bV P l=bV P m:=by
 induction h with
 | nil=> rfl
 | cons x _ ih=> simp only [bV,ih]
 | swap x y l=> simp only [bV];omega
 | trans _ _ ih1 ih2=> rw [ih1,ih2]
theorem Ft {P : Order→Bool} {l : List Order} (h : ∀ x∈l,0≤x.litres) : 0≤bV P l:=by
 induction l with
 | nil=> exact Int.le_refl _
 | cons x r ih=>
  simp only [bV]
  have h1:=ih fun y hy=> h y (List.mem_cons_of_mem _ hy)
  have h2:=h x List.mem_cons_self
  cases P x <;> simp only [cond_true,cond_false] <;> omega
theorem ph {P : Order→Bool} (hP : ∀ x y,K x y→P x=P y) : ∀ (A B : List Order),A.Pairwise (fun x y=> ¬ K x y)→(∀ x∈A,P x=true→∃ z∈B,K z x∧x.litres≤z.litres)→(∀ z∈B,0≤z.litres)→bV P A≤bV P B
 | [],B,_,_,hB=> Ft hB
 | x :: A,B,hA,hd,hB=> by
  have hA':=(List.pairwise_cons.1 hA)
  simp only [bV]
  cases hx : P x with
  | false=>
   have:=ph hP A B hA'.2 (fun y hy hp=> hd y (List.mem_cons_of_mem _ hy) hp) hB
   simp only [cond_false];omega
  | true=>
   obtain ⟨z,hz,hk,hl⟩ :=hd x List.mem_cons_self hx
   have hperm:=yj (P:=P) (List.perm_cons_erase hz)
   have hPz : P z=true:=by rw [hP z x hk];exact hx
   simp only [bV,hPz,cond_true] at hperm
   have:=ph hP A (B.erase z) hA'.2 (fun y hy hp=> by
    obtain ⟨w,hw,hkw,hlw⟩ :=hd y (List.mem_cons_of_mem _ hy) hp
    refine ⟨w,?_,hkw,hlw⟩
    have hne : w≠z:=fun e=> by
     subst e
     exact hA'.1 y hy ⟨hk.1.symm.trans hkw.1,hk.2.1.symm.trans hkw.2.1,hk.2.2.symm.trans hkw.2.2⟩
    exact (List.mem_erase_of_ne hne).2 hw) (fun w hw=> hB w (List.mem_of_mem_erase hw))
   simp only [cond_true];omega
theorem yk (d : District) (r h : Int) (x y : Order) (hk : K x y) : nh d r h x=nh d r h y:=by
 unfold nh;rw [hk.1,hk.2.1,hk.2.2]
structure Keeps (d : District) (l : List Order) : Prop where
 good : Good d l
 sip : ∀ x∈l,x.outlet=false→(rch d x.index).siphon≤x.litres
 kept : Kept d l
theorem yl {d : District} {l : List Order} (h : Keeps d l) {r hh : Int} (r0 : 0≤r) (h1 : 1≤drw d l r hh) : ∃ z∈l,z.outlet=false∧z.index=r∧z.hour=hh - (rch d r).delay∧drw d l r hh≤wst (rch d r) z.litres∧1≤z.litres∧z.litres≤1073741824∧(rch d r).siphon≤z.litres∧r < (d.reaches.length : Int) :=by
 obtain ⟨w,e1,e2⟩ :=h.kept r hh r0 h1
 obtain ⟨q1,_,_⟩ :=Fq h.good r0 (by omega : drw d l r hh≠0)
 have hx : bB (r.toNat : Int) (rch d r)=true:=h.good.right.reach r.toNat (by omega)
 by_cases hg : CY l r (hh - (rch d r).delay)=0
 ·exfalso
  rw [hg,nJ hx (Int.le_refl 0) (by omega),JI hx] at e1
  cases e1;omega
 ·obtain ⟨z,hz,z1,z2,z3,z4⟩ :=Pd h.good.keys hg
  have hl:=h.good.orders.lit z hz
  rw [←z4,nJ hx (by omega) hl.2] at e1
  cases e1
  have:=h.sip z hz z1
  rw [z2] at this
  exact ⟨z,hz,z1,z2,z3,e2,hl.1,hl.2,this,q1⟩
theorem ym {d : District} {out gs l : List Order} (hr : Right1 d) (hk : (out ++ gs).Pairwise fun x y=> ¬ K x y) (hg : ∀ x∈gs,PG d (out ++ gs) x) (hout : ∀ x∈out,∃ z∈l,K z x∧x.litres≤z.litres) (hl : Keeps d l) :
  ∀ (n : Nat) (x : Order),x∈gs→(d.reaches.length : Int) - x.index≤n→∃ z∈l,K z x∧x.litres≤z.litres:=by
 intro n
 induction n with
 | zero=> intro x hx hn;have:=(hg x hx).i1;omega
 | succ n ih=>
  intro x hx hn
  have g:=hg x hx
  have hD : drw d (out ++ gs) x.index (x.hour + (rch d x.index).delay)≤drw d l x.index (x.hour + (rch d x.index).delay) :=by
   refine ph (yk d _ _) _ _ hk (fun y hy hp=> ?_) fun z hz=> by have:=hl.good.orders.lit z hz;omega
   rcases List.mem_append.1 hy with hy | hy
   ·exact hout y hy
   ·have gy:=hg y hy
    refine ih y hy ?_
    unfold nh at hp
    rw [gy.out] at hp
    simp only [Bool.false_and,Bool.not_false,Bool.true_and,Bool.false_or,Bool.and_eq_true,beq_iff_eq] at hp
    have i0:=gy.i0;have i1:=gy.i1
    have:=J3 hr (r:=y.index.toNat) (by omega)
    rw [show ((y.index.toNat : Nat) : Int)=y.index from Int.toNat_of_nonneg i0] at this
    have e : (rch d y.index).up=x.index:=hp.2
    omega
  have h1:=g.w
  obtain ⟨z,hz,z1,z2,z3,z4,z5,z6,z7,_⟩ :=yl hl g.i0 (by omega : 1≤drw d l x.index (x.hour + (rch d x.index).delay))
  refine ⟨z,hz,⟨by rw [z3];omega,z2,by rw [z1,g.out]⟩,?_⟩
  exact (pf hr g).2.2.2.2 z.litres (by omega) z6 z7 (by omega)
theorem J_ {d : District} {out gs : List Order} (ho : Good d out) (hall : ∀ x∈out,x.outlet=true) (hg : ∀ x∈gs,x.outlet=false) (hu : gs.Pairwise fun x y=> ¬ (x.index=y.index∧x.hour=y.hour)) : (out ++ gs).Pairwise fun x y=> ¬ K x y:=by
 rw [List.pairwise_append]
 refine ⟨ho.keys,hu.imp fun {x y} q k=> q ⟨k.2.1,k.1⟩,fun x hx y hy k=> ?_⟩
 have:=k.2.2
 rw [hall x hx,hg y hy] at this
 cases this
theorem Pe {d : District} {out gs l : List Order} {r h : Nat} (ho : Good d out) (hall : ∀ x∈out,x.outlet=true) (hx : PX d out gs r h) (hout : ∀ x∈out,∃ z∈l,K z x∧x.litres≤z.litres) (hl : Keeps d l) : False:=by
 obtain ⟨m,p⟩ :=hx.part
 have hr:=ho.right
 have hk:=J_ ho hall (fun x hx=> (p.gate x hx).1.out) p.uniq
 have hdom:=ym hr hk (fun x hx=> (p.gate x hx).1) hout hl
 have hD : drw d (out ++ gs) r h≤drw d l r h:=by
  refine ph (yk d _ _) _ _ hk (fun y hy hp=> ?_) fun z hz=> by have:=hl.good.orders.lit z hz;omega
  rcases List.mem_append.1 hy with hy | hy
  ·exact hout y hy
  ·exact hdom d.reaches.length y hy (by have:=(p.gate y hy).1.i0;omega)
 have hw:=hx.w
 obtain ⟨z,hz,z1,z2,z3,z4,z5,z6,z7,_⟩ :=yl hl (by omega : (0 : Int)≤r) (by omega : 1≤drw d l r h)
 rcases hx.no with q | q
 ·rcases tA (i:=(r : Int)) (by omega) (hr.reach r hx.r1) hw with ⟨v,e,_⟩ | ⟨_,e⟩
  ·have : (aB (rch d r) (drw d (out ++ gs) r h)).2=true:=by
    have e' : aB (rch d r) (drw d (out ++ gs) r h)=(v,true) :=e
    rw [e']
   rw [this] at q;cases q
  ·have:=e z.litres (by omega) z6
   have e' : wst (d.reaches.getD r default) z.litres=wst (rch d r) z.litres:=rfl
   omega
 ·have:=(hl.good.one z hz).hour0
  omega
theorem CZ {d : District} {out gs : List Order} (ho : Good d out) (hall : ∀ x∈out,x.outlet=true) (h : PL d out gs) : Keeps d (srt ax (out ++ gs)) :=by
 have hr:=ho.right
 have hperm:=ni (out ++ gs)
 have hk:=pg ho hall h.fin
 refine ⟨h.good,fun x hx hxo=> ?_,fun r hh r0 h1=> ?_⟩
 ·rcases List.mem_append.1 (hperm.mem_iff.1 hx) with q | q
  ·rw [hall x q] at hxo;cases hxo
  ·exact (pf hr (h.fin.gate x q)).2.2.1
 ·have hd : drw d (srt ax (out ++ gs)) r hh=drw d (out ++ gs) r hh:=yj hperm
  obtain ⟨q1,q2,q3⟩ :=Fq h.good r0 (by omega : drw d (srt ax (out ++ gs)) r hh≠0)
  obtain ⟨x,hx,e1,e2⟩ :=h.fin.all r hh r0 q1 q2 q3 (by omega)
  have g:=h.fin.gate x hx
  have gl:=pf hr g
  rw [e1,e2] at gl
  have hxr : bB (r.toNat : Int) (rch d r)=true:=hr.reach r.toNat (by omega)
  have hg : CY (srt ax (out ++ gs)) r (hh - (rch d r).delay)=x.litres:=by
   have e : CY (srt ax (out ++ gs)) x.index x.hour=x.litres:=J9 h.good.keys (hperm.mem_iff.2 (List.mem_append_right _ hx)) g.out
   rw [e1,show x.hour=hh - (rch d r).delay by omega] at e
   exact e
  refine ⟨wst (rch d r) x.litres,?_,by rw [hd];exact gl.2.2.2.1⟩
  rw [hg]
  exact nJ hxr (by omega) gl.2.1
theorem zq {ρ σ : Type} {step : Nat→σ→ρ⊕σ} (J : Nat→σ→Prop) : ∀ (n i : Nat) (s : σ),J i s→(∀ j s,i≤j→j < i + n→J j s→∃ s',step j s= .inr s'∧J (j + 1) s')→∃ s',az step n i s= .inr s'∧J (i + n) s'
 | 0,i,s,h,_=> ⟨s,rfl,h⟩
 | n + 1,i,s,h,hs=> by
  obtain ⟨s1,e1,h1⟩ :=hs i s (Nat.le_refl _) (by omega) h
  obtain ⟨s2,e2,h2⟩ :=zq J n (i + 1) s1 h1 fun j s a b=> hs j s (by omega) (by omega)
  exact ⟨s2,by simp only [az,e1];exact e2,by rwa [show i + (n + 1)=i + 1 + n by omega]⟩
theorem wy : ∀ (A B : List Order),A.Pairwise (fun x y=> ¬ K x y)→(∀ x∈A,∃ z∈B,K z x)→A.length≤B.length
 | [],_,_,_=> Nat.zero_le _
 | x :: A,B,hA,hd=> by
  have hA':=List.pairwise_cons.1 hA
  obtain ⟨z,hz,hk⟩ :=hd x List.mem_cons_self
  have:=wy A (B.erase z) hA'.2 fun y hy=> by
   obtain ⟨w,hw,hkw⟩ :=hd y (List.mem_cons_of_mem _ hy)
   refine ⟨w,?_,hkw⟩
   have hne : w≠z:=fun e=> by
    subst e
    exact hA'.1 y hy ⟨hk.1.symm.trans hkw.1,hk.2.1.symm.trans hkw.2.1,hk.2.2.symm.trans hkw.2.2⟩
   exact (List.mem_erase_of_ne hne).2 hw
  rw [List.length_erase_of_mem hz] at this
  have : 0 < B.length:=List.length_pos_of_mem hz
  rw [List.length_cons];omega
end Go.Sx
end
section
namespace Go.Sx
open Go.Proofs
set_option maxRecDepth 100000
set_option linter.unusedSimpArgs false
def bD (t : CertifyTable) (reach : Int) (hour : Int) : Int:=(dp (t.d.reaches.getD (Int.toNat reach) (default : Reach)) (aD .certifyPlace .int t.litres ({ hour:=(IntKind.i64.wrap (hour - (t.d.reaches.getD (Int.toNat reach) (default : Reach)).delay)),index:=reach,outlet:=false} : CertifyPlace))).1
def fg (t : CertifyTable) (reach : Int) (hour : Int) : Prop:=((0≤reach∧reach < (t.d.reaches.length : Int))∧(0≤reach∧reach < (t.d.reaches.length : Int)))
@[go_sem] def yn : List SV→Option Con:=(pD .certifyTable fun t=> (pI fun reach=> (pI fun hour=> (pE (.det (fg t reach hour) (.v (.int .i64 (bD t reach hour))))))))
end Go.Sx
end
