/- Part of the proof that the law RoutingSpec returns true and leaves its arguments as they were, for all arguments of bulk at most 1048576 (the Upto form). -/
import Derived.Test.YtkblpdepdncnmaaGreatB209
import Derived.Test.YtkblpdepdncnmaaGreatB208
import Derived.Shelf.SlSortCmp.NoneTotal
import Derived.Ground.SlsfProg
import Derived.Test.YtkblpdepdncnmaaGreatProg
set_option linter.all false
section
namespace Go.Sx
open Go.RowKit Go.Shelf Go.Lib Go.Sort Go.Proofs
def valOf : SV → Value
  | .v x => x
  | _ => undef
def encK (k : Tag) (x : k.T) : List Value := (cellsOf k x).map valOf
def plainK (k : Tag) : Prop := ∀ (x : k.T) (s : SV), s ∈ cellsOf k x → ∃ v, s = .v v ∧ v.oneCell' = true
def srt {α : Type} (cf : α → α → Int) (l : List α) : List α := l.mergeSort fun x y => !(ltOf cf y x)
def apart {α : Type} (cf : α → α → Int) (l : List α) : Prop := ∀ x ∈ l, ∀ y ∈ l, ltOf cf x y = false → ltOf cf y x = false → x = y
theorem srt_unique {α : Type} [Inhabited α] {cf : α → α → Int} (hO : SWO (ltOf cf)) {l : List α} (h : apart cf l) {d' : Array α} (hp : PermIn 0 l.toArray.size l.toArray d') (hs : SortedIn (ltOf cf) 0 l.toArray.size d') : d' = (srt cf l).toArray := by
  obtain ⟨hsz, _, hperm⟩ := hp
  have e1 : d'.extract 0 l.toArray.size = d' := by rw [← hsz]; exact Array.extract_size
  rw [e1, Array.extract_size] at hperm
  have hperm : d'.toList.Perm l := by simpa using hperm
  have : d'.toList = srt cf l := by
    refine List.Perm.eq_of_pairwise (le := fun x y => (!ltOf cf y x) = true) ?_ ?_ ?_ (hperm.trans (List.mergeSort_perm _ _).symm)
    · intro a b ha hb h1 h2
      simp only [Bool.not_eq_true'] at h1 h2
      exact h a (hperm.subset ha) b ((List.mergeSort_perm _ _).subset hb) h2 h1
    · rw [List.pairwise_iff_getElem]
      intro i j hi hj hij
      have := hs i j (Nat.zero_le _) hij (by simp only [List.size_toArray] at hsz ⊢; simp only [Array.length_toList] at hj; omega)
      simp only [Array.length_toList] at hi hj
      rw [getElem!_pos d' i hi, getElem!_pos d' j hj] at this
      simpa using this
    · refine List.pairwise_mergeSort (fun a b c h1 h2 => ?_) (fun a b => ?_) l
      · simp only [Bool.not_eq_true'] at h1 h2 ⊢
        exact hO.ntrans c b a h2 h1
      · simp only [Bool.or_eq_true, Bool.not_eq_true']
        cases h1 : ltOf cf b a with
        | false => exact .inl rfl
        | true =>
          right
          cases h2 : ltOf cf a b with
          | false => rfl
          | true =>
            have h3 := hO.trans a b a h2 h1
            rw [hO.irrefl] at h3; cases h3
  rw [← this]
section
variable {P : Program} {ρ : Ren} {F : Nat → Prop} {own : Own} {w : World} {k : Tag}
theorem rowAt_enc (hk : plainK k) {l : List k.T} {o : Nat} {cs : Array Value} (h : RowAt F own w k l o cs) {i j : Nat} (hi : i < l.length) (hj : j < sizeOfTag k) : cs[o + i * sizeOfTag k + j]? = (encK k l[i])[j]? := by
  have e1 := List.getElem?_eq_getElem hi
  have hlen : j < (cellsOf k l[i]).length := by rw [cellsOf_length]; exact hj
  have e2 := List.getElem?_eq_getElem hlen
  obtain ⟨u, h1, h2⟩ := h i _ e1 j _ e2
  obtain ⟨v, h3, _⟩ := hk l[i] _ (List.getElem_mem hlen)
  rw [h1]
  unfold encK
  rw [List.getElem?_map, e2]
  rw [h3] at h2 ⊢
  rw [rel_v h2]
  rfl
theorem enc_rowAt (hk : plainK k) {l : List k.T} {o : Nat} {cs : Array Value} (h : ∀ i j, (hi : i < l.length) → j < sizeOfTag k → cs[o + i * sizeOfTag k + j]? = (encK k l[i])[j]?) : RowAt F own w k l o cs := by
  intro i x hi j s hj
  obtain ⟨hl, rfl⟩ := List.getElem?_eq_some_iff.1 hi
  have hlen := (List.getElem?_eq_some_iff.1 hj).1
  rw [cellsOf_length] at hlen
  have := h i j hl hlen
  unfold encK at this
  rw [List.getElem?_map, hj] at this
  obtain ⟨v, h3, _⟩ := hk _ s (List.mem_of_getElem? hj)
  subst h3
  exact ⟨v, this, .v v⟩
theorem grow_of {w w' : World} (hb : Go.RowKit.Below w.heap.size w w') (hd : w.drawn ≤ w'.drawn) : ∃ q os, w' = grow (w.drewN q) os := by
  refine ⟨w'.drawn - w.drawn, w'.heap.extract w.heap.size w'.heap.size, ?_⟩
  obtain ⟨h1, h2, h3, h4, h5⟩ := hb
  obtain ⟨heap, tape, drawn, os, output⟩ := w
  obtain ⟨heap', tape', drawn', os', output'⟩ := w'
  simp only at h1 h2 h3 h4 h5 hd
  subst h1; subst h2; subst h3
  unfold grow World.drewN
  simp only [World.mk.injEq, true_and, and_true]
  refine ⟨?_, by omega⟩
  apply Array.ext
  · simp; omega
  · intro i hi1 hi2
    by_cases hi : i < heap.size
    · rw [Array.getElem_append_left hi]
      have := h5 i hi
      rw [Array.getElem?_eq_getElem hi1, Array.getElem?_eq_getElem hi] at this
      exact Option.some.inj this
    · rw [Array.getElem_append_right (by omega)]
      simp only [Array.getElem_extract]
      congr 1; omega
end
end Go.Sx
end
section
namespace Go.Sx
open Go.RowKit Go.Shelf Go.Lib Go.Sort Go.Proofs
open Classical in
noncomputable def C_sortFunc (k : Tag) (g : FuncId) (caps : List SV) (cf : k.T → k.T → Int) : List SV → List Ob → Option HCon := fun l h =>
  rowC k (fun l0 => if l = [.os 0, .fn g [] caps] then some (retC (apart cf l0) (.tup []) [.row k (srt cf l0)]) else none) h
@[go_sem] theorem C_sortFunc_mk {k : Tag} {g : FuncId} {caps : List SV} {cf : k.T → k.T → Int} {l0 : List k.T} : C_sortFunc k g caps cf [.os 0, .fn g [] caps] [.row k l0] = some (retC (apart cf l0) (.tup []) [.row k (srt cf l0)]) := by
  simp [C_sortFunc, rowC]
section
variable {P : Program} {ρ : Ren} {k : Tag}
theorem heap_put {w : World} {b : Nat} {cs : Array Value} {ty : TypeId} (hb : w.heap[b]? = some (.cells cs ty (0, 0))) (D : Array Value) (o : Nat) : (putRow id w b o D).heap[b]? = some (.cells (putCells id o D cs) ty (0, 0)) := by
  unfold putRow mapBlock
  simp only [Array.getElem?_modify, if_true, hb]
  rfl
theorem heap_put_ne {w : World} {b c : Nat} (hc : c ≠ b) (D : Array Value) (o : Nat) : (putRow id w b o D).heap[c]? = w.heap[c]? := by
  unfold putRow mapBlock
  simp only [Array.getElem?_modify]
  rw [if_neg (fun e => hc e.symm)]
theorem putCells_get {D cs : Array Value} {o t : Nat} (ht : t < D.size) (hs : o + t < cs.size) : (putCells id o D cs)[o + t]? = D[t]? := by
  unfold putCells
  rw [Array.getElem?_mapIdx, Array.getElem?_eq_getElem hs]
  simp only [Option.map_some]
  rw [if_pos (by omega), Array.getElem?_eq_getElem ht]
  have : o + t - o = t := by omega
  rw [this, getElem!_pos D t ht]
  rfl
theorem flat_get {α : Type} [Inhabited α] {enc : α → List Value} {n : Nat} (hn : ∀ x, (enc x).length = n) {d : Array α} {i j : Nat} (hi : i < d.size) (hj : j < n) : (flatK enc n d)[i * n + j]? = (enc d[i]!)[j]? := by
  have hlt : i * n + j < d.size * n := by
    have := Nat.mul_le_mul_right n (show i + 1 ≤ d.size from hi)
    rw [Nat.succ_mul] at this; omega
  have h1 : i * n + j < (flatK enc n d).size := by rw [size_flatK]; exact hlt
  rw [Array.getElem?_eq_getElem h1, ← getElem!_pos (flatK enc n d) _ h1, get_flatK enc n d _ hlt]
  have hd : (i * n + j) / n = i := by
    rw [Nat.mul_comm, Nat.mul_add_div (by omega), Nat.div_eq_of_lt hj]; omega
  have hm : (i * n + j) % n = j := by
    rw [Nat.mul_comm, Nat.mul_add_mod, Nat.mod_eq_of_lt hj]
  rw [hd, hm]
  have hj' : j < (enc d[i]!).length := by rw [hn]; exact hj
  rw [List.getElem?_eq_getElem hj', getElem!_pos (enc d[i]!) j hj']
theorem sw_b {α : Type} [Inhabited α] {enc : α → List Value} {n b o m : Nat} {w : World} {cs : Array Value} {ty : TypeId} (hb : w.heap[b]? = some (.cells cs ty (0, 0))) (d : Array α) (os : Array Obj) : (sortWorldK enc n w b o m d os).heap[b]? = some (.cells (putCells id o (flatK enc n d) cs) ty (0, 0)) := by
  have hlt : b < w.heap.size := (Array.getElem?_eq_some_iff.1 hb).1
  unfold sortWorldK grow
  simp only
  rw [Array.getElem?_append_left (by unfold putRowK putRow mapBlock Sort.ahead; simpa using hlt)]
  exact heap_put (w := Sort.ahead w m) hb _ _
theorem sw_ne {α : Type} [Inhabited α] {enc : α → List Value} {n b o m c : Nat} {w : World} (hc : c < w.heap.size) (hne : c ≠ b) (d : Array α) (os : Array Obj) : (sortWorldK enc n w b o m d os).heap[c]? = w.heap[c]? := by
  unfold sortWorldK grow
  simp only
  rw [Array.getElem?_append_left (by unfold putRowK putRow mapBlock Sort.ahead; simpa using hc)]
  exact heap_put_ne (w := Sort.ahead w m) hne _ _
theorem sw_size {α : Type} [Inhabited α] {enc : α → List Value} {n b o m : Nat} {w : World} (d : Array α) (os : Array Obj) : w.heap.size ≤ (sortWorldK enc n w b o m d os).heap.size := by
  unfold sortWorldK grow putRowK putRow mapBlock Sort.ahead
  simp
theorem sortFunc_ok (L : SlLaysF0.n6 P ρ) (aE : ∀ w, (isAgg (ρ.t 24)).run P w = .ok true w) (zE : ∀ w, (Go.sizeOf (ρ.t 24)).run P w = .ok (sizeOfTag k) w) (hk : plainK k) (h0 : 0 < sizeOfTag k) {g : FuncId} {caps : List SV} {C : List SV → Option Con} (hC : FnOk P g C) {cf : k.T → k.T → Int}
    (hcf : ∀ x y, C (.agg (cellsOf k x) :: .agg (cellsOf k y) :: caps) = some (.det True (.v (.int .i64 (cf x y))))) (hO : SWO (ltOf cf)) (hpf : ∀ s ∈ caps, PF s) (hcf0 : ∃ x y, C (.agg (cellsOf k x) :: .agg (cellsOf k y) :: caps) = some (.det True (.v (.int .i64 (cf x y))))) : FnOkO P (ρ.f 6) (C_sortFunc k g caps cf) := by
  haveI : Inhabited k.T := ⟨dflt k⟩
  refine ⟨fun l h c hc args w => L.f6.enters rfl args w, fun l h c hc hp F own w vs hHp hvs => ?_⟩
  unfold C_sortFunc at hc
  obtain ⟨l0, hh, hK⟩ := rowC_inv hc
  clear hc
  subst hh
  by_cases hl : l = [.os 0, .fn g [] caps]
  rotate_left
  · rw [if_neg hl] at hK; cases hK
  rw [if_pos hl] at hK
  subst hl
  cases hK
  have hp : apart cf l0 := hp
  obtain ⟨hsz, hrel⟩ := hvs
  have r0 := hrel 0 _ rfl
  have r1 := hrel 1 _ rfl
  have hvs2 : vs = #[vs.getD 0 undef, vs.getD 1 undef] := by
    apply Array.ext
    · simpa using hsz
    · intro i h1 h2
      simp only [List.length_cons, List.length_nil] at hsz
      match i, h1, h2 with
      | 0, h1, _ => simp [Array.getD, h1]
      | 1, h1, _ => simp [Array.getD, h1]
      | i + 2, h1, _ => omega
  generalize vs.getD 0 undef = v0 at r0 hvs2
  generalize vs.getD 1 undef = v1 at r1 hvs2
  subst hvs2
  obtain ⟨hd, o0, rfl, _⟩ := rel_os r0
  obtain ⟨hd', o0', hrow⟩ := hHp.at (id := 0) (o := .row k l0) rfl rfl
  rw [o0] at o0'
  cases o0'
  have hrow : RowRel F own w k l0 hd.v hd.bs := hrow
  cases r1 with
  | @fn _ _ _ us cs s1 s2 c1 c2 =>
  have hus : us = #[] := Array.eq_empty_of_size_eq_zero (by simpa using s1)
  subst hus
  rcases hrow with ⟨a, e1, rfl, e2⟩ | ⟨b, o, cap, cells, ty, e1, e2, e3, e4, e5, e6, e7⟩
  · rw [e1]
    refine (AnyF.slices_SortFunc_none L a 0 _ w).mono fun e w' he => ?_
    obtain ⟨rfl, rfl⟩ := he
    refine ⟨(), own, trivial, ⟨_, rfl, .tup rfl fun j s hj => by simp at hj⟩, ?_, Fr.refl _, Nat.le_refl _⟩
    have : srt cf ([] : List k.T) = [] := by simp [srt]
    rw [this]
    exact hHp
  · have hbown : b ∈ hd.bs := by rw [e2]; simp
    have hbw : b < w.heap.size := hHp.lt 0 hd b o0 hbown
    have hkl : ∀ x : k.T, (encK k x).length = sizeOfTag k := fun x => by unfold encK; rw [List.length_map, cellsOf_length]
    have hone : ∀ x : k.T, ∀ v ∈ encK k x, v.oneCell' = true := fun x v hv => by
      unfold encK at hv
      rw [List.mem_map] at hv
      obtain ⟨s, hs, rfl⟩ := hv
      obtain ⟨v, rfl, h1⟩ := hk x s hs
      exact h1
    have eg : ∀ args w, (callFunc g args).run P w = .ok (.enter g args) w := fun args w => by
      obtain ⟨x, y, hxy⟩ := hcf0
      exact hC.enter _ _ hxy args w
    have hown : ∀ id h2, own id = some h2 → id = 0 := fun id h2 e => by have := hHp.dom id h2 e; simpa using this
    have hH : HoldsK (encK k) (sizeOfTag k) w b o l0.toArray := by
      intro t ht
      rw [size_flatK] at ht
      simp only [List.size_toArray] at ht
      have hi : t / sizeOfTag k < l0.length := Nat.div_lt_of_lt_mul (by rw [Nat.mul_comm]; exact ht)
      have hj := Nat.mod_lt t h0
      have ht' : t = t / sizeOfTag k * sizeOfTag k + t % sizeOfTag k := (Nat.div_add_mod' t _).symm
      have q1 := rowAt_enc hk e7 hi hj
      have q2 := flat_get (enc := encK k) hkl (d := l0.toArray) (i := t / sizeOfTag k) (j := t % sizeOfTag k) (by simpa using hi) hj
      rw [← ht'] at q2
      rw [Nat.add_assoc, ← ht'] at q1
      have hl0 : l0.toArray[t / sizeOfTag k]! = l0[t / sizeOfTag k] := by rw [getElem!_pos l0.toArray _ (by simpa using hi)]; rfl
      rw [hl0] at q2
      have hlt : t < (flatK (encK k) (sizeOfTag k) l0.toArray).size := by rw [size_flatK]; simpa using ht
      constructor
      · unfold World.cell?
        rw [e3]
        dsimp only
        rw [q1, ← q2, Array.getElem?_eq_getElem hlt, getElem!_pos _ t hlt]
        rfl
      · unfold World.frozen?
        rw [e3]
        simp
    have hcmp : CmpLays P g cs (encK k) (sizeOfTag k) cf b o l0.toArray.size w := by
      intro m os dk hdk x y
      generalize hW : sortWorldK (encK k) (sizeOfTag k) w b o m dk os = W
      have hcar : Carries F own w F own W := ⟨fun _ h2 e => ⟨h2, e, .refl _⟩, fun c hc hn => ⟨hn, by
        rw [← hW]
        exact sw_ne hc (fun e => hn (.inr ⟨0, hd, o0, e ▸ hbown⟩)) _ _⟩⟩
      have henc : ∀ z : k.T, Rel (fun _ => False) own0 W (.agg (cellsOf k z)) (.agg (encK k z).toArray) := fun z => by
        refine .agg (by simp [encK]) fun j s hj => ?_
        obtain ⟨v, rfl, _⟩ := hk z s (List.mem_of_getElem? hj)
        have : (encK k z).toArray.getD j undef = v := by
          unfold encK
          rw [Array.getD_eq_getD_getElem?, List.getElem?_toArray, List.getElem?_map, hj]
          rfl
        rw [this]; exact .v v
      have hcall := calls_drawn (hC.calls _ _ (hcf x y) trivial (fun _ => False) W (#[.agg (encK k x).toArray, .agg (encK k y).toArray] ++ cs) (fun _ h => h.elim) ⟨by simp [c1]; omega, fun j s hj => by
        match j, hj with
        | 0, hj =>
          cases hj
          rw [Array.getD_eq_getD_getElem?, Array.getElem?_append_left (by simp)]
          exact henc x
        | 1, hj =>
          cases hj
          rw [Array.getD_eq_getD_getElem?, Array.getElem?_append_left (by simp)]
          exact henc y
        | j + 2, hj =>
          have hj : caps[j]? = some s := hj
          have := ((c2 j s hj).carry hcar).over (hpf s (List.mem_of_getElem? hj)) (F' := fun _ => False) (own' := own0) fun _ _ h => by
            rcases h with h | ⟨_, _, h, _⟩
            · exact h
            · cases h
          have e : (#[Value.agg (encK k x).toArray, .agg (encK k y).toArray] ++ cs).getD (j + 2) undef = cs.getD j undef := by
            rw [Array.getD_eq_getD_getElem?, Array.getD_eq_getD_getElem?, Array.getElem?_append_right (by simp)]
            simp
          rw [e]; exact this⟩)
      refine hcall.mono fun e w' hq => ?_
      obtain ⟨he, hdr⟩ := hq
      rcases he with ⟨s, u, own', hs, rfl, hh, hb⟩ | ⟨z, hz, _⟩
      · simp only [conPost] at hs
        subst hs
        have := hh.val
        simp only [HandV] at this
        rw [rel_v this]
        exact ⟨rfl, grow_of hb (hdr (by simp))⟩
      · exact hz.elim
    have hall := AnyQ.slices_SortFunc L (sizeOfTag k) aE zE (encK k) hkl hone cf hO g cs b o cap l0.toArray w eg hcmp hH hbw (by unfold maxL at e6; simp only [List.size_toArray]; omega)
    rw [e1]
    refine hall.mono fun e w' he => ?_
    obtain ⟨rfl, d', n, os, hpm, hst, rfl⟩ := he
    have hd' := srt_unique hO hp hpm hst
    subst hd'
    have hlS : (srt cf l0).length = l0.length := List.length_mergeSort _
    generalize srt cf l0 = lS at hlS
    have hsb := sw_b (enc := encK k) (n := sizeOfTag k) (o := o) (m := n) e3 lS.toArray os
    refine ⟨(), own, trivial, ⟨_, rfl, .tup rfl fun j s hj => by simp at hj⟩, ?_, ?_, Nat.le_refl _⟩
    · refine ⟨hHp.dom, fun c hc => Nat.lt_of_lt_of_le (hHp.foreign c hc) (sw_size _ _), hHp.apart, hHp.inj, fun i h2 c e hc => Nat.lt_of_lt_of_le (hHp.lt i h2 c e hc) (sw_size _ _), fun i hi => ?_⟩
      match i, hi with
      | 0, _ =>
        refine ⟨hd, o0, ?_⟩
        show RowRel F own _ k lS hd.v hd.bs
        refine .inr ⟨b, o, cap, _, ty, by rw [hlS]; exact e1, e2, hsb, ?_, by omega, by omega, enc_rowAt hk fun i j hi hj => ?_⟩
        · unfold putCells; simpa using e4
        · have hlt : i * sizeOfTag k + j < (flatK (encK k) (sizeOfTag k) lS.toArray).size := by
            rw [size_flatK]
            have := Nat.mul_le_mul_right (sizeOfTag k) (show i + 1 ≤ lS.length from hi)
            rw [Nat.succ_mul] at this
            simp only [List.size_toArray]; omega
          have hle : o + (i * sizeOfTag k + j) < cells.size := by
            rw [size_flatK] at hlt
            simp only [List.size_toArray] at hlt
            have := Nat.mul_le_mul_right (sizeOfTag k) (show lS.length ≤ cap by omega)
            omega
          rw [Nat.add_assoc, putCells_get hlt hle, flat_get hkl (by simpa using hi) hj]
          have : lS.toArray[i]! = lS[i] := by rw [getElem!_pos lS.toArray _ (by simpa using hi)]; rfl
          rw [this]
      | i + 1, hi => rw [obAt_out (by simp)] at hi; cases hi
    · refine ⟨fun _ h2 e => ⟨h2, e, .refl _⟩, (Fr.refl { w := w, own := own }).base, rfl, rfl, rfl, sw_size _ _, fun c hc => ?_⟩
      exact sw_ne hc.1 (fun e => hc.2 ⟨0, hd, o0, e ▸ hbown⟩) _ _
end
end Go.Sx
end
section
namespace Go.Proofs
open Go.Shelf
def Tryz.sortL_ren : Go.Shelf.Ren := ⟨fun | 6 => 36 | 15 => 58 | 14 => 57 | 28 => 90 | 29 => 91 | 20 => 82 | 21 => 83 | 22 => 84 | 23 => 85 | 24 => 86 | 25 => 87 | 26 => 88 | 27 => 89 | 46 => 114 | 47 => 115 | 48 => 116 | 49 => 117 | 50 => 118 | 57 => 127 | n => n, fun | 22 => 40 | 24 => 51 | 25 => 80 | 3 => 3 | 39 => 104 | 0 => 0 | 53 => 134 | 55 => 136 | 4 => 4 | 46 => 128 | 45 => 127 | 50 => 71 | 5 => 5 | 9 => 9 | 66 => 156 | 70 => 160 | 76 => 164 | 77 => 165 | n => n, fun | n => n⟩
theorem Tryz.sortL : Go.Proofs.SlLaysF0.n6 Tryz.prog Tryz.sortL_ren := {
  mixed := by kernel_rfl
  f6 := ⟨Tryz.f36.name, by decide, Tryz.func36.trans (congrArg some (by kernel_rfl))⟩
  f14 := ⟨Tryz.f57.name, by decide, Tryz.func57.trans (congrArg some (by kernel_rfl))⟩
  f15 := Tryz.func58.trans (congrArg some (by kernel_rfl))
  f20 := ⟨Tryz.f82.name, by decide, Tryz.func82.trans (congrArg some (by kernel_rfl))⟩
  f21 := ⟨Tryz.f83.name, by decide, Tryz.func83.trans (congrArg some (by kernel_rfl))⟩
  f22 := ⟨Tryz.f84.name, by decide, Tryz.func84.trans (congrArg some (by kernel_rfl))⟩
  f23 := ⟨Tryz.f85.name, by decide, Tryz.func85.trans (congrArg some (by kernel_rfl))⟩
  f24 := ⟨Tryz.f86.name, by decide, Tryz.func86.trans (congrArg some (by kernel_rfl))⟩
  f25 := ⟨Tryz.f87.name, by decide, Tryz.func87.trans (congrArg some (by kernel_rfl))⟩
  f26 := ⟨Tryz.f88.name, by decide, Tryz.func88.trans (congrArg some (by kernel_rfl))⟩
  f27 := ⟨Tryz.f89.name, by decide, Tryz.func89.trans (congrArg some (by kernel_rfl))⟩
  f28 := Tryz.func90.trans (congrArg some (by kernel_rfl))
  f29 := Tryz.func91.trans (congrArg some (by kernel_rfl))
  f46 := ⟨Tryz.f114.name, by decide, Tryz.func114.trans (congrArg some (by kernel_rfl))⟩
  f47 := Tryz.func115.trans (congrArg some (by kernel_rfl))
  f48 := Tryz.func116.trans (congrArg some (by kernel_rfl))
  f49 := ⟨Tryz.f117.name, by decide, Tryz.func117.trans (congrArg some (by kernel_rfl))⟩
  f50 := ⟨Tryz.f118.name, by decide, Tryz.func118.trans (congrArg some (by kernel_rfl))⟩
  f57 := ⟨Tryz.f127.name, by decide, Tryz.func127.trans (congrArg some (by kernel_rfl))⟩
  t0 := Tryz.underlying0
  a0 := Tryz.isAgg0
  z0 := Tryz.sizeOf0
  v0 := Tryz.zeroValue0
  t3 := Tryz.underlying3
  a3 := Tryz.isAgg3
  z3 := Tryz.sizeOf3
  v3 := Tryz.zeroValue3
  t4 := Tryz.underlying4
  a4 := Tryz.isAgg4
  z4 := Tryz.sizeOf4
  v4 := Tryz.zeroValue4
  t5 := Tryz.underlying5
  a5 := Tryz.isAgg5
  z5 := Tryz.sizeOf5
  v5 := Tryz.zeroValue5
  t9 := Tryz.underlying9
  a9 := Tryz.isAgg9
  z9 := Tryz.sizeOf9
  v9 := Tryz.zeroValue9
  t22 := Tryz.underlying40
  a22 := Tryz.isAgg40
  z22 := Tryz.sizeOf40
  v22 := Tryz.zeroValue40
  t25 := Tryz.underlying80
  a25 := Tryz.isAgg80
  z25 := Tryz.sizeOf80
  v25 := Tryz.zeroValue80
  t39 := Tryz.underlying104
  a39 := Tryz.isAgg104
  z39 := Tryz.sizeOf104
  v39 := Tryz.zeroValue104
  t45 := Tryz.underlying127
  a45 := Tryz.isAgg127
  z45 := Tryz.sizeOf127
  v45 := Tryz.zeroValue127
  t46 := Tryz.underlying128
  a46 := Tryz.isAgg128
  z46 := Tryz.sizeOf128
  v46 := Tryz.zeroValue128
  t50 := Tryz.underlying71
  a50 := Tryz.isAgg71
  z50 := Tryz.sizeOf71
  v50 := Tryz.zeroValue71
  t53 := Tryz.underlying134
  a53 := Tryz.isAgg134
  z53 := Tryz.sizeOf134
  v53 := Tryz.zeroValue134
  t55 := Tryz.underlying136
  a55 := Tryz.isAgg136
  z55 := Tryz.sizeOf136
  v55 := Tryz.zeroValue136
  t66 := Tryz.underlying156
  a66 := Tryz.isAgg156
  z66 := Tryz.sizeOf156
  v66 := Tryz.zeroValue156
  t70 := Tryz.underlying160
  a70 := Tryz.isAgg160
  z70 := Tryz.sizeOf160
  v70 := Tryz.zeroValue160
  t76 := Tryz.underlying164
  a76 := Tryz.isAgg164
  z76 := Tryz.sizeOf164
  v76 := Tryz.zeroValue164
  t77 := Tryz.underlying165
  a77 := Tryz.isAgg165
  z77 := Tryz.sizeOf165
  v77 := Tryz.zeroValue165 }
end Go.Proofs
end
section
namespace Go.Sx
open Go.RowKit Go.Shelf Go.Lib Go.Sort Go.Proofs
set_option maxRecDepth 100000
noncomputable def C_SortFunc : List SV → List Ob → Option HCon := C_sortFunc .order 92 [.ep [keyFns] 0] routing_by_1
@[go_sem] theorem C_SortFunc_mk {l0 : List Order} : C_SortFunc [.os 0, .fn 92 [] [.ep [keyFns] 0]] [.row .order l0] = some (retC (apart routing_by_1 l0) (.tup []) [.row .order (srt routing_by_1 l0)]) := C_sortFunc_mk
theorem plain_order : plainK .order := fun x s hs => by
  simp only [cellsOf, List.mem_cons, List.not_mem_nil, or_false] at hs
  rcases hs with rfl | rfl | rfl | rfl
  all_goals exact ⟨_, rfl, rfl⟩
theorem by_con (x y : Order) : C_routing_by_1 (.agg (cellsOf .order x) :: .agg (cellsOf .order y) :: [.ep [keyFns] 0]) = some (.det True (.v (.int .i64 (routing_by_1 x y)))) := by
  simp only [go_sem, Nat.reduceBEq]
theorem ok_SortFunc : FnOkO Tryz.prog 36 C_SortFunc := by
  refine sortFunc_ok (k := .order) Tryz.sortL (fun w => by kernel_rfl) (fun w => by kernel_rfl) plain_order (by decide) (g := 92) (caps := [.ep [keyFns] 0]) ok_routing_by_1 (cf := routing_by_1) by_con swo_by (fun s hs => ?_) ⟨default, default, by_con _ _⟩
  simp only [List.mem_cons, List.not_mem_nil, or_false] at hs
  subst hs
  exact pf_of_noPtr 5 _ rfl
end Go.Sx
end
section
namespace Go.Sx
open Go.Proofs
set_option maxRecDepth 100000
@[go_sem] def C_slices_Clone : List SV → Option Con := pR .order fun l => pE (.det (l.length * 32 ≤ maxB) (.nw .order l))
theorem ok_slices_Clone : FnOk Tryz.prog 34 C_slices_Clone := by
  have hG : ConsOk Tryz.prog (mkG [] []) := mkG_ok cg0 cg0
  refine fn_okW [(.tmp 2, .order)] mixed ts_ok hG (fn := Tryz.f34) (c := bodyOf Tryz.f34) (by kernel_rfl) (by kernel_rfl) (by kernel_rfl) (by kernel_rfl) (pR_all fun l => pE_all fun hp => ?_)
  dsimp only [conPre] at hp
  refine ⟨Nat.le_of_ble_eq_true rfl, L0, loopsOk0 _, ?_⟩
  unfold bodyOf Tryz.f34
  simp only [go_sem, Nat.reduceBEq, Nat.reduceLeDiff, Nat.reduceAdd, Nat.reduceSub, Nat.reduceMul, Int.reduceLE, Int.reduceLT, Int.reduceToNat, Int.reduceNeg, reduceCtorEq]
  intro b hb
  refine ⟨fun h => ?_, fun _ => ⟨hp, fun _ => rfl⟩⟩
  have hl := hb h
  subst hl
  rfl
end Go.Sx
end
section
namespace Go.Sx
open Go.Proofs
set_option maxRecDepth 100000
set_option linter.unusedSimpArgs false
theorem crSxR5_0 {p : Prop} (h : p := by (first | done | (repeat' (first | with_reducible refine And.intro ?_ ?_ | ((with_reducible show _ ≠ _); first | assumption | omega | (simp_all [outR, outL]; done) | grind) | with_reducible intro _)) <;> (first | done | exact Empty.elim ‹Empty› | assumption | rfl | omega | decide | exact fk [0, 1, 2] | (simp only [*, cond_true, cond_false, Bool.not_true, Bool.not_false, go_sem, Nat.reduceBEq, Nat.reduceLeDiff, Nat.reduceLT, decide_true, Nat.reduceAdd, Nat.reduceSub, Nat.reduceMul, Int.reduceLE, Int.reduceLT, Int.reduceToNat, Int.reduceNeg, reduceCtorEq]; done) | (simp only [*, cond_true, cond_false, Bool.not_true, Bool.not_false, go_sem, Nat.reduceBEq, Nat.reduceLeDiff, Nat.reduceLT, decide_true, Nat.reduceAdd, Nat.reduceSub, Nat.reduceMul, Int.reduceLE, Int.reduceLT, Int.reduceToNat, Int.reduceNeg, reduceCtorEq]; (repeat' (first | with_reducible refine And.intro ?_ ?_ | ((with_reducible show _ ≠ _); first | assumption | omega | (simp_all [outR, outL]; done) | grind) | with_reducible intro _)) <;> (first | done | assumption | rfl | omega | decide | exact fk [0, 1, 2] | (simp_all [outR, outL]; done))) | (simp_all [okI, outR, outL]; done) | (simp_all [outR, outL]; (first | done | exact fk2 [0, 1, 2])) | exact fk2 [0, 1, 2]))) : p := h
theorem crSxR5_1 {p : Prop} (h : p := by (first | done | (repeat' (first | with_reducible refine And.intro ?_ ?_ | ((with_reducible show _ ≠ _); first | assumption | omega | (simp_all [outR, outL]; done) | grind) | with_reducible intro _)) <;> (first | done | exact Empty.elim ‹Empty› | assumption | rfl | omega | decide | exact fk [0, 1, 2, 3] | (simp only [*, cond_true, cond_false, Bool.not_true, Bool.not_false, go_sem, Nat.reduceBEq, Nat.reduceLeDiff, Nat.reduceLT, decide_true, Nat.reduceAdd, Nat.reduceSub, Nat.reduceMul, Int.reduceLE, Int.reduceLT, Int.reduceToNat, Int.reduceNeg, reduceCtorEq]; done) | (simp only [*, cond_true, cond_false, Bool.not_true, Bool.not_false, go_sem, Nat.reduceBEq, Nat.reduceLeDiff, Nat.reduceLT, decide_true, Nat.reduceAdd, Nat.reduceSub, Nat.reduceMul, Int.reduceLE, Int.reduceLT, Int.reduceToNat, Int.reduceNeg, reduceCtorEq]; (repeat' (first | with_reducible refine And.intro ?_ ?_ | ((with_reducible show _ ≠ _); first | assumption | omega | (simp_all [outR, outL]; done) | grind) | with_reducible intro _)) <;> (first | done | assumption | rfl | omega | decide | exact fk [0, 1, 2, 3] | (simp_all [outR, outL]; done))) | (simp_all [okI, outR, outL]; done) | (simp_all [outR, outL]; (first | done | exact fk2 [0, 1, 2, 3])) | exact fk2 [0, 1, 2, 3]))) : p := h
theorem crSxR5_2 {p : Prop} (h : p := by (first | done | (repeat' (first | with_reducible refine And.intro ?_ ?_ | ((with_reducible show _ ≠ _); first | assumption | omega | (simp_all [outR, outL]; done) | grind) | with_reducible intro _)) <;> (first | done | exact Empty.elim ‹Empty› | assumption | rfl | omega | decide | exact fk [0, 1, 2, 3, 4, 5] | (simp only [*, cond_true, cond_false, Bool.not_true, Bool.not_false, go_sem, Nat.reduceBEq, Nat.reduceLeDiff, Nat.reduceLT, decide_true, Nat.reduceAdd, Nat.reduceSub, Nat.reduceMul, Int.reduceLE, Int.reduceLT, Int.reduceToNat, Int.reduceNeg, reduceCtorEq]; done) | (simp only [*, cond_true, cond_false, Bool.not_true, Bool.not_false, go_sem, Nat.reduceBEq, Nat.reduceLeDiff, Nat.reduceLT, decide_true, Nat.reduceAdd, Nat.reduceSub, Nat.reduceMul, Int.reduceLE, Int.reduceLT, Int.reduceToNat, Int.reduceNeg, reduceCtorEq]; (repeat' (first | with_reducible refine And.intro ?_ ?_ | ((with_reducible show _ ≠ _); first | assumption | omega | (simp_all [outR, outL]; done) | grind) | with_reducible intro _)) <;> (first | done | assumption | rfl | omega | decide | exact fk [0, 1, 2, 3, 4, 5] | (simp_all [outR, outL]; done))) | (simp_all [okI, outR, outL]; done) | (simp_all [outR, outL]; (first | done | exact fk2 [0, 1, 2, 3, 4, 5])) | exact fk2 [0, 1, 2, 3, 4, 5]))) : p := h
theorem crSxR5_3 {p : Prop} (h : p := by (first | done | (repeat' (first | with_reducible refine And.intro ?_ ?_ | ((with_reducible show _ ≠ _); first | assumption | omega | (simp_all [outR, outL]; done) | grind) | with_reducible intro _)) <;> (first | done | exact Empty.elim ‹Empty› | assumption | rfl | omega | decide | exact fk [0, 1, 2, 3, 4, 5, 6, 7] | exact fk [0, 1, 2, 3, 4, 5, 6, 10] | (simp only [*, cond_true, cond_false, Bool.not_true, Bool.not_false, go_sem, Nat.reduceBEq, Nat.reduceLeDiff, Nat.reduceLT, decide_true, Nat.reduceAdd, Nat.reduceSub, Nat.reduceMul, Int.reduceLE, Int.reduceLT, Int.reduceToNat, Int.reduceNeg, reduceCtorEq]; done) | (simp only [*, cond_true, cond_false, Bool.not_true, Bool.not_false, go_sem, Nat.reduceBEq, Nat.reduceLeDiff, Nat.reduceLT, decide_true, Nat.reduceAdd, Nat.reduceSub, Nat.reduceMul, Int.reduceLE, Int.reduceLT, Int.reduceToNat, Int.reduceNeg, reduceCtorEq]; (repeat' (first | with_reducible refine And.intro ?_ ?_ | ((with_reducible show _ ≠ _); first | assumption | omega | (simp_all [outR, outL]; done) | grind) | with_reducible intro _)) <;> (first | done | assumption | rfl | omega | decide | exact fk [0, 1, 2, 3, 4, 5, 6, 7] | exact fk [0, 1, 2, 3, 4, 5, 6, 10] | (simp_all [outR, outL]; done))) | (simp_all [okI, outR, outL]; done) | (simp_all [outR, outL]; (first | done | exact fk2 [0, 1, 2, 3, 4, 5, 6, 7] | exact fk2 [0, 1, 2, 3, 4, 5, 6, 10])) | exact fk2 [0, 1, 2, 3, 4, 5, 6, 7] | exact fk2 [0, 1, 2, 3, 4, 5, 6, 10]))) : p := h
theorem exSxR5_0 {p : Prop} (h : p := by simp only [go_sem, Nat.reduceBEq, Nat.reduceLeDiff, Nat.reduceLT, decide_true, Nat.reduceAdd, Nat.reduceSub, Nat.reduceMul, Int.reduceLE, Int.reduceLT, Int.reduceToNat, Int.reduceNeg, reduceCtorEq, hc, hw]; all_goals exact crSxR5_0) : p := h
theorem ezSxR5_0 {p : Prop} (h : p := by simp only [go_sem, Nat.reduceBEq, Nat.reduceLeDiff, Nat.reduceLT, decide_true, Nat.reduceAdd, Nat.reduceSub, Nat.reduceMul, Int.reduceLE, Int.reduceLT, Int.reduceToNat, Int.reduceNeg, reduceCtorEq, hc]; all_goals exact crSxR5_0) : p := h
theorem exSxR5_1 {p : Prop} (h : p := by simp only [go_sem, Nat.reduceBEq, Nat.reduceLeDiff, Nat.reduceLT, decide_true, Nat.reduceAdd, Nat.reduceSub, Nat.reduceMul, Int.reduceLE, Int.reduceLT, Int.reduceToNat, Int.reduceNeg, reduceCtorEq, hc, hw]; all_goals exact crSxR5_1) : p := h
theorem ezSxR5_1 {p : Prop} (h : p := by simp only [go_sem, Nat.reduceBEq, Nat.reduceLeDiff, Nat.reduceLT, decide_true, Nat.reduceAdd, Nat.reduceSub, Nat.reduceMul, Int.reduceLE, Int.reduceLT, Int.reduceToNat, Int.reduceNeg, reduceCtorEq, hc]; all_goals exact crSxR5_1) : p := h
theorem exSxR5_2 {p : Prop} (h : p := by simp only [go_sem, Nat.reduceBEq, Nat.reduceLeDiff, Nat.reduceLT, decide_true, Nat.reduceAdd, Nat.reduceSub, Nat.reduceMul, Int.reduceLE, Int.reduceLT, Int.reduceToNat, Int.reduceNeg, reduceCtorEq, hc, hw]; all_goals exact crSxR5_2) : p := h
theorem ezSxR5_2 {p : Prop} (h : p := by simp only [go_sem, Nat.reduceBEq, Nat.reduceLeDiff, Nat.reduceLT, decide_true, Nat.reduceAdd, Nat.reduceSub, Nat.reduceMul, Int.reduceLE, Int.reduceLT, Int.reduceToNat, Int.reduceNeg, reduceCtorEq, hc]; all_goals exact crSxR5_2) : p := h
@[go_sem] def routing_loads_l1 (d : District) (l_ : List Order) (k_0 : Nat) (k_1 : Nat) (s_1 : List ((Int × Int) × Int)) : Empty ⊕ (List ((Int × Int) × Int)) := .inr (mupdT .int2 .int s_1 ((l_.getD k_0 (default : Order)).index, (IntKind.i64.wrap ((l_.getD k_0 (default : Order)).hour + (k_1 : Int)))) (IntKind.i64.wrap ((mgetT .int2 .int s_1 ((l_.getD k_0 (default : Order)).index, (IntKind.i64.wrap ((l_.getD k_0 (default : Order)).hour + (k_1 : Int))))) + (l_.getD k_0 (default : Order)).litres)))
@[go_sem] def routing_loads_l0 (d : District) (l_ : List Order) (k_0 : Nat) (s_0 : List ((Int × Int) × Int) × List ((Int × Int) × Int)) : Empty ⊕ (List ((Int × Int) × Int) × List ((Int × Int) × Int)) := (bif (l_.getD k_0 (default : Order)).outlet then .inr (s_0.1, s_0.2) else (match runI (routing_loads_l1 d l_ k_0) (Int.toNat ((d.reaches.getD (Int.toNat ((l_.getD k_0 (default : Order)).index)) (default : Reach)).delay)) 0 s_0.2 with | .inl x => x.elim | .inr s_1 => .inr ((mupdT .int2 .int s_0.1 ((l_.getD k_0 (default : Order)).index, (l_.getD k_0 (default : Order)).hour) ((l_.getD k_0 (default : Order)).litres)), s_1)))
def routing_loads_l0_p (d : District) (l_ : List Order) (k_0 : Nat) (s_0 : List ((Int × Int) × Int) × List ((Int × Int) × Int)) : Prop := ((l_.getD k_0 (default : Order)).outlet = false → ((0 ≤ (l_.getD k_0 (default : Order)).index ∧ (l_.getD k_0 (default : Order)).index < (d.reaches.length : Int)) ∧ ((d.reaches.getD (Int.toNat ((l_.getD k_0 (default : Order)).index)) (default : Reach)).delay < 9223372036854775808)))
def routing_loads (d : District) (l_ : List Order) : List ((Int × Int) × Int) × List ((Int × Int) × Int) := (match runI (routing_loads_l0 d l_) l_.length 0 ([], []) with | .inl x => x.elim | .inr s_0 => (s_0.1, s_0.2))
def routing_loads_p (d : District) (l_ : List Order) : Prop := (l_.length ≤ maxL → okI (routing_loads_l0 d l_) (routing_loads_l0_p d l_) l_.length 0 ([], []))
@[go_sem] def C_routing_loads : List SV → Option Con := (pD .district fun d => (pR .order fun l_ => (pE (.det (routing_loads_p d l_) (.tup [.nm .int2 .int ((routing_loads d l_).1), .nm .int2 .int ((routing_loads d l_).2)])))))
set_option maxHeartbeats 4000000 in
theorem ok_routing_loads : FnOk Tryz.prog 45 C_routing_loads := by
  have hG : ConsOk Tryz.prog (mkG [] []) := mkG_ok cg0 cg0
  refine fn_okE true mixed ts_ok hG (fn := Tryz.f45) (c := bodyOf Tryz.f45) (by kernel_rfl) (by kernel_rfl) (by kernel_rfl) (by kernel_rfl) (pD_all fun d => (pR_all fun l_ => (pE_all (fun hp => ?_))))
  dsimp only [conPre] at hp
  unfold routing_loads_p at hp
  refine ⟨Nat.le_of_ble_eq_true rfl, (fun id st => bif Nat.beq id 0 then some (LCR (ρ := Empty) (σ := (List ((Int × Int) × Int) × List ((Int × Int) × Int))) 3 [] [0, 1, 2] (fun k_0 s_0 => ⟨[(2, .ptr 0 0), (4, .os 1), (5, .os 2), (11, .rs .order l_), (12, .v (.int .i64 (l_.length : Int))), (13, .v (.int .i64 (k_0 : Int)))], [.cells (cellsOf .district d), .mp .int2 .int s_0.1 none, .mp .int2 .int s_0.2 none]⟩) (routing_loads_l0 d l_) (routing_loads_l0_p d l_) l_.length ([], []) (l_.length ≤ maxL) ((·.elim)) ((·.elim)) st) else none), ?_, ?_⟩
  · unfold bodyOf Tryz.f45
    simp only [loopsOk, true_and, and_true]
    · refine loopR_ok mixed ts_ok hG (by kernel_rfl) (fun _ => rfl) (l_.length : Int) rfl lenB (fun hb0 k_0 s_0 hlt0 hq0 hw hc => ⟨(fun id st => bif Nat.beq id 2 then some (LCR (ρ := Empty) (σ := (List ((Int × Int) × Int))) 4 [] [0, 1, 2, 3] (fun k_1 s_1 => ⟨[(2, .ptr 0 0), (4, .os 1), (5, .os 2), (7, .ptr 3 0), (11, .rs .order l_), (12, .v (.int .i64 (l_.length : Int))), (13, .v (.int .i64 (k_0 : Int))), (33, .v (.int .i64 ((d.reaches.getD (Int.toNat ((l_.getD k_0 (default : Order)).index)) (default : Reach)).delay))), (34, .v (.int .i64 (k_1 : Int)))], [.cells (cellsOf .district d), .mp .int2 .int (mupdT .int2 .int s_0.1 ((l_.getD k_0 (default : Order)).index, (l_.getD k_0 (default : Order)).hour) ((l_.getD k_0 (default : Order)).litres)) none, .mp .int2 .int s_1 none, .cells (cellsOf .order (l_.getD k_0 (default : Order)))]⟩) (routing_loads_l1 d l_ k_0) pT (Int.toNat ((d.reaches.getD (Int.toNat ((l_.getD k_0 (default : Order)).index)) (default : Reach)).delay)) s_0.2 ((d.reaches.getD (Int.toNat ((l_.getD k_0 (default : Order)).index)) (default : Reach)).delay < 9223372036854775808) ((·.elim)) ((·.elim)) st) else none), ?_, ?_⟩) (fun hb0 s_0 hc => ?_)
      · simp only [loopsOk, true_and, and_true]
        · refine loopR_ok mixed ts_ok hG (by kernel_rfl) (fun _ => rfl) ((d.reaches.getD (Int.toNat ((l_.getD k_0 (default : Order)).index)) (default : Reach)).delay) rfl id (fun hb1 k_1 s_1 hlt1 _ hw hc => ⟨L0, loopsOk0 _, ?_⟩) (fun hb1 s_1 hc => ?_)
          · exact exSxR5_1
          · exact ezSxR5_1
      · unfold routing_loads_l0_p at hq0
        try simp only [hw, Int.toNat_natCast] at hq0
        exact exSxR5_0
      · exact ezSxR5_0
  · unfold bodyOf Tryz.f45
    try unfold routing_loads
    simp only [go_sem, Nat.reduceBEq, Nat.reduceLeDiff, Nat.reduceLT, decide_true, Nat.reduceAdd, Nat.reduceSub, Nat.reduceMul, Int.reduceLE, Int.reduceLT, Int.reduceToNat, Int.reduceNeg, reduceCtorEq]
    all_goals exact cl
@[go_sem] def routing_Fits_l1 (d : District) (l_ : List Order) (k_0 : Nat) (k_1 : Nat) (s_1 : Unit) : Int ⊕ Unit := (bif ((decide ((mgetT .int2 .int ((routing_loads d l_).1) ((k_1 : Int), (k_0 : Int))) > (d.reaches.getD k_1 (default : Reach)).cap)) || (decide ((mgetT .int2 .int ((routing_loads d l_).2) ((k_1 : Int), (k_0 : Int))) > (d.reaches.getD k_1 (default : Reach)).bank))) then .inl (k_1 : Int) else .inr ())
@[go_sem] def routing_Fits_l0 (d : District) (l_ : List Order) (k_0 : Nat) (s_0 : Unit) : (Int × Int) ⊕ Unit := (match runI (routing_Fits_l1 d l_ k_0) d.reaches.length 0 () with | .inl x_1_0 => .inl ((k_0 : Int), x_1_0) | .inr s_1 => .inr ())
def routing_Fits (d : District) (l_ : List Order) : Bool × Int × Int × Int := (bif ((routing_narrow d l_) != 0) then (false, 0, 0, (routing_narrow d l_)) else (match runI (routing_Fits_l0 d l_) (Int.toNat d.hours) 0 () with | .inl x_0_0 => (false, x_0_0.1, x_0_0.2, 0) | .inr s_0 => (true, 0, 0, 0)))
def routing_Fits_p (d : District) (l_ : List Order) : Prop := ((routing_narrow_p d l_) ∧ (((routing_narrow d l_) != 0) = false → ((routing_loads_p d l_) ∧ (d.hours < 9223372036854775808))))
@[go_sem] def C_routing_Fits : List SV → Option Con := (pD .district fun d => (pR .order fun l_ => (pE (.det (routing_Fits_p d l_) (.tup [.v (.bool ((routing_Fits d l_).1)), .v (.int .i64 ((routing_Fits d l_).2.1)), .v (.int .i64 ((routing_Fits d l_).2.2.1)), .v (.int .i64 ((routing_Fits d l_).2.2.2))])))))
set_option maxHeartbeats 4000000 in
theorem ok_routing_Fits : FnOk Tryz.prog 19 C_routing_Fits := by
  have hG : ConsOk Tryz.prog (mkG [(33, fun l => C_routing_narrow (nrmA [.st .district, .sl .order] l)), (45, fun l => C_routing_loads (nrmA [.st .district, .sl .order] l))] []) := mkG_ok (cgc (ok_routing_narrow.norm [.st .district, .sl .order]) (cgc (ok_routing_loads.norm [.st .district, .sl .order]) cg0)) cg0
  refine fn_okN [.o, .o, .o, .o] mixed ts_ok hG (fn := Tryz.f19) (c := bodyOf Tryz.f19) (by kernel_rfl) (by kernel_rfl) (by kernel_rfl) (by kernel_rfl) (pD_all fun d => (pR_all fun l_ => (pE_all (fun hp => ?_))))
  dsimp only [conPre] at hp
  unfold routing_Fits_p at hp
  refine ⟨Nat.le_of_ble_eq_true rfl, (fun id st => bif Nat.beq id 0 then some (LCR (ρ := (Int × Int)) (σ := Unit) 3 [] [0, 1, 2] (fun k_0 s_0 => ⟨[(2, .ptr 0 0), (8, .os 1), (9, .os 2), (27, .v (.int .i64 d.hours)), (28, .v (.int .i64 (k_0 : Int)))], [.cells (cellsOf .district d), .mp .int2 .int ((routing_loads d l_).1) none, .mp .int2 .int ((routing_loads d l_).2) none]⟩) (routing_Fits_l0 d l_) pT (Int.toNat d.hours) () (d.hours < 9223372036854775808) (fun _ => .ret) (fun x_0_0 => ⟨[(4, .v (.bool false)), (5, .v (.int .i64 x_0_0.1)), (6, .v (.int .i64 x_0_0.2)), (7, .v (.int .i64 0))], [.dead, .dead, .dead]⟩) st) else none), ?_, ?_⟩
  · unfold bodyOf Tryz.f19
    simp only [loopsOk, true_and, and_true]
    · refine loopR_ok mixed ts_ok hG (by kernel_rfl) (fun _ => rfl) d.hours rfl id (fun hb0 k_0 s_0 hlt0 _ hw hc => ⟨(fun id st => bif Nat.beq id 2 then some (LCR (ρ := Int) (σ := Unit) 3 [] [0, 1, 2] (fun k_1 s_1 => ⟨[(2, .ptr 0 0), (8, .os 1), (9, .os 2), (10, .v (.int .i64 (k_0 : Int))), (27, .v (.int .i64 d.hours)), (28, .v (.int .i64 (k_0 : Int))), (32, .rs .reach d.reaches), (33, .v (.int .i64 (d.reaches.length : Int))), (34, .v (.int .i64 (k_1 : Int)))], [.cells (cellsOf .district d), .mp .int2 .int ((routing_loads d l_).1) none, .mp .int2 .int ((routing_loads d l_).2) none]⟩) (routing_Fits_l1 d l_ k_0) pT d.reaches.length () (d.reaches.length ≤ maxL) (fun _ => .ret) (fun x_1_0 => ⟨[(4, .v (.bool false)), (5, .v (.int .i64 (k_0 : Int))), (6, .v (.int .i64 x_1_0)), (7, .v (.int .i64 0))], [.dead, .dead, .dead]⟩) st) else none), ?_, ?_⟩) (fun hb0 s_0 hc => ?_)
      · simp only [loopsOk, true_and, and_true]
        · refine loopR_ok mixed ts_ok hG (by kernel_rfl) (fun _ => rfl) (d.reaches.length : Int) rfl lenB (fun hb1 k_1 s_1 hlt1 _ hw hc => ⟨L0, loopsOk0 _, ?_⟩) (fun hb1 s_1 hc => ?_)
          · exact exSxR5_0
          · exact ezSxR5_0
      · exact exSxR5_0
      · exact ezSxR5_0
  · unfold bodyOf Tryz.f19
    try unfold routing_Fits
    simp only [go_sem, Nat.reduceBEq, Nat.reduceLeDiff, Nat.reduceLT, decide_true, Nat.reduceAdd, Nat.reduceSub, Nat.reduceMul, Int.reduceLE, Int.reduceLT, Int.reduceToNat, Int.reduceNeg, reduceCtorEq]
    all_goals exact cl
def routing_Load (d : District) (l_ : List Order) (reach : Int) (hour : Int) : Int × Int := (bif ((routing_narrow d l_) != 0) then (0, (routing_narrow d l_)) else (bif ((((decide (reach < 0)) || (decide (reach ≥ (d.reaches.length : Int)))) || (decide (hour < 0))) || (decide (hour ≥ d.hours))) then (0, 1) else ((mgetT .int2 .int ((routing_loads d l_).2) (reach, hour)), 0)))
def routing_Load_p (d : District) (l_ : List Order) (reach : Int) (hour : Int) : Prop := ((routing_narrow_p d l_) ∧ (((routing_narrow d l_) != 0) = false → (((((decide (reach < 0)) || (decide (reach ≥ (d.reaches.length : Int)))) || (decide (hour < 0))) || (decide (hour ≥ d.hours))) = false → (routing_loads_p d l_))))
@[go_sem] def C_routing_Load : List SV → Option Con := (pD .district fun d => (pR .order fun l_ => (pI fun reach => (pI fun hour => (pE (.det (routing_Load_p d l_ reach hour) (.tup [.v (.int .i64 ((routing_Load d l_ reach hour).1)), .v (.int .i64 ((routing_Load d l_ reach hour).2))])))))))
theorem ok_routing_Load : FnOk Tryz.prog 17 C_routing_Load := by
  have hG : ConsOk Tryz.prog (mkG [(33, fun l => C_routing_narrow (nrmA [.st .district, .sl .order] l)), (45, fun l => C_routing_loads (nrmA [.st .district, .sl .order] l))] []) := mkG_ok (cgc (ok_routing_narrow.norm [.st .district, .sl .order]) (cgc (ok_routing_loads.norm [.st .district, .sl .order]) cg0)) cg0
  refine fn_okN [.o, .o] mixed ts_ok hG (fn := Tryz.f17) (c := bodyOf Tryz.f17) (by kernel_rfl) (by kernel_rfl) (by kernel_rfl) (by kernel_rfl) (pD_all fun d => (pR_all fun l_ => (pI_all fun reach => (pI_all fun hour => (pE_all (fun hp => ?_))))))
  dsimp only [conPre] at hp
  unfold routing_Load_p at hp
  refine ⟨Nat.le_of_ble_eq_true rfl, L0, loopsOk0 _, ?_⟩
  · unfold bodyOf Tryz.f17
    try unfold routing_Load
    simp only [go_sem, Nat.reduceBEq, Nat.reduceLeDiff, Nat.reduceLT, decide_true, Nat.reduceAdd, Nat.reduceSub, Nat.reduceMul, Int.reduceLE, Int.reduceLT, Int.reduceToNat, Int.reduceNeg, reduceCtorEq]
    all_goals exact cl
@[go_sem] def routing_Plan_l0 (a0 : District) (a1 : List Order) (k_0 : Nat) (s_0 : List ((Int × Int) × Int)) : Unit ⊕ (List ((Int × Int) × Int)) := (bif (!(a1.getD k_0 (default : Order)).outlet) then .inl () else .inr (mupdT .int2 .int s_0 ((a0.farms.getD (Int.toNat ((a1.getD k_0 (default : Order)).index)) (default : Farm)).reach, (a1.getD k_0 (default : Order)).hour) (IntKind.i64.wrap ((mgetT .int2 .int s_0 ((a0.farms.getD (Int.toNat ((a1.getD k_0 (default : Order)).index)) (default : Farm)).reach, (a1.getD k_0 (default : Order)).hour)) + (a1.getD k_0 (default : Order)).litres))))
def routing_Plan_l0_p (a0 : District) (a1 : List Order) (k_0 : Nat) (s_0 : List ((Int × Int) × Int)) : Prop := ((!(a1.getD k_0 (default : Order)).outlet) = false → (0 ≤ (a1.getD k_0 (default : Order)).index ∧ (a1.getD k_0 (default : Order)).index < (a0.farms.length : Int)))
@[go_sem] def routing_Plan_l1 (a0 : District) (z_1 : Int × Int) (s_1 : List Order × List ((Int × Int) × Int)) : (List ((Int × Int) × Int)) ⊕ (List Order × List ((Int × Int) × Int)) := (bif ((mgetT .int2 .int s_1.2 (z_1.1, z_1.2)) == 0) then .inr (s_1.1, s_1.2) else (bif ((!(routing_intake (a0.reaches.getD (Int.toNat z_1.1) (default : Reach)) (mgetT .int2 .int s_1.2 (z_1.1, z_1.2))).2) || (decide (z_1.2 < (a0.reaches.getD (Int.toNat z_1.1) (default : Reach)).delay))) then .inl s_1.2 else .inr ((s_1.1 ++ ([({ hour := (IntKind.i64.wrap (z_1.2 - (a0.reaches.getD (Int.toNat z_1.1) (default : Reach)).delay)), index := z_1.1, litres := (routing_intake (a0.reaches.getD (Int.toNat z_1.1) (default : Reach)) (mgetT .int2 .int s_1.2 (z_1.1, z_1.2))).1, outlet := false } : Order)])), (mupdT .int2 .int s_1.2 ((a0.reaches.getD (Int.toNat z_1.1) (default : Reach)).up, (IntKind.i64.wrap (z_1.2 - (a0.reaches.getD (Int.toNat z_1.1) (default : Reach)).delay))) (IntKind.i64.wrap ((mgetT .int2 .int s_1.2 ((a0.reaches.getD (Int.toNat z_1.1) (default : Reach)).up, (IntKind.i64.wrap (z_1.2 - (a0.reaches.getD (Int.toNat z_1.1) (default : Reach)).delay)))) + (routing_intake (a0.reaches.getD (Int.toNat z_1.1) (default : Reach)) (mgetT .int2 .int s_1.2 (z_1.1, z_1.2))).1))))))
def routing_Plan_l1_p (a0 : District) (z_1 : Int × Int) (s_1 : List Order × List ((Int × Int) × Int)) : Prop := (((mgetT .int2 .int s_1.2 (z_1.1, z_1.2)) == 0) = false → ((0 ≤ z_1.1 ∧ z_1.1 < (a0.reaches.length : Int)) ∧ ((routing_intake_p (a0.reaches.getD (Int.toNat z_1.1) (default : Reach)) (mgetT .int2 .int s_1.2 (z_1.1, z_1.2))) ∧ (((!(routing_intake (a0.reaches.getD (Int.toNat z_1.1) (default : Reach)) (mgetT .int2 .int s_1.2 (z_1.1, z_1.2))).2) || (decide (z_1.2 < (a0.reaches.getD (Int.toNat z_1.1) (default : Reach)).delay))) = false → ((s_1.1 ++ ([({ hour := (IntKind.i64.wrap (z_1.2 - (a0.reaches.getD (Int.toNat z_1.1) (default : Reach)).delay)), index := z_1.1, litres := (routing_intake (a0.reaches.getD (Int.toNat z_1.1) (default : Reach)) (mgetT .int2 .int s_1.2 (z_1.1, z_1.2))).1, outlet := false } : Order)])).length * 32 ≤ maxB)))))
def routing_Plan (a0 : District) (a1 : List Order) : List Order × Bool × Int := (bif ((routing_narrow a0 a1) != 0) then ([], false, (routing_narrow a0 a1)) else (match runI (routing_Plan_l0 a0 a1) a1.length 0 ([]) with | .inl x_0_0 => ([], false, 220) | .inr s_0 => (match runL (routing_Plan_l1 a0) (routing_upward a0) (a1, s_0) with | .inl x_1_0 => ([], false, 0) | .inr s_1 => (bif (decide ((s_1.1.length : Int) > 4096)) then ([], false, 2) else ((srt routing_by_1 s_1.1), true, 0)))))
def routing_Plan_p (a0 : District) (a1 : List Order) : Prop := ((routing_narrow_p a0 a1) ∧ (((routing_narrow a0 a1) != 0) = false → (a1.length ≤ maxL → (okI (routing_Plan_l0 a0 a1) (routing_Plan_l0_p a0 a1) a1.length 0 ([]) ∧ (∀ s_0, runI (routing_Plan_l0 a0 a1) a1.length 0 ([]) = .inr s_0 → ((a1.length * 32 ≤ maxB) ∧ ((a0.hours < 9223372036854775808) ∧ okL (routing_Plan_l1 a0) (routing_Plan_l1_p a0) (routing_upward a0) (a1, s_0) ∧ (∀ s_1, runL (routing_Plan_l1 a0) (routing_upward a0) (a1, s_0) = .inr s_1 → (s_1.1.length ≤ maxL → ((decide ((s_1.1.length : Int) > 4096)) = false → (apart routing_by_1 s_1.1)))))))))))
@[go_sem] def C_routing_Plan : List SV → Option Con := (pD .district fun a0 => (pR .order fun a1 => (pE (.det (routing_Plan_p a0 a1) (.tup [.nw .order ((routing_Plan a0 a1).1), .v (.bool ((routing_Plan a0 a1).2.1)), .v (.int .i64 ((routing_Plan a0 a1).2.2))])))))
set_option maxHeartbeats 4000000 in
theorem ok_routing_Plan : FnOk Tryz.prog 12 C_routing_Plan := by
  have hG : ConsOk Tryz.prog (mkG [(31, C_routing_intake), (33, fun l => C_routing_narrow (nrmA [.st .district, .sl .order] l)), (34, fun l => C_slices_Clone (nrmA [.sl .order] l)), (35, fun l => C_routing_upward (nrmA [.st .district] l)), (37, C_routing_compare)] [(36, C_SortFunc)]) := mkG_ok (cgc ok_routing_intake (cgc (ok_routing_narrow.norm [.st .district, .sl .order]) (cgc (ok_slices_Clone.norm [.sl .order]) (cgc (ok_routing_upward.norm [.st .district]) (cgc ok_routing_compare cg0))))) (cgc ok_SortFunc cg0)
  refine fn_okW [(.cell 4 40, .order)] mixed ts_ok hG (fn := Tryz.f12) (c := bodyOf Tryz.f12) (by kernel_rfl) (by kernel_rfl) (by kernel_rfl) (by kernel_rfl) (pD_all fun a0 => (pR_all fun a1 => (pE_all (fun hp => ?_))))
  dsimp only [conPre] at hp
  unfold routing_Plan_p at hp
  refine ⟨Nat.le_of_ble_eq_true rfl, (fun id st => bif Nat.beq id 0 then some (LCR (ρ := Unit) (σ := (List ((Int × Int) × Int))) 6 [] [0, 1, 2, 3, 4, 5] (fun k_0 s_0 => ⟨[(1, .rs .order a1), (2, .ptr 0 0), (4, .ptr 1 0), (5, .ptr 2 0), (6, .ptr 3 0), (7, .ptr 5 0), (23, .rs .order a1), (24, .v (.int .i64 (a1.length : Int))), (25, .v (.int .i64 (k_0 : Int)))], [.cells (cellsOf .district a0), .cells [.v (.slice none 0 0)], .cells [.v (.bool false)], .cells [.v (.int .i64 (routing_narrow a0 a1))], .mp .int2 .int s_0 none, .cells [.os 4]]⟩) (routing_Plan_l0 a0 a1) (routing_Plan_l0_p a0 a1) a1.length ([]) (a1.length ≤ maxL) (fun _ => .ret) (fun x_0_0 => ⟨[(4, .ptr 1 0), (5, .ptr 2 0), (6, .ptr 3 0)], [.dead, .cells [.v (.slice none 0 0)], .cells [.v (.bool false)], .cells [.v (.int .i64 220)], .dead, .dead]⟩) st) else bif Nat.beq id 2 then some (LC (ρ := List ((Int × Int) × Int)) (σ := List Order × List ((Int × Int) × Int)) (lk 2 st.t = .ptr 0 0 ∧ lk 4 st.t = .ptr 1 0 ∧ lk 5 st.t = .ptr 2 0 ∧ lk 6 st.t = .ptr 3 0 ∧ lk 7 st.t = .ptr 5 0 ∧ lk 53 st.t = .fn 56 [] [.ep (cellsOf .district a0) 0] ∧ st.h = [.cells (cellsOf .district a0), .cells [.os 6], .cells [.v (.bool false)], .cells [.v (.int .i64 (routing_narrow a0 a1))], .mp .int2 .int (outR (runI (routing_Plan_l0 a0 a1) a1.length 0 ([]))) none, .cells [.os 4], .row .order a1] ∧ a0.hours < 9223372036854775808 ∧ okL (routing_Plan_l1 a0) (routing_Plan_l1_p a0) (routing_upward a0) (a1, (outR (runI (routing_Plan_l0 a0 a1) a1.length 0 ([]))))) (runL (routing_Plan_l1 a0) (routing_upward a0) (a1, (outR (runI (routing_Plan_l0 a0 a1) a1.length 0 ([]))))) (fun _ => .ret) (fun x_1_0 => ⟨[(2, .ptr 0 0), (4, .ptr 1 0), (5, .ptr 2 0), (6, .ptr 3 0), (7, .ptr 5 0)], [.cells (cellsOf .district a0), .cells [.v (.slice none 0 0)], .cells [.v (.bool false)], .cells [.v (.int .i64 0)], .mp .int2 .int x_1_0 none, .cells [.os 4], .dead, .dead]⟩) (fun s_1 => ⟨[(2, .ptr 0 0), (4, .ptr 1 0), (5, .ptr 2 0), (6, .ptr 3 0), (7, .ptr 5 0)], [.cells (cellsOf .district a0), .cells [.os 7], .cells [.v (.bool false)], .cells [.v (.int .i64 (routing_narrow a0 a1))], .mp .int2 .int s_1.2 none, .cells [.os 4], .dead, .row .order s_1.1]⟩)) else none), ?_, ?_⟩
  · unfold bodyOf Tryz.f12
    simp only [loopsOk, true_and, and_true]
    refine ⟨?_, ?_⟩
    · refine loopR_ok mixed ts_ok hG (by kernel_rfl) (fun _ => rfl) (a1.length : Int) rfl lenB (fun hb0 k_0 s_0 hlt0 hq0 hw hc => ⟨L0, loopsOk0 _, ?_⟩) (fun hb0 s_0 hc => ?_)
      · unfold routing_Plan_l0_p at hq0
        try simp only [hw, Int.toNat_natCast] at hq0
        exact exSxR5_2
      · exact ezSxR5_2
    · refine rangeL_ok mixed ts_ok hG (by decide) (by decide) (by kernel_rfl) (by kernel_rfl) fun st lc hC hp => ?_
      simp only [go_sem, Nat.reduceBEq, Option.some.injEq] at hC
      subst hC
      obtain ⟨t, h⟩ := st
      dsimp only [LC] at hp
      obtain ⟨e1_0, e1_1, e1_2, e1_3, e1_4, e1_5, rfl, hb1, hok1⟩ := hp
      refine ⟨56, [.ep (cellsOf .district a0) 0], Int × Int, _, _, (routing_upward a0), pairI, (routing_Plan_l1 a0), (routing_Plan_l1_p a0), _, (a1, (outR (runI (routing_Plan_l0 a0 a1) a1.length 0 ([])))), _, _, _, [(2, .ptr 0 0), (4, .ptr 1 0), (5, .ptr 2 0), (6, .ptr 3 0), (7, .ptr 5 0)], (fun s_1 => [.cells (cellsOf .district a0), .cells [.os 7], .cells [.v (.bool false)], .cells [.v (.int .i64 (routing_narrow a0 a1))], .mp .int2 .int s_1.2 none, .cells [.os 4], .dead, .row .order s_1.1]), (fun x_1_0 => [.cells (cellsOf .district a0), .cells [.v (.slice none 0 0)], .cells [.v (.bool false)], .cells [.v (.int .i64 0)], .mp .int2 .int x_1_0 none, .cells [.os 4], .dead, .dead]), [0, 1, 2, 3, 4, 5, 6, 6], ?_, rfl, hok1, Nat.le_of_ble_eq_true rfl, ?_, upward_it a0 hb1, fun z_1 s_1 hq1 => ⟨rfl, L0, fun l => ?_, fun l => ?_, ?_⟩, fun s_1 => ?_, fun y => ?_⟩
      · simp only [go_sem, e1_0, e1_1, e1_2, e1_3, e1_4, e1_5]
      · simp only [go_sem, Nat.reduceBEq, Nat.reduceLeDiff, Nat.reduceLT, decide_true, Nat.reduceAdd, Nat.reduceSub, Nat.reduceMul, Int.reduceLE, Int.reduceLT, Int.reduceToNat, Int.reduceNeg, reduceCtorEq, killL, capIds, List.flatMap_cons, List.flatMap_nil, List.nil_append, List.append_nil, List.map_nil, e1_0, e1_1, e1_2, e1_3, e1_4, e1_5]
        all_goals (first | done | decide | (repeat' (first | refine And.intro ?_ ?_ | rfl | decide)))
      · simp only [loopsOk, and_self, true_and, and_true]
      · simp only [loopsOk, and_self, true_and, and_true]
      · unfold routing_Plan_l1_p at hq1
        simp only [go_sem, Nat.reduceBEq, Nat.reduceLeDiff, Nat.reduceLT, decide_true, Nat.reduceAdd, Nat.reduceSub, Nat.reduceMul, Int.reduceLE, Int.reduceLT, Int.reduceToNat, Int.reduceNeg, reduceCtorEq, C_routing_upward, C_routing_compare, routing_Plan_l1, psT, pairI, List.cons_append, List.nil_append]
        all_goals exact crSxR5_3
      · simp only [go_sem, Nat.reduceBEq, Nat.reduceLeDiff, Nat.reduceLT, decide_true, Nat.reduceAdd, Nat.reduceSub, Nat.reduceMul, Int.reduceLE, Int.reduceLT, Int.reduceToNat, Int.reduceNeg, reduceCtorEq, C_routing_upward, C_routing_compare]
        all_goals exact crSxR5_3
      · simp only [go_sem, Nat.reduceBEq, Nat.reduceLeDiff, Nat.reduceLT, decide_true, Nat.reduceAdd, Nat.reduceSub, Nat.reduceMul, Int.reduceLE, Int.reduceLT, Int.reduceToNat, Int.reduceNeg, reduceCtorEq, C_routing_upward, C_routing_compare]
        all_goals exact crSxR5_3
  · unfold bodyOf Tryz.f12
    try unfold routing_Plan
    simp only [go_sem, Nat.reduceBEq, Nat.reduceLeDiff, Nat.reduceLT, decide_true, Nat.reduceAdd, Nat.reduceSub, Nat.reduceMul, Int.reduceLE, Int.reduceLT, Int.reduceToNat, Int.reduceNeg, reduceCtorEq, C_routing_upward, C_routing_compare]
    all_goals exact cl3
end Go.Sx
end
section
namespace Go.Sx
open Go.Proofs
def drawP (d : District) (reach hour : Int) (x : Order) : Bool := (x.hour == hour) && ((x.outlet && (d.farms.getD x.index.toNat default).reach == reach) || (!x.outlet && (d.reaches.getD x.index.toNat default).up == reach))
abbrev rch (d : District) (r : Int) : Reach := d.reaches.getD r.toNat default
def drw (d : District) (l : List Order) (r h : Int) : Int := osum (drawP d r h) l
theorem runL_suf {ρ σ τ : Type} {step : τ → σ → ρ ⊕ σ} (J : List τ → σ → Prop) (hJ : ∀ x L s, J (x :: L) s → ∀ s', step x s = .inr s' → J L s') : ∀ (L : List τ) (s : σ), J L s → (∀ s', runL step L s = .inr s' → J [] s') ∧ ∀ y, runL step L s = .inl y → ∃ x L' s', J (x :: L') s' ∧ step x s' = .inl y
  | [], s, h => ⟨fun s' e => by simp only [runL, Sum.inr.injEq] at e; subst e; exact h, fun y e => by simp [runL] at e⟩
  | x :: L, s, h => by
    cases hs : step x s with
    | inl y =>
      refine ⟨fun s' e => ?_, fun y' e => ?_⟩
      · simp only [runL, hs] at e; cases e
      · simp only [runL, hs, Sum.inl.injEq] at e; subst e; exact ⟨x, L, s, h, hs⟩
    | inr s1 =>
      obtain ⟨h1, h2⟩ := runL_suf J hJ L s1 (hJ x L s h s1 hs)
      exact ⟨fun s' e => h1 s' (by simpa only [runL, hs] using e), fun y e => h2 y (by simpa only [runL, hs] using e)⟩
theorem okL_suf {ρ σ τ : Type} {step : τ → σ → ρ ⊕ σ} {p : τ → σ → Prop} (J : List τ → σ → Prop) (hJ : ∀ x L s, J (x :: L) s → p x s ∧ ∀ s', step x s = .inr s' → J L s') : ∀ (L : List τ) (s : σ), J L s → okL step p L s
  | [], _, _ => trivial
  | x :: L, s, h => ⟨(hJ x L s h).1, fun s' e => okL_suf J hJ L s' ((hJ x L s h).2 s' e)⟩
def PR (r h : Nat) (a b : Int) : Prop := (r : Int) < a ∨ a = r ∧ b < (h : Int)
abbrev Mp := List ((Int × Int) × Int)
structure PG (d : District) (l : List Order) (x : Order) : Prop where
  out : x.outlet = false
  i0 : 0 ≤ x.index
  i1 : x.index < (d.reaches.length : Int)
  h0 : 0 ≤ x.hour
  h1 : x.hour + (rch d x.index).delay < d.hours
  w : 1 ≤ drw d l x.index (x.hour + (rch d x.index).delay)
  v : routing_intake (rch d x.index) (drw d l x.index (x.hour + (rch d x.index).delay)) = (x.litres, true)
structure PI (d : District) (out gs : List Order) (m : Mp) (r h : Nat) : Prop where
  draws : ∀ a b, mgetT .int2 .int m (a, b) = drw d (out ++ gs) a b
  gate : ∀ x ∈ gs, PG d (out ++ gs) x ∧ PR r h x.index (x.hour + (rch d x.index).delay)
  all : ∀ a b, 0 ≤ a → a < (d.reaches.length : Int) → 0 ≤ b → b < d.hours → PR r h a b → drw d (out ++ gs) a b ≠ 0 → ∃ x ∈ gs, x.index = a ∧ x.hour + (rch d a).delay = b
  uniq : gs.Pairwise fun x y => ¬ (x.index = y.index ∧ x.hour = y.hour)
  len : gs.length ≤ (d.reaches.length - 1 - r) * d.hours.toNat + h
theorem drw_app (d : District) (a b : List Order) (r h : Int) : drw d (a ++ b) r h = drw d a r h + drw d b r h := osum_app _ _ _
theorem drw_one (d : District) (x : Order) (r h : Int) : drw d [x] r h = bif drawP d r h x then x.litres else 0 := by unfold drw; simp [osum]
theorem gate_lit {d : District} (hr : Right1 d) {l : List Order} {x : Order} (h : PG d l x) : 1 ≤ x.litres ∧ x.litres ≤ 1073741824 ∧ (rch d x.index).siphon ≤ x.litres ∧ drw d l x.index (x.hour + (rch d x.index).delay) ≤ wst (rch d x.index) x.litres ∧ ∀ u, 0 ≤ u → u ≤ 1073741824 → (rch d x.index).siphon ≤ u → drw d l x.index (x.hour + (rch d x.index).delay) ≤ wst (rch d x.index) u → x.litres ≤ u := by
  have hk : x.index.toNat < d.reaches.length := by have := h.i0; have := h.i1; omega
  rcases intake_ok (i := (x.index.toNat : Int)) (by omega) (hr.reach _ hk) h.w with ⟨v, e, e1, e2, e3, e4, e5⟩ | ⟨e, _⟩
  · have := h.v
    rw [e] at this
    cases this
    exact ⟨e1, e2, e3, e4, e5⟩
  · rw [h.v] at e; cases e
theorem PI.lit {d : District} {out gs : List Order} {m : Mp} {r h : Nat} (hr : Right1 d) (ho : Orders1 d out) (p : PI d out gs m r h) : ∀ x ∈ out ++ gs, 1 ≤ x.litres ∧ x.litres ≤ 1073741824 := fun x hx => by
  rcases List.mem_append.1 hx with hx | hx
  · exact ho.lit x hx
  · have := gate_lit hr (p.gate x hx).1; omega
theorem drw_bound {d : District} {l : List Order} (h : ∀ x ∈ l, 1 ≤ x.litres ∧ x.litres ≤ 1073741824) (a b : Int) : 0 ≤ drw d l a b ∧ drw d l a b ≤ l.length * 1073741824 := osum_bound h
theorem PI.len2 {d : District} {out gs : List Order} {m : Mp} {r h : Nat} (hr : Right1 d) (ho : Orders1 d out) (p : PI d out gs m r h) (hh : h ≤ d.hours.toNat) : (out ++ gs).length ≤ 266240 + 4096 := by
  have h1 := p.len
  have h2 : (d.reaches.length - 1 - r) * d.hours.toNat ≤ 64 * 4096 := Nat.mul_le_mul (by have := hr.reaches; omega) (by have := hr.hours; omega)
  have := ho.len
  have := hr.hours
  rw [List.length_append]; omega
theorem PI.row {d : District} {out gs : List Order} {m : Mp} {r : Nat} (p : PI d out gs m (r + 1) d.hours.toNat) (hr1 : r + 1 < d.reaches.length) (hh : 1 ≤ d.hours) : PI d out gs m r 0 := by
  refine ⟨p.draws, fun x hx => ⟨(p.gate x hx).1, ?_⟩, fun a b a0 a1 b0 b1 hp => p.all a b a0 a1 b0 b1 ?_, p.uniq, ?_⟩
  · have := (p.gate x hx).2
    unfold PR at this ⊢; omega
  · unfold PR at hp ⊢; omega
  · have := p.len
    rw [show d.reaches.length - 1 - r = (d.reaches.length - 1 - (r + 1)) + 1 by omega, Nat.succ_mul]; omega
theorem PI.skip {d : District} {out gs : List Order} {m : Mp} {r h : Nat} (p : PI d out gs m r h) (h0 : drw d (out ++ gs) r h = 0) : PI d out gs m r (h + 1) := by
  refine ⟨p.draws, fun x hx => ⟨(p.gate x hx).1, ?_⟩, fun a b a0 a1 b0 b1 hp hne => ?_, p.uniq, ?_⟩
  · have := (p.gate x hx).2
    unfold PR at this ⊢; omega
  · by_cases hq : PR r h a b
    · exact p.all a b a0 a1 b0 b1 hq hne
    · have : a = r ∧ b = h := by unfold PR at hp hq; omega
      obtain ⟨rfl, rfl⟩ := this
      exact absurd h0 hne
  · have := p.len; omega
theorem up_lt {d : District} (hr : Right1 d) {r : Nat} (h : r < d.reaches.length) : (rch d r).up < r := (hr.reach1 h).up
theorem delay_pos {d : District} (hr : Right1 d) {r : Nat} (h : r < d.reaches.length) : 1 ≤ (rch d r).delay ∧ (rch d r).delay ≤ 16 := ⟨(hr.reach1 h).delay1, (hr.reach1 h).delay⟩
theorem PI.add {d : District} {out gs : List Order} {m : Mp} {r h : Nat} (hr : Right1 d) (ho : Orders1 d out) (p : PI d out gs m r h) (hrl : r < d.reaches.length) (hhl : h < d.hours.toNat) (h1 : 1 ≤ drw d (out ++ gs) r h) {v : Int} (hv : routing_intake (rch d r) (drw d (out ++ gs) r h) = (v, true)) (hd : (rch d r).delay ≤ h) (v0 : 1 ≤ v) (v1 : v ≤ 1073741824) :
    PI d out (gs ++ [{ hour := (h : Int) - (rch d r).delay, index := r, litres := v, outlet := false }]) (mupdT .int2 .int m ((rch d r).up, (h : Int) - (rch d r).delay) (IntKind.i64.wrap (mgetT .int2 .int m ((rch d r).up, (h : Int) - (rch d r).delay) + v))) r (h + 1) := by
  generalize hx : ({ hour := (h : Int) - (rch d r).delay, index := (r : Int), litres := v, outlet := false } : Order) = x
  have xo : x.outlet = false := by rw [← hx]
  have xi : x.index = r := by rw [← hx]
  have xh : x.hour = (h : Int) - (rch d r).delay := by rw [← hx]
  have xl : x.litres = v := by rw [← hx]
  have hup := up_lt hr hrl
  have hdl := delay_pos hr hrl
  have hone : ∀ a b, drw d (out ++ (gs ++ [x])) a b = drw d (out ++ gs) a b + (if a = (rch d r).up ∧ b = (h : Int) - (rch d r).delay then v else 0) := fun a b => by
    rw [← List.append_assoc, drw_app, drw_one]
    congr 1
    unfold drawP
    rw [xo, xi, xh, xl]
    simp only [Bool.false_and, Bool.not_false, Bool.true_and, Bool.false_or, Int.toNat_natCast]
    by_cases e : a = (rch d r).up ∧ b = (h : Int) - (rch d r).delay
    · obtain ⟨rfl, rfl⟩ := e
      simp
    · rw [if_neg e]
      have : ((h : Int) - (rch d r).delay == b && (d.reaches.getD r default).up == a) = false := by
        rw [Bool.and_eq_false_iff, beq_eq_false_iff_ne, beq_eq_false_iff_ne]
        by_cases q : b = (h : Int) - (rch d r).delay
        · right; intro e2; exact e ⟨e2.symm, q⟩
        · left; exact fun e2 => q e2.symm
      rw [this]; rfl
  have hsame : ∀ a b, (r : Int) ≤ a → drw d (out ++ (gs ++ [x])) a b = drw d (out ++ gs) a b := fun a b ha => by
    rw [hone, if_neg (fun e => by omega)]; omega
  have hb := drw_bound (d := d) (p.lit hr ho)
  have hlen := p.len2 hr ho (by omega)
  refine ⟨fun a b => ?_, fun y hy => ?_, fun a b a0 a1 b0 b1 hp hne => ?_, ?_, ?_⟩
  · rw [mgetT_mupdT (k := .int2), hone, p.draws, p.draws]
    have := hb (rch d r).up ((h : Int) - (rch d r).delay)
    by_cases e : a = (rch d r).up ∧ b = (h : Int) - (rch d r).delay
    · rw [if_pos e, if_pos (by rw [e.1, e.2]), e.1, e.2, wrapI (by omega) (by omega)]
    · rw [if_neg e, if_neg (fun q => e (by cases q; exact ⟨rfl, rfl⟩))]; exact (Int.add_zero _).symm
  · rcases List.mem_append.1 hy with hy | hy
    · obtain ⟨g, gp⟩ := p.gate y hy
      have hge : (r : Int) ≤ y.index := by unfold PR at gp; omega
      refine ⟨⟨g.out, g.i0, g.i1, g.h0, g.h1, by rw [hsame _ _ hge]; exact g.w, by rw [hsame _ _ hge]; exact g.v⟩, ?_⟩
      unfold PR at gp ⊢; omega
    · rw [List.mem_singleton] at hy
      subst hy
      have eh : y.hour + (rch d y.index).delay = h := by rw [xh, xi]; omega
      refine ⟨⟨xo, by rw [xi]; omega, by rw [xi]; omega, by rw [xh]; omega, by rw [eh]; omega, ?_, ?_⟩, ?_⟩
      · rw [eh, xi, hsame _ _ (Int.le_refl _)]; exact h1
      · rw [eh, xi, hsame _ _ (Int.le_refl _), xl]; exact hv
      · rw [eh, xi]; unfold PR; omega
  · have hge : (r : Int) ≤ a := by unfold PR at hp; omega
    rw [hsame _ _ hge] at hne
    by_cases hq : PR r h a b
    · obtain ⟨y, hy, e⟩ := p.all a b a0 a1 b0 b1 hq hne
      exact ⟨y, List.mem_append_left _ hy, e⟩
    · have : a = r ∧ b = h := by unfold PR at hp hq; omega
      obtain ⟨rfl, rfl⟩ := this
      exact ⟨x, by simp, xi, by rw [xh]; omega⟩
  · rw [List.pairwise_append]
    refine ⟨p.uniq, List.pairwise_singleton _ _, fun y hy z hz => ?_⟩
    rw [List.mem_singleton] at hz
    subst hz
    rintro ⟨e1, e2⟩
    have := (p.gate y hy).2
    rw [e1, e2, xi, xh] at this
    unfold PR at this; omega
  · have := p.len
    rw [List.length_append]; simp; omega
theorem first_run {d : District} {out : List Order} (hr : Right1 d) (ho : Orders1 d out) :
    (∀ m, runI (routing_Plan_l0 d out) out.length 0 [] = .inr m → (∀ x ∈ out, x.outlet = true) ∧ ∀ a b, mgetT .int2 .int m (a, b) = drw d out a b) ∧ okI (routing_Plan_l0 d out) (routing_Plan_l0_p d out) out.length 0 [] ∧ ((∀ x ∈ out, x.outlet = true) → ∃ m, runI (routing_Plan_l0 d out) out.length 0 [] = .inr m) := by
  let J : Nat → Mp → Prop := fun k m => k ≤ out.length → (∀ x ∈ out.take k, x.outlet = true) ∧ ∀ a b, mgetT .int2 .int m (a, b) = drw d (out.take k) a b
  have hJ0 : J 0 [] := fun _ => ⟨by simp, fun a b => by rw [List.take_zero]; rfl⟩
  have hstep : ∀ j s, 0 ≤ j → j < 0 + out.length → J j s → routing_Plan_l0_p d out j s ∧ ∀ s', routing_Plan_l0 d out j s = .inr s' → J (j + 1) s' := fun j s _ hj hJ => by
    have hj : j < out.length := by omega
    obtain ⟨h1, h2⟩ := hJ (by omega)
    have hx := ho.one j hj
    refine ⟨fun he => ?_, fun s' hs _ => ?_⟩
    · have : (out.getD j default).outlet = true := by simpa using he
      have := hx.farm this
      have := hx.index0
      omega
    · unfold routing_Plan_l0 at hs
      cases hout : (out.getD j default).outlet with
      | false => rw [hout] at hs; cases hs
      | true =>
        rw [hout] at hs
        simp only [Bool.not_true, cond_false, Sum.inr.injEq] at hs
        have hel := getD_el out default hj
        rw [List.take_succ_eq_append_getElem hj]
        refine ⟨fun x hx => ?_, fun a b => ?_⟩
        · rcases List.mem_append.1 hx with h | h
          · exact h1 x h
          · rw [List.mem_singleton] at h; subst h; rw [← hel]; exact hout
        · subst hs
          rw [drw_app, drw_one, mgetT_mupdT (k := .int2), h2, h2, ← hel]
          have hb := drw_bound (d := d) (l := out.take j) (fun x hx => ho.lit x (List.mem_of_mem_take hx)) (d.farms.getD (out.getD j default).index.toNat default).reach (out.getD j default).hour
          have hl : (out.take j).length ≤ 4096 := by have := ho.len; rw [List.length_take]; omega
          have hl1 := hx.litres1; have hl2 := hx.litres
          rw [wrapI (by omega) (by omega)]
          unfold drawP
          rw [hout]
          simp only [Bool.true_and, Bool.not_true, Bool.false_and, Bool.or_false]
          by_cases e : (a, b) = ((d.farms.getD (out.getD j default).index.toNat default).reach, (out.getD j default).hour)
          · rw [if_pos e]; cases e; simp
          · rw [if_neg e]
            have : ((out.getD j default).hour == b && (d.farms.getD (out.getD j default).index.toNat default).reach == a) = false := by
              rw [Bool.and_eq_false_iff, beq_eq_false_iff_ne, beq_eq_false_iff_ne]
              by_cases q : (out.getD j default).hour = b
              · right; intro q2; exact e (by rw [q, q2])
              · left; exact q
            rw [this]; exact (Int.add_zero _).symm
  refine ⟨fun m hm => ?_, okI_inv J _ _ _ hJ0 hstep, fun hall => ?_⟩
  · have := runI_inv J _ _ _ hJ0 (fun j s h1 h2 h3 => (hstep j s h1 h2 h3).2) m hm (by omega)
    rw [Nat.zero_add, List.take_length] at this
    exact this
  · cases hrun : runI (routing_Plan_l0 d out) out.length 0 [] with
    | inr m => exact ⟨m, rfl⟩
    | inl y =>
      exfalso
      have key : ∀ n i s, i + n ≤ out.length → ∀ y, runI (routing_Plan_l0 d out) n i s ≠ .inl y := by
        intro n
        induction n with
        | zero => intro i s _ y h; simp [runI] at h
        | succ n ih =>
          intro i s hi y h
          simp only [runI] at h
          have hout : (out.getD i default).outlet = true := hall _ (getD_mem' _ _ (by omega))
          unfold routing_Plan_l0 at h
          rw [hout] at h
          simp only [Bool.not_true, cond_false] at h
          exact ih (i + 1) _ (by omega) y h
      exact key _ _ _ (by omega) y hrun
def PJ (d : District) (out : List Order) (L : List (Int × Int)) (s : List Order × Mp) : Prop := ∃ gs r h, r < d.reaches.length ∧ h ≤ d.hours.toNat ∧ s.1 = out ++ gs ∧ L = rowH r d.hours.toNat h ++ upwL d.hours.toNat r ∧ PI d out gs s.2 r h
theorem PJ_head {d : District} {out : List Order} (hr : Right1 d) {x : Int × Int} {L : List (Int × Int)} {s : List Order × Mp} (h : PJ d out (x :: L) s) : ∃ (gs : List Order) (r h : Nat), r < d.reaches.length ∧ h < d.hours.toNat ∧ s.1 = out ++ gs ∧ x = ((r : Int), (h : Int)) ∧ L = rowH r d.hours.toNat (h + 1) ++ upwL d.hours.toNat r ∧ PI d out gs s.2 r h := by
  obtain ⟨gs, r, h, h1, h2, h3, h4, h5⟩ := h
  have hH := hr.hours1
  by_cases hh : h < d.hours.toNat
  · rw [rowH_step hh, List.cons_append] at h4
    cases h4
    exact ⟨gs, r, h, h1, hh, h3, rfl, rfl, h5⟩
  · have : h = d.hours.toNat := by omega
    subst this
    rw [rowH_end, List.nil_append] at h4
    cases r with
    | zero => simp [upwL] at h4
    | succ r =>
      rw [upwL_row, rowH_step (by omega), List.cons_append] at h4
      cases h4
      exact ⟨gs, r, 0, by omega, by omega, h3, rfl, rfl, h5.row h1 hH⟩
theorem plan_step {d : District} {out : List Order} (hr : Right1 d) (ho : Orders1 d out) {gs : List Order} {r h : Nat} (hrl : r < d.reaches.length) (hhl : h < d.hours.toNat) {s : List Order × Mp} (hs : s.1 = out ++ gs) (p : PI d out gs s.2 r h) :
    (drw d (out ++ gs) r h = 0 ∧ routing_Plan_l1 d ((r : Int), (h : Int)) s = .inr s) ∨
    (1 ≤ drw d (out ++ gs) r h ∧ ((routing_intake (rch d r) (drw d (out ++ gs) r h)).2 = false ∨ (h : Int) < (rch d r).delay) ∧ routing_Plan_l1 d ((r : Int), (h : Int)) s = .inl s.2) ∨
    ∃ v, 1 ≤ drw d (out ++ gs) r h ∧ routing_intake (rch d r) (drw d (out ++ gs) r h) = (v, true) ∧ (rch d r).delay ≤ h ∧ 1 ≤ v ∧ v ≤ 1073741824 ∧
      routing_Plan_l1 d ((r : Int), (h : Int)) s = .inr (out ++ (gs ++ [{ hour := (h : Int) - (rch d r).delay, index := r, litres := v, outlet := false }]), mupdT .int2 .int s.2 ((rch d r).up, (h : Int) - (rch d r).delay) (IntKind.i64.wrap (mgetT .int2 .int s.2 ((rch d r).up, (h : Int) - (rch d r).delay) + v))) := by
  have hb := (drw_bound (d := d) (p.lit hr ho) r h).1
  have hm := p.draws r h
  have hdl := delay_pos hr hrl
  have hH := hr.hours
  by_cases h0 : drw d (out ++ gs) r h = 0
  · refine .inl ⟨h0, ?_⟩
    unfold routing_Plan_l1
    simp only
    rw [hm, h0]; rfl
  · have h1 : 1 ≤ drw d (out ++ gs) r h := by omega
    have hne : (mgetT .int2 .int s.2 ((r : Int), (h : Int)) == 0) = false := by rw [hm, beq_eq_false_iff_ne]; exact h0
    have hw : IntKind.i64.wrap ((h : Int) - (rch d r).delay) = (h : Int) - (rch d r).delay := wrapI (by omega) (by omega)
    by_cases hd : (h : Int) < (rch d r).delay
    · refine .inr (.inl ⟨h1, .inr hd, ?_⟩)
      unfold routing_Plan_l1
      simp only [hne, cond_false]
      rw [decide_eq_true hd, Bool.or_true]; rfl
    · rcases intake_ok (i := (r : Int)) (by omega) (hr.reach r hrl) h1 with ⟨v, e, e1, e2, e3, e4, e5⟩ | ⟨e, _⟩
      · refine .inr (.inr ⟨v, h1, e, by omega, e1, e2, ?_⟩)
        have e' : routing_intake (d.reaches.getD r default) (mgetT .int2 .int s.2 ((r : Int), (h : Int))) = (v, true) := by rw [hm]; exact e
        unfold routing_Plan_l1
        simp only [hne, cond_false, Int.toNat_natCast]
        have hd' : decide ((h : Int) < (d.reaches.getD r default).delay) = false := decide_eq_false hd
        rw [e', hd']
        simp only [Bool.not_true, Bool.or_self, cond_false, hs, List.append_assoc]
        have hw' : IntKind.i64.wrap ((h : Int) - (d.reaches.getD r default).delay) = (h : Int) - (rch d r).delay := hw
        rw [hw']
        rfl
      · refine .inr (.inl ⟨h1, .inl e, ?_⟩)
        have e' : (routing_intake (d.reaches.getD r default) (mgetT .int2 .int s.2 ((r : Int), (h : Int)))).2 = false := by rw [hm]; exact e
        unfold routing_Plan_l1
        simp only [hne, cond_false, Int.toNat_natCast]
        rw [e']; rfl
theorem PJ_step {d : District} {out : List Order} (hr : Right1 d) (ho : Orders1 d out) (x : Int × Int) (L : List (Int × Int)) (s : List Order × Mp) (hpj : PJ d out (x :: L) s) : ∀ s', routing_Plan_l1 d x s = .inr s' → PJ d out L s' := by
  obtain ⟨gs, r, h, h1, h2, h3, rfl, h5, h6⟩ := PJ_head hr hpj
  intro s' hs
  rcases plan_step hr ho h1 h2 h3 h6 with ⟨q0, q1⟩ | ⟨q0, q1, q2⟩ | ⟨v, q0, q1, q2, q3, q4, q5⟩
  · rw [q1] at hs; cases hs
    exact ⟨gs, r, h + 1, h1, h2, h3, h5, h6.skip q0⟩
  · rw [q2] at hs; cases hs
  · rw [q5] at hs; cases hs
    exact ⟨_, r, h + 1, h1, h2, rfl, h5, h6.add hr ho h1 h2 q0 q1 q2 q3 q4⟩
theorem PJ_start {d : District} {out : List Order} (hr : Right1 d) {m : Mp} (hm : ∀ a b, mgetT .int2 .int m (a, b) = drw d out a b) : PJ d out (routing_upward d) (out, m) := by
  have h1 := hr.one
  refine ⟨[], d.reaches.length - 1, 0, by omega, Nat.zero_le _, by simp, ?_, ⟨by simpa using hm, by simp, fun a b a0 a1 b0 b1 hp => ?_, List.Pairwise.nil, by simp⟩⟩
  · unfold routing_upward
    rw [← upwL_row, show d.reaches.length - 1 + 1 = d.reaches.length by omega]
  · unfold PR at hp; omega
structure PFin (d : District) (out gs : List Order) : Prop where
  gate : ∀ x ∈ gs, PG d (out ++ gs) x
  all : ∀ a b, 0 ≤ a → a < (d.reaches.length : Int) → 0 ≤ b → b < d.hours → drw d (out ++ gs) a b ≠ 0 → ∃ x ∈ gs, x.index = a ∧ x.hour + (rch d a).delay = b
  uniq : gs.Pairwise fun x y => ¬ (x.index = y.index ∧ x.hour = y.hour)
  len : gs.length ≤ d.reaches.length * d.hours.toNat
theorem PJ_end {d : District} {out : List Order} (hr : Right1 d) {s : List Order × Mp} (h : PJ d out [] s) : ∃ gs, s.1 = out ++ gs ∧ PFin d out gs := by
  obtain ⟨gs, r, h, h1, h2, h3, h4, h5⟩ := h
  have hH := hr.hours1
  have hh : h = d.hours.toNat := by
    by_cases hq : h < d.hours.toNat
    · rw [rowH_step hq] at h4; cases h4
    · omega
  subst hh
  rw [rowH_end, List.nil_append] at h4
  have r0 : r = 0 := by
    cases r with
    | zero => rfl
    | succ r => rw [upwL_row, rowH_step (by omega)] at h4; cases h4
  subst r0
  refine ⟨gs, h3, ⟨fun x hx => (h5.gate x hx).1, fun a b a0 a1 b0 b1 hne => h5.all a b a0 a1 b0 b1 ?_ hne, h5.uniq, ?_⟩⟩
  · unfold PR; omega
  · have := h5.len
    have e : d.reaches.length = (d.reaches.length - 1 - 0) + 1 := by omega
    rw [e, Nat.succ_mul]; omega
structure PX (d : District) (out gs : List Order) (r h : Nat) : Prop where
  part : ∃ m, PI d out gs m r h
  r1 : r < d.reaches.length
  h1 : h < d.hours.toNat
  w : 1 ≤ drw d (out ++ gs) r h
  no : (routing_intake (rch d r) (drw d (out ++ gs) r h)).2 = false ∨ (h : Int) < (rch d r).delay
theorem second_run {d : District} {out : List Order} (hr : Right1 d) (ho : Orders1 d out) {m : Mp} (hm : ∀ a b, mgetT .int2 .int m (a, b) = drw d out a b) :
    ((∃ s, runL (routing_Plan_l1 d) (routing_upward d) (out, m) = .inr s ∧ ∃ gs, s.1 = out ++ gs ∧ PFin d out gs) ∨ ∃ y, runL (routing_Plan_l1 d) (routing_upward d) (out, m) = .inl y ∧ ∃ gs r h, PX d out gs r h) ∧
    okL (routing_Plan_l1 d) (routing_Plan_l1_p d) (routing_upward d) (out, m) := by
  obtain ⟨h1, h2⟩ := runL_suf (PJ d out) (fun x L s h => PJ_step hr ho x L s h) (routing_upward d) (out, m) (PJ_start hr hm)
  refine ⟨?_, okL_suf (PJ d out) (fun x L s h => ⟨?_, PJ_step hr ho x L s h⟩) _ _ (PJ_start hr hm)⟩
  · cases hrun : runL (routing_Plan_l1 d) (routing_upward d) (out, m) with
    | inr s => exact .inl ⟨s, rfl, PJ_end hr (h1 s hrun)⟩
    | inl y =>
      refine .inr ⟨y, rfl, ?_⟩
      obtain ⟨x, L, s, g1, g2⟩ := h2 y hrun
      obtain ⟨gs, r, h, q1, q2, q3, rfl, q5, q6⟩ := PJ_head hr g1
      rcases plan_step hr ho q1 q2 q3 q6 with ⟨_, e⟩ | ⟨e0, e1, _⟩ | ⟨v, _, _, _, _, _, e⟩
      · rw [e] at g2; cases g2
      · exact ⟨gs, r, h, ⟨_, q6⟩, q1, q2, e0, e1⟩
      · rw [e] at g2; cases g2
  · obtain ⟨gs, r, h, q1, q2, q3, rfl, q5, q6⟩ := PJ_head hr h
    unfold routing_Plan_l1_p
    simp only
    refine fun _ => ⟨⟨by omega, by omega⟩, intake_p _ _, fun _ => ?_⟩
    have := q6.len2 hr ho (by omega)
    rw [q3, List.length_append]
    have e : ∀ (a : Order), [a].length = 1 := fun _ => rfl
    rw [e]
    unfold maxB
    omega
end Go.Sx
end
section
namespace Go.Sx
open Go.Proofs Go.Shelf Go.Sort Go.Lib
def K (x y : Order) : Prop := x.hour = y.hour ∧ x.index = y.index ∧ x.outlet = y.outlet
theorem K.symm {x y : Order} (h : K x y) : K y x := ⟨h.1.symm, h.2.1.symm, h.2.2.symm⟩
theorem oval_inj {x y : Order} (h : oval x = oval y) : x.outlet = y.outlet := by
  unfold oval at h
  cases h1 : x.outlet <;> cases h2 : y.outlet <;> rw [h1, h2] at h <;> simp at h
theorem olt_tri {x y : Order} (h1 : ¬ olt x y) (h2 : ¬ olt y x) : K x y := by
  have e : x.hour = y.hour ∧ x.index = y.index ∧ oval x = oval y := by unfold olt at h1 h2; omega
  exact ⟨e.1, e.2.1, oval_inj e.2.2⟩
theorem olt_ne {x y : Order} (h : olt x y) : ¬ K x y := fun ⟨h1, h2, h3⟩ => by
  have : oval x = oval y := by unfold oval; rw [h3]
  unfold olt at h; omega
theorem keys_eq {l : List Order} (h : l.Pairwise fun x y => ¬ K x y) {x y : Order} (hx : x ∈ l) (hy : y ∈ l) (hk : K x y) : x = y := by
  obtain ⟨i, hi, rfl⟩ := List.getElem_of_mem hx
  obtain ⟨j, hj, rfl⟩ := List.getElem_of_mem hy
  rw [List.pairwise_iff_getElem] at h
  rcases Nat.lt_trichotomy i j with q | q | q
  · exact absurd hk (h i j hi hj q)
  · subst q; rfl
  · exact absurd hk.symm (h j i hj hi q)
theorem apart_of {l : List Order} (h : l.Pairwise fun x y => ¬ K x y) : apart routing_by_1 l := fun x hx y hy h1 h2 => by
  refine keys_eq h hx hy (olt_tri (fun q => ?_) fun q => ?_)
  · unfold ltOf at h1; rw [decide_eq_false_iff_not] at h1; exact h1 ((by_lt _ _).2 q)
  · unfold ltOf at h2; rw [decide_eq_false_iff_not] at h2; exact h2 ((by_lt _ _).2 q)
theorem srt_perm (l : List Order) : (srt routing_by_1 l).Perm l := List.mergeSort_perm _ _
theorem pairwise_perm {l m : List Order} (h : l.Perm m) (hm : m.Pairwise fun x y => ¬ K x y) : l.Pairwise fun x y => ¬ K x y :=
  (h.pairwise_iff (fun {x y} (h : ¬ K x y) (k : K y x) => h k.symm)).2 hm
theorem srt_lt {l : List Order} (h : l.Pairwise fun x y => ¬ K x y) : (srt routing_by_1 l).Pairwise olt := by
  have h1 : (srt routing_by_1 l).Pairwise fun x y => (!(ltOf routing_by_1 y x)) = true := by
    refine List.pairwise_mergeSort (fun a b c h1 h2 => ?_) (fun a b => ?_) l
    · simp only [Bool.not_eq_true'] at h1 h2 ⊢
      exact swo_by.ntrans _ _ _ h2 h1
    · cases q : ltOf routing_by_1 b a with
      | false => rfl
      | true =>
        cases q2 : ltOf routing_by_1 a b with
        | false => rfl
        | true => have := swo_by.trans _ _ _ q q2; rw [swo_by.irrefl] at this; cases this
  have h2 := pairwise_perm (srt_perm l) h
  refine (h1.and h2).imp fun {x y} ⟨q1, q2⟩ => ?_
  have q3 : ¬ olt y x := fun q => by
    have : ltOf routing_by_1 y x = true := by unfold ltOf; rw [decide_eq_true_eq]; exact (by_lt _ _).2 q
    rw [this] at q1; cases q1
  exact Classical.byContradiction fun q4 => q2 (olt_tri q4 q3)
structure Good (d : District) (l : List Order) : Prop where
  chk : expand_Check d = 0
  len : l.length ≤ 4096
  one : ∀ x ∈ l, Order1 d x
  asc : l.Pairwise olt
theorem Good.right {d : District} {l : List Order} (h : Good d l) : Right1 d := check_right (by rw [h.chk]; rfl)
theorem good_of {d : District} {l : List Order} (h : routing_Check d l = 0) : Good d l := by
  have ho := routing_orders (d := d) (l := l) (by rw [h]; rfl)
  refine ⟨((routing_split d l).1 h).1, ho.len, fun x hx => ?_, List.pairwise_iff_getElem.2 fun i j hi hj hij => ?_⟩
  · obtain ⟨i, hi, rfl⟩ := List.getElem_of_mem hx
    have := ho.one i hi
    rwa [getD_el _ _ hi] at this
  · have := ho.lt j i hij hj
    rwa [getD_el _ _ hi, getD_el _ _ hj] at this
theorem Good.orders {d : District} {l : List Order} (h : Good d l) : Orders1 d l := by
  refine ⟨h.right, h.len, fun k hk => ?_, fun k hk => ?_⟩
  · rw [getD_el _ _ hk]; exact h.one _ (List.getElem_mem _)
  · rw [getD_el _ _ hk, getD_el _ _ (by omega : k < l.length)]
    exact (by_lt _ _).2 (List.pairwise_iff_getElem.1 h.asc _ _ _ _ (by omega))
theorem Good.keys {d : District} {l : List Order} (h : Good d l) : l.Pairwise fun x y => ¬ K x y := h.asc.imp fun {_ _} q => olt_ne q
theorem check_of {d : District} {l : List Order} (h : Good d l) : routing_Check d l = 0 := by
  refine (routing_split d l).2 ⟨h.chk, h.len, fun k hk => ?_⟩
  have hx := h.one _ (getD_mem' l default hk)
  have hasc : (decide ((k : Int) > 0) && decide (routing_by_1 (l.getD (IntKind.i64.wrap ((k : Int) - 1)).toNat default) (l.getD k default) ≥ 0)) = false := by
    rw [Bool.and_eq_false_iff, decide_eq_false_iff_not, decide_eq_false_iff_not]
    by_cases hk0 : 0 < k
    · right
      have hl := h.len
      rw [wrap_pred (by omega) hk0, Int.toNat_natCast]
      have := h.orders.asc (k - 1) (by omega)
      rw [show k - 1 + 1 = k by omega] at this
      omega
    · left; omega
  unfold routing_Check_l0
  rw [hasc]
  generalize l.getD k default = x at hx
  cases ho : x.outlet with
  | true =>
    have := hx.farm ho
    simp only [cond_true]
    have e : (decide (x.hour < 0) || decide (x.hour ≥ d.hours) || decide (x.index < 0) || decide (x.index ≥ (d.farms.length : Int)) || decide (x.litres < 1) || decide (x.litres > 1073741824) || false) = false := by
      have := hx.hour0; have := hx.hour; have := hx.index0; have := hx.litres1; have := hx.litres
      simp only [Bool.or_eq_false_iff, decide_eq_false_iff_not, and_true]; omega
    rw [e]; rfl
  | false =>
    have := hx.reach ho
    simp only [cond_false]
    have e : (decide (x.hour < 0) || decide (x.hour ≥ d.hours) || decide (x.index < 0) || decide (x.index ≥ (d.reaches.length : Int)) || decide (x.litres < 1) || decide (x.litres > 1073741824) || false) = false := by
      have := hx.hour0; have := hx.hour; have := hx.index0; have := hx.litres1; have := hx.litres
      simp only [Bool.or_eq_false_iff, decide_eq_false_iff_not, and_true]; omega
    rw [e]; rfl
structure Nar (d : District) (l : List Order) : Prop where
  good : Good d l
  wide : (d.reaches.length : Int) * d.hours ≤ 1024
theorem mul_hours {d : District} (hr : Right1 d) : 0 ≤ (d.reaches.length : Int) * d.hours ∧ (d.reaches.length : Int) * d.hours ≤ 262144 := by
  have := hr.reaches; have := hr.hours; have := hr.hours1
  have h1 := Int.mul_le_mul (by omega : (d.reaches.length : Int) ≤ 64) hr.hours (by omega) (by omega)
  have h2 := Int.mul_nonneg (by omega : 0 ≤ (d.reaches.length : Int)) (by omega : 0 ≤ d.hours)
  omega
theorem narrow_iff (d : District) (l : List Order) : routing_narrow d l = 0 ↔ Nar d l := by
  unfold routing_narrow
  by_cases h : routing_Check d l = 0
  · have hg := good_of h
    have hm := mul_hours hg.right
    rw [wrapI (by omega) (by omega), h]
    by_cases hw : (d.reaches.length : Int) * d.hours > 1024
    · rw [decide_eq_true hw]
      simp only [beq_self_eq_true, Bool.and_self, cond_true]
      exact ⟨fun e => (by cases e), fun e => (by have := e.wide; omega)⟩
    · rw [decide_eq_false hw]
      simp only [Bool.and_false, cond_false]
      exact ⟨fun _ => ⟨hg, by omega⟩, fun _ => trivial⟩
  · have : (routing_Check d l == 0) = false := by rw [beq_eq_false_iff_ne]; exact h
    rw [this]
    simp only [Bool.false_and, cond_false]
    exact ⟨fun e => absurd e h, fun e => absurd (check_of e.good) h⟩
structure PL (d : District) (out gs : List Order) : Prop where
  good : Good d (srt routing_by_1 (out ++ gs))
  fin : PFin d out gs
theorem fin_keys {d : District} {out gs : List Order} (ho : Good d out) (hall : ∀ x ∈ out, x.outlet = true) (h : PFin d out gs) : (out ++ gs).Pairwise fun x y => ¬ K x y := by
  rw [List.pairwise_append]
  refine ⟨ho.keys, h.uniq.imp fun {x y} q k => q ⟨k.2.1, k.1⟩, fun x hx y hy k => ?_⟩
  have := k.2.2
  rw [hall x hx, (h.gate y hy).out] at this
  cases this
theorem narrow_p (d : District) (l : List Order) : routing_narrow_p d l := routing_pt d l
theorem plan_p (d : District) (out : List Order) : routing_Plan_p d out := by
  refine ⟨narrow_p _ _, fun hn => ?_⟩
  have hN := (narrow_iff d out).1 (by simpa using hn)
  have hr := hN.good.right
  have ho := hN.good.orders
  obtain ⟨f1, f2, f3⟩ := first_run hr ho
  refine fun _ => ⟨f2, fun m hm => ⟨?_, ?_, ?_⟩⟩
  · have := ho.len; unfold maxB; omega
  · have := hr.hours; omega
  · obtain ⟨h1, h2⟩ := second_run hr ho (f1 m hm).2
    refine ⟨h2, fun s hs _ _ => ?_⟩
    rcases h1 with ⟨s', hs', gs, e1, e2⟩ | ⟨y, hy, _⟩
    · rw [hs'] at hs
      cases hs
      rw [e1]
      exact apart_of (fin_keys hN.good (f1 m hm).1 e2)
    · rw [hy] at hs; cases hs
end Go.Sx
end
section
namespace Go.Sx
open Go.Proofs
set_option maxRecDepth 100000
set_option linter.unusedSimpArgs false
def law22_reach (up : Int) (delay : Int) (bank : Int) : Reach := ({ name := (ByteArray.mk #[]), up := up, delay := delay, cap := 20, bank := bank, siphon := 0, evap := ({ lo := 0, hi := 2 } : Range), seep := (({ n := 0, d := 1 } : Ratio), ({ n := 0, d := 1 } : Ratio)) } : Reach)
@[go_sem] def C_law22_reach : List SV → Option Con := (pI fun up => (pI fun delay => (pI fun bank => (pE (.det True (.agg (cellsOf .reach (law22_reach up delay bank))))))))
theorem ok_law22_reach : FnOk Tryz.prog 22 C_law22_reach := by
  have hG : ConsOk Tryz.prog (mkG [] []) := mkG_ok cg0 cg0
  refine fn_okN [.st .reach] mixed ts_ok hG (fn := Tryz.f22) (c := bodyOf Tryz.f22) (by kernel_rfl) (by kernel_rfl) (by kernel_rfl) (by kernel_rfl) (pI_all fun up => (pI_all fun delay => (pI_all fun bank => (pE_all (fun hp => ?_)))))
  dsimp only [conPre] at hp
  refine ⟨Nat.le_of_ble_eq_true rfl, L0, loopsOk0 _, ?_⟩
  · unfold bodyOf Tryz.f22
    try unfold law22_reach
    simp only [go_sem, Nat.reduceBEq, Nat.reduceLeDiff, Nat.reduceLT, decide_true, Nat.reduceAdd, Nat.reduceSub, Nat.reduceMul, Int.reduceLE, Int.reduceLT, Int.reduceToNat, Int.reduceNeg, reduceCtorEq]
    all_goals exact cl
def law22_example : District := ({ name := (ByteArray.mk #[]), hours := 6, tank := ({ cap := 100, start := 50 } : Tank), reaches := [(law22_reach (-1) 1 50), (law22_reach 0 1 50)], farms := [({ name := (ByteArray.mk #[]), reach := 1, area := 10, crop := 0 } : Farm)], crops := [({ name := (ByteArray.mk #[]), need := 3 } : Crop)], rights := [], duties := [], wells := [] } : District)
@[go_sem] def C_law22_example : List SV → Option Con := (pE (.det True (.agg [.v (.string ((law22_example).name)), .v (.int .i64 ((law22_example).hours)), .v (.int .i64 ((law22_example).tank.cap)), .v (.int .i64 ((law22_example).tank.start)), .nw .reach ((law22_example).reaches), .nw .farm ((law22_example).farms), .nw .crop ((law22_example).crops), .v (.slice none 0 0), .v (.slice none 0 0), .v (.slice none 0 0)])))
theorem ok_law22_example : FnOk Tryz.prog 21 C_law22_example := by
  have hG : ConsOk Tryz.prog (mkG [(22, C_law22_reach)] []) := mkG_ok (cgc ok_law22_reach cg0) cg0
  refine fn_okE true mixed ts_ok hG (fn := Tryz.f21) (c := bodyOf Tryz.f21) (by kernel_rfl) (by kernel_rfl) (by kernel_rfl) (by kernel_rfl) (pE_all (fun hp => ?_))
  dsimp only [conPre] at hp
  refine ⟨Nat.le_of_ble_eq_true rfl, L0, loopsOk0 _, ?_⟩
  · unfold bodyOf Tryz.f21
    try unfold law22_example
    simp only [go_sem, Nat.reduceBEq, Nat.reduceLeDiff, Nat.reduceLT, decide_true, Nat.reduceAdd, Nat.reduceSub, Nat.reduceMul, Int.reduceLE, Int.reduceLT, Int.reduceToNat, Int.reduceNeg, reduceCtorEq]
    all_goals exact cl
def law22_sane_c14 := ([({ hour := 0, index := 0, litres := 6, outlet := false } : Order), ({ hour := 1, index := 0, litres := 6, outlet := false } : Order)])
def law22_sane_c13 := ([({ hour := 1, index := 0, litres := 9, outlet := false } : Order), ({ hour := 2, index := 1, litres := 7, outlet := false } : Order), ({ hour := 3, index := 0, litres := 5, outlet := true } : Order)])
def law22_sane_c12 := ({ name := law22_example.name, hours := law22_example.hours, tank := law22_example.tank, reaches := law22_example.reaches, farms := law22_example.farms, crops := law22_example.crops, rights := [], duties := [], wells := [] } : District)
def law22_sane_c11 := (routing_Need law22_sane_c12 1 5)
def law22_sane_c10 := (routing_Worst law22_sane_c12 1 9)
def law22_sane_c9 := (routing_Worst law22_sane_c12 0 (-1))
def law22_sane_c8 := ({ name := law22_example.name, hours := law22_example.hours, tank := law22_example.tank, reaches := (law22_example.reaches.set 0 (law22_reach (-1) 2 10)), farms := law22_example.farms, crops := law22_example.crops, rights := [], duties := [], wells := [] } : District)
def law22_sane_c7 := (routing_Plan law22_sane_c12 ([({ hour := 1, index := 0, litres := 5, outlet := true } : Order)]))
def law22_sane_c6 := (routing_Plan law22_sane_c12 ([({ hour := 3, index := 0, litres := 5, outlet := true } : Order)]))
def law22_sane_c5 := (routing_Plan law22_sane_c12 ([({ hour := 1, index := 0, litres := 5, outlet := false } : Order)]))
def law22_sane_c4 := (law22_sane_c6.1)
def law22_sane_c3 := (routing_Fits law22_sane_c8 law22_sane_c14)
def law22_sane_c2 := (routing_Check law22_sane_c8 law22_sane_c14)
def law22_sane_c1 := (routing_Load law22_sane_c8 law22_sane_c14 0 1)
def law22_sane_c0 := (routing_Fits law22_sane_c12 law22_sane_c4)
def law22_sane : Bool := (bif ((((((((((law22_sane_c11.2.2 != 0) || (law22_sane_c10.2 != 0)) || (law22_sane_c6.2.2 != 0)) || (law22_sane_c7.2.2 != 0)) || (law22_sane_c5.2.2 != 220)) || (law22_sane_c9.2 != 1)) || (law22_sane_c0.2.2.2 != 0)) || (law22_sane_c1.2 != 0)) || (law22_sane_c3.2.2.2 != 0)) || (law22_sane_c2 != 0)) then false else ((((((((((((law22_sane_c11.2.1 && (law22_sane_c11.1 == 9)) && (law22_sane_c10.1 == 5)) && law22_sane_c6.2.1) && (!law22_sane_c7.2.1)) && law22_sane_c0.1) && (law22_sane_c0.2.1 == 0)) && (law22_sane_c0.2.2.1 == 0)) && (law22_sane_c1.1 == 12)) && (!law22_sane_c3.1)) && (law22_sane_c3.2.1 == 1)) && (law22_sane_c3.2.2.1 == 0)) && (ref22_Same law22_sane_c4 law22_sane_c13)))
def law22_sane_p : Prop := ((routing_Need_p law22_sane_c12 1 5) ∧ ((routing_Worst_p law22_sane_c12 1 9) ∧ ((routing_Plan_p law22_sane_c12 ([({ hour := 3, index := 0, litres := 5, outlet := true } : Order)])) ∧ ((routing_Plan_p law22_sane_c12 ([({ hour := 1, index := 0, litres := 5, outlet := true } : Order)])) ∧ ((routing_Plan_p law22_sane_c12 ([({ hour := 1, index := 0, litres := 5, outlet := false } : Order)])) ∧ ((routing_Worst_p law22_sane_c12 0 (-1)) ∧ ((routing_Fits_p law22_sane_c12 law22_sane_c4) ∧ ((0 ≤ 0 ∧ 0 < (law22_example.reaches.length : Int)) ∧ ((routing_Load_p law22_sane_c8 law22_sane_c14 0 1) ∧ ((routing_Fits_p law22_sane_c8 law22_sane_c14) ∧ (((((((((((law22_sane_c11.2.2 != 0) || (law22_sane_c10.2 != 0)) || (law22_sane_c6.2.2 != 0)) || (law22_sane_c7.2.2 != 0)) || (law22_sane_c5.2.2 != 220)) || (law22_sane_c9.2 != 1)) || (law22_sane_c0.2.2.2 != 0)) || (law22_sane_c1.2 != 0)) || (law22_sane_c3.2.2.2 != 0)) = false → (routing_Check_p law22_sane_c8 law22_sane_c14)) ∧ (((((((((((law22_sane_c11.2.2 != 0) || (law22_sane_c10.2 != 0)) || (law22_sane_c6.2.2 != 0)) || (law22_sane_c7.2.2 != 0)) || (law22_sane_c5.2.2 != 220)) || (law22_sane_c9.2 != 1)) || (law22_sane_c0.2.2.2 != 0)) || (law22_sane_c1.2 != 0)) || (law22_sane_c3.2.2.2 != 0)) || (law22_sane_c2 != 0)) = false → ((((((((((((law22_sane_c11.2.1 && (law22_sane_c11.1 == 9)) && (law22_sane_c10.1 == 5)) && law22_sane_c6.2.1) && (!law22_sane_c7.2.1)) && law22_sane_c0.1) && (law22_sane_c0.2.1 == 0)) && (law22_sane_c0.2.2.1 == 0)) && (law22_sane_c1.1 == 12)) && (!law22_sane_c3.1)) && (law22_sane_c3.2.1 == 1)) && (law22_sane_c3.2.2.1 == 0)) = true → (ref22_Same_p law22_sane_c4 law22_sane_c13))))))))))))))
@[go_sem] def C_law22_sane : List SV → Option Con := (pE (.det (law22_sane_p) (.v (.bool (law22_sane)))))
set_option maxHeartbeats 4000000 in
theorem ok_law22_sane : FnOk Tryz.prog 6 C_law22_sane := by
  have hG : ConsOk Tryz.prog (mkG [(8, fun l => C_routing_Worst (nrmA [.st .district, .o, .o] l)), (10, fun l => C_routing_Need (nrmA [.st .district, .o, .o] l)), (12, fun l => C_routing_Plan (nrmA [.st .district, .sl .order] l)), (14, fun l => C_routing_Check (nrmA [.st .district, .sl .order] l)), (16, fun l => C_ref22_Same (nrmA [.sl .order, .sl .order] l)), (17, fun l => C_routing_Load (nrmA [.st .district, .sl .order, .o, .o] l)), (19, fun l => C_routing_Fits (nrmA [.st .district, .sl .order] l)), (21, C_law22_example), (22, C_law22_reach)] []) := mkG_ok (cgc (ok_routing_Worst.norm [.st .district, .o, .o]) (cgc (ok_routing_Need.norm [.st .district, .o, .o]) (cgc (ok_routing_Plan.norm [.st .district, .sl .order]) (cgc (ok_routing_Check.norm [.st .district, .sl .order]) (cgc (ok_ref22_Same.norm [.sl .order, .sl .order]) (cgc (ok_routing_Load.norm [.st .district, .sl .order, .o, .o]) (cgc (ok_routing_Fits.norm [.st .district, .sl .order]) (cgc ok_law22_example (cgc ok_law22_reach cg0))))))))) cg0
  refine fn_okN [.o] mixed ts_ok hG (fn := Tryz.f6) (c := bodyOf Tryz.f6) (by kernel_rfl) (by kernel_rfl) (by kernel_rfl) (by kernel_rfl) (pE_all (fun hp => ?_))
  dsimp only [conPre] at hp
  unfold law22_sane_p at hp
  try simp only [law22_sane_c14, law22_sane_c13, law22_sane_c12, law22_sane_c11, law22_sane_c10, law22_sane_c9, law22_sane_c8, law22_sane_c7, law22_sane_c6, law22_sane_c5, law22_sane_c4, law22_sane_c3, law22_sane_c2, law22_sane_c1, law22_sane_c0] at hp
  refine ⟨Nat.le_of_ble_eq_true rfl, L0, loopsOk0 _, ?_⟩
  · unfold bodyOf Tryz.f6
    try unfold law22_sane
    simp only [go_sem, Nat.reduceBEq, Nat.reduceLeDiff, Nat.reduceLT, decide_true, Nat.reduceAdd, Nat.reduceSub, Nat.reduceMul, Int.reduceLE, Int.reduceLT, Int.reduceToNat, Int.reduceNeg, reduceCtorEq, law22_sane_c14, law22_sane_c13, law22_sane_c12, law22_sane_c11, law22_sane_c10, law22_sane_c9, law22_sane_c8, law22_sane_c7, law22_sane_c6, law22_sane_c5, law22_sane_c4, law22_sane_c3, law22_sane_c2, law22_sane_c1, law22_sane_c0]
    all_goals exact cl
end Go.Sx
end
section
namespace Go.Sx
open Go.Proofs
theorem runL_unit_iff {ρ τ : Type} {step : τ → Unit → ρ ⊕ Unit} : ∀ {L : List τ}, runL step L () = .inr () ↔ ∀ x ∈ L, step x () = .inr ()
  | [] => by simp [runL]
  | x :: r => by
    simp only [runL, List.mem_cons, forall_eq_or_imp]
    cases h : step x () with
    | inl y => simp
    | inr y => simp only [true_and]; exact runL_unit_iff
theorem getDset0 {α : Type} (l : List α) (d r : α) (i k : Nat) (hi : i < l.length) : (l.set i r).getD k d = if k = i then r else l.getD k d := by
  rw [List.getD_eq_getElem?_getD, List.getElem?_set, List.getD_eq_getElem?_getD]
  by_cases h : k = i
  · subst h; simp [hi]
  · rw [if_neg (fun e => h e.symm), if_neg h]
theorem rev_run (l : List Int) (hl : l.length ≤ maxL) : okI (slices_Reverse_int_int_l0 l) (slices_Reverse_int_int_l0_p l) (l.length + 1) 0 (l, 0, (IntKind.i64.wrap ((l.length : Int) - 1))) ∧ runI (slices_Reverse_int_int_l0 l) (l.length + 1) 0 (l, 0, (IntKind.i64.wrap ((l.length : Int) - 1))) = .inl l.reverse := by
  unfold maxL at hl
  rw [wrapI (by omega) (by omega)]
  have key : ∀ (n k : Nat) (s : List Int), n + k = l.length + 1 → s.length = l.length → 2 * k ≤ l.length + 1 → (∀ p, p < l.length → s.getD p 0 = if p < k ∨ l.length ≤ p + k then l.getD (l.length - 1 - p) 0 else l.getD p 0) →
      okI (slices_Reverse_int_int_l0 l) (slices_Reverse_int_int_l0_p l) n k (s, (k : Int), (l.length : Int) - 1 - k) ∧ (1 ≤ n → runI (slices_Reverse_int_int_l0 l) n k (s, (k : Int), (l.length : Int) - 1 - k) = .inl l.reverse) := by
    intro n
    induction n with
    | zero => intro k s _ _ _ _; exact ⟨trivial, fun h => by omega⟩
    | succ n ih =>
      intro k s hn hs hk hp
      have hstep : slices_Reverse_int_int_l0 l k (s, (k : Int), (l.length : Int) - 1 - k) = if (k : Int) < (l.length : Int) - 1 - k then .inr ((s.set k (s.getD (l.length - 1 - k) 0)).set (l.length - 1 - k) (s.getD k 0), ((k + 1 : Nat) : Int), (l.length : Int) - 1 - ((k + 1 : Nat) : Int)) else .inl s := by
        unfold slices_Reverse_int_int_l0
        simp only
        by_cases hlt : (k : Int) < (l.length : Int) - 1 - k
        · rw [decide_eq_true hlt, if_pos hlt, wrapI (by omega) (by omega), wrapI (by omega) (by omega)]
          simp only [cond_true, Int.toNat_natCast]
          have e : ((l.length : Int) - 1 - k).toNat = l.length - 1 - k := by omega
          rw [e]
          congr 2
          congr 1
          omega
        · rw [decide_eq_false hlt, if_neg hlt]; rfl
      by_cases hlt : (k : Int) < (l.length : Int) - 1 - k
      · have hnew : ∀ p, p < l.length → ((s.set k (s.getD (l.length - 1 - k) 0)).set (l.length - 1 - k) (s.getD k 0)).getD p 0 = if p < k + 1 ∨ l.length ≤ p + (k + 1) then l.getD (l.length - 1 - p) 0 else l.getD p 0 := fun p hpl => by
          rw [getDset0 _ _ _ _ _ (by rw [List.length_set, hs]; omega), getDset0 _ _ _ _ _ (by rw [hs]; omega)]
          have h1 := hp k (by omega)
          have h2 := hp (l.length - 1 - k) (by omega)
          rw [if_neg (by omega)] at h1 h2
          by_cases q1 : p = l.length - 1 - k
          · rw [if_pos q1, if_pos (by omega), h1]
            congr 1; omega
          · rw [if_neg q1]
            by_cases q2 : p = k
            · rw [if_pos q2, if_pos (by omega), h2]
              congr 1; omega
            · rw [if_neg q2, hp p hpl]
              by_cases q3 : p < k ∨ l.length ≤ p + k
              · rw [if_pos q3, if_pos (by omega)]
              · rw [if_neg q3, if_neg (by omega)]
        have := ih (k + 1) _ (by omega) (by rw [List.length_set, List.length_set, hs]) (by omega) hnew
        refine ⟨⟨?_, fun s' hs' => ?_⟩, fun _ => ?_⟩
        · unfold slices_Reverse_int_int_l0_p
          simp only
          intro _
          have e1 : (s.set (Int.toNat (k : Int)) (s.getD (Int.toNat ((l.length : Int) - 1 - k)) 0)).length = l.length := by rw [List.length_set, hs]
          rw [hs, e1]
          omega
        · rw [hstep, if_pos hlt] at hs'
          cases hs'
          exact this.1
        · simp only [runI, hstep, if_pos hlt]
          exact this.2 (by omega)
      · refine ⟨⟨?_, fun s' hs' => ?_⟩, fun _ => ?_⟩
        · unfold slices_Reverse_int_int_l0_p
          simp only
          intro h
          rw [decide_eq_true_eq] at h
          exact absurd h hlt
        · rw [hstep, if_neg hlt] at hs'; cases hs'
        · simp only [runI, hstep, if_neg hlt]
          congr 1
          apply List.ext_getElem
          · rw [hs, List.length_reverse]
          · intro p h1 h2
            rw [List.getElem_reverse]
            have := hp p (by omega)
            rw [getD_el s 0 h1, getD_el l 0 (by omega)] at this
            rw [this]
            by_cases q : p < k ∨ l.length ≤ p + k
            · rw [if_pos q]
            · rw [if_neg q, getD_el l 0 (by omega)]
              congr 1; omega
  have h0 := key (l.length + 1) 0 l (by omega) rfl (by omega) (fun p hp => by rw [if_neg (by omega)])
  have e : (l.length : Int) - 1 - (0 : Nat) = (l.length : Int) - 1 := by omega
  rw [e] at h0
  exact ⟨h0.1, h0.2 (by omega)⟩
theorem rev_eq (l : List Int) (hl : l.length ≤ maxL) : slices_Reverse_int_int l = l.reverse := by
  unfold slices_Reverse_int_int
  rw [(rev_run l hl).2]
theorem rev_p (l : List Int) : slices_Reverse_int_int_p l := fun hl => ⟨(rev_run l hl).1, fun z hz => by rw [(rev_run l hl).2] at hz; cases hz⟩
theorem up_facts {d : District} (hr : Right1 d) : ∀ (f : Nat) (n : Int), n < (d.reaches.length : Int) → n < f → upOk d f n ∧ (upL d f n).length ≤ f ∧ ∀ x ∈ upL d f n, 0 ≤ x ∧ x < (d.reaches.length : Int)
  | 0, n, h1, h2 => ⟨by unfold upOk; omega, Nat.le_refl _, fun x hx => by cases hx⟩
  | f + 1, n, h1, h2 => by
    by_cases h0 : 0 ≤ n
    · have hup := up_lt hr (r := n.toNat) (by omega)
      rw [show ((n.toNat : Nat) : Int) = n from Int.toNat_of_nonneg h0] at hup
      have e : (d.reaches.getD n.toNat (dflt .reach)) = rch d n := rfl
      obtain ⟨i1, i2, i3⟩ := up_facts hr f (rch d n).up (by omega) (by omega)
      refine ⟨fun _ => ⟨h1, by rw [e]; exact i1⟩, ?_, fun x hx => ?_⟩
      · rw [upL, if_pos h0, e, List.length_cons]; omega
      · rw [upL, if_pos h0, e] at hx
        rcases List.mem_cons.1 hx with rfl | hx
        · exact ⟨h0, h1⟩
        · exact i3 x hx
    · refine ⟨fun h => absurd h h0, by rw [upL_end h0]; simp, fun x hx => by rw [upL_end h0] at hx; cases hx⟩
theorem canals_check_iff (d : District) (l : List Int) : canals_check d l = 0 ↔ expand_Check d = 0 ∧ ∀ x ∈ l, 0 ≤ x ∧ x < (d.reaches.length : Int) := by
  unfold canals_check
  cases h1 : (expand_Check d != 0) with
  | true => simp at h1; simp [h1]
  | false =>
    simp at h1
    simp only [cond_false, h1, true_and]
    let f : Int → Unit → Unit ⊕ Unit := fun x _ => (bif ((decide (x < 0)) || (decide (x ≥ (d.reaches.length : Int)))) then .inl () else .inr ())
    have e : runI (canals_check_l0 d l) l.length 0 () = runL f l () := runI_eq_runL f 0 l ()
    have key : runL f l () = .inr () ↔ ∀ x ∈ l, 0 ≤ x ∧ x < (d.reaches.length : Int) := by
      rw [runL_unit_iff]
      refine forall_congr' fun x => forall_congr' fun hx => ?_
      simp only [f]
      by_cases q : x < 0
      · rw [decide_eq_true q]; simp; omega
      · by_cases q2 : x ≥ (d.reaches.length : Int)
        · rw [decide_eq_true q2]; simp; omega
        · rw [decide_eq_false q, decide_eq_false q2]; simp; omega
    rw [e, ← key]
    cases h : runL f l () with
    | inl y => simp
    | inr y => simp
structure PathOk (d : District) (reach : Int) : Prop where
  chk : expand_Check d = 0
  r0 : 0 ≤ reach
  r1 : reach < (d.reaches.length : Int)
theorem PathOk.right {d : District} {reach : Int} (h : PathOk d reach) : Right1 d := check_right (by rw [h.chk]; rfl)
theorem path_iff (d : District) (reach : Int) : canals_check d [reach] = 0 ↔ PathOk d reach := by
  rw [canals_check_iff]
  exact ⟨fun ⟨h1, h2⟩ => ⟨h1, (h2 reach (by simp)).1, (h2 reach (by simp)).2⟩, fun h => ⟨h.chk, fun x hx => by rw [List.mem_singleton] at hx; subst hx; exact ⟨h.r0, h.r1⟩⟩⟩
theorem PathOk.up {d : District} {reach : Int} (h : PathOk d reach) : canals_up_p d reach ∧ (canals_up d reach).length ≤ 64 ∧ ∀ x ∈ canals_up d reach, 0 ≤ x ∧ x < (d.reaches.length : Int) := by
  have := up_facts h.right (reach.toNat + 1) reach h.r1 (by have := h.r0; omega)
  have h1 := h.right.reaches
  have h2 := h.r1
  exact ⟨this.1, by have := this.2.1; unfold canals_up; omega, this.2.2⟩
theorem canals_path_p (d : District) (reach : Int) : canals_Path_p d reach := fun h => by
  have hp := (path_iff d reach).1 (by simpa using h)
  have hu := hp.up
  exact ⟨⟨hp.r0, hu.1, by unfold maxB; omega⟩, rev_p _⟩
theorem canals_path_eq {d : District} {reach : Int} (h : PathOk d reach) : canals_Path d reach = ((canals_up d reach).reverse, 0) := by
  unfold canals_Path
  rw [(path_iff d reach).2 h, rev_eq _ (by have := h.up.2.1; unfold maxL; omega)]
  rfl
theorem path_p (d : District) (reach n : Int) : routing_path_p d reach n := canals_path_p d reach
theorem path_cases (d : District) (reach n : Int) : (PathOk d reach ∧ 0 ≤ n ∧ n ≤ 1073741824 ∧ routing_path d reach n = ((canals_up d reach).reverse, 0)) ∨ (PathOk d reach ∧ ¬ (0 ≤ n ∧ n ≤ 1073741824) ∧ routing_path d reach n = ([], 1)) ∨ (¬ PathOk d reach ∧ canals_check d [reach] ≠ 0 ∧ routing_path d reach n = ([], canals_check d [reach])) := by
  unfold routing_path
  by_cases h : PathOk d reach
  · rw [canals_path_eq h]
    simp only [bne_self_eq_false, cond_false]
    by_cases hn : 0 ≤ n ∧ n ≤ 1073741824
    · rw [decide_eq_false (by omega), decide_eq_false (by omega)]
      exact .inl ⟨h, hn.1, hn.2, rfl⟩
    · have : (decide (n < 0) || decide (n > 1073741824)) = true := by rw [Bool.or_eq_true, decide_eq_true_eq, decide_eq_true_eq]; omega
      rw [this]
      exact .inr (.inl ⟨h, hn, rfl⟩)
  · have hc : canals_check d [reach] ≠ 0 := fun e => h ((path_iff d reach).1 e)
    have e : canals_Path d reach = ([], canals_check d [reach]) := by
      unfold canals_Path
      have : (canals_check d [reach] != 0) = true := by simpa using hc
      rw [this]; rfl
    rw [e]
    have : (canals_check d [reach] != 0) = true := by simpa using hc
    simp only [this, cond_true]
    exact .inr (.inr ⟨h, hc, trivial⟩)
theorem worstR_p (d : District) (reach v : Int) : routing_Worst_p d reach v := by
  refine ⟨path_p _ _ _, fun h hl => ?_⟩
  rcases path_cases d reach v with ⟨h1, _, _, e⟩ | ⟨_, _, e⟩ | ⟨_, h2, e⟩
  · refine okI_all _ _ _ fun j s _ hj => ?_
    unfold routing_Worst_l0_p
    rw [e] at hj ⊢
    simp only at hj ⊢
    have := h1.up.2.2 _ (List.mem_reverse.1 (getD_mem' (canals_up d reach).reverse 0 (k := j) (by omega)))
    exact this
  · rw [e] at h; cases h
  · rw [e] at h
    simp only [bne_eq_false_iff_eq] at h
    exact absurd h h2
theorem back_mem (l : List Int) : ∀ (k : Nat), k ≤ l.length → ∀ x ∈ backL l k, x.2 ∈ l
  | 0, _, x, h => by cases h
  | k + 1, hk, x, h => by
    rcases List.mem_cons.1 h with rfl | h
    · exact getD_mem' l 0 (by omega)
    · exact back_mem l k (by omega) x h
theorem needR_p (d : District) (reach w : Int) : routing_Need_p d reach w := by
  refine ⟨path_p _ _ _, fun h => ?_⟩
  rcases path_cases d reach w with ⟨h1, _, _, e⟩ | ⟨_, _, e⟩ | ⟨_, h2, e⟩
  · refine okL_all _ _ fun x hx s => ?_
    rw [e] at hx
    have := h1.up.2.2 _ (List.mem_reverse.1 (back_mem _ _ (Nat.le_refl _) x hx))
    exact ⟨this, intake_p _ _⟩
  · rw [e] at h; cases h
  · rw [e] at h
    simp only [bne_eq_false_iff_eq] at h
    exact absurd h h2
theorem loads_p {d : District} {l : List Order} (h : Good d l) : routing_loads_p d l := fun _ => okI_all _ _ _ fun j s _ hj => fun ho => by
  have h1 := h.one _ (getD_mem' l default (k := j) (by omega))
  have h2 := h1.reach ho
  have h0 := h1.index0
  refine ⟨⟨h0, h2⟩, ?_⟩
  have := delay_pos h.right (r := (l.getD j default).index.toNat) (by omega)
  rw [show (((l.getD j default).index.toNat : Nat) : Int) = (l.getD j default).index from Int.toNat_of_nonneg h0] at this
  have e : (d.reaches.getD (Int.toNat (l.getD j default).index) (default : Reach)).delay = (rch d (l.getD j default).index).delay := rfl
  rw [e]; omega
theorem fits_p (d : District) (l : List Order) : routing_Fits_p d l := ⟨narrow_p _ _, fun h => by
  have hN := (narrow_iff d l).1 (by simpa using h)
  exact ⟨loads_p hN.good, by have := hN.good.right.hours; omega⟩⟩
theorem load_p (d : District) (l : List Order) (r h : Int) : routing_Load_p d l r h := ⟨narrow_p _ _, fun hn _ => loads_p ((narrow_iff d l).1 (by simpa using hn)).good⟩
theorem same_p (a b : List Order) : ref22_Same_p a b := fun _ _ h => okI_all _ _ _ fun j s _ hj => fun _ => by
  simp only [bne_eq_false_iff_eq] at h
  omega
theorem srt_eq {l m : List Order} (hp : m.Perm l) (hs : m.Pairwise olt) : srt routing_by_1 l = m := by
  have hk : l.Pairwise fun x y => ¬ K x y := pairwise_perm hp.symm (hs.imp fun {_ _} q => olt_ne q)
  exact List.Perm.eq_of_pairwise (fun a b _ _ h1 h2 => absurd h2 (fun h2 => by unfold olt at h1 h2; omega)) (srt_lt hk) hs ((srt_perm l).trans hp.symm)
theorem s_c11 : law22_sane_c11 = (9, true, 0) := by kernel_rfl
theorem s_c10 : law22_sane_c10 = (5, 0) := by kernel_rfl
theorem s_c9 : law22_sane_c9 = (0, 1) := by kernel_rfl
theorem s_c7 : law22_sane_c7 = ([], false, 0) := by kernel_rfl
theorem s_c5 : law22_sane_c5 = ([], false, 220) := by kernel_rfl
theorem s_c6' : law22_sane_c6 = (srt routing_by_1 [({ hour := 3, index := 0, litres := 5, outlet := true } : Order), ({ hour := 2, index := 1, litres := 7, outlet := false } : Order), ({ hour := 1, index := 0, litres := 9, outlet := false } : Order)], true, 0) := by kernel_rfl
theorem s_c6 : law22_sane_c6 = (law22_sane_c13, true, 0) := by
  rw [s_c6', srt_eq (m := law22_sane_c13) (by unfold law22_sane_c13; exact (List.reverse_perm [({ hour := 3, index := 0, litres := 5, outlet := true } : Order), ({ hour := 2, index := 1, litres := 7, outlet := false } : Order), ({ hour := 1, index := 0, litres := 9, outlet := false } : Order)])) (by
    unfold law22_sane_c13
    simp [olt])]
theorem s_c4 : law22_sane_c4 = law22_sane_c13 := by unfold law22_sane_c4; rw [s_c6]
theorem s_c0 : law22_sane_c0 = (true, 0, 0, 0) := by unfold law22_sane_c0; rw [s_c4]; kernel_rfl
theorem s_c1 : law22_sane_c1 = (12, 0) := by kernel_rfl
theorem s_c3 : law22_sane_c3 = (false, 1, 0, 0) := by kernel_rfl
theorem s_c2 : law22_sane_c2 = 0 := by kernel_rfl
theorem sane_t : law22_sane = true := by
  unfold law22_sane
  rw [s_c11, s_c10, s_c9, s_c7, s_c5, s_c6, s_c0, s_c1, s_c3, s_c2, s_c4]
  kernel_rfl
theorem sane_p : law22_sane_p := ⟨needR_p _ _ _, worstR_p _ _ _, plan_p _ _, plan_p _ _, plan_p _ _, worstR_p _ _ _, fits_p _ _, ⟨Nat.le_refl _, by unfold law22_example; simp⟩, load_p _ _ _ _, fits_p _ _, fun _ => routing_pt _ _, fun _ _ => same_p _ _⟩
theorem runL_append {ρ σ τ : Type} (step : τ → σ → ρ ⊕ σ) : ∀ (a b : List τ) (s : σ), runL step (a ++ b) s = match runL step a s with | .inl y => .inl y | .inr s' => runL step b s'
  | [], b, s => rfl
  | x :: a, b, s => by
    simp only [List.cons_append, runL]
    cases step x s with
    | inl y => rfl
    | inr s' => exact runL_append step a b s'
theorem runL_rev {ρ σ τ : Type} (step : τ → σ → ρ ⊕ σ) (x : τ) (a : List τ) (s : σ) : runL step (x :: a).reverse s = match runL step a.reverse s with | .inl y => .inl y | .inr s' => step x s' := by
  rw [List.reverse_cons, runL_append]
  cases runL step a.reverse s with
  | inl y => rfl
  | inr s' =>
    simp only [runL]
    cases step x s' <;> rfl
theorem runL_map {ρ σ τ υ : Type} (g : τ → υ) (step : υ → σ → ρ ⊕ σ) : ∀ (l : List τ) (s : σ), runL (fun x s => step (g x) s) l s = runL step (l.map g) s
  | [], _ => rfl
  | x :: l, s => by
    simp only [runL, List.map_cons]
    cases step (g x) s with
    | inl y => rfl
    | inr s' => exact runL_map g step l s'
theorem backL_snd : ∀ (l : List Int) (k : Nat), k ≤ l.length → (backL l k).map Prod.snd = (l.take k).reverse
  | l, 0, _ => by simp [backL]
  | l, k + 1, h => by
    rw [backL, List.map_cons, backL_snd l k (by omega), List.take_succ_eq_append_getElem (by omega), List.reverse_append]
    have : l.getD k 0 = l[k] := getD_el l 0 (by omega)
    simp only [List.reverse_cons, List.reverse_nil, List.nil_append, List.singleton_append, this]
def arr (x : Reach) (v : Int) : Int := if x.siphon ≤ v then wst x v else 0
def arrU (d : District) : List Int → Int → Int
  | [], v => v
  | r :: u, v => arr (rch d r) (arrU d u v)
def needU (d : District) : List Int → Int → Int × Bool
  | [], w => (w, true)
  | r :: u, w => if (routing_intake (rch d r) w).2 = true then needU d u (routing_intake (rch d r) w).1 else (0, false)
variable {d : District} in
theorem arr_nn (hr : Right1 d) {r v : Int} (h0 : 0 ≤ r) (h1 : r < (d.reaches.length : Int)) (v0 : 0 ≤ v) (v1 : v ≤ 1073741824) : 0 ≤ arr (rch d r) v ∧ arr (rch d r) v ≤ v := by
  have hx : expand_reach (r.toNat : Int) (rch d r) = true := hr.reach r.toNat (by omega)
  have := wst_nn hx v0 v1
  unfold arr; split <;> omega
variable {d : District} in
theorem arrU_nn (hr : Right1 d) : ∀ {u : List Int}, (∀ x ∈ u, 0 ≤ x ∧ x < (d.reaches.length : Int)) → ∀ {v : Int}, 0 ≤ v → v ≤ 1073741824 → 0 ≤ arrU d u v ∧ arrU d u v ≤ v
  | [], _, v, v0, v1 => ⟨v0, Int.le_refl _⟩
  | r :: u, hu, v, v0, v1 => by
    have ih := arrU_nn hr (u := u) (fun x hx => hu x (List.mem_cons_of_mem _ hx)) v0 v1
    have hx := hu r List.mem_cons_self
    have := arr_nn hr hx.1 hx.2 ih.1 (by omega)
    simp only [arrU]; omega
variable {d : District} in
theorem worst_run (hr : Right1 d) : ∀ {u : List Int}, (∀ x ∈ u, 0 ≤ x ∧ x < (d.reaches.length : Int)) → ∀ {v : Int}, 0 ≤ v → v ≤ 1073741824 → ∀ {step : Int → Int → Empty ⊕ Int}, (∀ z s, step z s = bif decide (s ≥ (rch d z).siphon) then .inr (losses_Worst (rch d z) s).1 else .inr 0) → runL step u.reverse v = .inr (arrU d u v)
  | [], _, v, _, _, step, _ => rfl
  | r :: u, hu, v, v0, v1, step, hs => by
    have hu' : ∀ x ∈ u, 0 ≤ x ∧ x < (d.reaches.length : Int) := fun x hx => hu x (List.mem_cons_of_mem _ hx)
    have hx := hu r List.mem_cons_self
    have ha := arrU_nn hr hu' v0 v1
    have hxr : expand_reach (r.toNat : Int) (rch d r) = true := hr.reach r.toNat (by omega)
    rw [runL_rev, worst_run hr hu' v0 v1 hs]
    simp only [hs, arrU, arr]
    rw [losses_worst hxr ha.1 (by omega)]
    by_cases q : (rch d r).siphon ≤ arrU d u v
    · rw [decide_eq_true q, if_pos q]; rfl
    · rw [decide_eq_false q, if_neg q]; rfl
variable {d : District} in
theorem pathW_eq {end_ v : Int} (h : PathOk d end_) (v0 : 0 ≤ v) (v1 : v ≤ 1073741824) : routing_Worst d end_ v = (arrU d (canals_up d end_) v, 0) := by
  rcases path_cases d end_ v with ⟨_, _, _, e⟩ | ⟨_, h2, _⟩ | ⟨h2, _⟩
  · unfold routing_Worst
    rw [e]
    simp only [bne_self_eq_false, cond_false]
    have e2 : runI (routing_Worst_l0 d end_ v) (canals_up d end_).reverse.length 0 v = runL (fun z s => bif decide (s ≥ (rch d z).siphon) then .inr (losses_Worst (rch d z) s).1 else .inr 0) (canals_up d end_).reverse v := by
      have := runI_eq_runL (ρ := Empty) (fun z s => bif decide (s ≥ (rch d z).siphon) then .inr (losses_Worst (rch d z) s).1 else .inr 0) (0 : Int) (canals_up d end_).reverse v
      rw [← this]
      congr 1
      funext k s
      unfold routing_Worst_l0
      rw [e]
    rw [e2, worst_run h.right h.up.2.2 v0 v1 fun _ _ => rfl]
  · exact absurd ⟨v0, v1⟩ h2
  · exact absurd h h2
variable {d : District} in
theorem need_run (hr : Right1 d) : ∀ {u : List Int}, (∀ x ∈ u, 0 ≤ x ∧ x < (d.reaches.length : Int)) → ∀ {w : Int} {b : Bool} {step : Int → Int × Bool → Int ⊕ (Int × Bool)}, (∀ z s, step z s = bif (!(routing_intake (rch d z) s.1).2) then .inl (routing_intake (rch d z) s.1).1 else .inr ((routing_intake (rch d z) s.1).1, (routing_intake (rch d z) s.1).2)) →
    ((needU d u w).2 = true → ∃ b', runL step u (w, b) = .inr ((needU d u w).1, b')) ∧ ((needU d u w).2 = false → ∃ y, runL step u (w, b) = .inl y)
  | [], _, w, b, step, _ => ⟨fun _ => ⟨b, rfl⟩, fun h => by simp [needU] at h⟩
  | r :: u, hu, w, b, step, hs => by
    have hu' : ∀ x ∈ u, 0 ≤ x ∧ x < (d.reaches.length : Int) := fun x hx => hu x (List.mem_cons_of_mem _ hx)
    have hrun : ∀ s, runL step (r :: u) s = match step r s with | .inl y => .inl y | .inr s' => runL step u s' := fun s => by
      simp only [runL]
      cases step r s <;> rfl
    rw [hrun, hs]
    simp only [needU]
    by_cases h : (routing_intake (rch d r) w).2 = true
    · rw [h]
      simp only [Bool.not_true, cond_false, if_true]
      exact need_run hr hu' hs
    · have h' : (routing_intake (rch d r) w).2 = false := by simpa using h
      rw [h']
      exact ⟨fun e => by simp at e, fun _ => ⟨_, rfl⟩⟩
end Go.Sx
end
