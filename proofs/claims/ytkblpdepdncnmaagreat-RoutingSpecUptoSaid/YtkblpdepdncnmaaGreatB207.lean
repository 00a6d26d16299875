/- Part of the proof that the law RoutingSpec returns true and leaves its arguments as they were, for all arguments of bulk at most 1048576 (the Upto form). -/
import Derived.Test.YtkblpdepdncnmaaGreatB206
import Derived.RecoverIn
import Derived.Laws.Pointers
import Derived.Test.YtkblpdepdncnmaaGreatProg
set_option linter.all false
section
namespace Go.Sx
open Go.RowKit
section
variable {P : Program} {w0 : Bs} {ts : Tis} {G : Cons} {L : Loops} {N : Nat}
def killL (ids : List Nat) (h : List Ob) : List Ob := obSets h (ids.map fun id => (id, Ob.dead))
theorem obAt_kill (h : List Ob) (id : Nat) : ∀ (ids : List Nat) (h : List Ob), obAt (killL ids h) id = if id ∈ ids then .dead else obAt h id
  | [], h => by simp [killL, obSets]
  | a :: r, h => by
    have ih := obAt_kill h id r (obSet h a .dead)
    have e : killL (a :: r) h = killL r (obSet h a .dead) := rfl
    rw [e, ih]
    by_cases h1 : id ∈ r
    · simp [h1]
    · rw [if_neg h1, obAt_set]
      by_cases h2 : a = id
      · simp [h2]
      · rw [if_neg h2, if_neg]
        simp [h1]; exact fun e => h2 e.symm
def givN (ids : List Nat) (i : Nat) : Option Nat := (posN i ids).map (· + 1)
def givH (ids : List Nat) (h : List Ob) : List Ob := ids.map fun i => renO (givN ids) (obAt h i)
def capIds (st : St) (caps : List SV) : List Nat := reach st.h 64 (caps.flatMap (idsS 3)) []
def finC (lc : LCon) (n0 : Nat) (e : Ex) (st : St) : Prop := ∃ r js, lc.post r ∧ lc.ex r = e ∧ n0 ≤ (lc.out r).h.length ∧ Sub js n0 st (lc.out r)
theorem raw_rel {F : Nat → Prop} {own : Own} {st : St} {a : Act} {w : World} (hr : StRel F w0 N own st a w) (x : Operand) : Rel F own w (raw st.t x) (a.eval x) := by
  cases x with
  | tmp t => exact hr.slots t
  | const v => exact .v v
  | func f => exact .fn rfl rfl (fun j s h => by simp at h) (fun j s h => by simp at h)
  | global g => exact .any _
theorem range_ok (hm : P.follows .mixedOrders = true) (hts : ts.ok P) (hG : ConsOk P G) {id : Nat} {g : Operand} {ps : Array Tmp} {assign body : Code} {C : St → Option LCon}
    (hpn : ps.toList.Nodup) (hpN : ∀ p ∈ ps.toList, p < N) (hca : okCode N assign = true) (hcb : okCode N body = true)
    (h : ∀ st lc, C st = some lc → lc.pre → ∃ (f : FuncId) (caps : List SV) (items : List (List SV)) (σ : Type) (T : List (Nat × SV)) (Hx : σ → List Ob) (I : Nat → σ → Prop) (S : Ex → σ → Prop) (x0 : σ) (js : List Nat),
      raw st.t g = .fn f [] caps ∧ I 0 x0 ∧ st.h.length ≤ (Hx x0).length ∧ Sub js st.h.length ⟨st.t, killL (capIds st caps) st.h⟩ ⟨T, Hx x0⟩ ∧
      ItOk P f (fun y => y :: caps.map (ren (givN (capIds st caps)) 3)) (givH (capIds st caps) st.h) items ∧
      (∀ k y args, items[k]? = some args → I k y → args.length = ps.size ∧ ∃ L Qx, (∀ l, loopsOk P (some l) N L assign) ∧ (∀ l, loopsOk P (some l) N L body) ∧ (∀ e st', Qx e st' → itQ T Hx I S st.h.length k e st') ∧ exec ts G L assign ⟨psT ps.toList args ++ T, Hx y⟩ (fun e st1 => e = .normal ∧ exec ts G L body st1 Qx)) ∧
      (∀ y, I items.length y → finC lc st.h.length .normal ⟨T, Hx y⟩) ∧ (∀ y, S .ret y → finC lc st.h.length .ret ⟨T, Hx y⟩) ∧
      ∀ j y, S (.exit j) y → finC lc st.h.length (if j = id then .normal else .exit j) ⟨T, Hx y⟩) : LoopOk P none N id (.rangeFunc g ps assign body) C := by
  intro nd F w0 st lc hC hpre own a w hr
  obtain ⟨f, caps, items, σ, T, Hx, I, S, x0, js, hg, hI0, hle0, hsub0, hit, hround, hN, hRet, hEx⟩ := h st lc hC hpre
  have hrel := raw_rel hr g
  rw [hg] at hrel
  generalize hev : a.eval g = gv at hrel
  cases hrel with
  | @fn _ _ _ us lb e1 e2 e3 e4 =>
    have hus : us = #[] := by
      obtain ⟨l⟩ := us
      cases l with
      | nil => rfl
      | cons => simp at e1
    subst hus
    have hcaps : RelL F own w caps lb := ⟨e2, e4⟩
    have hids : ∀ i ∈ capIds st caps, ∃ hd, own i = some hd := reach_own hr.hp 64 _ [] (fun i hi => by
      obtain ⟨x, hx, hxi⟩ := List.mem_flatMap.1 hi
      obtain ⟨j, hj⟩ := List.getElem?_of_mem hx
      exact ids_own 3 x _ (hcaps.2 j x hj) i hxi) (fun i hi => by cases hi)
    have hnd : (capIds st caps).Nodup := reach_nodup st.h 64 _ [] List.nodup_nil
    generalize hidsE : capIds st caps = ids at hids hnd hsub0 hit
    refine wpIn_block (wpIn_rangeFunc fun fn _ => ?_)
    let rc : LRec := ⟨w.heap.size + 1, fn, a.tmps, ps, assign, body, w.heap.size⟩
    let yv : Value := .func (.yield (w.heap.size + 1)) #[] #[]
    obtain ⟨W1, hW1⟩ : ∃ W1, (w.alloc (.deferred (some []))).alloc (rc.obj .ready none) = W1 := ⟨_, rfl⟩
    have hsz1 : W1.heap.size = w.heap.size + 2 := by rw [← hW1, alloc_size, alloc_size]
    have hold : ∀ b, b < w.heap.size → W1.heap[b]? = w.heap[b]? := fun b hb => by
      rw [← hW1, alloc_lt _ _ b (by rw [alloc_size]; omega), alloc_lt _ _ b hb]
    have hl1 : W1.heap[w.heap.size + 1]? = some (rc.obj .ready none) := by
      rw [← hW1]; have := alloc_at (w.alloc (.deferred (some []))) (rc.obj .ready none); rwa [alloc_size] at this
    have hD1 : W1.heap[w.heap.size]? = some (.deferred (some [])) := by
      rw [← hW1, alloc_lt _ _ _ (by rw [alloc_size]; omega)]; exact alloc_at w _
    refine ⟨w.heap.size + 1, [{ target := .collected w.heap.size, args := #[] }], W1, { target := .fn (.func f) lb, args := #[yv] }, W1, f, #[yv] ++ lb, W1, ?_, ?_, fun _ _ => trivial, ?_, fun h => (by cases h), ?_⟩
    · rw [← hW1]; exact run_enterLoop_outer _ _ _ _ _
    · simp only [resolve, hev]
      simp [go_sem, yv]
    · simp [invoke, go_sem, hit.1]
    let own_s : Own := fun i => if i ∈ ids then (own i).map (fun hd => { hd with bs := [] }) else own i
    let F1 : Nat → Prop := fun b => F b ∨ b = w.heap.size ∨ b = w.heap.size + 1 ∨ ∃ i hd, i ∈ ids ∧ own i = some hd ∧ b ∈ hd.bs
    have hs1 : ∀ i hd, own_s i = some hd → ∃ hd0, own i = some hd0 ∧ hd0.like hd ∧ ∀ b ∈ hd.bs, i ∉ ids ∧ hd = hd0 := fun i hd e => by
      by_cases hi : i ∈ ids
      · simp only [own_s, if_pos hi, Option.map_eq_some_iff] at e
        obtain ⟨hd0, e1, rfl⟩ := e
        exact ⟨hd0, e1, ⟨rfl, rfl, rfl⟩, fun b hb => by cases hb⟩
      · simp only [own_s, if_neg hi] at e
        exact ⟨hd, e, .refl _, fun b _ => ⟨hi, rfl⟩⟩
    have hs2 : ∀ i hd, own i = some hd → ∃ hd', own_s i = some hd' ∧ hd.like hd' := fun i hd e => by
      by_cases hi : i ∈ ids
      · exact ⟨{ hd with bs := [] }, by simp only [own_s, if_pos hi, e]; rfl, ⟨rfl, rfl, rfl⟩⟩
      · exact ⟨hd, by simp only [own_s, if_neg hi]; exact e, .refl _⟩
    have hcar1 : Carries F own w F1 own_s W1 := ⟨hs2, fun b hb hn => ⟨by
      rintro ((hf | hf | hf | ⟨i, hd, _, e, hm⟩) | ⟨i, hd, e, hm⟩)
      · exact hn (.inl hf)
      · omega
      · omega
      · exact hn (.inr ⟨i, hd, e, hm⟩)
      · obtain ⟨hd0, e0, _, e1⟩ := hs1 i hd e
        obtain ⟨_, rfl⟩ := e1 b hm
        exact hn (.inr ⟨i, hd, e0, hm⟩), hold b hb⟩⟩
    have hp1 : Hp F1 own_s W1 (killL ids st.h) := by
      refine ⟨fun i hd e => ?_, fun b hb => ?_, fun i hd b e hm hb => ?_, fun i j hi hj b e1 e2 h1 h2 => ?_, fun i hd b e hm => ?_, fun i hdd => ?_⟩
      · obtain ⟨hd0, e0, _⟩ := hs1 i hd e
        exact Nat.lt_of_lt_of_le (hr.hp.dom i hd0 e0) (obSets_len _ _)
      · rcases hb with hf | hf | hf | ⟨i, hd, _, e, hm⟩
        · have := hr.hp.foreign b hf; omega
        · omega
        · omega
        · have := hr.hp.lt i hd b e hm; omega
      · obtain ⟨hd0, e0, _, e1⟩ := hs1 i hd e
        obtain ⟨hni, rfl⟩ := e1 b hm
        have hlt := hr.hp.lt i hd b e0 hm
        rcases hb with hf | hf | hf | ⟨i2, hd2, h1, h2, h3⟩
        · exact hr.hp.apart i hd b e0 hm hf
        · omega
        · omega
        · exact hni (hr.hp.inj i i2 hd hd2 b e0 h2 hm h3 ▸ h1)
      · obtain ⟨hd1, k1, _, k2⟩ := hs1 i hi e1
        obtain ⟨hd2, k3, _, k4⟩ := hs1 j hj e2
        obtain ⟨_, rfl⟩ := k2 b h1
        obtain ⟨_, rfl⟩ := k4 b h2
        exact hr.hp.inj i j hi hj b k1 k3 h1 h2
      · obtain ⟨hd0, e0, _, e1⟩ := hs1 i hd e
        obtain ⟨_, rfl⟩ := e1 b hm
        have := hr.hp.lt i hd b e0 hm; omega
      · rw [obAt_kill st.h i ids st.h] at hdd ⊢
        by_cases hi : i ∈ ids
        · rw [if_pos hi] at hdd; cases hdd
        · rw [if_neg hi] at hdd ⊢
          obtain ⟨hd, e1, e2⟩ := hr.hp.obs i hdd
          exact ⟨hd, by simp only [own_s, if_neg hi]; exact e1, e2.carry hcar1 (by omega) fun b hm => hold b (hr.hp.lt i hd b e1 hm)⟩
    obtain ⟨q1, q2, q3, q4⟩ := sub_hp hsub0 hp1 hle0
    change Hp F1 (subOwn js (Hx x0) own_s) W1 (Hx x0) at q1
    generalize hown0 : subOwn js (Hx x0) own_s = own_0 at q1 q2 q3 q4
    have h0s : ∀ i hd b, own_0 i = some hd → b ∈ hd.bs → ∃ j, j ∉ ids ∧ own j = some hd := fun i hd b e hm => by
      rw [← hown0] at e
      obtain ⟨_, j, hd0, _, e2, _, e4⟩ := subOwn_some e
      obtain ⟨_, rfl⟩ := e4 b hm
      obtain ⟨hd1, k1, _, k2⟩ := hs1 j hd e2
      obtain ⟨k3, rfl⟩ := k2 b hm
      exact ⟨j, k3, k1⟩
    have hslot1 : ∀ t, Rel F1 own_0 W1 (lk t T) (a.tmps.getD t undef) := fun t => by
      rcases subT_lk t _ hsub0.2.1 with e | ⟨e1, e2⟩
      · rw [e]; exact .any _
      · have h1 := (hr.slots t).carry hcar1
        have e1' : lk t st.t = ren (mapN js) 5 (lk t T) := e1
        rw [e1'] at h1
        exact q3 F1 5 _ _ e2 h1
    let bs0 : List Nat := (w.heap.size + 1) :: blks own_0 (Hx x0).length
    have hbs0 : ∀ b, b ∈ bs0 ↔ b = w.heap.size + 1 ∨ ∃ i hd, own_0 i = some hd ∧ b ∈ hd.bs := fun b => by
      show b ∈ _ :: _ ↔ _
      rw [List.mem_cons, mem_blks q1.dom]
    let Ff : Nat → Prop := fun b => F b ∨ b = w.heap.size
    let own_f : Own := fun i => match i with | 0 => some ⟨none, yv, [], bs0⟩ | i + 1 => (ids[i]?).bind own
    have hf1 : ∀ i hd, own_f (i + 1) = some hd → ∃ j, ids[i]? = some j ∧ own j = some hd := fun i hd e => by
      have e' : (ids[i]?).bind own = some hd := e
      rw [Option.bind_eq_some_iff] at e'; exact e'
    have hffo : ∀ b, ownB Ff own_f b → (F b ∨ b = w.heap.size ∨ b = w.heap.size + 1) ∨ ∃ i hd, own i = some hd ∧ b ∈ hd.bs := by
      rintro b ((hf | hf) | ⟨i, hd, e, hm⟩)
      · exact .inl (.inl hf)
      · exact .inl (.inr (.inl hf))
      · cases i with
        | zero =>
          cases e
          rcases (hbs0 b).1 hm with h | ⟨i, hd, e, hm⟩
          · exact .inl (.inr (.inr h))
          · obtain ⟨j, _, k⟩ := h0s i hd b e hm
            exact .inr ⟨j, hd, k, hm⟩
        | succ i => obtain ⟨j, _, k⟩ := hf1 i hd e; exact .inr ⟨j, hd, k, hm⟩
    let Fs : Nat → Prop := fun b => F b ∨ b = w.heap.size ∨ b = w.heap.size + 1
    have hcar0 : Carries F own w Fs own W1 := ⟨fun _ hd e => ⟨hd, e, .refl _⟩, fun b hb hn => ⟨by
      rintro ((hf | hf | hf) | ho)
      · exact hn (.inl hf)
      · omega
      · omega
      · exact hn (.inr ho), hold b hb⟩⟩
    have hrn : Rn (givN ids) own own_f := ⟨fun i j hd hm e => by
      unfold givN at hm
      rw [Option.map_eq_some_iff] at hm
      obtain ⟨k, hk, rfl⟩ := hm
      refine ⟨hd, ?_, .refl _⟩
      show (ids[k]?).bind own = some hd
      rw [posN_spec ids i k hk]; exact e⟩
    have hsh : ∀ b, ¬ ownB Fs own b → ¬ ownB Ff own_f b := fun b hn ho => hn (hffo b ho)
    let F' : Nat → Prop := fun b => ownB Ff own_f b ∧ b ∉ bs0
    have hF'1 : ∀ b, Fw F' rc.l W1 b → F1 b := by
      rintro b (⟨⟨ho, hn⟩, _⟩ | hb)
      · rcases ho with (hf | hf) | ⟨i, hd, e, hm⟩
        · exact .inl hf
        · exact .inr (.inl hf)
        · cases i with
          | zero => cases e; exact absurd hm hn
          | succ i => obtain ⟨j, k1, k2⟩ := hf1 i hd e; exact .inr (.inr (.inr ⟨j, hd, List.mem_of_getElem? k1, k2, hm⟩))
      · exact .inr (.inr (.inl hb))
    have hcarP : Carries F1 own_0 W1 (Fw F' rc.l W1) own_0 W1 := ⟨fun _ hd e => ⟨hd, e, .refl _⟩, fun b _ hn => ⟨fun ho => hn (ho.imp (hF'1 b) (fun e => e)), rfl⟩⟩
    have hpk : Pack rc T own st.h.length (Hx x0) (rc.obj .ready none) own_0 F' bs0 W1 := by
      refine ⟨⟨q1.dom, fun b hb => q1.foreign b (hF'1 b hb), fun i hd b e hm hb => q1.apart i hd b e hm (hF'1 b hb), q1.inj, q1.lt, fun i hdd => ?_⟩, fun t => (hslot1 t).carry hcarP, hbs0, fun i hd e => ?_, fun hf => hf.2 ((hbs0 _).2 (.inl rfl)), hl1, hle0⟩
      · obtain ⟨hd, e1, e2⟩ := q1.obs i hdd
        exact ⟨hd, e1, e2.carry hcarP (Nat.le_refl _) fun _ _ => rfl⟩
      · obtain ⟨hd1, k1, l1⟩ := hs2 i hd e
        obtain ⟨hd2, k2, l2⟩ := q4 i hd1 (hr.hp.dom i hd e) k1
        exact ⟨hd2, k2, l1.trans l2⟩
    have hpf : Hp Ff own_f W1 (.ab (itR rc T own st.h.length Hx I S 1) :: givH ids st.h) := by
      refine ⟨fun i hd e => ?_, fun b hb => ?_, fun i hd b e hm hb => ?_, fun i j hi hj b e1 e2 h1 h2 => ?_, fun i hd b e hm => ?_, fun i hdd => ?_⟩
      · cases i with
        | zero => simp
        | succ i =>
          obtain ⟨j, k1, _⟩ := hf1 i hd e
          have := (List.getElem?_eq_some_iff.1 k1).1
          simp [givH]; exact this
      · rcases hb with hf | hf
        · have := hr.hp.foreign b hf; omega
        · omega
      · have hnot : ∀ i hd, own i = some hd → b ∈ hd.bs → False := fun i hd e hm => by
          rcases hb with hf | hf
          · exact hr.hp.apart i hd b e hm hf
          · have := hr.hp.lt i hd b e hm; omega
        cases i with
        | zero =>
          cases e
          rcases (hbs0 b).1 hm with h | ⟨i, hd, e, hm⟩
          · rcases hb with hf | hf
            · have := hr.hp.foreign b hf; omega
            · omega
          · obtain ⟨j, _, k⟩ := h0s i hd b e hm
            exact hnot j hd k hm
        | succ i => obtain ⟨j, _, k⟩ := hf1 i hd e; exact hnot j hd k hm
      · have hmix : ∀ i hd, own_f (i + 1) = some hd → b ∈ hd.bs → b ∈ bs0 → False := fun i hd e hm h0 => by
          obtain ⟨j, k1, k2⟩ := hf1 i hd e
          rcases (hbs0 b).1 h0 with h | ⟨i2, hd2, e2, hm2⟩
          · have := hr.hp.lt j hd b k2 hm; omega
          · obtain ⟨j2, k3, k4⟩ := h0s i2 hd2 b e2 hm2
            exact k3 (hr.hp.inj j2 j hd2 hd b k4 k2 hm2 hm ▸ List.mem_of_getElem? k1)
        cases i with
        | zero =>
          cases j with
          | zero => rfl
          | succ j => cases e1; exact (hmix j hj e2 h2 h1).elim
        | succ i =>
          cases j with
          | zero => cases e2; exact (hmix i hi e1 h1 h2).elim
          | succ j =>
            obtain ⟨k, k1, k2⟩ := hf1 i hi e1
            obtain ⟨k', k3, k4⟩ := hf1 j hj e2
            have := hr.hp.inj k k' hi hj b k2 k4 h1 h2
            subst this
            rw [nodup_get hnd k1 k3]
      · rcases hffo b (.inr ⟨i, hd, e, hm⟩) with (h | h | h) | ⟨j, hd2, k, hm2⟩
        · have := hr.hp.foreign b h; omega
        · omega
        · omega
        · have := hr.hp.lt j hd2 b k hm2; omega
      · cases i with
        | zero => exact ⟨_, rfl, rfl, x0, own_0, hI0, hpk⟩
        | succ i =>
          have hob : obAt (.ab (itR rc T own st.h.length Hx I S 1) :: givH ids st.h) (i + 1) = obAt (givH ids st.h) i := rfl
          rw [hob] at hdd ⊢
          rw [obAt_eq] at hdd ⊢
          unfold givH at hdd ⊢
          rw [List.getElem?_map] at hdd ⊢
          cases hi : ids[i]? with
          | none => rw [hi] at hdd; simp [isDead] at hdd
          | some j =>
            rw [hi] at hdd
            simp only [Option.map_some, Option.getD_some] at hdd ⊢
            rw [isDead_ren] at hdd
            obtain ⟨hd, e1, e2⟩ := hr.hp.obs j hdd
            refine ⟨hd, by show (ids[i]?).bind own = some hd; rw [hi]; exact e1, ?_⟩
            have e3 : ObRel Fs own W1 hd (obAt st.h j) := e2.carry hcar0 (by omega) fun b hm => hold b (hr.hp.lt j hd b e1 hm)
            refine renO_rel hrn hsh (fun b _ ho => ?_) e3
            rcases hffo b ho with h | h
            · exact .inl h
            · exact .inr h
    have hvs : RelL Ff own_f W1 (.os 0 :: caps.map (ren (givN ids) 3)) (#[yv] ++ lb) := by
      refine ⟨by simp [e2]; omega, fun j s hj => ?_⟩
      cases j with
      | zero =>
        simp at hj; subst hj
        have : (#[yv] ++ lb).getD 0 undef = yv := by simp only [Array.getD_eq_getD_getElem?]; rw [Array.getElem?_append_left (by simp)]; rfl
        rw [this]
        exact Rel.os (hd := ⟨none, yv, [], bs0⟩) rfl rfl
      | succ j =>
        simp only [List.getElem?_cons_succ] at hj
        obtain ⟨s0, k1, rfl⟩ := map_get hj
        have : (#[yv] ++ lb).getD (j + 1) undef = lb.getD j undef := by
          simp only [Array.getD_eq_getD_getElem?]
          rw [Array.getElem?_append_right (by simp)]
          simp
        rw [this]
        exact ren_rel hrn hsh 3 s0 _ ((e4 j s0 k1).carry hcar0)
    refine CallsIn.mono (calls_rd (hit.2 (itR rc T own st.h.length Hx I S) (fun k => (itR_n k).1) (itY_ok hm hts hG hr.size (fun i hd e => hr.hp.dom i hd e) hpn hpN hca hcb hround) Ff own_f W1 _ hpf hvs)) ?_
    rintro e w3 ⟨u, own', j, h', rfl, hj, hp3, fr3⟩
    obtain ⟨hd0, e0, hv0, hR⟩ := hp3.obs 0 rfl
    have hl3 : ∀ {y own_e o}, Pack rc T own st.h.length (Hx y) o own_e (fun b => ownB Ff own' b ∧ b ∉ hd0.bs) hd0.bs w3 → w3.heap[w.heap.size + 1]? = some o := fun pk => pk.rcd
    have fin : ∀ y own_e s p, Pack rc T own st.h.length (Hx y) (rc.obj s p) own_e (fun b => ownB Ff own' b ∧ b ∉ hd0.bs) hd0.bs w3 →
        StRel Fs w0 N own_e ⟨T, Hx y⟩ { a with defers := [{ target := .collected w.heap.size, args := #[] }] ++ a.defers } (w3.putObj (w.heap.size + 1) (rc.obj .exhausted p)) := by
      intro y own_e s p pk
      have hsz3 := fr3.size
      have hsz3' : W1.heap.size ≤ w3.heap.size := hsz3
      have hl3s : w.heap.size + 1 < w3.heap.size := by omega
      have hoth : ∀ c, c ≠ w.heap.size + 1 → (w3.putObj (w.heap.size + 1) (rc.obj .exhausted p)).heap[c]? = w3.heap[c]? := fun c hc => World.putObj_heap_other hc
      have hownE : ∀ i hd b, own_e i = some hd → b ∈ hd.bs → b ∈ hd0.bs ∧ b ≠ w.heap.size + 1 := fun i hd b e hm => ⟨(pk.bs b).2 (.inr ⟨i, hd, e, hm⟩), fun e' => pk.hp.apart i hd b e hm (.inr e')⟩
      have hnF : ∀ b, b ∈ hd0.bs → ¬ Ff b := fun b hb hf => hp3.apart 0 hd0 b e0 hb hf
      have hFsFw : ∀ b, Fs b → Fw (fun b => ownB Ff own' b ∧ b ∉ hd0.bs) rc.l w3 b := fun b hb => by
        rcases hb with hf | hf | hf
        · exact .inl ⟨⟨.inl (.inl hf), fun hm => hnF b hm (.inl hf)⟩, hp3.foreign b (.inl hf)⟩
        · exact .inl ⟨⟨.inl (.inr hf), fun hm => hnF b hm (.inr hf)⟩, hp3.foreign b (.inr hf)⟩
        · exact .inr hf
      have hcarE : Carries (Fw (fun b => ownB Ff own' b ∧ b ∉ hd0.bs) rc.l w3) own_e w3 Fs own_e (w3.putObj (w.heap.size + 1) (rc.obj .exhausted p)) := ⟨fun _ hd e => ⟨hd, e, .refl _⟩, fun b _ hn => ⟨fun ho => hn (ho.imp (hFsFw b) (fun e => e)), hoth b fun e => hn (.inl (.inr e))⟩⟩
      have hkeep : ∀ b, b < w.heap.size → (¬ ∃ i hd, own i = some hd ∧ b ∈ hd.bs) → w3.heap[b]? = w.heap[b]? := fun b hb hn => by
        rw [fr3.block b ⟨by show b < W1.heap.size; omega, fun ⟨i, hd, e, hm⟩ => ?_⟩]
        · exact hold b hb
        · cases i with
          | zero =>
            cases e
            rcases (hbs0 b).1 hm with h | ⟨i, hd, e, hm⟩
            · omega
            · obtain ⟨j, _, k⟩ := h0s i hd b e hm
              exact hn ⟨j, hd, k, hm⟩
          | succ i => obtain ⟨j, _, k⟩ := hf1 i hd e; exact hn ⟨j, hd, k, hm⟩
      have hD3 : w3.heap[w.heap.size]? = some (.deferred (some [])) := by
        rw [fr3.block w.heap.size ⟨by show w.heap.size < W1.heap.size; omega, fun ⟨i, hd, e, hm⟩ => hpf.apart i hd _ e hm (.inr rfl)⟩]; exact hD1
      refine ⟨hr.size, ?_, ⟨pk.hp.dom, fun b hb => ?_, fun i hd b e hm hb => pk.hp.apart i hd b e hm (hFsFw b hb), pk.hp.inj, fun i hd b e hm => by have := pk.hp.lt i hd b e hm; simpa using this, fun i hdd => ?_⟩, hr.fr.trans ⟨pk.ids, fun i hd b e hm ho => ?_, fr3.os.trans (by rw [← hW1]; rfl), fr3.tape.trans (by rw [← hW1]; rfl), fr3.output.trans (by rw [← hW1]; rfl), by simp; omega, fun b hb => ?_⟩, fun t => (pk.slots t).carry hcarE⟩
      · obtain ⟨ms, Ds, k0, k1, k2, k3⟩ := hr.defers
        refine ⟨{ target := .collected w.heap.size, args := #[] } :: ms, w.heap.size :: Ds, by simp [k0], by simp [k1], List.nodup_cons.2 ⟨fun hm => ?_, k2⟩, fun D hD => ?_⟩
        · have := heap_lt (k3 _ hm).2.2; omega
        · rcases List.mem_cons.1 hD with rfl | hD
          · exact ⟨hr.fr.size, .inr (.inl rfl), by rw [hoth _ (by omega)]; exact hD3⟩
          · obtain ⟨m1, m2, m3⟩ := k3 D hD
            have hlt := heap_lt m3
            exact ⟨m1, .inl m2, by rw [hoth _ (by omega), hkeep D hlt fun ⟨i, hd, e, hm⟩ => hr.hp.apart i hd D e hm m2]; exact m3⟩
      · have := pk.hp.foreign b (hFsFw b hb); simpa using this
      · obtain ⟨hd, e1, e2⟩ := pk.hp.obs i hdd
        exact ⟨hd, e1, e2.carry hcarE (by simp) fun b hm => hoth b (hownE i hd b e1 hm).2⟩
      · have h1 := fr3.base 0 hd0 b e0 (hownE i hd b e hm).1
        refine h1 ⟨by show b < W1.heap.size; have := ho.1; change b < w.heap.size at this; omega, fun ⟨i2, hd2, e2, hm2⟩ => ?_⟩
        cases i2 with
        | zero =>
          cases e2
          rcases (hbs0 b).1 hm2 with h | ⟨i3, hd3, e3, hm3⟩
          · exact (hownE i hd b e hm).2 h
          · obtain ⟨j, _, k⟩ := h0s i3 hd3 b e3 hm3
            exact ho.2 ⟨j, hd3, k, hm3⟩
        | succ i2 => obtain ⟨j, _, k⟩ := hf1 i2 hd2 e2; exact ho.2 ⟨j, hd2, k, hm2⟩
      · have hblt : b < w.heap.size := hb.1
        rw [hoth b (by omega)]
        exact hkeep b hblt hb.2
    have fin2 : ∀ y own_e s p ex, Pack rc T own st.h.length (Hx y) (rc.obj s p) own_e (fun b => ownB Ff own' b ∧ b ∉ hd0.bs) hd0.bs w3 → finC lc st.h.length ex ⟨T, Hx y⟩ →
        ∃ F3 own3 st3, (∀ b, F b → F3 b) ∧ StRel F3 w0 N own3 st3 { a with defers := [{ target := .collected w.heap.size, args := #[] }] ++ a.defers } (w3.putObj (w.heap.size + 1) (rc.obj .exhausted p)) ∧ ∃ r, lc.post r ∧ ex = lc.ex r ∧ st3 = lc.out r := by
      rintro y own_e s p ex pk ⟨r, js2, m1, m2, m3, m4⟩
      exact ⟨Fs, _, _, fun b hb => .inl hb, (fin y own_e s p pk).sub m4 hr.base_lt m3, r, m1, m2.symm, rfl⟩
    rcases hj with rfl | rfl
    · obtain ⟨ex, y, own_e, hS, hjm, pk⟩ := hR
      refine ⟨jumpOf ex, _, run_endLoop (P := P) (hl3 pk) (by simp [LRec.obj]), ?_⟩
      cases ex with
      | normal => cases hjm
      | pan x => cases hjm
      | ret => exact wpIn_ret (fin2 y own_e _ _ .ret pk (hRet y hS))
      | exit jj =>
        refine wpIn_exit ?_
        have h2 := fin2 y own_e _ _ _ pk (hEx jj y hS)
        show if jj = id then _ else _
        by_cases hjj : jj = id
        · rw [if_pos hjj] at h2 ⊢; exact h2
        · rw [if_neg hjj] at h2 ⊢; exact h2
    · obtain ⟨y, own_e, hIy, pk⟩ := hR
      exact ⟨none, _, run_endLoop (P := P) (hl3 pk) (by simp [LRec.obj]), fin2 y own_e _ _ .normal pk (hN y hIy)⟩
end
end Go.Sx
end
section
namespace Go.Sx
open Go.RowKit
def okI {ρ σ : Type} (step : Nat → σ → ρ ⊕ σ) (p : Nat → σ → Prop) : Nat → Nat → σ → Prop
  | 0, _, _ => True
  | n + 1, i, s => p i s ∧ ∀ s', step i s = .inr s' → okI step p n (i + 1) s'
theorem okI_all {ρ σ : Type} {step : Nat → σ → ρ ⊕ σ} {p : Nat → σ → Prop} : ∀ (n i : Nat) (s : σ), (∀ j s, i ≤ j → j < i + n → p j s) → okI step p n i s
  | 0, _, _, _ => trivial
  | n + 1, i, s, h => ⟨h i s (Nat.le_refl _) (by omega), fun s' _ => okI_all n (i + 1) s' fun j s h1 h2 => h j s (by omega) (by omega)⟩
theorem okI_inv {ρ σ : Type} {step : Nat → σ → ρ ⊕ σ} {p : Nat → σ → Prop} (J : Nat → σ → Prop) : ∀ (n i : Nat) (s : σ), J i s → (∀ j s, i ≤ j → j < i + n → J j s → p j s ∧ ∀ s', step j s = .inr s' → J (j + 1) s') → okI step p n i s
  | 0, _, _, _, _ => trivial
  | n + 1, i, s, h0, h => ⟨(h i s (Nat.le_refl _) (by omega) h0).1, fun s' hs => okI_inv J n (i + 1) s' ((h i s (Nat.le_refl _) (by omega) h0).2 s' hs) fun j s h1 h2 => h j s (by omega) (by omega)⟩
theorem runI_inv {ρ σ : Type} {step : Nat → σ → ρ ⊕ σ} (J : Nat → σ → Prop) : ∀ (n i : Nat) (s : σ), J i s → (∀ j s, i ≤ j → j < i + n → J j s → ∀ s', step j s = .inr s' → J (j + 1) s') → ∀ r, runI step n i s = .inr r → J (i + n) r
  | 0, i, s, h0, _, r, hr => by simp only [runI, Sum.inr.injEq] at hr; subst hr; exact h0
  | n + 1, i, s, h0, h, r, hr => by
    simp only [runI] at hr
    cases hs : step i s with
    | inl x => rw [hs] at hr; cases hr
    | inr s' =>
      rw [hs] at hr
      have := runI_inv J n (i + 1) s' (h i s (Nat.le_refl _) (by omega) h0 s' hs) (fun j s h1 h2 => h j s (by omega) (by omega)) r hr
      rw [show i + (n + 1) = i + 1 + n by omega]; exact this
section
variable {P : Program} {ρ σ : Type}
def nextQ (D : Nat → σ → St) (js : List Nat) (n0 k : Nat) (st : St) : ρ ⊕ σ → Prop
  | .inl _ => False
  | .inr s' => n0 ≤ (D (k + 1) s').h.length ∧ Sub js n0 st (D (k + 1) s')
def exQ (exE : ρ → Ex) (outE : ρ → St) (js : List Nat) (n0 : Nat) (e : Ex) (st : St) : ρ ⊕ σ → Prop
  | .inl x => exE x = e ∧ n0 ≤ (outE x).h.length ∧ Sub js n0 st (outE x)
  | .inr _ => False
def cQ (step : Nat → σ → ρ ⊕ σ) (n : Nat) (exE : ρ → Ex) (outE : ρ → St) (outN : σ → St) (D : Nat → σ → St) (js : List Nat) (n0 id k : Nat) (s : σ) : Ex → St → Prop
  | .normal, st => k < n ∧ nextQ D js n0 k st (step k s)
  | .exit j, st => bif Nat.beq j id then (n ≤ k → n0 ≤ (outN s).h.length ∧ Sub js n0 st (outN s)) ∧ (k < n → exQ exE outE js n0 .normal st (step k s)) else k < n ∧ exQ exE outE js n0 (.exit j) st (step k s)
  | .ret, st => k < n ∧ exQ exE outE js n0 .ret st (step k s)
  | .pan x, st => k < n ∧ exQ exE outE js n0 (.pan x) st (step k s)
variable {step : Nat → σ → ρ ⊕ σ} {n n0 id k j : Nat} {exE : ρ → Ex} {outE : ρ → St} {outN : σ → St} {D : Nat → σ → St} {js : List Nat} {s s' : σ} {st : St} {x : Value} {e : Ex} {y : ρ}
@[go_sem] theorem nextQ_inr : nextQ (ρ := ρ) D js n0 k st (.inr s') = (n0 ≤ (D (k + 1) s').h.length ∧ Sub js n0 st (D (k + 1) s')) := (rfl)
@[go_sem] theorem exQ_inl : exQ (σ := σ) exE outE js n0 e st (.inl y) = (exE y = e ∧ n0 ≤ (outE y).h.length ∧ Sub js n0 st (outE y)) := (rfl)
@[go_sem] theorem cQ_normal : cQ step n exE outE outN D js n0 id k s .normal st = (k < n ∧ nextQ D js n0 k st (step k s)) := (rfl)
@[go_sem] theorem cQ_exit : cQ step n exE outE outN D js n0 id k s (.exit j) st = bif Nat.beq j id then (n ≤ k → n0 ≤ (outN s).h.length ∧ Sub js n0 st (outN s)) ∧ (k < n → exQ exE outE js n0 .normal st (step k s)) else k < n ∧ exQ exE outE js n0 (.exit j) st (step k s) := (rfl)
@[go_sem] theorem cQ_ret : cQ step n exE outE outN D js n0 id k s .ret st = (k < n ∧ exQ exE outE js n0 .ret st (step k s)) := (rfl)
@[go_sem] theorem cQ_pan : cQ step n exE outE outN D js n0 id k s (.pan x) st = (k < n ∧ exQ exE outE js n0 (.pan x) st (step k s)) := (rfl)
@[congr] theorem nextQ_congr {r r' : ρ ⊕ σ} (h : r = r') : nextQ D js n0 k st r = nextQ D js n0 k st r' := by rw [h]
@[congr] theorem exQ_congr {r r' : ρ ⊕ σ} (h : r = r') : exQ exE outE js n0 e st r = exQ exE outE js n0 e st r' := by rw [h]
@[congr] theorem cQ_congr {st st' : St} {e e' : Ex} (h : st = st') (he : e = e') : cQ step n exE outE outN D js n0 id k s e st = cQ step n exE outE outN D js n0 id k s e' st' := by rw [h, he]
theorem count_okP {ts : Tis} {G : Cons} {ro : Option Nat} {N : Nat} (hm : P.follows .mixedOrders = true) (hts : ts.ok P) (hG : ConsOk P G) {id : Nat} {c : Code} (hc : okCode N c = true) {C : St → Option LCon}
    (h : ∀ st lc, C st = some lc → lc.pre → ∃ (ρ σ : Type) (pre : Prop) (step : Nat → σ → ρ ⊕ σ) (p : Nat → σ → Prop) (n : Nat) (s0 : σ) (exE : ρ → Ex) (outE : ρ → St) (outN : σ → St) (D : Nat → σ → St) (js : List Nat),
      lc = LC pre (runI step n 0 s0) exE outE outN ∧ okI step p n 0 s0 ∧ st.h.length ≤ (D 0 s0).h.length ∧ Sub js st.h.length st (D 0 s0) ∧
      ∀ k s, k ≤ n → (k < n → p k s) → ∃ L, loopsOk P ro N L c ∧ exec ts G L c (D k s) (cQ step n exE outE outN D js st.h.length id k s)) : LoopOk P ro N id (.loop c) C := by
  refine loop_okE hm hts hG hc fun st lc hC hp => ?_
  obtain ⟨ρ, σ, pre, step, p, n, s0, exE, outE, outN, D, js, rfl, h1, h2, h3, h4⟩ := h st lc hC hp
  refine ⟨Nat × σ, fun x => D x.1 x.2, fun x => x.1 ≤ n ∧ okI step p (n - x.1) x.1 x.2 ∧ runI step (n - x.1) x.1 x.2 = runI step n 0 s0, fun x => n - x.1, (0, s0), js, ⟨Nat.zero_le _, by simpa using h1, by simp⟩, h2, h3, ?_⟩
  rintro ⟨k, s⟩ ⟨hk, hJ, hrun⟩
  simp only at hk hJ hrun
  obtain ⟨L, hl, hex⟩ := h4 k s hk (fun hlt => by
    rw [show n - k = (n - k - 1) + 1 by omega] at hJ
    exact hJ.1)
  refine ⟨L, _, hl, ?_, hex⟩
  have hfin : ∀ e st', k < n → exQ exE outE js st.h.length e st' (step k s) → ∃ r js, (LC pre (runI step n 0 s0) exE outE outN).post r ∧ (LC pre (runI step n 0 s0) exE outE outN).ex r = e ∧ st.h.length ≤ ((LC pre (runI step n 0 s0) exE outE outN).out r).h.length ∧ Sub js st.h.length st' ((LC pre (runI step n 0 s0) exE outE outN).out r) := by
    intro e st' hlt q
    cases hs : step k s with
    | inr s' => rw [hs] at q; exact q.elim
    | inl x =>
      rw [hs] at q
      obtain ⟨q2, q3, q4⟩ := q
      rw [show n - k = (n - k - 1) + 1 by omega] at hrun
      simp only [runI, hs] at hrun
      exact ⟨.inl x, js, hrun, q2, q3, q4⟩
  intro e st' hq
  cases e with
  | normal =>
    obtain ⟨q1, q2⟩ := hq
    cases hs : step k s with
    | inl x => rw [hs] at q2; exact q2.elim
    | inr s' =>
      rw [hs] at q2
      rw [show n - k = (n - (k + 1)) + 1 by omega] at hrun hJ
      simp only [runI, hs] at hrun
      exact ⟨(k + 1, s'), js, ⟨q1, hJ.2 s' hs, hrun⟩, by simp only; omega, q2.1, q2.2⟩
  | exit j =>
    have hq' : (bif Nat.beq j id then (n ≤ k → st.h.length ≤ (outN s).h.length ∧ Sub js st.h.length st' (outN s)) ∧ (k < n → exQ exE outE js st.h.length .normal st' (step k s)) else k < n ∧ exQ exE outE js st.h.length (.exit j) st' (step k s)) := hq
    show bif Nat.beq j id then _ else _
    cases hb : Nat.beq j id with
    | true =>
      rw [hb] at hq'
      simp only [cond_true] at hq' ⊢
      by_cases hlt : k < n
      · exact hfin _ _ hlt (hq'.2 hlt)
      · obtain ⟨q3, q4⟩ := hq'.1 (by omega)
        have hkn : k = n := by omega
        subst hkn
        simp only [Nat.sub_self, runI] at hrun
        exact ⟨.inr s, js, hrun, rfl, q3, q4⟩
    | false => rw [hb] at hq'; exact hfin _ _ hq'.1 hq'.2
  | ret => exact hfin _ _ hq.1 hq.2
  | pan x => exact hfin _ _ hq.1 hq.2
end
def outR {ρ σ : Type} [Inhabited σ] : ρ ⊕ σ → σ | .inr s => s | .inl _ => default
def outL {ρ σ : Type} [Inhabited ρ] : ρ ⊕ σ → ρ | .inl s => s | .inr _ => default
@[go_sem] theorem outR_inr {ρ σ : Type} [Inhabited σ] {s : σ} : outR (ρ := ρ) (.inr s) = s := (rfl)
@[go_sem] theorem outL_inl {ρ σ : Type} [Inhabited ρ] {s : ρ} : outL (σ := σ) (.inl s) = s := (rfl)
theorem wrapT {k : Nat} {n : Int} (h : k < n.toNat) (hn : n < 9223372036854775808) : IntKind.i64.wrap ((k : Int) + 1) = ((k + 1 : Nat) : Int) := by
  rw [wrapI (by omega) (by omega)]; omega
end Go.Sx
end
section
namespace Go.Sx
open Go.RowKit
def nrmR (pks : List Pk) : SV → SV
  | .tup l => .tup (nrmA pks l)
  | s => match pks with | [p] => nrmP p s | _ => s
section
variable {F : Nat → Prop} {own : Own} {w : World}
theorem nrmR_rel {pks : List Pk} {s : SV} {v : Value} (h : Rel F own w s v) : Rel F own w (nrmR pks s) v := by
  unfold nrmR
  split
  · cases h with
    | tup h0 h1 =>
      refine .tup (by rw [nrmA_len]; exact h0) fun j s hj => ?_
      obtain ⟨s0, e1, e2 | ⟨p, e2⟩⟩ := nrmA_get _ _ _ _ hj
      · subst e2; exact h1 j _ e1
      · subst e2; exact nrmP_rel (h1 j _ e1)
  · split
    · exact nrmP_rel h
    · exact h
@[go_sem] theorem nrmR_tup {pks : List Pk} {l : List SV} : nrmR pks (.tup l) = .tup (nrmA pks l) := (rfl)
@[go_sem] theorem nrmR_agg {p : Pk} {l : List SV} : nrmR [p] (.agg l) = nrmP p (.agg l) := (rfl)
@[go_sem] theorem nrmR_v {p : Pk} {x : Value} : nrmR [p] (.v x) = nrmP p (.v x) := (rfl)
@[go_sem] theorem nrmR_rs {p : Pk} {k : Tag} {l : List k.T} : nrmR [p] (.rs k l) = nrmP p (.rs k l) := (rfl)
@[go_sem] theorem nrmR_rm {p : Pk} {k k2 : Tag} {l : List (k.T × k2.T)} : nrmR [p] (.rm k k2 l) = nrmP p (.rm k k2 l) := (rfl)
@[go_sem] theorem nrmR_e0 {p : Pk} : nrmR [p] .e0 = nrmP p .e0 := (rfl)
end
section
variable {P : Program} {ts : Tis} {G : Cons}
theorem fn_okN (pks : List Pk) (hm : P.follows .mixedOrders = true) (hts : ts.ok P) (hG : ConsOk P G) {f : FuncId} {fn : Func} {c : Code} (hf : P.funcs[f]? = some fn) (hb : fn.body = some c) (hname : (fn.name == "runtime.NumGoroutine") = false)
    (hc : okCode fn.ntmps c = true) {C : List SV → Option Con}
    (h : ∀ l con, C l = some con → conPre con → l.length ≤ fn.ntmps ∧ ∃ L, loopsOk P none fn.ntmps L c ∧ exec ts G L c ⟨initT 0 l, []⟩ (doneQ false fn.results.toList ts (fun s => conPost con (nrmR pks s)) (conPan con))) : FnOk P f C := by
  refine ⟨fun l con _ args w => ?_, fun l con hcon hpre F w vs hF hvs => ?_⟩
  · have hn : ¬ fn.name = "runtime.NumGoroutine" := by simpa using hname
    simp [callFunc, hf, hn, hb]
  · obtain ⟨hlen, L, hl, hx⟩ := h l con hcon hpre
    refine calls_wide (n := 0) (callsIn_of_wp_marks hf hb trivial ?_)
    have hr : StRel F { w := w, own := own0 } fn.ntmps own0 ⟨initT 0 l, []⟩ { tmps := vs ++ Array.replicate (fn.ntmps - vs.size) undef, defers := [] } w :=
      ⟨by have := hvs.1; simp; omega, Dfr.nil, hp_none hF, Fr.refl _, fun t => start_slots hvs _ t⟩
    refine wpIn_mono (exec_ok hm hts hG c hc hl F _ _ hx own0 _ w hr) ?_
    intro e a' w' hq
    have key : ∀ F1 own st, (∀ b, F b → F1 b) → StRel F1 { w := w, own := own0 } fn.ntmps own st a' w' → donePost (fun s => conPost con (nrmR pks s)) (retM false fn.results.toList ts st) → LeavesInM (rd none) 0 P fn a'.tmps
        (fun e w' => (∃ s u own', conPost con s ∧ e = .returned u ∧ Handed F w own' w' s u ∧ Below w.heap.size w w') ∨ (∃ x, conPan con x ∧ e = .panicked [{ v := x, recovered := false }] ∧ Below w.heap.size w w')) a'.defers .returning w' := by
      intro F1 own st hF1 hst hdone
      refine leave_ok hst (by simp) fun w2 hst2 => ?_
      have hst3 := hst2.less hF1 rfl
      simp only [retM, cond_false, retS] at hdone
      cases hs : tupO (retL ts st fn.results.toList) with
      | none => rw [hs] at hdone; exact hdone.elim
      | some s =>
        obtain ⟨u, e1, e2⟩ := retT_ok (P := P) hts hst3 hs
        refine ⟨u, e1, .inl ?_⟩
        rw [hs] at hdone
        exact ⟨_, u, own0, hdone, rfl, handed_pure hst3.hp.foreign (nrmR_rel (exp_rel hst3.hp 4 s u e2)), below_fr hst3.fr⟩
    cases e with
    | normal => obtain ⟨F1, own, st, h0, h1, h2⟩ := hq; exact key F1 own st h0 h1 h2
    | ret => obtain ⟨F1, own, st, h0, h1, h2⟩ := hq; exact key F1 own st h0 h1 h2
    | exit id => obtain ⟨F1, own, st, h0, h1, h2⟩ := hq; exact h2.elim
    | panic ch =>
      obtain ⟨x, F1, own, st, h0, h1, h2, rfl⟩ := hq
      exact leave_ok h1 (by simp) fun w2 hst2 => .inr ⟨x, h2, rfl, below_fr hst2.fr⟩
    | _ => exact hq.elim
end
end Go.Sx
end
section
namespace Go.Sx
open Go.RowKit
def RecOk (P : Program) (g : FuncId) (C : Value → Option SV) : Prop :=
  (∀ (args : Array Value) (w : World), (callFunc g args).run P w = .ok (.enter g args) w) ∧
  (∀ (p : Addr) (w : World), CallsDIn (rd none) 0 P g #[.pointer (some p)] .returning w (fun e u' w' => (∃ v, e = .returned v) ∧ u' = .returning ∧ w' = w)) ∧
  ∀ (x : Value) (s : SV), C x = some s → ∀ (F : Nat → Prop) (own : Own) (w : World) (h : List Ob) (id : Nat) (hd : Hd) (b : Nat) (y : SV), Hp F own w h → obAt h id = .cells [y] → own id = some hd → hd.p = some b →
    CallsDIn (rd none) 0 P g #[.pointer (some ⟨b, 0, none⟩)] (.panicking [{ v := x, recovered := false }]) w (fun e u' w' => (∃ v, e = .returned v) ∧ u' = .panicking [{ v := x, recovered := true }] ∧ ∃ own', Hp F own' w' (obSet h id (.cells [s])) ∧ Fr { w := w, own := own } own' w')
section
variable {P : Program} {ts : Tis} {G : Cons}
theorem defer_region {n : Nat} {g : FuncId} {i1 t3 q : Nat} {o1 o2 : Oper} {tys : Array TypeId} {Q : Exit → Act → World → Prop} {a : Act} {w : World} {b : Nat}
    (ho1 : o1.dst = some t3 ∧ o1.op = .makeFunc (.func g) #[] #[.tmp q] ∧ o1.guard = none) (ho2 : o2.dst = none ∧ o2.op = .defer ⟨.value (.tmp t3), #[], tys⟩ ∧ o2.guard = none)
    (hq : a.tmps.getD q undef = .pointer (some ⟨b, 0, none⟩)) (ht3 : t3 < a.tmps.size)
    (h : Q .normal { tmps := a.tmps.setIfInBounds t3 (.func (.func g) #[] #[.pointer (some ⟨b, 0, none⟩)]), defers := { target := .fn (.func g) #[.pointer (some ⟨b, 0, none⟩)], args := #[] } :: a.defers } w) :
    (Code.region i1 #[o1, o2] false).wpIn (rd none) n P Q a w := by
  obtain ⟨d1, p1, t1, s1, f1, g1⟩ := o1
  obtain ⟨d2, p2, t2, s2, f2, g2⟩ := o2
  obtain ⟨rfl, rfl, rfl⟩ := ho1
  obtain ⟨rfl, rfl, rfl⟩ := ho2
  refine wpIn_region ?_
  have hget : (a.tmps.setIfInBounds t3 (.func (.func g) #[] #[.pointer (some ⟨b, 0, none⟩)])).getD t3 undef = .func (.func g) #[] #[.pointer (some ⟨b, 0, none⟩)] := by
    simp [Array.getD_eq_getD_getElem?, ht3]
  have hr1 : List.range (#[(⟨some t3, .makeFunc (.func g) #[] #[.tmp q], t1, s1, f1, none⟩ : Oper), (⟨none, .defer ⟨.value (.tmp t3), #[], tys⟩, t2, s2, f2, none⟩ : Oper)] : Array Oper).size = [0, 1] := rfl
  rw [hr1]
  simp only [wpOpsIn, Oper.wpIn, Region.wanted]
  have e1 : (#[(⟨some t3, .makeFunc (.func g) #[] #[.tmp q], t1, s1, f1, none⟩ : Oper), (⟨none, .defer ⟨.value (.tmp t3), #[], tys⟩, t2, s2, f2, none⟩ : Oper)] : Array Oper)[0]? = some ⟨some t3, .makeFunc (.func g) #[] #[.tmp q], t1, s1, f1, none⟩ := rfl
  have e2 : (#[(⟨some t3, .makeFunc (.func g) #[] #[.tmp q], t1, s1, f1, none⟩ : Oper), (⟨none, .defer ⟨.value (.tmp t3), #[], tys⟩, t2, s2, f2, none⟩ : Oper)] : Array Oper)[1]? = some ⟨none, .defer ⟨.value (.tmp t3), #[], tys⟩, t2, s2, f2, none⟩ := rfl
  rw [e1, e2]
  simp only [if_true]
  refine ⟨fun _ _ => trivial, ?_⟩
  have r1 : ((⟨some t3, .makeFunc (.func g) #[] #[.tmp q], t1, s1, f1, none⟩ : Oper).semAt (rd none).round a.eval).run P w = .ok (.value (.func (.func g) #[] #[.pointer (some ⟨b, 0, none⟩)])) w := by
    simp [Oper.semAt, execOp, go_sem, Act.eval, hq]
    try rfl
  rw [r1]
  simp only [Oper.uponIn_value]
  refine ⟨fun _ _ => trivial, ?_⟩
  have r2 : ((⟨none, .defer ⟨.value (.tmp t3), #[], tys⟩, t2, s2, f2, none⟩ : Oper).semAt (rd none).round (a.put (some t3) (.func (.func g) #[] #[.pointer (some ⟨b, 0, none⟩)])).eval).run P w = .ok (.defer { target := .fn (.func g) #[.pointer (some ⟨b, 0, none⟩)], args := #[] }) w := by
    simp [Oper.semAt, execOp, go_sem, Act.eval, Act.put, hget]
    try rfl
  rw [r2]
  simp only [Oper.uponIn_defer]
  exact h
theorem region_okF {F : Nat → Prop} {w0 : Bs} {ro : Option Nat} {nd N : Nat} (hm : P.follows .mixedOrders = true) (hts : ts.ok P) (hG : ConsOk P G) {id : Nat} {ops : Array Oper} (hc : okCode N (.region id ops false) = true) {st : St} {Q : St → Prop} {L : Loops} (hx : exec ts G L (.region id ops false) st (fun e st => e = .normal ∧ Q st))
    {own : Own} {a : Act} {w : World} (hr : StRel F w0 N own st a w) : (Code.region id ops false).wpIn (rd ro) nd P (fun e a w => e = .normal ∧ ∃ own st, StRel F w0 N own st a w ∧ Q st) a w := by
  simp only [okCode, Bool.and_eq_true] at hc
  obtain ⟨h1, h2⟩ := hc
  have hrok := rok_of h1
  obtain ⟨l⟩ := ops
  have hx' : execOps ts G l l st (fun st' => Ex.normal = .normal ∧ Q (clean l st')) (fun x st' => Ex.pan x = .normal ∧ Q st') := hx
  refine wpIn_region_list ?_
  exact seq_ok (K := fun st' => Ex.normal = .normal ∧ Q (clean l st')) (Z := fun x st' => Ex.pan x = .normal ∧ Q st') hts hG hrok (fun x own st a w h1 h2 => (by cases h2.1)) l 0 own st a w rfl (hr.start l fun k hk => by omega) hx' fun own st a w hi hk => ⟨rfl, own, _, StRel.finish hi, hk.2⟩
def oneC : Ob → Prop
  | .cells [_] => True
  | _ => False
theorem oneC_inv {o : Ob} (h : oneC o) : ∃ y, o = .cells [y] := by
  unfold oneC at h; split at h
  · exact ⟨_, rfl⟩
  · exact h.elim
def recP (rs : List ResultVar) (ts : Tis) (post : SV → Prop) (id : Nat) (st : St) : Option SV → Prop
  | some s => oneC (obAt st.h id) ∧ donePost post (retS rs ts ⟨st.t, obSet st.h id (.cells [s])⟩)
  | none => False
def recQ (C : Value → Option SV) (rs : List ResultVar) (ts : Tis) (post : SV → Prop) (id : Nat) : Ex → St → Prop
  | .exit _, _ => False
  | .normal, st => donePost post (retS rs ts st)
  | .ret, st => donePost post (retS rs ts st)
  | .pan x, st => recP rs ts post id st (C x)
@[go_sem] theorem oneC_cells {y : SV} : oneC (.cells [y]) = True := (rfl)
@[go_sem] theorem recP_some {rs : List ResultVar} {ts : Tis} {post : SV → Prop} {id : Nat} {st : St} {s : SV} : recP rs ts post id st (some s) = (oneC (obAt st.h id) ∧ donePost post (retS rs ts ⟨st.t, obSet st.h id (.cells [s])⟩)) := (rfl)
section
variable {C : Value → Option SV} {rs : List ResultVar} {ts : Tis} {post : SV → Prop} {id : Nat} {st : St} {x : Value}
@[go_sem] theorem recQ_normal : recQ C rs ts post id .normal st = donePost post (retS rs ts st) := (rfl)
@[go_sem] theorem recQ_ret : recQ C rs ts post id .ret st = donePost post (retS rs ts st) := (rfl)
@[go_sem] theorem recQ_pan : recQ C rs ts post id (.pan x) st = recP rs ts post id st (C x) := (rfl)
end
def seqL : Code → Code | .seq a _ => a | c => c
def seqR : Code → Code | .seq _ b => b | c => c
def regI : Code → Nat | .region i _ _ => i | _ => 0
def regO (i : Nat) : Code → Oper | .region _ ops _ => ops.getD i default | _ => default
theorem fn_rec {g : FuncId} {RC : Value → Option SV} (hrec : RecOk P g RC) (pks : List Pk) (hm : P.follows .mixedOrders = true) (hts : ts.ok P) (hG : ConsOk P G) {f : FuncId} {fn : Func} {c0 c1 : Code} {i1 t3 q : Nat} {o1 o2 : Oper} {tys : Array TypeId}
    (hf : P.funcs[f]? = some fn) (hb : fn.body = some (.seq c0 (.seq (.region i1 #[o1, o2] false) c1))) (hname : (fn.name == "runtime.NumGoroutine") = false)
    (ho1 : o1.dst = some t3 ∧ o1.op = .makeFunc (.func g) #[] #[.tmp q] ∧ o1.guard = none) (ho2 : o2.dst = none ∧ o2.op = .defer ⟨.value (.tmp t3), #[], tys⟩ ∧ o2.guard = none) (ht3 : t3 < fn.ntmps)
    (hc0 : okCode fn.ntmps c0 = true) (hc1 : okCode fn.ntmps c1 = true) {C : List SV → Option Con}
    (h : ∀ l con, C l = some con → conPre con → l.length ≤ fn.ntmps ∧ ∃ L L' id, loopsOk P none fn.ntmps L c0 ∧ loopsOk P none fn.ntmps L' c1 ∧ exec ts G L c0 ⟨initT 0 l, []⟩ (fun e st => e = .normal ∧ lk q st.t = .ptr id 0 ∧ oneC (obAt st.h id) ∧
      exec ts G L' c1 ⟨(t3, .any) :: st.t, st.h⟩ (recQ RC fn.results.toList ts (fun s => conPost con (nrmR pks s)) id))) : FnOk P f C := by
  refine ⟨fun l con _ args w => ?_, fun l con hcon hpre F w vs hF hvs => ?_⟩
  · have hn : ¬ fn.name = "runtime.NumGoroutine" := by simpa using hname
    simp [callFunc, hf, hn, hb]
  · obtain ⟨hlen, L, L', id, hl, hl', hx⟩ := h l con hcon hpre
    refine calls_wide (n := 0) (callsIn_of_wp_marks hf hb trivial ?_)
    have hr : StRel F { w := w, own := own0 } fn.ntmps own0 ⟨initT 0 l, []⟩ { tmps := vs ++ Array.replicate (fn.ntmps - vs.size) undef, defers := [] } w :=
      ⟨by have := hvs.1; simp; omega, Dfr.nil, hp_none hF, Fr.refl _, fun t => start_slots hvs _ t⟩
    refine wpIn_seq (wpIn_mono (exec_ok hm hts hG c0 hc0 hl F _ _ hx own0 _ w hr) ?_)
    intro e a1 w1 hq
    cases e with
    | normal =>
      obtain ⟨F1, own1, st1, hF1, hst1, _, hlk, _, hx1⟩ := hq
      have hsq := hst1.slots q
      rw [hlk] at hsq
      generalize hv : a1.tmps.getD q undef = pv at hsq
      cases hsq with
      | @ptr _ _ b hd ho hp =>
      show (Code.seq (.region i1 #[o1, o2] false) c1).wpIn (rd none) 0 P _ a1 w1
      have hsz := hst1.size
      refine wpIn_seq (defer_region ho1 ho2 hv (by rw [hsz]; exact ht3) ?_)
      show c1.wpIn (rd none) 0 P _ _ w1
      obtain ⟨ms, Ds, k0, k1, k2, k3⟩ := hst1.defers
      have k0' : a1.defers = ms := by rw [k0]; exact List.append_nil _
      let d : Deferred := { target := .fn (.func g) #[.pointer (some ⟨b, 0, none⟩)], args := #[] }
      let B : Bs := { w := w1, own := own1, ds := d :: a1.defers }
      have hr2 : StRel F1 B fn.ntmps own1 ⟨(t3, .any) :: st1.t, st1.h⟩ { tmps := a1.tmps.setIfInBounds t3 (.func (.func g) #[] #[.pointer (some ⟨b, 0, none⟩)]), defers := d :: a1.defers } w1 := by
        refine ⟨by simpa using hsz, Dfr.nil, hst1.hp, Fr.refl B, fun t => ?_⟩
        rw [lk_put]
        by_cases ht : t3 = t
        · rw [if_pos ht]; exact .any _
        · rw [if_neg ht]
          have := hst1.slots t
          simp only [Array.getD_eq_getD_getElem?, Array.getElem?_setIfInBounds, if_neg ht]
          simpa [Array.getD_eq_getD_getElem?] using this
      have hbd : ∀ D ∈ Ds, ¬ ∃ id hd, own1 id = some hd ∧ D ∈ hd.bs := fun D hD ⟨i, hd, e, hm⟩ => hst1.hp.apart i hd D e hm (k3 D hD).2.1
      have fin : ∀ F2 own2 st2 (a2 : Act) w2, (∀ b, F1 b → F2 b) → StRel F2 B fn.ntmps own2 st2 a2 w2 → donePost (fun s => conPost con (nrmR pks s)) (retS fn.results.toList ts st2) →
          LeavesInM (rd none) 0 P fn a2.tmps (fun e w' => (∃ s u own', conPost con s ∧ e = .returned u ∧ Handed F w own' w' s u ∧ Below w.heap.size w w') ∨ (∃ x, conPan con x ∧ e = .panicked [{ v := x, recovered := false }] ∧ Below w.heap.size w w')) a1.defers .returning w2 := by
        intro F2 own2 st2 a2 w2 hF2 hst2 hdone
        have hB : StRel F2 { w := w, own := own0 } fn.ntmps own2 st2 { a2 with defers := [] } w2 := ⟨hst2.size, Dfr.nil, hst2.hp, hst1.fr.trans ⟨hst2.fr.ids, hst2.fr.base, hst2.fr.os, hst2.fr.tape, hst2.fr.output, hst2.fr.size, hst2.fr.block⟩, hst2.slots⟩
        have hkeep : ∀ D ∈ Ds, w2.heap[D]? = some (.deferred (some [])) := fun D hD => by
          rw [hst2.fr.block D ⟨heap_lt (k3 D hD).2.2, hbd D hD⟩]; exact (k3 D hD).2.2
        rw [k0', ← List.append_nil ms]
        refine leaves_ok (by simp) Ds ms w2 k1 k2 hkeep fun w4 hs => ?_
        have hst4 := (hB.shut (Ds := Ds) (fun D hD => ⟨(k3 D hD).1, hF2 D (k3 D hD).2.1, hkeep D hD⟩) hs).less (fun c hc => hF2 c (hF1 c hc)) rfl
        simp only [retS] at hdone
        cases hres : tupO (retL ts st2 fn.results.toList) with
        | none => rw [hres] at hdone; exact hdone.elim
        | some s =>
          obtain ⟨u, e1, e2⟩ := retT_ok (P := P) hts hst4 hres
          rw [hres] at hdone
          exact ⟨u, e1, .inl ⟨_, u, own0, hdone, rfl, handed_pure hst4.hp.foreign (nrmR_rel (exp_rel hst4.hp 4 s u e2)), below_fr hst4.fr⟩⟩
      have hinv : ∀ w2 : World, (invoke (.fn (.func g) #[.pointer (some ⟨b, 0, none⟩)]) #[]).run P w2 = .ok (.enter g #[.pointer (some ⟨b, 0, none⟩)]) w2 := fun w2 => by simp [invoke, go_sem, hrec.1]
      refine wpIn_mono (exec_ok hm hts hG c1 hc1 hl' F1 _ _ hx1 own1 _ w1 hr2) ?_
      have idle : ∀ (a' : Act) (w' : World) F2 own2 st2, (∀ b, F1 b → F2 b) → StRel F2 B fn.ntmps own2 st2 a' w' → donePost (fun s => conPost con (nrmR pks s)) (retS fn.results.toList ts st2) →
          LeavesInM (rd none) 0 P fn a'.tmps (fun e w' => (∃ s u own', conPost con s ∧ e = .returned u ∧ Handed F w own' w' s u ∧ Below w.heap.size w w') ∨ (∃ x, conPan con x ∧ e = .panicked [{ v := x, recovered := false }] ∧ Below w.heap.size w w')) a'.defers .returning w' := by
        intro a' w' F2 own2 st2 hF2 hst2 hdone
        refine leave_ok hst2 (by simp) fun w2 hst3 => ?_
        refine ⟨by simp, .inr ⟨fun h => (by cases h), .func g, #[.pointer (some ⟨b, 0, none⟩)], g, #[.pointer (some ⟨b, 0, none⟩)], rfl, hinv w2, fun _ _ => trivial, ?_⟩⟩
        refine (hrec.2.1 ⟨b, 0, none⟩ w2).mono ?_
        rintro e u' w3 ⟨⟨v, rfl⟩, rfl, rfl⟩
        exact fin F2 own2 st2 { a' with defers := B.ds } _ hF2 hst3 hdone
      intro e a' w' hq
      cases e with
      | normal => obtain ⟨F2, own2, st2, h0, h1, h2⟩ := hq; exact idle a' w' F2 own2 st2 h0 h1 h2
      | ret => obtain ⟨F2, own2, st2, h0, h1, h2⟩ := hq; exact idle a' w' F2 own2 st2 h0 h1 h2
      | exit jd => obtain ⟨F2, own2, st2, h0, h1, h2⟩ := hq; exact h2.elim
      | panic ch =>
        obtain ⟨x, F2, own2, st2, h0, h1, hm, rfl⟩ := hq
        change recP fn.results.toList ts _ id st2 (RC x) at hm
        cases m1 : RC x with
        | none => rw [m1] at hm; exact hm.elim
        | some s =>
        rw [m1] at hm
        obtain ⟨hm2, m3⟩ := hm
        obtain ⟨y, m2⟩ := oneC_inv hm2
        refine leave_ok h1 (by simp) fun w2 hst3 => ?_
        refine ⟨by simp, .inr ⟨fun h => (by cases h), .func g, #[.pointer (some ⟨b, 0, none⟩)], g, #[.pointer (some ⟨b, 0, none⟩)], rfl, hinv w2, fun _ _ => trivial, ?_⟩⟩
        obtain ⟨hd2, e2, l2⟩ := hst3.fr.ids id hd ho
        refine (hrec.2.2 x s m1 F2 own2 w2 st2.h id hd2 b y hst3.hp m2 e2 (l2.1.trans hp)).mono ?_
        rintro e u' w3 ⟨⟨v, rfl⟩, rfl, own3, q1, q2⟩
        exact fin F2 own3 ⟨st2.t, _⟩ { a' with defers := B.ds } w3 h0 (hst3.moved q1 q2) m3
      | _ => exact hq.elim
    | ret => obtain ⟨F1, own, st, h0, h1, h2, _⟩ := hq; cases h2
    | exit jd => obtain ⟨F1, own, st, h0, h1, h2, _⟩ := hq; cases h2
    | panic ch => obtain ⟨x, F1, own, st, h0, h1, ⟨h2, _⟩, _⟩ := hq; cases h2
    | _ => exact hq.elim
end
end Go.Sx
end
section
namespace Go.Sx
open Go.Proofs
def ti1 : TI := ⟨1, 8, false, [(.v .nilFunc)], [], 0, 0, false, false, none, none, false, [], none, none, 0⟩
def ti2 : TI := ⟨1, 8, false, [(.v (.int .i64 0))], [], 0, 0, false, false, (some .int), (some .i64), false, [], none, none, 1⟩
def ti3 : TI := ⟨1, 8, false, [(.v (.int .i64 0))], [], 0, 0, false, false, (some .int), (some .i64), false, [], none, none, 1⟩
def ti4 : TI := ⟨1, 1, false, [(.v (.bool false))], [], 0, 0, false, false, (some .bool), none, false, [], none, none, 3⟩
def ti5 : TI := ⟨1, 1, false, [(.v (.int .u8 0))], [], 0, 0, false, false, none, (some .u8), false, [], none, none, 1⟩
def ti6 : TI := ⟨1, 1, false, [(.v (.int .u8 0))], [], 0, 0, false, false, none, (some .u8), false, [], none, none, 1⟩
def ti7 : TI := ⟨4, 24, true, [(.v (.int .i64 0)), (.v (.int .i64 0)), (.v (.bool false)), (.v (.int .u8 0))], [(0, (1, false)), (1, (1, false)), (2, (1, false)), (3, (1, false))], 0, 0, false, false, none, none, false, [1, 1, 3, 1], none, none, 0⟩
def ti8 : TI := ⟨4, 24, true, [(.v (.int .i64 0)), (.v (.int .i64 0)), (.v (.bool false)), (.v (.int .u8 0))], [(0, (1, false)), (1, (1, false)), (2, (1, false)), (3, (1, false))], 0, 0, false, false, none, none, false, [1, 1, 3, 1], none, none, 0⟩
def ti9 : TI := ⟨1, 16, false, [(.v (.string (ByteArray.mk #[])))], [], 0, 0, false, false, (some .str), none, false, [], none, none, 2⟩
def ti10 : TI := ⟨1, 16, false, [(.v (.string (ByteArray.mk #[])))], [], 0, 0, false, false, none, none, false, [], none, none, 2⟩
def ti11 : TI := ⟨1, 16, false, [(.v (.string (ByteArray.mk #[])))], [], 0, 0, false, false, none, none, false, [], none, none, 2⟩
def ti12 : TI := ⟨1, 8, false, [(.v (.int .u64 0))], [], 0, 0, false, false, none, (some .u64), false, [], none, none, 1⟩
def ti13 : TI := ⟨2, 24, true, [(.v (.string (ByteArray.mk #[]))), (.v (.int .u64 0))], [(0, (1, false)), (1, (1, false))], 0, 0, false, false, none, none, false, [], none, none, 0⟩
def ti14 : TI := ⟨2, 24, true, [(.v (.string (ByteArray.mk #[]))), (.v (.int .u64 0))], [(0, (1, false)), (1, (1, false))], 0, 0, false, false, none, none, false, [], none, none, 0⟩
def ti15 : TI := ⟨1, 8, false, [(.v (.pointer none))], [], 0, 0, false, false, none, none, false, [], none, none, 0⟩
def ti16 : TI := ⟨1, 8, false, [(.v (.pointer none))], [], 0, 0, false, false, none, none, false, [], none, none, 0⟩
def ti17 : TI := ⟨1, 8, false, [(.v (.pointer none))], [], 0, 0, false, false, none, none, false, [], none, none, 0⟩
def ti18 : TI := ⟨1, 8, true, [(.v (.pointer none))], [(0, (1, false))], 0, 0, false, false, none, none, false, [], none, none, 0⟩
def ti19 : TI := ⟨1, 8, true, [(.v (.pointer none))], [(0, (1, false))], 0, 0, false, false, none, none, false, [], none, none, 0⟩
def ti20 : TI := ⟨1, 16, false, [(.v .nilIface)], [], 0, 0, false, false, none, none, true, [], none, none, 0⟩
def ti21 : TI := ⟨1, 4, false, [(.v (.int .i32 0))], [], 0, 0, false, false, none, (some .i32), false, [], none, none, 1⟩
def ti22 : TI := ⟨2, 16, true, [(.v (.int .i64 0)), (.v (.int .i64 0))], [(0, (1, false)), (1, (1, false))], 0, 0, false, false, none, none, false, [1, 1], none, none, 0⟩
def ti23 : TI := ⟨2, 16, true, [(.v (.int .i64 0)), (.v (.int .i64 0))], [(0, (1, false)), (1, (1, false))], 0, 0, false, false, (some .tank), none, false, [1, 1], none, none, 0⟩
def ti24 : TI := ⟨1, 24, false, [(.v (.slice none 0 0))], [], 58, 0, true, false, none, none, false, [], none, none, 0⟩
def ti25 : TI := ⟨1, 24, false, [(.v (.slice none 0 0))], [], 75, 0, true, false, none, none, false, [], none, none, 0⟩
def ti26 : TI := ⟨1, 24, false, [(.v (.slice none 0 0))], [], 94, 0, true, false, none, none, false, [], none, none, 0⟩
def ti27 : TI := ⟨1, 24, false, [(.v (.slice none 0 0))], [], 144, 0, true, false, none, none, false, [], none, none, 0⟩
def ti28 : TI := ⟨1, 24, false, [(.v (.slice none 0 0))], [], 147, 0, true, false, none, none, false, [], none, none, 0⟩
def ti29 : TI := ⟨1, 24, false, [(.v (.slice none 0 0))], [], 187, 0, true, false, none, none, false, [], none, none, 0⟩
def ti30 : TI := ⟨10, 184, true, [(.v (.string (ByteArray.mk #[]))), (.v (.int .i64 0)), (.v (.int .i64 0)), (.v (.int .i64 0)), (.v (.slice none 0 0)), (.v (.slice none 0 0)), (.v (.slice none 0 0)), (.v (.slice none 0 0)), (.v (.slice none 0 0)), (.v (.slice none 0 0))], [(0, (1, false)), (1, (1, false)), (2, (2, true)), (4, (1, false)), (5, (1, false)), (6, (1, false)), (7, (1, false)), (8, (1, false)), (9, (1, false))], 0, 0, false, false, none, none, false, [], none, none, 0⟩
def ti31 : TI := ⟨10, 184, true, [(.v (.string (ByteArray.mk #[]))), (.v (.int .i64 0)), (.v (.int .i64 0)), (.v (.int .i64 0)), (.v (.slice none 0 0)), (.v (.slice none 0 0)), (.v (.slice none 0 0)), (.v (.slice none 0 0)), (.v (.slice none 0 0)), (.v (.slice none 0 0))], [(0, (1, false)), (1, (1, false)), (2, (2, true)), (4, (1, false)), (5, (1, false)), (6, (1, false)), (7, (1, false)), (8, (1, false)), (9, (1, false))], 0, 0, false, false, (some .district), none, false, [], none, none, 0⟩
def ti32 : TI := ⟨1, 8, false, [(.v .nilFunc)], [], 0, 0, false, false, none, none, false, [], none, none, 0⟩
def ti33 : TI := ⟨1, 8, false, [(.v .nilFunc)], [], 0, 0, false, false, none, none, false, [], none, none, 0⟩
def ti34 : TI := ⟨1, 8, false, [(.v (.int .i64 0))], [], 0, 0, false, false, (some .int), (some .i64), false, [], none, none, 1⟩
def ti36 : TI := ⟨1, 8, false, [(.v .nilFunc)], [], 0, 0, false, false, none, none, false, [], none, none, 0⟩
def ti38 : TI := ⟨1, 8, false, [(.v .nilFunc)], [], 0, 0, false, false, none, none, false, [], none, none, 0⟩
def ti39 : TI := ⟨1, 8, false, [(.v .nilFunc)], [], 0, 0, false, false, none, none, false, [], none, none, 0⟩
def ti40 : TI := ⟨1, 24, false, [(.v (.slice none 0 0))], [], 51, 0, true, false, none, none, false, [], none, none, 0⟩
def ti42 : TI := ⟨1, 8, false, [(.v .nilFunc)], [], 0, 0, false, false, none, none, false, [], none, none, 0⟩
def ti43 : TI := ⟨1, 8, false, [(.v .nilFunc)], [], 0, 0, false, false, none, none, false, [], none, none, 0⟩
def ti44 : TI := ⟨1, 8, false, [(.v .nilFunc)], [], 0, 0, false, false, none, none, false, [], none, none, 0⟩
def ti45 : TI := ⟨1, 8, false, [(.v .nilFunc)], [], 0, 0, false, false, none, none, false, [], none, none, 0⟩
def ti47 : TI := ⟨1, 8, false, [(.v .nilFunc)], [], 0, 0, false, false, none, none, false, [], none, none, 0⟩
def ti48 : TI := ⟨1, 8, false, [(.v .nilFunc)], [], 0, 0, false, false, none, none, false, [], none, none, 0⟩
def ti49 : TI := ⟨1, 8, false, [(.v .nilFunc)], [], 0, 0, false, false, none, none, false, [], none, none, 0⟩
def ti50 : TI := ⟨4, 32, true, [(.v (.int .i64 0)), (.v (.int .i64 0)), (.v (.int .i64 0)), (.v (.bool false))], [(0, (1, false)), (1, (1, false)), (2, (1, false)), (3, (1, false))], 0, 0, false, false, none, none, false, [1, 1, 1, 3], none, none, 0⟩
def ti51 : TI := ⟨4, 32, true, [(.v (.int .i64 0)), (.v (.int .i64 0)), (.v (.int .i64 0)), (.v (.bool false))], [(0, (1, false)), (1, (1, false)), (2, (1, false)), (3, (1, false))], 0, 0, false, false, (some .order), none, false, [1, 1, 1, 3], none, none, 0⟩
def ti52 : TI := ⟨2, 16, true, [(.v (.int .i64 0)), (.v (.int .i64 0))], [(0, (1, false)), (1, (1, false))], 0, 0, false, false, none, none, false, [1, 1], none, none, 0⟩
def ti53 : TI := ⟨2, 16, true, [(.v (.int .i64 0)), (.v (.int .i64 0))], [(0, (1, false)), (1, (1, false))], 0, 0, false, false, (some .range), none, false, [1, 1], none, none, 0⟩
def ti54 : TI := ⟨2, 16, true, [(.v (.int .i64 0)), (.v (.int .i64 0))], [(0, (1, false)), (1, (1, false))], 0, 0, false, false, none, none, false, [1, 1], none, none, 0⟩
def ti55 : TI := ⟨2, 16, true, [(.v (.int .i64 0)), (.v (.int .i64 0))], [(0, (1, false)), (1, (1, false))], 0, 0, false, false, (some .ratio), none, false, [1, 1], none, none, 0⟩
def ti56 : TI := ⟨4, 32, true, [(.v (.int .i64 0)), (.v (.int .i64 0)), (.v (.int .i64 0)), (.v (.int .i64 0))], [], 55, 2, false, true, (some .ratio2), none, false, [], none, none, 0⟩
def ti57 : TI := ⟨12, 104, true, [(.v (.string (ByteArray.mk #[]))), (.v (.int .i64 0)), (.v (.int .i64 0)), (.v (.int .i64 0)), (.v (.int .i64 0)), (.v (.int .i64 0)), (.v (.int .i64 0)), (.v (.int .i64 0)), (.v (.int .i64 0)), (.v (.int .i64 0)), (.v (.int .i64 0)), (.v (.int .i64 0))], [(0, (1, false)), (1, (1, false)), (2, (1, false)), (3, (1, false)), (4, (1, false)), (5, (1, false)), (6, (2, true)), (8, (4, true))], 0, 0, false, false, none, none, false, [], none, none, 0⟩
def ti58 : TI := ⟨12, 104, true, [(.v (.string (ByteArray.mk #[]))), (.v (.int .i64 0)), (.v (.int .i64 0)), (.v (.int .i64 0)), (.v (.int .i64 0)), (.v (.int .i64 0)), (.v (.int .i64 0)), (.v (.int .i64 0)), (.v (.int .i64 0)), (.v (.int .i64 0)), (.v (.int .i64 0)), (.v (.int .i64 0))], [(0, (1, false)), (1, (1, false)), (2, (1, false)), (3, (1, false)), (4, (1, false)), (5, (1, false)), (6, (2, true)), (8, (4, true))], 0, 0, false, false, (some .reach), none, false, [], none, none, 0⟩
def ti59 : TI := ⟨1, 8, false, [(.v .nilFunc)], [], 0, 0, false, false, none, none, false, [], none, none, 0⟩
def ti60 : TI := ⟨1, 8, false, [(.v .nilFunc)], [], 0, 0, false, false, none, none, false, [], none, none, 0⟩
def ti61 : TI := ⟨1, 24, false, [(.v (.slice none 0 0))], [], 3, 0, true, false, (some .ints), none, false, [], none, none, 0⟩
def ti63 : TI := ⟨1, 8, false, [(.v .nilFunc)], [], 0, 0, false, false, none, none, false, [], none, none, 0⟩
def ti64 : TI := ⟨1, 8, false, [(.v .nilFunc)], [], 0, 0, false, false, none, none, false, [], none, none, 0⟩
def ti65 : TI := ⟨1, 8, false, [(.v .nilFunc)], [], 0, 0, false, false, none, none, false, [], none, none, 0⟩
def ti66 : TI := ⟨1, 8, false, [(.v .nilFunc)], [], 0, 0, false, false, none, none, false, [], none, none, 0⟩
def ti67 : TI := ⟨1, 8, false, [(.v .nilFunc)], [], 0, 0, false, false, none, none, false, [], none, none, 0⟩
def ti68 : TI := ⟨1, 8, false, [(.v .nilFunc)], [], 0, 0, false, false, none, none, false, [], none, none, 0⟩
def ti69 : TI := ⟨1, 8, false, [(.v .nilFunc)], [], 0, 0, false, false, none, none, false, [], none, none, 0⟩
def ti70 : TI := ⟨1, 8, false, [(.v .nilFunc)], [], 0, 0, false, false, none, none, false, [], none, none, 0⟩
def ti72 : TI := ⟨1, 8, false, [(.v .nilFunc)], [], 0, 0, false, false, none, none, false, [], none, none, 0⟩
def ti73 : TI := ⟨1, 8, false, [(.v (.map none))], [], 3, 0, false, false, none, none, false, [], (some .int2), (some .int), 0⟩
def ti74 : TI := ⟨4, 40, true, [(.v (.string (ByteArray.mk #[]))), (.v (.int .i64 0)), (.v (.int .i64 0)), (.v (.int .i64 0))], [(0, (1, false)), (1, (1, false)), (2, (1, false)), (3, (1, false))], 0, 0, false, false, none, none, false, [2, 1, 1, 1], none, none, 0⟩
def ti75 : TI := ⟨4, 40, true, [(.v (.string (ByteArray.mk #[]))), (.v (.int .i64 0)), (.v (.int .i64 0)), (.v (.int .i64 0))], [(0, (1, false)), (1, (1, false)), (2, (1, false)), (3, (1, false))], 0, 0, false, false, (some .farm), none, false, [2, 1, 1, 1], none, none, 0⟩
def ti76 : TI := ⟨2, 16, true, [(.v (.int .i64 0)), (.v (.int .i64 0))], [], 3, 2, false, true, (some .int2), none, false, [1, 1], none, none, 0⟩
def ti77 : TI := ⟨1, 8, false, [(.v .nilFunc)], [], 0, 0, false, false, none, none, false, [], none, none, 0⟩
def ti78 : TI := ⟨1, 8, false, [(.v .nilFunc)], [], 0, 0, false, false, none, none, false, [], none, none, 0⟩
def ti79 : TI := ⟨1, 8, false, [(.v .nilFunc)], [], 0, 0, false, false, none, none, false, [], none, none, 0⟩
def ti80 : TI := ⟨1, 8, false, [(.v .nilFunc)], [], 0, 0, false, false, none, none, false, [], none, none, 0⟩
def ti81 : TI := ⟨1, 8, false, [(.v .nilFunc)], [], 0, 0, false, false, none, none, false, [], none, none, 0⟩
def ti82 : TI := ⟨1, 24, false, [(.v (.slice none 0 0))], [], 61, 0, true, false, none, none, false, [], none, none, 0⟩
def ti84 : TI := ⟨1, 8, false, [(.v .nilFunc)], [], 0, 0, false, false, none, none, false, [], none, none, 0⟩
def ti85 : TI := ⟨1, 8, false, [(.v .nilFunc)], [], 0, 0, false, false, none, none, false, [], none, none, 0⟩
def ti86 : TI := ⟨1, 8, false, [(.v .nilFunc)], [], 0, 0, false, false, none, none, false, [], none, none, 0⟩
def ti87 : TI := ⟨1, 8, false, [(.v .nilFunc)], [], 0, 0, false, false, none, none, false, [], none, none, 0⟩
def ti88 : TI := ⟨1, 8, false, [(.v .nilFunc)], [], 0, 0, false, false, none, none, false, [], none, none, 0⟩
def ti90 : TI := ⟨1, 8, false, [(.v .nilFunc)], [], 0, 0, false, false, none, none, false, [], none, none, 0⟩
def ti91 : TI := ⟨1, 8, false, [(.v .nilFunc)], [], 0, 0, false, false, none, none, false, [], none, none, 0⟩
def ti92 : TI := ⟨1, 8, false, [(.v .nilFunc)], [], 0, 0, false, false, none, none, false, [], none, none, 0⟩
def ti93 : TI := ⟨2, 24, true, [(.v (.string (ByteArray.mk #[]))), (.v (.int .i64 0))], [(0, (1, false)), (1, (1, false))], 0, 0, false, false, none, none, false, [2, 1], none, none, 0⟩
def ti94 : TI := ⟨2, 24, true, [(.v (.string (ByteArray.mk #[]))), (.v (.int .i64 0))], [(0, (1, false)), (1, (1, false))], 0, 0, false, false, (some .crop), none, false, [2, 1], none, none, 0⟩
def ti95 : TI := ⟨1, 8, false, [(.v .nilFunc)], [], 0, 0, false, false, none, none, false, [], none, none, 0⟩
def ti96 : TI := ⟨1, 8, false, [(.v .nilFunc)], [], 0, 0, false, false, none, none, false, [], none, none, 0⟩
def ti97 : TI := ⟨1, 8, false, [(.v .nilFunc)], [], 0, 0, false, false, none, none, false, [], none, none, 0⟩
def ti99 : TI := ⟨1, 8, false, [(.v .nilFunc)], [], 0, 0, false, false, none, none, false, [], none, none, 0⟩
def ti100 : TI := ⟨1, 8, false, [(.v .nilFunc)], [], 0, 0, false, false, none, none, false, [], none, none, 0⟩
def ti101 : TI := ⟨1, 8, false, [(.v .nilFunc)], [], 0, 0, false, false, none, none, false, [], none, none, 0⟩
def ti102 : TI := ⟨1, 8, false, [(.v .nilFunc)], [], 0, 0, false, false, none, none, false, [], none, none, 0⟩
def ti103 : TI := ⟨1, 8, false, [(.v .nilFunc)], [], 0, 0, false, false, none, none, false, [], none, none, 0⟩
def ti104 : TI := ⟨1, 8, false, [(.v (.int .u64 0))], [], 0, 0, false, false, none, (some .u64), false, [], none, none, 1⟩
def ti105 : TI := ⟨1, 8, false, [(.v .nilFunc)], [], 0, 0, false, false, none, none, false, [], none, none, 0⟩
def ti106 : TI := ⟨1, 8, false, [(.v .nilFunc)], [], 0, 0, false, false, none, none, false, [], none, none, 0⟩
def ti107 : TI := ⟨1, 8, false, [(.v .nilFunc)], [], 0, 0, false, false, none, none, false, [], none, none, 0⟩
def ti108 : TI := ⟨1, 8, false, [(.v .nilFunc)], [], 0, 0, false, false, none, none, false, [], none, none, 0⟩
def ti109 : TI := ⟨1, 8, false, [(.v .nilFunc)], [], 0, 0, false, false, none, none, false, [], none, none, 0⟩
def ti110 : TI := ⟨1, 8, false, [(.v .nilFunc)], [], 0, 0, false, false, none, none, false, [], none, none, 0⟩
def ti111 : TI := ⟨1, 8, false, [(.v .nilFunc)], [], 0, 0, false, false, none, none, false, [], none, none, 0⟩
def ti112 : TI := ⟨1, 8, false, [(.v .nilFunc)], [], 0, 0, false, false, none, none, false, [], none, none, 0⟩
def ti113 : TI := ⟨1, 8, false, [(.v .nilFunc)], [], 0, 0, false, false, none, none, false, [], none, none, 0⟩
def ti114 : TI := ⟨1, 8, false, [(.v .nilFunc)], [], 0, 0, false, false, none, none, false, [], none, none, 0⟩
def ti115 : TI := ⟨1, 8, false, [(.v .nilFunc)], [], 0, 0, false, false, none, none, false, [], none, none, 0⟩
def ti116 : TI := ⟨1, 8, false, [(.v .nilFunc)], [], 0, 0, false, false, none, none, false, [], none, none, 0⟩
def ti117 : TI := ⟨1, 8, false, [(.v .nilFunc)], [], 0, 0, false, false, none, none, false, [], none, none, 0⟩
def ti118 : TI := ⟨1, 8, false, [(.v .nilFunc)], [], 0, 0, false, false, none, none, false, [], none, none, 0⟩
def ti119 : TI := ⟨1, 8, false, [(.v .nilFunc)], [], 0, 0, false, false, none, none, false, [], none, none, 0⟩
def ti121 : TI := ⟨1, 8, false, [(.v .nilFunc)], [], 0, 0, false, false, none, none, false, [], none, none, 0⟩
def ti122 : TI := ⟨1, 8, false, [(.v .nilFunc)], [], 0, 0, false, false, none, none, false, [], none, none, 0⟩
def ti123 : TI := ⟨1, 8, false, [(.v .nilFunc)], [], 0, 0, false, false, none, none, false, [], none, none, 0⟩
def ti124 : TI := ⟨1, 8, false, [(.v .nilFunc)], [], 0, 0, false, false, none, none, false, [], none, none, 0⟩
def ti125 : TI := ⟨1, 8, false, [(.v .nilFunc)], [], 0, 0, false, false, none, none, false, [], none, none, 0⟩
def ti126 : TI := ⟨1, 8, false, [(.v .nilFunc)], [], 0, 0, false, false, none, none, false, [], none, none, 0⟩
def ti127 : TI := ⟨1, 8, false, [(.v (.int .i64 0))], [], 0, 0, false, false, none, (some .i64), false, [], none, none, 1⟩
def ti129 : TI := ⟨1, 8, false, [(.v .nilFunc)], [], 0, 0, false, false, none, none, false, [], none, none, 0⟩
def ti130 : TI := ⟨1, 8, false, [(.v .nilFunc)], [], 0, 0, false, false, none, none, false, [], none, none, 0⟩
def ti131 : TI := ⟨1, 8, false, [(.v .nilFunc)], [], 0, 0, false, false, none, none, false, [], none, none, 0⟩
def ti132 : TI := ⟨1, 8, false, [(.v .nilFunc)], [], 0, 0, false, false, none, none, false, [], none, none, 0⟩
def ti133 : TI := ⟨1, 8, false, [(.v .nilFunc)], [], 0, 0, false, false, none, none, false, [], none, none, 0⟩
def ti134 : TI := ⟨1, 4, false, [(.v (.int .u32 0))], [], 0, 0, false, false, none, (some .u32), false, [], none, none, 1⟩
def ti135 : TI := ⟨1, 8, false, [(.v .nilFunc)], [], 0, 0, false, false, none, none, false, [], none, none, 0⟩
def ti136 : TI := ⟨1, 8, false, [(.v (.int .u64 0))], [], 0, 0, false, false, none, (some .u64), false, [], none, none, 1⟩
def ti137 : TI := ⟨1, 24, false, [(.v (.slice none 0 0))], [], 106, 0, true, false, none, none, false, [], none, none, 0⟩
def ti138 : TI := ⟨1, 8, false, [(.v .nilFunc)], [], 0, 0, false, false, none, none, false, [], none, none, 0⟩
def ti139 : TI := ⟨1, 8, false, [(.v (.int .i64 0))], [], 0, 0, false, false, (some .int), (some .i64), false, [], none, none, 1⟩
def ti141 : TI := ⟨1, 8, false, [(.v .nilFunc)], [], 0, 0, false, false, none, none, false, [], none, none, 0⟩
def ti142 : TI := ⟨1, 8, false, [(.v .nilFunc)], [], 0, 0, false, false, none, none, false, [], none, none, 0⟩
def ti143 : TI := ⟨10, 88, true, [(.v (.string (ByteArray.mk #[]))), (.v (.int .i64 0)), (.v (.int .i64 0)), (.v (.int .i64 0)), (.v (.int .i64 0)), (.v (.int .i64 0)), (.v (.int .i64 0)), (.v (.int .i64 0)), (.v (.int .i64 0)), (.v (.int .i64 0))], [(0, (1, false)), (1, (1, false)), (2, (1, false)), (3, (1, false)), (4, (1, false)), (5, (1, false)), (6, (1, false)), (7, (1, false)), (8, (1, false)), (9, (1, false))], 0, 0, false, false, none, none, false, [2, 1, 1, 1, 1, 1, 1, 1, 1, 1], none, none, 0⟩
def ti144 : TI := ⟨10, 88, true, [(.v (.string (ByteArray.mk #[]))), (.v (.int .i64 0)), (.v (.int .i64 0)), (.v (.int .i64 0)), (.v (.int .i64 0)), (.v (.int .i64 0)), (.v (.int .i64 0)), (.v (.int .i64 0)), (.v (.int .i64 0)), (.v (.int .i64 0))], [(0, (1, false)), (1, (1, false)), (2, (1, false)), (3, (1, false)), (4, (1, false)), (5, (1, false)), (6, (1, false)), (7, (1, false)), (8, (1, false)), (9, (1, false))], 0, 0, false, false, (some .right), none, false, [2, 1, 1, 1, 1, 1, 1, 1, 1, 1], none, none, 0⟩
def ti145 : TI := ⟨1, 8, false, [(.v .nilFunc)], [], 0, 0, false, false, none, none, false, [], none, none, 0⟩
def ti146 : TI := ⟨4, 40, true, [(.v (.string (ByteArray.mk #[]))), (.v (.int .i64 0)), (.v (.int .i64 0)), (.v (.int .i64 0))], [(0, (1, false)), (1, (1, false)), (2, (1, false)), (3, (1, false))], 0, 0, false, false, none, none, false, [2, 1, 1, 1], none, none, 0⟩
def ti147 : TI := ⟨4, 40, true, [(.v (.string (ByteArray.mk #[]))), (.v (.int .i64 0)), (.v (.int .i64 0)), (.v (.int .i64 0))], [(0, (1, false)), (1, (1, false)), (2, (1, false)), (3, (1, false))], 0, 0, false, false, (some .duty), none, false, [2, 1, 1, 1], none, none, 0⟩
def ti148 : TI := ⟨1, 8, false, [(.v .nilFunc)], [], 0, 0, false, false, none, none, false, [], none, none, 0⟩
def ti149 : TI := ⟨1, 8, false, [(.v .nilFunc)], [], 0, 0, false, false, none, none, false, [], none, none, 0⟩
def ti150 : TI := ⟨1, 8, false, [(.v .nilFunc)], [], 0, 0, false, false, none, none, false, [], none, none, 0⟩
def ti151 : TI := ⟨1, 8, false, [(.v .nilFunc)], [], 0, 0, false, false, none, none, false, [], none, none, 0⟩
def ti152 : TI := ⟨1, 8, false, [(.v .nilFunc)], [], 0, 0, false, false, none, none, false, [], none, none, 0⟩
def ti153 : TI := ⟨1, 8, false, [(.v .nilFunc)], [], 0, 0, false, false, none, none, false, [], none, none, 0⟩
def ti154 : TI := ⟨1, 8, false, [(.v .nilFunc)], [], 0, 0, false, false, none, none, false, [], none, none, 0⟩
def ti155 : TI := ⟨1, 8, false, [(.v .nilFunc)], [], 0, 0, false, false, none, none, false, [], none, none, 0⟩
def ti156 : TI := ⟨1, 8, false, [(.v (.int .u64 0))], [], 0, 0, false, false, none, (some .u64), false, [], none, none, 1⟩
def ti157 : TI := ⟨1, 8, false, [(.v .nilFunc)], [], 0, 0, false, false, none, none, false, [], none, none, 0⟩
def ti158 : TI := ⟨1, 8, false, [(.v .nilFunc)], [], 0, 0, false, false, none, none, false, [], none, none, 0⟩
def ti159 : TI := ⟨1, 8, false, [(.v .nilFunc)], [], 0, 0, false, false, none, none, false, [], none, none, 0⟩
def ti160 : TI := ⟨1, 8, false, [(.v (.pointer none))], [], 0, 0, false, false, none, none, false, [], none, none, 0⟩
def ti161 : TI := ⟨1, 8, false, [(.v .nilFunc)], [], 0, 0, false, false, none, none, false, [], none, none, 0⟩
def ti162 : TI := ⟨1, 8, false, [(.v .nilFunc)], [], 0, 0, false, false, none, none, false, [], none, none, 0⟩
def ti163 : TI := ⟨1, 8, false, [(.v .nilFunc)], [], 0, 0, false, false, none, none, false, [], none, none, 0⟩
def ti164 : TI := ⟨1, 8, false, [(.v (.pointer none))], [], 0, 0, false, false, none, none, false, [], none, none, 0⟩
def ti166 : TI := ⟨1, 8, false, [(.v .nilFunc)], [], 0, 0, false, false, none, none, false, [], none, none, 0⟩
def ti167 : TI := ⟨1, 8, false, [(.v .nilFunc)], [], 0, 0, false, false, none, none, false, [], none, none, 0⟩
def ti168 : TI := ⟨1, 8, false, [(.v .nilFunc)], [], 0, 0, false, false, none, none, false, [], none, none, 0⟩
def ti169 : TI := ⟨1, 8, false, [(.v .nilFunc)], [], 0, 0, false, false, none, none, false, [], none, none, 0⟩
def ti170 : TI := ⟨1, 8, false, [(.v .nilFunc)], [], 0, 0, false, false, none, none, false, [], none, none, 0⟩
def ti171 : TI := ⟨1, 8, false, [(.v .nilFunc)], [], 0, 0, false, false, none, none, false, [], none, none, 0⟩
def ti172 : TI := ⟨4, 40, true, [(.v (.pointer none)), (.v (.pointer none)), (.v (.pointer none)), (.v (.string (ByteArray.mk #[])))], [(0, (1, false)), (1, (1, false)), (2, (1, false)), (3, (1, false))], 0, 0, false, false, none, none, false, [], none, none, 0⟩
def ti173 : TI := ⟨4, 40, true, [(.v (.pointer none)), (.v (.pointer none)), (.v (.pointer none)), (.v (.string (ByteArray.mk #[])))], [(0, (1, false)), (1, (1, false)), (2, (1, false)), (3, (1, false))], 0, 0, false, false, none, none, false, [], none, none, 0⟩
def ti174 : TI := ⟨0, 0, true, [], [], 16, 0, false, true, none, none, false, [], none, none, 0⟩
def ti175 : TI := ⟨0, 0, true, [], [(0, (0, true))], 0, 0, false, false, none, none, false, [], none, none, 0⟩
def ti176 : TI := ⟨0, 0, true, [], [(0, (0, true))], 0, 0, false, false, none, none, false, [], none, none, 0⟩
def ti177 : TI := ⟨1, 8, false, [(.v .nilFunc)], [], 0, 0, false, false, none, none, false, [], none, none, 0⟩
def ti178 : TI := ⟨1, 1, false, [(.v (.int .u8 0))], [], 0, 0, false, false, none, (some .u8), false, [], none, none, 1⟩
def ti179 : TI := ⟨1, 1, false, [(.v (.int .u8 0))], [], 0, 0, false, false, none, (some .u8), false, [], none, none, 1⟩
def ti180 : TI := ⟨1, 8, false, [(.v .nilFunc)], [], 0, 0, false, false, none, none, false, [], none, none, 0⟩
def ti181 : TI := ⟨1, 8, false, [(.v (.pointer none))], [], 0, 0, false, false, none, none, false, [], none, none, 0⟩
def ti182 : TI := ⟨1, 4, false, [(.v (.int .i32 0))], [], 0, 0, false, false, none, (some .i32), false, [], none, none, 1⟩
def ti183 : TI := ⟨1, 4, false, [(.v (.int .i32 0))], [], 0, 0, false, false, none, (some .i32), false, [], none, none, 1⟩
def ti184 : TI := ⟨11, 48, true, [(.v (.int .u64 0)), (.v (.int .u64 0)), (.v (.int .u32 0)), (.v (.int .u8 0)), (.v (.int .u8 0)), (.v (.int .u8 0)), (.v (.int .u8 0)), (.v .nilFunc), (.v (.pointer none)), (.v (.int .i32 0)), (.v (.int .i32 0))], [(0, (1, false)), (1, (1, false)), (2, (1, false)), (3, (1, false)), (4, (1, false)), (5, (1, false)), (6, (1, false)), (7, (1, false)), (8, (1, false)), (9, (1, false)), (10, (1, false))], 0, 0, false, false, none, none, false, [], none, none, 0⟩
def ti185 : TI := ⟨11, 48, true, [(.v (.int .u64 0)), (.v (.int .u64 0)), (.v (.int .u32 0)), (.v (.int .u8 0)), (.v (.int .u8 0)), (.v (.int .u8 0)), (.v (.int .u8 0)), (.v .nilFunc), (.v (.pointer none)), (.v (.int .i32 0)), (.v (.int .i32 0))], [(0, (1, false)), (1, (1, false)), (2, (1, false)), (3, (1, false)), (4, (1, false)), (5, (1, false)), (6, (1, false)), (7, (1, false)), (8, (1, false)), (9, (1, false)), (10, (1, false))], 0, 0, false, false, none, none, false, [], none, none, 0⟩
def ti186 : TI := ⟨4, 48, true, [(.v (.int .i64 0)), (.v (.int .i64 0)), (.v (.int .i64 0)), (.v (.slice none 0 0))], [(0, (1, false)), (1, (1, false)), (2, (1, false)), (3, (1, false))], 0, 0, false, false, none, none, false, [], none, none, 0⟩
def ti187 : TI := ⟨4, 48, true, [(.v (.int .i64 0)), (.v (.int .i64 0)), (.v (.int .i64 0)), (.v (.slice none 0 0))], [(0, (1, false)), (1, (1, false)), (2, (1, false)), (3, (1, false))], 0, 0, false, false, (some .well), none, false, [], none, none, 0⟩
def ti188 : TI := ⟨1, 8, false, [(.v (.pointer none))], [], 0, 0, false, false, none, none, false, [], none, none, 0⟩
def ts : Tis := fun t => (bif Nat.ble t 95 then (bif Nat.ble t 47 then (bif Nat.ble t 21 then (bif Nat.ble t 10 then (bif Nat.ble t 5 then (bif Nat.ble t 2 then (bif Nat.ble t 1 then (bif Nat.beq t 1 then some ti1 else none) else (bif Nat.beq t 2 then some ti2 else none)) else (bif Nat.ble t 3 then (bif Nat.beq t 3 then some ti3 else none) else (bif Nat.ble t 4 then (bif Nat.beq t 4 then some ti4 else none) else (bif Nat.beq t 5 then some ti5 else none)))) else (bif Nat.ble t 7 then (bif Nat.ble t 6 then (bif Nat.beq t 6 then some ti6 else none) else (bif Nat.beq t 7 then some ti7 else none)) else (bif Nat.ble t 8 then (bif Nat.beq t 8 then some ti8 else none) else (bif Nat.ble t 9 then (bif Nat.beq t 9 then some ti9 else none) else (bif Nat.beq t 10 then some ti10 else none))))) else (bif Nat.ble t 15 then (bif Nat.ble t 12 then (bif Nat.ble t 11 then (bif Nat.beq t 11 then some ti11 else none) else (bif Nat.beq t 12 then some ti12 else none)) else (bif Nat.ble t 13 then (bif Nat.beq t 13 then some ti13 else none) else (bif Nat.ble t 14 then (bif Nat.beq t 14 then some ti14 else none) else (bif Nat.beq t 15 then some ti15 else none)))) else (bif Nat.ble t 18 then (bif Nat.ble t 16 then (bif Nat.beq t 16 then some ti16 else none) else (bif Nat.ble t 17 then (bif Nat.beq t 17 then some ti17 else none) else (bif Nat.beq t 18 then some ti18 else none))) else (bif Nat.ble t 19 then (bif Nat.beq t 19 then some ti19 else none) else (bif Nat.ble t 20 then (bif Nat.beq t 20 then some ti20 else none) else (bif Nat.beq t 21 then some ti21 else none)))))) else (bif Nat.ble t 32 then (bif Nat.ble t 26 then (bif Nat.ble t 23 then (bif Nat.ble t 22 then (bif Nat.beq t 22 then some ti22 else none) else (bif Nat.beq t 23 then some ti23 else none)) else (bif Nat.ble t 24 then (bif Nat.beq t 24 then some ti24 else none) else (bif Nat.ble t 25 then (bif Nat.beq t 25 then some ti25 else none) else (bif Nat.beq t 26 then some ti26 else none)))) else (bif Nat.ble t 29 then (bif Nat.ble t 27 then (bif Nat.beq t 27 then some ti27 else none) else (bif Nat.ble t 28 then (bif Nat.beq t 28 then some ti28 else none) else (bif Nat.beq t 29 then some ti29 else none))) else (bif Nat.ble t 30 then (bif Nat.beq t 30 then some ti30 else none) else (bif Nat.ble t 31 then (bif Nat.beq t 31 then some ti31 else none) else (bif Nat.beq t 32 then some ti32 else none))))) else (bif Nat.ble t 39 then (bif Nat.ble t 34 then (bif Nat.ble t 33 then (bif Nat.beq t 33 then some ti33 else none) else (bif Nat.beq t 34 then some ti34 else none)) else (bif Nat.ble t 36 then (bif Nat.beq t 36 then some ti36 else none) else (bif Nat.ble t 38 then (bif Nat.beq t 38 then some ti38 else none) else (bif Nat.beq t 39 then some ti39 else none)))) else (bif Nat.ble t 43 then (bif Nat.ble t 40 then (bif Nat.beq t 40 then some ti40 else none) else (bif Nat.ble t 42 then (bif Nat.beq t 42 then some ti42 else none) else (bif Nat.beq t 43 then some ti43 else none))) else (bif Nat.ble t 44 then (bif Nat.beq t 44 then some ti44 else none) else (bif Nat.ble t 45 then (bif Nat.beq t 45 then some ti45 else none) else (bif Nat.beq t 47 then some ti47 else none))))))) else (bif Nat.ble t 70 then (bif Nat.ble t 58 then (bif Nat.ble t 52 then (bif Nat.ble t 49 then (bif Nat.ble t 48 then (bif Nat.beq t 48 then some ti48 else none) else (bif Nat.beq t 49 then some ti49 else none)) else (bif Nat.ble t 50 then (bif Nat.beq t 50 then some ti50 else none) else (bif Nat.ble t 51 then (bif Nat.beq t 51 then some ti51 else none) else (bif Nat.beq t 52 then some ti52 else none)))) else (bif Nat.ble t 55 then (bif Nat.ble t 53 then (bif Nat.beq t 53 then some ti53 else none) else (bif Nat.ble t 54 then (bif Nat.beq t 54 then some ti54 else none) else (bif Nat.beq t 55 then some ti55 else none))) else (bif Nat.ble t 56 then (bif Nat.beq t 56 then some ti56 else none) else (bif Nat.ble t 57 then (bif Nat.beq t 57 then some ti57 else none) else (bif Nat.beq t 58 then some ti58 else none))))) else (bif Nat.ble t 64 then (bif Nat.ble t 60 then (bif Nat.ble t 59 then (bif Nat.beq t 59 then some ti59 else none) else (bif Nat.beq t 60 then some ti60 else none)) else (bif Nat.ble t 61 then (bif Nat.beq t 61 then some ti61 else none) else (bif Nat.ble t 63 then (bif Nat.beq t 63 then some ti63 else none) else (bif Nat.beq t 64 then some ti64 else none)))) else (bif Nat.ble t 67 then (bif Nat.ble t 65 then (bif Nat.beq t 65 then some ti65 else none) else (bif Nat.ble t 66 then (bif Nat.beq t 66 then some ti66 else none) else (bif Nat.beq t 67 then some ti67 else none))) else (bif Nat.ble t 68 then (bif Nat.beq t 68 then some ti68 else none) else (bif Nat.ble t 69 then (bif Nat.beq t 69 then some ti69 else none) else (bif Nat.beq t 70 then some ti70 else none)))))) else (bif Nat.ble t 82 then (bif Nat.ble t 76 then (bif Nat.ble t 73 then (bif Nat.ble t 72 then (bif Nat.beq t 72 then some ti72 else none) else (bif Nat.beq t 73 then some ti73 else none)) else (bif Nat.ble t 74 then (bif Nat.beq t 74 then some ti74 else none) else (bif Nat.ble t 75 then (bif Nat.beq t 75 then some ti75 else none) else (bif Nat.beq t 76 then some ti76 else none)))) else (bif Nat.ble t 79 then (bif Nat.ble t 77 then (bif Nat.beq t 77 then some ti77 else none) else (bif Nat.ble t 78 then (bif Nat.beq t 78 then some ti78 else none) else (bif Nat.beq t 79 then some ti79 else none))) else (bif Nat.ble t 80 then (bif Nat.beq t 80 then some ti80 else none) else (bif Nat.ble t 81 then (bif Nat.beq t 81 then some ti81 else none) else (bif Nat.beq t 82 then some ti82 else none))))) else (bif Nat.ble t 88 then (bif Nat.ble t 85 then (bif Nat.ble t 84 then (bif Nat.beq t 84 then some ti84 else none) else (bif Nat.beq t 85 then some ti85 else none)) else (bif Nat.ble t 86 then (bif Nat.beq t 86 then some ti86 else none) else (bif Nat.ble t 87 then (bif Nat.beq t 87 then some ti87 else none) else (bif Nat.beq t 88 then some ti88 else none)))) else (bif Nat.ble t 92 then (bif Nat.ble t 90 then (bif Nat.beq t 90 then some ti90 else none) else (bif Nat.ble t 91 then (bif Nat.beq t 91 then some ti91 else none) else (bif Nat.beq t 92 then some ti92 else none))) else (bif Nat.ble t 93 then (bif Nat.beq t 93 then some ti93 else none) else (bif Nat.ble t 94 then (bif Nat.beq t 94 then some ti94 else none) else (bif Nat.beq t 95 then some ti95 else none)))))))) else (bif Nat.ble t 143 then (bif Nat.ble t 118 then (bif Nat.ble t 107 then (bif Nat.ble t 101 then (bif Nat.ble t 97 then (bif Nat.ble t 96 then (bif Nat.beq t 96 then some ti96 else none) else (bif Nat.beq t 97 then some ti97 else none)) else (bif Nat.ble t 99 then (bif Nat.beq t 99 then some ti99 else none) else (bif Nat.ble t 100 then (bif Nat.beq t 100 then some ti100 else none) else (bif Nat.beq t 101 then some ti101 else none)))) else (bif Nat.ble t 104 then (bif Nat.ble t 102 then (bif Nat.beq t 102 then some ti102 else none) else (bif Nat.ble t 103 then (bif Nat.beq t 103 then some ti103 else none) else (bif Nat.beq t 104 then some ti104 else none))) else (bif Nat.ble t 105 then (bif Nat.beq t 105 then some ti105 else none) else (bif Nat.ble t 106 then (bif Nat.beq t 106 then some ti106 else none) else (bif Nat.beq t 107 then some ti107 else none))))) else (bif Nat.ble t 112 then (bif Nat.ble t 109 then (bif Nat.ble t 108 then (bif Nat.beq t 108 then some ti108 else none) else (bif Nat.beq t 109 then some ti109 else none)) else (bif Nat.ble t 110 then (bif Nat.beq t 110 then some ti110 else none) else (bif Nat.ble t 111 then (bif Nat.beq t 111 then some ti111 else none) else (bif Nat.beq t 112 then some ti112 else none)))) else (bif Nat.ble t 115 then (bif Nat.ble t 113 then (bif Nat.beq t 113 then some ti113 else none) else (bif Nat.ble t 114 then (bif Nat.beq t 114 then some ti114 else none) else (bif Nat.beq t 115 then some ti115 else none))) else (bif Nat.ble t 116 then (bif Nat.beq t 116 then some ti116 else none) else (bif Nat.ble t 117 then (bif Nat.beq t 117 then some ti117 else none) else (bif Nat.beq t 118 then some ti118 else none)))))) else (bif Nat.ble t 131 then (bif Nat.ble t 124 then (bif Nat.ble t 121 then (bif Nat.ble t 119 then (bif Nat.beq t 119 then some ti119 else none) else (bif Nat.beq t 121 then some ti121 else none)) else (bif Nat.ble t 122 then (bif Nat.beq t 122 then some ti122 else none) else (bif Nat.ble t 123 then (bif Nat.beq t 123 then some ti123 else none) else (bif Nat.beq t 124 then some ti124 else none)))) else (bif Nat.ble t 127 then (bif Nat.ble t 125 then (bif Nat.beq t 125 then some ti125 else none) else (bif Nat.ble t 126 then (bif Nat.beq t 126 then some ti126 else none) else (bif Nat.beq t 127 then some ti127 else none))) else (bif Nat.ble t 129 then (bif Nat.beq t 129 then some ti129 else none) else (bif Nat.ble t 130 then (bif Nat.beq t 130 then some ti130 else none) else (bif Nat.beq t 131 then some ti131 else none))))) else (bif Nat.ble t 136 then (bif Nat.ble t 133 then (bif Nat.ble t 132 then (bif Nat.beq t 132 then some ti132 else none) else (bif Nat.beq t 133 then some ti133 else none)) else (bif Nat.ble t 134 then (bif Nat.beq t 134 then some ti134 else none) else (bif Nat.ble t 135 then (bif Nat.beq t 135 then some ti135 else none) else (bif Nat.beq t 136 then some ti136 else none)))) else (bif Nat.ble t 139 then (bif Nat.ble t 137 then (bif Nat.beq t 137 then some ti137 else none) else (bif Nat.ble t 138 then (bif Nat.beq t 138 then some ti138 else none) else (bif Nat.beq t 139 then some ti139 else none))) else (bif Nat.ble t 141 then (bif Nat.beq t 141 then some ti141 else none) else (bif Nat.ble t 142 then (bif Nat.beq t 142 then some ti142 else none) else (bif Nat.beq t 143 then some ti143 else none))))))) else (bif Nat.ble t 166 then (bif Nat.ble t 154 then (bif Nat.ble t 148 then (bif Nat.ble t 145 then (bif Nat.ble t 144 then (bif Nat.beq t 144 then some ti144 else none) else (bif Nat.beq t 145 then some ti145 else none)) else (bif Nat.ble t 146 then (bif Nat.beq t 146 then some ti146 else none) else (bif Nat.ble t 147 then (bif Nat.beq t 147 then some ti147 else none) else (bif Nat.beq t 148 then some ti148 else none)))) else (bif Nat.ble t 151 then (bif Nat.ble t 149 then (bif Nat.beq t 149 then some ti149 else none) else (bif Nat.ble t 150 then (bif Nat.beq t 150 then some ti150 else none) else (bif Nat.beq t 151 then some ti151 else none))) else (bif Nat.ble t 152 then (bif Nat.beq t 152 then some ti152 else none) else (bif Nat.ble t 153 then (bif Nat.beq t 153 then some ti153 else none) else (bif Nat.beq t 154 then some ti154 else none))))) else (bif Nat.ble t 159 then (bif Nat.ble t 156 then (bif Nat.ble t 155 then (bif Nat.beq t 155 then some ti155 else none) else (bif Nat.beq t 156 then some ti156 else none)) else (bif Nat.ble t 157 then (bif Nat.beq t 157 then some ti157 else none) else (bif Nat.ble t 158 then (bif Nat.beq t 158 then some ti158 else none) else (bif Nat.beq t 159 then some ti159 else none)))) else (bif Nat.ble t 162 then (bif Nat.ble t 160 then (bif Nat.beq t 160 then some ti160 else none) else (bif Nat.ble t 161 then (bif Nat.beq t 161 then some ti161 else none) else (bif Nat.beq t 162 then some ti162 else none))) else (bif Nat.ble t 163 then (bif Nat.beq t 163 then some ti163 else none) else (bif Nat.ble t 164 then (bif Nat.beq t 164 then some ti164 else none) else (bif Nat.beq t 166 then some ti166 else none)))))) else (bif Nat.ble t 177 then (bif Nat.ble t 171 then (bif Nat.ble t 168 then (bif Nat.ble t 167 then (bif Nat.beq t 167 then some ti167 else none) else (bif Nat.beq t 168 then some ti168 else none)) else (bif Nat.ble t 169 then (bif Nat.beq t 169 then some ti169 else none) else (bif Nat.ble t 170 then (bif Nat.beq t 170 then some ti170 else none) else (bif Nat.beq t 171 then some ti171 else none)))) else (bif Nat.ble t 174 then (bif Nat.ble t 172 then (bif Nat.beq t 172 then some ti172 else none) else (bif Nat.ble t 173 then (bif Nat.beq t 173 then some ti173 else none) else (bif Nat.beq t 174 then some ti174 else none))) else (bif Nat.ble t 175 then (bif Nat.beq t 175 then some ti175 else none) else (bif Nat.ble t 176 then (bif Nat.beq t 176 then some ti176 else none) else (bif Nat.beq t 177 then some ti177 else none))))) else (bif Nat.ble t 182 then (bif Nat.ble t 179 then (bif Nat.ble t 178 then (bif Nat.beq t 178 then some ti178 else none) else (bif Nat.beq t 179 then some ti179 else none)) else (bif Nat.ble t 180 then (bif Nat.beq t 180 then some ti180 else none) else (bif Nat.ble t 181 then (bif Nat.beq t 181 then some ti181 else none) else (bif Nat.beq t 182 then some ti182 else none)))) else (bif Nat.ble t 185 then (bif Nat.ble t 183 then (bif Nat.beq t 183 then some ti183 else none) else (bif Nat.ble t 184 then (bif Nat.beq t 184 then some ti184 else none) else (bif Nat.beq t 185 then some ti185 else none))) else (bif Nat.ble t 186 then (bif Nat.beq t 186 then some ti186 else none) else (bif Nat.ble t 187 then (bif Nat.beq t 187 then some ti187 else none) else (bif Nat.beq t 188 then some ti188 else none)))))))))
theorem ti1_ok : tiOf Tryz.prog 1 = some ti1 := by kernel_rfl
theorem ti2_ok : tiOf Tryz.prog 2 = some ti2 := by kernel_rfl
theorem ti3_ok : tiOf Tryz.prog 3 = some ti3 := by kernel_rfl
theorem ti4_ok : tiOf Tryz.prog 4 = some ti4 := by kernel_rfl
theorem ti5_ok : tiOf Tryz.prog 5 = some ti5 := by kernel_rfl
theorem ti6_ok : tiOf Tryz.prog 6 = some ti6 := by kernel_rfl
theorem ti7_ok : tiOf Tryz.prog 7 = some ti7 := by kernel_rfl
theorem ti8_ok : tiOf Tryz.prog 8 = some ti8 := by kernel_rfl
theorem ti9_ok : tiOf Tryz.prog 9 = some ti9 := by kernel_rfl
theorem ti10_ok : tiOf Tryz.prog 10 = some ti10 := by kernel_rfl
theorem ti11_ok : tiOf Tryz.prog 11 = some ti11 := by kernel_rfl
theorem ti12_ok : tiOf Tryz.prog 12 = some ti12 := by kernel_rfl
theorem ti13_ok : tiOf Tryz.prog 13 = some ti13 := by kernel_rfl
theorem ti14_ok : tiOf Tryz.prog 14 = some ti14 := by kernel_rfl
theorem ti15_ok : tiOf Tryz.prog 15 = some ti15 := by kernel_rfl
theorem ti16_ok : tiOf Tryz.prog 16 = some ti16 := by kernel_rfl
theorem ti17_ok : tiOf Tryz.prog 17 = some ti17 := by kernel_rfl
theorem ti18_ok : tiOf Tryz.prog 18 = some ti18 := by kernel_rfl
theorem ti19_ok : tiOf Tryz.prog 19 = some ti19 := by kernel_rfl
theorem ti20_ok : tiOf Tryz.prog 20 = some ti20 := by kernel_rfl
theorem ti21_ok : tiOf Tryz.prog 21 = some ti21 := by kernel_rfl
theorem ti22_ok : tiOf Tryz.prog 22 = some ti22 := by kernel_rfl
theorem ti23_ok : tiOf Tryz.prog 23 = some ti23 := by kernel_rfl
theorem ti24_ok : tiOf Tryz.prog 24 = some ti24 := by kernel_rfl
theorem ti25_ok : tiOf Tryz.prog 25 = some ti25 := by kernel_rfl
theorem ti26_ok : tiOf Tryz.prog 26 = some ti26 := by kernel_rfl
theorem ti27_ok : tiOf Tryz.prog 27 = some ti27 := by kernel_rfl
theorem ti28_ok : tiOf Tryz.prog 28 = some ti28 := by kernel_rfl
theorem ti29_ok : tiOf Tryz.prog 29 = some ti29 := by kernel_rfl
theorem ti30_ok : tiOf Tryz.prog 30 = some ti30 := by kernel_rfl
theorem ti31_ok : tiOf Tryz.prog 31 = some ti31 := by kernel_rfl
theorem ti32_ok : tiOf Tryz.prog 32 = some ti32 := by kernel_rfl
theorem ti33_ok : tiOf Tryz.prog 33 = some ti33 := by kernel_rfl
theorem ti34_ok : tiOf Tryz.prog 34 = some ti34 := by kernel_rfl
theorem ti36_ok : tiOf Tryz.prog 36 = some ti36 := by kernel_rfl
theorem ti38_ok : tiOf Tryz.prog 38 = some ti38 := by kernel_rfl
theorem ti39_ok : tiOf Tryz.prog 39 = some ti39 := by kernel_rfl
theorem ti40_ok : tiOf Tryz.prog 40 = some ti40 := by kernel_rfl
theorem ti42_ok : tiOf Tryz.prog 42 = some ti42 := by kernel_rfl
theorem ti43_ok : tiOf Tryz.prog 43 = some ti43 := by kernel_rfl
theorem ti44_ok : tiOf Tryz.prog 44 = some ti44 := by kernel_rfl
theorem ti45_ok : tiOf Tryz.prog 45 = some ti45 := by kernel_rfl
theorem ti47_ok : tiOf Tryz.prog 47 = some ti47 := by kernel_rfl
theorem ti48_ok : tiOf Tryz.prog 48 = some ti48 := by kernel_rfl
theorem ti49_ok : tiOf Tryz.prog 49 = some ti49 := by kernel_rfl
theorem ti50_ok : tiOf Tryz.prog 50 = some ti50 := by kernel_rfl
theorem ti51_ok : tiOf Tryz.prog 51 = some ti51 := by kernel_rfl
theorem ti52_ok : tiOf Tryz.prog 52 = some ti52 := by kernel_rfl
theorem ti53_ok : tiOf Tryz.prog 53 = some ti53 := by kernel_rfl
theorem ti54_ok : tiOf Tryz.prog 54 = some ti54 := by kernel_rfl
theorem ti55_ok : tiOf Tryz.prog 55 = some ti55 := by kernel_rfl
theorem ti56_ok : tiOf Tryz.prog 56 = some ti56 := by kernel_rfl
theorem ti57_ok : tiOf Tryz.prog 57 = some ti57 := by kernel_rfl
theorem ti58_ok : tiOf Tryz.prog 58 = some ti58 := by kernel_rfl
theorem ti59_ok : tiOf Tryz.prog 59 = some ti59 := by kernel_rfl
theorem ti60_ok : tiOf Tryz.prog 60 = some ti60 := by kernel_rfl
theorem ti61_ok : tiOf Tryz.prog 61 = some ti61 := by kernel_rfl
theorem ti63_ok : tiOf Tryz.prog 63 = some ti63 := by kernel_rfl
theorem ti64_ok : tiOf Tryz.prog 64 = some ti64 := by kernel_rfl
theorem ti65_ok : tiOf Tryz.prog 65 = some ti65 := by kernel_rfl
theorem ti66_ok : tiOf Tryz.prog 66 = some ti66 := by kernel_rfl
theorem ti67_ok : tiOf Tryz.prog 67 = some ti67 := by kernel_rfl
theorem ti68_ok : tiOf Tryz.prog 68 = some ti68 := by kernel_rfl
theorem ti69_ok : tiOf Tryz.prog 69 = some ti69 := by kernel_rfl
theorem ti70_ok : tiOf Tryz.prog 70 = some ti70 := by kernel_rfl
theorem ti72_ok : tiOf Tryz.prog 72 = some ti72 := by kernel_rfl
theorem ti73_ok : tiOf Tryz.prog 73 = some ti73 := by kernel_rfl
theorem ti74_ok : tiOf Tryz.prog 74 = some ti74 := by kernel_rfl
theorem ti75_ok : tiOf Tryz.prog 75 = some ti75 := by kernel_rfl
theorem ti76_ok : tiOf Tryz.prog 76 = some ti76 := by kernel_rfl
theorem ti77_ok : tiOf Tryz.prog 77 = some ti77 := by kernel_rfl
theorem ti78_ok : tiOf Tryz.prog 78 = some ti78 := by kernel_rfl
theorem ti79_ok : tiOf Tryz.prog 79 = some ti79 := by kernel_rfl
theorem ti80_ok : tiOf Tryz.prog 80 = some ti80 := by kernel_rfl
theorem ti81_ok : tiOf Tryz.prog 81 = some ti81 := by kernel_rfl
theorem ti82_ok : tiOf Tryz.prog 82 = some ti82 := by kernel_rfl
theorem ti84_ok : tiOf Tryz.prog 84 = some ti84 := by kernel_rfl
theorem ti85_ok : tiOf Tryz.prog 85 = some ti85 := by kernel_rfl
theorem ti86_ok : tiOf Tryz.prog 86 = some ti86 := by kernel_rfl
theorem ti87_ok : tiOf Tryz.prog 87 = some ti87 := by kernel_rfl
theorem ti88_ok : tiOf Tryz.prog 88 = some ti88 := by kernel_rfl
theorem ti90_ok : tiOf Tryz.prog 90 = some ti90 := by kernel_rfl
theorem ti91_ok : tiOf Tryz.prog 91 = some ti91 := by kernel_rfl
theorem ti92_ok : tiOf Tryz.prog 92 = some ti92 := by kernel_rfl
theorem ti93_ok : tiOf Tryz.prog 93 = some ti93 := by kernel_rfl
theorem ti94_ok : tiOf Tryz.prog 94 = some ti94 := by kernel_rfl
theorem ti95_ok : tiOf Tryz.prog 95 = some ti95 := by kernel_rfl
theorem ti96_ok : tiOf Tryz.prog 96 = some ti96 := by kernel_rfl
theorem ti97_ok : tiOf Tryz.prog 97 = some ti97 := by kernel_rfl
theorem ti99_ok : tiOf Tryz.prog 99 = some ti99 := by kernel_rfl
theorem ti100_ok : tiOf Tryz.prog 100 = some ti100 := by kernel_rfl
theorem ti101_ok : tiOf Tryz.prog 101 = some ti101 := by kernel_rfl
theorem ti102_ok : tiOf Tryz.prog 102 = some ti102 := by kernel_rfl
theorem ti103_ok : tiOf Tryz.prog 103 = some ti103 := by kernel_rfl
theorem ti104_ok : tiOf Tryz.prog 104 = some ti104 := by kernel_rfl
theorem ti105_ok : tiOf Tryz.prog 105 = some ti105 := by kernel_rfl
theorem ti106_ok : tiOf Tryz.prog 106 = some ti106 := by kernel_rfl
theorem ti107_ok : tiOf Tryz.prog 107 = some ti107 := by kernel_rfl
theorem ti108_ok : tiOf Tryz.prog 108 = some ti108 := by kernel_rfl
theorem ti109_ok : tiOf Tryz.prog 109 = some ti109 := by kernel_rfl
theorem ti110_ok : tiOf Tryz.prog 110 = some ti110 := by kernel_rfl
theorem ti111_ok : tiOf Tryz.prog 111 = some ti111 := by kernel_rfl
theorem ti112_ok : tiOf Tryz.prog 112 = some ti112 := by kernel_rfl
theorem ti113_ok : tiOf Tryz.prog 113 = some ti113 := by kernel_rfl
theorem ti114_ok : tiOf Tryz.prog 114 = some ti114 := by kernel_rfl
theorem ti115_ok : tiOf Tryz.prog 115 = some ti115 := by kernel_rfl
theorem ti116_ok : tiOf Tryz.prog 116 = some ti116 := by kernel_rfl
theorem ti117_ok : tiOf Tryz.prog 117 = some ti117 := by kernel_rfl
theorem ti118_ok : tiOf Tryz.prog 118 = some ti118 := by kernel_rfl
theorem ti119_ok : tiOf Tryz.prog 119 = some ti119 := by kernel_rfl
theorem ti121_ok : tiOf Tryz.prog 121 = some ti121 := by kernel_rfl
theorem ti122_ok : tiOf Tryz.prog 122 = some ti122 := by kernel_rfl
theorem ti123_ok : tiOf Tryz.prog 123 = some ti123 := by kernel_rfl
theorem ti124_ok : tiOf Tryz.prog 124 = some ti124 := by kernel_rfl
theorem ti125_ok : tiOf Tryz.prog 125 = some ti125 := by kernel_rfl
theorem ti126_ok : tiOf Tryz.prog 126 = some ti126 := by kernel_rfl
theorem ti127_ok : tiOf Tryz.prog 127 = some ti127 := by kernel_rfl
theorem ti129_ok : tiOf Tryz.prog 129 = some ti129 := by kernel_rfl
theorem ti130_ok : tiOf Tryz.prog 130 = some ti130 := by kernel_rfl
theorem ti131_ok : tiOf Tryz.prog 131 = some ti131 := by kernel_rfl
theorem ti132_ok : tiOf Tryz.prog 132 = some ti132 := by kernel_rfl
theorem ti133_ok : tiOf Tryz.prog 133 = some ti133 := by kernel_rfl
theorem ti134_ok : tiOf Tryz.prog 134 = some ti134 := by kernel_rfl
theorem ti135_ok : tiOf Tryz.prog 135 = some ti135 := by kernel_rfl
theorem ti136_ok : tiOf Tryz.prog 136 = some ti136 := by kernel_rfl
theorem ti137_ok : tiOf Tryz.prog 137 = some ti137 := by kernel_rfl
theorem ti138_ok : tiOf Tryz.prog 138 = some ti138 := by kernel_rfl
theorem ti139_ok : tiOf Tryz.prog 139 = some ti139 := by kernel_rfl
theorem ti141_ok : tiOf Tryz.prog 141 = some ti141 := by kernel_rfl
theorem ti142_ok : tiOf Tryz.prog 142 = some ti142 := by kernel_rfl
theorem ti143_ok : tiOf Tryz.prog 143 = some ti143 := by kernel_rfl
theorem ti144_ok : tiOf Tryz.prog 144 = some ti144 := by kernel_rfl
theorem ti145_ok : tiOf Tryz.prog 145 = some ti145 := by kernel_rfl
theorem ti146_ok : tiOf Tryz.prog 146 = some ti146 := by kernel_rfl
theorem ti147_ok : tiOf Tryz.prog 147 = some ti147 := by kernel_rfl
theorem ti148_ok : tiOf Tryz.prog 148 = some ti148 := by kernel_rfl
theorem ti149_ok : tiOf Tryz.prog 149 = some ti149 := by kernel_rfl
theorem ti150_ok : tiOf Tryz.prog 150 = some ti150 := by kernel_rfl
theorem ti151_ok : tiOf Tryz.prog 151 = some ti151 := by kernel_rfl
theorem ti152_ok : tiOf Tryz.prog 152 = some ti152 := by kernel_rfl
theorem ti153_ok : tiOf Tryz.prog 153 = some ti153 := by kernel_rfl
theorem ti154_ok : tiOf Tryz.prog 154 = some ti154 := by kernel_rfl
theorem ti155_ok : tiOf Tryz.prog 155 = some ti155 := by kernel_rfl
theorem ti156_ok : tiOf Tryz.prog 156 = some ti156 := by kernel_rfl
theorem ti157_ok : tiOf Tryz.prog 157 = some ti157 := by kernel_rfl
theorem ti158_ok : tiOf Tryz.prog 158 = some ti158 := by kernel_rfl
theorem ti159_ok : tiOf Tryz.prog 159 = some ti159 := by kernel_rfl
theorem ti160_ok : tiOf Tryz.prog 160 = some ti160 := by kernel_rfl
theorem ti161_ok : tiOf Tryz.prog 161 = some ti161 := by kernel_rfl
theorem ti162_ok : tiOf Tryz.prog 162 = some ti162 := by kernel_rfl
theorem ti163_ok : tiOf Tryz.prog 163 = some ti163 := by kernel_rfl
theorem ti164_ok : tiOf Tryz.prog 164 = some ti164 := by kernel_rfl
theorem ti166_ok : tiOf Tryz.prog 166 = some ti166 := by kernel_rfl
theorem ti167_ok : tiOf Tryz.prog 167 = some ti167 := by kernel_rfl
theorem ti168_ok : tiOf Tryz.prog 168 = some ti168 := by kernel_rfl
theorem ti169_ok : tiOf Tryz.prog 169 = some ti169 := by kernel_rfl
theorem ti170_ok : tiOf Tryz.prog 170 = some ti170 := by kernel_rfl
theorem ti171_ok : tiOf Tryz.prog 171 = some ti171 := by kernel_rfl
theorem ti172_ok : tiOf Tryz.prog 172 = some ti172 := by kernel_rfl
theorem ti173_ok : tiOf Tryz.prog 173 = some ti173 := by kernel_rfl
theorem ti174_ok : tiOf Tryz.prog 174 = some ti174 := by kernel_rfl
theorem ti175_ok : tiOf Tryz.prog 175 = some ti175 := by kernel_rfl
theorem ti176_ok : tiOf Tryz.prog 176 = some ti176 := by kernel_rfl
theorem ti177_ok : tiOf Tryz.prog 177 = some ti177 := by kernel_rfl
theorem ti178_ok : tiOf Tryz.prog 178 = some ti178 := by kernel_rfl
theorem ti179_ok : tiOf Tryz.prog 179 = some ti179 := by kernel_rfl
theorem ti180_ok : tiOf Tryz.prog 180 = some ti180 := by kernel_rfl
theorem ti181_ok : tiOf Tryz.prog 181 = some ti181 := by kernel_rfl
theorem ti182_ok : tiOf Tryz.prog 182 = some ti182 := by kernel_rfl
theorem ti183_ok : tiOf Tryz.prog 183 = some ti183 := by kernel_rfl
theorem ti184_ok : tiOf Tryz.prog 184 = some ti184 := by kernel_rfl
theorem ti185_ok : tiOf Tryz.prog 185 = some ti185 := by kernel_rfl
theorem ti186_ok : tiOf Tryz.prog 186 = some ti186 := by kernel_rfl
theorem ti187_ok : tiOf Tryz.prog 187 = some ti187 := by kernel_rfl
theorem ti188_ok : tiOf Tryz.prog 188 = some ti188 := by kernel_rfl
theorem ts_ok : Tis.ok ts Tryz.prog := (Tis.ok_node (Tis.ok_node (Tis.ok_node (Tis.ok_node (Tis.ok_node (Tis.ok_node (Tis.ok_node (Tis.ok_leaf ti1_ok) (Tis.ok_leaf ti2_ok)) (Tis.ok_node (Tis.ok_leaf ti3_ok) (Tis.ok_node (Tis.ok_leaf ti4_ok) (Tis.ok_leaf ti5_ok)))) (Tis.ok_node (Tis.ok_node (Tis.ok_leaf ti6_ok) (Tis.ok_leaf ti7_ok)) (Tis.ok_node (Tis.ok_leaf ti8_ok) (Tis.ok_node (Tis.ok_leaf ti9_ok) (Tis.ok_leaf ti10_ok))))) (Tis.ok_node (Tis.ok_node (Tis.ok_node (Tis.ok_leaf ti11_ok) (Tis.ok_leaf ti12_ok)) (Tis.ok_node (Tis.ok_leaf ti13_ok) (Tis.ok_node (Tis.ok_leaf ti14_ok) (Tis.ok_leaf ti15_ok)))) (Tis.ok_node (Tis.ok_node (Tis.ok_leaf ti16_ok) (Tis.ok_node (Tis.ok_leaf ti17_ok) (Tis.ok_leaf ti18_ok))) (Tis.ok_node (Tis.ok_leaf ti19_ok) (Tis.ok_node (Tis.ok_leaf ti20_ok) (Tis.ok_leaf ti21_ok)))))) (Tis.ok_node (Tis.ok_node (Tis.ok_node (Tis.ok_node (Tis.ok_leaf ti22_ok) (Tis.ok_leaf ti23_ok)) (Tis.ok_node (Tis.ok_leaf ti24_ok) (Tis.ok_node (Tis.ok_leaf ti25_ok) (Tis.ok_leaf ti26_ok)))) (Tis.ok_node (Tis.ok_node (Tis.ok_leaf ti27_ok) (Tis.ok_node (Tis.ok_leaf ti28_ok) (Tis.ok_leaf ti29_ok))) (Tis.ok_node (Tis.ok_leaf ti30_ok) (Tis.ok_node (Tis.ok_leaf ti31_ok) (Tis.ok_leaf ti32_ok))))) (Tis.ok_node (Tis.ok_node (Tis.ok_node (Tis.ok_leaf ti33_ok) (Tis.ok_leaf ti34_ok)) (Tis.ok_node (Tis.ok_leaf ti36_ok) (Tis.ok_node (Tis.ok_leaf ti38_ok) (Tis.ok_leaf ti39_ok)))) (Tis.ok_node (Tis.ok_node (Tis.ok_leaf ti40_ok) (Tis.ok_node (Tis.ok_leaf ti42_ok) (Tis.ok_leaf ti43_ok))) (Tis.ok_node (Tis.ok_leaf ti44_ok) (Tis.ok_node (Tis.ok_leaf ti45_ok) (Tis.ok_leaf ti47_ok))))))) (Tis.ok_node (Tis.ok_node (Tis.ok_node (Tis.ok_node (Tis.ok_node (Tis.ok_leaf ti48_ok) (Tis.ok_leaf ti49_ok)) (Tis.ok_node (Tis.ok_leaf ti50_ok) (Tis.ok_node (Tis.ok_leaf ti51_ok) (Tis.ok_leaf ti52_ok)))) (Tis.ok_node (Tis.ok_node (Tis.ok_leaf ti53_ok) (Tis.ok_node (Tis.ok_leaf ti54_ok) (Tis.ok_leaf ti55_ok))) (Tis.ok_node (Tis.ok_leaf ti56_ok) (Tis.ok_node (Tis.ok_leaf ti57_ok) (Tis.ok_leaf ti58_ok))))) (Tis.ok_node (Tis.ok_node (Tis.ok_node (Tis.ok_leaf ti59_ok) (Tis.ok_leaf ti60_ok)) (Tis.ok_node (Tis.ok_leaf ti61_ok) (Tis.ok_node (Tis.ok_leaf ti63_ok) (Tis.ok_leaf ti64_ok)))) (Tis.ok_node (Tis.ok_node (Tis.ok_leaf ti65_ok) (Tis.ok_node (Tis.ok_leaf ti66_ok) (Tis.ok_leaf ti67_ok))) (Tis.ok_node (Tis.ok_leaf ti68_ok) (Tis.ok_node (Tis.ok_leaf ti69_ok) (Tis.ok_leaf ti70_ok)))))) (Tis.ok_node (Tis.ok_node (Tis.ok_node (Tis.ok_node (Tis.ok_leaf ti72_ok) (Tis.ok_leaf ti73_ok)) (Tis.ok_node (Tis.ok_leaf ti74_ok) (Tis.ok_node (Tis.ok_leaf ti75_ok) (Tis.ok_leaf ti76_ok)))) (Tis.ok_node (Tis.ok_node (Tis.ok_leaf ti77_ok) (Tis.ok_node (Tis.ok_leaf ti78_ok) (Tis.ok_leaf ti79_ok))) (Tis.ok_node (Tis.ok_leaf ti80_ok) (Tis.ok_node (Tis.ok_leaf ti81_ok) (Tis.ok_leaf ti82_ok))))) (Tis.ok_node (Tis.ok_node (Tis.ok_node (Tis.ok_leaf ti84_ok) (Tis.ok_leaf ti85_ok)) (Tis.ok_node (Tis.ok_leaf ti86_ok) (Tis.ok_node (Tis.ok_leaf ti87_ok) (Tis.ok_leaf ti88_ok)))) (Tis.ok_node (Tis.ok_node (Tis.ok_leaf ti90_ok) (Tis.ok_node (Tis.ok_leaf ti91_ok) (Tis.ok_leaf ti92_ok))) (Tis.ok_node (Tis.ok_leaf ti93_ok) (Tis.ok_node (Tis.ok_leaf ti94_ok) (Tis.ok_leaf ti95_ok)))))))) (Tis.ok_node (Tis.ok_node (Tis.ok_node (Tis.ok_node (Tis.ok_node (Tis.ok_node (Tis.ok_leaf ti96_ok) (Tis.ok_leaf ti97_ok)) (Tis.ok_node (Tis.ok_leaf ti99_ok) (Tis.ok_node (Tis.ok_leaf ti100_ok) (Tis.ok_leaf ti101_ok)))) (Tis.ok_node (Tis.ok_node (Tis.ok_leaf ti102_ok) (Tis.ok_node (Tis.ok_leaf ti103_ok) (Tis.ok_leaf ti104_ok))) (Tis.ok_node (Tis.ok_leaf ti105_ok) (Tis.ok_node (Tis.ok_leaf ti106_ok) (Tis.ok_leaf ti107_ok))))) (Tis.ok_node (Tis.ok_node (Tis.ok_node (Tis.ok_leaf ti108_ok) (Tis.ok_leaf ti109_ok)) (Tis.ok_node (Tis.ok_leaf ti110_ok) (Tis.ok_node (Tis.ok_leaf ti111_ok) (Tis.ok_leaf ti112_ok)))) (Tis.ok_node (Tis.ok_node (Tis.ok_leaf ti113_ok) (Tis.ok_node (Tis.ok_leaf ti114_ok) (Tis.ok_leaf ti115_ok))) (Tis.ok_node (Tis.ok_leaf ti116_ok) (Tis.ok_node (Tis.ok_leaf ti117_ok) (Tis.ok_leaf ti118_ok)))))) (Tis.ok_node (Tis.ok_node (Tis.ok_node (Tis.ok_node (Tis.ok_leaf ti119_ok) (Tis.ok_leaf ti121_ok)) (Tis.ok_node (Tis.ok_leaf ti122_ok) (Tis.ok_node (Tis.ok_leaf ti123_ok) (Tis.ok_leaf ti124_ok)))) (Tis.ok_node (Tis.ok_node (Tis.ok_leaf ti125_ok) (Tis.ok_node (Tis.ok_leaf ti126_ok) (Tis.ok_leaf ti127_ok))) (Tis.ok_node (Tis.ok_leaf ti129_ok) (Tis.ok_node (Tis.ok_leaf ti130_ok) (Tis.ok_leaf ti131_ok))))) (Tis.ok_node (Tis.ok_node (Tis.ok_node (Tis.ok_leaf ti132_ok) (Tis.ok_leaf ti133_ok)) (Tis.ok_node (Tis.ok_leaf ti134_ok) (Tis.ok_node (Tis.ok_leaf ti135_ok) (Tis.ok_leaf ti136_ok)))) (Tis.ok_node (Tis.ok_node (Tis.ok_leaf ti137_ok) (Tis.ok_node (Tis.ok_leaf ti138_ok) (Tis.ok_leaf ti139_ok))) (Tis.ok_node (Tis.ok_leaf ti141_ok) (Tis.ok_node (Tis.ok_leaf ti142_ok) (Tis.ok_leaf ti143_ok))))))) (Tis.ok_node (Tis.ok_node (Tis.ok_node (Tis.ok_node (Tis.ok_node (Tis.ok_leaf ti144_ok) (Tis.ok_leaf ti145_ok)) (Tis.ok_node (Tis.ok_leaf ti146_ok) (Tis.ok_node (Tis.ok_leaf ti147_ok) (Tis.ok_leaf ti148_ok)))) (Tis.ok_node (Tis.ok_node (Tis.ok_leaf ti149_ok) (Tis.ok_node (Tis.ok_leaf ti150_ok) (Tis.ok_leaf ti151_ok))) (Tis.ok_node (Tis.ok_leaf ti152_ok) (Tis.ok_node (Tis.ok_leaf ti153_ok) (Tis.ok_leaf ti154_ok))))) (Tis.ok_node (Tis.ok_node (Tis.ok_node (Tis.ok_leaf ti155_ok) (Tis.ok_leaf ti156_ok)) (Tis.ok_node (Tis.ok_leaf ti157_ok) (Tis.ok_node (Tis.ok_leaf ti158_ok) (Tis.ok_leaf ti159_ok)))) (Tis.ok_node (Tis.ok_node (Tis.ok_leaf ti160_ok) (Tis.ok_node (Tis.ok_leaf ti161_ok) (Tis.ok_leaf ti162_ok))) (Tis.ok_node (Tis.ok_leaf ti163_ok) (Tis.ok_node (Tis.ok_leaf ti164_ok) (Tis.ok_leaf ti166_ok)))))) (Tis.ok_node (Tis.ok_node (Tis.ok_node (Tis.ok_node (Tis.ok_leaf ti167_ok) (Tis.ok_leaf ti168_ok)) (Tis.ok_node (Tis.ok_leaf ti169_ok) (Tis.ok_node (Tis.ok_leaf ti170_ok) (Tis.ok_leaf ti171_ok)))) (Tis.ok_node (Tis.ok_node (Tis.ok_leaf ti172_ok) (Tis.ok_node (Tis.ok_leaf ti173_ok) (Tis.ok_leaf ti174_ok))) (Tis.ok_node (Tis.ok_leaf ti175_ok) (Tis.ok_node (Tis.ok_leaf ti176_ok) (Tis.ok_leaf ti177_ok))))) (Tis.ok_node (Tis.ok_node (Tis.ok_node (Tis.ok_leaf ti178_ok) (Tis.ok_leaf ti179_ok)) (Tis.ok_node (Tis.ok_leaf ti180_ok) (Tis.ok_node (Tis.ok_leaf ti181_ok) (Tis.ok_leaf ti182_ok)))) (Tis.ok_node (Tis.ok_node (Tis.ok_leaf ti183_ok) (Tis.ok_node (Tis.ok_leaf ti184_ok) (Tis.ok_leaf ti185_ok))) (Tis.ok_node (Tis.ok_leaf ti186_ok) (Tis.ok_node (Tis.ok_leaf ti187_ok) (Tis.ok_leaf ti188_ok)))))))))
@[go_sem] theorem ts_1 : ts 1 = some ti1 := (rfl)
@[go_sem] theorem ts_2 : ts 2 = some ti2 := (rfl)
@[go_sem] theorem ts_3 : ts 3 = some ti3 := (rfl)
@[go_sem] theorem ts_4 : ts 4 = some ti4 := (rfl)
@[go_sem] theorem ts_5 : ts 5 = some ti5 := (rfl)
@[go_sem] theorem ts_6 : ts 6 = some ti6 := (rfl)
@[go_sem] theorem ts_7 : ts 7 = some ti7 := (rfl)
@[go_sem] theorem ts_8 : ts 8 = some ti8 := (rfl)
@[go_sem] theorem ts_9 : ts 9 = some ti9 := (rfl)
@[go_sem] theorem ts_10 : ts 10 = some ti10 := (rfl)
@[go_sem] theorem ts_11 : ts 11 = some ti11 := (rfl)
@[go_sem] theorem ts_12 : ts 12 = some ti12 := (rfl)
@[go_sem] theorem ts_13 : ts 13 = some ti13 := (rfl)
@[go_sem] theorem ts_14 : ts 14 = some ti14 := (rfl)
@[go_sem] theorem ts_15 : ts 15 = some ti15 := (rfl)
@[go_sem] theorem ts_16 : ts 16 = some ti16 := (rfl)
@[go_sem] theorem ts_17 : ts 17 = some ti17 := (rfl)
@[go_sem] theorem ts_18 : ts 18 = some ti18 := (rfl)
@[go_sem] theorem ts_19 : ts 19 = some ti19 := (rfl)
@[go_sem] theorem ts_20 : ts 20 = some ti20 := (rfl)
@[go_sem] theorem ts_21 : ts 21 = some ti21 := (rfl)
@[go_sem] theorem ts_22 : ts 22 = some ti22 := (rfl)
@[go_sem] theorem ts_23 : ts 23 = some ti23 := (rfl)
@[go_sem] theorem ts_24 : ts 24 = some ti24 := (rfl)
@[go_sem] theorem ts_25 : ts 25 = some ti25 := (rfl)
@[go_sem] theorem ts_26 : ts 26 = some ti26 := (rfl)
@[go_sem] theorem ts_27 : ts 27 = some ti27 := (rfl)
@[go_sem] theorem ts_28 : ts 28 = some ti28 := (rfl)
@[go_sem] theorem ts_29 : ts 29 = some ti29 := (rfl)
@[go_sem] theorem ts_30 : ts 30 = some ti30 := (rfl)
@[go_sem] theorem ts_31 : ts 31 = some ti31 := (rfl)
@[go_sem] theorem ts_32 : ts 32 = some ti32 := (rfl)
@[go_sem] theorem ts_33 : ts 33 = some ti33 := (rfl)
@[go_sem] theorem ts_34 : ts 34 = some ti34 := (rfl)
@[go_sem] theorem ts_36 : ts 36 = some ti36 := (rfl)
@[go_sem] theorem ts_38 : ts 38 = some ti38 := (rfl)
@[go_sem] theorem ts_39 : ts 39 = some ti39 := (rfl)
@[go_sem] theorem ts_40 : ts 40 = some ti40 := (rfl)
@[go_sem] theorem ts_42 : ts 42 = some ti42 := (rfl)
@[go_sem] theorem ts_43 : ts 43 = some ti43 := (rfl)
@[go_sem] theorem ts_44 : ts 44 = some ti44 := (rfl)
@[go_sem] theorem ts_45 : ts 45 = some ti45 := (rfl)
@[go_sem] theorem ts_47 : ts 47 = some ti47 := (rfl)
@[go_sem] theorem ts_48 : ts 48 = some ti48 := (rfl)
@[go_sem] theorem ts_49 : ts 49 = some ti49 := (rfl)
@[go_sem] theorem ts_50 : ts 50 = some ti50 := (rfl)
@[go_sem] theorem ts_51 : ts 51 = some ti51 := (rfl)
@[go_sem] theorem ts_52 : ts 52 = some ti52 := (rfl)
@[go_sem] theorem ts_53 : ts 53 = some ti53 := (rfl)
@[go_sem] theorem ts_54 : ts 54 = some ti54 := (rfl)
@[go_sem] theorem ts_55 : ts 55 = some ti55 := (rfl)
@[go_sem] theorem ts_56 : ts 56 = some ti56 := (rfl)
@[go_sem] theorem ts_57 : ts 57 = some ti57 := (rfl)
@[go_sem] theorem ts_58 : ts 58 = some ti58 := (rfl)
@[go_sem] theorem ts_59 : ts 59 = some ti59 := (rfl)
@[go_sem] theorem ts_60 : ts 60 = some ti60 := (rfl)
@[go_sem] theorem ts_61 : ts 61 = some ti61 := (rfl)
@[go_sem] theorem ts_63 : ts 63 = some ti63 := (rfl)
@[go_sem] theorem ts_64 : ts 64 = some ti64 := (rfl)
@[go_sem] theorem ts_65 : ts 65 = some ti65 := (rfl)
@[go_sem] theorem ts_66 : ts 66 = some ti66 := (rfl)
@[go_sem] theorem ts_67 : ts 67 = some ti67 := (rfl)
@[go_sem] theorem ts_68 : ts 68 = some ti68 := (rfl)
@[go_sem] theorem ts_69 : ts 69 = some ti69 := (rfl)
@[go_sem] theorem ts_70 : ts 70 = some ti70 := (rfl)
@[go_sem] theorem ts_72 : ts 72 = some ti72 := (rfl)
@[go_sem] theorem ts_73 : ts 73 = some ti73 := (rfl)
@[go_sem] theorem ts_74 : ts 74 = some ti74 := (rfl)
@[go_sem] theorem ts_75 : ts 75 = some ti75 := (rfl)
@[go_sem] theorem ts_76 : ts 76 = some ti76 := (rfl)
@[go_sem] theorem ts_77 : ts 77 = some ti77 := (rfl)
@[go_sem] theorem ts_78 : ts 78 = some ti78 := (rfl)
@[go_sem] theorem ts_79 : ts 79 = some ti79 := (rfl)
@[go_sem] theorem ts_80 : ts 80 = some ti80 := (rfl)
@[go_sem] theorem ts_81 : ts 81 = some ti81 := (rfl)
@[go_sem] theorem ts_82 : ts 82 = some ti82 := (rfl)
@[go_sem] theorem ts_84 : ts 84 = some ti84 := (rfl)
@[go_sem] theorem ts_85 : ts 85 = some ti85 := (rfl)
@[go_sem] theorem ts_86 : ts 86 = some ti86 := (rfl)
@[go_sem] theorem ts_87 : ts 87 = some ti87 := (rfl)
@[go_sem] theorem ts_88 : ts 88 = some ti88 := (rfl)
@[go_sem] theorem ts_90 : ts 90 = some ti90 := (rfl)
@[go_sem] theorem ts_91 : ts 91 = some ti91 := (rfl)
@[go_sem] theorem ts_92 : ts 92 = some ti92 := (rfl)
@[go_sem] theorem ts_93 : ts 93 = some ti93 := (rfl)
@[go_sem] theorem ts_94 : ts 94 = some ti94 := (rfl)
@[go_sem] theorem ts_95 : ts 95 = some ti95 := (rfl)
@[go_sem] theorem ts_96 : ts 96 = some ti96 := (rfl)
@[go_sem] theorem ts_97 : ts 97 = some ti97 := (rfl)
@[go_sem] theorem ts_99 : ts 99 = some ti99 := (rfl)
@[go_sem] theorem ts_100 : ts 100 = some ti100 := (rfl)
@[go_sem] theorem ts_101 : ts 101 = some ti101 := (rfl)
@[go_sem] theorem ts_102 : ts 102 = some ti102 := (rfl)
@[go_sem] theorem ts_103 : ts 103 = some ti103 := (rfl)
@[go_sem] theorem ts_104 : ts 104 = some ti104 := (rfl)
@[go_sem] theorem ts_105 : ts 105 = some ti105 := (rfl)
@[go_sem] theorem ts_106 : ts 106 = some ti106 := (rfl)
@[go_sem] theorem ts_107 : ts 107 = some ti107 := (rfl)
@[go_sem] theorem ts_108 : ts 108 = some ti108 := (rfl)
@[go_sem] theorem ts_109 : ts 109 = some ti109 := (rfl)
@[go_sem] theorem ts_110 : ts 110 = some ti110 := (rfl)
@[go_sem] theorem ts_111 : ts 111 = some ti111 := (rfl)
@[go_sem] theorem ts_112 : ts 112 = some ti112 := (rfl)
@[go_sem] theorem ts_113 : ts 113 = some ti113 := (rfl)
@[go_sem] theorem ts_114 : ts 114 = some ti114 := (rfl)
@[go_sem] theorem ts_115 : ts 115 = some ti115 := (rfl)
@[go_sem] theorem ts_116 : ts 116 = some ti116 := (rfl)
@[go_sem] theorem ts_117 : ts 117 = some ti117 := (rfl)
@[go_sem] theorem ts_118 : ts 118 = some ti118 := (rfl)
@[go_sem] theorem ts_119 : ts 119 = some ti119 := (rfl)
@[go_sem] theorem ts_121 : ts 121 = some ti121 := (rfl)
@[go_sem] theorem ts_122 : ts 122 = some ti122 := (rfl)
@[go_sem] theorem ts_123 : ts 123 = some ti123 := (rfl)
@[go_sem] theorem ts_124 : ts 124 = some ti124 := (rfl)
@[go_sem] theorem ts_125 : ts 125 = some ti125 := (rfl)
@[go_sem] theorem ts_126 : ts 126 = some ti126 := (rfl)
@[go_sem] theorem ts_127 : ts 127 = some ti127 := (rfl)
@[go_sem] theorem ts_129 : ts 129 = some ti129 := (rfl)
@[go_sem] theorem ts_130 : ts 130 = some ti130 := (rfl)
@[go_sem] theorem ts_131 : ts 131 = some ti131 := (rfl)
@[go_sem] theorem ts_132 : ts 132 = some ti132 := (rfl)
@[go_sem] theorem ts_133 : ts 133 = some ti133 := (rfl)
@[go_sem] theorem ts_134 : ts 134 = some ti134 := (rfl)
@[go_sem] theorem ts_135 : ts 135 = some ti135 := (rfl)
@[go_sem] theorem ts_136 : ts 136 = some ti136 := (rfl)
@[go_sem] theorem ts_137 : ts 137 = some ti137 := (rfl)
@[go_sem] theorem ts_138 : ts 138 = some ti138 := (rfl)
@[go_sem] theorem ts_139 : ts 139 = some ti139 := (rfl)
@[go_sem] theorem ts_141 : ts 141 = some ti141 := (rfl)
@[go_sem] theorem ts_142 : ts 142 = some ti142 := (rfl)
@[go_sem] theorem ts_143 : ts 143 = some ti143 := (rfl)
@[go_sem] theorem ts_144 : ts 144 = some ti144 := (rfl)
@[go_sem] theorem ts_145 : ts 145 = some ti145 := (rfl)
@[go_sem] theorem ts_146 : ts 146 = some ti146 := (rfl)
@[go_sem] theorem ts_147 : ts 147 = some ti147 := (rfl)
@[go_sem] theorem ts_148 : ts 148 = some ti148 := (rfl)
@[go_sem] theorem ts_149 : ts 149 = some ti149 := (rfl)
@[go_sem] theorem ts_150 : ts 150 = some ti150 := (rfl)
@[go_sem] theorem ts_151 : ts 151 = some ti151 := (rfl)
@[go_sem] theorem ts_152 : ts 152 = some ti152 := (rfl)
@[go_sem] theorem ts_153 : ts 153 = some ti153 := (rfl)
@[go_sem] theorem ts_154 : ts 154 = some ti154 := (rfl)
@[go_sem] theorem ts_155 : ts 155 = some ti155 := (rfl)
@[go_sem] theorem ts_156 : ts 156 = some ti156 := (rfl)
@[go_sem] theorem ts_157 : ts 157 = some ti157 := (rfl)
@[go_sem] theorem ts_158 : ts 158 = some ti158 := (rfl)
@[go_sem] theorem ts_159 : ts 159 = some ti159 := (rfl)
@[go_sem] theorem ts_160 : ts 160 = some ti160 := (rfl)
@[go_sem] theorem ts_161 : ts 161 = some ti161 := (rfl)
@[go_sem] theorem ts_162 : ts 162 = some ti162 := (rfl)
@[go_sem] theorem ts_163 : ts 163 = some ti163 := (rfl)
@[go_sem] theorem ts_164 : ts 164 = some ti164 := (rfl)
@[go_sem] theorem ts_166 : ts 166 = some ti166 := (rfl)
@[go_sem] theorem ts_167 : ts 167 = some ti167 := (rfl)
@[go_sem] theorem ts_168 : ts 168 = some ti168 := (rfl)
@[go_sem] theorem ts_169 : ts 169 = some ti169 := (rfl)
@[go_sem] theorem ts_170 : ts 170 = some ti170 := (rfl)
@[go_sem] theorem ts_171 : ts 171 = some ti171 := (rfl)
@[go_sem] theorem ts_172 : ts 172 = some ti172 := (rfl)
@[go_sem] theorem ts_173 : ts 173 = some ti173 := (rfl)
@[go_sem] theorem ts_174 : ts 174 = some ti174 := (rfl)
@[go_sem] theorem ts_175 : ts 175 = some ti175 := (rfl)
@[go_sem] theorem ts_176 : ts 176 = some ti176 := (rfl)
@[go_sem] theorem ts_177 : ts 177 = some ti177 := (rfl)
@[go_sem] theorem ts_178 : ts 178 = some ti178 := (rfl)
@[go_sem] theorem ts_179 : ts 179 = some ti179 := (rfl)
@[go_sem] theorem ts_180 : ts 180 = some ti180 := (rfl)
@[go_sem] theorem ts_181 : ts 181 = some ti181 := (rfl)
@[go_sem] theorem ts_182 : ts 182 = some ti182 := (rfl)
@[go_sem] theorem ts_183 : ts 183 = some ti183 := (rfl)
@[go_sem] theorem ts_184 : ts 184 = some ti184 := (rfl)
@[go_sem] theorem ts_185 : ts 185 = some ti185 := (rfl)
@[go_sem] theorem ts_186 : ts 186 = some ti186 := (rfl)
@[go_sem] theorem ts_187 : ts 187 = some ti187 := (rfl)
@[go_sem] theorem ts_188 : ts 188 = some ti188 := (rfl)
attribute [go_sem] ti1 ti2 ti3 ti4 ti5 ti6 ti7 ti8 ti9 ti10 ti11 ti12 ti13 ti14 ti15 ti16 ti17 ti18 ti19 ti20 ti21 ti22 ti23 ti24 ti25 ti26 ti27 ti28 ti29 ti30 ti31 ti32 ti33 ti34 ti36 ti38 ti39 ti40 ti42 ti43 ti44 ti45 ti47 ti48 ti49 ti50 ti51 ti52 ti53 ti54 ti55 ti56 ti57 ti58 ti59 ti60 ti61 ti63 ti64 ti65 ti66 ti67 ti68 ti69 ti70 ti72 ti73 ti74 ti75 ti76 ti77 ti78 ti79 ti80 ti81 ti82 ti84 ti85 ti86 ti87 ti88 ti90 ti91 ti92 ti93 ti94 ti95 ti96 ti97 ti99 ti100 ti101 ti102 ti103 ti104 ti105 ti106 ti107 ti108 ti109 ti110 ti111 ti112 ti113 ti114 ti115 ti116 ti117 ti118 ti119 ti121 ti122 ti123 ti124 ti125 ti126 ti127 ti129 ti130 ti131 ti132 ti133 ti134 ti135 ti136 ti137 ti138 ti139 ti141 ti142 ti143 ti144 ti145 ti146 ti147 ti148 ti149 ti150 ti151 ti152 ti153 ti154 ti155 ti156 ti157 ti158 ti159 ti160 ti161 ti162 ti163 ti164 ti166 ti167 ti168 ti169 ti170 ti171 ti172 ti173 ti174 ti175 ti176 ti177 ti178 ti179 ti180 ti181 ti182 ti183 ti184 ti185 ti186 ti187 ti188
end Go.Sx
end
section
namespace Go.Sx
open Go.Proofs
theorem mixed : Tryz.prog.follows .mixedOrders = true := by kernel_rfl
end Go.Sx
end
section
namespace Go.Sx
open Go.Proofs
set_option maxRecDepth 100000
def C_expand_caught : List SV → Option Con
  | [.v (.iface t (.int .i64 e))] => bif Nat.beq t 139 then some (.det True (.i e)) else none
  | _ => none
theorem ok_expand_caught : FnOk Tryz.prog 65 C_expand_caught := by
  have hG : ConsOk Tryz.prog (mkG [] []) := mkG_ok (by simp) (by simp)
  refine fn_okN [.o] mixed ts_ok hG (fn := Tryz.f65) (c := bodyOf Tryz.f65) (by kernel_rfl) (by kernel_rfl) (by kernel_rfl) (by kernel_rfl) fun l con h hp => ?_
  unfold C_expand_caught at h
  split at h
  · rename_i t e
    cases ht : Nat.beq t 139 with
    | false => rw [ht] at h; cases h
    | true =>
      rw [ht] at h
      cases h
      have ht' := Nat.eq_of_beq_eq_true ht
      subst ht'
      refine ⟨Nat.le_of_ble_eq_true rfl, L0, by unfold bodyOf Tryz.f65; simp only [loopsOk, and_self], ?_⟩
      unfold bodyOf Tryz.f65
      simp only [go_sem, true_imp_iff, false_imp_iff, Nat.reduceBEq, Nat.reduceLeDiff, Nat.reduceAdd, Nat.reduceSub, Nat.reduceMul, true_and, and_true, implies_true, reduceCtorEq]
  · cases h
def RC36 : Value → Option SV
  | .iface t (.int .i64 e) => bif Nat.beq t 139 then some (.i e) else none
  | _ => none
theorem rec36_ok : RecOk Tryz.prog 64 RC36 := by
  obtain ⟨fn, hfn, hbody, hn, hres⟩ : ∃ fn, Tryz.prog.funcs[64]? = some fn ∧ fn.body = some (bodyOf Tryz.f64) ∧ fn.ntmps = 7 ∧ fn.results = #[] := ⟨Tryz.f64, by kernel_rfl, by kernel_rfl, by kernel_rfl, by kernel_rfl⟩
  have hG : ConsOk Tryz.prog (mkG [(65, C_expand_caught)] []) := mkG_ok (by
    intro x hx
    simp only [List.mem_cons, List.not_mem_nil, or_false] at hx
    rcases hx with rfl
    exact ok_expand_caught) (by simp)
  refine ⟨fun args w => by kernel_rfl, fun p w => ?_, ?_⟩
  · refine callsDIn_of_wpSIn hfn hbody trivial fun c₀ cs hu => ?_
    unfold bodyOf Tryz.f64
    refine wpSIn_seq (wpSIn_region ?_)
    simp [wpOpsSIn, go_sem, recoverD, hu, hn, Exit.thenS, Oper.about, Region.wanted]
    refine wpSIn_seq (wpSIn_region ?_)
    simp [wpOpsSIn, go_sem, recoverD, hu, Exit.thenS, Oper.about, Region.wanted]
    refine wpSIn_cond (t := false) (by simp [Act.eval]) ?_
    simp only [Bool.false_eq_true, if_false]
    refine wpSIn_of_wpIn rfl (wpIn_skip ?_)
    cases c₀
    simp_all [bodyPostS, results]
  · intro x s hx F own w h id hd b y hp hob ho hpb
    unfold RC36 at hx
    split at hx
    · rename_i t e
      cases ht : Nat.beq t 139 with
      | false => rw [ht] at hx; cases hx
      | true =>
        rw [ht] at hx
        cases hx
        have ht' := Nat.eq_of_beq_eq_true ht
        subst ht'
        refine callsDIn_of_wpSIn hfn hbody trivial fun c₀ cs hu => ?_
        unfold bodyOf Tryz.f64
        refine wpSIn_seq (wpSIn_region ?_)
        simp [wpOpsSIn, go_sem, recoverD, hu, hn, Exit.thenS, Oper.about, Region.wanted]
        refine wpSIn_seq (wpSIn_region ?_)
        simp [wpOpsSIn, go_sem, recoverD, hu, Exit.thenS, Oper.about, Region.wanted]
        refine wpSIn_cond (t := true) (by simp [Act.eval]) ?_
        simp only [if_true]
        refine wpSIn_of_wpIn rfl ?_
        have hr : StRel F { w := w, own := own } 7 own ⟨[(0, .ptr id 0), (1, .v (.iface 139 (.int .i64 e)))], h⟩ { tmps := #[.pointer (some ⟨b, 0, none⟩), .iface 139 (.int .i64 e), .iface 139 (.int .i64 e), .iface 139 (.int .i64 e), .bool true, undef, undef], defers := [] } w := by
          refine ⟨rfl, Dfr.nil, hp, Fr.refl { w := w, own := own }, fun t => ?_⟩
          rw [lk_put]
          by_cases h0 : 0 = t
          · subst h0; rw [if_pos rfl]; exact .ptr ho hpb
          · rw [if_neg h0, lk_put]
            by_cases h1 : 1 = t
            · subst h1; rw [if_pos rfl]; exact .v _
            · rw [if_neg h1]; exact .any _
        refine wpIn_mono (region_okF (ts := ts) (L := L0) (Q := fun st => st.h = obSet h id (.cells [.i e])) mixed ts_ok hG (by kernel_rfl) ?_ hr) ?_
        · simp only [go_sem, hob, C_expand_caught, Nat.reduceBEq, Nat.reduceLeDiff, Nat.reduceAdd, true_and, and_true, true_imp_iff]
        · rintro ex a' w' ⟨rfl, own1, st1, hst1, hh⟩
          have hd0 : a'.defers = [] := by
            obtain ⟨ms, Ds, q0, q1, q2, q3⟩ := hst1.defers
            cases Ds with
            | nil => rw [q0]; simp at q1; simp [q1]
            | cons D r =>
              obtain ⟨m1, m2, _⟩ := q3 D (by simp)
              have := hp.foreign D m2
              simp only at m1
              omega
          refine ⟨hd0, .panicking [{ v := .iface 139 (.int .i64 e), recovered := true }], ?_, _, by simp [results, hres]; rfl, ⟨_, rfl⟩, rfl, own1, hh ▸ hst1.hp, hst1.fr⟩
          cases c₀
          simp_all
    · cases hx
attribute [go_sem] C_expand_caught
end Go.Sx
end
