/- Part of the proof that the law RoutingPlanSpec returns true and leaves its arguments as they were, for all arguments of bulk at most 1048576 (the Upto form). -/
import Derived.Test.YtfbcohfemignhaaGreatC102
import Derived.Laws.IdiomRangeMap
import Derived.TacticsIn
import Derived.OrdersIn
set_option linter.all false
set_option maxHeartbeats 4000000
section
namespace Go.Sx
open Go.RowKit
def wset (w : World) (b : Nat) (o : Obj) : World := { w with heap := w.heap.setIfInBounds b o }
theorem wset_other {w : World} {b k : Nat} {o : Obj} (h : k ≠ b) : (wset w b o).heap[k]? = w.heap[k]? := by
  simp only [wset, Array.getElem?_setIfInBounds]
  rw [if_neg fun e => h e.symm]
section
variable {P : Program} {F : Nat → Prop} {own : Own} {w : World}
theorem isAggV_agg {z : Value} (h : isAggV z = true) : z = .agg z.cells := by
  cases z <;> first | rfl | simp [isAggV] at h
theorem zero_rel {t : TypeId} {i : TypeInfo} {k : Tag} (h : tagOf P t i = some k) {z : Value} (hz : i.zero = some z) : Rel F own w (svT k (dflt k)) z := by
  obtain ⟨t1, t2, t3, t4⟩ := tag_spec (F := F) (own := own) (w := w) h
  obtain ⟨q1, q2⟩ := t4 z hz
  cases ha : aggTag k with
  | true =>
    rw [svT_agg ha, isAggV_agg (q2.trans ha)]
    exact .agg q1.1 q1.2
  | false =>
    have hc : z.cells = #[z] := by cases z <;> first | rfl | (rw [ha] at q2; simp [isAggV] at q2)
    rw [hc] at q1
    have hl : (cellsOf k (dflt k)).length = 1 := by rw [← q1.1]; rfl
    obtain ⟨s, hs⟩ : ∃ s, cellsOf k (dflt k) = [s] := by
      cases hcc : cellsOf k (dflt k) with
      | nil => rw [hcc] at hl; cases hl
      | cons s r => rw [hcc] at hl; cases r with
        | nil => exact ⟨s, rfl⟩
        | cons _ _ => simp at hl
    rw [svT_one ha hs]
    have := q1.2 0 s (by rw [hs]; rfl)
    simpa using this
theorem flat_one {s : SV} {l : List SV} (h : oneL s = some l) : l = [s] := by
  unfold oneL at h
  split at h
  · cases h
  · cases h
  · rename_i h1 h2
    cases s <;> first | (simp [flat] at h; exact h.symm) | (simp [flat] at h; done) | (exact (h1 _ rfl).elim) | skip
    rename_i x
    cases x <;> first | (simp [flat] at h; exact h.symm) | (simp [flat] at h; done) | (exact (h2 _ rfl).elim)
theorem unT_rel {k : Tag} {s : SV} {v : Value} (hr : Rel F own w s v) {x : k.T} (h : unT k s = some x) : Rel F own w (svT k x) v := by
  unfold unT at h
  cases ha : aggTag k with
  | true =>
    rw [ha] at h
    simp only [cond_true] at h
    rw [svT_agg ha]
    cases hr with
    | agg h0 h1 =>
      simp only [aggL, flatE] at h
      have := elemOf_rel h ⟨h0, h1⟩
      exact .agg this.1 this.2
    | v y =>
      cases v with
      | agg cs =>
        simp only [aggL, flatE] at h
        have := elemOf_rel h (vs := cs) (svs_rel (F := F) (own := own) (w := w) (.agg cs))
        exact .agg this.1 this.2
      | _ => simp [aggL, flatE] at h
    | _ => simp [aggL, flatE] at h
  | false =>
    rw [ha] at h
    simp only [cond_false] at h
    cases hl : oneL s with
    | none => rw [hl] at h; cases h
    | some l =>
      rw [hl] at h
      have := flat_one hl
      subst this
      simp only [flatE] at h
      have hc := elemOf_cells h
      have hlen := elemOf_len h
      have hk : (kindsOf k).length = 1 := by
        have : (kindsOf k).length = sizeOfTag k := by cases k <;> rfl
        rw [this, ← hlen]; rfl
      cases hkk : kindsOf k with
      | nil => rw [hkk] at hk; cases hk
      | cons κ r =>
        rw [hkk] at hc
        simp only [nrmL] at hc
        cases r with
        | nil =>
          rw [svT_one ha hc]
          exact nrm1_rel hr
        | cons _ _ => rw [hkk] at hk; simp at hk
theorem beqT_eq {a : Tag} {o : Option Tag} (h : beqT a o = true) : o = some a := by
  cases o with
  | none => cases h
  | some b => rw [tagN_inj (k := a) (k' := b) h]
theorem map_ti {t : TypeId} {ti : TI} (ht : tiOf P t = some ti) {kk vk : Tag} (hk : ti.mkt = some kk) (hv : ti.mvt = some vk) : ∃ kt e, P.underlying t = some (.map kt e) ∧ keyT P kt = some kk ∧ tagT P e = some vk := by
  obtain ⟨i, d, z, hi, hd, hz, hq, rfl⟩ := tiOf_spec ht
  cases d <;> simp [tiMk] at hk hv
  exact ⟨_, _, hd, hk, hv⟩
theorem mget_with {kk vk : Tag} (l : List (kk.T × vk.T)) (p : Option kk.T) (x : kk.T) : (mget (withPend kk vk l p) x).getD (dflt vk) = (mget l x).getD (dflt vk) := by
  cases p with
  | none => rfl
  | some y =>
    simp only [withPend]
    split
    · rfl
    · rename_i hn
      have : ∀ (l : List (kk.T × vk.T)), mget (l ++ [(y, dflt vk)]) x = match mget l x with | some v => some v | none => if x = y then some (dflt vk) else none := by
        intro l
        induction l with
        | nil => simp [mget]
        | cons a l ih => obtain ⟨a, b⟩ := a; simp only [List.cons_append, mget]; split <;> simp [ih]
      rw [this]
      cases mget l x with
      | some v => rfl
      | none => simp only; split <;> rfl
theorem look_run {t : TypeId} {kt e : TypeId} {kk vk : Tag} (hd : P.underlying t = some (.map kt e)) (hk : keyT P kt = some kk) (hv : tagT P e = some vk) {m vx : Value} {x : kk.T} (hx : Rel F own w (svT kk x) vx) {L : List (kk.T × vk.T)} {es : Array MapEntry}
    (hm : (m = .map none ∧ es = #[]) ∨ ∃ b clock, m = .map (some b) ∧ w.heap[b]? = some (.map es clock)) (hl : es.size = L.length) (hes : ∀ (i : Nat) (p : kk.T × vk.T), L[i]? = some p → ∃ e, es[i]? = some e ∧ Rel F own w (svT kk p.1) e.key ∧ Rel F own w (svT vk p.2) e.val) (ok : Bool) :
    ∃ v, (Instr.lookup t m vx ok).run P w = .ok (if ok then .tuple #[v, .bool (mget L x).isSome] else v) w ∧ Rel F own w (svT vk ((mget L x).getD (dflt vk))) v := by
  obtain ⟨i, hi, htag⟩ := tagT_spec hv
  have hz : ∃ z, i.zero = some z := by
    have := tagOf_fit htag
    simp only [tagFit, Bool.and_eq_true] at this
    cases hz : i.zero with
    | none => rw [hz] at this; simp at this
    | some z => exact ⟨z, rfl⟩
  obtain ⟨z, hz⟩ := hz
  have hck := checkKey_ok hk hx es.isEmpty
  have hfk := findKey_ok hk hx hl (fun i p hp => by obtain ⟨e, e1, e2, _⟩ := hes i p hp; exact ⟨e, e1, e2⟩)
  have hzr := zero_rel (F := F) (own := own) (w := w) htag hz
  have hzv : (zeroValue e).run P w = .ok z w := by simp [zeroValue, typeInfo, hi, hz]
  have hget : ∃ v, ((∃ j, ((midx L x).bind fun i => (es[i]?).map fun e => (i, e.val)) = some (j, v) ∧ (mget L x).isSome = true) ∨ (((midx L x).bind fun i => (es[i]?).map fun e => (i, e.val)) = none ∧ v = z ∧ (mget L x).isSome = false)) ∧ Rel F own w (svT vk ((mget L x).getD (dflt vk))) v := by
    cases hmi : midx L x with
    | none =>
      have := (midx_none hmi).1
      exact ⟨z, .inr ⟨rfl, rfl, by rw [this]; rfl⟩, by rw [this]; exact hzr⟩
    | some i =>
      obtain ⟨y, h1, h2, _, _⟩ := midx_some hmi
      obtain ⟨e, e1, e2, e3⟩ := hes i _ h1
      exact ⟨e.val, .inl ⟨i, by simp [e1], by rw [h2]; rfl⟩, by rw [h2]; exact e3⟩
  obtain ⟨v, h1, h2⟩ := hget
  refine ⟨v, ?_, h2⟩
  rcases hm with ⟨rfl, rfl⟩ | ⟨b, clock, rfl, hb⟩
  · rcases h1 with ⟨j, h1, h3⟩ | ⟨h1, rfl, h3⟩
    · rw [h1] at hfk
      simp only [Instr.lookup, Sem.run_bind, run_underlying hd, Result.andThen_ok, Sem.run_pure, hck, hfk, h3]
    · rw [h1] at hfk
      simp only [Instr.lookup, Sem.run_bind, run_underlying hd, Result.andThen_ok, Sem.run_pure, hck, hfk, h3, hzv]
  · have hg : (getObj b).run P w = .ok (.map es clock) w := by simp [getObj, Sem.run, hb]
    rcases h1 with ⟨j, h1, h3⟩ | ⟨h1, rfl, h3⟩
    · rw [h1] at hfk
      simp only [Instr.lookup, Sem.run_bind, run_underlying hd, Result.andThen_ok, hg, Sem.run_pure, hck, hfk, h3]
    · rw [h1] at hfk
      simp only [Instr.lookup, Sem.run_bind, run_underlying hd, Result.andThen_ok, hg, Sem.run_pure, hck, hfk, h3, hzv]
theorem look_val {kk vk : Tag} {l : List (kk.T × vk.T)} {ok : Bool} {o : Option kk.T} {r : OR} (he : lookR kk vk l ok o = r) (hne : r ≠ .bad) : ∃ x, o = some x ∧ r = .val (bif ok then .tup [svT vk (mgetT kk vk l x), .b (mhasT kk vk l x)] else svT vk (mgetT kk vk l x)) := by
  unfold lookR at he
  split at he
  · rename_i x
    refine ⟨x, rfl, ?_⟩
    cases ok <;> exact he.symm
  · exact absurd he.symm hne
theorem look_rel {vk : Tag} {y : vk.T} {b : Bool} {v : Value} (h : Rel F own w (svT vk y) v) (ok : Bool) : Rel F own w (bif ok then .tup [svT vk y, .b b] else svT vk y) (if ok then .tuple #[v, .bool b] else v) := by
  cases ok with
  | false => exact h
  | true =>
    refine .tup rfl fun j s hj => ?_
    cases j with
    | zero => simp at hj; subst hj; simpa using h
    | succ j =>
      cases j with
      | zero => simp at hj; subst hj; exact .v _
      | succ j => simp at hj
theorem lookS_ok {h : List Ob} (hp : Hp F own w h) {t : TypeId} {ti : TI} (ht : tiOf P t = some ti) {s sk : SV} {v vx : Value} (hr : Rel F own w s v) (hrk : Rel F own w sk vx) {ok : Bool} {r : OR} (he : lookS ti h ok sk s = r) (hne : r ≠ .bad) :
    ∃ s', r = .val s' ∧ ∃ u, (Instr.lookup t v vx ok).run P w = .ok u w ∧ Rel F own w s' u := by
  unfold lookS at he
  split at he
  · rename_i id
    obtain ⟨hdd, h1, rfl, h2⟩ := rel_os hr
    cases ho : obAt h id with
    | mp kk vk l pend =>
      rw [ho] at he
      simp only [lookO] at he
      cases hc : beqT kk ti.mkt && beqT vk ti.mvt && (!ok || noneO pend) with
      | false => rw [hc] at he; exact absurd he.symm hne
      | true =>
        rw [hc] at he; simp only [cond_true] at he
        simp only [Bool.and_eq_true] at hc
        obtain ⟨x, hx, rfl⟩ := look_val he hne
        obtain ⟨kt, e, q1, q2, q3⟩ := map_ti ht (beqT_eq hc.1.1) (beqT_eq hc.1.2)
        obtain ⟨hd', e0, b, es, m1, m2, m3, m4⟩ := hp.at ho rfl
        rw [h1] at e0; cases e0
        obtain ⟨u, k1, k2⟩ := look_run (P := P) q1 q2 q3 (unT_rel hrk hx) (m := hdd.v) (.inr ⟨b, _, m1, m3⟩) m4.1 (fun i p hp => by obtain ⟨e, e1, e2, e3⟩ := m4.2 i p hp; exact ⟨e, e1, e3⟩) ok
        rw [mget_with] at k2
        refine ⟨_, rfl, _, k1, ?_⟩
        have hsome : ok = true → (mget (withPend kk vk l pend) x).isSome = mhasT kk vk l x := fun hok => by
          have := hc.2
          rw [hok] at this
          cases pend with
          | none => rfl
          | some _ => simp [noneO] at this
        have := look_rel (b := mhasT kk vk l x) k2 ok
        cases ok with
        | false => exact this
        | true => rw [hsome rfl]; exact this
    | _ => rw [ho] at he; exact absurd he.symm hne
  · rename_i kk vk l
    cases hc : beqT kk ti.mkt && beqT vk ti.mvt with
    | false => rw [hc] at he; exact absurd he.symm hne
    | true =>
      rw [hc] at he; simp only [cond_true] at he
      simp only [Bool.and_eq_true] at hc
      obtain ⟨x, hx, rfl⟩ := look_val he hne
      obtain ⟨kt, e, q1, q2, q3⟩ := map_ti ht (beqT_eq hc.1) (beqT_eq hc.2)
      cases hr with
      | rm ck cv es clock h0 h1 h2 h3 h4 h5 =>
        rename_i b
        obtain ⟨u, k1, k2⟩ := look_run (P := P) q1 q2 q3 (unT_rel hrk hx) (m := .map (some b)) (.inr ⟨b, _, rfl, h1⟩) h2 (fun i p hp => by obtain ⟨n, e1⟩ := h3 i p hp; exact ⟨_, e1, h4 i p hp, h5 i p hp⟩) ok
        exact ⟨_, rfl, _, k1, look_rel k2 ok⟩
      | rm0 =>
        obtain ⟨u, k1, k2⟩ := look_run (P := P) q1 q2 q3 (unT_rel hrk hx) (m := .map none) (.inl ⟨rfl, rfl⟩) rfl (fun i p hp => by simp at hp) ok (L := [])
        exact ⟨_, rfl, _, k1, look_rel k2 ok⟩
  · have := rel_v hr
    subst this
    unfold lookN at he
    split at he
    · rename_i kk vk hk hv
      obtain ⟨x, hx, rfl⟩ := look_val he hne
      obtain ⟨kt, e, q1, q2, q3⟩ := map_ti ht hk hv
      obtain ⟨u, k1, k2⟩ := look_run (P := P) q1 q2 q3 (unT_rel hrk hx) (m := .map none) (.inl ⟨rfl, rfl⟩) rfl (fun i p hp => by simp at hp) ok (L := [])
      exact ⟨_, rfl, _, k1, look_rel k2 ok⟩
    · exact absurd he.symm hne
  · exact absurd he.symm hne
theorem sameBits_scal {κ : Kd} {s : SV} {v u : Value} (hk : codeK κ ≠ 0) (hf : fit κ s = true) (hv : Rel F own w s v) (hu : Rel F own w s u) (n : Nat) : u = v ∧ Instr.sameBits n v u = true := by
  cases κ with
  | s => have e := fit_s hf; rw [← e] at hv hu; rw [rel_v hv, rel_v hu]; exact ⟨rfl, by cases n <;> simp [Instr.sameBits, ba_beq]⟩
  | b => have e := fit_b hf; rw [← e] at hv hu; rw [rel_v hv, rel_v hu]; exact ⟨rfl, by cases n <;> simp [Instr.sameBits]⟩
  | n k => have e := fit_n hf; rw [← e] at hv hu; rw [rel_v hv, rel_v hu]; exact ⟨rfl, by cases n <;> simp [Instr.sameBits]⟩
  | r k => simp [codeK] at hk
  | m a b => simp [codeK] at hk
theorem fits_get : ∀ {ks : List Kd} {l : List SV} {j : Nat} {s : SV}, fits ks l = true → l[j]? = some s → ∃ κ, κ ∈ ks ∧ fit κ s = true
  | [], l, j, s, h, hj => by have := fits_nil h; subst this; simp at hj
  | k :: ks, l, j, s, h, hj => by
    obtain ⟨x, r, rfl, f1, f2⟩ := fits_cons h
    cases j with
    | zero => simp at hj; subst hj; exact ⟨k, by simp, f1⟩
    | succ j => simp at hj; obtain ⟨κ, h1, h2⟩ := fits_get f2 hj; exact ⟨κ, by simp [h1], h2⟩
theorem sameKey {kt : TypeId} {kk : Tag} (hk : keyT P kt = some kk) {x : kk.T} {v u : Value} (hv : Rel F own w (svT kk x) v) (hu : Rel F own w (svT kk x) u) : (Instr.keyThatStays v u).run P w = .ok u w := by
  obtain ⟨i, d, hi, htag, hd, ha, hcase⟩ := keyT_spec hk
  have : Instr.sameBits 10000 v u = true := by
    rcases hcase with ⟨h1, h2, h3⟩ | ⟨h1, h2, h3⟩
    · rw [h1] at ha
      rw [svT_agg ha.symm] at hv hu
      obtain ⟨xs, rfl, hxs⟩ := rel_agg hv
      obtain ⟨ys, rfl, hys⟩ := rel_agg hu
      have hsz : xs.size = ys.size := hxs.1.trans hys.1.symm
      have key : ∀ (j : Nat), j < xs.size → ys.getD j undef = xs.getD j undef ∧ Instr.sameBits 9999 (xs.getD j undef) (ys.getD j undef) = true := fun j hj => by
        have hjc : j < (cellsOf kk x).length := by rw [← hxs.1]; exact hj
        obtain ⟨κ, q1, q2⟩ := fits_get (fits_cells kk x) (List.getElem?_eq_getElem hjc)
        have hc : codeK κ ≠ 0 := by
          have : codeK κ ∈ (kindsOf kk).map codeK := List.mem_map.2 ⟨κ, q1, rfl⟩
          rw [h2] at this
          exact eqFlat_pos _ this
        exact sameBits_scal hc q2 (hxs.2 j _ (List.getElem?_eq_getElem hjc)) (hys.2 j _ (List.getElem?_eq_getElem hjc)) 9999
      simp only [Instr.sameBits, Bool.and_eq_true, beq_iff_eq, hsz, true_and, List.all_eq_true]
      rintro ⟨a, b⟩ hm
      obtain ⟨j, hj⟩ := List.getElem?_of_mem hm
      rw [List.getElem?_zip_eq_some] at hj
      obtain ⟨j1, j2⟩ := hj
      have hjl : j < xs.size := by have := (List.getElem?_eq_some_iff.1 j1).1; simpa using this
      have := (key j hjl).2
      simp only [Array.getElem?_toList] at j1 j2
      simpa [Array.getD_eq_getD_getElem?, j1, j2] using this
    · rw [h1] at ha
      obtain ⟨κ, s, k1, k2, k3, k4⟩ := codes_one h2 x
      rw [svT_one ha.symm k3] at hv hu
      exact (sameBits_scal (by rw [k2]; exact h3) k4 hv hu 10000).2
  simp [Instr.keyThatStays, this]
theorem MpAt.upd {own' : Own} {w' : World} (g : Goes F own w own' w') {kk vk : Tag} {l : List (kk.T × vk.T)} {es : Array MapEntry} (h : MpAt F own w kk vk l es) {i : Nat} {x : kk.T} {y : vk.T} {vx vy : Value} (hx : Rel F own w (svT kk x) vx) (hy : Rel F own w (svT vk y) vy) (hi : i < l.length) :
    MpAt F own' w' kk vk (l.set i (x, y)) (es.modify i fun e => { e with key := vx, val := vy }) := by
  refine ⟨by simp [h.1], fun j p hp => ?_⟩
  rw [List.getElem?_set] at hp
  by_cases hij : i = j
  · subst hij
    rw [if_pos rfl, if_pos hi] at hp
    simp only [Option.some.injEq] at hp
    subst hp
    obtain ⟨e, e1, e2, _⟩ := h.2 i _ (List.getElem?_eq_getElem hi)
    exact ⟨{ e with key := vx, val := vy }, by simp [Array.getElem?_modify, e1], e2, hx.mono g, hy.mono g⟩
  · rw [if_neg hij] at hp
    obtain ⟨e, e1, e2, e3, e4⟩ := h.2 j p hp
    exact ⟨e, by simp [Array.getElem?_modify, hij, e1], e2, e3.mono g, e4.mono g⟩
theorem MpAt.push {own' : Own} {w' : World} (g : Goes F own w own' w') {kk vk : Tag} {l : List (kk.T × vk.T)} {es : Array MapEntry} (h : MpAt F own w kk vk l es) {x : kk.T} {y : vk.T} {vx vy : Value} (hx : Rel F own w (svT kk x) vx) (hy : Rel F own w (svT vk y) vy) :
    MpAt F own' w' kk vk (l ++ [(x, y)]) (es.push ⟨vx, vy, es.size⟩) := by
  refine ⟨by simp [h.1], fun j p hp => ?_⟩
  rw [List.getElem?_append] at hp
  split at hp
  · rename_i hlt
    obtain ⟨e, e1, e2, e3, e4⟩ := h.2 j p hp
    exact ⟨e, by rw [Array.getElem?_push_lt (by rw [h.1]; exact hlt)]; simpa [h.1, hlt] using e1, e2, e3.mono g, e4.mono g⟩
  · rename_i hlt
    have hj : j = l.length := by
      have := (List.getElem?_eq_some_iff.1 hp).1
      simp at this; omega
    subst hj
    simp at hp
    subst hp
    exact ⟨⟨vx, vy, es.size⟩, by rw [← h.1]; simp, by simp [h.1], hx.mono g, hy.mono g⟩
theorem step_map {h : List Ob} (hp : Hp F own w h) {id : Nat} {hd : Hd} (h1 : own id = some hd) {b : Nat} (hb : hd.bs = [b]) (hv : hd.v = .map (some b)) {es : Array MapEntry} {c : Nat} (hh : w.heap[b]? = some (.map es c)) (es' : Array MapEntry) {kk vk : Tag} {l' : List (kk.T × vk.T)} {p' : Option kk.T}
    (hm : ∀ own' w', Goes F own w own' w' → MpAt F own' w' kk vk (withPend kk vk l' p') es') : Step F own w (obSet h id (.mp kk vk l' p')) own (wset w b (.map es' es'.size)) := by
  refine step_write hp h1 (b := b) (by simp [hb]) (by simp [wset]) (fun k hk => wset_other hk) rfl rfl rfl _ fun g => ⟨b, es', hv, hb, ?_, hm _ _ g⟩
  have := heap_lt hh
  simp [wset, this]
theorem updS_ok {h : List Ob} (hp : Hp F own w h) {t : TypeId} {ti : TI} (ht : tiOf P t = some ti) {s sk sv : SV} {v vx vy : Value} (hr : Rel F own w s v) (hrk : Rel F own w sk vx) (hrv : Rel F own w sv vy) {r : OR} (he : updS ti h sk sv s = r) (hne : r ≠ .bad) :
    ∃ ups, r = .eff True True ups .any ∧ ∃ w', (Instr.mapUpdate t v vx vy).run P w = .ok () w' ∧ Step F own w (obSets h ups) own w' := by
  unfold updS at he
  split at he
  · rename_i id
    obtain ⟨hdd, h1, rfl, h2⟩ := rel_os hr
    cases ho : obAt h id with
    | mp kk vk l pend =>
      rw [ho] at he
      cases pend with
      | some _ => exact absurd he.symm hne
      | none =>
      simp only [updO] at he
      cases hc : beqT kk ti.mkt && beqT vk ti.mvt with
      | false => rw [hc] at he; exact absurd he.symm hne
      | true =>
        rw [hc] at he; simp only [cond_true] at he
        simp only [Bool.and_eq_true] at hc
        unfold updR at he
        split at he
        · rename_i x y hx hy
          subst he
          obtain ⟨kt, e, q1, q2, q3⟩ := map_ti ht (beqT_eq hc.1) (beqT_eq hc.2)
          obtain ⟨hd', e0, b, es, m1, m2, m3, m4⟩ := hp.at ho rfl
          rw [h1] at e0; cases e0
          have rx := unT_rel hrk hx
          have ry := unT_rel hrv hy
          have hg : (getObj b).run P w = .ok (.map es es.size) w := by simp [getObj, Sem.run, m3]
          have hset : ∀ o, (setObj b o).run P w = .ok () (wset w b o) := fun o => by simp [setObj, Sem.run, m3, wset]
          have hck := checkKey_ok q2 rx false
          have hfk := findKey_ok q2 rx m4.1 (fun i p hp => by obtain ⟨e, e1, e2, e3, _⟩ := m4.2 i p hp; exact ⟨e, e1, e3⟩)
          refine ⟨_, rfl, ?_⟩
          simp only [obSets]
          cases hmi : midx l x with
          | none =>
            obtain ⟨_, n2, _⟩ := midx_none hmi
            have := step_map hp h1 m2 m1 m3 (es.push ⟨vx, vy, es.size⟩) (l' := mupdT kk vk l x y) (p' := none) (fun own' w' g => by
              simp only [withPend, mupdT, n2]
              exact MpAt.push g m4 rx ry)
            refine ⟨_, ?_, this⟩
            simp only [withPend] at hfk
            rw [hmi] at hfk
            simp only [m1, Instr.mapUpdate, Sem.run_bind, run_underlying q1, Result.andThen_ok, hg, hck, hfk, Option.bind_none, hset]
            simp
          | some i =>
            obtain ⟨y', n1, n2, n3, _⟩ := midx_some hmi
            obtain ⟨e', k1, k2, k3, k4⟩ := m4.2 i _ n1
            have := step_map hp h1 m2 m1 m3 (es.modify i fun e => { e with key := vx, val := vy }) (l' := mupdT kk vk l x y) (p' := none) (fun own' w' g => by
              simp only [withPend, mupdT, n3]
              exact MpAt.upd g m4 rx ry (List.getElem?_eq_some_iff.1 n1).1)
            refine ⟨_, ?_, this⟩
            simp only [withPend] at hfk
            rw [hmi] at hfk
            have hst := sameKey q2 k3 rx
            simp only [m1, Instr.mapUpdate, Sem.run_bind, run_underlying q1, Result.andThen_ok, hg, hck, hfk, Option.bind_some, k1, Option.map_some, Option.getD_some, hst, hset]
            simp
        · exact absurd he.symm hne
    | _ => rw [ho] at he; exact absurd he.symm hne
  · exact absurd he.symm hne
theorem entS_ok {h : List Ob} (hp : Hp F own w h) {t : TypeId} {ti : TI} (ht : tiOf P t = some ti) {s sk : SV} {v vx : Value} (hr : Rel F own w s v) (hrk : Rel F own w sk vx) {r : OR} (he : entS ti h sk s = r) (hne : r ≠ .bad) :
    EffOk F own w h ((Instr.mapEntry t v vx).run P w) r ∧ (∃ id kk vk l x s', r = .eff True True [(id, .mp kk vk l (some x))] s' ∧ obAt h id = .mp kk vk l none) := by
  unfold entS at he
  split at he
  · rename_i id
    obtain ⟨hdd, h1, rfl, h2⟩ := rel_os hr
    cases ho : obAt h id with
    | mp kk vk l pend =>
      rw [ho] at he
      cases pend with
      | some _ => exact absurd he.symm hne
      | none =>
      simp only [entO] at he
      cases hc : beqT kk ti.mkt && beqT vk ti.mvt with
      | false => rw [hc] at he; exact absurd he.symm hne
      | true =>
        rw [hc] at he; simp only [cond_true] at he
        simp only [Bool.and_eq_true] at hc
        unfold entR at he
        split at he
        · rename_i x hx
          subst he
          obtain ⟨kt, e, q1, q2, q3⟩ := map_ti ht (beqT_eq hc.1) (beqT_eq hc.2)
          obtain ⟨hd', e0, b, es, m1, m2, m3, m4⟩ := hp.at ho rfl
          rw [h1] at e0; cases e0
          have rx := unT_rel hrk hx
          obtain ⟨i, hi, htag⟩ := tagT_spec q3
          have hz : ∃ z, i.zero = some z := by
            have := tagOf_fit htag
            simp only [tagFit, Bool.and_eq_true] at this
            cases hz : i.zero with
            | none => rw [hz] at this; simp at this
            | some z => exact ⟨z, rfl⟩
          obtain ⟨z, hz⟩ := hz
          have hzr := zero_rel (F := F) (own := own) (w := w) htag hz
          have hzv : (zeroValue e).run P w = .ok z w := by simp [zeroValue, typeInfo, hi, hz]
          have hg : (getObj b).run P w = .ok (.map es es.size) w := by simp [getObj, Sem.run, m3]
          have hset : ∀ o, (setObj b o).run P w = .ok () (wset w b o) := fun o => by simp [setObj, Sem.run, m3, wset]
          have hck := checkKey_ok q2 rx false
          have hfk := findKey_ok q2 rx m4.1 (fun i p hp => by obtain ⟨e, e1, e2, e3, _⟩ := m4.2 i p hp; exact ⟨e, e1, e3⟩)
          simp only [withPend] at hfk
          refine ⟨⟨_, _, _, _, rfl, fun _ => ⟨trivial, ?_⟩⟩, ⟨_, _, _, _, _, _, rfl, by rw [ho]⟩⟩
          simp only [obSets]
          cases hmi : midx l x with
          | none =>
            obtain ⟨n1, n2, n3⟩ := midx_none hmi
            have := step_map hp h1 m2 m1 m3 (es.push ⟨vx, z, es.size⟩) (l' := l) (p' := some x) (fun own' w' g => by
              simp only [withPend, n1, Option.isSome_none, Bool.false_eq_true, if_false]
              exact MpAt.push g m4 rx hzr)
            refine ⟨.tuple #[z, .int .i64 es.size], _, _, ?_, ?_, this⟩
            · rw [hmi] at hfk
              simp only [m1, Instr.mapEntry, Sem.run_bind, run_underlying q1, Result.andThen_ok, hg, hck, hfk, Option.bind_none, hzv, hset]
              simp [goInt]
            · refine .tup rfl fun j s hj => ?_
              cases j with
              | zero => simp at hj; subst hj; have := hzr.mono this.fr.goes; simpa [mgetT, n1] using this
              | succ j =>
                cases j with
                | zero =>
                  simp at hj; subst hj
                  have : es.size = mposT kk vk l x := by rw [m4.1]; simp [withPend, mposT, n3]
                  simp only [this]
                  exact .v _
                | succ j => simp at hj
          | some i =>
            obtain ⟨y', n1, n2, n3, n4⟩ := midx_some hmi
            obtain ⟨e', k1, k2, k3, k4⟩ := m4.2 i _ n1
            have hes' : (es.modify i fun e => { e with key := vx }) = es.modify i fun e => { e with key := vx, val := e'.val } := by
              apply Array.ext
              · simp
              · intro j h1 h2
                simp only [Array.getElem_modify]
                split
                · rename_i hij
                  subst hij
                  have hle : i < es.size := by simpa using h1
                  have : es[i] = e' := by rw [Array.getElem?_eq_getElem hle] at k1; simpa using k1
                  rw [this]
                · rfl
            have := step_map hp h1 m2 m1 m3 (es.modify i fun e => { e with key := vx }) (l' := l) (p' := some x) (fun own' w' g => by
              simp only [withPend, n2, Option.isSome_some, if_true]
              rw [hes']
              have := MpAt.upd g m4 rx k4 (List.getElem?_eq_some_iff.1 n1).1
              rwa [show (withPend kk vk l none).set i (x, y') = l by
                simp only [withPend]
                apply List.ext_getElem?
                intro j
                rw [List.getElem?_set]
                by_cases hij : i = j
                · subst hij; rw [if_pos rfl, if_pos (List.getElem?_eq_some_iff.1 n1).1, n1]
                · rw [if_neg hij]] at this)
            have hsz : (es.modify i fun e => { e with key := vx }).size = es.size := by simp
            rw [hsz] at this
            refine ⟨.tuple #[e'.val, .int .i64 i], _, _, ?_, ?_, this⟩
            · rw [hmi] at hfk
              have hst := sameKey q2 k3 rx
              simp only [m1, Instr.mapEntry, Sem.run_bind, run_underlying q1, Result.andThen_ok, hg, hck, hfk, Option.bind_some, k1, Option.map_some, Option.getD_some, hst, hset]
              simp [goInt, k2]
            · refine .tup rfl fun j s hj => ?_
              cases j with
              | zero => simp at hj; subst hj; have := k4.mono this.fr.goes; simpa [mgetT, n2] using this
              | succ j =>
                cases j with
                | zero =>
                  simp at hj; subst hj
                  have : i = mposT kk vk l x := n4.symm
                  rw [← this]
                  exact .v _
                | succ j => simp at hj
        · exact absurd he.symm hne
    | _ => rw [ho] at he; exact absurd he.symm hne
  · exact absurd he.symm hne
theorem findBorn {es : Array MapEntry} {n : Nat} (hb : ∀ (i : Nat) (e : MapEntry), es[i]? = some e → e.born = i) (hn : n < es.size) : es.findIdx? (fun e => (e.born : Int) == (n : Int)) = some n := by
  rw [Array.findIdx?_eq_some_iff_getElem]
  refine ⟨hn, ?_, fun j hj => ?_⟩
  · have := hb n _ (Array.getElem?_eq_getElem hn)
    simp [this]
  · have := hb j _ (Array.getElem?_eq_getElem (by omega))
    simp [this]; omega
theorem estS_ok {h : List Ob} (hp : Hp F own w h) {t : TypeId} {ti : TI} (ht : tiOf P t = some ti) {s ss sv : SV} {v vs vy : Value} (hr : Rel F own w s v) (hrs : Rel F own w ss vs) (hrv : Rel F own w sv vy) {r : OR} (he : estS ti h sv s ss = r) (hne : r ≠ .bad) :
    ∃ c ups, r = .eff c True ups .any ∧ (c → ∃ w', (Instr.entryStore t v vs vy).run P w = .ok () w' ∧ Step F own w (obSets h ups) own w') := by
  unfold estS at he
  split at he
  · rename_i id kn n
    obtain ⟨hdd, h1, rfl, h2⟩ := rel_os hr
    have := rel_v hrs
    subst this
    cases ho : obAt h id with
    | mp kk vk l pend =>
      rw [ho] at he
      cases pend with
      | none => exact absurd he.symm hne
      | some x =>
      simp only [estO] at he
      cases hc : beqT kk ti.mkt && beqT vk ti.mvt with
      | false => rw [hc] at he; exact absurd he.symm hne
      | true =>
        rw [hc] at he; simp only [cond_true] at he
        unfold estR at he
        split at he
        · rename_i y hy
          subst he
          obtain ⟨hd', e0, b, es, m1, m2, m3, m4⟩ := hp.at ho rfl
          rw [h1] at e0; cases e0
          have ry := unT_rel hrv hy
          refine ⟨_, _, rfl, fun hn => ?_⟩
          subst hn
          simp only [obSets]
          have hg : (getObj b).run P w = .ok (.map es es.size) w := by simp [getObj, Sem.run, m3]
          have hset : ∀ o, (setObj b o).run P w = .ok () (wset w b o) := fun o => by simp [setObj, Sem.run, m3, wset]
          have hborn : ∀ (i : Nat) (e : MapEntry), es[i]? = some e → e.born = i := fun i e he => by
            have hlt : i < (withPend kk vk l (some x)).length := by rw [← m4.1]; exact (Array.getElem?_eq_some_iff.1 he).1
            obtain ⟨e', q1, q2, _⟩ := m4.2 i _ (List.getElem?_eq_getElem hlt)
            rw [he] at q1; cases q1; exact q2
          have hpos : ∃ y0, (withPend kk vk l (some x))[mposT kk vk l x]? = some (x, y0) ∧ mupdT kk vk l x y = (withPend kk vk l (some x)).set (mposT kk vk l x) (x, y) := by
            cases hmi : midx l x with
            | none =>
              obtain ⟨n1, n2, n3⟩ := midx_none hmi
              refine ⟨dflt vk, ?_, ?_⟩
              · simp [withPend, n1, mposT, n3]
              · simp [withPend, n1, mposT, n3, mupdT, n2]
            | some i =>
              obtain ⟨y', n1, n2, n3, n4⟩ := midx_some hmi
              exact ⟨y', by simp [withPend, n2, mposT, n4, n1], by simp [withPend, n2, mposT, n4, mupdT, n3]⟩
          obtain ⟨y0, p1, p2⟩ := hpos
          obtain ⟨e', k1, k2, k3, k4⟩ := m4.2 _ _ p1
          have hlt : mposT kk vk l x < es.size := (Array.getElem?_eq_some_iff.1 k1).1
          have hes' : (es.modify (mposT kk vk l x) fun e => { e with val := vy }) = es.modify (mposT kk vk l x) fun e => { e with key := e'.key, val := vy } := by
            apply Array.ext
            · simp
            · intro j h1 h2
              simp only [Array.getElem_modify]
              split
              · rename_i hij
                subst hij
                have : es[mposT kk vk l x] = e' := by rw [Array.getElem?_eq_getElem (by simpa using h1)] at k1; simpa using k1
                rw [this]
              · rfl
          have := step_map hp h1 m2 m1 m3 (es.modify (mposT kk vk l x) fun e => { e with val := vy }) (l' := mupdT kk vk l x y) (p' := none) (fun own' w' g => by
            simp only [withPend]
            rw [hes', p2]
            exact MpAt.upd g m4 k3 ry (by rw [← m4.1]; exact hlt))
          have hsz : (es.modify (mposT kk vk l x) fun e => { e with val := vy }).size = es.size := by simp
          rw [hsz] at this
          refine ⟨_, ?_, this⟩
          have hfi := findBorn hborn hlt
          simp only [m1, Instr.entryStore, Sem.run_bind, hg, Result.andThen_ok, asInt, run_asIntOf, hfi, hset, Sem.run_pure]
        · exact absurd he.symm hne
    | _ => rw [ho] at he; exact absurd he.symm hne
  · exact absurd he.symm hne
end
end Go.Sx
end
section
namespace Go.Sx
open Go.RowKit
section
variable {P : Program} {F : Nat → Prop} {own : Own} {w : World}
theorem GridIn.swap {k : Tag} {m : List k.T} {v : Value} {bn : List Nat} (h1 : one1 v = true) (hm : RowRel F own w k m v bn) : ∀ {l : List (List k.T)} {vs : List Value} {bs : List Nat} {i : Nat}, GridIn F own w k l vs bs → i < l.length → bs.Nodup → bn.Nodup → (∀ b ∈ bs, b ∉ bn) →
    ∃ bs', GridIn F own w k (l.set i m) (vs.set i v) bs' ∧ (∀ b ∈ bs', b ∈ bs ∨ b ∈ bn) ∧ bs'.Nodup
  | l :: ls, u :: vs, bs, 0, ⟨b1, b2, e, h0, h2, h3⟩, _, hn, hbn, hd => by
    subst e
    have hn' := List.nodup_append.1 hn
    refine ⟨bn ++ b2, ⟨bn, b2, rfl, h1, hm, h3⟩, fun b hb => ?_, List.nodup_append.2 ⟨hbn, hn'.2.1, fun a ha b hb e => hd b (List.mem_append_right _ hb) (e ▸ ha)⟩⟩
    rcases List.mem_append.1 hb with q | q
    · exact .inr q
    · exact .inl (List.mem_append_right _ q)
  | l :: ls, u :: vs, bs, i + 1, ⟨b1, b2, e, h0, h2, h3⟩, hi, hn, hbn, hd => by
    subst e
    have hn' := List.nodup_append.1 hn
    obtain ⟨bs', q1, q2, q3⟩ := GridIn.swap h1 hm h3 (by simpa using hi) hn'.2.1 hbn fun b hb => hd b (List.mem_append_right _ hb)
    refine ⟨b1 ++ bs', ⟨b1, bs', rfl, h0, h2, q1⟩, fun b hb => ?_, List.nodup_append.2 ⟨hn'.1, q3, fun a ha b hb e => ?_⟩⟩
    · rcases List.mem_append.1 hb with q | q
      · exact .inl (List.mem_append_left _ q)
      · exact (q2 b q).imp (List.mem_append_right _) id
    · rcases q2 b hb with q | q
      · exact hn'.2.2 a ha b q e
      · exact hd a (List.mem_append_left _ ha) (e ▸ q)
  | [], _, _, _, _, hi, _, _, _ => absurd hi (Nat.not_lt_zero _)
  | _ :: _, [], _, _, h, _, _, _, _ => h.elim
theorem Step.fwd {h1 : List Ob} {own1 : Own} {w1 : World} (s : Step F own w h1 own1 w1) {id nx : Nat} {hd0 hd' : Hd} (hid : own1 id = some hd0) (hb : hd0.bs = []) (hnx : own1 nx = some hd') (hv : hd'.v = hd0.v) (h0 : one1 hd0.v = true) (hl : id < h1.length) (ho : own id ≠ none) :
    Step F own w (obSet h1 id (.fwd (some nx))) own1 w1 := by
  have hat : ∀ j, obAt (obSet h1 id (.fwd (some nx))) j = if id = j then .fwd (some nx) else obAt h1 j := fun j => obAt_set ..
  have hlen : (obSet h1 id (.fwd (some nx))).length = h1.length := by rw [obSet_length, if_pos hl]
  refine ⟨s.hp.upd (Goes.refl _ _ _) (fun j => j = id) (by rw [hlen]; exact Nat.le_refl _) (fun j hj => ⟨rfl, by rw [hat, if_neg (fun e => hj e.symm)], fun _ _ _ _ => rfl⟩) (fun j hd hj e => ?_) (fun j hj _ => ?_), s.fr, fun j hj hd => ?_⟩
  · subst hj
    rw [hid] at e; cases e
    exact ⟨by rw [hlen]; exact hl, fun b q => by rw [hb] at q; cases q⟩
  · subst hj
    refine ⟨hd0, hid, ?_⟩
    rw [hat, if_pos rfl]
    intro i e; cases e
    exact ⟨hd', hnx, hv, h0⟩
  · have hne : id ≠ j := fun e => ho (e ▸ hj)
    rw [hat, if_neg hne] at hd
    exact s.fresh j hj hd
theorem storeW_ok {h : List Ob} (hp : Hp F own w h) {nx : Nat} (hn : NxOk own h nx) {t : TypeId} {ti : TI} (ht : tiOf P t = some ti) {id rid : Nat} {i : Int} {k : Tag} {l : List (List k.T)} {m : List k.T} {v vx : Value} (hr : Rel F own w (.rp 1 id i 0) v) (hrx : Rel F own w (.os rid) vx) (hne : id ≠ rid) (hsz : ti.size = 1)
    (ho : obAt h id = .grid k l) (ho2 : obAt h rid = .row k m) : ∃ own' w', (Instr.storeAt t v vx).run P w = .ok () w' ∧ Step F own w (obSets h [(id, .dead), (rid, .dead), (nx, .grid k (l.set i.toNat m)), (id, .fwd (some nx))]) own' w' := by
  cases hr with
  | rp h1 h2 h3 =>
  rename_i n cap b o hd
  obtain ⟨hd2, g1, rfl, g2⟩ := rel_os hrx
  obtain ⟨hd', e0, e⟩ := hp.at ho rfl
  rw [h1] at e0; cases e0
  obtain ⟨hd2', e0, hm⟩ := hp.at ho2 rfl
  rw [g1] at e0; cases e0
  rcases e with ⟨q, _⟩ | ⟨b', o', cap', cs, ty, bs, e1, e2, e3, e4, e5, e6, e7, e8, e9⟩
  · rw [h2] at q; cases q
  have e1' := e1
  rw [h2] at e1
  simp only [Value.slice.injEq, Option.some.injEq, Addr.mk.injEq] at e1
  obtain ⟨⟨rfl, rfl, _⟩, rfl, rfl⟩ := e1
  obtain ⟨cs', w', q1, q2, q3, q4, q5⟩ := put_cells (P := P) ht hrx (xs := [.os rid]) rfl (by rw [hsz]; rfl) (fun j s hj v hv => by
    cases j with
    | zero => simp at hj; subst hj; obtain ⟨hd3, _, rfl, k2⟩ := rel_os hv; exact one1_oneCell k2
    | succ j => simp at hj) (off := o + i.toNat) e4 (by simp; omega)
  have hnd : bs.Nodup ∧ b ∉ bs := by rw [e2, List.nodup_cons] at e3; exact ⟨e3.2, e3.1⟩
  have hbb : b ∈ hd.bs := by rw [e2]; exact List.mem_cons_self
  have hdis : ∀ c ∈ hd.bs, c ∉ hd2.bs := fun c hc hc2 => hne (hp.inj id rid hd hd2 c h1 g1 hc hc2)
  have hnd2 : hd2.bs.Nodup := by rcases hm.blocks with e | ⟨c, e⟩ <;> rw [e] <;> simp
  obtain ⟨bs', r1, r2, r3⟩ := e9.swap (i := i.toNat) g2 hm h3 hnd.1 hnd2 (fun c hc => hdis c (by rw [e2]; exact List.mem_cons_of_mem _ hc))
  have hb' : b ∉ bs' := fun hm => by
    rcases r2 b hm with q | q
    · exact hnd.2 q
    · exact hdis b hbb q
  have hK : ∀ id' ∈ [id, rid], ∃ hd, own id' = some hd := by simp; exact ⟨⟨_, h1⟩, ⟨_, g1⟩⟩
  have hKl : id < h.length := hp.dom _ _ h1
  have hnk : nx ∉ [id, rid] := fun hm => by obtain ⟨hd, e⟩ := hK nx hm; rw [hn.none] at e; cases e
  have hu : cs'[o + i.toNat]? = some hd2.v := by
    obtain ⟨u, k1, k2⟩ := q4 (o + i.toNat) (Nat.le_refl _) (by simp)
    obtain ⟨hd3, k3, k4, _⟩ := rel_os (k2 (.os rid) (by simp))
    rw [g1] at k3; cases k3
    rw [k1, k4]
  have st := step_move (w' := w') hp hn [id, rid] hK ⟨none, hd.v, hd.vs.set i.toNat hd2.v, b :: bs'⟩ (.grid k (l.set i.toNat m)) (fun c hc => by
      left
      rcases List.mem_cons.1 hc with rfl | hc
      · exact ⟨id, by simp, hd, h1, hbb⟩
      · rcases r2 c hc with q | q
        · exact ⟨id, by simp, hd, h1, by rw [e2]; exact List.mem_cons_of_mem _ q⟩
        · exact ⟨rid, by simp, hd2, g1, q⟩)
    (fun c _ hno => q2.other c fun e => hno ⟨id, by simp, hd, h1, e ▸ hbb⟩) (by rw [q2.size]; exact Nat.le_refl _) q2.os q2.tape q2.output
    (fun own' g => .inr ⟨b, o, cap, cs', ty, bs', by simpa using e1', rfl, List.nodup_cons.2 ⟨hb', r3⟩, q2.here, by rw [q3]; exact e5, by simpa using e6, by simpa using e7, fun j u hj => by
        rw [List.getElem?_set] at hj
        by_cases hji : i.toNat = j
        · subst hji
          rw [if_pos rfl] at hj
          split at hj
          · cases hj; exact hu
          · cases hj
        · rw [if_neg hji] at hj
          rw [q5 (o + j) (by simp; omega)]
          exact e8 j u hj, r1.carry g.carries fun c hc => q2.other c fun e => hb' (e ▸ hc)⟩)
  have hmv := obSets_move nx (.grid k (l.set i.toNat m)) [id, rid] h 0 hnk (fun j hj => by obtain ⟨hd, e⟩ := hK j hj; exact hp.dom _ _ e)
  have hidn : id ≠ nx := fun e => hnk (e ▸ by simp)
  have := st.fwd (id := id) (nx := nx) (hd0 := { hd with bs := [] }) (hd' := ⟨none, hd.v, hd.vs.set i.toNat hd2.v, b :: bs'⟩) (by simp [Own.move, hidn, h1]) rfl (by simp [Own.move]) rfl (by show one1 hd.v = true; rw [h2]; rfl) (Nat.lt_of_lt_of_le hKl hmv.2.1) (by rw [h1]; simp)
  exact ⟨_, w', by simpa using q1, this⟩
theorem gridIn_nil {k : Tag} (a : Option Addr) : ∀ n : Nat, GridIn F own w k (List.replicate n []) (List.replicate n (.slice a 0 0)) []
  | 0 => rfl
  | n + 1 => ⟨[], [], rfl, rfl, .inl ⟨a, rfl, rfl, rfl⟩, gridIn_nil a n⟩
theorem mkGS_ok {h : List Ob} (hp : Hp F own w h) {nx : Nat} (hn : NxOk own h nx) {t : TypeId} {ti te tr : TI} (ht : tiOf P t = some ti) (hte : tiOf P ti.elem = some te) (hsl : ti.isSlice = true) {sl sc : SV} {vl vc : Value} (hrl : Rel F own w sl vl) (hrc : Rel F own w sc vc) {r : OR} (he : mkGS nx te tr sl sc = r) (hne : r ≠ .bad) :
    EffOk F own w h ((Instr.makeSlice t vl vc).run P w) r := by
  obtain ⟨i, d, z, hi, hd, hz, hq, rfl⟩ := tiOf_spec ht
  obtain ⟨ie, de, ze, hie, hde, hze, hqe, hte'⟩ := tiOf_spec hte
  cases d <;> simp [tiMk] at hsl
  rename_i e
  simp only [tiMk] at hie
  unfold mkGS at he
  split at he
  · rename_i n c
    have el := rel_v hrl
    have ec := rel_v hrc
    subst el; subst ec
    unfold mkGr at he
    split at he
    · rename_i k htag
      cases hcz : Nat.beq te.size 1 && zNil te.zero && Nat.ble 1 te.bytes with
      | false => rw [hcz] at he; exact absurd he.symm hne
      | true =>
      rw [hcz] at he; simp only [cond_true] at he
      subst he
      simp only [Bool.and_eq_true] at hcz
      have hes : te.size = ie.size := by rw [hte']; rfl
      have heb : te.bytes = ie.bytes := by rw [hte']; rfl
      have hez : te.zero = svs ze := by rw [hte']; simp [tiMk, hze]
      have t1 : ie.size = 1 := by rw [← hes]; exact Nat.eq_of_beq_eq_true hcz.1.1
      have hzc : ze.cells = #[.slice none 0 0] := by
        have := hcz.1.2
        rw [hez] at this
        unfold zNil at this
        split at this
        · rename_i q
          unfold svs at q
          have q2 : ze.cells.toList = [.slice none 0 0] := by
            match hl : ze.cells.toList, q with
            | [y], q => simp [hl] at q; rw [q]
            | [], q => simp [hl] at q
            | _ :: _ :: _, q => simp [hl] at q
          exact Array.ext' q2
        · cases this
      refine ⟨_, _, _, _, rfl, fun ⟨hc1, hc2, hc3⟩ => ?_⟩
      subst hc1
      rw [heb] at hc3
      have hby : 1 ≤ ie.bytes := by rw [← heb]; exact Nat.le_of_ble_eq_true hcz.2
      have hnb : n ≤ n * (ie.bytes : Int) := by
        have : n * 1 ≤ n * (ie.bytes : Int) := Int.mul_le_mul_of_nonneg_left (by omega) hc2
        omega
      have hnm : n ≤ (maxL : Int) := by unfold maxB at hc3; unfold maxL; omega
      refine ⟨hnm, ?_⟩
      have hrun := run_make (P := P) w t e ie ze hd hie hze .i64 .i64 n n hc2 (Int.le_refl _) (by rw [Int.mul_comm]; unfold maxB at hc3; omega) (by unfold maxL at hnm; omega)
      refine ⟨_, _, _, hrun, Rel.os (F := F) (id := nx) (hd := ⟨none, .slice (some ⟨w.heap.size, 0, none⟩) n.toNat n.toNat, List.replicate n.toNat (.slice none 0 0), [w.heap.size]⟩) (Own.set_same _ _ _) rfl, step_new hp hn (w1 := w) ⟨rfl, rfl, rfl, rfl⟩ _ _ _ rfl fun own' g => .inr ⟨w.heap.size, 0, n.toNat, _, e, [], by simp, rfl, by simp, alloc_at _ _, ?_, by simp, by simp; omega, fun q x hx => ?_, gridIn_nil none _⟩⟩
      · rw [size_madeCells, t1]; omega
      · have hql : q < n.toNat := by have := (List.getElem?_eq_some_iff.1 hx).1; simpa using this
        have hxd : x = .slice none 0 0 := List.eq_of_mem_replicate (List.mem_of_getElem? hx)
        subst hxd
        rw [Nat.zero_add]
        have hlt : q < n.toNat * 1 := by omega
        simp only [madeCells, Array.getElem?_map, t1, Array.getElem?_range, hlt, if_true, Option.map_some, hzc]
        simp [Nat.mod_one]
    · exact absurd he.symm hne
  · exact absurd he.symm hne
theorem storeZ_ok {h : List Ob} (hp : Hp F own w h) {nx : Nat} (hn : NxOk own h nx) {t : TypeId} {ti : TI} (ht : tiOf P t = some ti) {s sx : SV} {v vx : Value} (hr : Rel F own w s v) (hrx : Rel F own w sx vx) {r : OR}
    (he : storeZ ti.size nx h s sx = r) (hne : r ≠ .bad) : ∃ ups own' w', r = .eff True True ups .any ∧ (Instr.storeAt t v vx).run P w = .ok () w' ∧ Step F own w (obSets h ups) own' w' := by
  have old : storeS ti.size h s (flat sx) = r → ∃ ups own' w', r = .eff True True ups .any ∧ (Instr.storeAt t v vx).run P w = .ok () w' ∧ Step F own w (obSets h ups) own' w' := fun he => by
    obtain ⟨ups, e, w', e1, e2⟩ := storeS_ok (P := P) hp ht hr hrx he hne
    exact ⟨ups, own, w', e, e1, e2⟩
  unfold storeZ at he
  split at he
  · rename_i sz id i off rid
    cases hg : isGrid (obAt h id) with
    | false => rw [hg] at he; exact old he
    | true =>
      rw [hg] at he; simp only [cond_true] at he
      cases hc : Nat.beq ti.size 1 && Nat.beq sz 1 && Nat.beq off 0 && !(Nat.beq id rid) with
      | false => rw [hc] at he; exact absurd he.symm hne
      | true =>
        rw [hc] at he; simp only [cond_true] at he
        simp only [Bool.and_eq_true, Bool.not_eq_true'] at hc
        have c1 := Nat.eq_of_beq_eq_true hc.1.1.1
        have c2 := Nat.eq_of_beq_eq_true hc.1.1.2
        have c3 := Nat.eq_of_beq_eq_true hc.1.2
        have c4 : id ≠ rid := fun e => by rw [e] at hc; simp at hc
        subst c2; subst c3
        cases ho : obAt h id with
        | grid k l =>
          rw [ho] at he
          simp only [storeW] at he
          cases ho2 : obAt h rid with
          | row k' m' =>
            rw [ho2] at he
            simp only [castOb] at he
            split at he
            · rename_i ek
              subst ek
              obtain ⟨own', w', e1, e2⟩ := storeW_ok (P := P) hp hn ht hr hrx c4 c1 ho ho2
              exact ⟨_, own', w', he.symm, e1, e2⟩
            · exact absurd he.symm hne
          | _ => rw [ho2] at he; exact absurd he.symm hne
        | _ => rw [ho] at hg; cases hg
  · exact old he
end
end Go.Sx
end
section
namespace Go.Sx
variable {P : Program}
theorem run_next_gen {w : World} {ty : TypeId} {b bm since c0 clock : Nat} {seen : Array Nat} {es : Array MapEntry} (hb : w.heap[b]? = some (.mapIter (some bm) since seen c0)) (hm : w.heap[bm]? = some (.map es clock)) (hold : ∀ x ∈ es.toList, x.born < since) (hsc : since ≤ c0) :
    ((leftOf es seen).size = 0 ∧ (Instr.next (.pointer (some ⟨b, 0, none⟩)) false ty).run P w = .ok (.tuple #[.bool false]) w) ∨
    ∃ e ∈ (leftOf es seen).toList, ∃ w1 : World, (w1 = w ∨ w1 = w.drew) ∧ (Instr.next (.pointer (some ⟨b, 0, none⟩)) false ty).run P w = .ok (.tuple #[.bool true, e.key, e.val]) { w1 with heap := w1.heap.setIfInBounds b (.mapIter (some bm) since (seen.push e.born) clock) } := by
  simp only [Instr.next, getObj, Sem.run_bind, Sem.run, hb, hm, Result.andThen, next_test_false seen es since c0 hold hsc, Bool.false_eq_true, if_false]
  unfold leftOf
  have hmem : ∀ x ∈ (Array.filter (fun e => !seen.contains e.born) es).toList, x.born < since := fun x hx => hold x (by simp at hx ⊢; exact hx.1)
  generalize Array.filter (fun e => !seen.contains e.born) es = L at hmem ⊢
  have e1 : L.filter (fun x => decide (x.born < since)) = L := Array.filter_eq_self.2 (fun x hx => by simpa using hmem x (by simpa using hx))
  have e2 : L.filter (fun x => decide (x.born ≥ since)) = #[] := by
    rw [Array.filter_eq_empty_iff]
    intro x hx
    have := hmem x (by simpa using hx)
    simp
    omega
  simp only [e1, e2, Array.append_empty]
  by_cases h0 : L.size = 0
  · left
    have : L = #[] := Array.eq_empty_of_size_eq_zero h0
    subst this
    refine ⟨rfl, ?_⟩
    simp [choose, Sem.run, Question.forced]
  · right
    have hne : L.isEmpty = false := by simp [Array.isEmpty, h0]
    simp only [hne, Bool.false_eq_true, if_false, Array.empty_append, Array.size_map]
    have hch : ∃ (j : Nat) (w1 : World), j < L.size ∧ (w1 = w ∨ w1 = w.drew) ∧ (choose (Question.mapNext L.size)).run P w = .ok j w1 := by
      by_cases hf : L.size ≤ 1
      · exact ⟨0, w, by omega, .inl rfl, by simp [choose, Sem.run, Question.forced, hf]⟩
      · exact ⟨_, w.drew, Nat.mod_lt _ (by omega), .inr rfl, by
          simp only [choose, Sem.run, Question.forced, decide_eq_true_eq, hf, if_false, Question.cut]
          rfl⟩
    obtain ⟨j, w1, hj, hal, hrun⟩ := hch
    have hb1 : w1.heap[b]? = some (.mapIter (some bm) since seen c0) := by
      rcases hal with rfl | rfl
      · exact hb
      · exact hb
    refine ⟨L[j], by simp, w1, hal, ?_⟩
    simp only [hrun, Array.getElem?_map, Array.getElem?_eq_getElem hj, Option.map_some, Sem.run_bind, setObj, Sem.run, hb1, Result.andThen]
    rfl
theorem run_entry_gen {w : World} {b bm since clock : Nat} {seen : Array Nat} {es : Array MapEntry} {e : MapEntry} (hb : w.heap[b]? = some (.mapIter (some bm) since (seen.push e.born) clock)) (hm : w.heap[bm]? = some (.map es clock)) (he : e ∈ es.toList) (hn : (es.toList.map (·.born)).Nodup) :
    (Instr.entry (.pointer (some ⟨b, 0, none⟩))).run P w = .ok (.tuple #[e.key, e.val]) w := by
  have hf : es.find? (·.born == e.born) = some e := by rw [← Array.find?_toList]; exact find_born e es.toList hn he
  simp only [Instr.entry, getObj, Sem.run_bind, Sem.run, hb, hm, Result.andThen, Array.back?_push, bne_self_eq_false, Bool.false_eq_true, if_false, hf]
  rfl
end Go.Sx
end
section
namespace Go.Sx
open Go.RowKit
section
variable {P : Program} {F : Nat → Prop} {own : Own} {w : World} {ts : Tis}
def yrun (v : Value) (vs : Array Value) : Sem Next := do
  let d ← Deferred.ofValue v vs
  invoke d.target d.args
theorem run_equalIn_nil (w : World) (m : Nat) {t e : TypeId} (ad : Option Addr) (n c : Nat) (hd : P.underlying t = some (.slice e)) : (Op.equalIn (m + 1) t (.slice ad n c) (.slice none 0 0)).run P w = .ok ad.isNone w := by
  cases ad <;> simp [Op.equalIn, run_underlying hd]
def ORok (P : Program) (F : Nat → Prop) (own : Own) (w : World) (h : List Ob) (run : Result Next) : OR → Prop
  | .val s => ∃ u, run = .ok (.value u) w ∧ Rel F own w s u
  | .chk c s => c → ∃ u, run = .ok (.value u) w ∧ Rel F own w s u
  | .asm c s => c ∧ ∃ u, run = .ok (.value u) w ∧ Rel F own w s u
  | .newr s => ∃ u cs ty, run = .ok (.value u) (w.alloc (.cells cs ty)) ∧ Rel F own (w.alloc (.cells cs ty)) s u
  | .eff c a ups s => c → a ∧ ∃ u own' w', (run = .ok (.value u) w' ∨ (run = .ok .skip w' ∧ u = undef)) ∧ Rel F own' w' s u ∧ Step F own w (obSets h ups) own' w'
  | .call f args => ∃ vs : Array Value, RelL F own w args vs ∧ run = (callFunc f vs).run P w
  | .yld id args => ∃ hd, own id = some hd ∧ ∃ vs, RelL F own w args vs ∧ run = (yrun hd.v vs).run P w
  | .nxt id => ∃ hd b, own id = some hd ∧ hd.p = some b ∧ ∃ ty, ∀ u w', (Instr.next (.pointer (some ⟨b, 0, none⟩)) false ty).run P w = .ok u w' → run = .ok (.value u) w'
  | .amb p => ∃ b, p b ∧ run = .ok (.value (.bool b)) w
  | .pan x => run = .halt (.panic x) w
  | .bad => True
theorem vals_rel {cx : Cx} {a : Act} (hv : ∀ x, Rel F own w (val cx x) (a.eval x)) : ∀ (l : List Operand), (vals cx l).length = l.length ∧ ∀ (j : Nat) (s : SV), (vals cx l)[j]? = some s → ∃ x, l[j]? = some x ∧ Rel F own w s (a.eval x)
  | [] => ⟨rfl, fun j s h => by simp [vals] at h⟩
  | x :: r => by
    obtain ⟨h1, h2⟩ := vals_rel hv r
    refine ⟨by simp [vals, h1], fun j s h => ?_⟩
    cases j with
    | zero => simp [vals] at h; subst h; exact ⟨x, rfl, hv x⟩
    | succ j => simp [vals] at h; obtain ⟨y, e1, e2⟩ := h2 j s h; exact ⟨y, by simpa using e1, e2⟩
theorem vals_relL {cx : Cx} {a : Act} (hv : ∀ x, Rel F own w (val cx x) (a.eval x)) (l : Array Operand) : RelL F own w (vals cx l.toList) (l.map a.eval) := by
  obtain ⟨h1, h2⟩ := vals_rel hv l.toList
  refine ⟨by simp [h1], fun j s hj => ?_⟩
  obtain ⟨x, e1, e2⟩ := h2 j s hj
  simp at e1
  simpa [Array.getD_eq_getD_getElem?, e1] using e2
theorem pvals_rel {cx : Cx} {a : Act} (hv : ∀ x, Rel F own w (val cx x) (a.eval x)) : ∀ (l : List (Nat × Operand)), (pvals cx l).map (·.1) = (l.map fun (i, x) => (i, a.eval x)).map (·.1) ∧
    ∀ (j : Nat) (x : Nat × SV) (y : Nat × Value), (pvals cx l)[j]? = some x → (l.map fun (i, x) => (i, a.eval x))[j]? = some y → Rel F own w x.2 y.2
  | [] => ⟨rfl, fun j x y h => by simp [pvals] at h⟩
  | (i, x) :: r => by
    obtain ⟨h1, h2⟩ := pvals_rel hv r
    refine ⟨by simp only [pvals, List.map_cons, h1], fun j s u h k => ?_⟩
    cases j with
    | zero => simp [pvals] at h k; subst h; subst k; exact hv x
    | succ j => simp [pvals] at h k; exact h2 j s u h (by simpa using k)
theorem getTI_ok {t : TypeId} {k : TI → OR} {r : OR} (hts : ts.ok P) (h : getTI ts t k = r) (hr : r ≠ .bad) : ∃ ti, tiOf P t = some ti ∧ k ti = r := by
  unfold getTI at h
  cases ht : ts t with
  | none => simp [ht] at h; exact absurd h.symm hr
  | some i => simp [ht] at h; exact ⟨i, hts t i ht, h⟩
theorem okOr {run : Result Next} {h : List Ob} {r : OR} (hh : r ≠ .bad → ORok P F own w h run r) : ORok P F own w h run r := by
  cases r with
  | bad => trivial
  | _ => exact hh (by simp)
theorem run_v {s : Sem Value} {u : Value} (h : s.run P w = .ok u w) : (do pure (Next.value (← s)) : Sem Next).run P w = .ok (.value u) w := by
  simp [h]
theorem isTrue_spec {a : Operand} (h : isTrue a = true) : a = .const (.bool true) := by
  unfold isTrue at h; split at h <;> first | rfl | cases h
theorem isFalse_spec {a : Operand} (h : isFalse a = true) : a = .const (.bool false) := by
  unfold isFalse at h; split at h <;> first | rfl | cases h
theorem orVal_shape {x : Option SV} {r : OR} (h : orVal x = r) (hr : r ≠ .bad) : ∃ s, x = some s ∧ r = .val s := by
  cases x with
  | none => exact absurd h.symm hr
  | some s => exact ⟨s, rfl, h.symm⟩
theorem effOk_or {h : List Ob} {s : Sem Value} {r : OR} (he : EffOk F own w h (s.run P w) r) : ORok P F own w h ((do pure (Next.value (← s)) : Sem Next).run P w) r := by
  obtain ⟨c, a, ups, sv, rfl, h1⟩ := he
  intro hc
  obtain ⟨ha, u, own', w', h2, h3, h4⟩ := h1 hc
  exact ⟨ha, u, own', w', .inl (by simp [h2]), h3, h4⟩
theorem loadS_shape {ti : TI} {h : List Ob} {s : SV} {r : OR} (e : loadS ti h s = r) (hr : r ≠ .bad) : ∃ s', r = .val s' := by
  have hcells : ∀ {a : Bool} {n off : Nat} {o : Ob}, cellsAt a n off o = r → ∃ s', r = .val s' := by
    intro a n off o e
    unfold cellsAt at e
    split at e
    · obtain ⟨s', _, h'⟩ := orVal_shape e hr; exact ⟨s', h'⟩
    · exact absurd e.symm hr
  have hrow : ∀ {a : Bool} {n z id off : Nat} {i : Int} {o : Ob}, rowAt a n z id i off o = r → ∃ s', r = .val s' := by
    intro a n z id off i o e
    unfold rowAt at e
    split at e
    · rename_i k l
      cases hb : Nat.beq z (sizeOfTag k) with
      | false => rw [hb] at e; exact absurd e.symm hr
      | true => rw [hb] at e; obtain ⟨s', _, h'⟩ := orVal_shape e hr; exact ⟨s', h'⟩
    · cases hb : Nat.beq z 1 && Nat.beq off 0 && !a with
      | false => rw [hb] at e; exact absurd e.symm hr
      | true => rw [hb] at e; exact ⟨_, e.symm⟩
    · exact absurd e.symm hr
  have hgrid : ∀ {a : Bool} {n z off : Nat} {i j : Int} {o : Ob}, gridAt a n z i j off o = r → ∃ s', r = .val s' := by
    intro a n z off i j o e
    unfold gridAt at e
    split at e
    · rename_i k l
      cases hb : Nat.beq z (sizeOfTag k) with
      | false => rw [hb] at e; exact absurd e.symm hr
      | true => rw [hb] at e; obtain ⟨s', _, h'⟩ := orVal_shape e hr; exact ⟨s', h'⟩
    · exact absurd e.symm hr
  unfold loadS at e
  split at e
  · exact hcells e
  · obtain ⟨s', _, h'⟩ := orVal_shape e hr; exact ⟨s', h'⟩
  · exact hrow e
  · exact hgrid e
  · exact absurd e.symm hr
theorem offS_shape {n : Nat} {s : SV} {r : OR} (e : offS n s = r) (hr : r ≠ .bad) : ∃ s', r = .val s' := by
  unfold offS at e; split at e <;> first | exact ⟨_, e.symm⟩ | exact absurd e.symm hr
theorem valO_rel {cx : Cx} {a : Act} (hv : ∀ x, Rel F own w (val cx x) (a.eval x)) (o : Option Operand) : (∀ s, valO cx o = some s → ∃ u, o.map a.eval = some u ∧ Rel F own w s u) ∧ (valO cx o = none → o.map a.eval = none) := by
  cases o with
  | none => exact ⟨fun s h => by simp [valO] at h, fun _ => rfl⟩
  | some x => exact ⟨fun s h => by simp [valO] at h; subst h; exact ⟨_, rfl, hv x⟩, fun h => by simp [valO] at h⟩
theorem newS_ok {h : List Ob} (hp : Hp F own w h) {nx : Nat} (hn : NxOk own h nx) {l : List SV} {v : Value} {ty : TypeId} (hl : RelL F own w l v.cells) : Step F own w (obSets h [(nx, Ob.cells l)]) (own.set nx ⟨some w.heap.size, undef, [], [w.heap.size]⟩) (w.alloc (.cells v.cells ty)) ∧ Rel F (own.set nx ⟨some w.heap.size, undef, [], [w.heap.size]⟩) (w.alloc (.cells v.cells ty)) (.ptr nx 0) (.pointer (some ⟨w.heap.size, 0, none⟩)) :=
  ⟨step_new hp hn (w1 := w) ⟨rfl, rfl, rfl, rfl⟩ (.cells v.cells ty) (.cells l) _ rfl fun own' g => ⟨w.heap.size, v.cells, ty, rfl, rfl, alloc_at _ _, hl.1, fun j s hj => (hl.2 j s hj).mono g⟩, .ptr (Own.set_same _ _ _) rfl⟩
theorem RelL.app {l m : List SV} {us vs : Array Value} (h1 : RelL F own w l us) (h2 : RelL F own w m vs) : RelL F own w (l ++ m) (us ++ vs) := by
  refine ⟨by simp [h1.1, h2.1], fun j s hj => ?_⟩
  rw [List.getElem?_append] at hj
  split at hj
  · rename_i hlt
    rw [getD_of_get (j := j) (ws := us) (by rw [Array.getElem?_append_left (by rw [h1.1]; exact hlt)])]
    exact h1.2 j s hj
  · rename_i hlt
    rw [getD_of_get (j := j - us.size) (ws := vs) (by rw [Array.getElem?_append_right (by rw [h1.1]; omega)])]
    rw [h1.1]
    exact h2.2 _ s hj
theorem opS_ok {ops : List Oper} {g : Option (Nat × Bool)} {t : List (Nat × SV)} {h : List Ob} {nx : Nat} (hts : ts.ok P) (hp : Hp F own w h) (hn : NxOk own h nx) {a : Act} {o : Oper}
    (hv : ∀ x, Rel F own w (val ⟨ts, ops, g, ⟨t, h⟩, nx⟩ x) (a.eval x))
    (hpk : ∀ c x y, o.op = .pick c x y → (a.eval c = .bool true → Rel F own w (pickSide ops g c true (raw t x)) (a.eval x)) ∧ (a.eval c = .bool false → Rel F own w (pickSide ops g c false (raw t y)) (a.eval y))) :
    ORok P F own w h ((execOp a.eval o).run P w) (opS ⟨ts, ops, g, ⟨t, h⟩, nx⟩ o.op) := by
  obtain ⟨dst, op, ty, pos, after, guard⟩ := o
  simp only at hpk ⊢
  refine okOr fun hr => ?_
  generalize he : opS ⟨ts, ops, g, ⟨t, h⟩, nx⟩ op = r at hr ⊢
  cases op with
  | move x => subst he; exact ⟨_, rfl, hv x⟩
  | assign x => subst he; exact ⟨_, rfl, hv x⟩
  | pick c x y =>
    obtain ⟨h1, h2⟩ := hpk c x y rfl
    have hc : Rel F own w (under ops g (raw t c)) (a.eval c) := hv c
    change pickB x y (under ops g (raw t c)) (pickSide ops g c true (raw t x)) (pickSide ops g c false (raw t y)) = r at he
    unfold pickB at he
    split at he
    · rename_i sx sy sz bc bx bz hsc hsx hsy
      rw [hsc] at hc
      rw [hsx] at h1
      rw [hsy] at h2
      have hec := rel_v hc
      have hrun : (execOp a.eval { dst := dst, op := .pick c x y, type := ty, pos := pos, after := after, guard := guard }).run P w = .ok (.value (if bc then a.eval x else a.eval y)) w := by
        simp [execOp, hec, asBool]
      cases hx : isTrue x with
      | true =>
        simp only [hx, cond_true] at he
        subst he
        refine ⟨_, hrun, ?_⟩
        have hx' := isTrue_spec hx
        cases bc with
        | true => simp only [if_true, hx']; exact .v _
        | false => simp only [Bool.false_or]; rw [if_neg (by simp)]; exact h2 hec
      | false =>
        cases hy : isFalse y with
        | true =>
          simp only [hx, hy, cond_true, cond_false] at he
          subst he
          refine ⟨_, hrun, ?_⟩
          have hy' := isFalse_spec hy
          cases bc with
          | true => simp only [if_true, Bool.true_and]; exact h1 hec
          | false => rw [if_neg (by simp), hy']; exact .v _
        | false => simp only [hx, hy, cond_false] at he; exact absurd he.symm hr
    · rename_i sx sy sz bc bz hsc hsx hsy
      rw [hsc] at hc
      rw [hsy] at h2
      have hec := rel_v hc
      subst he
      intro hcf
      subst hcf
      exact ⟨a.eval y, by simp [execOp, hec, asBool], h2 hec⟩
    · rename_i sx sy sz bc bx hsc hsx hsy
      rw [hsc] at hc
      rw [hsx] at h1
      have hec := rel_v hc
      subst he
      intro hcf
      subst hcf
      exact ⟨a.eval x, by simp [execOp, hec, asBool], h1 hec⟩
    · exact absurd he.symm hr
  | alloc ty' =>
    obtain ⟨ti, ht, he⟩ := getTI_ok (k := fun ti => newS nx (some ti.zero)) hts he hr
    subst he
    obtain ⟨i, d, z, hi, hd, hz, hq, rfl⟩ := tiOf_spec ht
    have hzz : (tiMk P ty' i d).zero = svs z := by simp [tiMk, hz]
    intro _
    obtain ⟨q1, q2⟩ := newS_ok (ty := ty') hp hn (l := svs z) (v := z) (svs_rel z)
    rw [hzz]
    exact ⟨trivial, _, _, _, .inl (by simp [execOp, Instr.alloc, zeroValue, typeInfo, hi, hz, newVar, newRow]), q2, q1⟩
  | box ty' x =>
    change newS nx (flat (val _ x)) = r at he
    cases hf : flat (val ⟨ts, ops, g, ⟨t, h⟩, nx⟩ x) with
    | none => rw [hf] at he; exact absurd he.symm hr
    | some l =>
      rw [hf] at he
      subst he
      intro _
      obtain ⟨q1, q2⟩ := newS_ok (ty := ty') hp hn (v := a.eval x) (flat_rel (hv x) hf)
      exact ⟨trivial, _, _, _, .inl (by simp [execOp, Instr.box, newVar, newRow]), q2, q1⟩
  | build ty' parts =>
    obtain ⟨ti, ht, he⟩ := getTI_ok (k := fun ti => bif ti.isArr then getTI ts ti.elem fun te => aggS (fillS (fun i => some (i * te.size, te.size)) ti.zero (pvals ⟨ts, ops, g, ⟨t, h⟩, nx⟩ parts.toList))
      else bif ti.agg then aggS (fillS (fun i => (nth ti.fields i).map fun f : Nat × Nat × Bool => (f.1, f.2.1)) ti.zero (pvals ⟨ts, ops, g, ⟨t, h⟩, nx⟩ parts.toList)) else .bad) hts he hr
    obtain ⟨p1, p2⟩ := pvals_rel hv parts.toList
    have hrun : (execOp a.eval { dst := dst, op := .build ty' parts, type := ty, pos := pos, after := after, guard := guard }) = (do pure (Next.value (← Instr.build ty' (parts.map fun (i, x) => (i, a.eval x))))) := rfl
    have key : ∃ l, r = .val (.agg l) ∧ ((ti.isArr = true ∧ ∃ te, tiOf P ti.elem = some te ∧ fillS (fun i => some (i * te.size, te.size)) ti.zero (pvals ⟨ts, ops, g, ⟨t, h⟩, nx⟩ parts.toList) = some l) ∨
         (ti.isArr = false ∧ ti.agg = true ∧ fillS (fun i => (nth ti.fields i).map fun f => (f.1, f.2.1)) ti.zero (pvals ⟨ts, ops, g, ⟨t, h⟩, nx⟩ parts.toList) = some l)) := by
      cases ha : ti.isArr with
      | true =>
        simp only [ha, cond_true] at he
        obtain ⟨te, hte, he⟩ := getTI_ok hts he hr
        cases hf : fillS (fun i => some (i * te.size, te.size)) ti.zero (pvals ⟨ts, ops, g, ⟨t, h⟩, nx⟩ parts.toList) with
        | none => simp only [hf] at he; exact absurd he.symm hr
        | some l => simp only [hf] at he; exact ⟨l, he.symm, .inl ⟨rfl, te, hte, hf⟩⟩
      | false =>
        cases hg : ti.agg with
        | false => simp only [ha, hg, cond_false] at he; exact absurd he.symm hr
        | true =>
          simp only [ha, hg, cond_false, cond_true] at he
          cases hf : fillS (fun i => (nth ti.fields i).map fun f => (f.1, f.2.1)) ti.zero (pvals ⟨ts, ops, g, ⟨t, h⟩, nx⟩ parts.toList) with
          | none => simp only [hf] at he; exact absurd he.symm hr
          | some l => simp only [hf] at he; exact ⟨l, he.symm, .inr ⟨rfl, rfl, rfl⟩⟩
    obtain ⟨l, rfl, hcase⟩ := key
    obtain ⟨u, e1, e2⟩ := build_ok (P := P) ht (vps := parts.map fun (i, x) => (i, a.eval x)) (by simpa using p1) (by simpa using p2) hcase
    exact ⟨u, by rw [hrun]; exact run_v e1, e2⟩
  | buildSlice ty' n parts =>
    obtain ⟨ti, ht, he⟩ := getTI_ok (k := fun ti => getTI ts ti.elem fun te => ownS (mixG ops g) nx te (bsS ti te n (pvals ⟨ts, ops, g, ⟨t, h⟩, nx⟩ parts.toList))) hts he hr
    obtain ⟨te, hte, he⟩ := getTI_ok (k := fun te => ownS (mixG ops g) nx te (bsS ti te n (pvals ⟨ts, ops, g, ⟨t, h⟩, nx⟩ parts.toList))) hts he hr
    obtain ⟨p1, p2⟩ := pvals_rel hv parts.toList
    have hne : bsS ti te n (pvals ⟨ts, ops, g, ⟨t, h⟩, nx⟩ parts.toList) ≠ .bad := fun e => by rw [e] at he; exact hr he.symm
    obtain ⟨s, cs, ty2, u, hs0, e1, e2, e3⟩ := bsS_ok (P := P) hp ht hte (n := n) (vps := parts.map fun (i, x) => (i, a.eval x)) (by simpa using p1) (by simpa using p2) rfl hne
    rw [hs0] at he
    have plain : r = .newr s → ORok P F own w h ((execOp a.eval ⟨dst, .buildSlice ty' n parts, ty, pos, after, guard⟩).run P w) r := fun e => by
      subst e
      exact ⟨u, cs, ty2, by simp [execOp, e1], e2⟩
    cases s with
    | rs k xs =>
      change (bif (te.agg || one xs) && noG (mixG ops g) then OR.eff True True [(nx, .row k xs)] (.os nx) else .newr (.rs k xs)) = r at he
      cases hb : (te.agg || one xs) && noG (mixG ops g) with
      | false => rw [hb] at he; exact plain he.symm
      | true =>
        rw [hb] at he
        subst he
        obtain ⟨m1, m2, m3, m4⟩ := e3 k xs rfl
        refine fun _ => ⟨trivial, u, own.set nx ⟨none, .slice (some ⟨w.heap.size, 0, none⟩) xs.length xs.length, [], [w.heap.size]⟩, w.alloc (.cells cs ty2), .inl (by simp [execOp, e1]), ?_, ?_⟩
        · rw [m1]
          exact Rel.os (F := F) (id := nx) (hd := ⟨none, .slice (some ⟨w.heap.size, 0, none⟩) xs.length xs.length, [], [w.heap.size]⟩) (Own.set_same _ _ _) rfl
        · exact step_new hp hn (w1 := w) ⟨rfl, rfl, rfl, rfl⟩ _ _ _ rfl fun own' g => .inr ⟨w.heap.size, 0, xs.length, cs, ty2, rfl, rfl, alloc_at _ _, by rw [Nat.zero_add]; exact m2, Nat.le_refl _, m3, fun q x hx j s hj => by
            obtain ⟨u', h1, h2⟩ := m4 q x hx j s hj
            exact ⟨u', h1, h2.mono g⟩⟩
    | _ => exact plain he.symm
  | load ty' x =>
    obtain ⟨ti, ht, he⟩ := getTI_ok (k := fun ti => loadS ti h (val ⟨ts, ops, g, ⟨t, h⟩, nx⟩ x)) hts he hr
    obtain ⟨s', rfl⟩ := loadS_shape he hr
    obtain ⟨u, e1, e2⟩ := loadS_ok (P := P) hp ht (hv x) he
    exact ⟨u, by simp only [execOp]; exact run_v e1, e2⟩
  | store ty' x y =>
    obtain ⟨ti, ht, he⟩ := getTI_ok (k := fun ti => storeZ ti.size nx h (val ⟨ts, ops, g, ⟨t, h⟩, nx⟩ x) (val ⟨ts, ops, g, ⟨t, h⟩, nx⟩ y)) hts he hr
    obtain ⟨ups, own', w', rfl, e1, e2⟩ := storeZ_ok (P := P) hp hn ht (hv x) (hv y) he hr
    exact fun _ => ⟨trivial, undef, own', w', .inr ⟨by simp [execOp, e1], rfl⟩, .any _, e2⟩
  | nilCheck x =>
    have hx := hv x
    change nilS (val _ x) = r at he
    generalize hvx : a.eval x = vx at hx
    unfold nilS at he
    split at he
    · rename_i id off hs
      subst he; rw [hs] at hx
      cases hx with
      | ptr q1 q2 => exact ⟨_, by simp [execOp, hvx], .ptr q1 q2⟩
    · rename_i l off hs
      subst he; rw [hs] at hx
      cases hx with
      | ep cf q1 q2 => exact ⟨_, by simp [execOp, hvx], .ep cf q1 q2⟩
    · rename_i hs
      subst he; rw [hs] at hx
      cases hx with
      | rp q1 q2 q3 => exact ⟨_, by simp [execOp, hvx], .rp q1 q2 q3⟩
    · rename_i hs
      subst he; rw [hs] at hx
      cases hx with
      | gp q1 q2 q3 => exact ⟨_, by simp [execOp, hvx], .gp q1 q2 q3⟩
    · rename_i f first caps hs
      subst he; rw [hs] at hx
      cases hx with
      | fn q1 q2 q3 q4 => exact ⟨_, by simp [execOp, hvx], .fn q1 q2 q3 q4⟩
    · exact absurd he.symm hr
  | binOp op xt x y yt =>
    change binA ts op xt (val _ x) (val _ y) = r at he
    have hx := hv x; have hy := hv y
    generalize val ⟨ts, ops, g, ⟨t, h⟩, nx⟩ x = sx at hx he
    generalize val ⟨ts, ops, g, ⟨t, h⟩, nx⟩ y = sy at hy he
    have hrun : ∀ {vx vy : Value}, a.eval x = vx → a.eval y = vy → (eqGuard op xt x y vx vy).run P w = .ok () w → ∀ u, (Go.binOp op xt vx vy).run P w = .ok u w → (execOp a.eval { dst := dst, op := .binOp op xt x y yt, type := ty, pos := pos, after := after, guard := guard }).run P w = .ok (.value u) w := by
      intro vx vy h1 h2 h3 u hu
      simp only [execOp, h1, h2]
      apply run_v
      simp only [Sem.run_bind, h3, Result.andThen_ok, hu]
    unfold binA at he
    split at he
    · rename_i k m k' n
      obtain ⟨rfl, h3⟩ := binS_cases he hr
      have ex := rel_v hx; have ey := rel_v hy
      cases r with
      | val s =>
        obtain ⟨u, e1, rfl⟩ := intOp_val (P := P) (w := w) (ty := xt) h3.symm
        exact ⟨u, hrun ex ey (eqGuard_int ..) u e1, .v u⟩
      | chk c s =>
        intro hc
        obtain ⟨u, e1, rfl⟩ := intOp_chk (P := P) (w := w) (ty := xt) h3.symm hc
        exact ⟨u, hrun ex ey (eqGuard_int ..) u e1, .v u⟩
      | bad => exact absurd rfl hr
      | _ => exfalso; cases op <;> simp [intOp] at h3
    · obtain ⟨ti, ht, he⟩ := getTI_ok (k := fun ti => eqS op ti sx sy) hts he hr
      obtain ⟨i, d, z, hi, hd, hz, hq, rfl⟩ := tiOf_spec ht
      unfold eqS at he
      split at he
      · rename_i l _ _
        have ey := rel_v hy
        cases hb : (tiMk P xt i d).isSlice with
        | false => rw [hb] at he; exact absurd he.symm hr
        | true =>
          rw [hb] at he; simp only [cond_true] at he
          have hds : ∃ e, d = .slice e := by cases d <;> simp [tiMk] at hb; exact ⟨_, rfl⟩
          obtain ⟨e, rfl⟩ := hds
          have hg : ∀ (ad : Option Addr) (n c : Nat), (eqGuard op xt x y (.slice ad n c) (.slice none 0 0)).run P w = .ok () w := fun ad n c => by cases op <;> simp [eqGuard]
          have hq : ∀ (ad : Option Addr) (n c : Nat), (Op.equal xt (.slice ad n c) (.slice none 0 0)).run P w = .ok ad.isNone w := fun ad n c => by
            unfold Op.equal Op.maxDepth
            exact run_equalIn_nil w 9999 ad n c hd
          have hsl : ∃ ad n c, a.eval x = .slice ad n c ∧ (ad.isNone = true → l = []) := by
            generalize a.eval x = vx at hx
            cases hx with
            | rs cf h0 h0' h1 h2 => exact ⟨_, _, _, rfl, fun h => by cases h⟩
            | rs0 => exact ⟨_, _, _, rfl, fun _ => rfl⟩
          obtain ⟨ad, n, c, hvx, hl⟩ := hsl
          cases op <;> simp only [nilQ] at he <;> first | exact absurd he.symm hr | subst he
          · exact ⟨ad.isNone, hl, hrun hvx ey (hg _ _ _) _ (by simp [Go.binOp, hq])⟩
          · exact ⟨!ad.isNone, fun h => hl (by simpa using h), hrun hvx ey (hg _ _ _) _ (by simp [Go.binOp, hq])⟩
      · rename_i b1 b2 _ _
        have ex := rel_v hx; have ey := rel_v hy
        have hg : (eqGuard op xt x y (.string b1) (.string b2)).run P w = .ok () w := by cases op <;> simp [eqGuard]
        cases hb : Nat.beq (tiMk P xt i d).sc 2 with
        | false => rw [hb] at he; exact absurd he.symm hr
        | true =>
          rw [hb] at he; simp only [cond_true] at he
          cases op <;> simp only [strOp] at he <;> first | exact absurd he.symm hr | subst he
          · exact ⟨_, hrun ex ey hg _ (by simp [Go.binOp, Op.stringOp, beq_toListBytes, bne]), .v _⟩
          · exact ⟨_, hrun ex ey hg _ (by simp [Go.binOp, Op.stringOp, beq_toListBytes, bne]), .v _⟩
      · rename_i b1 b2 _ _
        have ex := rel_v hx; have ey := rel_v hy
        have hg : (eqGuard op xt x y (.bool b1) (.bool b2)).run P w = .ok () w := by cases op <;> simp [eqGuard]
        cases hb : Nat.beq (tiMk P xt i d).sc 3 with
        | false => rw [hb] at he; exact absurd he.symm hr
        | true =>
          rw [hb] at he; simp only [cond_true] at he
          have hc := Nat.eq_of_beq_eq_true hb
          have hdb : d = .bool := by cases d <;> simp [tiMk, eqCode] at hc <;> rfl
          subst hdb
          have heq : (Op.equal xt (.bool b1) (.bool b2)).run P w = .ok (b1 == b2) w := by unfold Op.equal Op.maxDepth; exact run_equalIn_bool' w 9999 xt b1 b2 hd
          cases op <;> simp only [boolOp] at he <;> first | exact absurd he.symm hr | subst he
          · exact ⟨_, hrun ex ey hg _ (by simp [Go.binOp, heq]), .v _⟩
          · exact ⟨_, hrun ex ey hg _ (by simp [Go.binOp, heq, bne]), .v _⟩
      · rename_i l m _ _
        obtain ⟨xs, ex, hxs⟩ := rel_agg hx
        obtain ⟨ys, ey, hys⟩ := rel_agg hy
        unfold eqT eqT' at he
        split at he
        · exact absurd he.symm hr
        · rename_i c cs hcs
          have hcs' : eqFlat P xt d = c :: cs := hcs
          cases hl : eqL (c :: cs) l m with
          | none => rw [hl] at he; exact absurd he.symm hr
          | some b =>
            rw [hl] at he
            obtain ⟨q1, q2⟩ := eqAgg_ok hd hxs hys (by rw [hcs']; simp) (by rw [hcs']; exact hl)
            have hg : (eqGuard op xt x y (.agg xs) (.agg ys)).run P w = .ok () w := run_eqGuard_agg w op xt x y xs ys q2
            cases op <;> simp only [eqO] at he <;> first | exact absurd he.symm hr | subst he
            · exact ⟨_, hrun ex ey hg _ (by simp [Go.binOp, q1]), .v _⟩
            · exact ⟨_, hrun ex ey hg _ (by simp [Go.binOp, q1]), .v _⟩
      · exact absurd he.symm hr
  | unOp op xt x =>
    change unS op (val _ x) = r at he
    have hx := hv x
    unfold unS at he
    split at he
    · rename_i b hs
      subst he; rw [hs] at hx
      have ex := rel_v hx
      exact ⟨_, by simp only [execOp, ex]; exact run_v rfl, .v _⟩
    · rename_i k n hs
      subst he; rw [hs] at hx
      have ex := rel_v hx
      exact ⟨_, by simp only [execOp, ex]; exact run_v rfl, .v _⟩
    · exact absurd he.symm hr
  | convert src dt x =>
    obtain ⟨t1, ht1, he⟩ := getTI_ok (k := fun _ => getTI ts dt fun ti => convS ti.int (val ⟨ts, ops, g, ⟨t, h⟩, nx⟩ x)) hts he hr
    obtain ⟨t2, ht2, he⟩ := getTI_ok hts he hr
    obtain ⟨i1, d1, z1, hi1, hd1, hz1, hq1, rfl⟩ := tiOf_spec ht1
    obtain ⟨i2, d2, z2, hi2, hd2, hz2, hq2, rfl⟩ := tiOf_spec ht2
    have hx := hv x
    unfold convS at he
    split at he
    · rename_i kd k' n hk hs
      subst he; rw [hs] at hx
      have ex := rel_v hx
      cases d2 <;> simp [tiMk] at hk
      subst hk
      refine ⟨_, ?_, .v _⟩
      simp only [execOp, ex]
      apply run_v
      simp [Go.convert, run_underlying hd1, run_underlying hd2, Conv.intToInt]
    · exact absurd he.symm hr
  | panic x =>
    change panS (val _ x) = r at he
    have hx := hv x
    unfold panS at he
    split at he
    · rename_i t' y hs
      subst he; rw [hs] at hx
      have ex := rel_v hx
      simp only [ORok, execOp, ex]
      rfl
    · exact absurd he.symm hr
  | makeInterface ty' x =>
    obtain ⟨ti, ht, he⟩ := getTI_ok (k := fun ti => bif ti.iface then .bad else ifaceS ty' (val ⟨ts, ops, g, ⟨t, h⟩, nx⟩ x)) hts he hr
    obtain ⟨i, d, z, hi, hd, hz, hq, rfl⟩ := tiOf_spec ht
    have hx := hv x
    cases hif : (tiMk P ty' i d).iface with
    | true => simp only [hif, cond_true] at he; exact absurd he.symm hr
    | false =>
      simp only [hif, cond_false] at he
      unfold ifaceS at he
      split at he
      · rename_i k n hs
        subst he; rw [hs] at hx
        have ex := rel_v hx
        refine ⟨_, ?_, .v _⟩
        simp only [execOp, ex]
        apply run_v
        cases d <;> simp [tiMk] at hif <;> simp [Instr.makeInterface, run_underlying hd]
      · exact absurd he.symm hr
  | makeFunc fn first caps =>
    change funcS fn (vals _ first.toList) (vals _ caps.toList) = r at he
    unfold funcS at he
    split at he
    · rename_i f
      subst he
      obtain ⟨q1, q2⟩ := vals_relL hv caps
      obtain ⟨q3, q4⟩ := vals_relL hv first
      exact ⟨.func (.func f) (first.map a.eval) (caps.map a.eval), by simp [execOp, Instr.makeFunc], .fn q3 q1 q4 q2⟩
    · exact absurd he.symm hr
  | fieldAddr ty' x f =>
    obtain ⟨ti, ht, he⟩ := getTI_ok (k := fun ti => match nth ti.fields f with | some (o, n, _) => bif Nat.ble 1 n then offS o (val ⟨ts, ops, g, ⟨t, h⟩, nx⟩ x) else .bad | none => .bad) hts he hr
    cases hf : nth ti.fields f with
    | none => simp only [hf] at he; exact absurd he.symm hr
    | some q =>
      obtain ⟨o, n, q⟩ := q
      simp only [hf] at he
      cases hn : Nat.ble 1 n with
      | false => simp only [hn, cond_false] at he; exact absurd he.symm hr
      | true =>
        simp only [hn, cond_true] at he
        obtain ⟨s', rfl⟩ := offS_shape he hr
        obtain ⟨u, e1, e2⟩ := fieldAddr_ok (P := P) ht hf (Nat.le_of_ble_eq_true hn) (hv x) he
        exact ⟨u, by simp only [execOp]; exact run_v e1, e2⟩
  | field ty' x f =>
    obtain ⟨ti, ht, he⟩ := getTI_ok (k := fun ti => fieldS (nth ti.fields f) (aggL (val ⟨ts, ops, g, ⟨t, h⟩, nx⟩ x))) hts he hr
    have hsh : ∃ s', r = .val s' := by
      unfold fieldS at he
      split at he
      · obtain ⟨s', _, e⟩ := orVal_shape he hr; exact ⟨s', e⟩
      · exact absurd he.symm hr
    obtain ⟨s', rfl⟩ := hsh
    obtain ⟨u, e1, e2⟩ := fieldS_ok (P := P) ht (hv x) he
    exact ⟨u, by simp only [execOp]; exact run_v e1, e2⟩
  | indexAddr ty' x i =>
    obtain ⟨ti, ht, he⟩ := getTI_ok (k := fun ti => getTI ts ti.elem fun te => indexS ti te.size h (val ⟨ts, ops, g, ⟨t, h⟩, nx⟩ x) (val ⟨ts, ops, g, ⟨t, h⟩, nx⟩ i)) hts he hr
    obtain ⟨te, hte, he⟩ := getTI_ok hts he hr
    obtain ⟨c, s', rfl, hc⟩ := indexS_ok (P := P) hp ht hte (hv x) (hv i) he hr
    intro hcc
    obtain ⟨u, e1, e2⟩ := hc hcc
    exact ⟨u, by simp only [execOp]; exact run_v e1, e2⟩
  | extract x i =>
    have hx := hv x
    change extS i (val _ x) = r at he
    generalize hvx : a.eval x = vx at hx
    unfold extS at he
    split at he
    · rename_i l hs
      rw [hs] at hx
      obtain ⟨s', e1, rfl⟩ := orVal_shape he hr
      rw [nth_eq] at e1
      cases hx with
      | tup q1 q2 =>
        rename_i vs
        have hlt : i < vs.size := by rw [q1]; exact (List.getElem?_eq_some_iff.1 e1).1
        have := q2 i s' e1
        simp only [Array.getD_eq_getD_getElem?, Array.getElem?_eq_getElem hlt, Option.getD_some] at this
        exact ⟨vs[i], by simp [execOp, hvx, Instr.extract, hlt], this⟩
    · exact absurd he.symm hr
  | makeSlice ty' n c =>
    obtain ⟨ti, ht, he⟩ := getTI_ok (k := fun ti => getTI ts ti.elem fun te => bif ti.isSlice then (bif te.isSlice then getTI ts te.elem fun tr => mkGS nx te tr (val ⟨ts, ops, g, ⟨t, h⟩, nx⟩ n) (val ⟨ts, ops, g, ⟨t, h⟩, nx⟩ c) else mkS nx te (val ⟨ts, ops, g, ⟨t, h⟩, nx⟩ n) (val ⟨ts, ops, g, ⟨t, h⟩, nx⟩ c)) else .bad) hts he hr
    obtain ⟨te, hte, he⟩ := getTI_ok hts he hr
    cases hs : ti.isSlice with
    | false => rw [hs] at he; exact absurd he.symm hr
    | true =>
      rw [hs] at he
      simp only [cond_true] at he
      cases hs2 : te.isSlice with
      | true =>
        rw [hs2] at he
        obtain ⟨tr, htr, he⟩ := getTI_ok (k := fun tr => mkGS nx te tr (val ⟨ts, ops, g, ⟨t, h⟩, nx⟩ n) (val ⟨ts, ops, g, ⟨t, h⟩, nx⟩ c)) hts he hr
        exact effOk_or (mkGS_ok (P := P) hp hn ht hte hs (hv n) (hv c) he hr)
      | false =>
        rw [hs2] at he
        exact effOk_or (mkS_ok (P := P) hp hn ht hte hs (hv n) (hv c) he hr)
  | slice ty' x lo hi mx =>
    cases mx with
    | some _ => exact absurd he.symm hr
    | none =>
    obtain ⟨ti, ht, he⟩ := getTI_ok (k := fun ti => getTI ts ti.elem fun te => sliceS ti te.size nx h (valO ⟨ts, ops, g, ⟨t, h⟩, nx⟩ lo) (valO ⟨ts, ops, g, ⟨t, h⟩, nx⟩ hi) (noneO hi && hasAp ops) (val ⟨ts, ops, g, ⟨t, h⟩, nx⟩ x)) hts he hr
    obtain ⟨te, hte, he⟩ := getTI_ok hts he hr
    obtain ⟨l1, l2⟩ := valO_rel hv lo
    obtain ⟨l3, l4⟩ := valO_rel hv hi
    rcases sliceS_ok (P := P) hp hn ht hte (hv x) l1 l2 l3 l4 (fun q => by cases hi with | none => rfl | some _ => simp [noneO] at q) he hr with ⟨c, s', rfl, hc⟩ | he
    · intro hcc
      obtain ⟨u, e1, e2⟩ := hc hcc
      exact ⟨u, by simp only [execOp]; exact run_v e1, e2⟩
    · exact effOk_or he
  | makeMap ty' rs =>
    cases rs with
    | some _ => exact absurd he.symm hr
    | none =>
    obtain ⟨ti, ht, he⟩ := getTI_ok (k := fun ti => mmR nx ti.mkt ti.mvt) hts he hr
    unfold mmR at he
    split at he
    · rename_i kk vk hk hv'
      subst he
      intro _
      refine ⟨trivial, .map (some w.heap.size), own.set nx ⟨none, .map (some w.heap.size), [], [w.heap.size]⟩, w.alloc (.map #[] 0), .inl (by simp [execOp, Instr.makeMap, World.alloc_eq]), ?_, ?_⟩
      · have := Rel.os (F := F) (own := own.set nx ⟨none, .map (some w.heap.size), [], [w.heap.size]⟩) (w := w.alloc (.map #[] 0)) (Own.set_same _ _ _) rfl
        exact this
      · exact step_new hp hn (w1 := w) ⟨rfl, rfl, rfl, rfl⟩ _ _ _ rfl fun own' g => ⟨w.heap.size, #[], rfl, rfl, alloc_at _ _, rfl, fun i x hx => by simp [withPend] at hx⟩
    · exact absurd he.symm hr
  | lookup ty' m k ok =>
    obtain ⟨ti, ht, he⟩ := getTI_ok (k := fun ti => lookS ti h ok (val ⟨ts, ops, g, ⟨t, h⟩, nx⟩ k) (val ⟨ts, ops, g, ⟨t, h⟩, nx⟩ m)) hts he hr
    obtain ⟨s', rfl, u, e1, e2⟩ := lookS_ok (P := P) hp ht (hv m) (hv k) he hr
    exact ⟨u, by simp only [execOp]; exact run_v e1, e2⟩
  | mapUpdate ty' m k v =>
    obtain ⟨ti, ht, he⟩ := getTI_ok (k := fun ti => updS ti h (val ⟨ts, ops, g, ⟨t, h⟩, nx⟩ k) (val ⟨ts, ops, g, ⟨t, h⟩, nx⟩ v) (val ⟨ts, ops, g, ⟨t, h⟩, nx⟩ m)) hts he hr
    obtain ⟨ups, rfl, w', e1, e2⟩ := updS_ok (P := P) hp ht (hv m) (hv k) (hv v) he hr
    exact fun _ => ⟨trivial, undef, own, w', .inr ⟨by simp [execOp, e1], rfl⟩, .any _, e2⟩
  | mapEntry ty' m k =>
    obtain ⟨ti, ht, he⟩ := getTI_ok (k := fun ti => entS ti h (val ⟨ts, ops, g, ⟨t, h⟩, nx⟩ k) (val ⟨ts, ops, g, ⟨t, h⟩, nx⟩ m)) hts he hr
    exact effOk_or (entS_ok (P := P) hp ht (hv m) (hv k) he hr).1
  | entryStore ty' m s v =>
    obtain ⟨ti, ht, he⟩ := getTI_ok (k := fun ti => estS ti h (val ⟨ts, ops, g, ⟨t, h⟩, nx⟩ v) (val ⟨ts, ops, g, ⟨t, h⟩, nx⟩ m) (val ⟨ts, ops, g, ⟨t, h⟩, nx⟩ s)) hts he hr
    obtain ⟨c, ups, rfl, hc⟩ := estS_ok (P := P) hp ht (hv m) (hv s) (hv v) he hr
    intro hcc
    obtain ⟨w', e1, e2⟩ := hc hcc
    exact ⟨trivial, undef, own, w', .inr ⟨by simp [execOp, e1], rfl⟩, .any _, e2⟩
  | typeAssert x xt ty' ok =>
    obtain ⟨ti, ht, he⟩ := getTI_ok (k := fun ti => taS ty' ok ti (val ⟨ts, ops, g, ⟨t, h⟩, nx⟩ x)) hts he hr
    obtain ⟨i, d, z, hi, hd, hz, hq, rfl⟩ := tiOf_spec ht
    have hx := hv x
    unfold taS at he
    split at he
    · rename_i t' y hs
      rw [hs] at hx
      have ex := rel_v hx
      cases hif : (tiMk P ty' i d).iface with
      | true => rw [hif] at he; exact absurd he.symm hr
      | false =>
        rw [hif] at he; simp only [cond_false] at he
        cases hb : Nat.beq t' ty' with
        | false => rw [hb] at he; exact absurd he.symm hr
        | true =>
          rw [hb] at he; simp only [cond_true] at he
          have htt := Nat.eq_of_beq_eq_true hb
          have hrr : r = (bif ok then .val (.tup [.v y, .b true]) else .val (.v y)) := he.symm
          subst htt
          have hrun : (Instr.typeAssert (.iface t' y) xt t' ok).run P w = .ok (if ok then .tuple #[y, .bool true] else y) w := by
            cases d <;> simp [tiMk] at hif <;> cases ok <;> simp [Instr.typeAssert, run_underlying hd]
          rw [hrr]
          clear hrr
          cases ok with
          | false => exact ⟨y, by simp only [execOp, ex]; exact run_v hrun, .v _⟩
          | true =>
            refine ⟨.tuple #[y, .bool true], by simp only [execOp, ex]; exact run_v hrun, .tup rfl fun j s hj => ?_⟩
            cases j with
            | zero => simp at hj; subst hj; exact .v _
            | succ j =>
              cases j with
              | zero => simp at hj; subst hj; exact .v _
              | succ j => simp at hj
    · exact absurd he.symm hr
  | call c =>
    obtain ⟨callee, args, tys⟩ := c
    cases callee with
    | value f =>
      have hf := hv f
      change callS (vals _ args.toList) (val _ f) = r at he
      generalize hvf : a.eval f = vf at hf
      unfold callS at he
      split at he
      · rename_i fid first caps hs
        subst he; rw [hs] at hf
        cases hf with
        | fn q1 q2 q3 q4 =>
          rename_i us vs
          obtain ⟨p1, p2⟩ := vals_relL hv args
          refine ⟨us ++ args.map a.eval ++ vs, RelL.app (RelL.app ⟨q1, q3⟩ ⟨p1, p2⟩) ⟨q2, q4⟩, ?_⟩
          simp [execOp, resolve, hvf, Deferred.ofValue, invoke]
      · rename_i id hs
        subst he; rw [hs] at hf
        obtain ⟨hd, h1, rfl, h2⟩ := rel_os hf
        exact ⟨hd, h1, args.map a.eval, vals_relL hv args, by simp [execOp, resolve, hvf, yrun]⟩
      · exact absurd he.symm hr
    | invoke f m => exact absurd he.symm hr
    | builtin b =>
      obtain ⟨p1, p2⟩ := vals_relL hv args
      have hrun : ∀ (b : Builtin), (execOp a.eval { dst := dst, op := .call ⟨.builtin b, args, tys⟩, type := ty, pos := pos, after := after, guard := guard }) = builtin b tys ty (args.map fun | .const _ => true | _ => false) (args.map a.eval) := fun b => rfl
      cases b <;> first | (exact absurd he.symm hr) | skip
      ·
        change (match tys.toList with | [t', t2] => getTI ts t' fun ti => getTI ts t2 fun ti2 => getTI ts ti.elem fun te => bif ti.isSlice && ti2.isSlice then appS te nx h (vals _ args.toList) else .bad | _ => .bad) = r at he
        split at he
        · rename_i t' t2 htys
          obtain ⟨ti, ht, he⟩ := getTI_ok hts he hr
          obtain ⟨ti2, ht2, he⟩ := getTI_ok hts he hr
          obtain ⟨te, hte, he⟩ := getTI_ok hts he hr
          cases hs : ti.isSlice && ti2.isSlice with
          | false => rw [hs] at he; exact absurd he.symm hr
          | true =>
            rw [hs] at he
            rw [Bool.and_eq_true] at hs
            have htys' : tys = #[t', t2] := by cases tys; simp at htys; subst htys; rfl
            have := appS_ok (P := P) (ty := ty) hp hn ht ht2 hte hs.1 hs.2 ⟨p1, p2⟩ he hr
            rw [hrun, htys']
            simp only [builtin]
            exact effOk_or this
        · exact absurd he.symm hr
      ·
        change (match tys.toList with | [t'] => getTI ts t' fun ti => lenS ti h (vals _ args.toList) | _ => .bad) = r at he
        split at he
        · rename_i t' htys
          obtain ⟨ti, ht, he⟩ := getTI_ok hts he hr
          have htys' : tys = #[t'] := by cases tys; simp at htys; subst htys; rfl
          obtain ⟨n, hn', hl⟩ := lenS_ok (P := P) (ty := ty) hp ht ⟨p1, p2⟩ he hr
          have hfin : (execOp a.eval { dst := dst, op := .call ⟨.builtin .len, args, tys⟩, type := ty, pos := pos, after := after, guard := guard }).run P w = .ok (.value (.int .i64 n)) w := by
            rw [hrun, htys']
            simp only [builtin]
            exact run_v hl
          rcases hn' with ⟨c, rfl, hc⟩ | rfl
          · exact ⟨hc, _, hfin, .v _⟩
          · exact ⟨_, hfin, .v _⟩
        · exact absurd he.symm hr
      · change maxS (vals _ args.toList) = r at he
        unfold maxS at he
        split at he
        · rename_i k x k' y hvl
          subst he
          rw [hvl] at p1 p2
          have h0 := p2 0 _ rfl
          have h1 := p2 1 _ rfl
          generalize hgv : args.map a.eval = vs at *
          obtain ⟨l⟩ := vs
          match l, p1 with
          | [u, v], _ =>
            simp at h0 h1
            have e0 := rel_v h0; have e1 := rel_v h1
            subst e0; subst e1
            exact ⟨_, by rw [hrun]; simp [builtin, Builtin.max_, Builtin.max2], .v _⟩
        · exact absurd he.symm hr
      · change minS (vals _ args.toList) = r at he
        unfold minS at he
        split at he
        · rename_i k x k' y hvl
          subst he
          rw [hvl] at p1 p2
          have h0 := p2 0 _ rfl
          have h1 := p2 1 _ rfl
          generalize hgv : args.map a.eval = vs at *
          obtain ⟨l⟩ := vs
          match l, p1 with
          | [u, v], _ =>
            simp at h0 h1
            have e0 := rel_v h0; have e1 := rel_v h1
            subst e0; subst e1
            exact ⟨_, by rw [hrun]; simp [builtin, Builtin.min_, Builtin.min2], .v _⟩
        · exact absurd he.symm hr
  | range ty' x =>
    obtain ⟨ti, ht, he⟩ := getTI_ok (k := fun ti => rngS ti nx h (val ⟨ts, ops, g, ⟨t, h⟩, nx⟩ x)) hts he hr
    have hvx := hv x
    generalize val ⟨ts, ops, g, ⟨t, h⟩, nx⟩ x = sx at he hvx
    unfold rngS at he
    split at he
    · rename_i id
      obtain ⟨hdd, h1, hv1, h2⟩ := rel_os hvx
      cases ho : obAt h id with
      | mp kk vk l pend =>
        rw [ho] at he
        cases pend with
        | some _ => exact absurd he.symm hr
        | none =>
          simp only [rngO] at he
          cases hc : beqT kk ti.mkt && beqT vk ti.mvt with
          | false => rw [hc] at he; exact absurd he.symm hr
          | true =>
            rw [hc] at he; simp only [cond_true] at he
            simp only [Bool.and_eq_true] at hc
            subst he
            obtain ⟨kt, e, q1, _⟩ := map_ti ht (beqT_eq hc.1) (beqT_eq hc.2)
            obtain ⟨hd', e0, bm, es, m1, m2, m3, m4⟩ := hp.at ho rfl
            rw [h1] at e0; cases e0
            have hes : es.size = l.length := by simpa [withPend] using m4.1
            intro _
            refine ⟨trivial, .pointer (some ⟨w.heap.size, 0, none⟩), own.set nx ⟨some w.heap.size, undef, [], [w.heap.size]⟩, w.alloc (.mapIter (some bm) es.size #[] es.size), .inl ?_, .ptr (Own.set_same _ _ _) rfl, ?_⟩
            · have := run_range_map (P := P) w ty' kt e bm es es.size q1 m3
              have hx : a.eval x = .map (some bm) := by first | exact hv1.trans m1 | exact hv1.symm.trans m1
              simp [execOp, hx, this]
            · refine step_new hp hn (w1 := w) ⟨rfl, rfl, rfl, rfl⟩ _ _ _ rfl fun own' g => ⟨w.heap.size, rfl, rfl, fun i hi => ?_⟩
              cases hi
              obtain ⟨hd2, k1, k2⟩ := g.ids _ _ h1
              refine ⟨hd2, bm, #[], es.size, k1, k2.2.1.trans m1, by rw [← hes]; exact alloc_at _ _, by omega, List.nodup_range, fun k => by simp, fun j hj => by cases hj⟩
      | _ => rw [ho] at he; exact absurd he.symm hr
    · exact absurd he.symm hr
  | next it isS =>
    cases isS with
    | true => exact absurd he.symm hr
    | false =>
      have hvx := hv it
      change nxtS (val ⟨ts, ops, g, ⟨t, h⟩, nx⟩ it) = r at he
      generalize val ⟨ts, ops, g, ⟨t, h⟩, nx⟩ it = sx at he hvx
      unfold nxtS at he
      split at he
      · rename_i id
        subst he
        have key : ∀ v, Rel F own w (.ptr id 0) v → ∃ hd b, own id = some hd ∧ hd.p = some b ∧ v = .pointer (some ⟨b, 0, none⟩) := fun v h => by
          cases h with
          | ptr e1 e2 => exact ⟨_, _, e1, e2, rfl⟩
        obtain ⟨hd, b, e1, e2, hev⟩ := key _ hvx
        refine ⟨hd, b, e1, e2, ty, fun u w' hrun => ?_⟩
        simp [execOp, hev, hrun]
      · exact absurd he.symm hr
  | entry it =>
    have hvx := hv it
    change entrS h (val ⟨ts, ops, g, ⟨t, h⟩, nx⟩ it) = r at he
    generalize val ⟨ts, ops, g, ⟨t, h⟩, nx⟩ it = sx at he hvx
    unfold entrS at he
    split at he
    · rename_i id
      cases ho : obAt h id with
      | mi mid n left cur =>
        rw [ho] at he
        unfold entrO at he
        split at he
        · rename_i mid' n' left' j hob
          cases hob
          cases hm : obAt h mid' with
          | mp kk vk l pend =>
            rw [hm] at he
            cases pend with
            | some _ => exact absurd he.symm hr
            | none =>
              simp only [entrM] at he
              subst he
              rintro ⟨hn0, hj⟩
              have key : ∀ v, Rel F own w (.ptr id 0) v → ∃ hd b, own id = some hd ∧ hd.p = some b ∧ v = .pointer (some ⟨b, 0, none⟩) := fun v h => by
                cases h with
                | ptr e1 e2 => exact ⟨_, _, e1, e2, rfl⟩
              obtain ⟨hd, b, e1, e2, hev⟩ := key _ hvx
              obtain ⟨hd', e1', b', p1, p2, p3⟩ := hp.at ho rfl
              rw [e1] at e1'; cases e1'
              rw [e2] at p1; cases p1
              obtain ⟨hdm, bm, seen, c0, k1, k2, k3, k4, k5, k6, k7⟩ := p3 _ rfl
              obtain ⟨hs, hc0⟩ := k7 j rfl
              obtain ⟨hdm', k1', bm', es, m1, m2, m3, m4⟩ := hp.at hm rfl
              rw [k1] at k1'; cases k1'
              rw [k2] at m1; cases m1
              have hlt : j < l.length := by omega
              obtain ⟨en, f1, f2, f3, f4⟩ := m4.2 j l[j] (by simp [withPend, hlt])
              have hes : es.size = l.length := by simpa [withPend] using m4.1
              have hseen : seen = seen.pop.push en.born := by
                rw [f2]
                obtain ⟨xs, rfl⟩ := Array.back?_eq_some_iff.1 hs
                simp
              have hborn : (es.toList.map (·.born)).Nodup := by
                have : es.toList.map (·.born) = List.range es.size := by
                  refine List.ext_getElem? fun i => ?_
                  rw [List.getElem?_map]
                  by_cases hi : i < es.size
                  · have hi2 : i < l.length := by omega
                    obtain ⟨e3, g1, g2, _⟩ := m4.2 i l[i] (by simp [withPend, hi2])
                    rw [Array.getElem?_toList, g1]
                    simp [g2, hi]
                  · rw [Array.getElem?_toList, Array.getElem?_eq_none (by omega)]
                    simp [hi]
                rw [this]; exact List.nodup_range
              have hrun := run_entry_gen (P := P) (w := w) (b := b) (bm := bm) (since := n) (clock := es.size) (seen := seen.pop) (es := es) (e := en) (by rw [← hseen, k3]; congr 2; omega) m3 (by rw [Array.mem_toList_iff]; exact Array.mem_of_getElem? f1) hborn
              refine ⟨.tuple #[en.key, en.val], by simp [execOp, hev, hrun], .tup rfl fun k s hk => ?_⟩
              have hgd : l.getD j (dflt kk, dflt vk) = l[j] := by rw [List.getD_eq_getElem?_getD, List.getElem?_eq_getElem hlt]; rfl
              rw [hgd] at hk
              match k, hk with
              | 0, hk => cases hk; exact f3
              | 1, hk => cases hk; exact f4
          | _ => rw [hm] at he; exact absurd he.symm hr
        · exact absurd he.symm hr
      | _ => rw [ho] at he; exact absurd he.symm hr
    · exact absurd he.symm hr
  | _ => exact absurd he.symm hr
end
end Go.Sx
end
section
namespace Go.Sx
open Go.RowKit
def Dfr (F : Nat → Prop) (B : Bs) (w : World) (ds : List Deferred) : Prop :=
  ∃ (ms : List Deferred) (Ds : List Nat), ds = ms ++ B.ds ∧ ms.map (·.target) = Ds.map .collected ∧ Ds.Nodup ∧ ∀ D ∈ Ds, B.w.heap.size ≤ D ∧ F D ∧ w.heap[D]? = some (.deferred (some []))
theorem Dfr.fr {F : Nat → Prop} {B : Bs} {own own' : Own} {w w' : World} {ds : List Deferred} (h : Dfr F B w ds) (g : Fr { w := w, own := own } own' w') (hap : ∀ (id : Nat) (hd : Hd) (b : Nat), own id = some hd → b ∈ hd.bs → ¬ F b) : Dfr F B w' ds := by
  obtain ⟨ms, Ds, h0, h1, h2, h3⟩ := h
  refine ⟨ms, Ds, h0, h1, h2, fun D hD => ?_⟩
  obtain ⟨q1, q2, q3⟩ := h3 D hD
  exact ⟨q1, q2, by rw [g.block D ⟨heap_lt q3, fun ⟨id, hd, e, hb⟩ => hap id hd D e hb q2⟩]; exact q3⟩
theorem Dfr.nil {F : Nat → Prop} {B : Bs} {w : World} : Dfr F B w B.ds := ⟨[], [], rfl, rfl, List.nodup_nil, fun D h => by cases h⟩
def isRef (ops : List Oper) (j : Nat) : Prop := ∃ (i : Nat) (o : Oper) (b : Bool), ops[i]? = some o ∧ o.guard = some (j, b)
def SRel (F : Nat → Prop) (ops : List Oper) (E : Nat → Prop) (own : Own) (a : Act) (w : World) : SV → Value → Prop
  | .gd j b s, v => E j ∧ isRef ops j ∧ (yielded ops.toArray a.tmps j = some b → Rel F own w s v)
  | s, v => Rel F own w s v
def GOk (ops : List Oper) (a : Act) : Option (Nat × Bool) → Prop
  | none => True
  | some g => yielded ops.toArray a.tmps g.1 = some g.2
section
variable {P : Program} {F : Nat → Prop} {own : Own} {w : World} {ts : Tis}
theorem SRel_of_rel {ops : List Oper} {E : Nat → Prop} {a : Act} {s : SV} {v : Value} (h : Rel F own w s v) : SRel F ops E own a w s v := by
  cases s <;> first | exact h | cases h
theorem SRel.mono {ops : List Oper} {E E' : Nat → Prop} {a a' : Act} {own' : Own} {w' : World} {s : SV} {v : Value} (h : SRel F ops E own a w s v) (hn : ∀ j, E j → E' j) (g : Goes F own w own' w')
    (hy : ∀ j b, E j → isRef ops j → yielded ops.toArray a'.tmps j = some b → yielded ops.toArray a.tmps j = some b) : SRel F ops E' own' a' w' s v := by
  cases s with
  | gd j b s => exact ⟨hn j h.1, h.2.1, fun q => (h.2.2 (hy j b h.1 h.2.1 q)).mono g⟩
  | _ => exact Rel.mono g h
theorem yielded_eq (ops : List Oper) (tmps : Array Value) (j : Nat) (b : Bool) : yielded ops.toArray tmps j = some b ↔ ∃ o d, ops[j]? = some o ∧ o.dst = some d ∧ tmps[d]? = some (.bool b) := by
  unfold yielded
  simp only [List.getElem?_toArray]
  constructor
  · intro h
    split at h
    · rename_i x hx
      simp only [Option.some.injEq] at h
      subst h
      simp only [Option.bind_eq_some_iff] at hx
      obtain ⟨d, ⟨o, h1, h2⟩, h3⟩ := hx
      exact ⟨o, d, h1, h2, h3⟩
    · cases h
  · rintro ⟨o, d, h1, h2, h3⟩
    simp [h1, h2, h3]
structure ROk (N : Nat) (ops : List Oper) : Prop where
  dst : ∀ (i : Nat) (o : Oper) (d : Nat), ops[i]? = some o → o.dst = some d → d < N
  lt : ∀ (i : Nat) (o : Oper) (j : Nat) (b : Bool), ops[i]? = some o → o.guard = some (j, b) → j < i
  uniq : ∀ (j : Nat), isRef ops j → ∃ (o : Oper) (d : Nat), ops[j]? = some o ∧ o.dst = some d ∧ ∀ (k : Nat) (q : Oper), k ≠ j → ops[k]? = some q → q.dst ≠ some d
theorem rok_of {N : Nat} {ops : List Oper} (h : okOps N ops = true) : ROk N ops := by
  have h' : ∀ (i : Nat) (o : Oper), ops[i]? = some o → ((match o.dst with | some d => Nat.blt d N | none => true) && okGuard ops i o) = true := by
    intro i o ho
    unfold okOps at h
    rw [List.all_eq_true] at h
    have := h i (List.mem_range.2 (List.getElem?_eq_some_iff.1 ho).1)
    rw [nth_eq, ho] at this
    exact this
  refine ⟨fun i o d ho hd => ?_, fun i o j b ho hg => ?_, fun j ⟨i, o, b, ho, hg⟩ => ?_⟩
  · have := h' i o ho
    simp only [hd, Bool.and_eq_true] at this
    exact Nat.le_of_ble_eq_true this.1
  · have := h' i o ho
    simp only [okGuard, hg, Bool.and_eq_true] at this
    exact Nat.le_of_ble_eq_true this.2.1
  · have := h' i o ho
    simp only [okGuard, hg, Bool.and_eq_true] at this
    obtain ⟨_, _, h3⟩ := this
    rw [nth_eq] at h3
    cases hj : ops[j]? with
    | none => rw [hj] at h3; simp at h3
    | some q =>
      cases hd : q.dst with
      | none => rw [hj] at h3; simp [hd] at h3
      | some d =>
        rw [hj] at h3
        simp only [Option.bind_some, hd, List.all_eq_true, List.mem_range, Bool.or_eq_true] at h3
        refine ⟨q, d, rfl, hd, fun k p hk hp hpd => ?_⟩
        have := h3 k (List.getElem?_eq_some_iff.1 hp).1
        rw [nth_eq, hp] at this
        simp only [Option.bind_some, hpd] at this
        rcases this with e | e
        · exact hk (Nat.eq_of_beq_eq_true e)
        · simp at e
theorem implies_ok {E : Nat → Prop} {ops : List Oper} {a : Act} (hcl : ∀ (k : Nat) (o : Oper) (j : Nat) (b : Bool), E k → ops[k]? = some o → o.guard = some (j, b) → E j) (hg : ∀ (k : Nat) (o : Oper) (b : Bool), E k → isRef ops k → ops[k]? = some o → yielded ops.toArray a.tmps k = some b → GOk ops a o.guard) :
    ∀ (n : Nat) (g : Option (Nat × Bool)) (j : Nat) (b : Bool), (∀ k c, g = some (k, c) → E k ∧ isRef ops k) →
    implies ops n g j b = true → GOk ops a g → yielded ops.toArray a.tmps j = some b
  | 0, _, _, _, _, h, _ => by simp [implies] at h
  | n + 1, none, _, _, _, h, _ => by simp [implies] at h
  | n + 1, some (j', b'), j, b, hm, h, hk => by
    simp only [implies] at h
    cases hc : Nat.beq j' j && beqB b' b with
    | true =>
      simp only [Bool.and_eq_true] at hc
      have e1 := Nat.eq_of_beq_eq_true hc.1
      have e2 : b' = b := by cases b' <;> cases b <;> simp [beqB] at hc ⊢
      subst e1; subst e2
      exact hk
    | false =>
      simp only [hc, cond_false] at h
      have hk' : yielded ops.toArray a.tmps j' = some b' := hk
      obtain ⟨o, d, h1, h2, h3⟩ := (yielded_eq _ _ _ _).1 hk'
      obtain ⟨q1, q2⟩ := hm j' b' rfl
      rw [nth_eq, h1] at h
      refine implies_ok hcl hg n o.guard j b (fun k c hkc => ?_) h (hg j' o b' q1 q2 h1 hk')
      exact ⟨hcl j' o k c q1 h1 hkc, j', o, c, h1, hkc⟩
structure SInv (F : Nat → Prop) (w0 : Bs) (N : Nat) (ops : List Oper) (E : Nat → Prop) (own : Own) (st : St) (a : Act) (w : World) : Prop where
  size : a.tmps.size = N
  defers : Dfr F w0 w a.defers
  hp : Hp F own w st.h
  fr : Fr w0 own w
  slots : ∀ t, SRel F ops E own a w (lk t st.t) (a.tmps.getD t undef)
  tags : ∀ (k : Nat) (o : Oper) (d j : Nat) (b : Bool) (s : SV), E k → isRef ops k → ops[k]? = some o → o.dst = some d → lk d st.t = .gd j b s → o.guard = some (j, b)
  closed : ∀ (k : Nat) (o : Oper) (j : Nat) (b : Bool), E k → ops[k]? = some o → o.guard = some (j, b) → E j
  chain : ∀ (k : Nat) (o : Oper) (b : Bool), E k → isRef ops k → ops[k]? = some o → yielded ops.toArray a.tmps k = some b → GOk ops a o.guard
theorem val_ok {w0 : Bs} {N nx : Nat} {E : Nat → Prop} {ops : List Oper} {st : St} {a : Act} (hi : SInv F w0 N ops E own st a w) {g : Option (Nat × Bool)} (hg : GOk ops a g) (hgn : ∀ k c, g = some (k, c) → E k ∧ isRef ops k) (x : Operand) :
    Rel F own w (val ⟨ts, ops, g, st, nx⟩ x) (a.eval x) := by
  cases x with
  | tmp t =>
    have h := hi.slots t
    show Rel F own w (under ops g (lk t st.t)) (a.tmps.getD t undef)
    cases hs : lk t st.t with
    | gd j b s =>
      rw [hs] at h
      show Rel F own w (bif implies ops ops.length g j b then s else .any) _
      cases hm : implies ops ops.length g j b with
      | true => exact h.2.2 (implies_ok hi.closed hi.chain _ g j b hgn hm hg)
      | false => exact .any _
    | _ => rw [hs] at h; exact h
  | const v => exact .v v
  | func f => exact .fn rfl rfl (fun j s h => by simp at h) (fun j s h => by simp at h)
  | global g => exact .any _
theorem pick_ok {w0 : Bs} {N : Nat} {E : Nat → Prop} {ops : List Oper} {st : St} {a : Act} (hi : SInv F w0 N ops E own st a w) {g : Option (Nat × Bool)} (hg : GOk ops a g) (hgn : ∀ k c, g = some (k, c) → E k ∧ isRef ops k) (c x : Operand) (want : Bool)
    (hc : a.eval c = .bool want) : Rel F own w (pickSide ops g c want (raw st.t x)) (a.eval x) := by
  have hv := val_ok (ts := fun _ => none) (nx := 0) hi hg hgn x
  change Rel F own w (under ops g (raw st.t x)) (a.eval x) at hv
  cases hs : raw st.t x with
  | gd j b s =>
    rw [hs] at hv
    show Rel F own w (bif beqB b want && dstIs ops j c then s else under ops g (.gd j b s)) _
    cases hm : beqB b want && dstIs ops j c with
    | false => exact hv
    | true =>
      simp only [Bool.and_eq_true] at hm
      have e2 : b = want := by cases b <;> cases want <;> simp [beqB] at hm ⊢
      subst e2
      cases x with
      | tmp t =>
        have h := hi.slots t
        have hs' : lk t st.t = .gd j b s := hs
        rw [hs'] at h
        refine h.2.2 ((yielded_eq _ _ _ _).2 ?_)
        have hd := hm.2
        unfold dstIs at hd
        rw [nth_eq] at hd
        split at hd
        · rename_i d tc hb
          simp only [Option.bind_eq_some_iff] at hb
          obtain ⟨o, h1, h2⟩ := hb
          have e := Nat.eq_of_beq_eq_true hd
          subst e
          refine ⟨o, d, h1, h2, ?_⟩
          have : a.tmps.getD d undef = .bool b := hc
          simp only [Array.getD_eq_getD_getElem?] at this
          cases hq : a.tmps[d]? with
          | none => rw [hq] at this; simp [undef] at this
          | some v => rw [hq] at this; simpa using this
        · cases hd
      | const v => simp [raw] at hs
      | func f => simp [raw] at hs
      | global q => simp [raw] at hs
  | _ => rw [hs] at hv; exact hv
theorem lk_put (t : List (Nat × SV)) (d : Nat) (s : SV) (n : Nat) : lk n ((d, s) :: t) = if d = n then s else lk n t := by
  simp only [lk]
  by_cases h : d = n
  · subst h; simp
  · have : Nat.beq d n = false := by cases hb : Nat.beq d n with
      | false => rfl
      | true => exact absurd (Nat.eq_of_beq_eq_true hb) h
    rw [this, if_neg h]; rfl
theorem put_get (a : Act) (d : Nat) (v : Value) (hd : d < a.tmps.size) (n : Nat) : (a.put (some d) v).tmps.getD n undef = if d = n then v else a.tmps.getD n undef := by
  simp only [Act.put, Array.getD_eq_getD_getElem?, Array.getElem?_setIfInBounds]
  by_cases h : d = n
  · subst h; simp [hd]
  · simp [h]
theorem put_yield {ops : List Oper} {a : Act} {dst : Option Nat} {v : Value} {j : Nat} {q : Oper} {dj : Nat} (hq : ops[j]? = some q) (hd : q.dst = some dj) (hne : dst ≠ some dj) (b : Bool) :
    yielded ops.toArray (a.put dst v).tmps j = some b ↔ yielded ops.toArray a.tmps j = some b := by
  rw [yielded_eq, yielded_eq]
  have : (a.put dst v).tmps[dj]? = a.tmps[dj]? := by
    cases dst with
    | none => rfl
    | some d =>
      simp only [Act.put, Array.getElem?_setIfInBounds]
      rw [if_neg (fun e => hne (by rw [e]))]
  constructor <;> rintro ⟨o, d, h1, h2, h3⟩ <;> rw [hq] at h1 <;> cases h1 <;> rw [hd] at h2 <;> cases h2
  · exact ⟨q, dj, hq, hd, by rw [← this]; exact h3⟩
  · exact ⟨q, dj, hq, hd, by rw [this]; exact h3⟩
theorem SInv.step {w0 : Bs} {N n : Nat} {E E' : Nat → Prop} {ops : List Oper} {st : St} {a : Act} (hr : ROk N ops) (hE : ∀ k, E' k ↔ E k ∨ k = n) (hnE : ¬ E n) (hi : SInv F w0 N ops E own st a w) {o : Oper} (ho : ops[n]? = some o) {own' : Own} {w' : World} {h' : List Ob} {s : SV} {v : Value}
    (fr1 : Fr { w := w, own := own } own' w') (hp : Hp F own' w' h')
    (hgE : ∀ j b, o.guard = some (j, b) → E j) (hs : SRel F ops E' own' (a.put o.dst v) w' s v) (hch : ∀ b : Bool, v = .bool b → GOk ops a o.guard) (htag : ∀ j b s', s = .gd j b s' → o.guard = some (j, b)) :
    SInv F w0 N ops E' own' (St.put ⟨st.t, h'⟩ o.dst s) (a.put o.dst v) w' := by
  have g : Goes F own w own' w' := fr1.goes
  have hfr := hi.fr.trans fr1
  have hyk : ∀ j b, E j → isRef ops j → (yielded ops.toArray (a.put o.dst v).tmps j = some b ↔ yielded ops.toArray a.tmps j = some b) := by
    intro j b hj hrf
    obtain ⟨q, dj, h1, h2, h3⟩ := hr.uniq j hrf
    exact put_yield h1 h2 (h3 n o (fun e => hnE (e ▸ hj)) ho) b
  have hcl : ∀ (k : Nat) (q : Oper) (j : Nat) (b : Bool), E' k → ops[k]? = some q → q.guard = some (j, b) → E j := by
    intro k q j b hk hq hqg
    rcases (hE k).1 hk with hk | rfl
    · exact hi.closed k q j b hk hq hqg
    · rw [ho] at hq; cases hq; exact hgE j b hqg
  have hgk : ∀ (k : Nat) (q : Oper), E' k → ops[k]? = some q → GOk ops a q.guard → GOk ops (a.put o.dst v) q.guard := by
    intro k q hk hq hgo
    cases hqg : q.guard with
    | none => trivial
    | some g =>
      rw [hqg] at hgo
      exact (hyk g.1 g.2 (hcl k q g.1 g.2 hk hq hqg) ⟨k, q, g.2, hq, hqg⟩).2 hgo
  refine ⟨?_, ?_, ?_, hfr, ?_, ?_, fun k q j b hk hq hqg => (hE j).2 (.inl (hcl k q j b hk hq hqg)), ?_⟩
  · cases hd : o.dst <;> simp [Act.put, hi.size]
  · have : (a.put o.dst v).defers = a.defers := by cases hd : o.dst <;> rfl
    rw [this]; exact hi.defers.fr fr1 hi.hp.apart
  · cases hd : o.dst <;> exact hp
  · intro t
    have hold : SRel F ops E' own' (a.put o.dst v) w' (lk t st.t) (a.tmps.getD t undef) :=
      (hi.slots t).mono (fun j hj => (hE j).2 (.inl hj)) g (fun j b hj hrf => (hyk j b hj hrf).1)
    cases hd : o.dst with
    | none =>
      rw [hd] at hold
      exact hold
    | some d =>
      rw [hd] at hold hs
      show SRel F ops E' own' _ w' (lk t ((d, s) :: st.t)) _
      rw [lk_put, put_get _ _ _ (by rw [hi.size]; exact hr.dst n o d ho hd)]
      by_cases hdt : d = t
      · rw [if_pos hdt, if_pos hdt]; exact hs
      · rw [if_neg hdt, if_neg hdt]; exact hold
  · intro k q d j b s' hk hrf hq hqd hl
    rcases (hE k).1 hk with hkn | hkn
    · obtain ⟨q', d', h1, h2, h3⟩ := hr.uniq k hrf
      rw [hq] at h1; cases h1
      rw [hqd] at h2; cases h2
      have hne := h3 n o (fun e => hnE (e ▸ hkn)) ho
      refine hi.tags k q d j b s' hkn hrf hq hqd ?_
      cases hd : o.dst with
      | none => rw [hd] at hl; exact hl
      | some d2 =>
        rw [hd] at hl
        change lk d ((d2, s) :: st.t) = _ at hl
        rw [lk_put, if_neg (fun e => hne (by rw [hd, e]))] at hl
        exact hl
    · subst hkn
      rw [ho] at hq; cases hq
      rw [hqd] at hl
      change lk d ((d, s) :: st.t) = _ at hl
      rw [lk_put, if_pos rfl] at hl
      exact htag j b s' hl
  · intro k q b hk hrf hq hy
    rcases (hE k).1 hk with hkn | hkn
    · exact hgk k q hk hq (hi.chain k q b hkn hrf hq ((hyk k b hkn hrf).1 hy))
    · subst hkn
      rw [ho] at hq; cases hq
      refine hgk k o hk ho ?_
      obtain ⟨q, d, h1, h2, h3⟩ := (yielded_eq _ _ _ _).1 hy
      rw [ho] at h1; cases h1
      have hlt : d < a.tmps.size := by rw [hi.size]; exact hr.dst k o d ho h2
      rw [h2] at h3
      have : (a.put (some d) v).tmps[d]? = some v := by simp [Act.put, hlt]
      rw [this] at h3
      simp only [Option.some.injEq] at h3
      exact hch b h3
theorem guardP_ok {w0 : Bs} {N : Nat} {E : Nat → Prop} {ops : List Oper} {st : St} {a : Act} (hi : SInv F w0 N ops E own st a w) {t : List (Nat × SV)} (n : Nat)
    (ht : ∀ (j : Nat) (o : Oper) (d : Nat), j < n → E j → isRef ops j → ops[j]? = some o → o.dst = some d → lk d t = lk d st.t) (hlt : ∀ (i : Nat) (o : Oper) (j : Nat) (b : Bool), ops[i]? = some o → o.guard = some (j, b) → j < i) :
    ∀ (m : Nat) (g : Nat × Bool), g.1 < n → E g.1 → isRef ops g.1 → GOk ops a (some g) → guardP ops t m g
  | 0, _, _, _, _, _ => trivial
  | m + 1, (j, want), hjn, hj, hrf, hg => by
    have hg' : yielded ops.toArray a.tmps j = some want := hg
    obtain ⟨o, d, h1, h2, h3⟩ := (yielded_eq _ _ _ _).1 hg'
    have hs := hi.slots d
    have hv : a.tmps.getD d undef = .bool want := by simp [Array.getD_eq_getD_getElem?, h3]
    rw [hv] at hs
    simp only [guardP, nth_eq, h1, Option.bind_some, h2, ht j o d hjn hj hrf h1 h2]
    split
    · rename_i x hx
      rw [hx] at hs
      have := rel_v (F := F) (own := own) (w := w) hs
      simp at this; exact this.symm
    · rename_i j' b x hx
      rw [hx] at hs
      obtain ⟨q1, q2, q3⟩ := hs
      have htg := hi.tags j o d j' b _ hj hrf h1 h2 hx
      have hgo := hi.chain j o want hj hrf h1 hg'
      rw [htg] at hgo
      have := rel_v (q3 hgo)
      simp at this
      exact ⟨guardP_ok hi n ht hlt m (j', b) (Nat.lt_trans (hlt j o j' b h1 htg) hjn) q1 q2 hgo, this.symm⟩
    · trivial
theorem guardN_ok {w0 : Bs} {N : Nat} {E : Nat → Prop} {ops : List Oper} {st : St} {a : Act} (hi : SInv F w0 N ops E own st a w) :
    ∀ (m : Nat) (g : Nat × Bool), E g.1 → isRef ops g.1 → ¬ GOk ops a (some g) → guardN ops st.t m g
  | 0, _, _, _, _ => trivial
  | m + 1, (j, want), hj, hrf, hg => by
    have hg' : ¬ yielded ops.toArray a.tmps j = some want := hg
    simp only [guardN, nth_eq]
    cases ho : ops[j]? with
    | none => simp
    | some o =>
      cases hd : o.dst with
      | none => simp [hd]
      | some d =>
        simp only [Option.bind_some, hd]
        have hs := hi.slots d
        have hy : ∀ x, a.tmps.getD d undef = .bool x → yielded ops.toArray a.tmps j = some x := fun x hx => by
          refine (yielded_eq _ _ _ _).2 ⟨o, d, ho, hd, ?_⟩
          simp only [Array.getD_eq_getD_getElem?] at hx
          cases hq : a.tmps[d]? with
          | none => rw [hq] at hx; simp [undef] at hx
          | some v => rw [hq] at hx; simpa using hx
        split
        · rename_i x hx
          rw [hx] at hs
          have := rel_v (F := F) (own := own) (w := w) hs
          intro e
          exact hg' (e ▸ hy x this)
        · rename_i j' b x hx
          rw [hx] at hs
          obtain ⟨q1, q2, q3⟩ := hs
          by_cases hgo : GOk ops a (some (j', b))
          · right
            have := rel_v (q3 hgo)
            intro e
            exact hg' (e ▸ hy x this)
          · left
            exact guardN_ok hi m (j', b) q1 q2 hgo
        · trivial
variable {w0 : Bs} {N : Nat}
structure StRel (F : Nat → Prop) (w0 : Bs) (N : Nat) (own : Own) (st : St) (a : Act) (w : World) : Prop where
  size : a.tmps.size = N
  defers : Dfr F w0 w a.defers
  hp : Hp F own w st.h
  fr : Fr w0 own w
  slots : ∀ t, Rel F own w (lk t st.t) (a.tmps.getD t undef)
theorem StRel.start {own : Own} {st : St} {a : Act} {w : World} (h : StRel F w0 N own st a w) (ops : List Oper) {E : Nat → Prop} (hE : ∀ k, ¬ E k) : SInv F w0 N ops E own st a w :=
  ⟨h.size, h.defers, h.hp, h.fr, fun t => SRel_of_rel (h.slots t), fun k _ _ _ _ _ hk => (hE k hk).elim, fun k _ _ _ hk => (hE k hk).elim, fun k _ _ hk => (hE k hk).elim⟩
theorem lk_ungd (t : Nat) : ∀ l : List (Nat × SV), lk t (ungd l) = match lk t l with | .gd .. => .any | s => s
  | [] => rfl
  | (d, s) :: r => by
    have ih := lk_ungd t r
    cases s <;> simp only [ungd, lk] <;> (cases Nat.beq d t <;> simp only [cond_true, cond_false] <;> first | exact ih | rfl)
theorem lk_fwdT (h : List Ob) (t : Nat) : ∀ l : List (Nat × SV), lk t (fwdT h l) = fwdS h (lk t l)
  | [] => rfl
  | (d, s) :: r => by
    have ih := lk_fwdT h t r
    simp only [fwdT, lk]
    cases Nat.beq d t <;> simp only [cond_true, cond_false]
    exact ih
theorem unfwd_at : ∀ (h : List Ob) (id : Nat), obAt (unfwd h) id = unfO (obAt h id)
  | [], _ => rfl
  | o :: _, 0 => rfl
  | _ :: r, n + 1 => unfwd_at r n
theorem unfwd_len : ∀ h : List Ob, (unfwd h).length = h.length
  | [] => rfl
  | _ :: r => by simp only [unfwd, List.length_cons, unfwd_len r]
theorem fwdS_rel {own : Own} {w : World} {h : List Ob} (hp : Hp F own w h) {s : SV} {v : Value} (hr : Rel F own w s v) : Rel F own w (fwdS h s) v := by
  cases s with
  | os id =>
    simp only [fwdS]
    cases ho : obAt h id with
    | fwd n =>
      cases n with
      | none => exact hr
      | some n =>
        simp only [fwdO]
        cases hr with
        | os h1 h2 =>
          obtain ⟨hd', e0, e⟩ := hp.at ho rfl
          rw [h1] at e0; cases e0
          obtain ⟨hd2, k1, k2, k3⟩ := e n rfl
          rw [← k2] at h2 ⊢
          exact .os k1 h2
    | _ => exact hr
  | _ => exact hr
theorem StRel.cleanF {own : Own} {st : St} {a : Act} {w : World} (h : StRel F w0 N own st a w) : StRel F w0 N own (Sx.cleanF st) a w := by
  unfold Sx.cleanF
  cases anyFwd st.h with
  | false => exact h
  | true =>
    refine ⟨h.size, h.defers, ⟨fun id hd e => ?_, h.hp.foreign, h.hp.apart, h.hp.inj, h.hp.lt, fun id hd => ?_⟩, h.fr, fun t => ?_⟩
    · show id < (unfwd st.h).length
      rw [unfwd_len]; exact h.hp.dom id hd e
    · change isDead (obAt (unfwd st.h) id) = false at hd
      change ∃ hd, own id = some hd ∧ ObRel F own w hd (obAt (unfwd st.h) id)
      rw [unfwd_at] at hd ⊢
      cases ho : obAt st.h id with
      | fwd n => rw [ho] at hd; cases hd
      | dead => rw [ho] at hd; cases hd
      | _ => exact h.hp.at ho rfl
    · show Rel F own w (lk t (fwdT st.h st.t)) _
      rw [lk_fwdT]
      exact fwdS_rel h.hp (h.slots t)
theorem StRel.finish {own : Own} {st : St} {a : Act} {w : World} {ops : List Oper} {E : Nat → Prop} (h : SInv F w0 N ops E own st a w) : StRel F w0 N own (clean ops st) a w := by
  unfold clean
  refine StRel.cleanF ?_
  cases hg : ops.any (·.guard.isSome) with
  | true =>
    refine ⟨h.size, h.defers, h.hp, h.fr, fun t => ?_⟩
    have hs := h.slots t
    show Rel F own w (lk t (ungd st.t)) _
    rw [lk_ungd]
    cases hl : lk t st.t with
    | gd j b s => exact .any _
    | _ => rw [hl] at hs; exact hs
  | false =>
    refine ⟨h.size, h.defers, h.hp, h.fr, fun t => ?_⟩
    have hs := h.slots t
    show Rel F own w (lk t st.t) _
    cases hl : lk t st.t with
    | gd j b s =>
      rw [hl] at hs
      obtain ⟨_, ⟨i, o, b', h1, h2⟩, _⟩ := hs
      rw [List.any_eq_false] at hg
      have := hg o (List.mem_of_getElem? h1)
      simp [h2] at this
    | _ => rw [hl] at hs; exact hs
theorem StRel.ungd {own : Own} {st : St} {a : Act} {w : World} {ops : List Oper} {E : Nat → Prop} (h : SInv F w0 N ops E own st a w) : StRel F w0 N own ⟨Sx.ungd st.t, st.h⟩ a w := by
  refine ⟨h.size, h.defers, h.hp, h.fr, fun t => ?_⟩
  have hs := h.slots t
  show Rel F own w (lk t (Sx.ungd st.t)) _
  rw [lk_ungd]
  cases hl : lk t st.t with
  | gd j b s => exact .any _
  | _ => rw [hl] at hs; exact hs
end
end Go.Sx
end
section
namespace Go.Sx
open Go.RowKit
inductive PF : SV → Prop where
  | any : PF .any
  | v (x : Value) : PF (.v x)
  | e0 : PF .e0
  | rs {k : Tag} {l : List k.T} : PF (.rs k l)
  | rm {k k2 : Tag} {l : List (k.T × k2.T)} : PF (.rm k k2 l)
  | ep {l : List SV} {off : Nat} : (∀ (j : Nat) (s : SV), l[j]? = some s → PF s) → PF (.ep l off)
  | ls {l : List SV} : (∀ (j : Nat) (s : SV), l[j]? = some s → PF s) → PF (.ls l)
  | agg {l : List SV} : (∀ (j : Nat) (s : SV), l[j]? = some s → PF s) → PF (.agg l)
  | tup {l : List SV} : (∀ (j : Nat) (s : SV), l[j]? = some s → PF s) → PF (.tup l)
  | fn {f : FuncId} {l m : List SV} : (∀ (j : Nat) (s : SV), l[j]? = some s → PF s) → (∀ (j : Nat) (s : SV), m[j]? = some s → PF s) → PF (.fn f l m)
theorem pf_cells {k : Tag} {x : k.T} {j : Nat} {s : SV} (h : (cellsOf k x)[j]? = some s) : PF s := by
  rcases cellsOf_mem h with ⟨y, rfl, _⟩ | ⟨k', l', rfl, _⟩ | ⟨k', k2, l', rfl, _⟩
  · exact .v y
  · exact .rs
  · exact .rm
theorem pf_svT (k : Tag) (x : k.T) : PF (svT k x) := by
  unfold svT
  cases aggTag k with
  | true => exact .agg fun j s hj => pf_cells hj
  | false =>
    simp only [cond_false, nth_eq]
    cases h : (cellsOf k x)[0]? with
    | none => exact .any
    | some s => exact pf_cells h
theorem pf_of_noPtr : ∀ (n : Nat) (s : SV), noPtr n s = true → PF s
  | n, .v x, _ => .v x
  | n, .rs k l, _ => .rs
  | n, .rm _ _ _, _ => .rm
  | n, .e0, _ => .e0
  | n, .any, _ => .any
  | n + 1, .ep l _, h => .ep fun j s hj => pf_of_noPtr n s (by simp only [noPtr, List.all_eq_true] at h; exact h s (List.mem_of_getElem? hj))
  | n + 1, .ls l, h => .ls fun j s hj => pf_of_noPtr n s (by simp only [noPtr, List.all_eq_true] at h; exact h s (List.mem_of_getElem? hj))
  | n + 1, .agg l, h => .agg fun j s hj => pf_of_noPtr n s (by simp only [noPtr, List.all_eq_true] at h; exact h s (List.mem_of_getElem? hj))
  | n + 1, .tup l, h => .tup fun j s hj => pf_of_noPtr n s (by simp only [noPtr, List.all_eq_true] at h; exact h s (List.mem_of_getElem? hj))
  | n + 1, .fn _ l m, h => .fn (fun j s hj => pf_of_noPtr n s (by simp only [noPtr, Bool.and_eq_true, List.all_eq_true] at h; exact h.1 s (List.mem_of_getElem? hj))) (fun j s hj => pf_of_noPtr n s (by simp only [noPtr, Bool.and_eq_true, List.all_eq_true] at h; exact h.2 s (List.mem_of_getElem? hj)))
  | 0, .ep _ _, h | 0, .ls _, h | 0, .agg _, h | 0, .tup _, h | 0, .fn _ _ _, h => by simp [noPtr] at h
  | 0, .ptr _ _, h | 0, .os _, h | 0, .rp _ _ _ _, h | 0, .gr _ _, h | 0, .gp _ _ _ _ _, h | 0, .nw _ _, h | 0, .nm _ _ _, h | 0, .ng _ _, h | 0, .gd _ _ _, h | 0, .vw _ _ _ _, h => by simp [noPtr] at h
  | _ + 1, .ptr _ _, h | _ + 1, .os _, h | _ + 1, .rp _ _ _ _, h | _ + 1, .gr _ _, h | _ + 1, .gp _ _ _ _ _, h | _ + 1, .nw _ _, h | _ + 1, .nm _ _ _, h | _ + 1, .ng _ _, h | _ + 1, .gd _ _ _, h | _ + 1, .vw _ _ _ _, h => by simp [noPtr] at h
section
variable {P : Program} {F F' : Nat → Prop} {own own' : Own} {w w' : World} {ts : Tis}
theorem Rel.over {s : SV} {v : Value} (hr : Rel F own w s v) (hp : PF s) (ho : ∀ b, ¬ ownB F own b → ¬ ownB F' own' b) : Rel F' own' w s v := by
  induction hr with
  | any v => exact .any v
  | v x => exact .v x
  | ptr h1 h2 => cases hp
  | os h1 h2 => cases hp
  | e0 => exact .e0
  | rp h1 h2 h3 => cases hp
  | gr h1 h2 h3 => cases hp
  | gp h1 h2 h3 => cases hp
  | vw h1 h2 => cases hp
  | ep c h1 _ ih => cases hp with | ep hq => exact .ep c (fun j s hj => ⟨ho _ (h1 j s hj).1, (h1 j s hj).2⟩) fun j s hj => ih j s hj (hq j s hj)
  | rs c h0 h0' h1 _ ih => exact .rs c h0 h0' (fun i x hi j s hj => ⟨ho _ (h1 i x hi j s hj).1, (h1 i x hi j s hj).2⟩) fun i x hi j s hj => ih i x hi j s hj (pf_cells hj)
  | rs0 => exact .rs0
  | ls c h0 h1 _ ih => cases hp with | ls hq => exact .ls c h0 (fun j s hj => ⟨ho _ (h1 j s hj).1, (h1 j s hj).2⟩) fun j s hj => ih j s hj (hq j s hj)
  | rm ck cv es clock h0 h1 h2 h3 _ _ ih1 ih2 => exact .rm ck cv es clock (ho _ h0) h1 h2 h3 (fun i x hi => ih1 i x hi (pf_svT _ _)) (fun i x hi => ih2 i x hi (pf_svT _ _))
  | rm0 => exact .rm0
  | agg h0 _ ih => cases hp with | agg hq => exact .agg h0 fun j s hj => ih j s hj (hq j s hj)
  | tup h0 _ ih => cases hp with | tup hq => exact .tup h0 fun j s hj => ih j s hj (hq j s hj)
  | fn h0 h0' _ _ ih1 ih2 => cases hp with | fn hq hq' => exact .fn h0 h0' (fun j s hj => ih1 j s hj (hq j s hj)) fun j s hj => ih2 j s hj (hq' j s hj)
theorem pf_of_rel {s : SV} {v : Value} (h : Rel F own0 w s v) : PF s := by
  generalize ho : own0 = o at h
  induction h with
  | any v => exact .any
  | v x => exact .v x
  | ptr h1 h2 => subst ho; cases h1
  | os h1 h2 => subst ho; cases h1
  | e0 => exact .e0
  | rp h1 h2 h3 => subst ho; cases h1
  | gr h1 h2 h3 => subst ho; cases h1
  | gp h1 h2 h3 => subst ho; cases h1
  | vw h1 h2 => subst ho; cases h1
  | ep c h1 _ ih => exact .ep fun j s hj => ih j s hj
  | rs c h0 h0' h1 _ ih => exact .rs
  | rs0 => exact .rs
  | ls c h0 h1 _ ih => exact .ls fun j s hj => ih j s hj
  | rm ck cv es clock h0 h1 h2 h3 _ _ ih1 ih2 => exact .rm
  | rm0 => exact .rm
  | agg h0 _ ih => exact .agg fun j s hj => ih j s hj
  | tup h0 _ ih => exact .tup fun j s hj => ih j s hj
  | fn h0 h0' _ _ ih1 ih2 => exact .fn (fun j s hj => ih1 j s hj) fun j s hj => ih2 j s hj
theorem map_get {α β : Type} {f : α → β} {l : List α} {j : Nat} {s : β} (h : (l.map f)[j]? = some s) : ∃ x, l[j]? = some x ∧ f x = s := by
  simpa using h
theorem own0B {b : Nat} (h : ¬ F b) : ¬ ownB F own0 b := by
  rintro (hf | ⟨id, hd, e, _⟩)
  · exact h hf
  · cases e
theorem notF {b : Nat} (h : ¬ ownB F own b) : ¬ F b := fun hf => h (.inl hf)
theorem row_rs (hF : ∀ b, F' b → F b ) {k : Tag} {l : List k.T} {v : Value} {bs : List Nat} (hr : RowRel F own w k l v bs) (hbs : ∀ b ∈ bs, ¬ F b) : Rel F' own0 w (.rs k l) v := by
  rcases hr with ⟨a, rfl, rfl, _⟩ | ⟨b, o, cap, cs, ty, rfl, rfl, h3, h4, h5, h6, h7⟩
  · exact .rs0
  · refine .rs (fun i j => cs.getD (o + i * sizeOfTag k + j) undef) h5 h6 (fun i x hi j s hj => ?_) (fun i x hi j s hj => ?_)
    · obtain ⟨u, e1, e2⟩ := h7 i x hi j s hj
      refine ⟨own0B fun hf => hbs b (by simp) (hF _ hf), ?_⟩
      rw [cell_of_heap h3, e1]
      simp [Array.getD_eq_getD_getElem?, e1]
    · obtain ⟨u, e1, e2⟩ := h7 i x hi j s hj
      have : cs.getD (o + i * sizeOfTag k + j) undef = u := by simp [Array.getD_eq_getD_getElem?, e1]
      rw [this]
      exact e2.over (pf_cells hj) fun b hb => own0B fun hf => hb (.inl (hF _ hf))
theorem gridS_cases (k : Tag) (l : List (List k.T)) : (∃ (k' : Tag) (l' : List k'.T), gridS k l = .rs k' l' ∧ l'.length = l.length ∧ sizeOfTag k' = 1 ∧ ∀ (i : Nat) (x : k'.T), l'[i]? = some x → cellsOf k' x = [.rs k (l.getD i [])]) ∨ gridS k l = .any := by
  cases k <;> first | exact .inr rfl | (left; exact ⟨_, _, rfl, rfl, rfl, fun i x hx => by simp [List.getD, hx, cellsOf]⟩)
theorem frz_rel {h : List Ob} (hp : Hp F own w h) {id : Nat} {v : Value} (hr : Rel F own w (.os id) v) : Rel F own0 w (frz (obAt h id)) v := by
  obtain ⟨hd, h1, rfl, h2⟩ := rel_os hr
  cases ho : obAt h id with
  | row k l =>
    obtain ⟨hd', e0, e⟩ := hp.at ho rfl
    rw [h1] at e0; cases e0
    exact row_rs (fun _ h => h) e fun b hb => hp.apart id hd b h1 hb
  | mp kk vk l pend =>
    cases pend with
    | some _ => exact .any _
    | none =>
      obtain ⟨hd', e0, b, es, m1, m2, m3, m4⟩ := hp.at ho rfl
      rw [h1] at e0; cases e0
      rw [m1]
      have hnb : ¬ ownB F own0 b := own0B (hp.apart id hd b h1 (by simp [m2]))
      have hg : ∀ i, es[i]? = some ⟨(es.getD i default).key, (es.getD i default).val, (es.getD i default).born⟩ ∨ es.size ≤ i := fun i => by
        rcases Nat.lt_or_ge i es.size with hlt | hge
        · left; simp [Array.getD_eq_getD_getElem?, hlt]
        · exact .inr hge
      refine .rm (fun i => (es.getD i default).key) (fun i => (es.getD i default).val) es es.size hnb m3 m4.1 (fun i x hi => ?_) (fun i x hi => ?_) (fun i x hi => ?_)
      · obtain ⟨e, e1, e2, e3, e4⟩ := m4.2 i x hi
        exact ⟨_, (hg i).resolve_right (by have := (Array.getElem?_eq_some_iff.1 e1).1; omega)⟩
      · obtain ⟨e, e1, e2, e3, e4⟩ := m4.2 i x hi
        have : es.getD i default = e := by simp [Array.getD_eq_getD_getElem?, e1]
        rw [this]; exact e3.over (pf_svT _ _) fun b hb => own0B (notF hb)
      · obtain ⟨e, e1, e2, e3, e4⟩ := m4.2 i x hi
        have : es.getD i default = e := by simp [Array.getD_eq_getD_getElem?, e1]
        rw [this]; exact e4.over (pf_svT _ _) fun b hb => own0B (notF hb)
  | grid k l =>
    obtain ⟨hd', e0, e⟩ := hp.at ho rfl
    rw [h1] at e0; cases e0
    show Rel F own0 w (gridS k l) hd.v
    rcases gridS_cases k l with ⟨k', l', q1, q2, q3, q4⟩ | q
    · rw [q1]
      rcases e with ⟨e1, rfl, _⟩ | ⟨b, o, cap, cs, ty, bs, e1, e2, e3, e4, e5, e6, e7, e8, e9⟩
      · have : l' = [] := List.eq_nil_of_length_eq_zero (by simpa using q2)
        rw [this, e1]; exact .rs0
      · rw [e1, ← q2]
        have hvl := e9.len
        refine .rs (fun i j => hd.vs.getD i undef) (by omega) (by omega) (fun i x hi j s hj => ?_) (fun i x hi j s hj => ?_)
        · have hil : i < hd.vs.length := by rw [hvl, ← q2]; exact (List.getElem?_eq_some_iff.1 hi).1
          rw [q4 i x hi] at hj
          cases j with
          | succ j => simp at hj
          | zero =>
            refine ⟨own0B (hp.apart id hd b h1 (by simp [e2])), ?_⟩
            rw [q3, Nat.mul_one, Nat.add_zero, cell_of_heap e4]
            exact e8 i _ (getD_get hil)
        · have hil : i < hd.vs.length := by rw [hvl, ← q2]; exact (List.getElem?_eq_some_iff.1 hi).1
          rw [q4 i x hi] at hj
          cases j with
          | succ j => simp at hj
          | zero =>
            simp at hj; subst hj
            obtain ⟨b1, k1, k2, k3, k4⟩ := e9.get (getD_get (d := undef) hil)
            exact row_rs (fun _ h => h) k3 fun c hc => hp.apart id hd c h1 (by rw [e2]; exact List.mem_cons_of_mem _ (k4 c hc))
    · rw [q]; exact .any _
  | _ => exact .any _
theorem RowAt.ep {k : Tag} {l : List k.T} {o b : Nat} {cs : Array Value} {ty : TypeId} (h3 : w.heap[b]? = some (.cells cs ty (0, 0))) (h7 : RowAt F own w k l o cs) (hb : ¬ F b) {i : Nat} (hi : i < l.length) (off : Nat) : Rel F own0 w (.ep (cellsOf k (l.getD i (dflt k))) off) (.pointer (some ⟨b, o + i * sizeOfTag k + off, none⟩)) := by
  refine .ep (fun j => cs.getD (o + i * sizeOfTag k + j) undef) (fun j s hj => ?_) (fun j s hj => ?_)
  · obtain ⟨e1, e2⟩ := h7.get hi hj
    exact ⟨own0B hb, by rw [cell_of_heap h3]; exact e1⟩
  · obtain ⟨e1, e2⟩ := h7.get hi hj
    exact e2.over (pf_cells hj) fun b hb => own0B (notF hb)
theorem exp_rel {h : List Ob} (hp : Hp F own w h) : ∀ (n : Nat) (s : SV) (v : Value), Rel F own w s v → Rel F own0 w (expS h n s) v := by
  have flat : ∀ (n : Nat) (s : SV) (v : Value), Rel F own w s v → (∀ l o, s ≠ .ep l o) → (∀ l, s ≠ .ls l) → (∀ l, s ≠ .agg l) → (∀ l, s ≠ .tup l) → (∀ f l m, s ≠ .fn f l m) → (∀ i o, s ≠ .ptr i o) → Rel F own0 w (expS h n s) v := by
    intro n s v hr n1 n2 n3 n4 n5 n6
    cases hr with
    | any => cases n <;> exact .any _
    | v x => cases n <;> exact .v _
    | ptr => exact absurd rfl (n6 _ _)
    | os h1 h2 => cases n <;> exact frz_rel hp (.os h1 h2)
    | vw => cases n <;> exact .any _
    | e0 => cases n <;> exact .e0
    | rp h1 h2 h3 =>
      rename_i szt id off nn cap b o i hd
      have key : Rel F own0 w (bif Nat.beq szt 0 then .any else rowE szt off i (obAt h id)) (.pointer (some ⟨b, o + i.toNat * szt + off, none⟩)) := by
        cases hz : Nat.beq szt 0 with
        | true => exact .any _
        | false =>
          simp only [cond_false]
          cases ho : obAt h id with
          | row k l =>
            simp only [rowE]
            cases hb : Nat.beq szt (sizeOfTag k) with
            | false => exact .any _
            | true =>
              have hsz := Nat.eq_of_beq_eq_true hb
              obtain ⟨hd', e0, e⟩ := hp.at ho rfl
              rw [h1] at e0; cases e0
              rcases e with ⟨a, e1, _⟩ | ⟨b', o', cap', cs, ty, e1, e2, e3, e4, e5, e6, e7⟩
              · rw [h2] at e1; cases e1; omega
              · rw [h2] at e1
                simp only [Value.slice.injEq, Option.some.injEq, Addr.mk.injEq] at e1
                obtain ⟨⟨rfl, rfl, _⟩, rfl, rfl⟩ := e1
                rw [hsz]
                exact RowAt.ep e3 e7 (hp.apart id hd b h1 (by simp [e2])) h3 off
          | _ => exact .any _
      cases n <;> exact key
    | gr h1 h2 h3 =>
      rename_i id i hd
      have key : Rel F own0 w (gridR i (obAt h id)) v := by
        cases ho : obAt h id with
        | grid k l =>
          obtain ⟨hd', e0, e⟩ := hp.at ho rfl
          rw [h1] at e0; cases e0
          rcases e with ⟨_, _, e1, _⟩ | ⟨b, o, cap, cs, ty, bs, e1, e2, e3, e4, e5, e6, e7, e8, e9⟩
          · rw [e1] at h2; simp at h2
          · obtain ⟨b1, k1, k2, k3, k4⟩ := e9.get h2
            exact row_rs (fun _ h => h) k3 fun c hc => hp.apart id hd c h1 (by rw [e2]; exact List.mem_cons_of_mem _ (k4 c hc))
        | _ => exact .any _
      cases n <;> exact key
    | gp h1 h2 h3 =>
      rename_i szt id off nn cap b o i j hd
      have key : Rel F own0 w (bif Nat.beq szt 0 then .any else gridE szt off i j (obAt h id)) (.pointer (some ⟨b, o + j.toNat * szt + off, none⟩)) := by
        cases hz : Nat.beq szt 0 with
        | true => exact .any _
        | false =>
          simp only [cond_false]
          cases ho : obAt h id with
          | grid k l =>
            simp only [gridE]
            cases hb : Nat.beq szt (sizeOfTag k) with
            | false => exact .any _
            | true =>
              have hsz := Nat.eq_of_beq_eq_true hb
              obtain ⟨hd', e0, e⟩ := hp.at ho rfl
              rw [h1] at e0; cases e0
              rcases e with ⟨_, _, e1, _⟩ | ⟨b', o', cap', cs, ty, bs, e1, e2, e3, e4, e5, e6, e7, e8, e9⟩
              · rw [e1] at h2; simp at h2
              · obtain ⟨b1, k1, k2, k3, k4⟩ := e9.get h2
                rcases k3 with ⟨a, m1, _⟩ | ⟨b2, o2, cap2, cs2, ty2, m1, m2, m3, m4, m5, m6, m7⟩
                · cases m1; omega
                · simp only [Value.slice.injEq, Option.some.injEq, Addr.mk.injEq] at m1
                  obtain ⟨⟨rfl, rfl, _⟩, rfl, rfl⟩ := m1
                  rw [hsz]
                  exact RowAt.ep m3 m7 (hp.apart id hd b h1 (by rw [e2]; exact List.mem_cons_of_mem _ (k4 b (by simp [m2])))) h3 off
          | _ => exact .any _
      cases n <;> exact key
    | ep => exact absurd rfl (n1 _ _)
    | rs c h0 h0' h1 h2 => cases n <;> exact Rel.over (.rs c h0 h0' h1 h2) .rs fun b hb => own0B (notF hb)
    | rs0 => cases n <;> exact .rs0
    | ls => exact absurd rfl (n2 _)
    | rm ck cv es clock h0 h1 h2 h3 h4 h5 => cases n <;> exact Rel.over (.rm ck cv es clock h0 h1 h2 h3 h4 h5) .rm fun b hb => own0B (notF hb)
    | rm0 => cases n <;> exact .rm0
    | agg => exact absurd rfl (n3 _)
    | tup => exact absurd rfl (n4 _)
    | fn => exact absurd rfl (n5 _ _ _)
  intro n
  induction n with
  | zero =>
    intro s v hr
    cases s <;> first | exact .any _ | (refine flat 0 _ _ hr ?_ ?_ ?_ ?_ ?_ ?_ <;> intros <;> (intro e; cases e)) | cases hr
  | succ n ih =>
    intro s v hr
    cases s with
    | ptr id off =>
      cases hr with
      | ptr h1 h2 =>
        rename_i b hd
        simp only [expS]
        cases ho : obAt h id with
        | cells l =>
          simp only [expP]
          obtain ⟨hd', e0, b', cs, ty, e1, e2, e3, e4, e5⟩ := hp.at ho rfl
          rw [h1] at e0; cases e0
          rw [h2] at e1; cases e1
          have := Rel.ep (F := F) (own := own0) (w := w) (cells := l.map (expS h n)) (off := off) (b := b) (o := 0) (fun j => cs.getD j undef)
            (fun j s hj => by
              obtain ⟨x, hx, rfl⟩ := map_get hj
              refine ⟨own0B (hp.apart _ _ b h1 (by simp [e2])), ?_⟩
              have hjl : j < cs.size := by rw [e4]; exact (List.getElem?_eq_some_iff.1 hx).1
              rw [Nat.zero_add, cell_of_heap e3]; simp [hjl])
            (fun j s hj => by
              obtain ⟨x, hx, rfl⟩ := map_get hj
              exact ih x _ (e5 j x hx))
          simpa using this
        | _ => exact .any _
    | ep l o =>
      cases hr with
      | ep c h1 h2 =>
        simp only [expS]
        exact .ep c (fun j s hj => by obtain ⟨x, hx, rfl⟩ := map_get hj; exact ⟨own0B (notF (h1 j x hx).1), (h1 j x hx).2⟩) (fun j s hj => by obtain ⟨x, hx, rfl⟩ := map_get hj; exact ih x _ (h2 j x hx))
    | ls l =>
      cases hr with
      | ls c h0 h1 h2 =>
        simp only [expS]
        have := Rel.ls (F := F) (own := own0) (w := w) (l := l.map (expS h n)) c (by simpa using h0) (fun j s hj => by obtain ⟨x, hx, rfl⟩ := map_get hj; exact ⟨own0B (notF (h1 j x hx).1), (h1 j x hx).2⟩) (fun j s hj => by obtain ⟨x, hx, rfl⟩ := map_get hj; exact ih x _ (h2 j x hx))
        simpa using this
    | agg l => cases hr with | agg h0 h1 => simp only [expS]; exact .agg (by simpa using h0) fun j s hj => by obtain ⟨x, hx, rfl⟩ := map_get hj; exact ih x _ (h1 j x hx)
    | tup l => cases hr with | tup h0 h1 => simp only [expS]; exact .tup (by simpa using h0) fun j s hj => by obtain ⟨x, hx, rfl⟩ := map_get hj; exact ih x _ (h1 j x hx)
    | fn f l m => cases hr with | fn h0 h0' h1 h2 => simp only [expS]; exact .fn (by simpa using h0) (by simpa using h0') (fun j s hj => by obtain ⟨x, hx, rfl⟩ := map_get hj; exact ih x _ (h1 j x hx)) fun j s hj => by obtain ⟨x, hx, rfl⟩ := map_get hj; exact ih x _ (h2 j x hx)
    | _ => first | (refine flat (n + 1) _ _ hr ?_ ?_ ?_ ?_ ?_ ?_ <;> intros <;> (intro e; cases e)) | cases hr
theorem exp_pf {h : List Ob} : ∀ (n : Nat) (s : SV) (v : Value), PF s → Rel F own w s v → Rel (ownB F own) own0 w (expS h n s) v := by
  have hown : ∀ b, ¬ ownB F own b → ¬ ownB (ownB F own) own0 b := fun b hb => own0B hb
  intro n
  induction n with
  | zero =>
    intro s v hpf hr
    cases hpf with
    | any => exact .any _
    | v x => exact hr.over (.v x) hown
    | e0 => exact hr.over .e0 hown
    | rs => exact hr.over .rs hown
    | rm => exact hr.over .rm hown
    | _ => exact .any _
  | succ n ih =>
    intro s v hpf hr
    cases hpf with
    | any => exact .any _
    | v x => exact hr.over (.v x) hown
    | e0 => exact hr.over .e0 hown
    | rs => exact hr.over .rs hown
    | rm => exact hr.over .rm hown
    | ep hq =>
      cases hr with
      | ep c h1 h2 =>
        simp only [expS]
        exact .ep c (fun j s hj => by obtain ⟨x, hx, rfl⟩ := map_get hj; exact ⟨hown _ (h1 j x hx).1, (h1 j x hx).2⟩) (fun j s hj => by obtain ⟨x, hx, rfl⟩ := map_get hj; exact ih x _ (hq j x hx) (h2 j x hx))
    | ls hq =>
      cases hr with
      | ls c h0 h1 h2 =>
        simp only [expS]
        rename_i l b o cap
        have := Rel.ls (F := ownB F own) (own := own0) (w := w) (l := l.map (expS h n)) c (by simpa using h0) (fun j s hj => by obtain ⟨x, hx, rfl⟩ := map_get hj; exact ⟨hown _ (h1 j x hx).1, (h1 j x hx).2⟩) (fun j s hj => by obtain ⟨x, hx, rfl⟩ := map_get hj; exact ih x _ (hq j x hx) (h2 j x hx))
        simpa using this
    | agg hq => cases hr with | agg h0 h1 => simp only [expS]; exact .agg (by simpa using h0) fun j s hj => by obtain ⟨x, hx, rfl⟩ := map_get hj; exact ih x _ (hq j x hx) (h1 j x hx)
    | tup hq => cases hr with | tup h0 h1 => simp only [expS]; exact .tup (by simpa using h0) fun j s hj => by obtain ⟨x, hx, rfl⟩ := map_get hj; exact ih x _ (hq j x hx) (h1 j x hx)
    | fn hq hq' => cases hr with | fn h0 h0' h1 h2 => simp only [expS]; exact .fn (by simpa using h0) (by simpa using h0') (fun j s hj => by obtain ⟨x, hx, rfl⟩ := map_get hj; exact ih x _ (hq j x hx) (h1 j x hx)) fun j s hj => by obtain ⟨x, hx, rfl⟩ := map_get hj; exact ih x _ (hq' j x hx) (h2 j x hx)
def cnt (n : Nat) : List SV → Nat
  | [] => 0
  | x :: r => (rowsOf n x).length + cnt n r
def HandV (F : Nat → Prop) (own : Own) (w : World) : Nat → Nat → SV → Value → Prop
  | _, b, .nw _ _, v => ∃ hd, own b = some hd ∧ v = hd.v ∧ one1 v = true
  | _, b, .nm _ _ _, v => ∃ hd, own b = some hd ∧ v = hd.v ∧ one1 v = true
  | _, b, .ng _ _, v => ∃ hd, own b = some hd ∧ v = hd.v ∧ one1 v = true
  | n + 1, b, .agg l, v => ∃ vs, v = .agg vs ∧ vs.size = l.length ∧ ∀ (j : Nat) (s : SV), l[j]? = some s → HandV F own w n (b + cnt n (l.take j)) s (vs.getD j undef)
  | n + 1, b, .tup l, v => ∃ vs, v = .tuple vs ∧ vs.size = l.length ∧ ∀ (j : Nat) (s : SV), l[j]? = some s → HandV F own w n (b + cnt n (l.take j)) s (vs.getD j undef)
  | _, _, s, v => Rel (ownB F own) own0 w s v
theorem adoptL_get (f : Nat → SV → SV) (n : Nat) : ∀ (l : List SV) (b j : Nat) (s : SV), (adoptL f (fun s => (rowsOf n s).length) b l)[j]? = some s → ∃ x, l[j]? = some x ∧ s = f (b + cnt n (l.take j)) x
  | [], b, j, s, h => by simp [adoptL] at h
  | x :: r, b, 0, s, h => by simp [adoptL] at h; exact ⟨x, rfl, by simp [cnt, h]⟩
  | x :: r, b, j + 1, s, h => by
    simp [adoptL] at h
    obtain ⟨y, h1, h2⟩ := adoptL_get f n r _ j s h
    exact ⟨y, by simpa using h1, by rw [h2]; simp [cnt, Nat.add_assoc]⟩
theorem adoptL_len (f : Nat → SV → SV) (c : SV → Nat) : ∀ (l : List SV) (b : Nat), (adoptL f c b l).length = l.length
  | [], b => rfl
  | x :: r, b => by simp [adoptL, adoptL_len f c r]
theorem scal_leaf : ∀ (n : Nat) (s : SV) (v : Value), scal n s = true → (∀ k l, s ≠ .nw k l) → (∀ k k2 l, s ≠ .nm k k2 l) → (∀ k l, s ≠ .ng k l) → (∀ l, s ≠ .agg l) → (∀ l, s ≠ .tup l) → Rel F own w s v → Rel F' own' w' s v := by
  intro n s v h n1 n2 n3 n4 n5 hr
  cases s with
  | v x => cases hr; exact .v _
  | nw k l => exact absurd rfl (n1 _ _)
  | nm k k2 l => exact absurd rfl (n2 _ _ _)
  | ng k l => exact absurd rfl (n3 _ _)
  | agg l => exact absurd rfl (n4 _)
  | tup l => exact absurd rfl (n5 _)
  | _ => cases n <;> simp [scal] at h
theorem hand_adopt {own2 : Own} {m : Nat} (ho : ∀ id hd, own' id = some hd → own2 (id + m) = some hd) : ∀ (n b : Nat) (s : SV) (v : Value), HandV F own' w n b s v →
    ((∀ c, ¬ ownB (ownB F own') own0 c → ¬ ownB F' own2 c) ∨ scal n s = true) → Rel F' own2 w (adopt n (b + m) s) v := by
  intro n
  induction n with
  | zero =>
    intro b s v h hc
    cases s with
    | nw k l => obtain ⟨hd, h1, rfl, h3⟩ := h; exact .os (ho _ _ h1) h3
    | nm k k2 l => obtain ⟨hd, h1, rfl, h3⟩ := h; exact .os (ho _ _ h1) h3
    | ng k l => obtain ⟨hd, h1, rfl, h3⟩ := h; exact .os (ho _ _ h1) h3
    | agg l =>
      have hr : Rel (ownB F own') own0 w (.agg l) v := h
      rcases hc with hc | hc
      · exact hr.over (pf_of_rel hr) hc
      · simp [scal] at hc
    | tup l =>
      have hr : Rel (ownB F own') own0 w (.tup l) v := h
      rcases hc with hc | hc
      · exact hr.over (pf_of_rel hr) hc
      · simp [scal] at hc
    | _ =>
      have hr : Rel (ownB F own') own0 w _ v := h
      rcases hc with hc | hc
      · exact hr.over (pf_of_rel hr) hc
      · exact scal_leaf _ _ _ hc (by intros; intro e; cases e) (by intros; intro e; cases e) (by intros; intro e; cases e) (by intros; intro e; cases e) (by intros; intro e; cases e) hr
  | succ n ih =>
    intro b s v h hc
    cases s with
    | nw k l => obtain ⟨hd, h1, rfl, h3⟩ := h; exact .os (ho _ _ h1) h3
    | nm k k2 l => obtain ⟨hd, h1, rfl, h3⟩ := h; exact .os (ho _ _ h1) h3
    | ng k l => obtain ⟨hd, h1, rfl, h3⟩ := h; exact .os (ho _ _ h1) h3
    | agg l =>
      obtain ⟨vs, rfl, h1, h2⟩ := h
      refine .agg (by rw [adoptL_len]; exact h1) fun j s hj => ?_
      obtain ⟨x, e1, rfl⟩ := adoptL_get _ n l _ j s hj
      have := ih _ x _ (h2 j x e1) (hc.imp id fun hs => by simp only [scal, List.all_eq_true] at hs; exact hs x (List.mem_of_getElem? e1))
      rwa [show b + cnt n (l.take j) + m = b + m + cnt n (l.take j) by omega] at this
    | tup l =>
      obtain ⟨vs, rfl, h1, h2⟩ := h
      refine .tup (by rw [adoptL_len]; exact h1) fun j s hj => ?_
      obtain ⟨x, e1, rfl⟩ := adoptL_get _ n l _ j s hj
      have := ih _ x _ (h2 j x e1) (hc.imp id fun hs => by simp only [scal, List.all_eq_true] at hs; exact hs x (List.mem_of_getElem? e1))
      rwa [show b + cnt n (l.take j) + m = b + m + cnt n (l.take j) by omega] at this
    | _ =>
      have hr : Rel (ownB F own') own0 w _ v := h
      rcases hc with hc | hc
      · exact hr.over (pf_of_rel hr) hc
      · exact scal_leaf _ _ _ hc (by intros; intro e; cases e) (by intros; intro e; cases e) (by intros; intro e; cases e) (by intros; intro e; cases e) (by intros; intro e; cases e) hr
theorem rel_rows : ∀ (n : Nat) {s : SV} {v : Value}, Rel F own w s v → rowsOf n s = []
  | 0, s, v, h => by cases h <;> rfl
  | n + 1, s, v, h => by
    cases h <;> first | rfl | skip
    · rename_i l vs h0 h1
      simp only [rowsOf, List.flatMap_eq_nil_iff]
      intro x hx
      obtain ⟨j, hj⟩ := List.getElem?_of_mem hx
      exact rel_rows n (h1 j x hj)
    · rename_i l vs h0 h1
      simp only [rowsOf, List.flatMap_eq_nil_iff]
      intro x hx
      obtain ⟨j, hj⟩ := List.getElem?_of_mem hx
      exact rel_rows n (h1 j x hj)
theorem rel_hand : ∀ (n b : Nat) {s : SV} {v : Value}, Rel F own0 w s v → HandV F own0 w n b s v := by
  have hF : ∀ c, ¬ ownB F own0 c → ¬ ownB (ownB F own0) own0 c := fun c hc => own0B hc
  intro n
  induction n with
  | zero => intro b s v h; have := h.over (pf_of_rel h) hF; cases s <;> first | exact this | cases h
  | succ n ih =>
    intro b s v h
    have := h.over (pf_of_rel h) hF
    cases s with
    | agg l => cases h with | agg h0 h1 => exact ⟨_, rfl, h0, fun j s hj => ih _ (h1 j s hj)⟩
    | tup l => cases h with | tup h0 h1 => exact ⟨_, rfl, h0, fun j s hj => ih _ (h1 j s hj)⟩
    | nw => cases h
    | nm => cases h
    | ng => cases h
    | gd => cases h
    | _ => exact this
end
end Go.Sx
end
