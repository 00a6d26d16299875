/- Part of the proof that the law CertifyLeast returns true and leaves its arguments as they were, for all arguments of bulk at most 1048576 (the Upto form). -/
import Derived.Test.YtagjakphhkfofaaGreatC109
import Derived.Test.YtagjakphhkfofaaGreatC110
import Derived.Test.YtagjakphhkfofaaGreatC108
import Derived.Test.YtagjakphhkfofaaGreatC107
set_option linter.all false
section
namespace Go.Sx
open Go.Proofs
theorem zR {a b : Bool} (h : a=true↔b=true) : a=b:=by cases a <;> cases b <;> simp_all
def Grid (g : List (List Int)) (n m : Nat) : Prop:=g.length=n∧∀ i,i < n→(g.getD i []).length=m
theorem Grid.app {g : List (List Int)} {n m : Nat} {r : List Int} (h : Grid g n m) (hr : r.length=m) : Grid (g ++ [r]) (n + 1) m:=by
 refine ⟨by simp [h.1],fun i hi=> ?_⟩
 by_cases e : i < n
 ·have:=h.2 i e
  simp only [List.getD_eq_getElem?_getD] at this ⊢
  rw [List.getElem?_append_left (by rw [h.1];exact e)]
  exact this
 ·have : i=g.length:=by have:=h.1;omega
  subst this
  simp [hr]
theorem Grid.set {g : List (List Int)} {n m i : Nat} {r : List Int} (h : Grid g n m) (hr : i < n→r.length=m) : Grid (g.set i r) n m:=by
 refine ⟨by simp [h.1],fun j hj=> ?_⟩
 have h0:=h.2 j hj
 simp only [List.getD_eq_getElem?_getD] at h0 ⊢
 rw [List.getElem?_set]
 split
 ·rename_i e
  subst e
  split
  ·simpa using hr hj
  ·rename_i hn;exact absurd (by rw [h.1];exact hj) hn
 ·exact h0
theorem Grid.set2 {g : List (List Int)} {n m i j : Nat} {v : Int} (h : Grid g n m) : Grid (g.set i ((g.getD i []).set j v)) n m:=
 h.set fun hi=> by simpa using h.2 i hi
theorem Grid.row {g : List (List Int)} {n m i : Nat} (h : Grid g n m) (hi : i < n) : (g.getD i []).length=m:=h.2 i hi
theorem my {d : District} {l : List Order} (ho : Orders1 d l) (k : Nat) (hk : k < l.length) (s : List (CertifyPlace×Int)×List (List Int)×List (List Int))
  (h1 : Grid s.2.1 d.reaches.length d.hours.toNat) (h2 : Grid s.2.2 d.reaches.length (d.hours + 1).toNat) :
  eG d l k s∧∀ s',aP d l k s= .inr s'→Grid s'.2.1 d.reaches.length d.hours.toNat∧Grid s'.2.2 d.reaches.length (d.hours + 1).toNat:=by
 have hx:=ho.one k hk
 have hr:=ho.right
 have a1:=hr.hours1
 have a2:=hr.hours
 constructor
 ·unfold eG
  generalize l.getD k default=x at hx ⊢
  have b1:=hx.hour0
  have b2:=hx.hour
  have b3:=hx.index0
  have hw : IntKind.i64.wrap (x.hour + 1)=x.hour + 1:=bN (by omega) (by omega)
  refine ⟨fun e=> ?_,fun e=> ?_⟩
  ·have b4:=hx.farm e
   have hf:=hr.farm x.index.toNat (by omega)
   have hg:=h1.row (i:=(d.farms.getD x.index.toNat default).reach.toNat) (by omega)
   rw [hg,h1.1]
   exact ⟨⟨b3,b4⟩,fun _=> ⟨hf,⟨b1,by omega⟩,b1,by omega⟩⟩
  ·have b4:=hx.reach e
   have hf:=hr.reachI b3 b4
   have hu:=hf.up
   have hg:=h2.row (i:=x.index.toNat) (by omega)
   rw [hg,h1.1,h2.1,hw]
   refine ⟨⟨b3,b4⟩,⟨b3,b4⟩,⟨by omega,by omega⟩,fun hd=> ?_⟩
   have hd:=of_decide_eq_true hd
   have hg1:=h1.row (i:=(d.reaches.getD x.index.toNat default).up.toNat) (by omega)
   rw [hg1]
   exact ⟨⟨hd,by omega⟩,⟨b1,by omega⟩,b1,by omega⟩
 ·intro s' hs
  unfold aP at hs
  simp only [Bool.cond_eq_ite] at hs
  repeat' split at hs
  all_goals (simp only [Sum.inr.injEq] at hs;subst hs;exact ⟨by first | exact h1 | exact h1.set2,by first | exact h2 | exact h2.set2⟩)
theorem uI {d : District} (hr : Right1 d) (k : Nat) (hk : k < d.reaches.length) (j : Nat) (hj : j < d.hours.toNat) (s : List (List Int)) (h : Grid s d.reaches.length (d.hours + 1).toNat) :
  eH d k j s∧∀ s',dY d k j s= .inr s'→Grid s' d.reaches.length (d.hours + 1).toNat:=by
 have a1:=hr.hours1
 have a2:=hr.hours
 have hw : IntKind.i64.wrap ((j : Int) + 1)=(j : Int) + 1:=bN (by omega) (by omega)
 have hg:=h.row hk
 constructor
 ·unfold eH
  rw [hw,hg]
  omega
 ·intro s' hs
  simp only [dY,Sum.inr.injEq] at hs
  subst hs
  exact h.set2
theorem uJ {d : District} (hr : Right1 d) (t : List (CertifyPlace×Int)×List (List Int)×List (List Int)) (k : Nat) (hk : k < d.reaches.length) (s : List (List Int)) (h : Grid s d.reaches.length (d.hours + 1).toNat) :
  eI d t k s∧∀ s',dy d t k s= .inr s'→Grid s' d.reaches.length (d.hours + 1).toNat:=by
 have a1:=hr.hours1
 have a2:=hr.hours
 constructor
 ·unfold eI
  refine ⟨⟨by omega,by rw [h.1];omega⟩,by omega,jP (fun _ s=> Grid s d.reaches.length (d.hours + 1).toNat) _ _ _ h fun j s _ hj hg=> uI hr k hk j (by omega) s hg⟩
 ·intro s' hs
  unfold dy at hs
  split at hs
  ·rename_i x _;exact x.elim
  ·rename_i s3 h3
   simp only [Sum.inr.injEq] at hs
   subst hs
   exact eP (fun _ s=> Grid s d.reaches.length (d.hours + 1).toNat) _ _ _ h (fun j s _ hj hg s' hs'=> (uI hr k hk j (by omega) s hg).2 s' hs') _ h3
theorem IM (d : District) (l : List Order) : fT d l:=by
 intro h1 h2
 refine ⟨uj d l,fun h3 _=> ?_⟩
 have ho:=ko h3
 have hr:=ho.right
 have a1:=hr.hours1
 have a2:=hr.hours
 have a3:=hr.reaches
 have hw : IntKind.i64.wrap (d.hours + 1)=d.hours + 1:=bN (by omega) (by omega)
 have J0 : ∀ j (s : List (List Int)×List (List Int)),(Grid s.1 j (d.hours + 1).toNat∧Grid s.2 j d.hours.toNat)→j < d.reaches.length→eF d j s∧∀ s',ax d j s= .inr s'→(Grid s'.1 (j + 1) (d.hours + 1).toNat∧Grid s'.2 (j + 1) d.hours.toNat) :=by
  intro j s hg hj
  constructor
  ·unfold eF
   have e1:=hg.1.1
   have e2:=hg.2.1
   simp only [hw,List.length_append,List.length_cons,List.length_nil,true_and,ja,bC]
   refine ⟨⟨by omega,by omega⟩,fun _=> ⟨by omega,fun _=> ⟨⟨by omega,by omega⟩,fun _=> ?_⟩⟩⟩
   omega
  ·intro s' hs
   simp only [ax,Sum.inr.injEq] at hs
   subst hs
   simp only [hw]
   exact ⟨hg.1.app (by simp),hg.2.app (by simp)⟩
 refine ⟨jP (fun j s=> Grid s.1 j (d.hours + 1).toNat∧Grid s.2 j d.hours.toNat) _ _ _ ⟨⟨rfl,fun i hi=> absurd hi (by omega)⟩,⟨rfl,fun i hi=> absurd hi (by omega)⟩⟩ fun j s _ hj hg=> J0 j s hg (by omega),fun s0 hs0 _=> ?_⟩
 have hg0:=eP (fun j s=> Grid s.1 j (d.hours + 1).toNat∧Grid s.2 j d.hours.toNat) _ _ _ ⟨⟨rfl,fun i hi=> absurd hi (by omega)⟩,⟨rfl,fun i hi=> absurd hi (by omega)⟩⟩ (fun j s _ hj hg s' hs'=> (J0 j s hg (by omega)).2 s' hs') s0 hs0
 simp only [Nat.zero_add] at hg0
 refine ⟨jP (fun _ s=> Grid s.2.1 d.reaches.length d.hours.toNat∧Grid s.2.2 d.reaches.length (d.hours + 1).toNat) _ _ _ ⟨hg0.2,hg0.1⟩ fun j s _ hj hg=> my ho j (by omega) s hg.1 hg.2,fun s1 hs1 _=> ?_⟩
 have hg1:=eP (fun _ s=> Grid s.2.1 d.reaches.length d.hours.toNat∧Grid s.2.2 d.reaches.length (d.hours + 1).toNat) _ _ _ ⟨hg0.2,hg0.1⟩ (fun j s _ hj hg s' hs'=> (my ho j (by omega) s hg.1 hg.2).2 s' hs') _ hs1
 exact jP (fun _ s=> Grid s d.reaches.length (d.hours + 1).toNat) _ _ _ hg1.2 fun j s _ hj hg=> uJ hr s1 j (by rw [hg1.2.1] at hj;omega) s hg
structure Table1 (d : District) (l : List Order) (t : CertifyTable) : Prop where
 td : t.d=d
 tl : t.l=l
 sums : Grid t.sums d.reaches.length (d.hours + 1).toNat
 drawn : Grid t.drawn d.reaches.length d.hours.toNat
 ords : Orders1 d l
theorem gQ {d : District} {l : List Order} (h : ((aj d l).2 !=0)=false) : Table1 d l (aj d l).1:=by
 have h : (aj d l).2=0:=by simpa using h
 unfold aj at h ⊢
 cases h1 : (decide (IntKind.i64.wrap ((d.reaches.length : Int) * d.hours) > 1024) || decide ((l.length : Int) > 4096)) with
 | true=> rw [h1] at h;simp at h
 | false=>
  rw [h1] at h
  simp only [cond_false] at h ⊢
  cases h2 : (bt d l !=0) with
  | true=> rw [h2] at h;simp at h
  | false=>
   rw [h2] at h
   simp only [cond_false] at h ⊢
   have ho:=ko h2
   have hr:=ho.right
   have a1:=hr.hours1
   have a2:=hr.hours
   have hw : IntKind.i64.wrap (d.hours + 1)=d.hours + 1:=bN (by omega) (by omega)
   cases hs0 : ak (ax d) d.reaches.length 0 ([],[]) with
   | inl x=> exact x.elim
   | inr s0=>
    have hg0:=eP (fun j s=> Grid s.1 j (d.hours + 1).toNat∧Grid s.2 j d.hours.toNat) _ _ _ ⟨⟨rfl,fun i hi=> absurd hi (by omega)⟩,⟨rfl,fun i hi=> absurd hi (by omega)⟩⟩ (fun j s _ hj hg s' hs=> by
     simp only [ax,Sum.inr.injEq] at hs
     subst hs
     simp only [hw]
     exact ⟨hg.1.app (by simp),hg.2.app (by simp)⟩) s0 hs0
    simp only [Nat.zero_add] at hg0
    dsimp only
    cases hs1 : ak (aP d l) l.length 0 ([],s0.2,s0.1) with
    | inl x=> exact x.elim
    | inr s1=>
     have hg1:=eP (fun _ s=> Grid s.2.1 d.reaches.length d.hours.toNat∧Grid s.2.2 d.reaches.length (d.hours + 1).toNat) _ _ _ ⟨hg0.2,hg0.1⟩ (fun j s _ hj hg s' hs'=> (my ho j (by omega) s hg.1 hg.2).2 s' hs') _ hs1
     dsimp only
     cases hs2 : ak (dy d s1) s1.2.2.length 0 s1.2.2 with
     | inl x=> exact x.elim
     | inr s2=>
      have hg2:=eP (fun _ s=> Grid s d.reaches.length (d.hours + 1).toNat) _ _ _ hg1.2 (fun j s _ hj hg s' hs'=> (uJ hr s1 j (by rw [hg1.2.1] at hj;omega) s hg).2 s' hs') _ hs2
      exact ⟨rfl,rfl,hg2,hg1.1,ho⟩
theorem n8 {f : Nat→List Fault} {step : Nat→List Fault→Empty⊕List Fault} (h : ∀ j s,step j s= .inr (s ++ f j)) : ∀ n i s,ak step n i s= .inr (s ++ (List.range' i n).flatMap f)
 | 0,i,s=> by simp [ak]
 | n + 1,i,s=> by
  simp only [ak,h]
  rw [n8 h n (i + 1) (s ++ f i)]
  simp [List.range'_succ]
theorem xV {f : Nat→List Fault} {step : Nat→List Fault→Empty⊕List Fault} (h : ∀ j s,step j s= .inr (s ++ f j)) (B : Nat) (hB : ∀ j,(f j).length≤B) {p : Nat→List Fault→Prop} {n : Nat} {s0 : List Fault}
  (hp : ∀ j s,j < n→s.length≤s0.length + j * B→p j s) : okI step p n 0 s0:=
 jP (fun j s=> s.length≤s0.length + j * B) _ _ _ (by omega) fun j s _ hj hs=> ⟨hp j s (by omega) hs,fun s' e=> by
  rw [h] at e
  simp only [Sum.inr.injEq] at e
  subst e
  have:=hB j
  rw [Nat.succ_mul,List.length_append]
  omega⟩
theorem uK {τ : Type} {f : τ→List Fault} {step : τ→List Fault→Empty⊕List Fault} (h : ∀ x s,step x s= .inr (s ++ f x)) : ∀ l s,cw step l s= .inr (s ++ l.flatMap f)
 | [],s=> by simp [cw]
 | x :: l,s=> by
  simp only [cw,h]
  rw [uK h l (s ++ f x)]
  simp
theorem xW {τ : Type} {f : τ→List Fault} {step : τ→List Fault→Empty⊕List Fault} (h : ∀ x s,step x s= .inr (s ++ f x)) (B : Nat) (hB : ∀ x,(f x).length≤B) {p : τ→List Fault→Prop} : ∀ (l : List τ) (s : List Fault),
  (∀ x∈l,∀ s',s'.length≤s.length + l.length * B→p x s')→okL step p l s
 | [],_,_=> trivial
 | x :: l,s,hp=> by
  refine ⟨hp x (by simp) s (by omega),fun s' e=> ?_⟩
  rw [h] at e
  simp only [Sum.inr.injEq] at e
  subst e
  refine xW h B hB l _ fun y hy s' hs'=> hp y (by simp [hy]) s' ?_
  have:=hB x
  rw [List.length_append] at hs'
  rw [List.length_cons,Nat.succ_mul]
  omega
def gF (t : CertifyTable) (kind : Int) (k : Nat) : List Fault:=
 bif (t.l.getD k default).outlet then [] else
 bif kind==2 then
  bif decide ((t.l.getD k default).litres < (t.d.reaches.getD (t.l.getD k default).index.toNat default).siphon) then
   [{ kind:=kind,hour:=(t.l.getD k default).hour,index:=(t.l.getD k default).index,litres:=(t.l.getD k default).litres,limit:=(t.d.reaches.getD (t.l.getD k default).index.toNat default).siphon}] else []
 else
  bif decide ((t.l.getD k default).litres > (t.d.reaches.getD (t.l.getD k default).index.toNat default).cap) then
   [{ kind:=kind,hour:=(t.l.getD k default).hour,index:=(t.l.getD k default).index,litres:=(t.l.getD k default).litres,limit:=(t.d.reaches.getD (t.l.getD k default).index.toNat default).cap}] else []
theorem uL (t : CertifyTable) (kind : Int) (j : Nat) (s : List Fault) : cS t kind j s= .inr (s ++ gF t kind j) :=by
 unfold cS gF bA
 simp only [Bool.cond_eq_ite]
 repeat' split
 all_goals simp_all
theorem rL (t : CertifyTable) (kind : Int) (s : List Fault) : bb t kind s=s ++ (List.range' 0 t.l.length).flatMap (gF t kind) :=by
 unfold bb
 rw [n8 (uL t kind)]
theorem IN (t : CertifyTable) (kind : Int) (k : Nat) : (gF t kind k).length≤1:=by
 unfold gF
 simp only [Bool.cond_eq_ite]
 repeat' split
 all_goals simp
theorem zS {x : Fault} {s : List Fault} (h : s.length≤1000000000) : bp x s:=by
 unfold bp ja
 rw [List.length_append,List.length_singleton]
 omega
theorem DQ {d : District} {l : List Order} {t : CertifyTable} (h : Table1 d l t) (kind : Int) {s : List Fault} (hs : s.length≤100000000) : db t kind s:=fun _=> by
 refine xV (uL t kind) 1 (IN t kind) fun j s' hj hs'=> ?_
 have hl:=h.ords.len
 rw [h.tl] at hj
 have hx:=h.ords.one j hj
 unfold dn
 rw [h.tl,h.td]
 generalize l.getD j default=x at hx ⊢
 have h1 : ∀ x,bp x s':=fun x=> zS (by omega)
 exact fun e=> ⟨⟨hx.index0,hx.reach e⟩,fun _=> ⟨⟨hx.index0,hx.reach e⟩,fun _=> h1 _,fun e=> e⟩,fun _=> ⟨fun _=> h1 _,fun e=> e⟩⟩
theorem rM {t : CertifyTable} {z : Int×Int} (h : z∈aS t) : 0≤z.1∧z.1 < (t.d.hours.toNat : Int)∧0≤z.2∧z.2 < (t.d.reaches.length : Int) :=by
 unfold aS at h
 simp only [List.mem_flatMap,List.mem_range,List.mem_map] at h
 obtain ⟨a,ha,b,hb,rfl⟩ :=h
 dsimp only
 omega
theorem ES (t : CertifyTable) : (aS t).length=t.d.hours.toNat * t.d.reaches.length:=by
 unfold aS
 simp [List.length_flatMap,List.map_const',Nat.mul_comm]
def uM (t : CertifyTable) (z : Int×Int) : Int:=
 IntKind.i64.wrap ((t.sums.getD z.2.toNat default).getD (IntKind.i64.wrap (z.1 + 1)).toNat 0 - (t.sums.getD z.2.toNat default).getD (if 0 < IntKind.i64.wrap (IntKind.i64.wrap (z.1 + 1) - (t.d.reaches.getD z.2.toNat default).delay) then IntKind.i64.wrap (IntKind.i64.wrap (z.1 + 1) - (t.d.reaches.getD z.2.toNat default).delay) else 0).toNat 0)
def bF (t : CertifyTable) (z : Int×Int) : List Fault:=
 bif decide (uM t z > (t.d.reaches.getD z.2.toNat default).bank) then [{ kind:=3,hour:=z.1,index:=z.2,litres:=uM t z,limit:=(t.d.reaches.getD z.2.toNat default).bank}] else []
theorem uN (t : CertifyTable) (z : Int×Int) (s : List Fault) : bT t z s= .inr (s ++ bF t z) :=by
 unfold bT bF bA uM
 simp only [Bool.cond_eq_ite]
 generalize IntKind.i64.wrap ((t.sums.getD z.2.toNat default).getD (IntKind.i64.wrap (z.1 + 1)).toNat 0 - (t.sums.getD z.2.toNat default).getD (if 0 < IntKind.i64.wrap (IntKind.i64.wrap (z.1 + 1) - (t.d.reaches.getD z.2.toNat default).delay) then IntKind.i64.wrap (IntKind.i64.wrap (z.1 + 1) - (t.d.reaches.getD z.2.toNat default).delay) else 0).toNat 0)=w
 split <;> simp
theorem ww (t : CertifyTable) (s : List Fault) : ci t s=s ++ (aS t).flatMap (bF t) :=by
 unfold ci
 rw [uK (uN t)]
theorem IP (t : CertifyTable) (z : Int×Int) : (bF t z).length≤1:=by
 unfold bF;simp only [Bool.cond_eq_ite];split <;> simp
def wF (t : CertifyTable) (z : Int×Int) : List Fault:=
 bif decide ((t.drawn.getD z.2.toNat default).getD z.1.toNat 0 > a7 t z.2 z.1) then [{ kind:=5,hour:=z.1,index:=z.2,litres:=(t.drawn.getD z.2.toNat default).getD z.1.toNat 0,limit:=a7 t z.2 z.1}] else []
theorem uO (t : CertifyTable) (z : Int×Int) (s : List Fault) : bU t z s= .inr (s ++ wF t z) :=by
 unfold bU wF bA
 simp only [Bool.cond_eq_ite]
 split <;> simp
theorem wx (t : CertifyTable) (s : List Fault) : dv t s=s ++ (aS t).flatMap (wF t) :=by
 unfold dv
 rw [uK (uO t)]
theorem IQ (t : CertifyTable) (z : Int×Int) : (wF t z).length≤1:=by
 unfold wF;simp only [Bool.cond_eq_ite];split <;> simp
def uF (t : CertifyTable) (m : List (CertifyPlace×Int)) (h f : Nat) : List Fault:=
 bif decide (aB Tag.certifyPlace Tag.int t.litres { hour:=(h : Int),index:=(f : Int),outlet:=true} < aB Tag.certifyPlace Tag.int m { hour:=(h : Int),index:=(f : Int),outlet:=true}) then
  [{ kind:=6,hour:=(h : Int),index:=(f : Int),litres:=aB Tag.certifyPlace Tag.int t.litres { hour:=(h : Int),index:=(f : Int),outlet:=true},limit:=aB Tag.certifyPlace Tag.int m { hour:=(h : Int),index:=(f : Int),outlet:=true}}] else []
theorem sm (t : CertifyTable) (m : List (CertifyPlace×Int)) (h f : Nat) (s : List Fault) : cT t m h f s= .inr (s ++ uF t m h f) :=by
 unfold cT uF bA
 simp only [Bool.cond_eq_ite]
 split <;> simp
theorem n9 (t : CertifyTable) (m : List (CertifyPlace×Int)) (h : Nat) (s : List Fault) : cU t m h s= .inr (s ++ (List.range' 0 t.d.farms.length).flatMap (uF t m h)) :=by
 unfold cU
 rw [n8 (sm t m h)]
theorem Bt (t : CertifyTable) (m : List (CertifyPlace×Int)) (h f : Nat) : (uF t m h f).length≤1:=by
 unfold uF;simp only [Bool.cond_eq_ite];split <;> simp
theorem n_ {d : District} {t : CertifyTable} (hr : Right1 d) (ht : t.d=d) : (aS t).length≤262144:=by
 rw [ES,ht]
 have h1 : d.hours.toNat≤4096:=by have:=hr.hours;omega
 exact Nat.mul_le_mul h1 hr.reaches
theorem Nh {d : District} {l : List Order} {t : CertifyTable} (h : Table1 d l t) {s : List Fault} (hs : s.length≤100000000) : ed t s:=by
 have hr:=h.ords.right
 have a1:=hr.hours1
 have a2:=hr.hours
 have hc:=n_ hr h.td
 refine ⟨by rw [h.td];omega,xW (uN t) 1 (IP t) _ _ fun z hz s' hs'=> ?_⟩
 have hz:=rM hz
 rw [h.td] at hz
 have h1 : ∀ x,bp x s':=fun x=> zS (by omega)
 have hx:=hr.reachI hz.2.2.1 hz.2.2.2
 have b1:=hx.delay1
 have b2:=hx.delay
 have hw : IntKind.i64.wrap (z.1 + 1)=z.1 + 1:=bN (by omega) (by omega)
 have hw2 : IntKind.i64.wrap (z.1 + 1 - (d.reaches.getD z.2.toNat default).delay)=z.1 + 1 - (d.reaches.getD z.2.toNat default).delay:=bN (by omega) (by omega)
 have hg : (t.sums.getD z.2.toNat default).length=(d.hours + 1).toNat:=h.sums.row (by omega)
 unfold cV
 rw [h.td,hw,hw2,hg,h.sums.1]
 refine ⟨⟨by omega,by omega⟩,⟨by omega,by omega⟩,⟨by omega,by omega⟩,⟨by omega,by omega⟩,⟨?_,?_⟩,fun _=> h1 _,fun e=> e⟩
 ·split <;> omega
 ·split <;> omega
theorem Ni {d : District} {l : List Order} {t : CertifyTable} (h : Table1 d l t) {s : List Fault} (hs : s.length≤100000000) : ee t s:=by
 have hr:=h.ords.right
 have a1:=hr.hours1
 have a2:=hr.hours
 have hc:=n_ hr h.td
 refine ⟨by rw [h.td];omega,xW (uO t) 1 (IQ t) _ _ fun z hz s' hs'=> ?_⟩
 have hz:=rM hz
 rw [h.td] at hz
 have h1 : ∀ x,bp x s':=fun x=> zS (by omega)
 have hg : (t.drawn.getD z.2.toNat default).length=d.hours.toNat:=h.drawn.row (by omega)
 unfold cW ct
 rw [hg,h.drawn.1,h.td]
 exact ⟨⟨by omega,by omega⟩,⟨by omega,by omega⟩,⟨⟨by omega,by omega⟩,by omega,by omega⟩,fun _=> h1 _,fun e=> e⟩
theorem P7 {d : District} {l : List Order} {t : CertifyTable} (h : Table1 d l t) {s : List Fault} (hs : s.length≤100000000) : eJ t s:=by
 have hr:=h.ords.right
 have a1:=hr.hours1
 have a2:=hr.hours
 have a3:=hr.one
 refine ⟨by rw [h.td];omega,kL _ _ _ fun j _ _ hj=> ?_⟩
 rw [h.td] at hj
 have hw : IntKind.i64.wrap ((j : Int) + 1)=(j : Int) + 1:=bN (by omega) (by omega)
 have hg : (t.sums.getD 0 default).length=(d.hours + 1).toNat:=h.sums.row a3
 unfold dS
 rw [hw,hg,h.sums.1]
 exact ⟨⟨by omega,by omega⟩,⟨by omega,by omega⟩,fun _=> zS (by omega)⟩
theorem lY {α : Type} (f : α→List Fault) (h : ∀ x,(f x).length≤1) : ∀ l : List α,(l.flatMap f).length≤l.length
 | [] => by simp
 | x :: l=> by
  have:=lY f h l
  have:=h x
  simp only [List.flatMap_cons,List.length_append,List.length_cons]
  omega
theorem Nj {d : District} {l : List Order} {t : CertifyTable} (h : Table1 d l t) (c : List Claim) {s : List Fault} (hs : s.length≤100000000) : dT c t s:=fun _ m _=> by
 have hr:=h.ords.right
 have a1:=hr.hours1
 have a2:=hr.hours
 have a3:=hr.farms
 have hB : ∀ j,((List.range' 0 t.d.farms.length).flatMap (uF t m j)).length≤600:=fun j=> by
  have:=lY (uF t m j) (Bt t m j) (List.range' 0 t.d.farms.length)
  rw [List.length_range'] at this
  rw [h.td] at *
  omega
 refine ⟨by rw [h.td];omega,xV (n9 t m) 600 hB fun j s' hj hs'=> fun _=> ?_⟩
 rw [h.td] at hj
 have : j * 600≤4096 * 600:=Nat.mul_le_mul_right _ (by omega)
 refine xV (sm t m j) 1 (Bt t m j) fun i s2 hi hs2=> ?_
 rw [h.td] at hi
 have h1 : ∀ x,bp x s2:=fun x=> zS (by omega)
 unfold dp
 exact ⟨fun _=> h1 _,fun e=> e⟩
theorem wy (d : District) (c : List Claim) : fQ d c:=fun _ h1 _ _=> kL _ _ _ fun j s h2 h3=> by
 unfold bC at h1
 unfold fE
 refine ⟨fun h=> ?_,fun h=> ?_,fun _ h=> ?_⟩
 ·simp only [Bool.not_eq_false',Bool.and_eq_true,decide_eq_true_eq] at h
  omega
 ·simp only [Bool.or_eq_false_iff,Bool.not_eq_false',Bool.and_eq_true,decide_eq_true_eq] at h
  omega
 ·simp only [decide_eq_true_eq] at h
  rw [lR (by omega) (by omega)];omega
theorem uP {ρ : Type} {step : Nat→Unit→ρ⊕Unit} : ∀ {n i : Nat} {s : Unit} {y : ρ},ak step n i s= .inl y→∃ j,i≤j∧j < i + n∧step j ()= .inl y
 | n + 1,i,s,y,h=> by
  simp only [ak] at h
  cases hs : step i s with
  | inl r=> rw [hs] at h;cases h;exact ⟨i,by omega,by omega,hs⟩
  | inr s'=>
   rw [hs] at h
   obtain ⟨j,h1,h2,h3⟩ :=uP h
   exact ⟨j,by omega,by omega,h3⟩
theorem zT (t : CertifyTable) (s : List Fault) : ∃ T : List Fault,cB t s=s ++ T∧(T=[]∨∃ x,T=[x]∧x.kind=4∧x.litres > x.limit) :=by
 unfold cB
 split
 ·rename_i y hy
  obtain ⟨j,_,_,h⟩ :=uP hy
  unfold bZ bA at h
  rw [Bool.cond_eq_ite] at h
  split at h
  ·rename_i hd
   simp only [decide_eq_true_eq] at hd
   cases h
   exact ⟨_,rfl,.inr ⟨_,rfl,rfl,hd⟩⟩
  ·cases h
 ·exact ⟨[],by simp,.inl rfl⟩
theorem wz {α : Type} (f : α→List Fault) (B : Nat) (h : ∀ x,(f x).length≤B) : ∀ l : List α,(l.flatMap f).length≤l.length * B
 | [] => by simp
 | x :: l=> by
  have:=wz f B h l
  have:=h x
  simp only [List.flatMap_cons,List.length_append,List.length_cons,Nat.succ_mul]
  omega
theorem ET (c : List Claim) (t : CertifyTable) : ∃ m,∀ s,b5 c t s=s ++ (List.range' 0 t.d.hours.toNat).flatMap fun h=> (List.range' 0 t.d.farms.length).flatMap (uF t m h) :=by
 unfold b5
 cases hs : ak (aO c) c.length 0 [] with
 | inl x=> exact x.elim
 | inr m=>
  refine ⟨m,fun s=> ?_⟩
  dsimp only
  rw [n8 (n9 t m)]
theorem Nk {d : District} {l : List Order} (h : Table1 d l (aj d l).1) (c : List Claim) (j : Nat) (s : List Fault) (hs : s.length≤100000000) : d4 d c l j s:=
 ⟨fun _=> DQ h 1 hs,fun _=> ⟨fun _=> DQ h 2 hs,fun _=> ⟨fun _=> Nh h hs,fun _=> ⟨fun _=> P7 h hs,fun _=> ⟨fun _=> Ni h hs,fun _=> Nj h c hs⟩⟩⟩⟩⟩
theorem EU {d : District} {l : List Order} (h : Table1 d l (aj d l).1) (c : List Claim) (j : Nat) (s s' : List Fault) (hs : cI d c l j s= .inr s') : s'.length≤s.length + 3000000:=by
 have hr:=h.ords.right
 have hc:=n_ hr h.td
 have hl:=h.ords.len
 unfold cI at hs
 generalize (aj d l).1=t at h hc hs
 have g : ∀ k,(bb t k s).length≤s.length + 3000000:=fun k=> by
  have:=lY _ (IN t k) (List.range' 0 t.l.length)
  rw [List.length_range',h.tl] at this
  rw [rL,List.length_append,h.tl];omega
 simp only [Bool.cond_eq_ite] at hs
 repeat' split at hs
 all_goals (simp only [Sum.inr.injEq] at hs;subst hs)
 ·exact g 1
 ·exact g 2
 ·have:=lY _ (IP t) (aS t)
  rw [ww,List.length_append];omega
 ·obtain ⟨T,e,hT⟩ :=zT t s
  rw [e,List.length_append]
  rcases hT with rfl | ⟨x,rfl,_⟩ <;> simp
 ·have:=lY _ (IQ t) (aS t)
  rw [wx,List.length_append];omega
 ·obtain ⟨m,hm⟩ :=ET c t
  have h1:=wz (fun h=> (List.range' 0 t.d.farms.length).flatMap (uF t m h)) 600 (fun x=> by
   have:=lY _ (Bt t m x) (List.range' 0 t.d.farms.length)
   have:=hr.farms
   rw [List.length_range'] at *
   rw [h.td] at *
   omega) (List.range' 0 t.d.hours.toNat)
  have h2:=hr.hours
  rw [List.length_range',h.td] at h1
  rw [hm,List.length_append,h.td]
  have : d.hours.toNat * 600≤4096 * 600:=Nat.mul_le_mul_right _ (by omega)
  omega
theorem wA (d : District) (c : List Claim) (l : List Order) : cF d c l:=by
 refine ⟨wy d c,fun _=> ⟨IM d l,fun h2=> ?_⟩⟩
 have h:=gQ h2
 exact jP (fun k s=> s.length≤k * 3000000) _ _ _ (by simp) fun j s _ hj hs=> ⟨Nk h c j s (by omega),fun s' e=> by
  have:=EU h c j s s' e
  omega⟩
theorem mz (d : District) (c : List Claim) (l : List Order) : b_ d c l:=wA d c l
theorem EV {d : District} {c : List Claim} {l : List Order} (h : ((bq d c l).2 !=0)=false) :
  ((aj d l).2 !=0)=false∧(bn d !=0)=false∧(bq d c l).1=b5 c (aj d l).1 (dv (aj d l).1 (cB (aj d l).1 (ci (aj d l).1 (bb (aj d l).1 2 (bb (aj d l).1 1 []))))) :=by
 have h : (bq d c l).2=0:=by simpa using h
 unfold bq at h ⊢
 cases h1 : (aY d c !=0) with
 | true=> rw [h1] at h;simp at h h1;exact absurd h h1
 | false=>
  rw [h1] at h
  simp only [cond_false] at h ⊢
  cases h2 : ((aj d l).2 !=0) with
  | true=> rw [h2] at h;simp at h h2;exact absurd h h2
  | false=>
   refine ⟨rfl,?_,?_⟩
   ·have h1 : aY d c=0:=by simpa using h1
    unfold aY at h1
    cases h3 : (bn d !=0) with
    | true=> rw [h3] at h1;simp at h1 h3;exact absurd h1 h3
    | false=> rfl
   ·simp only [cond_false]
    rfl
theorem xX (d : District) (c : List Claim) : aY d c=0↔bn d=0∧c.length≤4096∧∀ k,k < c.length→dX d c k ()= .inr () :=by
 unfold aY
 cases h1 : (bn d !=0) with
 | true=> simp at h1;simp [h1]
 | false=>
  simp at h1
  simp only [cond_false,h1,true_and]
  cases h2 : decide ((c.length : Int) > 4096) with
  | true=> simp at h2;simp;omega
  | false=>
   simp at h2
   rw [←uk]
   cases h3 : ak (dX d c) c.length 0 () with
   | inl y=> simp
   | inr y=> simp;omega
def oa (c : List Claim) : List (CertifyPlace×Int) :=match ak (aO c) c.length 0 [] with | .inl x=> x.elim | .inr m=> m
theorem Bu (c : List Claim) (t : CertifyTable) (s : List Fault) : b5 c t s=s ++ (List.range' 0 t.d.hours.toNat).flatMap fun h=> (List.range' 0 t.d.farms.length).flatMap (uF t (oa c) h) :=by
 unfold b5 oa
 cases hs : ak (aO c) c.length 0 [] with
 | inl x=> exact x.elim
 | inr m=>
  dsimp only
  rw [n8 (n9 t m)]
structure Quiet (t : CertifyTable) (c : List Claim) : Prop where
 gate : ∀ k,k < t.l.length→gF t 1 k=[]
 siph : ∀ k,k < t.l.length→gF t 2 k=[]
 bank : ∀ z∈aS t,bF t z=[]
 tank : ∀ j,j < t.d.hours.toNat→¬ ((t.sums.getD 0 (default : List Int)).getD (IntKind.i64.wrap ((j : Int) + 1)).toNat 0 > t.d.tank.start)
 water : ∀ z∈aS t,wF t z=[]
 unmet : ∀ h,h < t.d.hours.toNat→∀ f,f < t.d.farms.length→uF t (oa c) h f=[]
theorem Bv (t : CertifyTable) (s : List Fault) : (cB t s=s)↔∀ j,j < t.d.hours.toNat→¬ ((t.sums.getD 0 (default : List Int)).getD (IntKind.i64.wrap ((j : Int) + 1)).toNat 0 > t.d.tank.start) :=by
 unfold cB
 cases hs : ak (bZ t s) t.d.hours.toNat 0 () with
 | inl y=>
  obtain ⟨j,_,hj,hy⟩ :=uP hs
  simp only [bZ,Bool.cond_eq_ite,decide_eq_true_eq] at hy
  split at hy
  ·rename_i hd
   refine ⟨fun e=> ?_,fun h=> absurd hd (h j (by rw [Nat.zero_add] at hj;exact hj))⟩
   cases hy
   unfold bA at e
   have:=congrArg List.length e
   simp at this
  ·cases hy
 | inr y=>
  refine ⟨fun _ j hj=> ?_,fun _=> rfl⟩
  have hs2 : ak (bZ t s) t.d.hours.toNat 0 ()= .inr () :=hs
  have:=ul hs2 j (by omega) (by omega)
  simp only [bZ,Bool.cond_eq_ite,decide_eq_true_eq] at this
  split at this
  ·cases this
  ·assumption
theorem xY {d : District} {c : List Claim} {l : List Order} (h : ((bq d c l).2 !=0)=false) : (bq d c l).1=[]↔Quiet (aj d l).1 c:=by
 obtain ⟨_,_,e⟩ :=EV h
 rw [e]
 generalize (aj d l).1=t
 obtain ⟨T,hT,hT'⟩ :=zT t (ci t (bb t 2 (bb t 1 [])))
 have hq:=Bv t (ci t (bb t 2 (bb t 1 [])))
 rw [Bu,wx]
 rw [hT] at hq ⊢
 rw [ww,rL,rL,List.nil_append] at *
 rw [List.append_right_eq_self] at hq
 simp only [List.append_eq_nil_iff,hq,List.flatMap_eq_nil_iff,List.mem_range'_1]
 constructor
 ·rintro ⟨⟨⟨⟨⟨g1,g2⟩,g3⟩,g4⟩,g5⟩,g6⟩
  exact ⟨fun k hk=> g1 k (by omega),fun k hk=> g2 k (by omega),g3,g4,g5,fun a ha b hb=> g6 a (by omega) b (by omega)⟩
 ·intro q
  exact ⟨⟨⟨⟨⟨fun k hk=> q.gate k (by omega),fun k hk=> q.siph k (by omega)⟩,q.bank⟩,q.tank⟩,q.water⟩,fun a ha b hb=> q.unmet a (by omega) b (by omega)⟩
theorem kU (d : District) (c : List Claim) (l : List Order) : aG d c l=(true,0)↔aY d c=0∧(aj d l).2=0∧Quiet (aj d l).1 c:=by
 unfold aG
 have hf : (bq d c l).2=0↔aY d c=0∧(aj d l).2=0:=by
  unfold bq
  cases h1 : (aY d c !=0) with
  | true=> simp at h1;simp [h1]
  | false=>
   simp at h1
   simp only [cond_false,h1,true_and]
   cases h2 : ((aj d l).2 !=0) with
   | true=> simp at h2;simp [h2]
   | false=>
    simp at h2
    simp only [cond_false,h2,iff_true]
    split
    ·rename_i y _;exact y.elim
    ·rfl
 by_cases h : (bq d c l).2=0
 ·rw [←xY (by simp [h])]
  have:=hf.1 h
  simp [h,this.1,this.2]
 ·simp only [h,Prod.mk.injEq,and_false,false_iff]
  intro ⟨h1,h2,_⟩
  exact h (hf.2 ⟨h1,h2⟩)
theorem DR {t : CertifyTable} {k : Nat} : gF t 1 k=[]↔((t.l.getD k default).outlet=true∨(t.l.getD k default).litres≤(t.d.reaches.getD (t.l.getD k default).index.toNat default).cap) :=by
 unfold gF
 generalize t.l.getD k default=a
 generalize t.d.reaches.getD a.index.toNat default=b
 cases a.outlet <;> cases hd : decide (a.litres > b.cap) <;> simp at hd ⊢ <;> omega
theorem DS {t : CertifyTable} {k : Nat} : gF t 2 k=[]↔((t.l.getD k default).outlet=true∨(t.d.reaches.getD (t.l.getD k default).index.toNat default).siphon≤(t.l.getD k default).litres) :=by
 unfold gF
 generalize t.l.getD k default=a
 generalize t.d.reaches.getD a.index.toNat default=b
 cases a.outlet <;> cases hd : decide (a.litres < b.siphon) <;> simp at hd ⊢ <;> omega
def xZ (a b : Claim) : Prop:=a.hour < b.hour∨a.hour=b.hour∧(a.rank < b.rank∨a.rank=b.rank∧(a.right < b.right∨a.right=b.right∧a.farm < b.farm))
theorem Bw {a b c : Claim} (h1 : xZ a b) (h2 : xZ b c) : xZ a c:=by
 unfold xZ at *;omega
theorem P8 (a b c d : Int) : io [a,b,c,d]=if a≠0 then a else if b≠0 then b else if c≠0 then c else d:=by
 unfold io
 simp only [List.length_cons,List.length_nil,Nat.zero_add,Nat.reduceAdd,ak,jz,List.getD_cons_zero,List.getD_cons_succ]
 by_cases h1 : a=0 <;> by_cases h2 : b=0 <;> by_cases h3 : c=0 <;> by_cases h4 : d=0 <;> simp [h1,h2,h3,h4,Bool.cond_eq_ite]
theorem EW (a b : Claim) : gc a b < 0↔xZ a b:=by
 unfold gc xZ
 rw [P8]
 simp only [jn]
 repeat' split
 all_goals (first | omega | skip)
def okC (d : District) (a : Claim) : Bool:=(((((((((decide (a.right≥0)) && (decide (a.right < (d.rights.length : Int)))) && (decide (a.farm≥0))) && (decide (a.farm < (d.farms.length : Int)))) && (decide (a.hour≥0))) && (decide (a.hour < d.hours))) && (decide (a.litres≥1))) && (decide (a.litres≤1073741824)))) && ((d.rights.getD a.right.toNat default).kind==1) && ((d.rights.getD a.right.toNat default).rank==a.rank)
theorem sn {d : District} {c : List Claim} {k : Nat} (hk : k < 4096) : dX d c k ()= .inr ()↔okC d (c.getD k default)=true∧(0 < k→xZ (c.getD (k - 1) default) (c.getD k default)) :=by
 have hw : k > 0→(IntKind.i64.wrap ((k : Int) - 1)).toNat=k - 1:=fun h=> by rw [lR (by omega) h];simp
 have hb : ∀ X : Bool,((bif X then Sum.inl () else Sum.inr ()) : Unit⊕Unit)= .inr ()↔X=false:=fun X=> by cases X <;> simp
 unfold dX okC
 rw [hb]
 generalize hq : ((((((((decide ((c.getD k default).right≥0)) && (decide ((c.getD k default).right < (d.rights.length : Int)))) && (decide ((c.getD k default).farm≥0))) && (decide ((c.getD k default).farm < (d.farms.length : Int)))) && (decide ((c.getD k default).hour≥0))) && (decide ((c.getD k default).hour < d.hours))) && (decide ((c.getD k default).litres≥1))) && (decide ((c.getD k default).litres≤1073741824)))=q
 clear hq
 by_cases h0 : 0 < k
 ·rw [hw h0,←EW]
  have hp : decide ((k : Int) > 0)=true:=by simp;omega
  rw [hp]
  simp only [Bool.or_eq_false_iff,Bool.and_eq_true,Bool.not_eq_false',Bool.true_and,bne_eq_false_iff_eq,beq_iff_eq,decide_eq_false_iff_not,h0,true_imp_iff]
  generalize gc (c.getD (k - 1) default) (c.getD k default)=z
  constructor
  ·rintro ⟨⟨⟨h1,h2⟩,h3⟩,h4⟩;exact ⟨⟨⟨h1,h2⟩,h3⟩,by omega⟩
  ·rintro ⟨⟨⟨h1,h2⟩,h3⟩,h4⟩;exact ⟨⟨⟨h1,h2⟩,h3⟩,by omega⟩
 ·have hp : decide ((k : Int) > 0)=false:=by simp;omega
  rw [hp]
  simp only [Bool.or_eq_false_iff,Bool.and_eq_true,Bool.not_eq_false',Bool.false_and,bne_eq_false_iff_eq,beq_iff_eq,h0,false_imp_iff,and_true]
theorem iP (d : District) (c : List Claim) : aY d c=0↔bn d=0∧c.length≤4096∧(∀ a∈c,okC d a=true)∧c.Pairwise xZ:=by
 rw [xX]
 refine and_congr_right fun _=> and_congr_right fun hl=> ?_
 constructor
 ·intro h
  have hs:=fun k hk=> (sn (by omega)).1 (h k hk)
  refine ⟨fun a ha=> ?_,?_⟩
  ·obtain ⟨k,hk,rfl⟩ :=List.getElem_of_mem ha
   have:=(hs k hk).1
   rwa [b7 _ _ hk] at this
  ·have key : ∀ (k j : Nat),j < k→k < c.length→xZ (c.getD j default) (c.getD k default) :=by
    intro k
    induction k with
    | zero=> intro j h1;omega
    | succ k ih=>
     intro j h1 h2
     have h3:=(hs (k + 1) h2).2 (by omega)
     rw [Nat.add_sub_cancel] at h3
     by_cases e : j=k
     ·subst e;exact h3
     ·exact Bw (ih j (by omega) (by omega)) h3
   rw [List.pairwise_iff_getElem]
   intro i j hi hj hij
   have:=key j i hij hj
   rwa [b7 _ _ hi,b7 _ _ hj] at this
 ·rintro ⟨h1,h2⟩ k hk
  refine (sn (by omega)).2 ⟨?_,fun h0=> ?_⟩
  ·rw [b7 _ _ hk];exact h1 _ (List.getElem_mem _)
  ·rw [b7 _ _ hk,b7 _ _ (by omega : k - 1 < c.length)]
   exact List.pairwise_iff_getElem.1 h2 _ _ _ _ (by omega)
def kz (a : Claim) : CertifyPlace:= { hour:=a.hour,index:=a.farm,outlet:=true}
def dB (p : CertifyPlace) : List Claim→Int
 | [] => 0
 | a :: r=> (if p=kz a then a.litres else 0) + dB p r
theorem so (p : CertifyPlace) (a b : List Claim) : dB p (a ++ b)=dB p a + dB p b:=by
 induction a with
 | nil=> simp [dB]
 | cons x r ih=> simp only [List.cons_append,dB,ih];omega
theorem o5 (p : CertifyPlace) (c : List Claim) (h : ∀ a∈c,1≤a.litres∧a.litres≤1073741824) : 0≤dB p c∧dB p c≤c.length * 1073741824:=by
 induction c with
 | nil=> simp [dB]
 | cons x r ih=>
  have h1:=ih fun a ha=> h a (List.mem_cons_of_mem _ ha)
  have h2:=h x List.mem_cons_self
  simp only [dB,List.length_cons]
  split <;> omega
theorem qI {c : List Claim} (hl : c.length≤4096) (h : ∀ a∈c,1≤a.litres∧a.litres≤1073741824) (p : CertifyPlace) : aB .certifyPlace .int (oa c) p=dB p c:=by
 unfold oa
 cases hs : ak (aO c) c.length 0 [] with
 | inl x=> exact x.elim
 | inr m=>
  have:=eP (fun j s=> ∀ p,aB .certifyPlace .int s p=dB p (c.take j)) _ _ _ (fun p=> by simp [dB,aB,fJ,dc]) (fun j s _ hj hg s' hs' p=> by
   have hj : j < c.length:=by omega
   unfold aO at hs'
   simp only [Sum.inr.injEq] at hs'
   subst hs'
   rw [b7 _ _ hj]
   have e : ∀ q,dB q (c.take (j + 1))=dB q (c.take j) + (if q=kz c[j] then c[j].litres else 0) :=fun q=> by
    rw [List.take_succ_eq_append_getElem hj,so]
    simp [dB]
   have hb:=o5 (kz c[j]) (c.take j) fun a ha=> h a (List.mem_of_mem_take ha)
   have hb2:=h c[j] (List.getElem_mem _)
   have hb3 : (c.take j).length≤4096:=by rw [List.length_take];omega
   rw [eD,e p]
   have hg2:=hg (kz c[j])
   unfold kz at hg2 hb ⊢
   rw [hg2]
   split
   ·rename_i e;rw [e,bN (by omega) (by omega)]
   ·rw [hg];exact (Int.add_zero _).symm) m hs
  have:=this p
  rw [Nat.zero_add,List.take_length] at this
  exact this
theorem pu {d : District} {a : Claim} (h : okC d a=true) : 1≤a.litres∧a.litres≤1073741824:=by
 unfold okC at h
 simp only [Bool.and_eq_true,decide_eq_true_eq] at h
 omega
theorem IR {t : CertifyTable} {m : List (CertifyPlace×Int)} {h f : Nat} : uF t m h f=[]↔¬ (aB .certifyPlace .int t.litres { hour:=(h : Int),index:=(f : Int),outlet:=true} < aB .certifyPlace .int m { hour:=(h : Int),index:=(f : Int),outlet:=true}) :=by
 unfold uF
 rw [Bool.cond_eq_ite]
 split <;> simp_all
def aU (reach a b : Int) (x : Order) : Bool:=(!x.outlet && x.index==reach) && decide (x.hour≥a) && decide (x.hour≤b)
def pw (farm hour : Int) (x : Order) : Bool:=(x.outlet && x.index==farm) && x.hour==hour
theorem DT {α : Type} (l : List α) (d r : α) (i k : Nat) (hi : i < l.length) : (l.set i r).getD k d=if k=i then r else l.getD k d:=by
 rw [List.getD_eq_getElem?_getD,List.getElem?_set,List.getD_eq_getElem?_getD]
 by_cases h : k=i
 ·subst h;simp [hi]
 ·rw [if_neg (fun e=> h e.symm),if_neg h]
def cell (g : List (List Int)) (i j : Nat) : Int:=(g.getD i []).getD j 0
theorem oE {g : List (List Int)} {n m : Nat} (hg : Grid g n m) {i j : Nat} (hi : i < n) (hj : j < m) (v : Int) (a b : Nat) : cell (g.set i ((g.getD i []).set j v)) a b=if a=i∧b=j then v else cell g a b:=by
 unfold cell
 have h1 : i < g.length:=by rw [hg.1];exact hi
 rw [DT _ _ _ _ _ h1]
 by_cases ha : a=i
 ·subst ha
  rw [if_pos rfl,DT _ _ _ _ _ (by rw [hg.row hi];exact hj)]
  by_cases hb : b=j <;> simp [hb]
 ·rw [if_neg ha,if_neg (fun e=> ha e.1)]
def gw (h i : Int) (o : Bool) (x : Order) : Bool:=(x.hour==h && x.index==i) && x.outlet==o
structure T1 (d : District) (pre : List Order) (s : List (CertifyPlace×Int)×List (List Int)×List (List Int)) : Prop where
 lit : ∀ h i o,aB .certifyPlace .int s.1 { hour:=h,index:=i,outlet:=o} =a8 (gw h i o) pre
 gd : Grid s.2.1 d.reaches.length d.hours.toNat
 gs : Grid s.2.2 d.reaches.length (d.hours + 1).toNat
 drawn : ∀ r h,r < d.reaches.length→h < d.hours.toNat→cell s.2.1 r h=a8 (fF d r h) pre
 sums : ∀ r t,r < d.reaches.length→t < (d.hours + 1).toNat→cell s.2.2 r t=a8 (aU r ((t : Int) - 1) ((t : Int) - 1)) pre
theorem rN {d : District} {l : List Order} (ho : Orders1 d l) {j : Nat} (hj : j < l.length) {p : Order→Bool} (hp : ∀ x,p x=true→x.hour=l[j].hour∧x.index=l[j].index∧x.outlet=l[j].outlet) : a8 p (l.take j)=0:=
 gV fun x hx=> by
  obtain ⟨i,hi,rfl⟩ :=List.getElem_of_mem hx
  rw [List.length_take] at hi
  rw [List.getElem_take]
  cases h : p l[i] with
  | false=> rfl
  | true=>
   obtain ⟨e1,e2,e3⟩ :=hp _ h
   have:=ho.uniq (by omega) hj e1 e2 e3
   omega
theorem x5 {d : District} {l : List Order} (ho : Orders1 d l) (p : Order→Bool) (j : Nat) : 0≤a8 p (l.take j)∧a8 p (l.take j)≤4398046511104:=by
 have hb:=un (p:=p) fun a ha=> ho.lit a (List.mem_of_mem_take (i:=j) ha)
 have hl:=ho.len
 have hb3 : (l.take j).length≤4096:=by rw [List.length_take];omega
 omega
theorem sZ {a : Nat} {b : Int} (hb : 0≤b) : ((b==(a : Int))=true)↔a=b.toNat:=by
 rw [beq_iff_eq];omega
theorem Nl {d : District} {l : List Order} (ho : Orders1 d l) {j : Nat} (hj : j < l.length) {s s' : List (CertifyPlace×Int)×List (List Int)×List (List Int)} (h : T1 d (l.take j) s) (hs : aP d l j s= .inr s') : T1 d (l.take (j + 1)) s':=by
 have hR:=ho.right
 have a1:=hR.hours1
 have a2:=hR.hours
 have hx:=ho.one j hj
 rw [b7 _ _ hj] at hx
 have hgd:=(my ho j hj s h.gd h.gs).2 s' hs
 have x0:=hx.hour0
 have x1:=hx.hour
 have x2:=hx.index0
 have x3:=hx.litres1
 have x4:=hx.litres
 have hlit : s'.1=c7 .certifyPlace .int s.1 { hour:=l[j].hour,index:=l[j].index,outlet:=l[j].outlet} l[j].litres:=by
  unfold aP at hs
  rw [b7 _ _ hj] at hs
  simp only [Bool.cond_eq_ite] at hs
  repeat' split at hs
  all_goals (simp only [Sum.inr.injEq] at hs;subst hs;rfl)
 refine ⟨fun hh i o=> ?_,hgd.1,hgd.2,fun r t hr ht=> ?_,fun r t hr ht=> ?_⟩
 ·rw [hlit,eD,gW hj,h.lit]
  by_cases hp : ({ hour:=hh,index:=i,outlet:=o} : CertifyPlace)= { hour:=l[j].hour,index:=l[j].index,outlet:=l[j].outlet}
  ·rw [if_pos hp]
   simp only [CertifyPlace.mk.injEq] at hp
   obtain ⟨e1,e2,e3⟩ :=hp
   have hpp : gw hh i o l[j]=true:=by unfold gw;rw [e1,e2,e3];simp
   rw [hpp,rN ho hj fun x hx=> ?_]
   ·exact (Int.zero_add _).symm
   ·unfold gw at hx
    simp only [Bool.and_eq_true,beq_iff_eq] at hx
    exact ⟨hx.1.1.trans e1,hx.1.2.trans e2,hx.2.trans e3⟩
  ·rw [if_neg hp]
   have hpp : gw hh i o l[j]=false:=by
    cases hq : gw hh i o l[j] with
    | false=> rfl
    | true=>
     unfold gw at hq
     simp only [Bool.and_eq_true,beq_iff_eq] at hq
     exact absurd (by rw [hq.1.1,hq.1.2,hq.2]) hp
   rw [hpp]
   exact (Int.add_zero _).symm
 ·have hb:=x5 ho (fF d r t) j
  have hold:=h.drawn r t hr ht
  rw [gW hj]
  have hd : fF d r t l[j]=((l[j].hour==(t : Int)) && ((l[j].outlet && (d.farms.getD l[j].index.toNat default).reach==(r : Int)) || (!l[j].outlet && (d.reaches.getD l[j].index.toNat default).up==(r : Int)))) :=rfl
  unfold aP at hs
  rw [b7 _ _ hj] at hs
  have key : ∀ (at_ : Int),0≤at_→at_ < (d.reaches.length : Int)→(fF d r t l[j]=((l[j].hour==(t : Int)) && (at_==(r : Int))))→
    cell (s.2.1.set at_.toNat ((s.2.1.getD at_.toNat []).set l[j].hour.toNat (IntKind.i64.wrap (((s.2.1.getD at_.toNat []).getD l[j].hour.toNat 0) + l[j].litres)))) r t=a8 (fF d r t) (l.take j) + (bif fF d r t l[j] then l[j].litres else 0) :=fun at_ q0 q1 q2=> by
   rw [oE h.gd (by omega) (by omega)]
   by_cases hc : r=at_.toNat∧t=l[j].hour.toNat
   ·obtain ⟨rfl,rfl⟩ :=hc
    have : fF d at_.toNat l[j].hour.toNat l[j]=true:=by rw [q2,Bool.and_eq_true,sZ x0,sZ q0];exact ⟨rfl,rfl⟩
    rw [if_pos ⟨rfl,rfl⟩,this]
    have hold : (s.2.1.getD at_.toNat []).getD l[j].hour.toNat 0=_:=hold
    rw [hold,bN (by omega) (by omega)]
    rfl
   ·rw [if_neg hc,hold]
    have : fF d r t l[j]=false:=by
     cases hq : fF d r t l[j] with
     | false=> rfl
     | true=>
      rw [hq] at q2
      have:=q2.symm
      rw [Bool.and_eq_true,sZ x0,sZ q0] at this
      exact absurd ⟨this.2,this.1⟩ hc
    rw [this]
    exact (Int.add_zero _).symm
  cases ho1 : l[j].outlet with
  | true=>
   have hf:=hR.farm l[j].index.toNat (by have:=hx.farm ho1;omega)
   rw [ho1,decide_eq_true hf.1] at hs
   simp only [cond_true,Sum.inr.injEq] at hs
   subst hs
   exact key _ hf.1 hf.2 (by rw [hd,ho1];simp)
  | false=>
   have hf:=hR.reachI hx.index0 (hx.reach ho1)
   rw [ho1] at hs
   simp only [cond_false] at hs
   by_cases hu : (d.reaches.getD l[j].index.toNat default).up≥0
   ·rw [decide_eq_true hu] at hs
    simp only [cond_true,Sum.inr.injEq] at hs
    subst hs
    have:=hf.up
    have:=hx.reach ho1
    exact key _ hu (by omega) (by rw [hd,ho1];simp)
   ·rw [decide_eq_false hu] at hs
    simp only [cond_false,Sum.inr.injEq] at hs
    subst hs
    have : fF d r t l[j]=false:=by
     rw [hd,ho1]
     have : ((d.reaches.getD l[j].index.toNat default).up==(r : Int))=false:=by rw [beq_eq_false_iff_ne];omega
     rw [this];simp
    rw [this]
    show cell s.2.1 r t=_
    rw [hold]
    exact (Int.add_zero _).symm
 ·have hold:=h.sums r t hr ht
  rw [gW hj]
  unfold aP at hs
  rw [b7 _ _ hj] at hs
  cases ho1 : l[j].outlet with
  | true=>
   have e : s'.2.2=s.2.2:=by
    rw [ho1] at hs
    simp only [cond_true] at hs
    simp only [Bool.cond_eq_ite] at hs
    split at hs <;> (simp only [Sum.inr.injEq] at hs;subst hs;rfl)
   have : aU r ((t : Int) - 1) ((t : Int) - 1) l[j]=false:=by unfold aU;rw [ho1];rfl
   rw [e,this,hold]
   exact (Int.add_zero _).symm
  | false=>
   have hxr:=hx.reach ho1
   have hw : IntKind.i64.wrap (l[j].hour + 1)=l[j].hour + 1:=bN (by omega) (by omega)
   have e : s'.2.2=s.2.2.set l[j].index.toNat ((s.2.2.getD l[j].index.toNat []).set (l[j].hour + 1).toNat l[j].litres) :=by
    rw [ho1,hw] at hs
    simp only [cond_false] at hs
    simp only [Bool.cond_eq_ite] at hs
    split at hs <;> (simp only [Sum.inr.injEq] at hs;subst hs;rfl)
   rw [e,oE h.gs (by omega) (by omega)]
   by_cases hc : r=l[j].index.toNat∧t=(l[j].hour + 1).toNat
   ·obtain ⟨rfl,rfl⟩ :=hc
    rw [if_pos ⟨rfl,rfl⟩]
    have e2 : (((l[j].hour + 1).toNat : Int) - 1)=l[j].hour:=by omega
    have e3 : ((l[j].index.toNat : Nat) : Int)=l[j].index:=by omega
    rw [e2,e3]
    have : aU l[j].index l[j].hour l[j].hour l[j]=true:=by unfold aU;rw [ho1];simp
    rw [this,rN ho hj fun x hx=> ?_]
    ·exact (Int.zero_add _).symm
    ·unfold aU at hx
     simp only [Bool.and_eq_true,beq_iff_eq,decide_eq_true_eq,Bool.not_eq_true'] at hx
     exact ⟨by omega,hx.1.1.2,by rw [hx.1.1.1,ho1]⟩
   ·rw [if_neg hc,hold]
    have : aU r ((t : Int) - 1) ((t : Int) - 1) l[j]=false:=by
     cases hq : aU r ((t : Int) - 1) ((t : Int) - 1) l[j] with
     | false=> rfl
     | true=>
      unfold aU at hq
      simp only [Bool.and_eq_true,beq_iff_eq,decide_eq_true_eq,Bool.not_eq_true'] at hq
      exact absurd ⟨by omega,by omega⟩ hc
    rw [this]
    exact (Int.add_zero _).symm
theorem Bx {d : District} {l : List Order} (ho : Orders1 d l) (r : Int) (t : Nat) : a8 (aU r 0 ((t : Int) - 1)) l + a8 (aU r t t) l=a8 (aU r 0 t) l:=
 zj fun x hx=> by
  unfold aU
  obtain ⟨k,hk,rfl⟩ :=List.getElem_of_mem hx
  have h0:=(ho.one k hk).hour0
  rw [b7 _ _ hk] at h0
  cases (!l[k].outlet && l[k].index==r)
  ·simp
  ·simp only [Bool.true_and]
   constructor
   ·refine zR ?_
    simp only [Bool.or_eq_true,Bool.and_eq_true,decide_eq_true_eq];omega
   ·rw [Bool.eq_false_iff]
    simp only [ne_eq,Bool.and_eq_true,decide_eq_true_eq];omega
theorem rO {d : District} {l : List Order} (ho : Orders1 d l) (p : Order→Bool) : 0≤a8 p l∧a8 p l≤4398046511104:=by
 have:=x5 ho p l.length
 rwa [List.take_length] at this
theorem IS {d : District} {l : List Order} (ho : Orders1 d l) {k : Nat} (hk : k < d.reaches.length) {g g' : List (List Int)} (hg : Grid g d.reaches.length (d.hours + 1).toNat)
  (hrow : ∀ t,t < (d.hours + 1).toNat→cell g k t=a8 (aU k ((t : Int) - 1) ((t : Int) - 1)) l) (hr : ak (dY d k) d.hours.toNat 0 g= .inr g') :
  Grid g' d.reaches.length (d.hours + 1).toNat∧(∀ t,t < (d.hours + 1).toNat→cell g' k t=a8 (aU k 0 ((t : Int) - 1)) l)∧∀ a t,a≠k→cell g' a t=cell g a t:=by
 have hR:=ho.right
 have a1:=hR.hours1
 have a2:=hR.hours
 have:=eP (fun j s=> Grid s d.reaches.length (d.hours + 1).toNat∧(∀ t,t < (d.hours + 1).toNat→cell s k t=if t≤j then a8 (aU k 0 ((t : Int) - 1)) l else a8 (aU k ((t : Int) - 1) ((t : Int) - 1)) l)∧∀ a t,a≠k→cell s a t=cell g a t) _ _ _
  ⟨hg,fun t ht=> by
   rw [hrow t ht]
   by_cases h : t≤0
   ·have : t=0:=by omega
    subst this
    rw [if_pos h]
    rw [gV fun x hx=> ?_,gV fun x hx=> ?_]
    ·unfold aU
     rw [Bool.eq_false_iff]
     simp only [ne_eq,Bool.and_eq_true,decide_eq_true_eq];omega
    ·obtain ⟨i,hi,rfl⟩ :=List.getElem_of_mem hx
     have h0:=(ho.one i hi).hour0
     rw [b7 _ _ hi] at h0
     unfold aU
     rw [Bool.eq_false_iff]
     simp only [ne_eq,Bool.and_eq_true,decide_eq_true_eq];omega
   ·rw [if_neg h],fun _ _ _=> rfl⟩
  (fun j s _ hj ⟨i1,i2,i3⟩ s' hs'=> by
   simp only [dY,Sum.inr.injEq] at hs'
   have hw : IntKind.i64.wrap ((j : Int) + 1)=(j : Int) + 1:=bN (by omega) (by omega)
   rw [hw] at hs'
   have e1 : ((j : Int) + 1).toNat=j + 1:=by omega
   rw [e1] at hs'
   have c1:=i2 (j + 1) (by omega)
   have c2:=i2 j (by omega)
   rw [if_neg (by omega)] at c1
   rw [if_pos (by omega)] at c2
   have e2 : (((j + 1 : Nat) : Int) - 1)=(j : Int) :=by omega
   rw [e2] at c1
   have b1:=rO ho (aU k j j)
   have b2:=rO ho (aU k 0 ((j : Int) - 1))
   have hc1 : (s.getD k []).getD (j + 1) 0=a8 (aU k j j) l:=c1
   have hc2 : (s.getD k []).getD j 0=a8 (aU k 0 ((j : Int) - 1)) l:=c2
   rw [hc1,hc2,bN (by omega) (by omega)] at hs'
   have hsp:=Bx ho k j
   subst hs'
   refine ⟨i1.set2,fun t ht=> ?_,fun a t ha=> ?_⟩
   ·rw [oE i1 hk (by omega)]
    by_cases h : k=k∧t=j + 1
    ·rw [if_pos h,if_pos (by omega),h.2,e2];omega
    ·rw [if_neg h,i2 t ht]
     have : t≠j + 1:=fun e=> h ⟨rfl,e⟩
     by_cases h2 : t≤j
     ·rw [if_pos h2,if_pos (by omega)]
     ·rw [if_neg h2,if_neg (by omega)]
   ·rw [oE i1 hk (by omega),if_neg (fun e=> ha e.1)]
    exact i3 a t ha) g' hr
 rw [Nat.zero_add] at this
 refine ⟨this.1,fun t ht=> ?_,this.2.2⟩
 rw [this.2.1 t ht,if_pos (by omega)]
structure Table2 (d : District) (l : List Order) (t : CertifyTable) : Prop where
 lit : ∀ h i o,aB .certifyPlace .int t.litres { hour:=h,index:=i,outlet:=o} =a8 (gw h i o) l
 drawn : ∀ r h,r < d.reaches.length→h < d.hours.toNat→cell t.drawn r h=a8 (fF d r h) l
 sums : ∀ r j,r < d.reaches.length→j < (d.hours + 1).toNat→cell t.sums r j=a8 (aU r 0 ((j : Int) - 1)) l
theorem wB (n m : Nat) (i j : Nat) (hi : i < n) : ∀ (g : List (List Int)),(∀ k,k < n→g.getD k []=List.replicate m 0)→cell g i j=0:=fun g h=> by
 unfold cell
 rw [h i hi,List.getD_eq_getElem?_getD,List.getElem?_replicate]
 split <;> rfl
theorem IT {d : District} {l : List Order} (h : (aj d l).2=0) : Table2 d l (aj d l).1:=by
 have ht:=gQ (d:=d) (l:=l) (by simp [h])
 have ho:=ht.ords
 have hR:=ho.right
 have a1:=hR.hours1
 have a2:=hR.hours
 unfold aj at h ⊢
 cases h1 : (decide (IntKind.i64.wrap ((d.reaches.length : Int) * d.hours) > 1024) || decide ((l.length : Int) > 4096)) with
 | true=> rw [h1] at h;simp at h
 | false=>
  rw [h1] at h
  simp only [cond_false] at h ⊢
  cases h2 : (bt d l !=0) with
  | true=> rw [h2] at h;simp at h
  | false=>
   simp only [cond_false]
   have hw : IntKind.i64.wrap (d.hours + 1)=d.hours + 1:=bN (by omega) (by omega)
   cases hs0 : ak (ax d) d.reaches.length 0 ([],[]) with
   | inl x=> exact x.elim
   | inr s0=>
    have hg0:=eP (fun j s=> (s.1.length=j∧∀ k,k < j→s.1.getD k []=List.replicate (d.hours + 1).toNat 0)∧(s.2.length=j∧∀ k,k < j→s.2.getD k []=List.replicate d.hours.toNat 0)) _ _ _ ⟨⟨rfl,fun k hk=> by omega⟩,⟨rfl,fun k hk=> by omega⟩⟩ (fun j s _ hj hg s' hs=> by
     simp only [ax,Sum.inr.injEq] at hs
     subst hs
     simp only [hw]
     refine ⟨⟨by simp [hg.1.1],fun k hk=> ?_⟩,⟨by simp [hg.2.1],fun k hk=> ?_⟩⟩
     ·rw [List.getD_eq_getElem?_getD,List.getElem?_append]
      by_cases hkj : k < j
      ·rw [if_pos (by omega),←List.getD_eq_getElem?_getD];exact hg.1.2 k hkj
      ·rw [if_neg (by omega)]
       have : k - s.1.length=0:=by omega
       rw [this];rfl
     ·rw [List.getD_eq_getElem?_getD,List.getElem?_append]
      by_cases hkj : k < j
      ·rw [if_pos (by omega),←List.getD_eq_getElem?_getD];exact hg.2.2 k hkj
      ·rw [if_neg (by omega)]
       have : k - s.2.length=0:=by omega
       rw [this];rfl) s0 hs0
    simp only [Nat.zero_add] at hg0
    dsimp only
    cases hs1 : ak (aP d l) l.length 0 ([],s0.2,s0.1) with
    | inl x=> exact x.elim
    | inr s1=>
     have hT0 : T1 d (l.take 0) ([],s0.2,s0.1) :=by
      refine ⟨fun _ _ _=> by simp [a8,aB,fJ,dc],⟨hg0.2.1,fun i hi=> by rw [hg0.2.2 i hi];simp⟩,⟨hg0.1.1,fun i hi=> by rw [hg0.1.2 i hi];simp⟩,fun r h hr _=> ?_,fun r t hr _=> ?_⟩
      ·simp only [List.take_zero,a8];exact wB _ _ r h hr _ hg0.2.2
      ·simp only [List.take_zero,a8];exact wB _ _ r t hr _ hg0.1.2
     have hT:=eP (fun j s=> T1 d (l.take j) s) _ _ _ hT0 (fun j s _ hj hg s' hs'=> Nl ho (by omega) hg hs') s1 hs1
     rw [Nat.zero_add,List.take_length] at hT
     dsimp only
     cases hs2 : ak (dy d s1) s1.2.2.length 0 s1.2.2 with
     | inl x=> exact x.elim
     | inr s2=>
      have hlen:=hT.gs.1
      have h3:=eP (fun j s=> Grid s d.reaches.length (d.hours + 1).toNat∧(∀ a t,a < j→a < d.reaches.length→t < (d.hours + 1).toNat→cell s a t=a8 (aU a 0 ((t : Int) - 1)) l)∧∀ a t,j≤a→cell s a t=cell s1.2.2 a t) _ _ _
       ⟨hT.gs,fun a t ha=> by omega,fun _ _ _=> rfl⟩ (fun j s _ hj ⟨i1,i2,i3⟩ s' hs'=> by
        unfold dy at hs'
        split at hs'
        ·rename_i x _;exact x.elim
        ·rename_i s3 h3
         simp only [Sum.inr.injEq] at hs'
         subst hs'
         obtain ⟨q1,q2,q3⟩ :=IS ho (by omega) i1 (fun t ht=> by rw [i3 j t (Nat.le_refl _)];exact hT.sums j t (by omega) ht) h3
         refine ⟨q1,fun a t ha ha2 ht=> ?_,fun a t ha=> ?_⟩
         ·by_cases e : a=j
          ·subst e;exact q2 t ht
          ·rw [q3 a t e];exact i2 a t (by omega) ha2 ht
         ·rw [q3 a t (by omega)];exact i3 a t (by omega)) s2 hs2
      rw [Nat.zero_add] at h3
      exact ⟨hT.lit,hT.drawn,fun r j hr hj=> h3.2.1 r j (by omega) hr hj⟩
structure Sure (d : District) (c : List Claim) (l : List Order) : Prop where
 ho : Orders1 d l
 clen : c.length≤4096
 okc : ∀ a∈c,okC d a=true
 cap : ∀ r h : Nat,r < d.reaches.length→a8 (aU r h h) l≤(d.reaches.getD r default).cap
 bank : ∀ r h : Nat,r < d.reaches.length→h < d.hours.toNat→a8 (aU r ((h : Int) - (d.reaches.getD r default).delay + 1) h) l≤(d.reaches.getD r default).bank
 tank : ∀ h : Nat,h < d.hours.toNat→a8 (aU (0 : Nat) 0 h) l≤d.tank.start
 water : ∀ r h : Nat,r < d.reaches.length→h < d.hours.toNat→a8 (fF d r h) l≤(dm (d.reaches.getD r default) (a8 (aU r ((h : Int) - (d.reaches.getD r default).delay) ((h : Int) - (d.reaches.getD r default).delay)) l)).1
 unmet : ∀ h f : Nat,h < d.hours.toNat→f < d.farms.length→dB { hour:=(h : Int),index:=(f : Int),outlet:=true} c≤a8 (pw f h) l
theorem zU {d : District} {l : List Order} (ho : Orders1 d l) (r h : Int) : a8 (aU r h h) l=0∨∃ (j : Nat) (hj : j < l.length),l[j].outlet=false∧l[j].index=r∧l[j].hour=h∧a8 (aU r h h) l=l[j].litres:=by
 by_cases hx : ∃ (j : Nat) (hj : j < l.length),aU r h h l[j]=true
 ·obtain ⟨j,hj,hp⟩ :=hx
  have hp':=hp
  unfold aU at hp'
  simp only [Bool.and_eq_true,beq_iff_eq,decide_eq_true_eq,Bool.not_eq_true'] at hp'
  refine .inr ⟨j,hj,hp'.1.1.1,hp'.1.1.2,by omega,zk hj hp fun i hi hne=> ?_⟩
  cases hq : aU r h h l[i] with
  | false=> rfl
  | true=>
   unfold aU at hq
   simp only [Bool.and_eq_true,beq_iff_eq,decide_eq_true_eq,Bool.not_eq_true'] at hq
   exact absurd (ho.uniq hi hj (by omega) (hq.1.1.2.trans hp'.1.1.2.symm) (hq.1.1.1.trans hp'.1.1.1.symm)) hne
 ·refine .inl (gV fun x hxm=> ?_)
  obtain ⟨j,hj,rfl⟩ :=List.getElem_of_mem hxm
  cases hq : aU r h h l[j] with
  | false=> rfl
  | true=> exact absurd ⟨j,hj,hq⟩ hx
theorem uQ {d : District} {l : List Order} (ho : Orders1 d l) (r h : Int) : 0≤a8 (aU r h h) l∧a8 (aU r h h) l≤1073741824:=by
 rcases zU ho r h with h1 | ⟨j,hj,_,_,_,h1⟩
 ·omega
 ·have:=ho.lit l[j] (List.getElem_mem _);omega
theorem uR (r h : Int) (x : Order) : gw h r false x=aU r h h x:=by
 unfold gw aU
 refine zR ?_
 simp only [Bool.and_eq_true,beq_iff_eq,decide_eq_true_eq,Bool.not_eq_true']
 constructor
 ·rintro ⟨⟨h1,h2⟩,h3⟩;exact ⟨⟨⟨h3,h2⟩,by omega⟩,by omega⟩
 ·rintro ⟨⟨⟨h3,h2⟩,h1⟩,h4⟩;exact ⟨⟨by omega,h2⟩,h3⟩
theorem wC (f h : Int) (x : Order) : gw h f true x=pw f h x:=by
 unfold gw pw
 cases x.outlet <;> cases (x.index==f) <;> cases (x.hour==h) <;> rfl
theorem zV {d : District} {l : List Order} (ho : Orders1 d l) (r : Int) {a m b : Int} (h1 : a≤m) (h2 : m≤b + 1) : a8 (aU r a (m - 1)) l + a8 (aU r m b) l=a8 (aU r a b) l:=zj fun x _=> by
 unfold aU
 cases (!x.outlet && x.index==r)
 ·simp
 ·simp only [Bool.true_and]
  constructor
  ·refine zR ?_
   simp only [Bool.or_eq_true,Bool.and_eq_true,decide_eq_true_eq];omega
  ·rw [Bool.eq_false_iff]
   simp only [ne_eq,Bool.and_eq_true,decide_eq_true_eq];omega
theorem IU {d : District} {l : List Order} (ho : Orders1 d l) (r : Int) {a b : Int} (h : a≤0) : a8 (aU r a b) l=a8 (aU r 0 b) l:=gN fun x hx=> by
 obtain ⟨k,hk,rfl⟩ :=List.getElem_of_mem hx
 have h0:=(ho.one k hk).hour0
 rw [b7 _ _ hk] at h0
 unfold aU
 rw [decide_eq_true (by omega : l[k].hour≥a),decide_eq_true (by omega : l[k].hour≥0)]
theorem zW {d : District} {l : List Order} {t : CertifyTable} (ho : Orders1 d l) (ht : t.d=d) (h2 : Table2 d l t) {h r : Nat} (hh : h < d.hours.toNat) (hr : r < d.reaches.length) :
  uM t ((h : Int),(r : Int))=a8 (aU r ((h : Int) - (d.reaches.getD r default).delay + 1) h) l:=by
 have hR:=ho.right
 have a1:=hR.hours1
 have a2:=hR.hours
 have hx:=hR.reach1 hr
 have d1:=hx.delay1
 have d2:=hx.delay
 unfold uM
 rw [ht]
 simp only [Int.toNat_natCast]
 generalize hdl : (d.reaches.getD r default).delay=dl at d1 d2
 have w1 : IntKind.i64.wrap ((h : Int) + 1)=(h : Int) + 1:=bN (by omega) (by omega)
 have w2 : IntKind.i64.wrap ((h : Int) + 1 - dl)=(h : Int) + 1 - dl:=bN (by omega) (by omega)
 rw [w1,w2]
 generalize hm : (if 0 < (h : Int) + 1 - dl then (h : Int) + 1 - dl else 0)=m
 have m0 : 0≤m∧m≤h∧(m=(h : Int) + 1 - dl∨m=0∧(h : Int) + 1 - dl≤0) :=by
  subst hm;split <;> omega
 have c1:=h2.sums r (h + 1) hr (by omega)
 have c2:=h2.sums r m.toNat hr (by omega)
 have e1 : ((h : Int) + 1).toNat=h + 1:=by omega
 rw [e1]
 show IntKind.i64.wrap (cell t.sums r (h + 1) - cell t.sums r m.toNat)=_
 rw [c1,c2]
 have e2 : (((h + 1 : Nat) : Int) - 1)=(h : Int) :=by omega
 have e3 : ((m.toNat : Nat) : Int)=m:=by omega
 rw [e2,e3]
 have b1:=rO ho (aU r 0 h)
 have b2:=rO ho (aU r 0 (m - 1))
 have hadd:=zV ho r (a:=0) (m:=m) (b:=h) m0.1 (by omega)
 have hz : a8 (aU r ((h : Int) - dl + 1) h) l=a8 (aU r m h) l:=by
  rcases m0.2.2 with e | ⟨e,e'⟩
  ·rw [e,show (h : Int) - dl + 1=(h : Int) + 1 - dl by omega]
  ·rw [e];exact IU ho r (by omega)
 rw [bN (by omega) (by omega),hz]
 omega
theorem zX {t : CertifyTable} {h r : Nat} (hh : h < t.d.hours.toNat) (hr : r < t.d.reaches.length) : ((h : Int),(r : Int))∈aS t:=by
 unfold aS
 simp only [List.mem_flatMap,List.mem_range,List.mem_map]
 exact ⟨h,hh,r,hr,rfl⟩
theorem sure {d : District} {c : List Claim} {l : List Order} (h : aG d c l=(true,0)) : Sure d c l:=by
 obtain ⟨h1,h2,q⟩ :=(kU d c l).1 h
 have hc:=(iP d c).1 h1
 have ht:=gQ (d:=d) (l:=l) (by simp [h2])
 have ho:=ht.ords
 have hT:=IT h2
 have htd:=ht.td
 have htl:=ht.tl
 have hR:=ho.right
 have a1:=hR.hours1
 have a2:=hR.hours
 generalize (aj d l).1=t at q hT htd htl
 refine ⟨ho,hc.2.1,hc.2.2.1,fun r h hr=> ?_,fun r h hr hh=> ?_,fun h hh=> ?_,fun r h hr hh=> ?_,fun h f hh hf=> ?_⟩
 ·have hx:=hR.reach1 hr
  have:=hx.siphon0
  have:=hx.siphon
  rcases zU ho (r : Int) (h : Int) with e | ⟨j,hj,e1,e2,e3,e⟩
  ·omega
  ·have:=DR.1 (q.gate j (by rw [htl];exact hj))
   rw [htl,htd,b7 _ _ hj,e1,e2] at this
   simp only [Bool.false_eq_true,false_or,Int.toNat_natCast] at this
   omega
 ·have:=q.bank _ (zX (t:=t) (h:=h) (r:=r) (by rw [htd];exact hh) (by rw [htd];exact hr))
  unfold bF at this
  rw [Bool.cond_eq_ite,zW ho htd hT hh hr,htd] at this
  simp only [Int.toNat_natCast,decide_eq_true_eq] at this
  split at this
  ·cases this
  ·omega
 ·have:=q.tank h (by rw [htd];exact hh)
  have w1 : IntKind.i64.wrap ((h : Int) + 1)=(h : Int) + 1:=bN (by omega) (by omega)
  have c1:=hT.sums 0 (h + 1) hR.one (by omega)
  have e1 : ((h : Int) + 1).toNat=h + 1:=by omega
  have e2 : (((h + 1 : Nat) : Int) - 1)=(h : Int) :=by omega
  rw [e2] at c1
  have c1 : (t.sums.getD 0 default).getD (h + 1) 0=a8 (aU (0 : Nat) 0 h) l:=c1
  rw [w1,e1,c1,htd] at this
  omega
 ·have:=q.water _ (zX (t:=t) (h:=h) (r:=r) (by rw [htd];exact hh) (by rw [htd];exact hr))
  unfold wF at this
  rw [Bool.cond_eq_ite] at this
  simp only [Int.toNat_natCast,decide_eq_true_eq] at this
  split at this
  ·cases this
  ·rename_i hw
   have hx:=hR.reach1 hr
   have d1:=hx.delay1
   have d2:=hx.delay
   have c1 : (t.drawn.getD r default).getD h 0=a8 (fF d r h) l:=hT.drawn r h hr hh
   unfold a7 at hw
   rw [c1,htd] at hw
   simp only [Int.toNat_natCast] at hw
   have eg : ∀ r h : Int,a8 (gw h r false) l=a8 (aU r h h) l:=fun r h=> gN fun x _=> uR r h x
   rw [bN (by omega) (by omega),hT.lit,eg] at hw
   omega
 ·have:=IR.1 (q.unmet h (by rw [htd];exact hh) f (by rw [htd];exact hf))
  have eo : a8 (gw (h : Int) (f : Int) true) l=a8 (pw f h) l:=gN fun x _=> wC _ _ x
  rw [hT.lit,qI hc.2.1 (fun a ha=> pu (hc.2.2.1 a ha)),eo] at this
  exact Int.not_lt.1 this
end Go.Sx
end
section
namespace Go.Sx
open Go.Proofs
set_option maxRecDepth 100000
set_option linter.unusedSimpArgs false
theorem zY {p : Prop} (h : p:=by (first | done | (repeat' (first | with_reducible refine And.intro ?_ ?_ | ((with_reducible show _≠_);first | assumption | omega | (simp_all [am,aC];done) | grind) | with_reducible intro _)) <;> (first | done | exact Empty.elim ‹Empty› | assumption | rfl | omega | decide | exact fk [0] | (simp only [*,cond_true,cond_false,Bool.not_true,Bool.not_false,go_sem,Nat.reduceBEq,Nat.reduceLeDiff,Nat.reduceLT,decide_true,Nat.reduceAdd,Nat.reduceSub,Nat.reduceMul,Int.reduceLE,Int.reduceLT,Int.reduceToNat,Int.reduceNeg,reduceCtorEq];done) | (simp only [*,cond_true,cond_false,Bool.not_true,Bool.not_false,go_sem,Nat.reduceBEq,Nat.reduceLeDiff,Nat.reduceLT,decide_true,Nat.reduceAdd,Nat.reduceSub,Nat.reduceMul,Int.reduceLE,Int.reduceLT,Int.reduceToNat,Int.reduceNeg,reduceCtorEq];(repeat' (first | with_reducible refine And.intro ?_ ?_ | ((with_reducible show _≠_);first | assumption | omega | (simp_all [am,aC];done) | grind) | with_reducible intro _)) <;> (first | done | assumption | rfl | omega | decide | exact fk [0] | (simp_all [am,aC];done))) | (simp_all [okI,am,aC];done) | (simp_all [am,aC];(first | done | exact fk2 [0])) | exact fk2 [0]))) : p:=h
theorem zZ {p : Prop} (h : p:=by (first | done | (repeat' (first | with_reducible refine And.intro ?_ ?_ | ((with_reducible show _≠_);first | assumption | omega | (simp_all [am,aC];done) | grind) | with_reducible intro _)) <;> (first | done | exact Empty.elim ‹Empty› | assumption | rfl | omega | decide | exact fk [0,1,5] | exact fk [0,1,2] | (simp only [*,cond_true,cond_false,Bool.not_true,Bool.not_false,go_sem,Nat.reduceBEq,Nat.reduceLeDiff,Nat.reduceLT,decide_true,Nat.reduceAdd,Nat.reduceSub,Nat.reduceMul,Int.reduceLE,Int.reduceLT,Int.reduceToNat,Int.reduceNeg,reduceCtorEq];done) | (simp only [*,cond_true,cond_false,Bool.not_true,Bool.not_false,go_sem,Nat.reduceBEq,Nat.reduceLeDiff,Nat.reduceLT,decide_true,Nat.reduceAdd,Nat.reduceSub,Nat.reduceMul,Int.reduceLE,Int.reduceLT,Int.reduceToNat,Int.reduceNeg,reduceCtorEq];(repeat' (first | with_reducible refine And.intro ?_ ?_ | ((with_reducible show _≠_);first | assumption | omega | (simp_all [am,aC];done) | grind) | with_reducible intro _)) <;> (first | done | assumption | rfl | omega | decide | exact fk [0,1,5] | exact fk [0,1,2] | (simp_all [am,aC];done))) | (simp_all [okI,am,aC];done) | (simp_all [am,aC];(first | done | exact fk2 [0,1,5] | exact fk2 [0,1,2])) | exact fk2 [0,1,5] | exact fk2 [0,1,2]))) : p:=h
theorem z8 {p : Prop} (h : p:=by (first | done | (repeat' (first | with_reducible refine And.intro ?_ ?_ | ((with_reducible show _≠_);first | assumption | omega | (simp_all [am,aC];done) | grind) | with_reducible intro _)) <;> (first | done | exact Empty.elim ‹Empty› | assumption | rfl | omega | decide | exact fk [] | (simp only [*,cond_true,cond_false,Bool.not_true,Bool.not_false,go_sem,Nat.reduceBEq,Nat.reduceLeDiff,Nat.reduceLT,decide_true,Nat.reduceAdd,Nat.reduceSub,Nat.reduceMul,Int.reduceLE,Int.reduceLT,Int.reduceToNat,Int.reduceNeg,reduceCtorEq];done) | (simp only [*,cond_true,cond_false,Bool.not_true,Bool.not_false,go_sem,Nat.reduceBEq,Nat.reduceLeDiff,Nat.reduceLT,decide_true,Nat.reduceAdd,Nat.reduceSub,Nat.reduceMul,Int.reduceLE,Int.reduceLT,Int.reduceToNat,Int.reduceNeg,reduceCtorEq];(repeat' (first | with_reducible refine And.intro ?_ ?_ | ((with_reducible show _≠_);first | assumption | omega | (simp_all [am,aC];done) | grind) | with_reducible intro _)) <;> (first | done | assumption | rfl | omega | decide | exact fk [] | (simp_all [am,aC];done))) | (simp_all [okI,am,aC];done) | (simp_all [am,aC];(first | done | exact fk2 [])) | exact fk2 []))) : p:=h
theorem IV {p : Prop} (h : p:=by simp only [go_sem,Nat.reduceBEq,Nat.reduceLeDiff,Nat.reduceLT,decide_true,Nat.reduceAdd,Nat.reduceSub,Nat.reduceMul,Int.reduceLE,Int.reduceLT,Int.reduceToNat,Int.reduceNeg,reduceCtorEq,hc,hw];all_goals exact zY) : p:=h
theorem IW {p : Prop} (h : p:=by simp only [go_sem,Nat.reduceBEq,Nat.reduceLeDiff,Nat.reduceLT,decide_true,Nat.reduceAdd,Nat.reduceSub,Nat.reduceMul,Int.reduceLE,Int.reduceLT,Int.reduceToNat,Int.reduceNeg,reduceCtorEq,hc];all_goals exact zY) : p:=h
theorem IX {p : Prop} (h : p:=by simp only [go_sem,Nat.reduceBEq,Nat.reduceLeDiff,Nat.reduceLT,decide_true,Nat.reduceAdd,Nat.reduceSub,Nat.reduceMul,Int.reduceLE,Int.reduceLT,Int.reduceToNat,Int.reduceNeg,reduceCtorEq,hc,hw];all_goals exact z8) : p:=h
theorem IY {p : Prop} (h : p:=by simp only [go_sem,Nat.reduceBEq,Nat.reduceLeDiff,Nat.reduceLT,decide_true,Nat.reduceAdd,Nat.reduceSub,Nat.reduceMul,Int.reduceLE,Int.reduceLT,Int.reduceToNat,Int.reduceNeg,reduceCtorEq,hc];all_goals exact z8) : p:=h
@[go_sem] def bG (c : List Claim) (k_0 : Nat) (s_0 : List (TimetableSlot×Int)) : Empty⊕(List (TimetableSlot×Int)) := .inr (c7 .timetableSlot .int s_0 ({ index:=(c.getD k_0 (default : Claim)).farm,hour:=(c.getD k_0 (default : Claim)).hour} : TimetableSlot) (IntKind.i64.wrap ((aB .timetableSlot .int s_0 ({ index:=(c.getD k_0 (default : Claim)).farm,hour:=(c.getD k_0 (default : Claim)).hour} : TimetableSlot)) + (c.getD k_0 (default : Claim)).litres)))
@[go_sem] def cb (s_0 : List (TimetableSlot×Int)) (k_1 : TimetableSlot×Int) (s_1 : List Order) : Empty⊕(List Order) := .inr (s_1 ++ ([({ hour:=k_1.1.hour,index:=k_1.1.index,litres:=k_1.2,outlet:=true} : Order)]))
def du (s_0 : List (TimetableSlot×Int)) (k_1 : TimetableSlot×Int) (s_1 : List Order) : Prop:=((s_1 ++ ([({ hour:=k_1.1.hour,index:=k_1.1.index,litres:=k_1.2,outlet:=true} : Order)])).length * 32≤ja)
def ap (c : List Claim) : List Order:=(match ak (bG c) c.length 0 ([]) with | .inl x=> x.elim | .inr s_0=> (match cw (cb s_0) s_0 ([]) with | .inl x=> x.elim | .inr s_1=> (srt aq s_1)))
def eN (c : List Claim) : Prop:=(c.length≤bC→(∀ s_0,ak (bG c) c.length 0 ([])= .inr s_0→(∀ L_1,L_1.Perm s_0→(okL (cb s_0) (du s_0) L_1 ([])∧(∀ s_1,cw (cb s_0) L_1 ([])= .inr s_1→((apart aq s_1)∧((srt aq s_1)=(ap c))))))))
@[go_sem] def jI : List SV→Option Con:=(pR .claim fun c=> (pE (.det (eN c) (.nw .order (ap c)))))
set_option maxHeartbeats 4000000 in
theorem oc : FnOk Tryz.prog 63 jI:=by
 have hG : ConsOk Tryz.prog (mkG [] [(97,gO)]) :=aN cg0 (cgc sf cg0)
 refine A_ true mixed aD hG (fn:=Tryz.f63) (c:=ag Tryz.f63) (by kernel_rfl) (by kernel_rfl) (by kernel_rfl) (by kernel_rfl) (df fun c=> (aV (fun hp=> ?_)))
 dsimp only [aZ] at hp
 unfold eN at hp
 refine ⟨Nat.le_of_ble_eq_true rfl,(fun id st=> bif Nat.beq id 0 then some (LCR (ρ:=Empty) (σ:=(List (TimetableSlot×Int))) 1 [] [0] (fun k_0 s_0=> ⟨[(2,.v (.slice none 0 0)),(3,.os 0),(9,.rs .claim c),(10,.v (.int .i64 (c.length : Int))),(11,.v (.int .i64 (k_0 : Int)))],[.mp .timetableSlot .int s_0 none]⟩) (bG c) pT c.length ([]) (c.length≤bC) ((·.elim)) ((·.elim)) st) else bif Nat.beq id 2 then some (LCP (τ:=TimetableSlot×Int) (ρ:=Empty) (σ:=(List Order)) 2 [.slot 2 (.row .order ([]))] [0,1,2] (fun left_1 cur_1 s_1=> ⟨[(2,.os 2),(29,.ptr 1 0)],[.mp .timetableSlot .int (am (ak (bG c) c.length 0 ([]))) none,.mi (some 0) (am (ak (bG c) c.length 0 ([]))).length left_1 cur_1,.row .order s_1]⟩) (cb (am (ak (bG c) c.length 0 ([])))) (du (am (ak (bG c) c.length 0 ([])))) (am (ak (bG c) c.length 0 ([]))) ([]) ((·.elim)) ((·.elim)) (fun s_1=> ⟨[(2,.os 2)],[.dead,.dead,.row .order s_1]⟩) st) else none),?_,?_⟩
 ·unfold ag Tryz.f63
  simp only [aw,true_and,and_true]
  refine ⟨?_,?_⟩
  ·refine bY mixed aD hG (by kernel_rfl) (fun _=> rfl) (c.length : Int) rfl jm (fun hb0 k_0 s_0 hlt0 _ hw hc=> ⟨L0,av _,?_⟩) (fun hb0 s_0 hc=> ?_)
   ·exact IV
   ·exact IW
  ·refine In (dc .timetableSlot,dc .int) 1 mixed aD hG (by kernel_rfl) (fun _=> rfl) fun left_1 cur_1 s_1 hp1=> ⟨L0,av _,?_⟩
   ·by_cases hl1 : left_1=[]
    ·subst hl1
     simp only [go_sem,Nat.reduceBEq,Nat.reduceLeDiff,Nat.reduceLT,decide_true,Nat.reduceAdd,Nat.reduceSub,Nat.reduceMul,Int.reduceLE,Int.reduceLT,Int.reduceToNat,Int.reduceNeg,reduceCtorEq,List.not_mem_nil]
     all_goals exact zZ
    ·simp only [go_sem,Nat.reduceBEq,Nat.reduceLeDiff,Nat.reduceLT,decide_true,Nat.reduceAdd,Nat.reduceSub,Nat.reduceMul,Int.reduceLE,Int.reduceLT,Int.reduceToNat,Int.reduceNeg,reduceCtorEq,hl1]
     intro j hj1
     obtain ⟨hlt1,hq1⟩ :=hp1 j hj1
     unfold du at hq1
     all_goals exact zZ
 ·unfold ag Tryz.f63
  simp only [go_sem,Nat.reduceBEq,Nat.reduceLeDiff,Nat.reduceLT,decide_true,Nat.reduceAdd,Nat.reduceSub,Nat.reduceMul,Int.reduceLE,Int.reduceLT,Int.reduceToNat,Int.reduceNeg,reduceCtorEq]
  all_goals exact clP
@[go_sem] def aW (s_ : List Order) (k_0 : Nat) (s_0 : Unit) : Int⊕Unit:=(bif (ir (s_.getD k_0 (default : Order))) then .inl (k_0 : Int) else .inr ())
def b8 (s_ : List Order) : Int:=(match ak (aW s_) s_.length 0 () with | .inl x_0_0=> x_0_0 | .inr s_0=> (-1))
@[go_sem] def dN : List SV→Option Con:=(pR .order fun s_=> (pFn 65 (pE ((pE (.det True (.v (.int .i64 (b8 s_)))))))))
set_option maxHeartbeats 4000000 in
theorem fH : FnOk Tryz.prog 109 dN:=by
 have hG : ConsOk Tryz.prog (mkG [(65,jH)] []) :=aN (cgc nQ cg0) cg0
 refine a_ [.o] mixed aD hG (fn:=Tryz.f109) (c:=ag Tryz.f109) (by kernel_rfl) (by kernel_rfl) (by kernel_rfl) (by kernel_rfl) (df fun s_=> (ql (aV ((aV (fun hp=> ?_))))))
 dsimp only [aZ] at hp
 refine ⟨Nat.le_of_ble_eq_true rfl,(fun id st=> bif Nat.beq id 0 then some (LCR (ρ:=Int) (σ:=Unit) 0 [] [] (fun k_0 s_0=> ⟨[(0,.rs .order s_),(1,.fn 65 [] []),(7,.v (.int .i64 (s_.length : Int))),(8,.v (.int .i64 (k_0 : Int)))],[]⟩) (aW s_) pT s_.length () (s_.length≤bC) (fun _=> .ret) (fun x_0_0=> ⟨[(4,.v (.int .i64 x_0_0))],[]⟩) st) else none),?_,?_⟩
 ·unfold ag Tryz.f109
  simp only [aw,true_and,and_true]
  ·refine bY mixed aD hG (by kernel_rfl) (fun _=> rfl) (s_.length : Int) rfl jm (fun hb0 k_0 s_0 hlt0 _ hw hc=> ⟨L0,av _,?_⟩) (fun hb0 s_0 hc=> ?_)
   ·exact IX
   ·exact IY
 ·unfold ag Tryz.f109
  try unfold b8
  simp only [go_sem,Nat.reduceBEq,Nat.reduceLeDiff,Nat.reduceLT,decide_true,Nat.reduceAdd,Nat.reduceSub,Nat.reduceMul,Int.reduceLE,Int.reduceLT,Int.reduceToNat,Int.reduceNeg,reduceCtorEq]
  all_goals exact cl
def aX (s_ : List Order) : Bool:=(decide ((b8 s_)≥0))
@[go_sem] def dz : List SV→Option Con:=(pR .order fun s_=> (pFn 65 (pE ((pE (.det True (.v (.bool (aX s_)))))))))
theorem fc : FnOk Tryz.prog 64 dz:=by
 have hG : ConsOk Tryz.prog (mkG [(109,fun l=> dN (dw [.sl .order,.o] l))] []) :=aN (cgc (fH.norm [.sl .order,.o]) cg0) cg0
 refine a_ [.o] mixed aD hG (fn:=Tryz.f64) (c:=ag Tryz.f64) (by kernel_rfl) (by kernel_rfl) (by kernel_rfl) (by kernel_rfl) (df fun s_=> (ql (aV ((aV (fun hp=> ?_))))))
 dsimp only [aZ] at hp
 refine ⟨Nat.le_of_ble_eq_true rfl,L0,av _,?_⟩
 ·unfold ag Tryz.f64
  try unfold aX
  simp only [go_sem,Nat.reduceBEq,Nat.reduceLeDiff,Nat.reduceLT,decide_true,Nat.reduceAdd,Nat.reduceSub,Nat.reduceMul,Int.reduceLE,Int.reduceLT,Int.reduceToNat,Int.reduceNeg,reduceCtorEq]
  all_goals exact cl
def ar (d : District) (c : List Claim) : List Order×Int:=(bif ((aY d c) !=0) then ([],(aY d c)) else (bif (decide ((IntKind.i64.wrap ((d.reaches.length : Int) * d.hours)) > 1024)) then ([],2) else (bif (aX (ap c)) then ([],270) else ((ap c),0))))
def fG (d : District) (c : List Claim) : Prop:=((fQ d c)∧(((aY d c) !=0)=false→(d.reaches.length≤bC→((decide ((IntKind.i64.wrap ((d.reaches.length : Int) * d.hours)) > 1024))=false→(eN c)))))
@[go_sem] def kV : List SV→Option Con:=(pD .district fun d=> (pR .claim fun c=> (pE (.det (fG d c) (.tup [.rs .order ((ar d c).1),.v (.int .i64 ((ar d c).2))])))))
theorem px : FnOk Tryz.prog 33 kV:=by
 have hG : ConsOk Tryz.prog (mkG [(24,fun l=> km (dw [.st .district,.sl .claim] l)),(63,fun l=> jI (dw [.sl .claim] l)),(64,fun l=> dz (dw [.sl .order,.o] l))] []) :=aN (cgc (mK.norm [.st .district,.sl .claim]) (cgc (oc.norm [.sl .claim]) (cgc (fc.norm [.sl .order,.o]) cg0))) cg0
 refine a_ [.sl .order,.o] mixed aD hG (fn:=Tryz.f33) (c:=ag Tryz.f33) (by kernel_rfl) (by kernel_rfl) (by kernel_rfl) (by kernel_rfl) (bL fun d=> (df fun c=> (aV (fun hp=> ?_))))
 dsimp only [aZ] at hp
 unfold fG at hp
 refine ⟨Nat.le_of_ble_eq_true rfl,L0,av _,?_⟩
 ·unfold ag Tryz.f33
  try unfold ar
  simp only [go_sem,Nat.reduceBEq,Nat.reduceLeDiff,Nat.reduceLT,decide_true,Nat.reduceAdd,Nat.reduceSub,Nat.reduceMul,Int.reduceLE,Int.reduceLT,Int.reduceToNat,Int.reduceNeg,reduceCtorEq]
  all_goals exact cl
end Go.Sx
end
section
namespace Go.Sx
open Go.Proofs Go.Shelf Go.Sort Go.Lib
def oP (f h : Int) : CertifyPlace:= { hour:=h,index:=f,outlet:=true}
def od (c : List Claim) (f h : Int) : Int:=dB (oP f h) c
def okL1 (c : List Claim) : Prop:=c.length≤4096∧∀ a∈c,1≤a.litres∧a.litres≤1073741824
theorem EX {c : List Claim} {j : Nat} (hj : j < c.length) (f h : Int) : od (c.take (j + 1)) f h=od (c.take j) f h + (if oP f h=kz c[j] then c[j].litres else 0) :=by
 unfold od
 rw [List.take_succ_eq_append_getElem hj,so]
 simp [dB]
theorem Nm {c : List Claim} (h : okL1 c) (f t : Int) : 0≤od c f t∧od c f t≤4398046511104:=by
 have h1:=o5 (oP f t) c h.2
 have h2:=h.1
 unfold od
 omega
theorem okL1.take {c : List Claim} (h : okL1 c) (j : Nat) : okL1 (c.take j) :=⟨by rw [List.length_take];have:=h.1;omega,fun a ha=> h.2 a (List.mem_of_mem_take ha)⟩
theorem IZ {k : Tag} (m : List (k.T×Int)) (x : k.T) (y : Int) : (c7 k .int m x y).length≤m.length + 1:=by
 have:=congrArg List.length (rE m x y)
 rw [List.length_map] at this
 show (mM m x y).length≤_
 rw [this]
 split
 ·rw [List.length_map];omega
 ·simp
theorem DU {c : List Claim} (h : okL1 c) : ∃ m,ak (bG c) c.length 0 []= .inr m∧SM .timetableSlot (fun p=> od c p.index p.hour) m∧m.length≤c.length:=by
 obtain ⟨m,e,hm,hn⟩ :=uB (step:=bG c) (fun j m=> SM .timetableSlot (fun p=> od (c.take j) p.index p.hour) m∧m.length≤j) c.length 0 [] ⟨by simpa [od,dB] using SM.nil,Nat.le_refl _⟩ (fun j m _ hj ⟨hm,hn⟩ => by
  have hj : j < c.length:=by omega
  refine ⟨_,rfl,?_,Nat.le_trans (IZ _ _ _) (by omega)⟩
  rw [b7 _ _ hj]
  have h1:=Nm (h.take j) c[j].farm c[j].hour
  have h2:=h.2 _ (List.getElem_mem hj)
  have h3:=hm.get ({ index:=c[j].farm,hour:=c[j].hour} : TimetableSlot)
  simp only at h3
  refine hm.put _ (v:=_) ?_ fun p=> ?_
  ·rw [h3,bN (by omega) (by omega)];omega
  ·rw [h3,bN (by omega) (by omega),EX hj]
   by_cases hp : p=({ index:=c[j].farm,hour:=c[j].hour} : TimetableSlot)
   ·subst hp
    rw [if_pos rfl,if_pos (by rfl)]
   ·rw [if_neg hp,if_neg (fun q=> hp (by
     unfold oP kz at q
     simp only [CertifyPlace.mk.injEq] at q
     obtain ⟨a,b⟩ :=p
     simp only [TimetableSlot.mk.injEq]
     exact ⟨q.2.1,q.1⟩))]
    exact Int.add_zero _)
 rw [Nat.zero_add] at hm hn
 rw [List.take_length] at hm
 exact ⟨m,e,hm,hn⟩
def toO (e : TimetableSlot×Int) : Order:= { hour:=e.1.hour,index:=e.1.index,litres:=e.2,outlet:=true}
theorem qJ (m : List (TimetableSlot×Int)) : ∀ (L : List (TimetableSlot×Int)) (s : List Order),cw (cb m) L s= .inr (s ++ L.map toO)
 | [],s=> by simp [cw]
 | x :: L,s=> by
  have e : cb m x s= .inr (s ++ [toO x]) :=rfl
  simp only [cw,e]
  rw [qJ m L]
  simp
theorem wD (m : List (TimetableSlot×Int)) : ∀ (L : List (TimetableSlot×Int)) (s : List Order),s.length + L.length≤100000→okL (cb m) (du m) L s
 | [],s,_=> trivial
 | x :: L,s,h=> by
  have e : cb m x s= .inr (s ++ [toO x]) :=rfl
  rw [List.length_cons] at h
  refine ⟨?_,fun s' hs=> ?_⟩
  ·unfold du ja
   rw [List.length_append]
   simp only [List.length_cons,List.length_nil]
   omega
  ·rw [e] at hs
   simp only [Sum.inr.injEq] at hs
   subst hs
   exact wD m L _ (by simp;omega)
theorem uS {m : List (TimetableSlot×Int)} (h : (m.map Prod.fst).Nodup) : (m.map toO).Pairwise fun x y=> ¬ K x y:=by
 rw [List.pairwise_map]
 unfold List.Nodup at h
 rw [List.pairwise_map] at h
 refine h.imp fun {a b} q k=> q ?_
 obtain ⟨⟨a1,a2⟩,a3⟩ :=a
 obtain ⟨⟨b1,b2⟩,b3⟩ :=b
 have h1 : a2=b2:=k.1
 have h2 : a1=b1:=k.2.1
 rw [h1,h2]
theorem uT {x y : Order} (hx : x.outlet=true) (hy : y.outlet=true) : EN x y↔olt x y:=by
 unfold EN olt lQ
 simp [xK,hx,hy]
theorem jY (l : List Order) : (srt aq l).Perm l:=List.mergeSort_perm _ _
theorem x6 {l : List Order} (ho : ∀ x∈l,x.outlet=true) (h : l.Pairwise fun x y=> ¬ K x y) : (srt aq l).Pairwise olt:=by
 have h1 : (srt aq l).Pairwise fun x y=> (!(ltOf aq y x))=true:=by
  refine List.pairwise_mergeSort (fun a b c h1 h2=> ?_) (fun a b=> ?_) l
  ·simp only [Bool.not_eq_true'] at h1 h2 ⊢
   exact kQ.ntrans _ _ _ h2 h1
  ·cases q : ltOf aq b a with
   | false=> rfl
   | true=>
    cases q2 : ltOf aq a b with
    | false=> rfl
    | true=> have:=kQ.trans _ _ _ q q2;rw [kQ.irrefl] at this;cases this
 have h2:=iY (jY l) h
 have h3 : ∀ x∈srt aq l,x.outlet=true:=fun x hx=> ho x ((jY l).mem_iff.1 hx)
 rw [List.pairwise_iff_getElem] at h1 h2 ⊢
 intro i j hi hj hij
 have q1:=h1 i j hi hj hij
 have q2:=h2 i j hi hj hij
 have q3 : ¬ olt (srt aq l)[j] (srt aq l)[i] :=fun q=> by
  have : ltOf aq (srt aq l)[j] (srt aq l)[i]=true:=by
   unfold ltOf;rw [decide_eq_true_eq];exact (mo _ _).2 ((uT (h3 _ (List.getElem_mem _)) (h3 _ (List.getElem_mem _))).2 q)
  rw [this] at q1;cases q1
 exact Classical.byContradiction fun q4=> q2 (sY q4 q3)
theorem Nn {l m : List Order} (ho : ∀ x∈l,x.outlet=true) (h : l.Pairwise fun x y=> ¬ K x y) (hp : m.Perm l) : srt aq m=srt aq l:=by
 have hm : ∀ x∈m,x.outlet=true:=fun x hx=> ho x (hp.mem_iff.1 hx)
 exact List.Perm.eq_of_pairwise (fun a b _ _ h1 h2=> absurd h2 (fun h2=> by unfold olt at h1 h2;omega)) (x6 hm (iY hp h)) (x6 ho h) ((jY m).trans (hp.trans (jY l).symm))
theorem P9 {l : List Order} (ho : ∀ x∈l,x.outlet=true) (h : l.Pairwise fun x y=> ¬ K x y) : apart aq l:=fun x hx y hy h1 h2=> by
 refine DP h hx hy (sY (fun q=> ?_) fun q=> ?_)
 ·unfold ltOf at h1;rw [decide_eq_false_iff_not] at h1;exact h1 ((mo _ _).2 ((uT (ho x hx) (ho y hy)).2 q))
 ·unfold ltOf at h2;rw [decide_eq_false_iff_not] at h2;exact h2 ((mo _ _).2 ((uT (ho y hy) (ho x hx)).2 q))
theorem x7 (m : List (TimetableSlot×Int)) : ∀ x∈m.map toO,x.outlet=true:=fun x hx=> by
 obtain ⟨e,_,rfl⟩ :=List.mem_map.1 hx
 rfl
theorem py {p : CertifyPlace} : ∀ {c : List Claim},dB p c≠0→∃ a∈c,p=kz a
 | [],h=> absurd rfl h
 | a :: r,h=> by
  by_cases q : p=kz a
  ·exact ⟨a,List.mem_cons_self,q⟩
  ·simp only [dB,if_neg q,Int.zero_add] at h
   obtain ⟨b,hb,e⟩ :=py h
   exact ⟨b,List.mem_cons_of_mem _ hb,e⟩
structure Outs (c : List Claim) (o : List Order) : Prop where
 out : ∀ x∈o,x.outlet=true
 asc : o.Pairwise olt
 lit : ∀ x∈o,x.litres=od c x.index x.hour∧1≤x.litres
 all : ∀ f h,od c f h≠0→∃ x∈o,x.index=f∧x.hour=h
 src : ∀ x∈o,∃ a∈c,a.farm=x.index∧a.hour=x.hour
 len : o.length≤c.length
theorem outs {c : List Claim} (h : okL1 c) : Outs c (ap c) :=by
 obtain ⟨m,e,hm,hn⟩ :=DU h
 have e2 : ap c=srt aq (m.map toO) :=by
  unfold ap
  simp only [e,qJ,List.nil_append]
 rw [e2]
 have hmem : ∀ x,x∈srt aq (m.map toO)↔∃ q∈m,toO q=x:=fun x=> by rw [(jY _).mem_iff,List.mem_map]
 have lit : ∀ x∈srt aq (m.map toO),x.litres=od c x.index x.hour∧1≤x.litres:=fun x hx=> by
  obtain ⟨q,hq,rfl⟩ :=(hmem x).1 hx
  have:=hm.entry hq
  exact ⟨this.1,hm.pos q hq⟩
 refine ⟨fun x hx=> ?_,x6 (x7 m) (uS hm.nd),lit,fun f t hf=> ?_,fun x hx=> ?_,?_⟩
 ·obtain ⟨q,hq,rfl⟩ :=(hmem x).1 hx;rfl
 ·exact ⟨_,(hmem _).2 ⟨_,hm.mem (p:= { index:=f,hour:=t}) hf,rfl⟩,rfl,rfl⟩
 ·have h1:=lit x hx
  obtain ⟨a,ha,ea⟩ :=py (p:=oP x.index x.hour) (c:=c) (by show od c _ _≠0;omega)
  unfold oP kz at ea
  simp only [CertifyPlace.mk.injEq] at ea
  exact ⟨a,ha,ea.2.1.symm,ea.1.symm⟩
 ·rw [(jY _).length_eq,List.length_map];exact hn
theorem EY {c : List Claim} (h : okL1 c) : eN c:=by
 intro _ m hm L hL
 obtain ⟨m',e,hm',hn⟩ :=DU h
 rw [e] at hm
 simp only [Sum.inr.injEq] at hm
 subst hm
 have hlen:=hL.length_eq
 have h1:=h.1
 refine ⟨wD _ L [] (by simp;omega),fun s hs=> ?_⟩
 rw [qJ] at hs
 simp only [List.nil_append,Sum.inr.injEq] at hs
 subst hs
 have hp : (L.map toO).Perm (m'.map toO) :=hL.map _
 refine ⟨P9 (x7 L) (iY hp (uS hm'.nd)),?_⟩
 rw [Nn (x7 m') (uS hm'.nd) hp]
 unfold ap
 simp only [e,qJ,List.nil_append]
end Go.Sx
end
section
namespace Go.Sx
open Go.Proofs
set_option maxRecDepth 100000
set_option linter.unusedSimpArgs false
theorem uU {p : Prop} (h : p:=by (first | done | (repeat' (first | with_reducible refine And.intro ?_ ?_ | ((with_reducible show _≠_);first | assumption | omega | (simp_all [am,aC];done) | grind) | with_reducible intro _)) <;> (first | done | exact Empty.elim ‹Empty› | assumption | rfl | omega | decide | exact fk [0,1,2] | (refine Or.inr ?_;exact fkY [0,1,2]) | (refine Or.inl ?_;exact fkY [0,1,2]) | (refine Or.inl ⟨rfl,?_⟩;exact fkY [0,1,2]) | (simp only [*,cond_true,cond_false,Bool.not_true,Bool.not_false,go_sem,Nat.reduceBEq,Nat.reduceLeDiff,Nat.reduceLT,decide_true,Nat.reduceAdd,Nat.reduceSub,Nat.reduceMul,Int.reduceLE,Int.reduceLT,Int.reduceToNat,Int.reduceNeg,reduceCtorEq];done) | (simp only [*,cond_true,cond_false,Bool.not_true,Bool.not_false,go_sem,Nat.reduceBEq,Nat.reduceLeDiff,Nat.reduceLT,decide_true,Nat.reduceAdd,Nat.reduceSub,Nat.reduceMul,Int.reduceLE,Int.reduceLT,Int.reduceToNat,Int.reduceNeg,reduceCtorEq];(repeat' (first | with_reducible refine And.intro ?_ ?_ | ((with_reducible show _≠_);first | assumption | omega | (simp_all [am,aC];done) | grind) | with_reducible intro _)) <;> (first | done | assumption | rfl | omega | decide | exact fk [0,1,2] | (refine Or.inr ?_;exact fkY [0,1,2]) | (refine Or.inl ?_;exact fkY [0,1,2]) | (refine Or.inl ⟨rfl,?_⟩;exact fkY [0,1,2]) | (simp_all [am,aC];done))) | (exfalso;rename_i h1 h2;rw [h1] at h2;cases h2) | (exfalso;rename_i h1 h2;simp only [h1,Bool.not_false,Bool.not_true,Bool.true_or,Bool.or_true,Bool.false_or,Bool.or_false,reduceCtorEq] at h2;done) | (exfalso;clear hy hG;simp_all;done) | (simp only [*,Sum.inr.injEq,forall_eq',true_implies,forall_const,reduceCtorEq,false_implies,and_true,List.length_append,List.length_cons,List.length_nil,Nat.zero_add,go_sem,Nat.reduceBEq,Nat.reduceLeDiff,Nat.reduceLT,decide_true,Nat.reduceAdd,Nat.reduceSub,Nat.reduceMul,Int.reduceLE,Int.reduceLT,Int.reduceToNat,Int.reduceNeg,reduceCtorEq] at hq2;first | exact hq2.1 | exact hq2.2.1 | exact hq2 | exact hq2.2 | (simp only [hq2];done)) | (simp only [*,Sum.inr.injEq,forall_eq',true_implies,forall_const,reduceCtorEq,false_implies,and_true,List.length_append,List.length_cons,List.length_nil,Nat.zero_add,go_sem,Nat.reduceBEq,Nat.reduceLeDiff,Nat.reduceLT,decide_true,Nat.reduceAdd,Nat.reduceSub,Nat.reduceMul,Int.reduceLE,Int.reduceLT,Int.reduceToNat,Int.reduceNeg,reduceCtorEq] at hq1;first | exact hq1.1 | exact hq1.2.1 | exact hq1 | exact hq1.2 | (simp only [hq1];done)) | (clear hy hG;simp_all only [am,aC,Sum.inr.injEq,forall_eq',true_implies,forall_const,reduceCtorEq,false_implies,and_true,List.length_append,List.length_cons,List.length_nil,Nat.zero_add,go_sem,Nat.reduceBEq,Nat.reduceLeDiff,Nat.reduceLT,decide_true,Nat.reduceAdd,Nat.reduceSub,Nat.reduceMul,Int.reduceLE,Int.reduceLT,Int.reduceToNat,Int.reduceNeg,reduceCtorEq];done) | (simp_all [okI,am,aC];done) | (simp_all [am,aC];(first | done | exact fk2 [0,1,2])) | exact fk2 [0,1,2]))) : p:=h
theorem Aa {p : Prop} (h : p:=by (first | done | (repeat' (first | with_reducible refine And.intro ?_ ?_ | ((with_reducible show _≠_);first | assumption | omega | (simp_all [am,aC];done) | grind) | with_reducible intro _)) <;> (first | done | exact Empty.elim ‹Empty› | assumption | rfl | omega | decide | exact fk [0,1,2,3] | (refine Or.inr ?_;exact fkY [0,1,2,3]) | (refine Or.inl ?_;exact fkY [0,1,2,3]) | (refine Or.inl ⟨rfl,?_⟩;exact fkY [0,1,2,3]) | (simp only [*,cond_true,cond_false,Bool.not_true,Bool.not_false,go_sem,Nat.reduceBEq,Nat.reduceLeDiff,Nat.reduceLT,decide_true,Nat.reduceAdd,Nat.reduceSub,Nat.reduceMul,Int.reduceLE,Int.reduceLT,Int.reduceToNat,Int.reduceNeg,reduceCtorEq];done) | (simp only [*,cond_true,cond_false,Bool.not_true,Bool.not_false,go_sem,Nat.reduceBEq,Nat.reduceLeDiff,Nat.reduceLT,decide_true,Nat.reduceAdd,Nat.reduceSub,Nat.reduceMul,Int.reduceLE,Int.reduceLT,Int.reduceToNat,Int.reduceNeg,reduceCtorEq];(repeat' (first | with_reducible refine And.intro ?_ ?_ | ((with_reducible show _≠_);first | assumption | omega | (simp_all [am,aC];done) | grind) | with_reducible intro _)) <;> (first | done | assumption | rfl | omega | decide | exact fk [0,1,2,3] | (refine Or.inr ?_;exact fkY [0,1,2,3]) | (refine Or.inl ?_;exact fkY [0,1,2,3]) | (refine Or.inl ⟨rfl,?_⟩;exact fkY [0,1,2,3]) | (simp_all [am,aC];done))) | (exfalso;rename_i h1 h2;rw [h1] at h2;cases h2) | (exfalso;rename_i h1 h2;simp only [h1,Bool.not_false,Bool.not_true,Bool.true_or,Bool.or_true,Bool.false_or,Bool.or_false,reduceCtorEq] at h2;done) | (exfalso;clear hy hG;simp_all;done) | (simp only [*,Sum.inr.injEq,forall_eq',true_implies,forall_const,reduceCtorEq,false_implies,and_true,List.length_append,List.length_cons,List.length_nil,Nat.zero_add,go_sem,Nat.reduceBEq,Nat.reduceLeDiff,Nat.reduceLT,decide_true,Nat.reduceAdd,Nat.reduceSub,Nat.reduceMul,Int.reduceLE,Int.reduceLT,Int.reduceToNat,Int.reduceNeg,reduceCtorEq] at hq2;first | exact hq2.1 | exact hq2.2.1 | exact hq2 | exact hq2.2 | (simp only [hq2];done)) | (simp only [*,Sum.inr.injEq,forall_eq',true_implies,forall_const,reduceCtorEq,false_implies,and_true,List.length_append,List.length_cons,List.length_nil,Nat.zero_add,go_sem,Nat.reduceBEq,Nat.reduceLeDiff,Nat.reduceLT,decide_true,Nat.reduceAdd,Nat.reduceSub,Nat.reduceMul,Int.reduceLE,Int.reduceLT,Int.reduceToNat,Int.reduceNeg,reduceCtorEq] at hq1;first | exact hq1.1 | exact hq1.2.1 | exact hq1 | exact hq1.2 | (simp only [hq1];done)) | (clear hy hG;simp_all only [am,aC,Sum.inr.injEq,forall_eq',true_implies,forall_const,reduceCtorEq,false_implies,and_true,List.length_append,List.length_cons,List.length_nil,Nat.zero_add,go_sem,Nat.reduceBEq,Nat.reduceLeDiff,Nat.reduceLT,decide_true,Nat.reduceAdd,Nat.reduceSub,Nat.reduceMul,Int.reduceLE,Int.reduceLT,Int.reduceToNat,Int.reduceNeg,reduceCtorEq];done) | (simp_all [okI,am,aC];done) | (simp_all [am,aC];(first | done | exact fk2 [0,1,2,3])) | exact fk2 [0,1,2,3]))) : p:=h
theorem Ab {p : Prop} (h : p:=by (first | done | (repeat' (first | with_reducible refine And.intro ?_ ?_ | ((with_reducible show _≠_);first | assumption | omega | (simp_all [am,aC];done) | grind) | with_reducible intro _)) <;> (first | done | exact Empty.elim ‹Empty› | assumption | rfl | omega | decide | exact fk [0] | (refine Or.inr ?_;exact fkY [0]) | (refine Or.inl ?_;exact fkY [0]) | (refine Or.inl ⟨rfl,?_⟩;exact fkY [0]) | (simp only [*,cond_true,cond_false,Bool.not_true,Bool.not_false,go_sem,Nat.reduceBEq,Nat.reduceLeDiff,Nat.reduceLT,decide_true,Nat.reduceAdd,Nat.reduceSub,Nat.reduceMul,Int.reduceLE,Int.reduceLT,Int.reduceToNat,Int.reduceNeg,reduceCtorEq];done) | (simp only [*,cond_true,cond_false,Bool.not_true,Bool.not_false,go_sem,Nat.reduceBEq,Nat.reduceLeDiff,Nat.reduceLT,decide_true,Nat.reduceAdd,Nat.reduceSub,Nat.reduceMul,Int.reduceLE,Int.reduceLT,Int.reduceToNat,Int.reduceNeg,reduceCtorEq];(repeat' (first | with_reducible refine And.intro ?_ ?_ | ((with_reducible show _≠_);first | assumption | omega | (simp_all [am,aC];done) | grind) | with_reducible intro _)) <;> (first | done | assumption | rfl | omega | decide | exact fk [0] | (refine Or.inr ?_;exact fkY [0]) | (refine Or.inl ?_;exact fkY [0]) | (refine Or.inl ⟨rfl,?_⟩;exact fkY [0]) | (simp_all [am,aC];done))) | (exfalso;rename_i h1 h2;rw [h1] at h2;cases h2) | (exfalso;rename_i h1 h2;simp only [h1,Bool.not_false,Bool.not_true,Bool.true_or,Bool.or_true,Bool.false_or,Bool.or_false,reduceCtorEq] at h2;done) | (exfalso;clear hy hG;simp_all;done) | (simp only [*,Sum.inr.injEq,forall_eq',true_implies,forall_const,reduceCtorEq,false_implies,and_true,List.length_append,List.length_cons,List.length_nil,Nat.zero_add,go_sem,Nat.reduceBEq,Nat.reduceLeDiff,Nat.reduceLT,decide_true,Nat.reduceAdd,Nat.reduceSub,Nat.reduceMul,Int.reduceLE,Int.reduceLT,Int.reduceToNat,Int.reduceNeg,reduceCtorEq] at hq2;first | exact hq2.1 | exact hq2.2.1 | exact hq2 | exact hq2.2 | (simp only [hq2];done)) | (simp only [*,Sum.inr.injEq,forall_eq',true_implies,forall_const,reduceCtorEq,false_implies,and_true,List.length_append,List.length_cons,List.length_nil,Nat.zero_add,go_sem,Nat.reduceBEq,Nat.reduceLeDiff,Nat.reduceLT,decide_true,Nat.reduceAdd,Nat.reduceSub,Nat.reduceMul,Int.reduceLE,Int.reduceLT,Int.reduceToNat,Int.reduceNeg,reduceCtorEq] at hq1;first | exact hq1.1 | exact hq1.2.1 | exact hq1 | exact hq1.2 | (simp only [hq1];done)) | (clear hy hG;simp_all only [am,aC,Sum.inr.injEq,forall_eq',true_implies,forall_const,reduceCtorEq,false_implies,and_true,List.length_append,List.length_cons,List.length_nil,Nat.zero_add,go_sem,Nat.reduceBEq,Nat.reduceLeDiff,Nat.reduceLT,decide_true,Nat.reduceAdd,Nat.reduceSub,Nat.reduceMul,Int.reduceLE,Int.reduceLT,Int.reduceToNat,Int.reduceNeg,reduceCtorEq];done) | (simp_all [okI,am,aC];done) | (simp_all [am,aC];(first | done | exact fk2 [0])) | exact fk2 [0]))) : p:=h
theorem Ac {p : Prop} (h : p:=by (first | done | (repeat' (first | with_reducible refine And.intro ?_ ?_ | ((with_reducible show _≠_);first | assumption | omega | (simp_all [am,aC];done) | grind) | with_reducible intro _)) <;> (first | done | exact Empty.elim ‹Empty› | assumption | rfl | omega | decide | exact fk [0,1] | (refine Or.inr ?_;exact fkY [0,1]) | (refine Or.inl ?_;exact fkY [0,1]) | (refine Or.inl ⟨rfl,?_⟩;exact fkY [0,1]) | (simp only [*,cond_true,cond_false,Bool.not_true,Bool.not_false,go_sem,Nat.reduceBEq,Nat.reduceLeDiff,Nat.reduceLT,decide_true,Nat.reduceAdd,Nat.reduceSub,Nat.reduceMul,Int.reduceLE,Int.reduceLT,Int.reduceToNat,Int.reduceNeg,reduceCtorEq];done) | (simp only [*,cond_true,cond_false,Bool.not_true,Bool.not_false,go_sem,Nat.reduceBEq,Nat.reduceLeDiff,Nat.reduceLT,decide_true,Nat.reduceAdd,Nat.reduceSub,Nat.reduceMul,Int.reduceLE,Int.reduceLT,Int.reduceToNat,Int.reduceNeg,reduceCtorEq];(repeat' (first | with_reducible refine And.intro ?_ ?_ | ((with_reducible show _≠_);first | assumption | omega | (simp_all [am,aC];done) | grind) | with_reducible intro _)) <;> (first | done | assumption | rfl | omega | decide | exact fk [0,1] | (refine Or.inr ?_;exact fkY [0,1]) | (refine Or.inl ?_;exact fkY [0,1]) | (refine Or.inl ⟨rfl,?_⟩;exact fkY [0,1]) | (simp_all [am,aC];done))) | (exfalso;rename_i h1 h2;rw [h1] at h2;cases h2) | (exfalso;rename_i h1 h2;simp only [h1,Bool.not_false,Bool.not_true,Bool.true_or,Bool.or_true,Bool.false_or,Bool.or_false,reduceCtorEq] at h2;done) | (exfalso;clear hy hG;simp_all;done) | (simp only [*,Sum.inr.injEq,forall_eq',true_implies,forall_const,reduceCtorEq,false_implies,and_true,List.length_append,List.length_cons,List.length_nil,Nat.zero_add,go_sem,Nat.reduceBEq,Nat.reduceLeDiff,Nat.reduceLT,decide_true,Nat.reduceAdd,Nat.reduceSub,Nat.reduceMul,Int.reduceLE,Int.reduceLT,Int.reduceToNat,Int.reduceNeg,reduceCtorEq] at hq2;first | exact hq2.1 | exact hq2.2.1 | exact hq2 | exact hq2.2 | (simp only [hq2];done)) | (simp only [*,Sum.inr.injEq,forall_eq',true_implies,forall_const,reduceCtorEq,false_implies,and_true,List.length_append,List.length_cons,List.length_nil,Nat.zero_add,go_sem,Nat.reduceBEq,Nat.reduceLeDiff,Nat.reduceLT,decide_true,Nat.reduceAdd,Nat.reduceSub,Nat.reduceMul,Int.reduceLE,Int.reduceLT,Int.reduceToNat,Int.reduceNeg,reduceCtorEq] at hq1;first | exact hq1.1 | exact hq1.2.1 | exact hq1 | exact hq1.2 | (simp only [hq1];done)) | (clear hy hG;simp_all only [am,aC,Sum.inr.injEq,forall_eq',true_implies,forall_const,reduceCtorEq,false_implies,and_true,List.length_append,List.length_cons,List.length_nil,Nat.zero_add,go_sem,Nat.reduceBEq,Nat.reduceLeDiff,Nat.reduceLT,decide_true,Nat.reduceAdd,Nat.reduceSub,Nat.reduceMul,Int.reduceLE,Int.reduceLT,Int.reduceToNat,Int.reduceNeg,reduceCtorEq];done) | (simp_all [okI,am,aC];done) | (simp_all [am,aC];(first | done | exact fk2 [0,1])) | exact fk2 [0,1]))) : p:=h
theorem Ad {p : Prop} (h : p:=by simp only [go_sem,Nat.reduceBEq,Nat.reduceLeDiff,Nat.reduceLT,decide_true,Nat.reduceAdd,Nat.reduceSub,Nat.reduceMul,Int.reduceLE,Int.reduceLT,Int.reduceToNat,Int.reduceNeg,reduceCtorEq,hc,hw];all_goals exact uU) : p:=h
theorem Ae {p : Prop} (h : p:=by simp only [go_sem,Nat.reduceBEq,Nat.reduceLeDiff,Nat.reduceLT,decide_true,Nat.reduceAdd,Nat.reduceSub,Nat.reduceMul,Int.reduceLE,Int.reduceLT,Int.reduceToNat,Int.reduceNeg,reduceCtorEq,hc];all_goals exact uU) : p:=h
theorem I0 {p : Prop} (h : p:=by simp only [go_sem,Nat.reduceBEq,Nat.reduceLeDiff,Nat.reduceLT,decide_true,Nat.reduceAdd,Nat.reduceSub,Nat.reduceMul,Int.reduceLE,Int.reduceLT,Int.reduceToNat,Int.reduceNeg,reduceCtorEq];all_goals exact uU) : p:=h
theorem I1 {p : Prop} (h : p:=by simp only [go_sem,Nat.reduceBEq,Nat.reduceLeDiff,Nat.reduceLT,decide_true,Nat.reduceAdd,Nat.reduceSub,Nat.reduceMul,Int.reduceLE,Int.reduceLT,Int.reduceToNat,Int.reduceNeg,reduceCtorEq,hc,hw];all_goals exact Aa) : p:=h
theorem I2 {p : Prop} (h : p:=by simp only [go_sem,Nat.reduceBEq,Nat.reduceLeDiff,Nat.reduceLT,decide_true,Nat.reduceAdd,Nat.reduceSub,Nat.reduceMul,Int.reduceLE,Int.reduceLT,Int.reduceToNat,Int.reduceNeg,reduceCtorEq,hc];all_goals exact Aa) : p:=h
theorem uV {p : Prop} (h : p:=by simp only [go_sem,Nat.reduceBEq,Nat.reduceLeDiff,Nat.reduceLT,decide_true,Nat.reduceAdd,Nat.reduceSub,Nat.reduceMul,Int.reduceLE,Int.reduceLT,Int.reduceToNat,Int.reduceNeg,reduceCtorEq,hc,hw];all_goals exact Ac) : p:=h
theorem uW {p : Prop} (h : p:=by simp only [go_sem,Nat.reduceBEq,Nat.reduceLeDiff,Nat.reduceLT,decide_true,Nat.reduceAdd,Nat.reduceSub,Nat.reduceMul,Int.reduceLE,Int.reduceLT,Int.reduceToNat,Int.reduceNeg,reduceCtorEq,hc];all_goals exact Ac) : p:=h
@[go_sem] def dZ (x : Fault) : List SV:=[.agg (cellsOf .fault x)]
@[go_sem] def lZ : List SV→Option Con:=(pD .district fun d=> (pR .order fun out=> (pE (.det True (.fn 98 [] [.ep [.rs .order out] 0,.ep (cellsOf .district d) 0])))))
theorem qK : FnOk Tryz.prog 56 lZ:=by
 have hG : ConsOk Tryz.prog (mkG [] []) :=aN cg0 cg0
 refine a_ [.o] mixed aD hG (fn:=Tryz.f56) (c:=ag Tryz.f56) (by kernel_rfl) (by kernel_rfl) (by kernel_rfl) (by kernel_rfl) (bL fun d=> (df fun out=> (aV (fun hp=> ?_))))
 refine ⟨Nat.le_of_ble_eq_true rfl,L0,av _,?_⟩
 unfold ag Tryz.f56
 simp only [go_sem,uw,ux,Nat.reduceBEq,Nat.reduceLeDiff,Nat.reduceAdd,Nat.reduceSub,Nat.reduceMul]
@[go_sem] def cH (out : List Order) (d : District) (k_0 : Nat) (s_0 : List (TimetableSlot×Int)) : Empty⊕(List (TimetableSlot×Int)) := .inr (c7 .timetableSlot .int s_0 ({ index:=(d.farms.getD (Int.toNat ((out.getD k_0 (default : Order)).index)) (default : Farm)).reach,hour:=(out.getD k_0 (default : Order)).hour} : TimetableSlot) (IntKind.i64.wrap ((aB .timetableSlot .int s_0 ({ index:=(d.farms.getD (Int.toNat ((out.getD k_0 (default : Order)).index)) (default : Farm)).reach,hour:=(out.getD k_0 (default : Order)).hour} : TimetableSlot)) + (out.getD k_0 (default : Order)).litres)))
def ef (out : List Order) (d : District) (k_0 : Nat) (s_0 : List (TimetableSlot×Int)) : Prop:=(0≤(out.getD k_0 (default : Order)).index∧(out.getD k_0 (default : Order)).index < (d.farms.length : Int))
@[go_sem] def aH (d : District) (s_1 : List Fault×List (TimetableSlot×Int)×List (TimetableSlot×Bool)×Int) (k_2 : Nat) (s_2 : List (TimetableSlot×Bool)×List Fault×List (TimetableSlot×Int)) : Empty⊕(List (TimetableSlot×Bool)×List Fault×List (TimetableSlot×Int)) :=(bif (aB .timetableSlot .bool s_2.1 ({ index:=s_1.2.2.2,hour:=(k_2 : Int)} : TimetableSlot)) then .inr ((c7 .timetableSlot .bool s_2.1 ({ index:=(d.reaches.getD (Int.toNat s_1.2.2.2) (default : Reach)).up,hour:=(IntKind.i64.wrap ((k_2 : Int) - (d.reaches.getD (Int.toNat s_1.2.2.2) (default : Reach)).delay))} : TimetableSlot) true),s_2.2.1,s_2.2.2) else (bif ((aB .timetableSlot .int s_2.2.2 ({ index:=s_1.2.2.2,hour:=(k_2 : Int)} : TimetableSlot)) ==0) then .inr (s_2.1,s_2.2.1,s_2.2.2) else (bif (decide ((aB .timetableSlot .int s_2.2.2 ({ index:=s_1.2.2.2,hour:=(k_2 : Int)} : TimetableSlot))≤1073741824)) then (bif ((!(bS (d.reaches.getD (Int.toNat s_1.2.2.2) (default : Reach)) (aB .timetableSlot .int s_2.2.2 ({ index:=s_1.2.2.2,hour:=(k_2 : Int)} : TimetableSlot))).2.1) || (decide ((k_2 : Int) < (d.reaches.getD (Int.toNat s_1.2.2.2) (default : Reach)).delay))) then .inr ((c7 .timetableSlot .bool s_2.1 ({ index:=(d.reaches.getD (Int.toNat s_1.2.2.2) (default : Reach)).up,hour:=(IntKind.i64.wrap ((k_2 : Int) - (d.reaches.getD (Int.toNat s_1.2.2.2) (default : Reach)).delay))} : TimetableSlot) ((aB .timetableSlot .bool s_2.1 ({ index:=(d.reaches.getD (Int.toNat s_1.2.2.2) (default : Reach)).up,hour:=(IntKind.i64.wrap ((k_2 : Int) - (d.reaches.getD (Int.toNat s_1.2.2.2) (default : Reach)).delay))} : TimetableSlot)) || (!(bS (d.reaches.getD (Int.toNat s_1.2.2.2) (default : Reach)) (aB .timetableSlot .int s_2.2.2 ({ index:=s_1.2.2.2,hour:=(k_2 : Int)} : TimetableSlot))).2.1))),(s_2.2.1 ++ [({ kind:=7,hour:=(k_2 : Int),index:=s_1.2.2.2,litres:=(aB .timetableSlot .int s_2.2.2 ({ index:=s_1.2.2.2,hour:=(k_2 : Int)} : TimetableSlot)),limit:=0} : Fault)]),s_2.2.2) else .inr (s_2.1,s_2.2.1,(c7 .timetableSlot .int s_2.2.2 ({ index:=(d.reaches.getD (Int.toNat s_1.2.2.2) (default : Reach)).up,hour:=(IntKind.i64.wrap ((k_2 : Int) - (d.reaches.getD (Int.toNat s_1.2.2.2) (default : Reach)).delay))} : TimetableSlot) (IntKind.i64.wrap ((aB .timetableSlot .int s_2.2.2 ({ index:=(d.reaches.getD (Int.toNat s_1.2.2.2) (default : Reach)).up,hour:=(IntKind.i64.wrap ((k_2 : Int) - (d.reaches.getD (Int.toNat s_1.2.2.2) (default : Reach)).delay))} : TimetableSlot)) + (if (bS (d.reaches.getD (Int.toNat s_1.2.2.2) (default : Reach)) (aB .timetableSlot .int s_2.2.2 ({ index:=s_1.2.2.2,hour:=(k_2 : Int)} : TimetableSlot))).1 < (d.reaches.getD (Int.toNat s_1.2.2.2) (default : Reach)).siphon then (d.reaches.getD (Int.toNat s_1.2.2.2) (default : Reach)).siphon else (bS (d.reaches.getD (Int.toNat s_1.2.2.2) (default : Reach)) (aB .timetableSlot .int s_2.2.2 ({ index:=s_1.2.2.2,hour:=(k_2 : Int)} : TimetableSlot))).1)))))) else (bif ((!(decide ((aB .timetableSlot .int s_2.2.2 ({ index:=s_1.2.2.2,hour:=(k_2 : Int)} : TimetableSlot))≤1073741824))) || (decide ((k_2 : Int) < (d.reaches.getD (Int.toNat s_1.2.2.2) (default : Reach)).delay))) then .inr ((c7 .timetableSlot .bool s_2.1 ({ index:=(d.reaches.getD (Int.toNat s_1.2.2.2) (default : Reach)).up,hour:=(IntKind.i64.wrap ((k_2 : Int) - (d.reaches.getD (Int.toNat s_1.2.2.2) (default : Reach)).delay))} : TimetableSlot) ((aB .timetableSlot .bool s_2.1 ({ index:=(d.reaches.getD (Int.toNat s_1.2.2.2) (default : Reach)).up,hour:=(IntKind.i64.wrap ((k_2 : Int) - (d.reaches.getD (Int.toNat s_1.2.2.2) (default : Reach)).delay))} : TimetableSlot)) || (!(decide ((aB .timetableSlot .int s_2.2.2 ({ index:=s_1.2.2.2,hour:=(k_2 : Int)} : TimetableSlot))≤1073741824))))),(s_2.2.1 ++ [({ kind:=7,hour:=(k_2 : Int),index:=s_1.2.2.2,litres:=(aB .timetableSlot .int s_2.2.2 ({ index:=s_1.2.2.2,hour:=(k_2 : Int)} : TimetableSlot)),limit:=0} : Fault)]),s_2.2.2) else .inr (s_2.1,s_2.2.1,(c7 .timetableSlot .int s_2.2.2 ({ index:=(d.reaches.getD (Int.toNat s_1.2.2.2) (default : Reach)).up,hour:=(IntKind.i64.wrap ((k_2 : Int) - (d.reaches.getD (Int.toNat s_1.2.2.2) (default : Reach)).delay))} : TimetableSlot) (IntKind.i64.wrap ((aB .timetableSlot .int s_2.2.2 ({ index:=(d.reaches.getD (Int.toNat s_1.2.2.2) (default : Reach)).up,hour:=(IntKind.i64.wrap ((k_2 : Int) - (d.reaches.getD (Int.toNat s_1.2.2.2) (default : Reach)).delay))} : TimetableSlot)) + (if 0 < (d.reaches.getD (Int.toNat s_1.2.2.2) (default : Reach)).siphon then (d.reaches.getD (Int.toNat s_1.2.2.2) (default : Reach)).siphon else 0)))))))))
def dC (d : District) (items_ : List (List SV)) (s_1 : List Fault×List (TimetableSlot×Int)×List (TimetableSlot×Bool)×Int) (k_2 : Nat) (s_2 : List (TimetableSlot×Bool)×List Fault×List (TimetableSlot×Int)) : Prop:=((aB .timetableSlot .bool s_2.1 ({ index:=s_1.2.2.2,hour:=(k_2 : Int)} : TimetableSlot))=false→(((aB .timetableSlot .int s_2.2.2 ({ index:=s_1.2.2.2,hour:=(k_2 : Int)} : TimetableSlot)) ==0)=false→(((decide ((aB .timetableSlot .int s_2.2.2 ({ index:=s_1.2.2.2,hour:=(k_2 : Int)} : TimetableSlot))≤1073741824))=true→((gA (d.reaches.getD (Int.toNat s_1.2.2.2) (default : Reach)) (aB .timetableSlot .int s_2.2.2 ({ index:=s_1.2.2.2,hour:=(k_2 : Int)} : TimetableSlot)))∧(((!(bS (d.reaches.getD (Int.toNat s_1.2.2.2) (default : Reach)) (aB .timetableSlot .int s_2.2.2 ({ index:=s_1.2.2.2,hour:=(k_2 : Int)} : TimetableSlot))).2.1) || (decide ((k_2 : Int) < (d.reaches.getD (Int.toNat s_1.2.2.2) (default : Reach)).delay)))=true→(items_[s_2.2.1.length]? =some (dZ ({ kind:=7,hour:=(k_2 : Int),index:=s_1.2.2.2,litres:=(aB .timetableSlot .int s_2.2.2 ({ index:=s_1.2.2.2,hour:=(k_2 : Int)} : TimetableSlot)),limit:=0} : Fault))))))∧((decide ((aB .timetableSlot .int s_2.2.2 ({ index:=s_1.2.2.2,hour:=(k_2 : Int)} : TimetableSlot))≤1073741824))=false→(((!(decide ((aB .timetableSlot .int s_2.2.2 ({ index:=s_1.2.2.2,hour:=(k_2 : Int)} : TimetableSlot))≤1073741824))) || (decide ((k_2 : Int) < (d.reaches.getD (Int.toNat s_1.2.2.2) (default : Reach)).delay)))=true→(items_[s_2.2.1.length]? =some (dZ ({ kind:=7,hour:=(k_2 : Int),index:=s_1.2.2.2,litres:=(aB .timetableSlot .int s_2.2.2 ({ index:=s_1.2.2.2,hour:=(k_2 : Int)} : TimetableSlot)),limit:=0} : Fault))))))))
@[go_sem] def bf (d : District) (k_1 : Nat) (s_1 : List Fault×List (TimetableSlot×Int)×List (TimetableSlot×Bool)×Int) : (List Fault)⊕(List Fault×List (TimetableSlot×Int)×List (TimetableSlot×Bool)×Int) :=(bif (decide (s_1.2.2.2≥0)) then (match ak (aH d s_1) (Int.toNat d.hours) 0 (s_1.2.2.1,s_1.1,s_1.2.1) with | .inl x=> x.elim | .inr s_2=> .inr (s_2.2.1,s_2.2.2,s_2.1,(IntKind.i64.wrap (s_1.2.2.2 - 1)))) else .inl s_1.1)
def ei (d : District) (items_ : List (List SV)) (k_1 : Nat) (s_1 : List Fault×List (TimetableSlot×Int)×List (TimetableSlot×Bool)×Int) : Prop:=((decide (s_1.2.2.2≥0))=true→((0≤s_1.2.2.2∧s_1.2.2.2 < (d.reaches.length : Int))∧((d.hours < 9223372036854775808)∧okI (aH d s_1) (dC d items_ s_1) (Int.toNat d.hours) 0 (s_1.2.2.1,s_1.1,s_1.2.1))))
def br (out : List Order) (d : District) : List Fault:=(match ak (cH out d) out.length 0 ([]) with | .inl x=> x.elim | .inr s_0=> (match ak (bf d) (d.reaches.length + 1) 0 (([] : List Fault),s_0,[],(IntKind.i64.wrap ((d.reaches.length : Int) - 1))) with | .inl x_1_0=> x_1_0 | .inr s_1=> default))
def eb (out : List Order) (d : District) (items_ : List (List SV)) : Prop:=(out.length≤bC→(okI (cH out d) (ef out d) out.length 0 ([])∧(∀ s_0,ak (cH out d) out.length 0 ([])= .inr s_0→(d.reaches.length≤bC→(okI (bf d) (ei d items_) (d.reaches.length + 1) 0 (([] : List Fault),s_0,[],(IntKind.i64.wrap ((d.reaches.length : Int) - 1)))∧(∀ z_,ak (bf d) (d.reaches.length + 1) 0 (([] : List Fault),s_0,[],(IntKind.i64.wrap ((d.reaches.length : Int) - 1)))≠ .inr z_)∧(∀ x_1_0,ak (bf d) (d.reaches.length + 1) 0 (([] : List Fault),s_0,[],(IntKind.i64.wrap ((d.reaches.length : Int) - 1)))= .inl x_1_0→(items_.length=x_1_0.length)))))))
set_option maxHeartbeats 4000000 in
theorem oL (out : List Order) (d : District) (items_ : List (List SV)) (hp : eb out d items_) : xx Tryz.prog 98 (fun y=> [y,.ep [.rs .order out] 0,.ep (cellsOf .district d) 0]) [] items_:=by
 unfold eb at hp
 refine Im mixed aD (fn:=Tryz.f98) (c:=ag Tryz.f98) (by kernel_rfl) (by kernel_rfl) (by kernel_rfl) (by kernel_rfl) rfl (n:=0) rfl (G:=fun r_=> ub [(99,iX)] [] (EP items_ r_)) (fun r_ hy=> ?_) (fun args w=> by kernel_rfl)
 have hG : ConsOk Tryz.prog (ub [(99,iX)] [] (EP items_ r_)) :=qk (cgc nJ cg0) cg0 hy
 refine ⟨hG,Nat.le_of_ble_eq_true rfl,(fun id st=> bif Nat.beq id 0 then some (LCR (ρ:=Empty) (σ:=(List (TimetableSlot×Int))) 3 [] [0,1,2] (fun k_0 s_0=> ⟨[(0,.os 0),(2,.ep (cellsOf .district d) 0),(4,.os 1),(5,.os 2),(18,.rs .order out),(19,.v (.int .i64 (out.length : Int))),(20,.v (.int .i64 (k_0 : Int)))],[.ab (r_.1 (([] : List Fault).length + 1)),.mp .timetableSlot .int s_0 none,.mp .timetableSlot .bool ([]) none]⟩) (cH out d) (ef out d) out.length ([]) (out.length≤bC) ((·.elim)) ((·.elim)) st) else bif Nat.beq id 2 then some (PZ (ρ:=(List Fault)) (σ:=(List Fault×List (TimetableSlot×Int)×List (TimetableSlot×Bool)×Int)) 3 [] [0,1,2] (fun k_1 s_1=> ⟨[(0,.os 0),(2,.ep (cellsOf .district d) 0),(4,.os 1),(5,.os 2),(8,.v (.int .i64 s_1.2.2.2))],[.ab (r_.1 (s_1.1.length + 1)),.mp .timetableSlot .int s_1.2.1 none,.mp .timetableSlot .bool s_1.2.2.1 none]⟩) (bf d) (ei d items_) (d.reaches.length + 1) (([] : List Fault),(am (ak (cH out d) out.length 0 ([]))),[],(IntKind.i64.wrap ((d.reaches.length : Int) - 1))) (fun _=> .normal) (fun x_1_0=> ⟨[],[.ab (r_.1 (x_1_0.length + 1)),.dead,.dead]⟩) ⟨[],[.ab (r_.1 0),.dead,.dead]⟩ st) else none),?_,?_⟩
 ·unfold ag Tryz.f98
  simp only [aw,true_and,and_true]
  refine ⟨?_,?_⟩
  ·refine bY mixed aD hG (by kernel_rfl) (fun _=> rfl) (out.length : Int) rfl jm (fun hb0 k_0 s_0 hlt0 hq0 hw hc=> ⟨L0,av _,?_⟩) (fun hb0 s_0 hc=> ?_)
   ·unfold ef at hq0
    try simp only [hw,Int.toNat_natCast] at hq0
    exact Ad
   ·exact Ae
  ·refine EQ mixed aD hG (by kernel_rfl) (fun _=> rfl) fun k_1 s_1 hq1=> ⟨(fun id st=> bif Nat.beq id 4 then some (LCY (ρ:=Empty) (σ:=(List (TimetableSlot×Bool)×List Fault×List (TimetableSlot×Int))) 4 [] [0,1,2,3] (fun k_2 s_2=> ⟨[(0,.os 0),(2,.ep (cellsOf .district d) 0),(4,.os 1),(5,.os 2),(8,.v (.int .i64 s_1.2.2.2)),(9,.ptr 3 0),(56,.v (.int .i64 d.hours)),(57,.v (.int .i64 (k_2 : Int)))],[.ab (r_.1 (s_2.2.1.length + 1)),.mp .timetableSlot .int s_2.2.2 none,.mp .timetableSlot .bool s_2.1 none,.cells (cellsOf .reach (d.reaches.getD (Int.toNat s_1.2.2.2) (default : Reach)))]⟩) (aH d s_1) (dC d items_ s_1) (Int.toNat d.hours) (s_1.2.2.1,s_1.1,s_1.2.1) (d.hours < 9223372036854775808) ((·.elim)) ((·.elim)) ⟨[],[.ab (r_.1 0),.dead,.dead,.dead]⟩ st) else none),?_,?_⟩
   ·simp only [aw,true_and,and_true]
    ·refine uu mixed aD hG (by kernel_rfl) (fun _=> rfl) d.hours rfl id (fun hb2 k_2 s_2 hlt2 hq2 hw hc=> ⟨L0,av _,?_⟩) (fun hb2 s_2 hc=> ?_)
     ·unfold dC at hq2
      try simp only [hw,Int.toNat_natCast] at hq2
      exact I1
     ·exact I2
   ·unfold ei at hq1
    exact I0
 ·unfold ag Tryz.f98
  simp only [go_sem,Nat.reduceBEq,Nat.reduceLeDiff,Nat.reduceLT,decide_true,Nat.reduceAdd,Nat.reduceSub,Nat.reduceMul,Int.reduceLE,Int.reduceLT,Int.reduceToNat,Int.reduceNeg,reduceCtorEq]
  all_goals exact Ab
@[go_sem] def kA : List SV→Option Con:=(pD .district fun d=> (pR .order fun l_=> (pE (.det True (.fn 100 [] [.ep [.rs .order l_] 0,.ep (cellsOf .district d) 0])))))
theorem oM : FnOk Tryz.prog 57 kA:=by
 have hG : ConsOk Tryz.prog (mkG [] []) :=aN cg0 cg0
 refine a_ [.o] mixed aD hG (fn:=Tryz.f57) (c:=ag Tryz.f57) (by kernel_rfl) (by kernel_rfl) (by kernel_rfl) (by kernel_rfl) (bL fun d=> (df fun l_=> (aV (fun hp=> ?_))))
 refine ⟨Nat.le_of_ble_eq_true rfl,L0,av _,?_⟩
 unfold ag Tryz.f57
 simp only [go_sem,uw,ux,Nat.reduceBEq,Nat.reduceLeDiff,Nat.reduceAdd,Nat.reduceSub,Nat.reduceMul]
@[go_sem] def aM (l_ : List Order) (k_0 : Nat) (s_0 : List (TimetableSlot×Int)×Int) : Empty⊕(List (TimetableSlot×Int)×Int) :=(bif (!(l_.getD k_0 (default : Order)).outlet) then (bif ((l_.getD k_0 (default : Order)).index==0) then .inr ((c7 .timetableSlot .int s_0.1 ({ index:=(l_.getD k_0 (default : Order)).index,hour:=(l_.getD k_0 (default : Order)).hour} : TimetableSlot) ((l_.getD k_0 (default : Order)).litres)),(IntKind.i64.wrap (s_0.2 + (l_.getD k_0 (default : Order)).litres))) else .inr ((c7 .timetableSlot .int s_0.1 ({ index:=(l_.getD k_0 (default : Order)).index,hour:=(l_.getD k_0 (default : Order)).hour} : TimetableSlot) ((l_.getD k_0 (default : Order)).litres)),s_0.2)) else .inr (s_0.1,s_0.2))
@[go_sem] def dD (d : District) (s_0 : List (TimetableSlot×Int)×Int) (k_1 : Nat) (k_2 : Nat) (k_3 : Nat) (s_3 : Int) : Empty⊕Int:= .inr (IntKind.i64.wrap (s_3 + (aB .timetableSlot .int s_0.1 ({ index:=(k_2 : Int),hour:=(IntKind.i64.wrap ((k_1 : Int) - (k_3 : Int)))} : TimetableSlot))))
@[go_sem] def cN (d : District) (s_0 : List (TimetableSlot×Int)×Int) (k_1 : Nat) (k_2 : Nat) (s_2 : List Fault) : Empty⊕(List Fault) :=(match ak (dD d s_0 k_1 k_2) (Int.toNat ((d.reaches.getD k_2 (default : Reach)).delay)) 0 0 with | .inl x=> x.elim | .inr s_3=> (bif (decide ((aB .timetableSlot .int s_0.1 ({ index:=(k_2 : Int),hour:=(k_1 : Int)} : TimetableSlot)) > (d.reaches.getD k_2 (default : Reach)).cap)) then (bif (decide (s_3 > (d.reaches.getD k_2 (default : Reach)).bank)) then .inr ((s_2 ++ [({ kind:=1,hour:=(k_1 : Int),index:=(k_2 : Int),litres:=(aB .timetableSlot .int s_0.1 ({ index:=(k_2 : Int),hour:=(k_1 : Int)} : TimetableSlot)),limit:=(d.reaches.getD k_2 (default : Reach)).cap} : Fault)]) ++ [({ kind:=3,hour:=(k_1 : Int),index:=(k_2 : Int),litres:=s_3,limit:=(d.reaches.getD k_2 (default : Reach)).bank} : Fault)]) else .inr (s_2 ++ [({ kind:=1,hour:=(k_1 : Int),index:=(k_2 : Int),litres:=(aB .timetableSlot .int s_0.1 ({ index:=(k_2 : Int),hour:=(k_1 : Int)} : TimetableSlot)),limit:=(d.reaches.getD k_2 (default : Reach)).cap} : Fault)])) else (bif (decide (s_3 > (d.reaches.getD k_2 (default : Reach)).bank)) then .inr (s_2 ++ [({ kind:=3,hour:=(k_1 : Int),index:=(k_2 : Int),litres:=s_3,limit:=(d.reaches.getD k_2 (default : Reach)).bank} : Fault)]) else .inr s_2)))
def dU (d : District) (items_ : List (List SV)) (s_0 : List (TimetableSlot×Int)×Int) (k_1 : Nat) (k_2 : Nat) (s_2 : List Fault) : Prop:=(((d.reaches.getD k_2 (default : Reach)).delay < 9223372036854775808)∧(∀ s_3,ak (dD d s_0 k_1 k_2) (Int.toNat ((d.reaches.getD k_2 (default : Reach)).delay)) 0 0= .inr s_3→(((decide ((aB .timetableSlot .int s_0.1 ({ index:=(k_2 : Int),hour:=(k_1 : Int)} : TimetableSlot)) > (d.reaches.getD k_2 (default : Reach)).cap))=true→((items_[s_2.length]? =some (dZ ({ kind:=1,hour:=(k_1 : Int),index:=(k_2 : Int),litres:=(aB .timetableSlot .int s_0.1 ({ index:=(k_2 : Int),hour:=(k_1 : Int)} : TimetableSlot)),limit:=(d.reaches.getD k_2 (default : Reach)).cap} : Fault)))∧(((decide (s_3 > (d.reaches.getD k_2 (default : Reach)).bank))=true→(items_[(s_2 ++ [({ kind:=1,hour:=(k_1 : Int),index:=(k_2 : Int),litres:=(aB .timetableSlot .int s_0.1 ({ index:=(k_2 : Int),hour:=(k_1 : Int)} : TimetableSlot)),limit:=(d.reaches.getD k_2 (default : Reach)).cap} : Fault)]).length]? =some (dZ ({ kind:=3,hour:=(k_1 : Int),index:=(k_2 : Int),litres:=s_3,limit:=(d.reaches.getD k_2 (default : Reach)).bank} : Fault))))∧((decide (s_3 > (d.reaches.getD k_2 (default : Reach)).bank))=false→((decide (s_3 > (d.reaches.getD k_2 (default : Reach)).bank))=false)))))∧((decide ((aB .timetableSlot .int s_0.1 ({ index:=(k_2 : Int),hour:=(k_1 : Int)} : TimetableSlot)) > (d.reaches.getD k_2 (default : Reach)).cap))=false→(((decide ((aB .timetableSlot .int s_0.1 ({ index:=(k_2 : Int),hour:=(k_1 : Int)} : TimetableSlot)) > (d.reaches.getD k_2 (default : Reach)).cap))=false)∧(((decide (s_3 > (d.reaches.getD k_2 (default : Reach)).bank))=true→(items_[s_2.length]? =some (dZ ({ kind:=3,hour:=(k_1 : Int),index:=(k_2 : Int),litres:=s_3,limit:=(d.reaches.getD k_2 (default : Reach)).bank} : Fault))))∧((decide (s_3 > (d.reaches.getD k_2 (default : Reach)).bank))=false→((decide (s_3 > (d.reaches.getD k_2 (default : Reach)).bank))=false))))))))
@[go_sem] def cj (d : District) (s_0 : List (TimetableSlot×Int)×Int) (k_1 : Nat) (s_1 : List Fault) : Empty⊕(List Fault) :=(match ak (cN d s_0 k_1) d.reaches.length 0 s_1 with | .inl x=> x.elim | .inr s_2=> .inr s_2)
def dV (d : District) (items_ : List (List SV)) (s_0 : List (TimetableSlot×Int)×Int) (k_1 : Nat) (s_1 : List Fault) : Prop:=(d.reaches.length≤bC→okI (cN d s_0 k_1) (dU d items_ s_0 k_1) d.reaches.length 0 s_1)
def ce (l_ : List Order) (d : District) : List Fault:=(match ak (aM l_) l_.length 0 ([],0) with | .inl x=> x.elim | .inr s_0=> (match ak (cj d s_0) (Int.toNat d.hours) 0 ([] : List Fault) with | .inl x=> x.elim | .inr s_1=> (bif (decide (s_0.2 > d.tank.start)) then (s_1 ++ [({ kind:=4,hour:=0,index:=0,litres:=s_0.2,limit:=d.tank.start} : Fault)]) else s_1)))
def dO (l_ : List Order) (d : District) (items_ : List (List SV)) : Prop:=(l_.length≤bC→(∀ s_0,ak (aM l_) l_.length 0 ([],0)= .inr s_0→((d.hours < 9223372036854775808)∧okI (cj d s_0) (dV d items_ s_0) (Int.toNat d.hours) 0 ([] : List Fault)∧(∀ s_1,ak (cj d s_0) (Int.toNat d.hours) 0 ([] : List Fault)= .inr s_1→(((decide (s_0.2 > d.tank.start))=true→((items_[s_1.length]? =some (dZ ({ kind:=4,hour:=0,index:=0,litres:=s_0.2,limit:=d.tank.start} : Fault)))∧(items_.length=(s_1 ++ [({ kind:=4,hour:=0,index:=0,litres:=s_0.2,limit:=d.tank.start} : Fault)]).length)))∧((decide (s_0.2 > d.tank.start))=false→(items_.length=s_1.length)))))))
set_option maxHeartbeats 4000000 in
theorem mQ (l_ : List Order) (d : District) (items_ : List (List SV)) (hp : dO l_ d items_) : xx Tryz.prog 100 (fun y=> [y,.ep [.rs .order l_] 0,.ep (cellsOf .district d) 0]) [] items_:=by
 unfold dO at hp
 refine Im mixed aD (fn:=Tryz.f100) (c:=ag Tryz.f100) (by kernel_rfl) (by kernel_rfl) (by kernel_rfl) (by kernel_rfl) rfl (n:=0) rfl (G:=fun r_=> ub [] [] (EP items_ r_)) (fun r_ hy=> ?_) (fun args w=> by kernel_rfl)
 have hG : ConsOk Tryz.prog (ub [] [] (EP items_ r_)) :=qk cg0 cg0 hy
 refine ⟨hG,Nat.le_of_ble_eq_true rfl,(fun id st=> bif Nat.beq id 0 then some (LCR (ρ:=Empty) (σ:=(List (TimetableSlot×Int)×Int)) 2 [] [0,1] (fun k_0 s_0=> ⟨[(0,.os 0),(2,.ep (cellsOf .district d) 0),(4,.os 1),(5,.v (.int .i64 s_0.2)),(15,.rs .order l_),(16,.v (.int .i64 (l_.length : Int))),(17,.v (.int .i64 (k_0 : Int)))],[.ab (r_.1 (([] : List Fault).length + 1)),.mp .timetableSlot .int s_0.1 none]⟩) (aM l_) pT l_.length ([],0) (l_.length≤bC) ((·.elim)) ((·.elim)) st) else bif Nat.beq id 2 then some (LCY (ρ:=Empty) (σ:=(List Fault)) 2 [] [0,1] (fun k_1 s_1=> ⟨[(0,.os 0),(2,.ep (cellsOf .district d) 0),(4,.os 1),(5,.v (.int .i64 (am (ak (aM l_) l_.length 0 ([],0))).2)),(41,.v (.int .i64 d.hours)),(42,.v (.int .i64 (k_1 : Int)))],[.ab (r_.1 (s_1.length + 1)),.mp .timetableSlot .int (am (ak (aM l_) l_.length 0 ([],0))).1 none]⟩) (cj d (am (ak (aM l_) l_.length 0 ([],0)))) (dV d items_ (am (ak (aM l_) l_.length 0 ([],0)))) (Int.toNat d.hours) ([] : List Fault) (d.hours < 9223372036854775808) ((·.elim)) ((·.elim)) ⟨[],[.ab (r_.1 0),.dead]⟩ st) else none),?_,?_⟩
 ·unfold ag Tryz.f100
  simp only [aw,true_and,and_true]
  refine ⟨?_,?_⟩
  ·refine bY mixed aD hG (by kernel_rfl) (fun _=> rfl) (l_.length : Int) rfl jm (fun hb0 k_0 s_0 hlt0 _ hw hc=> ⟨L0,av _,?_⟩) (fun hb0 s_0 hc=> ?_)
   ·exact uV
   ·exact uW
  ·refine uu mixed aD hG (by kernel_rfl) (fun _=> rfl) d.hours rfl id (fun hb1 k_1 s_1 hlt1 hq1 hw hc=> ⟨(fun id st=> bif Nat.beq id 4 then some (LCY (ρ:=Empty) (σ:=(List Fault)) 2 [] [0,1] (fun k_2 s_2=> ⟨[(0,.os 0),(2,.ep (cellsOf .district d) 0),(4,.os 1),(5,.v (.int .i64 (am (ak (aM l_) l_.length 0 ([],0))).2)),(8,.v (.int .i64 (k_1 : Int))),(41,.v (.int .i64 d.hours)),(42,.v (.int .i64 (k_1 : Int))),(46,.rs .reach d.reaches),(47,.v (.int .i64 (d.reaches.length : Int))),(48,.v (.int .i64 (k_2 : Int)))],[.ab (r_.1 (s_2.length + 1)),.mp .timetableSlot .int (am (ak (aM l_) l_.length 0 ([],0))).1 none]⟩) (cN d (am (ak (aM l_) l_.length 0 ([],0))) k_1) (dU d items_ (am (ak (aM l_) l_.length 0 ([],0))) k_1) d.reaches.length s_1 (d.reaches.length≤bC) ((·.elim)) ((·.elim)) ⟨[],[.ab (r_.1 0),.dead]⟩ st) else none),?_,?_⟩) (fun hb1 s_1 hc=> ?_)
   ·simp only [aw,true_and,and_true]
    ·refine uu mixed aD hG (by kernel_rfl) (fun _=> rfl) (d.reaches.length : Int) rfl jm (fun hb2 k_2 s_2 hlt2 hq2 hw hc=> ⟨(fun id st=> bif Nat.beq id 6 then some (LCR (ρ:=Empty) (σ:=Int) 3 [] [0,1,2] (fun k_3 s_3=> ⟨[(0,.os 0),(2,.ep (cellsOf .district d) 0),(4,.os 1),(5,.v (.int .i64 (am (ak (aM l_) l_.length 0 ([],0))).2)),(8,.v (.int .i64 (k_1 : Int))),(9,.v (.int .i64 (k_2 : Int))),(10,.ptr 2 0),(11,.v (.int .i64 s_3)),(41,.v (.int .i64 d.hours)),(42,.v (.int .i64 (k_1 : Int))),(46,.rs .reach d.reaches),(47,.v (.int .i64 (d.reaches.length : Int))),(48,.v (.int .i64 (k_2 : Int))),(54,.v (.int .i64 ((d.reaches.getD k_2 (default : Reach)).delay))),(55,.v (.int .i64 (k_3 : Int)))],[.ab (r_.1 (s_2.length + 1)),.mp .timetableSlot .int (am (ak (aM l_) l_.length 0 ([],0))).1 none,.cells (cellsOf .reach (d.reaches.getD k_2 (default : Reach)))]⟩) (dD d (am (ak (aM l_) l_.length 0 ([],0))) k_1 k_2) pT (Int.toNat ((d.reaches.getD k_2 (default : Reach)).delay)) 0 ((d.reaches.getD k_2 (default : Reach)).delay < 9223372036854775808) ((·.elim)) ((·.elim)) st) else none),?_,?_⟩) (fun hb2 s_2 hc=> ?_)
     ·simp only [aw,true_and,and_true]
      ·refine bY mixed aD hG (by kernel_rfl) (fun _=> rfl) ((d.reaches.getD k_2 (default : Reach)).delay) rfl id (fun hb3 k_3 s_3 hlt3 _ hw hc=> ⟨L0,av _,?_⟩) (fun hb3 s_3 hc=> ?_)
       ·exact Ad
       ·exact Ae
     ·unfold dU at hq2
      try simp only [hw,Int.toNat_natCast] at hq2
      exact uV
     ·exact uW
   ·unfold dV at hq1
    try simp only [hw,Int.toNat_natCast] at hq1
    exact uV
   ·exact uW
 ·unfold ag Tryz.f100
  simp only [go_sem,Nat.reduceBEq,Nat.reduceLeDiff,Nat.reduceLT,decide_true,Nat.reduceAdd,Nat.reduceSub,Nat.reduceMul,Int.reduceLE,Int.reduceLT,Int.reduceToNat,Int.reduceNeg,reduceCtorEq]
  all_goals exact Ab
end Go.Sx
end
