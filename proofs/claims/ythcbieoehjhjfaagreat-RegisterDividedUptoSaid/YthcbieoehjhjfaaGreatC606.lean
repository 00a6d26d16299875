/- Part of the proof that the law RegisterDivided returns true and leaves its arguments as they were, for all arguments of bulk at most 1048576 (the Upto form). -/
import Derived.Test.YthcbieoehjhjfaaGreatC605
import Derived.RangeFuncLeaves
import Derived.RangeFuncRecord
import Derived.Test.YthcbieoehjhjfaaGreatC601
import Derived.Attr
import Derived.RangeFuncIn
import Derived.TacticsIn
set_option linter.all false
set_option maxHeartbeats 4000000
section
namespace Go.Sx
open Go.RowKit
section
variable {P:Program}{F:Nat→Prop}{w0:Bs}{ro:Option Nat}{nd:Nat}{ts:Tis}{G:Cons}{L:mA}{N:Nat}
theorem xP:∀ (l:List SV) (n t:Nat),lk t (ir n l)=if n≤t then(l[t - n]?).getD .any else .any
 | [],n,t=>by simp[ir,lk]
 |s::r,n,t=>by
  rw[ir,iZ,xP r (n+1) t]
  by_cases h:n=t
  ·subst h;simp
  ·rw[if_neg h]
   by_cases h2:n+1≤t
   ·rw[if_pos h2,if_pos (by omega),show t - n=(t - (n+1))+1 by omega,List.getElem?_cons_succ]
   ·rw[if_neg h2,if_neg (by omega)]
def Dw (tmps:Array Value):ResultVar→Sem Value
 | .tmp t=>pure (tmps.getD t undef)
 | .cell q t=>do loadVar t (←asAddr (tmps.getD q undef))
theorem zA (fn:Func)(tmps:Array Value):results fn tmps=(do let vs ←fn.results.mapM (Dw tmps);pure (if h:vs.size=1 then vs[0]else .tuple vs)):=by
 unfold results;congr 2
structure Shut (Ds:List Nat)(w w':World):Prop where
 size:w'.heap.size=w.heap.size
 block:∀ k,k ∉ Ds→w'.heap[k]? =w.heap[k]?
 os:w'.os=w.os
 tape:w'.tape=w.tape
 output:w'.output=w.output
theorem qK {fn:Func}{tmps:Array Value}{R:Ending→World→Prop}{u:FrameMode}(hu:u≠ .run){bs:List Deferred}:∀ (Ds:List Nat) (ds:List Deferred) (w:World),ds.map (·.target)=Ds.map .collected→Ds.Nodup→
  (∀ D∈Ds,w.heap[D]? =some (.deferred (some [])))→(∀ w2,Shut Ds w w2→LeavesInM (rd none) nd P fn tmps R bs u w2)→LeavesInM (rd none) nd P fn tmps R (ds++bs) u w
 | [],[],w,_,_,_,h=>h w ⟨rfl,fun _ _=>rfl,rfl,rfl,rfl⟩
 | [],_::_,w,hm,_,_,_=>by simp at hm
 |_::_,[],w,hm,_,_,_=>by simp at hm
 |D::Ds,d::ds,w,hm,hn,hD,h=>by
  simp only[List.map_cons,List.cons.injEq]at hm
  obtain⟨hd,hm⟩:=hm
  rw[List.nodup_cons]at hn
  have hlt:=jf (hD D (by simp))
  refine⟨hu,.inl ⟨D,_,hd,run_takeDeferred (hD D (by simp)),?_⟩⟩
  refine qK hu Ds ds _ hm hn.2 (fun D' hD'=>?_) fun w2 hs=>?_
  ·rw[World.putObj_heap_other (by rintro rfl;exact hn.1 hD')]
   exact hD D' (by simp[hD'])
  ·refine h w2 ⟨?_,fun k hk=>?_,hs.os,hs.tape,hs.output⟩
   ·rw[hs.size];simp[World.putObj]
   ·simp only[List.mem_cons,not_or]at hk
    rw[hs.block k hk.2,World.putObj_heap_other hk.1]
theorem StRel.shut {own:Own}{st:St}{a:Act}{w w2:World}{Ds:List Nat}(h:StRel F w0 N own st a w)(hD:∀ D∈Ds,w0.w.heap.size≤D∧F D∧w.heap[D]? =some (.deferred (some [])))(hs:Shut Ds w w2):
  StRel F w0 N own st { a with defers:=w0.ds} w2:=by
 have g:Goes F own w own w2:=⟨fun _ hd e=>⟨hd,e,.refl _⟩,fun b _ hn=>⟨hn,hs.block b fun hb=>hn (.inl (hD b hb).2.1)⟩,by rw[hs.size];exact Nat.le_refl _⟩
 refine⟨h.size,Dfr.nil,h.hp.goes g fun id hd b e hb=>hs.block b fun hm=>h.hp.apart id hd b e hb (hD b hm).2.1,⟨h.fr.ids,h.fr.base,hs.os.trans h.fr.os,hs.tape.trans h.fr.tape,hs.output.trans h.fr.output,by rw[hs.size];exact h.fr.size,fun k hk=>?_⟩,fun t=>(h.slots t).mono g⟩
 rw[hs.block k fun hb=>by have:=(hD k hb).1;have:=hk.1;omega]
 exact h.fr.block k hk
theorem StRel.less {F1:Nat→Prop}(hF:∀ b,F b→F1 b){own:Own}{st:St}{a:Act}{w:World}(h:StRel F1 w0 N own st a w)(hd:a.defers=w0.ds):StRel F w0 N own st a w:=by
 have hc:Carries F1 own w F own w:=⟨fun _ hd e=>⟨hd,e,.refl _⟩,fun b _ hn=>⟨fun ho=>hn (ho.imp (hF b) id),rfl⟩⟩
 refine⟨h.size,by rw[hd];exact Dfr.nil,⟨h.hp.dom,fun b hb=>h.hp.foreign b (hF b hb),fun id hd b e hb hf=>h.hp.apart id hd b e hb (hF b hf),h.hp.inj,h.hp.lt,fun id hdd=>?_⟩,h.fr,fun t=>(h.slots t).carry hc⟩
 obtain⟨hd,e1,e2⟩:=h.hp.obs id hdd
 exact⟨hd,e1,e2.carry hc (Nat.le_refl _) fun _ _=>rfl⟩
theorem BZ (hts:ts.ok P){own:Own}{st:St}{a:Act}{w:World}(hr:StRel F w0 N own st a w){x:ResultVar}{s:SV}(h:Bt ts st x=some s):
  ∃ v,(Dw a.tmps x).run P w=.ok v w∧Rel F own w s v:=by
 cases x with
 |tmp n=>
  simp only[Bt,Option.some.injEq]at h
  subst h
  exact⟨_,rfl,hr.slots n⟩
 |cell q t=>
  simp only[Bt]at h
  cases hg:ax ts t fun ti=>jp ti st.h (lk q st.t)with
  |val s'=>
   rw[hg]at h
   simp only[Fu,Option.some.injEq]at h
   subst h
   obtain⟨ti,ht,he⟩:=bG hts hg (by simp)
   obtain⟨u,e1,e2⟩:=xh (P:=P) hr.hp ht (hr.slots q) he
   refine⟨u,?_,e2⟩
   show(do loadVar t (←asAddr (a.tmps.getD q undef)):Sem Value).run P w=.ok u w
   generalize a.tmps.getD q undef=vq at e1 ⊢
   unfold Instr.loadAt at e1
   rw[Sem.run_bind]at e1 ⊢
   have hsure:∀ x w',(Instr.sureAddr vq).run P w=.ok x w'→(asAddr vq).run P w=.ok x w':=by
    intro x w' h
    unfold Instr.sureAddr at h
    split at h
    ·exact h
    ·simp[stuck]at h
   cases hsa:(Instr.sureAddr vq).run P w with
   |ok x w'=>rw[hsa]at e1;rw[hsure x w' hsa];exact e1
   |halt x w'=>rw[hsa]at e1;simp[Result.andThen]at e1
  |_=>rw[hg]at h;simp[Fu]at h
theorem uX (hts:ts.ok P){own:Own}{st:St}{a:Act}{w:World}(hr:StRel F w0 N own st a w):∀ (rs:List ResultVar) (l:List SV),g_ ts st rs=some l→
  ∃ vs:List Value,(rs.mapM (Dw a.tmps):Sem (List Value)).run P w=.ok vs w∧vs.length=l.length∧∀ (j:Nat) (s:SV),l[j]? =some s→∃ v,vs[j]? =some v∧Rel F own w s v
 | [],l,h=>by
  simp[g_]at h;subst h
  exact⟨[],by simp,rfl,fun j s hj=>by simp at hj⟩
 |x::r,l,h=>by
  simp only[g_]at h
  cases hv:Bt ts st x with
  |none=>rw[hv]at h;simp[xe]at h
  |some s0=>
   cases hl:g_ ts st r with
   |none=>rw[hv,hl]at h;simp[xe]at h
   |some l'=>
    rw[hv,hl]at h
    simp only[xe,Option.some.injEq]at h
    subst h
    obtain⟨v0,f1,f2⟩:=BZ (P:=P) hts hr hv
    obtain⟨vs,e1,e2,e3⟩:=uX hts hr r l' hl
    refine⟨v0::vs,?_,by simp[e2],fun j s hj=>?_⟩
    ·rw[List.mapM_cons]
     simp only[Sem.run_bind,f1,Sem.run_pure,Result.andThen_ok,e1]
    ·cases j with
     |zero=>simp at hj;subst hj;exact⟨_,rfl,f2⟩
     |succ j=>simp at hj;simpa using e3 j s hj
theorem px (hts:ts.ok P){fn:Func}{own:Own}{st:St}{a:Act}{w:World}(hr:StRel F w0 N own st a w){s:SV}(h:iS (g_ ts st fn.results.toList)=some s):∃ u,(results fn a.tmps).run P w=.ok u w∧Rel F own w s u:=by
 cases hl:g_ ts st fn.results.toList with
 |none=>rw[hl]at h;cases h
 |some l=>
  obtain⟨vs,e1,e2,e3⟩:=uX (P:=P) hts hr _ l hl
  rw[hl]at h
  have hres:(results fn a.tmps).run P w=.ok (if h:vs.toArray.size=1 then vs.toArray[0]else .tuple vs.toArray) w:=by
   rw[zA,Array.mapM_eq_mapM_toList]
   simp only[Sem.run_bind,Sem.run_map,e1,Result.andThen_ok,Sem.run_pure]
  have hlen:vs.toArray.size=l.length:=by simpa using e2
  match l,h,e2,e3,hlen with
  | [s0],h,e2,e3,hlen=>
   simp only[iS,Option.some.injEq]at h
   subst h
   obtain⟨v,hv,hrel⟩:=e3 0 s0 rfl
   refine⟨v,?_,hrel⟩
   rw[hres,dif_pos (by rw[hlen];rfl)]
   congr 1
   have:=(List.getElem?_eq_some_iff.1 hv).2
   simpa using this
  | [],h,e2,e3,hlen=>
   simp only[iS,Option.some.injEq]at h
   subst h
   refine⟨.tuple vs.toArray,by rw[hres,dif_neg (by rw[hlen];simp)],.tup (by simpa using e2) fun j s hj=>by simp at hj⟩
  |s0::s1::r,h,e2,e3,hlen=>
   simp only[iS,Option.some.injEq]at h
   subst h
   refine⟨.tuple vs.toArray,by rw[hres,dif_neg (by rw[hlen];simp)],.tup (by simpa using e2) fun j s hj=>?_⟩
   obtain⟨v,hv,hrel⟩:=e3 j s hj
   have:vs.toArray.getD j undef=v:=by simp[Array.getD_eq_getD_getElem?,hv]
   rw[this]
   exact hrel
theorem gQ {fn:Func}{own:Own}{st:St}{a:Act}{w:World}{R:Ending→World→Prop}(hr:StRel F w0 N own st a w){u:FrameMode}(hu:u≠ .run)
  (h:∀ w2,StRel F w0 N own st { a with defers:=w0.ds} w2→LeavesInM (rd none) nd P fn a.tmps R w0.ds u w2):LeavesInM (rd none) nd P fn a.tmps R a.defers u w:=by
 obtain⟨ms,Ds,h0,h1,h2,h3⟩:=hr.defers
 rw[h0]
 exact qK hu Ds ms w h1 h2 (fun D hD=>(h3 D hD).2.2) fun w2 hs=>h w2 (hr.shut h3 hs)
theorem jA {w w':World}{own:Own}(h:Fr { w:=w,own:=ce} own w'):Below w.heap.size w w':=
 ⟨h.os,h.tape,h.output,h.size,fun k hk=>h.block k ⟨hk,fun⟨_,_,e,_⟩ =>by cases e⟩⟩
theorem jB {own:Own}{w:World}{l:List SV}{vs:Array Value}(hvs:RelL F own w l vs)(n t:Nat):Rel F own w (lk t (ir 0 l)) ((vs++Array.replicate n undef).getD t undef):=by
 rw[xP,if_pos (Nat.zero_le t),Nat.sub_zero]
 cases ht:l[t]? with
 |none=>exact .any _
 |some s=>
  have hlt:t<vs.size:=by rw[hvs.1];exact(List.getElem?_eq_some_iff.1 ht).1
  have:=hvs.2 t s ht
  rwa[fV (j:=t) (ws:=vs) (by rw[Array.getElem?_append_left hlt])]
theorem py {w:World}(hF:∀ b,F b→b<w.heap.size):Hp F ce w []:=
 ⟨fun _ _ h=>(by cases h),hF,fun _ _ _ h=>(by cases h),fun _ _ _ _ _ h=>(by cases h),fun _ _ _ h=>(by cases h),fun id h=>(by simp[ag,b9]at h)⟩
def eV (h:List Ob):Nat→SV→List Nat
 |_,.os id=>match aB 0 (mV (ag h id))with| [] =>[] |_=>[id]
 |n+1,.agg l=>l.flatMap (eV h n)
 |n+1,.tup l=>l.flatMap (eV h n)
 |_,_=>[]
theorem rB (o:Ob):(∃ (k:Tag) (l:List k.T),o=.row k l∧mV o=.nw k l)∨(∃ (k k2:Tag) (l:List (k.T×k2.T)),o=.mp k k2 l none∧mV o=.nm k k2 l)∨(∃ (k:Tag) (l:List (List k.T)),o=.grid k l∧mV o=.ng k l)∨mV o=.any:=by
 cases o with
 |row k l=>exact .inl ⟨k,l,rfl,rfl⟩
 |mp k k2 l p=>
  cases p with
  |none=>exact .inr (.inl ⟨k,k2,l,rfl,rfl⟩)
  |some x=>exact .inr (.inr (.inr rfl))
 |grid k l=>exact .inr (.inr (.inl ⟨k,l,rfl,rfl⟩))
 |_=>exact .inr (.inr (.inr rfl))
theorem zB:∀ (n:Nat) (s:SV),bU n s=true→∀ m,aB m s=[]:=by
 intro n
 induction n with
 |zero=>intro s h m;cases s <;>simp[bU]at h <;>cases m <;>rfl
 |succ n ih=>
  intro s h m
  have hl:∀ (l:List SV) m,l.all (bU n)=true→l.flatMap (aB m)=[]:=fun l m hl=>by
   rw[List.flatMap_eq_nil_iff]
   intro x hx
   rw[List.all_eq_true]at hl
   exact ih x (hl x hx) m
  cases s with
  |agg l=>cases m with
   |zero=>rfl
   |succ m=>exact hl l m h
  |tup l=>cases m with
   |zero=>rfl
   |succ m=>exact hl l m h
  |_=>first|(cases m <;>rfl) |simp[bU]at h
theorem uY {h:List Ob}:∀ (n:Nat) (s:SV),aB n (oi h n s)=(eV h n s).map (ag h)∧eV h n s ⊆ mc n s∧(eV h n s).Sublist (mc n s)∧∀ id∈eV h n s,Plain (ag h id):=by
 have hos:∀ (n id:Nat),aB n (mV (ag h id))=(eV h n (.os id)).map (ag h)∧eV h n (.os id) ⊆ [id]∧(eV h n (.os id)).Sublist [id]∧∀ i∈eV h n (.os id),Plain (ag h i):=by
  intro n id
  have e:eV h n (.os id)=match aB 0 (mV (ag h id))with| [] =>[] |_=>[id]:=by cases n <;>rfl
  rw[e]
  rcases rB (ag h id)with⟨k,l,e1,e2⟩ | ⟨k,k2,l,e1,e2⟩ | ⟨k,l,e1,e2⟩ |e2
  ·rw[e2];refine⟨?_,by simp[aB],by simp[aB],fun i hi=>?_⟩
   ·cases n <;>simp[aB,e1]
   ·simp[aB]at hi;subst hi;exact .inl ⟨k,l,e1⟩
  ·rw[e2];refine⟨?_,by simp[aB],by simp[aB],fun i hi=>?_⟩
   ·cases n <;>simp[aB,e1]
   ·simp[aB]at hi;subst hi;exact .inr (.inl ⟨k,k2,l,e1⟩)
  ·rw[e2];refine⟨?_,by simp[aB],by simp[aB],fun i hi=>?_⟩
   ·cases n <;>simp[aB,e1]
   ·simp[aB]at hi;subst hi;exact .inr (.inr ⟨k,l,e1⟩)
  ·rw[e2];refine⟨?_,by simp[aB],by simp[aB],fun i hi=>?_⟩
   ·cases n <;>rfl
   ·simp[aB]at hi
 have hleaf:∀ (n m:Nat) (s:SV),aB n (bif bU m s then s else .any)=[]:=fun n m s=>by
  cases hb:bU m s with
  |true=>exact zB m s hb n
  |false=>cases n <;>rfl
 intro n
 induction n with
 |zero=>
  intro s
  cases s with
  |os id=>exact hos 0 id
  |_=>first|exact⟨rfl,by simp[eV,mc],by simp[eV,mc],fun i hi=>by simp[eV]at hi⟩ |exact⟨hleaf _ _ _,by simp[eV,mc],by simp[eV,mc],fun i hi=>by simp[eV]at hi⟩
 |succ n ih=>
  intro s
  have hl:∀ l:List SV,(l.map (oi h n)).flatMap (aB n)=(l.flatMap (eV h n)).map (ag h)∧l.flatMap (eV h n) ⊆ l.flatMap (mc n)∧(l.flatMap (eV h n)).Sublist (l.flatMap (mc n))∧∀ id∈l.flatMap (eV h n),Plain (ag h id):=by
   intro l
   induction l with
   |nil=>exact⟨rfl,by simp,by simp,fun i hi=>by simp at hi⟩
   |cons x r ihl=>
    obtain⟨q1,q2,q3,q4⟩:=ihl
    obtain⟨p1,p2,p3,p4⟩:=ih x
    refine⟨by simp only[List.map_cons,List.flatMap_cons,List.map_append,q1,p1],?_,?_,?_⟩
    ·simp only[List.flatMap_cons];intro i hi;rcases List.mem_append.1 hi with hi|hi
     ·exact List.mem_append_left _ (p2 hi)
     ·exact List.mem_append_right _ (q2 hi)
    ·simp only[List.flatMap_cons];exact p3.append q3
    ·simp only[List.flatMap_cons];intro i hi;rcases List.mem_append.1 hi with hi|hi
     ·exact p4 i hi
     ·exact q4 i hi
  cases s with
  |os id=>exact hos (n+1) id
  |agg l=>exact hl l
  |tup l=>exact hl l
  |_=>first|exact⟨rfl,by simp[eV,mc],by simp[eV,mc],fun i hi=>by simp[eV]at hi⟩ |exact⟨hleaf _ _ _,by simp[eV,mc],by simp[eV,mc],fun i hi=>by simp[eV]at hi⟩
theorem tn:∀ l:List Nat,uniq l=true→l.Nodup
 | [],_=>List.nodup_nil
 |a::r,h=>by
  simp only[uniq,Bool.and_eq_true]at h
  rw[List.nodup_cons]
  refine⟨fun hm=>?_,tn r h.2⟩
  rw[(nc a r).2 hm]at h;simp at h
theorem B3 {own own':Own}{w:World}{h:List Ob}(hp:Hp F own w h)(hsh:∀ b,¬bS F own b→¬bS F own' b):∀ (n b:Nat) (s:SV) (v:Value),Rel F own w s v→(∀ i id,(eV h n s)[i]? =some id→own' (b+i)=own id)→nb F own' w n b (oi h n s) v:=by
 have hx:∀ c,¬bS F own c→¬bS (bS F own') ce c:=fun c hc=>by
  rintro (hf| ⟨_,_,e,_⟩)
  ·exact hsh c hc hf
  ·cases e
 have hos:∀ (n b id:Nat) (v:Value),Rel F own w (.os id) v→(∀ i j,(eV h n (.os id))[i]? =some j→own' (b+i)=own j)→nb F own' w n b (mV (ag h id)) v:=by
  intro n b id v hr hg
  have e:eV h n (.os id)=match aB 0 (mV (ag h id))with| [] =>[] |_=>[id]:=by cases n <;>rfl
  rw[e]at hg
  cases hr with
  |os h1 h2=>
   rcases rB (ag h id)with⟨k,l,e1,e2⟩ | ⟨k,k2,l,e1,e2⟩ | ⟨k,l,e1,e2⟩ |e2
   all_goals rw[e2]at hg ⊢
   ·have:=hg 0 id (by simp[aB]);rw[Nat.add_zero]at this
    cases n <;>exact⟨_,by rw[this];exact h1,rfl,h2⟩
   ·have:=hg 0 id (by simp[aB]);rw[Nat.add_zero]at this
    cases n <;>exact⟨_,by rw[this];exact h1,rfl,h2⟩
   ·have:=hg 0 id (by simp[aB]);rw[Nat.add_zero]at this
    cases n <;>exact⟨_,by rw[this];exact h1,rfl,h2⟩
   ·cases n <;>exact Rel.any _
 have hleaf:∀ (n m b:Nat) (s:SV) (v:Value),Rel F own w s v→(∀ l,s≠ .agg l)→(∀ l,s≠ .tup l)→nb F own' w n b (bif bU m s then s else .any) v:=by
  intro n m b s v hr n1 n2
  cases hb:bU m s with
  |false=>cases n <;>exact Rel.any _
  |true=>
   have hr2:Rel (bS F own') ce w s v:=hr.over (eb m s hb) hx
   simp only[cond_true]
   cases s with
   |agg l=>exact absurd rfl (n1 l)
   |tup l=>exact absurd rfl (n2 l)
   |nw k l=>cases hr
   |nm k k2 l=>cases hr
   |ng k l=>cases hr
   |_=>cases n <;>exact hr2
 intro n
 induction n with
 |zero=>
  intro b s v hr hg
  cases s with
  |os id=>exact hos 0 b id v hr hg
  |v x=>exact hr.over (.v x) hx
  |rs k l=>exact hr.over .rs hx
  |rm k k2 l=>exact hr.over .rm hx
  |e0=>exact hr.over .e0 hx
  |agg l=>exact Rel.any _
  |tup l=>exact Rel.any _
  |_=>exact hleaf 0 0 b _ v hr (fun _ e=>by cases e) (fun _ e=>by cases e)
 |succ n ih=>
  intro b s v hr hg
  have hl:∀ (l:List SV) (vs:Array Value) (b:Nat),(∀ (j:Nat) (s:SV),l[j]? =some s→Rel F own w s (vs.getD j undef))→(∀ i id,(l.flatMap (eV h n))[i]? =some id→own' (b+i)=own id)→
    ∀ (j:Nat) (s:SV),(l.map (oi h n))[j]? =some s→nb F own' w n (b+cnt n ((l.map (oi h n)).take j)) s (vs.getD j undef):=by
   intro l vs b h1 h2 j s hj
   obtain⟨x,hx2,rfl⟩:=cb hj
   refine ih _ x _ (h1 j x hx2) fun i id hi=>?_
   have hc:cnt n ((l.map (oi h n)).take j)=((l.take j).flatMap (eV h n)).length:=by
    rw[←List.map_take]
    generalize l.take j=m
    induction m with
    |nil=>rfl
    |cons y r ihm=>simp only[List.map_cons,cnt,List.flatMap_cons,List.length_append,ihm,(uY (h:=h) n y).1,List.length_map]
   rw[hc,Nat.add_assoc]
   refine h2 _ id ?_
   have hsplit:l=l.take j++(x::l.drop (j+1)):=by
    have hlt:=(List.getElem?_eq_some_iff.1 hx2).1
    have:=(List.getElem?_eq_some_iff.1 hx2).2
    rw[←this,List.getElem_cons_drop,List.take_append_drop]
   have hil:i< (eV h n x).length:=(List.getElem?_eq_some_iff.1 hi).1
   have hf:l.flatMap (eV h n)=(l.take j).flatMap (eV h n)++(eV h n x++(l.drop (j+1)).flatMap (eV h n)):=by rw[←List.flatMap_cons,←List.flatMap_append,←hsplit]
   rw[hf,List.getElem?_append_right (by omega),Nat.add_sub_cancel_left,List.getElem?_append_left hil]
   exact hi
  cases s with
  |os id=>exact hos (n+1) b id v hr hg
  |v x=>exact hr.over (.v x) hx
  |rs k l=>exact hr.over .rs hx
  |rm k k2 l=>exact hr.over .rm hx
  |e0=>exact hr.over .e0 hx
  |agg l=>cases hr with|agg h0 h1=>exact⟨_,rfl,by simpa using h0,hl l _ b h1 hg⟩
  |tup l=>cases hr with|tup h0 h1=>exact⟨_,rfl,by simpa using h0,hl l _ b h1 hg⟩
  |_=>exact hleaf (n+1) (n+1) b _ v hr (fun _ e=>by cases e) (fun _ e=>by cases e)
theorem AM {own:Own}{st:St}{a:Act}{w w':World}(hst:StRel F { w:=w,own:=ce} N own st a w'){s s2:SV}{u:Value}(hr:Rel F own w' s u)(hg:rj st.h s=some s2):∃ own',Handed F w own' w' s2 u:=by
 unfold rj at hg
 cases hb:uniq (mc 3 s)&&(mc 3 s).all (fun i=>Nat.blt i st.h.length)with
 |false=>rw[hb]at hg;cases hg
 |true=>
  rw[hb]at hg
  simp only[cond_true,Option.some.injEq]at hg;subst hg
  rw[Bool.and_eq_true]at hb
  obtain⟨g1,g2,g3,g4⟩:=uY (h:=st.h) 3 s
  have hnd:(eV st.h 3 s).Nodup:=(tn _ hb.1).sublist g3
  let own':Own:=fun i=>((eV st.h 3 s)[i]?).bind own
  have ho:∀ i hd,own' i=some hd→∃ id,(eV st.h 3 s)[i]? =some id∧own id=some hd:=fun i hd e=>by
   simp only[own',Option.bind_eq_some_iff]at e;exact e
  have hsh:∀ b,¬bS F own b→¬bS F own' b:=fun b hb=>by
   rintro (hf| ⟨i,hd,e,hm⟩)
   ·exact hb (.inl hf)
   ·obtain⟨id,_,e2⟩:=ho i hd e
    exact hb (.inr ⟨id,hd,e2,hm⟩)
  refine⟨own',⟨fun i hd e=>?_,hst.hp.foreign,fun i hd b e hm=>?_,fun i j hi hj b e1 e2 hb1 hb2=>?_,fun i hd b e hm=>?_,fun i hdd=>?_⟩,?_,fun i hd b e hm=>?_⟩
  ·obtain⟨id,e1,_⟩:=ho i hd e
   rw[g1,List.length_map];exact(List.getElem?_eq_some_iff.1 e1).1
  ·obtain⟨id,_,e2⟩:=ho i hd e;exact hst.hp.apart id hd b e2 hm
  ·obtain⟨k1,p1,p2⟩:=ho i hi e1
   obtain⟨k2,q1,q2⟩:=ho j hj e2
   have:=hst.hp.inj k1 k2 hi hj b p2 q2 hb1 hb2
   subst this
   exact ka hnd p1 q1
  ·obtain⟨id,_,e2⟩:=ho i hd e;exact hst.hp.lt id hd b e2 hm
  ·rw[g1]at hdd ⊢
   rw[jg]at hdd ⊢
   rw[List.getElem?_map]at hdd ⊢
   cases hi:(eV st.h 3 s)[i]? with
   |none=>rw[hi]at hdd;simp[b9]at hdd
   |some id=>
    rw[hi]at hdd
    simp only[Option.map_some,Option.getD_some]at hdd ⊢
    obtain⟨hd,e1,e2⟩:=hst.hp.obs id hdd
    refine⟨hd,by simp only[own',hi,Option.bind_some];exact e1,e2.over (g4 id (List.mem_of_getElem? hi)) (.inl hsh)⟩
  ·exact B3 hst.hp hsh 3 0 s u hr fun i id hi=>by rw[Nat.zero_add];simp only[own',hi,Option.bind_some]
  ·obtain⟨id,_,e2⟩:=ho i hd e
   have:=hst.fr.base id hd b e2 hm
   rcases Nat.lt_or_ge b w.heap.size with hlt|hge
   ·exact absurd ⟨hlt,fun⟨_,_,e,_⟩ =>by cases e⟩ this
   ·exact hge
end
end Go.Sx
end
section
namespace Go.Sx
open Go.RowKit
section
variable {P:Program}{F:Nat→Prop}{w0:Bs}{ro:Option Nat}{nd:Nat}{ts:Tis}{G:Cons}{L:mA}{N:Nat}
theorem ni {w w':World}{s:SV}{u:Value}(hF:∀ b,F b→b<w'.heap.size)(h:Rel F ce w' s u):Handed F w ce w' s u:=by
 refine⟨?_,Dg 3 0 h,fun _ _ _ e=>(by cases e)⟩
 rw[sY 3 h]
 exact py hF
theorem Dx (m:Bool) (hm:P.follows .mixedOrders=true) (hts:ts.ok P) (hG:ConsOk P G) {f:FuncId} {fn:Func} {c:Code} (hf:P.funcs[f]? =some fn) (hb:fn.body=some c) (hname:(fn.name== "runtime.NumGoroutine")=false)
  (hc:cd fn.ntmps c=true) {C:List SV→Option Con}
  (h:∀ l con,C l=some con→bp con→l.length≤fn.ntmps∧∃ L,aw P none fn.ntmps L c∧exec ts G L c ⟨ir 0 l,[]⟩ (xf m fn.results.toList ts (cO con) (ia con))):FnOk P f C:=by
 refine⟨fun l con _ args w=>?_,fun l con hcon hpre F w vs hF hvs=>?_⟩
 ·have hn:¬fn.name= "runtime.NumGoroutine":=by simpa using hname
  simp[callFunc,hf,hn,hb]
 ·obtain⟨hlen,L,hl,hx⟩:=h l con hcon hpre
  refine kv (n:=0) (callsIn_of_wp_marks hf hb trivial ?_)
  have hr:StRel F { w:=w,own:=ce} fn.ntmps ce ⟨ir 0 l,[]⟩ { tmps:=vs++Array.replicate (fn.ntmps - vs.size) undef,defers:=[]} w:=
   ⟨by have:=hvs.1;simp;omega,Dfr.nil,py hF,Fr.refl _,fun t=>jB hvs _ t⟩
  refine wpIn_mono (jY hm hts hG c hc hl F _ _ hx ce _ w hr) ?_
  intro e a' w' hq
  have key:∀ F1 own st,(∀ b,F b→F1 b)→StRel F1 { w:=w,own:=ce} fn.ntmps own st a' w'→db (cO con) (oE m fn.results.toList ts st)→LeavesInM (rd none) 0 P fn a'.tmps
    (fun e w'=>(∃ s u own',cO con s∧e=.returned u∧Handed F w own' w' s u∧Below w.heap.size w w')∨(∃ x,ia con x∧e=.panicked [{ v:=x,recovered:=false}]∧Below w.heap.size w w')) a'.defers .returning w':=by
   intro F1 own st hF1 hst hdone
   refine gQ hst (by simp) fun w2 hst2=>?_
   have hst3:=hst2.less hF1 rfl
   unfold oE at hdone
   cases hs:iS (g_ ts st fn.results.toList)with
   |none=>
    cases m <;>simp only[cond_true,cond_false,pa,Bu]at hdone <;>rw[hs]at hdone <;>exact hdone.elim
   |some s=>
    obtain⟨u,e1,e2⟩:=px (P:=P) hts hst3 hs
    refine⟨u,e1,.inl ?_⟩
    cases m with
    |false=>
     simp only[cond_false,pa]at hdone
     rw[hs]at hdone
     exact⟨_,u,ce,hdone,rfl,ni hst3.hp.foreign (nK hst3.hp 4 s u e2),jA hst3.fr⟩
    |true=>
     simp only[cond_true,Bu]at hdone
     rw[hs]at hdone
     change db (cO con) (rj st.h s)at hdone
     cases hg:rj st.h s with
     |none=>rw[hg]at hdone;exact hdone.elim
     |some s2=>
      rw[hg]at hdone
      obtain⟨own',hh⟩:=AM hst3 e2 hg
      exact⟨_,u,own',hdone,rfl,hh,jA hst3.fr⟩
  cases e with
  |normal=>obtain⟨F1,own,st,h0,h1,h2⟩:=hq;exact key F1 own st h0 h1 h2
  |ret=>obtain⟨F1,own,st,h0,h1,h2⟩:=hq;exact key F1 own st h0 h1 h2
  |exit id=>obtain⟨F1,own,st,h0,h1,h2⟩:=hq;exact h2.elim
  |panic ch=>
   obtain⟨x,F1,own,st,h0,h1,h2,rfl⟩:=hq
   exact gQ h1 (by simp) fun w2 hst2=>.inr ⟨x,h2,rfl,jA hst2.fr⟩
  |_=>exact hq.elim
theorem FQ {js:List Nat}{n0:Nat}{own:Own}{h h':List Ob}{s s':SV}{w:World}(hs:Sub js n0 ⟨[(0,s)],h⟩ ⟨[(0,s')],h'⟩)(hp:Hp F own w h)(hfr:Fr w0 own w)(hn:∀ id hd,w0.own id=some hd→id<n0)(hle:n0≤h'.length){u:Value}(hr:Rel F own w s u):
  Rel F (eo js h' own) w s' u:=by
 obtain⟨_,_,_,q4⟩:=wh hs hp hfr hn hle
 obtain⟨_,⟨⟨k1,k2⟩,_⟩,_⟩:=hs
 have e:s=ren (rQ js) 5 s':=by simpa[lk]using k1
 rw[e]at hr
 exact q4 5 s' u k2 hr
theorem tp (hm:P.follows .mixedOrders=true) (hts:ts.ok P) (hG:ConsOk P G) {f:FuncId} {fn:Func} {c:Code} (hf:P.funcs[f]? =some fn) (hb:fn.body=some c) (hname:(fn.name== "runtime.NumGoroutine")=false)
  (hc:cd fn.ntmps c=true) {C:List SV→List Ob→Option HCon}
  (h:∀ l o con,C l o=some con→con.pre→l.length≤fn.ntmps∧∃ L Qx,aw P none fn.ntmps L c∧(∀ e st,Qx e st→xg o.length fn.results.toList ts con e st)∧exec ts G L c ⟨ir 0 l,o⟩ Qx):FnOkO P f C:=by
 refine⟨fun l o con _ args w=>?_,fun l o con hcon hpre F own w vs hp hvs=>?_⟩
 ·have hn:¬fn.name= "runtime.NumGoroutine":=by simpa using hname
  simp[callFunc,hf,hn,hb]
 ·obtain⟨hlen,L,Qx,hl,hQ,hx⟩:=h l o con hcon hpre
  have hn0:∀ id hd,own id=some hd→id<o.length:=fun id hd e=>hp.dom id hd e
  refine kv (n:=0) (callsIn_of_wp_marks hf hb trivial ?_)
  have hr:StRel F { w:=w,own:=own} fn.ntmps own ⟨ir 0 l,o⟩ { tmps:=vs++Array.replicate (fn.ntmps - vs.size) undef,defers:=[]} w:=
   ⟨by have:=hvs.1;simp;omega,Dfr.nil,hp,Fr.refl { w:=w,own:=own},fun t=>jB hvs _ t⟩
  refine wpIn_mono (jY hm hts hG c hc hl F _ _ hx own _ w hr) ?_
  intro e a' w' hq
  replace hq:=lJ hQ _ _ _ hq
  have key:∀ F1 own' st,(∀ b,F b→F1 b)→StRel F1 { w:=w,own:=own} fn.ntmps own' st a' w'→pb o.length con (iS (g_ ts st fn.results.toList)) st.h→LeavesInM (rd none) 0 P fn a'.tmps (fun e w'=>∃ r own',con.post r∧zh F w own o.length e own' w' (con.res r)) a'.defers .returning w':=by
   intro F1 own' st hF1 hst hdone
   refine gQ hst (by simp) fun w2 hst2=>?_
   have hst3:=hst2.less hF1 rfl
   cases hs:iS (g_ ts st fn.results.toList)with
   |none=>rw[hs]at hdone;exact hdone.elim
   |some s=>
    rw[hs]at hdone
    obtain⟨r,s',h',js,q1,q2,q3,q4⟩:=hdone
    obtain⟨u,e1,e2⟩:=px (P:=P) hts hst3 hs
    obtain⟨k1,k2,_,_⟩:=wh q4 hst3.hp hst3.fr hn0 q3
    refine⟨u,e1,r,eo js h' own',q1,?_⟩
    rw[q2]
    exact⟨⟨u,rfl,FQ q4 hst3.hp hst3.fr hn0 q3 e2⟩,k1,k2,q3⟩
  cases e with
  |normal=>obtain⟨F1,own',st,h0,h1,h2⟩:=hq;exact key F1 own' st h0 h1 h2
  |ret=>obtain⟨F1,own',st,h0,h1,h2⟩:=hq;exact key F1 own' st h0 h1 h2
  |exit id=>obtain⟨F1,own',st,h0,h1,h2⟩:=hq;exact h2.elim
  |panic ch=>
   obtain⟨x,F1,own',st,h0,h1,⟨r,h',js,q1,q2,q3,q4⟩,rfl⟩:=hq
   refine gQ h1 (by simp) fun w2 hst2=>?_
   have hst3:=hst2.less h0 rfl
   obtain⟨k1,k2,_,_⟩:=wh q4 hst3.hp hst3.fr hn0 q3
   refine⟨r,eo js h' own',q1,?_⟩
   rw[q2]
   exact⟨rfl,k1,k2,q3⟩
  |_=>exact hq.elim
theorem xQ (hm:P.follows .mixedOrders=true) (hts:ts.ok P) (hG:ConsOk P G) {f:FuncId} {fn:Func} {c:Code} (hf:P.funcs[f]? =some fn) (hb:fn.body=some c) (hname:(fn.name== "runtime.NumGoroutine")=false)
  (hc:cd fn.ntmps c=true) {C:List SV→List Ob→Option HCon}
  (h:∀ l o con,C l o=some con→con.pre→l.length≤fn.ntmps∧∃ L,aw P none fn.ntmps L c∧exec ts G L c ⟨ir 0 l,o⟩ (xg o.length fn.results.toList ts con)):FnOkO P f C:=
 tp hm hts hG hf hb hname hc fun l o con h1 h2=>by
  obtain⟨h3,L,h4,h5⟩:=h l o con h1 h2
  exact⟨h3,L,_,h4,fun _ _ q=>q,h5⟩
theorem StRel.base_lt {own:Own}{st:St}{a:Act}{w:World}(h:StRel F w0 N own st a w):∀ id hd,w0.own id=some hd→id<st.h.length:=fun id hd e=>by
 obtain⟨hd',e',_⟩:=h.fr.ids id hd e
 exact h.hp.dom id hd' e'
theorem xR {ts:Tis}{G:Cons}{ro:Option Nat}{N:Nat}(hm:P.follows .mixedOrders=true)(hts:ts.ok P)(hG:ConsOk P G){id:Nat}{c:Code}(hc:cd N c=true){C:St→Option LCon}
  (h:∀ st lc,C st=some lc→lc.pre→∃ (σ:Type) (D:σ→St) (I:σ→Prop) (m:σ→Nat) (x0:σ) (js:List Nat),I x0∧st.h.length≤(D x0).h.length∧Sub js st.h.length st (D x0)∧
   ∀ x,I x→∃ L Qx,aw P ro N L c∧(∀ e st',Qx e st'→mf D I m st.h.length x id (fun e st'=>∃ r js,lc.post r∧lc.ex r=e∧st.h.length≤(lc.out r).h.length∧Sub js st.h.length st' (lc.out r)) e st')∧exec ts G L c (D x) Qx):gF P ro N id (.loop c) C:=by
 intro nd F w0 st lc hC hpre own a w hr
 obtain⟨σ,D,I,m,x0,js,h1,h2,h3,h4⟩:=h st lc hC hpre
 refine wpIn_mono (uW hm hts hG hc D I m st.h.length hr.base_lt _ h4 x0 h1 _ a w (hr.sub h3 hr.base_lt h2)) ?_
 intro e a' w' hq
 have key:∀ ex F1 own' st',StRel F1 w0 N own' st' a' w'→(∃ r js,lc.post r∧lc.ex r=ex∧st.h.length≤(lc.out r).h.length∧Sub js st.h.length st' (lc.out r))→∃ own2 st2,StRel F1 w0 N own2 st2 a' w'∧∃ r,lc.post r∧ex=lc.ex r∧st2=lc.out r:=by
  rintro ex F1 own' st' hst ⟨r,js,q1,q2,q3,q4⟩
  exact⟨_,_,hst.sub q4 hr.base_lt q3,r,q1,q2.symm,rfl⟩
 cases e with
 |normal=>obtain⟨F1,own',st',h0,k1,k2⟩:=hq;obtain⟨own2,st2,q1,q2⟩:=key _ F1 own' st' k1 k2;exact⟨F1,own2,st2,h0,q1,q2⟩
 |exit j=>obtain⟨F1,own',st',h0,k1,k2⟩:=hq;obtain⟨own2,st2,q1,q2⟩:=key _ F1 own' st' k1 k2;exact⟨F1,own2,st2,h0,q1,q2⟩
 |ret=>obtain⟨F1,own',st',h0,k1,k2⟩:=hq;obtain⟨own2,st2,q1,q2⟩:=key _ F1 own' st' k1 k2;exact⟨F1,own2,st2,h0,q1,q2⟩
 |panic ch=>
  obtain⟨x,F1,own',st',h0,k1,k2,k3⟩:=hq
  obtain⟨own2,st2,q1,q2⟩:=key _ F1 own' st' k1 k2
  exact⟨x,F1,own2,st2,h0,q1,q2,k3⟩
 |_=>exact hq.elim
end
end Go.Sx
end
section
namespace Go.Sx
def zC (k:TI→OR):Option TI→OR
 |some i=>k i
 |none=>.bad
section
variable {ts:Tis}{G:Cons}{L:mA}{t:List (Nat×SV)}{h:List Ob}{Q:Ex→St→Prop}{K:St→Prop}{Z:Value→St→Prop}{ops rest:List Oper}{nx:Nat}
variable {st st':St}
@[congr] theorem II {c:Code}(e:st=st'):exec ts G L c st Q=exec ts G L c st' Q:=by rw[e]
@[congr] theorem E0 (e:st=st'):eF ts G ops rest st K Z=eF ts G ops rest st' K Z:=by rw[e]
@[congr] theorem HM {i b:Nat}{fps fps':List Fp}(e0:fps=fps')(e:st=st'):fF ts G ops K Z rest i b fps st=fF ts G ops K Z rest i b fps' st':=by rw[e,e0]
@[congr] theorem HN {d:Option Nat}{r r':OR}(e:r=r'):fU G d st K Z r=fU G d st K Z r':=by rw[e]
@[congr] theorem HO {d:Option Nat}{g:Nat×Bool}{r r':OR}(e:r=r'):stepG G ops g d st K Z r=stepG G ops g d st K Z r':=by rw[e]
@[congr] theorem FR {d:Option Nat}{next:List Nat→List Up→St→Prop}{p:Prop}{r r':Option Dr}(e:r=r'):oD d st next p r=oD d st next p r':=by rw[e]
@[congr] theorem FT {d:Option Nat}{g:Nat×Bool}{next:List Nat→List Up→St→Prop}{p:Prop}{r r':Option Dr}(e:r=r'):mT ops g d st next p r=mT ops g d st next p r':=by rw[e]
@[congr] theorem HP {x y:(Ex→St→Prop)→Prop}{Q:Ex→St→Prop}{s s':SV}{c c':Option LCon}(e:s=s')(e2:c=c'):sE x y Q s c=sE x y Q s' c':=by rw[e,e2]
@[congr] theorem HQ {x:(Ex→St→Prop)→Prop}{Q:Ex→St→Prop}{c c':Option LCon}(e:c=c'):sF x Q c=sF x Q c':=by rw[e]
@[congr] theorem HR {c c':Option LCon}(e:c=c'):kn Q c=kn Q c':=by rw[e]
@[go_sem] theorem Kx:exec ts G L .skip ⟨t,h⟩ Q=Q .normal ⟨t,h⟩:=(rfl)
@[go_sem] theorem HS {id:Nat}{a:Array Oper}{d:Bool}:exec ts G L (.region id a d) ⟨t,h⟩ Q=sF (ri ts G a d ⟨t,h⟩) Q (L (id+2000000) ⟨t,h⟩):=(rfl)
@[go_sem] theorem HT:ri ts G ops.toArray false ⟨t,h⟩ Q=eF ts G ops ops ⟨t,h⟩ (fun st'=>Q .normal (mU ops st')) (fun x st'=>Q (.pan x) st'):=(rfl)
@[go_sem] theorem IJ {x:(Ex→St→Prop)→Prop}:sF x Q none=x Q:=(rfl)
@[go_sem] theorem IK {d:St}:inC d Q .normal ⟨t,h⟩=(h=d.h∧subJ t d.t):=(rfl)
@[go_sem] theorem Ot {d st:St}{x:Value}:inC d Q (.pan x) st=Q (.pan x) st:=(rfl)
@[go_sem] theorem MK {a b:Code}:exec ts G L (.seq a b) ⟨t,h⟩ Q=exec ts G L a ⟨t,h⟩ (Ex.then (fun st'=>exec ts G L b st' Q) Q):=(rfl)
@[go_sem] theorem Ky {c:Operand}{x y:Code}:exec ts G L (.cond c x y) ⟨t,h⟩ Q=sE (exec ts G L x ⟨t,h⟩) (exec ts G L y ⟨t,h⟩) Q (raw t c) (L (CZ c) ⟨t,h⟩):=(rfl)
@[go_sem] theorem IL {x y:(Ex→St→Prop)→Prop}{s:SV}:sE x y Q s none=oh (x Q) (y Q) s:=(rfl)
@[go_sem] theorem ML {x y:(Ex→St→Prop)→Prop}{s:SV}{d:St}:sE x y Q s (some (JC d))=(oh (x (inJ d)) (y (inJ d)) s∧Q .normal d):=by
 have e:(fun e st=>∃ r,(JC d).post r∧inJ ((JC d).out r) e st)=inJ d:=by
  funext e st
  exact propext ⟨fun⟨_,_,h⟩ =>h,fun h=>⟨(),trivial,h⟩⟩
 show C0 x y Q s (JC d)=_
 unfold C0
 rw[e]
 exact propext ⟨fun h=>⟨h.1,h.2 () trivial⟩,fun h=>⟨h.1,fun _ _=>h.2⟩⟩
@[go_sem] theorem MM {n:Nat}:CZ (.tmp n)=n+1000000:=(rfl)
@[go_sem] theorem IM {d:St}:inJ d .normal ⟨t,h⟩=(h=d.h∧subJ t d.t):=(rfl)
@[go_sem] theorem MN:subJ t []=True:=(rfl)
@[go_sem] theorem Kz {n:Nat}{s:SV}{r:List (Nat×SV)}:subJ t ((n,s)::r)=(lk n t=s∧subJ t r):=(rfl)
@[go_sem] theorem Dy {id:Nat}{c:Code}:exec ts G L (.block id (.loop c)) ⟨t,h⟩ Q=kn Q (L id ⟨t,h⟩):=(rfl)
@[go_sem] theorem Cu {id:Nat}{f:Operand}{ps:Array Tmp}{a b:Code}:exec ts G L (.block id (.rangeFunc f ps a b)) ⟨t,h⟩ Q=kn Q (L id ⟨t,h⟩):=(rfl)
@[go_sem] theorem Dz {id:Nat}{a b:Code}:exec ts G L (.block id (.seq a b)) ⟨t,h⟩ Q=exec ts G L (.seq a b) ⟨t,h⟩ (Ex.block id Q):=(rfl)
@[go_sem] theorem Cv {id:Nat}{c:Operand}{a b:Code}:exec ts G L (.block id (.cond c a b)) ⟨t,h⟩ Q=exec ts G L (.cond c a b) ⟨t,h⟩ (Ex.block id Q):=(rfl)
@[go_sem] theorem AN {id j:Nat}{a:Array Oper}{d:Bool}:exec ts G L (.block id (.region j a d)) ⟨t,h⟩ Q=exec ts G L (.region j a d) ⟨t,h⟩ (Ex.block id Q):=(rfl)
@[go_sem] theorem Cw {id:Nat}:exec ts G L (.block id .skip) ⟨t,h⟩ Q=exec ts G L .skip ⟨t,h⟩ (Ex.block id Q):=(rfl)
@[go_sem] theorem KA {id:Nat}:exec ts G L (.exit id) ⟨t,h⟩ Q=Q (.exit id) ⟨t,h⟩:=(rfl)
@[go_sem] theorem MO:exec ts G L .ret ⟨t,h⟩ Q=Q .ret ⟨t,h⟩:=(rfl)
@[go_sem] theorem B4 {id:Nat}{c:Code}:exec ts G L (.block id (.scope c)) ⟨t,h⟩ Q=exec ts G L (.scope c) ⟨t,h⟩ (Ex.block id Q):=(rfl)
@[go_sem] theorem B5 {id l:Nat}:exec ts G L (.block id (.label l)) ⟨t,h⟩ Q=exec ts G L (.label l) ⟨t,h⟩ (Ex.block id Q):=(rfl)
@[go_sem] theorem IN {c:Code}:exec ts G L (.scope c) ⟨t,h⟩ Q=exec ts G L c ⟨t,h⟩ Q:=(rfl)
@[go_sem] theorem IP {l:Nat}:exec ts G L (.label l) ⟨t,h⟩ Q=Q .normal ⟨t,h⟩:=(rfl)
@[go_sem] theorem HU {st:St}:Ex.then K Q .normal st=K st:=(rfl)
@[go_sem] theorem MP {st:St}:Ex.then K Q .ret st=Q .ret st:=(rfl)
@[go_sem] theorem KB {st:St}{j:Nat}:Ex.then K Q (.exit j) st=Q (.exit j) st:=(rfl)
@[go_sem] theorem FU {st:St}{id:Nat}:Ex.block id Q .normal st=Q .normal st:=(rfl)
@[go_sem] theorem KC {st:St}{id:Nat}:Ex.block id Q .ret st=Q .ret st:=(rfl)
@[go_sem] theorem MQ {st:St}{v:Value}:Ex.then K Q (.pan v) st=Q (.pan v) st:=(rfl)
@[go_sem] theorem KD {st:St}{id:Nat}{v:Value}:Ex.block id Q (.pan v) st=Q (.pan v) st:=(rfl)
@[go_sem] theorem IQ {st:St}{id j:Nat}:Ex.block id Q (.exit j) st=bif Nat.beq j id then Q .normal st else Q (.exit j) st:=(rfl)
@[go_sem] theorem Ou {x y:Prop}{b:Bool}:oh x y (.v (.bool b))=((b=true→x)∧(b=false→y)):=(rfl)
@[go_sem] theorem IR {α:Type}{pre:Prop}{post:α→Prop}{ex:α→Ex}{out:α→St}:kn Q (some ⟨α,pre,post,ex,out⟩)=(pre∧∀ r,post r→Q (ex r) (out r)):=(rfl)
@[go_sem] theorem IS:ri ts G ops.toArray true ⟨t,h⟩ Q=fF ts G ops (fun st'=>Q .normal (mU ops st')) (fun x st'=>Q (.pan x) st') ops 0 0 [] ⟨t,h⟩:=(rfl)
@[go_sem] theorem HV:eF ts G ops [] ⟨t,h⟩ K Z=K ⟨t,h⟩:=(rfl)
@[go_sem] theorem FV {d:Option Nat}{op:Op}{ty:TypeId}{pos:String}{af:Array Edge}:eF ts G ops (⟨d,op,ty,pos,af,none⟩::rest) ⟨t,h⟩ K Z=fU G d ⟨t,h⟩ (fun st'=>eF ts G ops rest st' K Z) Z (opS ⟨ts,ops,none,⟨t,h⟩,h.length⟩ op):=(rfl)
@[go_sem] theorem IT {i b:Nat}{fps:List Fp}{d:Option Nat}{op:Op}{ty:TypeId}{pos:String}{af:Array Edge}:fF ts G ops K Z (⟨d,op,ty,pos,af,none⟩::rest) i b fps ⟨t,h⟩=oD d ⟨t,h⟩ (fun all ups st'=>fF ts G ops K Z rest (i+1) b (fps++[fpU op (fpO ⟨ts,ops,none,⟨t,h⟩,h.length⟩ op) all ups]) st') (km ops b fps∧sC ops i=true∧fU G d ⟨t,h⟩ (fun st'=>fF ts G ops K Z rest (i+1) (i+1) [] st') Z (opS ⟨ts,ops,none,⟨t,h⟩,h.length⟩ op)) (fo G h h.length (opS ⟨ts,ops,none,⟨t,h⟩,h.length⟩ op)):=(rfl)
@[go_sem] theorem FW {d:Option Nat}{op:Op}{ty:TypeId}{pos:String}{af:Array Edge}{g:Nat×Bool}:eF ts G ops (⟨d,op,ty,pos,af,some g⟩::rest) ⟨t,h⟩ K Z=stepG G ops g d ⟨t,h⟩ (fun st'=>eF ts G ops rest st' K Z) Z (opS ⟨ts,ops,some g,⟨t,h⟩,h.length⟩ op):=(rfl)
@[go_sem] theorem IU {i b:Nat}{fps:List Fp}{d:Option Nat}{op:Op}{ty:TypeId}{pos:String}{af:Array Edge}{g:Nat×Bool}:fF ts G ops K Z (⟨d,op,ty,pos,af,some g⟩::rest) i b fps ⟨t,h⟩=mT ops g d ⟨t,h⟩ (fun all ups st'=>fF ts G ops K Z rest (i+1) b (fps++[fpU op (fpO ⟨ts,ops,some g,⟨t,h⟩,h.length⟩ op) all ups]) st') (km ops b fps∧sC ops i=true∧stepG G ops g d ⟨t,h⟩ (fun st'=>fF ts G ops K Z rest (i+1) (i+1) [] st') Z (opS ⟨ts,ops,some g,⟨t,h⟩,h.length⟩ op)) (fo G h h.length (opS ⟨ts,ops,some g,⟨t,h⟩,h.length⟩ op)):=(rfl)
@[go_sem] theorem KE {i b:Nat}{fps:List Fp}:fF ts G ops K Z [] i b fps ⟨t,h⟩=(km ops b fps∧K ⟨t,h⟩):=(rfl)
@[go_sem] theorem KF {d:Nat}{s:SV}:fU G (some d) ⟨t,h⟩ K Z (.val s)=K ⟨(d,s)::t,h⟩:=(rfl)
@[go_sem] theorem KG {d:Nat}{s:SV}{c:Prop}:fU G (some d) ⟨t,h⟩ K Z (.chk c s)=(c∧K ⟨(d,s)::t,h⟩):=(rfl)
@[go_sem] theorem KH {d:Nat}{s:SV}{c:Prop}:fU G (some d) ⟨t,h⟩ K Z (.asm c s)=(c→K ⟨(d,s)::t,h⟩):=(rfl)
@[go_sem] theorem IV {d:Nat}{s:SV}:fU G (some d) ⟨t,h⟩ K Z (.newr s)=K ⟨(d,s)::t,h⟩:=(rfl)
@[go_sem] theorem KI {d:Nat}{s:SV}{c a:Prop}{ups:List Up}:fU G (some d) ⟨t,h⟩ K Z (.eff c a ups s)=(c∧(a→K ⟨(d,s)::t,aQ h ups⟩)):=(rfl)
@[go_sem] theorem KJ {d:Nat}{g:Nat×Bool}:stepG G ops g (some d) ⟨t,h⟩ K Z .bad=(oC ops t ops.length g∧K ⟨(d,.gd g.1 g.2 .any)::t,h⟩):=(rfl)
@[go_sem] theorem IW {g:Nat×Bool}:stepG G ops g none ⟨t,h⟩ K Z .bad=(oC ops t ops.length g∧K ⟨t,h⟩):=(rfl)
@[go_sem] theorem KK {d:Nat}{s:SV}{g:Nat×Bool}:stepG G ops g (some d) ⟨t,h⟩ K Z (.val s)=K ⟨(d,.gd g.1 g.2 s)::t,h⟩:=(rfl)
@[go_sem] theorem KL {d:Nat}{s:SV}{g:Nat×Bool}{c:Prop}:stepG G ops g (some d) ⟨t,h⟩ K Z (.chk c s)=((dz ops t ops.length g→c)∧K ⟨(d,.gd g.1 g.2 s)::t,h⟩):=(rfl)
@[go_sem] theorem KM {d:Nat}{s:SV}{g:Nat×Bool}{c:Prop}:stepG G ops g (some d) ⟨t,h⟩ K Z (.asm c s)=K ⟨(d,.gd g.1 g.2 s)::t,h⟩:=(rfl)
@[go_sem] theorem IX {d:Nat}{s:SV}{g:Nat×Bool}:stepG G ops g (some d) ⟨t,h⟩ K Z (.newr s)=K ⟨(d,.gd g.1 g.2 s)::t,h⟩:=(rfl)
@[go_sem] theorem KN {d:Nat}{s:SV}{g:Nat×Bool}{c a:Prop}{ups:List Up}:stepG G ops g (some d) ⟨t,h⟩ K Z (.eff c a ups s)=((dz ops t ops.length g→c∧(a→K ⟨(d,.gd g.1 g.2 s)::t,aQ h ups⟩))∧(gD ops t ops.length g→K ⟨(d,.gd g.1 g.2 .any)::t,h⟩)):=(rfl)
@[go_sem] theorem KO {c:Option HCon}{np:Bool}{ids:List Nat}{d:Nat}{s:SV}{p:Prop}:mS np ids (some d) ⟨t,h⟩ K Z c (some (.det p s))=bif np||dV 3 s then(p∧K ⟨(d,ej 3 h.length s)::t,h++aB 3 s⟩)else o_ ids (some d) ⟨t,h⟩ K Z c:=(rfl)
@[go_sem] theorem KP {c:Option HCon}{np:Bool}{ids:List Nat}{d:Nat}{α:Type}{pre:Prop}{post:α→Prop}{out:α→SV}:mS np ids (some d) ⟨t,h⟩ K Z c (some (.rel α pre post out))=(pre∧(bif np then ∀ r,post r→K ⟨(d,ej 3 h.length (out r))::t,h++aB 3 (out r)⟩else False)):=(rfl)
@[go_sem] theorem KQ {c:Option HCon}{np:Bool}{ids:List Nat}{d:Nat}{s:SV}{ok:Bool}{x:Value}:mS np ids (some d) ⟨t,h⟩ K Z c (some (.may ok s x))=(bif np||dV 3 s then(ok=true→K ⟨(d,ej 3 h.length s)::t,h++aB 3 s⟩)∧(ok=false→Z x ⟨ungd t,h⟩)else False):=(rfl)
@[go_sem] theorem MR {ids:List Nat}{d:Nat}{s:SV}{h':List Ob}:yS ids (some d) ⟨t,h⟩ K Z (.ret s h')=K ⟨(d,ren (jV ids h.length) 3 s)::t,gA ids h.length h 0 h'⟩:=(rfl)
@[go_sem] theorem MS {ids:List Nat}{d:Nat}{s:SV}{h':List Ob}{g:Nat×Bool}:Br ids g (some d) ⟨t,h⟩ K Z (.ret s h')=K ⟨(d,.gd g.1 g.2 (ren (jV ids h.length) 3 s))::t,gA ids h.length h 0 h'⟩:=(rfl)
@[go_sem] theorem HW {ids:List Nat}{d:Nat}{o:HCon}{g:Nat×Bool}:qA ids ops g (some d) ⟨t,h⟩ K Z (some o)=((dz ops t ops.length g→o.pre∧∀ r,o.post r→Br ids g (some d) ⟨t,h⟩ K Z (o.res r))∧(gD ops t ops.length g→K ⟨(d,.gd g.1 g.2 .any)::t,h⟩)):=(rfl)
@[go_sem] theorem KR {c:Option HCon}{np:Bool}{ids:List Nat}{d:Nat}{s:SV}{g:Nat×Bool}{p:Prop}:sD np ids ops g (some d) ⟨t,h⟩ K Z c (some (.det p s))=((dz ops t ops.length g→p)∧(bif(np||dV 3 s)&&(aB 3 s).isEmpty then K ⟨(d,.gd g.1 g.2 s)::t,h⟩else False)):=(rfl)
@[go_sem] theorem KS {id:Nat}{d:Nat}{α:Type}{pre:Prop}{post:α→Prop}{res:α→Bool×Res}:yT id (some d) ⟨t,h⟩ K (some ⟨α,pre,post,res⟩)=(pre∧∀ r,post r→K ⟨(d,.b (res r).1)::t,bu h id (.ab (res r).2)⟩):=(rfl)
@[go_sem] theorem KT {id:Nat}{d:Nat}{α:Type}{pre:Prop}{post:α→Prop}{res:α→Bool×Res}{g:Nat×Bool}:xd id ops g (some d) ⟨t,h⟩ K (some ⟨α,pre,post,res⟩)=((dz ops t ops.length g→pre∧∀ r,post r→K ⟨(d,.gd g.1 g.2 (.b (res r).1))::t,bu h id (.ab (res r).2)⟩)∧(gD ops t ops.length g→K ⟨(d,.gd g.1 g.2 .any)::t,h⟩)):=(rfl)
@[go_sem] theorem P5 {K0:Prop}{d:Nat}{next:List Nat→List Up→St→Prop}{c a:Prop}{s:SV}{ups:List Up}{all:List Nat}:oD (some d) ⟨t,h⟩ next K0 (some ⟨c,a,s,ups,all⟩)=(c∧(a→next all ups ⟨(d,s)::t,aQ h ups⟩)):=(rfl)
@[go_sem] theorem P6 {K0:Prop}{d:Nat}{next:List Nat→List Up→St→Prop}{c a:Prop}{s:SV}{ups:List Up}{all:List Nat}{g:Nat×Bool}:mT ops g (some d) ⟨t,h⟩ next K0 (some ⟨c,a,s,ups,all⟩)=bif ups.isEmpty then(dz ops t ops.length g→c)∧next all [] ⟨(d,.gd g.1 g.2 s)::t,h⟩else False:=(rfl)
@[go_sem] theorem IY {s:SV}:fU G none ⟨t,h⟩ K Z (.val s)=K ⟨t,h⟩:=(rfl)
@[go_sem] theorem IZ {s:SV}{c:Prop}:fU G none ⟨t,h⟩ K Z (.chk c s)=(c∧K ⟨t,h⟩):=(rfl)
@[go_sem] theorem I0 {s:SV}{c:Prop}:fU G none ⟨t,h⟩ K Z (.asm c s)=(c→K ⟨t,h⟩):=(rfl)
@[go_sem] theorem HX {s:SV}:fU G none ⟨t,h⟩ K Z (.newr s)=K ⟨t,h⟩:=(rfl)
@[go_sem] theorem I1 {s:SV}{c a:Prop}{ups:List Up}:fU G none ⟨t,h⟩ K Z (.eff c a ups s)=(c∧(a→K ⟨t,aQ h ups⟩)):=(rfl)
@[go_sem] theorem I2 {s:SV}{g:Nat×Bool}:stepG G ops g none ⟨t,h⟩ K Z (.val s)=K ⟨t,h⟩:=(rfl)
@[go_sem] theorem I3 {s:SV}{g:Nat×Bool}{c:Prop}:stepG G ops g none ⟨t,h⟩ K Z (.chk c s)=((dz ops t ops.length g→c)∧K ⟨t,h⟩):=(rfl)
@[go_sem] theorem I4 {s:SV}{g:Nat×Bool}{c:Prop}:stepG G ops g none ⟨t,h⟩ K Z (.asm c s)=K ⟨t,h⟩:=(rfl)
@[go_sem] theorem HY {s:SV}{g:Nat×Bool}:stepG G ops g none ⟨t,h⟩ K Z (.newr s)=K ⟨t,h⟩:=(rfl)
@[go_sem] theorem I5 {s:SV}{g:Nat×Bool}{c a:Prop}{ups:List Up}:stepG G ops g none ⟨t,h⟩ K Z (.eff c a ups s)=((dz ops t ops.length g→c∧(a→K ⟨t,aQ h ups⟩))∧(gD ops t ops.length g→K ⟨t,h⟩)):=(rfl)
@[go_sem] theorem I6 {c:Option HCon}{np:Bool}{ids:List Nat}{s:SV}{p:Prop}:mS np ids none ⟨t,h⟩ K Z c (some (.det p s))=bif np||dV 3 s then(p∧K ⟨t,h++aB 3 s⟩)else o_ ids none ⟨t,h⟩ K Z c:=(rfl)
@[go_sem] theorem I7 {c:Option HCon}{np:Bool}{ids:List Nat}{α:Type}{pre:Prop}{post:α→Prop}{out:α→SV}:mS np ids none ⟨t,h⟩ K Z c (some (.rel α pre post out))=(pre∧(bif np then ∀ r,post r→K ⟨t,h++aB 3 (out r)⟩else False)):=(rfl)
@[go_sem] theorem I8 {c:Option HCon}{np:Bool}{ids:List Nat}{s:SV}{ok:Bool}{x:Value}:mS np ids none ⟨t,h⟩ K Z c (some (.may ok s x))=(bif np||dV 3 s then(ok=true→K ⟨t,h++aB 3 s⟩)∧(ok=false→Z x ⟨ungd t,h⟩)else False):=(rfl)
@[go_sem] theorem KU {ids:List Nat}{s:SV}{h':List Ob}:yS ids none ⟨t,h⟩ K Z (.ret s h')=K ⟨t,gA ids h.length h 0 h'⟩:=(rfl)
@[go_sem] theorem KV {ids:List Nat}{s:SV}{h':List Ob}{g:Nat×Bool}:Br ids g none ⟨t,h⟩ K Z (.ret s h')=K ⟨t,gA ids h.length h 0 h'⟩:=(rfl)
@[go_sem] theorem FX {ids:List Nat}{o:HCon}{g:Nat×Bool}:qA ids ops g none ⟨t,h⟩ K Z (some o)=((dz ops t ops.length g→o.pre∧∀ r,o.post r→Br ids g none ⟨t,h⟩ K Z (o.res r))∧(gD ops t ops.length g→K ⟨t,h⟩)):=(rfl)
@[go_sem] theorem I9 {c:Option HCon}{np:Bool}{ids:List Nat}{s:SV}{g:Nat×Bool}{p:Prop}:sD np ids ops g none ⟨t,h⟩ K Z c (some (.det p s))=((dz ops t ops.length g→p)∧(bif(np||dV 3 s)&&(aB 3 s).isEmpty then K ⟨t,h⟩else False)):=(rfl)
@[go_sem] theorem I_ {id:Nat}{α:Type}{pre:Prop}{post:α→Prop}{res:α→Bool×Res}:yT id none ⟨t,h⟩ K (some ⟨α,pre,post,res⟩)=(pre∧∀ r,post r→K ⟨t,bu h id (.ab (res r).2)⟩):=(rfl)
@[go_sem] theorem Ja {id:Nat}{α:Type}{pre:Prop}{post:α→Prop}{res:α→Bool×Res}{g:Nat×Bool}:xd id ops g none ⟨t,h⟩ K (some ⟨α,pre,post,res⟩)=((dz ops t ops.length g→pre∧∀ r,post r→K ⟨t,bu h id (.ab (res r).2)⟩)∧(gD ops t ops.length g→K ⟨t,h⟩)):=(rfl)
@[go_sem] theorem Ov {K0:Prop}{next:List Nat→List Up→St→Prop}{c a:Prop}{s:SV}{ups:List Up}{all:List Nat}:oD none ⟨t,h⟩ next K0 (some ⟨c,a,s,ups,all⟩)=(c∧(a→next all ups ⟨t,aQ h ups⟩)):=(rfl)
@[go_sem] theorem Ow {K0:Prop}{next:List Nat→List Up→St→Prop}{c a:Prop}{s:SV}{ups:List Up}{all:List Nat}{g:Nat×Bool}:mT ops g none ⟨t,h⟩ next K0 (some ⟨c,a,s,ups,all⟩)=bif ups.isEmpty then(dz ops t ops.length g→c)∧next all [] ⟨t,h⟩else False:=(rfl)
@[go_sem] theorem HZ {d:Option Nat}{next:List Nat→List Up→St→Prop}{p:Prop}:oD d st next p none=p:=(rfl)
@[go_sem] theorem H0 {d:Option Nat}{next:List Nat→List Up→St→Prop}{p:Prop}{g:Nat×Bool}:mT ops g d st next p none=p:=(rfl)
@[go_sem] theorem Jb {d:Option Nat}{f:FuncId}{args:List SV}:fU G d ⟨t,h⟩ K Z (.call f args)=mS (args.all (bU 3)) (reach h 64 (args.flatMap (dv 3)) []) d ⟨t,h⟩ K Z (G.o f (args.map (ren (inN (reach h 64 (args.flatMap (dv 3)) [])) 6)) (jW h (reach h 64 (args.flatMap (dv 3)) []))) (G.p f (args.map (du h 6))):=(rfl)
@[go_sem] theorem Jc {d:Option Nat}{f:FuncId}{args:List SV}{g:Nat×Bool}:stepG G ops g d ⟨t,h⟩ K Z (.call f args)=sD (args.all (bU 3)) (reach h 64 (args.flatMap (dv 3)) []) ops g d ⟨t,h⟩ K Z (G.o f (args.map (ren (inN (reach h 64 (args.flatMap (dv 3)) [])) 6)) (jW h (reach h 64 (args.flatMap (dv 3)) []))) (G.p f (args.map (du h 6))):=(rfl)
@[go_sem] theorem KW {d:Option Nat}{id:Nat}{args:List SV}:fU G d ⟨t,h⟩ K Z (.yld id args)=bif args.all (bU 3)then yT id d ⟨t,h⟩ K (vL G args (ag h id))else False:=(rfl)
@[go_sem] theorem KX {d:Option Nat}{id:Nat}{args:List SV}{g:Nat×Bool}:stepG G ops g d ⟨t,h⟩ K Z (.yld id args)=bif args.all (bU 3)then xd id ops g d ⟨t,h⟩ K (vL G args (ag h id))else False:=(rfl)
@[go_sem] theorem Ox {args:List SV}{r:Res}:vL G args (.ab r)=G.y args r:=(rfl)
@[go_sem] theorem KY {d:Option Nat}{id:Nat}:fU G d ⟨t,h⟩ K Z (.nxt id)=Ft id d ⟨t,h⟩ K (ag h id):=(rfl)
@[go_sem] theorem Oy {d:Option Nat}{id mid n:Nat}{left:List Nat}{cur:Option Nat}:Ft id d ⟨t,h⟩ K (.mi (some mid) n left cur)=CX id mid n left d ⟨t,h⟩ K (ag h mid):=(rfl)
@[go_sem] theorem Oz {d id mid n it:Nat}{left:List Nat}{kk vk:Tag}{l:List (kk.T×vk.T)}:CX id mid n left (some d) ⟨t,h⟩ K (.mp kk vk l (some (it,none)))=((it=id∧n=l.length)∧(left=[]→K ⟨(d,.tup [.v (.bool false)])::t,h⟩)∧∀ j,j∈left→K ⟨(d,.tup [.v (.bool true),svT kk (l.getD j (dq kk,dq vk)).1,svT vk (l.getD j (dq kk,dq vk)).2])::t,bu h id (.mi (some mid) n (left.erase j) (some j))⟩):=(rfl)
@[go_sem] theorem MT {id:Nat}:fo G h nx (.nxt id)=none:=(rfl)
@[go_sem] theorem MU {p:Bool→Prop}:fo G h nx (.amb p)=none:=(rfl)
@[go_sem] theorem KZ {d:Nat}{p:Bool→Prop}:fU G (some d) ⟨t,h⟩ K Z (.amb p)= ∀ b,p b→K ⟨(d,.v (.bool b))::t,h⟩:=(rfl)
@[go_sem] theorem K1 {d:Option Nat}{x:Value}:fU G d ⟨t,h⟩ K Z (.pan x)=Z x ⟨ungd t,h⟩:=(rfl)
@[go_sem] theorem K2 {c:Option HCon}{np:Bool}{ids:List Nat}{d:Option Nat}:mS np ids d ⟨t,h⟩ K Z c none=o_ ids d ⟨t,h⟩ K Z c:=(rfl)
@[go_sem] theorem Jd {ids:List Nat}{d:Option Nat}{o:HCon}:o_ ids d ⟨t,h⟩ K Z (some o)=(o.pre∧∀ r,o.post r→yS ids d ⟨t,h⟩ K Z (o.res r)):=(rfl)
@[go_sem] theorem MV {ids:List Nat}{d:Option Nat}{x:Value}{h':List Ob}:yS ids d ⟨t,h⟩ K Z (.pan x h')=Z x ⟨ungd t,gA ids h.length h 0 h'⟩:=(rfl)
@[go_sem] theorem MW {ids:List Nat}{d:Option Nat}{x:Value}{h':List Ob}{g:Nat×Bool}:Br ids g d ⟨t,h⟩ K Z (.pan x h')=Z x ⟨ungd t,gA ids h.length h 0 h'⟩:=(rfl)
@[go_sem] theorem K3 {c:Option HCon}{np:Bool}{ids:List Nat}{d:Option Nat}{g:Nat×Bool}:sD np ids ops g d ⟨t,h⟩ K Z c none=qA ids ops g d ⟨t,h⟩ K Z c:=(rfl)
@[go_sem] theorem MX {s:SV}:fo G h nx (.val s)=some ⟨True,True,s,[],[]⟩:=(rfl)
@[go_sem] theorem MY {s:SV}{c:Prop}:fo G h nx (.chk c s)=some ⟨c,True,s,[],[]⟩:=(rfl)
@[go_sem] theorem MZ {s:SV}{c:Prop}:fo G h nx (.asm c s)=some ⟨True,c,s,[],[]⟩:=(rfl)
@[go_sem] theorem K4 {s:SV}:fo G h nx (.newr s)=some ⟨True,True,s,[],[]⟩:=(rfl)
@[go_sem] theorem M0 {s:SV}{c a:Prop}{ups:List Up}:fo G h nx (.eff c a ups s)=some ⟨c,a,s,ups,[]⟩:=(rfl)
@[go_sem] theorem K5 {f:FuncId}{args:List SV}:fo G h nx (.call f args)=drC (args.all (bU 3)) (args.flatMap (eE h 6)) nx (G.p f (args.map (du h 6))):=(rfl)
@[go_sem] theorem M3 {id:Nat}{args:List SV}:fo G h nx (.yld id args)=none:=(rfl)
@[go_sem] theorem M4 {x:Value}:fo G h nx (.pan x)=none:=(rfl)
@[go_sem] theorem OA {np:Bool}{rd:List Nat}{s:SV}{p:Prop}:drC np rd nx (some (.det p s))=drR np rd nx p s (aB 3 s):=(rfl)
@[go_sem] theorem OB {np:Bool}{rd:List Nat}{s:SV}{p:Prop}:drR np rd nx p s []=bif np||dV 3 s then some ⟨p,True,s,[],rd⟩else none:=(rfl)
@[go_sem] theorem OC {np:Bool}{rd:List Nat}{s:SV}{p:Prop}{ob:Ob}:drR np rd nx p s [ob]=bif np||dV 3 s then some ⟨p,True,ej 3 nx s,[(nx,ob)],rd⟩else none:=(rfl)
@[go_sem] theorem OD {np:Bool}{rd:List Nat}{s:SV}{p:Prop}{o1 o2:Ob}{l:List Ob}:drR np rd nx p s (o1::o2::l)=none:=(rfl)
@[go_sem] theorem OE {np:Bool}{rd:List Nat}{α:Type}{pre:Prop}{post:α→Prop}{out:α→SV}:drC np rd nx (some (.rel α pre post out))=none:=(rfl)
@[go_sem] theorem OF {np:Bool}{rd:List Nat}{s:SV}{ok:Bool}{x:Value}:drC np rd nx (some (.may ok s x))=none:=(rfl)
@[go_sem] theorem M5 {np:Bool}{rd:List Nat}:drC np rd nx none=none:=(rfl)
@[go_sem] theorem K6 {b:Nat}{fps:List Fp}:km ops b fps=bif sB fps then True else HF ops b fps=true:=(rfl)
variable {g:Option (Nat×Bool)}
@[go_sem] theorem P7 {x:Operand}:val ⟨ts,ops,g,⟨t,h⟩,nx⟩ x=aY ops g (raw t x):=(rfl)
variable {cx:Cx}{x y a b:Operand}{ty n f:Nat}
@[go_sem] theorem M6:opS cx (.move x)=.val (val cx x):=(rfl)
@[go_sem] theorem Je:opS cx (.assign x)=.val (val cx x):=(rfl)
@[go_sem] theorem M7 {c:Operand}:opS ⟨ts,ops,g,⟨t,h⟩,nx⟩ (.pick c a b)=sm a b (aY ops g (raw t c)) (fE ops g c true (raw t a)) (fE ops g c false (raw t b)):=(rfl)
@[go_sem] theorem K7:opS ⟨ts,ops,g,⟨t,h⟩,nx⟩ (.alloc ty)=ax ts ty fun ti=>vF nx (some ti.zero):=(rfl)
@[go_sem] theorem OG:opS ⟨ts,ops,g,⟨t,h⟩,nx⟩ (.box ty x)=vF nx (iQ (aY ops g (raw t x))):=(rfl)
@[go_sem] theorem K8 {parts:List (Nat×Operand)}:opS ⟨ts,ops,g,⟨t,h⟩,nx⟩ (.build ty parts.toArray)=ax ts ty fun ti=>bif ti.isArr then ax ts ti.elem fun te=>yP (fT (fun i=>some (i*te.size,te.size)) ti.zero (dP ⟨ts,ops,g,⟨t,h⟩,nx⟩ parts))else bif ti.agg then yP (fT (fun i=>(nth ti.fields i).map fun f=>(f.1,f.2.1)) ti.zero (dP ⟨ts,ops,g,⟨t,h⟩,nx⟩ parts))else .bad:=(rfl)
@[go_sem] theorem DA {parts:List (Nat×Operand)}:opS ⟨ts,ops,g,⟨t,h⟩,nx⟩ (.buildSlice ty n parts.toArray)=ax ts ty fun ti=>ax ts ti.elem fun te=>t8 (t7 ty ops g) nx te (bsS ti te n (dP ⟨ts,ops,g,⟨t,h⟩,nx⟩ parts)):=(rfl)
@[go_sem] theorem M8:opS ⟨ts,ops,g,⟨t,h⟩,nx⟩ (.load ty a)=ax ts ty fun ti=>jp ti h (aY ops g (raw t a)):=(rfl)
@[go_sem] theorem K9:opS ⟨ts,ops,g,⟨t,h⟩,nx⟩ (.store ty a x)=ax ts ty fun ti=>jK ti.size nx h (aY ops g (raw t a)) (aY ops g (raw t x)):=(rfl)
@[go_sem] theorem FY:opS ⟨ts,ops,g,⟨t,h⟩,nx⟩ (.nilCheck x)=CA (aY ops g (raw t x)):=(rfl)
@[go_sem] theorem K_ {op:BinOp}:opS ⟨ts,ops,g,⟨t,h⟩,nx⟩ (.binOp op ty x y n)=vB ts op ty (aY ops g (raw t x)) (aY ops g (raw t y)):=(rfl)
@[go_sem] theorem M9 {op:UnOp}:opS ⟨ts,ops,g,⟨t,h⟩,nx⟩ (.unOp op ty x)=unS op (aY ops g (raw t x)):=(rfl)
@[go_sem] theorem H1:opS ⟨ts,ops,g,⟨t,h⟩,nx⟩ (.convert n ty x)=ax ts n fun _=>ax ts ty fun ti=>w6 ti.int (aY ops g (raw t x)):=(rfl)
@[go_sem] theorem FZ {fn:Fn}{first caps:List Operand}:opS cx (.makeFunc fn first.toArray caps.toArray)=w_ fn (bY cx first) (bY cx caps):=(rfl)
def H2 (k:SV):Option (Nat×Nat×Bool)→OR
 |some (o,n,_) =>bif Nat.ble 1 n then o6 o k else .bad
 |none=>.bad
@[go_sem] theorem Jf {k:SV}{o n:Nat}{q:Bool}:H2 k (some (o,n,q))=bif Nat.ble 1 n then o6 o k else .bad:=(rfl)
@[go_sem] theorem E1:opS ⟨ts,ops,g,⟨t,h⟩,nx⟩ (.fieldAddr ty x f)=ax ts ty fun ti=>H2 (aY ops g (raw t x)) (nth ti.fields f):=(rfl)
@[go_sem] theorem La:opS ⟨ts,ops,g,⟨t,h⟩,nx⟩ (.field ty x f)=ax ts ty fun ti=>kh (nth ti.fields f) (oZ (aY ops g (raw t x))):=(rfl)
@[go_sem] theorem E2:opS ⟨ts,ops,g,⟨t,h⟩,nx⟩ (.indexAddr ty x y)=ax ts ty fun ti=>ax ts ti.elem fun te=>d5 ti te.size h (aY ops g (raw t x)) (aY ops g (raw t y)):=(rfl)
@[go_sem] theorem Lb:opS ⟨ts,ops,g,⟨t,h⟩,nx⟩ (.panic x)=CJ (aY ops g (raw t x)):=(rfl)
@[go_sem] theorem AO:opS ⟨ts,ops,g,⟨t,h⟩,nx⟩ (.makeInterface ty x)=ax ts ty fun ti=>bif ti.iface then .bad else sq ty (aY ops g (raw t x)):=(rfl)
@[go_sem] theorem DB {ok:Bool}:opS ⟨ts,ops,g,⟨t,h⟩,nx⟩ (.typeAssert x n ty ok)=ax ts ty fun ti=>taS ty ok ti (aY ops g (raw t x)):=(rfl)
@[go_sem] theorem H3:opS ⟨ts,ops,g,⟨t,h⟩,nx⟩ (.extract x n)=CH n (aY ops g (raw t x)):=(rfl)
@[go_sem] theorem E3:opS ⟨ts,ops,g,⟨t,h⟩,nx⟩ (.makeSlice ty x y)=ax ts ty fun ti=>ax ts ti.elem fun te=>bif ti.isSlice then(bif te.isSlice then ax ts te.elem fun tr=>t_ nx te tr (aY ops g (raw t x)) (aY ops g (raw t y))else mkS nx te (aY ops g (raw t x)) (aY ops g (raw t y)))else .bad:=(rfl)
@[go_sem] theorem Lc {lo hi:Option Operand}:opS ⟨ts,ops,g,⟨t,h⟩,nx⟩ (.slice ty x lo hi none)=ax ts ty fun ti=>ax ts ti.elem fun te=>gC ti te.size nx h (lu ⟨ts,ops,g,⟨t,h⟩,nx⟩ lo) (lu ⟨ts,ops,g,⟨t,h⟩,nx⟩ hi) (uz hi&&w8 ops) (aY ops g (raw t x)):=(rfl)
@[go_sem] theorem H4:opS ⟨ts,ops,g,⟨t,h⟩,nx⟩ (.makeMap ty none)=ax ts ty fun ti=>mmR nx ti.mkt ti.mvt:=(rfl)
@[go_sem] theorem Jg {ok:Bool}:opS ⟨ts,ops,g,⟨t,h⟩,nx⟩ (.lookup ty x y ok)=ax ts ty fun ti=>kP ti h ok (aY ops g (raw t y)) (aY ops g (raw t x)):=(rfl)
@[go_sem] theorem E4:opS ⟨ts,ops,g,⟨t,h⟩,nx⟩ (.mapUpdate ty x y a)=ax ts ty fun ti=>rO ti h (aY ops g (raw t y)) (aY ops g (raw t a)) (aY ops g (raw t x)):=(rfl)
@[go_sem] theorem Jh:opS ⟨ts,ops,g,⟨t,h⟩,nx⟩ (.insert ty x y a)=ax ts ty fun ti=>rO ti h (aY ops g (raw t y)) (aY ops g (raw t a)) (aY ops g (raw t x)):=(rfl)
@[go_sem] theorem F0:opS ⟨ts,ops,g,⟨t,h⟩,nx⟩ (.mapEntry ty x y)=ax ts ty fun ti=>nX ti nx h (aY ops g (raw t y)) (aY ops g (raw t x)):=(rfl)
@[go_sem] theorem DC:opS ⟨ts,ops,g,⟨t,h⟩,nx⟩ (.entryStore ty x y a)=ax ts ty fun ti=>vI ti h (aY ops g (raw t a)) (aY ops g (raw t x)) (aY ops g (raw t y)):=(rfl)
@[go_sem] theorem M_ {args:List Operand}{tys:Array TypeId}:opS ⟨ts,ops,g,⟨t,h⟩,nx⟩ (.call ⟨.value x,args.toArray,tys⟩)=o7 (bY ⟨ts,ops,g,⟨t,h⟩,nx⟩ args) (aY ops g (raw t x)):=(rfl)
@[go_sem] theorem OH {args:List Operand}:opS ⟨ts,ops,g,⟨t,h⟩,nx⟩ (.call ⟨.builtin .len,args.toArray,[ty].toArray⟩)=ax ts ty fun ti=>lA ti h (bY ⟨ts,ops,g,⟨t,h⟩,nx⟩ args):=(rfl)
@[go_sem] theorem Ji {args:List Operand}:opS ⟨ts,ops,g,⟨t,h⟩,nx⟩ (.call ⟨.builtin .append,args.toArray,[ty,n].toArray⟩)=ax ts ty fun ti=>ax ts n fun ti2=>ax ts ti.elem fun te=>bif ti.isSlice&&ti2.isSlice then gO te nx h (bY ⟨ts,ops,g,⟨t,h⟩,nx⟩ args)else .bad:=(rfl)
@[go_sem] theorem Jj {args:List Operand}{tys:List TypeId}:opS ⟨ts,ops,g,⟨t,h⟩,nx⟩ (.call ⟨.builtin .delete,args.toArray,(ty::tys).toArray⟩)=ax ts ty fun ti=>oB ti h (bY ⟨ts,ops,g,⟨t,h⟩,nx⟩ args):=(rfl)
@[go_sem] theorem Ld {args:List Operand}:opS ⟨ts,ops,g,⟨t,h⟩,nx⟩ (.call ⟨.builtin .clear,args.toArray,[ty].toArray⟩)=ax ts ty fun ti=>ax ts ti.elem fun te=>oA ti te h (bY ⟨ts,ops,g,⟨t,h⟩,nx⟩ args):=(rfl)
@[go_sem] theorem OI {args:List Operand}{tys:Array TypeId}:opS cx (.call ⟨.builtin .min,args.toArray,tys⟩)=vG (bY cx args):=(rfl)
@[go_sem] theorem OJ {args:List Operand}{tys:Array TypeId}:opS cx (.call ⟨.builtin .max,args.toArray,tys⟩)=vH (bY cx args):=(rfl)
@[go_sem] theorem Le:opS ⟨ts,ops,g,⟨t,h⟩,nx⟩ (.range ty x)=ax ts ty fun ti=>sA ti nx h (aY ops g (raw t x)):=(rfl)
@[go_sem] theorem Na:opS ⟨ts,ops,g,⟨t,h⟩,nx⟩ (.next x false)=CR (aY ops g (raw t x)):=(rfl)
@[go_sem] theorem Lf:opS ⟨ts,ops,g,⟨t,h⟩,nx⟩ (.entry x)=rh h (aY ops g (raw t x)):=(rfl)
@[go_sem] theorem Lg:fpO ⟨ts,ops,g,⟨t,h⟩,nx⟩ (.range ty x)=(dy (aY ops g (raw t x)),[]):=(rfl)
@[go_sem] theorem Nb {s:Bool}:fpO cx (.next x s)=([],[]):=(rfl)
@[go_sem] theorem Lh:fpO ⟨ts,ops,g,⟨t,h⟩,nx⟩ (.entry x)=(dy (aY ops g (raw t x))++CU h (aY ops g (raw t x)),[]):=(rfl)
@[go_sem] theorem Nc:fpO ⟨ts,ops,g,⟨t,h⟩,nx⟩ (.load ty a)=(dy (aY ops g (raw t a)),[]):=(rfl)
@[go_sem] theorem Li:fpO ⟨ts,ops,g,⟨t,h⟩,nx⟩ (.store ty a x)=(dy (aY ops g (raw t a))++dy (aY ops g (raw t x)),[]):=(rfl)
@[go_sem] theorem E5:fpO ⟨ts,ops,g,⟨t,h⟩,nx⟩ (.indexAddr ty x y)=(dy (aY ops g (raw t x)),[]):=(rfl)
@[go_sem] theorem Lj {lo hi mx:Option Operand}:fpO ⟨ts,ops,g,⟨t,h⟩,nx⟩ (.slice ty x lo hi mx)=(dy (aY ops g (raw t x)),[]):=(rfl)
@[go_sem] theorem Jk {ok:Bool}:fpO ⟨ts,ops,g,⟨t,h⟩,nx⟩ (.lookup ty x y ok)=bif ok then(dy (aY ops g (raw t x)),[])else([],dy (aY ops g (raw t x))):=(rfl)
@[go_sem] theorem E6:fpO ⟨ts,ops,g,⟨t,h⟩,nx⟩ (.mapUpdate ty x y a)=(dy (aY ops g (raw t x)),[]):=(rfl)
@[go_sem] theorem Jl:fpO ⟨ts,ops,g,⟨t,h⟩,nx⟩ (.insert ty x y a)=(dy (aY ops g (raw t x)),[]):=(rfl)
@[go_sem] theorem F4:fpO ⟨ts,ops,g,⟨t,h⟩,nx⟩ (.mapEntry ty x y)=(dy (aY ops g (raw t x)),[]):=(rfl)
@[go_sem] theorem DD:fpO ⟨ts,ops,g,⟨t,h⟩,nx⟩ (.entryStore ty x y a)=(dy (aY ops g (raw t x)),[]):=(rfl)
@[go_sem] theorem OK {args:List Operand}{tys:Array TypeId}:fpO ⟨ts,ops,g,⟨t,h⟩,nx⟩ (.call ⟨.builtin .len,args.toArray,tys⟩)=(iR (bY ⟨ts,ops,g,⟨t,h⟩,nx⟩ args),[]):=(rfl)
@[go_sem] theorem Jm {args:List Operand}{tys:Array TypeId}:fpO ⟨ts,ops,g,⟨t,h⟩,nx⟩ (.call ⟨.builtin .append,args.toArray,tys⟩)=(iR (bY ⟨ts,ops,g,⟨t,h⟩,nx⟩ args),[]):=(rfl)
@[go_sem] theorem Jn {args:List Operand}{tys:Array TypeId}:fpO ⟨ts,ops,g,⟨t,h⟩,nx⟩ (.call ⟨.builtin .delete,args.toArray,tys⟩)=(iR (bY ⟨ts,ops,g,⟨t,h⟩,nx⟩ args),[]):=(rfl)
@[go_sem] theorem Lk {args:List Operand}{tys:Array TypeId}:fpO ⟨ts,ops,g,⟨t,h⟩,nx⟩ (.call ⟨.builtin .clear,args.toArray,tys⟩)=(iR (bY ⟨ts,ops,g,⟨t,h⟩,nx⟩ args),[]):=(rfl)
@[go_sem] theorem Nd:fpO cx (.move x)=([],[]):=(rfl)
@[go_sem] theorem Jo:fpO cx (.assign x)=([],[]):=(rfl)
@[go_sem] theorem Nf:fpO cx (.pick x a b)=([],[]):=(rfl)
@[go_sem] theorem Ll:fpO cx (.alloc ty)=([],[]):=(rfl)
@[go_sem] theorem OL:fpO cx (.box ty x)=([],[]):=(rfl)
@[go_sem] theorem Lm {parts:Array (Nat×Operand)}:fpO cx (.build ty parts)=([],[]):=(rfl)
@[go_sem] theorem DE {parts:Array (Nat×Operand)}:fpO cx (.buildSlice ty n parts)=([],[]):=(rfl)
@[go_sem] theorem F5:fpO cx (.nilCheck x)=([],[]):=(rfl)
@[go_sem] theorem Ln {op:BinOp}:fpO cx (.binOp op ty x y n)=([],[]):=(rfl)
@[go_sem] theorem Ng {op:UnOp}:fpO cx (.unOp op ty x)=([],[]):=(rfl)
@[go_sem] theorem H5:fpO cx (.convert n ty x)=([],[]):=(rfl)
@[go_sem] theorem F6 {fn:Fn}{first caps:Array Operand}:fpO cx (.makeFunc fn first caps)=([],[]):=(rfl)
@[go_sem] theorem E7:fpO cx (.fieldAddr ty x f)=([],[]):=(rfl)
@[go_sem] theorem Lo:fpO cx (.field ty x f)=([],[]):=(rfl)
@[go_sem] theorem Lp:fpO cx (.panic x)=([],[]):=(rfl)
@[go_sem] theorem AP:fpO cx (.makeInterface ty x)=([],[]):=(rfl)
@[go_sem] theorem DF {ok:Bool}:fpO cx (.typeAssert x n ty ok)=([],[]):=(rfl)
@[go_sem] theorem H6:fpO cx (.extract x n)=([],[]):=(rfl)
@[go_sem] theorem E8:fpO cx (.makeSlice ty x y)=([],[]):=(rfl)
@[go_sem] theorem H7 {o:Option Operand}:fpO cx (.makeMap ty o)=([],[]):=(rfl)
@[go_sem] theorem Nh {args:Array Operand}{tys:Array TypeId}:fpO cx (.call ⟨.value x,args,tys⟩)=([],[]):=(rfl)
@[go_sem] theorem OM {args:Array Operand}{tys:Array TypeId}:fpO cx (.call ⟨.builtin .min,args,tys⟩)=([],[]):=(rfl)
@[go_sem] theorem ON {args:Array Operand}{tys:Array TypeId}:fpO cx (.call ⟨.builtin .max,args,tys⟩)=([],[]):=(rfl)
@[go_sem] theorem Lq {k:TI→OR}:ax ts ty k=zC k (ts ty):=by unfold ax zC;cases ts ty <;>rfl
@[go_sem] theorem Jp {k:TI→OR}{i:TI}:zC k (some i)=k i:=(rfl)
@[go_sem] theorem H8 {c:Operand}{j:Nat}{w want:Bool}{s:SV}:fE ops g c want (.gd j w s)=bif qt w want&&uy ops j c then s else aY ops g (.gd j w s):=(rfl)
@[go_sem] theorem F7 {c:Operand}{want:Bool}:fE ops g c want .any=.any:=(rfl)
@[go_sem] theorem Jq {c:Operand}{want:Bool}{v:Value}:fE ops g c want (.v v)=.v v:=(rfl)
@[go_sem] theorem OO {a b:Operand}{x y z:Bool}:sm a b (.v (.bool x)) (.v (.bool y)) (.v (.bool z))=bif qx a then .val (.b (x||z))else bif nC b then .val (.b (x&&y))else .bad:=(rfl)
@[go_sem] theorem OP {a b:Operand}{x z:Bool}:sm a b (.v (.bool x)) .any (.v (.bool z))=.chk (x=false) (.b z):=(rfl)
@[go_sem] theorem OQ {a b:Operand}{x y:Bool}:sm a b (.v (.bool x)) (.v (.bool y)) .any=.chk (x=true) (.b y):=(rfl)
@[go_sem] theorem Lr {st:St}:mU ops st=cleanF (bif ops.any (·.guard.isSome)then ⟨ungd st.t,st.h⟩else st):=(rfl)
@[go_sem] theorem Ls {t:List (Nat×SV)}{h:List Ob}:cleanF ⟨t,h⟩=bif gE h then ⟨yU h t,og h⟩else ⟨t,h⟩:=(rfl)
@[go_sem] theorem OS {n:Nat}:raw t (.tmp n)=lk n t:=(rfl)
@[go_sem] theorem Lt {x:Value}:raw t (.const x)=.v x:=(rfl)
@[go_sem] theorem Ni {f:FuncId}:raw t (.func f)=.fn f [] []:=(rfl)
@[go_sem] theorem P8 {n:Nat}{s:SV}{r:List (Nat×SV)}:lk n ((n,s)::r)=s:=by simp[lk]
@[go_sem] theorem OT {n a:Nat}{s:SV}{r:List (Nat×SV)}:lk n ((a,s)::r)=bif Nat.beq a n then s else lk n r:=(rfl)
@[go_sem] theorem P9 {n:Nat}:lk n []=.any:=(rfl)
@[go_sem] theorem OU {x:Value}:aY ops g (.v x)=(.v x):=(rfl)
@[go_sem] theorem Lu:aY ops g .any=.any:=(rfl)
@[go_sem] theorem Lv {a b:Nat}:aY ops g (.ptr a b)=(.ptr a b):=(rfl)
@[go_sem] theorem Nj {a:Nat}:aY ops g (.os a)=(.os a):=(rfl)
@[go_sem] theorem Nk {a b:Nat}{c d:Int}:aY ops g (.vw a b c d)=(.vw a b c d):=(rfl)
@[go_sem] theorem Nl:aY ops g .e0=.e0:=(rfl)
@[go_sem] theorem Nm {a b d:Nat}{c:Int}:aY ops g (.rp a b c d)=(.rp a b c d):=(rfl)
@[go_sem] theorem Nn {a:Nat}{i:Int}:aY ops g (.gr a i)=(.gr a i):=(rfl)
@[go_sem] theorem No {a b d:Nat}{i j:Int}:aY ops g (.gp a b i j d)=(.gp a b i j d):=(rfl)
@[go_sem] theorem Np {a:List SV}{b:Nat}:aY ops g (.ep a b)=(.ep a b):=(rfl)
@[go_sem] theorem Nq {k:Tag}{l:List k.T}:aY ops g (.rs k l)=(.rs k l):=(rfl)
@[go_sem] theorem Nr {l:List SV}:aY ops g (.ls l)=(.ls l):=(rfl)
@[go_sem] theorem Ns {k k2:Tag}{l:List (k.T×k2.T)}:aY ops g (.rm k k2 l)=(.rm k k2 l):=(rfl)
@[go_sem] theorem Lw {l:List SV}:aY ops g (.agg l)=(.agg l):=(rfl)
@[go_sem] theorem Lx {l:List SV}:aY ops g (.tup l)=(.tup l):=(rfl)
@[go_sem] theorem Nt {f:FuncId}{l m:List SV}:aY ops g (.fn f l m)=(.fn f l m):=(rfl)
@[go_sem] theorem Nu {j:Nat}{b:Bool}{s:SV}:aY ops g (.gd j b s)=bif je ops ops.length g j b then s else .any:=(rfl)
end
section
variable {ti te:TI}{esz nx id id2 off:Nat}{h:List Ob}{k k2:Tag}{i j n c:Int}{kk kj:IntKind}{lo hi:Option SV}{key s:SV}{ok:Bool}{ts:Tis}{op:BinOp}{ty:Nat}
@[go_sem] theorem one_1 {α:Type}{x:α}:one [x]=true:=(rfl)
@[go_sem] theorem one_2 {α:Type}{x y:α}{l:List α}:one (x::y::l)=false:=(rfl)
@[go_sem] theorem OV {g:Option (Nat×Bool)}{l:List k.T}:t8 g nx te (.newr (.rs k l))=bif(te.agg||one l)&&noG g then .eff True True [(nx,.row k l)] (.os nx)else .newr (.rs k l):=(rfl)
@[go_sem] theorem OW {g:Option (Nat×Bool)}{l:List SV}:t8 g nx te (.newr (.ls l))=.newr (.ls l):=(rfl)
@[go_sem] theorem OX {g:Option (Nat×Bool)}:t8 g nx te (.newr .e0)=.newr .e0:=(rfl)
@[go_sem] theorem Nv {a b:Int}:vB ts op ty (.v (.int kk a)) (.v (.int kj b))=bif o4 op kk kj then lw op kk a b else .bad:=(rfl)
@[go_sem] theorem OY {l:List k.T}:vB ts op ty (.rs k l) (.v (.slice none 0 0))=ax ts ty fun ti=>bif ti.isSlice then Fc op (l=[])else .bad:=(rfl)
@[go_sem] theorem Nw {a b:ByteArray}:vB ts op ty (.v (.string a)) (.v (.string b))=ax ts ty fun ti=>bif Nat.beq ti.sc 2 then Ak op a b else .bad:=(rfl)
@[go_sem] theorem Ly {a b:Bool}:vB ts op ty (.v (.bool a)) (.v (.bool b))=ax ts ty fun ti=>bif Nat.beq ti.sc 3 then vA op a b else .bad:=(rfl)
@[go_sem] theorem Nx {a b:List SV}:vB ts op ty (.agg a) (.agg b)=ax ts ty fun ti=>eqT op a b ti:=(rfl)
@[go_sem] theorem Lz {l:List k.T}:d5 ti esz h (.rs k l) (.v (.int kk i))=bif ti.isSlice&&Nat.beq esz (aa k)then .chk (0≤i∧i< (l.length:Int)) (.ep (cellsOf k (l.getD i.toNat (dq k))) 0)else .bad:=(rfl)
@[go_sem] theorem LA:d5 ti esz h (.os id) (.v (.int kk i))=bif ti.isSlice then so esz id i (ag h id)else .bad:=(rfl)
@[go_sem] theorem LB:d5 ti esz h (.gr id i) (.v (.int kk j))=bif ti.isSlice then vC esz id i j (ag h id)else .bad:=(rfl)
@[go_sem] theorem LD {l:List SV}:d5 ti esz h (.ls l) (.v (.int kk i))=bif ti.isSlice&&Nat.beq esz 1 then yI i (nth l i.toNat)else .bad:=(rfl)
@[go_sem] theorem Jr:d5 ti esz h (.ptr id off) (.v (.int kk i))=bif ti.isArr then .chk (0≤i∧i< (ti.len:Int)) (.ptr id (off+i.toNat*esz))else .bad:=(rfl)
@[go_sem] theorem LF {l:List SV}:d5 ti esz h (.ep l off) (.v (.int kk i))=bif ti.isArr then .chk (0≤i∧i< (ti.len:Int)) (.ep l (off+i.toNat*esz))else .bad:=(rfl)
@[go_sem] theorem LG {z:Nat}:d5 ti esz h (.rp z id i off) (.v (.int kk j))=bif ti.isArr then .chk (0≤j∧j< (ti.len:Int)) (.rp z id i (off+j.toNat*esz))else .bad:=(rfl)
@[go_sem] theorem OZ {l:List k.T}:lA ti h [.rs k l]=bif ti.isSlice then .asm (l.length≤cp) (.i l.length)else .bad:=(rfl)
@[go_sem] theorem Ny:lA ti h [.v (.slice none 0 0)]=bif ti.isSlice then .val (.i 0)else .bad:=(rfl)
@[go_sem] theorem O0:lA ti h [.e0]=bif ti.isSlice then .val (.i 0)else .bad:=(rfl)
@[go_sem] theorem O1:lA ti h [.os id]=bif ti.isSlice then CI (ag h id)else Fg ti.mkt (ag h id):=(rfl)
@[go_sem] theorem O2:lA ti h [.gr id i]=bif ti.isSlice then Fe i (ag h id)else .bad:=(rfl)
@[go_sem] theorem O3 {l:List SV}:lA ti h [.ls l]=bif ti.isSlice then .val (.i (sz l))else .bad:=(rfl)
@[go_sem] theorem LH {l:List k.T}{vq:Bool}:gC ti esz nx h lo hi vq (.rs k l)=bif ti.isSlice&&Nat.beq esz (aa k)then CO k l (bnd 0 lo) (bnd l.length hi)else .bad:=(rfl)
@[go_sem] theorem LI {vq:Bool}:gC ti esz nx h lo hi vq (.os id)=bif ti.isSlice then(bif vq then Ap esz id lo (ag h id)else CP esz id nx lo hi (ag h id))else .bad:=(rfl)
@[go_sem] theorem Js {n:Nat}{a:Int}:CQ esz id n (some a)=.chk (0≤a∧a≤(n:Int)) (.vw esz id a n):=(rfl)
@[go_sem] theorem Nz {d:Int}:bnd d none=some d:=(rfl)
@[go_sem] theorem NA {d:Int}:bnd d (some (.v (.int kk n)))=some n:=(rfl)
@[go_sem] theorem LJ {l:List k.T}{a b:Int}:CO k l (some a) (some b)=.chk (0≤a∧a≤b∧b≤(l.length:Int)) (.rs k ((l.take b.toNat).drop a.toNat)):=(rfl)
@[go_sem] theorem LK {l:List k.T}{a b:Int}:Fj id nx k l (some a) (some b)=.eff (0≤a∧a≤b∧b≤(l.length:Int)) True [(id,.dead),(nx,.row k ((l.take b.toNat).drop a.toNat))] (.os nx):=(rfl)
@[go_sem] theorem O4:mkS nx te (.v (.int .i64 n)) (.v (.int .i64 c))=mkT nx n c te te.tag:=(rfl)
@[go_sem] theorem O5:gO te nx h [.os id,.ls [.os id2]]=bif Nat.beq te.size 1&&Nat.beq (sz te.zero) 1&&Nat.ble 1 te.bytes&& !(Nat.beq id id2)then rg nx te.bytes h id2 [(id,.dead)] (ag h id)else .bad:=(rfl)
@[go_sem] theorem O6:gO te nx h [.v (.slice none 0 0),.ls [.os id2]]=bif Nat.beq te.size 1&&Nat.beq (sz te.zero) 1&&Nat.ble 1 te.bytes then CL nx te.bytes id2 (ag h id2)else .bad:=(rfl)
@[go_sem] theorem LL {l:List k.T}:gO te nx h [.os id,(.rs k l)]=mR te nx [(id,.dead)] h (.rs k l) (ag h id):=(rfl)
@[go_sem] theorem LM {l:List k.T}:gO te nx h [.v (.slice none 0 0),(.rs k l)]=ma te nx h (.rs k l) te.tag:=(rfl)
@[go_sem] theorem LN {l:List k.T}:gO te nx h [.e0,(.rs k l)]=ma te nx h (.rs k l) te.tag:=(rfl)
@[go_sem] theorem Jt:gO te nx h [.os id,(.v (.slice none 0 0))]=mR te nx [(id,.dead)] h (.v (.slice none 0 0)) (ag h id):=(rfl)
@[go_sem] theorem Ju:gO te nx h [.v (.slice none 0 0),(.v (.slice none 0 0))]=ma te nx h (.v (.slice none 0 0)) te.tag:=(rfl)
@[go_sem] theorem Jv:gO te nx h [.e0,(.v (.slice none 0 0))]=ma te nx h (.v (.slice none 0 0)) te.tag:=(rfl)
@[go_sem] theorem LO:gO te nx h [.os id,.e0]=mR te nx [(id,.dead)] h .e0 (ag h id):=(rfl)
@[go_sem] theorem LP:gO te nx h [.v (.slice none 0 0),.e0]=ma te nx h .e0 te.tag:=(rfl)
@[go_sem] theorem LQ:gO te nx h [.e0,.e0]=ma te nx h .e0 te.tag:=(rfl)
@[go_sem] theorem LR {s:Nat}{lo hi:Int}:gO te nx h [.os id,(.vw s id2 lo hi)]=mR te nx [(id,.dead)] h (.vw s id2 lo hi) (ag h id):=(rfl)
@[go_sem] theorem LS {s:Nat}{lo hi:Int}:gO te nx h [.v (.slice none 0 0),(.vw s id2 lo hi)]=ma te nx h (.vw s id2 lo hi) te.tag:=(rfl)
@[go_sem] theorem LU {s:Nat}{lo hi:Int}:gO te nx h [.e0,(.vw s id2 lo hi)]=ma te nx h (.vw s id2 lo hi) te.tag:=(rfl)
@[go_sem] theorem LV:gO te nx h [.os id,(.os id2)]=mR te nx [(id,.dead)] h (.os id2) (ag h id):=(rfl)
@[go_sem] theorem LW:gO te nx h [.v (.slice none 0 0),(.os id2)]=ma te nx h (.os id2) te.tag:=(rfl)
@[go_sem] theorem LX:gO te nx h [.e0,(.os id2)]=ma te nx h (.os id2) te.tag:=(rfl)
@[go_sem] theorem Jw {l:List k.T}:o8 k k l=some l:=by simp[o8]
@[go_sem] theorem O7 {l:List k2.T}:mQ k h (.rs k2 l)=o8 k k2 l:=(rfl)
@[go_sem] theorem NB:mQ k h (.v (.slice none 0 0))=some []:=(rfl)
@[go_sem] theorem O8:mQ k h .e0=some []:=(rfl)
@[go_sem] theorem O9:mQ k h (.os id)=Bm k (ag h id):=(rfl)
@[go_sem] theorem O_ {s:Nat}{lo hi:Int}:mQ k h (.vw s id lo hi)=Fh k s lo hi (ag h id):=(rfl)
@[go_sem] theorem NC:kP ti h ok key (.os id)=xa ti key ok (ag h id):=(rfl)
@[go_sem] theorem ND {l:List (k.T×k2.T)}:kP ti h ok key (.rm k k2 l)=bif fm k ti.mkt&&fm k2 ti.mvt then sw k k2 l ok (unT k key)else .bad:=(rfl)
@[go_sem] theorem LY:kP ti h ok key (.v (.map none))=Aq key ok ti.mkt ti.mvt:=(rfl)
@[go_sem] theorem Pa {v:SV}:vI ti h v (.os id) (.os id2)=Fk ti id id2 v (ag h id):=(rfl)
@[go_sem] theorem NE:qw (.v (.int kk n))=some [(.v (.int kk n))]:=(rfl)
@[go_sem] theorem NF {b:ByteArray}:qw (.v (.string b))=some [.v (.string b)]:=(rfl)
@[go_sem] theorem LZ {b:Bool}:qw (.v (.bool b))=some [.v (.bool b)]:=(rfl)
@[go_sem] theorem Pb {l:List k.T}:qw (.rs k l)=some [.rs k l]:=(rfl)
@[go_sem] theorem Pc {l:List (k.T×k2.T)}:qw (.rm k k2 l)=some [.rm k k2 l]:=(rfl)
@[go_sem] theorem Pd:qw .e0=some [.e0]:=(rfl)
@[go_sem] theorem NG:qw (.v (.slice none 0 0))=some [.v (.slice none 0 0)]:=(rfl)
@[go_sem] theorem L1:qw (.v (.map none))=some [.v (.map none)]:=(rfl)
@[go_sem] theorem L2 {t':TypeId}{y:Value}:taS ty ok ti (.v (.iface t' y))=bif ti.iface then .bad else bif Nat.beq t' ty then(bif ok then .val (.tup [.v y,.b true])else .val (.v y))else .bad:=(rfl)
end
@[go_sem] theorem nbeq (a b:Nat):Nat.beq a b=(a==b):=by
 rw[Bool.eq_iff_iff];simp
@[go_sem] theorem nble (a b:Nat):Nat.ble a b=decide (a≤b):=by
 rw[Bool.eq_iff_iff];simp
@[go_sem] theorem nblt (a b:Nat):Nat.blt a b=decide (a<b):=by
 rw[Bool.eq_iff_iff];simp[Nat.blt];omega
section
variable {σ:Type}{D:σ→St}{I:σ→Prop}{m:σ→Nat}{x:σ}{id n0:Nat}{Q:Ex→St→Prop}{st:St}{rs:List ResultVar}{post:SV→Prop}{ts:Tis}{pp:Value→Prop}{C:HCon}{md:Bool}
@[go_sem] theorem E9:mf D I m n0 x id Q .normal st= ∃ y js,I y∧m y<m x∧n0≤(D y).h.length∧Sub js n0 st (D y):=(rfl)
@[go_sem] theorem H9 {j:Nat}:mf D I m n0 x id Q (.exit j) st=bif Nat.beq j id then Q .normal st else Q (.exit j) st:=(rfl)
@[go_sem] theorem Jx:mf D I m n0 x id Q .ret st=Q .ret st:=(rfl)
@[go_sem] theorem Jy {v:Value}:mf D I m n0 x id Q (.pan v) st=Q (.pan v) st:=(rfl)
@[go_sem] theorem E_ {s:SV}:db post (some s)=post s:=(rfl)
@[go_sem] theorem L3:xf md rs ts post pp .ret st=db post (oE md rs ts st):=(rfl)
@[go_sem] theorem F8:xf md rs ts post pp .normal st=db post (oE md rs ts st):=(rfl)
@[go_sem] theorem L4 {x:Value}:xf md rs ts post pp (.pan x) st=pp x:=(rfl)
@[go_sem] theorem F9:xg n0 rs ts C .normal st=pb n0 C (iS (g_ ts st rs)) st.h:=(rfl)
@[go_sem] theorem L5:xg n0 rs ts C .ret st=pb n0 C (iS (g_ ts st rs)) st.h:=(rfl)
@[go_sem] theorem L6 {v:Value}:xg n0 rs ts C (.pan v) st= ∃ r h' js,C.post r∧C.res r=.pan v h'∧n0≤h'.length∧Sub js n0 ⟨[],st.h⟩ ⟨[],h'⟩:=(rfl)
@[go_sem] theorem Jz {s:SV}{h:List Ob}:pb n0 C (some s) h= ∃ r s' h' js,C.post r∧C.res r=.ret s' h'∧n0≤h'.length∧Sub js n0 ⟨[(0,s)],h⟩ ⟨[(0,s')],h'⟩:=(rfl)
@[go_sem] theorem P_ {js:List Nat}{t t2:List (Nat×SV)}{h h2:List Ob}:Sub js n0 ⟨t,h⟩ ⟨t2,h2⟩=((uniq (gi js h2)=true∧qB 0 js n0=true∧js.all (fun j=>Nat.blt j h.length)=true)∧Bv (rQ js) h2.length t t2∧ua (rQ js) h2.length h js h2):=(rfl)
end
attribute [go_sem] decide_true decide_false cond_true cond_false List.any_cons List.any_nil Option.isSome_none Option.isSome_some Bool.or_false Bool.false_or Bool.or_true Bool.true_or Bool.and_true Bool.true_and Bool.and_false Bool.false_and Bool.not_true Bool.not_false List.length_cons List.length_nil List.map_cons List.map_nil List.flatMap_cons List.flatMap_nil List.append_nil List.isEmpty_nil List.isEmpty_cons Option.map_some Option.map_none Option.bind_some Option.getD_some Option.getD_none Option.toList_some Option.toList_none List.cons_append List.nil_append Nat.zero_add Nat.add_zero Nat.zero_mul Nat.mul_one Nat.one_mul
 je qt nth uy lw o4 Fc Ak vA eqV oz eqL eqO eqT Im kN oZ unS lz jp o5 sn qy o6 so vC yI fT jU rN kh yK vD yL yM yN jJ jK sp Cz vE t_ Fi CN gE Au og Iz yU CY Iy CA w6 vF yP CB lsS bsT bsU MF osL osV CG Fd HE bsG bsS noG CH o7 CI Fg Fe vG vH CJ sq w_ Bm Fh Ap CK mR sr rg CL ma mkT CP sw fm uz noE xa Aq It Iu rO Bn Bo nX Iv Fk Iw Ix oB Is oA Ao mmR zsO svT rf unT ip Mw
 dz gD oC Fo At CV frz Fq Bp du ungd bU dV aB jM ej dv CW reach rP nY o9 ren mb yR inN jW jV fq gA ag bu aQ da dy vJ iR eE Bq kQ MA MB CC Al CD MC Io yQ Am w7 CE Ip w8 MD Iq CF Ir ME An t7 fpU sB iQ cut w5 sz jI sj dO cellsOf iq lp cJ fit ln toI toB toS toF fnV qq r9 sa qr sb vv sd se wU re wV kO Ag wW oX uw sf ux Ah
 at0 mkE wX nW qs dN oW dq aa qx nC bY dP lu Fu Bt xe g_ iS MH pa mV oi rj HG mc uniq Bu oE Fl sA CR CS Ar rh CU CT Option.bind_some yJ l9 List.all_cons List.all_nil rank wT Bv ua vM sG unp b9 mB gB gi qB rQ
end Go.Sx
end
section
namespace Go.Sx
open Go.RowKit
universe u
variable {P:Program}
theorem Tis.ok_leaf {n:Nat}{x:TI}(h:cB P n=some x):Tis.ok (fun t=>bif Nat.beq t n then some x else none) P:=fun t i hi=>by
 change (bif Nat.beq t n then some x else none)=some i at hi
 cases hb:Nat.beq t n with
 |false=>rw[hb]at hi;cases hi
 |true=>rw[hb]at hi;cases hi;rw[Nat.eq_of_beq_eq_true hb];exact h
theorem Tis.ok_node {n:Nat}{f g:Tis}(hf:Tis.ok f P)(hg:Tis.ok g P):Tis.ok (fun t=>bif Nat.ble t n then f t else g t) P:=fun t i hi=>by
 change (bif Nat.ble t n then f t else g t)=some i at hi
 cases hb:Nat.ble t n with
 |false=>rw[hb]at hi;exact hg t i hi
 |true=>rw[hb]at hi;exact hf t i hi
def ae (f:Func):Code:=match f.body with|some c=>c|none=>.skip
def L0:mA:=fun _ _=>none
@[go_sem] theorem Pe {n:Nat}{st:St}:L0 n st=none:=(rfl)
def mkP:List (Nat×(List SV→Option Con))→FuncId→List SV→Option Con
 | [],_,_=>none
 |(n,C)::r,f,l=>bif Nat.beq n f then C l else mkP r f l
def mkO:List (Nat×(List SV→List Ob→Option HCon))→FuncId→List SV→List Ob→Option HCon
 | [],_,_,_=>none
 |(n,C)::r,f,l,h=>bif Nat.beq n f then C l h else mkO r f l h
theorem zD:∀ (ps:List (Nat×(List SV→Option Con))),(∀ x∈ps,FnOk P x.1 x.2)→∀ f,FnOk P f (mkP ps f)
 | [],_,f=>⟨fun l c h=>(by cases h),fun l c h=>(by cases h)⟩
 |(n,C)::r,h,f=>by
  have ih:=zD r (fun x hx=>h x (by simp[hx])) f
  cases hb:Nat.beq n f with
  |false=>
   have e:mkP ((n,C)::r) f=mkP r f:=by funext l;simp only[mkP,hb,cond_false]
   rw[e];exact ih
  |true=>
   have e:mkP ((n,C)::r) f=C:=by funext l;simp only[mkP,hb,cond_true]
   rw[e,←Nat.eq_of_beq_eq_true hb];exact h (n,C) (by simp)
theorem zF:∀ (os:List (Nat×(List SV→List Ob→Option HCon))),(∀ x∈os,FnOkO P x.1 x.2)→∀ f,FnOkO P f (mkO os f)
 | [],_,f=>⟨fun l h c hc=>(by cases hc),fun l h c hc=>(by cases hc)⟩
 |(n,C)::r,h,f=>by
  have ih:=zF r (fun x hx=>h x (by simp[hx])) f
  cases hb:Nat.beq n f with
  |false=>
   have e:mkO ((n,C)::r) f=mkO r f:=by funext l h;simp only[mkO,hb,cond_false]
   rw[e];exact ih
  |true=>
   have e:mkO ((n,C)::r) f=C:=by funext l h;simp only[mkO,hb,cond_true]
   rw[e,←Nat.eq_of_beq_eq_true hb];exact h (n,C) (by simp)
def noY:List SV→Res→Option YCon:=fun _ _=>none
theorem JA:YOk P noY:=fun l r c h=>(by cases h)
def mkG (ps:List (Nat×(List SV→Option Con)))(os:List (Nat×(List SV→List Ob→Option HCon))):Cons:=⟨mkP ps,mkO os,noY⟩
theorem a_ {ps:List (Nat×(List SV→Option Con))}{os:List (Nat×(List SV→List Ob→Option HCon))}(h1:∀ x∈ps,FnOk P x.1 x.2)(h2:∀ x∈os,FnOkO P x.1 x.2):ConsOk P (mkG ps os):=⟨zD ps h1,zF os h2,JA⟩
@[go_sem] theorem mkG_p {ps:List (Nat×(List SV→Option Con))}{os:List (Nat×(List SV→List Ob→Option HCon))}:(mkG ps os).p=mkP ps:=(rfl)
@[go_sem] theorem mkG_o {ps:List (Nat×(List SV→Option Con))}{os:List (Nat×(List SV→List Ob→Option HCon))}:(mkG ps os).o=mkO os:=(rfl)
@[go_sem] theorem Pf {f:FuncId}{l:List SV}:mkP [] f l=none:=(rfl)
@[go_sem] theorem NH {n f:Nat}{C:List SV→Option Con}{r:List (Nat×(List SV→Option Con))}{l:List SV}:mkP ((n,C)::r) f l=bif Nat.beq n f then C l else mkP r f l:=(rfl)
@[go_sem] theorem Pg {f:FuncId}{l:List SV}{h:List Ob}:mkO [] f l h=none:=(rfl)
@[go_sem] theorem NI {n f:Nat}{C:List SV→List Ob→Option HCon}{r:List (Nat×(List SV→List Ob→Option HCon))}{l:List SV}{h:List Ob}:mkO ((n,C)::r) f l h=bif Nat.beq n f then C l h else mkO r f l h:=(rfl)
section
variable {α:Type u}
def pI (k:Int→List SV→Option α):List SV→Option α
 | .v (.int .i64 n)::r=>k n r
 |_=>none
def pU (k:Int→List SV→Option α):List SV→Option α
 | .v (.int .u64 n)::r=>k n r
 |_=>none
def pB (k:Bool→List SV→Option α):List SV→Option α
 | .v (.bool b)::r=>k b r
 |_=>none
def pS (k:ByteArray→List SV→Option α):List SV→Option α
 | .v (.string b)::r=>k b r
 |_=>none
def uZ (t:Tag)(k:List t.T→List SV→Option α)(r:List SV)(k':Tag)(l:List k'.T):Option α:=if h:k'=t then k (h▸l) r else none
def pR (t:Tag)(k:List t.T→List SV→Option α):List SV→Option α
 | .rs k' l::r=>uZ t k r k' l
 |_=>none
def pDo {T:Type}(k:T→List SV→Option α)(r:List SV):Option T→Option α
 |some x=>k x r
 |none=>none
def pD (t:Tag)(k:t.T→List SV→Option α):List SV→Option α
 | .agg l::r=>pDo k r (lp t l)
 |_=>none
def pX (t:Tag)(k:t.T→List SV→Option α):List SV→Option α
 | .ep l 0::r=>pDo k r (lp t l)
 |_=>none
def DG (t t2:Tag)(k:List (t.T×t2.T)→List SV→Option α)(r:List SV)(k' k2:Tag)(l:List (k'.T×k2.T)):Option α:=if h:k'=t∧k2=t2 then k (h.1▸h.2▸l) r else none
def pM (t t2:Tag)(k:List (t.T×t2.T)→List SV→Option α):List SV→Option α
 | .rm k' k2 l::r=>DG t t2 k r k' k2 l
 |_=>none
def pE (c:α):List SV→Option α
 | [] =>some c
 |_=>none
variable {k:Int→List SV→Option α}{kb:Bool→List SV→Option α}{ks:ByteArray→List SV→Option α}{r:List SV}{c:α}{t:Tag}
@[go_sem] theorem Ph {n:Int}:pI k (.v (.int .i64 n)::r)=k n r:=(rfl)
@[go_sem] theorem Pi {n:Int}:pU k (.v (.int .u64 n)::r)=k n r:=(rfl)
@[go_sem] theorem Pj {b:Bool}:pB kb (.v (.bool b)::r)=kb b r:=(rfl)
@[go_sem] theorem Pm {b:ByteArray}:pS ks (.v (.string b)::r)=ks b r:=(rfl)
@[go_sem] theorem Pn {kr:List t.T→List SV→Option α}{l:List t.T}:pR t kr (.rs t l::r)=kr l r:=by simp[pR,uZ]
@[go_sem] theorem Po {kd:t.T→List SV→Option α}{l:List SV}:pD t kd (.agg l::r)=pDo kd r (lp t l):=(rfl)
@[go_sem] theorem Pp {kd:t.T→List SV→Option α}{l:List SV}:pX t kd (.ep l 0::r)=pDo kd r (lp t l):=(rfl)
@[go_sem] theorem Pq {t2:Tag}{kr:List (t.T×t2.T)→List SV→Option α}{l:List (t.T×t2.T)}:pM t t2 kr (.rm t t2 l::r)=kr l r:=by simp[pM,DG]
@[go_sem] theorem NJ {T:Type}{kd:T→List SV→Option α}{x:T}:pDo kd r (some x)=kd x r:=(rfl)
@[go_sem] theorem Qa:pE c []=some c:=(rfl)
theorem JB {l:List SV}{c:α}(h:pI k l=some c):∃ n r,l=.v (.int .i64 n)::r∧k n r=some c:=by
 unfold pI at h;split at h
 ·exact⟨_,_,rfl,h⟩
 ·cases h
theorem wi {l:List SV}{c:α}(h:pU k l=some c):∃ n r,l=.v (.int .u64 n)::r∧k n r=some c:=by
 unfold pU at h;split at h
 ·exact⟨_,_,rfl,h⟩
 ·cases h
theorem JD {l:List SV}{c:α}(h:pB kb l=some c):∃ n r,l=.v (.bool n)::r∧kb n r=some c:=by
 unfold pB at h;split at h
 ·exact⟨_,_,rfl,h⟩
 ·cases h
theorem zG {l:List SV}{c c':α}(h:pE c' l=some c):l=[]∧c=c':=by
 unfold pE at h;split at h
 ·cases h;exact⟨rfl,rfl⟩
 ·cases h
theorem JE {kr:List t.T→List SV→Option α}{l:List SV}{c:α}(h:pR t kr l=some c):∃ x r,l=.rs t x::r∧kr x r=some c:=by
 unfold pR at h;split at h
 ·rename_i k' l' r
  unfold uZ at h
  split at h
  ·rename_i e;subst e;exact⟨_,_,rfl,h⟩
  ·cases h
 ·cases h
theorem JF {kd:t.T→List SV→Option α}{l:List SV}{c:α}(h:pX t kd l=some c):∃ x r,l=.ep (cellsOf t x) 0::r∧kd x r=some c:=by
 unfold pX at h;split at h
 ·rename_i l' r
  cases he:lp t l' with
  |none=>rw[he]at h;cases h
  |some x=>rw[he]at h;exact⟨x,r,by rw[jw he],h⟩
 ·cases h
theorem DH {t2:Tag}{kr:List (t.T×t2.T)→List SV→Option α}{l:List SV}{c:α}(h:pM t t2 kr l=some c):∃ x r,l=.rm t t2 x::r∧kr x r=some c:=by
 unfold pM at h;split at h
 ·rename_i k' k2 l' r
  unfold DG at h
  split at h
  ·rename_i e;obtain⟨rfl,rfl⟩:=e;exact⟨_,_,rfl,h⟩
  ·cases h
 ·cases h
theorem JG {kd:t.T→List SV→Option α}{l:List SV}{c:α}(h:pD t kd l=some c):∃ x r,l=.agg (cellsOf t x)::r∧kd x r=some c:=by
 unfold pD at h;split at h
 ·rename_i l' r
  cases he:lp t l' with
  |none=>rw[he]at h;cases h
  |some x=>rw[he]at h;exact⟨x,r,by rw[jw he],h⟩
 ·cases h
end
section
variable {F:Nat→Prop}{own:Own}{w:World}
theorem tq {p:Pk}{s:SV}{v:Value}(h:Rel F own w s v):Rel F own w (qs p s) v:=by
 unfold qs;split
 ·cases h with
  |agg h0 h1=>
   refine .agg (by rw[pf];exact h0) fun j s hj=>?_
   obtain⟨s0,e1,e2| ⟨k,e2⟩⟩:=lC _ _ _ _ hj
   ·subst e2;exact h1 j _ e1
   ·subst e2;exact iw (h1 j _ e1)
 ·exact iw h
 ·exact iw h
 ·exact h
theorem tt:∀ (ps:List Pk) (l:List SV),(dN ps l).length=l.length
 | [],l=>by simp[dN]
 |k::ks,[] =>by simp[dN]
 |k::ks,s::r=>by simp[dN,tt ks r]
theorem tu:∀ (ps:List Pk) (l:List SV) (j:Nat) (s:SV),(dN ps l)[j]? =some s→∃ s0,l[j]? =some s0∧(s=s0∨∃ p,s=qs p s0)
 | [],l,j,s,h=>⟨s,by simpa[dN]using h,.inl rfl⟩
 |k::ks,[],j,s,h=>by simp[dN]at h
 |k::ks,x::r,0,s,h=>by simp[dN]at h;exact⟨x,rfl,.inr ⟨k,h.symm⟩⟩
 |k::ks,x::r,j+1,s,h=>by simp[dN]at h;simpa using tu ks r j s h
theorem FnOk.norm {f:FuncId}{C:List SV→Option Con}(ps:List Pk)(h:FnOk P f C):FnOk P f (fun l=>C (dN ps l)):=
 ⟨fun l c hc=>h.enter _ c hc,fun l c hc hpre F w vs hF hvs=>h.calls _ c hc hpre F w vs hF ⟨by rw[tt];exact hvs.1,fun j s hj=>by
  obtain⟨s0,e1,e2| ⟨p,e2⟩⟩:=tu _ _ _ _ hj
  ·subst e2;exact hvs.2 j _ e1
  ·subst e2;exact tq (hvs.2 j _ e1)⟩⟩
end
attribute [go_sem] cO ia ir
attribute [go_sem] lp
def noH {α:Type 1}:List Ob→Option α→Option α
 | [],x=>x
 |_,_=>none
@[go_sem] theorem Pr {α:Type 1}{x:Option α}:noH [] x=x:=(rfl)
theorem F_ {α:Type 1}{h:List Ob}{x:Option α}{c:α}(hh:noH h x=some c):h=[]∧x=some c:=by
 cases h with
 |nil=>exact⟨rfl,hh⟩
 |cons=>cases hh
theorem bK {n:Int}(h1: -9223372036854775808≤n)(h2:n<9223372036854775808):IntKind.i64.wrap n=n:=by
 simp[IntKind.wrap,IntKind.bits,IntKind.signed];omega
end Go.Sx
end
section
namespace Go.Sx
open Go.RowKit
def ay {ρ σ:Type}(step:Nat→σ→ρ⊕σ):Nat→Nat→σ→ρ⊕σ
 |0,_,s=>.inr s
 |n+1,i,s=>match step i s with
  | .inl r=>.inl r
  | .inr s'=>ay step n (i+1) s'
def eT {ρ σ τ:Type}(step:τ→σ→ρ⊕σ):List τ→σ→ρ⊕σ
 | [],s=>.inr s
 |x::l,s=>match step x s with
  | .inl r=>.inl r
  | .inr s'=>eT step l s'
theorem u0 {ρ σ τ:Type}(f:τ→σ→ρ⊕σ)(d:τ):∀ (l pre:List τ) (s:σ),ay (fun i s=>f ((pre++l).getD i d) s) l.length pre.length s=eT f l s
 | [],_,_=>rfl
 |x::l,pre,s=>by
  simp only[List.length_cons,ay,eT]
  have e:(pre++x::l).getD pre.length d=x:=by simp
  rw[e]
  cases f x s with
  |inl r=>rfl
  |inr s'=>
   have:=u0 f d l (pre++[x]) s'
   simpa using this
theorem wj {ρ σ τ:Type}(f:τ→σ→ρ⊕σ)(d:τ)(l:List τ)(s:σ):ay (fun i s=>f (l.getD i d) s) l.length 0 s=eT f l s:=u0 f d l [] s
def LC {ρ σ:Type}(pre:Prop)(run:ρ⊕σ)(exE:ρ→Ex)(outE:ρ→St)(outN:σ→St):LCon:=
 {α:=ρ⊕σ,pre:=pre,post:=fun r=>r=run,ex:=fun r=>match r with| .inl x=>exE x| .inr _=>.normal,out:=fun r=>match r with| .inl x=>outE x| .inr s=>outN s}
@[go_sem] theorem xS {ρ σ:Type}{pre:Prop}{run:ρ⊕σ}{exE:ρ→Ex}{outE:ρ→St}{outN:σ→St}{Q:Ex→St→Prop}:
  kn Q (some (LC pre run exE outE outN))=(pre∧(∀ x,run=.inl x→Q (exE x) (outE x))∧∀ s,run=.inr s→Q .normal (outN s)):=by
 apply propext
 constructor
 ·rintro⟨h1,h2⟩
  exact⟨h1,fun x hx=>h2 (.inl x) hx.symm,fun s hs=>h2 (.inr s) hs.symm⟩
 ·rintro⟨h1,h2,h3⟩
  refine⟨h1,fun r hr=>?_⟩
  cases r with
  |inl x=>exact h2 x hr.symm
  |inr s=>exact h3 s hr.symm
section
variable {P:Program}{ρ σ:Type}
def xT (step:Nat→σ→ρ⊕σ)(n:Nat)(exE:ρ→Ex)(outE:ρ→St)(outN:σ→St)(n0 k:Nat)(s:σ)(e:Ex)(st:St):Prop:=
 (∃ js,n≤k∧e=.normal∧n0≤(outN s).h.length∧Sub js n0 st (outN s))∨∃ x js,k<n∧step k s=.inl x∧exE x=e∧n0≤(outE x).h.length∧Sub js n0 st (outE x)
def wl (step:Nat→σ→ρ⊕σ)(n:Nat)(exE:ρ→Ex)(outE:ρ→St)(outN:σ→St)(D:Nat→σ→St)(J:Nat→σ→Prop)(n0 id k:Nat)(s:σ):Ex→St→Prop
 | .normal,st=>k<n∧∃ s' js,step k s=.inr s'∧J (k+1) s'∧n0≤(D (k+1) s').h.length∧Sub js n0 st (D (k+1) s')
 | .exit j,st=>bif Nat.beq j id then xT step n exE outE outN n0 k s .normal st else xT step n exE outE outN n0 k s (.exit j) st
 | .ret,st=>xT step n exE outE outN n0 k s .ret st
 | .pan x,st=>xT step n exE outE outN n0 k s (.pan x) st
variable {step:Nat→σ→ρ⊕σ}{n n0 id k j:Nat}{exE:ρ→Ex}{outE:ρ→St}{outN:σ→St}{D:Nat→σ→St}{J:Nat→σ→Prop}{s:σ}{st:St}{x:Value}
@[go_sem] theorem Fa:wl step n exE outE outN D J n0 id k s .normal st=(k<n∧∃ s' js,step k s=.inr s'∧J (k+1) s'∧n0≤(D (k+1) s').h.length∧Sub js n0 st (D (k+1) s')):=(rfl)
@[go_sem] theorem H_:wl step n exE outE outN D J n0 id k s (.exit j) st=bif Nat.beq j id then xT step n exE outE outN n0 k s .normal st else xT step n exE outE outN n0 k s (.exit j) st:=(rfl)
@[go_sem] theorem JH:wl step n exE outE outN D J n0 id k s .ret st=xT step n exE outE outN n0 k s .ret st:=(rfl)
@[go_sem] theorem JI:wl step n exE outE outN D J n0 id k s (.pan x) st=xT step n exE outE outN n0 k s (.pan x) st:=(rfl)
end
end Go.Sx
end
section
namespace Go.Sx
open Go.RowKit
def itY (items:List (List SV))(r:Nat→Res):List SV→Res→Option YCon:=fun args x=>
 some { α:=Bool,pre:=x=r x.n∧1≤x.n∧items[x.n - 1]? =some args,post:=fun _=>True,res:=fun b=>(b,r (if b then x.n+1 else 0))}
def zH (P:Program)(f:FuncId)(mk:SV→List SV)(hs:List Ob)(items:List (List SV)):Prop:=
 (∀ (args:Array Value) (w:World),(callFunc f args).run P w=.ok (.enter f args) w)∧
 ∀ r:Nat→Res,(∀ k,(r k).n=k)→YOk P (itY items r)→∀ (F:Nat→Prop) (own:Own) (w:World) (vs:Array Value),Hp F own w (.ab (r 1)::hs)→RelL F own w (mk (.os 0)) vs→
  Calls P f vs w (fun e w'=>∃ u own' j h',e=.returned u∧(j=0∨j=items.length+1)∧Hp F own' w' (.ab (r j)::h')∧Fr { w:=w,own:=own} own' w')
theorem Ia {P:Program}{f:FuncId}{mk:SV→List SV}{hs:List Ob}{items:List (List SV)}
  (h:∀ r:Nat→Res,(∀ k,(r k).n=k)→YOk P (itY items r)→∃ C,FnOkO P f C∧∃ c,C (mk (.os 0)) (.ab (r 1)::hs)=some c∧c.pre∧∀ x,c.post x→∃ s j h',c.res x=.ret s (.ab (r j)::h')∧(j=0∨j=items.length+1))
  (he:∀ (args:Array Value) (w:World),(callFunc f args).run P w=.ok (.enter f args) w):zH P f mk hs items:=by
 refine⟨he,fun r hr hy F own w vs hp hvs=>?_⟩
 obtain⟨C,hC,c,h1,h2,h3⟩:=h r hr hy
 refine(hC.calls _ _ c h1 h2 F own w vs hp hvs).mono ?_
 rintro e w' ⟨x,own',q1,q2⟩
 obtain⟨s,j,h',k1,k2⟩:=h3 x q1
 rw[k1]at q2
 obtain⟨⟨u,rfl,_⟩,q3,q4,_⟩:=q2
 exact⟨u,own',j,h',rfl,k2,q3,q4⟩
def xU (pre:Prop)(r:Nat→Res)(m:Nat):YCon:= { α:=Bool,pre:=pre,post:=fun _=>True,res:=fun b=>(b,r (if b then m else 0))}
theorem DI {items:List (List SV)}{r:Nat→Res}(hr:∀ k,(r k).n=k)(k:Nat)(args:List SV):itY items r args (r (k+1))=some (xU (items[k]? =some args) r (k+2)):=by
 unfold itY xU
 simp[hr]
section
variable {id m:Nat}{t:List (Nat×SV)}{h:List Ob}{K:St→Prop}{pre:Prop}{r:Nat→Res}{ops:List Oper}{g:Nat×Bool}
theorem two {p:Bool→Prop}:(∀ b,p b)=(p true∧p false):=propext ⟨fun h=>⟨h true,h false⟩,fun h b=>by
 cases b
 ·exact h.2
 ·exact h.1⟩
@[go_sem] theorem Ps {d:Nat}:yT id (some d) ⟨t,h⟩ K (some (xU pre r m))=(pre∧K ⟨(d,.b true)::t,bu h id (.ab (r m))⟩∧K ⟨(d,.b false)::t,bu h id (.ab (r 0))⟩):=by
 show(pre∧∀ b:Bool,True→K ⟨(d,.b b)::t,bu h id (.ab (r (if b then m else 0)))⟩)=_
 simp only[true_imp_iff]
 rw[two];rfl
@[go_sem] theorem Pt {d:Nat}:xd id ops g (some d) ⟨t,h⟩ K (some (xU pre r m))=((dz ops t ops.length g→pre∧K ⟨(d,.gd g.1 g.2 (.b true))::t,bu h id (.ab (r m))⟩∧K ⟨(d,.gd g.1 g.2 (.b false))::t,bu h id (.ab (r 0))⟩)∧(gD ops t ops.length g→K ⟨(d,.gd g.1 g.2 .any)::t,h⟩)):=by
 show((dz ops t ops.length g→pre∧∀ b:Bool,True→K ⟨(d,.gd g.1 g.2 (.b b))::t,bu h id (.ab (r (if b then m else 0)))⟩)∧(gD ops t ops.length g→K ⟨(d,.gd g.1 g.2 .any)::t,h⟩))=_
 simp only[true_imp_iff]
 rw[two];rfl
end
def Ga (own:Own)(n:Nat):List Nat:=(List.range n).flatMap fun id=>match own id with|some hd=>hd.bs|none=>[]
theorem tv {own:Own}{n:Nat}(hd:∀ id hd,own id=some hd→id<n)(b:Nat):b∈Ga own n↔∃ id hd,own id=some hd∧b∈hd.bs:=by
 unfold Ga
 rw[List.mem_flatMap]
 constructor
 ·rintro⟨id,_,h⟩
  cases ho:own id with
  |none=>rw[ho]at h;cases h
  |some hd=>rw[ho]at h;exact⟨id,hd,ho,h⟩
 ·rintro⟨id,hdd,ho,h⟩
  exact⟨id,List.mem_range.2 (hd id hdd ho),by rw[ho];exact h⟩
section
variable {P:Program}{w0:Bs}{ts:Tis}{G:Cons}{L:mA}{N:Nat}
def Fw (F:Nat→Prop)(l:Nat)(w:World)(b:Nat):Prop:=(F b∧b<w.heap.size)∨b=l
structure LRec where
 l:Nat
 fn:FuncId
 tmps:Array Value
 ps:Array Tmp
 assign:Code
 body:Code
 D:Nat
def LRec.obj (x:LRec)(s:LoopState)(p:Option Code):Obj:=.loop { state:=s,pending:=p,fn:=x.fn,tmps:=x.tmps,params:=x.ps,assign:=x.assign,body:=x.body,defers:=x.D}
structure Pack (x:LRec)(T:List (Nat×SV))(ce:Own)(n0:Nat)(H:List Ob)(o:Obj)(own':Own)(F:Nat→Prop)(bs:List Nat)(w:World):Prop where
 hp:Hp (Fw F x.l w) own' w H
 slots:∀ t,Rel (Fw F x.l w) own' w (lk t T) (x.tmps.getD t undef)
 bs:∀ b,b∈bs↔b=x.l∨∃ id hd,own' id=some hd∧b∈hd.bs
 ids:∀ id hd,ce id=some hd→∃ hd',own' id=some hd'∧hd.like hd'
 nl:¬F x.l
 rcd:w.heap[x.l]? =some o
 le:n0≤H.length
theorem Pack.loc {x:LRec}{T:List (Nat×SV)}{ce:Own}{n0:Nat}{H:List Ob}{o:Obj}{own':Own}{F F':Nat→Prop}{bs:List Nat}{w w':World}(h:Pack x T ce n0 H o own' F bs w)(hsz:w.heap.size≤w'.heap.size)
  (hb:∀ b,b<w.heap.size→¬F b→w'.heap[b]? =w.heap[b]?) (hF:∀ b,b<w.heap.size→F' b→F b):Pack x T ce n0 H o own' F' bs w':=by
 have hl:=jf h.rcd
 have hc:Carries (Fw F x.l w) own' w (Fw F' x.l w') own' w':=⟨fun _ hd e=>⟨hd,e,.refl _⟩,fun b hbl hn=>⟨fun ho=>hn (ho.imp (fun q=>q.imp (fun⟨q1,_⟩ =>⟨hF b hbl q1,hbl⟩) (fun e=>e)) (fun e=>e)),hb b hbl fun hf=>hn (.inl (.inl ⟨hf,hbl⟩))⟩⟩
 have hob:∀ id hd b,own' id=some hd→b∈hd.bs→w'.heap[b]? =w.heap[b]?:=fun id hd b e hm=>hb b (h.hp.lt id hd b e hm) fun hf=>h.hp.apart id hd b e hm (.inl ⟨hf,h.hp.lt id hd b e hm⟩)
 refine⟨⟨h.hp.dom,fun b hbf=>?_,fun id hd b e hm hbf=>?_,h.hp.inj,fun id hd b e hm=>Nat.lt_of_lt_of_le (h.hp.lt id hd b e hm) hsz,fun id hdd=>?_⟩,fun t=>(h.slots t).carry hc,h.bs,h.ids,fun hf=>h.nl (hF _ hl hf),by rw[hb _ hl h.nl];exact h.rcd,h.le⟩
 ·rcases hbf with⟨_,q⟩ |rfl
  ·exact q
  ·omega
 ·have hlt:=h.hp.lt id hd b e hm
  rcases hbf with⟨q,_⟩ |q
  ·exact h.hp.apart id hd b e hm (.inl ⟨hF b hlt q,hlt⟩)
  ·exact h.hp.apart id hd b e hm (.inr q)
 ·obtain⟨hd,e1,e2⟩:=h.hp.obs id hdd
  exact⟨hd,e1,e2.carry hc hsz fun b hm=>hob id hd b e1 hm⟩
def psT:List Nat→List SV→List (Nat×SV)
 |p::ps,s::r=>(p,s)::psT ps r
 |_,_=>[]
def itQ {σ:Type}(T:List (Nat×SV))(Hx:σ→List Ob)(I:Nat→σ→Prop)(S:Ex→σ→Prop)(n0 k:Nat):Ex→St→Prop
 | .normal,st=>∃ y js,I (k+1) y∧n0≤(Hx y).length∧Sub js n0 ⟨T,st.h⟩ ⟨T,Hx y⟩
 | .exit j,st=>∃ y js,S (.exit j) y∧n0≤(Hx y).length∧Sub js n0 ⟨T,st.h⟩ ⟨T,Hx y⟩
 | .ret,st=>∃ y js,S .ret y∧n0≤(Hx y).length∧Sub js n0 ⟨T,st.h⟩ ⟨T,Hx y⟩
 | .pan _,_=>False
def zI:Ex→Option Code
 | .exit j=>some (.exit j)
 | .ret=>some .ret
 |_=>none
def itR {σ:Type}(x:LRec)(T:List (Nat×SV))(ce:Own)(n0:Nat)(Hx:σ→List Ob)(I:Nat→σ→Prop)(S:Ex→σ→Prop):Nat→Res
 |0=>{ yv:=.func (.yield x.l) #[] #[],n:=0,R:=fun F bs w=>∃ e y own',S e y∧(zI e).isSome=true∧Pack x T ce n0 (Hx y) (x.obj .done (zI e)) own' F bs w,loc:=fun F F' bs w w' ⟨e,y,own',h0,h1,h2⟩ hsz hb hF=>⟨e,y,own',h0,h1,h2.loc hsz hb hF⟩}
 |k+1=>{ yv:=.func (.yield x.l) #[] #[],n:=k+1,R:=fun F bs w=>∃ y own',I k y∧Pack x T ce n0 (Hx y) (x.obj .ready none) own' F bs w,loc:=fun F F' bs w w' ⟨y,own',h0,h2⟩ hsz hb hF=>⟨y,own',h0,h2.loc hsz hb hF⟩}
theorem Ib {σ:Type}{x:LRec}{T:List (Nat×SV)}{ce:Own}{n0:Nat}{Hx:σ→List Ob}{I:Nat→σ→Prop}{S:Ex→σ→Prop}:∀ k,(itR x T ce n0 Hx I S k).n=k∧(itR x T ce n0 Hx I S k).yv=.func (.yield x.l) #[] #[]
 |0=>⟨rfl,rfl⟩
 |_+1=>⟨rfl,rfl⟩
theorem DJ:∀ (ps:List Nat) (args:List SV) (T:List (Nat×SV)) (tmps:Array Value) (vs:List Value) (t:Nat) {F:Nat→Prop} {own:Own} {w:World},ps.Nodup→(∀ p∈ps,p<tmps.size)→args.length=ps.length→vs.length=ps.length→
  (∀ (j:Nat) (s:SV) (v:Value),args[j]? =some s→vs[j]? =some v→Rel F own w s v)→Rel F own w (lk t T) (tmps.getD t undef)→Rel F own w (lk t (psT ps args++T)) (((ps.zip vs).foldl (fun tmps (t,a) =>tmps.setIfInBounds t a) tmps).getD t undef)
 | [],args,T,tmps,vs,t,_,_,_,_,_,ha,_,_,hT=>by
  cases args with
  |nil=>exact hT
  |cons=>simp at ha
 |p::ps,[],T,tmps,vs,t,_,_,_,_,_,ha,_,_,_=>by simp at ha
 |p::ps,s::args,T,tmps,[],t,_,_,_,_,_,_,hv,_,_=>by simp at hv
 |p::ps,s::args,T,tmps,v::vs,t,F,own,w,hn,hp,ha,hv,hr,hT=>by
  rw[List.nodup_cons]at hn
  have hother:∀ (l:List (Nat×Value)) (tm:Array Value),(∀ x∈l,x.1≠p)→(l.foldl (fun tmps (t,a) =>tmps.setIfInBounds t a) tm).getD p undef=tm.getD p undef:=by
   intro l
   induction l with
   |nil=>intro tm _;rfl
   |cons y r ih=>
    intro tm hy
    simp only[List.foldl_cons]
    rw[ih _ fun x hx=>hy x (by simp[hx])]
    simp only[Array.getD_eq_getD_getElem?,Array.getElem?_setIfInBounds]
    rw[if_neg (hy y (by simp))]
  have hlkp:∀ (ps2:List Nat) (as2:List SV),p ∉ ps2→lk p (psT ps2 as2++T)=lk p T:=by
   intro ps2
   induction ps2 with
   |nil=>intro as2 _;cases as2 <;>rfl
   |cons q r ih=>
    intro as2 hq
    cases as2 with
    |nil=>rfl
    |cons a as2=>
     simp only[List.mem_cons,not_or]at hq
     simp only[psT,List.cons_append]
     rw[iZ,if_neg (fun e=>hq.1 e.symm)]
     exact ih as2 hq.2
  simp only[List.zip_cons_cons,List.foldl_cons,psT,List.cons_append]
  rw[iZ]
  by_cases ht:p=t
  ·subst ht
   rw[if_pos rfl,hother _ _ fun x hx=>by
    have:=List.of_mem_zip hx
    exact fun e=>hn.1 (e▸this.1)]
   simp only[Array.getD_eq_getD_getElem?,Array.getElem?_setIfInBounds]
   simp only[if_true]
   rw[if_pos (hp p (by simp))]
   exact hr 0 s v rfl rfl
  ·rw[if_neg ht]
   refine DJ ps args T (tmps.setIfInBounds p v) vs t hn.2 (fun q hq=>by simpa using hp q (by simp[hq])) (by simpa using ha) (by simpa using hv) (fun j s v h1 h2=>hr (j+1) s v (by simpa using h1) (by simpa using h2)) ?_
   simp only[Array.getD_eq_getD_getElem?,Array.getElem?_setIfInBounds]
   rw[if_neg ht]
   simpa[Array.getD_eq_getD_getElem?]using hT
theorem B6 (l:List (Nat×Value)):∀ (tm:Array Value),(l.foldl (fun tmps (t,a) =>tmps.setIfInBounds t a) tm).size=tm.size:=by
 induction l with
 |nil=>intro tm;rfl
 |cons y r ih=>intro tm;simp only[List.foldl_cons];rw[ih];simp
theorem JJ (hm:P.follows .mixedOrders=true)(hts:ts.ok P)(hG:ConsOk P G){σ:Type}{x:LRec}{T:List (Nat×SV)}{ce:Own}{n0:Nat}{Hx:σ→List Ob}{I:Nat→σ→Prop}{S:Ex→σ→Prop}{items:List (List SV)}
  (hsz:x.tmps.size=N) (hn0:∀ id hd,ce id=some hd→id<n0) (hpn:x.ps.toList.Nodup) (hpN:∀ p∈x.ps.toList,p<N) (hca:cd N x.assign=true) (hcb:cd N x.body=true)
  (hround:∀ k y args,items[k]? =some args→I k y→args.length=x.ps.size∧∃ L Qx,(∀ l,aw P (some l) N L x.assign)∧(∀ l,aw P (some l) N L x.body)∧(∀ e st,Qx e st→itQ T Hx I S n0 k e st)∧exec ts G L x.assign ⟨psT x.ps.toList args++T,Hx y⟩ (fun e st1=>e=.normal∧exec ts G L x.body st1 Qx)):
  YOk P (itY items (itR x T ce n0 Hx I S)):=by
 intro args rr c hc hpre F bs w vs hR hF hbs hvs
 simp only[itY,Option.some.injEq]at hc
 subst hc
 obtain⟨h1,h2,h3⟩:=hpre
 generalize hk:rr.n=kk at h1 h2 h3
 obtain⟨k,rfl⟩:∃ k,kk=k+1:=⟨kk - 1,by omega⟩
 simp only[Nat.add_sub_cancel]at h3
 subst h1
 obtain⟨y,own',hI,pk⟩:=hR
 obtain⟨hal,L,Qx,hla,hlb,hQx,hex⟩:=hround k y args h3 hI
 have hvl:vs.size=x.ps.size:=by rw[hvs.1];exact hal
 have hl:=jf pk.rcd
 right
 have hpfs:∀ b,Fw F x.l w b→b<w.heap.size:=fun b hb=>pk.hp.foreign b hb
 refine⟨x.l,x.fn,(x.ps.zip vs).foldl (fun tmps (t,a) =>tmps.setIfInBounds t a) x.tmps,x.assign,x.body,?_,roundIn_of_wpIn trivial ?_⟩
 ·show(BQ (.func (.yield x.l) #[] #[]) vs).run P w=_
  have hy:=run_yield (P:=P) (w:=w) (l:=x.l) (args:=vs) pk.rcd hvl
  unfold BQ
  simp[Deferred.ofValue,invoke,hy,go_sem]
 ·
  generalize htm:(x.ps.zip vs).foldl (fun tmps (t,a) =>tmps.setIfInBounds t a) x.tmps=tmps'
  have hFw:∀ b,F b→Fw F x.l w b:=fun b hb=>.inl ⟨hb,hF b hb⟩
  have hargs:RelL (Fw F x.l w) own' w args vs:=⟨hvs.1,fun j s hj=>(hvs.2 j s hj).over (i0 (hvs.2 j s hj)) fun b hb ho=>hb (by
   left
   rcases ho with(⟨q,_⟩ |q) | ⟨id,hd,e,hm⟩
   ·exact .inl q
   ·exact .inr ((pk.bs b).2 (.inl q))
   ·exact .inr ((pk.bs b).2 (.inr ⟨id,hd,e,hm⟩)))⟩
  have hstart:StRel (Fw F x.l w) { w:=w,own:=own'} N own' ⟨psT x.ps.toList args++T,Hx y⟩ { tmps:=tmps',defers:=[]} w:=by
   refine⟨?_,Dfr.nil,pk.hp,Fr.refl { w:=w,own:=own'},fun t=>?_⟩
   ·rw[←htm,←Array.foldl_toList,B6];exact hsz
   ·rw[←htm,←Array.foldl_toList,Array.toList_zip]
    refine DJ x.ps.toList args T x.tmps vs.toList t hpn (fun p hp=>by rw[hsz];exact hpN p hp) (by simpa using hal) (by simpa using hvl) (fun j s v h1 h2=>?_) (pk.slots t)
    have:=hargs.2 j s h1
    have e:vs.getD j undef=v:=by rw[Array.getElem?_toList]at h2;simp[Array.getD_eq_getD_getElem?,h2]
    rwa[e]at this
  refine wpIn_mono (jY (ro:=some x.l) (nd:=0) hm hts hG x.assign hca (hla x.l) _ _ _ hex own' _ w hstart) ?_
  intro e a1 w1 hq
  cases e with
  |normal=>
   obtain⟨F1,own1,st1,hF1,hst1,_,hex1⟩:=hq
   have hl1:F1 x.l:=hF1 _ (.inr rfl)
   have hno1:∀ id hd,own' id=some hd→x.l ∉ hd.bs:=fun id hd e hm=>pk.hp.apart id hd _ e hm (.inr rfl)
   have hrec1:w1.heap[x.l]? =some (x.obj .ready none):=by
    rw[hst1.fr.block x.l ⟨hl,fun⟨id,hd,e,hm⟩ =>hno1 id hd e hm⟩];exact pk.rcd
   refine⟨w1.putObj x.l (x.obj .busy none),run_beginRound hrec1 rfl,?_⟩
   have g1:Goes F1 own1 w1 own1 (w1.putObj x.l (x.obj .busy none)):=⟨fun _ hd e=>⟨hd,e,.refl _⟩,fun b _ hn=>⟨hn,World.putObj_heap_other fun e=>hn (.inl (e▸hl1))⟩,by simp⟩
   have hst2:StRel F1 { w:=w.putObj x.l (x.obj .busy none),own:=own'} N own1 st1 a1 (w1.putObj x.l (x.obj .busy none)):=by
    refine⟨hst1.size,?_,hst1.hp.goes g1 fun id hd b e hm=>World.putObj_heap_other fun e'=>hst1.hp.apart id hd b e hm (e'▸hl1),⟨hst1.fr.ids,fun id hd b e hm ho=>hst1.fr.base id hd b e hm ⟨by have:=ho.1;simpa using this,ho.2⟩,hst1.fr.os,hst1.fr.tape,hst1.fr.output,by simpa using hst1.fr.size,fun b hb=>?_⟩,fun t=>(hst1.slots t).mono g1⟩
    ·obtain⟨ms,Ds,q0,q1,q2,q3⟩:=hst1.defers
     refine⟨ms,Ds,q0,q1,q2,fun D hD=>⟨by simpa using (q3 D hD).1,(q3 D hD).2.1,?_⟩⟩
     rw[World.putObj_heap_other fun e=>?_]
     ·exact(q3 D hD).2.2
     ·have:=(q3 D hD).2.2;rw[e,hrec1]at this;simp[LRec.obj]at this
    ·by_cases e:b=x.l
     ·subst e
      rw[World.putObj_heap_same hl,World.putObj_heap_same (Nat.lt_of_lt_of_le hl hst1.fr.size)]
     ·rw[World.putObj_heap_other e,World.putObj_heap_other e]
      exact hst1.fr.block b ⟨by have:=hb.1;simpa using this,hb.2⟩
   refine wpIn_mono (jY (ro:=some x.l) (nd:=0) hm hts hG x.body hcb (hlb x.l) _ _ _ hex1 own1 _ _ hst2) ?_
   intro e a2 w2 hq
   replace hq:=lJ hQx _ _ _ hq
   have key:∀ (F2:Nat→Prop) (own2:Own) (st2:St) (y2:σ) (js:List Nat) (b:Bool) (jump:Option Code),(∀ c,F1 c→F2 c)→StRel F2 { w:=w.putObj x.l (x.obj .busy none),own:=own'} N own2 st2 a2 w2→n0≤(Hx y2).length→Sub js n0 ⟨T,st2.h⟩ ⟨T,Hx y2⟩→b=jump.isNone→
     (∀ own3 bs' w3,Pack x T ce n0 (Hx y2) (x.obj (if jump.isNone then .ready else .done) jump) own3 F bs' w3→(itR x T ce n0 Hx I S (if b then k+1+1 else 0)).R F bs' w3)→
     ∃ v w3,(Instr.endRound x.l jump).run P w2=.ok v w3∧∃ a bs',True∧(Ending.returned v)=.returned (.bool ((a,itR x T ce n0 Hx I S (if a then k+1+1 else 0)):Bool×Res).1)∧(itR x T ce n0 Hx I S (if a then k+1+1 else 0)).R F bs' w3∧(itR x T ce n0 Hx I S (if a then k+1+1 else 0)).yv=.func (.yield x.l) #[] #[]∧YFr bs bs' w w3:=by
    intro F2 own2 st2 y2 js b jump hF2 hst hle hsub hb hR3
    subst hb
    have hl2:F2 x.l:=hF2 _ hl1
    have hrec2:w2.heap[x.l]? =some (x.obj .busy none):=by
     rw[hst.fr.block x.l ⟨by simpa using hl,fun⟨id,hd,e,hm⟩ =>hno1 id hd e hm⟩];exact World.putObj_heap_same hl
    have hsz2:w.heap.size≤w2.heap.size:=by have:=hst.fr.size;simpa using this
    have hl2s:=Nat.lt_of_lt_of_le hl hsz2
    obtain⟨q1,q2,q3,q4⟩:=zz hsub hst.hp hle
    let own3:=eo js (Hx y2) own2
    let w3:=w2.putObj x.l (x.obj (if jump.isNone then .ready else .done) jump)
    have hF2w:∀ c,Fw F x.l w3 c→F2 c:=fun c hc=>by
     rcases hc with⟨hc,_⟩ |rfl
     ·exact hF2 c (hF1 c (hFw c hc))
     ·exact hl2
    have hoth:∀ c,c≠x.l→w3.heap[c]? =w2.heap[c]?:=fun c hc=>World.putObj_heap_other hc
    have hcar:Carries F2 own3 w2 (Fw F x.l w3) own3 w3:=⟨fun _ hd e=>⟨hd,e,.refl _⟩,fun c hcl hn=>⟨fun ho=>hn (ho.imp (hF2w c) (fun e=>e)),hoth c fun e=>hn (.inl (e▸hl2))⟩⟩
    have hblk:∀ c,c<w.heap.size→c≠x.l→(¬ ∃ id hd,own' id=some hd∧c∈hd.bs)→w2.heap[c]? =w.heap[c]?:=fun c h1 h2 h3=>by
     rw[hst.fr.block c ⟨by simpa using h1,h3⟩];exact World.putObj_heap_other h2
    have hown2:∀ id hd c,own2 id=some hd→c∈hd.bs→(∃ id hd,own' id=some hd∧c∈hd.bs)∨w.heap.size≤c:=fun id hd c e hm=>by
     have:=hst.fr.base id hd c e hm
     by_cases hc:c<w.heap.size
     ·exact .inl (Classical.byContradiction fun hn=>this ⟨by simpa using hc,hn⟩)
     ·exact .inr (by omega)
    have gall:Goes (Fw F x.l w) own' w own2 w2:=⟨hst.fr.ids,fun c hcl hn=>by
     have h2:c≠x.l:=fun e=>hn (.inl (.inr e))
     have h3:¬ ∃ id hd,own' id=some hd∧c∈hd.bs:=fun h=>hn (.inr h)
     refine⟨?_,hblk c hcl h2 h3⟩
     rintro (hf| ⟨id,hd,e,hm⟩)
     ·exact hn (.inl hf)
     ·rcases hown2 id hd c e hm with h|h
      ·exact h3 h
      ·omega,hsz2⟩
    have hcar2:Carries (Fw F x.l w) own3 w2 (Fw F x.l w3) own3 w3:=⟨fun _ hd e=>⟨hd,e,.refl _⟩,fun c hcl hn=>⟨fun ho=>hn (ho.imp (fun hc=>by
     rcases hc with⟨hc,_⟩ |rfl
     ·exact hFw c hc
     ·exact .inr rfl) (fun e=>e)),hoth c fun e=>hn (.inl (.inr e))⟩⟩
    have hpk:Pack x T ce n0 (Hx y2) (x.obj (if jump.isNone then .ready else .done) jump) own3 F (x.l::Ga own3 (Hx y2).length) w3:=by
     refine⟨⟨q1.dom,fun c hc=>?_,fun id hd c e hm hc=>q1.apart id hd c e hm (hF2w c hc),q1.inj,fun id hd c e hm=>by have:=q1.lt id hd c e hm;simpa[w3]using this,fun id hdd=>?_⟩,fun t=>?_,fun c=>?_,fun id hd e=>?_,pk.nl,World.putObj_heap_same hl2s,hle⟩
     ·rcases hc with⟨_,hc⟩ |rfl
      ·exact hc
      ·simpa[w3]using hl2s
     ·obtain⟨hd,e1,e2⟩:=q1.obs id hdd
      exact⟨hd,e1,e2.carry hcar (by simp[w3]) fun c hm=>hoth c fun e=>q1.apart id hd c e1 hm (e▸hl2)⟩
     ·rcases r7 t _ hsub.2.1 with e| ⟨e1,e2⟩
      ·rw[e];exact .any _
      ·have h1:=(pk.slots t).mono gall
       have h1':Rel (Fw F x.l w) own2 w2 (ren (rQ js) 5 (lk t T)) (x.tmps.getD t undef):=e1▸h1
       exact(q3 (Fw F x.l w) 5 _ _ e2 h1').carry hcar2
     ·rw[List.mem_cons,tv q1.dom]
     ·obtain⟨hd1,e1,l1⟩:=pk.ids id hd e
      obtain⟨hd2,e2,l2⟩:=hst.fr.ids id hd1 e1
      obtain⟨hd3,e3,l3⟩:=q4 id hd2 (hn0 id hd e) e2
      exact⟨hd3,e3,(l1.trans l2).trans l3⟩
    refine⟨_,w3,run_endRound jump hrec2,jump.isNone,_,trivial,rfl,hR3 _ _ _ hpk,(Ib _).2,hst.fr.os,hst.fr.tape,hst.fr.output,by simpa[w3]using hsz2,fun c hc hn=>?_,fun c hc=>?_⟩
    ·have h2:c≠x.l:=fun e=>hn ((pk.bs c).2 (.inl e))
     rw[hoth c h2]
     exact hblk c hc h2 fun h=>hn ((pk.bs c).2 (.inr h))
    ·rcases List.mem_cons.1 hc with rfl|hc
     ·exact⟨by simpa[w3]using hl2s,.inl ((pk.bs _).2 (.inl rfl))⟩
     ·obtain⟨id,hd,e,hm⟩:=(tv q1.dom c).1 hc
      refine⟨by have:=q1.lt id hd c e hm;simpa[w3]using this,?_⟩
      obtain⟨_,j,hd0,_,e2,_,e4⟩:=eG e
      obtain⟨_,rfl⟩:=e4 c hm
      rcases hown2 j hd c e2 hm with h|h
      ·exact .inl ((pk.bs c).2 (.inr h))
      ·exact .inr h
   cases e with
   |normal=>
    obtain⟨F2,own2,st2,h0,hst,y2,js,hI2,hle,hsub⟩:=hq
    exact key F2 own2 st2 y2 js true none h0 hst hle hsub rfl fun own3 bs' w3 hp=>⟨y2,own3,hI2,hp⟩
   |ret=>
    obtain⟨F2,own2,st2,h0,hst,y2,js,hS2,hle,hsub⟩:=hq
    exact key F2 own2 st2 y2 js false (some .ret) h0 hst hle hsub rfl fun own3 bs' w3 hp=>⟨.ret,y2,own3,hS2,rfl,hp⟩
   |exit j=>
    obtain⟨F2,own2,st2,h0,hst,y2,js,hS2,hle,hsub⟩:=hq
    exact key F2 own2 st2 y2 js false (some (.exit j)) h0 hst hle hsub rfl fun own3 bs' w3 hp=>⟨.exit j,y2,own3,hS2,rfl,hp⟩
   |panic ch=>obtain⟨x',F2,own2,st2,_,_,h,_⟩:=hq;exact h.elim
   |_=>exact hq.elim
  |exit j=>obtain⟨F1,own1,st1,_,_,h,_⟩:=hq;cases h
  |ret=>obtain⟨F1,own1,st1,_,_,h,_⟩:=hq;cases h
  |panic ch=>obtain⟨x',F1,own1,st1,_,_,⟨h,_⟩,_⟩:=hq;cases h
  |_=>exact hq.elim
end
end Go.Sx
end
section
namespace Go.Sx
open Go.RowKit
section
variable {P:Program}{w0:Bs}{ts:Tis}{G:Cons}{L:mA}{N:Nat}
def pz (ids:List Nat)(h:List Ob):List Ob:=aQ h (ids.map fun id=>(id,Ob.dead))
theorem u3 (h:List Ob)(id:Nat):∀ (ids:List Nat) (h:List Ob),ag (pz ids h) id=if id∈ids then .dead else ag h id
 | [],h=>by simp[pz,aQ]
 |a::r,h=>by
  have ih:=u3 h id r (bu h a .dead)
  have e:pz (a::r) h=pz r (bu h a .dead):=rfl
  rw[e,ih]
  by_cases h1:id∈r
  ·simp[h1]
  ·rw[if_neg h1,ci]
   by_cases h2:a=id
   ·simp[h2]
   ·rw[if_neg h2,if_neg]
    simp[h1];exact fun e=>h2 e.symm
def zJ (ids:List Nat)(i:Nat):Option Nat:=(nY i ids).map (· +1)
def xV (ids:List Nat)(h:List Ob):List Ob:=ids.map fun i=>mb (zJ ids) (ag h i)
def i7 (st:St)(caps:List SV):List Nat:=reach st.h 64 (caps.flatMap (dv 3)) []
def Gb (lc:LCon)(n0:Nat)(e:Ex)(st:St):Prop:= ∃ r js,lc.post r∧lc.ex r=e∧n0≤(lc.out r).h.length∧Sub js n0 st (lc.out r)
theorem Gc {F:Nat→Prop}{own:Own}{st:St}{a:Act}{w:World}(hr:StRel F w0 N own st a w)(x:Operand):Rel F own w (raw st.t x) (a.eval x):=by
 cases x with
 |tmp t=>exact hr.slots t
 |const v=>exact .v v
 |func f=>exact .fn rfl rfl (fun j s h=>by simp at h) (fun j s h=>by simp at h)
 |global g=>exact .any _
theorem xW (hm:P.follows .mixedOrders=true)(hts:ts.ok P)(hG:ConsOk P G){id:Nat}{g:Operand}{ps:Array Tmp}{assign body:Code}{C:St→Option LCon}
  (hpn:ps.toList.Nodup) (hpN:∀ p∈ps.toList,p<N) (hca:cd N assign=true) (hcb:cd N body=true)
  (h:∀ st lc,C st=some lc→lc.pre→∃ (f:FuncId) (caps:List SV) (items:List (List SV)) (σ:Type) (T:List (Nat×SV)) (Hx:σ→List Ob) (I:Nat→σ→Prop) (S:Ex→σ→Prop) (x0:σ) (js:List Nat),
   raw st.t g=.fn f [] caps∧I 0 x0∧st.h.length≤(Hx x0).length∧Sub js st.h.length ⟨st.t,pz (i7 st caps) st.h⟩ ⟨T,Hx x0⟩∧
   zH P f (fun y=>y::caps.map (ren (zJ (i7 st caps)) 3)) (xV (i7 st caps) st.h) items∧
   (∀ k y args,items[k]? =some args→I k y→args.length=ps.size∧∃ L Qx,(∀ l,aw P (some l) N L assign)∧(∀ l,aw P (some l) N L body)∧(∀ e st',Qx e st'→itQ T Hx I S st.h.length k e st')∧exec ts G L assign ⟨psT ps.toList args++T,Hx y⟩ (fun e st1=>e=.normal∧exec ts G L body st1 Qx))∧
   (∀ y,I items.length y→Gb lc st.h.length .normal ⟨T,Hx y⟩)∧(∀ y,S .ret y→Gb lc st.h.length .ret ⟨T,Hx y⟩)∧
   ∀ j y,S (.exit j) y→Gb lc st.h.length (if j=id then .normal else .exit j) ⟨T,Hx y⟩):gF P none N id (.rangeFunc g ps assign body) C:=by
 intro nd F w0 st lc hC hpre own a w hr
 obtain⟨f,caps,items,σ,T,Hx,I,S,x0,js,hg,hI0,hle0,hsub0,hit,hround,hN,hRet,hEx⟩:=h st lc hC hpre
 have hrel:=Gc hr g
 rw[hg]at hrel
 generalize hev:a.eval g=gv at hrel
 cases hrel with
 | @fn _ _ _ us lb e1 e2 e3 e4=>
  have hus:us= #[]:=by
   obtain⟨l⟩:=us
   cases l with
   |nil=>rfl
   |cons=>simp at e1
  subst hus
  have hcaps:RelL F own w caps lb:=⟨e2,e4⟩
  have hids:∀ i∈i7 st caps,∃ hd,own i=some hd:=nL hr.hp 64 _ [] (fun i hi=>by
   obtain⟨x,hx,hxi⟩:=List.mem_flatMap.1 hi
   obtain⟨j,hj⟩:=List.getElem?_of_mem hx
   exact v7 3 x _ (hcaps.2 j x hj) i hxi) (fun i hi=>by cases hi)
  have hnd:(i7 st caps).Nodup:=jy st.h 64 _ [] List.nodup_nil
  generalize hidsE:i7 st caps=ids at hids hnd hsub0 hit
  refine wpIn_block (wpIn_rangeFunc fun fn _=>?_)
  let rc:LRec:=⟨w.heap.size+1,fn,a.tmps,ps,assign,body,w.heap.size⟩
  let yv:Value:=.func (.yield (w.heap.size+1)) #[] #[]
  obtain⟨W1,hW1⟩:∃ W1,(w.alloc (.deferred (some []))).alloc (rc.obj .ready none)=W1:=⟨_,rfl⟩
  have hsz1:W1.heap.size=w.heap.size+2:=by rw[←hW1,fv,fv]
  have hold:∀ b,b<w.heap.size→W1.heap[b]? =w.heap[b]?:=fun b hb=>by
   rw[←hW1,ko _ _ b (by rw[fv];omega),ko _ _ b hb]
  have hl1:W1.heap[w.heap.size+1]? =some (rc.obj .ready none):=by
   rw[←hW1];have:=gP (w.alloc (.deferred (some []))) (rc.obj .ready none);rwa[fv]at this
  have hD1:W1.heap[w.heap.size]? =some (.deferred (some [])):=by
   rw[←hW1,ko _ _ _ (by rw[fv];omega)];exact gP w _
  refine⟨w.heap.size+1,[{ target:=.collected w.heap.size,args:= #[]}],W1,{ target:=.fn (.func f) lb,args:= #[yv]},W1,f,#[yv]++lb,W1,?_,?_,fun _ _=>trivial,?_,fun h=>(by cases h),?_⟩
  ·rw[←hW1];exact run_enterLoop_outer _ _ _ _ _
  ·simp only[resolve,hev]
   simp[go_sem,yv]
  ·simp[invoke,go_sem,hit.1]
  let own_s:Own:=fun i=>if i∈ids then(own i).map (fun hd=>{ hd with bs:=[]})else own i
  let F1:Nat→Prop:=fun b=>F b∨b=w.heap.size∨b=w.heap.size+1∨∃ i hd,i∈ids∧own i=some hd∧b∈hd.bs
  have hs1:∀ i hd,own_s i=some hd→∃ hd0,own i=some hd0∧hd0.like hd∧∀ b∈hd.bs,i ∉ ids∧hd=hd0:=fun i hd e=>by
   by_cases hi:i∈ids
   ·simp only[own_s,if_pos hi,Option.map_eq_some_iff]at e
    obtain⟨hd0,e1,rfl⟩:=e
    exact⟨hd0,e1,⟨rfl,rfl,rfl⟩,fun b hb=>by cases hb⟩
   ·simp only[own_s,if_neg hi]at e
    exact⟨hd,e,.refl _,fun b _=>⟨hi,rfl⟩⟩
  have hs2:∀ i hd,own i=some hd→∃ hd',own_s i=some hd'∧hd.like hd':=fun i hd e=>by
   by_cases hi:i∈ids
   ·exact⟨{ hd with bs:=[]},by simp only[own_s,if_pos hi,e];rfl,⟨rfl,rfl,rfl⟩⟩
   ·exact⟨hd,by simp only[own_s,if_neg hi];exact e,.refl _⟩
  have hcar1:Carries F own w F1 own_s W1:=⟨hs2,fun b hb hn=>⟨by
   rintro ((hf|hf|hf| ⟨i,hd,_,e,hm⟩) | ⟨i,hd,e,hm⟩)
   ·exact hn (.inl hf)
   ·omega
   ·omega
   ·exact hn (.inr ⟨i,hd,e,hm⟩)
   ·obtain⟨hd0,e0,_,e1⟩:=hs1 i hd e
    obtain⟨_,rfl⟩:=e1 b hm
    exact hn (.inr ⟨i,hd,e0,hm⟩),hold b hb⟩⟩
  have hp1:Hp F1 own_s W1 (pz ids st.h):=by
   refine⟨fun i hd e=>?_,fun b hb=>?_,fun i hd b e hm hb=>?_,fun i j hi hj b e1 e2 h1 h2=>?_,fun i hd b e hm=>?_,fun i hdd=>?_⟩
   ·obtain⟨hd0,e0,_⟩:=hs1 i hd e
    exact Nat.lt_of_lt_of_le (hr.hp.dom i hd0 e0) (oM _ _)
   ·rcases hb with hf|hf|hf| ⟨i,hd,_,e,hm⟩
    ·have:=hr.hp.foreign b hf;omega
    ·omega
    ·omega
    ·have:=hr.hp.lt i hd b e hm;omega
   ·obtain⟨hd0,e0,_,e1⟩:=hs1 i hd e
    obtain⟨hni,rfl⟩:=e1 b hm
    have hlt:=hr.hp.lt i hd b e0 hm
    rcases hb with hf|hf|hf| ⟨i2,hd2,h1,h2,h3⟩
    ·exact hr.hp.apart i hd b e0 hm hf
    ·omega
    ·omega
    ·exact hni (hr.hp.inj i i2 hd hd2 b e0 h2 hm h3▸h1)
   ·obtain⟨hd1,k1,_,k2⟩:=hs1 i hi e1
    obtain⟨hd2,k3,_,k4⟩:=hs1 j hj e2
    obtain⟨_,rfl⟩:=k2 b h1
    obtain⟨_,rfl⟩:=k4 b h2
    exact hr.hp.inj i j hi hj b k1 k3 h1 h2
   ·obtain⟨hd0,e0,_,e1⟩:=hs1 i hd e
    obtain⟨_,rfl⟩:=e1 b hm
    have:=hr.hp.lt i hd b e0 hm;omega
   ·rw[u3 st.h i ids st.h]at hdd ⊢
    by_cases hi:i∈ids
    ·rw[if_pos hi]at hdd;cases hdd
    ·rw[if_neg hi]at hdd ⊢
     obtain⟨hd,e1,e2⟩:=hr.hp.obs i hdd
     exact⟨hd,by simp only[own_s,if_neg hi];exact e1,e2.carry hcar1 (by omega) fun b hm=>hold b (hr.hp.lt i hd b e1 hm)⟩
  obtain⟨q1,q2,q3,q4⟩:=zz hsub0 hp1 hle0
  change Hp F1 (eo js (Hx x0) own_s) W1 (Hx x0)at q1
  generalize hown0:eo js (Hx x0) own_s=own_0 at q1 q2 q3 q4
  have h0s:∀ i hd b,own_0 i=some hd→b∈hd.bs→∃ j,j ∉ ids∧own j=some hd:=fun i hd b e hm=>by
   rw[←hown0]at e
   obtain⟨_,j,hd0,_,e2,_,e4⟩:=eG e
   obtain⟨_,rfl⟩:=e4 b hm
   obtain⟨hd1,k1,_,k2⟩:=hs1 j hd e2
   obtain⟨k3,rfl⟩:=k2 b hm
   exact⟨j,k3,k1⟩
  have hslot1:∀ t,Rel F1 own_0 W1 (lk t T) (a.tmps.getD t undef):=fun t=>by
   rcases r7 t _ hsub0.2.1 with e| ⟨e1,e2⟩
   ·rw[e];exact .any _
   ·have h1:=(hr.slots t).carry hcar1
    have e1':lk t st.t=ren (rQ js) 5 (lk t T):=e1
    rw[e1']at h1
    exact q3 F1 5 _ _ e2 h1
  let bs0:List Nat:=(w.heap.size+1)::Ga own_0 (Hx x0).length
  have hbs0:∀ b,b∈bs0↔b=w.heap.size+1∨∃ i hd,own_0 i=some hd∧b∈hd.bs:=fun b=>by
   show b∈_::_↔_
   rw[List.mem_cons,tv q1.dom]
  let Ff:Nat→Prop:=fun b=>F b∨b=w.heap.size
  let own_f:Own:=fun i=>match i with|0=>some ⟨none,yv,[],bs0⟩ |i+1=>(ids[i]?).bind own
  have hf1:∀ i hd,own_f (i+1)=some hd→∃ j,ids[i]? =some j∧own j=some hd:=fun i hd e=>by
   have e':(ids[i]?).bind own=some hd:=e
   rw[Option.bind_eq_some_iff]at e';exact e'
  have hffo:∀ b,bS Ff own_f b→(F b∨b=w.heap.size∨b=w.heap.size+1)∨∃ i hd,own i=some hd∧b∈hd.bs:=by
   rintro b ((hf|hf) | ⟨i,hd,e,hm⟩)
   ·exact .inl (.inl hf)
   ·exact .inl (.inr (.inl hf))
   ·cases i with
    |zero=>
     cases e
     rcases(hbs0 b).1 hm with h| ⟨i,hd,e,hm⟩
     ·exact .inl (.inr (.inr h))
     ·obtain⟨j,_,k⟩:=h0s i hd b e hm
      exact .inr ⟨j,hd,k,hm⟩
    |succ i=>obtain⟨j,_,k⟩:=hf1 i hd e;exact .inr ⟨j,hd,k,hm⟩
  let Fs:Nat→Prop:=fun b=>F b∨b=w.heap.size∨b=w.heap.size+1
  have hcar0:Carries F own w Fs own W1:=⟨fun _ hd e=>⟨hd,e,.refl _⟩,fun b hb hn=>⟨by
   rintro ((hf|hf|hf) |ho)
   ·exact hn (.inl hf)
   ·omega
   ·omega
   ·exact hn (.inr ho),hold b hb⟩⟩
  have hrn:Rn (zJ ids) own own_f:=⟨fun i j hd hm e=>by
   unfold zJ at hm
   rw[Option.map_eq_some_iff]at hm
   obtain⟨k,hk,rfl⟩:=hm
   refine⟨hd,?_,.refl _⟩
   show(ids[k]?).bind own=some hd
   rw[i6 ids i k hk];exact e⟩
  have hsh:∀ b,¬bS Fs own b→¬bS Ff own_f b:=fun b hn ho=>hn (hffo b ho)
  let F':Nat→Prop:=fun b=>bS Ff own_f b∧b ∉ bs0
  have hF'1:∀ b,Fw F' rc.l W1 b→F1 b:=by
   rintro b (⟨⟨ho,hn⟩,_⟩ |hb)
   ·rcases ho with(hf|hf) | ⟨i,hd,e,hm⟩
    ·exact .inl hf
    ·exact .inr (.inl hf)
    ·cases i with
     |zero=>cases e;exact absurd hm hn
     |succ i=>obtain⟨j,k1,k2⟩:=hf1 i hd e;exact .inr (.inr (.inr ⟨j,hd,List.mem_of_getElem? k1,k2,hm⟩))
   ·exact .inr (.inr (.inl hb))
  have hcarP:Carries F1 own_0 W1 (Fw F' rc.l W1) own_0 W1:=⟨fun _ hd e=>⟨hd,e,.refl _⟩,fun b _ hn=>⟨fun ho=>hn (ho.imp (hF'1 b) (fun e=>e)),rfl⟩⟩
  have hpk:Pack rc T own st.h.length (Hx x0) (rc.obj .ready none) own_0 F' bs0 W1:=by
   refine⟨⟨q1.dom,fun b hb=>q1.foreign b (hF'1 b hb),fun i hd b e hm hb=>q1.apart i hd b e hm (hF'1 b hb),q1.inj,q1.lt,fun i hdd=>?_⟩,fun t=>(hslot1 t).carry hcarP,hbs0,fun i hd e=>?_,fun hf=>hf.2 ((hbs0 _).2 (.inl rfl)),hl1,hle0⟩
   ·obtain⟨hd,e1,e2⟩:=q1.obs i hdd
    exact⟨hd,e1,e2.carry hcarP (Nat.le_refl _) fun _ _=>rfl⟩
   ·obtain⟨hd1,k1,l1⟩:=hs2 i hd e
    obtain⟨hd2,k2,l2⟩:=q4 i hd1 (hr.hp.dom i hd e) k1
    exact⟨hd2,k2,l1.trans l2⟩
  have hpf:Hp Ff own_f W1 (.ab (itR rc T own st.h.length Hx I S 1)::xV ids st.h):=by
   refine⟨fun i hd e=>?_,fun b hb=>?_,fun i hd b e hm hb=>?_,fun i j hi hj b e1 e2 h1 h2=>?_,fun i hd b e hm=>?_,fun i hdd=>?_⟩
   ·cases i with
    |zero=>simp
    |succ i=>
     obtain⟨j,k1,_⟩:=hf1 i hd e
     have:=(List.getElem?_eq_some_iff.1 k1).1
     simp[xV];exact this
   ·rcases hb with hf|hf
    ·have:=hr.hp.foreign b hf;omega
    ·omega
   ·have hnot:∀ i hd,own i=some hd→b∈hd.bs→False:=fun i hd e hm=>by
     rcases hb with hf|hf
     ·exact hr.hp.apart i hd b e hm hf
     ·have:=hr.hp.lt i hd b e hm;omega
    cases i with
    |zero=>
     cases e
     rcases(hbs0 b).1 hm with h| ⟨i,hd,e,hm⟩
     ·rcases hb with hf|hf
      ·have:=hr.hp.foreign b hf;omega
      ·omega
     ·obtain⟨j,_,k⟩:=h0s i hd b e hm
      exact hnot j hd k hm
    |succ i=>obtain⟨j,_,k⟩:=hf1 i hd e;exact hnot j hd k hm
   ·have hmix:∀ i hd,own_f (i+1)=some hd→b∈hd.bs→b∈bs0→False:=fun i hd e hm h0=>by
     obtain⟨j,k1,k2⟩:=hf1 i hd e
     rcases(hbs0 b).1 h0 with h| ⟨i2,hd2,e2,hm2⟩
     ·have:=hr.hp.lt j hd b k2 hm;omega
     ·obtain⟨j2,k3,k4⟩:=h0s i2 hd2 b e2 hm2
      exact k3 (hr.hp.inj j2 j hd2 hd b k4 k2 hm2 hm▸List.mem_of_getElem? k1)
    cases i with
    |zero=>
     cases j with
     |zero=>rfl
     |succ j=>cases e1;exact(hmix j hj e2 h2 h1).elim
    |succ i=>
     cases j with
     |zero=>cases e2;exact(hmix i hi e1 h1 h2).elim
     |succ j=>
      obtain⟨k,k1,k2⟩:=hf1 i hi e1
      obtain⟨k',k3,k4⟩:=hf1 j hj e2
      have:=hr.hp.inj k k' hi hj b k2 k4 h1 h2
      subst this
      rw[ka hnd k1 k3]
   ·rcases hffo b (.inr ⟨i,hd,e,hm⟩)with(h|h|h) | ⟨j,hd2,k,hm2⟩
    ·have:=hr.hp.foreign b h;omega
    ·omega
    ·omega
    ·have:=hr.hp.lt j hd2 b k hm2;omega
   ·cases i with
    |zero=>exact⟨_,rfl,rfl,x0,own_0,hI0,hpk⟩
    |succ i=>
     have hob:ag (.ab (itR rc T own st.h.length Hx I S 1)::xV ids st.h) (i+1)=ag (xV ids st.h) i:=rfl
     rw[hob]at hdd ⊢
     rw[jg]at hdd ⊢
     unfold xV at hdd ⊢
     rw[List.getElem?_map]at hdd ⊢
     cases hi:ids[i]? with
     |none=>rw[hi]at hdd;simp[b9]at hdd
     |some j=>
      rw[hi]at hdd
      simp only[Option.map_some,Option.getD_some]at hdd ⊢
      rw[ml]at hdd
      obtain⟨hd,e1,e2⟩:=hr.hp.obs j hdd
      refine⟨hd,by show(ids[i]?).bind own=some hd;rw[hi];exact e1,?_⟩
      have e3:ObRel Fs own W1 hd (ag st.h j):=e2.carry hcar0 (by omega) fun b hm=>hold b (hr.hp.lt j hd b e1 hm)
      refine sZ hrn hsh (fun b _ ho=>?_) e3
      rcases hffo b ho with h|h
      ·exact .inl h
      ·exact .inr h
  have hvs:RelL Ff own_f W1 (.os 0::caps.map (ren (zJ ids) 3)) (#[yv]++lb):=by
   refine⟨by simp[e2];omega,fun j s hj=>?_⟩
   cases j with
   |zero=>
    simp at hj;subst hj
    have:(#[yv]++lb).getD 0 undef=yv:=by simp only[Array.getD_eq_getD_getElem?];rw[Array.getElem?_append_left (by simp)];rfl
    rw[this]
    exact Rel.os (hd:=⟨none,yv,[],bs0⟩) rfl rfl
   |succ j=>
    simp only[List.getElem?_cons_succ]at hj
    obtain⟨s0,k1,rfl⟩:=cb hj
    have:(#[yv]++lb).getD (j+1) undef=lb.getD j undef:=by
     simp only[Array.getD_eq_getD_getElem?]
     rw[Array.getElem?_append_right (by simp)]
     simp
    rw[this]
    exact rZ hrn hsh 3 s0 _ ((e4 j s0 k1).carry hcar0)
  refine CallsIn.mono (iy (hit.2 (itR rc T own st.h.length Hx I S) (fun k=>(Ib k).1) (JJ hm hts hG hr.size (fun i hd e=>hr.hp.dom i hd e) hpn hpN hca hcb hround) Ff own_f W1 _ hpf hvs)) ?_
  rintro e w3 ⟨u,own',j,h',rfl,hj,hp3,fr3⟩
  obtain⟨hd0,e0,hv0,hR⟩:=hp3.obs 0 rfl
  have hl3:∀ {y own_e o},Pack rc T own st.h.length (Hx y) o own_e (fun b=>bS Ff own' b∧b ∉ hd0.bs) hd0.bs w3→w3.heap[w.heap.size+1]? =some o:=fun pk=>pk.rcd
  have fin:∀ y own_e s p,Pack rc T own st.h.length (Hx y) (rc.obj s p) own_e (fun b=>bS Ff own' b∧b ∉ hd0.bs) hd0.bs w3→
    StRel Fs w0 N own_e ⟨T,Hx y⟩ { a with defers:=[{ target:=.collected w.heap.size,args:= #[]}]++a.defers} (w3.putObj (w.heap.size+1) (rc.obj .exhausted p)):=by
   intro y own_e s p pk
   have hsz3:=fr3.size
   have hsz3':W1.heap.size≤w3.heap.size:=hsz3
   have hl3s:w.heap.size+1<w3.heap.size:=by omega
   have hoth:∀ c,c≠w.heap.size+1→(w3.putObj (w.heap.size+1) (rc.obj .exhausted p)).heap[c]? =w3.heap[c]?:=fun c hc=>World.putObj_heap_other hc
   have hownE:∀ i hd b,own_e i=some hd→b∈hd.bs→b∈hd0.bs∧b≠w.heap.size+1:=fun i hd b e hm=>⟨(pk.bs b).2 (.inr ⟨i,hd,e,hm⟩),fun e'=>pk.hp.apart i hd b e hm (.inr e')⟩
   have hnF:∀ b,b∈hd0.bs→¬Ff b:=fun b hb hf=>hp3.apart 0 hd0 b e0 hb hf
   have hFsFw:∀ b,Fs b→Fw (fun b=>bS Ff own' b∧b ∉ hd0.bs) rc.l w3 b:=fun b hb=>by
    rcases hb with hf|hf|hf
    ·exact .inl ⟨⟨.inl (.inl hf),fun hm=>hnF b hm (.inl hf)⟩,hp3.foreign b (.inl hf)⟩
    ·exact .inl ⟨⟨.inl (.inr hf),fun hm=>hnF b hm (.inr hf)⟩,hp3.foreign b (.inr hf)⟩
    ·exact .inr hf
   have hcarE:Carries (Fw (fun b=>bS Ff own' b∧b ∉ hd0.bs) rc.l w3) own_e w3 Fs own_e (w3.putObj (w.heap.size+1) (rc.obj .exhausted p)):=⟨fun _ hd e=>⟨hd,e,.refl _⟩,fun b _ hn=>⟨fun ho=>hn (ho.imp (hFsFw b) (fun e=>e)),hoth b fun e=>hn (.inl (.inr e))⟩⟩
   have hkeep:∀ b,b<w.heap.size→(¬ ∃ i hd,own i=some hd∧b∈hd.bs)→w3.heap[b]? =w.heap[b]?:=fun b hb hn=>by
    rw[fr3.block b ⟨by show b<W1.heap.size;omega,fun⟨i,hd,e,hm⟩ =>?_⟩]
    ·exact hold b hb
    ·cases i with
     |zero=>
      cases e
      rcases(hbs0 b).1 hm with h| ⟨i,hd,e,hm⟩
      ·omega
      ·obtain⟨j,_,k⟩:=h0s i hd b e hm
       exact hn ⟨j,hd,k,hm⟩
     |succ i=>obtain⟨j,_,k⟩:=hf1 i hd e;exact hn ⟨j,hd,k,hm⟩
   have hD3:w3.heap[w.heap.size]? =some (.deferred (some [])):=by
    rw[fr3.block w.heap.size ⟨by show w.heap.size<W1.heap.size;omega,fun⟨i,hd,e,hm⟩ =>hpf.apart i hd _ e hm (.inr rfl)⟩];exact hD1
   refine⟨hr.size,?_,⟨pk.hp.dom,fun b hb=>?_,fun i hd b e hm hb=>pk.hp.apart i hd b e hm (hFsFw b hb),pk.hp.inj,fun i hd b e hm=>by have:=pk.hp.lt i hd b e hm;simpa using this,fun i hdd=>?_⟩,hr.fr.trans ⟨pk.ids,fun i hd b e hm ho=>?_,fr3.os.trans (by rw[←hW1];rfl),fr3.tape.trans (by rw[←hW1];rfl),fr3.output.trans (by rw[←hW1];rfl),by simp;omega,fun b hb=>?_⟩,fun t=>(pk.slots t).carry hcarE⟩
   ·obtain⟨ms,Ds,k0,k1,k2,k3⟩:=hr.defers
    refine⟨{ target:=.collected w.heap.size,args:= #[]}::ms,w.heap.size::Ds,by simp[k0],by simp[k1],List.nodup_cons.2 ⟨fun hm=>?_,k2⟩,fun D hD=>?_⟩
    ·have:=jf (k3 _ hm).2.2;omega
    ·rcases List.mem_cons.1 hD with rfl|hD
     ·exact⟨hr.fr.size,.inr (.inl rfl),by rw[hoth _ (by omega)];exact hD3⟩
     ·obtain⟨m1,m2,m3⟩:=k3 D hD
      have hlt:=jf m3
      exact⟨m1,.inl m2,by rw[hoth _ (by omega),hkeep D hlt fun⟨i,hd,e,hm⟩ =>hr.hp.apart i hd D e hm m2];exact m3⟩
   ·have:=pk.hp.foreign b (hFsFw b hb);simpa using this
   ·obtain⟨hd,e1,e2⟩:=pk.hp.obs i hdd
    exact⟨hd,e1,e2.carry hcarE (by simp) fun b hm=>hoth b (hownE i hd b e1 hm).2⟩
   ·have h1:=fr3.base 0 hd0 b e0 (hownE i hd b e hm).1
    refine h1 ⟨by show b<W1.heap.size;have:=ho.1;change b<w.heap.size at this;omega,fun⟨i2,hd2,e2,hm2⟩ =>?_⟩
    cases i2 with
    |zero=>
     cases e2
     rcases(hbs0 b).1 hm2 with h| ⟨i3,hd3,e3,hm3⟩
     ·exact(hownE i hd b e hm).2 h
     ·obtain⟨j,_,k⟩:=h0s i3 hd3 b e3 hm3
      exact ho.2 ⟨j,hd3,k,hm3⟩
    |succ i2=>obtain⟨j,_,k⟩:=hf1 i2 hd2 e2;exact ho.2 ⟨j,hd2,k,hm2⟩
   ·have hblt:b<w.heap.size:=hb.1
    rw[hoth b (by omega)]
    exact hkeep b hblt hb.2
  have fin2:∀ y own_e s p ex,Pack rc T own st.h.length (Hx y) (rc.obj s p) own_e (fun b=>bS Ff own' b∧b ∉ hd0.bs) hd0.bs w3→Gb lc st.h.length ex ⟨T,Hx y⟩→
    ∃ F3 own3 st3,(∀ b,F b→F3 b)∧StRel F3 w0 N own3 st3 { a with defers:=[{ target:=.collected w.heap.size,args:= #[]}]++a.defers} (w3.putObj (w.heap.size+1) (rc.obj .exhausted p))∧∃ r,lc.post r∧ex=lc.ex r∧st3=lc.out r:=by
   rintro y own_e s p ex pk ⟨r,js2,m1,m2,m3,m4⟩
   exact⟨Fs,_,_,fun b hb=>.inl hb,(fin y own_e s p pk).sub m4 hr.base_lt m3,r,m1,m2.symm,rfl⟩
  rcases hj with rfl|rfl
  ·obtain⟨ex,y,own_e,hS,hjm,pk⟩:=hR
   refine⟨zI ex,_,run_endLoop (P:=P) (hl3 pk) (by simp[LRec.obj]),?_⟩
   cases ex with
   |normal=>cases hjm
   |pan x=>cases hjm
   |ret=>exact wpIn_ret (fin2 y own_e _ _ .ret pk (hRet y hS))
   |exit jj=>
    refine wpIn_exit ?_
    have h2:=fin2 y own_e _ _ _ pk (hEx jj y hS)
    show if jj=id then _ else _
    by_cases hjj:jj=id
    ·rw[if_pos hjj]at h2 ⊢;exact h2
    ·rw[if_neg hjj]at h2 ⊢;exact h2
  ·obtain⟨y,own_e,hIy,pk⟩:=hR
   exact⟨none,_,run_endLoop (P:=P) (hl3 pk) (by simp[LRec.obj]),fin2 y own_e _ _ .normal pk (hN y hIy)⟩
end
end Go.Sx
end
