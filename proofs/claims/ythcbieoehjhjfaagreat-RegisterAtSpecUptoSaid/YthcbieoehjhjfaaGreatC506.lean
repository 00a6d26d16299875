/- Part of the proof that the law RegisterAtSpec returns true and leaves its arguments as they were, for all arguments of bulk at most 1048576 (the Upto form). -/
import Derived.Test.YthcbieoehjhjfaaGreatC505
import Derived.RangeFuncLeaves
import Derived.RangeFuncRecord
import Derived.Test.YthcbieoehjhjfaaGreatC501
import Derived.Attr
import Derived.RangeFuncIn
import Derived.TacticsIn
set_option linter.all false
set_option maxHeartbeats 4000000
section
namespace Go.Sx
open Go.RowKit
section
variable {P:Program}{F:Nat→Prop}{w0:Bs}{ro:Option Nat}{nd:Nat}{ts:Tis}{G:Cons}{L:pm}{N:Nat}
theorem By:∀ (l:List SV) (n t:Nat),lk t (j8 n l)=if n≤t then(l[t - n]?).getD .any else .any
 | [],n,t=>by simp[j8,lk]
 |s::r,n,t=>by
  rw[j8,kS,By r (n+1) t]
  by_cases h:n=t
  ·subst h;simp
  ·rw[if_neg h]
   by_cases h2:n+1≤t
   ·rw[if_pos h2,if_pos (by omega),show t - n=(t - (n+1))+1 by omega,List.getElem?_cons_succ]
   ·rw[if_neg h2,if_neg (by omega)]
def Hz (tmps:Array Value):ResultVar→Sem Value
 | .tmp t=>pure (tmps.getD t undef)
 | .cell q t=>do loadVar t (←asAddr (tmps.getD q undef))
theorem Dv (fn:Func)(tmps:Array Value):results fn tmps=(do let vs ←fn.results.mapM (Hz tmps);pure (if h:vs.size=1 then vs[0]else .tuple vs)):=by
 unfold results;congr 2
structure Shut (Ds:List Nat)(w w':World):Prop where
 size:w'.heap.size=w.heap.size
 block:∀ k,k ∉ Ds→w'.heap[k]? =w.heap[k]?
 os:w'.os=w.os
 tape:w'.tape=w.tape
 output:w'.output=w.output
theorem uh {fn:Func}{tmps:Array Value}{R:Ending→World→Prop}{u:FrameMode}(hu:u≠ .run){bs:List Deferred}:∀ (Ds:List Nat) (ds:List Deferred) (w:World),ds.map (·.target)=Ds.map .collected→Ds.Nodup→
  (∀ D∈Ds,w.heap[D]? =some (.deferred (some [])))→(∀ w2,Shut Ds w w2→LeavesInM (rd none) nd P fn tmps R bs u w2)→LeavesInM (rd none) nd P fn tmps R (ds++bs) u w
 | [],[],w,_,_,_,h=>h w ⟨rfl,fun _ _=>rfl,rfl,rfl,rfl⟩
 | [],_::_,w,hm,_,_,_=>by simp at hm
 |_::_,[],w,hm,_,_,_=>by simp at hm
 |D::Ds,d::ds,w,hm,hn,hD,h=>by
  simp only[List.map_cons,List.cons.injEq]at hm
  obtain⟨hd,hm⟩:=hm
  rw[List.nodup_cons]at hn
  have hlt:=lz (hD D (by simp))
  refine⟨hu,.inl ⟨D,_,hd,run_takeDeferred (hD D (by simp)),?_⟩⟩
  refine uh hu Ds ds _ hm hn.2 (fun D' hD'=>?_) fun w2 hs=>?_
  ·rw[World.putObj_heap_other (by rintro rfl;exact hn.1 hD')]
   exact hD D' (by simp[hD'])
  ·refine h w2 ⟨?_,fun k hk=>?_,hs.os,hs.tape,hs.output⟩
   ·rw[hs.size];simp[World.putObj]
   ·simp only[List.mem_cons,not_or]at hk
    rw[hs.block k hk.2,World.putObj_heap_other hk.1]
theorem StRel.shut {own:Own}{st:St}{a:Act}{w w2:World}{Ds:List Nat}(h:StRel F w0 N own st a w)(hD:∀ D∈Ds,w0.w.heap.size≤D∧F D∧w.heap[D]? =some (.deferred (some [])))(hs:Shut Ds w w2):
  StRel F w0 N own st { a with defers:=w0.ds} w2:=by
 have g:Goes F own w own w2:=⟨fun _ hd e=>⟨hd,e,.refl _⟩,fun b _ hn=>⟨hn,hs.block b fun hb=>hn (.inl (hD b hb).2.1)⟩,by rw[hs.size];exact Nat.le_refl _⟩
 refine⟨h.size,Dfr.nil,h.hp.goes g fun id hd b e hb=>hs.block b fun hm=>h.hp.apart id hd b e hb (hD b hm).2.1,⟨h.fr.ids,h.fr.base,hs.os.trans h.fr.os,hs.tape.trans h.fr.tape,hs.output.trans h.fr.output,by rw[hs.size];exact h.fr.size,fun k hk=>?_⟩,fun t=>(h.slots t).mono g⟩
 rw[hs.block k fun hb=>by have:=(hD k hb).1;have:=hk.1;omega]
 exact h.fr.block k hk
theorem StRel.less {F1:Nat→Prop}(hF:∀ b,F b→F1 b){own:Own}{st:St}{a:Act}{w:World}(h:StRel F1 w0 N own st a w)(hd:a.defers=w0.ds):StRel F w0 N own st a w:=by
 have hc:Carries F1 own w F own w:=⟨fun _ hd e=>⟨hd,e,.refl _⟩,fun b _ hn=>⟨fun ho=>hn (ho.imp (hF b) id),rfl⟩⟩
 refine⟨h.size,by rw[hd];exact Dfr.nil,⟨h.hp.dom,fun b hb=>h.hp.foreign b (hF b hb),fun id hd b e hb hf=>h.hp.apart id hd b e hb (hF b hf),h.hp.inj,h.hp.lt,fun id hdd=>?_⟩,h.fr,fun t=>(h.slots t).carry hc⟩
 obtain⟨hd,e1,e2⟩:=h.hp.obs id hdd
 exact⟨hd,e1,e2.carry hc (Nat.le_refl _) fun _ _=>rfl⟩
theorem FW (hts:ts.ok P){own:Own}{st:St}{a:Act}{w:World}(hr:StRel F w0 N own st a w){x:ResultVar}{s:SV}(h:Fk ts st x=some s):
  ∃ v,(Hz a.tmps x).run P w=.ok v w∧Rel F own w s v:=by
 cases x with
 |tmp n=>
  simp only[Fk,Option.some.injEq]at h
  subst h
  exact⟨_,rfl,hr.slots n⟩
 |cell q t=>
  simp only[Fk]at h
  cases hg:aB ts t fun ti=>lQ ti st.h (lk q st.t)with
  |val s'=>
   rw[hg]at h
   simp only[JG,Option.some.injEq]at h
   subst h
   obtain⟨ti,ht,he⟩:=bO hts hg (by simp)
   obtain⟨u,e1,e2⟩:=A2 (P:=P) hr.hp ht (hr.slots q) he
   refine⟨u,?_,e2⟩
   show(do loadVar t (←asAddr (a.tmps.getD q undef)):Sem Value).run P w=.ok u w
   generalize a.tmps.getD q undef=vq at e1 ⊢
   unfold Instr.loadAt at e1
   rw[Sem.run_bind]at e1 ⊢
   have hsure:∀ x w',(Instr.sureAddr vq).run P w=.ok x w'→(asAddr vq).run P w=.ok x w':=by
    intro x w' h
    unfold Instr.sureAddr at h
    split at h
    ·exact h
    ·simp[stuck]at h
   cases hsa:(Instr.sureAddr vq).run P w with
   |ok x w'=>rw[hsa]at e1;rw[hsure x w' hsa];exact e1
   |halt x w'=>rw[hsa]at e1;simp[Result.andThen]at e1
  |_=>rw[hg]at h;simp[JG]at h
theorem yV (hts:ts.ok P){own:Own}{st:St}{a:Act}{w:World}(hr:StRel F w0 N own st a w):∀ (rs:List ResultVar) (l:List SV),jG ts st rs=some l→
  ∃ vs:List Value,(rs.mapM (Hz a.tmps):Sem (List Value)).run P w=.ok vs w∧vs.length=l.length∧∀ (j:Nat) (s:SV),l[j]? =some s→∃ v,vs[j]? =some v∧Rel F own w s v
 | [],l,h=>by
  simp[jG]at h;subst h
  exact⟨[],by simp,rfl,fun j s hj=>by simp at hj⟩
 |x::r,l,h=>by
  simp only[jG]at h
  cases hv:Fk ts st x with
  |none=>rw[hv]at h;simp[AY]at h
  |some s0=>
   cases hl:jG ts st r with
   |none=>rw[hv,hl]at h;simp[AY]at h
   |some l'=>
    rw[hv,hl]at h
    simp only[AY,Option.some.injEq]at h
    subst h
    obtain⟨v0,f1,f2⟩:=FW (P:=P) hts hr hv
    obtain⟨vs,e1,e2,e3⟩:=yV hts hr r l' hl
    refine⟨v0::vs,?_,by simp[e2],fun j s hj=>?_⟩
    ·rw[List.mapM_cons]
     simp only[Sem.run_bind,f1,Sem.run_pure,Result.andThen_ok,e1]
    ·cases j with
     |zero=>simp at hj;subst hj;exact⟨_,rfl,f2⟩
     |succ j=>simp at hj;simpa using e3 j s hj
theorem s4 (hts:ts.ok P){fn:Func}{own:Own}{st:St}{a:Act}{w:World}(hr:StRel F w0 N own st a w){s:SV}(h:kK (jG ts st fn.results.toList)=some s):∃ u,(results fn a.tmps).run P w=.ok u w∧Rel F own w s u:=by
 cases hl:jG ts st fn.results.toList with
 |none=>rw[hl]at h;cases h
 |some l=>
  obtain⟨vs,e1,e2,e3⟩:=yV (P:=P) hts hr _ l hl
  rw[hl]at h
  have hres:(results fn a.tmps).run P w=.ok (if h:vs.toArray.size=1 then vs.toArray[0]else .tuple vs.toArray) w:=by
   rw[Dv,Array.mapM_eq_mapM_toList]
   simp only[Sem.run_bind,Sem.run_map,e1,Result.andThen_ok,Sem.run_pure]
  have hlen:vs.toArray.size=l.length:=by simpa using e2
  match l,h,e2,e3,hlen with
  | [s0],h,e2,e3,hlen=>
   simp only[kK,Option.some.injEq]at h
   subst h
   obtain⟨v,hv,hrel⟩:=e3 0 s0 rfl
   refine⟨v,?_,hrel⟩
   rw[hres,dif_pos (by rw[hlen];rfl)]
   congr 1
   have:=(List.getElem?_eq_some_iff.1 hv).2
   simpa using this
  | [],h,e2,e3,hlen=>
   simp only[kK,Option.some.injEq]at h
   subst h
   refine⟨.tuple vs.toArray,by rw[hres,dif_neg (by rw[hlen];simp)],.tup (by simpa using e2) fun j s hj=>by simp at hj⟩
  |s0::s1::r,h,e2,e3,hlen=>
   simp only[kK,Option.some.injEq]at h
   subst h
   refine⟨.tuple vs.toArray,by rw[hres,dif_neg (by rw[hlen];simp)],.tup (by simpa using e2) fun j s hj=>?_⟩
   obtain⟨v,hv,hrel⟩:=e3 j s hj
   have:vs.toArray.getD j undef=v:=by simp[Array.getD_eq_getD_getElem?,hv]
   rw[this]
   exact hrel
theorem jg {fn:Func}{own:Own}{st:St}{a:Act}{w:World}{R:Ending→World→Prop}(hr:StRel F w0 N own st a w){u:FrameMode}(hu:u≠ .run)
  (h:∀ w2,StRel F w0 N own st { a with defers:=w0.ds} w2→LeavesInM (rd none) nd P fn a.tmps R w0.ds u w2):LeavesInM (rd none) nd P fn a.tmps R a.defers u w:=by
 obtain⟨ms,Ds,h0,h1,h2,h3⟩:=hr.defers
 rw[h0]
 exact uh hu Ds ms w h1 h2 (fun D hD=>(h3 D hD).2.2) fun w2 hs=>h w2 (hr.shut h3 hs)
theorem l6 {w w':World}{own:Own}(h:Fr { w:=w,own:=cw} own w'):Below w.heap.size w w':=
 ⟨h.os,h.tape,h.output,h.size,fun k hk=>h.block k ⟨hk,fun⟨_,_,e,_⟩ =>by cases e⟩⟩
theorem l7 {own:Own}{w:World}{l:List SV}{vs:Array Value}(hvs:RelL F own w l vs)(n t:Nat):Rel F own w (lk t (j8 0 l)) ((vs++Array.replicate n undef).getD t undef):=by
 rw[By,if_pos (Nat.zero_le t),Nat.sub_zero]
 cases ht:l[t]? with
 |none=>exact .any _
 |some s=>
  have hlt:t<vs.size:=by rw[hvs.1];exact(List.getElem?_eq_some_iff.1 ht).1
  have:=hvs.2 t s ht
  rwa[ik (j:=t) (ws:=vs) (by rw[Array.getElem?_append_left hlt])]
theorem s5 {w:World}(hF:∀ b,F b→b<w.heap.size):Hp F cw w []:=
 ⟨fun _ _ h=>(by cases h),hF,fun _ _ _ h=>(by cases h),fun _ _ _ _ _ h=>(by cases h),fun _ _ _ h=>(by cases h),fun id h=>(by simp[ag,cn]at h)⟩
def fP (h:List Ob):Nat→SV→List Nat
 |_,.os id=>match aH 0 (p_ (ag h id))with| [] =>[] |_=>[id]
 |n+1,.agg l=>l.flatMap (fP h n)
 |n+1,.tup l=>l.flatMap (fP h n)
 |_,_=>[]
theorem uT (o:Ob):(∃ (k:Tag) (l:List k.T),o=.row k l∧p_ o=.nw k l)∨(∃ (k k2:Tag) (l:List (k.T×k2.T)),o=.mp k k2 l none∧p_ o=.nm k k2 l)∨(∃ (k:Tag) (l:List (List k.T)),o=.grid k l∧p_ o=.ng k l)∨p_ o=.any:=by
 cases o with
 |row k l=>exact .inl ⟨k,l,rfl,rfl⟩
 |mp k k2 l p=>
  cases p with
  |none=>exact .inr (.inl ⟨k,k2,l,rfl,rfl⟩)
  |some x=>exact .inr (.inr (.inr rfl))
 |grid k l=>exact .inr (.inr (.inl ⟨k,l,rfl,rfl⟩))
 |_=>exact .inr (.inr (.inr rfl))
theorem Dw:∀ (n:Nat) (s:SV),b8 n s=true→∀ m,aH m s=[]:=by
 intro n
 induction n with
 |zero=>intro s h m;cases s <;>simp[b8]at h <;>cases m <;>rfl
 |succ n ih=>
  intro s h m
  have hl:∀ (l:List SV) m,l.all (b8 n)=true→l.flatMap (aH m)=[]:=fun l m hl=>by
   rw[List.flatMap_eq_nil_iff]
   intro x hx
   rw[List.all_eq_true]at hl
   exact ih x (hl x hx) m
  cases s with
  |agg l=>cases m with
   |zero=>rfl
   |succ m=>exact hl l m h
  |tup l=>cases m with
   |zero=>rfl
   |succ m=>exact hl l m h
  |_=>first|(cases m <;>rfl) |simp[b8]at h
theorem yW {h:List Ob}:∀ (n:Nat) (s:SV),aH n (rt h n s)=(fP h n s).map (ag h)∧fP h n s ⊆ oZ n s∧(fP h n s).Sublist (oZ n s)∧∀ id∈fP h n s,Plain (ag h id):=by
 have hos:∀ (n id:Nat),aH n (p_ (ag h id))=(fP h n (.os id)).map (ag h)∧fP h n (.os id) ⊆ [id]∧(fP h n (.os id)).Sublist [id]∧∀ i∈fP h n (.os id),Plain (ag h i):=by
  intro n id
  have e:fP h n (.os id)=match aH 0 (p_ (ag h id))with| [] =>[] |_=>[id]:=by cases n <;>rfl
  rw[e]
  rcases uT (ag h id)with⟨k,l,e1,e2⟩ | ⟨k,k2,l,e1,e2⟩ | ⟨k,l,e1,e2⟩ |e2
  ·rw[e2];refine⟨?_,by simp[aH],by simp[aH],fun i hi=>?_⟩
   ·cases n <;>simp[aH,e1]
   ·simp[aH]at hi;subst hi;exact .inl ⟨k,l,e1⟩
  ·rw[e2];refine⟨?_,by simp[aH],by simp[aH],fun i hi=>?_⟩
   ·cases n <;>simp[aH,e1]
   ·simp[aH]at hi;subst hi;exact .inr (.inl ⟨k,k2,l,e1⟩)
  ·rw[e2];refine⟨?_,by simp[aH],by simp[aH],fun i hi=>?_⟩
   ·cases n <;>simp[aH,e1]
   ·simp[aH]at hi;subst hi;exact .inr (.inr ⟨k,l,e1⟩)
  ·rw[e2];refine⟨?_,by simp[aH],by simp[aH],fun i hi=>?_⟩
   ·cases n <;>rfl
   ·simp[aH]at hi
 have hleaf:∀ (n m:Nat) (s:SV),aH n (bif b8 m s then s else .any)=[]:=fun n m s=>by
  cases hb:b8 m s with
  |true=>exact Dw m s hb n
  |false=>cases n <;>rfl
 intro n
 induction n with
 |zero=>
  intro s
  cases s with
  |os id=>exact hos 0 id
  |_=>first|exact⟨rfl,by simp[fP,oZ],by simp[fP,oZ],fun i hi=>by simp[fP]at hi⟩ |exact⟨hleaf _ _ _,by simp[fP,oZ],by simp[fP,oZ],fun i hi=>by simp[fP]at hi⟩
 |succ n ih=>
  intro s
  have hl:∀ l:List SV,(l.map (rt h n)).flatMap (aH n)=(l.flatMap (fP h n)).map (ag h)∧l.flatMap (fP h n) ⊆ l.flatMap (oZ n)∧(l.flatMap (fP h n)).Sublist (l.flatMap (oZ n))∧∀ id∈l.flatMap (fP h n),Plain (ag h id):=by
   intro l
   induction l with
   |nil=>exact⟨rfl,by simp,by simp,fun i hi=>by simp at hi⟩
   |cons x r ihl=>
    obtain⟨q1,q2,q3,q4⟩:=ihl
    obtain⟨p1,p2,p3,p4⟩:=ih x
    refine⟨by simp only[List.map_cons,List.flatMap_cons,List.map_append,q1,p1],?_,?_,?_⟩
    ·simp only[List.flatMap_cons];intro i hi;rcases List.mem_append.1 hi with hi|hi
     ·exact List.mem_append_left _ (p2 hi)
     ·exact List.mem_append_right _ (q2 hi)
    ·simp only[List.flatMap_cons];exact p3.append q3
    ·simp only[List.flatMap_cons];intro i hi;rcases List.mem_append.1 hi with hi|hi
     ·exact p4 i hi
     ·exact q4 i hi
  cases s with
  |os id=>exact hos (n+1) id
  |agg l=>exact hl l
  |tup l=>exact hl l
  |_=>first|exact⟨rfl,by simp[fP,oZ],by simp[fP,oZ],fun i hi=>by simp[fP]at hi⟩ |exact⟨hleaf _ _ _,by simp[fP,oZ],by simp[fP,oZ],fun i hi=>by simp[fP]at hi⟩
theorem wS:∀ l:List Nat,uniq l=true→l.Nodup
 | [],_=>List.nodup_nil
 |a::r,h=>by
  simp only[uniq,Bool.and_eq_true]at h
  rw[List.nodup_cons]
  refine⟨fun hm=>?_,wS r h.2⟩
  rw[(qg a r).2 hm]at h;simp at h
theorem FX {own own':Own}{w:World}{h:List Ob}(hp:Hp F own w h)(hsh:∀ b,¬bZ F own b→¬bZ F own' b):∀ (n b:Nat) (s:SV) (v:Value),Rel F own w s v→(∀ i id,(fP h n s)[i]? =some id→own' (b+i)=own id)→qf F own' w n b (rt h n s) v:=by
 have hx:∀ c,¬bZ F own c→¬bZ (bZ F own') cw c:=fun c hc=>by
  rintro (hf| ⟨_,_,e,_⟩)
  ·exact hsh c hc hf
  ·cases e
 have hos:∀ (n b id:Nat) (v:Value),Rel F own w (.os id) v→(∀ i j,(fP h n (.os id))[i]? =some j→own' (b+i)=own j)→qf F own' w n b (p_ (ag h id)) v:=by
  intro n b id v hr hg
  have e:fP h n (.os id)=match aH 0 (p_ (ag h id))with| [] =>[] |_=>[id]:=by cases n <;>rfl
  rw[e]at hg
  cases hr with
  |os h1 h2=>
   rcases uT (ag h id)with⟨k,l,e1,e2⟩ | ⟨k,k2,l,e1,e2⟩ | ⟨k,l,e1,e2⟩ |e2
   all_goals rw[e2]at hg ⊢
   ·have:=hg 0 id (by simp[aH]);rw[Nat.add_zero]at this
    cases n <;>exact⟨_,by rw[this];exact h1,rfl,h2⟩
   ·have:=hg 0 id (by simp[aH]);rw[Nat.add_zero]at this
    cases n <;>exact⟨_,by rw[this];exact h1,rfl,h2⟩
   ·have:=hg 0 id (by simp[aH]);rw[Nat.add_zero]at this
    cases n <;>exact⟨_,by rw[this];exact h1,rfl,h2⟩
   ·cases n <;>exact Rel.any _
 have hleaf:∀ (n m b:Nat) (s:SV) (v:Value),Rel F own w s v→(∀ l,s≠ .agg l)→(∀ l,s≠ .tup l)→qf F own' w n b (bif b8 m s then s else .any) v:=by
  intro n m b s v hr n1 n2
  cases hb:b8 m s with
  |false=>cases n <;>exact Rel.any _
  |true=>
   have hr2:Rel (bZ F own') cw w s v:=hr.over (eS m s hb) hx
   simp only[cond_true]
   cases s with
   |agg l=>exact absurd rfl (n1 l)
   |tup l=>exact absurd rfl (n2 l)
   |nw k l=>cases hr
   |nm k k2 l=>cases hr
   |ng k l=>cases hr
   |_=>cases n <;>exact hr2
 intro n
 induction n with
 |zero=>
  intro b s v hr hg
  cases s with
  |os id=>exact hos 0 b id v hr hg
  |v x=>exact hr.over (.v x) hx
  |rs k l=>exact hr.over .rs hx
  |rm k k2 l=>exact hr.over .rm hx
  |e0=>exact hr.over .e0 hx
  |agg l=>exact Rel.any _
  |tup l=>exact Rel.any _
  |_=>exact hleaf 0 0 b _ v hr (fun _ e=>by cases e) (fun _ e=>by cases e)
 |succ n ih=>
  intro b s v hr hg
  have hl:∀ (l:List SV) (vs:Array Value) (b:Nat),(∀ (j:Nat) (s:SV),l[j]? =some s→Rel F own w s (vs.getD j undef))→(∀ i id,(l.flatMap (fP h n))[i]? =some id→own' (b+i)=own id)→
    ∀ (j:Nat) (s:SV),(l.map (rt h n))[j]? =some s→qf F own' w n (b+cnt n ((l.map (rt h n)).take j)) s (vs.getD j undef):=by
   intro l vs b h1 h2 j s hj
   obtain⟨x,hx2,rfl⟩:=cr hj
   refine ih _ x _ (h1 j x hx2) fun i id hi=>?_
   have hc:cnt n ((l.map (rt h n)).take j)=((l.take j).flatMap (fP h n)).length:=by
    rw[←List.map_take]
    generalize l.take j=m
    induction m with
    |nil=>rfl
    |cons y r ihm=>simp only[List.map_cons,cnt,List.flatMap_cons,List.length_append,ihm,(yW (h:=h) n y).1,List.length_map]
   rw[hc,Nat.add_assoc]
   refine h2 _ id ?_
   have hsplit:l=l.take j++(x::l.drop (j+1)):=by
    have hlt:=(List.getElem?_eq_some_iff.1 hx2).1
    have:=(List.getElem?_eq_some_iff.1 hx2).2
    rw[←this,List.getElem_cons_drop,List.take_append_drop]
   have hil:i< (fP h n x).length:=(List.getElem?_eq_some_iff.1 hi).1
   have hf:l.flatMap (fP h n)=(l.take j).flatMap (fP h n)++(fP h n x++(l.drop (j+1)).flatMap (fP h n)):=by rw[←List.flatMap_cons,←List.flatMap_append,←hsplit]
   rw[hf,List.getElem?_append_right (by omega),Nat.add_sub_cancel_left,List.getElem?_append_left hil]
   exact hi
  cases s with
  |os id=>exact hos (n+1) b id v hr hg
  |v x=>exact hr.over (.v x) hx
  |rs k l=>exact hr.over .rs hx
  |rm k k2 l=>exact hr.over .rm hx
  |e0=>exact hr.over .e0 hx
  |agg l=>cases hr with|agg h0 h1=>exact⟨_,rfl,by simpa using h0,hl l _ b h1 hg⟩
  |tup l=>cases hr with|tup h0 h1=>exact⟨_,rfl,by simpa using h0,hl l _ b h1 hg⟩
  |_=>exact hleaf (n+1) (n+1) b _ v hr (fun _ e=>by cases e) (fun _ e=>by cases e)
theorem EC {own:Own}{st:St}{a:Act}{w w':World}(hst:StRel F { w:=w,own:=cw} N own st a w'){s s2:SV}{u:Value}(hr:Rel F own w' s u)(hg:uL st.h s=some s2):∃ own',Handed F w own' w' s2 u:=by
 unfold uL at hg
 cases hb:uniq (oZ 3 s)&&(oZ 3 s).all (fun i=>Nat.blt i st.h.length)with
 |false=>rw[hb]at hg;cases hg
 |true=>
  rw[hb]at hg
  simp only[cond_true,Option.some.injEq]at hg;subst hg
  rw[Bool.and_eq_true]at hb
  obtain⟨g1,g2,g3,g4⟩:=yW (h:=st.h) 3 s
  have hnd:(fP st.h 3 s).Nodup:=(wS _ hb.1).sublist g3
  let own':Own:=fun i=>((fP st.h 3 s)[i]?).bind own
  have ho:∀ i hd,own' i=some hd→∃ id,(fP st.h 3 s)[i]? =some id∧own id=some hd:=fun i hd e=>by
   simp only[own',Option.bind_eq_some_iff]at e;exact e
  have hsh:∀ b,¬bZ F own b→¬bZ F own' b:=fun b hb=>by
   rintro (hf| ⟨i,hd,e,hm⟩)
   ·exact hb (.inl hf)
   ·obtain⟨id,_,e2⟩:=ho i hd e
    exact hb (.inr ⟨id,hd,e2,hm⟩)
  refine⟨own',⟨fun i hd e=>?_,hst.hp.foreign,fun i hd b e hm=>?_,fun i j hi hj b e1 e2 hb1 hb2=>?_,fun i hd b e hm=>?_,fun i hdd=>?_⟩,?_,fun i hd b e hm=>?_⟩
  ·obtain⟨id,e1,_⟩:=ho i hd e
   rw[g1,List.length_map];exact(List.getElem?_eq_some_iff.1 e1).1
  ·obtain⟨id,_,e2⟩:=ho i hd e;exact hst.hp.apart id hd b e2 hm
  ·obtain⟨k1,p1,p2⟩:=ho i hi e1
   obtain⟨k2,q1,q2⟩:=ho j hj e2
   have:=hst.hp.inj k1 k2 hi hj b p2 q2 hb1 hb2
   subst this
   exact mT hnd p1 q1
  ·obtain⟨id,_,e2⟩:=ho i hd e;exact hst.hp.lt id hd b e2 hm
  ·rw[g1]at hdd ⊢
   rw[lA]at hdd ⊢
   rw[List.getElem?_map]at hdd ⊢
   cases hi:(fP st.h 3 s)[i]? with
   |none=>rw[hi]at hdd;simp[cn]at hdd
   |some id=>
    rw[hi]at hdd
    simp only[Option.map_some,Option.getD_some]at hdd ⊢
    obtain⟨hd,e1,e2⟩:=hst.hp.obs id hdd
    refine⟨hd,by simp only[own',hi,Option.bind_some];exact e1,e2.over (g4 id (List.mem_of_getElem? hi)) (.inl hsh)⟩
  ·exact FX hst.hp hsh 3 0 s u hr fun i id hi=>by rw[Nat.zero_add];simp only[own',hi,Option.bind_some]
  ·obtain⟨id,_,e2⟩:=ho i hd e
   have:=hst.fr.base id hd b e2 hm
   rcases Nat.lt_or_ge b w.heap.size with hlt|hge
   ·exact absurd ⟨hlt,fun⟨_,_,e,_⟩ =>by cases e⟩ this
   ·exact hge
end
end Go.Sx
end
section
namespace Go.Sx
open Go.RowKit
section
variable {P:Program}{F:Nat→Prop}{w0:Bs}{ro:Option Nat}{nd:Nat}{ts:Tis}{G:Cons}{L:pm}{N:Nat}
theorem qj {w w':World}{s:SV}{u:Value}(hF:∀ b,F b→b<w'.heap.size)(h:Rel F cw w' s u):Handed F w cw w' s u:=by
 refine⟨?_,Hi 3 0 h,fun _ _ _ e=>(by cases e)⟩
 rw[wD 3 h]
 exact s5 hF
theorem HA (m:Bool) (hm:P.follows .mixedOrders=true) (hts:ts.ok P) (hG:ConsOk P G) {f:FuncId} {fn:Func} {c:Code} (hf:P.funcs[f]? =some fn) (hb:fn.body=some c) (hname:(fn.name== "runtime.NumGoroutine")=false)
  (hc:ct fn.ntmps c=true) {C:List SV→Option Con}
  (h:∀ l con,C l=some con→aG con→l.length≤fn.ntmps∧∃ L,al P none fn.ntmps L c∧exec ts G L c ⟨j8 0 l,[]⟩ (AZ m fn.results.toList ts (cX con) (jI con))):FnOk P f C:=by
 refine⟨fun l con _ args w=>?_,fun l con hcon hpre F w vs hF hvs=>?_⟩
 ·have hn:¬fn.name= "runtime.NumGoroutine":=by simpa using hname
  simp[callFunc,hf,hn,hb]
 ·obtain⟨hlen,L,hl,hx⟩:=h l con hcon hpre
  refine nq (n:=0) (callsIn_of_wp_marks hf hb trivial ?_)
  have hr:StRel F { w:=w,own:=cw} fn.ntmps cw ⟨j8 0 l,[]⟩ { tmps:=vs++Array.replicate (fn.ntmps - vs.size) undef,defers:=[]} w:=
   ⟨by have:=hvs.1;simp;omega,Dfr.nil,s5 hF,Fr.refl _,fun t=>l7 hvs _ t⟩
  refine wpIn_mono (mN hm hts hG c hc hl F _ _ hx cw _ w hr) ?_
  intro e a' w' hq
  have key:∀ F1 own st,(∀ b,F b→F1 b)→StRel F1 { w:=w,own:=cw} fn.ntmps own st a' w'→dv (cX con) (r6 m fn.results.toList ts st)→LeavesInM (rd none) 0 P fn a'.tmps
    (fun e w'=>(∃ s u own',cX con s∧e=.returned u∧Handed F w own' w' s u∧Below w.heap.size w w')∨(∃ x,jI con x∧e=.panicked [{ v:=x,recovered:=false}]∧Below w.heap.size w w')) a'.defers .returning w':=by
   intro F1 own st hF1 hst hdone
   refine jg hst (by simp) fun w2 hst2=>?_
   have hst3:=hst2.less hF1 rfl
   unfold r6 at hdone
   cases hs:kK (jG ts st fn.results.toList)with
   |none=>
    cases m <;>simp only[cond_true,cond_false,sI,Fl]at hdone <;>rw[hs]at hdone <;>exact hdone.elim
   |some s=>
    obtain⟨u,e1,e2⟩:=s4 (P:=P) hts hst3 hs
    refine⟨u,e1,.inl ?_⟩
    cases m with
    |false=>
     simp only[cond_false,sI]at hdone
     rw[hs]at hdone
     exact⟨_,u,cw,hdone,rfl,qj hst3.hp.foreign (qO hst3.hp 4 s u e2),l6 hst3.fr⟩
    |true=>
     simp only[cond_true,Fl]at hdone
     rw[hs]at hdone
     change dv (cX con) (uL st.h s)at hdone
     cases hg:uL st.h s with
     |none=>rw[hg]at hdone;exact hdone.elim
     |some s2=>
      rw[hg]at hdone
      obtain⟨own',hh⟩:=EC hst3 e2 hg
      exact⟨_,u,own',hdone,rfl,hh,l6 hst3.fr⟩
  cases e with
  |normal=>obtain⟨F1,own,st,h0,h1,h2⟩:=hq;exact key F1 own st h0 h1 h2
  |ret=>obtain⟨F1,own,st,h0,h1,h2⟩:=hq;exact key F1 own st h0 h1 h2
  |exit id=>obtain⟨F1,own,st,h0,h1,h2⟩:=hq;exact h2.elim
  |panic ch=>
   obtain⟨x,F1,own,st,h0,h1,h2,rfl⟩:=hq
   exact jg h1 (by simp) fun w2 hst2=>.inr ⟨x,h2,rfl,l6 hst2.fr⟩
  |_=>exact hq.elim
theorem J1 {js:List Nat}{n0:Nat}{own:Own}{h h':List Ob}{s s':SV}{w:World}(hs:Sub js n0 ⟨[(0,s)],h⟩ ⟨[(0,s')],h'⟩)(hp:Hp F own w h)(hfr:Fr w0 own w)(hn:∀ id hd,w0.own id=some hd→id<n0)(hle:n0≤h'.length){u:Value}(hr:Rel F own w s u):
  Rel F (ff js h' own) w s' u:=by
 obtain⟨_,_,_,q4⟩:=Aa hs hp hfr hn hle
 obtain⟨_,⟨⟨k1,k2⟩,_⟩,_⟩:=hs
 have e:s=ren (vn js) 5 s':=by simpa[lk]using k1
 rw[e]at hr
 exact q4 5 s' u k2 hr
theorem wT (hm:P.follows .mixedOrders=true) (hts:ts.ok P) (hG:ConsOk P G) {f:FuncId} {fn:Func} {c:Code} (hf:P.funcs[f]? =some fn) (hb:fn.body=some c) (hname:(fn.name== "runtime.NumGoroutine")=false)
  (hc:ct fn.ntmps c=true) {C:List SV→List Ob→Option HCon}
  (h:∀ l o con,C l o=some con→con.pre→l.length≤fn.ntmps∧∃ L Qx,al P none fn.ntmps L c∧(∀ e st,Qx e st→A0 o.length fn.results.toList ts con e st)∧exec ts G L c ⟨j8 0 l,o⟩ Qx):FnOkO P f C:=by
 refine⟨fun l o con _ args w=>?_,fun l o con hcon hpre F own w vs hp hvs=>?_⟩
 ·have hn:¬fn.name= "runtime.NumGoroutine":=by simpa using hname
  simp[callFunc,hf,hn,hb]
 ·obtain⟨hlen,L,Qx,hl,hQ,hx⟩:=h l o con hcon hpre
  have hn0:∀ id hd,own id=some hd→id<o.length:=fun id hd e=>hp.dom id hd e
  refine nq (n:=0) (callsIn_of_wp_marks hf hb trivial ?_)
  have hr:StRel F { w:=w,own:=own} fn.ntmps own ⟨j8 0 l,o⟩ { tmps:=vs++Array.replicate (fn.ntmps - vs.size) undef,defers:=[]} w:=
   ⟨by have:=hvs.1;simp;omega,Dfr.nil,hp,Fr.refl { w:=w,own:=own},fun t=>l7 hvs _ t⟩
  refine wpIn_mono (mN hm hts hG c hc hl F _ _ hx own _ w hr) ?_
  intro e a' w' hq
  replace hq:=oC hQ _ _ _ hq
  have key:∀ F1 own' st,(∀ b,F b→F1 b)→StRel F1 { w:=w,own:=own} fn.ntmps own' st a' w'→sJ o.length con (kK (jG ts st fn.results.toList)) st.h→LeavesInM (rd none) 0 P fn a'.tmps (fun e w'=>∃ r own',con.post r∧Db F w own o.length e own' w' (con.res r)) a'.defers .returning w':=by
   intro F1 own' st hF1 hst hdone
   refine jg hst (by simp) fun w2 hst2=>?_
   have hst3:=hst2.less hF1 rfl
   cases hs:kK (jG ts st fn.results.toList)with
   |none=>rw[hs]at hdone;exact hdone.elim
   |some s=>
    rw[hs]at hdone
    obtain⟨r,s',h',js,q1,q2,q3,q4⟩:=hdone
    obtain⟨u,e1,e2⟩:=s4 (P:=P) hts hst3 hs
    obtain⟨k1,k2,_,_⟩:=Aa q4 hst3.hp hst3.fr hn0 q3
    refine⟨u,e1,r,ff js h' own',q1,?_⟩
    rw[q2]
    exact⟨⟨u,rfl,J1 q4 hst3.hp hst3.fr hn0 q3 e2⟩,k1,k2,q3⟩
  cases e with
  |normal=>obtain⟨F1,own',st,h0,h1,h2⟩:=hq;exact key F1 own' st h0 h1 h2
  |ret=>obtain⟨F1,own',st,h0,h1,h2⟩:=hq;exact key F1 own' st h0 h1 h2
  |exit id=>obtain⟨F1,own',st,h0,h1,h2⟩:=hq;exact h2.elim
  |panic ch=>
   obtain⟨x,F1,own',st,h0,h1,⟨r,h',js,q1,q2,q3,q4⟩,rfl⟩:=hq
   refine jg h1 (by simp) fun w2 hst2=>?_
   have hst3:=hst2.less h0 rfl
   obtain⟨k1,k2,_,_⟩:=Aa q4 hst3.hp hst3.fr hn0 q3
   refine⟨r,ff js h' own',q1,?_⟩
   rw[q2]
   exact⟨rfl,k1,k2,q3⟩
  |_=>exact hq.elim
theorem Bz (hm:P.follows .mixedOrders=true) (hts:ts.ok P) (hG:ConsOk P G) {f:FuncId} {fn:Func} {c:Code} (hf:P.funcs[f]? =some fn) (hb:fn.body=some c) (hname:(fn.name== "runtime.NumGoroutine")=false)
  (hc:ct fn.ntmps c=true) {C:List SV→List Ob→Option HCon}
  (h:∀ l o con,C l o=some con→con.pre→l.length≤fn.ntmps∧∃ L,al P none fn.ntmps L c∧exec ts G L c ⟨j8 0 l,o⟩ (A0 o.length fn.results.toList ts con)):FnOkO P f C:=
 wT hm hts hG hf hb hname hc fun l o con h1 h2=>by
  obtain⟨h3,L,h4,h5⟩:=h l o con h1 h2
  exact⟨h3,L,_,h4,fun _ _ q=>q,h5⟩
theorem StRel.base_lt {own:Own}{st:St}{a:Act}{w:World}(h:StRel F w0 N own st a w):∀ id hd,w0.own id=some hd→id<st.h.length:=fun id hd e=>by
 obtain⟨hd',e',_⟩:=h.fr.ids id hd e
 exact h.hp.dom id hd' e'
theorem BA {ts:Tis}{G:Cons}{ro:Option Nat}{N:Nat}(hm:P.follows .mixedOrders=true)(hts:ts.ok P)(hG:ConsOk P G){id:Nat}{c:Code}(hc:ct N c=true){C:St→Option LCon}
  (h:∀ st lc,C st=some lc→lc.pre→∃ (σ:Type) (D:σ→St) (I:σ→Prop) (m:σ→Nat) (x0:σ) (js:List Nat),I x0∧st.h.length≤(D x0).h.length∧Sub js st.h.length st (D x0)∧
   ∀ x,I x→∃ L Qx,al P ro N L c∧(∀ e st',Qx e st'→o4 D I m st.h.length x id (fun e st'=>∃ r js,lc.post r∧lc.ex r=e∧st.h.length≤(lc.out r).h.length∧Sub js st.h.length st' (lc.out r)) e st')∧exec ts G L c (D x) Qx):iX P ro N id (.loop c) C:=by
 intro nd F w0 st lc hC hpre own a w hr
 obtain⟨σ,D,I,m,x0,js,h1,h2,h3,h4⟩:=h st lc hC hpre
 refine wpIn_mono (yU hm hts hG hc D I m st.h.length hr.base_lt _ h4 x0 h1 _ a w (hr.sub h3 hr.base_lt h2)) ?_
 intro e a' w' hq
 have key:∀ ex F1 own' st',StRel F1 w0 N own' st' a' w'→(∃ r js,lc.post r∧lc.ex r=ex∧st.h.length≤(lc.out r).h.length∧Sub js st.h.length st' (lc.out r))→∃ own2 st2,StRel F1 w0 N own2 st2 a' w'∧∃ r,lc.post r∧ex=lc.ex r∧st2=lc.out r:=by
  rintro ex F1 own' st' hst ⟨r,js,q1,q2,q3,q4⟩
  exact⟨_,_,hst.sub q4 hr.base_lt q3,r,q1,q2.symm,rfl⟩
 cases e with
 |normal=>obtain⟨F1,own',st',h0,k1,k2⟩:=hq;obtain⟨own2,st2,q1,q2⟩:=key _ F1 own' st' k1 k2;exact⟨F1,own2,st2,h0,q1,q2⟩
 |exit j=>obtain⟨F1,own',st',h0,k1,k2⟩:=hq;obtain⟨own2,st2,q1,q2⟩:=key _ F1 own' st' k1 k2;exact⟨F1,own2,st2,h0,q1,q2⟩
 |ret=>obtain⟨F1,own',st',h0,k1,k2⟩:=hq;obtain⟨own2,st2,q1,q2⟩:=key _ F1 own' st' k1 k2;exact⟨F1,own2,st2,h0,q1,q2⟩
 |panic ch=>
  obtain⟨x,F1,own',st',h0,k1,k2,k3⟩:=hq
  obtain⟨own2,st2,q1,q2⟩:=key _ F1 own' st' k1 k2
  exact⟨x,F1,own2,st2,h0,q1,q2,k3⟩
 |_=>exact hq.elim
end
end Go.Sx
end
section
namespace Go.Sx
def Dx (k:TI→OR):Option TI→OR
 |some i=>k i
 |none=>.bad
section
variable {ts:Tis}{G:Cons}{L:pm}{t:List (Nat×SV)}{h:List Ob}{Q:Ex→St→Prop}{K:St→Prop}{Z:Value→St→Prop}{ops rest:List Oper}{nx:Nat}
variable {st st':St}
@[congr] theorem MS {c:Code}(e:st=st'):exec ts G L c st Q=exec ts G L c st' Q:=by rw[e]
@[congr] theorem Jh (e:st=st'):fw ts G ops rest st K Z=fw ts G ops rest st' K Z:=by rw[e]
@[congr] theorem LS {i b:Nat}{fps fps':List Fp}(e0:fps=fps')(e:st=st'):gK ts G ops K Z rest i b fps st=gK ts G ops K Z rest i b fps' st':=by rw[e,e0]
@[congr] theorem LU {d:Option Nat}{r r':OR}(e:r=r'):ij G d st K Z r=ij G d st K Z r':=by rw[e]
@[congr] theorem LV {d:Option Nat}{g:Nat×Bool}{r r':OR}(e:r=r'):stepG G ops g d st K Z r=stepG G ops g d st K Z r':=by rw[e]
@[congr] theorem J2 {d:Option Nat}{next:List Nat→List Up→St→Prop}{p:Prop}{r r':Option Dr}(e:r=r'):rZ d st next p r=rZ d st next p r':=by rw[e]
@[congr] theorem J3 {d:Option Nat}{g:Nat×Bool}{next:List Nat→List Up→St→Prop}{p:Prop}{r r':Option Dr}(e:r=r'):p8 ops g d st next p r=p8 ops g d st next p r':=by rw[e]
@[congr] theorem LW {x y:(Ex→St→Prop)→Prop}{Q:Ex→St→Prop}{s s':SV}{c c':Option LCon}(e:s=s')(e2:c=c'):wh x y Q s c=wh x y Q s' c':=by rw[e,e2]
@[congr] theorem LX {x:(Ex→St→Prop)→Prop}{Q:Ex→St→Prop}{c c':Option LCon}(e:c=c'):wi x Q c=wi x Q c':=by rw[e]
@[congr] theorem LY {c c':Option LCon}(e:c=c'):nh Q c=nh Q c':=by rw[e]
@[go_sem] theorem OJ:exec ts G L .skip ⟨t,h⟩ Q=Q .normal ⟨t,h⟩:=(rfl)
@[go_sem] theorem LZ {id:Nat}{a:Array Oper}{d:Bool}:exec ts G L (.region id a d) ⟨t,h⟩ Q=wi (uK ts G a d ⟨t,h⟩) Q (L (id+2000000) ⟨t,h⟩):=(rfl)
@[go_sem] theorem L1:uK ts G ops.toArray false ⟨t,h⟩ Q=fw ts G ops ops ⟨t,h⟩ (fun st'=>Q .normal (p9 ops st')) (fun x st'=>Q (.pan x) st'):=(rfl)
@[go_sem] theorem MT {x:(Ex→St→Prop)→Prop}:wi x Q none=x Q:=(rfl)
@[go_sem] theorem MU {d:St}:inC d Q .normal ⟨t,h⟩=(h=d.h∧subJ t d.t):=(rfl)
@[go_sem] theorem SM {d st:St}{x:Value}:inC d Q (.pan x) st=Q (.pan x) st:=(rfl)
@[go_sem] theorem QW {a b:Code}:exec ts G L (.seq a b) ⟨t,h⟩ Q=exec ts G L a ⟨t,h⟩ (Ex.then (fun st'=>exec ts G L b st' Q) Q):=(rfl)
@[go_sem] theorem OK {c:Operand}{x y:Code}:exec ts G L (.cond c x y) ⟨t,h⟩ Q=wh (exec ts G L x ⟨t,h⟩) (exec ts G L y ⟨t,h⟩) Q (raw t c) (L (G0 c) ⟨t,h⟩):=(rfl)
@[go_sem] theorem MV {x y:(Ex→St→Prop)→Prop}{s:SV}:wh x y Q s none=rq (x Q) (y Q) s:=(rfl)
@[go_sem] theorem QX {x y:(Ex→St→Prop)→Prop}{s:SV}{d:St}:wh x y Q s (some (JC d))=(rq (x (inJ d)) (y (inJ d)) s∧Q .normal d):=by
 have e:(fun e st=>∃ r,(JC d).post r∧inJ ((JC d).out r) e st)=inJ d:=by
  funext e st
  exact propext ⟨fun⟨_,_,h⟩ =>h,fun h=>⟨(),trivial,h⟩⟩
 show G1 x y Q s (JC d)=_
 unfold G1
 rw[e]
 exact propext ⟨fun h=>⟨h.1,h.2 () trivial⟩,fun h=>⟨h.1,fun _ _=>h.2⟩⟩
@[go_sem] theorem QY {n:Nat}:G0 (.tmp n)=n+1000000:=(rfl)
@[go_sem] theorem MW {d:St}:inJ d .normal ⟨t,h⟩=(h=d.h∧subJ t d.t):=(rfl)
@[go_sem] theorem QZ:subJ t []=True:=(rfl)
@[go_sem] theorem OL {n:Nat}{s:SV}{r:List (Nat×SV)}:subJ t ((n,s)::r)=(lk n t=s∧subJ t r):=(rfl)
@[go_sem] theorem HB {id:Nat}{c:Code}:exec ts G L (.block id (.loop c)) ⟨t,h⟩ Q=nh Q (L id ⟨t,h⟩):=(rfl)
@[go_sem] theorem Gv {id:Nat}{f:Operand}{ps:Array Tmp}{a b:Code}:exec ts G L (.block id (.rangeFunc f ps a b)) ⟨t,h⟩ Q=nh Q (L id ⟨t,h⟩):=(rfl)
@[go_sem] theorem HC {id:Nat}{a b:Code}:exec ts G L (.block id (.seq a b)) ⟨t,h⟩ Q=exec ts G L (.seq a b) ⟨t,h⟩ (Ex.block id Q):=(rfl)
@[go_sem] theorem Gw {id:Nat}{c:Operand}{a b:Code}:exec ts G L (.block id (.cond c a b)) ⟨t,h⟩ Q=exec ts G L (.cond c a b) ⟨t,h⟩ (Ex.block id Q):=(rfl)
@[go_sem] theorem ED {id j:Nat}{a:Array Oper}{d:Bool}:exec ts G L (.block id (.region j a d)) ⟨t,h⟩ Q=exec ts G L (.region j a d) ⟨t,h⟩ (Ex.block id Q):=(rfl)
@[go_sem] theorem Gx {id:Nat}:exec ts G L (.block id .skip) ⟨t,h⟩ Q=exec ts G L .skip ⟨t,h⟩ (Ex.block id Q):=(rfl)
@[go_sem] theorem OM {id:Nat}:exec ts G L (.exit id) ⟨t,h⟩ Q=Q (.exit id) ⟨t,h⟩:=(rfl)
@[go_sem] theorem Q0:exec ts G L .ret ⟨t,h⟩ Q=Q .ret ⟨t,h⟩:=(rfl)
@[go_sem] theorem FY {id:Nat}{c:Code}:exec ts G L (.block id (.scope c)) ⟨t,h⟩ Q=exec ts G L (.scope c) ⟨t,h⟩ (Ex.block id Q):=(rfl)
@[go_sem] theorem FZ {id l:Nat}:exec ts G L (.block id (.label l)) ⟨t,h⟩ Q=exec ts G L (.label l) ⟨t,h⟩ (Ex.block id Q):=(rfl)
@[go_sem] theorem MX {c:Code}:exec ts G L (.scope c) ⟨t,h⟩ Q=exec ts G L c ⟨t,h⟩ Q:=(rfl)
@[go_sem] theorem MY {l:Nat}:exec ts G L (.label l) ⟨t,h⟩ Q=Q .normal ⟨t,h⟩:=(rfl)
@[go_sem] theorem L2 {st:St}:Ex.then K Q .normal st=K st:=(rfl)
@[go_sem] theorem Q1 {st:St}:Ex.then K Q .ret st=Q .ret st:=(rfl)
@[go_sem] theorem ON {st:St}{j:Nat}:Ex.then K Q (.exit j) st=Q (.exit j) st:=(rfl)
@[go_sem] theorem J4 {st:St}{id:Nat}:Ex.block id Q .normal st=Q .normal st:=(rfl)
@[go_sem] theorem OO {st:St}{id:Nat}:Ex.block id Q .ret st=Q .ret st:=(rfl)
@[go_sem] theorem Q2 {st:St}{v:Value}:Ex.then K Q (.pan v) st=Q (.pan v) st:=(rfl)
@[go_sem] theorem OP {st:St}{id:Nat}{v:Value}:Ex.block id Q (.pan v) st=Q (.pan v) st:=(rfl)
@[go_sem] theorem MZ {st:St}{id j:Nat}:Ex.block id Q (.exit j) st=bif Nat.beq j id then Q .normal st else Q (.exit j) st:=(rfl)
@[go_sem] theorem SN {x y:Prop}{b:Bool}:rq x y (.v (.bool b))=((b=true→x)∧(b=false→y)):=(rfl)
@[go_sem] theorem M0 {α:Type}{pre:Prop}{post:α→Prop}{ex:α→Ex}{out:α→St}:nh Q (some ⟨α,pre,post,ex,out⟩)=(pre∧∀ r,post r→Q (ex r) (out r)):=(rfl)
@[go_sem] theorem M3:uK ts G ops.toArray true ⟨t,h⟩ Q=gK ts G ops (fun st'=>Q .normal (p9 ops st')) (fun x st'=>Q (.pan x) st') ops 0 0 [] ⟨t,h⟩:=(rfl)
@[go_sem] theorem L3:fw ts G ops [] ⟨t,h⟩ K Z=K ⟨t,h⟩:=(rfl)
@[go_sem] theorem J5 {d:Option Nat}{op:Op}{ty:TypeId}{pos:String}{af:Array Edge}:fw ts G ops (⟨d,op,ty,pos,af,none⟩::rest) ⟨t,h⟩ K Z=ij G d ⟨t,h⟩ (fun st'=>fw ts G ops rest st' K Z) Z (opS ⟨ts,ops,none,⟨t,h⟩,h.length⟩ op):=(rfl)
@[go_sem] theorem M4 {i b:Nat}{fps:List Fp}{d:Option Nat}{op:Op}{ty:TypeId}{pos:String}{af:Array Edge}:gK ts G ops K Z (⟨d,op,ty,pos,af,none⟩::rest) i b fps ⟨t,h⟩=rZ d ⟨t,h⟩ (fun all ups st'=>gK ts G ops K Z rest (i+1) b (fps++[fpU op (fpO ⟨ts,ops,none,⟨t,h⟩,h.length⟩ op) all ups]) st') (nf ops b fps∧we ops i=true∧ij G d ⟨t,h⟩ (fun st'=>gK ts G ops K Z rest (i+1) (i+1) [] st') Z (opS ⟨ts,ops,none,⟨t,h⟩,h.length⟩ op)) (gm G h h.length (opS ⟨ts,ops,none,⟨t,h⟩,h.length⟩ op)):=(rfl)
@[go_sem] theorem J6 {d:Option Nat}{op:Op}{ty:TypeId}{pos:String}{af:Array Edge}{g:Nat×Bool}:fw ts G ops (⟨d,op,ty,pos,af,some g⟩::rest) ⟨t,h⟩ K Z=stepG G ops g d ⟨t,h⟩ (fun st'=>fw ts G ops rest st' K Z) Z (opS ⟨ts,ops,some g,⟨t,h⟩,h.length⟩ op):=(rfl)
@[go_sem] theorem M5 {i b:Nat}{fps:List Fp}{d:Option Nat}{op:Op}{ty:TypeId}{pos:String}{af:Array Edge}{g:Nat×Bool}:gK ts G ops K Z (⟨d,op,ty,pos,af,some g⟩::rest) i b fps ⟨t,h⟩=p8 ops g d ⟨t,h⟩ (fun all ups st'=>gK ts G ops K Z rest (i+1) b (fps++[fpU op (fpO ⟨ts,ops,some g,⟨t,h⟩,h.length⟩ op) all ups]) st') (nf ops b fps∧we ops i=true∧stepG G ops g d ⟨t,h⟩ (fun st'=>gK ts G ops K Z rest (i+1) (i+1) [] st') Z (opS ⟨ts,ops,some g,⟨t,h⟩,h.length⟩ op)) (gm G h h.length (opS ⟨ts,ops,some g,⟨t,h⟩,h.length⟩ op)):=(rfl)
@[go_sem] theorem OQ {i b:Nat}{fps:List Fp}:gK ts G ops K Z [] i b fps ⟨t,h⟩=(nf ops b fps∧K ⟨t,h⟩):=(rfl)
@[go_sem] theorem OS {d:Nat}{s:SV}:ij G (some d) ⟨t,h⟩ K Z (.val s)=K ⟨(d,s)::t,h⟩:=(rfl)
@[go_sem] theorem OT {d:Nat}{s:SV}{c:Prop}:ij G (some d) ⟨t,h⟩ K Z (.chk c s)=(c∧K ⟨(d,s)::t,h⟩):=(rfl)
@[go_sem] theorem OU {d:Nat}{s:SV}{c:Prop}:ij G (some d) ⟨t,h⟩ K Z (.asm c s)=(c→K ⟨(d,s)::t,h⟩):=(rfl)
@[go_sem] theorem M6 {d:Nat}{s:SV}:ij G (some d) ⟨t,h⟩ K Z (.newr s)=K ⟨(d,s)::t,h⟩:=(rfl)
@[go_sem] theorem OV {d:Nat}{s:SV}{c a:Prop}{ups:List Up}:ij G (some d) ⟨t,h⟩ K Z (.eff c a ups s)=(c∧(a→K ⟨(d,s)::t,aY h ups⟩)):=(rfl)
@[go_sem] theorem OW {d:Nat}{g:Nat×Bool}:stepG G ops g (some d) ⟨t,h⟩ K Z .bad=(rY ops t ops.length g∧K ⟨(d,.gd g.1 g.2 .any)::t,h⟩):=(rfl)
@[go_sem] theorem M7 {g:Nat×Bool}:stepG G ops g none ⟨t,h⟩ K Z .bad=(rY ops t ops.length g∧K ⟨t,h⟩):=(rfl)
@[go_sem] theorem OX {d:Nat}{s:SV}{g:Nat×Bool}:stepG G ops g (some d) ⟨t,h⟩ K Z (.val s)=K ⟨(d,.gd g.1 g.2 s)::t,h⟩:=(rfl)
@[go_sem] theorem OY {d:Nat}{s:SV}{g:Nat×Bool}{c:Prop}:stepG G ops g (some d) ⟨t,h⟩ K Z (.chk c s)=((dQ ops t ops.length g→c)∧K ⟨(d,.gd g.1 g.2 s)::t,h⟩):=(rfl)
@[go_sem] theorem OZ {d:Nat}{s:SV}{g:Nat×Bool}{c:Prop}:stepG G ops g (some d) ⟨t,h⟩ K Z (.asm c s)=K ⟨(d,.gd g.1 g.2 s)::t,h⟩:=(rfl)
@[go_sem] theorem M8 {d:Nat}{s:SV}{g:Nat×Bool}:stepG G ops g (some d) ⟨t,h⟩ K Z (.newr s)=K ⟨(d,.gd g.1 g.2 s)::t,h⟩:=(rfl)
@[go_sem] theorem O0 {d:Nat}{s:SV}{g:Nat×Bool}{c a:Prop}{ups:List Up}:stepG G ops g (some d) ⟨t,h⟩ K Z (.eff c a ups s)=((dQ ops t ops.length g→c∧(a→K ⟨(d,.gd g.1 g.2 s)::t,aY h ups⟩))∧(iV ops t ops.length g→K ⟨(d,.gd g.1 g.2 .any)::t,h⟩)):=(rfl)
@[go_sem] theorem O1 {c:Option HCon}{np:Bool}{ids:List Nat}{d:Nat}{s:SV}{p:Prop}:pZ np ids (some d) ⟨t,h⟩ K Z c (some (.det p s))=bif np||ez 3 s then(p∧K ⟨(d,fe 3 h.length s)::t,h++aH 3 s⟩)else sH ids (some d) ⟨t,h⟩ K Z c:=(rfl)
@[go_sem] theorem O2 {c:Option HCon}{np:Bool}{ids:List Nat}{d:Nat}{α:Type}{pre:Prop}{post:α→Prop}{out:α→SV}:pZ np ids (some d) ⟨t,h⟩ K Z c (some (.rel α pre post out))=(pre∧(bif np then ∀ r,post r→K ⟨(d,fe 3 h.length (out r))::t,h++aH 3 (out r)⟩else False)):=(rfl)
@[go_sem] theorem O3 {c:Option HCon}{np:Bool}{ids:List Nat}{d:Nat}{s:SV}{ok:Bool}{x:Value}:pZ np ids (some d) ⟨t,h⟩ K Z c (some (.may ok s x))=(bif np||ez 3 s then(ok=true→K ⟨(d,fe 3 h.length s)::t,h++aH 3 s⟩)∧(ok=false→Z x ⟨ungd t,h⟩)else False):=(rfl)
@[go_sem] theorem Q3 {ids:List Nat}{d:Nat}{s:SV}{h':List Ob}:CP ids (some d) ⟨t,h⟩ K Z (.ret s h')=K ⟨(d,ren (mK ids h.length) 3 s)::t,iS ids h.length h 0 h'⟩:=(rfl)
@[go_sem] theorem Q4 {ids:List Nat}{d:Nat}{s:SV}{h':List Ob}{g:Nat×Bool}:Fj ids g (some d) ⟨t,h⟩ K Z (.ret s h')=K ⟨(d,.gd g.1 g.2 (ren (mK ids h.length) 3 s))::t,iS ids h.length h 0 h'⟩:=(rfl)
@[go_sem] theorem L4 {ids:List Nat}{d:Nat}{o:HCon}{g:Nat×Bool}:t7 ids ops g (some d) ⟨t,h⟩ K Z (some o)=((dQ ops t ops.length g→o.pre∧∀ r,o.post r→Fj ids g (some d) ⟨t,h⟩ K Z (o.res r))∧(iV ops t ops.length g→K ⟨(d,.gd g.1 g.2 .any)::t,h⟩)):=(rfl)
@[go_sem] theorem O4 {c:Option HCon}{np:Bool}{ids:List Nat}{d:Nat}{s:SV}{g:Nat×Bool}{p:Prop}:wg np ids ops g (some d) ⟨t,h⟩ K Z c (some (.det p s))=((dQ ops t ops.length g→p)∧(bif(np||ez 3 s)&&(aH 3 s).isEmpty then K ⟨(d,.gd g.1 g.2 s)::t,h⟩else False)):=(rfl)
@[go_sem] theorem O5 {id:Nat}{d:Nat}{α:Type}{pre:Prop}{post:α→Prop}{res:α→Bool×Res}:CQ id (some d) ⟨t,h⟩ K (some ⟨α,pre,post,res⟩)=(pre∧∀ r,post r→K ⟨(d,.b (res r).1)::t,bF h id (.ab (res r).2)⟩):=(rfl)
@[go_sem] theorem O6 {id:Nat}{d:Nat}{α:Type}{pre:Prop}{post:α→Prop}{res:α→Bool×Res}{g:Nat×Bool}:AX id ops g (some d) ⟨t,h⟩ K (some ⟨α,pre,post,res⟩)=((dQ ops t ops.length g→pre∧∀ r,post r→K ⟨(d,.gd g.1 g.2 (.b (res r).1))::t,bF h id (.ab (res r).2)⟩)∧(iV ops t ops.length g→K ⟨(d,.gd g.1 g.2 .any)::t,h⟩)):=(rfl)
@[go_sem] theorem Uq {K0:Prop}{d:Nat}{next:List Nat→List Up→St→Prop}{c a:Prop}{s:SV}{ups:List Up}{all:List Nat}:rZ (some d) ⟨t,h⟩ next K0 (some ⟨c,a,s,ups,all⟩)=(c∧(a→next all ups ⟨(d,s)::t,aY h ups⟩)):=(rfl)
@[go_sem] theorem Ur {K0:Prop}{d:Nat}{next:List Nat→List Up→St→Prop}{c a:Prop}{s:SV}{ups:List Up}{all:List Nat}{g:Nat×Bool}:p8 ops g (some d) ⟨t,h⟩ next K0 (some ⟨c,a,s,ups,all⟩)=bif ups.isEmpty then(dQ ops t ops.length g→c)∧next all [] ⟨(d,.gd g.1 g.2 s)::t,h⟩else False:=(rfl)
@[go_sem] theorem M9 {s:SV}:ij G none ⟨t,h⟩ K Z (.val s)=K ⟨t,h⟩:=(rfl)
@[go_sem] theorem M_ {s:SV}{c:Prop}:ij G none ⟨t,h⟩ K Z (.chk c s)=(c∧K ⟨t,h⟩):=(rfl)
@[go_sem] theorem Na {s:SV}{c:Prop}:ij G none ⟨t,h⟩ K Z (.asm c s)=(c→K ⟨t,h⟩):=(rfl)
@[go_sem] theorem L5 {s:SV}:ij G none ⟨t,h⟩ K Z (.newr s)=K ⟨t,h⟩:=(rfl)
@[go_sem] theorem Nb {s:SV}{c a:Prop}{ups:List Up}:ij G none ⟨t,h⟩ K Z (.eff c a ups s)=(c∧(a→K ⟨t,aY h ups⟩)):=(rfl)
@[go_sem] theorem Nc {s:SV}{g:Nat×Bool}:stepG G ops g none ⟨t,h⟩ K Z (.val s)=K ⟨t,h⟩:=(rfl)
@[go_sem] theorem Nd {s:SV}{g:Nat×Bool}{c:Prop}:stepG G ops g none ⟨t,h⟩ K Z (.chk c s)=((dQ ops t ops.length g→c)∧K ⟨t,h⟩):=(rfl)
@[go_sem] theorem Nf {s:SV}{g:Nat×Bool}{c:Prop}:stepG G ops g none ⟨t,h⟩ K Z (.asm c s)=K ⟨t,h⟩:=(rfl)
@[go_sem] theorem L6 {s:SV}{g:Nat×Bool}:stepG G ops g none ⟨t,h⟩ K Z (.newr s)=K ⟨t,h⟩:=(rfl)
@[go_sem] theorem Ng {s:SV}{g:Nat×Bool}{c a:Prop}{ups:List Up}:stepG G ops g none ⟨t,h⟩ K Z (.eff c a ups s)=((dQ ops t ops.length g→c∧(a→K ⟨t,aY h ups⟩))∧(iV ops t ops.length g→K ⟨t,h⟩)):=(rfl)
@[go_sem] theorem Nh {c:Option HCon}{np:Bool}{ids:List Nat}{s:SV}{p:Prop}:pZ np ids none ⟨t,h⟩ K Z c (some (.det p s))=bif np||ez 3 s then(p∧K ⟨t,h++aH 3 s⟩)else sH ids none ⟨t,h⟩ K Z c:=(rfl)
@[go_sem] theorem Ni {c:Option HCon}{np:Bool}{ids:List Nat}{α:Type}{pre:Prop}{post:α→Prop}{out:α→SV}:pZ np ids none ⟨t,h⟩ K Z c (some (.rel α pre post out))=(pre∧(bif np then ∀ r,post r→K ⟨t,h++aH 3 (out r)⟩else False)):=(rfl)
@[go_sem] theorem Nj {c:Option HCon}{np:Bool}{ids:List Nat}{s:SV}{ok:Bool}{x:Value}:pZ np ids none ⟨t,h⟩ K Z c (some (.may ok s x))=(bif np||ez 3 s then(ok=true→K ⟨t,h++aH 3 s⟩)∧(ok=false→Z x ⟨ungd t,h⟩)else False):=(rfl)
@[go_sem] theorem O7 {ids:List Nat}{s:SV}{h':List Ob}:CP ids none ⟨t,h⟩ K Z (.ret s h')=K ⟨t,iS ids h.length h 0 h'⟩:=(rfl)
@[go_sem] theorem O8 {ids:List Nat}{s:SV}{h':List Ob}{g:Nat×Bool}:Fj ids g none ⟨t,h⟩ K Z (.ret s h')=K ⟨t,iS ids h.length h 0 h'⟩:=(rfl)
@[go_sem] theorem J7 {ids:List Nat}{o:HCon}{g:Nat×Bool}:t7 ids ops g none ⟨t,h⟩ K Z (some o)=((dQ ops t ops.length g→o.pre∧∀ r,o.post r→Fj ids g none ⟨t,h⟩ K Z (o.res r))∧(iV ops t ops.length g→K ⟨t,h⟩)):=(rfl)
@[go_sem] theorem Nk {c:Option HCon}{np:Bool}{ids:List Nat}{s:SV}{g:Nat×Bool}{p:Prop}:wg np ids ops g none ⟨t,h⟩ K Z c (some (.det p s))=((dQ ops t ops.length g→p)∧(bif(np||ez 3 s)&&(aH 3 s).isEmpty then K ⟨t,h⟩else False)):=(rfl)
@[go_sem] theorem Nl {id:Nat}{α:Type}{pre:Prop}{post:α→Prop}{res:α→Bool×Res}:CQ id none ⟨t,h⟩ K (some ⟨α,pre,post,res⟩)=(pre∧∀ r,post r→K ⟨t,bF h id (.ab (res r).2)⟩):=(rfl)
@[go_sem] theorem Nm {id:Nat}{α:Type}{pre:Prop}{post:α→Prop}{res:α→Bool×Res}{g:Nat×Bool}:AX id ops g none ⟨t,h⟩ K (some ⟨α,pre,post,res⟩)=((dQ ops t ops.length g→pre∧∀ r,post r→K ⟨t,bF h id (.ab (res r).2)⟩)∧(iV ops t ops.length g→K ⟨t,h⟩)):=(rfl)
@[go_sem] theorem SO {K0:Prop}{next:List Nat→List Up→St→Prop}{c a:Prop}{s:SV}{ups:List Up}{all:List Nat}:rZ none ⟨t,h⟩ next K0 (some ⟨c,a,s,ups,all⟩)=(c∧(a→next all ups ⟨t,aY h ups⟩)):=(rfl)
@[go_sem] theorem SP {K0:Prop}{next:List Nat→List Up→St→Prop}{c a:Prop}{s:SV}{ups:List Up}{all:List Nat}{g:Nat×Bool}:p8 ops g none ⟨t,h⟩ next K0 (some ⟨c,a,s,ups,all⟩)=bif ups.isEmpty then(dQ ops t ops.length g→c)∧next all [] ⟨t,h⟩else False:=(rfl)
@[go_sem] theorem L7 {d:Option Nat}{next:List Nat→List Up→St→Prop}{p:Prop}:rZ d st next p none=p:=(rfl)
@[go_sem] theorem L8 {d:Option Nat}{next:List Nat→List Up→St→Prop}{p:Prop}{g:Nat×Bool}:p8 ops g d st next p none=p:=(rfl)
@[go_sem] theorem Nn {d:Option Nat}{f:FuncId}{args:List SV}:ij G d ⟨t,h⟩ K Z (.call f args)=pZ (args.all (b8 3)) (reach h 64 (args.flatMap (dI 3)) []) d ⟨t,h⟩ K Z (G.o f (args.map (ren (inN (reach h 64 (args.flatMap (dI 3)) [])) 6)) (mL h (reach h 64 (args.flatMap (dI 3)) []))) (G.p f (args.map (dH h 6))):=(rfl)
@[go_sem] theorem No {d:Option Nat}{f:FuncId}{args:List SV}{g:Nat×Bool}:stepG G ops g d ⟨t,h⟩ K Z (.call f args)=wg (args.all (b8 3)) (reach h 64 (args.flatMap (dI 3)) []) ops g d ⟨t,h⟩ K Z (G.o f (args.map (ren (inN (reach h 64 (args.flatMap (dI 3)) [])) 6)) (mL h (reach h 64 (args.flatMap (dI 3)) []))) (G.p f (args.map (dH h 6))):=(rfl)
@[go_sem] theorem O9 {d:Option Nat}{id:Nat}{args:List SV}:ij G d ⟨t,h⟩ K Z (.yld id args)=bif args.all (b8 3)then CQ id d ⟨t,h⟩ K (zF G args (ag h id))else False:=(rfl)
@[go_sem] theorem O_ {d:Option Nat}{id:Nat}{args:List SV}{g:Nat×Bool}:stepG G ops g d ⟨t,h⟩ K Z (.yld id args)=bif args.all (b8 3)then AX id ops g d ⟨t,h⟩ K (zF G args (ag h id))else False:=(rfl)
@[go_sem] theorem SQ {args:List SV}{r:Res}:zF G args (.ab r)=G.y args r:=(rfl)
@[go_sem] theorem Pa {d:Option Nat}{id:Nat}:ij G d ⟨t,h⟩ K Z (.nxt id)=JF id d ⟨t,h⟩ K (ag h id):=(rfl)
@[go_sem] theorem SR {d:Option Nat}{id mid n:Nat}{left:List Nat}{cur:Option Nat}:JF id d ⟨t,h⟩ K (.mi (some mid) n left cur)=GY id mid n left d ⟨t,h⟩ K (ag h mid):=(rfl)
@[go_sem] theorem SS {d id mid n it:Nat}{left:List Nat}{kk vk:Tag}{l:List (kk.T×vk.T)}:GY id mid n left (some d) ⟨t,h⟩ K (.mp kk vk l (some (it,none)))=((it=id∧n=l.length)∧(left=[]→K ⟨(d,.tup [.v (.bool false)])::t,h⟩)∧∀ j,j∈left→K ⟨(d,.tup [.v (.bool true),svT kk (l.getD j (dE kk,dE vk)).1,svT vk (l.getD j (dE kk,dE vk)).2])::t,bF h id (.mi (some mid) n (left.erase j) (some j))⟩):=(rfl)
@[go_sem] theorem Q5 {id:Nat}:gm G h nx (.nxt id)=none:=(rfl)
@[go_sem] theorem Q6 {p:Bool→Prop}:gm G h nx (.amb p)=none:=(rfl)
@[go_sem] theorem Pb {d:Nat}{p:Bool→Prop}:ij G (some d) ⟨t,h⟩ K Z (.amb p)= ∀ b,p b→K ⟨(d,.v (.bool b))::t,h⟩:=(rfl)
@[go_sem] theorem Pc {d:Option Nat}{x:Value}:ij G d ⟨t,h⟩ K Z (.pan x)=Z x ⟨ungd t,h⟩:=(rfl)
@[go_sem] theorem Pd {c:Option HCon}{np:Bool}{ids:List Nat}{d:Option Nat}:pZ np ids d ⟨t,h⟩ K Z c none=sH ids d ⟨t,h⟩ K Z c:=(rfl)
@[go_sem] theorem Np {ids:List Nat}{d:Option Nat}{o:HCon}:sH ids d ⟨t,h⟩ K Z (some o)=(o.pre∧∀ r,o.post r→CP ids d ⟨t,h⟩ K Z (o.res r)):=(rfl)
@[go_sem] theorem Q7 {ids:List Nat}{d:Option Nat}{x:Value}{h':List Ob}:CP ids d ⟨t,h⟩ K Z (.pan x h')=Z x ⟨ungd t,iS ids h.length h 0 h'⟩:=(rfl)
@[go_sem] theorem Q8 {ids:List Nat}{d:Option Nat}{x:Value}{h':List Ob}{g:Nat×Bool}:Fj ids g d ⟨t,h⟩ K Z (.pan x h')=Z x ⟨ungd t,iS ids h.length h 0 h'⟩:=(rfl)
@[go_sem] theorem Pe {c:Option HCon}{np:Bool}{ids:List Nat}{d:Option Nat}{g:Nat×Bool}:wg np ids ops g d ⟨t,h⟩ K Z c none=t7 ids ops g d ⟨t,h⟩ K Z c:=(rfl)
@[go_sem] theorem Q9 {s:SV}:gm G h nx (.val s)=some ⟨True,True,s,[],[]⟩:=(rfl)
@[go_sem] theorem Q_ {s:SV}{c:Prop}:gm G h nx (.chk c s)=some ⟨c,True,s,[],[]⟩:=(rfl)
@[go_sem] theorem Ra {s:SV}{c:Prop}:gm G h nx (.asm c s)=some ⟨True,c,s,[],[]⟩:=(rfl)
@[go_sem] theorem Pf {s:SV}:gm G h nx (.newr s)=some ⟨True,True,s,[],[]⟩:=(rfl)
@[go_sem] theorem Rb {s:SV}{c a:Prop}{ups:List Up}:gm G h nx (.eff c a ups s)=some ⟨c,a,s,ups,[]⟩:=(rfl)
@[go_sem] theorem Pg {f:FuncId}{args:List SV}:gm G h nx (.call f args)=drC (args.all (b8 3)) (args.flatMap (fv h 6)) nx (G.p f (args.map (dH h 6))):=(rfl)
@[go_sem] theorem Rc {id:Nat}{args:List SV}:gm G h nx (.yld id args)=none:=(rfl)
@[go_sem] theorem Rd {x:Value}:gm G h nx (.pan x)=none:=(rfl)
@[go_sem] theorem SU {np:Bool}{rd:List Nat}{s:SV}{p:Prop}:drC np rd nx (some (.det p s))=drR np rd nx p s (aH 3 s):=(rfl)
@[go_sem] theorem SW {np:Bool}{rd:List Nat}{s:SV}{p:Prop}:drR np rd nx p s []=bif np||ez 3 s then some ⟨p,True,s,[],rd⟩else none:=(rfl)
@[go_sem] theorem SX {np:Bool}{rd:List Nat}{s:SV}{p:Prop}{ob:Ob}:drR np rd nx p s [ob]=bif np||ez 3 s then some ⟨p,True,fe 3 nx s,[(nx,ob)],rd⟩else none:=(rfl)
@[go_sem] theorem SY {np:Bool}{rd:List Nat}{s:SV}{p:Prop}{o1 o2:Ob}{l:List Ob}:drR np rd nx p s (o1::o2::l)=none:=(rfl)
@[go_sem] theorem SZ {np:Bool}{rd:List Nat}{α:Type}{pre:Prop}{post:α→Prop}{out:α→SV}:drC np rd nx (some (.rel α pre post out))=none:=(rfl)
@[go_sem] theorem S0 {np:Bool}{rd:List Nat}{s:SV}{ok:Bool}{x:Value}:drC np rd nx (some (.may ok s x))=none:=(rfl)
@[go_sem] theorem Re {np:Bool}{rd:List Nat}:drC np rd nx none=none:=(rfl)
@[go_sem] theorem Ph {b:Nat}{fps:List Fp}:nf ops b fps=bif wd fps then True else LL ops b fps=true:=(rfl)
variable {g:Option (Nat×Bool)}
@[go_sem] theorem Us {x:Operand}:val ⟨ts,ops,g,⟨t,h⟩,nx⟩ x=be ops g (raw t x):=(rfl)
variable {cx:Cx}{x y a b:Operand}{ty n f:Nat}
@[go_sem] theorem Rf:opS cx (.move x)=.val (val cx x):=(rfl)
@[go_sem] theorem Nq:opS cx (.assign x)=.val (val cx x):=(rfl)
@[go_sem] theorem Rg {c:Operand}:opS ⟨ts,ops,g,⟨t,h⟩,nx⟩ (.pick c a b)=vX a b (be ops g (raw t c)) (gI ops g c true (raw t a)) (gI ops g c false (raw t b)):=(rfl)
@[go_sem] theorem Pi:opS ⟨ts,ops,g,⟨t,h⟩,nx⟩ (.alloc ty)=aB ts ty fun ti=>zy nx (some ti.zero):=(rfl)
@[go_sem] theorem S3:opS ⟨ts,ops,g,⟨t,h⟩,nx⟩ (.box ty x)=zy nx (kI (be ops g (raw t x))):=(rfl)
@[go_sem] theorem Pj {parts:List (Nat×Operand)}:opS ⟨ts,ops,g,⟨t,h⟩,nx⟩ (.build ty parts.toArray)=aB ts ty fun ti=>bif ti.isArr then aB ts ti.elem fun te=>CL (ii (fun i=>some (i*te.size,te.size)) ti.zero (ef ⟨ts,ops,g,⟨t,h⟩,nx⟩ parts))else bif ti.agg then CL (ii (fun i=>(nth ti.fields i).map fun f=>(f.1,f.2.1)) ti.zero (ef ⟨ts,ops,g,⟨t,h⟩,nx⟩ parts))else .bad:=(rfl)
@[go_sem] theorem HD {parts:List (Nat×Operand)}:opS ⟨ts,ops,g,⟨t,h⟩,nx⟩ (.buildSlice ty n parts.toArray)=aB ts ty fun ti=>aB ts ti.elem fun te=>xV (xU ty ops g) nx te (bsS ti te n (ef ⟨ts,ops,g,⟨t,h⟩,nx⟩ parts)):=(rfl)
@[go_sem] theorem Rh:opS ⟨ts,ops,g,⟨t,h⟩,nx⟩ (.load ty a)=aB ts ty fun ti=>lQ ti h (be ops g (raw t a)):=(rfl)
@[go_sem] theorem Pm:opS ⟨ts,ops,g,⟨t,h⟩,nx⟩ (.store ty a x)=aB ts ty fun ti=>my ti.size nx h (be ops g (raw t a)) (be ops g (raw t x)):=(rfl)
@[go_sem] theorem J8:opS ⟨ts,ops,g,⟨t,h⟩,nx⟩ (.nilCheck x)=GA (be ops g (raw t x)):=(rfl)
@[go_sem] theorem Pn {op:BinOp}:opS ⟨ts,ops,g,⟨t,h⟩,nx⟩ (.binOp op ty x y n)=zu ts op ty (be ops g (raw t x)) (be ops g (raw t y)):=(rfl)
@[go_sem] theorem Ri {op:UnOp}:opS ⟨ts,ops,g,⟨t,h⟩,nx⟩ (.unOp op ty x)=unS op (be ops g (raw t x)):=(rfl)
@[go_sem] theorem L9:opS ⟨ts,ops,g,⟨t,h⟩,nx⟩ (.convert n ty x)=aB ts n fun _=>aB ts ty fun ti=>AQ ti.int (be ops g (raw t x)):=(rfl)
@[go_sem] theorem J9 {fn:Fn}{first caps:List Operand}:opS cx (.makeFunc fn first.toArray caps.toArray)=AT fn (cg cx first) (cg cx caps):=(rfl)
def L_ (k:SV):Option (Nat×Nat×Bool)→OR
 |some (o,n,_) =>bif Nat.ble 1 n then sD o k else .bad
 |none=>.bad
@[go_sem] theorem Nr {k:SV}{o n:Nat}{q:Bool}:L_ k (some (o,n,q))=bif Nat.ble 1 n then sD o k else .bad:=(rfl)
@[go_sem] theorem Ji:opS ⟨ts,ops,g,⟨t,h⟩,nx⟩ (.fieldAddr ty x f)=aB ts ty fun ti=>L_ (be ops g (raw t x)) (nth ti.fields f):=(rfl)
@[go_sem] theorem Po:opS ⟨ts,ops,g,⟨t,h⟩,nx⟩ (.field ty x f)=aB ts ty fun ti=>nb (nth ti.fields f) (sA (be ops g (raw t x))):=(rfl)
@[go_sem] theorem Jj:opS ⟨ts,ops,g,⟨t,h⟩,nx⟩ (.indexAddr ty x y)=aB ts ty fun ti=>aB ts ti.elem fun te=>eG ti te.size h (be ops g (raw t x)) (be ops g (raw t y)):=(rfl)
@[go_sem] theorem Pp:opS ⟨ts,ops,g,⟨t,h⟩,nx⟩ (.panic x)=GK (be ops g (raw t x)):=(rfl)
@[go_sem] theorem EE:opS ⟨ts,ops,g,⟨t,h⟩,nx⟩ (.makeInterface ty x)=aB ts ty fun ti=>bif ti.iface then .bad else v7 ty (be ops g (raw t x)):=(rfl)
@[go_sem] theorem HE {ok:Bool}:opS ⟨ts,ops,g,⟨t,h⟩,nx⟩ (.typeAssert x n ty ok)=aB ts ty fun ti=>taS ty ok ti (be ops g (raw t x)):=(rfl)
@[go_sem] theorem Ma:opS ⟨ts,ops,g,⟨t,h⟩,nx⟩ (.extract x n)=GI n (be ops g (raw t x)):=(rfl)
@[go_sem] theorem Jk:opS ⟨ts,ops,g,⟨t,h⟩,nx⟩ (.makeSlice ty x y)=aB ts ty fun ti=>aB ts ti.elem fun te=>bif ti.isSlice then(bif te.isSlice then aB ts te.elem fun tr=>xW nx te tr (be ops g (raw t x)) (be ops g (raw t y))else mkS nx te (be ops g (raw t x)) (be ops g (raw t y)))else .bad:=(rfl)
@[go_sem] theorem Pq {lo hi:Option Operand}:opS ⟨ts,ops,g,⟨t,h⟩,nx⟩ (.slice ty x lo hi none)=aB ts ty fun ti=>aB ts ti.elem fun te=>iU ti te.size nx h (ol ⟨ts,ops,g,⟨t,h⟩,nx⟩ lo) (ol ⟨ts,ops,g,⟨t,h⟩,nx⟩ hi) (yx hi&&AS ops) (be ops g (raw t x)):=(rfl)
@[go_sem] theorem Mb:opS ⟨ts,ops,g,⟨t,h⟩,nx⟩ (.makeMap ty none)=aB ts ty fun ti=>mmR nx ti.mkt ti.mvt:=(rfl)
@[go_sem] theorem Ns {ok:Bool}:opS ⟨ts,ops,g,⟨t,h⟩,nx⟩ (.lookup ty x y ok)=aB ts ty fun ti=>nL ti h ok (be ops g (raw t y)) (be ops g (raw t x)):=(rfl)
@[go_sem] theorem Jl:opS ⟨ts,ops,g,⟨t,h⟩,nx⟩ (.mapUpdate ty x y a)=aB ts ty fun ti=>vj ti h (be ops g (raw t y)) (be ops g (raw t a)) (be ops g (raw t x)):=(rfl)
@[go_sem] theorem Nt:opS ⟨ts,ops,g,⟨t,h⟩,nx⟩ (.insert ty x y a)=aB ts ty fun ti=>vj ti h (be ops g (raw t y)) (be ops g (raw t a)) (be ops g (raw t x)):=(rfl)
@[go_sem] theorem J_:opS ⟨ts,ops,g,⟨t,h⟩,nx⟩ (.mapEntry ty x y)=aB ts ty fun ti=>qZ ti nx h (be ops g (raw t y)) (be ops g (raw t x)):=(rfl)
@[go_sem] theorem HF:opS ⟨ts,ops,g,⟨t,h⟩,nx⟩ (.entryStore ty x y a)=aB ts ty fun ti=>zB ti h (be ops g (raw t a)) (be ops g (raw t x)) (be ops g (raw t y)):=(rfl)
@[go_sem] theorem Rj {args:List Operand}{tys:Array TypeId}:opS ⟨ts,ops,g,⟨t,h⟩,nx⟩ (.call ⟨.value x,args.toArray,tys⟩)=sE (cg ⟨ts,ops,g,⟨t,h⟩,nx⟩ args) (be ops g (raw t x)):=(rfl)
@[go_sem] theorem S4 {args:List Operand}:opS ⟨ts,ops,g,⟨t,h⟩,nx⟩ (.call ⟨.builtin .len,args.toArray,[ty].toArray⟩)=aB ts ty fun ti=>ot ti h (cg ⟨ts,ops,g,⟨t,h⟩,nx⟩ args):=(rfl)
@[go_sem] theorem Nu {args:List Operand}:opS ⟨ts,ops,g,⟨t,h⟩,nx⟩ (.call ⟨.builtin .append,args.toArray,[ty,n].toArray⟩)=aB ts ty fun ti=>aB ts n fun ti2=>aB ts ti.elem fun te=>bif ti.isSlice&&ti2.isSlice then je te nx h (cg ⟨ts,ops,g,⟨t,h⟩,nx⟩ args)else .bad:=(rfl)
@[go_sem] theorem Nv {args:List Operand}{tys:List TypeId}:opS ⟨ts,ops,g,⟨t,h⟩,nx⟩ (.call ⟨.builtin .delete,args.toArray,(ty::tys).toArray⟩)=aB ts ty fun ti=>rX ti h (cg ⟨ts,ops,g,⟨t,h⟩,nx⟩ args):=(rfl)
@[go_sem] theorem Pr {args:List Operand}:opS ⟨ts,ops,g,⟨t,h⟩,nx⟩ (.call ⟨.builtin .clear,args.toArray,[ty].toArray⟩)=aB ts ty fun ti=>aB ts ti.elem fun te=>rW ti te h (cg ⟨ts,ops,g,⟨t,h⟩,nx⟩ args):=(rfl)
@[go_sem] theorem S5 {args:List Operand}{tys:Array TypeId}:opS cx (.call ⟨.builtin .min,args.toArray,tys⟩)=zz (cg cx args):=(rfl)
@[go_sem] theorem S6 {args:List Operand}{tys:Array TypeId}:opS cx (.call ⟨.builtin .max,args.toArray,tys⟩)=zA (cg cx args):=(rfl)
@[go_sem] theorem Ps:opS ⟨ts,ops,g,⟨t,h⟩,nx⟩ (.range ty x)=aB ts ty fun ti=>wc ti nx h (be ops g (raw t x)):=(rfl)
@[go_sem] theorem Rk:opS ⟨ts,ops,g,⟨t,h⟩,nx⟩ (.next x false)=GR (be ops g (raw t x)):=(rfl)
@[go_sem] theorem Pt:opS ⟨ts,ops,g,⟨t,h⟩,nx⟩ (.entry x)=uJ h (be ops g (raw t x)):=(rfl)
@[go_sem] theorem Pu:fpO ⟨ts,ops,g,⟨t,h⟩,nx⟩ (.range ty x)=(dP (be ops g (raw t x)),[]):=(rfl)
@[go_sem] theorem Rl {s:Bool}:fpO cx (.next x s)=([],[]):=(rfl)
@[go_sem] theorem Pv:fpO ⟨ts,ops,g,⟨t,h⟩,nx⟩ (.entry x)=(dP (be ops g (raw t x))++GV h (be ops g (raw t x)),[]):=(rfl)
@[go_sem] theorem Rm:fpO ⟨ts,ops,g,⟨t,h⟩,nx⟩ (.load ty a)=(dP (be ops g (raw t a)),[]):=(rfl)
@[go_sem] theorem Pw:fpO ⟨ts,ops,g,⟨t,h⟩,nx⟩ (.store ty a x)=(dP (be ops g (raw t a))++dP (be ops g (raw t x)),[]):=(rfl)
@[go_sem] theorem Jm:fpO ⟨ts,ops,g,⟨t,h⟩,nx⟩ (.indexAddr ty x y)=(dP (be ops g (raw t x)),[]):=(rfl)
@[go_sem] theorem Px {lo hi mx:Option Operand}:fpO ⟨ts,ops,g,⟨t,h⟩,nx⟩ (.slice ty x lo hi mx)=(dP (be ops g (raw t x)),[]):=(rfl)
@[go_sem] theorem Nw {ok:Bool}:fpO ⟨ts,ops,g,⟨t,h⟩,nx⟩ (.lookup ty x y ok)=bif ok then(dP (be ops g (raw t x)),[])else([],dP (be ops g (raw t x))):=(rfl)
@[go_sem] theorem Jn:fpO ⟨ts,ops,g,⟨t,h⟩,nx⟩ (.mapUpdate ty x y a)=(dP (be ops g (raw t x)),[]):=(rfl)
@[go_sem] theorem Nx:fpO ⟨ts,ops,g,⟨t,h⟩,nx⟩ (.insert ty x y a)=(dP (be ops g (raw t x)),[]):=(rfl)
@[go_sem] theorem Ka:fpO ⟨ts,ops,g,⟨t,h⟩,nx⟩ (.mapEntry ty x y)=(dP (be ops g (raw t x)),[]):=(rfl)
@[go_sem] theorem HG:fpO ⟨ts,ops,g,⟨t,h⟩,nx⟩ (.entryStore ty x y a)=(dP (be ops g (raw t x)),[]):=(rfl)
@[go_sem] theorem S7 {args:List Operand}{tys:Array TypeId}:fpO ⟨ts,ops,g,⟨t,h⟩,nx⟩ (.call ⟨.builtin .len,args.toArray,tys⟩)=(kJ (cg ⟨ts,ops,g,⟨t,h⟩,nx⟩ args),[]):=(rfl)
@[go_sem] theorem Ny {args:List Operand}{tys:Array TypeId}:fpO ⟨ts,ops,g,⟨t,h⟩,nx⟩ (.call ⟨.builtin .append,args.toArray,tys⟩)=(kJ (cg ⟨ts,ops,g,⟨t,h⟩,nx⟩ args),[]):=(rfl)
@[go_sem] theorem Nz {args:List Operand}{tys:Array TypeId}:fpO ⟨ts,ops,g,⟨t,h⟩,nx⟩ (.call ⟨.builtin .delete,args.toArray,tys⟩)=(kJ (cg ⟨ts,ops,g,⟨t,h⟩,nx⟩ args),[]):=(rfl)
@[go_sem] theorem Py {args:List Operand}{tys:Array TypeId}:fpO ⟨ts,ops,g,⟨t,h⟩,nx⟩ (.call ⟨.builtin .clear,args.toArray,tys⟩)=(kJ (cg ⟨ts,ops,g,⟨t,h⟩,nx⟩ args),[]):=(rfl)
@[go_sem] theorem Ro:fpO cx (.move x)=([],[]):=(rfl)
@[go_sem] theorem NA:fpO cx (.assign x)=([],[]):=(rfl)
@[go_sem] theorem Rp:fpO cx (.pick x a b)=([],[]):=(rfl)
@[go_sem] theorem Pz:fpO cx (.alloc ty)=([],[]):=(rfl)
@[go_sem] theorem S8:fpO cx (.box ty x)=([],[]):=(rfl)
@[go_sem] theorem PA {parts:Array (Nat×Operand)}:fpO cx (.build ty parts)=([],[]):=(rfl)
@[go_sem] theorem HH {parts:Array (Nat×Operand)}:fpO cx (.buildSlice ty n parts)=([],[]):=(rfl)
@[go_sem] theorem Kb:fpO cx (.nilCheck x)=([],[]):=(rfl)
@[go_sem] theorem PB {op:BinOp}:fpO cx (.binOp op ty x y n)=([],[]):=(rfl)
@[go_sem] theorem Rq {op:UnOp}:fpO cx (.unOp op ty x)=([],[]):=(rfl)
@[go_sem] theorem Mc:fpO cx (.convert n ty x)=([],[]):=(rfl)
@[go_sem] theorem Kc {fn:Fn}{first caps:Array Operand}:fpO cx (.makeFunc fn first caps)=([],[]):=(rfl)
@[go_sem] theorem Jo:fpO cx (.fieldAddr ty x f)=([],[]):=(rfl)
@[go_sem] theorem PC:fpO cx (.field ty x f)=([],[]):=(rfl)
@[go_sem] theorem PD:fpO cx (.panic x)=([],[]):=(rfl)
@[go_sem] theorem EF:fpO cx (.makeInterface ty x)=([],[]):=(rfl)
@[go_sem] theorem HI {ok:Bool}:fpO cx (.typeAssert x n ty ok)=([],[]):=(rfl)
@[go_sem] theorem Md:fpO cx (.extract x n)=([],[]):=(rfl)
@[go_sem] theorem Jp:fpO cx (.makeSlice ty x y)=([],[]):=(rfl)
@[go_sem] theorem Me {o:Option Operand}:fpO cx (.makeMap ty o)=([],[]):=(rfl)
@[go_sem] theorem Rr {args:Array Operand}{tys:Array TypeId}:fpO cx (.call ⟨.value x,args,tys⟩)=([],[]):=(rfl)
@[go_sem] theorem S9 {args:Array Operand}{tys:Array TypeId}:fpO cx (.call ⟨.builtin .min,args,tys⟩)=([],[]):=(rfl)
@[go_sem] theorem S_ {args:Array Operand}{tys:Array TypeId}:fpO cx (.call ⟨.builtin .max,args,tys⟩)=([],[]):=(rfl)
@[go_sem] theorem PE {k:TI→OR}:aB ts ty k=Dx k (ts ty):=by unfold aB Dx;cases ts ty <;>rfl
@[go_sem] theorem NB {k:TI→OR}{i:TI}:Dx k (some i)=k i:=(rfl)
@[go_sem] theorem Mf {c:Operand}{j:Nat}{w want:Bool}{s:SV}:gI ops g c want (.gd j w s)=bif tT w want&&yw ops j c then s else be ops g (.gd j w s):=(rfl)
@[go_sem] theorem Ke {c:Operand}{want:Bool}:gI ops g c want .any=.any:=(rfl)
@[go_sem] theorem NC {c:Operand}{want:Bool}{v:Value}:gI ops g c want (.v v)=.v v:=(rfl)
@[go_sem] theorem Ta {a b:Operand}{x y z:Bool}:vX a b (.v (.bool x)) (.v (.bool y)) (.v (.bool z))=bif tX a then .val (.b (x||z))else bif qG b then .val (.b (x&&y))else .bad:=(rfl)
@[go_sem] theorem Tb {a b:Operand}{x z:Bool}:vX a b (.v (.bool x)) .any (.v (.bool z))=.chk (x=false) (.b z):=(rfl)
@[go_sem] theorem Tc {a b:Operand}{x y:Bool}:vX a b (.v (.bool x)) (.v (.bool y)) .any=.chk (x=true) (.b y):=(rfl)
@[go_sem] theorem PG {st:St}:p9 ops st=cleanF (bif ops.any (·.guard.isSome)then ⟨ungd st.t,st.h⟩else st):=(rfl)
@[go_sem] theorem PH {t:List (Nat×SV)}{h:List Ob}:cleanF ⟨t,h⟩=bif iW h then ⟨CR h t,rk h⟩else ⟨t,h⟩:=(rfl)
@[go_sem] theorem Td {n:Nat}:raw t (.tmp n)=lk n t:=(rfl)
@[go_sem] theorem PI {x:Value}:raw t (.const x)=.v x:=(rfl)
@[go_sem] theorem Rt {f:FuncId}:raw t (.func f)=.fn f [] []:=(rfl)
@[go_sem] theorem Ut {n:Nat}{s:SV}{r:List (Nat×SV)}:lk n ((n,s)::r)=s:=by simp[lk]
@[go_sem] theorem Te {n a:Nat}{s:SV}{r:List (Nat×SV)}:lk n ((a,s)::r)=bif Nat.beq a n then s else lk n r:=(rfl)
@[go_sem] theorem Uu {n:Nat}:lk n []=.any:=(rfl)
@[go_sem] theorem Tf {x:Value}:be ops g (.v x)=(.v x):=(rfl)
@[go_sem] theorem PJ:be ops g .any=.any:=(rfl)
@[go_sem] theorem PK {a b:Nat}:be ops g (.ptr a b)=(.ptr a b):=(rfl)
@[go_sem] theorem Ru {a:Nat}:be ops g (.os a)=(.os a):=(rfl)
@[go_sem] theorem Rv {a b:Nat}{c d:Int}:be ops g (.vw a b c d)=(.vw a b c d):=(rfl)
@[go_sem] theorem Rw:be ops g .e0=.e0:=(rfl)
@[go_sem] theorem Rx {a b d:Nat}{c:Int}:be ops g (.rp a b c d)=(.rp a b c d):=(rfl)
@[go_sem] theorem Ry {a:Nat}{i:Int}:be ops g (.gr a i)=(.gr a i):=(rfl)
@[go_sem] theorem Rz {a b d:Nat}{i j:Int}:be ops g (.gp a b i j d)=(.gp a b i j d):=(rfl)
@[go_sem] theorem RA {a:List SV}{b:Nat}:be ops g (.ep a b)=(.ep a b):=(rfl)
@[go_sem] theorem RB {k:Tag}{l:List k.T}:be ops g (.rs k l)=(.rs k l):=(rfl)
@[go_sem] theorem RD {l:List SV}:be ops g (.ls l)=(.ls l):=(rfl)
@[go_sem] theorem RE {k k2:Tag}{l:List (k.T×k2.T)}:be ops g (.rm k k2 l)=(.rm k k2 l):=(rfl)
@[go_sem] theorem PL {l:List SV}:be ops g (.agg l)=(.agg l):=(rfl)
@[go_sem] theorem PM {l:List SV}:be ops g (.tup l)=(.tup l):=(rfl)
@[go_sem] theorem RG {f:FuncId}{l m:List SV}:be ops g (.fn f l m)=(.fn f l m):=(rfl)
@[go_sem] theorem RH {j:Nat}{b:Bool}{s:SV}:be ops g (.gd j b s)=bif lw ops ops.length g j b then s else .any:=(rfl)
end
section
variable {ti te:TI}{esz nx id id2 off:Nat}{h:List Ob}{k k2:Tag}{i j n c:Int}{kk kj:IntKind}{lo hi:Option SV}{key s:SV}{ok:Bool}{ts:Tis}{op:BinOp}{ty:Nat}
@[go_sem] theorem one_1 {α:Type}{x:α}:one [x]=true:=(rfl)
@[go_sem] theorem one_2 {α:Type}{x y:α}{l:List α}:one (x::y::l)=false:=(rfl)
@[go_sem] theorem Tg {g:Option (Nat×Bool)}{l:List k.T}:xV g nx te (.newr (.rs k l))=bif(te.agg||one l)&&noG g then .eff True True [(nx,.row k l)] (.os nx)else .newr (.rs k l):=(rfl)
@[go_sem] theorem Th {g:Option (Nat×Bool)}{l:List SV}:xV g nx te (.newr (.ls l))=.newr (.ls l):=(rfl)
@[go_sem] theorem Ti {g:Option (Nat×Bool)}:xV g nx te (.newr .e0)=.newr .e0:=(rfl)
@[go_sem] theorem RI {a b:Int}:zu ts op ty (.v (.int kk a)) (.v (.int kj b))=bif sB op kk kj then oo op kk a b else .bad:=(rfl)
@[go_sem] theorem Tj {l:List k.T}:zu ts op ty (.rs k l) (.v (.slice none 0 0))=aB ts ty fun ti=>bif ti.isSlice then Ju op (l=[])else .bad:=(rfl)
@[go_sem] theorem RJ {a b:ByteArray}:zu ts op ty (.v (.string a)) (.v (.string b))=aB ts ty fun ti=>bif Nat.beq ti.sc 2 then D9 op a b else .bad:=(rfl)
@[go_sem] theorem PN {a b:Bool}:zu ts op ty (.v (.bool a)) (.v (.bool b))=aB ts ty fun ti=>bif Nat.beq ti.sc 3 then zt op a b else .bad:=(rfl)
@[go_sem] theorem RK {a b:List SV}:zu ts op ty (.agg a) (.agg b)=aB ts ty fun ti=>eqT op a b ti:=(rfl)
@[go_sem] theorem PO {l:List k.T}:eG ti esz h (.rs k l) (.v (.int kk i))=bif ti.isSlice&&Nat.beq esz (aa k)then .chk (0≤i∧i< (l.length:Int)) (.ep (cellsOf k (l.getD i.toNat (dE k))) 0)else .bad:=(rfl)
@[go_sem] theorem PQ:eG ti esz h (.os id) (.v (.int kk i))=bif ti.isSlice then vZ esz id i (ag h id)else .bad:=(rfl)
@[go_sem] theorem PR:eG ti esz h (.gr id i) (.v (.int kk j))=bif ti.isSlice then zv esz id i j (ag h id)else .bad:=(rfl)
@[go_sem] theorem PS {l:List SV}:eG ti esz h (.ls l) (.v (.int kk i))=bif ti.isSlice&&Nat.beq esz 1 then CE i (nth l i.toNat)else .bad:=(rfl)
@[go_sem] theorem ND:eG ti esz h (.ptr id off) (.v (.int kk i))=bif ti.isArr then .chk (0≤i∧i< (ti.len:Int)) (.ptr id (off+i.toNat*esz))else .bad:=(rfl)
@[go_sem] theorem PT {l:List SV}:eG ti esz h (.ep l off) (.v (.int kk i))=bif ti.isArr then .chk (0≤i∧i< (ti.len:Int)) (.ep l (off+i.toNat*esz))else .bad:=(rfl)
@[go_sem] theorem PU {z:Nat}:eG ti esz h (.rp z id i off) (.v (.int kk j))=bif ti.isArr then .chk (0≤j∧j< (ti.len:Int)) (.rp z id i (off+j.toNat*esz))else .bad:=(rfl)
@[go_sem] theorem Tk {l:List k.T}:ot ti h [.rs k l]=bif ti.isSlice then .asm (l.length≤bv) (.i l.length)else .bad:=(rfl)
@[go_sem] theorem RL:ot ti h [.v (.slice none 0 0)]=bif ti.isSlice then .val (.i 0)else .bad:=(rfl)
@[go_sem] theorem Tl:ot ti h [.e0]=bif ti.isSlice then .val (.i 0)else .bad:=(rfl)
@[go_sem] theorem Tm:ot ti h [.os id]=bif ti.isSlice then GJ (ag h id)else Jx ti.mkt (ag h id):=(rfl)
@[go_sem] theorem Tn:ot ti h [.gr id i]=bif ti.isSlice then Jw i (ag h id)else .bad:=(rfl)
@[go_sem] theorem To {l:List SV}:ot ti h [.ls l]=bif ti.isSlice then .val (.i (sz l))else .bad:=(rfl)
@[go_sem] theorem PV {l:List k.T}{vq:Bool}:iU ti esz nx h lo hi vq (.rs k l)=bif ti.isSlice&&Nat.beq esz (aa k)then GO k l (bnd 0 lo) (bnd l.length hi)else .bad:=(rfl)
@[go_sem] theorem PW {vq:Bool}:iU ti esz nx h lo hi vq (.os id)=bif ti.isSlice then(bif vq then Ed esz id lo (ag h id)else GP esz id nx lo hi (ag h id))else .bad:=(rfl)
@[go_sem] theorem NE {n:Nat}{a:Int}:GQ esz id n (some a)=.chk (0≤a∧a≤(n:Int)) (.vw esz id a n):=(rfl)
@[go_sem] theorem RM {d:Int}:bnd d none=some d:=(rfl)
@[go_sem] theorem RN {d:Int}:bnd d (some (.v (.int kk n)))=some n:=(rfl)
@[go_sem] theorem PX {l:List k.T}{a b:Int}:GO k l (some a) (some b)=.chk (0≤a∧a≤b∧b≤(l.length:Int)) (.rs k ((l.take b.toNat).drop a.toNat)):=(rfl)
@[go_sem] theorem PY {l:List k.T}{a b:Int}:JA id nx k l (some a) (some b)=.eff (0≤a∧a≤b∧b≤(l.length:Int)) True [(id,.dead),(nx,.row k ((l.take b.toNat).drop a.toNat))] (.os nx):=(rfl)
@[go_sem] theorem Tp:mkS nx te (.v (.int .i64 n)) (.v (.int .i64 c))=mkT nx n c te te.tag:=(rfl)
@[go_sem] theorem Tq:je te nx h [.os id,.ls [.os id2]]=bif Nat.beq te.size 1&&Nat.beq (sz te.zero) 1&&Nat.ble 1 te.bytes&& !(Nat.beq id id2)then uI nx te.bytes h id2 [(id,.dead)] (ag h id)else .bad:=(rfl)
@[go_sem] theorem Tr:je te nx h [.v (.slice none 0 0),.ls [.os id2]]=bif Nat.beq te.size 1&&Nat.beq (sz te.zero) 1&&Nat.ble 1 te.bytes then GM nx te.bytes id2 (ag h id2)else .bad:=(rfl)
@[go_sem] theorem PZ {l:List k.T}:je te nx h [.os id,(.rs k l)]=pY te nx [(id,.dead)] h (.rs k l) (ag h id):=(rfl)
@[go_sem] theorem P0 {l:List k.T}:je te nx h [.v (.slice none 0 0),(.rs k l)]=oX te nx h (.rs k l) te.tag:=(rfl)
@[go_sem] theorem P1 {l:List k.T}:je te nx h [.e0,(.rs k l)]=oX te nx h (.rs k l) te.tag:=(rfl)
@[go_sem] theorem NF:je te nx h [.os id,(.v (.slice none 0 0))]=pY te nx [(id,.dead)] h (.v (.slice none 0 0)) (ag h id):=(rfl)
@[go_sem] theorem NG:je te nx h [.v (.slice none 0 0),(.v (.slice none 0 0))]=oX te nx h (.v (.slice none 0 0)) te.tag:=(rfl)
@[go_sem] theorem NH:je te nx h [.e0,(.v (.slice none 0 0))]=oX te nx h (.v (.slice none 0 0)) te.tag:=(rfl)
@[go_sem] theorem P2:je te nx h [.os id,.e0]=pY te nx [(id,.dead)] h .e0 (ag h id):=(rfl)
@[go_sem] theorem P3:je te nx h [.v (.slice none 0 0),.e0]=oX te nx h .e0 te.tag:=(rfl)
@[go_sem] theorem P4:je te nx h [.e0,.e0]=oX te nx h .e0 te.tag:=(rfl)
@[go_sem] theorem P5 {s:Nat}{lo hi:Int}:je te nx h [.os id,(.vw s id2 lo hi)]=pY te nx [(id,.dead)] h (.vw s id2 lo hi) (ag h id):=(rfl)
@[go_sem] theorem P6 {s:Nat}{lo hi:Int}:je te nx h [.v (.slice none 0 0),(.vw s id2 lo hi)]=oX te nx h (.vw s id2 lo hi) te.tag:=(rfl)
@[go_sem] theorem P7 {s:Nat}{lo hi:Int}:je te nx h [.e0,(.vw s id2 lo hi)]=oX te nx h (.vw s id2 lo hi) te.tag:=(rfl)
@[go_sem] theorem P8:je te nx h [.os id,(.os id2)]=pY te nx [(id,.dead)] h (.os id2) (ag h id):=(rfl)
@[go_sem] theorem P9:je te nx h [.v (.slice none 0 0),(.os id2)]=oX te nx h (.os id2) te.tag:=(rfl)
@[go_sem] theorem P_:je te nx h [.e0,(.os id2)]=oX te nx h (.os id2) te.tag:=(rfl)
@[go_sem] theorem NI {l:List k.T}:sF k k l=some l:=by simp[sF]
@[go_sem] theorem Ts {l:List k2.T}:pP k h (.rs k2 l)=sF k k2 l:=(rfl)
@[go_sem] theorem RO:pP k h (.v (.slice none 0 0))=some []:=(rfl)
@[go_sem] theorem Tt:pP k h .e0=some []:=(rfl)
@[go_sem] theorem Tu:pP k h (.os id)=Fd k (ag h id):=(rfl)
@[go_sem] theorem Tv {s:Nat}{lo hi:Int}:pP k h (.vw s id lo hi)=Jy k s lo hi (ag h id):=(rfl)
@[go_sem] theorem RP:nL ti h ok key (.os id)=AU ti key ok (ag h id):=(rfl)
@[go_sem] theorem RQ {l:List (k.T×k2.T)}:nL ti h ok key (.rm k k2 l)=bif gl k ti.mkt&&gl k2 ti.mvt then wb k k2 l ok (unT k key)else .bad:=(rfl)
@[go_sem] theorem Qa:nL ti h ok key (.v (.map none))=Ee key ok ti.mkt ti.mvt:=(rfl)
@[go_sem] theorem Tw {v:SV}:zB ti h v (.os id) (.os id2)=JB ti id id2 v (ag h id):=(rfl)
@[go_sem] theorem RR:tW (.v (.int kk n))=some [(.v (.int kk n))]:=(rfl)
@[go_sem] theorem RS {b:ByteArray}:tW (.v (.string b))=some [.v (.string b)]:=(rfl)
@[go_sem] theorem Qb {b:Bool}:tW (.v (.bool b))=some [.v (.bool b)]:=(rfl)
@[go_sem] theorem Tx {l:List k.T}:tW (.rs k l)=some [.rs k l]:=(rfl)
@[go_sem] theorem Tz {l:List (k.T×k2.T)}:tW (.rm k k2 l)=some [.rm k k2 l]:=(rfl)
@[go_sem] theorem TA:tW .e0=some [.e0]:=(rfl)
@[go_sem] theorem RU:tW (.v (.slice none 0 0))=some [.v (.slice none 0 0)]:=(rfl)
@[go_sem] theorem Qc:tW (.v (.map none))=some [.v (.map none)]:=(rfl)
@[go_sem] theorem Qd {t':TypeId}{y:Value}:taS ty ok ti (.v (.iface t' y))=bif ti.iface then .bad else bif Nat.beq t' ty then(bif ok then .val (.tup [.v y,.b true])else .val (.v y))else .bad:=(rfl)
end
@[go_sem] theorem nbeq (a b:Nat):Nat.beq a b=(a==b):=by
 rw[Bool.eq_iff_iff];simp
@[go_sem] theorem nble (a b:Nat):Nat.ble a b=decide (a≤b):=by
 rw[Bool.eq_iff_iff];simp
@[go_sem] theorem nblt (a b:Nat):Nat.blt a b=decide (a<b):=by
 rw[Bool.eq_iff_iff];simp[Nat.blt];omega
section
variable {σ:Type}{D:σ→St}{I:σ→Prop}{m:σ→Nat}{x:σ}{id n0:Nat}{Q:Ex→St→Prop}{st:St}{rs:List ResultVar}{post:SV→Prop}{ts:Tis}{pp:Value→Prop}{C:HCon}{md:Bool}
@[go_sem] theorem Jq:o4 D I m n0 x id Q .normal st= ∃ y js,I y∧m y<m x∧n0≤(D y).h.length∧Sub js n0 st (D y):=(rfl)
@[go_sem] theorem Mg {j:Nat}:o4 D I m n0 x id Q (.exit j) st=bif Nat.beq j id then Q .normal st else Q (.exit j) st:=(rfl)
@[go_sem] theorem NJ:o4 D I m n0 x id Q .ret st=Q .ret st:=(rfl)
@[go_sem] theorem NK {v:Value}:o4 D I m n0 x id Q (.pan v) st=Q (.pan v) st:=(rfl)
@[go_sem] theorem Jr {s:SV}:dv post (some s)=post s:=(rfl)
@[go_sem] theorem Qe:AZ md rs ts post pp .ret st=dv post (r6 md rs ts st):=(rfl)
@[go_sem] theorem Kf:AZ md rs ts post pp .normal st=dv post (r6 md rs ts st):=(rfl)
@[go_sem] theorem Qf {x:Value}:AZ md rs ts post pp (.pan x) st=pp x:=(rfl)
@[go_sem] theorem Kg:A0 n0 rs ts C .normal st=sJ n0 C (kK (jG ts st rs)) st.h:=(rfl)
@[go_sem] theorem Qg:A0 n0 rs ts C .ret st=sJ n0 C (kK (jG ts st rs)) st.h:=(rfl)
@[go_sem] theorem Qh {v:Value}:A0 n0 rs ts C (.pan v) st= ∃ r h' js,C.post r∧C.res r=.pan v h'∧n0≤h'.length∧Sub js n0 ⟨[],st.h⟩ ⟨[],h'⟩:=(rfl)
@[go_sem] theorem NL {s:SV}{h:List Ob}:sJ n0 C (some s) h= ∃ r s' h' js,C.post r∧C.res r=.ret s' h'∧n0≤h'.length∧Sub js n0 ⟨[(0,s)],h⟩ ⟨[(0,s')],h'⟩:=(rfl)
@[go_sem] theorem Uv {js:List Nat}{t t2:List (Nat×SV)}{h h2:List Ob}:Sub js n0 ⟨t,h⟩ ⟨t2,h2⟩=((uniq (iG js h2)=true∧t8 0 js n0=true∧js.all (fun j=>Nat.blt j h.length)=true)∧Fo (vn js) h2.length t t2∧xX (vn js) h2.length h js h2):=(rfl)
end
attribute [go_sem] decide_true decide_false cond_true cond_false List.any_cons List.any_nil Option.isSome_none Option.isSome_some Bool.or_false Bool.false_or Bool.or_true Bool.true_or Bool.and_true Bool.true_and Bool.and_false Bool.false_and Bool.not_true Bool.not_false List.length_cons List.length_nil List.map_cons List.map_nil List.flatMap_cons List.flatMap_nil List.append_nil List.isEmpty_nil List.isEmpty_cons Option.map_some Option.map_none Option.bind_some Option.getD_some Option.getD_none Option.toList_some Option.toList_none List.cons_append List.nil_append Nat.zero_add Nat.add_zero Nat.zero_mul Nat.mul_one Nat.one_mul
 lw tT nth yw oo sB Ju D9 zt eqV rV eqL eqO eqT Mw kN sA unS oq lQ sC vY tY sD vZ zv CE ii mJ vh nb CG zw CH CI CJ mw my v6 Gz zx xW Jz GN iW Ei rk MJ CR GZ MI GA AQ zy CL GB lsS bsT bsU QR osL osV GH Jv LK bsG bsS noG GI sE GJ Jx Jw zz zA GK v7 AT Fd Jy Ed GL pY v8 uI GM oX mkT GP wb gl yx noE AU Ee MD ME vj Fe Fg qZ MF JB MG MH rX MC rW Ec mmR zsO svT uH unT j6 QI
 dQ iV rY t6 Eh GW frz JE Fh dH ungd b8 ez aH mz fe dI GX reach vm q_ sG ren oY CO inN mL mK gn iS ag bF aY du dP zC kJ fv Fi nM QM QN GC D_ GD QO My CN Ea AR GF Mz AS QP MA GG MB QQ Eb xU fpU wd kI cut AP sz mv vW ed cellsOf j7 oi cS fit oh toI toB toS toF fnV tQ vO vP tR vQ zq vR vS AJ uG AK nK D5 AL su yr vT yu D6
 at0 mkE AM qY tS cT sr dE aa tX qG cg ef ol JG Fk AY jG kK QT sI p_ rt uL LM oZ uniq Fl r6 JD wc GR GS Ef uJ GV GU Option.bind_some CF oW List.all_cons List.all_nil rank AI Fo xX zG wj unp cn pn iT iG t8 vn
end Go.Sx
end
section
namespace Go.Sx
open Go.RowKit
universe u
variable {P:Program}
theorem Tis.ok_leaf {n:Nat}{x:TI}(h:cL P n=some x):Tis.ok (fun t=>bif Nat.beq t n then some x else none) P:=fun t i hi=>by
 change (bif Nat.beq t n then some x else none)=some i at hi
 cases hb:Nat.beq t n with
 |false=>rw[hb]at hi;cases hi
 |true=>rw[hb]at hi;cases hi;rw[Nat.eq_of_beq_eq_true hb];exact h
theorem Tis.ok_node {n:Nat}{f g:Tis}(hf:Tis.ok f P)(hg:Tis.ok g P):Tis.ok (fun t=>bif Nat.ble t n then f t else g t) P:=fun t i hi=>by
 change (bif Nat.ble t n then f t else g t)=some i at hi
 cases hb:Nat.ble t n with
 |false=>rw[hb]at hi;exact hg t i hi
 |true=>rw[hb]at hi;exact hf t i hi
def ae (f:Func):Code:=match f.body with|some c=>c|none=>.skip
def L0:pm:=fun _ _=>none
@[go_sem] theorem TB {n:Nat}{st:St}:L0 n st=none:=(rfl)
def mkP:List (Nat×(List SV→Option Con))→FuncId→List SV→Option Con
 | [],_,_=>none
 |(n,C)::r,f,l=>bif Nat.beq n f then C l else mkP r f l
def mkO:List (Nat×(List SV→List Ob→Option HCon))→FuncId→List SV→List Ob→Option HCon
 | [],_,_,_=>none
 |(n,C)::r,f,l,h=>bif Nat.beq n f then C l h else mkO r f l h
theorem Dy:∀ (ps:List (Nat×(List SV→Option Con))),(∀ x∈ps,FnOk P x.1 x.2)→∀ f,FnOk P f (mkP ps f)
 | [],_,f=>⟨fun l c h=>(by cases h),fun l c h=>(by cases h)⟩
 |(n,C)::r,h,f=>by
  have ih:=Dy r (fun x hx=>h x (by simp[hx])) f
  cases hb:Nat.beq n f with
  |false=>
   have e:mkP ((n,C)::r) f=mkP r f:=by funext l;simp only[mkP,hb,cond_false]
   rw[e];exact ih
  |true=>
   have e:mkP ((n,C)::r) f=C:=by funext l;simp only[mkP,hb,cond_true]
   rw[e,←Nat.eq_of_beq_eq_true hb];exact h (n,C) (by simp)
theorem Dz:∀ (os:List (Nat×(List SV→List Ob→Option HCon))),(∀ x∈os,FnOkO P x.1 x.2)→∀ f,FnOkO P f (mkO os f)
 | [],_,f=>⟨fun l h c hc=>(by cases hc),fun l h c hc=>(by cases hc)⟩
 |(n,C)::r,h,f=>by
  have ih:=Dz r (fun x hx=>h x (by simp[hx])) f
  cases hb:Nat.beq n f with
  |false=>
   have e:mkO ((n,C)::r) f=mkO r f:=by funext l h;simp only[mkO,hb,cond_false]
   rw[e];exact ih
  |true=>
   have e:mkO ((n,C)::r) f=C:=by funext l h;simp only[mkO,hb,cond_true]
   rw[e,←Nat.eq_of_beq_eq_true hb];exact h (n,C) (by simp)
def noY:List SV→Res→Option YCon:=fun _ _=>none
theorem NM:YOk P noY:=fun l r c h=>(by cases h)
def mkG (ps:List (Nat×(List SV→Option Con)))(os:List (Nat×(List SV→List Ob→Option HCon))):Cons:=⟨mkP ps,mkO os,noY⟩
theorem ay {ps:List (Nat×(List SV→Option Con))}{os:List (Nat×(List SV→List Ob→Option HCon))}(h1:∀ x∈ps,FnOk P x.1 x.2)(h2:∀ x∈os,FnOkO P x.1 x.2):ConsOk P (mkG ps os):=⟨Dy ps h1,Dz os h2,NM⟩
@[go_sem] theorem mkG_p {ps:List (Nat×(List SV→Option Con))}{os:List (Nat×(List SV→List Ob→Option HCon))}:(mkG ps os).p=mkP ps:=(rfl)
@[go_sem] theorem mkG_o {ps:List (Nat×(List SV→Option Con))}{os:List (Nat×(List SV→List Ob→Option HCon))}:(mkG ps os).o=mkO os:=(rfl)
@[go_sem] theorem TC {f:FuncId}{l:List SV}:mkP [] f l=none:=(rfl)
@[go_sem] theorem RV {n f:Nat}{C:List SV→Option Con}{r:List (Nat×(List SV→Option Con))}{l:List SV}:mkP ((n,C)::r) f l=bif Nat.beq n f then C l else mkP r f l:=(rfl)
@[go_sem] theorem TD {f:FuncId}{l:List SV}{h:List Ob}:mkO [] f l h=none:=(rfl)
@[go_sem] theorem RW {n f:Nat}{C:List SV→List Ob→Option HCon}{r:List (Nat×(List SV→List Ob→Option HCon))}{l:List SV}{h:List Ob}:mkO ((n,C)::r) f l h=bif Nat.beq n f then C l h else mkO r f l h:=(rfl)
section
variable {α:Type u}
def pI (k:Int→List SV→Option α):List SV→Option α
 | .v (.int .i64 n)::r=>k n r
 |_=>none
def pU (k:Int→List SV→Option α):List SV→Option α
 | .v (.int .u64 n)::r=>k n r
 |_=>none
def pB (k:Bool→List SV→Option α):List SV→Option α
 | .v (.bool b)::r=>k b r
 |_=>none
def pS (k:ByteArray→List SV→Option α):List SV→Option α
 | .v (.string b)::r=>k b r
 |_=>none
def yX (t:Tag)(k:List t.T→List SV→Option α)(r:List SV)(k':Tag)(l:List k'.T):Option α:=if h:k'=t then k (h▸l) r else none
def pR (t:Tag)(k:List t.T→List SV→Option α):List SV→Option α
 | .rs k' l::r=>yX t k r k' l
 |_=>none
def pDo {T:Type}(k:T→List SV→Option α)(r:List SV):Option T→Option α
 |some x=>k x r
 |none=>none
def pD (t:Tag)(k:t.T→List SV→Option α):List SV→Option α
 | .agg l::r=>pDo k r (oi t l)
 |_=>none
def pX (t:Tag)(k:t.T→List SV→Option α):List SV→Option α
 | .ep l 0::r=>pDo k r (oi t l)
 |_=>none
def HJ (t t2:Tag)(k:List (t.T×t2.T)→List SV→Option α)(r:List SV)(k' k2:Tag)(l:List (k'.T×k2.T)):Option α:=if h:k'=t∧k2=t2 then k (h.1▸h.2▸l) r else none
def pM (t t2:Tag)(k:List (t.T×t2.T)→List SV→Option α):List SV→Option α
 | .rm k' k2 l::r=>HJ t t2 k r k' k2 l
 |_=>none
def pE (c:α):List SV→Option α
 | [] =>some c
 |_=>none
variable {k:Int→List SV→Option α}{kb:Bool→List SV→Option α}{ks:ByteArray→List SV→Option α}{r:List SV}{c:α}{t:Tag}
@[go_sem] theorem TE {n:Int}:pI k (.v (.int .i64 n)::r)=k n r:=(rfl)
@[go_sem] theorem TF {n:Int}:pU k (.v (.int .u64 n)::r)=k n r:=(rfl)
@[go_sem] theorem TG {b:Bool}:pB kb (.v (.bool b)::r)=kb b r:=(rfl)
@[go_sem] theorem TH {b:ByteArray}:pS ks (.v (.string b)::r)=ks b r:=(rfl)
@[go_sem] theorem TJ {kr:List t.T→List SV→Option α}{l:List t.T}:pR t kr (.rs t l::r)=kr l r:=by simp[pR,yX]
@[go_sem] theorem TK {kd:t.T→List SV→Option α}{l:List SV}:pD t kd (.agg l::r)=pDo kd r (oi t l):=(rfl)
@[go_sem] theorem TL {kd:t.T→List SV→Option α}{l:List SV}:pX t kd (.ep l 0::r)=pDo kd r (oi t l):=(rfl)
@[go_sem] theorem TM {t2:Tag}{kr:List (t.T×t2.T)→List SV→Option α}{l:List (t.T×t2.T)}:pM t t2 kr (.rm t t2 l::r)=kr l r:=by simp[pM,HJ]
@[go_sem] theorem RX {T:Type}{kd:T→List SV→Option α}{x:T}:pDo kd r (some x)=kd x r:=(rfl)
@[go_sem] theorem Uw:pE c []=some c:=(rfl)
theorem NN {l:List SV}{c:α}(h:pI k l=some c):∃ n r,l=.v (.int .i64 n)::r∧k n r=some c:=by
 unfold pI at h;split at h
 ·exact⟨_,_,rfl,h⟩
 ·cases h
theorem Ab {l:List SV}{c:α}(h:pU k l=some c):∃ n r,l=.v (.int .u64 n)::r∧k n r=some c:=by
 unfold pU at h;split at h
 ·exact⟨_,_,rfl,h⟩
 ·cases h
theorem NO {l:List SV}{c:α}(h:pB kb l=some c):∃ n r,l=.v (.bool n)::r∧kb n r=some c:=by
 unfold pB at h;split at h
 ·exact⟨_,_,rfl,h⟩
 ·cases h
theorem DA {l:List SV}{c c':α}(h:pE c' l=some c):l=[]∧c=c':=by
 unfold pE at h;split at h
 ·cases h;exact⟨rfl,rfl⟩
 ·cases h
theorem NP {kr:List t.T→List SV→Option α}{l:List SV}{c:α}(h:pR t kr l=some c):∃ x r,l=.rs t x::r∧kr x r=some c:=by
 unfold pR at h;split at h
 ·rename_i k' l' r
  unfold yX at h
  split at h
  ·rename_i e;subst e;exact⟨_,_,rfl,h⟩
  ·cases h
 ·cases h
theorem NQ {kd:t.T→List SV→Option α}{l:List SV}{c:α}(h:pX t kd l=some c):∃ x r,l=.ep (cellsOf t x) 0::r∧kd x r=some c:=by
 unfold pX at h;split at h
 ·rename_i l' r
  cases he:oi t l' with
  |none=>rw[he]at h;cases h
  |some x=>rw[he]at h;exact⟨x,r,by rw[lX he],h⟩
 ·cases h
theorem HK {t2:Tag}{kr:List (t.T×t2.T)→List SV→Option α}{l:List SV}{c:α}(h:pM t t2 kr l=some c):∃ x r,l=.rm t t2 x::r∧kr x r=some c:=by
 unfold pM at h;split at h
 ·rename_i k' k2 l' r
  unfold HJ at h
  split at h
  ·rename_i e;obtain⟨rfl,rfl⟩:=e;exact⟨_,_,rfl,h⟩
  ·cases h
 ·cases h
theorem NR {kd:t.T→List SV→Option α}{l:List SV}{c:α}(h:pD t kd l=some c):∃ x r,l=.agg (cellsOf t x)::r∧kd x r=some c:=by
 unfold pD at h;split at h
 ·rename_i l' r
  cases he:oi t l' with
  |none=>rw[he]at h;cases h
  |some x=>rw[he]at h;exact⟨x,r,by rw[lX he],h⟩
 ·cases h
end
section
variable {F:Nat→Prop}{own:Own}{w:World}
theorem wU {p:Pk}{s:SV}{v:Value}(h:Rel F own w s v):Rel F own w (tS p s) v:=by
 unfold tS;split
 ·cases h with
  |agg h0 h1=>
   refine .agg (by rw[sN];exact h0) fun j s hj=>?_
   obtain⟨s0,e1,e2| ⟨k,e2⟩⟩:=ov _ _ _ _ hj
   ·subst e2;exact h1 j _ e1
   ·subst e2;exact ka (h1 j _ e1)
 ·exact ka h
 ·exact ka h
 ·exact h
theorem wV:∀ (ps:List Pk) (l:List SV),(cT ps l).length=l.length
 | [],l=>by simp[cT]
 |k::ks,[] =>by simp[cT]
 |k::ks,s::r=>by simp[cT,wV ks r]
theorem wW:∀ (ps:List Pk) (l:List SV) (j:Nat) (s:SV),(cT ps l)[j]? =some s→∃ s0,l[j]? =some s0∧(s=s0∨∃ p,s=tS p s0)
 | [],l,j,s,h=>⟨s,by simpa[cT]using h,.inl rfl⟩
 |k::ks,[],j,s,h=>by simp[cT]at h
 |k::ks,x::r,0,s,h=>by simp[cT]at h;exact⟨x,rfl,.inr ⟨k,h.symm⟩⟩
 |k::ks,x::r,j+1,s,h=>by simp[cT]at h;simpa using wW ks r j s h
theorem FnOk.norm {f:FuncId}{C:List SV→Option Con}(ps:List Pk)(h:FnOk P f C):FnOk P f (fun l=>C (cT ps l)):=
 ⟨fun l c hc=>h.enter _ c hc,fun l c hc hpre F w vs hF hvs=>h.calls _ c hc hpre F w vs hF ⟨by rw[wV];exact hvs.1,fun j s hj=>by
  obtain⟨s0,e1,e2| ⟨p,e2⟩⟩:=wW _ _ _ _ hj
  ·subst e2;exact hvs.2 j _ e1
  ·subst e2;exact wU (hvs.2 j _ e1)⟩⟩
end
attribute [go_sem] cX jI j8
attribute [go_sem] oi
def noH {α:Type 1}:List Ob→Option α→Option α
 | [],x=>x
 |_,_=>none
@[go_sem] theorem TN {α:Type 1}{x:Option α}:noH [] x=x:=(rfl)
theorem Kh {α:Type 1}{h:List Ob}{x:Option α}{c:α}(hh:noH h x=some c):h=[]∧x=some c:=by
 cases h with
 |nil=>exact⟨rfl,hh⟩
 |cons=>cases hh
theorem aT {n:Int}(h1: -9223372036854775808≤n)(h2:n<9223372036854775808):IntKind.i64.wrap n=n:=by
 simp[IntKind.wrap,IntKind.bits,IntKind.signed];omega
end Go.Sx
end
section
namespace Go.Sx
open Go.RowKit
def ak {ρ σ:Type}(step:Nat→σ→ρ⊕σ):Nat→Nat→σ→ρ⊕σ
 |0,_,s=>.inr s
 |n+1,i,s=>match step i s with
  | .inl r=>.inl r
  | .inr s'=>ak step n (i+1) s'
def fN {ρ σ τ:Type}(step:τ→σ→ρ⊕σ):List τ→σ→ρ⊕σ
 | [],s=>.inr s
 |x::l,s=>match step x s with
  | .inl r=>.inl r
  | .inr s'=>fN step l s'
theorem yY {ρ σ τ:Type}(f:τ→σ→ρ⊕σ)(d:τ):∀ (l pre:List τ) (s:σ),ak (fun i s=>f ((pre++l).getD i d) s) l.length pre.length s=fN f l s
 | [],_,_=>rfl
 |x::l,pre,s=>by
  simp only[List.length_cons,ak,fN]
  have e:(pre++x::l).getD pre.length d=x:=by simp
  rw[e]
  cases f x s with
  |inl r=>rfl
  |inr s'=>
   have:=yY f d l (pre++[x]) s'
   simpa using this
theorem Ac {ρ σ τ:Type}(f:τ→σ→ρ⊕σ)(d:τ)(l:List τ)(s:σ):ak (fun i s=>f (l.getD i d) s) l.length 0 s=fN f l s:=yY f d l [] s
def LC {ρ σ:Type}(pre:Prop)(run:ρ⊕σ)(exE:ρ→Ex)(outE:ρ→St)(outN:σ→St):LCon:=
 {α:=ρ⊕σ,pre:=pre,post:=fun r=>r=run,ex:=fun r=>match r with| .inl x=>exE x| .inr _=>.normal,out:=fun r=>match r with| .inl x=>outE x| .inr s=>outN s}
@[go_sem] theorem BB {ρ σ:Type}{pre:Prop}{run:ρ⊕σ}{exE:ρ→Ex}{outE:ρ→St}{outN:σ→St}{Q:Ex→St→Prop}:
  nh Q (some (LC pre run exE outE outN))=(pre∧(∀ x,run=.inl x→Q (exE x) (outE x))∧∀ s,run=.inr s→Q .normal (outN s)):=by
 apply propext
 constructor
 ·rintro⟨h1,h2⟩
  exact⟨h1,fun x hx=>h2 (.inl x) hx.symm,fun s hs=>h2 (.inr s) hs.symm⟩
 ·rintro⟨h1,h2,h3⟩
  refine⟨h1,fun r hr=>?_⟩
  cases r with
  |inl x=>exact h2 x hr.symm
  |inr s=>exact h3 s hr.symm
section
variable {P:Program}{ρ σ:Type}
def BC (step:Nat→σ→ρ⊕σ)(n:Nat)(exE:ρ→Ex)(outE:ρ→St)(outN:σ→St)(n0 k:Nat)(s:σ)(e:Ex)(st:St):Prop:=
 (∃ js,n≤k∧e=.normal∧n0≤(outN s).h.length∧Sub js n0 st (outN s))∨∃ x js,k<n∧step k s=.inl x∧exE x=e∧n0≤(outE x).h.length∧Sub js n0 st (outE x)
def Ad (step:Nat→σ→ρ⊕σ)(n:Nat)(exE:ρ→Ex)(outE:ρ→St)(outN:σ→St)(D:Nat→σ→St)(J:Nat→σ→Prop)(n0 id k:Nat)(s:σ):Ex→St→Prop
 | .normal,st=>k<n∧∃ s' js,step k s=.inr s'∧J (k+1) s'∧n0≤(D (k+1) s').h.length∧Sub js n0 st (D (k+1) s')
 | .exit j,st=>bif Nat.beq j id then BC step n exE outE outN n0 k s .normal st else BC step n exE outE outN n0 k s (.exit j) st
 | .ret,st=>BC step n exE outE outN n0 k s .ret st
 | .pan x,st=>BC step n exE outE outN n0 k s (.pan x) st
variable {step:Nat→σ→ρ⊕σ}{n n0 id k j:Nat}{exE:ρ→Ex}{outE:ρ→St}{outN:σ→St}{D:Nat→σ→St}{J:Nat→σ→Prop}{s:σ}{st:St}{x:Value}
@[go_sem] theorem Js:Ad step n exE outE outN D J n0 id k s .normal st=(k<n∧∃ s' js,step k s=.inr s'∧J (k+1) s'∧n0≤(D (k+1) s').h.length∧Sub js n0 st (D (k+1) s')):=(rfl)
@[go_sem] theorem Mh:Ad step n exE outE outN D J n0 id k s (.exit j) st=bif Nat.beq j id then BC step n exE outE outN n0 k s .normal st else BC step n exE outE outN n0 k s (.exit j) st:=(rfl)
@[go_sem] theorem NS:Ad step n exE outE outN D J n0 id k s .ret st=BC step n exE outE outN n0 k s .ret st:=(rfl)
@[go_sem] theorem NT:Ad step n exE outE outN D J n0 id k s (.pan x) st=BC step n exE outE outN n0 k s (.pan x) st:=(rfl)
end
end Go.Sx
end
section
namespace Go.Sx
open Go.RowKit
def itY (items:List (List SV))(r:Nat→Res):List SV→Res→Option YCon:=fun args x=>
 some { α:=Bool,pre:=x=r x.n∧1≤x.n∧items[x.n - 1]? =some args,post:=fun _=>True,res:=fun b=>(b,r (if b then x.n+1 else 0))}
def DB (P:Program)(f:FuncId)(mk:SV→List SV)(hs:List Ob)(items:List (List SV)):Prop:=
 (∀ (args:Array Value) (w:World),(callFunc f args).run P w=.ok (.enter f args) w)∧
 ∀ r:Nat→Res,(∀ k,(r k).n=k)→YOk P (itY items r)→∀ (F:Nat→Prop) (own:Own) (w:World) (vs:Array Value),Hp F own w (.ab (r 1)::hs)→RelL F own w (mk (.os 0)) vs→
  Calls P f vs w (fun e w'=>∃ u own' j h',e=.returned u∧(j=0∨j=items.length+1)∧Hp F own' w' (.ab (r j)::h')∧Fr { w:=w,own:=own} own' w')
theorem Mi {P:Program}{f:FuncId}{mk:SV→List SV}{hs:List Ob}{items:List (List SV)}
  (h:∀ r:Nat→Res,(∀ k,(r k).n=k)→YOk P (itY items r)→∃ C,FnOkO P f C∧∃ c,C (mk (.os 0)) (.ab (r 1)::hs)=some c∧c.pre∧∀ x,c.post x→∃ s j h',c.res x=.ret s (.ab (r j)::h')∧(j=0∨j=items.length+1))
  (he:∀ (args:Array Value) (w:World),(callFunc f args).run P w=.ok (.enter f args) w):DB P f mk hs items:=by
 refine⟨he,fun r hr hy F own w vs hp hvs=>?_⟩
 obtain⟨C,hC,c,h1,h2,h3⟩:=h r hr hy
 refine(hC.calls _ _ c h1 h2 F own w vs hp hvs).mono ?_
 rintro e w' ⟨x,own',q1,q2⟩
 obtain⟨s,j,h',k1,k2⟩:=h3 x q1
 rw[k1]at q2
 obtain⟨⟨u,rfl,_⟩,q3,q4,_⟩:=q2
 exact⟨u,own',j,h',rfl,k2,q3,q4⟩
def BD (pre:Prop)(r:Nat→Res)(m:Nat):YCon:= { α:=Bool,pre:=pre,post:=fun _=>True,res:=fun b=>(b,r (if b then m else 0))}
theorem HL {items:List (List SV)}{r:Nat→Res}(hr:∀ k,(r k).n=k)(k:Nat)(args:List SV):itY items r args (r (k+1))=some (BD (items[k]? =some args) r (k+2)):=by
 unfold itY BD
 simp[hr]
section
variable {id m:Nat}{t:List (Nat×SV)}{h:List Ob}{K:St→Prop}{pre:Prop}{r:Nat→Res}{ops:List Oper}{g:Nat×Bool}
theorem two {p:Bool→Prop}:(∀ b,p b)=(p true∧p false):=propext ⟨fun h=>⟨h true,h false⟩,fun h b=>by
 cases b
 ·exact h.2
 ·exact h.1⟩
@[go_sem] theorem TO {d:Nat}:CQ id (some d) ⟨t,h⟩ K (some (BD pre r m))=(pre∧K ⟨(d,.b true)::t,bF h id (.ab (r m))⟩∧K ⟨(d,.b false)::t,bF h id (.ab (r 0))⟩):=by
 show(pre∧∀ b:Bool,True→K ⟨(d,.b b)::t,bF h id (.ab (r (if b then m else 0)))⟩)=_
 simp only[true_imp_iff]
 rw[two];rfl
@[go_sem] theorem TP {d:Nat}:AX id ops g (some d) ⟨t,h⟩ K (some (BD pre r m))=((dQ ops t ops.length g→pre∧K ⟨(d,.gd g.1 g.2 (.b true))::t,bF h id (.ab (r m))⟩∧K ⟨(d,.gd g.1 g.2 (.b false))::t,bF h id (.ab (r 0))⟩)∧(iV ops t ops.length g→K ⟨(d,.gd g.1 g.2 .any)::t,h⟩)):=by
 show((dQ ops t ops.length g→pre∧∀ b:Bool,True→K ⟨(d,.gd g.1 g.2 (.b b))::t,bF h id (.ab (r (if b then m else 0)))⟩)∧(iV ops t ops.length g→K ⟨(d,.gd g.1 g.2 .any)::t,h⟩))=_
 simp only[true_imp_iff]
 rw[two];rfl
end
def Ki (own:Own)(n:Nat):List Nat:=(List.range n).flatMap fun id=>match own id with|some hd=>hd.bs|none=>[]
theorem wX {own:Own}{n:Nat}(hd:∀ id hd,own id=some hd→id<n)(b:Nat):b∈Ki own n↔∃ id hd,own id=some hd∧b∈hd.bs:=by
 unfold Ki
 rw[List.mem_flatMap]
 constructor
 ·rintro⟨id,_,h⟩
  cases ho:own id with
  |none=>rw[ho]at h;cases h
  |some hd=>rw[ho]at h;exact⟨id,hd,ho,h⟩
 ·rintro⟨id,hdd,ho,h⟩
  exact⟨id,List.mem_range.2 (hd id hdd ho),by rw[ho];exact h⟩
section
variable {P:Program}{w0:Bs}{ts:Tis}{G:Cons}{L:pm}{N:Nat}
def Fw (F:Nat→Prop)(l:Nat)(w:World)(b:Nat):Prop:=(F b∧b<w.heap.size)∨b=l
structure LRec where
 l:Nat
 fn:FuncId
 tmps:Array Value
 ps:Array Tmp
 assign:Code
 body:Code
 D:Nat
def LRec.obj (x:LRec)(s:LoopState)(p:Option Code):Obj:=.loop { state:=s,pending:=p,fn:=x.fn,tmps:=x.tmps,params:=x.ps,assign:=x.assign,body:=x.body,defers:=x.D}
structure Pack (x:LRec)(T:List (Nat×SV))(cw:Own)(n0:Nat)(H:List Ob)(o:Obj)(own':Own)(F:Nat→Prop)(bs:List Nat)(w:World):Prop where
 hp:Hp (Fw F x.l w) own' w H
 slots:∀ t,Rel (Fw F x.l w) own' w (lk t T) (x.tmps.getD t undef)
 bs:∀ b,b∈bs↔b=x.l∨∃ id hd,own' id=some hd∧b∈hd.bs
 ids:∀ id hd,cw id=some hd→∃ hd',own' id=some hd'∧hd.like hd'
 nl:¬F x.l
 rcd:w.heap[x.l]? =some o
 le:n0≤H.length
theorem Pack.loc {x:LRec}{T:List (Nat×SV)}{cw:Own}{n0:Nat}{H:List Ob}{o:Obj}{own':Own}{F F':Nat→Prop}{bs:List Nat}{w w':World}(h:Pack x T cw n0 H o own' F bs w)(hsz:w.heap.size≤w'.heap.size)
  (hb:∀ b,b<w.heap.size→¬F b→w'.heap[b]? =w.heap[b]?) (hF:∀ b,b<w.heap.size→F' b→F b):Pack x T cw n0 H o own' F' bs w':=by
 have hl:=lz h.rcd
 have hc:Carries (Fw F x.l w) own' w (Fw F' x.l w') own' w':=⟨fun _ hd e=>⟨hd,e,.refl _⟩,fun b hbl hn=>⟨fun ho=>hn (ho.imp (fun q=>q.imp (fun⟨q1,_⟩ =>⟨hF b hbl q1,hbl⟩) (fun e=>e)) (fun e=>e)),hb b hbl fun hf=>hn (.inl (.inl ⟨hf,hbl⟩))⟩⟩
 have hob:∀ id hd b,own' id=some hd→b∈hd.bs→w'.heap[b]? =w.heap[b]?:=fun id hd b e hm=>hb b (h.hp.lt id hd b e hm) fun hf=>h.hp.apart id hd b e hm (.inl ⟨hf,h.hp.lt id hd b e hm⟩)
 refine⟨⟨h.hp.dom,fun b hbf=>?_,fun id hd b e hm hbf=>?_,h.hp.inj,fun id hd b e hm=>Nat.lt_of_lt_of_le (h.hp.lt id hd b e hm) hsz,fun id hdd=>?_⟩,fun t=>(h.slots t).carry hc,h.bs,h.ids,fun hf=>h.nl (hF _ hl hf),by rw[hb _ hl h.nl];exact h.rcd,h.le⟩
 ·rcases hbf with⟨_,q⟩ |rfl
  ·exact q
  ·omega
 ·have hlt:=h.hp.lt id hd b e hm
  rcases hbf with⟨q,_⟩ |q
  ·exact h.hp.apart id hd b e hm (.inl ⟨hF b hlt q,hlt⟩)
  ·exact h.hp.apart id hd b e hm (.inr q)
 ·obtain⟨hd,e1,e2⟩:=h.hp.obs id hdd
  exact⟨hd,e1,e2.carry hc hsz fun b hm=>hob id hd b e1 hm⟩
def psT:List Nat→List SV→List (Nat×SV)
 |p::ps,s::r=>(p,s)::psT ps r
 |_,_=>[]
def itQ {σ:Type}(T:List (Nat×SV))(Hx:σ→List Ob)(I:Nat→σ→Prop)(S:Ex→σ→Prop)(n0 k:Nat):Ex→St→Prop
 | .normal,st=>∃ y js,I (k+1) y∧n0≤(Hx y).length∧Sub js n0 ⟨T,st.h⟩ ⟨T,Hx y⟩
 | .exit j,st=>∃ y js,S (.exit j) y∧n0≤(Hx y).length∧Sub js n0 ⟨T,st.h⟩ ⟨T,Hx y⟩
 | .ret,st=>∃ y js,S .ret y∧n0≤(Hx y).length∧Sub js n0 ⟨T,st.h⟩ ⟨T,Hx y⟩
 | .pan _,_=>False
def DC:Ex→Option Code
 | .exit j=>some (.exit j)
 | .ret=>some .ret
 |_=>none
def itR {σ:Type}(x:LRec)(T:List (Nat×SV))(cw:Own)(n0:Nat)(Hx:σ→List Ob)(I:Nat→σ→Prop)(S:Ex→σ→Prop):Nat→Res
 |0=>{ yv:=.func (.yield x.l) #[] #[],n:=0,R:=fun F bs w=>∃ e y own',S e y∧(DC e).isSome=true∧Pack x T cw n0 (Hx y) (x.obj .done (DC e)) own' F bs w,loc:=fun F F' bs w w' ⟨e,y,own',h0,h1,h2⟩ hsz hb hF=>⟨e,y,own',h0,h1,h2.loc hsz hb hF⟩}
 |k+1=>{ yv:=.func (.yield x.l) #[] #[],n:=k+1,R:=fun F bs w=>∃ y own',I k y∧Pack x T cw n0 (Hx y) (x.obj .ready none) own' F bs w,loc:=fun F F' bs w w' ⟨y,own',h0,h2⟩ hsz hb hF=>⟨y,own',h0,h2.loc hsz hb hF⟩}
theorem Mj {σ:Type}{x:LRec}{T:List (Nat×SV)}{cw:Own}{n0:Nat}{Hx:σ→List Ob}{I:Nat→σ→Prop}{S:Ex→σ→Prop}:∀ k,(itR x T cw n0 Hx I S k).n=k∧(itR x T cw n0 Hx I S k).yv=.func (.yield x.l) #[] #[]
 |0=>⟨rfl,rfl⟩
 |_+1=>⟨rfl,rfl⟩
theorem HM:∀ (ps:List Nat) (args:List SV) (T:List (Nat×SV)) (tmps:Array Value) (vs:List Value) (t:Nat) {F:Nat→Prop} {own:Own} {w:World},ps.Nodup→(∀ p∈ps,p<tmps.size)→args.length=ps.length→vs.length=ps.length→
  (∀ (j:Nat) (s:SV) (v:Value),args[j]? =some s→vs[j]? =some v→Rel F own w s v)→Rel F own w (lk t T) (tmps.getD t undef)→Rel F own w (lk t (psT ps args++T)) (((ps.zip vs).foldl (fun tmps (t,a) =>tmps.setIfInBounds t a) tmps).getD t undef)
 | [],args,T,tmps,vs,t,_,_,_,_,_,ha,_,_,hT=>by
  cases args with
  |nil=>exact hT
  |cons=>simp at ha
 |p::ps,[],T,tmps,vs,t,_,_,_,_,_,ha,_,_,_=>by simp at ha
 |p::ps,s::args,T,tmps,[],t,_,_,_,_,_,_,hv,_,_=>by simp at hv
 |p::ps,s::args,T,tmps,v::vs,t,F,own,w,hn,hp,ha,hv,hr,hT=>by
  rw[List.nodup_cons]at hn
  have hother:∀ (l:List (Nat×Value)) (tm:Array Value),(∀ x∈l,x.1≠p)→(l.foldl (fun tmps (t,a) =>tmps.setIfInBounds t a) tm).getD p undef=tm.getD p undef:=by
   intro l
   induction l with
   |nil=>intro tm _;rfl
   |cons y r ih=>
    intro tm hy
    simp only[List.foldl_cons]
    rw[ih _ fun x hx=>hy x (by simp[hx])]
    simp only[Array.getD_eq_getD_getElem?,Array.getElem?_setIfInBounds]
    rw[if_neg (hy y (by simp))]
  have hlkp:∀ (ps2:List Nat) (as2:List SV),p ∉ ps2→lk p (psT ps2 as2++T)=lk p T:=by
   intro ps2
   induction ps2 with
   |nil=>intro as2 _;cases as2 <;>rfl
   |cons q r ih=>
    intro as2 hq
    cases as2 with
    |nil=>rfl
    |cons a as2=>
     simp only[List.mem_cons,not_or]at hq
     simp only[psT,List.cons_append]
     rw[kS,if_neg (fun e=>hq.1 e.symm)]
     exact ih as2 hq.2
  simp only[List.zip_cons_cons,List.foldl_cons,psT,List.cons_append]
  rw[kS]
  by_cases ht:p=t
  ·subst ht
   rw[if_pos rfl,hother _ _ fun x hx=>by
    have:=List.of_mem_zip hx
    exact fun e=>hn.1 (e▸this.1)]
   simp only[Array.getD_eq_getD_getElem?,Array.getElem?_setIfInBounds]
   simp only[if_true]
   rw[if_pos (hp p (by simp))]
   exact hr 0 s v rfl rfl
  ·rw[if_neg ht]
   refine HM ps args T (tmps.setIfInBounds p v) vs t hn.2 (fun q hq=>by simpa using hp q (by simp[hq])) (by simpa using ha) (by simpa using hv) (fun j s v h1 h2=>hr (j+1) s v (by simpa using h1) (by simpa using h2)) ?_
   simp only[Array.getD_eq_getD_getElem?,Array.getElem?_setIfInBounds]
   rw[if_neg ht]
   simpa[Array.getD_eq_getD_getElem?]using hT
theorem F0 (l:List (Nat×Value)):∀ (tm:Array Value),(l.foldl (fun tmps (t,a) =>tmps.setIfInBounds t a) tm).size=tm.size:=by
 induction l with
 |nil=>intro tm;rfl
 |cons y r ih=>intro tm;simp only[List.foldl_cons];rw[ih];simp
theorem NU (hm:P.follows .mixedOrders=true)(hts:ts.ok P)(hG:ConsOk P G){σ:Type}{x:LRec}{T:List (Nat×SV)}{cw:Own}{n0:Nat}{Hx:σ→List Ob}{I:Nat→σ→Prop}{S:Ex→σ→Prop}{items:List (List SV)}
  (hsz:x.tmps.size=N) (hn0:∀ id hd,cw id=some hd→id<n0) (hpn:x.ps.toList.Nodup) (hpN:∀ p∈x.ps.toList,p<N) (hca:ct N x.assign=true) (hcb:ct N x.body=true)
  (hround:∀ k y args,items[k]? =some args→I k y→args.length=x.ps.size∧∃ L Qx,(∀ l,al P (some l) N L x.assign)∧(∀ l,al P (some l) N L x.body)∧(∀ e st,Qx e st→itQ T Hx I S n0 k e st)∧exec ts G L x.assign ⟨psT x.ps.toList args++T,Hx y⟩ (fun e st1=>e=.normal∧exec ts G L x.body st1 Qx)):
  YOk P (itY items (itR x T cw n0 Hx I S)):=by
 intro args rr c hc hpre F bs w vs hR hF hbs hvs
 simp only[itY,Option.some.injEq]at hc
 subst hc
 obtain⟨h1,h2,h3⟩:=hpre
 generalize hk:rr.n=kk at h1 h2 h3
 obtain⟨k,rfl⟩:∃ k,kk=k+1:=⟨kk - 1,by omega⟩
 simp only[Nat.add_sub_cancel]at h3
 subst h1
 obtain⟨y,own',hI,pk⟩:=hR
 obtain⟨hal,L,Qx,hla,hlb,hQx,hex⟩:=hround k y args h3 hI
 have hvl:vs.size=x.ps.size:=by rw[hvs.1];exact hal
 have hl:=lz pk.rcd
 right
 have hpfs:∀ b,Fw F x.l w b→b<w.heap.size:=fun b hb=>pk.hp.foreign b hb
 refine⟨x.l,x.fn,(x.ps.zip vs).foldl (fun tmps (t,a) =>tmps.setIfInBounds t a) x.tmps,x.assign,x.body,?_,roundIn_of_wpIn trivial ?_⟩
 ·show(FM (.func (.yield x.l) #[] #[]) vs).run P w=_
  have hy:=run_yield (P:=P) (w:=w) (l:=x.l) (args:=vs) pk.rcd hvl
  unfold FM
  simp[Deferred.ofValue,invoke,hy,go_sem]
 ·
  generalize htm:(x.ps.zip vs).foldl (fun tmps (t,a) =>tmps.setIfInBounds t a) x.tmps=tmps'
  have hFw:∀ b,F b→Fw F x.l w b:=fun b hb=>.inl ⟨hb,hF b hb⟩
  have hargs:RelL (Fw F x.l w) own' w args vs:=⟨hvs.1,fun j s hj=>(hvs.2 j s hj).over (kT (hvs.2 j s hj)) fun b hb ho=>hb (by
   left
   rcases ho with(⟨q,_⟩ |q) | ⟨id,hd,e,hm⟩
   ·exact .inl q
   ·exact .inr ((pk.bs b).2 (.inl q))
   ·exact .inr ((pk.bs b).2 (.inr ⟨id,hd,e,hm⟩)))⟩
  have hstart:StRel (Fw F x.l w) { w:=w,own:=own'} N own' ⟨psT x.ps.toList args++T,Hx y⟩ { tmps:=tmps',defers:=[]} w:=by
   refine⟨?_,Dfr.nil,pk.hp,Fr.refl { w:=w,own:=own'},fun t=>?_⟩
   ·rw[←htm,←Array.foldl_toList,F0];exact hsz
   ·rw[←htm,←Array.foldl_toList,Array.toList_zip]
    refine HM x.ps.toList args T x.tmps vs.toList t hpn (fun p hp=>by rw[hsz];exact hpN p hp) (by simpa using hal) (by simpa using hvl) (fun j s v h1 h2=>?_) (pk.slots t)
    have:=hargs.2 j s h1
    have e:vs.getD j undef=v:=by rw[Array.getElem?_toList]at h2;simp[Array.getD_eq_getD_getElem?,h2]
    rwa[e]at this
  refine wpIn_mono (mN (ro:=some x.l) (nd:=0) hm hts hG x.assign hca (hla x.l) _ _ _ hex own' _ w hstart) ?_
  intro e a1 w1 hq
  cases e with
  |normal=>
   obtain⟨F1,own1,st1,hF1,hst1,_,hex1⟩:=hq
   have hl1:F1 x.l:=hF1 _ (.inr rfl)
   have hno1:∀ id hd,own' id=some hd→x.l ∉ hd.bs:=fun id hd e hm=>pk.hp.apart id hd _ e hm (.inr rfl)
   have hrec1:w1.heap[x.l]? =some (x.obj .ready none):=by
    rw[hst1.fr.block x.l ⟨hl,fun⟨id,hd,e,hm⟩ =>hno1 id hd e hm⟩];exact pk.rcd
   refine⟨w1.putObj x.l (x.obj .busy none),run_beginRound hrec1 rfl,?_⟩
   have g1:Goes F1 own1 w1 own1 (w1.putObj x.l (x.obj .busy none)):=⟨fun _ hd e=>⟨hd,e,.refl _⟩,fun b _ hn=>⟨hn,World.putObj_heap_other fun e=>hn (.inl (e▸hl1))⟩,by simp⟩
   have hst2:StRel F1 { w:=w.putObj x.l (x.obj .busy none),own:=own'} N own1 st1 a1 (w1.putObj x.l (x.obj .busy none)):=by
    refine⟨hst1.size,?_,hst1.hp.goes g1 fun id hd b e hm=>World.putObj_heap_other fun e'=>hst1.hp.apart id hd b e hm (e'▸hl1),⟨hst1.fr.ids,fun id hd b e hm ho=>hst1.fr.base id hd b e hm ⟨by have:=ho.1;simpa using this,ho.2⟩,hst1.fr.os,hst1.fr.tape,hst1.fr.output,by simpa using hst1.fr.size,fun b hb=>?_⟩,fun t=>(hst1.slots t).mono g1⟩
    ·obtain⟨ms,Ds,q0,q1,q2,q3⟩:=hst1.defers
     refine⟨ms,Ds,q0,q1,q2,fun D hD=>⟨by simpa using (q3 D hD).1,(q3 D hD).2.1,?_⟩⟩
     rw[World.putObj_heap_other fun e=>?_]
     ·exact(q3 D hD).2.2
     ·have:=(q3 D hD).2.2;rw[e,hrec1]at this;simp[LRec.obj]at this
    ·by_cases e:b=x.l
     ·subst e
      rw[World.putObj_heap_same hl,World.putObj_heap_same (Nat.lt_of_lt_of_le hl hst1.fr.size)]
     ·rw[World.putObj_heap_other e,World.putObj_heap_other e]
      exact hst1.fr.block b ⟨by have:=hb.1;simpa using this,hb.2⟩
   refine wpIn_mono (mN (ro:=some x.l) (nd:=0) hm hts hG x.body hcb (hlb x.l) _ _ _ hex1 own1 _ _ hst2) ?_
   intro e a2 w2 hq
   replace hq:=oC hQx _ _ _ hq
   have key:∀ (F2:Nat→Prop) (own2:Own) (st2:St) (y2:σ) (js:List Nat) (b:Bool) (jump:Option Code),(∀ c,F1 c→F2 c)→StRel F2 { w:=w.putObj x.l (x.obj .busy none),own:=own'} N own2 st2 a2 w2→n0≤(Hx y2).length→Sub js n0 ⟨T,st2.h⟩ ⟨T,Hx y2⟩→b=jump.isNone→
     (∀ own3 bs' w3,Pack x T cw n0 (Hx y2) (x.obj (if jump.isNone then .ready else .done) jump) own3 F bs' w3→(itR x T cw n0 Hx I S (if b then k+1+1 else 0)).R F bs' w3)→
     ∃ v w3,(Instr.endRound x.l jump).run P w2=.ok v w3∧∃ a bs',True∧(Ending.returned v)=.returned (.bool ((a,itR x T cw n0 Hx I S (if a then k+1+1 else 0)):Bool×Res).1)∧(itR x T cw n0 Hx I S (if a then k+1+1 else 0)).R F bs' w3∧(itR x T cw n0 Hx I S (if a then k+1+1 else 0)).yv=.func (.yield x.l) #[] #[]∧YFr bs bs' w w3:=by
    intro F2 own2 st2 y2 js b jump hF2 hst hle hsub hb hR3
    subst hb
    have hl2:F2 x.l:=hF2 _ hl1
    have hrec2:w2.heap[x.l]? =some (x.obj .busy none):=by
     rw[hst.fr.block x.l ⟨by simpa using hl,fun⟨id,hd,e,hm⟩ =>hno1 id hd e hm⟩];exact World.putObj_heap_same hl
    have hsz2:w.heap.size≤w2.heap.size:=by have:=hst.fr.size;simpa using this
    have hl2s:=Nat.lt_of_lt_of_le hl hsz2
    obtain⟨q1,q2,q3,q4⟩:=Du hsub hst.hp hle
    let own3:=ff js (Hx y2) own2
    let w3:=w2.putObj x.l (x.obj (if jump.isNone then .ready else .done) jump)
    have hF2w:∀ c,Fw F x.l w3 c→F2 c:=fun c hc=>by
     rcases hc with⟨hc,_⟩ |rfl
     ·exact hF2 c (hF1 c (hFw c hc))
     ·exact hl2
    have hoth:∀ c,c≠x.l→w3.heap[c]? =w2.heap[c]?:=fun c hc=>World.putObj_heap_other hc
    have hcar:Carries F2 own3 w2 (Fw F x.l w3) own3 w3:=⟨fun _ hd e=>⟨hd,e,.refl _⟩,fun c hcl hn=>⟨fun ho=>hn (ho.imp (hF2w c) (fun e=>e)),hoth c fun e=>hn (.inl (e▸hl2))⟩⟩
    have hblk:∀ c,c<w.heap.size→c≠x.l→(¬ ∃ id hd,own' id=some hd∧c∈hd.bs)→w2.heap[c]? =w.heap[c]?:=fun c h1 h2 h3=>by
     rw[hst.fr.block c ⟨by simpa using h1,h3⟩];exact World.putObj_heap_other h2
    have hown2:∀ id hd c,own2 id=some hd→c∈hd.bs→(∃ id hd,own' id=some hd∧c∈hd.bs)∨w.heap.size≤c:=fun id hd c e hm=>by
     have:=hst.fr.base id hd c e hm
     by_cases hc:c<w.heap.size
     ·exact .inl (Classical.byContradiction fun hn=>this ⟨by simpa using hc,hn⟩)
     ·exact .inr (by omega)
    have gall:Goes (Fw F x.l w) own' w own2 w2:=⟨hst.fr.ids,fun c hcl hn=>by
     have h2:c≠x.l:=fun e=>hn (.inl (.inr e))
     have h3:¬ ∃ id hd,own' id=some hd∧c∈hd.bs:=fun h=>hn (.inr h)
     refine⟨?_,hblk c hcl h2 h3⟩
     rintro (hf| ⟨id,hd,e,hm⟩)
     ·exact hn (.inl hf)
     ·rcases hown2 id hd c e hm with h|h
      ·exact h3 h
      ·omega,hsz2⟩
    have hcar2:Carries (Fw F x.l w) own3 w2 (Fw F x.l w3) own3 w3:=⟨fun _ hd e=>⟨hd,e,.refl _⟩,fun c hcl hn=>⟨fun ho=>hn (ho.imp (fun hc=>by
     rcases hc with⟨hc,_⟩ |rfl
     ·exact hFw c hc
     ·exact .inr rfl) (fun e=>e)),hoth c fun e=>hn (.inl (.inr e))⟩⟩
    have hpk:Pack x T cw n0 (Hx y2) (x.obj (if jump.isNone then .ready else .done) jump) own3 F (x.l::Ki own3 (Hx y2).length) w3:=by
     refine⟨⟨q1.dom,fun c hc=>?_,fun id hd c e hm hc=>q1.apart id hd c e hm (hF2w c hc),q1.inj,fun id hd c e hm=>by have:=q1.lt id hd c e hm;simpa[w3]using this,fun id hdd=>?_⟩,fun t=>?_,fun c=>?_,fun id hd e=>?_,pk.nl,World.putObj_heap_same hl2s,hle⟩
     ·rcases hc with⟨_,hc⟩ |rfl
      ·exact hc
      ·simpa[w3]using hl2s
     ·obtain⟨hd,e1,e2⟩:=q1.obs id hdd
      exact⟨hd,e1,e2.carry hcar (by simp[w3]) fun c hm=>hoth c fun e=>q1.apart id hd c e1 hm (e▸hl2)⟩
     ·rcases vJ t _ hsub.2.1 with e| ⟨e1,e2⟩
      ·rw[e];exact .any _
      ·have h1:=(pk.slots t).mono gall
       have h1':Rel (Fw F x.l w) own2 w2 (ren (vn js) 5 (lk t T)) (x.tmps.getD t undef):=e1▸h1
       exact(q3 (Fw F x.l w) 5 _ _ e2 h1').carry hcar2
     ·rw[List.mem_cons,wX q1.dom]
     ·obtain⟨hd1,e1,l1⟩:=pk.ids id hd e
      obtain⟨hd2,e2,l2⟩:=hst.fr.ids id hd1 e1
      obtain⟨hd3,e3,l3⟩:=q4 id hd2 (hn0 id hd e) e2
      exact⟨hd3,e3,(l1.trans l2).trans l3⟩
    refine⟨_,w3,run_endRound jump hrec2,jump.isNone,_,trivial,rfl,hR3 _ _ _ hpk,(Mj _).2,hst.fr.os,hst.fr.tape,hst.fr.output,by simpa[w3]using hsz2,fun c hc hn=>?_,fun c hc=>?_⟩
    ·have h2:c≠x.l:=fun e=>hn ((pk.bs c).2 (.inl e))
     rw[hoth c h2]
     exact hblk c hc h2 fun h=>hn ((pk.bs c).2 (.inr h))
    ·rcases List.mem_cons.1 hc with rfl|hc
     ·exact⟨by simpa[w3]using hl2s,.inl ((pk.bs _).2 (.inl rfl))⟩
     ·obtain⟨id,hd,e,hm⟩:=(wX q1.dom c).1 hc
      refine⟨by have:=q1.lt id hd c e hm;simpa[w3]using this,?_⟩
      obtain⟨_,j,hd0,_,e2,_,e4⟩:=fz e
      obtain⟨_,rfl⟩:=e4 c hm
      rcases hown2 j hd c e2 hm with h|h
      ·exact .inl ((pk.bs c).2 (.inr h))
      ·exact .inr h
   cases e with
   |normal=>
    obtain⟨F2,own2,st2,h0,hst,y2,js,hI2,hle,hsub⟩:=hq
    exact key F2 own2 st2 y2 js true none h0 hst hle hsub rfl fun own3 bs' w3 hp=>⟨y2,own3,hI2,hp⟩
   |ret=>
    obtain⟨F2,own2,st2,h0,hst,y2,js,hS2,hle,hsub⟩:=hq
    exact key F2 own2 st2 y2 js false (some .ret) h0 hst hle hsub rfl fun own3 bs' w3 hp=>⟨.ret,y2,own3,hS2,rfl,hp⟩
   |exit j=>
    obtain⟨F2,own2,st2,h0,hst,y2,js,hS2,hle,hsub⟩:=hq
    exact key F2 own2 st2 y2 js false (some (.exit j)) h0 hst hle hsub rfl fun own3 bs' w3 hp=>⟨.exit j,y2,own3,hS2,rfl,hp⟩
   |panic ch=>obtain⟨x',F2,own2,st2,_,_,h,_⟩:=hq;exact h.elim
   |_=>exact hq.elim
  |exit j=>obtain⟨F1,own1,st1,_,_,h,_⟩:=hq;cases h
  |ret=>obtain⟨F1,own1,st1,_,_,h,_⟩:=hq;cases h
  |panic ch=>obtain⟨x',F1,own1,st1,_,_,⟨h,_⟩,_⟩:=hq;cases h
  |_=>exact hq.elim
end
end Go.Sx
end
section
namespace Go.Sx
open Go.RowKit
section
variable {P:Program}{w0:Bs}{ts:Tis}{G:Cons}{L:pm}{N:Nat}
def s6 (ids:List Nat)(h:List Ob):List Ob:=aY h (ids.map fun id=>(id,Ob.dead))
theorem yZ (h:List Ob)(id:Nat):∀ (ids:List Nat) (h:List Ob),ag (s6 ids h) id=if id∈ids then .dead else ag h id
 | [],h=>by simp[s6,aY]
 |a::r,h=>by
  have ih:=yZ h id r (bF h a .dead)
  have e:s6 (a::r) h=s6 r (bF h a .dead):=rfl
  rw[e,ih]
  by_cases h1:id∈r
  ·simp[h1]
  ·rw[if_neg h1,cA]
   by_cases h2:a=id
   ·simp[h2]
   ·rw[if_neg h2,if_neg]
    simp[h1];exact fun e=>h2 e.symm
def DD (ids:List Nat)(i:Nat):Option Nat:=(q_ i ids).map (· +1)
def BE (ids:List Nat)(h:List Ob):List Ob:=ids.map fun i=>oY (DD ids) (ag h i)
def kV (st:St)(caps:List SV):List Nat:=reach st.h 64 (caps.flatMap (dI 3)) []
def Kj (lc:LCon)(n0:Nat)(e:Ex)(st:St):Prop:= ∃ r js,lc.post r∧lc.ex r=e∧n0≤(lc.out r).h.length∧Sub js n0 st (lc.out r)
theorem Kk {F:Nat→Prop}{own:Own}{st:St}{a:Act}{w:World}(hr:StRel F w0 N own st a w)(x:Operand):Rel F own w (raw st.t x) (a.eval x):=by
 cases x with
 |tmp t=>exact hr.slots t
 |const v=>exact .v v
 |func f=>exact .fn rfl rfl (fun j s h=>by simp at h) (fun j s h=>by simp at h)
 |global g=>exact .any _
theorem BF (hm:P.follows .mixedOrders=true)(hts:ts.ok P)(hG:ConsOk P G){id:Nat}{g:Operand}{ps:Array Tmp}{assign body:Code}{C:St→Option LCon}
  (hpn:ps.toList.Nodup) (hpN:∀ p∈ps.toList,p<N) (hca:ct N assign=true) (hcb:ct N body=true)
  (h:∀ st lc,C st=some lc→lc.pre→∃ (f:FuncId) (caps:List SV) (items:List (List SV)) (σ:Type) (T:List (Nat×SV)) (Hx:σ→List Ob) (I:Nat→σ→Prop) (S:Ex→σ→Prop) (x0:σ) (js:List Nat),
   raw st.t g=.fn f [] caps∧I 0 x0∧st.h.length≤(Hx x0).length∧Sub js st.h.length ⟨st.t,s6 (kV st caps) st.h⟩ ⟨T,Hx x0⟩∧
   DB P f (fun y=>y::caps.map (ren (DD (kV st caps)) 3)) (BE (kV st caps) st.h) items∧
   (∀ k y args,items[k]? =some args→I k y→args.length=ps.size∧∃ L Qx,(∀ l,al P (some l) N L assign)∧(∀ l,al P (some l) N L body)∧(∀ e st',Qx e st'→itQ T Hx I S st.h.length k e st')∧exec ts G L assign ⟨psT ps.toList args++T,Hx y⟩ (fun e st1=>e=.normal∧exec ts G L body st1 Qx))∧
   (∀ y,I items.length y→Kj lc st.h.length .normal ⟨T,Hx y⟩)∧(∀ y,S .ret y→Kj lc st.h.length .ret ⟨T,Hx y⟩)∧
   ∀ j y,S (.exit j) y→Kj lc st.h.length (if j=id then .normal else .exit j) ⟨T,Hx y⟩):iX P none N id (.rangeFunc g ps assign body) C:=by
 intro nd F w0 st lc hC hpre own a w hr
 obtain⟨f,caps,items,σ,T,Hx,I,S,x0,js,hg,hI0,hle0,hsub0,hit,hround,hN,hRet,hEx⟩:=h st lc hC hpre
 have hrel:=Kk hr g
 rw[hg]at hrel
 generalize hev:a.eval g=gv at hrel
 cases hrel with
 | @fn _ _ _ us lb e1 e2 e3 e4=>
  have hus:us= #[]:=by
   obtain⟨l⟩:=us
   cases l with
   |nil=>rfl
   |cons=>simp at e1
  subst hus
  have hcaps:RelL F own w caps lb:=⟨e2,e4⟩
  have hids:∀ i∈kV st caps,∃ hd,own i=some hd:=qP hr.hp 64 _ [] (fun i hi=>by
   obtain⟨x,hx,hxi⟩:=List.mem_flatMap.1 hi
   obtain⟨j,hj⟩:=List.getElem?_of_mem hx
   exact zV 3 x _ (hcaps.2 j x hj) i hxi) (fun i hi=>by cases hi)
  have hnd:(kV st caps).Nodup:=lZ st.h 64 _ [] List.nodup_nil
  generalize hidsE:kV st caps=ids at hids hnd hsub0 hit
  refine wpIn_block (wpIn_rangeFunc fun fn _=>?_)
  let rc:LRec:=⟨w.heap.size+1,fn,a.tmps,ps,assign,body,w.heap.size⟩
  let yv:Value:=.func (.yield (w.heap.size+1)) #[] #[]
  obtain⟨W1,hW1⟩:∃ W1,(w.alloc (.deferred (some []))).alloc (rc.obj .ready none)=W1:=⟨_,rfl⟩
  have hsz1:W1.heap.size=w.heap.size+2:=by rw[←hW1,gz,gz]
  have hold:∀ b,b<w.heap.size→W1.heap[b]? =w.heap[b]?:=fun b hb=>by
   rw[←hW1,ni _ _ b (by rw[gz];omega),ni _ _ b hb]
  have hl1:W1.heap[w.heap.size+1]? =some (rc.obj .ready none):=by
   rw[←hW1];have:=jf (w.alloc (.deferred (some []))) (rc.obj .ready none);rwa[gz]at this
  have hD1:W1.heap[w.heap.size]? =some (.deferred (some [])):=by
   rw[←hW1,ni _ _ _ (by rw[gz];omega)];exact jf w _
  refine⟨w.heap.size+1,[{ target:=.collected w.heap.size,args:= #[]}],W1,{ target:=.fn (.func f) lb,args:= #[yv]},W1,f,#[yv]++lb,W1,?_,?_,fun _ _=>trivial,?_,fun h=>(by cases h),?_⟩
  ·rw[←hW1];exact run_enterLoop_outer _ _ _ _ _
  ·simp only[resolve,hev]
   simp[go_sem,yv]
  ·simp[invoke,go_sem,hit.1]
  let own_s:Own:=fun i=>if i∈ids then(own i).map (fun hd=>{ hd with bs:=[]})else own i
  let F1:Nat→Prop:=fun b=>F b∨b=w.heap.size∨b=w.heap.size+1∨∃ i hd,i∈ids∧own i=some hd∧b∈hd.bs
  have hs1:∀ i hd,own_s i=some hd→∃ hd0,own i=some hd0∧hd0.like hd∧∀ b∈hd.bs,i ∉ ids∧hd=hd0:=fun i hd e=>by
   by_cases hi:i∈ids
   ·simp only[own_s,if_pos hi,Option.map_eq_some_iff]at e
    obtain⟨hd0,e1,rfl⟩:=e
    exact⟨hd0,e1,⟨rfl,rfl,rfl⟩,fun b hb=>by cases hb⟩
   ·simp only[own_s,if_neg hi]at e
    exact⟨hd,e,.refl _,fun b _=>⟨hi,rfl⟩⟩
  have hs2:∀ i hd,own i=some hd→∃ hd',own_s i=some hd'∧hd.like hd':=fun i hd e=>by
   by_cases hi:i∈ids
   ·exact⟨{ hd with bs:=[]},by simp only[own_s,if_pos hi,e];rfl,⟨rfl,rfl,rfl⟩⟩
   ·exact⟨hd,by simp only[own_s,if_neg hi];exact e,.refl _⟩
  have hcar1:Carries F own w F1 own_s W1:=⟨hs2,fun b hb hn=>⟨by
   rintro ((hf|hf|hf| ⟨i,hd,_,e,hm⟩) | ⟨i,hd,e,hm⟩)
   ·exact hn (.inl hf)
   ·omega
   ·omega
   ·exact hn (.inr ⟨i,hd,e,hm⟩)
   ·obtain⟨hd0,e0,_,e1⟩:=hs1 i hd e
    obtain⟨_,rfl⟩:=e1 b hm
    exact hn (.inr ⟨i,hd,e0,hm⟩),hold b hb⟩⟩
  have hp1:Hp F1 own_s W1 (s6 ids st.h):=by
   refine⟨fun i hd e=>?_,fun b hb=>?_,fun i hd b e hm hb=>?_,fun i j hi hj b e1 e2 h1 h2=>?_,fun i hd b e hm=>?_,fun i hdd=>?_⟩
   ·obtain⟨hd0,e0,_⟩:=hs1 i hd e
    exact Nat.lt_of_lt_of_le (hr.hp.dom i hd0 e0) (sf _ _)
   ·rcases hb with hf|hf|hf| ⟨i,hd,_,e,hm⟩
    ·have:=hr.hp.foreign b hf;omega
    ·omega
    ·omega
    ·have:=hr.hp.lt i hd b e hm;omega
   ·obtain⟨hd0,e0,_,e1⟩:=hs1 i hd e
    obtain⟨hni,rfl⟩:=e1 b hm
    have hlt:=hr.hp.lt i hd b e0 hm
    rcases hb with hf|hf|hf| ⟨i2,hd2,h1,h2,h3⟩
    ·exact hr.hp.apart i hd b e0 hm hf
    ·omega
    ·omega
    ·exact hni (hr.hp.inj i i2 hd hd2 b e0 h2 hm h3▸h1)
   ·obtain⟨hd1,k1,_,k2⟩:=hs1 i hi e1
    obtain⟨hd2,k3,_,k4⟩:=hs1 j hj e2
    obtain⟨_,rfl⟩:=k2 b h1
    obtain⟨_,rfl⟩:=k4 b h2
    exact hr.hp.inj i j hi hj b k1 k3 h1 h2
   ·obtain⟨hd0,e0,_,e1⟩:=hs1 i hd e
    obtain⟨_,rfl⟩:=e1 b hm
    have:=hr.hp.lt i hd b e0 hm;omega
   ·rw[yZ st.h i ids st.h]at hdd ⊢
    by_cases hi:i∈ids
    ·rw[if_pos hi]at hdd;cases hdd
    ·rw[if_neg hi]at hdd ⊢
     obtain⟨hd,e1,e2⟩:=hr.hp.obs i hdd
     exact⟨hd,by simp only[own_s,if_neg hi];exact e1,e2.carry hcar1 (by omega) fun b hm=>hold b (hr.hp.lt i hd b e1 hm)⟩
  obtain⟨q1,q2,q3,q4⟩:=Du hsub0 hp1 hle0
  change Hp F1 (ff js (Hx x0) own_s) W1 (Hx x0)at q1
  generalize hown0:ff js (Hx x0) own_s=own_0 at q1 q2 q3 q4
  have h0s:∀ i hd b,own_0 i=some hd→b∈hd.bs→∃ j,j ∉ ids∧own j=some hd:=fun i hd b e hm=>by
   rw[←hown0]at e
   obtain⟨_,j,hd0,_,e2,_,e4⟩:=fz e
   obtain⟨_,rfl⟩:=e4 b hm
   obtain⟨hd1,k1,_,k2⟩:=hs1 j hd e2
   obtain⟨k3,rfl⟩:=k2 b hm
   exact⟨j,k3,k1⟩
  have hslot1:∀ t,Rel F1 own_0 W1 (lk t T) (a.tmps.getD t undef):=fun t=>by
   rcases vJ t _ hsub0.2.1 with e| ⟨e1,e2⟩
   ·rw[e];exact .any _
   ·have h1:=(hr.slots t).carry hcar1
    have e1':lk t st.t=ren (vn js) 5 (lk t T):=e1
    rw[e1']at h1
    exact q3 F1 5 _ _ e2 h1
  let bs0:List Nat:=(w.heap.size+1)::Ki own_0 (Hx x0).length
  have hbs0:∀ b,b∈bs0↔b=w.heap.size+1∨∃ i hd,own_0 i=some hd∧b∈hd.bs:=fun b=>by
   show b∈_::_↔_
   rw[List.mem_cons,wX q1.dom]
  let Ff:Nat→Prop:=fun b=>F b∨b=w.heap.size
  let own_f:Own:=fun i=>match i with|0=>some ⟨none,yv,[],bs0⟩ |i+1=>(ids[i]?).bind own
  have hf1:∀ i hd,own_f (i+1)=some hd→∃ j,ids[i]? =some j∧own j=some hd:=fun i hd e=>by
   have e':(ids[i]?).bind own=some hd:=e
   rw[Option.bind_eq_some_iff]at e';exact e'
  have hffo:∀ b,bZ Ff own_f b→(F b∨b=w.heap.size∨b=w.heap.size+1)∨∃ i hd,own i=some hd∧b∈hd.bs:=by
   rintro b ((hf|hf) | ⟨i,hd,e,hm⟩)
   ·exact .inl (.inl hf)
   ·exact .inl (.inr (.inl hf))
   ·cases i with
    |zero=>
     cases e
     rcases(hbs0 b).1 hm with h| ⟨i,hd,e,hm⟩
     ·exact .inl (.inr (.inr h))
     ·obtain⟨j,_,k⟩:=h0s i hd b e hm
      exact .inr ⟨j,hd,k,hm⟩
    |succ i=>obtain⟨j,_,k⟩:=hf1 i hd e;exact .inr ⟨j,hd,k,hm⟩
  let Fs:Nat→Prop:=fun b=>F b∨b=w.heap.size∨b=w.heap.size+1
  have hcar0:Carries F own w Fs own W1:=⟨fun _ hd e=>⟨hd,e,.refl _⟩,fun b hb hn=>⟨by
   rintro ((hf|hf|hf) |ho)
   ·exact hn (.inl hf)
   ·omega
   ·omega
   ·exact hn (.inr ho),hold b hb⟩⟩
  have hrn:Rn (DD ids) own own_f:=⟨fun i j hd hm e=>by
   unfold DD at hm
   rw[Option.map_eq_some_iff]at hm
   obtain⟨k,hk,rfl⟩:=hm
   refine⟨hd,?_,.refl _⟩
   show(ids[k]?).bind own=some hd
   rw[kU ids i k hk];exact e⟩
  have hsh:∀ b,¬bZ Fs own b→¬bZ Ff own_f b:=fun b hn ho=>hn (hffo b ho)
  let F':Nat→Prop:=fun b=>bZ Ff own_f b∧b ∉ bs0
  have hF'1:∀ b,Fw F' rc.l W1 b→F1 b:=by
   rintro b (⟨⟨ho,hn⟩,_⟩ |hb)
   ·rcases ho with(hf|hf) | ⟨i,hd,e,hm⟩
    ·exact .inl hf
    ·exact .inr (.inl hf)
    ·cases i with
     |zero=>cases e;exact absurd hm hn
     |succ i=>obtain⟨j,k1,k2⟩:=hf1 i hd e;exact .inr (.inr (.inr ⟨j,hd,List.mem_of_getElem? k1,k2,hm⟩))
   ·exact .inr (.inr (.inl hb))
  have hcarP:Carries F1 own_0 W1 (Fw F' rc.l W1) own_0 W1:=⟨fun _ hd e=>⟨hd,e,.refl _⟩,fun b _ hn=>⟨fun ho=>hn (ho.imp (hF'1 b) (fun e=>e)),rfl⟩⟩
  have hpk:Pack rc T own st.h.length (Hx x0) (rc.obj .ready none) own_0 F' bs0 W1:=by
   refine⟨⟨q1.dom,fun b hb=>q1.foreign b (hF'1 b hb),fun i hd b e hm hb=>q1.apart i hd b e hm (hF'1 b hb),q1.inj,q1.lt,fun i hdd=>?_⟩,fun t=>(hslot1 t).carry hcarP,hbs0,fun i hd e=>?_,fun hf=>hf.2 ((hbs0 _).2 (.inl rfl)),hl1,hle0⟩
   ·obtain⟨hd,e1,e2⟩:=q1.obs i hdd
    exact⟨hd,e1,e2.carry hcarP (Nat.le_refl _) fun _ _=>rfl⟩
   ·obtain⟨hd1,k1,l1⟩:=hs2 i hd e
    obtain⟨hd2,k2,l2⟩:=q4 i hd1 (hr.hp.dom i hd e) k1
    exact⟨hd2,k2,l1.trans l2⟩
  have hpf:Hp Ff own_f W1 (.ab (itR rc T own st.h.length Hx I S 1)::BE ids st.h):=by
   refine⟨fun i hd e=>?_,fun b hb=>?_,fun i hd b e hm hb=>?_,fun i j hi hj b e1 e2 h1 h2=>?_,fun i hd b e hm=>?_,fun i hdd=>?_⟩
   ·cases i with
    |zero=>simp
    |succ i=>
     obtain⟨j,k1,_⟩:=hf1 i hd e
     have:=(List.getElem?_eq_some_iff.1 k1).1
     simp[BE];exact this
   ·rcases hb with hf|hf
    ·have:=hr.hp.foreign b hf;omega
    ·omega
   ·have hnot:∀ i hd,own i=some hd→b∈hd.bs→False:=fun i hd e hm=>by
     rcases hb with hf|hf
     ·exact hr.hp.apart i hd b e hm hf
     ·have:=hr.hp.lt i hd b e hm;omega
    cases i with
    |zero=>
     cases e
     rcases(hbs0 b).1 hm with h| ⟨i,hd,e,hm⟩
     ·rcases hb with hf|hf
      ·have:=hr.hp.foreign b hf;omega
      ·omega
     ·obtain⟨j,_,k⟩:=h0s i hd b e hm
      exact hnot j hd k hm
    |succ i=>obtain⟨j,_,k⟩:=hf1 i hd e;exact hnot j hd k hm
   ·have hmix:∀ i hd,own_f (i+1)=some hd→b∈hd.bs→b∈bs0→False:=fun i hd e hm h0=>by
     obtain⟨j,k1,k2⟩:=hf1 i hd e
     rcases(hbs0 b).1 h0 with h| ⟨i2,hd2,e2,hm2⟩
     ·have:=hr.hp.lt j hd b k2 hm;omega
     ·obtain⟨j2,k3,k4⟩:=h0s i2 hd2 b e2 hm2
      exact k3 (hr.hp.inj j2 j hd2 hd b k4 k2 hm2 hm▸List.mem_of_getElem? k1)
    cases i with
    |zero=>
     cases j with
     |zero=>rfl
     |succ j=>cases e1;exact(hmix j hj e2 h2 h1).elim
    |succ i=>
     cases j with
     |zero=>cases e2;exact(hmix i hi e1 h1 h2).elim
     |succ j=>
      obtain⟨k,k1,k2⟩:=hf1 i hi e1
      obtain⟨k',k3,k4⟩:=hf1 j hj e2
      have:=hr.hp.inj k k' hi hj b k2 k4 h1 h2
      subst this
      rw[mT hnd k1 k3]
   ·rcases hffo b (.inr ⟨i,hd,e,hm⟩)with(h|h|h) | ⟨j,hd2,k,hm2⟩
    ·have:=hr.hp.foreign b h;omega
    ·omega
    ·omega
    ·have:=hr.hp.lt j hd2 b k hm2;omega
   ·cases i with
    |zero=>exact⟨_,rfl,rfl,x0,own_0,hI0,hpk⟩
    |succ i=>
     have hob:ag (.ab (itR rc T own st.h.length Hx I S 1)::BE ids st.h) (i+1)=ag (BE ids st.h) i:=rfl
     rw[hob]at hdd ⊢
     rw[lA]at hdd ⊢
     unfold BE at hdd ⊢
     rw[List.getElem?_map]at hdd ⊢
     cases hi:ids[i]? with
     |none=>rw[hi]at hdd;simp[cn]at hdd
     |some j=>
      rw[hi]at hdd
      simp only[Option.map_some,Option.getD_some]at hdd ⊢
      rw[o8]at hdd
      obtain⟨hd,e1,e2⟩:=hr.hp.obs j hdd
      refine⟨hd,by show(ids[i]?).bind own=some hd;rw[hi];exact e1,?_⟩
      have e3:ObRel Fs own W1 hd (ag st.h j):=e2.carry hcar0 (by omega) fun b hm=>hold b (hr.hp.lt j hd b e1 hm)
      refine wE hrn hsh (fun b _ ho=>?_) e3
      rcases hffo b ho with h|h
      ·exact .inl h
      ·exact .inr h
  have hvs:RelL Ff own_f W1 (.os 0::caps.map (ren (DD ids) 3)) (#[yv]++lb):=by
   refine⟨by simp[e2];omega,fun j s hj=>?_⟩
   cases j with
   |zero=>
    simp at hj;subst hj
    have:(#[yv]++lb).getD 0 undef=yv:=by simp only[Array.getD_eq_getD_getElem?];rw[Array.getElem?_append_left (by simp)];rfl
    rw[this]
    exact Rel.os (hd:=⟨none,yv,[],bs0⟩) rfl rfl
   |succ j=>
    simp only[List.getElem?_cons_succ]at hj
    obtain⟨s0,k1,rfl⟩:=cr hj
    have:(#[yv]++lb).getD (j+1) undef=lb.getD j undef:=by
     simp only[Array.getD_eq_getD_getElem?]
     rw[Array.getElem?_append_right (by simp)]
     simp
    rw[this]
    exact vH hrn hsh 3 s0 _ ((e4 j s0 k1).carry hcar0)
  refine CallsIn.mono (ke (hit.2 (itR rc T own st.h.length Hx I S) (fun k=>(Mj k).1) (NU hm hts hG hr.size (fun i hd e=>hr.hp.dom i hd e) hpn hpN hca hcb hround) Ff own_f W1 _ hpf hvs)) ?_
  rintro e w3 ⟨u,own',j,h',rfl,hj,hp3,fr3⟩
  obtain⟨hd0,e0,hv0,hR⟩:=hp3.obs 0 rfl
  have hl3:∀ {y own_e o},Pack rc T own st.h.length (Hx y) o own_e (fun b=>bZ Ff own' b∧b ∉ hd0.bs) hd0.bs w3→w3.heap[w.heap.size+1]? =some o:=fun pk=>pk.rcd
  have fin:∀ y own_e s p,Pack rc T own st.h.length (Hx y) (rc.obj s p) own_e (fun b=>bZ Ff own' b∧b ∉ hd0.bs) hd0.bs w3→
    StRel Fs w0 N own_e ⟨T,Hx y⟩ { a with defers:=[{ target:=.collected w.heap.size,args:= #[]}]++a.defers} (w3.putObj (w.heap.size+1) (rc.obj .exhausted p)):=by
   intro y own_e s p pk
   have hsz3:=fr3.size
   have hsz3':W1.heap.size≤w3.heap.size:=hsz3
   have hl3s:w.heap.size+1<w3.heap.size:=by omega
   have hoth:∀ c,c≠w.heap.size+1→(w3.putObj (w.heap.size+1) (rc.obj .exhausted p)).heap[c]? =w3.heap[c]?:=fun c hc=>World.putObj_heap_other hc
   have hownE:∀ i hd b,own_e i=some hd→b∈hd.bs→b∈hd0.bs∧b≠w.heap.size+1:=fun i hd b e hm=>⟨(pk.bs b).2 (.inr ⟨i,hd,e,hm⟩),fun e'=>pk.hp.apart i hd b e hm (.inr e')⟩
   have hnF:∀ b,b∈hd0.bs→¬Ff b:=fun b hb hf=>hp3.apart 0 hd0 b e0 hb hf
   have hFsFw:∀ b,Fs b→Fw (fun b=>bZ Ff own' b∧b ∉ hd0.bs) rc.l w3 b:=fun b hb=>by
    rcases hb with hf|hf|hf
    ·exact .inl ⟨⟨.inl (.inl hf),fun hm=>hnF b hm (.inl hf)⟩,hp3.foreign b (.inl hf)⟩
    ·exact .inl ⟨⟨.inl (.inr hf),fun hm=>hnF b hm (.inr hf)⟩,hp3.foreign b (.inr hf)⟩
    ·exact .inr hf
   have hcarE:Carries (Fw (fun b=>bZ Ff own' b∧b ∉ hd0.bs) rc.l w3) own_e w3 Fs own_e (w3.putObj (w.heap.size+1) (rc.obj .exhausted p)):=⟨fun _ hd e=>⟨hd,e,.refl _⟩,fun b _ hn=>⟨fun ho=>hn (ho.imp (hFsFw b) (fun e=>e)),hoth b fun e=>hn (.inl (.inr e))⟩⟩
   have hkeep:∀ b,b<w.heap.size→(¬ ∃ i hd,own i=some hd∧b∈hd.bs)→w3.heap[b]? =w.heap[b]?:=fun b hb hn=>by
    rw[fr3.block b ⟨by show b<W1.heap.size;omega,fun⟨i,hd,e,hm⟩ =>?_⟩]
    ·exact hold b hb
    ·cases i with
     |zero=>
      cases e
      rcases(hbs0 b).1 hm with h| ⟨i,hd,e,hm⟩
      ·omega
      ·obtain⟨j,_,k⟩:=h0s i hd b e hm
       exact hn ⟨j,hd,k,hm⟩
     |succ i=>obtain⟨j,_,k⟩:=hf1 i hd e;exact hn ⟨j,hd,k,hm⟩
   have hD3:w3.heap[w.heap.size]? =some (.deferred (some [])):=by
    rw[fr3.block w.heap.size ⟨by show w.heap.size<W1.heap.size;omega,fun⟨i,hd,e,hm⟩ =>hpf.apart i hd _ e hm (.inr rfl)⟩];exact hD1
   refine⟨hr.size,?_,⟨pk.hp.dom,fun b hb=>?_,fun i hd b e hm hb=>pk.hp.apart i hd b e hm (hFsFw b hb),pk.hp.inj,fun i hd b e hm=>by have:=pk.hp.lt i hd b e hm;simpa using this,fun i hdd=>?_⟩,hr.fr.trans ⟨pk.ids,fun i hd b e hm ho=>?_,fr3.os.trans (by rw[←hW1];rfl),fr3.tape.trans (by rw[←hW1];rfl),fr3.output.trans (by rw[←hW1];rfl),by simp;omega,fun b hb=>?_⟩,fun t=>(pk.slots t).carry hcarE⟩
   ·obtain⟨ms,Ds,k0,k1,k2,k3⟩:=hr.defers
    refine⟨{ target:=.collected w.heap.size,args:= #[]}::ms,w.heap.size::Ds,by simp[k0],by simp[k1],List.nodup_cons.2 ⟨fun hm=>?_,k2⟩,fun D hD=>?_⟩
    ·have:=lz (k3 _ hm).2.2;omega
    ·rcases List.mem_cons.1 hD with rfl|hD
     ·exact⟨hr.fr.size,.inr (.inl rfl),by rw[hoth _ (by omega)];exact hD3⟩
     ·obtain⟨m1,m2,m3⟩:=k3 D hD
      have hlt:=lz m3
      exact⟨m1,.inl m2,by rw[hoth _ (by omega),hkeep D hlt fun⟨i,hd,e,hm⟩ =>hr.hp.apart i hd D e hm m2];exact m3⟩
   ·have:=pk.hp.foreign b (hFsFw b hb);simpa using this
   ·obtain⟨hd,e1,e2⟩:=pk.hp.obs i hdd
    exact⟨hd,e1,e2.carry hcarE (by simp) fun b hm=>hoth b (hownE i hd b e1 hm).2⟩
   ·have h1:=fr3.base 0 hd0 b e0 (hownE i hd b e hm).1
    refine h1 ⟨by show b<W1.heap.size;have:=ho.1;change b<w.heap.size at this;omega,fun⟨i2,hd2,e2,hm2⟩ =>?_⟩
    cases i2 with
    |zero=>
     cases e2
     rcases(hbs0 b).1 hm2 with h| ⟨i3,hd3,e3,hm3⟩
     ·exact(hownE i hd b e hm).2 h
     ·obtain⟨j,_,k⟩:=h0s i3 hd3 b e3 hm3
      exact ho.2 ⟨j,hd3,k,hm3⟩
    |succ i2=>obtain⟨j,_,k⟩:=hf1 i2 hd2 e2;exact ho.2 ⟨j,hd2,k,hm2⟩
   ·have hblt:b<w.heap.size:=hb.1
    rw[hoth b (by omega)]
    exact hkeep b hblt hb.2
  have fin2:∀ y own_e s p ex,Pack rc T own st.h.length (Hx y) (rc.obj s p) own_e (fun b=>bZ Ff own' b∧b ∉ hd0.bs) hd0.bs w3→Kj lc st.h.length ex ⟨T,Hx y⟩→
    ∃ F3 own3 st3,(∀ b,F b→F3 b)∧StRel F3 w0 N own3 st3 { a with defers:=[{ target:=.collected w.heap.size,args:= #[]}]++a.defers} (w3.putObj (w.heap.size+1) (rc.obj .exhausted p))∧∃ r,lc.post r∧ex=lc.ex r∧st3=lc.out r:=by
   rintro y own_e s p ex pk ⟨r,js2,m1,m2,m3,m4⟩
   exact⟨Fs,_,_,fun b hb=>.inl hb,(fin y own_e s p pk).sub m4 hr.base_lt m3,r,m1,m2.symm,rfl⟩
  rcases hj with rfl|rfl
  ·obtain⟨ex,y,own_e,hS,hjm,pk⟩:=hR
   refine⟨DC ex,_,run_endLoop (P:=P) (hl3 pk) (by simp[LRec.obj]),?_⟩
   cases ex with
   |normal=>cases hjm
   |pan x=>cases hjm
   |ret=>exact wpIn_ret (fin2 y own_e _ _ .ret pk (hRet y hS))
   |exit jj=>
    refine wpIn_exit ?_
    have h2:=fin2 y own_e _ _ _ pk (hEx jj y hS)
    show if jj=id then _ else _
    by_cases hjj:jj=id
    ·rw[if_pos hjj]at h2 ⊢;exact h2
    ·rw[if_neg hjj]at h2 ⊢;exact h2
  ·obtain⟨y,own_e,hIy,pk⟩:=hR
   exact⟨none,_,run_endLoop (P:=P) (hl3 pk) (by simp[LRec.obj]),fin2 y own_e _ _ .normal pk (hN y hIy)⟩
end
end Go.Sx
end
