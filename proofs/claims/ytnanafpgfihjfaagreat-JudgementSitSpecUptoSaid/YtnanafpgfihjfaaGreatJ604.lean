/- Part of the proof that the law JudgementSitSpec returns true and leaves its arguments as they were, for all arguments of bulk at most 1048576 (the Upto form). -/
import Derived.Laws.IdiomRangeMap
import Derived.Test.YtnanafpgfihjfaaGreatJ603
import Derived.TacticsIn
import Derived.OrdersIn
set_option linter.all false
set_option maxHeartbeats 4000000
set_option maxRecDepth 100000
section
namespace Go.Sx
variable {P:Program}
theorem EU {w:World}{ty:TypeId}{b bm since c0 clock:Nat}{seen:Array Nat}{es:Array MapEntry}(hb:w.heap[b]? =some (.mapIter (some bm) since seen c0))(hm:w.heap[bm]? =some (.map es clock))(hold:∀ x∈es.toList,x.born<since)(hsc:since<=c0):
  ((leftOf es seen).size=0/\(Instr.next (.pointer (some ⟨b,0,none⟩)) false ty).run P w=.ok (.tuple #[.bool false]) w)\/
  ∃ e∈(leftOf es seen).toList,∃ w1:World,(w1=w\/w1=w.drew)/\(Instr.next (.pointer (some ⟨b,0,none⟩)) false ty).run P w=.ok (.tuple #[.bool true,e.key,e.val]) { w1 with heap:=w1.heap.setIfInBounds b (.mapIter (some bm) since (seen.push e.born) clock)}:=by
 simp only[Instr.next,getObj,Sem.run_bind,Sem.run,hb,hm,Result.andThen,next_test_false seen es since c0 hold hsc,Bool.false_eq_true,if_false];unfold leftOf;have hmem:∀ x∈(Array.filter (fun e=>!seen.contains e.born) es).toList,x.born<since:=fun x hx=>hold x (by simp at hx |-;exact hx.1);generalize Array.filter (fun e=>!seen.contains e.born) es=L at hmem |-;have e1:L.filter (fun x=>decide (x.born<since))=L:=Array.filter_eq_self.2 (fun x hx=>by simpa using hmem x (by simpa using hx));have e2:L.filter (fun x=>decide (x.born>=since))= #[]:=by
  rw[Array.filter_eq_empty_iff];intro x hx;have:=hmem x (by simpa using hx);simp;omega
 simp only[e1,e2,Array.append_empty];by_cases h0:L.size=0
 ·left;have:L= #[]:=Array.eq_empty_of_size_eq_zero h0;subst this;refine⟨rfl,?_⟩;simp[choose,Sem.run,Question.forced]
 ·right;have hne:L.isEmpty=false:=by simp[Array.isEmpty,h0]
  simp only[hne,Bool.false_eq_true,if_false,Array.empty_append,Array.size_map];have hch:∃ (j:Nat) (w1:World),j<L.size/\(w1=w\/w1=w.drew)/\(choose (Question.mapNext L.size)).run P w=.ok j w1:=by
   by_cases hf:L.size<=1
   ·exact⟨0,w,by omega,.inl rfl,by simp[choose,Sem.run,Question.forced,hf]⟩
   ·exact⟨_,w.drew,Nat.mod_lt _ (by omega),.inr rfl,by
     simp only[choose,Sem.run,Question.forced,decide_eq_true_eq,hf,if_false,Question.cut];rfl⟩
  obtain⟨j,w1,hj,hal,hrun⟩:=hch;have hb1:w1.heap[b]? =some (.mapIter (some bm) since seen c0):=by
   rcases hal with rfl|rfl
   ·exact hb
   ·exact hb
  refine⟨L[j],by simp,w1,hal,?_⟩;simp only[hrun,Array.getElem?_map,Array.getElem?_eq_getElem hj,Option.map_some,Sem.run_bind,setObj,Sem.run,hb1,Result.andThen];rfl
theorem Dk {w:World}{b bm since clock:Nat}{seen:Array Nat}{es:Array MapEntry}{e:MapEntry}(hb:w.heap[b]? =some (.mapIter (some bm) since (seen.push e.born) clock))(hm:w.heap[bm]? =some (.map es clock))(he:e∈es.toList)(hn:(es.toList.map (·.born)).Nodup):
  (Instr.entry (.pointer (some ⟨b,0,none⟩))).run P w=.ok (.tuple #[e.key,e.val]) w:=by
 have hf:es.find? (·.born==e.born)=some e:=by rw[<-Array.find?_toList];exact find_born e es.toList hn he
 simp only[Instr.entry,getObj,Sem.run_bind,Sem.run,hb,hm,Result.andThen,Array.back?_push,bne_self_eq_false,Bool.false_eq_true,if_false,hf];rfl
end Go.Sx
end
section
namespace Go.Sx
open Go.RowKit
section
variable {P:Program}{F:Nat->Prop}{own:Own}{w:World}{ts:Tis}
def LI (v:Value)(vs:Array Value):Sem Next:=do
 let d <-Deferred.ofValue v vs
 invoke d.target d.args
theorem AN (w:World)(m:Nat){t e:TypeId}(ad:Option Addr)(n c:Nat)(hd:P.underlying t=some (.slice e)):(Op.equalIn (m+1) t (.slice ad n c) (.slice none 0 0)).run P w=.ok ad.isNone w:=by
 cases ad <;>simp[Op.equalIn,run_underlying hd]
def Gy (P:Program)(F:Nat->Prop)(own:Own)(w:World)(h:List Ob)(run:Result Next):OR->Prop
 | .val s=>∃ u,run=.ok (.value u) w/\Rel F own w s u
 | .chk c s=>c->∃ u,run=.ok (.value u) w/\Rel F own w s u
 | .asm c s=>c/\∃ u,run=.ok (.value u) w/\Rel F own w s u
 | .newr s=>∃ u cs ty,run=.ok (.value u) (w.alloc (.cells cs ty))/\Rel F own (w.alloc (.cells cs ty)) s u
 | .eff c a ups s=>c->a/\∃ u own' w',(run=.ok (.value u) w'\/(run=.ok .skip w'/\u=undef))/\Rel F own' w' s u/\Step F own w (aS h ups) own' w'
 | .call f args=>∃ vs:Array Value,RelL F own w args vs/\run=(callFunc f vs).run P w
 | .yld id args=>∃ hd,own id=some hd/\∃ vs,RelL F own w args vs/\run=(LI hd.v vs).run P w
 | .nxt id=>∃ hd b,own id=some hd/\hd.p=some b/\∃ ty,∀ u w',(Instr.next (.pointer (some ⟨b,0,none⟩)) false ty).run P w=.ok u w'->run=.ok (.value u) w'
 | .amb p=>∃ b,p b/\run=.ok (.value (.bool b)) w
 | .pan x=>run=.halt (.panic x) w
 | .bad=>True
theorem Gz {cx:Cx}{a:Act}(hv:∀ x,Rel F own w (val cx x) (a.eval x)):∀ (l:List Operand),(cA cx l).length=l.length/\∀ (j:Nat) (s:SV),(cA cx l)[j]? =some s->∃ x,l[j]? =some x/\Rel F own w s (a.eval x)
 | [] =>⟨rfl,fun j s h=>by simp[cA]at h⟩
 |x::r=>by
  obtain⟨h1,h2⟩:=Gz hv r;refine⟨by simp[cA,h1],fun j s h=>?_⟩;cases j with
  |zero=>simp[cA]at h;subst h;exact⟨x,rfl,hv x⟩
  |succ j=>simp[cA]at h;obtain⟨y,e1,e2⟩:=h2 j s h;exact⟨y,by simpa using e1,e2⟩
theorem uH {cx:Cx}{a:Act}(hv:∀ x,Rel F own w (val cx x) (a.eval x))(l:Array Operand):RelL F own w (cA cx l.toList) (l.map a.eval):=by
 obtain⟨h1,h2⟩:=Gz hv l.toList;refine⟨by simp[h1],fun j s hj=>?_⟩;obtain⟨x,e1,e2⟩:=h2 j s hj;simp at e1;simpa[Array.getD_eq_getD_getElem?,e1]using e2
theorem zS {cx:Cx}{a:Act}(hv:∀ x,Rel F own w (val cx x) (a.eval x)):∀ (l:List (Nat×Operand)),(gU cx l).map (·.1)=(l.map fun(i,x) =>(i,a.eval x)).map (·.1)/\
  ∀ (j:Nat) (x:Nat×SV) (y:Nat×Value),(gU cx l)[j]? =some x->(l.map fun(i,x) =>(i,a.eval x))[j]? =some y->Rel F own w x.2 y.2
 | [] =>⟨rfl,fun j x y h=>by simp[gU]at h⟩
 |(i,x)::r=>by
  obtain⟨h1,h2⟩:=zS hv r;refine⟨by simp only[gU,List.map_cons,h1],fun j s u h k=>?_⟩;cases j with
  |zero=>simp[gU]at h k;subst h;subst k;exact hv x
  |succ j=>simp[gU]at h k;exact h2 j s u h (by simpa using k)
theorem bG {t:TypeId}{k:TI->OR}{r:OR}(hts:ts.ok P)(h:aD ts t k=r)(hr:r≠ .bad):∃ ti,cw P t=some ti/\k ti=r:=by
 unfold aD at h;cases ht:ts t with
 |none=>simp[ht]at h;exact absurd h.symm hr
 |some i=>simp[ht]at h;exact⟨i,hts t i ht,h⟩
theorem okOr {run:Result Next}{h:List Ob}{r:OR}(hh:r≠ .bad->Gy P F own w h run r):Gy P F own w h run r:=by
 cases r with
 |bad=>trivial
 |_=>exact hh (by simp)
theorem rk {s:Sem Value}{u:Value}(h:s.run P w=.ok u w):(do pure (Next.value (<-s)):Sem Next).run P w=.ok (.value u) w:=by
 simp[h]
theorem GA {a:Operand}(h:isTrue a=true):a=.const (.bool true):=by
 unfold isTrue at h;split at h <;>first|rfl|cases h
theorem EV {a:Operand}(h:isFalse a=true):a=.const (.bool false):=by
 unfold isFalse at h;split at h <;>first|rfl|cases h
theorem oU {x:Option SV}{r:OR}(h:uA x=r)(hr:r≠ .bad):∃ s,x=some s/\r=.val s:=by
 cases x with
 |none=>exact absurd h.symm hr
 |some s=>exact⟨s,rfl,h.symm⟩
theorem uI {h:List Ob}{s:Sem Value}{r:OR}(he:Au F own w h (s.run P w) r):Gy P F own w h ((do pure (Next.value (<-s)):Sem Next).run P w) r:=by
 obtain⟨c,a,ups,sv,rfl,h1⟩:=he;intro hc;obtain⟨ha,u,own',w',h2,h3,h4⟩:=h1 hc;exact⟨ha,u,own',w',.inl (by simp[h2]),h3,h4⟩
theorem GB {ti:TI}{h:List Ob}{s:SV}{r:OR}(e:qZ ti h s=r)(hr:r≠ .bad):∃ s',r=.val s':=by
 have hcells:∀ {a:Bool} {n off:Nat} {o:Ob},yH a n off o=r->∃ s',r=.val s':=by
  intro a n off o e;unfold yH at e;split at e
  ·obtain⟨s',_,h'⟩:=oU e hr;exact⟨s',h'⟩
  ·exact absurd e.symm hr
 have hrow:∀ {a:Bool} {n z id off:Nat} {i:Int} {o:Ob},Bv a n z id i off o=r->∃ s',r=.val s':=by
  intro a n z id off i o e;unfold Bv at e;split at e
  ·rename_i k l;cases hb:Nat.beq z (ae k)with
   |false=>rw[hb]at e;exact absurd e.symm hr
   |true=>rw[hb]at e;obtain⟨s',_,h'⟩:=oU e hr;exact⟨s',h'⟩
  ·cases hb:Nat.beq z 1&&Nat.beq off 0&& !a with
   |false=>rw[hb]at e;exact absurd e.symm hr
   |true=>rw[hb]at e;exact⟨_,e.symm⟩
  ·exact absurd e.symm hr
 have hgrid:∀ {a:Bool} {n z off:Nat} {i j:Int} {o:Ob},zL a n z i j off o=r->∃ s',r=.val s':=by
  intro a n z off i j o e;unfold zL at e;split at e
  ·rename_i k l;cases hb:Nat.beq z (ae k)with
   |false=>rw[hb]at e;exact absurd e.symm hr
   |true=>rw[hb]at e;obtain⟨s',_,h'⟩:=oU e hr;exact⟨s',h'⟩
  ·exact absurd e.symm hr
 unfold qZ at e;split at e
 ·exact hcells e
 ·obtain⟨s',_,h'⟩:=oU e hr;exact⟨s',h'⟩
 ·exact hrow e
 ·exact hgrid e
 ·exact absurd e.symm hr
theorem Iv {n:Nat}{s:SV}{r:OR}(e:yI n s=r)(hr:r≠ .bad):∃ s',r=.val s':=by
 unfold yI at e;split at e <;>first|exact⟨_,e.symm⟩ |exact absurd e.symm hr
theorem yX {cx:Cx}{a:Act}(hv:∀ x,Rel F own w (val cx x) (a.eval x))(o:Option Operand):(∀ s,pa cx o=some s->∃ u,o.map a.eval=some u/\Rel F own w s u)/\(pa cx o=none->o.map a.eval=none):=by
 cases o with
 |none=>exact⟨fun s h=>by simp[pa]at h,fun _=>rfl⟩
 |some x=>exact⟨fun s h=>by simp[pa]at h;subst h;exact⟨_,rfl,hv x⟩,fun h=>by simp[pa]at h⟩
theorem JT {h:List Ob}(hp:Hp F own w h){nx:Nat}(hn:NxOk own h nx){l:List SV}{v:Value}{ty:TypeId}(hl:RelL F own w l v.cells):Step F own w (aS h [(nx,Ob.cells l)]) (own.set nx ⟨some w.heap.size,undef,[],[w.heap.size]⟩) (w.alloc (.cells v.cells ty))/\Rel F (own.set nx ⟨some w.heap.size,undef,[],[w.heap.size]⟩) (w.alloc (.cells v.cells ty)) (.ptr nx 0) (.pointer (some ⟨w.heap.size,0,none⟩)):=
 ⟨uB hp hn (w1:=w) ⟨rfl,rfl,rfl,rfl⟩ (.cells v.cells ty) (.cells l) _ rfl fun own' g=>⟨w.heap.size,v.cells,ty,rfl,rfl,mD _ _,hl.1,fun j s hj=>(hl.2 j s hj).mono g⟩,.ptr (Own.set_same _ _ _) rfl⟩
theorem RelL.app {l m:List SV}{us vs:Array Value}(h1:RelL F own w l us)(h2:RelL F own w m vs):RelL F own w (l++m) (us++vs):=by
 refine⟨by simp[h1.1,h2.1],fun j s hj=>?_⟩;rw[List.getElem?_append]at hj;split at hj
 ·rename_i hlt;rw[mE (j:=j) (ws:=us) (by rw[Array.getElem?_append_left (by rw[h1.1];exact hlt)])];exact h1.2 j s hj
 ·rename_i hlt;rw[mE (j:=j - us.size) (ws:=vs) (by rw[Array.getElem?_append_right (by rw[h1.1];omega)])];rw[h1.1];exact h2.2 _ s hj
theorem Iw {ops:List Oper}{g:Option (Nat×Bool)}{t:List (Nat×SV)}{h:List Ob}{nx:Nat}(hts:ts.ok P)(hp:Hp F own w h)(hn:NxOk own h nx){a:Act}{o:Oper}
  (hv:∀ x,Rel F own w (val ⟨ts,ops,g,⟨t,h⟩,nx⟩ x) (a.eval x))
  (hpk:∀ c x y,o.op=.pick c x y->(a.eval c=.bool true->Rel F own w (lw ops g c true (raw t x)) (a.eval x))/\(a.eval c=.bool false->Rel F own w (lw ops g c false (raw t y)) (a.eval y))):
  Gy P F own w h ((execOp a.eval o).run P w) (opS ⟨ts,ops,g,⟨t,h⟩,nx⟩ o.op):=by
 obtain⟨dst,op,ty,pos,after,guard⟩:=o;simp only at hpk |-;refine okOr fun hr=>?_;generalize he:opS ⟨ts,ops,g,⟨t,h⟩,nx⟩ op=r at hr |-;cases op with
 |move x=>subst he;exact⟨_,rfl,hv x⟩
 |assign x=>subst he;exact⟨_,rfl,hv x⟩
 |pick c x y=>
  obtain⟨h1,h2⟩:=hpk c x y rfl;have hc:Rel F own w (be ops g (raw t c)) (a.eval c):=hv c;change Bu x y (be ops g (raw t c)) (lw ops g c true (raw t x)) (lw ops g c false (raw t y))=r at he;unfold Bu at he;split at he
  ·rename_i sx sy sz bc bx bz hsc hsx hsy;rw[hsc]at hc;rw[hsx]at h1;rw[hsy]at h2;have hec:=bF hc;have hrun:(execOp a.eval { dst:=dst,op:=.pick c x y,type:=ty,pos:=pos,after:=after,guard:=guard}).run P w=.ok (.value (if bc then a.eval x else a.eval y)) w:=by
    simp[execOp,hec,asBool]
   cases hx:isTrue x with
   |true=>
    simp only[hx,cond_true]at he;subst he;refine⟨_,hrun,?_⟩;have hx':=GA hx;cases bc with
    |true=>simp only[if_true,hx'];exact .v _
    |false=>simp only[Bool.false_or];rw[if_neg (by simp)];exact h2 hec
   |false=>
    cases hy:isFalse y with
    |true=>
     simp only[hx,hy,cond_true,cond_false]at he;subst he;refine⟨_,hrun,?_⟩;have hy':=EV hy;cases bc with
     |true=>simp only[if_true,Bool.true_and];exact h1 hec
     |false=>rw[if_neg (by simp),hy'];exact .v _
    |false=>simp only[hx,hy,cond_false]at he;exact absurd he.symm hr
  ·rename_i sx sy sz bc bz hsc hsx hsy;rw[hsc]at hc;rw[hsy]at h2;have hec:=bF hc;subst he;intro hcf;subst hcf;exact⟨a.eval y,by simp[execOp,hec,asBool],h2 hec⟩
  ·rename_i sx sy sz bc bx hsc hsx hsy;rw[hsc]at hc;rw[hsx]at h1;have hec:=bF hc;subst he;intro hcf;subst hcf;exact⟨a.eval x,by simp[execOp,hec,asBool],h1 hec⟩
  ·exact absurd he.symm hr
 |alloc ty'=>
  obtain⟨ti,ht,he⟩:=bG (k:=fun ti=>EC nx (some ti.zero)) hts he hr;subst he;obtain⟨i,d,z,hi,hd,hz,hq,rfl⟩:=bv ht;have hzz:(c5 P ty' i d).zero=svs z:=by simp[c5,hz]
  intro _;obtain⟨q1,q2⟩:=JT (ty:=ty') hp hn (l:=svs z) (v:=z) (xu z);rw[hzz];exact⟨trivial,_,_,_,.inl (by simp[execOp,Instr.alloc,zeroValue,typeInfo,hi,hz,newVar,newRow]),q2,q1⟩
 |box ty' x=>
  change EC nx (qh (val _ x))=r at he;cases hf:qh (val ⟨ts,ops,g,⟨t,h⟩,nx⟩ x)with
  |none=>rw[hf]at he;exact absurd he.symm hr
  |some l=>
   rw[hf]at he;subst he;intro _;obtain⟨q1,q2⟩:=JT (ty:=ty') hp hn (v:=a.eval x) (BL (hv x) hf);exact⟨trivial,_,_,_,.inl (by simp[execOp,Instr.box,newVar,newRow]),q2,q1⟩
 |build ty' parts=>
  obtain⟨ti,ht,he⟩:=bG (k:=fun ti=>bif ti.isArr then aD ts ti.elem fun te=>H6 (mA (fun i=>some (i*te.size,te.size)) ti.zero (gU ⟨ts,ops,g,⟨t,h⟩,nx⟩ parts.toList))
   else bif ti.agg then H6 (mA (fun i=>(nth ti.fields i).map fun f:Nat×Nat×Bool=>(f.1,f.2.1)) ti.zero (gU ⟨ts,ops,g,⟨t,h⟩,nx⟩ parts.toList))else .bad) hts he hr
  obtain⟨p1,p2⟩:=zS hv parts.toList;have hrun:(execOp a.eval { dst:=dst,op:=.build ty' parts,type:=ty,pos:=pos,after:=after,guard:=guard})=(do pure (Next.value (<-Instr.build ty' (parts.map fun(i,x) =>(i,a.eval x))))):=rfl;have key:∃ l,r=.val (.agg l)/\((ti.isArr=true/\∃ te,cw P ti.elem=some te/\mA (fun i=>some (i*te.size,te.size)) ti.zero (gU ⟨ts,ops,g,⟨t,h⟩,nx⟩ parts.toList)=some l)\/
     (ti.isArr=false/\ti.agg=true/\mA (fun i=>(nth ti.fields i).map fun f=>(f.1,f.2.1)) ti.zero (gU ⟨ts,ops,g,⟨t,h⟩,nx⟩ parts.toList)=some l)):=by
   cases ha:ti.isArr with
   |true=>
    simp only[ha,cond_true]at he;obtain⟨te,hte,he⟩:=bG hts he hr;cases hf:mA (fun i=>some (i*te.size,te.size)) ti.zero (gU ⟨ts,ops,g,⟨t,h⟩,nx⟩ parts.toList)with
    |none=>simp only[hf]at he;exact absurd he.symm hr
    |some l=>simp only[hf]at he;exact⟨l,he.symm,.inl ⟨rfl,te,hte,hf⟩⟩
   |false=>
    cases hg:ti.agg with
    |false=>simp only[ha,hg,cond_false]at he;exact absurd he.symm hr
    |true=>
     simp only[ha,hg,cond_false,cond_true]at he;cases hf:mA (fun i=>(nth ti.fields i).map fun f=>(f.1,f.2.1)) ti.zero (gU ⟨ts,ops,g,⟨t,h⟩,nx⟩ parts.toList)with
     |none=>simp only[hf]at he;exact absurd he.symm hr
     |some l=>simp only[hf]at he;exact⟨l,he.symm,.inr ⟨rfl,rfl,rfl⟩⟩
  obtain⟨l,rfl,hcase⟩:=key;obtain⟨u,e1,e2⟩:=MY (P:=P) ht (vps:=parts.map fun(i,x) =>(i,a.eval x)) (by simpa using p1) (by simpa using p2) hcase;exact⟨u,by rw[hrun];exact rk e1,e2⟩
 |buildSlice ty' n parts=>
  obtain⟨ti,ht,he⟩:=bG (k:=fun ti=>aD ts ti.elem fun te=>De (Dd ty' ops g) nx te (bsS ti te n (gU ⟨ts,ops,g,⟨t,h⟩,nx⟩ parts.toList))) hts he hr;obtain⟨te,hte,he⟩:=bG (k:=fun te=>De (Dd ty' ops g) nx te (bsS ti te n (gU ⟨ts,ops,g,⟨t,h⟩,nx⟩ parts.toList))) hts he hr;obtain⟨p1,p2⟩:=zS hv parts.toList;have hne:bsS ti te n (gU ⟨ts,ops,g,⟨t,h⟩,nx⟩ parts.toList)≠ .bad:=fun e=>by rw[e]at he;exact hr he.symm
  obtain⟨s,cs,ty2,u,hs0,e1,e2,e3⟩:=Tk (P:=P) hp ht hte (n:=n) (vps:=parts.map fun(i,x) =>(i,a.eval x)) (by simpa using p1) (by simpa using p2) rfl hne;rw[hs0]at he;have plain:r=.newr s->Gy P F own w h ((execOp a.eval ⟨dst,.buildSlice ty' n parts,ty,pos,after,guard⟩).run P w) r:=fun e=>by
   subst e;exact⟨u,cs,ty2,by simp[execOp,e1],e2⟩
  cases s with
  |rs k xs=>
   change (bif(te.agg||one xs)&&noG (Dd ty' ops g)then OR.eff True True [(nx,.row k xs)] (.os nx)else .newr (.rs k xs))=r at he;cases hb:(te.agg||one xs)&&noG (Dd ty' ops g)with
   |false=>rw[hb]at he;exact plain he.symm
   |true=>
    rw[hb]at he;subst he;obtain⟨m1,m2,m3,m4⟩:=e3 k xs rfl;refine fun _=>⟨trivial,u,own.set nx ⟨none,.slice (some ⟨w.heap.size,0,none⟩) xs.length xs.length,[],[w.heap.size]⟩,w.alloc (.cells cs ty2),.inl (by simp[execOp,e1]),?_,?_⟩
    ·rw[m1];exact Rel.os (F:=F) (id:=nx) (hd:=⟨none,.slice (some ⟨w.heap.size,0,none⟩) xs.length xs.length,[],[w.heap.size]⟩) (Own.set_same _ _ _) rfl
    ·exact uB hp hn (w1:=w) ⟨rfl,rfl,rfl,rfl⟩ _ _ _ rfl fun own' g=>.inr ⟨w.heap.size,0,xs.length,cs,ty2,rfl,rfl,mD _ _,by rw[Nat.zero_add];exact m2,Nat.le_refl _,m3,fun q x hx j s hj=>by
      obtain⟨u',h1,h2⟩:=m4 q x hx j s hj;exact⟨u',h1,h2.mono g⟩⟩
  |_=>exact plain he.symm
 |load ty' x=>
  obtain⟨ti,ht,he⟩:=bG (k:=fun ti=>qZ ti h (val ⟨ts,ops,g,⟨t,h⟩,nx⟩ x)) hts he hr;obtain⟨s',rfl⟩:=GB he hr;obtain⟨u,e1,e2⟩:=Gi (P:=P) hp ht (hv x) he;exact⟨u,by simp only[execOp];exact rk e1,e2⟩
 |store ty' x y=>
  obtain⟨ti,ht,he⟩:=bG (k:=fun ti=>rO ti.size nx h (val ⟨ts,ops,g,⟨t,h⟩,nx⟩ x) (val ⟨ts,ops,g,⟨t,h⟩,nx⟩ y)) hts he hr;obtain⟨ups,own',w',rfl,e1,e2⟩:=LH (P:=P) hp hn ht (hv x) (hv y) he hr;exact fun _=>⟨trivial,undef,own',w',.inr ⟨by simp[execOp,e1],rfl⟩,.any _,e2⟩
 |nilCheck x=>
  have hx:=hv x;change Mw (val _ x)=r at he;generalize hvx:a.eval x=vx at hx;unfold Mw at he;split at he
  ·rename_i id off hs;subst he;rw[hs]at hx;cases hx with
   |ptr q1 q2=>exact⟨_,by simp[execOp,hvx],.ptr q1 q2⟩
  ·rename_i l off hs;subst he;rw[hs]at hx;cases hx with
   |ep cf q1 q2=>exact⟨_,by simp[execOp,hvx],.ep cf q1 q2⟩
  ·rename_i hs;subst he;rw[hs]at hx;cases hx with
   |rp q1 q2 q3=>exact⟨_,by simp[execOp,hvx],.rp q1 q2 q3⟩
  ·rename_i hs;subst he;rw[hs]at hx;cases hx with
   |gp q1 q2 q3=>exact⟨_,by simp[execOp,hvx],.gp q1 q2 q3⟩
  ·rename_i f first caps hs
   subst he;rw[hs]at hx;cases hx with
   |fn q1 q2 q3 q4=>exact⟨_,by simp[execOp,hvx],.fn q1 q2 q3 q4⟩
  ·exact absurd he.symm hr
 |binOp op xt x y yt=>
  change Ey ts op xt (val _ x) (val _ y)=r at he;have hx:=hv x;have hy:=hv y;generalize val ⟨ts,ops,g,⟨t,h⟩,nx⟩ x=sx at hx he;generalize val ⟨ts,ops,g,⟨t,h⟩,nx⟩ y=sy at hy he;have hrun:∀ {vx vy:Value},a.eval x=vx->a.eval y=vy->(eqGuard op xt x y vx vy).run P w=.ok () w->∀ u,(Go.binOp op xt vx vy).run P w=.ok u w->(execOp a.eval { dst:=dst,op:=.binOp op xt x y yt,type:=ty,pos:=pos,after:=after,guard:=guard}).run P w=.ok (.value u) w:=by
   intro vx vy h1 h2 h3 u hu;simp only[execOp,h1,h2];apply rk;simp only[Sem.run_bind,h3,Result.andThen_ok,hu]
  unfold Ey at he;split at he
  ·rename_i k m k' n;obtain⟨hsk,h3⟩:=Id he hr;have ex:=bF hx;have ey:=bF hy;cases r with
   |val s=>
    obtain⟨u,e1,rfl⟩:=Lo (P:=P) (w:=w) (ty:=xt) hsk h3.symm;exact⟨u,hrun ex ey (Aq ..) u e1,.v u⟩
   |chk c s=>
    intro hc;obtain⟨u,e1,rfl⟩:=Lp (P:=P) (w:=w) (ty:=xt) hsk h3.symm hc;exact⟨u,hrun ex ey (Aq ..) u e1,.v u⟩
   |bad=>exact absurd rfl hr
   |_=>exfalso;cases op <;>simp[uz]at h3
  ·obtain⟨ti,ht,he⟩:=bG (k:=fun ti=>eqS op ti sx sy) hts he hr;obtain⟨i,d,z,hi,hd,hz,hq,rfl⟩:=bv ht;unfold eqS at he;split at he
   ·rename_i l _ _;have ey:=bF hy;cases hb:(c5 P xt i d).isSlice with
    |false=>rw[hb]at he;exact absurd he.symm hr
    |true=>
     rw[hb]at he;simp only[cond_true]at he;have hds:∃ e,d=.slice e:=by cases d <;>simp[c5]at hb;exact⟨_,rfl⟩
     obtain⟨e,rfl⟩:=hds;have hg:∀ (ad:Option Addr) (n c:Nat),(eqGuard op xt x y (.slice ad n c) (.slice none 0 0)).run P w=.ok () w:=fun ad n c=>by cases op <;>simp[eqGuard]
     have hq:∀ (ad:Option Addr) (n c:Nat),(Op.equal xt (.slice ad n c) (.slice none 0 0)).run P w=.ok ad.isNone w:=fun ad n c=>by
      unfold Op.equal Op.maxDepth;exact AN w 9999 ad n c hd
     have hsl:∃ ad n c,a.eval x=.slice ad n c/\(ad.isNone=true->l=[]):=by
      generalize a.eval x=vx at hx;cases hx with
      |rs cf h0 h0' h1 h2=>exact⟨_,_,_,rfl,fun h=>by cases h⟩
      |rs0=>exact⟨_,_,_,rfl,fun _=>rfl⟩
     obtain⟨ad,n,c,hvx,hl⟩:=hsl;cases op <;>simp only[Px]at he <;>first|exact absurd he.symm hr|subst he
     ·exact⟨ad.isNone,hl,hrun hvx ey (hg _ _ _) _ (by simp[Go.binOp,hq])⟩
     ·exact⟨!ad.isNone,fun h=>hl (by simpa using h),hrun hvx ey (hg _ _ _) _ (by simp[Go.binOp,hq])⟩
   ·rename_i b1 b2 _ _;have ex:=bF hx;have ey:=bF hy;have hg:(eqGuard op xt x y (.string b1) (.string b2)).run P w=.ok () w:=by cases op <;>simp[eqGuard]
    cases hb:Nat.beq (c5 P xt i d).sc 2 with
    |false=>rw[hb]at he;exact absurd he.symm hr
    |true=>
     rw[hb]at he;simp only[cond_true]at he;cases op <;>simp only[Jz]at he <;>first|exact absurd he.symm hr|subst he
     ·exact⟨_,hrun ex ey hg _ (by simp[Go.binOp,Op.stringOp,beq_toListBytes,bne]),.v _⟩
     ·exact⟨_,hrun ex ey hg _ (by simp[Go.binOp,Op.stringOp,beq_toListBytes,bne]),.v _⟩
   ·rename_i b1 b2 _ _;have ex:=bF hx;have ey:=bF hy;have hg:(eqGuard op xt x y (.bool b1) (.bool b2)).run P w=.ok () w:=by cases op <;>simp[eqGuard]
    cases hb:Nat.beq (c5 P xt i d).sc 3 with
    |false=>rw[hb]at he;exact absurd he.symm hr
    |true=>
     rw[hb]at he;simp only[cond_true]at he;have hc:=Nat.eq_of_beq_eq_true hb;have hdb:d=.bool:=by cases d <;>simp[c5,bL]at hc <;>rfl
     subst hdb;have heq:(Op.equal xt (.bool b1) (.bool b2)).run P w=.ok (b1==b2) w:=by unfold Op.equal Op.maxDepth;exact run_equalIn_bool' w 9999 xt b1 b2 hd
     cases op <;>simp only[Ew]at he <;>first|exact absurd he.symm hr|subst he
     ·exact⟨_,hrun ex ey hg _ (by simp[Go.binOp,heq]),.v _⟩
     ·exact⟨_,hrun ex ey hg _ (by simp[Go.binOp,heq,bne]),.v _⟩
   ·rename_i l m _ _;obtain⟨xs,ex,hxs⟩:=tS hx;obtain⟨ys,ey,hys⟩:=tS hy;unfold eqT S6 at he;split at he
    ·exact absurd he.symm hr
    ·rename_i c cs hcs;have hcs':Mu P xt d=c::cs:=hcs;cases hl:eqL (c::cs) l m with
     |none=>rw[hl]at he;exact absurd he.symm hr
     |some b=>
      rw[hl]at he;have hany:(Op.equal xt (.agg xs) (.agg ys)).run P w=.ok b w/\P.eqGuardType P.depth xt=false:=by
       unfold Mu at hcs';split at hcs'
       ·exact LB hd hxs hys (by rw[hcs'];simp) (by rw[hcs'];exact hl)
       ·rename_i hne;exact Gv hd hxs hys (by rw[hcs'];simp) (by rw[hcs'];exact hl)
      obtain⟨q1,q2⟩:=hany;have hg:(eqGuard op xt x y (.agg xs) (.agg ys)).run P w=.ok () w:=run_eqGuard_agg w op xt x y xs ys q2;cases op <;>simp only[eqO]at he <;>first|exact absurd he.symm hr|subst he
      ·exact⟨_,hrun ex ey hg _ (by simp[Go.binOp,q1]),.v _⟩
      ·exact⟨_,hrun ex ey hg _ (by simp[Go.binOp,q1]),.v _⟩
   ·exact absurd he.symm hr
 |unOp op xt x=>
  change unS op (val _ x)=r at he;have hx:=hv x;unfold unS at he;split at he
  ·rename_i b hs;subst he;rw[hs]at hx;have ex:=bF hx;exact⟨_,by simp only[execOp,ex];exact rk rfl,.v _⟩
  ·rename_i k n hs;subst he;rw[hs]at hx;have ex:=bF hx;exact⟨_,by simp only[execOp,ex];exact rk rfl,.v _⟩
  ·exact absurd he.symm hr
 |convert src dt x=>
  obtain⟨t1,ht1,he⟩:=bG (k:=fun _=>aD ts dt fun ti=>F6 ti.int (val ⟨ts,ops,g,⟨t,h⟩,nx⟩ x)) hts he hr;obtain⟨t2,ht2,he⟩:=bG hts he hr;obtain⟨i1,d1,z1,hi1,hd1,hz1,hq1,rfl⟩:=bv ht1;obtain⟨i2,d2,z2,hi2,hd2,hz2,hq2,rfl⟩:=bv ht2;have hx:=hv x;unfold F6 at he;split at he
  ·rename_i kd k' n hk hs;subst he;rw[hs]at hx;have ex:=bF hx;cases d2 <;>simp[c5]at hk;subst hk;refine⟨_,?_,.v _⟩;simp only[execOp,ex];apply rk;simp[Go.convert,run_underlying hd1,run_underlying hd2,Conv.intToInt]
  ·exact absurd he.symm hr
 |panic x=>
  change MF (val _ x)=r at he;have hx:=hv x;unfold MF at he;split at he
  ·rename_i t' y hs;subst he;rw[hs]at hx;have ex:=bF hx;simp only[Gy,execOp,ex];rfl
  ·exact absurd he.symm hr
 |makeInterface ty' x=>
  obtain⟨ti,ht,he⟩:=bG (k:=fun ti=>bif ti.iface then .bad else By ty' (val ⟨ts,ops,g,⟨t,h⟩,nx⟩ x)) hts he hr;obtain⟨i,d,z,hi,hd,hz,hq,rfl⟩:=bv ht;have hx:=hv x;cases hif:(c5 P ty' i d).iface with
  |true=>simp only[hif,cond_true]at he;exact absurd he.symm hr
  |false=>
   simp only[hif,cond_false]at he;unfold By at he;split at he
   ·rename_i k n hs;subst he;rw[hs]at hx;have ex:=bF hx;refine⟨_,?_,.v _⟩;simp only[execOp,ex];apply rk;cases d <;>simp[c5]at hif <;>simp[Instr.makeInterface,run_underlying hd]
   ·exact absurd he.symm hr
 |makeFunc fn first caps=>
  change F9 fn (cA _ first.toList) (cA _ caps.toList)=r at he;unfold F9 at he;split at he
  ·rename_i f;subst he;obtain⟨q1,q2⟩:=uH hv caps;obtain⟨q3,q4⟩:=uH hv first
   exact⟨.func (.func f) (first.map a.eval) (caps.map a.eval),by simp[execOp,Instr.makeFunc],.fn q3 q1 q4 q2⟩
  ·exact absurd he.symm hr
 |fieldAddr ty' x f=>
  obtain⟨ti,ht,he⟩:=bG (k:=fun ti=>match nth ti.fields f with|some (o,n,_) =>bif Nat.ble 1 n then yI o (val ⟨ts,ops,g,⟨t,h⟩,nx⟩ x)else .bad|none=>.bad) hts he hr;cases hf:nth ti.fields f with
  |none=>simp only[hf]at he;exact absurd he.symm hr
  |some q=>
   obtain⟨o,n,q⟩:=q;simp only[hf]at he;cases hn:Nat.ble 1 n with
   |false=>simp only[hn,cond_false]at he;exact absurd he.symm hr
   |true=>
    simp only[hn,cond_true]at he;obtain⟨s',rfl⟩:=Iv he hr;obtain⟨u,e1,e2⟩:=EN (P:=P) ht hf (nbl hn) (hv x) he;exact⟨u,by simp only[execOp];exact rk e1,e2⟩
 |field ty' x f=>
  obtain⟨ti,ht,he⟩:=bG (k:=fun ti=>sM (nth ti.fields f) (yF (val ⟨ts,ops,g,⟨t,h⟩,nx⟩ x))) hts he hr;have hsh:∃ s',r=.val s':=by
   unfold sM at he;split at he
   ·obtain⟨s',_,e⟩:=oU he hr;exact⟨s',e⟩
   ·exact absurd he.symm hr
  obtain⟨s',rfl⟩:=hsh;obtain⟨u,e1,e2⟩:=Lm (P:=P) ht (hv x) he;exact⟨u,by simp only[execOp];exact rk e1,e2⟩
 |indexAddr ty' x i=>
  obtain⟨ti,ht,he⟩:=bG (k:=fun ti=>aD ts ti.elem fun te=>hM ti te.size h (val ⟨ts,ops,g,⟨t,h⟩,nx⟩ x) (val ⟨ts,ops,g,⟨t,h⟩,nx⟩ i)) hts he hr;obtain⟨te,hte,he⟩:=bG hts he hr;obtain⟨c,s',rfl,hc⟩:=Ln (P:=P) hp ht hte (hv x) (hv i) he hr;intro hcc;obtain⟨u,e1,e2⟩:=hc hcc;exact⟨u,by simp only[execOp];exact rk e1,e2⟩
 |extract x i=>
  have hx:=hv x;change MD i (val _ x)=r at he;generalize hvx:a.eval x=vx at hx;unfold MD at he;split at he
  ·rename_i l hs;rw[hs]at hx;obtain⟨s',e1,rfl⟩:=oU he hr;rw[fU]at e1;cases hx with
   |tup q1 q2=>
    rename_i vs;have hlt:i<vs.size:=by rw[q1];exact(List.getElem?_eq_some_iff.1 e1).1
    have:=q2 i s' e1;simp only[Array.getD_eq_getD_getElem?,Array.getElem?_eq_getElem hlt,Option.getD_some]at this;exact⟨vs[i],by simp[execOp,hvx,Instr.extract,hlt],this⟩
  ·exact absurd he.symm hr
 |makeSlice ty' n c=>
  obtain⟨ti,ht,he⟩:=bG (k:=fun ti=>aD ts ti.elem fun te=>bif ti.isSlice then(bif te.isSlice then aD ts te.elem fun tr=>Df nx te tr (val ⟨ts,ops,g,⟨t,h⟩,nx⟩ n) (val ⟨ts,ops,g,⟨t,h⟩,nx⟩ c)else mkS nx te (val ⟨ts,ops,g,⟨t,h⟩,nx⟩ n) (val ⟨ts,ops,g,⟨t,h⟩,nx⟩ c))else .bad) hts he hr;obtain⟨te,hte,he⟩:=bG hts he hr;cases hs:ti.isSlice with
  |false=>rw[hs]at he;exact absurd he.symm hr
  |true=>
   rw[hs]at he;simp only[cond_true]at he;cases hs2:te.isSlice with
   |true=>
    rw[hs2]at he;obtain⟨tr,htr,he⟩:=bG (k:=fun tr=>Df nx te tr (val ⟨ts,ops,g,⟨t,h⟩,nx⟩ n) (val ⟨ts,ops,g,⟨t,h⟩,nx⟩ c)) hts he hr;exact uI (PU (P:=P) hp hn ht hte hs (hv n) (hv c) he hr)
   |false=>
    rw[hs2]at he;exact uI (Tn (P:=P) hp hn ht hte hs (hv n) (hv c) he hr)
 |slice ty' x lo hi mx=>
  cases mx with
  |some m=>
   obtain⟨ti,ht,he⟩:=bG (k:=fun ti=>aD ts ti.elem fun _=>BB ti (pa ⟨ts,ops,g,⟨t,h⟩,nx⟩ lo) (pa ⟨ts,ops,g,⟨t,h⟩,nx⟩ hi) (val ⟨ts,ops,g,⟨t,h⟩,nx⟩ m) (val ⟨ts,ops,g,⟨t,h⟩,nx⟩ x)) hts he hr;obtain⟨te,hte,he⟩:=bG hts he hr;obtain⟨_,l2⟩:=yX hv lo;obtain⟨l3,_⟩:=yX hv hi;obtain⟨c,s',hc,h1⟩:=M6 (P:=P) ht hte (hv x) (hv m) l2 l3 he hr;rcases hc with⟨rfl,hc⟩ |rfl
   ·obtain⟨u,e1,e2⟩:=h1 hc;exact⟨u,by simp only[execOp];exact rk e1,e2⟩
   ·intro hcc;obtain⟨u,e1,e2⟩:=h1 hcc;exact⟨u,by simp only[execOp];exact rk e1,e2⟩
  |none=>
  obtain⟨ti,ht,he⟩:=bG (k:=fun ti=>aD ts ti.elem fun te=>nV ti te.size nx h (pa ⟨ts,ops,g,⟨t,h⟩,nx⟩ lo) (pa ⟨ts,ops,g,⟨t,h⟩,nx⟩ hi) (DK hi&&F8 ops) (val ⟨ts,ops,g,⟨t,h⟩,nx⟩ x)) hts he hr;obtain⟨te,hte,he⟩:=bG hts he hr;obtain⟨l1,l2⟩:=yX hv lo;obtain⟨l3,l4⟩:=yX hv hi;rcases LD (P:=P) hp hn ht hte (hv x) l1 l2 l3 l4 (fun q=>by cases hi with|none=>rfl|some _=>simp[DK]at q) he hr with⟨c,s',rfl,hc⟩ |he
  ·intro hcc;obtain⟨u,e1,e2⟩:=hc hcc;exact⟨u,by simp only[execOp];exact rk e1,e2⟩
  ·exact uI he
 |makeMap ty' rs=>
  cases rs with
  |some _=>exact absurd he.symm hr
  |none=>
  obtain⟨ti,ht,he⟩:=bG (k:=fun ti=>mmR nx ti.mkt ti.mvt) hts he hr;unfold mmR at he;split at he
  ·rename_i kk vk hk hv';subst he;intro _;refine⟨trivial,.map (some w.heap.size),own.set nx ⟨none,.map (some w.heap.size),[],[w.heap.size]⟩,w.alloc (.map #[] 0),.inl (by simp[execOp,Instr.makeMap,World.alloc_eq]),?_,?_⟩
   ·have:=Rel.os (F:=F) (own:=own.set nx ⟨none,.map (some w.heap.size),[],[w.heap.size]⟩) (w:=w.alloc (.map #[] 0)) (Own.set_same _ _ _) rfl;exact this
   ·exact uB hp hn (w1:=w) ⟨rfl,rfl,rfl,rfl⟩ _ _ _ rfl fun own' g=>⟨w.heap.size,#[],0,rfl,rfl,mD _ _,⟨rfl,fun i x hx=>by simp[dL]at hx⟩,⟨by simp[ii],fun n hn=>by simp[ii]at hn⟩,trivial⟩
  ·exact absurd he.symm hr
 |lookup ty' m k ok=>
  obtain⟨ti,ht,he⟩:=bG (k:=fun ti=>tL ti h ok (val ⟨ts,ops,g,⟨t,h⟩,nx⟩ k) (val ⟨ts,ops,g,⟨t,h⟩,nx⟩ m)) hts he hr;obtain⟨s',rfl,u,e1,e2⟩:=M8 (P:=P) hp ht (hv m) (hv k) he hr;exact⟨u,by simp only[execOp];exact rk e1,e2⟩
 |mapUpdate ty' m k v=>
  obtain⟨ti,ht,he⟩:=bG (k:=fun ti=>AJ ti h (val ⟨ts,ops,g,⟨t,h⟩,nx⟩ k) (val ⟨ts,ops,g,⟨t,h⟩,nx⟩ v) (val ⟨ts,ops,g,⟨t,h⟩,nx⟩ m)) hts he hr;obtain⟨ups,rfl,w',e1,e2⟩:=JS (P:=P) hp ht (hv m) (hv k) (hv v) he hr;exact fun _=>⟨trivial,undef,own,w',.inr ⟨by simp[execOp,e1],rfl⟩,.any _,e2⟩
 |insert ty' m k v=>
  obtain⟨ti,ht,he⟩:=bG (k:=fun ti=>AJ ti h (val ⟨ts,ops,g,⟨t,h⟩,nx⟩ k) (val ⟨ts,ops,g,⟨t,h⟩,nx⟩ v) (val ⟨ts,ops,g,⟨t,h⟩,nx⟩ m)) hts he hr;obtain⟨ups,rfl,w',e1,e2⟩:=JS (P:=P) hp ht (hv m) (hv k) (hv v) he hr;exact fun _=>⟨trivial,undef,own,w',.inr ⟨by simp[execOp,e1],rfl⟩,.any _,e2⟩
 |mapEntry ty' m k=>
  obtain⟨ti,ht,he⟩:=bG (k:=fun ti=>xE ti nx h (val ⟨ts,ops,g,⟨t,h⟩,nx⟩ k) (val ⟨ts,ops,g,⟨t,h⟩,nx⟩ m)) hts he hr;exact uI (PS (P:=P) hp hn ht (hv m) (hv k) he hr)
 |entryStore ty' m s v=>
  obtain⟨ti,ht,he⟩:=bG (k:=fun ti=>EF ti h (val ⟨ts,ops,g,⟨t,h⟩,nx⟩ v) (val ⟨ts,ops,g,⟨t,h⟩,nx⟩ m) (val ⟨ts,ops,g,⟨t,h⟩,nx⟩ s)) hts he hr;obtain⟨c,ups,rfl,hc⟩:=PT (P:=P) hp ht (hv m) (hv s) (hv v) he hr;intro hcc;obtain⟨w',e1,e2⟩:=hc hcc;exact⟨trivial,undef,own,w',.inr ⟨by simp[execOp,e1],rfl⟩,.any _,e2⟩
 |typeAssert x xt ty' ok=>
  obtain⟨ti,ht,he⟩:=bG (k:=fun ti=>taS ty' ok ti (val ⟨ts,ops,g,⟨t,h⟩,nx⟩ x)) hts he hr;obtain⟨i,d,z,hi,hd,hz,hq,rfl⟩:=bv ht;have hx:=hv x;unfold taS at he;split at he
  ·rename_i t' y hs;rw[hs]at hx;have ex:=bF hx;cases hif:(c5 P ty' i d).iface with
   |true=>rw[hif]at he;exact absurd he.symm hr
   |false=>
    rw[hif]at he;simp only[cond_false]at he;cases hb:Nat.beq t' ty' with
    |false=>rw[hb]at he;exact absurd he.symm hr
    |true=>
     rw[hb]at he;simp only[cond_true]at he;have htt:=Nat.eq_of_beq_eq_true hb;have hrr:r=(bif ok then .val (.tup [.v y,.b true])else .val (.v y)):=he.symm;subst htt;have hrun:(Instr.typeAssert (.iface t' y) xt t' ok).run P w=.ok (if ok then .tuple #[y,.bool true]else y) w:=by
      cases d <;>simp[c5]at hif <;>cases ok <;>simp[Instr.typeAssert,run_underlying hd]
     rw[hrr];clear hrr;cases ok with
     |false=>exact⟨y,by simp only[execOp,ex];exact rk hrun,.v _⟩
     |true=>
      refine⟨.tuple #[y,.bool true],by simp only[execOp,ex];exact rk hrun,.tup rfl fun j s hj=>?_⟩;cases j with
      |zero=>simp at hj;subst hj;exact .v _
      |succ j=>
       cases j with
       |zero=>simp at hj;subst hj;exact .v _
       |succ j=>simp at hj
  ·exact absurd he.symm hr
 |call c=>
  obtain⟨callee,args,tys⟩:=c;cases callee with
  |value f=>
   have hf:=hv f;change yJ (cA _ args.toList) (val _ f)=r at he;generalize hvf:a.eval f=vf at hf;unfold yJ at he;split at he
   ·rename_i fid first caps hs
    subst he;rw[hs]at hf;cases hf with
    |fn q1 q2 q3 q4=>
     rename_i us vs;obtain⟨p1,p2⟩:=uH hv args;refine⟨us++args.map a.eval++vs,RelL.app (RelL.app ⟨q1,q3⟩ ⟨p1,p2⟩) ⟨q2,q4⟩,?_⟩;simp[execOp,resolve,hvf,Deferred.ofValue,invoke]
   ·rename_i id hs;subst he;rw[hs]at hf;obtain⟨hd,h1,rfl,h2⟩:=iq hf;exact⟨hd,h1,args.map a.eval,uH hv args,by simp[execOp,resolve,hvf,LI]⟩
   ·exact absurd he.symm hr
  |invoke f m=>exact absurd he.symm hr
  |builtin b=>
   obtain⟨p1,p2⟩:=uH hv args;have hrun:∀ (b:Builtin),(execOp a.eval { dst:=dst,op:=.call ⟨.builtin b,args,tys⟩,type:=ty,pos:=pos,after:=after,guard:=guard})=builtin b tys ty (args.map fun| .const _=>true|_=>false) (args.map a.eval):=fun b=>rfl;cases b <;>first|(exact absurd he.symm hr) |skip
   ·
    change (match tys.toList with| [t',t2] =>aD ts t' fun ti=>aD ts t2 fun ti2=>aD ts ti.elem fun te=>bif ti.isSlice&&ti2.isSlice then nU te nx h (cA _ args.toList)else .bad|_=>.bad)=r at he;split at he
    ·rename_i t' t2 htys;obtain⟨ti,ht,he⟩:=bG hts he hr;obtain⟨ti2,ht2,he⟩:=bG hts he hr;obtain⟨te,hte,he⟩:=bG hts he hr;cases hs:ti.isSlice&&ti2.isSlice with
     |false=>rw[hs]at he;exact absurd he.symm hr
     |true=>
      rw[hs]at he;rw[Bool.and_eq_true]at hs;have htys':tys= #[t',t2]:=by cases tys;simp at htys;subst htys;rfl
      have:=PO (P:=P) (ty:=ty) hp hn ht ht2 hte hs.1 hs.2 ⟨p1,p2⟩ he hr;rw[hrun,htys'];simp only[builtin];exact uI this
    ·exact absurd he.symm hr
   ·
    change (match tys.toList with| [t'] =>aD ts t' fun ti=>aD ts ti.elem fun te=>yc ti te h (cA _ args.toList) |_=>.bad)=r at he;split at he
    ·rename_i t' htys;obtain⟨ti,ht,he⟩:=bG hts he hr;obtain⟨te,hte,he⟩:=bG hts he hr;have htys':tys= #[t']:=by cases tys;simp at htys;subst htys;rfl
     have:=PW (P:=P) hp ht hte ⟨p1,p2⟩ he hr ty;rw[hrun,htys'];simp only[builtin];exact uI this
    ·exact absurd he.symm hr
   ·
    change (match tys.toList with|t'::_=>aD ts t' fun ti=>yd ti h (cA _ args.toList) |_=>.bad)=r at he;split at he
    ·rename_i t' rest htys;obtain⟨ti,ht,he⟩:=bG hts he hr;have hty0:tys[0]? =some t':=by rw[<-Array.getElem?_toList,htys];rfl
     obtain⟨ups,rfl,u,w',e1,e2⟩:=PR (P:=P) hp ht ⟨p1,p2⟩ he hr hty0 ty;intro _;refine⟨trivial,u,own,w',.inl ?_,.any _,e2⟩;rw[hrun];simp only[builtin];simp[Sem.run_bind,e1]
    ·exact absurd he.symm hr
   ·
    change (match tys.toList with| [t'] =>aD ts t' fun ti=>sN ti h (cA _ args.toList) |_=>.bad)=r at he;split at he
    ·rename_i t' htys;obtain⟨ti,ht,he⟩:=bG hts he hr;have htys':tys= #[t']:=by cases tys;simp at htys;subst htys;rfl
     obtain⟨n,hn',hl⟩:=PQ (P:=P) (ty:=ty) hp ht ⟨p1,p2⟩ he hr;have hfin:(execOp a.eval { dst:=dst,op:=.call ⟨.builtin .len,args,tys⟩,type:=ty,pos:=pos,after:=after,guard:=guard}).run P w=.ok (.value (.int .i64 n)) w:=by
      rw[hrun,htys'];simp only[builtin];exact rk hl
     rcases hn' with⟨c,rfl,hc⟩ |rfl
     ·exact⟨hc,_,hfin,.v _⟩
     ·exact⟨_,hfin,.v _⟩
    ·exact absurd he.symm hr
   ·change EE (cA _ args.toList)=r at he;unfold EE at he;split at he
    ·rename_i k x k' y hvl;subst he;rw[hvl]at p1 p2;have h0:=p2 0 _ rfl;have h1:=p2 1 _ rfl;generalize hgv:args.map a.eval=vs at *;obtain⟨l⟩:=vs;match l,p1 with
     | [u,v],_=>
      simp at h0 h1;have e0:=bF h0;have e1:=bF h1;subst e0;subst e1;exact⟨_,by rw[hrun];simp[builtin,Builtin.max_,Builtin.max2],.v _⟩
    ·exact absurd he.symm hr
   ·change ED (cA _ args.toList)=r at he;unfold ED at he;split at he
    ·rename_i k x k' y hvl;subst he;rw[hvl]at p1 p2;have h0:=p2 0 _ rfl;have h1:=p2 1 _ rfl;generalize hgv:args.map a.eval=vs at *;obtain⟨l⟩:=vs;match l,p1 with
     | [u,v],_=>
      simp at h0 h1;have e0:=bF h0;have e1:=bF h1;subst e0;subst e1;exact⟨_,by rw[hrun];simp[builtin,Builtin.min_,Builtin.min2],.v _⟩
    ·exact absurd he.symm hr
 |range ty' x=>
  obtain⟨ti,ht,he⟩:=bG (k:=fun ti=>BD ti nx h (val ⟨ts,ops,g,⟨t,h⟩,nx⟩ x)) hts he hr;have hvx:=hv x;generalize val ⟨ts,ops,g,⟨t,h⟩,nx⟩ x=sx at he hvx;unfold BD at he;split at he
  ·rename_i id;obtain⟨hdd,h1,hv1,h2⟩:=iq hvx;cases ho:al h id with
   |mp kk vk l pend=>
    rw[ho]at he;simp only[PG]at he;cases hc:kJ kk ti.mkt&&kJ vk ti.mvt&&noE pend with
    |false=>rw[hc]at he;exact absurd he.symm hr
    |true=>
      rw[hc]at he;simp only[cond_true]at he;simp only[Bool.and_eq_true]at hc;subst he;obtain⟨kt,e,q1,_⟩:=yk ht (ow hc.1.1) (ow hc.1.2);obtain⟨hd',e0,bm,es,clk,m1,m2,m3,m4,m5,_⟩:=hp.at ho rfl;rw[h1]at e0;cases e0;rw[kT hc.2]at m4;have hes:es.size=l.length:=m4.1;have hidn:id≠nx:=fun e=>by rw[e,hn.none]at h1;cases h1
      intro _;refine⟨trivial,.pointer (some ⟨w.heap.size,0,none⟩),own.set nx ⟨some w.heap.size,undef,stV (ii es) clk,[w.heap.size]⟩,w.alloc (.mapIter (some bm) clk #[] clk),.inl ?_,.ptr (Own.set_same _ _ _) rfl,?_⟩
      ·have:=run_range_map (P:=P) w ty' kt e bm es clk q1 m3;have hx:a.eval x=.map (some bm):=by first|exact hv1.trans m1|exact hv1.symm.trans m1
       simp[execOp,hx,this]
      ·have s1:=uB hp hn (w1:=w) ⟨rfl,rfl,rfl,rfl⟩ (.mapIter (some bm) clk #[] clk) (.mi (some id) l.length (List.range l.length) none) ⟨some w.heap.size,undef,stV (ii es) clk,[w.heap.size]⟩ rfl fun own' g=>⟨w.heap.size,rfl,rfl,fun i hi=>by
        cases hi;obtain⟨hd2,k1,k2⟩:=g.ids _ _ h1;have hbl:(ii es).length=l.length:=by simp[ii,hes]
        refine⟨hd2,bm,#[],clk,ii es,k1,k2.2.1.trans m1,mD _ _,rfl,hbl,List.nodup_range,fun k=>?_,fun j hj=>by cases hj⟩;rw[List.mem_range,<-hbl];constructor
        ·intro hk;exact⟨(ii es)[k],List.getElem?_eq_getElem hk,by simp⟩
        ·rintro⟨s,hs,_⟩;exact(List.getElem?_eq_some_iff.1 hs).1⟩
       have go:(own.set nx ⟨some w.heap.size,undef,stV (ii es) clk,[w.heap.size]⟩) id=some hdd:=by rw[Own.set_other _ _ hidn];exact h1
       have s2:=DL s1.hp go (.mp kk vk l (some (nx,none))) ⟨bm,es,clk,m1,m2,by rw[ra _ _ _ (nA m3)];exact m3,m4.carry s1.fr.goes.carries,m5,_,Own.set_same _ _ _,rfl⟩;refine⟨s2.hp,s1.fr.trans s2.fr,fun j hj hd=>?_⟩;have hd2:co (al (aW (aW h nx (.mi (some id) l.length (List.range l.length) none)) id (.mp kk vk l (some (nx,none)))) j)=true:=hd;rw[b4,b4]at hd2;by_cases e:j=nx
       ·subst e;rw[if_neg hidn,if_pos rfl]at hd2;cases hd2
       ·rw[Own.set_other _ _ e];exact hj
   |_=>rw[ho]at he;exact absurd he.symm hr
  ·exact absurd he.symm hr
 |next it isS=>
  cases isS with
  |true=>exact absurd he.symm hr
  |false=>
   have hvx:=hv it;change MN (val ⟨ts,ops,g,⟨t,h⟩,nx⟩ it)=r at he;generalize val ⟨ts,ops,g,⟨t,h⟩,nx⟩ it=sx at he hvx;unfold MN at he;split at he
   ·rename_i id;subst he;have key:∀ v,Rel F own w (.ptr id 0) v->∃ hd b,own id=some hd/\hd.p=some b/\v=.pointer (some ⟨b,0,none⟩):=fun v h=>by
     cases h with
     |ptr e1 e2=>exact⟨_,_,e1,e2,rfl⟩
    obtain⟨hd,b,e1,e2,hev⟩:=key _ hvx;refine⟨hd,b,e1,e2,ty,fun u w' hrun=>?_⟩;simp[execOp,hev,hrun]
   ·exact absurd he.symm hr
 |entry it=>
  have hvx:=hv it;change An h (val ⟨ts,ops,g,⟨t,h⟩,nx⟩ it)=r at he;generalize val ⟨ts,ops,g,⟨t,h⟩,nx⟩ it=sx at he hvx;unfold An at he;split at he
  ·rename_i id;cases ho:al h id with
   |mi mid n left cur=>
    rw[ho]at he;unfold JH at he;split at he
    ·rename_i mid' n' left' j hob;cases hob;cases hm:al h mid' with
     |mp kk vk l pend=>
      rw[hm]at he;cases pend with
      |none=>exact absurd he.symm hr
      |some q=>
      obtain⟨it,q⟩:=q;cases q with
      |some _=>exact absurd he.symm hr
      |none=>
      simp only[MO]at he;cases hbi:Nat.beq it id with
      |false=>rw[hbi]at he;exact absurd he.symm hr
      |true=>
       rw[hbi]at he;simp only[cond_true]at he;have hit:=Nat.eq_of_beq_eq_true hbi;subst he;rintro⟨hn0,hj⟩;have key:∀ v,Rel F own w (.ptr id 0) v->∃ hd b,own id=some hd/\hd.p=some b/\v=.pointer (some ⟨b,0,none⟩):=fun v h=>by
        cases h with
        |ptr e1 e2=>exact⟨_,_,e1,e2,rfl⟩
       obtain⟨hd,b,e1,e2,hev⟩:=key _ hvx;obtain⟨hd',e1',b',p1,p2,p3⟩:=hp.at ho rfl;rw[e1]at e1';cases e1';rw[e2]at p1;cases p1;obtain⟨hdm,bm,seen,c0,ss,k1,k2,k3,k4,k5,k6,k7,k8⟩:=p3 _ rfl;obtain⟨s8,hs8,hs⟩:=k8 j rfl;obtain⟨hdm',k1',bm',es,clk,m1,m2,m3,m4,m5,hd2,t1,t2⟩:=hp.at hm rfl;rw[k1]at k1';cases k1';rw[k2]at m1;cases m1;rw[hit,e1]at t1;cases t1;obtain⟨hc0,hss⟩:=JM (k4.symm.trans t2);subst hc0;subst hss;have hlt:j<l.length:=by omega
       obtain⟨en,f1,f2,f3,f4⟩:=m4.2 j l[j] (by simp[dL,hlt]);have hen:s8=en.born:=by
        simp only[ii,List.getElem?_map,Array.getElem?_toList,f1,Option.map_some,Option.some.injEq]at hs8;exact hs8.symm
       subst hen;have hseen:seen=seen.pop.push en.born:=by
        obtain⟨xs,rfl⟩:=Array.back?_eq_some_iff.1 hs;simp
       have hrun:=Dk (P:=P) (w:=w) (b:=b) (bm:=bm) (since:=c0) (clock:=c0) (seen:=seen.pop) (es:=es) (e:=en) (by rw[<-hseen,k3]) m3 (by rw[Array.mem_toList_iff];exact Array.mem_of_getElem? f1) m5.1;refine⟨.tuple #[en.key,en.val],by simp[execOp,hev,hrun],.tup rfl fun k s hk=>?_⟩;have hgd:l.getD j (fS kk,fS vk)=l[j]:=by rw[List.getD_eq_getElem?_getD,List.getElem?_eq_getElem hlt];rfl
       rw[hgd]at hk;match k,hk with
       |0,hk=>cases hk;exact f3
       |1,hk=>cases hk;exact f4
     |_=>rw[hm]at he;exact absurd he.symm hr
    ·exact absurd he.symm hr
   |_=>rw[ho]at he;exact absurd he.symm hr
  ·exact absurd he.symm hr
 |_=>exact absurd he.symm hr
end
def Dfr (F:Nat->Prop)(B:Bs)(w:World)(ds:List Deferred):Prop:=
 ∃ (ms:List Deferred) (Ds:List Nat),ds=ms++B.ds/\ms.map (·.target)=Ds.map .collected/\Ds.Nodup/\∀ D∈Ds,B.w.heap.size<=D/\F D/\w.heap[D]? =some (.deferred (some []))
theorem Dfr.fr {F:Nat->Prop}{B:Bs}{own own':Own}{w w':World}{ds:List Deferred}(h:Dfr F B w ds)(g:Fr { w:=w,own:=own} own' w')(hap:∀ (id:Nat) (hd:Hd) (b:Nat),own id=some hd->b∈hd.bs->¬F b):Dfr F B w' ds:=by
 obtain⟨ms,Ds,h0,h1,h2,h3⟩:=h;refine⟨ms,Ds,h0,h1,h2,fun D hD=>?_⟩;obtain⟨q1,q2,q3⟩:=h3 D hD;exact⟨q1,q2,by rw[g.block D ⟨nA q3,fun⟨id,hd,e,hb⟩ =>hap id hd D e hb q2⟩];exact q3⟩
theorem Dfr.nil {F:Nat->Prop}{B:Bs}{w:World}:Dfr F B w B.ds:=⟨[],[],rfl,rfl,List.nodup_nil,fun D h=>by cases h⟩
def oc (ops:List Oper)(j:Nat):Prop:= ∃ (i:Nat) (o:Oper) (b:Bool),ops[i]? =some o/\o.guard=some (j,b)
def SRel (F:Nat->Prop)(ops:List Oper)(E:Nat->Prop)(own:Own)(a:Act)(w:World):SV->Value->Prop
 | .gd j b s,v=>E j/\oc ops j/\(yielded ops.toArray a.tmps j=some b->Rel F own w s v)
 |s,v=>Rel F own w s v
def GOk (ops:List Oper)(a:Act):Option (Nat×Bool)->Prop
 |none=>True
 |some g=>yielded ops.toArray a.tmps g.1=some g.2
section
variable {P:Program}{F:Nat->Prop}{own:Own}{w:World}{ts:Tis}
theorem wE {ops:List Oper}{E:Nat->Prop}{a:Act}{s:SV}{v:Value}(h:Rel F own w s v):SRel F ops E own a w s v:=by
 cases s <;>first|exact h|cases h
theorem SRel.mono {ops:List Oper}{E E':Nat->Prop}{a a':Act}{own':Own}{w':World}{s:SV}{v:Value}(h:SRel F ops E own a w s v)(hn:∀ j,E j->E' j)(g:Goes F own w own' w')
  (hy:∀ j b,E j->oc ops j->yielded ops.toArray a'.tmps j=some b->yielded ops.toArray a.tmps j=some b):SRel F ops E' own' a' w' s v:=by
 cases s with
 |gd j b s=>exact⟨hn j h.1,h.2.1,fun q=>(h.2.2 (hy j b h.1 h.2.1 q)).mono g⟩
 |_=>exact Rel.mono g h
theorem mF (ops:List Oper)(tmps:Array Value)(j:Nat)(b:Bool):yielded ops.toArray tmps j=some b↔∃ o d,ops[j]? =some o/\o.dst=some d/\tmps[d]? =some (.bool b):=by
 unfold yielded;simp only[List.getElem?_toArray];constructor
 ·intro h;split at h
  ·rename_i x hx;simp only[Option.some.injEq]at h;subst h;simp only[Option.bind_eq_some_iff]at hx;obtain⟨d,⟨o,h1,h2⟩,h3⟩:=hx;exact⟨o,d,h1,h2,h3⟩
  ·cases h
 ·rintro⟨o,d,h1,h2,h3⟩;simp[h1,h2,h3]
structure ROk (N:Nat)(ops:List Oper):Prop where
 dst:∀ (i:Nat) (o:Oper) (d:Nat),ops[i]? =some o->o.dst=some d->d<N
 lt:∀ (i:Nat) (o:Oper) (j:Nat) (b:Bool),ops[i]? =some o->o.guard=some (j,b)->j<i
 uniq:∀ (j:Nat),oc ops j->∃ (o:Oper) (d:Nat),ops[j]? =some o/\o.dst=some d/\∀ (k:Nat) (q:Oper),k≠j->ops[k]? =some q->q.dst≠some d
theorem M_ {N:Nat}{ops:List Oper}(h:MX N ops=true):ROk N ops:=by
 have h':∀ (i:Nat) (o:Oper),ops[i]? =some o->((match o.dst with|some d=>Nat.blt d N|none=>true)&&A8 ops i o)=true:=by
  intro i o ho;unfold MX at h;rw[List.all_eq_true]at h;have:=h i (List.mem_range.2 (List.getElem?_eq_some_iff.1 ho).1);rw[fU,ho]at this;exact this
 refine⟨fun i o d ho hd=>?_,fun i o j b ho hg=>?_,fun j ⟨i,o,b,ho,hg⟩ =>?_⟩
 ·have:=h' i o ho;simp only[hd,Bool.and_eq_true]at this;exact nbl this.1
 ·have:=h' i o ho;simp only[A8,hg,Bool.and_eq_true]at this;exact nbl this.2.1
 ·have:=h' i o ho;simp only[A8,hg,Bool.and_eq_true]at this;obtain⟨_,_,h3⟩:=this;rw[fU]at h3;cases hj:ops[j]? with
  |none=>rw[hj]at h3;simp at h3
  |some q=>
   cases hd:q.dst with
   |none=>rw[hj]at h3;simp[hd]at h3
   |some d=>
    rw[hj]at h3;simp only[Option.bind_some,hd,List.all_eq_true,List.mem_range,Bool.or_eq_true]at h3;refine⟨q,d,rfl,hd,fun k p hk hp hpd=>?_⟩;have:=h3 k (List.getElem?_eq_some_iff.1 hp).1;rw[fU,hp]at this;simp only[Option.bind_some,hpd]at this;rcases this with e|e
    ·exact hk (Nat.eq_of_beq_eq_true e)
    ·simp at e
theorem BY {E:Nat->Prop}{ops:List Oper}{a:Act}(hcl:∀ (k:Nat) (o:Oper) (j:Nat) (b:Bool),E k->ops[k]? =some o->o.guard=some (j,b)->E j)(hg:∀ (k:Nat) (o:Oper) (b:Bool),E k->oc ops k->ops[k]? =some o->yielded ops.toArray a.tmps k=some b->GOk ops a o.guard):
  ∀ (n:Nat) (g:Option (Nat×Bool)) (j:Nat) (b:Bool),(∀ k c,g=some (k,c)->E k/\oc ops k)->
  qO ops n g j b=true->GOk ops a g->yielded ops.toArray a.tmps j=some b
 |0,_,_,_,_,h,_=>by simp[qO]at h
 |n+1,none,_,_,_,h,_=>by simp[qO]at h
 |n+1,some (j',b'),j,b,hm,h,hk=>by
  simp only[qO]at h;cases hc:Nat.beq j' j&&zG b' b with
  |true=>
   simp only[Bool.and_eq_true]at hc;have e1:=Nat.eq_of_beq_eq_true hc.1;have e2:b'=b:=by cases b' <;>cases b <;>simp[zG]at hc |-
   subst e1;subst e2;exact hk
  |false=>
   simp only[hc,cond_false]at h;have hk':yielded ops.toArray a.tmps j'=some b':=hk;obtain⟨o,d,h1,h2,h3⟩:=(mF _ _ _ _).1 hk';obtain⟨q1,q2⟩:=hm j' b' rfl;rw[fU,h1]at h;refine BY hcl hg n o.guard j b (fun k c hkc=>?_) h (hg j' o b' q1 q2 h1 hk');exact⟨hcl j' o k c q1 h1 hkc,j',o,c,h1,hkc⟩
structure SInv (F:Nat->Prop)(w0:Bs)(N:Nat)(ops:List Oper)(E:Nat->Prop)(own:Own)(st:St)(a:Act)(w:World):Prop where
 size:a.tmps.size=N
 defers:Dfr F w0 w a.defers
 hp:Hp F own w st.h
 fr:Fr w0 own w
 slots:∀ t,SRel F ops E own a w (lk t st.t) (a.tmps.getD t undef)
 tags:∀ (k:Nat) (o:Oper) (d j:Nat) (b:Bool) (s:SV),E k->oc ops k->ops[k]? =some o->o.dst=some d->lk d st.t=.gd j b s->o.guard=some (j,b)
 closed:∀ (k:Nat) (o:Oper) (j:Nat) (b:Bool),E k->ops[k]? =some o->o.guard=some (j,b)->E j
 chain:∀ (k:Nat) (o:Oper) (b:Bool),E k->oc ops k->ops[k]? =some o->yielded ops.toArray a.tmps k=some b->GOk ops a o.guard
theorem EW {w0:Bs}{N nx:Nat}{E:Nat->Prop}{ops:List Oper}{st:St}{a:Act}(hi:SInv F w0 N ops E own st a w){g:Option (Nat×Bool)}(hg:GOk ops a g)(hgn:∀ k c,g=some (k,c)->E k/\oc ops k)(x:Operand):
  Rel F own w (val ⟨ts,ops,g,st,nx⟩ x) (a.eval x):=by
 cases x with
 |tmp t=>
  have h:=hi.slots t;show Rel F own w (be ops g (lk t st.t)) (a.tmps.getD t undef);cases hs:lk t st.t with
  |gd j b s=>
   rw[hs]at h;show Rel F own w (bif qO ops ops.length g j b then s else .any) _;cases hm:qO ops ops.length g j b with
   |true=>exact h.2.2 (BY hi.closed hi.chain _ g j b hgn hm hg)
   |false=>exact .any _
  |_=>rw[hs]at h;exact h
 |const v=>exact .v v
 |func f=>exact .fn rfl rfl (fun j s h=>by simp at h) (fun j s h=>by simp at h)
 |global g=>exact .any _
theorem xy {w0:Bs}{N:Nat}{E:Nat->Prop}{ops:List Oper}{st:St}{a:Act}(hi:SInv F w0 N ops E own st a w){g:Option (Nat×Bool)}(hg:GOk ops a g)(hgn:∀ k c,g=some (k,c)->E k/\oc ops k)(c x:Operand)(want:Bool)
  (hc:a.eval c=.bool want):Rel F own w (lw ops g c want (raw st.t x)) (a.eval x):=by
 have hv:=EW (ts:=fun _=>none) (nx:=0) hi hg hgn x;change Rel F own w (be ops g (raw st.t x)) (a.eval x)at hv;cases hs:raw st.t x with
 |gd j b s=>
  rw[hs]at hv;show Rel F own w (bif zG b want&&DJ ops j c then s else be ops g (.gd j b s)) _;cases hm:zG b want&&DJ ops j c with
  |false=>exact hv
  |true=>
   simp only[Bool.and_eq_true]at hm;have e2:b=want:=by cases b <;>cases want <;>simp[zG]at hm |-
   subst e2;cases x with
   |tmp t=>
    have h:=hi.slots t;have hs':lk t st.t=.gd j b s:=hs;rw[hs']at h;refine h.2.2 ((mF _ _ _ _).2 ?_);have hd:=hm.2;unfold DJ at hd;rw[fU]at hd;split at hd
    ·rename_i d tc hb;simp only[Option.bind_eq_some_iff]at hb;obtain⟨o,h1,h2⟩:=hb;have e:=Nat.eq_of_beq_eq_true hd;subst e;refine⟨o,d,h1,h2,?_⟩;have:a.tmps.getD d undef=.bool b:=hc;simp only[Array.getD_eq_getD_getElem?]at this;cases hq:a.tmps[d]? with
     |none=>rw[hq]at this;simp[undef]at this
     |some v=>rw[hq]at this;simpa using this
    ·cases hd
   |const v=>simp[raw]at hs
   |func f=>simp[raw]at hs
   |global q=>simp[raw]at hs
 |_=>rw[hs]at hv;exact hv
theorem oD (t:List (Nat×SV))(d:Nat)(s:SV)(n:Nat):lk n ((d,s)::t)=if d=n then s else lk n t:=by
 simp only[lk];by_cases h:d=n
 ·subst h;simp
 ·have:Nat.beq d n=false:=by cases hb:Nat.beq d n with
   |false=>rfl
   |true=>exact absurd (Nat.eq_of_beq_eq_true hb) h
  rw[this,if_neg h];rfl
theorem PX (a:Act)(d:Nat)(v:Value)(hd:d<a.tmps.size)(n:Nat):(a.put (some d) v).tmps.getD n undef=if d=n then v else a.tmps.getD n undef:=by
 simp only[Act.put,Array.getD_eq_getD_getElem?,Array.getElem?_setIfInBounds];by_cases h:d=n
 ·subst h;simp[hd]
 ·simp[h]
theorem DV {ops:List Oper}{a:Act}{dst:Option Nat}{v:Value}{j:Nat}{q:Oper}{dj:Nat}(hq:ops[j]? =some q)(hd:q.dst=some dj)(hne:dst≠some dj)(b:Bool):
  yielded ops.toArray (a.put dst v).tmps j=some b↔yielded ops.toArray a.tmps j=some b:=by
 rw[mF,mF];have:(a.put dst v).tmps[dj]? =a.tmps[dj]?:=by
  cases dst with
  |none=>rfl
  |some d=>
   simp only[Act.put,Array.getElem?_setIfInBounds];rw[if_neg (fun e=>hne (by rw[e]))]
 constructor <;>rintro⟨o,d,h1,h2,h3⟩ <;>rw[hq]at h1 <;>cases h1 <;>rw[hd]at h2 <;>cases h2
 ·exact⟨q,dj,hq,hd,by rw[<-this];exact h3⟩
 ·exact⟨q,dj,hq,hd,by rw[this];exact h3⟩
theorem SInv.step {w0:Bs}{N n:Nat}{E E':Nat->Prop}{ops:List Oper}{st:St}{a:Act}(hr:ROk N ops)(hE:∀ k,E' k↔E k\/k=n)(hnE:¬E n)(hi:SInv F w0 N ops E own st a w){o:Oper}(ho:ops[n]? =some o){own':Own}{w':World}{h':List Ob}{s:SV}{v:Value}
  (fr1:Fr { w:=w,own:=own} own' w') (hp:Hp F own' w' h')
  (hgE:∀ j b,o.guard=some (j,b)->E j) (hs:SRel F ops E' own' (a.put o.dst v) w' s v) (hch:∀ b:Bool,v=.bool b->GOk ops a o.guard) (htag:∀ j b s',s=.gd j b s'->o.guard=some (j,b)):
  SInv F w0 N ops E' own' (St.put ⟨st.t,h'⟩ o.dst s) (a.put o.dst v) w':=by
 have g:Goes F own w own' w':=fr1.goes;have hfr:=hi.fr.trans fr1;have hyk:∀ j b,E j->oc ops j->(yielded ops.toArray (a.put o.dst v).tmps j=some b↔yielded ops.toArray a.tmps j=some b):=by
  intro j b hj hrf;obtain⟨q,dj,h1,h2,h3⟩:=hr.uniq j hrf;exact DV h1 h2 (h3 n o (fun e=>hnE (e▸hj)) ho) b
 have hcl:∀ (k:Nat) (q:Oper) (j:Nat) (b:Bool),E' k->ops[k]? =some q->q.guard=some (j,b)->E j:=by
  intro k q j b hk hq hqg;rcases(hE k).1 hk with hk|rfl
  ·exact hi.closed k q j b hk hq hqg
  ·rw[ho]at hq;cases hq;exact hgE j b hqg
 have hgk:∀ (k:Nat) (q:Oper),E' k->ops[k]? =some q->GOk ops a q.guard->GOk ops (a.put o.dst v) q.guard:=by
  intro k q hk hq hgo;cases hqg:q.guard with
  |none=>trivial
  |some g=>
   rw[hqg]at hgo;exact(hyk g.1 g.2 (hcl k q g.1 g.2 hk hq hqg) ⟨k,q,g.2,hq,hqg⟩).2 hgo
 refine⟨?_,?_,?_,hfr,?_,?_,fun k q j b hk hq hqg=>(hE j).2 (.inl (hcl k q j b hk hq hqg)),?_⟩
 ·cases hd:o.dst <;>simp[Act.put,hi.size]
 ·have:(a.put o.dst v).defers=a.defers:=by cases hd:o.dst <;>rfl
  rw[this];exact hi.defers.fr fr1 hi.hp.apart
 ·cases hd:o.dst <;>exact hp
 ·intro t;have hold:SRel F ops E' own' (a.put o.dst v) w' (lk t st.t) (a.tmps.getD t undef):=
   (hi.slots t).mono (fun j hj=>(hE j).2 (.inl hj)) g (fun j b hj hrf=>(hyk j b hj hrf).1)
  cases hd:o.dst with
  |none=>
   rw[hd]at hold;exact hold
  |some d=>
   rw[hd]at hold hs;show SRel F ops E' own' _ w' (lk t ((d,s)::st.t)) _;rw[oD,PX _ _ _ (by rw[hi.size];exact hr.dst n o d ho hd)];by_cases hdt:d=t
   ·rw[if_pos hdt,if_pos hdt];exact hs
   ·rw[if_neg hdt,if_neg hdt];exact hold
 ·intro k q d j b s' hk hrf hq hqd hl;rcases(hE k).1 hk with hkn|hkn
  ·obtain⟨q',d',h1,h2,h3⟩:=hr.uniq k hrf;rw[hq]at h1;cases h1;rw[hqd]at h2;cases h2;have hne:=h3 n o (fun e=>hnE (e▸hkn)) ho;refine hi.tags k q d j b s' hkn hrf hq hqd ?_;cases hd:o.dst with
   |none=>rw[hd]at hl;exact hl
   |some d2=>
    rw[hd]at hl;change lk d ((d2,s)::st.t)=_ at hl;rw[oD,if_neg (fun e=>hne (by rw[hd,e]))]at hl;exact hl
  ·subst hkn;rw[ho]at hq;cases hq;rw[hqd]at hl;change lk d ((d,s)::st.t)=_ at hl;rw[oD,if_pos rfl]at hl;exact htag j b s' hl
 ·intro k q b hk hrf hq hy;rcases(hE k).1 hk with hkn|hkn
  ·exact hgk k q hk hq (hi.chain k q b hkn hrf hq ((hyk k b hkn hrf).1 hy))
  ·subst hkn;rw[ho]at hq;cases hq;refine hgk k o hk ho ?_;obtain⟨q,d,h1,h2,h3⟩:=(mF _ _ _ _).1 hy;rw[ho]at h1;cases h1;have hlt:d<a.tmps.size:=by rw[hi.size];exact hr.dst k o d ho h2
   rw[h2]at h3;have:(a.put (some d) v).tmps[d]? =some v:=by simp[Act.put,hlt]
   rw[this]at h3;simp only[Option.some.injEq]at h3;exact hch b h3
theorem uJ {w0:Bs}{N:Nat}{E:Nat->Prop}{ops:List Oper}{st:St}{a:Act}(hi:SInv F w0 N ops E own st a w){t:List (Nat×SV)}(n:Nat)
  (ht:∀ (j:Nat) (o:Oper) (d:Nat),j<n->E j->oc ops j->ops[j]? =some o->o.dst=some d->lk d t=lk d st.t) (hlt:∀ (i:Nat) (o:Oper) (j:Nat) (b:Bool),ops[i]? =some o->o.guard=some (j,b)->j<i):
  ∀ (m:Nat) (g:Nat×Bool),g.1<n->E g.1->oc ops g.1->GOk ops a (some g)->dv ops t m g
 |0,_,_,_,_,_=>trivial
 |m+1,(j,want),hjn,hj,hrf,hg=>by
  have hg':yielded ops.toArray a.tmps j=some want:=hg;obtain⟨o,d,h1,h2,h3⟩:=(mF _ _ _ _).1 hg';have hs:=hi.slots d;have hv:a.tmps.getD d undef=.bool want:=by simp[Array.getD_eq_getD_getElem?,h3]
  rw[hv]at hs;simp only[dv,fU,h1,Option.bind_some,h2,ht j o d hjn hj hrf h1 h2];split
  ·rename_i x hx;rw[hx]at hs;have:=bF (F:=F) (own:=own) (w:=w) hs;simp at this;exact this.symm
  ·rename_i j' b x hx;rw[hx]at hs;obtain⟨q1,q2,q3⟩:=hs;have htg:=hi.tags j o d j' b _ hj hrf h1 h2 hx;have hgo:=hi.chain j o want hj hrf h1 hg';rw[htg]at hgo;have:=bF (q3 hgo);simp at this;exact⟨uJ hi n ht hlt m (j',b) (Nat.lt_trans (hlt j o j' b h1 htg) hjn) q1 q2 hgo,this.symm⟩
  ·trivial
theorem BZ {w0:Bs}{N:Nat}{E:Nat->Prop}{ops:List Oper}{st:St}{a:Act}(hi:SInv F w0 N ops E own st a w){t:List (Nat×SV)}(n:Nat)
  (ht:∀ (j:Nat) (o:Oper) (d:Nat),j<n->E j->oc ops j->ops[j]? =some o->o.dst=some d->lk d t=lk d st.t) (hlt:∀ (i:Nat) (o:Oper) (j:Nat) (b:Bool),ops[i]? =some o->o.guard=some (j,b)->j<i):
  ∀ (m:Nat) (g:Nat×Bool),g.1<n->E g.1->oc ops g.1->¬GOk ops a (some g)->gC ops t m g
 |0,_,_,_,_,_=>trivial
 |m+1,(j,want),hjn,hj,hrf,hg=>by
  have hg':¬yielded ops.toArray a.tmps j=some want:=hg;simp only[gC,fU];cases ho:ops[j]? with
  |none=>simp
  |some o=>
   cases hd:o.dst with
   |none=>simp[hd]
   |some d=>
    simp only[Option.bind_some,hd,ht j o d hjn hj hrf ho hd];have hs:=hi.slots d;have hy:∀ x,a.tmps.getD d undef=.bool x->yielded ops.toArray a.tmps j=some x:=fun x hx=>by
     refine(mF _ _ _ _).2 ⟨o,d,ho,hd,?_⟩;simp only[Array.getD_eq_getD_getElem?]at hx;cases hq:a.tmps[d]? with
     |none=>rw[hq]at hx;simp[undef]at hx
     |some v=>rw[hq]at hx;simpa using hx
    split
    ·rename_i x hx;rw[hx]at hs;have:=bF (F:=F) (own:=own) (w:=w) hs;intro e;exact hg' (e▸hy x this)
    ·rename_i j' b x hx;rw[hx]at hs;obtain⟨q1,q2,q3⟩:=hs;have htg:=hi.tags j o d j' b _ hj hrf ho hd hx;by_cases hgo:GOk ops a (some (j',b))
     ·right;have:=bF (q3 hgo);intro e;exact hg' (e▸hy x this)
     ·left;exact BZ hi n ht hlt m (j',b) (Nat.lt_trans (hlt j o j' b ho htg) hjn) q1 q2 hgo
    ·trivial
theorem zT {w0:Bs}{N:Nat}{E:Nat->Prop}{ops:List Oper}{st:St}{a:Act}(hi:SInv F w0 N ops E own st a w):
  ∀ (m:Nat) (g:Nat×Bool),E g.1->oc ops g.1->¬GOk ops a (some g)->gC ops st.t m g
 |0,_,_,_,_=>trivial
 |m+1,(j,want),hj,hrf,hg=>by
  have hg':¬yielded ops.toArray a.tmps j=some want:=hg;simp only[gC,fU];cases ho:ops[j]? with
  |none=>simp
  |some o=>
   cases hd:o.dst with
   |none=>simp[hd]
   |some d=>
    simp only[Option.bind_some,hd];have hs:=hi.slots d;have hy:∀ x,a.tmps.getD d undef=.bool x->yielded ops.toArray a.tmps j=some x:=fun x hx=>by
     refine(mF _ _ _ _).2 ⟨o,d,ho,hd,?_⟩;simp only[Array.getD_eq_getD_getElem?]at hx;cases hq:a.tmps[d]? with
     |none=>rw[hq]at hx;simp[undef]at hx
     |some v=>rw[hq]at hx;simpa using hx
    split
    ·rename_i x hx;rw[hx]at hs;have:=bF (F:=F) (own:=own) (w:=w) hs;intro e;exact hg' (e▸hy x this)
    ·rename_i j' b x hx;rw[hx]at hs;obtain⟨q1,q2,q3⟩:=hs;by_cases hgo:GOk ops a (some (j',b))
     ·right;have:=bF (q3 hgo);intro e;exact hg' (e▸hy x this)
     ·left;exact zT hi m (j',b) q1 q2 hgo
    ·trivial
variable {w0:Bs}{N:Nat}
structure StRel (F:Nat->Prop)(w0:Bs)(N:Nat)(own:Own)(st:St)(a:Act)(w:World):Prop where
 size:a.tmps.size=N
 defers:Dfr F w0 w a.defers
 hp:Hp F own w st.h
 fr:Fr w0 own w
 slots:∀ t,Rel F own w (lk t st.t) (a.tmps.getD t undef)
theorem StRel.start {own:Own}{st:St}{a:Act}{w:World}(h:StRel F w0 N own st a w)(ops:List Oper){E:Nat->Prop}(hE:∀ k,¬E k):SInv F w0 N ops E own st a w:=
 ⟨h.size,h.defers,h.hp,h.fr,fun t=>wE (h.slots t),fun k _ _ _ _ _ hk=>(hE k hk).elim,fun k _ _ _ hk=>(hE k hk).elim,fun k _ _ hk=>(hE k hk).elim⟩
theorem EX (t:Nat):∀ l:List (Nat×SV),lk t (ungd l)=match lk t l with| .gd .. =>.any|s=>s
 | [] =>rfl
 |(d,s)::r=>by
  have ih:=EX t r;cases s <;>simp only[ungd,lk] <;>(cases Nat.beq d t <;>simp only[cond_true,cond_false] <;>first|exact ih|rfl)
theorem JU (h:List Ob)(t:Nat):∀ l:List (Nat×SV),lk t (Ia h l)=MU h (lk t l)
 | [] =>rfl
 |(d,s)::r=>by
  have ih:=JU h t r;simp only[Ia,lk];cases Nat.beq d t <;>simp only[cond_true,cond_false];exact ih
theorem GC:∀ (h:List Ob) (id:Nat),al (xL h) id=Ti (al h id)
 | [],_=>rfl
 |o::_,0=>rfl
 |_::r,n+1=>GC r n
theorem DW:∀ h:List Ob,(xL h).length=h.length
 | [] =>rfl
 |_::r=>by simp only[xL,List.length_cons,DW r]
theorem Na {own:Own}{w:World}{h:List Ob}(hp:Hp F own w h){s:SV}{v:Value}(hr:Rel F own w s v):Rel F own w (MU h s) v:=by
 cases s with
 |os id=>
  simp only[MU];cases ho:al h id with
  |fwd n=>
   cases n with
   |none=>exact hr
   |some n=>
    simp only[Th];cases hr with
    |os h1 h2=>
     obtain⟨hd',e0,e⟩:=hp.at ho rfl;rw[h1]at e0;cases e0;obtain⟨hd2,k1,k2,k3⟩:=e n rfl;rw[<-k2]at h2 |-;exact .os k1 h2
  |_=>exact hr
 |_=>exact hr
theorem StRel.cleanF {own:Own}{st:St}{a:Act}{w:World}(h:StRel F w0 N own st a w):StRel F w0 N own (Sx.cleanF st) a w:=by
 unfold Sx.cleanF;cases lT st.h with
 |false=>exact h
 |true=>
  refine⟨h.size,h.defers,⟨fun id hd e=>?_,h.hp.foreign,h.hp.apart,h.hp.inj,h.hp.lt,fun id hd=>?_⟩,h.fr,fun t=>?_⟩
  ·show id< (xL st.h).length;rw[DW];exact h.hp.dom id hd e
  ·change co (al (xL st.h) id)=false at hd;change ∃ hd,own id=some hd/\ObRel F own w hd (al (xL st.h) id);rw[GC]at hd |-;cases ho:al st.h id with
   |fwd n=>rw[ho]at hd;cases hd
   |dead=>rw[ho]at hd;cases hd
   |_=>exact h.hp.at ho rfl
  ·show Rel F own w (lk t (Ia st.h st.t)) _;rw[JU];exact Na h.hp (h.slots t)
theorem StRel.finish {own:Own}{st:St}{a:Act}{w:World}{ops:List Oper}{E:Nat->Prop}(h:SInv F w0 N ops E own st a w):StRel F w0 N own (wu ops st) a w:=by
 unfold wu;refine StRel.cleanF ?_;cases hg:ops.any (·.guard.isSome)with
 |true=>
  refine⟨h.size,h.defers,h.hp,h.fr,fun t=>?_⟩;have hs:=h.slots t;show Rel F own w (lk t (ungd st.t)) _;rw[EX];cases hl:lk t st.t with
  |gd j b s=>exact .any _
  |_=>rw[hl]at hs;exact hs
 |false=>
  refine⟨h.size,h.defers,h.hp,h.fr,fun t=>?_⟩;have hs:=h.slots t;show Rel F own w (lk t st.t) _;cases hl:lk t st.t with
  |gd j b s=>
   rw[hl]at hs;obtain⟨_,⟨i,o,b',h1,h2⟩,_⟩:=hs;rw[List.any_eq_false]at hg;have:=hg o (List.mem_of_getElem? h1);simp[h2]at this
  |_=>rw[hl]at hs;exact hs
theorem StRel.ungd {own:Own}{st:St}{a:Act}{w:World}{ops:List Oper}{E:Nat->Prop}(h:SInv F w0 N ops E own st a w):StRel F w0 N own ⟨Sx.ungd st.t,st.h⟩ a w:=by
 refine⟨h.size,h.defers,h.hp,h.fr,fun t=>?_⟩;have hs:=h.slots t;show Rel F own w (lk t (Sx.ungd st.t)) _;rw[EX];cases hl:lk t st.t with
 |gd j b s=>exact .any _
 |_=>rw[hl]at hs;exact hs
end
inductive PF:SV->Prop where
 |any:PF .any
 |v (x:Value):PF (.v x)
 |e0:PF .e0
 |rc {k:Tag} {l:List k.T}:PF (.rc k l)
 |rs {k:Tag} {l:List k.T}:PF (.rs k l)
 |rm {k k2:Tag} {l:List (k.T×k2.T)}:PF (.rm k k2 l)
 |ep {l:List SV} {off:Nat}:(∀ (j:Nat) (s:SV),l[j]? =some s->PF s)->PF (.ep l off)
 |ls {l:List SV}:(∀ (j:Nat) (s:SV),l[j]? =some s->PF s)->PF (.ls l)
 |agg {l:List SV}:(∀ (j:Nat) (s:SV),l[j]? =some s->PF s)->PF (.agg l)
 |tup {l:List SV}:(∀ (j:Nat) (s:SV),l[j]? =some s->PF s)->PF (.tup l)
 |fn {f:FuncId} {l m:List SV}:(∀ (j:Nat) (s:SV),l[j]? =some s->PF s)->(∀ (j:Nat) (s:SV),m[j]? =some s->PF s)->PF (.fn f l m)
theorem rl {k:Tag}{x:k.T}{j:Nat}{s:SV}(h:(cellsOf k x)[j]? =some s):PF s:=by
 rcases wx h with⟨y,rfl,_⟩ | ⟨k',l',rfl,_⟩ | ⟨k',k2,l',rfl,_⟩ | ⟨f,rfl,_⟩
 ·exact .v y
 ·exact .rs
 ·exact .rm
 ·exact .fn (fun j s hj=>by simp at hj) (fun j s hj=>by simp at hj)
theorem uj (k:Tag)(x:k.T):PF (svT k x):=by
 unfold svT;cases pb k with
 |true=>exact .agg fun j s hj=>rl hj
 |false=>
  simp only[cond_false,fU];cases h:(cellsOf k x)[0]? with
  |none=>exact .any
  |some s=>exact rl h
theorem iy:∀ (n:Nat) (s:SV),b_ n s=true->PF s
 |n,.v x,_=>.v x
 |n,.rs k l,_=>.rs
 |n,.rm _ _ _,_=>.rm
 |n,.e0,_=>.e0
 |n,.rc k l,_=>.rc
 |n,.any,_=>.any
 |n+1,.ep l _,h=>.ep fun j s hj=>iy n s (by simp only[b_,List.all_eq_true]at h;exact h s (List.mem_of_getElem? hj))
 |n+1,.ls l,h=>.ls fun j s hj=>iy n s (by simp only[b_,List.all_eq_true]at h;exact h s (List.mem_of_getElem? hj))
 |n+1,.agg l,h=>.agg fun j s hj=>iy n s (by simp only[b_,List.all_eq_true]at h;exact h s (List.mem_of_getElem? hj))
 |n+1,.tup l,h=>.tup fun j s hj=>iy n s (by simp only[b_,List.all_eq_true]at h;exact h s (List.mem_of_getElem? hj))
 |n+1,.fn _ l m,h=>.fn (fun j s hj=>iy n s (by simp only[b_,Bool.and_eq_true,List.all_eq_true]at h;exact h.1 s (List.mem_of_getElem? hj))) (fun j s hj=>iy n s (by simp only[b_,Bool.and_eq_true,List.all_eq_true]at h;exact h.2 s (List.mem_of_getElem? hj)))
 |0,.ep _ _,h|0,.ls _,h|0,.agg _,h|0,.tup _,h|0,.fn _ _ _,h=>by simp[b_]at h
 |0,.ptr _ _,h|0,.os _,h|0,.rp _ _ _ _,h|0,.gr _ _,h|0,.gp _ _ _ _ _,h|0,.nw _ _,h|0,.nm _ _ _,h|0,.ng _ _,h|0,.gd _ _ _,h|0,.vw _ _ _ _,h=>by simp[b_]at h
 |_+1,.ptr _ _,h|_+1,.os _,h|_+1,.rp _ _ _ _,h|_+1,.gr _ _,h|_+1,.gp _ _ _ _ _,h|_+1,.nw _ _,h|_+1,.nm _ _ _,h|_+1,.ng _ _,h|_+1,.gd _ _ _,h|_+1,.vw _ _ _ _,h=>by simp[b_]at h
section
variable {P:Program}{F F':Nat->Prop}{own own':Own}{w w':World}{ts:Tis}
theorem Rel.over {s:SV}{v:Value}(hr:Rel F own w s v)(hp:PF s)(ho:∀ b,¬bM F own b->¬bM F' own' b):Rel F' own' w s v:=by
 induction hr with
 |any v=>exact .any v
 |v x=>exact .v x
 |ptr h1 h2=>cases hp
 |os h1 h2=>cases hp
 |e0=>exact .e0
 |rc _ ih=>exact .rc (ih .rs)
 |rp h1 h2 h3=>cases hp
 |gr h1 h2 h3=>cases hp
 |gp h1 h2 h3=>cases hp
 |vw h1 h2 h3=>cases hp
 |ep c h1 _ ih=>cases hp with|ep hq=>exact .ep c (fun j s hj=>⟨ho _ (h1 j s hj).1,(h1 j s hj).2⟩) fun j s hj=>ih j s hj (hq j s hj)
 |rs c h0 h0' h1 _ ih=>exact .rs c h0 h0' (fun i x hi j s hj=>⟨ho _ (h1 i x hi j s hj).1,(h1 i x hi j s hj).2⟩) fun i x hi j s hj=>ih i x hi j s hj (rl hj)
 |rs0=>exact .rs0
 |ls c h0 h1 _ ih=>cases hp with|ls hq=>exact .ls c h0 (fun j s hj=>⟨ho _ (h1 j s hj).1,(h1 j s hj).2⟩) fun j s hj=>ih j s hj (hq j s hj)
 |rm ck cv es clock h0 h1 h2 h3 _ _ ih1 ih2=>exact .rm ck cv es clock (ho _ h0) h1 h2 h3 (fun i x hi=>ih1 i x hi (uj _ _)) (fun i x hi=>ih2 i x hi (uj _ _))
 |rm0=>exact .rm0
 |agg h0 _ ih=>cases hp with|agg hq=>exact .agg h0 fun j s hj=>ih j s hj (hq j s hj)
 |tup h0 _ ih=>cases hp with|tup hq=>exact .tup h0 fun j s hj=>ih j s hj (hq j s hj)
 |fn h0 h0' _ _ ih1 ih2=>cases hp with|fn hq hq'=>exact .fn h0 h0' (fun j s hj=>ih1 j s hj (hq j s hj)) fun j s hj=>ih2 j s hj (hq' j s hj)
theorem qv {s:SV}{v:Value}(h:Rel F ct w s v):PF s:=by
 generalize ho:ct=o at h;induction h with
 |any v=>exact .any
 |v x=>exact .v x
 |ptr h1 h2=>subst ho;cases h1
 |os h1 h2=>subst ho;cases h1
 |e0=>exact .e0
 |rc _ _=>exact .rc
 |rp h1 h2 h3=>subst ho;cases h1
 |gr h1 h2 h3=>subst ho;cases h1
 |gp h1 h2 h3=>subst ho;cases h1
 |vw h1 h2 h3=>subst ho;cases h1
 |ep c h1 _ ih=>exact .ep fun j s hj=>ih j s hj
 |rs c h0 h0' h1 _ ih=>exact .rs
 |rs0=>exact .rs
 |ls c h0 h1 _ ih=>exact .ls fun j s hj=>ih j s hj
 |rm ck cv es clock h0 h1 h2 h3 _ _ ih1 ih2=>exact .rm
 |rm0=>exact .rm
 |agg h0 _ ih=>exact .agg fun j s hj=>ih j s hj
 |tup h0 _ ih=>exact .tup fun j s hj=>ih j s hj
 |fn h0 h0' _ _ ih1 ih2=>exact .fn (fun j s hj=>ih1 j s hj) fun j s hj=>ih2 j s hj
theorem ca {α β:Type}{f:α->β}{l:List α}{j:Nat}{s:β}(h:(l.map f)[j]? =some s):∃ x,l[j]? =some x/\f x=s:=by
 simpa using h
theorem oV {b:Nat}(h:¬F b):¬bM F ct b:=by
 rintro (hf| ⟨id,hd,e,_⟩)
 ·exact h hf
 ·cases e
theorem EY {b:Nat}(h:¬bM F own b):¬F b:=fun hf=>h (.inl hf)
theorem Ix (hF:∀ b,F' b->F b){k:Tag}{l:List k.T}{v:Value}{bs:List Nat}(hr:RowRel F own w k l v bs)(hbs:∀ b∈bs,¬F b):Rel F' ct w (.rs k l) v:=by
 rcases hr with⟨a,rfl,rfl,_⟩ | ⟨b,o,cap,cs,ty,rfl,rfl,h3,h4,h5,h6,h7⟩
 ·exact .rs0
 ·refine .rs (fun i j=>cs.getD (o+i*ae k+j) undef) h5 h6 (fun i x hi j s hj=>?_) (fun i x hi j s hj=>?_)
  ·obtain⟨u,e1,e2⟩:=h7 i x hi j s hj;refine⟨oV fun hf=>hbs b (by simp) (hF _ hf),?_⟩;rw[dq h3,e1];simp[Array.getD_eq_getD_getElem?,e1]
  ·obtain⟨u,e1,e2⟩:=h7 i x hi j s hj;have:cs.getD (o+i*ae k+j) undef=u:=by simp[Array.getD_eq_getD_getElem?,e1]
   rw[this];exact e2.over (rl hj) fun b hb=>oV fun hf=>hb (.inl (hF _ hf))
theorem Nb {h:List Ob}(hp:Hp F own w h){id sz cap:Nat}{lo hi:Int}{hd:Hd}{a:Option Addr}(h1:own id=some hd)(h2:Tj hd.v sz lo hi a)(h3:hi.toNat - lo.toNat<=cap):Rel F ct w (PI sz lo hi (al h id)) (.slice a (hi.toNat - lo.toNat) cap):=by
 cases ho:al h id with
 |row k l=>
  simp only[PI];cases hb:Nat.beq sz (ae k)with
  |false=>exact .any _
  |true=>
   simp only[cond_true];have hsz:=Nat.eq_of_beq_eq_true hb;subst hsz;obtain⟨hd',e0,e⟩:=hp.at ho rfl;rw[h1]at e0;cases e0;have hnil:hi.toNat<=lo.toNat->Rel F ct w (.rs k ((l.take hi.toNat).drop lo.toNat)) (.slice a (hi.toNat - lo.toNat) cap):=fun hle=>by
    have e1:(l.take hi.toNat).drop lo.toNat=[]:=List.drop_eq_nil_of_le (by simp only[List.length_take];omega);have e2:hi.toNat - lo.toNat=0:=by omega
    rw[e1,e2];exact .rs0
   by_cases hle:hi.toNat<=lo.toNat
   ·exact hnil hle
   ·rcases h2 with h2| ⟨b',o',n',cap',q1,q2,rfl⟩
    ·exact absurd h2 hle
    ·rcases e with⟨a0,e1,rfl,_⟩ | ⟨b,o,cap0,cs,ty,e1,e2,e3,e4,e5,e6,e7⟩
     ·rw[q1]at e1;simp only[Value.slice.injEq]at e1;omega
     ·rw[q1]at e1;simp only[Value.slice.injEq,Option.some.injEq,Addr.mk.injEq]at e1;obtain⟨⟨rfl,rfl,_⟩,rfl,rfl⟩:=e1;have hlen:((l.take hi.toNat).drop lo.toNat).length=hi.toNat - lo.toNat:=by simp only[List.length_drop,List.length_take];omega
      have hget:∀ i x,((l.take hi.toNat).drop lo.toNat)[i]? =some x->l[lo.toNat+i]? =some x:=fun i x hi'=>by
       rw[List.getElem?_drop,List.getElem?_take]at hi';split at hi'
       ·exact hi'
       ·cases hi'
      have hix:∀ i j,b'.succ=b'.succ->o'+lo.toNat*ae k+i*ae k+j=o'+(lo.toNat+i)*ae k+j:=fun i j _=>by rw[Nat.add_mul];omega
      rw[<-hlen];refine .rs (fun i j=>cs.getD (o'+lo.toNat*ae k+i*ae k+j) undef) (by omega) (by omega) (fun i x hi' j s hj=>?_) (fun i x hi' j s hj=>?_)
      ·obtain⟨u,m1,m2⟩:=e7 _ x (hget i x hi') j s hj;refine⟨oV fun hf=>hp.apart id hd b' h1 (by rw[e2];simp) hf,?_⟩;rw[dq e3,hix i j rfl,m1];simp[Array.getD_eq_getD_getElem?,m1]
      ·obtain⟨u,m1,m2⟩:=e7 _ x (hget i x hi') j s hj;have:cs.getD (o'+lo.toNat*ae k+i*ae k+j) undef=u:=by rw[hix i j rfl];simp[Array.getD_eq_getD_getElem?,m1]
       rw[this];exact m2.over (rl hj) fun b hb=>oV fun hf=>hb (.inl hf)
 |_=>exact .any _
theorem GD (k:Tag)(l:List (List k.T)):(∃ (k':Tag) (l':List k'.T),FR k l=.rs k' l'/\l'.length=l.length/\ae k'=1/\∀ (i:Nat) (x:k'.T),l'[i]? =some x->cellsOf k' x=[.rs k (l.getD i [])])\/FR k l=.any:=by
 cases k <;>first|exact .inr rfl|(left;exact⟨_,_,rfl,rfl,rfl,fun i x hx=>by simp[List.getD,hx,cellsOf]⟩)
theorem PY {h:List Ob}(hp:Hp F own w h){id:Nat}{v:Value}(hr:Rel F own w (.os id) v):Rel F ct w (frz (al h id)) v:=by
 obtain⟨hd,h1,rfl,h2⟩:=iq hr;cases ho:al h id with
 |row k l=>
  obtain⟨hd',e0,e⟩:=hp.at ho rfl;rw[h1]at e0;cases e0;exact Ix (fun _ h=>h) e fun b hb=>hp.apart id hd b h1 hb
 |fz k l=>
  obtain⟨hd',e0,e⟩:=hp.at ho rfl;rw[h1]at e0;cases e0;exact Rel.over e .rs fun b hb=>oV (EY hb)
 |mp kk vk l pend=>
  show Rel F ct w (bif noE pend then .rm kk vk l else .any) hd.v;cases hq:noE pend with
  |false=>exact .any _
  |true=>
   obtain⟨hd',e0,b,es,clk,m1,m2,m3,m4,_⟩:=hp.at ho rfl;rw[kT hq]at m4;rw[h1]at e0;cases e0;rw[m1];have hnb:¬bM F ct b:=oV (hp.apart id hd b h1 (by simp[m2]));have hg:∀ i,es[i]? =some ⟨(es.getD i default).key,(es.getD i default).val,(es.getD i default).born⟩\/es.size<=i:=fun i=>by
    rcases Nat.lt_or_ge i es.size with hlt|hge
    ·left;simp[Array.getD_eq_getD_getElem?,hlt]
    ·exact .inr hge
   refine .rm (fun i=>(es.getD i default).key) (fun i=>(es.getD i default).val) es clk hnb m3 m4.1 (fun i x hi=>?_) (fun i x hi=>?_) (fun i x hi=>?_)
   ·obtain⟨e,e1,e2,e3,e4⟩:=m4.2 i x hi;exact⟨_,(hg i).resolve_right (by have:=(Array.getElem?_eq_some_iff.1 e1).1;omega)⟩
   ·obtain⟨e,e1,e2,e3,e4⟩:=m4.2 i x hi;have:es.getD i default=e:=by simp[Array.getD_eq_getD_getElem?,e1]
    rw[this];exact e3.over (uj _ _) fun b hb=>oV (EY hb)
   ·obtain⟨e,e1,e2,e3,e4⟩:=m4.2 i x hi;have:es.getD i default=e:=by simp[Array.getD_eq_getD_getElem?,e1]
    rw[this];exact e4.over (uj _ _) fun b hb=>oV (EY hb)
 |grid k l=>
  obtain⟨hd',e0,e⟩:=hp.at ho rfl;rw[h1]at e0;cases e0;show Rel F ct w (FR k l) hd.v;rcases GD k l with⟨k',l',q1,q2,q3,q4⟩ |q
  ·rw[q1];rcases e with⟨e1,rfl,_⟩ | ⟨b,o,cap,cs,ty,bs,e1,e2,e3,e4,e5,e6,e7,e8,e9⟩
   ·have:l'=[]:=List.eq_nil_of_length_eq_zero (by simpa using q2);rw[this,e1];exact .rs0
   ·rw[e1,<-q2];have hvl:=e9.len;refine .rs (fun i j=>hd.vs.getD i undef) (by omega) (by omega) (fun i x hi j s hj=>?_) (fun i x hi j s hj=>?_)
    ·have hil:i<hd.vs.length:=by rw[hvl,<-q2];exact(List.getElem?_eq_some_iff.1 hi).1
     rw[q4 i x hi]at hj;cases j with
     |succ j=>simp at hj
     |zero=>
      refine⟨oV (hp.apart id hd b h1 (by simp[e2])),?_⟩;rw[q3,Nat.mul_one,Nat.add_zero,dq e4];exact e8 i _ (rh hil)
    ·have hil:i<hd.vs.length:=by rw[hvl,<-q2];exact(List.getElem?_eq_some_iff.1 hi).1
     rw[q4 i x hi]at hj;cases j with
     |succ j=>simp at hj
     |zero=>
      simp at hj;subst hj;obtain⟨b1,k1,k2,k3,k4⟩:=e9.get (rh (d:=undef) hil);exact Ix (fun _ h=>h) k3 fun c hc=>hp.apart id hd c h1 (by rw[e2];exact List.mem_cons_of_mem _ (k4 c hc))
  ·rw[q];exact .any _
 |_=>exact .any _
theorem RowAt.ep {k:Tag}{l:List k.T}{o b:Nat}{cs:Array Value}{ty:TypeId}(h3:w.heap[b]? =some (.cells cs ty (0,0)))(h7:RowAt F own w k l o cs)(hb:¬F b){i:Nat}(hi:i<l.length)(off:Nat):Rel F ct w (.ep (cellsOf k (l.getD i (fS k))) off) (.pointer (some ⟨b,o+i*ae k+off,none⟩)):=by
 refine .ep (fun j=>cs.getD (o+i*ae k+j) undef) (fun j s hj=>?_) (fun j s hj=>?_)
 ·obtain⟨e1,e2⟩:=h7.get hi hj;exact⟨oV hb,by rw[dq h3];exact e1⟩
 ·obtain⟨e1,e2⟩:=h7.get hi hj;exact e2.over (rl hj) fun b hb=>oV (EY hb)
theorem vt {h:List Ob}(hp:Hp F own w h):∀ (n:Nat) (s:SV) (v:Value),Rel F own w s v->Rel F ct w (eW h n s) v:=by
 have qh:∀ (n:Nat) (s:SV) (v:Value),Rel F own w s v->(∀ l o,s≠ .ep l o)->(∀ l,s≠ .ls l)->(∀ l,s≠ .agg l)->(∀ l,s≠ .tup l)->(∀ f l m,s≠ .fn f l m)->(∀ i o,s≠ .ptr i o)->Rel F ct w (eW h n s) v:=by
  intro n s v hr n1 n2 n3 n4 n5 n6;cases hr with
  |any=>cases n <;>exact .any _
  |v x=>cases n <;>exact .v _
  |ptr=>exact absurd rfl (n6 _ _)
  |os h1 h2=>cases n <;>exact PY hp (.os h1 h2)
  |vw h1 h2 h3=>cases n <;>exact Nb hp h1 h2 h3
  |e0=>cases n <;>exact .e0
  |rc h0=>cases n <;>exact h0.over .rs fun b hb=>oV (EY hb)
  |rp h1 h2 h3=>
   rename_i szt id off nn cap b o i hd;have key:Rel F ct w (bif Nat.beq szt 0 then .any else PH szt off i (al h id)) (.pointer (some ⟨b,o+i.toNat*szt+off,none⟩)):=by
    cases hz:Nat.beq szt 0 with
    |true=>exact .any _
    |false=>
     simp only[cond_false];cases ho:al h id with
     |row k l=>
      simp only[PH];cases hb:Nat.beq szt (ae k)with
      |false=>exact .any _
      |true=>
       have hsz:=Nat.eq_of_beq_eq_true hb;obtain⟨hd',e0,e⟩:=hp.at ho rfl;rw[h1]at e0;cases e0;rcases e with⟨a,e1,_⟩ | ⟨b',o',cap',cs,ty,e1,e2,e3,e4,e5,e6,e7⟩
       ·rw[h2]at e1;cases e1;omega
       ·rw[h2]at e1;simp only[Value.slice.injEq,Option.some.injEq,Addr.mk.injEq]at e1;obtain⟨⟨rfl,rfl,_⟩,rfl,rfl⟩:=e1;rw[hsz];exact RowAt.ep e3 e7 (hp.apart id hd b h1 (by simp[e2])) h3 off
     |_=>exact .any _
   cases n <;>exact key
  |gr h1 h2 h3=>
   rename_i id i hd;have key:Rel F ct w (MR i (al h id)) v:=by
    cases ho:al h id with
    |grid k l=>
     obtain⟨hd',e0,e⟩:=hp.at ho rfl;rw[h1]at e0;cases e0;rcases e with⟨_,_,e1,_⟩ | ⟨b,o,cap,cs,ty,bs,e1,e2,e3,e4,e5,e6,e7,e8,e9⟩
     ·rw[e1]at h2;simp at h2
     ·obtain⟨b1,k1,k2,k3,k4⟩:=e9.get h2;exact Ix (fun _ h=>h) k3 fun c hc=>hp.apart id hd c h1 (by rw[e2];exact List.mem_cons_of_mem _ (k4 c hc))
    |_=>exact .any _
   cases n <;>exact key
  |gp h1 h2 h3=>
   rename_i szt id off nn cap b o i j hd;have key:Rel F ct w (bif Nat.beq szt 0 then .any else JJ szt off i j (al h id)) (.pointer (some ⟨b,o+j.toNat*szt+off,none⟩)):=by
    cases hz:Nat.beq szt 0 with
    |true=>exact .any _
    |false=>
     simp only[cond_false];cases ho:al h id with
     |grid k l=>
      simp only[JJ];cases hb:Nat.beq szt (ae k)with
      |false=>exact .any _
      |true=>
       have hsz:=Nat.eq_of_beq_eq_true hb;obtain⟨hd',e0,e⟩:=hp.at ho rfl;rw[h1]at e0;cases e0;rcases e with⟨_,_,e1,_⟩ | ⟨b',o',cap',cs,ty,bs,e1,e2,e3,e4,e5,e6,e7,e8,e9⟩
       ·rw[e1]at h2;simp at h2
       ·obtain⟨b1,k1,k2,k3,k4⟩:=e9.get h2;rcases k3 with⟨a,m1,_⟩ | ⟨b2,o2,cap2,cs2,ty2,m1,m2,m3,m4,m5,m6,m7⟩
        ·cases m1;omega
        ·simp only[Value.slice.injEq,Option.some.injEq,Addr.mk.injEq]at m1;obtain⟨⟨rfl,rfl,_⟩,rfl,rfl⟩:=m1;rw[hsz];exact RowAt.ep m3 m7 (hp.apart id hd b h1 (by rw[e2];exact List.mem_cons_of_mem _ (k4 b (by simp[m2])))) h3 off
     |_=>exact .any _
   cases n <;>exact key
  |ep=>exact absurd rfl (n1 _ _)
  |rs c h0 h0' h1 h2=>cases n <;>exact Rel.over (.rs c h0 h0' h1 h2) .rs fun b hb=>oV (EY hb)
  |rs0=>cases n <;>exact .rs0
  |ls=>exact absurd rfl (n2 _)
  |rm ck cv es clock h0 h1 h2 h3 h4 h5=>cases n <;>exact Rel.over (.rm ck cv es clock h0 h1 h2 h3 h4 h5) .rm fun b hb=>oV (EY hb)
  |rm0=>cases n <;>exact .rm0
  |agg=>exact absurd rfl (n3 _)
  |tup=>exact absurd rfl (n4 _)
  |fn=>exact absurd rfl (n5 _ _ _)
 intro n;induction n with
 |zero=>
  intro s v hr;cases s <;>first|exact .any _|(refine qh 0 _ _ hr ?_ ?_ ?_ ?_ ?_ ?_ <;>intros <;>(intro e;cases e)) |cases hr
 |succ n ih=>
  intro s v hr;cases s with
  |ptr id off=>
   cases hr with
   |ptr h1 h2=>
    rename_i b hd;simp only[eW];cases ho:al h id with
    |cells l=>
     simp only[Lg];obtain⟨hd',e0,b',cs,ty,e1,e2,e3,e4,e5⟩:=hp.at ho rfl;rw[h1]at e0;cases e0;rw[h2]at e1;cases e1;have:=Rel.ep (F:=F) (own:=ct) (w:=w) (cells:=l.map (eW h n)) (off:=off) (b:=b) (o:=0) (fun j=>cs.getD j undef)
      (fun j s hj=>by
       obtain⟨x,hx,rfl⟩:=ca hj;refine⟨oV (hp.apart _ _ b h1 (by simp[e2])),?_⟩;have hjl:j<cs.size:=by rw[e4];exact(List.getElem?_eq_some_iff.1 hx).1
       rw[Nat.zero_add,dq e3];simp[hjl])
      (fun j s hj=>by
       obtain⟨x,hx,rfl⟩:=ca hj;exact ih x _ (e5 j x hx))
     simpa using this
    |_=>exact .any _
  |ep l o=>
   cases hr with
   |ep c h1 h2=>
    simp only[eW];exact .ep c (fun j s hj=>by obtain⟨x,hx,rfl⟩:=ca hj;exact⟨oV (EY (h1 j x hx).1),(h1 j x hx).2⟩) (fun j s hj=>by obtain⟨x,hx,rfl⟩:=ca hj;exact ih x _ (h2 j x hx))
  |ls l=>
   cases hr with
   |ls c h0 h1 h2=>
    simp only[eW];have:=Rel.ls (F:=F) (own:=ct) (w:=w) (l:=l.map (eW h n)) c (by simpa using h0) (fun j s hj=>by obtain⟨x,hx,rfl⟩:=ca hj;exact⟨oV (EY (h1 j x hx).1),(h1 j x hx).2⟩) (fun j s hj=>by obtain⟨x,hx,rfl⟩:=ca hj;exact ih x _ (h2 j x hx));simpa using this
  |agg l=>cases hr with|agg h0 h1=>simp only[eW];exact .agg (by simpa using h0) fun j s hj=>by obtain⟨x,hx,rfl⟩:=ca hj;exact ih x _ (h1 j x hx)
  |tup l=>cases hr with|tup h0 h1=>simp only[eW];exact .tup (by simpa using h0) fun j s hj=>by obtain⟨x,hx,rfl⟩:=ca hj;exact ih x _ (h1 j x hx)
  |fn f l m=>cases hr with|fn h0 h0' h1 h2=>simp only[eW];exact .fn (by simpa using h0) (by simpa using h0') (fun j s hj=>by obtain⟨x,hx,rfl⟩:=ca hj;exact ih x _ (h1 j x hx)) fun j s hj=>by obtain⟨x,hx,rfl⟩:=ca hj;exact ih x _ (h2 j x hx)
  |_=>first|(refine qh (n+1) _ _ hr ?_ ?_ ?_ ?_ ?_ ?_ <;>intros <;>(intro e;cases e)) |cases hr
theorem Nc {h:List Ob}:∀ (n:Nat) (s:SV) (v:Value),PF s->Rel F own w s v->Rel (bM F own) ct w (eW h n s) v:=by
 have hown:∀ b,¬bM F own b->¬bM (bM F own) ct b:=fun b hb=>oV hb;intro n;induction n with
 |zero=>
  intro s v hpf hr;cases hpf with
  |any=>exact .any _
  |v x=>exact hr.over (.v x) hown
  |e0=>exact hr.over .e0 hown
  |rc=>cases hr with|rc h0=>exact h0.over .rs hown
  |rs=>exact hr.over .rs hown
  |rm=>exact hr.over .rm hown
  |_=>exact .any _
 |succ n ih=>
  intro s v hpf hr;cases hpf with
  |any=>exact .any _
  |v x=>exact hr.over (.v x) hown
  |e0=>exact hr.over .e0 hown
  |rc=>cases hr with|rc h0=>exact h0.over .rs hown
  |rs=>exact hr.over .rs hown
  |rm=>exact hr.over .rm hown
  |ep hq=>
   cases hr with
   |ep c h1 h2=>
    simp only[eW];exact .ep c (fun j s hj=>by obtain⟨x,hx,rfl⟩:=ca hj;exact⟨hown _ (h1 j x hx).1,(h1 j x hx).2⟩) (fun j s hj=>by obtain⟨x,hx,rfl⟩:=ca hj;exact ih x _ (hq j x hx) (h2 j x hx))
  |ls hq=>
   cases hr with
   |ls c h0 h1 h2=>
    simp only[eW];rename_i l b o cap;have:=Rel.ls (F:=bM F own) (own:=ct) (w:=w) (l:=l.map (eW h n)) c (by simpa using h0) (fun j s hj=>by obtain⟨x,hx,rfl⟩:=ca hj;exact⟨hown _ (h1 j x hx).1,(h1 j x hx).2⟩) (fun j s hj=>by obtain⟨x,hx,rfl⟩:=ca hj;exact ih x _ (hq j x hx) (h2 j x hx));simpa using this
  |agg hq=>cases hr with|agg h0 h1=>simp only[eW];exact .agg (by simpa using h0) fun j s hj=>by obtain⟨x,hx,rfl⟩:=ca hj;exact ih x _ (hq j x hx) (h1 j x hx)
  |tup hq=>cases hr with|tup h0 h1=>simp only[eW];exact .tup (by simpa using h0) fun j s hj=>by obtain⟨x,hx,rfl⟩:=ca hj;exact ih x _ (hq j x hx) (h1 j x hx)
  |fn hq hq'=>cases hr with|fn h0 h0' h1 h2=>simp only[eW];exact .fn (by simpa using h0) (by simpa using h0') (fun j s hj=>by obtain⟨x,hx,rfl⟩:=ca hj;exact ih x _ (hq j x hx) (h1 j x hx)) fun j s hj=>by obtain⟨x,hx,rfl⟩:=ca hj;exact ih x _ (hq' j x hx) (h2 j x hx)
def cnt (n:Nat):List SV->Nat
 | [] =>0
 |x::r=>(aJ n x).length+cnt n r
def wF (F:Nat->Prop)(own:Own)(w:World):Nat->Nat->SV->Value->Prop
 |_,b,.nw _ _,v=>∃ hd,own b=some hd/\v=hd.v/\q_ v=true
 |_,b,.nm _ _ _,v=>∃ hd,own b=some hd/\v=hd.v/\q_ v=true
 |_,b,.ng _ _,v=>∃ hd,own b=some hd/\v=hd.v/\q_ v=true
 |n+1,b,.agg l,v=>∃ vs,v=.agg vs/\vs.size=l.length/\∀ (j:Nat) (s:SV),l[j]? =some s->wF F own w n (b+cnt n (l.take j)) s (vs.getD j undef)
 |n+1,b,.tup l,v=>∃ vs,v=.tuple vs/\vs.size=l.length/\∀ (j:Nat) (s:SV),l[j]? =some s->wF F own w n (b+cnt n (l.take j)) s (vs.getD j undef)
 |_,_,s,v=>Rel (bM F own) ct w s v
theorem yl (f:Nat->SV->SV)(n:Nat):∀ (l:List SV) (b j:Nat) (s:SV),(rP f (fun s=>(aJ n s).length) b l)[j]? =some s->∃ x,l[j]? =some x/\s=f (b+cnt n (l.take j)) x
 | [],b,j,s,h=>by simp[rP]at h
 |x::r,b,0,s,h=>by simp[rP]at h;exact⟨x,rfl,by simp[cnt,h]⟩
 |x::r,b,j+1,s,h=>by
  simp[rP]at h;obtain⟨y,h1,h2⟩:=yl f n r _ j s h;exact⟨y,by simpa using h1,by rw[h2];simp[cnt,Nat.add_assoc]⟩
theorem ym (f:Nat->SV->SV)(c:SV->Nat):∀ (l:List SV) (b:Nat),(rP f c b l).length=l.length
 | [],b=>rfl
 |x::r,b=>by simp[rP,ym f c r]
theorem DX:∀ (n:Nat) (s:SV) (v:Value),g8 n s=true->(∀ k l,s≠ .nw k l)->(∀ k k2 l,s≠ .nm k k2 l)->(∀ k l,s≠ .ng k l)->(∀ l,s≠ .agg l)->(∀ l,s≠ .tup l)->Rel F own w s v->Rel F' own' w' s v:=by
 intro n s v h n1 n2 n3 n4 n5 hr;cases s with
 |v x=>cases hr;exact .v _
 |nw k l=>exact absurd rfl (n1 _ _)
 |nm k k2 l=>exact absurd rfl (n2 _ _ _)
 |ng k l=>exact absurd rfl (n3 _ _)
 |agg l=>exact absurd rfl (n4 _)
 |tup l=>exact absurd rfl (n5 _)
 |_=>cases n <;>simp[g8]at h
theorem B2 {own2:Own}{m:Nat}(ho:∀ id hd,own' id=some hd->own2 (id+m)=some hd):∀ (n b:Nat) (s:SV) (v:Value),wF F own' w n b s v->
  ((∀ c,¬bM (bM F own') ct c->¬bM F' own2 c)\/g8 n s=true)->Rel F' own2 w (ig n (b+m) s) v:=by
 intro n;induction n with
 |zero=>
  intro b s v h hc;cases s with
  |nw k l=>obtain⟨hd,h1,rfl,h3⟩:=h;exact .os (ho _ _ h1) h3
  |nm k k2 l=>obtain⟨hd,h1,rfl,h3⟩:=h;exact .os (ho _ _ h1) h3
  |ng k l=>obtain⟨hd,h1,rfl,h3⟩:=h;exact .os (ho _ _ h1) h3
  |agg l=>
   have hr:Rel (bM F own') ct w (.agg l) v:=h;rcases hc with hc|hc
   ·exact hr.over (qv hr) hc
   ·simp[g8]at hc
  |tup l=>
   have hr:Rel (bM F own') ct w (.tup l) v:=h;rcases hc with hc|hc
   ·exact hr.over (qv hr) hc
   ·simp[g8]at hc
  |_=>
   have hr:Rel (bM F own') ct w _ v:=h;rcases hc with hc|hc
   ·exact hr.over (qv hr) hc
   ·exact DX _ _ _ hc (by intros;intro e;cases e) (by intros;intro e;cases e) (by intros;intro e;cases e) (by intros;intro e;cases e) (by intros;intro e;cases e) hr
 |succ n ih=>
  intro b s v h hc;cases s with
  |nw k l=>obtain⟨hd,h1,rfl,h3⟩:=h;exact .os (ho _ _ h1) h3
  |nm k k2 l=>obtain⟨hd,h1,rfl,h3⟩:=h;exact .os (ho _ _ h1) h3
  |ng k l=>obtain⟨hd,h1,rfl,h3⟩:=h;exact .os (ho _ _ h1) h3
  |agg l=>
   obtain⟨vs,rfl,h1,h2⟩:=h;refine .agg (by rw[ym];exact h1) fun j s hj=>?_;obtain⟨x,e1,rfl⟩:=yl _ n l _ j s hj;have:=ih _ x _ (h2 j x e1) (hc.imp id fun hs=>by simp only[g8,List.all_eq_true]at hs;exact hs x (List.mem_of_getElem? e1))
   rwa[show b+cnt n (l.take j)+m=b+m+cnt n (l.take j) by omega]at this
  |tup l=>
   obtain⟨vs,rfl,h1,h2⟩:=h;refine .tup (by rw[ym];exact h1) fun j s hj=>?_;obtain⟨x,e1,rfl⟩:=yl _ n l _ j s hj;have:=ih _ x _ (h2 j x e1) (hc.imp id fun hs=>by simp only[g8,List.all_eq_true]at hs;exact hs x (List.mem_of_getElem? e1))
   rwa[show b+cnt n (l.take j)+m=b+m+cnt n (l.take j) by omega]at this
  |_=>
   have hr:Rel (bM F own') ct w _ v:=h;rcases hc with hc|hc
   ·exact hr.over (qv hr) hc
   ·exact DX _ _ _ hc (by intros;intro e;cases e) (by intros;intro e;cases e) (by intros;intro e;cases e) (by intros;intro e;cases e) (by intros;intro e;cases e) hr
theorem B3:∀ (n:Nat) {s:SV} {v:Value},Rel F own w s v->aJ n s=[]
 |0,s,v,h=>by cases h <;>rfl
 |n+1,s,v,h=>by
  cases h <;>first|rfl|skip
  ·rename_i l vs h0 h1;simp only[aJ,List.flatMap_eq_nil_iff];intro x hx;obtain⟨j,hj⟩:=List.getElem?_of_mem hx;exact B3 n (h1 j x hj)
  ·rename_i l vs h0 h1;simp only[aJ,List.flatMap_eq_nil_iff];intro x hx;obtain⟨j,hj⟩:=List.getElem?_of_mem hx;exact B3 n (h1 j x hj)
theorem Nd:∀ (n b:Nat) {s:SV} {v:Value},Rel F ct w s v->wF F ct w n b s v:=by
 have hF:∀ c,¬bM F ct c->¬bM (bM F ct) ct c:=fun c hc=>oV hc;intro n;induction n with
 |zero=>intro b s v h;have:=h.over (qv h) hF;cases s <;>first|exact this|cases h
 |succ n ih=>
  intro b s v h;have:=h.over (qv h) hF;cases s with
  |agg l=>cases h with|agg h0 h1=>exact⟨_,rfl,h0,fun j s hj=>ih _ (h1 j s hj)⟩
  |tup l=>cases h with|tup h0 h1=>exact⟨_,rfl,h0,fun j s hj=>ih _ (h1 j s hj)⟩
  |nw=>cases h
  |nm=>cases h
  |ng=>cases h
  |gd=>cases h
  |_=>exact this
end
end Go.Sx
end
