/- Part of the proof that the law RegisterOrder returns true and leaves its arguments as they were, for all arguments of bulk at most 1048576 (the Upto form). -/
import Derived.Test.YthcbieoehjhjfaaGreatQ204
import Derived.TacticsIn
import Derived.OrdersIn
set_option linter.all false
set_option maxHeartbeats 4000000
set_option maxRecDepth 100000
section
namespace Go.Sx
open Go.RowKit
theorem tj {α:Type}{l r:List α}{x:α}{n:Nat}(h:l.drop n=x::r):l[n]? =some x/\l.drop (n+1)=r:=by
 have h1:(l.drop n)[0]? =some x:=by rw[h];rfl
 have h2:(l.drop n).drop 1=r:=by rw[h];rfl
 rw[List.getElem?_drop]at h1;rw[List.drop_drop]at h2;exact⟨by simpa using h1,h2⟩
theorem gI {ops:List Oper}{a:Act}{o:Oper}:(Region.wanted o (yielded ops.toArray a.tmps)=true)↔GOk ops a o.guard:=by
 unfold Region.wanted GOk;cases hg:o.guard with
 |none=>simp
 |some g=>simp
theorem mA (n:Nat)(ih:∀ b s,av n s=[]->er n b s=s):∀ (l:List SV) (b:Nat),l.flatMap (av n)=[]->j6 (er n) (fun s=>(av n s).length) b l=l
 | [],_,_=>rfl
 |x::r,b,h=>by
  simp only[List.flatMap_cons,List.append_eq_nil_iff]at h;simp only[j6];rw[ih b x h.1,mA n ih r _ h.2]
theorem rz:∀ (n b:Nat) (s:SV),av n s=[]->er n b s=s:=by
 intro n;induction n with
 |zero=>intro b s h;cases s <;>simp[av]at h <;>rfl
 |succ n ih=>
  intro b s h;cases s with
  |agg l=>simp only[av]at h;simp only[er];rw[mA n ih l b h]
  |tup l=>simp only[av]at h;simp only[er];rw[mA n ih l b h]
  |_=>first|rfl|simp[av]at h
section
variable {P:Program}{F:Nat->Prop}{own own':Own}{w w':World}{ts:Tis}
theorem wE:∀ (n:Nat) (s:SV) (v:Value),Rel F own w s v->∀ id∈dm n s,∃ hd,own id=some hd:=by
 intro n;induction n with
 |zero=>
  intro s v hr id hm;cases hr with
  |ptr h1 h2=>simp[dm]at hm;subst hm;exact⟨_,h1⟩
  |os h1 h2=>simp[dm]at hm;subst hm;exact⟨_,h1⟩
  |rp h1 h2 h3=>simp[dm]at hm;subst hm;exact⟨_,h1⟩
  |gr h1 h2 h3=>simp[dm]at hm;subst hm;exact⟨_,h1⟩
  |gp h1 h2 h3=>simp[dm]at hm;subst hm;exact⟨_,h1⟩
  |vw h1 h2=>simp[dm]at hm;subst hm;exact⟨_,h1⟩
  |_=>simp[dm]at hm
 |succ n ih=>
  intro s v hr id hm;have hlist:∀ (l:List SV) (c:Nat->Value),(∀ (j:Nat) (s:SV),l[j]? =some s->Rel F own w s (c j))->id∈l.flatMap (dm n)->∃ hd,own id=some hd:=by
   intro l c hl hm;obtain⟨x,hx,hi⟩:=List.mem_flatMap.1 hm;obtain⟨j,hj⟩:=List.getElem?_of_mem hx;exact ih x _ (hl j x hj) id hi
  cases hr with
  |ptr h1 h2=>simp[dm]at hm;subst hm;exact⟨_,h1⟩
  |os h1 h2=>simp[dm]at hm;subst hm;exact⟨_,h1⟩
  |rp h1 h2 h3=>simp[dm]at hm;subst hm;exact⟨_,h1⟩
  |gr h1 h2 h3=>simp[dm]at hm;subst hm;exact⟨_,h1⟩
  |gp h1 h2 h3=>simp[dm]at hm;subst hm;exact⟨_,h1⟩
  |vw h1 h2=>simp[dm]at hm;subst hm;exact⟨_,h1⟩
  |ep c h1 h2=>exact hlist _ c h2 (by simpa[dm]using hm)
  |ls c h0 h1 h2=>exact hlist _ c h2 (by simpa[dm]using hm)
  |agg h0 h1=>exact hlist _ _ h1 (by simpa[dm]using hm)
  |tup h0 h1=>exact hlist _ _ h1 (by simpa[dm]using hm)
  |fn h0 h0' h1 h2=>
   simp only[dm,List.mem_append]at hm;rcases hm with hm|hm
   ·exact hlist _ _ h1 hm
   ·exact hlist _ _ h2 hm
  |_=>simp[dm]at hm
theorem nT {h:List Ob}(hp:Hp F own w h):∀ (n:Nat) (todo acc:List Nat),(∀ id∈todo,∃ hd,own id=some hd)->(∀ id∈acc,∃ hd,own id=some hd)->∀ id∈reach h n todo acc,∃ hd,own id=some hd
 |0,_,acc,_,h2=>h2
 |n+1,[],acc,_,h2=>h2
 |n+1,id::todo,acc,h1,h2=>by
  simp only[reach];cases hm:rP id acc with
  |true=>exact nT hp n _ _ (fun i hi=>h1 i (by simp[hi])) h2
  |false=>
   refine nT hp n _ _ (fun i hi=>?_) (fun i hi=>?_)
   ·rcases List.mem_append.1 hi with hi|hi
    ·cases ho:ae h id with
     |cells l=>
      rw[ho]at hi;obtain⟨hd,e1,e2⟩:=hp.at ho rfl;obtain⟨b,cs,ty,q1,q2,q3,q4,q5⟩:=e2;obtain⟨x,hx,hxi⟩:=List.mem_flatMap.1 hi;obtain⟨j,hj⟩:=List.getElem?_of_mem hx;exact wE 3 x _ (q5 j x hj) i hxi
     |_=>rw[ho]at hi;simp[Di]at hi
    ·exact h1 i (by simp[hi])
   ·rcases List.mem_append.1 hi with hi|hi
    ·exact h2 i hi
    ·simp at hi;subst hi;exact h1 _ (by simp)
theorem tl {h:List Ob}(hp:Hp F own w h){args:List SV}{vs:Array Value}(hr:RelL F own w args vs):∀ id∈reach h 64 (args.flatMap (dm 3)) [],id<h.length:=fun id hm=>by
 obtain⟨hd,e⟩:=nT hp 64 _ [] (fun i hi=>by
  obtain⟨x,hx,hxi⟩:=List.mem_flatMap.1 hi;obtain⟨j,hj⟩:=List.getElem?_of_mem hx;exact wE 3 x _ (hr.2 j x hj) i hxi) (fun i hi=>by cases hi) id hm
 exact hp.dom _ _ e
variable {w0:Bs}{ro:Option Nat}{nd:Nat}{N n:Nat}{ops:List Oper}{st:St}{a:Act}{G:Cons}
theorem tn (own:Own)(hb:Below w.heap.size w w'):Fr { w:=w,own:=own} own w':=(Fr.refl { w:=w,own:=own}).below hb
theorem lr (n k:Nat):k<n+1↔k<n\/k=n:=by omega
theorem SInv.stepv {E E':Nat->Prop}(hr:ROk N ops)(hE:∀ k,E' k↔E k\/k=n)(hnE:¬E n)(hi:SInv F w0 N ops E own st a w){o:Oper}(ho:ops[n]? =some o)(hgE:∀ j b,o.guard=some (j,b)->E j)(hgo:GOk ops a o.guard){s:SV}{u:Value}(hb:Below w.heap.size w w')(hs:Rel F own w' s u):
  SInv F w0 N ops E' own (st.put o.dst s) (a.put o.dst u) w'/\(∀ g,o.guard=some g->SInv F w0 N ops E' own (st.put o.dst (.gd g.1 g.2 s)) (a.put o.dst u) w'):=by
 have g:Fr { w:=w,own:=own} own w':=tn own hb;have hp':=hi.hp.below hb;refine⟨hi.step hr hE hnE ho g hp' hgE (nu hs) (fun _ _=>hgo) (fun j b s' e=>?_),fun gg hgg=>hi.step hr hE hnE ho g hp' hgE ⟨(hE _).2 (.inl (hgE _ _ hgg)),⟨n,o,gg.2,ho,hgg⟩,fun _=>hs⟩ (fun _ _=>hgo) (fun j b s' e=>?_)⟩
 ·subst e;cases hs
 ·cases e;exact hgg
theorem SInv.stepe {E E':Nat->Prop}(hr:ROk N ops)(hE:∀ k,E' k↔E k\/k=n)(hnE:¬E n)(hi:SInv F w0 N ops E own st a w){o:Oper}(ho:ops[n]? =some o)(hgE:∀ j b,o.guard=some (j,b)->E j)(hgo:GOk ops a o.guard){h':List Ob}{s:SV}{u:Value}(hp:Hp F own' w' h')(hfr:Fr { w:=w,own:=own} own' w')(hs:Rel F own' w' s u):
  SInv F w0 N ops E' own' (St.put ⟨st.t,h'⟩ o.dst s) (a.put o.dst u) w'/\(∀ g,o.guard=some g->SInv F w0 N ops E' own' (St.put ⟨st.t,h'⟩ o.dst (.gd g.1 g.2 s)) (a.put o.dst u) w'):=by
 refine⟨hi.step hr hE hnE ho hfr hp hgE (nu hs) (fun _ _=>hgo) (fun j b s' e=>?_),fun gg hgg=>hi.step hr hE hnE ho hfr hp hgE ⟨(hE _).2 (.inl (hgE _ _ hgg)),⟨n,o,gg.2,ho,hgg⟩,fun _=>hs⟩ (fun _ _=>hgo) (fun j b s' e=>?_)⟩
 ·subst e;cases hs
 ·cases e;exact hgg
theorem SInv.skip {E E':Nat->Prop}(hr:ROk N ops)(hE:∀ k,E' k↔E k\/k=n)(hnE:¬E n)(hi:SInv F w0 N ops E own st a w){o:Oper}(ho:ops[n]? =some o)(hgE:∀ j b,o.guard=some (j,b)->E j)(hgo:¬GOk ops a o.guard){g:Nat×Bool}(hg:o.guard=some g){s:SV}:
  SInv F w0 N ops E' own (st.put o.dst (.gd g.1 g.2 s)) (a.put o.dst undef) w:=by
 have hrf:h_ ops g.1:=⟨n,o,g.2,ho,hg⟩;refine hi.step hr hE hnE ho (Fr.refl { w:=w,own:=own}) hi.hp hgE ⟨(hE _).2 (.inl (hgE _ _ hg)),hrf,fun hy=>?_⟩ (fun b hb=>by simp[undef]at hb) (fun j b s' e=>by cases e;exact hg);exfalso;apply hgo;rw[hg];obtain⟨q,d,h1,h2,h3⟩:=hr.uniq g.1 hrf;exact(uX h1 h2 (h3 n o (fun e=>hnE (e▸hgE _ _ hg)) ho) g.2).1 hy
theorem qJ {cx:Cx}{op:Op}(h:opS cx op≠ .bad):∀ c,op≠ .defer c:=by
 rintro c rfl;exact h rfl
theorem SInv.out {E:Nat->Prop}(hi:SInv F w0 N ops E own st a w):StRel F w0 N own ⟨ungd st.t,st.h⟩ a w:=StRel.ungd hi
theorem StRel.moved {h':List Ob}(hs:StRel F w0 N own st a w)(hp:Hp F own' w' h')(hfr:Fr { w:=w,own:=own} own' w'):StRel F w0 N own' ⟨st.t,h'⟩ a w':=
 ⟨hs.size,hs.defers.fr hfr hs.hp.apart,hp,hs.fr.trans hfr,fun t=>(hs.slots t).mono hfr.goes⟩
theorem u7 (own:Own)(w:World):Goes F own w own { w with drawn:=w.drawn+1}:=⟨fun _ hd h=>⟨hd,h,.refl _⟩,fun _ _ h=>⟨h,rfl⟩,Nat.le_refl _⟩
theorem StRel.drew {own:Own}{st:St}{a:Act}{w:World}(h:StRel F w0 N own st a w):StRel F w0 N own st a { w with drawn:=w.drawn+1}:=
 ⟨h.size,h.defers,h.hp.goes (u7 own w) fun _ _ _ _ _=>rfl,h.fr.drew,fun t=>(h.slots t).mono (u7 own w)⟩
def AY (G:Cons)(ops:List Oper)(d:Option Nat)(st:St)(next:St->Prop)(Z:Value->St->Prop):Option (Nat×Bool)->OR->Prop
 |none,r=>gj G d st next Z r
 |some g,r=>stepG G ops g d st next Z r
theorem df {o:Oper}{K:Act->World->Prop}{Q:Exit->Act->World->Prop}{u:Value}{run:Result Next}(hrun:run=.ok (.value u) w'\/(run=.ok .skip w'/\u=undef))(h:K (a.put o.dst u) w'):
  o.uponIn (rd ro) nd P a K Q run:=by
 rcases hrun with rfl| ⟨rfl,rfl⟩ <;>exact h
theorem sa {ops:List Oper}{t:List (Nat×SV)}:∀ (n:Nat) (g:Nat×Bool),co ops t n g->mq ops t n g->False
 |0,_,_,h=>h
 |n+1,(j,want),h1,h2=>by
  simp only[co]at h1;simp only[mq]at h2;split at h1
  ·rename_i d hd;rw[hd]at h2;simp only at h2;split at h1
   ·rename_i x hx;rw[hx]at h2;exact h2 h1
   ·rename_i j' b x hx;rw[hx]at h2;rcases h2 with h2|h2
    ·exact sa n (j',b) h1.1 h2
    ·exact h2 h1.2
   ·rename_i hx hx2;split at h2
    ·rename_i x e;exact hx x e
    ·rename_i j' b x e;exact hx2 j' b x e
    ·exact h2
  ·rename_i hd;rw[hd]at h2;exact h2
theorem Cd {α:Type}{l:List α}(h:l.Nodup){i j:Nat}{x:α}(hi:l[i]? =some x)(hj:l[j]? =some x):i=j:=by
 obtain⟨a,ha⟩:=List.getElem?_eq_some_iff.1 hi;obtain⟨b,hb⟩:=List.getElem?_eq_some_iff.1 hj;rcases Nat.lt_trichotomy i j with hl|hl|hl
 ·exact absurd (ha.trans hb.symm) (List.pairwise_iff_getElem.1 h i j a b hl)
 ·exact hl
 ·exact absurd (hb.trans ha.symm) (List.pairwise_iff_getElem.1 h j i b a hl)
theorem I5 {h:List Ob}(hp:Hp F own w h){id:Nat}{hd:Hd}{b:Nat}(e1:own id=some hd)(e2:hd.p=some b){mid n:Nat}{left:List Nat}{cur:Option Nat}(ho:ae h id=.mi (some mid) n left cur)
  {kk vk:Tag} {l:List (kk.T×vk.T)} (hm:ae h mid=.mp kk vk l (some (id,none))) (hn:n=l.length) (ty:TypeId):
  (left=[]/\(Instr.next (.pointer (some ⟨b,0,none⟩)) false ty).run P w=.ok (.tuple #[.bool false]) w)\/
  ∃ j∈left,∃ u w',(Instr.next (.pointer (some ⟨b,0,none⟩)) false ty).run P w=.ok u w'/\Step F own w (bf h id (.mi (some mid) n (left.erase j) (some j))) own w'/\
   Rel F own w' (.tup [.v (.bool true),svT kk (l.getD j (di kk,di vk)).1,svT vk (l.getD j (di kk,di vk)).2]) u:=by
 obtain⟨hd',e1',b',p1,p2,p3⟩:=hp.at ho rfl;rw[e1]at e1';cases e1';rw[e2]at p1;cases p1;obtain⟨hdm,bm,seen,c0,ss,k1,k2,k3,k4,k5,k6,k7,k8⟩:=p3 _ rfl;obtain⟨hdm',k1',bm',es,clk,m1,m2,m3,m4,m5,hd2,t1,t2⟩:=hp.at hm rfl;rw[k1]at k1';cases k1';rw[k2]at m1;cases m1;rw[e1]at t1;cases t1;obtain⟨hc0,hss⟩:=AP (k4.symm.trans t2);subst hc0;subst hss;have hes:es.size=l.length:=by simpa[ct]using m4.1
 have hget:∀ i (hi:i<es.size),(d8 es)[i]? =some es[i].born:=fun i hi=>by simp[d8,hi]
 have hborn:∀ x∈es.toList,x.born<c0:=fun x hx=>m5.2 _ (List.mem_map_of_mem hx);rcases ww (P:=P) (ty:=ty) k3 m3 hborn (Nat.le_refl _)with⟨h1,h2⟩ | ⟨e,h1,w1,h2,h3⟩
 ·refine .inl ⟨?_,h2⟩;cases hl:left with
  |nil=>rfl
  |cons k r=>
   exfalso;obtain⟨s9,hs9,hn9⟩:=(k7 k).1 (by rw[hl];simp);have hke:k<es.size:=by have:=(List.getElem?_eq_some_iff.1 hs9).1;simpa[d8]using this
   rw[hget k hke,Option.some.injEq]at hs9;have hmem:es[k]∈leftOf es seen:=by
    unfold leftOf;rw[Array.mem_filter];refine⟨Array.getElem_mem _,?_⟩;rw[hs9];simpa using hn9
   have:=Array.size_pos_of_mem hmem;omega
 ·have hmem:e∈es/\¬e.born∈seen.toList:=by
   rw[Array.mem_toList_iff]at h1;unfold leftOf at h1;rw[Array.mem_filter]at h1;refine⟨h1.1,?_⟩;have:=h1.2;simpa using this
  obtain⟨j,hj,hje⟩:=Array.getElem_of_mem hmem.1;have hb:(d8 es)[j]? =some e.born:=by rw[<-hje];exact hget j hj
  have hjl:j∈left:=(k7 j).2 ⟨_,hb,hmem.2⟩;have hh:w1.heap=w.heap:=by rcases h2 with rfl|rfl <;>rfl
  have hbl:b<w.heap.size:=hp.lt id hd b e1 (by rw[p2];simp);have st:Step F own w (bf h id (.mi (some mid) n (left.erase j) (some j))) own { w1 with heap:=w1.heap.setIfInBounds b (.mapIter (some bm) c0 (seen.push e.born) c0)}:=by
   refine jm hp e1 (b:=b) (by rw[p2];simp) ?_ (fun k hk=>?_) ?_ ?_ ?_ _ fun g=>⟨b,e2,p2,fun i hi=>?_⟩
   ·show(w1.heap.setIfInBounds b _).size=_;rw[hh];exact Array.size_setIfInBounds
   ·show(w1.heap.setIfInBounds b _)[k]? =_;rw[hh,Array.getElem?_setIfInBounds,if_neg (fun e=>hk e.symm)]
   ·rcases h2 with rfl|rfl <;>rfl
   ·rcases h2 with rfl|rfl <;>rfl
   ·rcases h2 with rfl|rfl <;>rfl
   ·cases hi;refine⟨hdm,bm,seen.push e.born,c0,d8 es,k1,k2,?_,k4,k5,k6.erase j,fun k=>?_,fun j' hj'=>?_⟩
    ·show(w1.heap.setIfInBounds b _)[b]? =_;rw[hh,Array.getElem?_setIfInBounds,if_pos rfl,if_pos hbl]
    ·rw[k6.mem_erase_iff,k7 k,Array.toList_push];constructor
     ·rintro⟨a,s,b,c⟩;refine⟨s,b,fun h=>?_⟩;rcases List.mem_append.1 h with h|h
      ·exact c h
      ·simp at h;subst h;exact a (Cd m5.1 b hb)
     ·rintro⟨s,a,b⟩;refine⟨fun h=>?_,s,a,fun h=>b (List.mem_append_left _ h)⟩;subst h;rw[hb]at a;cases a;exact b (by simp)
    ·cases hj';exact⟨_,hb,by simp⟩
  refine .inr ⟨j,hjl,_,_,h3,st,.tup rfl fun k s hk=>?_⟩;have hlt:j<l.length:=by omega
  have hgd:l.getD j (di kk,di vk)=l[j]:=by rw[List.getD_eq_getElem?_getD,List.getElem?_eq_getElem hlt];rfl
  rw[hgd]at hk;obtain⟨e3,g1,_,g3,g4⟩:=m4.2 j l[j] (by simp[ct,hlt]);rw[Array.getElem?_eq_getElem hj,hje]at g1;cases g1;match k,hk with
  |0,hk=>cases hk;exact .v _
  |1,hk=>cases hk;exact g3.mono st.fr.goes
  |2,hk=>cases hk;exact g4.mono st.fr.goes
theorem AZ (hts:ts.ok P)(hG:ConsOk P G)(hr:ROk N ops){E E':Nat->Prop}(hE:∀ k,E' k↔E k\/k=n)(hnE:¬E n){o:Oper}(ho:ops[n]? =some o)(hgE:∀ j b,o.guard=some (j,b)->E j)
  (hi:SInv F w0 N ops E own st a w) {Q:Exit->Act->World->Prop} {K:Act->World->Prop} {next:St->Prop} {Z:Value->St->Prop} (hZ:∀ x own st a w,StRel F w0 N own st a w->Z x st->Q (.panic [{ v:=x,recovered:=false}]) a w)
  (hx:AY G ops o.dst st next Z o.guard (opS ⟨ts,ops,o.guard,st,st.h.length⟩ o.op)) (hK:∀ own st a w,SInv F w0 N ops E' own st a w->next st->K a w):
  (GOk ops a o.guard->(∀ c,o.op≠ .defer c)/\o.uponIn (rd ro) nd P a K Q ((execOp a.eval o).run P w))/\(¬GOk ops a o.guard->K (a.put o.dst undef) w):=by
 cases hg:o.guard with
 |none=>
  have hnd:∀ c,o.op≠ .defer c:=qJ (cx:=⟨ts,ops,o.guard,st,st.h.length⟩) (fun e=>by rw[e,hg]at hx;exact hx);refine⟨fun _=>⟨hnd,?_⟩,fun h=>absurd trivial h⟩;rw[hg]at hx;have hgo:GOk ops a o.guard:=by rw[hg];trivial
  have h:=zB (P:=P) (ts:=ts) (ops:=ops) (g:=none) (t:=st.t) (h:=st.h) (nx:=st.h.length) hts hi.hp hi.hp.nx (a:=a) (o:=o) (wy hi trivial (fun k c e=>by cases e)) (fun c x y _=>⟨fun hc=>nR (g:=none) hi trivial (fun k c e=>by cases e) c x true hc,fun hc=>nR (g:=none) hi trivial (fun k c e=>by cases e) c y false hc⟩);change gj G o.dst st next Z (opS ⟨ts,ops,none,⟨st.t,st.h⟩,st.h.length⟩ o.op)at hx
  generalize opS ⟨ts,ops,none,⟨st.t,st.h⟩,st.h.length⟩ o.op=r at h hx;cases r with
  |bad=>exact hx.elim
  |val s=>
   obtain⟨u,e1,e2⟩:=h;exact df (.inl e1) (hK _ _ _ _ (hi.stepv hr hE hnE ho hgE hgo (Below.refl _ _) e2).1 hx)
  |chk c s=>
   obtain⟨u,e1,e2⟩:=h hx.1;exact df (.inl e1) (hK _ _ _ _ (hi.stepv hr hE hnE ho hgE hgo (Below.refl _ _) e2).1 hx.2)
  |asm c s=>
   obtain⟨hc,u,e1,e2⟩:=h;exact df (.inl e1) (hK _ _ _ _ (hi.stepv hr hE hnE ho hgE hgo (Below.refl _ _) e2).1 (hx hc))
  |newr s=>
   obtain⟨u,cs,ty,e1,e2⟩:=h;exact df (.inl e1) (hK _ _ _ _ (hi.stepv hr hE hnE ho hgE hgo (jG _ _) e2).1 hx)
  |amb p=>
   obtain⟨b,h1,h2⟩:=h;exact df (.inl h2) (hK _ _ _ _ (hi.stepv hr hE hnE ho hgE hgo (Below.refl _ _) (.v _)).1 (hx b h1))
  |nxt id=>
   obtain⟨hd,b,e1,e2,ty,hrun⟩:=h;change FU id o.dst st next (ae st.h id)at hx
   cases hob:ae st.h id with
   |mi mid n' left cur=>
    rw[hob]at hx;cases mid with
    |none=>exact hx.elim
    |some mid=>
     change Dj id mid n' left o.dst st next (ae st.h mid)at hx
     cases hm:ae st.h mid with
     |mp kk vk l pend=>
      rw[hm]at hx;cases pend with
      |none=>exact hx.elim
      |some q=>
      obtain⟨it,q⟩:=q;cases q with
      |some _=>exact hx.elim
      |none=>
       obtain⟨⟨x0,x1⟩,x2,x3⟩:=hx;subst x0;rcases I5 (P:=P) hi.hp e1 e2 hob hm x1 ty with⟨q1,q2⟩ | ⟨j,q1,u,w',q2,q3,q4⟩
       ·exact df (.inl (hrun _ _ q2)) (hK _ _ _ _ (hi.stepv hr hE hnE ho hgE hgo (Below.refl _ _) (.tup rfl fun k s hk=>by
         match k,hk with
         |0,hk=>cases hk;exact .v _)).1 (x2 q1))
       ·exact df (.inl (hrun _ _ q2)) (hK _ _ _ _ (hi.stepe hr hE hnE ho hgE hgo q3.hp q3.fr q4).1 (x3 j q1))
     |_=>rw[hm]at hx;exact hx.elim
   |_=>rw[hob]at hx;exact hx.elim
  |eff c ac ups s=>
   obtain⟨hc,hx⟩:=hx;obtain⟨ha,u,own',w',e1,e2,e3⟩:=h hc;exact df e1 (hK _ _ _ _ (hi.stepe hr hE hnE ho hgE hgo e3.hp e3.fr e2).1 (hx ha))
  |call f args=>
   obtain⟨vs,e1,e2⟩:=h;change na (args.all (bO 3)) (reach st.h 64 (args.flatMap (dm 3)) []) o.dst st next Z (G.o f (args.map (ren (inN (reach st.h 64 (args.flatMap (dm 3)) [])) 6)) (km st.h (reach st.h 64 (args.flatMap (dm 3)) []))) (G.p f (args.map (dl st.h 6)))at hx
   have hx2:ph (reach st.h 64 (args.flatMap (dm 3)) []) o.dst st next Z (G.o f (args.map (ren (inN (reach st.h 64 (args.flatMap (dm 3)) [])) 6)) (km st.h (reach st.h 64 (args.flatMap (dm 3)) [])))\/∃ c,G.p f (args.map (dl st.h 6))=some c/\na (args.all (bO 3)) (reach st.h 64 (args.flatMap (dm 3)) []) o.dst st next Z (G.o f (args.map (ren (inN (reach st.h 64 (args.flatMap (dm 3)) [])) 6)) (km st.h (reach st.h 64 (args.flatMap (dm 3)) []))) (some c)/\¬ (∃ p s,c=.det p s/\(args.all (bO 3) ||dW 3 s)=false):=by
    cases hc:G.p f (args.map (dl st.h 6))with
    |none=>rw[hc]at hx;exact .inl hx
    |some c=>
     rw[hc]at hx;by_cases hdet:∃ p s,c=.det p s/\(args.all (bO 3) ||dW 3 s)=false
     ·obtain⟨p,s,rfl,hb⟩:=hdet;left;change (bif args.all (bO 3) ||dW 3 s then _ else _)at hx;rw[hb]at hx;exact hx
     ·exact .inr ⟨c,rfl,hx,hdet⟩
   clear hx;rcases hx2 with hx| ⟨c,hc,hx,hdet⟩
   ·have hids:=tl hi.hp e1;have hn:=jN st.h 64 (args.flatMap (dm 3)) [] List.nodup_nil;generalize reach st.h 64 (args.flatMap (dm 3)) []=ids at hx hids hn;change ph ids o.dst st next Z (G.o f (args.map (ren (inN ids) 6)) (km st.h ids))at hx
    cases ho2:G.o f (args.map (ren (inN ids) 6)) (km st.h ids)with
    |none=>rw[ho2]at hx;exact hx.elim
    |some c=>
     rw[ho2]at hx;obtain⟨hpre,hx⟩:=hx;obtain⟨k1,k2⟩:=x9 hG hi.hp e1 hn ho2 hpre hids;rw[e2,k1];refine⟨fun h=>(by cases h),?_⟩;refine CallsIn.mono (iP k2) ?_;rintro e w' ⟨r,own',hr1,hr2⟩;have hx:=hx r hr1;cases hres:c.res r with
     |ret s h'=>
      rw[hres]at hr2 hx;obtain⟨⟨u,rfl,hrel⟩,hp',hfr⟩:=hr2;exact hK _ _ _ _ (hi.stepe hr hE hnE ho hgE hgo hp' hfr hrel).1 hx
     |pan x h'=>
      rw[hres]at hr2 hx;obtain⟨rfl,hp',hfr⟩:=hr2;exact hZ x own' ⟨ungd st.t,gP ids st.h.length st.h 0 h'⟩ a w' (hi.out.moved hp' hfr) hx
   ·have hcall:bb c/\(args.all (bO 3)=true\/∀ s,cH c s->dW 3 s=true)/\(∀ s,cH c s->next (St.put ⟨st.t,st.h++av 3 s⟩ o.dst (er 3 st.h.length s)))/\∀ x,iu c x->Z x ⟨ungd st.t,st.h⟩:=by
     cases c with
     |det p s=>
      change (bif args.all (bO 3) ||dW 3 s then _ else _)at hx;cases hb:args.all (bO 3) ||dW 3 s with
      |false=>exact absurd ⟨p,s,rfl,hb⟩ hdet
      |true=>
       rw[hb]at hx;obtain⟨hp,hx⟩:=hx;refine⟨hp,?_,fun s' hs'=>by cases hs';exact hx,fun x h=>h.elim⟩;rw[Bool.or_eq_true]at hb;exact hb.imp id (fun h s' hs'=>by cases hs';exact h)
     |rel α pre post out=>
      obtain⟨hp,hx⟩:=hx;cases hb:args.all (bO 3)with
      |false=>rw[hb]at hx;exact hx.elim
      |true=>
       rw[hb]at hx;refine⟨hp,.inl rfl,fun s' hs'=>?_,fun x h=>h.elim⟩;obtain⟨r,h1,rfl⟩:=hs';exact hx r h1
     |may ok s x=>
      change (bif args.all (bO 3) ||dW 3 s then(ok=true->next (St.put ⟨st.t,st.h++av 3 s⟩ o.dst (er 3 st.h.length s)))/\(ok=false->Z x ⟨ungd st.t,st.h⟩)else False)at hx;cases hb:args.all (bO 3) ||dW 3 s with
      |false=>rw[hb]at hx;exact hx.elim
      |true=>
       rw[hb]at hx;refine⟨trivial,?_,fun s' hs'=>by obtain⟨h1,rfl⟩:=hs';exact hx.1 h1,fun x' hs'=>by obtain⟨h1,rfl⟩:=hs';exact hx.2 h1⟩;rw[Bool.or_eq_true]at hb;exact hb.imp id (fun h s' hs'=>by obtain⟨_,rfl⟩:=hs';exact h)
    obtain⟨q1,q2,q3,q4⟩:=hcall;obtain⟨k1,k2⟩:=wD (P:=P) hG hi.hp e1 hc q1 q2;rw[e2,k1];refine⟨fun h=>(by cases h),?_⟩;refine CallsIn.mono (iP k2) ?_;rintro e w' (⟨s,u,own2,m1,rfl,m2,m3,m4,m5⟩ | ⟨x,m1,rfl,m4⟩)
    ·exact hK _ _ _ _ (hi.stepe hr hE hnE ho hgE hgo m2 m3 m4).1 (q3 s m1)
    ·exact hZ x own ⟨ungd st.t,st.h⟩ a w' (hi.out.moved (hi.hp.below m4) (tn own m4)) (q4 x m1)
  |yld id args=>
   obtain⟨hd,e0,vs,e1,e2⟩:=h;change (bif args.all (bO 3)then zh id o.dst st next (wg G args (ae st.h id))else False)at hx;cases hb:args.all (bO 3)with
   |false=>rw[hb]at hx;exact hx.elim
   |true=>
    rw[hb]at hx;cases hob:ae st.h id with
    |ab r=>
     rw[hob]at hx;change zh id o.dst st next (G.y args r)at hx
     cases hc:G.y args r with
     |none=>rw[hc]at hx;exact hx.elim
     |some c=>
      rw[hc]at hx;obtain⟨hpre,hx⟩:=hx;have mono:∀ (w':World) a' own2,c.post a'->Hp F own2 w' (bf st.h id (.ab (c.res a').2))->Fr { w:=w,own:=own} own2 w'->K (a.put o.dst (.bool (c.res a').1)) w':=by
       intro w' a' own2 m1 m2 m3;exact hK _ _ _ _ (hi.stepe hr hE hnE ho hgE hgo m2 m3 (.v _)).1 (hx a' m1)
      rcases ya hG hi.hp e0 e1 hb hob hc hpre with⟨f,as,k1,k2⟩ | ⟨l,f,tmps,as,bd,k1,k2⟩
      ·rw[e2,k1];exact⟨fun h=>(by cases h),CallsIn.mono (iP k2) (by rintro e w' ⟨a',own2,m1,rfl,m2,m3⟩;exact mono w' a' own2 m1 m2 m3)⟩
      ·rw[e2,k1];exact⟨fun h=>(by cases h),RoundIn.mono (x7 k2) (by rintro e w' ⟨a',own2,m1,rfl,m2,m3⟩;exact mono w' a' own2 m1 m2 m3)⟩
    |_=>rw[hob]at hx;exact hx.elim
  |pan x=>
   rw[show(execOp a.eval o).run P w=.halt (.panic x) w from h];exact hZ x own ⟨ungd st.t,st.h⟩ a w hi.out hx
 |some g=>
  rw[hg]at hx;have hlt:=hr.lt n o g.1 g.2 ho hg;have hrf:h_ ops g.1:=⟨n,o,g.2,ho,hg⟩;have hjE:E g.1:=hgE g.1 g.2 hg;change stepG G ops g o.dst st next Z (opS ⟨ts,ops,some g,⟨st.t,st.h⟩,st.h.length⟩ o.op)at hx
  refine⟨fun hgo'=>?_,fun hgo'=>?_⟩
  ·have hgo:GOk ops a o.guard:=by rw[hg];exact hgo'
   have hgp:co ops st.t ops.length g:=lR hi n (fun _ _ _ _ _ _ _ _=>rfl) hr.lt _ g hlt hjE hrf hgo';have hnd:∀ c,o.op≠ .defer c:=qJ (cx:=⟨ts,ops,o.guard,st,st.h.length⟩) (fun e=>by rw[hg]at e;rw[show(opS ⟨ts,ops,some g,⟨st.t,st.h⟩,st.h.length⟩ o.op)=.bad from e]at hx;exact sa _ _ hgp hx.1);refine⟨hnd,?_⟩;have hgn:∀ k c,some g=some (k,c)->E k/\h_ ops k:=fun k c e=>by cases e;exact⟨hjE,hrf⟩
   have h:=zB (P:=P) (ts:=ts) (ops:=ops) (g:=some g) (t:=st.t) (h:=st.h) (nx:=st.h.length) hts hi.hp hi.hp.nx (a:=a) (o:=o) (wy hi hgo' hgn) (fun c x y _=>⟨fun hc=>nR hi hgo' hgn c x true hc,fun hc=>nR hi hgo' hgn c y false hc⟩);generalize opS ⟨ts,ops,some g,⟨st.t,st.h⟩,st.h.length⟩ o.op=r at h hx;cases r with
   |bad=>exact(sa _ _ hgp hx.1).elim
   |pan x=>exact hx.elim
   |nxt id=>exact hx.elim
   |amb p=>exact hx.elim
   |val s=>
    obtain⟨u,e1,e2⟩:=h;exact df (.inl e1) (hK _ _ _ _ ((hi.stepv hr hE hnE ho hgE hgo (Below.refl _ _) e2).2 g hg) hx)
   |chk c s=>
    obtain⟨u,e1,e2⟩:=h (hx.1 hgp);exact df (.inl e1) (hK _ _ _ _ ((hi.stepv hr hE hnE ho hgE hgo (Below.refl _ _) e2).2 g hg) hx.2)
   |asm c s=>
    obtain⟨_,u,e1,e2⟩:=h;exact df (.inl e1) (hK _ _ _ _ ((hi.stepv hr hE hnE ho hgE hgo (Below.refl _ _) e2).2 g hg) hx)
   |newr s=>
    obtain⟨u,cs,ty,e1,e2⟩:=h;exact df (.inl e1) (hK _ _ _ _ ((hi.stepv hr hE hnE ho hgE hgo (jG _ _) e2).2 g hg) hx)
   |eff c ac ups s=>
    obtain⟨hc,hx⟩:=hx.1 hgp;obtain⟨ha,u,own',w',e1,e2,e3⟩:=h hc;exact df e1 (hK _ _ _ _ ((hi.stepe hr hE hnE ho hgE hgo e3.hp e3.fr e2).2 g hg) (hx ha))
   |call f args=>
    obtain⟨vs,e1,e2⟩:=h;change sL (args.all (bO 3)) (reach st.h 64 (args.flatMap (dm 3)) []) ops g o.dst st next Z (G.o f (args.map (ren (inN (reach st.h 64 (args.flatMap (dm 3)) [])) 6)) (km st.h (reach st.h 64 (args.flatMap (dm 3)) []))) (G.p f (args.map (dl st.h 6)))at hx
    cases hc:G.p f (args.map (dl st.h 6))with
    |none=>
     rw[hc]at hx;have hids:=tl hi.hp e1;have hn:=jN st.h 64 (args.flatMap (dm 3)) [] List.nodup_nil;generalize reach st.h 64 (args.flatMap (dm 3)) []=ids at hx hids hn;change oL ids ops g o.dst st next Z (G.o f (args.map (ren (inN ids) 6)) (km st.h ids))at hx
     cases ho2:G.o f (args.map (ren (inN ids) 6)) (km st.h ids)with
     |none=>rw[ho2]at hx;exact(sa _ _ hgp hx.1).elim
     |some c=>
      rw[ho2]at hx;obtain⟨hpre,hx⟩:=hx.1 hgp;obtain⟨k1,k2⟩:=x9 hG hi.hp e1 hn ho2 hpre hids;rw[e2,k1];refine⟨fun h=>(by cases h),?_⟩;refine CallsIn.mono (iP k2) ?_;rintro e w' ⟨r,own',hr1,hr2⟩;have hx:=hx r hr1;cases hres:c.res r with
      |ret s h'=>
       rw[hres]at hr2 hx;obtain⟨⟨u,rfl,hrel⟩,hp',hfr⟩:=hr2;exact hK _ _ _ _ ((hi.stepe hr hE hnE ho hgE hgo hp' hfr hrel).2 g hg) hx
      |pan x h'=>
       rw[hres]at hr2 hx;obtain⟨rfl,hp',hfr⟩:=hr2;exact hZ x own' ⟨ungd st.t,gP ids st.h.length st.h 0 h'⟩ a w' (hi.out.moved hp' hfr) hx
    |some c=>
     rw[hc]at hx;cases c with
     |rel=>exact hx.elim
     |may=>exact hx.elim
     |det p s=>
      obtain⟨hp,hx⟩:=hx;cases hb:(args.all (bO 3) ||dW 3 s)&&(av 3 s).isEmpty with
      |false=>rw[hb]at hx;exact hx.elim
      |true=>
       rw[hb]at hx;rw[Bool.and_eq_true,Bool.or_eq_true]at hb;obtain⟨k1,k2⟩:=wD (P:=P) hG hi.hp e1 hc (hp hgp) (hb.1.imp id (fun h s' hs'=>by cases hs';exact h));rw[e2,k1];refine⟨fun h=>(by cases h),?_⟩;refine CallsIn.mono (iP k2) ?_;rintro e w' (⟨s',u,own2,rfl,rfl,m2,m3,m4,m5⟩ | ⟨x,m1,_⟩)
       ·have hz:av 3 s'=[]:=List.isEmpty_iff.1 hb.2;rw[hz,List.append_nil]at m2;rw[rz 3 _ s' hz]at m4;exact hK _ _ _ _ ((hi.stepe hr hE hnE ho hgE hgo m2 m3 m4).2 g hg) hx
       ·exact m1.elim
   |yld id args=>
    obtain⟨hd,e0,vs,e1,e2⟩:=h;change (bif args.all (bO 3)then xF id ops g o.dst st next (wg G args (ae st.h id))else False)at hx;cases hb:args.all (bO 3)with
    |false=>rw[hb]at hx;exact hx.elim
    |true=>
     rw[hb]at hx;cases hob:ae st.h id with
     |ab r=>
      rw[hob]at hx;change xF id ops g o.dst st next (G.y args r)at hx
      cases hc:G.y args r with
      |none=>rw[hc]at hx;exact hx.elim
      |some c=>
       rw[hc]at hx;obtain⟨hpre,hx⟩:=hx.1 hgp;have mono:∀ (w':World) a' own2,c.post a'->Hp F own2 w' (bf st.h id (.ab (c.res a').2))->Fr { w:=w,own:=own} own2 w'->K (a.put o.dst (.bool (c.res a').1)) w':=by
        intro w' a' own2 m1 m2 m3;exact hK _ _ _ _ ((hi.stepe hr hE hnE ho hgE hgo m2 m3 (.v _)).2 g hg) (hx a' m1)
       rcases ya hG hi.hp e0 e1 hb hob hc hpre with⟨f,as,k1,k2⟩ | ⟨l,f,tmps,as,bd,k1,k2⟩
       ·rw[e2,k1];exact⟨fun h=>(by cases h),CallsIn.mono (iP k2) (by rintro e w' ⟨a',own2,m1,rfl,m2,m3⟩;exact mono w' a' own2 m1 m2 m3)⟩
       ·rw[e2,k1];exact⟨fun h=>(by cases h),RoundIn.mono (x7 k2) (by rintro e w' ⟨a',own2,m1,rfl,m2,m3⟩;exact mono w' a' own2 m1 m2 m3)⟩
     |_=>rw[hob]at hx;exact hx.elim
  ·have hgo:¬GOk ops a o.guard:=by rw[hg];exact hgo'
   have hgN:dD ops st.t ops.length g:=qH hi _ g hjE hrf hgo';have hskip:=fun s=>hi.skip hr hE hnE ho hgE hgo hg (s:=s);generalize opS ⟨ts,ops,some g,⟨st.t,st.h⟩,st.h.length⟩ o.op=r at hx;cases r with
   |bad=>exact hK _ _ _ _ (hskip .any) hx.2
   |pan x=>exact hx.elim
   |nxt id=>exact hx.elim
   |amb p=>exact hx.elim
   |val s=>exact hK _ _ _ _ (hskip _) hx
   |chk c s=>exact hK _ _ _ _ (hskip _) hx.2
   |asm c s=>exact hK _ _ _ _ (hskip _) hx
   |newr s=>exact hK _ _ _ _ (hskip _) hx
   |eff c ac ups s=>exact hK _ _ _ _ (hskip _) (hx.2 hgN)
   |call f args=>
    change sL (args.all (bO 3)) (reach st.h 64 (args.flatMap (dm 3)) []) ops g o.dst st next Z (G.o f (args.map (ren (inN (reach st.h 64 (args.flatMap (dm 3)) [])) 6)) (km st.h (reach st.h 64 (args.flatMap (dm 3)) []))) (G.p f (args.map (dl st.h 6)))at hx
    cases hc:G.p f (args.map (dl st.h 6))with
    |none=>
     rw[hc]at hx;generalize reach st.h 64 (args.flatMap (dm 3)) []=ids at hx;change oL ids ops g o.dst st next Z (G.o f (args.map (ren (inN ids) 6)) (km st.h ids))at hx
     cases ho2:G.o f (args.map (ren (inN ids) 6)) (km st.h ids)with
     |none=>rw[ho2]at hx;exact hK _ _ _ _ (hskip .any) hx.2
     |some c=>
      rw[ho2]at hx;exact hK _ _ _ _ (hskip .any) (hx.2 hgN)
    |some c=>
     rw[hc]at hx;cases c with
     |rel=>exact hx.elim
     |may=>exact hx.elim
     |det p s=>
      obtain⟨hp,hx⟩:=hx;cases hb:(args.all (bO 3) ||dW 3 s)&&(av 3 s).isEmpty with
      |false=>rw[hb]at hx;exact hx.elim
      |true=>rw[hb]at hx;exact hK _ _ _ _ (hskip _) hx
   |yld id args=>
    change (bif args.all (bO 3)then xF id ops g o.dst st next (wg G args (ae st.h id))else False)at hx;cases hb:args.all (bO 3)with
    |false=>rw[hb]at hx;exact hx.elim
    |true=>
     rw[hb]at hx;cases hc:wg G args (ae st.h id)with
     |none=>rw[hc]at hx;exact hx.elim
     |some c=>rw[hc]at hx;exact hK _ _ _ _ (hskip .any) (hx.2 hgN)
theorem SInv.congr {E E':Nat->Prop}(h:∀ k,E k↔E' k){st:St}(hi:SInv F w0 N ops E own st a w):SInv F w0 N ops E' own st a w:=by
 have:E=E':=funext fun k=>propext (h k);subst this;exact hi
theorem SInv.all {st:St}(hr:ROk N ops){n:Nat}(hn:ops.length<=n)(hi:SInv F w0 N ops (· <n) own st a w):SInv F w0 N ops (· <ops.length) own st a w:=by
 refine⟨hi.size,hi.defers,hi.hp,hi.fr,fun t=>?_,fun k o d j b s hk=>hi.tags k o d j b s (by omega),fun k o j b hk hq hg=>by have:=hr.lt k o j b hq hg;omega,fun k o b hk hrf hq hy=>hi.chain k o b (by omega) hrf hq hy⟩;have:=hi.slots t;cases hs:lk t st.t with
 |gd j b s=>
  rw[hs]at this;obtain⟨_,⟨i,o,b',h1,h2⟩,h3⟩:=this;exact⟨by have:=hr.lt i o j b' h1 h2;have:=(List.getElem?_eq_some_iff.1 h1).1;omega,⟨i,o,b',h1,h2⟩,h3⟩
 |_=>rw[hs]at this;exact this
theorem wF {ts:Tis}{G:Cons}{ops:List Oper}{o:Oper}{rest:List Oper}{st:St}{K:St->Prop}{Z:Value->St->Prop}(h:eP ts G ops (o::rest) st K Z):
  AY G ops o.dst st (fun st'=>eP ts G ops rest st' K Z) Z o.guard (opS ⟨ts,ops,o.guard,st,st.h.length⟩ o.op):=by
 simp only[eP]at h;cases hg:o.guard <;>rw[hg]at h <;>exact h
theorem zD (hts:ts.ok P)(hG:ConsOk P G)(hr:ROk N ops){Q:Exit->Act->World->Prop}{K:St->Prop}{Z:Value->St->Prop}(hZ:∀ x own st a w,StRel F w0 N own st a w->Z x st->Q (.panic [{ v:=x,recovered:=false}]) a w):
  ∀ (rest:List Oper) (n:Nat) (own:Own) (st:St) (a:Act) (w:World),ops.drop n=rest->SInv F w0 N ops (· <n) own st a w->eP ts G ops rest st K Z->
  (∀ own st a w,SInv F w0 N ops (· <ops.length) own st a w->K st->Q .normal a w)->wpListIn (rd ro) nd P ops.toArray Q rest a w
 | [],n,own,st,a,w,hd,hi,hx,hK=>by
  have hn:ops.length<=n:=by
   have:=congrArg List.length hd;simp at this;omega
  exact hK own st a w (hi.all hr hn) hx
 |o::rest,n,own,st,a,w,hd,hi,hx,hK=>by
  obtain⟨ho,hd'⟩:=tj hd;have ih:=fun own' st' a' w' (hi':SInv F w0 N ops (· <n+1) own' st' a' w') hx'=>zD hts hG hr hZ rest (n+1) own' st' a' w' hd' hi' hx' hK;obtain⟨h1,h2⟩:=AZ (ro:=ro) (nd:=nd) hts hG hr (lr n) (Nat.lt_irrefl n) ho (fun j b e=>hr.lt n o j b ho e) hi hZ (wF hx) ih;by_cases hgo:GOk ops a o.guard
  ·obtain⟨hnd,h1⟩:=h1 hgo;unfold wpListIn;rw[if_pos (gI.2 hgo)];refine⟨fun _ _=>trivial,?_⟩;rw[Oper.semAt_eq _ _ _ hnd];exact h1
  ·have hw:Region.wanted o (yielded ops.toArray a.tmps)=false:=by
    cases hb:Region.wanted o (yielded ops.toArray a.tmps)with
    |false=>rfl
    |true=>exact absurd (gI.1 hb) hgo
   unfold wpListIn;rw[if_neg (by simp[hw])];exact⟨fun _ _=>trivial,h2 hgo⟩
end
def M_ (o:Ob):Prop:=o=.dead\/o=.fwd none
def ObUp (o o':Ob):Prop:=o=o'\/(∃ (kk vk:Tag) (l:List (kk.T×vk.T)) (p p':Option (Nat×Option kk.T)),o=.mp kk vk l p/\o'=.mp kk vk l p')\/(M_ o/\M_ o')
theorem ObUp.refl (o:Ob):ObUp o o:=.inl rfl
theorem ObUp.symm {a b:Ob}(h:ObUp a b):ObUp b a:=by
 rcases h with rfl| ⟨kk,vk,l,p,p',e1,e2⟩ | ⟨h1,h2⟩
 ·exact .inl rfl
 ·exact .inr (.inl ⟨kk,vk,l,p',p,e2,e1⟩)
 ·exact .inr (.inr ⟨h2,h1⟩)
theorem ObUp.trans {a b c:Ob}(h:ObUp a b)(h':ObUp b c):ObUp a c:=by
 rcases h with rfl| ⟨kk,vk,l,p,p',e1,e2⟩ | ⟨h1,h2⟩
 ·exact h'
 ·rcases h' with rfl| ⟨kk',vk',l',q,q',e3,e4⟩ | ⟨h3,h4⟩
  ·exact .inr (.inl ⟨kk,vk,l,p,p',e1,e2⟩)
  ·rw[e2]at e3;cases e3;exact .inr (.inl ⟨kk,vk,l,p,q',e1,e4⟩)
  ·rw[e2]at h3;rcases h3 with h3|h3 <;>cases h3
 ·rcases h' with rfl| ⟨kk',vk',l',q,q',e3,e4⟩ | ⟨h3,h4⟩
  ·exact .inr (.inr ⟨h1,h2⟩)
  ·rw[e3]at h2;rcases h2 with h2|h2 <;>cases h2
  ·exact .inr (.inr ⟨h1,h4⟩)
theorem u_ (a b:List Up):c8 (a++b)=c8 a++c8 b:=by
 induction a with
 |nil=>rfl
 |cons x r ih=>simp[c8,ih]
section
variable {h h':List Ob}
theorem yb (ti:TI){s:SV}(hh:∀ id∈du s,ae h id=ae h' id):jE ti h s=jE ti h' s:=by
 cases s <;>first|rfl|(simp only[du,List.mem_singleton,forall_eq]at hh;simp only[jE,hh])
theorem pF (n:Nat){s:SV}(l:Option (List SV))(hh:∀ id∈du s,ae h id=ae h' id):jZ n h s l=jZ n h' s l:=by
 cases l <;>cases s <;>first|rfl|(simp only[du,List.mem_singleton,forall_eq]at hh;simp only[jZ,hh])
theorem wG (n nx:Nat){s sx:SV}(hh:∀ id∈du s++du sx,ae h id=ae h' id):j5 n nx h s sx=j5 n nx h' s sx:=by
 have h1:∀ id∈du s,ae h id=ae h' id:=fun id hi=>hh id (List.mem_append_left _ hi);unfold j5;split
 ·rename_i sz id i off rid;have e1:=h1 id (by simp[du]);have e2:=hh rid (by simp[du]);rw[e1,pF n _ h1];cases ae h' id with
  |grid k l=>simp only[sC,e2]
  |_=>rfl
 ·exact pF _ _ h1
theorem wH (ti:TI)(n:Nat){s:SV}(i:SV)(hh:∀ id∈du s,ae h id=ae h' id):d6 ti n h s i=d6 ti n h' s i:=by
 cases i with
 |v x=>cases x <;>cases s <;>first|rfl|(simp only[du,List.mem_singleton,forall_eq]at hh;simp only[d6,hh])
 |_=>cases s <;>rfl
theorem wI (ti:TI)(n nx:Nat){s:SV}(lo hi:Option SV)(vq:Bool)(hh:∀ id∈du s,ae h id=ae h' id):gR ti n nx h lo hi vq s=gR ti n nx h' lo hi vq s:=by
 cases s <;>first|rfl|(simp only[du,List.mem_singleton,forall_eq]at hh;simp only[gR,hh])
theorem yc (ti:TI)(ok:Bool)(key:SV){s:SV}(hh:∀ id∈du s,ae h id=ae h' id):lg ti h ok key s=lg ti h' ok key s:=by
 cases s <;>first|rfl|(rename_i x;cases x <;>first|rfl|(rename_i y;cases y <;>rfl)) |(simp only[du,List.mem_singleton,forall_eq]at hh;simp only[lg,hh])
theorem zF (ti:TI)(key:SV){s:SV}(hh:∀ id∈du s,ObUp (ae h id) (ae h' id)):lg ti h false key s=lg ti h' false key s:=by
 cases s with
 |os id=>
  simp only[du,List.mem_singleton,forall_eq]at hh;simp only[lg];rcases hh with e| ⟨kk,vk,l,p,p',e1,e2⟩ | ⟨h1,h2⟩
  ·rw[e]
  ·rw[e1,e2];simp only[xC,Bool.not_false,Bool.true_or]
  ·rcases h1 with h1|h1 <;>rcases h2 with h2|h2 <;>rw[h1,h2] <;>rfl
 |v x=>cases x <;>first|rfl|(rename_i y;cases y <;>rfl)
 |_=>rfl
theorem tp (ti:TI)(key v:SV){s:SV}(hh:∀ id∈du s,ae h id=ae h' id):rO ti h key v s=rO ti h' key v s:=by
 cases s <;>first|rfl|(simp only[du,List.mem_singleton,forall_eq]at hh;simp only[rO,hh])
theorem zG (ti:TI)(nx:Nat){h h':List Ob}{s:SV}(h1:∀ id∈du s,ae h id=ae h' id):sI ti nx h s=sI ti nx h' s:=by
 cases s with
 |os id=>simp only[sI];rw[h1 id (by simp[du])]
 |_=>rfl
theorem yd {h h':List Ob}{s:SV}(h1:∀ id∈du s++Dg h s,ae h id=ae h' id):rh h s=rh h' s:=by
 cases s with
 |ptr id off=>
  cases off with
  |zero=>
   have e:=h1 id (by simp[du]);simp only[rh];rw[<-e];cases ho:ae h id with
   |mi mid n left cur=>
    cases mid with
    |none=>rfl
    |some mid=>
     cases cur with
     |none=>rfl
     |some j=>
      simp only[AL];rw[h1 mid (by simp[Dg,ho,Df])]
   |_=>rfl
  |succ n=>rfl
 |_=>rfl
theorem zH (ti:TI)(nx:Nat)(key:SV){s:SV}(hh:∀ id∈du s,ae h id=ae h' id):od ti nx h key s=od ti nx h' key s:=by
 cases s <;>first|rfl|(simp only[du,List.mem_singleton,forall_eq]at hh;simp only[od,hh])
theorem zI (ti:TI)(v:SV){s:SV}(n:SV)(hh:∀ id∈du s,ae h id=ae h' id):wc ti h v s n=wc ti h' v s n:=by
 cases n with
 |os x=>cases s <;>first|rfl|(simp only[du,List.mem_singleton,forall_eq]at hh;simp only[wc,hh])
 |_=>cases s <;>rfl
theorem zJ (ti te:TI)(l:List SV)(hh:∀ id∈jg l,ae h id=ae h' id):oJ ti te h l=oJ ti te h' l:=by
 match l with
 | [] =>rfl
 | [x] =>cases x <;>first|rfl|(simp only[oJ];rw[hh _ (by simp[jg,wd,du])])
 |x::_::_=>cases x <;>rfl
theorem zK (ti:TI)(l:List SV)(hh:∀ id∈jg l,ae h id=ae h' id):oK ti h l=oK ti h' l:=by
 match l with
 | [] =>rfl
 | [x] =>cases x <;>rfl
 | [x,y] =>cases x <;>first|rfl|(simp only[oK];rw[hh _ (by simp[jg,wd,du])])
 |x::_::_::_=>cases x <;>rfl
theorem zL (ti:TI)(l:List SV)(hh:∀ id∈jg l,ae h id=ae h' id):lD ti h l=lD ti h' l:=by
 match l with
 | [] =>rfl
 | [x] =>
  cases x <;>first|rfl|(rename_i y;cases y <;>first|rfl|(rename_i a n c;cases a <;>cases n <;>cases c <;>rfl)) |(simp only[jg,wd,du,List.append_nil,List.mem_singleton,forall_eq]at hh;simp only[lD,hh])
 |x::_::_=>cases x <;>first|rfl|(rename_i y;cases y <;>first|rfl|(rename_i a n c;cases a <;>cases n <;>cases c <;>rfl))
theorem wJ (id:Nat)(r:List SV):id∈jg (.os id::r):=by simp[jg,wd,du]
theorem A0 (x:SV)(id:Nat)(r:List SV):id∈jg (x:: .ls [.os id]::r):=by simp[jg,wd]
theorem DI (x:SV)(id:Nat)(r:List SV):id∈jg (x:: .os id::r):=by simp[jg,wd,du]
theorem DJ (x:SV)(s id:Nat)(lo hi:Int)(r:List SV):id∈jg (x:: .vw s id lo hi::r):=by simp[jg,wd,du]
theorem tq (k:Tag)(x s:SV)(r:List SV)(hh:∀ id∈jg (x::s::r),ae h id=ae h' id):la k h s=la k h' s:=by
 cases s with
 |os id=>simp only[la];rw[hh id (DI x id r)]
 |vw s id lo hi=>simp only[la];rw[hh id (DJ x s id lo hi r)]
 |v y=>cases y <;>first|rfl|(rename_i a n c;cases a <;>cases n <;>cases c <;>rfl)
 |_=>rfl
theorem zM (te:TI)(nx:Nat)(l:List SV)(hh:∀ id∈jg l,ae h id=ae h' id):gE te nx h l=gE te nx h' l:=by
 have hO:∀ (kill:List Up) (s x:SV) (o:Ob),(∀ id∈jg [x,s],ae h id=ae h' id)->mn te nx kill h s o=mn te nx kill h' s o:=by
  intro kill s x o hh;cases o with
  |row k l=>simp only[mn];rw[tq k x s [] hh]
  |_=>rfl
 have hGo:∀ (id2:Nat) (kill:List Up) (o:Ob),ae h id2=ae h' id2->rg nx te.bytes h id2 kill o=rg nx te.bytes h' id2 kill o:=by
  intro id2 kill o e;cases o with
  |grid k l=>simp only[rg,e]
  |_=>rfl
 have hT:∀ (s x:SV) (o:Option Tag),(∀ id∈jg [x,s],ae h id=ae h' id)->mo te nx h s o=mo te nx h' s o:=by
  intro s x o hh;cases o with
  |none=>rfl
  |some k=>exact hO [] s x (.row k []) hh
 unfold gE;split
 ·rename_i id id2;rw[hGo id2 _ _ (hh id2 (A0 _ _ _)),hh id (wJ _ _)]
 ·rename_i id2;rw[hh id2 (A0 _ _ _)]
 ·rename_i id id2;rw[hO _ (.os id2) _ _ hh,hh id (wJ _ _)]
 ·rename_i id s _ _;rw[hO _ s _ _ hh,hh id (wJ _ _)]
 ·rename_i s _;exact hT s _ _ hh
 ·rename_i s;exact hT s _ _ hh
 ·rename_i k l s;unfold BH;rw[tq k _ s [] hh]
 ·rfl
end
theorem kS {ts:Tis}{ops:List Oper}{g:Option (Nat×Bool)}{h h':List Ob}{nx nx':Nat}{t t':List (Nat×SV)}:∀ (l:List Operand),(∀ x∈l,raw t x=raw t' x)->bT ⟨ts,ops,g,⟨t,h⟩,nx⟩ l=bT ⟨ts,ops,g,⟨t',h'⟩,nx'⟩ l
 | [],_=>rfl
 |x::r,hx=>by
  simp only[bT];rw[kS r fun y hy=>hx y (by simp[hy])];have:val ⟨ts,ops,g,⟨t,h⟩,nx⟩ x=val ⟨ts,ops,g,⟨t',h'⟩,nx'⟩ x:=by show aO ops g (raw t x)=aO ops g (raw t' x);rw[hx x (by simp)]
  rw[this]
theorem lu {ts:Tis}{ops:List Oper}{g:Option (Nat×Bool)}{h h':List Ob}{nx nx':Nat}{t t':List (Nat×SV)}:∀ (l:List (Nat×Operand)),(∀ x∈l,raw t x.2=raw t' x.2)->dP ⟨ts,ops,g,⟨t,h⟩,nx⟩ l=dP ⟨ts,ops,g,⟨t',h'⟩,nx'⟩ l
 | [],_=>rfl
 |(i,x)::r,hx=>by
  simp only[dP];rw[lu r fun y hy=>hx y (by simp[hy])];have:val ⟨ts,ops,g,⟨t,h⟩,nx⟩ x=val ⟨ts,ops,g,⟨t',h'⟩,nx'⟩ x:=by show aO ops g (raw t x)=aO ops g (raw t' x);rw[hx (i,x) (by simp)]
  rw[this]
theorem kT {ts:Tis}{ops:List Oper}{g:Option (Nat×Bool)}{h h':List Ob}{nx nx':Nat}{t t':List (Nat×SV)}(o:Option Operand)(hx:∀ x∈o,raw t x=raw t' x):iG ⟨ts,ops,g,⟨t,h⟩,nx⟩ o=iG ⟨ts,ops,g,⟨t',h'⟩,nx'⟩ o:=by
 cases o with
 |none=>rfl
 |some x=>show some (aO ops g (raw t x))=some (aO ops g (raw t' x));rw[hx x rfl]
theorem Ce {ts:Tis}{ops:List Oper}{g:Option (Nat×Bool)}{h h':List Ob}{nx:Nat}{t t':List (Nat×SV)}(op:Op)(hx:∀ x∈op.operands.toList,raw t x=raw t' x)
  (h1:∀ id∈(fpO ⟨ts,ops,g,⟨t,h⟩,nx⟩ op).1,ae h id=ae h' id) (h2:∀ id∈(fpO ⟨ts,ops,g,⟨t,h⟩,nx⟩ op).2,ObUp (ae h id) (ae h' id)):
  opS ⟨ts,ops,g,⟨t,h⟩,nx⟩ op=opS ⟨ts,ops,g,⟨t',h'⟩,nx⟩ op:=by
 have hv:∀ x∈op.operands.toList,val ⟨ts,ops,g,⟨t',h'⟩,nx⟩ x=val ⟨ts,ops,g,⟨t,h⟩,nx⟩ x:=fun x hm=>by
  show aO ops g (raw t' x)=aO ops g (raw t x);rw[hx x hm]
 cases op with
 |call c=>
  obtain⟨callee,args,tys⟩:=c;have ha:bT ⟨ts,ops,g,⟨t',h'⟩,nx⟩ args.toList=bT ⟨ts,ops,g,⟨t,h⟩,nx⟩ args.toList:=(kS _ fun x hm=>hx x (by simp[Op.operands,Call.operands];right;simpa using hm)).symm;cases callee with
  |value f=>
   have hf:=hv f (by simp[Op.operands,Call.operands]);show pf _ _=pf _ _;rw[ha,hf]
  |invoke f m=>rfl
  |builtin b=>
   cases b <;>first|rfl|skip
   ·show(match tys.toList with| [t1,t2] =>an ts t1 fun ti=>an ts t2 fun ti2=>an ts ti.elem fun te=>bif ti.isSlice&&ti2.isSlice then gE te nx h (bT ⟨ts,ops,g,⟨t,h⟩,nx⟩ args.toList)else .bad|_=>.bad)=(match tys.toList with| [t1,t2] =>an ts t1 fun ti=>an ts t2 fun ti2=>an ts ti.elem fun te=>bif ti.isSlice&&ti2.isSlice then gE te nx h' (bT ⟨ts,ops,g,⟨t',h'⟩,nx⟩ args.toList)else .bad|_=>.bad);rw[ha];have e:∀ te:TI,gE te nx h (bT ⟨ts,ops,g,⟨t,h⟩,nx⟩ args.toList)=gE te nx h' (bT ⟨ts,ops,g,⟨t,h⟩,nx⟩ args.toList):=fun te=>zM te nx _ h1;simp only[e]
   ·show(match tys.toList with| [t1] =>an ts t1 fun ti=>an ts ti.elem fun te=>oJ ti te h (bT ⟨ts,ops,g,⟨t,h⟩,nx⟩ args.toList) |_=>.bad)=(match tys.toList with| [t1] =>an ts t1 fun ti=>an ts ti.elem fun te=>oJ ti te h' (bT ⟨ts,ops,g,⟨t',h'⟩,nx⟩ args.toList) |_=>.bad);rw[ha];have e:∀ ti te:TI,oJ ti te h (bT ⟨ts,ops,g,⟨t,h⟩,nx⟩ args.toList)=oJ ti te h' (bT ⟨ts,ops,g,⟨t,h⟩,nx⟩ args.toList):=fun ti te=>zJ ti te _ h1;simp only[e]
   ·show(match tys.toList with|t1::_=>an ts t1 fun ti=>oK ti h (bT ⟨ts,ops,g,⟨t,h⟩,nx⟩ args.toList) |_=>.bad)=(match tys.toList with|t1::_=>an ts t1 fun ti=>oK ti h' (bT ⟨ts,ops,g,⟨t',h'⟩,nx⟩ args.toList) |_=>.bad);rw[ha];have e:∀ ti:TI,oK ti h (bT ⟨ts,ops,g,⟨t,h⟩,nx⟩ args.toList)=oK ti h' (bT ⟨ts,ops,g,⟨t,h⟩,nx⟩ args.toList):=fun ti=>zK ti _ h1;simp only[e]
   ·show(match tys.toList with| [t''] =>an ts t'' fun ti=>lD ti h (bT ⟨ts,ops,g,⟨t,h⟩,nx⟩ args.toList) |_=>.bad)=(match tys.toList with| [t''] =>an ts t'' fun ti=>lD ti h' (bT ⟨ts,ops,g,⟨t',h'⟩,nx⟩ args.toList) |_=>.bad);rw[ha];have e:∀ ti:TI,lD ti h (bT ⟨ts,ops,g,⟨t,h⟩,nx⟩ args.toList)=lD ti h' (bT ⟨ts,ops,g,⟨t,h⟩,nx⟩ args.toList):=fun ti=>zL ti _ h1;simp only[e]
   ·show wb _=wb _;rw[ha]
   ·show wa _=wa _;rw[ha]
 |build ty parts=>
  have ha:dP ⟨ts,ops,g,⟨t',h'⟩,nx⟩ parts.toList=dP ⟨ts,ops,g,⟨t,h⟩,nx⟩ parts.toList:=(lu _ fun x hm=>hx x.2 (by simp[Op.operands];exact⟨x.1,by simpa using hm⟩)).symm;simp only[opS,ha]
 |buildSlice ty n parts=>
  have ha:dP ⟨ts,ops,g,⟨t',h'⟩,nx⟩ parts.toList=dP ⟨ts,ops,g,⟨t,h⟩,nx⟩ parts.toList:=(lu _ fun x hm=>hx x.2 (by simp[Op.operands];exact⟨x.1,by simpa using hm⟩)).symm;simp only[opS,ha]
 |makeFunc fn first caps=>
  have ha:bT ⟨ts,ops,g,⟨t',h'⟩,nx⟩ caps.toList=bT ⟨ts,ops,g,⟨t,h⟩,nx⟩ caps.toList:=(kS _ fun x hm=>hx x (by simp[Op.operands];right;simpa using hm)).symm;have hb:bT ⟨ts,ops,g,⟨t',h'⟩,nx⟩ first.toList=bT ⟨ts,ops,g,⟨t,h⟩,nx⟩ first.toList:=(kS _ fun x hm=>hx x (by simp[Op.operands];left;simpa using hm)).symm
  simp only[opS,ha,hb]
 |pick c x y=>
  have h1:=hx c (by simp[Op.operands]);have h2:=hx x (by simp[Op.operands]);have h3:=hx y (by simp[Op.operands]);have h4:=hv c (by simp[Op.operands]);simp only[opS,h2,h3,h4]
 |move x=>simp only[opS,hv x (by simp[Op.operands])]
 |assign x=>simp only[opS,hv x (by simp[Op.operands])]
 |box ty x=>simp only[opS,hv x (by simp[Op.operands])]
 |load ty x=>
  simp only[opS,hv x (by simp[Op.operands])];exact congrArg _ (funext fun ti=>yb ti h1)
 |store ty x y=>
  simp only[opS,hv x (by simp[Op.operands]),hv y (by simp[Op.operands])];exact congrArg _ (funext fun ti=>wG _ _ h1)
 |nilCheck x=>simp only[opS,hv x (by simp[Op.operands])]
 |binOp op xt x y yt=>simp only[opS,hv x (by simp[Op.operands]),hv y (by simp[Op.operands])]
 |unOp op xt x=>simp only[opS,hv x (by simp[Op.operands])]
 |convert a b x=>simp only[opS,hv x (by simp[Op.operands])]
 |panic x=>simp only[opS,hv x (by simp[Op.operands])]
 |makeInterface ty x=>simp only[opS,hv x (by simp[Op.operands])]
 |typeAssert x st ty ok=>simp only[opS,hv x (by simp[Op.operands])]
 |fieldAddr ty x f=>simp only[opS,hv x (by simp[Op.operands])]
 |field ty x f=>simp only[opS,hv x (by simp[Op.operands])]
 |indexAddr ty x y=>
  simp only[opS,hv x (by simp[Op.operands]),hv y (by simp[Op.operands])];exact congrArg _ (funext fun ti=>congrArg _ (funext fun te=>wH _ _ _ h1))
 |extract x i=>simp only[opS,hv x (by simp[Op.operands])]
 |makeSlice ty n c=>simp only[opS,hv n (by simp[Op.operands]),hv c (by simp[Op.operands])]
 |slice ty x lo hi mx=>
  cases mx with
  |some m=>
   have e1:iG ⟨ts,ops,g,⟨t',h'⟩,nx⟩ lo=iG ⟨ts,ops,g,⟨t,h⟩,nx⟩ lo:=(kT lo fun y hy=>hx y (by simp[Op.operands];cases hy;simp)).symm;have e2:iG ⟨ts,ops,g,⟨t',h'⟩,nx⟩ hi=iG ⟨ts,ops,g,⟨t,h⟩,nx⟩ hi:=(kT hi fun y hy=>hx y (by simp[Op.operands];cases hy;simp)).symm;simp only[opS,hv x (by simp[Op.operands]),hv m (by simp[Op.operands]),e1,e2]
  |none=>
   have e1:iG ⟨ts,ops,g,⟨t',h'⟩,nx⟩ lo=iG ⟨ts,ops,g,⟨t,h⟩,nx⟩ lo:=(kT lo fun y hy=>hx y (by simp[Op.operands];cases hy;simp)).symm;have e2:iG ⟨ts,ops,g,⟨t',h'⟩,nx⟩ hi=iG ⟨ts,ops,g,⟨t,h⟩,nx⟩ hi:=(kT hi fun y hy=>hx y (by simp[Op.operands];cases hy;simp)).symm;simp only[opS,hv x (by simp[Op.operands]),e1,e2];exact congrArg _ (funext fun ti=>congrArg _ (funext fun te=>wI _ _ _ _ _ _ h1))
 |makeMap ty n=>cases n <;>rfl
 |lookup ty m k ok=>
  simp only[opS,hv m (by simp[Op.operands]),hv k (by simp[Op.operands])];refine congrArg _ (funext fun ti=>?_);cases ok with
  |true=>exact yc ti _ _ h1
  |false=>exact zF ti _ h2
 |mapUpdate ty m k v=>
  simp only[opS,hv m (by simp[Op.operands]),hv k (by simp[Op.operands]),hv v (by simp[Op.operands])];exact congrArg _ (funext fun ti=>tp ti _ _ h1)
 |insert ty m k v=>
  simp only[opS,hv m (by simp[Op.operands]),hv k (by simp[Op.operands]),hv v (by simp[Op.operands])];exact congrArg _ (funext fun ti=>tp ti _ _ h1)
 |mapEntry ty m k=>
  simp only[opS,hv m (by simp[Op.operands]),hv k (by simp[Op.operands])];exact congrArg _ (funext fun ti=>zH ti _ _ h1)
 |entryStore ty m s v=>
  simp only[opS,hv m (by simp[Op.operands]),hv s (by simp[Op.operands]),hv v (by simp[Op.operands])];exact congrArg _ (funext fun ti=>zI ti _ _ h1)
 |range ty x=>
  simp only[opS,hv x (by simp[Op.operands])];exact congrArg _ (funext fun ti=>zG ti nx h1)
 |next it isS=>cases isS <;>simp only[opS,hv it (by simp[Op.operands])]
 |entry it=>
  simp only[opS,hv it (by simp[Op.operands])];exact yd h1
 |_=>rfl
structure DOk (ops:List Oper):Prop where
 back:∀ (i:Nat) (o:Oper) (e:Edge),ops[i]? =some o->e∈o.after->Region.binds .any e=true->e.on<i
 uniq:∀ (i k:Nat) (o q:Oper) (d:Nat),ops[i]? =some o->ops[k]? =some q->o.dst=some d->q.dst=some d->i=k
 look:∀ (i k:Nat) (o q:Oper) (d:Nat),ops[i]? =some o->ops[k]? =some q->q.dst=some d->d∈o.looksAt ops.toArray->k=i\/(k<i/\jk o k=true)\/(i<k/\jk q i=true)
theorem I6 {ops:List Oper}(h:zj ops.toArray=true):DOk ops:=by
 have h':∀ (i:Nat) (o:Oper),ops[i]? =some o->(o.after.toList.all fun e=>!(Region.binds .any e) ||Nat.blt e.on i)=true/\
   ∀ (k:Nat) (q:Oper),ops[k]? =some q->∀ d,q.dst=some d->(Nat.beq k i|| !(o.dst==some d))=true/\(!((o.looksAt ops.toArray).contains d) ||Nat.beq k i||(Nat.blt k i&&jk o k) ||(Nat.blt i k&&jk q i))=true:=by
  intro i o ho;unfold zj at h;rw[List.all_eq_true]at h;have:=h i (by simpa using (List.getElem?_eq_some_iff.1 ho).1);simp only[dx,ho,Bool.and_eq_true]at this;refine⟨this.1,fun k q hq d hd=>?_⟩;have h2:=this.2;rw[List.all_eq_true]at h2;have:=h2 k (by simpa using (List.getElem?_eq_some_iff.1 hq).1);simp only[hq,hd,Bool.and_eq_true]at this;exact this
 refine⟨fun i o e ho he hb=>?_,fun i k o q d ho hq hd hqd=>?_,fun i k o q d ho hq hd hm=>?_⟩
 ·have:=(h' i o ho).1;rw[List.all_eq_true]at this;have:=this e (by simpa using he);simp only[hb,Bool.not_true,Bool.false_or]at this;exact nbl this
 ·have:=((h' i o ho).2 k q hq d hqd).1;simp only[hd,beq_self_eq_true,Bool.not_true,Bool.or_false]at this;exact(Nat.eq_of_beq_eq_true this).symm
 ·have:=((h' i o ho).2 k q hq d hd).2;have hc:(o.looksAt ops.toArray).contains d=true:=by simpa using hm
  simp only[hc,Bool.not_true,Bool.false_or,Bool.or_eq_true,Bool.and_eq_true]at this;rcases this with(h1|h1) |h1
  ·exact .inl (Nat.eq_of_beq_eq_true h1)
  ·exact .inr (.inl ⟨nbl h1.1,h1.2⟩)
  ·exact .inr (.inr ⟨nbl h1.1,h1.2⟩)
theorem I7 {ts:Tis}{ops:List Oper}{g:Option (Nat×Bool)}{st:St}{nx nx':Nat}{op:Op}{r:OR}(h:opS ⟨ts,ops,g,st,nx⟩ op=r)(hn:∀ c a ups s,r=.eff c a ups s->nx ∉ c8 ups):opS ⟨ts,ops,g,st,nx'⟩ op=r:=by
 have hv:∀ x,val ⟨ts,ops,g,st,nx'⟩ x=val ⟨ts,ops,g,st,nx⟩ x:=fun x=>rfl;have hvs:∀ l,bT ⟨ts,ops,g,st,nx'⟩ l=bT ⟨ts,ops,g,st,nx⟩ l:=fun l=>kS l fun _ _=>rfl;have hps:∀ l,dP ⟨ts,ops,g,st,nx'⟩ l=dP ⟨ts,ops,g,st,nx⟩ l:=fun l=>lu l fun _ _=>rfl;have hvo:∀ o,iG ⟨ts,ops,g,st,nx'⟩ o=iG ⟨ts,ops,g,st,nx⟩ o:=fun o=>kT o fun _ _=>rfl;have hT:∀ (t:TypeId) (k k':TI->OR),an ts t k=r->(∀ ti,k ti=r->k' ti=r)->an ts t k'=r:=by
  intro t k k' e hk;unfold an at e |-;cases ht:ts t with
  |none=>rw[ht]at e;exact e
  |some ti=>rw[ht]at e;exact hk ti e
 have hNew:∀ l,v8 nx l=r->v8 nx' l=r:=by
  intro l e;cases l with
  |none=>exact e
  |some l=>exact absurd (by simp[c8]) (hn _ _ _ _ e.symm)
 cases op with
 |alloc t=>exact hT _ _ _ h fun ti e=>hNew _ e
 |box t x=>exact hNew _ h
 |store t x y=>
  refine hT _ _ _ h fun ti e=>?_;change j5 ti.size nx st.h (val ⟨ts,ops,g,st,nx⟩ x) (val ⟨ts,ops,g,st,nx⟩ y)=r at e;change j5 ti.size nx' st.h (val ⟨ts,ops,g,st,nx⟩ x) (val ⟨ts,ops,g,st,nx⟩ y)=r;unfold j5 at e |-;split at e
  ·rename_i sz id i off rid _ _;cases hg:v7 (ae st.h id)with
   |false=>rw[hg]at e;exact e
   |true=>
    rw[hg]at e;simp only[cond_true]at e |-;cases hc:Nat.beq ti.size 1&&Nat.beq sz 1&&Nat.beq off 0&& !(Nat.beq id rid)with
    |false=>rw[hc]at e;exact e
    |true=>
     rw[hc]at e;simp only[cond_true]at e |-;cases ho:ae st.h id with
     |grid k l=>
      rw[ho]at e;simp only[sC]at e |-;cases hr:zb k (ae st.h rid)with
      |none=>rw[hr]at e;exact e
      |some m=>rw[hr]at e;exact absurd (by simp[c8]) (hn _ _ _ _ e.symm)
     |_=>rw[ho]at e;exact e
  ·exact e
 |makeSlice t n c=>
  refine hT _ _ _ h fun ti e=>hT _ _ _ e fun te e=>?_;cases hb:ti.isSlice with
  |false=>rw[hb]at e;exact e
  |true=>
   rw[hb]at e;simp only[cond_true]at e |-;cases hb2:te.isSlice with
   |true=>
    rw[hb2]at e;simp only[cond_true]at e |-;refine hT _ _ _ e fun tr e=>?_;change um nx te tr (val ⟨ts,ops,g,st,nx⟩ n) (val ⟨ts,ops,g,st,nx⟩ c)=r at e;change um nx' te tr (val ⟨ts,ops,g,st,nx⟩ n) (val ⟨ts,ops,g,st,nx⟩ c)=r;unfold um at e |-;split at e
    ·rename_i a b _ _;cases ht:tr.tag with
     |none=>rw[ht]at e;exact e
     |some k=>
      rw[ht]at e;unfold FN at e |-;simp only at e |-;cases hz:Nat.beq te.size 1&&C_ te.zero&&Nat.ble 1 te.bytes with
      |false=>rw[hz]at e;exact e
      |true=>rw[hz]at e;exact absurd (by simp[c8]) (hn _ _ _ _ e.symm)
    ·exact e
   |false=>
   rw[hb2]at e;simp only[cond_false]at e |-;change mkS nx te (val ⟨ts,ops,g,st,nx⟩ n) (val ⟨ts,ops,g,st,nx⟩ c)=r at e;change mkS nx' te (val ⟨ts,ops,g,st,nx⟩ n) (val ⟨ts,ops,g,st,nx⟩ c)=r;unfold mkS at e |-;split at e
   ·rename_i a b _ _;cases ht:te.tag with
    |none=>rw[ht]at e;exact e
    |some k=>rw[ht]at e;exact absurd (by simp[c8]) (hn _ _ _ _ e.symm)
   ·exact e
 |slice t x lo hi m=>
  cases m with
  |some m=>
   refine hT _ _ _ h fun ti e=>hT _ _ _ e fun te e=>?_;rw[hvo,hvo];exact e
  |none=>
   refine hT _ _ _ h fun ti e=>hT _ _ _ e fun te e=>?_;rw[hvo,hvo];change gR ti te.size nx st.h _ _ _ (val ⟨ts,ops,g,st,nx⟩ x)=r at e;change gR ti te.size nx' st.h _ _ _ (val ⟨ts,ops,g,st,nx⟩ x)=r;unfold gR at e |-;split at e
   ·exact e
   ·rename_i id _;cases hb:ti.isSlice with
    |false=>rw[hb]at e;exact e
    |true=>
     rw[hb]at e;simp only[cond_true]at e |-;cases hv:(uM hi&&xA ops)with
     |true=>rw[hv]at e;exact e
     |false=>
     rw[hv]at e;simp only[cond_false]at e |-;unfold Db at e |-;split at e
     ·rename_i k l _;cases hb:Nat.beq te.size (aa k)with
      |false=>rw[hb]at e;exact e
      |true=>
       rw[hb]at e;simp only[cond_true]at e |-;unfold FO at e |-;split at e
       ·exact absurd (by simp[c8]) (hn _ _ _ _ e.symm)
       ·exact e
     ·exact e
   ·exact e
 |makeMap t n=>
  cases n with
  |some n=>exact h
  |none=>
   refine hT _ _ _ h fun ti e=>?_;change mmR nx ti.mkt ti.mvt=r at e;change mmR nx' ti.mkt ti.mvt=r;unfold mmR at e |-;split at e
   ·exact absurd (by simp[c8]) (hn _ _ _ _ e.symm)
   ·exact e
 |call c=>
  obtain⟨callee,args,tys⟩:=c;cases callee with
  |value f=>rw[<-h];show pf _ _=pf _ _;rw[hvs];rfl
  |invoke f m=>exact h
  |builtin b=>
   cases b <;>first|exact h|skip
   ·change (match tys.toList with| [t1,t2] =>an ts t1 fun ti=>an ts t2 fun ti2=>an ts ti.elem fun te=>bif ti.isSlice&&ti2.isSlice then gE te nx st.h (bT ⟨ts,ops,g,st,nx⟩ args.toList)else .bad|_=>.bad)=r at h;show(match tys.toList with| [t1,t2] =>an ts t1 fun ti=>an ts t2 fun ti2=>an ts ti.elem fun te=>bif ti.isSlice&&ti2.isSlice then gE te nx' st.h (bT ⟨ts,ops,g,st,nx'⟩ args.toList)else .bad|_=>.bad)=r;rw[hvs];split at h
    ·refine hT _ _ _ h fun ti e=>hT _ _ _ e fun ti2 e=>hT _ _ _ e fun te e=>?_;cases hb:ti.isSlice&&ti2.isSlice with
     |false=>rw[hb]at e;exact e
     |true=>
      rw[hb]at e;simp only[cond_true]at e |-;have hR:∀ k b kill l m,C7 k nx b kill l m=r->C7 k nx' b kill l m=r:=by
       intro k b kill l m e;cases m with
       |none=>exact e
       |some m=>exact absurd (by simp only[u_];simp[c8]) (hn _ _ _ _ e.symm)
      have hGs:∀ k b id2 kill l m,sE k nx b id2 kill l m=r->sE k nx' b id2 kill l m=r:=by
       intro k b id2 kill l m e;cases m with
       |none=>exact e
       |some m=>exact absurd (by simp only[u_];simp[c8]) (hn _ _ _ _ e.symm)
      have hO:∀ kill src o,mn te nx kill st.h src o=r->mn te nx' kill st.h src o=r:=by
       intro kill src o e;cases o with
       |row k l=>
        simp only[mn]at e |-;cases hb:Nat.beq te.size (aa k)&&Nat.beq (sz te.zero) te.size&&Nat.ble 1 te.bytes with
        |false=>rw[hb]at e;exact e
        |true=>rw[hb]at e;exact hR _ _ _ _ _ e
       |_=>exact e
      have hT2:∀ src o,mo te nx st.h src o=r->mo te nx' st.h src o=r:=by
       intro src o e;cases o with
       |none=>exact e
       |some k=>exact hO [] src (.row k []) e
      generalize bT ⟨ts,ops,g,st,nx⟩ args.toList=l at e |-;unfold gE at e |-;split at e
      ·rename_i id id2;cases hb:Nat.beq te.size 1&&Nat.beq (sz te.zero) 1&&Nat.ble 1 te.bytes&& !(Nat.beq id id2)with
       |false=>
        rw[hb]at e;exact e
       |true=>
        rw[hb]at e;simp only[cond_true]at e |-;unfold rg at e |-;split at e
        ·exact hGs _ _ _ _ _ _ e
        ·exact e
      ·rename_i id2;cases hb:Nat.beq te.size 1&&Nat.beq (sz te.zero) 1&&Nat.ble 1 te.bytes with
       |false=>rw[hb]at e;exact e
       |true=>
        rw[hb]at e;simp only[cond_true]at e |-;unfold C8 at e |-;split at e
        ·exact hGs _ _ _ _ _ _ e
        ·exact e
      ·rename_i id id2;cases hb:Nat.beq id id2 with
       |false=>rw[hb]at e;exact hO _ _ _ e
       |true=>rw[hb]at e;exact e
      ·exact hO _ _ _ e
      ·exact hT2 _ _ e
      ·exact hT2 _ _ e
      ·rename_i k l src;unfold BH at e |-;cases hb:Nat.beq te.size (aa k)&&Nat.beq (sz te.zero) te.size&&Nat.ble 1 te.bytes with
       |false=>rw[hb]at e;exact e
       |true=>
        rw[hb]at e;simp only[cond_true]at e |-;cases hs:la k st.h src with
        |none=>rw[hs]at e;exact e
        |some m=>
         rw[hs]at e;cases m with
         |nil=>exact e
         |cons x m=>exact absurd (by simp[c8]) (hn _ _ _ _ e.symm)
      ·exact e
    ·exact h
   ·rw[<-h];show(match tys.toList with| [t1] =>an ts t1 fun ti=>an ts ti.elem fun te=>oJ ti te st.h (bT ⟨ts,ops,g,st,nx'⟩ args.toList) |_=>.bad)=(match tys.toList with| [t1] =>an ts t1 fun ti=>an ts ti.elem fun te=>oJ ti te st.h (bT ⟨ts,ops,g,st,nx⟩ args.toList) |_=>.bad);rw[hvs]
   ·rw[<-h];show(match tys.toList with|t1::_=>an ts t1 fun ti=>oK ti st.h (bT ⟨ts,ops,g,st,nx'⟩ args.toList) |_=>.bad)=(match tys.toList with|t1::_=>an ts t1 fun ti=>oK ti st.h (bT ⟨ts,ops,g,st,nx⟩ args.toList) |_=>.bad);rw[hvs]
   ·rw[<-h];show(match tys.toList with| [t''] =>an ts t'' fun ti=>lD ti st.h (bT ⟨ts,ops,g,st,nx'⟩ args.toList) |_=>.bad)=(match tys.toList with| [t''] =>an ts t'' fun ti=>lD ti st.h (bT ⟨ts,ops,g,st,nx⟩ args.toList) |_=>.bad);rw[hvs]
   ·rw[<-h];show wb _=wb _;rw[hvs]
   ·rw[<-h];show wa _=wa _;rw[hvs]
 |build ty parts=>rw[<-h];simp only[opS,hps]
 |buildSlice ty n parts=>
  refine hT _ _ _ h fun ti e=>hT _ _ _ e fun te e=>?_;change ul (uk ty ops g) nx te (bsS ti te n (dP ⟨ts,ops,g,st,nx⟩ parts.toList))=r at e;show ul (uk ty ops g) nx' te (bsS ti te n (dP ⟨ts,ops,g,st,nx'⟩ parts.toList))=r;rw[hps];generalize bsS ti te n (dP ⟨ts,ops,g,st,nx⟩ parts.toList)=o at e |-;unfold ul at e |-;split at e
  ·rename_i kq lq;cases hb:(te.agg||one lq)&&noG (uk ty ops g)with
   |false=>rw[hb]at e;exact e
   |true=>rw[hb]at e;exact absurd (by simp[c8]) (hn _ _ _ _ e.symm)
  ·exact e
 |makeFunc fn first caps=>rw[<-h];simp only[opS,hvs]
 |range ty x=>
  refine hT _ _ _ h fun ti e=>?_;change sI ti nx st.h (val ⟨ts,ops,g,st,nx⟩ x)=r at e;show sI ti nx' st.h (val ⟨ts,ops,g,st,nx'⟩ x)=r;rw[hv];generalize val ⟨ts,ops,g,st,nx⟩ x=s at e |-;cases s with
  |os id=>
   simp only[sI]at e |-;cases ho:ae st.h id with
   |mp kk vk l pend=>
    rw[ho]at e;simp only[FQ]at e |-;cases hb:fG kk ti.mkt&&fG vk ti.mvt&&noE pend with
    |false=>rw[hb]at e;exact e
    |true=>rw[hb]at e;exact absurd (by simp[c8]) (hn _ _ _ _ e.symm)
   |_=>rw[ho]at e;exact e
  |_=>exact e
 |mapEntry ty m k=>
  refine hT _ _ _ h fun ti e=>?_;change od ti nx st.h (val ⟨ts,ops,g,st,nx⟩ k) (val ⟨ts,ops,g,st,nx⟩ m)=r at e;show od ti nx' st.h (val ⟨ts,ops,g,st,nx'⟩ k) (val ⟨ts,ops,g,st,nx'⟩ m)=r;rw[hv,hv];generalize val ⟨ts,ops,g,st,nx⟩ m=s at e |-;cases s with
  |os id=>
   simp only[od]at e |-;cases ho:ae st.h id with
   |mp kk vk l pend=>
    rw[ho]at e;simp only[BJ]at e |-;cases hb:fG kk ti.mkt&&fG vk ti.mvt&&noE pend with
    |false=>rw[hb]at e;exact e
    |true=>
     rw[hb]at e;simp only[cond_true]at e |-;unfold BI at e |-;split at e
     ·exact absurd (by simp[c8]) (hn _ _ _ _ e.symm)
     ·exact e
   |_=>rw[ho]at e;exact e
  |_=>exact e
 |next it isS=>cases isS <;>exact h
 |entry it=>exact h
 |_=>exact h
theorem tt (as:List Nat)(j:Nat):∀ (l:List Edge),(xD as l).testBit j=true->∃ e∈l,Region.binds .any e=true/\(j=e.on\/((nth as e.on).getD 0).testBit j=true)
 | [],h=>by simp[xD]at h
 |e::r,h=>by
  simp only[xD]at h;cases hb:Region.binds .any e with
  |false=>
   rw[hb]at h;obtain⟨e',h1,h2⟩:=tt as j r h;exact⟨e',by simp[h1],h2⟩
  |true=>
   rw[hb]at h;simp only[cond_true]at h;have h':(((nth as e.on).getD 0|||1<<< e.on) |||xD as r).testBit j=true:=h;rw[Nat.testBit_or,Nat.testBit_or,Bool.or_eq_true,Bool.or_eq_true]at h';rcases h' with(h'|h') |h'
   ·exact⟨e,by simp,hb,.inr h'⟩
   ·refine⟨e,by simp,hb,.inl ?_⟩;rw[Nat.testBit_shiftLeft,Bool.and_eq_true]at h';have h1:=of_decide_eq_true h'.1;have h2:=h'.2;rw[Nat.testBit_one_eq_true_iff_self_eq_zero]at h2;omega
   ·obtain⟨e',h1,h2⟩:=tt as j r h';exact⟨e',by simp[h1],h2⟩
def sb (ops:List Oper)(S:Nat->Prop):Prop:= ∀ (i:Nat) (o:Oper) (j:Nat),S i->ops[i]? =some o->jk o j=true->S j
theorem A2 {ops:List Oper}{S:Nat->Prop}(hS:sb ops S):∀ (l:List Oper) (as:List Nat),ops.drop as.length=l->(∀ i j,i<as.length->S i->((nth as i).getD 0).testBit j=true->S j)->
  ∀ i j,S i->kL (qz l as) i j=true->S j
 | [],as,hd,ih,i,j,hi,hb=>by
  by_cases h:i<as.length
  ·exact ih i j h hi hb
  ·have:nth as i=none:=by rw[dx];simp;omega
   simp[qz,kL,this]at hb
 |o::l,as,hd,ih,i,j,hi,hb=>by
  obtain⟨ho,hd'⟩:=tj hd;refine A2 hS l (as++[xD as o.after.toList]) (by simpa using hd') (fun i j hlt hi hb=>?_) i j hi hb;rw[dx]at hb;by_cases h:i<as.length
  ·rw[List.getElem?_append_left h]at hb;exact ih i j h hi (by rw[dx];exact hb)
  ·have:i=as.length:=by simp at hlt;omega
   subst this;simp at hb;obtain⟨e,h1,h2,h3⟩:=tt as j _ hb;have hon:S e.on:=hS _ o e.on hi ho (by
    unfold jk;rw[List.any_eq_true];exact⟨e,h1,by simp[h2]⟩)
   rcases h3 with rfl|h3
   ·exact hon
   ·by_cases hlt:e.on<as.length
    ·exact ih _ _ hlt hon h3
    ·have:nth as e.on=none:=by rw[dx];simp;omega
     simp[this]at h3
theorem wK {ops:List Oper}{S:Nat->Prop}(hS:sb ops S){i j:Nat}(hi:S i)(hb:kL (qz ops []) i j=true):S j:=
 A2 hS ops [] rfl (fun i j h=>by simp at h) i j hi hb
def Ord (ops:List Oper)(i j:Nat):Prop:=(j<i/\kL (qz ops []) i j=true)\/(i<j/\kL (qz ops []) j i=true)
theorem tu {as:List Nat}{i:Nat}{x:Fp}:∀ (l:List Fp) (j:Nat),xE as i x j l=true->∀ (k:Nat) (y:Fp),l[k]? =some y->j+k≠i->lj x y=true->(j+k<i/\kL as i (j+k)=true)\/(i<j+k/\kL as (j+k) i=true)
 | [],j,_,k,y,hk,_,_=>by simp at hk
 |z::r,j,h,k,y,hk,hne,hc=>by
  simp only[xE,Bool.and_eq_true]at h;cases k with
  |zero=>
   simp at hk;subst hk;rw[Nat.add_zero]at hne |-;have h1:=h.1;simp only[hc,Bool.not_true,Bool.or_false,Bool.or_eq_true,Bool.and_eq_true]at h1;rcases h1 with(h1|h1) |h1
   ·exact absurd (Nat.eq_of_beq_eq_true h1).symm hne
   ·exact .inl ⟨nbl h1.1,h1.2⟩
   ·exact .inr ⟨nbl h1.1,h1.2⟩
  |succ k=>
   have:=tu r (j+1) h.2 k y (by simpa using hk) (by omega) hc;rw[show j+1+k=j+(k+1) by omega]at this;exact this
theorem tv {as:List Nat}{b:Nat}{all:List Fp}:∀ (l:List Fp) (i:Nat),AM as b all i l=true->∀ (k:Nat) (x:Fp),l[k]? =some x->xE as (i+k) x b all=true
 | [],i,_,k,x,hk=>by simp at hk
 |z::r,i,h,k,x,hk=>by
  simp only[AM,Bool.and_eq_true]at h;cases k with
  |zero=>simp at hk;subst hk;exact h.1
  |succ k=>
   have:=tv r (i+1) h.2 k x (by simpa using hk);rw[show i+1+k=i+(k+1) by omega]at this;exact this
theorem Cf (l:List Nat):li l []=false:=by
 induction l with
 |nil=>rfl
 |cons a r ih=>simp[li,rP,ih]
theorem lT {n:Nat}:∀ {l m:List Nat},n∈l->n∈m->li l m=true
 |a::r,m,h1,h2=>by
  simp only[li];rcases List.mem_cons.1 h1 with rfl|h1
  ·rw[(ny n m).2 h2];rfl
  ·rw[lT h1 h2];cases rP a m <;>rfl
theorem va:∀ {l:List Fp} {k:Nat} {x:Fp},sJ l=true->l[k]? =some x->x.tc=[]/\x.wt=[]
 | [],k,x,_,hk=>by simp at hk
 |z::r,k,x,h,hk=>by
  simp only[sJ,Bool.and_eq_true,List.isEmpty_iff]at h;cases k with
  |zero=>simp at hk;subst hk;exact⟨h.1.1,h.1.2⟩
  |succ k=>exact va h.2 (by simpa using hk)
theorem tw {ops:List Oper}{b:Nat}{fps:List Fp}(h:kM ops b fps){i j:Nat}{x y:Fp}(hi:fps[i]? =some x)(hj:fps[j]? =some y)(hne:i≠j)(hc:lj x y=true):Ord ops (b+i) (b+j):=by
 unfold kM at h;cases hs:sJ fps with
 |true=>
  obtain⟨e1,e2⟩:=va hs hj;simp[lj,e1,e2,Cf]at hc
 |false=>
  rw[hs]at h;have h1:=tv fps b h i x hi;have h2:=tu fps b h1 j y hj (by omega) hc;rcases h2 with⟨q1,q2⟩ | ⟨q1,q2⟩
  ·exact .inl ⟨q1,q2⟩
  ·exact .inr ⟨q1,q2⟩
theorem tx {ops:List Oper}{c:Nat}(h:sK ops c=true){i:Nat}(hi:i<ops.length)(hne:i≠c):(i<c/\kL (qz ops []) c i=true)\/(c<i/\kL (qz ops []) i c=true):=by
 have hg:∀ (l:List Oper) (j:Nat),we (qz ops []) c j l=true->∀ k,k<l.length->(Nat.beq (j+k) c||(Nat.blt (j+k) c&&kL (qz ops []) c (j+k)) ||(Nat.blt c (j+k)&&kL (qz ops []) (j+k) c))=true:=by
  intro l;induction l with
  |nil=>intro j _ k hk;simp at hk
  |cons x r ih=>
   intro j h k hk;simp only[we,Bool.and_eq_true]at h;cases k with
   |zero=>exact h.1
   |succ k=>
    have:=ih (j+1) h.2 k (by simpa using hk);rw[show j+1+k=j+(k+1) by omega]at this;exact this
 have:=hg ops 0 h i hi;rw[Nat.zero_add]at this;simp only[Bool.or_eq_true,Bool.and_eq_true]at this;rcases this with(h1|h1) |h1
 ·exact absurd (Nat.eq_of_beq_eq_true h1) hne
 ·exact .inl ⟨nbl h1.1,h1.2⟩
 ·exact .inr ⟨nbl h1.1,h1.2⟩
structure Fact (ts:Tis)(G:Cons)(ops:List Oper)(o:Oper)(st st2:St)(s:SV)(ups:List Up)(fp:Fp)(r:Dr):Prop where
 dr:ff G st.h st.h.length (opS ⟨ts,ops,o.guard,st,st.h.length⟩ o.op)=some r
 nxt:st2=St.put ⟨st.t,aD st.h ups⟩ o.dst s
 fp:fp=fpU o.op (fpO ⟨ts,ops,o.guard,st,st.h.length⟩ o.op) r.all ups
 plain:o.guard=none->r.c/\s=r.s/\ups=r.ups
 guarded:∀ g,o.guard=some g->(co ops st.t ops.length g->r.c)/\((r.ups=ups/\s=.gd g.1 g.2 r.s/\(ups=[]\/¬dD ops st.t ops.length g))\/(ups=[]/\s=.gd g.1 g.2 r.s/\¬co ops st.t ops.length g))
def Gc (ts:Tis)(G:Cons)(ops:List Oper)(K:St->Prop)(Z:Value->St->Prop)(e:Nat)(st:St):Prop:=
 (ops.length<=e/\K st)\/∃ o,ops[e]? =some o/\sK ops e=true/\AY G ops o.dst st (fun st'=>fh ts G ops K Z (ops.drop (e+1)) (e+1) (e+1) [] st') Z o.guard (opS ⟨ts,ops,o.guard,st,st.h.length⟩ o.op)
structure Piece (ts:Tis)(G:Cons)(ops:List Oper)(n m:Nat)(S:Nat->St)(s:Nat->SV)(ups:Nat->List Up)(fs:Nat->Fp)(R:Nat->Dr):Prop where
 fact:∀ i,i<m->∃ o,ops[n+i]? =some o/\Fact ts G ops o (S i) (S (i+1)) (s i) (ups i) (fs i) (R i)
section
variable {P:Program}{F:Nat->Prop}{own own':Own}{w w':World}{ts:Tis}
variable {w0:Bs}{ro:Option Nat}{nd:Nat}{N n:Nat}{ops:List Oper}{st:St}{a:Act}{G:Cons}
theorem Cg (n:Nat)(s:SV)(o:Ob)(h:o∈av n s):bZ o=false:=by
 rcases(oT n s o h).1 with⟨_,_,rfl⟩ | ⟨_,_,_,rfl⟩ | ⟨_,_,rfl⟩ <;>rfl
theorem zN {own':Own}{h:List Ob}(hp:Hp F own w h){nx:Nat}(hn:NxOk own h nx){s:SV}{u:Value}{ob:Ob}(hrow:av 3 s=[ob]){F1:Nat->Prop}(hF1:(∀ b,F1 b↔bD F own b)\/((∀ b,F1 b↔F b)/\dW 3 s=true))(hb:Below w.heap.size w w')(hh:Handed F1 w own' w' s u):
  ∃ own2,Rel F own2 w' (er 3 nx s) u/\Step F own w (aD h [(nx,ob)]) own2 w':=by
 have hFF:∀ b,F b->F1 b:=fun b hf=>by
  rcases hF1 with h1| ⟨h1,_⟩
  ·exact(h1 b).2 (.inl hf)
  ·exact(h1 b).2 hf
 have h0:∀ id hd,own' id=some hd->id=0:=fun id hd e=>by
  have:=hh.hp.dom id hd e;rw[hrow]at this;simpa using this
 let own2:Own:=fun id=>if id=nx then own' 0 else own id
 have o1:∀ id hd,own2 id=some hd->(id≠nx/\own id=some hd)\/(id=nx/\own' 0=some hd):=fun id hd e=>by
  simp only[own2]at e;split at e
  ·rename_i hlt;exact .inr ⟨hlt,e⟩
  ·rename_i hlt;exact .inl ⟨hlt,e⟩
 have o2:∀ id hd,own id=some hd->own2 id=some hd:=fun id hd e=>by
  simp only[own2];rw[if_neg (fun h=>by rw[h,hn.none]at e;cases e)];exact e
 have o3:∀ id hd,own' id=some hd->own2 (id+nx)=some hd:=fun id hd e=>by
  have:=h0 id hd e;subst this;simp only[own2];rw[Nat.zero_add,if_pos rfl];exact e
 have fr:Fr { w:=w,own:=own} own2 w':=Fr.of_step (fun id hd e=>⟨hd,o2 id hd e,.refl _⟩) (fun id hd b e hbb=>by
   rcases o1 id hd e with⟨_,e⟩ | ⟨_,e⟩
   ·exact .inl ⟨id,hd,e,hbb⟩
   ·exact .inr (hh.fresh _ hd b e hbb)) (fun b hbl _=>hb.block b hbl) hb.size hb.os hb.tape hb.output
 have g:Goes F own w own2 w':=fr.goes;have hkeep:(∀ b,¬bD F1 own' b->¬bD F own2 b)\/dW 3 s=true:=by
  rcases hF1 with h1| ⟨_,h2⟩
  ·left;rintro b hn (hf| ⟨id,hd,e,hbb⟩)
   ·exact hn (.inl (hFF b hf))
   ·rcases o1 id hd e with⟨_,e⟩ | ⟨_,e⟩
    ·exact hn (.inl ((h1 b).2 (.inr ⟨id,hd,e,hbb⟩)))
    ·exact hn (.inr ⟨_,hd,e,hbb⟩)
  ·exact .inr h2
 have hob:ae (av 3 s) 0=ob:=by rw[hrow];rfl
 have hlen:nx< (aD h [(nx,ob)]).length:=by simp only[aD];rw[bv];split <;>omega
 have hle:h.length<=(aD h [(nx,ob)]).length:=by simp only[aD];rw[bv];split <;>omega
 refine⟨own2,?_,⟨fun id hd e=>?_,fun b hf=>Nat.lt_of_lt_of_le (hp.foreign b hf) hb.size,fun id hd b e hbb=>?_,fun i j hi hj b e1 e2 hb1 hb2=>?_,fun id hd b e hbb=>?_,fun id hdd=>?_⟩,fr,fun id e1 e2=>?_⟩
 ·have:=td (F':=F) (own2:=own2) (m:=nx) o3 3 0 s u hh.val (hkeep.imp (fun hk c hc=>hk c fun ho=>hc (.inl ho)) id)
  rwa[Nat.zero_add]at this
 ·rcases o1 id hd e with⟨_,e⟩ | ⟨rfl,_⟩
  ·have:=hp.dom id hd e;omega
  ·exact hlen
 ·rcases o1 id hd e with⟨_,e⟩ | ⟨_,e⟩
  ·exact hp.apart id hd b e hbb
  ·exact fun hf=>hh.hp.apart _ hd b e hbb (hFF b hf)
 ·rcases o1 i hi e1 with⟨l1,e1⟩ | ⟨l1,e1⟩ <;>rcases o1 j hj e2 with⟨l2,e2⟩ | ⟨l2,e2⟩
  ·exact hp.inj i j hi hj b e1 e2 hb1 hb2
  ·have:=hp.lt i hi b e1 hb1;have:=hh.fresh _ hj b e2 hb2;omega
  ·have:=hp.lt j hj b e2 hb2;have:=hh.fresh _ hi b e1 hb1;omega
  ·rw[l1,l2]
 ·rcases o1 id hd e with⟨_,e⟩ | ⟨_,e⟩
  ·exact Nat.lt_of_lt_of_le (hp.lt id hd b e hbb) hb.size
  ·exact hh.hp.lt _ hd b e hbb
 ·simp only[aD]at hdd |-;rw[b8]at hdd |-;by_cases hlt:nx=id
  ·rw[if_pos hlt]at hdd |-;have hdd':bZ (ae (av 3 s) 0)=false:=by rw[hob];exact hdd
   obtain⟨hd,e1,e2⟩:=hh.hp.obs _ hdd';obtain⟨q1,q2⟩:=oT 3 s _ (x8 hdd');have e3:=o3 _ hd e1;rw[Nat.zero_add,hlt]at e3;rw[hob]at e2 q1 q2;exact⟨hd,e3,e2.over q1 (hkeep.imp (fun h=>h) q2)⟩
  ·rw[if_neg hlt]at hdd |-;obtain⟨hd,e1,e2⟩:=hp.obs id hdd;exact⟨hd,o2 id hd e1,e2.carry g.carries hb.size fun b hbb=>hb.block b (hp.lt id hd b e1 hbb)⟩
 ·simp only[own2];by_cases hid:id=nx
  ·subst hid;exfalso;simp only[aD]at e2;rw[b8,if_pos rfl]at e2;have:=Cg 3 s ob (by rw[hrow];simp);rw[this]at e2;cases e2
  ·rw[if_neg hid];exact e1
theorem DK {G:Cons}(hG:ConsOk P G){h:List Ob}(hp:Hp F own w h){nx:Nat}(hn:NxOk own h nx){f:FuncId}{args:List SV}{vs:Array Value}(hr:RelL F own w args vs){c:Con}(hc:G.p f (args.map (dl h 6))=some c)(hpre:bb c)
  (hres:args.all (bO 3)=true\/∀ s,cH c s->dW 3 s=true):
  (callFunc f vs).run P w=.ok (.enter f vs) w/\Calls P f vs w (fun e w'=>(∃ s u,∃ own2:Ob->Own,cH c s/\e=.returned u/\∀ ob,av 3 s=[ob]->Rel F (own2 ob) w' (er 3 nx s) u/\Step F own w (aD h [(nx,ob)]) (own2 ob) w')\/(∃ x,iu c x/\e=.panicked [{ v:=x,recovered:=false}]/\Below w.heap.size w w')):=by
 refine⟨(hG.p f).enter _ c hc vs w,?_⟩;have fin:∀ {own':Own} {w':World} {s:SV} {u:Value} {F1:Nat->Prop},((∀ b,F1 b↔bD F own b)\/((∀ b,F1 b↔F b)/\dW 3 s=true))->Below w.heap.size w w'->Handed F1 w own' w' s u->∃ own2:Ob->Own,∀ ob,av 3 s=[ob]->Rel F (own2 ob) w' (er 3 nx s) u/\Step F own w (aD h [(nx,ob)]) (own2 ob) w':=fun {own' w' s u F1} h1 h2 h3=>by
  refine Classical.axiomOfChoice (r:=fun ob own2=>av 3 s=[ob]->Rel F own2 w' (er 3 nx s) u/\Step F own w (aD h [(nx,ob)]) own2 w') fun ob=>?_;by_cases hrow:av 3 s=[ob]
  ·obtain⟨own2,q⟩:=zN hp hn hrow h1 h2 h3;exact⟨own2,fun _=>q⟩
  ·exact⟨own,fun e=>absurd e hrow⟩
 rcases hres with hnp|hsc
 ·have hpf:∀ (j:Nat) (s:SV),args[j]? =some s->PF s:=fun j s hj=>by
   rw[List.all_eq_true]at hnp;exact ed 3 s (hnp s (List.mem_of_getElem? hj))
  refine((hG.p f).calls _ c hc hpre (bD F own) w vs (fun b hb=>?_) ⟨by simpa using hr.1,fun j s hj=>?_⟩).mono ?_
  ·rcases hb with hf| ⟨id,hd,e,hbb⟩
   ·exact hp.foreign b hf
   ·exact hp.lt id hd b e hbb
  ·obtain⟨x,hx,rfl⟩:=b_ hj;exact DF 6 x _ (hpf j x hx) (hr.2 j x hx)
  ·rintro e w' (⟨s,u,own',h1,h2,h3,h4⟩ |hp')
   ·obtain⟨own2,q⟩:=fin (.inl fun b=>Iff.rfl) h4 h3;exact .inl ⟨s,u,own2,h1,h2,q⟩
   ·exact .inr hp'
 ·refine((hG.p f).calls _ c hc hpre F w vs hp.foreign ⟨by simpa using hr.1,fun j s hj=>?_⟩).mono ?_
  ·obtain⟨x,hx,rfl⟩:=b_ hj;exact nS hp 6 x _ (hr.2 j x hx)
  ·rintro e w' (⟨s,u,own',h1,h2,h3,h4⟩ |hp')
   ·obtain⟨own2,q⟩:=fin (.inr ⟨fun b=>Iff.rfl,hsc s h1⟩) h4 h3;exact .inl ⟨s,u,own2,h1,h2,q⟩
   ·exact .inr hp'
theorem H8 (hG:ConsOk P G){h:List Ob}(hp:Hp F own w h){nx:Nat}(hn:NxOk own h nx){o:Oper}{run:Result Next}{r0:OR}{r:Dr}(h0:xX P F own w h run r0)(hr:ff G h nx r0=some r)(hc:r.c):
  r.a/\(∃ u own' w',Rel F own' w' r.s u/\Step F own w (aD h r.ups) own' w')/\
  ∀ (K:Act->World->Prop) (Q:Exit->Act->World->Prop),(∀ u own' w',Rel F own' w' r.s u->Step F own w (aD h r.ups) own' w'->K (a.put o.dst u) w')->o.uponIn (rd ro) nd P a K Q run:=by
 have hst:∀ {w'},Below w.heap.size w w'->Step F own w h own w':=fun hb=>⟨hp.below hb,tn own hb,fun _ e _=>e⟩;cases r0 with
 |val s=>
  simp only[ff,Option.some.injEq]at hr;subst hr;obtain⟨u,e1,e2⟩:=h0;exact⟨trivial,⟨u,own,w,e2,hst (Below.refl _ _)⟩,fun K Q hK=>df (.inl e1) (hK u own w e2 (hst (Below.refl _ _)))⟩
 |chk c s=>
  simp only[ff,Option.some.injEq]at hr;subst hr;obtain⟨u,e1,e2⟩:=h0 hc;exact⟨trivial,⟨u,own,w,e2,hst (Below.refl _ _)⟩,fun K Q hK=>df (.inl e1) (hK u own w e2 (hst (Below.refl _ _)))⟩
 |asm c s=>
  simp only[ff,Option.some.injEq]at hr;subst hr;obtain⟨ha,u,e1,e2⟩:=h0;exact⟨ha,⟨u,own,w,e2,hst (Below.refl _ _)⟩,fun K Q hK=>df (.inl e1) (hK u own w e2 (hst (Below.refl _ _)))⟩
 |newr s=>
  simp only[ff,Option.some.injEq]at hr;subst hr;obtain⟨u,cs,ty,e1,e2⟩:=h0;exact⟨trivial,⟨u,own,_,e2,hst (jG _ _)⟩,fun K Q hK=>df (.inl e1) (hK u own _ e2 (hst (jG _ _)))⟩
 |eff c ac ups s=>
  simp only[ff,Option.some.injEq]at hr;subst hr;obtain⟨ha,u,own',w',e1,e2,e3⟩:=h0 hc;exact⟨ha,⟨u,own',w',e2,e3⟩,fun K Q hK=>df e1 (hK u own' w' e2 e3)⟩
 |call f args=>
  obtain⟨vs,e1,e2⟩:=h0;simp only[ff]at hr;cases hcc:G.p f (args.map (dl h 6))with
  |none=>rw[hcc]at hr;cases hr
  |some cc=>
   rw[hcc]at hr;cases cc with
   |rel=>cases hr
   |may=>cases hr
   |det p s=>
    simp only[drC]at hr;have hrow:∀ (rows:List Ob),av 3 s=rows->drR (args.all (bO 3)) (args.flatMap (eO h 6)) nx p s rows=some r->
      ((args.all (bO 3) ||dW 3 s)=true/\((rows=[]/\r=⟨p,True,s,[],args.flatMap (eO h 6)⟩)\/∃ ob,rows=[ob]/\r=⟨p,True,er 3 nx s,[(nx,ob)],args.flatMap (eO h 6)⟩)):=fun rows _ hr=>by
     match rows,hr with
     | [],hr=>
      simp only[drR]at hr;cases hb:(args.all (bO 3) ||dW 3 s)with
      |false=>rw[hb]at hr;cases hr
      |true=>rw[hb]at hr;cases hr;exact⟨rfl,.inl ⟨rfl,rfl⟩⟩
     | [ob],hr=>
      simp only[drR]at hr;cases hb:(args.all (bO 3) ||dW 3 s)with
      |false=>rw[hb]at hr;cases hr
      |true=>rw[hb]at hr;cases hr;exact⟨rfl,.inr ⟨ob,rfl,rfl⟩⟩
     |_::_::_,hr=>simp[drR]at hr
    obtain⟨hb,hcase⟩:=hrow _ rfl hr;rw[Bool.or_eq_true]at hb;have hres:args.all (bO 3)=true\/∀ s',cH (.det p s) s'->dW 3 s'=true:=hb.imp id (fun h s' hs'=>by cases hs';exact h);rcases hcase with⟨hz,rfl⟩ | ⟨ob,hz,rfl⟩
    ·obtain⟨k1,k2⟩:=wD (P:=P) hG hp e1 hcc hc hres;have key:∀ {e:Ending} {w':World},((∃ s' u own2,cH (.det p s) s'/\e=.returned u/\Hp F own2 w' (h++av 3 s')/\Fr { w:=w,own:=own} own2 w'/\Rel F own2 w' (er 3 h.length s') u/\Below w.heap.size w w'/\∀ id,id<h.length->own2 id=own id)\/(∃ x,iu (.det p s) x/\e=.panicked [{ v:=x,recovered:=false}]/\Below w.heap.size w w'))->
       ∃ u own2,e=.returned u/\Rel F own2 w' s u/\Step F own w h own2 w':=by
      rintro e w' (⟨s',u,own2,rfl,rfl,m2,m3,m4,m5,m6⟩ | ⟨x',m1,_⟩)
      ·rw[hz,List.append_nil]at m2;rw[rz 3 _ _ hz]at m4;refine⟨u,own2,rfl,m4,m2,m3,fun id e1 e2=>?_⟩;cases ho:own2 id with
       |none=>rfl
       |some hd=>rw[m6 id (m2.dom id hd ho),e1]at ho;cases ho
      ·exact m1.elim
     refine⟨trivial,?_,fun K Q hK=>?_⟩
     ·obtain⟨e,w',fr,hR,_⟩:=k2 [];obtain⟨u,own2,_,m1,m2⟩:=key hR;exact⟨u,own2,w',m1,m2⟩
     ·rw[e2,k1];refine⟨fun h=>(by cases h),?_⟩;refine CallsIn.mono (iP k2) fun e w' hR=>?_;obtain⟨u,own2,rfl,m1,m2⟩:=key hR;exact hK u own2 w' m1 m2
    ·obtain⟨k1,k2⟩:=DK (P:=P) hG hp hn e1 hcc hc hres;have key:∀ {e:Ending} {w':World},((∃ s' u,∃ own2:Ob->Own,cH (.det p s) s'/\e=.returned u/\∀ ob,av 3 s'=[ob]->Rel F (own2 ob) w' (er 3 nx s') u/\Step F own w (aD h [(nx,ob)]) (own2 ob) w')\/(∃ x,iu (.det p s) x/\e=.panicked [{ v:=x,recovered:=false}]/\Below w.heap.size w w'))->
       ∃ u own2,e=.returned u/\Rel F own2 w' (er 3 nx s) u/\Step F own w (aD h [(nx,ob)]) own2 w':=by
      rintro e w' (⟨s',u,own2,rfl,rfl,m2⟩ | ⟨x',m1,_⟩)
      ·exact⟨u,own2 ob,rfl,(m2 ob hz).1,(m2 ob hz).2⟩
      ·exact m1.elim
     refine⟨trivial,?_,fun K Q hK=>?_⟩
     ·obtain⟨e,w',fr,hR,_⟩:=k2 [];obtain⟨u,own2,_,m1,m2⟩:=key hR;exact⟨u,own2,w',m1,m2⟩
     ·rw[e2,k1];refine⟨fun h=>(by cases h),?_⟩;refine CallsIn.mono (iP k2) fun e w' hR=>?_;obtain⟨u,own2,rfl,m1,m2⟩:=key hR;exact hK u own2 w' m1 m2
 |bad=>simp only[ff,Option.some.injEq]at hr;subst hr;exact hc.elim
 |_=>simp[ff]at hr
end
theorem oU (ups:List Up):∀ h:List Ob,h.length<=(aD h ups).length:=by
 induction ups with
 |nil=>intro h;exact Nat.le_refl _
 |cons x r ih=>
  intro h;obtain⟨id,o⟩:=x;refine Nat.le_trans ?_ (ih (bf h id o));rw[bv];split <;>omega
theorem ve {id:Nat}:∀ {ups:List Up} {h:List Ob},id∈c8 ups->id< (aD h ups).length
 |(i,o)::r,h,hm=>by
  simp only[c8,List.mem_cons]at hm;simp only[aD];by_cases hr:id∈c8 r
  ·exact ve hr
  ·have e:id=i:=hm.resolve_right hr;subst e;refine Nat.lt_of_lt_of_le ?_ (oU r _);rw[bv];split <;>omega
theorem iv {id:Nat}:∀ {ups:List Up} {h:List Ob},id ∉ c8 ups->ae (aD h ups) id=ae h id
 | [],h,_=>rfl
 |(i,o)::r,h,hm=>by
  simp only[c8,List.mem_cons,not_or]at hm;simp only[aD];rw[iv hm.2,b8,if_neg (fun e=>hm.1 e.symm)]
theorem vg {id:Nat}:∀ {ups:List Up} {h h':List Ob},id∈c8 ups->ae (aD h ups) id=ae (aD h' ups) id
 |(i,o)::r,h,h',hm=>by
  simp only[c8,List.mem_cons]at hm;simp only[aD];by_cases hr:id∈c8 r
  ·exact vg hr
  ·have e:id=i:=hm.resolve_right hr;subst e;rw[iv hr,iv hr,b8,b8,if_pos rfl,if_pos rfl]
theorem DL {cx:Cx}(hnx:ae cx.st.h cx.nx=.dead){op:Op}(he:lh op=true){c a:Prop}{ups:List Up}{s:SV}(h:opS cx op=.eff c a ups s)(id:Nat):ObUp (ae cx.st.h id) (ae (aD cx.st.h ups) id):=by
 cases op with
 |mapEntry t m k=>
  simp only[opS]at h;unfold an at h;cases ht:cx.ts t with
  |none=>rw[ht]at h;cases h
  |some ti=>
   rw[ht]at h;change od ti cx.nx cx.st.h (val cx k) (val cx m)=_ at h;unfold od at h;split at h
   ·rename_i i _;unfold BJ at h;split at h
    ·rename_i kk vk l pq ho;cases hb:fG kk ti.mkt&&fG vk ti.mvt&&noE pq with
     |false=>rw[hb]at h;cases h
     |true=>
      rw[hb]at h;simp only[cond_true]at h;unfold BI at h;split at h
      ·cases h;simp only[aD];rw[b8];split
       ·rename_i e;subst e;exact .inr (.inl ⟨kk,vk,l,_,_,ho,rfl⟩)
       ·rw[b8];split
        ·rename_i e;subst e;exact .inr (.inr ⟨.inl hnx,.inr rfl⟩)
        ·exact .refl _
      ·cases h
    ·cases h
   ·cases h
 |_=>cases he
theorem wL {o:Op}(he:lh o=true){cx:Cx}{f:FuncId}{args:List SV}(h:opS cx o=.call f args):False:=by
 cases o with
 |mapEntry t m x=>
  simp only[opS]at h;unfold an at h;cases ht:cx.ts t with
  |none=>rw[ht]at h;cases h
  |some ti=>
   rw[ht]at h;change od ti cx.nx cx.st.h (val cx x) (val cx m)=_ at h;unfold od at h;split at h
   ·rename_i i _;unfold BJ at h;split at h
    ·rename_i kk vk l pq ho;cases hb:fG kk ti.mkt&&fG vk ti.mvt&&noE pq with
     |false=>rw[hb]at h;cases h
     |true=>
      rw[hb]at h;simp only[cond_true]at h;unfold BI at h;split at h <;>cases h
    ·cases h
   ·cases h
 |_=>cases he
theorem DM {G:Cons}{h:List Ob}{nx:Nat}{r0:OR}{r:Dr}(hr:ff G h nx r0=some r)(hn:∀ c a ups s,r0≠ .eff c a ups s)(hc:∀ f args,r0≠ .call f args):r.ups=[]:=by
 cases r0 with
 |eff c a ups s=>exact absurd rfl (hn c a ups s)
 |call f args=>exact absurd rfl (hc f args)
 |_=>simp only[ff]at hr;first|(cases hr;rfl) |cases hr
theorem zO {ts:Tis}{G:Cons}{ops:List Oper}{K:St->Prop}{Z:Value->St->Prop}{o:Oper}{rest:List Oper}{i b:Nat}{fps:List Fp}{st:St}(h:fh ts G ops K Z (o::rest) i b fps st):
  (∃ r,ff G st.h st.h.length (opS ⟨ts,ops,o.guard,st,st.h.length⟩ o.op)=some r/\
   (o.guard=none->r.c/\(r.a->fh ts G ops K Z rest (i+1) b (fps++[fpU o.op (fpO ⟨ts,ops,o.guard,st,st.h.length⟩ o.op) r.all r.ups]) (St.put ⟨st.t,aD st.h r.ups⟩ o.dst r.s)))/\
   (∀ g,o.guard=some g->(co ops st.t ops.length g->r.c)/\((r.ups=[]/\fh ts G ops K Z rest (i+1) b (fps++[fpU o.op (fpO ⟨ts,ops,o.guard,st,st.h.length⟩ o.op) r.all []]) (st.put o.dst (.gd g.1 g.2 r.s)))\/
    (¬ (co ops st.t ops.length g/\dD ops st.t ops.length g)/\(co ops st.t ops.length g->r.a->fh ts G ops K Z rest (i+1) b (fps++[fpU o.op (fpO ⟨ts,ops,o.guard,st,st.h.length⟩ o.op) r.all r.ups]) (St.put ⟨st.t,aD st.h r.ups⟩ o.dst (.gd g.1 g.2 r.s)))/\
     (dD ops st.t ops.length g->fh ts G ops K Z rest (i+1) b (fps++[fpU o.op (fpO ⟨ts,ops,o.guard,st,st.h.length⟩ o.op) r.all []]) (st.put o.dst (.gd g.1 g.2 r.s)))))))\/
  (kM ops b fps/\sK ops i=true/\AY G ops o.dst st (fun st'=>fh ts G ops K Z rest (i+1) (i+1) [] st') Z o.guard (opS ⟨ts,ops,o.guard,st,st.h.length⟩ o.op)):=by
 simp only[fh]at h;cases hg:o.guard with
 |none=>
  rw[hg]at h;simp only at h;cases hd:ff G st.h st.h.length (opS ⟨ts,ops,none,st,st.h.length⟩ o.op)with
  |none=>rw[hd]at h;exact .inr h
  |some r=>
   rw[hd]at h;exact .inl ⟨r,rfl,fun _=>h,fun g e=>by cases e⟩
 |some g=>
  rw[hg]at h;simp only at h;cases hd:ff G st.h st.h.length (opS ⟨ts,ops,some g,st,st.h.length⟩ o.op)with
  |none=>rw[hd]at h;exact .inr h
  |some r=>
   rw[hd]at h;simp only[nc,drG]at h;cases hu:r.ups.isEmpty with
   |false=>
    rw[hu]at h;refine .inl ⟨r,rfl,⟨fun e=>?_,fun g' e=>?_⟩⟩
    ·cases e
    ·cases e;exact⟨fun hp=>(h.2.1 hp).1,.inr ⟨h.1,fun hp=>(h.2.1 hp).2,h.2.2⟩⟩
   |true=>
    rw[hu]at h;refine .inl ⟨r,rfl,⟨fun e=>?_,fun g' e=>?_⟩⟩
    ·cases e
    ·cases e;exact⟨h.1,.inl ⟨List.isEmpty_iff.1 hu,h.2⟩⟩
section
variable {P:Program}{F:Nat->Prop}{own own':Own}{w w':World}{ts:Tis}
variable {w0:Bs}{ro:Option Nat}{nd:Nat}{N n:Nat}{ops:List Oper}{st:St}{a:Act}{G:Cons}
theorem A3 {nx:Nat}{E:Nat->Prop}(hts:ts.ok P)(hi:SInv F w0 N ops E own st a w)(hn:NxOk own st.h nx){o:Oper}(hgo:GOk ops a o.guard)(hgn:∀ k c,o.guard=some (k,c)->E k/\h_ ops k):
  xX P F own w st.h ((execOp a.eval o).run P w) (opS ⟨ts,ops,o.guard,st,nx⟩ o.op):=
 zB (P:=P) (ts:=ts) (ops:=ops) (g:=o.guard) (t:=st.t) (h:=st.h) (nx:=nx) hts hi.hp hn (a:=a) (o:=o) (wy hi hgo hgn) (fun c x y _=>⟨fun hc=>nR hi hgo hgn c x true hc,fun hc=>nR hi hgo hgn c y false hc⟩)
theorem zP {α:Type}(f:Nat->α)(m:Nat):(List.range (m+1)).map f=f 0::(List.range m).map (fun i=>f (i+1)):=by
 rw[List.range_succ_eq_map];simp[Function.comp_def]
theorem sim (hts:ts.ok P)(hG:ConsOk P G)(hr:ROk N ops){K:St->Prop}{Z:Value->St->Prop}:∀ (rest:List Oper) (n:Nat) (own:Own) (st:St) (a:Act) (w:World) (b:Nat) (fps:List Fp),ops.drop n=rest->SInv F w0 N ops (· <n) own st a w->fh ts G ops K Z rest n b fps st->
  ∃ (m:Nat) (S:Nat->St) (s:Nat->SV) (ups:Nat->List Up) (fs:Nat->Fp) (R:Nat->Dr),S 0=st/\Piece ts G ops n m S s ups fs R/\kM ops b (fps++(List.range m).map fs)/\Gc ts G ops K Z (n+m) (S m)
 | [],n,own,st,a,w,b,fps,hd,hi,hx=>by
  have hn:ops.length<=n:=by
   have:=congrArg List.length hd;simp at this;omega
  exact⟨0,fun _=>st,fun _=>.any,fun _=>[],fun _=>⟨[],[],[],[],[]⟩,fun _=>⟨True,True,.any,[],[]⟩,rfl,⟨fun i h=>by omega⟩,by simpa using hx.1,.inl ⟨hn,hx.2⟩⟩
 |o::rest,n,own,st,a,w,b,fps,hd,hi,hx=>by
  obtain⟨ho,hd'⟩:=tj hd;have hgE:∀ j b,o.guard=some (j,b)->j<n:=fun j b e=>hr.lt n o j b ho e;rcases zO hx with⟨r,h1,h2,h3⟩ | ⟨h1,h2,h3⟩
  ·
   have hgo2:∀ (s:SV) (ups:List Up) (own':Own) (a':Act) (w':World),(o.guard=none->r.c/\s=r.s/\ups=r.ups)->(∀ g,o.guard=some g->(co ops st.t ops.length g->r.c)/\((r.ups=ups/\s=.gd g.1 g.2 r.s/\(ups=[]\/¬dD ops st.t ops.length g))\/(ups=[]/\s=.gd g.1 g.2 r.s/\¬co ops st.t ops.length g)))->
     SInv F w0 N ops (· <n+1) own' (St.put ⟨st.t,aD st.h ups⟩ o.dst s) a' w'->fh ts G ops K Z rest (n+1) b (fps++[fpU o.op (fpO ⟨ts,ops,o.guard,st,st.h.length⟩ o.op) r.all ups]) (St.put ⟨st.t,aD st.h ups⟩ o.dst s)->
     ∃ (m:Nat) (S:Nat->St) (s:Nat->SV) (ups:Nat->List Up) (fs:Nat->Fp) (R:Nat->Dr),S 0=st/\Piece ts G ops n m S s ups fs R/\kM ops b (fps++(List.range m).map fs)/\Gc ts G ops K Z (n+m) (S m):=by
    intro s ups own' a' w' q1 q2 q3 q4;obtain⟨m,S,s',ups',fs,R,e0,e1,e2,e3⟩:=sim hts hG hr rest (n+1) own' _ a' w' b _ hd' q3 q4;refine⟨m+1,fun i=>match i with|0=>st|i+1=>S i,fun i=>match i with|0=>s|i+1=>s' i,fun i=>match i with|0=>ups|i+1=>ups' i,fun i=>match i with|0=>fpU o.op (fpO ⟨ts,ops,o.guard,st,st.h.length⟩ o.op) r.all ups|i+1=>fs i,fun i=>match i with|0=>r|i+1=>R i,rfl,⟨fun i hi=>?_⟩,?_,?_⟩
    ·cases i with
     |zero=>exact⟨o,ho,⟨h1,e0,rfl,q1,q2⟩⟩
     |succ i=>
      obtain⟨o',k1,k2⟩:=e1.fact i (by omega);exact⟨o',by rw[show n+(i+1)=n+1+i by omega];exact k1,k2⟩
    ·rw[zP];simpa using e2
    ·rw[show n+(m+1)=n+1+m by omega];exact e3
   by_cases hgo:GOk ops a o.guard
   ·have hrun:=A3 hts hi hi.hp.nx hgo (fun k c e=>⟨hgE k c e,n,o,c,ho,e⟩);have hc:r.c:=by
     cases hg:o.guard with
     |none=>exact(h2 hg).1
     |some g=>exact(h3 g hg).1 (lR hi n (fun _ _ _ _ _ _ _ _=>rfl) hr.lt _ g (hgE g.1 g.2 hg) (hgE g.1 g.2 hg) ⟨n,o,g.2,ho,hg⟩ (by rw[<-hg];exact hgo))
    obtain⟨ha,⟨u,own',w',k1,k2⟩,_⟩:=H8 (ro:=none) (nd:=0) (a:=a) (o:=o) hG hi.hp hi.hp.nx hrun h1 hc;have hstep:=hi.stepe hr (lr n) (Nat.lt_irrefl n) ho hgE hgo k2.hp k2.fr k1;cases hg:o.guard with
    |none=>exact hgo2 r.s r.ups own' _ w' (fun _=>⟨hc,rfl,rfl⟩) (fun g e=>by rw[hg]at e;cases e) hstep.1 ((h2 hg).2 ha)
    |some g=>
     have h3':=h3 g hg;rcases h3'.2 with⟨e0,hx⟩ | ⟨nb,hP,_⟩
     ·refine hgo2 (.gd g.1 g.2 r.s) [] own' (a.put o.dst u) w' (fun e=>by rw[hg]at e;cases e) (fun g' e=>by rw[hg]at e;cases e;exact⟨h3'.1,.inl ⟨e0,rfl,.inl rfl⟩⟩) ?_ hx;have:=hstep.2 g hg;rw[e0]at this;exact this
     ·have hPp:=lR hi n (fun _ _ _ _ _ _ _ _=>rfl) hr.lt ops.length g (hgE g.1 g.2 hg) (hgE g.1 g.2 hg) ⟨n,o,g.2,ho,hg⟩ (by rw[<-hg];exact hgo);exact hgo2 (.gd g.1 g.2 r.s) r.ups own' (a.put o.dst u) w' (fun e=>by rw[hg]at e;cases e) (fun g' e=>by rw[hg]at e;cases e;exact⟨h3'.1,.inl ⟨rfl,rfl,.inr fun hn=>nb ⟨hPp,hn⟩⟩⟩) (hstep.2 g hg) (hP hPp ha)
   ·cases hg:o.guard with
    |none=>exact absurd (by rw[hg];trivial) hgo
    |some g=>
     have h3':=h3 g hg;rcases h3'.2 with⟨e0,hx⟩ | ⟨nb,_,hN⟩
     ·exact hgo2 (.gd g.1 g.2 r.s) [] own _ w (fun e=>by rw[hg]at e;cases e) (fun g' e=>by rw[hg]at e;cases e;exact⟨h3'.1,.inl ⟨e0,rfl,.inl rfl⟩⟩) (hi.skip hr (lr n) (Nat.lt_irrefl n) ho hgE hgo hg) hx
     ·have hNn:=qH hi ops.length g (hgE g.1 g.2 hg) ⟨n,o,g.2,ho,hg⟩ (by rw[<-hg];exact hgo);exact hgo2 (.gd g.1 g.2 r.s) [] own _ w (fun e=>by rw[hg]at e;cases e) (fun g' e=>by rw[hg]at e;cases e;exact⟨h3'.1,.inr ⟨rfl,rfl,fun hp=>nb ⟨hp,hNn⟩⟩⟩) (hi.skip hr (lr n) (Nat.lt_irrefl n) ho hgE hgo hg) (hN hNn)
  ·
   exact⟨0,fun _=>st,fun _=>.any,fun _=>[],fun _=>⟨[],[],[],[],[]⟩,fun _=>⟨True,True,.any,[],[]⟩,rfl,⟨fun i h=>by omega⟩,by simpa using h1,.inr ⟨o,ho,h2,by rw[show n+0+1=n+1 by omega,hd'];exact h3⟩⟩
variable {b m:Nat}{S:Nat->St}{s:Nat->SV}{ups:Nat->List Up}{fs:Nat->Fp}{R:Nat->Dr}
theorem H9 (st:St)(d:Option Nat)(s:SV):(st.put d s).h=st.h:=by cases d <;>rfl
theorem zQ (st:St)(d:Option Nat)(s:SV)(t:Nat):lk t (st.put d s).t=if d=some t then s else lk t st.t:=by
 cases d with
 |none=>rfl
 |some d=>
  show lk t ((d,s)::st.t)=_;rw[jo];by_cases h:d=t
  ·subst h;simp
  ·rw[if_neg h,if_neg (fun e=>h (by simpa using e))]
theorem Piece.hstep (hp:Piece ts G ops b m S s ups fs R){i:Nat}(hi:i<m):(S (i+1)).h=aD (S i).h (ups i):=by
 obtain⟨o,_,f⟩:=hp.fact i hi;rw[f.nxt,H9]
theorem Piece.len (hp:Piece ts G ops b m S s ups fs R){i:Nat}:∀ {j:Nat},i<=j->j<=m->(S i).h.length<=(S j).h.length
 |0,h,_=>by
   have:i=0:=by omega
   subst this;exact Nat.le_refl _
 |j+1,h,hj=>by
  by_cases e:i=j+1
  ·subst e;exact Nat.le_refl _
  ·refine Nat.le_trans (Piece.len hp (j:=j) (by omega) (by omega)) ?_;rw[hp.hstep (by omega)];exact oU _ _
theorem Piece.same (hp:Piece ts G ops b m S s ups fs R){id i:Nat}:∀ {j:Nat},i<=j->j<=m->(∀ k,i<=k->k<j->id ∉ c8 (ups k))->ae (S i).h id=ae (S j).h id
 |0,h,_,_=>by
   have:i=0:=by omega
   subst this;rfl
 |j+1,h,hj,hk=>by
  by_cases e:i=j+1
  ·subst e;rfl
  ·rw[Piece.same hp (j:=j) (by omega) (by omega) (fun k h1 h2=>hk k h1 (by omega)),hp.hstep (by omega),iv (hk j (by omega) (by omega))]
theorem Piece.like (hp:Piece ts G ops b m S s ups fs R){id i:Nat}:∀ {j:Nat},i<=j->j<=m->(∀ k,i<=k->k<j->id∈(fs k).tc->False)->ObUp (ae (S i).h id) (ae (S j).h id)
 |0,h,_,_=>by
   have:i=0:=by omega
   subst this;exact .refl _
 |j+1,h,hj,hk=>by
  by_cases e:i=j+1
  ·subst e;exact .refl _
  ·refine(Piece.like hp (j:=j) (by omega) (by omega) (fun k h1 h2=>hk k h1 (by omega))).trans ?_;obtain⟨o,ho,f⟩:=hp.fact j (by omega);rw[hp.hstep (by omega)];by_cases hm:id∈c8 (ups j)
   ·have hno:=hk j (by omega) (by omega);rw[f.fp]at hno;unfold fpU at hno;cases he:lh o.op with
    |false=>rw[he]at hno;exact(hno hm).elim
    |true=>
     have e3:ups j=[]\/ups j=(R j).ups:=by
      cases hg:o.guard with
      |none=>exact .inr (f.plain hg).2.2
      |some g=>
       rcases(f.guarded g hg).2 with⟨e,_⟩ | ⟨e,_⟩
       ·exact .inr e.symm
       ·exact .inl e
     rcases e3 with e3|e3
     ·rw[e3]at hm;simp[c8]at hm
     ·have hdr:=f.dr;cases hop:opS ⟨ts,ops,o.guard,S j,(S j).h.length⟩ o.op with
      |eff c a' ups' s'=>
       rw[hop]at hdr;simp only[ff,Option.some.injEq]at hdr;rw[e3,<-hdr];exact DL (g_ (Nat.le_refl _)) he hop id
      |_=>
       rw[hop]at hdr;rw[e3,DM hdr (fun _ _ _ _ e=>by cases e) (fun f args e=>wL he (hop.trans e))]at hm;simp[c8]at hm
   ·rw[iv hm];exact .refl _
end
theorem ye {x y:Fp}{id:Nat}(h1:id∈x.tc\/id∈x.wt)(h2:id∈y.tc\/id∈y.wt):lj x y=true:=by
 unfold lj;rcases h1 with h1|h1 <;>rcases h2 with h2|h2 <;>simp[lT h1 h2]
theorem DN {x y:Fp}{id:Nat}(h1:id∈x.rd)(h2:id∈y.tc\/id∈y.wt):lj x y=true:=by
 unfold lj;rcases h2 with h2|h2 <;>simp[lT h1 h2]
theorem DO {x y:Fp}{id:Nat}(h1:id∈x.wk)(h2:id∈y.tc):lj x y=true:=by
 unfold lj;simp[lT h1 h2]
theorem Ch {x y:Fp}{id:Nat}(h1:id∈x.all)(h2:id∈y.tc\/id∈y.wt):lj x y=true:=by
 unfold lj;rcases h2 with h2|h2 <;>simp[lT h1 h2]
section
variable {P:Program}{F:Nat->Prop}{own own':Own}{w w':World}{ts:Tis}
variable {w0:Bs}{ro:Option Nat}{nd:Nat}{N n:Nat}{ops:List Oper}{st:St}{a:Act}{G:Cons}
variable {b m:Nat}{S:Nat->St}{s:Nat->SV}{ups:Nat->List Up}{fs:Nat->Fp}{R:Nat->Dr}
theorem Piece.touch (hp:Piece ts G ops b m S s ups fs R){i id:Nat}(hi:i<m)(h:id∈c8 (ups i)):id∈(fs i).tc\/id∈(fs i).wt:=by
 obtain⟨o,_,f⟩:=hp.fact i hi;rw[f.fp];unfold fpU;cases lh o.op
 ·exact .inl h
 ·exact .inr h
theorem Piece.touched (hp:Piece ts G ops b m S s ups fs R){i id:Nat}(hi:i<m)(h:id∈(fs i).tc):id∈c8 (ups i):=by
 obtain⟨o,_,f⟩:=hp.fact i hi;rw[f.fp]at h;unfold fpU at h;cases he:lh o.op <;>rw[he]at h
 ·exact h
 ·cases h
theorem Piece.lt (hp:Piece ts G ops b m S s ups fs R){i id:Nat}(hi:i<m)(h:id∈c8 (ups i)):id< (S (i+1)).h.length:=by
 rw[hp.hstep hi];exact ve h
theorem Piece.lk (hp:Piece ts G ops b m S s ups fs R)(t:Nat):∀ k,k<=m->(∃ (j:Nat) (q:Oper),j<k/\ops[b+j]? =some q/\q.dst=some t/\Sx.lk t (S k).t=s j)\/((∀ (j:Nat) (q:Oper),j<k->ops[b+j]? =some q->q.dst≠some t)/\Sx.lk t (S k).t=Sx.lk t (S 0).t)
 |0,_=>.inr ⟨fun j q h=>by omega,rfl⟩
 |k+1,hk=>by
  obtain⟨o,ho,f⟩:=hp.fact k (by omega);have hl:Sx.lk t (S (k+1)).t=if o.dst=some t then s k else Sx.lk t (S k).t:=by rw[f.nxt,zQ]
  by_cases hd:o.dst=some t
  ·exact .inl ⟨k,o,by omega,ho,hd,by rw[hl,if_pos hd]⟩
  ·rw[if_neg hd]at hl;rcases Piece.lk hp t k (by omega)with⟨j,q,h1,h2,h3,h4⟩ | ⟨h1,h2⟩
   ·exact .inl ⟨j,q,by omega,h2,h3,by rw[hl,h4]⟩
   ·refine .inr ⟨fun j q hj hq=>?_,by rw[hl,h2]⟩;by_cases hjk:j<k
    ·exact h1 j q hjk hq
    ·have:j=k:=by omega
     subst this;rw[ho]at hq;cases hq;exact hd
structure DInv (F:Nat->Prop)(w0:Bs)(N:Nat)(ops:List Oper)(b m:Nat)(S:Nat->St)(s:Nat->SV)(ups:Nat->List Up)(listed:Array Bool)(own:Own)(st:St)(a:Act)(w:World):Prop where
 inv:SInv F w0 N ops (fun k=>listed[k]? =some true) own st a w
 size:listed.size=ops.length
 low:∀ k,k<b->k<ops.length->listed[k]? =some true
 high:∀ k,b+m<=k->¬listed[k]? =some true
 put:∀ (k:Nat) (q:Oper) (d:Nat),k<m->listed[b+k]? =some true->ops[b+k]? =some q->q.dst=some d->lk d st.t=s k
 old:∀ t,(∀ (k:Nat) (q:Oper),k<m->listed[b+k]? =some true->ops[b+k]? =some q->q.dst≠some t)->lk t st.t=lk t (S 0).t
 closed:sb ops (fun k=>listed[k]? =some true)
 heap:∀ id,∃ p,p<=m/\(∀ k,k<m->id∈c8 (ups k)->(listed[b+k]? =some true↔k<p))/\ae st.h id=ae (S p).h id
 dom:∀ id,own id=none\/id< (S 0).h.length\/∃ k,k<m/\listed[b+k]? =some true/\id∈c8 (ups k)
theorem pG {listed:Array Bool}{k:Nat}(h:listed.getD k true=false):listed[k]? =some false:=by
 simp only[Array.getD_eq_getD_getElem?]at h;cases hk:listed[k]? with
 |none=>rw[hk]at h;simp at h
 |some b=>rw[hk]at h;simp at h;rw[h]
theorem yf {listed:Array Bool}{k:Nat}(h:listed.getD k false=true):listed[k]? =some true:=by
 simp only[Array.getD_eq_getD_getElem?]at h;cases hk:listed[k]? with
 |none=>rw[hk]at h;simp at h
 |some b=>rw[hk]at h;simp at h;rw[h]
theorem yg {listed:Array Bool}{n:Nat}(hn:listed[n]? =some false)(k:Nat):(listed.setIfInBounds n true)[k]? =some true↔listed[k]? =some true\/k=n:=by
 have hlt:n<listed.size:=(Array.getElem?_eq_some_iff.1 hn).1;rw[Array.getElem?_setIfInBounds];by_cases h:n=k
 ·subst h;simp[hlt]
 ·rw[if_neg h];constructor
  ·exact .inl
  ·rintro (h'|h')
   ·exact h'
   ·exact absurd h'.symm h
theorem vh:∀ (l:List Bool) (i:Nat),l[i]? =some false->(l.set i true).count false+1=l.count false
 | [],i,h=>by simp at h
 |b::r,0,h=>by simp at h;subst h;simp
 |b::r,i+1,h=>by
  simp at h;have:=vh r i h;simp only[List.set_cons_succ,List.count_cons];omega
theorem DP {o:Oper}{n:Nat}(h:Operand.tmp n∈o.op.operands.toList):n∈o.looksAt ops.toArray:=by
 unfold Oper.looksAt;rw[List.mem_append];left;rw[List.mem_filterMap];exact⟨_,h,rfl⟩
variable {listed:Array Bool}
theorem DInv.order (hi:DInv F w0 N ops b m S s ups listed own st a w){k:Nat}{o:Oper}(ho:ops[b+k]? =some o)(hni:listed[b+k]? =some false)(hw:∀ j,jk o j=true->listed[j]? =some true){j:Nat}(hne:j≠k)(hord:Ord ops (b+k) (b+j)):
  (j<k/\listed[b+j]? =some true)\/(k<j/\¬listed[b+j]? =some true):=by
 rcases hord with⟨h1,h2⟩ | ⟨h1,h2⟩
 ·left;refine⟨by omega,?_⟩;have:=wK (ops:=ops) (S:=fun i=>listed[i]? =some true\/i=b+k) (fun i q j' hS hq hj'=>?_) (.inr rfl) h2
  ·exact this.resolve_right (by omega)
  ·rcases hS with hS|rfl
   ·exact .inl (hi.closed i q j' hS hq hj')
   ·rw[ho]at hq;cases hq;exact .inl (hw j' hj')
 ·right;refine⟨by omega,fun hl=>?_⟩;have:=wK hi.closed hl h2;rw[hni]at this;cases this
theorem DInv.obj (hi:DInv F w0 N ops b m S s ups listed own st a w)(hp:Piece ts G ops b m S s ups fs R){k:Nat}(hk:k<m)(hni:listed[b+k]? =some false){id:Nat}
  (hor:∀ j,j<m->j≠k->id∈c8 (ups j)->(j<k/\listed[b+j]? =some true)\/(k<j/\¬listed[b+j]? =some true)):ae (S k).h id=ae st.h id:=by
 obtain⟨p,h1,h2,h3⟩:=hi.heap id;rw[h3];have hnk:¬listed[b+k]? =some true:=by rw[hni];simp
 by_cases hpk:p<=k
 ·refine(hp.same hpk (by omega) fun j q1 q2 hm=>?_).symm;rcases hor j (by omega) (by omega) hm with⟨_,hl⟩ | ⟨h,_⟩
  ·have:=(h2 j (by omega) hm).1 hl;omega
  ·omega
 ·refine hp.same (by omega) h1 fun j q1 q2 hm=>?_;have hl:=(h2 j (by omega) hm).2 q2;by_cases e:j=k
  ·subst e;exact hnk hl
  ·rcases hor j (by omega) e hm with⟨h,_⟩ | ⟨_,h⟩
   ·omega
   ·exact h hl
theorem DInv.objUp (hi:DInv F w0 N ops b m S s ups listed own st a w)(hp:Piece ts G ops b m S s ups fs R){k:Nat}(hk:k<m)(hni:listed[b+k]? =some false){id:Nat}
  (hor:∀ j,j<m->j≠k->id∈(fs j).tc->(j<k/\listed[b+j]? =some true)\/(k<j/\¬listed[b+j]? =some true)):ObUp (ae (S k).h id) (ae st.h id):=by
 obtain⟨p,h1,h2,h3⟩:=hi.heap id;rw[h3];have hnk:¬listed[b+k]? =some true:=by rw[hni];simp
 by_cases hpk:p<=k
 ·refine(hp.like hpk (by omega) fun j q1 q2 hm=>?_).symm;rcases hor j (by omega) (by omega) hm with⟨_,hl⟩ | ⟨h,_⟩
  ·have:=(h2 j (by omega) (hp.touched (by omega) hm)).1 hl;omega
  ·omega
 ·refine hp.like (by omega) h1 fun j q1 q2 hm=>?_;have hl:=(h2 j (by omega) (hp.touched (by omega) hm)).2 q2;by_cases e:j=k
  ·subst e;exact hnk hl
  ·rcases hor j (by omega) e hm with⟨h,_⟩ | ⟨_,h⟩
   ·omega
   ·exact h hl
theorem DInv.reads (hd:DOk ops)(hi:DInv F w0 N ops b m S s ups listed own st a w)(hp:Piece ts G ops b m S s ups fs R){k:Nat}{o:Oper}(hk:k<m)(ho:ops[b+k]? =some o)(hni:listed[b+k]? =some false)
  (hw:∀ j,jk o j=true->listed[j]? =some true) {d:Nat} (hm:d∈o.looksAt ops.toArray):lk d (S k).t=lk d st.t:=by
 rcases hp.lk d k (by omega)with⟨j,q,h1,h2,h3,h4⟩ | ⟨h1,h2⟩
 ·rw[h4];rcases hd.look (b+k) (b+j) o q d ho h2 h3 hm with e| ⟨_,e⟩ | ⟨e,_⟩
  ·omega
  ·exact(hi.put j q d (by omega) (hw _ e) h2 h3).symm
  ·omega
 ·rw[h2];refine(hi.old d fun j q hj hl hq hqd=>?_).symm;rcases hd.look (b+k) (b+j) o q d ho hq hqd hm with e| ⟨e,_⟩ | ⟨_,e⟩
  ·rw[e,hni]at hl;cases hl
  ·exact h1 j q (by omega) hq hqd
  ·have:listed[b+k]? =some true:=hi.closed _ q _ hl hq e;rw[hni]at this;cases this
theorem DInv.full (hd:DOk ops)(hi:DInv F w0 N ops b m S s ups listed own st a w)(hp:Piece ts G ops b m S s ups fs R)(hall:∀ k,k<m->listed[b+k]? =some true):SInv F w0 N ops (fun k=>listed[k]? =some true) own (S m) a w:=by
 have ht:∀ t,lk t (S m).t=lk t st.t:=fun t=>by
  rcases hp.lk t m (Nat.le_refl _)with⟨j,q,h1,h2,h3,h4⟩ | ⟨h1,h2⟩
  ·rw[h4];exact(hi.put j q t h1 (hall j h1) h2 h3).symm
  ·rw[h2];exact(hi.old t fun k q hk _ hq=>h1 k q hk hq).symm
 have hh:∀ id,ae (S m).h id=ae st.h id:=fun id=>by
  obtain⟨p,h1,h2,h3⟩:=hi.heap id;rw[h3];refine(hp.same h1 (Nat.le_refl _) fun j q1 q2 hm=>?_).symm;have:=(h2 j q2 hm).1 (hall j q2);omega
 refine⟨hi.inv.size,hi.inv.defers,⟨fun id hd e=>?_,hi.inv.hp.foreign,hi.inv.hp.apart,hi.inv.hp.inj,hi.inv.hp.lt,fun id hdd=>?_⟩,hi.inv.fr,fun t=>by rw[ht];exact hi.inv.slots t,fun k o d j b s h1 h2 h3 h4 h5=>hi.inv.tags k o d j b s h1 h2 h3 h4 (by rw[<-ht];exact h5),hi.inv.closed,hi.inv.chain⟩
 ·rcases hi.dom id with h|h| ⟨k,h1,_,h2⟩
  ·rw[h]at e;cases e
  ·exact Nat.lt_of_lt_of_le h (hp.len (Nat.zero_le _) (Nat.le_refl _))
  ·exact Nat.lt_of_lt_of_le (hp.lt h1 h2) (hp.len (by omega) (Nat.le_refl _))
 ·rw[hh]at hdd |-;exact hi.inv.hp.obs id hdd
theorem DInv.start (hi:SInv F w0 N ops (· <b) own (S 0) a w)(hsz:listed.size=ops.length)(hl:∀ k,k<ops.length->(listed[k]? =some true↔k<b))(hr:ROk N ops)(hback:∀ (i:Nat) (o:Oper) (j:Nat),ops[i]? =some o->jk o j=true->j<i):DInv F w0 N ops b m S s ups listed own (S 0) a w:=by
 have hE:∀ k,listed[k]? =some true->k<b:=fun k h=>(hl k (by have:=(Array.getElem?_eq_some_iff.1 h).1;omega)).1 h;have hnone:∀ {k:Nat},¬listed[b+k]? =some true:=fun {k} h=>by have:=hE _ h;omega
 refine⟨⟨hi.size,hi.defers,hi.hp,hi.fr,fun t=>?_,fun k o d j b' s h1=>hi.tags k o d j b' s (hE k h1),fun k o j b' h1 h2 h3=>?_,fun k o b' h1=>hi.chain k o b' (hE k h1)⟩,hsz,fun k h1 h2=>(hl k h2).2 h1,fun k h1 h2=>by have:=hE k h2;omega,fun k q d _ h=>absurd h hnone,fun t _=>rfl,fun i o j h1 h2 h3=>?_,fun id=>⟨0,Nat.zero_le _,fun k hk _=>⟨fun h=>absurd h hnone,fun h=>by omega⟩,rfl⟩,fun id=>?_⟩
 ·have h:=hi.slots t;cases hs:lk t (S 0).t with
  |gd j b' s'=>
   rw[hs]at h;obtain⟨q1,⟨i,o,b2,q2,q3⟩,q4⟩:=h;have hlt:=(List.getElem?_eq_some_iff.1 q2).1;have:=hr.lt i o j b2 q2 q3;exact⟨(hl j (by omega)).2 q1,⟨i,o,b2,q2,q3⟩,q4⟩
  |_=>rw[hs]at h;exact h
 ·have hlt:=(List.getElem?_eq_some_iff.1 h2).1;have:=hr.lt k o j b' h2 h3;exact(hl j (by omega)).2 (by have:=hE k h1;omega)
 ·have hlt:=(List.getElem?_eq_some_iff.1 h2).1;have h4:=hback i o j h2 h3;exact(hl j (by omega)).2 (by have:=hE i h1;omega)
 ·cases ho:own id with
  |none=>exact .inl rfl
  |some hd=>exact .inr (.inl (hi.hp.dom id hd ho))
end
end Go.Sx
end
