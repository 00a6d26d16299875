/- Part of the proof that the law JudgementServed returns true and leaves its arguments as they were, for all arguments of bulk at most 1048576 (the Upto form). -/
import Derived.Test.YtnanafpgfihjfaaGreatJ704
import Derived.TacticsIn
import Derived.OrdersIn
import Derived.Deep.LoopGhost
set_option linter.all false
set_option maxHeartbeats 4000000
set_option maxRecDepth 100000
section
namespace Go.Sx
open Go.RowKit
theorem Fh {α:Type}{l r:List α}{x:α}{n:Nat}(h:l.drop n=x::r):l[n]? =some x/\l.drop (n+1)=r:=by
 have h1:(l.drop n)[0]? =some x:=by rw[h];rfl
 have h2:(l.drop n).drop 1=r:=by rw[h];rfl
 grind [List.drop_drop]
theorem oJ {ops:List Oper}{a:Act}{o:Oper}:(Region.wanted o (yielded ops.toArray a.tmps)=true)↔GOk ops a o.guard:=by
 grind [Region.wanted,GOk]
theorem xJ (n:Nat)(ih:∀ b s,aS n s=[]->ji n b s=s):∀ (l:List SV) (b:Nat),l.flatMap (aS n)=[]->th (ji n) (fun s=>(aS n s).length) b l=l
 | [],_,_=>rfl
 |x::r,b,h=>by
  simp only[ai5,akG]at h;simp only[th];rw[ih b x h.1,xJ n ih r _ h.2]
theorem Dw:∀ (n b:Nat) (s:SV),aS n s=[]->ji n b s=s:=by
 intro n;induction n with
 |zero=>intro b s h;cases s <;>simp[aS]at h <;>rfl
 |succ n ih=>
  intro b s h;cases s with
  |agg l=>grind [aS,ji,xJ]|tup l=>grind [aS,ji,xJ]
  |_=>first|rfl|simp[aS]at h
section
variable {P:Program}{F:Nat->Prop}{own own':Own}{w w':World}{ts:Tis}
theorem Jl:∀ (n:Nat) (s:SV) (v:Value),Rel F own w s v->∀ id∈gf n s,∃ hd,own id=some hd:=by
 intro n;induction n with
 |zero=>
  intro s v hr id hm;cases hr with
  |ptr h1 h2=>grind [gf]|os h1 h2=>grind [gf]|rp h1 h2 h3=>grind [gf]|gr h1 h2 h3=>grind [gf]|gp h1 h2 h3=>grind [gf]|vw h1 h2=>grind [gf]|_=>simp[gf]at hm
 |succ n ih=>
  intro s v hr id hm;have hlist:∀ (l:List SV) (c:Nat->Value),(∀ (j:Nat) (s:SV),l[j]? =some s->Rel F own w s (c j))->id∈l.flatMap (gf n)->∃ hd,own id=some hd:=by
   intro l c hl hm;obtain⟨x,hx,hi⟩:=aj3.1 hm;obtain⟨j,hj⟩:=aiU hx;grind
  cases hr with
  |ptr h1 h2=>grind [gf]|os h1 h2=>grind [gf]|rp h1 h2 h3=>grind [gf]|gr h1 h2 h3=>grind [gf]|gp h1 h2 h3=>grind [gf]|vw h1 h2=>grind [gf]
  |ep c h1 h2=>exact hlist _ c h2 (by grind [gf])
  |ls c h0 h1 h2=>exact hlist _ c h2 (by grind [gf])
  |agg h0 h1=>exact hlist _ _ h1 (by grind [gf])
  |tup h0 h1=>exact hlist _ _ h1 (by grind [gf])
  |fn h0 h0' h1 h2=>
   simp only[gf,aix]at hm;rcases hm with hm|hm;exact hlist _ _ h1 hm;exact hlist _ _ h2 hm
  |_=>simp[gf]at hm
theorem zJ {h:List Ob}(hp:Hp F own w h):∀ (n:Nat) (todo acc:List Nat),(∀ id∈todo,∃ hd,own id=some hd)->(∀ id∈acc,∃ hd,own id=some hd)->∀ id∈reach h n todo acc,∃ hd,own id=some hd
 |0,_,acc,_,h2=>h2|n+1,[],acc,_,h2=>h2
 |n+1,id::todo,acc,h1,h2=>by
  simp only[reach];cases hm:DP id acc with
  |true=>exact zJ hp n _ _ (fun i hi=>h1 i (by simp[hi])) h2
  |false=>
   refine zJ hp n _ _ (fun i hi=>?_) (fun i hi=>?_)
   ·rcases aix.1 hi with hi|hi;cases ho:ar h id with
    |cells l=>
     rw[ho]at hi;obtain⟨hd,e1,e2⟩:=hp.at ho rfl;obtain⟨b,cs,ty,q1,q2,q3,q4,q5⟩:=e2;obtain⟨x,hx,hxi⟩:=aj3.1 hi;obtain⟨j,hj⟩:=aiU hx;exact Jl 3 x _ (q5 j x hj) i hxi
    |_=>rw[ho]at hi;simp[R3]at hi
    grind
   rcases aix.1 hi with hi|hi <;>simp_all
theorem Fi {h:List Ob}(hp:Hp F own w h){args:List SV}{vs:Array Value}(hr:RelL F own w args vs):∀ id∈reach h 64 (args.flatMap (gf 3)) [],id<h.length:=fun id hm=>by
 obtain⟨hd,e⟩:=zJ hp 64 _ [] (fun i hi=>by
  obtain⟨x,hx,hxi⟩:=aj3.1 hi;obtain⟨j,hj⟩:=aiU hx;exact Jl 3 x _ (hr.2 j x hj) i hxi) (fun i hi=>by cases hi) id hm
 exact hp.dom _ _ e
variable {w0:Bs}{ro:Option Nat}{nd:Nat}{N n:Nat}{ops:List Oper}{st:St}{a:Act}{G:Cons}
theorem Fj (own:Own)(hb:Below w.heap.size w w'):Fr { w:=w,own:=own} own w':=(Fr.refl { w:=w,own:=own}).below hb
theorem vH (n k:Nat):k<n+1↔k<n\/k=n:=by omega
theorem SInv.stepv {E E':Nat->Prop}(hr:ROk N ops)(hE:∀ k,E' k↔E k\/k=n)(hnE:¬E n)(hi:SInv F w0 N ops E own st a w){o:Oper}(ho:ops[n]? =some o)(hgE:∀ j b,o.guard=some (j,b)->E j)(hgo:GOk ops a o.guard){s:SV}{u:Value}(hb:Below w.heap.size w w')(hs:Rel F own w' s u):
  SInv F w0 N ops E' own (st.put o.dst s) (a.put o.dst u) w'/\(∀ g,o.guard=some g->SInv F w0 N ops E' own (st.put o.dst (.gd g.1 g.2 s)) (a.put o.dst u) w'):=by
 have g:Fr { w:=w,own:=own} own w':=Fj own hb;have hp':=hi.hp.below hb;refine⟨hi.step hr hE hnE ho g hp' hgE (yK hs) (fun _ _=>hgo) (fun j b s' e=>?_),fun gg hgg=>hi.step hr hE hnE ho g hp' hgE ⟨(hE _).2 (.inl (hgE _ _ hgg)),⟨n,o,gg.2,ho,hgg⟩,fun _=>hs⟩ (fun _ _=>hgo) (fun j b s' e=>?_)⟩;subst e;cases hs;grind
theorem SInv.stepe {E E':Nat->Prop}(hr:ROk N ops)(hE:∀ k,E' k↔E k\/k=n)(hnE:¬E n)(hi:SInv F w0 N ops E own st a w){o:Oper}(ho:ops[n]? =some o)(hgE:∀ j b,o.guard=some (j,b)->E j)(hgo:GOk ops a o.guard){h':List Ob}{s:SV}{u:Value}(hp:Hp F own' w' h')(hfr:Fr { w:=w,own:=own} own' w')(hs:Rel F own' w' s u):
  SInv F w0 N ops E' own' (St.put ⟨st.t,h'⟩ o.dst s) (a.put o.dst u) w'/\(∀ g,o.guard=some g->SInv F w0 N ops E' own' (St.put ⟨st.t,h'⟩ o.dst (.gd g.1 g.2 s)) (a.put o.dst u) w'):=by
 refine⟨hi.step hr hE hnE ho hfr hp hgE (yK hs) (fun _ _=>hgo) (fun j b s' e=>?_),fun gg hgg=>hi.step hr hE hnE ho hfr hp hgE ⟨(hE _).2 (.inl (hgE _ _ hgg)),⟨n,o,gg.2,ho,hgg⟩,fun _=>hs⟩ (fun _ _=>hgo) (fun j b s' e=>?_)⟩;subst e;cases hs;grind
theorem SInv.skip {E E':Nat->Prop}(hr:ROk N ops)(hE:∀ k,E' k↔E k\/k=n)(hnE:¬E n)(hi:SInv F w0 N ops E own st a w){o:Oper}(ho:ops[n]? =some o)(hgE:∀ j b,o.guard=some (j,b)->E j)(hgo:¬GOk ops a o.guard){g:Nat×Bool}(hg:o.guard=some g){s:SV}:
  SInv F w0 N ops E' own (st.put o.dst (.gd g.1 g.2 s)) (a.put o.dst undef) w:=by
 have hrf:pr ops g.1:=⟨n,o,g.2,ho,hg⟩;refine hi.step hr hE hnE ho (Fr.refl { w:=w,own:=own}) hi.hp hgE ⟨(hE _).2 (.inl (hgE _ _ hg)),hrf,fun hy=>?_⟩ (fun b hb=>by simp[undef]at hb) (fun j b s' e=>by grind);exfalso;apply hgo;rw[hg];obtain⟨q,d,h1,h2,h3⟩:=hr.uniq g.1 hrf;exact(HG h1 h2 (h3 n o (fun e=>hnE (e▸hgE _ _ hg)) ho) g.2).1 hy
theorem CH {cx:Cx}{op:Op}(h:opS cx op≠ .bad):∀ c,op≠ .defer c:=by
 rintro c rfl;exact h rfl
theorem SInv.out {E:Nat->Prop}(hi:SInv F w0 N ops E own st a w):StRel F w0 N own ⟨ungd st.t,st.h⟩ a w:=StRel.ungd hi
theorem StRel.moved {h':List Ob}(hs:StRel F w0 N own st a w)(hp:Hp F own' w' h')(hfr:Fr { w:=w,own:=own} own' w'):StRel F w0 N own' ⟨st.t,h'⟩ a w':=
 ⟨hs.size,hs.defers.fr hfr hs.hp.apart,hp,hs.fr.trans hfr,fun t=>(hs.slots t).mono hfr.goes⟩
theorem HL (own:Own)(w:World):Goes F own w own { w with drawn:=w.drawn+1}:=⟨fun _ hd h=>⟨hd,h,.refl _⟩,fun _ _ h=>⟨h,rfl⟩,aio _⟩
theorem StRel.drew {own:Own}{st:St}{a:Act}{w:World}(h:StRel F w0 N own st a w):StRel F w0 N own st a { w with drawn:=w.drawn+1}:=
 ⟨h.size,h.defers,h.hp.goes (HL own w) fun _ _ _ _ _=>rfl,h.fr.drew,fun t=>(h.slots t).mono (HL own w)⟩
def Ok (G:Cons)(ops:List Oper)(d:Option Nat)(st:St)(next:St->Prop)(Z:Value->St->Prop):Option (Nat×Bool)->OR->Prop
 |none,r=>nL G d st next Z r|some g,r=>stepG G ops g d st next Z r
theorem fX {o:Oper}{K:Act->World->Prop}{Q:Exit->Act->World->Prop}{u:Value}{run:Result Next}(hrun:run=.ok (.value u) w'\/(run=.ok .skip w'/\u=undef))(h:K (a.put o.dst u) w'):
  o.uponIn (rd ro) nd P a K Q run:=by
 rcases hrun with rfl| ⟨rfl,rfl⟩ <;>exact h
theorem Ed {ops:List Oper}{t:List (Nat×SV)}:∀ (n:Nat) (g:Nat×Bool),dV ops t n g->xy ops t n g->False
 |0,_,_,h=>h
 |n+1,(j,want),h1,h2=>by
  simp only[dV]at h1;simp only[xy]at h2;split at h1
  rename_i d hd;rw[hd]at h2;simp only at h2;split at h1
  grind
  rename_i j' b x hx;rw[hx]at h2;rcases h2 with h2|h2;exact Ed n (j',b) h1.1 h2;grind
  grind
  grind
theorem QC {α:Type}{l:List α}(h:l.Nodup){i j:Nat}{x:α}(hi:l[i]? =some x)(hj:l[j]? =some x):i=j:=by
 obtain⟨a,ha⟩:=aiq.1 hi;obtain⟨b,hb⟩:=aiq.1 hj;rcases Nat.lt_trichotomy i j with hl|hl|hl;exact absurd (ha.trans hb.symm) (aiH.1 h i j a b hl);exact hl;exact absurd (hb.trans ha.symm) (aiH.1 h j i b a hl)
theorem Ze {h:List Ob}(hp:Hp F own w h){id:Nat}{hd:Hd}{b:Nat}(e1:own id=some hd)(e2:hd.p=some b){mid n:Nat}{left:List Nat}{cur:Option Nat}(ho:ar h id=.mi (some mid) n left cur)
  {kk vk:Tag} {l:List (kk.T×vk.T)} (hm:ar h mid=.mp kk vk l (some (id,none))) (hn:n=l.length) (ty:TypeId):
  (left=[]/\(Instr.next (.pointer (some ⟨b,0,none⟩)) false ty).run P w=.ok (.tuple #[.bool false]) w)\/
  ∃ j∈left,∃ u w',(Instr.next (.pointer (some ⟨b,0,none⟩)) false ty).run P w=.ok u w'/\Step F own w (bM h id (.mi (some mid) n (left.erase j) (some j))) own w'/\
   Rel F own w' (.tup [.v (.bool true),svT kk (l.getD j (gz kk,gz vk)).1,svT vk (l.getD j (gz kk,gz vk)).2]) u:=by
 obtain⟨hd',e1',b',p1,p2,p3⟩:=hp.at ho rfl;rw[e1]at e1';cases e1';rw[e2]at p1;cases p1;obtain⟨hdm,bm,seen,c0,ss,k1,k2,k3,k4,k5,k6,k7,k8⟩:=p3 _ rfl;obtain⟨hdm',k1',bm',es,clk,m1,m2,m3,m4,m5,hd2,t1,t2⟩:=hp.at hm rfl;rw[k1]at k1';cases k1';rw[k2]at m1;cases m1;rw[e1]at t1;cases t1;obtain⟨hc0,hss⟩:=Oa (k4.symm.trans t2);subst hc0;subst hss;have hes:es.size=l.length:=by simpa[fj]using m4.1
 have hget:∀ i (hi:i<es.size),(j8 es)[i]? =some es[i].born:=fun i hi=>by simp[j8,hi]
 have hborn:∀ x∈es.toList,x.born<c0:=fun x hx=>m5.2 _ (ajH hx);rcases Jd (P:=P) (ty:=ty) k3 m3 hborn (aio _)with⟨h1,h2⟩ | ⟨e,h1,w1,h2,h3⟩;refine .inl ⟨?_,h2⟩;cases hl:left with
 |nil=>rfl
 |cons k r=>
  exfalso;obtain⟨s9,hs9,hn9⟩:=(k7 k).1 (by rw[hl];simp);have hke:k<es.size:=by grind
  rw[hget k hke,aip]at hs9;have hmem:es[k]∈leftOf es seen:=by
   grind [leftOf]
  grind
 have hmem:e∈es/\¬e.born∈seen.toList:=by
  grind [leftOf]
 obtain⟨j,hj,hje⟩:=akO hmem.1;have hb:(j8 es)[j]? =some e.born:=by grind
 have hjl:j∈left:=(k7 j).2 ⟨_,hb,hmem.2⟩;have hh:w1.heap=w.heap:=by rcases h2 with rfl|rfl <;>rfl
 have hbl:b<w.heap.size:=hp.lt id hd b e1 (by rw[p2];simp);have st:Step F own w (bM h id (.mi (some mid) n (left.erase j) (some j))) own { w1 with heap:=w1.heap.setIfInBounds b (.mapIter (some bm) c0 (seen.push e.born) c0)}:=by
  refine rO hp e1 (b:=b) (by rw[p2];simp) ?_ (fun k hk=>?_) ?_ ?_ ?_ _ fun g=>⟨b,e2,p2,fun i hi=>?_⟩;grind
  grind
  rcases h2 with rfl|rfl <;>rfl;rcases h2 with rfl|rfl <;>rfl;rcases h2 with rfl|rfl <;>rfl;cases hi;refine⟨hdm,bm,seen.push e.born,c0,j8 es,k1,k2,?_,k4,k5,k6.erase j,fun k=>?_,fun j' hj'=>?_⟩;grind
  rw[k6.mem_erase_iff,k7 k,Array.toList_push];constructor
  rintro⟨a,s,b,c⟩;refine⟨s,b,fun h=>?_⟩;rcases aix.1 h with h|h;exact c h;simp at h;subst h;exact a (QC m5.1 b hb);grind
  grind
 refine .inr ⟨j,hjl,_,_,h3,st,.tup rfl fun k s hk=>?_⟩;have hlt:j<l.length:=by omega
 have hgd:l.getD j (gz kk,gz vk)=l[j]:=by grind
 rw[hgd]at hk;obtain⟨e3,g1,_,g3,g4⟩:=m4.2 j l[j] (by simp[fj,hlt]);rw[ajE hj,hje]at g1;cases g1;match k,hk with
 |0,hk=>cases hk;exact .v _|1,hk=>cases hk;exact g3.mono st.fr.goes|2,hk=>cases hk;exact g4.mono st.fr.goes
theorem Ol (hts:ts.ok P)(hG:ConsOk P G)(hr:ROk N ops){E E':Nat->Prop}(hE:∀ k,E' k↔E k\/k=n)(hnE:¬E n){o:Oper}(ho:ops[n]? =some o)(hgE:∀ j b,o.guard=some (j,b)->E j)
  (hi:SInv F w0 N ops E own st a w) {Q:Exit->Act->World->Prop} {K:Act->World->Prop} {next:St->Prop} {Z:Value->St->Prop} (hZ:∀ x own st a w,StRel F w0 N own st a w->Z x st->Q (.panic [{ v:=x,recovered:=false}]) a w)
  (hx:Ok G ops o.dst st next Z o.guard (opS ⟨ts,ops,o.guard,st,st.h.length⟩ o.op)) (hK:∀ own st a w,SInv F w0 N ops E' own st a w->next st->K a w):
  (GOk ops a o.guard->(∀ c,o.op≠ .defer c)/\o.uponIn (rd ro) nd P a K Q ((execOp a.eval o).run P w))/\(¬GOk ops a o.guard->K (a.put o.dst undef) w):=by
 cases hg:o.guard with
 |none=>
  have hnd:∀ c,o.op≠ .defer c:=CH (cx:=⟨ts,ops,o.guard,st,st.h.length⟩) (fun e=>by rw[e,hg]at hx;exact hx);refine⟨fun _=>⟨hnd,?_⟩,fun h=>absurd trivial h⟩;rw[hg]at hx;have hgo:GOk ops a o.guard:=by grind
  have h:=MT (P:=P) (ts:=ts) (ops:=ops) (g:=none) (t:=st.t) (h:=st.h) (nx:=st.h.length) hts hi.hp hi.hp.nx (a:=a) (o:=o) (Jf hi trivial (fun k c e=>by cases e)) (fun c x y _=>⟨fun hc=>zH (g:=none) hi trivial (fun k c e=>by cases e) c x true hc,fun hc=>zH (g:=none) hi trivial (fun k c e=>by cases e) c y false hc⟩);change nL G o.dst st next Z (opS ⟨ts,ops,none,⟨st.t,st.h⟩,st.h.length⟩ o.op)at hx
  generalize opS ⟨ts,ops,none,⟨st.t,st.h⟩,st.h.length⟩ o.op=r at h hx;cases r with
  |bad=>exact hx.elim
  |val s=>
   obtain⟨u,e1,e2⟩:=h;exact fX (.inl e1) (hK _ _ _ _ (hi.stepv hr hE hnE ho hgE hgo (Below.refl _ _) e2).1 hx)
  |chk c s=>
   obtain⟨u,e1,e2⟩:=h hx.1;exact fX (.inl e1) (hK _ _ _ _ (hi.stepv hr hE hnE ho hgE hgo (Below.refl _ _) e2).1 hx.2)
  |asm c s=>
   obtain⟨hc,u,e1,e2⟩:=h;exact fX (.inl e1) (hK _ _ _ _ (hi.stepv hr hE hnE ho hgE hgo (Below.refl _ _) e2).1 (hx hc))
  |newr s=>
   obtain⟨u,cs,ty,e1,e2⟩:=h;exact fX (.inl e1) (hK _ _ _ _ (hi.stepv hr hE hnE ho hgE hgo (sL _ _) e2).1 hx)
  |amb p=>
   obtain⟨b,h1,h2⟩:=h;exact fX (.inl h2) (hK _ _ _ _ (hi.stepv hr hE hnE ho hgE hgo (Below.refl _ _) (.v _)).1 (hx b h1))
  |nxt id=>
   obtain⟨hd,b,e1,e2,ty,hrun⟩:=h;change VL id o.dst st next (ar st.h id)at hx
   cases hob:ar st.h id with
   |mi mid n' left cur=>
    rw[hob]at hx;cases mid with
    |none=>exact hx.elim
    |some mid=>
     change R4 id mid n' left o.dst st next (ar st.h mid)at hx
     cases hm:ar st.h mid with
     |mp kk vk l pend=>
      rw[hm]at hx;cases pend with
      |none=>exact hx.elim
      |some q=>
      obtain⟨it,q⟩:=q;cases q with
      |some _=>exact hx.elim
      |none=>
       obtain⟨⟨x0,x1⟩,x2,x3⟩:=hx;subst x0;rcases Ze (P:=P) hi.hp e1 e2 hob hm x1 ty with⟨q1,q2⟩ | ⟨j,q1,u,w',q2,q3,q4⟩;exact fX (.inl (hrun _ _ q2)) (hK _ _ _ _ (hi.stepv hr hE hnE ho hgE hgo (Below.refl _ _) (.tup rfl fun k s hk=>by
        match k,hk with
        |0,hk=>cases hk;exact .v _)).1 (x2 q1))
       exact fX (.inl (hrun _ _ q2)) (hK _ _ _ _ (hi.stepe hr hE hnE ho hgE hgo q3.hp q3.fr q4).1 (x3 j q1))
     |_=>rw[hm]at hx;exact hx.elim
   |_=>rw[hob]at hx;exact hx.elim
  |eff c ac ups s=>
   obtain⟨hc,hx⟩:=hx;obtain⟨ha,u,own',w',e1,e2,e3⟩:=h hc;exact fX e1 (hK _ _ _ _ (hi.stepe hr hE hnE ho hgE hgo e3.hp e3.fr e2).1 (hx ha))
  |call f args=>
   obtain⟨vs,e1,e2⟩:=h;change yy (args.all (da 3)) (reach st.h 64 (args.flatMap (gf 3)) []) o.dst st next Z (G.o f (args.map (ren (inN (reach st.h 64 (args.flatMap (gf 3)) [])) 6)) (tU st.h (reach st.h 64 (args.flatMap (gf 3)) []))) (G.p f (args.map (fP st.h 6)))at hx
   have hx2:Br (reach st.h 64 (args.flatMap (gf 3)) []) o.dst st next Z (G.o f (args.map (ren (inN (reach st.h 64 (args.flatMap (gf 3)) [])) 6)) (tU st.h (reach st.h 64 (args.flatMap (gf 3)) [])))\/∃ c,G.p f (args.map (fP st.h 6))=some c/\yy (args.all (da 3)) (reach st.h 64 (args.flatMap (gf 3)) []) o.dst st next Z (G.o f (args.map (ren (inN (reach st.h 64 (args.flatMap (gf 3)) [])) 6)) (tU st.h (reach st.h 64 (args.flatMap (gf 3)) []))) (some c)/\¬ (∃ p s,c=.det p s/\(args.all (da 3) ||jX 3 s)=false):=by
    cases hc:G.p f (args.map (fP st.h 6))with
    |none=>rw[hc]at hx;exact .inl hx
    |some c=>
     rw[hc]at hx;by_cases hdet:∃ p s,c=.det p s/\(args.all (da 3) ||jX 3 s)=false
     obtain⟨p,s,rfl,hb⟩:=hdet;left;change (bif args.all (da 3) ||jX 3 s then _ else _)at hx;grind
     grind
   clear hx;rcases hx2 with hx| ⟨c,hc,hx,hdet⟩
   ·have hids:=Fi hi.hp e1;have hn:=sP st.h 64 (args.flatMap (gf 3)) [] ajC;generalize reach st.h 64 (args.flatMap (gf 3)) []=ids at hx hids hn;change Br ids o.dst st next Z (G.o f (args.map (ren (inN ids) 6)) (tU st.h ids))at hx
    cases ho2:G.o f (args.map (ren (inN ids) 6)) (tU st.h ids)with
    |none=>rw[ho2]at hx;exact hx.elim
    |some c=>
     rw[ho2]at hx;obtain⟨hpre,hx⟩:=hx;obtain⟨k1,k2⟩:=KX hG hi.hp e1 hn ho2 hpre hids;rw[e2,k1];refine⟨fun h=>(by cases h),?_⟩;refine CallsIn.mono (qG k2) ?_;rintro e w' ⟨r,own',hr1,hr2⟩;have hx:=hx r hr1;cases hres:c.res r with
     |ret s h'=>
      rw[hres]at hr2 hx;obtain⟨⟨u,rfl,hrel⟩,hp',hfr⟩:=hr2;exact hK _ _ _ _ (hi.stepe hr hE hnE ho hgE hgo hp' hfr hrel).1 hx
     |pan x h'=>
      rw[hres]at hr2 hx;obtain⟨rfl,hp',hfr⟩:=hr2;exact hZ x own' ⟨ungd st.t,oU ids st.h.length st.h 0 h'⟩ a w' (hi.out.moved hp' hfr) hx
   ·have hcall:aw c/\(args.all (da 3)=true\/∀ s,dw c s->jX 3 s=true)/\(∀ s,dw c s->next (St.put ⟨st.t,st.h++aS 3 s⟩ o.dst (ji 3 st.h.length s)))/\∀ x,nQ c x->Z x ⟨ungd st.t,st.h⟩:=by
     cases c with
     |det p s=>
      change (bif args.all (da 3) ||jX 3 s then _ else _)at hx;cases hb:args.all (da 3) ||jX 3 s with
      |false=>grind
      |true=>
       rw[hb]at hx;obtain⟨hp,hx⟩:=hx;refine⟨hp,?_,fun s' hs'=>by cases hs';exact hx,fun x h=>h.elim⟩;rw[aiV]at hb;exact hb.imp id (fun h s' hs'=>by cases hs';exact h)
     |rel α pre post out=>
      obtain⟨hp,hx⟩:=hx;cases hb:args.all (da 3)with
      |false=>grind
      |true=>
       rw[hb]at hx;refine⟨hp,.inl rfl,fun s' hs'=>?_,fun x h=>h.elim⟩;obtain⟨r,h1,rfl⟩:=hs';exact hx r h1
     |may ok s x=>
      change (bif args.all (da 3) ||jX 3 s then(ok=true->next (St.put ⟨st.t,st.h++aS 3 s⟩ o.dst (ji 3 st.h.length s)))/\(ok=false->Z x ⟨ungd st.t,st.h⟩)else False)at hx;cases hb:args.all (da 3) ||jX 3 s with
      |false=>grind
      |true=>
       rw[hb]at hx;refine⟨trivial,?_,fun s' hs'=>by obtain⟨h1,rfl⟩:=hs';exact hx.1 h1,fun x' hs'=>by obtain⟨h1,rfl⟩:=hs';exact hx.2 h1⟩;rw[aiV]at hb;exact hb.imp id (fun h s' hs'=>by obtain⟨_,rfl⟩:=hs';exact h)
    obtain⟨q1,q2,q3,q4⟩:=hcall;obtain⟨k1,k2⟩:=Jk (P:=P) hG hi.hp e1 hc q1 q2;rw[e2,k1];refine⟨fun h=>(by cases h),?_⟩;refine CallsIn.mono (qG k2) ?_;rintro e w' (⟨s,u,own2,m1,rfl,m2,m3,m4,m5⟩ | ⟨x,m1,rfl,m4⟩);exact hK _ _ _ _ (hi.stepe hr hE hnE ho hgE hgo m2 m3 m4).1 (q3 s m1);exact hZ x own ⟨ungd st.t,st.h⟩ a w' (hi.out.moved (hi.hp.below m4) (Fj own m4)) (q4 x m1)
  |yld id args=>
   obtain⟨hd,e0,vs,e1,e2⟩:=h;change (bif args.all (da 3)then Mv id o.dst st next (I2 G args (ar st.h id))else False)at hx;cases hb:args.all (da 3)with
   |false=>grind
   |true=>
    rw[hb]at hx;cases hob:ar st.h id with
    |ab r=>
     rw[hob]at hx;change Mv id o.dst st next (G.y args r)at hx
     cases hc:G.y args r with
     |none=>rw[hc]at hx;exact hx.elim
     |some c=>
      rw[hc]at hx;obtain⟨hpre,hx⟩:=hx;have mono:∀ (w':World) a' own2,c.post a'->Hp F own2 w' (bM st.h id (.ab (c.res a').2))->Fr { w:=w,own:=own} own2 w'->K (a.put o.dst (.bool (c.res a').1)) w':=by
       intro w' a' own2 m1 m2 m3;exact hK _ _ _ _ (hi.stepe hr hE hnE ho hgE hgo m2 m3 (.v _)).1 (hx a' m1)
      rcases KY hG hi.hp e0 e1 hb hob hc hpre with⟨f,as,k1,k2⟩ | ⟨l,f,tmps,as,bd,k1,k2⟩;rw[e2,k1];exact⟨fun h=>(by cases h),CallsIn.mono (qG k2) (by grind)⟩;rw[e2,k1];exact⟨fun h=>(by cases h),RoundIn.mono (KU k2) (by grind)⟩
    |_=>rw[hob]at hx;exact hx.elim
  |pan x=>
   rw[show(execOp a.eval o).run P w=.halt (.panic x) w from h];exact hZ x own ⟨ungd st.t,st.h⟩ a w hi.out hx
 |some g=>
  rw[hg]at hx;have hlt:=hr.lt n o g.1 g.2 ho hg;have hrf:pr ops g.1:=⟨n,o,g.2,ho,hg⟩;have hjE:E g.1:=hgE g.1 g.2 hg;change stepG G ops g o.dst st next Z (opS ⟨ts,ops,some g,⟨st.t,st.h⟩,st.h.length⟩ o.op)at hx
  refine⟨fun hgo'=>?_,fun hgo'=>?_⟩
  ·have hgo:GOk ops a o.guard:=by grind
   have hgp:dV ops st.t ops.length g:=wP hi n (fun _ _ _ _ _ _ _ _=>rfl) hr.lt _ g hlt hjE hrf hgo';have hnd:∀ c,o.op≠ .defer c:=CH (cx:=⟨ts,ops,o.guard,st,st.h.length⟩) (fun e=>by rw[hg]at e;rw[show(opS ⟨ts,ops,some g,⟨st.t,st.h⟩,st.h.length⟩ o.op)=.bad from e]at hx;exact Ed _ _ hgp hx.1);refine⟨hnd,?_⟩;have hgn:∀ k c,some g=some (k,c)->E k/\pr ops k:=fun k c e=>by grind
   have h:=MT (P:=P) (ts:=ts) (ops:=ops) (g:=some g) (t:=st.t) (h:=st.h) (nx:=st.h.length) hts hi.hp hi.hp.nx (a:=a) (o:=o) (Jf hi hgo' hgn) (fun c x y _=>⟨fun hc=>zH hi hgo' hgn c x true hc,fun hc=>zH hi hgo' hgn c y false hc⟩);generalize opS ⟨ts,ops,some g,⟨st.t,st.h⟩,st.h.length⟩ o.op=r at h hx;cases r with
   |bad=>exact(Ed _ _ hgp hx.1).elim|pan x=>exact hx.elim|nxt id=>exact hx.elim|amb p=>exact hx.elim
   |val s=>
    obtain⟨u,e1,e2⟩:=h;exact fX (.inl e1) (hK _ _ _ _ ((hi.stepv hr hE hnE ho hgE hgo (Below.refl _ _) e2).2 g hg) hx)
   |chk c s=>
    obtain⟨u,e1,e2⟩:=h (hx.1 hgp);exact fX (.inl e1) (hK _ _ _ _ ((hi.stepv hr hE hnE ho hgE hgo (Below.refl _ _) e2).2 g hg) hx.2)
   |asm c s=>
    obtain⟨_,u,e1,e2⟩:=h;exact fX (.inl e1) (hK _ _ _ _ ((hi.stepv hr hE hnE ho hgE hgo (Below.refl _ _) e2).2 g hg) hx)
   |newr s=>
    obtain⟨u,cs,ty,e1,e2⟩:=h;exact fX (.inl e1) (hK _ _ _ _ ((hi.stepv hr hE hnE ho hgE hgo (sL _ _) e2).2 g hg) hx)
   |eff c ac ups s=>
    obtain⟨hc,hx⟩:=hx.1 hgp;obtain⟨ha,u,own',w',e1,e2,e3⟩:=h hc;exact fX e1 (hK _ _ _ _ ((hi.stepe hr hE hnE ho hgE hgo e3.hp e3.fr e2).2 g hg) (hx ha))
   |call f args=>
    obtain⟨vs,e1,e2⟩:=h;change ES (args.all (da 3)) (reach st.h 64 (args.flatMap (gf 3)) []) ops g o.dst st next Z (G.o f (args.map (ren (inN (reach st.h 64 (args.flatMap (gf 3)) [])) 6)) (tU st.h (reach st.h 64 (args.flatMap (gf 3)) []))) (G.p f (args.map (fP st.h 6)))at hx
    cases hc:G.p f (args.map (fP st.h 6))with
    |none=>
     rw[hc]at hx;have hids:=Fi hi.hp e1;have hn:=sP st.h 64 (args.flatMap (gf 3)) [] ajC;generalize reach st.h 64 (args.flatMap (gf 3)) []=ids at hx hids hn;change AG ids ops g o.dst st next Z (G.o f (args.map (ren (inN ids) 6)) (tU st.h ids))at hx
     cases ho2:G.o f (args.map (ren (inN ids) 6)) (tU st.h ids)with
     |none=>rw[ho2]at hx;exact(Ed _ _ hgp hx.1).elim
     |some c=>
      rw[ho2]at hx;obtain⟨hpre,hx⟩:=hx.1 hgp;obtain⟨k1,k2⟩:=KX hG hi.hp e1 hn ho2 hpre hids;rw[e2,k1];refine⟨fun h=>(by cases h),?_⟩;refine CallsIn.mono (qG k2) ?_;rintro e w' ⟨r,own',hr1,hr2⟩;have hx:=hx r hr1;cases hres:c.res r with
      |ret s h'=>
       rw[hres]at hr2 hx;obtain⟨⟨u,rfl,hrel⟩,hp',hfr⟩:=hr2;exact hK _ _ _ _ ((hi.stepe hr hE hnE ho hgE hgo hp' hfr hrel).2 g hg) hx
      |pan x h'=>
       rw[hres]at hr2 hx;obtain⟨rfl,hp',hfr⟩:=hr2;exact hZ x own' ⟨ungd st.t,oU ids st.h.length st.h 0 h'⟩ a w' (hi.out.moved hp' hfr) hx
    |some c=>
     rw[hc]at hx;cases c with
     |rel=>exact hx.elim|may=>exact hx.elim
     |det p s=>
      obtain⟨hp,hx⟩:=hx;cases hb:(args.all (da 3) ||jX 3 s)&&(aS 3 s).isEmpty with
      |false=>grind
      |true=>
       rw[hb]at hx;rw[aim,aiV]at hb;obtain⟨k1,k2⟩:=Jk (P:=P) hG hi.hp e1 hc (hp hgp) (hb.1.imp id (fun h s' hs'=>by cases hs';exact h));rw[e2,k1];refine⟨fun h=>(by cases h),?_⟩;refine CallsIn.mono (qG k2) ?_;rintro e w' (⟨s',u,own2,rfl,rfl,m2,m3,m4,m5⟩ | ⟨x,m1,_⟩);have hz:aS 3 s'=[]:=List.isEmpty_iff.1 hb.2;rw[hz,aiQ]at m2;rw[Dw 3 _ s' hz]at m4;exact hK _ _ _ _ ((hi.stepe hr hE hnE ho hgE hgo m2 m3 m4).2 g hg) hx;exact m1.elim
   |yld id args=>
    obtain⟨hd,e0,vs,e1,e2⟩:=h;change (bif args.all (da 3)then Kv id ops g o.dst st next (I2 G args (ar st.h id))else False)at hx;cases hb:args.all (da 3)with
    |false=>grind
    |true=>
     rw[hb]at hx;cases hob:ar st.h id with
     |ab r=>
      rw[hob]at hx;change Kv id ops g o.dst st next (G.y args r)at hx
      cases hc:G.y args r with
      |none=>rw[hc]at hx;exact hx.elim
      |some c=>
       rw[hc]at hx;obtain⟨hpre,hx⟩:=hx.1 hgp;have mono:∀ (w':World) a' own2,c.post a'->Hp F own2 w' (bM st.h id (.ab (c.res a').2))->Fr { w:=w,own:=own} own2 w'->K (a.put o.dst (.bool (c.res a').1)) w':=by
        intro w' a' own2 m1 m2 m3;exact hK _ _ _ _ ((hi.stepe hr hE hnE ho hgE hgo m2 m3 (.v _)).2 g hg) (hx a' m1)
       rcases KY hG hi.hp e0 e1 hb hob hc hpre with⟨f,as,k1,k2⟩ | ⟨l,f,tmps,as,bd,k1,k2⟩;rw[e2,k1];exact⟨fun h=>(by cases h),CallsIn.mono (qG k2) (by grind)⟩;rw[e2,k1];exact⟨fun h=>(by cases h),RoundIn.mono (KU k2) (by grind)⟩
     |_=>rw[hob]at hx;exact hx.elim
  ·have hgo:¬GOk ops a o.guard:=by grind
   have hgN:io ops st.t ops.length g:=CG hi _ g hjE hrf hgo';have hskip:=fun s=>hi.skip hr hE hnE ho hgE hgo hg (s:=s);generalize opS ⟨ts,ops,some g,⟨st.t,st.h⟩,st.h.length⟩ o.op=r at hx;cases r with
   |bad=>exact hK _ _ _ _ (hskip .any) hx.2|pan x=>exact hx.elim|nxt id=>exact hx.elim|amb p=>exact hx.elim|val s=>exact hK _ _ _ _ (hskip _) hx|chk c s=>exact hK _ _ _ _ (hskip _) hx.2|asm c s=>exact hK _ _ _ _ (hskip _) hx|newr s=>exact hK _ _ _ _ (hskip _) hx|eff c ac ups s=>exact hK _ _ _ _ (hskip _) (hx.2 hgN)
   |call f args=>
    change ES (args.all (da 3)) (reach st.h 64 (args.flatMap (gf 3)) []) ops g o.dst st next Z (G.o f (args.map (ren (inN (reach st.h 64 (args.flatMap (gf 3)) [])) 6)) (tU st.h (reach st.h 64 (args.flatMap (gf 3)) []))) (G.p f (args.map (fP st.h 6)))at hx
    cases hc:G.p f (args.map (fP st.h 6))with
    |none=>
     rw[hc]at hx;generalize reach st.h 64 (args.flatMap (gf 3)) []=ids at hx;change AG ids ops g o.dst st next Z (G.o f (args.map (ren (inN ids) 6)) (tU st.h ids))at hx
     cases ho2:G.o f (args.map (ren (inN ids) 6)) (tU st.h ids)with
     |none=>rw[ho2]at hx;exact hK _ _ _ _ (hskip .any) hx.2
     |some c=>
      rw[ho2]at hx;exact hK _ _ _ _ (hskip .any) (hx.2 hgN)
    |some c=>
     rw[hc]at hx;cases c with
     |rel=>exact hx.elim|may=>exact hx.elim
     |det p s=>
      obtain⟨hp,hx⟩:=hx;grind
   |yld id args=>
    change (bif args.all (da 3)then Kv id ops g o.dst st next (I2 G args (ar st.h id))else False)at hx;cases hb:args.all (da 3)with
    |false=>grind
    |true=>
     rw[hb]at hx;cases hc:I2 G args (ar st.h id)with
     |none=>rw[hc]at hx;exact hx.elim|some c=>rw[hc]at hx;exact hK _ _ _ _ (hskip .any) (hx.2 hgN)
theorem SInv.congr {E E':Nat->Prop}(h:∀ k,E k↔E' k){st:St}(hi:SInv F w0 N ops E own st a w):SInv F w0 N ops E' own st a w:=by
 have:E=E':=funext fun k=>propext (h k);grind
theorem SInv.all {st:St}(hr:ROk N ops){n:Nat}(hn:ops.length<=n)(hi:SInv F w0 N ops (· <n) own st a w):SInv F w0 N ops (· <ops.length) own st a w:=by
 refine⟨hi.size,hi.defers,hi.hp,hi.fr,fun t=>?_,fun k o d j b s hk=>hi.tags k o d j b s (by omega),fun k o j b hk hq hg=>by have:=hr.lt k o j b hq hg;omega,fun k o b hk hrf hq hy=>hi.chain k o b (by omega) hrf hq hy⟩;have:=hi.slots t;cases hs:lk t st.t with
 |gd j b s=>
  rw[hs]at this;obtain⟨_,⟨i,o,b',h1,h2⟩,h3⟩:=this;exact⟨by have:=hr.lt i o j b' h1 h2;grind,⟨i,o,b',h1,h2⟩,h3⟩
 |_=>rw[hs]at this;exact this
theorem Jm {ts:Tis}{G:Cons}{ops:List Oper}{o:Oper}{rest:List Oper}{st:St}{K:St->Prop}{Z:Value->St->Prop}(h:j7 ts G ops (o::rest) st K Z):
  Ok G ops o.dst st (fun st'=>j7 ts G ops rest st' K Z) Z o.guard (opS ⟨ts,ops,o.guard,st,st.h.length⟩ o.op):=by
 simp only[j7]at h;cases hg:o.guard <;>rw[hg]at h <;>exact h
theorem MV (hts:ts.ok P)(hG:ConsOk P G)(hr:ROk N ops){Q:Exit->Act->World->Prop}{K:St->Prop}{Z:Value->St->Prop}(hZ:∀ x own st a w,StRel F w0 N own st a w->Z x st->Q (.panic [{ v:=x,recovered:=false}]) a w):
  ∀ (rest:List Oper) (n:Nat) (own:Own) (st:St) (a:Act) (w:World),ops.drop n=rest->SInv F w0 N ops (· <n) own st a w->j7 ts G ops rest st K Z->
  (∀ own st a w,SInv F w0 N ops (· <ops.length) own st a w->K st->Q .normal a w)->wpListIn (rd ro) nd P ops.toArray Q rest a w
 | [],n,own,st,a,w,hd,hi,hx,hK=>by
  have hn:ops.length<=n:=by
   simp_all
  exact hK own st a w (hi.all hr hn) hx
 |o::rest,n,own,st,a,w,hd,hi,hx,hK=>by
  obtain⟨ho,hd'⟩:=Fh hd;have ih:=fun own' st' a' w' (hi':SInv F w0 N ops (· <n+1) own' st' a' w') hx'=>MV hts hG hr hZ rest (n+1) own' st' a' w' hd' hi' hx' hK;obtain⟨h1,h2⟩:=Ol (ro:=ro) (nd:=nd) hts hG hr (vH n) (ajo n) ho (fun j b e=>hr.lt n o j b ho e) hi hZ (Jm hx) ih;by_cases hgo:GOk ops a o.guard
  obtain⟨hnd,h1⟩:=h1 hgo;unfold wpListIn;rw[if_pos (oJ.2 hgo)];refine⟨fun _ _=>trivial,?_⟩;grind [Oper.semAt_eq]
  ·have hw:Region.wanted o (yielded ops.toArray a.tmps)=false:=by
    cases hb:Region.wanted o (yielded ops.toArray a.tmps)with
    |false=>rfl|true=>exact absurd (oJ.1 hb) hgo
   simp_all [wpListIn]
end
def adk (o:Ob):Prop:=o=.dead\/o=.fwd none
def ObUp (o o':Ob):Prop:=o=o'\/(∃ (kk vk:Tag) (l:List (kk.T×vk.T)) (p p':Option (Nat×Option kk.T)),o=.mp kk vk l p/\o'=.mp kk vk l p')\/(adk o/\adk o')
theorem ObUp.refl (o:Ob):ObUp o o:=.inl rfl
theorem ObUp.symm {a b:Ob}(h:ObUp a b):ObUp b a:=by
 rcases h with rfl| ⟨kk,vk,l,p,p',e1,e2⟩ | ⟨h1,h2⟩;exact .inl rfl;exact .inr (.inl ⟨kk,vk,l,p',p,e2,e1⟩);exact .inr (.inr ⟨h2,h1⟩)
theorem ObUp.trans {a b c:Ob}(h:ObUp a b)(h':ObUp b c):ObUp a c:=by
 rcases h with rfl| ⟨kk,vk,l,p,p',e1,e2⟩ | ⟨h1,h2⟩;exact h';rcases h' with rfl| ⟨kk',vk',l',q,q',e3,e4⟩ | ⟨h3,h4⟩;exact .inr (.inl ⟨kk,vk,l,p,p',e1,e2⟩);rw[e2]at e3;cases e3;exact .inr (.inl ⟨kk,vk,l,p,q',e1,e4⟩);rw[e2]at h3;rcases h3 with h3|h3 <;>cases h3;rcases h' with rfl| ⟨kk',vk',l',q,q',e3,e4⟩ | ⟨h3,h4⟩;exact .inr (.inr ⟨h1,h2⟩);rw[e3]at h2;rcases h2 with h2|h2 <;>cases h2;exact .inr (.inr ⟨h1,h4⟩)
theorem HM (a b:List Up):fO (a++b)=fO a++fO b:=by
 induction a with
 |nil=>rfl|cons x r ih=>simp[fO,ih]
section
variable {h h':List Ob}
theorem KZ (ti:TI){s:SV}(hh:∀ id∈gK s,ar h id=ar h' id):sJ ti h s=sJ ti h' s:=by
 cases s <;>first|rfl|(simp only[gK,aiT,forall_eq]at hh;simp only[sJ,hh])
theorem BF (n:Nat){s:SV}(l:Option (List SV))(hh:∀ id∈gK s,ar h id=ar h' id):tf n h s l=tf n h' s l:=by
 cases l <;>cases s <;>first|rfl|(simp only[gK,aiT,forall_eq]at hh;simp only[tf,hh])
theorem Jn (n nx:Nat){s sx:SV}(hh:∀ id∈gK s++gK sx,ar h id=ar h' id):tg n nx h s sx=tg n nx h' s sx:=by
 have h1:∀ id∈gK s,ar h id=ar h' id:=fun id hi=>hh id (ajg _ hi);unfold tg;split
 rename_i sz id i off rid;have e1:=h1 id (by simp[gK]);have e2:=hh rid (by simp[gK]);rw[e1,BF n _ h1];simp_all [EJ];exact BF _ _ h1
theorem Jo (ti:TI)(n:Nat){s:SV}(i:SV)(hh:∀ id∈gK s,ar h id=ar h' id):i7 ti n h s i=i7 ti n h' s i:=by
 cases i with
 |v x=>cases x <;>cases s <;>first|rfl|(simp only[gK,aiT,forall_eq]at hh;simp only[i7,hh])
 |_=>cases s <;>rfl
theorem Jp (ti:TI)(n nx:Nat){s:SV}(lo hi:Option SV)(vq:Bool)(hh:∀ id∈gK s,ar h id=ar h' id):o7 ti n nx h lo hi vq s=o7 ti n nx h' lo hi vq s:=by
 cases s <;>first|rfl|simp_all [gK,o7]
theorem K1 (ti:TI)(ok:Bool)(key:SV){s:SV}(hh:∀ id∈gK s,ar h id=ar h' id):vt ti h ok key s=vt ti h' ok key s:=by
 cases s <;>first|rfl|(rename_i x;cases x <;>first|rfl|(rename_i y;cases y <;>rfl)) |simp_all [gK,vt]
theorem MW (ti:TI)(key:SV){s:SV}(hh:∀ id∈gK s,ObUp (ar h id) (ar h' id)):vt ti h false key s=vt ti h' false key s:=by
 cases s with
 |os id=>
  simp only[gK,aiT,forall_eq]at hh;simp only[vt];rcases hh with e| ⟨kk,vk,l,p,p',e1,e2⟩ | ⟨h1,h2⟩;rw[e];rw[e1,e2];simp only[Ks,aiY,akH];rcases h1 with h1|h1 <;>rcases h2 with h2|h2 <;>rw[h1,h2] <;>rfl
 |v x=>cases x <;>first|rfl|(rename_i y;cases y <;>rfl)
 |_=>rfl
theorem Fk (ti:TI)(key v:SV){s:SV}(hh:∀ id∈gK s,ar h id=ar h' id):DO ti h key v s=DO ti h' key v s:=by
 cases s <;>first|rfl|simp_all [gK,DO]
theorem MX (ti:TI)(nx:Nat){h h':List Ob}{s:SV}(h1:∀ id∈gK s,ar h id=ar h' id):EP ti nx h s=EP ti nx h' s:=by
 cases s with
 |os id=>grind [EP,gK]|_=>rfl
theorem K2 {h h':List Ob}{s:SV}(h1:∀ id∈gK s++RY h s,ar h id=ar h' id):Dm h s=Dm h' s:=by
 cases s with
 |ptr id off=>
  cases off with
  |zero=>
   have e:=h1 id (by simp[gK]);simp only[Dm];rw[<-e];cases ho:ar h id with
   |mi mid n left cur=>
    cases mid with
    |none=>rfl
    |some mid=>
     cases cur with
     |none=>rfl
     |some j=>
      grind [N6,RY,RX]
   |_=>rfl
  |succ n=>rfl
 |_=>rfl
theorem MY (ti:TI)(nx:Nat)(key:SV){s:SV}(hh:∀ id∈gK s,ar h id=ar h' id):zU ti nx h key s=zU ti nx h' key s:=by
 cases s <;>first|rfl|simp_all [gK,zU]
theorem MZ (ti:TI)(v:SV){s:SV}(n:SV)(hh:∀ id∈gK s,ar h id=ar h' id):IZ ti h v s n=IZ ti h' v s n:=by
 cases n with
 |os x=>cases s <;>first|rfl|simp_all [gK,IZ]
 |_=>cases s <;>rfl
theorem M0 (ti te:TI)(l:List SV)(hh:∀ id∈rC l,ar h id=ar h' id):AD ti te h l=AD ti te h' l:=by
 match l with
 | [] =>rfl
 | [x] =>cases x <;>first|rfl|grind [AD,rC,I0,gK]
 |x::_::_=>cases x <;>rfl
theorem M1 (ti:TI)(l:List SV)(hh:∀ id∈rC l,ar h id=ar h' id):AE ti h l=AE ti h' l:=by
 match l with
 | [] =>rfl| [x] =>cases x <;>rfl
 | [x,y] =>cases x <;>first|rfl|grind [AE,rC,I0,gK]
 |x::_::_::_=>cases x <;>rfl
theorem M2 (ti:TI)(l:List SV)(hh:∀ id∈rC l,ar h id=ar h' id):wb ti h l=wb ti h' l:=by
 match l with
 | [] =>rfl
 | [x] =>
  cases x <;>first|rfl|(rename_i y;cases y <;>first|rfl|(rename_i a n c;cases a <;>cases n <;>cases c <;>rfl)) |(simp only[rC,I0,gK,aiQ,aiT,forall_eq]at hh;simp only[wb,hh])
 |x::_::_=>cases x <;>first|rfl|(rename_i y;cases y <;>first|rfl|(rename_i a n c;cases a <;>cases n <;>cases c <;>rfl))
theorem Jq (id:Nat)(r:List SV):id∈rC (.os id::r):=by simp[rC,I0,gK]
theorem Om (x:SV)(id:Nat)(r:List SV):id∈rC (x:: .ls [.os id]::r):=by simp[rC,I0]
theorem Sq (x:SV)(id:Nat)(r:List SV):id∈rC (x:: .os id::r):=by simp[rC,I0,gK]
theorem Sr (x:SV)(s id:Nat)(lo hi:Int)(r:List SV):id∈rC (x:: .vw s id lo hi::r):=by simp[rC,I0,gK]
theorem Fl (k:Tag)(x s:SV)(r:List SV)(hh:∀ id∈rC (x::s::r),ar h id=ar h' id):vj k h s=vj k h' s:=by
 cases s with
 |os id=>grind [vj,Sq]|vw s id lo hi=>grind [vj,Sr]
 |v y=>cases y <;>first|rfl|(rename_i a n c;cases a <;>cases n <;>cases c <;>rfl)
 |_=>rfl
theorem M3 (te:TI)(nx:Nat)(l:List SV)(hh:∀ id∈rC l,ar h id=ar h' id):o6 te nx h l=o6 te nx h' l:=by
 have hO:∀ (kill:List Up) (s x:SV) (o:Ob),(∀ id∈rC [x,s],ar h id=ar h' id)->xw te nx kill h s o=xw te nx kill h' s o:=by
  intro kill s x o hh;cases o with
  |row k l=>simp only[xw];rw[Fl k x s [] hh]|_=>rfl
 have hGo:∀ (id2:Nat) (kill:List Up) (o:Ob),ar h id2=ar h' id2->Dl nx te.bytes h id2 kill o=Dl nx te.bytes h' id2 kill o:=by
  simp_all [Dl]
 have hT:∀ (s x:SV) (o:Option Tag),(∀ id∈rC [x,s],ar h id=ar h' id)->xx te nx h s o=xx te nx h' s o:=by
  intro s x o hh;cases o with
  |none=>rfl|some k=>exact hO [] s x (.row k []) hh
 unfold o6;split
 rename_i id id2;rw[hGo id2 _ _ (hh id2 (Om _ _ _)),hh id (Jq _ _)];rename_i id2;rw[hh id2 (Om _ _ _)];rename_i id id2;rw[hO _ (.os id2) _ _ hh,hh id (Jq _ _)];rename_i id s _ _;rw[hO _ s _ _ hh,hh id (Jq _ _)];rename_i s _;exact hT s _ _ hh;rename_i s;exact hT s _ _ hh;rename_i k l s;unfold P7;rw[Fl k _ s [] hh];rfl
end
theorem uw {ts:Tis}{ops:List Oper}{g:Option (Nat×Bool)}{h h':List Ob}{nx nx':Nat}{t t':List (Nat×SV)}:∀ (l:List Operand),(∀ x∈l,raw t x=raw t' x)->df ⟨ts,ops,g,⟨t,h⟩,nx⟩ l=df ⟨ts,ops,g,⟨t',h'⟩,nx'⟩ l
 | [],_=>rfl
 |x::r,hx=>by
  simp only[df];rw[uw r fun y hy=>hx y (by simp[hy])];have:val ⟨ts,ops,g,⟨t,h⟩,nx⟩ x=val ⟨ts,ops,g,⟨t',h'⟩,nx'⟩ x:=by show bu ops g (raw t x)=bu ops g (raw t' x);rw[hx x (by simp)]
  rw[this]
theorem vI {ts:Tis}{ops:List Oper}{g:Option (Nat×Bool)}{h h':List Ob}{nx nx':Nat}{t t':List (Nat×SV)}:∀ (l:List (Nat×Operand)),(∀ x∈l,raw t x.2=raw t' x.2)->jw ⟨ts,ops,g,⟨t,h⟩,nx⟩ l=jw ⟨ts,ops,g,⟨t',h'⟩,nx'⟩ l
 | [],_=>rfl
 |(i,x)::r,hx=>by
  simp only[jw];rw[vI r fun y hy=>hx y (by simp[hy])];have:val ⟨ts,ops,g,⟨t,h⟩,nx⟩ x=val ⟨ts,ops,g,⟨t',h'⟩,nx'⟩ x:=by show bu ops g (raw t x)=bu ops g (raw t' x);rw[hx (i,x) (by simp)]
  rw[this]
theorem uz {ts:Tis}{ops:List Oper}{g:Option (Nat×Bool)}{h h':List Ob}{nx nx':Nat}{t t':List (Nat×SV)}(o:Option Operand)(hx:∀ x∈o,raw t x=raw t' x):qB ⟨ts,ops,g,⟨t,h⟩,nx⟩ o=qB ⟨ts,ops,g,⟨t',h'⟩,nx'⟩ o:=by
 cases o with
 |none=>rfl
 |some x=>show some (bu ops g (raw t x))=some (bu ops g (raw t' x));rw[hx x rfl]
theorem QD {ts:Tis}{ops:List Oper}{g:Option (Nat×Bool)}{h h':List Ob}{nx:Nat}{t t':List (Nat×SV)}(op:Op)(hx:∀ x∈op.operands.toList,raw t x=raw t' x)
  (h1:∀ id∈(fpO ⟨ts,ops,g,⟨t,h⟩,nx⟩ op).1,ar h id=ar h' id) (h2:∀ id∈(fpO ⟨ts,ops,g,⟨t,h⟩,nx⟩ op).2,ObUp (ar h id) (ar h' id)):
  opS ⟨ts,ops,g,⟨t,h⟩,nx⟩ op=opS ⟨ts,ops,g,⟨t',h'⟩,nx⟩ op:=by
 have hv:∀ x∈op.operands.toList,val ⟨ts,ops,g,⟨t',h'⟩,nx⟩ x=val ⟨ts,ops,g,⟨t,h⟩,nx⟩ x:=fun x hm=>by
  show bu ops g (raw t' x)=bu ops g (raw t x);rw[hx x hm]
 cases op with
 |call c=>
  obtain⟨callee,args,tys⟩:=c;have ha:df ⟨ts,ops,g,⟨t',h'⟩,nx⟩ args.toList=df ⟨ts,ops,g,⟨t,h⟩,nx⟩ args.toList:=(uw _ fun x hm=>hx x (by grind [Op.operands,Call.operands])).symm;cases callee with
  |value f=>
   have hf:=hv f (by simp[Op.operands,Call.operands]);show Bo _ _=Bo _ _;rw[ha,hf]
  |invoke f m=>rfl
  |builtin b=>
   cases b <;>first|rfl|skip
   show(match tys.toList with| [t1,t2] =>aG ts t1 fun ti=>aG ts t2 fun ti2=>aG ts ti.elem fun te=>bif ti.isSlice&&ti2.isSlice then o6 te nx h (df ⟨ts,ops,g,⟨t,h⟩,nx⟩ args.toList)else .bad|_=>.bad)=(match tys.toList with| [t1,t2] =>aG ts t1 fun ti=>aG ts t2 fun ti2=>aG ts ti.elem fun te=>bif ti.isSlice&&ti2.isSlice then o6 te nx h' (df ⟨ts,ops,g,⟨t',h'⟩,nx⟩ args.toList)else .bad|_=>.bad);rw[ha];have e:∀ te:TI,o6 te nx h (df ⟨ts,ops,g,⟨t,h⟩,nx⟩ args.toList)=o6 te nx h' (df ⟨ts,ops,g,⟨t,h⟩,nx⟩ args.toList):=fun te=>M3 te nx _ h1;simp only[e];show(match tys.toList with| [t1] =>aG ts t1 fun ti=>aG ts ti.elem fun te=>AD ti te h (df ⟨ts,ops,g,⟨t,h⟩,nx⟩ args.toList) |_=>.bad)=(match tys.toList with| [t1] =>aG ts t1 fun ti=>aG ts ti.elem fun te=>AD ti te h' (df ⟨ts,ops,g,⟨t',h'⟩,nx⟩ args.toList) |_=>.bad);rw[ha];have e:∀ ti te:TI,AD ti te h (df ⟨ts,ops,g,⟨t,h⟩,nx⟩ args.toList)=AD ti te h' (df ⟨ts,ops,g,⟨t,h⟩,nx⟩ args.toList):=fun ti te=>M0 ti te _ h1;simp only[e];show(match tys.toList with|t1::_=>aG ts t1 fun ti=>AE ti h (df ⟨ts,ops,g,⟨t,h⟩,nx⟩ args.toList) |_=>.bad)=(match tys.toList with|t1::_=>aG ts t1 fun ti=>AE ti h' (df ⟨ts,ops,g,⟨t',h'⟩,nx⟩ args.toList) |_=>.bad);rw[ha];have e:∀ ti:TI,AE ti h (df ⟨ts,ops,g,⟨t,h⟩,nx⟩ args.toList)=AE ti h' (df ⟨ts,ops,g,⟨t,h⟩,nx⟩ args.toList):=fun ti=>M1 ti _ h1;simp only[e];show(match tys.toList with| [t''] =>aG ts t'' fun ti=>wb ti h (df ⟨ts,ops,g,⟨t,h⟩,nx⟩ args.toList) |_=>.bad)=(match tys.toList with| [t''] =>aG ts t'' fun ti=>wb ti h' (df ⟨ts,ops,g,⟨t',h'⟩,nx⟩ args.toList) |_=>.bad);rw[ha];have e:∀ ti:TI,wb ti h (df ⟨ts,ops,g,⟨t,h⟩,nx⟩ args.toList)=wb ti h' (df ⟨ts,ops,g,⟨t,h⟩,nx⟩ args.toList):=fun ti=>M2 ti _ h1;simp only[e];show IY _=IY _;rw[ha];show IX _=IX _;rw[ha]
 |build ty parts=>
  have ha:jw ⟨ts,ops,g,⟨t',h'⟩,nx⟩ parts.toList=jw ⟨ts,ops,g,⟨t,h⟩,nx⟩ parts.toList:=(vI _ fun x hm=>hx x.2 (by grind [Op.operands])).symm;grind [opS]
 |buildSlice ty n parts=>
  have ha:jw ⟨ts,ops,g,⟨t',h'⟩,nx⟩ parts.toList=jw ⟨ts,ops,g,⟨t,h⟩,nx⟩ parts.toList:=(vI _ fun x hm=>hx x.2 (by grind [Op.operands])).symm;grind [opS]
 |makeFunc fn first caps=>
  have ha:df ⟨ts,ops,g,⟨t',h'⟩,nx⟩ caps.toList=df ⟨ts,ops,g,⟨t,h⟩,nx⟩ caps.toList:=(uw _ fun x hm=>hx x (by grind [Op.operands])).symm;have hb:df ⟨ts,ops,g,⟨t',h'⟩,nx⟩ first.toList=df ⟨ts,ops,g,⟨t,h⟩,nx⟩ first.toList:=(uw _ fun x hm=>hx x (by grind [Op.operands])).symm
  grind [opS]
 |pick c x y=>
  grind [Op.operands,opS]
 |move x=>grind [opS,Op.operands]|assign x=>grind [opS,Op.operands]|box ty x=>grind [opS,Op.operands]
 |load ty x=>
  simp only[opS,hv x (by simp[Op.operands])];exact congrArg _ (funext fun ti=>KZ ti h1)
 |store ty x y=>
  simp only[opS,hv x (by simp[Op.operands]),hv y (by simp[Op.operands])];exact congrArg _ (funext fun ti=>Jn _ _ h1)
 |nilCheck x=>grind [opS,Op.operands]|binOp op xt x y yt=>grind [opS,Op.operands]|unOp op xt x=>grind [opS,Op.operands]|convert a b x=>grind [opS,Op.operands]|panic x=>grind [opS,Op.operands]|makeInterface ty x=>grind [opS,Op.operands]|typeAssert x st ty ok=>grind [opS,Op.operands]|fieldAddr ty x f=>grind [opS,Op.operands]|field ty x f=>grind [opS,Op.operands]
 |indexAddr ty x y=>
  simp only[opS,hv x (by simp[Op.operands]),hv y (by simp[Op.operands])];exact congrArg _ (funext fun ti=>congrArg _ (funext fun te=>Jo _ _ _ h1))
 |extract x i=>grind [opS,Op.operands]|makeSlice ty n c=>grind [opS,Op.operands]
 |slice ty x lo hi mx=>
  cases mx with
  |some m=>
   have e1:qB ⟨ts,ops,g,⟨t',h'⟩,nx⟩ lo=qB ⟨ts,ops,g,⟨t,h⟩,nx⟩ lo:=(uz lo fun y hy=>hx y (by simp_all [Op.operands])).symm;have e2:qB ⟨ts,ops,g,⟨t',h'⟩,nx⟩ hi=qB ⟨ts,ops,g,⟨t,h⟩,nx⟩ hi:=(uz hi fun y hy=>hx y (by simp_all [Op.operands])).symm;grind [opS,Op.operands]
  |none=>
   have e1:qB ⟨ts,ops,g,⟨t',h'⟩,nx⟩ lo=qB ⟨ts,ops,g,⟨t,h⟩,nx⟩ lo:=(uz lo fun y hy=>hx y (by simp_all [Op.operands])).symm;have e2:qB ⟨ts,ops,g,⟨t',h'⟩,nx⟩ hi=qB ⟨ts,ops,g,⟨t,h⟩,nx⟩ hi:=(uz hi fun y hy=>hx y (by simp_all [Op.operands])).symm;simp only[opS,hv x (by simp[Op.operands]),e1,e2];exact congrArg _ (funext fun ti=>congrArg _ (funext fun te=>Jp _ _ _ _ _ _ h1))
 |makeMap ty n=>cases n <;>rfl
 |lookup ty m k ok=>
  simp only[opS,hv m (by simp[Op.operands]),hv k (by simp[Op.operands])];refine congrArg _ (funext fun ti=>?_);cases ok with
  |true=>exact K1 ti _ _ h1|false=>exact MW ti _ h2
 |mapUpdate ty m k v=>
  simp only[opS,hv m (by simp[Op.operands]),hv k (by simp[Op.operands]),hv v (by simp[Op.operands])];exact congrArg _ (funext fun ti=>Fk ti _ _ h1)
 |insert ty m k v=>
  simp only[opS,hv m (by simp[Op.operands]),hv k (by simp[Op.operands]),hv v (by simp[Op.operands])];exact congrArg _ (funext fun ti=>Fk ti _ _ h1)
 |mapEntry ty m k=>
  simp only[opS,hv m (by simp[Op.operands]),hv k (by simp[Op.operands])];exact congrArg _ (funext fun ti=>MY ti _ _ h1)
 |entryStore ty m s v=>
  simp only[opS,hv m (by simp[Op.operands]),hv s (by simp[Op.operands]),hv v (by simp[Op.operands])];exact congrArg _ (funext fun ti=>MZ ti _ _ h1)
 |range ty x=>
  simp only[opS,hv x (by simp[Op.operands])];exact congrArg _ (funext fun ti=>MX ti nx h1)
 |next it isS=>cases isS <;>simp only[opS,hv it (by simp[Op.operands])]
 |entry it=>
  simp only[opS,hv it (by simp[Op.operands])];exact K2 h1
 |_=>rfl
structure DOk (ops:List Oper):Prop where
 back:∀ (i:Nat) (o:Oper) (e:Edge),ops[i]? =some o->e∈o.after->Region.binds .any e=true->e.on<i
 uniq:∀ (i k:Nat) (o q:Oper) (d:Nat),ops[i]? =some o->ops[k]? =some q->o.dst=some d->q.dst=some d->i=k
 look:∀ (i k:Nat) (o q:Oper) (d:Nat),ops[i]? =some o->ops[k]? =some q->q.dst=some d->d∈o.looksAt ops.toArray->k=i\/(k<i/\rF o k=true)\/(i<k/\rF q i=true)
theorem Zf {ops:List Oper}(h:Mx ops.toArray=true):DOk ops:=by
 have h':∀ (i:Nat) (o:Oper),ops[i]? =some o->(o.after.toList.all fun e=>!(Region.binds .any e) ||Nat.blt e.on i)=true/\
   ∀ (k:Nat) (q:Oper),ops[k]? =some q->∀ d,q.dst=some d->(Nat.beq k i|| !(o.dst==some d))=true/\(!((o.looksAt ops.toArray).contains d) ||Nat.beq k i||(Nat.blt k i&&rF o k) ||(Nat.blt i k&&rF q i))=true:=by
  intro i o ho;unfold Mx at h;rw[aiL]at h;have:=h i (by grind);simp only[ip,ho,aim]at this;grind
 refine⟨fun i o e ho he hb=>?_,fun i k o q d ho hq hd hqd=>?_,fun i k o q d ho hq hd hm=>?_⟩;have:=(h' i o ho).1;rw[aiL]at this;have:=this e (by grind);simp_all;have:=((h' i o ho).2 k q hq d hqd).1;simp_all;have:=((h' i o ho).2 k q hq d hd).2;have hc:(o.looksAt ops.toArray).contains d=true:=by grind
 simp only[hc,aiP,aj8,aiV,aim]at this;rcases this with(h1|h1) |h1 <;>simp_all
theorem Zg {ts:Tis}{ops:List Oper}{g:Option (Nat×Bool)}{st:St}{nx nx':Nat}{op:Op}{r:OR}(h:opS ⟨ts,ops,g,st,nx⟩ op=r)(hn:∀ c a ups s,r=.eff c a ups s->nx ∉ fO ups):opS ⟨ts,ops,g,st,nx'⟩ op=r:=by
 have hv:∀ x,val ⟨ts,ops,g,st,nx'⟩ x=val ⟨ts,ops,g,st,nx⟩ x:=fun x=>rfl;have hvs:∀ l,df ⟨ts,ops,g,st,nx'⟩ l=df ⟨ts,ops,g,st,nx⟩ l:=fun l=>uw l fun _ _=>rfl;have hps:∀ l,jw ⟨ts,ops,g,st,nx'⟩ l=jw ⟨ts,ops,g,st,nx⟩ l:=fun l=>vI l fun _ _=>rfl;have hvo:∀ o,qB ⟨ts,ops,g,st,nx'⟩ o=qB ⟨ts,ops,g,st,nx⟩ o:=fun o=>uz o fun _ _=>rfl;have hT:∀ (t:TypeId) (k k':TI->OR),aG ts t k=r->(∀ ti,k ti=r->k' ti=r)->aG ts t k'=r:=by
  grind [aG]
 have hNew:∀ l,IV nx l=r->IV nx' l=r:=by
  intro l e;cases l with
  |none=>exact e
  |some l=>exact absurd (by simp[fO]) (hn _ _ _ _ e.symm)
 cases op with
 |alloc t=>exact hT _ _ _ h fun ti e=>hNew _ e
 |box t x=>exact hNew _ h
 |store t x y=>
  refine hT _ _ _ h fun ti e=>?_;change tg ti.size nx st.h (val ⟨ts,ops,g,st,nx⟩ x) (val ⟨ts,ops,g,st,nx⟩ y)=r at e;change tg ti.size nx' st.h (val ⟨ts,ops,g,st,nx⟩ x) (val ⟨ts,ops,g,st,nx⟩ y)=r;unfold tg at e |-;split at e
  rename_i sz id i off rid _ _;cases hg:IU (ar st.h id)with
  |false=>grind
  |true=>
   rw[hg]at e;simp only[cond_true]at e |-;cases hc:Nat.beq ti.size 1&&Nat.beq sz 1&&Nat.beq off 0&& !(Nat.beq id rid)with
   |false=>grind
   |true=>
    rw[hc]at e;simp only[cond_true]at e |-;cases ho:ar st.h id with
    |grid k l=>
     rw[ho]at e;simp only[EJ]at e |-;cases hr:Mq k (ar st.h rid)with
     |none=>rw[hr]at e;exact e
     |some m=>rw[hr]at e;exact absurd (by simp[fO]) (hn _ _ _ _ e.symm)
    |_=>rw[ho]at e;exact e
  exact e
 |makeSlice t n c=>
  refine hT _ _ _ h fun ti e=>hT _ _ _ e fun te e=>?_;cases hb:ti.isSlice with
  |false=>grind
  |true=>
   rw[hb]at e;simp only[cond_true]at e |-;cases hb2:te.isSlice with
   |true=>
    rw[hb2]at e;simp only[cond_true]at e |-;refine hT _ _ _ e fun tr e=>?_;change GR nx te tr (val ⟨ts,ops,g,st,nx⟩ n) (val ⟨ts,ops,g,st,nx⟩ c)=r at e;change GR nx' te tr (val ⟨ts,ops,g,st,nx⟩ n) (val ⟨ts,ops,g,st,nx⟩ c)=r;unfold GR at e |-;split at e
    rename_i a b _ _;cases ht:tr.tag with
    |none=>rw[ht]at e;exact e
    |some k=>
     grind [VF,fO]
    exact e
   |false=>
   rw[hb2]at e;simp only[cond_false]at e |-;change mkS nx te (val ⟨ts,ops,g,st,nx⟩ n) (val ⟨ts,ops,g,st,nx⟩ c)=r at e;change mkS nx' te (val ⟨ts,ops,g,st,nx⟩ n) (val ⟨ts,ops,g,st,nx⟩ c)=r;unfold mkS at e |-;split at e
   rename_i a b _ _;cases ht:te.tag with
   |none=>rw[ht]at e;exact e
   |some k=>rw[ht]at e;exact absurd (by simp[fO]) (hn _ _ _ _ e.symm)
   exact e
 |slice t x lo hi m=>
  cases m with
  |some m=>
   refine hT _ _ _ h fun ti e=>hT _ _ _ e fun te e=>?_;grind
  |none=>
   refine hT _ _ _ h fun ti e=>hT _ _ _ e fun te e=>?_;rw[hvo,hvo];change o7 ti te.size nx st.h _ _ _ (val ⟨ts,ops,g,st,nx⟩ x)=r at e;change o7 ti te.size nx' st.h _ _ _ (val ⟨ts,ops,g,st,nx⟩ x)=r;unfold o7 at e |-;split at e
   exact e
   ·rename_i id _;cases hb:ti.isSlice with
    |false=>grind
    |true=>
     rw[hb]at e;simp only[cond_true]at e |-;cases hv:(Ht hi&&Kp ops)with
     |true=>grind
     |false=>
     rw[hv]at e;simp only[cond_false]at e |-;unfold RT at e |-;split at e
     rename_i k l _;cases hb:Nat.beq te.size (ae k)with
     |false=>grind
     |true=>
      rw[hb]at e;simp only[cond_true]at e |-;unfold VG at e |-;grind [fO]
     exact e
   exact e
 |makeMap t n=>
  cases n with
  |some n=>exact h
  |none=>
   refine hT _ _ _ h fun ti e=>?_;change mmR nx ti.mkt ti.mvt=r at e;change mmR nx' ti.mkt ti.mvt=r;unfold mmR at e |-;grind [fO]
 |call c=>
  obtain⟨callee,args,tys⟩:=c;cases callee with
  |value f=>rw[<-h];show Bo _ _=Bo _ _;rw[hvs];rfl
  |invoke f m=>exact h
  |builtin b=>
   cases b <;>first|exact h|skip
   ·change (match tys.toList with| [t1,t2] =>aG ts t1 fun ti=>aG ts t2 fun ti2=>aG ts ti.elem fun te=>bif ti.isSlice&&ti2.isSlice then o6 te nx st.h (df ⟨ts,ops,g,st,nx⟩ args.toList)else .bad|_=>.bad)=r at h;show(match tys.toList with| [t1,t2] =>aG ts t1 fun ti=>aG ts t2 fun ti2=>aG ts ti.elem fun te=>bif ti.isSlice&&ti2.isSlice then o6 te nx' st.h (df ⟨ts,ops,g,st,nx'⟩ args.toList)else .bad|_=>.bad)=r;rw[hvs];split at h
    ·refine hT _ _ _ h fun ti e=>hT _ _ _ e fun ti2 e=>hT _ _ _ e fun te e=>?_;cases hb:ti.isSlice&&ti2.isSlice with
     |false=>grind
     |true=>
      rw[hb]at e;simp only[cond_true]at e |-;have hR:∀ k b kill l m,RP k nx b kill l m=r->RP k nx' b kill l m=r:=by
       intro k b kill l m e;cases m with
       |none=>exact e
       |some m=>exact absurd (by grind [HM,fO]) (hn _ _ _ _ e.symm)
      have hGs:∀ k b id2 kill l m,EL k nx b id2 kill l m=r->EL k nx' b id2 kill l m=r:=by
       intro k b id2 kill l m e;cases m with
       |none=>exact e
       |some m=>exact absurd (by grind [HM,fO]) (hn _ _ _ _ e.symm)
      have hO:∀ kill src o,xw te nx kill st.h src o=r->xw te nx' kill st.h src o=r:=by
       intro kill src o e;cases o with
       |row k l=>
        grind [xw]
       |_=>exact e
      have hT2:∀ src o,xx te nx st.h src o=r->xx te nx' st.h src o=r:=by
       intro src o e;cases o with
       |none=>exact e|some k=>exact hO [] src (.row k []) e
      generalize df ⟨ts,ops,g,st,nx⟩ args.toList=l at e |-;unfold o6 at e |-;split at e
      rename_i id id2;cases hb:Nat.beq te.size 1&&Nat.beq (sz te.zero) 1&&Nat.ble 1 te.bytes&& !(Nat.beq id id2)with
      |false=>
       grind
      |true=>
       rw[hb]at e;simp only[cond_true]at e |-;unfold Dl at e |-;grind
      rename_i id2;cases hb:Nat.beq te.size 1&&Nat.beq (sz te.zero) 1&&Nat.ble 1 te.bytes with
      |false=>grind
      |true=>
       rw[hb]at e;simp only[cond_true]at e |-;unfold RQ at e |-;grind
      grind
      grind
      grind
      grind
      rename_i k l src;unfold P7 at e |-;cases hb:Nat.beq te.size (ae k)&&Nat.beq (sz te.zero) te.size&&Nat.ble 1 te.bytes with
      |false=>grind
      |true=>
       rw[hb]at e;simp only[cond_true]at e |-;cases hs:vj k st.h src with
       |none=>rw[hs]at e;exact e
       |some m=>
        rw[hs]at e;cases m with
        |nil=>exact e
        |cons x m=>exact absurd (by simp[fO]) (hn _ _ _ _ e.symm)
      exact e
    exact h
   rw[<-h];show(match tys.toList with| [t1] =>aG ts t1 fun ti=>aG ts ti.elem fun te=>AD ti te st.h (df ⟨ts,ops,g,st,nx'⟩ args.toList) |_=>.bad)=(match tys.toList with| [t1] =>aG ts t1 fun ti=>aG ts ti.elem fun te=>AD ti te st.h (df ⟨ts,ops,g,st,nx⟩ args.toList) |_=>.bad);rw[hvs];rw[<-h];show(match tys.toList with|t1::_=>aG ts t1 fun ti=>AE ti st.h (df ⟨ts,ops,g,st,nx'⟩ args.toList) |_=>.bad)=(match tys.toList with|t1::_=>aG ts t1 fun ti=>AE ti st.h (df ⟨ts,ops,g,st,nx⟩ args.toList) |_=>.bad);rw[hvs];rw[<-h];show(match tys.toList with| [t''] =>aG ts t'' fun ti=>wb ti st.h (df ⟨ts,ops,g,st,nx'⟩ args.toList) |_=>.bad)=(match tys.toList with| [t''] =>aG ts t'' fun ti=>wb ti st.h (df ⟨ts,ops,g,st,nx⟩ args.toList) |_=>.bad);rw[hvs];rw[<-h];show IY _=IY _;rw[hvs];rw[<-h];show IX _=IX _;rw[hvs]
 |build ty parts=>grind [opS]
 |buildSlice ty n parts=>
  refine hT _ _ _ h fun ti e=>hT _ _ _ e fun te e=>?_;change GQ (IW ty ops g) nx te (bsS ti te n (jw ⟨ts,ops,g,st,nx⟩ parts.toList))=r at e;show GQ (IW ty ops g) nx' te (bsS ti te n (jw ⟨ts,ops,g,st,nx'⟩ parts.toList))=r;rw[hps];generalize bsS ti te n (jw ⟨ts,ops,g,st,nx⟩ parts.toList)=o at e |-;unfold GQ at e |-;grind [fO]
 |makeFunc fn first caps=>grind [opS]
 |range ty x=>
  refine hT _ _ _ h fun ti e=>?_;change EP ti nx st.h (val ⟨ts,ops,g,st,nx⟩ x)=r at e;show EP ti nx' st.h (val ⟨ts,ops,g,st,nx'⟩ x)=r;rw[hv];generalize val ⟨ts,ops,g,st,nx⟩ x=s at e |-;cases s with
  |os id=>
   simp only[EP]at e |-;cases ho:ar st.h id with
   |mp kk vk l pend=>
    grind [VI,fO]
   |_=>rw[ho]at e;exact e
  |_=>exact e
 |mapEntry ty m k=>
  refine hT _ _ _ h fun ti e=>?_;change zU ti nx st.h (val ⟨ts,ops,g,st,nx⟩ k) (val ⟨ts,ops,g,st,nx⟩ m)=r at e;show zU ti nx' st.h (val ⟨ts,ops,g,st,nx'⟩ k) (val ⟨ts,ops,g,st,nx'⟩ m)=r;rw[hv,hv];generalize val ⟨ts,ops,g,st,nx⟩ m=s at e |-;cases s with
  |os id=>
   simp only[zU]at e |-;cases ho:ar st.h id with
   |mp kk vk l pend=>
    rw[ho]at e;simp only[P9]at e |-;cases hb:my kk ti.mkt&&my vk ti.mvt&&noE pend with
    |false=>grind
    |true=>
     rw[hb]at e;simp only[cond_true]at e |-;unfold P8 at e |-;grind [fO]
   |_=>rw[ho]at e;exact e
  |_=>exact e
 |next it isS=>cases isS <;>exact h|entry it=>exact h|_=>exact h
theorem Fo (as:List Nat)(j:Nat):∀ (l:List Edge),(Kt as l).testBit j=true->∃ e∈l,Region.binds .any e=true/\(j=e.on\/((nth as e.on).getD 0).testBit j=true)
 | [],h=>by simp[Kt]at h
 |e::r,h=>by
  simp only[Kt]at h;cases hb:Region.binds .any e with
  |false=>
   rw[hb]at h;obtain⟨e',h1,h2⟩:=Fo as j r h;grind
  |true=>
   rw[hb]at h;simp only[cond_true]at h;have h':(((nth as e.on).getD 0|||1<<< e.on) |||Kt as r).testBit j=true:=h;rw[Nat.testBit_or,Nat.testBit_or,aiV,aiV]at h';rcases h' with(h'|h') |h';grind
   refine⟨e,by simp,hb,.inl ?_⟩;rw[Nat.testBit_shiftLeft,aim]at h';grind [Nat.testBit_one_eq_true_iff_self_eq_zero]
   obtain⟨e',h1,h2⟩:=Fo as j r h';grind
def Ee (ops:List Oper)(S:Nat->Prop):Prop:= ∀ (i:Nat) (o:Oper) (j:Nat),S i->ops[i]? =some o->rF o j=true->S j
theorem On {ops:List Oper}{S:Nat->Prop}(hS:Ee ops S):∀ (l:List Oper) (as:List Nat),ops.drop as.length=l->(∀ i j,i<as.length->S i->((nth as i).getD 0).testBit j=true->S j)->
  ∀ i j,S i->uo (Cy l as) i j=true->S j
 | [],as,hd,ih,i,j,hi,hb=>by
  grind [ip,Cy,uo]
 |o::l,as,hd,ih,i,j,hi,hb=>by
  obtain⟨ho,hd'⟩:=Fh hd;refine On hS l (as++[Kt as o.after.toList]) (by grind) (fun i j hlt hi hb=>?_) i j hi hb;rw[ip]at hb;by_cases h:i<as.length
  rw[List.getElem?_append_left h]at hb;exact ih i j h hi (by grind [ip]);have:i=as.length:=by grind
  subst this;simp at hb;obtain⟨e,h1,h2,h3⟩:=Fo as j _ hb;have hon:S e.on:=hS _ o e.on hi ho (by
   unfold rF;rw[akl];exact⟨e,h1,by simp[h2]⟩)
  grind [ip]
theorem Jr {ops:List Oper}{S:Nat->Prop}(hS:Ee ops S){i j:Nat}(hi:S i)(hb:uo (Cy ops []) i j=true):S j:=
 On hS ops [] rfl (fun i j h=>by simp at h) i j hi hb
def Ord (ops:List Oper)(i j:Nat):Prop:=(j<i/\uo (Cy ops []) i j=true)\/(i<j/\uo (Cy ops []) j i=true)
theorem Fq {as:List Nat}{i:Nat}{x:Fp}:∀ (l:List Fp) (j:Nat),Ku as i x j l=true->∀ (k:Nat) (y:Fp),l[k]? =some y->j+k≠i->vA x y=true->(j+k<i/\uo as i (j+k)=true)\/(i<j+k/\uo as (j+k) i=true)
 | [],j,_,k,y,hk,_,_=>by simp at hk
 |z::r,j,h,k,y,hk,hne,hc=>by
  simp only[Ku,aim]at h;cases k with
  |zero=>
   simp at hk;subst hk;rw[ajP]at hne |-;have h1:=h.1;simp only[hc,aiP,akZ,aiV,aim]at h1;rcases h1 with(h1|h1) |h1 <;>simp_all
  |succ k=>
   have:=Fq r (j+1) h.2 k y (by grind) (by omega) hc;grind
theorem Ft {as:List Nat}{b:Nat}{all:List Fp}:∀ (l:List Fp) (i:Nat),N7 as b all i l=true->∀ (k:Nat) (x:Fp),l[k]? =some x->Ku as (i+k) x b all=true
 | [],i,_,k,x,hk=>by simp at hk
 |z::r,i,h,k,x,hk=>by
  simp only[N7,aim]at h;cases k with
  |zero=>grind
  |succ k=>
   have:=Ft r (i+1) h.2 k x (by grind);grind
theorem QE (l:List Nat):vz l []=false:=by
 induction l with
 |nil=>rfl|cons a r ih=>simp[vz,DP,ih]
theorem wR {n:Nat}:∀ {l m:List Nat},n∈l->n∈m->vz l m=true
 |a::r,m,h1,h2=>by
  simp only[vz];rcases aiu.1 h1 with rfl|h1;rw[(yL n m).2 h2];rfl;rw[wR h1 h2];cases DP a m <;>rfl
theorem HN:∀ {l:List Fp} {k:Nat} {x:Fp},EQ l=true->l[k]? =some x->x.tc=[]/\x.wt=[]
 | [],k,x,_,hk=>by simp at hk
 |z::r,k,x,h,hk=>by
  simp only[EQ,aim,List.isEmpty_iff]at h;cases k with
  |zero=>grind
  |succ k=>exact HN h.2 (by simpa using hk)
theorem Fu {ops:List Oper}{b:Nat}{fps:List Fp}(h:uq ops b fps){i j:Nat}{x y:Fp}(hi:fps[i]? =some x)(hj:fps[j]? =some y)(hne:i≠j)(hc:vA x y=true):Ord ops (b+i) (b+j):=by
 unfold uq at h;cases hs:EQ fps with
 |true=>
  obtain⟨e1,e2⟩:=HN hs hj;grind [vA,QE]
 |false=>
  rw[hs]at h;have h1:=Ft fps b h i x hi;have h2:=Fq fps b h1 j y hj (by omega) hc;rcases h2 with⟨q1,q2⟩ | ⟨q1,q2⟩;exact .inl ⟨q1,q2⟩;exact .inr ⟨q1,q2⟩
theorem Fv {ops:List Oper}{c:Nat}(h:ER ops c=true){i:Nat}(hi:i<ops.length)(hne:i≠c):(i<c/\uo (Cy ops []) c i=true)\/(c<i/\uo (Cy ops []) i c=true):=by
 have hg:∀ (l:List Oper) (j:Nat),I1 (Cy ops []) c j l=true->∀ k,k<l.length->(Nat.beq (j+k) c||(Nat.blt (j+k) c&&uo (Cy ops []) c (j+k)) ||(Nat.blt c (j+k)&&uo (Cy ops []) (j+k) c))=true:=by
  intro l;induction l with
  |nil=>grind
  |cons x r ih=>
   intro j h k hk;simp only[I1,aim]at h;cases k with
   |zero=>exact h.1
   |succ k=>
    have:=ih (j+1) h.2 k (by grind);grind
 have:=hg ops 0 h i hi;simp_all
structure Fact (ts:Tis)(G:Cons)(ops:List Oper)(o:Oper)(st st2:St)(s:SV)(ups:List Up)(fp:Fp)(r:Dr):Prop where
 dr:kR G st.h st.h.length (opS ⟨ts,ops,o.guard,st,st.h.length⟩ o.op)=some r
 nxt:st2=St.put ⟨st.t,ba st.h ups⟩ o.dst s
 fp:fp=fpU o.op (fpO ⟨ts,ops,o.guard,st,st.h.length⟩ o.op) r.all ups
 plain:o.guard=none->r.c/\s=r.s/\ups=r.ups
 guarded:∀ g,o.guard=some g->(dV ops st.t ops.length g->r.c)/\((r.ups=ups/\s=.gd g.1 g.2 r.s/\(ups=[]\/¬io ops st.t ops.length g))\/(ups=[]/\s=.gd g.1 g.2 r.s/\¬dV ops st.t ops.length g))
def V0 (ts:Tis)(G:Cons)(ops:List Oper)(K:St->Prop)(Z:Value->St->Prop)(e:Nat)(st:St):Prop:=
 (ops.length<=e/\K st)\/∃ o,ops[e]? =some o/\ER ops e=true/\Ok G ops o.dst st (fun st'=>kZ ts G ops K Z (ops.drop (e+1)) (e+1) (e+1) [] st') Z o.guard (opS ⟨ts,ops,o.guard,st,st.h.length⟩ o.op)
structure Piece (ts:Tis)(G:Cons)(ops:List Oper)(n m:Nat)(S:Nat->St)(s:Nat->SV)(ups:Nat->List Up)(fs:Nat->Fp)(R:Nat->Dr):Prop where
 fact:∀ i,i<m->∃ o,ops[n+i]? =some o/\Fact ts G ops o (S i) (S (i+1)) (s i) (ups i) (fs i) (R i)
section
variable {P:Program}{F:Nat->Prop}{own own':Own}{w w':World}{ts:Tis}
variable {w0:Bs}{ro:Option Nat}{nd:Nat}{N n:Nat}{ops:List Oper}{st:St}{a:Act}{G:Cons}
theorem QF (n:Nat)(s:SV)(o:Ob)(h:o∈aS n s):dg o=false:=by
 rcases(AP n s o h).1 with⟨_,_,rfl⟩ | ⟨_,_,_,rfl⟩ | ⟨_,_,rfl⟩ <;>rfl
theorem M4 {own':Own}{h:List Ob}(hp:Hp F own w h){nx:Nat}(hn:NxOk own h nx){s:SV}{u:Value}{ob:Ob}(hrow:aS 3 s=[ob]){F1:Nat->Prop}(hF1:(∀ b,F1 b↔cm F own b)\/((∀ b,F1 b↔F b)/\jX 3 s=true))(hb:Below w.heap.size w w')(hh:Handed F1 w own' w' s u):
  ∃ own2,Rel F own2 w' (ji 3 nx s) u/\Step F own w (ba h [(nx,ob)]) own2 w':=by
 have hFF:∀ b,F b->F1 b:=fun b hf=>by
  rcases hF1 with h1| ⟨h1,_⟩;exact(h1 b).2 (.inl hf);grind
 have h0:∀ id hd,own' id=some hd->id=0:=fun id hd e=>by
  have:=hh.hp.dom id hd e;grind
 let own2:Own:=fun id=>if id=nx then own' 0 else own id
 have o1:∀ id hd,own2 id=some hd->(id≠nx/\own id=some hd)\/(id=nx/\own' 0=some hd):=fun id hd e=>by
  grind
 have o2:∀ id hd,own id=some hd->own2 id=some hd:=fun id hd e=>by
  simp only[own2];rw[if_neg (fun h=>by rw[h,hn.none]at e;cases e)];exact e
 have o3:∀ id hd,own' id=some hd->own2 (id+nx)=some hd:=fun id hd e=>by
  grind
 have fr:Fr { w:=w,own:=own} own2 w':=Fr.of_step (fun id hd e=>⟨hd,o2 id hd e,.refl _⟩) (fun id hd b e hbb=>by
   rcases o1 id hd e with⟨_,e⟩ | ⟨_,e⟩;grind
   exact .inr (hh.fresh _ hd b e hbb)) (fun b hbl _=>hb.block b hbl) hb.size hb.os hb.tape hb.output
 have g:Goes F own w own2 w':=fr.goes;have hkeep:(∀ b,¬cm F1 own' b->¬cm F own2 b)\/jX 3 s=true:=by
  rcases hF1 with h1| ⟨_,h2⟩;left;rintro b hn (hf| ⟨id,hd,e,hbb⟩);exact hn (.inl (hFF b hf));rcases o1 id hd e with⟨_,e⟩ | ⟨_,e⟩;exact hn (.inl ((h1 b).2 (.inr ⟨id,hd,e,hbb⟩)));exact hn (.inr ⟨_,hd,e,hbb⟩);grind
 have hob:ar (aS 3 s) 0=ob:=by rw[hrow];rfl
 have hlen:nx< (ba h [(nx,ob)]).length:=by grind [ba,ce]
 have hle:h.length<=(ba h [(nx,ob)]).length:=by grind [ba,ce]
 refine⟨own2,?_,⟨fun id hd e=>?_,fun b hf=>aiy (hp.foreign b hf) hb.size,fun id hd b e hbb=>?_,fun i j hi hj b e1 e2 hb1 hb2=>?_,fun id hd b e hbb=>?_,fun id hdd=>?_⟩,fr,fun id e1 e2=>?_⟩;have:=Fc (F':=F) (own2:=own2) (m:=nx) o3 3 0 s u hh.val (hkeep.imp (fun hk c hc=>hk c fun ho=>hc (.inl ho)) id);grind
 rcases o1 id hd e with⟨_,e⟩ | ⟨rfl,_⟩;have:=hp.dom id hd e;omega;exact hlen;rcases o1 id hd e with⟨_,e⟩ | ⟨_,e⟩;exact hp.apart id hd b e hbb;exact fun hf=>hh.hp.apart _ hd b e hbb (hFF b hf);rcases o1 i hi e1 with⟨l1,e1⟩ | ⟨l1,e1⟩ <;>rcases o1 j hj e2 with⟨l2,e2⟩ | ⟨l2,e2⟩;exact hp.inj i j hi hj b e1 e2 hb1 hb2;have:=hp.lt i hi b e1 hb1;have:=hh.fresh _ hj b e2 hb2;omega;have:=hp.lt j hj b e2 hb2;have:=hh.fresh _ hi b e1 hb1;omega;omega;rcases o1 id hd e with⟨_,e⟩ | ⟨_,e⟩;exact aiy (hp.lt id hd b e hbb) hb.size;exact hh.hp.lt _ hd b e hbb;simp only[ba]at hdd |-;rw[dv]at hdd |-;by_cases hlt:nx=id
 rw[if_pos hlt]at hdd |-;have hdd':dg (ar (aS 3 s) 0)=false:=by grind
 obtain⟨hd,e1,e2⟩:=hh.hp.obs _ hdd';obtain⟨q1,q2⟩:=AP 3 s _ (KW hdd');have e3:=o3 _ hd e1;rw[ai2,hlt]at e3;rw[hob]at e2 q1 q2;exact⟨hd,e3,e2.over q1 (hkeep.imp (fun h=>h) q2)⟩;rw[if_neg hlt]at hdd |-;obtain⟨hd,e1,e2⟩:=hp.obs id hdd;exact⟨hd,o2 id hd e1,e2.carry g.carries hb.size fun b hbb=>hb.block b (hp.lt id hd b e1 hbb)⟩;simp only[own2];by_cases hid:id=nx
 subst hid;exfalso;simp only[ba]at e2;rw[dv,if_pos rfl]at e2;have:=QF 3 s ob (by grind);grind
 grind
theorem Ss {G:Cons}(hG:ConsOk P G){h:List Ob}(hp:Hp F own w h){nx:Nat}(hn:NxOk own h nx){f:FuncId}{args:List SV}{vs:Array Value}(hr:RelL F own w args vs){c:Con}(hc:G.p f (args.map (fP h 6))=some c)(hpre:aw c)
  (hres:args.all (da 3)=true\/∀ s,dw c s->jX 3 s=true):
  (callFunc f vs).run P w=.ok (.enter f vs) w/\Calls P f vs w (fun e w'=>(∃ s u,∃ own2:Ob->Own,dw c s/\e=.returned u/\∀ ob,aS 3 s=[ob]->Rel F (own2 ob) w' (ji 3 nx s) u/\Step F own w (ba h [(nx,ob)]) (own2 ob) w')\/(∃ x,nQ c x/\e=.panicked [{ v:=x,recovered:=false}]/\Below w.heap.size w w')):=by
 refine⟨(hG.p f).enter _ c hc vs w,?_⟩;have fin:∀ {own':Own} {w':World} {s:SV} {u:Value} {F1:Nat->Prop},((∀ b,F1 b↔cm F own b)\/((∀ b,F1 b↔F b)/\jX 3 s=true))->Below w.heap.size w w'->Handed F1 w own' w' s u->∃ own2:Ob->Own,∀ ob,aS 3 s=[ob]->Rel F (own2 ob) w' (ji 3 nx s) u/\Step F own w (ba h [(nx,ob)]) (own2 ob) w':=fun {own' w' s u F1} h1 h2 h3=>by
  refine Classical.axiomOfChoice (r:=fun ob own2=>aS 3 s=[ob]->Rel F own2 w' (ji 3 nx s) u/\Step F own w (ba h [(nx,ob)]) own2 w') fun ob=>?_;by_cases hrow:aS 3 s=[ob]
  obtain⟨own2,q⟩:=M4 hp hn hrow h1 h2 h3;grind
  simp_all
 rcases hres with hnp|hsc;have hpf:∀ (j:Nat) (s:SV),args[j]? =some s->PF s:=fun j s hj=>by
  rw[aiL]at hnp;exact iI 3 s (hnp s (aiw hj))
 refine((hG.p f).calls _ c hc hpre (cm F own) w vs (fun b hb=>?_) ⟨by simpa using hr.1,fun j s hj=>?_⟩).mono ?_;rcases hb with hf| ⟨id,hd,e,hbb⟩;exact hp.foreign b hf;exact hp.lt id hd b e hbb;obtain⟨x,hx,rfl⟩:=iW hj;exact Sn 6 x _ (hpf j x hx) (hr.2 j x hx);rintro e w' (⟨s,u,own',h1,h2,h3,h4⟩ |hp');obtain⟨own2,q⟩:=fin (.inl fun b=>alh) h4 h3;exact .inl ⟨s,u,own2,h1,h2,q⟩;grind
 refine((hG.p f).calls _ c hc hpre F w vs hp.foreign ⟨by simpa using hr.1,fun j s hj=>?_⟩).mono ?_;obtain⟨x,hx,rfl⟩:=iW hj;exact vG hp 6 x _ (hr.2 j x hx);rintro e w' (⟨s,u,own',h1,h2,h3,h4⟩ |hp');obtain⟨own2,q⟩:=fin (.inr ⟨fun b=>alh,hsc s h1⟩) h4 h3;exact .inl ⟨s,u,own2,h1,h2,q⟩;grind
theorem X6 (hG:ConsOk P G){h:List Ob}(hp:Hp F own w h){nx:Nat}(hn:NxOk own h nx){o:Oper}{run:Result Next}{r0:OR}{r:Dr}(h0:KO P F own w h run r0)(hr:kR G h nx r0=some r)(hc:r.c):
  r.a/\(∃ u own' w',Rel F own' w' r.s u/\Step F own w (ba h r.ups) own' w')/\
  ∀ (K:Act->World->Prop) (Q:Exit->Act->World->Prop),(∀ u own' w',Rel F own' w' r.s u->Step F own w (ba h r.ups) own' w'->K (a.put o.dst u) w')->o.uponIn (rd ro) nd P a K Q run:=by
 have hst:∀ {w'},Below w.heap.size w w'->Step F own w h own w':=fun hb=>⟨hp.below hb,Fj own hb,fun _ e _=>e⟩;cases r0 with
 |val s=>
  simp only[kR,aip]at hr;subst hr;obtain⟨u,e1,e2⟩:=h0;exact⟨trivial,⟨u,own,w,e2,hst (Below.refl _ _)⟩,fun K Q hK=>fX (.inl e1) (hK u own w e2 (hst (Below.refl _ _)))⟩
 |chk c s=>
  simp only[kR,aip]at hr;subst hr;obtain⟨u,e1,e2⟩:=h0 hc;exact⟨trivial,⟨u,own,w,e2,hst (Below.refl _ _)⟩,fun K Q hK=>fX (.inl e1) (hK u own w e2 (hst (Below.refl _ _)))⟩
 |asm c s=>
  simp only[kR,aip]at hr;subst hr;obtain⟨ha,u,e1,e2⟩:=h0;exact⟨ha,⟨u,own,w,e2,hst (Below.refl _ _)⟩,fun K Q hK=>fX (.inl e1) (hK u own w e2 (hst (Below.refl _ _)))⟩
 |newr s=>
  simp only[kR,aip]at hr;subst hr;obtain⟨u,cs,ty,e1,e2⟩:=h0;exact⟨trivial,⟨u,own,_,e2,hst (sL _ _)⟩,fun K Q hK=>fX (.inl e1) (hK u own _ e2 (hst (sL _ _)))⟩
 |eff c ac ups s=>
  simp only[kR,aip]at hr;subst hr;obtain⟨ha,u,own',w',e1,e2,e3⟩:=h0 hc;exact⟨ha,⟨u,own',w',e2,e3⟩,fun K Q hK=>fX e1 (hK u own' w' e2 e3)⟩
 |call f args=>
  obtain⟨vs,e1,e2⟩:=h0;simp only[kR]at hr;cases hcc:G.p f (args.map (fP h 6))with
  |none=>rw[hcc]at hr;cases hr
  |some cc=>
   rw[hcc]at hr;cases cc with
   |rel=>cases hr|may=>cases hr
   |det p s=>
    simp only[drC]at hr;have hrow:∀ (rows:List Ob),aS 3 s=rows->drR (args.all (da 3)) (args.flatMap (kY h 6)) nx p s rows=some r->
      ((args.all (da 3) ||jX 3 s)=true/\((rows=[]/\r=⟨p,True,s,[],args.flatMap (kY h 6)⟩)\/∃ ob,rows=[ob]/\r=⟨p,True,ji 3 nx s,[(nx,ob)],args.flatMap (kY h 6)⟩)):=fun rows _ hr=>by
     match rows,hr with
     | [],hr=>
      grind [drR]
     | [ob],hr=>
      grind [drR]
     |_::_::_,hr=>simp[drR]at hr
    obtain⟨hb,hcase⟩:=hrow _ rfl hr;rw[aiV]at hb;have hres:args.all (da 3)=true\/∀ s',dw (.det p s) s'->jX 3 s'=true:=hb.imp id (fun h s' hs'=>by cases hs';exact h);rcases hcase with⟨hz,rfl⟩ | ⟨ob,hz,rfl⟩
    ·obtain⟨k1,k2⟩:=Jk (P:=P) hG hp e1 hcc hc hres;have key:∀ {e:Ending} {w':World},((∃ s' u own2,dw (.det p s) s'/\e=.returned u/\Hp F own2 w' (h++aS 3 s')/\Fr { w:=w,own:=own} own2 w'/\Rel F own2 w' (ji 3 h.length s') u/\Below w.heap.size w w'/\∀ id,id<h.length->own2 id=own id)\/(∃ x,nQ (.det p s) x/\e=.panicked [{ v:=x,recovered:=false}]/\Below w.heap.size w w'))->
       ∃ u own2,e=.returned u/\Rel F own2 w' s u/\Step F own w h own2 w':=by
      rintro e w' (⟨s',u,own2,rfl,rfl,m2,m3,m4,m5,m6⟩ | ⟨x',m1,_⟩);rw[hz,aiQ]at m2;rw[Dw 3 _ _ hz]at m4;refine⟨u,own2,rfl,m4,m2,m3,fun id e1 e2=>?_⟩;cases ho:own2 id with
      |none=>rfl|some hd=>rw[m6 id (m2.dom id hd ho),e1]at ho;cases ho
      exact m1.elim
     refine⟨trivial,?_,fun K Q hK=>?_⟩;obtain⟨e,w',fr,hR,_⟩:=k2 [];obtain⟨u,own2,_,m1,m2⟩:=key hR;exact⟨u,own2,w',m1,m2⟩;rw[e2,k1];refine⟨fun h=>(by cases h),?_⟩;refine CallsIn.mono (qG k2) fun e w' hR=>?_;obtain⟨u,own2,rfl,m1,m2⟩:=key hR;exact hK u own2 w' m1 m2
    obtain⟨k1,k2⟩:=Ss (P:=P) hG hp hn e1 hcc hc hres;have key:∀ {e:Ending} {w':World},((∃ s' u,∃ own2:Ob->Own,dw (.det p s) s'/\e=.returned u/\∀ ob,aS 3 s'=[ob]->Rel F (own2 ob) w' (ji 3 nx s') u/\Step F own w (ba h [(nx,ob)]) (own2 ob) w')\/(∃ x,nQ (.det p s) x/\e=.panicked [{ v:=x,recovered:=false}]/\Below w.heap.size w w'))->
      ∃ u own2,e=.returned u/\Rel F own2 w' (ji 3 nx s) u/\Step F own w (ba h [(nx,ob)]) own2 w':=by
     rintro e w' (⟨s',u,own2,rfl,rfl,m2⟩ | ⟨x',m1,_⟩);grind
     exact m1.elim
    refine⟨trivial,?_,fun K Q hK=>?_⟩;obtain⟨e,w',fr,hR,_⟩:=k2 [];obtain⟨u,own2,_,m1,m2⟩:=key hR;grind
    rw[e2,k1];refine⟨fun h=>(by cases h),?_⟩;refine CallsIn.mono (qG k2) fun e w' hR=>?_;obtain⟨u,own2,rfl,m1,m2⟩:=key hR;grind
 |bad=>grind [kR]|_=>simp[kR]at hr
end
theorem AQ (ups:List Up):∀ h:List Ob,h.length<=(ba h ups).length:=by
 induction ups with
 |nil=>intro h;exact aio _
 |cons x r ih=>
  intro h;obtain⟨id,o⟩:=x;refine aiR ?_ (ih (bM h id o));grind [ce]
theorem HO {id:Nat}:∀ {ups:List Up} {h:List Ob},id∈fO ups->id< (ba h ups).length
 |(i,o)::r,h,hm=>by
  simp only[fO,aiu]at hm;simp only[ba];by_cases hr:id∈fO r
  exact HO hr;have e:id=i:=hm.resolve_right hr;subst e;refine aiy ?_ (AQ r _);grind [ce]
theorem rS {id:Nat}:∀ {ups:List Up} {h:List Ob},id ∉ fO ups->ar (ba h ups) id=ar h id
 | [],h,_=>rfl
 |(i,o)::r,h,hm=>by
  simp only[fO,aiu,not_or]at hm;simp only[ba];rw[rS hm.2,dv,if_neg (fun e=>hm.1 e.symm)]
theorem HP {id:Nat}:∀ {ups:List Up} {h h':List Ob},id∈fO ups->ar (ba h ups) id=ar (ba h' ups) id
 |(i,o)::r,h,h',hm=>by
  simp only[fO,aiu]at hm;simp only[ba];by_cases hr:id∈fO r
  exact HP hr;simp_all [rS,dv]
theorem Su {cx:Cx}(hnx:ar cx.st.h cx.nx=.dead){op:Op}(he:Bp op=true){c a:Prop}{ups:List Up}{s:SV}(h:opS cx op=.eff c a ups s)(id:Nat):ObUp (ar cx.st.h id) (ar (ba cx.st.h ups) id):=by
 cases op with
 |mapEntry t m k=>
  simp only[opS]at h;unfold aG at h;cases ht:cx.ts t with
  |none=>grind
  |some ti=>
   rw[ht]at h;change zU ti cx.nx cx.st.h (val cx k) (val cx m)=_ at h;unfold zU at h;split at h
   rename_i i _;unfold P9 at h;split at h
   rename_i kk vk l pq ho;cases hb:my kk ti.mkt&&my vk ti.mvt&&noE pq with
   |false=>grind
   |true=>
    rw[hb]at h;simp only[cond_true]at h;unfold P8 at h;split at h
    cases h;simp only[ba];rw[dv];split
    rename_i e;subst e;exact .inr (.inl ⟨kk,vk,l,_,_,ho,rfl⟩);rw[dv];split
    rename_i e;subst e;exact .inr (.inr ⟨.inl hnx,.inr rfl⟩);exact .refl _;cases h
   cases h;cases h
 |_=>cases he
theorem Js {o:Op}(he:Bp o=true){cx:Cx}{f:FuncId}{args:List SV}(h:opS cx o=.call f args):False:=by
 cases o with
 |mapEntry t m x=>
  simp only[opS]at h;unfold aG at h;cases ht:cx.ts t with
  |none=>grind
  |some ti=>
   rw[ht]at h;change zU ti cx.nx cx.st.h (val cx x) (val cx m)=_ at h;unfold zU at h;split at h
   rename_i i _;unfold P9 at h;split at h
   rename_i kk vk l pq ho;cases hb:my kk ti.mkt&&my vk ti.mvt&&noE pq with
   |false=>grind
   |true=>
    rw[hb]at h;simp only[cond_true]at h;unfold P8 at h;grind
   cases h;cases h
 |_=>cases he
theorem Sv {G:Cons}{h:List Ob}{nx:Nat}{r0:OR}{r:Dr}(hr:kR G h nx r0=some r)(hn:∀ c a ups s,r0≠ .eff c a ups s)(hc:∀ f args,r0≠ .call f args):r.ups=[]:=by
 cases r0 with
 |eff c a ups s=>grind|call f args=>grind
 |_=>simp only[kR]at hr;first|(cases hr;rfl) |cases hr
theorem M5 {ts:Tis}{G:Cons}{ops:List Oper}{K:St->Prop}{Z:Value->St->Prop}{o:Oper}{rest:List Oper}{i b:Nat}{fps:List Fp}{st:St}(h:kZ ts G ops K Z (o::rest) i b fps st):
  (∃ r,kR G st.h st.h.length (opS ⟨ts,ops,o.guard,st,st.h.length⟩ o.op)=some r/\
   (o.guard=none->r.c/\(r.a->kZ ts G ops K Z rest (i+1) b (fps++[fpU o.op (fpO ⟨ts,ops,o.guard,st,st.h.length⟩ o.op) r.all r.ups]) (St.put ⟨st.t,ba st.h r.ups⟩ o.dst r.s)))/\
   (∀ g,o.guard=some g->(dV ops st.t ops.length g->r.c)/\((r.ups=[]/\kZ ts G ops K Z rest (i+1) b (fps++[fpU o.op (fpO ⟨ts,ops,o.guard,st,st.h.length⟩ o.op) r.all []]) (st.put o.dst (.gd g.1 g.2 r.s)))\/
    (¬ (dV ops st.t ops.length g/\io ops st.t ops.length g)/\(dV ops st.t ops.length g->r.a->kZ ts G ops K Z rest (i+1) b (fps++[fpU o.op (fpO ⟨ts,ops,o.guard,st,st.h.length⟩ o.op) r.all r.ups]) (St.put ⟨st.t,ba st.h r.ups⟩ o.dst (.gd g.1 g.2 r.s)))/\
     (io ops st.t ops.length g->kZ ts G ops K Z rest (i+1) b (fps++[fpU o.op (fpO ⟨ts,ops,o.guard,st,st.h.length⟩ o.op) r.all []]) (st.put o.dst (.gd g.1 g.2 r.s)))))))\/
  (uq ops b fps/\ER ops i=true/\Ok G ops o.dst st (fun st'=>kZ ts G ops K Z rest (i+1) (i+1) [] st') Z o.guard (opS ⟨ts,ops,o.guard,st,st.h.length⟩ o.op)):=by
 simp only[kZ]at h;cases hg:o.guard with
 |none=>
  rw[hg]at h;simp only at h;cases hd:kR G st.h st.h.length (opS ⟨ts,ops,none,st,st.h.length⟩ o.op)with
  |none=>rw[hd]at h;exact .inr h
  |some r=>
   rw[hd]at h;exact .inl ⟨r,rfl,fun _=>h,fun g e=>by cases e⟩
 |some g=>
  rw[hg]at h;simp only at h;cases hd:kR G st.h st.h.length (opS ⟨ts,ops,some g,st,st.h.length⟩ o.op)with
  |none=>rw[hd]at h;exact .inr h
  |some r=>
   grind [yz,drG]
section
variable {P:Program}{F:Nat->Prop}{own own':Own}{w w':World}{ts:Tis}
variable {w0:Bs}{ro:Option Nat}{nd:Nat}{N n:Nat}{ops:List Oper}{st:St}{a:Act}{G:Cons}
theorem Oo {nx:Nat}{E:Nat->Prop}(hts:ts.ok P)(hi:SInv F w0 N ops E own st a w)(hn:NxOk own st.h nx){o:Oper}(hgo:GOk ops a o.guard)(hgn:∀ k c,o.guard=some (k,c)->E k/\pr ops k):
  KO P F own w st.h ((execOp a.eval o).run P w) (opS ⟨ts,ops,o.guard,st,nx⟩ o.op):=
 MT (P:=P) (ts:=ts) (ops:=ops) (g:=o.guard) (t:=st.t) (h:=st.h) (nx:=nx) hts hi.hp hn (a:=a) (o:=o) (Jf hi hgo hgn) (fun c x y _=>⟨fun hc=>zH hi hgo hgn c x true hc,fun hc=>zH hi hgo hgn c y false hc⟩)
theorem M6 {α:Type}(f:Nat->α)(m:Nat):(List.range (m+1)).map f=f 0::(List.range m).map (fun i=>f (i+1)):=by
 rw[List.range_succ_eq_map];simp_all
theorem sim (hts:ts.ok P)(hG:ConsOk P G)(hr:ROk N ops){K:St->Prop}{Z:Value->St->Prop}:∀ (rest:List Oper) (n:Nat) (own:Own) (st:St) (a:Act) (w:World) (b:Nat) (fps:List Fp),ops.drop n=rest->SInv F w0 N ops (· <n) own st a w->kZ ts G ops K Z rest n b fps st->
  ∃ (m:Nat) (S:Nat->St) (s:Nat->SV) (ups:Nat->List Up) (fs:Nat->Fp) (R:Nat->Dr),S 0=st/\Piece ts G ops n m S s ups fs R/\uq ops b (fps++(List.range m).map fs)/\V0 ts G ops K Z (n+m) (S m)
 | [],n,own,st,a,w,b,fps,hd,hi,hx=>by
  have hn:ops.length<=n:=by
   simp_all
  exact⟨0,fun _=>st,fun _=>.any,fun _=>[],fun _=>⟨[],[],[],[],[]⟩,fun _=>⟨True,True,.any,[],[]⟩,rfl,⟨fun i h=>by omega⟩,by simpa using hx.1,.inl ⟨hn,hx.2⟩⟩
 |o::rest,n,own,st,a,w,b,fps,hd,hi,hx=>by
  obtain⟨ho,hd'⟩:=Fh hd;have hgE:∀ j b,o.guard=some (j,b)->j<n:=fun j b e=>hr.lt n o j b ho e;rcases M5 hx with⟨r,h1,h2,h3⟩ | ⟨h1,h2,h3⟩
  ·
   have hgo2:∀ (s:SV) (ups:List Up) (own':Own) (a':Act) (w':World),(o.guard=none->r.c/\s=r.s/\ups=r.ups)->(∀ g,o.guard=some g->(dV ops st.t ops.length g->r.c)/\((r.ups=ups/\s=.gd g.1 g.2 r.s/\(ups=[]\/¬io ops st.t ops.length g))\/(ups=[]/\s=.gd g.1 g.2 r.s/\¬dV ops st.t ops.length g)))->
     SInv F w0 N ops (· <n+1) own' (St.put ⟨st.t,ba st.h ups⟩ o.dst s) a' w'->kZ ts G ops K Z rest (n+1) b (fps++[fpU o.op (fpO ⟨ts,ops,o.guard,st,st.h.length⟩ o.op) r.all ups]) (St.put ⟨st.t,ba st.h ups⟩ o.dst s)->
     ∃ (m:Nat) (S:Nat->St) (s:Nat->SV) (ups:Nat->List Up) (fs:Nat->Fp) (R:Nat->Dr),S 0=st/\Piece ts G ops n m S s ups fs R/\uq ops b (fps++(List.range m).map fs)/\V0 ts G ops K Z (n+m) (S m):=by
    intro s ups own' a' w' q1 q2 q3 q4;obtain⟨m,S,s',ups',fs,R,e0,e1,e2,e3⟩:=sim hts hG hr rest (n+1) own' _ a' w' b _ hd' q3 q4;refine⟨m+1,fun i=>match i with|0=>st|i+1=>S i,fun i=>match i with|0=>s|i+1=>s' i,fun i=>match i with|0=>ups|i+1=>ups' i,fun i=>match i with|0=>fpU o.op (fpO ⟨ts,ops,o.guard,st,st.h.length⟩ o.op) r.all ups|i+1=>fs i,fun i=>match i with|0=>r|i+1=>R i,rfl,⟨fun i hi=>?_⟩,?_,?_⟩;cases i with
    |zero=>exact⟨o,ho,⟨h1,e0,rfl,q1,q2⟩⟩
    |succ i=>
     obtain⟨o',k1,k2⟩:=e1.fact i (by omega);grind
    grind [M6]
    grind
   by_cases hgo:GOk ops a o.guard
   ·have hrun:=Oo hts hi hi.hp.nx hgo (fun k c e=>⟨hgE k c e,n,o,c,ho,e⟩);have hc:r.c:=by
     cases hg:o.guard with
     |none=>grind
     |some g=>exact(h3 g hg).1 (wP hi n (fun _ _ _ _ _ _ _ _=>rfl) hr.lt _ g (hgE g.1 g.2 hg) (hgE g.1 g.2 hg) ⟨n,o,g.2,ho,hg⟩ (by grind))
    obtain⟨ha,⟨u,own',w',k1,k2⟩,_⟩:=X6 (ro:=none) (nd:=0) (a:=a) (o:=o) hG hi.hp hi.hp.nx hrun h1 hc;have hstep:=hi.stepe hr (vH n) (ajo n) ho hgE hgo k2.hp k2.fr k1;cases hg:o.guard with
    |none=>exact hgo2 r.s r.ups own' _ w' (fun _=>⟨hc,rfl,rfl⟩) (fun g e=>by grind) hstep.1 ((h2 hg).2 ha)
    |some g=>
     have h3':=h3 g hg;rcases h3'.2 with⟨e0,hx⟩ | ⟨nb,hP,_⟩;refine hgo2 (.gd g.1 g.2 r.s) [] own' (a.put o.dst u) w' (fun e=>by grind) (fun g' e=>by grind) ?_ hx;grind
     have hPp:=wP hi n (fun _ _ _ _ _ _ _ _=>rfl) hr.lt ops.length g (hgE g.1 g.2 hg) (hgE g.1 g.2 hg) ⟨n,o,g.2,ho,hg⟩ (by grind);exact hgo2 (.gd g.1 g.2 r.s) r.ups own' (a.put o.dst u) w' (fun e=>by grind) (fun g' e=>by grind) (hstep.2 g hg) (hP hPp ha)
   cases hg:o.guard with
   |none=>exact absurd (by rw[hg];trivial) hgo
   |some g=>
    have h3':=h3 g hg;rcases h3'.2 with⟨e0,hx⟩ | ⟨nb,_,hN⟩;exact hgo2 (.gd g.1 g.2 r.s) [] own _ w (fun e=>by grind) (fun g' e=>by grind) (hi.skip hr (vH n) (ajo n) ho hgE hgo hg) hx;have hNn:=CG hi ops.length g (hgE g.1 g.2 hg) ⟨n,o,g.2,ho,hg⟩ (by grind);exact hgo2 (.gd g.1 g.2 r.s) [] own _ w (fun e=>by grind) (fun g' e=>by grind) (hi.skip hr (vH n) (ajo n) ho hgE hgo hg) (hN hNn)
  ·
   exact⟨0,fun _=>st,fun _=>.any,fun _=>[],fun _=>⟨[],[],[],[],[]⟩,fun _=>⟨True,True,.any,[],[]⟩,rfl,⟨fun i h=>by omega⟩,by grind,.inr ⟨o,ho,h2,by grind⟩⟩
variable {b m:Nat}{S:Nat->St}{s:Nat->SV}{ups:Nat->List Up}{fs:Nat->Fp}{R:Nat->Dr}
theorem X7 (st:St)(d:Option Nat)(s:SV):(st.put d s).h=st.h:=by cases d <;>rfl
theorem M7 (st:St)(d:Option Nat)(s:SV)(t:Nat):lk t (st.put d s).t=if d=some t then s else lk t st.t:=by
 cases d with
 |none=>rfl
 |some d=>
  show lk t ((d,s)::st.t)=_;simp_all [pV]
theorem Piece.hstep (hp:Piece ts G ops b m S s ups fs R){i:Nat}(hi:i<m):(S (i+1)).h=ba (S i).h (ups i):=by
 obtain⟨o,_,f⟩:=hp.fact i hi;rw[f.nxt,X7]
theorem Piece.len (hp:Piece ts G ops b m S s ups fs R){i:Nat}:∀ {j:Nat},i<=j->j<=m->(S i).h.length<=(S j).h.length
 |0,h,_=>by
   grind
 |j+1,h,hj=>by
  by_cases e:i=j+1
  grind
  refine aiR (Piece.len hp (j:=j) (by omega) (by omega)) ?_;rw[hp.hstep (by omega)];exact AQ _ _
theorem Piece.same (hp:Piece ts G ops b m S s ups fs R){id i:Nat}:∀ {j:Nat},i<=j->j<=m->(∀ k,i<=k->k<j->id ∉ fO (ups k))->ar (S i).h id=ar (S j).h id
 |0,h,_,_=>by
   grind
 |j+1,h,hj,hk=>by
  by_cases e:i=j+1
  subst e;rfl;rw[Piece.same hp (j:=j) (by omega) (by omega) (fun k h1 h2=>hk k h1 (by omega)),hp.hstep (by omega),rS (hk j (by omega) (by omega))]
theorem Piece.like (hp:Piece ts G ops b m S s ups fs R){id i:Nat}:∀ {j:Nat},i<=j->j<=m->(∀ k,i<=k->k<j->id∈(fs k).tc->False)->ObUp (ar (S i).h id) (ar (S j).h id)
 |0,h,_,_=>by
   have:i=0:=by omega
   subst this;exact .refl _
 |j+1,h,hj,hk=>by
  by_cases e:i=j+1
  subst e;exact .refl _;refine(Piece.like hp (j:=j) (by omega) (by omega) (fun k h1 h2=>hk k h1 (by omega))).trans ?_;obtain⟨o,ho,f⟩:=hp.fact j (by omega);rw[hp.hstep (by omega)];by_cases hm:id∈fO (ups j)
  have hno:=hk j (by omega) (by omega);rw[f.fp]at hno;unfold fpU at hno;cases he:Bp o.op with
  |false=>grind
  |true=>
   have e3:ups j=[]\/ups j=(R j).ups:=by
    cases hg:o.guard with
    |none=>exact .inr (f.plain hg).2.2
    |some g=>
     rcases(f.guarded g hg).2 with⟨e,_⟩ | ⟨e,_⟩ <;>grind
   rcases e3 with e3|e3;grind [fO]
   have hdr:=f.dr;cases hop:opS ⟨ts,ops,o.guard,S j,(S j).h.length⟩ o.op with
   |eff c a' ups' s'=>
    rw[hop]at hdr;simp only[kR,aip]at hdr;rw[e3,<-hdr];exact Su (qE (aio _)) he hop id
   |_=>
    rw[hop]at hdr;rw[e3,Sv hdr (fun _ _ _ _ e=>by cases e) (fun f args e=>Js he (hop.trans e))]at hm;simp[fO]at hm
  rw[rS hm];exact .refl _
end
theorem K3 {x y:Fp}{id:Nat}(h1:id∈x.tc\/id∈x.wt)(h2:id∈y.tc\/id∈y.wt):vA x y=true:=by
 grind [vA,wR]
theorem Sw {x y:Fp}{id:Nat}(h1:id∈x.rd)(h2:id∈y.tc\/id∈y.wt):vA x y=true:=by
 grind [vA,wR]
theorem Sy {x y:Fp}{id:Nat}(h1:id∈x.wk)(h2:id∈y.tc):vA x y=true:=by
 grind [vA,wR]
theorem QG {x y:Fp}{id:Nat}(h1:id∈x.all)(h2:id∈y.tc\/id∈y.wt):vA x y=true:=by
 grind [vA,wR]
section
variable {P:Program}{F:Nat->Prop}{own own':Own}{w w':World}{ts:Tis}
variable {w0:Bs}{ro:Option Nat}{nd:Nat}{N n:Nat}{ops:List Oper}{st:St}{a:Act}{G:Cons}
variable {b m:Nat}{S:Nat->St}{s:Nat->SV}{ups:Nat->List Up}{fs:Nat->Fp}{R:Nat->Dr}
theorem Piece.touch (hp:Piece ts G ops b m S s ups fs R){i id:Nat}(hi:i<m)(h:id∈fO (ups i)):id∈(fs i).tc\/id∈(fs i).wt:=by
 obtain⟨o,_,f⟩:=hp.fact i hi;rw[f.fp];grind [fpU]
theorem Piece.touched (hp:Piece ts G ops b m S s ups fs R){i id:Nat}(hi:i<m)(h:id∈(fs i).tc):id∈fO (ups i):=by
 obtain⟨o,_,f⟩:=hp.fact i hi;rw[f.fp]at h;grind [fpU]
theorem Piece.lt (hp:Piece ts G ops b m S s ups fs R){i id:Nat}(hi:i<m)(h:id∈fO (ups i)):id< (S (i+1)).h.length:=by
 rw[hp.hstep hi];exact HO h
theorem Piece.lk (hp:Piece ts G ops b m S s ups fs R)(t:Nat):∀ k,k<=m->(∃ (j:Nat) (q:Oper),j<k/\ops[b+j]? =some q/\q.dst=some t/\Sx.lk t (S k).t=s j)\/((∀ (j:Nat) (q:Oper),j<k->ops[b+j]? =some q->q.dst≠some t)/\Sx.lk t (S k).t=Sx.lk t (S 0).t)
 |0,_=>.inr ⟨fun j q h=>by omega,rfl⟩
 |k+1,hk=>by
  obtain⟨o,ho,f⟩:=hp.fact k (by omega);have hl:Sx.lk t (S (k+1)).t=if o.dst=some t then s k else Sx.lk t (S k).t:=by rw[f.nxt,M7]
  by_cases hd:o.dst=some t
  grind
  rw[if_neg hd]at hl;rcases Piece.lk hp t k (by omega)with⟨j,q,h1,h2,h3,h4⟩ | ⟨h1,h2⟩ <;>grind
structure DInv (F:Nat->Prop)(w0:Bs)(N:Nat)(ops:List Oper)(b m:Nat)(S:Nat->St)(s:Nat->SV)(ups:Nat->List Up)(listed:Array Bool)(own:Own)(st:St)(a:Act)(w:World):Prop where
 inv:SInv F w0 N ops (fun k=>listed[k]? =some true) own st a w
 size:listed.size=ops.length
 low:∀ k,k<b->k<ops.length->listed[k]? =some true
 high:∀ k,b+m<=k->¬listed[k]? =some true
 put:∀ (k:Nat) (q:Oper) (d:Nat),k<m->listed[b+k]? =some true->ops[b+k]? =some q->q.dst=some d->lk d st.t=s k
 old:∀ t,(∀ (k:Nat) (q:Oper),k<m->listed[b+k]? =some true->ops[b+k]? =some q->q.dst≠some t)->lk t st.t=lk t (S 0).t
 closed:Ee ops (fun k=>listed[k]? =some true)
 heap:∀ id,∃ p,p<=m/\(∀ k,k<m->id∈fO (ups k)->(listed[b+k]? =some true↔k<p))/\ar st.h id=ar (S p).h id
 dom:∀ id,own id=none\/id< (S 0).h.length\/∃ k,k<m/\listed[b+k]? =some true/\id∈fO (ups k)
theorem BG {listed:Array Bool}{k:Nat}(h:listed.getD k true=false):listed[k]? =some false:=by
 simp only[aiB]at h;grind
theorem K4 {listed:Array Bool}{k:Nat}(h:listed.getD k false=true):listed[k]? =some true:=by
 simp only[aiB]at h;grind
theorem K5 {listed:Array Bool}{n:Nat}(hn:listed[n]? =some false)(k:Nat):(listed.setIfInBounds n true)[k]? =some true↔listed[k]? =some true\/k=n:=by
 grind
theorem Sz {o:Oper}{n:Nat}(h:Operand.tmp n∈o.op.operands.toList):n∈o.looksAt ops.toArray:=by
 grind [Oper.looksAt]
variable {listed:Array Bool}
theorem DInv.order (hi:DInv F w0 N ops b m S s ups listed own st a w){k:Nat}{o:Oper}(ho:ops[b+k]? =some o)(hni:listed[b+k]? =some false)(hw:∀ j,rF o j=true->listed[j]? =some true){j:Nat}(hne:j≠k)(hord:Ord ops (b+k) (b+j)):
  (j<k/\listed[b+j]? =some true)\/(k<j/\¬listed[b+j]? =some true):=by
 rcases hord with⟨h1,h2⟩ | ⟨h1,h2⟩;left;refine⟨by omega,?_⟩;have:=Jr (ops:=ops) (S:=fun i=>listed[i]? =some true\/i=b+k) (fun i q j' hS hq hj'=>?_) (.inr rfl) h2;grind
 rcases hS with hS|rfl;exact .inl (hi.closed i q j' hS hq hj');grind
 right;refine⟨by omega,fun hl=>?_⟩;have:=Jr hi.closed hl h2;grind
theorem DInv.obj (hi:DInv F w0 N ops b m S s ups listed own st a w)(hp:Piece ts G ops b m S s ups fs R){k:Nat}(hk:k<m)(hni:listed[b+k]? =some false){id:Nat}
  (hor:∀ j,j<m->j≠k->id∈fO (ups j)->(j<k/\listed[b+j]? =some true)\/(k<j/\¬listed[b+j]? =some true)):ar (S k).h id=ar st.h id:=by
 obtain⟨p,h1,h2,h3⟩:=hi.heap id;rw[h3];have hnk:¬listed[b+k]? =some true:=by grind
 by_cases hpk:p<=k
 refine(hp.same hpk (by omega) fun j q1 q2 hm=>?_).symm;grind
 refine hp.same (by omega) h1 fun j q1 q2 hm=>?_;grind
theorem DInv.objUp (hi:DInv F w0 N ops b m S s ups listed own st a w)(hp:Piece ts G ops b m S s ups fs R){k:Nat}(hk:k<m)(hni:listed[b+k]? =some false){id:Nat}
  (hor:∀ j,j<m->j≠k->id∈(fs j).tc->(j<k/\listed[b+j]? =some true)\/(k<j/\¬listed[b+j]? =some true)):ObUp (ar (S k).h id) (ar st.h id):=by
 obtain⟨p,h1,h2,h3⟩:=hi.heap id;rw[h3];have hnk:¬listed[b+k]? =some true:=by grind
 by_cases hpk:p<=k
 refine(hp.like hpk (by omega) fun j q1 q2 hm=>?_).symm;rcases hor j (by omega) (by omega) hm with⟨_,hl⟩ | ⟨h,_⟩;have:=(h2 j (by omega) (hp.touched (by omega) hm)).1 hl;omega;omega;refine hp.like (by omega) h1 fun j q1 q2 hm=>?_;have hl:=(h2 j (by omega) (hp.touched (by omega) hm)).2 q2;grind
theorem DInv.reads (hd:DOk ops)(hi:DInv F w0 N ops b m S s ups listed own st a w)(hp:Piece ts G ops b m S s ups fs R){k:Nat}{o:Oper}(hk:k<m)(ho:ops[b+k]? =some o)(hni:listed[b+k]? =some false)
  (hw:∀ j,rF o j=true->listed[j]? =some true) {d:Nat} (hm:d∈o.looksAt ops.toArray):lk d (S k).t=lk d st.t:=by
 rcases hp.lk d k (by omega)with⟨j,q,h1,h2,h3,h4⟩ | ⟨h1,h2⟩;rw[h4];rcases hd.look (b+k) (b+j) o q d ho h2 h3 hm with e| ⟨_,e⟩ | ⟨e,_⟩;omega;exact(hi.put j q d (by omega) (hw _ e) h2 h3).symm;omega;rw[h2];refine(hi.old d fun j q hj hl hq hqd=>?_).symm;rcases hd.look (b+k) (b+j) o q d ho hq hqd hm with e| ⟨e,_⟩ | ⟨_,e⟩;grind
 grind
 have:listed[b+k]? =some true:=hi.closed _ q _ hl hq e;grind
theorem DInv.full (hd:DOk ops)(hi:DInv F w0 N ops b m S s ups listed own st a w)(hp:Piece ts G ops b m S s ups fs R)(hall:∀ k,k<m->listed[b+k]? =some true):SInv F w0 N ops (fun k=>listed[k]? =some true) own (S m) a w:=by
 have ht:∀ t,lk t (S m).t=lk t st.t:=fun t=>by
  rcases hp.lk t m (aio _)with⟨j,q,h1,h2,h3,h4⟩ | ⟨h1,h2⟩;rw[h4];exact(hi.put j q t h1 (hall j h1) h2 h3).symm;rw[h2];exact(hi.old t fun k q hk _ hq=>h1 k q hk hq).symm
 have hh:∀ id,ar (S m).h id=ar st.h id:=fun id=>by
  obtain⟨p,h1,h2,h3⟩:=hi.heap id;rw[h3];refine(hp.same h1 (aio _) fun j q1 q2 hm=>?_).symm;grind
 refine⟨hi.inv.size,hi.inv.defers,⟨fun id hd e=>?_,hi.inv.hp.foreign,hi.inv.hp.apart,hi.inv.hp.inj,hi.inv.hp.lt,fun id hdd=>?_⟩,hi.inv.fr,fun t=>by rw[ht];exact hi.inv.slots t,fun k o d j b s h1 h2 h3 h4 h5=>hi.inv.tags k o d j b s h1 h2 h3 h4 (by grind),hi.inv.closed,hi.inv.chain⟩;rcases hi.dom id with h|h| ⟨k,h1,_,h2⟩;grind
 exact aiy h (hp.len (aiX _) (aio _));exact aiy (hp.lt h1 h2) (hp.len (by omega) (aio _));rw[hh]at hdd |-;exact hi.inv.hp.obs id hdd
theorem DInv.start (hi:SInv F w0 N ops (· <b) own (S 0) a w)(hsz:listed.size=ops.length)(hl:∀ k,k<ops.length->(listed[k]? =some true↔k<b))(hr:ROk N ops)(hback:∀ (i:Nat) (o:Oper) (j:Nat),ops[i]? =some o->rF o j=true->j<i):DInv F w0 N ops b m S s ups listed own (S 0) a w:=by
 have hE:∀ k,listed[k]? =some true->k<b:=fun k h=>(hl k (by grind)).1 h;have hnone:∀ {k:Nat},¬listed[b+k]? =some true:=fun {k} h=>by grind
 refine⟨⟨hi.size,hi.defers,hi.hp,hi.fr,fun t=>?_,fun k o d j b' s h1=>hi.tags k o d j b' s (hE k h1),fun k o j b' h1 h2 h3=>?_,fun k o b' h1=>hi.chain k o b' (hE k h1)⟩,hsz,fun k h1 h2=>(hl k h2).2 h1,fun k h1 h2=>by grind,fun k q d _ h=>absurd h hnone,fun t _=>rfl,fun i o j h1 h2 h3=>?_,fun id=>⟨0,aiX _,fun k hk _=>⟨fun h=>absurd h hnone,fun h=>by omega⟩,rfl⟩,fun id=>?_⟩;have h:=hi.slots t;cases hs:lk t (S 0).t with
 |gd j b' s'=>
  rw[hs]at h;obtain⟨q1,⟨i,o,b2,q2,q3⟩,q4⟩:=h;have hlt:=(aiq.1 q2).1;have:=hr.lt i o j b2 q2 q3;exact⟨(hl j (by omega)).2 q1,⟨i,o,b2,q2,q3⟩,q4⟩
 |_=>rw[hs]at h;exact h
 have hlt:=(aiq.1 h2).1;have:=hr.lt k o j b' h2 h3;grind
 grind
 cases ho:own id with
 |none=>grind|some hd=>exact .inr (.inl (hi.hp.dom id hd ho))
end
theorem V1 {np:Bool}{rd:List Nat}{nx:Nat}{p:Prop}{s:SV}{rows:List Ob}{r:Dr}(h:drR np rd nx p s rows=some r):r.all=rd:=by
 match rows,h with
 | [],h=>grind [drR]| [ob],h=>grind [drR]|_::_::_,h=>simp[drR]at h
theorem V2 {G:Cons}{h:List Ob}{nx nx':Nat}{r0:OR}{r:Dr}(hr:kR G h nx r0=some r)(hn:¬nx∈fO r.ups\/∀ f args,r0≠ .call f args):kR G h nx' r0=some r:=by
 cases r0 with
 |call f args=>
  have hn:=hn.resolve_right (fun h=>h f args rfl);simp only[kR]at hr |-;cases hc:G.p f (args.map (fP h 6))with
  |none=>rw[hc]at hr;cases hr
  |some c=>
   rw[hc]at hr;cases c with
   |rel=>cases hr|may=>cases hr
   |det p s=>
    simp only[drC]at hr |-;generalize aS 3 s=rows at hr |-;match rows,hr with
    | [],hr=>exact hr
    | [ob],hr=>
     grind [drR,fO]
    |_::_::_,hr=>simp[drR]at hr
 |_=>exact hr
theorem K6 {f:SV->List Nat}{l:List SV}{x:SV}{id:Nat}(hx:x∈l)(hid:id∈f x):id∈l.flatMap f:=aj3.2 ⟨x,hx,hid⟩
theorem SA {h h':List Ob}:∀ (n:Nat) (s:SV),(∀ id,id∈kY h n s->ar h id=ar h' id)->fP h n s=fP h' n s:=by
 intro n;induction n with
 |zero=>intro s hs;cases s <;>first|rfl|(simp only[fP];rw[hs _ (by simp[kY])])
 |succ n ih=>
  intro s hs;have hl:∀ (l:List SV),(∀ id,id∈l.flatMap (kY h n)->ar h id=ar h' id)->l.map (fP h n)=l.map (fP h' n):=fun l hl=>
   akW fun x hx=>ih x fun id hid=>hl id (K6 hx hid)
  cases s with
  |ptr id off=>
   simp only[fP];rw[<-hs id (by simp[kY])];have hq:∀ ob,(∀ id,id∈Qa (kY h n) ob->ar h id=ar h' id)->P_ (fP h n) off ob=P_ (fP h' n) off ob:=fun ob hq=>by
    cases ob with
    |cells l=>simp only[P_,hl l hq]|_=>rfl
   grind [kY]
  |ep l o=>simp only[fP,hl l hs]|ls l=>simp only[fP,hl l hs]|agg l=>simp only[fP,hl l hs]|tup l=>simp only[fP,hl l hs]|fn f l l2=>grind [fP,kY]
  |_=>first|rfl|(simp only[fP];rw[hs _ (by simp[kY])])
theorem AR {f g:SV->List Nat}:∀ (l:List SV),(∀ x,x∈l->f x=g x)->l.flatMap f=l.flatMap g
 | [],_=>rfl
 |a::r,h=>by rw[ai5,ai5,h a (by simp),AR r fun x hx=>h x (by simp[hx])]
theorem SB {h h':List Ob}:∀ (n:Nat) (s:SV),(∀ id,id∈kY h n s->ar h id=ar h' id)->kY h n s=kY h' n s:=by
 intro n;induction n with
 |zero=>intro s hs;cases s <;>rfl
 |succ n ih=>
  intro s hs;have hl:∀ (l:List SV),(∀ id,id∈l.flatMap (kY h n)->ar h id=ar h' id)->l.flatMap (kY h n)=l.flatMap (kY h' n):=fun l hl=>
   AR l fun x hx=>ih x fun id hid=>hl id (K6 hx hid)
  cases s with
  |ptr id off=>
   simp only[kY];rw[<-hs id (by simp[kY])];have hq:∀ ob,(∀ id,id∈Qa (kY h n) ob->ar h id=ar h' id)->Qa (kY h n) ob=Qa (kY h' n) ob:=fun ob hq=>by
    cases ob with
    |cells l=>exact hl l hq|_=>rfl
   grind [kY]
  |ep l o=>grind [kY]|ls l=>grind [kY]|agg l=>grind [kY]|tup l=>grind [kY]|fn f l l2=>grind [kY]|_=>rfl
theorem M8 {G:Cons}{h h':List Ob}{nx:Nat}{r0:OR}{r:Dr}(hh:∀ id,id∈r.all->ar h id=ar h' id)(hr:kR G h nx r0=some r):kR G h' nx r0=some r:=by
 cases r0 with
 |call f args=>
  have hall:r.all=args.flatMap (kY h 6):=by
   simp only[kR]at hr;cases hc:G.p f (args.map (fP h 6))with
   |none=>rw[hc]at hr;cases hr
   |some c=>
    rw[hc]at hr;cases c with
    |rel=>cases hr|may=>cases hr
    |det p s=>
     simp only[drC]at hr;exact V1 hr
  have e:args.map (fP h 6)=args.map (fP h' 6):=akW fun x hx=>SA 6 x fun id hid=>hh id (by grind);have e2:args.flatMap (kY h 6)=args.flatMap (kY h' 6):=AR args fun x hx=>SB 6 x fun id hid=>hh id (by grind);grind [kR]
 |_=>exact hr
theorem Zh (o:Op)(x:List Nat×List Nat)(all:List Nat)(ups:List Up):(fpU o x all ups).rd=x.1/\(fpU o x all ups).wk=x.2/\(fpU o x all ups).all=all:=by
 grind [fpU]
section
variable {P:Program}{F:Nat->Prop}{own own':Own}{w w':World}{ts:Tis}
variable {w0:Bs}{ro:Option Nat}{nd:Nat}{N n:Nat}{ops:List Oper}{st:St}{a:Act}{G:Cons}
variable {b m:Nat}{S:Nat->St}{s:Nat->SV}{ups:Nat->List Up}{fs:Nat->Fp}{R:Nat->Dr}{listed:Array Bool}
theorem DInv.op (hd:DOk ops)(hi:DInv F w0 N ops b m S s ups listed own st a w)(hp:Piece ts G ops b m S s ups fs R)(hseg:uq ops b ((List.range m).map fs)){k:Nat}{o:Oper}(hk:k<m)(ho:ops[b+k]? =some o)(hni:listed[b+k]? =some false)
  (hw:∀ j,rF o j=true->listed[j]? =some true) (hsk:(R k).ups=ups k):∃ nx,NxOk own st.h nx/\kR G st.h nx (opS ⟨ts,ops,o.guard,st,nx⟩ o.op)=some (R k):=by
 obtain⟨o',ho',f⟩:=hp.fact k hk;rw[ho]at ho';cases ho';have hget:∀ i,i<m->((List.range m).map fs)[i]? =some (fs i):=fun i hi=>by simp[hi]
 have hor:∀ j,j<m->j≠k->vA (fs k) (fs j)=true->(j<k/\listed[b+j]? =some true)\/(k<j/\¬listed[b+j]? =some true):=fun j hj hne hc=>
  hi.order ho hni hw hne (Fu hseg (hget k hk) (hget j hj) (fun e=>hne e.symm) hc)
 obtain⟨e1,e2,e3⟩:=Zh o.op (fpO ⟨ts,ops,o.guard,S k,(S k).h.length⟩ o.op) (R k).all (ups k);rw[<-f.fp]at e1 e2 e3;have hop:opS ⟨ts,ops,o.guard,S k,(S k).h.length⟩ o.op=opS ⟨ts,ops,o.guard,st,(S k).h.length⟩ o.op:=
  QD (t:=(S k).t) (h:=(S k).h) (t':=st.t) (h':=st.h) o.op (fun x hx=>by
    cases x with
    |tmp n=>exact hi.reads hd hp hk ho hni hw (Sz hx)
    |_=>rfl)
   (fun id hid=>hi.obj hp hk hni fun j hj hne hm=>hor j hj hne (Sw (by simp_all) (hp.touch hj hm)))
   (fun id hid=>hi.objUp hp hk hni fun j hj hne hm=>hor j hj hne (Sy (by simp_all) hm))
 have hdr:=f.dr;have hdr2:kR G st.h (S k).h.length (opS ⟨ts,ops,o.guard,S k,(S k).h.length⟩ o.op)=some (R k):=M8 (fun id hall=>hi.obj hp hk hni fun j hj hne hm=>hor j hj hne (QG (by grind) (hp.touch hj hm))) hdr;by_cases hm:(S k).h.length∈fO (R k).ups
 refine⟨(S k).h.length,?_,by grind⟩;have hmu:(S k).h.length∈fO (ups k):=by grind
 have hnk:¬listed[b+k]? =some true:=by grind
 refine⟨?_,?_⟩;rcases hi.dom (S k).h.length with h|h| ⟨j,h1,h2,h3⟩;exact h;have:=hp.len (aiX k) (by omega);omega;exfalso;have hne:j≠k:=fun e=>hnk (e▸h2);rcases hor j h1 hne (K3 (hp.touch hk hmu) (hp.touch h1 h3))with⟨hlt,_⟩ | ⟨_,hl⟩;have:=hp.lt h1 h3;have:=hp.len (i:=j+1) (j:=k) (by omega) (by omega);omega;grind
 obtain⟨p,h1,h2,h3⟩:=hi.heap (S k).h.length;rw[h3];refine qE ?_;have:¬k<p:=fun h=>hnk ((h2 k hk hmu).2 h);exact hp.len (by omega) (by omega);refine⟨st.h.length,hi.inv.hp.nx,?_⟩;rw[Zg (nx':=st.h.length) hop.symm ?_];exact V2 hdr2 (.inl hm);grind [kR]
theorem DInv.next (hd:DOk ops)(hi:DInv F w0 N ops b m S s ups listed own st a w)(hp:Piece ts G ops b m S s ups fs R)(hseg:uq ops b ((List.range m).map fs)){k:Nat}{o:Oper}(hk:k<m)(ho:ops[b+k]? =some o)(hni:listed[b+k]? =some false)
  (hw:∀ j,rF o j=true->listed[j]? =some true) {a':Act} (hinv:SInv F w0 N ops (fun j=>(listed.setIfInBounds (b+k) true)[j]? =some true) own' (St.put ⟨st.t,ba st.h (ups k)⟩ o.dst (s k)) a' w')
  (hfr:∀ id,own id=none->dg (ar (ba st.h (ups k)) id)=true->own' id=none):
  DInv F w0 N ops b m S s ups (listed.setIfInBounds (b+k) true) own' (St.put ⟨st.t,ba st.h (ups k)⟩ o.dst (s k)) a' w':=by
 have hget:∀ i,i<m->((List.range m).map fs)[i]? =some (fs i):=fun i hi=>by simp[hi]
 have hor:∀ j,j<m->j≠k->vA (fs k) (fs j)=true->(j<k/\listed[b+j]? =some true)\/(k<j/\¬listed[b+j]? =some true):=fun j hj hne hc=>
  hi.order ho hni hw hne (Fu hseg (hget k hk) (hget j hj) (fun e=>hne e.symm) hc)
 have hE:=K5 hni;have hnk:¬listed[b+k]? =some true:=by grind
 refine⟨hinv,by simp[hi.size],fun j h1 h2=>(hE j).2 (.inl (hi.low j h1 h2)),fun j h1 h2=>?_,fun j q d h1 h2 h3 h4=>?_,fun t ht=>?_,fun i q j h1 h2 h3=>?_,fun id=>?_,fun id=>?_⟩;rcases(hE j).1 h2 with h|h;exact hi.high j h1 h;omega;rw[M7];rcases(hE _).1 h2 with h|h;have hne:o.dst≠some d:=fun e=>by
  have:=hd.uniq (b+k) (b+j) o q d ho h3 e h4;grind
 rw[if_neg hne];exact hi.put j q d h1 h h3 h4;grind
 have hne:o.dst≠some t:=ht k o hk ((hE _).2 (.inr rfl)) ho;rw[M7,if_neg hne];exact hi.old t fun j q h1 h2 h3=>ht j q h1 ((hE _).2 (.inl h2)) h3;rcases(hE i).1 h1 with h|rfl;exact(hE j).2 (.inl (hi.closed i q j h h2 h3));grind
 rw[X7];by_cases hm:id∈fO (ups k)
 refine⟨k+1,by omega,fun j hj hmj=>?_,?_⟩;rw[hE];by_cases e:j=k
 omega;rcases hor j hj e (K3 (hp.touch hk hm) (hp.touch hj hmj))with⟨h1,h2⟩ | ⟨h1,h2⟩ <;>grind;rw[hp.hstep hk];exact HP hm;obtain⟨p,h1,h2,h3⟩:=hi.heap id;refine⟨p,h1,fun j hj hmj=>?_,?_⟩;grind
 exact(rS hm).trans h3
 ·by_cases hno:own id=none
  by_cases hm:id∈fO (ups k)
  grind
  left;refine hfr id hno ?_;rw[rS hm];cases hdd:dg (ar st.h id)with
  |true=>rfl
  |false=>obtain⟨hdx,e,_⟩:=hi.inv.hp.obs id hdd;grind
  rcases hi.dom id with h|h| ⟨j,h1,h2,h3⟩ <;>grind
theorem V3 (hts:ts.ok P)(hG:ConsOk P G)(hr:ROk N ops)(hd:DOk ops){Q:Exit->Act->World->Prop}{K:St->Prop}{Z:Value->St->Prop}
  (hZ:∀ x own st a w,StRel F w0 N own st a w->Z x st->Q (.panic [{ v:=x,recovered:=false}]) a w)
  (hK:∀ own st a w,SInv F w0 N ops (· <ops.length) own st a w->K st->Q .normal a w):
  ∀ (fuel:Nat) (listed:Array Bool) (own:Own) (st:St) (a:Act) (w:World) (b m:Nat) (S:Nat->St) (s:Nat->SV) (ups:Nat->List Up) (fs:Nat->Fp) (R:Nat->Dr),
  DInv F w0 N ops b m S s ups listed own st a w->Piece ts G ops b m S s ups fs R->uq ops b ((List.range m).map fs)->V0 ts G ops K Z (b+m) (S m)->listed.toList.count false<=fuel->wpAnyIn (rd ro) nd P .any ops.toArray Q fuel listed a w:=by
 have hback:∀ (i:Nat) (o:Oper) (j:Nat),ops[i]? =some o->rF o j=true->j<i:=fun i o j ho hj=>by
  unfold rF at hj;rw[akl]at hj;obtain⟨e,he,hje⟩:=hj;simp only[aim]at hje;have:=hd.back i o e ho (by grind) hje.2;simp_all
 have hdone:∀ (listed:Array Bool) (own:Own) (st:St) (a:Act) (w:World) (b m:Nat) (S:Nat->St) (s:Nat->SV) (ups:Nat->List Up) (fs:Nat->Fp) (R:Nat->Dr),
   DInv F w0 N ops b m S s ups listed own st a w->Piece ts G ops b m S s ups fs R->V0 ts G ops K Z (b+m) (S m)->(∀ k,k<ops.length->listed[k]? =some true)->Q .normal a w:=by
  intro listed own st a w b m S s ups fs R hi hp he hall;rcases he with⟨_,hk⟩ | ⟨o,ho,_⟩;refine hK own (S m) a w ((hi.full hd hp fun k hk=>?_).congr fun k=>⟨fun h=>by have:=(ajj.1 h).1;rw[hi.size]at this;exact this,hall k⟩) hk;obtain⟨o,ho,_⟩:=hp.fact k hk;grind
  exact absurd (hall _ (aiq.1 ho).1) (hi.high _ (aio _))
 have hready:∀ (listed:Array Bool),listed.size=ops.length->Region.ready .any ops.toArray listed=[]->∀ k,k<ops.length->listed[k]? =some true:=by
  intro listed hsz hnil k;induction k using Nat.strongRecOn with
  |_ k ih=>
   intro hk;have hlk:k<listed.size:=by omega
   cases hb:listed[k]with
   |true=>grind
   |false=>
    exfalso;have:k∈Region.ready .any ops.toArray listed:=by
     rw[mem_ready];refine⟨by simp_all,ops[k],by simp[hk],fun e he hbe=>?_⟩;have hlt:=hd.back k ops[k] e (aiv hk) he hbe;have:=ih e.on hlt (by omega);simp_all
    grind
 intro fuel;induction fuel with
 |zero=>
  intro listed own st a w b m S s ups fs R hi hp hseg he hc;have hall:∀ k,k<ops.length->listed[k]? =some true:=by
   intro k hk;have hlk:k<listed.size:=by rw[hi.size];exact hk
   cases hb:listed[k]with
   |true=>grind
   |false=>
    exfalso;have:0<listed.toList.count false:=List.count_pos_iff.2 (by grind);omega
  refine⟨?_,hdone _ _ _ _ _ _ _ _ _ _ _ _ hi hp he hall⟩;cases hrd:Region.ready .any ops.toArray listed with
  |nil=>rfl
  |cons x xs=>
   exfalso;have hx:x∈Region.ready .any ops.toArray listed:=by grind
   rw[mem_ready]at hx;obtain⟨h0,o,ho,_⟩:=hx;have h1:=BG h0;grind
 |succ fuel ih=>
  intro listed own st a w b m S s ups fs R hi hp hseg he hc;refine⟨fun hnil=>hdone _ _ _ _ _ _ _ _ _ _ _ _ hi hp he (hready _ hi.size hnil),fun i hmem=>?_⟩;rw[mem_ready]at hmem;obtain⟨h0,o,ho',hedge⟩:=hmem;have ho:ops[i]? =some o:=by grind
  have hni:=BG h0;have hnk:¬listed[i]? =some true:=by grind
  have hil:i<ops.length:=(aiq.1 ho).1;have hw:∀ j,rF o j=true->listed[j]? =some true:=by
   intro j hj;unfold rF at hj;rw[akl]at hj;obtain⟨e,he,hje⟩:=hj;simp only[aim]at hje;have:=hedge e (by grind) hje.2;rw[ain hje.1]at this;exact K4 this
  have hE:=K5 hni;have hgE:∀ j b,o.guard=some (j,b)->listed[j]? =some true:=by
   intro j b hg;have hrf:pr ops j:=⟨i,o,b,ho,hg⟩;obtain⟨q,d,h1,h2,h3⟩:=hr.uniq j hrf;have hlt:=hr.lt i o j b ho hg;have hm:d∈o.looksAt ops.toArray:=by
    grind [Oper.looksAt]
   rcases hd.look i j o q d ho h1 h2 hm with e| ⟨_,e⟩ | ⟨e,_⟩ <;>grind
  have hcnt:(listed.setIfInBounds i true).toList.count false<=fuel:=by
   grind
  have hclS:Ee ops (fun j=>listed[j]? =some true\/j=i):=fun j q j' hS hq hj'=>by
   rcases hS with hS|rfl;exact .inl (hi.closed j q j' hS hq hj');grind
  have hib:b<=i:=aiO fun h=>hnk (hi.low i (by omega) hil);by_cases hlt:i<b+m
  ·
   obtain⟨k,rfl⟩:∃ k,i=b+k:=⟨i - b,by omega⟩;have hk:k<m:=by omega
   obtain⟨o',ho2,f⟩:=hp.fact k hk;rw[ho]at ho2;cases ho2;have hlk:∀ (j:Nat) (q:Oper) (d:Nat),j<b+k->listed[j]? =some true->pr ops j->ops[j]? =some q->q.dst=some d->lk d (S k).t=lk d st.t:=fun j q d hj hEj hrf hq hqd=>by
    rcases hp.lk d k (by omega)with⟨j',q',h1,h2,h3,h4⟩ | ⟨h1,h2⟩;have:=hd.uniq j (b+j') q q' d hq h2 hqd h3;subst this;rw[h4];exact(hi.put j' q d (by omega) hEj hq hqd).symm;rw[h2];refine(hi.old d fun j' q' h3 h4 h5 h6=>?_).symm;have:=hd.uniq j (b+j') q q' d hq h5 hqd h6;grind
   unfold wpOpIn;rw[ho'];by_cases hgo:GOk ops a o.guard
   ·have hgP:∀ g,o.guard=some g->dV ops (S k).t ops.length g:=fun g hg=>
     wP hi.inv (b+k) hlk hr.lt ops.length g (hr.lt _ o g.1 g.2 ho hg) (hgE g.1 g.2 hg) ⟨b+k,o,g.2,ho,hg⟩ (by grind)
    have hu:ups k=(R k).ups:=by
     cases hg:o.guard with
     |none=>exact(f.plain hg).2.2
     |some g=>
      rcases(f.guarded g hg).2 with⟨e,_⟩ | ⟨_,_,e⟩ <;>grind
    obtain⟨nx,hnx,hdr⟩:=hi.op hd hp hseg hk ho hni hw hu.symm;have hwant:=(oJ (ops:=ops) (a:=a) (o:=o)).2 hgo;simp only[hwant,if_true];have hrun:=Oo hts hi.inv hnx hgo (fun k' c e=>⟨hgE k' c e,b+k,o,c,ho,e⟩);have hc':(R k).c:=by
     cases hg:o.guard with
     |none=>exact(f.plain hg).1|some g=>exact(f.guarded g hg).1 (hgP g hg)
    have hnd:∀ c,o.op≠ .defer c:=CH (cx:=⟨ts,ops,o.guard,st,nx⟩) (fun e=>by grind [kR]);obtain⟨_,_,hcont⟩:=X6 (ro:=ro) (nd:=nd) (a:=a) (o:=o) hG hi.inv.hp hnx hrun hdr hc';refine⟨fun _ _=>trivial,?_⟩;rw[Oper.semAt_eq _ _ _ hnd];refine hcont _ _ fun u own' w' hrel hst=>?_;have hstep:=hi.inv.stepe hr hE hnk ho hgE hgo hst.hp hst.fr hrel;rw[<-hu]at hstep;refine ih _ own' _ _ w' b m S s ups fs R (hi.next hd hp hseg hk ho hni hw ?_ (fun id e1 e2=>hst.fresh id e1 (by grind))) hp hseg he hcnt;cases hg:o.guard with
    |none=>rw[(f.plain hg).2.1];exact hstep.1
    |some g=>
     rcases(f.guarded g hg).2 with⟨_,e,_⟩ | ⟨_,_,e⟩ <;>grind
   ·have hwant:Region.wanted o (yielded ops.toArray a.tmps)=false:=by
     cases hb:Region.wanted o (yielded ops.toArray a.tmps)with
     |false=>rfl|true=>exact absurd (oJ.1 hb) hgo
    simp only[hwant,ait,if_false];refine⟨fun _ _=>trivial,?_⟩;cases hg:o.guard with
    |none=>exact absurd (by rw[hg];trivial) hgo
    |some g=>
     have hgN:=Fb hi.inv (b+k) hlk hr.lt ops.length g (hr.lt _ o g.1 g.2 ho hg) (hgE g.1 g.2 hg) ⟨b+k,o,g.2,ho,hg⟩ (by grind);have hu:ups k=[]/\∃ x,s k=.gd g.1 g.2 x:=by
      rcases(f.guarded g hg).2 with⟨_,e,h0|h0⟩ | ⟨h0,e,_⟩ <;>grind
     obtain⟨hu,x,hs⟩:=hu;have hsk:=hi.inv.skip (s:=x) hr hE hnk ho hgE hgo hg;refine ih _ own _ _ w b m S s ups fs R (hi.next hd hp hseg hk ho hni hw ?_ (fun id e1 _=>e1)) hp hseg he hcnt;rw[hu,hs];exact hsk
  ·rcases he with⟨hle,_⟩ | ⟨q,hq,hcut,hx⟩;omega
   ·by_cases hie:i=b+m
    ·subst hie;rw[ho]at hq;cases hq;have hall:∀ k,k<m->listed[b+k]? =some true:=fun k hk=>by
      obtain⟨ok,hok,_⟩:=hp.fact k hk;rcases Fv hcut (aiq.1 hok).1 (by omega)with⟨_,h⟩ | ⟨h,_⟩;exact(Jr hclS (.inr rfl) h).resolve_right (by omega);omega
     have hfull:=hi.full hd hp hall;have hset:∀ k,(listed.setIfInBounds (b+m) true)[k]? =some true↔k<b+m+1:=fun k=>by
      rw[hE];constructor
      rintro (h|h);exact Nat.lt_succ_of_lt (aiO fun hn=>hi.high k (by omega) h);omega;intro h;by_cases e:k=b+m
      exact .inr e;left;by_cases hkb:k<b
      exact hi.low k hkb (by omega);have:=hall (k - b) (by omega);grind
     obtain⟨k1,k2⟩:=Ol (ro:=ro) (nd:=nd) hts hG hr hE hnk ho hgE hfull hZ hx (K:=wpAnyIn (rd ro) nd P .any ops.toArray Q fuel (listed.setIfInBounds (b+m) true)) (fun own st a w hinv hx=>by
      have hinv':=hinv.congr hset;obtain⟨m',S',s',ups',fs',R',e0,e1,e2,e3⟩:=sim hts hG hr (ops.drop (b+m+1)) (b+m+1) own st a w (b+m+1) [] rfl hinv' hx;subst e0;exact ih _ own (S' 0) a w (b+m+1) m' S' s' ups' fs' R' (DInv.start hinv' (by simp[hi.size]) (fun k _=>hset k) hr hback) e1 (by grind) e3 hcnt)
     unfold wpOpIn;rw[ho'];by_cases hgo:GOk ops a o.guard
     obtain⟨hnd,k1⟩:=k1 hgo;simp only[(oJ (ops:=ops) (a:=a) (o:=o)).2 hgo,if_true];refine⟨fun _ _=>trivial,?_⟩;grind [Oper.semAt_eq]
     ·have hwant:Region.wanted o (yielded ops.toArray a.tmps)=false:=by
       cases hb:Region.wanted o (yielded ops.toArray a.tmps)with
       |false=>rfl|true=>exact absurd (oJ.1 hb) hgo
      grind
    exfalso;rcases Fv hcut hil hie with⟨h,_⟩ | ⟨_,h⟩;omega;exact hi.high _ (aio _) ((Jr hclS (.inr rfl) h).resolve_right (by omega))
theorem V4 (hts:ts.ok P)(hG:ConsOk P G)(hr:ROk N ops)(hd:DOk ops){Q:Exit->Act->World->Prop}{K:St->Prop}{Z:Value->St->Prop}
  (hZ:∀ x own st a w,StRel F w0 N own st a w->Z x st->Q (.panic [{ v:=x,recovered:=false}]) a w)
  (hK:∀ own st a w,SInv F w0 N ops (· <ops.length) own st a w->K st->Q .normal a w) {own:Own} {st:St} {a:Act} {w:World} (hi:SInv F w0 N ops (· <0) own st a w) (hx:kZ ts G ops K Z ops 0 0 [] st):
  wpAnyIn (rd ro) nd P .any ops.toArray Q ops.toArray.size (Array.replicate ops.toArray.size false) a w:=by
 obtain⟨m,S,s,ups,fs,R,e0,e1,e2,e3⟩:=sim hts hG hr ops 0 own st a w 0 [] rfl hi hx;subst e0;refine V3 hts hG hr hd hZ hK _ _ own (S 0) a w 0 m S s ups fs R (DInv.start hi (by simp) (fun k hk=>?_) hr fun i o j ho hj=>?_) e1 (by grind) e3 ?_;grind
 unfold rF at hj;rw[akl]at hj;obtain⟨e,he,hje⟩:=hj;simp only[aim]at hje;have:=hd.back i o e ho (by grind) hje.2;simp_all;simp
end
end Go.Sx
end
section
namespace Go.Sx
section
variable {F:Fence}{n:Nat}{P:Program}{b:Frame}{a:Act}{k:List Item}{cs:List Frame}{w:World}{Q:Exit->Act->World->Prop}
def noGo (Q:Exit->Act->World->Prop):Exit->Act->World->Prop
 | .goto _,_,_=>False|e,a,w=>Q e a w
theorem qn {c:Code}:step P (lone (b.atR a (.code (.scope c)::k)) cs w)=.next (lone (b.atR a (.code c:: .inScope c::k)) cs w):=
 step_lone_go (by rfl)
theorem GZ {c:Code}:step P (lone (b.atR a (.inScope c::k)) cs w)=.next (lone (b.atR a k) cs w):=
 step_lone_go (by rfl)
theorem M9 {c:Code}(h:c.wpIn F n P (noGo Q) a w):(Code.scope c).wpIn F n P Q a w:=by
 intro b k cs hro hb hr;have h0:(lone (b.atR a (.code (.scope c)::k)) cs w).fenced P F:=fenced_calm hb hr rfl;obtain⟨e,a₁,w₁,hq,harr⟩:=h b (.inScope c::k) cs hro hb hr;cases e with
 |normal=>exact⟨.normal,a₁,w₁,hq,.head h0 qn (StepsIn.trans harr (.one (fenced_calm hb hr rfl) GZ))⟩
 |exit id=>exact⟨.exit id,a₁,w₁,hq,fun k' hk=>.head h0 qn (harr.1 k' (by simp[exitTo,hk])),fun hr' hk=>let ⟨k₁,h1,h2⟩:=harr.2 hr' (by grind [exitTo]);⟨k₁,h1,.head h0 qn h2⟩⟩
 |goto l=>exact hq.elim|ret=>exact⟨_,a₁,w₁,hq,.of_steps (.one h0 qn) harr⟩|panic ch=>exact⟨_,a₁,w₁,hq,.of_steps (.one h0 qn) harr⟩|outgrown=>exact⟨_,a₁,w₁,hq,.of_steps (.one h0 qn) harr⟩
end
open Go.RowKit
section
variable {P:Program}{F:Nat->Prop}{w0:Bs}{ro:Option Nat}{nd:Nat}{ts:Tis}{G:Cons}{L:wF}{N:Nat}
def Fx (F:Nat->Prop)(w0:Bs)(N:Nat)(Q:Ex->St->Prop):Exit->Act->World->Prop
 | .normal,a,w=>∃ F1 own st,(∀ b,F b->F1 b)/\StRel F1 w0 N own st a w/\Q .normal st| .exit id,a,w=>∃ F1 own st,(∀ b,F b->F1 b)/\StRel F1 w0 N own st a w/\Q (.exit id) st| .ret,a,w=>∃ F1 own st,(∀ b,F b->F1 b)/\StRel F1 w0 N own st a w/\Q .ret st| .panic ch,a,w=>∃ x F1 own st,(∀ b,F b->F1 b)/\StRel F1 w0 N own st a w/\Q (.pan x) st/\ch=[{ v:=x,recovered:=false}]|_,_,_=>False
theorem V5 {F F2:Nat->Prop}{w0:Bs}{N:Nat}{Q:Ex->St->Prop}(h:∀ b,F b->F2 b):∀ e a w,Fx F2 w0 N Q e a w->Fx F w0 N Q e a w:=by
 intro e a w hq;cases e <;>first|exact hq.elim|(obtain⟨F1,own,st,h0,h1,h2⟩:=hq;exact⟨F1,own,st,fun b hb=>h0 b (h b hb),h1,h2⟩) |(obtain⟨x,F1,own,st,h0,h1,h2,h3⟩:=hq;exact⟨x,F1,own,st,fun b hb=>h0 b (h b hb),h1,h2,h3⟩)
def mP (P:Program)(ro:Option Nat)(N:Nat)(id:Nat)(c:Code)(C:St->Option LCon):Prop:=
 ∀ (nd:Nat) (F:Nat->Prop) (w0:Bs) st lc,C st=some lc->lc.pre->∀ own a w,StRel F w0 N own st a w->(Code.block id c).wpIn (rd ro) nd P (Fx F w0 N fun e st'=>∃ r,lc.post r/\e=lc.ex r/\st'=lc.out r) a w
def ap (P:Program)(ro:Option Nat)(N:Nat)(L:wF):Code->Prop
 | .seq a b=>ap P ro N L a/\ap P ro N L b| .cond _ a b=>ap P ro N L a/\ap P ro N L b| .block id (.loop c) =>mP P ro N id (.loop c) (L id)| .block id (.rangeFunc f ps a b) =>mP P ro N id (.rangeFunc f ps a b) (L id)| .block _ c=>ap P ro N L c| .scope c=>ap P ro N L c|_=>True
theorem Oq (t:Nat){u:List (Nat×SV)}:∀ l:List (Nat×SV),subJ u l->lk t l=.any\/lk t l=lk t u
 | [],_=>.inl rfl
 |(n,s)::r,h=>by
  have ih:=Oq t r h.2;have e:lk t ((n,s)::r)=bif Nat.beq n t then s else lk t r:=rfl;rw[e];cases hb:Nat.beq n t with
  |false=>grind|true=>rw[cond_true,<-ain hb];exact .inr h.1.symm
theorem wS {Q Q':Ex->St->Prop}(h:∀ e st,Q e st->Q' e st):∀ e a w,Fx F w0 N Q e a w->Fx F w0 N Q' e a w:=by
 intro e a w hq;cases e <;>first|exact hq.elim|(obtain⟨F1,own,st,h0,h1,h2⟩:=hq;exact⟨F1,own,st,h0,h1,h _ _ h2⟩) |(obtain⟨x,F1,own,st,h0,h1,h2,h3⟩:=hq;exact⟨x,F1,own,st,h0,h1,h _ _ h2,h3⟩)
theorem Fy (hm:P.follows .mixedOrders=true)(hts:ts.ok P)(hG:ConsOk P G){id:Nat}{ops:Array Oper}{d:Bool}(hc:cD N (.region id ops d)=true){st:St}{Q:Ex->St->Prop}(hx:Dn ts G ops d st Q)
  {own:Own} {a:Act} {w:World} (hr:StRel F w0 N own st a w):(Code.region id ops d).wpIn (rd ro) nd P (Fx F w0 N Q) a w:=by
 simp only[cD,aim]at hc;obtain⟨h1,h2⟩:=hc;have hrok:=Sk h1;obtain⟨l⟩:=ops;cases d with
 |false=>
  have hx':j7 ts G l l st (fun st'=>Q .normal (yA l st')) (fun x st'=>Q (.pan x) st'):=hx;refine wpIn_region_list ?_;exact MV hts hG hrok (fun x own st a w h1 h2=>⟨x,F,own,st,fun _ h=>h,h1,h2,rfl⟩) l 0 own st a w rfl (hr.start l fun k hk=>by omega) hx' fun own st a w hi hk=>⟨F,own,_,fun _ h=>h,StRel.finish hi,hk⟩
 |true=>
  have hx':kZ ts G l (fun st'=>Q .normal (yA l st')) (fun x st'=>Q (.pan x) st') l 0 0 [] st:=hx;have hdok:=Zf (ops:=l) (by grind);refine wpIn_region_any hm ?_;exact V4 hts hG hrok hdok (fun x own st a w h1 h2=>⟨x,F,own,st,fun _ h=>h,h1,h2,rfl⟩) (fun own st a w hi hk=>⟨F,own,_,fun _ h=>h,StRel.finish hi,hk⟩) (hr.drew.start l fun k hk=>by omega) hx'
theorem StRel.subJ {own:Own}{st d:St}{a:Act}{w:World}(h1:StRel F w0 N own st a w)(h3:st.h=d.h)(h4:Sx.subJ st.t d.t):StRel F w0 N own d a w:=by
 refine⟨h1.size,h1.defers,h3▸h1.hp,h1.fr,fun t=>?_⟩;rcases Oq t _ h4 with e|e;rw[e];exact .any _;rw[e];exact h1.slots t
theorem QH (hm:P.follows .mixedOrders=true)(hts:ts.ok P)(hG:ConsOk P G){id:Nat}{ops:Array Oper}{d:Bool}(hc:cD N (.region id ops d)=true){st:St}{Q:Ex->St->Prop}(hx:exec ts G L (.region id ops d) st Q)
  {own:Own} {a:Act} {w:World} (hr:StRel F w0 N own st a w):(Code.region id ops d).wpIn (rd ro) nd P (Fx F w0 N Q) a w:=by
 have hx':EU (Dn ts G ops d st) Q (L (id+2000000) st):=hx;cases hlc:L (id+2000000) st with
 |none=>rw[hlc]at hx';exact Fy hm hts hG hc hx' hr
 |some lc=>
  rw[hlc]at hx';refine wpIn_mono (Fy hm hts hG hc hx'.1 hr) fun e a' w' hq=>?_;cases e with
  |normal=>
   obtain⟨F1,own',st',h0,h1,r,h2,h3,h4⟩:=hq;exact⟨F1,own',_,h0,h1.subJ h3 h4,hx'.2 r h2⟩
  |exit id=>exact hq|ret=>exact hq|panic ch=>exact hq|_=>exact hq.elim
theorem oK (hm:P.follows .mixedOrders=true)(hts:ts.ok P)(hG:ConsOk P G):∀ (c:Code),cD N c=true->ap P ro N L c->∀ (F:Nat->Prop) (st:St) (Q:Ex->St->Prop),exec ts G L c st Q->
  ∀ own a w,StRel F w0 N own st a w->c.wpIn (rd ro) nd P (Fx F w0 N Q) a w:=by
 intro c;induction c with
 |skip=>intro _ _ F st Q hx own a w hr;exact wpIn_skip ⟨F,own,st,fun _ h=>h,hr,hx⟩
 |region id ops d=>intro hc _ F st Q hx own a w hr;exact QH hm hts hG hc hx hr
 |seq x y ih1 ih2=>
  intro hc hl F st Q hx own a w hr;simp only[cD,aim]at hc;refine wpIn_seq (wpIn_mono (ih1 hc.1 hl.1 F st _ hx own a w hr) ?_);intro e a' w' hq;cases e with
  |normal=>obtain⟨F1,own',st',h0,h1,h2⟩:=hq;exact wpIn_mono (ih2 hc.2 hl.2 F1 st' Q h2 own' a' w' h1) (V5 h0)
  |exit id=>exact hq|ret=>exact hq|panic ch=>exact hq|_=>exact hq.elim
 |cond c x y ih1 ih2=>
  intro hc hl F st Q hx own a w hr;simp only[cD,aim]at hc;have key:∀ Q:Ex->St->Prop,Ag (exec ts G L x st Q) (exec ts G L y st Q) (raw st.t c)->(Code.cond c x y).wpIn (rd ro) nd P (Fx F w0 N Q) a w:=by
   intro Q hx';cases c with
   |tmp n=>
    have hs:=hr.slots n;have hx2:Ag (exec ts G L x st Q) (exec ts G L y st Q) (lk n st.t):=hx';unfold Ag at hx2;split at hx2
    rename_i b hb;rw[hb]at hs;have he:a.eval (.tmp n)=.bool b:=bR hs;exact wpIn_cond_split he (fun h=>ih1 hc.1 hl.1 F st Q (hx2.1 h) own a w hr) (fun h=>ih2 hc.2 hl.2 F st Q (hx2.2 h) own a w hr);grind
   |const v=>
    have hx2:Ag (exec ts G L x st Q) (exec ts G L y st Q) (.v v):=hx';unfold Ag at hx2;split at hx2
    rename_i b hb;cases hb;exact wpIn_cond_split (t:=b) rfl (fun h=>ih1 hc.1 hl.1 F st Q (hx2.1 h) own a w hr) (fun h=>ih2 hc.2 hl.2 F st Q (hx2.2 h) own a w hr);grind
   |global g=>exact(hx':False).elim|func f=>exact(hx':False).elim
  have hx':ET (exec ts G L x st) (exec ts G L y st) Q (raw st.t c) (L (R6 c) st):=hx;cases hlc:L (R6 c) st with
  |none=>rw[hlc]at hx';exact key Q hx'
  |some lc=>
   rw[hlc]at hx';refine wpIn_mono (key _ hx'.1) fun e a' w' hq=>?_;cases e with
   |normal=>
    obtain⟨F1,own',st',h0,h1,r,h2,h3,h4⟩:=hq;exact⟨F1,own',_,h0,h1.subJ h3 h4,hx'.2 r h2⟩
   |exit id=>obtain⟨_,_,_,_,_,_,_,h⟩:=hq;exact h.elim
   |ret=>obtain⟨_,_,_,_,_,_,_,h⟩:=hq;exact h.elim
   |panic ch=>obtain⟨_,_,_,_,_,_,⟨_,_,h⟩,_⟩:=hq;exact h.elim
   |_=>exact hq.elim
 |block id c ih=>
  intro hc hl F st Q hx own a w hr;have key:(∀ b,c≠ .loop b)->(∀ f ps a b,c≠ .rangeFunc f ps a b)->(Code.block id c).wpIn (rd ro) nd P (Fx F w0 N Q) a w:=by
   intro hne hne2;have hx':exec ts G L c st (Ex.block id Q):=by cases c <;>first|exact hx|exact absurd rfl (hne _) |grind
   have hl':ap P ro N L c:=by cases c <;>first|exact hl|exact absurd rfl (hne _) |grind
   refine wpIn_block (wpIn_mono (ih (by grind [cD]) hl' F st _ hx' own a w hr) ?_);intro e a' w' hq;cases e with
   |normal=>exact hq|ret=>exact hq|panic ch=>exact hq
   |exit j=>
    obtain⟨F1,own',st',h0,h1,h2⟩:=hq;have h2':(bif Nat.beq j id then Q .normal st' else Q (.exit j) st'):=h2;show if j=id then _ else _;by_cases hj:j=id
    subst hj;rw[if_pos rfl];simp only[ak9,cond_true]at h2';exact⟨F1,own',st',h0,h1,h2'⟩;rw[if_neg hj];have:Nat.beq j id=false:=by cases hb:Nat.beq j id <;>simp_all
    rw[this]at h2';exact⟨F1,own',st',h0,h1,h2'⟩
   |_=>exact hq.elim
  cases c with
  |loop b=>
   have hx':tI Q (L id st):=hx;have hl':mP P ro N id (.loop b) (L id):=hl;cases hlc:L id st with
   |none=>rw[hlc]at hx';exact hx'.elim
   |some lc=>
    rw[hlc]at hx';refine wpIn_mono (hl' nd F w0 st lc hlc hx'.1 own a w hr) (wS fun e st'=>?_);rintro⟨r,h1,rfl,rfl⟩;exact hx'.2 r h1
  |rangeFunc f ps b1 b2=>
   have hx':tI Q (L id st):=hx;have hl':mP P ro N id (.rangeFunc f ps b1 b2) (L id):=hl;cases hlc:L id st with
   |none=>rw[hlc]at hx';exact hx'.elim
   |some lc=>
    rw[hlc]at hx';refine wpIn_mono (hl' nd F w0 st lc hlc hx'.1 own a w hr) (wS fun e st'=>?_);rintro⟨r,h1,rfl,rfl⟩;exact hx'.2 r h1
  |_=>exact key (fun b h=>by cases h) (fun _ _ _ _ h=>by cases h)
 |exit id=>intro _ _ F st Q hx own a w hr;exact wpIn_exit ⟨F,own,st,fun _ h=>h,hr,hx⟩
 |ret=>intro _ _ F st Q hx own a w hr;exact wpIn_ret ⟨F,own,st,fun _ h=>h,hr,hx⟩
 |scope c ih=>intro hc hl F st Q hx own a w hr;exact M9 (wpIn_mono (ih hc hl F st Q hx own a w hr) fun e a w h=>by cases e <;>first|exact h|exact h.elim)
 |label l=>intro _ _ F st Q hx own a w hr;exact wpIn_label ⟨F,own,st,fun _ h=>h,hr,hx⟩
 |_=>intro _ _ F st Q hx;exact(hx:False).elim
end
end Go.Sx
end
