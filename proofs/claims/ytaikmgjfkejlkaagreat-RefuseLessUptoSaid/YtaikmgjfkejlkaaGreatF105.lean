/- Part of the proof that the law RefuseLess returns true and leaves its arguments as they were, for all arguments of bulk at most 1048576 (the Upto form). -/
import Derived.Test.YtaikmgjfkejlkaaGreatF104
import Derived.TacticsIn
import Derived.OrdersIn
import Derived.Deep.LoopGhost
set_option linter.all false
set_option maxHeartbeats 4000000
set_option maxRecDepth 100000
section
namespace Go.Sx
open Go.RowKit
def Ej {α:Type}{l r:List α}{x:α}{n:Nat}(h:l.drop n=x::r):l[n]? =some x/\l.drop (n+1)=r:=by
 have h1:(l.drop n)[0]? =some x:=by rw[h];rfl
 have h2:(l.drop n).drop 1=r:=by rw[h];rfl
 grind [List.drop_drop]
theorem my {ops:List Oper}{a:Act}{o:Oper}:(Region.wanted o (yielded ops.toArray a.tmps)=true)↔GOk ops a o.guard:=by
 grind [Region.wanted,GOk]
theorem u9 (n:Nat)(E:∀ b s,aV n s=[]->jn n b s=s):∀ (l:List SV) (b:Nat),l.flatMap (aV n)=[]->rb (jn n) (λs=>(aV n s).length) b l=l
 | [],_,_=>rfl
 |x::r,b,h=>by
  simp only[alO,List.append_eq_nil_iff]at h;simp only[rb];rw[E b x h.1,u9 n E r _ h.2]
def Cj:∀ (n b:Nat) (s:SV),aV n s=[]->jn n b s=s:=by
 intro n;induction n with
 |zero=>intro b s h;cases s <;>simp[aV]at h <;>rfl
 |succ n E=>
  intro b s h;cases s with
  |agg l=>grind [aV,jn,u9]|tup l=>grind [aV,jn,u9]
  |_=>first|rfl|simp[aV]at h
section
variable {P:Program}{F:Nat->Prop}{own bo:Own}{w w':World}{ts:Tis}
theorem Jz:∀ (n:Nat) (s:SV) (v:Value),Rel F own w s v->∀ id∈fH n s,∃ hd,own id=some hd:=by
 intro n;induction n with
 |zero=>
  intro s v V id hm;cases V with
  |ptr h1 h2=>grind [fH]|os h1 h2=>grind [fH]|rp h1 h2 O=>grind [fH]|gr h1 h2 O=>grind [fH]|gp h1 h2 O=>grind [fH]|vw h1 h2=>grind [fH]|_=>simp[fH]at hm
 |succ n Y=>
  intro s v V id hm;have E:∀ (l:List SV) (c:Nat->Value),(∀ (j:Nat) (s:SV),l[j]? =some s->Rel F own w s (c j))->id∈l.flatMap (fH n)->∃ hd,own id=some hd:=by
   grind [List.getElem?_of_mem]
  cases V with
  |ptr h1 h2=>grind [fH]|os h1 h2=>grind [fH]|rp h1 h2 O=>grind [fH]|gr h1 h2 O=>grind [fH]|gp h1 h2 O=>grind [fH]|vw h1 h2=>grind [fH]
  |ep c h1 h2=>exact E _ c h2 (by grind [fH])
  |ls c X U h1 h2=>exact E _ c h2 (by grind [fH])
  |agg U h1=>exact E _ _ h1 (by grind [fH])
  |tup U h1=>exact E _ _ h1 (by grind [fH])
  |fn U W h1 h2=>
   simp only[fH,al7]at hm;rcases hm with hm|hm;exact E _ _ h1 hm;exact E _ _ h2 hm
  |_=>simp[fH]at hm
theorem xw {h:List Ob}(U:Hp F own w h):∀ (n:Nat) (O E:List Nat),(∀ id∈O,∃ hd,own id=some hd)->(∀ id∈E,∃ hd,own id=some hd)->∀ id∈reach h n O E,∃ hd,own id=some hd
 |0,_,E,_,h2=>h2|n+1,[],E,_,h2=>h2
 |n+1,id::O,E,h1,h2=>by
  simp only[reach];cases hm:CH id E with
  |true=>exact xw U n _ _ (λi hi=>h1 i (by simp[hi])) h2
  |false=>
   refine xw U n _ _ (λi hi=>?_) (λi hi=>?_)
   ·rcases al7.1 hi with hi|hi;cases V:aq h id with
    |cells l=>
     rw[V]at hi;obtain⟨hd,e1,e2⟩:=U.at V rfl;obtain⟨b,cs,ty,q1,q2,q3,q4,X⟩:=e2;obtain⟨x,Y,W⟩:=ans.1 hi;obtain⟨j,hj⟩:=ame Y;exact Jz 3 x _ (X j x hj) i W
    |_=>rw[V]at hi;simp[TS]at hi
    grind
   rcases al7.1 hi with hi|hi <;>simp_all
theorem Ek {h:List Ob}(O:Hp F own w h){args:List SV}{vs:Array Value}(W:api F own w args vs):∀ id∈reach h 64 (args.flatMap (fH 3)) [],id<h.length:=λid U=>by
 obtain⟨hd,e⟩:=xw O 64 _ [] (λi hi=>by
  obtain⟨x,X,E⟩:=ans.1 hi;obtain⟨j,V⟩:=ame X;exact Jz 3 x _ (W.2 j x V) i E) (λi hi=>by cases hi) id U
 exact O.dom _ _ e
variable {w0:Bs}{ro:Option Nat}{nd:Nat}{N n:Nat}{ops:List Oper}{st:St}{a:Act}{G:Cons}
def El (own:Own)(E:Below w.heap.size w w'):Fr { w:=w,own:=own} own w':=(Fr.refl { w:=w,own:=own}).below E
theorem tG (n k:Nat):k<n+1↔k<n\/k=n:=by omega
variable {E Y:Nat->Prop}{o:Oper}
theorem apo.ap4(hr:ROk N ops)(hE:∀ k,Y k↔E k\/k=n)(V:¬E n)(hi:apo F w0 N ops E own st a w)(ho:ops[n]? =some o)(O:∀ j b,o.guard=some (j,b)->E j)(U:GOk ops a o.guard){s:SV}{u:Value}(hb:Below w.heap.size w w')(hs:Rel F own w' s u):
  apo F w0 N ops Y own (st.put o.dst s) (a.put o.dst u) w'/\(∀ g,o.guard=some g->apo F w0 N ops Y own (st.put o.dst (.gd g.1 g.2 s)) (a.put o.dst u) w'):=by
 have g:Fr { w:=w,own:=own} own w':=El own hb;have W:=hi.hp.below hb;refine⟨hi.step hr hE V ho g W O (wE hs) (λ_ _=>U) (λj b s' e=>?_),λgg X=>hi.step hr hE V ho g W O ⟨(hE _).2 (.inl (O _ _ X)),⟨n,o,gg.2,ho,X⟩,λ_=>hs⟩ (λ_ _=>U) (λj b s' e=>?_)⟩;subst e;cases hs;grind
variable {h':List Ob}
theorem apo.ap1(hr:ROk N ops)(hE:∀ k,Y k↔E k\/k=n)(V:¬E n)(hi:apo F w0 N ops E own st a w)(ho:ops[n]? =some o)(O:∀ j b,o.guard=some (j,b)->E j)(U:GOk ops a o.guard){s:SV}{u:Value}(hp:Hp F bo w' h')(W:Fr { w:=w,own:=own} bo w')(hs:Rel F bo w' s u):
  apo F w0 N ops Y bo (St.put ⟨st.t,h'⟩ o.dst s) (a.put o.dst u) w'/\(∀ g,o.guard=some g->apo F w0 N ops Y bo (St.put ⟨st.t,h'⟩ o.dst (.gd g.1 g.2 s)) (a.put o.dst u) w'):=by
 refine⟨hi.step hr hE V ho W hp O (wE hs) (λ_ _=>U) (λj b s' e=>?_),λgg X=>hi.step hr hE V ho W hp O ⟨(hE _).2 (.inl (O _ _ X)),⟨n,o,gg.2,ho,X⟩,λ_=>hs⟩ (λ_ _=>U) (λj b s' e=>?_)⟩;subst e;cases hs;grind
variable {E':Nat->Prop}
theorem apo.skip(hr:ROk N ops)(hE:∀ k,E' k↔E k\/k=n)(U:¬E n)(hi:apo F w0 N ops E own st a w)(Y:ops[n]? =some o)(O:∀ j b,o.guard=some (j,b)->E j)(X:¬GOk ops a o.guard){g:Nat×Bool}(W:o.guard=some g){s:SV}:
  apo F w0 N ops E' own (st.put o.dst (.gd g.1 g.2 s)) (a.put o.dst undef) w:=by
 have V:mV ops g.1:=⟨n,o,g.2,Y,W⟩;refine hi.step hr hE U Y (Fr.refl { w:=w,own:=own}) hi.hp O ⟨(hE _).2 (.inl (O _ _ W)),V,λhy=>?_⟩ (λb hb=>by simp[undef]at hb) (λj b s' e=>by grind);exfalso;apply X;rw[W];obtain⟨q,d,h1,h2,h3⟩:=hr.uniq g.1 V;exact(H2 h1 h2 (h3 n o (λe=>U (e▸O _ _ W)) Y) g.2).1 hy
theorem A6 {cx:Cx}{op:Op}(h:opS cx op≠ .bad):∀ c,op≠ .defer c:=by
 rintro c rfl;exact h rfl
theorem apo.out(hi:apo F w0 N ops E own st a w):Y1 F w0 N own ⟨apG st.t,st.h⟩ a w:=Y1.apG hi
theorem Y1.aqM(O:Y1 F w0 N own st a w)(hp:Hp F bo w' h')(E:Fr { w:=w,own:=own} bo w'):Y1 F w0 N bo ⟨st.t,h'⟩ a w':=
 ⟨O.size,O.defers.fr E O.hp.apart,hp,O.fr.trans E,λt=>(O.slots t).mono E.apD⟩
def H8 (own:Own)(w:World):apx F own w own { w with drawn:=w.drawn+1}:=⟨λ_ hd h=>⟨hd,h,.refl _⟩,λ_ _ h=>⟨h,rfl⟩,alw _⟩
theorem Y1.drew {own:Own}{st:St}{a:Act}{w:World}(h:Y1 F w0 N own st a w):Y1 F w0 N own st a { w with drawn:=w.drawn+1}:=
 ⟨h.size,h.defers,h.hp.apD (H8 own w) λ_ _ _ _ _=>rfl,h.fr.drew,λt=>(h.slots t).mono (H8 own w)⟩
def PZ (G:Cons)(ops:List Oper)(d:Option Nat)(st:St)(next:St->Prop)(Z:Value->St->Prop):Option (Nat×Bool)->OR->Prop
 |none,r=>lJ G d st next Z r|some g,r=>stepG G ops g d st next Z r
variable {Q:Exit->Act->World->Prop}
theorem fv{K:Act->World->Prop}{u:Value}{E:Result Next}(O:E=.ok (.value u) w'\/(E=.ok .skip w'/\u=undef))(h:K (a.put o.dst u) w'):
  o.uponIn (rd ro) nd P a K Q E:=by
 rcases O with rfl| ⟨rfl,rfl⟩ <;>exact h
theorem Dm {ops:List Oper}{t:List (Nat×SV)}:∀ (n:Nat) (g:Nat×Bool),dR ops t n g->wu ops t n g->False
 |0,_,_,h=>h
 |n+1,(j,want),h1,h2=>by
  simp only[dR]at h1;simp only[wu]at h2;split at h1
  rename_i d hd;rw[hd]at h2;simp only at h2;split at h1
  grind
  rename_i O b x E;rw[E]at h2;rcases h2 with h2|h2;exact Dm n (O,b) h1.1 h2;grind
  grind
  grind
theorem Si {α:Type}{l:List α}(h:l.Nodup){i j:Nat}{x:α}(hi:l[i]? =some x)(E:l[j]? =some x):i=j:=by
 grind [List.pairwise_iff_getElem]
theorem abQ {h:List Ob}(hp:Hp F own w h){id:Nat}{hd:Hd}{b:Nat}(e1:own id=some hd)(e2:hd.p=some b){O n:Nat}{left:List Nat}{cur:Option Nat}(ho:aq h id=.mi (some O) n left cur)
  {kk W:Tag} {l:List (kk.T×W.T)} (hm:aq h O=.mp kk W l (some (id,none))) (hn:n=l.length) (ty:TypeId):
  (left=[]/\(Instr.next (.pointer (some ⟨b,0,none⟩)) false ty).run P w=.ok (.tuple #[.bool false]) w)\/
  ∃ j∈left,∃ u w',(Instr.next (.pointer (some ⟨b,0,none⟩)) false ty).run P w=.ok u w'/\Step F own w (cF h id (.mi (some O) n (left.erase j) (some j))) own w'/\
   Rel F own w' (.tup [.v (.bool true),svT kk (l.getD j (eC kk,eC W)).1,svT W (l.getD j (eC kk,eC W)).2]) u:=by
 obtain⟨hd',X,b',p1,p2,p3⟩:=hp.at ho rfl;rw[e1]at X;cases X;rw[e2]at p1;cases p1;obtain⟨hdm,bm,seen,c0,ss,k1,k2,k3,k4,k5,k6,k7,k8⟩:=p3 _ rfl;obtain⟨hdm',k1',bm',es,clk,m1,m2,m3,m4,m5,hd2,t1,t2⟩:=hp.at hm rfl;rw[k1]at k1';cases k1';rw[k2]at m1;cases m1;rw[e1]at t1;cases t1;obtain⟨hc0,hss⟩:=PK (k4.symm.trans t2);subst hc0;subst hss;have hes:es.size=l.length:=by simpa[eD]using m4.1
 have Y:∀ i (hi:i<es.size),(kD es)[i]? =some es[i].born:=λi hi=>by simp[kD,hi]
 have V:∀ x∈es.toList,x.born<c0:=λx hx=>m5.2 _ (am4 hx);rcases Jr (P:=P) (ty:=ty) k3 m3 V (alw _)with⟨h1,h2⟩ | ⟨e,h1,w1,h2,h3⟩;refine .inl ⟨?_,h2⟩;cases hl:left with
 |nil=>rfl
 |cons k r=>
  exfalso;obtain⟨s9,hs9,hn9⟩:=(k7 k).1 (by rw[hl];simp);have hke:k<es.size:=by grind
  rw[Y k hke,alx]at hs9;have E:es[k]∈leftOf es seen:=by
   grind [leftOf]
  grind
 have E:e∈es/\¬e.born∈seen.toList:=by
  grind [leftOf]
 obtain⟨j,hj,hje⟩:=aot E.1;have hb:(kD es)[j]? =some e.born:=by grind
 have hjl:j∈left:=(k7 j).2 ⟨_,hb,E.2⟩;have hh:w1.heap=w.heap:=by rcases h2 with rfl|rfl <;>rfl
 have hbl:b<w.heap.size:=hp.lt id hd b e1 (by rw[p2];simp);have st:Step F own w (cF h id (.mi (some O) n (left.erase j) (some j))) own { w1 with heap:=w1.heap.setIfInBounds b (.mapIter (some bm) c0 (seen.push e.born) c0)}:=by
  refine pt hp e1 (b:=b) (by rw[p2];simp) ?_ (λk U=>?_) ?_ ?_ ?_ _ λg=>⟨b,e2,p2,λi hi=>?_⟩;grind
  grind
  rcases h2 with rfl|rfl <;>rfl;rcases h2 with rfl|rfl <;>rfl;rcases h2 with rfl|rfl <;>rfl;cases hi;refine⟨hdm,bm,seen.push e.born,c0,kD es,k1,k2,?_,k4,k5,k6.erase j,λk=>?_,λj' hj'=>?_⟩;grind
  rw[k6.mem_erase_iff,k7 k,Array.toList_push];constructor
  rintro⟨a,s,b,c⟩;refine⟨s,b,λh=>?_⟩;rcases al7.1 h with h|h;exact c h;simp at h;subst h;exact a (Si m5.1 b hb);grind
  grind
 refine .inr ⟨j,hjl,_,_,h3,st,.tup rfl λk s U=>?_⟩;have hlt:j<l.length:=by omega
 have hgd:l.getD j (eC kk,eC W)=l[j]:=by grind
 rw[hgd]at U;obtain⟨e3,g1,_,g3,g4⟩:=m4.2 j l[j] (by simp[eD,hlt]);rw[amL hj,hje]at g1;cases g1;match k,U with
 |0,U=>cases U;exact .v _|1,U=>cases U;exact g3.mono st.fr.apD|2,U=>cases U;exact g4.mono st.fr.apD
variable {Z:Value->St->Prop}
theorem P2(hts:ts.ok P)(hG:aoI P G)(hr:ROk N ops)(hE:∀ k,E' k↔E k\/k=n)(W:¬E n)(ho:ops[n]? =some o)(V:∀ j b,o.guard=some (j,b)->E j)
  (hi:apo F w0 N ops E own st a w)  {K:Act->World->Prop} {next:St->Prop}  (hZ:∀ x own st a w,Y1 F w0 N own st a w->Z x st->Q (.panic [{ v:=x,recovered:=false}]) a w)
  (O:PZ G ops o.dst st next Z o.guard (opS ⟨ts,ops,o.guard,st,st.h.length⟩ o.op)) (hK:∀ own st a w,apo F w0 N ops E' own st a w->next st->K a w):
  (GOk ops a o.guard->(∀ c,o.op≠ .defer c)/\o.uponIn (rd ro) nd P a K Q ((execOp a.eval o).run P w))/\(¬GOk ops a o.guard->K (a.put o.dst undef) w):=by
 cases hg:o.guard with
 |none=>
  have hnd:∀ c,o.op≠ .defer c:=A6 (cx:=⟨ts,ops,o.guard,st,st.h.length⟩) (λe=>by rw[e,hg]at O;exact O);refine⟨λ_=>⟨hnd,?_⟩,λh=>absurd trivial h⟩;rw[hg]at O;have U:GOk ops a o.guard:=by grind
  have h:=N7 (P:=P) (ts:=ts) (ops:=ops) (g:=none) (t:=st.t) (h:=st.h) (nx:=st.h.length) hts hi.hp hi.hp.nx (a:=a) (o:=o) (Jt hi trivial (λk c e=>by cases e)) (λc x y _=>⟨λhc=>xv (g:=none) hi trivial (λk c e=>by cases e) c x true hc,λhc=>xv (g:=none) hi trivial (λk c e=>by cases e) c y false hc⟩);change lJ G o.dst st next Z (opS ⟨ts,ops,none,⟨st.t,st.h⟩,st.h.length⟩ o.op)at O
  generalize opS ⟨ts,ops,none,⟨st.t,st.h⟩,st.h.length⟩ o.op=r at h O;cases r with
  |bad=>exact O.elim
  |val s=>
   obtain⟨u,e1,Y⟩:=h;exact fv (.inl e1) (hK _ _ _ _ (hi.ap4 hr hE W ho V U (Below.refl _ _) Y).1 O)
  |chk c s=>
   obtain⟨u,e1,Y⟩:=h O.1;exact fv (.inl e1) (hK _ _ _ _ (hi.ap4 hr hE W ho V U (Below.refl _ _) Y).1 O.2)
  |asm c s=>
   obtain⟨hc,u,e1,Y⟩:=h;exact fv (.inl e1) (hK _ _ _ _ (hi.ap4 hr hE W ho V U (Below.refl _ _) Y).1 (O hc))
  |apI s=>
   obtain⟨u,cs,ty,e1,Y⟩:=h;exact fv (.inl e1) (hK _ _ _ _ (hi.ap4 hr hE W ho V U (qB _ _) Y).1 O)
  |amb p=>
   obtain⟨b,h1,h2⟩:=h;exact fv (.inl h2) (hK _ _ _ _ (hi.ap4 hr hE W ho V U (Below.refl _ _) (.v _)).1 (O b h1))
  |nxt id=>
   obtain⟨hd,b,e1,Y,ty,hrun⟩:=h;change XX id o.dst st next (aq st.h id)at O
   cases hob:aq st.h id with
   |mi mid n' left cur=>
    rw[hob]at O;cases mid with
    |none=>exact O.elim
    |some mid=>
     change TT id mid n' left o.dst st next (aq st.h mid)at O
     cases hm:aq st.h mid with
     |mp kk vk l apJ=>
      rw[hm]at O;cases apJ with
      |none=>exact O.elim
      |some q=>
      obtain⟨it,q⟩:=q;cases q with
      |some _=>exact O.elim
      |none=>
       obtain⟨⟨x0,x1⟩,x2,x3⟩:=O;subst x0;rcases abQ (P:=P) hi.hp e1 Y hob hm x1 ty with⟨q1,q2⟩ | ⟨j,q1,u,w',q2,q3,q4⟩;exact fv (.inl (hrun _ _ q2)) (hK _ _ _ _ (hi.ap4 hr hE W ho V U (Below.refl _ _) (.tup rfl λk s hk=>by
        match k,hk with
        |0,hk=>cases hk;exact .v _)).1 (x2 q1))
       exact fv (.inl (hrun _ _ q2)) (hK _ _ _ _ (hi.ap1 hr hE W ho V U q3.hp q3.fr q4).1 (x3 j q1))
     |_=>rw[hm]at O;exact O.elim
   |_=>rw[hob]at O;exact O.elim
  |eff c ac ups s=>
   obtain⟨hc,O⟩:=O;obtain⟨ha,u,bo,w',e1,Y,e3⟩:=h hc;exact fv e1 (hK _ _ _ _ (hi.ap1 hr hE W ho V U e3.hp e3.fr Y).1 (O ha))
  |call f args=>
   obtain⟨vs,e1,Y⟩:=h;change wv (args.all (dA 3)) (reach st.h 64 (args.flatMap (fH 3)) []) o.dst st next Z (G.o f (args.map (ren (inN (reach st.h 64 (args.flatMap (fH 3)) [])) 6)) (rF st.h (reach st.h 64 (args.flatMap (fH 3)) []))) (G.p f (args.map (gw st.h 6)))at O
   have hx2:ym (reach st.h 64 (args.flatMap (fH 3)) []) o.dst st next Z (G.o f (args.map (ren (inN (reach st.h 64 (args.flatMap (fH 3)) [])) 6)) (rF st.h (reach st.h 64 (args.flatMap (fH 3)) [])))\/∃ c,G.p f (args.map (gw st.h 6))=some c/\wv (args.all (dA 3)) (reach st.h 64 (args.flatMap (fH 3)) []) o.dst st next Z (G.o f (args.map (ren (inN (reach st.h 64 (args.flatMap (fH 3)) [])) 6)) (rF st.h (reach st.h 64 (args.flatMap (fH 3)) []))) (some c)/\¬ (∃ p s,c=.det p s/\(args.all (dA 3) ||jm 3 s)=false):=by
    cases hc:G.p f (args.map (gw st.h 6))with
    |none=>rw[hc]at O;exact .inl O
    |some c=>
     rw[hc]at O;by_cases hdet:∃ p s,c=.det p s/\(args.all (dA 3) ||jm 3 s)=false
     obtain⟨p,s,rfl,hb⟩:=hdet;left;change (bif args.all (dA 3) ||jm 3 s then _ else _)at O;grind
     grind
   clear O;rcases hx2 with O| ⟨c,hc,O,hdet⟩
   ·have aqb:=Ek hi.hp e1;have hn:=qF st.h 64 (args.flatMap (fH 3)) [] amW;generalize reach st.h 64 (args.flatMap (fH 3)) []=ids at O aqb hn;change ym ids o.dst st next Z (G.o f (args.map (ren (inN ids) 6)) (rF st.h ids))at O
    cases ho2:G.o f (args.map (ren (inN ids) 6)) (rF st.h ids)with
    |none=>rw[ho2]at O;exact O.elim
    |some c=>
     rw[ho2]at O;obtain⟨hpre,O⟩:=O;obtain⟨k1,k2⟩:=LG hG hi.hp e1 hn ho2 hpre aqb;rw[Y,k1];refine⟨λh=>(by cases h),?_⟩;refine CallsIn.mono (ov k2) ?_;rintro e w' ⟨r,bo,hr1,hr2⟩;have O:=O r hr1;cases hres:c.res r with
     |ret s h'=>
      rw[hres]at hr2 O;obtain⟨⟨u,rfl,apR⟩,hp',hfr⟩:=hr2;exact hK _ _ _ _ (hi.ap1 hr hE W ho V U hp' hfr apR).1 O
     |pan x h'=>
      rw[hres]at hr2 O;obtain⟨rfl,hp',hfr⟩:=hr2;exact hZ x bo ⟨apG st.t,mJ ids st.h.length st.h 0 h'⟩ a w' (hi.out.aqM hp' hfr) O
   ·have hcall:an c/\(args.all (dA 3)=true\/∀ s,dW c s->jm 3 s=true)/\(∀ s,dW c s->next (St.put ⟨st.t,st.h++aV 3 s⟩ o.dst (jn 3 st.h.length s)))/\∀ x,kY c x->Z x ⟨apG st.t,st.h⟩:=by
     cases c with
     |det p s=>
      change (bif args.all (dA 3) ||jm 3 s then _ else _)at O;cases hb:args.all (dA 3) ||jm 3 s with
      |false=>grind
      |true=>
       rw[hb]at O;obtain⟨hp,O⟩:=O;refine⟨hp,?_,λs' hs'=>by cases hs';exact O,λx h=>h.elim⟩;rw[alY]at hb;exact hb.imp id (λh s' hs'=>by cases hs';exact h)
     |rel α pre post out=>
      obtain⟨hp,O⟩:=O;cases hb:args.all (dA 3)with
      |false=>grind
      |true=>
       rw[hb]at O;refine⟨hp,.inl rfl,λs' hs'=>?_,λx h=>h.elim⟩;obtain⟨r,h1,rfl⟩:=hs';exact O r h1
     |may ok s x=>
      change (bif args.all (dA 3) ||jm 3 s then(ok=true->next (St.put ⟨st.t,st.h++aV 3 s⟩ o.dst (jn 3 st.h.length s)))/\(ok=false->Z x ⟨apG st.t,st.h⟩)else False)at O;cases hb:args.all (dA 3) ||jm 3 s with
      |false=>grind
      |true=>
       rw[hb]at O;refine⟨trivial,?_,λs' hs'=>by obtain⟨h1,rfl⟩:=hs';exact O.1 h1,λx' hs'=>by obtain⟨h1,rfl⟩:=hs';exact O.2 h1⟩;rw[alY]at hb;exact hb.imp id (λh s' hs'=>by obtain⟨_,rfl⟩:=hs';exact h)
    obtain⟨q1,q2,q3,q4⟩:=hcall;obtain⟨k1,k2⟩:=Jy (P:=P) hG hi.hp e1 hc q1 q2;rw[Y,k1];refine⟨λh=>(by cases h),?_⟩;refine CallsIn.mono (ov k2) ?_;rintro e w' (⟨s,u,P1,m1,rfl,m2,m3,m4,m5⟩ | ⟨x,m1,rfl,m4⟩);exact hK _ _ _ _ (hi.ap1 hr hE W ho V U m2 m3 m4).1 (q3 s m1);exact hZ x own ⟨apG st.t,st.h⟩ a w' (hi.out.aqM (hi.hp.below m4) (El own m4)) (q4 x m1)
  |yld id args=>
   obtain⟨hd,e0,vs,e1,Y⟩:=h;change (bif args.all (dA 3)then NJ id o.dst st next (Jd G args (aq st.h id))else False)at O;cases hb:args.all (dA 3)with
   |false=>grind
   |true=>
    rw[hb]at O;cases hob:aq st.h id with
    |ab r=>
     rw[hob]at O;change NJ id o.dst st next (G.y args r)at O
     cases hc:G.y args r with
     |none=>rw[hc]at O;exact O.elim
     |some c=>
      rw[hc]at O;obtain⟨hpre,O⟩:=O;have mono:∀ (w':World) a' P1,c.post a'->Hp F P1 w' (cF st.h id (.ab (c.res a').2))->Fr { w:=w,own:=own} P1 w'->K (a.put o.dst (.bool (c.res a').1)) w':=by
       intro w' a' P1 m1 m2 m3;exact hK _ _ _ _ (hi.ap1 hr hE W ho V U m2 m3 (.v _)).1 (O a' m1)
      rcases LH hG hi.hp e0 e1 hb hob hc hpre with⟨f,as,k1,k2⟩ | ⟨l,f,tmps,as,bd,k1,k2⟩;rw[Y,k1];exact⟨λh=>(by cases h),CallsIn.mono (ov k2) (by grind)⟩;rw[Y,k1];exact⟨λh=>(by cases h),RoundIn.mono (LD k2) (by grind)⟩
    |_=>rw[hob]at O;exact O.elim
  |pan x=>
   rw[show(execOp a.eval o).run P w=.halt (.panic x) w from h];exact hZ x own ⟨apG st.t,st.h⟩ a w hi.out O
 |some g=>
  rw[hg]at O;have hlt:=hr.lt n o g.1 g.2 ho hg;have hrf:mV ops g.1:=⟨n,o,g.2,ho,hg⟩;have hjE:E g.1:=V g.1 g.2 hg;change stepG G ops g o.dst st next Z (opS ⟨ts,ops,some g,⟨st.t,st.h⟩,st.h.length⟩ o.op)at O
  refine⟨λaqS=>?_,λaqS=>?_⟩
  ·have U:GOk ops a o.guard:=by grind
   have hgp:dR ops st.t ops.length g:=ur hi n (λ_ _ _ _ _ _ _ _=>rfl) hr.lt _ g hlt hjE hrf aqS;have hnd:∀ c,o.op≠ .defer c:=A6 (cx:=⟨ts,ops,o.guard,st,st.h.length⟩) (λe=>by rw[hg]at e;rw[show(opS ⟨ts,ops,some g,⟨st.t,st.h⟩,st.h.length⟩ o.op)=.bad from e]at O;exact Dm _ _ hgp O.1);refine⟨hnd,?_⟩;have hgn:∀ k c,some g=some (k,c)->E k/\mV ops k:=λk c e=>by grind
   have h:=N7 (P:=P) (ts:=ts) (ops:=ops) (g:=some g) (t:=st.t) (h:=st.h) (nx:=st.h.length) hts hi.hp hi.hp.nx (a:=a) (o:=o) (Jt hi aqS hgn) (λc x y _=>⟨λhc=>xv hi aqS hgn c x true hc,λhc=>xv hi aqS hgn c y false hc⟩);generalize opS ⟨ts,ops,some g,⟨st.t,st.h⟩,st.h.length⟩ o.op=r at h O;cases r with
   |bad=>exact(Dm _ _ hgp O.1).elim|pan x=>exact O.elim|nxt id=>exact O.elim|amb p=>exact O.elim
   |val s=>
    obtain⟨u,e1,Y⟩:=h;exact fv (.inl e1) (hK _ _ _ _ ((hi.ap4 hr hE W ho V U (Below.refl _ _) Y).2 g hg) O)
   |chk c s=>
    obtain⟨u,e1,Y⟩:=h (O.1 hgp);exact fv (.inl e1) (hK _ _ _ _ ((hi.ap4 hr hE W ho V U (Below.refl _ _) Y).2 g hg) O.2)
   |asm c s=>
    obtain⟨_,u,e1,Y⟩:=h;exact fv (.inl e1) (hK _ _ _ _ ((hi.ap4 hr hE W ho V U (Below.refl _ _) Y).2 g hg) O)
   |apI s=>
    obtain⟨u,cs,ty,e1,Y⟩:=h;exact fv (.inl e1) (hK _ _ _ _ ((hi.ap4 hr hE W ho V U (qB _ _) Y).2 g hg) O)
   |eff c ac ups s=>
    obtain⟨hc,O⟩:=O.1 hgp;obtain⟨ha,u,bo,w',e1,Y,e3⟩:=h hc;exact fv e1 (hK _ _ _ _ ((hi.ap1 hr hE W ho V U e3.hp e3.fr Y).2 g hg) (O ha))
   |call f args=>
    obtain⟨vs,e1,Y⟩:=h;change DQ (args.all (dA 3)) (reach st.h 64 (args.flatMap (fH 3)) []) ops g o.dst st next Z (G.o f (args.map (ren (inN (reach st.h 64 (args.flatMap (fH 3)) [])) 6)) (rF st.h (reach st.h 64 (args.flatMap (fH 3)) []))) (G.p f (args.map (gw st.h 6)))at O
    cases hc:G.p f (args.map (gw st.h 6))with
    |none=>
     rw[hc]at O;have aqb:=Ek hi.hp e1;have hn:=qF st.h 64 (args.flatMap (fH 3)) [] amW;generalize reach st.h 64 (args.flatMap (fH 3)) []=ids at O aqb hn;change yN ids ops g o.dst st next Z (G.o f (args.map (ren (inN ids) 6)) (rF st.h ids))at O
     cases ho2:G.o f (args.map (ren (inN ids) 6)) (rF st.h ids)with
     |none=>rw[ho2]at O;exact(Dm _ _ hgp O.1).elim
     |some c=>
      rw[ho2]at O;obtain⟨hpre,O⟩:=O.1 hgp;obtain⟨k1,k2⟩:=LG hG hi.hp e1 hn ho2 hpre aqb;rw[Y,k1];refine⟨λh=>(by cases h),?_⟩;refine CallsIn.mono (ov k2) ?_;rintro e w' ⟨r,bo,hr1,hr2⟩;have O:=O r hr1;cases hres:c.res r with
      |ret s h'=>
       rw[hres]at hr2 O;obtain⟨⟨u,rfl,apR⟩,hp',hfr⟩:=hr2;exact hK _ _ _ _ ((hi.ap1 hr hE W ho V U hp' hfr apR).2 g hg) O
      |pan x h'=>
       rw[hres]at hr2 O;obtain⟨rfl,hp',hfr⟩:=hr2;exact hZ x bo ⟨apG st.t,mJ ids st.h.length st.h 0 h'⟩ a w' (hi.out.aqM hp' hfr) O
    |some c=>
     rw[hc]at O;cases c with
     |rel=>exact O.elim|may=>exact O.elim
     |det p s=>
      obtain⟨hp,O⟩:=O;cases hb:(args.all (dA 3) ||jm 3 s)&&(aV 3 s).isEmpty with
      |false=>grind
      |true=>
       rw[hb]at O;rw[alt,alY]at hb;obtain⟨k1,k2⟩:=Jy (P:=P) hG hi.hp e1 hc (hp hgp) (hb.1.imp id (λh s' hs'=>by cases hs';exact h));rw[Y,k1];refine⟨λh=>(by cases h),?_⟩;refine CallsIn.mono (ov k2) ?_;rintro e w' (⟨s',u,P1,rfl,rfl,m2,m3,m4,m5⟩ | ⟨x,m1,_⟩);have hz:aV 3 s'=[]:=List.isEmpty_iff.1 hb.2;rw[hz,alT]at m2;rw[Cj 3 _ s' hz]at m4;exact hK _ _ _ _ ((hi.ap1 hr hE W ho V U m2 m3 m4).2 g hg) O;exact m1.elim
   |yld id args=>
    obtain⟨hd,e0,vs,e1,Y⟩:=h;change (bif args.all (dA 3)then Lf id ops g o.dst st next (Jd G args (aq st.h id))else False)at O;cases hb:args.all (dA 3)with
    |false=>grind
    |true=>
     rw[hb]at O;cases hob:aq st.h id with
     |ab r=>
      rw[hob]at O;change Lf id ops g o.dst st next (G.y args r)at O
      cases hc:G.y args r with
      |none=>rw[hc]at O;exact O.elim
      |some c=>
       rw[hc]at O;obtain⟨hpre,O⟩:=O.1 hgp;have mono:∀ (w':World) a' P1,c.post a'->Hp F P1 w' (cF st.h id (.ab (c.res a').2))->Fr { w:=w,own:=own} P1 w'->K (a.put o.dst (.bool (c.res a').1)) w':=by
        intro w' a' P1 m1 m2 m3;exact hK _ _ _ _ ((hi.ap1 hr hE W ho V U m2 m3 (.v _)).2 g hg) (O a' m1)
       rcases LH hG hi.hp e0 e1 hb hob hc hpre with⟨f,as,k1,k2⟩ | ⟨l,f,tmps,as,bd,k1,k2⟩;rw[Y,k1];exact⟨λh=>(by cases h),CallsIn.mono (ov k2) (by grind)⟩;rw[Y,k1];exact⟨λh=>(by cases h),RoundIn.mono (LD k2) (by grind)⟩
     |_=>rw[hob]at O;exact O.elim
  ·have U:¬GOk ops a o.guard:=by grind
   have hgN:gC ops st.t ops.length g:=A5 hi _ g hjE hrf aqS;have X:=λs=>hi.skip hr hE W ho V U hg (s:=s);generalize opS ⟨ts,ops,some g,⟨st.t,st.h⟩,st.h.length⟩ o.op=r at O;cases r with
   |bad=>exact hK _ _ _ _ (X .any) O.2|pan x=>exact O.elim|nxt id=>exact O.elim|amb p=>exact O.elim|val s=>exact hK _ _ _ _ (X _) O|chk c s=>exact hK _ _ _ _ (X _) O.2|asm c s=>exact hK _ _ _ _ (X _) O|apI s=>exact hK _ _ _ _ (X _) O|eff c ac ups s=>exact hK _ _ _ _ (X _) (O.2 hgN)
   |call f args=>
    change DQ (args.all (dA 3)) (reach st.h 64 (args.flatMap (fH 3)) []) ops g o.dst st next Z (G.o f (args.map (ren (inN (reach st.h 64 (args.flatMap (fH 3)) [])) 6)) (rF st.h (reach st.h 64 (args.flatMap (fH 3)) []))) (G.p f (args.map (gw st.h 6)))at O
    cases hc:G.p f (args.map (gw st.h 6))with
    |none=>
     rw[hc]at O;generalize reach st.h 64 (args.flatMap (fH 3)) []=ids at O;change yN ids ops g o.dst st next Z (G.o f (args.map (ren (inN ids) 6)) (rF st.h ids))at O
     cases ho2:G.o f (args.map (ren (inN ids) 6)) (rF st.h ids)with
     |none=>rw[ho2]at O;exact hK _ _ _ _ (X .any) O.2
     |some c=>
      rw[ho2]at O;exact hK _ _ _ _ (X .any) (O.2 hgN)
    |some c=>
     rw[hc]at O;cases c with
     |rel=>exact O.elim|may=>exact O.elim
     |det p s=>
      obtain⟨hp,O⟩:=O;grind
   |yld id args=>
    change (bif args.all (dA 3)then Lf id ops g o.dst st next (Jd G args (aq st.h id))else False)at O;cases hb:args.all (dA 3)with
    |false=>grind
    |true=>
     rw[hb]at O;cases hc:Jd G args (aq st.h id)with
     |none=>rw[hc]at O;exact O.elim|some c=>rw[hc]at O;exact hK _ _ _ _ (X .any) (O.2 hgN)
theorem apo.congr{O:Nat->Prop}(h:∀ k,E k↔O k){st:St}(hi:apo F w0 N ops E own st a w):apo F w0 N ops O own st a w:=by
 have:E=O:=funext λk=>propext (h k);grind
theorem apo.all {st:St}(W:ROk N ops){n:Nat}(hn:ops.length<=n)(hi:apo F w0 N ops (· <n) own st a w):apo F w0 N ops (· <ops.length) own st a w:=by
 refine⟨hi.size,hi.defers,hi.hp,hi.fr,λt=>?_,λk o d j b s U=>hi.tags k o d j b s (by omega),λk o j b U O hg=>by have:=W.lt k o j b O hg;omega,λk o b U E O hy=>hi.chain k o b (by omega) E O hy⟩;have:=hi.slots t;cases V:lk t st.t with
 |gd j b s=>
  rw[V]at this;obtain⟨_,⟨i,o,X,h1,h2⟩,Y⟩:=this;exact⟨by have:=W.lt i o j X h1 h2;grind,⟨i,o,X,h1,h2⟩,Y⟩
 |_=>rw[V]at this;exact this
theorem JA{ts:Tis}{G:Cons}{ops:List Oper}{rest:List Oper}{st:St}{K:St->Prop}(h:jo ts G ops (o::rest) st K Z):
  PZ G ops o.dst st (λst'=>jo ts G ops rest st' K Z) Z o.guard (opS ⟨ts,ops,o.guard,st,st.h.length⟩ o.op):=by
 simp only[jo]at h;cases E:o.guard <;>rw[E]at h <;>exact h
theorem N9 (O:ts.ok P)(hG:aoI P G)(U:ROk N ops){Q:Exit->Act->World->Prop}{K:St->Prop}{Z:Value->St->Prop}(hZ:∀ x own st a w,Y1 F w0 N own st a w->Z x st->Q (.panic [{ v:=x,recovered:=false}]) a w):
  ∀ (rest:List Oper) (n:Nat) (own:Own) (st:St) (a:Act) (w:World),ops.drop n=rest->apo F w0 N ops (· <n) own st a w->jo ts G ops rest st K Z->
  (∀ own st a w,apo F w0 N ops (· <ops.length) own st a w->K st->Q .normal a w)->wpListIn (rd ro) nd P ops.toArray Q rest a w
 | [],n,own,st,a,w,hd,hi,W,Y=>by
  have hn:ops.length<=n:=by
   simp_all
  exact Y own st a w (hi.all U hn) W
 |o::rest,n,own,st,a,w,hd,hi,W,Y=>by
  obtain⟨ho,hd'⟩:=Ej hd;have ih:=λbo st' a' w' (X:apo F w0 N ops (· <n+1) bo st' a' w') V=>N9 O hG U hZ rest (n+1) bo st' a' w' hd' X V Y;obtain⟨h1,h2⟩:=P2 (ro:=ro) (nd:=nd) O hG U (tG n) (amw n) ho (λj b e=>U.lt n o j b ho e) hi hZ (JA W) ih;by_cases E:GOk ops a o.guard
  obtain⟨hnd,h1⟩:=h1 E;unfold wpListIn;rw[if_pos (my.2 E)];refine⟨λ_ _=>trivial,?_⟩;grind [Oper.semAt_eq];grind [my,wpListIn]
end
def agh (o:Ob):Prop:=o=.dead\/o=.fwd none
def ap6 (o o':Ob):Prop:=o=o'\/(∃ (kk vk:Tag) (l:List (kk.T×vk.T)) (p p':Option (Nat×Option kk.T)),o=.mp kk vk l p/\o'=.mp kk vk l p')\/(agh o/\agh o')
theorem ap6.refl (o:Ob):ap6 o o:=.inl rfl
theorem ap6.symm {a b:Ob}(h:ap6 a b):ap6 b a:=by
 rcases h with rfl| ⟨kk,U,l,p,p',E,O⟩ | ⟨h1,h2⟩;exact .inl rfl;exact .inr (.inl ⟨kk,U,l,p',p,O,E⟩);exact .inr (.inr ⟨h2,h1⟩)
theorem ap6.trans {a b c:Ob}(h:ap6 a b)(h':ap6 b c):ap6 a c:=by
 rcases h with rfl| ⟨kk,vk,l,p,p',X,U⟩ | ⟨h1,h2⟩;exact h';rcases h' with rfl| ⟨V,O,l',q,q',E,W⟩ | ⟨h3,Y⟩;exact .inr (.inl ⟨kk,vk,l,p,p',X,U⟩);rw[U]at E;cases E;exact .inr (.inl ⟨kk,vk,l,p,q',X,W⟩);rw[U]at h3;rcases h3 with h3|h3 <;>cases h3;rcases h' with rfl| ⟨V,O,l',q,q',E,W⟩ | ⟨h3,Y⟩;exact .inr (.inr ⟨h1,h2⟩);rw[E]at h2;rcases h2 with h2|h2 <;>cases h2;exact .inr (.inr ⟨h1,Y⟩)
theorem H9 (a b:List Up):ft (a++b)=ft a++ft b:=by
 induction a with
 |nil=>rfl|cons x r E=>simp[ft,E]
section
variable {h h':List Ob}
theorem LI (ti:TI){s:SV}(E:∀ id∈fX s,aq h id=aq h' id):qy ti h s=qy ti h' s:=by
 cases s <;>first|rfl|(simp only[fX,ami,forall_eq]at E;simp only[qy,E])
theorem zO (n:Nat){s:SV}(l:Option (List SV))(E:∀ id∈fX s,aq h id=aq h' id):q_ n h s l=q_ n h' s l:=by
 cases l <;>cases s <;>first|rfl|(simp only[fX,ami,forall_eq]at E;simp only[q_,E])
theorem JB (n nx:Nat){s O:SV}(U:∀ id∈fX s++fX O,aq h id=aq h' id):ra n nx h s O=ra n nx h' s O:=by
 have h1:∀ id∈fX s,aq h id=aq h' id:=λid hi=>U id (anN _ hi);unfold ra;split
 rename_i sz id i off E;have V:=h1 id (by simp[fX]);have W:=U E (by simp[fX]);rw[V,zO n _ h1];simp_all [DJ];exact zO _ _ h1
theorem JD (ti:TI)(n:Nat){s:SV}(i:SV)(E:∀ id∈fX s,aq h id=aq h' id):iv ti n h s i=iv ti n h' s i:=by
 cases i with
 |v x=>cases x <;>cases s <;>first|rfl|(simp only[fX,ami,forall_eq]at E;simp only[iv,E])
 |_=>cases s <;>rfl
theorem JE (ti:TI)(n nx:Nat){s:SV}(lo hi:Option SV)(E:Bool)(O:∀ id∈fX s,aq h id=aq h' id):mL ti n nx h lo hi E s=mL ti n nx h' lo hi E s:=by
 cases s <;>first|rfl|simp_all [fX,mL]
theorem LJ (ti:TI)(ok:Bool)(key:SV){s:SV}(E:∀ id∈fX s,aq h id=aq h' id):tx ti h ok key s=tx ti h' ok key s:=by
 cases s <;>first|rfl|(rename_i x;cases x <;>first|rfl|(rename_i y;cases y <;>rfl)) |simp_all [fX,tx]
theorem N_ (ti:TI)(key:SV){s:SV}(E:∀ id∈fX s,ap6 (aq h id) (aq h' id)):tx ti h false key s=tx ti h' false key s:=by
 cases s with
 |os id=>
  simp only[fX,ami,forall_eq]at E;simp only[tx];rcases E with e| ⟨kk,V,l,p,p',O,U⟩ | ⟨h1,h2⟩;rw[e];rw[O,U];simp only[PA,alZ,aok];rcases h1 with h1|h1 <;>rcases h2 with h2|h2 <;>rw[h1,h2] <;>rfl
 |v x=>cases x <;>first|rfl|(rename_i y;cases y <;>rfl)
 |_=>rfl
theorem Em (ti:TI)(key v:SV){s:SV}(E:∀ id∈fX s,aq h id=aq h' id):CG ti h key v s=CG ti h' key v s:=by
 cases s <;>first|rfl|simp_all [fX,CG]
theorem Oa (ti:TI)(nx:Nat){h h':List Ob}{s:SV}(h1:∀ id∈fX s,aq h id=aq h' id):DO ti nx h s=DO ti nx h' s:=by
 cases s with
 |os id=>grind [DO,fX]|_=>rfl
theorem LK {h h':List Ob}{s:SV}(h1:∀ id∈fX s++TQ h s,aq h id=aq h' id):Cb h s=Cb h' s:=by
 cases s with
 |ptr id off=>
  cases off with
  |zero=>
   have e:=h1 id (by simp[fX]);simp only[Cb];rw[<-e];cases U:aq h id with
   |mi E n left O=>
    cases E with
    |none=>rfl
    |some E=>
     cases O with
     |none=>rfl
     |some j=>
      grind [PB,TQ,TP]
   |_=>rfl
  |succ n=>rfl
 |_=>rfl
theorem Oc (ti:TI)(nx:Nat)(key:SV){s:SV}(E:∀ id∈fX s,aq h id=aq h' id):xS ti nx h key s=xS ti nx h' key s:=by
 cases s <;>first|rfl|simp_all [fX,xS]
theorem Od (ti:TI)(v:SV){s:SV}(n:SV)(E:∀ id∈fX s,aq h id=aq h' id):I_ ti h v s n=I_ ti h' v s n:=by
 cases n with
 |os x=>cases s <;>first|rfl|simp_all [fX,I_]
 |_=>cases s <;>rfl
theorem Oe (ti te:TI)(l:List SV)(E:∀ id∈pg l,aq h id=aq h' id):yK ti te h l=yK ti te h' l:=by
 match l with
 | [] =>rfl
 | [x] =>cases x <;>first|rfl|grind [yK,pg,Ja,fX]
 |x::_::_=>cases x <;>rfl
theorem Of (ti:TI)(l:List SV)(E:∀ id∈pg l,aq h id=aq h' id):yL ti h l=yL ti h' l:=by
 match l with
 | [] =>rfl| [x] =>cases x <;>rfl
 | [x,y] =>cases x <;>first|rfl|grind [yL,pg,Ja,fX]
 |x::_::_::_=>cases x <;>rfl
theorem Og (ti:TI)(l:List SV)(E:∀ id∈pg l,aq h id=aq h' id):tU ti h l=tU ti h' l:=by
 match l with
 | [] =>rfl
 | [x] =>
  cases x <;>first|rfl|(rename_i y;cases y <;>first|rfl|(rename_i a n c;cases a <;>cases n <;>cases c <;>rfl)) |(simp only[pg,Ja,fX,alT,ami,forall_eq]at E;simp only[tU,E])
 |x::_::_=>cases x <;>first|rfl|(rename_i y;cases y <;>first|rfl|(rename_i a n c;cases a <;>cases n <;>cases c <;>rfl))
theorem JF (id:Nat)(r:List SV):id∈pg (.os id::r):=by simp[pg,Ja,fX]
theorem P3 (x:SV)(z id:Nat)(r:List SV):id∈pg (x:: .ls z [.os id]::r):=by simp[pg,Ja]
theorem Ui (x:SV)(id:Nat)(r:List SV):id∈pg (x:: .os id::r):=by simp[pg,Ja,fX]
theorem Uj (x:SV)(s id:Nat)(lo hi:Int)(r:List SV):id∈pg (x:: .vw s id lo hi::r):=by simp[pg,Ja,fX]
theorem En (k:Tag)(x s:SV)(r:List SV)(E:∀ id∈pg (x::s::r),aq h id=aq h' id):ug k h s=ug k h' s:=by
 cases s with
 |os id=>grind [ug,Ui]|vw s id lo hi=>grind [ug,Uj]
 |v y=>cases y <;>first|rfl|(rename_i a n c;cases a <;>cases n <;>cases c <;>rfl)
 |_=>rfl
theorem Oh (te:TI)(nx:Nat)(l:List SV)(O:∀ id∈pg l,aq h id=aq h' id):mt te nx h l=mt te nx h' l:=by
 have V:∀ (E:List Up) (s x:SV) (o:Ob),(∀ id∈pg [x,s],aq h id=aq h' id)->vZ te nx E h s o=vZ te nx E h' s o:=by
  intro E s x o O;cases o with
  |row k l=>simp only[vZ];rw[En k x s [] O]|_=>rfl
 have U:∀ (id2:Nat) (E:List Up) (o:Ob),aq h id2=aq h' id2->DM nx te.bytes h id2 E o=DM nx te.bytes h' id2 E o:=by
  simp_all [DM]
 have W:∀ (s x:SV) (o:Option Tag),(∀ id∈pg [x,s],aq h id=aq h' id)->uU te nx h s o=uU te nx h' s o:=by
  intro s x o O;cases o with
  |none=>rfl|some k=>exact V [] s x (.row k []) O
 unfold mt;split
 rename_i id id2;rw[U id2 _ _ (O id2 (P3 _ _ _ _)),O id (JF _ _)];rename_i id2;rw[O id2 (P3 _ _ _ _)];rename_i id id2;rw[V _ (.os id2) _ _ O,O id (JF _ _)];rename_i id s _ _;rw[V _ s _ _ O,O id (JF _ _)];rename_i s _;exact W s _ _ O;rename_i s;exact W s _ _ O;rename_i k l s;unfold XO;rw[En k _ s [] O];rfl
end
def sB {ts:Tis}{ops:List Oper}{g:Option (Nat×Bool)}{h h':List Ob}{nx nx':Nat}{t t':List (Nat×SV)}:∀ (l:List Operand),(∀ x∈l,raw t x=raw t' x)->dx ⟨ts,ops,g,⟨t,h⟩,nx⟩ l=dx ⟨ts,ops,g,⟨t',h'⟩,nx'⟩ l
 | [],_=>rfl
 |x::r,E=>by
  simp only[dx];rw[sB r λy hy=>E y (by simp[hy])];have:val ⟨ts,ops,g,⟨t,h⟩,nx⟩ x=val ⟨ts,ops,g,⟨t',h'⟩,nx'⟩ x:=by show bF ops g (raw t x)=bF ops g (raw t' x);rw[E x (by simp)]
  rw[this]
def tH {ts:Tis}{ops:List Oper}{g:Option (Nat×Bool)}{h h':List Ob}{nx nx':Nat}{t t':List (Nat×SV)}:∀ (l:List (Nat×Operand)),(∀ x∈l,raw t x.2=raw t' x.2)->iK ⟨ts,ops,g,⟨t,h⟩,nx⟩ l=iK ⟨ts,ops,g,⟨t',h'⟩,nx'⟩ l
 | [],_=>rfl
 |(i,x)::r,E=>by
  simp only[iK];rw[tH r λy hy=>E y (by simp[hy])];have:val ⟨ts,ops,g,⟨t,h⟩,nx⟩ x=val ⟨ts,ops,g,⟨t',h'⟩,nx'⟩ x:=by show bF ops g (raw t x)=bF ops g (raw t' x);rw[E (i,x) (by simp)]
  rw[this]
variable {ops:List Oper}{g:Option (Nat×Bool)}{h:List Ob}{nx':Nat}{t t':List (Nat×SV)}
theorem sC{ts:Tis}{h':List Ob}{nx:Nat}(o:Option Operand)(E:∀ x∈o,raw t x=raw t' x):ol ⟨ts,ops,g,⟨t,h⟩,nx⟩ o=ol ⟨ts,ops,g,⟨t',h'⟩,nx'⟩ o:=by
 cases o with
 |none=>rfl
 |some x=>show some (bF ops g (raw t x))=some (bF ops g (raw t' x));rw[E x rfl]
theorem Sj{ts:Tis}{h':List Ob}{nx:Nat}(op:Op)(V:∀ x∈op.operands.toList,raw t x=raw t' x)
  (h1:∀ id∈(fpO ⟨ts,ops,g,⟨t,h⟩,nx⟩ op).1,aq h id=aq h' id) (h2:∀ id∈(fpO ⟨ts,ops,g,⟨t,h⟩,nx⟩ op).2,ap6 (aq h id) (aq h' id)):
  opS ⟨ts,ops,g,⟨t,h⟩,nx⟩ op=opS ⟨ts,ops,g,⟨t',h'⟩,nx⟩ op:=by
 have O:∀ x∈op.operands.toList,val ⟨ts,ops,g,⟨t',h'⟩,nx⟩ x=val ⟨ts,ops,g,⟨t,h⟩,nx⟩ x:=λx Y=>by
  show bF ops g (raw t' x)=bF ops g (raw t x);rw[V x Y]
 cases op with
 |call c=>
  obtain⟨W,args,tys⟩:=c;have U:dx ⟨ts,ops,g,⟨t',h'⟩,nx⟩ args.toList=dx ⟨ts,ops,g,⟨t,h⟩,nx⟩ args.toList:=(sB _ λx Y=>V x (by grind [Op.operands,Call.operands])).symm;cases W with
  |value f=>
   have hf:=O f (by simp[Op.operands,Call.operands]);show zu _ _=zu _ _;rw[U,hf]
  |invoke f m=>rfl
  |builtin b=>
   cases b <;>first|rfl|skip
   show(match tys.toList with| [t1,t2] =>aI ts t1 λti=>aI ts t2 λX=>aI ts ti.elem λte=>bif ti.isSlice&&X.isSlice then mt te nx h (dx ⟨ts,ops,g,⟨t,h⟩,nx⟩ args.toList)else .bad|_=>.bad)=(match tys.toList with| [t1,t2] =>aI ts t1 λti=>aI ts t2 λX=>aI ts ti.elem λte=>bif ti.isSlice&&X.isSlice then mt te nx h' (dx ⟨ts,ops,g,⟨t',h'⟩,nx⟩ args.toList)else .bad|_=>.bad);rw[U];have e:∀ te:TI,mt te nx h (dx ⟨ts,ops,g,⟨t,h⟩,nx⟩ args.toList)=mt te nx h' (dx ⟨ts,ops,g,⟨t,h⟩,nx⟩ args.toList):=λte=>Oh te nx _ h1;simp only[e];show(match tys.toList with| [t1] =>aI ts t1 λti=>aI ts ti.elem λte=>yK ti te h (dx ⟨ts,ops,g,⟨t,h⟩,nx⟩ args.toList) |_=>.bad)=(match tys.toList with| [t1] =>aI ts t1 λti=>aI ts ti.elem λte=>yK ti te h' (dx ⟨ts,ops,g,⟨t',h'⟩,nx⟩ args.toList) |_=>.bad);rw[U];have e:∀ ti te:TI,yK ti te h (dx ⟨ts,ops,g,⟨t,h⟩,nx⟩ args.toList)=yK ti te h' (dx ⟨ts,ops,g,⟨t,h⟩,nx⟩ args.toList):=λti te=>Oe ti te _ h1;simp only[e];show(match tys.toList with|t1::_=>aI ts t1 λti=>yL ti h (dx ⟨ts,ops,g,⟨t,h⟩,nx⟩ args.toList) |_=>.bad)=(match tys.toList with|t1::_=>aI ts t1 λti=>yL ti h' (dx ⟨ts,ops,g,⟨t',h'⟩,nx⟩ args.toList) |_=>.bad);rw[U];have e:∀ ti:TI,yL ti h (dx ⟨ts,ops,g,⟨t,h⟩,nx⟩ args.toList)=yL ti h' (dx ⟨ts,ops,g,⟨t,h⟩,nx⟩ args.toList):=λti=>Of ti _ h1;simp only[e];show(match tys.toList with| [t''] =>aI ts t'' λti=>tU ti h (dx ⟨ts,ops,g,⟨t,h⟩,nx⟩ args.toList) |_=>.bad)=(match tys.toList with| [t''] =>aI ts t'' λti=>tU ti h' (dx ⟨ts,ops,g,⟨t',h'⟩,nx⟩ args.toList) |_=>.bad);rw[U];have e:∀ ti:TI,tU ti h (dx ⟨ts,ops,g,⟨t,h⟩,nx⟩ args.toList)=tU ti h' (dx ⟨ts,ops,g,⟨t,h⟩,nx⟩ args.toList):=λti=>Og ti _ h1;simp only[e];show I9 _=I9 _;rw[U];show I8 _=I8 _;rw[U]
 |build ty E=>
  have U:iK ⟨ts,ops,g,⟨t',h'⟩,nx⟩ E.toList=iK ⟨ts,ops,g,⟨t,h⟩,nx⟩ E.toList:=(tH _ λx Y=>V x.2 (by grind [Op.operands])).symm;grind [opS]
 |buildSlice ty n E=>
  have U:iK ⟨ts,ops,g,⟨t',h'⟩,nx⟩ E.toList=iK ⟨ts,ops,g,⟨t,h⟩,nx⟩ E.toList:=(tH _ λx Y=>V x.2 (by grind [Op.operands])).symm;grind [opS]
 |makeFunc fn first caps=>
  have U:dx ⟨ts,ops,g,⟨t',h'⟩,nx⟩ caps.toList=dx ⟨ts,ops,g,⟨t,h⟩,nx⟩ caps.toList:=(sB _ λx Y=>V x (by grind [Op.operands])).symm;have hb:dx ⟨ts,ops,g,⟨t',h'⟩,nx⟩ first.toList=dx ⟨ts,ops,g,⟨t,h⟩,nx⟩ first.toList:=(sB _ λx Y=>V x (by grind [Op.operands])).symm
  grind [opS]
 |pick c x y=>
  grind [Op.operands,opS]
 |move x=>grind [opS,Op.operands]|assign x=>grind [opS,Op.operands]|box ty x=>grind [opS,Op.operands]
 |load ty x=>
  simp only[opS,O x (by simp[Op.operands])];exact congrArg _ (funext λti=>LI ti h1)
 |store ty x y=>
  simp only[opS,O x (by simp[Op.operands]),O y (by simp[Op.operands])];exact congrArg _ (funext λti=>JB _ _ h1)
 |nilCheck x=>grind [opS,Op.operands]|binOp op xt x y yt=>grind [opS,Op.operands]|unOp op xt x=>grind [opS,Op.operands]|convert a b x=>grind [opS,Op.operands]|panic x=>grind [opS,Op.operands]|makeInterface ty x=>grind [opS,Op.operands]|typeAssert x st ty ok=>grind [opS,Op.operands]|fieldAddr ty x f=>grind [opS,Op.operands]|field ty x f=>grind [opS,Op.operands]
 |indexAddr ty x y=>
  simp only[opS,O x (by simp[Op.operands]),O y (by simp[Op.operands])];exact congrArg _ (funext λti=>congrArg _ (funext λte=>JD _ _ _ h1))
 |extract x i=>grind [opS,Op.operands]|makeSlice ty n c=>grind [opS,Op.operands]
 |slice ty x lo hi mx=>
  cases mx with
  |some m=>
   have e1:ol ⟨ts,ops,g,⟨t',h'⟩,nx⟩ lo=ol ⟨ts,ops,g,⟨t,h⟩,nx⟩ lo:=(sC lo λy hy=>V y (by simp_all [Op.operands])).symm;have e2:ol ⟨ts,ops,g,⟨t',h'⟩,nx⟩ hi=ol ⟨ts,ops,g,⟨t,h⟩,nx⟩ hi:=(sC hi λy hy=>V y (by simp_all [Op.operands])).symm;grind [opS,Op.operands]
  |none=>
   have e1:ol ⟨ts,ops,g,⟨t',h'⟩,nx⟩ lo=ol ⟨ts,ops,g,⟨t,h⟩,nx⟩ lo:=(sC lo λy hy=>V y (by simp_all [Op.operands])).symm;have e2:ol ⟨ts,ops,g,⟨t',h'⟩,nx⟩ hi=ol ⟨ts,ops,g,⟨t,h⟩,nx⟩ hi:=(sC hi λy hy=>V y (by simp_all [Op.operands])).symm;simp only[opS,O x (by simp[Op.operands]),e1,e2];exact congrArg _ (funext λti=>congrArg _ (funext λte=>JE _ _ _ _ _ _ h1))
 |makeMap ty n=>cases n <;>rfl
 |lookup ty m k ok=>
  simp only[opS,O m (by simp[Op.operands]),O k (by simp[Op.operands])];refine congrArg _ (funext λti=>?_);cases ok with
  |true=>exact LJ ti _ _ h1|false=>exact N_ ti _ h2
 |mapUpdate ty m k v=>
  simp only[opS,O m (by simp[Op.operands]),O k (by simp[Op.operands]),O v (by simp[Op.operands])];exact congrArg _ (funext λti=>Em ti _ _ h1)
 |insert ty m k v=>
  simp only[opS,O m (by simp[Op.operands]),O k (by simp[Op.operands]),O v (by simp[Op.operands])];exact congrArg _ (funext λti=>Em ti _ _ h1)
 |mapEntry ty m k=>
  simp only[opS,O m (by simp[Op.operands]),O k (by simp[Op.operands])];exact congrArg _ (funext λti=>Oc ti _ _ h1)
 |entryStore ty m s v=>
  simp only[opS,O m (by simp[Op.operands]),O s (by simp[Op.operands]),O v (by simp[Op.operands])];exact congrArg _ (funext λti=>Od ti _ _ h1)
 |range ty x=>
  simp only[opS,O x (by simp[Op.operands])];exact congrArg _ (funext λti=>Oa ti nx h1)
 |next it isS=>cases isS <;>simp only[opS,O it (by simp[Op.operands])]
 |entry it=>
  simp only[opS,O it (by simp[Op.operands])];exact LK h1
 |_=>rfl
structure DOk (ops:List Oper):Prop where
 back:∀ (i:Nat) (o:Oper) (e:Edge),ops[i]? =some o->e∈o.after->Region.binds .any e=true->e.on<i
 uniq:∀ (i k:Nat) (o q:Oper) (d:Nat),ops[i]? =some o->ops[k]? =some q->o.dst=some d->q.dst=some d->i=k
 look:∀ (i k:Nat) (o q:Oper) (d:Nat),ops[i]? =some o->ops[k]? =some q->q.dst=some d->d∈o.looksAt ops.toArray->k=i\/(k<i/\pi o k=true)\/(i<k/\pi q i=true)
theorem abR(h:NL ops.toArray=true):DOk ops:=by
 have h':∀ (i:Nat) (o:Oper),ops[i]? =some o->(o.after.toList.all λe=>!(Region.binds .any e) ||Nat.blt e.on i)=true/\
   ∀ (k:Nat) (q:Oper),ops[k]? =some q->∀ d,q.dst=some d->(Nat.beq k i|| !(o.dst==some d))=true/\(!((o.looksAt ops.toArray).contains d) ||Nat.beq k i||(Nat.blt k i&&pi o k) ||(Nat.blt i k&&pi q i))=true:=by
  intro i o E;unfold NL at h;rw[al0]at h;have:=h i (by grind);simp only[gH,E,alt]at this;grind
 refine⟨λi o e E V W=>?_,λi k o q d E U hd O=>?_,λi k o q d E U hd X=>?_⟩;have:=(h' i o E).1;rw[al0]at this;have:=this e (by grind);simp_all;have:=((h' i o E).2 k q U d O).1;simp_all;have:=((h' i o E).2 k q U d hd).2;have hc:(o.looksAt ops.toArray).contains d=true:=by grind
 simp only[hc,alN,am3,alY,alt]at this;rcases this with(h1|h1) |h1 <;>simp_all
theorem abS{ts:Tis}{st:St}{nx:Nat}{op:Op}{r:OR}(h:opS ⟨ts,ops,g,st,nx⟩ op=r)(hn:∀ c a ups s,r=.eff c a ups s->nx ∉ ft ups):opS ⟨ts,ops,g,st,nx'⟩ op=r:=by
 have hv:∀ x,val ⟨ts,ops,g,st,nx'⟩ x=val ⟨ts,ops,g,st,nx⟩ x:=λx=>rfl;have W:∀ l,dx ⟨ts,ops,g,st,nx'⟩ l=dx ⟨ts,ops,g,st,nx⟩ l:=λl=>sB l λ_ _=>rfl;have hps:∀ l,iK ⟨ts,ops,g,st,nx'⟩ l=iK ⟨ts,ops,g,st,nx⟩ l:=λl=>tH l λ_ _=>rfl;have hvo:∀ o,ol ⟨ts,ops,g,st,nx'⟩ o=ol ⟨ts,ops,g,st,nx⟩ o:=λo=>sC o λ_ _=>rfl;have U:∀ (t:TypeId) (k k':TI->OR),aI ts t k=r->(∀ ti,k ti=r->k' ti=r)->aI ts t k'=r:=by
  grind [aI]
 have hNew:∀ l,I6 nx l=r->I6 nx' l=r:=by
  intro l e;cases l with
  |none=>exact e
  |some l=>exact absurd (by simp[ft]) (hn _ _ _ _ e.symm)
 cases op with
 |alloc t=>exact U _ _ _ h λti e=>hNew _ e
 |box t x=>exact hNew _ h
 |store t x y=>
  refine U _ _ _ h λti e=>?_;change ra ti.size nx st.h (val ⟨ts,ops,g,st,nx⟩ x) (val ⟨ts,ops,g,st,nx⟩ y)=r at e;change ra ti.size nx' st.h (val ⟨ts,ops,g,st,nx⟩ x) (val ⟨ts,ops,g,st,nx⟩ y)=r;unfold ra at e |-;split at e
  rename_i sz id i off rid _ _;cases hg:I5 (aq st.h id)with
  |false=>grind
  |true=>
   rw[hg]at e;simp only[cond_true]at e |-;cases hc:Nat.beq ti.size 1&&Nat.beq sz 1&&Nat.beq off 0&& !(Nat.beq id rid)with
   |false=>grind
   |true=>
    rw[hc]at e;simp only[cond_true]at e |-;cases ho:aq st.h id with
    |apg k l=>
     rw[ho]at e;simp only[DJ]at e |-;cases hr:NE k (aq st.h rid)with
     |none=>rw[hr]at e;exact e
     |some m=>rw[hr]at e;exact absurd (by simp[ft]) (hn _ _ _ _ e.symm)
    |_=>rw[ho]at e;exact e
  exact e
 |makeSlice t n c=>
  refine U _ _ _ h λti e=>U _ _ _ e λte e=>?_;cases X:ti.isSlice with
  |false=>grind
  |true=>
   rw[X]at e;simp only[cond_true]at e |-;cases hb2:te.isSlice with
   |true=>
    rw[hb2]at e;simp only[cond_true]at e |-;refine U _ _ _ e λtr e=>?_;change GJ nx te tr (val ⟨ts,ops,g,st,nx⟩ n) (val ⟨ts,ops,g,st,nx⟩ c)=r at e;change GJ nx' te tr (val ⟨ts,ops,g,st,nx⟩ n) (val ⟨ts,ops,g,st,nx⟩ c)=r;unfold GJ at e |-;split at e
    rename_i a b _ _;cases ht:tr.tag with
    |none=>rw[ht]at e;exact e
    |some k=>
     grind [XQ,ft]
    exact e
   |false=>
   rw[hb2]at e;simp only[cond_false]at e |-;change mkS nx te (val ⟨ts,ops,g,st,nx⟩ n) (val ⟨ts,ops,g,st,nx⟩ c)=r at e;change mkS nx' te (val ⟨ts,ops,g,st,nx⟩ n) (val ⟨ts,ops,g,st,nx⟩ c)=r;unfold mkS at e |-;split at e
   rename_i a b _ _;cases ht:te.tag with
   |none=>rw[ht]at e;exact e
   |some k=>rw[ht]at e;exact absurd (by simp[ft]) (hn _ _ _ _ e.symm)
   exact e
 |slice t x lo hi m=>
  cases m with
  |some m=>
   refine U _ _ _ h λti e=>U _ _ _ e λte e=>?_;grind
  |none=>
   refine U _ _ _ h λti e=>U _ _ _ e λte e=>?_;rw[hvo,hvo];change mL ti te.size nx st.h _ _ _ (val ⟨ts,ops,g,st,nx⟩ x)=r at e;change mL ti te.size nx' st.h _ _ _ (val ⟨ts,ops,g,st,nx⟩ x)=r;unfold mL at e |-;split at e
   exact e
   ·rename_i id _;cases X:ti.isSlice with
    |false=>grind
    |true=>
     rw[X]at e;simp only[cond_true]at e |-;cases hv:(HR hi&&Lb ops)with
     |true=>grind
     |false=>
     rw[hv]at e;simp only[cond_false]at e |-;unfold XT at e |-;split at e
     rename_i k l _;cases X:Nat.beq te.size (aa k)with
     |false=>grind
     |true=>
      rw[X]at e;simp only[cond_true]at e |-;unfold XS at e |-;grind [ft]
     exact e
   exact e
 |makeMap t n=>
  cases n with
  |some n=>exact h
  |none=>
   refine U _ _ _ h λti e=>?_;change mmR nx ti.mkt ti.mvt=r at e;change mmR nx' ti.mkt ti.mvt=r;unfold mmR at e |-;grind [ft]
 |call c=>
  obtain⟨callee,args,tys⟩:=c;cases callee with
  |value f=>rw[<-h];show zu _ _=zu _ _;rw[W];rfl
  |invoke f m=>exact h
  |builtin b=>
   cases b <;>first|exact h|skip
   ·change (match tys.toList with| [t1,t2] =>aI ts t1 λti=>aI ts t2 λY=>aI ts ti.elem λte=>bif ti.isSlice&&Y.isSlice then mt te nx st.h (dx ⟨ts,ops,g,st,nx⟩ args.toList)else .bad|_=>.bad)=r at h;show(match tys.toList with| [t1,t2] =>aI ts t1 λti=>aI ts t2 λY=>aI ts ti.elem λte=>bif ti.isSlice&&Y.isSlice then mt te nx' st.h (dx ⟨ts,ops,g,st,nx'⟩ args.toList)else .bad|_=>.bad)=r;rw[W];split at h
    ·refine U _ _ _ h λti e=>U _ _ _ e λY e=>U _ _ _ e λte e=>?_;cases X:ti.isSlice&&Y.isSlice with
     |false=>grind
     |true=>
      rw[X]at e;simp only[cond_true]at e |-;have hR:∀ k b E l m,TH k nx b E l m=r->TH k nx' b E l m=r:=by
       intro k b E l m e;cases m with
       |none=>exact e
       |some m=>exact absurd (by grind [H9,ft]) (hn _ _ _ _ e.symm)
      have hGs:∀ k b id2 E l m,DL k nx b id2 E l m=r->DL k nx' b id2 E l m=r:=by
       intro k b id2 E l m e;cases m with
       |none=>exact e
       |some m=>exact absurd (by grind [H9,ft]) (hn _ _ _ _ e.symm)
      have hO:∀ E V o,vZ te nx E st.h V o=r->vZ te nx' E st.h V o=r:=by
       intro E V o e;cases o with
       |row k l=>
        grind [vZ]
       |_=>exact e
      have hT2:∀ V o,uU te nx st.h V o=r->uU te nx' st.h V o=r:=by
       intro V o e;cases o with
       |none=>exact e|some k=>exact hO [] V (.row k []) e
      generalize dx ⟨ts,ops,g,st,nx⟩ args.toList=l at e |-;unfold mt at e |-;split at e
      rename_i id id2;cases X:Nat.beq te.size 1&&Nat.beq (sz te.zero) 1&&Nat.ble 1 te.bytes&& !(Nat.beq id id2)with
      |false=>
       grind
      |true=>
       rw[X]at e;simp only[cond_true]at e |-;unfold DM at e |-;grind
      rename_i id2;cases X:Nat.beq te.size 1&&Nat.beq (sz te.zero) 1&&Nat.ble 1 te.bytes with
      |false=>grind
      |true=>
       rw[X]at e;simp only[cond_true]at e |-;unfold XM at e |-;grind
      grind
      grind
      grind
      grind
      exact e;exact e
    exact h
   rw[<-h];show(match tys.toList with| [t1] =>aI ts t1 λti=>aI ts ti.elem λte=>yK ti te st.h (dx ⟨ts,ops,g,st,nx'⟩ args.toList) |_=>.bad)=(match tys.toList with| [t1] =>aI ts t1 λti=>aI ts ti.elem λte=>yK ti te st.h (dx ⟨ts,ops,g,st,nx⟩ args.toList) |_=>.bad);rw[W];rw[<-h];show(match tys.toList with|t1::_=>aI ts t1 λti=>yL ti st.h (dx ⟨ts,ops,g,st,nx'⟩ args.toList) |_=>.bad)=(match tys.toList with|t1::_=>aI ts t1 λti=>yL ti st.h (dx ⟨ts,ops,g,st,nx⟩ args.toList) |_=>.bad);rw[W];rw[<-h];show(match tys.toList with| [t''] =>aI ts t'' λti=>tU ti st.h (dx ⟨ts,ops,g,st,nx'⟩ args.toList) |_=>.bad)=(match tys.toList with| [t''] =>aI ts t'' λti=>tU ti st.h (dx ⟨ts,ops,g,st,nx⟩ args.toList) |_=>.bad);rw[W];rw[<-h];show I9 _=I9 _;rw[W];rw[<-h];show I8 _=I8 _;rw[W]
 |build ty O=>grind [opS]
 |buildSlice ty n O=>
  refine U _ _ _ h λti e=>U _ _ _ e λte e=>?_;change GI (I7 ty ops g) nx te (bsS ti te n (iK ⟨ts,ops,g,st,nx⟩ O.toList))=r at e;show GI (I7 ty ops g) nx' te (bsS ti te n (iK ⟨ts,ops,g,st,nx'⟩ O.toList))=r;rw[hps];generalize bsS ti te n (iK ⟨ts,ops,g,st,nx⟩ O.toList)=o at e |-;unfold GI at e |-;grind [ft]
 |makeFunc fn first caps=>grind [opS]
 |range ty x=>
  refine U _ _ _ h λti e=>?_;change DO ti nx st.h (val ⟨ts,ops,g,st,nx⟩ x)=r at e;show DO ti nx' st.h (val ⟨ts,ops,g,st,nx'⟩ x)=r;rw[hv];generalize val ⟨ts,ops,g,st,nx⟩ x=s at e |-;cases s with
  |os id=>
   simp only[DO]at e |-;cases ho:aq st.h id with
   |mp kk vk l apJ=>
    grind [XU,ft]
   |_=>rw[ho]at e;exact e
  |_=>exact e
 |mapEntry ty m k=>
  refine U _ _ _ h λti e=>?_;change xS ti nx st.h (val ⟨ts,ops,g,st,nx⟩ k) (val ⟨ts,ops,g,st,nx⟩ m)=r at e;show xS ti nx' st.h (val ⟨ts,ops,g,st,nx'⟩ k) (val ⟨ts,ops,g,st,nx'⟩ m)=r;rw[hv,hv];generalize val ⟨ts,ops,g,st,nx⟩ m=s at e |-;cases s with
  |os id=>
   simp only[xS]at e |-;cases ho:aq st.h id with
   |mp kk vk l apJ=>
    rw[ho]at e;simp only[RG]at e |-;cases X:lz kk ti.mkt&&lz vk ti.mvt&&noE apJ with
    |false=>grind
    |true=>
     rw[X]at e;simp only[cond_true]at e |-;unfold RE at e |-;grind [ft]
   |_=>rw[ho]at e;exact e
  |_=>exact e
 |next it isS=>cases isS <;>exact h|entry it=>exact h|_=>exact h
theorem Eo (E:List Nat)(j:Nat):∀ (l:List Edge),(Ld E l).testBit j=true->∃ e∈l,Region.binds .any e=true/\(j=e.on\/((nth E e.on).getD 0).testBit j=true)
 | [],h=>by simp[Ld]at h
 |e::r,h=>by
  simp only[Ld]at h;cases O:Region.binds .any e with
  |false=>
   rw[O]at h;obtain⟨e',h1,h2⟩:=Eo E j r h;grind
  |true=>
   rw[O]at h;simp only[cond_true]at h;have h':(((nth E e.on).getD 0|||1<<< e.on) |||Ld E r).testBit j=true:=h;rw[Nat.testBit_or,Nat.testBit_or,alY,alY]at h';rcases h' with(h'|h') |h';grind
   refine⟨e,by simp,O,.inl ?_⟩;rw[Nat.testBit_shiftLeft,alt]at h';grind [Nat.testBit_one_eq_true_iff_self_eq_zero]
   obtain⟨e',h1,h2⟩:=Eo E j r h';grind
def Dn (ops:List Oper)(S:Nat->Prop):Prop:= ∀ (i:Nat) (o:Oper) (j:Nat),S i->ops[i]? =some o->pi o j=true->S j
theorem P4 {ops:List Oper}{S:Nat->Prop}(U:Dn ops S):∀ (l:List Oper) (E:List Nat),ops.drop E.length=l->(∀ i j,i<E.length->S i->((nth E i).getD 0).testBit j=true->S j)->
  ∀ i j,S i->so (AT l E) i j=true->S j
 | [],E,hd,V,i,j,hi,O=>by
  grind [gH,AT,so]
 |o::l,E,hd,V,i,j,hi,O=>by
  obtain⟨X,hd'⟩:=Ej hd;refine P4 U l (E++[Ld E o.after.toList]) (by grind) (λi j hlt hi O=>?_) i j hi O;rw[gH]at O;by_cases h:i<E.length
  rw[ant h]at O;exact V i j h hi (by grind [gH]);have:i=E.length:=by grind
  subst this;simp at O;obtain⟨e,h1,h2,Y⟩:=Eo E j _ O;have W:S e.on:=U _ o e.on hi X (by
   unfold pi;rw[amC];exact⟨e,h1,by simp[h2]⟩)
  grind [gH]
theorem JG{S:Nat->Prop}(E:Dn ops S){i j:Nat}(hi:S i)(O:so (AT ops []) i j=true):S j:=
 P4 E ops [] rfl (λi j h=>by simp at h) i j hi O
def Ord (ops:List Oper)(i j:Nat):Prop:=(j<i/\so (AT ops []) i j=true)\/(i<j/\so (AT ops []) j i=true)
theorem Ep {U:List Nat}{i:Nat}{x:Fp}:∀ (l:List Fp) (j:Nat),Le U i x j l=true->∀ (k:Nat) (y:Fp),l[k]? =some y->j+k≠i->tA x y=true->(j+k<i/\so U i (j+k)=true)\/(i<j+k/\so U (j+k) i=true)
 | [],j,_,k,y,E,_,_=>by simp at E
 |z::r,j,h,k,y,E,O,hc=>by
  simp only[Le,alt]at h;cases k with
  |zero=>
   simp at E;subst E;rw[amy]at O |-;have h1:=h.1;simp only[hc,alN,amU,alY,alt]at h1;rcases h1 with(h1|h1) |h1 <;>simp_all
  |succ k=>
   have:=Ep r (j+1) h.2 k y (by grind) (by omega) hc;grind
theorem Er {E:List Nat}{b:Nat}{all:List Fp}:∀ (l:List Fp) (i:Nat),PC E b all i l=true->∀ (k:Nat) (x:Fp),l[k]? =some x->Le E (i+k) x b all=true
 | [],i,_,k,x,O=>by simp at O
 |z::r,i,h,k,x,O=>by
  simp only[PC,alt]at h;cases k with
  |zero=>grind
  |succ k=>
   have:=Er r (i+1) h.2 k x (by grind);grind
theorem Sk (l:List Nat):tz l []=false:=by
 induction l with
 |nil=>rfl|cons a r E=>simp[tz,CH,E]
theorem uu {n:Nat}:∀ {l m:List Nat},n∈l->n∈m->tz l m=true
 |a::r,m,h1,h2=>by
  simp only[tz];rcases alD.1 h1 with rfl|h1;rw[(wG n m).2 h2];rfl;rw[uu h1 h2];cases CH a m <;>rfl
theorem H_:∀ {l:List Fp} {k:Nat} {x:Fp},HS l=true->l[k]? =some x->x.tc=[]/\x.wt=[]
 | [],k,x,_,E=>by simp at E
 |z::r,k,x,h,E=>by
  simp only[HS,alt,List.isEmpty_iff]at h;cases k with
  |zero=>grind
  |succ k=>exact H_ h.2 (by simpa using E)
theorem Es{b:Nat}{E:List Fp}(h:sp ops b E){i j:Nat}{x y:Fp}(hi:E[i]? =some x)(W:E[j]? =some y)(X:i≠j)(hc:tA x y=true):Ord ops (b+i) (b+j):=by
 unfold sp at h;cases V:HS E with
 |true=>
  obtain⟨Y,e2⟩:=H_ V W;grind [tA,Sk]
 |false=>
  rw[V]at h;have h1:=Er E b h i x hi;have h2:=Ep E b h1 j y W (by omega) hc;rcases h2 with⟨U,O⟩ | ⟨U,O⟩;exact .inl ⟨U,O⟩;exact .inr ⟨U,O⟩
theorem Et{c:Nat}(h:DP ops c=true){i:Nat}(hi:i<ops.length)(E:i≠c):(i<c/\so (AT ops []) c i=true)\/(c<i/\so (AT ops []) i c=true):=by
 have U:∀ (l:List Oper) (j:Nat),Jb (AT ops []) c j l=true->∀ k,k<l.length->(Nat.beq (j+k) c||(Nat.blt (j+k) c&&so (AT ops []) c (j+k)) ||(Nat.blt c (j+k)&&so (AT ops []) (j+k) c))=true:=by
  intro l;induction l with
  |nil=>grind
  |cons x r O=>
   intro j h k V;simp only[Jb,alt]at h;cases k with
   |zero=>exact h.1
   |succ k=>
    have:=O (j+1) h.2 k (by grind);grind
 have:=U ops 0 h i hi;simp_all
structure Fact (ts:Tis)(G:Cons)(ops:List Oper)(o:Oper)(st st2:St)(s:SV)(ups:List Up)(fp:Fp)(r:Dr):Prop where
 dr:jM G st.h st.h.length (opS ⟨ts,ops,o.guard,st,st.h.length⟩ o.op)=some r
 nxt:st2=St.put ⟨st.t,bf st.h ups⟩ o.dst s
 fp:fp=fpU o.op (fpO ⟨ts,ops,o.guard,st,st.h.length⟩ o.op) r.all ups
 plain:o.guard=none->r.c/\s=r.s/\ups=r.ups
 guarded:∀ g,o.guard=some g->(dR ops st.t ops.length g->r.c)/\((r.ups=ups/\s=.gd g.1 g.2 r.s/\(ups=[]\/¬gC ops st.t ops.length g))\/(ups=[]/\s=.gd g.1 g.2 r.s/\¬dR ops st.t ops.length g))
def Yd (ts:Tis)(G:Cons)(ops:List Oper)(K:St->Prop)(Z:Value->St->Prop)(e:Nat)(st:St):Prop:=
 (ops.length<=e/\K st)\/∃ o,ops[e]? =some o/\DP ops e=true/\PZ G ops o.dst st (λst'=>jQ ts G ops K Z (ops.drop (e+1)) (e+1) (e+1) [] st') Z o.guard (opS ⟨ts,ops,o.guard,st,st.h.length⟩ o.op)
structure apl (ts:Tis)(G:Cons)(ops:List Oper)(n m:Nat)(S:Nat->St)(s:Nat->SV)(ups:Nat->List Up)(fs:Nat->Fp)(R:Nat->Dr):Prop where
 fact:∀ i,i<m->∃ o,ops[n+i]? =some o/\Fact ts G ops o (S i) (S (i+1)) (s i) (ups i) (fs i) (R i)
section
variable {P:Program}{F:Nat->Prop}{own bo:Own}{w w':World}{ts:Tis}
variable {w0:Bs}{ro:Option Nat}{nd:Nat}{N n:Nat}{ops:List Oper}{st:St}{a:Act}{G:Cons}
theorem Sl (n:Nat)(s:SV)(o:Ob)(h:o∈aV n s):dI o=false:=by
 rcases(yV n s o h).1 with⟨_,_,rfl⟩ | ⟨_,_,_,rfl⟩ | ⟨_,_,rfl⟩ <;>rfl
variable {h:List Ob}
theorem Oi{bo:Own}(hp:Hp F own w h){nx:Nat}(hn:apX own h nx){s:SV}{u:Value}{ob:Ob}(hrow:aV 3 s=[ob]){F1:Nat->Prop}(hF1:(∀ b,F1 b↔df F own b)\/((∀ b,F1 b↔F b)/\jm 3 s=true))(X:Below w.heap.size w w')(Y:Handed F1 w bo w' s u):
  ∃ P1,Rel F P1 w' (jn 3 nx s) u/\Step F own w (bf h [(nx,ob)]) P1 w':=by
 have hFF:∀ b,F b->F1 b:=λb hf=>by
  rcases hF1 with h1| ⟨h1,_⟩;exact(h1 b).2 (.inl hf);grind
 have h0:∀ id hd,bo id=some hd->id=0:=λid hd e=>by
  have:=Y.hp.dom id hd e;grind
 let P1:Own:=λid=>if id=nx then bo 0 else own id
 have o1:∀ id hd,P1 id=some hd->(id≠nx/\own id=some hd)\/(id=nx/\bo 0=some hd):=λid hd e=>by
  grind
 have o2:∀ id hd,own id=some hd->P1 id=some hd:=λid hd e=>by
  simp only[P1];rw[if_neg (λh=>by rw[h,hn.none]at e;cases e)];exact e
 have o3:∀ id hd,bo id=some hd->P1 (id+nx)=some hd:=λid hd e=>by
  grind
 have fr:Fr { w:=w,own:=own} P1 w':=Fr.apM (λid hd e=>⟨hd,o2 id hd e,.refl _⟩) (λid hd b e E=>by
   rcases o1 id hd e with⟨_,e⟩ | ⟨_,e⟩;grind
   exact .inr (Y.fresh _ hd b e E)) (λb hbl _=>X.block b hbl) X.size X.os X.tape X.output
 have g:apx F own w P1 w':=fr.apD;have W:(∀ b,¬df F1 bo b->¬df F P1 b)\/jm 3 s=true:=by
  rcases hF1 with h1| ⟨_,h2⟩;left;rintro b hn (hf| ⟨id,hd,e,E⟩);exact hn (.inl (hFF b hf));rcases o1 id hd e with⟨_,e⟩ | ⟨_,e⟩;exact hn (.inl ((h1 b).2 (.inr ⟨id,hd,e,E⟩)));exact hn (.inr ⟨_,hd,e,E⟩);grind
 have hob:aq (aV 3 s) 0=ob:=by rw[hrow];rfl
 have hlen:nx< (bf h [(nx,ob)]).length:=by grind [bf,cB]
 have hle:h.length<=(bf h [(nx,ob)]).length:=by grind [bf,cB]
 refine⟨P1,?_,⟨λid hd e=>?_,λb hf=>alG (hp.aoY b hf) X.size,λid hd b e E=>?_,λi j hi hj b U O hb1 hb2=>?_,λid hd b e E=>?_,λid V=>?_⟩,fr,λid U O=>?_⟩;have:=Ef (F':=F) (P1:=P1) (m:=nx) o3 3 0 s u Y.val (W.imp (λhk c hc=>hk c λho=>hc (.inl ho)) id);grind
 rcases o1 id hd e with⟨_,e⟩ | ⟨rfl,_⟩;have:=hp.dom id hd e;omega;exact hlen;rcases o1 id hd e with⟨_,e⟩ | ⟨_,e⟩;exact hp.apart id hd b e E;exact λhf=>Y.hp.apart _ hd b e E (hFF b hf);rcases o1 i hi U with⟨l1,U⟩ | ⟨l1,U⟩ <;>rcases o1 j hj O with⟨l2,O⟩ | ⟨l2,O⟩;exact hp.inj i j hi hj b U O hb1 hb2;have:=hp.lt i hi b U hb1;have:=Y.fresh _ hj b O hb2;omega;have:=hp.lt j hj b O hb2;have:=Y.fresh _ hi b U hb1;omega;omega;rcases o1 id hd e with⟨_,e⟩ | ⟨_,e⟩;exact alG (hp.lt id hd b e E) X.size;exact Y.hp.lt _ hd b e E;simp only[bf]at V |-;rw[dF]at V |-;by_cases hlt:nx=id
 rw[if_pos hlt]at V |-;have hdd':dI (aq (aV 3 s) 0)=false:=by grind
 obtain⟨hd,U,O⟩:=Y.hp.obs _ hdd';obtain⟨q1,q2⟩:=yV 3 s _ (LF hdd');have e3:=o3 _ hd U;rw[alF,hlt]at e3;rw[hob]at O q1 q2;exact⟨hd,e3,O.ao_ q1 (W.imp (λh=>h) q2)⟩;rw[if_neg hlt]at V |-;obtain⟨hd,U,O⟩:=hp.obs id V;exact⟨hd,o2 id hd U,O.carry g.apz X.size λb E=>X.block b (hp.lt id hd b U E)⟩;simp only[P1];by_cases hid:id=nx
 subst hid;exfalso;simp only[bf]at O;rw[dF,if_pos rfl]at O;have:=Sl 3 s ob (by grind);grind
 grind
theorem Uk{G:Cons}(hG:aoI P G)(W:Hp F own w h){nx:Nat}(hn:apX own h nx){f:FuncId}{args:List SV}{vs:Array Value}(hr:api F own w args vs){c:Con}(hc:G.p f (args.map (gw h 6))=some c)(O:an c)
  (hres:args.all (dA 3)=true\/∀ s,dW c s->jm 3 s=true):
  (callFunc f vs).run P w=.ok (.enter f vs) w/\Calls P f vs w (λe w'=>(∃ s u,∃ P1:Ob->Own,dW c s/\e=.returned u/\∀ E,aV 3 s=[E]->Rel F (P1 E) w' (jn 3 nx s) u/\Step F own w (bf h [(nx,E)]) (P1 E) w')\/(∃ x,kY c x/\e=.panicked [{ v:=x,recovered:=false}]/\Below w.heap.size w w')):=by
 refine⟨(hG.p f).enter _ c hc vs w,?_⟩;have V:∀ {bo:Own} {w':World} {s:SV} {u:Value} {F1:Nat->Prop},((∀ b,F1 b↔df F own b)\/((∀ b,F1 b↔F b)/\jm 3 s=true))->Below w.heap.size w w'->Handed F1 w bo w' s u->∃ P1:Ob->Own,∀ E,aV 3 s=[E]->Rel F (P1 E) w' (jn 3 nx s) u/\Step F own w (bf h [(nx,E)]) (P1 E) w':=λ{bo w' s u F1} h1 h2 h3=>by
  refine Classical.axiomOfChoice (r:=λE P1=>aV 3 s=[E]->Rel F P1 w' (jn 3 nx s) u/\Step F own w (bf h [(nx,E)]) P1 w') λE=>?_;by_cases Y:aV 3 s=[E]
  obtain⟨P1,q⟩:=Oi W hn Y h1 h2 h3;grind
  simp_all
 rcases hres with U|hsc;have hpf:∀ (j:Nat) (s:SV),args[j]? =some s->PF s:=λj s X=>by
  rw[al0]at U;exact gT 3 s (U s (alH X))
 refine((hG.p f).calls _ c hc O (df F own) w vs (λb hb=>?_) ⟨by simpa using hr.1,λj s X=>?_⟩).mono ?_;rcases hb with hf| ⟨id,hd,e,hbb⟩;exact W.aoY b hf;exact W.lt id hd b e hbb;obtain⟨x,hx,rfl⟩:=ou X;exact Uf 6 x _ (hpf j x hx) (hr.2 j x hx);rintro e w' (⟨s,u,bo,h1,h2,h3,h4⟩ |hp');obtain⟨P1,q⟩:=V (.inl λb=>aoO) h4 h3;exact .inl ⟨s,u,P1,h1,h2,q⟩;grind
 refine((hG.p f).calls _ c hc O F w vs W.aoY ⟨by simpa using hr.1,λj s X=>?_⟩).mono ?_;obtain⟨x,hx,rfl⟩:=ou X;exact zN W 6 x _ (hr.2 j x hx);rintro e w' (⟨s,u,bo,h1,h2,h3,h4⟩ |hp');obtain⟨P1,q⟩:=V (.inr ⟨λb=>aoO,hsc s h1⟩) h4 h3;exact .inl ⟨s,u,P1,h1,h2,q⟩;grind
theorem aaz(hG:aoI P G)(hp:Hp F own w h){nx:Nat}(hn:apX own h nx){o:Oper}{run:Result Next}{r0:OR}{r:Dr}(h0:Lw P F own w h run r0)(E:jM G h nx r0=some r)(hc:r.c):
  r.a/\(∃ u bo w',Rel F bo w' r.s u/\Step F own w (bf h r.ups) bo w')/\
  ∀ (K:Act->World->Prop) (Q:Exit->Act->World->Prop),(∀ u bo w',Rel F bo w' r.s u->Step F own w (bf h r.ups) bo w'->K (a.put o.dst u) w')->o.uponIn (rd ro) nd P a K Q run:=by
 have V:∀ {w'},Below w.heap.size w w'->Step F own w h own w':=λhb=>⟨hp.below hb,El own hb,λ_ e _=>e⟩;cases r0 with
 |val s=>
  simp only[jM,alx]at E;subst E;obtain⟨u,W,U⟩:=h0;exact⟨trivial,⟨u,own,w,U,V (Below.refl _ _)⟩,λK Q X=>fv (.inl W) (X u own w U (V (Below.refl _ _)))⟩
 |chk c s=>
  simp only[jM,alx]at E;subst E;obtain⟨u,W,U⟩:=h0 hc;exact⟨trivial,⟨u,own,w,U,V (Below.refl _ _)⟩,λK Q X=>fv (.inl W) (X u own w U (V (Below.refl _ _)))⟩
 |asm c s=>
  simp only[jM,alx]at E;subst E;obtain⟨ha,u,W,U⟩:=h0;exact⟨ha,⟨u,own,w,U,V (Below.refl _ _)⟩,λK Q X=>fv (.inl W) (X u own w U (V (Below.refl _ _)))⟩
 |apI s=>
  simp only[jM,alx]at E;subst E;obtain⟨u,cs,ty,W,U⟩:=h0;exact⟨trivial,⟨u,own,_,U,V (qB _ _)⟩,λK Q X=>fv (.inl W) (X u own _ U (V (qB _ _)))⟩
 |eff c ac ups s=>
  simp only[jM,alx]at E;subst E;obtain⟨ha,u,bo,w',W,U,e3⟩:=h0 hc;exact⟨ha,⟨u,bo,w',U,e3⟩,λK Q X=>fv W (X u bo w' U e3)⟩
 |call f args=>
  obtain⟨vs,W,U⟩:=h0;simp only[jM]at E;cases hcc:G.p f (args.map (gw h 6))with
  |none=>rw[hcc]at E;cases E
  |some cc=>
   rw[hcc]at E;cases cc with
   |rel=>cases E|may=>cases E
   |det p s=>
    simp only[drC]at E;have hrow:∀ (O:List Ob),aV 3 s=O->drR (args.all (dA 3)) (args.flatMap (kB h 6)) nx p s O=some r->
      ((args.all (dA 3) ||jm 3 s)=true/\((O=[]/\r=⟨p,True,s,[],args.flatMap (kB h 6)⟩)\/∃ ob,O=[ob]/\r=⟨p,True,jn 3 nx s,[(nx,ob)],args.flatMap (kB h 6)⟩)):=λO _ E=>by
     match O,E with
     | [],E=>
      grind [drR]
     | [ob],E=>
      grind [drR]
     |_::_::_,E=>simp[drR]at E
    obtain⟨hb,hcase⟩:=hrow _ rfl E;rw[alY]at hb;have hres:args.all (dA 3)=true\/∀ s',dW (.det p s) s'->jm 3 s'=true:=hb.imp id (λh s' hs'=>by cases hs';exact h);rcases hcase with⟨hz,rfl⟩ | ⟨ob,hz,rfl⟩
    ·obtain⟨k1,k2⟩:=Jy (P:=P) hG hp W hcc hc hres;have key:∀ {e:Ending} {w':World},((∃ s' u P1,dW (.det p s) s'/\e=.returned u/\Hp F P1 w' (h++aV 3 s')/\Fr { w:=w,own:=own} P1 w'/\Rel F P1 w' (jn 3 h.length s') u/\Below w.heap.size w w'/\∀ id,id<h.length->P1 id=own id)\/(∃ x,kY (.det p s) x/\e=.panicked [{ v:=x,recovered:=false}]/\Below w.heap.size w w'))->
       ∃ u P1,e=.returned u/\Rel F P1 w' s u/\Step F own w h P1 w':=by
      rintro e w' (⟨s',u,P1,rfl,rfl,Y,m3,m4,m5,m6⟩ | ⟨x',m1,_⟩);rw[hz,alT]at Y;rw[Cj 3 _ _ hz]at m4;refine⟨u,P1,rfl,m4,Y,m3,λid W U=>?_⟩;cases ho:P1 id with
      |none=>rfl|some hd=>rw[m6 id (Y.dom id hd ho),W]at ho;cases ho
      exact m1.elim
     refine⟨trivial,?_,λK Q X=>?_⟩;obtain⟨e,w',fr,hR,_⟩:=k2 [];obtain⟨u,P1,_,m1,Y⟩:=key hR;exact⟨u,P1,w',m1,Y⟩;rw[U,k1];refine⟨λh=>(by cases h),?_⟩;refine CallsIn.mono (ov k2) λe w' hR=>?_;obtain⟨u,P1,rfl,m1,Y⟩:=key hR;exact X u P1 w' m1 Y
    obtain⟨k1,k2⟩:=Uk (P:=P) hG hp hn W hcc hc hres;have key:∀ {e:Ending} {w':World},((∃ s' u,∃ P1:Ob->Own,dW (.det p s) s'/\e=.returned u/\∀ ob,aV 3 s'=[ob]->Rel F (P1 ob) w' (jn 3 nx s') u/\Step F own w (bf h [(nx,ob)]) (P1 ob) w')\/(∃ x,kY (.det p s) x/\e=.panicked [{ v:=x,recovered:=false}]/\Below w.heap.size w w'))->
      ∃ u P1,e=.returned u/\Rel F P1 w' (jn 3 nx s) u/\Step F own w (bf h [(nx,ob)]) P1 w':=by
     rintro e w' (⟨s',u,P1,rfl,rfl,Y⟩ | ⟨x',m1,_⟩);grind
     exact m1.elim
    refine⟨trivial,?_,λK Q X=>?_⟩;obtain⟨e,w',fr,hR,_⟩:=k2 [];obtain⟨u,P1,_,m1,Y⟩:=key hR;grind
    rw[U,k1];refine⟨λh=>(by cases h),?_⟩;refine CallsIn.mono (ov k2) λe w' hR=>?_;obtain⟨u,P1,rfl,m1,Y⟩:=key hR;grind
 |bad=>grind [jM]|_=>simp[jM]at E
end
theorem yW (ups:List Up):∀ h:List Ob,h.length<=(bf h ups).length:=by
 induction ups with
 |nil=>intro h;exact alw _
 |cons x r E=>
  intro h;obtain⟨id,o⟩:=x;refine alQ ?_ (E (cF h id o));grind [cB]
theorem Ia {id:Nat}:∀ {ups:List Up} {h:List Ob},id∈ft ups->id< (bf h ups).length
 |(i,o)::r,h,O=>by
  simp only[ft,alD]at O;simp only[bf];by_cases E:id∈ft r
  exact Ia E;have e:id=i:=O.resolve_right E;subst e;refine alG ?_ (yW r _);grind [cB]
theorem pz {id:Nat}:∀ {ups:List Up} {h:List Ob},id ∉ ft ups->aq (bf h ups) id=aq h id
 | [],h,_=>rfl
 |(i,o)::r,h,E=>by
  simp only[ft,alD,not_or]at E;simp only[bf];rw[pz E.2,dF,if_neg (λe=>E.1 e.symm)]
theorem Ib {id:Nat}:∀ {ups:List Up} {h h':List Ob},id∈ft ups->aq (bf h ups) id=aq (bf h' ups) id
 |(i,o)::r,h,h',O=>by
  simp only[ft,alD]at O;simp only[bf];by_cases E:id∈ft r
  exact Ib E;simp_all [pz,dF]
theorem Ul {cx:Cx}(E:aq cx.st.h cx.nx=.dead){op:Op}(U:zw op=true){c a:Prop}{ups:List Up}{s:SV}(h:opS cx op=.eff c a ups s)(id:Nat):ap6 (aq cx.st.h id) (aq (bf cx.st.h ups) id):=by
 cases op with
 |mapEntry t m k=>
  simp only[opS]at h;unfold aI at h;cases Y:cx.ts t with
  |none=>grind
  |some ti=>
   rw[Y]at h;change xS ti cx.nx cx.st.h (val cx k) (val cx m)=_ at h;unfold xS at h;split at h
   rename_i i _;unfold RG at h;split at h
   rename_i kk O l V X;cases W:lz kk ti.mkt&&lz O ti.mvt&&noE V with
   |false=>grind
   |true=>
    rw[W]at h;simp only[cond_true]at h;unfold RE at h;split at h
    cases h;simp only[bf];rw[dF];split
    rename_i e;subst e;exact .inr (.inl ⟨kk,O,l,_,_,X,rfl⟩);rw[dF];split
    rename_i e;subst e;exact .inr (.inr ⟨.inl E,.inr rfl⟩);exact .refl _;cases h
   cases h;cases h
 |_=>cases U
theorem JH {o:Op}(O:zw o=true){cx:Cx}{f:FuncId}{args:List SV}(h:opS cx o=.call f args):False:=by
 cases o with
 |mapEntry t m x=>
  simp only[opS]at h;unfold aI at h;cases W:cx.ts t with
  |none=>grind
  |some ti=>
   rw[W]at h;change xS ti cx.nx cx.st.h (val cx x) (val cx m)=_ at h;unfold xS at h;split at h
   rename_i i _;unfold RG at h;split at h
   rename_i kk V l U X;cases E:lz kk ti.mkt&&lz V ti.mvt&&noE U with
   |false=>grind
   |true=>
    rw[E]at h;simp only[cond_true]at h;unfold RE at h;grind
   cases h;cases h
 |_=>cases O
theorem Um {G:Cons}{h:List Ob}{nx:Nat}{E:OR}{r:Dr}(O:jM G h nx E=some r)(U:∀ c a ups s,E≠ .eff c a ups s)(hc:∀ f args,E≠ .call f args):r.ups=[]:=by
 cases E with
 |eff c a ups s=>grind|call f args=>grind
 |_=>simp only[jM]at O;first|(cases O;rfl) |cases O
theorem Oj {ts:Tis}{G:Cons}{ops:List Oper}{K:St->Prop}{Z:Value->St->Prop}{o:Oper}{rest:List Oper}{i b:Nat}{E:List Fp}{st:St}(h:jQ ts G ops K Z (o::rest) i b E st):
  (∃ r,jM G st.h st.h.length (opS ⟨ts,ops,o.guard,st,st.h.length⟩ o.op)=some r/\
   (o.guard=none->r.c/\(r.a->jQ ts G ops K Z rest (i+1) b (E++[fpU o.op (fpO ⟨ts,ops,o.guard,st,st.h.length⟩ o.op) r.all r.ups]) (St.put ⟨st.t,bf st.h r.ups⟩ o.dst r.s)))/\
   (∀ g,o.guard=some g->(dR ops st.t ops.length g->r.c)/\((r.ups=[]/\jQ ts G ops K Z rest (i+1) b (E++[fpU o.op (fpO ⟨ts,ops,o.guard,st,st.h.length⟩ o.op) r.all []]) (st.put o.dst (.gd g.1 g.2 r.s)))\/
    (¬ (dR ops st.t ops.length g/\gC ops st.t ops.length g)/\(dR ops st.t ops.length g->r.a->jQ ts G ops K Z rest (i+1) b (E++[fpU o.op (fpO ⟨ts,ops,o.guard,st,st.h.length⟩ o.op) r.all r.ups]) (St.put ⟨st.t,bf st.h r.ups⟩ o.dst (.gd g.1 g.2 r.s)))/\
     (gC ops st.t ops.length g->jQ ts G ops K Z rest (i+1) b (E++[fpU o.op (fpO ⟨ts,ops,o.guard,st,st.h.length⟩ o.op) r.all []]) (st.put o.dst (.gd g.1 g.2 r.s)))))))\/
  (sp ops b E/\DP ops i=true/\PZ G ops o.dst st (λst'=>jQ ts G ops K Z rest (i+1) (i+1) [] st') Z o.guard (opS ⟨ts,ops,o.guard,st,st.h.length⟩ o.op)):=by
 simp only[jQ]at h;cases O:o.guard with
 |none=>
  rw[O]at h;simp only at h;cases hd:jM G st.h st.h.length (opS ⟨ts,ops,none,st,st.h.length⟩ o.op)with
  |none=>rw[hd]at h;exact .inr h
  |some r=>
   rw[hd]at h;exact .inl ⟨r,rfl,λ_=>h,λg e=>by cases e⟩
 |some g=>
  rw[O]at h;simp only at h;cases hd:jM G st.h st.h.length (opS ⟨ts,ops,some g,st,st.h.length⟩ o.op)with
  |none=>rw[hd]at h;exact .inr h
  |some r=>
   grind [ww,drG]
section
variable {P:Program}{F:Nat->Prop}{own bo:Own}{w w':World}{ts:Tis}
variable {w0:Bs}{ro:Option Nat}{nd:Nat}{N n:Nat}{ops:List Oper}{st:St}{a:Act}{G:Cons}
def P5 {nx:Nat}{E:Nat->Prop}(V:ts.ok P)(hi:apo F w0 N ops E own st a w)(W:apX own st.h nx){o:Oper}(O:GOk ops a o.guard)(U:∀ k c,o.guard=some (k,c)->E k/\mV ops k):
  Lw P F own w st.h ((execOp a.eval o).run P w) (opS ⟨ts,ops,o.guard,st,nx⟩ o.op):=
 N7 (P:=P) (ts:=ts) (ops:=ops) (g:=o.guard) (t:=st.t) (h:=st.h) (nx:=nx) V hi.hp W (a:=a) (o:=o) (Jt hi O U) (λc x y _=>⟨λhc=>xv hi O U c x true hc,λhc=>xv hi O U c y false hc⟩)
theorem Ok {α:Type}(f:Nat->α)(m:Nat):(List.range (m+1)).map f=f 0::(List.range m).map (λi=>f (i+1)):=by
 rw[List.range_succ_eq_map];simp_all
theorem sim (hts:ts.ok P)(hG:aoI P G)(hr:ROk N ops){K:St->Prop}{Z:Value->St->Prop}:∀ (rest:List Oper) (n:Nat) (own:Own) (st:St) (a:Act) (w:World) (b:Nat) (V:List Fp),ops.drop n=rest->apo F w0 N ops (· <n) own st a w->jQ ts G ops K Z rest n b V st->
  ∃ (m:Nat) (S:Nat->St) (s:Nat->SV) (ups:Nat->List Up) (fs:Nat->Fp) (R:Nat->Dr),S 0=st/\apl ts G ops n m S s ups fs R/\sp ops b (V++(List.range m).map fs)/\Yd ts G ops K Z (n+m) (S m)
 | [],n,own,st,a,w,b,V,hd,hi,Y=>by
  have hn:ops.length<=n:=by
   simp_all
  exact⟨0,λ_=>st,λ_=>.any,λ_=>[],λ_=>⟨[],[],[],[],[]⟩,λ_=>⟨True,True,.any,[],[]⟩,rfl,⟨λi h=>by omega⟩,by simpa using Y.1,.inl ⟨hn,Y.2⟩⟩
 |o::rest,n,own,st,a,w,b,V,hd,hi,Y=>by
  obtain⟨X,hd'⟩:=Ej hd;have E:∀ j b,o.guard=some (j,b)->j<n:=λj b e=>hr.lt n o j b X e;rcases Oj Y with⟨r,h1,h2,h3⟩ | ⟨h1,h2,h3⟩
  ·
   have U:∀ (s:SV) (ups:List Up) (bo:Own) (a':Act) (w':World),(o.guard=none->r.c/\s=r.s/\ups=r.ups)->(∀ g,o.guard=some g->(dR ops st.t ops.length g->r.c)/\((r.ups=ups/\s=.gd g.1 g.2 r.s/\(ups=[]\/¬gC ops st.t ops.length g))\/(ups=[]/\s=.gd g.1 g.2 r.s/\¬dR ops st.t ops.length g)))->
     apo F w0 N ops (· <n+1) bo (St.put ⟨st.t,bf st.h ups⟩ o.dst s) a' w'->jQ ts G ops K Z rest (n+1) b (V++[fpU o.op (fpO ⟨ts,ops,o.guard,st,st.h.length⟩ o.op) r.all ups]) (St.put ⟨st.t,bf st.h ups⟩ o.dst s)->
     ∃ (m:Nat) (S:Nat->St) (s:Nat->SV) (ups:Nat->List Up) (fs:Nat->Fp) (R:Nat->Dr),S 0=st/\apl ts G ops n m S s ups fs R/\sp ops b (V++(List.range m).map fs)/\Yd ts G ops K Z (n+m) (S m):=by
    intro s ups bo a' w' q1 q2 q3 q4;obtain⟨m,S,s',ups',fs,R,e0,e1,e2,e3⟩:=sim hts hG hr rest (n+1) bo _ a' w' b _ hd' q3 q4;refine⟨m+1,λi=>match i with|0=>st|i+1=>S i,λi=>match i with|0=>s|i+1=>s' i,λi=>match i with|0=>ups|i+1=>ups' i,λi=>match i with|0=>fpU o.op (fpO ⟨ts,ops,o.guard,st,st.h.length⟩ o.op) r.all ups|i+1=>fs i,λi=>match i with|0=>r|i+1=>R i,rfl,⟨λi hi=>?_⟩,?_,?_⟩;cases i with
    |zero=>exact⟨o,X,⟨h1,e0,rfl,q1,q2⟩⟩
    |succ i=>
     obtain⟨o',k1,k2⟩:=e1.fact i (by omega);grind
    grind [Ok]
    grind
   by_cases W:GOk ops a o.guard
   ·have hrun:=P5 hts hi hi.hp.nx W (λk c e=>⟨E k c e,n,o,c,X,e⟩);have hc:r.c:=by
     cases O:o.guard with
     |none=>grind
     |some g=>exact(h3 g O).1 (ur hi n (λ_ _ _ _ _ _ _ _=>rfl) hr.lt _ g (E g.1 g.2 O) (E g.1 g.2 O) ⟨n,o,g.2,X,O⟩ (by grind))
    obtain⟨ha,⟨u,bo,w',k1,k2⟩,_⟩:=aaz (ro:=none) (nd:=0) (a:=a) (o:=o) hG hi.hp hi.hp.nx hrun h1 hc;have hstep:=hi.ap1 hr (tG n) (amw n) X E W k2.hp k2.fr k1;cases O:o.guard with
    |none=>exact U r.s r.ups bo _ w' (λ_=>⟨hc,rfl,rfl⟩) (λg e=>by grind) hstep.1 ((h2 O).2 ha)
    |some g=>
     have h3':=h3 g O;rcases h3'.2 with⟨e0,Y⟩ | ⟨nb,hP,_⟩;refine U (.gd g.1 g.2 r.s) [] bo (a.put o.dst u) w' (λe=>by grind) (λg' e=>by grind) ?_ Y;grind
     have hPp:=ur hi n (λ_ _ _ _ _ _ _ _=>rfl) hr.lt ops.length g (E g.1 g.2 O) (E g.1 g.2 O) ⟨n,o,g.2,X,O⟩ (by grind);exact U (.gd g.1 g.2 r.s) r.ups bo (a.put o.dst u) w' (λe=>by grind) (λg' e=>by grind) (hstep.2 g O) (hP hPp ha)
   cases O:o.guard with
   |none=>exact absurd (by rw[O];trivial) W
   |some g=>
    have h3':=h3 g O;rcases h3'.2 with⟨e0,Y⟩ | ⟨nb,_,hN⟩;exact U (.gd g.1 g.2 r.s) [] own _ w (λe=>by grind) (λg' e=>by grind) (hi.skip hr (tG n) (amw n) X E W O) Y;have hNn:=A5 hi ops.length g (E g.1 g.2 O) ⟨n,o,g.2,X,O⟩ (by grind);exact U (.gd g.1 g.2 r.s) [] own _ w (λe=>by grind) (λg' e=>by grind) (hi.skip hr (tG n) (amw n) X E W O) (hN hNn)
  ·
   exact⟨0,λ_=>st,λ_=>.any,λ_=>[],λ_=>⟨[],[],[],[],[]⟩,λ_=>⟨True,True,.any,[],[]⟩,rfl,⟨λi h=>by omega⟩,by grind,.inr ⟨o,X,h2,by grind⟩⟩
variable {b m:Nat}{S:Nat->St}{s:Nat->SV}{ups:Nat->List Up}{fs:Nat->Fp}{R:Nat->Dr}
theorem aaA (st:St)(d:Option Nat)(s:SV):(st.put d s).h=st.h:=by cases d <;>rfl
theorem Ol (st:St)(d:Option Nat)(s:SV)(t:Nat):lk t (st.put d s).t=if d=some t then s else lk t st.t:=by
 cases d with
 |none=>rfl
 |some d=>
  show lk t ((d,s)::st.t)=_;simp_all [pw]
theorem apl.hstep (E:apl ts G ops b m S s ups fs R){i:Nat}(hi:i<m):(S (i+1)).h=bf (S i).h (ups i):=by
 obtain⟨o,_,f⟩:=E.fact i hi;rw[f.nxt,aaA]
theorem apl.len (E:apl ts G ops b m S s ups fs R){i:Nat}:∀ {j:Nat},i<=j->j<=m->(S i).h.length<=(S j).h.length
 |0,h,_=>by
   grind
 |j+1,h,hj=>by
  by_cases e:i=j+1
  grind
  refine alQ (apl.len E (j:=j) (by omega) (by omega)) ?_;rw[E.hstep (by omega)];exact yW _ _
theorem apl.same (E:apl ts G ops b m S s ups fs R){id i:Nat}:∀ {j:Nat},i<=j->j<=m->(∀ k,i<=k->k<j->id ∉ ft (ups k))->aq (S i).h id=aq (S j).h id
 |0,h,_,_=>by
   grind
 |j+1,h,hj,hk=>by
  by_cases e:i=j+1
  subst e;rfl;rw[apl.same E (j:=j) (by omega) (by omega) (λk h1 h2=>hk k h1 (by omega)),E.hstep (by omega),pz (hk j (by omega) (by omega))]
theorem apl.like (V:apl ts G ops b m S s ups fs R){id i:Nat}:∀ {j:Nat},i<=j->j<=m->(∀ k,i<=k->k<j->id∈(fs k).tc->False)->ap6 (aq (S i).h id) (aq (S j).h id)
 |0,h,_,_=>by
   have:i=0:=by omega
   subst this;exact .refl _
 |j+1,h,hj,hk=>by
  by_cases e:i=j+1
  subst e;exact .refl _;refine(apl.like V (j:=j) (by omega) (by omega) (λk h1 h2=>hk k h1 (by omega))).trans ?_;obtain⟨o,ho,f⟩:=V.fact j (by omega);rw[V.hstep (by omega)];by_cases W:id∈ft (ups j)
  have U:=hk j (by omega) (by omega);rw[f.fp]at U;unfold fpU at U;cases X:zw o.op with
  |false=>grind
  |true=>
   have e3:ups j=[]\/ups j=(R j).ups:=by
    cases Y:o.guard with
    |none=>exact .inr (f.plain Y).2.2
    |some g=>
     rcases(f.guarded g Y).2 with⟨e,_⟩ | ⟨e,_⟩ <;>grind
   rcases e3 with e3|e3;grind [ft]
   have E:=f.dr;cases O:opS ⟨ts,ops,o.guard,S j,(S j).h.length⟩ o.op with
   |eff c a' ups' s'=>
    rw[O]at E;simp only[jM,alx]at E;rw[e3,<-E];exact Ul (mT (alw _)) X O id
   |_=>
    rw[O]at E;rw[e3,Um E (λ_ _ _ _ e=>by cases e) (λf args e=>JH X (O.trans e))]at W;simp[ft]at W
  rw[pz W];exact .refl _
end
variable {x y:Fp}
theorem LL{id:Nat}(h1:id∈x.tc\/id∈x.wt)(h2:id∈y.tc\/id∈y.wt):tA x y=true:=by
 grind [tA,uu]
theorem Uo{id:Nat}(h1:id∈x.rd)(h2:id∈y.tc\/id∈y.wt):tA x y=true:=by
 grind [tA,uu]
theorem Uq{id:Nat}(h1:id∈x.wk)(h2:id∈y.tc):tA x y=true:=by
 grind [tA,uu]
theorem Sm{id:Nat}(h1:id∈x.all)(h2:id∈y.tc\/id∈y.wt):tA x y=true:=by
 grind [tA,uu]
section
variable {P:Program}{F:Nat->Prop}{own bo:Own}{w w':World}{ts:Tis}
variable {w0:Bs}{ro:Option Nat}{nd:Nat}{N n:Nat}{ops:List Oper}{st:St}{a:Act}{G:Cons}
variable {b m:Nat}{S:Nat->St}{s:Nat->SV}{ups:Nat->List Up}{fs:Nat->Fp}{R:Nat->Dr}
theorem apl.aqp (E:apl ts G ops b m S s ups fs R){i id:Nat}(hi:i<m)(h:id∈ft (ups i)):id∈(fs i).tc\/id∈(fs i).wt:=by
 obtain⟨o,_,f⟩:=E.fact i hi;rw[f.fp];grind [fpU]
theorem apl.aqK (E:apl ts G ops b m S s ups fs R){i id:Nat}(hi:i<m)(h:id∈(fs i).tc):id∈ft (ups i):=by
 obtain⟨o,_,f⟩:=E.fact i hi;rw[f.fp]at h;grind [fpU]
theorem apl.lt (E:apl ts G ops b m S s ups fs R){i id:Nat}(hi:i<m)(h:id∈ft (ups i)):id< (S (i+1)).h.length:=by
 rw[E.hstep hi];exact Ia h
theorem apl.lk (E:apl ts G ops b m S s ups fs R)(t:Nat):∀ k,k<=m->(∃ (j:Nat) (q:Oper),j<k/\ops[b+j]? =some q/\q.dst=some t/\Sx.lk t (S k).t=s j)\/((∀ (j:Nat) (q:Oper),j<k->ops[b+j]? =some q->q.dst≠some t)/\Sx.lk t (S k).t=Sx.lk t (S 0).t)
 |0,_=>.inr ⟨λj q h=>by omega,rfl⟩
 |k+1,hk=>by
  obtain⟨o,U,f⟩:=E.fact k (by omega);have O:Sx.lk t (S (k+1)).t=if o.dst=some t then s k else Sx.lk t (S k).t:=by rw[f.nxt,Ol]
  by_cases hd:o.dst=some t
  grind
  rw[if_neg hd]at O;rcases apl.lk E t k (by omega)with⟨j,q,h1,h2,W,V⟩ | ⟨h1,h2⟩ <;>grind
structure apU (F:Nat->Prop)(w0:Bs)(N:Nat)(ops:List Oper)(b m:Nat)(S:Nat->St)(s:Nat->SV)(ups:Nat->List Up)(listed:Array Bool)(own:Own)(st:St)(a:Act)(w:World):Prop where
 inv:apo F w0 N ops (λk=>listed[k]? =some true) own st a w
 size:listed.size=ops.length
 low:∀ k,k<b->k<ops.length->listed[k]? =some true
 high:∀ k,b+m<=k->¬listed[k]? =some true
 put:∀ (k:Nat) (q:Oper) (d:Nat),k<m->listed[b+k]? =some true->ops[b+k]? =some q->q.dst=some d->lk d st.t=s k
 old:∀ t,(∀ (k:Nat) (q:Oper),k<m->listed[b+k]? =some true->ops[b+k]? =some q->q.dst≠some t)->lk t st.t=lk t (S 0).t
 closed:Dn ops (λk=>listed[k]? =some true)
 heap:∀ id,∃ p,p<=m/\(∀ k,k<m->id∈ft (ups k)->(listed[b+k]? =some true↔k<p))/\aq st.h id=aq (S p).h id
 dom:∀ id,own id=none\/id< (S 0).h.length\/∃ k,k<m/\listed[b+k]? =some true/\id∈ft (ups k)
variable {listed:Array Bool}
theorem zP{k:Nat}(h:listed.getD k true=false):listed[k]? =some false:=by
 simp only[alW]at h;grind
theorem LM{n:Nat}(E:listed[n]? =some false)(k:Nat):(listed.setIfInBounds n true)[k]? =some true↔listed[k]? =some true\/k=n:=by
 grind
theorem Ur {o:Oper}{n:Nat}(h:Operand.tmp n∈o.op.operands.toList):n∈o.looksAt ops.toArray:=by
 grind [Oper.looksAt]
variable {listed:Array Bool}
variable {k:Nat}{o:Oper}
theorem apU.order(hi:apU F w0 N ops b m S s ups listed own st a w)(ho:ops[b+k]? =some o)(Y:listed[b+k]? =some false)(hw:∀ j,pi o j=true->listed[j]? =some true){j:Nat}(V:j≠k)(E:Ord ops (b+k) (b+j)):
  (j<k/\listed[b+j]? =some true)\/(k<j/\¬listed[b+j]? =some true):=by
 rcases E with⟨h1,h2⟩ | ⟨h1,h2⟩;left;refine⟨by omega,?_⟩;have:=JG (ops:=ops) (S:=λi=>listed[i]? =some true\/i=b+k) (λi q X O hq U=>?_) (.inr rfl) h2;grind
 rcases O with O|rfl;exact .inl (hi.closed i q X O hq U);grind
 right;refine⟨by omega,λW=>?_⟩;have:=JG hi.closed W h2;grind
theorem apU.obj(hi:apU F w0 N ops b m S s ups listed own st a w)(O:apl ts G ops b m S s ups fs R)(hk:k<m)(W:listed[b+k]? =some false){id:Nat}
  (X:∀ j,j<m->j≠k->id∈ft (ups j)->(j<k/\listed[b+j]? =some true)\/(k<j/\¬listed[b+j]? =some true)):aq (S k).h id=aq st.h id:=by
 obtain⟨p,h1,h2,Y⟩:=hi.heap id;rw[Y];have hnk:¬listed[b+k]? =some true:=by grind
 by_cases E:p<=k
 refine(O.same E (by omega) λj U q2 V=>?_).symm;grind
 refine O.same (by omega) h1 λj U q2 V=>?_;grind
theorem apU.arz(hi:apU F w0 N ops b m S s ups listed own st a w)(E:apl ts G ops b m S s ups fs R)(hk:k<m)(hni:listed[b+k]? =some false){id:Nat}
  (V:∀ j,j<m->j≠k->id∈(fs j).tc->(j<k/\listed[b+j]? =some true)\/(k<j/\¬listed[b+j]? =some true)):ap6 (aq (S k).h id) (aq st.h id):=by
 obtain⟨p,h1,h2,Y⟩:=hi.heap id;rw[Y];have hnk:¬listed[b+k]? =some true:=by grind
 by_cases U:p<=k
 refine(E.like U (by omega) λj q1 X O=>?_).symm;rcases V j (by omega) (by omega) O with⟨_,W⟩ | ⟨h,_⟩;have:=(h2 j (by omega) (E.aqK (by omega) O)).1 W;omega;omega;refine E.like (by omega) h1 λj q1 X O=>?_;have W:=(h2 j (by omega) (E.aqK (by omega) O)).2 X;grind
theorem apU.reads(hd:DOk ops)(hi:apU F w0 N ops b m S s ups listed own st a w)(Y:apl ts G ops b m S s ups fs R)(hk:k<m)(U:ops[b+k]? =some o)(hni:listed[b+k]? =some false)
  (hw:∀ j,pi o j=true->listed[j]? =some true) {d:Nat} (V:d∈o.looksAt ops.toArray):lk d (S k).t=lk d st.t:=by
 rcases Y.lk d k (by omega)with⟨j,q,h1,h2,O,h4⟩ | ⟨h1,h2⟩;rw[h4];rcases hd.look (b+k) (b+j) o q d U h2 O V with e| ⟨_,e⟩ | ⟨e,_⟩;omega;exact(hi.put j q d (by omega) (hw _ e) h2 O).symm;omega;rw[h2];refine(hi.old d λj q hj X W E=>?_).symm;rcases hd.look (b+k) (b+j) o q d U W E V with e| ⟨e,_⟩ | ⟨_,e⟩;grind
 grind
 have:listed[b+k]? =some true:=hi.closed _ q _ X W e;grind
theorem apU.full (hd:DOk ops)(hi:apU F w0 N ops b m S s ups listed own st a w)(hp:apl ts G ops b m S s ups fs R)(E:∀ k,k<m->listed[b+k]? =some true):apo F w0 N ops (λk=>listed[k]? =some true) own (S m) a w:=by
 have X:∀ t,lk t (S m).t=lk t st.t:=λt=>by
  rcases hp.lk t m (alw _)with⟨j,q,h1,h2,O,V⟩ | ⟨h1,h2⟩;rw[V];exact(hi.put j q t h1 (E j h1) h2 O).symm;rw[h2];exact(hi.old t λk q Y _ hq=>h1 k q Y hq).symm
 have W:∀ id,aq (S m).h id=aq st.h id:=λid=>by
  obtain⟨p,h1,h2,O⟩:=hi.heap id;rw[O];refine(hp.same h1 (alw _) λj q1 q2 hm=>?_).symm;grind
 refine⟨hi.inv.size,hi.inv.defers,⟨λid hd e=>?_,hi.inv.hp.aoY,hi.inv.hp.apart,hi.inv.hp.inj,hi.inv.hp.lt,λid U=>?_⟩,hi.inv.fr,λt=>by rw[X];exact hi.inv.slots t,λk o d j b s h1 h2 O V h5=>hi.inv.tags k o d j b s h1 h2 O V (by grind),hi.inv.closed,hi.inv.chain⟩;rcases hi.dom id with h|h| ⟨k,h1,_,h2⟩;grind
 exact alG h (hp.len (al4 _) (alw _));exact alG (hp.lt h1 h2) (hp.len (by omega) (alw _));rw[W]at U |-;exact hi.inv.hp.obs id U
theorem apU.start (hi:apo F w0 N ops (· <b) own (S 0) a w)(V:listed.size=ops.length)(U:∀ k,k<ops.length->(listed[k]? =some true↔k<b))(hr:ROk N ops)(X:∀ (i:Nat) (o:Oper) (j:Nat),ops[i]? =some o->pi o j=true->j<i):apU F w0 N ops b m S s ups listed own (S 0) a w:=by
 have hE:∀ k,listed[k]? =some true->k<b:=λk h=>(U k (by grind)).1 h;have E:∀ {k:Nat},¬listed[b+k]? =some true:=λ{k} h=>by grind
 refine⟨⟨hi.size,hi.defers,hi.hp,hi.fr,λt=>?_,λk o d j O s h1=>hi.tags k o d j O s (hE k h1),λk o j O h1 h2 h3=>?_,λk o O h1=>hi.chain k o O (hE k h1)⟩,V,λk h1 h2=>(U k h2).2 h1,λk h1 h2=>by grind,λk q d _ h=>absurd h E,λt _=>rfl,λi o j h1 h2 h3=>?_,λid=>⟨0,al4 _,λk hk _=>⟨λh=>absurd h E,λh=>by omega⟩,rfl⟩,λid=>?_⟩;have h:=hi.slots t;cases hs:lk t (S 0).t with
 |gd j O s'=>
  rw[hs]at h;obtain⟨q1,⟨i,o,b2,W,Y⟩,q4⟩:=h;have hlt:=(alz.1 W).1;have:=hr.lt i o j b2 W Y;exact⟨(U j (by omega)).2 q1,⟨i,o,b2,W,Y⟩,q4⟩
 |_=>rw[hs]at h;exact h
 have hlt:=(alz.1 h2).1;have:=hr.lt k o j O h2 h3;grind
 grind
 cases ho:own id with
 |none=>grind|some hd=>exact .inr (.inl (hi.hp.dom id hd ho))
end
variable {r:Dr}
theorem Ye{np:Bool}{rd:List Nat}{nx:Nat}{p:Prop}{s:SV}{rows:List Ob}(h:drR np rd nx p s rows=some r):r.all=rd:=by
 match rows,h with
 | [],h=>grind [drR]| [ob],h=>grind [drR]|_::_::_,h=>simp[drR]at h
variable {h:List Ob}{O:OR}
theorem Yf{G:Cons}{nx nx':Nat}(E:jM G h nx O=some r)(U:¬nx∈ft r.ups\/∀ f args,O≠ .call f args):jM G h nx' O=some r:=by
 cases O with
 |call f args=>
  have U:=U.resolve_right (λh=>h f args rfl);simp only[jM]at E |-;cases hc:G.p f (args.map (gw h 6))with
  |none=>rw[hc]at E;cases E
  |some c=>
   rw[hc]at E;cases c with
   |rel=>cases E|may=>cases E
   |det p s=>
    simp only[drC]at E |-;generalize aV 3 s=rows at E |-;match rows,E with
    | [],E=>exact E
    | [ob],E=>
     grind [drR,ft]
    |_::_::_,E=>simp[drR]at E
 |_=>exact E
def LN {f:SV->List Nat}{l:List SV}{x:SV}{id:Nat}(O:x∈l)(E:id∈f x):id∈l.flatMap f:=ans.2 ⟨x,O,E⟩
variable {h':List Ob}
theorem Us:∀ (n:Nat) (s:SV),(∀ id,id∈kB h n s->aq h id=aq h' id)->gw h n s=gw h' n s:=by
 intro n;induction n with
 |zero=>intro s E;cases s <;>first|rfl|(simp only[gw];rw[E _ (by simp[kB])])
 |succ n X=>
  intro s E;have O:∀ (l:List SV),(∀ id,id∈l.flatMap (kB h n)->aq h id=aq h' id)->l.map (gw h n)=l.map (gw h' n):=λl O=>
   List.map_congr_left λx Y=>X x λid V=>O id (LN Y V)
  cases s with
  |ptr id off=>
   simp only[gw];rw[<-E id (by simp[kB])];have W:∀ U,(∀ id,id∈RI (kB h n) U->aq h id=aq h' id)->RH (gw h n) off U=RH (gw h' n) off U:=λU W=>by
    cases U with
    |cells l=>simp only[RH,O l W]|_=>rfl
   grind [kB]
  |ep l o=>simp only[gw,O l E]|ls z l=>simp only[gw,O l E]|agg l=>simp only[gw,O l E]|tup l=>simp only[gw,O l E]|fn f l l2=>grind [gw,kB]
  |_=>first|rfl|(simp only[gw];rw[E _ (by simp[kB])])
theorem Eu {f g:SV->List Nat}:∀ (l:List SV),(∀ x,x∈l->f x=g x)->l.flatMap f=l.flatMap g
 | [],_=>rfl
 |a::r,h=>by rw[alO,alO,h a (by simp),Eu r λx E=>h x (by simp[E])]
theorem Ut:∀ (n:Nat) (s:SV),(∀ id,id∈kB h n s->aq h id=aq h' id)->kB h n s=kB h' n s:=by
 intro n;induction n with
 |zero=>intro s V;cases s <;>rfl
 |succ n X=>
  intro s V;have O:∀ (l:List SV),(∀ id,id∈l.flatMap (kB h n)->aq h id=aq h' id)->l.flatMap (kB h n)=l.flatMap (kB h' n):=λl O=>
   Eu l λx Y=>X x λid U=>O id (LN Y U)
  cases s with
  |ptr id off=>
   simp only[kB];rw[<-V id (by simp[kB])];have W:∀ E,(∀ id,id∈RI (kB h n) E->aq h id=aq h' id)->RI (kB h n) E=RI (kB h' n) E:=λE W=>by
    cases E with
    |cells l=>exact O l W|_=>rfl
   grind [kB]
  |ep l o=>grind [kB]|ls z l=>grind [kB]|agg l=>grind [kB]|tup l=>grind [kB]|fn f l l2=>grind [kB]|_=>rfl
theorem Om{G:Cons}{nx:Nat}(V:∀ id,id∈r.all->aq h id=aq h' id)(E:jM G h nx O=some r):jM G h' nx O=some r:=by
 cases O with
 |call f args=>
  have U:r.all=args.flatMap (kB h 6):=by
   simp only[jM]at E;cases hc:G.p f (args.map (gw h 6))with
   |none=>rw[hc]at E;cases E
   |some c=>
    rw[hc]at E;cases c with
    |rel=>cases E|may=>cases E
    |det p s=>
     grind [Ye,drC]
  grind [List.map_congr_left,Us,Ut,jM]
 |_=>exact E
theorem abT (o:Op)(x:List Nat×List Nat)(all:List Nat)(ups:List Up):(fpU o x all ups).rd=x.1/\(fpU o x all ups).wk=x.2/\(fpU o x all ups).all=all:=by
 grind [fpU]
section
variable {P:Program}{F:Nat->Prop}{own bo:Own}{w w':World}{ts:Tis}
variable {w0:Bs}{ro:Option Nat}{nd:Nat}{N n:Nat}{ops:List Oper}{st:St}{a:Act}{G:Cons}
variable {b m:Nat}{S:Nat->St}{s:Nat->SV}{ups:Nat->List Up}{fs:Nat->Fp}{R:Nat->Dr}{listed:Array Bool}
theorem apU.op (hd:DOk ops)(hi:apU F w0 N ops b m S s ups listed own st a w)(hp:apl ts G ops b m S s ups fs R)(ar5:sp ops b ((List.range m).map fs)){k:Nat}{o:Oper}(W:k<m)(ho:ops[b+k]? =some o)(O:listed[b+k]? =some false)
  (hw:∀ j,pi o j=true->listed[j]? =some true) (hsk:(R k).ups=ups k):∃ nx,apX own st.h nx/\jM G st.h nx (opS ⟨ts,ops,o.guard,st,nx⟩ o.op)=some (R k):=by
 obtain⟨o',ho',f⟩:=hp.fact k W;rw[ho]at ho';cases ho';have X:∀ i,i<m->((List.range m).map fs)[i]? =some (fs i):=λi hi=>by simp[hi]
 have U:∀ j,j<m->j≠k->tA (fs k) (fs j)=true->(j<k/\listed[b+j]? =some true)\/(k<j/\¬listed[b+j]? =some true):=λj V E hc=>
  hi.order ho O hw E (Es ar5 (X k W) (X j V) (λe=>E e.symm) hc)
 obtain⟨e1,e2,e3⟩:=abT o.op (fpO ⟨ts,ops,o.guard,S k,(S k).h.length⟩ o.op) (R k).all (ups k);rw[<-f.fp]at e1 e2 e3;have hop:opS ⟨ts,ops,o.guard,S k,(S k).h.length⟩ o.op=opS ⟨ts,ops,o.guard,st,(S k).h.length⟩ o.op:=
  Sj (t:=(S k).t) (h:=(S k).h) (t':=st.t) (h':=st.h) o.op (λx hx=>by
    cases x with
    |tmp n=>exact hi.reads hd hp W ho O hw (Ur hx)
    |_=>rfl)
   (λid hid=>hi.obj hp W O λj V E Y=>U j V E (Uo (by simp_all) (hp.aqp V Y)))
   (λid hid=>hi.arz hp W O λj V E Y=>U j V E (Uq (by simp_all) Y))
 have hdr:=f.dr;have hdr2:jM G st.h (S k).h.length (opS ⟨ts,ops,o.guard,S k,(S k).h.length⟩ o.op)=some (R k):=Om (λid hall=>hi.obj hp W O λj V E Y=>U j V E (Sm (by grind) (hp.aqp V Y))) hdr;by_cases Y:(S k).h.length∈ft (R k).ups
 refine⟨(S k).h.length,?_,by grind⟩;have hmu:(S k).h.length∈ft (ups k):=by grind
 have hnk:¬listed[b+k]? =some true:=by grind
 refine⟨?_,?_⟩;rcases hi.dom (S k).h.length with h|h| ⟨j,h1,h2,h3⟩;exact h;have:=hp.len (al4 k) (by omega);omega;exfalso;have E:j≠k:=λe=>hnk (e▸h2);rcases U j h1 E (LL (hp.aqp W hmu) (hp.aqp h1 h3))with⟨hlt,_⟩ | ⟨_,hl⟩;have:=hp.lt h1 h3;have:=hp.len (i:=j+1) (j:=k) (by omega) (by omega);omega;grind
 obtain⟨p,h1,h2,h3⟩:=hi.heap (S k).h.length;rw[h3];refine mT ?_;have:¬k<p:=λh=>hnk ((h2 k W hmu).2 h);exact hp.len (by omega) (by omega);refine⟨st.h.length,hi.inv.hp.nx,?_⟩;rw[abS (nx':=st.h.length) hop.symm ?_];grind [Yf]
 grind [jM]
theorem apU.next (hd:DOk ops)(hi:apU F w0 N ops b m S s ups listed own st a w)(hp:apl ts G ops b m S s ups fs R)(Y:sp ops b ((List.range m).map fs)){k:Nat}{o:Oper}(hk:k<m)(ho:ops[b+k]? =some o)(X:listed[b+k]? =some false)
  (hw:∀ j,pi o j=true->listed[j]? =some true) {a':Act} (W:apo F w0 N ops (λj=>(listed.setIfInBounds (b+k) true)[j]? =some true) bo (St.put ⟨st.t,bf st.h (ups k)⟩ o.dst (s k)) a' w')
  (hfr:∀ id,own id=none->dI (aq (bf st.h (ups k)) id)=true->bo id=none):
  apU F w0 N ops b m S s ups (listed.setIfInBounds (b+k) true) bo (St.put ⟨st.t,bf st.h (ups k)⟩ o.dst (s k)) a' w':=by
 have V:∀ i,i<m->((List.range m).map fs)[i]? =some (fs i):=λi hi=>by simp[hi]
 have hor:∀ j,j<m->j≠k->tA (fs k) (fs j)=true->(j<k/\listed[b+j]? =some true)\/(k<j/\¬listed[b+j]? =some true):=λj hj E hc=>
  hi.order ho X hw E (Es Y (V k hk) (V j hj) (λe=>E e.symm) hc)
 have O:=LM X;have hnk:¬listed[b+k]? =some true:=by grind
 refine⟨W,by simp[hi.size],λj h1 h2=>(O j).2 (.inl (hi.low j h1 h2)),λj h1 h2=>?_,λj q d h1 h2 U h4=>?_,λt ht=>?_,λi q j h1 h2 U=>?_,λid=>?_,λid=>?_⟩;rcases(O j).1 h2 with h|h;exact hi.high j h1 h;omega;rw[Ol];rcases(O _).1 h2 with h|h;have E:o.dst≠some d:=λe=>by
  have:=hd.uniq (b+k) (b+j) o q d ho U e h4;grind
 rw[if_neg E];exact hi.put j q d h1 h U h4;grind
 have E:o.dst≠some t:=ht k o hk ((O _).2 (.inr rfl)) ho;rw[Ol,if_neg E];exact hi.old t λj q h1 h2 U=>ht j q h1 ((O _).2 (.inl h2)) U;rcases(O i).1 h1 with h|rfl;exact(O j).2 (.inl (hi.closed i q j h h2 U));grind
 rw[aaA];by_cases hm:id∈ft (ups k)
 refine⟨k+1,by omega,λj hj hmj=>?_,?_⟩;rw[O];by_cases e:j=k
 omega;rcases hor j hj e (LL (hp.aqp hk hm) (hp.aqp hj hmj))with⟨h1,h2⟩ | ⟨h1,h2⟩ <;>grind;rw[hp.hstep hk];exact Ib hm;obtain⟨p,h1,h2,U⟩:=hi.heap id;grind [pz]
 ·by_cases hno:own id=none
  by_cases hm:id∈ft (ups k)
  grind
  left;refine hfr id hno ?_;rw[pz hm];cases hdd:dI (aq st.h id)with
  |true=>rfl
  |false=>obtain⟨hdx,e,_⟩:=hi.inv.hp.obs id hdd;grind
  rcases hi.dom id with h|h| ⟨j,h1,h2,U⟩ <;>grind
variable {Q:Exit->Act->World->Prop}{Z:Value->St->Prop}
theorem Yg(hts:ts.ok P)(hG:aoI P G)(hr:ROk N ops)(hd:DOk ops){K:St->Prop}
  (hZ:∀ x own st a w,Y1 F w0 N own st a w->Z x st->Q (.panic [{ v:=x,recovered:=false}]) a w)
  (hK:∀ own st a w,apo F w0 N ops (· <ops.length) own st a w->K st->Q .normal a w):
  ∀ (E:Nat) (listed:Array Bool) (own:Own) (st:St) (a:Act) (w:World) (b m:Nat) (S:Nat->St) (s:Nat->SV) (ups:Nat->List Up) (fs:Nat->Fp) (R:Nat->Dr),
  apU F w0 N ops b m S s ups listed own st a w->apl ts G ops b m S s ups fs R->sp ops b ((List.range m).map fs)->Yd ts G ops K Z (b+m) (S m)->listed.toList.count false<=E->wpAnyIn (rd ro) nd P .any ops.toArray Q E listed a w:=by
 have hback:∀ (i:Nat) (o:Oper) (j:Nat),ops[i]? =some o->pi o j=true->j<i:=λi o j V hj=>by
  unfold pi at hj;rw[amC]at hj;obtain⟨e,he,hje⟩:=hj;simp only[alt]at hje;have:=hd.back i o e V (by grind) hje.2;simp_all
 have hdone:∀ (listed:Array Bool) (own:Own) (st:St) (a:Act) (w:World) (b m:Nat) (S:Nat->St) (s:Nat->SV) (ups:Nat->List Up) (fs:Nat->Fp) (R:Nat->Dr),
   apU F w0 N ops b m S s ups listed own st a w->apl ts G ops b m S s ups fs R->Yd ts G ops K Z (b+m) (S m)->(∀ k,k<ops.length->listed[k]? =some true)->Q .normal a w:=by
  intro listed own st a w b m S s ups fs R hi hp he O;rcases he with⟨_,Y⟩ | ⟨o,V,_⟩;refine hK own (S m) a w ((hi.full hd hp λk Y=>?_).congr λk=>⟨λh=>by have:=(amH.1 h).1;rw[hi.size]at this;exact this,O k⟩) Y;obtain⟨o,V,_⟩:=hp.fact k Y;grind
  exact absurd (O _ (alz.1 V).1) (hi.high _ (alw _))
 have hready:∀ (listed:Array Bool),listed.size=ops.length->Region.ready .any ops.toArray listed=[]->∀ k,k<ops.length->listed[k]? =some true:=by
  intro listed hsz aqY k;induction k using Nat.strongRecOn with
  |_ k ih=>
   intro Y;have hlk:k<listed.size:=by omega
   cases hb:listed[k]with
   |true=>grind
   |false=>
    exfalso;have:k∈Region.ready .any ops.toArray listed:=by
     rw[mem_ready];refine⟨by simp_all,ops[k],by simp[Y],λe he hbe=>?_⟩;have hlt:=hd.back k ops[k] e (alE Y) he hbe;simp_all <;>grind
    grind
 intro E;induction E with
 |zero=>
  intro listed own st a w b m S s ups fs R hi hp W he hc;have O:∀ k,k<ops.length->listed[k]? =some true:=by
   intro k Y;have hlk:k<listed.size:=by rw[hi.size];exact Y
   cases hb:listed[k]with
   |true=>grind
   |false=>
    grind [List.count_pos_iff]
  refine⟨?_,hdone _ _ _ _ _ _ _ _ _ _ _ _ hi hp he O⟩;cases hrd:Region.ready .any ops.toArray listed with
  |nil=>rfl
  |cons x xs=>
   exfalso;have hx:x∈Region.ready .any ops.toArray listed:=by grind
   grind [zP,mem_ready]
 |succ E ih=>
  intro listed own st a w b m S s ups fs R hi hp W he hc;refine⟨λaqY=>hdone _ _ _ _ _ _ _ _ _ _ _ _ hi hp he (hready _ hi.size aqY),λi hmem=>?_⟩;rw[mem_ready]at hmem;obtain⟨h0,o,ho',hedge⟩:=hmem;have V:ops[i]? =some o:=by grind
  have hni:=zP h0;have hnk:¬listed[i]? =some true:=by grind
  have hil:i<ops.length:=(alz.1 V).1;have hw:∀ j,pi o j=true->listed[j]? =some true:=by
   intro j hj;unfold pi at hj;simp_all <;>grind
  have hE:=LM hni;have hgE:∀ j b,o.guard=some (j,b)->listed[j]? =some true:=by
   intro j b U;have hrf:mV ops j:=⟨i,o,b,V,U⟩;obtain⟨q,d,h1,h2,h3⟩:=hr.uniq j hrf;have hlt:=hr.lt i o j b V U;have hm:d∈o.looksAt ops.toArray:=by
    grind [Oper.looksAt]
   rcases hd.look i j o q d V h1 h2 hm with e| ⟨_,e⟩ | ⟨e,_⟩ <;>grind
  have hcnt:(listed.setIfInBounds i true).toList.count false<=E:=by
   grind
  have hclS:Dn ops (λj=>listed[j]? =some true\/j=i):=λj q j' hS hq hj'=>by
   rcases hS with hS|rfl;exact .inl (hi.closed j q j' hS hq hj');grind
  have hib:b<=i:=al2 λh=>hnk (hi.low i (by omega) hil);by_cases hlt:i<b+m
  ·
   obtain⟨k,rfl⟩:∃ k,i=b+k:=⟨i - b,by omega⟩;have Y:k<m:=by omega
   obtain⟨o',ho2,f⟩:=hp.fact k Y;rw[V]at ho2;cases ho2;have hlk:∀ (j:Nat) (q:Oper) (d:Nat),j<b+k->listed[j]? =some true->mV ops j->ops[j]? =some q->q.dst=some d->lk d (S k).t=lk d st.t:=λj q d hj hEj hrf hq hqd=>by
    rcases hp.lk d k (by omega)with⟨j',q',h1,h2,h3,h4⟩ | ⟨h1,h2⟩;have:=hd.uniq j (b+j') q q' d hq h2 hqd h3;subst this;rw[h4];exact(hi.put j' q d (by omega) hEj hq hqd).symm;rw[h2];refine(hi.old d λj' q' h3 h4 h5 h6=>?_).symm;have:=hd.uniq j (b+j') q q' d hq h5 hqd h6;grind
   unfold wpOpIn;rw[ho'];by_cases X:GOk ops a o.guard
   ·have hgP:∀ g,o.guard=some g->dR ops (S k).t ops.length g:=λg U=>
     ur hi.inv (b+k) hlk hr.lt ops.length g (hr.lt _ o g.1 g.2 V U) (hgE g.1 g.2 U) ⟨b+k,o,g.2,V,U⟩ (by grind)
    have hu:ups k=(R k).ups:=by
     cases U:o.guard with
     |none=>exact(f.plain U).2.2
     |some g=>
      rcases(f.guarded g U).2 with⟨e,_⟩ | ⟨_,_,e⟩ <;>grind
    obtain⟨nx,hnx,hdr⟩:=hi.op hd hp W Y V hni hw hu.symm;have hwant:=(my (ops:=ops) (a:=a) (o:=o)).2 X;simp only[hwant,if_true];have hrun:=P5 hts hi.inv hnx X (λk' c e=>⟨hgE k' c e,b+k,o,c,V,e⟩);have hc':(R k).c:=by
     cases U:o.guard with
     |none=>exact(f.plain U).1|some g=>exact(f.guarded g U).1 (hgP g U)
    have hnd:∀ c,o.op≠ .defer c:=A6 (cx:=⟨ts,ops,o.guard,st,nx⟩) (λe=>by grind [jM]);obtain⟨_,_,hcont⟩:=aaz (ro:=ro) (nd:=nd) (a:=a) (o:=o) hG hi.inv.hp hnx hrun hdr hc';refine⟨λ_ _=>trivial,?_⟩;rw[Oper.semAt_eq _ _ _ hnd];refine hcont _ _ λu bo w' apR hst=>?_;have hstep:=hi.inv.ap1 hr hE hnk V hgE X hst.hp hst.fr apR;rw[<-hu]at hstep;refine ih _ bo _ _ w' b m S s ups fs R (hi.next hd hp W Y V hni hw ?_ (λid e1 e2=>hst.fresh id e1 (by grind))) hp W he hcnt;cases U:o.guard with
    |none=>rw[(f.plain U).2.1];exact hstep.1
    |some g=>
     rcases(f.guarded g U).2 with⟨_,e,_⟩ | ⟨_,_,e⟩ <;>grind
   ·have hwant:Region.wanted o (yielded ops.toArray a.tmps)=false:=by
     grind [my]
    simp only[hwant,alB,if_false];refine⟨λ_ _=>trivial,?_⟩;cases U:o.guard with
    |none=>exact absurd (by rw[U];trivial) X
    |some g=>
     have hgN:=Ee hi.inv (b+k) hlk hr.lt ops.length g (hr.lt _ o g.1 g.2 V U) (hgE g.1 g.2 U) ⟨b+k,o,g.2,V,U⟩ (by grind);have hu:ups k=[]/\∃ x,s k=.gd g.1 g.2 x:=by
      rcases(f.guarded g U).2 with⟨_,e,h0|h0⟩ | ⟨h0,e,_⟩ <;>grind
     obtain⟨hu,x,hs⟩:=hu;have hsk:=hi.inv.skip (s:=x) hr hE hnk V hgE X U;refine ih _ own _ _ w b m S s ups fs R (hi.next hd hp W Y V hni hw ?_ (λid e1 _=>e1)) hp W he hcnt;rw[hu,hs];exact hsk
  rcases he with⟨hle,_⟩ | ⟨q,hq,hcut,hx⟩;omega;by_cases hie:i=b+m
  subst hie;rw[V]at hq;cases hq;have O:∀ k,k<m->listed[b+k]? =some true:=λk Y=>by
   obtain⟨ok,hok,_⟩:=hp.fact k Y;rcases Et hcut (alz.1 hok).1 (by omega)with⟨_,h⟩ | ⟨h,_⟩;grind [JG]
   omega
  have hfull:=hi.full hd hp O;have hset:∀ k,(listed.setIfInBounds (b+m) true)[k]? =some true↔k<b+m+1:=λk=>by
   rw[hE];constructor
   rintro (h|h);exact Nat.lt_succ_of_lt (al2 λhn=>hi.high k (by omega) h);omega;intro h;by_cases e:k=b+m
   exact .inr e;left;by_cases hkb:k<b
   exact hi.low k hkb (by omega);have:=O (k - b) (by omega);grind
  obtain⟨k1,k2⟩:=P2 (ro:=ro) (nd:=nd) hts hG hr hE hnk V hgE hfull hZ hx (K:=wpAnyIn (rd ro) nd P .any ops.toArray Q E (listed.setIfInBounds (b+m) true)) (λown st a w hinv hx=>by
   have hinv':=hinv.congr hset;obtain⟨m',S',s',ups',fs',R',e0,e1,e2,e3⟩:=sim hts hG hr (ops.drop (b+m+1)) (b+m+1) own st a w (b+m+1) [] rfl hinv' hx;subst e0;exact ih _ own (S' 0) a w (b+m+1) m' S' s' ups' fs' R' (apU.start hinv' (by simp[hi.size]) (λk _=>hset k) hr hback) e1 (by grind) e3 hcnt)
  unfold wpOpIn;rw[ho'];by_cases X:GOk ops a o.guard
  obtain⟨hnd,k1⟩:=k1 X;simp only[(my (ops:=ops) (a:=a) (o:=o)).2 X,if_true];refine⟨λ_ _=>trivial,?_⟩;grind [Oper.semAt_eq]
  grind [my]
  exfalso;rcases Et hcut hil hie with⟨h,_⟩ | ⟨_,h⟩;omega;exact hi.high _ (alw _) ((JG hclS (.inr rfl) h).resolve_right (by omega))
theorem Yh(E:ts.ok P)(hG:aoI P G)(V:ROk N ops)(hd:DOk ops){K:St->Prop}
  (Y:∀ x own st a w,Y1 F w0 N own st a w->Z x st->Q (.panic [{ v:=x,recovered:=false}]) a w)
  (hK:∀ own st a w,apo F w0 N ops (· <ops.length) own st a w->K st->Q .normal a w) {own:Own} {st:St} {a:Act} {w:World} (hi:apo F w0 N ops (· <0) own st a w) (hx:jQ ts G ops K Z ops 0 0 [] st):
  wpAnyIn (rd ro) nd P .any ops.toArray Q ops.toArray.size (Array.replicate ops.toArray.size false) a w:=by
 obtain⟨m,S,s,ups,fs,R,X,e1,e2,e3⟩:=sim E hG V ops 0 own st a w 0 [] rfl hi hx;subst X;refine Yg E hG V hd Y hK _ _ own (S 0) a w 0 m S s ups fs R (apU.start hi (by simp) (λk hk=>?_) V λi o j W U=>?_) e1 (by grind) e3 ?_;grind
 unfold pi at U;rw[amC]at U;obtain⟨e,he,O⟩:=U;simp only[alt]at O;have:=hd.back i o e W (by grind) O.2;simp_all;simp
end
end Go.Sx
end
section
namespace Go.Sx
section
variable {F:Fence}{n:Nat}{P:Program}{b:Frame}{a:Act}{k:List Item}{cs:List Frame}{w:World}{Q:Exit->Act->World->Prop}
def arX (Q:Exit->Act->World->Prop):Exit->Act->World->Prop
 | .goto _,_,_=>False|e,a,w=>Q e a w
variable {c:Code}
theorem nY:step P (lone (b.atR a (.code (.scope c)::k)) cs w)=.next (lone (b.atR a (.code c:: .inScope c::k)) cs w):=
 step_lone_go (by rfl)
theorem GP:step P (lone (b.atR a (.inScope c::k)) cs w)=.next (lone (b.atR a k) cs w):=
 step_lone_go (by rfl)
theorem On(h:c.wpIn F n P (arX Q) a w):(Code.scope c).wpIn F n P Q a w:=by
 intro b k cs X Y hr;have O:(lone (b.atR a (.code (.scope c)::k)) cs w).fenced P F:=fenced_calm Y hr rfl;obtain⟨e,W,V,U,E⟩:=h b (.inScope c::k) cs X Y hr;cases e with
 |normal=>exact⟨.normal,W,V,U,.head O nY (StepsIn.trans E (.one (fenced_calm Y hr rfl) GP))⟩
 |exit id=>exact⟨.exit id,W,V,U,λk' hk=>.head O nY (E.1 k' (by simp[exitTo,hk])),λhr' hk=>let ⟨k₁,h1,h2⟩:=E.2 hr' (by grind [exitTo]);⟨k₁,h1,.head O nY h2⟩⟩
 |goto l=>exact U.elim|ret=>exact⟨_,W,V,U,.of_steps (.one O nY) E⟩|panic ch=>exact⟨_,W,V,U,.of_steps (.one O nY) E⟩|outgrown=>exact⟨_,W,V,U,.of_steps (.one O nY) E⟩
end
open Go.RowKit
section
variable {P:Program}{F:Nat->Prop}{w0:Bs}{ro:Option Nat}{nd:Nat}{ts:Tis}{G:Cons}{L:vP}{N:Nat}
def Ev (F:Nat->Prop)(w0:Bs)(N:Nat)(Q:Ex->St->Prop):Exit->Act->World->Prop
 | .normal,a,w=>∃ F1 own st,(∀ b,F b->F1 b)/\Y1 F1 w0 N own st a w/\Q .normal st| .exit id,a,w=>∃ F1 own st,(∀ b,F b->F1 b)/\Y1 F1 w0 N own st a w/\Q (.exit id) st| .ret,a,w=>∃ F1 own st,(∀ b,F b->F1 b)/\Y1 F1 w0 N own st a w/\Q .ret st| .panic ch,a,w=>∃ x F1 own st,(∀ b,F b->F1 b)/\Y1 F1 w0 N own st a w/\Q (.pan x) st/\ch=[{ v:=x,recovered:=false}]|_,_,_=>False
variable {Q:Ex->St->Prop}
theorem Yi{F W:Nat->Prop}{w0:Bs}{N:Nat}(h:∀ b,F b->W b):∀ e a w,Ev W w0 N Q e a w->Ev F w0 N Q e a w:=by
 intro e a w U;cases e <;>first|exact U.elim|(obtain⟨V,own,st,E,h1,h2⟩:=U;exact⟨V,own,st,λb O=>E b (h b O),h1,h2⟩) |(obtain⟨x,V,own,st,E,h1,h2,X⟩:=U;exact⟨x,V,own,st,λb O=>E b (h b O),h1,h2,X⟩)
def kZ (P:Program)(ro:Option Nat)(N:Nat)(id:Nat)(c:Code)(C:St->Option apB):Prop:=
 ∀ (nd:Nat) (F:Nat->Prop) (w0:Bs) st lc,C st=some lc->lc.pre->∀ own a w,Y1 F w0 N own st a w->(Code.block id c).wpIn (rd ro) nd P (Ev F w0 N λe st'=>∃ r,lc.post r/\e=lc.ex r/\st'=lc.out r) a w
def ak (P:Program)(ro:Option Nat)(N:Nat)(L:vP):Code->Prop
 | .seq a b=>ak P ro N L a/\ak P ro N L b| .cond _ a b=>ak P ro N L a/\ak P ro N L b| .block id (.loop c) =>kZ P ro N id (.loop c) (L id)| .block id (.rangeFunc f ps a b) =>kZ P ro N id (.rangeFunc f ps a b) (L id)| .block _ c=>ak P ro N L c| .scope c=>ak P ro N L c|_=>True
theorem P6 (t:Nat){u:List (Nat×SV)}:∀ l:List (Nat×SV),aqd u l->lk t l=.any\/lk t l=lk t u
 | [],_=>.inl rfl
 |(n,s)::r,h=>by
  have O:=P6 t r h.2;have e:lk t ((n,s)::r)=bif Nat.beq n t then s else lk t r:=rfl;rw[e];cases E:Nat.beq n t with
  |false=>grind|true=>rw[cond_true,<-alu E];exact .inr h.1.symm
theorem uv{V:Ex->St->Prop}(h:∀ e st,Q e st->V e st):∀ e a w,Ev F w0 N Q e a w->Ev F w0 N V e a w:=by
 intro e a w O;cases e <;>first|exact O.elim|(obtain⟨U,own,st,E,h1,h2⟩:=O;exact⟨U,own,st,E,h1,h _ _ h2⟩) |(obtain⟨x,U,own,st,E,h1,h2,W⟩:=O;exact⟨x,U,own,st,E,h1,h _ _ h2,W⟩)
variable {ops:Array Oper}{a:Act}{w:World}
theorem Ew(hm:P.follows .mixedOrders=true)(U:ts.ok P)(hG:aoI P G){id:Nat}{d:Bool}(hc:cV N (.region id ops d)=true){st:St}(X:Cc ts G ops d st Q)
  {own:Own}   (Y:Y1 F w0 N own st a w):(Code.region id ops d).wpIn (rd ro) nd P (Ev F w0 N Q) a w:=by
 simp only[cV,alt]at hc;obtain⟨h1,h2⟩:=hc;have E:=Uc h1;obtain⟨l⟩:=ops;cases d with
 |false=>
  have O:jo ts G l l st (λst'=>Q .normal (wx l st')) (λx st'=>Q (.pan x) st'):=X;refine wpIn_region_list ?_;exact N9 U hG E (λx own st a w h1 h2=>⟨x,F,own,st,λ_ h=>h,h1,h2,rfl⟩) l 0 own st a w rfl (Y.start l λk V=>by omega) O λown st a w hi V=>⟨F,own,_,λ_ h=>h,Y1.finish hi,V⟩
 |true=>
  have O:jQ ts G l (λst'=>Q .normal (wx l st')) (λx st'=>Q (.pan x) st') l 0 0 [] st:=X;have W:=abR (ops:=l) (by grind);refine wpIn_region_any hm ?_;exact Yh U hG E W (λx own st a w h1 h2=>⟨x,F,own,st,λ_ h=>h,h1,h2,rfl⟩) (λown st a w hi V=>⟨F,own,_,λ_ h=>h,Y1.finish hi,V⟩) (Y.drew.start l λk V=>by omega) O
theorem Y1.aqd{own:Own}{st d:St}(h1:Y1 F w0 N own st a w)(O:st.h=d.h)(E:Sx.aqd st.t d.t):Y1 F w0 N own d a w:=by
 refine⟨h1.size,h1.defers,O▸h1.hp,h1.fr,λt=>?_⟩;rcases P6 t _ E with e|e;rw[e];exact .any _;rw[e];exact h1.slots t
theorem Sn(W:P.follows .mixedOrders=true)(O:ts.ok P)(hG:aoI P G){id:Nat}{d:Bool}(hc:cV N (.region id ops d)=true){st:St}(hx:exec ts G L (.region id ops d) st Q)
  {own:Own}   (X:Y1 F w0 N own st a w):(Code.region id ops d).wpIn (rd ro) nd P (Ev F w0 N Q) a w:=by
 have E:DS (Cc ts G ops d st) Q (L (id+2000000) st):=hx;cases U:L (id+2000000) st with
 |none=>rw[U]at E;exact Ew W O hG hc E X
 |some lc=>
  rw[U]at E;refine wpIn_mono (Ew W O hG hc E.1 X) λe a' w' V=>?_;cases e with
  |normal=>
   obtain⟨F1,bo,st',Y,h1,r,h2,h3,h4⟩:=V;exact⟨F1,bo,_,Y,h1.aqd h3 h4,E.2 r h2⟩
  |exit id=>exact V|ret=>exact V|panic ch=>exact V|_=>exact V.elim
theorem rJ (hm:P.follows .mixedOrders=true)(hts:ts.ok P)(hG:aoI P G):∀ (c:Code),cV N c=true->ak P ro N L c->∀ (F:Nat->Prop) (st:St) (Q:Ex->St->Prop),exec ts G L c st Q->
  ∀ own a w,Y1 F w0 N own st a w->c.wpIn (rd ro) nd P (Ev F w0 N Q) a w:=by
 intro c;induction c with
 |skip=>intro _ _ F st Q V own a w O;exact wpIn_skip ⟨F,own,st,λ_ h=>h,O,V⟩
 |region id ops d=>intro hc _ F st Q V own a w O;exact Sn hm hts hG hc V O
 |seq x y ih1 ih2=>
  intro hc Y F st Q V own a w O;simp only[cV,alt]at hc;refine wpIn_seq (wpIn_mono (ih1 hc.1 Y.1 F st _ V own a w O) ?_);intro e a' w' X;cases e with
  |normal=>obtain⟨F1,bo,st',h0,h1,h2⟩:=X;exact wpIn_mono (ih2 hc.2 Y.2 F1 st' Q h2 bo a' w' h1) (Yi h0)
  |exit id=>exact X|ret=>exact X|panic ch=>exact X|_=>exact X.elim
 |cond c x y ih1 ih2=>
  intro hc Y F st Q V own a w O;simp only[cV,alt]at hc;have key:∀ Q:Ex->St->Prop,zy (exec ts G L x st Q) (exec ts G L y st Q) (raw st.t c)->(Code.cond c x y).wpIn (rd ro) nd P (Ev F w0 N Q) a w:=by
   intro Q E;cases c with
   |tmp n=>
    have hs:=O.slots n;have W:zy (exec ts G L x st Q) (exec ts G L y st Q) (lk n st.t):=E;unfold zy at W;split at W
    rename_i b hb;rw[hb]at hs;have he:a.eval (.tmp n)=.bool b:=cK hs;exact wpIn_cond_split he (λh=>ih1 hc.1 Y.1 F st Q (W.1 h) own a w O) (λh=>ih2 hc.2 Y.2 F st Q (W.2 h) own a w O);grind
   |const v=>
    have W:zy (exec ts G L x st Q) (exec ts G L y st Q) (.v v):=E;unfold zy at W;split at W
    rename_i b hb;cases hb;exact wpIn_cond_split (t:=b) rfl (λh=>ih1 hc.1 Y.1 F st Q (W.1 h) own a w O) (λh=>ih2 hc.2 Y.2 F st Q (W.2 h) own a w O);grind
   |global g=>exact(E:False).elim|func f=>exact(E:False).elim
  have E:DR (exec ts G L x st) (exec ts G L y st) Q (raw st.t c) (L (TV c) st):=V;cases U:L (TV c) st with
  |none=>rw[U]at E;exact key Q E
  |some lc=>
   rw[U]at E;refine wpIn_mono (key _ E.1) λe a' w' X=>?_;cases e with
   |normal=>
    obtain⟨F1,bo,st',h0,h1,r,h2,h3,h4⟩:=X;exact⟨F1,bo,_,h0,h1.aqd h3 h4,E.2 r h2⟩
   |exit id=>obtain⟨_,_,_,_,_,_,_,h⟩:=X;exact h.elim
   |ret=>obtain⟨_,_,_,_,_,_,_,h⟩:=X;exact h.elim
   |panic ch=>obtain⟨_,_,_,_,_,_,⟨_,_,h⟩,_⟩:=X;exact h.elim
   |_=>exact X.elim
 |block id c ih=>
  intro hc Y F st Q V own a w O;have key:(∀ b,c≠ .loop b)->(∀ f ps a b,c≠ .rangeFunc f ps a b)->(Code.block id c).wpIn (rd ro) nd P (Ev F w0 N Q) a w:=by
   intro hne hne2;have E:exec ts G L c st (Ex.block id Q):=by cases c <;>first|exact V|exact absurd rfl (hne _) |grind
   have hl':ak P ro N L c:=by cases c <;>first|exact Y|exact absurd rfl (hne _) |grind
   refine wpIn_block (wpIn_mono (ih (by grind [cV]) hl' F st _ E own a w O) ?_);intro e a' w' X;cases e with
   |normal=>exact X|ret=>exact X|panic ch=>exact X
   |exit j=>
    obtain⟨F1,bo,st',h0,h1,h2⟩:=X;have h2':(bif Nat.beq j id then Q .normal st' else Q (.exit j) st'):=h2;show if j=id then _ else _;by_cases hj:j=id
    subst hj;rw[if_pos rfl];simp only[aoJ,cond_true]at h2';exact⟨F1,bo,st',h0,h1,h2'⟩;rw[if_neg hj];have:Nat.beq j id=false:=by cases hb:Nat.beq j id <;>simp_all
    rw[this]at h2';exact⟨F1,bo,st',h0,h1,h2'⟩
   |_=>exact X.elim
  cases c with
  |loop b=>
   have E:rC Q (L id st):=V;have hl':kZ P ro N id (.loop b) (L id):=Y;cases U:L id st with
   |none=>rw[U]at E;exact E.elim
   |some lc=>
    rw[U]at E;refine wpIn_mono (hl' nd F w0 st lc U E.1 own a w O) (uv λe st'=>?_);rintro⟨r,h1,rfl,rfl⟩;exact E.2 r h1
  |rangeFunc f ps b1 b2=>
   have E:rC Q (L id st):=V;have hl':kZ P ro N id (.rangeFunc f ps b1 b2) (L id):=Y;cases U:L id st with
   |none=>rw[U]at E;exact E.elim
   |some lc=>
    rw[U]at E;refine wpIn_mono (hl' nd F w0 st lc U E.1 own a w O) (uv λe st'=>?_);rintro⟨r,h1,rfl,rfl⟩;exact E.2 r h1
  |_=>exact key (λb h=>by cases h) (λ_ _ _ _ h=>by cases h)
 |exit id=>intro _ _ F st Q V own a w O;exact wpIn_exit ⟨F,own,st,λ_ h=>h,O,V⟩
 |ret=>intro _ _ F st Q V own a w O;exact wpIn_ret ⟨F,own,st,λ_ h=>h,O,V⟩
 |scope c ih=>intro hc Y F st Q V own a w O;exact On (wpIn_mono (ih hc Y F st Q V own a w O) λe a w h=>by cases e <;>first|exact h|exact h.elim)
 |label l=>intro _ _ F st Q V own a w O;exact wpIn_label ⟨F,own,st,λ_ h=>h,O,V⟩
 |_=>intro _ _ F st Q V;exact(V:False).elim
end
end Go.Sx
end
