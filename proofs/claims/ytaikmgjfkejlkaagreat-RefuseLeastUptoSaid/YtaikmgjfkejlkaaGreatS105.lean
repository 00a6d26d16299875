/- Part of the proof that the law RefuseLeast returns true and leaves its arguments as they were, for all arguments of bulk at most 1048576 (the Upto form). -/
import Derived.Test.YtaikmgjfkejlkaaGreatS104
import Derived.TacticsIn
import Derived.OrdersIn
import Derived.Deep.LoopGhost
set_option linter.all false
set_option maxHeartbeats 4000000
set_option maxRecDepth 100000
section
namespace Go.Sx
open Go.RowKit
def EO {α:Type}{l r:List α}{x:α}{n:Nat}(h:l.drop n=x::r):l[n]? =some x/\l.drop (n+1)=r:=by
 have h1:(l.drop n)[0]? =some x:=by rw[h];rfl
 have h2:(l.drop n).drop 1=r:=by rw[h];rfl
 grind [List.drop_drop]
theorem mq {ops:List Oper}{a:Act}{o:Oper}:(Region.wanted o (yielded ops.toArray a.tmps)=true)↔GOk ops a o.guard:=by
 grind [Region.wanted,GOk]
theorem vp (n:Nat)(E:∀ b s,aS n s=[]->iE n b s=s):∀ (l:List SV) (b:Nat),l.flatMap (aS n)=[]->ri (iE n) (λs=>(aS n s).length) b l=l
 | [],_,_=>rfl
 |x::r,b,h=>by
  simp only[al5,aow]at h;simp only[ri];rw[E b x h.1,vp n E r _ h.2]
def CD:∀ (n b:Nat) (s:SV),aS n s=[]->iE n b s=s:=by
 intro n;induction n with
 |zero=>intro b s h;cases s <;>simp[aS]at h <;>rfl
 |succ n E=>
  intro b s h;cases s with
  |agg l=>grind [aS,iE,vp]|tup l=>grind [aS,iE,vp]
  |_=>first|rfl|simp[aS]at h
section
variable {P:Program}{F:Nat->Prop}{own bn:Own}{w w':World}{ts:Tis}
theorem J7:∀ (n:Nat) (s:SV) (v:Value),Rel F own w s v->∀ id∈fA n s,∃ hd,own id=some hd:=by
 intro n;induction n with
 |zero=>
  intro s v U id hm;cases U with
  |ptr h1 h2=>grind [fA]|os h1 h2=>grind [fA]|rp h1 h2 O=>grind [fA]|gr h1 h2 O=>grind [fA]|gp h1 h2 O=>grind [fA]|vw h1 h2=>grind [fA]|_=>simp[fA]at hm
 |succ n X=>
  intro s v U id hm;have E:∀ (l:List SV) (c:Nat->Value),(∀ (j:Nat) (s:SV),l[j]? =some s->Rel F own w s (c j))->id∈l.flatMap (fA n)->∃ hd,own id=some hd:=by
   grind [List.getElem?_of_mem]
  cases U with
  |ptr h1 h2=>grind [fA]|os h1 h2=>grind [fA]|rp h1 h2 O=>grind [fA]|gr h1 h2 O=>grind [fA]|gp h1 h2 O=>grind [fA]|vw h1 h2=>grind [fA]
  |ep c h1 h2=>exact E _ c h2 (by grind [fA])
  |ls c Y V h1 h2=>exact E _ c h2 (by grind [fA])
  |agg V h1=>exact E _ _ h1 (by grind [fA])
  |tup V h1=>exact E _ _ h1 (by grind [fA])
  |fn V W h1 h2=>
   simp only[fA,amj]at hm;rcases hm with hm|hm;exact E _ _ h1 hm;exact E _ _ h2 hm
  |_=>simp[fA]at hm
theorem xM {h:List Ob}(W:Hp F own w h):∀ (n:Nat) (O E:List Nat),(∀ id∈O,∃ hd,own id=some hd)->(∀ id∈E,∃ hd,own id=some hd)->∀ id∈reach h n O E,∃ hd,own id=some hd
 |0,_,E,_,h2=>h2|n+1,[],E,_,h2=>h2
 |n+1,id::O,E,h1,h2=>by
  simp only[reach];cases hm:C5 id E with
  |true=>exact xM W n _ _ (λi hi=>h1 i (by simp[hi])) h2
  |false=>
   refine xM W n _ _ (λi hi=>?_) (λi hi=>?_)
   ·rcases amj.1 hi with hi|hi;cases V:ap h id with
    |cells l=>
     rw[V]at hi;obtain⟨hd,e1,e2⟩:=W.at V rfl;obtain⟨b,cs,ty,q1,q2,q3,q4,q5⟩:=e2;obtain⟨x,X,U⟩:=am0.1 hi;obtain⟨j,Y⟩:=ams X;exact J7 3 x _ (q5 j x Y) i U
    |_=>rw[V]at hi;simp[T5]at hi
    grind
   rcases amj.1 hi with hi|hi <;>simp_all
theorem EP {h:List Ob}(O:Hp F own w h){args:List SV}{vs:Array Value}(U:apx F own w args vs):∀ id∈reach h 64 (args.flatMap (fA 3)) [],id<h.length:=λid X=>by
 obtain⟨hd,e⟩:=xM O 64 _ [] (λi hi=>by
  obtain⟨x,V,E⟩:=am0.1 hi;obtain⟨j,W⟩:=ams V;exact J7 3 x _ (U.2 j x W) i E) (λi hi=>by cases hi) id X
 exact O.dom _ _ e
variable {w0:Bs}{ro:Option Nat}{nd:Nat}{N n:Nat}{ops:List Oper}{st:St}{a:Act}{G:Cons}
def EQ (own:Own)(E:Below w.heap.size w w'):Fr { w:=w,own:=own} own w':=(Fr.refl { w:=w,own:=own}).below E
theorem tU (n k:Nat):k<n+1↔k<n\/k=n:=by omega
variable {E E':Nat->Prop}{o:Oper}
theorem apC.aqi(hr:ROk N ops)(hE:∀ k,E' k↔E k\/k=n)(V:¬E n)(hi:apC F w0 N ops E own st a w)(ho:ops[n]? =some o)(O:∀ j b,o.guard=some (j,b)->E j)(X:GOk ops a o.guard){s:SV}{u:Value}(hb:Below w.heap.size w w')(Y:Rel F own w' s u):
  apC F w0 N ops E' own (st.put o.dst s) (a.put o.dst u) w'/\(∀ g,o.guard=some g->apC F w0 N ops E' own (st.put o.dst (.gd g.1 g.2 s)) (a.put o.dst u) w'):=by
 have g:Fr { w:=w,own:=own} own w':=EQ own hb;have W:=hi.hp.below hb;refine⟨hi.step hr hE V ho g W O (wQ Y) (λ_ _=>X) (λj b s' e=>?_),λgg U=>hi.step hr hE V ho g W O ⟨(hE _).2 (.inl (O _ _ U)),⟨n,o,gg.2,ho,U⟩,λ_=>Y⟩ (λ_ _=>X) (λj b s' e=>?_)⟩;subst e;cases Y;grind
variable {h':List Ob}
theorem apC.aqe(hr:ROk N ops)(hE:∀ k,E' k↔E k\/k=n)(W:¬E n)(hi:apC F w0 N ops E own st a w)(ho:ops[n]? =some o)(O:∀ j b,o.guard=some (j,b)->E j)(X:GOk ops a o.guard){s:SV}{u:Value}(hp:Hp F bn w' h')(V:Fr { w:=w,own:=own} bn w')(Y:Rel F bn w' s u):
  apC F w0 N ops E' bn (St.put ⟨st.t,h'⟩ o.dst s) (a.put o.dst u) w'/\(∀ g,o.guard=some g->apC F w0 N ops E' bn (St.put ⟨st.t,h'⟩ o.dst (.gd g.1 g.2 s)) (a.put o.dst u) w'):=by
 refine⟨hi.step hr hE W ho V hp O (wQ Y) (λ_ _=>X) (λj b s' e=>?_),λgg U=>hi.step hr hE W ho V hp O ⟨(hE _).2 (.inl (O _ _ U)),⟨n,o,gg.2,ho,U⟩,λ_=>Y⟩ (λ_ _=>X) (λj b s' e=>?_)⟩;subst e;cases Y;grind
theorem apC.skip(hr:ROk N ops)(hE:∀ k,E' k↔E k\/k=n)(U:¬E n)(hi:apC F w0 N ops E own st a w)(X:ops[n]? =some o)(O:∀ j b,o.guard=some (j,b)->E j)(Y:¬GOk ops a o.guard){g:Nat×Bool}(W:o.guard=some g){s:SV}:
  apC F w0 N ops E' own (st.put o.dst (.gd g.1 g.2 s)) (a.put o.dst undef) w:=by
 have V:mS ops g.1:=⟨n,o,g.2,X,W⟩;refine hi.step hr hE U X (Fr.refl { w:=w,own:=own}) hi.hp O ⟨(hE _).2 (.inl (O _ _ W)),V,λhy=>?_⟩ (λb hb=>by simp[undef]at hb) (λj b s' e=>by grind);exfalso;apply Y;rw[W];obtain⟨q,d,h1,h2,h3⟩:=hr.uniq g.1 V;exact(Ix h1 h2 (h3 n o (λe=>U (e▸O _ _ W)) X) g.2).1 hy
theorem Bo {cx:Cx}{op:Op}(h:opS cx op≠ .bad):∀ c,op≠ .defer c:=by
 rintro c rfl;exact h rfl
theorem apC.out(hi:apC F w0 N ops E own st a w):W2 F w0 N own ⟨apW st.t,st.h⟩ a w:=W2.apW hi
theorem W2.aqY(O:W2 F w0 N own st a w)(hp:Hp F bn w' h')(E:Fr { w:=w,own:=own} bn w'):W2 F w0 N bn ⟨st.t,h'⟩ a w':=
 ⟨O.size,O.defers.fr E O.hp.apart,hp,O.fr.trans E,λt=>(O.slots t).mono E.apS⟩
def IC (own:Own)(w:World):apK F own w own { w with drawn:=w.drawn+1}:=⟨λ_ hd h=>⟨hd,h,.refl _⟩,λ_ _ h=>⟨h,rfl⟩,alJ _⟩
theorem W2.drew {own:Own}{st:St}{a:Act}{w:World}(h:W2 F w0 N own st a w):W2 F w0 N own st a { w with drawn:=w.drawn+1}:=
 ⟨h.size,h.defers,h.hp.apS (IC own w) λ_ _ _ _ _=>rfl,h.fr.drew,λt=>(h.slots t).mono (IC own w)⟩
def QH (G:Cons)(ops:List Oper)(d:Option Nat)(st:St)(next:St->Prop)(Z:Value->St->Prop):Option (Nat×Bool)->OR->Prop
 |none,r=>lF G d st next Z r|some g,r=>stepG G ops g d st next Z r
variable {Q:Exit->Act->World->Prop}
theorem fl{K:Act->World->Prop}{u:Value}{E:Result Next}(O:E=.ok (.value u) w'\/(E=.ok .skip w'/\u=undef))(h:K (a.put o.dst u) w'):
  o.uponIn (rd ro) nd P a K Q E:=by
 rcases O with rfl| ⟨rfl,rfl⟩ <;>exact h
theorem DN {ops:List Oper}{t:List (Nat×SV)}:∀ (n:Nat) (g:Nat×Bool),dO ops t n g->wG ops t n g->False
 |0,_,_,h=>h
 |n+1,(j,want),h1,h2=>by
  simp only[dO]at h1;simp only[wG]at h2;split at h1
  rename_i d hd;rw[hd]at h2;simp only at h2;split at h1
  grind
  rename_i E b x O;rw[O]at h2;rcases h2 with h2|h2;exact DN n (E,b) h1.1 h2;grind
  grind
  grind
theorem Ss {α:Type}{l:List α}(h:l.Nodup){i j:Nat}{x:α}(hi:l[i]? =some x)(E:l[j]? =some x):i=j:=by
 grind [List.pairwise_iff_getElem]
theorem aba {h:List Ob}(hp:Hp F own w h){id:Nat}{hd:Hd}{b:Nat}(e1:own id=some hd)(e2:hd.p=some b){U n:Nat}{left:List Nat}{cur:Option Nat}(ho:ap h id=.mi (some U) n left cur)
  {kk W:Tag} {l:List (kk.T×W.T)} (hm:ap h U=.mp kk W l (some (id,none))) (hn:n=l.length) (ty:TypeId):
  (left=[]/\(Instr.next (.pointer (some ⟨b,0,none⟩)) false ty).run P w=.ok (.tuple #[.bool false]) w)\/
  ∃ j∈left,∃ u w',(Instr.next (.pointer (some ⟨b,0,none⟩)) false ty).run P w=.ok u w'/\Step F own w (cm h id (.mi (some U) n (left.erase j) (some j))) own w'/\
   Rel F own w' (.tup [.v (.bool true),svT kk (l.getD j (et kk,et W)).1,svT W (l.getD j (et kk,et W)).2]) u:=by
 obtain⟨hd',X,b',p1,p2,p3⟩:=hp.at ho rfl;rw[e1]at X;cases X;rw[e2]at p1;cases p1;obtain⟨hdm,bm,seen,c0,ss,k1,k2,k3,k4,k5,k6,k7,k8⟩:=p3 _ rfl;obtain⟨hdm',k1',bm',es,clk,m1,m2,m3,m4,m5,hd2,t1,t2⟩:=hp.at hm rfl;rw[k1]at k1';cases k1';rw[k2]at m1;cases m1;rw[e1]at t1;cases t1;obtain⟨hc0,hss⟩:=Qy (k4.symm.trans t2);subst hc0;subst hss;have hes:es.size=l.length:=by simpa[eu]using m4.1
 have Y:∀ i (hi:i<es.size),(kA es)[i]? =some es[i].born:=λi hi=>by simp[kA,hi]
 have V:∀ x∈es.toList,x.born<c0:=λx hx=>m5.2 _ (anl hx);rcases J0 (P:=P) (ty:=ty) k3 m3 V (alJ _)with⟨h1,h2⟩ | ⟨e,h1,w1,h2,h3⟩;refine .inl ⟨?_,h2⟩;cases hl:left with
 |nil=>rfl
 |cons k r=>
  exfalso;obtain⟨s9,hs9,hn9⟩:=(k7 k).1 (by rw[hl];simp);have hke:k<es.size:=by grind
  rw[Y k hke,alK]at hs9;have E:es[k]∈leftOf es seen:=by
   grind [leftOf]
  grind
 have E:e∈es/\¬e.born∈seen.toList:=by
  grind [leftOf]
 obtain⟨j,hj,hje⟩:=aoJ E.1;have hb:(kA es)[j]? =some e.born:=by grind
 have hjl:j∈left:=(k7 j).2 ⟨_,hb,E.2⟩;have hh:w1.heap=w.heap:=by rcases h2 with rfl|rfl <;>rfl
 have hbl:b<w.heap.size:=hp.lt id hd b e1 (by rw[p2];simp);have st:Step F own w (cm h id (.mi (some U) n (left.erase j) (some j))) own { w1 with heap:=w1.heap.setIfInBounds b (.mapIter (some bm) c0 (seen.push e.born) c0)}:=by
  refine pu hp e1 (b:=b) (by rw[p2];simp) ?_ (λk O=>?_) ?_ ?_ ?_ _ λg=>⟨b,e2,p2,λi hi=>?_⟩;grind
  grind
  rcases h2 with rfl|rfl <;>rfl;rcases h2 with rfl|rfl <;>rfl;rcases h2 with rfl|rfl <;>rfl;cases hi;refine⟨hdm,bm,seen.push e.born,c0,kA es,k1,k2,?_,k4,k5,k6.erase j,λk=>?_,λj' hj'=>?_⟩;grind
  rw[k6.mem_erase_iff,k7 k,Array.toList_push];constructor
  rintro⟨a,s,b,c⟩;refine⟨s,b,λh=>?_⟩;rcases amj.1 h with h|h;exact c h;simp at h;subst h;exact a (Ss m5.1 b hb);grind
  grind
 refine .inr ⟨j,hjl,_,_,h3,st,.tup rfl λk s O=>?_⟩;have hlt:j<l.length:=by omega
 have hgd:l.getD j (et kk,et W)=l[j]:=by grind
 rw[hgd]at O;obtain⟨e3,g1,_,g3,g4⟩:=m4.2 j l[j] (by simp[eu,hlt]);rw[anc hj,hje]at g1;cases g1;match k,O with
 |0,O=>cases O;exact .v _|1,O=>cases O;exact g3.mono st.fr.apS|2,O=>cases O;exact g4.mono st.fr.apS
variable {Z:Value->St->Prop}
theorem QI(hts:ts.ok P)(hG:X2 P G)(hr:ROk N ops)(hE:∀ k,E' k↔E k\/k=n)(W:¬E n)(ho:ops[n]? =some o)(V:∀ j b,o.guard=some (j,b)->E j)
  (hi:apC F w0 N ops E own st a w)  {K:Act->World->Prop} {next:St->Prop}  (hZ:∀ x own st a w,W2 F w0 N own st a w->Z x st->Q (.panic [{ v:=x,recovered:=false}]) a w)
  (O:QH G ops o.dst st next Z o.guard (opS ⟨ts,ops,o.guard,st,st.h.length⟩ o.op)) (hK:∀ own st a w,apC F w0 N ops E' own st a w->next st->K a w):
  (GOk ops a o.guard->(∀ c,o.op≠ .defer c)/\o.uponIn (rd ro) nd P a K Q ((execOp a.eval o).run P w))/\(¬GOk ops a o.guard->K (a.put o.dst undef) w):=by
 cases hg:o.guard with
 |none=>
  have hnd:∀ c,o.op≠ .defer c:=Bo (cx:=⟨ts,ops,o.guard,st,st.h.length⟩) (λe=>by rw[e,hg]at O;exact O);refine⟨λ_=>⟨hnd,?_⟩,λh=>absurd trivial h⟩;rw[hg]at O;have U:GOk ops a o.guard:=by grind
  have h:=OQ (P:=P) (ts:=ts) (ops:=ops) (g:=none) (t:=st.t) (h:=st.h) (nx:=st.h.length) hts hi.hp hi.hp.nx (a:=a) (o:=o) (J2 hi trivial (λk c e=>by cases e)) (λc x y _=>⟨λhc=>xK (g:=none) hi trivial (λk c e=>by cases e) c x true hc,λhc=>xK (g:=none) hi trivial (λk c e=>by cases e) c y false hc⟩);change lF G o.dst st next Z (opS ⟨ts,ops,none,⟨st.t,st.h⟩,st.h.length⟩ o.op)at O
  generalize opS ⟨ts,ops,none,⟨st.t,st.h⟩,st.h.length⟩ o.op=r at h O;cases r with
  |bad=>exact O.elim
  |val s=>
   obtain⟨u,e1,Y⟩:=h;exact fl (.inl e1) (hK _ _ _ _ (hi.aqi hr hE W ho V U (Below.refl _ _) Y).1 O)
  |chk c s=>
   obtain⟨u,e1,Y⟩:=h O.1;exact fl (.inl e1) (hK _ _ _ _ (hi.aqi hr hE W ho V U (Below.refl _ _) Y).1 O.2)
  |asm c s=>
   obtain⟨hc,u,e1,Y⟩:=h;exact fl (.inl e1) (hK _ _ _ _ (hi.aqi hr hE W ho V U (Below.refl _ _) Y).1 (O hc))
  |apY s=>
   obtain⟨u,cs,ty,e1,Y⟩:=h;exact fl (.inl e1) (hK _ _ _ _ (hi.aqi hr hE W ho V U (qE _ _) Y).1 O)
  |amb p=>
   obtain⟨b,h1,h2⟩:=h;exact fl (.inl h2) (hK _ _ _ _ (hi.aqi hr hE W ho V U (Below.refl _ _) (.v _)).1 (O b h1))
  |nxt id=>
   obtain⟨hd,b,e1,Y,ty,hrun⟩:=h;change XZ id o.dst st next (ap st.h id)at O
   cases hob:ap st.h id with
   |mi mid n' left cur=>
    rw[hob]at O;cases mid with
    |none=>exact O.elim
    |some mid=>
     change T6 id mid n' left o.dst st next (ap st.h mid)at O
     cases hm:ap st.h mid with
     |mp kk vk l ap1=>
      rw[hm]at O;cases ap1 with
      |none=>exact O.elim
      |some q=>
      obtain⟨it,q⟩:=q;cases q with
      |some _=>exact O.elim
      |none=>
       obtain⟨⟨x0,x1⟩,x2,x3⟩:=O;subst x0;rcases aba (P:=P) hi.hp e1 Y hob hm x1 ty with⟨q1,q2⟩ | ⟨j,q1,u,w',q2,q3,q4⟩;exact fl (.inl (hrun _ _ q2)) (hK _ _ _ _ (hi.aqi hr hE W ho V U (Below.refl _ _) (.tup rfl λk s hk=>by
        match k,hk with
        |0,hk=>cases hk;exact .v _)).1 (x2 q1))
       exact fl (.inl (hrun _ _ q2)) (hK _ _ _ _ (hi.aqe hr hE W ho V U q3.hp q3.fr q4).1 (x3 j q1))
     |_=>rw[hm]at O;exact O.elim
   |_=>rw[hob]at O;exact O.elim
  |eff c ac ups s=>
   obtain⟨hc,O⟩:=O;obtain⟨ha,u,bn,w',e1,Y,e3⟩:=h hc;exact fl e1 (hK _ _ _ _ (hi.aqe hr hE W ho V U e3.hp e3.fr Y).1 (O ha))
  |call f args=>
   obtain⟨vs,e1,Y⟩:=h;change wH (args.all (c8 3)) (reach st.h 64 (args.flatMap (fA 3)) []) o.dst st next Z (G.o f (args.map (ren (inN (reach st.h 64 (args.flatMap (fA 3)) [])) 6)) (rK st.h (reach st.h 64 (args.flatMap (fA 3)) []))) (G.p f (args.map (fD st.h 6)))at O
   have hx2:yC (reach st.h 64 (args.flatMap (fA 3)) []) o.dst st next Z (G.o f (args.map (ren (inN (reach st.h 64 (args.flatMap (fA 3)) [])) 6)) (rK st.h (reach st.h 64 (args.flatMap (fA 3)) [])))\/∃ c,G.p f (args.map (fD st.h 6))=some c/\wH (args.all (c8 3)) (reach st.h 64 (args.flatMap (fA 3)) []) o.dst st next Z (G.o f (args.map (ren (inN (reach st.h 64 (args.flatMap (fA 3)) [])) 6)) (rK st.h (reach st.h 64 (args.flatMap (fA 3)) []))) (some c)/\¬ (∃ p s,c=.det p s/\(args.all (c8 3) ||i6 3 s)=false):=by
    cases hc:G.p f (args.map (fD st.h 6))with
    |none=>rw[hc]at O;exact .inl O
    |some c=>
     rw[hc]at O;by_cases hdet:∃ p s,c=.det p s/\(args.all (c8 3) ||i6 3 s)=false
     obtain⟨p,s,rfl,hb⟩:=hdet;left;change (bif args.all (c8 3) ||i6 3 s then _ else _)at O;grind
     grind
   clear O;rcases hx2 with O| ⟨c,hc,O,hdet⟩
   ·have aqs:=EP hi.hp e1;have hn:=qJ st.h 64 (args.flatMap (fA 3)) [] amV;generalize reach st.h 64 (args.flatMap (fA 3)) []=ids at O aqs hn;change yC ids o.dst st next Z (G.o f (args.map (ren (inN ids) 6)) (rK st.h ids))at O
    cases ho2:G.o f (args.map (ren (inN ids) 6)) (rK st.h ids)with
    |none=>rw[ho2]at O;exact O.elim
    |some c=>
     rw[ho2]at O;obtain⟨hpre,O⟩:=O;obtain⟨k1,k2⟩:=Mj hG hi.hp e1 hn ho2 hpre aqs;rw[Y,k1];refine⟨λh=>(by cases h),?_⟩;refine CallsIn.mono (mT k2) ?_;rintro e w' ⟨r,bn,hr1,hr2⟩;have O:=O r hr1;cases hres:c.res r with
     |ret s h'=>
      rw[hres]at hr2 O;obtain⟨⟨u,rfl,ap6⟩,hp',hfr⟩:=hr2;exact hK _ _ _ _ (hi.aqe hr hE W ho V U hp' hfr ap6).1 O
     |pan x h'=>
      rw[hres]at hr2 O;obtain⟨rfl,hp',hfr⟩:=hr2;exact hZ x bn ⟨apW st.t,mE ids st.h.length st.h 0 h'⟩ a w' (hi.out.aqY hp' hfr) O
   ·have hcall:an c/\(args.all (c8 3)=true\/∀ s,dL c s->i6 3 s=true)/\(∀ s,dL c s->next (St.put ⟨st.t,st.h++aS 3 s⟩ o.dst (iE 3 st.h.length s)))/\∀ x,ke c x->Z x ⟨apW st.t,st.h⟩:=by
     cases c with
     |det p s=>
      change (bif args.all (c8 3) ||i6 3 s then _ else _)at O;cases hb:args.all (c8 3) ||i6 3 s with
      |false=>grind
      |true=>
       rw[hb]at O;obtain⟨hp,O⟩:=O;refine⟨hp,?_,λs' hs'=>by cases hs';exact O,λx h=>h.elim⟩;rw[ama]at hb;exact hb.imp id (λh s' hs'=>by cases hs';exact h)
     |rel α pre post out=>
      obtain⟨hp,O⟩:=O;cases hb:args.all (c8 3)with
      |false=>grind
      |true=>
       rw[hb]at O;refine⟨hp,.inl rfl,λs' hs'=>?_,λx h=>h.elim⟩;obtain⟨r,h1,rfl⟩:=hs';exact O r h1
     |may ok s x=>
      change (bif args.all (c8 3) ||i6 3 s then(ok=true->next (St.put ⟨st.t,st.h++aS 3 s⟩ o.dst (iE 3 st.h.length s)))/\(ok=false->Z x ⟨apW st.t,st.h⟩)else False)at O;cases hb:args.all (c8 3) ||i6 3 s with
      |false=>grind
      |true=>
       rw[hb]at O;refine⟨trivial,?_,λs' hs'=>by obtain⟨h1,rfl⟩:=hs';exact O.1 h1,λx' hs'=>by obtain⟨h1,rfl⟩:=hs';exact O.2 h1⟩;rw[ama]at hb;exact hb.imp id (λh s' hs'=>by obtain⟨_,rfl⟩:=hs';exact h)
    obtain⟨q1,q2,q3,q4⟩:=hcall;obtain⟨k1,k2⟩:=DL (P:=P) hG hi.hp e1 hc q1 q2;rw[Y,k1];refine⟨λh=>(by cases h),?_⟩;refine CallsIn.mono (mT k2) ?_;rintro e w' (⟨s,u,A1,m1,rfl,m2,m3,m4,m5⟩ | ⟨x,m1,rfl,m4⟩);exact hK _ _ _ _ (hi.aqe hr hE W ho V U m2 m3 m4).1 (q3 s m1);exact hZ x own ⟨apW st.t,st.h⟩ a w' (hi.out.aqY (hi.hp.below m4) (EQ own m4)) (q4 x m1)
  |yld id args=>
   obtain⟨hd,e0,vs,e1,Y⟩:=h;change (bif args.all (c8 3)then Oq id o.dst st next (JM G args (ap st.h id))else False)at O;cases hb:args.all (c8 3)with
   |false=>grind
   |true=>
    rw[hb]at O;cases hob:ap st.h id with
    |ab r=>
     rw[hob]at O;change Oq id o.dst st next (G.y args r)at O
     cases hc:G.y args r with
     |none=>rw[hc]at O;exact O.elim
     |some c=>
      rw[hc]at O;obtain⟨hpre,O⟩:=O;have mono:∀ (w':World) a' A1,c.post a'->Hp F A1 w' (cm st.h id (.ab (c.res a').2))->Fr { w:=w,own:=own} A1 w'->K (a.put o.dst (.bool (c.res a').1)) w':=by
       intro w' a' A1 m1 m2 m3;exact hK _ _ _ _ (hi.aqe hr hE W ho V U m2 m3 (.v _)).1 (O a' m1)
      rcases Mk hG hi.hp e0 e1 hb hob hc hpre with⟨f,as,k1,k2⟩ | ⟨l,f,tmps,as,bd,k1,k2⟩;rw[Y,k1];exact⟨λh=>(by cases h),CallsIn.mono (mT k2) (by grind)⟩;rw[Y,k1];exact⟨λh=>(by cases h),RoundIn.mono (Mh k2) (by grind)⟩
    |_=>rw[hob]at O;exact O.elim
  |pan x=>
   rw[show(execOp a.eval o).run P w=.halt (.panic x) w from h];exact hZ x own ⟨apW st.t,st.h⟩ a w hi.out O
 |some g=>
  rw[hg]at O;have hlt:=hr.lt n o g.1 g.2 ho hg;have hrf:mS ops g.1:=⟨n,o,g.2,ho,hg⟩;have hjE:E g.1:=V g.1 g.2 hg;change stepG G ops g o.dst st next Z (opS ⟨ts,ops,some g,⟨st.t,st.h⟩,st.h.length⟩ o.op)at O
  refine⟨λaqZ=>?_,λaqZ=>?_⟩
  ·have U:GOk ops a o.guard:=by grind
   have hgp:dO ops st.t ops.length g:=uE hi n (λ_ _ _ _ _ _ _ _=>rfl) hr.lt _ g hlt hjE hrf aqZ;have hnd:∀ c,o.op≠ .defer c:=Bo (cx:=⟨ts,ops,o.guard,st,st.h.length⟩) (λe=>by rw[hg]at e;rw[show(opS ⟨ts,ops,some g,⟨st.t,st.h⟩,st.h.length⟩ o.op)=.bad from e]at O;exact DN _ _ hgp O.1);refine⟨hnd,?_⟩;have hgn:∀ k c,some g=some (k,c)->E k/\mS ops k:=λk c e=>by grind
   have h:=OQ (P:=P) (ts:=ts) (ops:=ops) (g:=some g) (t:=st.t) (h:=st.h) (nx:=st.h.length) hts hi.hp hi.hp.nx (a:=a) (o:=o) (J2 hi aqZ hgn) (λc x y _=>⟨λhc=>xK hi aqZ hgn c x true hc,λhc=>xK hi aqZ hgn c y false hc⟩);generalize opS ⟨ts,ops,some g,⟨st.t,st.h⟩,st.h.length⟩ o.op=r at h O;cases r with
   |bad=>exact(DN _ _ hgp O.1).elim|pan x=>exact O.elim|nxt id=>exact O.elim|amb p=>exact O.elim
   |val s=>
    obtain⟨u,e1,Y⟩:=h;exact fl (.inl e1) (hK _ _ _ _ ((hi.aqi hr hE W ho V U (Below.refl _ _) Y).2 g hg) O)
   |chk c s=>
    obtain⟨u,e1,Y⟩:=h (O.1 hgp);exact fl (.inl e1) (hK _ _ _ _ ((hi.aqi hr hE W ho V U (Below.refl _ _) Y).2 g hg) O.2)
   |asm c s=>
    obtain⟨_,u,e1,Y⟩:=h;exact fl (.inl e1) (hK _ _ _ _ ((hi.aqi hr hE W ho V U (Below.refl _ _) Y).2 g hg) O)
   |apY s=>
    obtain⟨u,cs,ty,e1,Y⟩:=h;exact fl (.inl e1) (hK _ _ _ _ ((hi.aqi hr hE W ho V U (qE _ _) Y).2 g hg) O)
   |eff c ac ups s=>
    obtain⟨hc,O⟩:=O.1 hgp;obtain⟨ha,u,bn,w',e1,Y,e3⟩:=h hc;exact fl e1 (hK _ _ _ _ ((hi.aqe hr hE W ho V U e3.hp e3.fr Y).2 g hg) (O ha))
   |call f args=>
    obtain⟨vs,e1,Y⟩:=h;change Ei (args.all (c8 3)) (reach st.h 64 (args.flatMap (fA 3)) []) ops g o.dst st next Z (G.o f (args.map (ren (inN (reach st.h 64 (args.flatMap (fA 3)) [])) 6)) (rK st.h (reach st.h 64 (args.flatMap (fA 3)) []))) (G.p f (args.map (fD st.h 6)))at O
    cases hc:G.p f (args.map (fD st.h 6))with
    |none=>
     rw[hc]at O;have aqs:=EP hi.hp e1;have hn:=qJ st.h 64 (args.flatMap (fA 3)) [] amV;generalize reach st.h 64 (args.flatMap (fA 3)) []=ids at O aqs hn;change y5 ids ops g o.dst st next Z (G.o f (args.map (ren (inN ids) 6)) (rK st.h ids))at O
     cases ho2:G.o f (args.map (ren (inN ids) 6)) (rK st.h ids)with
     |none=>rw[ho2]at O;exact(DN _ _ hgp O.1).elim
     |some c=>
      rw[ho2]at O;obtain⟨hpre,O⟩:=O.1 hgp;obtain⟨k1,k2⟩:=Mj hG hi.hp e1 hn ho2 hpre aqs;rw[Y,k1];refine⟨λh=>(by cases h),?_⟩;refine CallsIn.mono (mT k2) ?_;rintro e w' ⟨r,bn,hr1,hr2⟩;have O:=O r hr1;cases hres:c.res r with
      |ret s h'=>
       rw[hres]at hr2 O;obtain⟨⟨u,rfl,ap6⟩,hp',hfr⟩:=hr2;exact hK _ _ _ _ ((hi.aqe hr hE W ho V U hp' hfr ap6).2 g hg) O
      |pan x h'=>
       rw[hres]at hr2 O;obtain⟨rfl,hp',hfr⟩:=hr2;exact hZ x bn ⟨apW st.t,mE ids st.h.length st.h 0 h'⟩ a w' (hi.out.aqY hp' hfr) O
    |some c=>
     rw[hc]at O;cases c with
     |rel=>exact O.elim|may=>exact O.elim
     |det p s=>
      obtain⟨hp,O⟩:=O;cases hb:(args.all (c8 3) ||i6 3 s)&&(aS 3 s).isEmpty with
      |false=>grind
      |true=>
       rw[hb]at O;rw[alG,ama]at hb;obtain⟨k1,k2⟩:=DL (P:=P) hG hi.hp e1 hc (hp hgp) (hb.1.imp id (λh s' hs'=>by cases hs';exact h));rw[Y,k1];refine⟨λh=>(by cases h),?_⟩;refine CallsIn.mono (mT k2) ?_;rintro e w' (⟨s',u,A1,rfl,rfl,m2,m3,m4,m5⟩ | ⟨x,m1,_⟩);have hz:aS 3 s'=[]:=List.isEmpty_iff.1 hb.2;rw[hz,al3]at m2;rw[CD 3 _ s' hz]at m4;exact hK _ _ _ _ ((hi.aqe hr hE W ho V U m2 m3 m4).2 g hg) O;exact m1.elim
   |yld id args=>
    obtain⟨hd,e0,vs,e1,Y⟩:=h;change (bif args.all (c8 3)then LS id ops g o.dst st next (JM G args (ap st.h id))else False)at O;cases hb:args.all (c8 3)with
    |false=>grind
    |true=>
     rw[hb]at O;cases hob:ap st.h id with
     |ab r=>
      rw[hob]at O;change LS id ops g o.dst st next (G.y args r)at O
      cases hc:G.y args r with
      |none=>rw[hc]at O;exact O.elim
      |some c=>
       rw[hc]at O;obtain⟨hpre,O⟩:=O.1 hgp;have mono:∀ (w':World) a' A1,c.post a'->Hp F A1 w' (cm st.h id (.ab (c.res a').2))->Fr { w:=w,own:=own} A1 w'->K (a.put o.dst (.bool (c.res a').1)) w':=by
        intro w' a' A1 m1 m2 m3;exact hK _ _ _ _ ((hi.aqe hr hE W ho V U m2 m3 (.v _)).2 g hg) (O a' m1)
       rcases Mk hG hi.hp e0 e1 hb hob hc hpre with⟨f,as,k1,k2⟩ | ⟨l,f,tmps,as,bd,k1,k2⟩;rw[Y,k1];exact⟨λh=>(by cases h),CallsIn.mono (mT k2) (by grind)⟩;rw[Y,k1];exact⟨λh=>(by cases h),RoundIn.mono (Mh k2) (by grind)⟩
     |_=>rw[hob]at O;exact O.elim
  ·have U:¬GOk ops a o.guard:=by grind
   have hgN:gi ops st.t ops.length g:=Bm hi _ g hjE hrf aqZ;have X:=λs=>hi.skip hr hE W ho V U hg (s:=s);generalize opS ⟨ts,ops,some g,⟨st.t,st.h⟩,st.h.length⟩ o.op=r at O;cases r with
   |bad=>exact hK _ _ _ _ (X .any) O.2|pan x=>exact O.elim|nxt id=>exact O.elim|amb p=>exact O.elim|val s=>exact hK _ _ _ _ (X _) O|chk c s=>exact hK _ _ _ _ (X _) O.2|asm c s=>exact hK _ _ _ _ (X _) O|apY s=>exact hK _ _ _ _ (X _) O|eff c ac ups s=>exact hK _ _ _ _ (X _) (O.2 hgN)
   |call f args=>
    change Ei (args.all (c8 3)) (reach st.h 64 (args.flatMap (fA 3)) []) ops g o.dst st next Z (G.o f (args.map (ren (inN (reach st.h 64 (args.flatMap (fA 3)) [])) 6)) (rK st.h (reach st.h 64 (args.flatMap (fA 3)) []))) (G.p f (args.map (fD st.h 6)))at O
    cases hc:G.p f (args.map (fD st.h 6))with
    |none=>
     rw[hc]at O;generalize reach st.h 64 (args.flatMap (fA 3)) []=ids at O;change y5 ids ops g o.dst st next Z (G.o f (args.map (ren (inN ids) 6)) (rK st.h ids))at O
     cases ho2:G.o f (args.map (ren (inN ids) 6)) (rK st.h ids)with
     |none=>rw[ho2]at O;exact hK _ _ _ _ (X .any) O.2
     |some c=>
      rw[ho2]at O;exact hK _ _ _ _ (X .any) (O.2 hgN)
    |some c=>
     rw[hc]at O;cases c with
     |rel=>exact O.elim|may=>exact O.elim
     |det p s=>
      obtain⟨hp,O⟩:=O;grind
   |yld id args=>
    change (bif args.all (c8 3)then LS id ops g o.dst st next (JM G args (ap st.h id))else False)at O;cases hb:args.all (c8 3)with
    |false=>grind
    |true=>
     rw[hb]at O;cases hc:JM G args (ap st.h id)with
     |none=>rw[hc]at O;exact O.elim|some c=>rw[hc]at O;exact hK _ _ _ _ (X .any) (O.2 hgN)
theorem apC.congr{O:Nat->Prop}(h:∀ k,E k↔O k){st:St}(hi:apC F w0 N ops E own st a w):apC F w0 N ops O own st a w:=by
 have:E=O:=funext λk=>propext (h k);grind
theorem apC.all {st:St}(X:ROk N ops){n:Nat}(hn:ops.length<=n)(hi:apC F w0 N ops (· <n) own st a w):apC F w0 N ops (· <ops.length) own st a w:=by
 refine⟨hi.size,hi.defers,hi.hp,hi.fr,λt=>?_,λk o d j b s W=>hi.tags k o d j b s (by omega),λk o j b W O Y=>by have:=X.lt k o j b O Y;omega,λk o b W E O hy=>hi.chain k o b (by omega) E O hy⟩;have:=hi.slots t;cases V:lk t st.t with
 |gd j b s=>
  rw[V]at this;obtain⟨_,⟨i,o,U,h1,h2⟩,h3⟩:=this;exact⟨by have:=X.lt i o j U h1 h2;grind,⟨i,o,U,h1,h2⟩,h3⟩
 |_=>rw[V]at this;exact this
theorem J8{ts:Tis}{G:Cons}{ops:List Oper}{rest:List Oper}{st:St}{K:St->Prop}(h:jh ts G ops (o::rest) st K Z):
  QH G ops o.dst st (λst'=>jh ts G ops rest st' K Z) Z o.guard (opS ⟨ts,ops,o.guard,st,st.h.length⟩ o.op):=by
 simp only[jh]at h;cases E:o.guard <;>rw[E]at h <;>exact h
theorem OT (E:ts.ok P)(hG:X2 P G)(U:ROk N ops){Q:Exit->Act->World->Prop}{K:St->Prop}{Z:Value->St->Prop}(hZ:∀ x own st a w,W2 F w0 N own st a w->Z x st->Q (.panic [{ v:=x,recovered:=false}]) a w):
  ∀ (rest:List Oper) (n:Nat) (own:Own) (st:St) (a:Act) (w:World),ops.drop n=rest->apC F w0 N ops (· <n) own st a w->jh ts G ops rest st K Z->
  (∀ own st a w,apC F w0 N ops (· <ops.length) own st a w->K st->Q .normal a w)->wpListIn (rd ro) nd P ops.toArray Q rest a w
 | [],n,own,st,a,w,hd,hi,V,X=>by
  have hn:ops.length<=n:=by
   simp_all
  exact X own st a w (hi.all U hn) V
 |o::rest,n,own,st,a,w,hd,hi,V,X=>by
  obtain⟨ho,hd'⟩:=EO hd;have ih:=λbn st' a' w' (Y:apC F w0 N ops (· <n+1) bn st' a' w') W=>OT E hG U hZ rest (n+1) bn st' a' w' hd' Y W X;obtain⟨h1,h2⟩:=QI (ro:=ro) (nd:=nd) E hG U (tU n) (amI n) ho (λj b e=>U.lt n o j b ho e) hi hZ (J8 V) ih;by_cases O:GOk ops a o.guard
  obtain⟨hnd,h1⟩:=h1 O;unfold wpListIn;rw[if_pos (mq.2 O)];refine⟨λ_ _=>trivial,?_⟩;grind [Oper.semAt_eq];grind [mq,wpListIn]
end
def af2 (o:Ob):Prop:=o=.dead\/o=.fwd none
def aqm (o o':Ob):Prop:=o=o'\/(∃ (kk vk:Tag) (l:List (kk.T×vk.T)) (p p':Option (Nat×Option kk.T)),o=.mp kk vk l p/\o'=.mp kk vk l p')\/(af2 o/\af2 o')
theorem aqm.refl (o:Ob):aqm o o:=.inl rfl
theorem aqm.symm {a b:Ob}(h:aqm a b):aqm b a:=by
 rcases h with rfl| ⟨kk,E,l,p,p',U,O⟩ | ⟨h1,h2⟩;exact .inl rfl;exact .inr (.inl ⟨kk,E,l,p',p,O,U⟩);exact .inr (.inr ⟨h2,h1⟩)
theorem aqm.trans {a b c:Ob}(h:aqm a b)(h':aqm b c):aqm a c:=by
 rcases h with rfl| ⟨kk,X,l,p,p',e1,O⟩ | ⟨h1,h2⟩;exact h';rcases h' with rfl| ⟨U,V,l',q,Y,E,W⟩ | ⟨h3,h4⟩;exact .inr (.inl ⟨kk,X,l,p,p',e1,O⟩);rw[O]at E;cases E;exact .inr (.inl ⟨kk,X,l,p,Y,e1,W⟩);rw[O]at h3;rcases h3 with h3|h3 <;>cases h3;rcases h' with rfl| ⟨U,V,l',q,Y,E,W⟩ | ⟨h3,h4⟩;exact .inr (.inr ⟨h1,h2⟩);rw[E]at h2;rcases h2 with h2|h2 <;>cases h2;exact .inr (.inr ⟨h1,h4⟩)
theorem ID (a b:List Up):fe (a++b)=fe a++fe b:=by
 induction a with
 |nil=>rfl|cons x r E=>simp[fe,E]
section
variable {h h':List Ob}
theorem Ml (ti:TI){s:SV}(E:∀ id∈fM s,ap h id=ap h' id):qC ti h s=qC ti h' s:=by
 cases s <;>first|rfl|(simp only[fM,aml,forall_eq]at E;simp only[qC,E])
theorem Ab (n:Nat){s:SV}(l:Option (List SV))(E:∀ id∈fM s,ap h id=ap h' id):rg n h s l=rg n h' s l:=by
 cases l <;>cases s <;>first|rfl|(simp only[fM,aml,forall_eq]at E;simp only[rg,E])
theorem J9 (n nx:Nat){s E:SV}(U:∀ id∈fM s++fM E,ap h id=ap h' id):rh n nx h s E=rh n nx h' s E:=by
 have h1:∀ id∈fM s,ap h id=ap h' id:=λid hi=>U id (an2 _ hi);unfold rh;split
 rename_i sz id i off O;have V:=h1 id (by simp[fM]);have W:=U O (by simp[fM]);rw[V,Ab n _ h1];simp_all [Eb];exact Ab _ _ h1
theorem J_ (ti:TI)(n:Nat){s:SV}(i:SV)(E:∀ id∈fM s,ap h id=ap h' id):ii ti n h s i=ii ti n h' s i:=by
 cases i with
 |v x=>cases x <;>cases s <;>first|rfl|(simp only[fM,aml,forall_eq]at E;simp only[ii,E])
 |_=>cases s <;>rfl
theorem Ka (ti:TI)(n nx:Nat){s:SV}(lo hi:Option SV)(E:Bool)(O:∀ id∈fM s,ap h id=ap h' id):mH ti n nx h lo hi E s=mH ti n nx h' lo hi E s:=by
 cases s <;>first|rfl|simp_all [fM,mH]
theorem Mm (ti:TI)(ok:Bool)(key:SV){s:SV}(E:∀ id∈fM s,ap h id=ap h' id):tI ti h ok key s=tI ti h' ok key s:=by
 cases s <;>first|rfl|(rename_i x;cases x <;>first|rfl|(rename_i y;cases y <;>rfl)) |simp_all [fM,tI]
theorem OU (ti:TI)(key:SV){s:SV}(E:∀ id∈fM s,aqm (ap h id) (ap h' id)):tI ti h false key s=tI ti h' false key s:=by
 cases s with
 |os id=>
  simp only[fM,aml,forall_eq]at E;simp only[tI];rcases E with e| ⟨kk,V,l,p,p',U,O⟩ | ⟨h1,h2⟩;rw[e];rw[U,O];simp only[Qr,amd,aox];rcases h1 with h1|h1 <;>rcases h2 with h2|h2 <;>rw[h1,h2] <;>rfl
 |v x=>cases x <;>first|rfl|(rename_i y;cases y <;>rfl)
 |_=>rfl
theorem ER (ti:TI)(key v:SV){s:SV}(E:∀ id∈fM s,ap h id=ap h' id):C4 ti h key v s=C4 ti h' key v s:=by
 cases s <;>first|rfl|simp_all [fM,C4]
theorem OV (ti:TI)(nx:Nat){h h':List Ob}{s:SV}(h1:∀ id∈fM s,ap h id=ap h' id):Eg ti nx h s=Eg ti nx h' s:=by
 cases s with
 |os id=>grind [Eg,fM]|_=>rfl
theorem Mn {h h':List Ob}{s:SV}(h1:∀ id∈fM s++T3 h s,ap h id=ap h' id):Cu h s=Cu h' s:=by
 cases s with
 |ptr id off=>
  cases off with
  |zero=>
   have e:=h1 id (by simp[fM]);simp only[Cu];rw[<-e];cases U:ap h id with
   |mi E n left O=>
    cases E with
    |none=>rfl
    |some E=>
     cases O with
     |none=>rfl
     |some j=>
      grind [Qs,T3,T0]
   |_=>rfl
  |succ n=>rfl
 |_=>rfl
theorem OW (ti:TI)(nx:Nat)(key:SV){s:SV}(E:∀ id∈fM s,ap h id=ap h' id):yf ti nx h key s=yf ti nx h' key s:=by
 cases s <;>first|rfl|simp_all [fM,yf]
theorem OX (ti:TI)(v:SV){s:SV}(n:SV)(E:∀ id∈fM s,ap h id=ap h' id):JH ti h v s n=JH ti h' v s n:=by
 cases n with
 |os x=>cases s <;>first|rfl|simp_all [fM,JH]
 |_=>cases s <;>rfl
theorem OY (ti te:TI)(l:List SV)(E:∀ id∈ph l,ap h id=ap h' id):yZ ti te h l=yZ ti te h' l:=by
 match l with
 | [] =>rfl
 | [x] =>cases x <;>first|rfl|grind [yZ,ph,JI,fM]
 |x::_::_=>cases x <;>rfl
theorem OZ (ti:TI)(l:List SV)(E:∀ id∈ph l,ap h id=ap h' id):y3 ti h l=y3 ti h' l:=by
 match l with
 | [] =>rfl| [x] =>cases x <;>rfl
 | [x,y] =>cases x <;>first|rfl|grind [y3,ph,JI,fM]
 |x::_::_::_=>cases x <;>rfl
theorem O0 (ti:TI)(l:List SV)(E:∀ id∈ph l,ap h id=ap h' id):ua ti h l=ua ti h' l:=by
 match l with
 | [] =>rfl
 | [x] =>
  cases x <;>first|rfl|(rename_i y;cases y <;>first|rfl|(rename_i a n c;cases a <;>cases n <;>cases c <;>rfl)) |(simp only[ph,JI,fM,al3,aml,forall_eq]at E;simp only[ua,E])
 |x::_::_=>cases x <;>first|rfl|(rename_i y;cases y <;>first|rfl|(rename_i a n c;cases a <;>cases n <;>cases c <;>rfl))
theorem Kb (id:Nat)(r:List SV):id∈ph (.os id::r):=by simp[ph,JI,fM]
theorem QJ (x:SV)(z id:Nat)(r:List SV):id∈ph (x:: .ls z [.os id]::r):=by simp[ph,JI]
theorem Uv (x:SV)(id:Nat)(r:List SV):id∈ph (x:: .os id::r):=by simp[ph,JI,fM]
theorem Uw (x:SV)(s id:Nat)(lo hi:Int)(r:List SV):id∈ph (x:: .vw s id lo hi::r):=by simp[ph,JI,fM]
theorem ES (k:Tag)(x s:SV)(r:List SV)(E:∀ id∈ph (x::s::r),ap h id=ap h' id):ur k h s=ur k h' s:=by
 cases s with
 |os id=>grind [ur,Uv]|vw s id lo hi=>grind [ur,Uw]
 |v y=>cases y <;>first|rfl|(rename_i a n c;cases a <;>cases n <;>cases c <;>rfl)
 |_=>rfl
theorem O1 (te:TI)(nx:Nat)(l:List SV)(O:∀ id∈ph l,ap h id=ap h' id):ml te nx h l=ml te nx h' l:=by
 have V:∀ (E:List Up) (s x:SV) (o:Ob),(∀ id∈ph [x,s],ap h id=ap h' id)->wh te nx E h s o=wh te nx E h' s o:=by
  intro E s x o O;cases o with
  |row k l=>simp only[wh];rw[ES k x s [] O]|_=>rfl
 have U:∀ (id2:Nat) (E:List Up) (o:Ob),ap h id2=ap h' id2->Ee nx te.bytes h id2 E o=Ee nx te.bytes h' id2 E o:=by
  simp_all [Ee]
 have W:∀ (s x:SV) (o:Option Tag),(∀ id∈ph [x,s],ap h id=ap h' id)->u_ te nx h s o=u_ te nx h' s o:=by
  intro s x o O;cases o with
  |none=>rfl|some k=>exact V [] s x (.row k []) O
 unfold ml;split
 rename_i id id2;rw[U id2 _ _ (O id2 (QJ _ _ _ _)),O id (Kb _ _)];rename_i id2;rw[O id2 (QJ _ _ _ _)];rename_i id id2;rw[V _ (.os id2) _ _ O,O id (Kb _ _)];rename_i id s _ _;rw[V _ s _ _ O,O id (Kb _ _)];rename_i s _;exact W s _ _ O;rename_i s;exact W s _ _ O;rename_i k l s;unfold XQ;rw[ES k _ s [] O];rfl
end
def sG {ts:Tis}{ops:List Oper}{g:Option (Nat×Bool)}{h h':List Ob}{nx nx':Nat}{t t':List (Nat×SV)}:∀ (l:List Operand),(∀ x∈l,raw t x=raw t' x)->dm ⟨ts,ops,g,⟨t,h⟩,nx⟩ l=dm ⟨ts,ops,g,⟨t',h'⟩,nx'⟩ l
 | [],_=>rfl
 |x::r,E=>by
  simp only[dm];rw[sG r λy hy=>E y (by simp[hy])];have:val ⟨ts,ops,g,⟨t,h⟩,nx⟩ x=val ⟨ts,ops,g,⟨t',h'⟩,nx'⟩ x:=by show bH ops g (raw t x)=bH ops g (raw t' x);rw[E x (by simp)]
  rw[this]
def tV {ts:Tis}{ops:List Oper}{g:Option (Nat×Bool)}{h h':List Ob}{nx nx':Nat}{t t':List (Nat×SV)}:∀ (l:List (Nat×Operand)),(∀ x∈l,raw t x.2=raw t' x.2)->iD ⟨ts,ops,g,⟨t,h⟩,nx⟩ l=iD ⟨ts,ops,g,⟨t',h'⟩,nx'⟩ l
 | [],_=>rfl
 |(i,x)::r,E=>by
  simp only[iD];rw[tV r λy hy=>E y (by simp[hy])];have:val ⟨ts,ops,g,⟨t,h⟩,nx⟩ x=val ⟨ts,ops,g,⟨t',h'⟩,nx'⟩ x:=by show bH ops g (raw t x)=bH ops g (raw t' x);rw[E (i,x) (by simp)]
  rw[this]
variable {ops:List Oper}{g:Option (Nat×Bool)}{h:List Ob}{nx':Nat}{t t':List (Nat×SV)}
theorem sH{ts:Tis}{h':List Ob}{nx:Nat}(o:Option Operand)(E:∀ x∈o,raw t x=raw t' x):ov ⟨ts,ops,g,⟨t,h⟩,nx⟩ o=ov ⟨ts,ops,g,⟨t',h'⟩,nx'⟩ o:=by
 cases o with
 |none=>rfl
 |some x=>show some (bH ops g (raw t x))=some (bH ops g (raw t' x));rw[E x rfl]
theorem Su{ts:Tis}{h':List Ob}{nx:Nat}(op:Op)(U:∀ x∈op.operands.toList,raw t x=raw t' x)
  (h1:∀ id∈(fpO ⟨ts,ops,g,⟨t,h⟩,nx⟩ op).1,ap h id=ap h' id) (h2:∀ id∈(fpO ⟨ts,ops,g,⟨t,h⟩,nx⟩ op).2,aqm (ap h id) (ap h' id)):
  opS ⟨ts,ops,g,⟨t,h⟩,nx⟩ op=opS ⟨ts,ops,g,⟨t',h'⟩,nx⟩ op:=by
 have E:∀ x∈op.operands.toList,val ⟨ts,ops,g,⟨t',h'⟩,nx⟩ x=val ⟨ts,ops,g,⟨t,h⟩,nx⟩ x:=λx Y=>by
  show bH ops g (raw t' x)=bH ops g (raw t x);rw[U x Y]
 cases op with
 |call c=>
  obtain⟨W,args,tys⟩:=c;have V:dm ⟨ts,ops,g,⟨t',h'⟩,nx⟩ args.toList=dm ⟨ts,ops,g,⟨t,h⟩,nx⟩ args.toList:=(sG _ λx Y=>U x (by grind [Op.operands,Call.operands])).symm;cases W with
  |value f=>
   have hf:=E f (by simp[Op.operands,Call.operands]);show zO _ _=zO _ _;rw[V,hf]
  |invoke f m=>rfl
  |builtin b=>
   cases b <;>first|rfl|skip
   show(match tys.toList with| [t1,t2] =>aJ ts t1 λti=>aJ ts t2 λX=>aJ ts ti.elem λte=>bif ti.isSlice&&X.isSlice then ml te nx h (dm ⟨ts,ops,g,⟨t,h⟩,nx⟩ args.toList)else .bad|_=>.bad)=(match tys.toList with| [t1,t2] =>aJ ts t1 λti=>aJ ts t2 λX=>aJ ts ti.elem λte=>bif ti.isSlice&&X.isSlice then ml te nx h' (dm ⟨ts,ops,g,⟨t',h'⟩,nx⟩ args.toList)else .bad|_=>.bad);rw[V];have e:∀ te:TI,ml te nx h (dm ⟨ts,ops,g,⟨t,h⟩,nx⟩ args.toList)=ml te nx h' (dm ⟨ts,ops,g,⟨t,h⟩,nx⟩ args.toList):=λte=>O1 te nx _ h1;simp only[e];show(match tys.toList with| [t1] =>aJ ts t1 λti=>aJ ts ti.elem λte=>yZ ti te h (dm ⟨ts,ops,g,⟨t,h⟩,nx⟩ args.toList) |_=>.bad)=(match tys.toList with| [t1] =>aJ ts t1 λti=>aJ ts ti.elem λte=>yZ ti te h' (dm ⟨ts,ops,g,⟨t',h'⟩,nx⟩ args.toList) |_=>.bad);rw[V];have e:∀ ti te:TI,yZ ti te h (dm ⟨ts,ops,g,⟨t,h⟩,nx⟩ args.toList)=yZ ti te h' (dm ⟨ts,ops,g,⟨t,h⟩,nx⟩ args.toList):=λti te=>OY ti te _ h1;simp only[e];show(match tys.toList with|t1::_=>aJ ts t1 λti=>y3 ti h (dm ⟨ts,ops,g,⟨t,h⟩,nx⟩ args.toList) |_=>.bad)=(match tys.toList with|t1::_=>aJ ts t1 λti=>y3 ti h' (dm ⟨ts,ops,g,⟨t',h'⟩,nx⟩ args.toList) |_=>.bad);rw[V];have e:∀ ti:TI,y3 ti h (dm ⟨ts,ops,g,⟨t,h⟩,nx⟩ args.toList)=y3 ti h' (dm ⟨ts,ops,g,⟨t,h⟩,nx⟩ args.toList):=λti=>OZ ti _ h1;simp only[e];show(match tys.toList with| [t''] =>aJ ts t'' λti=>ua ti h (dm ⟨ts,ops,g,⟨t,h⟩,nx⟩ args.toList) |_=>.bad)=(match tys.toList with| [t''] =>aJ ts t'' λti=>ua ti h' (dm ⟨ts,ops,g,⟨t',h'⟩,nx⟩ args.toList) |_=>.bad);rw[V];have e:∀ ti:TI,ua ti h (dm ⟨ts,ops,g,⟨t,h⟩,nx⟩ args.toList)=ua ti h' (dm ⟨ts,ops,g,⟨t,h⟩,nx⟩ args.toList):=λti=>O0 ti _ h1;simp only[e];show JG _=JG _;rw[V];show JF _=JF _;rw[V]
 |build ty O=>
  have V:iD ⟨ts,ops,g,⟨t',h'⟩,nx⟩ O.toList=iD ⟨ts,ops,g,⟨t,h⟩,nx⟩ O.toList:=(tV _ λx Y=>U x.2 (by grind [Op.operands])).symm;grind [opS]
 |buildSlice ty n O=>
  have V:iD ⟨ts,ops,g,⟨t',h'⟩,nx⟩ O.toList=iD ⟨ts,ops,g,⟨t,h⟩,nx⟩ O.toList:=(tV _ λx Y=>U x.2 (by grind [Op.operands])).symm;grind [opS]
 |makeFunc fn first caps=>
  have V:dm ⟨ts,ops,g,⟨t',h'⟩,nx⟩ caps.toList=dm ⟨ts,ops,g,⟨t,h⟩,nx⟩ caps.toList:=(sG _ λx Y=>U x (by grind [Op.operands])).symm;have hb:dm ⟨ts,ops,g,⟨t',h'⟩,nx⟩ first.toList=dm ⟨ts,ops,g,⟨t,h⟩,nx⟩ first.toList:=(sG _ λx Y=>U x (by grind [Op.operands])).symm
  grind [opS]
 |pick c x y=>
  grind [Op.operands,opS]
 |move x=>grind [opS,Op.operands]|assign x=>grind [opS,Op.operands]|box ty x=>grind [opS,Op.operands]
 |load ty x=>
  simp only[opS,E x (by simp[Op.operands])];exact congrArg _ (funext λti=>Ml ti h1)
 |store ty x y=>
  simp only[opS,E x (by simp[Op.operands]),E y (by simp[Op.operands])];exact congrArg _ (funext λti=>J9 _ _ h1)
 |nilCheck x=>grind [opS,Op.operands]|binOp op xt x y yt=>grind [opS,Op.operands]|unOp op xt x=>grind [opS,Op.operands]|convert a b x=>grind [opS,Op.operands]|panic x=>grind [opS,Op.operands]|makeInterface ty x=>grind [opS,Op.operands]|typeAssert x st ty ok=>grind [opS,Op.operands]|fieldAddr ty x f=>grind [opS,Op.operands]|field ty x f=>grind [opS,Op.operands]
 |indexAddr ty x y=>
  simp only[opS,E x (by simp[Op.operands]),E y (by simp[Op.operands])];exact congrArg _ (funext λti=>congrArg _ (funext λte=>J_ _ _ _ h1))
 |extract x i=>grind [opS,Op.operands]|makeSlice ty n c=>grind [opS,Op.operands]
 |slice ty x lo hi mx=>
  cases mx with
  |some m=>
   have e1:ov ⟨ts,ops,g,⟨t',h'⟩,nx⟩ lo=ov ⟨ts,ops,g,⟨t,h⟩,nx⟩ lo:=(sH lo λy hy=>U y (by simp_all [Op.operands])).symm;have e2:ov ⟨ts,ops,g,⟨t',h'⟩,nx⟩ hi=ov ⟨ts,ops,g,⟨t,h⟩,nx⟩ hi:=(sH hi λy hy=>U y (by simp_all [Op.operands])).symm;grind [opS,Op.operands]
  |none=>
   have e1:ov ⟨ts,ops,g,⟨t',h'⟩,nx⟩ lo=ov ⟨ts,ops,g,⟨t,h⟩,nx⟩ lo:=(sH lo λy hy=>U y (by simp_all [Op.operands])).symm;have e2:ov ⟨ts,ops,g,⟨t',h'⟩,nx⟩ hi=ov ⟨ts,ops,g,⟨t,h⟩,nx⟩ hi:=(sH hi λy hy=>U y (by simp_all [Op.operands])).symm;simp only[opS,E x (by simp[Op.operands]),e1,e2];exact congrArg _ (funext λti=>congrArg _ (funext λte=>Ka _ _ _ _ _ _ h1))
 |makeMap ty n=>cases n <;>rfl
 |lookup ty m k ok=>
  simp only[opS,E m (by simp[Op.operands]),E k (by simp[Op.operands])];refine congrArg _ (funext λti=>?_);cases ok with
  |true=>exact Mm ti _ _ h1|false=>exact OU ti _ h2
 |mapUpdate ty m k v=>
  simp only[opS,E m (by simp[Op.operands]),E k (by simp[Op.operands]),E v (by simp[Op.operands])];exact congrArg _ (funext λti=>ER ti _ _ h1)
 |insert ty m k v=>
  simp only[opS,E m (by simp[Op.operands]),E k (by simp[Op.operands]),E v (by simp[Op.operands])];exact congrArg _ (funext λti=>ER ti _ _ h1)
 |mapEntry ty m k=>
  simp only[opS,E m (by simp[Op.operands]),E k (by simp[Op.operands])];exact congrArg _ (funext λti=>OW ti _ _ h1)
 |entryStore ty m s v=>
  simp only[opS,E m (by simp[Op.operands]),E s (by simp[Op.operands]),E v (by simp[Op.operands])];exact congrArg _ (funext λti=>OX ti _ _ h1)
 |range ty x=>
  simp only[opS,E x (by simp[Op.operands])];exact congrArg _ (funext λti=>OV ti nx h1)
 |next it isS=>cases isS <;>simp only[opS,E it (by simp[Op.operands])]
 |entry it=>
  simp only[opS,E it (by simp[Op.operands])];exact Mn h1
 |_=>rfl
structure DOk (ops:List Oper):Prop where
 back:∀ (i:Nat) (o:Oper) (e:Edge),ops[i]? =some o->e∈o.after->Region.binds .any e=true->e.on<i
 uniq:∀ (i k:Nat) (o q:Oper) (d:Nat),ops[i]? =some o->ops[k]? =some q->o.dst=some d->q.dst=some d->i=k
 look:∀ (i k:Nat) (o q:Oper) (d:Nat),ops[i]? =some o->ops[k]? =some q->q.dst=some d->d∈o.looksAt ops.toArray->k=i\/(k<i/\pm o k=true)\/(i<k/\pm q i=true)
theorem abb(h:Ou ops.toArray=true):DOk ops:=by
 have h':∀ (i:Nat) (o:Oper),ops[i]? =some o->(o.after.toList.all λe=>!(Region.binds .any e) ||Nat.blt e.on i)=true/\
   ∀ (k:Nat) (q:Oper),ops[k]? =some q->∀ d,q.dst=some d->(Nat.beq k i|| !(o.dst==some d))=true/\(!((o.looksAt ops.toArray).contains d) ||Nat.beq k i||(Nat.blt k i&&pm o k) ||(Nat.blt i k&&pm q i))=true:=by
  intro i o E;unfold Ou at h;rw[amc]at h;have:=h i (by grind);simp only[gu,E,alG]at this;grind
 refine⟨λi o e E W V=>?_,λi k o q d E O hd U=>?_,λi k o q d E O hd X=>?_⟩;have:=(h' i o E).1;rw[amc]at this;have:=this e (by grind);simp_all;have:=((h' i o E).2 k q O d U).1;simp_all;have:=((h' i o E).2 k q O d hd).2;have hc:(o.looksAt ops.toArray).contains d=true:=by grind
 simp only[hc,alZ,am8,ama,alG]at this;rcases this with(h1|h1) |h1 <;>simp_all
theorem abc{ts:Tis}{st:St}{nx:Nat}{op:Op}{r:OR}(h:opS ⟨ts,ops,g,st,nx⟩ op=r)(hn:∀ c a ups s,r=.eff c a ups s->nx ∉ fe ups):opS ⟨ts,ops,g,st,nx'⟩ op=r:=by
 have hv:∀ x,val ⟨ts,ops,g,st,nx'⟩ x=val ⟨ts,ops,g,st,nx⟩ x:=λx=>rfl;have W:∀ l,dm ⟨ts,ops,g,st,nx'⟩ l=dm ⟨ts,ops,g,st,nx⟩ l:=λl=>sG l λ_ _=>rfl;have hps:∀ l,iD ⟨ts,ops,g,st,nx'⟩ l=iD ⟨ts,ops,g,st,nx⟩ l:=λl=>tV l λ_ _=>rfl;have hvo:∀ o,ov ⟨ts,ops,g,st,nx'⟩ o=ov ⟨ts,ops,g,st,nx⟩ o:=λo=>sH o λ_ _=>rfl;have V:∀ (t:TypeId) (k k':TI->OR),aJ ts t k=r->(∀ ti,k ti=r->k' ti=r)->aJ ts t k'=r:=by
  grind [aJ]
 have hNew:∀ l,JD nx l=r->JD nx' l=r:=by
  intro l e;cases l with
  |none=>exact e
  |some l=>exact absurd (by simp[fe]) (hn _ _ _ _ e.symm)
 cases op with
 |alloc t=>exact V _ _ _ h λti e=>hNew _ e
 |box t x=>exact hNew _ h
 |store t x y=>
  refine V _ _ _ h λti e=>?_;change rh ti.size nx st.h (val ⟨ts,ops,g,st,nx⟩ x) (val ⟨ts,ops,g,st,nx⟩ y)=r at e;change rh ti.size nx' st.h (val ⟨ts,ops,g,st,nx⟩ x) (val ⟨ts,ops,g,st,nx⟩ y)=r;unfold rh at e |-;split at e
  rename_i sz id i off rid _ _;cases hg:JB (ap st.h id)with
  |false=>grind
  |true=>
   rw[hg]at e;simp only[cond_true]at e |-;cases hc:Nat.beq ti.size 1&&Nat.beq sz 1&&Nat.beq off 0&& !(Nat.beq id rid)with
   |false=>grind
   |true=>
    rw[hc]at e;simp only[cond_true]at e |-;cases ho:ap st.h id with
    |apw k l=>
     rw[ho]at e;simp only[Eb]at e |-;cases hr:Ok k (ap st.h rid)with
     |none=>rw[hr]at e;exact e
     |some m=>rw[hr]at e;exact absurd (by simp[fe]) (hn _ _ _ _ e.symm)
    |_=>rw[ho]at e;exact e
  exact e
 |makeSlice t n c=>
  refine V _ _ _ h λti e=>V _ _ _ e λte e=>?_;cases X:ti.isSlice with
  |false=>grind
  |true=>
   rw[X]at e;simp only[cond_true]at e |-;cases hb2:te.isSlice with
   |true=>
    rw[hb2]at e;simp only[cond_true]at e |-;refine V _ _ _ e λtr e=>?_;change Hh nx te tr (val ⟨ts,ops,g,st,nx⟩ n) (val ⟨ts,ops,g,st,nx⟩ c)=r at e;change Hh nx' te tr (val ⟨ts,ops,g,st,nx⟩ n) (val ⟨ts,ops,g,st,nx⟩ c)=r;unfold Hh at e |-;split at e
    rename_i a b _ _;cases ht:tr.tag with
    |none=>rw[ht]at e;exact e
    |some k=>
     grind [XS,fe]
    exact e
   |false=>
   rw[hb2]at e;simp only[cond_false]at e |-;change mkS nx te (val ⟨ts,ops,g,st,nx⟩ n) (val ⟨ts,ops,g,st,nx⟩ c)=r at e;change mkS nx' te (val ⟨ts,ops,g,st,nx⟩ n) (val ⟨ts,ops,g,st,nx⟩ c)=r;unfold mkS at e |-;split at e
   rename_i a b _ _;cases ht:te.tag with
   |none=>rw[ht]at e;exact e
   |some k=>rw[ht]at e;exact absurd (by simp[fe]) (hn _ _ _ _ e.symm)
   exact e
 |slice t x lo hi m=>
  cases m with
  |some m=>
   refine V _ _ _ h λti e=>V _ _ _ e λte e=>?_;grind
  |none=>
   refine V _ _ _ h λti e=>V _ _ _ e λte e=>?_;rw[hvo,hvo];change mH ti te.size nx st.h _ _ _ (val ⟨ts,ops,g,st,nx⟩ x)=r at e;change mH ti te.size nx' st.h _ _ _ (val ⟨ts,ops,g,st,nx⟩ x)=r;unfold mH at e |-;split at e
   exact e
   ·rename_i id _;cases X:ti.isSlice with
    |false=>grind
    |true=>
     rw[X]at e;simp only[cond_true]at e |-;cases hv:(Im hi&&LO ops)with
     |true=>grind
     |false=>
     rw[hv]at e;simp only[cond_false]at e |-;unfold XV at e |-;split at e
     rename_i k l _;cases X:Nat.beq te.size (aa k)with
     |false=>grind
     |true=>
      rw[X]at e;simp only[cond_true]at e |-;unfold XU at e |-;grind [fe]
     exact e
   exact e
 |makeMap t n=>
  cases n with
  |some n=>exact h
  |none=>
   refine V _ _ _ h λti e=>?_;change mmR nx ti.mkt ti.mvt=r at e;change mmR nx' ti.mkt ti.mvt=r;unfold mmR at e |-;grind [fe]
 |call c=>
  obtain⟨callee,args,tys⟩:=c;cases callee with
  |value f=>rw[<-h];show zO _ _=zO _ _;rw[W];rfl
  |invoke f m=>exact h
  |builtin b=>
   cases b <;>first|exact h|skip
   ·change (match tys.toList with| [t1,t2] =>aJ ts t1 λti=>aJ ts t2 λY=>aJ ts ti.elem λte=>bif ti.isSlice&&Y.isSlice then ml te nx st.h (dm ⟨ts,ops,g,st,nx⟩ args.toList)else .bad|_=>.bad)=r at h;show(match tys.toList with| [t1,t2] =>aJ ts t1 λti=>aJ ts t2 λY=>aJ ts ti.elem λte=>bif ti.isSlice&&Y.isSlice then ml te nx' st.h (dm ⟨ts,ops,g,st,nx'⟩ args.toList)else .bad|_=>.bad)=r;rw[W];split at h
    ·refine V _ _ _ h λti e=>V _ _ _ e λY e=>V _ _ _ e λte e=>?_;cases X:ti.isSlice&&Y.isSlice with
     |false=>grind
     |true=>
      rw[X]at e;simp only[cond_true]at e |-;have hR:∀ k b E l m,TT k nx b E l m=r->TT k nx' b E l m=r:=by
       intro k b E l m e;cases m with
       |none=>exact e
       |some m=>exact absurd (by grind [ID,fe]) (hn _ _ _ _ e.symm)
      have hGs:∀ k b id2 E l m,Ed k nx b id2 E l m=r->Ed k nx' b id2 E l m=r:=by
       intro k b id2 E l m e;cases m with
       |none=>exact e
       |some m=>exact absurd (by grind [ID,fe]) (hn _ _ _ _ e.symm)
      have hO:∀ E U o,wh te nx E st.h U o=r->wh te nx' E st.h U o=r:=by
       intro E U o e;cases o with
       |row k l=>
        grind [wh]
       |_=>exact e
      have hT2:∀ U o,u_ te nx st.h U o=r->u_ te nx' st.h U o=r:=by
       intro U o e;cases o with
       |none=>exact e|some k=>exact hO [] U (.row k []) e
      generalize dm ⟨ts,ops,g,st,nx⟩ args.toList=l at e |-;unfold ml at e |-;split at e
      rename_i id id2;cases X:Nat.beq te.size 1&&Nat.beq (sz te.zero) 1&&Nat.ble 1 te.bytes&& !(Nat.beq id id2)with
      |false=>
       grind
      |true=>
       rw[X]at e;simp only[cond_true]at e |-;unfold Ee at e |-;grind
      rename_i id2;cases X:Nat.beq te.size 1&&Nat.beq (sz te.zero) 1&&Nat.ble 1 te.bytes with
      |false=>grind
      |true=>
       rw[X]at e;simp only[cond_true]at e |-;unfold XO at e |-;grind
      grind
      grind
      grind
      grind
      exact e;exact e
    exact h
   rw[<-h];show(match tys.toList with| [t1] =>aJ ts t1 λti=>aJ ts ti.elem λte=>yZ ti te st.h (dm ⟨ts,ops,g,st,nx'⟩ args.toList) |_=>.bad)=(match tys.toList with| [t1] =>aJ ts t1 λti=>aJ ts ti.elem λte=>yZ ti te st.h (dm ⟨ts,ops,g,st,nx⟩ args.toList) |_=>.bad);rw[W];rw[<-h];show(match tys.toList with|t1::_=>aJ ts t1 λti=>y3 ti st.h (dm ⟨ts,ops,g,st,nx'⟩ args.toList) |_=>.bad)=(match tys.toList with|t1::_=>aJ ts t1 λti=>y3 ti st.h (dm ⟨ts,ops,g,st,nx⟩ args.toList) |_=>.bad);rw[W];rw[<-h];show(match tys.toList with| [t''] =>aJ ts t'' λti=>ua ti st.h (dm ⟨ts,ops,g,st,nx'⟩ args.toList) |_=>.bad)=(match tys.toList with| [t''] =>aJ ts t'' λti=>ua ti st.h (dm ⟨ts,ops,g,st,nx⟩ args.toList) |_=>.bad);rw[W];rw[<-h];show JG _=JG _;rw[W];rw[<-h];show JF _=JF _;rw[W]
 |build ty O=>grind [opS]
 |buildSlice ty n O=>
  refine V _ _ _ h λti e=>V _ _ _ e λte e=>?_;change Hg (JE ty ops g) nx te (bsS ti te n (iD ⟨ts,ops,g,st,nx⟩ O.toList))=r at e;show Hg (JE ty ops g) nx' te (bsS ti te n (iD ⟨ts,ops,g,st,nx'⟩ O.toList))=r;rw[hps];generalize bsS ti te n (iD ⟨ts,ops,g,st,nx⟩ O.toList)=o at e |-;unfold Hg at e |-;grind [fe]
 |makeFunc fn first caps=>grind [opS]
 |range ty x=>
  refine V _ _ _ h λti e=>?_;change Eg ti nx st.h (val ⟨ts,ops,g,st,nx⟩ x)=r at e;show Eg ti nx' st.h (val ⟨ts,ops,g,st,nx'⟩ x)=r;rw[hv];generalize val ⟨ts,ops,g,st,nx⟩ x=s at e |-;cases s with
  |os id=>
   simp only[Eg]at e |-;cases ho:ap st.h id with
   |mp kk vk l ap1=>
    grind [XW,fe]
   |_=>rw[ho]at e;exact e
  |_=>exact e
 |mapEntry ty m k=>
  refine V _ _ _ h λti e=>?_;change yf ti nx st.h (val ⟨ts,ops,g,st,nx⟩ k) (val ⟨ts,ops,g,st,nx⟩ m)=r at e;show yf ti nx' st.h (val ⟨ts,ops,g,st,nx'⟩ k) (val ⟨ts,ops,g,st,nx'⟩ m)=r;rw[hv,hv];generalize val ⟨ts,ops,g,st,nx⟩ m=s at e |-;cases s with
  |os id=>
   simp only[yf]at e |-;cases ho:ap st.h id with
   |mp kk vk l ap1=>
    rw[ho]at e;simp only[RR]at e |-;cases X:lq kk ti.mkt&&lq vk ti.mvt&&noE ap1 with
    |false=>grind
    |true=>
     rw[X]at e;simp only[cond_true]at e |-;unfold RQ at e |-;grind [fe]
   |_=>rw[ho]at e;exact e
  |_=>exact e
 |next it isS=>cases isS <;>exact h|entry it=>exact h|_=>exact h
theorem ET (E:List Nat)(j:Nat):∀ (l:List Edge),(LQ E l).testBit j=true->∃ e∈l,Region.binds .any e=true/\(j=e.on\/((nth E e.on).getD 0).testBit j=true)
 | [],h=>by simp[LQ]at h
 |e::r,h=>by
  simp only[LQ]at h;cases O:Region.binds .any e with
  |false=>
   rw[O]at h;obtain⟨e',h1,h2⟩:=ET E j r h;grind
  |true=>
   rw[O]at h;simp only[cond_true]at h;have h':(((nth E e.on).getD 0|||1<<< e.on) |||LQ E r).testBit j=true:=h;rw[Nat.testBit_or,Nat.testBit_or,ama,ama]at h';rcases h' with(h'|h') |h';grind
   refine⟨e,by simp,O,.inl ?_⟩;rw[Nat.testBit_shiftLeft,alG]at h';grind [Nat.testBit_one_eq_true_iff_self_eq_zero]
   obtain⟨e',h1,h2⟩:=ET E j r h';grind
def DO (ops:List Oper)(S:Nat->Prop):Prop:= ∀ (i:Nat) (o:Oper) (j:Nat),S i->ops[i]? =some o->pm o j=true->S j
theorem QK {ops:List Oper}{S:Nat->Prop}(U:DO ops S):∀ (l:List Oper) (E:List Nat),ops.drop E.length=l->(∀ i j,i<E.length->S i->((nth E i).getD 0).testBit j=true->S j)->
  ∀ i j,S i->sA (Bb l E) i j=true->S j
 | [],E,hd,V,i,j,hi,O=>by
  grind [gu,Bb,sA]
 |o::l,E,hd,V,i,j,hi,O=>by
  obtain⟨W,hd'⟩:=EO hd;refine QK U l (E++[LQ E o.after.toList]) (by grind) (λi j hlt hi O=>?_) i j hi O;rw[gu]at O;by_cases h:i<E.length
  rw[anJ h]at O;exact V i j h hi (by grind [gu]);have:i=E.length:=by grind
  subst this;simp at O;obtain⟨e,h1,h2,Y⟩:=ET E j _ O;have X:S e.on:=U _ o e.on hi W (by
   unfold pm;rw[amx];exact⟨e,h1,by simp[h2]⟩)
  grind [gu]
theorem Kc{S:Nat->Prop}(E:DO ops S){i j:Nat}(hi:S i)(O:sA (Bb ops []) i j=true):S j:=
 QK E ops [] rfl (λi j h=>by simp at h) i j hi O
def Ord (ops:List Oper)(i j:Nat):Prop:=(j<i/\sA (Bb ops []) i j=true)\/(i<j/\sA (Bb ops []) j i=true)
theorem EU {O:List Nat}{i:Nat}{x:Fp}:∀ (l:List Fp) (j:Nat),LR O i x j l=true->∀ (k:Nat) (y:Fp),l[k]? =some y->j+k≠i->tK x y=true->(j+k<i/\sA O i (j+k)=true)\/(i<j+k/\sA O (j+k) i=true)
 | [],j,_,k,y,E,_,_=>by simp at E
 |z::r,j,h,k,y,E,U,hc=>by
  simp only[LR,alG]at h;cases k with
  |zero=>
   simp at E;subst E;rw[amK]at U |-;have h1:=h.1;simp only[hc,alZ,am1,ama,alG]at h1;rcases h1 with(h1|h1) |h1 <;>simp_all
  |succ k=>
   have:=EU r (j+1) h.2 k y (by grind) (by omega) hc;grind
theorem EV {E:List Nat}{b:Nat}{all:List Fp}:∀ (l:List Fp) (i:Nat),Qt E b all i l=true->∀ (k:Nat) (x:Fp),l[k]? =some x->LR E (i+k) x b all=true
 | [],i,_,k,x,O=>by simp at O
 |z::r,i,h,k,x,O=>by
  simp only[Qt,alG]at h;cases k with
  |zero=>grind
  |succ k=>
   have:=EV r (i+1) h.2 k x (by grind);grind
theorem Sv (l:List Nat):tJ l []=false:=by
 induction l with
 |nil=>rfl|cons a r E=>simp[tJ,C5,E]
theorem uG {n:Nat}:∀ {l m:List Nat},n∈l->n∈m->tJ l m=true
 |a::r,m,h1,h2=>by
  simp only[tJ];rcases alV.1 h1 with rfl|h1;rw[(wS n m).2 h2];rfl;rw[uG h1 h2];cases C5 a m <;>rfl
theorem IE:∀ {l:List Fp} {k:Nat} {x:Fp},In l=true->l[k]? =some x->x.tc=[]/\x.wt=[]
 | [],k,x,_,E=>by simp at E
 |z::r,k,x,h,E=>by
  simp only[In,alG,List.isEmpty_iff]at h;cases k with
  |zero=>grind
  |succ k=>exact IE h.2 (by simpa using E)
theorem EW{b:Nat}{E:List Fp}(h:sB ops b E){i j:Nat}{x y:Fp}(hi:E[i]? =some x)(W:E[j]? =some y)(X:i≠j)(hc:tK x y=true):Ord ops (b+i) (b+j):=by
 unfold sB at h;cases V:In E with
 |true=>
  obtain⟨e1,Y⟩:=IE V W;grind [tK,Sv]
 |false=>
  rw[V]at h;have h1:=EV E b h i x hi;have h2:=EU E b h1 j y W (by omega) hc;rcases h2 with⟨O,U⟩ | ⟨O,U⟩;exact .inl ⟨O,U⟩;exact .inr ⟨O,U⟩
theorem EX{c:Nat}(h:Eh ops c=true){i:Nat}(hi:i<ops.length)(U:i≠c):(i<c/\sA (Bb ops []) c i=true)\/(c<i/\sA (Bb ops []) i c=true):=by
 have O:∀ (l:List Oper) (j:Nat),JJ (Bb ops []) c j l=true->∀ k,k<l.length->(Nat.beq (j+k) c||(Nat.blt (j+k) c&&sA (Bb ops []) c (j+k)) ||(Nat.blt c (j+k)&&sA (Bb ops []) (j+k) c))=true:=by
  intro l;induction l with
  |nil=>grind
  |cons x r E=>
   intro j h k V;simp only[JJ,alG]at h;cases k with
   |zero=>exact h.1
   |succ k=>
    have:=E (j+1) h.2 k (by grind);grind
 have:=O ops 0 h i hi;simp_all
structure Fact (ts:Tis)(G:Cons)(ops:List Oper)(o:Oper)(st st2:St)(s:SV)(ups:List Up)(fp:Fp)(r:Dr):Prop where
 dr:jK G st.h st.h.length (opS ⟨ts,ops,o.guard,st,st.h.length⟩ o.op)=some r
 nxt:st2=St.put ⟨st.t,bb st.h ups⟩ o.dst s
 fp:fp=fpU o.op (fpO ⟨ts,ops,o.guard,st,st.h.length⟩ o.op) r.all ups
 plain:o.guard=none->r.c/\s=r.s/\ups=r.ups
 guarded:∀ g,o.guard=some g->(dO ops st.t ops.length g->r.c)/\((r.ups=ups/\s=.gd g.1 g.2 r.s/\(ups=[]\/¬gi ops st.t ops.length g))\/(ups=[]/\s=.gd g.1 g.2 r.s/\¬dO ops st.t ops.length g))
def Yg (ts:Tis)(G:Cons)(ops:List Oper)(K:St->Prop)(Z:Value->St->Prop)(e:Nat)(st:St):Prop:=
 (ops.length<=e/\K st)\/∃ o,ops[e]? =some o/\Eh ops e=true/\QH G ops o.dst st (λst'=>jO ts G ops K Z (ops.drop (e+1)) (e+1) (e+1) [] st') Z o.guard (opS ⟨ts,ops,o.guard,st,st.h.length⟩ o.op)
structure apA (ts:Tis)(G:Cons)(ops:List Oper)(n m:Nat)(S:Nat->St)(s:Nat->SV)(ups:Nat->List Up)(fs:Nat->Fp)(R:Nat->Dr):Prop where
 fact:∀ i,i<m->∃ o,ops[n+i]? =some o/\Fact ts G ops o (S i) (S (i+1)) (s i) (ups i) (fs i) (R i)
section
variable {P:Program}{F:Nat->Prop}{own bn:Own}{w w':World}{ts:Tis}
variable {w0:Bs}{ro:Option Nat}{nd:Nat}{N n:Nat}{ops:List Oper}{st:St}{a:Act}{G:Cons}
theorem Sw (n:Nat)(s:SV)(o:Ob)(h:o∈aS n s):dx o=false:=by
 rcases(zc n s o h).1 with⟨_,_,rfl⟩ | ⟨_,_,_,rfl⟩ | ⟨_,_,rfl⟩ <;>rfl
variable {h:List Ob}
theorem O2{bn:Own}(hp:Hp F own w h){nx:Nat}(hn:ap9 own h nx){s:SV}{u:Value}{ob:Ob}(hrow:aS 3 s=[ob]){F1:Nat->Prop}(hF1:(∀ b,F1 b↔cH F own b)\/((∀ b,F1 b↔F b)/\i6 3 s=true))(X:Below w.heap.size w w')(Y:Handed F1 w bn w' s u):
  ∃ A1,Rel F A1 w' (iE 3 nx s) u/\Step F own w (bb h [(nx,ob)]) A1 w':=by
 have hFF:∀ b,F b->F1 b:=λb hf=>by
  rcases hF1 with h1| ⟨h1,_⟩;exact(h1 b).2 (.inl hf);grind
 have h0:∀ id hd,bn id=some hd->id=0:=λid hd e=>by
  have:=Y.hp.dom id hd e;grind
 let A1:Own:=λid=>if id=nx then bn 0 else own id
 have o1:∀ id hd,A1 id=some hd->(id≠nx/\own id=some hd)\/(id=nx/\bn 0=some hd):=λid hd e=>by
  grind
 have o2:∀ id hd,own id=some hd->A1 id=some hd:=λid hd e=>by
  simp only[A1];rw[if_neg (λh=>by rw[h,hn.none]at e;cases e)];exact e
 have o3:∀ id hd,bn id=some hd->A1 (id+nx)=some hd:=λid hd e=>by
  grind
 have fr:Fr { w:=w,own:=own} A1 w':=Fr.ap0 (λid hd e=>⟨hd,o2 id hd e,.refl _⟩) (λid hd b e E=>by
   rcases o1 id hd e with⟨_,e⟩ | ⟨_,e⟩;grind
   exact .inr (Y.fresh _ hd b e E)) (λb hbl _=>X.block b hbl) X.size X.os X.tape X.output
 have g:apK F own w A1 w':=fr.apS;have V:(∀ b,¬cH F1 bn b->¬cH F A1 b)\/i6 3 s=true:=by
  rcases hF1 with h1| ⟨_,h2⟩;left;rintro b hn (hf| ⟨id,hd,e,E⟩);exact hn (.inl (hFF b hf));rcases o1 id hd e with⟨_,e⟩ | ⟨_,e⟩;exact hn (.inl ((h1 b).2 (.inr ⟨id,hd,e,E⟩)));exact hn (.inr ⟨_,hd,e,E⟩);grind
 have hob:ap (aS 3 s) 0=ob:=by rw[hrow];rfl
 have hlen:nx< (bb h [(nx,ob)]).length:=by grind [bb,cA]
 have hle:h.length<=(bb h [(nx,ob)]).length:=by grind [bb,cA]
 refine⟨A1,?_,⟨λid hd e=>?_,λb hf=>alT (hp.ao1 b hf) X.size,λid hd b e E=>?_,λi j hi hj b U O hb1 hb2=>?_,λid hd b e E=>?_,λid W=>?_⟩,fr,λid U O=>?_⟩;have:=EK (F':=F) (A1:=A1) (m:=nx) o3 3 0 s u Y.val (V.imp (λhk c hc=>hk c λho=>hc (.inl ho)) id);grind
 rcases o1 id hd e with⟨_,e⟩ | ⟨rfl,_⟩;have:=hp.dom id hd e;omega;exact hlen;rcases o1 id hd e with⟨_,e⟩ | ⟨_,e⟩;exact hp.apart id hd b e E;exact λhf=>Y.hp.apart _ hd b e E (hFF b hf);rcases o1 i hi U with⟨l1,U⟩ | ⟨l1,U⟩ <;>rcases o1 j hj O with⟨l2,O⟩ | ⟨l2,O⟩;exact hp.inj i j hi hj b U O hb1 hb2;have:=hp.lt i hi b U hb1;have:=Y.fresh _ hj b O hb2;omega;have:=hp.lt j hj b O hb2;have:=Y.fresh _ hi b U hb1;omega;omega;rcases o1 id hd e with⟨_,e⟩ | ⟨_,e⟩;exact alT (hp.lt id hd b e E) X.size;exact Y.hp.lt _ hd b e E;simp only[bb]at W |-;rw[dy]at W |-;by_cases hlt:nx=id
 rw[if_pos hlt]at W |-;have hdd':dx (ap (aS 3 s) 0)=false:=by grind
 obtain⟨hd,U,O⟩:=Y.hp.obs _ hdd';obtain⟨q1,q2⟩:=zc 3 s _ (Mi hdd');have e3:=o3 _ hd U;rw[alQ,hlt]at e3;rw[hob]at O q1 q2;exact⟨hd,e3,O.aph q1 (V.imp (λh=>h) q2)⟩;rw[if_neg hlt]at W |-;obtain⟨hd,U,O⟩:=hp.obs id W;exact⟨hd,o2 id hd U,O.carry g.apM X.size λb E=>X.block b (hp.lt id hd b U E)⟩;simp only[A1];by_cases hid:id=nx
 subst hid;exfalso;simp only[bb]at O;rw[dy,if_pos rfl]at O;have:=Sw 3 s ob (by grind);grind
 grind
variable {args:List SV}
theorem Ux{G:Cons}(hG:X2 P G)(hp:Hp F own w h){nx:Nat}(hn:ap9 own h nx){f:FuncId}{vs:Array Value}(hr:apx F own w args vs){c:Con}(hc:G.p f (args.map (fD h 6))=some c)(O:an c)
  (V:args.all (c8 3)=true\/∀ s,dL c s->i6 3 s=true):
  (callFunc f vs).run P w=.ok (.enter f vs) w/\Calls P f vs w (λe w'=>(∃ s u,∃ A1:Ob->Own,dL c s/\e=.returned u/\∀ E,aS 3 s=[E]->Rel F (A1 E) w' (iE 3 nx s) u/\Step F own w (bb h [(nx,E)]) (A1 E) w')\/(∃ x,ke c x/\e=.panicked [{ v:=x,recovered:=false}]/\Below w.heap.size w w')):=by
 refine⟨(hG.p f).enter _ c hc vs w,?_⟩;have W:∀ {bn:Own} {w':World} {s:SV} {u:Value} {F1:Nat->Prop},((∀ b,F1 b↔cH F own b)\/((∀ b,F1 b↔F b)/\i6 3 s=true))->Below w.heap.size w w'->Handed F1 w bn w' s u->∃ A1:Ob->Own,∀ E,aS 3 s=[E]->Rel F (A1 E) w' (iE 3 nx s) u/\Step F own w (bb h [(nx,E)]) (A1 E) w':=λ{bn w' s u F1} h1 h2 h3=>by
  refine Classical.axiomOfChoice (r:=λE A1=>aS 3 s=[E]->Rel F A1 w' (iE 3 nx s) u/\Step F own w (bb h [(nx,E)]) A1 w') λE=>?_;by_cases U:aS 3 s=[E]
  obtain⟨A1,q⟩:=O2 hp hn U h1 h2 h3;grind
  simp_all
 rcases V with Y|hsc;have hpf:∀ (j:Nat) (s:SV),args[j]? =some s->PF s:=λj s X=>by
  rw[amc]at Y;exact gb 3 s (Y s (alU X))
 refine((hG.p f).calls _ c hc O (cH F own) w vs (λb hb=>?_) ⟨by simpa using hr.1,λj s X=>?_⟩).mono ?_;rcases hb with hf| ⟨id,hd,e,hbb⟩;exact hp.ao1 b hf;exact hp.lt id hd b e hbb;obtain⟨x,hx,rfl⟩:=k9 X;exact Us 6 x _ (hpf j x hx) (hr.2 j x hx);rintro e w' (⟨s,u,bn,h1,h2,h3,h4⟩ |hp');obtain⟨A1,q⟩:=W (.inl λb=>ao6) h4 h3;exact .inl ⟨s,u,A1,h1,h2,q⟩;grind
 refine((hG.p f).calls _ c hc O F w vs hp.ao1 ⟨by simpa using hr.1,λj s X=>?_⟩).mono ?_;obtain⟨x,hx,rfl⟩:=k9 X;exact xL hp 6 x _ (hr.2 j x hx);rintro e w' (⟨s,u,bn,h1,h2,h3,h4⟩ |hp');obtain⟨A1,q⟩:=W (.inr ⟨λb=>ao6,hsc s h1⟩) h4 h3;exact .inl ⟨s,u,A1,h1,h2,q⟩;grind
variable {C:List SV->Option Con}{r:Dr}
theorem QL{rd:List Nat}(h:drB C rd args=some r):∃ i g,args=[.os i]/\r=⟨∀ x,LU x=true->C [.v x]=some (.det True (.fn g [] [.ep [.v x] 0])),True,.fn g [] [.ep [.os i] 0],[],rd⟩:=by
 unfold drB at h;split at h
 unfold X0 at h;split at h
 cases h;exact⟨_,_,rfl,rfl⟩;cases h;cases h
theorem QM{rd:List Nat}{x:Option Dr}(h:drX C rd args x=some r):x=some r\/drB C rd args=some r:=by
 cases x with
 |some y=>exact .inl h|none=>exact .inr h
theorem Yh {s:SV}{v u:Value}{g:FuncId}(h:Rel F own w (.fn g [] [.ep [.v v] 0]) u)(X:Rel F own w s v):Rel F own w (.fn g [] [.ep [s] 0]) u:=by
 cases h with
 |fn h1 h2 Y h4=>
  refine .fn h1 h2 Y λj x E=>?_;have V:=h4 0 _ rfl;match j,E with
  |0,E=>
   cases E;generalize Array.getD _ 0 undef=p at V |-;cases V with
   |ep c W k2=>
    have O:=k2 0 _ rfl;have U:=W 0 _ rfl;generalize c 0=c0 at O U;cases O;refine .ep (λ_=>v) (λj x E=>?_) λj x E=>?_;match j,E with
    |0,E=>exact U
    match j,E with
    |0,E=>cases E;exact X
theorem ZT(hG:X2 P G)(hp:Hp F own w h){nx:Nat}(hn:ap9 own h nx){o:Oper}{run:Result Next}{r0:OR}(h0:Mb P F own w h run r0)(hr:jK G h nx r0=some r)(hc:r.c):
  r.a/\(∃ u bn w',Rel F bn w' r.s u/\Step F own w (bb h r.ups) bn w')/\
  ∀ (K:Act->World->Prop) (Q:Exit->Act->World->Prop),(∀ u bn w',Rel F bn w' r.s u->Step F own w (bb h r.ups) bn w'->K (a.put o.dst u) w')->o.uponIn (rd ro) nd P a K Q run:=by
 have W:∀ {w'},Below w.heap.size w w'->Step F own w h own w':=λhb=>⟨hp.below hb,EQ own hb,λ_ e _=>e⟩;cases r0 with
 |val s=>
  simp only[jK,alK]at hr;subst hr;obtain⟨u,U,O⟩:=h0;exact⟨trivial,⟨u,own,w,O,W (Below.refl _ _)⟩,λK Q X=>fl (.inl U) (X u own w O (W (Below.refl _ _)))⟩
 |chk c s=>
  simp only[jK,alK]at hr;subst hr;obtain⟨u,U,O⟩:=h0 hc;exact⟨trivial,⟨u,own,w,O,W (Below.refl _ _)⟩,λK Q X=>fl (.inl U) (X u own w O (W (Below.refl _ _)))⟩
 |asm c s=>
  simp only[jK,alK]at hr;subst hr;obtain⟨ha,u,U,O⟩:=h0;exact⟨ha,⟨u,own,w,O,W (Below.refl _ _)⟩,λK Q X=>fl (.inl U) (X u own w O (W (Below.refl _ _)))⟩
 |apY s=>
  simp only[jK,alK]at hr;subst hr;obtain⟨u,cs,ty,U,O⟩:=h0;exact⟨trivial,⟨u,own,_,O,W (qE _ _)⟩,λK Q X=>fl (.inl U) (X u own _ O (W (qE _ _)))⟩
 |eff c ac ups s=>
  simp only[jK,alK]at hr;subst hr;obtain⟨ha,u,bn,w',U,O,e3⟩:=h0 hc;exact⟨ha,⟨u,bn,w',O,e3⟩,λK Q X=>fl U (X u bn w' O e3)⟩
 |call f args=>
  obtain⟨vs,U,O⟩:=h0;simp only[jK]at hr;rcases QM hr with hr|hr
  case inr=>
   obtain⟨i,g,rfl,rfl⟩:=QL hr;have hone:LU (vs.getD 0 undef)=true:=by
    have h1:=U.2 0 (.os i) rfl;generalize vs.getD 0 undef=v at h1 |-;cases h1 with
    |os _ h2=>revert h2;generalize Hd.v _=y;cases y <;>simp[pj,LU]
   have Y:=hc (vs.getD 0 undef) hone;have e3:apx F own w [.v (vs.getD 0 undef)] vs:=⟨U.1,λj x hx=>by
    match j,hx with
    |0,hx=>cases hx;exact .v _⟩
   obtain⟨k1,k2⟩:=DL (P:=P) hG hp e3 Y trivial (.inl rfl);have key:∀ {e:Ending} {w':World},((∃ s' u A1,dL (.det True (.fn g [] [.ep [.v (vs.getD 0 undef)] 0])) s'/\e=.returned u/\Hp F A1 w' (h++aS 3 s')/\Fr { w:=w,own:=own} A1 w'/\Rel F A1 w' (iE 3 h.length s') u/\Below w.heap.size w w'/\∀ id,id<h.length->A1 id=own id)\/(∃ x,ke (.det True (.fn g [] [.ep [.v (vs.getD 0 undef)] 0])) x/\e=.panicked [{ v:=x,recovered:=false}]/\Below w.heap.size w w'))->
     ∃ u A1,e=.returned u/\Rel F A1 w' (.fn g [] [.ep [.os i] 0]) u/\Step F own w h A1 w':=by
    rintro e w' (⟨s',u,A1,rfl,rfl,V,m3,m4,m5,m6⟩ | ⟨x',m1,_⟩);rw[show aS 3 (.fn g [] [.ep [.v (vs.getD 0 undef)] 0])=[]from rfl,al3]at V;refine⟨u,A1,rfl,Yh m4 ((U.2 0 (.os i) rfl).mono m3.apS),V,m3,λid U O=>?_⟩;cases ho:A1 id with
    |none=>rfl|some hd=>rw[m6 id (V.dom id hd ho),U]at ho;cases ho
    exact m1.elim
   refine⟨trivial,?_,λK Q X=>?_⟩;obtain⟨e,w',fr,hR,_⟩:=k2 [];obtain⟨u,A1,_,m1,V⟩:=key hR;exact⟨u,A1,w',m1,V⟩;rw[O,k1];refine⟨λh=>(by cases h),?_⟩;refine CallsIn.mono (mT k2) λe w' hR=>?_;obtain⟨u,A1,rfl,m1,V⟩:=key hR;exact X u A1 w' m1 V
  cases Y:G.p f (args.map (fD h 6))with
  |none=>rw[Y]at hr;cases hr
  |some cc=>
   rw[Y]at hr;cases cc with
   |rel=>cases hr|may=>cases hr
   |det p s=>
    simp only[drC]at hr;have hrow:∀ (E:List Ob),aS 3 s=E->drR (args.all (c8 3)) (args.flatMap (j5 h 6)) nx p s E=some r->
      ((args.all (c8 3) ||i6 3 s)=true/\((E=[]/\r=⟨p,True,s,[],args.flatMap (j5 h 6)⟩)\/∃ ob,E=[ob]/\r=⟨p,True,iE 3 nx s,[(nx,ob)],args.flatMap (j5 h 6)⟩)):=λE _ hr=>by
     match E,hr with
     | [],hr=>
      grind [drR]
     | [ob],hr=>
      grind [drR]
     |_::_::_,hr=>simp[drR]at hr
    obtain⟨hb,hcase⟩:=hrow _ rfl hr;rw[ama]at hb;have hres:args.all (c8 3)=true\/∀ s',dL (.det p s) s'->i6 3 s'=true:=hb.imp id (λh s' hs'=>by cases hs';exact h);rcases hcase with⟨hz,rfl⟩ | ⟨ob,hz,rfl⟩
    ·obtain⟨k1,k2⟩:=DL (P:=P) hG hp U Y hc hres;have key:∀ {e:Ending} {w':World},((∃ s' u A1,dL (.det p s) s'/\e=.returned u/\Hp F A1 w' (h++aS 3 s')/\Fr { w:=w,own:=own} A1 w'/\Rel F A1 w' (iE 3 h.length s') u/\Below w.heap.size w w'/\∀ id,id<h.length->A1 id=own id)\/(∃ x,ke (.det p s) x/\e=.panicked [{ v:=x,recovered:=false}]/\Below w.heap.size w w'))->
       ∃ u A1,e=.returned u/\Rel F A1 w' s u/\Step F own w h A1 w':=by
      rintro e w' (⟨s',u,A1,rfl,rfl,V,m3,m4,m5,m6⟩ | ⟨x',m1,_⟩);rw[hz,al3]at V;rw[CD 3 _ _ hz]at m4;refine⟨u,A1,rfl,m4,V,m3,λid U O=>?_⟩;cases ho:A1 id with
      |none=>rfl|some hd=>rw[m6 id (V.dom id hd ho),U]at ho;cases ho
      exact m1.elim
     refine⟨trivial,?_,λK Q X=>?_⟩;obtain⟨e,w',fr,hR,_⟩:=k2 [];obtain⟨u,A1,_,m1,V⟩:=key hR;exact⟨u,A1,w',m1,V⟩;rw[O,k1];refine⟨λh=>(by cases h),?_⟩;refine CallsIn.mono (mT k2) λe w' hR=>?_;obtain⟨u,A1,rfl,m1,V⟩:=key hR;exact X u A1 w' m1 V
    obtain⟨k1,k2⟩:=Ux (P:=P) hG hp hn U Y hc hres;have key:∀ {e:Ending} {w':World},((∃ s' u,∃ A1:Ob->Own,dL (.det p s) s'/\e=.returned u/\∀ ob,aS 3 s'=[ob]->Rel F (A1 ob) w' (iE 3 nx s') u/\Step F own w (bb h [(nx,ob)]) (A1 ob) w')\/(∃ x,ke (.det p s) x/\e=.panicked [{ v:=x,recovered:=false}]/\Below w.heap.size w w'))->
      ∃ u A1,e=.returned u/\Rel F A1 w' (iE 3 nx s) u/\Step F own w (bb h [(nx,ob)]) A1 w':=by
     rintro e w' (⟨s',u,A1,rfl,rfl,V⟩ | ⟨x',m1,_⟩);grind
     exact m1.elim
    refine⟨trivial,?_,λK Q X=>?_⟩;obtain⟨e,w',fr,hR,_⟩:=k2 [];obtain⟨u,A1,_,m1,V⟩:=key hR;grind
    rw[O,k1];refine⟨λh=>(by cases h),?_⟩;refine CallsIn.mono (mT k2) λe w' hR=>?_;obtain⟨u,A1,rfl,m1,V⟩:=key hR;grind
 |bad=>grind [jK]|_=>simp[jK]at hr
end
theorem zd (ups:List Up):∀ h:List Ob,h.length<=(bb h ups).length:=by
 induction ups with
 |nil=>intro h;exact alJ _
 |cons x r E=>
  intro h;obtain⟨id,o⟩:=x;refine alW ?_ (E (cm h id o));grind [cA]
theorem IF {id:Nat}:∀ {ups:List Up} {h:List Ob},id∈fe ups->id< (bb h ups).length
 |(i,o)::r,h,O=>by
  simp only[fe,alV]at O;simp only[bb];by_cases E:id∈fe r
  exact IF E;have e:id=i:=O.resolve_right E;subst e;refine alT ?_ (zd r _);grind [cA]
theorem pA {id:Nat}:∀ {ups:List Up} {h:List Ob},id ∉ fe ups->ap (bb h ups) id=ap h id
 | [],h,_=>rfl
 |(i,o)::r,h,E=>by
  simp only[fe,alV,not_or]at E;simp only[bb];rw[pA E.2,dy,if_neg (λe=>E.1 e.symm)]
theorem IG {id:Nat}:∀ {ups:List Up} {h h':List Ob},id∈fe ups->ap (bb h ups) id=ap (bb h' ups) id
 |(i,o)::r,h,h',O=>by
  simp only[fe,alV]at O;simp only[bb];by_cases E:id∈fe r
  exact IG E;simp_all [pA,dy]
theorem Uy {cx:Cx}(E:ap cx.st.h cx.nx=.dead){op:Op}(X:zQ op=true){c a:Prop}{ups:List Up}{s:SV}(h:opS cx op=.eff c a ups s)(id:Nat):aqm (ap cx.st.h id) (ap (bb cx.st.h ups) id):=by
 cases op with
 |mapEntry t m k=>
  simp only[opS]at h;unfold aJ at h;cases Y:cx.ts t with
  |none=>grind
  |some ti=>
   rw[Y]at h;change yf ti cx.nx cx.st.h (val cx k) (val cx m)=_ at h;unfold yf at h;split at h
   rename_i i _;unfold RR at h;split at h
   rename_i kk O l U W;cases V:lq kk ti.mkt&&lq O ti.mvt&&noE U with
   |false=>grind
   |true=>
    rw[V]at h;simp only[cond_true]at h;unfold RQ at h;split at h
    cases h;simp only[bb];rw[dy];split
    rename_i e;subst e;exact .inr (.inl ⟨kk,O,l,_,_,W,rfl⟩);rw[dy];split
    rename_i e;subst e;exact .inr (.inr ⟨.inl E,.inr rfl⟩);exact .refl _;cases h
   cases h;cases h
 |_=>cases X
theorem Ke {o:Op}(V:zQ o=true){cx:Cx}{f:FuncId}{args:List SV}(h:opS cx o=.call f args):False:=by
 cases o with
 |mapEntry t m x=>
  simp only[opS]at h;unfold aJ at h;cases W:cx.ts t with
  |none=>grind
  |some ti=>
   rw[W]at h;change yf ti cx.nx cx.st.h (val cx x) (val cx m)=_ at h;unfold yf at h;split at h
   rename_i i _;unfold RR at h;split at h
   rename_i kk O l E X;cases U:lq kk ti.mkt&&lq O ti.mvt&&noE E with
   |false=>grind
   |true=>
    rw[U]at h;simp only[cond_true]at h;unfold RQ at h;grind
   cases h;cases h
 |_=>cases V
theorem Uz {G:Cons}{h:List Ob}{nx:Nat}{E:OR}{r:Dr}(O:jK G h nx E=some r)(U:∀ c a ups s,E≠ .eff c a ups s)(hc:∀ f args,E≠ .call f args):r.ups=[]:=by
 cases E with
 |eff c a ups s=>grind|call f args=>grind
 |_=>simp only[jK]at O;first|(cases O;rfl) |cases O
theorem O3 {ts:Tis}{G:Cons}{ops:List Oper}{K:St->Prop}{Z:Value->St->Prop}{o:Oper}{rest:List Oper}{i b:Nat}{E:List Fp}{st:St}(h:jO ts G ops K Z (o::rest) i b E st):
  (∃ r,jK G st.h st.h.length (opS ⟨ts,ops,o.guard,st,st.h.length⟩ o.op)=some r/\
   (o.guard=none->r.c/\(r.a->jO ts G ops K Z rest (i+1) b (E++[fpU o.op (fpO ⟨ts,ops,o.guard,st,st.h.length⟩ o.op) r.all r.ups]) (St.put ⟨st.t,bb st.h r.ups⟩ o.dst r.s)))/\
   (∀ g,o.guard=some g->(dO ops st.t ops.length g->r.c)/\((r.ups=[]/\jO ts G ops K Z rest (i+1) b (E++[fpU o.op (fpO ⟨ts,ops,o.guard,st,st.h.length⟩ o.op) r.all []]) (st.put o.dst (.gd g.1 g.2 r.s)))\/
    (¬ (dO ops st.t ops.length g/\gi ops st.t ops.length g)/\(dO ops st.t ops.length g->r.a->jO ts G ops K Z rest (i+1) b (E++[fpU o.op (fpO ⟨ts,ops,o.guard,st,st.h.length⟩ o.op) r.all r.ups]) (St.put ⟨st.t,bb st.h r.ups⟩ o.dst (.gd g.1 g.2 r.s)))/\
     (gi ops st.t ops.length g->jO ts G ops K Z rest (i+1) b (E++[fpU o.op (fpO ⟨ts,ops,o.guard,st,st.h.length⟩ o.op) r.all []]) (st.put o.dst (.gd g.1 g.2 r.s)))))))\/
  (sB ops b E/\Eh ops i=true/\QH G ops o.dst st (λst'=>jO ts G ops K Z rest (i+1) (i+1) [] st') Z o.guard (opS ⟨ts,ops,o.guard,st,st.h.length⟩ o.op)):=by
 simp only[jO]at h;cases O:o.guard with
 |none=>
  rw[O]at h;simp only at h;cases hd:jK G st.h st.h.length (opS ⟨ts,ops,none,st,st.h.length⟩ o.op)with
  |none=>rw[hd]at h;exact .inr h
  |some r=>
   rw[hd]at h;exact .inl ⟨r,rfl,λ_=>h,λg e=>by cases e⟩
 |some g=>
  rw[O]at h;simp only at h;cases hd:jK G st.h st.h.length (opS ⟨ts,ops,some g,st,st.h.length⟩ o.op)with
  |none=>rw[hd]at h;exact .inr h
  |some r=>
   grind [wI,drG]
section
variable {P:Program}{F:Nat->Prop}{own bn:Own}{w w':World}{ts:Tis}
variable {w0:Bs}{ro:Option Nat}{nd:Nat}{N n:Nat}{ops:List Oper}{st:St}{a:Act}{G:Cons}
def QN {nx:Nat}{E:Nat->Prop}(V:ts.ok P)(hi:apC F w0 N ops E own st a w)(W:ap9 own st.h nx){o:Oper}(U:GOk ops a o.guard)(O:∀ k c,o.guard=some (k,c)->E k/\mS ops k):
  Mb P F own w st.h ((execOp a.eval o).run P w) (opS ⟨ts,ops,o.guard,st,nx⟩ o.op):=
 OQ (P:=P) (ts:=ts) (ops:=ops) (g:=o.guard) (t:=st.t) (h:=st.h) (nx:=nx) V hi.hp W (a:=a) (o:=o) (J2 hi U O) (λc x y _=>⟨λhc=>xK hi U O c x true hc,λhc=>xK hi U O c y false hc⟩)
theorem O4 {α:Type}(f:Nat->α)(m:Nat):(List.range (m+1)).map f=f 0::(List.range m).map (λi=>f (i+1)):=by
 rw[List.range_succ_eq_map];simp_all
theorem sim (hts:ts.ok P)(hG:X2 P G)(hr:ROk N ops){K:St->Prop}{Z:Value->St->Prop}:∀ (rest:List Oper) (n:Nat) (own:Own) (st:St) (a:Act) (w:World) (b:Nat) (V:List Fp),ops.drop n=rest->apC F w0 N ops (· <n) own st a w->jO ts G ops K Z rest n b V st->
  ∃ (m:Nat) (S:Nat->St) (s:Nat->SV) (ups:Nat->List Up) (fs:Nat->Fp) (R:Nat->Dr),S 0=st/\apA ts G ops n m S s ups fs R/\sB ops b (V++(List.range m).map fs)/\Yg ts G ops K Z (n+m) (S m)
 | [],n,own,st,a,w,b,V,hd,hi,Y=>by
  have hn:ops.length<=n:=by
   simp_all
  exact⟨0,λ_=>st,λ_=>.any,λ_=>[],λ_=>⟨[],[],[],[],[]⟩,λ_=>⟨True,True,.any,[],[]⟩,rfl,⟨λi h=>by omega⟩,by simpa using Y.1,.inl ⟨hn,Y.2⟩⟩
 |o::rest,n,own,st,a,w,b,V,hd,hi,Y=>by
  obtain⟨X,hd'⟩:=EO hd;have E:∀ j b,o.guard=some (j,b)->j<n:=λj b e=>hr.lt n o j b X e;rcases O3 Y with⟨r,h1,h2,h3⟩ | ⟨h1,h2,h3⟩
  ·
   have U:∀ (s:SV) (ups:List Up) (bn:Own) (a':Act) (w':World),(o.guard=none->r.c/\s=r.s/\ups=r.ups)->(∀ g,o.guard=some g->(dO ops st.t ops.length g->r.c)/\((r.ups=ups/\s=.gd g.1 g.2 r.s/\(ups=[]\/¬gi ops st.t ops.length g))\/(ups=[]/\s=.gd g.1 g.2 r.s/\¬dO ops st.t ops.length g)))->
     apC F w0 N ops (· <n+1) bn (St.put ⟨st.t,bb st.h ups⟩ o.dst s) a' w'->jO ts G ops K Z rest (n+1) b (V++[fpU o.op (fpO ⟨ts,ops,o.guard,st,st.h.length⟩ o.op) r.all ups]) (St.put ⟨st.t,bb st.h ups⟩ o.dst s)->
     ∃ (m:Nat) (S:Nat->St) (s:Nat->SV) (ups:Nat->List Up) (fs:Nat->Fp) (R:Nat->Dr),S 0=st/\apA ts G ops n m S s ups fs R/\sB ops b (V++(List.range m).map fs)/\Yg ts G ops K Z (n+m) (S m):=by
    intro s ups bn a' w' q1 q2 q3 q4;obtain⟨m,S,s',ups',fs,R,e0,e1,e2,e3⟩:=sim hts hG hr rest (n+1) bn _ a' w' b _ hd' q3 q4;refine⟨m+1,λi=>match i with|0=>st|i+1=>S i,λi=>match i with|0=>s|i+1=>s' i,λi=>match i with|0=>ups|i+1=>ups' i,λi=>match i with|0=>fpU o.op (fpO ⟨ts,ops,o.guard,st,st.h.length⟩ o.op) r.all ups|i+1=>fs i,λi=>match i with|0=>r|i+1=>R i,rfl,⟨λi hi=>?_⟩,?_,?_⟩;cases i with
    |zero=>exact⟨o,X,⟨h1,e0,rfl,q1,q2⟩⟩
    |succ i=>
     obtain⟨o',k1,k2⟩:=e1.fact i (by omega);grind
    grind [O4]
    grind
   by_cases W:GOk ops a o.guard
   ·have hrun:=QN hts hi hi.hp.nx W (λk c e=>⟨E k c e,n,o,c,X,e⟩);have hc:r.c:=by
     cases O:o.guard with
     |none=>grind
     |some g=>exact(h3 g O).1 (uE hi n (λ_ _ _ _ _ _ _ _=>rfl) hr.lt _ g (E g.1 g.2 O) (E g.1 g.2 O) ⟨n,o,g.2,X,O⟩ (by grind))
    obtain⟨ha,⟨u,bn,w',k1,k2⟩,_⟩:=ZT (ro:=none) (nd:=0) (a:=a) (o:=o) hG hi.hp hi.hp.nx hrun h1 hc;have hstep:=hi.aqe hr (tU n) (amI n) X E W k2.hp k2.fr k1;cases O:o.guard with
    |none=>exact U r.s r.ups bn _ w' (λ_=>⟨hc,rfl,rfl⟩) (λg e=>by grind) hstep.1 ((h2 O).2 ha)
    |some g=>
     have h3':=h3 g O;rcases h3'.2 with⟨e0,Y⟩ | ⟨nb,hP,_⟩;refine U (.gd g.1 g.2 r.s) [] bn (a.put o.dst u) w' (λe=>by grind) (λg' e=>by grind) ?_ Y;grind
     have hPp:=uE hi n (λ_ _ _ _ _ _ _ _=>rfl) hr.lt ops.length g (E g.1 g.2 O) (E g.1 g.2 O) ⟨n,o,g.2,X,O⟩ (by grind);exact U (.gd g.1 g.2 r.s) r.ups bn (a.put o.dst u) w' (λe=>by grind) (λg' e=>by grind) (hstep.2 g O) (hP hPp ha)
   cases O:o.guard with
   |none=>exact absurd (by rw[O];trivial) W
   |some g=>
    have h3':=h3 g O;rcases h3'.2 with⟨e0,Y⟩ | ⟨nb,_,hN⟩;exact U (.gd g.1 g.2 r.s) [] own _ w (λe=>by grind) (λg' e=>by grind) (hi.skip hr (tU n) (amI n) X E W O) Y;have hNn:=Bm hi ops.length g (E g.1 g.2 O) ⟨n,o,g.2,X,O⟩ (by grind);exact U (.gd g.1 g.2 r.s) [] own _ w (λe=>by grind) (λg' e=>by grind) (hi.skip hr (tU n) (amI n) X E W O) (hN hNn)
  ·
   exact⟨0,λ_=>st,λ_=>.any,λ_=>[],λ_=>⟨[],[],[],[],[]⟩,λ_=>⟨True,True,.any,[],[]⟩,rfl,⟨λi h=>by omega⟩,by grind,.inr ⟨o,X,h2,by grind⟩⟩
variable {b m:Nat}{S:Nat->St}{s:Nat->SV}{ups:Nat->List Up}{fs:Nat->Fp}{R:Nat->Dr}
theorem ZU (st:St)(d:Option Nat)(s:SV):(st.put d s).h=st.h:=by cases d <;>rfl
theorem O5 (st:St)(d:Option Nat)(s:SV)(t:Nat):lk t (st.put d s).t=if d=some t then s else lk t st.t:=by
 cases d with
 |none=>rfl
 |some d=>
  show lk t ((d,s)::st.t)=_;simp_all [px]
theorem apA.hstep (E:apA ts G ops b m S s ups fs R){i:Nat}(hi:i<m):(S (i+1)).h=bb (S i).h (ups i):=by
 obtain⟨o,_,f⟩:=E.fact i hi;rw[f.nxt,ZU]
theorem apA.len (E:apA ts G ops b m S s ups fs R){i:Nat}:∀ {j:Nat},i<=j->j<=m->(S i).h.length<=(S j).h.length
 |0,h,_=>by
   grind
 |j+1,h,hj=>by
  by_cases e:i=j+1
  grind
  refine alW (apA.len E (j:=j) (by omega) (by omega)) ?_;rw[E.hstep (by omega)];exact zd _ _
theorem apA.same (E:apA ts G ops b m S s ups fs R){id i:Nat}:∀ {j:Nat},i<=j->j<=m->(∀ k,i<=k->k<j->id ∉ fe (ups k))->ap (S i).h id=ap (S j).h id
 |0,h,_,_=>by
   grind
 |j+1,h,hj,hk=>by
  by_cases e:i=j+1
  subst e;rfl;rw[apA.same E (j:=j) (by omega) (by omega) (λk h1 h2=>hk k h1 (by omega)),E.hstep (by omega),pA (hk j (by omega) (by omega))]
theorem apA.like (V:apA ts G ops b m S s ups fs R){id i:Nat}:∀ {j:Nat},i<=j->j<=m->(∀ k,i<=k->k<j->id∈(fs k).tc->False)->aqm (ap (S i).h id) (ap (S j).h id)
 |0,h,_,_=>by
   have:i=0:=by omega
   subst this;exact .refl _
 |j+1,h,hj,hk=>by
  by_cases e:i=j+1
  subst e;exact .refl _;refine(apA.like V (j:=j) (by omega) (by omega) (λk h1 h2=>hk k h1 (by omega))).trans ?_;obtain⟨o,ho,f⟩:=V.fact j (by omega);rw[V.hstep (by omega)];by_cases W:id∈fe (ups j)
  have U:=hk j (by omega) (by omega);rw[f.fp]at U;unfold fpU at U;cases X:zQ o.op with
  |false=>grind
  |true=>
   have e3:ups j=[]\/ups j=(R j).ups:=by
    cases hg:o.guard with
    |none=>exact .inr (f.plain hg).2.2
    |some g=>
     rcases(f.guarded g hg).2 with⟨e,_⟩ | ⟨e,_⟩ <;>grind
   rcases e3 with e3|e3;grind [fe]
   have E:=f.dr;cases O:opS ⟨ts,ops,o.guard,S j,(S j).h.length⟩ o.op with
   |eff c a' Y s'=>
    rw[O]at E;simp only[jK,alK]at E;rw[e3,<-E];exact Uy (mQ (alJ _)) X O id
   |_=>
    rw[O]at E;rw[e3,Uz E (λ_ _ _ _ e=>by cases e) (λf args e=>Ke X (O.trans e))]at W;simp[fe]at W
  rw[pA W];exact .refl _
end
variable {x y:Fp}
theorem Mo{id:Nat}(h1:id∈x.tc\/id∈x.wt)(h2:id∈y.tc\/id∈y.wt):tK x y=true:=by
 grind [tK,uG]
theorem UA{id:Nat}(h1:id∈x.rd)(h2:id∈y.tc\/id∈y.wt):tK x y=true:=by
 grind [tK,uG]
theorem UB{id:Nat}(h1:id∈x.wk)(h2:id∈y.tc):tK x y=true:=by
 grind [tK,uG]
theorem Sy{id:Nat}(h1:id∈x.all)(h2:id∈y.tc\/id∈y.wt):tK x y=true:=by
 grind [tK,uG]
section
variable {P:Program}{F:Nat->Prop}{own bn:Own}{w w':World}{ts:Tis}
variable {w0:Bs}{ro:Option Nat}{nd:Nat}{N n:Nat}{ops:List Oper}{st:St}{a:Act}{G:Cons}
variable {b m:Nat}{S:Nat->St}{s:Nat->SV}{ups:Nat->List Up}{fs:Nat->Fp}{R:Nat->Dr}
theorem apA.aqz (E:apA ts G ops b m S s ups fs R){i id:Nat}(hi:i<m)(h:id∈fe (ups i)):id∈(fs i).tc\/id∈(fs i).wt:=by
 obtain⟨o,_,f⟩:=E.fact i hi;rw[f.fp];grind [fpU]
theorem apA.aqS (E:apA ts G ops b m S s ups fs R){i id:Nat}(hi:i<m)(h:id∈(fs i).tc):id∈fe (ups i):=by
 obtain⟨o,_,f⟩:=E.fact i hi;rw[f.fp]at h;grind [fpU]
theorem apA.lt (E:apA ts G ops b m S s ups fs R){i id:Nat}(hi:i<m)(h:id∈fe (ups i)):id< (S (i+1)).h.length:=by
 rw[E.hstep hi];exact IF h
theorem apA.lk (E:apA ts G ops b m S s ups fs R)(t:Nat):∀ k,k<=m->(∃ (j:Nat) (q:Oper),j<k/\ops[b+j]? =some q/\q.dst=some t/\Sx.lk t (S k).t=s j)\/((∀ (j:Nat) (q:Oper),j<k->ops[b+j]? =some q->q.dst≠some t)/\Sx.lk t (S k).t=Sx.lk t (S 0).t)
 |0,_=>.inr ⟨λj q h=>by omega,rfl⟩
 |k+1,hk=>by
  obtain⟨o,U,f⟩:=E.fact k (by omega);have O:Sx.lk t (S (k+1)).t=if o.dst=some t then s k else Sx.lk t (S k).t:=by rw[f.nxt,O5]
  by_cases hd:o.dst=some t
  grind
  rw[if_neg hd]at O;rcases apA.lk E t k (by omega)with⟨j,q,h1,h2,V,W⟩ | ⟨h1,h2⟩ <;>grind
structure ap8 (F:Nat->Prop)(w0:Bs)(N:Nat)(ops:List Oper)(b m:Nat)(S:Nat->St)(s:Nat->SV)(ups:Nat->List Up)(listed:Array Bool)(own:Own)(st:St)(a:Act)(w:World):Prop where
 inv:apC F w0 N ops (λk=>listed[k]? =some true) own st a w
 size:listed.size=ops.length
 low:∀ k,k<b->k<ops.length->listed[k]? =some true
 high:∀ k,b+m<=k->¬listed[k]? =some true
 put:∀ (k:Nat) (q:Oper) (d:Nat),k<m->listed[b+k]? =some true->ops[b+k]? =some q->q.dst=some d->lk d st.t=s k
 old:∀ t,(∀ (k:Nat) (q:Oper),k<m->listed[b+k]? =some true->ops[b+k]? =some q->q.dst≠some t)->lk t st.t=lk t (S 0).t
 closed:DO ops (λk=>listed[k]? =some true)
 heap:∀ id,∃ p,p<=m/\(∀ k,k<m->id∈fe (ups k)->(listed[b+k]? =some true↔k<p))/\ap st.h id=ap (S p).h id
 dom:∀ id,own id=none\/id< (S 0).h.length\/∃ k,k<m/\listed[b+k]? =some true/\id∈fe (ups k)
variable {listed:Array Bool}
theorem Ac{k:Nat}(h:listed.getD k true=false):listed[k]? =some false:=by
 simp only[al_]at h;grind
theorem Mq{n:Nat}(E:listed[n]? =some false)(k:Nat):(listed.setIfInBounds n true)[k]? =some true↔listed[k]? =some true\/k=n:=by
 grind
theorem UC {o:Oper}{n:Nat}(h:Operand.tmp n∈o.op.operands.toList):n∈o.looksAt ops.toArray:=by
 grind [Oper.looksAt]
variable {listed:Array Bool}
variable {k:Nat}{o:Oper}
theorem ap8.order(hi:ap8 F w0 N ops b m S s ups listed own st a w)(ho:ops[b+k]? =some o)(V:listed[b+k]? =some false)(hw:∀ j,pm o j=true->listed[j]? =some true){j:Nat}(Y:j≠k)(E:Ord ops (b+k) (b+j)):
  (j<k/\listed[b+j]? =some true)\/(k<j/\¬listed[b+j]? =some true):=by
 rcases E with⟨h1,h2⟩ | ⟨h1,h2⟩;left;refine⟨by omega,?_⟩;have:=Kc (ops:=ops) (S:=λi=>listed[i]? =some true\/i=b+k) (λi q X U W O=>?_) (.inr rfl) h2;grind
 rcases U with U|rfl;exact .inl (hi.closed i q X U W O);grind
 right;refine⟨by omega,λhl=>?_⟩;have:=Kc hi.closed hl h2;grind
theorem ap8.obj(hi:ap8 F w0 N ops b m S s ups listed own st a w)(O:apA ts G ops b m S s ups fs R)(hk:k<m)(V:listed[b+k]? =some false){id:Nat}
  (Y:∀ j,j<m->j≠k->id∈fe (ups j)->(j<k/\listed[b+j]? =some true)\/(k<j/\¬listed[b+j]? =some true)):ap (S k).h id=ap st.h id:=by
 obtain⟨p,h1,h2,U⟩:=hi.heap id;rw[U];have X:¬listed[b+k]? =some true:=by grind
 by_cases E:p<=k
 refine(O.same E (by omega) λj W q2 hm=>?_).symm;grind
 refine O.same (by omega) h1 λj W q2 hm=>?_;grind
theorem ap8.arC(hi:ap8 F w0 N ops b m S s ups listed own st a w)(E:apA ts G ops b m S s ups fs R)(hk:k<m)(Y:listed[b+k]? =some false){id:Nat}
  (V:∀ j,j<m->j≠k->id∈(fs j).tc->(j<k/\listed[b+j]? =some true)\/(k<j/\¬listed[b+j]? =some true)):aqm (ap (S k).h id) (ap st.h id):=by
 obtain⟨p,h1,h2,h3⟩:=hi.heap id;rw[h3];have hnk:¬listed[b+k]? =some true:=by grind
 by_cases U:p<=k
 refine(E.like U (by omega) λj q1 W O=>?_).symm;rcases V j (by omega) (by omega) O with⟨_,X⟩ | ⟨h,_⟩;have:=(h2 j (by omega) (E.aqS (by omega) O)).1 X;omega;omega;refine E.like (by omega) h1 λj q1 W O=>?_;have X:=(h2 j (by omega) (E.aqS (by omega) O)).2 W;grind
theorem ap8.reads(hd:DOk ops)(hi:ap8 F w0 N ops b m S s ups listed own st a w)(hp:apA ts G ops b m S s ups fs R)(hk:k<m)(U:ops[b+k]? =some o)(X:listed[b+k]? =some false)
  (hw:∀ j,pm o j=true->listed[j]? =some true) {d:Nat} (W:d∈o.looksAt ops.toArray):lk d (S k).t=lk d st.t:=by
 rcases hp.lk d k (by omega)with⟨j,q,h1,h2,V,Y⟩ | ⟨h1,h2⟩;rw[Y];rcases hd.look (b+k) (b+j) o q d U h2 V W with e| ⟨_,e⟩ | ⟨e,_⟩;omega;exact(hi.put j q d (by omega) (hw _ e) h2 V).symm;omega;rw[h2];refine(hi.old d λj q hj hl O E=>?_).symm;rcases hd.look (b+k) (b+j) o q d U O E W with e| ⟨e,_⟩ | ⟨_,e⟩;grind
 grind
 have:listed[b+k]? =some true:=hi.closed _ q _ hl O e;grind
theorem ap8.full (hd:DOk ops)(hi:ap8 F w0 N ops b m S s ups listed own st a w)(hp:apA ts G ops b m S s ups fs R)(O:∀ k,k<m->listed[b+k]? =some true):apC F w0 N ops (λk=>listed[k]? =some true) own (S m) a w:=by
 have ht:∀ t,lk t (S m).t=lk t st.t:=λt=>by
  rcases hp.lk t m (alJ _)with⟨j,q,h1,h2,U,V⟩ | ⟨h1,h2⟩;rw[V];exact(hi.put j q t h1 (O j h1) h2 U).symm;rw[h2];exact(hi.old t λk q Y _ X=>h1 k q Y X).symm
 have W:∀ id,ap (S m).h id=ap st.h id:=λid=>by
  obtain⟨p,h1,h2,U⟩:=hi.heap id;rw[U];refine(hp.same h1 (alJ _) λj q1 q2 hm=>?_).symm;grind
 refine⟨hi.inv.size,hi.inv.defers,⟨λid hd e=>?_,hi.inv.hp.ao1,hi.inv.hp.apart,hi.inv.hp.inj,hi.inv.hp.lt,λid E=>?_⟩,hi.inv.fr,λt=>by rw[ht];exact hi.inv.slots t,λk o d j b s h1 h2 U V h5=>hi.inv.tags k o d j b s h1 h2 U V (by grind),hi.inv.closed,hi.inv.chain⟩;rcases hi.dom id with h|h| ⟨k,h1,_,h2⟩;grind
 exact alT h (hp.len (ame _) (alJ _));exact alT (hp.lt h1 h2) (hp.len (by omega) (alJ _));rw[W]at E |-;exact hi.inv.hp.obs id E
theorem ap8.start (hi:apC F w0 N ops (· <b) own (S 0) a w)(U:listed.size=ops.length)(X:∀ k,k<ops.length->(listed[k]? =some true↔k<b))(hr:ROk N ops)(W:∀ (i:Nat) (o:Oper) (j:Nat),ops[i]? =some o->pm o j=true->j<i):ap8 F w0 N ops b m S s ups listed own (S 0) a w:=by
 have hE:∀ k,listed[k]? =some true->k<b:=λk h=>(X k (by grind)).1 h;have E:∀ {k:Nat},¬listed[b+k]? =some true:=λ{k} h=>by grind
 refine⟨⟨hi.size,hi.defers,hi.hp,hi.fr,λt=>?_,λk o d j O s h1=>hi.tags k o d j O s (hE k h1),λk o j O h1 h2 h3=>?_,λk o O h1=>hi.chain k o O (hE k h1)⟩,U,λk h1 h2=>(X k h2).2 h1,λk h1 h2=>by grind,λk q d _ h=>absurd h E,λt _=>rfl,λi o j h1 h2 h3=>?_,λid=>⟨0,ame _,λk hk _=>⟨λh=>absurd h E,λh=>by omega⟩,rfl⟩,λid=>?_⟩;have h:=hi.slots t;cases hs:lk t (S 0).t with
 |gd j O s'=>
  rw[hs]at h;obtain⟨q1,⟨i,o,Y,V,q3⟩,q4⟩:=h;have hlt:=(alM.1 V).1;have:=hr.lt i o j Y V q3;exact⟨(X j (by omega)).2 q1,⟨i,o,Y,V,q3⟩,q4⟩
 |_=>rw[hs]at h;exact h
 have hlt:=(alM.1 h2).1;have:=hr.lt k o j O h2 h3;grind
 grind
 cases ho:own id with
 |none=>grind|some hd=>exact .inr (.inl (hi.hp.dom id hd ho))
end
variable {r:Dr}
theorem Yi{np:Bool}{rd:List Nat}{nx:Nat}{p:Prop}{s:SV}{rows:List Ob}(h:drR np rd nx p s rows=some r):r.all=rd:=by
 match rows,h with
 | [],h=>grind [drR]| [ob],h=>grind [drR]|_::_::_,h=>simp[drR]at h
theorem UD {E:Bool}{rd:List Nat}{nx nx':Nat}{c:Option Con}:(drC E rd nx c=none->drC E rd nx' c=none)/\∀ r,drC E rd nx c=some r->¬nx∈fe r.ups->drC E rd nx' c=some r:=by
 cases c with
 |none=>exact⟨id,λr h=>by cases h⟩
 |some c=>
  cases c with
  |rel=>exact⟨id,λr h=>by cases h⟩
  |may=>exact⟨id,λr h=>by cases h⟩
  |det p s=>
   simp only[drC];generalize aS 3 s=rows;match rows with
   | [] =>exact⟨id,λr h _=>h⟩
   | [ob] =>
    unfold drR;cases E||i6 3 s;exact⟨id,λr h=>by cases h⟩;exact⟨λh=>(by cases h),λr h O=>by cases h;exact absurd (by simp[fe]) O⟩
   |_::_::_=>exact⟨id,λr h=>by cases h⟩
variable {h:List Ob}
theorem Yj{G:Cons}{nx nx':Nat}{O:OR}(E:jK G h nx O=some r)(U:¬nx∈fe r.ups\/∀ f args,O≠ .call f args):jK G h nx' O=some r:=by
 cases O with
 |call f args=>
  have U:=U.resolve_right (λh=>h f args rfl);simp only[jK]at E |-;cases hc:drC (args.all (c8 3)) (args.flatMap (j5 h 6)) nx (G.p f (args.map (fD h 6)))with
  |none=>rw[hc]at E;rw[UD.1 hc];exact E|some x=>rw[hc]at E;cases E;rw[UD.2 _ hc U];rfl
 |_=>exact E
def Mr {f:SV->List Nat}{l:List SV}{x:SV}{id:Nat}(O:x∈l)(E:id∈f x):id∈l.flatMap f:=am0.2 ⟨x,O,E⟩
variable {h':List Ob}
theorem UE:∀ (n:Nat) (s:SV),(∀ id,id∈j5 h n s->ap h id=ap h' id)->fD h n s=fD h' n s:=by
 intro n;induction n with
 |zero=>intro s E;cases s <;>first|rfl|(simp only[fD];rw[E _ (by simp[j5])])
 |succ n Y=>
  intro s E;have O:∀ (l:List SV),(∀ id,id∈l.flatMap (j5 h n)->ap h id=ap h' id)->l.map (fD h n)=l.map (fD h' n):=λl O=>
   List.map_congr_left λx X=>Y x λid V=>O id (Mr X V)
  cases s with
  |ptr id off=>
   simp only[fD];rw[<-E id (by simp[j5])];have W:∀ U,(∀ id,id∈RU (j5 h n) U->ap h id=ap h' id)->RS (fD h n) off U=RS (fD h' n) off U:=λU W=>by
    cases U with
    |cells l=>simp only[RS,O l W]|_=>rfl
   grind [j5]
  |ep l o=>simp only[fD,O l E]|ls z l=>simp only[fD,O l E]|agg l=>simp only[fD,O l E]|tup l=>simp only[fD,O l E]|fn f l l2=>grind [fD,j5]
  |_=>first|rfl|(simp only[fD];rw[E _ (by simp[j5])])
theorem EY {f g:SV->List Nat}:∀ (l:List SV),(∀ x,x∈l->f x=g x)->l.flatMap f=l.flatMap g
 | [],_=>rfl
 |a::r,h=>by rw[al5,al5,h a (by simp),EY r λx E=>h x (by simp[E])]
theorem UF:∀ (n:Nat) (s:SV),(∀ id,id∈j5 h n s->ap h id=ap h' id)->j5 h n s=j5 h' n s:=by
 intro n;induction n with
 |zero=>intro s V;cases s <;>rfl
 |succ n Y=>
  intro s V;have U:∀ (l:List SV),(∀ id,id∈l.flatMap (j5 h n)->ap h id=ap h' id)->l.flatMap (j5 h n)=l.flatMap (j5 h' n):=λl U=>
   EY l λx X=>Y x λid O=>U id (Mr X O)
  cases s with
  |ptr id off=>
   simp only[j5];rw[<-V id (by simp[j5])];have W:∀ E,(∀ id,id∈RU (j5 h n) E->ap h id=ap h' id)->RU (j5 h n) E=RU (j5 h' n) E:=λE W=>by
    cases E with
    |cells l=>exact U l W|_=>rfl
   grind [j5]
  |ep l o=>grind [j5]|ls z l=>grind [j5]|agg l=>grind [j5]|tup l=>grind [j5]|fn f l l2=>grind [j5]|_=>rfl
theorem O6{G:Cons}{nx:Nat}{E:OR}(U:∀ id,id∈r.all->ap h id=ap h' id)(hr:jK G h nx E=some r):jK G h' nx E=some r:=by
 cases E with
 |call f args=>
  have O:r.all=args.flatMap (j5 h 6):=by
   simp only[jK]at hr;rcases QM hr with hr|hr
   case inr=>obtain⟨s,g,_,rfl⟩:=QL hr;rfl
   cases hc:G.p f (args.map (fD h 6))with
   |none=>rw[hc]at hr;cases hr
   |some c=>
    rw[hc]at hr;cases c with
    |rel=>cases hr|may=>cases hr
    |det p s=>
     grind [Yi,drC]
  grind [List.map_congr_left,UE,UF,jK]
 |_=>exact hr
theorem abd (o:Op)(x:List Nat×List Nat)(all:List Nat)(ups:List Up):(fpU o x all ups).rd=x.1/\(fpU o x all ups).wk=x.2/\(fpU o x all ups).all=all:=by
 grind [fpU]
section
variable {P:Program}{F:Nat->Prop}{own bn:Own}{w w':World}{ts:Tis}
variable {w0:Bs}{ro:Option Nat}{nd:Nat}{N n:Nat}{ops:List Oper}{st:St}{a:Act}{G:Cons}
variable {b m:Nat}{S:Nat->St}{s:Nat->SV}{ups:Nat->List Up}{fs:Nat->Fp}{R:Nat->Dr}{listed:Array Bool}
theorem ap8.op (hd:DOk ops)(hi:ap8 F w0 N ops b m S s ups listed own st a w)(hp:apA ts G ops b m S s ups fs R)(asu:sB ops b ((List.range m).map fs)){k:Nat}{o:Oper}(X:k<m)(ho:ops[b+k]? =some o)(O:listed[b+k]? =some false)
  (hw:∀ j,pm o j=true->listed[j]? =some true) (hsk:(R k).ups=ups k):∃ nx,ap9 own st.h nx/\jK G st.h nx (opS ⟨ts,ops,o.guard,st,nx⟩ o.op)=some (R k):=by
 obtain⟨o',ho',f⟩:=hp.fact k X;rw[ho]at ho';cases ho';have W:∀ i,i<m->((List.range m).map fs)[i]? =some (fs i):=λi hi=>by simp[hi]
 have U:∀ j,j<m->j≠k->tK (fs k) (fs j)=true->(j<k/\listed[b+j]? =some true)\/(k<j/\¬listed[b+j]? =some true):=λj V E hc=>
  hi.order ho O hw E (EW asu (W k X) (W j V) (λe=>E e.symm) hc)
 obtain⟨e1,e2,e3⟩:=abd o.op (fpO ⟨ts,ops,o.guard,S k,(S k).h.length⟩ o.op) (R k).all (ups k);rw[<-f.fp]at e1 e2 e3;have hop:opS ⟨ts,ops,o.guard,S k,(S k).h.length⟩ o.op=opS ⟨ts,ops,o.guard,st,(S k).h.length⟩ o.op:=
  Su (t:=(S k).t) (h:=(S k).h) (t':=st.t) (h':=st.h) o.op (λx hx=>by
    cases x with
    |tmp n=>exact hi.reads hd hp X ho O hw (UC hx)
    |_=>rfl)
   (λid hid=>hi.obj hp X O λj V E Y=>U j V E (UA (by simp_all) (hp.aqz V Y)))
   (λid hid=>hi.arC hp X O λj V E Y=>U j V E (UB (by simp_all) Y))
 have hdr:=f.dr;have hdr2:jK G st.h (S k).h.length (opS ⟨ts,ops,o.guard,S k,(S k).h.length⟩ o.op)=some (R k):=O6 (λid hall=>hi.obj hp X O λj V E Y=>U j V E (Sy (by grind) (hp.aqz V Y))) hdr;by_cases Y:(S k).h.length∈fe (R k).ups
 refine⟨(S k).h.length,?_,by grind⟩;have hmu:(S k).h.length∈fe (ups k):=by grind
 have hnk:¬listed[b+k]? =some true:=by grind
 refine⟨?_,?_⟩;rcases hi.dom (S k).h.length with h|h| ⟨j,h1,h2,h3⟩;exact h;have:=hp.len (ame k) (by omega);omega;exfalso;have E:j≠k:=λe=>hnk (e▸h2);rcases U j h1 E (Mo (hp.aqz X hmu) (hp.aqz h1 h3))with⟨hlt,_⟩ | ⟨_,hl⟩;have:=hp.lt h1 h3;have:=hp.len (i:=j+1) (j:=k) (by omega) (by omega);omega;grind
 obtain⟨p,h1,h2,h3⟩:=hi.heap (S k).h.length;rw[h3];refine mQ ?_;have:¬k<p:=λh=>hnk ((h2 k X hmu).2 h);exact hp.len (by omega) (by omega);refine⟨st.h.length,hi.inv.hp.nx,?_⟩;rw[abc (nx':=st.h.length) hop.symm ?_];grind [Yj]
 grind [jK]
theorem ap8.next (hd:DOk ops)(hi:ap8 F w0 N ops b m S s ups listed own st a w)(hp:apA ts G ops b m S s ups fs R)(X:sB ops b ((List.range m).map fs)){k:Nat}{o:Oper}(hk:k<m)(ho:ops[b+k]? =some o)(Y:listed[b+k]? =some false)
  (hw:∀ j,pm o j=true->listed[j]? =some true) {a':Act} (W:apC F w0 N ops (λj=>(listed.setIfInBounds (b+k) true)[j]? =some true) bn (St.put ⟨st.t,bb st.h (ups k)⟩ o.dst (s k)) a' w')
  (hfr:∀ id,own id=none->dx (ap (bb st.h (ups k)) id)=true->bn id=none):
  ap8 F w0 N ops b m S s ups (listed.setIfInBounds (b+k) true) bn (St.put ⟨st.t,bb st.h (ups k)⟩ o.dst (s k)) a' w':=by
 have U:∀ i,i<m->((List.range m).map fs)[i]? =some (fs i):=λi hi=>by simp[hi]
 have hor:∀ j,j<m->j≠k->tK (fs k) (fs j)=true->(j<k/\listed[b+j]? =some true)\/(k<j/\¬listed[b+j]? =some true):=λj hj E hc=>
  hi.order ho Y hw E (EW X (U k hk) (U j hj) (λe=>E e.symm) hc)
 have O:=Mq Y;have hnk:¬listed[b+k]? =some true:=by grind
 refine⟨W,by simp[hi.size],λj h1 h2=>(O j).2 (.inl (hi.low j h1 h2)),λj h1 h2=>?_,λj q d h1 h2 V h4=>?_,λt ht=>?_,λi q j h1 h2 V=>?_,λid=>?_,λid=>?_⟩;rcases(O j).1 h2 with h|h;exact hi.high j h1 h;omega;rw[O5];rcases(O _).1 h2 with h|h;have E:o.dst≠some d:=λe=>by
  have:=hd.uniq (b+k) (b+j) o q d ho V e h4;grind
 rw[if_neg E];exact hi.put j q d h1 h V h4;grind
 have E:o.dst≠some t:=ht k o hk ((O _).2 (.inr rfl)) ho;rw[O5,if_neg E];exact hi.old t λj q h1 h2 V=>ht j q h1 ((O _).2 (.inl h2)) V;rcases(O i).1 h1 with h|rfl;exact(O j).2 (.inl (hi.closed i q j h h2 V));grind
 rw[ZU];by_cases hm:id∈fe (ups k)
 refine⟨k+1,by omega,λj hj hmj=>?_,?_⟩;rw[O];by_cases e:j=k
 omega;rcases hor j hj e (Mo (hp.aqz hk hm) (hp.aqz hj hmj))with⟨h1,h2⟩ | ⟨h1,h2⟩ <;>grind;rw[hp.hstep hk];exact IG hm;obtain⟨p,h1,h2,V⟩:=hi.heap id;grind [pA]
 ·by_cases hno:own id=none
  by_cases hm:id∈fe (ups k)
  grind
  left;refine hfr id hno ?_;rw[pA hm];cases hdd:dx (ap st.h id)with
  |true=>rfl
  |false=>obtain⟨hdx,e,_⟩:=hi.inv.hp.obs id hdd;grind
  rcases hi.dom id with h|h| ⟨j,h1,h2,V⟩ <;>grind
variable {Q:Exit->Act->World->Prop}{Z:Value->St->Prop}
theorem Yk(hts:ts.ok P)(hG:X2 P G)(hr:ROk N ops)(hd:DOk ops){K:St->Prop}
  (hZ:∀ x own st a w,W2 F w0 N own st a w->Z x st->Q (.panic [{ v:=x,recovered:=false}]) a w)
  (hK:∀ own st a w,apC F w0 N ops (· <ops.length) own st a w->K st->Q .normal a w):
  ∀ (O:Nat) (listed:Array Bool) (own:Own) (st:St) (a:Act) (w:World) (b m:Nat) (S:Nat->St) (s:Nat->SV) (ups:Nat->List Up) (fs:Nat->Fp) (R:Nat->Dr),
  ap8 F w0 N ops b m S s ups listed own st a w->apA ts G ops b m S s ups fs R->sB ops b ((List.range m).map fs)->Yg ts G ops K Z (b+m) (S m)->listed.toList.count false<=O->wpAnyIn (rd ro) nd P .any ops.toArray Q O listed a w:=by
 have hback:∀ (i:Nat) (o:Oper) (j:Nat),ops[i]? =some o->pm o j=true->j<i:=λi o j V hj=>by
  unfold pm at hj;rw[amx]at hj;obtain⟨e,he,hje⟩:=hj;simp only[alG]at hje;have:=hd.back i o e V (by grind) hje.2;simp_all
 have hdone:∀ (listed:Array Bool) (own:Own) (st:St) (a:Act) (w:World) (b m:Nat) (S:Nat->St) (s:Nat->SV) (ups:Nat->List Up) (fs:Nat->Fp) (R:Nat->Dr),
   ap8 F w0 N ops b m S s ups listed own st a w->apA ts G ops b m S s ups fs R->Yg ts G ops K Z (b+m) (S m)->(∀ k,k<ops.length->listed[k]? =some true)->Q .normal a w:=by
  intro listed own st a w b m S s ups fs R hi hp he E;rcases he with⟨_,hk⟩ | ⟨o,V,_⟩;refine hK own (S m) a w ((hi.full hd hp λk hk=>?_).congr λk=>⟨λh=>by have:=(amW.1 h).1;rw[hi.size]at this;exact this,E k⟩) hk;obtain⟨o,V,_⟩:=hp.fact k hk;grind
  exact absurd (E _ (alM.1 V).1) (hi.high _ (alJ _))
 have hready:∀ (listed:Array Bool),listed.size=ops.length->Region.ready .any ops.toArray listed=[]->∀ k,k<ops.length->listed[k]? =some true:=by
  intro listed hsz aq4 k;induction k using Nat.strongRecOn with
  |_ k ih=>
   intro hk;have hlk:k<listed.size:=by omega
   cases hb:listed[k]with
   |true=>grind
   |false=>
    exfalso;have:k∈Region.ready .any ops.toArray listed:=by
     rw[mem_ready];refine⟨by simp_all,ops[k],by simp[hk],λe he hbe=>?_⟩;have hlt:=hd.back k ops[k] e (alP hk) he hbe;simp_all <;>grind
    grind
 intro O;induction O with
 |zero=>
  intro listed own st a w b m S s ups fs R hi hp W he hc;have E:∀ k,k<ops.length->listed[k]? =some true:=by
   intro k hk;have hlk:k<listed.size:=by rw[hi.size];exact hk
   cases hb:listed[k]with
   |true=>grind
   |false=>
    grind [List.count_pos_iff]
  refine⟨?_,hdone _ _ _ _ _ _ _ _ _ _ _ _ hi hp he E⟩;cases hrd:Region.ready .any ops.toArray listed with
  |nil=>rfl
  |cons x xs=>
   exfalso;have hx:x∈Region.ready .any ops.toArray listed:=by grind
   grind [Ac,mem_ready]
 |succ O ih=>
  intro listed own st a w b m S s ups fs R hi hp W he hc;refine⟨λaq4=>hdone _ _ _ _ _ _ _ _ _ _ _ _ hi hp he (hready _ hi.size aq4),λi hmem=>?_⟩;rw[mem_ready]at hmem;obtain⟨h0,o,ho',hedge⟩:=hmem;have V:ops[i]? =some o:=by grind
  have hni:=Ac h0;have hnk:¬listed[i]? =some true:=by grind
  have hil:i<ops.length:=(alM.1 V).1;have hw:∀ j,pm o j=true->listed[j]? =some true:=by
   intro j hj;unfold pm at hj;simp_all <;>grind
  have hE:=Mq hni;have hgE:∀ j b,o.guard=some (j,b)->listed[j]? =some true:=by
   intro j b U;have hrf:mS ops j:=⟨i,o,b,V,U⟩;obtain⟨q,d,h1,h2,h3⟩:=hr.uniq j hrf;have hlt:=hr.lt i o j b V U;have hm:d∈o.looksAt ops.toArray:=by
    grind [Oper.looksAt]
   rcases hd.look i j o q d V h1 h2 hm with e| ⟨_,e⟩ | ⟨e,_⟩ <;>grind
  have hcnt:(listed.setIfInBounds i true).toList.count false<=O:=by
   grind
  have hclS:DO ops (λj=>listed[j]? =some true\/j=i):=λj q j' hS hq hj'=>by
   rcases hS with hS|rfl;exact .inl (hi.closed j q j' hS hq hj');grind
  have hib:b<=i:=amg λh=>hnk (hi.low i (by omega) hil);by_cases hlt:i<b+m
  ·
   obtain⟨k,rfl⟩:∃ k,i=b+k:=⟨i - b,by omega⟩;have hk:k<m:=by omega
   obtain⟨o',ho2,f⟩:=hp.fact k hk;rw[V]at ho2;cases ho2;have hlk:∀ (j:Nat) (q:Oper) (d:Nat),j<b+k->listed[j]? =some true->mS ops j->ops[j]? =some q->q.dst=some d->lk d (S k).t=lk d st.t:=λj q d hj hEj hrf hq hqd=>by
    rcases hp.lk d k (by omega)with⟨j',q',h1,h2,h3,h4⟩ | ⟨h1,h2⟩;have:=hd.uniq j (b+j') q q' d hq h2 hqd h3;subst this;rw[h4];exact(hi.put j' q d (by omega) hEj hq hqd).symm;rw[h2];refine(hi.old d λj' q' h3 h4 h5 h6=>?_).symm;have:=hd.uniq j (b+j') q q' d hq h5 hqd h6;grind
   unfold wpOpIn;rw[ho'];by_cases X:GOk ops a o.guard
   ·have hgP:∀ g,o.guard=some g->dO ops (S k).t ops.length g:=λg U=>
     uE hi.inv (b+k) hlk hr.lt ops.length g (hr.lt _ o g.1 g.2 V U) (hgE g.1 g.2 U) ⟨b+k,o,g.2,V,U⟩ (by grind)
    have hu:ups k=(R k).ups:=by
     cases U:o.guard with
     |none=>exact(f.plain U).2.2
     |some g=>
      rcases(f.guarded g U).2 with⟨e,_⟩ | ⟨_,_,e⟩ <;>grind
    obtain⟨nx,hnx,hdr⟩:=hi.op hd hp W hk V hni hw hu.symm;have Y:=(mq (ops:=ops) (a:=a) (o:=o)).2 X;simp only[Y,if_true];have hrun:=QN hts hi.inv hnx X (λk' c e=>⟨hgE k' c e,b+k,o,c,V,e⟩);have hc':(R k).c:=by
     cases U:o.guard with
     |none=>exact(f.plain U).1|some g=>exact(f.guarded g U).1 (hgP g U)
    have hnd:∀ c,o.op≠ .defer c:=Bo (cx:=⟨ts,ops,o.guard,st,nx⟩) (λe=>by grind [jK]);obtain⟨_,_,hcont⟩:=ZT (ro:=ro) (nd:=nd) (a:=a) (o:=o) hG hi.inv.hp hnx hrun hdr hc';refine⟨λ_ _=>trivial,?_⟩;rw[Oper.semAt_eq _ _ _ hnd];refine hcont _ _ λu bn w' ap6 hst=>?_;have hstep:=hi.inv.aqe hr hE hnk V hgE X hst.hp hst.fr ap6;rw[<-hu]at hstep;refine ih _ bn _ _ w' b m S s ups fs R (hi.next hd hp W hk V hni hw ?_ (λid e1 e2=>hst.fresh id e1 (by grind))) hp W he hcnt;cases U:o.guard with
    |none=>rw[(f.plain U).2.1];exact hstep.1
    |some g=>
     rcases(f.guarded g U).2 with⟨_,e,_⟩ | ⟨_,_,e⟩ <;>grind
   ·have Y:Region.wanted o (yielded ops.toArray a.tmps)=false:=by
     grind [mq]
    simp only[Y,alO,if_false];refine⟨λ_ _=>trivial,?_⟩;cases U:o.guard with
    |none=>exact absurd (by rw[U];trivial) X
    |some g=>
     have hgN:=EJ hi.inv (b+k) hlk hr.lt ops.length g (hr.lt _ o g.1 g.2 V U) (hgE g.1 g.2 U) ⟨b+k,o,g.2,V,U⟩ (by grind);have hu:ups k=[]/\∃ x,s k=.gd g.1 g.2 x:=by
      rcases(f.guarded g U).2 with⟨_,e,h0|h0⟩ | ⟨h0,e,_⟩ <;>grind
     obtain⟨hu,x,hs⟩:=hu;have hsk:=hi.inv.skip (s:=x) hr hE hnk V hgE X U;refine ih _ own _ _ w b m S s ups fs R (hi.next hd hp W hk V hni hw ?_ (λid e1 _=>e1)) hp W he hcnt;rw[hu,hs];exact hsk
  rcases he with⟨hle,_⟩ | ⟨q,hq,hcut,hx⟩;omega;by_cases hie:i=b+m
  subst hie;rw[V]at hq;cases hq;have E:∀ k,k<m->listed[b+k]? =some true:=λk hk=>by
   obtain⟨ok,hok,_⟩:=hp.fact k hk;rcases EX hcut (alM.1 hok).1 (by omega)with⟨_,h⟩ | ⟨h,_⟩;grind [Kc]
   omega
  have hfull:=hi.full hd hp E;have hset:∀ k,(listed.setIfInBounds (b+m) true)[k]? =some true↔k<b+m+1:=λk=>by
   rw[hE];constructor
   rintro (h|h);exact Nat.lt_succ_of_lt (amg λhn=>hi.high k (by omega) h);omega;intro h;by_cases e:k=b+m
   exact .inr e;left;by_cases hkb:k<b
   exact hi.low k hkb (by omega);have:=E (k - b) (by omega);grind
  obtain⟨k1,k2⟩:=QI (ro:=ro) (nd:=nd) hts hG hr hE hnk V hgE hfull hZ hx (K:=wpAnyIn (rd ro) nd P .any ops.toArray Q O (listed.setIfInBounds (b+m) true)) (λown st a w hinv hx=>by
   have hinv':=hinv.congr hset;obtain⟨m',S',s',ups',fs',R',e0,e1,e2,e3⟩:=sim hts hG hr (ops.drop (b+m+1)) (b+m+1) own st a w (b+m+1) [] rfl hinv' hx;subst e0;exact ih _ own (S' 0) a w (b+m+1) m' S' s' ups' fs' R' (ap8.start hinv' (by simp[hi.size]) (λk _=>hset k) hr hback) e1 (by grind) e3 hcnt)
  unfold wpOpIn;rw[ho'];by_cases X:GOk ops a o.guard
  obtain⟨hnd,k1⟩:=k1 X;simp only[(mq (ops:=ops) (a:=a) (o:=o)).2 X,if_true];refine⟨λ_ _=>trivial,?_⟩;grind [Oper.semAt_eq]
  grind [mq]
  exfalso;rcases EX hcut hil hie with⟨h,_⟩ | ⟨_,h⟩;omega;exact hi.high _ (alJ _) ((Kc hclS (.inr rfl) h).resolve_right (by omega))
theorem Yl(O:ts.ok P)(hG:X2 P G)(U:ROk N ops)(hd:DOk ops){K:St->Prop}
  (X:∀ x own st a w,W2 F w0 N own st a w->Z x st->Q (.panic [{ v:=x,recovered:=false}]) a w)
  (W:∀ own st a w,apC F w0 N ops (· <ops.length) own st a w->K st->Q .normal a w) {own:Own} {st:St} {a:Act} {w:World} (hi:apC F w0 N ops (· <0) own st a w) (hx:jO ts G ops K Z ops 0 0 [] st):
  wpAnyIn (rd ro) nd P .any ops.toArray Q ops.toArray.size (Array.replicate ops.toArray.size false) a w:=by
 obtain⟨m,S,s,ups,fs,R,e0,e1,e2,e3⟩:=sim O hG U ops 0 own st a w 0 [] rfl hi hx;subst e0;refine Yk O hG U hd X W _ _ own (S 0) a w 0 m S s ups fs R (ap8.start hi (by simp) (λk hk=>?_) U λi o j Y V=>?_) e1 (by grind) e3 ?_;grind
 unfold pm at V;rw[amx]at V;obtain⟨e,he,E⟩:=V;simp only[alG]at E;have:=hd.back i o e Y (by grind) E.2;simp_all;simp
end
end Go.Sx
end
section
namespace Go.Sx
section
variable {F:Fence}{n:Nat}{P:Program}{b:Frame}{a:Act}{k:List Item}{cs:List Frame}{w:World}{Q:Exit->Act->World->Prop}
def asf (Q:Exit->Act->World->Prop):Exit->Act->World->Prop
 | .goto _,_,_=>False|e,a,w=>Q e a w
variable {c:Code}
theorem n9:step P (lone (b.atR a (.code (.scope c)::k)) cs w)=.next (lone (b.atR a (.code c:: .inScope c::k)) cs w):=
 step_lone_go (by rfl)
theorem Hn:step P (lone (b.atR a (.inScope c::k)) cs w)=.next (lone (b.atR a k) cs w):=
 step_lone_go (by rfl)
theorem O7(h:c.wpIn F n P (asf Q) a w):(Code.scope c).wpIn F n P Q a w:=by
 intro b k cs hro X Y;have U:(lone (b.atR a (.code (.scope c)::k)) cs w).fenced P F:=fenced_calm X Y rfl;obtain⟨e,V,W,O,E⟩:=h b (.inScope c::k) cs hro X Y;cases e with
 |normal=>exact⟨.normal,V,W,O,.head U n9 (StepsIn.trans E (.one (fenced_calm X Y rfl) Hn))⟩
 |exit id=>exact⟨.exit id,V,W,O,λk' hk=>.head U n9 (E.1 k' (by simp[exitTo,hk])),λhr' hk=>let ⟨k₁,h1,h2⟩:=E.2 hr' (by grind [exitTo]);⟨k₁,h1,.head U n9 h2⟩⟩
 |goto l=>exact O.elim|ret=>exact⟨_,V,W,O,.of_steps (.one U n9) E⟩|panic ch=>exact⟨_,V,W,O,.of_steps (.one U n9) E⟩|outgrown=>exact⟨_,V,W,O,.of_steps (.one U n9) E⟩
end
open Go.RowKit
section
variable {P:Program}{F:Nat->Prop}{w0:Bs}{ro:Option Nat}{nd:Nat}{ts:Tis}{G:Cons}{L:vZ}{N:Nat}
def EZ (F:Nat->Prop)(w0:Bs)(N:Nat)(Q:Ex->St->Prop):Exit->Act->World->Prop
 | .normal,a,w=>∃ F1 own st,(∀ b,F b->F1 b)/\W2 F1 w0 N own st a w/\Q .normal st| .exit id,a,w=>∃ F1 own st,(∀ b,F b->F1 b)/\W2 F1 w0 N own st a w/\Q (.exit id) st| .ret,a,w=>∃ F1 own st,(∀ b,F b->F1 b)/\W2 F1 w0 N own st a w/\Q .ret st| .panic ch,a,w=>∃ x F1 own st,(∀ b,F b->F1 b)/\W2 F1 w0 N own st a w/\Q (.pan x) st/\ch=[{ v:=x,recovered:=false}]|_,_,_=>False
variable {Q:Ex->St->Prop}
theorem Ym{F W:Nat->Prop}{w0:Bs}{N:Nat}(h:∀ b,F b->W b):∀ e a w,EZ W w0 N Q e a w->EZ F w0 N Q e a w:=by
 intro e a w O;cases e <;>first|exact O.elim|(obtain⟨U,own,st,V,h1,h2⟩:=O;exact⟨U,own,st,λb E=>V b (h b E),h1,h2⟩) |(obtain⟨x,U,own,st,V,h1,h2,X⟩:=O;exact⟨x,U,own,st,λb E=>V b (h b E),h1,h2,X⟩)
def kV (P:Program)(ro:Option Nat)(N:Nat)(id:Nat)(c:Code)(C:St->Option apN):Prop:=
 ∀ (nd:Nat) (F:Nat->Prop) (w0:Bs) st lc,C st=some lc->lc.pre->∀ own a w,W2 F w0 N own st a w->(Code.block id c).wpIn (rd ro) nd P (EZ F w0 N λe st'=>∃ r,lc.post r/\e=lc.ex r/\st'=lc.out r) a w
def ak (P:Program)(ro:Option Nat)(N:Nat)(L:vZ):Code->Prop
 | .seq a b=>ak P ro N L a/\ak P ro N L b| .cond _ a b=>ak P ro N L a/\ak P ro N L b| .block id (.loop c) =>kV P ro N id (.loop c) (L id)| .block id (.rangeFunc f ps a b) =>kV P ro N id (.rangeFunc f ps a b) (L id)| .block _ c=>ak P ro N L c| .scope c=>ak P ro N L c|_=>True
theorem QO (t:Nat){u:List (Nat×SV)}:∀ l:List (Nat×SV),aqt u l->lk t l=.any\/lk t l=lk t u
 | [],_=>.inl rfl
 |(n,s)::r,h=>by
  have O:=QO t r h.2;have e:lk t ((n,s)::r)=bif Nat.beq n t then s else lk t r:=rfl;rw[e];cases E:Nat.beq n t with
  |false=>grind|true=>rw[cond_true,<-alH E];exact .inr h.1.symm
theorem uH{V:Ex->St->Prop}(h:∀ e st,Q e st->V e st):∀ e a w,EZ F w0 N Q e a w->EZ F w0 N V e a w:=by
 intro e a w O;cases e <;>first|exact O.elim|(obtain⟨U,own,st,E,h1,h2⟩:=O;exact⟨U,own,st,E,h1,h _ _ h2⟩) |(obtain⟨x,U,own,st,E,h1,h2,W⟩:=O;exact⟨x,U,own,st,E,h1,h _ _ h2,W⟩)
variable {ops:Array Oper}{a:Act}{w:World}
theorem E0(hm:P.follows .mixedOrders=true)(W:ts.ok P)(hG:X2 P G){id:Nat}{d:Bool}(hc:cP N (.region id ops d)=true){st:St}(X:Cv ts G ops d st Q)
  {own:Own}   (Y:W2 F w0 N own st a w):(Code.region id ops d).wpIn (rd ro) nd P (EZ F w0 N Q) a w:=by
 simp only[cP,alG]at hc;obtain⟨h1,h2⟩:=hc;have E:=Uo h1;obtain⟨l⟩:=ops;cases d with
 |false=>
  have O:jh ts G l l st (λst'=>Q .normal (wJ l st')) (λx st'=>Q (.pan x) st'):=X;refine wpIn_region_list ?_;exact OT W hG E (λx own st a w h1 h2=>⟨x,F,own,st,λ_ h=>h,h1,h2,rfl⟩) l 0 own st a w rfl (Y.start l λk V=>by omega) O λown st a w hi V=>⟨F,own,_,λ_ h=>h,W2.finish hi,V⟩
 |true=>
  have O:jO ts G l (λst'=>Q .normal (wJ l st')) (λx st'=>Q (.pan x) st') l 0 0 [] st:=X;have U:=abb (ops:=l) (by grind);refine wpIn_region_any hm ?_;exact Yl W hG E U (λx own st a w h1 h2=>⟨x,F,own,st,λ_ h=>h,h1,h2,rfl⟩) (λown st a w hi V=>⟨F,own,_,λ_ h=>h,W2.finish hi,V⟩) (Y.drew.start l λk V=>by omega) O
theorem W2.aqt{own:Own}{st d:St}(h1:W2 F w0 N own st a w)(E:st.h=d.h)(O:Sx.aqt st.t d.t):W2 F w0 N own d a w:=by
 refine⟨h1.size,h1.defers,E▸h1.hp,h1.fr,λt=>?_⟩;rcases QO t _ O with e|e;rw[e];exact .any _;rw[e];exact h1.slots t
theorem Sz(X:P.follows .mixedOrders=true)(U:ts.ok P)(hG:X2 P G){id:Nat}{d:Bool}(hc:cP N (.region id ops d)=true){st:St}(Y:exec ts G L (.region id ops d) st Q)
  {own:Own}   (W:W2 F w0 N own st a w):(Code.region id ops d).wpIn (rd ro) nd P (EZ F w0 N Q) a w:=by
 have E:Ek (Cv ts G ops d st) Q (L (id+2000000) st):=Y;cases V:L (id+2000000) st with
 |none=>rw[V]at E;exact E0 X U hG hc E W
 |some lc=>
  rw[V]at E;refine wpIn_mono (E0 X U hG hc E.1 W) λe a' w' O=>?_;cases e with
  |normal=>
   obtain⟨F1,bn,st',h0,h1,r,h2,h3,h4⟩:=O;exact⟨F1,bn,_,h0,h1.aqt h3 h4,E.2 r h2⟩
  |exit id=>exact O|ret=>exact O|panic ch=>exact O|_=>exact O.elim
theorem rO (hm:P.follows .mixedOrders=true)(hts:ts.ok P)(hG:X2 P G):∀ (c:Code),cP N c=true->ak P ro N L c->∀ (F:Nat->Prop) (st:St) (Q:Ex->St->Prop),exec ts G L c st Q->
  ∀ own a w,W2 F w0 N own st a w->c.wpIn (rd ro) nd P (EZ F w0 N Q) a w:=by
 intro c;induction c with
 |skip=>intro _ _ F st Q V own a w O;exact wpIn_skip ⟨F,own,st,λ_ h=>h,O,V⟩
 |region id ops d=>intro hc _ F st Q V own a w O;exact Sz hm hts hG hc V O
 |seq x y ih1 ih2=>
  intro hc Y F st Q V own a w O;simp only[cP,alG]at hc;refine wpIn_seq (wpIn_mono (ih1 hc.1 Y.1 F st _ V own a w O) ?_);intro e a' w' X;cases e with
  |normal=>obtain⟨F1,bn,st',h0,h1,h2⟩:=X;exact wpIn_mono (ih2 hc.2 Y.2 F1 st' Q h2 bn a' w' h1) (Ym h0)
  |exit id=>exact X|ret=>exact X|panic ch=>exact X|_=>exact X.elim
 |cond c x y ih1 ih2=>
  intro hc Y F st Q V own a w O;simp only[cP,alG]at hc;have key:∀ Q:Ex->St->Prop,zS (exec ts G L x st Q) (exec ts G L y st Q) (raw st.t c)->(Code.cond c x y).wpIn (rd ro) nd P (EZ F w0 N Q) a w:=by
   intro Q E;cases c with
   |tmp n=>
    have hs:=O.slots n;have W:zS (exec ts G L x st Q) (exec ts G L y st Q) (lk n st.t):=E;unfold zS at W;split at W
    rename_i b hb;rw[hb]at hs;have he:a.eval (.tmp n)=.bool b:=cG hs;exact wpIn_cond_split he (λh=>ih1 hc.1 Y.1 F st Q (W.1 h) own a w O) (λh=>ih2 hc.2 Y.2 F st Q (W.2 h) own a w O);grind
   |const v=>
    have W:zS (exec ts G L x st Q) (exec ts G L y st Q) (.v v):=E;unfold zS at W;split at W
    rename_i b hb;cases hb;exact wpIn_cond_split (t:=b) rfl (λh=>ih1 hc.1 Y.1 F st Q (W.1 h) own a w O) (λh=>ih2 hc.2 Y.2 F st Q (W.2 h) own a w O);grind
   |global g=>exact(E:False).elim|func f=>exact(E:False).elim
  have E:Ej (exec ts G L x st) (exec ts G L y st) Q (raw st.t c) (L (T8 c) st):=V;cases U:L (T8 c) st with
  |none=>rw[U]at E;exact key Q E
  |some lc=>
   rw[U]at E;refine wpIn_mono (key _ E.1) λe a' w' X=>?_;cases e with
   |normal=>
    obtain⟨F1,bn,st',h0,h1,r,h2,h3,h4⟩:=X;exact⟨F1,bn,_,h0,h1.aqt h3 h4,E.2 r h2⟩
   |exit id=>obtain⟨_,_,_,_,_,_,_,h⟩:=X;exact h.elim
   |ret=>obtain⟨_,_,_,_,_,_,_,h⟩:=X;exact h.elim
   |panic ch=>obtain⟨_,_,_,_,_,_,⟨_,_,h⟩,_⟩:=X;exact h.elim
   |_=>exact X.elim
 |block id c ih=>
  intro hc Y F st Q V own a w O;have key:(∀ b,c≠ .loop b)->(∀ f ps a b,c≠ .rangeFunc f ps a b)->(Code.block id c).wpIn (rd ro) nd P (EZ F w0 N Q) a w:=by
   intro hne hne2;have E:exec ts G L c st (Ex.block id Q):=by cases c <;>first|exact V|exact absurd rfl (hne _) |grind
   have hl':ak P ro N L c:=by cases c <;>first|exact Y|exact absurd rfl (hne _) |grind
   refine wpIn_block (wpIn_mono (ih (by grind [cP]) hl' F st _ E own a w O) ?_);intro e a' w' X;cases e with
   |normal=>exact X|ret=>exact X|panic ch=>exact X
   |exit j=>
    obtain⟨F1,bn,st',h0,h1,h2⟩:=X;have h2':(bif Nat.beq j id then Q .normal st' else Q (.exit j) st'):=h2;show if j=id then _ else _;by_cases hj:j=id
    subst hj;rw[if_pos rfl];simp only[aoZ,cond_true]at h2';exact⟨F1,bn,st',h0,h1,h2'⟩;rw[if_neg hj];have:Nat.beq j id=false:=by cases hb:Nat.beq j id <;>simp_all
    rw[this]at h2';exact⟨F1,bn,st',h0,h1,h2'⟩
   |_=>exact X.elim
  cases c with
  |loop b=>
   have E:rI Q (L id st):=V;have hl':kV P ro N id (.loop b) (L id):=Y;cases U:L id st with
   |none=>rw[U]at E;exact E.elim
   |some lc=>
    rw[U]at E;refine wpIn_mono (hl' nd F w0 st lc U E.1 own a w O) (uH λe st'=>?_);rintro⟨r,h1,rfl,rfl⟩;exact E.2 r h1
  |rangeFunc f ps b1 b2=>
   have E:rI Q (L id st):=V;have hl':kV P ro N id (.rangeFunc f ps b1 b2) (L id):=Y;cases U:L id st with
   |none=>rw[U]at E;exact E.elim
   |some lc=>
    rw[U]at E;refine wpIn_mono (hl' nd F w0 st lc U E.1 own a w O) (uH λe st'=>?_);rintro⟨r,h1,rfl,rfl⟩;exact E.2 r h1
  |_=>exact key (λb h=>by cases h) (λ_ _ _ _ h=>by cases h)
 |exit id=>intro _ _ F st Q V own a w O;exact wpIn_exit ⟨F,own,st,λ_ h=>h,O,V⟩
 |ret=>intro _ _ F st Q V own a w O;exact wpIn_ret ⟨F,own,st,λ_ h=>h,O,V⟩
 |scope c ih=>intro hc Y F st Q V own a w O;exact O7 (wpIn_mono (ih hc Y F st Q V own a w O) λe a w h=>by cases e <;>first|exact h|exact h.elim)
 |label l=>intro _ _ F st Q V own a w O;exact wpIn_label ⟨F,own,st,λ_ h=>h,O,V⟩
 |_=>intro _ _ F st Q V;exact(V:False).elim
end
end Go.Sx
end
