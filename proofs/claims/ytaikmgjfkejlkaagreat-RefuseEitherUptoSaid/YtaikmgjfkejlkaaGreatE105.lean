/- Part of the proof that the law RefuseEither returns true and leaves its arguments as they were, for all arguments of bulk at most 1048576 (the Upto form). -/
import Derived.Test.YtaikmgjfkejlkaaGreatE104
import Derived.TacticsIn
import Derived.OrdersIn
import Derived.Deep.LoopGhost
set_option linter.all false
set_option maxHeartbeats 4000000
set_option maxRecDepth 100000
section
namespace Go.Sx
open Go.RowKit
def EU {α:Type}{l r:List α}{x:α}{n:Nat}(h:l.drop n=x::r):l[n]? =some x/\l.drop (n+1)=r:=by
 have h1:(l.drop n)[0]? =some x:=by rw[h];rfl
 have h2:(l.drop n).drop 1=r:=by rw[h];rfl
 grind [List.drop_drop]
theorem mA {ops:List Oper}{a:Act}{o:Oper}:(Region.wanted o (yielded ops.toArray a.tmps)=true)↔GOk ops a o.guard:=by
 grind [Region.wanted,GOk]
theorem vC (n:Nat)(E:∀ b s,a6 n s=[]->jp n b s=s):∀ (l:List SV) (b:Nat),l.flatMap (a6 n)=[]->rh (jp n) (λs=>(a6 n s).length) b l=l
 | [],_,_=>rfl
 |x::r,b,h=>by
  simp only[alp,List.append_eq_nil_iff]at h;simp only[rh];rw[E b x h.1,vC n E r _ h.2]
def CO:∀ (n b:Nat) (s:SV),a6 n s=[]->jp n b s=s:=by
 intro n;induction n with
 |zero=>intro b s h;cases s <;>simp[a6]at h <;>rfl
 |succ n E=>
  intro b s h;cases s with
  |agg l=>grind [a6,jp,vC]|tup l=>grind [a6,jp,vC]
  |_=>first|rfl|simp[a6]at h
section
variable {P:Program}{F:Nat->Prop}{own ee:Own}{w w':World}{ts:Tis}
theorem J7:∀ (n:Nat) (s:SV) (v:Value),Rel F own w s v->∀ id∈fG n s,∃ hd,own id=some hd:=by
 intro n;induction n with
 |zero=>
  intro s v hr id hm;cases hr with
  |ptr h1 h2=>grind [fG]|os h1 h2=>grind [fG]|rp h1 h2 O=>grind [fG]|gr h1 h2 O=>grind [fG]|gp h1 h2 O=>grind [fG]|vw h1 h2=>grind [fG]|_=>simp[fG]at hm
 |succ n Y=>
  intro s v hr id hm;have E:∀ (l:List SV) (c:Nat->Value),(∀ (j:Nat) (s:SV),l[j]? =some s->Rel F own w s (c j))->id∈l.flatMap (fG n)->∃ hd,own id=some hd:=by
   grind [List.getElem?_of_mem]
  cases hr with
  |ptr h1 h2=>grind [fG]|os h1 h2=>grind [fG]|rp h1 h2 O=>grind [fG]|gr h1 h2 O=>grind [fG]|gp h1 h2 O=>grind [fG]|vw h1 h2=>grind [fG]
  |ep c h1 h2=>exact E _ c h2 (by grind [fG])
  |ls c X V h1 h2=>exact E _ c h2 (by grind [fG])
  |agg V h1=>exact E _ _ h1 (by grind [fG])
  |tup V h1=>exact E _ _ h1 (by grind [fG])
  |fn V W h1 h2=>
   simp only[fG,alu]at hm;rcases hm with hm|hm;exact E _ _ h1 hm;exact E _ _ h2 hm
  |_=>simp[fG]at hm
theorem xQ {h:List Ob}(V:Hp F own w h):∀ (n:Nat) (O E:List Nat),(∀ id∈O,∃ hd,own id=some hd)->(∀ id∈E,∃ hd,own id=some hd)->∀ id∈reach h n O E,∃ hd,own id=some hd
 |0,_,E,_,h2=>h2|n+1,[],E,_,h2=>h2
 |n+1,id::O,E,h1,h2=>by
  simp only[reach];cases hm:De id E with
  |true=>exact xQ V n _ _ (λi hi=>h1 i (by simp[hi])) h2
  |false=>
   refine xQ V n _ _ (λi hi=>?_) (λi hi=>?_)
   ·rcases alu.1 hi with hi|hi;cases W:ap h id with
    |cells l=>
     rw[W]at hi;obtain⟨hd,e1,e2⟩:=V.at W rfl;obtain⟨b,cs,ty,q1,q2,q3,q4,Y⟩:=e2;obtain⟨x,hx,X⟩:=amk.1 hi;obtain⟨j,hj⟩:=alS hx;exact J7 3 x _ (Y j x hj) i X
    |_=>rw[W]at hi;simp[T3]at hi
    grind
   rcases alu.1 hi with hi|hi <;>simp_all
theorem EV {h:List Ob}(O:Hp F own w h){args:List SV}{vs:Array Value}(hr:aoX F own w args vs):∀ id∈reach h 64 (args.flatMap (fG 3)) [],id<h.length:=λid V=>by
 obtain⟨hd,e⟩:=xQ O 64 _ [] (λi hi=>by
  obtain⟨x,X,E⟩:=amk.1 hi;obtain⟨j,W⟩:=alS X;exact J7 3 x _ (hr.2 j x W) i E) (λi hi=>by cases hi) id V
 exact O.dom _ _ e
variable {w0:Bs}{ro:Option Nat}{nd:Nat}{N n:Nat}{ops:List Oper}{st:St}{a:Act}{G:Cons}
def EW (own:Own)(E:Below w.heap.size w w'):Fr { w:=w,own:=own} own w':=(Fr.refl { w:=w,own:=own}).below E
theorem tR (n k:Nat):k<n+1↔k<n\/k=n:=by omega
variable {E E':Nat->Prop}{o:Oper}
theorem ao2.apM(hr:ROk N ops)(hE:∀ k,E' k↔E k\/k=n)(X:¬E n)(hi:ao2 F w0 N ops E own st a w)(ho:ops[n]? =some o)(O:∀ j b,o.guard=some (j,b)->E j)(W:GOk ops a o.guard){s:SV}{u:Value}(hb:Below w.heap.size w w')(hs:Rel F own w' s u):
  ao2 F w0 N ops E' own (st.put o.dst s) (a.put o.dst u) w'/\(∀ g,o.guard=some g->ao2 F w0 N ops E' own (st.put o.dst (.gd g.1 g.2 s)) (a.put o.dst u) w'):=by
 have g:Fr { w:=w,own:=own} own w':=EW own hb;have Y:=hi.hp.below hb;refine⟨hi.step hr hE X ho g Y O (wX hs) (λ_ _=>W) (λj b s' e=>?_),λgg V=>hi.step hr hE X ho g Y O ⟨(hE _).2 (.inl (O _ _ V)),⟨n,o,gg.2,ho,V⟩,λ_=>hs⟩ (λ_ _=>W) (λj b s' e=>?_)⟩;subst e;cases hs;grind
variable {h':List Ob}
theorem ao2.apJ(hr:ROk N ops)(hE:∀ k,E' k↔E k\/k=n)(Y:¬E n)(hi:ao2 F w0 N ops E own st a w)(ho:ops[n]? =some o)(O:∀ j b,o.guard=some (j,b)->E j)(X:GOk ops a o.guard){s:SV}{u:Value}(hp:Hp F ee w' h')(V:Fr { w:=w,own:=own} ee w')(hs:Rel F ee w' s u):
  ao2 F w0 N ops E' ee (St.put ⟨st.t,h'⟩ o.dst s) (a.put o.dst u) w'/\(∀ g,o.guard=some g->ao2 F w0 N ops E' ee (St.put ⟨st.t,h'⟩ o.dst (.gd g.1 g.2 s)) (a.put o.dst u) w'):=by
 refine⟨hi.step hr hE Y ho V hp O (wX hs) (λ_ _=>X) (λj b s' e=>?_),λgg W=>hi.step hr hE Y ho V hp O ⟨(hE _).2 (.inl (O _ _ W)),⟨n,o,gg.2,ho,W⟩,λ_=>hs⟩ (λ_ _=>X) (λj b s' e=>?_)⟩;subst e;cases hs;grind
theorem ao2.skip(hr:ROk N ops)(hE:∀ k,E' k↔E k\/k=n)(W:¬E n)(hi:ao2 F w0 N ops E own st a w)(Y:ops[n]? =some o)(O:∀ j b,o.guard=some (j,b)->E j)(hgo:¬GOk ops a o.guard){g:Nat×Bool}(X:o.guard=some g){s:SV}:
  ao2 F w0 N ops E' own (st.put o.dst (.gd g.1 g.2 s)) (a.put o.dst undef) w:=by
 have V:mY ops g.1:=⟨n,o,g.2,Y,X⟩;refine hi.step hr hE W Y (Fr.refl { w:=w,own:=own}) hi.hp O ⟨(hE _).2 (.inl (O _ _ X)),V,λhy=>?_⟩ (λb hb=>by simp[undef]at hb) (λj b s' e=>by grind);exfalso;apply hgo;rw[X];obtain⟨q,d,h1,h2,h3⟩:=hr.uniq g.1 V;exact(Iy h1 h2 (h3 n o (λe=>W (e▸O _ _ X)) Y) g.2).1 hy
theorem Bw {cx:Cx}{op:Op}(h:opS cx op≠ .bad):∀ c,op≠ .defer c:=by
 rintro c rfl;exact h rfl
theorem ao2.out(hi:ao2 F w0 N ops E own st a w):aos F w0 N own ⟨apl st.t,st.h⟩ a w:=aos.apl hi
theorem aos.aqj(O:aos F w0 N own st a w)(hp:Hp F ee w' h')(E:Fr { w:=w,own:=own} ee w'):aos F w0 N ee ⟨st.t,h'⟩ a w':=
 ⟨O.size,O.defers.fr E O.hp.apart,hp,O.fr.trans E,λt=>(O.slots t).mono E.apg⟩
def IE (own:Own)(w:World):ao_ F own w own { w with drawn:=w.drawn+1}:=⟨λ_ hd h=>⟨hd,h,.refl _⟩,λ_ _ h=>⟨h,rfl⟩,ak2 _⟩
theorem aos.drew {own:Own}{st:St}{a:Act}{w:World}(h:aos F w0 N own st a w):aos F w0 N own st a { w with drawn:=w.drawn+1}:=
 ⟨h.size,h.defers,h.hp.apg (IE own w) λ_ _ _ _ _=>rfl,h.fr.drew,λt=>(h.slots t).mono (IE own w)⟩
def QN (G:Cons)(ops:List Oper)(d:Option Nat)(st:St)(next:St->Prop)(Z:Value->St->Prop):Option (Nat×Bool)->OR->Prop
 |none,r=>lI G d st next Z r|some g,r=>stepG G ops g d st next Z r
variable {Q:Exit->Act->World->Prop}
theorem fw{K:Act->World->Prop}{u:Value}{E:Result Next}(O:E=.ok (.value u) w'\/(E=.ok .skip w'/\u=undef))(h:K (a.put o.dst u) w'):
  o.uponIn (rd ro) nd P a K Q E:=by
 rcases O with rfl| ⟨rfl,rfl⟩ <;>exact h
theorem DT {ops:List Oper}{t:List (Nat×SV)}:∀ (n:Nat) (g:Nat×Bool),dU ops t n g->wN ops t n g->False
 |0,_,_,h=>h
 |n+1,(j,want),h1,h2=>by
  simp only[dU]at h1;simp only[wN]at h2;split at h1
  rename_i d hd;rw[hd]at h2;simp only at h2;split at h1
  grind
  rename_i E b x O;rw[O]at h2;rcases h2 with h2|h2;exact DT n (E,b) h1.1 h2;grind
  grind
  grind
theorem Sq {α:Type}{l:List α}(h:l.Nodup){i j:Nat}{x:α}(hi:l[i]? =some x)(E:l[j]? =some x):i=j:=by
 grind [List.pairwise_iff_getElem]
theorem aaX {h:List Ob}(hp:Hp F own w h){id:Nat}{hd:Hd}{b:Nat}(e1:own id=some hd)(e2:hd.p=some b){O n:Nat}{left:List Nat}{cur:Option Nat}(ho:ap h id=.mi (some O) n left cur)
  {kk X:Tag} {l:List (kk.T×X.T)} (hm:ap h O=.mp kk X l (some (id,none))) (hn:n=l.length) (ty:TypeId):
  (left=[]/\(Instr.next (.pointer (some ⟨b,0,none⟩)) false ty).run P w=.ok (.tuple #[.bool false]) w)\/
  ∃ j∈left,∃ u w',(Instr.next (.pointer (some ⟨b,0,none⟩)) false ty).run P w=.ok u w'/\Step F own w (cL h id (.mi (some O) n (left.erase j) (some j))) own w'/\
   Rel F own w' (.tup [.v (.bool true),svT kk (l.getD j (eG kk,eG X)).1,svT X (l.getD j (eG kk,eG X)).2]) u:=by
 obtain⟨hd',e1',b',p1,p2,p3⟩:=hp.at ho rfl;rw[e1]at e1';cases e1';rw[e2]at p1;cases p1;obtain⟨hdm,bm,seen,c0,ss,k1,k2,k3,k4,k5,k6,k7,k8⟩:=p3 _ rfl;obtain⟨hdm',k1',bm',es,clk,m1,m2,m3,m4,m5,hd2,t1,t2⟩:=hp.at hm rfl;rw[k1]at k1';cases k1';rw[k2]at m1;cases m1;rw[e1]at t1;cases t1;obtain⟨hc0,hss⟩:=QE (k4.symm.trans t2);subst hc0;subst hss;have hes:es.size=l.length:=by simpa[eI]using m4.1
 have Y:∀ i (hi:i<es.size),(kD es)[i]? =some es[i].born:=λi hi=>by simp[kD,hi]
 have W:∀ x∈es.toList,x.born<c0:=λx hx=>m5.2 _ (amF hx);rcases JZ (P:=P) (ty:=ty) k3 m3 W (ak2 _)with⟨h1,h2⟩ | ⟨e,h1,w1,h2,h3⟩;refine .inl ⟨?_,h2⟩;cases hl:left with
 |nil=>rfl
 |cons k r=>
  exfalso;obtain⟨s9,hs9,hn9⟩:=(k7 k).1 (by rw[hl];simp);have hke:k<es.size:=by grind
  rw[Y k hke,ak3]at hs9;have E:es[k]∈leftOf es seen:=by
   grind [leftOf]
  grind
 have E:e∈es/\¬e.born∈seen.toList:=by
  grind [leftOf]
 obtain⟨j,hj,hje⟩:=an3 E.1;have hb:(kD es)[j]? =some e.born:=by grind
 have hjl:j∈left:=(k7 j).2 ⟨_,hb,E.2⟩;have hh:w1.heap=w.heap:=by rcases h2 with rfl|rfl <;>rfl
 have hbl:b<w.heap.size:=hp.lt id hd b e1 (by rw[p2];simp);have st:Step F own w (cL h id (.mi (some O) n (left.erase j) (some j))) own { w1 with heap:=w1.heap.setIfInBounds b (.mapIter (some bm) c0 (seen.push e.born) c0)}:=by
  refine pu hp e1 (b:=b) (by rw[p2];simp) ?_ (λk V=>?_) ?_ ?_ ?_ _ λg=>⟨b,e2,p2,λi hi=>?_⟩;grind
  grind
  rcases h2 with rfl|rfl <;>rfl;rcases h2 with rfl|rfl <;>rfl;rcases h2 with rfl|rfl <;>rfl;cases hi;refine⟨hdm,bm,seen.push e.born,c0,kD es,k1,k2,?_,k4,k5,k6.erase j,λk=>?_,λj' hj'=>?_⟩;grind
  rw[k6.mem_erase_iff,k7 k,Array.toList_push];constructor
  rintro⟨a,s,b,c⟩;refine⟨s,b,λh=>?_⟩;rcases alu.1 h with h|h;exact c h;simp at h;subst h;exact a (Sq m5.1 b hb);grind
  grind
 refine .inr ⟨j,hjl,_,_,h3,st,.tup rfl λk s V=>?_⟩;have hlt:j<l.length:=by omega
 have hgd:l.getD j (eG kk,eG X)=l[j]:=by grind
 rw[hgd]at V;obtain⟨e3,g1,_,g3,g4⟩:=m4.2 j l[j] (by simp[eI,hlt]);rw[amA hj,hje]at g1;cases g1;match k,V with
 |0,V=>cases V;exact .v _|1,V=>cases V;exact g3.mono st.fr.apg|2,V=>cases V;exact g4.mono st.fr.apg
variable {Z:Value->St->Prop}
theorem QO(hts:ts.ok P)(hG:aot P G)(hr:ROk N ops)(hE:∀ k,E' k↔E k\/k=n)(X:¬E n)(ho:ops[n]? =some o)(W:∀ j b,o.guard=some (j,b)->E j)
  (hi:ao2 F w0 N ops E own st a w)  {K:Act->World->Prop} {next:St->Prop}  (hZ:∀ x own st a w,aos F w0 N own st a w->Z x st->Q (.panic [{ v:=x,recovered:=false}]) a w)
  (O:QN G ops o.dst st next Z o.guard (opS ⟨ts,ops,o.guard,st,st.h.length⟩ o.op)) (hK:∀ own st a w,ao2 F w0 N ops E' own st a w->next st->K a w):
  (GOk ops a o.guard->(∀ c,o.op≠ .defer c)/\o.uponIn (rd ro) nd P a K Q ((execOp a.eval o).run P w))/\(¬GOk ops a o.guard->K (a.put o.dst undef) w):=by
 cases hg:o.guard with
 |none=>
  have hnd:∀ c,o.op≠ .defer c:=Bw (cx:=⟨ts,ops,o.guard,st,st.h.length⟩) (λe=>by rw[e,hg]at O;exact O);refine⟨λ_=>⟨hnd,?_⟩,λh=>absurd trivial h⟩;rw[hg]at O;have V:GOk ops a o.guard:=by grind
  have h:=OX (P:=P) (ts:=ts) (ops:=ops) (g:=none) (t:=st.t) (h:=st.h) (nx:=st.h.length) hts hi.hp hi.hp.nx (a:=a) (o:=o) (J1 hi trivial (λk c e=>by cases e)) (λc x y _=>⟨λhc=>xP (g:=none) hi trivial (λk c e=>by cases e) c x true hc,λhc=>xP (g:=none) hi trivial (λk c e=>by cases e) c y false hc⟩);change lI G o.dst st next Z (opS ⟨ts,ops,none,⟨st.t,st.h⟩,st.h.length⟩ o.op)at O
  generalize opS ⟨ts,ops,none,⟨st.t,st.h⟩,st.h.length⟩ o.op=r at h O;cases r with
  |bad=>exact O.elim
  |val s=>
   obtain⟨u,e1,e2⟩:=h;exact fw (.inl e1) (hK _ _ _ _ (hi.apM hr hE X ho W V (Below.refl _ _) e2).1 O)
  |chk c s=>
   obtain⟨u,e1,e2⟩:=h O.1;exact fw (.inl e1) (hK _ _ _ _ (hi.apM hr hE X ho W V (Below.refl _ _) e2).1 O.2)
  |asm c s=>
   obtain⟨hc,u,e1,e2⟩:=h;exact fw (.inl e1) (hK _ _ _ _ (hi.apM hr hE X ho W V (Below.refl _ _) e2).1 (O hc))
  |apm s=>
   obtain⟨u,cs,ty,e1,e2⟩:=h;exact fw (.inl e1) (hK _ _ _ _ (hi.apM hr hE X ho W V (qE _ _) e2).1 O)
  |amb p=>
   obtain⟨b,h1,h2⟩:=h;exact fw (.inl h2) (hK _ _ _ _ (hi.apM hr hE X ho W V (Below.refl _ _) (.v _)).1 (O b h1))
  |nxt id=>
   obtain⟨hd,b,e1,e2,ty,hrun⟩:=h;change XR id o.dst st next (ap st.h id)at O
   cases hob:ap st.h id with
   |mi mid n' left cur=>
    rw[hob]at O;cases mid with
    |none=>exact O.elim
    |some mid=>
     change T4 id mid n' left o.dst st next (ap st.h mid)at O
     cases hm:ap st.h mid with
     |mp kk vk l apj=>
      rw[hm]at O;cases apj with
      |none=>exact O.elim
      |some q=>
      obtain⟨it,q⟩:=q;cases q with
      |some _=>exact O.elim
      |none=>
       obtain⟨⟨x0,x1⟩,x2,x3⟩:=O;subst x0;rcases aaX (P:=P) hi.hp e1 e2 hob hm x1 ty with⟨q1,q2⟩ | ⟨j,q1,u,w',q2,q3,q4⟩;exact fw (.inl (hrun _ _ q2)) (hK _ _ _ _ (hi.apM hr hE X ho W V (Below.refl _ _) (.tup rfl λk s hk=>by
        match k,hk with
        |0,hk=>cases hk;exact .v _)).1 (x2 q1))
       exact fw (.inl (hrun _ _ q2)) (hK _ _ _ _ (hi.apJ hr hE X ho W V q3.hp q3.fr q4).1 (x3 j q1))
     |_=>rw[hm]at O;exact O.elim
   |_=>rw[hob]at O;exact O.elim
  |eff c ac ups s=>
   obtain⟨hc,O⟩:=O;obtain⟨ha,u,ee,w',e1,e2,e3⟩:=h hc;exact fw e1 (hK _ _ _ _ (hi.apJ hr hE X ho W V e3.hp e3.fr e2).1 (O ha))
  |call f args=>
   obtain⟨vs,e1,e2⟩:=h;change wO (args.all (dD 3)) (reach st.h 64 (args.flatMap (fG 3)) []) o.dst st next Z (G.o f (args.map (ren (inN (reach st.h 64 (args.flatMap (fG 3)) [])) 6)) (rK st.h (reach st.h 64 (args.flatMap (fG 3)) []))) (G.p f (args.map (gi st.h 6)))at O
   have hx2:yG (reach st.h 64 (args.flatMap (fG 3)) []) o.dst st next Z (G.o f (args.map (ren (inN (reach st.h 64 (args.flatMap (fG 3)) [])) 6)) (rK st.h (reach st.h 64 (args.flatMap (fG 3)) [])))\/∃ c,G.p f (args.map (gi st.h 6))=some c/\wO (args.all (dD 3)) (reach st.h 64 (args.flatMap (fG 3)) []) o.dst st next Z (G.o f (args.map (ren (inN (reach st.h 64 (args.flatMap (fG 3)) [])) 6)) (rK st.h (reach st.h 64 (args.flatMap (fG 3)) []))) (some c)/\¬ (∃ p s,c=.det p s/\(args.all (dD 3) ||jo 3 s)=false):=by
    cases hc:G.p f (args.map (gi st.h 6))with
    |none=>rw[hc]at O;exact .inl O
    |some c=>
     rw[hc]at O;by_cases hdet:∃ p s,c=.det p s/\(args.all (dD 3) ||jo 3 s)=false
     obtain⟨p,s,rfl,hb⟩:=hdet;left;change (bif args.all (dD 3) ||jo 3 s then _ else _)at O;grind
     grind
   clear O;rcases hx2 with O| ⟨c,hc,O,hdet⟩
   ·have apW:=EV hi.hp e1;have hn:=qI st.h 64 (args.flatMap (fG 3)) [] amx;generalize reach st.h 64 (args.flatMap (fG 3)) []=ids at O apW hn;change yG ids o.dst st next Z (G.o f (args.map (ren (inN ids) 6)) (rK st.h ids))at O
    cases ho2:G.o f (args.map (ren (inN ids) 6)) (rK st.h ids)with
    |none=>rw[ho2]at O;exact O.elim
    |some c=>
     rw[ho2]at O;obtain⟨hpre,O⟩:=O;obtain⟨k1,k2⟩:=Mm hG hi.hp e1 hn ho2 hpre apW;rw[e2,k1];refine⟨λh=>(by cases h),?_⟩;refine CallsIn.mono (oy k2) ?_;rintro e w' ⟨r,ee,hr1,hr2⟩;have O:=O r hr1;cases hres:c.res r with
     |ret s h'=>
      rw[hres]at hr2 O;obtain⟨⟨u,rfl,apu⟩,hp',hfr⟩:=hr2;exact hK _ _ _ _ (hi.apJ hr hE X ho W V hp' hfr apu).1 O
     |pan x h'=>
      rw[hres]at hr2 O;obtain⟨rfl,hp',hfr⟩:=hr2;exact hZ x ee ⟨apl st.t,mL ids st.h.length st.h 0 h'⟩ a w' (hi.out.aqj hp' hfr) O
   ·have hcall:an c/\(args.all (dD 3)=true\/∀ s,dZ c s->jo 3 s=true)/\(∀ s,dZ c s->next (St.put ⟨st.t,st.h++a6 3 s⟩ o.dst (jp 3 st.h.length s)))/\∀ x,kZ c x->Z x ⟨apl st.t,st.h⟩:=by
     cases c with
     |det p s=>
      change (bif args.all (dD 3) ||jo 3 s then _ else _)at O;cases hb:args.all (dD 3) ||jo 3 s with
      |false=>grind
      |true=>
       rw[hb]at O;obtain⟨hp,O⟩:=O;refine⟨hp,?_,λs' hs'=>by cases hs';exact O,λx h=>h.elim⟩;rw[alx]at hb;exact hb.imp id (λh s' hs'=>by cases hs';exact h)
     |rel α pre post out=>
      obtain⟨hp,O⟩:=O;cases hb:args.all (dD 3)with
      |false=>grind
      |true=>
       rw[hb]at O;refine⟨hp,.inl rfl,λs' hs'=>?_,λx h=>h.elim⟩;obtain⟨r,h1,rfl⟩:=hs';exact O r h1
     |may ok s x=>
      change (bif args.all (dD 3) ||jo 3 s then(ok=true->next (St.put ⟨st.t,st.h++a6 3 s⟩ o.dst (jp 3 st.h.length s)))/\(ok=false->Z x ⟨apl st.t,st.h⟩)else False)at O;cases hb:args.all (dD 3) ||jo 3 s with
      |false=>grind
      |true=>
       rw[hb]at O;refine⟨trivial,?_,λs' hs'=>by obtain⟨h1,rfl⟩:=hs';exact O.1 h1,λx' hs'=>by obtain⟨h1,rfl⟩:=hs';exact O.2 h1⟩;rw[alx]at hb;exact hb.imp id (λh s' hs'=>by obtain⟨_,rfl⟩:=hs';exact h)
    obtain⟨q1,q2,q3,q4⟩:=hcall;obtain⟨k1,k2⟩:=J6 (P:=P) hG hi.hp e1 hc q1 q2;rw[e2,k1];refine⟨λh=>(by cases h),?_⟩;refine CallsIn.mono (oy k2) ?_;rintro e w' (⟨s,u,X2,m1,rfl,m2,m3,m4,m5⟩ | ⟨x,m1,rfl,m4⟩);exact hK _ _ _ _ (hi.apJ hr hE X ho W V m2 m3 m4).1 (q3 s m1);exact hZ x own ⟨apl st.t,st.h⟩ a w' (hi.out.aqj (hi.hp.below m4) (EW own m4)) (q4 x m1)
  |yld id args=>
   obtain⟨hd,e0,vs,e1,e2⟩:=h;change (bif args.all (dD 3)then Oy id o.dst st next (JK G args (ap st.h id))else False)at O;cases hb:args.all (dD 3)with
   |false=>grind
   |true=>
    rw[hb]at O;cases hob:ap st.h id with
    |ab r=>
     rw[hob]at O;change Oy id o.dst st next (G.y args r)at O
     cases hc:G.y args r with
     |none=>rw[hc]at O;exact O.elim
     |some c=>
      rw[hc]at O;obtain⟨hpre,O⟩:=O;have mono:∀ (w':World) a' X2,c.post a'->Hp F X2 w' (cL st.h id (.ab (c.res a').2))->Fr { w:=w,own:=own} X2 w'->K (a.put o.dst (.bool (c.res a').1)) w':=by
       intro w' a' X2 m1 m2 m3;exact hK _ _ _ _ (hi.apJ hr hE X ho W V m2 m3 (.v _)).1 (O a' m1)
      rcases Mn hG hi.hp e0 e1 hb hob hc hpre with⟨f,as,k1,k2⟩ | ⟨l,f,tmps,as,bd,k1,k2⟩;rw[e2,k1];exact⟨λh=>(by cases h),CallsIn.mono (oy k2) (by grind)⟩;rw[e2,k1];exact⟨λh=>(by cases h),RoundIn.mono (Mk k2) (by grind)⟩
    |_=>rw[hob]at O;exact O.elim
  |pan x=>
   rw[show(execOp a.eval o).run P w=.halt (.panic x) w from h];exact hZ x own ⟨apl st.t,st.h⟩ a w hi.out O
 |some g=>
  rw[hg]at O;have hlt:=hr.lt n o g.1 g.2 ho hg;have hrf:mY ops g.1:=⟨n,o,g.2,ho,hg⟩;have hjE:E g.1:=W g.1 g.2 hg;change stepG G ops g o.dst st next Z (opS ⟨ts,ops,some g,⟨st.t,st.h⟩,st.h.length⟩ o.op)at O
  refine⟨λaqr=>?_,λaqr=>?_⟩
  ·have V:GOk ops a o.guard:=by grind
   have hgp:dU ops st.t ops.length g:=uE hi n (λ_ _ _ _ _ _ _ _=>rfl) hr.lt _ g hlt hjE hrf aqr;have hnd:∀ c,o.op≠ .defer c:=Bw (cx:=⟨ts,ops,o.guard,st,st.h.length⟩) (λe=>by rw[hg]at e;rw[show(opS ⟨ts,ops,some g,⟨st.t,st.h⟩,st.h.length⟩ o.op)=.bad from e]at O;exact DT _ _ hgp O.1);refine⟨hnd,?_⟩;have hgn:∀ k c,some g=some (k,c)->E k/\mY ops k:=λk c e=>by grind
   have h:=OX (P:=P) (ts:=ts) (ops:=ops) (g:=some g) (t:=st.t) (h:=st.h) (nx:=st.h.length) hts hi.hp hi.hp.nx (a:=a) (o:=o) (J1 hi aqr hgn) (λc x y _=>⟨λhc=>xP hi aqr hgn c x true hc,λhc=>xP hi aqr hgn c y false hc⟩);generalize opS ⟨ts,ops,some g,⟨st.t,st.h⟩,st.h.length⟩ o.op=r at h O;cases r with
   |bad=>exact(DT _ _ hgp O.1).elim|pan x=>exact O.elim|nxt id=>exact O.elim|amb p=>exact O.elim
   |val s=>
    obtain⟨u,e1,e2⟩:=h;exact fw (.inl e1) (hK _ _ _ _ ((hi.apM hr hE X ho W V (Below.refl _ _) e2).2 g hg) O)
   |chk c s=>
    obtain⟨u,e1,e2⟩:=h (O.1 hgp);exact fw (.inl e1) (hK _ _ _ _ ((hi.apM hr hE X ho W V (Below.refl _ _) e2).2 g hg) O.2)
   |asm c s=>
    obtain⟨_,u,e1,e2⟩:=h;exact fw (.inl e1) (hK _ _ _ _ ((hi.apM hr hE X ho W V (Below.refl _ _) e2).2 g hg) O)
   |apm s=>
    obtain⟨u,cs,ty,e1,e2⟩:=h;exact fw (.inl e1) (hK _ _ _ _ ((hi.apM hr hE X ho W V (qE _ _) e2).2 g hg) O)
   |eff c ac ups s=>
    obtain⟨hc,O⟩:=O.1 hgp;obtain⟨ha,u,ee,w',e1,e2,e3⟩:=h hc;exact fw e1 (hK _ _ _ _ ((hi.apJ hr hE X ho W V e3.hp e3.fr e2).2 g hg) (O ha))
   |call f args=>
    obtain⟨vs,e1,e2⟩:=h;change Eo (args.all (dD 3)) (reach st.h 64 (args.flatMap (fG 3)) []) ops g o.dst st next Z (G.o f (args.map (ren (inN (reach st.h 64 (args.flatMap (fG 3)) [])) 6)) (rK st.h (reach st.h 64 (args.flatMap (fG 3)) []))) (G.p f (args.map (gi st.h 6)))at O
    cases hc:G.p f (args.map (gi st.h 6))with
    |none=>
     rw[hc]at O;have apW:=EV hi.hp e1;have hn:=qI st.h 64 (args.flatMap (fG 3)) [] amx;generalize reach st.h 64 (args.flatMap (fG 3)) []=ids at O apW hn;change y8 ids ops g o.dst st next Z (G.o f (args.map (ren (inN ids) 6)) (rK st.h ids))at O
     cases ho2:G.o f (args.map (ren (inN ids) 6)) (rK st.h ids)with
     |none=>rw[ho2]at O;exact(DT _ _ hgp O.1).elim
     |some c=>
      rw[ho2]at O;obtain⟨hpre,O⟩:=O.1 hgp;obtain⟨k1,k2⟩:=Mm hG hi.hp e1 hn ho2 hpre apW;rw[e2,k1];refine⟨λh=>(by cases h),?_⟩;refine CallsIn.mono (oy k2) ?_;rintro e w' ⟨r,ee,hr1,hr2⟩;have O:=O r hr1;cases hres:c.res r with
      |ret s h'=>
       rw[hres]at hr2 O;obtain⟨⟨u,rfl,apu⟩,hp',hfr⟩:=hr2;exact hK _ _ _ _ ((hi.apJ hr hE X ho W V hp' hfr apu).2 g hg) O
      |pan x h'=>
       rw[hres]at hr2 O;obtain⟨rfl,hp',hfr⟩:=hr2;exact hZ x ee ⟨apl st.t,mL ids st.h.length st.h 0 h'⟩ a w' (hi.out.aqj hp' hfr) O
    |some c=>
     rw[hc]at O;cases c with
     |rel=>exact O.elim|may=>exact O.elim
     |det p s=>
      obtain⟨hp,O⟩:=O;cases hb:(args.all (dD 3) ||jo 3 s)&&(a6 3 s).isEmpty with
      |false=>grind
      |true=>
       rw[hb]at O;rw[akZ,alx]at hb;obtain⟨k1,k2⟩:=J6 (P:=P) hG hi.hp e1 hc (hp hgp) (hb.1.imp id (λh s' hs'=>by cases hs';exact h));rw[e2,k1];refine⟨λh=>(by cases h),?_⟩;refine CallsIn.mono (oy k2) ?_;rintro e w' (⟨s',u,X2,rfl,rfl,m2,m3,m4,m5⟩ | ⟨x,m1,_⟩);have hz:a6 3 s'=[]:=List.isEmpty_iff.1 hb.2;rw[hz,ali]at m2;rw[CO 3 _ s' hz]at m4;exact hK _ _ _ _ ((hi.apJ hr hE X ho W V m2 m3 m4).2 g hg) O;exact m1.elim
   |yld id args=>
    obtain⟨hd,e0,vs,e1,e2⟩:=h;change (bif args.all (dD 3)then LX id ops g o.dst st next (JK G args (ap st.h id))else False)at O;cases hb:args.all (dD 3)with
    |false=>grind
    |true=>
     rw[hb]at O;cases hob:ap st.h id with
     |ab r=>
      rw[hob]at O;change LX id ops g o.dst st next (G.y args r)at O
      cases hc:G.y args r with
      |none=>rw[hc]at O;exact O.elim
      |some c=>
       rw[hc]at O;obtain⟨hpre,O⟩:=O.1 hgp;have mono:∀ (w':World) a' X2,c.post a'->Hp F X2 w' (cL st.h id (.ab (c.res a').2))->Fr { w:=w,own:=own} X2 w'->K (a.put o.dst (.bool (c.res a').1)) w':=by
        intro w' a' X2 m1 m2 m3;exact hK _ _ _ _ ((hi.apJ hr hE X ho W V m2 m3 (.v _)).2 g hg) (O a' m1)
       rcases Mn hG hi.hp e0 e1 hb hob hc hpre with⟨f,as,k1,k2⟩ | ⟨l,f,tmps,as,bd,k1,k2⟩;rw[e2,k1];exact⟨λh=>(by cases h),CallsIn.mono (oy k2) (by grind)⟩;rw[e2,k1];exact⟨λh=>(by cases h),RoundIn.mono (Mk k2) (by grind)⟩
     |_=>rw[hob]at O;exact O.elim
  ·have V:¬GOk ops a o.guard:=by grind
   have hgN:gq ops st.t ops.length g:=Bv hi _ g hjE hrf aqr;have Y:=λs=>hi.skip hr hE X ho W V hg (s:=s);generalize opS ⟨ts,ops,some g,⟨st.t,st.h⟩,st.h.length⟩ o.op=r at O;cases r with
   |bad=>exact hK _ _ _ _ (Y .any) O.2|pan x=>exact O.elim|nxt id=>exact O.elim|amb p=>exact O.elim|val s=>exact hK _ _ _ _ (Y _) O|chk c s=>exact hK _ _ _ _ (Y _) O.2|asm c s=>exact hK _ _ _ _ (Y _) O|apm s=>exact hK _ _ _ _ (Y _) O|eff c ac ups s=>exact hK _ _ _ _ (Y _) (O.2 hgN)
   |call f args=>
    change Eo (args.all (dD 3)) (reach st.h 64 (args.flatMap (fG 3)) []) ops g o.dst st next Z (G.o f (args.map (ren (inN (reach st.h 64 (args.flatMap (fG 3)) [])) 6)) (rK st.h (reach st.h 64 (args.flatMap (fG 3)) []))) (G.p f (args.map (gi st.h 6)))at O
    cases hc:G.p f (args.map (gi st.h 6))with
    |none=>
     rw[hc]at O;generalize reach st.h 64 (args.flatMap (fG 3)) []=ids at O;change y8 ids ops g o.dst st next Z (G.o f (args.map (ren (inN ids) 6)) (rK st.h ids))at O
     cases ho2:G.o f (args.map (ren (inN ids) 6)) (rK st.h ids)with
     |none=>rw[ho2]at O;exact hK _ _ _ _ (Y .any) O.2
     |some c=>
      rw[ho2]at O;exact hK _ _ _ _ (Y .any) (O.2 hgN)
    |some c=>
     rw[hc]at O;cases c with
     |rel=>exact O.elim|may=>exact O.elim
     |det p s=>
      obtain⟨hp,O⟩:=O;grind
   |yld id args=>
    change (bif args.all (dD 3)then LX id ops g o.dst st next (JK G args (ap st.h id))else False)at O;cases hb:args.all (dD 3)with
    |false=>grind
    |true=>
     rw[hb]at O;cases hc:JK G args (ap st.h id)with
     |none=>rw[hc]at O;exact O.elim|some c=>rw[hc]at O;exact hK _ _ _ _ (Y .any) (O.2 hgN)
theorem ao2.congr{O:Nat->Prop}(h:∀ k,E k↔O k){st:St}(hi:ao2 F w0 N ops E own st a w):ao2 F w0 N ops O own st a w:=by
 have:E=O:=funext λk=>propext (h k);grind
theorem ao2.all {st:St}(hr:ROk N ops){n:Nat}(hn:ops.length<=n)(hi:ao2 F w0 N ops (· <n) own st a w):ao2 F w0 N ops (· <ops.length) own st a w:=by
 refine⟨hi.size,hi.defers,hi.hp,hi.fr,λt=>?_,λk o d j b s X=>hi.tags k o d j b s (by omega),λk o j b X O Y=>by have:=hr.lt k o j b O Y;omega,λk o b X E O hy=>hi.chain k o b (by omega) E O hy⟩;have:=hi.slots t;cases V:lk t st.t with
 |gd j b s=>
  rw[V]at this;obtain⟨_,⟨i,o,W,h1,h2⟩,h3⟩:=this;exact⟨by have:=hr.lt i o j W h1 h2;grind,⟨i,o,W,h1,h2⟩,h3⟩
 |_=>rw[V]at this;exact this
theorem J8{ts:Tis}{G:Cons}{ops:List Oper}{rest:List Oper}{st:St}{K:St->Prop}(h:jq ts G ops (o::rest) st K Z):
  QN G ops o.dst st (λst'=>jq ts G ops rest st' K Z) Z o.guard (opS ⟨ts,ops,o.guard,st,st.h.length⟩ o.op):=by
 simp only[jq]at h;cases E:o.guard <;>rw[E]at h <;>exact h
theorem OZ (E:ts.ok P)(hG:aot P G)(hr:ROk N ops){Q:Exit->Act->World->Prop}{K:St->Prop}{Z:Value->St->Prop}(hZ:∀ x own st a w,aos F w0 N own st a w->Z x st->Q (.panic [{ v:=x,recovered:=false}]) a w):
  ∀ (rest:List Oper) (n:Nat) (own:Own) (st:St) (a:Act) (w:World),ops.drop n=rest->ao2 F w0 N ops (· <n) own st a w->jq ts G ops rest st K Z->
  (∀ own st a w,ao2 F w0 N ops (· <ops.length) own st a w->K st->Q .normal a w)->wpListIn (rd ro) nd P ops.toArray Q rest a w
 | [],n,own,st,a,w,hd,hi,Y,W=>by
  have hn:ops.length<=n:=by
   simp_all
  exact W own st a w (hi.all hr hn) Y
 |o::rest,n,own,st,a,w,hd,hi,Y,W=>by
  obtain⟨ho,hd'⟩:=EU hd;have ih:=λee st' a' w' (X:ao2 F w0 N ops (· <n+1) ee st' a' w') V=>OZ E hG hr hZ rest (n+1) ee st' a' w' hd' X V W;obtain⟨h1,h2⟩:=QO (ro:=ro) (nd:=nd) E hG hr (tR n) (al8 n) ho (λj b e=>hr.lt n o j b ho e) hi hZ (J8 Y) ih;by_cases O:GOk ops a o.guard
  obtain⟨hnd,h1⟩:=h1 O;unfold wpListIn;rw[if_pos (mA.2 O)];refine⟨λ_ _=>trivial,?_⟩;grind [Oper.semAt_eq];grind [mA,wpListIn]
end
def afH (o:Ob):Prop:=o=.dead\/o=.fwd none
def apQ (o o':Ob):Prop:=o=o'\/(∃ (kk vk:Tag) (l:List (kk.T×vk.T)) (p p':Option (Nat×Option kk.T)),o=.mp kk vk l p/\o'=.mp kk vk l p')\/(afH o/\afH o')
theorem apQ.refl (o:Ob):apQ o o:=.inl rfl
theorem apQ.symm {a b:Ob}(h:apQ a b):apQ b a:=by
 rcases h with rfl| ⟨kk,V,l,p,p',E,O⟩ | ⟨h1,h2⟩;exact .inl rfl;exact .inr (.inl ⟨kk,V,l,p',p,O,E⟩);exact .inr (.inr ⟨h2,h1⟩)
theorem apQ.trans {a b c:Ob}(h:apQ a b)(h':apQ b c):apQ a c:=by
 rcases h with rfl| ⟨kk,Y,l,p,p',X,O⟩ | ⟨h1,h2⟩;exact h';rcases h' with rfl| ⟨W,V,l',q,q',E,e4⟩ | ⟨h3,h4⟩;exact .inr (.inl ⟨kk,Y,l,p,p',X,O⟩);rw[O]at E;cases E;exact .inr (.inl ⟨kk,Y,l,p,q',X,e4⟩);rw[O]at h3;rcases h3 with h3|h3 <;>cases h3;rcases h' with rfl| ⟨W,V,l',q,q',E,e4⟩ | ⟨h3,h4⟩;exact .inr (.inr ⟨h1,h2⟩);rw[E]at h2;rcases h2 with h2|h2 <;>cases h2;exact .inr (.inr ⟨h1,h4⟩)
theorem IF (a b:List Up):ft (a++b)=ft a++ft b:=by
 induction a with
 |nil=>rfl|cons x r E=>simp[ft,E]
section
variable {h h':List Ob}
theorem Mo (ti:TI){s:SV}(E:∀ id∈fT s,ap h id=ap h' id):qC ti h s=qC ti h' s:=by
 cases s <;>first|rfl|(simp only[fT,alz,forall_eq]at E;simp only[qC,E])
theorem Ag (n:Nat){s:SV}(l:Option (List SV))(E:∀ id∈fT s,ap h id=ap h' id):rf n h s l=rf n h' s l:=by
 cases l <;>cases s <;>first|rfl|(simp only[fT,alz,forall_eq]at E;simp only[rf,E])
theorem J9 (n nx:Nat){s E:SV}(V:∀ id∈fT s++fT E,ap h id=ap h' id):rg n nx h s E=rg n nx h' s E:=by
 have h1:∀ id∈fT s,ap h id=ap h' id:=λid hi=>V id (ani _ hi);unfold rg;split
 rename_i sz id i off O;have W:=h1 id (by simp[fT]);have X:=V O (by simp[fT]);rw[W,Ag n _ h1];simp_all [Eh];exact Ag _ _ h1
theorem J_ (ti:TI)(n:Nat){s:SV}(i:SV)(E:∀ id∈fT s,ap h id=ap h' id):ip ti n h s i=ip ti n h' s i:=by
 cases i with
 |v x=>cases x <;>cases s <;>first|rfl|(simp only[fT,alz,forall_eq]at E;simp only[ip,E])
 |_=>cases s <;>rfl
theorem Ka (ti:TI)(n nx:Nat){s:SV}(lo hi:Option SV)(E:Bool)(O:∀ id∈fT s,ap h id=ap h' id):mN ti n nx h lo hi E s=mN ti n nx h' lo hi E s:=by
 cases s <;>first|rfl|simp_all [fT,mN]
theorem Mq (ti:TI)(ok:Bool)(key:SV){s:SV}(E:∀ id∈fT s,ap h id=ap h' id):tI ti h ok key s=tI ti h' ok key s:=by
 cases s <;>first|rfl|(rename_i x;cases x <;>first|rfl|(rename_i y;cases y <;>rfl)) |simp_all [fT,tI]
theorem O0 (ti:TI)(key:SV){s:SV}(E:∀ id∈fT s,apQ (ap h id) (ap h' id)):tI ti h false key s=tI ti h' false key s:=by
 cases s with
 |os id=>
  simp only[fT,alz,forall_eq]at E;simp only[tI];rcases E with e| ⟨kk,W,l,p,p',O,V⟩ | ⟨h1,h2⟩;rw[e];rw[O,V];simp only[Qy,als,anS];rcases h1 with h1|h1 <;>rcases h2 with h2|h2 <;>rw[h1,h2] <;>rfl
 |v x=>cases x <;>first|rfl|(rename_i y;cases y <;>rfl)
 |_=>rfl
theorem EX (ti:TI)(key v:SV){s:SV}(E:∀ id∈fT s,ap h id=ap h' id):Dd ti h key v s=Dd ti h' key v s:=by
 cases s <;>first|rfl|simp_all [fT,Dd]
theorem O1 (ti:TI)(nx:Nat){h h':List Ob}{s:SV}(h1:∀ id∈fT s,ap h id=ap h' id):Em ti nx h s=Em ti nx h' s:=by
 cases s with
 |os id=>grind [Em,fT]|_=>rfl
theorem Mr {h h':List Ob}{s:SV}(h1:∀ id∈fT s++TZ h s,ap h id=ap h' id):CF h s=CF h' s:=by
 cases s with
 |ptr id off=>
  cases off with
  |zero=>
   have e:=h1 id (by simp[fT]);simp only[CF];rw[<-e];cases V:ap h id with
   |mi E n left O=>
    cases E with
    |none=>rfl
    |some E=>
     cases O with
     |none=>rfl
     |some j=>
      grind [Qz,TZ,TY]
   |_=>rfl
  |succ n=>rfl
 |_=>rfl
theorem O2 (ti:TI)(nx:Nat)(key:SV){s:SV}(E:∀ id∈fT s,ap h id=ap h' id):yi ti nx h key s=yi ti nx h' key s:=by
 cases s <;>first|rfl|simp_all [fT,yi]
theorem O3 (ti:TI)(v:SV){s:SV}(n:SV)(E:∀ id∈fT s,ap h id=ap h' id):JG ti h v s n=JG ti h' v s n:=by
 cases n with
 |os x=>cases s <;>first|rfl|simp_all [fT,JG]
 |_=>cases s <;>rfl
theorem O4 (ti te:TI)(l:List SV)(E:∀ id∈pi l,ap h id=ap h' id):y5 ti te h l=y5 ti te h' l:=by
 match l with
 | [] =>rfl
 | [x] =>cases x <;>first|rfl|grind [y5,pi,JH,fT]
 |x::_::_=>cases x <;>rfl
theorem O5 (ti:TI)(l:List SV)(E:∀ id∈pi l,ap h id=ap h' id):y6 ti h l=y6 ti h' l:=by
 match l with
 | [] =>rfl| [x] =>cases x <;>rfl
 | [x,y] =>cases x <;>first|rfl|grind [y6,pi,JH,fT]
 |x::_::_::_=>cases x <;>rfl
theorem O6 (ti:TI)(l:List SV)(E:∀ id∈pi l,ap h id=ap h' id):t_ ti h l=t_ ti h' l:=by
 match l with
 | [] =>rfl
 | [x] =>
  cases x <;>first|rfl|(rename_i y;cases y <;>first|rfl|(rename_i a n c;cases a <;>cases n <;>cases c <;>rfl)) |(simp only[pi,JH,fT,ali,alz,forall_eq]at E;simp only[t_,E])
 |x::_::_=>cases x <;>first|rfl|(rename_i y;cases y <;>first|rfl|(rename_i a n c;cases a <;>cases n <;>cases c <;>rfl))
theorem Kb (id:Nat)(r:List SV):id∈pi (.os id::r):=by simp[pi,JH,fT]
theorem QP (x:SV)(z id:Nat)(r:List SV):id∈pi (x:: .ls z [.os id]::r):=by simp[pi,JH]
theorem Ut (x:SV)(id:Nat)(r:List SV):id∈pi (x:: .os id::r):=by simp[pi,JH,fT]
theorem Uu (x:SV)(s id:Nat)(lo hi:Int)(r:List SV):id∈pi (x:: .vw s id lo hi::r):=by simp[pi,JH,fT]
theorem EY (k:Tag)(x s:SV)(r:List SV)(E:∀ id∈pi (x::s::r),ap h id=ap h' id):ur k h s=ur k h' s:=by
 cases s with
 |os id=>grind [ur,Ut]|vw s id lo hi=>grind [ur,Uu]
 |v y=>cases y <;>first|rfl|(rename_i a n c;cases a <;>cases n <;>cases c <;>rfl)
 |_=>rfl
theorem O7 (te:TI)(nx:Nat)(l:List SV)(O:∀ id∈pi l,ap h id=ap h' id):mv te nx h l=mv te nx h' l:=by
 have V:∀ (E:List Up) (s x:SV) (o:Ob),(∀ id∈pi [x,s],ap h id=ap h' id)->wq te nx E h s o=wq te nx E h' s o:=by
  intro E s x o O;cases o with
  |row k l=>simp only[wq];rw[EY k x s [] O]|_=>rfl
 have W:∀ (id2:Nat) (E:List Up) (o:Ob),ap h id2=ap h' id2->Ek nx te.bytes h id2 E o=Ek nx te.bytes h' id2 E o:=by
  simp_all [Ek]
 have X:∀ (s x:SV) (o:Option Tag),(∀ id∈pi [x,s],ap h id=ap h' id)->vh te nx h s o=vh te nx h' s o:=by
  intro s x o O;cases o with
  |none=>rfl|some k=>exact V [] s x (.row k []) O
 unfold mv;split
 rename_i id id2;rw[W id2 _ _ (O id2 (QP _ _ _ _)),O id (Kb _ _)];rename_i id2;rw[O id2 (QP _ _ _ _)];rename_i id id2;rw[V _ (.os id2) _ _ O,O id (Kb _ _)];rename_i id s _ _;rw[V _ s _ _ O,O id (Kb _ _)];rename_i s _;exact X s _ _ O;rename_i s;exact X s _ _ O;rename_i k l s;unfold XI;rw[EY k _ s [] O];rfl
end
def sF {ts:Tis}{ops:List Oper}{g:Option (Nat×Bool)}{h h':List Ob}{nx nx':Nat}{t t':List (Nat×SV)}:∀ (l:List Operand),(∀ x∈l,raw t x=raw t' x)->dA ⟨ts,ops,g,⟨t,h⟩,nx⟩ l=dA ⟨ts,ops,g,⟨t',h'⟩,nx'⟩ l
 | [],_=>rfl
 |x::r,E=>by
  simp only[dA];rw[sF r λy hy=>E y (by simp[hy])];have:val ⟨ts,ops,g,⟨t,h⟩,nx⟩ x=val ⟨ts,ops,g,⟨t',h'⟩,nx'⟩ x:=by show bL ops g (raw t x)=bL ops g (raw t' x);rw[E x (by simp)]
  rw[this]
def tU {ts:Tis}{ops:List Oper}{g:Option (Nat×Bool)}{h h':List Ob}{nx nx':Nat}{t t':List (Nat×SV)}:∀ (l:List (Nat×Operand)),(∀ x∈l,raw t x.2=raw t' x.2)->iI ⟨ts,ops,g,⟨t,h⟩,nx⟩ l=iI ⟨ts,ops,g,⟨t',h'⟩,nx'⟩ l
 | [],_=>rfl
 |(i,x)::r,E=>by
  simp only[iI];rw[tU r λy hy=>E y (by simp[hy])];have:val ⟨ts,ops,g,⟨t,h⟩,nx⟩ x=val ⟨ts,ops,g,⟨t',h'⟩,nx'⟩ x:=by show bL ops g (raw t x)=bL ops g (raw t' x);rw[E (i,x) (by simp)]
  rw[this]
variable {ops:List Oper}{g:Option (Nat×Bool)}{h:List Ob}{nx':Nat}{t t':List (Nat×SV)}
theorem sG{ts:Tis}{h':List Ob}{nx:Nat}(o:Option Operand)(E:∀ x∈o,raw t x=raw t' x):ot ⟨ts,ops,g,⟨t,h⟩,nx⟩ o=ot ⟨ts,ops,g,⟨t',h'⟩,nx'⟩ o:=by
 cases o with
 |none=>rfl
 |some x=>show some (bL ops g (raw t x))=some (bL ops g (raw t' x));rw[E x rfl]
theorem Sr{ts:Tis}{h':List Ob}{nx:Nat}(op:Op)(W:∀ x∈op.operands.toList,raw t x=raw t' x)
  (h1:∀ id∈(fpO ⟨ts,ops,g,⟨t,h⟩,nx⟩ op).1,ap h id=ap h' id) (h2:∀ id∈(fpO ⟨ts,ops,g,⟨t,h⟩,nx⟩ op).2,apQ (ap h id) (ap h' id)):
  opS ⟨ts,ops,g,⟨t,h⟩,nx⟩ op=opS ⟨ts,ops,g,⟨t',h'⟩,nx⟩ op:=by
 have O:∀ x∈op.operands.toList,val ⟨ts,ops,g,⟨t',h'⟩,nx⟩ x=val ⟨ts,ops,g,⟨t,h⟩,nx⟩ x:=λx hm=>by
  show bL ops g (raw t' x)=bL ops g (raw t x);rw[W x hm]
 cases op with
 |call c=>
  obtain⟨X,args,tys⟩:=c;have V:dA ⟨ts,ops,g,⟨t',h'⟩,nx⟩ args.toList=dA ⟨ts,ops,g,⟨t,h⟩,nx⟩ args.toList:=(sF _ λx hm=>W x (by grind [Op.operands,Call.operands])).symm;cases X with
  |value f=>
   have hf:=O f (by simp[Op.operands,Call.operands]);show zS _ _=zS _ _;rw[V,hf]
  |invoke f m=>rfl
  |builtin b=>
   cases b <;>first|rfl|skip
   show(match tys.toList with| [t1,t2] =>aQ ts t1 λti=>aQ ts t2 λY=>aQ ts ti.elem λte=>bif ti.isSlice&&Y.isSlice then mv te nx h (dA ⟨ts,ops,g,⟨t,h⟩,nx⟩ args.toList)else .bad|_=>.bad)=(match tys.toList with| [t1,t2] =>aQ ts t1 λti=>aQ ts t2 λY=>aQ ts ti.elem λte=>bif ti.isSlice&&Y.isSlice then mv te nx h' (dA ⟨ts,ops,g,⟨t',h'⟩,nx⟩ args.toList)else .bad|_=>.bad);rw[V];have e:∀ te:TI,mv te nx h (dA ⟨ts,ops,g,⟨t,h⟩,nx⟩ args.toList)=mv te nx h' (dA ⟨ts,ops,g,⟨t,h⟩,nx⟩ args.toList):=λte=>O7 te nx _ h1;simp only[e];show(match tys.toList with| [t1] =>aQ ts t1 λti=>aQ ts ti.elem λte=>y5 ti te h (dA ⟨ts,ops,g,⟨t,h⟩,nx⟩ args.toList) |_=>.bad)=(match tys.toList with| [t1] =>aQ ts t1 λti=>aQ ts ti.elem λte=>y5 ti te h' (dA ⟨ts,ops,g,⟨t',h'⟩,nx⟩ args.toList) |_=>.bad);rw[V];have e:∀ ti te:TI,y5 ti te h (dA ⟨ts,ops,g,⟨t,h⟩,nx⟩ args.toList)=y5 ti te h' (dA ⟨ts,ops,g,⟨t,h⟩,nx⟩ args.toList):=λti te=>O4 ti te _ h1;simp only[e];show(match tys.toList with|t1::_=>aQ ts t1 λti=>y6 ti h (dA ⟨ts,ops,g,⟨t,h⟩,nx⟩ args.toList) |_=>.bad)=(match tys.toList with|t1::_=>aQ ts t1 λti=>y6 ti h' (dA ⟨ts,ops,g,⟨t',h'⟩,nx⟩ args.toList) |_=>.bad);rw[V];have e:∀ ti:TI,y6 ti h (dA ⟨ts,ops,g,⟨t,h⟩,nx⟩ args.toList)=y6 ti h' (dA ⟨ts,ops,g,⟨t,h⟩,nx⟩ args.toList):=λti=>O5 ti _ h1;simp only[e];show(match tys.toList with| [t''] =>aQ ts t'' λti=>t_ ti h (dA ⟨ts,ops,g,⟨t,h⟩,nx⟩ args.toList) |_=>.bad)=(match tys.toList with| [t''] =>aQ ts t'' λti=>t_ ti h' (dA ⟨ts,ops,g,⟨t',h'⟩,nx⟩ args.toList) |_=>.bad);rw[V];have e:∀ ti:TI,t_ ti h (dA ⟨ts,ops,g,⟨t,h⟩,nx⟩ args.toList)=t_ ti h' (dA ⟨ts,ops,g,⟨t,h⟩,nx⟩ args.toList):=λti=>O6 ti _ h1;simp only[e];show JF _=JF _;rw[V];show JE _=JE _;rw[V]
 |build ty E=>
  have V:iI ⟨ts,ops,g,⟨t',h'⟩,nx⟩ E.toList=iI ⟨ts,ops,g,⟨t,h⟩,nx⟩ E.toList:=(tU _ λx hm=>W x.2 (by grind [Op.operands])).symm;grind [opS]
 |buildSlice ty n E=>
  have V:iI ⟨ts,ops,g,⟨t',h'⟩,nx⟩ E.toList=iI ⟨ts,ops,g,⟨t,h⟩,nx⟩ E.toList:=(tU _ λx hm=>W x.2 (by grind [Op.operands])).symm;grind [opS]
 |makeFunc fn first caps=>
  have V:dA ⟨ts,ops,g,⟨t',h'⟩,nx⟩ caps.toList=dA ⟨ts,ops,g,⟨t,h⟩,nx⟩ caps.toList:=(sF _ λx hm=>W x (by grind [Op.operands])).symm;have hb:dA ⟨ts,ops,g,⟨t',h'⟩,nx⟩ first.toList=dA ⟨ts,ops,g,⟨t,h⟩,nx⟩ first.toList:=(sF _ λx hm=>W x (by grind [Op.operands])).symm
  grind [opS]
 |pick c x y=>
  grind [Op.operands,opS]
 |move x=>grind [opS,Op.operands]|assign x=>grind [opS,Op.operands]|box ty x=>grind [opS,Op.operands]
 |load ty x=>
  simp only[opS,O x (by simp[Op.operands])];exact congrArg _ (funext λti=>Mo ti h1)
 |store ty x y=>
  simp only[opS,O x (by simp[Op.operands]),O y (by simp[Op.operands])];exact congrArg _ (funext λti=>J9 _ _ h1)
 |nilCheck x=>grind [opS,Op.operands]|binOp op xt x y yt=>grind [opS,Op.operands]|unOp op xt x=>grind [opS,Op.operands]|convert a b x=>grind [opS,Op.operands]|panic x=>grind [opS,Op.operands]|makeInterface ty x=>grind [opS,Op.operands]|typeAssert x st ty ok=>grind [opS,Op.operands]|fieldAddr ty x f=>grind [opS,Op.operands]|field ty x f=>grind [opS,Op.operands]
 |indexAddr ty x y=>
  simp only[opS,O x (by simp[Op.operands]),O y (by simp[Op.operands])];exact congrArg _ (funext λti=>congrArg _ (funext λte=>J_ _ _ _ h1))
 |extract x i=>grind [opS,Op.operands]|makeSlice ty n c=>grind [opS,Op.operands]
 |slice ty x lo hi mx=>
  cases mx with
  |some m=>
   have e1:ot ⟨ts,ops,g,⟨t',h'⟩,nx⟩ lo=ot ⟨ts,ops,g,⟨t,h⟩,nx⟩ lo:=(sG lo λy hy=>W y (by simp_all [Op.operands])).symm;have e2:ot ⟨ts,ops,g,⟨t',h'⟩,nx⟩ hi=ot ⟨ts,ops,g,⟨t,h⟩,nx⟩ hi:=(sG hi λy hy=>W y (by simp_all [Op.operands])).symm;grind [opS,Op.operands]
  |none=>
   have e1:ot ⟨ts,ops,g,⟨t',h'⟩,nx⟩ lo=ot ⟨ts,ops,g,⟨t,h⟩,nx⟩ lo:=(sG lo λy hy=>W y (by simp_all [Op.operands])).symm;have e2:ot ⟨ts,ops,g,⟨t',h'⟩,nx⟩ hi=ot ⟨ts,ops,g,⟨t,h⟩,nx⟩ hi:=(sG hi λy hy=>W y (by simp_all [Op.operands])).symm;simp only[opS,O x (by simp[Op.operands]),e1,e2];exact congrArg _ (funext λti=>congrArg _ (funext λte=>Ka _ _ _ _ _ _ h1))
 |makeMap ty n=>cases n <;>rfl
 |lookup ty m k ok=>
  simp only[opS,O m (by simp[Op.operands]),O k (by simp[Op.operands])];refine congrArg _ (funext λti=>?_);cases ok with
  |true=>exact Mq ti _ _ h1|false=>exact O0 ti _ h2
 |mapUpdate ty m k v=>
  simp only[opS,O m (by simp[Op.operands]),O k (by simp[Op.operands]),O v (by simp[Op.operands])];exact congrArg _ (funext λti=>EX ti _ _ h1)
 |insert ty m k v=>
  simp only[opS,O m (by simp[Op.operands]),O k (by simp[Op.operands]),O v (by simp[Op.operands])];exact congrArg _ (funext λti=>EX ti _ _ h1)
 |mapEntry ty m k=>
  simp only[opS,O m (by simp[Op.operands]),O k (by simp[Op.operands])];exact congrArg _ (funext λti=>O2 ti _ _ h1)
 |entryStore ty m s v=>
  simp only[opS,O m (by simp[Op.operands]),O s (by simp[Op.operands]),O v (by simp[Op.operands])];exact congrArg _ (funext λti=>O3 ti _ _ h1)
 |range ty x=>
  simp only[opS,O x (by simp[Op.operands])];exact congrArg _ (funext λti=>O1 ti nx h1)
 |next it isS=>cases isS <;>simp only[opS,O it (by simp[Op.operands])]
 |entry it=>
  simp only[opS,O it (by simp[Op.operands])];exact Mr h1
 |_=>rfl
structure DOk (ops:List Oper):Prop where
 back:∀ (i:Nat) (o:Oper) (e:Edge),ops[i]? =some o->e∈o.after->Region.binds .any e=true->e.on<i
 uniq:∀ (i k:Nat) (o q:Oper) (d:Nat),ops[i]? =some o->ops[k]? =some q->o.dst=some d->q.dst=some d->i=k
 look:∀ (i k:Nat) (o q:Oper) (d:Nat),ops[i]? =some o->ops[k]? =some q->q.dst=some d->d∈o.looksAt ops.toArray->k=i\/(k<i/\pl o k=true)\/(i<k/\pl q i=true)
theorem aaY(h:OA ops.toArray=true):DOk ops:=by
 have h':∀ (i:Nat) (o:Oper),ops[i]? =some o->(o.after.toList.all λe=>!(Region.binds .any e) ||Nat.blt e.on i)=true/\
   ∀ (k:Nat) (q:Oper),ops[k]? =some q->∀ d,q.dst=some d->(Nat.beq k i|| !(o.dst==some d))=true/\(!((o.looksAt ops.toArray).contains d) ||Nat.beq k i||(Nat.blt k i&&pl o k) ||(Nat.blt i k&&pl q i))=true:=by
  intro i o E;unfold OA at h;rw[alA]at h;have:=h i (by grind);simp only[gC,E,akZ]at this;grind
 refine⟨λi o e E W Y=>?_,λi k o q d E V hd O=>?_,λi k o q d E V hd X=>?_⟩;have:=(h' i o E).1;rw[alA]at this;have:=this e (by grind);simp_all;have:=((h' i o E).2 k q V d O).1;simp_all;have:=((h' i o E).2 k q V d hd).2;have hc:(o.looksAt ops.toArray).contains d=true:=by grind
 simp only[hc,alj,aml,alx,akZ]at this;rcases this with(h1|h1) |h1 <;>simp_all
theorem aaZ{ts:Tis}{st:St}{nx:Nat}{op:Op}{r:OR}(h:opS ⟨ts,ops,g,st,nx⟩ op=r)(hn:∀ c a ups s,r=.eff c a ups s->nx ∉ ft ups):opS ⟨ts,ops,g,st,nx'⟩ op=r:=by
 have hv:∀ x,val ⟨ts,ops,g,st,nx'⟩ x=val ⟨ts,ops,g,st,nx⟩ x:=λx=>rfl;have X:∀ l,dA ⟨ts,ops,g,st,nx'⟩ l=dA ⟨ts,ops,g,st,nx⟩ l:=λl=>sF l λ_ _=>rfl;have hps:∀ l,iI ⟨ts,ops,g,st,nx'⟩ l=iI ⟨ts,ops,g,st,nx⟩ l:=λl=>tU l λ_ _=>rfl;have hvo:∀ o,ot ⟨ts,ops,g,st,nx'⟩ o=ot ⟨ts,ops,g,st,nx⟩ o:=λo=>sG o λ_ _=>rfl;have W:∀ (t:TypeId) (k k':TI->OR),aQ ts t k=r->(∀ ti,k ti=r->k' ti=r)->aQ ts t k'=r:=by
  grind [aQ]
 have hNew:∀ l,JB nx l=r->JB nx' l=r:=by
  intro l e;cases l with
  |none=>exact e
  |some l=>exact absurd (by simp[ft]) (hn _ _ _ _ e.symm)
 cases op with
 |alloc t=>exact W _ _ _ h λti e=>hNew _ e
 |box t x=>exact hNew _ h
 |store t x y=>
  refine W _ _ _ h λti e=>?_;change rg ti.size nx st.h (val ⟨ts,ops,g,st,nx⟩ x) (val ⟨ts,ops,g,st,nx⟩ y)=r at e;change rg ti.size nx' st.h (val ⟨ts,ops,g,st,nx⟩ x) (val ⟨ts,ops,g,st,nx⟩ y)=r;unfold rg at e |-;split at e
  rename_i sz id i off rid _ _;cases hg:JA (ap st.h id)with
  |false=>grind
  |true=>
   rw[hg]at e;simp only[cond_true]at e |-;cases hc:Nat.beq ti.size 1&&Nat.beq sz 1&&Nat.beq off 0&& !(Nat.beq id rid)with
   |false=>grind
   |true=>
    rw[hc]at e;simp only[cond_true]at e |-;cases ho:ap st.h id with
    |aoV k l=>
     rw[ho]at e;simp only[Eh]at e |-;cases hr:Ot k (ap st.h rid)with
     |none=>rw[hr]at e;exact e
     |some m=>rw[hr]at e;exact absurd (by simp[ft]) (hn _ _ _ _ e.symm)
    |_=>rw[ho]at e;exact e
  exact e
 |makeSlice t n c=>
  refine W _ _ _ h λti e=>W _ _ _ e λte e=>?_;cases Y:ti.isSlice with
  |false=>grind
  |true=>
   rw[Y]at e;simp only[cond_true]at e |-;cases hb2:te.isSlice with
   |true=>
    rw[hb2]at e;simp only[cond_true]at e |-;refine W _ _ _ e λtr e=>?_;change Hj nx te tr (val ⟨ts,ops,g,st,nx⟩ n) (val ⟨ts,ops,g,st,nx⟩ c)=r at e;change Hj nx' te tr (val ⟨ts,ops,g,st,nx⟩ n) (val ⟨ts,ops,g,st,nx⟩ c)=r;unfold Hj at e |-;split at e
    rename_i a b _ _;cases ht:tr.tag with
    |none=>rw[ht]at e;exact e
    |some k=>
     grind [XK,ft]
    exact e
   |false=>
   rw[hb2]at e;simp only[cond_false]at e |-;change mkS nx te (val ⟨ts,ops,g,st,nx⟩ n) (val ⟨ts,ops,g,st,nx⟩ c)=r at e;change mkS nx' te (val ⟨ts,ops,g,st,nx⟩ n) (val ⟨ts,ops,g,st,nx⟩ c)=r;unfold mkS at e |-;split at e
   rename_i a b _ _;cases ht:te.tag with
   |none=>rw[ht]at e;exact e
   |some k=>rw[ht]at e;exact absurd (by simp[ft]) (hn _ _ _ _ e.symm)
   exact e
 |slice t x lo hi m=>
  cases m with
  |some m=>
   refine W _ _ _ h λti e=>W _ _ _ e λte e=>?_;grind
  |none=>
   refine W _ _ _ h λti e=>W _ _ _ e λte e=>?_;rw[hvo,hvo];change mN ti te.size nx st.h _ _ _ (val ⟨ts,ops,g,st,nx⟩ x)=r at e;change mN ti te.size nx' st.h _ _ _ (val ⟨ts,ops,g,st,nx⟩ x)=r;unfold mN at e |-;split at e
   exact e
   ·rename_i id _;cases Y:ti.isSlice with
    |false=>grind
    |true=>
     rw[Y]at e;simp only[cond_true]at e |-;cases hv:(In hi&&LS ops)with
     |true=>grind
     |false=>
     rw[hv]at e;simp only[cond_false]at e |-;unfold XN at e |-;split at e
     rename_i k l _;cases Y:Nat.beq te.size (aa k)with
     |false=>grind
     |true=>
      rw[Y]at e;simp only[cond_true]at e |-;unfold XM at e |-;grind [ft]
     exact e
   exact e
 |makeMap t n=>
  cases n with
  |some n=>exact h
  |none=>
   refine W _ _ _ h λti e=>?_;change mmR nx ti.mkt ti.mvt=r at e;change mmR nx' ti.mkt ti.mvt=r;unfold mmR at e |-;grind [ft]
 |call c=>
  obtain⟨callee,args,tys⟩:=c;cases callee with
  |value f=>rw[<-h];show zS _ _=zS _ _;rw[X];rfl
  |invoke f m=>exact h
  |builtin b=>
   cases b <;>first|exact h|skip
   ·change (match tys.toList with| [t1,t2] =>aQ ts t1 λti=>aQ ts t2 λti2=>aQ ts ti.elem λte=>bif ti.isSlice&&ti2.isSlice then mv te nx st.h (dA ⟨ts,ops,g,st,nx⟩ args.toList)else .bad|_=>.bad)=r at h;show(match tys.toList with| [t1,t2] =>aQ ts t1 λti=>aQ ts t2 λti2=>aQ ts ti.elem λte=>bif ti.isSlice&&ti2.isSlice then mv te nx' st.h (dA ⟨ts,ops,g,st,nx'⟩ args.toList)else .bad|_=>.bad)=r;rw[X];split at h
    ·refine W _ _ _ h λti e=>W _ _ _ e λti2 e=>W _ _ _ e λte e=>?_;cases Y:ti.isSlice&&ti2.isSlice with
     |false=>grind
     |true=>
      rw[Y]at e;simp only[cond_true]at e |-;have hR:∀ k b E l m,TR k nx b E l m=r->TR k nx' b E l m=r:=by
       intro k b E l m e;cases m with
       |none=>exact e
       |some m=>exact absurd (by grind [IF,ft]) (hn _ _ _ _ e.symm)
      have hGs:∀ k b id2 E l m,Ej k nx b id2 E l m=r->Ej k nx' b id2 E l m=r:=by
       intro k b id2 E l m e;cases m with
       |none=>exact e
       |some m=>exact absurd (by grind [IF,ft]) (hn _ _ _ _ e.symm)
      have hO:∀ E V o,wq te nx E st.h V o=r->wq te nx' E st.h V o=r:=by
       intro E V o e;cases o with
       |row k l=>
        grind [wq]
       |_=>exact e
      have hT2:∀ V o,vh te nx st.h V o=r->vh te nx' st.h V o=r:=by
       intro V o e;cases o with
       |none=>exact e|some k=>exact hO [] V (.row k []) e
      generalize dA ⟨ts,ops,g,st,nx⟩ args.toList=l at e |-;unfold mv at e |-;split at e
      rename_i id id2;cases Y:Nat.beq te.size 1&&Nat.beq (sz te.zero) 1&&Nat.ble 1 te.bytes&& !(Nat.beq id id2)with
      |false=>
       grind
      |true=>
       rw[Y]at e;simp only[cond_true]at e |-;unfold Ek at e |-;grind
      rename_i id2;cases Y:Nat.beq te.size 1&&Nat.beq (sz te.zero) 1&&Nat.ble 1 te.bytes with
      |false=>grind
      |true=>
       rw[Y]at e;simp only[cond_true]at e |-;unfold XG at e |-;grind
      grind
      grind
      grind
      grind
      exact e;exact e
    exact h
   rw[<-h];show(match tys.toList with| [t1] =>aQ ts t1 λti=>aQ ts ti.elem λte=>y5 ti te st.h (dA ⟨ts,ops,g,st,nx'⟩ args.toList) |_=>.bad)=(match tys.toList with| [t1] =>aQ ts t1 λti=>aQ ts ti.elem λte=>y5 ti te st.h (dA ⟨ts,ops,g,st,nx⟩ args.toList) |_=>.bad);rw[X];rw[<-h];show(match tys.toList with|t1::_=>aQ ts t1 λti=>y6 ti st.h (dA ⟨ts,ops,g,st,nx'⟩ args.toList) |_=>.bad)=(match tys.toList with|t1::_=>aQ ts t1 λti=>y6 ti st.h (dA ⟨ts,ops,g,st,nx⟩ args.toList) |_=>.bad);rw[X];rw[<-h];show(match tys.toList with| [t''] =>aQ ts t'' λti=>t_ ti st.h (dA ⟨ts,ops,g,st,nx'⟩ args.toList) |_=>.bad)=(match tys.toList with| [t''] =>aQ ts t'' λti=>t_ ti st.h (dA ⟨ts,ops,g,st,nx⟩ args.toList) |_=>.bad);rw[X];rw[<-h];show JF _=JF _;rw[X];rw[<-h];show JE _=JE _;rw[X]
 |build ty O=>grind [opS]
 |buildSlice ty n O=>
  refine W _ _ _ h λti e=>W _ _ _ e λte e=>?_;change Hi (JD ty ops g) nx te (bsS ti te n (iI ⟨ts,ops,g,st,nx⟩ O.toList))=r at e;show Hi (JD ty ops g) nx' te (bsS ti te n (iI ⟨ts,ops,g,st,nx'⟩ O.toList))=r;rw[hps];generalize bsS ti te n (iI ⟨ts,ops,g,st,nx⟩ O.toList)=o at e |-;unfold Hi at e |-;grind [ft]
 |makeFunc fn first caps=>grind [opS]
 |range ty x=>
  refine W _ _ _ h λti e=>?_;change Em ti nx st.h (val ⟨ts,ops,g,st,nx⟩ x)=r at e;show Em ti nx' st.h (val ⟨ts,ops,g,st,nx'⟩ x)=r;rw[hv];generalize val ⟨ts,ops,g,st,nx⟩ x=s at e |-;cases s with
  |os id=>
   simp only[Em]at e |-;cases ho:ap st.h id with
   |mp kk vk l apj=>
    grind [XO,ft]
   |_=>rw[ho]at e;exact e
  |_=>exact e
 |mapEntry ty m k=>
  refine W _ _ _ h λti e=>?_;change yi ti nx st.h (val ⟨ts,ops,g,st,nx⟩ k) (val ⟨ts,ops,g,st,nx⟩ m)=r at e;show yi ti nx' st.h (val ⟨ts,ops,g,st,nx'⟩ k) (val ⟨ts,ops,g,st,nx'⟩ m)=r;rw[hv,hv];generalize val ⟨ts,ops,g,st,nx⟩ m=s at e |-;cases s with
  |os id=>
   simp only[yi]at e |-;cases ho:ap st.h id with
   |mp kk vk l apj=>
    rw[ho]at e;simp only[RR]at e |-;cases Y:lw kk ti.mkt&&lw vk ti.mvt&&noE apj with
    |false=>grind
    |true=>
     rw[Y]at e;simp only[cond_true]at e |-;unfold RQ at e |-;grind [ft]
   |_=>rw[ho]at e;exact e
  |_=>exact e
 |next it isS=>cases isS <;>exact h|entry it=>exact h|_=>exact h
theorem EZ (E:List Nat)(j:Nat):∀ (l:List Edge),(LV E l).testBit j=true->∃ e∈l,Region.binds .any e=true/\(j=e.on\/((nth E e.on).getD 0).testBit j=true)
 | [],h=>by simp[LV]at h
 |e::r,h=>by
  simp only[LV]at h;cases O:Region.binds .any e with
  |false=>
   rw[O]at h;obtain⟨e',h1,h2⟩:=EZ E j r h;grind
  |true=>
   rw[O]at h;simp only[cond_true]at h;have h':(((nth E e.on).getD 0|||1<<< e.on) |||LV E r).testBit j=true:=h;rw[Nat.testBit_or,Nat.testBit_or,alx,alx]at h';rcases h' with(h'|h') |h';grind
   refine⟨e,by simp,O,.inl ?_⟩;rw[Nat.testBit_shiftLeft,akZ]at h';grind [Nat.testBit_one_eq_true_iff_self_eq_zero]
   obtain⟨e',h1,h2⟩:=EZ E j r h';grind
def DU (ops:List Oper)(S:Nat->Prop):Prop:= ∀ (i:Nat) (o:Oper) (j:Nat),S i->ops[i]? =some o->pl o j=true->S j
theorem QQ {ops:List Oper}{S:Nat->Prop}(V:DU ops S):∀ (l:List Oper) (E:List Nat),ops.drop E.length=l->(∀ i j,i<E.length->S i->((nth E i).getD 0).testBit j=true->S j)->
  ∀ i j,S i->su (Bj l E) i j=true->S j
 | [],E,hd,W,i,j,hi,O=>by
  grind [gC,Bj,su]
 |o::l,E,hd,W,i,j,hi,O=>by
  obtain⟨X,hd'⟩:=EU hd;refine QQ V l (E++[LV E o.after.toList]) (by grind) (λi j hlt hi O=>?_) i j hi O;rw[gC]at O;by_cases h:i<E.length
  rw[amZ h]at O;exact W i j h hi (by grind [gC]);have:i=E.length:=by grind
  subst this;simp at O;obtain⟨e,h1,h2,h3⟩:=EZ E j _ O;have Y:S e.on:=V _ o e.on hi X (by
   unfold pl;rw[al4];exact⟨e,h1,by simp[h2]⟩)
  grind [gC]
theorem Kc{S:Nat->Prop}(E:DU ops S){i j:Nat}(hi:S i)(O:su (Bj ops []) i j=true):S j:=
 QQ E ops [] rfl (λi j h=>by simp at h) i j hi O
def Ord (ops:List Oper)(i j:Nat):Prop:=(j<i/\su (Bj ops []) i j=true)\/(i<j/\su (Bj ops []) j i=true)
theorem E0 {O:List Nat}{i:Nat}{x:Fp}:∀ (l:List Fp) (j:Nat),LW O i x j l=true->∀ (k:Nat) (y:Fp),l[k]? =some y->j+k≠i->tK x y=true->(j+k<i/\su O i (j+k)=true)\/(i<j+k/\su O (j+k) i=true)
 | [],j,_,k,y,E,_,_=>by simp at E
 |z::r,j,h,k,y,E,V,hc=>by
  simp only[LW,akZ]at h;cases k with
  |zero=>
   simp at E;subst E;rw[al_]at V |-;have h1:=h.1;simp only[hc,alj,amu,alx,akZ]at h1;rcases h1 with(h1|h1) |h1 <;>simp_all
  |succ k=>
   have:=E0 r (j+1) h.2 k y (by grind) (by omega) hc;grind
theorem E1 {O:List Nat}{b:Nat}{all:List Fp}:∀ (l:List Fp) (i:Nat),QA O b all i l=true->∀ (k:Nat) (x:Fp),l[k]? =some x->LW O (i+k) x b all=true
 | [],i,_,k,x,E=>by simp at E
 |z::r,i,h,k,x,E=>by
  simp only[QA,akZ]at h;cases k with
  |zero=>grind
  |succ k=>
   have:=E1 r (i+1) h.2 k x (by grind);grind
theorem Ss (l:List Nat):tJ l []=false:=by
 induction l with
 |nil=>rfl|cons a r E=>simp[tJ,De,E]
theorem uG {n:Nat}:∀ {l m:List Nat},n∈l->n∈m->tJ l m=true
 |a::r,m,h1,h2=>by
  simp only[tJ];rcases ala.1 h1 with rfl|h1;rw[(wZ n m).2 h2];rfl;rw[uG h1 h2];cases De a m <;>rfl
theorem IG:∀ {l:List Fp} {k:Nat} {x:Fp},Io l=true->l[k]? =some x->x.tc=[]/\x.wt=[]
 | [],k,x,_,E=>by simp at E
 |z::r,k,x,h,E=>by
  simp only[Io,akZ,List.isEmpty_iff]at h;cases k with
  |zero=>grind
  |succ k=>exact IG h.2 (by simpa using E)
theorem E2{b:Nat}{E:List Fp}(h:sw ops b E){i j:Nat}{x y:Fp}(hi:E[i]? =some x)(X:E[j]? =some y)(Y:i≠j)(hc:tK x y=true):Ord ops (b+i) (b+j):=by
 unfold sw at h;cases W:Io E with
 |true=>
  obtain⟨e1,e2⟩:=IG W X;grind [tK,Ss]
 |false=>
  rw[W]at h;have h1:=E1 E b h i x hi;have h2:=E0 E b h1 j y X (by omega) hc;rcases h2 with⟨V,O⟩ | ⟨V,O⟩;exact .inl ⟨V,O⟩;exact .inr ⟨V,O⟩
theorem E3{c:Nat}(h:En ops c=true){i:Nat}(hi:i<ops.length)(V:i≠c):(i<c/\su (Bj ops []) c i=true)\/(c<i/\su (Bj ops []) i c=true):=by
 have E:∀ (l:List Oper) (j:Nat),JI (Bj ops []) c j l=true->∀ k,k<l.length->(Nat.beq (j+k) c||(Nat.blt (j+k) c&&su (Bj ops []) c (j+k)) ||(Nat.blt c (j+k)&&su (Bj ops []) (j+k) c))=true:=by
  intro l;induction l with
  |nil=>grind
  |cons x r O=>
   intro j h k W;simp only[JI,akZ]at h;cases k with
   |zero=>exact h.1
   |succ k=>
    have:=O (j+1) h.2 k (by grind);grind
 have:=E ops 0 h i hi;simp_all
structure Fact (ts:Tis)(G:Cons)(ops:List Oper)(o:Oper)(st st2:St)(s:SV)(ups:List Up)(fp:Fp)(r:Dr):Prop where
 dr:jR G st.h st.h.length (opS ⟨ts,ops,o.guard,st,st.h.length⟩ o.op)=some r
 nxt:st2=St.put ⟨st.t,bf st.h ups⟩ o.dst s
 fp:fp=fpU o.op (fpO ⟨ts,ops,o.guard,st,st.h.length⟩ o.op) r.all ups
 plain:o.guard=none->r.c/\s=r.s/\ups=r.ups
 guarded:∀ g,o.guard=some g->(dU ops st.t ops.length g->r.c)/\((r.ups=ups/\s=.gd g.1 g.2 r.s/\(ups=[]\/¬gq ops st.t ops.length g))\/(ups=[]/\s=.gd g.1 g.2 r.s/\¬dU ops st.t ops.length g))
def X8 (ts:Tis)(G:Cons)(ops:List Oper)(K:St->Prop)(Z:Value->St->Prop)(e:Nat)(st:St):Prop:=
 (ops.length<=e/\K st)\/∃ o,ops[e]? =some o/\En ops e=true/\QN G ops o.dst st (λst'=>jV ts G ops K Z (ops.drop (e+1)) (e+1) (e+1) [] st') Z o.guard (opS ⟨ts,ops,o.guard,st,st.h.length⟩ o.op)
structure ao0 (ts:Tis)(G:Cons)(ops:List Oper)(n m:Nat)(S:Nat->St)(s:Nat->SV)(ups:Nat->List Up)(fs:Nat->Fp)(R:Nat->Dr):Prop where
 fact:∀ i,i<m->∃ o,ops[n+i]? =some o/\Fact ts G ops o (S i) (S (i+1)) (s i) (ups i) (fs i) (R i)
section
variable {P:Program}{F:Nat->Prop}{own ee:Own}{w w':World}{ts:Tis}
variable {w0:Bs}{ro:Option Nat}{nd:Nat}{N n:Nat}{ops:List Oper}{st:St}{a:Act}{G:Cons}
theorem Su (n:Nat)(s:SV)(o:Ob)(h:o∈a6 n s):dL o=false:=by
 rcases(zg n s o h).1 with⟨_,_,rfl⟩ | ⟨_,_,_,rfl⟩ | ⟨_,_,rfl⟩ <;>rfl
variable {h:List Ob}
theorem O8{ee:Own}(hp:Hp F own w h){nx:Nat}(hn:apB own h nx){s:SV}{u:Value}{ob:Ob}(hrow:a6 3 s=[ob]){F1:Nat->Prop}(hF1:(∀ b,F1 b↔dg F own b)\/((∀ b,F1 b↔F b)/\jo 3 s=true))(Y:Below w.heap.size w w')(hh:Handed F1 w ee w' s u):
  ∃ X2,Rel F X2 w' (jp 3 nx s) u/\Step F own w (bf h [(nx,ob)]) X2 w':=by
 have hFF:∀ b,F b->F1 b:=λb hf=>by
  rcases hF1 with h1| ⟨h1,_⟩;exact(h1 b).2 (.inl hf);grind
 have h0:∀ id hd,ee id=some hd->id=0:=λid hd e=>by
  have:=hh.hp.dom id hd e;grind
 let X2:Own:=λid=>if id=nx then ee 0 else own id
 have o1:∀ id hd,X2 id=some hd->(id≠nx/\own id=some hd)\/(id=nx/\ee 0=some hd):=λid hd e=>by
  grind
 have o2:∀ id hd,own id=some hd->X2 id=some hd:=λid hd e=>by
  simp only[X2];rw[if_neg (λh=>by rw[h,hn.none]at e;cases e)];exact e
 have o3:∀ id hd,ee id=some hd->X2 (id+nx)=some hd:=λid hd e=>by
  grind
 have fr:Fr { w:=w,own:=own} X2 w':=Fr.apr (λid hd e=>⟨hd,o2 id hd e,.refl _⟩) (λid hd b e E=>by
   rcases o1 id hd e with⟨_,e⟩ | ⟨_,e⟩;grind
   exact .inr (hh.fresh _ hd b e E)) (λb hbl _=>Y.block b hbl) Y.size Y.os Y.tape Y.output
 have g:ao_ F own w X2 w':=fr.apg;have X:(∀ b,¬dg F1 ee b->¬dg F X2 b)\/jo 3 s=true:=by
  rcases hF1 with h1| ⟨_,h2⟩;left;rintro b hn (hf| ⟨id,hd,e,E⟩);exact hn (.inl (hFF b hf));rcases o1 id hd e with⟨_,e⟩ | ⟨_,e⟩;exact hn (.inl ((h1 b).2 (.inr ⟨id,hd,e,E⟩)));exact hn (.inr ⟨_,hd,e,E⟩);grind
 have hob:ap (a6 3 s) 0=ob:=by rw[hrow];rfl
 have hlen:nx< (bf h [(nx,ob)]).length:=by grind [bf,cI]
 have hle:h.length<=(bf h [(nx,ob)]).length:=by grind [bf,cI]
 refine⟨X2,?_,⟨λid hd e=>?_,λb hf=>ale (hp.aoB b hf) Y.size,λid hd b e E=>?_,λi j hi hj b V O hb1 hb2=>?_,λid hd b e E=>?_,λid W=>?_⟩,fr,λid V O=>?_⟩;have:=EQ (F':=F) (X2:=X2) (m:=nx) o3 3 0 s u hh.val (X.imp (λhk c hc=>hk c λho=>hc (.inl ho)) id);grind
 rcases o1 id hd e with⟨_,e⟩ | ⟨rfl,_⟩;have:=hp.dom id hd e;omega;exact hlen;rcases o1 id hd e with⟨_,e⟩ | ⟨_,e⟩;exact hp.apart id hd b e E;exact λhf=>hh.hp.apart _ hd b e E (hFF b hf);rcases o1 i hi V with⟨l1,V⟩ | ⟨l1,V⟩ <;>rcases o1 j hj O with⟨l2,O⟩ | ⟨l2,O⟩;exact hp.inj i j hi hj b V O hb1 hb2;have:=hp.lt i hi b V hb1;have:=hh.fresh _ hj b O hb2;omega;have:=hp.lt j hj b O hb2;have:=hh.fresh _ hi b V hb1;omega;omega;rcases o1 id hd e with⟨_,e⟩ | ⟨_,e⟩;exact ale (hp.lt id hd b e E) Y.size;exact hh.hp.lt _ hd b e E;simp only[bf]at W |-;rw[dG]at W |-;by_cases hlt:nx=id
 rw[if_pos hlt]at W |-;have hdd':dL (ap (a6 3 s) 0)=false:=by grind
 obtain⟨hd,V,O⟩:=hh.hp.obs _ hdd';obtain⟨q1,q2⟩:=zg 3 s _ (Ml hdd');have e3:=o3 _ hd V;rw[ak8,hlt]at e3;rw[hob]at O q1 q2;exact⟨hd,e3,O.aoQ q1 (X.imp (λh=>h) q2)⟩;rw[if_neg hlt]at W |-;obtain⟨hd,V,O⟩:=hp.obs id W;exact⟨hd,o2 id hd V,O.carry g.apb Y.size λb E=>Y.block b (hp.lt id hd b V E)⟩;simp only[X2];by_cases hid:id=nx
 subst hid;exfalso;simp only[bf]at O;rw[dG,if_pos rfl]at O;have:=Su 3 s ob (by grind);grind
 grind
theorem Uv{G:Cons}(hG:aot P G)(Y:Hp F own w h){nx:Nat}(hn:apB own h nx){f:FuncId}{args:List SV}{vs:Array Value}(hr:aoX F own w args vs){c:Con}(hc:G.p f (args.map (gi h 6))=some c)(O:an c)
  (W:args.all (dD 3)=true\/∀ s,dZ c s->jo 3 s=true):
  (callFunc f vs).run P w=.ok (.enter f vs) w/\Calls P f vs w (λe w'=>(∃ s u,∃ X2:Ob->Own,dZ c s/\e=.returned u/\∀ E,a6 3 s=[E]->Rel F (X2 E) w' (jp 3 nx s) u/\Step F own w (bf h [(nx,E)]) (X2 E) w')\/(∃ x,kZ c x/\e=.panicked [{ v:=x,recovered:=false}]/\Below w.heap.size w w')):=by
 refine⟨(hG.p f).enter _ c hc vs w,?_⟩;have V:∀ {ee:Own} {w':World} {s:SV} {u:Value} {F1:Nat->Prop},((∀ b,F1 b↔dg F own b)\/((∀ b,F1 b↔F b)/\jo 3 s=true))->Below w.heap.size w w'->Handed F1 w ee w' s u->∃ X2:Ob->Own,∀ E,a6 3 s=[E]->Rel F (X2 E) w' (jp 3 nx s) u/\Step F own w (bf h [(nx,E)]) (X2 E) w':=λ{ee w' s u F1} h1 h2 h3=>by
  refine Classical.axiomOfChoice (r:=λE X2=>a6 3 s=[E]->Rel F X2 w' (jp 3 nx s) u/\Step F own w (bf h [(nx,E)]) X2 w') λE=>?_;by_cases hrow:a6 3 s=[E]
  obtain⟨X2,q⟩:=O8 Y hn hrow h1 h2 h3;grind
  simp_all
 rcases W with hnp|hsc;have hpf:∀ (j:Nat) (s:SV),args[j]? =some s->PF s:=λj s X=>by
  rw[alA]at hnp;exact gO 3 s (hnp s (alf X))
 refine((hG.p f).calls _ c hc O (dg F own) w vs (λb hb=>?_) ⟨by simpa using hr.1,λj s X=>?_⟩).mono ?_;rcases hb with hf| ⟨id,hd,e,hbb⟩;exact Y.aoB b hf;exact Y.lt id hd b e hbb;obtain⟨x,hx,rfl⟩:=ox X;exact Uq 6 x _ (hpf j x hx) (hr.2 j x hx);rintro e w' (⟨s,u,ee,h1,h2,h3,h4⟩ |hp');obtain⟨X2,q⟩:=V (.inl λb=>aor) h4 h3;exact .inl ⟨s,u,X2,h1,h2,q⟩;grind
 refine((hG.p f).calls _ c hc O F w vs Y.aoB ⟨by simpa using hr.1,λj s X=>?_⟩).mono ?_;obtain⟨x,hx,rfl⟩:=ox X;exact Af Y 6 x _ (hr.2 j x hx);rintro e w' (⟨s,u,ee,h1,h2,h3,h4⟩ |hp');obtain⟨X2,q⟩:=V (.inr ⟨λb=>aor,hsc s h1⟩) h4 h3;exact .inl ⟨s,u,X2,h1,h2,q⟩;grind
theorem ZI(hG:aot P G)(hp:Hp F own w h){nx:Nat}(hn:apB own h nx){o:Oper}{run:Result Next}{r0:OR}{r:Dr}(h0:Me P F own w h run r0)(hr:jR G h nx r0=some r)(hc:r.c):
  r.a/\(∃ u ee w',Rel F ee w' r.s u/\Step F own w (bf h r.ups) ee w')/\
  ∀ (K:Act->World->Prop) (Q:Exit->Act->World->Prop),(∀ u ee w',Rel F ee w' r.s u->Step F own w (bf h r.ups) ee w'->K (a.put o.dst u) w')->o.uponIn (rd ro) nd P a K Q run:=by
 have V:∀ {w'},Below w.heap.size w w'->Step F own w h own w':=λhb=>⟨hp.below hb,EW own hb,λ_ e _=>e⟩;cases r0 with
 |val s=>
  simp only[jR,ak3]at hr;subst hr;obtain⟨u,W,O⟩:=h0;exact⟨trivial,⟨u,own,w,O,V (Below.refl _ _)⟩,λK Q X=>fw (.inl W) (X u own w O (V (Below.refl _ _)))⟩
 |chk c s=>
  simp only[jR,ak3]at hr;subst hr;obtain⟨u,W,O⟩:=h0 hc;exact⟨trivial,⟨u,own,w,O,V (Below.refl _ _)⟩,λK Q X=>fw (.inl W) (X u own w O (V (Below.refl _ _)))⟩
 |asm c s=>
  simp only[jR,ak3]at hr;subst hr;obtain⟨ha,u,W,O⟩:=h0;exact⟨ha,⟨u,own,w,O,V (Below.refl _ _)⟩,λK Q X=>fw (.inl W) (X u own w O (V (Below.refl _ _)))⟩
 |apm s=>
  simp only[jR,ak3]at hr;subst hr;obtain⟨u,cs,ty,W,O⟩:=h0;exact⟨trivial,⟨u,own,_,O,V (qE _ _)⟩,λK Q X=>fw (.inl W) (X u own _ O (V (qE _ _)))⟩
 |eff c ac ups s=>
  simp only[jR,ak3]at hr;subst hr;obtain⟨ha,u,ee,w',W,O,e3⟩:=h0 hc;exact⟨ha,⟨u,ee,w',O,e3⟩,λK Q X=>fw W (X u ee w' O e3)⟩
 |call f args=>
  obtain⟨vs,W,O⟩:=h0;simp only[jR]at hr;cases hcc:G.p f (args.map (gi h 6))with
  |none=>rw[hcc]at hr;cases hr
  |some cc=>
   rw[hcc]at hr;cases cc with
   |rel=>cases hr|may=>cases hr
   |det p s=>
    simp only[drC]at hr;have hrow:∀ (E:List Ob),a6 3 s=E->drR (args.all (dD 3)) (args.flatMap (kB h 6)) nx p s E=some r->
      ((args.all (dD 3) ||jo 3 s)=true/\((E=[]/\r=⟨p,True,s,[],args.flatMap (kB h 6)⟩)\/∃ Y,E=[Y]/\r=⟨p,True,jp 3 nx s,[(nx,Y)],args.flatMap (kB h 6)⟩)):=λE _ hr=>by
     match E,hr with
     | [],hr=>
      grind [drR]
     | [Y],hr=>
      grind [drR]
     |_::_::_,hr=>simp[drR]at hr
    obtain⟨hb,hcase⟩:=hrow _ rfl hr;rw[alx]at hb;have hres:args.all (dD 3)=true\/∀ s',dZ (.det p s) s'->jo 3 s'=true:=hb.imp id (λh s' hs'=>by cases hs';exact h);rcases hcase with⟨hz,rfl⟩ | ⟨Y,hz,rfl⟩
    ·obtain⟨k1,k2⟩:=J6 (P:=P) hG hp W hcc hc hres;have key:∀ {e:Ending} {w':World},((∃ s' u X2,dZ (.det p s) s'/\e=.returned u/\Hp F X2 w' (h++a6 3 s')/\Fr { w:=w,own:=own} X2 w'/\Rel F X2 w' (jp 3 h.length s') u/\Below w.heap.size w w'/\∀ id,id<h.length->X2 id=own id)\/(∃ x,kZ (.det p s) x/\e=.panicked [{ v:=x,recovered:=false}]/\Below w.heap.size w w'))->
       ∃ u X2,e=.returned u/\Rel F X2 w' s u/\Step F own w h X2 w':=by
      rintro e w' (⟨s',u,X2,rfl,rfl,m2,m3,m4,m5,m6⟩ | ⟨x',m1,_⟩);rw[hz,ali]at m2;rw[CO 3 _ _ hz]at m4;refine⟨u,X2,rfl,m4,m2,m3,λid W O=>?_⟩;cases ho:X2 id with
      |none=>rfl|some hd=>rw[m6 id (m2.dom id hd ho),W]at ho;cases ho
      exact m1.elim
     refine⟨trivial,?_,λK Q X=>?_⟩;obtain⟨e,w',fr,hR,_⟩:=k2 [];obtain⟨u,X2,_,m1,m2⟩:=key hR;exact⟨u,X2,w',m1,m2⟩;rw[O,k1];refine⟨λh=>(by cases h),?_⟩;refine CallsIn.mono (oy k2) λe w' hR=>?_;obtain⟨u,X2,rfl,m1,m2⟩:=key hR;exact X u X2 w' m1 m2
    obtain⟨k1,k2⟩:=Uv (P:=P) hG hp hn W hcc hc hres;have key:∀ {e:Ending} {w':World},((∃ s' u,∃ X2:Ob->Own,dZ (.det p s) s'/\e=.returned u/\∀ Y,a6 3 s'=[Y]->Rel F (X2 Y) w' (jp 3 nx s') u/\Step F own w (bf h [(nx,Y)]) (X2 Y) w')\/(∃ x,kZ (.det p s) x/\e=.panicked [{ v:=x,recovered:=false}]/\Below w.heap.size w w'))->
      ∃ u X2,e=.returned u/\Rel F X2 w' (jp 3 nx s) u/\Step F own w (bf h [(nx,Y)]) X2 w':=by
     rintro e w' (⟨s',u,X2,rfl,rfl,m2⟩ | ⟨x',m1,_⟩);grind
     exact m1.elim
    refine⟨trivial,?_,λK Q X=>?_⟩;obtain⟨e,w',fr,hR,_⟩:=k2 [];obtain⟨u,X2,_,m1,m2⟩:=key hR;grind
    rw[O,k1];refine⟨λh=>(by cases h),?_⟩;refine CallsIn.mono (oy k2) λe w' hR=>?_;obtain⟨u,X2,rfl,m1,m2⟩:=key hR;grind
 |bad=>grind [jR]|_=>simp[jR]at hr
end
theorem zh (ups:List Up):∀ h:List Ob,h.length<=(bf h ups).length:=by
 induction ups with
 |nil=>intro h;exact ak2 _
 |cons x r E=>
  intro h;obtain⟨id,o⟩:=x;refine ald ?_ (E (cL h id o));grind [cI]
theorem IH {id:Nat}:∀ {ups:List Up} {h:List Ob},id∈ft ups->id< (bf h ups).length
 |(i,o)::r,h,E=>by
  simp only[ft,ala]at E;simp only[bf];by_cases hr:id∈ft r
  exact IH hr;have e:id=i:=E.resolve_right hr;subst e;refine ale ?_ (zh r _);grind [cI]
theorem pA {id:Nat}:∀ {ups:List Up} {h:List Ob},id ∉ ft ups->ap (bf h ups) id=ap h id
 | [],h,_=>rfl
 |(i,o)::r,h,E=>by
  simp only[ft,ala,not_or]at E;simp only[bf];rw[pA E.2,dG,if_neg (λe=>E.1 e.symm)]
theorem II {id:Nat}:∀ {ups:List Up} {h h':List Ob},id∈ft ups->ap (bf h ups) id=ap (bf h' ups) id
 |(i,o)::r,h,h',E=>by
  simp only[ft,ala]at E;simp only[bf];by_cases hr:id∈ft r
  exact II hr;simp_all [pA,dG]
theorem Uw {cx:Cx}(E:ap cx.st.h cx.nx=.dead){op:Op}(V:zU op=true){c a:Prop}{ups:List Up}{s:SV}(h:opS cx op=.eff c a ups s)(id:Nat):apQ (ap cx.st.h id) (ap (bf cx.st.h ups) id):=by
 cases op with
 |mapEntry t m k=>
  simp only[opS]at h;unfold aQ at h;cases ht:cx.ts t with
  |none=>grind
  |some ti=>
   rw[ht]at h;change yi ti cx.nx cx.st.h (val cx k) (val cx m)=_ at h;unfold yi at h;split at h
   rename_i i _;unfold RR at h;split at h
   rename_i kk O l X W;cases Y:lw kk ti.mkt&&lw O ti.mvt&&noE X with
   |false=>grind
   |true=>
    rw[Y]at h;simp only[cond_true]at h;unfold RQ at h;split at h
    cases h;simp only[bf];rw[dG];split
    rename_i e;subst e;exact .inr (.inl ⟨kk,O,l,_,_,W,rfl⟩);rw[dG];split
    rename_i e;subst e;exact .inr (.inr ⟨.inl E,.inr rfl⟩);exact .refl _;cases h
   cases h;cases h
 |_=>cases V
theorem Ke {o:Op}(O:zU o=true){cx:Cx}{f:FuncId}{args:List SV}(h:opS cx o=.call f args):False:=by
 cases o with
 |mapEntry t m x=>
  simp only[opS]at h;unfold aQ at h;cases E:cx.ts t with
  |none=>grind
  |some ti=>
   rw[E]at h;change yi ti cx.nx cx.st.h (val cx x) (val cx m)=_ at h;unfold yi at h;split at h
   rename_i i _;unfold RR at h;split at h
   rename_i kk W l V Y;cases X:lw kk ti.mkt&&lw W ti.mvt&&noE V with
   |false=>grind
   |true=>
    rw[X]at h;simp only[cond_true]at h;unfold RQ at h;grind
   cases h;cases h
 |_=>cases O
theorem Ux {G:Cons}{h:List Ob}{nx:Nat}{E:OR}{r:Dr}(hr:jR G h nx E=some r)(hn:∀ c a ups s,E≠ .eff c a ups s)(hc:∀ f args,E≠ .call f args):r.ups=[]:=by
 cases E with
 |eff c a ups s=>grind|call f args=>grind
 |_=>simp only[jR]at hr;first|(cases hr;rfl) |cases hr
theorem O9 {ts:Tis}{G:Cons}{ops:List Oper}{K:St->Prop}{Z:Value->St->Prop}{o:Oper}{rest:List Oper}{i b:Nat}{E:List Fp}{st:St}(h:jV ts G ops K Z (o::rest) i b E st):
  (∃ r,jR G st.h st.h.length (opS ⟨ts,ops,o.guard,st,st.h.length⟩ o.op)=some r/\
   (o.guard=none->r.c/\(r.a->jV ts G ops K Z rest (i+1) b (E++[fpU o.op (fpO ⟨ts,ops,o.guard,st,st.h.length⟩ o.op) r.all r.ups]) (St.put ⟨st.t,bf st.h r.ups⟩ o.dst r.s)))/\
   (∀ g,o.guard=some g->(dU ops st.t ops.length g->r.c)/\((r.ups=[]/\jV ts G ops K Z rest (i+1) b (E++[fpU o.op (fpO ⟨ts,ops,o.guard,st,st.h.length⟩ o.op) r.all []]) (st.put o.dst (.gd g.1 g.2 r.s)))\/
    (¬ (dU ops st.t ops.length g/\gq ops st.t ops.length g)/\(dU ops st.t ops.length g->r.a->jV ts G ops K Z rest (i+1) b (E++[fpU o.op (fpO ⟨ts,ops,o.guard,st,st.h.length⟩ o.op) r.all r.ups]) (St.put ⟨st.t,bf st.h r.ups⟩ o.dst (.gd g.1 g.2 r.s)))/\
     (gq ops st.t ops.length g->jV ts G ops K Z rest (i+1) b (E++[fpU o.op (fpO ⟨ts,ops,o.guard,st,st.h.length⟩ o.op) r.all []]) (st.put o.dst (.gd g.1 g.2 r.s)))))))\/
  (sw ops b E/\En ops i=true/\QN G ops o.dst st (λst'=>jV ts G ops K Z rest (i+1) (i+1) [] st') Z o.guard (opS ⟨ts,ops,o.guard,st,st.h.length⟩ o.op)):=by
 simp only[jV]at h;cases O:o.guard with
 |none=>
  rw[O]at h;simp only at h;cases hd:jR G st.h st.h.length (opS ⟨ts,ops,none,st,st.h.length⟩ o.op)with
  |none=>rw[hd]at h;exact .inr h
  |some r=>
   rw[hd]at h;exact .inl ⟨r,rfl,λ_=>h,λg e=>by cases e⟩
 |some g=>
  rw[O]at h;simp only at h;cases hd:jR G st.h st.h.length (opS ⟨ts,ops,some g,st,st.h.length⟩ o.op)with
  |none=>rw[hd]at h;exact .inr h
  |some r=>
   grind [wP,drG]
section
variable {P:Program}{F:Nat->Prop}{own ee:Own}{w w':World}{ts:Tis}
variable {w0:Bs}{ro:Option Nat}{nd:Nat}{N n:Nat}{ops:List Oper}{st:St}{a:Act}{G:Cons}
def QR {nx:Nat}{E:Nat->Prop}(W:ts.ok P)(hi:ao2 F w0 N ops E own st a w)(hn:apB own st.h nx){o:Oper}(O:GOk ops a o.guard)(V:∀ k c,o.guard=some (k,c)->E k/\mY ops k):
  Me P F own w st.h ((execOp a.eval o).run P w) (opS ⟨ts,ops,o.guard,st,nx⟩ o.op):=
 OX (P:=P) (ts:=ts) (ops:=ops) (g:=o.guard) (t:=st.t) (h:=st.h) (nx:=nx) W hi.hp hn (a:=a) (o:=o) (J1 hi O V) (λc x y _=>⟨λhc=>xP hi O V c x true hc,λhc=>xP hi O V c y false hc⟩)
theorem O_ {α:Type}(f:Nat->α)(m:Nat):(List.range (m+1)).map f=f 0::(List.range m).map (λi=>f (i+1)):=by
 rw[List.range_succ_eq_map];simp_all
theorem sim (hts:ts.ok P)(hG:aot P G)(hr:ROk N ops){K:St->Prop}{Z:Value->St->Prop}:∀ (rest:List Oper) (n:Nat) (own:Own) (st:St) (a:Act) (w:World) (b:Nat) (W:List Fp),ops.drop n=rest->ao2 F w0 N ops (· <n) own st a w->jV ts G ops K Z rest n b W st->
  ∃ (m:Nat) (S:Nat->St) (s:Nat->SV) (ups:Nat->List Up) (fs:Nat->Fp) (R:Nat->Dr),S 0=st/\ao0 ts G ops n m S s ups fs R/\sw ops b (W++(List.range m).map fs)/\X8 ts G ops K Z (n+m) (S m)
 | [],n,own,st,a,w,b,W,hd,hi,hx=>by
  have hn:ops.length<=n:=by
   simp_all
  exact⟨0,λ_=>st,λ_=>.any,λ_=>[],λ_=>⟨[],[],[],[],[]⟩,λ_=>⟨True,True,.any,[],[]⟩,rfl,⟨λi h=>by omega⟩,by simpa using hx.1,.inl ⟨hn,hx.2⟩⟩
 |o::rest,n,own,st,a,w,b,W,hd,hi,hx=>by
  obtain⟨Y,hd'⟩:=EU hd;have E:∀ j b,o.guard=some (j,b)->j<n:=λj b e=>hr.lt n o j b Y e;rcases O9 hx with⟨r,h1,h2,h3⟩ | ⟨h1,h2,h3⟩
  ·
   have V:∀ (s:SV) (ups:List Up) (ee:Own) (a':Act) (w':World),(o.guard=none->r.c/\s=r.s/\ups=r.ups)->(∀ g,o.guard=some g->(dU ops st.t ops.length g->r.c)/\((r.ups=ups/\s=.gd g.1 g.2 r.s/\(ups=[]\/¬gq ops st.t ops.length g))\/(ups=[]/\s=.gd g.1 g.2 r.s/\¬dU ops st.t ops.length g)))->
     ao2 F w0 N ops (· <n+1) ee (St.put ⟨st.t,bf st.h ups⟩ o.dst s) a' w'->jV ts G ops K Z rest (n+1) b (W++[fpU o.op (fpO ⟨ts,ops,o.guard,st,st.h.length⟩ o.op) r.all ups]) (St.put ⟨st.t,bf st.h ups⟩ o.dst s)->
     ∃ (m:Nat) (S:Nat->St) (s:Nat->SV) (ups:Nat->List Up) (fs:Nat->Fp) (R:Nat->Dr),S 0=st/\ao0 ts G ops n m S s ups fs R/\sw ops b (W++(List.range m).map fs)/\X8 ts G ops K Z (n+m) (S m):=by
    intro s ups ee a' w' q1 q2 q3 q4;obtain⟨m,S,s',ups',fs,R,e0,e1,e2,e3⟩:=sim hts hG hr rest (n+1) ee _ a' w' b _ hd' q3 q4;refine⟨m+1,λi=>match i with|0=>st|i+1=>S i,λi=>match i with|0=>s|i+1=>s' i,λi=>match i with|0=>ups|i+1=>ups' i,λi=>match i with|0=>fpU o.op (fpO ⟨ts,ops,o.guard,st,st.h.length⟩ o.op) r.all ups|i+1=>fs i,λi=>match i with|0=>r|i+1=>R i,rfl,⟨λi hi=>?_⟩,?_,?_⟩;cases i with
    |zero=>exact⟨o,Y,⟨h1,e0,rfl,q1,q2⟩⟩
    |succ i=>
     obtain⟨o',k1,k2⟩:=e1.fact i (by omega);grind
    grind [O_]
    grind
   by_cases X:GOk ops a o.guard
   ·have hrun:=QR hts hi hi.hp.nx X (λk c e=>⟨E k c e,n,o,c,Y,e⟩);have hc:r.c:=by
     cases O:o.guard with
     |none=>grind
     |some g=>exact(h3 g O).1 (uE hi n (λ_ _ _ _ _ _ _ _=>rfl) hr.lt _ g (E g.1 g.2 O) (E g.1 g.2 O) ⟨n,o,g.2,Y,O⟩ (by grind))
    obtain⟨ha,⟨u,ee,w',k1,k2⟩,_⟩:=ZI (ro:=none) (nd:=0) (a:=a) (o:=o) hG hi.hp hi.hp.nx hrun h1 hc;have hstep:=hi.apJ hr (tR n) (al8 n) Y E X k2.hp k2.fr k1;cases O:o.guard with
    |none=>exact V r.s r.ups ee _ w' (λ_=>⟨hc,rfl,rfl⟩) (λg e=>by grind) hstep.1 ((h2 O).2 ha)
    |some g=>
     have h3':=h3 g O;rcases h3'.2 with⟨e0,hx⟩ | ⟨nb,hP,_⟩;refine V (.gd g.1 g.2 r.s) [] ee (a.put o.dst u) w' (λe=>by grind) (λg' e=>by grind) ?_ hx;grind
     have hPp:=uE hi n (λ_ _ _ _ _ _ _ _=>rfl) hr.lt ops.length g (E g.1 g.2 O) (E g.1 g.2 O) ⟨n,o,g.2,Y,O⟩ (by grind);exact V (.gd g.1 g.2 r.s) r.ups ee (a.put o.dst u) w' (λe=>by grind) (λg' e=>by grind) (hstep.2 g O) (hP hPp ha)
   cases O:o.guard with
   |none=>exact absurd (by rw[O];trivial) X
   |some g=>
    have h3':=h3 g O;rcases h3'.2 with⟨e0,hx⟩ | ⟨nb,_,hN⟩;exact V (.gd g.1 g.2 r.s) [] own _ w (λe=>by grind) (λg' e=>by grind) (hi.skip hr (tR n) (al8 n) Y E X O) hx;have hNn:=Bv hi ops.length g (E g.1 g.2 O) ⟨n,o,g.2,Y,O⟩ (by grind);exact V (.gd g.1 g.2 r.s) [] own _ w (λe=>by grind) (λg' e=>by grind) (hi.skip hr (tR n) (al8 n) Y E X O) (hN hNn)
  ·
   exact⟨0,λ_=>st,λ_=>.any,λ_=>[],λ_=>⟨[],[],[],[],[]⟩,λ_=>⟨True,True,.any,[],[]⟩,rfl,⟨λi h=>by omega⟩,by grind,.inr ⟨o,Y,h2,by grind⟩⟩
variable {b m:Nat}{S:Nat->St}{s:Nat->SV}{ups:Nat->List Up}{fs:Nat->Fp}{R:Nat->Dr}
theorem ZJ (st:St)(d:Option Nat)(s:SV):(st.put d s).h=st.h:=by cases d <;>rfl
theorem Pa (st:St)(d:Option Nat)(s:SV)(t:Nat):lk t (st.put d s).t=if d=some t then s else lk t st.t:=by
 cases d with
 |none=>rfl
 |some d=>
  show lk t ((d,s)::st.t)=_;simp_all [px]
theorem ao0.hstep (E:ao0 ts G ops b m S s ups fs R){i:Nat}(hi:i<m):(S (i+1)).h=bf (S i).h (ups i):=by
 obtain⟨o,_,f⟩:=E.fact i hi;rw[f.nxt,ZJ]
theorem ao0.len (E:ao0 ts G ops b m S s ups fs R){i:Nat}:∀ {j:Nat},i<=j->j<=m->(S i).h.length<=(S j).h.length
 |0,h,_=>by
   grind
 |j+1,h,hj=>by
  by_cases e:i=j+1
  grind
  refine ald (ao0.len E (j:=j) (by omega) (by omega)) ?_;rw[E.hstep (by omega)];exact zh _ _
theorem ao0.same (E:ao0 ts G ops b m S s ups fs R){id i:Nat}:∀ {j:Nat},i<=j->j<=m->(∀ k,i<=k->k<j->id ∉ ft (ups k))->ap (S i).h id=ap (S j).h id
 |0,h,_,_=>by
   grind
 |j+1,h,hj,hk=>by
  by_cases e:i=j+1
  subst e;rfl;rw[ao0.same E (j:=j) (by omega) (by omega) (λk h1 h2=>hk k h1 (by omega)),E.hstep (by omega),pA (hk j (by omega) (by omega))]
theorem ao0.like (W:ao0 ts G ops b m S s ups fs R){id i:Nat}:∀ {j:Nat},i<=j->j<=m->(∀ k,i<=k->k<j->id∈(fs k).tc->False)->apQ (ap (S i).h id) (ap (S j).h id)
 |0,h,_,_=>by
   have:i=0:=by omega
   subst this;exact .refl _
 |j+1,h,hj,hk=>by
  by_cases e:i=j+1
  subst e;exact .refl _;refine(ao0.like W (j:=j) (by omega) (by omega) (λk h1 h2=>hk k h1 (by omega))).trans ?_;obtain⟨o,ho,f⟩:=W.fact j (by omega);rw[W.hstep (by omega)];by_cases X:id∈ft (ups j)
  have V:=hk j (by omega) (by omega);rw[f.fp]at V;unfold fpU at V;cases Y:zU o.op with
  |false=>grind
  |true=>
   have e3:ups j=[]\/ups j=(R j).ups:=by
    cases hg:o.guard with
    |none=>exact .inr (f.plain hg).2.2
    |some g=>
     rcases(f.guarded g hg).2 with⟨e,_⟩ | ⟨e,_⟩ <;>grind
   rcases e3 with e3|e3;grind [ft]
   have E:=f.dr;cases O:opS ⟨ts,ops,o.guard,S j,(S j).h.length⟩ o.op with
   |eff c a' ups' s'=>
    rw[O]at E;simp only[jR,ak3]at E;rw[e3,<-E];exact Uw (mW (ak2 _)) Y O id
   |_=>
    rw[O]at E;rw[e3,Ux E (λ_ _ _ _ e=>by cases e) (λf args e=>Ke Y (O.trans e))]at X;simp[ft]at X
  rw[pA X];exact .refl _
end
variable {x y:Fp}
theorem Ms{id:Nat}(h1:id∈x.tc\/id∈x.wt)(h2:id∈y.tc\/id∈y.wt):tK x y=true:=by
 grind [tK,uG]
theorem Uy{id:Nat}(h1:id∈x.rd)(h2:id∈y.tc\/id∈y.wt):tK x y=true:=by
 grind [tK,uG]
theorem Uz{id:Nat}(h1:id∈x.wk)(h2:id∈y.tc):tK x y=true:=by
 grind [tK,uG]
theorem Sv{id:Nat}(h1:id∈x.all)(h2:id∈y.tc\/id∈y.wt):tK x y=true:=by
 grind [tK,uG]
section
variable {P:Program}{F:Nat->Prop}{own ee:Own}{w w':World}{ts:Tis}
variable {w0:Bs}{ro:Option Nat}{nd:Nat}{N n:Nat}{ops:List Oper}{st:St}{a:Act}{G:Cons}
variable {b m:Nat}{S:Nat->St}{s:Nat->SV}{ups:Nat->List Up}{fs:Nat->Fp}{R:Nat->Dr}
theorem ao0.ap0 (E:ao0 ts G ops b m S s ups fs R){i id:Nat}(hi:i<m)(h:id∈ft (ups i)):id∈(fs i).tc\/id∈(fs i).wt:=by
 obtain⟨o,_,f⟩:=E.fact i hi;rw[f.fp];grind [fpU]
theorem ao0.aqk (E:ao0 ts G ops b m S s ups fs R){i id:Nat}(hi:i<m)(h:id∈(fs i).tc):id∈ft (ups i):=by
 obtain⟨o,_,f⟩:=E.fact i hi;rw[f.fp]at h;grind [fpU]
theorem ao0.lt (E:ao0 ts G ops b m S s ups fs R){i id:Nat}(hi:i<m)(h:id∈ft (ups i)):id< (S (i+1)).h.length:=by
 rw[E.hstep hi];exact IH h
theorem ao0.lk (E:ao0 ts G ops b m S s ups fs R)(t:Nat):∀ k,k<=m->(∃ (j:Nat) (q:Oper),j<k/\ops[b+j]? =some q/\q.dst=some t/\Sx.lk t (S k).t=s j)\/((∀ (j:Nat) (q:Oper),j<k->ops[b+j]? =some q->q.dst≠some t)/\Sx.lk t (S k).t=Sx.lk t (S 0).t)
 |0,_=>.inr ⟨λj q h=>by omega,rfl⟩
 |k+1,hk=>by
  obtain⟨o,V,f⟩:=E.fact k (by omega);have O:Sx.lk t (S (k+1)).t=if o.dst=some t then s k else Sx.lk t (S k).t:=by rw[f.nxt,Pa]
  by_cases hd:o.dst=some t
  grind
  rw[if_neg hd]at O;rcases ao0.lk E t k (by omega)with⟨j,q,h1,h2,X,W⟩ | ⟨h1,h2⟩ <;>grind
structure apA (F:Nat->Prop)(w0:Bs)(N:Nat)(ops:List Oper)(b m:Nat)(S:Nat->St)(s:Nat->SV)(ups:Nat->List Up)(listed:Array Bool)(own:Own)(st:St)(a:Act)(w:World):Prop where
 inv:ao2 F w0 N ops (λk=>listed[k]? =some true) own st a w
 size:listed.size=ops.length
 low:∀ k,k<b->k<ops.length->listed[k]? =some true
 high:∀ k,b+m<=k->¬listed[k]? =some true
 put:∀ (k:Nat) (q:Oper) (d:Nat),k<m->listed[b+k]? =some true->ops[b+k]? =some q->q.dst=some d->lk d st.t=s k
 old:∀ t,(∀ (k:Nat) (q:Oper),k<m->listed[b+k]? =some true->ops[b+k]? =some q->q.dst≠some t)->lk t st.t=lk t (S 0).t
 closed:DU ops (λk=>listed[k]? =some true)
 heap:∀ id,∃ p,p<=m/\(∀ k,k<m->id∈ft (ups k)->(listed[b+k]? =some true↔k<p))/\ap st.h id=ap (S p).h id
 dom:∀ id,own id=none\/id< (S 0).h.length\/∃ k,k<m/\listed[b+k]? =some true/\id∈ft (ups k)
variable {listed:Array Bool}
theorem Ah{k:Nat}(h:listed.getD k true=false):listed[k]? =some false:=by
 simp only[alw]at h;grind
theorem Mt{n:Nat}(hn:listed[n]? =some false)(k:Nat):(listed.setIfInBounds n true)[k]? =some true↔listed[k]? =some true\/k=n:=by
 grind
theorem UA {o:Oper}{n:Nat}(h:Operand.tmp n∈o.op.operands.toList):n∈o.looksAt ops.toArray:=by
 grind [Oper.looksAt]
variable {listed:Array Bool}
variable {k:Nat}{o:Oper}
theorem apA.order(hi:apA F w0 N ops b m S s ups listed own st a w)(ho:ops[b+k]? =some o)(X:listed[b+k]? =some false)(hw:∀ j,pl o j=true->listed[j]? =some true){j:Nat}(W:j≠k)(E:Ord ops (b+k) (b+j)):
  (j<k/\listed[b+j]? =some true)\/(k<j/\¬listed[b+j]? =some true):=by
 rcases E with⟨h1,h2⟩ | ⟨h1,h2⟩;left;refine⟨by omega,?_⟩;have:=Kc (ops:=ops) (S:=λi=>listed[i]? =some true\/i=b+k) (λi q j' O Y V=>?_) (.inr rfl) h2;grind
 rcases O with O|rfl;exact .inl (hi.closed i q j' O Y V);grind
 right;refine⟨by omega,λhl=>?_⟩;have:=Kc hi.closed hl h2;grind
theorem apA.obj(hi:apA F w0 N ops b m S s ups listed own st a w)(O:ao0 ts G ops b m S s ups fs R)(hk:k<m)(W:listed[b+k]? =some false){id:Nat}
  (hor:∀ j,j<m->j≠k->id∈ft (ups j)->(j<k/\listed[b+j]? =some true)\/(k<j/\¬listed[b+j]? =some true)):ap (S k).h id=ap st.h id:=by
 obtain⟨p,h1,h2,h3⟩:=hi.heap id;rw[h3];have hnk:¬listed[b+k]? =some true:=by grind
 by_cases E:p<=k
 refine(O.same E (by omega) λj Y V X=>?_).symm;grind
 refine O.same (by omega) h1 λj Y V X=>?_;grind
theorem apA.arh(hi:apA F w0 N ops b m S s ups listed own st a w)(E:ao0 ts G ops b m S s ups fs R)(hk:k<m)(hni:listed[b+k]? =some false){id:Nat}
  (W:∀ j,j<m->j≠k->id∈(fs j).tc->(j<k/\listed[b+j]? =some true)\/(k<j/\¬listed[b+j]? =some true)):apQ (ap (S k).h id) (ap st.h id):=by
 obtain⟨p,h1,h2,h3⟩:=hi.heap id;rw[h3];have hnk:¬listed[b+k]? =some true:=by grind
 by_cases V:p<=k
 refine(E.like V (by omega) λj q1 X O=>?_).symm;rcases W j (by omega) (by omega) O with⟨_,Y⟩ | ⟨h,_⟩;have:=(h2 j (by omega) (E.aqk (by omega) O)).1 Y;omega;omega;refine E.like (by omega) h1 λj q1 X O=>?_;have Y:=(h2 j (by omega) (E.aqk (by omega) O)).2 X;grind
theorem apA.reads(hd:DOk ops)(hi:apA F w0 N ops b m S s ups listed own st a w)(Y:ao0 ts G ops b m S s ups fs R)(hk:k<m)(O:ops[b+k]? =some o)(hni:listed[b+k]? =some false)
  (hw:∀ j,pl o j=true->listed[j]? =some true) {d:Nat} (V:d∈o.looksAt ops.toArray):lk d (S k).t=lk d st.t:=by
 rcases Y.lk d k (by omega)with⟨j,q,h1,h2,X,h4⟩ | ⟨h1,h2⟩;rw[h4];rcases hd.look (b+k) (b+j) o q d O h2 X V with e| ⟨_,e⟩ | ⟨e,_⟩;omega;exact(hi.put j q d (by omega) (hw _ e) h2 X).symm;omega;rw[h2];refine(hi.old d λj q hj hl W E=>?_).symm;rcases hd.look (b+k) (b+j) o q d O W E V with e| ⟨e,_⟩ | ⟨_,e⟩;grind
 grind
 have:listed[b+k]? =some true:=hi.closed _ q _ hl W e;grind
theorem apA.full (hd:DOk ops)(hi:apA F w0 N ops b m S s ups listed own st a w)(hp:ao0 ts G ops b m S s ups fs R)(E:∀ k,k<m->listed[b+k]? =some true):ao2 F w0 N ops (λk=>listed[k]? =some true) own (S m) a w:=by
 have Y:∀ t,lk t (S m).t=lk t st.t:=λt=>by
  rcases hp.lk t m (ak2 _)with⟨j,q,h1,h2,O,W⟩ | ⟨h1,h2⟩;rw[W];exact(hi.put j q t h1 (E j h1) h2 O).symm;rw[h2];exact(hi.old t λk q hk _ hq=>h1 k q hk hq).symm
 have X:∀ id,ap (S m).h id=ap st.h id:=λid=>by
  obtain⟨p,h1,h2,O⟩:=hi.heap id;rw[O];refine(hp.same h1 (ak2 _) λj q1 q2 hm=>?_).symm;grind
 refine⟨hi.inv.size,hi.inv.defers,⟨λid hd e=>?_,hi.inv.hp.aoB,hi.inv.hp.apart,hi.inv.hp.inj,hi.inv.hp.lt,λid V=>?_⟩,hi.inv.fr,λt=>by rw[Y];exact hi.inv.slots t,λk o d j b s h1 h2 O W h5=>hi.inv.tags k o d j b s h1 h2 O W (by grind),hi.inv.closed,hi.inv.chain⟩;rcases hi.dom id with h|h| ⟨k,h1,_,h2⟩;grind
 exact ale h (hp.len (alB _) (ak2 _));exact ale (hp.lt h1 h2) (hp.len (by omega) (ak2 _));rw[X]at V |-;exact hi.inv.hp.obs id V
theorem apA.start (hi:ao2 F w0 N ops (· <b) own (S 0) a w)(W:listed.size=ops.length)(Y:∀ k,k<ops.length->(listed[k]? =some true↔k<b))(hr:ROk N ops)(X:∀ (i:Nat) (o:Oper) (j:Nat),ops[i]? =some o->pl o j=true->j<i):apA F w0 N ops b m S s ups listed own (S 0) a w:=by
 have hE:∀ k,listed[k]? =some true->k<b:=λk h=>(Y k (by grind)).1 h;have E:∀ {k:Nat},¬listed[b+k]? =some true:=λ{k} h=>by grind
 refine⟨⟨hi.size,hi.defers,hi.hp,hi.fr,λt=>?_,λk o d j O s h1=>hi.tags k o d j O s (hE k h1),λk o j O h1 h2 h3=>?_,λk o O h1=>hi.chain k o O (hE k h1)⟩,W,λk h1 h2=>(Y k h2).2 h1,λk h1 h2=>by grind,λk q d _ h=>absurd h E,λt _=>rfl,λi o j h1 h2 h3=>?_,λid=>⟨0,alB _,λk hk _=>⟨λh=>absurd h E,λh=>by omega⟩,rfl⟩,λid=>?_⟩;have h:=hi.slots t;cases hs:lk t (S 0).t with
 |gd j O s'=>
  rw[hs]at h;obtain⟨q1,⟨i,o,b2,V,q3⟩,q4⟩:=h;have hlt:=(ak4.1 V).1;have:=hr.lt i o j b2 V q3;exact⟨(Y j (by omega)).2 q1,⟨i,o,b2,V,q3⟩,q4⟩
 |_=>rw[hs]at h;exact h
 have hlt:=(ak4.1 h2).1;have:=hr.lt k o j O h2 h3;grind
 grind
 cases ho:own id with
 |none=>grind|some hd=>exact .inr (.inl (hi.hp.dom id hd ho))
end
variable {r:Dr}
theorem X9{np:Bool}{rd:List Nat}{nx:Nat}{p:Prop}{s:SV}{rows:List Ob}(h:drR np rd nx p s rows=some r):r.all=rd:=by
 match rows,h with
 | [],h=>grind [drR]| [ob],h=>grind [drR]|_::_::_,h=>simp[drR]at h
variable {h:List Ob}{E:OR}
theorem X_{G:Cons}{nx nx':Nat}(hr:jR G h nx E=some r)(hn:¬nx∈ft r.ups\/∀ f args,E≠ .call f args):jR G h nx' E=some r:=by
 cases E with
 |call f args=>
  have hn:=hn.resolve_right (λh=>h f args rfl);simp only[jR]at hr |-;cases hc:G.p f (args.map (gi h 6))with
  |none=>rw[hc]at hr;cases hr
  |some c=>
   rw[hc]at hr;cases c with
   |rel=>cases hr|may=>cases hr
   |det p s=>
    simp only[drC]at hr |-;generalize a6 3 s=rows at hr |-;match rows,hr with
    | [],hr=>exact hr
    | [ob],hr=>
     grind [drR,ft]
    |_::_::_,hr=>simp[drR]at hr
 |_=>exact hr
def Mu {f:SV->List Nat}{l:List SV}{x:SV}{id:Nat}(O:x∈l)(E:id∈f x):id∈l.flatMap f:=amk.2 ⟨x,O,E⟩
variable {h':List Ob}
theorem UB:∀ (n:Nat) (s:SV),(∀ id,id∈kB h n s->ap h id=ap h' id)->gi h n s=gi h' n s:=by
 intro n;induction n with
 |zero=>intro s E;cases s <;>first|rfl|(simp only[gi];rw[E _ (by simp[kB])])
 |succ n Y=>
  intro s E;have O:∀ (l:List SV),(∀ id,id∈l.flatMap (kB h n)->ap h id=ap h' id)->l.map (gi h n)=l.map (gi h' n):=λl O=>
   List.map_congr_left λx hx=>Y x λid W=>O id (Mu hx W)
  cases s with
  |ptr id off=>
   simp only[gi];rw[<-E id (by simp[kB])];have X:∀ V,(∀ id,id∈RU (kB h n) V->ap h id=ap h' id)->RS (gi h n) off V=RS (gi h' n) off V:=λV X=>by
    cases V with
    |cells l=>simp only[RS,O l X]|_=>rfl
   grind [kB]
  |ep l o=>simp only[gi,O l E]|ls z l=>simp only[gi,O l E]|agg l=>simp only[gi,O l E]|tup l=>simp only[gi,O l E]|fn f l l2=>grind [gi,kB]
  |_=>first|rfl|(simp only[gi];rw[E _ (by simp[kB])])
theorem E4 {f g:SV->List Nat}:∀ (l:List SV),(∀ x,x∈l->f x=g x)->l.flatMap f=l.flatMap g
 | [],_=>rfl
 |a::r,h=>by rw[alp,alp,h a (by simp),E4 r λx E=>h x (by simp[E])]
theorem UC:∀ (n:Nat) (s:SV),(∀ id,id∈kB h n s->ap h id=ap h' id)->kB h n s=kB h' n s:=by
 intro n;induction n with
 |zero=>intro s W;cases s <;>rfl
 |succ n Y=>
  intro s W;have V:∀ (l:List SV),(∀ id,id∈l.flatMap (kB h n)->ap h id=ap h' id)->l.flatMap (kB h n)=l.flatMap (kB h' n):=λl V=>
   E4 l λx hx=>Y x λid O=>V id (Mu hx O)
  cases s with
  |ptr id off=>
   simp only[kB];rw[<-W id (by simp[kB])];have X:∀ E,(∀ id,id∈RU (kB h n) E->ap h id=ap h' id)->RU (kB h n) E=RU (kB h' n) E:=λE X=>by
    cases E with
    |cells l=>exact V l X|_=>rfl
   grind [kB]
  |ep l o=>grind [kB]|ls z l=>grind [kB]|agg l=>grind [kB]|tup l=>grind [kB]|fn f l l2=>grind [kB]|_=>rfl
theorem Pb{G:Cons}{nx:Nat}(V:∀ id,id∈r.all->ap h id=ap h' id)(hr:jR G h nx E=some r):jR G h' nx E=some r:=by
 cases E with
 |call f args=>
  have O:r.all=args.flatMap (kB h 6):=by
   simp only[jR]at hr;cases hc:G.p f (args.map (gi h 6))with
   |none=>rw[hc]at hr;cases hr
   |some c=>
    rw[hc]at hr;cases c with
    |rel=>cases hr|may=>cases hr
    |det p s=>
     grind [X9,drC]
  grind [List.map_congr_left,UB,UC,jR]
 |_=>exact hr
theorem aa0 (o:Op)(x:List Nat×List Nat)(all:List Nat)(ups:List Up):(fpU o x all ups).rd=x.1/\(fpU o x all ups).wk=x.2/\(fpU o x all ups).all=all:=by
 grind [fpU]
section
variable {P:Program}{F:Nat->Prop}{own ee:Own}{w w':World}{ts:Tis}
variable {w0:Bs}{ro:Option Nat}{nd:Nat}{N n:Nat}{ops:List Oper}{st:St}{a:Act}{G:Cons}
variable {b m:Nat}{S:Nat->St}{s:Nat->SV}{ups:Nat->List Up}{fs:Nat->Fp}{R:Nat->Dr}{listed:Array Bool}
theorem apA.op (hd:DOk ops)(hi:apA F w0 N ops b m S s ups listed own st a w)(hp:ao0 ts G ops b m S s ups fs R)(arR:sw ops b ((List.range m).map fs)){k:Nat}{o:Oper}(X:k<m)(ho:ops[b+k]? =some o)(O:listed[b+k]? =some false)
  (hw:∀ j,pl o j=true->listed[j]? =some true) (hsk:(R k).ups=ups k):∃ nx,apB own st.h nx/\jR G st.h nx (opS ⟨ts,ops,o.guard,st,nx⟩ o.op)=some (R k):=by
 obtain⟨o',ho',f⟩:=hp.fact k X;rw[ho]at ho';cases ho';have Y:∀ i,i<m->((List.range m).map fs)[i]? =some (fs i):=λi hi=>by simp[hi]
 have W:∀ j,j<m->j≠k->tK (fs k) (fs j)=true->(j<k/\listed[b+j]? =some true)\/(k<j/\¬listed[b+j]? =some true):=λj V E hc=>
  hi.order ho O hw E (E2 arR (Y k X) (Y j V) (λe=>E e.symm) hc)
 obtain⟨e1,e2,e3⟩:=aa0 o.op (fpO ⟨ts,ops,o.guard,S k,(S k).h.length⟩ o.op) (R k).all (ups k);rw[<-f.fp]at e1 e2 e3;have hop:opS ⟨ts,ops,o.guard,S k,(S k).h.length⟩ o.op=opS ⟨ts,ops,o.guard,st,(S k).h.length⟩ o.op:=
  Sr (t:=(S k).t) (h:=(S k).h) (t':=st.t) (h':=st.h) o.op (λx hx=>by
    cases x with
    |tmp n=>exact hi.reads hd hp X ho O hw (UA hx)
    |_=>rfl)
   (λid hid=>hi.obj hp X O λj V E hm=>W j V E (Uy (by simp_all) (hp.ap0 V hm)))
   (λid hid=>hi.arh hp X O λj V E hm=>W j V E (Uz (by simp_all) hm))
 have hdr:=f.dr;have hdr2:jR G st.h (S k).h.length (opS ⟨ts,ops,o.guard,S k,(S k).h.length⟩ o.op)=some (R k):=Pb (λid hall=>hi.obj hp X O λj V E hm=>W j V E (Sv (by grind) (hp.ap0 V hm))) hdr;by_cases hm:(S k).h.length∈ft (R k).ups
 refine⟨(S k).h.length,?_,by grind⟩;have hmu:(S k).h.length∈ft (ups k):=by grind
 have hnk:¬listed[b+k]? =some true:=by grind
 refine⟨?_,?_⟩;rcases hi.dom (S k).h.length with h|h| ⟨j,h1,h2,h3⟩;exact h;have:=hp.len (alB k) (by omega);omega;exfalso;have E:j≠k:=λe=>hnk (e▸h2);rcases W j h1 E (Ms (hp.ap0 X hmu) (hp.ap0 h1 h3))with⟨hlt,_⟩ | ⟨_,hl⟩;have:=hp.lt h1 h3;have:=hp.len (i:=j+1) (j:=k) (by omega) (by omega);omega;grind
 obtain⟨p,h1,h2,h3⟩:=hi.heap (S k).h.length;rw[h3];refine mW ?_;have:¬k<p:=λh=>hnk ((h2 k X hmu).2 h);exact hp.len (by omega) (by omega);refine⟨st.h.length,hi.inv.hp.nx,?_⟩;rw[aaZ (nx':=st.h.length) hop.symm ?_];grind [X_]
 grind [jR]
theorem apA.next (hd:DOk ops)(hi:apA F w0 N ops b m S s ups listed own st a w)(hp:ao0 ts G ops b m S s ups fs R)(Y:sw ops b ((List.range m).map fs)){k:Nat}{o:Oper}(hk:k<m)(ho:ops[b+k]? =some o)(X:listed[b+k]? =some false)
  (hw:∀ j,pl o j=true->listed[j]? =some true) {a':Act} (hinv:ao2 F w0 N ops (λj=>(listed.setIfInBounds (b+k) true)[j]? =some true) ee (St.put ⟨st.t,bf st.h (ups k)⟩ o.dst (s k)) a' w')
  (hfr:∀ id,own id=none->dL (ap (bf st.h (ups k)) id)=true->ee id=none):
  apA F w0 N ops b m S s ups (listed.setIfInBounds (b+k) true) ee (St.put ⟨st.t,bf st.h (ups k)⟩ o.dst (s k)) a' w':=by
 have O:∀ i,i<m->((List.range m).map fs)[i]? =some (fs i):=λi hi=>by simp[hi]
 have hor:∀ j,j<m->j≠k->tK (fs k) (fs j)=true->(j<k/\listed[b+j]? =some true)\/(k<j/\¬listed[b+j]? =some true):=λj hj E hc=>
  hi.order ho X hw E (E2 Y (O k hk) (O j hj) (λe=>E e.symm) hc)
 have V:=Mt X;have hnk:¬listed[b+k]? =some true:=by grind
 refine⟨hinv,by simp[hi.size],λj h1 h2=>(V j).2 (.inl (hi.low j h1 h2)),λj h1 h2=>?_,λj q d h1 h2 W h4=>?_,λt ht=>?_,λi q j h1 h2 W=>?_,λid=>?_,λid=>?_⟩;rcases(V j).1 h2 with h|h;exact hi.high j h1 h;omega;rw[Pa];rcases(V _).1 h2 with h|h;have E:o.dst≠some d:=λe=>by
  have:=hd.uniq (b+k) (b+j) o q d ho W e h4;grind
 rw[if_neg E];exact hi.put j q d h1 h W h4;grind
 have E:o.dst≠some t:=ht k o hk ((V _).2 (.inr rfl)) ho;rw[Pa,if_neg E];exact hi.old t λj q h1 h2 W=>ht j q h1 ((V _).2 (.inl h2)) W;rcases(V i).1 h1 with h|rfl;exact(V j).2 (.inl (hi.closed i q j h h2 W));grind
 rw[ZJ];by_cases hm:id∈ft (ups k)
 refine⟨k+1,by omega,λj hj hmj=>?_,?_⟩;rw[V];by_cases e:j=k
 omega;rcases hor j hj e (Ms (hp.ap0 hk hm) (hp.ap0 hj hmj))with⟨h1,h2⟩ | ⟨h1,h2⟩ <;>grind;rw[hp.hstep hk];exact II hm;obtain⟨p,h1,h2,W⟩:=hi.heap id;grind [pA]
 ·by_cases hno:own id=none
  by_cases hm:id∈ft (ups k)
  grind
  left;refine hfr id hno ?_;rw[pA hm];cases hdd:dL (ap st.h id)with
  |true=>rfl
  |false=>obtain⟨hdx,e,_⟩:=hi.inv.hp.obs id hdd;grind
  rcases hi.dom id with h|h| ⟨j,h1,h2,W⟩ <;>grind
variable {Q:Exit->Act->World->Prop}{Z:Value->St->Prop}
theorem Ya(hts:ts.ok P)(hG:aot P G)(hr:ROk N ops)(hd:DOk ops){K:St->Prop}
  (hZ:∀ x own st a w,aos F w0 N own st a w->Z x st->Q (.panic [{ v:=x,recovered:=false}]) a w)
  (hK:∀ own st a w,ao2 F w0 N ops (· <ops.length) own st a w->K st->Q .normal a w):
  ∀ (V:Nat) (listed:Array Bool) (own:Own) (st:St) (a:Act) (w:World) (b m:Nat) (S:Nat->St) (s:Nat->SV) (ups:Nat->List Up) (fs:Nat->Fp) (R:Nat->Dr),
  apA F w0 N ops b m S s ups listed own st a w->ao0 ts G ops b m S s ups fs R->sw ops b ((List.range m).map fs)->X8 ts G ops K Z (b+m) (S m)->listed.toList.count false<=V->wpAnyIn (rd ro) nd P .any ops.toArray Q V listed a w:=by
 have hback:∀ (i:Nat) (o:Oper) (j:Nat),ops[i]? =some o->pl o j=true->j<i:=λi o j W hj=>by
  unfold pl at hj;rw[al4]at hj;obtain⟨e,he,hje⟩:=hj;simp only[akZ]at hje;have:=hd.back i o e W (by grind) hje.2;simp_all
 have hdone:∀ (listed:Array Bool) (own:Own) (st:St) (a:Act) (w:World) (b m:Nat) (S:Nat->St) (s:Nat->SV) (ups:Nat->List Up) (fs:Nat->Fp) (R:Nat->Dr),
   apA F w0 N ops b m S s ups listed own st a w->ao0 ts G ops b m S s ups fs R->X8 ts G ops K Z (b+m) (S m)->(∀ k,k<ops.length->listed[k]? =some true)->Q .normal a w:=by
  intro listed own st a w b m S s ups fs R hi hp he E;rcases he with⟨_,hk⟩ | ⟨o,W,_⟩;refine hK own (S m) a w ((hi.full hd hp λk hk=>?_).congr λk=>⟨λh=>by have:=(amh.1 h).1;rw[hi.size]at this;exact this,E k⟩) hk;obtain⟨o,W,_⟩:=hp.fact k hk;grind
  exact absurd (E _ (ak4.1 W).1) (hi.high _ (ak2 _))
 have hready:∀ (listed:Array Bool),listed.size=ops.length->Region.ready .any ops.toArray listed=[]->∀ k,k<ops.length->listed[k]? =some true:=by
  intro listed hsz aqx k;induction k using Nat.strongRecOn with
  |_ k ih=>
   intro hk;have hlk:k<listed.size:=by omega
   cases hb:listed[k]with
   |true=>grind
   |false=>
    exfalso;have:k∈Region.ready .any ops.toArray listed:=by
     rw[mem_ready];refine⟨by simp_all,ops[k],by simp[hk],λe he hbe=>?_⟩;have hlt:=hd.back k ops[k] e (alb hk) he hbe;simp_all <;>grind
    grind
 intro V;induction V with
 |zero=>
  intro listed own st a w b m S s ups fs R hi hp X he hc;have E:∀ k,k<ops.length->listed[k]? =some true:=by
   intro k hk;have hlk:k<listed.size:=by rw[hi.size];exact hk
   cases hb:listed[k]with
   |true=>grind
   |false=>
    grind [List.count_pos_iff]
  refine⟨?_,hdone _ _ _ _ _ _ _ _ _ _ _ _ hi hp he E⟩;cases hrd:Region.ready .any ops.toArray listed with
  |nil=>rfl
  |cons x xs=>
   exfalso;have hx:x∈Region.ready .any ops.toArray listed:=by grind
   grind [Ah,mem_ready]
 |succ V ih=>
  intro listed own st a w b m S s ups fs R hi hp X he hc;refine⟨λaqx=>hdone _ _ _ _ _ _ _ _ _ _ _ _ hi hp he (hready _ hi.size aqx),λi hmem=>?_⟩;rw[mem_ready]at hmem;obtain⟨h0,o,ho',hedge⟩:=hmem;have W:ops[i]? =some o:=by grind
  have hni:=Ah h0;have hnk:¬listed[i]? =some true:=by grind
  have hil:i<ops.length:=(ak4.1 W).1;have hw:∀ j,pl o j=true->listed[j]? =some true:=by
   intro j hj;unfold pl at hj;simp_all <;>grind
  have hE:=Mt hni;have hgE:∀ j b,o.guard=some (j,b)->listed[j]? =some true:=by
   intro j b O;have hrf:mY ops j:=⟨i,o,b,W,O⟩;obtain⟨q,d,h1,h2,h3⟩:=hr.uniq j hrf;have hlt:=hr.lt i o j b W O;have hm:d∈o.looksAt ops.toArray:=by
    grind [Oper.looksAt]
   rcases hd.look i j o q d W h1 h2 hm with e| ⟨_,e⟩ | ⟨e,_⟩ <;>grind
  have hcnt:(listed.setIfInBounds i true).toList.count false<=V:=by
   grind
  have hclS:DU ops (λj=>listed[j]? =some true\/j=i):=λj q j' hS hq hj'=>by
   rcases hS with hS|rfl;exact .inl (hi.closed j q j' hS hq hj');grind
  have hib:b<=i:=alD λh=>hnk (hi.low i (by omega) hil);by_cases hlt:i<b+m
  ·
   obtain⟨k,rfl⟩:∃ k,i=b+k:=⟨i - b,by omega⟩;have hk:k<m:=by omega
   obtain⟨o',ho2,f⟩:=hp.fact k hk;rw[W]at ho2;cases ho2;have hlk:∀ (j:Nat) (q:Oper) (d:Nat),j<b+k->listed[j]? =some true->mY ops j->ops[j]? =some q->q.dst=some d->lk d (S k).t=lk d st.t:=λj q d hj hEj hrf hq hqd=>by
    rcases hp.lk d k (by omega)with⟨j',q',h1,h2,h3,h4⟩ | ⟨h1,h2⟩;have:=hd.uniq j (b+j') q q' d hq h2 hqd h3;subst this;rw[h4];exact(hi.put j' q d (by omega) hEj hq hqd).symm;rw[h2];refine(hi.old d λj' q' h3 h4 h5 h6=>?_).symm;have:=hd.uniq j (b+j') q q' d hq h5 hqd h6;grind
   unfold wpOpIn;rw[ho'];by_cases Y:GOk ops a o.guard
   ·have hgP:∀ g,o.guard=some g->dU ops (S k).t ops.length g:=λg O=>
     uE hi.inv (b+k) hlk hr.lt ops.length g (hr.lt _ o g.1 g.2 W O) (hgE g.1 g.2 O) ⟨b+k,o,g.2,W,O⟩ (by grind)
    have hu:ups k=(R k).ups:=by
     cases O:o.guard with
     |none=>exact(f.plain O).2.2
     |some g=>
      rcases(f.guarded g O).2 with⟨e,_⟩ | ⟨_,_,e⟩ <;>grind
    obtain⟨nx,hnx,hdr⟩:=hi.op hd hp X hk W hni hw hu.symm;have hwant:=(mA (ops:=ops) (a:=a) (o:=o)).2 Y;simp only[hwant,if_true];have hrun:=QR hts hi.inv hnx Y (λk' c e=>⟨hgE k' c e,b+k,o,c,W,e⟩);have hc':(R k).c:=by
     cases O:o.guard with
     |none=>exact(f.plain O).1|some g=>exact(f.guarded g O).1 (hgP g O)
    have hnd:∀ c,o.op≠ .defer c:=Bw (cx:=⟨ts,ops,o.guard,st,nx⟩) (λe=>by grind [jR]);obtain⟨_,_,hcont⟩:=ZI (ro:=ro) (nd:=nd) (a:=a) (o:=o) hG hi.inv.hp hnx hrun hdr hc';refine⟨λ_ _=>trivial,?_⟩;rw[Oper.semAt_eq _ _ _ hnd];refine hcont _ _ λu ee w' apu hst=>?_;have hstep:=hi.inv.apJ hr hE hnk W hgE Y hst.hp hst.fr apu;rw[<-hu]at hstep;refine ih _ ee _ _ w' b m S s ups fs R (hi.next hd hp X hk W hni hw ?_ (λid e1 e2=>hst.fresh id e1 (by grind))) hp X he hcnt;cases O:o.guard with
    |none=>rw[(f.plain O).2.1];exact hstep.1
    |some g=>
     rcases(f.guarded g O).2 with⟨_,e,_⟩ | ⟨_,_,e⟩ <;>grind
   ·have hwant:Region.wanted o (yielded ops.toArray a.tmps)=false:=by
     grind [mA]
    simp only[hwant,ak7,if_false];refine⟨λ_ _=>trivial,?_⟩;cases O:o.guard with
    |none=>exact absurd (by rw[O];trivial) Y
    |some g=>
     have hgN:=EP hi.inv (b+k) hlk hr.lt ops.length g (hr.lt _ o g.1 g.2 W O) (hgE g.1 g.2 O) ⟨b+k,o,g.2,W,O⟩ (by grind);have hu:ups k=[]/\∃ x,s k=.gd g.1 g.2 x:=by
      rcases(f.guarded g O).2 with⟨_,e,h0|h0⟩ | ⟨h0,e,_⟩ <;>grind
     obtain⟨hu,x,hs⟩:=hu;have hsk:=hi.inv.skip (s:=x) hr hE hnk W hgE Y O;refine ih _ own _ _ w b m S s ups fs R (hi.next hd hp X hk W hni hw ?_ (λid e1 _=>e1)) hp X he hcnt;rw[hu,hs];exact hsk
  rcases he with⟨hle,_⟩ | ⟨q,hq,hcut,hx⟩;omega;by_cases hie:i=b+m
  subst hie;rw[W]at hq;cases hq;have E:∀ k,k<m->listed[b+k]? =some true:=λk hk=>by
   obtain⟨ok,hok,_⟩:=hp.fact k hk;rcases E3 hcut (ak4.1 hok).1 (by omega)with⟨_,h⟩ | ⟨h,_⟩;grind [Kc]
   omega
  have hfull:=hi.full hd hp E;have hset:∀ k,(listed.setIfInBounds (b+m) true)[k]? =some true↔k<b+m+1:=λk=>by
   rw[hE];constructor
   rintro (h|h);exact Nat.lt_succ_of_lt (alD λhn=>hi.high k (by omega) h);omega;intro h;by_cases e:k=b+m
   exact .inr e;left;by_cases hkb:k<b
   exact hi.low k hkb (by omega);have:=E (k - b) (by omega);grind
  obtain⟨k1,k2⟩:=QO (ro:=ro) (nd:=nd) hts hG hr hE hnk W hgE hfull hZ hx (K:=wpAnyIn (rd ro) nd P .any ops.toArray Q V (listed.setIfInBounds (b+m) true)) (λown st a w hinv hx=>by
   have hinv':=hinv.congr hset;obtain⟨m',S',s',ups',fs',R',e0,e1,e2,e3⟩:=sim hts hG hr (ops.drop (b+m+1)) (b+m+1) own st a w (b+m+1) [] rfl hinv' hx;subst e0;exact ih _ own (S' 0) a w (b+m+1) m' S' s' ups' fs' R' (apA.start hinv' (by simp[hi.size]) (λk _=>hset k) hr hback) e1 (by grind) e3 hcnt)
  unfold wpOpIn;rw[ho'];by_cases Y:GOk ops a o.guard
  obtain⟨hnd,k1⟩:=k1 Y;simp only[(mA (ops:=ops) (a:=a) (o:=o)).2 Y,if_true];refine⟨λ_ _=>trivial,?_⟩;grind [Oper.semAt_eq]
  grind [mA]
  exfalso;rcases E3 hcut hil hie with⟨h,_⟩ | ⟨_,h⟩;omega;exact hi.high _ (ak2 _) ((Kc hclS (.inr rfl) h).resolve_right (by omega))
theorem Yb(E:ts.ok P)(hG:aot P G)(hr:ROk N ops)(hd:DOk ops){K:St->Prop}
  (hZ:∀ x own st a w,aos F w0 N own st a w->Z x st->Q (.panic [{ v:=x,recovered:=false}]) a w)
  (Y:∀ own st a w,ao2 F w0 N ops (· <ops.length) own st a w->K st->Q .normal a w) {own:Own} {st:St} {a:Act} {w:World} (hi:ao2 F w0 N ops (· <0) own st a w) (hx:jV ts G ops K Z ops 0 0 [] st):
  wpAnyIn (rd ro) nd P .any ops.toArray Q ops.toArray.size (Array.replicate ops.toArray.size false) a w:=by
 obtain⟨m,S,s,ups,fs,R,X,W,e2,e3⟩:=sim E hG hr ops 0 own st a w 0 [] rfl hi hx;subst X;refine Ya E hG hr hd hZ Y _ _ own (S 0) a w 0 m S s ups fs R (apA.start hi (by simp) (λk hk=>?_) hr λi o j ho V=>?_) W (by grind) e3 ?_;grind
 unfold pl at V;rw[al4]at V;obtain⟨e,he,O⟩:=V;simp only[akZ]at O;have:=hd.back i o e ho (by grind) O.2;simp_all;simp
end
end Go.Sx
end
section
namespace Go.Sx
section
variable {F:Fence}{n:Nat}{P:Program}{b:Frame}{a:Act}{k:List Item}{cs:List Frame}{w:World}{Q:Exit->Act->World->Prop}
def arL (Q:Exit->Act->World->Prop):Exit->Act->World->Prop
 | .goto _,_,_=>False|e,a,w=>Q e a w
variable {c:Code}
theorem n9:step P (lone (b.atR a (.code (.scope c)::k)) cs w)=.next (lone (b.atR a (.code c:: .inScope c::k)) cs w):=
 step_lone_go (by rfl)
theorem Hq:step P (lone (b.atR a (.inScope c::k)) cs w)=.next (lone (b.atR a k) cs w):=
 step_lone_go (by rfl)
theorem Pc(h:c.wpIn F n P (arL Q) a w):(Code.scope c).wpIn F n P Q a w:=by
 intro b k cs Y hb hr;have V:(lone (b.atR a (.code (.scope c)::k)) cs w).fenced P F:=fenced_calm hb hr rfl;obtain⟨e,W,X,O,E⟩:=h b (.inScope c::k) cs Y hb hr;cases e with
 |normal=>exact⟨.normal,W,X,O,.head V n9 (StepsIn.trans E (.one (fenced_calm hb hr rfl) Hq))⟩
 |exit id=>exact⟨.exit id,W,X,O,λk' hk=>.head V n9 (E.1 k' (by simp[exitTo,hk])),λhr' hk=>let ⟨k₁,h1,h2⟩:=E.2 hr' (by grind [exitTo]);⟨k₁,h1,.head V n9 h2⟩⟩
 |goto l=>exact O.elim|ret=>exact⟨_,W,X,O,.of_steps (.one V n9) E⟩|panic ch=>exact⟨_,W,X,O,.of_steps (.one V n9) E⟩|outgrown=>exact⟨_,W,X,O,.of_steps (.one V n9) E⟩
end
open Go.RowKit
section
variable {P:Program}{F:Nat->Prop}{w0:Bs}{ro:Option Nat}{nd:Nat}{ts:Tis}{G:Cons}{L:wc}{N:Nat}
def E5 (F:Nat->Prop)(w0:Bs)(N:Nat)(Q:Ex->St->Prop):Exit->Act->World->Prop
 | .normal,a,w=>∃ F1 own st,(∀ b,F b->F1 b)/\aos F1 w0 N own st a w/\Q .normal st| .exit id,a,w=>∃ F1 own st,(∀ b,F b->F1 b)/\aos F1 w0 N own st a w/\Q (.exit id) st| .ret,a,w=>∃ F1 own st,(∀ b,F b->F1 b)/\aos F1 w0 N own st a w/\Q .ret st| .panic ch,a,w=>∃ x F1 own st,(∀ b,F b->F1 b)/\aos F1 w0 N own st a w/\Q (.pan x) st/\ch=[{ v:=x,recovered:=false}]|_,_,_=>False
variable {Q:Ex->St->Prop}
theorem Yc{F X:Nat->Prop}{w0:Bs}{N:Nat}(h:∀ b,F b->X b):∀ e a w,E5 X w0 N Q e a w->E5 F w0 N Q e a w:=by
 intro e a w V;cases e <;>first|exact V.elim|(obtain⟨O,own,st,W,h1,h2⟩:=V;exact⟨O,own,st,λb E=>W b (h b E),h1,h2⟩) |(obtain⟨x,O,own,st,W,h1,h2,Y⟩:=V;exact⟨x,O,own,st,λb E=>W b (h b E),h1,h2,Y⟩)
def k9 (P:Program)(ro:Option Nat)(N:Nat)(id:Nat)(c:Code)(C:St->Option apc):Prop:=
 ∀ (nd:Nat) (F:Nat->Prop) (w0:Bs) st lc,C st=some lc->lc.pre->∀ own a w,aos F w0 N own st a w->(Code.block id c).wpIn (rd ro) nd P (E5 F w0 N λe st'=>∃ r,lc.post r/\e=lc.ex r/\st'=lc.out r) a w
def ak (P:Program)(ro:Option Nat)(N:Nat)(L:wc):Code->Prop
 | .seq a b=>ak P ro N L a/\ak P ro N L b| .cond _ a b=>ak P ro N L a/\ak P ro N L b| .block id (.loop c) =>k9 P ro N id (.loop c) (L id)| .block id (.rangeFunc f ps a b) =>k9 P ro N id (.rangeFunc f ps a b) (L id)| .block _ c=>ak P ro N L c| .scope c=>ak P ro N L c|_=>True
theorem QS (t:Nat){u:List (Nat×SV)}:∀ l:List (Nat×SV),apV u l->lk t l=.any\/lk t l=lk t u
 | [],_=>.inl rfl
 |(n,s)::r,h=>by
  have O:=QS t r h.2;have e:lk t ((n,s)::r)=bif Nat.beq n t then s else lk t r:=rfl;rw[e];cases E:Nat.beq n t with
  |false=>grind|true=>rw[cond_true,<-ak0 E];exact .inr h.1.symm
theorem uH{W:Ex->St->Prop}(h:∀ e st,Q e st->W e st):∀ e a w,E5 F w0 N Q e a w->E5 F w0 N W e a w:=by
 intro e a w O;cases e <;>first|exact O.elim|(obtain⟨E,own,st,V,h1,h2⟩:=O;exact⟨E,own,st,V,h1,h _ _ h2⟩) |(obtain⟨x,E,own,st,V,h1,h2,X⟩:=O;exact⟨x,E,own,st,V,h1,h _ _ h2,X⟩)
variable {ops:Array Oper}{a:Act}{w:World}
theorem E6(hm:P.follows .mixedOrders=true)(V:ts.ok P)(hG:aot P G){id:Nat}{d:Bool}(hc:c7 N (.region id ops d)=true){st:St}(Y:CG ts G ops d st Q)
  {own:Own}   (hr:aos F w0 N own st a w):(Code.region id ops d).wpIn (rd ro) nd P (E5 F w0 N Q) a w:=by
 simp only[c7,akZ]at hc;obtain⟨h1,h2⟩:=hc;have E:=Ul h1;obtain⟨l⟩:=ops;cases d with
 |false=>
  have O:jq ts G l l st (λst'=>Q .normal (wQ l st')) (λx st'=>Q (.pan x) st'):=Y;refine wpIn_region_list ?_;exact OZ V hG E (λx own st a w h1 h2=>⟨x,F,own,st,λ_ h=>h,h1,h2,rfl⟩) l 0 own st a w rfl (hr.start l λk X=>by omega) O λown st a w hi X=>⟨F,own,_,λ_ h=>h,aos.finish hi,X⟩
 |true=>
  have O:jV ts G l (λst'=>Q .normal (wQ l st')) (λx st'=>Q (.pan x) st') l 0 0 [] st:=Y;have W:=aaY (ops:=l) (by grind);refine wpIn_region_any hm ?_;exact Yb V hG E W (λx own st a w h1 h2=>⟨x,F,own,st,λ_ h=>h,h1,h2,rfl⟩) (λown st a w hi X=>⟨F,own,_,λ_ h=>h,aos.finish hi,X⟩) (hr.drew.start l λk X=>by omega) O
theorem aos.apV{own:Own}{st d:St}(h1:aos F w0 N own st a w)(O:st.h=d.h)(E:Sx.apV st.t d.t):aos F w0 N own d a w:=by
 refine⟨h1.size,h1.defers,O▸h1.hp,h1.fr,λt=>?_⟩;rcases QS t _ E with e|e;rw[e];exact .any _;rw[e];exact h1.slots t
theorem Sw(X:P.follows .mixedOrders=true)(O:ts.ok P)(hG:aot P G){id:Nat}{d:Bool}(hc:c7 N (.region id ops d)=true){st:St}(hx:exec ts G L (.region id ops d) st Q)
  {own:Own}   (hr:aos F w0 N own st a w):(Code.region id ops d).wpIn (rd ro) nd P (E5 F w0 N Q) a w:=by
 have E:Er (CG ts G ops d st) Q (L (id+2000000) st):=hx;cases V:L (id+2000000) st with
 |none=>rw[V]at E;exact E6 X O hG hc E hr
 |some lc=>
  rw[V]at E;refine wpIn_mono (E6 X O hG hc E.1 hr) λe a' w' W=>?_;cases e with
  |normal=>
   obtain⟨Y,ee,st',h0,h1,r,h2,h3,h4⟩:=W;exact⟨Y,ee,_,h0,h1.apV h3 h4,E.2 r h2⟩
  |exit id=>exact W|ret=>exact W|panic ch=>exact W|_=>exact W.elim
theorem rO (hm:P.follows .mixedOrders=true)(hts:ts.ok P)(hG:aot P G):∀ (c:Code),c7 N c=true->ak P ro N L c->∀ (F:Nat->Prop) (st:St) (Q:Ex->St->Prop),exec ts G L c st Q->
  ∀ own a w,aos F w0 N own st a w->c.wpIn (rd ro) nd P (E5 F w0 N Q) a w:=by
 intro c;induction c with
 |skip=>intro _ _ F st Q V own a w hr;exact wpIn_skip ⟨F,own,st,λ_ h=>h,hr,V⟩
 |region id ops d=>intro hc _ F st Q V own a w hr;exact Sw hm hts hG hc V hr
 |seq x y ih1 ih2=>
  intro hc Y F st Q V own a w hr;simp only[c7,akZ]at hc;refine wpIn_seq (wpIn_mono (ih1 hc.1 Y.1 F st _ V own a w hr) ?_);intro e a' w' X;cases e with
  |normal=>obtain⟨F1,ee,st',h0,h1,h2⟩:=X;exact wpIn_mono (ih2 hc.2 Y.2 F1 st' Q h2 ee a' w' h1) (Yc h0)
  |exit id=>exact X|ret=>exact X|panic ch=>exact X|_=>exact X.elim
 |cond c x y ih1 ih2=>
  intro hc Y F st Q V own a w hr;simp only[c7,akZ]at hc;have key:∀ Q:Ex->St->Prop,zW (exec ts G L x st Q) (exec ts G L y st Q) (raw st.t c)->(Code.cond c x y).wpIn (rd ro) nd P (E5 F w0 N Q) a w:=by
   intro Q E;cases c with
   |tmp n=>
    have hs:=hr.slots n;have W:zW (exec ts G L x st Q) (exec ts G L y st Q) (lk n st.t):=E;unfold zW at W;split at W
    rename_i b hb;rw[hb]at hs;have he:a.eval (.tmp n)=.bool b:=cT hs;exact wpIn_cond_split he (λh=>ih1 hc.1 Y.1 F st Q (W.1 h) own a w hr) (λh=>ih2 hc.2 Y.2 F st Q (W.2 h) own a w hr);grind
   |const v=>
    have W:zW (exec ts G L x st Q) (exec ts G L y st Q) (.v v):=E;unfold zW at W;split at W
    rename_i b hb;cases hb;exact wpIn_cond_split (t:=b) rfl (λh=>ih1 hc.1 Y.1 F st Q (W.1 h) own a w hr) (λh=>ih2 hc.2 Y.2 F st Q (W.2 h) own a w hr);grind
   |global g=>exact(E:False).elim|func f=>exact(E:False).elim
  have E:Ep (exec ts G L x st) (exec ts G L y st) Q (raw st.t c) (L (T6 c) st):=V;cases O:L (T6 c) st with
  |none=>rw[O]at E;exact key Q E
  |some lc=>
   rw[O]at E;refine wpIn_mono (key _ E.1) λe a' w' X=>?_;cases e with
   |normal=>
    obtain⟨F1,ee,st',h0,h1,r,h2,h3,h4⟩:=X;exact⟨F1,ee,_,h0,h1.apV h3 h4,E.2 r h2⟩
   |exit id=>obtain⟨_,_,_,_,_,_,_,h⟩:=X;exact h.elim
   |ret=>obtain⟨_,_,_,_,_,_,_,h⟩:=X;exact h.elim
   |panic ch=>obtain⟨_,_,_,_,_,_,⟨_,_,h⟩,_⟩:=X;exact h.elim
   |_=>exact X.elim
 |block id c ih=>
  intro hc Y F st Q V own a w hr;have key:(∀ b,c≠ .loop b)->(∀ f ps a b,c≠ .rangeFunc f ps a b)->(Code.block id c).wpIn (rd ro) nd P (E5 F w0 N Q) a w:=by
   intro hne hne2;have E:exec ts G L c st (Ex.block id Q):=by cases c <;>first|exact V|exact absurd rfl (hne _) |grind
   have hl':ak P ro N L c:=by cases c <;>first|exact Y|exact absurd rfl (hne _) |grind
   refine wpIn_block (wpIn_mono (ih (by grind [c7]) hl' F st _ E own a w hr) ?_);intro e a' w' X;cases e with
   |normal=>exact X|ret=>exact X|panic ch=>exact X
   |exit j=>
    obtain⟨F1,ee,st',h0,h1,h2⟩:=X;have h2':(bif Nat.beq j id then Q .normal st' else Q (.exit j) st'):=h2;show if j=id then _ else _;by_cases hj:j=id
    subst hj;rw[if_pos rfl];simp only[aoi,cond_true]at h2';exact⟨F1,ee,st',h0,h1,h2'⟩;rw[if_neg hj];have:Nat.beq j id=false:=by cases hb:Nat.beq j id <;>simp_all
    rw[this]at h2';exact⟨F1,ee,st',h0,h1,h2'⟩
   |_=>exact X.elim
  cases c with
  |loop b=>
   have E:rI Q (L id st):=V;have hl':k9 P ro N id (.loop b) (L id):=Y;cases O:L id st with
   |none=>rw[O]at E;exact E.elim
   |some lc=>
    rw[O]at E;refine wpIn_mono (hl' nd F w0 st lc O E.1 own a w hr) (uH λe st'=>?_);rintro⟨r,h1,rfl,rfl⟩;exact E.2 r h1
  |rangeFunc f ps b1 b2=>
   have E:rI Q (L id st):=V;have hl':k9 P ro N id (.rangeFunc f ps b1 b2) (L id):=Y;cases O:L id st with
   |none=>rw[O]at E;exact E.elim
   |some lc=>
    rw[O]at E;refine wpIn_mono (hl' nd F w0 st lc O E.1 own a w hr) (uH λe st'=>?_);rintro⟨r,h1,rfl,rfl⟩;exact E.2 r h1
  |_=>exact key (λb h=>by cases h) (λ_ _ _ _ h=>by cases h)
 |exit id=>intro _ _ F st Q V own a w hr;exact wpIn_exit ⟨F,own,st,λ_ h=>h,hr,V⟩
 |ret=>intro _ _ F st Q V own a w hr;exact wpIn_ret ⟨F,own,st,λ_ h=>h,hr,V⟩
 |scope c ih=>intro hc Y F st Q V own a w hr;exact Pc (wpIn_mono (ih hc Y F st Q V own a w hr) λe a w h=>by cases e <;>first|exact h|exact h.elim)
 |label l=>intro _ _ F st Q V own a w hr;exact wpIn_label ⟨F,own,st,λ_ h=>h,hr,V⟩
 |_=>intro _ _ F st Q V;exact(V:False).elim
end
end Go.Sx
end
