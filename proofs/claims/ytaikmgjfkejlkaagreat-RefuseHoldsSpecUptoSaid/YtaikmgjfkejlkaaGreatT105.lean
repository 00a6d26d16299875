/- Part of the proof of the law RefuseHoldsSpec (the Upto form). -/
import Derived.Test.YtaikmgjfkejlkaaGreatT104
import Derived.Deep.LoopGhost
import Derived.Sort.LoopGhostIn
import Derived.RangeFuncLeaves
import Derived.RangeFuncRecord
set_option linter.all false
set_option maxHeartbeats 4000000
set_option maxRecDepth 100000
section
namespace Go.Sx
open Go.RowKit
def HQ (E:List Nat)(j:Nat):∀ (l:List Edge),(PE E l).testBit j=true->∃ e∈l,Region.binds .any e=true/\(j=e.on\/((nth E e.on).getD 0).testBit j=true)
 | [],h=>by simp[PE]at h
 |e::r,h=>by
  simp[PE]at h;cases O:Region.binds .any e with
  |false=>
   rw[O]at h;have⟨e',h1,h2⟩:=HQ E j r h;grind
  |true=>
   rw[O]at h;have h':(((nth E e.on).getD 0|||1<<< e.on) |||PE E r).testBit j=true:=h;rw[Nat.testBit_or,Nat.testBit_or,aqG,aqG]at h';rcases h' with(h'|h') |h';grind
   grind [Nat.testBit_one_eq_true_iff_self_eq_zero]
   have⟨e',h1,h2⟩:=HQ E j r h';grind
def GI (a:List Oper)(S:Nat->Prop):Prop:= ∀ (i:Nat) (o:Oper) (j:Nat),S i->a[i]? =some o->rM o j=true->S j
def UQ {ops:List Oper}{S:Nat->Prop}(V:GI ops S):∀ (l:List Oper) (E:List Nat),ops.drop E.length=l->(∀ i j,i<E.length->S i->((nth E i).getD 0).testBit j=true->S j)->
  ∀ i j,S i->u_ (DL l E) i j=true->S j
 | [],E,hd,W,i,j,hi,O=>by
  grind [gW,DL,u_]
 |o::l,E,hd,W,i,j,hi,O=>by
  have⟨ho,hd'⟩:=HL hd;refine UQ V l (E++[PE E o.after.toList]) XN (λi j hlt hi O=>?_) i j hi O;rw[gW]at O;by_cases h:i<E.length
  exact W i j h hi (by grind [gW]);have:i=E.length:=XN
  subst this;simp at O;have⟨e,h1,h2,h3⟩:=HQ E j _ O;have X:S e.on:=V _ o e.on hi ho (by
   unfold rM;rw[arm];exact⟨e,h1,by simp[h2]⟩)
  grind [gW]
variable {ops:List Oper}{j:Nat}
theorem NK{S:Nat->Prop}(E:GI ops S){i:Nat}(hi:S i)(O:u_ (DL ops []) i j=true):S j:=
 UQ E ops [] rfl (λi j h=>by simp at h) i j hi O
def Ord (a:List Oper)(i j:Nat):Prop:=(j<i/\u_ (DL a []) i j=true)\/(i<j/\u_ (DL a []) j i=true)
theorem HR {E:List Nat}{i:Nat}{x:Fp}:∀ (l:List Fp) (j:Nat),PH E i x j l=true->∀ (k:Nat) (y:Fp),l[k]? =some y->j+k≠i->wi x y=true->(j+k<i/\u_ E i (j+k)=true)\/(i<j+k/\u_ E (j+k) i=true)
 | [],j,_,k,y,O,_,_=>by simp at O
 |z::r,j,h,k,y,O,V,hc=>by
  simp only[PH,ap9]at h;cases k with
  |zero=>
   have h1:=h.1;simp[aqG]at h1;rcases h1 with(h1|h1) |h1 <;>simp_all
  |succ k=>
   have:=HR r (j+1) h.2 k y XN XM hc;grind
theorem HS {E:List Nat}{b:Nat}{all:List Fp}:∀ (l:List Fp) (i:Nat),Ux E b all i l=true->∀ (k:Nat) (x:Fp),l[k]? =some x->PH E (i+k) x b all=true
 | [],i,_,k,x,O=>by simp at O
 |z::r,i,h,k,x,O=>by
  simp[Ux,ap9]at h;cases k with
  |zero=>grind
  |succ k=>
   have:=HS r (i+1) h.2 k x XN;grind
theorem Wx (l:List Nat):wh l []=false:=by
 induction l with
 |nil=>rfl|cons a r E=>simp[wh,FN,E]
theorem xk {n:Nat}:∀ {l m:List Nat},n∈l->n∈m->wh l m=true
 |a::r,m,h1,h2=>by
  simp only[wh];rcases aqg.1 h1 with rfl|h1;rw[(zC n m).2 h2];rfl;rw[xk h1 h2];cases FN a m <;>rfl
theorem L3:∀ {l:List Fp} {k:Nat} {x:Fp},LJ l=true->l[k]? =some x->x.tc=[]/\x.wt=[]
 | [],k,x,_,E=>by simp at E
 |z::r,k,x,h,E=>by
  simp[LJ,ap9]at h;cases k with
  |zero=>grind
  |succ k=>exact L3 h.2 (by simpa using E)
def HT{b:Nat}{E:List Fp}(h:va ops b E){i:Nat}{x y:Fp}(hi:E[i]? =some x)(X:E[j]? =some y)(Y:i≠j)(hc:wi x y=true):Ord ops (b+i) (b+j):=by
 unfold va at h;cases W:LJ E with
 |true=>
  have⟨e1,e2⟩:=L3 W X;grind [wi,Wx]
 |false=>
  rw[W]at h;have h1:=HS E b h i x hi;have h2:=HR E b h1 j y X XM hc;rcases h2 with⟨V,O⟩ | ⟨V,O⟩;exact .inl ⟨V,O⟩;exact .inr ⟨V,O⟩
theorem HU{c:Nat}(h:He ops c=true){i:Nat}(hi:i<ops.length)(V:i≠c):(i<c/\u_ (DL ops []) c i=true)\/(c<i/\u_ (DL ops []) i c=true):=by
 have O:∀ (l:List Oper) (j:Nat),Nj (DL ops []) c j l=true->∀ k,k<l.length->(Nat.beq (j+k) c||(Nat.blt (j+k) c&&u_ (DL ops []) c (j+k)) ||(Nat.blt c (j+k)&&u_ (DL ops []) (j+k) c))=true:=by
  intro l;induction l with
  |nil=>grind
  |cons x r E=>
   intro j h k W;simp only[Nj,ap9]at h;cases k with
   |zero=>exact h.1
   |succ k=>
    have:=E (j+1) h.2 k XN;grind
 have:=O ops 0 h i hi;simp_all
structure Fact (ts:Tis)(G:Cons)(ops:List Oper)(o:Oper)(st st2:St)(s:SV)(ups:List Up)(fp:Fp)(r:Dr):Prop where
 dr:lh G st.h st.h.length (opS ⟨ts,ops,o.guard,st,st.h.length⟩ o.op)=some r
 nxt:st2=St.put ⟨st.t,bu st.h ups⟩ o.dst s
 fp:fp=fpU o.op (fpO ⟨ts,ops,o.guard,st,st.h.length⟩ o.op) r.all ups
 plain:o.guard=none->r.c/\s=r.s/\ups=r.ups
 guarded:∀ g,o.guard=some g->(eb ops st.t ops.length g->r.c)/\((r.ups=ups/\s=.gd g.1 g.2 r.s/\(ups=[]\/¬gN ops st.t ops.length g))\/(ups=[]/\s=.gd g.1 g.2 r.s/\¬eb ops st.t ops.length g))
def act (ts:Tis)(G:Cons)(ops:List Oper)(K:St->Prop)(Z:Value->St->Prop)(e:Nat)(st:St):Prop:=
 (ops.length<=e/\K st)\/∃ o,ops[e]? =some o/\He ops e=true/\UL G ops o.dst st (λst'=>kK ts G ops K Z (ops.drop (e+1)) (e+1) (e+1) [] st') Z o.guard (opS ⟨ts,ops,o.guard,st,st.h.length⟩ o.op)
structure atU (ts:Tis)(G:Cons)(ops:List Oper)(n m:Nat)(S:Nat->St)(s:Nat->SV)(ups:Nat->List Up)(fs:Nat->Fp)(R:Nat->Dr):Prop where
 fact:∀ i,i<m->∃ o,ops[n+i]? =some o/\Fact ts G ops o (S i) (S (i+1)) (s i) (ups i) (fs i) (R i)
section
variable {P:Program}{F:Nat->Prop}{own l5:Own}{w w':World}{ts:Tis}
variable {w0:Bs}{ro:Option Nat}{nd:Nat}{N n:Nat}{ops:List Oper}{st:St}{a:Act}{G:Cons}
theorem Wy (n:Nat)(s:SV)(o:Ob)(h:o∈a6 n s):dT o=false:=by
 rcases(BF n s o h).1 with⟨_,_,rfl⟩ | ⟨_,_,_,rfl⟩ | ⟨_,_,rfl⟩ <;>rfl
variable {h:List Ob}
theorem Tf{l5:Own}(hp:Hp F own w h){nx:Nat}(hn:auv own h nx){s:SV}{u:Value}{ob:Ob}(hrow:a6 3 s=[ob]){F1:Nat->Prop}(hF1:(∀ b,F1 b↔dn F own b)\/((∀ b,F1 b↔F b)/\jQ 3 s=true))(Y:Below w.heap.size w w')(hh:Handed F1 w l5 w' s u):
  ∃ X1,Rel F X1 w' (jN 3 nx s) u/\Step F own w (bu h [(nx,ob)]) X1 w':=by
 have hFF:∀ b,F b->F1 b:=λb hf=>by
  rcases hF1 with h1| ⟨h1,_⟩;exact(h1 b).2 (.inl hf);grind
 have h0:∀ id hd,l5 id=some hd->id=0:=λid hd e=>by
  have:=hh.hp.dom id hd e;grind
 let X1:Own:=λid=>if id=nx then l5 0 else own id
 have o1:∀ id hd,X1 id=some hd->(id≠nx/\own id=some hd)\/(id=nx/\l5 0=some hd):=λid hd e=>by
  grind
 have o2:∀ id hd,own id=some hd->X1 id=some hd:=λid hd e=>by
  simp[X1];rw[if_neg (λh=>by rw[h,hn.none]at e;cases e)];exact e
 have o3:∀ id hd,l5 id=some hd->X1 (id+nx)=some hd:=λid hd e=>by
  grind
 have fr:Fr { w:=w,own:=own} X1 w':=Fr.auk (λid hd e=>⟨hd,o2 id hd e,.refl _⟩) (λid hd b e E=>by
   rcases o1 id hd e with⟨_,e⟩ | ⟨_,e⟩;grind
   exact .inr (hh.fresh _ hd b e E)) (λb hbl _=>Y.block b hbl) Y.size Y.os Y.tape Y.output
 have g:at4 F own w X1 w':=fr.aub;have W:(∀ b,¬dn F1 l5 b->¬dn F X1 b)\/jQ 3 s=true:=by
  rcases hF1 with h1| ⟨_,h2⟩;left;rintro b hn (hf| ⟨id,hd,e,E⟩);exact hn (.inl (hFF b hf));rcases o1 id hd e with⟨_,e⟩ | ⟨_,e⟩;exact hn (.inl ((h1 b).2 (.inr ⟨id,hd,e,E⟩)));exact hn (.inr ⟨_,hd,e,E⟩);grind
 have hob:aq (a6 3 s) 0=ob:=by rw[hrow];rfl
 have hlen:nx< (bu h [(nx,ob)]).length:=by grind [bu,cJ]
 have hle:h.length<=(bu h [(nx,ob)]).length:=by grind [bu,cJ]
 refine⟨X1,?_,⟨λid hd e=>?_,λb hf=>aqi (hp.atu b hf) Y.size,λid hd b e E=>?_,λi j hi hj b V O hb1 hb2=>?_,λid hd b e E=>?_,λid X=>?_⟩,fr,λid V O=>?_⟩;have:=HH (F':=F) (X1:=X1) (m:=nx) o3 3 0 s u hh.val (W.imp (λhk c hc=>hk c λho=>hc (.inl ho)) id);grind
 rcases o1 id hd e with⟨_,e⟩ | ⟨rfl,_⟩;have:=hp.dom id hd e;omega;exact hlen;rcases o1 id hd e with⟨_,e⟩ | ⟨_,e⟩;exact hp.apart id hd b e E;exact λhf=>hh.hp.apart _ hd b e E (hFF b hf);rcases o1 i hi V with⟨l1,V⟩ | ⟨l1,V⟩ <;>rcases o1 j hj O with⟨l2,O⟩ | ⟨l2,O⟩;exact hp.inj i j hi hj b V O hb1 hb2;have:=hp.lt i hi b V hb1;have:=hh.fresh _ hj b O hb2;omega;have:=hp.lt j hj b O hb2;have:=hh.fresh _ hi b V hb1;omega;omega;rcases o1 id hd e with⟨_,e⟩ | ⟨_,e⟩;exact aqi (hp.lt id hd b e E) Y.size;exact hh.hp.lt _ hd b e E;simp[bu]at X |-;rw[dM]at X |-;by_cases hlt:nx=id
 rw[if_pos hlt]at X |-;have hdd':dT (aq (a6 3 s) 0)=false:=XN
 have⟨hd,V,O⟩:=hh.hp.obs _ hdd';have⟨q1,q2⟩:=BF 3 s _ (Qd hdd');have e3:=o3 _ hd V;rw[aqu,hlt]at e3;rw[hob]at O q1 q2;exact⟨hd,e3,O.atF q1 (W.imp (λh=>h) q2)⟩;rw[if_neg hlt]at X |-;have⟨hd,V,O⟩:=hp.obs id X;exact⟨hd,o2 id hd V,O.carry g.at7 Y.size λb E=>Y.block b (hp.lt id hd b V E)⟩;by_cases hid:id=nx
 simp[bu]at O;rw[dM]at O;have:=Wy 3 s ob XN;grind
 grind
variable {args:List SV}
theorem YA{G:Cons}(hG:atj P G)(X:Hp F own w h){nx:Nat}(hn:auv own h nx){f:FuncId}{vs:Array Value}(hr:atP F own w args vs){c:Con}(hc:G.p f (args.map (iW h 6))=some c)(O:an c)
  (W:args.all (dC 3)=true\/∀ s,et c s->jQ 3 s=true):
  (callFunc f vs).run P w=.ok (.enter f vs) w/\Calls P f vs w (λe w'=>(∃ s u,∃ X1:Ob->Own,et c s/\e=.returned u/\∀ E,a6 3 s=[E]->Rel F (X1 E) w' (jN 3 nx s) u/\Step F own w (bu h [(nx,E)]) (X1 E) w')\/(∃ x,lA c x/\e=.panicked [{ v:=x,recovered:=false}]/\Below w.heap.size w w')):=by
 refine⟨(hG.p f).enter _ c hc vs w,?_⟩;have fin:∀ {l5:Own} {w':World} {s:SV} {u:Value} {F1:Nat->Prop},((∀ b,F1 b↔dn F own b)\/((∀ b,F1 b↔F b)/\jQ 3 s=true))->Below w.heap.size w w'->Handed F1 w l5 w' s u->∃ X1:Ob->Own,∀ E,a6 3 s=[E]->Rel F (X1 E) w' (jN 3 nx s) u/\Step F own w (bu h [(nx,E)]) (X1 E) w':=λ{l5 w' s u F1} h1 h2 h3=>by
  refine Classical.axiomOfChoice (r:=λE X1=>a6 3 s=[E]->Rel F X1 w' (jN 3 nx s) u/\Step F own w (bu h [(nx,E)]) X1 w') λE=>?_;by_cases V:a6 3 s=[E]
  have⟨X1,q⟩:=Tf X hn V h1 h2 h3;grind
  simp_all
 rcases W with hnp|hsc;have hpf:∀ (j:Nat) (s:SV),args[j]? =some s->PF s:=λj s Y=>by
  rw[aqU]at hnp;exact im 3 s (hnp s (aql Y))
 refine((hG.p f).calls _ c hc O (dn F own) w vs (λb hb=>?_) ⟨by simpa using hr.1,λj s Y=>?_⟩).mono ?_;rcases hb with hf| ⟨id,hd,e,hbb⟩;exact X.atu b hf;exact X.lt id hd b e hbb;obtain⟨x,hx,rfl⟩:=sI Y;exact Yv 6 x _ (hpf j x hx) (hr.2 j x hx);rintro e w' (⟨s,u,l5,h1,h2,h3,h4⟩ |hp');have⟨X1,q⟩:=fin (.inl λb=>atn) h4 h3;exact .inl ⟨s,u,X1,h1,h2,q⟩;grind
 refine((hG.p f).calls _ c hc O F w vs X.atu ⟨by simpa using hr.1,λj s Y=>?_⟩).mono ?_;obtain⟨x,hx,rfl⟩:=sI Y;exact CF X 6 x _ (hr.2 j x hx);rintro e w' (⟨s,u,l5,h1,h2,h3,h4⟩ |hp');have⟨X1,q⟩:=fin (.inr ⟨λb=>atn,hsc s h1⟩) h4 h3;exact .inl ⟨s,u,X1,h1,h2,q⟩;grind
variable {C:FI}{r:Dr}
theorem UR{rd:List Nat}(h:drB C rd args=some r):∃ i g,args=[.os i]/\r=⟨∀ x,Yc x=true->C [.v x]=some (.det True (.fn g [] [.ep [.v x] 0])),True,.fn g [] [.ep [.os i] 0],[],rd⟩:=by
 unfold drB at h;split at h
 unfold ace at h;split at h
 cases h;exact⟨_,_,rfl,rfl⟩;cases h;cases h
theorem US{rd:List Nat}{x:Option Dr}(h:drX C rd args x=some r):x=some r\/drB C rd args=some r:=by
 cases x with
 |some y=>exact .inl h|none=>exact .inr h
theorem acu {s:SV}{v u:Value}{g:FuncId}(h:Rel F own w (.fn g [] [.ep [.v v] 0]) u)(X:Rel F own w s v):Rel F own w (.fn g [] [.ep [s] 0]) u:=by
 cases h with
 |fn h1 h2 h3 Y=>
  refine .fn h1 h2 h3 λj x E=>?_;have O:=Y 0 _ rfl;match j,E with
  |0,E=>
   cases E;generalize Array.getD _ 0 undef=p at O |-;cases O with
   |ep c k1 k2=>
    have W:=k2 0 _ rfl;have V:=k1 0 _ rfl;generalize c 0=c0 at W V;cases W;refine .ep (λ_=>v) (λj x E=>?_) λj x E=>?_;match j,E with
    |0,E=>exact V
    match j,E with
    |0,E=>cases E;exact X
theorem aeh(hG:atj P G)(hp:Hp F own w h){nx:Nat}(hn:auv own h nx){o:Oper}{run:Result Next}{r0:OR}(h0:S3 P F own w h run r0)(hr:lh G h nx r0=some r)(hc:r.c):
  r.a/\(∃ u l5 w',Rel F l5 w' r.s u/\Step F own w (bu h r.ups) l5 w')/\
  ∀ (K:Act->World->Prop) (Q:Exit->Act->World->Prop),(∀ u l5 w',Rel F l5 w' r.s u->Step F own w (bu h r.ups) l5 w'->K (a.put o.dst u) w')->o.uponIn (rd ro) nd P a K Q run:=by
 have X:∀ {w'},Below w.heap.size w w'->Step F own w h own w':=λhb=>⟨hp.below hb,HN own hb,λ_ e _=>e⟩;cases r0 with
 |val s=>
  simp[lh,aqd]at hr;subst hr;have⟨u,V,E⟩:=h0;exact⟨trivial,⟨u,own,w,E,X (Below.refl _ _)⟩,λK Q Y=>fI (.inl V) (Y u own w E (X (Below.refl _ _)))⟩
 |chk c s=>
  simp[lh,aqd]at hr;subst hr;have⟨u,V,E⟩:=h0 hc;exact⟨trivial,⟨u,own,w,E,X (Below.refl _ _)⟩,λK Q Y=>fI (.inl V) (Y u own w E (X (Below.refl _ _)))⟩
 |asm c s=>
  simp[lh,aqd]at hr;subst hr;have⟨ha,u,V,E⟩:=h0;exact⟨ha,⟨u,own,w,E,X (Below.refl _ _)⟩,λK Q Y=>fI (.inl V) (Y u own w E (X (Below.refl _ _)))⟩
 |auh s=>
  simp[lh,aqd]at hr;subst hr;have⟨u,cs,ty,V,E⟩:=h0;exact⟨trivial,⟨u,own,_,E,X (tA _ _)⟩,λK Q Y=>fI (.inl V) (Y u own _ E (X (tA _ _)))⟩
 |eff c ac ups s=>
  simp[lh,aqd]at hr;subst hr;have⟨ha,u,l5,w',V,E,e3⟩:=h0 hc;exact⟨ha,⟨u,l5,w',E,e3⟩,λK Q Y=>fI V (Y u l5 w' E e3)⟩
 |call f args=>
  have⟨vs,V,E⟩:=h0;rcases US hr with hr|hr
  case inr=>
   obtain⟨i,g,rfl,rfl⟩:=UR hr;have hone:Yc (vs.getD 0 undef)=true:=by
    have h1:=V.2 0 (.os i) rfl;generalize vs.getD 0 undef=v at h1 |-;cases h1 with
    |os _ h2=>revert h2;generalize Hd.v _=y;cases y <;>simp[rR,Yc]
   have hcc:=hc (vs.getD 0 undef) hone;have e3:atP F own w [.v (vs.getD 0 undef)] vs:=⟨V.1,λj x hx=>by
    match j,hx with
    |0,hx=>cases hx;exact .v _⟩
   have⟨k1,k2⟩:=GF (P:=P) hG hp e3 hcc trivial (.inl rfl);have key:∀ {e:Ending} {w':World},((∃ s' u X1,et (.det True (.fn g [] [.ep [.v (vs.getD 0 undef)] 0])) s'/\e=.returned u/\Hp F X1 w' (h++a6 3 s')/\Fr { w:=w,own:=own} X1 w'/\Rel F X1 w' (jN 3 h.length s') u/\Below w.heap.size w w'/\∀ id,id<h.length->X1 id=own id)\/(∃ x,lA (.det True (.fn g [] [.ep [.v (vs.getD 0 undef)] 0])) x/\e=.panicked [{ v:=x,recovered:=false}]/\Below w.heap.size w w'))->
     ∃ u X1,e=.returned u/\Rel F X1 w' (.fn g [] [.ep [.os i] 0]) u/\Step F own w h X1 w':=by
    rintro e w' (⟨s',u,X1,rfl,rfl,W,m3,m4,m5,m6⟩ | ⟨x',m1,_⟩);rw[show a6 3 (.fn g [] [.ep [.v (vs.getD 0 undef)] 0])=[]from rfl,aqo]at W;refine⟨u,X1,rfl,acu m4 ((V.2 0 (.os i) rfl).mono m3.aub),W,m3,λid V E=>?_⟩;cases ho:X1 id with
    |none=>rfl|some hd=>rw[m6 id (W.dom id hd ho),V]at ho;cases ho
    exact m1.elim
   refine⟨trivial,?_,λK Q Y=>?_⟩;have⟨e,w',fr,hR,_⟩:=k2 [];have⟨u,X1,_,m1,W⟩:=key hR;exact⟨u,X1,w',m1,W⟩;rw[E,k1];refine⟨λh=>(by cases h),?_⟩;refine CallsIn.mono (oK k2) λe w' hR=>?_;obtain⟨u,X1,rfl,m1,W⟩:=key hR;exact Y u X1 w' m1 W
  cases hcc:G.p f (args.map (iW h 6))with
  |none=>rw[hcc]at hr;cases hr
  |some cc=>
   rw[hcc]at hr;cases cc with
   |rel=>cases hr|may=>cases hr
   |det p s=>
    have hrow:∀ (O:List Ob),a6 3 s=O->drR (args.all (dC 3)) (args.flatMap (mA h 6)) nx p s O=some r->
      ((args.all (dC 3) ||jQ 3 s)=true/\((O=[]/\r=⟨p,True,s,[],args.flatMap (mA h 6)⟩)\/∃ ob,O=[ob]/\r=⟨p,True,jN 3 nx s,[(nx,ob)],args.flatMap (mA h 6)⟩)):=λO _ hr=>by
     match O,hr with
     | [],hr=>
      grind [drR]
     | [ob],hr=>
      grind [drR]
     |_::_::_,hr=>simp[drR]at hr
    have⟨hb,hcase⟩:=hrow _ rfl hr;rw[aqG]at hb;have hres:args.all (dC 3)=true\/∀ s',et (.det p s) s'->jQ 3 s'=true:=hb.imp id (λh s' hs'=>by cases hs';exact h);rcases hcase with⟨hz,rfl⟩ | ⟨ob,hz,rfl⟩
    ·have⟨k1,k2⟩:=GF (P:=P) hG hp V hcc hc hres;have key:∀ {e:Ending} {w':World},((∃ s' u X1,et (.det p s) s'/\e=.returned u/\Hp F X1 w' (h++a6 3 s')/\Fr { w:=w,own:=own} X1 w'/\Rel F X1 w' (jN 3 h.length s') u/\Below w.heap.size w w'/\∀ id,id<h.length->X1 id=own id)\/(∃ x,lA (.det p s) x/\e=.panicked [{ v:=x,recovered:=false}]/\Below w.heap.size w w'))->
       ∃ u X1,e=.returned u/\Rel F X1 w' s u/\Step F own w h X1 w':=by
      rintro e w' (⟨s',u,X1,rfl,rfl,W,m3,m4,m5,m6⟩ | ⟨x',m1,_⟩);rw[hz,aqo]at W;rw[Fd 3 _ _ hz]at m4;refine⟨u,X1,rfl,m4,W,m3,λid V E=>?_⟩;cases ho:X1 id with
      |none=>rfl|some hd=>rw[m6 id (W.dom id hd ho),V]at ho;cases ho
      exact m1.elim
     refine⟨trivial,?_,λK Q Y=>?_⟩;have⟨e,w',fr,hR,_⟩:=k2 [];have⟨u,X1,_,m1,W⟩:=key hR;exact⟨u,X1,w',m1,W⟩;rw[E,k1];refine⟨λh=>(by cases h),?_⟩;refine CallsIn.mono (oK k2) λe w' hR=>?_;obtain⟨u,X1,rfl,m1,W⟩:=key hR;exact Y u X1 w' m1 W
    have⟨k1,k2⟩:=YA (P:=P) hG hp hn V hcc hc hres;have key:∀ {e:Ending} {w':World},((∃ s' u,∃ X1:Ob->Own,et (.det p s) s'/\e=.returned u/\∀ ob,a6 3 s'=[ob]->Rel F (X1 ob) w' (jN 3 nx s') u/\Step F own w (bu h [(nx,ob)]) (X1 ob) w')\/(∃ x,lA (.det p s) x/\e=.panicked [{ v:=x,recovered:=false}]/\Below w.heap.size w w'))->
      ∃ u X1,e=.returned u/\Rel F X1 w' (jN 3 nx s) u/\Step F own w (bu h [(nx,ob)]) X1 w':=by
     rintro e w' (⟨s',u,X1,rfl,rfl,W⟩ | ⟨x',m1,_⟩);grind
     exact m1.elim
    refine⟨trivial,?_,λK Q Y=>?_⟩;have⟨e,w',fr,hR,_⟩:=k2 [];have⟨u,X1,_,m1,W⟩:=key hR;grind
    rw[E,k1];refine⟨λh=>(by cases h),?_⟩;refine CallsIn.mono (oK k2) λe w' hR=>?_;obtain⟨u,X1,rfl,m1,W⟩:=key hR;grind
 |bad=>grind [lh]|_=>simp[lh]at hr
end
theorem BG (ups:List Up):∀ h:List Ob,h.length<=(bu h ups).length:=by
 induction ups with
 |nil=>intro h;exact aqb _
 |cons x r E=>
  intro h;have⟨id,o⟩:=x;refine aqp ?_ (E (cO h id o));grind [cJ]
theorem L4 {id:Nat}:∀ {ups:List Up} {h:List Ob},id∈fA ups->id< (bu h ups).length
 |(i,o)::r,h,E=>by
  simp[fA]at E;simp[bu];by_cases hr:id∈fA r
  exact L4 hr;refine aqi ?_ (BG r _);grind [cJ]
theorem rW {id:Nat}:∀ {ups:List Up} {h:List Ob},id ∉ fA ups->aq (bu h ups) id=aq h id
 | [],h,_=>rfl
 |(i,o)::r,h,E=>by
  simp[fA,aqg,not_or]at E;simp[bu];rw[rW E.2,dM,if_neg (λe=>E.1 e.symm)]
theorem L5 {id:Nat}:∀ {ups:List Up} {h h':List Ob},id∈fA ups->aq (bu h ups) id=aq (bu h' ups) id
 |(i,o)::r,h,h',E=>by
  simp[fA]at E;simp[bu];by_cases hr:id∈fA r
  exact L5 hr;simp_all [rW,dM]
theorem YB {cx:Cx}(E:aq cx.st.h cx.nx=.dead){op:Op}(Y:Co op=true){c a:Prop}{ups:List Up}{s:SV}(h:opS cx op=.eff c a ups s)(id:Nat):auK (aq cx.st.h id) (aq (bu cx.st.h ups) id):=by
 cases op with
 |mapEntry t m k=>
  simp[opS]at h;unfold aR at h;cases V:cx.ts t with
  |none=>grind
  |some ti=>
   rw[V]at h;change Cn ti cx.nx cx.st.h (val cx k) (val cx m)=_ at h;unfold Cn at h;split at h
   unfold V6 at h;split at h
   rename_i kk O l W X;cases hb:mQ kk ti.mkt&&mQ O ti.mvt&&noE W with
   |false=>grind
   |true=>
    rw[hb]at h;unfold V5 at h;split at h
    cases h;simp[bu];rw[dM];split
    rename_i e;subst e;exact .inr (.inl ⟨kk,O,l,_,_,X,rfl⟩);rw[dM];split
    rename_i e;subst e;exact .inr (.inr ⟨.inl E,.inr rfl⟩);exact .refl _;cases h
   cases h;cases h
 |_=>cases Y
theorem NL {o:Op}(V:Co o=true){cx:Cx}{f:FuncId}{args:List SV}(h:opS cx o=.call f args):False:=by
 cases o with
 |mapEntry t m x=>
  simp[opS]at h;unfold aR at h;cases E:cx.ts t with
  |none=>grind
  |some ti=>
   rw[E]at h;change Cn ti cx.nx cx.st.h (val cx x) (val cx m)=_ at h;unfold Cn at h;split at h
   unfold V6 at h;split at h
   rename_i kk W l O X;cases Y:mQ kk ti.mkt&&mQ W ti.mvt&&noE O with
   |false=>grind
   |true=>
    unfold V5 at h;grind
   cases h;cases h
 |_=>cases V
theorem YC {G:Cons}{h:List Ob}{nx:Nat}{E:OR}{r:Dr}(hr:lh G h nx E=some r)(hn:∀ c a ups s,E≠ .eff c a ups s)(hc:∀ f args,E≠ .call f args):r.ups=[]:=by
 cases E with
 |eff c a ups s=>grind|call f args=>grind
 |_=>simp only[lh]at hr;first|(cases hr;rfl) |cases hr
theorem Tg {ts:Tis}{G:Cons}{ops:List Oper}{K:St->Prop}{Z:Value->St->Prop}{o:Oper}{rest:List Oper}{i b:Nat}{E:List Fp}{st:St}(h:kK ts G ops K Z (o::rest) i b E st):
  (∃ r,lh G st.h st.h.length (opS ⟨ts,ops,o.guard,st,st.h.length⟩ o.op)=some r/\
   (o.guard=none->r.c/\(r.a->kK ts G ops K Z rest (i+1) b (E++[fpU o.op (fpO ⟨ts,ops,o.guard,st,st.h.length⟩ o.op) r.all r.ups]) (St.put ⟨st.t,bu st.h r.ups⟩ o.dst r.s)))/\
   (∀ g,o.guard=some g->(eb ops st.t ops.length g->r.c)/\((r.ups=[]/\kK ts G ops K Z rest (i+1) b (E++[fpU o.op (fpO ⟨ts,ops,o.guard,st,st.h.length⟩ o.op) r.all []]) (st.put o.dst (.gd g.1 g.2 r.s)))\/
    (¬ (eb ops st.t ops.length g/\gN ops st.t ops.length g)/\(eb ops st.t ops.length g->r.a->kK ts G ops K Z rest (i+1) b (E++[fpU o.op (fpO ⟨ts,ops,o.guard,st,st.h.length⟩ o.op) r.all r.ups]) (St.put ⟨st.t,bu st.h r.ups⟩ o.dst (.gd g.1 g.2 r.s)))/\
     (gN ops st.t ops.length g->kK ts G ops K Z rest (i+1) b (E++[fpU o.op (fpO ⟨ts,ops,o.guard,st,st.h.length⟩ o.op) r.all []]) (st.put o.dst (.gd g.1 g.2 r.s)))))))\/
  (va ops b E/\He ops i=true/\UL G ops o.dst st (λst'=>kK ts G ops K Z rest (i+1) (i+1) [] st') Z o.guard (opS ⟨ts,ops,o.guard,st,st.h.length⟩ o.op)):=by
 simp[kK]at h;cases O:o.guard with
 |none=>
  rw[O]at h;cases hd:lh G st.h st.h.length (opS ⟨ts,ops,none,st,st.h.length⟩ o.op)with
  |none=>rw[hd]at h;exact .inr h
  |some r=>
   rw[hd]at h;exact .inl ⟨r,rfl,λ_=>h,λg e=>by cases e⟩
 |some g=>
  rw[O]at h;simp at h;cases hd:lh G st.h st.h.length (opS ⟨ts,ops,some g,st,st.h.length⟩ o.op)with
  |none=>rw[hd]at h;exact .inr h
  |some r=>
   grind [zu,drG]
section
variable {P:Program}{F:Nat->Prop}{own l5:Own}{w w':World}{ts:Tis}
variable {w0:Bs}{ro:Option Nat}{nd:Nat}{N n:Nat}{ops:List Oper}{st:St}{a:Act}{G:Cons}
def UT {nx:Nat}{E:Nat->Prop}(W:ts.ok P)(hi:atV F w0 N ops E own st a w)(hn:auv own st.h nx){o:Oper}(V:GOk ops a o.guard)(O:∀ k c,o.guard=some (k,c)->E k/\oJ ops k):
  S3 P F own w st.h ((execOp a.eval o).run P w) (opS ⟨ts,ops,o.guard,st,nx⟩ o.op):=
 S5 (P:=P) (ts:=ts) (ops:=ops) (g:=o.guard) (t:=st.t) (h:=st.h) (nx:=nx) W hi.hp hn (a:=a) (o:=o) (Nz hi V O) (λc x y _=>⟨λhc=>Au hi V O c x true hc,λhc=>Au hi V O c y false hc⟩)
theorem Th {α:Type}(f:Nat->α)(m:Nat):(List.range (m+1)).map f=f 0::(List.range m).map (λi=>f (i+1)):=by
 rw[List.range_succ_eq_map];simp_all
theorem sim (hts:ts.ok P)(hG:atj P G)(hr:ROk N ops){K:St->Prop}{Z:Value->St->Prop}:∀ (rest:List Oper) (n:Nat) (own:Own) (st:St) (a:Act) (w:World) (b:Nat) (W:List Fp),ops.drop n=rest->atV F w0 N ops (· <n) own st a w->kK ts G ops K Z rest n b W st->
  ∃ (m:Nat) (S:Nat->St) (s:Nat->SV) (ups:Nat->List Up) (fs:Nat->Fp) (R:Nat->Dr),S 0=st/\atU ts G ops n m S s ups fs R/\va ops b (W++(List.range m).map fs)/\act ts G ops K Z (n+m) (S m)
 | [],n,own,st,a,w,b,W,hd,hi,hx=>by
  have hn:ops.length<=n:=by
   simp_all
  exact⟨0,λ_=>st,λ_=>.any,λ_=>[],λ_=>⟨[],[],[],[],[]⟩,λ_=>⟨True,True,.any,[],[]⟩,rfl,⟨λi h=>XM⟩,by simpa using hx.1,.inl ⟨hn,hx.2⟩⟩
 |o::rest,n,own,st,a,w,b,W,hd,hi,hx=>by
  obtain⟨Y,hd'⟩:=HL hd;have E:∀ j b,o.guard=some (j,b)->j<n:=λj b e=>hr.lt n o j b Y e;rcases Tg hx with⟨r,h1,h2,h3⟩ | ⟨h1,h2,h3⟩
  ·
   have V:∀ (s:SV) (ups:List Up) (l5:Own) (a':Act) (w':World),(o.guard=none->r.c/\s=r.s/\ups=r.ups)->(∀ g,o.guard=some g->(eb ops st.t ops.length g->r.c)/\((r.ups=ups/\s=.gd g.1 g.2 r.s/\(ups=[]\/¬gN ops st.t ops.length g))\/(ups=[]/\s=.gd g.1 g.2 r.s/\¬eb ops st.t ops.length g)))->
     atV F w0 N ops (· <n+1) l5 (St.put ⟨st.t,bu st.h ups⟩ o.dst s) a' w'->kK ts G ops K Z rest (n+1) b (W++[fpU o.op (fpO ⟨ts,ops,o.guard,st,st.h.length⟩ o.op) r.all ups]) (St.put ⟨st.t,bu st.h ups⟩ o.dst s)->
     ∃ (m:Nat) (S:Nat->St) (s:Nat->SV) (ups:Nat->List Up) (fs:Nat->Fp) (R:Nat->Dr),S 0=st/\atU ts G ops n m S s ups fs R/\va ops b (W++(List.range m).map fs)/\act ts G ops K Z (n+m) (S m):=by
    intro s ups l5 a' w' q1 q2 q3 q4;have⟨m,S,s',ups',fs,R,e0,e1,e2,e3⟩:=sim hts hG hr rest (n+1) l5 _ a' w' b _ hd' q3 q4;refine⟨m+1,λi=>match i with|0=>st|i+1=>S i,λi=>match i with|0=>s|i+1=>s' i,λi=>match i with|0=>ups|i+1=>ups' i,λi=>match i with|0=>fpU o.op (fpO ⟨ts,ops,o.guard,st,st.h.length⟩ o.op) r.all ups|i+1=>fs i,λi=>match i with|0=>r|i+1=>R i,rfl,⟨λi hi=>?_⟩,?_,?_⟩;cases i with
    |zero=>exact⟨o,Y,⟨h1,e0,rfl,q1,q2⟩⟩
    |succ i=>
     have⟨o',k1,k2⟩:=e1.fact i XM;grind
    grind [Th]
    grind
   by_cases X:GOk ops a o.guard
   ·have hrun:=UT hts hi hi.hp.nx X (λk c e=>⟨E k c e,n,o,c,Y,e⟩);have hc:r.c:=by
     cases O:o.guard with
     |none=>grind
     |some g=>exact(h3 g O).1 (xg hi n (λ_ _ _ _ _ _ _ _=>rfl) hr.lt _ g (E g.1 g.2 O) (E g.1 g.2 O) ⟨n,o,g.2,Y,O⟩ XN)
    have⟨ha,⟨u,l5,w',k1,k2⟩,_⟩:=aeh (ro:=none) (nd:=0) (a:=a) (o:=o) hG hi.hp hi.hp.nx hrun h1 hc;have hstep:=hi.auC hr (wr n) (arh n) Y E X k2.hp k2.fr k1;cases O:o.guard with
    |none=>exact V r.s r.ups l5 _ w' (λ_=>⟨hc,rfl,rfl⟩) (λg e=>XN) hstep.1 ((h2 O).2 ha)
    |some g=>
     have h3':=h3 g O;rcases h3'.2 with⟨e0,hx⟩ | ⟨nb,hP,_⟩;refine V (.gd g.1 g.2 r.s) [] l5 (a.put o.dst u) w' (λe=>XN) (λg' e=>XN) ?_ hx;grind
     have hPp:=xg hi n (λ_ _ _ _ _ _ _ _=>rfl) hr.lt ops.length g (E g.1 g.2 O) (E g.1 g.2 O) ⟨n,o,g.2,Y,O⟩ XN;exact V (.gd g.1 g.2 r.s) r.ups l5 (a.put o.dst u) w' (λe=>XN) (λg' e=>XN) (hstep.2 g O) (hP hPp ha)
   cases O:o.guard with
   |none=>exact absurd (by rw[O];trivial) X
   |some g=>
    have h3':=h3 g O;rcases h3'.2 with⟨e0,hx⟩ | ⟨nb,_,hN⟩;exact V (.gd g.1 g.2 r.s) [] own _ w (λe=>XN) (λg' e=>XN) (hi.skip hr (wr n) (arh n) Y E X O) hx;have hNn:=DV hi ops.length g (E g.1 g.2 O) ⟨n,o,g.2,Y,O⟩ XN;exact V (.gd g.1 g.2 r.s) [] own _ w (λe=>XN) (λg' e=>XN) (hi.skip hr (wr n) (arh n) Y E X O) (hN hNn)
  ·
   exact⟨0,λ_=>st,λ_=>.any,λ_=>[],λ_=>⟨[],[],[],[],[]⟩,λ_=>⟨True,True,.any,[],[]⟩,rfl,⟨λi h=>XM⟩,XN,.inr ⟨o,Y,h2,XN⟩⟩
variable {b m:Nat}{S:Nat->St}{s:Nat->SV}{ups:Nat->List Up}{fs:Nat->Fp}{R:Nat->Dr}
theorem aei (st:St)(d:Option Nat)(s:SV):(st.put d s).h=st.h:=by cases d <;>rfl
theorem Ti (st:St)(d:Option Nat)(s:SV)(t:Nat):lk t (st.put d s).t=if d=some t then s else lk t st.t:=by
 cases d with
 |none=>rfl
 |some d=>
  show lk t ((d,s)::st.t)=_;simp_all [t9]
theorem atU.hstep (E:atU ts G ops b m S s ups fs R){i:Nat}(hi:i<m):(S (i+1)).h=bu (S i).h (ups i):=by
 have⟨o,_,f⟩:=E.fact i hi;rw[f.nxt,aei]
theorem atU.len (E:atU ts G ops b m S s ups fs R){i:Nat}:∀ {j:Nat},i<=j->j<=m->(S i).h.length<=(S j).h.length
 |0,h,_=>by
   grind
 |j+1,h,hj=>by
  by_cases e:i=j+1
  grind
  refine aqp (atU.len E (j:=j) XM XM) ?_;rw[E.hstep XM];exact BG _ _
theorem atU.same (E:atU ts G ops b m S s ups fs R){id i:Nat}:∀ {j:Nat},i<=j->j<=m->(∀ k,i<=k->k<j->id ∉ fA (ups k))->aq (S i).h id=aq (S j).h id
 |0,h,_,_=>by
   grind
 |j+1,h,hj,hk=>by
  by_cases e:i=j+1
  subst e;rfl;rw[atU.same E (j:=j) XM XM (λk h1 h2=>hk k h1 XM),E.hstep XM,rW (hk j XM XM)]
theorem atU.like (X:atU ts G ops b m S s ups fs R){id i:Nat}:∀ {j:Nat},i<=j->j<=m->(∀ k,i<=k->k<j->id∈(fs k).tc->False)->auK (aq (S i).h id) (aq (S j).h id)
 |0,h,_,_=>by
   have:i=0:=XM
   subst this;exact .refl _
 |j+1,h,hj,hk=>by
  by_cases e:i=j+1
  subst e;exact .refl _;refine(atU.like X (j:=j) XM XM (λk h1 h2=>hk k h1 XM)).trans ?_;have⟨o,ho,f⟩:=X.fact j XM;rw[X.hstep XM];by_cases W:id∈fA (ups j)
  have V:=hk j XM XM;rw[f.fp]at V;unfold fpU at V;cases Y:Co o.op with
  |false=>grind
  |true=>
   have e3:ups j=[]\/ups j=(R j).ups:=by
    cases hg:o.guard with
    |none=>exact .inr (f.plain hg).2.2
    |some g=>
     rcases(f.guarded g hg).2 with⟨e,_⟩ | ⟨e,_⟩ <;>grind
   rcases e3 with e3|e3;grind [fA]
   have E:=f.dr;cases O:opS ⟨ts,ops,o.guard,S j,(S j).h.length⟩ o.op with
   |eff c a' ups' s'=>
    rw[O]at E;simp[lh,aqd]at E;rw[e3,<-E];exact YB (ve (aqb _)) Y O id
   |_=>
    rw[O]at E;rw[e3,YC E (λ_ _ _ _ e=>by cases e) (λf args e=>NL Y (O.trans e))]at W;simp[fA]at W
  rw[rW W];exact .refl _
end
variable {x y:Fp}
theorem Qj{id:Nat}(h1:id∈x.tc\/id∈x.wt)(h2:id∈y.tc\/id∈y.wt):wi x y=true:=by
 grind [wi,xk]
theorem YD{id:Nat}(h1:id∈x.rd)(h2:id∈y.tc\/id∈y.wt):wi x y=true:=by
 grind [wi,xk]
theorem YE{id:Nat}(h1:id∈x.wk)(h2:id∈y.tc):wi x y=true:=by
 grind [wi,xk]
theorem Wz{id:Nat}(h1:id∈x.all)(h2:id∈y.tc\/id∈y.wt):wi x y=true:=by
 grind [wi,xk]
section
variable {P:Program}{F:Nat->Prop}{own l5:Own}{w w':World}{ts:Tis}
variable {w0:Bs}{ro:Option Nat}{nd:Nat}{N n:Nat}{ops:List Oper}{st:St}{a:Act}{G:Cons}
variable {b m:Nat}{S:Nat->St}{s:Nat->SV}{ups:Nat->List Up}{fs:Nat->Fp}{R:Nat->Dr}
theorem atU.auZ (E:atU ts G ops b m S s ups fs R){i id:Nat}(hi:i<m)(h:id∈fA (ups i)):id∈(fs i).tc\/id∈(fs i).wt:=by
 have⟨o,_,f⟩:=E.fact i hi;rw[f.fp];grind [fpU]
theorem atU.avi (E:atU ts G ops b m S s ups fs R){i id:Nat}(hi:i<m)(h:id∈(fs i).tc):id∈fA (ups i):=by
 have⟨o,_,f⟩:=E.fact i hi;rw[f.fp]at h;grind [fpU]
theorem atU.lt (E:atU ts G ops b m S s ups fs R){i id:Nat}(hi:i<m)(h:id∈fA (ups i)):id< (S (i+1)).h.length:=by
 rw[E.hstep hi];exact L4 h
theorem atU.lk (E:atU ts G ops b m S s ups fs R)(t:Nat):∀ k,k<=m->(∃ (j:Nat) (q:Oper),j<k/\ops[b+j]? =some q/\q.dst=some t/\Sx.lk t (S k).t=s j)\/((∀ (j:Nat) (q:Oper),j<k->ops[b+j]? =some q->q.dst≠some t)/\Sx.lk t (S k).t=Sx.lk t (S 0).t)
 |0,_=>.inr ⟨λj q h=>XM,rfl⟩
 |k+1,hk=>by
  have⟨o,ho,f⟩:=E.fact k XM;have V:Sx.lk t (S (k+1)).t=if o.dst=some t then s k else Sx.lk t (S k).t:=by rw[f.nxt,Ti]
  by_cases hd:o.dst=some t
  grind
  rcases atU.lk E t k (XM)with⟨j,q,h1,h2,W,O⟩ | ⟨h1,h2⟩ <;>grind
structure auu (F:Nat->Prop)(w0:Bs)(N:Nat)(ops:List Oper)(b m:Nat)(S:Nat->St)(s:Nat->SV)(ups:Nat->List Up)(listed:Array Bool)(own:Own)(st:St)(a:Act)(w:World):Prop where
 inv:atV F w0 N ops (λk=>listed[k]? =some true) own st a w
 size:listed.size=ops.length
 low:∀ k,k<b->k<ops.length->listed[k]? =some true
 high:∀ k,b+m<=k->¬listed[k]? =some true
 put:∀ (k:Nat) (q:Oper) (d:Nat),k<m->listed[b+k]? =some true->ops[b+k]? =some q->q.dst=some d->lk d st.t=s k
 old:∀ t,(∀ (k:Nat) (q:Oper),k<m->listed[b+k]? =some true->ops[b+k]? =some q->q.dst≠some t)->lk t st.t=lk t (S 0).t
 closed:GI ops (λk=>listed[k]? =some true)
 heap:∀ id,∃ p,p<=m/\(∀ k,k<m->id∈fA (ups k)->(listed[b+k]? =some true↔k<p))/\aq st.h id=aq (S p).h id
 dom:∀ id,own id=none\/id< (S 0).h.length\/∃ k,k<m/\listed[b+k]? =some true/\id∈fA (ups k)
variable {listed:Array Bool}
theorem CH{k:Nat}(h:listed.getD k true=false):listed[k]? =some false:=by
 simp[aqC]at h;grind
theorem Qk{n:Nat}(hn:listed[n]? =some false)(k:Nat):(listed.setIfInBounds n true)[k]? =some true↔listed[k]? =some true\/k=n:=by
 grind
theorem YF {o:Oper}{n:Nat}(h:Operand.tmp n∈o.op.operands.toList):n∈o.looksAt ops.toArray:=by
 grind [Oper.looksAt]
variable {listed:Array Bool}
variable {k:Nat}{o:Oper}
theorem auu.order(hi:auu F w0 N ops b m S s ups listed own st a w)(ho:ops[b+k]? =some o)(W:listed[b+k]? =some false)(hw:∀ j,rM o j=true->listed[j]? =some true){j:Nat}(hne:j≠k)(E:Ord ops (b+k) (b+j)):
  (j<k/\listed[b+j]? =some true)\/(k<j/\¬listed[b+j]? =some true):=by
 rcases E with⟨h1,h2⟩ | ⟨h1,h2⟩;have:=NK (ops:=ops) (S:=λi=>listed[i]? =some true\/i=b+k) (λi q Y O hq V=>?_) (.inr rfl) h2;grind
 rcases O with O|rfl;exact .inl (hi.closed i q Y O hq V);grind
 right;refine⟨XM,λX=>?_⟩;have:=NK hi.closed X h2;grind
theorem auu.obj(hi:auu F w0 N ops b m S s ups listed own st a w)(O:atU ts G ops b m S s ups fs R)(hk:k<m)(W:listed[b+k]? =some false){id:Nat}
  (V:∀ j,j<m->j≠k->id∈fA (ups j)->(j<k/\listed[b+j]? =some true)\/(k<j/\¬listed[b+j]? =some true)):aq (S k).h id=aq st.h id:=by
 have⟨p,h1,h2,h3⟩:=hi.heap id;rw[h3];by_cases E:p<=k
 refine(O.same E XM λj q1 Y X=>?_).symm;grind
 refine O.same XM h1 λj q1 Y X=>?_;grind
theorem auu.avS(hi:auu F w0 N ops b m S s ups listed own st a w)(E:atU ts G ops b m S s ups fs R)(hk:k<m)(hni:listed[b+k]? =some false){id:Nat}
  (V:∀ j,j<m->j≠k->id∈(fs j).tc->(j<k/\listed[b+j]? =some true)\/(k<j/\¬listed[b+j]? =some true)):auK (aq (S k).h id) (aq st.h id):=by
 have⟨p,h1,h2,h3⟩:=hi.heap id;rw[h3];by_cases W:p<=k
 refine(E.like W XM λj q1 X O=>?_).symm;rcases V j XM XM O with⟨_,Y⟩ | ⟨h,_⟩;have:=(h2 j XM (E.avi XM O)).1 Y;omega;omega;refine E.like XM h1 λj q1 X O=>?_;have Y:=(h2 j XM (E.avi XM O)).2 X;grind
theorem auu.reads(hd:DOk ops)(hi:auu F w0 N ops b m S s ups listed own st a w)(hp:atU ts G ops b m S s ups fs R)(hk:k<m)(O:ops[b+k]? =some o)(Y:listed[b+k]? =some false)
  (hw:∀ j,rM o j=true->listed[j]? =some true) {d:Nat} (V:d∈o.looksAt ops.toArray):lk d (S k).t=lk d st.t:=by
 rcases hp.lk d k (XM)with⟨j,q,h1,h2,X,h4⟩ | ⟨h1,h2⟩;rw[h4];rcases hd.look (b+k) (b+j) o q d O h2 X V with e| ⟨_,e⟩ | ⟨e,_⟩;omega;exact(hi.put j q d XM (hw _ e) h2 X).symm;omega;rw[h2];refine(hi.old d λj q hj hl W E=>?_).symm;rcases hd.look (b+k) (b+j) o q d O W E V with e| ⟨e,_⟩ | ⟨_,e⟩;grind
 grind
 have:listed[b+k]? =some true:=hi.closed _ q _ hl W e;grind
theorem auu.full (hd:DOk ops)(hi:auu F w0 N ops b m S s ups listed own st a w)(hp:atU ts G ops b m S s ups fs R)(E:∀ k,k<m->listed[b+k]? =some true):atV F w0 N ops (λk=>listed[k]? =some true) own (S m) a w:=by
 have X:∀ t,lk t (S m).t=lk t st.t:=λt=>by
  rcases hp.lk t m (aqb _)with⟨j,q,h1,h2,O,W⟩ | ⟨h1,h2⟩;rw[W];exact(hi.put j q t h1 (E j h1) h2 O).symm;rw[h2];exact(hi.old t λk q Y _ hq=>h1 k q Y hq).symm
 have hh:∀ id,aq (S m).h id=aq st.h id:=λid=>by
  have⟨p,h1,h2,O⟩:=hi.heap id;rw[O];refine(hp.same h1 (aqb _) λj q1 q2 hm=>?_).symm;grind
 refine⟨hi.inv.size,hi.inv.defers,⟨λid hd e=>?_,hi.inv.hp.atu,hi.inv.hp.apart,hi.inv.hp.inj,hi.inv.hp.lt,λid V=>?_⟩,hi.inv.fr,λt=>by rw[X];exact hi.inv.slots t,λk o d j b s h1 h2 O W h5=>hi.inv.tags k o d j b s h1 h2 O W XN,hi.inv.closed,hi.inv.chain⟩;rcases hi.dom id with h|h| ⟨k,h1,_,h2⟩;grind
 exact aqi h (hp.len (aqq _) (aqb _));exact aqi (hp.lt h1 h2) (hp.len XM (aqb _));rw[hh]at V |-;exact hi.inv.hp.obs id V
theorem auu.start (hi:atV F w0 N ops (· <b) own (S 0) a w)(X:listed.size=ops.length)(W:∀ k,k<ops.length->(listed[k]? =some true↔k<b))(hr:ROk N ops)(V:∀ (i:Nat) (o:Oper) (j:Nat),ops[i]? =some o->rM o j=true->j<i):auu F w0 N ops b m S s ups listed own (S 0) a w:=by
 have hE:∀ k,listed[k]? =some true->k<b:=λk h=>(W k XN).1 h;have E:∀ {k:Nat},¬listed[b+k]? =some true:=λ{k} h=>XN
 refine⟨⟨hi.size,hi.defers,hi.hp,hi.fr,λt=>?_,λk o d j O s h1=>hi.tags k o d j O s (hE k h1),λk o j O h1 h2 h3=>?_,λk o O h1=>hi.chain k o O (hE k h1)⟩,X,λk h1 h2=>(W k h2).2 h1,λk h1 h2=>XN,λk q d _ h=>absurd h E,λt _=>rfl,λi o j h1 h2 h3=>?_,λid=>⟨0,aqq _,λk hk _=>⟨λh=>absurd h E,λh=>XM⟩,rfl⟩,λid=>?_⟩;have h:=hi.slots t;cases Y:lk t (S 0).t with
 |gd j O s'=>
  rw[Y]at h;have⟨q1,⟨i,o,b2,q2,q3⟩,q4⟩:=h;have hlt:=(aqe.1 q2).1;have:=hr.lt i o j b2 q2 q3;exact⟨(W j XM).2 q1,⟨i,o,b2,q2,q3⟩,q4⟩
 |_=>rw[Y]at h;exact h
 have:=hr.lt k o j O h2 h3;grind
 grind
 cases ho:own id with
 |none=>grind|some hd=>exact .inr (.inl (hi.hp.dom id hd ho))
end
variable {r:Dr}
theorem acv{np:Bool}{rd:List Nat}{nx:Nat}{p:Prop}{s:SV}{rows:List Ob}(h:drR np rd nx p s rows=some r):r.all=rd:=by
 match rows,h with
 | [],h=>grind [drR]| [ob],h=>grind [drR]|_::_::_,h=>simp[drR]at h
theorem YG {E:Bool}{rd:List Nat}{nx nx':Nat}{c:Option Con}:(drC E rd nx c=none->drC E rd nx' c=none)/\∀ r,drC E rd nx c=some r->¬nx∈fA r.ups->drC E rd nx' c=some r:=by
 cases c with
 |none=>exact⟨id,λr h=>by cases h⟩
 |some c=>
  cases c with
  |rel=>exact⟨id,λr h=>by cases h⟩
  |may=>exact⟨id,λr h=>by cases h⟩
  |det p s=>
   simp[drC];generalize a6 3 s=rows;match rows with
   | [] =>exact⟨id,λr h _=>h⟩
   | [ob] =>
    unfold drR;cases E||jQ 3 s;exact⟨id,λr h=>by cases h⟩;exact⟨λh=>(by cases h),λr h hn=>by cases h;exact absurd (by simp[fA]) hn⟩
   |_::_::_=>exact⟨id,λr h=>by cases h⟩
variable {h:List Ob}{E:OR}
theorem acw{G:Cons}{nx nx':Nat}(hr:lh G h nx E=some r)(hn:¬nx∈fA r.ups\/∀ f args,E≠ .call f args):lh G h nx' E=some r:=by
 cases E with
 |call f args=>
  have hn:=hn.resolve_right (λh=>h f args rfl);simp[lh]at hr |-;cases hc:drC (args.all (dC 3)) (args.flatMap (mA h 6)) nx (G.p f (args.map (iW h 6)))with
  |none=>rw[hc]at hr;rw[YG.1 hc];exact hr|some x=>rw[hc]at hr;cases hr;rw[YG.2 _ hc hn];rfl
 |_=>exact hr
def Ql {f:SV->List Nat}{l:List SV}{x:SV}{a:Nat}(E:x∈l)(b:a∈f x):a∈l.flatMap f:=arL.2 ⟨x,E,b⟩
variable {h':List Ob}
theorem YH:∀ (n:Nat) (s:SV),(∀ id,id∈mA h n s->aq h id=aq h' id)->iW h n s=iW h' n s:=by
 intro n;induction n with
 |zero=>intro s E;cases s <;>first|rfl|(simp only[iW];rw[E _ (by simp[mA])])
 |succ n Y=>
  intro s E;have O:∀ (l:List SV),(∀ id,id∈l.flatMap (mA h n)->aq h id=aq h' id)->l.map (iW h n)=l.map (iW h' n):=λl O=>
   List.map_congr_left λx X=>Y x λid hid=>O id (Ql X hid)
  cases s with
  |ptr id off=>
   simp[iW];have W:∀ V,(∀ id,id∈V8 (mA h n) V->aq h id=aq h' id)->V7 (iW h n) off V=V7 (iW h' n) off V:=λV W=>by
    cases V with
    |cells l=>simp[V7,O l W]|_=>rfl
   grind [mA]
  |ep l o=>simp[iW,O l E]|ls z l=>simp[iW,O l E]|agg l=>simp[iW,O l E]|tup l=>simp[iW,O l E]|fn f l l2=>grind [iW,mA]
  |_=>first|rfl|(simp only[iW];rw[E _ (by simp[mA])])
theorem HV {f g:SV->List Nat}:∀ (l:List SV),(∀ x,x∈l->f x=g x)->l.flatMap f=l.flatMap g
 | [],_=>rfl
 |a::r,h=>by rw[aqx,aqx,h a (by simp),HV r λx E=>h x (by simp[E])]
theorem YI:∀ (n:Nat) (s:SV),(∀ id,id∈mA h n s->aq h id=aq h' id)->mA h n s=mA h' n s:=by
 intro n;induction n with
 |zero=>intro s W;cases s <;>rfl
 |succ n Y=>
  intro s W;have O:∀ (l:List SV),(∀ id,id∈l.flatMap (mA h n)->aq h id=aq h' id)->l.flatMap (mA h n)=l.flatMap (mA h' n):=λl O=>
   HV l λx X=>Y x λid hid=>O id (Ql X hid)
  cases s with
  |ptr id off=>
   have V:∀ E,(∀ id,id∈V8 (mA h n) E->aq h id=aq h' id)->V8 (mA h n) E=V8 (mA h' n) E:=λE V=>by
    cases E with
    |cells l=>exact O l V|_=>rfl
   grind [mA]
  |ep l o=>grind [mA]|ls z l=>grind [mA]|agg l=>grind [mA]|tup l=>grind [mA]|fn f l l2=>grind [mA]|_=>rfl
theorem Tj{G:Cons}{nx:Nat}(V:∀ id,id∈r.all->aq h id=aq h' id)(hr:lh G h nx E=some r):lh G h' nx E=some r:=by
 cases E with
 |call f args=>
  have O:r.all=args.flatMap (mA h 6):=by
   rcases US hr with hr|hr
   case inr=>obtain⟨s,g,_,rfl⟩:=UR hr;rfl
   cases hc:G.p f (args.map (iW h 6))with
   |none=>rw[hc]at hr;cases hr
   |some c=>
    rw[hc]at hr;cases c with
    |rel=>cases hr|may=>cases hr
    |det p s=>
     grind [acv,drC]
  grind [List.map_congr_left,YH,YI,lh]
 |_=>exact hr
theorem afG (o:Op)(x:List Nat×List Nat)(all:List Nat)(ups:List Up):(fpU o x all ups).rd=x.1/\(fpU o x all ups).wk=x.2/\(fpU o x all ups).all=all:=by
 grind [fpU]
section
variable {P:Program}{F:Nat->Prop}{own l5:Own}{w w':World}{ts:Tis}
variable {w0:Bs}{ro:Option Nat}{nd:Nat}{N n:Nat}{ops:List Oper}{st:St}{a:Act}{G:Cons}
variable {b m:Nat}{S:Nat->St}{s:Nat->SV}{ups:Nat->List Up}{fs:Nat->Fp}{R:Nat->Dr}{listed:Array Bool}
theorem auu.op (hd:DOk ops)(hi:auu F w0 N ops b m S s ups listed own st a w)(hp:atU ts G ops b m S s ups fs R)(awK:va ops b ((List.range m).map fs)){k:Nat}{o:Oper}(Y:k<m)(ho:ops[b+k]? =some o)(O:listed[b+k]? =some false)
  (hw:∀ j,rM o j=true->listed[j]? =some true) (hsk:(R k).ups=ups k):∃ nx,auv own st.h nx/\lh G st.h nx (opS ⟨ts,ops,o.guard,st,nx⟩ o.op)=some (R k):=by
 have⟨o',ho',f⟩:=hp.fact k Y;rw[ho]at ho';cases ho';have X:∀ i,i<m->((List.range m).map fs)[i]? =some (fs i):=λi hi=>by simp[hi]
 have W:∀ j,j<m->j≠k->wi (fs k) (fs j)=true->(j<k/\listed[b+j]? =some true)\/(k<j/\¬listed[b+j]? =some true):=λj V E hc=>
  hi.order ho O hw E (HT awK (X k Y) (X j V) (λe=>E e.symm) hc)
 have⟨e1,e2,e3⟩:=afG o.op (fpO ⟨ts,ops,o.guard,S k,(S k).h.length⟩ o.op) (R k).all (ups k);rw[<-f.fp]at e1 e2 e3;have hop:opS ⟨ts,ops,o.guard,S k,(S k).h.length⟩ o.op=opS ⟨ts,ops,o.guard,st,(S k).h.length⟩ o.op:=
  Ww (t:=(S k).t) (h:=(S k).h) (t':=st.t) (h':=st.h) o.op (λx hx=>by
    cases x with
    |tmp n=>exact hi.reads hd hp Y ho O hw (YF hx)
    |_=>rfl)
   (λid hid=>hi.obj hp Y O λj V E hm=>W j V E (YD (by simp_all) (hp.auZ V hm)))
   (λid hid=>hi.avS hp Y O λj V E hm=>W j V E (YE (by simp_all) hm))
 have hdr:=f.dr;have hdr2:lh G st.h (S k).h.length (opS ⟨ts,ops,o.guard,S k,(S k).h.length⟩ o.op)=some (R k):=Tj (λid hall=>hi.obj hp Y O λj V E hm=>W j V E (Wz XN (hp.auZ V hm))) hdr;by_cases hm:(S k).h.length∈fA (R k).ups
 refine⟨(S k).h.length,?_,XN⟩;have hmu:(S k).h.length∈fA (ups k):=XN
 have hnk:¬listed[b+k]? =some true:=XN
 refine⟨?_,?_⟩;rcases hi.dom (S k).h.length with h|h| ⟨j,h1,h2,h3⟩;exact h;have:=hp.len (aqq k) XM;omega;have E:j≠k:=λe=>hnk (e▸h2);rcases W j h1 E (Qj (hp.auZ Y hmu) (hp.auZ h1 h3))with⟨hlt,_⟩ | ⟨_,hl⟩;have:=hp.lt h1 h3;have:=hp.len (i:=j+1) (j:=k) XM XM;omega;grind
 have⟨p,h1,h2,h3⟩:=hi.heap (S k).h.length;rw[h3];refine ve ?_;have:¬k<p:=λh=>hnk ((h2 k Y hmu).2 h);exact hp.len XM XM;refine⟨st.h.length,hi.inv.hp.nx,?_⟩;rw[afF (nx':=st.h.length) hop.symm ?_];grind [acw]
 grind [lh]
theorem auu.next (hd:DOk ops)(hi:auu F w0 N ops b m S s ups listed own st a w)(hp:atU ts G ops b m S s ups fs R)(X:va ops b ((List.range m).map fs)){k:Nat}{o:Oper}(hk:k<m)(ho:ops[b+k]? =some o)(Y:listed[b+k]? =some false)
  (hw:∀ j,rM o j=true->listed[j]? =some true) {a':Act} (hinv:atV F w0 N ops (λj=>(listed.setIfInBounds (b+k) true)[j]? =some true) l5 (St.put ⟨st.t,bu st.h (ups k)⟩ o.dst (s k)) a' w')
  (hfr:∀ id,own id=none->dT (aq (bu st.h (ups k)) id)=true->l5 id=none):
  auu F w0 N ops b m S s ups (listed.setIfInBounds (b+k) true) l5 (St.put ⟨st.t,bu st.h (ups k)⟩ o.dst (s k)) a' w':=by
 have V:∀ i,i<m->((List.range m).map fs)[i]? =some (fs i):=λi hi=>by simp[hi]
 have hor:∀ j,j<m->j≠k->wi (fs k) (fs j)=true->(j<k/\listed[b+j]? =some true)\/(k<j/\¬listed[b+j]? =some true):=λj hj E hc=>
  hi.order ho Y hw E (HT X (V k hk) (V j hj) (λe=>E e.symm) hc)
 have O:=Qk Y;refine⟨hinv,by simp[hi.size],λj h1 h2=>(O j).2 (.inl (hi.low j h1 h2)),λj h1 h2=>?_,λj q d h1 h2 W h4=>?_,λt ht=>?_,λi q j h1 h2 W=>?_,λid=>?_,λid=>?_⟩;rcases(O j).1 h2 with h|h;exact hi.high j h1 h;omega;rw[Ti];rcases(O _).1 h2 with h|h;have E:o.dst≠some d:=λe=>by
  have:=hd.uniq (b+k) (b+j) o q d ho W e h4;grind
 rw[if_neg E];exact hi.put j q d h1 h W h4;grind
 have E:o.dst≠some t:=ht k o hk ((O _).2 (.inr rfl)) ho;rw[Ti,if_neg E];exact hi.old t λj q h1 h2 W=>ht j q h1 ((O _).2 (.inl h2)) W;rcases(O i).1 h1 with h|rfl;exact(O j).2 (.inl (hi.closed i q j h h2 W));grind
 rw[aei];by_cases hm:id∈fA (ups k)
 refine⟨k+1,XM,λj hj hmj=>?_,?_⟩;rw[O];by_cases e:j=k
 omega;rcases hor j hj e (Qj (hp.auZ hk hm) (hp.auZ hj hmj))with⟨h1,h2⟩ | ⟨h1,h2⟩ <;>grind;rw[hp.hstep hk];exact L5 hm;have⟨p,h1,h2,W⟩:=hi.heap id;grind [rW]
 ·by_cases hno:own id=none
  by_cases hm:id∈fA (ups k)
  grind
  left;refine hfr id hno ?_;rw[rW hm];cases hdd:dT (aq st.h id)with
  |true=>rfl|false=>have⟨hdx,e,_⟩:=hi.inv.hp.obs id hdd;grind
  rcases hi.dom id with h|h| ⟨j,h1,h2,W⟩ <;>grind
variable {Q:Exit->Act->World->Prop}{Z:Value->St->Prop}
theorem acx(hts:ts.ok P)(hG:atj P G)(hr:ROk N ops)(hd:DOk ops){K:St->Prop}
  (hZ:∀ x own st a w,ati F w0 N own st a w->Z x st->Q (.panic [{ v:=x,recovered:=false}]) a w)
  (hK:∀ own st a w,atV F w0 N ops (· <ops.length) own st a w->K st->Q .normal a w):
  ∀ (V:Nat) (listed:Array Bool) (own:Own) (st:St) (a:Act) (w:World) (b m:Nat) (S:Nat->St) (s:Nat->SV) (ups:Nat->List Up) (fs:Nat->Fp) (R:Nat->Dr),
  auu F w0 N ops b m S s ups listed own st a w->atU ts G ops b m S s ups fs R->va ops b ((List.range m).map fs)->act ts G ops K Z (b+m) (S m)->listed.toList.count false<=V->wpAnyIn (rd ro) nd P .any ops.toArray Q V listed a w:=by
 have hback:∀ (i:Nat) (o:Oper) (j:Nat),ops[i]? =some o->rM o j=true->j<i:=λi o j W hj=>by
  unfold rM at hj;rw[arm]at hj;have⟨e,he,hje⟩:=hj;simp[ap9]at hje;have:=hd.back i o e W XN hje.2;simp_all
 have hdone:∀ (listed:Array Bool) (own:Own) (st:St) (a:Act) (w:World) (b m:Nat) (S:Nat->St) (s:Nat->SV) (ups:Nat->List Up) (fs:Nat->Fp) (R:Nat->Dr),
   auu F w0 N ops b m S s ups listed own st a w->atU ts G ops b m S s ups fs R->act ts G ops K Z (b+m) (S m)->(∀ k,k<ops.length->listed[k]? =some true)->Q .normal a w:=by
  intro listed own st a w b m S s ups fs R hi hp he E;rcases he with⟨_,hk⟩ | ⟨o,W,_⟩;refine hK own (S m) a w ((hi.full hd hp λk hk=>?_).congr λk=>⟨λh=>by have:=(asv.1 h).1;rw[hi.size]at this;exact this,E k⟩) hk;have⟨o,W,_⟩:=hp.fact k hk;grind
  exact absurd (E _ (aqe.1 W).1) (hi.high _ (aqb _))
 have hready:∀ (listed:Array Bool),listed.size=ops.length->Region.ready .any ops.toArray listed=[]->∀ k,k<ops.length->listed[k]? =some true:=by
  intro listed hsz avr k;induction k using Nat.strongRecOn with
  |_ k ih=>
   intro hk;cases hb:listed[k]with
   |true=>grind
   |false=>
    have:k∈Region.ready .any ops.toArray listed:=by
     rw[mem_ready];refine⟨by simp_all,ops[k],by simp[hk],λe he hbe=>?_⟩;have hlt:=hd.back k ops[k] e (aqf hk) he hbe;simp_all <;>grind
    grind
 intro V;induction V with
 |zero=>
  intro listed own st a w b m S s ups fs R hi hp X he hc;have E:∀ k,k<ops.length->listed[k]? =some true:=by
   intro k hk;have hlk:k<listed.size:=by rw[hi.size];exact hk
   cases hb:listed[k]with
   |true=>grind
   |false=>
    grind [List.count_pos_iff]
  refine⟨?_,hdone _ _ _ _ _ _ _ _ _ _ _ _ hi hp he E⟩;cases hrd:Region.ready .any ops.toArray listed with
  |nil=>rfl
  |cons x xs=>
   have hx:x∈Region.ready .any ops.toArray listed:=XN
   grind [CH,mem_ready]
 |succ V ih=>
  intro listed own st a w b m S s ups fs R hi hp X he hc;refine⟨λavr=>hdone _ _ _ _ _ _ _ _ _ _ _ _ hi hp he (hready _ hi.size avr),λi hmem=>?_⟩;rw[mem_ready]at hmem;obtain⟨h0,o,ho',hedge⟩:=hmem;have W:ops[i]? =some o:=XN
  have hni:=CH h0;have hnk:¬listed[i]? =some true:=XN
  have hil:i<ops.length:=(aqe.1 W).1;have hw:∀ j,rM o j=true->listed[j]? =some true:=by
   intro j hj;unfold rM at hj;simp_all <;>grind
  have hE:=Qk hni;have hgE:∀ j b,o.guard=some (j,b)->listed[j]? =some true:=by
   intro j b O;have hrf:oJ ops j:=⟨i,o,b,W,O⟩;have⟨q,d,h1,h2,h3⟩:=hr.uniq j hrf;have hlt:=hr.lt i o j b W O;have hm:d∈o.looksAt ops.toArray:=by
    grind [Oper.looksAt]
   rcases hd.look i j o q d W h1 h2 hm with e| ⟨_,e⟩ | ⟨e,_⟩ <;>grind
  have hcnt:(listed.setIfInBounds i true).toList.count false<=V:=by
   grind
  have hclS:GI ops (λj=>listed[j]? =some true\/j=i):=λj q j' hS hq hj'=>by
   rcases hS with hS|rfl;exact .inl (hi.closed j q j' hS hq hj');grind
  have hib:b<=i:=aqH λh=>hnk (hi.low i XM hil);by_cases hlt:i<b+m
  ·
   obtain⟨k,rfl⟩:∃ k,i=b+k:=⟨i - b,XM⟩;have hk:k<m:=XM
   obtain⟨o',ho2,f⟩:=hp.fact k hk;rw[W]at ho2;cases ho2;have hlk:∀ (j:Nat) (q:Oper) (d:Nat),j<b+k->listed[j]? =some true->oJ ops j->ops[j]? =some q->q.dst=some d->lk d (S k).t=lk d st.t:=λj q d hj hEj hrf hq hqd=>by
    rcases hp.lk d k (XM)with⟨j',q',h1,h2,h3,h4⟩ | ⟨h1,h2⟩;have:=hd.uniq j (b+j') q q' d hq h2 hqd h3;subst this;rw[h4];exact(hi.put j' q d XM hEj hq hqd).symm;rw[h2];refine(hi.old d λj' q' h3 h4 h5 h6=>?_).symm;have:=hd.uniq j (b+j') q q' d hq h5 hqd h6;grind
   unfold wpOpIn;rw[ho'];by_cases Y:GOk ops a o.guard
   ·have hgP:∀ g,o.guard=some g->eb ops (S k).t ops.length g:=λg O=>
     xg hi.inv (b+k) hlk hr.lt ops.length g (hr.lt _ o g.1 g.2 W O) (hgE g.1 g.2 O) ⟨b+k,o,g.2,W,O⟩ XN
    have hu:ups k=(R k).ups:=by
     cases O:o.guard with
     |none=>exact(f.plain O).2.2
     |some g=>
      rcases(f.guarded g O).2 with⟨e,_⟩ | ⟨_,_,e⟩ <;>grind
    have⟨nx,hnx,hdr⟩:=hi.op hd hp X hk W hni hw hu.symm;have hwant:=(n8 (ops:=ops) (a:=a) (o:=o)).2 Y;simp[hwant];have hrun:=UT hts hi.inv hnx Y (λk' c e=>⟨hgE k' c e,b+k,o,c,W,e⟩);have hc':(R k).c:=by
     cases O:o.guard with
     |none=>exact(f.plain O).1|some g=>exact(f.guarded g O).1 (hgP g O)
    have hnd:∀ c,o.op≠ .defer c:=DW (cx:=⟨ts,ops,o.guard,st,nx⟩) (λe=>by grind [lh]);have⟨_,_,hcont⟩:=aeh (ro:=ro) (nd:=nd) (a:=a) (o:=o) hG hi.inv.hp hnx hrun hdr hc';refine⟨λ_ _=>trivial,?_⟩;rw[Oper.semAt_eq _ _ _ hnd];refine hcont _ _ λu l5 w' aun hst=>?_;have hstep:=hi.inv.auC hr hE hnk W hgE Y hst.hp hst.fr aun;rw[<-hu]at hstep;refine ih _ l5 _ _ w' b m S s ups fs R (hi.next hd hp X hk W hni hw ?_ (λid e1 e2=>hst.fresh id e1 XN)) hp X he hcnt;cases O:o.guard with
    |none=>rw[(f.plain O).2.1];exact hstep.1
    |some g=>
     rcases(f.guarded g O).2 with⟨_,e,_⟩ | ⟨_,_,e⟩ <;>grind
   ·have hwant:Region.wanted o (yielded ops.toArray a.tmps)=false:=by
     grind [n8]
    simp only[hwant];refine⟨λ_ _=>trivial,?_⟩;cases O:o.guard with
    |none=>exact absurd (by rw[O];trivial) Y
    |some g=>
     have hgN:=HG hi.inv (b+k) hlk hr.lt ops.length g (hr.lt _ o g.1 g.2 W O) (hgE g.1 g.2 O) ⟨b+k,o,g.2,W,O⟩ XN;have hu:ups k=[]/\∃ x,s k=.gd g.1 g.2 x:=by
      rcases(f.guarded g O).2 with⟨_,e,h0|h0⟩ | ⟨h0,e,_⟩ <;>grind
     have⟨hu,x,hs⟩:=hu;have hsk:=hi.inv.skip (s:=x) hr hE hnk W hgE Y O;refine ih _ own _ _ w b m S s ups fs R (hi.next hd hp X hk W hni hw ?_ (λid e1 _=>e1)) hp X he hcnt;rw[hu,hs];exact hsk
  rcases he with⟨hle,_⟩ | ⟨q,hq,hcut,hx⟩;omega;by_cases hie:i=b+m
  subst hie;rw[W]at hq;cases hq;have E:∀ k,k<m->listed[b+k]? =some true:=λk hk=>by
   have⟨ok,hok,_⟩:=hp.fact k hk;rcases HU hcut (aqe.1 hok).1 (XM)with⟨_,h⟩ | ⟨h,_⟩;grind [NK]
   omega
  have hfull:=hi.full hd hp E;have hset:∀ k,(listed.setIfInBounds (b+m) true)[k]? =some true↔k<b+m+1:=λk=>by
   rw[hE];constructor
   rintro (h|h);exact Nat.lt_succ_of_lt (aqH λhn=>hi.high k XM h);omega;intro h;by_cases e:k=b+m
   exact .inr e;left;by_cases hkb:k<b
   exact hi.low k hkb XM;have:=E (k - b) XM;grind
  have⟨k1,k2⟩:=UN (ro:=ro) (nd:=nd) hts hG hr hE hnk W hgE hfull hZ hx (K:=wpAnyIn (rd ro) nd P .any ops.toArray Q V (listed.setIfInBounds (b+m) true)) (λown st a w hinv hx=>by
   have hinv':=hinv.congr hset;have⟨m',S',s',ups',fs',R',e0,e1,e2,e3⟩:=sim hts hG hr (ops.drop (b+m+1)) (b+m+1) own st a w (b+m+1) [] rfl hinv' hx;subst e0;exact ih _ own (S' 0) a w (b+m+1) m' S' s' ups' fs' R' (auu.start hinv' (by simp[hi.size]) (λk _=>hset k) hr hback) e1 XN e3 hcnt)
  unfold wpOpIn;rw[ho'];by_cases Y:GOk ops a o.guard
  simp[(n8 (ops:=ops) (a:=a) (o:=o)).2 Y];refine⟨λ_ _=>trivial,?_⟩;grind [Oper.semAt_eq]
  grind [n8]
  exfalso;rcases HU hcut hil hie with⟨h,_⟩ | ⟨_,h⟩;omega;exact hi.high _ (aqb _) ((NK hclS (.inr rfl) h).resolve_right XM)
theorem acy(E:ts.ok P)(hG:atj P G)(hr:ROk N ops)(hd:DOk ops){K:St->Prop}
  (Y:∀ x own st a w,ati F w0 N own st a w->Z x st->Q (.panic [{ v:=x,recovered:=false}]) a w)
  (W:∀ own st a w,atV F w0 N ops (· <ops.length) own st a w->K st->Q .normal a w) {own:Own} {st:St} {a:Act} {w:World} (hi:atV F w0 N ops (· <0) own st a w) (X:kK ts G ops K Z ops 0 0 [] st):
  wpAnyIn (rd ro) nd P .any ops.toArray Q ops.toArray.size (Array.replicate ops.toArray.size false) a w:=by
 have⟨m,S,s,ups,fs,R,e0,e1,e2,e3⟩:=sim E hG hr ops 0 own st a w 0 [] rfl hi X;subst e0;refine acx E hG hr hd Y W _ _ own (S 0) a w 0 m S s ups fs R (auu.start hi (by simp) (λk hk=>?_) hr λi o j V O=>?_) e1 XN e3 ?_;grind
 unfold rM at O;rw[arm]at O;have⟨e,he,hje⟩:=O;simp[ap9]at hje;have:=hd.back i o e V XN hje.2;simp_all;simp
end
end Go.Sx
end
section
namespace Go.Sx
section
variable {F:Fence}{n:Nat}{P:Program}{b:Frame}{a:Act}{k:List Item}{cs:List Frame}{w:World}{Q:Exit->Act->World->Prop}
def awn (Q:Exit->Act->World->Prop):Exit->Act->World->Prop
 | .goto _,_,_=>False|e,a,w=>Q e a w
variable {c:Code}
theorem p_:step P (lone (b.atR a (.code (.scope c)::k)) cs w)=.next (lone (b.atR a (.code c:: .inScope c::k)) cs w):=
 step_lone_go (by rfl)
theorem Kv:step P (lone (b.atR a (.inScope c::k)) cs w)=.next (lone (b.atR a k) cs w):=
 step_lone_go (by rfl)
theorem Tk(h:c.wpIn F n P (awn Q) a w):(Code.scope c).wpIn F n P Q a w:=by
 intro b k cs O W hr;have E:(lone (b.atR a (.code (.scope c)::k)) cs w).fenced P F:=fenced_calm W hr rfl;have⟨e,a₁,w₁,hq,harr⟩:=h b (.inScope c::k) cs O W hr;cases e with
 |normal=>exact⟨.normal,a₁,w₁,hq,.head E p_ (StepsIn.trans harr (.one (fenced_calm W hr rfl) Kv))⟩
 |exit id=>exact⟨.exit id,a₁,w₁,hq,λk' X=>.head E p_ (harr.1 k' (by simp[exitTo,X])),λV X=>let ⟨k₁,h1,h2⟩:=harr.2 V (by grind [exitTo]);⟨k₁,h1,.head E p_ h2⟩⟩
 |goto l=>exact hq.elim|ret=>exact⟨_,a₁,w₁,hq,.of_steps (.one E p_) harr⟩|panic Y=>exact⟨_,a₁,w₁,hq,.of_steps (.one E p_) harr⟩|outgrown=>exact⟨_,a₁,w₁,hq,.of_steps (.one E p_) harr⟩
end
open Go.RowKit
section
variable {P:Program}{F:Nat->Prop}{w0:Bs}{ro:Option Nat}{nd:Nat}{ts:Tis}{G:Cons}{L:yS}{N:Nat}
def HW (F:Nat->Prop)(w0:Bs)(N:Nat)(Q:Ex->St->Prop):Exit->Act->World->Prop
 | .normal,a,w=>∃ F1 own st,(∀ b,F b->F1 b)/\ati F1 w0 N own st a w/\Q .normal st| .exit id,a,w=>∃ F1 own st,(∀ b,F b->F1 b)/\ati F1 w0 N own st a w/\Q (.exit id) st| .ret,a,w=>∃ F1 own st,(∀ b,F b->F1 b)/\ati F1 w0 N own st a w/\Q .ret st| .panic ch,a,w=>∃ x F1 own st,(∀ b,F b->F1 b)/\ati F1 w0 N own st a w/\Q (.pan x) st/\ch=[{ v:=x,recovered:=false}]|_,_,_=>False
variable {Q:Ex->St->Prop}
theorem acz{F X:Nat->Prop}{w0:Bs}{N:Nat}(h:∀ b,F b->X b):∀ e a w,HW X w0 N Q e a w->HW F w0 N Q e a w:=by
 intro e a w V;cases e <;>first|exact V.elim|(obtain⟨E,own,st,O,h1,h2⟩:=V;exact⟨E,own,st,λb W=>O b (h b W),h1,h2⟩) |(have⟨x,E,own,st,O,h1,h2,h3⟩:=V;exact⟨x,E,own,st,λb W=>O b (h b W),h1,h2,h3⟩)
def mB (P:Program)(ro:Option Nat)(N id:Nat)(c:Code)(C:St->Option at8):Prop:=
 ∀ (nd:Nat) (F:Nat->Prop) (w0:Bs) st lc,C st=some lc->lc.pre->∀ own a w,ati F w0 N own st a w->(Code.block id c).wpIn (rd ro) nd P (HW F w0 N λe st'=>∃ r,lc.post r/\e=lc.ex r/\st'=lc.out r) a w
def ak (P:Program)(ro:Option Nat)(N:Nat)(L:yS):Code->Prop
 | .seq a b=>ak P ro N L a/\ak P ro N L b| .cond _ a b=>ak P ro N L a/\ak P ro N L b| .block id (.loop c) =>mB P ro N id (.loop c) (L id)| .block id (.rangeFunc f ps a b) =>mB P ro N id (.rangeFunc f ps a b) (L id)| .block _ c=>ak P ro N L c| .scope c=>ak P ro N L c|_=>True
theorem UU (t:Nat){u:List (Nat×SV)}:∀ l:List (Nat×SV),auQ u l->lk t l=.any\/lk t l=lk t u
 | [],_=>.inl rfl
 |(n,s)::r,h=>by
  have O:=UU t r h.2;have e:lk t ((n,s)::r)=bif Nat.beq n t then s else lk t r:=rfl;rw[e];cases E:Nat.beq n t with
  |false=>grind|true=>rw[<-ap_ E];exact .inr h.1.symm
theorem xl{W:Ex->St->Prop}(h:∀ e st,Q e st->W e st):∀ e a w,HW F w0 N Q e a w->HW F w0 N W e a w:=by
 intro e a w V;cases e <;>first|exact V.elim|(obtain⟨E,own,st,O,h1,h2⟩:=V;exact⟨E,own,st,O,h1,h _ _ h2⟩) |(have⟨x,E,own,st,O,h1,h2,h3⟩:=V;exact⟨x,E,own,st,O,h1,h _ _ h2,h3⟩)
variable {ops:Array Oper}{a:Act}{w:World}
theorem HX(hm:P.follows .mixedOrders=true)(V:ts.ok P)(hG:atj P G){id:Nat}{d:Bool}(hc:db N (.region id ops d)=true){st:St}(Y:E7 ts G ops d st Q)
  {own:Own}   (hr:ati F w0 N own st a w):(Code.region id ops d).wpIn (rd ro) nd P (HW F w0 N Q) a w:=by
 simp[db,ap9]at hc;have⟨h1,h2⟩:=hc;have E:=Ys h1;have⟨l⟩:=ops;cases d with
 |false=>
  have O:kH ts G l l st (λst'=>Q .normal (Cr l st')) (λx st'=>Q (.pan x) st'):=Y;refine wpIn_region_list ?_;exact S7 V hG E (λx own st a w h1 h2=>⟨x,F,own,st,λ_ h=>h,h1,h2,rfl⟩) l 0 own st a w rfl (hr.start l λk X=>XM) O λown st a w hi X=>⟨F,own,_,λ_ h=>h,ati.finish hi,X⟩
 |true=>
  have O:kK ts G l (λst'=>Q .normal (Cr l st')) (λx st'=>Q (.pan x) st') l 0 0 [] st:=Y;have W:=afE (ops:=l) XN;refine wpIn_region_any hm ?_;exact acy V hG E W (λx own st a w h1 h2=>⟨x,F,own,st,λ_ h=>h,h1,h2,rfl⟩) (λown st a w hi X=>⟨F,own,_,λ_ h=>h,ati.finish hi,X⟩) (hr.drew.start l λk X=>XM) O
theorem ati.auQ{own:Own}{st d:St}(h1:ati F w0 N own st a w)(O:st.h=d.h)(E:Sx.auQ st.t d.t):ati F w0 N own d a w:=by
 refine⟨h1.size,h1.defers,O▸h1.hp,h1.fr,λt=>?_⟩;rcases UU t _ E with e|e;rw[e];exact .any _;rw[e];exact h1.slots t
theorem WA(X:P.follows .mixedOrders=true)(O:ts.ok P)(hG:atj P G){id:Nat}{d:Bool}(hc:db N (.region id ops d)=true){st:St}(Y:exec ts G L (.region id ops d) st Q)
  {own:Own}   (hr:ati F w0 N own st a w):(Code.region id ops d).wpIn (rd ro) nd P (HW F w0 N Q) a w:=by
 have E:Hi (E7 ts G ops d st) Q (L (id+2000000) st):=Y;cases W:L (id+2000000) st with
 |none=>rw[W]at E;exact HX X O hG hc E hr
 |some lc=>
  rw[W]at E;refine wpIn_mono (HX X O hG hc E.1 hr) λe a' w' V=>?_;cases e with
  |normal=>
   have⟨F1,l5,st',h0,h1,r,h2,h3,h4⟩:=V;exact⟨F1,l5,_,h0,h1.auQ h3 h4,E.2 r h2⟩
  |exit id=>exact V|ret=>exact V|panic ch=>exact V|_=>exact V.elim
theorem ut (hm:P.follows .mixedOrders=true)(hts:ts.ok P)(hG:atj P G):∀ (c:Code),db N c=true->ak P ro N L c->∀ (F:Nat->Prop) (st:St) (Q:Ex->St->Prop),exec ts G L c st Q->
  ∀ own a w,ati F w0 N own st a w->c.wpIn (rd ro) nd P (HW F w0 N Q) a w:=by
 intro c;induction c with
 |skip=>intro _ _ F st Q O own a w hr;exact wpIn_skip ⟨F,own,st,λ_ h=>h,hr,O⟩
 |region id ops d=>intro hc _ F st Q O own a w hr;exact WA hm hts hG hc O hr
 |seq x y ih1 ih2=>
  intro hc Y F st Q O own a w hr;simp[db,ap9]at hc;refine wpIn_seq (wpIn_mono (ih1 hc.1 Y.1 F st _ O own a w hr) ?_);intro e a' w' X;cases e with
  |normal=>have⟨F1,l5,st',h0,h1,h2⟩:=X;exact wpIn_mono (ih2 hc.2 Y.2 F1 st' Q h2 l5 a' w' h1) (acz h0)|exit id=>exact X|ret=>exact X|panic ch=>exact X|_=>exact X.elim
 |cond c x y ih1 ih2=>
  intro hc Y F st Q O own a w hr;simp[db,ap9]at hc;have key:∀ Q:Ex->St->Prop,Cs (exec ts G L x st Q) (exec ts G L y st Q) (raw st.t c)->(Code.cond c x y).wpIn (rd ro) nd P (HW F w0 N Q) a w:=by
   intro Q E;cases c with
   |tmp n=>
    have hs:=hr.slots n;have W:Cs (exec ts G L x st Q) (exec ts G L y st Q) (lk n st.t):=E;unfold Cs at W;split at W
    rename_i b hb;rw[hb]at hs;have he:a.eval (.tmp n)=.bool b:=cV hs;exact wpIn_cond_split he (λh=>ih1 hc.1 Y.1 F st Q (W.1 h) own a w hr) (λh=>ih2 hc.2 Y.2 F st Q (W.2 h) own a w hr);grind
   |const v=>
    have W:Cs (exec ts G L x st Q) (exec ts G L y st Q) (.v v):=E;unfold Cs at W;split at W
    rename_i b hb;cases hb;exact wpIn_cond_split (t:=b) rfl (λh=>ih1 hc.1 Y.1 F st Q (W.1 h) own a w hr) (λh=>ih2 hc.2 Y.2 F st Q (W.2 h) own a w hr);grind
   |global g=>exact(E:False).elim|func f=>exact(E:False).elim
  have E:Hh (exec ts G L x st) (exec ts G L y st) Q (raw st.t c) (L (Ye c) st):=O;cases V:L (Ye c) st with
  |none=>rw[V]at E;exact key Q E
  |some lc=>
   rw[V]at E;refine wpIn_mono (key _ E.1) λe a' w' X=>?_;cases e with
   |normal=>
    have⟨F1,l5,st',h0,h1,r,h2,h3,h4⟩:=X;exact⟨F1,l5,_,h0,h1.auQ h3 h4,E.2 r h2⟩
   |exit id=>have⟨_,_,_,_,_,_,_,h⟩:=X;exact h.elim|ret=>have⟨_,_,_,_,_,_,_,h⟩:=X;exact h.elim|panic ch=>have⟨_,_,_,_,_,_,⟨_,_,h⟩,_⟩:=X;exact h.elim|_=>exact X.elim
 |block id c ih=>
  intro hc Y F st Q O own a w hr;have key:(∀ b,c≠ .loop b)->(∀ f ps a b,c≠ .rangeFunc f ps a b)->(Code.block id c).wpIn (rd ro) nd P (HW F w0 N Q) a w:=by
   intro hne hne2;have E:exec ts G L c st (Ex.block id Q):=by cases c <;>first|exact O|exact absurd rfl (hne _) |grind
   have hl':ak P ro N L c:=by cases c <;>first|exact Y|exact absurd rfl (hne _) |grind
   refine wpIn_block (wpIn_mono (ih (by grind [db]) hl' F st _ E own a w hr) ?_);intro e a' w' X;cases e with
   |normal=>exact X|ret=>exact X|panic ch=>exact X
   |exit j=>
    have⟨F1,l5,st',h0,h1,h2⟩:=X;have h2':(bif Nat.beq j id then Q .normal st' else Q (.exit j) st'):=h2;show if j=id then _ else _;by_cases hj:j=id
    subst hj;rw[if_pos rfl];simp[atg]at h2';exact⟨F1,l5,st',h0,h1,h2'⟩;rw[if_neg hj];have:Nat.beq j id=false:=by cases hb:Nat.beq j id <;>simp_all
    rw[this]at h2';exact⟨F1,l5,st',h0,h1,h2'⟩
   |_=>exact X.elim
  cases c with
  |loop b=>
   have E:un Q (L id st):=O;have hl':mB P ro N id (.loop b) (L id):=Y;cases V:L id st with
   |none=>rw[V]at E;exact E.elim
   |some lc=>
    rw[V]at E;refine wpIn_mono (hl' nd F w0 st lc V E.1 own a w hr) (xl λe st'=>?_);rintro⟨r,h1,rfl,rfl⟩;exact E.2 r h1
  |rangeFunc f ps b1 b2=>
   have E:un Q (L id st):=O;have hl':mB P ro N id (.rangeFunc f ps b1 b2) (L id):=Y;cases V:L id st with
   |none=>rw[V]at E;exact E.elim
   |some lc=>
    rw[V]at E;refine wpIn_mono (hl' nd F w0 st lc V E.1 own a w hr) (xl λe st'=>?_);rintro⟨r,h1,rfl,rfl⟩;exact E.2 r h1
  |_=>exact key (λb h=>by cases h) (λ_ _ _ _ h=>by cases h)
 |exit id=>intro _ _ F st Q O own a w hr;exact wpIn_exit ⟨F,own,st,λ_ h=>h,hr,O⟩
 |ret=>intro _ _ F st Q O own a w hr;exact wpIn_ret ⟨F,own,st,λ_ h=>h,hr,O⟩
 |scope c ih=>intro hc Y F st Q O own a w hr;exact Tk (wpIn_mono (ih hc Y F st Q O own a w hr) λe a w h=>by cases e <;>first|exact h|exact h.elim)
 |label l=>intro _ _ F st Q O own a w hr;exact wpIn_label ⟨F,own,st,λ_ h=>h,hr,O⟩
 |_=>intro _ _ F st Q O;exact(O:False).elim
end
end Go.Sx
end
section
namespace Go.Sx
open Go.RowKit
section
variable {P:Program}{F:Nat->Prop}{own X1:Own}{w:World}{w0:Bs}{ro:Option Nat}{nd:Nat}{ts:Tis}{G:Cons}{L:yS}{N:Nat}
structure Un (m:Nat->Option Nat)(n:Nat)(own X1:Own):Prop where
 ids:∀ k,k<n->∀ hd,(m k).bind own=some hd->∃ hd',X1 k=some hd'/\hd.like hd'
theorem aej {m:Nat->Option Nat}{n:Nat}(hm:Un m n own X1)(hk:∀ k,k<n->(m k).isSome=true)(ho:∀ b,¬dn F own b->¬dn F X1 b):∀ (f:Nat) (s:SV) (v:Value),ox f n s=true->Rel F own w (ren m f s) v->Rel F X1 w s v:=by
 have base:∀ (f:Nat) (s:SV) (v:Value),ox f n s=true->Rel F own w (ren m f s) v->(∀ l o,s≠ .ep l o)->(∀ z l,s≠ .ls z l)->(∀ l,s≠ .agg l)->(∀ l,s≠ .tup l)->(∀ f l l2,s≠ .fn f l l2)->Rel F X1 w s v:=by
  intro f s v hi hr n1 n2 n3 n4 n5;have hlt:∀ {id},Nat.blt id n=true->∃ j,m id=some j/\id<n:=λ{id} h=>by
   have V:id<n:=nbl h;cases hm':m id <;>grind
  cases s with
  |any=>exact .any _|v x=>cases f <;>(have E:Rel F own w (.v x) v:=hr) <;>rw[cV E] <;>exact .v _|e0=>cases f <;>(have E:Rel F own w .e0 v:=hr) <;>cases E <;>exact .e0|rs k l=>cases f <;>(have E:Rel F own w (.rs k l) v:=hr) <;>exact E.atF (.rs) ho|rc k l=>cases f <;>(have E:Rel F own w (.rc k l) v:=hr) <;>exact E.atF (.rc) ho|rm k k2 l=>cases f <;>(have E:Rel F own w (.rm k k2 l) v:=hr) <;>exact E.atF (.rm) ho
  |ptr id off=>
   have Y:Nat.blt id n=true:=by cases f <;>exact hi
   have⟨j,e,V⟩:=hlt Y;have E:Rel F own w (.ptr j off) v:=by grind [ren,Cp]
   cases E with
   |ptr h1 h2=>
    obtain⟨hd',X,W⟩:=hm.ids id V _ (by rw[e];exact h1);exact .ptr X (by rw[W.1];exact h2)
  |os id=>
   have Y:Nat.blt id n=true:=by cases f <;>exact hi
   have⟨j,e,V⟩:=hlt Y;have E:Rel F own w (.os j) v:=by grind [ren,Cp]
   cases E with
   |os h1 h2=>
    obtain⟨hd',X,W⟩:=hm.ids id V _ (by rw[e];exact h1);rw[<-W.2.1];exact .os X (by rw[W.2.1];exact h2)
  |rp sz id i off=>
   have Y:Nat.blt id n=true:=by cases f <;>exact hi
   have⟨j,e,V⟩:=hlt Y;have E:Rel F own w (.rp sz j i off) v:=by grind [ren,Cp]
   cases E with
   |rp h1 h2 h3=>
    obtain⟨hd',X,W⟩:=hm.ids id V _ (by rw[e];exact h1);exact .rp X (by rw[W.2.1];exact h2) h3
  |vw sz id lo hh=>
   have Y:Nat.blt id n=true:=by cases f <;>exact hi
   have⟨j,e,V⟩:=hlt Y;have E:Rel F own w (.vw sz j lo hh) v:=by grind [ren,Cp]
   cases E with
   |vw h1 h2 h3=>
    obtain⟨hd',X,W⟩:=hm.ids id V _ (by rw[e];exact h1);exact .vw X (by rw[W.2.1];exact h2) h3
  |gr id i=>
   have Y:Nat.blt id n=true:=by cases f <;>exact hi
   have⟨j,e,V⟩:=hlt Y;have E:Rel F own w (.gr j i) v:=by grind [ren,Cp]
   cases E with
   |gr h1 h2 h3=>
    obtain⟨hd',X,W⟩:=hm.ids id V _ (by rw[e];exact h1);exact .gr X (by rw[W.2.2];exact h2) h3
  |gp sz id i i2 off=>
   have Y:Nat.blt id n=true:=by cases f <;>exact hi
   have⟨j,e,V⟩:=hlt Y;have E:Rel F own w (.gp sz j i i2 off) v:=by grind [ren,Cp]
   cases E with
   |gp h1 h2 h3=>
    obtain⟨hd',X,W⟩:=hm.ids id V _ (by rw[e];exact h1);exact .gp X (by rw[W.2.2];exact h2) h3
  |ep l o=>grind|ls z l=>grind|agg l=>grind|tup l=>grind|fn f l l2=>grind|_=>cases f <;>simp[ox]at hi
 intro f;induction f with
 |zero=>
  intro s v hi hr;refine base 0 s v hi hr ?_ ?_ ?_ ?_ ?_ <;>intros <;>(intro e;subst e;simp[ox]at hi)
 |succ f ih=>
  intro s v hi hr;cases s with
  |ep l o=>
   simp[ox,aqU]at hi;cases hr with
   |ep c h1 h2=>
    have hg:∀ (j:Nat) (s:SV),l[j]? =some s->(l.map (ren m f))[j]? =some (ren m f s):=λj s O=>by simp[O]
    exact .ep c (λj s O=>⟨ho _ (h1 j _ (hg j s O)).1,(h1 j _ (hg j s O)).2⟩) λj s O=>ih s _ (hi s (aql O)) (h2 j _ (hg j s O))
  |ls z l=>
   simp[ox,aqU]at hi;generalize hq:l.map (ren m f)=l' at hr;cases hr with
   |ls c hz h0 h1 h2=>
    subst hq;have hg:∀ (j:Nat) (s:SV),l[j]? =some s->(l.map (ren m f))[j]? =some (ren m f s):=λj s O=>by simp[O]
    rw[aq5]at hz;exact .ls c hz h0 (λj s O=>⟨ho _ (h1 j _ (hg j s O)).1,(h1 j _ (hg j s O)).2⟩) λj s O=>ih s _ (hi s (aql O)) (h2 j _ (hg j s O))
  |agg l=>
   simp[ox,aqU]at hi;cases hr with
   |agg h0 h1=>exact .agg XN λj s O=>ih s _ (hi s (aql O)) (h1 j _ (by simp[O]))
  |tup l=>
   simp[ox,aqU]at hi;cases hr with
   |tup h0 h1=>exact .tup XN λj s O=>ih s _ (hi s (aql O)) (h1 j _ (by simp[O]))
  |fn g l l2=>
   simp[ox,ap9,aqU]at hi;cases hr with
   |fn h0 h0' h1 h2=>exact .fn XN XN (λj s O=>ih s _ (hi.1 s (aql O)) (h1 j _ (by simp[O]))) λj s O=>ih s _ (hi.2 s (aql O)) (h2 j _ (by simp[O]))
  |_=>refine base (f+1) _ v hi hr ?_ ?_ ?_ ?_ ?_ <;>intros <;>(intro e;cases e)
theorem UV:∀ a l:List SV,(wkL a l).length=l.length
 | [],[] =>rfl| [],_::_=>rfl|_::_,[] =>rfl
 |_::r,_::s=>by simp[wkL,UV r s]
theorem UW:∀ (a l:List SV) (j:Nat) (s:SV),(wkL a l)[j]? =some s->s=.any\/l[j]? =some s
 | [],l,j,s,h=>.inr (by cases l <;>exact h)
 |_::_,[],j,s,h=>.inr h
 |a::r,x::l,0,s,h=>by
  grind [wkL]
 |a::r,x::l,j+1,s,h=>by
  rcases UW r l j s h with h|h <;>grind
theorem Qm:∀ l:List SV,wkL l l=l
 | [] =>rfl
 |x::l=>by
  have:(bif UA x then SV.any else x)=x:=by cases x <;>rfl
  simp[wkL,this,Qm l]
attribute [go_sem] Qm
theorem WB (a o:Ob):dT (Hl a o)=dT o:=by
 unfold Hl;split <;>rfl
theorem YJ (a:Ob){hd:Hd}{o:Ob}(h:atY F own w hd o):atY F own w hd (Hl a o):=by
 unfold Hl;split
 rename_i kk V l p;have⟨b,es,clk,h1,h2,h3,E,h5,O⟩:=h;match p,E,O with
 |none,E,O=>exact⟨b,es,clk,h1,h2,h3,E,h5,O⟩|some (i,none),E,O=>exact⟨b,es,clk,h1,h2,h3,E,h5,trivial⟩|some (i,some x),E,O=>exact⟨b,es,clk,h1,h2,h3,E,h5,O⟩
 rename_i a l;have⟨b,cs,ty,h1,h2,h3,E,h5⟩:=h;exact⟨b,cs,ty,h1,h2,h3,by grind [UV],λj s hj=>by
  rcases UW a l j s hj with rfl|hj;exact .any _;grind⟩
 exact h
theorem afH {m:Nat->Option Nat}{n:Nat}(hm:Un m n own X1)(hk:∀ k,k<n->(m k).isSome=true)(ho:∀ b,¬dn F own b->¬dn F X1 b){hd:Hd}{o:Ob}(hi:yT n o=true)(h:atY F own w hd (xT m o)):atY F X1 w hd o:=by
 cases o with
 |cells l=>
  simp[yT,aqU]at hi;have⟨b,cs,ty,h1,h2,O,W,X⟩:=h;exact⟨b,cs,ty,h1,h2,O,XN,λj s hj=>aej hm hk ho 3 s _ (hi s (aql hj)) (X j _ (by simp[hj]))⟩
 |dead=>trivial|row k l=>exact atJ.atF h (.inl ho)|fz k l=>exact Rel.atF h .rs ho
 |mp kk vk l aui=>
  have key:∀ q,atY F own w hd (.mp kk vk l q)->(∃ b es E,hd.v=.map (some b)/\hd.bs=[b]/\w.heap[b]? =some (.map es E)/\aum F X1 w kk vk (fB kk vk l q) es/\Stamped es E/\auO own kk vk l es E q):=λq h=>by
   have⟨b,es,E,h1,h2,O,W,X,Y⟩:=h;exact⟨b,es,E,h1,h2,O,⟨W.1,λi x hi=>by
    have⟨e,e1,e2,e3,e4⟩:=W.2 i x hi;exact⟨e,e1,e2,e3.atF (wN _ _) ho,e4.atF (wN _ _) ho⟩⟩,X,Y⟩
  match aui,hi,h with
  |none,_,h=>have⟨b,es,E,h1,h2,O,W,X,Y⟩:=key _ h;exact⟨b,es,E,h1,h2,O,W,X,trivial⟩
  |some (i,q),hi,h=>
   have hlt:i<n:=by grind [yT,Nat.blt_eq]
   change atY F own w hd (V9 kk vk l q (m i))at h;cases V:m i with
   |none=>grind
   |some j=>
    rw[V]at h;have h':atY F own w hd (.mp kk vk l (some (j,q))):=by cases q <;>exact h
    have⟨b,es,E,h1,h2,O,W,X,Y⟩:=key _ h';cases q with
    |none=>
     have⟨hd2,t1,t2⟩:=Y;have⟨hd',e1,e2⟩:=hm.ids i hlt hd2 XN;exact⟨b,es,E,h1,h2,O,W,X,hd',e1,e2.2.2.trans t2⟩
    |some x=>
     have⟨hd2,e,t1,t2,t3⟩:=Y;have⟨hd',e1,e2⟩:=hm.ids i hlt hd2 XN;exact⟨b,es,E,h1,h2,O,W,X,hd',e,e1,t2,e2.2.1.trans t3⟩
 |atH k l=>
  rcases h with h| ⟨b,o,cap,cs,ty,bs,h1,h2,O,W,X,Y,h7,h8,h9⟩;exact .inl h;exact .inr ⟨b,o,cap,cs,ty,bs,h1,h2,O,W,X,Y,h7,h8,h9.atF (.inl ho)⟩
 |ab r=>
  refine⟨h.1,r.loc _ _ _ w w h.2 (aqb _) (λb hbl hn=>rfl) (λb hbl hn=>⟨aqH λhc=>ho b hc hn.1,hn.2⟩)⟩
 |raw o=>exact h
 |mi mid n0 left cur=>
  have⟨b,h1,h2,O⟩:=h;refine⟨b,h1,h2,λi hj=>?_⟩;subst hj;simp[yT]at hi;have hlt:i<n:=by simp_all
  cases V:m i with
  |none=>grind
  |some j=>
   have⟨hdm,bm,seen,c0,ss,k1,k2,k3,k4⟩:=O j (by simp[V]);have⟨hd',e1,e2⟩:=hm.ids i hlt hdm XN;exact⟨hd',bm,seen,c0,ss,e1,e2.2.1.trans k2,k3,k4⟩
 |fwd n0=>
  intro i hj;subst hj;simp[yT]at hi;have hlt:i<n:=by simp_all
  cases V:m i with
  |none=>grind
  |some j=>
   have⟨hdm,k1,k2,k3⟩:=h j (by simp[V]);have⟨hd',e1,e2⟩:=hm.ids i hlt hdm XN;exact⟨hd',e1,e2.2.1.trans k2,k3⟩
theorem GJ {m:Nat->Option Nat}{t:List (Nat×SV)}{n:Nat}(i:Nat):∀ t2,Yh m n t t2->lk i t2=.any\/(lk i t=ren m 5 (lk i t2)/\ox 5 n (lk i t2)=true)
 | [],_=>.inl rfl
 |(j,s)::r,h=>by
  have⟨⟨h1,h2⟩,h3⟩:=h;rw[t9];by_cases E:j=i
  grind
  rw[if_neg E];exact GJ i r h3
theorem Qn {m:Nat->Option Nat}{n:Nat}{h:List Ob}:∀ (js:List Nat) (h2:List Ob),Kr m n h js h2->js.length=h2.length/\∀ (i j:Nat),js[i]? =some j->Nm m n h j (aq h2 i)
 | [],[],_=>⟨rfl,λi j O=>by simp at O⟩
 | [],_::_,E=>E.elim|_::_,[],E=>E.elim
 |j::js,o::r,E=>by
  have⟨q1,q2⟩:=Qn js r E.2;refine⟨by simp[q1],λi V O=>?_⟩;cases i with
  |zero=>simp at O;subst O;exact E.1
  |succ i=>exact q2 i V XN
theorem zD:∀ (js:List Nat) (h:List Ob) (i j:Nat),js[i]? =some j->dT (aq h i)=false->j∈nX js h
 | [],h,i,j,hj,_=>by simp at hj
 |j0::js,[],i,j,_,hl=>by simp[aq,dT]at hl
 |j0::js,o::r,0,j,hj,hl=>by
  simp_all [aq,nX]
 |j0::js,o::r,i+1,j,hj,hl=>by
  have:=zD js r i j XN (by grind [aq]);grind [nX]
theorem L6:∀ (js:List Nat) (h:List Ob) (i E j:Nat),uniq (nX js h)=true->js[i]? =some j->js[E]? =some j->dT (aq h i)=false->dT (aq h E)=false->i=E
 | [],h,i,E,j,_,hj,_,_,_=>by simp at hj
 |j0::js,[],i,E,j,_,_,_,hl,_=>by simp[aq,dT]at hl
 |j0::js,o::r,i,E,j,X,h1,h2,l1,V=>by
  have W:uniq (nX js r)=true:=by
   grind [nX,uniq]
  have O:dT o=false->j0 ∉ nX js r:=λhd=>by
   simp[nX,hd,cond_false,uniq]at X;grind [zC]
  cases i with
  |zero=>
   simp at h1;subst h1;cases E with
   |zero=>rfl
   |succ E=>exact absurd (zD js r E j0 (by simpa using h2) (by simpa[aq]using V)) (O (by simpa[aq]using l1))
  |succ i=>
   cases E with
   |zero=>simp at h2;subst h2;exact absurd (zD js r i j0 (by simpa using h1) (by simpa[aq]using l1)) (O (by simpa[aq]using V))
   |succ E=>rw[L6 js r i E j W (by simpa using h1) (by simpa using h2) (by simpa[aq]using l1) (by simpa[aq]using V)]
theorem HY:∀ (js:List Nat) (i n:Nat),DN i js n=true->∀ k j,js[k]? =some j->i+k<n->j=i+k
 | [],i,n,_,k,j,E,_=>by simp at E
 |j0::js,i,n,h,k,j,E,hlt=>by
  simp[DN,ap9]at h;cases k with
  |zero=>
   simp at E;simp_all <;>grind
  |succ k=>
   have:=HY js (i+1) n h.2 k j XN XM;omega
def jx (c:List Nat)(a:List Ob)(d:Own):Own:=λk=>if k<a.length then((c[k]?).bind d).map (λb=>if dT (aq a k)then { b with bs:=[]}else b)else none
theorem j6 {js:List Nat}{h2:List Ob}{k:Nat}{hd:Hd}(h:jx js h2 own k=some hd):k<h2.length/\∃ j hd0,js[k]? =some j/\own j=some hd0/\hd0.like hd/\(∀ b∈hd.bs,dT (aq h2 k)=false/\hd=hd0):=by
 unfold jx at h;split at h
 rename_i hlt;rw[arn]at h;have⟨hd0,h1,h2'⟩:=h;rw[Option.bind_eq_some_iff]at h1;have⟨j,e1,e2⟩:=h1;refine⟨hlt,j,hd0,e1,e2,?_,?_⟩;split at h2' <;>subst h2' <;>exact⟨rfl,rfl,rfl⟩
 grind
 cases h
theorem YK {js:List Nat}{h2:List Ob}{b:Nat}(E:¬dn F own b):¬dn F (jx js h2 own) b:=by
 rintro (V| ⟨k,hd,e,O⟩);exact E (.inl V);have⟨_,j,hd0,_,e2,_,e4⟩:=j6 e;have⟨_,rfl⟩:=e4 b O;exact E (.inr ⟨j,hd,e2,O⟩)
variable {n0:Nat}{st E:St}
theorem Tl{js:List Nat}(hs:Sub js n0 st E)(Y:Hp F own w st.h)(hle:n0<=E.h.length):
  Hp F (jx js E.h own) w E.h/\(∀ F b,¬dn F own b->¬dn F (jx js E.h own) b)/\(∀ (F:Nat->Prop) (f:Nat) (s:SV) (v:Value),ox f E.h.length s=true->Rel F own w (ren (Hm js) f s) v->Rel F (jx js E.h own) w s v)/\∀ id hd,id<n0->own id=some hd->∃ hd',jx js E.h own id=some hd'/\hd.like hd':=by
 have⟨⟨hu,hk,hlt⟩,_,hh⟩:=hs;have⟨hlen,hob⟩:=Qn js E.h hh;have hjs:∀ k,k<E.h.length->(Hm js k).isSome=true:=λk hkl=>by
  show(nth js k).isSome=true;grind [gW]
 have hun:Un (Hm js) E.h.length own (jx js E.h own):=⟨λk hkl hd e=>by
  have e':(js[k]?).bind own=some hd:=by rw[<-gW];exact e
  refine⟨if dT (aq E.h k)then { hd with bs:=[]}else hd,?_,?_⟩;simp_all [jx];split <;>exact⟨rfl,rfl,rfl⟩⟩
 have O:∀ (F:Nat->Prop) b,¬dn F own b->¬dn F (jx js E.h own) b:=λF b V=>YK V;refine⟨⟨λid hd e=>(j6 e).1,Y.atu,λid hd b e V=>?_,λi j hi hj b e1 W hb1 hb2=>?_,λid hd b e V=>?_,λid hdd=>?_⟩,O,λF f s v=>aej hun hjs (O F) f s v,λid hd hid e=>?_⟩;have⟨_,j,hd0,_,W,_,e4⟩:=j6 e;have⟨_,rfl⟩:=e4 b V;exact Y.apart j hd b W V;have⟨_,j1,X,p1,p2,_,p4⟩:=j6 e1;have⟨_,j2,hd2,q1,q2,_,q4⟩:=j6 W;have⟨l1,rfl⟩:=p4 b hb1;have⟨l2,rfl⟩:=q4 b hb2;have:=Y.inj j1 j2 hi hj b p2 q2 hb1 hb2;grind [L6]
 have⟨_,j,hd0,_,W,_,e4⟩:=j6 e;have⟨_,rfl⟩:=e4 b V;exact Y.lt j hd b W V;have hidl:id<E.h.length:=by
  rcases ari id E.h.length with h|h;exact h;rw[ve h]at hdd;cases hdd
 have hj:∃ j,js[id]? =some j:=⟨js[id]'(XM),by simp⟩;have⟨j,hj⟩:=hj;have ho:=hob id j hj;unfold Nm at ho;have X:dT (aq st.h j)=false:=by grind [WB,x8]
 have⟨hd,e1,W⟩:=Y.obs j X;grind [YJ,afH,jx]
 have hjid:js[id]? =some id:=by
  grind [HY]
 refine⟨if dT (aq E.h id)then { hd with bs:=[]}else hd,?_,?_⟩;unfold jx;grind;split <;>exact⟨rfl,rfl,rfl⟩
theorem NM{js:List Nat}(X:Sub js n0 st E)(Y:Hp F own w st.h)(O:Fr w0 own w)(hn:∀ id hd,w0.own id=some hd->id<n0)(V:n0<=E.h.length):
  Hp F (jx js E.h own) w E.h/\Fr w0 (jx js E.h own) w/\(∀ b,¬dn F own b->¬dn F (jx js E.h own) b)/\∀ (f:Nat) (s:SV) (v:Value),ox f E.h.length s=true->Rel F own w (ren (Hm js) f s) v->Rel F (jx js E.h own) w s v:=by
 have⟨q1,q2,q3,q4⟩:=Tl X Y V;refine⟨q1,⟨λid hd e=>?_,λid hd b e W=>?_,O.os,O.tape,O.output,O.size,O.block⟩,q2 F,q3 F⟩;have⟨hd1,e1,l1⟩:=O.ids id hd e;have⟨hd2,e2,l2⟩:=q4 id hd1 (hn id hd e) e1;exact⟨hd2,e2,l1.trans l2⟩;have⟨_,j,hd0,_,e2,_,e4⟩:=j6 e;have⟨_,rfl⟩:=e4 b W;exact O.base j hd b e2 W
theorem ati.sub{a:Act}{w:World}(h:ati F w0 N own st a w){js:List Nat}(V:Sub js n0 st E)(hn:∀ id hd,w0.own id=some hd->id<n0)(O:n0<=E.h.length):ati F w0 N (jx js E.h own) E a w:=by
 have⟨q1,q2,q3,q4⟩:=NM V h.hp h.fr hn O;refine⟨h.size,h.defers,q1,q2,λt=>?_⟩;rcases GJ t _ V.2.1 with e| ⟨X,W⟩;rw[e];exact .any _;have:=h.slots t;grind
theorem L7 (hm:P.follows .mixedOrders=true)(hts:ts.ok P)(hG:atj P G){id:Nat}{c:Code}(hc:db N c=true){σ:Type}(D:σ->St)(I:σ->Prop)(m:σ->Nat)(n0:Nat)(hn:∀ id hd,w0.own id=some hd->id<n0)(Q:Ex->St->Prop)
  (X:∀ x,I x->∃ L Qx,ak P ro N L c/\(∀ e st',Qx e st'->xV D I m n0 x id Q e st')/\exec ts G L c (D x) Qx):
  ∀ x,I x->∀ own a w,ati F w0 N own (D x) a w->(Code.block id (.loop c)).wpIn (rd ro) nd P (HW F w0 N Q) a w:=by
 intro x hx own a w hr;refine wpIn_block (wpIn_loop_ghost (λn a w=>∃ x E own,I x/\m x=n/\(∀ b,F b->E b)/\ati E w0 N own (D x) a w) (m x) ⟨x,F,own,hx,rfl,λ_ h=>h,hr⟩ ?_);rintro n a w ⟨x,F2,own,hx,rfl,O,hr⟩;have⟨L,Qx,hl,hQx,hex⟩:=X x hx;refine wpIn_mono (wpIn_mono (ut hm hts hG c hc hl F2 (D x) _ hex own a w hr) (xl hQx)) ?_;intro e a' w' Y;cases e with
 |normal=>
  have⟨E,l5,st',h0,h1,y,js,h2,h3,h5,h4⟩:=Y;exact⟨m y,h3,y,E,_,h2,rfl,λb V=>h0 b (O b V),h1.sub h4 hn h5⟩
 |exit j=>
  have⟨E,l5,st',h0,h1,h2⟩:=Y;have W:(bif Nat.beq j id then Q .normal st' else Q (.exit j) st'):=h2;show if j=id then _ else _;by_cases hj:j=id
  subst hj;rw[if_pos rfl];simp[atg]at W;exact⟨E,l5,st',λb V=>h0 b (O b V),h1,W⟩;rw[if_neg hj];have:Nat.beq j id=false:=by cases V:Nat.beq j id <;>simp_all
  rw[this]at W;exact⟨E,l5,st',λb V=>h0 b (O b V),h1,W⟩
 |ret=>
  have⟨E,l5,st',h0,h1,h2⟩:=Y;exact⟨E,l5,st',λb V=>h0 b (O b V),h1,h2⟩
 |panic ch=>
  have⟨x,E,l5,st',h0,h1,h2,h3⟩:=Y;exact⟨x,E,l5,st',λb V=>h0 b (O b V),h1,h2,h3⟩
 |_=>exact Y.elim
end
section
variable {P:Program}{F:Nat->Prop}{w0:Bs}{ro:Option Nat}{nd:Nat}{ts:Tis}{G:Cons}{L:yS}{N:Nat}
theorem Qo:∀ (l:List SV) (n t:Nat),lk t (pZ n l)=if n<=t then(l[t - n]?).getD .any else .any
 | [],n,t=>by simp[pZ,lk]
 |s::r,n,t=>by
  rw[pZ,t9,Qo r (n+1) t];grind
def YL (tmps:Array Value):ResultVar->Sem Value
 | .tmp t=>pure (tmps.getD t undef)| .cell q t=>do loadVar t (<-asAddr (tmps.getD q undef))
theorem Tm (fn:Func)(tmps:Array Value):results fn tmps=(do let vs <-fn.results.mapM (YL tmps);pure (if h:vs.size=1 then vs[0]else .tuple vs)):=by
 rfl
structure avX (Ds:List Nat)(w w':World):Prop where
 size:w'.heap.size=w.heap.size
 block:∀ k,k ∉ Ds->w'.heap[k]? =w.heap[k]?
 os:w'.os=w.os
 tape:w'.tape=w.tape
 output:w'.output=w.output
theorem DX {fn:Func}{tmps:Array Value}{R:Ending->World->Prop}{u:FrameMode}(X:u≠ .run){bs:List Deferred}:∀ (Ds:List Nat) (ds:List Deferred) (w:World),ds.map (·.target)=Ds.map .collected->Ds.Nodup->
  (∀ D∈Ds,w.heap[D]? =some (.deferred (some [])))->(∀ V,avX Ds w V->LeavesInM (rd none) nd P fn tmps R bs u V)->LeavesInM (rd none) nd P fn tmps R (ds++bs) u w
 | [],[],w,_,_,_,h=>h w ⟨rfl,λ_ _=>rfl,rfl,rfl,rfl⟩
 | [],_::_,w,E,_,_,_=>by simp at E
 |_::_,[],w,E,_,_,_=>by simp at E
 |D::Ds,d::ds,w,E,hn,Y,h=>by
  simp[aqZ,arP]at E;have⟨hd,E⟩:=E;rw[aqQ]at hn;refine⟨X,.inl ⟨D,_,hd,run_takeDeferred (Y D (by simp)),?_⟩⟩;refine DX X Ds ds _ E hn.2 (λD' hD'=>?_) λV O=>?_;rw[World.putObj_heap_other XN];grind
  refine h V ⟨?_,λk W=>?_,O.os,O.tape,O.output⟩;rw[O.size];simp_all;simp[aqg,not_or]at W;rw[O.block k W.2,World.putObj_heap_other W.1]
variable {st:St}{a:Act}{w:World}
theorem ati.shut{own:Own}{W:World}{Ds:List Nat}(h:ati F w0 N own st a w)(V:∀ D∈Ds,w0.w.heap.size<=D/\F D/\w.heap[D]? =some (.deferred (some [])))(E:avX Ds w W):
  ati F w0 N own st { a with defers:=w0.ds} W:=by
 have g:at4 F own w own W:=⟨λ_ hd e=>⟨hd,e,.refl _⟩,λb _ hn=>⟨hn,E.block b λO=>hn (.inl (V b O).2.1)⟩,by rw[E.size];omega⟩;refine⟨h.size,Dfr.nil,h.hp.aub g λid hd b e O=>E.block b λY=>h.hp.apart id hd b e O (V b Y).2.1,⟨h.fr.ids,h.fr.base,E.os.trans h.fr.os,E.tape.trans h.fr.tape,E.output.trans h.fr.output,by rw[E.size];exact h.fr.size,λk X=>?_⟩,λt=>(h.slots t).mono g⟩;rw[E.block k λO=>by have:=(V k O).1;have:=X.1;omega];exact h.fr.block k X
theorem ati.less{O:Nat->Prop}(E:∀ b,F b->O b){own:Own}(h:ati O w0 N own st a w)(hd:a.defers=w0.ds):ati F w0 N own st a w:=by
 have hc:atS O own w F own w:=⟨λ_ hd e=>⟨hd,e,.refl _⟩,λb _ hn=>⟨λX=>hn (X.imp (E b) id),rfl⟩⟩;refine⟨h.size,by rw[hd];exact Dfr.nil,⟨h.hp.dom,λb V=>h.hp.atu b (E b V),λid hd b e V Y=>h.hp.apart id hd b e V (E b Y),h.hp.inj,h.hp.lt,λid W=>?_⟩,h.fr,λt=>(h.slots t).carry hc⟩;have⟨hd,e1,e2⟩:=h.hp.obs id W;exact⟨hd,e1,e2.carry hc (aqb _) λ_ _=>rfl⟩
theorem WC(O:ts.ok P){own:Own}(hr:ati F w0 N own st a w){x:ResultVar}{s:SV}(h:Wa ts st x=some s):
  ∃ v,(YL a.tmps x).run P w=.ok v w/\Rel F own w s v:=by
 cases x with
 |tmp n=>
  simp[Wa,aqd]at h;subst h;exact⟨_,rfl,hr.slots n⟩
 |cell q t=>
  simp[Wa]at h;cases V:aR ts t λti=>uk ti st.h (lk q st.t)with
  |val s'=>
   rw[V]at h;simp[acf,aqd]at h;subst h;have⟨ti,ht,he⟩:=cq O V (by simp);have⟨u,e1,e2⟩:=PO (P:=P) hr.hp ht (hr.slots q) he;refine⟨u,?_,e2⟩;show(do loadVar t (<-asAddr (a.tmps.getD q undef)):Sem Value).run P w=.ok u w;generalize a.tmps.getD q undef=vq at e1 |-;unfold Instr.loadAt at e1;have E:∀ x w',(Instr.sureAddr vq).run P w=.ok x w'->(asAddr vq).run P w=.ok x w':=by
    intro x w' h;unfold Instr.sureAddr at h;split at h
    exact h;simp_all
   cases W:(Instr.sureAddr vq).run P w <;>simp_all
  |_=>rw[V]at h;simp[acf]at h
theorem L8 (E:ts.ok P){own:Own}{st:St}{a:Act}{w:World}(hr:ati F w0 N own st a w):∀ (rs:List ResultVar) (l:List SV),t7 ts st rs=some l->
  ∃ vs:List Value,(rs.mapM (YL a.tmps):Sem (List Value)).run P w=.ok vs w/\vs.length=l.length/\∀ (j:Nat) (s:SV),l[j]? =some s->∃ v,vs[j]? =some v/\Rel F own w s v
 | [],l,h=>by
  simp_all [t7]
 |x::r,l,h=>by
  simp[t7]at h;cases V:Wa ts st x with
  |none=>grind [PM]
  |some s0=>
   cases O:t7 ts st r with
   |none=>grind [PM]
   |some l'=>
    rw[V,O]at h;simp[PM,aqd]at h;subst h;have⟨v0,f1,f2⟩:=WC (P:=P) E hr V;have⟨vs,e1,e2,e3⟩:=L8 E hr r l' O;refine⟨v0::vs,?_,by simp[e2],λj s W=>?_⟩;simp_all;grind
theorem CI(W:ts.ok P){fn:Func}{own:Own}(hr:ati F w0 N own st a w){s:SV}(h:v_ (t7 ts st fn.results.toList)=some s):∃ u,(results fn a.tmps).run P w=.ok u w/\Rel F own w s u:=by
 cases X:t7 ts st fn.results.toList with
 |none=>rw[X]at h;cases h
 |some l=>
  have⟨vs,e1,V,O⟩:=L8 (P:=P) W hr _ l X;rw[X]at h;have hres:(results fn a.tmps).run P w=.ok (if h:vs.toArray.size=1 then vs.toArray[0]else .tuple vs.toArray) w:=by
   grind [Tm,Array.mapM_eq_mapM_toList,Sem.run_bind,Sem.run_map,Result.andThen_ok,Sem.run_pure]
  have E:vs.toArray.size=l.length:=XM
  match l,h,V,O,E with
  | [s0],h,V,O,E=>
   simp[v_]at h;have⟨v,hv,aun⟩:=O 0 s0 rfl;grind
  | [],h,V,O,E=>
   simp[v_,aqd]at h;subst h;refine⟨.tuple vs.toArray,XN,.tup XM λj s Y=>by simp at Y⟩
  |s0::s1::r,h,V,O,E=>
   simp[v_,aqd]at h;subst h;refine⟨.tuple vs.toArray,XN,.tup XM λj s Y=>?_⟩;have⟨v,hv,aun⟩:=O j s Y;simp_all
theorem oL{fn:Func}{own:Own}{R:Ending->World->Prop}(hr:ati F w0 N own st a w){u:FrameMode}(W:u≠ .run)
  (h:∀ E,ati F w0 N own st { a with defers:=w0.ds} E->LeavesInM (rd none) nd P fn a.tmps R w0.ds u E):LeavesInM (rd none) nd P fn a.tmps R a.defers u w:=by
 have⟨ms,Ds,h0,h1,h2,h3⟩:=hr.defers;rw[h0];exact DX W Ds ms w h1 h2 (λD V=>(h3 D V).2.2) λE O=>h E (hr.shut h3 O)
variable {w':World}
theorem tG{own:Own}(h:Fr { w:=w,own:=dI} own w'):Below w.heap.size w w':=
 ⟨h.os,h.tape,h.output,h.size,λk E=>h.block k ⟨E,λ⟨_,_,e,_⟩ =>by cases e⟩⟩
theorem tH{own:Own}{l:List SV}{vs:Array Value}(E:atP F own w l vs)(n t:Nat):Rel F own w (lk t (pZ 0 l)) ((vs++Array.replicate n undef).getD t undef):=by
 rw[Qo];cases O:l[t]? with
 |none=>exact .any _
 |some s=>
  have hlt:t<vs.size:=by rw[E.1];grind
  have:=E.2 t s O;grind [wn]
theorem CJ(E:∀ b,F b->b<w.heap.size):Hp F dI w []:=
 ⟨λ_ _ h=>(by cases h),E,λ_ _ _ h=>(by cases h),λ_ _ _ _ _ h=>(by cases h),λ_ _ _ h=>(by cases h),λid h=>(by simp[aq,dT]at h)⟩
def mR (h:List Ob):Nat->SV->List Nat
 |_,.os id=>match a6 0 (zv (aq h id))with| [] =>[] |_=>[id]
 |n+1,.agg l=>l.flatMap (mR h n)|n+1,.tup l=>l.flatMap (mR h n)|_,_=>[]
theorem Fe (o:Ob):(∃ (k:Tag) (l:List k.T),o=.row k l/\zv o=.nw k l)\/(∃ (k k2:Tag) (l:List (k.T×k2.T)),o=.mp k k2 l none/\zv o=.nm k k2 l)\/(∃ (k:Tag) (l:List (List k.T)),o=.atH k l/\zv o=.ng k l)\/zv o=.any:=by
 cases o with
 |row k l=>exact .inl ⟨k,l,rfl,rfl⟩
 |mp k k2 l p=>
  cases p with
  |none=>exact .inr (.inl ⟨k,k2,l,rfl,rfl⟩)|some x=>exact .inr (.inr (.inr rfl))
 |atH k l=>exact .inr (.inr (.inl ⟨k,l,rfl,rfl⟩))|_=>exact .inr (.inr (.inr rfl))
theorem Tn:∀ (n:Nat) (s:SV),dC n s=true->∀ m,a6 m s=[]:=by
 intro n;induction n with
 |zero=>intro s h m;cases s <;>simp[dC]at h <;>cases m <;>rfl
 |succ n O=>
  intro s h m;have E:∀ (l:List SV) m,l.all (dC n)=true->l.flatMap (a6 m)=[]:=λl m E=>by
   simp_all
  cases s with
  |agg l=>cases m with
   |zero=>rfl|succ m=>exact E l m h
  |tup l=>cases m with
   |zero=>rfl|succ m=>exact E l m h
  |_=>first|(cases m <;>rfl) |simp[dC]at h
variable {h:List Ob}
theorem L9:∀ (n:Nat) (s:SV),a6 n (Bc h n s)=(mR h n s).map (aq h)/\mR h n s ⊆ xU n s/\(mR h n s).Sublist (xU n s)/\∀ id∈mR h n s,Plain (aq h id):=by
 have V:∀ (n id:Nat),a6 n (zv (aq h id))=(mR h n (.os id)).map (aq h)/\mR h n (.os id) ⊆ [id]/\(mR h n (.os id)).Sublist [id]/\∀ i∈mR h n (.os id),Plain (aq h i):=by
  intro n id;have e:mR h n (.os id)=match a6 0 (zv (aq h id))with| [] =>[] |_=>[id]:=by cases n <;>rfl
  rw[e];rcases Fe (aq h id)with⟨k,l,O,e2⟩ | ⟨k,k2,l,O,e2⟩ | ⟨k,l,O,e2⟩ |e2;rw[e2];refine⟨?_,by simp[a6],by simp[a6],λi hi=>?_⟩;grind [a6]
  simp[a6]at hi;subst hi;exact .inl ⟨k,l,O⟩;rw[e2];refine⟨?_,by simp[a6],by simp[a6],λi hi=>?_⟩;grind [a6]
  simp[a6]at hi;subst hi;exact .inr (.inl ⟨k,k2,l,O⟩);rw[e2];refine⟨?_,by simp[a6],by simp[a6],λi hi=>?_⟩;grind [a6]
  simp[a6]at hi;subst hi;exact .inr (.inr ⟨k,l,O⟩);grind [a6]
 have E:∀ (n m:Nat) (s:SV),a6 n (bif dC m s then s else .any)=[]:=λn m s=>by
  cases X:dC m s with
  |true=>exact Tn m s X n|false=>cases n <;>rfl
 intro n;induction n with
 |zero=>
  intro s;cases s with
  |os id=>exact V 0 id
  |_=>first|exact⟨rfl,by simp[mR,xU],by simp[mR,xU],λi hi=>by simp[mR]at hi⟩ |exact⟨E _ _ _,by simp[mR,xU],by simp[mR,xU],λi hi=>by simp[mR]at hi⟩
 |succ n Y=>
  intro s;have W:∀ l:List SV,(l.map (Bc h n)).flatMap (a6 n)=(l.flatMap (mR h n)).map (aq h)/\l.flatMap (mR h n) ⊆ l.flatMap (xU n)/\(l.flatMap (mR h n)).Sublist (l.flatMap (xU n))/\∀ id∈l.flatMap (mR h n),Plain (aq h id):=by
   intro l;induction l <;>grind
  cases s with
  |os id=>exact V (n+1) id|agg l=>exact W l|tup l=>exact W l
  |_=>first|exact⟨rfl,by simp[mR,xU],by simp[mR,xU],λi hi=>by simp[mR]at hi⟩ |exact⟨E _ _ _,by simp[mR,xU],by simp[mR,xU],λi hi=>by simp[mR]at hi⟩
theorem HZ:∀ l:List Nat,uniq l=true->l.Nodup
 | [],_=>arz
 |a::r,h=>by
  simp[uniq,ap9]at h;rw[aqQ];refine⟨λE=>?_,HZ r h.2⟩;grind [zC]
theorem WD{own l5:Own}(hp:Hp F own w h)(hsh:∀ b,¬dn F own b->¬dn F l5 b):∀ (n b:Nat) (s:SV) (v:Value),Rel F own w s v->(∀ i id,(mR h n s)[i]? =some id->l5 (b+i)=own id)->Bh F l5 w n b (Bc h n s) v:=by
 have V:∀ c,¬dn F own c->¬dn (dn F l5) dI c:=λc hc=>by
  rintro (hf| ⟨_,_,e,_⟩);grind
  cases e
 have W:∀ (n b id:Nat) (v:Value),Rel F own w (.os id) v->(∀ i j,(mR h n (.os id))[i]? =some j->l5 (b+i)=own j)->Bh F l5 w n b (zv (aq h id)) v:=by
  intro n b id v hr O;have e:mR h n (.os id)=match a6 0 (zv (aq h id))with| [] =>[] |_=>[id]:=by cases n <;>rfl
  rw[e]at O;cases hr with
  |os h1 h2=>
   rcases Fe (aq h id)with⟨k,l,e1,e2⟩ | ⟨k,k2,l,e1,e2⟩ | ⟨k,l,e1,e2⟩ |e2;all_goals rw[e2]at O |-
   have:=O 0 id (by simp[a6]);rw[arv]at this;cases n <;>exact⟨_,by rw[this];exact h1,rfl,h2⟩;have:=O 0 id (by simp[a6]);rw[arv]at this;cases n <;>exact⟨_,by rw[this];exact h1,rfl,h2⟩;have:=O 0 id (by simp[a6]);rw[arv]at this;cases n <;>exact⟨_,by rw[this];exact h1,rfl,h2⟩;cases n <;>exact Rel.any _
 have E:∀ (n m b:Nat) (s:SV) (v:Value),Rel F own w s v->(∀ l,s≠ .agg l)->(∀ l,s≠ .tup l)->Bh F l5 w n b (bif dC m s then s else .any) v:=by
  intro n m b s v hr n1 n2;cases hb:dC m s with
  |false=>cases n <;>exact Rel.any _
  |true=>
   have Y:Rel (dn F l5) dI w s v:=hr.atF (im m s hb) V;cases s with
   |agg l=>grind|tup l=>grind|nw k l=>cases hr|nm k k2 l=>cases hr|ng k l=>cases hr|_=>cases n <;>exact Y
 intro n;induction n with
 |zero=>
  intro b s v hr O;cases s with
  |os id=>exact W 0 b id v hr O|v x=>exact hr.atF (.v x) V|rs k l=>exact hr.atF .rs V|rm k k2 l=>exact hr.atF .rm V|e0=>exact hr.atF .e0 V|agg l=>exact Rel.any _|tup l=>exact Rel.any _
  |_=>exact E 0 0 b _ v hr (λ_ e=>by cases e) (λ_ e=>by cases e)
 |succ n ih=>
  intro b s v hr O;have hl:∀ (l:List SV) (vs:Array Value) (b:Nat),(∀ (j:Nat) (s:SV),l[j]? =some s->Rel F own w s (vs.getD j undef))->(∀ i id,(l.flatMap (mR h n))[i]? =some id->l5 (b+i)=own id)->
    ∀ (j:Nat) (s:SV),(l.map (Bc h n))[j]? =some s->Bh F l5 w n (b+cnt n ((l.map (Bc h n)).take j)) s (vs.getD j undef):=by
   intro l vs b h1 h2 j s hj;obtain⟨x,hx2,rfl⟩:=sI hj;refine ih _ x _ (h1 j x hx2) λi id hi=>?_;have hc:cnt n ((l.map (Bc h n)).take j)=((l.take j).flatMap (mR h n)).length:=by
    rw[<-List.map_take];generalize l.take j=m;induction m with
    |nil=>rfl|cons y r ihm=>grind [cnt,L9]
   rw[arx];refine h2 _ id ?_;have X:l=l.take j++(x::l.drop (j+1)):=by
    grind [List.getElem_cons_drop,List.take_append_drop]
   grind
  cases s with
  |os id=>exact W (n+1) b id v hr O|v x=>exact hr.atF (.v x) V|rs k l=>exact hr.atF .rs V|rm k k2 l=>exact hr.atF .rm V|e0=>exact hr.atF .e0 V
  |agg l=>cases hr with|agg h0 h1=>exact⟨_,rfl,XN,hl l _ b h1 O⟩
  |tup l=>cases hr with|tup h0 h1=>exact⟨_,rfl,XN,hl l _ b h1 O⟩
  |_=>exact E (n+1) (n+1) b _ v hr (λ_ e=>by cases e) (λ_ e=>by cases e)
theorem UX{own:Own}(E:ati F { w:=w,own:=dI} N own st a w'){s s2:SV}{u:Value}(hr:Rel F own w' s u)(hg:E8 st.h s=some s2):∃ l5,Handed F w l5 w' s2 u:=by
 unfold E8 at hg;cases Y:uniq (xU 3 s)&&(xU 3 s).all (λi=>Nat.blt i st.h.length)with
 |false=>grind
 |true=>
  rw[Y]at hg;simp[cond_true,aqd]at hg;subst hg;rw[ap9]at Y;have⟨g1,g2,g3,g4⟩:=L9 (h:=st.h) 3 s;have hnd:(mR st.h 3 s).Nodup:=(HZ _ Y.1).sublist g3;let l5:Own:=λi=>((mR st.h 3 s)[i]?).bind own
  have X:∀ i hd,l5 i=some hd->∃ id,(mR st.h 3 s)[i]? =some id/\own id=some hd:=λi hd e=>by
   grind
  have hsh:∀ b,¬dn F own b->¬dn F l5 b:=λb Y=>by
   rintro (hf| ⟨i,hd,e,W⟩);exact Y (.inl hf);have⟨id,_,O⟩:=X i hd e;exact Y (.inr ⟨id,hd,O,W⟩)
  refine⟨l5,⟨λi hd e=>?_,E.hp.atu,λi hd b e W=>?_,λi j hi hj b e1 O hb1 hb2=>?_,λi hd b e W=>?_,λi V=>?_⟩,?_,λi hd b e W=>?_⟩;grind
  have⟨id,_,O⟩:=X i hd e;exact E.hp.apart id hd b O W;have⟨k1,p1,p2⟩:=X i hi e1;have⟨k2,q1,q2⟩:=X j hj O;have:=E.hp.inj k1 k2 hi hj b p2 q2 hb1 hb2;subst this;exact uQ hnd p1 q1;have⟨id,_,O⟩:=X i hd e;exact E.hp.lt id hd b O W;rw[g1]at V |-;rw[xW]at V |-;rw[are]at V |-;cases hi:(mR st.h 3 s)[i]? with
  |none=>grind [dT]
  |some id=>
   rw[hi]at V;have⟨hd,e1,O⟩:=E.hp.obs id V;refine⟨hd,XN,O.atF (g4 id (aql hi)) (.inl hsh)⟩
  exact WD E.hp hsh 3 0 s u hr λi id hi=>XN
  have⟨id,_,O⟩:=X i hd e;have:=E.fr.base id hd b O W;rcases ari b w.heap.size with hlt|hge;exact absurd ⟨hlt,λ⟨_,_,e,_⟩ =>by cases e⟩ this;exact hge
end
section
variable {P:Program}{F:Nat->Prop}{w0:Bs}{ro:Option Nat}{nd:Nat}{ts:Tis}{G:Cons}{L:yS}{N:Nat}
variable {w:World}
theorem zF{w':World}{s:SV}{u:Value}(E:∀ b,F b->b<w'.heap.size)(h:Rel F dI w' s u):Handed F w dI w' s u:=by
 refine⟨?_,Yw 3 0 h,λ_ _ _ e=>(by cases e)⟩;rw[HI 3 h];exact CJ E
variable {f:FuncId}{fn:Func}{c:Code}
theorem YM(m:Bool)(hm:P.follows .mixedOrders=true)(hts:ts.ok P)(hG:atj P G)(hf:P.funcs[f]? =some fn)(hb:fn.body=some c)(hname:(fn.name== "runtime.NumGoroutine")=false)
  (hc:db fn.ntmps c=true) {C:FI}
  (h:∀ l O,C l=some O->an O->l.length<=fn.ntmps/\∃ L,ak P none fn.ntmps L c/\exec ts G L c ⟨pZ 0 l,[]⟩ (Hn m fn.results.toList ts (et O) (lA O))):P0 P f C:=by
 refine⟨λl O _ args w=>?_,λl O Y hpre F w vs hF hvs=>?_⟩;simp_all [callFunc];have⟨hlen,L,hl,hx⟩:=h l O Y hpre;refine vo (n:=0) (callsIn_of_wp_marks hf hb trivial ?_);have hr:ati F { w:=w,own:=dI} fn.ntmps dI ⟨pZ 0 l,[]⟩ { tmps:=vs++Array.replicate (fn.ntmps - vs.size) undef,defers:=[]} w:=
  ⟨by have:=hvs.1;simp;omega,Dfr.nil,CJ hF,Fr.refl _,λt=>tH hvs _ t⟩
 refine wpIn_mono (ut hm hts hG c hc hl F _ _ hx dI _ w hr) ?_;intro e a' w' hq;have key:∀ X own st,(∀ b,F b->X b)->ati X { w:=w,own:=dI} fn.ntmps own st a' w'->jw (et O) (Hk m fn.results.toList ts st)->LeavesInM (rd none) 0 P fn a'.tmps
   (λe w'=>(∃ s u l5,et O s/\e=.returned u/\Handed F w l5 w' s u/\Below w.heap.size w w')\/(∃ x,lA O x/\e=.panicked [{ v:=x,recovered:=false}]/\Below w.heap.size w w')) a'.defers .returning w':=by
  intro X own st hF1 hst E;refine oL hst (by simp) λw2 W=>?_;have V:=W.less hF1 rfl;unfold Hk at E;cases hs:v_ (t7 ts st fn.results.toList)with
  |none=>
   cases m <;>simp only[Hj,Wb]at E <;>rw[hs]at E <;>exact E.elim
  |some s=>
   have⟨u,e1,e2⟩:=CI (P:=P) hts V hs;refine⟨u,e1,.inl ?_⟩;cases m with
   |false=>
    simp[Hj]at E;rw[hs]at E;exact⟨_,u,dI,E,rfl,zF V.hp.atu (CF V.hp 4 s u e2),tG V.fr⟩
   |true=>
    simp[Wb]at E;rw[hs]at E;change jw (et O) (E8 st.h s)at E;cases hg:E8 st.h s with
    |none=>rw[hg]at E;exact E.elim
    |some s2=>
     rw[hg]at E;have⟨l5,hh⟩:=UX V e2 hg;exact⟨_,u,l5,E,rfl,hh,tG V.fr⟩
 cases e with
 |normal=>have⟨X,own,st,h0,h1,h2⟩:=hq;exact key X own st h0 h1 h2|ret=>have⟨X,own,st,h0,h1,h2⟩:=hq;exact key X own st h0 h1 h2|exit id=>have⟨X,own,st,h0,h1,h2⟩:=hq;exact h2.elim
 |panic ch=>
  obtain⟨x,X,own,st,h0,h1,h2,rfl⟩:=hq;exact oL h1 (by simp) λw2 W=>.inr ⟨x,h2,rfl,tG W.fr⟩
 |_=>exact hq.elim
theorem acA{js:List Nat}{n0:Nat}{own:Own}{h h':List Ob}{s s':SV}(V:Sub js n0 ⟨[(0,s)],h⟩ ⟨[(0,s')],h'⟩)(W:Hp F own w h)(O:Fr w0 own w)(hn:∀ id hd,w0.own id=some hd->id<n0)(E:n0<=h'.length){u:Value}(hr:Rel F own w s u):
  Rel F (jx js h' own) w s' u:=by
 have⟨_,_,_,q4⟩:=NM V W O hn E;have⟨_,⟨⟨k1,k2⟩,_⟩,_⟩:=V;have e:s=ren (Hm js) 5 s':=by simpa[lk]using k1
 grind
variable {C:List SV->List Ob->Option atB}
theorem H0(hm:P.follows .mixedOrders=true)(hts:ts.ok P)(hG:atj P G)(hf:P.funcs[f]? =some fn)(hb:fn.body=some c)(hname:(fn.name== "runtime.NumGoroutine")=false)
  (hc:db fn.ntmps c=true) 
  (h:∀ l o V,C l o=some V->V.pre->l.length<=fn.ntmps/\∃ L Qx,ak P none fn.ntmps L c/\(∀ e st,Qx e st->PN o.length fn.results.toList ts V e st)/\exec ts G L c ⟨pZ 0 l,o⟩ Qx):atA P f C:=by
 refine⟨λl o V _ args w=>?_,λl o V avu hpre F own w vs hp hvs=>?_⟩;simp_all [callFunc];have⟨hlen,L,Qx,hl,hQ,hx⟩:=h l o V avu hpre;have hn0:∀ id hd,own id=some hd->id<o.length:=λid hd e=>hp.dom id hd e;refine vo (n:=0) (callsIn_of_wp_marks hf hb trivial ?_);have hr:ati F { w:=w,own:=own} fn.ntmps own ⟨pZ 0 l,o⟩ { tmps:=vs++Array.replicate (fn.ntmps - vs.size) undef,defers:=[]} w:=
  ⟨by have:=hvs.1;simp;omega,Dfr.nil,hp,Fr.refl { w:=w,own:=own},λt=>tH hvs _ t⟩
 refine wpIn_mono (ut hm hts hG c hc hl F _ _ hx own _ w hr) ?_;intro e a' w' Y
 replace Y:=xl hQ _ _ _ Y
 have key:∀ X l5 st,(∀ b,F b->X b)->ati X { w:=w,own:=own} fn.ntmps l5 st a' w'->Ho o.length V (v_ (t7 ts st fn.results.toList)) st.h->LeavesInM (rd none) 0 P fn a'.tmps (λe w'=>∃ r l5,V.post r/\NC F w own o.length e l5 w' (V.res r)) a'.defers .returning w':=by
  intro X l5 st hF1 hst O;refine oL hst (by simp) λw2 W=>?_;have E:=W.less hF1 rfl;cases hs:v_ (t7 ts st fn.results.toList)with
  |none=>rw[hs]at O;exact O.elim
  |some s=>
   rw[hs]at O;have⟨r,s',h',js,q1,q2,q3,q4⟩:=O;have⟨u,e1,e2⟩:=CI (P:=P) hts E hs;have⟨k1,k2,_,_⟩:=NM q4 E.hp E.fr hn0 q3;refine⟨u,e1,r,jx js h' l5,q1,?_⟩;rw[q2];exact⟨⟨u,rfl,acA q4 E.hp E.fr hn0 q3 e2⟩,k1,k2,q3⟩
 cases e with
 |normal=>have⟨X,l5,st,h0,h1,h2⟩:=Y;exact key X l5 st h0 h1 h2|ret=>have⟨X,l5,st,h0,h1,h2⟩:=Y;exact key X l5 st h0 h1 h2|exit id=>have⟨X,l5,st,h0,h1,h2⟩:=Y;exact h2.elim
 |panic ch=>
  obtain⟨x,X,l5,st,h0,h1,⟨r,h',js,q1,q2,q3,q4⟩,rfl⟩:=Y;refine oL h1 (by simp) λw2 W=>?_;have E:=W.less h0 rfl;have⟨k1,k2,_,_⟩:=NM q4 E.hp E.fr hn0 q3;refine⟨r,jx js h' l5,q1,?_⟩;rw[q2];exact⟨rfl,k1,k2,q3⟩
 |_=>exact Y.elim
theorem qE(W:P.follows .mixedOrders=true)(V:ts.ok P)(hG:atj P G)(X:P.funcs[f]? =some fn)(Y:fn.body=some c)(O:(fn.name== "runtime.NumGoroutine")=false)
  (hc:db fn.ntmps c=true) 
  (h:∀ l o E,C l o=some E->E.pre->l.length<=fn.ntmps/\∃ L,ak P none fn.ntmps L c/\exec ts G L c ⟨pZ 0 l,o⟩ (PN o.length fn.results.toList ts E)):atA P f C:=
 H0 W V hG X Y O hc λl o E h1 h2=>by
  grind
theorem ati.auA{own:Own}{st:St}{a:Act}(h:ati F w0 N own st a w):∀ id hd,w0.own id=some hd->id<st.h.length:=λid hd e=>by
 have⟨hd',e',_⟩:=h.fr.ids id hd e;exact h.hp.dom id hd' e'
theorem zG{ts:Tis}{G:Cons}{ro:Option Nat}{N:Nat}(hm:P.follows .mixedOrders=true)(hts:ts.ok P)(hG:atj P G){id:Nat}(hc:db N c=true){C:St->Option at8}
  (h:∀ st V,C st=some V->V.pre->∃ (σ:Type) (D:σ->St) (I:σ->Prop) (m:σ->Nat) (x0:σ) (js:List Nat),I x0/\st.h.length<=(D x0).h.length/\Sub js st.h.length st (D x0)/\
   ∀ x,I x->∃ L Qx,ak P ro N L c/\(∀ e st',Qx e st'->xV D I m st.h.length x id (λe st'=>∃ r js,V.post r/\V.ex r=e/\st.h.length<=(V.out r).h.length/\Sub js st.h.length st' (V.out r)) e st')/\exec ts G L c (D x) Qx):mB P ro N id (.loop c) C:=by
 intro nd F w0 st V hC hpre own a w hr;have⟨σ,D,I,m,x0,js,h1,h2,h3,h4⟩:=h st V hC hpre;refine wpIn_mono (L7 hm hts hG hc D I m st.h.length hr.auA _ h4 x0 h1 _ a w (hr.sub h3 hr.auA h2)) ?_;intro e a' w' Y;have key:∀ ex O l5 st',ati O w0 N l5 st' a' w'->(∃ r js,V.post r/\V.ex r=ex/\st.h.length<=(V.out r).h.length/\Sub js st.h.length st' (V.out r))->∃ X1 E,ati O w0 N X1 E a' w'/\∃ r,V.post r/\ex=V.ex r/\E=V.out r:=by
  rintro ex O l5 st' hst ⟨r,js,W,X,q3,q4⟩;exact⟨_,_,hst.sub q4 hr.auA q3,r,W,X.symm,rfl⟩
 cases e with
 |normal=>have⟨O,l5,st',h0,k1,k2⟩:=Y;have⟨X1,E,W,X⟩:=key _ O l5 st' k1 k2;exact⟨O,X1,E,h0,W,X⟩|exit j=>have⟨O,l5,st',h0,k1,k2⟩:=Y;have⟨X1,E,W,X⟩:=key _ O l5 st' k1 k2;exact⟨O,X1,E,h0,W,X⟩|ret=>have⟨O,l5,st',h0,k1,k2⟩:=Y;have⟨X1,E,W,X⟩:=key _ O l5 st' k1 k2;exact⟨O,X1,E,h0,W,X⟩
 |panic ch=>
  have⟨x,O,l5,st',h0,k1,k2,k3⟩:=Y;have⟨X1,E,W,X⟩:=key _ O l5 st' k1 k2;exact⟨x,O,X1,E,h0,W,X,k3⟩
 |_=>exact Y.elim
end
end Go.Sx
end
