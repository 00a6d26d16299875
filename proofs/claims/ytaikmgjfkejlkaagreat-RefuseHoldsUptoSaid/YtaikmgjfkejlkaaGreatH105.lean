/- Part of the proof that the law RefuseHolds returns true and leaves its arguments as they were, for all arguments of bulk at most 1048576 (the Upto form). -/
import Derived.Test.YtaikmgjfkejlkaaGreatH104
import Derived.Deep.LoopGhost
import Derived.Sort.LoopGhostIn
import Derived.RangeFuncLeaves
import Derived.RangeFuncRecord
set_option linter.all false
set_option maxHeartbeats 4000000
set_option maxRecDepth 100000
section
namespace Go.Sx
open Go.RowKit
def GH (E:List Nat)(j:Nat):∀ (l:List Edge),(NY E l).testBit j=true->∃ e∈l,Region.binds .any e=true/\(j=e.on\/((nth E e.on).getD 0).testBit j=true)
 | [],h=>by simp[NY]at h
 |e::r,h=>by
  simp[NY]at h;cases O:Region.binds .any e with
  |false=>
   rw[O]at h;have⟨e',h1,h2⟩:=GH E j r h;grind
  |true=>
   rw[O]at h;have h':(((nth E e.on).getD 0|||1<<< e.on) |||NY E r).testBit j=true:=h;rw[Nat.testBit_or,Nat.testBit_or,aoN,aoN]at h';rcases h' with(h'|h') |h';grind
   grind [Nat.testBit_one_eq_true_iff_self_eq_zero]
   have⟨e',h1,h2⟩:=GH E j r h';grind
def FC (a:List Oper)(S:Nat->Prop):Prop:= ∀ (i:Nat) (o:Oper) (j:Nat),S i->a[i]? =some o->qT o j=true->S j
def Tg {ops:List Oper}{S:Nat->Prop}(W:FC ops S):∀ (l:List Oper) (E:List Nat),ops.drop E.length=l->(∀ i j,i<E.length->S i->((nth E i).getD 0).testBit j=true->S j)->
  ∀ i j,S i->ug (CX l E) i j=true->S j
 | [],E,hd,V,i,j,hi,O=>by
  grind [iu,CX,ug]
 |o::l,E,hd,V,i,j,hi,O=>by
  have⟨ho,hd'⟩:=GB hd;refine Tg W l (E++[NY E o.after.toList]) g6 (λi j hlt hi O=>?_) i j hi O;rw[iu]at O;by_cases h:i<E.length
  exact V i j h hi (by grind [iu]);have:i=E.length:=g6
  subst this;simp at O;have⟨e,h1,h2,h3⟩:=GH E j _ O;have X:S e.on:=W _ o e.on hi ho (by
   unfold qT;rw[apx];exact⟨e,h1,by simp[h2]⟩)
  grind [iu]
variable {ops:List Oper}{j:Nat}
theorem L7{S:Nat->Prop}(O:FC ops S){i:Nat}(hi:S i)(E:ug (CX ops []) i j=true):S j:=
 Tg O ops [] rfl (λi j h=>by simp at h) i j hi E
def Ord (a:List Oper)(i j:Nat):Prop:=(j<i/\ug (CX a []) i j=true)\/(i<j/\ug (CX a []) j i=true)
theorem GI {E:List Nat}{i:Nat}{x:Fp}:∀ (l:List Fp) (j:Nat),NZ E i x j l=true->∀ (k:Nat) (y:Fp),l[k]? =some y->j+k≠i->vh x y=true->(j+k<i/\ug E i (j+k)=true)\/(i<j+k/\ug E (j+k) i=true)
 | [],j,_,k,y,O,_,_=>by simp at O
 |z::r,j,h,k,y,O,V,hc=>by
  simp only[NZ,aoj]at h;cases k with
  |zero=>
   have h1:=h.1;simp[aoN]at h1;rcases h1 with(h1|h1) |h1 <;>simp_all
  |succ k=>
   have:=GI r (j+1) h.2 k y g6 g5 hc;grind
theorem GJ {E:List Nat}{b:Nat}{all:List Fp}:∀ (l:List Fp) (i:Nat),SZ E b all i l=true->∀ (k:Nat) (x:Fp),l[k]? =some x->NZ E (i+k) x b all=true
 | [],i,_,k,x,O=>by simp at O
 |z::r,i,h,k,x,O=>by
  simp[SZ,aoj]at h;cases k with
  |zero=>grind
  |succ k=>
   have:=GJ r (i+1) h.2 k x g6;grind
theorem UT (l:List Nat):vg l []=false:=by
 induction l with
 |nil=>rfl|cons a r E=>simp[vg,EP,E]
theorem wo {n:Nat}:∀ {l m:List Nat},n∈l->n∈m->vg l m=true
 |a::r,m,h1,h2=>by
  simp only[vg];rcases aoD.1 h1 with rfl|h1;rw[(yG n m).2 h2];rfl;rw[wo h1 h2];cases EP a m <;>rfl
theorem Km:∀ {l:List Fp} {k:Nat} {x:Fp},J4 l=true->l[k]? =some x->x.tc=[]/\x.wt=[]
 | [],k,x,_,E=>by simp at E
 |z::r,k,x,h,E=>by
  simp[J4,aoj]at h;cases k with
  |zero=>grind
  |succ k=>exact Km h.2 (by simpa using E)
def GK{b:Nat}{E:List Fp}(h:uh ops b E){i:Nat}{x y:Fp}(hi:E[i]? =some x)(W:E[j]? =some y)(Y:i≠j)(hc:vh x y=true):Ord ops (b+i) (b+j):=by
 unfold uh at h;cases X:J4 E with
 |true=>
  have⟨e1,e2⟩:=Km X W;grind [vh,UT]
 |false=>
  rw[X]at h;have h1:=GJ E b h i x hi;have h2:=GI E b h1 j y W g5 hc;rcases h2 with⟨V,O⟩ | ⟨V,O⟩;exact .inl ⟨V,O⟩;exact .inr ⟨V,O⟩
theorem GL{c:Nat}(h:F8 ops c=true){i:Nat}(hi:i<ops.length)(O:i≠c):(i<c/\ug (CX ops []) c i=true)\/(c<i/\ug (CX ops []) i c=true):=by
 have E:∀ (l:List Oper) (j:Nat),LD (CX ops []) c j l=true->∀ k,k<l.length->(Nat.beq (j+k) c||(Nat.blt (j+k) c&&ug (CX ops []) c (j+k)) ||(Nat.blt c (j+k)&&ug (CX ops []) (j+k) c))=true:=by
  intro l;induction l with
  |nil=>grind
  |cons x r V=>
   intro j h k W;simp only[LD,aoj]at h;cases k with
   |zero=>exact h.1
   |succ k=>
    have:=V (j+1) h.2 k g6;grind
 have:=E ops 0 h i hi;simp_all
structure Fact (ts:Tis)(G:Cons)(ops:List Oper)(o:Oper)(st st2:St)(s:SV)(ups:List Up)(fp:Fp)(r:Dr):Prop where
 dr:lB G st.h st.h.length (opS ⟨ts,ops,o.guard,st,st.h.length⟩ o.op)=some r
 nxt:st2=St.put ⟨st.t,br st.h ups⟩ o.dst s
 fp:fp=fpU o.op (fpO ⟨ts,ops,o.guard,st,st.h.length⟩ o.op) r.all ups
 plain:o.guard=none->r.c/\s=r.s/\ups=r.ups
 guarded:∀ g,o.guard=some g->(dY ops st.t ops.length g->r.c)/\((r.ups=ups/\s=.gd g.1 g.2 r.s/\(ups=[]\/¬gK ops st.t ops.length g))\/(ups=[]/\s=.gd g.1 g.2 r.s/\¬dY ops st.t ops.length g))
def aaR (ts:Tis)(G:Cons)(ops:List Oper)(K:St->Prop)(Z:Value->St->Prop)(e:Nat)(st:St):Prop:=
 (ops.length<=e/\K st)\/∃ o,ops[e]? =some o/\F8 ops e=true/\Td G ops o.dst st (λst'=>lh ts G ops K Z (ops.drop (e+1)) (e+1) (e+1) [] st') Z o.guard (opS ⟨ts,ops,o.guard,st,st.h.length⟩ o.op)
structure asd (ts:Tis)(G:Cons)(ops:List Oper)(n m:Nat)(S:Nat->St)(s:Nat->SV)(ups:Nat->List Up)(fs:Nat->Fp)(R:Nat->Dr):Prop where
 fact:∀ i,i<m->∃ o,ops[n+i]? =some o/\Fact ts G ops o (S i) (S (i+1)) (s i) (ups i) (fs i) (R i)
section
variable {P:Program}{F:Nat->Prop}{own ee:Own}{w w':World}{ts:Tis}
variable {w0:Bs}{ro:Option Nat}{nd:Nat}{N n:Nat}{ops:List Oper}{st:St}{a:Act}{G:Cons}
theorem UU (n:Nat)(s:SV)(o:Ob)(h:o∈aZ n s):d_ o=false:=by
 rcases(AO n s o h).1 with⟨_,_,rfl⟩ | ⟨_,_,_,rfl⟩ | ⟨_,_,rfl⟩ <;>rfl
variable {h:List Ob}
theorem Rp{ee:Own}(hp:Hp F own w h){nx:Nat}(hn:asQ own h nx){s:SV}{u:Value}{ob:Ob}(hrow:aZ 3 s=[ob]){F1:Nat->Prop}(hF1:(∀ b,F1 b↔dA F own b)\/((∀ b,F1 b↔F b)/\kf 3 s=true))(Y:Below w.heap.size w w')(hh:Handed F1 w ee w' s u):
  ∃ X2,Rel F X2 w' (j_ 3 nx s) u/\Step F own w (br h [(nx,ob)]) X2 w':=by
 have hFF:∀ b,F b->F1 b:=λb hf=>by
  rcases hF1 with h1| ⟨h1,_⟩;exact(h1 b).2 (.inl hf);grind
 have h0:∀ id hd,ee id=some hd->id=0:=λid hd e=>by
  have:=hh.hp.dom id hd e;grind
 let X2:Own:=λid=>if id=nx then ee 0 else own id
 have o1:∀ id hd,X2 id=some hd->(id≠nx/\own id=some hd)\/(id=nx/\ee 0=some hd):=λid hd e=>by
  grind
 have o2:∀ id hd,own id=some hd->X2 id=some hd:=λid hd e=>by
  simp[X2];rw[if_neg (λh=>by rw[h,hn.none]at e;cases e)];exact e
 have o3:∀ id hd,ee id=some hd->X2 (id+nx)=some hd:=λid hd e=>by
  grind
 have fr:Fr { w:=w,own:=own} X2 w':=Fr.asH (λid hd e=>⟨hd,o2 id hd e,.refl _⟩) (λid hd b e E=>by
   rcases o1 id hd e with⟨_,e⟩ | ⟨_,e⟩;grind
   exact .inr (hh.fresh _ hd b e E)) (λb hbl _=>Y.block b hbl) Y.size Y.os Y.tape Y.output
 have g:aso F own w X2 w':=fr.asx;have W:(∀ b,¬dA F1 ee b->¬dA F X2 b)\/kf 3 s=true:=by
  rcases hF1 with h1| ⟨_,h2⟩;left;rintro b hn (hf| ⟨id,hd,e,E⟩);exact hn (.inl (hFF b hf));rcases o1 id hd e with⟨_,e⟩ | ⟨_,e⟩;exact hn (.inl ((h1 b).2 (.inr ⟨id,hd,e,E⟩)));exact hn (.inr ⟨_,hd,e,E⟩);grind
 have hob:ap (aZ 3 s) 0=ob:=by rw[hrow];rfl
 have hlen:nx< (br h [(nx,ob)]).length:=by grind [br,cT]
 have hle:h.length<=(br h [(nx,ob)]).length:=by grind [br,cT]
 refine⟨X2,?_,⟨λid hd e=>?_,λb hf=>aoy (hp.arN b hf) Y.size,λid hd b e E=>?_,λi j hi hj b V O hb1 hb2=>?_,λid hd b e E=>?_,λid X=>?_⟩,fr,λid V O=>?_⟩;have:=Gx (F':=F) (X2:=X2) (m:=nx) o3 3 0 s u hh.val (W.imp (λhk c hc=>hk c λho=>hc (.inl ho)) id);grind
 rcases o1 id hd e with⟨_,e⟩ | ⟨rfl,_⟩;have:=hp.dom id hd e;omega;exact hlen;rcases o1 id hd e with⟨_,e⟩ | ⟨_,e⟩;exact hp.apart id hd b e E;exact λhf=>hh.hp.apart _ hd b e E (hFF b hf);rcases o1 i hi V with⟨l1,V⟩ | ⟨l1,V⟩ <;>rcases o1 j hj O with⟨l2,O⟩ | ⟨l2,O⟩;exact hp.inj i j hi hj b V O hb1 hb2;have:=hp.lt i hi b V hb1;have:=hh.fresh _ hj b O hb2;omega;have:=hp.lt j hj b O hb2;have:=hh.fresh _ hi b V hb1;omega;omega;rcases o1 id hd e with⟨_,e⟩ | ⟨_,e⟩;exact aoy (hp.lt id hd b e E) Y.size;exact hh.hp.lt _ hd b e E;simp[br]at X |-;rw[dU]at X |-;by_cases hlt:nx=id
 rw[if_pos hlt]at X |-;have hdd':d_ (ap (aZ 3 s) 0)=false:=g6
 have⟨hd,V,O⟩:=hh.hp.obs _ hdd';have⟨q1,q2⟩:=AO 3 s _ (On hdd');have e3:=o3 _ hd V;rw[aou,hlt]at e3;rw[hob]at O q1 q2;exact⟨hd,e3,O.arZ q1 (W.imp (λh=>h) q2)⟩;rw[if_neg hlt]at X |-;have⟨hd,V,O⟩:=hp.obs id X;exact⟨hd,o2 id hd V,O.carry g.asr Y.size λb E=>Y.block b (hp.lt id hd b V E)⟩;by_cases hid:id=nx
 simp[br]at O;rw[dU]at O;have:=UU 3 s ob g6;grind
 grind
variable {args:List SV}
theorem WX{G:Cons}(hG:arD P G)(hp:Hp F own w h){nx:Nat}(hn:asQ own h nx){f:FuncId}{vs:Array Value}(hr:ar7 F own w args vs){c:Con}(hc:G.p f (args.map (jq h 6))=some c)(O:an c)
  (hres:args.all (dM 3)=true\/∀ s,eA c s->kf 3 s=true):
  (callFunc f vs).run P w=.ok (.enter f vs) w/\Calls P f vs w (λe w'=>(∃ s u,∃ X2:Ob->Own,eA c s/\e=.returned u/\∀ E,aZ 3 s=[E]->Rel F (X2 E) w' (j_ 3 nx s) u/\Step F own w (br h [(nx,E)]) (X2 E) w')\/(∃ x,lK c x/\e=.panicked [{ v:=x,recovered:=false}]/\Below w.heap.size w w')):=by
 refine⟨(hG.p f).enter _ c hc vs w,?_⟩;have V:∀ {ee:Own} {w':World} {s:SV} {u:Value} {F1:Nat->Prop},((∀ b,F1 b↔dA F own b)\/((∀ b,F1 b↔F b)/\kf 3 s=true))->Below w.heap.size w w'->Handed F1 w ee w' s u->∃ X2:Ob->Own,∀ E,aZ 3 s=[E]->Rel F (X2 E) w' (j_ 3 nx s) u/\Step F own w (br h [(nx,E)]) (X2 E) w':=λ{ee w' s u F1} h1 h2 W=>by
  refine Classical.axiomOfChoice (r:=λE X2=>aZ 3 s=[E]->Rel F X2 w' (j_ 3 nx s) u/\Step F own w (br h [(nx,E)]) X2 w') λE=>?_;by_cases hrow:aZ 3 s=[E]
  have⟨X2,q⟩:=Rp hp hn hrow h1 h2 W;grind
  simp_all
 rcases hres with Y|hsc;have hpf:∀ (j:Nat) (s:SV),args[j]? =some s->PF s:=λj s X=>by
  rw[ao4]at Y;exact iH 3 s (Y s (aoB X))
 refine((hG.p f).calls _ c hc O (dA F own) w vs (λb hb=>?_) ⟨by simpa using hr.1,λj s X=>?_⟩).mono ?_;rcases hb with hf| ⟨id,hd,e,hbb⟩;exact hp.arN b hf;exact hp.lt id hd b e hbb;obtain⟨x,hx,rfl⟩:=rK X;exact WS 6 x _ (hpf j x hx) (hr.2 j x hx);rintro e w' (⟨s,u,ee,h1,h2,W,h4⟩ |hp');have⟨X2,q⟩:=V (.inl λb=>arC) h4 W;exact .inl ⟨s,u,X2,h1,h2,q⟩;grind
 refine((hG.p f).calls _ c hc O F w vs hp.arN ⟨by simpa using hr.1,λj s X=>?_⟩).mono ?_;obtain⟨x,hx,rfl⟩:=rK X;exact BO hp 6 x _ (hr.2 j x hx);rintro e w' (⟨s,u,ee,h1,h2,W,h4⟩ |hp');have⟨X2,q⟩:=V (.inr ⟨λb=>arC,hsc s h1⟩) h4 W;exact .inl ⟨s,u,X2,h1,h2,q⟩;grind
variable {C:m0}{r:Dr}
theorem Th{rd:List Nat}(h:drB C rd args=some r):∃ i g,args=[.os i]/\r=⟨∀ x,Wy x=true->C [.v x]=some (.det True (.fn g [] [.ep [.v x] 0])),True,.fn g [] [.ep [.os i] 0],[],rd⟩:=by
 unfold drB at h;split at h
 unfold aaC at h;split at h
 cases h;exact⟨_,_,rfl,rfl⟩;cases h;cases h
theorem Ti{rd:List Nat}{x:Option Dr}(h:drX C rd args x=some r):x=some r\/drB C rd args=some r:=by
 cases x with
 |some y=>exact .inl h|none=>exact .inr h
theorem aaS {s:SV}{v u:Value}{g:FuncId}(h:Rel F own w (.fn g [] [.ep [.v v] 0]) u)(hs:Rel F own w s v):Rel F own w (.fn g [] [.ep [s] 0]) u:=by
 cases h with
 |fn h1 h2 h3 Y=>
  refine .fn h1 h2 h3 λj x E=>?_;have W:=Y 0 _ rfl;match j,E with
  |0,E=>
   cases E;generalize Array.getD _ 0 undef=p at W |-;cases W with
   |ep c X k2=>
    have O:=k2 0 _ rfl;have V:=X 0 _ rfl;generalize c 0=c0 at O V;cases O;refine .ep (λ_=>v) (λj x E=>?_) λj x E=>?_;match j,E with
    |0,E=>exact V
    match j,E with
    |0,E=>cases E;exact hs
theorem acE(hG:arD P G)(hp:Hp F own w h){nx:Nat}(hn:asQ own h nx){o:Oper}{run:Result Next}{r0:OR}(h0:Rb P F own w h run r0)(hr:lB G h nx r0=some r)(hc:r.c):
  r.a/\(∃ u ee w',Rel F ee w' r.s u/\Step F own w (br h r.ups) ee w')/\
  ∀ (K:Act->World->Prop) (Q:Exit->Act->World->Prop),(∀ u ee w',Rel F ee w' r.s u->Step F own w (br h r.ups) ee w'->K (a.put o.dst u) w')->o.uponIn (rd ro) nd P a K Q run:=by
 have X:∀ {w'},Below w.heap.size w w'->Step F own w h own w':=λhb=>⟨hp.below hb,GD own hb,λ_ e _=>e⟩;cases r0 with
 |val s=>
  simp[lB,aoo]at hr;subst hr;have⟨u,V,O⟩:=h0;exact⟨trivial,⟨u,own,w,O,X (Below.refl _ _)⟩,λK Q Y=>f7 (.inl V) (Y u own w O (X (Below.refl _ _)))⟩
 |chk c s=>
  simp[lB,aoo]at hr;subst hr;have⟨u,V,O⟩:=h0 hc;exact⟨trivial,⟨u,own,w,O,X (Below.refl _ _)⟩,λK Q Y=>f7 (.inl V) (Y u own w O (X (Below.refl _ _)))⟩
 |asm c s=>
  simp[lB,aoo]at hr;subst hr;have⟨ha,u,V,O⟩:=h0;exact⟨ha,⟨u,own,w,O,X (Below.refl _ _)⟩,λK Q Y=>f7 (.inl V) (Y u own w O (X (Below.refl _ _)))⟩
 |asD s=>
  simp[lB,aoo]at hr;subst hr;have⟨u,cs,ty,V,O⟩:=h0;exact⟨trivial,⟨u,own,_,O,X (sd _ _)⟩,λK Q Y=>f7 (.inl V) (Y u own _ O (X (sd _ _)))⟩
 |eff c ac ups s=>
  simp[lB,aoo]at hr;subst hr;have⟨ha,u,ee,w',V,O,e3⟩:=h0 hc;exact⟨ha,⟨u,ee,w',O,e3⟩,λK Q Y=>f7 V (Y u ee w' O e3)⟩
 |call f args=>
  have⟨vs,V,O⟩:=h0;rcases Ti hr with hr|hr
  case inr=>
   obtain⟨i,g,rfl,rfl⟩:=Th hr;have hone:Wy (vs.getD 0 undef)=true:=by
    have h1:=V.2 0 (.os i) rfl;generalize vs.getD 0 undef=v at h1 |-;cases h1 with
    |os _ h2=>revert h2;generalize Hd.v _=y;cases y <;>simp[qZ,Wy]
   have hcc:=hc (vs.getD 0 undef) hone;have e3:ar7 F own w [.v (vs.getD 0 undef)] vs:=⟨V.1,λj x hx=>by
    match j,hx with
    |0,hx=>cases hx;exact .v _⟩
   have⟨k1,k2⟩:=Fz (P:=P) hG hp e3 hcc trivial (.inl rfl);have key:∀ {e:Ending} {w':World},((∃ s' u X2,eA (.det True (.fn g [] [.ep [.v (vs.getD 0 undef)] 0])) s'/\e=.returned u/\Hp F X2 w' (h++aZ 3 s')/\Fr { w:=w,own:=own} X2 w'/\Rel F X2 w' (j_ 3 h.length s') u/\Below w.heap.size w w'/\∀ id,id<h.length->X2 id=own id)\/(∃ x,lK (.det True (.fn g [] [.ep [.v (vs.getD 0 undef)] 0])) x/\e=.panicked [{ v:=x,recovered:=false}]/\Below w.heap.size w w'))->
     ∃ u X2,e=.returned u/\Rel F X2 w' (.fn g [] [.ep [.os i] 0]) u/\Step F own w h X2 w':=by
    rintro e w' (⟨s',u,X2,rfl,rfl,W,m3,m4,m5,m6⟩ | ⟨x',m1,_⟩);rw[show aZ 3 (.fn g [] [.ep [.v (vs.getD 0 undef)] 0])=[]from rfl,aoC]at W;refine⟨u,X2,rfl,aaS m4 ((V.2 0 (.os i) rfl).mono m3.asx),W,m3,λid V O=>?_⟩;cases ho:X2 id with
    |none=>rfl|some hd=>rw[m6 id (W.dom id hd ho),V]at ho;cases ho
    exact m1.elim
   refine⟨trivial,?_,λK Q Y=>?_⟩;have⟨e,w',fr,hR,_⟩:=k2 [];have⟨u,X2,_,m1,W⟩:=key hR;exact⟨u,X2,w',m1,W⟩;rw[O,k1];refine⟨λh=>(by cases h),?_⟩;refine CallsIn.mono (oC k2) λe w' hR=>?_;obtain⟨u,X2,rfl,m1,W⟩:=key hR;exact Y u X2 w' m1 W
  cases hcc:G.p f (args.map (jq h 6))with
  |none=>rw[hcc]at hr;cases hr
  |some cc=>
   rw[hcc]at hr;cases cc with
   |rel=>cases hr|may=>cases hr
   |det p s=>
    have hrow:∀ (E:List Ob),aZ 3 s=E->drR (args.all (dM 3)) (args.flatMap (mw h 6)) nx p s E=some r->
      ((args.all (dM 3) ||kf 3 s)=true/\((E=[]/\r=⟨p,True,s,[],args.flatMap (mw h 6)⟩)\/∃ ob,E=[ob]/\r=⟨p,True,j_ 3 nx s,[(nx,ob)],args.flatMap (mw h 6)⟩)):=λE _ hr=>by
     match E,hr with
     | [],hr=>
      grind [drR]
     | [ob],hr=>
      grind [drR]
     |_::_::_,hr=>simp[drR]at hr
    have⟨hb,hcase⟩:=hrow _ rfl hr;rw[aoN]at hb;have hres:args.all (dM 3)=true\/∀ s',eA (.det p s) s'->kf 3 s'=true:=hb.imp id (λh s' hs'=>by cases hs';exact h);rcases hcase with⟨hz,rfl⟩ | ⟨ob,hz,rfl⟩
    ·have⟨k1,k2⟩:=Fz (P:=P) hG hp V hcc hc hres;have key:∀ {e:Ending} {w':World},((∃ s' u X2,eA (.det p s) s'/\e=.returned u/\Hp F X2 w' (h++aZ 3 s')/\Fr { w:=w,own:=own} X2 w'/\Rel F X2 w' (j_ 3 h.length s') u/\Below w.heap.size w w'/\∀ id,id<h.length->X2 id=own id)\/(∃ x,lK (.det p s) x/\e=.panicked [{ v:=x,recovered:=false}]/\Below w.heap.size w w'))->
       ∃ u X2,e=.returned u/\Rel F X2 w' s u/\Step F own w h X2 w':=by
      rintro e w' (⟨s',u,X2,rfl,rfl,W,m3,m4,m5,m6⟩ | ⟨x',m1,_⟩);rw[hz,aoC]at W;rw[Eh 3 _ _ hz]at m4;refine⟨u,X2,rfl,m4,W,m3,λid V O=>?_⟩;cases ho:X2 id with
      |none=>rfl|some hd=>rw[m6 id (W.dom id hd ho),V]at ho;cases ho
      exact m1.elim
     refine⟨trivial,?_,λK Q Y=>?_⟩;have⟨e,w',fr,hR,_⟩:=k2 [];have⟨u,X2,_,m1,W⟩:=key hR;exact⟨u,X2,w',m1,W⟩;rw[O,k1];refine⟨λh=>(by cases h),?_⟩;refine CallsIn.mono (oC k2) λe w' hR=>?_;obtain⟨u,X2,rfl,m1,W⟩:=key hR;exact Y u X2 w' m1 W
    have⟨k1,k2⟩:=WX (P:=P) hG hp hn V hcc hc hres;have key:∀ {e:Ending} {w':World},((∃ s' u,∃ X2:Ob->Own,eA (.det p s) s'/\e=.returned u/\∀ ob,aZ 3 s'=[ob]->Rel F (X2 ob) w' (j_ 3 nx s') u/\Step F own w (br h [(nx,ob)]) (X2 ob) w')\/(∃ x,lK (.det p s) x/\e=.panicked [{ v:=x,recovered:=false}]/\Below w.heap.size w w'))->
      ∃ u X2,e=.returned u/\Rel F X2 w' (j_ 3 nx s) u/\Step F own w (br h [(nx,ob)]) X2 w':=by
     rintro e w' (⟨s',u,X2,rfl,rfl,W⟩ | ⟨x',m1,_⟩);grind
     exact m1.elim
    refine⟨trivial,?_,λK Q Y=>?_⟩;have⟨e,w',fr,hR,_⟩:=k2 [];have⟨u,X2,_,m1,W⟩:=key hR;grind
    rw[O,k1];refine⟨λh=>(by cases h),?_⟩;refine CallsIn.mono (oC k2) λe w' hR=>?_;obtain⟨u,X2,rfl,m1,W⟩:=key hR;grind
 |bad=>grind [lB]|_=>simp[lB]at hr
end
theorem AP (ups:List Up):∀ h:List Ob,h.length<=(br h ups).length:=by
 induction ups with
 |nil=>intro h;exact aom _
 |cons x r E=>
  intro h;have⟨id,o⟩:=x;refine aoA ?_ (E (cW h id o));grind [cT]
theorem Kn {id:Nat}:∀ {ups:List Up} {h:List Ob},id∈fS ups->id< (br h ups).length
 |(i,o)::r,h,E=>by
  simp[fS]at E;simp[br];by_cases hr:id∈fS r
  exact Kn hr;refine aoy ?_ (AP r _);grind [cT]
theorem rf {id:Nat}:∀ {ups:List Up} {h:List Ob},id ∉ fS ups->ap (br h ups) id=ap h id
 | [],h,_=>rfl
 |(i,o)::r,h,E=>by
  simp[fS,aoD,not_or]at E;simp[br];rw[rf E.2,dU,if_neg (λe=>E.1 e.symm)]
theorem Ko {id:Nat}:∀ {ups:List Up} {h h':List Ob},id∈fS ups->ap (br h ups) id=ap (br h' ups) id
 |(i,o)::r,h,h',E=>by
  simp[fS]at E;simp[br];by_cases hr:id∈fS r
  exact Ko hr;simp_all [rf,dU]
theorem WY {cx:Cx}(E:ap cx.st.h cx.nx=.dead){op:Op}(W:By op=true){c a:Prop}{ups:List Up}{s:SV}(h:opS cx op=.eff c a ups s)(id:Nat):as8 (ap cx.st.h id) (ap (br cx.st.h ups) id):=by
 cases op with
 |mapEntry t m k=>
  simp[opS]at h;unfold aO at h;cases Y:cx.ts t with
  |none=>grind
  |some ti=>
   rw[Y]at h;change Bx ti cx.nx cx.st.h (val cx k) (val cx m)=_ at h;unfold Bx at h;split at h
   unfold Um at h;split at h
   rename_i kk O l V ho;cases X:mP kk ti.mkt&&mP O ti.mvt&&noE V with
   |false=>grind
   |true=>
    rw[X]at h;unfold Ul at h;split at h
    cases h;simp[br];rw[dU];split
    rename_i e;subst e;exact .inr (.inl ⟨kk,O,l,_,_,ho,rfl⟩);rw[dU];split
    rename_i e;subst e;exact .inr (.inr ⟨.inl E,.inr rfl⟩);exact .refl _;cases h
   cases h;cases h
 |_=>cases W
theorem L8 {o:Op}(O:By o=true){cx:Cx}{f:FuncId}{args:List SV}(h:opS cx o=.call f args):False:=by
 cases o with
 |mapEntry t m x=>
  simp[opS]at h;unfold aO at h;cases V:cx.ts t with
  |none=>grind
  |some ti=>
   rw[V]at h;change Bx ti cx.nx cx.st.h (val cx x) (val cx m)=_ at h;unfold Bx at h;split at h
   unfold Um at h;split at h
   rename_i kk W l E X;cases Y:mP kk ti.mkt&&mP W ti.mvt&&noE E with
   |false=>grind
   |true=>
    unfold Ul at h;grind
   cases h;cases h
 |_=>cases O
theorem WZ {G:Cons}{h:List Ob}{nx:Nat}{E:OR}{r:Dr}(hr:lB G h nx E=some r)(hn:∀ c a ups s,E≠ .eff c a ups s)(hc:∀ f args,E≠ .call f args):r.ups=[]:=by
 cases E with
 |eff c a ups s=>grind|call f args=>grind
 |_=>simp only[lB]at hr;first|(cases hr;rfl) |cases hr
theorem Rq {ts:Tis}{G:Cons}{ops:List Oper}{K:St->Prop}{Z:Value->St->Prop}{o:Oper}{rest:List Oper}{i b:Nat}{E:List Fp}{st:St}(h:lh ts G ops K Z (o::rest) i b E st):
  (∃ r,lB G st.h st.h.length (opS ⟨ts,ops,o.guard,st,st.h.length⟩ o.op)=some r/\
   (o.guard=none->r.c/\(r.a->lh ts G ops K Z rest (i+1) b (E++[fpU o.op (fpO ⟨ts,ops,o.guard,st,st.h.length⟩ o.op) r.all r.ups]) (St.put ⟨st.t,br st.h r.ups⟩ o.dst r.s)))/\
   (∀ g,o.guard=some g->(dY ops st.t ops.length g->r.c)/\((r.ups=[]/\lh ts G ops K Z rest (i+1) b (E++[fpU o.op (fpO ⟨ts,ops,o.guard,st,st.h.length⟩ o.op) r.all []]) (st.put o.dst (.gd g.1 g.2 r.s)))\/
    (¬ (dY ops st.t ops.length g/\gK ops st.t ops.length g)/\(dY ops st.t ops.length g->r.a->lh ts G ops K Z rest (i+1) b (E++[fpU o.op (fpO ⟨ts,ops,o.guard,st,st.h.length⟩ o.op) r.all r.ups]) (St.put ⟨st.t,br st.h r.ups⟩ o.dst (.gd g.1 g.2 r.s)))/\
     (gK ops st.t ops.length g->lh ts G ops K Z rest (i+1) b (E++[fpU o.op (fpO ⟨ts,ops,o.guard,st,st.h.length⟩ o.op) r.all []]) (st.put o.dst (.gd g.1 g.2 r.s)))))))\/
  (uh ops b E/\F8 ops i=true/\Td G ops o.dst st (λst'=>lh ts G ops K Z rest (i+1) (i+1) [] st') Z o.guard (opS ⟨ts,ops,o.guard,st,st.h.length⟩ o.op)):=by
 simp[lh]at h;cases O:o.guard with
 |none=>
  rw[O]at h;cases hd:lB G st.h st.h.length (opS ⟨ts,ops,none,st,st.h.length⟩ o.op)with
  |none=>rw[hd]at h;exact .inr h
  |some r=>
   rw[hd]at h;exact .inl ⟨r,rfl,λ_=>h,λg e=>by cases e⟩
 |some g=>
  rw[O]at h;simp at h;cases hd:lB G st.h st.h.length (opS ⟨ts,ops,some g,st,st.h.length⟩ o.op)with
  |none=>rw[hd]at h;exact .inr h
  |some r=>
   grind [yx,drG]
section
variable {P:Program}{F:Nat->Prop}{own ee:Own}{w w':World}{ts:Tis}
variable {w0:Bs}{ro:Option Nat}{nd:Nat}{N n:Nat}{ops:List Oper}{st:St}{a:Act}{G:Cons}
def Tj {nx:Nat}{E:Nat->Prop}(W:ts.ok P)(hi:ase F w0 N ops E own st a w)(hn:asQ own st.h nx){o:Oper}(O:GOk ops a o.guard)(V:∀ k c,o.guard=some (k,c)->E k/\oB ops k):
  Rb P F own w st.h ((execOp a.eval o).run P w) (opS ⟨ts,ops,o.guard,st,nx⟩ o.op):=
 Rd (P:=P) (ts:=ts) (ops:=ops) (g:=o.guard) (t:=st.t) (h:=st.h) (nx:=nx) W hi.hp hn (a:=a) (o:=o) (LV hi O V) (λc x y _=>⟨λhc=>zx hi O V c x true hc,λhc=>zx hi O V c y false hc⟩)
theorem Rr {α:Type}(f:Nat->α)(m:Nat):(List.range (m+1)).map f=f 0::(List.range m).map (λi=>f (i+1)):=by
 rw[List.range_succ_eq_map];simp_all
theorem sim (hts:ts.ok P)(hG:arD P G)(hr:ROk N ops){K:St->Prop}{Z:Value->St->Prop}:∀ (rest:List Oper) (n:Nat) (own:Own) (st:St) (a:Act) (w:World) (b:Nat) (W:List Fp),ops.drop n=rest->ase F w0 N ops (· <n) own st a w->lh ts G ops K Z rest n b W st->
  ∃ (m:Nat) (S:Nat->St) (s:Nat->SV) (ups:Nat->List Up) (fs:Nat->Fp) (R:Nat->Dr),S 0=st/\asd ts G ops n m S s ups fs R/\uh ops b (W++(List.range m).map fs)/\aaR ts G ops K Z (n+m) (S m)
 | [],n,own,st,a,w,b,W,hd,hi,hx=>by
  have hn:ops.length<=n:=by
   simp_all
  exact⟨0,λ_=>st,λ_=>.any,λ_=>[],λ_=>⟨[],[],[],[],[]⟩,λ_=>⟨True,True,.any,[],[]⟩,rfl,⟨λi h=>g5⟩,by simpa using hx.1,.inl ⟨hn,hx.2⟩⟩
 |o::rest,n,own,st,a,w,b,W,hd,hi,hx=>by
  obtain⟨Y,hd'⟩:=GB hd;have E:∀ j b,o.guard=some (j,b)->j<n:=λj b e=>hr.lt n o j b Y e;rcases Rq hx with⟨r,h1,h2,h3⟩ | ⟨h1,h2,h3⟩
  ·
   have V:∀ (s:SV) (ups:List Up) (ee:Own) (a':Act) (w':World),(o.guard=none->r.c/\s=r.s/\ups=r.ups)->(∀ g,o.guard=some g->(dY ops st.t ops.length g->r.c)/\((r.ups=ups/\s=.gd g.1 g.2 r.s/\(ups=[]\/¬gK ops st.t ops.length g))\/(ups=[]/\s=.gd g.1 g.2 r.s/\¬dY ops st.t ops.length g)))->
     ase F w0 N ops (· <n+1) ee (St.put ⟨st.t,br st.h ups⟩ o.dst s) a' w'->lh ts G ops K Z rest (n+1) b (W++[fpU o.op (fpO ⟨ts,ops,o.guard,st,st.h.length⟩ o.op) r.all ups]) (St.put ⟨st.t,br st.h ups⟩ o.dst s)->
     ∃ (m:Nat) (S:Nat->St) (s:Nat->SV) (ups:Nat->List Up) (fs:Nat->Fp) (R:Nat->Dr),S 0=st/\asd ts G ops n m S s ups fs R/\uh ops b (W++(List.range m).map fs)/\aaR ts G ops K Z (n+m) (S m):=by
    intro s ups ee a' w' q1 q2 q3 q4;have⟨m,S,s',ups',fs,R,e0,e1,e2,e3⟩:=sim hts hG hr rest (n+1) ee _ a' w' b _ hd' q3 q4;refine⟨m+1,λi=>match i with|0=>st|i+1=>S i,λi=>match i with|0=>s|i+1=>s' i,λi=>match i with|0=>ups|i+1=>ups' i,λi=>match i with|0=>fpU o.op (fpO ⟨ts,ops,o.guard,st,st.h.length⟩ o.op) r.all ups|i+1=>fs i,λi=>match i with|0=>r|i+1=>R i,rfl,⟨λi hi=>?_⟩,?_,?_⟩;cases i with
    |zero=>exact⟨o,Y,⟨h1,e0,rfl,q1,q2⟩⟩
    |succ i=>
     have⟨o',k1,k2⟩:=e1.fact i g5;grind
    grind [Rr]
    grind
   by_cases X:GOk ops a o.guard
   ·have hrun:=Tj hts hi hi.hp.nx X (λk c e=>⟨E k c e,n,o,c,Y,e⟩);have hc:r.c:=by
     cases O:o.guard with
     |none=>grind
     |some g=>exact(h3 g O).1 (wl hi n (λ_ _ _ _ _ _ _ _=>rfl) hr.lt _ g (E g.1 g.2 O) (E g.1 g.2 O) ⟨n,o,g.2,Y,O⟩ g6)
    have⟨ha,⟨u,ee,w',k1,k2⟩,_⟩:=acE (ro:=none) (nd:=0) (a:=a) (o:=o) hG hi.hp hi.hp.nx hrun h1 hc;have hstep:=hi.as0 hr (vv n) (apt n) Y E X k2.hp k2.fr k1;cases O:o.guard with
    |none=>exact V r.s r.ups ee _ w' (λ_=>⟨hc,rfl,rfl⟩) (λg e=>g6) hstep.1 ((h2 O).2 ha)
    |some g=>
     have h3':=h3 g O;rcases h3'.2 with⟨e0,hx⟩ | ⟨nb,hP,_⟩;refine V (.gd g.1 g.2 r.s) [] ee (a.put o.dst u) w' (λe=>g6) (λg' e=>g6) ?_ hx;grind
     have hPp:=wl hi n (λ_ _ _ _ _ _ _ _=>rfl) hr.lt ops.length g (E g.1 g.2 O) (E g.1 g.2 O) ⟨n,o,g.2,Y,O⟩ g6;exact V (.gd g.1 g.2 r.s) r.ups ee (a.put o.dst u) w' (λe=>g6) (λg' e=>g6) (hstep.2 g O) (hP hPp ha)
   cases O:o.guard with
   |none=>exact absurd (by rw[O];trivial) X
   |some g=>
    have h3':=h3 g O;rcases h3'.2 with⟨e0,hx⟩ | ⟨nb,_,hN⟩;exact V (.gd g.1 g.2 r.s) [] own _ w (λe=>g6) (λg' e=>g6) (hi.skip hr (vv n) (apt n) Y E X O) hx;have hNn:=C8 hi ops.length g (E g.1 g.2 O) ⟨n,o,g.2,Y,O⟩ g6;exact V (.gd g.1 g.2 r.s) [] own _ w (λe=>g6) (λg' e=>g6) (hi.skip hr (vv n) (apt n) Y E X O) (hN hNn)
  ·
   exact⟨0,λ_=>st,λ_=>.any,λ_=>[],λ_=>⟨[],[],[],[],[]⟩,λ_=>⟨True,True,.any,[],[]⟩,rfl,⟨λi h=>g5⟩,g6,.inr ⟨o,Y,h2,g6⟩⟩
variable {b m:Nat}{S:Nat->St}{s:Nat->SV}{ups:Nat->List Up}{fs:Nat->Fp}{R:Nat->Dr}
theorem acF (st:St)(d:Option Nat)(s:SV):(st.put d s).h=st.h:=by cases d <;>rfl
theorem Rt (st:St)(d:Option Nat)(s:SV)(t:Nat):lk t (st.put d s).t=if d=some t then s else lk t st.t:=by
 cases d with
 |none=>rfl
 |some d=>
  show lk t ((d,s)::st.t)=_;simp_all [sW]
theorem asd.hstep (E:asd ts G ops b m S s ups fs R){i:Nat}(hi:i<m):(S (i+1)).h=br (S i).h (ups i):=by
 have⟨o,_,f⟩:=E.fact i hi;rw[f.nxt,acF]
theorem asd.len (E:asd ts G ops b m S s ups fs R){i:Nat}:∀ {j:Nat},i<=j->j<=m->(S i).h.length<=(S j).h.length
 |0,h,_=>by
   grind
 |j+1,h,hj=>by
  by_cases e:i=j+1
  grind
  refine aoA (asd.len E (j:=j) g5 g5) ?_;rw[E.hstep g5];exact AP _ _
theorem asd.same (E:asd ts G ops b m S s ups fs R){id i:Nat}:∀ {j:Nat},i<=j->j<=m->(∀ k,i<=k->k<j->id ∉ fS (ups k))->ap (S i).h id=ap (S j).h id
 |0,h,_,_=>by
   grind
 |j+1,h,hj,hk=>by
  by_cases e:i=j+1
  subst e;rfl;rw[asd.same E (j:=j) g5 g5 (λk h1 h2=>hk k h1 g5),E.hstep g5,rf (hk j g5 g5)]
theorem asd.like (W:asd ts G ops b m S s ups fs R){id i:Nat}:∀ {j:Nat},i<=j->j<=m->(∀ k,i<=k->k<j->id∈(fs k).tc->False)->as8 (ap (S i).h id) (ap (S j).h id)
 |0,h,_,_=>by
   have:i=0:=g5
   subst this;exact .refl _
 |j+1,h,hj,hk=>by
  by_cases e:i=j+1
  subst e;exact .refl _;refine(asd.like W (j:=j) g5 g5 (λk h1 h2=>hk k h1 g5)).trans ?_;have⟨o,ho,f⟩:=W.fact j g5;rw[W.hstep g5];by_cases X:id∈fS (ups j)
  have V:=hk j g5 g5;rw[f.fp]at V;unfold fpU at V;cases Y:By o.op with
  |false=>grind
  |true=>
   have e3:ups j=[]\/ups j=(R j).ups:=by
    cases hg:o.guard with
    |none=>exact .inr (f.plain hg).2.2
    |some g=>
     rcases(f.guarded g hg).2 with⟨e,_⟩ | ⟨e,_⟩ <;>grind
   rcases e3 with e3|e3;grind [fS]
   have E:=f.dr;cases O:opS ⟨ts,ops,o.guard,S j,(S j).h.length⟩ o.op with
   |eff c a' ups' s'=>
    rw[O]at E;simp[lB,aoo]at E;rw[e3,<-E];exact WY (oz (aom _)) Y O id
   |_=>
    rw[O]at E;rw[e3,WZ E (λ_ _ _ _ e=>by cases e) (λf args e=>L8 Y (O.trans e))]at X;simp[fS]at X
  rw[rf X];exact .refl _
end
variable {x y:Fp}
theorem Ow{id:Nat}(h1:id∈x.tc\/id∈x.wt)(h2:id∈y.tc\/id∈y.wt):vh x y=true:=by
 grind [vh,wo]
theorem W0{id:Nat}(h1:id∈x.rd)(h2:id∈y.tc\/id∈y.wt):vh x y=true:=by
 grind [vh,wo]
theorem W3{id:Nat}(h1:id∈x.wk)(h2:id∈y.tc):vh x y=true:=by
 grind [vh,wo]
theorem UV{id:Nat}(h1:id∈x.all)(h2:id∈y.tc\/id∈y.wt):vh x y=true:=by
 grind [vh,wo]
section
variable {P:Program}{F:Nat->Prop}{own ee:Own}{w w':World}{ts:Tis}
variable {w0:Bs}{ro:Option Nat}{nd:Nat}{N n:Nat}{ops:List Oper}{st:St}{a:Act}{G:Cons}
variable {b m:Nat}{S:Nat->St}{s:Nat->SV}{ups:Nat->List Up}{fs:Nat->Fp}{R:Nat->Dr}
theorem asd.ath (E:asd ts G ops b m S s ups fs R){i id:Nat}(hi:i<m)(h:id∈fS (ups i)):id∈(fs i).tc\/id∈(fs i).wt:=by
 have⟨o,_,f⟩:=E.fact i hi;rw[f.fp];grind [fpU]
theorem asd.atB (E:asd ts G ops b m S s ups fs R){i id:Nat}(hi:i<m)(h:id∈(fs i).tc):id∈fS (ups i):=by
 have⟨o,_,f⟩:=E.fact i hi;rw[f.fp]at h;grind [fpU]
theorem asd.lt (E:asd ts G ops b m S s ups fs R){i id:Nat}(hi:i<m)(h:id∈fS (ups i)):id< (S (i+1)).h.length:=by
 rw[E.hstep hi];exact Kn h
theorem asd.lk (E:asd ts G ops b m S s ups fs R)(t:Nat):∀ k,k<=m->(∃ (j:Nat) (q:Oper),j<k/\ops[b+j]? =some q/\q.dst=some t/\Sx.lk t (S k).t=s j)\/((∀ (j:Nat) (q:Oper),j<k->ops[b+j]? =some q->q.dst≠some t)/\Sx.lk t (S k).t=Sx.lk t (S 0).t)
 |0,_=>.inr ⟨λj q h=>g5,rfl⟩
 |k+1,hk=>by
  have⟨o,ho,f⟩:=E.fact k g5;have V:Sx.lk t (S (k+1)).t=if o.dst=some t then s k else Sx.lk t (S k).t:=by rw[f.nxt,Rt]
  by_cases hd:o.dst=some t
  grind
  rcases asd.lk E t k (g5)with⟨j,q,h1,h2,W,O⟩ | ⟨h1,h2⟩ <;>grind
structure asN (F:Nat->Prop)(w0:Bs)(N:Nat)(ops:List Oper)(b m:Nat)(S:Nat->St)(s:Nat->SV)(ups:Nat->List Up)(listed:Array Bool)(own:Own)(st:St)(a:Act)(w:World):Prop where
 inv:ase F w0 N ops (λk=>listed[k]? =some true) own st a w
 size:listed.size=ops.length
 low:∀ k,k<b->k<ops.length->listed[k]? =some true
 high:∀ k,b+m<=k->¬listed[k]? =some true
 put:∀ (k:Nat) (q:Oper) (d:Nat),k<m->listed[b+k]? =some true->ops[b+k]? =some q->q.dst=some d->lk d st.t=s k
 old:∀ t,(∀ (k:Nat) (q:Oper),k<m->listed[b+k]? =some true->ops[b+k]? =some q->q.dst≠some t)->lk t st.t=lk t (S 0).t
 closed:FC ops (λk=>listed[k]? =some true)
 heap:∀ id,∃ p,p<=m/\(∀ k,k<m->id∈fS (ups k)->(listed[b+k]? =some true↔k<p))/\ap st.h id=ap (S p).h id
 dom:∀ id,own id=none\/id< (S 0).h.length\/∃ k,k<m/\listed[b+k]? =some true/\id∈fS (ups k)
variable {listed:Array Bool}
theorem BQ{k:Nat}(h:listed.getD k true=false):listed[k]? =some false:=by
 simp[aoP]at h;grind
theorem Ox{n:Nat}(hn:listed[n]? =some false)(k:Nat):(listed.setIfInBounds n true)[k]? =some true↔listed[k]? =some true\/k=n:=by
 grind
theorem W4 {o:Oper}{n:Nat}(h:Operand.tmp n∈o.op.operands.toList):n∈o.looksAt ops.toArray:=by
 grind [Oper.looksAt]
variable {listed:Array Bool}
variable {k:Nat}{o:Oper}
theorem asN.order(hi:asN F w0 N ops b m S s ups listed own st a w)(ho:ops[b+k]? =some o)(X:listed[b+k]? =some false)(hw:∀ j,qT o j=true->listed[j]? =some true){j:Nat}(hne:j≠k)(E:Ord ops (b+k) (b+j)):
  (j<k/\listed[b+j]? =some true)\/(k<j/\¬listed[b+j]? =some true):=by
 rcases E with⟨h1,h2⟩ | ⟨h1,h2⟩;have:=L7 (ops:=ops) (S:=λi=>listed[i]? =some true\/i=b+k) (λi q W V hq O=>?_) (.inr rfl) h2;grind
 rcases V with V|rfl;exact .inl (hi.closed i q W V hq O);grind
 right;refine⟨g5,λY=>?_⟩;have:=L7 hi.closed Y h2;grind
theorem asN.obj(hi:asN F w0 N ops b m S s ups listed own st a w)(O:asd ts G ops b m S s ups fs R)(hk:k<m)(hni:listed[b+k]? =some false){id:Nat}
  (W:∀ j,j<m->j≠k->id∈fS (ups j)->(j<k/\listed[b+j]? =some true)\/(k<j/\¬listed[b+j]? =some true)):ap (S k).h id=ap st.h id:=by
 have⟨p,h1,h2,h3⟩:=hi.heap id;rw[h3];by_cases E:p<=k
 refine(O.same E g5 λj Y V X=>?_).symm;grind
 refine O.same g5 h1 λj Y V X=>?_;grind
theorem asN.auK(hi:asN F w0 N ops b m S s ups listed own st a w)(O:asd ts G ops b m S s ups fs R)(hk:k<m)(hni:listed[b+k]? =some false){id:Nat}
  (V:∀ j,j<m->j≠k->id∈(fs j).tc->(j<k/\listed[b+j]? =some true)\/(k<j/\¬listed[b+j]? =some true)):as8 (ap (S k).h id) (ap st.h id):=by
 have⟨p,h1,h2,h3⟩:=hi.heap id;rw[h3];by_cases W:p<=k
 refine(O.like W g5 λj q1 X E=>?_).symm;rcases V j g5 g5 E with⟨_,Y⟩ | ⟨h,_⟩;have:=(h2 j g5 (O.atB g5 E)).1 Y;omega;omega;refine O.like g5 h1 λj q1 X E=>?_;have Y:=(h2 j g5 (O.atB g5 E)).2 X;grind
theorem asN.reads(hd:DOk ops)(hi:asN F w0 N ops b m S s ups listed own st a w)(hp:asd ts G ops b m S s ups fs R)(hk:k<m)(W:ops[b+k]? =some o)(hni:listed[b+k]? =some false)
  (hw:∀ j,qT o j=true->listed[j]? =some true) {d:Nat} (X:d∈o.looksAt ops.toArray):lk d (S k).t=lk d st.t:=by
 rcases hp.lk d k (g5)with⟨j,q,h1,h2,O,Y⟩ | ⟨h1,h2⟩;rw[Y];rcases hd.look (b+k) (b+j) o q d W h2 O X with e| ⟨_,e⟩ | ⟨e,_⟩;omega;exact(hi.put j q d g5 (hw _ e) h2 O).symm;omega;rw[h2];refine(hi.old d λj q hj hl V E=>?_).symm;rcases hd.look (b+k) (b+j) o q d W V E X with e| ⟨e,_⟩ | ⟨_,e⟩;grind
 grind
 have:listed[b+k]? =some true:=hi.closed _ q _ hl V e;grind
theorem asN.full (hd:DOk ops)(hi:asN F w0 N ops b m S s ups listed own st a w)(hp:asd ts G ops b m S s ups fs R)(V:∀ k,k<m->listed[b+k]? =some true):ase F w0 N ops (λk=>listed[k]? =some true) own (S m) a w:=by
 have X:∀ t,lk t (S m).t=lk t st.t:=λt=>by
  rcases hp.lk t m (aom _)with⟨j,q,h1,h2,O,W⟩ | ⟨h1,h2⟩;rw[W];exact(hi.put j q t h1 (V j h1) h2 O).symm;rw[h2];exact(hi.old t λk q hk _ Y=>h1 k q hk Y).symm
 have hh:∀ id,ap (S m).h id=ap st.h id:=λid=>by
  have⟨p,h1,h2,O⟩:=hi.heap id;rw[O];refine(hp.same h1 (aom _) λj q1 q2 hm=>?_).symm;grind
 refine⟨hi.inv.size,hi.inv.defers,⟨λid hd e=>?_,hi.inv.hp.arN,hi.inv.hp.apart,hi.inv.hp.inj,hi.inv.hp.lt,λid E=>?_⟩,hi.inv.fr,λt=>by rw[X];exact hi.inv.slots t,λk o d j b s h1 h2 O W h5=>hi.inv.tags k o d j b s h1 h2 O W g6,hi.inv.closed,hi.inv.chain⟩;rcases hi.dom id with h|h| ⟨k,h1,_,h2⟩;grind
 exact aoy h (hp.len (aoV _) (aom _));exact aoy (hp.lt h1 h2) (hp.len g5 (aom _));rw[hh]at E |-;exact hi.inv.hp.obs id E
theorem asN.start (hi:ase F w0 N ops (· <b) own (S 0) a w)(X:listed.size=ops.length)(V:∀ k,k<ops.length->(listed[k]? =some true↔k<b))(hr:ROk N ops)(W:∀ (i:Nat) (o:Oper) (j:Nat),ops[i]? =some o->qT o j=true->j<i):asN F w0 N ops b m S s ups listed own (S 0) a w:=by
 have Y:∀ k,listed[k]? =some true->k<b:=λk h=>(V k g6).1 h;have E:∀ {k:Nat},¬listed[b+k]? =some true:=λ{k} h=>g6
 refine⟨⟨hi.size,hi.defers,hi.hp,hi.fr,λt=>?_,λk o d j O s h1=>hi.tags k o d j O s (Y k h1),λk o j O h1 h2 h3=>?_,λk o O h1=>hi.chain k o O (Y k h1)⟩,X,λk h1 h2=>(V k h2).2 h1,λk h1 h2=>g6,λk q d _ h=>absurd h E,λt _=>rfl,λi o j h1 h2 h3=>?_,λid=>⟨0,aoV _,λk hk _=>⟨λh=>absurd h E,λh=>g5⟩,rfl⟩,λid=>?_⟩;have h:=hi.slots t;cases hs:lk t (S 0).t with
 |gd j O s'=>
  rw[hs]at h;have⟨q1,⟨i,o,b2,q2,q3⟩,q4⟩:=h;have hlt:=(aop.1 q2).1;have:=hr.lt i o j b2 q2 q3;exact⟨(V j g5).2 q1,⟨i,o,b2,q2,q3⟩,q4⟩
 |_=>rw[hs]at h;exact h
 have:=hr.lt k o j O h2 h3;grind
 grind
 cases ho:own id with
 |none=>grind|some hd=>exact .inr (.inl (hi.hp.dom id hd ho))
end
variable {r:Dr}
theorem aaT{np:Bool}{rd:List Nat}{nx:Nat}{p:Prop}{s:SV}{rows:List Ob}(h:drR np rd nx p s rows=some r):r.all=rd:=by
 match rows,h with
 | [],h=>grind [drR]| [ob],h=>grind [drR]|_::_::_,h=>simp[drR]at h
theorem W5 {E:Bool}{rd:List Nat}{nx nx':Nat}{c:Option Con}:(drC E rd nx c=none->drC E rd nx' c=none)/\∀ r,drC E rd nx c=some r->¬nx∈fS r.ups->drC E rd nx' c=some r:=by
 cases c with
 |none=>exact⟨id,λr h=>by cases h⟩
 |some c=>
  cases c with
  |rel=>exact⟨id,λr h=>by cases h⟩
  |may=>exact⟨id,λr h=>by cases h⟩
  |det p s=>
   simp[drC];generalize aZ 3 s=rows;match rows with
   | [] =>exact⟨id,λr h _=>h⟩
   | [ob] =>
    unfold drR;cases E||kf 3 s;exact⟨id,λr h=>by cases h⟩;exact⟨λh=>(by cases h),λr h hn=>by cases h;exact absurd (by simp[fS]) hn⟩
   |_::_::_=>exact⟨id,λr h=>by cases h⟩
variable {h:List Ob}{E:OR}
theorem aaU{G:Cons}{nx nx':Nat}(hr:lB G h nx E=some r)(hn:¬nx∈fS r.ups\/∀ f args,E≠ .call f args):lB G h nx' E=some r:=by
 cases E with
 |call f args=>
  have hn:=hn.resolve_right (λh=>h f args rfl);simp[lB]at hr |-;cases hc:drC (args.all (dM 3)) (args.flatMap (mw h 6)) nx (G.p f (args.map (jq h 6)))with
  |none=>rw[hc]at hr;rw[W5.1 hc];exact hr|some x=>rw[hc]at hr;cases hr;rw[W5.2 _ hc hn];rfl
 |_=>exact hr
def Oy {f:SV->List Nat}{l:List SV}{x:SV}{a:Nat}(O:x∈l)(E:a∈f x):a∈l.flatMap f:=apJ.2 ⟨x,O,E⟩
variable {h':List Ob}
theorem W6:∀ (n:Nat) (s:SV),(∀ id,id∈mw h n s->ap h id=ap h' id)->jq h n s=jq h' n s:=by
 intro n;induction n with
 |zero=>intro s O;cases s <;>first|rfl|(simp only[jq];rw[O _ (by simp[mw])])
 |succ n Y=>
  intro s O;have E:∀ (l:List SV),(∀ id,id∈l.flatMap (mw h n)->ap h id=ap h' id)->l.map (jq h n)=l.map (jq h' n):=λl E=>
   List.map_congr_left λx hx=>Y x λid W=>E id (Oy hx W)
  cases s with
  |ptr id off=>
   simp[jq];have X:∀ V,(∀ id,id∈Uq (mw h n) V->ap h id=ap h' id)->Uo (jq h n) off V=Uo (jq h' n) off V:=λV X=>by
    cases V with
    |cells l=>simp[Uo,E l X]|_=>rfl
   grind [mw]
  |ep l o=>simp[jq,E l O]|ls z l=>simp[jq,E l O]|agg l=>simp[jq,E l O]|tup l=>simp[jq,E l O]|fn f l l2=>grind [jq,mw]
  |_=>first|rfl|(simp only[jq];rw[O _ (by simp[mw])])
theorem GM {f g:SV->List Nat}:∀ (l:List SV),(∀ x,x∈l->f x=g x)->l.flatMap f=l.flatMap g
 | [],_=>rfl
 |a::r,h=>by rw[aoF,aoF,h a (by simp),GM r λx E=>h x (by simp[E])]
theorem W7:∀ (n:Nat) (s:SV),(∀ id,id∈mw h n s->ap h id=ap h' id)->mw h n s=mw h' n s:=by
 intro n;induction n with
 |zero=>intro s Y;cases s <;>rfl
 |succ n X=>
  intro s Y;have V:∀ (l:List SV),(∀ id,id∈l.flatMap (mw h n)->ap h id=ap h' id)->l.flatMap (mw h n)=l.flatMap (mw h' n):=λl V=>
   GM l λx hx=>X x λid O=>V id (Oy hx O)
  cases s with
  |ptr id off=>
   have W:∀ E,(∀ id,id∈Uq (mw h n) E->ap h id=ap h' id)->Uq (mw h n) E=Uq (mw h' n) E:=λE W=>by
    cases E with
    |cells l=>exact V l W|_=>rfl
   grind [mw]
  |ep l o=>grind [mw]|ls z l=>grind [mw]|agg l=>grind [mw]|tup l=>grind [mw]|fn f l l2=>grind [mw]|_=>rfl
theorem Ru{G:Cons}{nx:Nat}(V:∀ id,id∈r.all->ap h id=ap h' id)(hr:lB G h nx E=some r):lB G h' nx E=some r:=by
 cases E with
 |call f args=>
  have O:r.all=args.flatMap (mw h 6):=by
   rcases Ti hr with hr|hr
   case inr=>obtain⟨s,g,_,rfl⟩:=Th hr;rfl
   cases hc:G.p f (args.map (jq h 6))with
   |none=>rw[hc]at hr;cases hr
   |some c=>
    rw[hc]at hr;cases c with
    |rel=>cases hr|may=>cases hr
    |det p s=>
     grind [aaT,drC]
  grind [List.map_congr_left,W6,W7,lB]
 |_=>exact hr
theorem ad2 (o:Op)(x:List Nat×List Nat)(all:List Nat)(ups:List Up):(fpU o x all ups).rd=x.1/\(fpU o x all ups).wk=x.2/\(fpU o x all ups).all=all:=by
 grind [fpU]
section
variable {P:Program}{F:Nat->Prop}{own ee:Own}{w w':World}{ts:Tis}
variable {w0:Bs}{ro:Option Nat}{nd:Nat}{N n:Nat}{ops:List Oper}{st:St}{a:Act}{G:Cons}
variable {b m:Nat}{S:Nat->St}{s:Nat->SV}{ups:Nat->List Up}{fs:Nat->Fp}{R:Nat->Dr}{listed:Array Bool}
theorem asN.op (hd:DOk ops)(hi:asN F w0 N ops b m S s ups listed own st a w)(hp:asd ts G ops b m S s ups fs R)(auS:uh ops b ((List.range m).map fs)){k:Nat}{o:Oper}(Y:k<m)(ho:ops[b+k]? =some o)(O:listed[b+k]? =some false)
  (hw:∀ j,qT o j=true->listed[j]? =some true) (hsk:(R k).ups=ups k):∃ nx,asQ own st.h nx/\lB G st.h nx (opS ⟨ts,ops,o.guard,st,nx⟩ o.op)=some (R k):=by
 have⟨o',ho',f⟩:=hp.fact k Y;rw[ho]at ho';cases ho';have X:∀ i,i<m->((List.range m).map fs)[i]? =some (fs i):=λi hi=>by simp[hi]
 have W:∀ j,j<m->j≠k->vh (fs k) (fs j)=true->(j<k/\listed[b+j]? =some true)\/(k<j/\¬listed[b+j]? =some true):=λj V E hc=>
  hi.order ho O hw E (GK auS (X k Y) (X j V) (λe=>E e.symm) hc)
 have⟨e1,e2,e3⟩:=ad2 o.op (fpO ⟨ts,ops,o.guard,S k,(S k).h.length⟩ o.op) (R k).all (ups k);rw[<-f.fp]at e1 e2 e3;have hop:opS ⟨ts,ops,o.guard,S k,(S k).h.length⟩ o.op=opS ⟨ts,ops,o.guard,st,(S k).h.length⟩ o.op:=
  US (t:=(S k).t) (h:=(S k).h) (t':=st.t) (h':=st.h) o.op (λx hx=>by
    cases x with
    |tmp n=>exact hi.reads hd hp Y ho O hw (W4 hx)
    |_=>rfl)
   (λid hid=>hi.obj hp Y O λj V E hm=>W j V E (W0 (by simp_all) (hp.ath V hm)))
   (λid hid=>hi.auK hp Y O λj V E hm=>W j V E (W3 (by simp_all) hm))
 have hdr:=f.dr;have hdr2:lB G st.h (S k).h.length (opS ⟨ts,ops,o.guard,S k,(S k).h.length⟩ o.op)=some (R k):=Ru (λid hall=>hi.obj hp Y O λj V E hm=>W j V E (UV g6 (hp.ath V hm))) hdr;by_cases hm:(S k).h.length∈fS (R k).ups
 refine⟨(S k).h.length,?_,g6⟩;have hmu:(S k).h.length∈fS (ups k):=g6
 have hnk:¬listed[b+k]? =some true:=g6
 refine⟨?_,?_⟩;rcases hi.dom (S k).h.length with h|h| ⟨j,h1,h2,h3⟩;exact h;have:=hp.len (aoV k) g5;omega;have E:j≠k:=λe=>hnk (e▸h2);rcases W j h1 E (Ow (hp.ath Y hmu) (hp.ath h1 h3))with⟨hlt,_⟩ | ⟨_,hl⟩;have:=hp.lt h1 h3;have:=hp.len (i:=j+1) (j:=k) g5 g5;omega;grind
 have⟨p,h1,h2,h3⟩:=hi.heap (S k).h.length;rw[h3];refine oz ?_;have:¬k<p:=λh=>hnk ((h2 k Y hmu).2 h);exact hp.len g5 g5;refine⟨st.h.length,hi.inv.hp.nx,?_⟩;rw[ad1 (nx':=st.h.length) hop.symm ?_];grind [aaU]
 grind [lB]
theorem asN.next (hd:DOk ops)(hi:asN F w0 N ops b m S s ups listed own st a w)(hp:asd ts G ops b m S s ups fs R)(X:uh ops b ((List.range m).map fs)){k:Nat}{o:Oper}(hk:k<m)(ho:ops[b+k]? =some o)(Y:listed[b+k]? =some false)
  (hw:∀ j,qT o j=true->listed[j]? =some true) {a':Act} (hinv:ase F w0 N ops (λj=>(listed.setIfInBounds (b+k) true)[j]? =some true) ee (St.put ⟨st.t,br st.h (ups k)⟩ o.dst (s k)) a' w')
  (hfr:∀ id,own id=none->d_ (ap (br st.h (ups k)) id)=true->ee id=none):
  asN F w0 N ops b m S s ups (listed.setIfInBounds (b+k) true) ee (St.put ⟨st.t,br st.h (ups k)⟩ o.dst (s k)) a' w':=by
 have W:∀ i,i<m->((List.range m).map fs)[i]? =some (fs i):=λi hi=>by simp[hi]
 have hor:∀ j,j<m->j≠k->vh (fs k) (fs j)=true->(j<k/\listed[b+j]? =some true)\/(k<j/\¬listed[b+j]? =some true):=λj hj E hc=>
  hi.order ho Y hw E (GK X (W k hk) (W j hj) (λe=>E e.symm) hc)
 have O:=Ox Y;refine⟨hinv,by simp[hi.size],λj h1 h2=>(O j).2 (.inl (hi.low j h1 h2)),λj h1 h2=>?_,λj q d h1 h2 V h4=>?_,λt ht=>?_,λi q j h1 h2 V=>?_,λid=>?_,λid=>?_⟩;rcases(O j).1 h2 with h|h;exact hi.high j h1 h;omega;rw[Rt];rcases(O _).1 h2 with h|h;have E:o.dst≠some d:=λe=>by
  have:=hd.uniq (b+k) (b+j) o q d ho V e h4;grind
 rw[if_neg E];exact hi.put j q d h1 h V h4;grind
 have E:o.dst≠some t:=ht k o hk ((O _).2 (.inr rfl)) ho;rw[Rt,if_neg E];exact hi.old t λj q h1 h2 V=>ht j q h1 ((O _).2 (.inl h2)) V;rcases(O i).1 h1 with h|rfl;exact(O j).2 (.inl (hi.closed i q j h h2 V));grind
 rw[acF];by_cases hm:id∈fS (ups k)
 refine⟨k+1,g5,λj hj hmj=>?_,?_⟩;rw[O];by_cases e:j=k
 omega;rcases hor j hj e (Ow (hp.ath hk hm) (hp.ath hj hmj))with⟨h1,h2⟩ | ⟨h1,h2⟩ <;>grind;rw[hp.hstep hk];exact Ko hm;have⟨p,h1,h2,V⟩:=hi.heap id;grind [rf]
 ·by_cases hno:own id=none
  by_cases hm:id∈fS (ups k)
  grind
  left;refine hfr id hno ?_;rw[rf hm];cases hdd:d_ (ap st.h id)with
  |true=>rfl|false=>have⟨hdx,e,_⟩:=hi.inv.hp.obs id hdd;grind
  rcases hi.dom id with h|h| ⟨j,h1,h2,V⟩ <;>grind
variable {Q:Exit->Act->World->Prop}{Z:Value->St->Prop}
theorem aaV(hts:ts.ok P)(hG:arD P G)(hr:ROk N ops)(hd:DOk ops){K:St->Prop}
  (hZ:∀ x own st a w,arE F w0 N own st a w->Z x st->Q (.panic [{ v:=x,recovered:=false}]) a w)
  (hK:∀ own st a w,ase F w0 N ops (· <ops.length) own st a w->K st->Q .normal a w):
  ∀ (V:Nat) (listed:Array Bool) (own:Own) (st:St) (a:Act) (w:World) (b m:Nat) (S:Nat->St) (s:Nat->SV) (ups:Nat->List Up) (fs:Nat->Fp) (R:Nat->Dr),
  asN F w0 N ops b m S s ups listed own st a w->asd ts G ops b m S s ups fs R->uh ops b ((List.range m).map fs)->aaR ts G ops K Z (b+m) (S m)->listed.toList.count false<=V->wpAnyIn (rd ro) nd P .any ops.toArray Q V listed a w:=by
 have hback:∀ (i:Nat) (o:Oper) (j:Nat),ops[i]? =some o->qT o j=true->j<i:=λi o j W hj=>by
  unfold qT at hj;rw[apx]at hj;have⟨e,he,hje⟩:=hj;simp[aoj]at hje;have:=hd.back i o e W g6 hje.2;simp_all
 have hdone:∀ (listed:Array Bool) (own:Own) (st:St) (a:Act) (w:World) (b m:Nat) (S:Nat->St) (s:Nat->SV) (ups:Nat->List Up) (fs:Nat->Fp) (R:Nat->Dr),
   asN F w0 N ops b m S s ups listed own st a w->asd ts G ops b m S s ups fs R->aaR ts G ops K Z (b+m) (S m)->(∀ k,k<ops.length->listed[k]? =some true)->Q .normal a w:=by
  intro listed own st a w b m S s ups fs R hi hp he E;rcases he with⟨_,hk⟩ | ⟨o,W,_⟩;refine hK own (S m) a w ((hi.full hd hp λk hk=>?_).congr λk=>⟨λh=>by have:=(aqc.1 h).1;rw[hi.size]at this;exact this,E k⟩) hk;have⟨o,W,_⟩:=hp.fact k hk;grind
  exact absurd (E _ (aop.1 W).1) (hi.high _ (aom _))
 have hready:∀ (listed:Array Bool),listed.size=ops.length->Region.ready .any ops.toArray listed=[]->∀ k,k<ops.length->listed[k]? =some true:=by
  intro listed hsz atP k;induction k using Nat.strongRecOn with
  |_ k ih=>
   intro hk;cases hb:listed[k]with
   |true=>grind
   |false=>
    have:k∈Region.ready .any ops.toArray listed:=by
     rw[mem_ready];refine⟨by simp_all,ops[k],by simp[hk],λe he hbe=>?_⟩;have hlt:=hd.back k ops[k] e (aov hk) he hbe;simp_all <;>grind
    grind
 intro V;induction V with
 |zero=>
  intro listed own st a w b m S s ups fs R hi hp X he hc;have E:∀ k,k<ops.length->listed[k]? =some true:=by
   intro k hk;have hlk:k<listed.size:=by rw[hi.size];exact hk
   cases hb:listed[k]with
   |true=>grind
   |false=>
    grind [List.count_pos_iff]
  refine⟨?_,hdone _ _ _ _ _ _ _ _ _ _ _ _ hi hp he E⟩;cases hrd:Region.ready .any ops.toArray listed with
  |nil=>rfl
  |cons x xs=>
   have hx:x∈Region.ready .any ops.toArray listed:=g6
   grind [BQ,mem_ready]
 |succ V ih=>
  intro listed own st a w b m S s ups fs R hi hp X he hc;refine⟨λatP=>hdone _ _ _ _ _ _ _ _ _ _ _ _ hi hp he (hready _ hi.size atP),λi hmem=>?_⟩;rw[mem_ready]at hmem;obtain⟨h0,o,ho',hedge⟩:=hmem;have W:ops[i]? =some o:=g6
  have hni:=BQ h0;have hnk:¬listed[i]? =some true:=g6
  have hil:i<ops.length:=(aop.1 W).1;have hw:∀ j,qT o j=true->listed[j]? =some true:=by
   intro j hj;unfold qT at hj;simp_all <;>grind
  have hE:=Ox hni;have hgE:∀ j b,o.guard=some (j,b)->listed[j]? =some true:=by
   intro j b O;have hrf:oB ops j:=⟨i,o,b,W,O⟩;have⟨q,d,h1,h2,h3⟩:=hr.uniq j hrf;have hlt:=hr.lt i o j b W O;have hm:d∈o.looksAt ops.toArray:=by
    grind [Oper.looksAt]
   rcases hd.look i j o q d W h1 h2 hm with e| ⟨_,e⟩ | ⟨e,_⟩ <;>grind
  have hcnt:(listed.setIfInBounds i true).toList.count false<=V:=by
   grind
  have hclS:FC ops (λj=>listed[j]? =some true\/j=i):=λj q j' hS hq hj'=>by
   rcases hS with hS|rfl;exact .inl (hi.closed j q j' hS hq hj');grind
  have hib:b<=i:=aoU λh=>hnk (hi.low i g5 hil);by_cases hlt:i<b+m
  ·
   obtain⟨k,rfl⟩:∃ k,i=b+k:=⟨i - b,g5⟩;have hk:k<m:=g5
   obtain⟨o',ho2,f⟩:=hp.fact k hk;rw[W]at ho2;cases ho2;have hlk:∀ (j:Nat) (q:Oper) (d:Nat),j<b+k->listed[j]? =some true->oB ops j->ops[j]? =some q->q.dst=some d->lk d (S k).t=lk d st.t:=λj q d hj hEj hrf hq hqd=>by
    rcases hp.lk d k (g5)with⟨j',q',h1,h2,h3,h4⟩ | ⟨h1,h2⟩;have:=hd.uniq j (b+j') q q' d hq h2 hqd h3;subst this;rw[h4];exact(hi.put j' q d g5 hEj hq hqd).symm;rw[h2];refine(hi.old d λj' q' h3 h4 h5 h6=>?_).symm;have:=hd.uniq j (b+j') q q' d hq h5 hqd h6;grind
   unfold wpOpIn;rw[ho'];by_cases hgo:GOk ops a o.guard
   ·have hgP:∀ g,o.guard=some g->dY ops (S k).t ops.length g:=λg O=>
     wl hi.inv (b+k) hlk hr.lt ops.length g (hr.lt _ o g.1 g.2 W O) (hgE g.1 g.2 O) ⟨b+k,o,g.2,W,O⟩ g6
    have hu:ups k=(R k).ups:=by
     cases O:o.guard with
     |none=>exact(f.plain O).2.2
     |some g=>
      rcases(f.guarded g O).2 with⟨e,_⟩ | ⟨_,_,e⟩ <;>grind
    have⟨nx,hnx,hdr⟩:=hi.op hd hp X hk W hni hw hu.symm;have Y:=(nY (ops:=ops) (a:=a) (o:=o)).2 hgo;simp[Y];have hrun:=Tj hts hi.inv hnx hgo (λk' c e=>⟨hgE k' c e,b+k,o,c,W,e⟩);have hc':(R k).c:=by
     cases O:o.guard with
     |none=>exact(f.plain O).1|some g=>exact(f.guarded g O).1 (hgP g O)
    have hnd:∀ c,o.op≠ .defer c:=C9 (cx:=⟨ts,ops,o.guard,st,nx⟩) (λe=>by grind [lB]);have⟨_,_,hcont⟩:=acE (ro:=ro) (nd:=nd) (a:=a) (o:=o) hG hi.inv.hp hnx hrun hdr hc';refine⟨λ_ _=>trivial,?_⟩;rw[Oper.semAt_eq _ _ _ hnd];refine hcont _ _ λu ee w' asX hst=>?_;have hstep:=hi.inv.as0 hr hE hnk W hgE hgo hst.hp hst.fr asX;rw[<-hu]at hstep;refine ih _ ee _ _ w' b m S s ups fs R (hi.next hd hp X hk W hni hw ?_ (λid e1 e2=>hst.fresh id e1 g6)) hp X he hcnt;cases O:o.guard with
    |none=>rw[(f.plain O).2.1];exact hstep.1
    |some g=>
     rcases(f.guarded g O).2 with⟨_,e,_⟩ | ⟨_,_,e⟩ <;>grind
   ·have Y:Region.wanted o (yielded ops.toArray a.tmps)=false:=by
     grind [nY]
    simp only[Y];refine⟨λ_ _=>trivial,?_⟩;cases O:o.guard with
    |none=>exact absurd (by rw[O];trivial) hgo
    |some g=>
     have hgN:=Gw hi.inv (b+k) hlk hr.lt ops.length g (hr.lt _ o g.1 g.2 W O) (hgE g.1 g.2 O) ⟨b+k,o,g.2,W,O⟩ g6;have hu:ups k=[]/\∃ x,s k=.gd g.1 g.2 x:=by
      rcases(f.guarded g O).2 with⟨_,e,h0|h0⟩ | ⟨h0,e,_⟩ <;>grind
     have⟨hu,x,hs⟩:=hu;have hsk:=hi.inv.skip (s:=x) hr hE hnk W hgE hgo O;refine ih _ own _ _ w b m S s ups fs R (hi.next hd hp X hk W hni hw ?_ (λid e1 _=>e1)) hp X he hcnt;rw[hu,hs];exact hsk
  rcases he with⟨hle,_⟩ | ⟨q,hq,hcut,hx⟩;omega;by_cases hie:i=b+m
  subst hie;rw[W]at hq;cases hq;have E:∀ k,k<m->listed[b+k]? =some true:=λk hk=>by
   have⟨ok,hok,_⟩:=hp.fact k hk;rcases GL hcut (aop.1 hok).1 (g5)with⟨_,h⟩ | ⟨h,_⟩;grind [L7]
   omega
  have hfull:=hi.full hd hp E;have hset:∀ k,(listed.setIfInBounds (b+m) true)[k]? =some true↔k<b+m+1:=λk=>by
   rw[hE];constructor
   rintro (h|h);exact Nat.lt_succ_of_lt (aoU λhn=>hi.high k g5 h);omega;intro h;by_cases e:k=b+m
   exact .inr e;left;by_cases hkb:k<b
   exact hi.low k hkb g5;have:=E (k - b) g5;grind
  have⟨k1,k2⟩:=Te (ro:=ro) (nd:=nd) hts hG hr hE hnk W hgE hfull hZ hx (K:=wpAnyIn (rd ro) nd P .any ops.toArray Q V (listed.setIfInBounds (b+m) true)) (λown st a w hinv hx=>by
   have hinv':=hinv.congr hset;have⟨m',S',s',ups',fs',R',e0,e1,e2,e3⟩:=sim hts hG hr (ops.drop (b+m+1)) (b+m+1) own st a w (b+m+1) [] rfl hinv' hx;subst e0;exact ih _ own (S' 0) a w (b+m+1) m' S' s' ups' fs' R' (asN.start hinv' (by simp[hi.size]) (λk _=>hset k) hr hback) e1 g6 e3 hcnt)
  unfold wpOpIn;rw[ho'];by_cases hgo:GOk ops a o.guard
  simp[(nY (ops:=ops) (a:=a) (o:=o)).2 hgo];refine⟨λ_ _=>trivial,?_⟩;grind [Oper.semAt_eq]
  grind [nY]
  exfalso;rcases GL hcut hil hie with⟨h,_⟩ | ⟨_,h⟩;omega;exact hi.high _ (aom _) ((L7 hclS (.inr rfl) h).resolve_right g5)
theorem aaW(E:ts.ok P)(hG:arD P G)(hr:ROk N ops)(hd:DOk ops){K:St->Prop}
  (Y:∀ x own st a w,arE F w0 N own st a w->Z x st->Q (.panic [{ v:=x,recovered:=false}]) a w)
  (V:∀ own st a w,ase F w0 N ops (· <ops.length) own st a w->K st->Q .normal a w) {own:Own} {st:St} {a:Act} {w:World} (hi:ase F w0 N ops (· <0) own st a w) (X:lh ts G ops K Z ops 0 0 [] st):
  wpAnyIn (rd ro) nd P .any ops.toArray Q ops.toArray.size (Array.replicate ops.toArray.size false) a w:=by
 have⟨m,S,s,ups,fs,R,e0,e1,e2,e3⟩:=sim E hG hr ops 0 own st a w 0 [] rfl hi X;subst e0;refine aaV E hG hr hd Y V _ _ own (S 0) a w 0 m S s ups fs R (asN.start hi (by simp) (λk hk=>?_) hr λi o j W O=>?_) e1 g6 e3 ?_;grind
 unfold qT at O;rw[apx]at O;have⟨e,he,hje⟩:=O;simp[aoj]at hje;have:=hd.back i o e W g6 hje.2;simp_all;simp
end
end Go.Sx
end
section
namespace Go.Sx
section
variable {F:Fence}{n:Nat}{P:Program}{b:Frame}{a:Act}{k:List Item}{cs:List Frame}{w:World}{Q:Exit->Act->World->Prop}
def auT (Q:Exit->Act->World->Prop):Exit->Act->World->Prop
 | .goto _,_,_=>False|e,a,w=>Q e a w
variable {c:Code}
theorem pu:step P (lone (b.atR a (.code (.scope c)::k)) cs w)=.next (lone (b.atR a (.code c:: .inScope c::k)) cs w):=
 step_lone_go (by rfl)
theorem I9:step P (lone (b.atR a (.inScope c::k)) cs w)=.next (lone (b.atR a k) cs w):=
 step_lone_go (by rfl)
theorem Rv(h:c.wpIn F n P (auT Q) a w):(Code.scope c).wpIn F n P Q a w:=by
 intro b k cs W O hr;have E:(lone (b.atR a (.code (.scope c)::k)) cs w).fenced P F:=fenced_calm O hr rfl;have⟨e,a₁,w₁,hq,harr⟩:=h b (.inScope c::k) cs W O hr;cases e with
 |normal=>exact⟨.normal,a₁,w₁,hq,.head E pu (StepsIn.trans harr (.one (fenced_calm O hr rfl) I9))⟩
 |exit id=>exact⟨.exit id,a₁,w₁,hq,λk' X=>.head E pu (harr.1 k' (by simp[exitTo,X])),λV X=>let ⟨k₁,h1,h2⟩:=harr.2 V (by grind [exitTo]);⟨k₁,h1,.head E pu h2⟩⟩
 |goto l=>exact hq.elim|ret=>exact⟨_,a₁,w₁,hq,.of_steps (.one E pu) harr⟩|panic Y=>exact⟨_,a₁,w₁,hq,.of_steps (.one E pu) harr⟩|outgrown=>exact⟨_,a₁,w₁,hq,.of_steps (.one E pu) harr⟩
end
open Go.RowKit
section
variable {P:Program}{F:Nat->Prop}{w0:Bs}{ro:Option Nat}{nd:Nat}{ts:Tis}{G:Cons}{L:xP}{N:Nat}
def GN (F:Nat->Prop)(w0:Bs)(N:Nat)(Q:Ex->St->Prop):Exit->Act->World->Prop
 | .normal,a,w=>∃ F1 own st,(∀ b,F b->F1 b)/\arE F1 w0 N own st a w/\Q .normal st| .exit id,a,w=>∃ F1 own st,(∀ b,F b->F1 b)/\arE F1 w0 N own st a w/\Q (.exit id) st| .ret,a,w=>∃ F1 own st,(∀ b,F b->F1 b)/\arE F1 w0 N own st a w/\Q .ret st| .panic ch,a,w=>∃ x F1 own st,(∀ b,F b->F1 b)/\arE F1 w0 N own st a w/\Q (.pan x) st/\ch=[{ v:=x,recovered:=false}]|_,_,_=>False
variable {Q:Ex->St->Prop}
theorem aaX{F X:Nat->Prop}{w0:Bs}{N:Nat}(h:∀ b,F b->X b):∀ e a w,GN X w0 N Q e a w->GN F w0 N Q e a w:=by
 intro e a w E;cases e <;>first|exact E.elim|(obtain⟨V,own,st,W,h1,h2⟩:=E;exact⟨V,own,st,λb O=>W b (h b O),h1,h2⟩) |(have⟨x,V,own,st,W,h1,h2,h3⟩:=E;exact⟨x,V,own,st,λb O=>W b (h b O),h1,h2,h3⟩)
def my (P:Program)(ro:Option Nat)(N id:Nat)(c:Code)(C:St->Option asq):Prop:=
 ∀ (nd:Nat) (F:Nat->Prop) (w0:Bs) st lc,C st=some lc->lc.pre->∀ own a w,arE F w0 N own st a w->(Code.block id c).wpIn (rd ro) nd P (GN F w0 N λe st'=>∃ r,lc.post r/\e=lc.ex r/\st'=lc.out r) a w
def ak (P:Program)(ro:Option Nat)(N:Nat)(L:xP):Code->Prop
 | .seq a b=>ak P ro N L a/\ak P ro N L b| .cond _ a b=>ak P ro N L a/\ak P ro N L b| .block id (.loop c) =>my P ro N id (.loop c) (L id)| .block id (.rangeFunc f ps a b) =>my P ro N id (.rangeFunc f ps a b) (L id)| .block _ c=>ak P ro N L c| .scope c=>ak P ro N L c|_=>True
theorem Tk (t:Nat){u:List (Nat×SV)}:∀ l:List (Nat×SV),atb u l->lk t l=.any\/lk t l=lk t u
 | [],_=>.inl rfl
 |(n,s)::r,h=>by
  have O:=Tk t r h.2;have e:lk t ((n,s)::r)=bif Nat.beq n t then s else lk t r:=rfl;rw[e];cases E:Nat.beq n t with
  |false=>grind|true=>rw[<-aok E];exact .inr h.1.symm
theorem wp{W:Ex->St->Prop}(h:∀ e st,Q e st->W e st):∀ e a w,GN F w0 N Q e a w->GN F w0 N W e a w:=by
 intro e a w E;cases e <;>first|exact E.elim|(obtain⟨O,own,st,V,h1,h2⟩:=E;exact⟨O,own,st,V,h1,h _ _ h2⟩) |(have⟨x,O,own,st,V,h1,h2,h3⟩:=E;exact⟨x,O,own,st,V,h1,h _ _ h2,h3⟩)
variable {ops:Array Oper}{a:Act}{w:World}
theorem GO(hm:P.follows .mixedOrders=true)(V:ts.ok P)(hG:arD P G){id:Nat}{d:Bool}(hc:dq N (.region id ops d)=true){st:St}(Y:Ea ts G ops d st Q)
  {own:Own}   (hr:arE F w0 N own st a w):(Code.region id ops d).wpIn (rd ro) nd P (GN F w0 N Q) a w:=by
 simp[dq,aoj]at hc;have⟨h1,h2⟩:=hc;have E:=WP h1;have⟨l⟩:=ops;cases d with
 |false=>
  have O:kw ts G l l st (λst'=>Q .normal (Al l st')) (λx st'=>Q (.pan x) st'):=Y;refine wpIn_region_list ?_;exact Rf V hG E (λx own st a w h1 h2=>⟨x,F,own,st,λ_ h=>h,h1,h2,rfl⟩) l 0 own st a w rfl (hr.start l λk W=>g5) O λown st a w hi W=>⟨F,own,_,λ_ h=>h,arE.finish hi,W⟩
 |true=>
  have O:lh ts G l (λst'=>Q .normal (Al l st')) (λx st'=>Q (.pan x) st') l 0 0 [] st:=Y;have X:=ad0 (ops:=l) g6;refine wpIn_region_any hm ?_;exact aaW V hG E X (λx own st a w h1 h2=>⟨x,F,own,st,λ_ h=>h,h1,h2,rfl⟩) (λown st a w hi W=>⟨F,own,_,λ_ h=>h,arE.finish hi,W⟩) (hr.drew.start l λk W=>g5) O
theorem arE.atb{own:Own}{st d:St}(h1:arE F w0 N own st a w)(O:st.h=d.h)(E:Sx.atb st.t d.t):arE F w0 N own d a w:=by
 refine⟨h1.size,h1.defers,O▸h1.hp,h1.fr,λt=>?_⟩;rcases Tk t _ E with e|e;rw[e];exact .any _;rw[e];exact h1.slots t
theorem UW(X:P.follows .mixedOrders=true)(V:ts.ok P)(hG:arD P G){id:Nat}{d:Bool}(hc:dq N (.region id ops d)=true){st:St}(Y:exec ts G L (.region id ops d) st Q)
  {own:Own}   (hr:arE F w0 N own st a w):(Code.region id ops d).wpIn (rd ro) nd P (GN F w0 N Q) a w:=by
 have E:Ga (Ea ts G ops d st) Q (L (id+2000000) st):=Y;cases O:L (id+2000000) st with
 |none=>rw[O]at E;exact GO X V hG hc E hr
 |some lc=>
  rw[O]at E;refine wpIn_mono (GO X V hG hc E.1 hr) λe a' w' W=>?_;cases e with
  |normal=>
   have⟨F1,ee,st',h0,h1,r,h2,h3,h4⟩:=W;exact⟨F1,ee,_,h0,h1.atb h3 h4,E.2 r h2⟩
  |exit id=>exact W|ret=>exact W|panic ch=>exact W|_=>exact W.elim
theorem tC (hm:P.follows .mixedOrders=true)(hts:ts.ok P)(hG:arD P G):∀ (c:Code),dq N c=true->ak P ro N L c->∀ (F:Nat->Prop) (st:St) (Q:Ex->St->Prop),exec ts G L c st Q->
  ∀ own a w,arE F w0 N own st a w->c.wpIn (rd ro) nd P (GN F w0 N Q) a w:=by
 intro c;induction c with
 |skip=>intro _ _ F st Q V own a w hr;exact wpIn_skip ⟨F,own,st,λ_ h=>h,hr,V⟩
 |region id ops d=>intro hc _ F st Q V own a w hr;exact UW hm hts hG hc V hr
 |seq x y ih1 ih2=>
  intro hc Y F st Q V own a w hr;simp[dq,aoj]at hc;refine wpIn_seq (wpIn_mono (ih1 hc.1 Y.1 F st _ V own a w hr) ?_);intro e a' w' X;cases e with
  |normal=>have⟨F1,ee,st',h0,h1,h2⟩:=X;exact wpIn_mono (ih2 hc.2 Y.2 F1 st' Q h2 ee a' w' h1) (aaX h0)|exit id=>exact X|ret=>exact X|panic ch=>exact X|_=>exact X.elim
 |cond c x y ih1 ih2=>
  intro hc Y F st Q V own a w hr;simp[dq,aoj]at hc;have key:∀ Q:Ex->St->Prop,BB (exec ts G L x st Q) (exec ts G L y st Q) (raw st.t c)->(Code.cond c x y).wpIn (rd ro) nd P (GN F w0 N Q) a w:=by
   intro Q E;cases c with
   |tmp n=>
    have hs:=hr.slots n;have W:BB (exec ts G L x st Q) (exec ts G L y st Q) (lk n st.t):=E;unfold BB at W;split at W
    rename_i b hb;rw[hb]at hs;have he:a.eval (.tmp n)=.bool b:=c8 hs;exact wpIn_cond_split he (λh=>ih1 hc.1 Y.1 F st Q (W.1 h) own a w hr) (λh=>ih2 hc.2 Y.2 F st Q (W.2 h) own a w hr);grind
   |const v=>
    have W:BB (exec ts G L x st Q) (exec ts G L y st Q) (.v v):=E;unfold BB at W;split at W
    rename_i b hb;cases hb;exact wpIn_cond_split (t:=b) rfl (λh=>ih1 hc.1 Y.1 F st Q (W.1 h) own a w hr) (λh=>ih2 hc.2 Y.2 F st Q (W.2 h) own a w hr);grind
   |global g=>exact(E:False).elim|func f=>exact(E:False).elim
  have E:F_ (exec ts G L x st) (exec ts G L y st) Q (raw st.t c) (L (WA c) st):=V;cases O:L (WA c) st with
  |none=>rw[O]at E;exact key Q E
  |some lc=>
   rw[O]at E;refine wpIn_mono (key _ E.1) λe a' w' X=>?_;cases e with
   |normal=>
    have⟨F1,ee,st',h0,h1,r,h2,h3,h4⟩:=X;exact⟨F1,ee,_,h0,h1.atb h3 h4,E.2 r h2⟩
   |exit id=>have⟨_,_,_,_,_,_,_,h⟩:=X;exact h.elim|ret=>have⟨_,_,_,_,_,_,_,h⟩:=X;exact h.elim|panic ch=>have⟨_,_,_,_,_,_,⟨_,_,h⟩,_⟩:=X;exact h.elim|_=>exact X.elim
 |block id c ih=>
  intro hc Y F st Q V own a w hr;have key:(∀ b,c≠ .loop b)->(∀ f ps a b,c≠ .rangeFunc f ps a b)->(Code.block id c).wpIn (rd ro) nd P (GN F w0 N Q) a w:=by
   intro hne hne2;have E:exec ts G L c st (Ex.block id Q):=by cases c <;>first|exact V|exact absurd rfl (hne _) |grind
   have hl':ak P ro N L c:=by cases c <;>first|exact Y|exact absurd rfl (hne _) |grind
   refine wpIn_block (wpIn_mono (ih (by grind [dq]) hl' F st _ E own a w hr) ?_);intro e a' w' X;cases e with
   |normal=>exact X|ret=>exact X|panic ch=>exact X
   |exit j=>
    have⟨F1,ee,st',h0,h1,h2⟩:=X;have h2':(bif Nat.beq j id then Q .normal st' else Q (.exit j) st'):=h2;show if j=id then _ else _;by_cases hj:j=id
    subst hj;rw[if_pos rfl];simp[aru]at h2';exact⟨F1,ee,st',h0,h1,h2'⟩;rw[if_neg hj];have:Nat.beq j id=false:=by cases hb:Nat.beq j id <;>simp_all
    rw[this]at h2';exact⟨F1,ee,st',h0,h1,h2'⟩
   |_=>exact X.elim
  cases c with
  |loop b=>
   have E:tw Q (L id st):=V;have hl':my P ro N id (.loop b) (L id):=Y;cases O:L id st with
   |none=>rw[O]at E;exact E.elim
   |some lc=>
    rw[O]at E;refine wpIn_mono (hl' nd F w0 st lc O E.1 own a w hr) (wp λe st'=>?_);rintro⟨r,h1,rfl,rfl⟩;exact E.2 r h1
  |rangeFunc f ps b1 b2=>
   have E:tw Q (L id st):=V;have hl':my P ro N id (.rangeFunc f ps b1 b2) (L id):=Y;cases O:L id st with
   |none=>rw[O]at E;exact E.elim
   |some lc=>
    rw[O]at E;refine wpIn_mono (hl' nd F w0 st lc O E.1 own a w hr) (wp λe st'=>?_);rintro⟨r,h1,rfl,rfl⟩;exact E.2 r h1
  |_=>exact key (λb h=>by cases h) (λ_ _ _ _ h=>by cases h)
 |exit id=>intro _ _ F st Q V own a w hr;exact wpIn_exit ⟨F,own,st,λ_ h=>h,hr,V⟩
 |ret=>intro _ _ F st Q V own a w hr;exact wpIn_ret ⟨F,own,st,λ_ h=>h,hr,V⟩
 |scope c ih=>intro hc Y F st Q V own a w hr;exact Rv (wpIn_mono (ih hc Y F st Q V own a w hr) λe a w h=>by cases e <;>first|exact h|exact h.elim)
 |label l=>intro _ _ F st Q V own a w hr;exact wpIn_label ⟨F,own,st,λ_ h=>h,hr,V⟩
 |_=>intro _ _ F st Q V;exact(V:False).elim
end
end Go.Sx
end
section
namespace Go.Sx
open Go.RowKit
section
variable {P:Program}{F:Nat->Prop}{own X2:Own}{w:World}{w0:Bs}{ro:Option Nat}{nd:Nat}{ts:Tis}{G:Cons}{L:xP}{N:Nat}
structure Un (m:Nat->Option Nat)(n:Nat)(own X2:Own):Prop where
 ids:∀ k,k<n->∀ hd,(m k).bind own=some hd->∃ hd',X2 k=some hd'/\hd.like hd'
theorem acG {m:Nat->Option Nat}{n:Nat}(hm:Un m n own X2)(hk:∀ k,k<n->(m k).isSome=true)(ho:∀ b,¬dA F own b->¬dA F X2 b):∀ (f:Nat) (s:SV) (v:Value),oj f n s=true->Rel F own w (ren m f s) v->Rel F X2 w s v:=by
 have base:∀ (f:Nat) (s:SV) (v:Value),oj f n s=true->Rel F own w (ren m f s) v->(∀ l o,s≠ .ep l o)->(∀ z l,s≠ .ls z l)->(∀ l,s≠ .agg l)->(∀ l,s≠ .tup l)->(∀ f l l2,s≠ .fn f l l2)->Rel F X2 w s v:=by
  intro f s v hi hr n1 n2 n3 n4 n5;have hlt:∀ {id},Nat.blt id n=true->∃ j,m id=some j/\id<n:=λ{id} h=>by
   have V:id<n:=nbl h;cases hm':m id <;>grind
  cases s with
  |any=>exact .any _|v x=>cases f <;>(have E:Rel F own w (.v x) v:=hr) <;>rw[c8 E] <;>exact .v _|e0=>cases f <;>(have E:Rel F own w .e0 v:=hr) <;>cases E <;>exact .e0|rs k l=>cases f <;>(have E:Rel F own w (.rs k l) v:=hr) <;>exact E.arZ (.rs) ho|rc k l=>cases f <;>(have E:Rel F own w (.rc k l) v:=hr) <;>exact E.arZ (.rc) ho|rm k k2 l=>cases f <;>(have E:Rel F own w (.rm k k2 l) v:=hr) <;>exact E.arZ (.rm) ho
  |ptr id off=>
   have Y:Nat.blt id n=true:=by cases f <;>exact hi
   have⟨j,e,V⟩:=hlt Y;have E:Rel F own w (.ptr j off) v:=by grind [ren,Bz]
   cases E with
   |ptr h1 h2=>
    obtain⟨hd',X,W⟩:=hm.ids id V _ (by rw[e];exact h1);exact .ptr X (by rw[W.1];exact h2)
  |os id=>
   have Y:Nat.blt id n=true:=by cases f <;>exact hi
   have⟨j,e,V⟩:=hlt Y;have E:Rel F own w (.os j) v:=by grind [ren,Bz]
   cases E with
   |os h1 h2=>
    obtain⟨hd',X,W⟩:=hm.ids id V _ (by rw[e];exact h1);rw[<-W.2.1];exact .os X (by rw[W.2.1];exact h2)
  |rp sz id i off=>
   have Y:Nat.blt id n=true:=by cases f <;>exact hi
   have⟨j,e,V⟩:=hlt Y;have E:Rel F own w (.rp sz j i off) v:=by grind [ren,Bz]
   cases E with
   |rp h1 h2 h3=>
    obtain⟨hd',X,W⟩:=hm.ids id V _ (by rw[e];exact h1);exact .rp X (by rw[W.2.1];exact h2) h3
  |vw sz id lo hh=>
   have Y:Nat.blt id n=true:=by cases f <;>exact hi
   have⟨j,e,V⟩:=hlt Y;have E:Rel F own w (.vw sz j lo hh) v:=by grind [ren,Bz]
   cases E with
   |vw h1 h2 h3=>
    obtain⟨hd',X,W⟩:=hm.ids id V _ (by rw[e];exact h1);exact .vw X (by rw[W.2.1];exact h2) h3
  |gr id i=>
   have Y:Nat.blt id n=true:=by cases f <;>exact hi
   have⟨j,e,V⟩:=hlt Y;have E:Rel F own w (.gr j i) v:=by grind [ren,Bz]
   cases E with
   |gr h1 h2 h3=>
    obtain⟨hd',X,W⟩:=hm.ids id V _ (by rw[e];exact h1);exact .gr X (by rw[W.2.2];exact h2) h3
  |gp sz id i i2 off=>
   have Y:Nat.blt id n=true:=by cases f <;>exact hi
   have⟨j,e,V⟩:=hlt Y;have E:Rel F own w (.gp sz j i i2 off) v:=by grind [ren,Bz]
   cases E with
   |gp h1 h2 h3=>
    obtain⟨hd',X,W⟩:=hm.ids id V _ (by rw[e];exact h1);exact .gp X (by rw[W.2.2];exact h2) h3
  |ep l o=>grind|ls z l=>grind|agg l=>grind|tup l=>grind|fn f l l2=>grind|_=>cases f <;>simp[oj]at hi
 intro f;induction f with
 |zero=>
  intro s v hi hr;refine base 0 s v hi hr ?_ ?_ ?_ ?_ ?_ <;>intros <;>(intro e;subst e;simp[oj]at hi)
 |succ f ih=>
  intro s v hi hr;cases s with
  |ep l o=>
   simp[oj,ao4]at hi;cases hr with
   |ep c h1 h2=>
    have hg:∀ (j:Nat) (s:SV),l[j]? =some s->(l.map (ren m f))[j]? =some (ren m f s):=λj s O=>by simp[O]
    exact .ep c (λj s O=>⟨ho _ (h1 j _ (hg j s O)).1,(h1 j _ (hg j s O)).2⟩) λj s O=>ih s _ (hi s (aoB O)) (h2 j _ (hg j s O))
  |ls z l=>
   simp[oj,ao4]at hi;generalize hq:l.map (ren m f)=l' at hr;cases hr with
   |ls c hz h0 h1 h2=>
    subst hq;have hg:∀ (j:Nat) (s:SV),l[j]? =some s->(l.map (ren m f))[j]? =some (ren m f s):=λj s O=>by simp[O]
    rw[apd]at hz;exact .ls c hz h0 (λj s O=>⟨ho _ (h1 j _ (hg j s O)).1,(h1 j _ (hg j s O)).2⟩) λj s O=>ih s _ (hi s (aoB O)) (h2 j _ (hg j s O))
  |agg l=>
   simp[oj,ao4]at hi;cases hr with
   |agg h0 h1=>exact .agg g6 λj s O=>ih s _ (hi s (aoB O)) (h1 j _ (by simp[O]))
  |tup l=>
   simp[oj,ao4]at hi;cases hr with
   |tup h0 h1=>exact .tup g6 λj s O=>ih s _ (hi s (aoB O)) (h1 j _ (by simp[O]))
  |fn g l l2=>
   simp[oj,aoj,ao4]at hi;cases hr with
   |fn h0 h0' h1 h2=>exact .fn g6 g6 (λj s O=>ih s _ (hi.1 s (aoB O)) (h1 j _ (by simp[O]))) λj s O=>ih s _ (hi.2 s (aoB O)) (h2 j _ (by simp[O]))
  |_=>refine base (f+1) _ v hi hr ?_ ?_ ?_ ?_ ?_ <;>intros <;>(intro e;cases e)
theorem Tl:∀ a l:List SV,(wkL a l).length=l.length
 | [],[] =>rfl| [],_::_=>rfl|_::_,[] =>rfl
 |_::r,_::s=>by simp[wkL,Tl r s]
theorem Tm:∀ (a l:List SV) (j:Nat) (s:SV),(wkL a l)[j]? =some s->s=.any\/l[j]? =some s
 | [],l,j,s,h=>.inr (by cases l <;>exact h)
 |_::_,[],j,s,h=>.inr h
 |a::r,x::l,0,s,h=>by
  grind [wkL]
 |a::r,x::l,j+1,s,h=>by
  rcases Tm r l j s h with h|h <;>grind
theorem Oz:∀ l:List SV,wkL l l=l
 | [] =>rfl
 |x::l=>by
  have:(bif S4 x then SV.any else x)=x:=by cases x <;>rfl
  simp[wkL,this,Oz l]
attribute [go_sem] Oz
theorem UX (a o:Ob):d_ (Gd a o)=d_ o:=by
 unfold Gd;split <;>rfl
theorem W8 (a:Ob){hd:Hd}{o:Ob}(h:ash F own w hd o):ash F own w hd (Gd a o):=by
 unfold Gd;split
 rename_i kk V l p;have⟨b,es,clk,h1,h2,h3,E,h5,O⟩:=h;match p,E,O with
 |none,E,O=>exact⟨b,es,clk,h1,h2,h3,E,h5,O⟩|some (i,none),E,O=>exact⟨b,es,clk,h1,h2,h3,E,h5,trivial⟩|some (i,some x),E,O=>exact⟨b,es,clk,h1,h2,h3,E,h5,O⟩
 rename_i a l;have⟨b,cs,ty,h1,h2,h3,E,h5⟩:=h;exact⟨b,cs,ty,h1,h2,h3,by grind [Tl],λj s hj=>by
  rcases Tm a l j s hj with rfl|hj;exact .any _;grind⟩
 exact h
theorem ad3 {m:Nat->Option Nat}{n:Nat}(hm:Un m n own X2)(hk:∀ k,k<n->(m k).isSome=true)(ho:∀ b,¬dA F own b->¬dA F X2 b){hd:Hd}{o:Ob}(hi:xQ n o=true)(h:ash F own w hd (wV m o)):ash F X2 w hd o:=by
 cases o with
 |cells l=>
  simp[xQ,ao4]at hi;have⟨b,cs,ty,h1,h2,O,W,X⟩:=h;exact⟨b,cs,ty,h1,h2,O,g6,λj s hj=>acG hm hk ho 3 s _ (hi s (aoB hj)) (X j _ (by simp[hj]))⟩
 |dead=>trivial|row k l=>exact arY.arZ h (.inl ho)|fz k l=>exact Rel.arZ h .rs ho
 |mp kk vk l asE=>
  have key:∀ q,ash F own w hd (.mp kk vk l q)->(∃ b es E,hd.v=.map (some b)/\hd.bs=[b]/\w.heap[b]? =some (.map es E)/\asJ F X2 w kk vk (fT kk vk l q) es/\Stamped es E/\as_ own kk vk l es E q):=λq h=>by
   have⟨b,es,E,h1,h2,O,W,X,Y⟩:=h;exact⟨b,es,E,h1,h2,O,⟨W.1,λi x hi=>by
    have⟨e,e1,e2,e3,e4⟩:=W.2 i x hi;exact⟨e,e1,e2,e3.arZ (vO _ _) ho,e4.arZ (vO _ _) ho⟩⟩,X,Y⟩
  match asE,hi,h with
  |none,_,h=>have⟨b,es,E,h1,h2,O,W,X,Y⟩:=key _ h;exact⟨b,es,E,h1,h2,O,W,X,trivial⟩
  |some (i,q),hi,h=>
   have hlt:i<n:=by grind [xQ,Nat.blt_eq]
   change ash F own w hd (Ur kk vk l q (m i))at h;cases V:m i with
   |none=>grind
   |some j=>
    rw[V]at h;have h':ash F own w hd (.mp kk vk l (some (j,q))):=by cases q <;>exact h
    have⟨b,es,E,h1,h2,O,W,X,Y⟩:=key _ h';cases q with
    |none=>
     have⟨hd2,t1,t2⟩:=Y;have⟨hd',e1,e2⟩:=hm.ids i hlt hd2 g6;exact⟨b,es,E,h1,h2,O,W,X,hd',e1,e2.2.2.trans t2⟩
    |some x=>
     have⟨hd2,e,t1,t2,t3⟩:=Y;have⟨hd',e1,e2⟩:=hm.ids i hlt hd2 g6;exact⟨b,es,E,h1,h2,O,W,X,hd',e,e1,t2,e2.2.1.trans t3⟩
 |ar2 k l=>
  rcases h with h| ⟨b,o,cap,cs,ty,bs,h1,h2,O,W,X,Y,h7,h8,h9⟩;exact .inl h;exact .inr ⟨b,o,cap,cs,ty,bs,h1,h2,O,W,X,Y,h7,h8,h9.arZ (.inl ho)⟩
 |ab r=>
  refine⟨h.1,r.loc _ _ _ w w h.2 (aom _) (λb hbl hn=>rfl) (λb hbl hn=>⟨aoU λhc=>ho b hc hn.1,hn.2⟩)⟩
 |raw o=>exact h
 |mi mid n0 left cur=>
  have⟨b,h1,h2,O⟩:=h;refine⟨b,h1,h2,λi hj=>?_⟩;subst hj;simp[xQ]at hi;have hlt:i<n:=by simp_all
  cases V:m i with
  |none=>grind
  |some j=>
   have⟨hdm,bm,seen,c0,ss,k1,k2,k3,k4⟩:=O j (by simp[V]);have⟨hd',e1,e2⟩:=hm.ids i hlt hdm g6;exact⟨hd',bm,seen,c0,ss,e1,e2.2.1.trans k2,k3,k4⟩
 |fwd n0=>
  intro i hj;subst hj;simp[xQ]at hi;have hlt:i<n:=by simp_all
  cases V:m i with
  |none=>grind
  |some j=>
   have⟨hdm,k1,k2,k3⟩:=h j (by simp[V]);have⟨hd',e1,e2⟩:=hm.ids i hlt hdm g6;exact⟨hd',e1,e2.2.1.trans k2,k3⟩
theorem FD {m:Nat->Option Nat}{t:List (Nat×SV)}{n:Nat}(i:Nat):∀ t2,Uu m n t t2->lk i t2=.any\/(lk i t=ren m 5 (lk i t2)/\oj 5 n (lk i t2)=true)
 | [],_=>.inl rfl
 |(j,s)::r,h=>by
  have⟨⟨h1,h2⟩,h3⟩:=h;rw[sW];by_cases E:j=i
  grind
  rw[if_neg E];exact FD i r h3
theorem OA {m:Nat->Option Nat}{n:Nat}{h:List Ob}:∀ (js:List Nat) (h2:List Ob),I5 m n h js h2->js.length=h2.length/\∀ (i j:Nat),js[i]? =some j->LH m n h j (ap h2 i)
 | [],[],_=>⟨rfl,λi j O=>by simp at O⟩
 | [],_::_,E=>E.elim|_::_,[],E=>E.elim
 |j::js,o::r,E=>by
  have⟨q1,q2⟩:=OA js r E.2;refine⟨by simp[q1],λi V O=>?_⟩;cases i with
  |zero=>simp at O;subst O;exact E.1
  |succ i=>exact q2 i V g6
theorem yH:∀ (js:List Nat) (h:List Ob) (i j:Nat),js[i]? =some j->d_ (ap h i)=false->j∈nV js h
 | [],h,i,j,hj,_=>by simp at hj
 |j0::js,[],i,j,_,hl=>by simp[ap,d_]at hl
 |j0::js,o::r,0,j,hj,hl=>by
  simp_all [ap,nV]
 |j0::js,o::r,i+1,j,hj,hl=>by
  have:=yH js r i j g6 (by grind [ap]);grind [nV]
theorem Kp:∀ (js:List Nat) (h:List Ob) (i E j:Nat),uniq (nV js h)=true->js[i]? =some j->js[E]? =some j->d_ (ap h i)=false->d_ (ap h E)=false->i=E
 | [],h,i,E,j,_,hj,_,_,_=>by simp at hj
 |j0::js,[],i,E,j,_,_,_,hl,_=>by simp[ap,d_]at hl
 |j0::js,o::r,i,E,j,X,h1,h2,l1,W=>by
  have V:uniq (nV js r)=true:=by
   grind [nV,uniq]
  have O:d_ o=false->j0 ∉ nV js r:=λhd=>by
   simp[nV,hd,cond_false,uniq]at X;grind [yG]
  cases i with
  |zero=>
   simp at h1;subst h1;cases E with
   |zero=>rfl
   |succ E=>exact absurd (yH js r E j0 (by simpa using h2) (by simpa[ap]using W)) (O (by simpa[ap]using l1))
  |succ i=>
   cases E with
   |zero=>simp at h2;subst h2;exact absurd (yH js r i j0 (by simpa using h1) (by simpa[ap]using l1)) (O (by simpa[ap]using W))
   |succ E=>rw[Kp js r i E j V (by simpa using h1) (by simpa using h2) (by simpa[ap]using l1) (by simpa[ap]using W)]
theorem GP:∀ (js:List Nat) (i n:Nat),CZ i js n=true->∀ k j,js[k]? =some j->i+k<n->j=i+k
 | [],i,n,_,k,j,E,_=>by simp at E
 |j0::js,i,n,h,k,j,E,hlt=>by
  simp[CZ,aoj]at h;cases k with
  |zero=>
   simp at E;simp_all <;>grind
  |succ k=>
   have:=GP js (i+1) n h.2 k j g6 g5;omega
def jP (c:List Nat)(a:List Ob)(d:Own):Own:=λk=>if k<a.length then((c[k]?).bind d).map (λb=>if d_ (ap a k)then { b with bs:=[]}else b)else none
theorem kx {js:List Nat}{h2:List Ob}{k:Nat}{hd:Hd}(h:jP js h2 own k=some hd):k<h2.length/\∃ j hd0,js[k]? =some j/\own j=some hd0/\hd0.like hd/\(∀ b∈hd.bs,d_ (ap h2 k)=false/\hd=hd0):=by
 unfold jP at h;split at h
 rename_i hlt;rw[apz]at h;have⟨hd0,h1,h2'⟩:=h;rw[Option.bind_eq_some_iff]at h1;have⟨j,e1,e2⟩:=h1;refine⟨hlt,j,hd0,e1,e2,?_,?_⟩;split at h2' <;>subst h2' <;>exact⟨rfl,rfl,rfl⟩
 grind
 cases h
theorem W9 {js:List Nat}{h2:List Ob}{b:Nat}(E:¬dA F own b):¬dA F (jP js h2 own) b:=by
 rintro (V| ⟨k,hd,e,O⟩);exact E (.inl V);have⟨_,j,hd0,_,e2,_,e4⟩:=kx e;have⟨_,rfl⟩:=e4 b O;exact E (.inr ⟨j,hd,e2,O⟩)
variable {n0:Nat}{st E:St}
theorem Rw{js:List Nat}(hs:Sub js n0 st E)(hp:Hp F own w st.h)(hle:n0<=E.h.length):
  Hp F (jP js E.h own) w E.h/\(∀ F b,¬dA F own b->¬dA F (jP js E.h own) b)/\(∀ (F:Nat->Prop) (f:Nat) (s:SV) (v:Value),oj f E.h.length s=true->Rel F own w (ren (Ge js) f s) v->Rel F (jP js E.h own) w s v)/\∀ id hd,id<n0->own id=some hd->∃ hd',jP js E.h own id=some hd'/\hd.like hd':=by
 have⟨⟨hu,hk,hlt⟩,_,hh⟩:=hs;have⟨hlen,hob⟩:=OA js E.h hh;have hjs:∀ k,k<E.h.length->(Ge js k).isSome=true:=λk hkl=>by
  show(nth js k).isSome=true;grind [iu]
 have hun:Un (Ge js) E.h.length own (jP js E.h own):=⟨λk hkl hd e=>by
  have e':(js[k]?).bind own=some hd:=by rw[<-iu];exact e
  refine⟨if d_ (ap E.h k)then { hd with bs:=[]}else hd,?_,?_⟩;simp_all [jP];split <;>exact⟨rfl,rfl,rfl⟩⟩
 have O:∀ (F:Nat->Prop) b,¬dA F own b->¬dA F (jP js E.h own) b:=λF b V=>W9 V;refine⟨⟨λid hd e=>(kx e).1,hp.arN,λid hd b e V=>?_,λi j hi Y b e1 W hb1 hb2=>?_,λid hd b e V=>?_,λid hdd=>?_⟩,O,λF f s v=>acG hun hjs (O F) f s v,λid hd hid e=>?_⟩;have⟨_,j,hd0,_,W,_,e4⟩:=kx e;have⟨_,rfl⟩:=e4 b V;exact hp.apart j hd b W V;have⟨_,j1,X,p1,p2,_,p4⟩:=kx e1;have⟨_,j2,hd2,q1,q2,_,q4⟩:=kx W;have⟨l1,rfl⟩:=p4 b hb1;have⟨l2,rfl⟩:=q4 b hb2;have:=hp.inj j1 j2 hi Y b p2 q2 hb1 hb2;grind [Kp]
 have⟨_,j,hd0,_,W,_,e4⟩:=kx e;have⟨_,rfl⟩:=e4 b V;exact hp.lt j hd b W V;have hidl:id<E.h.length:=by
  rcases apv id E.h.length with h|h;exact h;rw[oz h]at hdd;cases hdd
 have Y:∃ j,js[id]? =some j:=⟨js[id]'(g5),by simp⟩;have⟨j,Y⟩:=Y;have ho:=hob id j Y;unfold LH at ho;have X:d_ (ap st.h j)=false:=by grind [UX,w8]
 have⟨hd,e1,W⟩:=hp.obs j X;grind [W8,ad3,jP]
 have hjid:js[id]? =some id:=by
  grind [GP]
 refine⟨if d_ (ap E.h id)then { hd with bs:=[]}else hd,?_,?_⟩;unfold jP;grind;split <;>exact⟨rfl,rfl,rfl⟩
theorem L9{js:List Nat}(X:Sub js n0 st E)(Y:Hp F own w st.h)(O:Fr w0 own w)(hn:∀ id hd,w0.own id=some hd->id<n0)(V:n0<=E.h.length):
  Hp F (jP js E.h own) w E.h/\Fr w0 (jP js E.h own) w/\(∀ b,¬dA F own b->¬dA F (jP js E.h own) b)/\∀ (f:Nat) (s:SV) (v:Value),oj f E.h.length s=true->Rel F own w (ren (Ge js) f s) v->Rel F (jP js E.h own) w s v:=by
 have⟨q1,q2,q3,q4⟩:=Rw X Y V;refine⟨q1,⟨λid hd e=>?_,λid hd b e W=>?_,O.os,O.tape,O.output,O.size,O.block⟩,q2 F,q3 F⟩;have⟨hd1,e1,l1⟩:=O.ids id hd e;have⟨hd2,e2,l2⟩:=q4 id hd1 (hn id hd e) e1;exact⟨hd2,e2,l1.trans l2⟩;have⟨_,j,hd0,_,e2,_,e4⟩:=kx e;have⟨_,rfl⟩:=e4 b W;exact O.base j hd b e2 W
theorem arE.sub{a:Act}{w:World}(h:arE F w0 N own st a w){js:List Nat}(V:Sub js n0 st E)(hn:∀ id hd,w0.own id=some hd->id<n0)(O:n0<=E.h.length):arE F w0 N (jP js E.h own) E a w:=by
 have⟨q1,q2,q3,q4⟩:=L9 V h.hp h.fr hn O;refine⟨h.size,h.defers,q1,q2,λt=>?_⟩;rcases FD t _ V.2.1 with e| ⟨W,X⟩;rw[e];exact .any _;have:=h.slots t;grind
theorem Kq (hm:P.follows .mixedOrders=true)(hts:ts.ok P)(hG:arD P G){id:Nat}{c:Code}(hc:dq N c=true){σ:Type}(D:σ->St)(I:σ->Prop)(m:σ->Nat)(n0:Nat)(hn:∀ id hd,w0.own id=some hd->id<n0)(Q:Ex->St->Prop)
  (X:∀ x,I x->∃ L Qx,ak P ro N L c/\(∀ e st',Qx e st'->wX D I m n0 x id Q e st')/\exec ts G L c (D x) Qx):
  ∀ x,I x->∀ own a w,arE F w0 N own (D x) a w->(Code.block id (.loop c)).wpIn (rd ro) nd P (GN F w0 N Q) a w:=by
 intro x hx own a w hr;refine wpIn_block (wpIn_loop_ghost (λn a w=>∃ x O own,I x/\m x=n/\(∀ b,F b->O b)/\arE O w0 N own (D x) a w) (m x) ⟨x,F,own,hx,rfl,λ_ h=>h,hr⟩ ?_);rintro n a w ⟨x,F2,own,hx,rfl,E,hr⟩;have⟨L,Qx,hl,hQx,hex⟩:=X x hx;refine wpIn_mono (wpIn_mono (tC hm hts hG c hc hl F2 (D x) _ hex own a w hr) (wp hQx)) ?_;intro e a' w' Y;cases e with
 |normal=>
  have⟨O,ee,st',h0,h1,y,js,h2,h3,h5,h4⟩:=Y;exact⟨m y,h3,y,O,_,h2,rfl,λb V=>h0 b (E b V),h1.sub h4 hn h5⟩
 |exit j=>
  have⟨O,ee,st',h0,h1,h2⟩:=Y;have W:(bif Nat.beq j id then Q .normal st' else Q (.exit j) st'):=h2;show if j=id then _ else _;by_cases hj:j=id
  subst hj;rw[if_pos rfl];simp[aru]at W;exact⟨O,ee,st',λb V=>h0 b (E b V),h1,W⟩;rw[if_neg hj];have:Nat.beq j id=false:=by cases V:Nat.beq j id <;>simp_all
  rw[this]at W;exact⟨O,ee,st',λb V=>h0 b (E b V),h1,W⟩
 |ret=>
  have⟨O,ee,st',h0,h1,h2⟩:=Y;exact⟨O,ee,st',λb V=>h0 b (E b V),h1,h2⟩
 |panic ch=>
  have⟨x,O,ee,st',h0,h1,h2,h3⟩:=Y;exact⟨x,O,ee,st',λb V=>h0 b (E b V),h1,h2,h3⟩
 |_=>exact Y.elim
end
section
variable {P:Program}{F:Nat->Prop}{w0:Bs}{ro:Option Nat}{nd:Nat}{ts:Tis}{G:Cons}{L:xP}{N:Nat}
theorem OB:∀ (l:List SV) (n t:Nat),lk t (pn n l)=if n<=t then(l[t - n]?).getD .any else .any
 | [],n,t=>by simp[pn,lk]
 |s::r,n,t=>by
  rw[pn,sW,OB r (n+1) t];grind
def W_ (tmps:Array Value):ResultVar->Sem Value
 | .tmp t=>pure (tmps.getD t undef)| .cell q t=>do loadVar t (<-asAddr (tmps.getD q undef))
theorem Rx (fn:Func)(tmps:Array Value):results fn tmps=(do let vs <-fn.results.mapM (W_ tmps);pure (if h:vs.size=1 then vs[0]else .tuple vs)):=by
 rfl
structure auH (Ds:List Nat)(w w':World):Prop where
 size:w'.heap.size=w.heap.size
 block:∀ k,k ∉ Ds->w'.heap[k]? =w.heap[k]?
 os:w'.os=w.os
 tape:w'.tape=w.tape
 output:w'.output=w.output
theorem C_ {fn:Func}{tmps:Array Value}{R:Ending->World->Prop}{u:FrameMode}(X:u≠ .run){bs:List Deferred}:∀ (Ds:List Nat) (ds:List Deferred) (w:World),ds.map (·.target)=Ds.map .collected->Ds.Nodup->
  (∀ D∈Ds,w.heap[D]? =some (.deferred (some [])))->(∀ V,auH Ds w V->LeavesInM (rd none) nd P fn tmps R bs u V)->LeavesInM (rd none) nd P fn tmps R (ds++bs) u w
 | [],[],w,_,_,_,h=>h w ⟨rfl,λ_ _=>rfl,rfl,rfl,rfl⟩
 | [],_::_,w,E,_,_,_=>by simp at E
 |_::_,[],w,E,_,_,_=>by simp at E
 |D::Ds,d::ds,w,E,hn,hD,h=>by
  simp[aoO,apS]at E;have⟨hd,E⟩:=E;rw[ao2]at hn;refine⟨X,.inl ⟨D,_,hd,run_takeDeferred (hD D (by simp)),?_⟩⟩;refine C_ X Ds ds _ E hn.2 (λD' Y=>?_) λV O=>?_;rw[World.putObj_heap_other g6];grind
  refine h V ⟨?_,λk W=>?_,O.os,O.tape,O.output⟩;rw[O.size];simp_all;simp[aoD,not_or]at W;rw[O.block k W.2,World.putObj_heap_other W.1]
variable {st:St}{a:Act}{w:World}
theorem arE.shut{own:Own}{V:World}{Ds:List Nat}(h:arE F w0 N own st a w)(W:∀ D∈Ds,w0.w.heap.size<=D/\F D/\w.heap[D]? =some (.deferred (some [])))(E:auH Ds w V):
  arE F w0 N own st { a with defers:=w0.ds} V:=by
 have g:aso F own w own V:=⟨λ_ hd e=>⟨hd,e,.refl _⟩,λb _ hn=>⟨hn,E.block b λO=>hn (.inl (W b O).2.1)⟩,by rw[E.size];omega⟩;refine⟨h.size,Dfr.nil,h.hp.asx g λid hd b e O=>E.block b λY=>h.hp.apart id hd b e O (W b Y).2.1,⟨h.fr.ids,h.fr.base,E.os.trans h.fr.os,E.tape.trans h.fr.tape,E.output.trans h.fr.output,by rw[E.size];exact h.fr.size,λk X=>?_⟩,λt=>(h.slots t).mono g⟩;rw[E.block k λO=>by have:=(W k O).1;have:=X.1;omega];exact h.fr.block k X
theorem arE.less{W:Nat->Prop}(V:∀ b,F b->W b){own:Own}(h:arE W w0 N own st a w)(hd:a.defers=w0.ds):arE F w0 N own st a w:=by
 have hc:asa W own w F own w:=⟨λ_ hd e=>⟨hd,e,.refl _⟩,λb _ hn=>⟨λX=>hn (X.imp (V b) id),rfl⟩⟩;refine⟨h.size,by rw[hd];exact Dfr.nil,⟨h.hp.dom,λb E=>h.hp.arN b (V b E),λid hd b e E Y=>h.hp.apart id hd b e E (V b Y),h.hp.inj,h.hp.lt,λid O=>?_⟩,h.fr,λt=>(h.slots t).carry hc⟩;have⟨hd,e1,e2⟩:=h.hp.obs id O;exact⟨hd,e1,e2.carry hc (aom _) λ_ _=>rfl⟩
theorem UY(V:ts.ok P){own:Own}(hr:arE F w0 N own st a w){x:ResultVar}{s:SV}(h:Us ts st x=some s):
  ∃ v,(W_ a.tmps x).run P w=.ok v w/\Rel F own w s v:=by
 cases x with
 |tmp n=>
  simp[Us,aoo]at h;subst h;exact⟨_,rfl,hr.slots n⟩
 |cell q t=>
  simp[Us]at h;cases O:aO ts t λti=>tq ti st.h (lk q st.t)with
  |val s'=>
   rw[O]at h;simp[aaD,aoo]at h;subst h;have⟨ti,ht,he⟩:=cA V O (by simp);have⟨u,e1,e2⟩:=N4 (P:=P) hr.hp ht (hr.slots q) he;refine⟨u,?_,e2⟩;show(do loadVar t (<-asAddr (a.tmps.getD q undef)):Sem Value).run P w=.ok u w;generalize a.tmps.getD q undef=vq at e1 |-;unfold Instr.loadAt at e1;have E:∀ x w',(Instr.sureAddr vq).run P w=.ok x w'->(asAddr vq).run P w=.ok x w':=by
    intro x w' h;unfold Instr.sureAddr at h;split at h
    exact h;simp_all
   cases W:(Instr.sureAddr vq).run P w <;>simp_all
  |_=>rw[O]at h;simp[aaD]at h
theorem Kr (E:ts.ok P){own:Own}{st:St}{a:Act}{w:World}(hr:arE F w0 N own st a w):∀ (rs:List ResultVar) (l:List SV),sS ts st rs=some l->
  ∃ vs:List Value,(rs.mapM (W_ a.tmps):Sem (List Value)).run P w=.ok vs w/\vs.length=l.length/\∀ (j:Nat) (s:SV),l[j]? =some s->∃ v,vs[j]? =some v/\Rel F own w s v
 | [],l,h=>by
  simp_all [sS]
 |x::r,l,h=>by
  simp[sS]at h;cases V:Us ts st x with
  |none=>grind [N2]
  |some s0=>
   cases O:sS ts st r with
   |none=>grind [N2]
   |some l'=>
    rw[V,O]at h;simp[N2,aoo]at h;subst h;have⟨v0,f1,f2⟩:=UY (P:=P) E hr V;have⟨vs,e1,e2,e3⟩:=Kr E hr r l' O;refine⟨v0::vs,?_,by simp[e2],λj s W=>?_⟩;simp_all;grind
theorem BR(Y:ts.ok P){fn:Func}{own:Own}(hr:arE F w0 N own st a w){s:SV}(h:u6 (sS ts st fn.results.toList)=some s):∃ u,(results fn a.tmps).run P w=.ok u w/\Rel F own w s u:=by
 cases W:sS ts st fn.results.toList with
 |none=>rw[W]at h;cases h
 |some l=>
  have⟨vs,e1,V,O⟩:=Kr (P:=P) Y hr _ l W;rw[W]at h;have hres:(results fn a.tmps).run P w=.ok (if h:vs.toArray.size=1 then vs.toArray[0]else .tuple vs.toArray) w:=by
   grind [Rx,Array.mapM_eq_mapM_toList,Sem.run_bind,Sem.run_map,Result.andThen_ok,Sem.run_pure]
  have E:vs.toArray.size=l.length:=g5
  match l,h,V,O,E with
  | [s0],h,V,O,E=>
   simp[u6]at h;have⟨v,hv,asX⟩:=O 0 s0 rfl;grind
  | [],h,V,O,E=>
   simp[u6,aoo]at h;subst h;refine⟨.tuple vs.toArray,g6,.tup g5 λj s X=>by simp at X⟩
  |s0::s1::r,h,V,O,E=>
   simp[u6,aoo]at h;subst h;refine⟨.tuple vs.toArray,g6,.tup g5 λj s X=>?_⟩;have⟨v,hv,asX⟩:=O j s X;simp_all
theorem oD{fn:Func}{own:Own}{R:Ending->World->Prop}(hr:arE F w0 N own st a w){u:FrameMode}(W:u≠ .run)
  (h:∀ E,arE F w0 N own st { a with defers:=w0.ds} E->LeavesInM (rd none) nd P fn a.tmps R w0.ds u E):LeavesInM (rd none) nd P fn a.tmps R a.defers u w:=by
 have⟨ms,Ds,h0,h1,h2,h3⟩:=hr.defers;rw[h0];exact C_ W Ds ms w h1 h2 (λD O=>(h3 D O).2.2) λE V=>h E (hr.shut h3 V)
variable {w':World}
theorem sn{own:Own}(h:Fr { w:=w,own:=dP} own w'):Below w.heap.size w w':=
 ⟨h.os,h.tape,h.output,h.size,λk E=>h.block k ⟨E,λ⟨_,_,e,_⟩ =>by cases e⟩⟩
theorem so{own:Own}{l:List SV}{vs:Array Value}(E:ar7 F own w l vs)(n t:Nat):Rel F own w (lk t (pn 0 l)) ((vs++Array.replicate n undef).getD t undef):=by
 rw[OB];cases O:l[t]? with
 |none=>exact .any _
 |some s=>
  have hlt:t<vs.size:=by rw[E.1];grind
  have:=E.2 t s O;grind [vo]
theorem BS(E:∀ b,F b->b<w.heap.size):Hp F dP w []:=
 ⟨λ_ _ h=>(by cases h),E,λ_ _ _ h=>(by cases h),λ_ _ _ _ _ h=>(by cases h),λ_ _ _ h=>(by cases h),λid h=>(by simp[ap,d_]at h)⟩
def mQ (h:List Ob):Nat->SV->List Nat
 |_,.os id=>match aZ 0 (yy (ap h id))with| [] =>[] |_=>[id]
 |n+1,.agg l=>l.flatMap (mQ h n)|n+1,.tup l=>l.flatMap (mQ h n)|_,_=>[]
theorem Ei (o:Ob):(∃ (k:Tag) (l:List k.T),o=.row k l/\yy o=.nw k l)\/(∃ (k k2:Tag) (l:List (k.T×k2.T)),o=.mp k k2 l none/\yy o=.nm k k2 l)\/(∃ (k:Tag) (l:List (List k.T)),o=.ar2 k l/\yy o=.ng k l)\/yy o=.any:=by
 cases o with
 |row k l=>exact .inl ⟨k,l,rfl,rfl⟩
 |mp k k2 l p=>
  cases p with
  |none=>exact .inr (.inl ⟨k,k2,l,rfl,rfl⟩)|some x=>exact .inr (.inr (.inr rfl))
 |ar2 k l=>exact .inr (.inr (.inl ⟨k,l,rfl,rfl⟩))|_=>exact .inr (.inr (.inr rfl))
theorem Ry:∀ (n:Nat) (s:SV),dM n s=true->∀ m,aZ m s=[]:=by
 intro n;induction n with
 |zero=>intro s h m;cases s <;>simp[dM]at h <;>cases m <;>rfl
 |succ n O=>
  intro s h m;have E:∀ (l:List SV) m,l.all (dM n)=true->l.flatMap (aZ m)=[]:=λl m E=>by
   simp_all
  cases s with
  |agg l=>cases m with
   |zero=>rfl|succ m=>exact E l m h
  |tup l=>cases m with
   |zero=>rfl|succ m=>exact E l m h
  |_=>first|(cases m <;>rfl) |simp[dM]at h
variable {h:List Ob}
theorem Ks:∀ (n:Nat) (s:SV),aZ n (Am h n s)=(mQ h n s).map (ap h)/\mQ h n s ⊆ wW n s/\(mQ h n s).Sublist (wW n s)/\∀ id∈mQ h n s,Plain (ap h id):=by
 have V:∀ (n id:Nat),aZ n (yy (ap h id))=(mQ h n (.os id)).map (ap h)/\mQ h n (.os id) ⊆ [id]/\(mQ h n (.os id)).Sublist [id]/\∀ i∈mQ h n (.os id),Plain (ap h i):=by
  intro n id;have e:mQ h n (.os id)=match aZ 0 (yy (ap h id))with| [] =>[] |_=>[id]:=by cases n <;>rfl
  rw[e];rcases Ei (ap h id)with⟨k,l,O,e2⟩ | ⟨k,k2,l,O,e2⟩ | ⟨k,l,O,e2⟩ |e2;rw[e2];refine⟨?_,by simp[aZ],by simp[aZ],λi hi=>?_⟩;grind [aZ]
  simp[aZ]at hi;subst hi;exact .inl ⟨k,l,O⟩;rw[e2];refine⟨?_,by simp[aZ],by simp[aZ],λi hi=>?_⟩;grind [aZ]
  simp[aZ]at hi;subst hi;exact .inr (.inl ⟨k,k2,l,O⟩);rw[e2];refine⟨?_,by simp[aZ],by simp[aZ],λi hi=>?_⟩;grind [aZ]
  simp[aZ]at hi;subst hi;exact .inr (.inr ⟨k,l,O⟩);grind [aZ]
 have E:∀ (n m:Nat) (s:SV),aZ n (bif dM m s then s else .any)=[]:=λn m s=>by
  cases X:dM m s with
  |true=>exact Ry m s X n|false=>cases n <;>rfl
 intro n;induction n with
 |zero=>
  intro s;cases s with
  |os id=>exact V 0 id
  |_=>first|exact⟨rfl,by simp[mQ,wW],by simp[mQ,wW],λi hi=>by simp[mQ]at hi⟩ |exact⟨E _ _ _,by simp[mQ,wW],by simp[mQ,wW],λi hi=>by simp[mQ]at hi⟩
 |succ n Y=>
  intro s;have W:∀ l:List SV,(l.map (Am h n)).flatMap (aZ n)=(l.flatMap (mQ h n)).map (ap h)/\l.flatMap (mQ h n) ⊆ l.flatMap (wW n)/\(l.flatMap (mQ h n)).Sublist (l.flatMap (wW n))/\∀ id∈l.flatMap (mQ h n),Plain (ap h id):=by
   intro l;induction l <;>grind
  cases s with
  |os id=>exact V (n+1) id|agg l=>exact W l|tup l=>exact W l
  |_=>first|exact⟨rfl,by simp[mQ,wW],by simp[mQ,wW],λi hi=>by simp[mQ]at hi⟩ |exact⟨E _ _ _,by simp[mQ,wW],by simp[mQ,wW],λi hi=>by simp[mQ]at hi⟩
theorem GQ:∀ l:List Nat,uniq l=true->l.Nodup
 | [],_=>apL
 |a::r,h=>by
  simp[uniq,aoj]at h;rw[ao2];refine⟨λE=>?_,GQ r h.2⟩;grind [yG]
theorem UZ{own ee:Own}(hp:Hp F own w h)(hsh:∀ b,¬dA F own b->¬dA F ee b):∀ (n b:Nat) (s:SV) (v:Value),Rel F own w s v->(∀ i id,(mQ h n s)[i]? =some id->ee (b+i)=own id)->yF F ee w n b (Am h n s) v:=by
 have V:∀ c,¬dA F own c->¬dA (dA F ee) dP c:=λc hc=>by
  rintro (hf| ⟨_,_,e,_⟩);grind
  cases e
 have W:∀ (n b id:Nat) (v:Value),Rel F own w (.os id) v->(∀ i j,(mQ h n (.os id))[i]? =some j->ee (b+i)=own j)->yF F ee w n b (yy (ap h id)) v:=by
  intro n b id v hr E;have e:mQ h n (.os id)=match aZ 0 (yy (ap h id))with| [] =>[] |_=>[id]:=by cases n <;>rfl
  rw[e]at E;cases hr with
  |os h1 h2=>
   rcases Ei (ap h id)with⟨k,l,e1,e2⟩ | ⟨k,k2,l,e1,e2⟩ | ⟨k,l,e1,e2⟩ |e2;all_goals rw[e2]at E |-
   have:=E 0 id (by simp[aZ]);rw[apE]at this;cases n <;>exact⟨_,by rw[this];exact h1,rfl,h2⟩;have:=E 0 id (by simp[aZ]);rw[apE]at this;cases n <;>exact⟨_,by rw[this];exact h1,rfl,h2⟩;have:=E 0 id (by simp[aZ]);rw[apE]at this;cases n <;>exact⟨_,by rw[this];exact h1,rfl,h2⟩;cases n <;>exact Rel.any _
 have O:∀ (n m b:Nat) (s:SV) (v:Value),Rel F own w s v->(∀ l,s≠ .agg l)->(∀ l,s≠ .tup l)->yF F ee w n b (bif dM m s then s else .any) v:=by
  intro n m b s v hr n1 n2;cases hb:dM m s with
  |false=>cases n <;>exact Rel.any _
  |true=>
   have Y:Rel (dA F ee) dP w s v:=hr.arZ (iH m s hb) V;cases s with
   |agg l=>grind|tup l=>grind|nw k l=>cases hr|nm k k2 l=>cases hr|ng k l=>cases hr|_=>cases n <;>exact Y
 intro n;induction n with
 |zero=>
  intro b s v hr E;cases s with
  |os id=>exact W 0 b id v hr E|v x=>exact hr.arZ (.v x) V|rs k l=>exact hr.arZ .rs V|rm k k2 l=>exact hr.arZ .rm V|e0=>exact hr.arZ .e0 V|agg l=>exact Rel.any _|tup l=>exact Rel.any _
  |_=>exact O 0 0 b _ v hr (λ_ e=>by cases e) (λ_ e=>by cases e)
 |succ n ih=>
  intro b s v hr E;have hl:∀ (l:List SV) (vs:Array Value) (b:Nat),(∀ (j:Nat) (s:SV),l[j]? =some s->Rel F own w s (vs.getD j undef))->(∀ i id,(l.flatMap (mQ h n))[i]? =some id->ee (b+i)=own id)->
    ∀ (j:Nat) (s:SV),(l.map (Am h n))[j]? =some s->yF F ee w n (b+cnt n ((l.map (Am h n)).take j)) s (vs.getD j undef):=by
   intro l vs b h1 h2 j s hj;obtain⟨x,hx2,rfl⟩:=rK hj;refine ih _ x _ (h1 j x hx2) λi id hi=>?_;have hc:cnt n ((l.map (Am h n)).take j)=((l.take j).flatMap (mQ h n)).length:=by
    rw[<-List.map_take];generalize l.take j=m;induction m with
    |nil=>rfl|cons y r ihm=>grind [cnt,Ks]
   rw[apI];refine h2 _ id ?_;have X:l=l.take j++(x::l.drop (j+1)):=by
    grind [List.getElem_cons_drop,List.take_append_drop]
   grind
  cases s with
  |os id=>exact W (n+1) b id v hr E|v x=>exact hr.arZ (.v x) V|rs k l=>exact hr.arZ .rs V|rm k k2 l=>exact hr.arZ .rm V|e0=>exact hr.arZ .e0 V
  |agg l=>cases hr with|agg h0 h1=>exact⟨_,rfl,g6,hl l _ b h1 E⟩
  |tup l=>cases hr with|tup h0 h1=>exact⟨_,rfl,g6,hl l _ b h1 E⟩
  |_=>exact O (n+1) (n+1) b _ v hr (λ_ e=>by cases e) (λ_ e=>by cases e)
theorem Tn{own:Own}(E:arE F { w:=w,own:=dP} N own st a w'){s s2:SV}{u:Value}(hr:Rel F own w' s u)(hg:Eb st.h s=some s2):∃ ee,Handed F w ee w' s2 u:=by
 unfold Eb at hg;cases X:uniq (wW 3 s)&&(wW 3 s).all (λi=>Nat.blt i st.h.length)with
 |false=>grind
 |true=>
  rw[X]at hg;simp[cond_true,aoo]at hg;subst hg;rw[aoj]at X;have⟨g1,g2,g3,g4⟩:=Ks (h:=st.h) 3 s;have hnd:(mQ st.h 3 s).Nodup:=(GQ _ X.1).sublist g3;let ee:Own:=λi=>((mQ st.h 3 s)[i]?).bind own
  have Y:∀ i hd,ee i=some hd->∃ id,(mQ st.h 3 s)[i]? =some id/\own id=some hd:=λi hd e=>by
   grind
  have hsh:∀ b,¬dA F own b->¬dA F ee b:=λb X=>by
   rintro (hf| ⟨i,hd,e,W⟩);exact X (.inl hf);have⟨id,_,V⟩:=Y i hd e;exact X (.inr ⟨id,hd,V,W⟩)
  refine⟨ee,⟨λi hd e=>?_,E.hp.arN,λi hd b e W=>?_,λi j hi hj b e1 V hb1 hb2=>?_,λi hd b e W=>?_,λi O=>?_⟩,?_,λi hd b e W=>?_⟩;grind
  have⟨id,_,V⟩:=Y i hd e;exact E.hp.apart id hd b V W;have⟨k1,p1,p2⟩:=Y i hi e1;have⟨k2,q1,q2⟩:=Y j hj V;have:=E.hp.inj k1 k2 hi hj b p2 q2 hb1 hb2;subst this;exact tW hnd p1 q1;have⟨id,_,V⟩:=Y i hd e;exact E.hp.lt id hd b V W;rw[g1]at O |-;rw[wY]at O |-;rw[apj]at O |-;cases hi:(mQ st.h 3 s)[i]? with
  |none=>grind [d_]
  |some id=>
   rw[hi]at O;have⟨hd,e1,V⟩:=E.hp.obs id O;refine⟨hd,g6,V.arZ (g4 id (aoB hi)) (.inl hsh)⟩
  exact UZ E.hp hsh 3 0 s u hr λi id hi=>g6
  have⟨id,_,V⟩:=Y i hd e;have:=E.fr.base id hd b V W;rcases apv b w.heap.size with hlt|hge;exact absurd ⟨hlt,λ⟨_,_,e,_⟩ =>by cases e⟩ this;exact hge
end
section
variable {P:Program}{F:Nat->Prop}{w0:Bs}{ro:Option Nat}{nd:Nat}{ts:Tis}{G:Cons}{L:xP}{N:Nat}
variable {w:World}
theorem yI{w':World}{s:SV}{u:Value}(E:∀ b,F b->b<w'.heap.size)(h:Rel F dP w' s u):Handed F w dP w' s u:=by
 refine⟨?_,WT 3 0 h,λ_ _ _ e=>(by cases e)⟩;rw[Gy 3 h];exact BS E
variable {f:FuncId}{fn:Func}{c:Code}
theorem Xa(m:Bool)(hm:P.follows .mixedOrders=true)(hts:ts.ok P)(hG:arD P G)(hf:P.funcs[f]? =some fn)(hb:fn.body=some c)(hname:(fn.name== "runtime.NumGoroutine")=false)
  (hc:dq fn.ntmps c=true) {C:m0}
  (h:∀ l O,C l=some O->an O->l.length<=fn.ntmps/\∃ L,ak P none fn.ntmps L c/\exec ts G L c ⟨pn 0 l,[]⟩ (Gf m fn.results.toList ts (eA O) (lK O))):X1 P f C:=by
 refine⟨λl O _ args w=>?_,λl O Y hpre F w vs hF hvs=>?_⟩;simp_all [callFunc];have⟨hlen,L,hl,hx⟩:=h l O Y hpre;refine un (n:=0) (callsIn_of_wp_marks hf hb trivial ?_);have hr:arE F { w:=w,own:=dP} fn.ntmps dP ⟨pn 0 l,[]⟩ { tmps:=vs++Array.replicate (fn.ntmps - vs.size) undef,defers:=[]} w:=
  ⟨by have:=hvs.1;simp;omega,Dfr.nil,BS hF,Fr.refl _,λt=>so hvs _ t⟩
 refine wpIn_mono (tC hm hts hG c hc hl F _ _ hx dP _ w hr) ?_;intro e a' w' hq;have key:∀ X own st,(∀ b,F b->X b)->arE X { w:=w,own:=dP} fn.ntmps own st a' w'->jO (eA O) (Gc m fn.results.toList ts st)->LeavesInM (rd none) 0 P fn a'.tmps
   (λe w'=>(∃ s u ee,eA O s/\e=.returned u/\Handed F w ee w' s u/\Below w.heap.size w w')\/(∃ x,lK O x/\e=.panicked [{ v:=x,recovered:=false}]/\Below w.heap.size w w')) a'.defers .returning w':=by
  intro X own st hF1 hst E;refine oD hst (by simp) λw2 W=>?_;have V:=W.less hF1 rfl;unfold Gc at E;cases hs:u6 (sS ts st fn.results.toList)with
  |none=>
   cases m <;>simp only[Gb,Ut]at E <;>rw[hs]at E <;>exact E.elim
  |some s=>
   have⟨u,e1,e2⟩:=BR (P:=P) hts V hs;refine⟨u,e1,.inl ?_⟩;cases m with
   |false=>
    simp[Gb]at E;rw[hs]at E;exact⟨_,u,dP,E,rfl,yI V.hp.arN (BO V.hp 4 s u e2),sn V.fr⟩
   |true=>
    simp[Ut]at E;rw[hs]at E;change jO (eA O) (Eb st.h s)at E;cases hg:Eb st.h s with
    |none=>rw[hg]at E;exact E.elim
    |some s2=>
     rw[hg]at E;have⟨ee,hh⟩:=Tn V e2 hg;exact⟨_,u,ee,E,rfl,hh,sn V.fr⟩
 cases e with
 |normal=>have⟨X,own,st,h0,h1,h2⟩:=hq;exact key X own st h0 h1 h2|ret=>have⟨X,own,st,h0,h1,h2⟩:=hq;exact key X own st h0 h1 h2|exit id=>have⟨X,own,st,h0,h1,h2⟩:=hq;exact h2.elim
 |panic ch=>
  obtain⟨x,X,own,st,h0,h1,h2,rfl⟩:=hq;exact oD h1 (by simp) λw2 W=>.inr ⟨x,h2,rfl,sn W.fr⟩
 |_=>exact hq.elim
theorem aaY{js:List Nat}{n0:Nat}{own:Own}{h h':List Ob}{s s':SV}(V:Sub js n0 ⟨[(0,s)],h⟩ ⟨[(0,s')],h'⟩)(W:Hp F own w h)(O:Fr w0 own w)(hn:∀ id hd,w0.own id=some hd->id<n0)(E:n0<=h'.length){u:Value}(hr:Rel F own w s u):
  Rel F (jP js h' own) w s' u:=by
 have⟨_,_,_,q4⟩:=L9 V W O hn E;have⟨_,⟨⟨k1,k2⟩,_⟩,_⟩:=V;have e:s=ren (Ge js) 5 s':=by simpa[lk]using k1
 grind
variable {C:List SV->List Ob->Option arV}
theorem GR(hm:P.follows .mixedOrders=true)(hts:ts.ok P)(hG:arD P G)(hf:P.funcs[f]? =some fn)(hb:fn.body=some c)(hname:(fn.name== "runtime.NumGoroutine")=false)
  (hc:dq fn.ntmps c=true) 
  (h:∀ l o V,C l o=some V->V.pre->l.length<=fn.ntmps/\∃ L Qx,ak P none fn.ntmps L c/\(∀ e st,Qx e st->N3 o.length fn.results.toList ts V e st)/\exec ts G L c ⟨pn 0 l,o⟩ Qx):arT P f C:=by
 refine⟨λl o V _ args w=>?_,λl o V atS hpre F own w vs hp hvs=>?_⟩;simp_all [callFunc];have⟨hlen,L,Qx,hl,hQ,hx⟩:=h l o V atS hpre;have hn0:∀ id hd,own id=some hd->id<o.length:=λid hd e=>hp.dom id hd e;refine un (n:=0) (callsIn_of_wp_marks hf hb trivial ?_);have hr:arE F { w:=w,own:=own} fn.ntmps own ⟨pn 0 l,o⟩ { tmps:=vs++Array.replicate (fn.ntmps - vs.size) undef,defers:=[]} w:=
  ⟨by have:=hvs.1;simp;omega,Dfr.nil,hp,Fr.refl { w:=w,own:=own},λt=>so hvs _ t⟩
 refine wpIn_mono (tC hm hts hG c hc hl F _ _ hx own _ w hr) ?_;intro e a' w' Y
 replace Y:=wp hQ _ _ _ Y
 have key:∀ X ee st,(∀ b,F b->X b)->arE X { w:=w,own:=own} fn.ntmps ee st a' w'->Gg o.length V (u6 (sS ts st fn.results.toList)) st.h->LeavesInM (rd none) 0 P fn a'.tmps (λe w'=>∃ r ee,V.post r/\LY F w own o.length e ee w' (V.res r)) a'.defers .returning w':=by
  intro X ee st hF1 hst O;refine oD hst (by simp) λw2 W=>?_;have E:=W.less hF1 rfl;cases hs:u6 (sS ts st fn.results.toList)with
  |none=>rw[hs]at O;exact O.elim
  |some s=>
   rw[hs]at O;have⟨r,s',h',js,q1,q2,q3,q4⟩:=O;have⟨u,e1,e2⟩:=BR (P:=P) hts E hs;have⟨k1,k2,_,_⟩:=L9 q4 E.hp E.fr hn0 q3;refine⟨u,e1,r,jP js h' ee,q1,?_⟩;rw[q2];exact⟨⟨u,rfl,aaY q4 E.hp E.fr hn0 q3 e2⟩,k1,k2,q3⟩
 cases e with
 |normal=>have⟨X,ee,st,h0,h1,h2⟩:=Y;exact key X ee st h0 h1 h2|ret=>have⟨X,ee,st,h0,h1,h2⟩:=Y;exact key X ee st h0 h1 h2|exit id=>have⟨X,ee,st,h0,h1,h2⟩:=Y;exact h2.elim
 |panic ch=>
  obtain⟨x,X,ee,st,h0,h1,⟨r,h',js,q1,q2,q3,q4⟩,rfl⟩:=Y;refine oD h1 (by simp) λw2 W=>?_;have E:=W.less h0 rfl;have⟨k1,k2,_,_⟩:=L9 q4 E.hp E.fr hn0 q3;refine⟨r,jP js h' ee,q1,?_⟩;rw[q2];exact⟨rfl,k1,k2,q3⟩
 |_=>exact Y.elim
theorem oE(X:P.follows .mixedOrders=true)(V:ts.ok P)(hG:arD P G)(Y:P.funcs[f]? =some fn)(W:fn.body=some c)(O:(fn.name== "runtime.NumGoroutine")=false)
  (hc:dq fn.ntmps c=true) 
  (h:∀ l o E,C l o=some E->E.pre->l.length<=fn.ntmps/\∃ L,ak P none fn.ntmps L c/\exec ts G L c ⟨pn 0 l,o⟩ (N3 o.length fn.results.toList ts E)):arT P f C:=
 GR X V hG Y W O hc λl o E h1 h2=>by
  grind
theorem arE.asU{own:Own}{st:St}{a:Act}(h:arE F w0 N own st a w):∀ id hd,w0.own id=some hd->id<st.h.length:=λid hd e=>by
 have⟨hd',e',_⟩:=h.fr.ids id hd e;exact h.hp.dom id hd' e'
theorem ur{ts:Tis}{G:Cons}{ro:Option Nat}{N:Nat}(hm:P.follows .mixedOrders=true)(hts:ts.ok P)(hG:arD P G){id:Nat}(hc:dq N c=true){C:St->Option asq}
  (h:∀ st O,C st=some O->O.pre->∃ (σ:Type) (D:σ->St) (I:σ->Prop) (m:σ->Nat) (x0:σ) (js:List Nat),I x0/\st.h.length<=(D x0).h.length/\Sub js st.h.length st (D x0)/\
   ∀ x,I x->∃ L Qx,ak P ro N L c/\(∀ e st',Qx e st'->wX D I m st.h.length x id (λe st'=>∃ r js,O.post r/\O.ex r=e/\st.h.length<=(O.out r).h.length/\Sub js st.h.length st' (O.out r)) e st')/\exec ts G L c (D x) Qx):my P ro N id (.loop c) C:=by
 intro nd F w0 st O hC hpre own a w hr;have⟨σ,D,I,m,x0,js,h1,h2,h3,h4⟩:=h st O hC hpre;refine wpIn_mono (Kq hm hts hG hc D I m st.h.length hr.asU _ h4 x0 h1 _ a w (hr.sub h3 hr.asU h2)) ?_;intro e a' w' Y;have key:∀ ex V ee st',arE V w0 N ee st' a' w'->(∃ r js,O.post r/\O.ex r=ex/\st.h.length<=(O.out r).h.length/\Sub js st.h.length st' (O.out r))->∃ X2 E,arE V w0 N X2 E a' w'/\∃ r,O.post r/\ex=O.ex r/\E=O.out r:=by
  rintro ex V ee st' hst ⟨r,js,W,X,q3,q4⟩;exact⟨_,_,hst.sub q4 hr.asU q3,r,W,X.symm,rfl⟩
 cases e with
 |normal=>have⟨V,ee,st',h0,k1,k2⟩:=Y;have⟨X2,E,W,X⟩:=key _ V ee st' k1 k2;exact⟨V,X2,E,h0,W,X⟩|exit j=>have⟨V,ee,st',h0,k1,k2⟩:=Y;have⟨X2,E,W,X⟩:=key _ V ee st' k1 k2;exact⟨V,X2,E,h0,W,X⟩|ret=>have⟨V,ee,st',h0,k1,k2⟩:=Y;have⟨X2,E,W,X⟩:=key _ V ee st' k1 k2;exact⟨V,X2,E,h0,W,X⟩
 |panic ch=>
  have⟨x,V,ee,st',h0,k1,k2,k3⟩:=Y;have⟨X2,E,W,X⟩:=key _ V ee st' k1 k2;exact⟨x,V,X2,E,h0,W,X,k3⟩
 |_=>exact Y.elim
end
end Go.Sx
end
