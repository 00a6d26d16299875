/- Part of the proof that the law JudgementSitSpec returns true and leaves its arguments as they were, for all arguments of bulk at most 1048576 (the Upto form). -/
import Derived.Test.YtnanafpgfihjfaaGreatJ604
import Derived.TacticsIn
import Derived.OrdersIn
set_option linter.all false
set_option maxHeartbeats 4000000
set_option maxRecDepth 100000
section
namespace Go.Sx
open Go.RowKit
def an:Con->Prop
 | .det p _=>p
 | .rel _ p _ _=>p
 | .may _ _ _=>True
def di:Con->SV->Prop
 | .det _ s,s'=>s'=s
 | .rel _ _ post out,s'=>∃ r,post r/\s'=out r
 | .may ok s _,s'=>ok=true/\s'=s
def mG:Con->Value->Prop
 | .may ok _ x,x'=>ok=false/\x'=x
 |_,_=>False
section
variable {P:Program}{F F':Nat->Prop}{own own':Own}{w w':World}{ts:Tis}
structure Handed (F:Nat->Prop)(w:World)(own':Own)(w':World)(s:SV)(u:Value):Prop where
 hp:Hp F own' w' (aJ 3 s)
 val:wF F own' w' 3 0 s u
 fresh:∀ (id:Nat) (hd:Hd) (b:Nat),own' id=some hd->b∈hd.bs->w.heap.size<=b
structure FnOk (P:Program)(f:FuncId)(C:List SV->Option Con):Prop where
 enter:∀ l c,C l=some c->∀ (args:Array Value) (w:World),(callFunc f args).run P w=.ok (.enter f args) w
 calls:∀ l c,C l=some c->an c->∀ (F:Nat->Prop) (w:World) (vs:Array Value),(∀ b,F b->b<w.heap.size)->RelL F ct w l vs->
  Calls P f vs w (fun e w'=>(∃ s u own',di c s/\e=.returned u/\Handed F w own' w' s u/\Below w.heap.size w w')\/(∃ x,mG c x/\e=.panicked [{ v:=x,recovered:=false}]/\Below w.heap.size w w'))
def EZ (F:Nat->Prop)(w:World)(own:Own)(n:Nat)(e:Ending)(own':Own)(w':World):Rs->Prop
 | .ret s h=>(∃ u,e=.returned u/\Rel F own' w' s u)/\Hp F own' w' h/\Fr { w:=w,own:=own} own' w'/\n<=h.length
 | .pan x h=>e=.panicked [{ v:=x,recovered:=false}]/\Hp F own' w' h/\Fr { w:=w,own:=own} own' w'/\n<=h.length
structure FnOkO (P:Program)(f:FuncId)(C:List SV->List Ob->Option HCon):Prop where
 enter:∀ l h c,C l h=some c->∀ (args:Array Value) (w:World),(callFunc f args).run P w=.ok (.enter f args) w
 calls:∀ l h c,C l h=some c->c.pre->∀ (F:Nat->Prop) (own:Own) (w:World) (vs:Array Value),Hp F own w h->RelL F own w l vs->
  Calls P f vs w (fun e w'=>∃ r own',c.post r/\EZ F w own h.length e own' w' (c.res r))
abbrev rd (r:Option Nat):Fence:= { fn:=fun _=>True,depth:=none,alive:=false,round:=r}
def R_ (P:Program)(v:Value)(vs:Array Value)(w:World)(R:Ending->World->Prop):Prop:=
 (∃ f args,(LI v vs).run P w=.ok (.enter f args) w/\Calls P f args w R)\/(∃ l f tmps as bd,(LI v vs).run P w=.ok (.round l f tmps as bd) w/\RoundIn (rd none) 0 P l f tmps as bd w R)
structure YFr (bs bs':List Nat)(w w':World):Prop where
 os:w'.os=w.os
 tape:w'.tape=w.tape
 output:w'.output=w.output
 size:w.heap.size<=w'.heap.size
 block:∀ b,b<w.heap.size->b ∉ bs->w'.heap[b]? =w.heap[b]?
 bs:∀ b∈bs',b<w'.heap.size/\(b∈bs\/w.heap.size<=b)
def YOk (P:Program)(C:List SV->Res->Option YCon):Prop:=
 ∀ l r c,C l r=some c->c.pre->∀ (F:Nat->Prop) (bs:List Nat) (w:World) (vs:Array Value),r.R F bs w->(∀ b,F b->b<w.heap.size)->(∀ b∈bs,b<w.heap.size/\¬F b)->RelL (fun b=>F b\/b∈bs) ct w l vs->
  R_ P r.yv vs w (fun e w'=>∃ a bs',c.post a/\e=.returned (.bool (c.res a).1)/\(c.res a).2.R F bs' w'/\(c.res a).2.yv=r.yv/\YFr bs bs' w w')
structure ConsOk (P:Program)(G:Cons):Prop where
 p:∀ f,FnOk P f (G.p f)
 o:∀ f,FnOkO P f (G.o f)
 y:YOk P G.y
theorem pg {P:Program}{r:Option Nat}{n:Nat}{f:FuncId}{vs:Array Value}{w:World}{R:Ending->World->Prop}(h:Calls P f vs w R):CallsIn (rd r) n P f vs w R:=(callsIn_wide (n:=n)).2 h
theorem oE {P:Program}{n:Nat}{f:FuncId}{vs:Array Value}{w:World}{R:Ending->World->Prop}(h:CallsIn (rd none) n P f vs w R):Calls P f vs w R:=(callsIn_wide (n:=n)).1 h
theorem GF {P:Program}{r:Option Nat}{n l:Nat}{f:FuncId}{tmps:Array Value}{as bd:Code}{w:World}{R:Ending->World->Prop}(h:RoundIn (rd none) 0 P l f tmps as bd w R):RoundIn (rd r) n P l f tmps as bd w R:=
 ⟨trivial,fun c cs hr=>h.2 c cs (by simp[Fence.room])⟩
theorem E0 {k:Tag}(hk:rank k=0){x:k.T}{j:Nat}{s:SV}(h:(cellsOf k x)[j]? =some s):∃ y,s=.v y:=by
 rcases wx h with⟨y,rfl,_⟩ | ⟨k',l,rfl,hr⟩ | ⟨k',k2,l,rfl,hr,_⟩ | ⟨f,rfl,hr⟩
 ·exact⟨y,rfl⟩
 ·omega
 ·omega
 ·exact absurd hk hr
theorem DY {k:Tag}(hk:rank k=0){x:k.T}{v:Value}(h:Rel F own w (svT k x) v):Rel F' own' w' (svT k x) v:=by
 unfold svT at h |-;cases ha:pb k with
 |true=>
  rw[ha]at h;simp only[cond_true]at h |-;obtain⟨vs,rfl,h1⟩:=tS h;exact .agg h1.1 fun j s hj=>by
   obtain⟨y,rfl⟩:=E0 hk hj;have:=bF (h1.2 j _ hj);rw[this];exact .v y
 |false=>
  rw[ha]at h;simp only[cond_false,fU]at h |-;cases hc:(cellsOf k x)[0]? with
  |none=>exact .any _
  |some s=>
   rw[hc]at h;obtain⟨y,rfl⟩:=E0 hk hc;have:=bF h;rw[this];exact .v y
theorem RowAt.over {k:Tag}{l:List k.T}{o:Nat}{cs:Array Value}(h:RowAt F own w k l o cs)(hc:(∀ b,¬bM F own b->¬bM F' own' b)\/rank k=0):RowAt F' own' w k l o cs:=fun i x hi j s hj=>by
 obtain⟨u,h1,h2⟩:=h i x hi j s hj;refine⟨u,h1,?_⟩;rcases hc with hc|hk
 ·exact h2.over (rl hj) hc
 ·obtain⟨y,rfl⟩:=E0 hk hj;have:=bF h2;rw[this];exact .v y
theorem RowRel.over {k:Tag}{l:List k.T}{v:Value}{bs:List Nat}(h:RowRel F own w k l v bs)(hc:(∀ b,¬bM F own b->¬bM F' own' b)\/rank k=0):RowRel F' own' w k l v bs:=by
 rcases h with h| ⟨b,o,cap,cs,ty,h1,h2,h3,h4,h5,h6,h7⟩
 ·exact .inl h
 ·exact .inr ⟨b,o,cap,cs,ty,h1,h2,h3,h4,h5,h6,h7.over hc⟩
theorem GridIn.over {k:Tag}(hc:(∀ b,¬bM F own b->¬bM F' own' b)\/rank k=0):∀ {l:List (List k.T)} {vs:List Value} {bs:List Nat},GridIn F own w k l vs bs->GridIn F' own' w k l vs bs
 | [],[],bs,h=>h
 |l::ls,v::vs,bs,⟨b1,b2,h1,h0,h2,h3⟩ =>⟨b1,b2,h1,h0,h2.over hc,h3.over hc⟩
 | [],_::_,_,h=>h.elim
 |_::_,[],_,h=>h.elim
def GG (o:Ob):Prop:=(∃ (k:Tag) (l:List k.T),o=.row k l)\/(∃ (k k2:Tag) (l:List (k.T×k2.T)),o=.mp k k2 l none)\/∃ (k:Tag) (l:List (List k.T)),o=.grid k l
def Sa (o:Ob):Prop:=match o with
 | .row k _=>rank k=0
 | .mp k k2 _ _=>rank k=0/\rank k2=0
 | .grid k _=>rank k=0
 |_=>False
theorem ObRel.over {hd:Hd}{o:Ob}(ho:GG o)(h:ObRel F own w hd o)(hc:(∀ b,¬bM F own b->¬bM F' own' b)\/Sa o):ObRel F' own' w hd o:=by
 rcases ho with⟨k,l,rfl⟩ | ⟨k,k2,l,rfl⟩ | ⟨k,l,rfl⟩
 ·exact RowRel.over h hc
 ·obtain⟨b,es,clk,h1,h2,h3,h4,h5,h6⟩:=h;refine⟨b,es,clk,h1,h2,h3,⟨h4.1,fun i x hi=>?_⟩,h5,trivial⟩;obtain⟨e,e1,e2,e3,e4⟩:=h4.2 i x hi;refine⟨e,e1,e2,?_,?_⟩
  ·rcases hc with hc|hk
   ·exact e3.over (uj _ _) hc
   ·exact DY hk.1 e3
  ·rcases hc with hc|hk
   ·exact e4.over (uj _ _) hc
   ·exact DY hk.2 e4
 ·rcases h with h| ⟨b,o,cap,cs,ty,bs,h1,h2,h3,h4,h5,h6,h7,h8,h9⟩
  ·exact .inl h
  ·exact .inr ⟨b,o,cap,cs,ty,bs,h1,h2,h3,h4,h5,h6,h7,h8,h9.over hc⟩
theorem yn:∀ (n:Nat) (s:SV) (o:Ob),o∈aJ n s->GG o/\(g8 n s=true->Sa o):=by
 intro n;induction n with
 |zero=>
  intro s o h;cases s <;>simp[aJ]at h <;>subst h
  ·exact⟨.inl ⟨_,_,rfl⟩,fun hs=>Nat.eq_of_beq_eq_true hs⟩
  ·exact⟨.inr (.inl ⟨_,_,_,rfl⟩),fun hs=>by simp only[g8,Bool.and_eq_true]at hs;exact⟨Nat.eq_of_beq_eq_true hs.1,Nat.eq_of_beq_eq_true hs.2⟩⟩
  ·exact⟨.inr (.inr ⟨_,_,rfl⟩),fun hs=>Nat.eq_of_beq_eq_true hs⟩
 |succ n ih=>
  intro s o h;cases s with
  |nw k l=>simp[aJ]at h;subst h;exact⟨.inl ⟨_,_,rfl⟩,fun hs=>Nat.eq_of_beq_eq_true hs⟩
  |nm k k2 l=>simp[aJ]at h;subst h;exact⟨.inr (.inl ⟨_,_,_,rfl⟩),fun hs=>by simp only[g8,Bool.and_eq_true]at hs;exact⟨Nat.eq_of_beq_eq_true hs.1,Nat.eq_of_beq_eq_true hs.2⟩⟩
  |ng k l=>simp[aJ]at h;subst h;exact⟨.inr (.inr ⟨_,_,rfl⟩),fun hs=>Nat.eq_of_beq_eq_true hs⟩
  |agg l=>
   simp only[aJ,List.mem_flatMap]at h;obtain⟨x,hx,h⟩:=h;exact⟨(ih x o h).1,fun hs=>(ih x o h).2 (by simp only[g8,List.all_eq_true]at hs;exact hs x hx)⟩
  |tup l=>
   simp only[aJ,List.mem_flatMap]at h;obtain⟨x,hx,h⟩:=h;exact⟨(ih x o h).1,fun hs=>(ih x o h).2 (by simp only[g8,List.all_eq_true]at hs;exact hs x hx)⟩
  |_=>simp[aJ]at h
theorem GH {h:List Ob}{id:Nat}(hd:co (al h id)=false):al h id∈h:=by
 rw[qP]at hd |-;cases hg:h[id]? with
 |none=>rw[hg]at hd;simp[co]at hd
 |some o=>exact List.mem_of_getElem? hg
theorem sJ {α:Type}:∀ {l:List α} {i j:Nat} {x:α},l.Nodup->l[i]? =some x->l[j]? =some x->i=j
 | [],i,j,x,_,h,_=>by simp at h
 |a::r,0,0,x,_,_,_=>rfl
 |a::r,0,j+1,x,hn,h1,h2=>by
  simp at h1 h2;subst h1;rw[List.nodup_cons]at hn;exact absurd (List.mem_of_getElem? h2) hn.1
 |a::r,i+1,0,x,hn,h1,h2=>by
  simp at h1 h2;subst h2;rw[List.nodup_cons]at hn;exact absurd (List.mem_of_getElem? h1) hn.1
 |a::r,i+1,j+1,x,hn,h1,h2=>by
  simp at h1 h2;rw[List.nodup_cons]at hn;rw[sJ hn.2 h1 h2]
theorem zU {h:List Ob}(hp:Hp F own w h){s:SV}{u:Value}{F1:Nat->Prop}(hF1:(∀ b,F1 b↔bM F own b)\/((∀ b,F1 b↔F b)/\g8 3 s=true))(hb:Below w.heap.size w w')(hh:Handed F1 w own' w' s u):
  ∃ own2,Hp F own2 w' (h++aJ 3 s)/\Fr { w:=w,own:=own} own2 w'/\Rel F own2 w' (ig 3 h.length s) u/\∀ id,id<h.length->own2 id=own id:=by
 have hFF:∀ b,F b->F1 b:=fun b hf=>by
  rcases hF1 with h1| ⟨h1,_⟩
  ·exact(h1 b).2 (.inl hf)
  ·exact(h1 b).2 hf
 let own2:Own:=fun id=>if id<h.length then own id else own' (id - h.length)
 have o1:∀ id hd,own2 id=some hd->(id<h.length/\own id=some hd)\/(h.length<=id/\own' (id - h.length)=some hd):=fun id hd e=>by
  simp only[own2]at e;split at e
  ·rename_i hlt;exact .inl ⟨hlt,e⟩
  ·rename_i hlt;exact .inr ⟨by omega,e⟩
 have o2:∀ id hd,own id=some hd->own2 id=some hd:=fun id hd e=>by
  simp only[own2];rw[if_pos (hp.dom id hd e)];exact e
 have o3:∀ id hd,own' id=some hd->own2 (id+h.length)=some hd:=fun id hd e=>by
  simp only[own2];rw[if_neg (by omega),Nat.add_sub_cancel];exact e
 have fr:Fr { w:=w,own:=own} own2 w':=Fr.of_step (fun id hd e=>⟨hd,o2 id hd e,.refl _⟩) (fun id hd b e hbb=>by
   rcases o1 id hd e with⟨_,e⟩ | ⟨_,e⟩
   ·exact .inl ⟨id,hd,e,hbb⟩
   ·exact .inr (hh.fresh _ hd b e hbb)) (fun b hbl _=>hb.block b hbl) hb.size hb.os hb.tape hb.output
 have g:Goes F own w own2 w':=fr.goes;have hkeep:(∀ b,¬bM F1 own' b->¬bM F own2 b)\/g8 3 s=true:=by
  rcases hF1 with h1| ⟨_,h2⟩
  ·left;rintro b hn (hf| ⟨id,hd,e,hbb⟩)
   ·exact hn (.inl (hFF b hf))
   ·rcases o1 id hd e with⟨_,e⟩ | ⟨_,e⟩
    ·exact hn (.inl ((h1 b).2 (.inr ⟨id,hd,e,hbb⟩)))
    ·exact hn (.inr ⟨_,hd,e,hbb⟩)
  ·exact .inr h2
 refine⟨own2,⟨fun id hd e=>?_,fun b hf=>Nat.lt_of_lt_of_le (hp.foreign b hf) hb.size,fun id hd b e hbb=>?_,fun i j hi hj b e1 e2 hb1 hb2=>?_,fun id hd b e hbb=>?_,fun id hdd=>?_⟩,fr,?_,fun id hlt=>by simp only[own2];rw[if_pos hlt]⟩
 ·rcases o1 id hd e with⟨hlt,_⟩ | ⟨hge,e⟩
  ·rw[List.length_append];omega
  ·have:=hh.hp.dom _ hd e;rw[List.length_append];omega
 ·rcases o1 id hd e with⟨_,e⟩ | ⟨_,e⟩
  ·exact hp.apart id hd b e hbb
  ·exact fun hf=>hh.hp.apart _ hd b e hbb (hFF b hf)
 ·rcases o1 i hi e1 with⟨l1,e1⟩ | ⟨l1,e1⟩ <;>rcases o1 j hj e2 with⟨l2,e2⟩ | ⟨l2,e2⟩
  ·exact hp.inj i j hi hj b e1 e2 hb1 hb2
  ·have:=hp.lt i hi b e1 hb1;have:=hh.fresh _ hj b e2 hb2;omega
  ·have:=hp.lt j hj b e2 hb2;have:=hh.fresh _ hi b e1 hb1;omega
  ·have:=hh.hp.inj _ _ hi hj b e1 e2 hb1 hb2;omega
 ·rcases o1 id hd e with⟨_,e⟩ | ⟨_,e⟩
  ·exact Nat.lt_of_lt_of_le (hp.lt id hd b e hbb) hb.size
  ·exact hh.hp.lt _ hd b e hbb
 ·rw[re]at hdd |-;by_cases hlt:id<h.length
  ·rw[if_pos hlt]at hdd |-;obtain⟨hd,e1,e2⟩:=hp.obs id hdd;exact⟨hd,o2 id hd e1,e2.carry g.carries hb.size fun b hbb=>hb.block b (hp.lt id hd b e1 hbb)⟩
  ·rw[if_neg hlt]at hdd |-;obtain⟨hd,e1,e2⟩:=hh.hp.obs _ hdd;obtain⟨q1,q2⟩:=yn 3 s _ (GH hdd);have e3:=o3 _ hd e1;rw[Nat.sub_add_cancel (by omega)]at e3;exact⟨hd,e3,e2.over q1 (hkeep.imp (fun h=>h) q2)⟩
 ·have:=B2 (F':=F) (own2:=own2) (m:=h.length) o3 3 0 s u hh.val (hkeep.imp (fun hk c hc=>hk c fun ho=>hc (.inl ho)) id)
  rwa[Nat.zero_add]at this
theorem E1 {G:Cons}(hG:ConsOk P G){h:List Ob}(hp:Hp F own w h){f:FuncId}{args:List SV}{vs:Array Value}(hr:RelL F own w args vs){c:Con}(hc:G.p f (args.map (eW h 6))=some c)(hpre:an c)
  (hres:args.all (b_ 3)=true\/∀ s,di c s->g8 3 s=true):
  (callFunc f vs).run P w=.ok (.enter f vs) w/\Calls P f vs w (fun e w'=>(∃ s u own2,di c s/\e=.returned u/\Hp F own2 w' (h++aJ 3 s)/\Fr { w:=w,own:=own} own2 w'/\Rel F own2 w' (ig 3 h.length s) u/\Below w.heap.size w w'/\∀ id,id<h.length->own2 id=own id)\/(∃ x,mG c x/\e=.panicked [{ v:=x,recovered:=false}]/\Below w.heap.size w w')):=by
 refine⟨(hG.p f).enter _ c hc vs w,?_⟩;rcases hres with hnp|hsc
 ·have hpf:∀ (j:Nat) (s:SV),args[j]? =some s->PF s:=fun j s hj=>by
   rw[List.all_eq_true]at hnp;exact iy 3 s (hnp s (List.mem_of_getElem? hj))
  refine((hG.p f).calls _ c hc hpre (bM F own) w vs (fun b hb=>?_) ⟨by simpa using hr.1,fun j s hj=>?_⟩).mono ?_
  ·rcases hb with hf| ⟨id,hd,e,hbb⟩
   ·exact hp.foreign b hf
   ·exact hp.lt id hd b e hbb
  ·obtain⟨x,hx,rfl⟩:=ca hj;exact Nc 6 x _ (hpf j x hx) (hr.2 j x hx)
  ·rintro e w' (⟨s,u,own',h1,h2,h3,h4⟩ |hp')
   ·obtain⟨own2,q1,q2,q3,q4⟩:=zU hp (.inl fun b=>Iff.rfl) h4 h3;exact .inl ⟨s,u,own2,h1,h2,q1,q2,q3,h4,q4⟩
   ·exact .inr hp'
 ·refine((hG.p f).calls _ c hc hpre F w vs hp.foreign ⟨by simpa using hr.1,fun j s hj=>?_⟩).mono ?_
  ·obtain⟨x,hx,rfl⟩:=ca hj;exact vt hp 6 x _ (hr.2 j x hx)
  ·rintro e w' (⟨s,u,own',h1,h2,h3,h4⟩ |hp')
   ·obtain⟨own2,q1,q2,q3,q4⟩:=zU hp (.inr ⟨fun b=>Iff.rfl,hsc s h1⟩) h4 h3;exact .inl ⟨s,u,own2,h1,h2,q1,q2,q3,h4,q4⟩
   ·exact .inr hp'
theorem qw:∀ (ids:List Nat) (id k:Nat),xF id ids=some k->ids[k]? =some id
 | [],id,k,h=>by simp[xF]at h
 |a::r,id,k,h=>by
  simp only[xF]at h;cases hb:Nat.beq a id with
  |true=>rw[hb]at h;simp at h;subst h;rw[Nat.eq_of_beq_eq_true hb];rfl
  |false=>
   rw[hb]at h;simp only[cond_false]at h;cases hp:xF id r with
   |none=>rw[hp]at h;cases h
   |some j=>rw[hp]at h;simp at h;subst h;simpa using qw r id j hp
theorem wG (n:Nat):∀ l:List Nat,AK n l=true↔n∈l
 | [] =>by simp[AK]
 |m::r=>by
  simp only[AK];cases hb:Nat.beq m n with
  |true=>have:=Nat.eq_of_beq_eq_true hb;simp[this]
  |false=>
   have:m≠n:=fun e=>by rw[e]at hb;simp at hb
   simp only[cond_false,wG n r,List.mem_cons];constructor
   ·exact .inr
   ·rintro (e|e)
    ·exact absurd e.symm this
    ·exact e
theorem rq (h:List Ob):∀ (n:Nat) (todo acc:List Nat),acc.Nodup->(reach h n todo acc).Nodup
 |0,_,acc,hn=>hn
 |n+1,[],acc,hn=>hn
 |n+1,id::todo,acc,hn=>by
  simp only[reach];cases hm:AK id acc with
  |true=>exact rq h n _ _ hn
  |false=>
   refine rq h n _ _ ?_;rw[List.nodup_append];refine⟨hn,by simp,fun a ha b hb=>?_⟩;simp at hb;subst hb;rintro rfl;have:=(wG a acc).2 ha;rw[this]at hm;cases hm
structure Rn (m:Nat->Option Nat)(own own':Own):Prop where
 ids:∀ i j hd,m i=some j->own i=some hd->∃ hd',own' j=some hd'/\hd.like hd'
theorem Bb {m:Nat->Option Nat}(hm:Rn m own own')(ho:∀ b,¬bM F own b->¬bM F' own' b):∀ (n:Nat) (s:SV) (v:Value),Rel F own w s v->Rel F' own' w (ren m n s) v:=by
 have base:∀ (n:Nat) (s:SV) (v:Value),Rel F own w s v->(∀ l o,s≠ .ep l o)->(∀ l,s≠ .ls l)->(∀ l,s≠ .agg l)->(∀ l,s≠ .tup l)->(∀ f l m,s≠ .fn f l m)->Rel F' own' w (ren m n s) v:=by
  intro n s v hr n1 n2 n3 n4 n5;have hid:∀ {id:Nat} {hd:Hd} {f:Nat->SV} {v:Value},own id=some hd->(∀ j hd',own' j=some hd'->hd.like hd'->Rel F' own' w (f j) v)->Rel F' own' w (yK f (m id)) v:=by
   intro id hd f v h1 h2;cases hm':m id with
   |none=>exact .any _
   |some j=>
    obtain⟨hd',e1,e2⟩:=hm.ids id j hd hm' h1;exact h2 j hd' e1 e2
  cases hr with
  |any=>cases n <;>exact .any _
  |v x=>cases n <;>exact .v _
  |ptr h1 h2=>cases n <;>exact hid h1 fun j hd' e1 e2=>.ptr e1 (e2.1.trans h2)
  |os h1 h2=>cases n <;>exact hid h1 fun j hd' e1 e2=>by rw[<-e2.2.1]at h2 |-;exact .os e1 h2
  |e0=>cases n <;>exact .e0
  |rc h0=>cases n <;>exact .rc (h0.over .rs ho)
  |rp h1 h2 h3=>cases n <;>exact hid h1 fun j hd' e1 e2=>.rp e1 (e2.2.1.trans h2) h3
  |gr h1 h2 h3=>cases n <;>exact hid h1 fun j hd' e1 e2=>.gr e1 (by rw[e2.2.2];exact h2) h3
  |vw h1 h2 h3=>cases n <;>exact hid h1 fun j hd' e1 e2=>.vw e1 (by rw[e2.2.1];exact h2) h3
  |gp h1 h2 h3=>cases n <;>exact hid h1 fun j hd' e1 e2=>.gp e1 (by rw[e2.2.2];exact h2) h3
  |ep=>exact absurd rfl (n1 _ _)
  |rs c h0 h0' h1 h2=>cases n <;>exact Rel.over (.rs c h0 h0' h1 h2) .rs ho
  |rs0=>cases n <;>exact .rs0
  |ls=>exact absurd rfl (n2 _)
  |rm ck cv es clock h0 h1 h2 h3 h4 h5=>cases n <;>exact Rel.over (.rm ck cv es clock h0 h1 h2 h3 h4 h5) .rm ho
  |rm0=>cases n <;>exact .rm0
  |agg=>exact absurd rfl (n3 _)
  |tup=>exact absurd rfl (n4 _)
  |fn=>exact absurd rfl (n5 _ _ _)
 intro n;induction n with
 |zero=>
  intro s v hr;cases s <;>first|exact .any _|(refine base 0 _ _ hr ?_ ?_ ?_ ?_ ?_ <;>intros <;>(intro e;cases e)) |cases hr
 |succ n ih=>
  intro s v hr;cases s with
  |ep l o=>
   cases hr with
   |ep c h1 h2=>
    simp only[ren];exact .ep c (fun j s hj=>by obtain⟨x,hx,rfl⟩:=ca hj;exact⟨ho _ (h1 j x hx).1,(h1 j x hx).2⟩) (fun j s hj=>by obtain⟨x,hx,rfl⟩:=ca hj;exact ih x _ (h2 j x hx))
  |ls l=>
   cases hr with
   |ls c h0 h1 h2=>
    simp only[ren];have:=Rel.ls (F:=F') (own:=own') (w:=w) (l:=l.map (ren m n)) c (by simpa using h0) (fun j s hj=>by obtain⟨x,hx,rfl⟩:=ca hj;exact⟨ho _ (h1 j x hx).1,(h1 j x hx).2⟩) (fun j s hj=>by obtain⟨x,hx,rfl⟩:=ca hj;exact ih x _ (h2 j x hx));simpa using this
  |agg l=>cases hr with|agg h0 h1=>simp only[ren];exact .agg (by simpa using h0) fun j s hj=>by obtain⟨x,hx,rfl⟩:=ca hj;exact ih x _ (h1 j x hx)
  |tup l=>cases hr with|tup h0 h1=>simp only[ren];exact .tup (by simpa using h0) fun j s hj=>by obtain⟨x,hx,rfl⟩:=ca hj;exact ih x _ (h1 j x hx)
  |fn f l l2=>cases hr with|fn h0 h0' h1 h2=>simp only[ren];exact .fn (by simpa using h0) (by simpa using h0') (fun j s hj=>by obtain⟨x,hx,rfl⟩:=ca hj;exact ih x _ (h1 j x hx)) fun j s hj=>by obtain⟨x,hx,rfl⟩:=ca hj;exact ih x _ (h2 j x hx)
  |_=>first|(refine base (n+1) _ _ hr ?_ ?_ ?_ ?_ ?_ <;>intros <;>(intro e;cases e)) |cases hr
theorem B4 {m:Nat->Option Nat}(hm:Rn m own own')(ho:∀ b,¬bM F own b->¬bM F' own' b)(ho2:∀ b,b<w.heap.size->bM F' own' b->bM F own b){hd:Hd}{o:Ob}(h:ObRel F own w hd o):ObRel F' own' w hd (ve m o):=by
 cases o with
 |cells l=>obtain⟨b,cs,ty,h1,h2,h3,h4,h5⟩:=h;exact⟨b,cs,ty,h1,h2,h3,by simpa using h4,fun j s hj=>by obtain⟨x,hx,rfl⟩:=ca hj;exact Bb hm ho 3 x _ (h5 j x hx)⟩
 |dead=>trivial
 |row k l=>exact RowRel.over h (.inl ho)
 |mp kk vk l pend=>
  obtain⟨b,es,clk,h1,h2,h3,h4,h5,h6⟩:=h;have h4':MpAt F' own' w kk vk (dL kk vk l pend) es:=⟨h4.1,fun i x hi=>by
   obtain⟨e,e1,e2,e3,e4⟩:=h4.2 i x hi;exact⟨e,e1,e2,e3.over (uj _ _) ho,e4.over (uj _ _) ho⟩⟩
  match pend,h4',h6 with
  |none,h4',_=>exact⟨b,es,clk,h1,h2,h3,h4',h5,trivial⟩
  |some (i,none),h4',h6=>
   show ObRel F' own' w hd (H8 kk vk l none (m i));cases hmi:m i with
   |none=>exact⟨b,es,clk,h1,h2,h3,h4',h5,trivial⟩
   |some k=>
    obtain⟨hd2,t1,t2⟩:=h6;obtain⟨hd3,e1,e2⟩:=hm.ids i k hd2 hmi t1;exact⟨b,es,clk,h1,h2,h3,h4',h5,hd3,e1,e2.2.2.trans t2⟩
  |some (i,some x),h4',h6=>
   show ObRel F' own' w hd (H8 kk vk l (some x) (m i));cases hmi:m i with
   |none=>exact fun j hj=>by cases hj
   |some k=>
    obtain⟨hd2,e,t1,t2,t3⟩:=h6;obtain⟨hd3,e1,e2⟩:=hm.ids i k hd2 hmi t1;exact⟨b,es,clk,h1,h2,h3,h4',h5,hd3,e,e1,t2,e2.2.1.trans t3⟩
 |grid k l=>
  rcases h with h| ⟨b,o,cap,cs,ty,bs,h1,h2,h3,h4,h5,h6,h7,h8,h9⟩
  ·exact .inl h
  ·exact .inr ⟨b,o,cap,cs,ty,bs,h1,h2,h3,h4,h5,h6,h7,h8,h9.over (.inl ho)⟩
 |ab r=>
  refine⟨h.1,r.loc _ _ _ w w h.2 (Nat.le_refl _) (fun b hbl hn=>rfl) (fun b hbl hn=>⟨ho2 b hbl hn.1,hn.2⟩)⟩
 |raw o=>exact h
 |mi mid n left cur=>
  obtain⟨b,h1,h2,h3⟩:=h;refine⟨b,h1,h2,fun j hj=>?_⟩;cases mid with
  |none=>cases hj
  |some i=>
   obtain⟨hdm,bm,seen,c0,ss,k1,k2,k3,k4⟩:=h3 i rfl;obtain⟨hd',e1,e2⟩:=hm.ids i j hdm hj k1;exact⟨hd',bm,seen,c0,ss,e1,e2.2.1.trans k2,k3,k4⟩
 |fwd n=>
  cases n with
  |none=>intro j hj;cases hj
  |some i=>
   intro j hj;obtain⟨hd2,k1,k2,k3⟩:=h i rfl;obtain⟨hd',e1,e2⟩:=hm.ids i j hd2 hj k1;exact⟨hd',e1,e2.2.1.trans k2,k3⟩
 |fz k l=>exact Rel.over h .rs ho
theorem vz (m:Nat->Option Nat)(o:Ob):co (ve m o)=co o:=by
 cases o with
 |mp kk vk l p=>
  match p with
  |none=>rfl
  |some (i,q) =>
   show co (H8 kk vk l q (m i))=false;cases q <;>cases m i <;>rfl
 |_=>rfl
theorem PZ {h:List Ob}(hp:Hp F own w h)(ids:List Nat)(hn:ids.Nodup):
  ∃ (Fm:Nat->Prop) (om:Own),Hp Fm om w (su h ids)/\(∀ b,bM Fm om b↔bM F own b)/\Rn (inN ids) own om/\(∀ b,Fm b↔(F b\/∃ id hd,id ∉ ids/\own id=some hd/\b∈hd.bs))/\(∀ k id,ids[k]? =some id->om k=own id)/\(∀ k,ids.length<=k->om k=none):=by
 let om:Own:=fun k=>match ids[k]? with|some id=>own id|none=>none
 let Fm:Nat->Prop:=fun b=>F b\/∃ id hd,id ∉ ids/\own id=some hd/\b∈hd.bs
 have o1:∀ k id,ids[k]? =some id->om k=own id:=fun k id e=>by simp only[om,e]
 have o2:∀ k,ids.length<=k->om k=none:=fun k e=>by simp only[om,List.getElem?_eq_none e]
 have o3:∀ k hd,om k=some hd->∃ id,ids[k]? =some id/\own id=some hd:=fun k hd e=>by
  simp only[om]at e;split at e
  ·rename_i id hid;exact⟨id,hid,e⟩
  ·cases e
 have inj:∀ i j id,ids[i]? =some id->ids[j]? =some id->i=j:=fun i j id e1 e2=>sJ hn e1 e2;have hB:∀ b,bM Fm om b↔bM F own b:=fun b=>by
  constructor
  ·rintro ((hf| ⟨id,hd,_,e,hbb⟩) | ⟨k,hd,e,hbb⟩)
   ·exact .inl hf
   ·exact .inr ⟨id,hd,e,hbb⟩
   ·obtain⟨id,_,e2⟩:=o3 k hd e;exact .inr ⟨id,hd,e2,hbb⟩
  ·rintro (hf| ⟨id,hd,e,hbb⟩)
   ·exact .inl (.inl hf)
   ·by_cases hm:id∈ids
    ·obtain⟨k,hk⟩:=List.getElem?_of_mem hm;exact .inr ⟨k,hd,by rw[o1 k id hk];exact e,hbb⟩
    ·exact .inl (.inr ⟨id,hd,hm,e,hbb⟩)
 have rn:Rn (inN ids) own om:=⟨fun i j hd hm e=>⟨hd,by rw[o1 j i (qw ids i j hm)];exact e,.refl _⟩⟩;refine⟨Fm,om,⟨fun k hd e=>?_,fun b hf=>?_,fun k hd b e hbb=>?_,fun i j hi hj b e1 e2 hb1 hb2=>?_,fun k hd b e hbb=>?_,fun k hdd=>?_⟩,hB,rn,fun b=>Iff.rfl,o1,o2⟩
 ·obtain⟨id,e1,_⟩:=o3 k hd e;simp only[su,List.length_map];exact(List.getElem?_eq_some_iff.1 e1).1
 ·rcases hf with hf| ⟨id,hd,_,e,hbb⟩
  ·exact hp.foreign b hf
  ·exact hp.lt id hd b e hbb
 ·obtain⟨id,e1,e2⟩:=o3 k hd e;rintro (hf| ⟨id',hd',hn',e',hbb'⟩)
  ·exact hp.apart id hd b e2 hbb hf
  ·exact hn' (hp.inj id' id hd' hd b e' e2 hbb' hbb▸List.mem_of_getElem? e1)
 ·obtain⟨id1,q1,q2⟩:=o3 i hi e1;obtain⟨id2,q3,q4⟩:=o3 j hj e2;have:=hp.inj id1 id2 hi hj b q2 q4 hb1 hb2;subst this;exact inj i j id1 q1 q3
 ·obtain⟨id,e1,e2⟩:=o3 k hd e;exact hp.lt id hd b e2 hbb
 ·have hk:∃ id,ids[k]? =some id/\al (su h ids) k=ve (inN ids) (al h id):=by
   rw[qP]at hdd |-;simp only[su,List.getElem?_map]at hdd |-;cases hid:ids[k]? with
   |none=>rw[hid]at hdd;simp[co]at hdd
   |some id=>exact⟨id,rfl,rfl⟩
  obtain⟨id,hid,ho⟩:=hk;rw[ho]at hdd |-;rw[vz]at hdd;obtain⟨hd,e1,e2⟩:=hp.obs id hdd;exact⟨hd,by rw[o1 k id hid];exact e1,B4 rn (fun b hb hb2=>hb ((hB b).1 hb2)) (fun b _ hb2=>(hB b).1 hb2) e2⟩
theorem rt {ids:List Nat}{b k:Nat}(hk:k<ids.length):ids[k]? =some (kM ids b k):=by
 unfold kM;rw[fU,List.getElem?_eq_getElem hk]
theorem sT {ids:List Nat}{b k:Nat}(hk:ids.length<=k):kM ids b k=b+(k - ids.length):=by
 unfold kM;rw[fU,List.getElem?_eq_none hk]
theorem Nf (ids:List Nat)(b k:Nat):sb ids b k=some (kM ids b k):=by
 unfold sb kM;rw[fU];cases ids[k]? <;>rfl
theorem LJ {ids:List Nat}(hn:ids.Nodup){b:Nat}(hb:∀ id∈ids,id<b){i j:Nat}(h:kM ids b i=kM ids b j):i=j:=by
 rcases Nat.lt_or_ge i ids.length with hi|hi <;>rcases Nat.lt_or_ge j ids.length with hj|hj
 ·have e1:=rt (b:=b) hi;have e2:=rt (b:=b) hj;rw[h]at e1;exact sJ hn e1 e2
 ·have e1:=hb _ (List.mem_of_getElem? (rt (b:=b) hi));rw[h,sT hj]at e1;omega
 ·have e1:=hb _ (List.mem_of_getElem? (rt (b:=b) hj));rw[<-h,sT hi]at e1;omega
 ·rw[sT hi,sT hj]at h;omega
theorem B5 {ids:List Nat}(hn:ids.Nodup){b:Nat}(hb:∀ id∈ids,id<b):∀ (os:List Ob) (h:List Ob) (k:Nat),b<=h.length->(ids.length<=k->h.length=b+(k - ids.length))->(k<ids.length->h.length=b)->
  (∀ i,k<=i->i<k+os.length->al (nM ids b h k os) (kM ids b i)=ve (sb ids b) (al os (i - k)))/\
  (∀ id,(∀ i,k<=i->i<k+os.length->kM ids b i≠id)->al (nM ids b h k os) id=al h id)/\h.length<=(nM ids b h k os).length/\(∀ i,k<=i->i<k+os.length->kM ids b i< (nM ids b h k os).length)
 | [],h,k,_,_,_=>⟨fun i h1 h2=>by simp at h2;omega,fun id _=>rfl,Nat.le_refl _,fun i h1 h2=>by simp at h2;omega⟩
 |o::r,h,k,hlen,hge,hlt=>by
  simp only[nM];have hstep:(aW h (kM ids b k) (ve (sb ids b) o)).length=(if k<ids.length then h.length else h.length+1)/\kM ids b k< (aW h (kM ids b k) (ve (sb ids b) o)).length:=by
   rcases Nat.lt_or_ge k ids.length with hk|hk
   ·have:=hb _ (List.mem_of_getElem? (rt (b:=b) hk));rw[bC,if_pos (by omega),if_pos hk];omega
   ·rw[bC,sT hk,if_neg (by have:=hge hk;omega),if_neg (by omega)];have:=hge hk;omega
  have hlen':b<=(aW h (kM ids b k) (ve (sb ids b) o)).length:=by rw[hstep.1];split <;>omega
  obtain⟨q1,q2,q3,q4⟩:=B5 hn hb r (aW h (kM ids b k) (ve (sb ids b) o)) (k+1) hlen' (fun hk=>by
    rw[hstep.1];split
    ·rename_i hk';rw[hlt hk'];omega
    ·rename_i hk';rw[hge (by omega)];omega) (fun hk=>by rw[hstep.1,if_pos (by omega)];exact hlt (by omega))
  have hne:∀ i,k+1<=i->kM ids b i≠kM ids b k:=fun i hi e=>by have:=LJ hn hb e;omega
  refine⟨fun i h1 h2=>?_,fun id hid=>?_,Nat.le_trans (by rw[hstep.1];split <;>omega) q3,fun i h1 h2=>?_⟩
  ·by_cases hik:i=k
   ·subst hik;rw[q2 _ (fun j hj _=>hne j hj),b4,if_pos rfl,Nat.sub_self];rfl
   ·rw[q1 i (by omega) (by simp at h2;omega),show i - k=(i - (k+1))+1 by omega];rfl
  ·rw[q2 id (fun i h1 h2=>hid i (by omega) (by simp;omega)),b4,if_neg (hid k (Nat.le_refl _) (by simp))]
  ·by_cases hik:i=k
   ·subst hik;exact Nat.lt_of_lt_of_le hstep.2 q3
   ·exact q4 i (by omega) (by simp at h2;omega)
theorem DZ {h:List Ob}(hp:Hp F own w h){ids:List Nat}(hn:ids.Nodup)(hids:∀ id∈ids,id<h.length){Fm:Nat->Prop}{om om':Own}(hpm:Hp Fm om w (su h ids))(hB:∀ b,bM Fm om b↔bM F own b)(hFm:∀ b,Fm b↔(F b\/∃ id hd,id ∉ ids/\own id=some hd/\b∈hd.bs))(ho1:∀ k id,ids[k]? =some id->om k=own id)
  {h':List Ob} (hp':Hp Fm om' w' h') (fr:Fr { w:=w,own:=om} om' w') (hlen:ids.length<=h'.length):
  ∃ own2,Hp F own2 w' (nM ids h.length h 0 h')/\Fr { w:=w,own:=own} own2 w'/\∀ s v,Rel Fm om' w' s v->Rel F own2 w' (ren (sb ids h.length) 3 s) v:=by
 let L:=h.length
 let own2:Own:=fun id=>match xF id ids with|some k=>om' k|none=>if L<=id then om' (ids.length+(id - L))else own id
 have posN_of:∀ k id,ids[k]? =some id->xF id ids=some k:=by
  intro k id e;cases hpn:xF id ids with
  |none=>
   exfalso;have:∀ (l:List Nat),id∈l->xF id l≠none:=by
    intro l;induction l with
    |nil=>intro h;cases h
    |cons a r ih=>
     intro hm;simp only[xF];cases hb:Nat.beq a id with
     |true=>simp
     |false=>
      simp only[cond_false];have:id∈r:=by
       rcases List.mem_cons.1 hm with e|e
       ·rw[e]at hb;simp at hb
       ·exact e
      cases hr:xF id r with
      |none=>exact absurd hr (ih this)
      |some j=>simp
   exact this ids (List.mem_of_getElem? e) hpn
  |some j=>
   have e2:=qw ids id j hpn;rw[sJ hn e e2]
 have b1:∀ k,own2 (kM ids L k)=om' k:=by
  intro k;rcases Nat.lt_or_ge k ids.length with hk|hk
  ·have:=posN_of k _ (rt (b:=L) hk);simp only[own2,this]
  ·have hge:=sT (b:=L) hk;have hnone:xF (kM ids L k) ids=none:=by
    cases hpn:xF (kM ids L k) ids with
    |none=>rfl
    |some j=>
     have:=hids _ (List.mem_of_getElem? (qw ids _ j hpn));rw[hge]at this;simp only[L]at this;omega
   simp only[own2,hnone];rw[hge,if_pos (by omega)];congr 1;omega
 have b2:∀ id hd,own2 id=some hd->(∃ k,id=kM ids L k/\om' k=some hd)\/(id ∉ ids/\id<L/\own id=some hd):=by
  intro id hd e;simp only[own2]at e;split at e
  ·rename_i k hk;refine .inl ⟨k,?_,e⟩;have h1:=qw ids id k hk;have h2:=rt (b:=L) (List.getElem?_eq_some_iff.1 h1).1;rw[h1]at h2;simpa using h2
  ·rename_i hk;split at e
   ·rename_i hge;refine .inl ⟨ids.length+(id - L),?_,e⟩;rw[sT (by omega)];omega
   ·rename_i hge;refine .inr ⟨fun hm=>?_,by omega,e⟩;obtain⟨k,hk'⟩:=List.getElem?_of_mem hm;rw[posN_of k id hk']at hk;cases hk
 have b3:∀ id hd,id ∉ ids->own id=some hd->own2 id=some hd:=by
  intro id hd hm e;have hlt:=hp.dom id hd e;simp only[own2];split
  ·rename_i k hk;exact absurd (List.mem_of_getElem? (qw ids id k hk)) hm
  ·rw[if_neg (by simp only[L];omega)];exact e
 have hold:∀ b,b<w.heap.size->(¬ ∃ k hd,om k=some hd/\b∈hd.bs)->w'.heap[b]? =w.heap[b]?:=fun b hb hn=>fr.block b ⟨hb,hn⟩;have omB:∀ k hd b,om k=some hd->b∈hd.bs->∃ id hd',own id=some hd'/\b∈hd'.bs:=fun k hd b e hbb=>by
  rcases(hB b).1 (.inr ⟨k,hd,e,hbb⟩)with hf|ho
  ·exact absurd ((hFm b).2 (.inl hf)) (hpm.apart k hd b e hbb)
  ·exact ho
 have fr2:Fr { w:=w,own:=own} own2 w':=by
  refine Fr.of_step (fun id hd e=>?_) (fun id hd b e hbb=>?_) (fun b hb hno=>hold b hb fun⟨k,hd,e,hbb⟩ =>hno (omB k hd b e hbb)) fr.size fr.os fr.tape fr.output
  ·by_cases hm:id∈ids
   ·obtain⟨k,hk⟩:=List.getElem?_of_mem hm;obtain⟨hd',e1,e2⟩:=fr.ids k hd (by show om k=some hd;rw[ho1 k id hk];exact e);refine⟨hd',?_,e2⟩;simp only[own2,posN_of k id hk];exact e1
   ·exact⟨hd,b3 id hd hm e,.refl _⟩
  ·rcases b2 id hd e with⟨k,hk,e⟩ | ⟨_,_,e⟩
   ·rcases Nat.lt_or_ge b w.heap.size with hlt|hge
    ·left;have hno:=fr.base k hd b e hbb;have:∃ k2 hd2,om k2=some hd2/\b∈hd2.bs:=Classical.byContradiction fun hc=>hno ⟨hlt,hc⟩;obtain⟨k2,hd2,e2,hb2⟩:=this;exact omB k2 hd2 b e2 hb2
    ·exact .inr hge
   ·exact .inl ⟨id,hd,e,hbb⟩
 have rn:Rn (sb ids L) om' own2:=⟨fun i j hd hm e=>⟨hd,by
  rw[Nf]at hm;simp only[Option.some.injEq]at hm;rw[<-hm,b1];exact e,.refl _⟩⟩
 have k1:∀ b,¬bM Fm om' b->¬bM F own2 b:=by
  rintro b hno (hf| ⟨id,hd,e,hbb⟩)
  ·exact hno (.inl ((hFm b).2 (.inl hf)))
  ·rcases b2 id hd e with⟨k,_,e⟩ | ⟨hm,_,e⟩
   ·exact hno (.inr ⟨k,hd,e,hbb⟩)
   ·exact hno (.inl ((hFm b).2 (.inr ⟨id,hd,hm,e,hbb⟩)))
 have k2:∀ b,bM F own2 b->bM Fm om' b:=by
  rintro b (hf| ⟨id,hd,e,hbb⟩)
  ·exact .inl ((hFm b).2 (.inl hf))
  ·rcases b2 id hd e with⟨k,_,e⟩ | ⟨hm,_,e⟩
   ·exact .inr ⟨k,hd,e,hbb⟩
   ·exact .inl ((hFm b).2 (.inr ⟨id,hd,hm,e,hbb⟩))
 obtain⟨q1,q2,q3,q4⟩:=B5 hn hids h' h 0 (Nat.le_refl _) (fun hk=>by
   have:ids.length=0:=by omega
   omega) (fun _=>rfl)
 refine⟨own2,⟨fun id hd e=>?_,fun b hf=>Nat.lt_of_lt_of_le (hp.foreign b hf) fr.size,fun id hd b e hbb=>?_,fun i j hi hj b e1 e2 hb1 hb2=>?_,fun id hd b e hbb=>?_,fun id hdd=>?_⟩,fr2,fun s v hr=>Bb rn k1 3 s v hr⟩
 ·rcases b2 id hd e with⟨k,hk,e⟩ | ⟨_,hlt,_⟩
  ·rw[hk];exact q4 k (Nat.zero_le _) (by have:=hp'.dom k hd e;omega)
  ·exact Nat.lt_of_lt_of_le hlt q3
 ·rcases b2 id hd e with⟨k,_,e⟩ | ⟨_,_,e⟩
  ·exact fun hf=>hp'.apart k hd b e hbb ((hFm b).2 (.inl hf))
  ·exact hp.apart id hd b e hbb
 ·rcases b2 i hi e1 with⟨ki,hki,e1⟩ | ⟨m1,_,e1⟩ <;>rcases b2 j hj e2 with⟨kj,hkj,e2⟩ | ⟨m2,_,e2⟩
  ·rw[hki,hkj,hp'.inj ki kj hi hj b e1 e2 hb1 hb2]
  ·exact absurd ((hFm b).2 (.inr ⟨j,hj,m2,e2,hb2⟩)) (hp'.apart ki hi b e1 hb1)
  ·exact absurd ((hFm b).2 (.inr ⟨i,hi,m1,e1,hb1⟩)) (hp'.apart kj hj b e2 hb2)
  ·exact hp.inj i j hi hj b e1 e2 hb1 hb2
 ·rcases b2 id hd e with⟨k,_,e⟩ | ⟨_,_,e⟩
  ·exact hp'.lt k hd b e hbb
  ·exact Nat.lt_of_lt_of_le (hp.lt id hd b e hbb) fr.size
 ·by_cases hk:∃ k,k<h'.length/\kM ids L k=id
  ·obtain⟨k,hkl,rfl⟩:=hk;rw[q1 k (Nat.zero_le _) (by omega),Nat.sub_zero]at hdd |-;rw[vz]at hdd;obtain⟨hd,e1,e2⟩:=hp'.obs k hdd;exact⟨hd,by rw[b1];exact e1,B4 rn k1 (fun b _=>k2 b) e2⟩
  ·have hno:∀ i,0<=i->i<0+h'.length->kM ids L i≠id:=fun i _ hi e=>hk ⟨i,by omega,e⟩;rw[q2 id hno]at hdd |-;obtain⟨hd,e1,e2⟩:=hp.obs id hdd;have hm:id ∉ ids:=fun hm=>by
    obtain⟨k,hk'⟩:=List.getElem?_of_mem hm;have hkl:=(List.getElem?_eq_some_iff.1 hk').1;have:=rt (b:=L) hkl;rw[hk']at this;exact hk ⟨k,by omega,by simpa using this.symm⟩
   refine⟨hd,b3 id hd hm e1,e2.carry (fr2.goes (F:=F)).carries fr.size fun b hbb=>hold b (hp.lt id hd b e1 hbb) ?_⟩;rintro⟨k,hd',e',hb'⟩;exact hpm.apart k hd' b e' hb' ((hFm b).2 (.inr ⟨id,hd,hm,e1,hbb⟩))
theorem GI {G:Cons}(hG:ConsOk P G){h:List Ob}(hp:Hp F own w h){f:FuncId}{args:List SV}{vs:Array Value}(hr:RelL F own w args vs){ids:List Nat}(hn:ids.Nodup){c:HCon}(hc:G.o f (args.map (ren (inN ids) 6)) (su h ids)=some c)(hpre:c.pre)(hids:∀ id∈ids,id<h.length):
  (callFunc f vs).run P w=.ok (.enter f vs) w/\Calls P f vs w (fun e w'=>∃ r own2,c.post r/\match c.res r with
   | .ret s h'=>(∃ u,e=.returned u/\Rel F own2 w' (ren (sb ids h.length) 3 s) u)/\Hp F own2 w' (nM ids h.length h 0 h')/\Fr { w:=w,own:=own} own2 w'
   | .pan x h'=>e=.panicked [{ v:=x,recovered:=false}]/\Hp F own2 w' (nM ids h.length h 0 h')/\Fr { w:=w,own:=own} own2 w'):=by
 refine⟨(hG.o f).enter _ _ c hc vs w,?_⟩;obtain⟨Fm,om,hpm,hB,rn,hFm,o1,o2⟩:=PZ hp ids hn;refine((hG.o f).calls _ _ c hc hpre Fm om w vs hpm ⟨by simpa using hr.1,fun j s hj=>?_⟩).mono ?_
 ·obtain⟨x,hx,rfl⟩:=ca hj;exact Bb rn (fun b hb hb2=>hb ((hB b).1 hb2)) 6 x _ (hr.2 j x hx)
 ·rintro e w' ⟨r,own',h1,h2⟩;have hml:(su h ids).length=ids.length:=by simp[su]
  cases hres:c.res r with
  |ret s h'=>
   rw[hres]at h2;obtain⟨⟨u,q1,q2⟩,q3,q4,q5⟩:=h2;obtain⟨own2,k1,k2,k3⟩:=DZ hp hn hids hpm hB hFm o1 q3 q4 (by rw[<-hml];exact q5);exact⟨r,own2,h1,by rw[hres];exact⟨⟨u,q1,k3 s u q2⟩,k1,k2⟩⟩
  |pan x h'=>
   rw[hres]at h2;obtain⟨q1,q3,q4,q5⟩:=h2;obtain⟨own2,k1,k2,k3⟩:=DZ hp hn hids hpm hB hFm o1 q3 q4 (by rw[<-hml];exact q5);exact⟨r,own2,h1,by rw[hres];exact⟨q1,k1,k2⟩⟩
theorem GJ {G:Cons}(hG:ConsOk P G){h:List Ob}(hp:Hp F own w h){id:Nat}{hd:Hd}(hid:own id=some hd){args:List SV}{vs:Array Value}(hr:RelL F own w args vs)(hnp:args.all (b_ 3)=true){r:Res}(ho:al h id=.ab r){c:YCon}(hc:G.y args r=some c)(hpre:c.pre):
  R_ P hd.v vs w (fun e w'=>∃ a own2,c.post a/\e=.returned (.bool (c.res a).1)/\Hp F own2 w' (aW h id (.ab (c.res a).2))/\Fr { w:=w,own:=own} own2 w'):=by
 obtain⟨hd',e0,hv,hR⟩:=hp.at ho rfl;rw[hid]at e0;cases e0;have hlt:=hp.dom id hd hid;let F1:Nat->Prop:=fun b=>bM F own b/\b ∉ hd.bs
 have hF1:∀ b,F1 b->b<w.heap.size:=by
  rintro b ⟨hf| ⟨id',hd',e,hbb⟩,_⟩
  ·exact hp.foreign b hf
  ·exact hp.lt id' hd' b e hbb
 have hy:=hG.y args r c hc hpre F1 hd.bs w vs hR hF1 (fun b hb=>⟨hp.lt id hd b hid hb,fun hf=>hf.2 hb⟩) ⟨hr.1,fun j s hj=>by
  rw[List.all_eq_true]at hnp;refine(hr.2 j s hj).over (iy 3 s (hnp s (List.mem_of_getElem? hj))) fun b hb=>oV ?_;rintro (hf|hbb)
  ·exact hb hf.1
  ·exact hb (.inr ⟨id,hd,hid,hbb⟩)⟩
 rw[hv];have mono:∀ (e:Ending) (w':World),(∃ a bs',c.post a/\e=.returned (.bool (c.res a).1)/\(c.res a).2.R F1 bs' w'/\(c.res a).2.yv=r.yv/\YFr hd.bs bs' w w')->∃ a own2,c.post a/\e=.returned (.bool (c.res a).1)/\Hp F own2 w' (aW h id (.ab (c.res a).2))/\Fr { w:=w,own:=own} own2 w':=by
  rintro e w' ⟨a,bs',h1,h2,h3,h4,h5⟩;let hd2:Hd:= { hd with bs:=bs'}
  have fr:Fr { w:=w,own:=own} (own.set id hd2) w':=Fr.of_step (fun i hi e=>by
    by_cases hii:i=id
    ·subst hii;rw[hid]at e;cases e;exact⟨hd2,Own.set_same _ _ _,rfl,rfl,rfl⟩
    ·exact⟨hi,by rw[Own.set_other _ _ hii];exact e,.refl _⟩) (fun i hi b e hbb=>by
    by_cases hii:i=id
    ·subst hii;rw[Own.set_same]at e;cases e;rcases(h5.bs b hbb).2 with hb|hb
     ·exact .inl ⟨_,hd,hid,hb⟩
     ·exact .inr hb
    ·rw[Own.set_other _ _ hii]at e;exact .inl ⟨i,hi,e,hbb⟩) (fun b hb hn=>h5.block b hb fun hm=>hn ⟨id,hd,hid,hm⟩) h5.size h5.os h5.tape h5.output
  refine⟨a,own.set id hd2,h1,h2,hp.upd fr.goes (· =id) (by rw[bC,if_pos hlt];omega) (fun i hi=>⟨Own.set_other _ _ hi,by rw[b4,if_neg (fun e=>hi e.symm)],fun hd' b e hbb=>h5.block b (hp.lt i hd' b e hbb) fun hm=>hi (hp.inj i id hd' hd b e hid hbb hm)⟩) (fun i hd' hi e=>?_) (fun i hi _=>?_),fr⟩
  ·subst hi;rw[Own.set_same]at e;cases e;refine⟨by rw[bC,if_pos hlt];exact hlt,fun b hb=>⟨(h5.bs b hb).1,fun hf=>?_,fun j hj hne e hbj=>?_⟩⟩
   ·rcases(h5.bs b hb).2 with hm|hge
    ·exact hp.apart _ hd b hid hm hf
    ·have:=hp.foreign b hf;omega
   ·rw[Own.set_other _ _ hne]at e;rcases(h5.bs b hb).2 with hm|hge
    ·exact hne (hp.inj j _ hj hd b e hid hbj hm)
    ·have:=hp.lt j hj b e hbj;omega
  ·subst hi;refine⟨hd2,Own.set_same _ _ _,?_⟩;rw[b4,if_pos rfl];refine⟨hv.trans h4.symm,(c.res a).2.loc _ _ _ w' w' h3 (Nat.le_refl _) (fun _ _ _=>rfl) ?_⟩;rintro b _ ⟨hf| ⟨j,hj,e,hbj⟩,hnb⟩
   ·exact⟨.inl hf,fun hm=>hp.apart _ hd b hid hm hf⟩
   ·by_cases hji:j=i
    ·subst hji;rw[Own.set_same]at e;cases e;exact absurd hbj hnb
    ·rw[Own.set_other _ _ hji]at e;exact⟨.inr ⟨j,hj,e,hbj⟩,fun hm=>hji (hp.inj j _ hj hd b e hid hbj hm)⟩
 rcases hy with⟨f,as,q1,q2⟩ | ⟨l,f,tmps,as,bd,q1,q2,q3⟩
 ·exact .inl ⟨f,as,q1,q2.mono mono⟩
 ·exact .inr ⟨l,f,tmps,as,bd,q1,q2,fun cc cs hro=>by
   obtain⟨e,w',hR',rest⟩:=q3 cc cs hro;exact⟨e,w',mono e w' hR',rest⟩⟩
end
theorem B6 {α:Type}{l r:List α}{x:α}{n:Nat}(h:l.drop n=x::r):l[n]? =some x/\l.drop (n+1)=r:=by
 have h1:(l.drop n)[0]? =some x:=by rw[h];rfl
 have h2:(l.drop n).drop 1=r:=by rw[h];rfl
 rw[List.getElem?_drop]at h1;rw[List.drop_drop]at h2;exact⟨by simpa using h1,h2⟩
theorem nD {ops:List Oper}{a:Act}{o:Oper}:(Region.wanted o (yielded ops.toArray a.tmps)=true)↔GOk ops a o.guard:=by
 unfold Region.wanted GOk;cases hg:o.guard with
 |none=>simp
 |some g=>simp
theorem vA (n:Nat)(ih:∀ b s,aJ n s=[]->ig n b s=s):∀ (l:List SV) (b:Nat),l.flatMap (aJ n)=[]->rP (ig n) (fun s=>(aJ n s).length) b l=l
 | [],_,_=>rfl
 |x::r,b,h=>by
  simp only[List.flatMap_cons,List.append_eq_nil_iff]at h;simp only[rP];rw[ih b x h.1,vA n ih r _ h.2]
theorem Av:∀ (n b:Nat) (s:SV),aJ n s=[]->ig n b s=s:=by
 intro n;induction n with
 |zero=>intro b s h;cases s <;>simp[aJ]at h <;>rfl
 |succ n ih=>
  intro b s h;cases s with
  |agg l=>simp only[aJ]at h;simp only[ig];rw[vA n ih l b h]
  |tup l=>simp only[aJ]at h;simp only[ig];rw[vA n ih l b h]
  |_=>first|rfl|simp[aJ]at h
section
variable {P:Program}{F:Nat->Prop}{own own':Own}{w w':World}{ts:Tis}
theorem E2:∀ (n:Nat) (s:SV) (v:Value),Rel F own w s v->∀ id∈fo n s,∃ hd,own id=some hd:=by
 intro n;induction n with
 |zero=>
  intro s v hr id hm;cases hr with
  |ptr h1 h2=>simp[fo]at hm;subst hm;exact⟨_,h1⟩
  |os h1 h2=>simp[fo]at hm;subst hm;exact⟨_,h1⟩
  |rp h1 h2 h3=>simp[fo]at hm;subst hm;exact⟨_,h1⟩
  |gr h1 h2 h3=>simp[fo]at hm;subst hm;exact⟨_,h1⟩
  |gp h1 h2 h3=>simp[fo]at hm;subst hm;exact⟨_,h1⟩
  |vw h1 h2=>simp[fo]at hm;subst hm;exact⟨_,h1⟩
  |_=>simp[fo]at hm
 |succ n ih=>
  intro s v hr id hm;have hlist:∀ (l:List SV) (c:Nat->Value),(∀ (j:Nat) (s:SV),l[j]? =some s->Rel F own w s (c j))->id∈l.flatMap (fo n)->∃ hd,own id=some hd:=by
   intro l c hl hm;obtain⟨x,hx,hi⟩:=List.mem_flatMap.1 hm;obtain⟨j,hj⟩:=List.getElem?_of_mem hx;exact ih x _ (hl j x hj) id hi
  cases hr with
  |ptr h1 h2=>simp[fo]at hm;subst hm;exact⟨_,h1⟩
  |os h1 h2=>simp[fo]at hm;subst hm;exact⟨_,h1⟩
  |rp h1 h2 h3=>simp[fo]at hm;subst hm;exact⟨_,h1⟩
  |gr h1 h2 h3=>simp[fo]at hm;subst hm;exact⟨_,h1⟩
  |gp h1 h2 h3=>simp[fo]at hm;subst hm;exact⟨_,h1⟩
  |vw h1 h2=>simp[fo]at hm;subst hm;exact⟨_,h1⟩
  |ep c h1 h2=>exact hlist _ c h2 (by simpa[fo]using hm)
  |ls c h0 h1 h2=>exact hlist _ c h2 (by simpa[fo]using hm)
  |agg h0 h1=>exact hlist _ _ h1 (by simpa[fo]using hm)
  |tup h0 h1=>exact hlist _ _ h1 (by simpa[fo]using hm)
  |fn h0 h0' h1 h2=>
   simp only[fo,List.mem_append]at hm;rcases hm with hm|hm
   ·exact hlist _ _ h1 hm
   ·exact hlist _ _ h2 hm
  |_=>simp[fo]at hm
theorem xz {h:List Ob}(hp:Hp F own w h):∀ (n:Nat) (todo acc:List Nat),(∀ id∈todo,∃ hd,own id=some hd)->(∀ id∈acc,∃ hd,own id=some hd)->∀ id∈reach h n todo acc,∃ hd,own id=some hd
 |0,_,acc,_,h2=>h2
 |n+1,[],acc,_,h2=>h2
 |n+1,id::todo,acc,h1,h2=>by
  simp only[reach];cases hm:AK id acc with
  |true=>exact xz hp n _ _ (fun i hi=>h1 i (by simp[hi])) h2
  |false=>
   refine xz hp n _ _ (fun i hi=>?_) (fun i hi=>?_)
   ·rcases List.mem_append.1 hi with hi|hi
    ·cases ho:al h id with
     |cells l=>
      rw[ho]at hi;obtain⟨hd,e1,e2⟩:=hp.at ho rfl;obtain⟨b,cs,ty,q1,q2,q3,q4,q5⟩:=e2;obtain⟨x,hx,hxi⟩:=List.mem_flatMap.1 hi;obtain⟨j,hj⟩:=List.getElem?_of_mem hx;exact E2 3 x _ (q5 j x hj) i hxi
     |_=>rw[ho]at hi;simp[MS]at hi
    ·exact h1 i (by simp[hi])
   ·rcases List.mem_append.1 hi with hi|hi
    ·exact h2 i hi
    ·simp at hi;subst hi;exact h1 _ (by simp)
theorem B7 {h:List Ob}(hp:Hp F own w h){args:List SV}{vs:Array Value}(hr:RelL F own w args vs):∀ id∈reach h 64 (args.flatMap (fo 3)) [],id<h.length:=fun id hm=>by
 obtain⟨hd,e⟩:=xz hp 64 _ [] (fun i hi=>by
  obtain⟨x,hx,hxi⟩:=List.mem_flatMap.1 hi;obtain⟨j,hj⟩:=List.getElem?_of_mem hx;exact E2 3 x _ (hr.2 j x hj) i hxi) (fun i hi=>by cases hi) id hm
 exact hp.dom _ _ e
variable {w0:Bs}{ro:Option Nat}{nd:Nat}{N n:Nat}{ops:List Oper}{st:St}{a:Act}{G:Cons}
theorem B8 (own:Own)(hb:Below w.heap.size w w'):Fr { w:=w,own:=own} own w':=(Fr.refl { w:=w,own:=own}).below hb
theorem tU (n k:Nat):k<n+1↔k<n\/k=n:=by omega
theorem SInv.stepv {E E':Nat->Prop}(hr:ROk N ops)(hE:∀ k,E' k↔E k\/k=n)(hnE:¬E n)(hi:SInv F w0 N ops E own st a w){o:Oper}(ho:ops[n]? =some o)(hgE:∀ j b,o.guard=some (j,b)->E j)(hgo:GOk ops a o.guard){s:SV}{u:Value}(hb:Below w.heap.size w w')(hs:Rel F own w' s u):
  SInv F w0 N ops E' own (st.put o.dst s) (a.put o.dst u) w'/\(∀ g,o.guard=some g->SInv F w0 N ops E' own (st.put o.dst (.gd g.1 g.2 s)) (a.put o.dst u) w'):=by
 have g:Fr { w:=w,own:=own} own w':=B8 own hb;have hp':=hi.hp.below hb;refine⟨hi.step hr hE hnE ho g hp' hgE (wE hs) (fun _ _=>hgo) (fun j b s' e=>?_),fun gg hgg=>hi.step hr hE hnE ho g hp' hgE ⟨(hE _).2 (.inl (hgE _ _ hgg)),⟨n,o,gg.2,ho,hgg⟩,fun _=>hs⟩ (fun _ _=>hgo) (fun j b s' e=>?_)⟩
 ·subst e;cases hs
 ·cases e;exact hgg
theorem SInv.stepe {E E':Nat->Prop}(hr:ROk N ops)(hE:∀ k,E' k↔E k\/k=n)(hnE:¬E n)(hi:SInv F w0 N ops E own st a w){o:Oper}(ho:ops[n]? =some o)(hgE:∀ j b,o.guard=some (j,b)->E j)(hgo:GOk ops a o.guard){h':List Ob}{s:SV}{u:Value}(hp:Hp F own' w' h')(hfr:Fr { w:=w,own:=own} own' w')(hs:Rel F own' w' s u):
  SInv F w0 N ops E' own' (St.put ⟨st.t,h'⟩ o.dst s) (a.put o.dst u) w'/\(∀ g,o.guard=some g->SInv F w0 N ops E' own' (St.put ⟨st.t,h'⟩ o.dst (.gd g.1 g.2 s)) (a.put o.dst u) w'):=by
 refine⟨hi.step hr hE hnE ho hfr hp hgE (wE hs) (fun _ _=>hgo) (fun j b s' e=>?_),fun gg hgg=>hi.step hr hE hnE ho hfr hp hgE ⟨(hE _).2 (.inl (hgE _ _ hgg)),⟨n,o,gg.2,ho,hgg⟩,fun _=>hs⟩ (fun _ _=>hgo) (fun j b s' e=>?_)⟩
 ·subst e;cases hs
 ·cases e;exact hgg
theorem SInv.skip {E E':Nat->Prop}(hr:ROk N ops)(hE:∀ k,E' k↔E k\/k=n)(hnE:¬E n)(hi:SInv F w0 N ops E own st a w){o:Oper}(ho:ops[n]? =some o)(hgE:∀ j b,o.guard=some (j,b)->E j)(hgo:¬GOk ops a o.guard){g:Nat×Bool}(hg:o.guard=some g){s:SV}:
  SInv F w0 N ops E' own (st.put o.dst (.gd g.1 g.2 s)) (a.put o.dst undef) w:=by
 have hrf:oc ops g.1:=⟨n,o,g.2,ho,hg⟩;refine hi.step hr hE hnE ho (Fr.refl { w:=w,own:=own}) hi.hp hgE ⟨(hE _).2 (.inl (hgE _ _ hg)),hrf,fun hy=>?_⟩ (fun b hb=>by simp[undef]at hb) (fun j b s' e=>by cases e;exact hg);exfalso;apply hgo;rw[hg];obtain⟨q,d,h1,h2,h3⟩:=hr.uniq g.1 hrf;exact(DV h1 h2 (h3 n o (fun e=>hnE (e▸hgE _ _ hg)) ho) g.2).1 hy
theorem zV {cx:Cx}{op:Op}(h:opS cx op≠ .bad):∀ c,op≠ .defer c:=by
 rintro c rfl;exact h rfl
theorem SInv.out {E:Nat->Prop}(hi:SInv F w0 N ops E own st a w):StRel F w0 N own ⟨ungd st.t,st.h⟩ a w:=StRel.ungd hi
theorem StRel.moved {h':List Ob}(hs:StRel F w0 N own st a w)(hp:Hp F own' w' h')(hfr:Fr { w:=w,own:=own} own' w'):StRel F w0 N own' ⟨st.t,h'⟩ a w':=
 ⟨hs.size,hs.defers.fr hfr hs.hp.apart,hp,hs.fr.trans hfr,fun t=>(hs.slots t).mono hfr.goes⟩
theorem D0 (own:Own)(w:World):Goes F own w own { w with drawn:=w.drawn+1}:=⟨fun _ hd h=>⟨hd,h,.refl _⟩,fun _ _ h=>⟨h,rfl⟩,Nat.le_refl _⟩
theorem StRel.drew {own:Own}{st:St}{a:Act}{w:World}(h:StRel F w0 N own st a w):StRel F w0 N own st a { w with drawn:=w.drawn+1}:=
 ⟨h.size,h.defers,h.hp.goes (D0 own w) fun _ _ _ _ _=>rfl,h.fr.drew,fun t=>(h.slots t).mono (D0 own w)⟩
def JV (G:Cons)(ops:List Oper)(d:Option Nat)(st:St)(next:St->Prop)(Z:Value->St->Prop):Option (Nat×Bool)->OR->Prop
 |none,r=>mB G d st next Z r
 |some g,r=>stepG G ops g d st next Z r
theorem eY {o:Oper}{K:Act->World->Prop}{Q:Exit->Act->World->Prop}{u:Value}{run:Result Next}(hrun:run=.ok (.value u) w'\/(run=.ok .skip w'/\u=undef))(h:K (a.put o.dst u) w'):
  o.uponIn (rd ro) nd P a K Q run:=by
 rcases hrun with rfl| ⟨rfl,rfl⟩ <;>exact h
theorem Bc {ops:List Oper}{t:List (Nat×SV)}:∀ (n:Nat) (g:Nat×Bool),dv ops t n g->vb ops t n g->False
 |0,_,_,h=>h
 |n+1,(j,want),h1,h2=>by
  simp only[dv]at h1;simp only[vb]at h2;split at h1
  ·rename_i d hd;rw[hd]at h2;simp only at h2;split at h1
   ·rename_i x hx;rw[hx]at h2;exact h2 h1
   ·rename_i j' b x hx;rw[hx]at h2;rcases h2 with h2|h2
    ·exact Bc n (j',b) h1.1 h2
    ·exact h2 h1.2
   ·rename_i hx hx2;split at h2
    ·rename_i x e;exact hx x e
    ·rename_i j' b x e;exact hx2 j' b x e
    ·exact h2
  ·rename_i hd;rw[hd]at h2;exact h2
theorem LK {α:Type}{l:List α}(h:l.Nodup){i j:Nat}{x:α}(hi:l[i]? =some x)(hj:l[j]? =some x):i=j:=by
 obtain⟨a,ha⟩:=List.getElem?_eq_some_iff.1 hi;obtain⟨b,hb⟩:=List.getElem?_eq_some_iff.1 hj;rcases Nat.lt_trichotomy i j with hl|hl|hl
 ·exact absurd (ha.trans hb.symm) (List.pairwise_iff_getElem.1 h i j a b hl)
 ·exact hl
 ·exact absurd (hb.trans ha.symm) (List.pairwise_iff_getElem.1 h j i b a hl)
theorem To {h:List Ob}(hp:Hp F own w h){id:Nat}{hd:Hd}{b:Nat}(e1:own id=some hd)(e2:hd.p=some b){mid n:Nat}{left:List Nat}{cur:Option Nat}(ho:al h id=.mi (some mid) n left cur)
  {kk vk:Tag} {l:List (kk.T×vk.T)} (hm:al h mid=.mp kk vk l (some (id,none))) (hn:n=l.length) (ty:TypeId):
  (left=[]/\(Instr.next (.pointer (some ⟨b,0,none⟩)) false ty).run P w=.ok (.tuple #[.bool false]) w)\/
  ∃ j∈left,∃ u w',(Instr.next (.pointer (some ⟨b,0,none⟩)) false ty).run P w=.ok u w'/\Step F own w (aW h id (.mi (some mid) n (left.erase j) (some j))) own w'/\
   Rel F own w' (.tup [.v (.bool true),svT kk (l.getD j (fS kk,fS vk)).1,svT vk (l.getD j (fS kk,fS vk)).2]) u:=by
 obtain⟨hd',e1',b',p1,p2,p3⟩:=hp.at ho rfl;rw[e1]at e1';cases e1';rw[e2]at p1;cases p1;obtain⟨hdm,bm,seen,c0,ss,k1,k2,k3,k4,k5,k6,k7,k8⟩:=p3 _ rfl;obtain⟨hdm',k1',bm',es,clk,m1,m2,m3,m4,m5,hd2,t1,t2⟩:=hp.at hm rfl;rw[k1]at k1';cases k1';rw[k2]at m1;cases m1;rw[e1]at t1;cases t1;obtain⟨hc0,hss⟩:=JM (k4.symm.trans t2);subst hc0;subst hss;have hes:es.size=l.length:=by simpa[dL]using m4.1
 have hget:∀ i (hi:i<es.size),(ii es)[i]? =some es[i].born:=fun i hi=>by simp[ii,hi]
 have hborn:∀ x∈es.toList,x.born<c0:=fun x hx=>m5.2 _ (List.mem_map_of_mem hx);rcases EU (P:=P) (ty:=ty) k3 m3 hborn (Nat.le_refl _)with⟨h1,h2⟩ | ⟨e,h1,w1,h2,h3⟩
 ·refine .inl ⟨?_,h2⟩;cases hl:left with
  |nil=>rfl
  |cons k r=>
   exfalso;obtain⟨s9,hs9,hn9⟩:=(k7 k).1 (by rw[hl];simp);have hke:k<es.size:=by have:=(List.getElem?_eq_some_iff.1 hs9).1;simpa[ii]using this
   rw[hget k hke,Option.some.injEq]at hs9;have hmem:es[k]∈leftOf es seen:=by
    unfold leftOf;rw[Array.mem_filter];refine⟨Array.getElem_mem _,?_⟩;rw[hs9];simpa using hn9
   have:=Array.size_pos_of_mem hmem;omega
 ·have hmem:e∈es/\¬e.born∈seen.toList:=by
   rw[Array.mem_toList_iff]at h1;unfold leftOf at h1;rw[Array.mem_filter]at h1;refine⟨h1.1,?_⟩;have:=h1.2;simpa using this
  obtain⟨j,hj,hje⟩:=Array.getElem_of_mem hmem.1;have hb:(ii es)[j]? =some e.born:=by rw[<-hje];exact hget j hj
  have hjl:j∈left:=(k7 j).2 ⟨_,hb,hmem.2⟩;have hh:w1.heap=w.heap:=by rcases h2 with rfl|rfl <;>rfl
  have hbl:b<w.heap.size:=hp.lt id hd b e1 (by rw[p2];simp);have st:Step F own w (aW h id (.mi (some mid) n (left.erase j) (some j))) own { w1 with heap:=w1.heap.setIfInBounds b (.mapIter (some bm) c0 (seen.push e.born) c0)}:=by
   refine qt hp e1 (b:=b) (by rw[p2];simp) ?_ (fun k hk=>?_) ?_ ?_ ?_ _ fun g=>⟨b,e2,p2,fun i hi=>?_⟩
   ·show(w1.heap.setIfInBounds b _).size=_;rw[hh];exact Array.size_setIfInBounds
   ·show(w1.heap.setIfInBounds b _)[k]? =_;rw[hh,Array.getElem?_setIfInBounds,if_neg (fun e=>hk e.symm)]
   ·rcases h2 with rfl|rfl <;>rfl
   ·rcases h2 with rfl|rfl <;>rfl
   ·rcases h2 with rfl|rfl <;>rfl
   ·cases hi;refine⟨hdm,bm,seen.push e.born,c0,ii es,k1,k2,?_,k4,k5,k6.erase j,fun k=>?_,fun j' hj'=>?_⟩
    ·show(w1.heap.setIfInBounds b _)[b]? =_;rw[hh,Array.getElem?_setIfInBounds,if_pos rfl,if_pos hbl]
    ·rw[k6.mem_erase_iff,k7 k,Array.toList_push];constructor
     ·rintro⟨a,s,b,c⟩;refine⟨s,b,fun h=>?_⟩;rcases List.mem_append.1 h with h|h
      ·exact c h
      ·simp at h;subst h;exact a (LK m5.1 b hb)
     ·rintro⟨s,a,b⟩;refine⟨fun h=>?_,s,a,fun h=>b (List.mem_append_left _ h)⟩;subst h;rw[hb]at a;cases a;exact b (by simp)
    ·cases hj';exact⟨_,hb,by simp⟩
  refine .inr ⟨j,hjl,_,_,h3,st,.tup rfl fun k s hk=>?_⟩;have hlt:j<l.length:=by omega
  have hgd:l.getD j (fS kk,fS vk)=l[j]:=by rw[List.getD_eq_getElem?_getD,List.getElem?_eq_getElem hlt];rfl
  rw[hgd]at hk;obtain⟨e3,g1,_,g3,g4⟩:=m4.2 j l[j] (by simp[dL,hlt]);rw[Array.getElem?_eq_getElem hj,hje]at g1;cases g1;match k,hk with
  |0,hk=>cases hk;exact .v _
  |1,hk=>cases hk;exact g3.mono st.fr.goes
  |2,hk=>cases hk;exact g4.mono st.fr.goes
theorem JW (hts:ts.ok P)(hG:ConsOk P G)(hr:ROk N ops){E E':Nat->Prop}(hE:∀ k,E' k↔E k\/k=n)(hnE:¬E n){o:Oper}(ho:ops[n]? =some o)(hgE:∀ j b,o.guard=some (j,b)->E j)
  (hi:SInv F w0 N ops E own st a w) {Q:Exit->Act->World->Prop} {K:Act->World->Prop} {next:St->Prop} {Z:Value->St->Prop} (hZ:∀ x own st a w,StRel F w0 N own st a w->Z x st->Q (.panic [{ v:=x,recovered:=false}]) a w)
  (hx:JV G ops o.dst st next Z o.guard (opS ⟨ts,ops,o.guard,st,st.h.length⟩ o.op)) (hK:∀ own st a w,SInv F w0 N ops E' own st a w->next st->K a w):
  (GOk ops a o.guard->(∀ c,o.op≠ .defer c)/\o.uponIn (rd ro) nd P a K Q ((execOp a.eval o).run P w))/\(¬GOk ops a o.guard->K (a.put o.dst undef) w):=by
 cases hg:o.guard with
 |none=>
  have hnd:∀ c,o.op≠ .defer c:=zV (cx:=⟨ts,ops,o.guard,st,st.h.length⟩) (fun e=>by rw[e,hg]at hx;exact hx);refine⟨fun _=>⟨hnd,?_⟩,fun h=>absurd trivial h⟩;rw[hg]at hx;have hgo:GOk ops a o.guard:=by rw[hg];trivial
  have h:=Iw (P:=P) (ts:=ts) (ops:=ops) (g:=none) (t:=st.t) (h:=st.h) (nx:=st.h.length) hts hi.hp hi.hp.nx (a:=a) (o:=o) (EW hi trivial (fun k c e=>by cases e)) (fun c x y _=>⟨fun hc=>xy (g:=none) hi trivial (fun k c e=>by cases e) c x true hc,fun hc=>xy (g:=none) hi trivial (fun k c e=>by cases e) c y false hc⟩);change mB G o.dst st next Z (opS ⟨ts,ops,none,⟨st.t,st.h⟩,st.h.length⟩ o.op)at hx
  generalize opS ⟨ts,ops,none,⟨st.t,st.h⟩,st.h.length⟩ o.op=r at h hx;cases r with
  |bad=>exact hx.elim
  |val s=>
   obtain⟨u,e1,e2⟩:=h;exact eY (.inl e1) (hK _ _ _ _ (hi.stepv hr hE hnE ho hgE hgo (Below.refl _ _) e2).1 hx)
  |chk c s=>
   obtain⟨u,e1,e2⟩:=h hx.1;exact eY (.inl e1) (hK _ _ _ _ (hi.stepv hr hE hnE ho hgE hgo (Below.refl _ _) e2).1 hx.2)
  |asm c s=>
   obtain⟨hc,u,e1,e2⟩:=h;exact eY (.inl e1) (hK _ _ _ _ (hi.stepv hr hE hnE ho hgE hgo (Below.refl _ _) e2).1 (hx hc))
  |newr s=>
   obtain⟨u,cs,ty,e1,e2⟩:=h;exact eY (.inl e1) (hK _ _ _ _ (hi.stepv hr hE hnE ho hgE hgo (rb _ _) e2).1 hx)
  |amb p=>
   obtain⟨b,h1,h2⟩:=h;exact eY (.inl h2) (hK _ _ _ _ (hi.stepv hr hE hnE ho hgE hgo (Below.refl _ _) (.v _)).1 (hx b h1))
  |nxt id=>
   obtain⟨hd,b,e1,e2,ty,hrun⟩:=h;change PJ id o.dst st next (al st.h id)at hx
   cases hob:al st.h id with
   |mi mid n' left cur=>
    rw[hob]at hx;cases mid with
    |none=>exact hx.elim
    |some mid=>
     change MT id mid n' left o.dst st next (al st.h mid)at hx
     cases hm:al st.h mid with
     |mp kk vk l pend=>
      rw[hm]at hx;cases pend with
      |none=>exact hx.elim
      |some q=>
      obtain⟨it,q⟩:=q;cases q with
      |some _=>exact hx.elim
      |none=>
       obtain⟨⟨x0,x1⟩,x2,x3⟩:=hx;subst x0;rcases To (P:=P) hi.hp e1 e2 hob hm x1 ty with⟨q1,q2⟩ | ⟨j,q1,u,w',q2,q3,q4⟩
       ·exact eY (.inl (hrun _ _ q2)) (hK _ _ _ _ (hi.stepv hr hE hnE ho hgE hgo (Below.refl _ _) (.tup rfl fun k s hk=>by
         match k,hk with
         |0,hk=>cases hk;exact .v _)).1 (x2 q1))
       ·exact eY (.inl (hrun _ _ q2)) (hK _ _ _ _ (hi.stepe hr hE hnE ho hgE hgo q3.hp q3.fr q4).1 (x3 j q1))
     |_=>rw[hm]at hx;exact hx.elim
   |_=>rw[hob]at hx;exact hx.elim
  |eff c ac ups s=>
   obtain⟨hc,hx⟩:=hx;obtain⟨ha,u,own',w',e1,e2,e3⟩:=h hc;exact eY e1 (hK _ _ _ _ (hi.stepe hr hE hnE ho hgE hgo e3.hp e3.fr e2).1 (hx ha))
  |call f args=>
   obtain⟨vs,e1,e2⟩:=h;change wq (args.all (b_ 3)) (reach st.h 64 (args.flatMap (fo 3)) []) o.dst st next Z (G.o f (args.map (ren (inN (reach st.h 64 (args.flatMap (fo 3)) [])) 6)) (su st.h (reach st.h 64 (args.flatMap (fo 3)) []))) (G.p f (args.map (eW st.h 6)))at hx
   have hx2:yL (reach st.h 64 (args.flatMap (fo 3)) []) o.dst st next Z (G.o f (args.map (ren (inN (reach st.h 64 (args.flatMap (fo 3)) [])) 6)) (su st.h (reach st.h 64 (args.flatMap (fo 3)) [])))\/∃ c,G.p f (args.map (eW st.h 6))=some c/\wq (args.all (b_ 3)) (reach st.h 64 (args.flatMap (fo 3)) []) o.dst st next Z (G.o f (args.map (ren (inN (reach st.h 64 (args.flatMap (fo 3)) [])) 6)) (su st.h (reach st.h 64 (args.flatMap (fo 3)) []))) (some c)/\¬ (∃ p s,c=.det p s/\(args.all (b_ 3) ||g8 3 s)=false):=by
    cases hc:G.p f (args.map (eW st.h 6))with
    |none=>rw[hc]at hx;exact .inl hx
    |some c=>
     rw[hc]at hx;by_cases hdet:∃ p s,c=.det p s/\(args.all (b_ 3) ||g8 3 s)=false
     ·obtain⟨p,s,rfl,hb⟩:=hdet;left;change (bif args.all (b_ 3) ||g8 3 s then _ else _)at hx;rw[hb]at hx;exact hx
     ·exact .inr ⟨c,rfl,hx,hdet⟩
   clear hx;rcases hx2 with hx| ⟨c,hc,hx,hdet⟩
   ·have hids:=B7 hi.hp e1;have hn:=rq st.h 64 (args.flatMap (fo 3)) [] List.nodup_nil;generalize reach st.h 64 (args.flatMap (fo 3)) []=ids at hx hids hn;change yL ids o.dst st next Z (G.o f (args.map (ren (inN ids) 6)) (su st.h ids))at hx
    cases ho2:G.o f (args.map (ren (inN ids) 6)) (su st.h ids)with
    |none=>rw[ho2]at hx;exact hx.elim
    |some c=>
     rw[ho2]at hx;obtain⟨hpre,hx⟩:=hx;obtain⟨k1,k2⟩:=GI hG hi.hp e1 hn ho2 hpre hids;rw[e2,k1];refine⟨fun h=>(by cases h),?_⟩;refine CallsIn.mono (pg k2) ?_;rintro e w' ⟨r,own',hr1,hr2⟩;have hx:=hx r hr1;cases hres:c.res r with
     |ret s h'=>
      rw[hres]at hr2 hx;obtain⟨⟨u,rfl,hrel⟩,hp',hfr⟩:=hr2;exact hK _ _ _ _ (hi.stepe hr hE hnE ho hgE hgo hp' hfr hrel).1 hx
     |pan x h'=>
      rw[hres]at hr2 hx;obtain⟨rfl,hp',hfr⟩:=hr2;exact hZ x own' ⟨ungd st.t,nM ids st.h.length st.h 0 h'⟩ a w' (hi.out.moved hp' hfr) hx
   ·have hcall:an c/\(args.all (b_ 3)=true\/∀ s,di c s->g8 3 s=true)/\(∀ s,di c s->next (St.put ⟨st.t,st.h++aJ 3 s⟩ o.dst (ig 3 st.h.length s)))/\∀ x,mG c x->Z x ⟨ungd st.t,st.h⟩:=by
     cases c with
     |det p s=>
      change (bif args.all (b_ 3) ||g8 3 s then _ else _)at hx;cases hb:args.all (b_ 3) ||g8 3 s with
      |false=>exact absurd ⟨p,s,rfl,hb⟩ hdet
      |true=>
       rw[hb]at hx;obtain⟨hp,hx⟩:=hx;refine⟨hp,?_,fun s' hs'=>by cases hs';exact hx,fun x h=>h.elim⟩;rw[Bool.or_eq_true]at hb;exact hb.imp id (fun h s' hs'=>by cases hs';exact h)
     |rel α pre post out=>
      obtain⟨hp,hx⟩:=hx;cases hb:args.all (b_ 3)with
      |false=>rw[hb]at hx;exact hx.elim
      |true=>
       rw[hb]at hx;refine⟨hp,.inl rfl,fun s' hs'=>?_,fun x h=>h.elim⟩;obtain⟨r,h1,rfl⟩:=hs';exact hx r h1
     |may ok s x=>
      change (bif args.all (b_ 3) ||g8 3 s then(ok=true->next (St.put ⟨st.t,st.h++aJ 3 s⟩ o.dst (ig 3 st.h.length s)))/\(ok=false->Z x ⟨ungd st.t,st.h⟩)else False)at hx;cases hb:args.all (b_ 3) ||g8 3 s with
      |false=>rw[hb]at hx;exact hx.elim
      |true=>
       rw[hb]at hx;refine⟨trivial,?_,fun s' hs'=>by obtain⟨h1,rfl⟩:=hs';exact hx.1 h1,fun x' hs'=>by obtain⟨h1,rfl⟩:=hs';exact hx.2 h1⟩;rw[Bool.or_eq_true]at hb;exact hb.imp id (fun h s' hs'=>by obtain⟨_,rfl⟩:=hs';exact h)
    obtain⟨q1,q2,q3,q4⟩:=hcall;obtain⟨k1,k2⟩:=E1 (P:=P) hG hi.hp e1 hc q1 q2;rw[e2,k1];refine⟨fun h=>(by cases h),?_⟩;refine CallsIn.mono (pg k2) ?_;rintro e w' (⟨s,u,own2,m1,rfl,m2,m3,m4,m5⟩ | ⟨x,m1,rfl,m4⟩)
    ·exact hK _ _ _ _ (hi.stepe hr hE hnE ho hgE hgo m2 m3 m4).1 (q3 s m1)
    ·exact hZ x own ⟨ungd st.t,st.h⟩ a w' (hi.out.moved (hi.hp.below m4) (B8 own m4)) (q4 x m1)
  |yld id args=>
   obtain⟨hd,e0,vs,e1,e2⟩:=h;change (bif args.all (b_ 3)then H_ id o.dst st next (EI G args (al st.h id))else False)at hx;cases hb:args.all (b_ 3)with
   |false=>rw[hb]at hx;exact hx.elim
   |true=>
    rw[hb]at hx;cases hob:al st.h id with
    |ab r=>
     rw[hob]at hx;change H_ id o.dst st next (G.y args r)at hx
     cases hc:G.y args r with
     |none=>rw[hc]at hx;exact hx.elim
     |some c=>
      rw[hc]at hx;obtain⟨hpre,hx⟩:=hx;have mono:∀ (w':World) a' own2,c.post a'->Hp F own2 w' (aW st.h id (.ab (c.res a').2))->Fr { w:=w,own:=own} own2 w'->K (a.put o.dst (.bool (c.res a').1)) w':=by
       intro w' a' own2 m1 m2 m3;exact hK _ _ _ _ (hi.stepe hr hE hnE ho hgE hgo m2 m3 (.v _)).1 (hx a' m1)
      rcases GJ hG hi.hp e0 e1 hb hob hc hpre with⟨f,as,k1,k2⟩ | ⟨l,f,tmps,as,bd,k1,k2⟩
      ·rw[e2,k1];exact⟨fun h=>(by cases h),CallsIn.mono (pg k2) (by rintro e w' ⟨a',own2,m1,rfl,m2,m3⟩;exact mono w' a' own2 m1 m2 m3)⟩
      ·rw[e2,k1];exact⟨fun h=>(by cases h),RoundIn.mono (GF k2) (by rintro e w' ⟨a',own2,m1,rfl,m2,m3⟩;exact mono w' a' own2 m1 m2 m3)⟩
    |_=>rw[hob]at hx;exact hx.elim
  |pan x=>
   rw[show(execOp a.eval o).run P w=.halt (.panic x) w from h];exact hZ x own ⟨ungd st.t,st.h⟩ a w hi.out hx
 |some g=>
  rw[hg]at hx;have hlt:=hr.lt n o g.1 g.2 ho hg;have hrf:oc ops g.1:=⟨n,o,g.2,ho,hg⟩;have hjE:E g.1:=hgE g.1 g.2 hg;change stepG G ops g o.dst st next Z (opS ⟨ts,ops,some g,⟨st.t,st.h⟩,st.h.length⟩ o.op)at hx
  refine⟨fun hgo'=>?_,fun hgo'=>?_⟩
  ·have hgo:GOk ops a o.guard:=by rw[hg];exact hgo'
   have hgp:dv ops st.t ops.length g:=uJ hi n (fun _ _ _ _ _ _ _ _=>rfl) hr.lt _ g hlt hjE hrf hgo';have hnd:∀ c,o.op≠ .defer c:=zV (cx:=⟨ts,ops,o.guard,st,st.h.length⟩) (fun e=>by rw[hg]at e;rw[show(opS ⟨ts,ops,some g,⟨st.t,st.h⟩,st.h.length⟩ o.op)=.bad from e]at hx;exact Bc _ _ hgp hx.1);refine⟨hnd,?_⟩;have hgn:∀ k c,some g=some (k,c)->E k/\oc ops k:=fun k c e=>by cases e;exact⟨hjE,hrf⟩
   have h:=Iw (P:=P) (ts:=ts) (ops:=ops) (g:=some g) (t:=st.t) (h:=st.h) (nx:=st.h.length) hts hi.hp hi.hp.nx (a:=a) (o:=o) (EW hi hgo' hgn) (fun c x y _=>⟨fun hc=>xy hi hgo' hgn c x true hc,fun hc=>xy hi hgo' hgn c y false hc⟩);generalize opS ⟨ts,ops,some g,⟨st.t,st.h⟩,st.h.length⟩ o.op=r at h hx;cases r with
   |bad=>exact(Bc _ _ hgp hx.1).elim
   |pan x=>exact hx.elim
   |nxt id=>exact hx.elim
   |amb p=>exact hx.elim
   |val s=>
    obtain⟨u,e1,e2⟩:=h;exact eY (.inl e1) (hK _ _ _ _ ((hi.stepv hr hE hnE ho hgE hgo (Below.refl _ _) e2).2 g hg) hx)
   |chk c s=>
    obtain⟨u,e1,e2⟩:=h (hx.1 hgp);exact eY (.inl e1) (hK _ _ _ _ ((hi.stepv hr hE hnE ho hgE hgo (Below.refl _ _) e2).2 g hg) hx.2)
   |asm c s=>
    obtain⟨_,u,e1,e2⟩:=h;exact eY (.inl e1) (hK _ _ _ _ ((hi.stepv hr hE hnE ho hgE hgo (Below.refl _ _) e2).2 g hg) hx)
   |newr s=>
    obtain⟨u,cs,ty,e1,e2⟩:=h;exact eY (.inl e1) (hK _ _ _ _ ((hi.stepv hr hE hnE ho hgE hgo (rb _ _) e2).2 g hg) hx)
   |eff c ac ups s=>
    obtain⟨hc,hx⟩:=hx.1 hgp;obtain⟨ha,u,own',w',e1,e2,e3⟩:=h hc;exact eY e1 (hK _ _ _ _ ((hi.stepe hr hE hnE ho hgE hgo e3.hp e3.fr e2).2 g hg) (hx ha))
   |call f args=>
    obtain⟨vs,e1,e2⟩:=h;change BG (args.all (b_ 3)) (reach st.h 64 (args.flatMap (fo 3)) []) ops g o.dst st next Z (G.o f (args.map (ren (inN (reach st.h 64 (args.flatMap (fo 3)) [])) 6)) (su st.h (reach st.h 64 (args.flatMap (fo 3)) []))) (G.p f (args.map (eW st.h 6)))at hx
    cases hc:G.p f (args.map (eW st.h 6))with
    |none=>
     rw[hc]at hx;have hids:=B7 hi.hp e1;have hn:=rq st.h 64 (args.flatMap (fo 3)) [] List.nodup_nil;generalize reach st.h 64 (args.flatMap (fo 3)) []=ids at hx hids hn;change ye ids ops g o.dst st next Z (G.o f (args.map (ren (inN ids) 6)) (su st.h ids))at hx
     cases ho2:G.o f (args.map (ren (inN ids) 6)) (su st.h ids)with
     |none=>rw[ho2]at hx;exact(Bc _ _ hgp hx.1).elim
     |some c=>
      rw[ho2]at hx;obtain⟨hpre,hx⟩:=hx.1 hgp;obtain⟨k1,k2⟩:=GI hG hi.hp e1 hn ho2 hpre hids;rw[e2,k1];refine⟨fun h=>(by cases h),?_⟩;refine CallsIn.mono (pg k2) ?_;rintro e w' ⟨r,own',hr1,hr2⟩;have hx:=hx r hr1;cases hres:c.res r with
      |ret s h'=>
       rw[hres]at hr2 hx;obtain⟨⟨u,rfl,hrel⟩,hp',hfr⟩:=hr2;exact hK _ _ _ _ ((hi.stepe hr hE hnE ho hgE hgo hp' hfr hrel).2 g hg) hx
      |pan x h'=>
       rw[hres]at hr2 hx;obtain⟨rfl,hp',hfr⟩:=hr2;exact hZ x own' ⟨ungd st.t,nM ids st.h.length st.h 0 h'⟩ a w' (hi.out.moved hp' hfr) hx
    |some c=>
     rw[hc]at hx;cases c with
     |rel=>exact hx.elim
     |may=>exact hx.elim
     |det p s=>
      obtain⟨hp,hx⟩:=hx;cases hb:(args.all (b_ 3) ||g8 3 s)&&(aJ 3 s).isEmpty with
      |false=>rw[hb]at hx;exact hx.elim
      |true=>
       rw[hb]at hx;rw[Bool.and_eq_true,Bool.or_eq_true]at hb;obtain⟨k1,k2⟩:=E1 (P:=P) hG hi.hp e1 hc (hp hgp) (hb.1.imp id (fun h s' hs'=>by cases hs';exact h));rw[e2,k1];refine⟨fun h=>(by cases h),?_⟩;refine CallsIn.mono (pg k2) ?_;rintro e w' (⟨s',u,own2,rfl,rfl,m2,m3,m4,m5⟩ | ⟨x,m1,_⟩)
       ·have hz:aJ 3 s'=[]:=List.isEmpty_iff.1 hb.2;rw[hz,List.append_nil]at m2;rw[Av 3 _ s' hz]at m4;exact hK _ _ _ _ ((hi.stepe hr hE hnE ho hgE hgo m2 m3 m4).2 g hg) hx
       ·exact m1.elim
   |yld id args=>
    obtain⟨hd,e0,vs,e1,e2⟩:=h;change (bif args.all (b_ 3)then Gd id ops g o.dst st next (EI G args (al st.h id))else False)at hx;cases hb:args.all (b_ 3)with
    |false=>rw[hb]at hx;exact hx.elim
    |true=>
     rw[hb]at hx;cases hob:al st.h id with
     |ab r=>
      rw[hob]at hx;change Gd id ops g o.dst st next (G.y args r)at hx
      cases hc:G.y args r with
      |none=>rw[hc]at hx;exact hx.elim
      |some c=>
       rw[hc]at hx;obtain⟨hpre,hx⟩:=hx.1 hgp;have mono:∀ (w':World) a' own2,c.post a'->Hp F own2 w' (aW st.h id (.ab (c.res a').2))->Fr { w:=w,own:=own} own2 w'->K (a.put o.dst (.bool (c.res a').1)) w':=by
        intro w' a' own2 m1 m2 m3;exact hK _ _ _ _ ((hi.stepe hr hE hnE ho hgE hgo m2 m3 (.v _)).2 g hg) (hx a' m1)
       rcases GJ hG hi.hp e0 e1 hb hob hc hpre with⟨f,as,k1,k2⟩ | ⟨l,f,tmps,as,bd,k1,k2⟩
       ·rw[e2,k1];exact⟨fun h=>(by cases h),CallsIn.mono (pg k2) (by rintro e w' ⟨a',own2,m1,rfl,m2,m3⟩;exact mono w' a' own2 m1 m2 m3)⟩
       ·rw[e2,k1];exact⟨fun h=>(by cases h),RoundIn.mono (GF k2) (by rintro e w' ⟨a',own2,m1,rfl,m2,m3⟩;exact mono w' a' own2 m1 m2 m3)⟩
     |_=>rw[hob]at hx;exact hx.elim
  ·have hgo:¬GOk ops a o.guard:=by rw[hg];exact hgo'
   have hgN:gC ops st.t ops.length g:=zT hi _ g hjE hrf hgo';have hskip:=fun s=>hi.skip hr hE hnE ho hgE hgo hg (s:=s);generalize opS ⟨ts,ops,some g,⟨st.t,st.h⟩,st.h.length⟩ o.op=r at hx;cases r with
   |bad=>exact hK _ _ _ _ (hskip .any) hx.2
   |pan x=>exact hx.elim
   |nxt id=>exact hx.elim
   |amb p=>exact hx.elim
   |val s=>exact hK _ _ _ _ (hskip _) hx
   |chk c s=>exact hK _ _ _ _ (hskip _) hx.2
   |asm c s=>exact hK _ _ _ _ (hskip _) hx
   |newr s=>exact hK _ _ _ _ (hskip _) hx
   |eff c ac ups s=>exact hK _ _ _ _ (hskip _) (hx.2 hgN)
   |call f args=>
    change BG (args.all (b_ 3)) (reach st.h 64 (args.flatMap (fo 3)) []) ops g o.dst st next Z (G.o f (args.map (ren (inN (reach st.h 64 (args.flatMap (fo 3)) [])) 6)) (su st.h (reach st.h 64 (args.flatMap (fo 3)) []))) (G.p f (args.map (eW st.h 6)))at hx
    cases hc:G.p f (args.map (eW st.h 6))with
    |none=>
     rw[hc]at hx;generalize reach st.h 64 (args.flatMap (fo 3)) []=ids at hx;change ye ids ops g o.dst st next Z (G.o f (args.map (ren (inN ids) 6)) (su st.h ids))at hx
     cases ho2:G.o f (args.map (ren (inN ids) 6)) (su st.h ids)with
     |none=>rw[ho2]at hx;exact hK _ _ _ _ (hskip .any) hx.2
     |some c=>
      rw[ho2]at hx;exact hK _ _ _ _ (hskip .any) (hx.2 hgN)
    |some c=>
     rw[hc]at hx;cases c with
     |rel=>exact hx.elim
     |may=>exact hx.elim
     |det p s=>
      obtain⟨hp,hx⟩:=hx;cases hb:(args.all (b_ 3) ||g8 3 s)&&(aJ 3 s).isEmpty with
      |false=>rw[hb]at hx;exact hx.elim
      |true=>rw[hb]at hx;exact hK _ _ _ _ (hskip _) hx
   |yld id args=>
    change (bif args.all (b_ 3)then Gd id ops g o.dst st next (EI G args (al st.h id))else False)at hx;cases hb:args.all (b_ 3)with
    |false=>rw[hb]at hx;exact hx.elim
    |true=>
     rw[hb]at hx;cases hc:EI G args (al st.h id)with
     |none=>rw[hc]at hx;exact hx.elim
     |some c=>rw[hc]at hx;exact hK _ _ _ _ (hskip .any) (hx.2 hgN)
theorem SInv.congr {E E':Nat->Prop}(h:∀ k,E k↔E' k){st:St}(hi:SInv F w0 N ops E own st a w):SInv F w0 N ops E' own st a w:=by
 have:E=E':=funext fun k=>propext (h k);subst this;exact hi
theorem SInv.all {st:St}(hr:ROk N ops){n:Nat}(hn:ops.length<=n)(hi:SInv F w0 N ops (· <n) own st a w):SInv F w0 N ops (· <ops.length) own st a w:=by
 refine⟨hi.size,hi.defers,hi.hp,hi.fr,fun t=>?_,fun k o d j b s hk=>hi.tags k o d j b s (by omega),fun k o j b hk hq hg=>by have:=hr.lt k o j b hq hg;omega,fun k o b hk hrf hq hy=>hi.chain k o b (by omega) hrf hq hy⟩;have:=hi.slots t;cases hs:lk t st.t with
 |gd j b s=>
  rw[hs]at this;obtain⟨_,⟨i,o,b',h1,h2⟩,h3⟩:=this;exact⟨by have:=hr.lt i o j b' h1 h2;have:=(List.getElem?_eq_some_iff.1 h1).1;omega,⟨i,o,b',h1,h2⟩,h3⟩
 |_=>rw[hs]at this;exact this
theorem E3 {ts:Tis}{G:Cons}{ops:List Oper}{o:Oper}{rest:List Oper}{st:St}{K:St->Prop}{Z:Value->St->Prop}(h:jo ts G ops (o::rest) st K Z):
  JV G ops o.dst st (fun st'=>jo ts G ops rest st' K Z) Z o.guard (opS ⟨ts,ops,o.guard,st,st.h.length⟩ o.op):=by
 simp only[jo]at h;cases hg:o.guard <;>rw[hg]at h <;>exact h
theorem Iy (hts:ts.ok P)(hG:ConsOk P G)(hr:ROk N ops){Q:Exit->Act->World->Prop}{K:St->Prop}{Z:Value->St->Prop}(hZ:∀ x own st a w,StRel F w0 N own st a w->Z x st->Q (.panic [{ v:=x,recovered:=false}]) a w):
  ∀ (rest:List Oper) (n:Nat) (own:Own) (st:St) (a:Act) (w:World),ops.drop n=rest->SInv F w0 N ops (· <n) own st a w->jo ts G ops rest st K Z->
  (∀ own st a w,SInv F w0 N ops (· <ops.length) own st a w->K st->Q .normal a w)->wpListIn (rd ro) nd P ops.toArray Q rest a w
 | [],n,own,st,a,w,hd,hi,hx,hK=>by
  have hn:ops.length<=n:=by
   have:=congrArg List.length hd;simp at this;omega
  exact hK own st a w (hi.all hr hn) hx
 |o::rest,n,own,st,a,w,hd,hi,hx,hK=>by
  obtain⟨ho,hd'⟩:=B6 hd;have ih:=fun own' st' a' w' (hi':SInv F w0 N ops (· <n+1) own' st' a' w') hx'=>Iy hts hG hr hZ rest (n+1) own' st' a' w' hd' hi' hx' hK;obtain⟨h1,h2⟩:=JW (ro:=ro) (nd:=nd) hts hG hr (tU n) (Nat.lt_irrefl n) ho (fun j b e=>hr.lt n o j b ho e) hi hZ (E3 hx) ih;by_cases hgo:GOk ops a o.guard
  ·obtain⟨hnd,h1⟩:=h1 hgo;unfold wpListIn;rw[if_pos (nD.2 hgo)];refine⟨fun _ _=>trivial,?_⟩;rw[Oper.semAt_eq _ _ _ hnd];exact h1
  ·have hw:Region.wanted o (yielded ops.toArray a.tmps)=false:=by
    cases hb:Region.wanted o (yielded ops.toArray a.tmps)with
    |false=>rfl
    |true=>exact absurd (nD.1 hb) hgo
   unfold wpListIn;rw[if_neg (by simp[hw])];exact⟨fun _ _=>trivial,h2 hgo⟩
end
def XN (o:Ob):Prop:=o=.dead\/o=.fwd none
def ObUp (o o':Ob):Prop:=o=o'\/(∃ (kk vk:Tag) (l:List (kk.T×vk.T)) (p p':Option (Nat×Option kk.T)),o=.mp kk vk l p/\o'=.mp kk vk l p')\/(XN o/\XN o')
theorem ObUp.refl (o:Ob):ObUp o o:=.inl rfl
theorem ObUp.symm {a b:Ob}(h:ObUp a b):ObUp b a:=by
 rcases h with rfl| ⟨kk,vk,l,p,p',e1,e2⟩ | ⟨h1,h2⟩
 ·exact .inl rfl
 ·exact .inr (.inl ⟨kk,vk,l,p',p,e2,e1⟩)
 ·exact .inr (.inr ⟨h2,h1⟩)
theorem ObUp.trans {a b c:Ob}(h:ObUp a b)(h':ObUp b c):ObUp a c:=by
 rcases h with rfl| ⟨kk,vk,l,p,p',e1,e2⟩ | ⟨h1,h2⟩
 ·exact h'
 ·rcases h' with rfl| ⟨kk',vk',l',q,q',e3,e4⟩ | ⟨h3,h4⟩
  ·exact .inr (.inl ⟨kk,vk,l,p,p',e1,e2⟩)
  ·rw[e2]at e3;cases e3;exact .inr (.inl ⟨kk,vk,l,p,q',e1,e4⟩)
  ·rw[e2]at h3;rcases h3 with h3|h3 <;>cases h3
 ·rcases h' with rfl| ⟨kk',vk',l',q,q',e3,e4⟩ | ⟨h3,h4⟩
  ·exact .inr (.inr ⟨h1,h2⟩)
  ·rw[e3]at h2;rcases h2 with h2|h2 <;>cases h2
  ·exact .inr (.inr ⟨h1,h4⟩)
theorem D1 (a b:List Up):eN (a++b)=eN a++eN b:=by
 induction a with
 |nil=>rfl
 |cons x r ih=>simp[eN,ih]
section
variable {h h':List Ob}
theorem GK (ti:TI){s:SV}(hh:∀ id∈fT s,al h id=al h' id):qZ ti h s=qZ ti h' s:=by
 cases s <;>first|rfl|(simp only[fT,List.mem_singleton,forall_eq]at hh;simp only[qZ,hh])
theorem yY (n:Nat){s:SV}(l:Option (List SV))(hh:∀ id∈fT s,al h id=al h' id):rN n h s l=rN n h' s l:=by
 cases l <;>cases s <;>first|rfl|(simp only[fT,List.mem_singleton,forall_eq]at hh;simp only[rN,hh])
theorem E4 (n nx:Nat){s sx:SV}(hh:∀ id∈fT s++fT sx,al h id=al h' id):rO n nx h s sx=rO n nx h' s sx:=by
 have h1:∀ id∈fT s,al h id=al h' id:=fun id hi=>hh id (List.mem_append_left _ hi);unfold rO;split
 ·rename_i sz id i off rid;have e1:=h1 id (by simp[fT]);have e2:=hh rid (by simp[fT]);rw[e1,yY n _ h1];cases al h' id with
  |grid k l=>simp only[Bx,e2]
  |_=>rfl
 ·exact yY _ _ h1
theorem E5 (ti:TI)(n:Nat){s:SV}(i:SV)(hh:∀ id∈fT s,al h id=al h' id):hM ti n h s i=hM ti n h' s i:=by
 cases i with
 |v x=>cases x <;>cases s <;>first|rfl|(simp only[fT,List.mem_singleton,forall_eq]at hh;simp only[hM,hh])
 |_=>cases s <;>rfl
theorem E6 (ti:TI)(n nx:Nat){s:SV}(lo hi:Option SV)(vq:Bool)(hh:∀ id∈fT s,al h id=al h' id):nV ti n nx h lo hi vq s=nV ti n nx h' lo hi vq s:=by
 cases s <;>first|rfl|(simp only[fT,List.mem_singleton,forall_eq]at hh;simp only[nV,hh])
theorem GL (ti:TI)(ok:Bool)(key:SV){s:SV}(hh:∀ id∈fT s,al h id=al h' id):tL ti h ok key s=tL ti h' ok key s:=by
 cases s <;>first|rfl|(rename_i x;cases x <;>first|rfl|(rename_i y;cases y <;>rfl)) |(simp only[fT,List.mem_singleton,forall_eq]at hh;simp only[tL,hh])
theorem Iz (ti:TI)(key:SV){s:SV}(hh:∀ id∈fT s,ObUp (al h id) (al h' id)):tL ti h false key s=tL ti h' false key s:=by
 cases s with
 |os id=>
  simp only[fT,List.mem_singleton,forall_eq]at hh;simp only[tL];rcases hh with e| ⟨kk,vk,l,p,p',e1,e2⟩ | ⟨h1,h2⟩
  ·rw[e]
  ·rw[e1,e2];simp only[Ga,Bool.not_false,Bool.true_or]
  ·rcases h1 with h1|h1 <;>rcases h2 with h2|h2 <;>rw[h1,h2] <;>rfl
 |v x=>cases x <;>first|rfl|(rename_i y;cases y <;>rfl)
 |_=>rfl
theorem B9 (ti:TI)(key v:SV){s:SV}(hh:∀ id∈fT s,al h id=al h' id):AJ ti h key v s=AJ ti h' key v s:=by
 cases s <;>first|rfl|(simp only[fT,List.mem_singleton,forall_eq]at hh;simp only[AJ,hh])
theorem IA (ti:TI)(nx:Nat){h h':List Ob}{s:SV}(h1:∀ id∈fT s,al h id=al h' id):BD ti nx h s=BD ti nx h' s:=by
 cases s with
 |os id=>simp only[BD];rw[h1 id (by simp[fT])]
 |_=>rfl
theorem GM {h h':List Ob}{s:SV}(h1:∀ id∈fT s++MQ h s,al h id=al h' id):An h s=An h' s:=by
 cases s with
 |ptr id off=>
  cases off with
  |zero=>
   have e:=h1 id (by simp[fT]);simp only[An];rw[<-e];cases ho:al h id with
   |mi mid n left cur=>
    cases mid with
    |none=>rfl
    |some mid=>
     cases cur with
     |none=>rfl
     |some j=>
      simp only[JH];rw[h1 mid (by simp[MQ,ho,MP])]
   |_=>rfl
  |succ n=>rfl
 |_=>rfl
theorem IB (ti:TI)(nx:Nat)(key:SV){s:SV}(hh:∀ id∈fT s,al h id=al h' id):xE ti nx h key s=xE ti nx h' key s:=by
 cases s <;>first|rfl|(simp only[fT,List.mem_singleton,forall_eq]at hh;simp only[xE,hh])
theorem IC (ti:TI)(v:SV){s:SV}(n:SV)(hh:∀ id∈fT s,al h id=al h' id):EF ti h v s n=EF ti h' v s n:=by
 cases n with
 |os x=>cases s <;>first|rfl|(simp only[fT,List.mem_singleton,forall_eq]at hh;simp only[EF,hh])
 |_=>cases s <;>rfl
theorem ID (ti te:TI)(l:List SV)(hh:∀ id∈qi l,al h id=al h' id):yc ti te h l=yc ti te h' l:=by
 match l with
 | [] =>rfl
 | [x] =>cases x <;>first|rfl|(simp only[yc];rw[hh _ (by simp[qi,EG,fT])])
 |x::_::_=>cases x <;>rfl
theorem IE (ti:TI)(l:List SV)(hh:∀ id∈qi l,al h id=al h' id):yd ti h l=yd ti h' l:=by
 match l with
 | [] =>rfl
 | [x] =>cases x <;>rfl
 | [x,y] =>cases x <;>first|rfl|(simp only[yd];rw[hh _ (by simp[qi,EG,fT])])
 |x::_::_::_=>cases x <;>rfl
theorem IF (ti:TI)(l:List SV)(hh:∀ id∈qi l,al h id=al h' id):sN ti h l=sN ti h' l:=by
 match l with
 | [] =>rfl
 | [x] =>
  cases x <;>first|rfl|(rename_i y;cases y <;>first|rfl|(rename_i a n c;cases a <;>cases n <;>cases c <;>rfl)) |(simp only[qi,EG,fT,List.append_nil,List.mem_singleton,forall_eq]at hh;simp only[sN,hh])
 |x::_::_=>cases x <;>first|rfl|(rename_i y;cases y <;>first|rfl|(rename_i a n c;cases a <;>cases n <;>cases c <;>rfl))
theorem E7 (id:Nat)(r:List SV):id∈qi (.os id::r):=by simp[qi,EG,fT]
theorem JX (x:SV)(id:Nat)(r:List SV):id∈qi (x:: .ls [.os id]::r):=by simp[qi,EG]
theorem Ng (x:SV)(id:Nat)(r:List SV):id∈qi (x:: .os id::r):=by simp[qi,EG,fT]
theorem Nh (x:SV)(s id:Nat)(lo hi:Int)(r:List SV):id∈qi (x:: .vw s id lo hi::r):=by simp[qi,EG,fT]
theorem B_ (k:Tag)(x s:SV)(r:List SV)(hh:∀ id∈qi (x::s::r),al h id=al h' id):tF k h s=tF k h' s:=by
 cases s with
 |os id=>simp only[tF];rw[hh id (Ng x id r)]
 |vw s id lo hi=>simp only[tF];rw[hh id (Nh x s id lo hi r)]
 |v y=>cases y <;>first|rfl|(rename_i a n c;cases a <;>cases n <;>cases c <;>rfl)
 |_=>rfl
theorem IG (te:TI)(nx:Nat)(l:List SV)(hh:∀ id∈qi l,al h id=al h' id):nU te nx h l=nU te nx h' l:=by
 have hO:∀ (kill:List Up) (s x:SV) (o:Ob),(∀ id∈qi [x,s],al h id=al h' id)->u_ te nx kill h s o=u_ te nx kill h' s o:=by
  intro kill s x o hh;cases o with
  |row k l=>simp only[u_];rw[B_ k x s [] hh]
  |_=>rfl
 have hGo:∀ (id2:Nat) (kill:List Up) (o:Ob),al h id2=al h' id2->Am nx te.bytes h id2 kill o=Am nx te.bytes h' id2 kill o:=by
  intro id2 kill o e;cases o with
  |grid k l=>simp only[Am,e]
  |_=>rfl
 have hT:∀ (s x:SV) (o:Option Tag),(∀ id∈qi [x,s],al h id=al h' id)->va te nx h s o=va te nx h' s o:=by
  intro s x o hh;cases o with
  |none=>rfl
  |some k=>exact hO [] s x (.row k []) hh
 unfold nU;split
 ·rename_i id id2;rw[hGo id2 _ _ (hh id2 (JX _ _ _)),hh id (E7 _ _)]
 ·rename_i id2;rw[hh id2 (JX _ _ _)]
 ·rename_i id id2;rw[hO _ (.os id2) _ _ hh,hh id (E7 _ _)]
 ·rename_i id s _ _;rw[hO _ s _ _ hh,hh id (E7 _ _)]
 ·rename_i s _;exact hT s _ _ hh
 ·rename_i s;exact hT s _ _ hh
 ·rename_i k l s;unfold Ld;rw[B_ k _ s [] hh]
 ·rfl
end
theorem sU {ts:Tis}{ops:List Oper}{g:Option (Nat×Bool)}{h h':List Ob}{nx nx':Nat}{t t':List (Nat×SV)}:∀ (l:List Operand),(∀ x∈l,raw t x=raw t' x)->cA ⟨ts,ops,g,⟨t,h⟩,nx⟩ l=cA ⟨ts,ops,g,⟨t',h'⟩,nx'⟩ l
 | [],_=>rfl
 |x::r,hx=>by
  simp only[cA];rw[sU r fun y hy=>hx y (by simp[hy])];have:val ⟨ts,ops,g,⟨t,h⟩,nx⟩ x=val ⟨ts,ops,g,⟨t',h'⟩,nx'⟩ x:=by show be ops g (raw t x)=be ops g (raw t' x);rw[hx x (by simp)]
  rw[this]
theorem tV {ts:Tis}{ops:List Oper}{g:Option (Nat×Bool)}{h h':List Ob}{nx nx':Nat}{t t':List (Nat×SV)}:∀ (l:List (Nat×Operand)),(∀ x∈l,raw t x.2=raw t' x.2)->gU ⟨ts,ops,g,⟨t,h⟩,nx⟩ l=gU ⟨ts,ops,g,⟨t',h'⟩,nx'⟩ l
 | [],_=>rfl
 |(i,x)::r,hx=>by
  simp only[gU];rw[tV r fun y hy=>hx y (by simp[hy])];have:val ⟨ts,ops,g,⟨t,h⟩,nx⟩ x=val ⟨ts,ops,g,⟨t',h'⟩,nx'⟩ x:=by show be ops g (raw t x)=be ops g (raw t' x);rw[hx (i,x) (by simp)]
  rw[this]
theorem sV {ts:Tis}{ops:List Oper}{g:Option (Nat×Bool)}{h h':List Ob}{nx nx':Nat}{t t':List (Nat×SV)}(o:Option Operand)(hx:∀ x∈o,raw t x=raw t' x):pa ⟨ts,ops,g,⟨t,h⟩,nx⟩ o=pa ⟨ts,ops,g,⟨t',h'⟩,nx'⟩ o:=by
 cases o with
 |none=>rfl
 |some x=>show some (be ops g (raw t x))=some (be ops g (raw t' x));rw[hx x rfl]
theorem LL {ts:Tis}{ops:List Oper}{g:Option (Nat×Bool)}{h h':List Ob}{nx:Nat}{t t':List (Nat×SV)}(op:Op)(hx:∀ x∈op.operands.toList,raw t x=raw t' x)
  (h1:∀ id∈(fpO ⟨ts,ops,g,⟨t,h⟩,nx⟩ op).1,al h id=al h' id) (h2:∀ id∈(fpO ⟨ts,ops,g,⟨t,h⟩,nx⟩ op).2,ObUp (al h id) (al h' id)):
  opS ⟨ts,ops,g,⟨t,h⟩,nx⟩ op=opS ⟨ts,ops,g,⟨t',h'⟩,nx⟩ op:=by
 have hv:∀ x∈op.operands.toList,val ⟨ts,ops,g,⟨t',h'⟩,nx⟩ x=val ⟨ts,ops,g,⟨t,h⟩,nx⟩ x:=fun x hm=>by
  show be ops g (raw t' x)=be ops g (raw t x);rw[hx x hm]
 cases op with
 |call c=>
  obtain⟨callee,args,tys⟩:=c;have ha:cA ⟨ts,ops,g,⟨t',h'⟩,nx⟩ args.toList=cA ⟨ts,ops,g,⟨t,h⟩,nx⟩ args.toList:=(sU _ fun x hm=>hx x (by simp[Op.operands,Call.operands];right;simpa using hm)).symm;cases callee with
  |value f=>
   have hf:=hv f (by simp[Op.operands,Call.operands]);show yJ _ _=yJ _ _;rw[ha,hf]
  |invoke f m=>rfl
  |builtin b=>
   cases b <;>first|rfl|skip
   ·show(match tys.toList with| [t1,t2] =>aD ts t1 fun ti=>aD ts t2 fun ti2=>aD ts ti.elem fun te=>bif ti.isSlice&&ti2.isSlice then nU te nx h (cA ⟨ts,ops,g,⟨t,h⟩,nx⟩ args.toList)else .bad|_=>.bad)=(match tys.toList with| [t1,t2] =>aD ts t1 fun ti=>aD ts t2 fun ti2=>aD ts ti.elem fun te=>bif ti.isSlice&&ti2.isSlice then nU te nx h' (cA ⟨ts,ops,g,⟨t',h'⟩,nx⟩ args.toList)else .bad|_=>.bad);rw[ha];have e:∀ te:TI,nU te nx h (cA ⟨ts,ops,g,⟨t,h⟩,nx⟩ args.toList)=nU te nx h' (cA ⟨ts,ops,g,⟨t,h⟩,nx⟩ args.toList):=fun te=>IG te nx _ h1;simp only[e]
   ·show(match tys.toList with| [t1] =>aD ts t1 fun ti=>aD ts ti.elem fun te=>yc ti te h (cA ⟨ts,ops,g,⟨t,h⟩,nx⟩ args.toList) |_=>.bad)=(match tys.toList with| [t1] =>aD ts t1 fun ti=>aD ts ti.elem fun te=>yc ti te h' (cA ⟨ts,ops,g,⟨t',h'⟩,nx⟩ args.toList) |_=>.bad);rw[ha];have e:∀ ti te:TI,yc ti te h (cA ⟨ts,ops,g,⟨t,h⟩,nx⟩ args.toList)=yc ti te h' (cA ⟨ts,ops,g,⟨t,h⟩,nx⟩ args.toList):=fun ti te=>ID ti te _ h1;simp only[e]
   ·show(match tys.toList with|t1::_=>aD ts t1 fun ti=>yd ti h (cA ⟨ts,ops,g,⟨t,h⟩,nx⟩ args.toList) |_=>.bad)=(match tys.toList with|t1::_=>aD ts t1 fun ti=>yd ti h' (cA ⟨ts,ops,g,⟨t',h'⟩,nx⟩ args.toList) |_=>.bad);rw[ha];have e:∀ ti:TI,yd ti h (cA ⟨ts,ops,g,⟨t,h⟩,nx⟩ args.toList)=yd ti h' (cA ⟨ts,ops,g,⟨t,h⟩,nx⟩ args.toList):=fun ti=>IE ti _ h1;simp only[e]
   ·show(match tys.toList with| [t''] =>aD ts t'' fun ti=>sN ti h (cA ⟨ts,ops,g,⟨t,h⟩,nx⟩ args.toList) |_=>.bad)=(match tys.toList with| [t''] =>aD ts t'' fun ti=>sN ti h' (cA ⟨ts,ops,g,⟨t',h'⟩,nx⟩ args.toList) |_=>.bad);rw[ha];have e:∀ ti:TI,sN ti h (cA ⟨ts,ops,g,⟨t,h⟩,nx⟩ args.toList)=sN ti h' (cA ⟨ts,ops,g,⟨t,h⟩,nx⟩ args.toList):=fun ti=>IF ti _ h1;simp only[e]
   ·show EE _=EE _;rw[ha]
   ·show ED _=ED _;rw[ha]
 |build ty parts=>
  have ha:gU ⟨ts,ops,g,⟨t',h'⟩,nx⟩ parts.toList=gU ⟨ts,ops,g,⟨t,h⟩,nx⟩ parts.toList:=(tV _ fun x hm=>hx x.2 (by simp[Op.operands];exact⟨x.1,by simpa using hm⟩)).symm;simp only[opS,ha]
 |buildSlice ty n parts=>
  have ha:gU ⟨ts,ops,g,⟨t',h'⟩,nx⟩ parts.toList=gU ⟨ts,ops,g,⟨t,h⟩,nx⟩ parts.toList:=(tV _ fun x hm=>hx x.2 (by simp[Op.operands];exact⟨x.1,by simpa using hm⟩)).symm;simp only[opS,ha]
 |makeFunc fn first caps=>
  have ha:cA ⟨ts,ops,g,⟨t',h'⟩,nx⟩ caps.toList=cA ⟨ts,ops,g,⟨t,h⟩,nx⟩ caps.toList:=(sU _ fun x hm=>hx x (by simp[Op.operands];right;simpa using hm)).symm;have hb:cA ⟨ts,ops,g,⟨t',h'⟩,nx⟩ first.toList=cA ⟨ts,ops,g,⟨t,h⟩,nx⟩ first.toList:=(sU _ fun x hm=>hx x (by simp[Op.operands];left;simpa using hm)).symm
  simp only[opS,ha,hb]
 |pick c x y=>
  have h1:=hx c (by simp[Op.operands]);have h2:=hx x (by simp[Op.operands]);have h3:=hx y (by simp[Op.operands]);have h4:=hv c (by simp[Op.operands]);simp only[opS,h2,h3,h4]
 |move x=>simp only[opS,hv x (by simp[Op.operands])]
 |assign x=>simp only[opS,hv x (by simp[Op.operands])]
 |box ty x=>simp only[opS,hv x (by simp[Op.operands])]
 |load ty x=>
  simp only[opS,hv x (by simp[Op.operands])];exact congrArg _ (funext fun ti=>GK ti h1)
 |store ty x y=>
  simp only[opS,hv x (by simp[Op.operands]),hv y (by simp[Op.operands])];exact congrArg _ (funext fun ti=>E4 _ _ h1)
 |nilCheck x=>simp only[opS,hv x (by simp[Op.operands])]
 |binOp op xt x y yt=>simp only[opS,hv x (by simp[Op.operands]),hv y (by simp[Op.operands])]
 |unOp op xt x=>simp only[opS,hv x (by simp[Op.operands])]
 |convert a b x=>simp only[opS,hv x (by simp[Op.operands])]
 |panic x=>simp only[opS,hv x (by simp[Op.operands])]
 |makeInterface ty x=>simp only[opS,hv x (by simp[Op.operands])]
 |typeAssert x st ty ok=>simp only[opS,hv x (by simp[Op.operands])]
 |fieldAddr ty x f=>simp only[opS,hv x (by simp[Op.operands])]
 |field ty x f=>simp only[opS,hv x (by simp[Op.operands])]
 |indexAddr ty x y=>
  simp only[opS,hv x (by simp[Op.operands]),hv y (by simp[Op.operands])];exact congrArg _ (funext fun ti=>congrArg _ (funext fun te=>E5 _ _ _ h1))
 |extract x i=>simp only[opS,hv x (by simp[Op.operands])]
 |makeSlice ty n c=>simp only[opS,hv n (by simp[Op.operands]),hv c (by simp[Op.operands])]
 |slice ty x lo hi mx=>
  cases mx with
  |some m=>
   have e1:pa ⟨ts,ops,g,⟨t',h'⟩,nx⟩ lo=pa ⟨ts,ops,g,⟨t,h⟩,nx⟩ lo:=(sV lo fun y hy=>hx y (by simp[Op.operands];cases hy;simp)).symm;have e2:pa ⟨ts,ops,g,⟨t',h'⟩,nx⟩ hi=pa ⟨ts,ops,g,⟨t,h⟩,nx⟩ hi:=(sV hi fun y hy=>hx y (by simp[Op.operands];cases hy;simp)).symm;simp only[opS,hv x (by simp[Op.operands]),hv m (by simp[Op.operands]),e1,e2]
  |none=>
   have e1:pa ⟨ts,ops,g,⟨t',h'⟩,nx⟩ lo=pa ⟨ts,ops,g,⟨t,h⟩,nx⟩ lo:=(sV lo fun y hy=>hx y (by simp[Op.operands];cases hy;simp)).symm;have e2:pa ⟨ts,ops,g,⟨t',h'⟩,nx⟩ hi=pa ⟨ts,ops,g,⟨t,h⟩,nx⟩ hi:=(sV hi fun y hy=>hx y (by simp[Op.operands];cases hy;simp)).symm;simp only[opS,hv x (by simp[Op.operands]),e1,e2];exact congrArg _ (funext fun ti=>congrArg _ (funext fun te=>E6 _ _ _ _ _ _ h1))
 |makeMap ty n=>cases n <;>rfl
 |lookup ty m k ok=>
  simp only[opS,hv m (by simp[Op.operands]),hv k (by simp[Op.operands])];refine congrArg _ (funext fun ti=>?_);cases ok with
  |true=>exact GL ti _ _ h1
  |false=>exact Iz ti _ h2
 |mapUpdate ty m k v=>
  simp only[opS,hv m (by simp[Op.operands]),hv k (by simp[Op.operands]),hv v (by simp[Op.operands])];exact congrArg _ (funext fun ti=>B9 ti _ _ h1)
 |insert ty m k v=>
  simp only[opS,hv m (by simp[Op.operands]),hv k (by simp[Op.operands]),hv v (by simp[Op.operands])];exact congrArg _ (funext fun ti=>B9 ti _ _ h1)
 |mapEntry ty m k=>
  simp only[opS,hv m (by simp[Op.operands]),hv k (by simp[Op.operands])];exact congrArg _ (funext fun ti=>IB ti _ _ h1)
 |entryStore ty m s v=>
  simp only[opS,hv m (by simp[Op.operands]),hv s (by simp[Op.operands]),hv v (by simp[Op.operands])];exact congrArg _ (funext fun ti=>IC ti _ _ h1)
 |range ty x=>
  simp only[opS,hv x (by simp[Op.operands])];exact congrArg _ (funext fun ti=>IA ti nx h1)
 |next it isS=>cases isS <;>simp only[opS,hv it (by simp[Op.operands])]
 |entry it=>
  simp only[opS,hv it (by simp[Op.operands])];exact GM h1
 |_=>rfl
structure DOk (ops:List Oper):Prop where
 back:∀ (i:Nat) (o:Oper) (e:Edge),ops[i]? =some o->e∈o.after->Region.binds .any e=true->e.on<i
 uniq:∀ (i k:Nat) (o q:Oper) (d:Nat),ops[i]? =some o->ops[k]? =some q->o.dst=some d->q.dst=some d->i=k
 look:∀ (i k:Nat) (o q:Oper) (d:Nat),ops[i]? =some o->ops[k]? =some q->q.dst=some d->d∈o.looksAt ops.toArray->k=i\/(k<i/\ql o k=true)\/(i<k/\ql q i=true)
theorem Tp {ops:List Oper}(h:Ib ops.toArray=true):DOk ops:=by
 have h':∀ (i:Nat) (o:Oper),ops[i]? =some o->(o.after.toList.all fun e=>!(Region.binds .any e) ||Nat.blt e.on i)=true/\
   ∀ (k:Nat) (q:Oper),ops[k]? =some q->∀ d,q.dst=some d->(Nat.beq k i|| !(o.dst==some d))=true/\(!((o.looksAt ops.toArray).contains d) ||Nat.beq k i||(Nat.blt k i&&ql o k) ||(Nat.blt i k&&ql q i))=true:=by
  intro i o ho;unfold Ib at h;rw[List.all_eq_true]at h;have:=h i (by simpa using (List.getElem?_eq_some_iff.1 ho).1);simp only[fU,ho,Bool.and_eq_true]at this;refine⟨this.1,fun k q hq d hd=>?_⟩;have h2:=this.2;rw[List.all_eq_true]at h2;have:=h2 k (by simpa using (List.getElem?_eq_some_iff.1 hq).1);simp only[hq,hd,Bool.and_eq_true]at this;exact this
 refine⟨fun i o e ho he hb=>?_,fun i k o q d ho hq hd hqd=>?_,fun i k o q d ho hq hd hm=>?_⟩
 ·have:=(h' i o ho).1;rw[List.all_eq_true]at this;have:=this e (by simpa using he);simp only[hb,Bool.not_true,Bool.false_or]at this;exact nbl this
 ·have:=((h' i o ho).2 k q hq d hqd).1;simp only[hd,beq_self_eq_true,Bool.not_true,Bool.or_false]at this;exact(Nat.eq_of_beq_eq_true this).symm
 ·have:=((h' i o ho).2 k q hq d hd).2;have hc:(o.looksAt ops.toArray).contains d=true:=by simpa using hm
  simp only[hc,Bool.not_true,Bool.false_or,Bool.or_eq_true,Bool.and_eq_true]at this;rcases this with(h1|h1) |h1
  ·exact .inl (Nat.eq_of_beq_eq_true h1)
  ·exact .inr (.inl ⟨nbl h1.1,h1.2⟩)
  ·exact .inr (.inr ⟨nbl h1.1,h1.2⟩)
theorem Tq {ts:Tis}{ops:List Oper}{g:Option (Nat×Bool)}{st:St}{nx nx':Nat}{op:Op}{r:OR}(h:opS ⟨ts,ops,g,st,nx⟩ op=r)(hn:∀ c a ups s,r=.eff c a ups s->nx ∉ eN ups):opS ⟨ts,ops,g,st,nx'⟩ op=r:=by
 have hv:∀ x,val ⟨ts,ops,g,st,nx'⟩ x=val ⟨ts,ops,g,st,nx⟩ x:=fun x=>rfl;have hvs:∀ l,cA ⟨ts,ops,g,st,nx'⟩ l=cA ⟨ts,ops,g,st,nx⟩ l:=fun l=>sU l fun _ _=>rfl;have hps:∀ l,gU ⟨ts,ops,g,st,nx'⟩ l=gU ⟨ts,ops,g,st,nx⟩ l:=fun l=>tV l fun _ _=>rfl;have hvo:∀ o,pa ⟨ts,ops,g,st,nx'⟩ o=pa ⟨ts,ops,g,st,nx⟩ o:=fun o=>sV o fun _ _=>rfl;have hT:∀ (t:TypeId) (k k':TI->OR),aD ts t k=r->(∀ ti,k ti=r->k' ti=r)->aD ts t k'=r:=by
  intro t k k' e hk;unfold aD at e |-;cases ht:ts t with
  |none=>rw[ht]at e;exact e
  |some ti=>rw[ht]at e;exact hk ti e
 have hNew:∀ l,EC nx l=r->EC nx' l=r:=by
  intro l e;cases l with
  |none=>exact e
  |some l=>exact absurd (by simp[eN]) (hn _ _ _ _ e.symm)
 cases op with
 |alloc t=>exact hT _ _ _ h fun ti e=>hNew _ e
 |box t x=>exact hNew _ h
 |store t x y=>
  refine hT _ _ _ h fun ti e=>?_;change rO ti.size nx st.h (val ⟨ts,ops,g,st,nx⟩ x) (val ⟨ts,ops,g,st,nx⟩ y)=r at e;change rO ti.size nx' st.h (val ⟨ts,ops,g,st,nx⟩ x) (val ⟨ts,ops,g,st,nx⟩ y)=r;unfold rO at e |-;split at e
  ·rename_i sz id i off rid _ _;cases hg:EB (al st.h id)with
   |false=>rw[hg]at e;exact e
   |true=>
    rw[hg]at e;simp only[cond_true]at e |-;cases hc:Nat.beq ti.size 1&&Nat.beq sz 1&&Nat.beq off 0&& !(Nat.beq id rid)with
    |false=>rw[hc]at e;exact e
    |true=>
     rw[hc]at e;simp only[cond_true]at e |-;cases ho:al st.h id with
     |grid k l=>
      rw[ho]at e;simp only[Bx]at e |-;cases hr:H5 k (al st.h rid)with
      |none=>rw[hr]at e;exact e
      |some m=>rw[hr]at e;exact absurd (by simp[eN]) (hn _ _ _ _ e.symm)
     |_=>rw[ho]at e;exact e
  ·exact e
 |makeSlice t n c=>
  refine hT _ _ _ h fun ti e=>hT _ _ _ e fun te e=>?_;cases hb:ti.isSlice with
  |false=>rw[hb]at e;exact e
  |true=>
   rw[hb]at e;simp only[cond_true]at e |-;cases hb2:te.isSlice with
   |true=>
    rw[hb2]at e;simp only[cond_true]at e |-;refine hT _ _ _ e fun tr e=>?_;change Df nx te tr (val ⟨ts,ops,g,st,nx⟩ n) (val ⟨ts,ops,g,st,nx⟩ c)=r at e;change Df nx' te tr (val ⟨ts,ops,g,st,nx⟩ n) (val ⟨ts,ops,g,st,nx⟩ c)=r;unfold Df at e |-;split at e
    ·rename_i a b _ _;cases ht:tr.tag with
     |none=>rw[ht]at e;exact e
     |some k=>
      rw[ht]at e;unfold PC at e |-;simp only at e |-;cases hz:Nat.beq te.size 1&&MJ te.zero&&Nat.ble 1 te.bytes with
      |false=>rw[hz]at e;exact e
      |true=>rw[hz]at e;exact absurd (by simp[eN]) (hn _ _ _ _ e.symm)
    ·exact e
   |false=>
   rw[hb2]at e;simp only[cond_false]at e |-;change mkS nx te (val ⟨ts,ops,g,st,nx⟩ n) (val ⟨ts,ops,g,st,nx⟩ c)=r at e;change mkS nx' te (val ⟨ts,ops,g,st,nx⟩ n) (val ⟨ts,ops,g,st,nx⟩ c)=r;unfold mkS at e |-;split at e
   ·rename_i a b _ _;cases ht:te.tag with
    |none=>rw[ht]at e;exact e
    |some k=>rw[ht]at e;exact absurd (by simp[eN]) (hn _ _ _ _ e.symm)
   ·exact e
 |slice t x lo hi m=>
  cases m with
  |some m=>
   refine hT _ _ _ h fun ti e=>hT _ _ _ e fun te e=>?_;rw[hvo,hvo];exact e
  |none=>
   refine hT _ _ _ h fun ti e=>hT _ _ _ e fun te e=>?_;rw[hvo,hvo];change nV ti te.size nx st.h _ _ _ (val ⟨ts,ops,g,st,nx⟩ x)=r at e;change nV ti te.size nx' st.h _ _ _ (val ⟨ts,ops,g,st,nx⟩ x)=r;unfold nV at e |-;split at e
   ·exact e
   ·rename_i id _;cases hb:ti.isSlice with
    |false=>rw[hb]at e;exact e
    |true=>
     rw[hb]at e;simp only[cond_true]at e |-;cases hv:(DK hi&&F8 ops)with
     |true=>rw[hv]at e;exact e
     |false=>
     rw[hv]at e;simp only[cond_false]at e |-;unfold ML at e |-;split at e
     ·rename_i k l _;cases hb:Nat.beq te.size (ae k)with
      |false=>rw[hb]at e;exact e
      |true=>
       rw[hb]at e;simp only[cond_true]at e |-;unfold PD at e |-;split at e
       ·exact absurd (by simp[eN]) (hn _ _ _ _ e.symm)
       ·exact e
     ·exact e
   ·exact e
 |makeMap t n=>
  cases n with
  |some n=>exact h
  |none=>
   refine hT _ _ _ h fun ti e=>?_;change mmR nx ti.mkt ti.mvt=r at e;change mmR nx' ti.mkt ti.mvt=r;unfold mmR at e |-;split at e
   ·exact absurd (by simp[eN]) (hn _ _ _ _ e.symm)
   ·exact e
 |call c=>
  obtain⟨callee,args,tys⟩:=c;cases callee with
  |value f=>rw[<-h];show yJ _ _=yJ _ _;rw[hvs];rfl
  |invoke f m=>exact h
  |builtin b=>
   cases b <;>first|exact h|skip
   ·change (match tys.toList with| [t1,t2] =>aD ts t1 fun ti=>aD ts t2 fun ti2=>aD ts ti.elem fun te=>bif ti.isSlice&&ti2.isSlice then nU te nx st.h (cA ⟨ts,ops,g,st,nx⟩ args.toList)else .bad|_=>.bad)=r at h;show(match tys.toList with| [t1,t2] =>aD ts t1 fun ti=>aD ts t2 fun ti2=>aD ts ti.elem fun te=>bif ti.isSlice&&ti2.isSlice then nU te nx' st.h (cA ⟨ts,ops,g,st,nx'⟩ args.toList)else .bad|_=>.bad)=r;rw[hvs];split at h
    ·refine hT _ _ _ h fun ti e=>hT _ _ _ e fun ti2 e=>hT _ _ _ e fun te e=>?_;cases hb:ti.isSlice&&ti2.isSlice with
     |false=>rw[hb]at e;exact e
     |true=>
      rw[hb]at e;simp only[cond_true]at e |-;have hR:∀ k b kill l m,MG k nx b kill l m=r->MG k nx' b kill l m=r:=by
       intro k b kill l m e;cases m with
       |none=>exact e
       |some m=>exact absurd (by simp only[D1];simp[eN]) (hn _ _ _ _ e.symm)
      have hGs:∀ k b id2 kill l m,Bz k nx b id2 kill l m=r->Bz k nx' b id2 kill l m=r:=by
       intro k b id2 kill l m e;cases m with
       |none=>exact e
       |some m=>exact absurd (by simp only[D1];simp[eN]) (hn _ _ _ _ e.symm)
      have hO:∀ kill src o,u_ te nx kill st.h src o=r->u_ te nx' kill st.h src o=r:=by
       intro kill src o e;cases o with
       |row k l=>
        simp only[u_]at e |-;cases hb:Nat.beq te.size (ae k)&&Nat.beq (sz te.zero) te.size&&Nat.ble 1 te.bytes with
        |false=>rw[hb]at e;exact e
        |true=>rw[hb]at e;exact hR _ _ _ _ _ e
       |_=>exact e
      have hT2:∀ src o,va te nx st.h src o=r->va te nx' st.h src o=r:=by
       intro src o e;cases o with
       |none=>exact e
       |some k=>exact hO [] src (.row k []) e
      generalize cA ⟨ts,ops,g,st,nx⟩ args.toList=l at e |-;unfold nU at e |-;split at e
      ·rename_i id id2;cases hb:Nat.beq te.size 1&&Nat.beq (sz te.zero) 1&&Nat.ble 1 te.bytes&& !(Nat.beq id id2)with
       |false=>
        rw[hb]at e;exact e
       |true=>
        rw[hb]at e;simp only[cond_true]at e |-;unfold Am at e |-;split at e
        ·exact hGs _ _ _ _ _ _ e
        ·exact e
      ·rename_i id2;cases hb:Nat.beq te.size 1&&Nat.beq (sz te.zero) 1&&Nat.ble 1 te.bytes with
       |false=>rw[hb]at e;exact e
       |true=>
        rw[hb]at e;simp only[cond_true]at e |-;unfold MH at e |-;split at e
        ·exact hGs _ _ _ _ _ _ e
        ·exact e
      ·rename_i id id2;cases hb:Nat.beq id id2 with
       |false=>rw[hb]at e;exact hO _ _ _ e
       |true=>rw[hb]at e;exact e
      ·exact hO _ _ _ e
      ·exact hT2 _ _ e
      ·exact hT2 _ _ e
      ·rename_i k l src;unfold Ld at e |-;cases hb:Nat.beq te.size (ae k)&&Nat.beq (sz te.zero) te.size&&Nat.ble 1 te.bytes with
       |false=>rw[hb]at e;exact e
       |true=>
        rw[hb]at e;simp only[cond_true]at e |-;cases hs:tF k st.h src with
        |none=>rw[hs]at e;exact e
        |some m=>
         rw[hs]at e;cases m with
         |nil=>exact e
         |cons x m=>exact absurd (by simp[eN]) (hn _ _ _ _ e.symm)
      ·exact e
    ·exact h
   ·rw[<-h];show(match tys.toList with| [t1] =>aD ts t1 fun ti=>aD ts ti.elem fun te=>yc ti te st.h (cA ⟨ts,ops,g,st,nx'⟩ args.toList) |_=>.bad)=(match tys.toList with| [t1] =>aD ts t1 fun ti=>aD ts ti.elem fun te=>yc ti te st.h (cA ⟨ts,ops,g,st,nx⟩ args.toList) |_=>.bad);rw[hvs]
   ·rw[<-h];show(match tys.toList with|t1::_=>aD ts t1 fun ti=>yd ti st.h (cA ⟨ts,ops,g,st,nx'⟩ args.toList) |_=>.bad)=(match tys.toList with|t1::_=>aD ts t1 fun ti=>yd ti st.h (cA ⟨ts,ops,g,st,nx⟩ args.toList) |_=>.bad);rw[hvs]
   ·rw[<-h];show(match tys.toList with| [t''] =>aD ts t'' fun ti=>sN ti st.h (cA ⟨ts,ops,g,st,nx'⟩ args.toList) |_=>.bad)=(match tys.toList with| [t''] =>aD ts t'' fun ti=>sN ti st.h (cA ⟨ts,ops,g,st,nx⟩ args.toList) |_=>.bad);rw[hvs]
   ·rw[<-h];show EE _=EE _;rw[hvs]
   ·rw[<-h];show ED _=ED _;rw[hvs]
 |build ty parts=>rw[<-h];simp only[opS,hps]
 |buildSlice ty n parts=>
  refine hT _ _ _ h fun ti e=>hT _ _ _ e fun te e=>?_;change De (Dd ty ops g) nx te (bsS ti te n (gU ⟨ts,ops,g,st,nx⟩ parts.toList))=r at e;show De (Dd ty ops g) nx' te (bsS ti te n (gU ⟨ts,ops,g,st,nx'⟩ parts.toList))=r;rw[hps];generalize bsS ti te n (gU ⟨ts,ops,g,st,nx⟩ parts.toList)=o at e |-;unfold De at e |-;split at e
  ·rename_i kq lq;cases hb:(te.agg||one lq)&&noG (Dd ty ops g)with
   |false=>rw[hb]at e;exact e
   |true=>rw[hb]at e;exact absurd (by simp[eN]) (hn _ _ _ _ e.symm)
  ·exact e
 |makeFunc fn first caps=>rw[<-h];simp only[opS,hvs]
 |range ty x=>
  refine hT _ _ _ h fun ti e=>?_;change BD ti nx st.h (val ⟨ts,ops,g,st,nx⟩ x)=r at e;show BD ti nx' st.h (val ⟨ts,ops,g,st,nx'⟩ x)=r;rw[hv];generalize val ⟨ts,ops,g,st,nx⟩ x=s at e |-;cases s with
  |os id=>
   simp only[BD]at e |-;cases ho:al st.h id with
   |mp kk vk l pend=>
    rw[ho]at e;simp only[PG]at e |-;cases hb:kJ kk ti.mkt&&kJ vk ti.mvt&&noE pend with
    |false=>rw[hb]at e;exact e
    |true=>rw[hb]at e;exact absurd (by simp[eN]) (hn _ _ _ _ e.symm)
   |_=>rw[ho]at e;exact e
  |_=>exact e
 |mapEntry ty m k=>
  refine hT _ _ _ h fun ti e=>?_;change xE ti nx st.h (val ⟨ts,ops,g,st,nx⟩ k) (val ⟨ts,ops,g,st,nx⟩ m)=r at e;show xE ti nx' st.h (val ⟨ts,ops,g,st,nx'⟩ k) (val ⟨ts,ops,g,st,nx'⟩ m)=r;rw[hv,hv];generalize val ⟨ts,ops,g,st,nx⟩ m=s at e |-;cases s with
  |os id=>
   simp only[xE]at e |-;cases ho:al st.h id with
   |mp kk vk l pend=>
    rw[ho]at e;simp only[Lf]at e |-;cases hb:kJ kk ti.mkt&&kJ vk ti.mvt&&noE pend with
    |false=>rw[hb]at e;exact e
    |true=>
     rw[hb]at e;simp only[cond_true]at e |-;unfold Le at e |-;split at e
     ·exact absurd (by simp[eN]) (hn _ _ _ _ e.symm)
     ·exact e
   |_=>rw[ho]at e;exact e
  |_=>exact e
 |next it isS=>cases isS <;>exact h
 |entry it=>exact h
 |_=>exact h
theorem Ca (as:List Nat)(j:Nat):∀ (l:List Edge),(Gb as l).testBit j=true->∃ e∈l,Region.binds .any e=true/\(j=e.on\/((nth as e.on).getD 0).testBit j=true)
 | [],h=>by simp[Gb]at h
 |e::r,h=>by
  simp only[Gb]at h;cases hb:Region.binds .any e with
  |false=>
   rw[hb]at h;obtain⟨e',h1,h2⟩:=Ca as j r h;exact⟨e',by simp[h1],h2⟩
  |true=>
   rw[hb]at h;simp only[cond_true]at h;have h':(((nth as e.on).getD 0|||1<<< e.on) |||Gb as r).testBit j=true:=h;rw[Nat.testBit_or,Nat.testBit_or,Bool.or_eq_true,Bool.or_eq_true]at h';rcases h' with(h'|h') |h'
   ·exact⟨e,by simp,hb,.inr h'⟩
   ·refine⟨e,by simp,hb,.inl ?_⟩;rw[Nat.testBit_shiftLeft,Bool.and_eq_true]at h';have h1:=of_decide_eq_true h'.1;have h2:=h'.2;rw[Nat.testBit_one_eq_true_iff_self_eq_zero]at h2;omega
   ·obtain⟨e',h1,h2⟩:=Ca as j r h';exact⟨e',by simp[h1],h2⟩
def Bd (ops:List Oper)(S:Nat->Prop):Prop:= ∀ (i:Nat) (o:Oper) (j:Nat),S i->ops[i]? =some o->ql o j=true->S j
theorem JY {ops:List Oper}{S:Nat->Prop}(hS:Bd ops S):∀ (l:List Oper) (as:List Nat),ops.drop as.length=l->(∀ i j,i<as.length->S i->((nth as i).getD 0).testBit j=true->S j)->
  ∀ i j,S i->sO (zM l as) i j=true->S j
 | [],as,hd,ih,i,j,hi,hb=>by
  by_cases h:i<as.length
  ·exact ih i j h hi hb
  ·have:nth as i=none:=by rw[fU];simp;omega
   simp[zM,sO,this]at hb
 |o::l,as,hd,ih,i,j,hi,hb=>by
  obtain⟨ho,hd'⟩:=B6 hd;refine JY hS l (as++[Gb as o.after.toList]) (by simpa using hd') (fun i j hlt hi hb=>?_) i j hi hb;rw[fU]at hb;by_cases h:i<as.length
  ·rw[List.getElem?_append_left h]at hb;exact ih i j h hi (by rw[fU];exact hb)
  ·have:i=as.length:=by simp at hlt;omega
   subst this;simp at hb;obtain⟨e,h1,h2,h3⟩:=Ca as j _ hb;have hon:S e.on:=hS _ o e.on hi ho (by
    unfold ql;rw[List.any_eq_true];exact⟨e,h1,by simp[h2]⟩)
   rcases h3 with rfl|h3
   ·exact hon
   ·by_cases hlt:e.on<as.length
    ·exact ih _ _ hlt hon h3
    ·have:nth as e.on=none:=by rw[fU];simp;omega
     simp[this]at h3
theorem E8 {ops:List Oper}{S:Nat->Prop}(hS:Bd ops S){i j:Nat}(hi:S i)(hb:sO (zM ops []) i j=true):S j:=
 JY hS ops [] rfl (fun i j h=>by simp at h) i j hi hb
def Ord (ops:List Oper)(i j:Nat):Prop:=(j<i/\sO (zM ops []) i j=true)\/(i<j/\sO (zM ops []) j i=true)
theorem Cb {as:List Nat}{i:Nat}{x:Fp}:∀ (l:List Fp) (j:Nat),Gc as i x j l=true->∀ (k:Nat) (y:Fp),l[k]? =some y->j+k≠i->tO x y=true->(j+k<i/\sO as i (j+k)=true)\/(i<j+k/\sO as (j+k) i=true)
 | [],j,_,k,y,hk,_,_=>by simp at hk
 |z::r,j,h,k,y,hk,hne,hc=>by
  simp only[Gc,Bool.and_eq_true]at h;cases k with
  |zero=>
   simp at hk;subst hk;rw[Nat.add_zero]at hne |-;have h1:=h.1;simp only[hc,Bool.not_true,Bool.or_false,Bool.or_eq_true,Bool.and_eq_true]at h1;rcases h1 with(h1|h1) |h1
   ·exact absurd (Nat.eq_of_beq_eq_true h1).symm hne
   ·exact .inl ⟨nbl h1.1,h1.2⟩
   ·exact .inr ⟨nbl h1.1,h1.2⟩
  |succ k=>
   have:=Cb r (j+1) h.2 k y (by simpa using hk) (by omega) hc;rw[show j+1+k=j+(k+1) by omega]at this;exact this
theorem Cc {as:List Nat}{b:Nat}{all:List Fp}:∀ (l:List Fp) (i:Nat),JI as b all i l=true->∀ (k:Nat) (x:Fp),l[k]? =some x->Gc as (i+k) x b all=true
 | [],i,_,k,x,hk=>by simp at hk
 |z::r,i,h,k,x,hk=>by
  simp only[JI,Bool.and_eq_true]at h;cases k with
  |zero=>simp at hk;subst hk;exact h.1
  |succ k=>
   have:=Cc r (i+1) h.2 k x (by simpa using hk);rw[show i+1+k=i+(k+1) by omega]at this;exact this
theorem LM (l:List Nat):tN l []=false:=by
 induction l with
 |nil=>rfl
 |cons a r ih=>simp[tN,AK,ih]
theorem uK {n:Nat}:∀ {l m:List Nat},n∈l->n∈m->tN l m=true
 |a::r,m,h1,h2=>by
  simp only[tN];rcases List.mem_cons.1 h1 with rfl|h1
  ·rw[(wG n m).2 h2];rfl
  ·rw[uK h1 h2];cases AK a m <;>rfl
theorem D2:∀ {l:List Fp} {k:Nat} {x:Fp},BE l=true->l[k]? =some x->x.tc=[]/\x.wt=[]
 | [],k,x,_,hk=>by simp at hk
 |z::r,k,x,h,hk=>by
  simp only[BE,Bool.and_eq_true,List.isEmpty_iff]at h;cases k with
  |zero=>simp at hk;subst hk;exact⟨h.1.1,h.1.2⟩
  |succ k=>exact D2 h.2 (by simpa using hk)
theorem Cd {ops:List Oper}{b:Nat}{fps:List Fp}(h:sP ops b fps){i j:Nat}{x y:Fp}(hi:fps[i]? =some x)(hj:fps[j]? =some y)(hne:i≠j)(hc:tO x y=true):Ord ops (b+i) (b+j):=by
 unfold sP at h;cases hs:BE fps with
 |true=>
  obtain⟨e1,e2⟩:=D2 hs hj;simp[tO,e1,e2,LM]at hc
 |false=>
  rw[hs]at h;have h1:=Cc fps b h i x hi;have h2:=Cb fps b h1 j y hj (by omega) hc;rcases h2 with⟨q1,q2⟩ | ⟨q1,q2⟩
  ·exact .inl ⟨q1,q2⟩
  ·exact .inr ⟨q1,q2⟩
theorem Ce {ops:List Oper}{c:Nat}(h:BF ops c=true){i:Nat}(hi:i<ops.length)(hne:i≠c):(i<c/\sO (zM ops []) c i=true)\/(c<i/\sO (zM ops []) i c=true):=by
 have hg:∀ (l:List Oper) (j:Nat),EH (zM ops []) c j l=true->∀ k,k<l.length->(Nat.beq (j+k) c||(Nat.blt (j+k) c&&sO (zM ops []) c (j+k)) ||(Nat.blt c (j+k)&&sO (zM ops []) (j+k) c))=true:=by
  intro l;induction l with
  |nil=>intro j _ k hk;simp at hk
  |cons x r ih=>
   intro j h k hk;simp only[EH,Bool.and_eq_true]at h;cases k with
   |zero=>exact h.1
   |succ k=>
    have:=ih (j+1) h.2 k (by simpa using hk);rw[show j+1+k=j+(k+1) by omega]at this;exact this
 have:=hg ops 0 h i hi;rw[Nat.zero_add]at this;simp only[Bool.or_eq_true,Bool.and_eq_true]at this;rcases this with(h1|h1) |h1
 ·exact absurd (Nat.eq_of_beq_eq_true h1) hne
 ·exact .inl ⟨nbl h1.1,h1.2⟩
 ·exact .inr ⟨nbl h1.1,h1.2⟩
structure Fact (ts:Tis)(G:Cons)(ops:List Oper)(o:Oper)(st st2:St)(s:SV)(ups:List Up)(fp:Fp)(r:Dr):Prop where
 dr:jX G st.h st.h.length (opS ⟨ts,ops,o.guard,st,st.h.length⟩ o.op)=some r
 nxt:st2=St.put ⟨st.t,aS st.h ups⟩ o.dst s
 fp:fp=fpU o.op (fpO ⟨ts,ops,o.guard,st,st.h.length⟩ o.op) r.all ups
 plain:o.guard=none->r.c/\s=r.s/\ups=r.ups
 guarded:∀ g,o.guard=some g->(dv ops st.t ops.length g->r.c)/\((r.ups=ups/\s=.gd g.1 g.2 r.s/\(ups=[]\/¬gC ops st.t ops.length g))\/(ups=[]/\s=.gd g.1 g.2 r.s/\¬dv ops st.t ops.length g))
def P0 (ts:Tis)(G:Cons)(ops:List Oper)(K:St->Prop)(Z:Value->St->Prop)(e:Nat)(st:St):Prop:=
 (ops.length<=e/\K st)\/∃ o,ops[e]? =some o/\BF ops e=true/\JV G ops o.dst st (fun st'=>j7 ts G ops K Z (ops.drop (e+1)) (e+1) (e+1) [] st') Z o.guard (opS ⟨ts,ops,o.guard,st,st.h.length⟩ o.op)
structure Piece (ts:Tis)(G:Cons)(ops:List Oper)(n m:Nat)(S:Nat->St)(s:Nat->SV)(ups:Nat->List Up)(fs:Nat->Fp)(R:Nat->Dr):Prop where
 fact:∀ i,i<m->∃ o,ops[n+i]? =some o/\Fact ts G ops o (S i) (S (i+1)) (s i) (ups i) (fs i) (R i)
section
variable {P:Program}{F:Nat->Prop}{own own':Own}{w w':World}{ts:Tis}
variable {w0:Bs}{ro:Option Nat}{nd:Nat}{N n:Nat}{ops:List Oper}{st:St}{a:Act}{G:Cons}
theorem LN (n:Nat)(s:SV)(o:Ob)(h:o∈aJ n s):co o=false:=by
 rcases(yn n s o h).1 with⟨_,_,rfl⟩ | ⟨_,_,_,rfl⟩ | ⟨_,_,rfl⟩ <;>rfl
theorem IH {own':Own}{h:List Ob}(hp:Hp F own w h){nx:Nat}(hn:NxOk own h nx){s:SV}{u:Value}{ob:Ob}(hrow:aJ 3 s=[ob]){F1:Nat->Prop}(hF1:(∀ b,F1 b↔bM F own b)\/((∀ b,F1 b↔F b)/\g8 3 s=true))(hb:Below w.heap.size w w')(hh:Handed F1 w own' w' s u):
  ∃ own2,Rel F own2 w' (ig 3 nx s) u/\Step F own w (aS h [(nx,ob)]) own2 w':=by
 have hFF:∀ b,F b->F1 b:=fun b hf=>by
  rcases hF1 with h1| ⟨h1,_⟩
  ·exact(h1 b).2 (.inl hf)
  ·exact(h1 b).2 hf
 have h0:∀ id hd,own' id=some hd->id=0:=fun id hd e=>by
  have:=hh.hp.dom id hd e;rw[hrow]at this;simpa using this
 let own2:Own:=fun id=>if id=nx then own' 0 else own id
 have o1:∀ id hd,own2 id=some hd->(id≠nx/\own id=some hd)\/(id=nx/\own' 0=some hd):=fun id hd e=>by
  simp only[own2]at e;split at e
  ·rename_i hlt;exact .inr ⟨hlt,e⟩
  ·rename_i hlt;exact .inl ⟨hlt,e⟩
 have o2:∀ id hd,own id=some hd->own2 id=some hd:=fun id hd e=>by
  simp only[own2];rw[if_neg (fun h=>by rw[h,hn.none]at e;cases e)];exact e
 have o3:∀ id hd,own' id=some hd->own2 (id+nx)=some hd:=fun id hd e=>by
  have:=h0 id hd e;subst this;simp only[own2];rw[Nat.zero_add,if_pos rfl];exact e
 have fr:Fr { w:=w,own:=own} own2 w':=Fr.of_step (fun id hd e=>⟨hd,o2 id hd e,.refl _⟩) (fun id hd b e hbb=>by
   rcases o1 id hd e with⟨_,e⟩ | ⟨_,e⟩
   ·exact .inl ⟨id,hd,e,hbb⟩
   ·exact .inr (hh.fresh _ hd b e hbb)) (fun b hbl _=>hb.block b hbl) hb.size hb.os hb.tape hb.output
 have g:Goes F own w own2 w':=fr.goes;have hkeep:(∀ b,¬bM F1 own' b->¬bM F own2 b)\/g8 3 s=true:=by
  rcases hF1 with h1| ⟨_,h2⟩
  ·left;rintro b hn (hf| ⟨id,hd,e,hbb⟩)
   ·exact hn (.inl (hFF b hf))
   ·rcases o1 id hd e with⟨_,e⟩ | ⟨_,e⟩
    ·exact hn (.inl ((h1 b).2 (.inr ⟨id,hd,e,hbb⟩)))
    ·exact hn (.inr ⟨_,hd,e,hbb⟩)
  ·exact .inr h2
 have hob:al (aJ 3 s) 0=ob:=by rw[hrow];rfl
 have hlen:nx< (aS h [(nx,ob)]).length:=by simp only[aS];rw[bC];split <;>omega
 have hle:h.length<=(aS h [(nx,ob)]).length:=by simp only[aS];rw[bC];split <;>omega
 refine⟨own2,?_,⟨fun id hd e=>?_,fun b hf=>Nat.lt_of_lt_of_le (hp.foreign b hf) hb.size,fun id hd b e hbb=>?_,fun i j hi hj b e1 e2 hb1 hb2=>?_,fun id hd b e hbb=>?_,fun id hdd=>?_⟩,fr,fun id e1 e2=>?_⟩
 ·have:=B2 (F':=F) (own2:=own2) (m:=nx) o3 3 0 s u hh.val (hkeep.imp (fun hk c hc=>hk c fun ho=>hc (.inl ho)) id)
  rwa[Nat.zero_add]at this
 ·rcases o1 id hd e with⟨_,e⟩ | ⟨rfl,_⟩
  ·have:=hp.dom id hd e;omega
  ·exact hlen
 ·rcases o1 id hd e with⟨_,e⟩ | ⟨_,e⟩
  ·exact hp.apart id hd b e hbb
  ·exact fun hf=>hh.hp.apart _ hd b e hbb (hFF b hf)
 ·rcases o1 i hi e1 with⟨l1,e1⟩ | ⟨l1,e1⟩ <;>rcases o1 j hj e2 with⟨l2,e2⟩ | ⟨l2,e2⟩
  ·exact hp.inj i j hi hj b e1 e2 hb1 hb2
  ·have:=hp.lt i hi b e1 hb1;have:=hh.fresh _ hj b e2 hb2;omega
  ·have:=hp.lt j hj b e2 hb2;have:=hh.fresh _ hi b e1 hb1;omega
  ·rw[l1,l2]
 ·rcases o1 id hd e with⟨_,e⟩ | ⟨_,e⟩
  ·exact Nat.lt_of_lt_of_le (hp.lt id hd b e hbb) hb.size
  ·exact hh.hp.lt _ hd b e hbb
 ·simp only[aS]at hdd |-;rw[b4]at hdd |-;by_cases hlt:nx=id
  ·rw[if_pos hlt]at hdd |-;have hdd':co (al (aJ 3 s) 0)=false:=by rw[hob];exact hdd
   obtain⟨hd,e1,e2⟩:=hh.hp.obs _ hdd';obtain⟨q1,q2⟩:=yn 3 s _ (GH hdd');have e3:=o3 _ hd e1;rw[Nat.zero_add,hlt]at e3;rw[hob]at e2 q1 q2;exact⟨hd,e3,e2.over q1 (hkeep.imp (fun h=>h) q2)⟩
  ·rw[if_neg hlt]at hdd |-;obtain⟨hd,e1,e2⟩:=hp.obs id hdd;exact⟨hd,o2 id hd e1,e2.carry g.carries hb.size fun b hbb=>hb.block b (hp.lt id hd b e1 hbb)⟩
 ·simp only[own2];by_cases hid:id=nx
  ·subst hid;exfalso;simp only[aS]at e2;rw[b4,if_pos rfl]at e2;have:=LN 3 s ob (by rw[hrow];simp);rw[this]at e2;cases e2
  ·rw[if_neg hid];exact e1
theorem Ni {G:Cons}(hG:ConsOk P G){h:List Ob}(hp:Hp F own w h){nx:Nat}(hn:NxOk own h nx){f:FuncId}{args:List SV}{vs:Array Value}(hr:RelL F own w args vs){c:Con}(hc:G.p f (args.map (eW h 6))=some c)(hpre:an c)
  (hres:args.all (b_ 3)=true\/∀ s,di c s->g8 3 s=true):
  (callFunc f vs).run P w=.ok (.enter f vs) w/\Calls P f vs w (fun e w'=>(∃ s u,∃ own2:Ob->Own,di c s/\e=.returned u/\∀ ob,aJ 3 s=[ob]->Rel F (own2 ob) w' (ig 3 nx s) u/\Step F own w (aS h [(nx,ob)]) (own2 ob) w')\/(∃ x,mG c x/\e=.panicked [{ v:=x,recovered:=false}]/\Below w.heap.size w w')):=by
 refine⟨(hG.p f).enter _ c hc vs w,?_⟩;have fin:∀ {own':Own} {w':World} {s:SV} {u:Value} {F1:Nat->Prop},((∀ b,F1 b↔bM F own b)\/((∀ b,F1 b↔F b)/\g8 3 s=true))->Below w.heap.size w w'->Handed F1 w own' w' s u->∃ own2:Ob->Own,∀ ob,aJ 3 s=[ob]->Rel F (own2 ob) w' (ig 3 nx s) u/\Step F own w (aS h [(nx,ob)]) (own2 ob) w':=fun {own' w' s u F1} h1 h2 h3=>by
  refine Classical.axiomOfChoice (r:=fun ob own2=>aJ 3 s=[ob]->Rel F own2 w' (ig 3 nx s) u/\Step F own w (aS h [(nx,ob)]) own2 w') fun ob=>?_;by_cases hrow:aJ 3 s=[ob]
  ·obtain⟨own2,q⟩:=IH hp hn hrow h1 h2 h3;exact⟨own2,fun _=>q⟩
  ·exact⟨own,fun e=>absurd e hrow⟩
 rcases hres with hnp|hsc
 ·have hpf:∀ (j:Nat) (s:SV),args[j]? =some s->PF s:=fun j s hj=>by
   rw[List.all_eq_true]at hnp;exact iy 3 s (hnp s (List.mem_of_getElem? hj))
  refine((hG.p f).calls _ c hc hpre (bM F own) w vs (fun b hb=>?_) ⟨by simpa using hr.1,fun j s hj=>?_⟩).mono ?_
  ·rcases hb with hf| ⟨id,hd,e,hbb⟩
   ·exact hp.foreign b hf
   ·exact hp.lt id hd b e hbb
  ·obtain⟨x,hx,rfl⟩:=ca hj;exact Nc 6 x _ (hpf j x hx) (hr.2 j x hx)
  ·rintro e w' (⟨s,u,own',h1,h2,h3,h4⟩ |hp')
   ·obtain⟨own2,q⟩:=fin (.inl fun b=>Iff.rfl) h4 h3;exact .inl ⟨s,u,own2,h1,h2,q⟩
   ·exact .inr hp'
 ·refine((hG.p f).calls _ c hc hpre F w vs hp.foreign ⟨by simpa using hr.1,fun j s hj=>?_⟩).mono ?_
  ·obtain⟨x,hx,rfl⟩:=ca hj;exact vt hp 6 x _ (hr.2 j x hx)
  ·rintro e w' (⟨s,u,own',h1,h2,h3,h4⟩ |hp')
   ·obtain⟨own2,q⟩:=fin (.inr ⟨fun b=>Iff.rfl,hsc s h1⟩) h4 h3;exact .inl ⟨s,u,own2,h1,h2,q⟩
   ·exact .inr hp'
theorem Sb (hG:ConsOk P G){h:List Ob}(hp:Hp F own w h){nx:Nat}(hn:NxOk own h nx){o:Oper}{run:Result Next}{r0:OR}{r:Dr}(h0:Gy P F own w h run r0)(hr:jX G h nx r0=some r)(hc:r.c):
  r.a/\(∃ u own' w',Rel F own' w' r.s u/\Step F own w (aS h r.ups) own' w')/\
  ∀ (K:Act->World->Prop) (Q:Exit->Act->World->Prop),(∀ u own' w',Rel F own' w' r.s u->Step F own w (aS h r.ups) own' w'->K (a.put o.dst u) w')->o.uponIn (rd ro) nd P a K Q run:=by
 have hst:∀ {w'},Below w.heap.size w w'->Step F own w h own w':=fun hb=>⟨hp.below hb,B8 own hb,fun _ e _=>e⟩;cases r0 with
 |val s=>
  simp only[jX,Option.some.injEq]at hr;subst hr;obtain⟨u,e1,e2⟩:=h0;exact⟨trivial,⟨u,own,w,e2,hst (Below.refl _ _)⟩,fun K Q hK=>eY (.inl e1) (hK u own w e2 (hst (Below.refl _ _)))⟩
 |chk c s=>
  simp only[jX,Option.some.injEq]at hr;subst hr;obtain⟨u,e1,e2⟩:=h0 hc;exact⟨trivial,⟨u,own,w,e2,hst (Below.refl _ _)⟩,fun K Q hK=>eY (.inl e1) (hK u own w e2 (hst (Below.refl _ _)))⟩
 |asm c s=>
  simp only[jX,Option.some.injEq]at hr;subst hr;obtain⟨ha,u,e1,e2⟩:=h0;exact⟨ha,⟨u,own,w,e2,hst (Below.refl _ _)⟩,fun K Q hK=>eY (.inl e1) (hK u own w e2 (hst (Below.refl _ _)))⟩
 |newr s=>
  simp only[jX,Option.some.injEq]at hr;subst hr;obtain⟨u,cs,ty,e1,e2⟩:=h0;exact⟨trivial,⟨u,own,_,e2,hst (rb _ _)⟩,fun K Q hK=>eY (.inl e1) (hK u own _ e2 (hst (rb _ _)))⟩
 |eff c ac ups s=>
  simp only[jX,Option.some.injEq]at hr;subst hr;obtain⟨ha,u,own',w',e1,e2,e3⟩:=h0 hc;exact⟨ha,⟨u,own',w',e2,e3⟩,fun K Q hK=>eY e1 (hK u own' w' e2 e3)⟩
 |call f args=>
  obtain⟨vs,e1,e2⟩:=h0;simp only[jX]at hr;cases hcc:G.p f (args.map (eW h 6))with
  |none=>rw[hcc]at hr;cases hr
  |some cc=>
   rw[hcc]at hr;cases cc with
   |rel=>cases hr
   |may=>cases hr
   |det p s=>
    simp only[drC]at hr;have hrow:∀ (rows:List Ob),aJ 3 s=rows->drR (args.all (b_ 3)) (args.flatMap (jn h 6)) nx p s rows=some r->
      ((args.all (b_ 3) ||g8 3 s)=true/\((rows=[]/\r=⟨p,True,s,[],args.flatMap (jn h 6)⟩)\/∃ ob,rows=[ob]/\r=⟨p,True,ig 3 nx s,[(nx,ob)],args.flatMap (jn h 6)⟩)):=fun rows _ hr=>by
     match rows,hr with
     | [],hr=>
      simp only[drR]at hr;cases hb:(args.all (b_ 3) ||g8 3 s)with
      |false=>rw[hb]at hr;cases hr
      |true=>rw[hb]at hr;cases hr;exact⟨rfl,.inl ⟨rfl,rfl⟩⟩
     | [ob],hr=>
      simp only[drR]at hr;cases hb:(args.all (b_ 3) ||g8 3 s)with
      |false=>rw[hb]at hr;cases hr
      |true=>rw[hb]at hr;cases hr;exact⟨rfl,.inr ⟨ob,rfl,rfl⟩⟩
     |_::_::_,hr=>simp[drR]at hr
    obtain⟨hb,hcase⟩:=hrow _ rfl hr;rw[Bool.or_eq_true]at hb;have hres:args.all (b_ 3)=true\/∀ s',di (.det p s) s'->g8 3 s'=true:=hb.imp id (fun h s' hs'=>by cases hs';exact h);rcases hcase with⟨hz,rfl⟩ | ⟨ob,hz,rfl⟩
    ·obtain⟨k1,k2⟩:=E1 (P:=P) hG hp e1 hcc hc hres;have key:∀ {e:Ending} {w':World},((∃ s' u own2,di (.det p s) s'/\e=.returned u/\Hp F own2 w' (h++aJ 3 s')/\Fr { w:=w,own:=own} own2 w'/\Rel F own2 w' (ig 3 h.length s') u/\Below w.heap.size w w'/\∀ id,id<h.length->own2 id=own id)\/(∃ x,mG (.det p s) x/\e=.panicked [{ v:=x,recovered:=false}]/\Below w.heap.size w w'))->
       ∃ u own2,e=.returned u/\Rel F own2 w' s u/\Step F own w h own2 w':=by
      rintro e w' (⟨s',u,own2,rfl,rfl,m2,m3,m4,m5,m6⟩ | ⟨x',m1,_⟩)
      ·rw[hz,List.append_nil]at m2;rw[Av 3 _ _ hz]at m4;refine⟨u,own2,rfl,m4,m2,m3,fun id e1 e2=>?_⟩;cases ho:own2 id with
       |none=>rfl
       |some hd=>rw[m6 id (m2.dom id hd ho),e1]at ho;cases ho
      ·exact m1.elim
     refine⟨trivial,?_,fun K Q hK=>?_⟩
     ·obtain⟨e,w',fr,hR,_⟩:=k2 [];obtain⟨u,own2,_,m1,m2⟩:=key hR;exact⟨u,own2,w',m1,m2⟩
     ·rw[e2,k1];refine⟨fun h=>(by cases h),?_⟩;refine CallsIn.mono (pg k2) fun e w' hR=>?_;obtain⟨u,own2,rfl,m1,m2⟩:=key hR;exact hK u own2 w' m1 m2
    ·obtain⟨k1,k2⟩:=Ni (P:=P) hG hp hn e1 hcc hc hres;have key:∀ {e:Ending} {w':World},((∃ s' u,∃ own2:Ob->Own,di (.det p s) s'/\e=.returned u/\∀ ob,aJ 3 s'=[ob]->Rel F (own2 ob) w' (ig 3 nx s') u/\Step F own w (aS h [(nx,ob)]) (own2 ob) w')\/(∃ x,mG (.det p s) x/\e=.panicked [{ v:=x,recovered:=false}]/\Below w.heap.size w w'))->
       ∃ u own2,e=.returned u/\Rel F own2 w' (ig 3 nx s) u/\Step F own w (aS h [(nx,ob)]) own2 w':=by
      rintro e w' (⟨s',u,own2,rfl,rfl,m2⟩ | ⟨x',m1,_⟩)
      ·exact⟨u,own2 ob,rfl,(m2 ob hz).1,(m2 ob hz).2⟩
      ·exact m1.elim
     refine⟨trivial,?_,fun K Q hK=>?_⟩
     ·obtain⟨e,w',fr,hR,_⟩:=k2 [];obtain⟨u,own2,_,m1,m2⟩:=key hR;exact⟨u,own2,w',m1,m2⟩
     ·rw[e2,k1];refine⟨fun h=>(by cases h),?_⟩;refine CallsIn.mono (pg k2) fun e w' hR=>?_;obtain⟨u,own2,rfl,m1,m2⟩:=key hR;exact hK u own2 w' m1 m2
 |bad=>simp only[jX,Option.some.injEq]at hr;subst hr;exact hc.elim
 |_=>simp[jX]at hr
end
end Go.Sx
end
