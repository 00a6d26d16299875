/- Part of the proof that the law JudgementServed returns true and leaves its arguments as they were, for all arguments of bulk at most 1048576 (the Upto form). -/
import Derived.Test.YtnanafpgfihjfaaGreatJ703
import Derived.TacticsIn
import Derived.OrdersIn
set_option linter.all false
set_option maxHeartbeats 4000000
set_option maxRecDepth 100000
section
namespace Go.Sx
open Go.RowKit
section
variable {P:Program}{F:Nat->Prop}{own:Own}{w:World}{ts:Tis}
def QA (v:Value)(vs:Array Value):Sem Next:=do
 let d <-Deferred.ofValue v vs
 invoke d.target d.args
theorem DR (w:World)(m:Nat){t e:TypeId}(ad:Option Addr)(n c:Nat)(hd:P.underlying t=some (.slice e)):(Op.equalIn (m+1) t (.slice ad n c) (.slice none 0 0)).run P w=.ok ad.isNone w:=by
 cases ad <;>simp[Op.equalIn,run_underlying hd]
def KO (P:Program)(F:Nat->Prop)(own:Own)(w:World)(h:List Ob)(run:Result Next):OR->Prop
 | .val s=>∃ u,run=.ok (.value u) w/\Rel F own w s u| .chk c s=>c->∃ u,run=.ok (.value u) w/\Rel F own w s u| .asm c s=>c/\∃ u,run=.ok (.value u) w/\Rel F own w s u| .newr s=>∃ u cs ty,run=.ok (.value u) (w.alloc (.cells cs ty))/\Rel F own (w.alloc (.cells cs ty)) s u| .eff c a ups s=>c->a/\∃ u own' w',(run=.ok (.value u) w'\/(run=.ok .skip w'/\u=undef))/\Rel F own' w' s u/\Step F own w (ba h ups) own' w'| .call f args=>∃ vs:Array Value,RelL F own w args vs/\run=(callFunc f vs).run P w| .yld id args=>∃ hd,own id=some hd/\∃ vs,RelL F own w args vs/\run=(QA hd.v vs).run P w| .nxt id=>∃ hd b,own id=some hd/\hd.p=some b/\∃ ty,∀ u w',(Instr.next (.pointer (some ⟨b,0,none⟩)) false ty).run P w=.ok u w'->run=.ok (.value u) w'| .amb p=>∃ b,p b/\run=.ok (.value (.bool b)) w| .pan x=>run=.halt (.panic x) w| .bad=>True
theorem KP {cx:Cx}{a:Act}(hv:∀ x,Rel F own w (val cx x) (a.eval x)):∀ (l:List Operand),(df cx l).length=l.length/\∀ (j:Nat) (s:SV),(df cx l)[j]? =some s->∃ x,l[j]? =some x/\Rel F own w s (a.eval x)
 | [] =>⟨rfl,fun j s h=>by simp[df]at h⟩
 |x::r=>by
  obtain⟨h1,h2⟩:=KP hv r;grind [df]
theorem wN {cx:Cx}{a:Act}(hv:∀ x,Rel F own w (val cx x) (a.eval x))(l:Array Operand):RelL F own w (df cx l.toList) (l.map a.eval):=by
 obtain⟨h1,h2⟩:=KP hv l.toList;refine⟨by simp[h1],fun j s hj=>?_⟩;obtain⟨x,e1,e2⟩:=h2 j s hj;simp_all
theorem CF {cx:Cx}{a:Act}(hv:∀ x,Rel F own w (val cx x) (a.eval x)):∀ (l:List (Nat×Operand)),(jw cx l).map (·.1)=(l.map fun(i,x) =>(i,a.eval x)).map (·.1)/\
  ∀ (j:Nat) (x:Nat×SV) (y:Nat×Value),(jw cx l)[j]? =some x->(l.map fun(i,x) =>(i,a.eval x))[j]? =some y->Rel F own w x.2 y.2
 | [] =>⟨rfl,fun j x y h=>by grind⟩
 |(i,x)::r=>by
  obtain⟨h1,h2⟩:=CF hv r;grind [jw]
theorem bS {t:TypeId}{k:TI->OR}{r:OR}(hts:ts.ok P)(h:aG ts t k=r)(hr:r≠ .bad):∃ ti,cw P t=some ti/\k ti=r:=by
 unfold aG at h;cases ht:ts t with
 |none=>grind|some i=>simp[ht]at h;exact⟨i,hts t i ht,h⟩
theorem okOr {run:Result Next}{h:List Ob}{r:OR}(hh:r≠ .bad->KO P F own w h run r):KO P F own w h run r:=by
 cases r with
 |bad=>trivial
 |_=>exact hh (by simp)
theorem adj {s:Sem Value}{u:Value}(h:s.run P w=.ok u w):(do pure (Next.value (<-s)):Sem Next).run P w=.ok (.value u) w:=by
 simp[h]
theorem KQ {a:Operand}(h:isTrue a=true):a=.const (.bool true):=by
 grind [isTrue]
theorem Je {a:Operand}(h:isFalse a=true):a=.const (.bool false):=by
 grind [isFalse]
theorem ql {x:Option SV}{r:OR}(h:wE x=r)(hr:r≠ .bad):∃ s,x=some s/\r=.val s:=by
 cases x with
 |none=>exact absurd h.symm hr|some s=>exact⟨s,rfl,h.symm⟩
theorem wO {h:List Ob}{s:Sem Value}{r:OR}(he:Dv F own w h (s.run P w) r):KO P F own w h ((do pure (Next.value (<-s)):Sem Next).run P w) r:=by
 obtain⟨c,a,ups,sv,rfl,h1⟩:=he;intro hc;obtain⟨ha,u,own',w',h2,h3,h4⟩:=h1 hc;simp_all
theorem KR {ti:TI}{h:List Ob}{s:SV}{r:OR}(e:sJ ti h s=r)(hr:r≠ .bad):∃ s',r=.val s':=by
 have hcells:∀ {a:Bool} {n off:Nat} {o:Ob},Bm a n off o=r->∃ s',r=.val s':=by
  intro a n off o e;unfold Bm at e;split at e
  obtain⟨s',_,h'⟩:=ql e hr;grind;grind
 have hrow:∀ {a:Bool} {n z id off:Nat} {i:Int} {o:Ob},EH a n z id i off o=r->∃ s',r=.val s':=by
  intro a n z id off i o e;unfold EH at e;split at e
  rename_i k l;cases hb:Nat.beq z (ae k)with
  |false=>grind
  |true=>rw[hb]at e;obtain⟨s',_,h'⟩:=ql e hr;grind
  grind
  grind
 have hgrid:∀ {a:Bool} {n z off:Nat} {i j:Int} {o:Ob},Cw a n z i j off o=r->∃ s',r=.val s':=by
  intro a n z off i j o e;unfold Cw at e;split at e
  rename_i k l;cases hb:Nat.beq z (ae k)with
  |false=>grind
  |true=>rw[hb]at e;obtain⟨s',_,h'⟩:=ql e hr;grind
  grind
 unfold sJ at e;split at e
 grind
 obtain⟨s',_,h'⟩:=ql e hr;grind;exact hrow e;exact hgrid e;grind
theorem MS {n:Nat}{s:SV}{r:OR}(e:Bn n s=r)(hr:r≠ .bad):∃ s',r=.val s':=by
 unfold Bn at e;grind
theorem BE {cx:Cx}{a:Act}(hv:∀ x,Rel F own w (val cx x) (a.eval x))(o:Option Operand):(∀ s,qB cx o=some s->∃ u,o.map a.eval=some u/\Rel F own w s u)/\(qB cx o=none->o.map a.eval=none):=by
 cases o with
 |none=>grind [qB]|some x=>grind [qB]
theorem Oi {h:List Ob}(hp:Hp F own w h){nx:Nat}(hn:NxOk own h nx){l:List SV}{v:Value}{ty:TypeId}(hl:RelL F own w l v.cells):Step F own w (ba h [(nx,Ob.cells l)]) (own.set nx ⟨some w.heap.size,undef,[],[w.heap.size]⟩) (w.alloc (.cells v.cells ty))/\Rel F (own.set nx ⟨some w.heap.size,undef,[],[w.heap.size]⟩) (w.alloc (.cells v.cells ty)) (.ptr nx 0) (.pointer (some ⟨w.heap.size,0,none⟩)):=
 ⟨wH hp hn (w1:=w) ⟨rfl,rfl,rfl,rfl⟩ (.cells v.cells ty) (.cells l) _ rfl fun own' g=>⟨w.heap.size,v.cells,ty,rfl,rfl,nO _ _,hl.1,fun j s hj=>(hl.2 j s hj).mono g⟩,.ptr (Own.set_same _ _ _) rfl⟩
theorem RelL.app {l m:List SV}{us vs:Array Value}(h1:RelL F own w l us)(h2:RelL F own w m vs):RelL F own w (l++m) (us++vs):=by
 refine⟨by simp[h1.1,h2.1],fun j s hj=>?_⟩;rw[ajf]at hj;split at hj
 rename_i hlt;rw[vC (j:=j) (ws:=us) (by rw[aiS (by rw[h1.1];exact hlt)])];exact h1.2 j s hj;rename_i hlt;rw[vC (j:=j - us.size) (ws:=vs) (by rw[ajz (by rw[h1.1];omega)])];rw[h1.1];exact h2.2 _ s hj
theorem MT {ops:List Oper}{g:Option (Nat×Bool)}{t:List (Nat×SV)}{h:List Ob}{nx:Nat}(hts:ts.ok P)(hp:Hp F own w h)(hn:NxOk own h nx){a:Act}{o:Oper}
  (hv:∀ x,Rel F own w (val ⟨ts,ops,g,⟨t,h⟩,nx⟩ x) (a.eval x))
  (hpk:∀ c x y,o.op=.pick c x y->(a.eval c=.bool true->Rel F own w (mw ops g c true (raw t x)) (a.eval x))/\(a.eval c=.bool false->Rel F own w (mw ops g c false (raw t y)) (a.eval y))):
  KO P F own w h ((execOp a.eval o).run P w) (opS ⟨ts,ops,g,⟨t,h⟩,nx⟩ o.op):=by
 obtain⟨dst,op,ty,pos,after,guard⟩:=o;simp only at hpk |-;refine okOr fun hr=>?_;generalize he:opS ⟨ts,ops,g,⟨t,h⟩,nx⟩ op=r at hr |-;cases op with
 |move x=>subst he;exact⟨_,rfl,hv x⟩|assign x=>subst he;exact⟨_,rfl,hv x⟩
 |pick c x y=>
  obtain⟨h1,h2⟩:=hpk c x y rfl;have hc:Rel F own w (bu ops g (raw t c)) (a.eval c):=hv c;change EG x y (bu ops g (raw t c)) (mw ops g c true (raw t x)) (mw ops g c false (raw t y))=r at he;unfold EG at he;split at he
  rename_i sx sy sz bc bx bz hsc hsx hsy;rw[hsc]at hc;rw[hsx]at h1;rw[hsy]at h2;have hec:=bR hc;have hrun:(execOp a.eval { dst:=dst,op:=.pick c x y,type:=ty,pos:=pos,after:=after,guard:=guard}).run P w=.ok (.value (if bc then a.eval x else a.eval y)) w:=by
   simp[execOp,hec,asBool]
  cases hx:isTrue x with
  |true=>
   simp only[hx,cond_true]at he;subst he;refine⟨_,hrun,?_⟩;have hx':=KQ hx;cases bc with
   |true=>simp only[if_true,hx'];exact .v _|false=>grind
  |false=>
   cases hy:isFalse y with
   |true=>
    simp only[hx,hy,cond_true,cond_false]at he;subst he;refine⟨_,hrun,?_⟩;have hy':=Je hy;cases bc with
    |true=>grind
    |false=>rw[if_neg (by simp),hy'];exact .v _
   |false=>grind
  rename_i sx sy sz bc bz hsc hsx hsy;rw[hsc]at hc;rw[hsy]at h2;have hec:=bR hc;subst he;intro hcf;simp_all [execOp,asBool];rename_i sx sy sz bc bx hsc hsx hsy;rw[hsc]at hc;rw[hsx]at h1;have hec:=bR hc;subst he;intro hcf;simp_all [execOp,asBool];grind
 |alloc ty'=>
  obtain⟨ti,ht,he⟩:=bS (k:=fun ti=>IV nx (some ti.zero)) hts he hr;subst he;obtain⟨i,d,z,hi,hd,hz,hq,rfl⟩:=bJ ht;have hzz:(dN P ty' i d).zero=svs z:=by simp[dN,hz]
  intro _;obtain⟨q1,q2⟩:=Oi (ty:=ty') hp hn (l:=svs z) (v:=z) (zD z);rw[hzz];exact⟨trivial,_,_,_,.inl (by simp[execOp,Instr.alloc,zeroValue,typeInfo,hi,hz,newVar,newRow]),q2,q1⟩
 |box ty' x=>
  change IV nx (rB (val _ x))=r at he;cases hf:rB (val ⟨ts,ops,g,⟨t,h⟩,nx⟩ x)with
  |none=>rw[hf]at he;exact absurd he.symm hr
  |some l=>
   rw[hf]at he;subst he;intro _;obtain⟨q1,q2⟩:=Oi (ty:=ty') hp hn (v:=a.eval x) (EY (hv x) hf);exact⟨trivial,_,_,_,.inl (by rfl),q2,q1⟩
 |build ty' parts=>
  obtain⟨ti,ht,he⟩:=bS (k:=fun ti=>bif ti.isArr then aG ts ti.elem fun te=>Mr (nK (fun i=>some (i*te.size,te.size)) ti.zero (jw ⟨ts,ops,g,⟨t,h⟩,nx⟩ parts.toList))
   else bif ti.agg then Mr (nK (fun i=>(nth ti.fields i).map fun f:Nat×Nat×Bool=>(f.1,f.2.1)) ti.zero (jw ⟨ts,ops,g,⟨t,h⟩,nx⟩ parts.toList))else .bad) hts he hr
  obtain⟨p1,p2⟩:=CF hv parts.toList;have hrun:(execOp a.eval { dst:=dst,op:=.build ty' parts,type:=ty,pos:=pos,after:=after,guard:=guard})=(do pure (Next.value (<-Instr.build ty' (parts.map fun(i,x) =>(i,a.eval x))))):=rfl;have key:∃ l,r=.val (.agg l)/\((ti.isArr=true/\∃ te,cw P ti.elem=some te/\nK (fun i=>some (i*te.size,te.size)) ti.zero (jw ⟨ts,ops,g,⟨t,h⟩,nx⟩ parts.toList)=some l)\/
     (ti.isArr=false/\ti.agg=true/\nK (fun i=>(nth ti.fields i).map fun f=>(f.1,f.2.1)) ti.zero (jw ⟨ts,ops,g,⟨t,h⟩,nx⟩ parts.toList)=some l)):=by
   cases ha:ti.isArr with
   |true=>
    simp only[ha,cond_true]at he;obtain⟨te,hte,he⟩:=bS hts he hr;cases hf:nK (fun i=>some (i*te.size,te.size)) ti.zero (jw ⟨ts,ops,g,⟨t,h⟩,nx⟩ parts.toList)with
    |none=>simp only[hf]at he;exact absurd he.symm hr|some l=>simp only[hf]at he;exact⟨l,he.symm,.inl ⟨rfl,te,hte,hf⟩⟩
   |false=>
    cases hg:ti.agg with
    |false=>grind
    |true=>
     simp only[ha,hg,cond_false,cond_true]at he;cases hf:nK (fun i=>(nth ti.fields i).map fun f=>(f.1,f.2.1)) ti.zero (jw ⟨ts,ops,g,⟨t,h⟩,nx⟩ parts.toList)with
     |none=>simp only[hf]at he;exact absurd he.symm hr|some l=>simp only[hf]at he;exact⟨l,he.symm,.inr ⟨rfl,rfl,rfl⟩⟩
  obtain⟨l,rfl,hcase⟩:=key;obtain⟨u,e1,e2⟩:=R9 (P:=P) ht (vps:=parts.map fun(i,x) =>(i,a.eval x)) (by simpa using p1) (by simpa using p2) hcase;exact⟨u,by simp_all,e2⟩
 |buildSlice ty' n parts=>
  obtain⟨ti,ht,he⟩:=bS (k:=fun ti=>aG ts ti.elem fun te=>GQ (IW ty' ops g) nx te (bsS ti te n (jw ⟨ts,ops,g,⟨t,h⟩,nx⟩ parts.toList))) hts he hr;obtain⟨te,hte,he⟩:=bS (k:=fun te=>GQ (IW ty' ops g) nx te (bsS ti te n (jw ⟨ts,ops,g,⟨t,h⟩,nx⟩ parts.toList))) hts he hr;obtain⟨p1,p2⟩:=CF hv parts.toList;have hne:bsS ti te n (jw ⟨ts,ops,g,⟨t,h⟩,nx⟩ parts.toList)≠ .bad:=fun e=>by rw[e]at he;exact hr he.symm
  obtain⟨s,cs,ty2,u,hs0,e1,e2,e3⟩:=Za (P:=P) hp ht hte (n:=n) (vps:=parts.map fun(i,x) =>(i,a.eval x)) (by simpa using p1) (by grind) rfl hne;rw[hs0]at he;have plain:r=.newr s->KO P F own w h ((execOp a.eval ⟨dst,.buildSlice ty' n parts,ty,pos,after,guard⟩).run P w) r:=fun e=>by
   subst e;exact⟨u,cs,ty2,by simp[execOp,e1],e2⟩
  cases s with
  |rs k xs=>
   change (bif(te.agg||one xs)&&noG (IW ty' ops g)then OR.eff True True [(nx,.row k xs)] (.os nx)else .newr (.rs k xs))=r at he;cases hb:(te.agg||one xs)&&noG (IW ty' ops g)with
   |false=>grind
   |true=>
    rw[hb]at he;subst he;obtain⟨m1,m2,m3,m4⟩:=e3 k xs rfl;refine fun _=>⟨trivial,u,own.set nx ⟨none,.slice (some ⟨w.heap.size,0,none⟩) xs.length xs.length,[],[w.heap.size]⟩,w.alloc (.cells cs ty2),.inl (by simp[execOp,e1]),?_,?_⟩;rw[m1];exact Rel.os (F:=F) (id:=nx) (hd:=⟨none,.slice (some ⟨w.heap.size,0,none⟩) xs.length xs.length,[],[w.heap.size]⟩) (Own.set_same _ _ _) rfl;exact wH hp hn (w1:=w) ⟨rfl,rfl,rfl,rfl⟩ _ _ _ rfl fun own' g=>.inr ⟨w.heap.size,0,xs.length,cs,ty2,rfl,rfl,nO _ _,by omega,aio _,m3,fun q x hx j s hj=>by
     obtain⟨u',h1,h2⟩:=m4 q x hx j s hj;exact⟨u',h1,h2.mono g⟩⟩
  |_=>exact plain he.symm
 |load ty' x=>
  obtain⟨ti,ht,he⟩:=bS (k:=fun ti=>sJ ti h (val ⟨ts,ops,g,⟨t,h⟩,nx⟩ x)) hts he hr;obtain⟨s',rfl⟩:=KR he hr;obtain⟨u,e1,e2⟩:=Kz (P:=P) hp ht (hv x) he;exact⟨u,by simp_all [execOp],e2⟩
 |store ty' x y=>
  obtain⟨ti,ht,he⟩:=bS (k:=fun ti=>tg ti.size nx h (val ⟨ts,ops,g,⟨t,h⟩,nx⟩ x) (val ⟨ts,ops,g,⟨t,h⟩,nx⟩ y)) hts he hr;obtain⟨ups,own',w',rfl,e1,e2⟩:=Qz (P:=P) hp hn ht (hv x) (hv y) he hr;exact fun _=>⟨trivial,undef,own',w',.inr ⟨by simp[execOp,e1],rfl⟩,.any _,e2⟩
 |nilCheck x=>
  have hx:=hv x;change RG (val _ x)=r at he;generalize hvx:a.eval x=vx at hx;unfold RG at he;split at he
  rename_i id off hs;subst he;rw[hs]at hx;cases hx with
  |ptr q1 q2=>exact⟨_,by simp[execOp,hvx],.ptr q1 q2⟩
  rename_i l off hs;subst he;rw[hs]at hx;cases hx with
  |ep cf q1 q2=>exact⟨_,by simp[execOp,hvx],.ep cf q1 q2⟩
  rename_i hs;subst he;rw[hs]at hx;cases hx with
  |rp q1 q2 q3=>exact⟨_,by simp[execOp,hvx],.rp q1 q2 q3⟩
  rename_i hs;subst he;rw[hs]at hx;cases hx with
  |gp q1 q2 q3=>exact⟨_,by simp[execOp,hvx],.gp q1 q2 q3⟩
  rename_i f first caps hs
  subst he;rw[hs]at hx;cases hx with
  |fn q1 q2 q3 q4=>exact⟨_,by simp[execOp,hvx],.fn q1 q2 q3 q4⟩
  grind
 |binOp op xt x y yt=>
  change IR ts op xt (val _ x) (val _ y)=r at he;have hx:=hv x;have hy:=hv y;generalize val ⟨ts,ops,g,⟨t,h⟩,nx⟩ x=sx at hx he;generalize val ⟨ts,ops,g,⟨t,h⟩,nx⟩ y=sy at hy he;have hrun:∀ {vx vy:Value},a.eval x=vx->a.eval y=vy->(eqGuard op xt x y vx vy).run P w=.ok () w->∀ u,(Go.binOp op xt vx vy).run P w=.ok u w->(execOp a.eval { dst:=dst,op:=.binOp op xt x y yt,type:=ty,pos:=pos,after:=after,guard:=guard}).run P w=.ok (.value u) w:=by
   simp_all [execOp]
  unfold IR at he;split at he
  rename_i k m k' n;obtain⟨hsk,h3⟩:=MA he hr;have ex:=bR hx;have ey:=bR hy;cases r with
  |val s=>
   obtain⟨u,e1,rfl⟩:=Qh (P:=P) (w:=w) (ty:=xt) hsk h3.symm;exact⟨u,hrun ex ey (Dp ..) u e1,.v u⟩
  |chk c s=>
   intro hc;obtain⟨u,e1,rfl⟩:=Qi (P:=P) (w:=w) (ty:=xt) hsk h3.symm hc;exact⟨u,hrun ex ey (Dp ..) u e1,.v u⟩
  |bad=>grind|_=>exfalso;cases op <;>simp[wD]at h3
  obtain⟨ti,ht,he⟩:=bS (k:=fun ti=>eqS op ti sx sy) hts he hr;obtain⟨i,d,z,hi,hd,hz,hq,rfl⟩:=bJ ht;unfold eqS at he;split at he
  rename_i l _ _;have ey:=bR hy;cases hb:(dN P xt i d).isSlice with
  |false=>grind
  |true=>
   rw[hb]at he;simp only[cond_true]at he;have hds:∃ e,d=.slice e:=by cases d <;>simp[dN]at hb;grind
   obtain⟨e,rfl⟩:=hds;have hg:∀ (ad:Option Addr) (n c:Nat),(eqGuard op xt x y (.slice ad n c) (.slice none 0 0)).run P w=.ok () w:=fun ad n c=>by simp_all [eqGuard]
   have hq:∀ (ad:Option Addr) (n c:Nat),(Op.equal xt (.slice ad n c) (.slice none 0 0)).run P w=.ok ad.isNone w:=fun ad n c=>by
    unfold Op.equal Op.maxDepth;exact DR w 9999 ad n c hd
   have hsl:∃ ad n c,a.eval x=.slice ad n c/\(ad.isNone=true->l=[]):=by
    generalize a.eval x=vx at hx;cases hx <;>grind
   obtain⟨ad,n,c,hvx,hl⟩:=hsl;cases op <;>simp only[Vz]at he <;>first|exact absurd he.symm hr|subst he
   exact⟨ad.isNone,hl,hrun hvx ey (hg _ _ _) _ (by simp[Go.binOp,hq])⟩;exact⟨!ad.isNone,fun h=>hl (by simpa using h),hrun hvx ey (hg _ _ _) _ (by simp[Go.binOp,hq])⟩
  rename_i b1 b2 _ _;have ex:=bR hx;have ey:=bR hy;have hg:(eqGuard op xt x y (.string b1) (.string b2)).run P w=.ok () w:=by simp_all [eqGuard]
  cases hb:Nat.beq (dN P xt i d).sc 2 with
  |false=>grind
  |true=>
   rw[hb]at he;simp only[cond_true]at he;cases op <;>simp only[NZ]at he <;>first|exact absurd he.symm hr|subst he
   exact⟨_,hrun ex ey hg _ (by simp[Go.binOp,Op.stringOp,beq_toListBytes,bne]),.v _⟩;exact⟨_,hrun ex ey hg _ (by simp[Go.binOp,Op.stringOp,beq_toListBytes,bne]),.v _⟩
  rename_i b1 b2 _ _;have ex:=bR hx;have ey:=bR hy;have hg:(eqGuard op xt x y (.bool b1) (.bool b2)).run P w=.ok () w:=by simp_all [eqGuard]
  cases hb:Nat.beq (dN P xt i d).sc 3 with
  |false=>grind
  |true=>
   rw[hb]at he;simp only[cond_true]at he;have hc:=ain hb;have hdb:d=.bool:=by cases d <;>simp[dN,b9]at hc <;>rfl
   subst hdb;have heq:(Op.equal xt (.bool b1) (.bool b2)).run P w=.ok (b1==b2) w:=by unfold Op.equal Op.maxDepth;exact run_equalIn_bool' w 9999 xt b1 b2 hd
   cases op <;>simp only[IQ]at he <;>first|exact absurd he.symm hr|subst he
   exact⟨_,hrun ex ey hg _ (by simp[Go.binOp,heq]),.v _⟩;exact⟨_,hrun ex ey hg _ (by simp[Go.binOp,heq,bne]),.v _⟩
  rename_i l m _ _;obtain⟨xs,ex,hxs⟩:=vE hx;obtain⟨ys,ey,hys⟩:=vE hy;unfold eqT YV at he;split at he
  grind
  rename_i c cs hcs;have hcs':RB P xt d=c::cs:=hcs;cases hl:eqL (c::cs) l m with
  |none=>rw[hl]at he;exact absurd he.symm hr
  |some b=>
   rw[hl]at he;have hany:(Op.equal xt (.agg xs) (.agg ys)).run P w=.ok b w/\P.eqGuardType P.depth xt=false:=by
    unfold RB at hcs';split at hcs'
    exact Qu hd hxs hys (by grind) (by grind);rename_i hne;exact KL hd hxs hys (by omega) (by grind)
   obtain⟨q1,q2⟩:=hany;have hg:(eqGuard op xt x y (.agg xs) (.agg ys)).run P w=.ok () w:=run_eqGuard_agg w op xt x y xs ys q2;cases op <;>simp only[eqO]at he <;>first|exact absurd he.symm hr|subst he
   exact⟨_,hrun ex ey hg _ (by simp[Go.binOp,q1]),.v _⟩;exact⟨_,hrun ex ey hg _ (by simp[Go.binOp,q1]),.v _⟩
  grind
 |unOp op xt x=>
  change unS op (val _ x)=r at he;have hx:=hv x;unfold unS at he;split at he
  rename_i b hs;subst he;rw[hs]at hx;have ex:=bR hx;exact⟨_,by simp only[execOp,ex];rfl,.v _⟩;rename_i k n hs;subst he;rw[hs]at hx;have ex:=bR hx;exact⟨_,by simp only[execOp,ex];rfl,.v _⟩;grind
 |convert src dt x=>
  obtain⟨t1,ht1,he⟩:=bS (k:=fun _=>aG ts dt fun ti=>Kn ti.int (val ⟨ts,ops,g,⟨t,h⟩,nx⟩ x)) hts he hr;obtain⟨t2,ht2,he⟩:=bS hts he hr;obtain⟨i1,d1,z1,hi1,hd1,hz1,hq1,rfl⟩:=bJ ht1;obtain⟨i2,d2,z2,hi2,hd2,hz2,hq2,rfl⟩:=bJ ht2;have hx:=hv x;unfold Kn at he;split at he
  rename_i kd k' n hk hs;subst he;rw[hs]at hx;have ex:=bR hx;cases d2 <;>simp[dN]at hk;subst hk;refine⟨_,?_,.v _⟩;simp_all [execOp,Go.convert,run_underlying,Conv.intToInt];grind
 |panic x=>
  change RO (val _ x)=r at he;have hx:=hv x;unfold RO at he;split at he
  rename_i t' y hs;subst he;rw[hs]at hx;have ex:=bR hx;simp only[KO,execOp,ex];rfl;grind
 |makeInterface ty' x=>
  obtain⟨ti,ht,he⟩:=bS (k:=fun ti=>bif ti.iface then .bad else EK ty' (val ⟨ts,ops,g,⟨t,h⟩,nx⟩ x)) hts he hr;obtain⟨i,d,z,hi,hd,hz,hq,rfl⟩:=bJ ht;have hx:=hv x;cases hif:(dN P ty' i d).iface with
  |true=>grind
  |false=>
   simp only[hif,cond_false]at he;unfold EK at he;split at he
   rename_i k n hs;subst he;rw[hs]at hx;have ex:=bR hx;refine⟨_,?_,.v _⟩;simp only[execOp,ex];apply adj;cases d <;>simp[dN]at hif <;>simp[Instr.makeInterface,run_underlying hd];grind
 |makeFunc fn first caps=>
  change Kq fn (df _ first.toList) (df _ caps.toList)=r at he;unfold Kq at he;split at he
  rename_i f;subst he;obtain⟨q1,q2⟩:=wN hv caps;obtain⟨q3,q4⟩:=wN hv first
  exact⟨.func (.func f) (first.map a.eval) (caps.map a.eval),by rfl,.fn q3 q1 q4 q2⟩;grind
 |fieldAddr ty' x f=>
  obtain⟨ti,ht,he⟩:=bS (k:=fun ti=>match nth ti.fields f with|some (o,n,_) =>bif Nat.ble 1 n then Bn o (val ⟨ts,ops,g,⟨t,h⟩,nx⟩ x)else .bad|none=>.bad) hts he hr;cases hf:nth ti.fields f with
  |none=>grind
  |some q=>
   obtain⟨o,n,q⟩:=q;simp only[hf]at he;cases hn:Nat.ble 1 n with
   |false=>grind
   |true=>
    simp only[hn,cond_true]at he;obtain⟨s',rfl⟩:=MS he hr;obtain⟨u,e1,e2⟩:=I7 (P:=P) ht hf (nbl hn) (hv x) he;exact⟨u,by simp_all [execOp],e2⟩
 |field ty' x f=>
  obtain⟨ti,ht,he⟩:=bS (k:=fun ti=>un (nth ti.fields f) (Bk (val ⟨ts,ops,g,⟨t,h⟩,nx⟩ x))) hts he hr;have hsh:∃ s',r=.val s':=by
   unfold un at he;split at he
   obtain⟨s',_,e⟩:=ql he hr;grind;grind
  obtain⟨s',rfl⟩:=hsh;obtain⟨u,e1,e2⟩:=Qf (P:=P) ht (hv x) he;exact⟨u,by simp_all [execOp],e2⟩
 |indexAddr ty' x i=>
  obtain⟨ti,ht,he⟩:=bS (k:=fun ti=>aG ts ti.elem fun te=>i7 ti te.size h (val ⟨ts,ops,g,⟨t,h⟩,nx⟩ x) (val ⟨ts,ops,g,⟨t,h⟩,nx⟩ i)) hts he hr;obtain⟨te,hte,he⟩:=bS hts he hr;obtain⟨c,s',rfl,hc⟩:=Qg (P:=P) hp ht hte (hv x) (hv i) he hr;intro hcc;obtain⟨u,e1,e2⟩:=hc hcc;simp_all [execOp]
 |extract x i=>
  have hx:=hv x;change RM i (val _ x)=r at he;generalize hvx:a.eval x=vx at hx;unfold RM at he;split at he
  rename_i l hs;rw[hs]at hx;obtain⟨s',e1,rfl⟩:=ql he hr;rw[ip]at e1;cases hx with
  |tup q1 q2=>
   rename_i vs;have hlt:i<vs.size:=by grind
   have:=q2 i s' e1;simp only[aiB,ajE hlt,aky]at this;exact⟨vs[i],by simp[execOp,hvx,Instr.extract,hlt],this⟩
  grind
 |makeSlice ty' n c=>
  obtain⟨ti,ht,he⟩:=bS (k:=fun ti=>aG ts ti.elem fun te=>bif ti.isSlice then(bif te.isSlice then aG ts te.elem fun tr=>GR nx te tr (val ⟨ts,ops,g,⟨t,h⟩,nx⟩ n) (val ⟨ts,ops,g,⟨t,h⟩,nx⟩ c)else mkS nx te (val ⟨ts,ops,g,⟨t,h⟩,nx⟩ n) (val ⟨ts,ops,g,⟨t,h⟩,nx⟩ c))else .bad) hts he hr;obtain⟨te,hte,he⟩:=bS hts he hr;cases hs:ti.isSlice with
  |false=>grind
  |true=>
   rw[hs]at he;simp only[cond_true]at he;cases hs2:te.isSlice with
   |true=>
    rw[hs2]at he;obtain⟨tr,htr,he⟩:=bS (k:=fun tr=>GR nx te tr (val ⟨ts,ops,g,⟨t,h⟩,nx⟩ n) (val ⟨ts,ops,g,⟨t,h⟩,nx⟩ c)) hts he hr;exact wO (VV (P:=P) hp hn ht hte hs (hv n) (hv c) he hr)
   |false=>
    rw[hs2]at he;exact wO (Zd (P:=P) hp hn ht hte hs (hv n) (hv c) he hr)
 |slice ty' x lo hi mx=>
  cases mx with
  |some m=>
   obtain⟨ti,ht,he⟩:=bS (k:=fun ti=>aG ts ti.elem fun _=>EN ti (qB ⟨ts,ops,g,⟨t,h⟩,nx⟩ lo) (qB ⟨ts,ops,g,⟨t,h⟩,nx⟩ hi) (val ⟨ts,ops,g,⟨t,h⟩,nx⟩ m) (val ⟨ts,ops,g,⟨t,h⟩,nx⟩ x)) hts he hr;obtain⟨te,hte,he⟩:=bS hts he hr;obtain⟨_,l2⟩:=BE hv lo;obtain⟨l3,_⟩:=BE hv hi;obtain⟨c,s',hc,h1⟩:=Sg (P:=P) ht hte (hv x) (hv m) l2 l3 he hr;rcases hc with⟨rfl,hc⟩ |rfl;obtain⟨u,e1,e2⟩:=h1 hc;exact⟨u,by simp_all [execOp],e2⟩;intro hcc;obtain⟨u,e1,e2⟩:=h1 hcc;simp_all [execOp]
  |none=>
  obtain⟨ti,ht,he⟩:=bS (k:=fun ti=>aG ts ti.elem fun te=>o7 ti te.size nx h (qB ⟨ts,ops,g,⟨t,h⟩,nx⟩ lo) (qB ⟨ts,ops,g,⟨t,h⟩,nx⟩ hi) (Ht hi&&Kp ops) (val ⟨ts,ops,g,⟨t,h⟩,nx⟩ x)) hts he hr;obtain⟨te,hte,he⟩:=bS hts he hr;obtain⟨l1,l2⟩:=BE hv lo;obtain⟨l3,l4⟩:=BE hv hi;rcases Qv (P:=P) hp hn ht hte (hv x) l1 l2 l3 l4 (fun q=>by cases hi with|none=>rfl|some _=>simp[Ht]at q) he hr with⟨c,s',rfl,hc⟩ |he;intro hcc;obtain⟨u,e1,e2⟩:=hc hcc;simp_all [execOp];exact wO he
 |makeMap ty' rs=>
  cases rs with
  |some _=>exact absurd he.symm hr
  |none=>
  obtain⟨ti,ht,he⟩:=bS (k:=fun ti=>mmR nx ti.mkt ti.mvt) hts he hr;unfold mmR at he;split at he
  rename_i kk vk hk hv';subst he;intro _;refine⟨trivial,.map (some w.heap.size),own.set nx ⟨none,.map (some w.heap.size),[],[w.heap.size]⟩,w.alloc (.map #[] 0),.inl (by rfl),?_,?_⟩;have:=Rel.os (F:=F) (own:=own.set nx ⟨none,.map (some w.heap.size),[],[w.heap.size]⟩) (w:=w.alloc (.map #[] 0)) (Own.set_same _ _ _) rfl;exact this;exact wH hp hn (w1:=w) ⟨rfl,rfl,rfl,rfl⟩ _ _ _ rfl fun own' g=>⟨w.heap.size,#[],0,rfl,rfl,nO _ _,⟨rfl,fun i x hx=>by simp[fj]at hx⟩,⟨by simp[j8],fun n hn=>by simp[j8]at hn⟩,trivial⟩;grind
 |lookup ty' m k ok=>
  obtain⟨ti,ht,he⟩:=bS (k:=fun ti=>vt ti h ok (val ⟨ts,ops,g,⟨t,h⟩,nx⟩ k) (val ⟨ts,ops,g,⟨t,h⟩,nx⟩ m)) hts he hr;obtain⟨s',rfl,u,e1,e2⟩:=Si (P:=P) hp ht (hv m) (hv k) he hr;exact⟨u,by simp_all [execOp],e2⟩
 |mapUpdate ty' m k v=>
  obtain⟨ti,ht,he⟩:=bS (k:=fun ti=>DO ti h (val ⟨ts,ops,g,⟨t,h⟩,nx⟩ k) (val ⟨ts,ops,g,⟨t,h⟩,nx⟩ v) (val ⟨ts,ops,g,⟨t,h⟩,nx⟩ m)) hts he hr;obtain⟨ups,rfl,w',e1,e2⟩:=Oh (P:=P) hp ht (hv m) (hv k) (hv v) he hr;exact fun _=>⟨trivial,undef,own,w',.inr ⟨by simp[execOp,e1],rfl⟩,.any _,e2⟩
 |insert ty' m k v=>
  obtain⟨ti,ht,he⟩:=bS (k:=fun ti=>DO ti h (val ⟨ts,ops,g,⟨t,h⟩,nx⟩ k) (val ⟨ts,ops,g,⟨t,h⟩,nx⟩ v) (val ⟨ts,ops,g,⟨t,h⟩,nx⟩ m)) hts he hr;obtain⟨ups,rfl,w',e1,e2⟩:=Oh (P:=P) hp ht (hv m) (hv k) (hv v) he hr;exact fun _=>⟨trivial,undef,own,w',.inr ⟨by simp[execOp,e1],rfl⟩,.any _,e2⟩
 |mapEntry ty' m k=>
  obtain⟨ti,ht,he⟩:=bS (k:=fun ti=>zU ti nx h (val ⟨ts,ops,g,⟨t,h⟩,nx⟩ k) (val ⟨ts,ops,g,⟨t,h⟩,nx⟩ m)) hts he hr;exact wO (VT (P:=P) hp hn ht (hv m) (hv k) he hr)
 |entryStore ty' m s v=>
  obtain⟨ti,ht,he⟩:=bS (k:=fun ti=>IZ ti h (val ⟨ts,ops,g,⟨t,h⟩,nx⟩ v) (val ⟨ts,ops,g,⟨t,h⟩,nx⟩ m) (val ⟨ts,ops,g,⟨t,h⟩,nx⟩ s)) hts he hr;obtain⟨c,ups,rfl,hc⟩:=VU (P:=P) hp ht (hv m) (hv s) (hv v) he hr;intro hcc;obtain⟨w',e1,e2⟩:=hc hcc;exact⟨trivial,undef,own,w',.inr ⟨by simp[execOp,e1],rfl⟩,.any _,e2⟩
 |typeAssert x xt ty' ok=>
  obtain⟨ti,ht,he⟩:=bS (k:=fun ti=>taS ty' ok ti (val ⟨ts,ops,g,⟨t,h⟩,nx⟩ x)) hts he hr;obtain⟨i,d,z,hi,hd,hz,hq,rfl⟩:=bJ ht;have hx:=hv x;unfold taS at he;split at he
  rename_i t' y hs;rw[hs]at hx;have ex:=bR hx;cases hif:(dN P ty' i d).iface with
  |true=>grind
  |false=>
   rw[hif]at he;simp only[cond_false]at he;cases hb:Nat.beq t' ty' with
   |false=>grind
   |true=>
    rw[hb]at he;simp only[cond_true]at he;have htt:=ain hb;have hrr:r=(bif ok then .val (.tup [.v y,.b true])else .val (.v y)):=he.symm;subst htt;have hrun:(Instr.typeAssert (.iface t' y) xt t' ok).run P w=.ok (if ok then .tuple #[y,.bool true]else y) w:=by
     cases d <;>simp[dN]at hif <;>cases ok <;>simp[Instr.typeAssert,run_underlying hd]
    rw[hrr];clear hrr;cases ok with
    |false=>exact⟨y,by simp_all [execOp],.v _⟩
    |true=>
     refine⟨.tuple #[y,.bool true],by simp_all [execOp],.tup rfl fun j s hj=>?_⟩;cases j with
     |zero=>simp at hj;subst hj;exact .v _
     |succ j=>
      cases j with
      |zero=>simp at hj;subst hj;exact .v _|succ j=>simp at hj
  grind
 |call c=>
  obtain⟨callee,args,tys⟩:=c;cases callee with
  |value f=>
   have hf:=hv f;change Bo (df _ args.toList) (val _ f)=r at he;generalize hvf:a.eval f=vf at hf;unfold Bo at he;split at he
   rename_i fid first caps hs
   subst he;rw[hs]at hf;cases hf with
   |fn q1 q2 q3 q4=>
    rename_i us vs;obtain⟨p1,p2⟩:=wN hv args;refine⟨us++args.map a.eval++vs,RelL.app (RelL.app ⟨q1,q3⟩ ⟨p1,p2⟩) ⟨q2,q4⟩,?_⟩;simp[execOp,resolve,hvf,Deferred.ofValue,invoke]
   rename_i id hs;subst he;rw[hs]at hf;obtain⟨hd,h1,rfl,h2⟩:=jo hf;exact⟨hd,h1,args.map a.eval,wN hv args,by simp[execOp,resolve,hvf,QA]⟩;grind
  |invoke f m=>exact absurd he.symm hr
  |builtin b=>
   obtain⟨p1,p2⟩:=wN hv args;have hrun:∀ (b:Builtin),(execOp a.eval { dst:=dst,op:=.call ⟨.builtin b,args,tys⟩,type:=ty,pos:=pos,after:=after,guard:=guard})=builtin b tys ty (args.map fun| .const _=>true|_=>false) (args.map a.eval):=fun b=>rfl;cases b <;>first|(exact absurd he.symm hr) |skip
   ·
    change (match tys.toList with| [t',t2] =>aG ts t' fun ti=>aG ts t2 fun ti2=>aG ts ti.elem fun te=>bif ti.isSlice&&ti2.isSlice then o6 te nx h (df _ args.toList)else .bad|_=>.bad)=r at he;split at he
    rename_i t' t2 htys;obtain⟨ti,ht,he⟩:=bS hts he hr;obtain⟨ti2,ht2,he⟩:=bS hts he hr;obtain⟨te,hte,he⟩:=bS hts he hr;cases hs:ti.isSlice&&ti2.isSlice with
    |false=>grind
    |true=>
     rw[hs]at he;rw[aim]at hs;have htys':tys= #[t',t2]:=by grind
     have:=VQ (P:=P) (ty:=ty) hp hn ht ht2 hte hs.1 hs.2 ⟨p1,p2⟩ he hr;rw[hrun,htys'];simp only[builtin];exact wO this
    grind
   ·
    change (match tys.toList with| [t'] =>aG ts t' fun ti=>aG ts ti.elem fun te=>AD ti te h (df _ args.toList) |_=>.bad)=r at he;split at he
    rename_i t' htys;obtain⟨ti,ht,he⟩:=bS hts he hr;obtain⟨te,hte,he⟩:=bS hts he hr;have htys':tys= #[t']:=by grind
    have:=VW (P:=P) hp ht hte ⟨p1,p2⟩ he hr ty;rw[hrun,htys'];simp only[builtin];exact wO this;grind
   ·
    change (match tys.toList with|t'::_=>aG ts t' fun ti=>AE ti h (df _ args.toList) |_=>.bad)=r at he;split at he
    rename_i t' rest htys;obtain⟨ti,ht,he⟩:=bS hts he hr;have hty0:tys[0]? =some t':=by rw[<-ajS,htys];rfl
    obtain⟨ups,rfl,u,w',e1,e2⟩:=VS (P:=P) hp ht ⟨p1,p2⟩ he hr hty0 ty;intro _;refine⟨trivial,u,own,w',.inl ?_,.any _,e2⟩;simp_all [builtin];grind
   ·
    change (match tys.toList with| [t'] =>aG ts t' fun ti=>wb ti h (df _ args.toList) |_=>.bad)=r at he;split at he
    rename_i t' htys;obtain⟨ti,ht,he⟩:=bS hts he hr;have htys':tys= #[t']:=by grind
    obtain⟨n,hn',hl⟩:=VR (P:=P) (ty:=ty) hp ht ⟨p1,p2⟩ he hr;have hfin:(execOp a.eval { dst:=dst,op:=.call ⟨.builtin .len,args,tys⟩,type:=ty,pos:=pos,after:=after,guard:=guard}).run P w=.ok (.value (.int .i64 n)) w:=by
     simp_all [builtin]
    rcases hn' with⟨c,rfl,hc⟩ |rfl;exact⟨hc,_,hfin,.v _⟩;exact⟨_,hfin,.v _⟩;grind
   change IY (df _ args.toList)=r at he;unfold IY at he;split at he
   rename_i k x k' y hvl;subst he;rw[hvl]at p1 p2;have h0:=p2 0 _ rfl;have h1:=p2 1 _ rfl;generalize hgv:args.map a.eval=vs at *;obtain⟨l⟩:=vs;match l,p1 with
   | [u,v],_=>
    simp at h0 h1;have e0:=bR h0;have e1:=bR h1;subst e0;subst e1;exact⟨_,by simp_all [builtin,Builtin.max_,Builtin.max2],.v _⟩
   grind
   change IX (df _ args.toList)=r at he;unfold IX at he;split at he
   rename_i k x k' y hvl;subst he;rw[hvl]at p1 p2;have h0:=p2 0 _ rfl;have h1:=p2 1 _ rfl;generalize hgv:args.map a.eval=vs at *;obtain⟨l⟩:=vs;match l,p1 with
   | [u,v],_=>
    simp at h0 h1;have e0:=bR h0;have e1:=bR h1;subst e0;subst e1;exact⟨_,by simp_all [builtin,Builtin.min_,Builtin.min2],.v _⟩
   grind
 |range ty' x=>
  obtain⟨ti,ht,he⟩:=bS (k:=fun ti=>EP ti nx h (val ⟨ts,ops,g,⟨t,h⟩,nx⟩ x)) hts he hr;have hvx:=hv x;generalize val ⟨ts,ops,g,⟨t,h⟩,nx⟩ x=sx at he hvx;unfold EP at he;split at he
  rename_i id;obtain⟨hdd,h1,hv1,h2⟩:=jo hvx;cases ho:ar h id with
  |mp kk vk l pend=>
   rw[ho]at he;simp only[VI]at he;cases hc:my kk ti.mkt&&my vk ti.mvt&&noE pend with
   |false=>grind
   |true=>
     rw[hc]at he;simp only[cond_true]at he;simp only[aim]at hc;subst he;obtain⟨kt,e,q1,_⟩:=AM ht (pJ hc.1.1) (pJ hc.1.2);obtain⟨hd',e0,bm,es,clk,m1,m2,m3,m4,m5,_⟩:=hp.at ho rfl;rw[h1]at e0;cases e0;rw[lZ hc.2]at m4;have hes:es.size=l.length:=m4.1;have hidn:id≠nx:=fun e=>by rw[e,hn.none]at h1;cases h1
     intro _;refine⟨trivial,.pointer (some ⟨w.heap.size,0,none⟩),own.set nx ⟨some w.heap.size,undef,stV (j8 es) clk,[w.heap.size]⟩,w.alloc (.mapIter (some bm) clk #[] clk),.inl ?_,.ptr (Own.set_same _ _ _) rfl,?_⟩;have:=run_range_map (P:=P) w ty' kt e bm es clk q1 m3;simp_all [execOp];have s1:=wH hp hn (w1:=w) ⟨rfl,rfl,rfl,rfl⟩ (.mapIter (some bm) clk #[] clk) (.mi (some id) l.length (List.range l.length) none) ⟨some w.heap.size,undef,stV (j8 es) clk,[w.heap.size]⟩ rfl fun own' g=>⟨w.heap.size,rfl,rfl,fun i hi=>by
      cases hi;obtain⟨hd2,k1,k2⟩:=g.ids _ _ h1;have hbl:(j8 es).length=l.length:=by simp[j8,hes]
      refine⟨hd2,bm,#[],clk,j8 es,k1,k2.2.1.trans m1,nO _ _,rfl,hbl,List.nodup_range,fun k=>?_,fun j hj=>by cases hj⟩;grind⟩
     have go:(own.set nx ⟨some w.heap.size,undef,stV (j8 es) clk,[w.heap.size]⟩) id=some hdd:=by grind [Own.set_other]
     have s2:=Hu s1.hp go (.mp kk vk l (some (nx,none))) ⟨bm,es,clk,m1,m2,by grind [ur],m4.carry s1.fr.goes.carries,m5,_,Own.set_same _ _ _,rfl⟩;refine⟨s2.hp,s1.fr.trans s2.fr,fun j hj hd=>?_⟩;have hd2:dg (ar (bM (bM h nx (.mi (some id) l.length (List.range l.length) none)) id (.mp kk vk l (some (nx,none)))) j)=true:=hd;rw[dv,dv]at hd2;by_cases e:j=nx
     subst e;rw[if_neg hidn,if_pos rfl]at hd2;cases hd2;grind [Own.set_other]
  |_=>rw[ho]at he;exact absurd he.symm hr
  grind
 |next it isS=>
  cases isS with
  |true=>exact absurd he.symm hr
  |false=>
   have hvx:=hv it;change RV (val ⟨ts,ops,g,⟨t,h⟩,nx⟩ it)=r at he;generalize val ⟨ts,ops,g,⟨t,h⟩,nx⟩ it=sx at he hvx;unfold RV at he;split at he
   rename_i id;subst he;have key:∀ v,Rel F own w (.ptr id 0) v->∃ hd b,own id=some hd/\hd.p=some b/\v=.pointer (some ⟨b,0,none⟩):=fun v h=>by
    cases h <;>grind
   obtain⟨hd,b,e1,e2,hev⟩:=key _ hvx;refine⟨hd,b,e1,e2,ty,fun u w' hrun=>?_⟩;simp_all [execOp];grind
 |entry it=>
  have hvx:=hv it;change Dm h (val ⟨ts,ops,g,⟨t,h⟩,nx⟩ it)=r at he;generalize val ⟨ts,ops,g,⟨t,h⟩,nx⟩ it=sx at he hvx;unfold Dm at he;split at he
  ·rename_i id;cases ho:ar h id with
   |mi mid n left cur=>
    rw[ho]at he;unfold N6 at he;split at he
    ·rename_i mid' n' left' j hob;cases hob;cases hm:ar h mid' with
     |mp kk vk l pend=>
      rw[hm]at he;cases pend with
      |none=>exact absurd he.symm hr
      |some q=>
      obtain⟨it,q⟩:=q;cases q with
      |some _=>exact absurd he.symm hr
      |none=>
      simp only[RW]at he;cases hbi:Nat.beq it id with
      |false=>grind
      |true=>
       rw[hbi]at he;simp only[cond_true]at he;have hit:=ain hbi;subst he;rintro⟨hn0,hj⟩;have key:∀ v,Rel F own w (.ptr id 0) v->∃ hd b,own id=some hd/\hd.p=some b/\v=.pointer (some ⟨b,0,none⟩):=fun v h=>by
        cases h <;>grind
       obtain⟨hd,b,e1,e2,hev⟩:=key _ hvx;obtain⟨hd',e1',b',p1,p2,p3⟩:=hp.at ho rfl;rw[e1]at e1';cases e1';rw[e2]at p1;cases p1;obtain⟨hdm,bm,seen,c0,ss,k1,k2,k3,k4,k5,k6,k7,k8⟩:=p3 _ rfl;obtain⟨s8,hs8,hs⟩:=k8 j rfl;obtain⟨hdm',k1',bm',es,clk,m1,m2,m3,m4,m5,hd2,t1,t2⟩:=hp.at hm rfl;rw[k1]at k1';cases k1';rw[k2]at m1;cases m1;rw[hit,e1]at t1;cases t1;obtain⟨hc0,hss⟩:=Oa (k4.symm.trans t2);subst hc0;subst hss;have hlt:j<l.length:=by omega
       obtain⟨en,f1,f2,f3,f4⟩:=m4.2 j l[j] (by simp[fj,hlt]);have hen:s8=en.born:=by
        grind [j8]
       subst hen;have hseen:seen=seen.pop.push en.born:=by
        obtain⟨xs,rfl⟩:=Array.back?_eq_some_iff.1 hs;simp
       have hrun:=GY (P:=P) (w:=w) (b:=b) (bm:=bm) (since:=c0) (clock:=c0) (seen:=seen.pop) (es:=es) (e:=en) (by grind) m3 (by grind) m5.1;refine⟨.tuple #[en.key,en.val],by simp[execOp,hev,hrun],.tup rfl fun k s hk=>?_⟩;have hgd:l.getD j (gz kk,gz vk)=l[j]:=by grind
       rw[hgd]at hk;match k,hk with
       |0,hk=>cases hk;exact f3|1,hk=>cases hk;exact f4
     |_=>rw[hm]at he;exact absurd he.symm hr
    grind
   |_=>rw[ho]at he;exact absurd he.symm hr
  grind
 |_=>exact absurd he.symm hr
end
def Dfr (F:Nat->Prop)(B:Bs)(w:World)(ds:List Deferred):Prop:=
 ∃ (ms:List Deferred) (Ds:List Nat),ds=ms++B.ds/\ms.map (·.target)=Ds.map .collected/\Ds.Nodup/\∀ D∈Ds,B.w.heap.size<=D/\F D/\w.heap[D]? =some (.deferred (some []))
theorem Dfr.fr {F:Nat->Prop}{B:Bs}{own own':Own}{w w':World}{ds:List Deferred}(h:Dfr F B w ds)(g:Fr { w:=w,own:=own} own' w')(hap:∀ (id:Nat) (hd:Hd) (b:Nat),own id=some hd->b∈hd.bs->¬F b):Dfr F B w' ds:=by
 obtain⟨ms,Ds,h0,h1,h2,h3⟩:=h;refine⟨ms,Ds,h0,h1,h2,fun D hD=>?_⟩;obtain⟨q1,q2,q3⟩:=h3 D hD;exact⟨q1,q2,by rw[g.block D ⟨qC q3,fun⟨id,hd,e,hb⟩ =>hap id hd D e hb q2⟩];exact q3⟩
theorem Dfr.nil {F:Nat->Prop}{B:Bs}{w:World}:Dfr F B w B.ds:=⟨[],[],rfl,rfl,ajC,fun D h=>by cases h⟩
def pr (ops:List Oper)(j:Nat):Prop:= ∃ (i:Nat) (o:Oper) (b:Bool),ops[i]? =some o/\o.guard=some (j,b)
def SRel (F:Nat->Prop)(ops:List Oper)(E:Nat->Prop)(own:Own)(a:Act)(w:World):SV->Value->Prop
 | .gd j b s,v=>E j/\pr ops j/\(yielded ops.toArray a.tmps j=some b->Rel F own w s v)|s,v=>Rel F own w s v
def GOk (ops:List Oper)(a:Act):Option (Nat×Bool)->Prop
 |none=>True|some g=>yielded ops.toArray a.tmps g.1=some g.2
section
variable {P:Program}{F:Nat->Prop}{own:Own}{w:World}{ts:Tis}
theorem yK {ops:List Oper}{E:Nat->Prop}{a:Act}{s:SV}{v:Value}(h:Rel F own w s v):SRel F ops E own a w s v:=by
 cases s <;>first|exact h|cases h
theorem SRel.mono {ops:List Oper}{E E':Nat->Prop}{a a':Act}{own':Own}{w':World}{s:SV}{v:Value}(h:SRel F ops E own a w s v)(hn:∀ j,E j->E' j)(g:Goes F own w own' w')
  (hy:∀ j b,E j->pr ops j->yielded ops.toArray a'.tmps j=some b->yielded ops.toArray a.tmps j=some b):SRel F ops E' own' a' w' s v:=by
 cases s with
 |gd j b s=>exact⟨hn j h.1,h.2.1,fun q=>(h.2.2 (hy j b h.1 h.2.1 q)).mono g⟩
 |_=>exact Rel.mono g h
theorem nP (ops:List Oper)(tmps:Array Value)(j:Nat)(b:Bool):yielded ops.toArray tmps j=some b↔∃ o d,ops[j]? =some o/\o.dst=some d/\tmps[d]? =some (.bool b):=by
 grind [yielded,Option.bind_eq_some_iff]
structure ROk (N:Nat)(ops:List Oper):Prop where
 dst:∀ (i:Nat) (o:Oper) (d:Nat),ops[i]? =some o->o.dst=some d->d<N
 lt:∀ (i:Nat) (o:Oper) (j:Nat) (b:Bool),ops[i]? =some o->o.guard=some (j,b)->j<i
 uniq:∀ (j:Nat),pr ops j->∃ (o:Oper) (d:Nat),ops[j]? =some o/\o.dst=some d/\∀ (k:Nat) (q:Oper),k≠j->ops[k]? =some q->q.dst≠some d
theorem Sk {N:Nat}{ops:List Oper}(h:R8 N ops=true):ROk N ops:=by
 have h':∀ (i:Nat) (o:Oper),ops[i]? =some o->((match o.dst with|some d=>Nat.blt d N|none=>true)&&D9 ops i o)=true:=by
  intro i o ho;unfold R8 at h;rw[aiL]at h;have:=h i (akr.2 (aiq.1 ho).1);grind [ip]
 refine⟨fun i o d ho hd=>?_,fun i o j b ho hg=>?_,fun j ⟨i,o,b,ho,hg⟩ =>?_⟩;have:=h' i o ho;simp_all;have:=h' i o ho;simp_all [D9];have:=h' i o ho;simp only[D9,hg,aim]at this;obtain⟨_,_,h3⟩:=this;rw[ip]at h3;cases hj:ops[j]? with
 |none=>grind
 |some q=>
  cases hd:q.dst with
  |none=>grind
  |some d=>
   rw[hj]at h3;simp only[ajL,hd,aiL,akr,aiV]at h3;refine⟨q,d,rfl,hd,fun k p hk hp hpd=>?_⟩;have:=h3 k (aiq.1 hp).1;simp_all [ip]
theorem Fa {E:Nat->Prop}{ops:List Oper}{a:Act}(hcl:∀ (k:Nat) (o:Oper) (j:Nat) (b:Bool),E k->ops[k]? =some o->o.guard=some (j,b)->E j)(hg:∀ (k:Nat) (o:Oper) (b:Bool),E k->pr ops k->ops[k]? =some o->yielded ops.toArray a.tmps k=some b->GOk ops a o.guard):
  ∀ (n:Nat) (g:Option (Nat×Bool)) (j:Nat) (b:Bool),(∀ k c,g=some (k,c)->E k/\pr ops k)->
  sr ops n g j b=true->GOk ops a g->yielded ops.toArray a.tmps j=some b
 |0,_,_,_,_,h,_=>by simp[sr]at h
 |n+1,none,_,_,_,h,_=>by simp[sr]at h
 |n+1,some (j',b'),j,b,hm,h,hk=>by
  simp only[sr]at h;cases hc:Nat.beq j' j&&Cu b' b with
  |true=>
   simp only[aim]at hc;have e1:=ain hc.1;have e2:b'=b:=by cases b' <;>cases b <;>simp[Cu]at hc |-
   subst e1;subst e2;exact hk
  |false=>
   simp only[hc,cond_false]at h;have hk':yielded ops.toArray a.tmps j'=some b':=hk;obtain⟨o,d,h1,h2,h3⟩:=(nP _ _ _ _).1 hk';obtain⟨q1,q2⟩:=hm j' b' rfl;rw[ip,h1]at h;refine Fa hcl hg n o.guard j b (fun k c hkc=>?_) h (hg j' o b' q1 q2 h1 hk');exact⟨hcl j' o k c q1 h1 hkc,j',o,c,h1,hkc⟩
structure SInv (F:Nat->Prop)(w0:Bs)(N:Nat)(ops:List Oper)(E:Nat->Prop)(own:Own)(st:St)(a:Act)(w:World):Prop where
 size:a.tmps.size=N
 defers:Dfr F w0 w a.defers
 hp:Hp F own w st.h
 fr:Fr w0 own w
 slots:∀ t,SRel F ops E own a w (lk t st.t) (a.tmps.getD t undef)
 tags:∀ (k:Nat) (o:Oper) (d j:Nat) (b:Bool) (s:SV),E k->pr ops k->ops[k]? =some o->o.dst=some d->lk d st.t=.gd j b s->o.guard=some (j,b)
 closed:∀ (k:Nat) (o:Oper) (j:Nat) (b:Bool),E k->ops[k]? =some o->o.guard=some (j,b)->E j
 chain:∀ (k:Nat) (o:Oper) (b:Bool),E k->pr ops k->ops[k]? =some o->yielded ops.toArray a.tmps k=some b->GOk ops a o.guard
theorem Jf {w0:Bs}{N nx:Nat}{E:Nat->Prop}{ops:List Oper}{st:St}{a:Act}(hi:SInv F w0 N ops E own st a w){g:Option (Nat×Bool)}(hg:GOk ops a g)(hgn:∀ k c,g=some (k,c)->E k/\pr ops k)(x:Operand):
  Rel F own w (val ⟨ts,ops,g,st,nx⟩ x) (a.eval x):=by
 cases x with
 |tmp t=>
  have h:=hi.slots t;show Rel F own w (bu ops g (lk t st.t)) (a.tmps.getD t undef);cases hs:lk t st.t with
  |gd j b s=>
   rw[hs]at h;show Rel F own w (bif sr ops ops.length g j b then s else .any) _;cases hm:sr ops ops.length g j b with
   |true=>exact h.2.2 (Fa hi.closed hi.chain _ g j b hgn hm hg)|false=>exact .any _
  |_=>rw[hs]at h;exact h
 |const v=>exact .v v
 |func f=>exact .fn rfl rfl (fun j s h=>by simp at h) (fun j s h=>by simp at h)
 |global g=>exact .any _
theorem zH {w0:Bs}{N:Nat}{E:Nat->Prop}{ops:List Oper}{st:St}{a:Act}(hi:SInv F w0 N ops E own st a w){g:Option (Nat×Bool)}(hg:GOk ops a g)(hgn:∀ k c,g=some (k,c)->E k/\pr ops k)(c x:Operand)(want:Bool)
  (hc:a.eval c=.bool want):Rel F own w (mw ops g c want (raw st.t x)) (a.eval x):=by
 have hv:=Jf (ts:=fun _=>none) (nx:=0) hi hg hgn x;change Rel F own w (bu ops g (raw st.t x)) (a.eval x)at hv;cases hs:raw st.t x with
 |gd j b s=>
  rw[hs]at hv;show Rel F own w (bif Cu b want&&Hs ops j c then s else bu ops g (.gd j b s)) _;cases hm:Cu b want&&Hs ops j c with
  |false=>exact hv
  |true=>
   simp only[aim]at hm;have e2:b=want:=by cases b <;>cases want <;>simp[Cu]at hm |-
   subst e2;cases x with
   |tmp t=>
    have h:=hi.slots t;have hs':lk t st.t=.gd j b s:=hs;rw[hs']at h;refine h.2.2 ((nP _ _ _ _).2 ?_);have hd:=hm.2;unfold Hs at hd;rw[ip]at hd;split at hd
    rename_i d tc hb;simp only[akz]at hb;obtain⟨o,h1,h2⟩:=hb;have e:=ain hd;subst e;refine⟨o,d,h1,h2,?_⟩;have:a.tmps.getD d undef=.bool b:=hc;simp only[aiB]at this;grind [undef]
    cases hd
   |const v=>simp[raw]at hs|func f=>simp[raw]at hs|global q=>simp[raw]at hs
 |_=>rw[hs]at hv;exact hv
theorem pV (t:List (Nat×SV))(d:Nat)(s:SV)(n:Nat):lk n ((d,s)::t)=if d=n then s else lk n t:=by
 simp_all [lk]
theorem VX (a:Act)(d:Nat)(v:Value)(hd:d<a.tmps.size)(n:Nat):(a.put (some d) v).tmps.getD n undef=if d=n then v else a.tmps.getD n undef:=by
 simp only[Act.put,aiB,ajR];grind
theorem HG {ops:List Oper}{a:Act}{dst:Option Nat}{v:Value}{j:Nat}{q:Oper}{dj:Nat}(hq:ops[j]? =some q)(hd:q.dst=some dj)(hne:dst≠some dj)(b:Bool):
  yielded ops.toArray (a.put dst v).tmps j=some b↔yielded ops.toArray a.tmps j=some b:=by
 rw[nP,nP];have:(a.put dst v).tmps[dj]? =a.tmps[dj]?:=by
  cases dst with
  |none=>rfl
  |some d=>
   simp_all [Act.put]
 grind
theorem SInv.step {w0:Bs}{N n:Nat}{E E':Nat->Prop}{ops:List Oper}{st:St}{a:Act}(hr:ROk N ops)(hE:∀ k,E' k↔E k\/k=n)(hnE:¬E n)(hi:SInv F w0 N ops E own st a w){o:Oper}(ho:ops[n]? =some o){own':Own}{w':World}{h':List Ob}{s:SV}{v:Value}
  (fr1:Fr { w:=w,own:=own} own' w') (hp:Hp F own' w' h')
  (hgE:∀ j b,o.guard=some (j,b)->E j) (hs:SRel F ops E' own' (a.put o.dst v) w' s v) (hch:∀ b:Bool,v=.bool b->GOk ops a o.guard) (htag:∀ j b s',s=.gd j b s'->o.guard=some (j,b)):
  SInv F w0 N ops E' own' (St.put ⟨st.t,h'⟩ o.dst s) (a.put o.dst v) w':=by
 have g:Goes F own w own' w':=fr1.goes;have hfr:=hi.fr.trans fr1;have hyk:∀ j b,E j->pr ops j->(yielded ops.toArray (a.put o.dst v).tmps j=some b↔yielded ops.toArray a.tmps j=some b):=by
  intro j b hj hrf;obtain⟨q,dj,h1,h2,h3⟩:=hr.uniq j hrf;exact HG h1 h2 (h3 n o (fun e=>hnE (e▸hj)) ho) b
 have hcl:∀ (k:Nat) (q:Oper) (j:Nat) (b:Bool),E' k->ops[k]? =some q->q.guard=some (j,b)->E j:=by
  intro k q j b hk hq hqg;rcases(hE k).1 hk with hk|rfl;exact hi.closed k q j b hk hq hqg;grind
 have hgk:∀ (k:Nat) (q:Oper),E' k->ops[k]? =some q->GOk ops a q.guard->GOk ops (a.put o.dst v) q.guard:=by
  intro k q hk hq hgo;cases hqg:q.guard with
  |none=>trivial
  |some g=>
   rw[hqg]at hgo;exact(hyk g.1 g.2 (hcl k q g.1 g.2 hk hq hqg) ⟨k,q,g.2,hq,hqg⟩).2 hgo
 refine⟨?_,?_,?_,hfr,?_,?_,fun k q j b hk hq hqg=>(hE j).2 (.inl (hcl k q j b hk hq hqg)),?_⟩;cases hd:o.dst <;>simp[Act.put,hi.size];have:(a.put o.dst v).defers=a.defers:=by cases hd:o.dst <;>rfl
 rw[this];exact hi.defers.fr fr1 hi.hp.apart;cases hd:o.dst <;>exact hp;intro t;have hold:SRel F ops E' own' (a.put o.dst v) w' (lk t st.t) (a.tmps.getD t undef):=
  (hi.slots t).mono (fun j hj=>(hE j).2 (.inl hj)) g (fun j b hj hrf=>(hyk j b hj hrf).1)
 cases hd:o.dst with
 |none=>
  rw[hd]at hold;exact hold
 |some d=>
  rw[hd]at hold hs;show SRel F ops E' own' _ w' (lk t ((d,s)::st.t)) _;rw[pV,VX _ _ _ (by rw[hi.size];exact hr.dst n o d ho hd)];grind
 intro k q d j b s' hk hrf hq hqd hl;rcases(hE k).1 hk with hkn|hkn;obtain⟨q',d',h1,h2,h3⟩:=hr.uniq k hrf;rw[hq]at h1;cases h1;rw[hqd]at h2;cases h2;have hne:=h3 n o (fun e=>hnE (e▸hkn)) ho;refine hi.tags k q d j b s' hkn hrf hq hqd ?_;cases hd:o.dst with
 |none=>rw[hd]at hl;exact hl
 |some d2=>
  rw[hd]at hl;change lk d ((d2,s)::st.t)=_ at hl;simp_all [pV]
 subst hkn;rw[ho]at hq;cases hq;rw[hqd]at hl;change lk d ((d,s)::st.t)=_ at hl;rw[pV,if_pos rfl]at hl;grind
 intro k q b hk hrf hq hy;rcases(hE k).1 hk with hkn|hkn;exact hgk k q hk hq (hi.chain k q b hkn hrf hq ((hyk k b hkn hrf).1 hy));subst hkn;rw[ho]at hq;cases hq;refine hgk k o hk ho ?_;obtain⟨q,d,h1,h2,h3⟩:=(nP _ _ _ _).1 hy;grind [Act.put]
theorem wP {w0:Bs}{N:Nat}{E:Nat->Prop}{ops:List Oper}{st:St}{a:Act}(hi:SInv F w0 N ops E own st a w){t:List (Nat×SV)}(n:Nat)
  (ht:∀ (j:Nat) (o:Oper) (d:Nat),j<n->E j->pr ops j->ops[j]? =some o->o.dst=some d->lk d t=lk d st.t) (hlt:∀ (i:Nat) (o:Oper) (j:Nat) (b:Bool),ops[i]? =some o->o.guard=some (j,b)->j<i):
  ∀ (m:Nat) (g:Nat×Bool),g.1<n->E g.1->pr ops g.1->GOk ops a (some g)->dV ops t m g
 |0,_,_,_,_,_=>trivial
 |m+1,(j,want),hjn,hj,hrf,hg=>by
  have hg':yielded ops.toArray a.tmps j=some want:=hg;obtain⟨o,d,h1,h2,h3⟩:=(nP _ _ _ _).1 hg';have hs:=hi.slots d;have hv:a.tmps.getD d undef=.bool want:=by simp_all
  rw[hv]at hs;simp only[dV,ip,h1,ajL,h2,ht j o d hjn hj hrf h1 h2];split
  rename_i x hx;rw[hx]at hs;have:=bR (F:=F) (own:=own) (w:=w) hs;grind
  rename_i j' b x hx;rw[hx]at hs;obtain⟨q1,q2,q3⟩:=hs;have htg:=hi.tags j o d j' b _ hj hrf h1 h2 hx;have hgo:=hi.chain j o want hj hrf h1 hg';rw[htg]at hgo;have:=bR (q3 hgo);simp at this;exact⟨wP hi n ht hlt m (j',b) (Nat.lt_trans (hlt j o j' b h1 htg) hjn) q1 q2 hgo,this.symm⟩;trivial
theorem Fb {w0:Bs}{N:Nat}{E:Nat->Prop}{ops:List Oper}{st:St}{a:Act}(hi:SInv F w0 N ops E own st a w){t:List (Nat×SV)}(n:Nat)
  (ht:∀ (j:Nat) (o:Oper) (d:Nat),j<n->E j->pr ops j->ops[j]? =some o->o.dst=some d->lk d t=lk d st.t) (hlt:∀ (i:Nat) (o:Oper) (j:Nat) (b:Bool),ops[i]? =some o->o.guard=some (j,b)->j<i):
  ∀ (m:Nat) (g:Nat×Bool),g.1<n->E g.1->pr ops g.1->¬GOk ops a (some g)->io ops t m g
 |0,_,_,_,_,_=>trivial
 |m+1,(j,want),hjn,hj,hrf,hg=>by
  have hg':¬yielded ops.toArray a.tmps j=some want:=hg;simp only[io,ip];cases ho:ops[j]? with
  |none=>simp
  |some o=>
   cases hd:o.dst with
   |none=>simp[hd]
   |some d=>
    simp only[ajL,hd,ht j o d hjn hj hrf ho hd];have hs:=hi.slots d;have hy:∀ x,a.tmps.getD d undef=.bool x->yielded ops.toArray a.tmps j=some x:=fun x hx=>by
     refine(nP _ _ _ _).2 ⟨o,d,ho,hd,?_⟩;simp only[aiB]at hx;grind [undef]
    split
    rename_i x hx;rw[hx]at hs;have:=bR (F:=F) (own:=own) (w:=w) hs;grind
    rename_i j' b x hx;rw[hx]at hs;obtain⟨q1,q2,q3⟩:=hs;have htg:=hi.tags j o d j' b _ hj hrf ho hd hx;by_cases hgo:GOk ops a (some (j',b))
    right;have:=bR (q3 hgo);grind
    left;exact Fb hi n ht hlt m (j',b) (Nat.lt_trans (hlt j o j' b ho htg) hjn) q1 q2 hgo;trivial
theorem CG {w0:Bs}{N:Nat}{E:Nat->Prop}{ops:List Oper}{st:St}{a:Act}(hi:SInv F w0 N ops E own st a w):
  ∀ (m:Nat) (g:Nat×Bool),E g.1->pr ops g.1->¬GOk ops a (some g)->io ops st.t m g
 |0,_,_,_,_=>trivial
 |m+1,(j,want),hj,hrf,hg=>by
  have hg':¬yielded ops.toArray a.tmps j=some want:=hg;simp only[io,ip];cases ho:ops[j]? with
  |none=>simp
  |some o=>
   cases hd:o.dst with
   |none=>simp[hd]
   |some d=>
    simp only[ajL,hd];have hs:=hi.slots d;have hy:∀ x,a.tmps.getD d undef=.bool x->yielded ops.toArray a.tmps j=some x:=fun x hx=>by
     refine(nP _ _ _ _).2 ⟨o,d,ho,hd,?_⟩;simp only[aiB]at hx;grind [undef]
    split
    rename_i x hx;rw[hx]at hs;have:=bR (F:=F) (own:=own) (w:=w) hs;grind
    rename_i j' b x hx;rw[hx]at hs;obtain⟨q1,q2,q3⟩:=hs;by_cases hgo:GOk ops a (some (j',b))
    right;have:=bR (q3 hgo);grind
    left;exact CG hi m (j',b) q1 q2 hgo;trivial
variable {w0:Bs}{N:Nat}
structure StRel (F:Nat->Prop)(w0:Bs)(N:Nat)(own:Own)(st:St)(a:Act)(w:World):Prop where
 size:a.tmps.size=N
 defers:Dfr F w0 w a.defers
 hp:Hp F own w st.h
 fr:Fr w0 own w
 slots:∀ t,Rel F own w (lk t st.t) (a.tmps.getD t undef)
theorem StRel.start {own:Own}{st:St}{a:Act}{w:World}(h:StRel F w0 N own st a w)(ops:List Oper){E:Nat->Prop}(hE:∀ k,¬E k):SInv F w0 N ops E own st a w:=
 ⟨h.size,h.defers,h.hp,h.fr,fun t=>yK (h.slots t),fun k _ _ _ _ _ hk=>(hE k hk).elim,fun k _ _ _ hk=>(hE k hk).elim,fun k _ _ hk=>(hE k hk).elim⟩
theorem Jg (t:Nat):∀ l:List (Nat×SV),lk t (ungd l)=match lk t l with| .gd .. =>.any|s=>s
 | [] =>rfl
 |(d,s)::r=>by
  have ih:=Jg t r;cases s <;>simp only[ungd,lk] <;>(cases Nat.beq d t <;>simp only[cond_true,cond_false] <;>first|exact ih|rfl)
theorem Oj (h:List Ob)(t:Nat):∀ l:List (Nat×SV),lk t (Mw h l)=R5 h (lk t l)
 | [] =>rfl
 |(d,s)::r=>by
  have ih:=Oj h t r;simp only[Mw,lk];grind
theorem KS:∀ (h:List Ob) (id:Nat),ar (Af h) id=Y9 (ar h id)
 | [],_=>rfl|o::_,0=>rfl|_::r,n+1=>KS r n
theorem HH:∀ h:List Ob,(Af h).length=h.length
 | [] =>rfl
 |_::r=>by simp only[Af,ais,HH r]
theorem Sl {own:Own}{w:World}{h:List Ob}(hp:Hp F own w h){s:SV}{v:Value}(hr:Rel F own w s v):Rel F own w (R5 h s) v:=by
 cases s with
 |os id=>
  simp only[R5];cases ho:ar h id with
  |fwd n=>
   cases n with
   |none=>exact hr
   |some n=>
    simp only[Y8];cases hr with
    |os h1 h2=>
     obtain⟨hd',e0,e⟩:=hp.at ho rfl;rw[h1]at e0;cases e0;obtain⟨hd2,k1,k2,k3⟩:=e n rfl;rw[<-k2]at h2 |-;exact .os k1 h2
  |_=>exact hr
 |_=>exact hr
theorem StRel.cleanF {own:Own}{st:St}{a:Act}{w:World}(h:StRel F w0 N own st a w):StRel F w0 N own (Sx.cleanF st) a w:=by
 unfold Sx.cleanF;cases nM st.h with
 |false=>exact h
 |true=>
  refine⟨h.size,h.defers,⟨fun id hd e=>?_,h.hp.foreign,h.hp.apart,h.hp.inj,h.hp.lt,fun id hd=>?_⟩,h.fr,fun t=>?_⟩;show id< (Af st.h).length;rw[HH];exact h.hp.dom id hd e;change dg (ar (Af st.h) id)=false at hd;change ∃ hd,own id=some hd/\ObRel F own w hd (ar (Af st.h) id);rw[KS]at hd |-;cases ho:ar st.h id with
  |fwd n=>rw[ho]at hd;cases hd|dead=>rw[ho]at hd;cases hd|_=>exact h.hp.at ho rfl
  show Rel F own w (lk t (Mw st.h st.t)) _;rw[Oj];exact Sl h.hp (h.slots t)
theorem StRel.finish {own:Own}{st:St}{a:Act}{w:World}{ops:List Oper}{E:Nat->Prop}(h:SInv F w0 N ops E own st a w):StRel F w0 N own (yA ops st) a w:=by
 unfold yA;refine StRel.cleanF ?_;cases hg:ops.any (·.guard.isSome)with
 |true=>
  refine⟨h.size,h.defers,h.hp,h.fr,fun t=>?_⟩;have hs:=h.slots t;show Rel F own w (lk t (ungd st.t)) _;rw[Jg];cases hl:lk t st.t with
  |gd j b s=>exact .any _|_=>rw[hl]at hs;exact hs
 |false=>
  refine⟨h.size,h.defers,h.hp,h.fr,fun t=>?_⟩;have hs:=h.slots t;show Rel F own w (lk t st.t) _;cases hl:lk t st.t with
  |gd j b s=>
   rw[hl]at hs;obtain⟨_,⟨i,o,b',h1,h2⟩,_⟩:=hs;grind
  |_=>rw[hl]at hs;exact hs
theorem StRel.ungd {own:Own}{st:St}{a:Act}{w:World}{ops:List Oper}{E:Nat->Prop}(h:SInv F w0 N ops E own st a w):StRel F w0 N own ⟨Sx.ungd st.t,st.h⟩ a w:=by
 refine⟨h.size,h.defers,h.hp,h.fr,fun t=>?_⟩;have hs:=h.slots t;show Rel F own w (lk t (Sx.ungd st.t)) _;rw[Jg];cases hl:lk t st.t with
 |gd j b s=>exact .any _|_=>rw[hl]at hs;exact hs
end
inductive PF:SV->Prop where
 |any:PF .any
 |v (x:Value):PF (.v x)
 |e0:PF .e0
 |rc {k:Tag} {l:List k.T}:PF (.rc k l)
 |rs {k:Tag} {l:List k.T}:PF (.rs k l)
 |rm {k k2:Tag} {l:List (k.T×k2.T)}:PF (.rm k k2 l)
 |ep {l:List SV} {off:Nat}:(∀ (j:Nat) (s:SV),l[j]? =some s->PF s)->PF (.ep l off)
 |ls {l:List SV}:(∀ (j:Nat) (s:SV),l[j]? =some s->PF s)->PF (.ls l)
 |agg {l:List SV}:(∀ (j:Nat) (s:SV),l[j]? =some s->PF s)->PF (.agg l)
 |tup {l:List SV}:(∀ (j:Nat) (s:SV),l[j]? =some s->PF s)->PF (.tup l)
 |fn {f:FuncId} {l m:List SV}:(∀ (j:Nat) (s:SV),l[j]? =some s->PF s)->(∀ (j:Nat) (s:SV),m[j]? =some s->PF s)->PF (.fn f l m)
theorem sO {k:Tag}{x:k.T}{j:Nat}{s:SV}(h:(cellsOf k x)[j]? =some s):PF s:=by
 rcases yD h with⟨y,rfl,_⟩ | ⟨k',l',rfl,_⟩ | ⟨k',k2,l',rfl,_⟩ | ⟨f,rfl,_⟩;exact .v y;exact .rs;exact .rm;exact .fn (fun j s hj=>by simp at hj) (fun j s hj=>by simp at hj)
theorem wd (k:Tag)(x:k.T):PF (svT k x):=by
 unfold svT;cases qz k with
 |true=>exact .agg fun j s hj=>sO hj
 |false=>
  simp only[cond_false,ip];cases h:(cellsOf k x)[0]? with
  |none=>exact .any|some s=>exact sO h
theorem iI:∀ (n:Nat) (s:SV),da n s=true->PF s
 |n,.v x,_=>.v x|n,.rs k l,_=>.rs|n,.rm _ _ _,_=>.rm|n,.e0,_=>.e0|n,.rc k l,_=>.rc|n,.any,_=>.any
 |n+1,.ep l _,h=>.ep fun j s hj=>iI n s (by grind [da])
 |n+1,.ls l,h=>.ls fun j s hj=>iI n s (by grind [da])
 |n+1,.agg l,h=>.agg fun j s hj=>iI n s (by grind [da])
 |n+1,.tup l,h=>.tup fun j s hj=>iI n s (by grind [da])
 |n+1,.fn _ l m,h=>.fn (fun j s hj=>iI n s (by simp only[da,aim,aiL]at h;grind)) (fun j s hj=>iI n s (by simp only[da,aim,aiL]at h;grind))
 |0,.ep _ _,h|0,.ls _,h|0,.agg _,h|0,.tup _,h|0,.fn _ _ _,h=>by simp[da]at h
 |0,.ptr _ _,h|0,.os _,h|0,.rp _ _ _ _,h|0,.gr _ _,h|0,.gp _ _ _ _ _,h|0,.nw _ _,h|0,.nm _ _ _,h|0,.ng _ _,h|0,.gd _ _ _,h|0,.vw _ _ _ _,h=>by simp[da]at h
 |_+1,.ptr _ _,h|_+1,.os _,h|_+1,.rp _ _ _ _,h|_+1,.gr _ _,h|_+1,.gp _ _ _ _ _,h|_+1,.nw _ _,h|_+1,.nm _ _ _,h|_+1,.ng _ _,h|_+1,.gd _ _ _,h|_+1,.vw _ _ _ _,h=>by simp[da]at h
section
variable {P:Program}{F F':Nat->Prop}{own own':Own}{w w':World}{ts:Tis}
theorem Rel.over {s:SV}{v:Value}(hr:Rel F own w s v)(hp:PF s)(ho:∀ b,¬cm F own b->¬cm F' own' b):Rel F' own' w s v:=by
 induction hr with
 |any v=>exact .any v|v x=>exact .v x|ptr h1 h2=>cases hp|os h1 h2=>cases hp|e0=>exact .e0|rc _ ih=>exact .rc (ih .rs)|rp h1 h2 h3=>cases hp|gr h1 h2 h3=>cases hp|gp h1 h2 h3=>cases hp|vw h1 h2 h3=>cases hp
 |ep c h1 _ ih=>cases hp with|ep hq=>exact .ep c (fun j s hj=>⟨ho _ (h1 j s hj).1,(h1 j s hj).2⟩) fun j s hj=>ih j s hj (hq j s hj)
 |rs c h0 h0' h1 _ ih=>exact .rs c h0 h0' (fun i x hi j s hj=>⟨ho _ (h1 i x hi j s hj).1,(h1 i x hi j s hj).2⟩) fun i x hi j s hj=>ih i x hi j s hj (sO hj)
 |rs0=>exact .rs0
 |ls c h0 h1 _ ih=>cases hp with|ls hq=>exact .ls c h0 (fun j s hj=>⟨ho _ (h1 j s hj).1,(h1 j s hj).2⟩) fun j s hj=>ih j s hj (hq j s hj)
 |rm ck cv es clock h0 h1 h2 h3 _ _ ih1 ih2=>exact .rm ck cv es clock (ho _ h0) h1 h2 h3 (fun i x hi=>ih1 i x hi (wd _ _)) (fun i x hi=>ih2 i x hi (wd _ _))
 |rm0=>exact .rm0
 |agg h0 _ ih=>cases hp with|agg hq=>exact .agg h0 fun j s hj=>ih j s hj (hq j s hj)
 |tup h0 _ ih=>cases hp with|tup hq=>exact .tup h0 fun j s hj=>ih j s hj (hq j s hj)
 |fn h0 h0' _ _ ih1 ih2=>cases hp with|fn hq hq'=>exact .fn h0 h0' (fun j s hj=>ih1 j s hj (hq j s hj)) fun j s hj=>ih2 j s hj (hq' j s hj)
theorem rQ {s:SV}{v:Value}(h:Rel F cF w s v):PF s:=by
 generalize ho:cF=o at h;induction h with
 |any v=>exact .any|v x=>exact .v x|ptr h1 h2=>subst ho;cases h1|os h1 h2=>subst ho;cases h1|e0=>exact .e0|rc _ _=>exact .rc|rp h1 h2 h3=>subst ho;cases h1|gr h1 h2 h3=>subst ho;cases h1|gp h1 h2 h3=>subst ho;cases h1|vw h1 h2 h3=>subst ho;cases h1
 |ep c h1 _ ih=>exact .ep fun j s hj=>ih j s hj
 |rs c h0 h0' h1 _ ih=>exact .rs|rs0=>exact .rs
 |ls c h0 h1 _ ih=>exact .ls fun j s hj=>ih j s hj
 |rm ck cv es clock h0 h1 h2 h3 _ _ ih1 ih2=>exact .rm|rm0=>exact .rm
 |agg h0 _ ih=>exact .agg fun j s hj=>ih j s hj
 |tup h0 _ ih=>exact .tup fun j s hj=>ih j s hj
 |fn h0 h0' _ _ ih1 ih2=>exact .fn (fun j s hj=>ih1 j s hj) fun j s hj=>ih2 j s hj
theorem iW {α β:Type}{f:α->β}{l:List α}{j:Nat}{s:β}(h:(l.map f)[j]? =some s):∃ x,l[j]? =some x/\f x=s:=by
 simpa using h
theorem qm {b:Nat}(h:¬F b):¬cm F cF b:=by
 rintro (hf| ⟨id,hd,e,_⟩);exact h hf;cases e
theorem Jh {b:Nat}(h:¬cm F own b):¬F b:=fun hf=>h (.inl hf)
theorem MU (hF:∀ b,F' b->F b){k:Tag}{l:List k.T}{v:Value}{bs:List Nat}(hr:RowRel F own w k l v bs)(hbs:∀ b∈bs,¬F b):Rel F' cF w (.rs k l) v:=by
 rcases hr with⟨a,rfl,rfl,_⟩ | ⟨b,o,cap,cs,ty,rfl,rfl,h3,h4,h5,h6,h7⟩;exact .rs0;refine .rs (fun i j=>cs.getD (o+i*ae k+j) undef) h5 h6 (fun i x hi j s hj=>?_) (fun i x hi j s hj=>?_);obtain⟨u,e1,e2⟩:=h7 i x hi j s hj;refine⟨qm fun hf=>hbs b (by simp) (hF _ hf),?_⟩;rw[ez h3,e1];simp_all;obtain⟨u,e1,e2⟩:=h7 i x hi j s hj;have:cs.getD (o+i*ae k+j) undef=u:=by simp_all
 rw[this];exact e2.over (sO hj) fun b hb=>qm fun hf=>hb (.inl (hF _ hf))
theorem Sm {h:List Ob}(hp:Hp F own w h){id sz cap:Nat}{lo hi:Int}{hd:Hd}{a:Option Addr}(h1:own id=some hd)(h2:Y_ hd.v sz lo hi a)(h3:hi.toNat - lo.toNat<=cap):Rel F cF w (VK sz lo hi (ar h id)) (.slice a (hi.toNat - lo.toNat) cap):=by
 cases ho:ar h id with
 |row k l=>
  simp only[VK];cases hb:Nat.beq sz (ae k)with
  |false=>exact .any _
  |true=>
   simp only[cond_true];have hsz:=ain hb;subst hsz;obtain⟨hd',e0,e⟩:=hp.at ho rfl;rw[h1]at e0;cases e0;have hnil:hi.toNat<=lo.toNat->Rel F cF w (.rs k ((l.take hi.toNat).drop lo.toNat)) (.slice a (hi.toNat - lo.toNat) cap):=fun hle=>by
    have e1:(l.take hi.toNat).drop lo.toNat=[]:=akE (by grind);have e2:hi.toNat - lo.toNat=0:=by omega
    rw[e1,e2];exact .rs0
   by_cases hle:hi.toNat<=lo.toNat
   grind
   rcases h2 with h2| ⟨b',o',n',cap',q1,q2,rfl⟩;omega;rcases e with⟨a0,e1,rfl,_⟩ | ⟨b,o,cap0,cs,ty,e1,e2,e3,e4,e5,e6,e7⟩;grind
   rw[q1]at e1;simp only[aja,aip,ajA]at e1;obtain⟨⟨rfl,rfl,_⟩,rfl,rfl⟩:=e1;have hlen:((l.take hi.toNat).drop lo.toNat).length=hi.toNat - lo.toNat:=by grind
   have hget:∀ i x,((l.take hi.toNat).drop lo.toNat)[i]? =some x->l[lo.toNat+i]? =some x:=fun i x hi'=>by
    grind
   have hix:∀ i j,b'.succ=b'.succ->o'+lo.toNat*ae k+i*ae k+j=o'+(lo.toNat+i)*ae k+j:=fun i j _=>by grind
   rw[<-hlen];refine .rs (fun i j=>cs.getD (o'+lo.toNat*ae k+i*ae k+j) undef) (by omega) (by omega) (fun i x hi' j s hj=>?_) (fun i x hi' j s hj=>?_);obtain⟨u,m1,m2⟩:=e7 _ x (hget i x hi') j s hj;refine⟨qm fun hf=>hp.apart id hd b' h1 (by rw[e2];simp) hf,?_⟩;rw[ez e3,hix i j rfl,m1];simp_all;obtain⟨u,m1,m2⟩:=e7 _ x (hget i x hi') j s hj;have:cs.getD (o'+lo.toNat*ae k+i*ae k+j) undef=u:=by simp_all
   rw[this];exact m2.over (sO hj) fun b hb=>qm fun hf=>hb (.inl hf)
 |_=>exact .any _
theorem KT (k:Tag)(l:List (List k.T)):(∃ (k':Tag) (l':List k'.T),Kb k l=.rs k' l'/\l'.length=l.length/\ae k'=1/\∀ (i:Nat) (x:k'.T),l'[i]? =some x->cellsOf k' x=[.rs k (l.getD i [])])\/Kb k l=.any:=by
 cases k <;>first|exact .inr rfl|(left;exact⟨_,_,rfl,rfl,rfl,fun i x hx=>by simp[List.getD,hx,cellsOf]⟩)
theorem VY {h:List Ob}(hp:Hp F own w h){id:Nat}{v:Value}(hr:Rel F own w (.os id) v):Rel F cF w (frz (ar h id)) v:=by
 obtain⟨hd,h1,rfl,h2⟩:=jo hr;cases ho:ar h id with
 |row k l=>
  obtain⟨hd',e0,e⟩:=hp.at ho rfl;rw[h1]at e0;cases e0;exact MU (fun _ h=>h) e fun b hb=>hp.apart id hd b h1 hb
 |fz k l=>
  obtain⟨hd',e0,e⟩:=hp.at ho rfl;rw[h1]at e0;cases e0;exact Rel.over e .rs fun b hb=>qm (Jh hb)
 |mp kk vk l pend=>
  show Rel F cF w (bif noE pend then .rm kk vk l else .any) hd.v;cases hq:noE pend with
  |false=>exact .any _
  |true=>
   obtain⟨hd',e0,b,es,clk,m1,m2,m3,m4,_⟩:=hp.at ho rfl;rw[lZ hq]at m4;rw[h1]at e0;cases e0;rw[m1];have hnb:¬cm F cF b:=qm (hp.apart id hd b h1 (by simp[m2]));have hg:∀ i,es[i]? =some ⟨(es.getD i default).key,(es.getD i default).val,(es.getD i default).born⟩\/es.size<=i:=fun i=>by
    rcases ajk i es.size with hlt|hge <;>simp_all
   refine .rm (fun i=>(es.getD i default).key) (fun i=>(es.getD i default).val) es clk hnb m3 m4.1 (fun i x hi=>?_) (fun i x hi=>?_) (fun i x hi=>?_);obtain⟨e,e1,e2,e3,e4⟩:=m4.2 i x hi;grind
   obtain⟨e,e1,e2,e3,e4⟩:=m4.2 i x hi;have:es.getD i default=e:=by simp_all
   rw[this];exact e3.over (wd _ _) fun b hb=>qm (Jh hb);obtain⟨e,e1,e2,e3,e4⟩:=m4.2 i x hi;have:es.getD i default=e:=by simp_all
   rw[this];exact e4.over (wd _ _) fun b hb=>qm (Jh hb)
 |grid k l=>
  obtain⟨hd',e0,e⟩:=hp.at ho rfl;rw[h1]at e0;cases e0;show Rel F cF w (Kb k l) hd.v;rcases KT k l with⟨k',l',q1,q2,q3,q4⟩ |q;rw[q1];rcases e with⟨e1,rfl,_⟩ | ⟨b,o,cap,cs,ty,bs,e1,e2,e3,e4,e5,e6,e7,e8,e9⟩;have:l'=[]:=ajb (by omega);rw[this,e1];exact .rs0;rw[e1,<-q2];have hvl:=e9.len;refine .rs (fun i j=>hd.vs.getD i undef) (by omega) (by omega) (fun i x hi j s hj=>?_) (fun i x hi j s hj=>?_);have hil:i<hd.vs.length:=by grind
  rw[q4 i x hi]at hj;cases j with
  |succ j=>simp at hj
  |zero=>
   refine⟨qm (hp.apart id hd b h1 (by simp[e2])),?_⟩;rw[q3,ale,ajP,ez e4];grind
  have hil:i<hd.vs.length:=by grind
  rw[q4 i x hi]at hj;cases j with
  |succ j=>simp at hj
  |zero=>
   simp at hj;subst hj;obtain⟨b1,k1,k2,k3,k4⟩:=e9.get (uu (d:=undef) hil);exact MU (fun _ h=>h) k3 fun c hc=>hp.apart id hd c h1 (by grind)
  rw[q];exact .any _
 |_=>exact .any _
theorem RowAt.ep {k:Tag}{l:List k.T}{o b:Nat}{cs:Array Value}{ty:TypeId}(h3:w.heap[b]? =some (.cells cs ty (0,0)))(h7:RowAt F own w k l o cs)(hb:¬F b){i:Nat}(hi:i<l.length)(off:Nat):Rel F cF w (.ep (cellsOf k (l.getD i (gz k))) off) (.pointer (some ⟨b,o+i*ae k+off,none⟩)):=by
 refine .ep (fun j=>cs.getD (o+i*ae k+j) undef) (fun j s hj=>?_) (fun j s hj=>?_);obtain⟨e1,e2⟩:=h7.get hi hj;exact⟨qm hb,by grind [ez]⟩;obtain⟨e1,e2⟩:=h7.get hi hj;exact e2.over (sO hj) fun b hb=>qm (Jh hb)
theorem vG {h:List Ob}(hp:Hp F own w h):∀ (n:Nat) (s:SV) (v:Value),Rel F own w s v->Rel F cF w (fP h n s) v:=by
 have rB:∀ (n:Nat) (s:SV) (v:Value),Rel F own w s v->(∀ l o,s≠ .ep l o)->(∀ l,s≠ .ls l)->(∀ l,s≠ .agg l)->(∀ l,s≠ .tup l)->(∀ f l m,s≠ .fn f l m)->(∀ i o,s≠ .ptr i o)->Rel F cF w (fP h n s) v:=by
  intro n s v hr n1 n2 n3 n4 n5 n6;cases hr with
  |any=>cases n <;>exact .any _|v x=>cases n <;>exact .v _|ptr=>grind|os h1 h2=>cases n <;>exact VY hp (.os h1 h2)|vw h1 h2 h3=>cases n <;>exact Sm hp h1 h2 h3|e0=>cases n <;>exact .e0
  |rc h0=>cases n <;>exact h0.over .rs fun b hb=>qm (Jh hb)
  |rp h1 h2 h3=>
   rename_i szt id off nn cap b o i hd;have key:Rel F cF w (bif Nat.beq szt 0 then .any else VJ szt off i (ar h id)) (.pointer (some ⟨b,o+i.toNat*szt+off,none⟩)):=by
    cases hz:Nat.beq szt 0 with
    |true=>exact .any _
    |false=>
     simp only[cond_false];cases ho:ar h id with
     |row k l=>
      simp only[VJ];cases hb:Nat.beq szt (ae k)with
      |false=>exact .any _
      |true=>
       have hsz:=ain hb;obtain⟨hd',e0,e⟩:=hp.at ho rfl;rw[h1]at e0;cases e0;rcases e with⟨a,e1,_⟩ | ⟨b',o',cap',cs,ty,e1,e2,e3,e4,e5,e6,e7⟩;grind
       rw[h2]at e1;simp only[aja,aip,ajA]at e1;obtain⟨⟨rfl,rfl,_⟩,rfl,rfl⟩:=e1;rw[hsz];exact RowAt.ep e3 e7 (hp.apart id hd b h1 (by simp[e2])) h3 off
     |_=>exact .any _
   cases n <;>exact key
  |gr h1 h2 h3=>
   rename_i id i hd;have key:Rel F cF w (RZ i (ar h id)) v:=by
    cases ho:ar h id with
    |grid k l=>
     obtain⟨hd',e0,e⟩:=hp.at ho rfl;rw[h1]at e0;cases e0;rcases e with⟨_,_,e1,_⟩ | ⟨b,o,cap,cs,ty,bs,e1,e2,e3,e4,e5,e6,e7,e8,e9⟩;grind
     obtain⟨b1,k1,k2,k3,k4⟩:=e9.get h2;exact MU (fun _ h=>h) k3 fun c hc=>hp.apart id hd c h1 (by grind)
    |_=>exact .any _
   cases n <;>exact key
  |gp h1 h2 h3=>
   rename_i szt id off nn cap b o i j hd;have key:Rel F cF w (bif Nat.beq szt 0 then .any else N8 szt off i j (ar h id)) (.pointer (some ⟨b,o+j.toNat*szt+off,none⟩)):=by
    cases hz:Nat.beq szt 0 with
    |true=>exact .any _
    |false=>
     simp only[cond_false];cases ho:ar h id with
     |grid k l=>
      simp only[N8];cases hb:Nat.beq szt (ae k)with
      |false=>exact .any _
      |true=>
       have hsz:=ain hb;obtain⟨hd',e0,e⟩:=hp.at ho rfl;rw[h1]at e0;cases e0;rcases e with⟨_,_,e1,_⟩ | ⟨b',o',cap',cs,ty,bs,e1,e2,e3,e4,e5,e6,e7,e8,e9⟩;grind
       obtain⟨b1,k1,k2,k3,k4⟩:=e9.get h2;rcases k3 with⟨a,m1,_⟩ | ⟨b2,o2,cap2,cs2,ty2,m1,m2,m3,m4,m5,m6,m7⟩;grind
       simp only[aja,aip,ajA]at m1;obtain⟨⟨rfl,rfl,_⟩,rfl,rfl⟩:=m1;rw[hsz];exact RowAt.ep m3 m7 (hp.apart id hd b h1 (by grind)) h3 off
     |_=>exact .any _
   cases n <;>exact key
  |ep=>grind
  |rs c h0 h0' h1 h2=>cases n <;>exact Rel.over (.rs c h0 h0' h1 h2) .rs fun b hb=>qm (Jh hb)
  |rs0=>cases n <;>exact .rs0|ls=>grind
  |rm ck cv es clock h0 h1 h2 h3 h4 h5=>cases n <;>exact Rel.over (.rm ck cv es clock h0 h1 h2 h3 h4 h5) .rm fun b hb=>qm (Jh hb)
  |rm0=>cases n <;>exact .rm0|agg=>grind|tup=>grind|fn=>grind
 intro n;induction n with
 |zero=>
  intro s v hr;cases s <;>first|exact .any _|(refine rB 0 _ _ hr ?_ ?_ ?_ ?_ ?_ ?_ <;>intros <;>(intro e;cases e)) |cases hr
 |succ n ih=>
  intro s v hr;cases s with
  |ptr id off=>
   cases hr with
   |ptr h1 h2=>
    rename_i b hd;simp only[fP];cases ho:ar h id with
    |cells l=>
     simp only[P_];obtain⟨hd',e0,b',cs,ty,e1,e2,e3,e4,e5⟩:=hp.at ho rfl;rw[h1]at e0;cases e0;rw[h2]at e1;cases e1;have:=Rel.ep (F:=F) (own:=cF) (w:=w) (cells:=l.map (fP h n)) (off:=off) (b:=b) (o:=0) (fun j=>cs.getD j undef)
      (fun j s hj=>by
       obtain⟨x,hx,rfl⟩:=iW hj;refine⟨qm (hp.apart _ _ b h1 (by simp[e2])),?_⟩;have hjl:j<cs.size:=by grind
       rw[ai2,ez e3];simp[hjl])
      (fun j s hj=>by
       grind)
     grind
    |_=>exact .any _
  |ep l o=>
   cases hr with
   |ep c h1 h2=>
    simp only[fP];exact .ep c (fun j s hj=>by obtain⟨x,hx,rfl⟩:=iW hj;exact⟨qm (Jh (h1 j x hx).1),(h1 j x hx).2⟩) (fun j s hj=>by grind)
  |ls l=>
   cases hr with
   |ls c h0 h1 h2=>
    simp only[fP];have:=Rel.ls (F:=F) (own:=cF) (w:=w) (l:=l.map (fP h n)) c (by simpa using h0) (fun j s hj=>by obtain⟨x,hx,rfl⟩:=iW hj;exact⟨qm (Jh (h1 j x hx).1),(h1 j x hx).2⟩) (fun j s hj=>by grind);grind
  |agg l=>cases hr with|agg h0 h1=>simp only[fP];exact .agg (by grind) fun j s hj=>by grind
  |tup l=>cases hr with|tup h0 h1=>simp only[fP];exact .tup (by grind) fun j s hj=>by grind
  |fn f l m=>cases hr with|fn h0 h0' h1 h2=>simp only[fP];exact .fn (by grind) (by grind) (fun j s hj=>by grind) fun j s hj=>by grind
  |_=>first|(refine rB (n+1) _ _ hr ?_ ?_ ?_ ?_ ?_ ?_ <;>intros <;>(intro e;cases e)) |cases hr
theorem Sn {h:List Ob}:∀ (n:Nat) (s:SV) (v:Value),PF s->Rel F own w s v->Rel (cm F own) cF w (fP h n s) v:=by
 have hown:∀ b,¬cm F own b->¬cm (cm F own) cF b:=fun b hb=>qm hb;intro n;induction n with
 |zero=>
  intro s v hpf hr;cases hpf with
  |any=>exact .any _|v x=>exact hr.over (.v x) hown|e0=>exact hr.over .e0 hown
  |rc=>cases hr with|rc h0=>exact h0.over .rs hown
  |rs=>exact hr.over .rs hown|rm=>exact hr.over .rm hown|_=>exact .any _
 |succ n ih=>
  intro s v hpf hr;cases hpf with
  |any=>exact .any _|v x=>exact hr.over (.v x) hown|e0=>exact hr.over .e0 hown
  |rc=>cases hr with|rc h0=>exact h0.over .rs hown
  |rs=>exact hr.over .rs hown|rm=>exact hr.over .rm hown
  |ep hq=>
   cases hr with
   |ep c h1 h2=>
    simp only[fP];exact .ep c (fun j s hj=>by grind) (fun j s hj=>by grind)
  |ls hq=>
   cases hr with
   |ls c h0 h1 h2=>
    simp only[fP];rename_i l b o cap;have:=Rel.ls (F:=cm F own) (own:=cF) (w:=w) (l:=l.map (fP h n)) c (by simpa using h0) (fun j s hj=>by obtain⟨x,hx,rfl⟩:=iW hj;exact⟨hown _ (h1 j x hx).1,(h1 j x hx).2⟩) (fun j s hj=>by grind);grind
  |agg hq=>cases hr with|agg h0 h1=>simp only[fP];exact .agg (by grind) fun j s hj=>by grind
  |tup hq=>cases hr with|tup h0 h1=>simp only[fP];exact .tup (by grind) fun j s hj=>by grind
  |fn hq hq'=>cases hr with|fn h0 h0' h1 h2=>simp only[fP];exact .fn (by grind) (by grind) (fun j s hj=>by grind) fun j s hj=>by grind
def cnt (n:Nat):List SV->Nat
 | [] =>0|x::r=>(aS n x).length+cnt n r
def x4 (F:Nat->Prop)(own:Own)(w:World):Nat->Nat->SV->Value->Prop
 |_,b,.nw _ _,v=>∃ hd,own b=some hd/\v=hd.v/\sK v=true|_,b,.nm _ _ _,v=>∃ hd,own b=some hd/\v=hd.v/\sK v=true|_,b,.ng _ _,v=>∃ hd,own b=some hd/\v=hd.v/\sK v=true|n+1,b,.agg l,v=>∃ vs,v=.agg vs/\vs.size=l.length/\∀ (j:Nat) (s:SV),l[j]? =some s->x4 F own w n (b+cnt n (l.take j)) s (vs.getD j undef)|n+1,b,.tup l,v=>∃ vs,v=.tuple vs/\vs.size=l.length/\∀ (j:Nat) (s:SV),l[j]? =some s->x4 F own w n (b+cnt n (l.take j)) s (vs.getD j undef)|_,_,s,v=>Rel (cm F own) cF w s v
theorem AN (f:Nat->SV->SV)(n:Nat):∀ (l:List SV) (b j:Nat) (s:SV),(th f (fun s=>(aS n s).length) b l)[j]? =some s->∃ x,l[j]? =some x/\s=f (b+cnt n (l.take j)) x
 | [],b,j,s,h=>by simp[th]at h
 |x::r,b,0,s,h=>by grind [th,cnt]
 |x::r,b,j+1,s,h=>by
  simp[th]at h;obtain⟨y,h1,h2⟩:=AN f n r _ j s h;grind [cnt]
theorem AO (f:Nat->SV->SV)(c:SV->Nat):∀ (l:List SV) (b:Nat),(th f c b l).length=l.length
 | [],b=>rfl
 |x::r,b=>by simp[th,AO f c r]
theorem HI:∀ (n:Nat) (s:SV) (v:Value),jX n s=true->(∀ k l,s≠ .nw k l)->(∀ k k2 l,s≠ .nm k k2 l)->(∀ k l,s≠ .ng k l)->(∀ l,s≠ .agg l)->(∀ l,s≠ .tup l)->Rel F own w s v->Rel F' own' w' s v:=by
 intro n s v h n1 n2 n3 n4 n5 hr;cases s with
 |v x=>cases hr;exact .v _|nw k l=>grind|nm k k2 l=>grind|ng k l=>grind|agg l=>grind|tup l=>grind|_=>cases n <;>simp[jX]at h
theorem Fc {own2:Own}{m:Nat}(ho:∀ id hd,own' id=some hd->own2 (id+m)=some hd):∀ (n b:Nat) (s:SV) (v:Value),x4 F own' w n b s v->
  ((∀ c,¬cm (cm F own') cF c->¬cm F' own2 c)\/jX n s=true)->Rel F' own2 w (ji n (b+m) s) v:=by
 intro n;induction n with
 |zero=>
  intro b s v h hc;cases s with
  |nw k l=>obtain⟨hd,h1,rfl,h3⟩:=h;exact .os (ho _ _ h1) h3
  |nm k k2 l=>obtain⟨hd,h1,rfl,h3⟩:=h;exact .os (ho _ _ h1) h3
  |ng k l=>obtain⟨hd,h1,rfl,h3⟩:=h;exact .os (ho _ _ h1) h3
  |agg l=>
   have hr:Rel (cm F own') cF w (.agg l) v:=h;rcases hc with hc|hc;exact hr.over (rQ hr) hc;simp[jX]at hc
  |tup l=>
   have hr:Rel (cm F own') cF w (.tup l) v:=h;rcases hc with hc|hc;exact hr.over (rQ hr) hc;simp[jX]at hc
  |_=>
   have hr:Rel (cm F own') cF w _ v:=h;rcases hc with hc|hc;exact hr.over (rQ hr) hc;exact HI _ _ _ hc (by intros;intro e;cases e) (by intros;intro e;cases e) (by intros;intro e;cases e) (by intros;intro e;cases e) (by intros;intro e;cases e) hr
 |succ n ih=>
  intro b s v h hc;cases s with
  |nw k l=>obtain⟨hd,h1,rfl,h3⟩:=h;exact .os (ho _ _ h1) h3
  |nm k k2 l=>obtain⟨hd,h1,rfl,h3⟩:=h;exact .os (ho _ _ h1) h3
  |ng k l=>obtain⟨hd,h1,rfl,h3⟩:=h;exact .os (ho _ _ h1) h3
  |agg l=>
   obtain⟨vs,rfl,h1,h2⟩:=h;refine .agg (by grind [AO]) fun j s hj=>?_;obtain⟨x,e1,rfl⟩:=AN _ n l _ j s hj;grind [jX]
  |tup l=>
   obtain⟨vs,rfl,h1,h2⟩:=h;refine .tup (by grind [AO]) fun j s hj=>?_;obtain⟨x,e1,rfl⟩:=AN _ n l _ j s hj;grind [jX]
  |_=>
   have hr:Rel (cm F own') cF w _ v:=h;rcases hc with hc|hc;exact hr.over (rQ hr) hc;exact HI _ _ _ hc (by intros;intro e;cases e) (by intros;intro e;cases e) (by intros;intro e;cases e) (by intros;intro e;cases e) (by intros;intro e;cases e) hr
theorem Fd:∀ (n:Nat) {s:SV} {v:Value},Rel F own w s v->aS n s=[]
 |0,s,v,h=>by cases h <;>rfl
 |n+1,s,v,h=>by
  cases h <;>first|rfl|skip
  rename_i l vs h0 h1;simp only[aS,akg];intro x hx;obtain⟨j,hj⟩:=aiU hx;exact Fd n (h1 j x hj);rename_i l vs h0 h1;simp only[aS,akg];intro x hx;obtain⟨j,hj⟩:=aiU hx;exact Fd n (h1 j x hj)
theorem So:∀ (n b:Nat) {s:SV} {v:Value},Rel F cF w s v->x4 F cF w n b s v:=by
 have hF:∀ c,¬cm F cF c->¬cm (cm F cF) cF c:=fun c hc=>qm hc;intro n;induction n with
 |zero=>intro b s v h;have:=h.over (rQ h) hF;cases s <;>first|exact this|cases h
 |succ n ih=>
  intro b s v h;have:=h.over (rQ h) hF;cases s with
  |agg l=>cases h with|agg h0 h1=>exact⟨_,rfl,h0,fun j s hj=>ih _ (h1 j s hj)⟩
  |tup l=>cases h with|tup h0 h1=>exact⟨_,rfl,h0,fun j s hj=>ih _ (h1 j s hj)⟩
  |nw=>cases h|nm=>cases h|ng=>cases h|gd=>cases h|_=>exact this
end
def aw:Con->Prop
 | .det p _=>p| .rel _ p _ _=>p| .may _ _ _=>True
def dw:Con->SV->Prop
 | .det _ s,s'=>s'=s| .rel _ _ post out,s'=>∃ r,post r/\s'=out r| .may ok s _,s'=>ok=true/\s'=s
def nQ:Con->Value->Prop
 | .may ok _ x,x'=>ok=false/\x'=x|_,_=>False
section
variable {P:Program}{F F':Nat->Prop}{own own':Own}{w w':World}{ts:Tis}
structure Handed (F:Nat->Prop)(w:World)(own':Own)(w':World)(s:SV)(u:Value):Prop where
 hp:Hp F own' w' (aS 3 s)
 val:x4 F own' w' 3 0 s u
 fresh:∀ (id:Nat) (hd:Hd) (b:Nat),own' id=some hd->b∈hd.bs->w.heap.size<=b
structure FnOk (P:Program)(f:FuncId)(C:List SV->Option Con):Prop where
 enter:∀ l c,C l=some c->∀ (args:Array Value) (w:World),(callFunc f args).run P w=.ok (.enter f args) w
 calls:∀ l c,C l=some c->aw c->∀ (F:Nat->Prop) (w:World) (vs:Array Value),(∀ b,F b->b<w.heap.size)->RelL F cF w l vs->
  Calls P f vs w (fun e w'=>(∃ s u own',dw c s/\e=.returned u/\Handed F w own' w' s u/\Below w.heap.size w w')\/(∃ x,nQ c x/\e=.panicked [{ v:=x,recovered:=false}]/\Below w.heap.size w w'))
def Ji (F:Nat->Prop)(w:World)(own:Own)(n:Nat)(e:Ending)(own':Own)(w':World):Rs->Prop
 | .ret s h=>(∃ u,e=.returned u/\Rel F own' w' s u)/\Hp F own' w' h/\Fr { w:=w,own:=own} own' w'/\n<=h.length| .pan x h=>e=.panicked [{ v:=x,recovered:=false}]/\Hp F own' w' h/\Fr { w:=w,own:=own} own' w'/\n<=h.length
structure FnOkO (P:Program)(f:FuncId)(C:List SV->List Ob->Option HCon):Prop where
 enter:∀ l h c,C l h=some c->∀ (args:Array Value) (w:World),(callFunc f args).run P w=.ok (.enter f args) w
 calls:∀ l h c,C l h=some c->c.pre->∀ (F:Nat->Prop) (own:Own) (w:World) (vs:Array Value),Hp F own w h->RelL F own w l vs->
  Calls P f vs w (fun e w'=>∃ r own',c.post r/\Ji F w own h.length e own' w' (c.res r))
abbrev rd (r:Option Nat):Fence:= { fn:=fun _=>True,depth:=none,alive:=false,round:=r}
def X4 (P:Program)(v:Value)(vs:Array Value)(w:World)(R:Ending->World->Prop):Prop:=
 (∃ f args,(QA v vs).run P w=.ok (.enter f args) w/\Calls P f args w R)\/(∃ l f tmps as bd,(QA v vs).run P w=.ok (.round l f tmps as bd) w/\RoundIn (rd none) 0 P l f tmps as bd w R)
structure YFr (bs bs':List Nat)(w w':World):Prop where
 os:w'.os=w.os
 tape:w'.tape=w.tape
 output:w'.output=w.output
 size:w.heap.size<=w'.heap.size
 block:∀ b,b<w.heap.size->b ∉ bs->w'.heap[b]? =w.heap[b]?
 bs:∀ b∈bs',b<w'.heap.size/\(b∈bs\/w.heap.size<=b)
def YOk (P:Program)(C:List SV->Res->Option YCon):Prop:=
 ∀ l r c,C l r=some c->c.pre->∀ (F:Nat->Prop) (bs:List Nat) (w:World) (vs:Array Value),r.R F bs w->(∀ b,F b->b<w.heap.size)->(∀ b∈bs,b<w.heap.size/\¬F b)->RelL (fun b=>F b\/b∈bs) cF w l vs->
  X4 P r.yv vs w (fun e w'=>∃ a bs',c.post a/\e=.returned (.bool (c.res a).1)/\(c.res a).2.R F bs' w'/\(c.res a).2.yv=r.yv/\YFr bs bs' w w')
structure ConsOk (P:Program)(G:Cons):Prop where
 p:∀ f,FnOk P f (G.p f)
 o:∀ f,FnOkO P f (G.o f)
 y:YOk P G.y
theorem qG {P:Program}{r:Option Nat}{n:Nat}{f:FuncId}{vs:Array Value}{w:World}{R:Ending->World->Prop}(h:Calls P f vs w R):CallsIn (rd r) n P f vs w R:=(callsIn_wide (n:=n)).2 h
theorem pW {P:Program}{n:Nat}{f:FuncId}{vs:Array Value}{w:World}{R:Ending->World->Prop}(h:CallsIn (rd none) n P f vs w R):Calls P f vs w R:=(callsIn_wide (n:=n)).1 h
theorem KU {P:Program}{r:Option Nat}{n l:Nat}{f:FuncId}{tmps:Array Value}{as bd:Code}{w:World}{R:Ending->World->Prop}(h:RoundIn (rd none) 0 P l f tmps as bd w R):RoundIn (rd r) n P l f tmps as bd w R:=
 ⟨trivial,fun c cs hr=>h.2 c cs (by simp[Fence.room])⟩
theorem Jj {k:Tag}(hk:rank k=0){x:k.T}{j:Nat}{s:SV}(h:(cellsOf k x)[j]? =some s):∃ y,s=.v y:=by
 rcases yD h with⟨y,rfl,_⟩ | ⟨k',l,rfl,hr⟩ | ⟨k',k2,l,rfl,hr,_⟩ | ⟨f,rfl,hr⟩ <;>grind
theorem HJ {k:Tag}(hk:rank k=0){x:k.T}{v:Value}(h:Rel F own w (svT k x) v):Rel F' own' w' (svT k x) v:=by
 unfold svT at h |-;cases ha:qz k with
 |true=>
  rw[ha]at h;simp only[cond_true]at h |-;obtain⟨vs,rfl,h1⟩:=vE h;exact .agg h1.1 fun j s hj=>by
   obtain⟨y,rfl⟩:=Jj hk hj;have:=bR (h1.2 j _ hj);rw[this];exact .v y
 |false=>
  rw[ha]at h;simp only[cond_false,ip]at h |-;cases hc:(cellsOf k x)[0]? with
  |none=>exact .any _
  |some s=>
   rw[hc]at h;obtain⟨y,rfl⟩:=Jj hk hc;have:=bR h;rw[this];exact .v y
theorem RowAt.over {k:Tag}{l:List k.T}{o:Nat}{cs:Array Value}(h:RowAt F own w k l o cs)(hc:(∀ b,¬cm F own b->¬cm F' own' b)\/rank k=0):RowAt F' own' w k l o cs:=fun i x hi j s hj=>by
 obtain⟨u,h1,h2⟩:=h i x hi j s hj;refine⟨u,h1,?_⟩;rcases hc with hc|hk;exact h2.over (sO hj) hc;obtain⟨y,rfl⟩:=Jj hk hj;have:=bR h2;rw[this];exact .v y
theorem RowRel.over {k:Tag}{l:List k.T}{v:Value}{bs:List Nat}(h:RowRel F own w k l v bs)(hc:(∀ b,¬cm F own b->¬cm F' own' b)\/rank k=0):RowRel F' own' w k l v bs:=by
 rcases h with h| ⟨b,o,cap,cs,ty,h1,h2,h3,h4,h5,h6,h7⟩;exact .inl h;exact .inr ⟨b,o,cap,cs,ty,h1,h2,h3,h4,h5,h6,h7.over hc⟩
theorem GridIn.over {k:Tag}(hc:(∀ b,¬cm F own b->¬cm F' own' b)\/rank k=0):∀ {l:List (List k.T)} {vs:List Value} {bs:List Nat},GridIn F own w k l vs bs->GridIn F' own' w k l vs bs
 | [],[],bs,h=>h|l::ls,v::vs,bs,⟨b1,b2,h1,h0,h2,h3⟩ =>⟨b1,b2,h1,h0,h2.over hc,h3.over hc⟩| [],_::_,_,h=>h.elim|_::_,[],_,h=>h.elim
def KV (o:Ob):Prop:=(∃ (k:Tag) (l:List k.T),o=.row k l)\/(∃ (k k2:Tag) (l:List (k.T×k2.T)),o=.mp k k2 l none)\/∃ (k:Tag) (l:List (List k.T)),o=.grid k l
def X5 (o:Ob):Prop:=match o with
 | .row k _=>rank k=0| .mp k k2 _ _=>rank k=0/\rank k2=0| .grid k _=>rank k=0|_=>False
theorem ObRel.over {hd:Hd}{o:Ob}(ho:KV o)(h:ObRel F own w hd o)(hc:(∀ b,¬cm F own b->¬cm F' own' b)\/X5 o):ObRel F' own' w hd o:=by
 rcases ho with⟨k,l,rfl⟩ | ⟨k,k2,l,rfl⟩ | ⟨k,l,rfl⟩;exact RowRel.over h hc;obtain⟨b,es,clk,h1,h2,h3,h4,h5,h6⟩:=h;refine⟨b,es,clk,h1,h2,h3,⟨h4.1,fun i x hi=>?_⟩,h5,trivial⟩;obtain⟨e,e1,e2,e3,e4⟩:=h4.2 i x hi;refine⟨e,e1,e2,?_,?_⟩;rcases hc with hc|hk;exact e3.over (wd _ _) hc;exact HJ hk.1 e3;rcases hc with hc|hk;exact e4.over (wd _ _) hc;exact HJ hk.2 e4;rcases h with h| ⟨b,o,cap,cs,ty,bs,h1,h2,h3,h4,h5,h6,h7,h8,h9⟩;exact .inl h;exact .inr ⟨b,o,cap,cs,ty,bs,h1,h2,h3,h4,h5,h6,h7,h8,h9.over hc⟩
theorem AP:∀ (n:Nat) (s:SV) (o:Ob),o∈aS n s->KV o/\(jX n s=true->X5 o):=by
 intro n;induction n with
 |zero=>
  intro s o h;cases s <;>simp[aS]at h <;>subst h;exact⟨.inl ⟨_,_,rfl⟩,fun hs=>ain hs⟩;exact⟨.inr (.inl ⟨_,_,_,rfl⟩),fun hs=>by simp only[jX,aim]at hs;exact⟨ain hs.1,ain hs.2⟩⟩;exact⟨.inr (.inr ⟨_,_,rfl⟩),fun hs=>ain hs⟩
 |succ n ih=>
  intro s o h;cases s with
  |nw k l=>simp[aS]at h;subst h;exact⟨.inl ⟨_,_,rfl⟩,fun hs=>ain hs⟩
  |nm k k2 l=>simp[aS]at h;subst h;exact⟨.inr (.inl ⟨_,_,_,rfl⟩),fun hs=>by simp only[jX,aim]at hs;exact⟨ain hs.1,ain hs.2⟩⟩
  |ng k l=>simp[aS]at h;subst h;exact⟨.inr (.inr ⟨_,_,rfl⟩),fun hs=>ain hs⟩
  |agg l=>
   grind [aS,jX]
  |tup l=>
   grind [aS,jX]
  |_=>simp[aS]at h
theorem KW {h:List Ob}{id:Nat}(hd:dg (ar h id)=false):ar h id∈h:=by
 grind [tV,dg]
theorem uc {α:Type}:∀ {l:List α} {i j:Nat} {x:α},l.Nodup->l[i]? =some x->l[j]? =some x->i=j
 | [],i,j,x,_,h,_=>by simp at h
 |a::r,0,0,x,_,_,_=>rfl
 |a::r,0,j+1,x,hn,h1,h2=>by
  grind
 |a::r,i+1,0,x,hn,h1,h2=>by
  grind
 |a::r,i+1,j+1,x,hn,h1,h2=>by
  simp at h1 h2;rw[ai1]at hn;rw[uc hn.2 h1 h2]
theorem zI {h:List Ob}(hp:Hp F own w h){s:SV}{u:Value}{F1:Nat->Prop}(hF1:(∀ b,F1 b↔cm F own b)\/((∀ b,F1 b↔F b)/\jX 3 s=true))(hb:Below w.heap.size w w')(hh:Handed F1 w own' w' s u):
  ∃ own2,Hp F own2 w' (h++aS 3 s)/\Fr { w:=w,own:=own} own2 w'/\Rel F own2 w' (ji 3 h.length s) u/\∀ id,id<h.length->own2 id=own id:=by
 have hFF:∀ b,F b->F1 b:=fun b hf=>by
  rcases hF1 with h1| ⟨h1,_⟩;exact(h1 b).2 (.inl hf);exact(h1 b).2 hf
 let own2:Own:=fun id=>if id<h.length then own id else own' (id - h.length)
 have o1:∀ id hd,own2 id=some hd->(id<h.length/\own id=some hd)\/(h.length<=id/\own' (id - h.length)=some hd):=fun id hd e=>by
  simp only[own2]at e;split at e
  rename_i hlt;exact .inl ⟨hlt,e⟩;rename_i hlt;exact .inr ⟨by omega,e⟩
 have o2:∀ id hd,own id=some hd->own2 id=some hd:=fun id hd e=>by
  simp only[own2];rw[if_pos (hp.dom id hd e)];exact e
 have o3:∀ id hd,own' id=some hd->own2 (id+h.length)=some hd:=fun id hd e=>by
  simp only[own2];rw[if_neg (by omega),ajQ];exact e
 have fr:Fr { w:=w,own:=own} own2 w':=Fr.of_step (fun id hd e=>⟨hd,o2 id hd e,.refl _⟩) (fun id hd b e hbb=>by
   rcases o1 id hd e with⟨_,e⟩ | ⟨_,e⟩;exact .inl ⟨id,hd,e,hbb⟩;exact .inr (hh.fresh _ hd b e hbb)) (fun b hbl _=>hb.block b hbl) hb.size hb.os hb.tape hb.output
 have g:Goes F own w own2 w':=fr.goes;have hkeep:(∀ b,¬cm F1 own' b->¬cm F own2 b)\/jX 3 s=true:=by
  rcases hF1 with h1| ⟨_,h2⟩;left;rintro b hn (hf| ⟨id,hd,e,hbb⟩);exact hn (.inl (hFF b hf));rcases o1 id hd e with⟨_,e⟩ | ⟨_,e⟩;exact hn (.inl ((h1 b).2 (.inr ⟨id,hd,e,hbb⟩)));exact hn (.inr ⟨_,hd,e,hbb⟩);exact .inr h2
 refine⟨own2,⟨fun id hd e=>?_,fun b hf=>aiy (hp.foreign b hf) hb.size,fun id hd b e hbb=>?_,fun i j hi hj b e1 e2 hb1 hb2=>?_,fun id hd b e hbb=>?_,fun id hdd=>?_⟩,fr,?_,fun id hlt=>by simp only[own2];rw[if_pos hlt]⟩;rcases o1 id hd e with⟨hlt,_⟩ | ⟨hge,e⟩;rw[aiK];omega;have:=hh.hp.dom _ hd e;rw[aiK];omega;rcases o1 id hd e with⟨_,e⟩ | ⟨_,e⟩;exact hp.apart id hd b e hbb;exact fun hf=>hh.hp.apart _ hd b e hbb (hFF b hf);rcases o1 i hi e1 with⟨l1,e1⟩ | ⟨l1,e1⟩ <;>rcases o1 j hj e2 with⟨l2,e2⟩ | ⟨l2,e2⟩;exact hp.inj i j hi hj b e1 e2 hb1 hb2;have:=hp.lt i hi b e1 hb1;have:=hh.fresh _ hj b e2 hb2;omega;have:=hp.lt j hj b e2 hb2;have:=hh.fresh _ hi b e1 hb1;omega;have:=hh.hp.inj _ _ hi hj b e1 e2 hb1 hb2;omega;rcases o1 id hd e with⟨_,e⟩ | ⟨_,e⟩;exact aiy (hp.lt id hd b e hbb) hb.size;exact hh.hp.lt _ hd b e hbb;rw[ut]at hdd |-;by_cases hlt:id<h.length
 rw[if_pos hlt]at hdd |-;obtain⟨hd,e1,e2⟩:=hp.obs id hdd;exact⟨hd,o2 id hd e1,e2.carry g.carries hb.size fun b hbb=>hb.block b (hp.lt id hd b e1 hbb)⟩;rw[if_neg hlt]at hdd |-;obtain⟨hd,e1,e2⟩:=hh.hp.obs _ hdd;obtain⟨q1,q2⟩:=AP 3 s _ (KW hdd);have e3:=o3 _ hd e1;rw[Nat.sub_add_cancel (by omega)]at e3;exact⟨hd,e3,e2.over q1 (hkeep.imp (fun h=>h) q2)⟩;have:=Fc (F':=F) (own2:=own2) (m:=h.length) o3 3 0 s u hh.val (hkeep.imp (fun hk c hc=>hk c fun ho=>hc (.inl ho)) id)
 rwa[ai2]at this
theorem Jk {G:Cons}(hG:ConsOk P G){h:List Ob}(hp:Hp F own w h){f:FuncId}{args:List SV}{vs:Array Value}(hr:RelL F own w args vs){c:Con}(hc:G.p f (args.map (fP h 6))=some c)(hpre:aw c)
  (hres:args.all (da 3)=true\/∀ s,dw c s->jX 3 s=true):
  (callFunc f vs).run P w=.ok (.enter f vs) w/\Calls P f vs w (fun e w'=>(∃ s u own2,dw c s/\e=.returned u/\Hp F own2 w' (h++aS 3 s)/\Fr { w:=w,own:=own} own2 w'/\Rel F own2 w' (ji 3 h.length s) u/\Below w.heap.size w w'/\∀ id,id<h.length->own2 id=own id)\/(∃ x,nQ c x/\e=.panicked [{ v:=x,recovered:=false}]/\Below w.heap.size w w')):=by
 refine⟨(hG.p f).enter _ c hc vs w,?_⟩;rcases hres with hnp|hsc;have hpf:∀ (j:Nat) (s:SV),args[j]? =some s->PF s:=fun j s hj=>by
  rw[aiL]at hnp;exact iI 3 s (hnp s (aiw hj))
 refine((hG.p f).calls _ c hc hpre (cm F own) w vs (fun b hb=>?_) ⟨by simpa using hr.1,fun j s hj=>?_⟩).mono ?_;rcases hb with hf| ⟨id,hd,e,hbb⟩;exact hp.foreign b hf;exact hp.lt id hd b e hbb;obtain⟨x,hx,rfl⟩:=iW hj;exact Sn 6 x _ (hpf j x hx) (hr.2 j x hx);rintro e w' (⟨s,u,own',h1,h2,h3,h4⟩ |hp');obtain⟨own2,q1,q2,q3,q4⟩:=zI hp (.inl fun b=>alh) h4 h3;grind
 grind
 refine((hG.p f).calls _ c hc hpre F w vs hp.foreign ⟨by simpa using hr.1,fun j s hj=>?_⟩).mono ?_;obtain⟨x,hx,rfl⟩:=iW hj;exact vG hp 6 x _ (hr.2 j x hx);rintro e w' (⟨s,u,own',h1,h2,h3,h4⟩ |hp');obtain⟨own2,q1,q2,q3,q4⟩:=zI hp (.inr ⟨fun b=>alh,hsc s h1⟩) h4 h3;grind
 grind
theorem rR:∀ (ids:List Nat) (id k:Nat),AF id ids=some k->ids[k]? =some id
 | [],id,k,h=>by simp[AF]at h
 |a::r,id,k,h=>by
  simp only[AF]at h;cases hb:Nat.beq a id with
  |true=>grind [Nat.eq_of_beq_eq_true]
  |false=>
   rw[hb]at h;simp only[cond_false]at h;cases hp:AF id r with
   |none=>grind|some j=>rw[hp]at h;simp at h;subst h;simpa using rR r id j hp
theorem yL (n:Nat):∀ l:List Nat,DP n l=true↔n∈l
 | [] =>by simp[DP]
 |m::r=>by
  simp only[DP];cases hb:Nat.beq m n with
  |true=>simp_all
  |false=>
   have:m≠n:=fun e=>by simp_all
   simp only[cond_false,yL n r,aiu];grind
theorem sP (h:List Ob):∀ (n:Nat) (todo acc:List Nat),acc.Nodup->(reach h n todo acc).Nodup
 |0,_,acc,hn=>hn|n+1,[],acc,hn=>hn
 |n+1,id::todo,acc,hn=>by
  simp only[reach];cases hm:DP id acc with
  |true=>exact sP h n _ _ hn
  |false=>
   refine sP h n _ _ ?_;rw[ajs];refine⟨hn,by simp,fun a ha b hb=>?_⟩;simp at hb;subst hb;rintro rfl;have:=(yL a acc).2 ha;grind
structure Rn (m:Nat->Option Nat)(own own':Own):Prop where
 ids:∀ i j hd,m i=some j->own i=some hd->∃ hd',own' j=some hd'/\hd.like hd'
theorem Ec {m:Nat->Option Nat}(hm:Rn m own own')(ho:∀ b,¬cm F own b->¬cm F' own' b):∀ (n:Nat) (s:SV) (v:Value),Rel F own w s v->Rel F' own' w (ren m n s) v:=by
 have base:∀ (n:Nat) (s:SV) (v:Value),Rel F own w s v->(∀ l o,s≠ .ep l o)->(∀ l,s≠ .ls l)->(∀ l,s≠ .agg l)->(∀ l,s≠ .tup l)->(∀ f l m,s≠ .fn f l m)->Rel F' own' w (ren m n s) v:=by
  intro n s v hr n1 n2 n3 n4 n5;have hid:∀ {id:Nat} {hd:Hd} {f:Nat->SV} {v:Value},own id=some hd->(∀ j hd',own' j=some hd'->hd.like hd'->Rel F' own' w (f j) v)->Rel F' own' w (Bq f (m id)) v:=by
   intro id hd f v h1 h2;cases hm':m id with
   |none=>exact .any _
   |some j=>
    obtain⟨hd',e1,e2⟩:=hm.ids id j hd hm' h1;exact h2 j hd' e1 e2
  cases hr with
  |any=>cases n <;>exact .any _|v x=>cases n <;>exact .v _
  |ptr h1 h2=>cases n <;>exact hid h1 fun j hd' e1 e2=>.ptr e1 (e2.1.trans h2)
  |os h1 h2=>cases n <;>exact hid h1 fun j hd' e1 e2=>by rw[<-e2.2.1]at h2 |-;exact .os e1 h2
  |e0=>cases n <;>exact .e0|rc h0=>cases n <;>exact .rc (h0.over .rs ho)
  |rp h1 h2 h3=>cases n <;>exact hid h1 fun j hd' e1 e2=>.rp e1 (e2.2.1.trans h2) h3
  |gr h1 h2 h3=>cases n <;>exact hid h1 fun j hd' e1 e2=>.gr e1 (by rw[e2.2.2];exact h2) h3
  |vw h1 h2 h3=>cases n <;>exact hid h1 fun j hd' e1 e2=>.vw e1 (by rw[e2.2.1];exact h2) h3
  |gp h1 h2 h3=>cases n <;>exact hid h1 fun j hd' e1 e2=>.gp e1 (by rw[e2.2.2];exact h2) h3
  |ep=>grind|rs c h0 h0' h1 h2=>cases n <;>exact Rel.over (.rs c h0 h0' h1 h2) .rs ho|rs0=>cases n <;>exact .rs0|ls=>grind|rm ck cv es clock h0 h1 h2 h3 h4 h5=>cases n <;>exact Rel.over (.rm ck cv es clock h0 h1 h2 h3 h4 h5) .rm ho|rm0=>cases n <;>exact .rm0|agg=>grind|tup=>grind|fn=>grind
 intro n;induction n with
 |zero=>
  intro s v hr;cases s <;>first|exact .any _|(refine base 0 _ _ hr ?_ ?_ ?_ ?_ ?_ <;>intros <;>(intro e;cases e)) |cases hr
 |succ n ih=>
  intro s v hr;cases s with
  |ep l o=>
   cases hr with
   |ep c h1 h2=>
    simp only[ren];exact .ep c (fun j s hj=>by grind) (fun j s hj=>by grind)
  |ls l=>
   cases hr with
   |ls c h0 h1 h2=>
    simp only[ren];have:=Rel.ls (F:=F') (own:=own') (w:=w) (l:=l.map (ren m n)) c (by simpa using h0) (fun j s hj=>by obtain⟨x,hx,rfl⟩:=iW hj;exact⟨ho _ (h1 j x hx).1,(h1 j x hx).2⟩) (fun j s hj=>by grind);grind
  |agg l=>cases hr with|agg h0 h1=>simp only[ren];exact .agg (by grind) fun j s hj=>by grind
  |tup l=>cases hr with|tup h0 h1=>simp only[ren];exact .tup (by grind) fun j s hj=>by grind
  |fn f l l2=>cases hr with|fn h0 h0' h1 h2=>simp only[ren];exact .fn (by grind) (by grind) (fun j s hj=>by grind) fun j s hj=>by grind
  |_=>first|(refine base (n+1) _ _ hr ?_ ?_ ?_ ?_ ?_ <;>intros <;>(intro e;cases e)) |cases hr
theorem Fe {m:Nat->Option Nat}(hm:Rn m own own')(ho:∀ b,¬cm F own b->¬cm F' own' b)(ho2:∀ b,b<w.heap.size->cm F' own' b->cm F own b){hd:Hd}{o:Ob}(h:ObRel F own w hd o):ObRel F' own' w hd (xz m o):=by
 cases o with
 |cells l=>obtain⟨b,cs,ty,h1,h2,h3,h4,h5⟩:=h;exact⟨b,cs,ty,h1,h2,h3,by grind,fun j s hj=>by obtain⟨x,hx,rfl⟩:=iW hj;exact Ec hm ho 3 x _ (h5 j x hx)⟩
 |dead=>trivial|row k l=>exact RowRel.over h (.inl ho)
 |mp kk vk l pend=>
  obtain⟨b,es,clk,h1,h2,h3,h4,h5,h6⟩:=h;have h4':MpAt F' own' w kk vk (fj kk vk l pend) es:=⟨h4.1,fun i x hi=>by
   obtain⟨e,e1,e2,e3,e4⟩:=h4.2 i x hi;exact⟨e,e1,e2,e3.over (wd _ _) ho,e4.over (wd _ _) ho⟩⟩
  match pend,h4',h6 with
  |none,h4',_=>exact⟨b,es,clk,h1,h2,h3,h4',h5,trivial⟩
  |some (i,none),h4',h6=>
   show ObRel F' own' w hd (Mt kk vk l none (m i));cases hmi:m i with
   |none=>exact⟨b,es,clk,h1,h2,h3,h4',h5,trivial⟩
   |some k=>
    obtain⟨hd2,t1,t2⟩:=h6;obtain⟨hd3,e1,e2⟩:=hm.ids i k hd2 hmi t1;exact⟨b,es,clk,h1,h2,h3,h4',h5,hd3,e1,e2.2.2.trans t2⟩
  |some (i,some x),h4',h6=>
   show ObRel F' own' w hd (Mt kk vk l (some x) (m i));cases hmi:m i with
   |none=>exact fun j hj=>by cases hj
   |some k=>
    obtain⟨hd2,e,t1,t2,t3⟩:=h6;obtain⟨hd3,e1,e2⟩:=hm.ids i k hd2 hmi t1;exact⟨b,es,clk,h1,h2,h3,h4',h5,hd3,e,e1,t2,e2.2.1.trans t3⟩
 |grid k l=>
  rcases h with h| ⟨b,o,cap,cs,ty,bs,h1,h2,h3,h4,h5,h6,h7,h8,h9⟩;exact .inl h;exact .inr ⟨b,o,cap,cs,ty,bs,h1,h2,h3,h4,h5,h6,h7,h8,h9.over (.inl ho)⟩
 |ab r=>
  refine⟨h.1,r.loc _ _ _ w w h.2 (aio _) (fun b hbl hn=>rfl) (fun b hbl hn=>⟨ho2 b hbl hn.1,hn.2⟩)⟩
 |raw o=>exact h
 |mi mid n left cur=>
  obtain⟨b,h1,h2,h3⟩:=h;refine⟨b,h1,h2,fun j hj=>?_⟩;cases mid with
  |none=>cases hj
  |some i=>
   obtain⟨hdm,bm,seen,c0,ss,k1,k2,k3,k4⟩:=h3 i rfl;obtain⟨hd',e1,e2⟩:=hm.ids i j hdm hj k1;exact⟨hd',bm,seen,c0,ss,e1,e2.2.1.trans k2,k3,k4⟩
 |fwd n=>
  cases n with
  |none=>intro j hj;cases hj
  |some i=>
   intro j hj;obtain⟨hd2,k1,k2,k3⟩:=h i rfl;obtain⟨hd',e1,e2⟩:=hm.ids i j hd2 hj k1;exact⟨hd',e1,e2.2.1.trans k2,k3⟩
 |fz k l=>exact Rel.over h .rs ho
theorem xI (m:Nat->Option Nat)(o:Ob):dg (xz m o)=dg o:=by
 cases o with
 |mp kk vk l p=>
  match p with
  |none=>rfl
  |some (i,q) =>
   show dg (Mt kk vk l q (m i))=false;cases q <;>cases m i <;>rfl
 |_=>rfl
theorem VZ {h:List Ob}(hp:Hp F own w h)(ids:List Nat)(hn:ids.Nodup):
  ∃ (Fm:Nat->Prop) (om:Own),Hp Fm om w (tU h ids)/\(∀ b,cm Fm om b↔cm F own b)/\Rn (inN ids) own om/\(∀ b,Fm b↔(F b\/∃ id hd,id ∉ ids/\own id=some hd/\b∈hd.bs))/\(∀ k id,ids[k]? =some id->om k=own id)/\(∀ k,ids.length<=k->om k=none):=by
 let om:Own:=fun k=>match ids[k]? with|some id=>own id|none=>none
 let Fm:Nat->Prop:=fun b=>F b\/∃ id hd,id ∉ ids/\own id=some hd/\b∈hd.bs
 have o1:∀ k id,ids[k]? =some id->om k=own id:=fun k id e=>by grind
 have o2:∀ k,ids.length<=k->om k=none:=fun k e=>by grind
 have o3:∀ k hd,om k=some hd->∃ id,ids[k]? =some id/\own id=some hd:=fun k hd e=>by
  grind
 have inj:∀ i j id,ids[i]? =some id->ids[j]? =some id->i=j:=fun i j id e1 e2=>uc hn e1 e2;have hB:∀ b,cm Fm om b↔cm F own b:=fun b=>by
  constructor
  rintro ((hf| ⟨id,hd,_,e,hbb⟩) | ⟨k,hd,e,hbb⟩);exact .inl hf;exact .inr ⟨id,hd,e,hbb⟩;obtain⟨id,_,e2⟩:=o3 k hd e;exact .inr ⟨id,hd,e2,hbb⟩;rintro (hf| ⟨id,hd,e,hbb⟩);exact .inl (.inl hf);by_cases hm:id∈ids
  obtain⟨k,hk⟩:=aiU hm;exact .inr ⟨k,hd,by grind,hbb⟩;exact .inl (.inr ⟨id,hd,hm,e,hbb⟩)
 have rn:Rn (inN ids) own om:=⟨fun i j hd hm e=>⟨hd,by rw[o1 j i (rR ids i j hm)];exact e,.refl _⟩⟩;refine⟨Fm,om,⟨fun k hd e=>?_,fun b hf=>?_,fun k hd b e hbb=>?_,fun i j hi hj b e1 e2 hb1 hb2=>?_,fun k hd b e hbb=>?_,fun k hdd=>?_⟩,hB,rn,fun b=>alh,o1,o2⟩;grind [tU]
 rcases hf with hf| ⟨id,hd,_,e,hbb⟩;exact hp.foreign b hf;exact hp.lt id hd b e hbb;obtain⟨id,e1,e2⟩:=o3 k hd e;rintro (hf| ⟨id',hd',hn',e',hbb'⟩);exact hp.apart id hd b e2 hbb hf;exact hn' (hp.inj id' id hd' hd b e' e2 hbb' hbb▸aiw e1);obtain⟨id1,q1,q2⟩:=o3 i hi e1;obtain⟨id2,q3,q4⟩:=o3 j hj e2;have:=hp.inj id1 id2 hi hj b q2 q4 hb1 hb2;grind
 obtain⟨id,e1,e2⟩:=o3 k hd e;exact hp.lt id hd b e2 hbb;have hk:∃ id,ids[k]? =some id/\ar (tU h ids) k=xz (inN ids) (ar h id):=by
  grind [tV,tU,dg]
 obtain⟨id,hid,ho⟩:=hk;rw[ho]at hdd |-;rw[xI]at hdd;obtain⟨hd,e1,e2⟩:=hp.obs id hdd;exact⟨hd,by grind,Fe rn (fun b hb hb2=>hb ((hB b).1 hb2)) (fun b _ hb2=>(hB b).1 hb2) e2⟩
theorem sQ {ids:List Nat}{b k:Nat}(hk:k<ids.length):ids[k]? =some (lP ids b k):=by
 grind [lP,ip]
theorem wQ {ids:List Nat}{b k:Nat}(hk:ids.length<=k):lP ids b k=b+(k - ids.length):=by
 grind [lP,ip]
theorem Sp (ids:List Nat)(b k:Nat):tH ids b k=some (lP ids b k):=by
 grind [tH,lP]
theorem QB {ids:List Nat}(hn:ids.Nodup){b:Nat}(hb:∀ id∈ids,id<b){i j:Nat}(h:lP ids b i=lP ids b j):i=j:=by
 rcases ajk i ids.length with hi|hi <;>rcases ajk j ids.length with hj|hj;have e1:=sQ (b:=b) hi;have e2:=sQ (b:=b) hj;rw[h]at e1;exact uc hn e1 e2;have e1:=hb _ (aiw (sQ (b:=b) hi));grind [wQ];have e1:=hb _ (aiw (sQ (b:=b) hj));grind [wQ];grind [wQ]
theorem Fg {ids:List Nat}(hn:ids.Nodup){b:Nat}(hb:∀ id∈ids,id<b):∀ (os:List Ob) (h:List Ob) (k:Nat),b<=h.length->(ids.length<=k->h.length=b+(k - ids.length))->(k<ids.length->h.length=b)->
  (∀ i,k<=i->i<k+os.length->ar (oU ids b h k os) (lP ids b i)=xz (tH ids b) (ar os (i - k)))/\
  (∀ id,(∀ i,k<=i->i<k+os.length->lP ids b i≠id)->ar (oU ids b h k os) id=ar h id)/\h.length<=(oU ids b h k os).length/\(∀ i,k<=i->i<k+os.length->lP ids b i< (oU ids b h k os).length)
 | [],h,k,_,_,_=>⟨fun i h1 h2=>by grind,fun id _=>rfl,aio _,fun i h1 h2=>by grind⟩
 |o::r,h,k,hlen,hge,hlt=>by
  simp only[oU];have hstep:(bM h (lP ids b k) (xz (tH ids b) o)).length=(if k<ids.length then h.length else h.length+1)/\lP ids b k< (bM h (lP ids b k) (xz (tH ids b) o)).length:=by
   rcases ajk k ids.length with hk|hk;have:=hb _ (aiw (sQ (b:=b) hk));simp_all [ce];simp_all [ce,wQ]
  have hlen':b<=(bM h (lP ids b k) (xz (tH ids b) o)).length:=by grind
  obtain⟨q1,q2,q3,q4⟩:=Fg hn hb r (bM h (lP ids b k) (xz (tH ids b) o)) (k+1) hlen' (fun hk=>by
    grind) (fun hk=>by grind)
  have hne:∀ i,k+1<=i->lP ids b i≠lP ids b k:=fun i hi e=>by have:=QB hn hb e;omega
  refine⟨fun i h1 h2=>?_,fun id hid=>?_,aiR (by grind) q3,fun i h1 h2=>?_⟩;by_cases hik:i=k
  subst hik;rw[q2 _ (fun j hj _=>hne j hj),dv,if_pos rfl,aj2];rfl;rw[q1 i (by omega) (by grind),show i - k=(i - (k+1))+1 by omega];rfl;rw[q2 id (fun i h1 h2=>hid i (by omega) (by simp;omega)),dv,if_neg (hid k (aio _) (by simp))];grind
theorem HK {h:List Ob}(hp:Hp F own w h){ids:List Nat}(hn:ids.Nodup)(hids:∀ id∈ids,id<h.length){Fm:Nat->Prop}{om om':Own}(hpm:Hp Fm om w (tU h ids))(hB:∀ b,cm Fm om b↔cm F own b)(hFm:∀ b,Fm b↔(F b\/∃ id hd,id ∉ ids/\own id=some hd/\b∈hd.bs))(ho1:∀ k id,ids[k]? =some id->om k=own id)
  {h':List Ob} (hp':Hp Fm om' w' h') (fr:Fr { w:=w,own:=om} om' w') (hlen:ids.length<=h'.length):
  ∃ own2,Hp F own2 w' (oU ids h.length h 0 h')/\Fr { w:=w,own:=own} own2 w'/\∀ s v,Rel Fm om' w' s v->Rel F own2 w' (ren (tH ids h.length) 3 s) v:=by
 let L:=h.length
 let own2:Own:=fun id=>match AF id ids with|some k=>om' k|none=>if L<=id then om' (ids.length+(id - L))else own id
 have posN_of:∀ k id,ids[k]? =some id->AF id ids=some k:=by
  intro k id e;cases hpn:AF id ids with
  |none=>
   exfalso;have:∀ (l:List Nat),id∈l->AF id l≠none:=by
    intro l;induction l with
    |nil=>grind
    |cons a r ih=>
     intro hm;simp only[AF];cases hb:Nat.beq a id with
     |true=>simp
     |false=>
      simp only[cond_false];have:id∈r:=by
       rcases aiu.1 hm with e|e <;>simp_all
      simp_all
   grind
  |some j=>
   have e2:=rR ids id j hpn;rw[uc hn e e2]
 have b1:∀ k,own2 (lP ids L k)=om' k:=by
  intro k;rcases ajk k ids.length with hk|hk;have:=posN_of k _ (sQ (b:=L) hk);grind
  have hge:=wQ (b:=L) hk;have hnone:AF (lP ids L k) ids=none:=by
   cases hpn:AF (lP ids L k) ids with
   |none=>rfl
   |some j=>
    have:=hids _ (aiw (rR ids _ j hpn));omega
  grind
 have b2:∀ id hd,own2 id=some hd->(∃ k,id=lP ids L k/\om' k=some hd)\/(id ∉ ids/\id<L/\own id=some hd):=by
  intro id hd e;simp only[own2]at e;split at e
  rename_i k hk;refine .inl ⟨k,?_,e⟩;have h1:=rR ids id k hk;have h2:=sQ (b:=L) (aiq.1 h1).1;grind
  rename_i hk;split at e
  grind [wQ]
  rename_i hge;refine .inr ⟨fun hm=>?_,by omega,e⟩;obtain⟨k,hk'⟩:=aiU hm;grind
 have b3:∀ id hd,id ∉ ids->own id=some hd->own2 id=some hd:=by
  intro id hd hm e;have hlt:=hp.dom id hd e;simp only[own2];split
  rename_i k hk;exact absurd (aiw (rR ids id k hk)) hm;grind
 have hold:∀ b,b<w.heap.size->(¬ ∃ k hd,om k=some hd/\b∈hd.bs)->w'.heap[b]? =w.heap[b]?:=fun b hb hn=>fr.block b ⟨hb,hn⟩;have omB:∀ k hd b,om k=some hd->b∈hd.bs->∃ id hd',own id=some hd'/\b∈hd'.bs:=fun k hd b e hbb=>by
  rcases(hB b).1 (.inr ⟨k,hd,e,hbb⟩)with hf|ho;exact absurd ((hFm b).2 (.inl hf)) (hpm.apart k hd b e hbb);exact ho
 have fr2:Fr { w:=w,own:=own} own2 w':=by
  refine Fr.of_step (fun id hd e=>?_) (fun id hd b e hbb=>?_) (fun b hb hno=>hold b hb fun⟨k,hd,e,hbb⟩ =>hno (omB k hd b e hbb)) fr.size fr.os fr.tape fr.output;by_cases hm:id∈ids
  obtain⟨k,hk⟩:=aiU hm;obtain⟨hd',e1,e2⟩:=fr.ids k hd (by grind);grind
  exact⟨hd,b3 id hd hm e,.refl _⟩;rcases b2 id hd e with⟨k,hk,e⟩ | ⟨_,_,e⟩;rcases ajk b w.heap.size with hlt|hge;left;have hno:=fr.base k hd b e hbb;have:∃ k2 hd2,om k2=some hd2/\b∈hd2.bs:=aiO fun hc=>hno ⟨hlt,hc⟩;grind
  omega;grind
 have rn:Rn (tH ids L) om' own2:=⟨fun i j hd hm e=>⟨hd,by
  grind [Sp],.refl _⟩⟩
 have k1:∀ b,¬cm Fm om' b->¬cm F own2 b:=by
  rintro b hno (hf| ⟨id,hd,e,hbb⟩);exact hno (.inl ((hFm b).2 (.inl hf)));rcases b2 id hd e with⟨k,_,e⟩ | ⟨hm,_,e⟩;exact hno (.inr ⟨k,hd,e,hbb⟩);exact hno (.inl ((hFm b).2 (.inr ⟨id,hd,hm,e,hbb⟩)))
 have k2:∀ b,cm F own2 b->cm Fm om' b:=by
  grind
 obtain⟨q1,q2,q3,q4⟩:=Fg hn hids h' h 0 (aio _) (fun hk=>by
   omega) (fun _=>rfl)
 refine⟨own2,⟨fun id hd e=>?_,fun b hf=>aiy (hp.foreign b hf) fr.size,fun id hd b e hbb=>?_,fun i j hi hj b e1 e2 hb1 hb2=>?_,fun id hd b e hbb=>?_,fun id hdd=>?_⟩,fr2,fun s v hr=>Ec rn k1 3 s v hr⟩;rcases b2 id hd e with⟨k,hk,e⟩ | ⟨_,hlt,_⟩;rw[hk];exact q4 k (aiX _) (by have:=hp'.dom k hd e;omega);omega;rcases b2 id hd e with⟨k,_,e⟩ | ⟨_,_,e⟩;exact fun hf=>hp'.apart k hd b e hbb ((hFm b).2 (.inl hf));exact hp.apart id hd b e hbb;rcases b2 i hi e1 with⟨ki,hki,e1⟩ | ⟨m1,_,e1⟩ <;>rcases b2 j hj e2 with⟨kj,hkj,e2⟩ | ⟨m2,_,e2⟩;rw[hki,hkj,hp'.inj ki kj hi hj b e1 e2 hb1 hb2];exact absurd ((hFm b).2 (.inr ⟨j,hj,m2,e2,hb2⟩)) (hp'.apart ki hi b e1 hb1);exact absurd ((hFm b).2 (.inr ⟨i,hi,m1,e1,hb1⟩)) (hp'.apart kj hj b e2 hb2);exact hp.inj i j hi hj b e1 e2 hb1 hb2;rcases b2 id hd e with⟨k,_,e⟩ | ⟨_,_,e⟩;exact hp'.lt k hd b e hbb;exact aiy (hp.lt id hd b e hbb) fr.size;by_cases hk:∃ k,k<h'.length/\lP ids L k=id
 obtain⟨k,hkl,rfl⟩:=hk;rw[q1 k (aiX _) (by omega),Nat.sub_zero]at hdd |-;rw[xI]at hdd;obtain⟨hd,e1,e2⟩:=hp'.obs k hdd;exact⟨hd,by grind,Fe rn k1 (fun b _=>k2 b) e2⟩;have hno:∀ i,0<=i->i<0+h'.length->lP ids L i≠id:=fun i _ hi e=>hk ⟨i,by omega,e⟩;rw[q2 id hno]at hdd |-;obtain⟨hd,e1,e2⟩:=hp.obs id hdd;have hm:id ∉ ids:=fun hm=>by
  obtain⟨k,hk'⟩:=aiU hm;have hkl:=(aiq.1 hk').1;have:=sQ (b:=L) hkl;grind
 refine⟨hd,b3 id hd hm e1,e2.carry (fr2.goes (F:=F)).carries fr.size fun b hbb=>hold b (hp.lt id hd b e1 hbb) ?_⟩;rintro⟨k,hd',e',hb'⟩;exact hpm.apart k hd' b e' hb' ((hFm b).2 (.inr ⟨id,hd,hm,e1,hbb⟩))
theorem KX {G:Cons}(hG:ConsOk P G){h:List Ob}(hp:Hp F own w h){f:FuncId}{args:List SV}{vs:Array Value}(hr:RelL F own w args vs){ids:List Nat}(hn:ids.Nodup){c:HCon}(hc:G.o f (args.map (ren (inN ids) 6)) (tU h ids)=some c)(hpre:c.pre)(hids:∀ id∈ids,id<h.length):
  (callFunc f vs).run P w=.ok (.enter f vs) w/\Calls P f vs w (fun e w'=>∃ r own2,c.post r/\match c.res r with
   | .ret s h'=>(∃ u,e=.returned u/\Rel F own2 w' (ren (tH ids h.length) 3 s) u)/\Hp F own2 w' (oU ids h.length h 0 h')/\Fr { w:=w,own:=own} own2 w'
   | .pan x h'=>e=.panicked [{ v:=x,recovered:=false}]/\Hp F own2 w' (oU ids h.length h 0 h')/\Fr { w:=w,own:=own} own2 w'):=by
 refine⟨(hG.o f).enter _ _ c hc vs w,?_⟩;obtain⟨Fm,om,hpm,hB,rn,hFm,o1,o2⟩:=VZ hp ids hn;refine((hG.o f).calls _ _ c hc hpre Fm om w vs hpm ⟨by simpa using hr.1,fun j s hj=>?_⟩).mono ?_;obtain⟨x,hx,rfl⟩:=iW hj;exact Ec rn (fun b hb hb2=>hb ((hB b).1 hb2)) 6 x _ (hr.2 j x hx);rintro e w' ⟨r,own',h1,h2⟩;have hml:(tU h ids).length=ids.length:=by simp[tU]
 cases hres:c.res r with
 |ret s h'=>
  rw[hres]at h2;obtain⟨⟨u,q1,q2⟩,q3,q4,q5⟩:=h2;obtain⟨own2,k1,k2,k3⟩:=HK hp hn hids hpm hB hFm o1 q3 q4 (by omega);exact⟨r,own2,h1,by grind⟩
 |pan x h'=>
  rw[hres]at h2;obtain⟨q1,q3,q4,q5⟩:=h2;obtain⟨own2,k1,k2,k3⟩:=HK hp hn hids hpm hB hFm o1 q3 q4 (by omega);exact⟨r,own2,h1,by grind⟩
theorem KY {G:Cons}(hG:ConsOk P G){h:List Ob}(hp:Hp F own w h){id:Nat}{hd:Hd}(hid:own id=some hd){args:List SV}{vs:Array Value}(hr:RelL F own w args vs)(hnp:args.all (da 3)=true){r:Res}(ho:ar h id=.ab r){c:YCon}(hc:G.y args r=some c)(hpre:c.pre):
  X4 P hd.v vs w (fun e w'=>∃ a own2,c.post a/\e=.returned (.bool (c.res a).1)/\Hp F own2 w' (bM h id (.ab (c.res a).2))/\Fr { w:=w,own:=own} own2 w'):=by
 obtain⟨hd',e0,hv,hR⟩:=hp.at ho rfl;rw[hid]at e0;cases e0;have hlt:=hp.dom id hd hid;let F1:Nat->Prop:=fun b=>cm F own b/\b ∉ hd.bs
 have hF1:∀ b,F1 b->b<w.heap.size:=by
  rintro b ⟨hf| ⟨id',hd',e,hbb⟩,_⟩;exact hp.foreign b hf;exact hp.lt id' hd' b e hbb
 have hy:=hG.y args r c hc hpre F1 hd.bs w vs hR hF1 (fun b hb=>⟨hp.lt id hd b hid hb,fun hf=>hf.2 hb⟩) ⟨hr.1,fun j s hj=>by
  rw[aiL]at hnp;refine(hr.2 j s hj).over (iI 3 s (hnp s (aiw hj))) fun b hb=>qm ?_;rintro (hf|hbb);exact hb hf.1;exact hb (.inr ⟨id,hd,hid,hbb⟩)⟩
 rw[hv];have mono:∀ (e:Ending) (w':World),(∃ a bs',c.post a/\e=.returned (.bool (c.res a).1)/\(c.res a).2.R F1 bs' w'/\(c.res a).2.yv=r.yv/\YFr hd.bs bs' w w')->∃ a own2,c.post a/\e=.returned (.bool (c.res a).1)/\Hp F own2 w' (bM h id (.ab (c.res a).2))/\Fr { w:=w,own:=own} own2 w':=by
  rintro e w' ⟨a,bs',h1,h2,h3,h4,h5⟩;let hd2:Hd:= { hd with bs:=bs'}
  have fr:Fr { w:=w,own:=own} (own.set id hd2) w':=Fr.of_step (fun i hi e=>by
    by_cases hii:i=id
    subst hii;rw[hid]at e;cases e;exact⟨hd2,Own.set_same _ _ _,rfl,rfl,rfl⟩;exact⟨hi,by grind [Own.set_other],.refl _⟩) (fun i hi b e hbb=>by
    by_cases hii:i=id
    subst hii;rw[Own.set_same]at e;cases e;rcases(h5.bs b hbb).2 with hb|hb <;>grind;grind [Own.set_other]) (fun b hb hn=>h5.block b hb fun hm=>hn ⟨id,hd,hid,hm⟩) h5.size h5.os h5.tape h5.output
  refine⟨a,own.set id hd2,h1,h2,hp.upd fr.goes (· =id) (by rw[ce,if_pos hlt];omega) (fun i hi=>⟨Own.set_other _ _ hi,by rw[dv,if_neg (fun e=>hi e.symm)],fun hd' b e hbb=>h5.block b (hp.lt i hd' b e hbb) fun hm=>hi (hp.inj i id hd' hd b e hid hbb hm)⟩) (fun i hd' hi e=>?_) (fun i hi _=>?_),fr⟩;subst hi;rw[Own.set_same]at e;cases e;refine⟨by simp_all [ce],fun b hb=>⟨(h5.bs b hb).1,fun hf=>?_,fun j hj hne e hbj=>?_⟩⟩;rcases(h5.bs b hb).2 with hm|hge;exact hp.apart _ hd b hid hm hf;have:=hp.foreign b hf;omega;rw[Own.set_other _ _ hne]at e;rcases(h5.bs b hb).2 with hm|hge;exact hne (hp.inj j _ hj hd b e hid hbj hm);have:=hp.lt j hj b e hbj;omega;subst hi;refine⟨hd2,Own.set_same _ _ _,?_⟩;rw[dv,if_pos rfl];refine⟨hv.trans h4.symm,(c.res a).2.loc _ _ _ w' w' h3 (aio _) (fun _ _ _=>rfl) ?_⟩;rintro b _ ⟨hf| ⟨j,hj,e,hbj⟩,hnb⟩;exact⟨.inl hf,fun hm=>hp.apart _ hd b hid hm hf⟩;by_cases hji:j=i
  grind [Own.set_same]
  rw[Own.set_other _ _ hji]at e;exact⟨.inr ⟨j,hj,e,hbj⟩,fun hm=>hji (hp.inj j _ hj hd b e hid hbj hm)⟩
 rcases hy with⟨f,as,q1,q2⟩ | ⟨l,f,tmps,as,bd,q1,q2,q3⟩;exact .inl ⟨f,as,q1,q2.mono mono⟩;exact .inr ⟨l,f,tmps,as,bd,q1,q2,fun cc cs hro=>by
  obtain⟨e,w',hR',rest⟩:=q3 cc cs hro;exact⟨e,w',mono e w' hR',rest⟩⟩
end
end Go.Sx
end
